/- Walks. -/
import Derived.Test.YtbbnampdgefljaaDoorRows
import Derived.Test.YtbbnampdgefljaaDoorW6
import Derived.Test.YtbbnampdgefljaaDoorXMap
set_option linter.unusedVariables false
set_option linter.unusedSimpArgs false
namespace Go.Proofs.YtbbnampdgefljaaDoor
open Go.Lw Go.G14
theorem readC (l : List UInt8) (gs ga gr gi : Nat) (hl : l.length ≤ 1024) (o0 : 0 < gs) (o1 : gs < ga) (o2 : ga < gr) (o3 : gr < gi) : ∀ F, RowC l gs ga gr gi F ∧ ItemC l gs ga gr gi F := by
  intro F
  induction F using Nat.strongRecOn with
  | _ F ih => exact ⟨row_step l gs ga gr gi F hl o0 o1 o2 o3 fun m hm => (ih m hm).2, item_step l gs ga gr gi F hl o0 o1 o2 o3 fun m hm => (ih m hm).1⟩
set_option maxHeartbeats 1000000 in
theorem read_ok (l : List UInt8) (w0 : World) (hl : l.length ≤ 1024) (hy : Sym w0) : Rets Tryd.prog 25 #[S l] w0 fun v w' => ∃ (x : Value) (b : Bool), v = .tuple #[x, .bool b] ∧ Fr [] w0 w' ∧ (b = true → ∃ xs, rowS l = some xs ∧ xs.length ≤ 17 ∧ Own encSt 36 w0.heap.size w' x xs) ∧ (b = false → rowS l = none) := by
  have h00 := hy.pos
  refine enter [(0, S l)] Tryd.func25 rfl Tryd.ntmps25 rfl (.cons rfl .nil) ?_
  have hf := Fr.refl [] w0
  intro a h
  refine wp_seq ?_
  refine wp_region_lit ?_
  refine st_box h rfl rfl rfl ?_; clear h a; intro w1 hb1 hq hz a h
  obtain ⟨g_1, hg⟩ : ∃ g, g = w0.heap.size := ⟨_, rfl⟩; rw [← hg] at hb1 h hz
  have hl1 : w0.heap.size ≤ g_1 := by have := hf.size; omega
  replace hf := hf.next hq
  replace hy := hy.ext hq
  clear hq hz hg
  refine st_assign h rfl rfl ?_; clear h a; intro a h
  refine st_assign h rfl rfl ?_; clear h a; intro a h
  replace h : Ag a 24 [(1, _)] := h.sub (.cons rfl .nil)
  refine wpList_nil (norm_then ?_)
  refine wp_seq ?_
  refine wp_region_lit ?_
  refine st_alloc h zv3 rfl rfl ?_; clear h a; intro w2 hb4 hq hz a h
  obtain ⟨g_4, hg⟩ : ∃ g, g = w1.heap.size := ⟨_, rfl⟩; rw [← hg] at hb4 h hz
  have hl4 : w0.heap.size ≤ g_4 := by have := hf.size; omega
  have hn_1_4 : g_1 < g_4 := by have := hb1.lt; omega
  replace hf := hf.next hq
  replace hy := hy.ext hq
  replace hb1 := hb1.ext hq
  clear hq hz hg
  refine st_storeB0 h rfl rfl hb4 rfl rfl sz3 ?_; clear h a; intro w3 hbn hq hz a h
  replace hf := hf.step hq (by first | (simp; done) | (simp; omega))
  replace hy := hy.fr hq (by first | (simp; done) | (simp; omega) | (simp [blks]; done) | (simp [blks]; omega))
  replace hb1 := hb1.fr hq (by first | (simp; done) | (simp; omega) | (simp [blks]; done) | (simp [blks]; omega))
  clear hb4 hq hz; have hb4 : Blk w3 g_4 _ [_] := hbn; clear hbn
  refine wpList_nil (norm_then ?_)
  refine wp_seq ?_
  refine wp_region_lit ?_
  refine st_alloc h zv90 rfl rfl ?_; clear h a; intro w4 hb5 hq hz a h
  obtain ⟨g_5, hg⟩ : ∃ g, g = w3.heap.size := ⟨_, rfl⟩; rw [← hg] at hb5 h hz
  have hl5 : w0.heap.size ≤ g_5 := by have := hf.size; omega
  have hn_1_5 : g_1 < g_5 := by have := hb1.lt; omega
  have hn_4_5 : g_4 < g_5 := by have := hb4.lt; omega
  replace hf := hf.next hq
  replace hy := hy.ext hq
  replace hb1 := hb1.ext hq
  replace hb4 := hb4.ext hq
  clear hq hz hg
  refine st_alloc h zv90 rfl rfl ?_; clear h a; intro w5 hb6 hq hz a h
  obtain ⟨g_6, hg⟩ : ∃ g, g = w4.heap.size := ⟨_, rfl⟩; rw [← hg] at hb6 h hz
  have hl6 : w0.heap.size ≤ g_6 := by have := hf.size; omega
  have hn_1_6 : g_1 < g_6 := by have := hb1.lt; omega
  have hn_4_6 : g_4 < g_6 := by have := hb4.lt; omega
  have hn_5_6 : g_5 < g_6 := by have := hb5.lt; omega
  replace hf := hf.next hq
  replace hy := hy.ext hq
  replace hb1 := hb1.ext hq
  replace hb4 := hb4.ext hq
  replace hb5 := hb5.ext hq
  clear hq hz hg
  refine wpList_nil (norm_then ?_)
  refine wp_seq ?_
  refine wp_region_lit ?_
  refine st_makeFunc h evs_nil (evs_cons rfl (evs_cons rfl (evs_cons rfl evs_nil))) rfl ?_; clear h a; intro a h
  refine st_storeB0 h rfl rfl hb5 rfl rfl sz90 ?_; clear h a; intro w6 hbn hq hz a h
  replace hf := hf.step hq (by first | (simp; done) | (simp; omega))
  replace hy := hy.fr hq (by first | (simp; done) | (simp; omega) | (simp [blks]; done) | (simp [blks]; omega))
  replace hb1 := hb1.fr hq (by first | (simp; done) | (simp; omega) | (simp [blks]; done) | (simp [blks]; omega))
  replace hb4 := hb4.fr hq (by first | (simp; done) | (simp; omega) | (simp [blks]; done) | (simp [blks]; omega))
  replace hb6 := hb6.fr hq (by first | (simp; done) | (simp; omega) | (simp [blks]; done) | (simp [blks]; omega))
  clear hb5 hq hz; have hb5 : Blk w6 g_5 _ [_] := hbn; clear hbn
  replace h : Ag a 24 [(1, _), (4, _), (5, _), (6, _)] := h.sub (.cons rfl (.cons rfl (.cons rfl (.cons rfl .nil))))
  refine wpList_nil (norm_then ?_)
  refine wp_seq ?_
  refine wp_region_lit ?_
  refine st_makeFunc h evs_nil (evs_cons rfl (evs_cons rfl (evs_cons rfl evs_nil))) rfl ?_; clear h a; intro a h
  refine st_storeB0 h rfl rfl hb6 rfl rfl sz90 ?_; clear h a; intro w7 hbn hq hz a h
  replace hf := hf.step hq (by first | (simp; done) | (simp; omega))
  replace hy := hy.fr hq (by first | (simp; done) | (simp; omega) | (simp [blks]; done) | (simp [blks]; omega))
  replace hb1 := hb1.fr hq (by first | (simp; done) | (simp; omega) | (simp [blks]; done) | (simp [blks]; omega))
  replace hb4 := hb4.fr hq (by first | (simp; done) | (simp; omega) | (simp [blks]; done) | (simp [blks]; omega))
  replace hb5 := hb5.fr hq (by first | (simp; done) | (simp; omega) | (simp [blks]; done) | (simp [blks]; omega))
  clear hb6 hq hz; have hb6 : Blk w7 g_6 _ [_] := hbn; clear hbn
  replace h : Ag a 24 [(1, _), (4, _), (5, _)] := h.sub (.cons rfl (.cons rfl (.cons rfl .nil)))
  refine wpList_nil (norm_then ?_)
  refine wp_seq ?_
  refine wp_region_lit ?_
  refine st_loadB0 h rfl hb5 na90 rfl ?_; clear h a; intro a h
  have hrow := (readC l g_1 g_4 g_5 g_6 hl (by omega) hn_1_4 hn_4_5 hn_5_6 (2 * l.length + 1)).1 0 w7 (Nat.zero_le _) (by omega) ⟨hb1, hb4, hb5, hb6, hy⟩
  have hfs := hf.size
  refine st_callv (us := []) (ws := [_, _, _]) h rfl evs_nil co49 hrow rfl (by intro g; simp) ?_; clear h a hrow hb4; rintro _ w9x ⟨x2, ok, rfl, hq, hyes, hno⟩ a h
  replace hf := hf.step hq (by simp; omega)
  replace hb1 := hb1.fr hq (by simp; omega)
  clear hq hb5 hb6 hy
  refine st_move h rfl rfl ?_; clear h a; intro a h
  refine st_extract h rfl rfl rfl ?_; clear h a; intro a h
  refine st_extract h rfl rfl rfl ?_; clear h a; intro a h
  refine st_assign h rfl rfl ?_; clear h a; intro a h
  refine st_assign h rfl rfl ?_; clear h a; intro a h
  replace h : Ag a 24 [(1, _), (4, _), (7, _), (8, _)] := h.sub (.cons rfl (.cons rfl (.cons rfl (.cons rfl .nil))))
  refine wpList_nil (norm_then ?_)
  refine wp_seq ?_
  refine region_quiet hmix (by kernel_rfl) ?_
  refine qt_move h rfl rfl ?_; clear h a; intro a h
  refine qt_move h rfl rfl ?_; clear h a; intro a h
  refine qt_move h rfl rfl ?_; clear h a; intro a h
  first | refine guard_dec (D := 18) h rfl ?_ ?_ | refine guard_ndec (D := 18) h rfl ?_ ?_ | refine guard_any (D := 18) h rfl ?_ ?_
  · clear h; intro g0 h
    refine qd_yes h rfl rfl rfl rfl rfl rfl ?_
    have hok : ok = true := by simpa using g0
    subst hok
    obtain ⟨xs, q, hr, ho2, hb4⟩ := hyes rfl
    obtain ⟨hq1, hq2, hxl⟩ := read_pos _ true 0 [] xs q (by omega) hr
    replace ho2 := ho2.low hfs
    clear hyes hno
    refine qt_loadB0 h rfl (fun _ hw => hb4.ext hw) na3 rfl ?_; clear h a; intro a h
    refine qd_yes h rfl rfl rfl rfl rfl rfl ?_
    refine qt_loadB0 h rfl (fun _ hw => hb1.ext hw) na9 rfl ?_; clear h a; intro a h
    refine qd_yes h rfl rfl rfl rfl rfl rfl ?_
    refine qt_len h rfl Tryd.underlying9 rfl ?_; clear h a; intro a h
    refine qd_yes h rfl rfl rfl rfl rfl rfl ?_
    refine qt_eq h rfl rfl rfl ?_; clear h a; intro a h
    refine qt_pick_t h rfl rfl rfl rfl ?_; clear h a; intro a h
    refine qt_assign h rfl rfl ?_; clear h a; intro a h
    refine qt_assign h rfl rfl ?_; clear h a; intro a h
    refine wpQuiet_nil ?_
    intro w8 hq
    replace hf := hf.next hq
    replace hb1 := hb1.ext hq
    replace hb4 := hb4.ext hq
    replace ho2 := ho2.ext hq
    clear hq
    replace h : Ag a 24 [(2, _), (3, _)] := h.sub (.cons rfl (.cons rfl .nil))
    refine (norm_then ?_)
    refine wp_ret ?_
    refine ret2 h Tryd.results25 rfl rfl ?_
    refine ⟨_, rfl, _, _, rfl, hf, fun e => ⟨xs, ?_, hxl, ho2⟩, fun e => ?_⟩
    · rw [rowS, hr]; exact if_pos (by have := of_decide_eq_true e; omega)
    · rw [rowS, hr]; exact if_neg (by have := of_decide_eq_false e; omega)
  · clear h; intro g0 h
    refine qd_no h rfl rfl rfl rfl rfl rfl rfl rfl ?_; clear h a; intro a h
    refine qd_no h rfl rfl rfl rfl rfl rfl rfl rfl ?_; clear h a; intro a h
    refine qd_no h rfl rfl rfl rfl rfl rfl rfl rfl ?_; clear h a; intro a h
    refine qd_no h rfl rfl rfl rfl rfl rfl rfl rfl ?_; clear h a; intro a h
    refine qt_pick_f h rfl rfl rfl rfl ?_; clear h a; intro a h
    refine qt_assign h rfl rfl ?_; clear h a; intro a h
    refine qt_assign h rfl rfl ?_; clear h a; intro a h
    refine wpQuiet_nil ?_
    intro w9 hq
    replace hf := hf.next hq
    replace hb1 := hb1.ext hq
    clear hq
    replace h : Ag a 24 [(2, _), (3, _)] := h.sub (.cons rfl (.cons rfl .nil))
    refine (norm_then ?_)
    refine wp_ret ?_
    refine ret2 h Tryd.results25 rfl rfl ?_
    exact ⟨_, rfl, _, false, rfl, hf, (fun e => by cases e), fun _ => by rw [rowS, hno (by assumption)]⟩
theorem expand_ok (l : List UInt8) (w0 : World) (hy : Sym w0) (hlen : l.length ≤ 9223372036854775807) : Rets Tryd.prog 10 #[S l] w0 fun v w' => ∃ x c, v = .tuple #[.slice x (expandS l).1.length c, .int .i64 (expandS l).2] ∧ c = (expandS l).1.length ∧ Own encSt 36 w0.heap.size w' (.slice x (expandS l).1.length c) (expandS l).1 ∧ Fr [] w0 w' := by
  refine enter [(0, S l)] Tryd.func10 rfl Tryd.ntmps10 rfl (.cons rfl .nil) ?_
  have hf := Fr.refl [] w0
  intro a h
  refine wp_seq ?_
  refine wp_region_lit ?_
  refine st_assign h rfl rfl ?_; clear h a; intro a h
  refine st_assign h rfl rfl ?_; clear h a; intro a h
  replace h : Ag a 21 [(0, _)] := h.sub (.cons rfl .nil)
  refine wpList_nil (norm_then ?_)
  refine wp_seq ?_
  refine wp_seq ?_
  refine wp_region_lit ?_
  refine st_move h rfl rfl ?_; clear h a; intro a h
  refine st_len h rfl Tryd.underlying9 rfl ?_; clear h a; intro a h
  refine st_gt h rfl rfl rfl ?_; clear h a; intro a h
  replace h : Ag a 21 [(0, _), (8, _)] := h.sub (.cons rfl (.cons rfl .nil))
  refine wpList_nil (norm_then ?_)
  first | refine cond_dec h rfl (fun c0 => ?_) (fun c0 => ?_) | refine cond_ndec h rfl (fun c0 => ?_) (fun c0 => ?_) | refine cond_split h rfl (fun c0 => ?_) (fun c0 => ?_)
  · refine id ?_
    refine wp_seq ?_
    refine wp_region_lit ?_
    refine st_assign h rfl rfl ?_; clear h a; intro a h
    refine st_assign h rfl rfl ?_; clear h a; intro a h
    replace h : Ag a 21 [(2, _), (3, _)] := h.sub (.cons rfl (.cons rfl .nil))
    refine wpList_nil (norm_then ?_)
    refine wp_ret (ret_then ?_)
    refine ret2 h Tryd.results10 rfl rfl ?_
    have e : expandS l = ([], 3) := by rw [expandS, if_pos (by omega)]
    rw [e]
    exact ⟨_, rfl, none, 0, rfl, rfl, Own.nil _, hf⟩
  · refine id ?_
    refine wp_skip (norm_then ?_)
    refine wp_seq ?_
    refine wp_region_lit ?_
    refine st_move h rfl rfl ?_; clear h a; intro a h
    refine st_call h (evs_cons rfl evs_nil) co25 (read_ok _ _ (by omega) hy) rfl ?_; clear h a; rintro _ w1 ⟨x2, ok, rfl, hq, hyes, hno⟩ a h
    replace hf := hf.next hq
    replace hy := hy.ext hq
    clear hq
    refine st_move h rfl rfl ?_; clear h a; intro a h
    refine st_extract h rfl rfl rfl ?_; clear h a; intro a h
    refine st_extract h rfl rfl rfl ?_; clear h a; intro a h
    refine st_assign h rfl rfl ?_; clear h a; intro a h
    refine st_assign h rfl rfl ?_; clear h a; intro a h
    replace h : Ag a 21 [(4, _), (5, _)] := h.sub (.cons rfl (.cons rfl .nil))
    refine wpList_nil (norm_then ?_)
    refine wp_seq ?_
    refine wp_seq ?_
    refine wp_region_lit ?_
    refine st_move h rfl rfl ?_; clear h a; intro a h
    refine st_not h rfl rfl ?_; clear h a; intro a h
    replace h : Ag a 21 [(4, _), (15, _)] := h.sub (.cons rfl (.cons rfl .nil))
    refine wpList_nil (norm_then ?_)
    first | refine cond_dec h rfl (fun c1 => ?_) (fun c1 => ?_) | refine cond_ndec h rfl (fun c1 => ?_) (fun c1 => ?_) | refine cond_split h rfl (fun c1 => ?_) (fun c1 => ?_)
    · have hok : ok = false := by simpa using c1
      subst hok
      refine wp_seq ?_
      refine wp_region_lit ?_
      refine st_assign h rfl rfl ?_; clear h a; intro a h
      refine st_assign h rfl rfl ?_; clear h a; intro a h
      replace h : Ag a 21 [(2, _), (3, _)] := h.sub (.cons rfl (.cons rfl .nil))
      refine wpList_nil (norm_then ?_)
      refine wp_ret (ret_then ?_)
      refine ret2 h Tryd.results10 rfl rfl ?_
      have e : expandS l = ([], 4) := by rw [expandS, if_neg (by omega), hno rfl]
      rw [e]
      exact ⟨_, rfl, none, 0, rfl, rfl, Own.nil _, hf⟩
    · have hok : ok = true := by simpa using c1
      subst hok
      obtain ⟨xs, hr, hxl, ho⟩ := hyes rfl
      obtain ⟨A, c, rfl, hc⟩ := ho.sl.form
      refine wp_skip (norm_then ?_)
      refine wp_seq ?_
      refine wp_seq ?_
      refine wp_region_lit ?_
      refine st_move h rfl rfl ?_; clear h a; intro a h
      refine st_lenS h rfl Tryd.underlying22 rfl ?_; clear h a; intro a h
      refine st_gt h rfl rfl rfl ?_; clear h a; intro a h
      replace h : Ag a 21 [(4, _), (18, _)] := h.sub (.cons rfl (.cons rfl .nil))
      refine wpList_nil (norm_then ?_)
      first | refine cond_dec h rfl (fun c2 => ?_) (fun c2 => ?_) | refine cond_ndec h rfl (fun c2 => ?_) (fun c2 => ?_) | refine cond_split h rfl (fun c2 => ?_) (fun c2 => ?_)
      · refine id ?_
        refine wp_seq ?_
        refine wp_region_lit ?_
        refine st_assign h rfl rfl ?_; clear h a; intro a h
        refine st_assign h rfl rfl ?_; clear h a; intro a h
        replace h : Ag a 21 [(2, _), (3, _)] := h.sub (.cons rfl (.cons rfl .nil))
        refine wpList_nil (norm_then ?_)
        refine wp_ret (ret_then ?_)
        refine ret2 h Tryd.results10 rfl rfl ?_
        have e : expandS l = ([], 3) := by rw [expandS, if_neg (by omega), hr]; exact if_pos (by omega)
        rw [e]
        exact ⟨_, rfl, none, 0, rfl, rfl, Own.nil _, hf⟩
      · refine id ?_
        refine wp_skip (norm_then ?_)
        refine wp_seq ?_
        refine wp_region_lit ?_
        refine st_move h rfl rfl ?_; clear h a; intro a h
        refine st_call h (evs_cons rfl evs_nil) co26 (clip_ok _ _ _ _ hc) rfl ?_; clear h a; rintro _ _ ⟨rfl, rfl⟩ a h
        replace ho := ho.take rfl (m := xs.length) (Nat.le_refl _) hc (Nat.le_refl _)
        rw [List.take_length] at ho
        refine st_assign h rfl rfl ?_; clear h a; intro a h
        refine st_assign h rfl rfl ?_; clear h a; intro a h
        replace h : Ag a 21 [(2, _), (3, _)] := h.sub (.cons rfl (.cons rfl .nil))
        refine wpList_nil (norm_then ?_)
        refine wp_ret ?_
        refine ret2 h Tryd.results10 rfl rfl ?_
        have e : expandS l = (xs, 0) := by rw [expandS, if_neg (by omega), hr]; exact if_neg (by omega)
        rw [e]
        exact ⟨_, rfl, A, _, rfl, rfl, ho, hf⟩
end Go.Proofs.YtbbnampdgefljaaDoor
