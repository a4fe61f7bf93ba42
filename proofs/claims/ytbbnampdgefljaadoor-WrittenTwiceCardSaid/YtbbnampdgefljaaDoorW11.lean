/- Walks. -/
import Derived.Test.YtbbnampdgefljaaDoorRows
import Derived.Test.YtbbnampdgefljaaDoorW10
import Derived.Test.YtbbnampdgefljaaDoorXMap
import Derived.Test.YtbbnampdgefljaaDoorXMach
import Derived.Test.YtbbnampdgefljaaDoorFactsB
set_option linter.unusedVariables false
set_option linter.unusedSimpArgs false
namespace Go.Proofs.YtbbnampdgefljaaDoor
open Go.Lw Go.G14
set_option maxHeartbeats 4000000 in
theorem refexpand_ok (l : List UInt8) (w0 : World) (hy : Sym w0) : Rets Tryd.prog 11 #[S l] w0 fun v w' => ∃ x R, v = .tuple #[x, .int .i64 R.2] ∧ (l.length ≤ 1024 → Mach l [] [] 0 true R) ∧ (1024 < l.length → R = ([], 3)) ∧ Sl encSt w' x R.1 ∧ Fr [] w0 w' := by
  have h00 := hy.pos
  refine enter [(0, S l)] Tryd.func11 rfl Tryd.ntmps11 rfl (.cons rfl .nil) ?_
  have hf := Fr.refl [] w0
  intro a h
  refine wp_seq ?_
  refine wp_region_lit ?_
  refine st_assign h rfl rfl ?_; clear h a; intro a h
  refine st_assign h rfl rfl ?_; clear h a; intro a h
  replace h : Ag a 199 [(0, _)] := h.sub (.cons rfl .nil)
  refine wpList_nil (norm_then ?_)
  refine wp_seq ?_
  refine wp_seq ?_
  refine wp_region_lit ?_
  refine st_move h rfl rfl ?_; clear h a; intro a h
  refine st_len h rfl Tryd.underlying9 rfl ?_; clear h a; intro a h
  refine st_gt h rfl rfl rfl ?_; clear h a; intro a h
  replace h : Ag a 199 [(0, _), (18, _)] := h.sub (.cons rfl (.cons rfl .nil))
  refine wpList_nil (norm_then ?_)
  first | refine cond_dec h rfl (fun c0 => ?_) (fun c0 => ?_) | refine cond_ndec h rfl (fun c0 => ?_) (fun c0 => ?_) | refine cond_split h rfl (fun c0 => ?_) (fun c0 => ?_)
  · refine id ?_
    refine wp_seq ?_
    refine wp_region_lit ?_
    refine st_assign h rfl rfl ?_; clear h a; intro a h
    refine st_assign h rfl rfl ?_; clear h a; intro a h
    replace h : Ag a 199 [(2, _), (3, _)] := h.sub (.cons rfl (.cons rfl .nil))
    refine wpList_nil (norm_then ?_)
    refine wp_ret (ret_then ?_)
    refine ret2 h Tryd.results11 rfl rfl ?_
    exact ⟨_, rfl, _, ([], 3), rfl, (fun e => by omega), fun _ => rfl, Sl.nil _, hf⟩
  · have hl : l.length ≤ 1024 := by omega
    refine wp_skip (norm_then ?_)
    refine wp_seq ?_
    refine wp_region_lit ?_
    refine st_bslice ([((none, 0, 0) : SV)]) h (evs_cons rfl evs_nil) rfl rfl rfl el43 (by decide) rfl ?_; clear h a; intro g_19 w1 hg ho19 hq hz a h
    have hl19 : w0.heap.size ≤ g_19 := by have := hf.size; omega
    replace hf := hf.next hq
    replace hy := hy.ext hq
    clear hq hz hg
    refine st_assign h rfl rfl ?_; clear h a; intro a h
    replace h : Ag a 199 [(0, _), (4, _)] := h.sub (.cons rfl (.cons rfl .nil))
    refine wpList_nil (norm_then ?_)
    refine wp_seq ?_
    refine wp_region_lit ?_
    refine st_assign h rfl rfl ?_; clear h a; intro a h
    refine wpList_nil (norm_then ?_)
    refine wp_seq ?_
    refine wp_region_lit ?_
    refine st_assign h rfl rfl ?_; clear h a; intro a h
    refine wpList_nil (norm_then ?_)
    refine wp_seq ?_
    refine wp_block ?_
    refine loop (ι := RSt) (fun z => [(0, S l), (4, .slice (some ⟨z.g, 0, none⟩) (z.ps.length + 1) z.c), (5, .int .i64 (z.p : Int)), (6, .bool z.it)]) (fun z w' => Own Enc.sl 22 w0.heap.size w' (.slice (some ⟨z.g, 0, none⟩) (z.ps.length + 1) z.c) ((z.ps ++ [(z.u, z.t)]).map Prod.fst) ∧ Ins encSt 36 w0.heap.size w' [z.g] (z.ps ++ [(z.u, z.t)]) ∧ z.p ≤ l.length ∧ z.ps.length ≤ z.p ∧ (∀ q ∈ z.ps, q.2.length ≤ 17) ∧ z.t.length ≤ 17 ∧ (∀ R, Mach l (z.ps.map Prod.snd) z.t z.p z.it R → Mach l [] [] 0 true R) ∧ Sym w' ∧ Fr [] w0 w') (fun z => l.length - z.p) ⟨[], (none, 0, 0), [], 0, true, g_19, 1⟩ (h.sub (.cons rfl (.cons rfl (.cons rfl (.cons rfl .nil))))) ⟨ho19.low hl19, Ins.nil.pushNil, Nat.zero_le _, Nat.le_refl _, by simp, by simp, fun R m => m, hy, hf⟩ ?_
    clear h a ho19 hy hf
    rintro ⟨ps, u, t, p, it, g, c⟩ w2 a h ⟨hO, hI, hpl, hdp, hb17, ht17, hM, hy, hf⟩
    simp only at hO hI hpl hdp hb17 ht17 hM h
    have hcO := (Own.capO hO).1
    have hgl := (hO.blk g (by simp [blks])).1
    refine wp_seq ?_
    refine wp_seq ?_
    refine region_bool (r := 26) (L' := [(0, _), (4, _), (5, _), (6, _)]) (it = true ∨ p < l.length) h (.cons rfl (.cons rfl (.cons rfl (.cons rfl .nil)))) ?_ ?_
    · refine id ?_
      refine st_move h rfl rfl ?_; clear h a; intro a h
      refine st_move h rfl rfl ?_; clear h a; intro a h
      first | refine guard_dec (D := 21) h rfl ?_ ?_ | refine guard_ndec (D := 21) h rfl ?_ ?_ | refine guard_any (D := 21) h rfl ?_ ?_
      · clear h; intro g0 h
        refine gd_no h rfl rfl rfl rfl rfl rfl rfl rfl ?_; clear h a; intro a h
        refine gd_no h rfl rfl rfl rfl rfl rfl rfl rfl ?_; clear h a; intro a h
        refine gd_no h rfl rfl rfl rfl rfl rfl rfl rfl ?_; clear h a; intro a h
        refine gd_no h rfl rfl rfl rfl rfl rfl rfl rfl ?_; clear h a; intro a h
        refine st_pick_t h rfl rfl rfl rfl ?_; clear h a; intro a h
        exact wpList_nil (bool_end h rfl (by first | exact bt (.inl ‹it = true›) | exact bi ⟨fun e => .inr (by omega), fun e => by rcases e with e | e; exact absurd e (by simp [‹it = false›]); omega⟩) (.cons rfl (.cons rfl (.cons rfl (.cons rfl .nil)))))
      · clear h; intro g0 h
        refine gd_yes h rfl rfl rfl rfl rfl rfl ?_
        refine st_move h rfl rfl ?_; clear h a; intro a h
        refine gd_yes h rfl rfl rfl rfl rfl rfl ?_
        refine st_move h rfl rfl ?_; clear h a; intro a h
        refine gd_yes h rfl rfl rfl rfl rfl rfl ?_
        refine st_len h rfl Tryd.underlying9 rfl ?_; clear h a; intro a h
        refine gd_yes h rfl rfl rfl rfl rfl rfl ?_
        refine st_lt h rfl rfl rfl ?_; clear h a; intro a h
        refine st_pick_f h rfl rfl rfl rfl ?_; clear h a; intro a h
        exact wpList_nil (bool_end h rfl (by first | exact bt (.inl ‹it = true›) | exact bi ⟨fun e => .inr (by omega), fun e => by rcases e with e | e; exact absurd e (by simp [‹it = false›]); omega⟩) (.cons rfl (.cons rfl (.cons rfl (.cons rfl .nil)))))
    · clear h a; intro a h
      refine (norm_then ?_)
      first | refine cond_dec h rfl (fun c1 => ?_) (fun c1 => ?_) | refine cond_ndec h rfl (fun c1 => ?_) (fun c1 => ?_) | refine cond_split h rfl (fun c1 => ?_) (fun c1 => ?_)
      · refine id ?_
        refine wp_skip (norm_then ?_)
        refine wp_block ?_
        refine wp_seq ?_
        refine wp_seq ?_
        refine wp_region_lit ?_
        refine st_move h rfl rfl ?_; clear h a; intro a h
        refine st_not h rfl rfl ?_; clear h a; intro a h
        replace h : Ag a 199 [(0, _), (4, _), (5, _), (6, _), (28, _)] := h.sub (.cons rfl (.cons rfl (.cons rfl (.cons rfl (.cons rfl .nil)))))
        refine wpList_nil (norm_then ?_)
        first | refine cond_dec h rfl (fun c2 => ?_) (fun c2 => ?_) | refine cond_ndec h rfl (fun c2 => ?_) (fun c2 => ?_) | refine cond_split h rfl (fun c2 => ?_) (fun c2 => ?_)
        · obtain rfl : it = false := by simpa using c2
          have c1q : p < l.length := c1.elim (fun e => by cases e) id
          refine wp_seq ?_
          refine wp_seq ?_
          refine wp_region_lit ?_
          refine st_move h rfl rfl ?_; clear h a; intro a h
          refine st_move h rfl rfl ?_; clear h a; intro a h
          refine st_index (p := p) h rfl rfl Tryd.underlying9 (by omega) (by omega) (by omega) rfl ?_; clear h a; intro hy31 a h
          refine st_eq h rfl rfl rfl ?_; clear h a; intro a h
          replace h : Ag a 199 [(0, _), (4, _), (5, _), (6, _), (32, _)] := h.sub (.cons rfl (.cons rfl (.cons rfl (.cons rfl (.cons rfl .nil)))))
          refine wpList_nil (norm_then ?_)
          first | refine cond_dec h rfl (fun c3 => ?_) (fun c3 => ?_) | refine cond_ndec h rfl (fun c3 => ?_) (fun c3 => ?_) | refine cond_split h rfl (fun c3 => ?_) (fun c3 => ?_)
          · refine id ?_
            refine wp_seq ?_
            refine wp_region_lit ?_
            refine st_move h rfl rfl ?_; clear h a; intro a h
            refine st_add h rfl rfl (by first | exact IntWalk.i64_in _ (by omega) | rfl) rfl ?_; clear h a; intro a h
            refine st_assign h rfl rfl ?_; clear h a; intro a h
            replace h : Ag a 199 [(0, _), (4, _), (5, _)] := h.sub (.cons rfl (.cons rfl (.cons rfl .nil)))
            refine wpList_nil (norm_then ?_)
            refine wp_seq ?_
            refine wp_region_lit ?_
            refine st_assign h rfl rfl ?_; clear h a; intro a h
            refine wpList_nil (norm_then ?_)
            refine wp_exit (exit_then (exit_then (exit_here (norm_then ?_))))
            exact ⟨⟨ps, u, t, p + 1, true, g, c⟩, h.sub (.cons rfl (.cons rfl (.cons rfl (.cons rfl .nil)))), ⟨hO, hI, by simp only; omega, by simp only; omega, hb17, ht17, fun R m => hM R (m_space c1q (byte_eq.1 c3) m), hy, hf⟩, by simp only; omega⟩
          · refine id ?_
            refine wp_skip (norm_then ?_)
            refine wp_seq ?_
            refine wp_seq ?_
            refine region_bool (r := 57) (L' := [(0, _), (4, _), (5, _), (6, _)]) (¬ (((l.getD p 0).toNat : Int) = 93 ∧ 1 ≤ ps.length ∧ p + 1 < l.length ∧ ((l.getD (p + 1) 0).toNat : Int) = 120)) h (.cons rfl (.cons rfl (.cons rfl (.cons rfl .nil)))) ?_ ?_
            · refine id ?_
              refine st_move h rfl rfl ?_; clear h a; intro a h
              refine st_move h rfl rfl ?_; clear h a; intro a h
              refine st_index (p := p) h rfl rfl Tryd.underlying9 (by omega) (by omega) (by omega) rfl ?_; clear h a; intro hy37 a h
              refine st_ne h rfl rfl rfl ?_; clear h a; intro a h
              refine st_move h rfl rfl ?_; clear h a; intro a h
              first | refine guard_dec (D := 39) h rfl ?_ ?_ | refine guard_ndec (D := 39) h rfl ?_ ?_ | refine guard_any (D := 39) h rfl ?_ ?_
              · clear h; intro g1 h
                refine gd_no h rfl rfl rfl rfl rfl rfl rfl rfl ?_; clear h a; intro a h
                refine gd_no h rfl rfl rfl rfl rfl rfl rfl rfl ?_; clear h a; intro a h
                refine gd_no h rfl rfl rfl rfl rfl rfl rfl rfl ?_; clear h a; intro a h
                refine st_pick_t h rfl rfl rfl rfl ?_; clear h a; intro a h
                refine st_move h rfl rfl ?_; clear h a; intro a h
                refine gd_no h rfl rfl rfl rfl rfl rfl rfl rfl ?_; clear h a; intro a h
                refine gd_no h rfl rfl rfl rfl rfl rfl rfl rfl ?_; clear h a; intro a h
                refine gd_no h rfl rfl rfl rfl rfl rfl rfl rfl ?_; clear h a; intro a h
                refine gd_no h rfl rfl rfl rfl rfl rfl rfl rfl ?_; clear h a; intro a h
                refine gd_no h rfl rfl rfl rfl rfl rfl rfl rfl ?_; clear h a; intro a h
                refine st_pick_t h rfl rfl rfl rfl ?_; clear h a; intro a h
                refine st_move h rfl rfl ?_; clear h a; intro a h
                refine gd_no h rfl rfl rfl rfl rfl rfl rfl rfl ?_; clear h a; intro a h
                refine gd_no h rfl rfl rfl rfl rfl rfl rfl rfl ?_; clear h a; intro a h
                refine gd_no h rfl rfl rfl rfl rfl rfl rfl rfl ?_; clear h a; intro a h
                refine gd_no h rfl rfl rfl rfl rfl rfl rfl rfl ?_; clear h a; intro a h
                refine gd_no h rfl rfl rfl rfl rfl rfl rfl rfl ?_; clear h a; intro a h
                refine st_pick_t h rfl rfl rfl rfl ?_; clear h a; intro a h
                exact wpList_nil (bool_end h rfl (by first | exact bt (by omega) | exact bf (by omega) | exact bi (by omega) | exact bn (by omega)) (.cons rfl (.cons rfl (.cons rfl (.cons rfl .nil)))))
              · clear h; intro g1 h
                refine gd_yes h rfl rfl rfl rfl rfl rfl ?_
                refine st_move h rfl rfl ?_; clear h a; intro a h
                refine gd_yes h rfl rfl rfl rfl rfl rfl ?_
                refine st_lenS h rfl Tryd.underlying43 rfl ?_; clear h a; intro a h
                refine gd_yes h rfl rfl rfl rfl rfl rfl ?_
                refine st_lt h rfl rfl rfl ?_; clear h a; intro a h
                refine st_pick_f h rfl rfl rfl rfl ?_; clear h a; intro a h
                refine st_move h rfl rfl ?_; clear h a; intro a h
                first | refine guard_dec (D := 44) h rfl ?_ ?_ | refine guard_ndec (D := 44) h rfl ?_ ?_ | refine guard_any (D := 44) h rfl ?_ ?_
                · clear h; intro g2 h
                  refine gd_no h rfl rfl rfl rfl rfl rfl rfl rfl ?_; clear h a; intro a h
                  refine gd_no h rfl rfl rfl rfl rfl rfl rfl rfl ?_; clear h a; intro a h
                  refine gd_no h rfl rfl rfl rfl rfl rfl rfl rfl ?_; clear h a; intro a h
                  refine gd_no h rfl rfl rfl rfl rfl rfl rfl rfl ?_; clear h a; intro a h
                  refine gd_no h rfl rfl rfl rfl rfl rfl rfl rfl ?_; clear h a; intro a h
                  refine st_pick_t h rfl rfl rfl rfl ?_; clear h a; intro a h
                  refine st_move h rfl rfl ?_; clear h a; intro a h
                  refine gd_no h rfl rfl rfl rfl rfl rfl rfl rfl ?_; clear h a; intro a h
                  refine gd_no h rfl rfl rfl rfl rfl rfl rfl rfl ?_; clear h a; intro a h
                  refine gd_no h rfl rfl rfl rfl rfl rfl rfl rfl ?_; clear h a; intro a h
                  refine gd_no h rfl rfl rfl rfl rfl rfl rfl rfl ?_; clear h a; intro a h
                  refine gd_no h rfl rfl rfl rfl rfl rfl rfl rfl ?_; clear h a; intro a h
                  refine st_pick_t h rfl rfl rfl rfl ?_; clear h a; intro a h
                  exact wpList_nil (bool_end h rfl (by first | exact bt (by omega) | exact bf (by omega) | exact bi (by omega) | exact bn (by omega)) (.cons rfl (.cons rfl (.cons rfl (.cons rfl .nil)))))
                · clear h; intro g2 h
                  refine gd_yes h rfl rfl rfl rfl rfl rfl ?_
                  refine st_move h rfl rfl ?_; clear h a; intro a h
                  refine gd_yes h rfl rfl rfl rfl rfl rfl ?_
                  refine st_add h rfl rfl (by first | exact IntWalk.i64_in _ (by omega) | rfl) rfl ?_; clear h a; intro a h
                  refine gd_yes h rfl rfl rfl rfl rfl rfl ?_
                  refine st_move h rfl rfl ?_; clear h a; intro a h
                  refine gd_yes h rfl rfl rfl rfl rfl rfl ?_
                  refine st_len h rfl Tryd.underlying9 rfl ?_; clear h a; intro a h
                  refine gd_yes h rfl rfl rfl rfl rfl rfl ?_
                  refine st_ge h rfl rfl rfl ?_; clear h a; intro a h
                  refine st_pick_f h rfl rfl rfl rfl ?_; clear h a; intro a h
                  refine st_move h rfl rfl ?_; clear h a; intro a h
                  first | refine guard_dec (D := 51) h rfl ?_ ?_ | refine guard_ndec (D := 51) h rfl ?_ ?_ | refine guard_any (D := 51) h rfl ?_ ?_
                  · clear h; intro g3 h
                    refine gd_no h rfl rfl rfl rfl rfl rfl rfl rfl ?_; clear h a; intro a h
                    refine gd_no h rfl rfl rfl rfl rfl rfl rfl rfl ?_; clear h a; intro a h
                    refine gd_no h rfl rfl rfl rfl rfl rfl rfl rfl ?_; clear h a; intro a h
                    refine gd_no h rfl rfl rfl rfl rfl rfl rfl rfl ?_; clear h a; intro a h
                    refine gd_no h rfl rfl rfl rfl rfl rfl rfl rfl ?_; clear h a; intro a h
                    refine st_pick_t h rfl rfl rfl rfl ?_; clear h a; intro a h
                    exact wpList_nil (bool_end h rfl (by first | exact bt (by omega) | exact bf (by omega) | exact bi (by omega) | exact bn (by omega)) (.cons rfl (.cons rfl (.cons rfl (.cons rfl .nil)))))
                  · clear h; intro g3 h
                    refine gd_yes h rfl rfl rfl rfl rfl rfl ?_
                    refine st_move h rfl rfl ?_; clear h a; intro a h
                    refine gd_yes h rfl rfl rfl rfl rfl rfl ?_
                    refine st_move h rfl rfl ?_; clear h a; intro a h
                    refine gd_yes h rfl rfl rfl rfl rfl rfl ?_
                    refine st_add h rfl rfl (by first | exact IntWalk.i64_in _ (by omega) | rfl) rfl ?_; clear h a; intro a h
                    refine gd_yes h rfl rfl rfl rfl rfl rfl ?_
                    refine st_index (p := p + 1) h rfl rfl Tryd.underlying9 (by omega) (by omega) (by omega) rfl ?_; clear h a; intro hy55 a h
                    refine gd_yes h rfl rfl rfl rfl rfl rfl ?_
                    refine st_ne h rfl rfl rfl ?_; clear h a; intro a h
                    refine st_pick_f h rfl rfl rfl rfl ?_; clear h a; intro a h
                    exact wpList_nil (bool_end h rfl (by first | exact bt (by omega) | exact bf (by omega) | exact bi (by omega) | exact bn (by omega)) (.cons rfl (.cons rfl (.cons rfl (.cons rfl .nil)))))
            · clear h a; intro a h
              refine (norm_then ?_)
              first | refine cond_dec h rfl (fun c4 => ?_) (fun c4 => ?_) | refine cond_ndec h rfl (fun c4 => ?_) (fun c4 => ?_) | refine cond_split h rfl (fun c4 => ?_) (fun c4 => ?_)
              · refine id ?_
                refine wp_seq ?_
                refine wp_region_lit ?_
                refine st_assign h rfl rfl ?_; clear h a; intro a h
                refine st_assign h rfl rfl ?_; clear h a; intro a h
                replace h : Ag a 199 [(2, _), (3, _)] := h.sub (.cons rfl (.cons rfl .nil))
                refine wpList_nil (norm_then ?_)
                refine wp_ret (ret_then (ret_then (ret_blk (ret_then (ret_blk (ret_then ?_))))))
                refine ret2 h Tryd.results11 rfl rfl ?_
                exact ⟨_, rfl, _, ([], 4), rfl, fun _ => hM _ (m_bad c1q (fun e => c3 (by rw [e]; rfl)) (fun e => c4 ⟨by rw [e.1]; rfl, List.length_pos_iff.2 (fun e2 => e.2.1 (by rw [e2]; rfl)), e.2.2.1, by rw [e.2.2.2]; rfl⟩)), (fun e => by omega), Sl.nil _, hf⟩
              · have c4q : ((l.getD p 0).toNat : Int) = 93 ∧ 1 ≤ ps.length ∧ p + 1 < l.length ∧ ((l.getD (p + 1) 0).toNat : Int) = 120 := Decidable.not_not.1 c4
                have hends : ends l (ps.map Prod.snd) p := ⟨byte_eq.1 c4q.1, (fun e => by have := congrArg List.length e; simp at this; rw [this] at c4q; simp at c4q), c4q.2.2.1, byte_eq.1 c4q.2.2.2⟩
                refine wp_skip (norm_then ?_)
                refine wp_seq ?_
                refine wp_region_lit ?_
                refine st_move h rfl rfl ?_; clear h a; intro a h
                refine st_add h rfl rfl (by first | exact IntWalk.i64_in _ (by omega) | rfl) rfl ?_; clear h a; intro a h
                refine st_assign h rfl rfl ?_; clear h a; intro a h
                replace h : Ag a 199 [(0, _), (4, _), (5, _), (6, _)] := h.sub (.cons rfl (.cons rfl (.cons rfl (.cons rfl .nil))))
                refine wpList_nil (norm_then ?_)
                refine wp_seq ?_
                refine wp_region_lit ?_
                refine st_move h rfl rfl ?_; clear h a; intro a h
                refine st_assign h rfl rfl ?_; clear h a; intro a h
                replace h : Ag a 199 [(0, _), (4, _), (5, _), (6, _), (7, _)] := h.sub (.cons rfl (.cons rfl (.cons rfl (.cons rfl (.cons rfl .nil)))))
                refine wpList_nil (norm_then ?_)
                refine wp_seq ?_
                refine wp_block ?_
                refine loop (ι := Nat) (fun k => [(0, S l), (4, .slice (some ⟨g, 0, none⟩) (ps.length + 1) c), (6, .bool false), (7, .int .i64 ((p : Int) + 2)), (5, .int .i64 (k : Int))]) (fun k w' => p + 2 ≤ k ∧ k ≤ l.length ∧ wordEnd l k = wordEnd l (p + 2) ∧ Own Enc.sl 22 w0.heap.size w' (.slice (some ⟨g, 0, none⟩) (ps.length + 1) c) ((ps ++ [(u, t)]).map Prod.fst) ∧ Ins encSt 36 w0.heap.size w' [g] (ps ++ [(u, t)]) ∧ Sym w' ∧ Fr [] w0 w') (fun k => l.length - k) (p + 2) (h.sub (.cons rfl (.cons rfl (.cons rfl (.cons rfl (.cons rfl .nil)))))) ⟨Nat.le_refl _, by omega, rfl, hO, hI, hy, hf⟩ ?_
                clear h a hO hI hy hf
                rintro k w3 a h ⟨hpk, hkl, hwe, hO, hI, hy, hf⟩
                refine wp_seq ?_
                refine wp_seq ?_
                refine region_bool (r := 76) (L' := [(0, _), (4, _), (5, _), (6, _), (7, _)]) (k < l.length ∧ ((l.getD k 0).toNat : Int) ≠ 32 ∧ ((l.getD k 0).toNat : Int) ≠ 93) h (.cons rfl (.cons rfl (.cons rfl (.cons rfl (.cons rfl .nil))))) ?_ ?_
                · refine id ?_
                  refine st_move h rfl rfl ?_; clear h a; intro a h
                  refine st_move h rfl rfl ?_; clear h a; intro a h
                  refine st_len h rfl Tryd.underlying9 rfl ?_; clear h a; intro a h
                  refine st_lt h rfl rfl rfl ?_; clear h a; intro a h
                  refine st_move h rfl rfl ?_; clear h a; intro a h
                  first | refine guard_dec (D := 65) h rfl ?_ ?_ | refine guard_ndec (D := 65) h rfl ?_ ?_ | refine guard_any (D := 65) h rfl ?_ ?_
                  · clear h; intro g4 h
                    refine gd_yes h rfl rfl rfl rfl rfl rfl ?_
                    refine st_move h rfl rfl ?_; clear h a; intro a h
                    refine gd_yes h rfl rfl rfl rfl rfl rfl ?_
                    refine st_move h rfl rfl ?_; clear h a; intro a h
                    refine gd_yes h rfl rfl rfl rfl rfl rfl ?_
                    refine st_index (p := k) h rfl rfl Tryd.underlying9 (by omega) (by omega) (by omega) rfl ?_; clear h a; intro hy68 a h
                    refine gd_yes h rfl rfl rfl rfl rfl rfl ?_
                    refine st_ne h rfl rfl rfl ?_; clear h a; intro a h
                    refine st_pick_t h rfl rfl rfl rfl ?_; clear h a; intro a h
                    refine st_move h rfl rfl ?_; clear h a; intro a h
                    first | refine guard_dec (D := 71) h rfl ?_ ?_ | refine guard_ndec (D := 71) h rfl ?_ ?_ | refine guard_any (D := 71) h rfl ?_ ?_
                    · clear h; intro g5 h
                      refine gd_yes h rfl rfl rfl rfl rfl rfl ?_
                      refine st_move h rfl rfl ?_; clear h a; intro a h
                      refine gd_yes h rfl rfl rfl rfl rfl rfl ?_
                      refine st_move h rfl rfl ?_; clear h a; intro a h
                      refine gd_yes h rfl rfl rfl rfl rfl rfl ?_
                      refine st_index (p := k) h rfl rfl Tryd.underlying9 (by omega) (by omega) (by omega) rfl ?_; clear h a; intro hy74 a h
                      refine gd_yes h rfl rfl rfl rfl rfl rfl ?_
                      refine st_ne h rfl rfl rfl ?_; clear h a; intro a h
                      refine st_pick_t h rfl rfl rfl rfl ?_; clear h a; intro a h
                      exact wpList_nil (bool_end h rfl (by first | exact bt (by omega) | exact bf (by omega) | exact bi (by omega) | exact bn (by omega)) (.cons rfl (.cons rfl (.cons rfl (.cons rfl (.cons rfl .nil))))))
                    · clear h; intro g5 h
                      refine gd_no h rfl rfl rfl rfl rfl rfl rfl rfl ?_; clear h a; intro a h
                      refine gd_no h rfl rfl rfl rfl rfl rfl rfl rfl ?_; clear h a; intro a h
                      refine gd_no h rfl rfl rfl rfl rfl rfl rfl rfl ?_; clear h a; intro a h
                      refine gd_no h rfl rfl rfl rfl rfl rfl rfl rfl ?_; clear h a; intro a h
                      refine st_pick_f h rfl rfl rfl rfl ?_; clear h a; intro a h
                      exact wpList_nil (bool_end h rfl (by first | exact bt (by omega) | exact bf (by omega) | exact bi (by omega) | exact bn (by omega)) (.cons rfl (.cons rfl (.cons rfl (.cons rfl (.cons rfl .nil))))))
                  · clear h; intro g4 h
                    refine gd_no h rfl rfl rfl rfl rfl rfl rfl rfl ?_; clear h a; intro a h
                    refine gd_no h rfl rfl rfl rfl rfl rfl rfl rfl ?_; clear h a; intro a h
                    refine gd_no h rfl rfl rfl rfl rfl rfl rfl rfl ?_; clear h a; intro a h
                    refine gd_no h rfl rfl rfl rfl rfl rfl rfl rfl ?_; clear h a; intro a h
                    refine st_pick_f h rfl rfl rfl rfl ?_; clear h a; intro a h
                    refine st_move h rfl rfl ?_; clear h a; intro a h
                    refine gd_no h rfl rfl rfl rfl rfl rfl rfl rfl ?_; clear h a; intro a h
                    refine gd_no h rfl rfl rfl rfl rfl rfl rfl rfl ?_; clear h a; intro a h
                    refine gd_no h rfl rfl rfl rfl rfl rfl rfl rfl ?_; clear h a; intro a h
                    refine gd_no h rfl rfl rfl rfl rfl rfl rfl rfl ?_; clear h a; intro a h
                    refine st_pick_f h rfl rfl rfl rfl ?_; clear h a; intro a h
                    exact wpList_nil (bool_end h rfl (by first | exact bt (by omega) | exact bf (by omega) | exact bi (by omega) | exact bn (by omega)) (.cons rfl (.cons rfl (.cons rfl (.cons rfl (.cons rfl .nil))))))
                · clear h a; intro a h
                  refine (norm_then ?_)
                  first | refine cond_dec h rfl (fun c5 => ?_) (fun c5 => ?_) | refine cond_ndec h rfl (fun c5 => ?_) (fun c5 => ?_) | refine cond_split h rfl (fun c5 => ?_) (fun c5 => ?_)
                  · have c5' : k < l.length ∧ l.getD k 0 ≠ 32 ∧ l.getD k 0 ≠ 93 := ⟨c5.1, fun e => c5.2.1 (by rw [e]; rfl), fun e => c5.2.2 (by rw [e]; rfl)⟩
                    refine wp_skip (norm_then ?_)
                    refine wp_block ?_
                    refine wp_region_lit ?_
                    refine st_move h rfl rfl ?_; clear h a; intro a h
                    refine st_add h rfl rfl (by first | exact IntWalk.i64_in _ (by omega) | rfl) rfl ?_; clear h a; intro a h
                    refine st_assign h rfl rfl ?_; clear h a; intro a h
                    replace h : Ag a 199 [(0, _), (4, _), (5, _), (6, _), (7, _)] := h.sub (.cons rfl (.cons rfl (.cons rfl (.cons rfl (.cons rfl .nil)))))
                    refine wpList_nil (norm_blk (norm_then ?_))
                    exact ⟨k + 1, h.sub (.cons rfl (.cons rfl (.cons rfl (.cons rfl (.cons rfl .nil))))), ⟨by omega, by omega, by rw [← hwe, wordEnd_next c5'], hO, hI, hy, hf⟩, by omega⟩
                  · have hke : wordEnd l (p + 2) = k := by
                      rw [← hwe]; exact wordEnd_here (fun e => c5 ⟨e.1, fun h => e.2.1 (byte_eq.1 h), fun h => e.2.2 (byte_eq.1 h)⟩)
                    have hwd : (l.take k).drop (p + 2) = wordS l (p + 2) := by rw [wordS, hke]
                    clear hwe
                    refine wp_exit (exit_then (exit_then (exit_here (norm_then ?_))))
                    refine wp_seq ?_
                    refine wp_region_lit ?_
                    refine st_move h rfl rfl ?_; clear h a; intro a h
                    refine st_move h rfl rfl ?_; clear h a; intro a h
                    refine st_move h rfl rfl ?_; clear h a; intro a h
                    refine st_ss_lh (p := p + 2) (p' := k) h rfl rfl rfl Tryd.underlying9 (by omega) (by omega) (by omega) (by omega) (by omega) rfl ?_; clear h a; intro a h
                    refine st_call h (evs_cons rfl (evs_cons rfl evs_nil)) co27 (number_ok _ _ _) rfl ?_; clear h a; rintro _ _ ⟨rfl, rfl⟩ a h
                    rw [hwd] at h
                    refine st_assign h rfl rfl ?_; clear h a; intro a h
                    replace h : Ag a 199 [(0, _), (4, _), (5, _), (6, _), (8, _)] := h.sub (.cons rfl (.cons rfl (.cons rfl (.cons rfl (.cons rfl .nil)))))
                    refine wpList_nil (norm_then ?_)
                    refine wp_seq ?_
                    refine wp_seq ?_
                    refine wp_region_lit ?_
                    refine st_move h rfl rfl ?_; clear h a; intro a h
                    refine st_eq h rfl rfl rfl ?_; clear h a; intro a h
                    replace h : Ag a 199 [(0, _), (4, _), (5, _), (6, _), (8, _), (85, _)] := h.sub (.cons rfl (.cons rfl (.cons rfl (.cons rfl (.cons rfl (.cons rfl .nil))))))
                    refine wpList_nil (norm_then ?_)
                    first | refine cond_dec h rfl (fun c6 => ?_) (fun c6 => ?_) | refine cond_ndec h rfl (fun c6 => ?_) (fun c6 => ?_) | refine cond_split h rfl (fun c6 => ?_) (fun c6 => ?_)
                    · refine id ?_
                      refine wp_seq ?_
                      refine wp_region_lit ?_
                      refine st_assign h rfl rfl ?_; clear h a; intro a h
                      refine st_assign h rfl rfl ?_; clear h a; intro a h
                      replace h : Ag a 199 [(2, _), (3, _)] := h.sub (.cons rfl (.cons rfl .nil))
                      refine wpList_nil (norm_then ?_)
                      refine wp_ret (ret_then (ret_then (ret_blk (ret_then (ret_blk (ret_then ?_))))))
                      refine ret2 h Tryd.results11 rfl rfl ?_
                      exact ⟨_, rfl, _, ([], 4), rfl, fun _ => hM _ (m_num hends c6), (fun e => by omega), Sl.nil _, hf⟩
                    · have hnr := number_rng (wordS l (p + 2))
                      obtain ⟨n, hn⟩ : ∃ n : Nat, numberS (wordS l (p + 2)) 16 = (n : Int) := ⟨(numberS (wordS l (p + 2)) 16).toNat, by omega⟩
                      have hn0 := c6
                      rw [hn] at h hnr
                      obtain ⟨ps', v, s, rfl⟩ : ∃ ps' v s, ps = ps' ++ [(v, s)] := ⟨ps.dropLast, (ps.getLast (by intro e; subst e; simp at c4q)).1, (ps.getLast (by intro e; subst e; simp at c4q)).2, (List.dropLast_concat_getLast _).symm⟩
                      rename List (SV × List Stitch) => ps
                      have hs17 : s.length ≤ 17 := hb17 (v, s) (by simp)
                      simp only [List.length_append, List.length_singleton] at h hdp hcO hO
                      rw [List.map_append] at hends
                      refine wp_skip (norm_then ?_)
                      refine wp_seq ?_
                      refine wp_region_lit ?_
                      refine st_move h rfl rfl ?_; clear h a; intro a h
                      refine st_move h rfl rfl ?_; clear h a; intro a h
                      refine st_lenS h rfl Tryd.underlying43 rfl ?_; clear h a; intro a h
                      refine st_sub h rfl rfl (by first | exact IntWalk.i64_in _ (by omega) | rfl) rfl ?_; clear h a; intro a h
                      refine st_idx (p := ps.length + 1) (e := u) h rfl rfl hO.sl el43 (by omega) (by omega) (top_get (by simp)) rfl ?_; clear h a; intro ad cc a h
                      refine st_loadC0 (v := slv u) h rfl cc na22 rfl ?_; clear h a; intro a h
                      refine st_assign h rfl rfl ?_; clear h a; intro a h
                      replace h : Ag a 199 [(0, _), (4, _), (5, _), (6, _), (8, _), (9, _)] := h.sub (.cons rfl (.cons rfl (.cons rfl (.cons rfl (.cons rfl (.cons rfl .nil))))))
                      refine wpList_nil (norm_then ?_)
                      refine wp_seq ?_
                      refine wp_region_lit ?_
                      refine st_move h rfl rfl ?_; clear h a; intro a h
                      refine st_move h rfl rfl ?_; clear h a; intro a h
                      refine st_lenS h rfl Tryd.underlying43 rfl ?_; clear h a; intro a h
                      refine st_sub h rfl rfl (by first | exact IntWalk.i64_in _ (by omega) | rfl) rfl ?_; clear h a; intro a h
                      refine st_sl_h (p := ps.length + 1) h rfl rfl el43 (by omega) (by omega) (by omega) rfl ?_; clear h a; intro a h
                      replace hO := Own.pop hO (m := ps.length + 1) (by simp)
                      replace hI := hI.swap
                      refine st_assign h rfl rfl ?_; clear h a; intro a h
                      replace h : Ag a 199 [(0, _), (4, _), (5, _), (6, _), (8, _), (9, _)] := h.sub (.cons rfl (.cons rfl (.cons rfl (.cons rfl (.cons rfl (.cons rfl .nil))))))
                      refine wpList_nil (norm_then ?_)
                      refine wp_seq ?_
                      refine wp_region_lit ?_
                      refine st_move h rfl rfl ?_; clear h a; intro a h
                      refine st_move h rfl rfl ?_; clear h a; intro a h
                      refine st_lenS h rfl Tryd.underlying43 rfl ?_; clear h a; intro a h
                      refine st_sub h rfl rfl (by first | exact IntWalk.i64_in _ (by omega) | rfl) rfl ?_; clear h a; intro a h
                      refine st_idx (p := ps.length) (e := v) h rfl rfl hO.sl el43 (by omega) (by omega) (top_get (rfl)) rfl ?_; clear h a; intro ad cc a h
                      refine st_loadC0 (v := slv v) h rfl cc na22 rfl ?_; clear h a; intro a h
                      refine st_assign h rfl rfl ?_; clear h a; intro a h
                      replace h : Ag a 199 [(0, _), (4, _), (5, _), (6, _), (8, _), (9, _), (10, _)] := h.sub (.cons rfl (.cons rfl (.cons rfl (.cons rfl (.cons rfl (.cons rfl (.cons rfl .nil)))))))
                      refine wpList_nil (norm_then ?_)
                      refine wp_seq ?_
                      refine wp_seq ?_
                      refine wp_region_lit ?_
                      refine st_assign h rfl rfl ?_; clear h a; intro a h
                      refine wpList_nil (norm_then ?_)
                      refine wp_block ?_
                      refine loop (ι := Nat × SV) (fun z => [(0, S l), (4, .slice (some ⟨g, 0, none⟩) (ps.length + 1) c), (5, .int .i64 (k : Int)), (6, .bool false), (8, .int .i64 (n : Int)), (9, slv u), (10, slv z.2), (11, .int .i64 (z.1 : Int))]) (fun z w' => z.1 ≤ n ∧ (s ++ timesS t z.1).length ≤ 33 ∧ Own Enc.sl 22 w0.heap.size w' (.slice (some ⟨g, 0, none⟩) (ps.length + 1) c) ((ps ++ [(v, s)]).map Prod.fst) ∧ Ins encSt 36 w0.heap.size w' [g] (ps ++ [(u, t)] ++ [(z.2, s ++ timesS t z.1)]) ∧ Sym w' ∧ Fr [] w0 w') (fun z => n - z.1) (0, v) (h.sub (.cons rfl (.cons rfl (.cons rfl (.cons rfl (.cons rfl (.cons rfl (.cons rfl (.cons rfl .nil))))))))) ⟨Nat.zero_le _, by rw [show timesS t 0 = [] from rfl, List.append_nil]; omega, hO, by rw [show timesS t 0 = [] from rfl, List.append_nil]; exact hI, hy, hf⟩ ?_
                      clear h a hO hI hy hf
                      rintro ⟨j, v1⟩ w4 a h ⟨hjn, h33, hO, hI, hy, hf⟩
                      simp only at hjn h33 hI h
                      have hvl := Own.lens hI.last
                      refine wp_seq ?_
                      refine wp_seq ?_
                      refine region_bool (r := 110) (L' := [(0, _), (4, _), (5, _), (6, _), (8, _), (9, _), (10, _), (11, _)]) (j < n ∧ (s ++ timesS t j).length < 17) h (.cons rfl (.cons rfl (.cons rfl (.cons rfl (.cons rfl (.cons rfl (.cons rfl (.cons rfl .nil)))))))) ?_ ?_
                      · refine id ?_
                        refine st_move h rfl rfl ?_; clear h a; intro a h
                        refine st_move h rfl rfl ?_; clear h a; intro a h
                        refine st_lt h rfl rfl rfl ?_; clear h a; intro a h
                        refine st_move h rfl rfl ?_; clear h a; intro a h
                        first | refine guard_dec (D := 106) h rfl ?_ ?_ | refine guard_ndec (D := 106) h rfl ?_ ?_ | refine guard_any (D := 106) h rfl ?_ ?_
                        · clear h; intro g6 h
                          refine gd_yes h rfl rfl rfl rfl rfl rfl ?_
                          refine st_move h rfl rfl ?_; clear h a; intro a h
                          refine gd_yes h rfl rfl rfl rfl rfl rfl ?_
                          refine st_lenS h rfl Tryd.underlying22 rfl ?_; clear h a; intro a h
                          refine gd_yes h rfl rfl rfl rfl rfl rfl ?_
                          refine st_lt h rfl rfl rfl ?_; clear h a; intro a h
                          refine st_pick_t h rfl rfl rfl rfl ?_; clear h a; intro a h
                          exact wpList_nil (bool_end h rfl (by first | exact bt (by omega) | exact bf (by omega) | exact bi (by omega) | exact bn (by omega)) (.cons rfl (.cons rfl (.cons rfl (.cons rfl (.cons rfl (.cons rfl (.cons rfl (.cons rfl .nil)))))))))
                        · clear h; intro g6 h
                          refine gd_no h rfl rfl rfl rfl rfl rfl rfl rfl ?_; clear h a; intro a h
                          refine gd_no h rfl rfl rfl rfl rfl rfl rfl rfl ?_; clear h a; intro a h
                          refine gd_no h rfl rfl rfl rfl rfl rfl rfl rfl ?_; clear h a; intro a h
                          refine st_pick_f h rfl rfl rfl rfl ?_; clear h a; intro a h
                          exact wpList_nil (bool_end h rfl (by first | exact bt (by omega) | exact bf (by omega) | exact bi (by omega) | exact bn (by omega)) (.cons rfl (.cons rfl (.cons rfl (.cons rfl (.cons rfl (.cons rfl (.cons rfl (.cons rfl .nil)))))))))
                      · clear h a; intro a h
                        refine (norm_then ?_)
                        first | refine cond_dec h rfl (fun c7 => ?_) (fun c7 => ?_) | refine cond_ndec h rfl (fun c7 => ?_) (fun c7 => ?_) | refine cond_split h rfl (fun c7 => ?_) (fun c7 => ?_)
                        · refine id ?_
                          refine wp_skip (norm_then ?_)
                          refine wp_seq ?_
                          refine wp_block ?_
                          refine wp_region_lit ?_
                          refine st_move h rfl rfl ?_; clear h a; intro a h
                          refine st_move h rfl rfl ?_; clear h a; intro a h
                          have htk : (timesS t j).length ≤ 16 * 17 := by rw [times_len]; exact Nat.mul_le_mul (by omega) ht17
                          have hgw : ∀ k ∈ [g], k < w4.heap.size := fun k hk => by simp at hk; subst hk; exact (hO.blk _ (by simp [blks])).2
                          refine st_append h rfl rfl hI.last hI.left.last.sl el22 (by unfold maxLen; omega) (by omega) (by have := hf.size; omega) rfl ?_; clear h a; intro v3 w5 ho3 hq hx3 a h
                          have hbl := hI.last.blk
                          replace hO := hO.fr hq (fun k hk hk2 => hI.lastOff k hk (by simpa [blks] using hk2))
                          replace hy := hy.fr hq (fun hb => by have := (hbl _ hb).1; omega)
                          replace hf := hf.step hq (fun k hk hlt => absurd (hbl k hk).1 (by omega))
                          obtain ⟨u3, rfl, hI3⟩ := Ins.app hI ho3 hq hx3 hgw
                          rw [show s ++ timesS t j ++ t = s ++ timesS t (j + 1) by rw [times_succ, List.append_assoc]] at hI3
                          clear hI hq hx3 ho3 hbl hgw; have hI := hI3; clear hI3
                          refine st_assign h rfl rfl ?_; clear h a; intro a h
                          replace h : Ag a 199 [(0, _), (4, _), (5, _), (6, _), (8, _), (9, _), (10, _), (11, _)] := h.sub (.cons rfl (.cons rfl (.cons rfl (.cons rfl (.cons rfl (.cons rfl (.cons rfl (.cons rfl .nil))))))))
                          refine wpList_nil (norm_blk (norm_then ?_))
                          refine wp_region_lit ?_
                          refine st_move h rfl rfl ?_; clear h a; intro a h
                          refine st_add h rfl rfl (by first | exact IntWalk.i64_in _ (by omega) | rfl) rfl ?_; clear h a; intro a h
                          refine st_assign h rfl rfl ?_; clear h a; intro a h
                          replace h : Ag a 199 [(0, _), (4, _), (5, _), (6, _), (8, _), (9, _), (10, _), (11, _)] := h.sub (.cons rfl (.cons rfl (.cons rfl (.cons rfl (.cons rfl (.cons rfl (.cons rfl (.cons rfl .nil))))))))
                          refine wpList_nil (norm_then ?_)
                          exact ⟨(j + 1, u3), h.sub (.cons rfl (.cons rfl (.cons rfl (.cons rfl (.cons rfl (.cons rfl (.cons rfl (.cons rfl .nil)))))))), ⟨by simp only; omega, by simp only; rw [times_succ, ← List.append_assoc, List.length_append]; omega, hO, hI, hy, hf⟩, by simp only; omega⟩
                        · refine id ?_
                          refine wp_exit (exit_then (exit_then (exit_here (norm_then ?_))))
                          refine wp_seq ?_
                          refine wp_region_lit ?_
                          refine st_move h rfl rfl ?_; clear h a; intro a h
                          refine st_move h rfl rfl ?_; clear h a; intro a h
                          refine st_lenS h rfl Tryd.underlying43 rfl ?_; clear h a; intro a h
                          refine st_sub h rfl rfl (by first | exact IntWalk.i64_in _ (by omega) | rfl) rfl ?_; clear h a; intro a h
                          refine st_move h rfl rfl ?_; clear h a; intro a h
                          refine st_move h rfl rfl ?_; clear h a; intro a h
                          refine st_lenS h rfl Tryd.underlying22 rfl ?_; clear h a; intro a h
                          refine st_min h rfl rfl rfl ?_; clear h a; intro a h
                          refine st_sl_h (p := min (s ++ timesS t j).length 17) h rfl rfl el22 (by omega) (by omega) (by omega) rfl ?_; clear h a; intro a h
                          refine st_idxS (p := ps.length) h rfl rfl el43 (by omega) (by omega) (by omega) rfl ?_; clear h a; intro a h
                          refine st_storeO (v1.1, min (s ++ timesS t j).length 17, v1.2.2) h rfl rfl hO (by simp) rfl sz22 ?_; clear h a; intro w6 hO2 hq hz a h
                          replace hO := Own.reTop hO2 rfl ((s ++ timesS t j).take 17)
                          replace hI := ((hI.cut (u := v1) (A := v1.1) (n := v1.2.1) (c := v1.2.2) (c' := v1.2.2) rfl (m := min (s ++ timesS t j).length 17) (by omega) (Nat.le_refl _) (by omega)).swap).left
                          rw [take_min] at hI
                          replace hI := hI.fr hq (fun k hk q hq2 hk2 => hI.off q hq2 k hk2 hk)
                          replace hy := hy.fr hq (by simp; omega)
                          replace hf := hf.step hq (by simp; omega)
                          clear hq hz hO2
                          replace h : Ag a 199 [(0, _), (4, _), (5, _), (6, _)] := h.sub (.cons rfl (.cons rfl (.cons rfl (.cons rfl .nil))))
                          refine wpList_nil (norm_then ?_)
                          refine wp_exit (exit_then (exit_here (norm_then ?_)))
                          exact ⟨⟨ps, _, (s ++ timesS t j).take 17, k, false, g, c⟩, h.sub (.cons rfl (.cons rfl (.cons rfl (.cons rfl .nil)))), ⟨hO, hI, by simp only; omega, by simp only; omega, fun q hq => hb17 q (by simp [hq]), by simp; omega, fun R m => hM R (by rw [List.map_append]; exact m_close hends hn0 (by rw [hke, hn, Int.toNat_natCast, rep_cut hjn c7]; exact m)), hy, hf⟩, by simp only; omega⟩
        · obtain rfl : it = true := by simpa using c2
          refine wp_skip (norm_then ?_)
          refine wp_seq ?_
          refine wp_seq ?_
          refine wp_region_lit ?_
          refine st_move h rfl rfl ?_; clear h a; intro a h
          refine st_move h rfl rfl ?_; clear h a; intro a h
          refine st_len h rfl Tryd.underlying9 rfl ?_; clear h a; intro a h
          refine st_ge h rfl rfl rfl ?_; clear h a; intro a h
          replace h : Ag a 199 [(0, _), (4, _), (5, _), (6, _), (129, _)] := h.sub (.cons rfl (.cons rfl (.cons rfl (.cons rfl (.cons rfl .nil)))))
          refine wpList_nil (norm_then ?_)
          first | refine cond_dec h rfl (fun c8 => ?_) (fun c8 => ?_) | refine cond_ndec h rfl (fun c8 => ?_) (fun c8 => ?_) | refine cond_split h rfl (fun c8 => ?_) (fun c8 => ?_)
          · refine id ?_
            refine wp_seq ?_
            refine wp_region_lit ?_
            refine st_assign h rfl rfl ?_; clear h a; intro a h
            refine st_assign h rfl rfl ?_; clear h a; intro a h
            replace h : Ag a 199 [(2, _), (3, _)] := h.sub (.cons rfl (.cons rfl .nil))
            refine wpList_nil (norm_then ?_)
            refine wp_ret (ret_then (ret_blk (ret_then (ret_blk (ret_then ?_)))))
            refine ret2 h Tryd.results11 rfl rfl ?_
            exact ⟨_, rfl, _, ([], 4), rfl, fun _ => hM _ (m_end (by omega)), (fun e => by omega), Sl.nil _, hf⟩
          · refine id ?_
            refine wp_skip (norm_then ?_)
            refine wp_seq ?_
            refine wp_seq ?_
            refine wp_region_lit ?_
            refine st_move h rfl rfl ?_; clear h a; intro a h
            refine st_move h rfl rfl ?_; clear h a; intro a h
            refine st_index (p := p) h rfl rfl Tryd.underlying9 (by omega) (by omega) (by omega) rfl ?_; clear h a; intro hy132 a h
            refine st_eq h rfl rfl rfl ?_; clear h a; intro a h
            replace h : Ag a 199 [(0, _), (4, _), (5, _), (6, _), (133, _)] := h.sub (.cons rfl (.cons rfl (.cons rfl (.cons rfl (.cons rfl .nil)))))
            refine wpList_nil (norm_then ?_)
            first | refine cond_dec h rfl (fun c9 => ?_) (fun c9 => ?_) | refine cond_ndec h rfl (fun c9 => ?_) (fun c9 => ?_) | refine cond_split h rfl (fun c9 => ?_) (fun c9 => ?_)
            · refine id ?_
              refine wp_seq ?_
              refine wp_region_lit ?_
              refine st_move h rfl rfl ?_; clear h a; intro a h
              refine st_bslice [((none, 0, 0) : SV)] h (evs_cons rfl evs_nil) rfl rfl rfl el43 (by decide) rfl ?_; clear h a; intro gN w7 hg hoN hq hz a h
              replace hf := hf.next hq
              replace hy := hy.ext hq
              replace hO := hO.ext hq
              replace hI := hI.ext hq
              clear hq hz hg
              have hbO := hO.blk
              refine st_append h rfl rfl hO hoN.sl el43 (by unfold maxLen; simp; omega) (by simp; omega) (by have := hf.size; omega) rfl ?_; clear h a; intro v3 w9 ho3 hq hx3 a h
              obtain ⟨g3, cp3, rfl, hg3, hc3, hs3⟩ := Own.at_ ho3 (by simp)
              rw [show (((ps ++ [(u, t)]).map Prod.fst) ++ [((none, 0, 0) : SV)]).length = (ps ++ [(u, t)]).length + 1 by simp] at h ho3 hx3
              replace hI := (Ins.grow hI hq hx3).pushNil
              replace hy := hy.fr hq (fun hb => by have := (hbO _ hb).1; omega)
              replace hf := hf.step hq (fun k hk hlt => absurd (hbO k hk).1 (by omega))
              replace hO := ho3
              clear hq hx3 hoN ho3 hbO
              refine st_assign h rfl rfl ?_; clear h a; intro a h
              replace h : Ag a 199 [(0, _), (4, _), (5, _), (6, _)] := h.sub (.cons rfl (.cons rfl (.cons rfl (.cons rfl .nil))))
              refine wpList_nil (norm_then ?_)
              refine wp_seq ?_
              refine wp_region_lit ?_
              refine st_move h rfl rfl ?_; clear h a; intro a h
              refine st_add h rfl rfl (by first | exact IntWalk.i64_in _ (by omega) | rfl) rfl ?_; clear h a; intro a h
              refine st_assign h rfl rfl ?_; clear h a; intro a h
              replace h : Ag a 199 [(0, _), (4, _), (5, _), (6, _)] := h.sub (.cons rfl (.cons rfl (.cons rfl (.cons rfl .nil))))
              refine wpList_nil (norm_then ?_)
              refine wp_exit (exit_then (exit_here (norm_then ?_)))
              exact ⟨⟨ps ++ [(u, t)], (none, 0, 0), [], p + 1, true, g3, cp3⟩, h.sub (.cons rfl (.cons rfl (.cons rfl (.cons rfl .nil)))), ⟨by simpa using hO, hI, by simp only; omega, by simp; omega, fun q hq => by simp at hq; rcases hq with hq | rfl; exact hb17 q hq; exact ht17, by simp, fun R m => hM R (m_open (by omega) (byte_eq.1 c9) (by simpa using m)), hy, hf⟩, by simp only; omega⟩
            · refine id ?_
              refine wp_skip (norm_then ?_)
              refine wp_seq ?_
              refine wp_region_lit ?_
              refine st_move h rfl rfl ?_; clear h a; intro a h
              refine st_assign h rfl rfl ?_; clear h a; intro a h
              replace h : Ag a 199 [(0, _), (4, _), (5, _), (12, _)] := h.sub (.cons rfl (.cons rfl (.cons rfl (.cons rfl .nil))))
              refine wpList_nil (norm_then ?_)
              refine wp_seq ?_
              refine wp_block ?_
              refine loop (ι := Nat) (fun k => [(0, S l), (4, .slice (some ⟨g, 0, none⟩) (ps.length + 1) c), (12, .int .i64 (p : Int)), (5, .int .i64 (k : Int))]) (fun k w' => p ≤ k ∧ k ≤ l.length ∧ wordEnd l k = wordEnd l (p) ∧ Own Enc.sl 22 w0.heap.size w' (.slice (some ⟨g, 0, none⟩) (ps.length + 1) c) ((ps ++ [(u, t)]).map Prod.fst) ∧ Ins encSt 36 w0.heap.size w' [g] (ps ++ [(u, t)]) ∧ Sym w' ∧ Fr [] w0 w') (fun k => l.length - k) (p) (h.sub (.cons rfl (.cons rfl (.cons rfl (.cons rfl .nil))))) ⟨Nat.le_refl _, by omega, rfl, hO, hI, hy, hf⟩ ?_
              clear h a hO hI hy hf
              rintro k w10 a h ⟨hpk, hkl, hwe, hO, hI, hy, hf⟩
              refine wp_seq ?_
              refine wp_seq ?_
              refine region_bool (r := 155) (L' := [(0, _), (4, _), (5, _), (12, _)]) (k < l.length ∧ ((l.getD k 0).toNat : Int) ≠ 32 ∧ ((l.getD k 0).toNat : Int) ≠ 93) h (.cons rfl (.cons rfl (.cons rfl (.cons rfl .nil)))) ?_ ?_
              · refine id ?_
                refine st_move h rfl rfl ?_; clear h a; intro a h
                refine st_move h rfl rfl ?_; clear h a; intro a h
                refine st_len h rfl Tryd.underlying9 rfl ?_; clear h a; intro a h
                refine st_lt h rfl rfl rfl ?_; clear h a; intro a h
                refine st_move h rfl rfl ?_; clear h a; intro a h
                first | refine guard_dec (D := 144) h rfl ?_ ?_ | refine guard_ndec (D := 144) h rfl ?_ ?_ | refine guard_any (D := 144) h rfl ?_ ?_
                · clear h; intro g7 h
                  refine gd_yes h rfl rfl rfl rfl rfl rfl ?_
                  refine st_move h rfl rfl ?_; clear h a; intro a h
                  refine gd_yes h rfl rfl rfl rfl rfl rfl ?_
                  refine st_move h rfl rfl ?_; clear h a; intro a h
                  refine gd_yes h rfl rfl rfl rfl rfl rfl ?_
                  refine st_index (p := k) h rfl rfl Tryd.underlying9 (by omega) (by omega) (by omega) rfl ?_; clear h a; intro hy147 a h
                  refine gd_yes h rfl rfl rfl rfl rfl rfl ?_
                  refine st_ne h rfl rfl rfl ?_; clear h a; intro a h
                  refine st_pick_t h rfl rfl rfl rfl ?_; clear h a; intro a h
                  refine st_move h rfl rfl ?_; clear h a; intro a h
                  first | refine guard_dec (D := 150) h rfl ?_ ?_ | refine guard_ndec (D := 150) h rfl ?_ ?_ | refine guard_any (D := 150) h rfl ?_ ?_
                  · clear h; intro g8 h
                    refine gd_yes h rfl rfl rfl rfl rfl rfl ?_
                    refine st_move h rfl rfl ?_; clear h a; intro a h
                    refine gd_yes h rfl rfl rfl rfl rfl rfl ?_
                    refine st_move h rfl rfl ?_; clear h a; intro a h
                    refine gd_yes h rfl rfl rfl rfl rfl rfl ?_
                    refine st_index (p := k) h rfl rfl Tryd.underlying9 (by omega) (by omega) (by omega) rfl ?_; clear h a; intro hy153 a h
                    refine gd_yes h rfl rfl rfl rfl rfl rfl ?_
                    refine st_ne h rfl rfl rfl ?_; clear h a; intro a h
                    refine st_pick_t h rfl rfl rfl rfl ?_; clear h a; intro a h
                    exact wpList_nil (bool_end h rfl (by first | exact bt (by omega) | exact bf (by omega) | exact bi (by omega) | exact bn (by omega)) (.cons rfl (.cons rfl (.cons rfl (.cons rfl .nil)))))
                  · clear h; intro g8 h
                    refine gd_no h rfl rfl rfl rfl rfl rfl rfl rfl ?_; clear h a; intro a h
                    refine gd_no h rfl rfl rfl rfl rfl rfl rfl rfl ?_; clear h a; intro a h
                    refine gd_no h rfl rfl rfl rfl rfl rfl rfl rfl ?_; clear h a; intro a h
                    refine gd_no h rfl rfl rfl rfl rfl rfl rfl rfl ?_; clear h a; intro a h
                    refine st_pick_f h rfl rfl rfl rfl ?_; clear h a; intro a h
                    exact wpList_nil (bool_end h rfl (by first | exact bt (by omega) | exact bf (by omega) | exact bi (by omega) | exact bn (by omega)) (.cons rfl (.cons rfl (.cons rfl (.cons rfl .nil)))))
                · clear h; intro g7 h
                  refine gd_no h rfl rfl rfl rfl rfl rfl rfl rfl ?_; clear h a; intro a h
                  refine gd_no h rfl rfl rfl rfl rfl rfl rfl rfl ?_; clear h a; intro a h
                  refine gd_no h rfl rfl rfl rfl rfl rfl rfl rfl ?_; clear h a; intro a h
                  refine gd_no h rfl rfl rfl rfl rfl rfl rfl rfl ?_; clear h a; intro a h
                  refine st_pick_f h rfl rfl rfl rfl ?_; clear h a; intro a h
                  refine st_move h rfl rfl ?_; clear h a; intro a h
                  refine gd_no h rfl rfl rfl rfl rfl rfl rfl rfl ?_; clear h a; intro a h
                  refine gd_no h rfl rfl rfl rfl rfl rfl rfl rfl ?_; clear h a; intro a h
                  refine gd_no h rfl rfl rfl rfl rfl rfl rfl rfl ?_; clear h a; intro a h
                  refine gd_no h rfl rfl rfl rfl rfl rfl rfl rfl ?_; clear h a; intro a h
                  refine st_pick_f h rfl rfl rfl rfl ?_; clear h a; intro a h
                  exact wpList_nil (bool_end h rfl (by first | exact bt (by omega) | exact bf (by omega) | exact bi (by omega) | exact bn (by omega)) (.cons rfl (.cons rfl (.cons rfl (.cons rfl .nil)))))
              · clear h a; intro a h
                refine (norm_then ?_)
                first | refine cond_dec h rfl (fun c10 => ?_) (fun c10 => ?_) | refine cond_ndec h rfl (fun c10 => ?_) (fun c10 => ?_) | refine cond_split h rfl (fun c10 => ?_) (fun c10 => ?_)
                · have c10' : k < l.length ∧ l.getD k 0 ≠ 32 ∧ l.getD k 0 ≠ 93 := ⟨c10.1, fun e => c10.2.1 (by rw [e]; rfl), fun e => c10.2.2 (by rw [e]; rfl)⟩
                  refine wp_skip (norm_then ?_)
                  refine wp_block ?_
                  refine wp_region_lit ?_
                  refine st_move h rfl rfl ?_; clear h a; intro a h
                  refine st_add h rfl rfl (by first | exact IntWalk.i64_in _ (by omega) | rfl) rfl ?_; clear h a; intro a h
                  refine st_assign h rfl rfl ?_; clear h a; intro a h
                  replace h : Ag a 199 [(0, _), (4, _), (5, _), (12, _)] := h.sub (.cons rfl (.cons rfl (.cons rfl (.cons rfl .nil))))
                  refine wpList_nil (norm_blk (norm_then ?_))
                  exact ⟨k + 1, h.sub (.cons rfl (.cons rfl (.cons rfl (.cons rfl .nil)))), ⟨by omega, by omega, by rw [← hwe, wordEnd_next c10'], hO, hI, hy, hf⟩, by omega⟩
                · have hke : wordEnd l (p) = k := by
                    rw [← hwe]; exact wordEnd_here (fun e => c10 ⟨e.1, fun h => e.2.1 (byte_eq.1 h), fun h => e.2.2 (byte_eq.1 h)⟩)
                  have hwd : (l.take k).drop (p) = wordS l (p) := by rw [wordS, hke]
                  clear hwe
                  refine wp_exit (exit_then (exit_then (exit_here (norm_then ?_))))
                  refine wp_seq ?_
                  refine wp_region_lit ?_
                  refine st_move h rfl rfl ?_; clear h a; intro a h
                  refine st_move h rfl rfl ?_; clear h a; intro a h
                  refine st_move h rfl rfl ?_; clear h a; intro a h
                  refine st_ss_lh (p := p) (p' := k) h rfl rfl rfl Tryd.underlying9 (by omega) (by omega) (by omega) (by omega) (by omega) rfl ?_; clear h a; intro a h
                  refine st_call h (evs_cons rfl evs_nil) co28 (parse_ok _ _ hy) rfl ?_; clear h a; rintro _ w11 ⟨rfl, hq⟩ a h
                  replace hf := hf.next hq
                  replace hy := hy.ext hq
                  replace hO := hO.ext hq
                  replace hI := hI.ext hq
                  clear hq
                  rw [hwd] at h
                  refine st_move h rfl rfl ?_; clear h a; intro a h
                  refine st_extract h rfl rfl rfl ?_; clear h a; intro a h
                  refine st_extract h rfl rfl rfl ?_; clear h a; intro a h
                  refine st_alloc h zv36 rfl rfl ?_; clear h a; intro w12 hb13 hq hz a h
                  obtain ⟨g_13, hg⟩ : ∃ g, g = w11.heap.size := ⟨_, rfl⟩; rw [← hg] at hb13 h hz
                  have hl13 : w0.heap.size ≤ g_13 := by have := hf.size; omega
                  have hg13 : g < g_13 := by have := (hO.blk g (by simp [blks])).2; omega
                  have hI13 : ∀ q ∈ ps ++ [(u, t)], g_13 ∉ blks (slv q.1) := fun q hq2 hk => by have := (hI.blk q hq2 _ hk).2; omega
                  replace hf := hf.next hq
                  replace hy := hy.ext hq
                  replace hO := hO.ext hq
                  replace hI := hI.ext hq
                  clear hq hz hg
                  refine st_storeBA h rfl rfl hb13 rfl (by first | (simp [Value.oneCell', S]; done) | exact Enc.one _ _) sz36 ?_; clear h a; intro w13 hbn hq hz a h
                  replace hf := hf.step hq (by first | (simp; done) | (simp; omega))
                  replace hy := hy.fr hq (by first | (simp; done) | (simp; omega) | (simp [blks]; done) | (simp [blks]; omega))
                  replace hO := hO.fr hq (by simp [blks]; omega)
                  replace hI := hI.fr hq (fun k hk q hq2 hk2 => by simp at hk; subst hk; exact hI13 q hq2 hk2)
                  clear hb13 hq hz; have hb13 : Blk w13 g_13 _ [_, _, _, _, _] := hbn; clear hbn
                  refine st_assign h rfl rfl ?_; clear h a; intro a h
                  replace h : Ag a 199 [(0, _), (4, _), (5, _), (13, _), (14, _)] := h.sub (.cons rfl (.cons rfl (.cons rfl (.cons rfl (.cons rfl .nil)))))
                  refine wpList_nil (norm_then ?_)
                  refine wp_seq ?_
                  refine wp_seq ?_
                  refine wp_region_lit ?_
                  refine st_move h rfl rfl ?_; clear h a; intro a h
                  refine st_ne h rfl rfl rfl ?_; clear h a; intro a h
                  replace h : Ag a 199 [(0, _), (4, _), (5, _), (13, _), (167, _)] := h.sub (.cons rfl (.cons rfl (.cons rfl (.cons rfl (.cons rfl .nil)))))
                  refine wpList_nil (norm_then ?_)
                  first | refine cond_dec h rfl (fun c11 => ?_) (fun c11 => ?_) | refine cond_ndec h rfl (fun c11 => ?_) (fun c11 => ?_) | refine cond_split h rfl (fun c11 => ?_) (fun c11 => ?_)
                  · refine id ?_
                    refine wp_seq ?_
                    refine wp_region_lit ?_
                    refine st_assign h rfl rfl ?_; clear h a; intro a h
                    refine st_assign h rfl rfl ?_; clear h a; intro a h
                    replace h : Ag a 199 [(2, _), (3, _)] := h.sub (.cons rfl (.cons rfl .nil))
                    refine wpList_nil (norm_then ?_)
                    refine wp_ret (ret_then (ret_blk (ret_then (ret_blk (ret_then ?_)))))
                    refine ret2 h Tryd.results11 rfl rfl ?_
                    exact ⟨_, rfl, _, ([], 4), rfl, fun _ => hM _ (m_leaf4 (by omega) (fun e => c9 (by rw [e]; rfl)) c11), (fun e => by omega), Sl.nil _, hf⟩
                  · have hx0 : (parseS (wordS l p)).2 = 0 := by omega
                    have hpk' := word_pos hpl hx0
                    rw [hke] at hpk'
                    refine wp_skip (norm_then ?_)
                    refine wp_seq ?_
                    refine wp_seq ?_
                    refine wp_region_lit ?_
                    refine st_move h rfl rfl ?_; clear h a; intro a h
                    refine st_move h rfl rfl ?_; clear h a; intro a h
                    refine st_lenS h rfl Tryd.underlying43 rfl ?_; clear h a; intro a h
                    refine st_sub h rfl rfl (by first | exact IntWalk.i64_in _ (by omega) | rfl) rfl ?_; clear h a; intro a h
                    refine st_idx (p := ps.length) (e := u) h rfl rfl hO.sl el43 (by omega) (by omega) (top_get (rfl)) rfl ?_; clear h a; intro ad cc a h
                    refine st_loadC0 (v := slv u) h rfl cc na22 rfl ?_; clear h a; intro a h
                    have hul := Own.lens hI.last
                    refine st_assign h rfl rfl ?_; clear h a; intro a h
                    replace h : Ag a 199 [(0, _), (4, _), (5, _), (13, _), (15, _)] := h.sub (.cons rfl (.cons rfl (.cons rfl (.cons rfl (.cons rfl .nil)))))
                    refine wpList_nil (norm_then ?_)
                    refine wp_seq ?_
                    refine wp_region_lit ?_
                    refine st_move h rfl rfl ?_; clear h a; intro a h
                    refine st_lenS h rfl Tryd.underlying22 rfl ?_; clear h a; intro a h
                    refine st_lt h rfl rfl rfl ?_; clear h a; intro a h
                    replace h : Ag a 199 [(0, _), (4, _), (5, _), (13, _), (15, _), (176, _)] := h.sub (.cons rfl (.cons rfl (.cons rfl (.cons rfl (.cons rfl (.cons rfl .nil))))))
                    refine wpList_nil (norm_then ?_)
                    first | refine cond_dec h rfl (fun c12 => ?_) (fun c12 => ?_) | refine cond_ndec h rfl (fun c12 => ?_) (fun c12 => ?_) | refine cond_split h rfl (fun c12 => ?_) (fun c12 => ?_)
                    · refine id ?_
                      refine region_held (fun wb w' => Fr [g] wb w') hmix ?_; intro w14 hq
                      replace hf := hf.next hq
                      replace hy := hy.ext hq
                      replace hO := hO.ext hq
                      replace hI := hI.ext hq
                      replace hb13 := hb13.ext hq
                      clear hq; have hC : Fr [g] w14 w14 := Fr.refl _ _
                      have hy_b := hy
                      have hO_b := hO
                      have hI_b := hI
                      have hb13_b := hb13
                      refine hd_move 0 (by kernel_rfl) (by kernel_rfl) (by kernel_rfl) hC h rfl rfl rfl ?_; clear h a; intro a h
                      refine hd_move 1 (by kernel_rfl) (by kernel_rfl) (by kernel_rfl) hC h rfl rfl rfl ?_; clear h a; intro a h
                      refine hd_lenS 2 (by kernel_rfl) (by kernel_rfl) (by kernel_rfl) hC h rfl Tryd.underlying43 rfl rfl ?_; clear h a; intro a h
                      refine hd_sub 3 (by kernel_rfl) (by kernel_rfl) (by kernel_rfl) hC h rfl rfl (by first | exact IntWalk.i64_in _ (by omega) | rfl) rfl rfl ?_; clear h a; intro a h
                      refine hd_move 5 (by kernel_rfl) (by kernel_rfl) (by kernel_rfl) hC h rfl rfl rfl ?_; clear h a; intro a h
                      refine hd_loadBA 7 (by kernel_rfl) (by kernel_rfl) (by kernel_rfl) hC h rfl (fun _ hw => hb13_b.fr hw (by simp; omega)) ag36 rfl rfl ?_; clear h a; intro a h
                      refine hd_two 4 8 (by kernel_rfl) rfl rfl ?_ ?_
                      · refine id ?_
                        refine st_bslice ([] : List Stitch) h evs_nil rfl rfl rfl el22 (by decide) rfl ?_; clear h a; intro gE w15 hg hoE hq hz a h
                        have hgE : g < gE := by have := (hO.blk g (by simp [blks])).2; omega
                        have hE13 : g_13 < gE := by have := hb13.lt; omega
                        have hwE : w0.heap.size ≤ gE := by have := hf.size; omega
                        have hCE := Nat.le_trans hC.size (Nat.le_of_eq hg.symm)
                        have hIE : ∀ q ∈ ps ++ [(u, t)], ∀ k ∈ blks (slv q.1), k < gE := fun q hq2 k hk => by have := (hI.blk q hq2 k hk).2; omega
                        replace hf := hf.next hq
                        replace hy := hy.ext hq
                        replace hO := hO.ext hq
                        replace hI := hI.ext hq
                        replace hb13 := hb13.ext hq
                        replace hC := hC.next hq
                        clear hq hz hg
                        refine hd_next hC ?_
                        refine hd_two 6 8 (by kernel_rfl) rfl rfl ?_ ?_
                        · refine id ?_
                          refine st_append h rfl rfl hoE hI.last.sl el22 (by unfold maxLen; simp; omega) (by simp; omega) (by have := (hoE.blk gE (by simp [blks])).2; omega) rfl ?_; clear h a; intro v6 w16 ho6 hq hx6 a h
                          replace hf := hf.step hq (fun k hk hlt => by simp [blks] at hk; omega)
                          replace hy := hy.fr hq (by simp [blks]; omega)
                          replace hO := hO.fr hq (by simp [blks]; omega)
                          replace hI := hI.fr hq (fun k hk q hq2 hk2 => by simp [blks] at hk; have := hIE q hq2 k hk2; omega)
                          replace hb13 := hb13.fr hq (by simp [blks]; omega)
                          replace hC := hC.step hq (fun k hk hlt => by simp [blks] at hk; omega)
                          have hEs := Nat.le_trans (Nat.le_of_lt (hoE.blk gE (by simp [blks])).2) hq.size
                          clear hq hx6 hoE
                          refine hd_next hC ?_
                          refine hd_one 8 (by kernel_rfl) rfl ?_
                          refine st_bslice [(parseS (wordS l p)).1] h (evs_cons rfl evs_nil) rfl rfl rfl el22 (by decide) rfl ?_; clear h a; intro gX w17 hg hoX hq hz a h
                          replace hEs := Nat.le_trans hEs hq.size
                          have h6X : ∀ k ∈ blks v6, k ≠ gX := fun k hk => by have := (ho6.blk k hk).2; omega
                          replace hf := hf.next hq
                          replace hy := hy.ext hq
                          replace hO := hO.ext hq
                          replace hI := hI.ext hq
                          replace hb13 := hb13.ext hq
                          replace hC := hC.next hq
                          replace ho6 := ho6.ext hq
                          clear hq hz hg
                          refine hd_next hC ?_
                          refine hd_one 9 (by kernel_rfl) rfl ?_
                          refine st_append h rfl rfl ho6 hoX.sl el22 (by unfold maxLen; simp; omega) (by simp; omega) hEs rfl ?_; clear h a; intro v9 w18 ho9 hq hx9 a h
                          replace hf := hf.step hq (fun k hk hlt => by have := (ho6.blk k hk).1; omega)
                          replace hy := hy.fr hq (fun hb => by have := (ho6.blk _ hb).1; omega)
                          replace hO := hO.fr hq (fun k hk hk2 => by have := (ho6.blk k hk).1; simp [blks] at hk2; omega)
                          replace hI := hI.fr hq (fun k hk q hq2 hk2 => by have := (ho6.blk k hk).1; have := hIE q hq2 k hk2; omega)
                          replace hC := hC.step hq (fun k hk hlt => by have := (ho6.blk k hk).1; omega)
                          obtain ⟨A9, cp9, rfl, hc9⟩ := ho9.sl.form
                          clear hq hx9 hoX h6X hb13
                          refine hd_next hC ?_
                          refine hd_idxS 10 (by kernel_rfl) (by kernel_rfl) (by kernel_rfl) hC (p := ps.length) h rfl rfl el43 (by omega) (by omega) (by omega) rfl rfl ?_; clear h a; intro a h
                          refine hd_one 11 (by kernel_rfl) rfl ?_
                          refine st_storeO (A9, ([] ++ t ++ [(parseS (wordS l p)).1]).length, cp9) h rfl rfl hO (by simp) rfl sz22 ?_; clear h a; intro w19 hO2 hq hz a h
                          replace hO := Own.reTop hO2 rfl (t ++ [(parseS (wordS l p)).1])
                          have hb9 := ho9.blk
                          replace ho9 := ho9.fr hq (fun k hk hk2 => by simp at hk; have := (hb9 k hk2).1; omega)
                          have hoff := hI.off
                          replace hI := (hI.fr hq (fun k hk q hq2 hk2 => hoff q hq2 k hk2 hk)).left
                          replace hI := hI.push (u := (A9, ([] ++ t ++ [(parseS (wordS l p)).1]).length, cp9)) (r := t ++ [(parseS (wordS l p)).1]) (ho9.low (by omega)) (fun k hk hk2 => by have := (hb9 k hk).1; simp at hk2; omega) (fun k hk q hq2 hk2 => by have := (hb9 k hk).1; have := hIE q (by simp [hq2]) k hk2; omega)
                          replace hy := hy.fr hq (by simp; omega)
                          replace hf := hf.step hq (by simp; omega)
                          replace hC := hC.step hq (by simp)
                          clear hq hz hO2 hb9 ho9 hoff
                          refine hd_next hC ?_
                          refine hd_end (by kernel_rfl) ?_
                          clear hC hy_b hO_b hI_b hb13_b
                          replace h : Ag a 199 [(0, _), (4, _), (5, _)] := h.sub (.cons rfl (.cons rfl (.cons rfl .nil)))
                          refine (norm_then ?_)
                          refine wp_region_lit ?_
                          refine st_assign h rfl rfl ?_; clear h a; intro a h
                          refine wpList_nil (norm_blk (norm_then ?_))
                          exact ⟨⟨ps, _, t ++ [(parseS (wordS l p)).1], k, false, g, c⟩, h.sub (.cons rfl (.cons rfl (.cons rfl (.cons rfl .nil)))), ⟨hO, hI, by simp only; omega, by simp only; omega, hb17, by simp; omega, fun R m => hM R (m_leaf (by omega) (fun e => c9 (by rw [e]; rfl)) hx0 (by rw [hke, List.take_of_length_le (by simp; omega)]; exact m)), hy, hf⟩, by simp only; omega⟩
                        · refine id ?_
                          refine st_bslice [(parseS (wordS l p)).1] h (evs_cons rfl evs_nil) rfl rfl rfl el22 (by decide) rfl ?_; clear h a; intro gX w20 hg hoX hq hz a h
                          have hEX : gX ≠ gE := by have := (hoE.blk gE (by simp [blks])).2; omega
                          replace hf := hf.next hq
                          replace hy := hy.ext hq
                          replace hO := hO.ext hq
                          replace hI := hI.ext hq
                          replace hb13 := hb13.ext hq
                          replace hC := hC.next hq
                          replace hoE := hoE.ext hq
                          clear hq hz hg
                          refine hd_next hC ?_
                          refine hd_one 6 (by kernel_rfl) rfl ?_
                          refine st_append h rfl rfl hoE hI.last.sl el22 (by unfold maxLen; simp; omega) (by simp; omega) (by have := (hoE.blk gE (by simp [blks])).2; omega) rfl ?_; clear h a; intro v6 w21 ho6 hq hx6 a h
                          have h6X : ∀ k ∈ blks v6, k ≠ gX := by
                            intro k hk
                            have hXs := (hoX.blk gX (by simp [blks])).2
                            rcases hx6 with e | e | e
                            · rw [e] at hk; simp [blks] at hk; omega
                            · rw [e] at hk; simp [blks] at hk; omega
                            · rw [e] at hk; simp at hk; omega
                          replace hf := hf.step hq (fun k hk hlt => by simp [blks] at hk; omega)
                          replace hy := hy.fr hq (by simp [blks]; omega)
                          replace hO := hO.fr hq (by simp [blks]; omega)
                          replace hI := hI.fr hq (fun k hk q hq2 hk2 => by simp [blks] at hk; have := hIE q hq2 k hk2; omega)
                          replace hb13 := hb13.fr hq (by simp [blks]; omega)
                          replace hC := hC.step hq (fun k hk hlt => by simp [blks] at hk; omega)
                          replace hoX := hoX.fr hq (by simp [blks]; omega)
                          have hEs := Nat.le_trans (Nat.le_of_lt (hoE.blk gE (by simp [blks])).2) hq.size
                          clear hq hx6 hoE
                          refine hd_next hC ?_
                          refine hd_one 9 (by kernel_rfl) rfl ?_
                          refine st_append h rfl rfl ho6 hoX.sl el22 (by unfold maxLen; simp; omega) (by simp; omega) hEs rfl ?_; clear h a; intro v9 w22 ho9 hq hx9 a h
                          replace hf := hf.step hq (fun k hk hlt => by have := (ho6.blk k hk).1; omega)
                          replace hy := hy.fr hq (fun hb => by have := (ho6.blk _ hb).1; omega)
                          replace hO := hO.fr hq (fun k hk hk2 => by have := (ho6.blk k hk).1; simp [blks] at hk2; omega)
                          replace hI := hI.fr hq (fun k hk q hq2 hk2 => by have := (ho6.blk k hk).1; have := hIE q hq2 k hk2; omega)
                          replace hC := hC.step hq (fun k hk hlt => by have := (ho6.blk k hk).1; omega)
                          obtain ⟨A9, cp9, rfl, hc9⟩ := ho9.sl.form
                          clear hq hx9 hoX h6X hb13
                          refine hd_next hC ?_
                          refine hd_idxS 10 (by kernel_rfl) (by kernel_rfl) (by kernel_rfl) hC (p := ps.length) h rfl rfl el43 (by omega) (by omega) (by omega) rfl rfl ?_; clear h a; intro a h
                          refine hd_one 11 (by kernel_rfl) rfl ?_
                          refine st_storeO (A9, ([] ++ t ++ [(parseS (wordS l p)).1]).length, cp9) h rfl rfl hO (by simp) rfl sz22 ?_; clear h a; intro w23 hO2 hq hz a h
                          replace hO := Own.reTop hO2 rfl (t ++ [(parseS (wordS l p)).1])
                          have hb9 := ho9.blk
                          replace ho9 := ho9.fr hq (fun k hk hk2 => by simp at hk; have := (hb9 k hk2).1; omega)
                          have hoff := hI.off
                          replace hI := (hI.fr hq (fun k hk q hq2 hk2 => hoff q hq2 k hk2 hk)).left
                          replace hI := hI.push (u := (A9, ([] ++ t ++ [(parseS (wordS l p)).1]).length, cp9)) (r := t ++ [(parseS (wordS l p)).1]) (ho9.low (by omega)) (fun k hk hk2 => by have := (hb9 k hk).1; simp at hk2; omega) (fun k hk q hq2 hk2 => by have := (hb9 k hk).1; have := hIE q (by simp [hq2]) k hk2; omega)
                          replace hy := hy.fr hq (by simp; omega)
                          replace hf := hf.step hq (by simp; omega)
                          replace hC := hC.step hq (by simp)
                          clear hq hz hO2 hb9 ho9 hoff
                          refine hd_next hC ?_
                          refine hd_end (by kernel_rfl) ?_
                          clear hC hy_b hO_b hI_b hb13_b
                          replace h : Ag a 199 [(0, _), (4, _), (5, _)] := h.sub (.cons rfl (.cons rfl (.cons rfl .nil)))
                          refine (norm_then ?_)
                          refine wp_region_lit ?_
                          refine st_assign h rfl rfl ?_; clear h a; intro a h
                          refine wpList_nil (norm_blk (norm_then ?_))
                          exact ⟨⟨ps, _, t ++ [(parseS (wordS l p)).1], k, false, g, c⟩, h.sub (.cons rfl (.cons rfl (.cons rfl (.cons rfl .nil)))), ⟨hO, hI, by simp only; omega, by simp only; omega, hb17, by simp; omega, fun R m => hM R (m_leaf (by omega) (fun e => c9 (by rw [e]; rfl)) hx0 (by rw [hke, List.take_of_length_le (by simp; omega)]; exact m)), hy, hf⟩, by simp only; omega⟩
                      · refine id ?_
                        refine st_bslice [(parseS (wordS l p)).1] h (evs_cons rfl evs_nil) rfl rfl rfl el22 (by decide) rfl ?_; clear h a; intro gX w24 hg hoX hq hz a h
                        replace hf := hf.next hq
                        replace hy := hy.ext hq
                        replace hO := hO.ext hq
                        replace hI := hI.ext hq
                        replace hb13 := hb13.ext hq
                        replace hC := hC.next hq
                        clear hq hz hg
                        refine hd_next hC ?_
                        refine hd_one 4 (by kernel_rfl) rfl ?_
                        refine st_bslice ([] : List Stitch) h evs_nil rfl rfl rfl el22 (by decide) rfl ?_; clear h a; intro gE w25 hg hoE hq hz a h
                        have hgE : g < gE := by have := (hO.blk g (by simp [blks])).2; omega
                        have hE13 : g_13 < gE := by have := hb13.lt; omega
                        have hwE : w0.heap.size ≤ gE := by have := hf.size; omega
                        have hCE := Nat.le_trans hC.size (Nat.le_of_eq hg.symm)
                        have hIE : ∀ q ∈ ps ++ [(u, t)], ∀ k ∈ blks (slv q.1), k < gE := fun q hq2 k hk => by have := (hI.blk q hq2 k hk).2; omega
                        have hEX : gX ≠ gE := by have := (hoX.blk gX (by simp [blks])).2; omega
                        replace hf := hf.next hq
                        replace hy := hy.ext hq
                        replace hO := hO.ext hq
                        replace hI := hI.ext hq
                        replace hb13 := hb13.ext hq
                        replace hC := hC.next hq
                        replace hoX := hoX.ext hq
                        clear hq hz hg
                        refine hd_next hC ?_
                        refine hd_one 6 (by kernel_rfl) rfl ?_
                        refine st_append h rfl rfl hoE hI.last.sl el22 (by unfold maxLen; simp; omega) (by simp; omega) (by have := (hoE.blk gE (by simp [blks])).2; omega) rfl ?_; clear h a; intro v6 w26 ho6 hq hx6 a h
                        have h6X : ∀ k ∈ blks v6, k ≠ gX := by
                          intro k hk
                          have hXs := (hoX.blk gX (by simp [blks])).2
                          rcases hx6 with e | e | e
                          · rw [e] at hk; simp [blks] at hk; omega
                          · rw [e] at hk; simp [blks] at hk; omega
                          · rw [e] at hk; simp at hk; omega
                        replace hf := hf.step hq (fun k hk hlt => by simp [blks] at hk; omega)
                        replace hy := hy.fr hq (by simp [blks]; omega)
                        replace hO := hO.fr hq (by simp [blks]; omega)
                        replace hI := hI.fr hq (fun k hk q hq2 hk2 => by simp [blks] at hk; have := hIE q hq2 k hk2; omega)
                        replace hb13 := hb13.fr hq (by simp [blks]; omega)
                        replace hC := hC.step hq (fun k hk hlt => by simp [blks] at hk; omega)
                        replace hoX := hoX.fr hq (by simp [blks]; omega)
                        have hEs := Nat.le_trans (Nat.le_of_lt (hoE.blk gE (by simp [blks])).2) hq.size
                        clear hq hx6 hoE
                        refine hd_next hC ?_
                        refine hd_one 9 (by kernel_rfl) rfl ?_
                        refine st_append h rfl rfl ho6 hoX.sl el22 (by unfold maxLen; simp; omega) (by simp; omega) hEs rfl ?_; clear h a; intro v9 w27 ho9 hq hx9 a h
                        replace hf := hf.step hq (fun k hk hlt => by have := (ho6.blk k hk).1; omega)
                        replace hy := hy.fr hq (fun hb => by have := (ho6.blk _ hb).1; omega)
                        replace hO := hO.fr hq (fun k hk hk2 => by have := (ho6.blk k hk).1; simp [blks] at hk2; omega)
                        replace hI := hI.fr hq (fun k hk q hq2 hk2 => by have := (ho6.blk k hk).1; have := hIE q hq2 k hk2; omega)
                        replace hC := hC.step hq (fun k hk hlt => by have := (ho6.blk k hk).1; omega)
                        obtain ⟨A9, cp9, rfl, hc9⟩ := ho9.sl.form
                        clear hq hx9 hoX h6X hb13
                        refine hd_next hC ?_
                        refine hd_idxS 10 (by kernel_rfl) (by kernel_rfl) (by kernel_rfl) hC (p := ps.length) h rfl rfl el43 (by omega) (by omega) (by omega) rfl rfl ?_; clear h a; intro a h
                        refine hd_one 11 (by kernel_rfl) rfl ?_
                        refine st_storeO (A9, ([] ++ t ++ [(parseS (wordS l p)).1]).length, cp9) h rfl rfl hO (by simp) rfl sz22 ?_; clear h a; intro w28 hO2 hq hz a h
                        replace hO := Own.reTop hO2 rfl (t ++ [(parseS (wordS l p)).1])
                        have hb9 := ho9.blk
                        replace ho9 := ho9.fr hq (fun k hk hk2 => by simp at hk; have := (hb9 k hk2).1; omega)
                        have hoff := hI.off
                        replace hI := (hI.fr hq (fun k hk q hq2 hk2 => hoff q hq2 k hk2 hk)).left
                        replace hI := hI.push (u := (A9, ([] ++ t ++ [(parseS (wordS l p)).1]).length, cp9)) (r := t ++ [(parseS (wordS l p)).1]) (ho9.low (by omega)) (fun k hk hk2 => by have := (hb9 k hk).1; simp at hk2; omega) (fun k hk q hq2 hk2 => by have := (hb9 k hk).1; have := hIE q (by simp [hq2]) k hk2; omega)
                        replace hy := hy.fr hq (by simp; omega)
                        replace hf := hf.step hq (by simp; omega)
                        replace hC := hC.step hq (by simp)
                        clear hq hz hO2 hb9 ho9 hoff
                        refine hd_next hC ?_
                        refine hd_end (by kernel_rfl) ?_
                        clear hC hy_b hO_b hI_b hb13_b
                        replace h : Ag a 199 [(0, _), (4, _), (5, _)] := h.sub (.cons rfl (.cons rfl (.cons rfl .nil)))
                        refine (norm_then ?_)
                        refine wp_region_lit ?_
                        refine st_assign h rfl rfl ?_; clear h a; intro a h
                        refine wpList_nil (norm_blk (norm_then ?_))
                        exact ⟨⟨ps, _, t ++ [(parseS (wordS l p)).1], k, false, g, c⟩, h.sub (.cons rfl (.cons rfl (.cons rfl (.cons rfl .nil)))), ⟨hO, hI, by simp only; omega, by simp only; omega, hb17, by simp; omega, fun R m => hM R (m_leaf (by omega) (fun e => c9 (by rw [e]; rfl)) hx0 (by rw [hke, List.take_of_length_le (by simp; omega)]; exact m)), hy, hf⟩, by simp only; omega⟩
                    · refine id ?_
                      refine wp_skip (norm_then ?_)
                      refine wp_region_lit ?_
                      refine st_assign h rfl rfl ?_; clear h a; intro a h
                      replace h : Ag a 199 [(0, _), (4, _), (5, _), (6, _)] := h.sub (.cons rfl (.cons rfl (.cons rfl (.cons rfl .nil))))
                      refine wpList_nil (norm_blk (norm_then ?_))
                      exact ⟨⟨ps, u, t, k, false, g, c⟩, h.sub (.cons rfl (.cons rfl (.cons rfl (.cons rfl .nil)))), ⟨hO, hI, by simp only; omega, by simp only; omega, hb17, ht17, fun R m => hM R (m_leaf (by omega) (fun e => c9 (by rw [e]; rfl)) hx0 (by rw [hke, List.take_append_of_le_length (by omega), List.take_of_length_le (by omega)]; exact m)), hy, hf⟩, by simp only; omega⟩
      · obtain rfl : it = false := by cases it with | false => rfl | true => exact absurd (.inl rfl) c1
        have c1q : ¬ p < l.length := fun e => c1 (.inr e)
        refine wp_exit (exit_then (exit_then (exit_here (norm_then ?_))))
        refine wp_seq ?_
        refine wp_seq ?_
        refine wp_region_lit ?_
        refine st_move h rfl rfl ?_; clear h a; intro a h
        refine st_lenS h rfl Tryd.underlying43 rfl ?_; clear h a; intro a h
        refine st_ne h rfl rfl rfl ?_; clear h a; intro a h
        replace h : Ag a 199 [(4, _), (190, _)] := h.sub (.cons rfl (.cons rfl .nil))
        refine wpList_nil (norm_then ?_)
        first | refine cond_dec h rfl (fun c13 => ?_) (fun c13 => ?_) | refine cond_ndec h rfl (fun c13 => ?_) (fun c13 => ?_) | refine cond_split h rfl (fun c13 => ?_) (fun c13 => ?_)
        · refine id ?_
          refine wp_seq ?_
          refine wp_region_lit ?_
          refine st_assign h rfl rfl ?_; clear h a; intro a h
          refine st_assign h rfl rfl ?_; clear h a; intro a h
          replace h : Ag a 199 [(2, _), (3, _)] := h.sub (.cons rfl (.cons rfl .nil))
          refine wpList_nil (norm_then ?_)
          refine wp_ret (ret_then ?_)
          refine ret2 h Tryd.results11 rfl rfl ?_
          exact ⟨_, rfl, _, ([], 4), rfl, fun _ => hM _ (m_fin4 c1q (fun e => c13 (by have := congrArg List.length e; simp only [List.length_map, List.length_nil] at this; omega))), (fun e => by omega), Sl.nil _, hf⟩
        · obtain rfl : ps = [] := List.length_eq_zero_iff.1 (by omega)
          refine wp_skip (norm_then ?_)
          refine wp_seq ?_
          refine wp_seq ?_
          refine wp_region_lit ?_
          refine st_move h rfl rfl ?_; clear h a; intro a h
          refine st_idx (p := 0) (e := u) h rfl rfl hO.sl el43 (by omega) (by omega) (top_get (rfl)) rfl ?_; clear h a; intro ad cc a h
          refine st_loadC0 (v := slv u) h rfl cc na22 rfl ?_; clear h a; intro a h
          have hul := Own.lens hI.last
          refine st_lenS h rfl Tryd.underlying22 rfl ?_; clear h a; intro a h
          refine st_gt h rfl rfl rfl ?_; clear h a; intro a h
          replace h : Ag a 199 [(4, _), (195, _)] := h.sub (.cons rfl (.cons rfl .nil))
          refine wpList_nil (norm_then ?_)
          first | refine cond_dec h rfl (fun c14 => ?_) (fun c14 => ?_) | refine cond_ndec h rfl (fun c14 => ?_) (fun c14 => ?_) | refine cond_split h rfl (fun c14 => ?_) (fun c14 => ?_)
          · refine id ?_
            refine wp_seq ?_
            refine wp_region_lit ?_
            refine st_assign h rfl rfl ?_; clear h a; intro a h
            refine st_assign h rfl rfl ?_; clear h a; intro a h
            replace h : Ag a 199 [(2, _), (3, _)] := h.sub (.cons rfl (.cons rfl .nil))
            refine wpList_nil (norm_then ?_)
            refine wp_ret (ret_then ?_)
            refine ret2 h Tryd.results11 rfl rfl ?_
            exact ⟨_, rfl, _, ([], 3), rfl, fun _ => hM _ (m_fin3 c1q (by omega)), (fun e => by omega), Sl.nil _, hf⟩
          · refine id ?_
            refine wp_skip (norm_then ?_)
            refine wp_seq ?_
            refine wp_region_lit ?_
            refine st_move h rfl rfl ?_; clear h a; intro a h
            refine st_idx (p := 0) (e := u) h rfl rfl hO.sl el43 (by omega) (by omega) (top_get (rfl)) rfl ?_; clear h a; intro ad cc a h
            refine st_loadC0 (v := slv u) h rfl cc na22 rfl ?_; clear h a; intro a h
            refine st_assign h rfl rfl ?_; clear h a; intro a h
            refine st_assign h rfl rfl ?_; clear h a; intro a h
            replace h : Ag a 199 [(2, _), (3, _)] := h.sub (.cons rfl (.cons rfl .nil))
            refine wpList_nil (norm_then ?_)
            refine wp_ret ?_
            refine ret2 h Tryd.results11 rfl rfl ?_
            exact ⟨_, rfl, _, (t, 0), rfl, fun _ => hM _ (m_fin0 c1q (by omega)), (fun e => by omega), hI.last.sl, hf⟩
end Go.Proofs.YtbbnampdgefljaaDoor
