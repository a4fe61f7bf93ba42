/- Texts of the proof, joined: W8 XMore XNest XRef XMach FactsB W9 W10 W11 -/
import Derived.Test.YtbbnampdgefljaaDoorRows
import Derived.Test.YtbbnampdgefljaaDoorH2
set_option linter.unusedVariables false
set_option linter.unusedSimpArgs false
namespace Go.Proofs.YtbbnampdgefljaaDoor
open Go.Lw Go.G14
def kV (p : Int × Int) : Value := .agg #[.int .i64 p.1, .int .i64 p.2]
theorem eq98 (p q : Int × Int) (w : World) : (Op.equal 98 (kV p) (kV q)).run Tryd.prog w = .ok (decide (p = q)) w := by
  obtain ⟨a, b⟩ := p
  obtain ⟨c, d⟩ := q
  have hp0 : ∀ (x y : Value) w, (part 3 #[x, y] (0 * 1)).run Tryd.prog w = .ok x w := fun _ _ _ => by kernel_rfl
  have hp1 : ∀ (x y : Value) w, (part 3 #[x, y] 1).run Tryd.prog w = .ok y w := fun _ _ _ => by kernel_rfl
  have hs : ∀ w : World, (sizeOf 3).run Tryd.prog w = .ok 1 w := fun _ => by kernel_rfl
  show (Op.equalIn (9998 + 1 + 1) 98 (kV (a, b)) (kV (c, d))).run Tryd.prog w = _
  unfold Op.equalIn
  simp only [kV, Sem.run_bind, run_underlying Tryd.underlying98, Result.andThen_ok, hs]
  simp only [Std.Legacy.Range.forIn_eq_forIn_range', Std.Legacy.Range.size]
  have hI : ∀ (x y : Int) (w : World), (Op.equalIn 9999 3 (.int .i64 x) (.int .i64 y)).run Tryd.prog w = .ok (x == y) w := fun x y w => run_equalIn_int w 9998 3 _ _ x y Tryd.underlying3
  rw [show List.range' 0 ((2 - 0 + 1 - 1) / 1) = [0, 1] from rfl]
  simp only [List.forIn_cons, List.forIn_nil, Sem.run_bind, hp0, hI, Result.andThen_ok]
  by_cases e : a = c
  · subst e
    by_cases f : b = d
    · subst f; simp [hp1, hI]
    · simp [f, hp1, hI]
  · simp [e]
theorem key98 : KeyLaw Tryd.prog 98 kV := KeyLaw.asking Tryd.underlying98 (fun _ _ => rfl) (fun _ _ _ => by kernel_rfl) eq98 (fun _ => by simp [kV, Instr.sameBits])
set_option maxHeartbeats 4000000 in
theorem shortest_ok (u : Value) (xs : List Stitch) (w0 : World) (hu : Sl encSt w0 u xs) (hn : 1 ≤ xs.length) (hm : xs.length ≤ 16) (hy : Sym w0) : Rets Tryd.prog 31 #[u] w0 fun v w' => v = S (shortS xs) ∧ Fr [] w0 w' := by
  have h00 := hy.pos
  have hrb := hu.blk (by intro e; subst e; simp at hn)
  obtain ⟨A, c, rfl, hc⟩ := hu.form
  have hs := hu
  obtain ⟨-, -, hM, hA⟩ := Sl.open_ hu
  unfold maxLen at hM
  refine enter [(0, .slice A xs.length c)] Tryd.func31 rfl Tryd.ntmps31 rfl (.cons rfl .nil) ?_
  have hf := Fr.refl [] w0
  intro a h
  refine wp_seq ?_
  refine wp_region_lit ?_
  refine st_assign h rfl rfl ?_; clear h a; intro a h
  replace h : Ag a 115 [(0, _)] := h.sub (.cons rfl .nil)
  refine wpList_nil (norm_then ?_)
  refine wp_seq ?_
  refine wp_region_lit ?_
  refine st_makeMap kV h rfl ?_; clear h a; intro gt w1 hg hmt hq hz a h
  have hlgt : w0.heap.size ≤ gt := by have := hf.size; omega
  replace hf := hf.next hq
  replace hs := hs.ext hq
  replace hy := hy.ext hq
  clear hq hz hg
  refine st_assign h rfl rfl ?_; clear h a; intro a h
  replace h : Ag a 115 [(0, _), (3, _)] := h.sub (.cons rfl (.cons rfl .nil))
  refine wpList_nil (norm_then ?_)
  refine wp_seq ?_
  refine wp_region_lit ?_
  refine st_makeMap kV h rfl ?_; clear h a; intro gi w2 hg hmi hq hz a h
  have hlgi : w0.heap.size ≤ gi := by have := hf.size; omega
  have hti : gt < gi := by have := hmt.lt; omega
  replace hf := hf.next hq
  replace hs := hs.ext hq
  replace hy := hy.ext hq
  replace hmt := hmt.ext hq
  clear hq hz hg
  refine st_assign h rfl rfl ?_; clear h a; intro a h
  replace h : Ag a 115 [(0, _), (3, _), (4, _)] := h.sub (.cons rfl (.cons rfl (.cons rfl .nil)))
  refine wpList_nil (norm_then ?_)
  refine wp_seq ?_
  refine wp_seq ?_
  refine wp_region_lit ?_
  refine st_assign h rfl rfl ?_; clear h a; intro a h
  refine wpList_nil (norm_then ?_)
  refine wp_block ?_
  refine loop (ι := Nat) (fun L => [(0, .slice A xs.length c), (3, .map (some gt)), (4, .map (some gi)), (5, .int .i64 (L : Int))]) (fun L w' => 1 ≤ L ∧ L ≤ xs.length + 1 ∧ MapF kV w' gt (mfun xs.length (fun a m => (T xs a m).2) L 0) ∧ MapF kV w' gi (mfun xs.length (fun a m => (T xs a m).1) L 0) ∧ Sl encSt w' (.slice A xs.length c) xs ∧ Sym w' ∧ Fr [] w0 w') (fun L => xs.length + 1 - L) 1 (h.sub (.cons rfl (.cons rfl (.cons rfl (.cons rfl .nil))))) ⟨by omega, by omega, by rw [mfun_zero]; exact hmt, by rw [mfun_zero]; exact hmi, hs, hy, hf⟩ ?_
  clear h a hmt hmi hs hy hf
  rintro L w3 a h ⟨hL1, hL2, hmt, hmi, hs, hy, hf⟩
  refine wp_seq ?_
  refine wp_seq ?_
  refine wp_region_lit ?_
  refine st_move h rfl rfl ?_; clear h a; intro a h
  refine st_move h rfl rfl ?_; clear h a; intro a h
  refine st_lenS h rfl Tryd.underlying22 rfl ?_; clear h a; intro a h
  refine st_le h rfl rfl rfl ?_; clear h a; intro a h
  replace h : Ag a 115 [(0, _), (3, _), (4, _), (5, _), (19, _)] := h.sub (.cons rfl (.cons rfl (.cons rfl (.cons rfl (.cons rfl .nil)))))
  refine wpList_nil (norm_then ?_)
  first | refine cond_dec h rfl (fun c0 => ?_) (fun c0 => ?_) | refine cond_ndec h rfl (fun c0 => ?_) (fun c0 => ?_) | refine cond_split h rfl (fun c0 => ?_) (fun c0 => ?_)
  · refine id ?_
    refine wp_skip (norm_then ?_)
    refine wp_seq ?_
    refine wp_block ?_
    refine wp_seq ?_
    refine wp_region_lit ?_
    refine st_assign h rfl rfl ?_; clear h a; intro a h
    replace h : Ag a 115 [(0, _), (3, _), (4, _), (5, _), (6, _)] := h.sub (.cons rfl (.cons rfl (.cons rfl (.cons rfl (.cons rfl .nil)))))
    refine wpList_nil (norm_then ?_)
    refine wp_block ?_
    refine loop (ι := Nat) (fun i => [(0, .slice A xs.length c), (3, .map (some gt)), (4, .map (some gi)), (5, .int .i64 (L : Int)), (6, .int .i64 (i : Int))]) (fun i w' => i ≤ xs.length + 1 - L ∧ MapF kV w' gt (mfun xs.length (fun a m => (T xs a m).2) L i) ∧ MapF kV w' gi (mfun xs.length (fun a m => (T xs a m).1) L i) ∧ Sl encSt w' (.slice A xs.length c) xs ∧ Sym w' ∧ Fr [] w0 w') (fun i => xs.length + 1 - i) 0 (h.sub (.cons rfl (.cons rfl (.cons rfl (.cons rfl (.cons rfl .nil)))))) ⟨by omega, hmt, hmi, hs, hy, hf⟩ ?_
    clear h a hmt hmi hs hy hf
    rintro i w4 a h ⟨hiL, hmt, hmi, hs, hy, hf⟩
    refine wp_seq ?_
    refine wp_seq ?_
    refine wp_region_lit ?_
    refine st_move h rfl rfl ?_; clear h a; intro a h
    refine st_move h rfl rfl ?_; clear h a; intro a h
    refine st_add h rfl rfl (by first | exact IntWalk.i64_in _ (by omega) | rfl) rfl ?_; clear h a; intro a h
    refine st_move h rfl rfl ?_; clear h a; intro a h
    refine st_lenS h rfl Tryd.underlying22 rfl ?_; clear h a; intro a h
    refine st_le h rfl rfl rfl ?_; clear h a; intro a h
    replace h : Ag a 115 [(0, _), (3, _), (4, _), (5, _), (6, _), (27, _)] := h.sub (.cons rfl (.cons rfl (.cons rfl (.cons rfl (.cons rfl (.cons rfl .nil))))))
    refine wpList_nil (norm_then ?_)
    first | refine cond_dec h rfl (fun c1 => ?_) (fun c1 => ?_) | refine cond_ndec h rfl (fun c1 => ?_) (fun c1 => ?_) | refine cond_split h rfl (fun c1 => ?_) (fun c1 => ?_)
    · refine id ?_
      refine wp_skip (norm_then ?_)
      refine wp_seq ?_
      refine wp_block ?_
      refine wp_seq ?_
      refine wp_region_lit ?_
      refine st_move h rfl rfl ?_; clear h a; intro a h
      refine st_move h rfl rfl ?_; clear h a; intro a h
      refine st_add h rfl rfl (by first | exact IntWalk.i64_in _ (by omega) | rfl) rfl ?_; clear h a; intro a h
      refine st_assign h rfl rfl ?_; clear h a; intro a h
      replace h : Ag a 115 [(0, _), (3, _), (4, _), (5, _), (6, _), (7, _)] := h.sub (.cons rfl (.cons rfl (.cons rfl (.cons rfl (.cons rfl (.cons rfl .nil))))))
      refine wpList_nil (norm_then ?_)
      refine wp_seq ?_
      refine wp_region_lit ?_
      refine st_assign h rfl rfl ?_; clear h a; intro a h
      refine wpList_nil (norm_then ?_)
      refine seq_cut (Cut (ι := Unit) 115 (fun u => [(0, .slice A xs.length c), (3, .map (some gt)), (4, .map (some gi)), (5, .int .i64 (L : Int)), (6, .int .i64 (i : Int)), (7, .int .i64 ((i : Int) + (L : Int))), (8, S (itemTo (T xs) xs i L 0))]) (fun u w' => MapF kV w' gt (mfun xs.length (fun a m => (T xs a m).2) L i) ∧ MapF kV w' gi (mfun xs.length (fun a m => (T xs a m).1) L i) ∧ Sl encSt w' (.slice A xs.length c) xs ∧ Sym w' ∧ Fr [] w0 w')) ?_ ?_
      · refine id ?_
        refine wp_seq ?_
        refine wp_region_lit ?_
        refine st_move h rfl rfl ?_; clear h a; intro a h
        refine st_eq h rfl rfl rfl ?_; clear h a; intro a h
        replace h : Ag a 115 [(0, _), (3, _), (4, _), (5, _), (6, _), (7, _), (8, _), (34, _)] := h.sub (.cons rfl (.cons rfl (.cons rfl (.cons rfl (.cons rfl (.cons rfl (.cons rfl (.cons rfl .nil))))))))
        refine wpList_nil (norm_then ?_)
        first | refine cond_dec h rfl (fun c2 => ?_) (fun c2 => ?_) | refine cond_ndec h rfl (fun c2 => ?_) (fun c2 => ?_) | refine cond_split h rfl (fun c2 => ?_) (fun c2 => ?_)
        · obtain ⟨x, hxi⟩ : ∃ x, xs[i]? = some x := ⟨_, List.getElem?_eq_getElem (by omega)⟩
          obtain ⟨ad, hAd, ca⟩ := hA i x hxi
          refine wp_region_lit ?_
          refine st_move h rfl rfl ?_; clear h a; intro a h
          refine st_move h rfl rfl ?_; clear h a; intro a h
          refine st_idxS h (by rw [hAd]; rfl) rfl el22 (by omega) (by omega) rfl rfl ?_; clear h a; intro a h
          refine st_loadA h rfl (ca.fr hf (by simp)) ag36 rfl ?_; clear h a; intro a h
          refine st_call h (evs_cons rfl evs_nil) co54 (text_ok _ _ hy) rfl ?_; clear h a; rintro _ w5 ⟨rfl, hq⟩ a h
          replace hf := hf.next hq
          replace hmt := hmt.ext hq
          replace hmi := hmi.ext hq
          replace hs := hs.ext hq
          replace hy := hy.ext hq
          clear hq
          refine st_assign h rfl rfl ?_; clear h a; intro a h
          replace h : Ag a 115 [(0, _), (3, _), (4, _), (5, _), (6, _), (7, _), (8, _)] := h.sub (.cons rfl (.cons rfl (.cons rfl (.cons rfl (.cons rfl (.cons rfl (.cons rfl .nil)))))))
          refine wpList_nil (norm_then ?_)
          exact ⟨(), h.sub (.cons rfl (.cons rfl (.cons rfl (.cons rfl (.cons rfl (.cons rfl (.cons (by first | (rw [itemTo, if_pos (by omega), List.getD, hxi]; rfl) | (rw [itemTo, if_neg (by omega)]; rfl)) .nil))))))), hmt, hmi, hs, hy, hf⟩
        · refine id ?_
          refine wp_skip (norm_then ?_)
          exact ⟨(), h.sub (.cons rfl (.cons rfl (.cons rfl (.cons rfl (.cons rfl (.cons rfl (.cons (by first | (rw [itemTo, if_pos (by omega), List.getD, hxi]; rfl) | (rw [itemTo, if_neg (by omega)]; rfl)) .nil))))))), hmt, hmi, hs, hy, hf⟩
      · clear h a hmt hmi hs hy hf
        rintro a w6 ⟨u, h, ⟨hmt, hmi, hs, hy, hf⟩⟩
        refine wp_seq ?_
        refine wp_seq ?_
        refine wp_region_lit ?_
        refine st_assign h rfl rfl ?_; clear h a; intro a h
        refine wpList_nil (norm_then ?_)
        refine wp_block ?_
        refine loop (ι := Nat) (fun k => [(0, .slice A xs.length c), (3, .map (some gt)), (4, .map (some gi)), (5, .int .i64 (L : Int)), (6, .int .i64 (i : Int)), (7, .int .i64 ((i : Int) + (L : Int))), (8, S (itemTo (T xs) xs i L k)), (9, .int .i64 ((k : Int) + 2))]) (fun k w' => k ≤ L - 1 ∧ MapF kV w' gt (mfun xs.length (fun a m => (T xs a m).2) L i) ∧ MapF kV w' gi (mfun xs.length (fun a m => (T xs a m).1) L i) ∧ Sl encSt w' (.slice A xs.length c) xs ∧ Sym w' ∧ Fr [] w0 w') (fun k => L - k) 0 (h.sub (.cons rfl (.cons rfl (.cons rfl (.cons rfl (.cons rfl (.cons rfl (.cons rfl (.cons rfl .nil))))))))) ⟨by omega, hmt, hmi, hs, hy, hf⟩ ?_
        clear h a hmt hmi hs hy hf
        rintro k w7 a h ⟨hk, hmt, hmi, hs, hy, hf⟩
        have hdl : L / (k + 2) * (k + 2) ≤ L := Nat.div_mul_le_self _ _
        have hil := itemT_len xs i L k hL1
        refine wp_seq ?_
        refine wp_seq ?_
        refine wp_region_lit ?_
        refine st_move h rfl rfl ?_; clear h a; intro a h
        refine st_move h rfl rfl ?_; clear h a; intro a h
        refine st_le h rfl rfl rfl ?_; clear h a; intro a h
        replace h : Ag a 115 [(0, _), (3, _), (4, _), (5, _), (6, _), (7, _), (8, _), (9, _), (42, _)] := h.sub (.cons rfl (.cons rfl (.cons rfl (.cons rfl (.cons rfl (.cons rfl (.cons rfl (.cons rfl (.cons rfl .nil)))))))))
        refine wpList_nil (norm_then ?_)
        first | refine cond_dec h rfl (fun c3 => ?_) (fun c3 => ?_) | refine cond_ndec h rfl (fun c3 => ?_) (fun c3 => ?_) | refine cond_split h rfl (fun c3 => ?_) (fun c3 => ?_)
        · have hk2 : 2 ≤ k + 2 := by omega
          refine wp_skip (norm_then ?_)
          refine wp_seq ?_
          refine wp_block ?_
          refine wp_seq ?_
          refine wp_region_lit ?_
          refine st_move h rfl rfl ?_; clear h a; intro a h
          refine st_move h rfl rfl ?_; clear h a; intro a h
          refine st_quo (z := ((L / (k + 2) : Nat) : Int)) h rfl rfl (by omega) (by rw [IntWalk.i64_quo _ _ (by omega)]; exact (Int.natCast_ediv L (k + 2)).symm) rfl ?_; clear h a; intro a h
          refine st_assign h rfl rfl ?_; clear h a; intro a h
          replace h : Ag a 115 [(0, _), (3, _), (4, _), (5, _), (6, _), (7, _), (8, _), (9, _), (10, _)] := h.sub (.cons rfl (.cons rfl (.cons rfl (.cons rfl (.cons rfl (.cons rfl (.cons rfl (.cons rfl (.cons rfl .nil)))))))))
          refine wpList_nil (norm_then ?_)
          refine wp_seq ?_
          refine wp_region_lit ?_
          refine st_move h rfl rfl ?_; clear h a; intro a h
          refine st_move h rfl rfl ?_; clear h a; intro a h
          refine st_mul (z := ((L / (k + 2) * (k + 2) : Nat) : Int)) h rfl rfl (by rw [show ((L / (k + 2) : Nat) : Int) * ((k : Int) + 2) = ((L / (k + 2) * (k + 2) : Nat) : Int) from rfl]; exact IntWalk.i64_in _ (by omega)) rfl ?_; clear h a; intro a h
          refine st_move h rfl rfl ?_; clear h a; intro a h
          refine st_eq h rfl rfl rfl ?_; clear h a; intro a h
          refine st_move h rfl rfl ?_; clear h a; intro a h
          first | refine guard_dec (D := 53) h rfl ?_ ?_ | refine guard_ndec (D := 53) h rfl ?_ ?_ | refine guard_any (D := 53) h rfl ?_ ?_
          · clear h; intro g0 h
            refine gd_yes h rfl rfl rfl rfl rfl rfl ?_
            refine st_move h rfl rfl ?_; clear h a; intro a h
            refine gd_yes h rfl rfl rfl rfl rfl rfl ?_
            refine st_move h rfl rfl ?_; clear h a; intro a h
            refine gd_yes h rfl rfl rfl rfl rfl rfl ?_
            refine st_move h rfl rfl ?_; clear h a; intro a h
            refine gd_yes h rfl rfl rfl rfl rfl rfl ?_
            refine st_sl_lh (p := i) (p' := i + L) h rfl rfl rfl el22 (by omega) (by omega) (by omega) (by omega) (by omega) rfl ?_; clear h a; intro a h
            refine gd_yes h rfl rfl rfl rfl rfl rfl ?_
            refine st_move h rfl rfl ?_; clear h a; intro a h
            refine gd_yes h rfl rfl rfl rfl rfl rfl ?_
            refine st_call h (evs_cons rfl (evs_cons rfl evs_nil)) co55 (repeats_ok _ (partS xs i L) _ _ (part_sl hs (by omega)) (by rw [part_len (show i + L ≤ xs.length by omega)]; have := Nat.div_le_self L (k + 2); omega)) rfl ?_; clear h a; rintro _ w8 ⟨rfl, hq⟩ a h
            replace hf := hf.next hq
            replace hmt := hmt.ext hq
            replace hmi := hmi.ext hq
            replace hs := hs.ext hq
            replace hy := hy.ext hq
            clear hq
            refine st_pick_t h rfl rfl rfl rfl ?_; clear h a; intro a h
            replace h : Ag a 115 [(0, _), (3, _), (4, _), (5, _), (6, _), (7, _), (8, _), (9, _), (10, _), (54, _), (55, _), (56, _), (57, _), (58, _), (59, _), (60, _)] := h.sub (.cons rfl (.cons rfl (.cons rfl (.cons rfl (.cons rfl (.cons rfl (.cons rfl (.cons rfl (.cons rfl (.cons rfl (.cons rfl (.cons rfl (.cons rfl (.cons rfl (.cons rfl (.cons rfl .nil))))))))))))))))
            refine wpList_nil (norm_then ?_)
            first | refine cond_dec h rfl (fun c4 => ?_) (fun c4 => ?_) | refine cond_ndec h rfl (fun c4 => ?_) (fun c4 => ?_) | refine cond_split h rfl (fun c4 => ?_) (fun c4 => ?_)
            · have hone : 1 ≤ L / (k + 2) := by
                rcases Nat.eq_zero_or_pos (L / (k + 2)) with e | e
                · rw [e] at hdl; have hz : L / (k + 2) * (k + 2) = L := by omega
                  rw [e] at hz; omega
                · exact e
              have hlt1 : L / (k + 2) < L := Nat.div_lt_self (by omega) (by omega)
              have hTl := (T_len xs i (L / (k + 2)) hone).2
              refine region_quiet hmix (by kernel_rfl) ?_
              refine qt_move h rfl rfl ?_; clear h a; intro a h
              refine qt_move h rfl rfl ?_; clear h a; intro a h
              refine qt_move h rfl rfl ?_; clear h a; intro a h
              refine qt_move h rfl rfl ?_; clear h a; intro a h
              refine qt_move h rfl rfl ?_; clear h a; intro a h
              refine qt_add h rfl rfl (by first | exact IntWalk.i64_in _ (by omega) | rfl) rfl ?_; clear h a; intro a h
              refine qt_lit (cs := [_, _]) h (evs_cons rfl (evs_cons rfl evs_nil)) bo98 (pok_cons rfl rfl rfl (pok_cons rfl rfl rfl pok_nil)) rfl rfl ?_; clear h a; intro a h
              refine qt_lookup (V := kV) (k := ((i : Int), (i : Int) + ((L / (k + 2) : Nat) : Int))) h rfl rfl (fun _ hw => hmt.ext hw) key98 Tryd.underlying95 zv9 (mfun_hit _ (i) (L / (k + 2)) _ _ (by omega) (by omega) (by omega) (by omega) (by omega) _) rfl ?_; clear h a; intro a h
              refine qt_adds h rfl rfl (by first | (simp; done) | (simp; omega)) rfl ?_; clear h a; intro a h
              refine qt_adds h rfl rfl (by first | (simp; done) | (simp; omega)) rfl ?_; clear h a; intro a h
              refine qt_move h rfl rfl ?_; clear h a; intro a h
              refine qt_call h (evs_cons rfl evs_nil) co46 (fun w hw => (itoa_ok (k + 2) w (by omega)).mono fun u w' ⟨e, f⟩ => ⟨e, f ▸ hw⟩) rfl ?_; clear h a; intro a h
              have hit := itoa_len (k + 2)
              refine qt_adds h rfl rfl (by simp; omega) rfl ?_; clear h a; intro a h
              refine qt_call h (evs_cons rfl (evs_cons rfl evs_nil)) co56 (fun w hw => (better_ok _ _ w).mono fun u w' ⟨e, f⟩ => ⟨e, f ▸ hw⟩) rfl ?_; clear h a; intro a h
              refine qt_assign h rfl rfl ?_; clear h a; intro a h
              refine wpQuiet_nil ?_
              intro w9 hq
              replace hf := hf.next hq
              replace hmt := hmt.ext hq
              replace hmi := hmi.ext hq
              replace hs := hs.ext hq
              replace hy := hy.ext hq
              clear hq
              replace h : Ag a 115 [(0, _), (3, _), (4, _), (5, _), (6, _), (7, _), (8, _), (9, _), (54, _), (55, _), (56, _), (57, _), (58, _), (59, _)] := h.sub (.cons rfl (.cons rfl (.cons rfl (.cons rfl (.cons rfl (.cons rfl (.cons rfl (.cons rfl (.cons rfl (.cons rfl (.cons rfl (.cons rfl (.cons rfl (.cons rfl .nil))))))))))))))
              refine (norm_blk (norm_then ?_))
              refine wp_region_lit ?_
              refine st_move h rfl rfl ?_; clear h a; intro a h
              refine st_add h rfl rfl (by first | exact IntWalk.i64_in _ (by omega) | rfl) rfl ?_; clear h a; intro a h
              refine st_assign h rfl rfl ?_; clear h a; intro a h
              replace h : Ag a 115 [(0, _), (3, _), (4, _), (5, _), (6, _), (7, _), (8, _), (9, _), (54, _), (55, _), (56, _), (57, _), (58, _), (59, _)] := h.sub (.cons rfl (.cons rfl (.cons rfl (.cons rfl (.cons rfl (.cons rfl (.cons rfl (.cons rfl (.cons rfl (.cons rfl (.cons rfl (.cons rfl (.cons rfl (.cons rfl .nil))))))))))))))
              refine wpList_nil (norm_then ?_)
              exact ⟨k + 1, h.sub (.cons rfl (.cons rfl (.cons rfl (.cons rfl (.cons rfl (.cons rfl (.cons (by first | rfl | exact congrArg (fun x => some (S x)) (itemTo_no (fun e => absurd e.1 (by omega))) | exact congrArg (fun x => some (S x)) (itemTo_no (fun e => c4 ((repsB_iff (by omega)).1 e.2))) | exact congrArg (fun x => some (S x)) (itemTo_yes (by omega) ((repsB_iff (by omega)).2 c4))) (.cons (by first | rfl | (congr 2; omega)) .nil)))))))), ⟨by omega, hmt, hmi, hs, hy, hf⟩, by omega⟩
            · refine id ?_
              refine wp_skip (norm_blk (norm_then ?_))
              refine wp_region_lit ?_
              refine st_move h rfl rfl ?_; clear h a; intro a h
              refine st_add h rfl rfl (by first | exact IntWalk.i64_in _ (by omega) | rfl) rfl ?_; clear h a; intro a h
              refine st_assign h rfl rfl ?_; clear h a; intro a h
              replace h : Ag a 115 [(0, _), (3, _), (4, _), (5, _), (6, _), (7, _), (8, _), (9, _), (54, _), (55, _), (56, _), (57, _), (58, _), (59, _)] := h.sub (.cons rfl (.cons rfl (.cons rfl (.cons rfl (.cons rfl (.cons rfl (.cons rfl (.cons rfl (.cons rfl (.cons rfl (.cons rfl (.cons rfl (.cons rfl (.cons rfl .nil))))))))))))))
              refine wpList_nil (norm_then ?_)
              exact ⟨k + 1, h.sub (.cons rfl (.cons rfl (.cons rfl (.cons rfl (.cons rfl (.cons rfl (.cons (by first | rfl | exact congrArg (fun x => some (S x)) (itemTo_no (fun e => absurd e.1 (by omega))) | exact congrArg (fun x => some (S x)) (itemTo_no (fun e => c4 ((repsB_iff (by omega)).1 e.2))) | exact congrArg (fun x => some (S x)) (itemTo_yes (by omega) ((repsB_iff (by omega)).2 c4))) (.cons (by first | rfl | (congr 2; omega)) .nil)))))))), ⟨by omega, hmt, hmi, hs, hy, hf⟩, by omega⟩
          · clear h; intro g0 h
            refine gd_no h rfl rfl rfl rfl rfl rfl rfl rfl ?_; clear h a; intro a h
            refine gd_no h rfl rfl rfl rfl rfl rfl rfl rfl ?_; clear h a; intro a h
            refine gd_no h rfl rfl rfl rfl rfl rfl rfl rfl ?_; clear h a; intro a h
            refine gd_no h rfl rfl rfl rfl rfl rfl rfl rfl ?_; clear h a; intro a h
            refine gd_no h rfl rfl rfl rfl rfl rfl rfl rfl ?_; clear h a; intro a h
            refine gd_no h rfl rfl rfl rfl rfl rfl rfl rfl ?_; clear h a; intro a h
            refine st_pick_f h rfl rfl rfl rfl ?_; clear h a; intro a h
            replace h : Ag a 115 [(0, _), (3, _), (4, _), (5, _), (6, _), (7, _), (8, _), (9, _), (10, _), (54, _), (55, _), (56, _), (57, _), (58, _), (59, _), (60, _)] := h.sub (.cons rfl (.cons rfl (.cons rfl (.cons rfl (.cons rfl (.cons rfl (.cons rfl (.cons rfl (.cons rfl (.cons rfl (.cons rfl (.cons rfl (.cons rfl (.cons rfl (.cons rfl (.cons rfl .nil))))))))))))))))
            refine wpList_nil (norm_then ?_)
            refine cond_false h rfl ?_
            refine wp_skip (norm_blk (norm_then ?_))
            refine wp_region_lit ?_
            refine st_move h rfl rfl ?_; clear h a; intro a h
            refine st_add h rfl rfl (by first | exact IntWalk.i64_in _ (by omega) | rfl) rfl ?_; clear h a; intro a h
            refine st_assign h rfl rfl ?_; clear h a; intro a h
            replace h : Ag a 115 [(0, _), (3, _), (4, _), (5, _), (6, _), (7, _), (8, _), (9, _), (54, _), (55, _), (56, _), (57, _), (58, _), (59, _)] := h.sub (.cons rfl (.cons rfl (.cons rfl (.cons rfl (.cons rfl (.cons rfl (.cons rfl (.cons rfl (.cons rfl (.cons rfl (.cons rfl (.cons rfl (.cons rfl (.cons rfl .nil))))))))))))))
            refine wpList_nil (norm_then ?_)
            exact ⟨k + 1, h.sub (.cons rfl (.cons rfl (.cons rfl (.cons rfl (.cons rfl (.cons rfl (.cons (by first | rfl | exact congrArg (fun x => some (S x)) (itemTo_no (fun e => absurd e.1 (by omega))) | exact congrArg (fun x => some (S x)) (itemTo_no (fun e => c4 ((repsB_iff (by omega)).1 e.2))) | exact congrArg (fun x => some (S x)) (itemTo_yes (by omega) ((repsB_iff (by omega)).2 c4))) (.cons (by first | rfl | (congr 2; omega)) .nil)))))))), ⟨by omega, hmt, hmi, hs, hy, hf⟩, by omega⟩
        · obtain rfl : k = L - 1 := by omega
          refine wp_exit (exit_then (exit_then (exit_here (norm_then ?_))))
          refine wp_seq ?_
          refine wp_region_lit ?_
          refine st_move h rfl rfl ?_; clear h a; intro a h
          refine st_assign h rfl rfl ?_; clear h a; intro a h
          replace h : Ag a 115 [(0, _), (3, _), (4, _), (5, _), (6, _), (7, _), (8, _), (11, _)] := h.sub (.cons rfl (.cons rfl (.cons rfl (.cons rfl (.cons rfl (.cons rfl (.cons rfl (.cons rfl .nil))))))))
          refine wpList_nil (norm_then ?_)
          refine wp_seq ?_
          refine wp_seq ?_
          refine wp_region_lit ?_
          refine st_move h rfl rfl ?_; clear h a; intro a h
          refine st_add h rfl rfl (by first | exact IntWalk.i64_in _ (by omega) | rfl) rfl ?_; clear h a; intro a h
          refine st_assign h rfl rfl ?_; clear h a; intro a h
          replace h : Ag a 115 [(0, _), (3, _), (4, _), (5, _), (6, _), (7, _), (8, _), (11, _), (12, _)] := h.sub (.cons rfl (.cons rfl (.cons rfl (.cons rfl (.cons rfl (.cons rfl (.cons rfl (.cons rfl (.cons rfl .nil)))))))))
          refine wpList_nil (norm_then ?_)
          refine wp_block ?_
          refine loop (ι := Nat) (fun m => [(0, .slice A xs.length c), (3, .map (some gt)), (4, .map (some gi)), (5, .int .i64 (L : Int)), (6, .int .i64 (i : Int)), (7, .int .i64 ((i : Int) + (L : Int))), (8, S (itemTo (T xs) xs i L (L - 1))), (11, S (textTo (T xs) i L (itemTo (T xs) xs i L (L - 1)) m)), (12, .int .i64 ((i : Int) + 1 + (m : Int)))]) (fun m w' => m ≤ L - 1 ∧ MapF kV w' gt (mfun xs.length (fun a m => (T xs a m).2) L i) ∧ MapF kV w' gi (mfun xs.length (fun a m => (T xs a m).1) L i) ∧ Sl encSt w' (.slice A xs.length c) xs ∧ Sym w' ∧ Fr [] w0 w') (fun m => L - m) 0 (h.sub (.cons rfl (.cons rfl (.cons rfl (.cons rfl (.cons rfl (.cons rfl (.cons rfl (.cons rfl (.cons (by first | rfl | (congr 2; omega)) .nil)))))))))) ⟨by omega, hmt, hmi, hs, hy, hf⟩ ?_
          clear h a hmt hmi hs hy hf
          rintro m w10 a h ⟨hml, hmt, hmi, hs, hy, hf⟩
          have hil := itemT_len xs i L (L - 1) hL1
          have htl := textT_len xs i L m _ hil (by omega)
          refine wp_seq ?_
          refine wp_seq ?_
          refine wp_region_lit ?_
          refine st_move h rfl rfl ?_; clear h a; intro a h
          refine st_move h rfl rfl ?_; clear h a; intro a h
          refine st_lt h rfl rfl rfl ?_; clear h a; intro a h
          replace h : Ag a 115 [(0, _), (3, _), (4, _), (5, _), (6, _), (7, _), (8, _), (11, _), (12, _), (80, _)] := h.sub (.cons rfl (.cons rfl (.cons rfl (.cons rfl (.cons rfl (.cons rfl (.cons rfl (.cons rfl (.cons rfl (.cons rfl .nil))))))))))
          refine wpList_nil (norm_then ?_)
          first | refine cond_dec h rfl (fun c5 => ?_) (fun c5 => ?_) | refine cond_ndec h rfl (fun c5 => ?_) (fun c5 => ?_) | refine cond_split h rfl (fun c5 => ?_) (fun c5 => ?_)
          · refine id ?_
            refine wp_skip (norm_then ?_)
            refine wp_seq ?_
            refine wp_block ?_
            refine wp_seq ?_
            refine wp_region_lit ?_
            refine st_move h rfl rfl ?_; clear h a; intro a h
            refine st_move h rfl rfl ?_; clear h a; intro a h
            refine st_move h rfl rfl ?_; clear h a; intro a h
            refine st_lit (cs := [_, _]) h (evs_cons rfl (evs_cons rfl evs_nil)) bo98 (pok_cons rfl rfl rfl (pok_cons rfl rfl rfl pok_nil)) rfl rfl ?_; clear h a; intro a h
            have hTi := T_len xs i (m + 1) (by omega)
            refine st_lookup (V := kV) (k := ((i : Int), (i : Int) + 1 + (m : Int))) h rfl rfl hmi key98 Tryd.underlying95 zv9 (mfun_hit _ (i) (m + 1) _ _ (by omega) (by omega) (by omega) (by omega) (by omega) _) rfl ?_; clear h a; intro a h
            refine st_assign h rfl rfl ?_; clear h a; intro a h
            replace h : Ag a 115 [(0, _), (3, _), (4, _), (5, _), (6, _), (7, _), (8, _), (11, _), (12, _), (13, _)] := h.sub (.cons rfl (.cons rfl (.cons rfl (.cons rfl (.cons rfl (.cons rfl (.cons rfl (.cons rfl (.cons rfl (.cons rfl .nil))))))))))
            refine wpList_nil (norm_then ?_)
            refine wp_seq ?_
            refine wp_region_lit ?_
            refine st_move h rfl rfl ?_; clear h a; intro a h
            refine st_nes h rfl rfl rfl ?_; clear h a; intro a h
            replace h : Ag a 115 [(0, _), (3, _), (4, _), (5, _), (6, _), (7, _), (8, _), (11, _), (12, _), (13, _), (89, _)] := h.sub (.cons rfl (.cons rfl (.cons rfl (.cons rfl (.cons rfl (.cons rfl (.cons rfl (.cons rfl (.cons rfl (.cons rfl (.cons rfl .nil)))))))))))
            refine wpList_nil (norm_then ?_)
            first | refine cond_dec h rfl (fun c6 => ?_) (fun c6 => ?_) | refine cond_ndec h rfl (fun c6 => ?_) (fun c6 => ?_) | refine cond_split h rfl (fun c6 => ?_) (fun c6 => ?_)
            · refine id ?_
              refine wp_region_lit ?_
              refine st_move h rfl rfl ?_; clear h a; intro a h
              refine st_move h rfl rfl ?_; clear h a; intro a h
              refine st_adds h rfl rfl (by first | (simp; done) | (simp; omega)) rfl ?_; clear h a; intro a h
              refine st_move h rfl rfl ?_; clear h a; intro a h
              refine st_move h rfl rfl ?_; clear h a; intro a h
              refine st_move h rfl rfl ?_; clear h a; intro a h
              refine st_lit (cs := [_, _]) h (evs_cons rfl (evs_cons rfl evs_nil)) bo98 (pok_cons rfl rfl rfl (pok_cons rfl rfl rfl pok_nil)) rfl rfl ?_; clear h a; intro a h
              have hTr := (T_len xs (i + (m + 1)) (L - (m + 1)) (by omega)).2
              refine st_lookup (V := kV) (k := ((i : Int) + 1 + (m : Int), (i : Int) + (L : Int))) h rfl rfl hmt key98 Tryd.underlying95 zv9 (mfun_hit _ (i + (m + 1)) (L - (m + 1)) _ _ (by omega) (by omega) (by omega) (by omega) (by omega) _) rfl ?_; clear h a; intro a h
              refine st_adds h rfl rfl (by first | (simp; done) | (simp; omega)) rfl ?_; clear h a; intro a h
              refine st_call h (evs_cons rfl (evs_cons rfl evs_nil)) co56 (better_ok _ _ _) rfl ?_; clear h a; rintro _ _ ⟨rfl, rfl⟩ a h
              refine st_assign h rfl rfl ?_; clear h a; intro a h
              replace h : Ag a 115 [(0, _), (3, _), (4, _), (5, _), (6, _), (7, _), (8, _), (11, _), (12, _)] := h.sub (.cons rfl (.cons rfl (.cons rfl (.cons rfl (.cons rfl (.cons rfl (.cons rfl (.cons rfl (.cons rfl .nil)))))))))
              refine wpList_nil (norm_blk (norm_then ?_))
              refine wp_region_lit ?_
              refine st_move h rfl rfl ?_; clear h a; intro a h
              refine st_add h rfl rfl (by first | exact IntWalk.i64_in _ (by omega) | rfl) rfl ?_; clear h a; intro a h
              refine st_assign h rfl rfl ?_; clear h a; intro a h
              replace h : Ag a 115 [(0, _), (3, _), (4, _), (5, _), (6, _), (7, _), (8, _), (11, _), (12, _)] := h.sub (.cons rfl (.cons rfl (.cons rfl (.cons rfl (.cons rfl (.cons rfl (.cons rfl (.cons rfl (.cons rfl .nil)))))))))
              refine wpList_nil (norm_then ?_)
              exact ⟨m + 1, h.sub (.cons rfl (.cons rfl (.cons rfl (.cons rfl (.cons rfl (.cons rfl (.cons rfl (.cons (by first | exact congrArg (fun x => some (S x)) (textTo_yes c6) | exact congrArg (fun x => some (S x)) (textTo_no c6)) (.cons (by first | rfl | (congr 2; omega)) .nil))))))))), ⟨by omega, hmt, hmi, hs, hy, hf⟩, by omega⟩
            · refine id ?_
              refine wp_skip (norm_blk (norm_then ?_))
              refine wp_region_lit ?_
              refine st_move h rfl rfl ?_; clear h a; intro a h
              refine st_add h rfl rfl (by first | exact IntWalk.i64_in _ (by omega) | rfl) rfl ?_; clear h a; intro a h
              refine st_assign h rfl rfl ?_; clear h a; intro a h
              replace h : Ag a 115 [(0, _), (3, _), (4, _), (5, _), (6, _), (7, _), (8, _), (11, _), (12, _)] := h.sub (.cons rfl (.cons rfl (.cons rfl (.cons rfl (.cons rfl (.cons rfl (.cons rfl (.cons rfl (.cons rfl .nil)))))))))
              refine wpList_nil (norm_then ?_)
              exact ⟨m + 1, h.sub (.cons rfl (.cons rfl (.cons rfl (.cons rfl (.cons rfl (.cons rfl (.cons rfl (.cons (by first | exact congrArg (fun x => some (S x)) (textTo_yes c6) | exact congrArg (fun x => some (S x)) (textTo_no c6)) (.cons (by first | rfl | (congr 2; omega)) .nil))))))))), ⟨by omega, hmt, hmi, hs, hy, hf⟩, by omega⟩
          · obtain rfl : m = L - 1 := by omega
            rw [show itemTo (T xs) xs i L (L - 1) = (T xs i L).1 from (T_item xs i L hL1 (by omega)).symm, ← T_text xs i L hL1 (by omega), T_item xs i L hL1 (by omega)] at h
            refine wp_exit (exit_then (exit_then (exit_here (norm_then ?_))))
            refine wp_seq ?_
            refine wp_region_lit ?_
            refine st_move h rfl rfl ?_; clear h a; intro a h
            refine st_move h rfl rfl ?_; clear h a; intro a h
            refine st_move h rfl rfl ?_; clear h a; intro a h
            refine st_lit (cs := [_, _]) h (evs_cons rfl (evs_cons rfl evs_nil)) bo98 (pok_cons rfl rfl rfl (pok_cons rfl rfl rfl pok_nil)) rfl rfl ?_; clear h a; intro a h
            refine st_move h rfl rfl ?_; clear h a; intro a h
            refine st_mapSet (k := ((i : Int), (i : Int) + (L : Int))) h rfl rfl rfl hmi key98 Tryd.underlying95 ?_; clear h a; intro w11 hmn hq hz a h
            replace hf := hf.step hq (by simp; omega)
            replace hs := hs.fr hq (by intro k hk hb; have := hrb k hb; simp at hk; omega)
            replace hy := hy.fr hq (by simp; omega)
            replace hmt := hmt.fr hq (by simp; omega)
            rw [show itemTo (T xs) xs i L (L - 1) = (T xs i L).1 from (T_item xs i L hL1 (by omega)).symm] at hmn
            rw [mfun_set (fun a m => (T xs a m).1) hL1 (by omega)] at hmn
            clear hq hz hmi; have hmi := hmn; clear hmn
            replace h : Ag a 115 [(0, _), (3, _), (4, _), (5, _), (6, _), (7, _), (11, _)] := h.sub (.cons rfl (.cons rfl (.cons rfl (.cons rfl (.cons rfl (.cons rfl (.cons rfl .nil)))))))
            refine wpList_nil (norm_then ?_)
            refine wp_region_lit ?_
            refine st_move h rfl rfl ?_; clear h a; intro a h
            refine st_move h rfl rfl ?_; clear h a; intro a h
            refine st_move h rfl rfl ?_; clear h a; intro a h
            refine st_lit (cs := [_, _]) h (evs_cons rfl (evs_cons rfl evs_nil)) bo98 (pok_cons rfl rfl rfl (pok_cons rfl rfl rfl pok_nil)) rfl rfl ?_; clear h a; intro a h
            refine st_move h rfl rfl ?_; clear h a; intro a h
            refine st_mapSet (k := ((i : Int), (i : Int) + (L : Int))) h rfl rfl rfl hmt key98 Tryd.underlying95 ?_; clear h a; intro w12 hmn hq hz a h
            replace hf := hf.step hq (by simp; omega)
            replace hs := hs.fr hq (by intro k hk hb; have := hrb k hb; simp at hk; omega)
            replace hy := hy.fr hq (by simp; omega)
            replace hmi := hmi.fr hq (by simp; omega)
            rw [mfun_set (fun a m => (T xs a m).2) hL1 (by omega)] at hmn
            clear hq hz hmt; have hmt := hmn; clear hmn
            replace h : Ag a 115 [(0, _), (3, _), (4, _), (5, _), (6, _)] := h.sub (.cons rfl (.cons rfl (.cons rfl (.cons rfl (.cons rfl .nil)))))
            refine wpList_nil (norm_blk (norm_then ?_))
            refine wp_region_lit ?_
            refine st_move h rfl rfl ?_; clear h a; intro a h
            refine st_add h rfl rfl (by first | exact IntWalk.i64_in _ (by omega) | rfl) rfl ?_; clear h a; intro a h
            refine st_assign h rfl rfl ?_; clear h a; intro a h
            replace h : Ag a 115 [(0, _), (3, _), (4, _), (5, _), (6, _)] := h.sub (.cons rfl (.cons rfl (.cons rfl (.cons rfl (.cons rfl .nil)))))
            refine wpList_nil (norm_then ?_)
            exact ⟨i + 1, h.sub (.cons rfl (.cons rfl (.cons rfl (.cons rfl (.cons rfl .nil))))), ⟨by omega, hmt, hmi, hs, hy, hf⟩, by omega⟩
    · refine id ?_
      refine wp_exit (exit_then (exit_then (exit_here (norm_blk (norm_then ?_)))))
      refine wp_region_lit ?_
      refine st_move h rfl rfl ?_; clear h a; intro a h
      refine st_add h rfl rfl (by first | exact IntWalk.i64_in _ (by omega) | rfl) rfl ?_; clear h a; intro a h
      refine st_assign h rfl rfl ?_; clear h a; intro a h
      replace h : Ag a 115 [(0, _), (3, _), (4, _), (5, _)] := h.sub (.cons rfl (.cons rfl (.cons rfl (.cons rfl .nil))))
      refine wpList_nil (norm_then ?_)
      exact ⟨L + 1, h.sub (.cons rfl (.cons rfl (.cons rfl (.cons rfl .nil)))), ⟨by omega, by omega, by rw [← mfun_next _ (show xs.length < i + L by omega)]; exact hmt, by rw [← mfun_next _ (show xs.length < i + L by omega)]; exact hmi, hs, hy, hf⟩, by omega⟩
  · obtain rfl : L = xs.length + 1 := by omega
    refine wp_exit (exit_then (exit_then (exit_here (norm_then ?_))))
    refine wp_seq ?_
    refine wp_region_lit ?_
    refine st_move h rfl rfl ?_; clear h a; intro a h
    refine st_move h rfl rfl ?_; clear h a; intro a h
    refine st_lenS h rfl Tryd.underlying22 rfl ?_; clear h a; intro a h
    refine st_lit (cs := [_, _]) h (evs_cons rfl (evs_cons rfl evs_nil)) bo98 (pok_cons rfl rfl rfl (pok_cons rfl rfl rfl pok_nil)) rfl rfl ?_; clear h a; intro a h
    refine st_lookup (V := kV) (k := (0, (xs.length : Int))) h rfl rfl hmt key98 Tryd.underlying95 zv9 (mfun_hit _ 0 xs.length _ _ (by omega) (by omega) (by omega) (by omega) (by omega) _) rfl ?_; clear h a; intro a h
    refine st_assign h rfl rfl ?_; clear h a; intro a h
    replace h : Ag a 115 [(2, _)] := h.sub (.cons rfl .nil)
    refine wpList_nil (norm_then ?_)
    refine wp_ret ?_
    refine ret1 h Tryd.results31 rfl ?_
    exact ⟨_, rfl, rfl, hf⟩
end Go.Proofs.YtbbnampdgefljaaDoor
namespace Go.G14
open Go.Lw

theorem refsym (k : Int) (h1 : 1 ≤ k) (h8 : k ≤ 8) : (([63, 107, 112, 111, 47, 118, 116, 115, 99] : List UInt8).take (k + 1).toNat).drop k.toNat = [symbols.getD (k - 1).toNat 0] := by
  rcases (by omega : k = 1 ∨ k = 2 ∨ k = 3 ∨ k = 4 ∨ k = 5 ∨ k = 6 ∨ k = 7 ∨ k = 8) with rfl | rfl | rfl | rfl | rfl | rfl | rfl | rfl <;> rfl
theorem refdig (k : Int) (h1 : 0 ≤ k) (h8 : k ≤ 6) : (([48, 49, 50, 51, 52, 53, 54] : List UInt8).take (k + 1).toNat).drop k.toNat = [dg k] := by
  rcases (by omega : k = 0 ∨ k = 1 ∨ k = 2 ∨ k = 3 ∨ k = 4 ∨ k = 5 ∨ k = 6) with rfl | rfl | rfl | rfl | rfl | rfl | rfl <;> rfl
def textsL : List (List UInt8) := [[91, 107, 32, 112, 93, 120, 50], [91, 91, 107, 93, 120, 50, 32, 112, 93, 120, 50, 32, 111], [91, 107, 93, 120, 49], [91, 107, 93, 120, 48, 50], [107, 93, 120, 50], [91, 32, 107, 93, 120, 50], [107, 32, 32, 112], [91, 107, 93, 120, 49, 54, 32, 107]]
def plainL : List (List UInt8) := [[107, 32, 112, 32, 107, 32, 112], [107, 32, 107, 32, 112, 32, 107, 32, 107, 32, 112, 32, 111], [], [], [], [], [], []]
def errsL : List Int := [0, 0, 4, 4, 4, 4, 4, 3]
def longL : List (List UInt8) := [[107, 32, 107], [107, 32, 107, 32, 107], [47, 32, 47, 32, 47], [107, 32, 112, 32, 107, 32, 112, 32, 107, 32, 112, 32, 111], [107, 32, 107, 32, 112, 32, 107, 32, 107, 32, 112, 32, 107, 32, 107, 32, 112]]
def shortL : List (List UInt8) := [[107, 32, 107], [91, 107, 93, 120, 51], [47, 32, 47, 32, 47], [91, 107, 32, 112, 93, 120, 51, 32, 111], [91, 107, 32, 107, 32, 112, 93, 120, 51]]
/-- The texts of the first stitches, with spaces between them. -/
def joinTo (xs : List Stitch) : Nat → List UInt8
  | 0 => []
  | k + 1 => (if 0 < k then joinTo xs k ++ [32] else joinTo xs k) ++ textS (xs.getD k zeroSt)
theorem join_len (xs : List Stitch) : ∀ k, (joinTo xs k).length ≤ 6 * k
  | 0 => by simp [joinTo]
  | k + 1 => by
    have := join_len xs k
    have := textS_len (xs.getD k zeroSt)
    unfold joinTo
    split <;> simp only [List.length_append, List.length_singleton] <;> omega
theorem join_one {xs : List Stitch} {k : Nat} {x : Stitch} (hx : xs[k]? = some x) (h : ¬ 0 < (k : Int)) : joinTo xs k ++ textS x = joinTo xs (k + 1) := by
  rw [joinTo, if_neg (by omega), List.getD, hx]; rfl
theorem join_next {xs : List Stitch} {k : Nat} {x : Stitch} (hx : xs[k]? = some x) (h : 0 < (k : Int)) : joinTo xs k ++ [32] ++ textS x = joinTo xs (k + 1) := by
  rw [joinTo, if_pos (by omega), List.getD, hx]; rfl
theorem getD_get {α : Type} {l : List α} {i : Nat} (h : i < l.length) (d : α) : l[i]? = some (l.getD i d) := by
  rw [List.getD, List.getElem?_eq_getElem h]; rfl
theorem okB_pos {x : Stitch} (h : okB x = true) : 0 ≤ x.k ∧ 0 ≤ x.y := by
  have := check_rng ((okB_iff x).1 h); omega
theorem livesT : ∀ i, i < 8 → (expandS (textsL.getD i [])).2 = errsL.getD i 0 ∧ joinTo (expandS (textsL.getD i [])).1 (expandS (textsL.getD i [])).1.length = plainL.getD i [] ∧ (expandS (textsL.getD i [])).1.all okB = true := by decide +kernel
theorem livesN : ∀ i, i < 8 → (textsL.getD i []).length ≤ 20 := by decide +kernel
theorem livesX : ∀ i, i < 8 → (expandS (textsL.getD i [])).1.length ≤ 16 := by decide +kernel
theorem livesM : ∀ i, i < 5 → (longL.getD i []).length ≤ 20 := by decide +kernel
theorem livesU : ∀ i, i < 5 → (expandS (longL.getD i [])).2 = 0 ∧ shortenS (expandS (longL.getD i [])).1 = (shortL.getD i [], 0) := by decide +kernel
end Go.G14
namespace Go.Lw
open Go.RowKit

abbrev SV := Option Addr × Nat × Nat
def slv (p : SV) : Value := .slice p.1 p.2.1 p.2.2

/-- Rows of the call's own, no two in one block, none in a block of X. -/
structure Ins {α : Type} (E : Enc α) (T : TypeId) (base : Nat) (w : World) (X : List Nat) (ps : List (SV × List α)) : Prop where
  own : ∀ p ∈ ps, Own E T base w (slv p.1) p.2
  off : ∀ p ∈ ps, ∀ k ∈ blks (slv p.1), k ∉ X
  dis : ps.Pairwise fun p q => ∀ k ∈ blks (slv p.1), k ∉ blks (slv q.1)

section
variable {α : Type} {E : Enc α} {T : TypeId} {base : Nat} {w w' : World} {X Y S : List Nat} {ps qs : List (SV × List α)} {u u' : SV} {r r' : List α}

theorem Ins.fr (h : Ins E T base w X ps) (hf : Fr S w w') (hn : ∀ k ∈ S, ∀ p ∈ ps, k ∉ blks (slv p.1)) : Ins E T base w' X ps :=
  ⟨fun p hp => (h.own p hp).fr hf fun k hk => hn k hk p hp, h.off, h.dis⟩
theorem Ins.ext (h : Ins E T base w X ps) (hf : Fr [] w w') : Ins E T base w' X ps := h.fr hf (by simp)
theorem Ins.left (h : Ins E T base w X (ps ++ qs)) : Ins E T base w X ps :=
  ⟨fun p hp => h.own p (List.mem_append_left _ hp), fun p hp => h.off p (List.mem_append_left _ hp), (List.pairwise_append.1 h.dis).1⟩
theorem Ins.right (h : Ins E T base w X (ps ++ qs)) : Ins E T base w X qs :=
  ⟨fun p hp => h.own p (List.mem_append_right _ hp), fun p hp => h.off p (List.mem_append_right _ hp), (List.pairwise_append.1 h.dis).2.1⟩
theorem Ins.blk (h : Ins E T base w X ps) : ∀ p ∈ ps, ∀ k ∈ blks (slv p.1), base ≤ k ∧ k < w.heap.size := fun p hp => (h.own p hp).blk
/-- Another set of blocks to keep off: old ones, or new ones. -/
theorem Ins.newX (h : Ins E T base w X ps) (hY : ∀ k ∈ Y, k ∈ X ∨ w.heap.size ≤ k) : Ins E T base w Y ps :=
  ⟨h.own, fun p hp k hk hy => (hY k hy).elim (h.off p hp k hk) fun e => by have := (h.blk p hp k hk).2; omega, h.dis⟩
theorem Ins.nil : Ins E T base w X ([] : List (SV × List α)) := ⟨fun _ h => by simp at h, fun _ h => by simp at h, List.Pairwise.nil⟩
theorem Ins.snoc (h : Ins E T base w X ps) (ho : Own E T base w (slv u) r) (hX : ∀ k ∈ blks (slv u), k ∉ X) (hd : ∀ p ∈ ps, ∀ k ∈ blks (slv p.1), k ∉ blks (slv u)) : Ins E T base w X (ps ++ [(u, r)]) := by
  refine ⟨fun p hp => ?_, fun p hp => ?_, List.pairwise_append.2 ⟨h.dis, by simp, fun p hp q hq => ?_⟩⟩
  · rcases List.mem_append.1 hp with hp | hp
    · exact h.own p hp
    · simp at hp; subst hp; exact ho
  · rcases List.mem_append.1 hp with hp | hp
    · exact h.off p hp
    · simp at hp; subst hp; exact hX
  · simp at hq; subst hq; exact hd p hp
/-- A row that lies in no old block. -/
theorem Ins.push (h : Ins E T base w X ps) (ho : Own E T base w (slv u) r) (hX : ∀ k ∈ blks (slv u), k ∉ X) (hd : ∀ k ∈ blks (slv u), ∀ p ∈ ps, k ∉ blks (slv p.1)) : Ins E T base w X (ps ++ [(u, r)]) :=
  h.snoc ho hX fun p hp k hk hk' => hd k hk' p hp hk
theorem Ins.pushNil (h : Ins E T base w X ps) : Ins E T base w X (ps ++ [((none, 0, 0), [])]) := h.snoc (Own.nil w) (by simp [slv, blks]) (by simp [slv, blks])
theorem Ins.last (h : Ins E T base w X (ps ++ [(u, r)])) : Own E T base w (slv u) r := h.own (u, r) (List.mem_append_right _ (List.mem_singleton.2 rfl))
theorem Ins.lastOff (h : Ins E T base w X (ps ++ [(u, r)])) : ∀ k ∈ blks (slv u), k ∉ X := h.off (u, r) (List.mem_append_right _ (List.mem_singleton.2 rfl))
theorem Ins.lastDis (h : Ins E T base w X (ps ++ [(u, r)])) : ∀ p ∈ ps, ∀ k ∈ blks (slv p.1), k ∉ blks (slv u) := fun p hp => (List.pairwise_append.1 h.dis).2.2 p hp (u, r) (List.mem_singleton.2 rfl)
/-- The last row is written anew: in its own block, or in a new one. -/
theorem Ins.upd (h : Ins E T base w X (ps ++ [(u, r)])) (hf : Fr (blks (slv u)) w w') (ho : Own E T base w' (slv u') r') (hb : ∀ k ∈ blks (slv u'), k ∈ blks (slv u) ∨ w.heap.size ≤ k) (hX : ∀ k ∈ X, k < w.heap.size) : Ins E T base w' X (ps ++ [(u', r')]) := by
  refine (h.left.fr hf fun k hk p hp hk' => h.lastDis p hp k hk' hk).snoc ho (fun k hk hx => ?_) fun p hp k hk hk' => ?_
  · rcases hb k hk with e | e
    · exact h.lastOff k e hx
    · have := hX k hx; omega
  · rcases hb k hk' with e | e
    · exact h.lastDis p hp k hk e
    · have := (h.left.blk p hp k hk).2; omega
/-- The last two, exchanged. -/
theorem Ins.swap {v : SV} {s : List α} (h : Ins E T base w X (ps ++ [(u, r)] ++ [(v, s)])) : Ins E T base w X (ps ++ [(v, s)] ++ [(u, r)]) := by
  have hd : ∀ k ∈ blks (slv u), k ∉ blks (slv v) := h.lastDis (u, r) (by simp)
  refine (h.left.left.snoc h.last h.lastOff fun p hp => h.lastDis p (by simp [hp])).snoc h.left.last h.left.lastOff fun p hp k hk hk' => ?_
  rcases List.mem_append.1 hp with hp | hp
  · exact h.left.lastDis p hp k hk hk'
  · simp at hp; subst hp; exact hd k hk' hk
/-- The beginning of the last row. -/
theorem Ins.cut (h : Ins E T base w X (ps ++ [(u, r)])) {A : Option Addr} {n c c' m : Nat} (hu : u = (A, n, c)) (hm : m ≤ r.length) (hc : c' ≤ c) (hmc : m ≤ c') : Ins E T base w X (ps ++ [((A, m, c'), r.take m)]) := by
  subst hu
  have hb : blks (slv (A, m, c')) = blks (slv (A, n, c)) := by cases A <;> rfl
  refine h.left.snoc (h.last.take rfl hm hc hmc) ?_ ?_
  · rw [hb]; exact h.lastOff
  · rw [hb]; exact h.lastDis

theorem flat_set (ys : List α) (z : α) (R : List Value) : ∀ (i : Nat), i < ys.length → (ys.flatMap E.enc ++ R).take (i * E.sz) ++ E.enc z ++ (ys.flatMap E.enc ++ R).drop (i * E.sz + E.sz) = (ys.set i z).flatMap E.enc ++ R := by
  intro i hi
  obtain ⟨p, y, s, rfl, rfl⟩ : ∃ p y s, ys = p ++ y :: s ∧ p.length = i := ⟨ys.take i, ys[i], ys.drop (i + 1), by simp, by simp; omega⟩
  have h1 : p.length * E.sz = (p.flatMap E.enc).length := (E.flat_len p).symm
  rw [List.set_append_right _ _ (Nat.le_refl _), Nat.sub_self, List.set_cons_zero]
  simp only [List.flatMap_append, List.flatMap_cons, List.append_assoc]
  rw [h1, List.take_left, List.drop_append, List.drop_of_length_le (by omega), List.nil_append, show (p.flatMap E.enc).length + E.sz - (p.flatMap E.enc).length = (E.enc y).length by rw [E.len]; omega, List.drop_left]
end
section
variable {P : Program} {ops : Array Oper} {Q : Exit → Act → World → Prop} {rest : List Oper} {a : Act} {w : World} {n : Nat} {L : List (Nat × Value)} {ty : TypeId} {pos : String} {after : Array Edge} {x y : Operand} {t T : TypeId} {v : Value}
/-- An element of a slice of the call's own is written. -/
theorem st_storeO {α : Type} {E : Enc α} {base g m c i : Nat} {ys : List α} (z : α) (h : Ag a n L) (hx : ev L x = some (.pointer (some ((⟨g, 0, none⟩ : Addr).add (i * E.sz))))) (hy : ev L y = some v) (ho : Own E T base w (.slice (some ⟨g, 0, none⟩) m c) ys) (hi : i < ys.length)
    (hc : v.cells = (E.enc z).toArray) (hs : SizeOf P t E.sz)
    (q : ∀ w', Own E T base w' (.slice (some ⟨g, 0, none⟩) m c) (ys.set i z) → Fr [g] w w' → w'.heap.size = w.heap.size → ∀ a, Ag a n L → wpList P ops Q rest a w') : wpList P ops Q (⟨none, .store t x y, ty, pos, after, none⟩ :: rest) a w := by
  rcases ho with ⟨e, _⟩ | ⟨g', cap, cur, e, hb, hg, h1, h2, h3, h4⟩
  · cases e
  cases e
  have hil : i * E.sz + E.sz ≤ ys.length * E.sz := by rw [← Nat.succ_mul]; exact Nat.mul_le_mul_right _ hi
  have hcs : ys.length * E.sz ≤ cur.size := Nat.le_trans (Nat.mul_le_mul_right _ h1) h3
  have hst := run_storeCells_at P g (i * E.sz) T (E.enc z) 0 cur w hg (by rw [E.len]; omega) (E.one z)
  rw [Nat.add_zero, E.len] at hst
  have hcur : cur.toList = ys.flatMap E.enc ++ cur.toList.drop (ys.length * E.sz) := by rw [← h4, List.take_append_drop]
  have hnew : cur.toList.take (i * E.sz) ++ E.enc z ++ cur.toList.drop (i * E.sz + E.sz) = (ys.set i z).flatMap E.enc ++ cur.toList.drop (ys.length * E.sz) := by
    conv => lhs; rw [hcur]
    exact flat_set ys z _ i hi
  rw [hnew] at hst
  refine st_skip h rfl rfl (w' := w.setRow g ((ys.set i z).flatMap E.enc ++ cur.toList.drop (ys.length * E.sz)).toArray) ?_ (q _ ?_ (Fr.setRow w g _) (by simp))
  · rw [lit_add, Nat.zero_add] at hx
    simp only [execOp, h.eval hx, h.eval hy, Sem.run_bind, Sem.run_pure, Result.andThen_ok, Instr.storeAt, Instr.sureAddr, storeVar, hs w, hc]
    simp [hst, E.len]
  · refine .inr ⟨g, c, _, by rw [List.length_set], hb, setRow_heap w g cur _ T _ hg, by rw [List.length_set]; exact h1, h2, ?_, ?_⟩
    · simp only [List.size_toArray, List.length_append, E.flat_len, List.length_set, List.length_drop, Array.length_toList]; omega
    · rw [List.length_set, show ys.length * E.sz = ((ys.set i z).flatMap E.enc).length by rw [E.flat_len, List.length_set]]
      exact List.take_left
end
section
variable {P : Program} {ops : Array Oper} {o o' : Oper} {K : Act → World → Prop} {C : World → Prop} {fu : Nat} {listed : Array Bool} {a : Act} {w : World}
theorem hd_come (ix : Nat) (hix : ops[ix]? = some o) (k : wpList P ops (NormEnd fun a' w' => C w' ∧ wpAnyH P .any ops (NormEnd K) C fu (listed.setIfInBounds ix true) a' w') [o] a w) :
    wpOp P ops (NormEnd K) ix (fun a w => C w ∧ wpAnyH P .any ops (NormEnd K) C fu (listed.setIfInBounds ix true) a w) a w := by
  unfold wpOp
  rw [hix]
  unfold wpList at k
  simp only
  split
  · rename_i hw
    rw [if_pos hw] at k
    rcases k with k | ⟨_, _, _, k⟩
    · refine .inl (Oper.wp_mono (fun a w h => h) ?_)
      unfold Oper.wp at k ⊢
      generalize (execOp a.eval o).run P w = r at k ⊢
      cases r with
      | ok nx w' =>
        cases nx <;> simp only [Oper.upon] at k ⊢ <;> first
          | exact k
          | exact Calls.mono k (fun e w'' he => by cases e <;> first | exact he | exact he.elim | (obtain ⟨_, _, he⟩ := he; exact he.elim))
          | exact Rows.mono k (fun _ _ he => he)
      | halt x w' => cases x <;> simp only [Oper.upon] at k ⊢ <;> exact k.elim
    · exact k.elim
  · rename_i hw
    rw [if_neg hw] at k
    exact k
/-- Two operations may come up. -/
theorem hd_two (i j : Nat) (hr : Region.ready .any ops listed = [i, j]) (hi : ops[i]? = some o) (hj : ops[j]? = some o')
    (k : wpList P ops (NormEnd fun a' w' => C w' ∧ wpAnyH P .any ops (NormEnd K) C fu (listed.setIfInBounds i true) a' w') [o] a w)
    (k' : wpList P ops (NormEnd fun a' w' => C w' ∧ wpAnyH P .any ops (NormEnd K) C fu (listed.setIfInBounds j true) a' w') [o'] a w) : wpAnyH P .any ops (NormEnd K) C (fu + 1) listed a w := by
  refine wpAnyH_all hr (by simp) fun x hx => ?_
  simp at hx
  rcases hx with rfl | rfl
  · exact hd_come _ hi k
  · exact hd_come _ hj k'
end
end Go.Lw
namespace Go.G14
open Go.Lw

def wordS (l : List UInt8) (p : Nat) : List UInt8 := (l.take (wordEnd l p)).drop p
abbrev MSt := List (List Stitch) × List Stitch × Nat × Bool
/-- May a repeat end here? -/
def ends (l : List UInt8) (b : List (List Stitch)) (p : Nat) : Prop := l.getD p 0 = 93 ∧ b ≠ [] ∧ p + 1 < l.length ∧ l.getD (p + 1) 0 = 120
instance (l : List UInt8) (b : List (List Stitch)) (p : Nat) : Decidable (ends l b p) := by unfold ends; infer_instance
/-- One step: the rows of the open brackets below, the row on top, the place, and whether an item must follow. -/
def stepS (l : List UInt8) (b : List (List Stitch)) (t : List Stitch) (p : Nat) (it : Bool) : MSt ⊕ (List Stitch × Int) :=
  if it = true then
    if p < l.length then
      if l.getD p 0 = 91 then .inl (b ++ [t], [], p + 1, true)
      else if (parseS (wordS l p)).2 = 0 then .inl (b, (t ++ [(parseS (wordS l p)).1]).take 17, wordEnd l p, false) else .inr ([], 4)
    else .inr ([], 4)
  else if p < l.length then
    if l.getD p 0 = 32 then .inl (b, t, p + 1, true)
    else if ends l b p then
      if numberS (wordS l (p + 2)) 16 = 0 then .inr ([], 4)
      else .inl (b.dropLast, (b.getLast?.getD [] ++ timesS t (numberS (wordS l (p + 2)) 16).toNat).take 17, wordEnd l (p + 2), false)
    else .inr ([], 4)
  else if b ≠ [] then .inr ([], 4) else if 16 < t.length then .inr ([], 3) else .inr (t, 0)
inductive Mach (l : List UInt8) : List (List Stitch) → List Stitch → Nat → Bool → List Stitch × Int → Prop
  | done {b t p it R} (h : stepS l b t p it = .inr R) : Mach l b t p it R
  | next {b t p it b' t' p' it' R} (h : stepS l b t p it = .inl (b', t', p', it')) (m : Mach l b' t' p' it' R) : Mach l b t p it R
theorem Mach.det {l : List UInt8} {b : List (List Stitch)} {t : List Stitch} {p : Nat} {it : Bool} {R R' : List Stitch × Int} (h : Mach l b t p it R) (h' : Mach l b t p it R') : R = R' := by
  induction h with
  | done h =>
    cases h' with
    | done h2 => rw [h] at h2; cases h2; rfl
    | next h2 => rw [h] at h2; cases h2
  | next h m ih =>
    cases h' with
    | done h2 => rw [h] at h2; cases h2
    | next h2 m2 => rw [h] at h2; cases h2; exact ih m2
section
variable {l : List UInt8} {b : List (List Stitch)} {s t : List Stitch} {p : Nat} {R : List Stitch × Int}
theorem m_fin4 (hp : ¬ p < l.length) (hb : b ≠ []) : Mach l b t p false ([], 4) := .done (by rw [stepS, if_neg (by simp), if_neg hp, if_pos hb])
theorem m_fin3 (hp : ¬ p < l.length) (ht : 16 < t.length) : Mach l [] t p false ([], 3) := .done (by rw [stepS, if_neg (by simp), if_neg hp, if_neg (by simp), if_pos ht])
theorem m_fin0 (hp : ¬ p < l.length) (ht : ¬ 16 < t.length) : Mach l [] t p false (t, 0) := .done (by rw [stepS, if_neg (by simp), if_neg hp, if_neg (by simp), if_neg ht])
theorem m_space (hp : p < l.length) (hc : l.getD p 0 = 32) (m : Mach l b t (p + 1) true R) : Mach l b t p false R := .next (by rw [stepS, if_neg (by simp), if_pos hp, if_pos hc]) m
theorem m_bad (hp : p < l.length) (hc : l.getD p 0 ≠ 32) (he : ¬ ends l b p) : Mach l b t p false ([], 4) := .done (by rw [stepS, if_neg (by simp), if_pos hp, if_neg hc, if_neg he])
theorem ends_ns (he : ends l b p) : l.getD p 0 ≠ 32 := by rw [he.1]; decide
theorem m_num (he : ends l b p) (hn : numberS (wordS l (p + 2)) 16 = 0) : Mach l b t p false ([], 4) :=
  .done (by rw [stepS, if_neg (by simp), if_pos (by have := he.2.2.1; omega), if_neg (ends_ns he), if_pos he, if_pos hn])
theorem m_close (he : ends l (b ++ [s]) p) (hn : numberS (wordS l (p + 2)) 16 ≠ 0) (m : Mach l b ((s ++ timesS t (numberS (wordS l (p + 2)) 16).toNat).take 17) (wordEnd l (p + 2)) false R) : Mach l (b ++ [s]) t p false R :=
  .next (by rw [stepS, if_neg (by simp), if_pos (by have := he.2.2.1; omega), if_neg (ends_ns he), if_pos he, if_neg hn, List.dropLast_concat, List.getLast?_concat]; rfl) m
theorem m_end (hp : ¬ p < l.length) : Mach l b t p true ([], 4) := .done (by rw [stepS, if_pos rfl, if_neg hp])
theorem m_open (hp : p < l.length) (hc : l.getD p 0 = 91) (m : Mach l (b ++ [t]) [] (p + 1) true R) : Mach l b t p true R := .next (by rw [stepS, if_pos rfl, if_pos hp, if_pos hc]) m
theorem m_leaf4 (hp : p < l.length) (hc : l.getD p 0 ≠ 91) (hx : (parseS (wordS l p)).2 ≠ 0) : Mach l b t p true ([], 4) := .done (by rw [stepS, if_pos rfl, if_pos hp, if_neg hc, if_neg hx])
theorem m_leaf (hp : p < l.length) (hc : l.getD p 0 ≠ 91) (hx : (parseS (wordS l p)).2 = 0) (m : Mach l b ((t ++ [(parseS (wordS l p)).1]).take 17) (wordEnd l p) false R) : Mach l b t p true R := .next (by rw [stepS, if_pos rfl, if_pos hp, if_neg hc, if_pos hx]) m
end
/-- What the walk of the machine holds at its head. -/
structure RSt where
  ps : List (SV × List Stitch)
  u : SV
  t : List Stitch
  p : Nat
  it : Bool
  g : Nat
  c : Nat
theorem Own.lens {α : Type} {E : Enc α} {T : TypeId} {base : Nat} {w : World} {u : SV} {r : List α} (h : Own E T base w (slv u) r) : u.2.1 = r.length ∧ r.length ≤ u.2.2 := by
  obtain ⟨A, c, e, hc⟩ := h.sl.form
  unfold slv at e
  injection e with e1 e2 e3
  exact ⟨e2, by omega⟩
theorem Own.at_ {α : Type} {E : Enc α} {T : TypeId} {base : Nat} {w : World} {v : Value} {r : List α} (h : Own E T base w v r) (hr : r ≠ []) : ∃ g c, v = .slice (some ⟨g, 0, none⟩) r.length c ∧ base ≤ g ∧ r.length ≤ c ∧ g < w.heap.size := by
  rcases h with ⟨_, rfl⟩ | ⟨g, c, cur, e, hb, hg, h1, _⟩
  · exact absurd rfl hr
  · exact ⟨g, c, e, hb, h1, (Array.getElem?_eq_some_iff.1 hg).1⟩
theorem Ins.app {α : Type} {E : Enc α} {T : TypeId} {base : Nat} {w w' : World} {X : List Nat} {ps : List (SV × List α)} {u : SV} {r r' : List α} {v : Value} (h : Ins E T base w X (ps ++ [(u, r)])) (ho : Own E T base w' v r') (hq : Fr (blks (slv u)) w w')
    (hx : v = slv u ∨ blks v = blks (slv u) ∨ blks v = [w.heap.size]) (hX : ∀ k ∈ X, k < w.heap.size) : ∃ u', v = slv u' ∧ Ins E T base w' X (ps ++ [(u', r')]) := by
  obtain ⟨A, c, rfl, _⟩ := ho.sl.form
  refine ⟨(A, r'.length, c), rfl, h.upd hq ho (fun k hk => ?_) hX⟩
  have hk' : k ∈ blks (.slice A r'.length c) := hk
  rcases hx with e | e | e
  · rw [e] at hk'; exact .inl hk'
  · rw [e] at hk'; exact .inl hk'
  · rw [e] at hk'; simp at hk'; right; omega
section
variable {β : Type} {T : TypeId} {base : Nat} {w : World} {A : Option Addr} {n m c : Nat} {qs : List (SV × β)} {x : SV × β}
theorem top_get (hm : m = qs.length) : ((qs ++ [x]).map Prod.fst)[m]? = some x.1 := by subst hm; simp
theorem Own.pop (h : Own Enc.sl T base w (.slice A n c) ((qs ++ [x]).map Prod.fst)) (hm : m = qs.length) : Own Enc.sl T base w (.slice A m c) (qs.map Prod.fst) := by
  subst hm
  obtain ⟨_, c', e, h2⟩ := h.sl.form
  have hc : (qs ++ [x]).length ≤ c := by cases e; simpa using h2
  have h3 := h.take rfl (m := qs.length) (by simp) (Nat.le_refl _) (by simp at hc; omega)
  rw [List.map_append, List.take_left' (by simp)] at h3
  exact h3
theorem Own.reTop {z : SV} (h : Own Enc.sl T base w (.slice A n c) (((qs ++ [x]).map Prod.fst).set m z)) (hm : m = qs.length) (r : β) : Own Enc.sl T base w (.slice A n c) ((qs ++ [(z, r)]).map Prod.fst) := by
  subst hm
  rw [List.map_append, List.set_append_right _ _ (by simp)] at h
  simpa using h
theorem Own.capO (h : Own Enc.sl T base w (.slice A n c) ((qs ++ [x]).map Prod.fst)) : qs.length + 1 ≤ c ∧ n = qs.length + 1 := by
  obtain ⟨_, c', e, h2⟩ := h.sl.form
  cases e
  simpa using h2
end
theorem Ins.grow {α : Type} {E : Enc α} {T : TypeId} {base g g' n c m c' : Nat} {w w' : World} {ps : List (SV × List α)} (h : Ins E T base w [g] ps) (hq : Fr (blks (.slice (some ⟨g, 0, none⟩) n c)) w w')
    (hx : Value.slice (some ⟨g', 0, none⟩) m c' = .slice (some ⟨g, 0, none⟩) n c ∨ blks (.slice (some ⟨g', 0, none⟩) m c') = blks (.slice (some ⟨g, 0, none⟩) n c) ∨ blks (.slice (some ⟨g', 0, none⟩) m c') = [w.heap.size]) : Ins E T base w' [g'] ps := by
  refine (h.newX (Y := [g']) fun k hk => ?_).fr hq fun k hk q hq2 hk2 => h.off q hq2 k hk2 hk
  simp at hk; subst hk
  rcases hx with e | e | e
  · cases e; exact .inl (by simp)
  · simp [blks] at e; exact .inl (by simp [e])
  · simp [blks] at e; exact .inr (by omega)
theorem number_rng (l : List UInt8) : 0 ≤ numberS l 16 ∧ numberS l 16 ≤ 16 := by
  unfold numberS
  split
  · omega
  · split
    · omega
    · split <;> omega
theorem word_pos {l : List UInt8} {p : Nat} (hp : p ≤ l.length) (h : (parseS (wordS l p)).2 = 0) : p < wordEnd l p := by
  have := wordEnd_rng hp
  rcases Nat.lt_or_ge p (wordEnd l p) with c | c
  · exact c
  · rw [wordS, show wordEnd l p = p by omega, show (l.take p).drop p = [] by simp, parse_nil] at h; omega
theorem rep_cut {s t : List Stitch} {k n : Nat} (hk : k ≤ n) (h : ¬ (k < n ∧ (s ++ timesS t k).length < 17)) : (s ++ timesS t n).take 17 = (s ++ timesS t k).take 17 := by
  rcases Nat.lt_or_ge k n with c | c
  · have hl : 17 ≤ (s ++ timesS t k).length := by omega
    have e : timesS t n = timesS t k ++ timesS t (n - k) := by
      unfold timesS
      rw [← List.flatten_append, List.replicate_append_replicate, show k + (n - k) = n by omega]
    rw [e, ← List.append_assoc, List.take_append_of_le_length hl]
  · rw [show k = n by omega]
theorem expand_err {l : List UInt8} (h : (expandS l).2 ≠ 0) : (expandS l).1 = [] := by
  revert h
  unfold expandS
  split
  · intro _; rfl
  · split
    · intro _; rfl
    · split
      · intro _; rfl
      · intro h; exact absurd rfl h
end Go.G14
namespace Go.G14
open Go.Lw

def nb (c : UInt8) : Bool := decide (c ≠ 32 ∧ c ≠ 93)
theorem nb_iff (c : UInt8) : nb c = true ↔ c ≠ 32 ∧ c ≠ 93 := by simp [nb]
theorem dig_nb {c : UInt8} (h : isDig c = true) : nb c = true := by
  rw [nb_iff]
  have := (isDig_iff c).1 h
  constructor
  · rintro rfl; simp at this
  · rintro rfl; simp at this
theorem drop_get {l : List UInt8} {p : Nat} (h : p < l.length) : l.drop p = l.getD p 0 :: l.drop (p + 1) := by
  rw [List.drop_eq_getElem_cons h]; simp [List.getD, h]
theorem word_end {l : List UInt8} : ∀ (m p : Nat), l.length - p = m → p ≤ l.length → wordEnd l p = p + ((l.drop p).takeWhile nb).length
  | 0, p, hm, hp => by
    rw [show p = l.length by omega, List.drop_length, wordEnd_here (by omega)]; rfl
  | m + 1, p, hm, hp => by
    have hlt : p < l.length := by omega
    rw [drop_get hlt]
    by_cases c : nb (l.getD p 0) = true
    · rw [List.takeWhile_cons_of_pos c, wordEnd_next ⟨hlt, (nb_iff _).1 c⟩, word_end m (p + 1) (by omega) (by omega), List.length_cons]; omega
    · rw [List.takeWhile_cons_of_neg c, wordEnd_here (fun e => c ((nb_iff _).2 e.2))]; rfl
theorem word_tw {l : List UInt8} {p : Nat} (hp : p ≤ l.length) : wordS l p = (l.drop p).takeWhile nb := by
  rw [wordS, word_end _ p rfl hp, List.drop_take, Nat.add_sub_cancel_left]
  exact (List.prefix_iff_eq_take.1 (List.takeWhile_prefix nb)).symm
theorem tw_app {f : UInt8 → Bool} : ∀ (a b : List UInt8), a.all f = true → (a ++ b).takeWhile f = a ++ b.takeWhile f
  | [], b, _ => rfl
  | x :: a, b, h => by
    simp only [List.all_cons, Bool.and_eq_true] at h
    rw [List.cons_append, List.takeWhile_cons_of_pos h.1, tw_app a b h.2, List.cons_append]
theorem tw_all {f : UInt8 → Bool} : ∀ (l : List UInt8), (l.takeWhile f).all f = true
  | [] => rfl
  | c :: l => by
    by_cases h : f c = true
    · rw [List.takeWhile_cons_of_pos h, List.all_cons, h, tw_all l]; rfl
    · rw [List.takeWhile_cons_of_neg h]; rfl
theorem tw_drop {f : UInt8 → Bool} : ∀ (l : List UInt8), l.drop (l.takeWhile f).length = l.dropWhile f
  | [] => rfl
  | c :: l => by
    by_cases h : f c = true
    · rw [List.takeWhile_cons_of_pos h, List.dropWhile_cons_of_pos h, List.length_cons, List.drop_succ_cons, tw_drop l]
    · rw [List.takeWhile_cons_of_neg h, List.dropWhile_cons_of_neg h]; rfl
theorem dw_head {r : List UInt8} {c : UInt8} {s : List UInt8} (h : r.dropWhile isDig = c :: s) : isDig c = false := by
  induction r with
  | nil => cases h
  | cons x r ih =>
    by_cases e : isDig x = true
    · rw [List.dropWhile_cons_of_pos e] at h; exact ih h
    · rw [List.dropWhile_cons_of_neg e] at h; cases h; simpa using e
theorem cap_big : ∀ (l : List UInt8) (n : Int), 100 ≤ n → l.all isDig = true → 100 ≤ l.foldl cstep n
  | [], n, h, _ => h
  | c :: l, n, h, ha => by
    simp only [List.all_cons, Bool.and_eq_true] at ha
    have := (isDig_iff c).1 ha.1
    exact cap_big l _ (by unfold cstep; omega) ha.2
/-- A word of digits alone is counted as it is read. -/
theorem num_count {r W : List UInt8} (hW : r.takeWhile isDig = W) : numberS W 16 = (countS r 16).1 ∧ ((countS r 16).2 ≠ 0 → (countS r 16).2 = W.length ∧ (countS r 16).1 ≠ 0) ∧ ((countS r 16).2 = 0 → (countS r 16).1 = 0) := by
  have ha : W.all isDig = true := by rw [← hW]; exact all_tw r
  have hg : W ≠ [] → r.getD 0 0 = W.getD 0 0 := by
    intro h
    subst hW
    cases r with
    | nil => exact absurd rfl h
    | cons x r =>
      by_cases e : isDig x = true
      · rw [List.takeWhile_cons_of_pos e]; rfl
      · rw [List.takeWhile_cons_of_neg e] at h; exact absurd rfl h
  unfold countS
  simp only [hW]
  unfold numberS
  match W, ha, hg with
  | [], _, _ => simp
  | [a], ha, hg =>
    rw [hg (by simp)]
    simp only [List.all_cons, List.all_nil, Bool.and_true] at ha
    have h1 := (isDig_iff a).1 ha
    have e : capS [a] = valS [a] := by simp [capS, valS, cstep, dstep]; omega
    rw [e]
    by_cases c1 : ((([a] : List UInt8).getD 0 0).toNat : Int) = 48
    · rw [if_pos (.inr (.inr c1)), if_pos (.inr (.inl c1))]; simp
    · rw [if_neg (by simp at c1 ⊢; omega), if_neg (by simp [ha])]
      by_cases c2 : valS [a] < 2 ∨ 16 < valS [a]
      · rw [if_pos c2, if_pos (.inr (.inr c2))]; simp
      · rw [if_neg c2, if_neg (by rintro (h | h | h); cases h; exact c1 h; exact c2 h)]; simp; omega
  | [a, b], ha, hg =>
    rw [hg (by simp)]
    simp only [List.all_cons, List.all_nil, Bool.and_true, Bool.and_eq_true] at ha
    have h1 := (isDig_iff a).1 ha.1
    have h2 := (isDig_iff b).1 ha.2
    have e : capS [a, b] = valS [a, b] := by simp [capS, valS, cstep, dstep]; omega
    rw [e]
    by_cases c1 : ((([a, b] : List UInt8).getD 0 0).toNat : Int) = 48
    · rw [if_pos (.inr (.inr c1)), if_pos (.inr (.inl c1))]; simp
    · rw [if_neg (by simp at c1 ⊢; omega), if_neg (by simp [ha.1, ha.2])]
      by_cases c2 : valS [a, b] < 2 ∨ 16 < valS [a, b]
      · rw [if_pos c2, if_pos (.inr (.inr c2))]; simp
      · rw [if_neg c2, if_neg (by rintro (h | h | h); cases h; exact c1 h; exact c2 h)]; simp; omega
  | a :: b :: d :: s, ha, hg =>
    rw [hg (by simp), if_pos (by right; left; simp)]
    simp only [List.all_cons, Bool.and_eq_true] at ha
    have h1 := (isDig_iff a).1 ha.1
    have h2 := (isDig_iff b).1 ha.2.1
    have h3 := (isDig_iff d).1 ha.2.2.1
    by_cases c1 : (((a :: b :: d :: s : List UInt8).getD 0 0).toNat : Int) = 48
    · rw [if_pos (.inr (.inl c1))]; simp
    · have hc : 100 ≤ capS (a :: b :: d :: s) := cap_big s _ (by simp at c1; simp [cstep]; omega) ha.2.2.2
      rw [if_pos (by right; right; right; omega)]; simp

def proper (l : List UInt8) (q : Nat) : Prop := q = l.length ∨ l.getD q 0 = 32 ∨ l.getD q 0 = 93
theorem word_proper {l : List UInt8} {p : Nat} (hp : p ≤ l.length) : proper l (wordEnd l p) := by
  have h1 := wordEnd_rng hp
  rcases Nat.lt_or_ge (wordEnd l p) l.length with h | h
  · by_cases c : l.getD (wordEnd l p) 0 ≠ 32 ∧ l.getD (wordEnd l p) 0 ≠ 93
    · exfalso
      have h2 : (l.drop p).takeWhile nb = (l.drop p).take ((l.drop p).takeWhile nb).length := List.prefix_iff_eq_take.1 (List.takeWhile_prefix nb)
      have h3 := word_end _ p rfl hp
      have h4 : l.drop p = (l.drop p).takeWhile nb ++ l.getD (wordEnd l p) 0 :: l.drop (wordEnd l p + 1) := by
        rw [← drop_get h, h3, ← List.drop_drop]
        conv => lhs; rw [← List.take_append_drop ((l.drop p).takeWhile nb).length (l.drop p)]
        rw [← h2]
      have h5 : ((l.drop p).takeWhile nb).all nb = true := tw_all _
      have h6 := congrArg (List.takeWhile nb) h4
      rw [tw_app _ _ h5, List.takeWhile_cons_of_pos ((nb_iff _).2 c)] at h6
      have := congrArg List.length h6
      simp at this
    · rw [Decidable.not_and_iff_not_or_not, Decidable.not_not, Decidable.not_not] at c
      exact .inr c
  · exact .inl (by omega)
/-- What the count says of the word from there on. -/
theorem word_num {l : List UInt8} {p : Nat} (hp : p ≤ l.length) :
    let c := countS (l.drop p) 16
    (c.2 = 0 → numberS (wordS l p) 16 = 0) ∧
    (0 < c.2 → (proper l (p + c.2.toNat) → numberS (wordS l p) 16 = c.1 ∧ wordEnd l p = p + c.2.toNat) ∧ (¬ proper l (p + c.2.toNat) → numberS (wordS l p) 16 = 0)) := by
  obtain ⟨n1, n2, n3⟩ := num_count (r := l.drop p) rfl
  have hsplit := (List.takeWhile_append_dropWhile (p := isDig) (l := l.drop p)).symm
  have hda := all_tw (l.drop p)
  have hdn : ((l.drop p).takeWhile isDig).all nb = true := by
    rw [List.all_eq_true] at hda ⊢; exact fun x hx => dig_nb (hda x hx)
  have hW : wordS l p = (l.drop p).takeWhile isDig ++ ((l.drop p).dropWhile isDig).takeWhile nb := by
    rw [word_tw hp]; conv => lhs; rw [hsplit]
    exact tw_app _ _ hdn
  have hrest : l.drop (p + ((l.drop p).takeWhile isDig).length) = (l.drop p).dropWhile isDig := by
    rw [← List.drop_drop]; exact tw_drop _
  have hall : (wordS l p).all isDig = true → ((l.drop p).dropWhile isDig).takeWhile nb = [] := by
    intro h
    rw [hW, List.all_append, Bool.and_eq_true] at h
    cases hd : (l.drop p).dropWhile isDig with
    | nil => rfl
    | cons c s =>
      rw [hd] at h
      by_cases e : nb c = true
      · rw [List.takeWhile_cons_of_pos e] at h
        simp [dw_head hd] at h
      · rw [List.takeWhile_cons_of_neg e]
  have hno : (wordS l p).all isDig = false → numberS (wordS l p) 16 = 0 := by
    intro h; unfold numberS; split
    · rfl
    · first | rfl | rw [if_pos h]
  have hyes : ((l.drop p).dropWhile isDig).takeWhile nb = [] → numberS (wordS l p) 16 = (countS (l.drop p) 16).1 := by
    intro h; rw [hW, h, List.append_nil]; exact n1
  have hprop : proper l (p + ((l.drop p).takeWhile isDig).length) ↔ ((l.drop p).dropWhile isDig).takeWhile nb = [] := by
    cases hd : (l.drop p).dropWhile isDig with
    | nil =>
      rw [hd] at hrest
      simp only [List.takeWhile_nil, iff_true]
      left
      have := (List.drop_eq_nil_iff).1 hrest
      have h2 : ((l.drop p).takeWhile isDig).length ≤ (l.drop p).length := (List.takeWhile_sublist _).length_le
      simp at h2; omega
    | cons c s =>
      rw [hd] at hrest
      have hlt : p + ((l.drop p).takeWhile isDig).length < l.length := by
        rcases Nat.lt_or_ge (p + ((l.drop p).takeWhile isDig).length) l.length with h | h
        · exact h
        · rw [List.drop_of_length_le h] at hrest; cases hrest
      have hc : l.getD (p + ((l.drop p).takeWhile isDig).length) 0 = c := by
        rw [drop_get hlt] at hrest; exact (List.cons.inj hrest).1
      unfold proper
      rw [hc]
      by_cases e : nb c = true
      · rw [List.takeWhile_cons_of_pos e]
        have := (nb_iff c).1 e
        simp [this.1, this.2]; omega
      · rw [List.takeWhile_cons_of_neg e]
        have : ¬ (c ≠ 32 ∧ c ≠ 93) := fun h => e ((nb_iff c).2 h)
        rw [Decidable.not_and_iff_not_or_not, Decidable.not_not, Decidable.not_not] at this
        simp only [iff_true]; exact .inr this
  simp only
  refine ⟨fun h0 => ?_, fun h0 => ?_⟩
  · cases ha : (wordS l p).all isDig with
    | false => exact hno ha
    | true => rw [hyes (hall ha)]; exact n3 h0
  · have hlen := (n2 (by omega)).1
    rw [hlen, Int.toNat_natCast]
    refine ⟨fun hpr => ⟨hyes (hprop.1 hpr), ?_⟩, fun hpr => hno ?_⟩
    · rw [word_end _ p rfl hp, ← word_tw hp, hW, hprop.1 hpr, List.append_nil]
    · cases ha : (wordS l p).all isDig with
      | false => rfl
      | true => exact absurd (hprop.2 (hall ha)) hpr
theorem take_take_app (a b : List Stitch) : (a ++ b.take 17).take 17 = (a ++ b).take 17 := by
  rw [List.take_append, List.take_append, List.take_take, Nat.min_eq_left (by omega)]
theorem pre_two {l : List UInt8} {q : Nat} : [93, 120] <+: l.drop q ↔ l.getD q 0 = 93 ∧ q + 1 < l.length ∧ l.getD (q + 1) 0 = 120 := by
  constructor
  · intro h
    have hl := h.length_le
    simp at hl
    rw [drop_get (by omega), drop_get (show q + 1 < l.length by omega), List.cons_prefix_cons, List.cons_prefix_cons] at h
    exact ⟨h.1.symm, by omega, h.2.1.symm⟩
  · rintro ⟨h1, h2, h3⟩
    rw [drop_get (by omega), drop_get h2, h1, h3]
    exact ⟨l.drop (q + 1 + 1), rfl⟩
def ItemM (l : List UInt8) (F p : Nat) : Prop := ∀ (b : List (List Stitch)) (t : List Stitch), t.length ≤ 17 →
  (readS l F false p [] = none → Mach l b t p true ([], 4)) ∧
  ∀ xs q, readS l F false p [] = some (xs, q) → (proper l q → ∀ R, Mach l b ((t ++ xs).take 17) q false R → Mach l b t p true R) ∧ (¬ proper l q → Mach l b t p true ([], 4))
def RowM (l : List UInt8) (F p : Nat) : Prop := ∀ (b : List (List Stitch)) (acc : List Stitch), acc.length ≤ 17 →
  (readS l F true p acc = none → Mach l b acc p true ([], 4)) ∧
  ∀ xs q, readS l F true p acc = some (xs, q) → (q = l.length ∨ l.getD q 0 = 93 → ∀ R, Mach l b xs q false R → Mach l b acc p true R) ∧ (¬ (q = l.length ∨ l.getD q 0 = 93) → Mach l b acc p true ([], 4))
theorem item_leaf {l : List UInt8} {F p : Nat} (hp : p ≤ l.length) (c : p = l.length ∨ l.getD p 0 ≠ 91) : ItemM l F p := by
  intro b t ht
  rw [read_leaf c]
  by_cases h : (parseS (wordS l p)).2 = 0
  · have hpos := word_pos hp h
    have hw := wordEnd_rng hp
    have hne : l.getD p 0 ≠ 91 := c.resolve_left (by omega)
    rw [leaf_some rfl h]
    refine ⟨(fun e => by cases e), fun xs q e => ?_⟩
    cases e
    exact ⟨fun _ R m => m_leaf (by omega) hne h m, fun hn => absurd (word_proper hp) hn⟩
  · rw [leaf_none rfl h]
    refine ⟨fun _ => ?_, fun xs q e => by cases e⟩
    rcases Nat.lt_or_ge p l.length with hlt | hge
    · exact m_leaf4 hlt (c.resolve_left (by omega)) h
    · exact m_end (by omega)
theorem item_rep {l : List UInt8} {F p : Nat} (hp : p ≤ l.length) (c : ¬ (p = l.length ∨ l.getD p 0 ≠ 91)) (ih : RowM l F (p + 1)) : ItemM l (F + 1) p := by
  intro b t ht
  have hlt : p < l.length := by omega
  have hc : l.getD p 0 = 91 := Decidable.not_not.1 fun e => c (.inr e)
  rw [read_rep c]
  obtain ⟨r1, r2⟩ := ih (b ++ [t]) [] (by simp)
  cases hr : readS l F true (p + 1) [] with
  | none => exact ⟨fun _ => m_open hlt hc (r1 hr), fun xs q e => by cases e⟩
  | some z =>
    obtain ⟨xs, q⟩ := z
    obtain ⟨s1, s2⟩ := r2 xs q hr
    have hpos := read_pos F true (p + 1) [] xs q (by omega) hr
    simp only
    unfold closeS
    by_cases hpre : [93, 120] <+: l.drop q
    · rw [if_pos hpre]
      have h2 := pre_two.1 hpre
      have hends : ends l (b ++ [t]) q := ⟨h2.1, by simp, h2.2.1, h2.2.2⟩
      have hwn := word_num (l := l) (p := q + 2) (by omega)
      simp only at hwn ⊢
      have hcr := @count_rng (l.drop (q + 2)) 16
      by_cases c2 : 0 < (countS (l.drop (q + 2)) 16).2
      · rw [if_pos c2]
        refine ⟨(fun e => by cases e), fun ys r e => ?_⟩
        cases e
        refine ⟨fun hpr R m => ?_, fun hpr => ?_⟩
        · obtain ⟨e1, e2⟩ := (hwn.2 c2).1 hpr
          have e3 : (countS (l.drop (q + 2)) 16).1 ≠ 0 := ((num_count (r := l.drop (q + 2)) rfl).2.1 (by omega)).2
          refine m_open hlt hc (s1 (.inr h2.1) R (m_close hends (by rw [e1]; exact e3) ?_))
          rw [e1, e2, ← take_take_app]; exact m
        · exact m_open hlt hc (s1 (.inr h2.1) _ (m_num hends ((hwn.2 c2).2 hpr)))
      · rw [if_neg c2]
        exact ⟨fun _ => m_open hlt hc (s1 (.inr h2.1) _ (m_num hends (hwn.1 (by omega)))), fun xs q e => by cases e⟩
    · rw [if_neg hpre]
      refine ⟨fun _ => m_open hlt hc ?_, fun xs q e => by cases e⟩
      by_cases c3 : q = l.length ∨ l.getD q 0 = 93
      · refine s1 c3 _ ?_
        rcases Nat.lt_or_ge q l.length with h | h
        · have h93 : l.getD q 0 = 93 := c3.resolve_left (by omega)
          exact m_bad h (by rw [h93]; decide) fun e => hpre (pre_two.2 ⟨e.1, e.2.2.1, e.2.2.2⟩)
        · exact m_fin4 (by omega) (by simp)
      · exact s2 c3
theorem row_mach {l : List UInt8} {F p : Nat} (hp : p ≤ l.length) (ih : ItemM l F p) (ihr : ∀ q, p < q → q ≤ l.length → RowM l F q) : RowM l (F + 1) p := by
  intro b acc ht
  obtain ⟨i1, i2⟩ := ih b acc ht
  cases hr : readS l F false p [] with
  | none => rw [read_row_none hr]; exact ⟨fun _ => i1 hr, fun xs q e => by cases e⟩
  | some z =>
    obtain ⟨ys, r⟩ := z
    obtain ⟨j1, j2⟩ := i2 ys r hr
    have hpos := read_pos F false p [] ys r hp hr
    by_cases c : r = l.length ∨ l.getD r 0 ≠ 32
    · rw [read_row_end hr c]
      refine ⟨(fun e => by cases e), fun xs q e => ?_⟩
      cases e
      refine ⟨fun h R m => j1 (h.imp id .inr) R m, fun h => j2 fun h2 => ?_⟩
      rcases h2 with h2 | h2 | h2
      · exact h (.inl h2)
      · rcases c with c | c
        · exact h (.inl c)
        · exact c h2
      · exact h (.inr h2)
    · rw [read_row_next hr c]
      have h32 : l.getD r 0 = 32 := Decidable.not_not.1 fun e => c (.inr e)
      have hlt : r < l.length := by omega
      obtain ⟨k1, k2⟩ := ihr (r + 1) (by omega) (by omega) b ((acc ++ ys).take 17) (by simp; omega)
      have go : ∀ R, Mach l b ((acc ++ ys).take 17) (r + 1) true R → Mach l b acc p true R := fun R m => j1 (.inr (.inl h32)) R (m_space hlt h32 m)
      exact ⟨fun h => go _ (k1 h), fun xs q h => ⟨fun hc R m => go _ ((k2 xs q h).1 hc R m), fun hc => go _ ((k2 xs q h).2 hc)⟩⟩
theorem mach_read {l : List UInt8} : ∀ (F : Nat), (∀ p, p ≤ l.length → 2 * (l.length - p) ≤ F → ItemM l F p) ∧ (∀ p, p ≤ l.length → 2 * (l.length - p) + 1 ≤ F → RowM l F p)
  | 0 => ⟨fun p hp hF => item_leaf hp (.inl (by omega)), fun p hp hF => by omega⟩
  | F + 1 => by
    obtain ⟨h1, h2⟩ := mach_read F
    refine ⟨fun p hp hF => ?_, fun p hp hF => row_mach hp (h1 p hp (by omega)) fun q hq hql => h2 q hql (by omega)⟩
    by_cases c : p = l.length ∨ l.getD p 0 ≠ 91
    · exact item_leaf hp c
    · exact item_rep hp c (h2 (p + 1) (by omega) (by omega))
/-- What the machine returns is the row of the text, and the error. -/
theorem mach_all {l : List UInt8} {R : List Stitch × Int} (h1 : l.length ≤ 1024 → Mach l [] [] 0 true R) (h2 : 1024 < l.length → R = ([], 3)) : R = expandS l := by
  unfold expandS
  by_cases c : 1024 < l.length
  · rw [if_pos c]; exact h2 c
  · rw [if_neg c]
    refine (h1 (by omega)).det ?_
    obtain ⟨r1, r2⟩ := (mach_read (l := l) (2 * l.length + 1)).2 0 (by omega) (by omega) [] [] (by simp)
    unfold rowS
    cases hr : readS l (2 * l.length + 1) true 0 [] with
    | none => exact r1 hr
    | some z =>
      obtain ⟨xs, q⟩ := z
      obtain ⟨s1, s2⟩ := r2 xs q hr
      have hpos := read_pos (2 * l.length + 1) true 0 [] xs q (by omega) hr
      simp only
      by_cases c2 : q = l.length
      · rw [if_pos c2]
        simp only
        refine s1 (.inl c2) _ ?_
        by_cases c3 : 16 < xs.length
        · rw [if_pos c3]; exact m_fin3 (by omega) c3
        · rw [if_neg c3]; exact m_fin0 (by omega) c3
      · rw [if_neg c2]
        simp only
        by_cases c3 : l.getD q 0 = 93
        · exact s1 (.inr c3) _ (m_bad (by omega) (by rw [c3]; decide) fun e => e.2.1 rfl)
        · exact s2 (by rintro (e | e); exact c2 e; exact c3 e)
end Go.G14
namespace Go.Proofs.YtbbnampdgefljaaDoor
open Go.Lw Go.G14
theorem co10 : CallOf Tryd.prog 10 := CallOf.mk' Tryd.func10 (by kernel_rfl) (by kernel_rfl)
theorem co11 : CallOf Tryd.prog 11 := CallOf.mk' Tryd.func11 (by kernel_rfl) (by kernel_rfl)
theorem co12 : CallOf Tryd.prog 12 := CallOf.mk' Tryd.func12 (by kernel_rfl) (by kernel_rfl)
theorem co13 : CallOf Tryd.prog 13 := CallOf.mk' Tryd.func13 (by kernel_rfl) (by kernel_rfl)
theorem co14 : CallOf Tryd.prog 14 := CallOf.mk' Tryd.func14 (by kernel_rfl) (by kernel_rfl)
theorem co15 : CallOf Tryd.prog 15 := CallOf.mk' Tryd.func15 (by kernel_rfl) (by kernel_rfl)
theorem co27 : CallOf Tryd.prog 27 := CallOf.mk' Tryd.func27 (by kernel_rfl) (by kernel_rfl)
theorem co29 : CallOf Tryd.prog 29 := CallOf.mk' Tryd.func29 (by kernel_rfl) (by kernel_rfl)
theorem co31 : CallOf Tryd.prog 31 := CallOf.mk' Tryd.func31 (by kernel_rfl) (by kernel_rfl)
theorem el48 : ElemOf Tryd.prog 48 9 Enc.str 16 := ElemOf.mk' (z := (S [])) Tryd.underlying48 (by kernel_rfl) rfl
theorem el65 : ElemOf Tryd.prog 65 23 Enc.i64 8 := ElemOf.mk' (z := (.int .i64 0)) Tryd.underlying65 (by kernel_rfl) rfl
theorem na23 : NotAgg Tryd.prog 23 := fun _ => by kernel_rfl
theorem sz22 : SizeOf Tryd.prog 22 1 := fun _ => by kernel_rfl
end Go.Proofs.YtbbnampdgefljaaDoor
namespace Go.Proofs.YtbbnampdgefljaaDoor
open Go.Lw Go.G14
theorem shorten_ok (u : Value) (xs : List Stitch) (w0 : World) (hu : Sl encSt w0 u xs) (hy : Sym w0) : Rets Tryd.prog 14 #[u] w0 fun v w' => v = .tuple #[S (shortenS xs).1, .int .i64 (shortenS xs).2] ∧ Fr [] w0 w' := by
  have h00 := hy.pos
  obtain ⟨A, c, rfl, hc⟩ := hu.form
  have hs := hu
  obtain ⟨-, -, hM, hA⟩ := Sl.open_ hu
  unfold maxLen at hM
  refine enter [(0, .slice A xs.length c)] Tryd.func14 rfl Tryd.ntmps14 rfl (.cons rfl .nil) ?_
  have hf := Fr.refl [] w0
  intro a h
  refine wp_seq ?_
  refine wp_region_lit ?_
  refine st_assign h rfl rfl ?_; clear h a; intro a h
  refine st_assign h rfl rfl ?_; clear h a; intro a h
  replace h : Ag a 24 [(0, _)] := h.sub (.cons rfl .nil)
  refine wpList_nil (norm_then ?_)
  refine wp_seq ?_
  refine wp_seq ?_
  refine wp_region_lit ?_
  refine st_move h rfl rfl ?_; clear h a; intro a h
  refine st_lenS h rfl Tryd.underlying22 rfl ?_; clear h a; intro a h
  refine st_gt h rfl rfl rfl ?_; clear h a; intro a h
  replace h : Ag a 24 [(0, _), (8, _)] := h.sub (.cons rfl (.cons rfl .nil))
  refine wpList_nil (norm_then ?_)
  first | refine cond_dec h rfl (fun c0 => ?_) (fun c0 => ?_) | refine cond_ndec h rfl (fun c0 => ?_) (fun c0 => ?_) | refine cond_split h rfl (fun c0 => ?_) (fun c0 => ?_)
  · refine id ?_
    refine wp_seq ?_
    refine wp_region_lit ?_
    refine st_assign h rfl rfl ?_; clear h a; intro a h
    refine st_assign h rfl rfl ?_; clear h a; intro a h
    replace h : Ag a 24 [(2, _), (3, _)] := h.sub (.cons rfl (.cons rfl .nil))
    refine wpList_nil (norm_then ?_)
    refine wp_ret (ret_then ?_)
    refine ret2 h Tryd.results14 rfl rfl ?_
    exact ⟨_, rfl, by rw [shortenS, if_pos (by omega)]; rfl, hf⟩
  · refine id ?_
    refine wp_skip (norm_then ?_)
    refine wp_seq ?_
    refine wp_seq ?_
    refine wp_region_lit ?_
    refine st_move h rfl rfl ?_; clear h a; intro a h
    refine st_lenS h rfl Tryd.underlying22 rfl ?_; clear h a; intro a h
    refine st_eq h rfl rfl rfl ?_; clear h a; intro a h
    replace h : Ag a 24 [(0, _), (11, _)] := h.sub (.cons rfl (.cons rfl .nil))
    refine wpList_nil (norm_then ?_)
    first | refine cond_dec h rfl (fun c1 => ?_) (fun c1 => ?_) | refine cond_ndec h rfl (fun c1 => ?_) (fun c1 => ?_) | refine cond_split h rfl (fun c1 => ?_) (fun c1 => ?_)
    · refine id ?_
      refine wp_seq ?_
      refine wp_region_lit ?_
      refine st_assign h rfl rfl ?_; clear h a; intro a h
      refine st_assign h rfl rfl ?_; clear h a; intro a h
      replace h : Ag a 24 [(2, _), (3, _)] := h.sub (.cons rfl (.cons rfl .nil))
      refine wpList_nil (norm_then ?_)
      refine wp_ret (ret_then ?_)
      refine ret2 h Tryd.results14 rfl rfl ?_
      exact ⟨_, rfl, by rw [shortenS, if_neg (by omega), if_pos (by omega)]; rfl, hf⟩
    · refine id ?_
      refine wp_skip (norm_then ?_)
      refine wp_seq ?_
      refine wp_seq ?_
      refine wp_region_lit ?_
      refine st_move h rfl rfl ?_; clear h a; intro a h
      refine st_lenS h rfl Tryd.underlying22 rfl ?_; clear h a; intro a h
      refine st_move h rfl rfl ?_; clear h a; intro a h
      replace h : Ag a 24 [(0, _), (12, _), (13, _), (14, _)] := h.sub (.cons rfl (.cons rfl (.cons rfl (.cons rfl .nil))))
      refine wpList_nil (norm_then ?_)
      refine wp_block ?_
      refine loop (ι := Nat) (fun k => [(0, .slice A xs.length c), (12, .slice A xs.length c), (13, .int .i64 (xs.length : Int)), (14, .int .i64 (k : Int))]) (fun k w' => k ≤ xs.length ∧ (xs.take k).all okB = true ∧ Sl encSt w' (.slice A xs.length c) xs ∧ Sym w' ∧ Fr [] w0 w') (fun k => xs.length - k) 0 (h.sub (.cons rfl (.cons rfl (.cons rfl (.cons rfl .nil))))) ⟨by omega, rfl, hs, hy, hf⟩ ?_
      clear h a hs hy hf
      rintro k w1 a h ⟨hk, ha, hs, hy, hf⟩
      refine wp_seq ?_
      refine wp_region_lit ?_
      refine st_lt h rfl rfl rfl ?_; clear h a; intro a h
      refine wpList_nil (norm_then ?_)
      refine wp_seq ?_
      first | refine cond_dec h rfl (fun c2 => ?_) (fun c2 => ?_) | refine cond_ndec h rfl (fun c2 => ?_) (fun c2 => ?_) | refine cond_split h rfl (fun c2 => ?_) (fun c2 => ?_)
      · have hrb := hu.blk (by intro e; subst e; simp at c1)
        obtain ⟨x, hxk⟩ : ∃ x, xs[k]? = some x := ⟨_, List.getElem?_eq_getElem (by omega)⟩
        obtain ⟨ad, hAd, ca⟩ := hA k x hxk
        refine wp_skip (norm_then ?_)
        refine wp_seq ?_
        refine wp_block ?_
        refine wp_seq ?_
        refine wp_region_lit ?_
        refine st_idxS h (by rw [hAd]; rfl) rfl el22 (by omega) (by omega) rfl rfl ?_; clear h a; intro a h
        refine st_loadA h rfl (ca.fr hf (by simp)) ag36 rfl ?_; clear h a; intro a h
        refine st_alloc h zv36 rfl rfl ?_; clear h a; intro w2 hb5 hq hz a h
        obtain ⟨g_5, hg⟩ : ∃ g, g = w1.heap.size := ⟨_, rfl⟩; rw [← hg] at hb5 h hz
        have hl5 : w0.heap.size ≤ g_5 := by have := hf.size; omega
        replace hf := hf.next hq
        replace hs := hs.ext hq
        replace hy := hy.ext hq
        clear hq hz hg
        refine st_storeBA h rfl rfl hb5 rfl (by first | (simp [Value.oneCell', S]; done) | exact Enc.one _ _) sz36 ?_; clear h a; intro w3 hbn hq hz a h
        replace hf := hf.step hq (by first | (simp; done) | (simp; omega))
        replace hs := hs.fr hq (by intro k hk hb; have := hrb k hb; simp at hk; omega)
        replace hy := hy.fr hq (by first | (simp; done) | (simp; omega) | (simp [blks]; done) | (simp [blks]; omega))
        clear hb5 hq hz; have hb5 : Blk w3 g_5 _ [_, _, _, _, _] := hbn; clear hbn
        replace h : Ag a 24 [(0, _), (5, _), (12, _), (13, _), (14, _)] := h.sub (.cons rfl (.cons rfl (.cons rfl (.cons rfl (.cons rfl .nil)))))
        refine wpList_nil (norm_then ?_)
        refine wp_seq ?_
        refine wp_region_lit ?_
        refine st_loadBA h rfl hb5 ag36 rfl ?_; clear h a; intro a h
        refine st_call h (evs_cons rfl evs_nil) co30 (check_ok x _) rfl ?_; clear h a; rintro _ w4 ⟨rfl, hq⟩ a h
        replace hf := hf.next hq
        replace hs := hs.ext hq
        replace hy := hy.ext hq
        replace hb5 := hb5.ext hq
        clear hq
        refine st_ne h rfl rfl rfl ?_; clear h a; intro a h
        replace h : Ag a 24 [(0, _), (12, _), (13, _), (14, _), (20, _)] := h.sub (.cons rfl (.cons rfl (.cons rfl (.cons rfl (.cons rfl .nil)))))
        refine wpList_nil (norm_then ?_)
        first | refine cond_dec h rfl (fun c3 => ?_) (fun c3 => ?_) | refine cond_ndec h rfl (fun c3 => ?_) (fun c3 => ?_) | refine cond_split h rfl (fun c3 => ?_) (fun c3 => ?_)
        · refine id ?_
          refine wp_seq ?_
          refine wp_region_lit ?_
          refine st_assign h rfl rfl ?_; clear h a; intro a h
          refine st_assign h rfl rfl ?_; clear h a; intro a h
          replace h : Ag a 24 [(2, _), (3, _)] := h.sub (.cons rfl (.cons rfl .nil))
          refine wpList_nil (norm_then ?_)
          refine wp_ret (ret_blk (ret_then (ret_then (ret_blk (ret_then ?_)))))
          refine ret2 h Tryd.results14 rfl rfl ?_
          exact ⟨_, rfl, by rw [shortenS, if_neg (by omega), if_neg (by omega), if_neg (fun e => c3 ((okB_iff _).1 (List.all_eq_true.1 e x (List.mem_of_getElem? hxk))))]; rfl, hf⟩
        · refine id ?_
          refine wp_skip (norm_blk (norm_then ?_))
          refine wp_region_lit ?_
          refine st_add h rfl rfl (by first | exact IntWalk.i64_in _ (by omega) | rfl) rfl ?_; clear h a; intro a h
          refine st_move h rfl rfl ?_; clear h a; intro a h
          replace h : Ag a 24 [(0, _), (12, _), (13, _), (14, _)] := h.sub (.cons rfl (.cons rfl (.cons rfl (.cons rfl .nil))))
          refine wpList_nil (norm_then ?_)
          exact ⟨k + 1, h.sub (.cons rfl (.cons rfl (.cons rfl (.cons rfl .nil)))), ⟨by omega, by rw [List.take_add_one, hxk]; exact all_snocS _ _ ha ((okB_iff _).2 (by omega)), hs, hy, hf⟩, by omega⟩
      · obtain rfl : k = xs.length := by omega
        rw [List.take_length] at ha
        refine wp_exit (exit_then (exit_then (exit_here (norm_then ?_))))
        refine wp_seq ?_
        refine wp_region_lit ?_
        refine st_move h rfl rfl ?_; clear h a; intro a h
        refine st_call h (evs_cons rfl evs_nil) co31 (shortest_ok _ xs _ hs (by omega) (by omega) hy) rfl ?_; clear h a; rintro _ w5 ⟨rfl, hq⟩ a h
        replace hf := hf.next hq
        replace hs := hs.ext hq
        replace hy := hy.ext hq
        clear hq
        refine st_assign h rfl rfl ?_; clear h a; intro a h
        refine st_assign h rfl rfl ?_; clear h a; intro a h
        replace h : Ag a 24 [(2, _), (3, _)] := h.sub (.cons rfl (.cons rfl .nil))
        refine wpList_nil (norm_then ?_)
        refine wp_ret ?_
        refine ret2 h Tryd.results14 rfl rfl ?_
        exact ⟨_, rfl, by rw [shortenS, if_neg (by omega), if_neg (by omega), if_pos ha], hf⟩
theorem valid_ok (s : Stitch) (w0 : World) (hk : 0 ≤ s.k) (hy : 0 ≤ s.y) : Rets Tryd.prog 15 #[stV s] w0 fun v w' => v = .int .i64 (if checkS s = 0 then 1 else 0) ∧ Fr [] w0 w' := by
  refine enter [(0, stV s)] Tryd.func15 rfl Tryd.ntmps15 rfl (.cons rfl .nil) ?_
  have hf := Fr.refl [] w0
  intro a h
  refine wp_seq ?_
  refine wp_region_lit ?_
  refine st_box h rfl rfl rfl ?_; clear h a; intro w1 hb1 hq hz a h
  obtain ⟨g_1, hg⟩ : ∃ g, g = w0.heap.size := ⟨_, rfl⟩; rw [← hg] at hb1 h hz
  have hl1 : w0.heap.size ≤ g_1 := by have := hf.size; omega
  replace hf := hf.next hq
  clear hq hz hg
  refine st_assign h rfl rfl ?_; clear h a; intro a h
  replace h : Ag a 58 [(1, _)] := h.sub (.cons rfl .nil)
  refine wpList_nil (norm_then ?_)
  refine wp_seq ?_
  refine wp_seq ?_
  refine region_bool (r := 22) (L' := [(1, _)]) (s.y = 0 ∨ 6 < s.y ∨ s.k = 0 ∨ 8 < s.k) h (.cons rfl .nil) ?_ ?_
  · refine id ?_
    refine st_fieldAddr h rfl fa36_1 rfl ?_; clear h a; intro a h
    refine st_loadB h rfl hb1 rfl na5 rfl ?_; clear h a; intro a h
    refine st_eq h rfl rfl rfl ?_; clear h a; intro a h
    refine st_move h rfl rfl ?_; clear h a; intro a h
    first | refine guard_dec (D := 8) h rfl ?_ ?_ | refine guard_ndec (D := 8) h rfl ?_ ?_ | refine guard_any (D := 8) h rfl ?_ ?_
    · clear h; intro g0 h
      refine gd_no h rfl rfl rfl rfl rfl rfl rfl rfl ?_; clear h a; intro a h
      refine gd_no h rfl rfl rfl rfl rfl rfl rfl rfl ?_; clear h a; intro a h
      refine gd_no h rfl rfl rfl rfl rfl rfl rfl rfl ?_; clear h a; intro a h
      refine st_pick_t h rfl rfl rfl rfl ?_; clear h a; intro a h
      refine st_move h rfl rfl ?_; clear h a; intro a h
      refine gd_no h rfl rfl rfl rfl rfl rfl rfl rfl ?_; clear h a; intro a h
      refine gd_no h rfl rfl rfl rfl rfl rfl rfl rfl ?_; clear h a; intro a h
      refine gd_no h rfl rfl rfl rfl rfl rfl rfl rfl ?_; clear h a; intro a h
      refine st_pick_t h rfl rfl rfl rfl ?_; clear h a; intro a h
      refine st_move h rfl rfl ?_; clear h a; intro a h
      refine gd_no h rfl rfl rfl rfl rfl rfl rfl rfl ?_; clear h a; intro a h
      refine gd_no h rfl rfl rfl rfl rfl rfl rfl rfl ?_; clear h a; intro a h
      refine gd_no h rfl rfl rfl rfl rfl rfl rfl rfl ?_; clear h a; intro a h
      refine st_pick_t h rfl rfl rfl rfl ?_; clear h a; intro a h
      exact wpList_nil (bool_end h rfl (by first | exact bt (by omega) | exact bf (by omega) | exact bi (by omega) | exact bn (by omega)) (.cons rfl .nil))
    · clear h; intro g0 h
      refine gd_yes h rfl rfl rfl rfl rfl rfl ?_
      refine st_fieldAddr h rfl fa36_1 rfl ?_; clear h a; intro a h
      refine gd_yes h rfl rfl rfl rfl rfl rfl ?_
      refine st_loadB h rfl hb1 rfl na5 rfl ?_; clear h a; intro a h
      refine gd_yes h rfl rfl rfl rfl rfl rfl ?_
      refine st_gt h rfl rfl rfl ?_; clear h a; intro a h
      refine st_pick_f h rfl rfl rfl rfl ?_; clear h a; intro a h
      refine st_move h rfl rfl ?_; clear h a; intro a h
      first | refine guard_dec (D := 13) h rfl ?_ ?_ | refine guard_ndec (D := 13) h rfl ?_ ?_ | refine guard_any (D := 13) h rfl ?_ ?_
      · clear h; intro g1 h
        refine gd_no h rfl rfl rfl rfl rfl rfl rfl rfl ?_; clear h a; intro a h
        refine gd_no h rfl rfl rfl rfl rfl rfl rfl rfl ?_; clear h a; intro a h
        refine gd_no h rfl rfl rfl rfl rfl rfl rfl rfl ?_; clear h a; intro a h
        refine st_pick_t h rfl rfl rfl rfl ?_; clear h a; intro a h
        refine st_move h rfl rfl ?_; clear h a; intro a h
        refine gd_no h rfl rfl rfl rfl rfl rfl rfl rfl ?_; clear h a; intro a h
        refine gd_no h rfl rfl rfl rfl rfl rfl rfl rfl ?_; clear h a; intro a h
        refine gd_no h rfl rfl rfl rfl rfl rfl rfl rfl ?_; clear h a; intro a h
        refine st_pick_t h rfl rfl rfl rfl ?_; clear h a; intro a h
        exact wpList_nil (bool_end h rfl (by first | exact bt (by omega) | exact bf (by omega) | exact bi (by omega) | exact bn (by omega)) (.cons rfl .nil))
      · clear h; intro g1 h
        refine gd_yes h rfl rfl rfl rfl rfl rfl ?_
        refine st_fieldAddr h rfl fa36_0 rfl ?_; clear h a; intro a h
        refine gd_yes h rfl rfl rfl rfl rfl rfl ?_
        refine st_loadB h rfl hb1 rfl na34 rfl ?_; clear h a; intro a h
        refine gd_yes h rfl rfl rfl rfl rfl rfl ?_
        refine st_eq h rfl rfl rfl ?_; clear h a; intro a h
        refine st_pick_f h rfl rfl rfl rfl ?_; clear h a; intro a h
        refine st_move h rfl rfl ?_; clear h a; intro a h
        first | refine guard_dec (D := 18) h rfl ?_ ?_ | refine guard_ndec (D := 18) h rfl ?_ ?_ | refine guard_any (D := 18) h rfl ?_ ?_
        · clear h; intro g2 h
          refine gd_no h rfl rfl rfl rfl rfl rfl rfl rfl ?_; clear h a; intro a h
          refine gd_no h rfl rfl rfl rfl rfl rfl rfl rfl ?_; clear h a; intro a h
          refine gd_no h rfl rfl rfl rfl rfl rfl rfl rfl ?_; clear h a; intro a h
          refine st_pick_t h rfl rfl rfl rfl ?_; clear h a; intro a h
          exact wpList_nil (bool_end h rfl (by first | exact bt (by omega) | exact bf (by omega) | exact bi (by omega) | exact bn (by omega)) (.cons rfl .nil))
        · clear h; intro g2 h
          refine gd_yes h rfl rfl rfl rfl rfl rfl ?_
          refine st_fieldAddr h rfl fa36_0 rfl ?_; clear h a; intro a h
          refine gd_yes h rfl rfl rfl rfl rfl rfl ?_
          refine st_loadB h rfl hb1 rfl na34 rfl ?_; clear h a; intro a h
          refine gd_yes h rfl rfl rfl rfl rfl rfl ?_
          refine st_gt h rfl rfl rfl ?_; clear h a; intro a h
          refine st_pick_f h rfl rfl rfl rfl ?_; clear h a; intro a h
          exact wpList_nil (bool_end h rfl (by first | exact bt (by omega) | exact bf (by omega) | exact bi (by omega) | exact bn (by omega)) (.cons rfl .nil))
  · clear h a; intro a h
    refine (norm_then ?_)
    first | refine cond_dec h rfl (fun c0 => ?_) (fun c0 => ?_) | refine cond_ndec h rfl (fun c0 => ?_) (fun c0 => ?_) | refine cond_split h rfl (fun c0 => ?_) (fun c0 => ?_)
    · refine id ?_
      refine wp_seq ?_
      refine wp_region_lit ?_
      refine st_assign h rfl rfl ?_; clear h a; intro a h
      replace h : Ag a 58 [(2, _)] := h.sub (.cons rfl .nil)
      refine wpList_nil (norm_then ?_)
      refine wp_ret (ret_then ?_)
      refine ret1 h Tryd.results15 rfl ?_
      exact ⟨_, rfl, by rw [if_neg (fun e => by have := check_rng e; omega)], hf⟩
    · refine id ?_
      refine wp_skip (norm_then ?_)
      refine wp_seq ?_
      refine wp_seq ?_
      refine wp_region_lit ?_
      refine st_fieldAddr h rfl fa36_0 rfl ?_; clear h a; intro a h
      refine st_loadB h rfl hb1 rfl na34 rfl ?_; clear h a; intro a h
      refine st_eq h rfl rfl rfl ?_; clear h a; intro a h
      replace h : Ag a 58 [(1, _), (25, _)] := h.sub (.cons rfl (.cons rfl .nil))
      refine wpList_nil (norm_then ?_)
      first | refine cond_dec h rfl (fun c1 => ?_) (fun c1 => ?_) | refine cond_ndec h rfl (fun c1 => ?_) (fun c1 => ?_) | refine cond_split h rfl (fun c1 => ?_) (fun c1 => ?_)
      · refine id ?_
        refine wp_seq ?_
        refine wp_seq ?_
        refine wp_region_lit ?_
        refine st_assign h rfl rfl ?_; clear h a; intro a h
        replace h : Ag a 58 [(1, _), (3, _)] := h.sub (.cons rfl (.cons rfl .nil))
        refine wpList_nil (norm_then ?_)
        refine wp_block ?_
        refine loop (ι := Nat) (fun i => [(1, .pointer (some ⟨g_1, 0, none⟩)), (3, .int .i64 (i : Int))]) (fun i w' => 1 ≤ i ∧ i ≤ 4 ∧ ¬ (1 ≤ s.a ∧ s.a < i ∧ 1 ≤ s.b ∧ s.a + s.b ≤ 4) ∧ Blk w' g_1 36 [.int .u8 s.k, .int .u8 s.y, .int .i64 s.a, .int .i64 s.b, .bool s.f] ∧ Fr [] w0 w') (fun i => 4 - i) 1 (h.sub (.cons rfl (.cons rfl .nil))) ⟨by omega, by omega, by omega, hb1, hf⟩ ?_
        clear h a hb1 hf
        rintro i w2 a h ⟨hi1, hi4, hno, hb1, hf⟩
        refine wp_seq ?_
        refine wp_seq ?_
        refine wp_region_lit ?_
        refine st_move h rfl rfl ?_; clear h a; intro a h
        refine st_lt h rfl rfl rfl ?_; clear h a; intro a h
        replace h : Ag a 58 [(1, _), (3, _), (27, _)] := h.sub (.cons rfl (.cons rfl (.cons rfl .nil)))
        refine wpList_nil (norm_then ?_)
        first | refine cond_dec h rfl (fun c2 => ?_) (fun c2 => ?_) | refine cond_ndec h rfl (fun c2 => ?_) (fun c2 => ?_) | refine cond_split h rfl (fun c2 => ?_) (fun c2 => ?_)
        · refine id ?_
          refine wp_skip (norm_then ?_)
          refine wp_seq ?_
          refine wp_block ?_
          refine wp_seq ?_
          refine wp_region_lit ?_
          refine st_assign h rfl rfl ?_; clear h a; intro a h
          replace h : Ag a 58 [(1, _), (3, _), (4, _)] := h.sub (.cons rfl (.cons rfl (.cons rfl .nil)))
          refine wpList_nil (norm_then ?_)
          refine wp_block ?_
          refine loop (ι := Nat) (fun j => [(1, .pointer (some ⟨g_1, 0, none⟩)), (3, .int .i64 (i : Int)), (4, .int .i64 (j : Int))]) (fun j w' => 1 ≤ j ∧ i + j ≤ 5 ∧ ¬ (s.a = i ∧ 1 ≤ s.b ∧ s.b < j) ∧ Blk w' g_1 36 [.int .u8 s.k, .int .u8 s.y, .int .i64 s.a, .int .i64 s.b, .bool s.f] ∧ Fr [] w0 w') (fun j => 5 - j) 1 (h.sub (.cons rfl (.cons rfl (.cons rfl .nil)))) ⟨by omega, by omega, by omega, hb1, hf⟩ ?_
          clear h a hb1 hf
          rintro j w3 a h ⟨hj1, hj4, hnj, hb1, hf⟩
          refine wp_seq ?_
          refine wp_seq ?_
          refine wp_region_lit ?_
          refine st_move h rfl rfl ?_; clear h a; intro a h
          refine st_move h rfl rfl ?_; clear h a; intro a h
          refine st_add h rfl rfl (by first | exact IntWalk.i64_in _ (by omega) | rfl) rfl ?_; clear h a; intro a h
          refine st_le h rfl rfl rfl ?_; clear h a; intro a h
          replace h : Ag a 58 [(1, _), (3, _), (4, _), (33, _)] := h.sub (.cons rfl (.cons rfl (.cons rfl (.cons rfl .nil))))
          refine wpList_nil (norm_then ?_)
          first | refine cond_dec h rfl (fun c3 => ?_) (fun c3 => ?_) | refine cond_ndec h rfl (fun c3 => ?_) (fun c3 => ?_) | refine cond_split h rfl (fun c3 => ?_) (fun c3 => ?_)
          · refine id ?_
            refine wp_skip (norm_then ?_)
            refine wp_seq ?_
            refine wp_block ?_
            refine wp_seq ?_
            refine region_bool (r := 45) (L' := [(1, _), (3, _), (4, _)]) (s.a = i ∧ s.b = j) h (.cons rfl (.cons rfl (.cons rfl .nil))) ?_ ?_
            · refine id ?_
              refine st_fieldAddr h rfl fa36_2 rfl ?_; clear h a; intro a h
              refine st_loadB h rfl hb1 rfl na3 rfl ?_; clear h a; intro a h
              refine st_move h rfl rfl ?_; clear h a; intro a h
              refine st_eq h rfl rfl rfl ?_; clear h a; intro a h
              refine st_move h rfl rfl ?_; clear h a; intro a h
              first | refine guard_dec (D := 40) h rfl ?_ ?_ | refine guard_ndec (D := 40) h rfl ?_ ?_ | refine guard_any (D := 40) h rfl ?_ ?_
              · clear h; intro g3 h
                refine gd_yes h rfl rfl rfl rfl rfl rfl ?_
                refine st_fieldAddr h rfl fa36_3 rfl ?_; clear h a; intro a h
                refine gd_yes h rfl rfl rfl rfl rfl rfl ?_
                refine st_loadB h rfl hb1 rfl na3 rfl ?_; clear h a; intro a h
                refine gd_yes h rfl rfl rfl rfl rfl rfl ?_
                refine st_move h rfl rfl ?_; clear h a; intro a h
                refine gd_yes h rfl rfl rfl rfl rfl rfl ?_
                refine st_eq h rfl rfl rfl ?_; clear h a; intro a h
                refine st_pick_t h rfl rfl rfl rfl ?_; clear h a; intro a h
                exact wpList_nil (bool_end h rfl (by first | exact bt (by omega) | exact bf (by omega) | exact bi (by omega) | exact bn (by omega)) (.cons rfl (.cons rfl (.cons rfl .nil))))
              · clear h; intro g3 h
                refine gd_no h rfl rfl rfl rfl rfl rfl rfl rfl ?_; clear h a; intro a h
                refine gd_no h rfl rfl rfl rfl rfl rfl rfl rfl ?_; clear h a; intro a h
                refine gd_no h rfl rfl rfl rfl rfl rfl rfl rfl ?_; clear h a; intro a h
                refine gd_no h rfl rfl rfl rfl rfl rfl rfl rfl ?_; clear h a; intro a h
                refine st_pick_f h rfl rfl rfl rfl ?_; clear h a; intro a h
                exact wpList_nil (bool_end h rfl (by first | exact bt (by omega) | exact bf (by omega) | exact bi (by omega) | exact bn (by omega)) (.cons rfl (.cons rfl (.cons rfl .nil))))
            · clear h a; intro a h
              refine (norm_then ?_)
              first | refine cond_dec h rfl (fun c4 => ?_) (fun c4 => ?_) | refine cond_ndec h rfl (fun c4 => ?_) (fun c4 => ?_) | refine cond_split h rfl (fun c4 => ?_) (fun c4 => ?_)
              · refine id ?_
                refine wp_seq ?_
                refine wp_region_lit ?_
                refine st_assign h rfl rfl ?_; clear h a; intro a h
                replace h : Ag a 58 [(2, _)] := h.sub (.cons rfl .nil)
                refine wpList_nil (norm_then ?_)
                refine wp_ret (ret_blk (ret_then (ret_then (ret_blk (ret_blk (ret_then (ret_then (ret_blk (ret_then (ret_then ?_))))))))))
                refine ret1 h Tryd.results15 rfl ?_
                exact ⟨_, rfl, by rw [if_pos (check_zero hk hy (by omega) (.inl (by omega)))], hf⟩
              · refine id ?_
                refine wp_skip (norm_blk (norm_then ?_))
                refine wp_region_lit ?_
                refine st_move h rfl rfl ?_; clear h a; intro a h
                refine st_add h rfl rfl (by first | exact IntWalk.i64_in _ (by omega) | rfl) rfl ?_; clear h a; intro a h
                refine st_assign h rfl rfl ?_; clear h a; intro a h
                replace h : Ag a 58 [(1, _), (3, _), (4, _)] := h.sub (.cons rfl (.cons rfl (.cons rfl .nil)))
                refine wpList_nil (norm_then ?_)
                exact ⟨j + 1, h.sub (.cons rfl (.cons rfl (.cons rfl .nil))), ⟨by omega, by omega, by omega, hb1, hf⟩, by omega⟩
          · refine id ?_
            refine wp_exit (exit_then (exit_then (exit_here (norm_blk (norm_then ?_)))))
            refine wp_region_lit ?_
            refine st_move h rfl rfl ?_; clear h a; intro a h
            refine st_add h rfl rfl (by first | exact IntWalk.i64_in _ (by omega) | rfl) rfl ?_; clear h a; intro a h
            refine st_assign h rfl rfl ?_; clear h a; intro a h
            replace h : Ag a 58 [(1, _), (3, _)] := h.sub (.cons rfl (.cons rfl .nil))
            refine wpList_nil (norm_then ?_)
            exact ⟨i + 1, h.sub (.cons rfl (.cons rfl .nil)), ⟨by omega, by omega, by omega, hb1, hf⟩, by omega⟩
        · refine id ?_
          refine wp_exit (exit_then (exit_then (exit_here (norm_then ?_))))
          refine wp_seq ?_
          refine wp_region_lit ?_
          refine st_assign h rfl rfl ?_; clear h a; intro a h
          replace h : Ag a 58 [(2, _)] := h.sub (.cons rfl .nil)
          refine wpList_nil (norm_then ?_)
          refine wp_ret (ret_then ?_)
          refine ret1 h Tryd.results15 rfl ?_
          exact ⟨_, rfl, by rw [if_neg (fun e => by have := check_rng e; omega)], hf⟩
      · refine id ?_
        refine wp_skip (norm_then ?_)
        refine wp_seq ?_
        refine wp_seq ?_
        refine region_bool (r := 57) (L' := []) (s.a ≠ 0 ∨ s.b ≠ 0 ∨ s.f = true) h .nil ?_ ?_
        · refine id ?_
          refine st_fieldAddr h rfl fa36_2 rfl ?_; clear h a; intro a h
          refine st_loadB h rfl hb1 rfl na3 rfl ?_; clear h a; intro a h
          refine st_ne h rfl rfl rfl ?_; clear h a; intro a h
          refine st_move h rfl rfl ?_; clear h a; intro a h
          first | refine guard_dec (D := 49) h rfl ?_ ?_ | refine guard_ndec (D := 49) h rfl ?_ ?_ | refine guard_any (D := 49) h rfl ?_ ?_
          · clear h; intro g4 h
            refine gd_no h rfl rfl rfl rfl rfl rfl rfl rfl ?_; clear h a; intro a h
            refine gd_no h rfl rfl rfl rfl rfl rfl rfl rfl ?_; clear h a; intro a h
            refine gd_no h rfl rfl rfl rfl rfl rfl rfl rfl ?_; clear h a; intro a h
            refine st_pick_t h rfl rfl rfl rfl ?_; clear h a; intro a h
            refine st_move h rfl rfl ?_; clear h a; intro a h
            refine gd_no h rfl rfl rfl rfl rfl rfl rfl rfl ?_; clear h a; intro a h
            refine gd_no h rfl rfl rfl rfl rfl rfl rfl rfl ?_; clear h a; intro a h
            refine st_pick_t h rfl rfl rfl rfl ?_; clear h a; intro a h
            exact wpList_nil (bool_end h rfl (by simp_all) .nil)
          · clear h; intro g4 h
            refine gd_yes h rfl rfl rfl rfl rfl rfl ?_
            refine st_fieldAddr h rfl fa36_3 rfl ?_; clear h a; intro a h
            refine gd_yes h rfl rfl rfl rfl rfl rfl ?_
            refine st_loadB h rfl hb1 rfl na3 rfl ?_; clear h a; intro a h
            refine gd_yes h rfl rfl rfl rfl rfl rfl ?_
            refine st_ne h rfl rfl rfl ?_; clear h a; intro a h
            refine st_pick_f h rfl rfl rfl rfl ?_; clear h a; intro a h
            refine st_move h rfl rfl ?_; clear h a; intro a h
            first | refine guard_dec (D := 54) h rfl ?_ ?_ | refine guard_ndec (D := 54) h rfl ?_ ?_ | refine guard_any (D := 54) h rfl ?_ ?_
            · clear h; intro g5 h
              refine gd_no h rfl rfl rfl rfl rfl rfl rfl rfl ?_; clear h a; intro a h
              refine gd_no h rfl rfl rfl rfl rfl rfl rfl rfl ?_; clear h a; intro a h
              refine st_pick_t h rfl rfl rfl rfl ?_; clear h a; intro a h
              exact wpList_nil (bool_end h rfl (by simp_all) .nil)
            · clear h; intro g5 h
              refine gd_yes h rfl rfl rfl rfl rfl rfl ?_
              refine st_fieldAddr h rfl fa36_4 rfl ?_; clear h a; intro a h
              refine gd_yes h rfl rfl rfl rfl rfl rfl ?_
              refine st_loadB h rfl hb1 rfl na4 rfl ?_; clear h a; intro a h
              refine st_pick_f h rfl rfl rfl rfl ?_; clear h a; intro a h
              exact wpList_nil (bool_end h rfl (by simp_all) .nil)
        · clear h a; intro a h
          refine (norm_then ?_)
          first | refine cond_dec h rfl (fun c5 => ?_) (fun c5 => ?_) | refine cond_ndec h rfl (fun c5 => ?_) (fun c5 => ?_) | refine cond_split h rfl (fun c5 => ?_) (fun c5 => ?_)
          · refine id ?_
            refine wp_seq ?_
            refine wp_region_lit ?_
            refine st_assign h rfl rfl ?_; clear h a; intro a h
            replace h : Ag a 58 [(2, _)] := h.sub (.cons rfl .nil)
            refine wpList_nil (norm_then ?_)
            refine wp_ret (ret_then ?_)
            refine ret1 h Tryd.results15 rfl ?_
            exact ⟨_, rfl, by rw [if_neg (fun e => by obtain ⟨p, q, r⟩ := (check_rng e).2.2.2.2.1 c1; rcases c5 with x | x | x; exact x p; exact x q; rw [r] at x; cases x)], hf⟩
          · refine id ?_
            refine wp_skip (norm_then ?_)
            refine wp_seq ?_
            refine wp_region_lit ?_
            refine st_assign h rfl rfl ?_; clear h a; intro a h
            replace h : Ag a 58 [(2, _)] := h.sub (.cons rfl .nil)
            refine wpList_nil (norm_then ?_)
            refine wp_ret ?_
            refine ret1 h Tryd.results15 rfl ?_
            exact ⟨_, rfl, by rw [if_pos (check_zero hk hy (by omega) (.inr ⟨c1, by omega, by omega, by cases hsf : s.f with | false => rfl | true => exact absurd (.inr (.inr hsf)) c5⟩))], hf⟩
theorem reftext_ok (s : Stitch) (w0 : World) (hk : 0 ≤ s.k) (hy : 0 ≤ s.y) : Rets Tryd.prog 29 #[stV s] w0 fun v w' => v = S (textS s) ∧ Fr [] w0 w' := by
  refine enter [(0, stV s)] Tryd.func29 rfl Tryd.ntmps29 rfl (.cons rfl .nil) ?_
  have hf := Fr.refl [] w0
  intro a h
  refine wp_seq ?_
  refine wp_region_lit ?_
  refine st_box h rfl rfl rfl ?_; clear h a; intro w1 hb1 hq hz a h
  obtain ⟨g_1, hg⟩ : ∃ g, g = w0.heap.size := ⟨_, rfl⟩; rw [← hg] at hb1 h hz
  have hl1 : w0.heap.size ≤ g_1 := by have := hf.size; omega
  replace hf := hf.next hq
  clear hq hz hg
  refine st_assign h rfl rfl ?_; clear h a; intro a h
  replace h : Ag a 55 [(1, _)] := h.sub (.cons rfl .nil)
  refine wpList_nil (norm_then ?_)
  refine wp_seq ?_
  refine wp_seq ?_
  refine wp_region_lit ?_
  refine st_loadBA h rfl hb1 ag36 rfl ?_; clear h a; intro a h
  refine st_call h (evs_cons rfl evs_nil) co15 (valid_ok s _ hk hy) rfl ?_; clear h a; rintro _ w2 ⟨rfl, hq⟩ a h
  replace hf := hf.next hq
  replace hb1 := hb1.ext hq
  clear hq
  refine st_eq h rfl rfl rfl ?_; clear h a; intro a h
  replace h : Ag a 55 [(1, _), (8, _)] := h.sub (.cons rfl (.cons rfl .nil))
  refine wpList_nil (norm_then ?_)
  first | refine cond_dec h rfl (fun c0 => ?_) (fun c0 => ?_) | refine cond_ndec h rfl (fun c0 => ?_) (fun c0 => ?_) | refine cond_split h rfl (fun c0 => ?_) (fun c0 => ?_)
  · have hc : checkS s ≠ 0 := fun e => by rw [if_pos e] at c0; omega
    refine wp_seq ?_
    refine wp_region_lit ?_
    refine st_assign h rfl rfl ?_; clear h a; intro a h
    replace h : Ag a 55 [(2, _)] := h.sub (.cons rfl .nil)
    refine wpList_nil (norm_then ?_)
    refine wp_ret (ret_then ?_)
    refine ret1 h Tryd.results29 rfl ?_
    exact ⟨_, rfl, by rw [textS, if_pos hc]; rfl, hf⟩
  · have hc : checkS s = 0 := Decidable.not_not.1 fun e => c0 (if_neg e)
    obtain ⟨k1, k8, y1, y6, kn, ky⟩ := check_rng hc
    refine wp_skip (norm_then ?_)
    refine wp_seq ?_
    refine wp_region_lit ?_
    refine st_assign h rfl rfl ?_; clear h a; intro a h
    replace h : Ag a 55 [(1, _), (3, _)] := h.sub (.cons rfl (.cons rfl .nil))
    refine wpList_nil (norm_then ?_)
    refine wp_seq ?_
    refine wp_region_lit ?_
    refine st_move h rfl rfl ?_; clear h a; intro a h
    refine st_fieldAddr h rfl fa36_0 rfl ?_; clear h a; intro a h
    refine st_loadB h rfl hb1 rfl na34 rfl ?_; clear h a; intro a h
    refine st_fieldAddr h rfl fa36_0 rfl ?_; clear h a; intro a h
    refine st_loadB h rfl hb1 rfl na34 rfl ?_; clear h a; intro a h
    refine st_add h rfl rfl (by first | exact IntWalk.u8_in _ (by omega) | rfl) rfl ?_; clear h a; intro a h
    refine st_ss_lh (p := (s.k).toNat) (p' := (s.k + 1).toNat) h rfl rfl rfl Tryd.underlying9 (by omega) (by omega) (by simp only [List.length_cons, List.length_nil]; omega) rfl rfl rfl ?_; clear h a; intro a h
    rw [refsym s.k k1 k8] at h
    refine st_assign h rfl rfl ?_; clear h a; intro a h
    replace h : Ag a 55 [(1, _), (4, _)] := h.sub (.cons rfl (.cons rfl .nil))
    refine wpList_nil (norm_then ?_)
    refine wp_seq ?_
    refine wp_region_lit ?_
    refine st_assign h rfl rfl ?_; clear h a; intro a h
    refine wpList_nil (norm_then ?_)
    refine wp_seq ?_
    refine wp_seq ?_
    refine wp_region_lit ?_
    refine st_fieldAddr h rfl fa36_0 rfl ?_; clear h a; intro a h
    refine st_loadB h rfl hb1 rfl na34 rfl ?_; clear h a; intro a h
    refine st_eq h rfl rfl rfl ?_; clear h a; intro a h
    replace h : Ag a 55 [(1, _), (4, _), (5, _), (18, _)] := h.sub (.cons rfl (.cons rfl (.cons rfl (.cons rfl .nil))))
    refine wpList_nil (norm_then ?_)
    first | refine cond_dec h rfl (fun c1 => ?_) (fun c1 => ?_) | refine cond_ndec h rfl (fun c1 => ?_) (fun c1 => ?_) | refine cond_split h rfl (fun c1 => ?_) (fun c1 => ?_)
    · obtain ⟨a1, a3, b1, b3, ab⟩ := ky c1
      refine wp_seq ?_
      refine region_quiet hmix (by kernel_rfl) ?_
      refine qt_move h rfl rfl ?_; clear h a; intro a h
      refine qt_move h rfl rfl ?_; clear h a; intro a h
      refine qt_fieldAddr h rfl fa36_2 rfl ?_; clear h a; intro a h
      refine qt_loadB h rfl (fun _ hw => hb1.ext hw) rfl na3 rfl ?_; clear h a; intro a h
      refine qt_fieldAddr h rfl fa36_2 rfl ?_; clear h a; intro a h
      refine qt_loadB h rfl (fun _ hw => hb1.ext hw) rfl na3 rfl ?_; clear h a; intro a h
      refine qt_add h rfl rfl (by first | exact IntWalk.i64_in _ (by omega) | rfl) rfl ?_; clear h a; intro a h
      refine qt_ss_lh (p := (s.a).toNat) (p' := (s.a + 1).toNat) h rfl rfl rfl Tryd.underlying9 (by omega) (by omega) (by simp only [List.length_cons, List.length_nil]; omega) rfl rfl rfl ?_; clear h a; intro a h
      rw [refdig s.a (by omega) (by omega)] at h
      refine qt_move h rfl rfl ?_; clear h a; intro a h
      refine qt_fieldAddr h rfl fa36_3 rfl ?_; clear h a; intro a h
      refine qt_loadB h rfl (fun _ hw => hb1.ext hw) rfl na3 rfl ?_; clear h a; intro a h
      refine qt_fieldAddr h rfl fa36_3 rfl ?_; clear h a; intro a h
      refine qt_loadB h rfl (fun _ hw => hb1.ext hw) rfl na3 rfl ?_; clear h a; intro a h
      refine qt_add h rfl rfl (by first | exact IntWalk.i64_in _ (by omega) | rfl) rfl ?_; clear h a; intro a h
      refine qt_ss_lh (p := (s.b).toNat) (p' := (s.b + 1).toNat) h rfl rfl rfl Tryd.underlying9 (by omega) (by omega) (by simp only [List.length_cons, List.length_nil]; omega) rfl rfl rfl ?_; clear h a; intro a h
      rw [refdig s.b (by omega) (by omega)] at h
      refine qt_adds h rfl rfl (by first | (simp; done) | (simp; omega)) rfl ?_; clear h a; intro a h
      refine qt_adds h rfl rfl (by first | (simp; done) | (simp; omega)) rfl ?_; clear h a; intro a h
      refine qt_assign h rfl rfl ?_; clear h a; intro a h
      refine wpQuiet_nil ?_
      intro w3 hq
      replace hf := hf.next hq
      replace hb1 := hb1.ext hq
      clear hq
      replace h : Ag a 55 [(1, _), (4, _), (5, _)] := h.sub (.cons rfl (.cons rfl (.cons rfl .nil)))
      refine (norm_then ?_)
      refine wp_seq ?_
      refine wp_region_lit ?_
      refine st_fieldAddr h rfl fa36_4 rfl ?_; clear h a; intro a h
      refine st_loadB h rfl hb1 rfl na4 rfl ?_; clear h a; intro a h
      replace h : Ag a 55 [(1, _), (4, _), (5, _), (37, _)] := h.sub (.cons rfl (.cons rfl (.cons rfl (.cons rfl .nil))))
      refine wpList_nil (norm_then ?_)
      first | refine cond_dec h rfl (fun c2 => ?_) (fun c2 => ?_) | refine cond_ndec h rfl (fun c2 => ?_) (fun c2 => ?_) | refine cond_split h rfl (fun c2 => ?_) (fun c2 => ?_)
      · refine id ?_
        refine wp_region_lit ?_
        refine st_move h rfl rfl ?_; clear h a; intro a h
        refine st_adds h rfl rfl (by first | (simp; done) | (simp; omega)) rfl ?_; clear h a; intro a h
        refine st_assign h rfl rfl ?_; clear h a; intro a h
        replace h : Ag a 55 [(1, _), (4, _), (5, _)] := h.sub (.cons rfl (.cons rfl (.cons rfl .nil)))
        refine wpList_nil (norm_then ?_)
        refine wp_seq ?_
        refine wp_seq ?_
        refine wp_region_lit ?_
        refine st_fieldAddr h rfl fa36_1 rfl ?_; clear h a; intro a h
        refine st_loadB h rfl hb1 rfl na5 rfl ?_; clear h a; intro a h
        refine st_ne h rfl rfl rfl ?_; clear h a; intro a h
        replace h : Ag a 55 [(1, _), (4, _), (5, _), (44, _)] := h.sub (.cons rfl (.cons rfl (.cons rfl (.cons rfl .nil))))
        refine wpList_nil (norm_then ?_)
        first | refine cond_dec h rfl (fun c3 => ?_) (fun c3 => ?_) | refine cond_ndec h rfl (fun c3 => ?_) (fun c3 => ?_) | refine cond_split h rfl (fun c3 => ?_) (fun c3 => ?_)
        · refine id ?_
          refine wp_region_lit ?_
          refine st_move h rfl rfl ?_; clear h a; intro a h
          refine st_move h rfl rfl ?_; clear h a; intro a h
          refine st_fieldAddr h rfl fa36_1 rfl ?_; clear h a; intro a h
          refine st_loadB h rfl hb1 rfl na5 rfl ?_; clear h a; intro a h
          refine st_fieldAddr h rfl fa36_1 rfl ?_; clear h a; intro a h
          refine st_loadB h rfl hb1 rfl na5 rfl ?_; clear h a; intro a h
          refine st_add h rfl rfl (by first | exact IntWalk.u8_in _ (by omega) | rfl) rfl ?_; clear h a; intro a h
          refine st_ss_lh (p := (s.y).toNat) (p' := (s.y + 1).toNat) h rfl rfl rfl Tryd.underlying9 (by omega) (by omega) (by simp only [List.length_cons, List.length_nil]; omega) rfl rfl rfl ?_; clear h a; intro a h
          rw [refdig s.y (by omega) (by omega)] at h
          refine st_adds h rfl rfl (by first | (simp; done) | (simp; omega)) rfl ?_; clear h a; intro a h
          refine st_assign h rfl rfl ?_; clear h a; intro a h
          replace h : Ag a 55 [(4, _)] := h.sub (.cons rfl .nil)
          refine wpList_nil (norm_then ?_)
          refine wp_seq ?_
          refine wp_region_lit ?_
          refine st_move h rfl rfl ?_; clear h a; intro a h
          refine st_assign h rfl rfl ?_; clear h a; intro a h
          replace h : Ag a 55 [(2, _)] := h.sub (.cons rfl .nil)
          refine wpList_nil (norm_then ?_)
          refine wp_ret ?_
          refine ret1 h Tryd.results29 rfl ?_
          exact ⟨_, rfl, by simp_all [textS], hf⟩
        · refine id ?_
          refine wp_skip (norm_then ?_)
          refine wp_seq ?_
          refine wp_region_lit ?_
          refine st_move h rfl rfl ?_; clear h a; intro a h
          refine st_assign h rfl rfl ?_; clear h a; intro a h
          replace h : Ag a 55 [(2, _)] := h.sub (.cons rfl .nil)
          refine wpList_nil (norm_then ?_)
          refine wp_ret ?_
          refine ret1 h Tryd.results29 rfl ?_
          exact ⟨_, rfl, by simp_all [textS], hf⟩
      · refine id ?_
        refine wp_region_lit ?_
        refine st_move h rfl rfl ?_; clear h a; intro a h
        refine st_adds h rfl rfl (by first | (simp; done) | (simp; omega)) rfl ?_; clear h a; intro a h
        refine st_assign h rfl rfl ?_; clear h a; intro a h
        replace h : Ag a 55 [(1, _), (4, _), (5, _)] := h.sub (.cons rfl (.cons rfl (.cons rfl .nil)))
        refine wpList_nil (norm_then ?_)
        refine wp_seq ?_
        refine wp_seq ?_
        refine wp_region_lit ?_
        refine st_fieldAddr h rfl fa36_1 rfl ?_; clear h a; intro a h
        refine st_loadB h rfl hb1 rfl na5 rfl ?_; clear h a; intro a h
        refine st_ne h rfl rfl rfl ?_; clear h a; intro a h
        replace h : Ag a 55 [(1, _), (4, _), (5, _), (44, _)] := h.sub (.cons rfl (.cons rfl (.cons rfl (.cons rfl .nil))))
        refine wpList_nil (norm_then ?_)
        first | refine cond_dec h rfl (fun c3 => ?_) (fun c3 => ?_) | refine cond_ndec h rfl (fun c3 => ?_) (fun c3 => ?_) | refine cond_split h rfl (fun c3 => ?_) (fun c3 => ?_)
        · refine id ?_
          refine wp_region_lit ?_
          refine st_move h rfl rfl ?_; clear h a; intro a h
          refine st_move h rfl rfl ?_; clear h a; intro a h
          refine st_fieldAddr h rfl fa36_1 rfl ?_; clear h a; intro a h
          refine st_loadB h rfl hb1 rfl na5 rfl ?_; clear h a; intro a h
          refine st_fieldAddr h rfl fa36_1 rfl ?_; clear h a; intro a h
          refine st_loadB h rfl hb1 rfl na5 rfl ?_; clear h a; intro a h
          refine st_add h rfl rfl (by first | exact IntWalk.u8_in _ (by omega) | rfl) rfl ?_; clear h a; intro a h
          refine st_ss_lh (p := (s.y).toNat) (p' := (s.y + 1).toNat) h rfl rfl rfl Tryd.underlying9 (by omega) (by omega) (by simp only [List.length_cons, List.length_nil]; omega) rfl rfl rfl ?_; clear h a; intro a h
          rw [refdig s.y (by omega) (by omega)] at h
          refine st_adds h rfl rfl (by first | (simp; done) | (simp; omega)) rfl ?_; clear h a; intro a h
          refine st_assign h rfl rfl ?_; clear h a; intro a h
          replace h : Ag a 55 [(4, _)] := h.sub (.cons rfl .nil)
          refine wpList_nil (norm_then ?_)
          refine wp_seq ?_
          refine wp_region_lit ?_
          refine st_move h rfl rfl ?_; clear h a; intro a h
          refine st_assign h rfl rfl ?_; clear h a; intro a h
          replace h : Ag a 55 [(2, _)] := h.sub (.cons rfl .nil)
          refine wpList_nil (norm_then ?_)
          refine wp_ret ?_
          refine ret1 h Tryd.results29 rfl ?_
          exact ⟨_, rfl, by simp_all [textS], hf⟩
        · refine id ?_
          refine wp_skip (norm_then ?_)
          refine wp_seq ?_
          refine wp_region_lit ?_
          refine st_move h rfl rfl ?_; clear h a; intro a h
          refine st_assign h rfl rfl ?_; clear h a; intro a h
          replace h : Ag a 55 [(2, _)] := h.sub (.cons rfl .nil)
          refine wpList_nil (norm_then ?_)
          refine wp_ret ?_
          refine ret1 h Tryd.results29 rfl ?_
          exact ⟨_, rfl, by simp_all [textS], hf⟩
    · refine id ?_
      refine wp_skip (norm_then ?_)
      refine wp_seq ?_
      refine wp_seq ?_
      refine wp_region_lit ?_
      refine st_fieldAddr h rfl fa36_1 rfl ?_; clear h a; intro a h
      refine st_loadB h rfl hb1 rfl na5 rfl ?_; clear h a; intro a h
      refine st_ne h rfl rfl rfl ?_; clear h a; intro a h
      replace h : Ag a 55 [(1, _), (4, _), (5, _), (44, _)] := h.sub (.cons rfl (.cons rfl (.cons rfl (.cons rfl .nil))))
      refine wpList_nil (norm_then ?_)
      first | refine cond_dec h rfl (fun c3 => ?_) (fun c3 => ?_) | refine cond_ndec h rfl (fun c3 => ?_) (fun c3 => ?_) | refine cond_split h rfl (fun c3 => ?_) (fun c3 => ?_)
      · refine id ?_
        refine wp_region_lit ?_
        refine st_move h rfl rfl ?_; clear h a; intro a h
        refine st_move h rfl rfl ?_; clear h a; intro a h
        refine st_fieldAddr h rfl fa36_1 rfl ?_; clear h a; intro a h
        refine st_loadB h rfl hb1 rfl na5 rfl ?_; clear h a; intro a h
        refine st_fieldAddr h rfl fa36_1 rfl ?_; clear h a; intro a h
        refine st_loadB h rfl hb1 rfl na5 rfl ?_; clear h a; intro a h
        refine st_add h rfl rfl (by first | exact IntWalk.u8_in _ (by omega) | rfl) rfl ?_; clear h a; intro a h
        refine st_ss_lh (p := (s.y).toNat) (p' := (s.y + 1).toNat) h rfl rfl rfl Tryd.underlying9 (by omega) (by omega) (by simp only [List.length_cons, List.length_nil]; omega) rfl rfl rfl ?_; clear h a; intro a h
        rw [refdig s.y (by omega) (by omega)] at h
        refine st_adds h rfl rfl (by first | (simp; done) | (simp; omega)) rfl ?_; clear h a; intro a h
        refine st_assign h rfl rfl ?_; clear h a; intro a h
        replace h : Ag a 55 [(4, _)] := h.sub (.cons rfl .nil)
        refine wpList_nil (norm_then ?_)
        refine wp_seq ?_
        refine wp_region_lit ?_
        refine st_move h rfl rfl ?_; clear h a; intro a h
        refine st_assign h rfl rfl ?_; clear h a; intro a h
        replace h : Ag a 55 [(2, _)] := h.sub (.cons rfl .nil)
        refine wpList_nil (norm_then ?_)
        refine wp_ret ?_
        refine ret1 h Tryd.results29 rfl ?_
        exact ⟨_, rfl, by simp_all [textS], hf⟩
      · refine id ?_
        refine wp_skip (norm_then ?_)
        refine wp_seq ?_
        refine wp_region_lit ?_
        refine st_move h rfl rfl ?_; clear h a; intro a h
        refine st_assign h rfl rfl ?_; clear h a; intro a h
        replace h : Ag a 55 [(2, _)] := h.sub (.cons rfl .nil)
        refine wpList_nil (norm_then ?_)
        refine wp_ret ?_
        refine ret1 h Tryd.results29 rfl ?_
        exact ⟨_, rfl, by simp_all [textS], hf⟩
end Go.Proofs.YtbbnampdgefljaaDoor
namespace Go.Proofs.YtbbnampdgefljaaDoor
open Go.Lw Go.G14
set_option maxHeartbeats 1000000 in
theorem lives_ok (w0 : World) (hy : Sym w0) : Rets Tryd.prog 12 #[] w0 fun v w' => v = .bool true ∧ Fr [] w0 w' := by
  have h00 := hy.pos
  refine enter [] Tryd.func12 rfl Tryd.ntmps12 rfl .nil ?_
  have hf := Fr.refl [] w0
  intro a h
  refine wp_seq ?_
  refine wp_region_lit ?_
  refine st_assign h rfl rfl ?_; clear h a; intro a h
  replace h : Ag a 97 [] := h.sub .nil
  refine wpList_nil (norm_then ?_)
  refine wp_seq ?_
  refine wp_region_lit ?_
  refine st_bslice (textsL) h (evs_cons rfl (evs_cons rfl (evs_cons rfl (evs_cons rfl (evs_cons rfl (evs_cons rfl (evs_cons rfl (evs_cons rfl evs_nil)))))))) rfl rfl rfl el48 (by decide) rfl ?_; clear h a; intro g_16 w1 hg ho16 hq hz a h
  have hl16 : w0.heap.size ≤ g_16 := by have := hf.size; omega
  replace hf := hf.next hq
  replace hy := hy.ext hq
  clear hq hz hg
  refine st_assign h rfl rfl ?_; clear h a; intro a h
  replace h : Ag a 97 [(1, _)] := h.sub (.cons rfl .nil)
  refine wpList_nil (norm_then ?_)
  refine wp_seq ?_
  refine wp_region_lit ?_
  refine st_bslice (plainL) h (evs_cons rfl (evs_cons rfl (evs_cons rfl (evs_cons rfl (evs_cons rfl (evs_cons rfl (evs_cons rfl (evs_cons rfl evs_nil)))))))) rfl rfl rfl el48 (by decide) rfl ?_; clear h a; intro g_17 w2 hg ho17 hq hz a h
  have hl17 : w0.heap.size ≤ g_17 := by have := hf.size; omega
  replace hf := hf.next hq
  replace hy := hy.ext hq
  replace ho16 := ho16.ext hq
  clear hq hz hg
  refine st_assign h rfl rfl ?_; clear h a; intro a h
  replace h : Ag a 97 [(1, _), (2, _)] := h.sub (.cons rfl (.cons rfl .nil))
  refine wpList_nil (norm_then ?_)
  refine wp_seq ?_
  refine wp_region_lit ?_
  refine st_bslice (errsL) h (evs_cons rfl (evs_cons rfl (evs_cons rfl (evs_cons rfl (evs_cons rfl (evs_cons rfl (evs_cons rfl (evs_cons rfl evs_nil)))))))) rfl rfl rfl el65 (by decide) rfl ?_; clear h a; intro g_18 w3 hg ho18 hq hz a h
  have hl18 : w0.heap.size ≤ g_18 := by have := hf.size; omega
  replace hf := hf.next hq
  replace hy := hy.ext hq
  replace ho16 := ho16.ext hq
  replace ho17 := ho17.ext hq
  clear hq hz hg
  refine st_assign h rfl rfl ?_; clear h a; intro a h
  replace h : Ag a 97 [(1, _), (2, _), (3, _)] := h.sub (.cons rfl (.cons rfl (.cons rfl .nil)))
  refine wpList_nil (norm_then ?_)
  refine wp_seq ?_
  refine wp_seq ?_
  refine wp_region_lit ?_
  refine st_assign h rfl rfl ?_; clear h a; intro a h
  refine wpList_nil (norm_then ?_)
  refine wp_block ?_
  refine loop (ι := Nat) (fun i => [(1, .slice (some ⟨g_16, 0, none⟩) 8 8), (2, .slice (some ⟨g_17, 0, none⟩) 8 8), (3, .slice (some ⟨g_18, 0, none⟩) 8 8), (4, .int .i64 (i : Int))]) (fun i w' => i ≤ 8 ∧ Own Enc.str 9 g_16 w' (.slice (some ⟨g_16, 0, none⟩) 8 8) textsL ∧ Own Enc.str 9 g_17 w' (.slice (some ⟨g_17, 0, none⟩) 8 8) plainL ∧ Own Enc.i64 23 g_18 w' (.slice (some ⟨g_18, 0, none⟩) 8 8) errsL ∧ Sym w' ∧ Fr [] w0 w') (fun i => 8 - i) 0 (h.sub (.cons rfl (.cons rfl (.cons rfl (.cons rfl .nil))))) ⟨by omega, ho16, ho17, ho18, hy, hf⟩ ?_
  clear h a ho16 ho17 ho18 hy hf
  rintro i w4 a h ⟨hi, ho16, ho17, ho18, hy, hf⟩
  refine wp_seq ?_
  refine wp_seq ?_
  refine wp_region_lit ?_
  refine st_move h rfl rfl ?_; clear h a; intro a h
  refine st_move h rfl rfl ?_; clear h a; intro a h
  refine st_lenS h rfl Tryd.underlying48 rfl ?_; clear h a; intro a h
  refine st_lt h rfl rfl rfl ?_; clear h a; intro a h
  replace h : Ag a 97 [(1, _), (2, _), (3, _), (4, _), (22, _)] := h.sub (.cons rfl (.cons rfl (.cons rfl (.cons rfl (.cons rfl .nil)))))
  refine wpList_nil (norm_then ?_)
  first | refine cond_dec h rfl (fun c0 => ?_) (fun c0 => ?_) | refine cond_ndec h rfl (fun c0 => ?_) (fun c0 => ?_) | refine cond_split h rfl (fun c0 => ?_) (fun c0 => ?_)
  · obtain ⟨e1, e2, e3⟩ := livesT i (by omega)
    have hln := livesN i (by omega)
    refine wp_skip (norm_then ?_)
    refine wp_seq ?_
    refine wp_block ?_
    refine wp_seq ?_
    refine wp_region_lit ?_
    refine st_move h rfl rfl ?_; clear h a; intro a h
    refine st_move h rfl rfl ?_; clear h a; intro a h
    refine st_idx (p := i) h rfl rfl ho16.sl el48 (by omega) rfl (getD_get (show i < textsL.length by rw [show textsL.length = 8 from rfl]; omega) []) rfl ?_; clear h a; intro ad cc a h
    refine st_loadC0 h rfl cc na9 rfl ?_; clear h a; intro a h
    refine st_call h (evs_cons rfl evs_nil) co10 (expand_ok _ _ hy (by omega)) rfl ?_; clear h a; rintro _ w5 ⟨x, c, rfl, hc, ho, hq⟩ a h
    replace hf := hf.next hq
    replace hy := hy.ext hq
    replace ho16 := ho16.ext hq
    replace ho17 := ho17.ext hq
    replace ho18 := ho18.ext hq
    clear hq
    obtain ⟨xs, hxs⟩ : ∃ xs, xs = (expandS (textsL.getD i [])).1 := ⟨_, rfl⟩
    have hxm := livesX i (by omega)
    rw [← hxs] at h ho e2 e3 hxm
    refine st_move h rfl rfl ?_; clear h a; intro a h
    refine st_extract h rfl rfl rfl ?_; clear h a; intro a h
    refine st_extract h rfl rfl rfl ?_; clear h a; intro a h
    refine st_assign h rfl rfl ?_; clear h a; intro a h
    refine st_assign h rfl rfl ?_; clear h a; intro a h
    replace h : Ag a 97 [(1, _), (2, _), (3, _), (4, _), (5, _), (6, _)] := h.sub (.cons rfl (.cons rfl (.cons rfl (.cons rfl (.cons rfl (.cons rfl .nil))))))
    refine wpList_nil (norm_then ?_)
    refine wp_seq ?_
    refine wp_seq ?_
    refine wp_region_lit ?_
    refine st_move h rfl rfl ?_; clear h a; intro a h
    refine st_move h rfl rfl ?_; clear h a; intro a h
    refine st_move h rfl rfl ?_; clear h a; intro a h
    refine st_idx (p := i) h rfl rfl ho18.sl el65 (by omega) rfl (getD_get (show i < errsL.length by rw [show errsL.length = 8 from rfl]; omega) 0) rfl ?_; clear h a; intro ad cc a h
    refine st_loadC0 h rfl cc na23 rfl ?_; clear h a; intro a h
    refine st_ne h rfl rfl rfl ?_; clear h a; intro a h
    replace h : Ag a 97 [(1, _), (2, _), (3, _), (4, _), (5, _), (38, _)] := h.sub (.cons rfl (.cons rfl (.cons rfl (.cons rfl (.cons rfl (.cons rfl .nil))))))
    refine wpList_nil (norm_then ?_)
    first | refine cond_dec h rfl (fun c1 => ?_) (fun c1 => ?_) | refine cond_ndec h rfl (fun c1 => ?_) (fun c1 => ?_) | refine cond_split h rfl (fun c1 => ?_) (fun c1 => ?_)
    · exact absurd e1 c1
    · refine id ?_
      refine wp_skip (norm_then ?_)
      refine wp_seq ?_
      refine wp_region_lit ?_
      refine st_assign h rfl rfl ?_; clear h a; intro a h
      replace h : Ag a 97 [(1, _), (2, _), (3, _), (4, _), (5, _), (7, _)] := h.sub (.cons rfl (.cons rfl (.cons rfl (.cons rfl (.cons rfl (.cons rfl .nil))))))
      refine wpList_nil (norm_then ?_)
      refine wp_seq ?_
      refine wp_seq ?_
      refine wp_region_lit ?_
      refine st_assign h rfl rfl ?_; clear h a; intro a h
      refine wpList_nil (norm_then ?_)
      refine wp_block ?_
      refine loop (ι := Nat) (fun k => [(1, .slice (some ⟨g_16, 0, none⟩) 8 8), (2, .slice (some ⟨g_17, 0, none⟩) 8 8), (3, .slice (some ⟨g_18, 0, none⟩) 8 8), (4, .int .i64 (i : Int)), (5, .slice x xs.length c), (7, S (joinTo xs k)), (8, .int .i64 (k : Int))]) (fun k w' => k ≤ xs.length ∧ Own encSt 36 0 w' (.slice x xs.length c) xs ∧ Own Enc.str 9 g_16 w' (.slice (some ⟨g_16, 0, none⟩) 8 8) textsL ∧ Own Enc.str 9 g_17 w' (.slice (some ⟨g_17, 0, none⟩) 8 8) plainL ∧ Own Enc.i64 23 g_18 w' (.slice (some ⟨g_18, 0, none⟩) 8 8) errsL ∧ Sym w' ∧ Fr [] w0 w') (fun k => xs.length - k) 0 (h.sub (.cons rfl (.cons rfl (.cons rfl (.cons rfl (.cons rfl (.cons rfl (.cons rfl .nil)))))))) ⟨by omega, ho.low (Nat.zero_le _), ho16, ho17, ho18, hy, hf⟩ ?_
      clear h a ho ho16 ho17 ho18 hy hf
      rintro k w6 a h ⟨hk, ho, ho16, ho17, ho18, hy, hf⟩
      have hjl := join_len xs k
      refine wp_seq ?_
      refine wp_seq ?_
      refine wp_region_lit ?_
      refine st_move h rfl rfl ?_; clear h a; intro a h
      refine st_move h rfl rfl ?_; clear h a; intro a h
      refine st_lenS h rfl Tryd.underlying22 rfl ?_; clear h a; intro a h
      refine st_lt h rfl rfl rfl ?_; clear h a; intro a h
      replace h : Ag a 97 [(1, _), (2, _), (3, _), (4, _), (5, _), (7, _), (8, _), (42, _)] := h.sub (.cons rfl (.cons rfl (.cons rfl (.cons rfl (.cons rfl (.cons rfl (.cons rfl (.cons rfl .nil))))))))
      refine wpList_nil (norm_then ?_)
      first | refine cond_dec h rfl (fun c2 => ?_) (fun c2 => ?_) | refine cond_ndec h rfl (fun c2 => ?_) (fun c2 => ?_) | refine cond_split h rfl (fun c2 => ?_) (fun c2 => ?_)
      · obtain ⟨x1, hxk⟩ : ∃ x1, xs[k]? = some x1 := ⟨_, List.getElem?_eq_getElem (by omega)⟩
        obtain ⟨p1, p2⟩ := okB_pos (List.all_eq_true.1 e3 x1 (List.mem_of_getElem? hxk))
        have htl := textS_len x1
        refine wp_skip (norm_then ?_)
        refine wp_seq ?_
        refine wp_block ?_
        refine wp_seq ?_
        refine wp_seq ?_
        refine wp_region_lit ?_
        refine st_move h rfl rfl ?_; clear h a; intro a h
        refine st_gt h rfl rfl rfl ?_; clear h a; intro a h
        replace h : Ag a 97 [(1, _), (2, _), (3, _), (4, _), (5, _), (7, _), (8, _), (46, _)] := h.sub (.cons rfl (.cons rfl (.cons rfl (.cons rfl (.cons rfl (.cons rfl (.cons rfl (.cons rfl .nil))))))))
        refine wpList_nil (norm_then ?_)
        first | refine cond_dec h rfl (fun c3 => ?_) (fun c3 => ?_) | refine cond_ndec h rfl (fun c3 => ?_) (fun c3 => ?_) | refine cond_split h rfl (fun c3 => ?_) (fun c3 => ?_)
        · refine id ?_
          refine wp_region_lit ?_
          refine st_move h rfl rfl ?_; clear h a; intro a h
          refine st_adds h rfl rfl (by first | (simp; done) | (simp; omega)) rfl ?_; clear h a; intro a h
          refine st_assign h rfl rfl ?_; clear h a; intro a h
          replace h : Ag a 97 [(1, _), (2, _), (3, _), (4, _), (5, _), (7, _), (8, _)] := h.sub (.cons rfl (.cons rfl (.cons rfl (.cons rfl (.cons rfl (.cons rfl (.cons rfl .nil)))))))
          refine wpList_nil (norm_then ?_)
          refine wp_region_lit ?_
          refine st_move h rfl rfl ?_; clear h a; intro a h
          refine st_move h rfl rfl ?_; clear h a; intro a h
          refine st_move h rfl rfl ?_; clear h a; intro a h
          refine st_idx (p := k) h rfl rfl ho.sl el22 (by omega) rfl hxk rfl ?_; clear h a; intro ad cc a h
          refine st_loadA h rfl cc ag36 rfl ?_; clear h a; intro a h
          refine st_call h (evs_cons rfl evs_nil) co29 (reftext_ok x1 _ p1 p2) rfl ?_; clear h a; rintro _ w7 ⟨rfl, hq⟩ a h
          replace hf := hf.next hq
          replace hy := hy.ext hq
          replace ho16 := ho16.ext hq
          replace ho17 := ho17.ext hq
          replace ho18 := ho18.ext hq
          replace ho := ho.ext hq
          clear hq
          refine st_adds h rfl rfl (by first | (simp; omega) | omega) rfl ?_; clear h a; intro a h
          refine st_assign h rfl rfl ?_; clear h a; intro a h
          replace h : Ag a 97 [(1, _), (2, _), (3, _), (4, _), (5, _), (7, _), (8, _)] := h.sub (.cons rfl (.cons rfl (.cons rfl (.cons rfl (.cons rfl (.cons rfl (.cons rfl .nil)))))))
          refine wpList_nil (norm_blk (norm_then ?_))
          refine wp_region_lit ?_
          refine st_move h rfl rfl ?_; clear h a; intro a h
          refine st_add h rfl rfl (by first | exact IntWalk.i64_in _ (by omega) | rfl) rfl ?_; clear h a; intro a h
          refine st_assign h rfl rfl ?_; clear h a; intro a h
          replace h : Ag a 97 [(1, _), (2, _), (3, _), (4, _), (5, _), (7, _), (8, _)] := h.sub (.cons rfl (.cons rfl (.cons rfl (.cons rfl (.cons rfl (.cons rfl (.cons rfl .nil)))))))
          refine wpList_nil (norm_then ?_)
          exact ⟨k + 1, h.sub (.cons rfl (.cons rfl (.cons rfl (.cons rfl (.cons rfl (.cons (by first | exact congrArg (fun l => some (S l)) (join_next hxk c3) | exact congrArg (fun l => some (S l)) (join_one hxk c3)) (.cons rfl .nil))))))), ⟨by omega, ho, ho16, ho17, ho18, hy, hf⟩, by omega⟩
        · refine id ?_
          refine wp_skip (norm_then ?_)
          refine wp_region_lit ?_
          refine st_move h rfl rfl ?_; clear h a; intro a h
          refine st_move h rfl rfl ?_; clear h a; intro a h
          refine st_move h rfl rfl ?_; clear h a; intro a h
          refine st_idx (p := k) h rfl rfl ho.sl el22 (by omega) rfl hxk rfl ?_; clear h a; intro ad cc a h
          refine st_loadA h rfl cc ag36 rfl ?_; clear h a; intro a h
          refine st_call h (evs_cons rfl evs_nil) co29 (reftext_ok x1 _ p1 p2) rfl ?_; clear h a; rintro _ w8 ⟨rfl, hq⟩ a h
          replace hf := hf.next hq
          replace hy := hy.ext hq
          replace ho16 := ho16.ext hq
          replace ho17 := ho17.ext hq
          replace ho18 := ho18.ext hq
          replace ho := ho.ext hq
          clear hq
          refine st_adds h rfl rfl (by first | (simp; omega) | omega) rfl ?_; clear h a; intro a h
          refine st_assign h rfl rfl ?_; clear h a; intro a h
          replace h : Ag a 97 [(1, _), (2, _), (3, _), (4, _), (5, _), (7, _), (8, _)] := h.sub (.cons rfl (.cons rfl (.cons rfl (.cons rfl (.cons rfl (.cons rfl (.cons rfl .nil)))))))
          refine wpList_nil (norm_blk (norm_then ?_))
          refine wp_region_lit ?_
          refine st_move h rfl rfl ?_; clear h a; intro a h
          refine st_add h rfl rfl (by first | exact IntWalk.i64_in _ (by omega) | rfl) rfl ?_; clear h a; intro a h
          refine st_assign h rfl rfl ?_; clear h a; intro a h
          replace h : Ag a 97 [(1, _), (2, _), (3, _), (4, _), (5, _), (7, _), (8, _)] := h.sub (.cons rfl (.cons rfl (.cons rfl (.cons rfl (.cons rfl (.cons rfl (.cons rfl .nil)))))))
          refine wpList_nil (norm_then ?_)
          exact ⟨k + 1, h.sub (.cons rfl (.cons rfl (.cons rfl (.cons rfl (.cons rfl (.cons (by first | exact congrArg (fun l => some (S l)) (join_next hxk c3) | exact congrArg (fun l => some (S l)) (join_one hxk c3)) (.cons rfl .nil))))))), ⟨by omega, ho, ho16, ho17, ho18, hy, hf⟩, by omega⟩
      · obtain rfl : k = xs.length := by omega
        refine wp_exit (exit_then (exit_then (exit_here (norm_then ?_))))
        refine wp_seq ?_
        refine wp_region_lit ?_
        refine st_move h rfl rfl ?_; clear h a; intro a h
        refine st_move h rfl rfl ?_; clear h a; intro a h
        refine st_move h rfl rfl ?_; clear h a; intro a h
        refine st_idx (p := i) h rfl rfl ho17.sl el48 (by omega) rfl (getD_get (show i < plainL.length by rw [show plainL.length = 8 from rfl]; omega) []) rfl ?_; clear h a; intro ad cc a h
        refine st_loadC0 h rfl cc na9 rfl ?_; clear h a; intro a h
        refine st_nes h rfl rfl rfl ?_; clear h a; intro a h
        replace h : Ag a 97 [(1, _), (2, _), (3, _), (4, _), (61, _)] := h.sub (.cons rfl (.cons rfl (.cons rfl (.cons rfl (.cons rfl .nil)))))
        refine wpList_nil (norm_then ?_)
        first | refine cond_dec h rfl (fun c4 => ?_) (fun c4 => ?_) | refine cond_ndec h rfl (fun c4 => ?_) (fun c4 => ?_) | refine cond_split h rfl (fun c4 => ?_) (fun c4 => ?_)
        · exact absurd e2 c4
        · refine id ?_
          refine wp_skip (norm_blk (norm_then ?_))
          refine wp_region_lit ?_
          refine st_move h rfl rfl ?_; clear h a; intro a h
          refine st_add h rfl rfl (by first | exact IntWalk.i64_in _ (by omega) | rfl) rfl ?_; clear h a; intro a h
          refine st_assign h rfl rfl ?_; clear h a; intro a h
          replace h : Ag a 97 [(1, _), (2, _), (3, _), (4, _)] := h.sub (.cons rfl (.cons rfl (.cons rfl (.cons rfl .nil))))
          refine wpList_nil (norm_then ?_)
          exact ⟨i + 1, h.sub (.cons rfl (.cons rfl (.cons rfl (.cons rfl .nil)))), ⟨by omega, ho16, ho17, ho18, hy, hf⟩, by omega⟩
  · refine id ?_
    refine wp_exit (exit_then (exit_then (exit_here (norm_then ?_))))
    refine wp_seq ?_
    refine wp_region_lit ?_
    refine st_bslice (longL) h (evs_cons rfl (evs_cons rfl (evs_cons rfl (evs_cons rfl (evs_cons rfl evs_nil))))) rfl rfl rfl el48 (by decide) rfl ?_; clear h a; intro g_62 w9 hg ho62 hq hz a h
    have hl62 : w0.heap.size ≤ g_62 := by have := hf.size; omega
    replace hf := hf.next hq
    replace hy := hy.ext hq
    replace ho16 := ho16.ext hq
    replace ho17 := ho17.ext hq
    replace ho18 := ho18.ext hq
    clear hq hz hg
    refine st_assign h rfl rfl ?_; clear h a; intro a h
    replace h : Ag a 97 [(9, _)] := h.sub (.cons rfl .nil)
    refine wpList_nil (norm_then ?_)
    refine wp_seq ?_
    refine wp_region_lit ?_
    refine st_bslice (shortL) h (evs_cons rfl (evs_cons rfl (evs_cons rfl (evs_cons rfl (evs_cons rfl evs_nil))))) rfl rfl rfl el48 (by decide) rfl ?_; clear h a; intro g_63 w10 hg ho63 hq hz a h
    have hl63 : w0.heap.size ≤ g_63 := by have := hf.size; omega
    replace hf := hf.next hq
    replace hy := hy.ext hq
    replace ho16 := ho16.ext hq
    replace ho17 := ho17.ext hq
    replace ho18 := ho18.ext hq
    replace ho62 := ho62.ext hq
    clear hq hz hg
    refine st_assign h rfl rfl ?_; clear h a; intro a h
    replace h : Ag a 97 [(9, _), (10, _)] := h.sub (.cons rfl (.cons rfl .nil))
    refine wpList_nil (norm_then ?_)
    refine wp_seq ?_
    refine wp_seq ?_
    refine wp_region_lit ?_
    refine st_assign h rfl rfl ?_; clear h a; intro a h
    refine wpList_nil (norm_then ?_)
    refine wp_block ?_
    refine loop (ι := Nat) (fun i => [(9, .slice (some ⟨g_62, 0, none⟩) 5 5), (10, .slice (some ⟨g_63, 0, none⟩) 5 5), (11, .int .i64 (i : Int))]) (fun i w' => i ≤ 5 ∧ Own Enc.str 9 g_62 w' (.slice (some ⟨g_62, 0, none⟩) 5 5) longL ∧ Own Enc.str 9 g_63 w' (.slice (some ⟨g_63, 0, none⟩) 5 5) shortL ∧ Sym w' ∧ Fr [] w0 w') (fun i => 5 - i) 0 (h.sub (.cons rfl (.cons rfl (.cons rfl .nil)))) ⟨by omega, ho62, ho63, hy, hf⟩ ?_
    clear h a ho62 ho63 hy hf
    rintro i w11 a h ⟨hi, ho62, ho63, hy, hf⟩
    refine wp_seq ?_
    refine wp_seq ?_
    refine wp_region_lit ?_
    refine st_move h rfl rfl ?_; clear h a; intro a h
    refine st_move h rfl rfl ?_; clear h a; intro a h
    refine st_lenS h rfl Tryd.underlying48 rfl ?_; clear h a; intro a h
    refine st_lt h rfl rfl rfl ?_; clear h a; intro a h
    replace h : Ag a 97 [(9, _), (10, _), (11, _), (67, _)] := h.sub (.cons rfl (.cons rfl (.cons rfl (.cons rfl .nil))))
    refine wpList_nil (norm_then ?_)
    first | refine cond_dec h rfl (fun c5 => ?_) (fun c5 => ?_) | refine cond_ndec h rfl (fun c5 => ?_) (fun c5 => ?_) | refine cond_split h rfl (fun c5 => ?_) (fun c5 => ?_)
    · obtain ⟨e1, e2⟩ := livesU i (by omega)
      have hln := livesM i (by omega)
      refine wp_skip (norm_then ?_)
      refine wp_seq ?_
      refine wp_block ?_
      refine wp_seq ?_
      refine wp_region_lit ?_
      refine st_move h rfl rfl ?_; clear h a; intro a h
      refine st_move h rfl rfl ?_; clear h a; intro a h
      refine st_idx (p := i) h rfl rfl ho62.sl el48 (by omega) rfl (getD_get (show i < longL.length by rw [show longL.length = 5 from rfl]; omega) []) rfl ?_; clear h a; intro ad cc a h
      refine st_loadC0 h rfl cc na9 rfl ?_; clear h a; intro a h
      refine st_call h (evs_cons rfl evs_nil) co10 (expand_ok _ _ hy (by omega)) rfl ?_; clear h a; rintro _ w12 ⟨x, c, rfl, hc, ho, hq⟩ a h
      replace hf := hf.next hq
      replace hy := hy.ext hq
      replace ho62 := ho62.ext hq
      replace ho63 := ho63.ext hq
      clear hq
      rw [e1] at h
      refine st_move h rfl rfl ?_; clear h a; intro a h
      refine st_extract h rfl rfl rfl ?_; clear h a; intro a h
      refine st_extract h rfl rfl rfl ?_; clear h a; intro a h
      refine st_assign h rfl rfl ?_; clear h a; intro a h
      refine st_assign h rfl rfl ?_; clear h a; intro a h
      replace h : Ag a 97 [(9, _), (10, _), (11, _), (12, _), (13, _)] := h.sub (.cons rfl (.cons rfl (.cons rfl (.cons rfl (.cons rfl .nil)))))
      refine wpList_nil (norm_then ?_)
      refine wp_seq ?_
      refine wp_region_lit ?_
      refine st_move h rfl rfl ?_; clear h a; intro a h
      refine st_call h (evs_cons rfl evs_nil) co14 (shorten_ok _ _ _ ho.sl hy) rfl ?_; clear h a; rintro _ w13 ⟨rfl, hq⟩ a h
      replace hf := hf.next hq
      replace hy := hy.ext hq
      replace ho62 := ho62.ext hq
      replace ho63 := ho63.ext hq
      replace ho := ho.ext hq
      clear hq
      rw [e2] at h
      refine st_move h rfl rfl ?_; clear h a; intro a h
      refine st_extract h rfl rfl rfl ?_; clear h a; intro a h
      refine st_extract h rfl rfl rfl ?_; clear h a; intro a h
      refine st_assign h rfl rfl ?_; clear h a; intro a h
      refine st_assign h rfl rfl ?_; clear h a; intro a h
      replace h : Ag a 97 [(9, _), (10, _), (11, _), (13, _), (14, _), (15, _)] := h.sub (.cons rfl (.cons rfl (.cons rfl (.cons rfl (.cons rfl (.cons rfl .nil))))))
      refine wpList_nil (norm_then ?_)
      refine wp_seq ?_
      refine wp_region_lit ?_
      refine st_move h rfl rfl ?_; clear h a; intro a h
      refine st_ne h rfl rfl rfl ?_; clear h a; intro a h
      refine st_move h rfl rfl ?_; clear h a; intro a h
      first | refine guard_dec (D := 85) h rfl ?_ ?_ | refine guard_ndec (D := 85) h rfl ?_ ?_ | refine guard_any (D := 85) h rfl ?_ ?_
      · clear h; intro g0 h
        refine gd_no h rfl rfl rfl rfl rfl rfl rfl rfl ?_; clear h a; intro a h
        refine gd_no h rfl rfl rfl rfl rfl rfl rfl rfl ?_; clear h a; intro a h
        refine st_pick_t h rfl rfl rfl rfl ?_; clear h a; intro a h
        refine st_move h rfl rfl ?_; clear h a; intro a h
        refine gd_no h rfl rfl rfl rfl rfl rfl rfl rfl ?_; clear h a; intro a h
        refine gd_no h rfl rfl rfl rfl rfl rfl rfl rfl ?_; clear h a; intro a h
        refine gd_no h rfl rfl rfl rfl rfl rfl rfl rfl ?_; clear h a; intro a h
        refine gd_no h rfl rfl rfl rfl rfl rfl rfl rfl ?_; clear h a; intro a h
        refine gd_no h rfl rfl rfl rfl rfl rfl rfl rfl ?_; clear h a; intro a h
        refine gd_no h rfl rfl rfl rfl rfl rfl rfl rfl ?_; clear h a; intro a h
        refine st_pick_t h rfl rfl rfl rfl ?_; clear h a; intro a h
        replace h : Ag a 97 [(9, _), (10, _), (11, _), (86, _), (87, _), (90, _), (91, _), (92, _), (93, _), (94, _), (95, _), (96, _)] := h.sub (.cons rfl (.cons rfl (.cons rfl (.cons rfl (.cons rfl (.cons rfl (.cons rfl (.cons rfl (.cons rfl (.cons rfl (.cons rfl (.cons rfl .nil))))))))))))
        refine wpList_nil (norm_then ?_)
        refine cond_true h rfl ?_
        refine wp_seq ?_
        refine wp_region_lit ?_
        refine st_assign h rfl rfl ?_; clear h a; intro a h
        replace h : Ag a 97 [(0, _)] := h.sub (.cons rfl .nil)
        refine wpList_nil (norm_then ?_)
        refine wp_ret (ret_blk (ret_then (ret_then (ret_blk (ret_then ?_)))))
        refine ret1 h Tryd.results12 rfl ?_
        first | exact ⟨_, rfl, rfl, hf⟩ | (exfalso; first | omega | simp_all)
      · clear h; intro g0 h
        refine gd_yes h rfl rfl rfl rfl rfl rfl ?_
        refine st_move h rfl rfl ?_; clear h a; intro a h
        refine gd_yes h rfl rfl rfl rfl rfl rfl ?_
        refine st_ne h rfl rfl rfl ?_; clear h a; intro a h
        refine st_pick_f h rfl rfl rfl rfl ?_; clear h a; intro a h
        refine st_move h rfl rfl ?_; clear h a; intro a h
        first | refine guard_dec (D := 89) h rfl ?_ ?_ | refine guard_ndec (D := 89) h rfl ?_ ?_ | refine guard_any (D := 89) h rfl ?_ ?_
        · clear h; intro g1 h
          refine gd_no h rfl rfl rfl rfl rfl rfl rfl rfl ?_; clear h a; intro a h
          refine gd_no h rfl rfl rfl rfl rfl rfl rfl rfl ?_; clear h a; intro a h
          refine gd_no h rfl rfl rfl rfl rfl rfl rfl rfl ?_; clear h a; intro a h
          refine gd_no h rfl rfl rfl rfl rfl rfl rfl rfl ?_; clear h a; intro a h
          refine gd_no h rfl rfl rfl rfl rfl rfl rfl rfl ?_; clear h a; intro a h
          refine gd_no h rfl rfl rfl rfl rfl rfl rfl rfl ?_; clear h a; intro a h
          refine st_pick_t h rfl rfl rfl rfl ?_; clear h a; intro a h
          replace h : Ag a 97 [(9, _), (10, _), (11, _), (86, _), (87, _), (90, _), (91, _), (92, _), (93, _), (94, _), (95, _), (96, _)] := h.sub (.cons rfl (.cons rfl (.cons rfl (.cons rfl (.cons rfl (.cons rfl (.cons rfl (.cons rfl (.cons rfl (.cons rfl (.cons rfl (.cons rfl .nil))))))))))))
          refine wpList_nil (norm_then ?_)
          refine cond_true h rfl ?_
          refine wp_seq ?_
          refine wp_region_lit ?_
          refine st_assign h rfl rfl ?_; clear h a; intro a h
          replace h : Ag a 97 [(0, _)] := h.sub (.cons rfl .nil)
          refine wpList_nil (norm_then ?_)
          refine wp_ret (ret_blk (ret_then (ret_then (ret_blk (ret_then ?_)))))
          refine ret1 h Tryd.results12 rfl ?_
          first | exact ⟨_, rfl, rfl, hf⟩ | (exfalso; first | omega | simp_all)
        · clear h; intro g1 h
          refine gd_yes h rfl rfl rfl rfl rfl rfl ?_
          refine st_move h rfl rfl ?_; clear h a; intro a h
          refine gd_yes h rfl rfl rfl rfl rfl rfl ?_
          refine st_move h rfl rfl ?_; clear h a; intro a h
          refine gd_yes h rfl rfl rfl rfl rfl rfl ?_
          refine st_move h rfl rfl ?_; clear h a; intro a h
          refine gd_yes h rfl rfl rfl rfl rfl rfl ?_
          refine st_idx (p := i) h rfl rfl ho63.sl el48 (by omega) rfl (getD_get (show i < shortL.length by rw [show shortL.length = 5 from rfl]; omega) []) rfl ?_; clear h a; intro ad cc a h
          refine gd_yes h rfl rfl rfl rfl rfl rfl ?_
          refine st_loadC0 h rfl cc na9 rfl ?_; clear h a; intro a h
          refine gd_yes h rfl rfl rfl rfl rfl rfl ?_
          refine st_nes h rfl rfl rfl ?_; clear h a; intro a h
          refine st_pick_f h rfl rfl rfl rfl ?_; clear h a; intro a h
          replace h : Ag a 97 [(9, _), (10, _), (11, _), (86, _), (87, _), (90, _), (91, _), (92, _), (93, _), (94, _), (95, _), (96, _)] := h.sub (.cons rfl (.cons rfl (.cons rfl (.cons rfl (.cons rfl (.cons rfl (.cons rfl (.cons rfl (.cons rfl (.cons rfl (.cons rfl (.cons rfl .nil))))))))))))
          refine wpList_nil (norm_then ?_)
          first | refine cond_dec h rfl (fun c6 => ?_) (fun c6 => ?_) | refine cond_ndec h rfl (fun c6 => ?_) (fun c6 => ?_) | refine cond_split h rfl (fun c6 => ?_) (fun c6 => ?_)
          · refine id ?_
            refine wp_seq ?_
            refine wp_region_lit ?_
            refine st_assign h rfl rfl ?_; clear h a; intro a h
            replace h : Ag a 97 [(0, _)] := h.sub (.cons rfl .nil)
            refine wpList_nil (norm_then ?_)
            refine wp_ret (ret_blk (ret_then (ret_then (ret_blk (ret_then ?_)))))
            refine ret1 h Tryd.results12 rfl ?_
            first | exact ⟨_, rfl, rfl, hf⟩ | (exfalso; first | omega | simp_all)
          · refine id ?_
            refine wp_skip (norm_blk (norm_then ?_))
            refine wp_region_lit ?_
            refine st_move h rfl rfl ?_; clear h a; intro a h
            refine st_add h rfl rfl (by first | exact IntWalk.i64_in _ (by omega) | rfl) rfl ?_; clear h a; intro a h
            refine st_assign h rfl rfl ?_; clear h a; intro a h
            replace h : Ag a 97 [(9, _), (10, _), (11, _), (86, _), (87, _), (90, _), (91, _), (92, _), (93, _), (94, _), (95, _)] := h.sub (.cons rfl (.cons rfl (.cons rfl (.cons rfl (.cons rfl (.cons rfl (.cons rfl (.cons rfl (.cons rfl (.cons rfl (.cons rfl .nil)))))))))))
            refine wpList_nil (norm_then ?_)
            exact ⟨i + 1, h.sub (.cons rfl (.cons rfl (.cons rfl .nil))), ⟨by omega, ho62, ho63, hy, hf⟩, by omega⟩
    · refine id ?_
      refine wp_exit (exit_then (exit_then (exit_here (norm_then ?_))))
      refine wp_seq ?_
      refine wp_region_lit ?_
      refine st_assign h rfl rfl ?_; clear h a; intro a h
      replace h : Ag a 97 [(0, _)] := h.sub (.cons rfl .nil)
      refine wpList_nil (norm_then ?_)
      refine wp_ret ?_
      refine ret1 h Tryd.results12 rfl ?_
      first | exact ⟨_, rfl, rfl, hf⟩ | (exfalso; first | omega | simp_all)
end Go.Proofs.YtbbnampdgefljaaDoor
namespace Go.Proofs.YtbbnampdgefljaaDoor
open Go.Lw Go.G14
set_option maxHeartbeats 4000000 in
theorem refexpand_ok (l : List UInt8) (w0 : World) (hy : Sym w0) : Rets Tryd.prog 11 #[S l] w0 fun v w' => ∃ x R, v = .tuple #[x, .int .i64 R.2] ∧ (l.length ≤ 1024 → Mach l [] [] 0 true R) ∧ (1024 < l.length → R = ([], 3)) ∧ Sl encSt w' x R.1 ∧ Fr [] w0 w' := by
  have h00 := hy.pos
  refine enter [(0, S l)] Tryd.func11 rfl Tryd.ntmps11 rfl (.cons rfl .nil) ?_
  have hf := Fr.refl [] w0
  intro a h
  refine wp_seq ?_
  refine wp_region_lit ?_
  refine st_assign h rfl rfl ?_; clear h a; intro a h
  refine st_assign h rfl rfl ?_; clear h a; intro a h
  replace h : Ag a 199 [(0, _)] := h.sub (.cons rfl .nil)
  refine wpList_nil (norm_then ?_)
  refine wp_seq ?_
  refine wp_seq ?_
  refine wp_region_lit ?_
  refine st_move h rfl rfl ?_; clear h a; intro a h
  refine st_len h rfl Tryd.underlying9 rfl ?_; clear h a; intro a h
  refine st_gt h rfl rfl rfl ?_; clear h a; intro a h
  replace h : Ag a 199 [(0, _), (18, _)] := h.sub (.cons rfl (.cons rfl .nil))
  refine wpList_nil (norm_then ?_)
  first | refine cond_dec h rfl (fun c0 => ?_) (fun c0 => ?_) | refine cond_ndec h rfl (fun c0 => ?_) (fun c0 => ?_) | refine cond_split h rfl (fun c0 => ?_) (fun c0 => ?_)
  · refine id ?_
    refine wp_seq ?_
    refine wp_region_lit ?_
    refine st_assign h rfl rfl ?_; clear h a; intro a h
    refine st_assign h rfl rfl ?_; clear h a; intro a h
    replace h : Ag a 199 [(2, _), (3, _)] := h.sub (.cons rfl (.cons rfl .nil))
    refine wpList_nil (norm_then ?_)
    refine wp_ret (ret_then ?_)
    refine ret2 h Tryd.results11 rfl rfl ?_
    exact ⟨_, rfl, _, ([], 3), rfl, (fun e => by omega), fun _ => rfl, Sl.nil _, hf⟩
  · have hl : l.length ≤ 1024 := by omega
    refine wp_skip (norm_then ?_)
    refine wp_seq ?_
    refine wp_region_lit ?_
    refine st_bslice ([((none, 0, 0) : SV)]) h (evs_cons rfl evs_nil) rfl rfl rfl el43 (by decide) rfl ?_; clear h a; intro g_19 w1 hg ho19 hq hz a h
    have hl19 : w0.heap.size ≤ g_19 := by have := hf.size; omega
    replace hf := hf.next hq
    replace hy := hy.ext hq
    clear hq hz hg
    refine st_assign h rfl rfl ?_; clear h a; intro a h
    replace h : Ag a 199 [(0, _), (4, _)] := h.sub (.cons rfl (.cons rfl .nil))
    refine wpList_nil (norm_then ?_)
    refine wp_seq ?_
    refine wp_region_lit ?_
    refine st_assign h rfl rfl ?_; clear h a; intro a h
    refine wpList_nil (norm_then ?_)
    refine wp_seq ?_
    refine wp_region_lit ?_
    refine st_assign h rfl rfl ?_; clear h a; intro a h
    refine wpList_nil (norm_then ?_)
    refine wp_seq ?_
    refine wp_block ?_
    refine loop (ι := RSt) (fun z => [(0, S l), (4, .slice (some ⟨z.g, 0, none⟩) (z.ps.length + 1) z.c), (5, .int .i64 (z.p : Int)), (6, .bool z.it)]) (fun z w' => Own Enc.sl 22 w0.heap.size w' (.slice (some ⟨z.g, 0, none⟩) (z.ps.length + 1) z.c) ((z.ps ++ [(z.u, z.t)]).map Prod.fst) ∧ Ins encSt 36 w0.heap.size w' [z.g] (z.ps ++ [(z.u, z.t)]) ∧ z.p ≤ l.length ∧ z.ps.length ≤ z.p ∧ (∀ q ∈ z.ps, q.2.length ≤ 17) ∧ z.t.length ≤ 17 ∧ (∀ R, Mach l (z.ps.map Prod.snd) z.t z.p z.it R → Mach l [] [] 0 true R) ∧ Sym w' ∧ Fr [] w0 w') (fun z => l.length - z.p) ⟨[], (none, 0, 0), [], 0, true, g_19, 1⟩ (h.sub (.cons rfl (.cons rfl (.cons rfl (.cons rfl .nil))))) ⟨ho19.low hl19, Ins.nil.pushNil, Nat.zero_le _, Nat.le_refl _, by simp, by simp, fun R m => m, hy, hf⟩ ?_
    clear h a ho19 hy hf
    rintro ⟨ps, u, t, p, it, g, c⟩ w2 a h ⟨hO, hI, hpl, hdp, hb17, ht17, hM, hy, hf⟩
    simp only at hO hI hpl hdp hb17 ht17 hM h
    have hcO := (Own.capO hO).1
    have hgl := (hO.blk g (by simp [blks])).1
    refine wp_seq ?_
    refine wp_seq ?_
    refine region_bool (r := 26) (L' := [(0, _), (4, _), (5, _), (6, _)]) (it = true ∨ p < l.length) h (.cons rfl (.cons rfl (.cons rfl (.cons rfl .nil)))) ?_ ?_
    · refine id ?_
      refine st_move h rfl rfl ?_; clear h a; intro a h
      refine st_move h rfl rfl ?_; clear h a; intro a h
      first | refine guard_dec (D := 21) h rfl ?_ ?_ | refine guard_ndec (D := 21) h rfl ?_ ?_ | refine guard_any (D := 21) h rfl ?_ ?_
      · clear h; intro g0 h
        refine gd_no h rfl rfl rfl rfl rfl rfl rfl rfl ?_; clear h a; intro a h
        refine gd_no h rfl rfl rfl rfl rfl rfl rfl rfl ?_; clear h a; intro a h
        refine gd_no h rfl rfl rfl rfl rfl rfl rfl rfl ?_; clear h a; intro a h
        refine gd_no h rfl rfl rfl rfl rfl rfl rfl rfl ?_; clear h a; intro a h
        refine st_pick_t h rfl rfl rfl rfl ?_; clear h a; intro a h
        exact wpList_nil (bool_end h rfl (by first | exact bt (.inl ‹it = true›) | exact bi ⟨fun e => .inr (by omega), fun e => by rcases e with e | e; exact absurd e (by simp [‹it = false›]); omega⟩) (.cons rfl (.cons rfl (.cons rfl (.cons rfl .nil)))))
      · clear h; intro g0 h
        refine gd_yes h rfl rfl rfl rfl rfl rfl ?_
        refine st_move h rfl rfl ?_; clear h a; intro a h
        refine gd_yes h rfl rfl rfl rfl rfl rfl ?_
        refine st_move h rfl rfl ?_; clear h a; intro a h
        refine gd_yes h rfl rfl rfl rfl rfl rfl ?_
        refine st_len h rfl Tryd.underlying9 rfl ?_; clear h a; intro a h
        refine gd_yes h rfl rfl rfl rfl rfl rfl ?_
        refine st_lt h rfl rfl rfl ?_; clear h a; intro a h
        refine st_pick_f h rfl rfl rfl rfl ?_; clear h a; intro a h
        exact wpList_nil (bool_end h rfl (by first | exact bt (.inl ‹it = true›) | exact bi ⟨fun e => .inr (by omega), fun e => by rcases e with e | e; exact absurd e (by simp [‹it = false›]); omega⟩) (.cons rfl (.cons rfl (.cons rfl (.cons rfl .nil)))))
    · clear h a; intro a h
      refine (norm_then ?_)
      first | refine cond_dec h rfl (fun c1 => ?_) (fun c1 => ?_) | refine cond_ndec h rfl (fun c1 => ?_) (fun c1 => ?_) | refine cond_split h rfl (fun c1 => ?_) (fun c1 => ?_)
      · refine id ?_
        refine wp_skip (norm_then ?_)
        refine wp_block ?_
        refine wp_seq ?_
        refine wp_seq ?_
        refine wp_region_lit ?_
        refine st_move h rfl rfl ?_; clear h a; intro a h
        refine st_not h rfl rfl ?_; clear h a; intro a h
        replace h : Ag a 199 [(0, _), (4, _), (5, _), (6, _), (28, _)] := h.sub (.cons rfl (.cons rfl (.cons rfl (.cons rfl (.cons rfl .nil)))))
        refine wpList_nil (norm_then ?_)
        first | refine cond_dec h rfl (fun c2 => ?_) (fun c2 => ?_) | refine cond_ndec h rfl (fun c2 => ?_) (fun c2 => ?_) | refine cond_split h rfl (fun c2 => ?_) (fun c2 => ?_)
        · obtain rfl : it = false := by simpa using c2
          have c1q : p < l.length := c1.elim (fun e => by cases e) id
          refine wp_seq ?_
          refine wp_seq ?_
          refine wp_region_lit ?_
          refine st_move h rfl rfl ?_; clear h a; intro a h
          refine st_move h rfl rfl ?_; clear h a; intro a h
          refine st_index (p := p) h rfl rfl Tryd.underlying9 (by omega) (by omega) (by omega) rfl ?_; clear h a; intro hy31 a h
          refine st_eq h rfl rfl rfl ?_; clear h a; intro a h
          replace h : Ag a 199 [(0, _), (4, _), (5, _), (6, _), (32, _)] := h.sub (.cons rfl (.cons rfl (.cons rfl (.cons rfl (.cons rfl .nil)))))
          refine wpList_nil (norm_then ?_)
          first | refine cond_dec h rfl (fun c3 => ?_) (fun c3 => ?_) | refine cond_ndec h rfl (fun c3 => ?_) (fun c3 => ?_) | refine cond_split h rfl (fun c3 => ?_) (fun c3 => ?_)
          · refine id ?_
            refine wp_seq ?_
            refine wp_region_lit ?_
            refine st_move h rfl rfl ?_; clear h a; intro a h
            refine st_add h rfl rfl (by first | exact IntWalk.i64_in _ (by omega) | rfl) rfl ?_; clear h a; intro a h
            refine st_assign h rfl rfl ?_; clear h a; intro a h
            replace h : Ag a 199 [(0, _), (4, _), (5, _)] := h.sub (.cons rfl (.cons rfl (.cons rfl .nil)))
            refine wpList_nil (norm_then ?_)
            refine wp_seq ?_
            refine wp_region_lit ?_
            refine st_assign h rfl rfl ?_; clear h a; intro a h
            refine wpList_nil (norm_then ?_)
            refine wp_exit (exit_then (exit_then (exit_here (norm_then ?_))))
            exact ⟨⟨ps, u, t, p + 1, true, g, c⟩, h.sub (.cons rfl (.cons rfl (.cons rfl (.cons rfl .nil)))), ⟨hO, hI, by simp only; omega, by simp only; omega, hb17, ht17, fun R m => hM R (m_space c1q (byte_eq.1 c3) m), hy, hf⟩, by simp only; omega⟩
          · refine id ?_
            refine wp_skip (norm_then ?_)
            refine wp_seq ?_
            refine wp_seq ?_
            refine region_bool (r := 57) (L' := [(0, _), (4, _), (5, _), (6, _)]) (¬ (((l.getD p 0).toNat : Int) = 93 ∧ 1 ≤ ps.length ∧ p + 1 < l.length ∧ ((l.getD (p + 1) 0).toNat : Int) = 120)) h (.cons rfl (.cons rfl (.cons rfl (.cons rfl .nil)))) ?_ ?_
            · refine id ?_
              refine st_move h rfl rfl ?_; clear h a; intro a h
              refine st_move h rfl rfl ?_; clear h a; intro a h
              refine st_index (p := p) h rfl rfl Tryd.underlying9 (by omega) (by omega) (by omega) rfl ?_; clear h a; intro hy37 a h
              refine st_ne h rfl rfl rfl ?_; clear h a; intro a h
              refine st_move h rfl rfl ?_; clear h a; intro a h
              first | refine guard_dec (D := 39) h rfl ?_ ?_ | refine guard_ndec (D := 39) h rfl ?_ ?_ | refine guard_any (D := 39) h rfl ?_ ?_
              · clear h; intro g1 h
                refine gd_no h rfl rfl rfl rfl rfl rfl rfl rfl ?_; clear h a; intro a h
                refine gd_no h rfl rfl rfl rfl rfl rfl rfl rfl ?_; clear h a; intro a h
                refine gd_no h rfl rfl rfl rfl rfl rfl rfl rfl ?_; clear h a; intro a h
                refine st_pick_t h rfl rfl rfl rfl ?_; clear h a; intro a h
                refine st_move h rfl rfl ?_; clear h a; intro a h
                refine gd_no h rfl rfl rfl rfl rfl rfl rfl rfl ?_; clear h a; intro a h
                refine gd_no h rfl rfl rfl rfl rfl rfl rfl rfl ?_; clear h a; intro a h
                refine gd_no h rfl rfl rfl rfl rfl rfl rfl rfl ?_; clear h a; intro a h
                refine gd_no h rfl rfl rfl rfl rfl rfl rfl rfl ?_; clear h a; intro a h
                refine gd_no h rfl rfl rfl rfl rfl rfl rfl rfl ?_; clear h a; intro a h
                refine st_pick_t h rfl rfl rfl rfl ?_; clear h a; intro a h
                refine st_move h rfl rfl ?_; clear h a; intro a h
                refine gd_no h rfl rfl rfl rfl rfl rfl rfl rfl ?_; clear h a; intro a h
                refine gd_no h rfl rfl rfl rfl rfl rfl rfl rfl ?_; clear h a; intro a h
                refine gd_no h rfl rfl rfl rfl rfl rfl rfl rfl ?_; clear h a; intro a h
                refine gd_no h rfl rfl rfl rfl rfl rfl rfl rfl ?_; clear h a; intro a h
                refine gd_no h rfl rfl rfl rfl rfl rfl rfl rfl ?_; clear h a; intro a h
                refine st_pick_t h rfl rfl rfl rfl ?_; clear h a; intro a h
                exact wpList_nil (bool_end h rfl (by first | exact bt (by omega) | exact bf (by omega) | exact bi (by omega) | exact bn (by omega)) (.cons rfl (.cons rfl (.cons rfl (.cons rfl .nil)))))
              · clear h; intro g1 h
                refine gd_yes h rfl rfl rfl rfl rfl rfl ?_
                refine st_move h rfl rfl ?_; clear h a; intro a h
                refine gd_yes h rfl rfl rfl rfl rfl rfl ?_
                refine st_lenS h rfl Tryd.underlying43 rfl ?_; clear h a; intro a h
                refine gd_yes h rfl rfl rfl rfl rfl rfl ?_
                refine st_lt h rfl rfl rfl ?_; clear h a; intro a h
                refine st_pick_f h rfl rfl rfl rfl ?_; clear h a; intro a h
                refine st_move h rfl rfl ?_; clear h a; intro a h
                first | refine guard_dec (D := 44) h rfl ?_ ?_ | refine guard_ndec (D := 44) h rfl ?_ ?_ | refine guard_any (D := 44) h rfl ?_ ?_
                · clear h; intro g2 h
                  refine gd_no h rfl rfl rfl rfl rfl rfl rfl rfl ?_; clear h a; intro a h
                  refine gd_no h rfl rfl rfl rfl rfl rfl rfl rfl ?_; clear h a; intro a h
                  refine gd_no h rfl rfl rfl rfl rfl rfl rfl rfl ?_; clear h a; intro a h
                  refine gd_no h rfl rfl rfl rfl rfl rfl rfl rfl ?_; clear h a; intro a h
                  refine gd_no h rfl rfl rfl rfl rfl rfl rfl rfl ?_; clear h a; intro a h
                  refine st_pick_t h rfl rfl rfl rfl ?_; clear h a; intro a h
                  refine st_move h rfl rfl ?_; clear h a; intro a h
                  refine gd_no h rfl rfl rfl rfl rfl rfl rfl rfl ?_; clear h a; intro a h
                  refine gd_no h rfl rfl rfl rfl rfl rfl rfl rfl ?_; clear h a; intro a h
                  refine gd_no h rfl rfl rfl rfl rfl rfl rfl rfl ?_; clear h a; intro a h
                  refine gd_no h rfl rfl rfl rfl rfl rfl rfl rfl ?_; clear h a; intro a h
                  refine gd_no h rfl rfl rfl rfl rfl rfl rfl rfl ?_; clear h a; intro a h
                  refine st_pick_t h rfl rfl rfl rfl ?_; clear h a; intro a h
                  exact wpList_nil (bool_end h rfl (by first | exact bt (by omega) | exact bf (by omega) | exact bi (by omega) | exact bn (by omega)) (.cons rfl (.cons rfl (.cons rfl (.cons rfl .nil)))))
                · clear h; intro g2 h
                  refine gd_yes h rfl rfl rfl rfl rfl rfl ?_
                  refine st_move h rfl rfl ?_; clear h a; intro a h
                  refine gd_yes h rfl rfl rfl rfl rfl rfl ?_
                  refine st_add h rfl rfl (by first | exact IntWalk.i64_in _ (by omega) | rfl) rfl ?_; clear h a; intro a h
                  refine gd_yes h rfl rfl rfl rfl rfl rfl ?_
                  refine st_move h rfl rfl ?_; clear h a; intro a h
                  refine gd_yes h rfl rfl rfl rfl rfl rfl ?_
                  refine st_len h rfl Tryd.underlying9 rfl ?_; clear h a; intro a h
                  refine gd_yes h rfl rfl rfl rfl rfl rfl ?_
                  refine st_ge h rfl rfl rfl ?_; clear h a; intro a h
                  refine st_pick_f h rfl rfl rfl rfl ?_; clear h a; intro a h
                  refine st_move h rfl rfl ?_; clear h a; intro a h
                  first | refine guard_dec (D := 51) h rfl ?_ ?_ | refine guard_ndec (D := 51) h rfl ?_ ?_ | refine guard_any (D := 51) h rfl ?_ ?_
                  · clear h; intro g3 h
                    refine gd_no h rfl rfl rfl rfl rfl rfl rfl rfl ?_; clear h a; intro a h
                    refine gd_no h rfl rfl rfl rfl rfl rfl rfl rfl ?_; clear h a; intro a h
                    refine gd_no h rfl rfl rfl rfl rfl rfl rfl rfl ?_; clear h a; intro a h
                    refine gd_no h rfl rfl rfl rfl rfl rfl rfl rfl ?_; clear h a; intro a h
                    refine gd_no h rfl rfl rfl rfl rfl rfl rfl rfl ?_; clear h a; intro a h
                    refine st_pick_t h rfl rfl rfl rfl ?_; clear h a; intro a h
                    exact wpList_nil (bool_end h rfl (by first | exact bt (by omega) | exact bf (by omega) | exact bi (by omega) | exact bn (by omega)) (.cons rfl (.cons rfl (.cons rfl (.cons rfl .nil)))))
                  · clear h; intro g3 h
                    refine gd_yes h rfl rfl rfl rfl rfl rfl ?_
                    refine st_move h rfl rfl ?_; clear h a; intro a h
                    refine gd_yes h rfl rfl rfl rfl rfl rfl ?_
                    refine st_move h rfl rfl ?_; clear h a; intro a h
                    refine gd_yes h rfl rfl rfl rfl rfl rfl ?_
                    refine st_add h rfl rfl (by first | exact IntWalk.i64_in _ (by omega) | rfl) rfl ?_; clear h a; intro a h
                    refine gd_yes h rfl rfl rfl rfl rfl rfl ?_
                    refine st_index (p := p + 1) h rfl rfl Tryd.underlying9 (by omega) (by omega) (by omega) rfl ?_; clear h a; intro hy55 a h
                    refine gd_yes h rfl rfl rfl rfl rfl rfl ?_
                    refine st_ne h rfl rfl rfl ?_; clear h a; intro a h
                    refine st_pick_f h rfl rfl rfl rfl ?_; clear h a; intro a h
                    exact wpList_nil (bool_end h rfl (by first | exact bt (by omega) | exact bf (by omega) | exact bi (by omega) | exact bn (by omega)) (.cons rfl (.cons rfl (.cons rfl (.cons rfl .nil)))))
            · clear h a; intro a h
              refine (norm_then ?_)
              first | refine cond_dec h rfl (fun c4 => ?_) (fun c4 => ?_) | refine cond_ndec h rfl (fun c4 => ?_) (fun c4 => ?_) | refine cond_split h rfl (fun c4 => ?_) (fun c4 => ?_)
              · refine id ?_
                refine wp_seq ?_
                refine wp_region_lit ?_
                refine st_assign h rfl rfl ?_; clear h a; intro a h
                refine st_assign h rfl rfl ?_; clear h a; intro a h
                replace h : Ag a 199 [(2, _), (3, _)] := h.sub (.cons rfl (.cons rfl .nil))
                refine wpList_nil (norm_then ?_)
                refine wp_ret (ret_then (ret_then (ret_blk (ret_then (ret_blk (ret_then ?_))))))
                refine ret2 h Tryd.results11 rfl rfl ?_
                exact ⟨_, rfl, _, ([], 4), rfl, fun _ => hM _ (m_bad c1q (fun e => c3 (by rw [e]; rfl)) (fun e => c4 ⟨by rw [e.1]; rfl, List.length_pos_iff.2 (fun e2 => e.2.1 (by rw [e2]; rfl)), e.2.2.1, by rw [e.2.2.2]; rfl⟩)), (fun e => by omega), Sl.nil _, hf⟩
              · have c4q : ((l.getD p 0).toNat : Int) = 93 ∧ 1 ≤ ps.length ∧ p + 1 < l.length ∧ ((l.getD (p + 1) 0).toNat : Int) = 120 := Decidable.not_not.1 c4
                have hends : ends l (ps.map Prod.snd) p := ⟨byte_eq.1 c4q.1, (fun e => by have := congrArg List.length e; simp at this; rw [this] at c4q; simp at c4q), c4q.2.2.1, byte_eq.1 c4q.2.2.2⟩
                refine wp_skip (norm_then ?_)
                refine wp_seq ?_
                refine wp_region_lit ?_
                refine st_move h rfl rfl ?_; clear h a; intro a h
                refine st_add h rfl rfl (by first | exact IntWalk.i64_in _ (by omega) | rfl) rfl ?_; clear h a; intro a h
                refine st_assign h rfl rfl ?_; clear h a; intro a h
                replace h : Ag a 199 [(0, _), (4, _), (5, _), (6, _)] := h.sub (.cons rfl (.cons rfl (.cons rfl (.cons rfl .nil))))
                refine wpList_nil (norm_then ?_)
                refine wp_seq ?_
                refine wp_region_lit ?_
                refine st_move h rfl rfl ?_; clear h a; intro a h
                refine st_assign h rfl rfl ?_; clear h a; intro a h
                replace h : Ag a 199 [(0, _), (4, _), (5, _), (6, _), (7, _)] := h.sub (.cons rfl (.cons rfl (.cons rfl (.cons rfl (.cons rfl .nil)))))
                refine wpList_nil (norm_then ?_)
                refine wp_seq ?_
                refine wp_block ?_
                refine loop (ι := Nat) (fun k => [(0, S l), (4, .slice (some ⟨g, 0, none⟩) (ps.length + 1) c), (6, .bool false), (7, .int .i64 ((p : Int) + 2)), (5, .int .i64 (k : Int))]) (fun k w' => p + 2 ≤ k ∧ k ≤ l.length ∧ wordEnd l k = wordEnd l (p + 2) ∧ Own Enc.sl 22 w0.heap.size w' (.slice (some ⟨g, 0, none⟩) (ps.length + 1) c) ((ps ++ [(u, t)]).map Prod.fst) ∧ Ins encSt 36 w0.heap.size w' [g] (ps ++ [(u, t)]) ∧ Sym w' ∧ Fr [] w0 w') (fun k => l.length - k) (p + 2) (h.sub (.cons rfl (.cons rfl (.cons rfl (.cons rfl (.cons rfl .nil)))))) ⟨Nat.le_refl _, by omega, rfl, hO, hI, hy, hf⟩ ?_
                clear h a hO hI hy hf
                rintro k w3 a h ⟨hpk, hkl, hwe, hO, hI, hy, hf⟩
                refine wp_seq ?_
                refine wp_seq ?_
                refine region_bool (r := 76) (L' := [(0, _), (4, _), (5, _), (6, _), (7, _)]) (k < l.length ∧ ((l.getD k 0).toNat : Int) ≠ 32 ∧ ((l.getD k 0).toNat : Int) ≠ 93) h (.cons rfl (.cons rfl (.cons rfl (.cons rfl (.cons rfl .nil))))) ?_ ?_
                · refine id ?_
                  refine st_move h rfl rfl ?_; clear h a; intro a h
                  refine st_move h rfl rfl ?_; clear h a; intro a h
                  refine st_len h rfl Tryd.underlying9 rfl ?_; clear h a; intro a h
                  refine st_lt h rfl rfl rfl ?_; clear h a; intro a h
                  refine st_move h rfl rfl ?_; clear h a; intro a h
                  first | refine guard_dec (D := 65) h rfl ?_ ?_ | refine guard_ndec (D := 65) h rfl ?_ ?_ | refine guard_any (D := 65) h rfl ?_ ?_
                  · clear h; intro g4 h
                    refine gd_yes h rfl rfl rfl rfl rfl rfl ?_
                    refine st_move h rfl rfl ?_; clear h a; intro a h
                    refine gd_yes h rfl rfl rfl rfl rfl rfl ?_
                    refine st_move h rfl rfl ?_; clear h a; intro a h
                    refine gd_yes h rfl rfl rfl rfl rfl rfl ?_
                    refine st_index (p := k) h rfl rfl Tryd.underlying9 (by omega) (by omega) (by omega) rfl ?_; clear h a; intro hy68 a h
                    refine gd_yes h rfl rfl rfl rfl rfl rfl ?_
                    refine st_ne h rfl rfl rfl ?_; clear h a; intro a h
                    refine st_pick_t h rfl rfl rfl rfl ?_; clear h a; intro a h
                    refine st_move h rfl rfl ?_; clear h a; intro a h
                    first | refine guard_dec (D := 71) h rfl ?_ ?_ | refine guard_ndec (D := 71) h rfl ?_ ?_ | refine guard_any (D := 71) h rfl ?_ ?_
                    · clear h; intro g5 h
                      refine gd_yes h rfl rfl rfl rfl rfl rfl ?_
                      refine st_move h rfl rfl ?_; clear h a; intro a h
                      refine gd_yes h rfl rfl rfl rfl rfl rfl ?_
                      refine st_move h rfl rfl ?_; clear h a; intro a h
                      refine gd_yes h rfl rfl rfl rfl rfl rfl ?_
                      refine st_index (p := k) h rfl rfl Tryd.underlying9 (by omega) (by omega) (by omega) rfl ?_; clear h a; intro hy74 a h
                      refine gd_yes h rfl rfl rfl rfl rfl rfl ?_
                      refine st_ne h rfl rfl rfl ?_; clear h a; intro a h
                      refine st_pick_t h rfl rfl rfl rfl ?_; clear h a; intro a h
                      exact wpList_nil (bool_end h rfl (by first | exact bt (by omega) | exact bf (by omega) | exact bi (by omega) | exact bn (by omega)) (.cons rfl (.cons rfl (.cons rfl (.cons rfl (.cons rfl .nil))))))
                    · clear h; intro g5 h
                      refine gd_no h rfl rfl rfl rfl rfl rfl rfl rfl ?_; clear h a; intro a h
                      refine gd_no h rfl rfl rfl rfl rfl rfl rfl rfl ?_; clear h a; intro a h
                      refine gd_no h rfl rfl rfl rfl rfl rfl rfl rfl ?_; clear h a; intro a h
                      refine gd_no h rfl rfl rfl rfl rfl rfl rfl rfl ?_; clear h a; intro a h
                      refine st_pick_f h rfl rfl rfl rfl ?_; clear h a; intro a h
                      exact wpList_nil (bool_end h rfl (by first | exact bt (by omega) | exact bf (by omega) | exact bi (by omega) | exact bn (by omega)) (.cons rfl (.cons rfl (.cons rfl (.cons rfl (.cons rfl .nil))))))
                  · clear h; intro g4 h
                    refine gd_no h rfl rfl rfl rfl rfl rfl rfl rfl ?_; clear h a; intro a h
                    refine gd_no h rfl rfl rfl rfl rfl rfl rfl rfl ?_; clear h a; intro a h
                    refine gd_no h rfl rfl rfl rfl rfl rfl rfl rfl ?_; clear h a; intro a h
                    refine gd_no h rfl rfl rfl rfl rfl rfl rfl rfl ?_; clear h a; intro a h
                    refine st_pick_f h rfl rfl rfl rfl ?_; clear h a; intro a h
                    refine st_move h rfl rfl ?_; clear h a; intro a h
                    refine gd_no h rfl rfl rfl rfl rfl rfl rfl rfl ?_; clear h a; intro a h
                    refine gd_no h rfl rfl rfl rfl rfl rfl rfl rfl ?_; clear h a; intro a h
                    refine gd_no h rfl rfl rfl rfl rfl rfl rfl rfl ?_; clear h a; intro a h
                    refine gd_no h rfl rfl rfl rfl rfl rfl rfl rfl ?_; clear h a; intro a h
                    refine st_pick_f h rfl rfl rfl rfl ?_; clear h a; intro a h
                    exact wpList_nil (bool_end h rfl (by first | exact bt (by omega) | exact bf (by omega) | exact bi (by omega) | exact bn (by omega)) (.cons rfl (.cons rfl (.cons rfl (.cons rfl (.cons rfl .nil))))))
                · clear h a; intro a h
                  refine (norm_then ?_)
                  first | refine cond_dec h rfl (fun c5 => ?_) (fun c5 => ?_) | refine cond_ndec h rfl (fun c5 => ?_) (fun c5 => ?_) | refine cond_split h rfl (fun c5 => ?_) (fun c5 => ?_)
                  · have c5' : k < l.length ∧ l.getD k 0 ≠ 32 ∧ l.getD k 0 ≠ 93 := ⟨c5.1, fun e => c5.2.1 (by rw [e]; rfl), fun e => c5.2.2 (by rw [e]; rfl)⟩
                    refine wp_skip (norm_then ?_)
                    refine wp_block ?_
                    refine wp_region_lit ?_
                    refine st_move h rfl rfl ?_; clear h a; intro a h
                    refine st_add h rfl rfl (by first | exact IntWalk.i64_in _ (by omega) | rfl) rfl ?_; clear h a; intro a h
                    refine st_assign h rfl rfl ?_; clear h a; intro a h
                    replace h : Ag a 199 [(0, _), (4, _), (5, _), (6, _), (7, _)] := h.sub (.cons rfl (.cons rfl (.cons rfl (.cons rfl (.cons rfl .nil)))))
                    refine wpList_nil (norm_blk (norm_then ?_))
                    exact ⟨k + 1, h.sub (.cons rfl (.cons rfl (.cons rfl (.cons rfl (.cons rfl .nil))))), ⟨by omega, by omega, by rw [← hwe, wordEnd_next c5'], hO, hI, hy, hf⟩, by omega⟩
                  · have hke : wordEnd l (p + 2) = k := by
                      rw [← hwe]; exact wordEnd_here (fun e => c5 ⟨e.1, fun h => e.2.1 (byte_eq.1 h), fun h => e.2.2 (byte_eq.1 h)⟩)
                    have hwd : (l.take k).drop (p + 2) = wordS l (p + 2) := by rw [wordS, hke]
                    clear hwe
                    refine wp_exit (exit_then (exit_then (exit_here (norm_then ?_))))
                    refine wp_seq ?_
                    refine wp_region_lit ?_
                    refine st_move h rfl rfl ?_; clear h a; intro a h
                    refine st_move h rfl rfl ?_; clear h a; intro a h
                    refine st_move h rfl rfl ?_; clear h a; intro a h
                    refine st_ss_lh (p := p + 2) (p' := k) h rfl rfl rfl Tryd.underlying9 (by omega) (by omega) (by omega) (by omega) (by omega) rfl ?_; clear h a; intro a h
                    refine st_call h (evs_cons rfl (evs_cons rfl evs_nil)) co27 (number_ok _ _ _) rfl ?_; clear h a; rintro _ _ ⟨rfl, rfl⟩ a h
                    rw [hwd] at h
                    refine st_assign h rfl rfl ?_; clear h a; intro a h
                    replace h : Ag a 199 [(0, _), (4, _), (5, _), (6, _), (8, _)] := h.sub (.cons rfl (.cons rfl (.cons rfl (.cons rfl (.cons rfl .nil)))))
                    refine wpList_nil (norm_then ?_)
                    refine wp_seq ?_
                    refine wp_seq ?_
                    refine wp_region_lit ?_
                    refine st_move h rfl rfl ?_; clear h a; intro a h
                    refine st_eq h rfl rfl rfl ?_; clear h a; intro a h
                    replace h : Ag a 199 [(0, _), (4, _), (5, _), (6, _), (8, _), (85, _)] := h.sub (.cons rfl (.cons rfl (.cons rfl (.cons rfl (.cons rfl (.cons rfl .nil))))))
                    refine wpList_nil (norm_then ?_)
                    first | refine cond_dec h rfl (fun c6 => ?_) (fun c6 => ?_) | refine cond_ndec h rfl (fun c6 => ?_) (fun c6 => ?_) | refine cond_split h rfl (fun c6 => ?_) (fun c6 => ?_)
                    · refine id ?_
                      refine wp_seq ?_
                      refine wp_region_lit ?_
                      refine st_assign h rfl rfl ?_; clear h a; intro a h
                      refine st_assign h rfl rfl ?_; clear h a; intro a h
                      replace h : Ag a 199 [(2, _), (3, _)] := h.sub (.cons rfl (.cons rfl .nil))
                      refine wpList_nil (norm_then ?_)
                      refine wp_ret (ret_then (ret_then (ret_blk (ret_then (ret_blk (ret_then ?_))))))
                      refine ret2 h Tryd.results11 rfl rfl ?_
                      exact ⟨_, rfl, _, ([], 4), rfl, fun _ => hM _ (m_num hends c6), (fun e => by omega), Sl.nil _, hf⟩
                    · have hnr := number_rng (wordS l (p + 2))
                      obtain ⟨n, hn⟩ : ∃ n : Nat, numberS (wordS l (p + 2)) 16 = (n : Int) := ⟨(numberS (wordS l (p + 2)) 16).toNat, by omega⟩
                      have hn0 := c6
                      rw [hn] at h hnr
                      obtain ⟨ps', v, s, rfl⟩ : ∃ ps' v s, ps = ps' ++ [(v, s)] := ⟨ps.dropLast, (ps.getLast (by intro e; subst e; simp at c4q)).1, (ps.getLast (by intro e; subst e; simp at c4q)).2, (List.dropLast_concat_getLast _).symm⟩
                      rename List (SV × List Stitch) => ps
                      have hs17 : s.length ≤ 17 := hb17 (v, s) (by simp)
                      simp only [List.length_append, List.length_singleton] at h hdp hcO hO
                      rw [List.map_append] at hends
                      refine wp_skip (norm_then ?_)
                      refine wp_seq ?_
                      refine wp_region_lit ?_
                      refine st_move h rfl rfl ?_; clear h a; intro a h
                      refine st_move h rfl rfl ?_; clear h a; intro a h
                      refine st_lenS h rfl Tryd.underlying43 rfl ?_; clear h a; intro a h
                      refine st_sub h rfl rfl (by first | exact IntWalk.i64_in _ (by omega) | rfl) rfl ?_; clear h a; intro a h
                      refine st_idx (p := ps.length + 1) (e := u) h rfl rfl hO.sl el43 (by omega) (by omega) (top_get (by simp)) rfl ?_; clear h a; intro ad cc a h
                      refine st_loadC0 (v := slv u) h rfl cc na22 rfl ?_; clear h a; intro a h
                      refine st_assign h rfl rfl ?_; clear h a; intro a h
                      replace h : Ag a 199 [(0, _), (4, _), (5, _), (6, _), (8, _), (9, _)] := h.sub (.cons rfl (.cons rfl (.cons rfl (.cons rfl (.cons rfl (.cons rfl .nil))))))
                      refine wpList_nil (norm_then ?_)
                      refine wp_seq ?_
                      refine wp_region_lit ?_
                      refine st_move h rfl rfl ?_; clear h a; intro a h
                      refine st_move h rfl rfl ?_; clear h a; intro a h
                      refine st_lenS h rfl Tryd.underlying43 rfl ?_; clear h a; intro a h
                      refine st_sub h rfl rfl (by first | exact IntWalk.i64_in _ (by omega) | rfl) rfl ?_; clear h a; intro a h
                      refine st_sl_h (p := ps.length + 1) h rfl rfl el43 (by omega) (by omega) (by omega) rfl ?_; clear h a; intro a h
                      replace hO := Own.pop hO (m := ps.length + 1) (by simp)
                      replace hI := hI.swap
                      refine st_assign h rfl rfl ?_; clear h a; intro a h
                      replace h : Ag a 199 [(0, _), (4, _), (5, _), (6, _), (8, _), (9, _)] := h.sub (.cons rfl (.cons rfl (.cons rfl (.cons rfl (.cons rfl (.cons rfl .nil))))))
                      refine wpList_nil (norm_then ?_)
                      refine wp_seq ?_
                      refine wp_region_lit ?_
                      refine st_move h rfl rfl ?_; clear h a; intro a h
                      refine st_move h rfl rfl ?_; clear h a; intro a h
                      refine st_lenS h rfl Tryd.underlying43 rfl ?_; clear h a; intro a h
                      refine st_sub h rfl rfl (by first | exact IntWalk.i64_in _ (by omega) | rfl) rfl ?_; clear h a; intro a h
                      refine st_idx (p := ps.length) (e := v) h rfl rfl hO.sl el43 (by omega) (by omega) (top_get (rfl)) rfl ?_; clear h a; intro ad cc a h
                      refine st_loadC0 (v := slv v) h rfl cc na22 rfl ?_; clear h a; intro a h
                      refine st_assign h rfl rfl ?_; clear h a; intro a h
                      replace h : Ag a 199 [(0, _), (4, _), (5, _), (6, _), (8, _), (9, _), (10, _)] := h.sub (.cons rfl (.cons rfl (.cons rfl (.cons rfl (.cons rfl (.cons rfl (.cons rfl .nil)))))))
                      refine wpList_nil (norm_then ?_)
                      refine wp_seq ?_
                      refine wp_seq ?_
                      refine wp_region_lit ?_
                      refine st_assign h rfl rfl ?_; clear h a; intro a h
                      refine wpList_nil (norm_then ?_)
                      refine wp_block ?_
                      refine loop (ι := Nat × SV) (fun z => [(0, S l), (4, .slice (some ⟨g, 0, none⟩) (ps.length + 1) c), (5, .int .i64 (k : Int)), (6, .bool false), (8, .int .i64 (n : Int)), (9, slv u), (10, slv z.2), (11, .int .i64 (z.1 : Int))]) (fun z w' => z.1 ≤ n ∧ (s ++ timesS t z.1).length ≤ 33 ∧ Own Enc.sl 22 w0.heap.size w' (.slice (some ⟨g, 0, none⟩) (ps.length + 1) c) ((ps ++ [(v, s)]).map Prod.fst) ∧ Ins encSt 36 w0.heap.size w' [g] (ps ++ [(u, t)] ++ [(z.2, s ++ timesS t z.1)]) ∧ Sym w' ∧ Fr [] w0 w') (fun z => n - z.1) (0, v) (h.sub (.cons rfl (.cons rfl (.cons rfl (.cons rfl (.cons rfl (.cons rfl (.cons rfl (.cons rfl .nil))))))))) ⟨Nat.zero_le _, by rw [show timesS t 0 = [] from rfl, List.append_nil]; omega, hO, by rw [show timesS t 0 = [] from rfl, List.append_nil]; exact hI, hy, hf⟩ ?_
                      clear h a hO hI hy hf
                      rintro ⟨j, v1⟩ w4 a h ⟨hjn, h33, hO, hI, hy, hf⟩
                      simp only at hjn h33 hI h
                      have hvl := Own.lens hI.last
                      refine wp_seq ?_
                      refine wp_seq ?_
                      refine region_bool (r := 110) (L' := [(0, _), (4, _), (5, _), (6, _), (8, _), (9, _), (10, _), (11, _)]) (j < n ∧ (s ++ timesS t j).length < 17) h (.cons rfl (.cons rfl (.cons rfl (.cons rfl (.cons rfl (.cons rfl (.cons rfl (.cons rfl .nil)))))))) ?_ ?_
                      · refine id ?_
                        refine st_move h rfl rfl ?_; clear h a; intro a h
                        refine st_move h rfl rfl ?_; clear h a; intro a h
                        refine st_lt h rfl rfl rfl ?_; clear h a; intro a h
                        refine st_move h rfl rfl ?_; clear h a; intro a h
                        first | refine guard_dec (D := 106) h rfl ?_ ?_ | refine guard_ndec (D := 106) h rfl ?_ ?_ | refine guard_any (D := 106) h rfl ?_ ?_
                        · clear h; intro g6 h
                          refine gd_yes h rfl rfl rfl rfl rfl rfl ?_
                          refine st_move h rfl rfl ?_; clear h a; intro a h
                          refine gd_yes h rfl rfl rfl rfl rfl rfl ?_
                          refine st_lenS h rfl Tryd.underlying22 rfl ?_; clear h a; intro a h
                          refine gd_yes h rfl rfl rfl rfl rfl rfl ?_
                          refine st_lt h rfl rfl rfl ?_; clear h a; intro a h
                          refine st_pick_t h rfl rfl rfl rfl ?_; clear h a; intro a h
                          exact wpList_nil (bool_end h rfl (by first | exact bt (by omega) | exact bf (by omega) | exact bi (by omega) | exact bn (by omega)) (.cons rfl (.cons rfl (.cons rfl (.cons rfl (.cons rfl (.cons rfl (.cons rfl (.cons rfl .nil)))))))))
                        · clear h; intro g6 h
                          refine gd_no h rfl rfl rfl rfl rfl rfl rfl rfl ?_; clear h a; intro a h
                          refine gd_no h rfl rfl rfl rfl rfl rfl rfl rfl ?_; clear h a; intro a h
                          refine gd_no h rfl rfl rfl rfl rfl rfl rfl rfl ?_; clear h a; intro a h
                          refine st_pick_f h rfl rfl rfl rfl ?_; clear h a; intro a h
                          exact wpList_nil (bool_end h rfl (by first | exact bt (by omega) | exact bf (by omega) | exact bi (by omega) | exact bn (by omega)) (.cons rfl (.cons rfl (.cons rfl (.cons rfl (.cons rfl (.cons rfl (.cons rfl (.cons rfl .nil)))))))))
                      · clear h a; intro a h
                        refine (norm_then ?_)
                        first | refine cond_dec h rfl (fun c7 => ?_) (fun c7 => ?_) | refine cond_ndec h rfl (fun c7 => ?_) (fun c7 => ?_) | refine cond_split h rfl (fun c7 => ?_) (fun c7 => ?_)
                        · refine id ?_
                          refine wp_skip (norm_then ?_)
                          refine wp_seq ?_
                          refine wp_block ?_
                          refine wp_region_lit ?_
                          refine st_move h rfl rfl ?_; clear h a; intro a h
                          refine st_move h rfl rfl ?_; clear h a; intro a h
                          have htk : (timesS t j).length ≤ 16 * 17 := by rw [times_len]; exact Nat.mul_le_mul (by omega) ht17
                          have hgw : ∀ k ∈ [g], k < w4.heap.size := fun k hk => by simp at hk; subst hk; exact (hO.blk _ (by simp [blks])).2
                          refine st_append h rfl rfl hI.last hI.left.last.sl el22 (by unfold maxLen; omega) (by omega) (by have := hf.size; omega) rfl ?_; clear h a; intro v3 w5 ho3 hq hx3 a h
                          have hbl := hI.last.blk
                          replace hO := hO.fr hq (fun k hk hk2 => hI.lastOff k hk (by simpa [blks] using hk2))
                          replace hy := hy.fr hq (fun hb => by have := (hbl _ hb).1; omega)
                          replace hf := hf.step hq (fun k hk hlt => absurd (hbl k hk).1 (by omega))
                          obtain ⟨u3, rfl, hI3⟩ := Ins.app hI ho3 hq hx3 hgw
                          rw [show s ++ timesS t j ++ t = s ++ timesS t (j + 1) by rw [times_succ, List.append_assoc]] at hI3
                          clear hI hq hx3 ho3 hbl hgw; have hI := hI3; clear hI3
                          refine st_assign h rfl rfl ?_; clear h a; intro a h
                          replace h : Ag a 199 [(0, _), (4, _), (5, _), (6, _), (8, _), (9, _), (10, _), (11, _)] := h.sub (.cons rfl (.cons rfl (.cons rfl (.cons rfl (.cons rfl (.cons rfl (.cons rfl (.cons rfl .nil))))))))
                          refine wpList_nil (norm_blk (norm_then ?_))
                          refine wp_region_lit ?_
                          refine st_move h rfl rfl ?_; clear h a; intro a h
                          refine st_add h rfl rfl (by first | exact IntWalk.i64_in _ (by omega) | rfl) rfl ?_; clear h a; intro a h
                          refine st_assign h rfl rfl ?_; clear h a; intro a h
                          replace h : Ag a 199 [(0, _), (4, _), (5, _), (6, _), (8, _), (9, _), (10, _), (11, _)] := h.sub (.cons rfl (.cons rfl (.cons rfl (.cons rfl (.cons rfl (.cons rfl (.cons rfl (.cons rfl .nil))))))))
                          refine wpList_nil (norm_then ?_)
                          exact ⟨(j + 1, u3), h.sub (.cons rfl (.cons rfl (.cons rfl (.cons rfl (.cons rfl (.cons rfl (.cons rfl (.cons rfl .nil)))))))), ⟨by simp only; omega, by simp only; rw [times_succ, ← List.append_assoc, List.length_append]; omega, hO, hI, hy, hf⟩, by simp only; omega⟩
                        · refine id ?_
                          refine wp_exit (exit_then (exit_then (exit_here (norm_then ?_))))
                          refine wp_seq ?_
                          refine wp_region_lit ?_
                          refine st_move h rfl rfl ?_; clear h a; intro a h
                          refine st_move h rfl rfl ?_; clear h a; intro a h
                          refine st_lenS h rfl Tryd.underlying43 rfl ?_; clear h a; intro a h
                          refine st_sub h rfl rfl (by first | exact IntWalk.i64_in _ (by omega) | rfl) rfl ?_; clear h a; intro a h
                          refine st_move h rfl rfl ?_; clear h a; intro a h
                          refine st_move h rfl rfl ?_; clear h a; intro a h
                          refine st_lenS h rfl Tryd.underlying22 rfl ?_; clear h a; intro a h
                          refine st_min h rfl rfl rfl ?_; clear h a; intro a h
                          refine st_sl_h (p := min (s ++ timesS t j).length 17) h rfl rfl el22 (by omega) (by omega) (by omega) rfl ?_; clear h a; intro a h
                          refine st_idxS (p := ps.length) h rfl rfl el43 (by omega) (by omega) (by omega) rfl ?_; clear h a; intro a h
                          refine st_storeO (v1.1, min (s ++ timesS t j).length 17, v1.2.2) h rfl rfl hO (by simp) rfl sz22 ?_; clear h a; intro w6 hO2 hq hz a h
                          replace hO := Own.reTop hO2 rfl ((s ++ timesS t j).take 17)
                          replace hI := ((hI.cut (u := v1) (A := v1.1) (n := v1.2.1) (c := v1.2.2) (c' := v1.2.2) rfl (m := min (s ++ timesS t j).length 17) (by omega) (Nat.le_refl _) (by omega)).swap).left
                          rw [take_min] at hI
                          replace hI := hI.fr hq (fun k hk q hq2 hk2 => hI.off q hq2 k hk2 hk)
                          replace hy := hy.fr hq (by simp; omega)
                          replace hf := hf.step hq (by simp; omega)
                          clear hq hz hO2
                          replace h : Ag a 199 [(0, _), (4, _), (5, _), (6, _)] := h.sub (.cons rfl (.cons rfl (.cons rfl (.cons rfl .nil))))
                          refine wpList_nil (norm_then ?_)
                          refine wp_exit (exit_then (exit_here (norm_then ?_)))
                          exact ⟨⟨ps, _, (s ++ timesS t j).take 17, k, false, g, c⟩, h.sub (.cons rfl (.cons rfl (.cons rfl (.cons rfl .nil)))), ⟨hO, hI, by simp only; omega, by simp only; omega, fun q hq => hb17 q (by simp [hq]), by simp; omega, fun R m => hM R (by rw [List.map_append]; exact m_close hends hn0 (by rw [hke, hn, Int.toNat_natCast, rep_cut hjn c7]; exact m)), hy, hf⟩, by simp only; omega⟩
        · obtain rfl : it = true := by simpa using c2
          refine wp_skip (norm_then ?_)
          refine wp_seq ?_
          refine wp_seq ?_
          refine wp_region_lit ?_
          refine st_move h rfl rfl ?_; clear h a; intro a h
          refine st_move h rfl rfl ?_; clear h a; intro a h
          refine st_len h rfl Tryd.underlying9 rfl ?_; clear h a; intro a h
          refine st_ge h rfl rfl rfl ?_; clear h a; intro a h
          replace h : Ag a 199 [(0, _), (4, _), (5, _), (6, _), (129, _)] := h.sub (.cons rfl (.cons rfl (.cons rfl (.cons rfl (.cons rfl .nil)))))
          refine wpList_nil (norm_then ?_)
          first | refine cond_dec h rfl (fun c8 => ?_) (fun c8 => ?_) | refine cond_ndec h rfl (fun c8 => ?_) (fun c8 => ?_) | refine cond_split h rfl (fun c8 => ?_) (fun c8 => ?_)
          · refine id ?_
            refine wp_seq ?_
            refine wp_region_lit ?_
            refine st_assign h rfl rfl ?_; clear h a; intro a h
            refine st_assign h rfl rfl ?_; clear h a; intro a h
            replace h : Ag a 199 [(2, _), (3, _)] := h.sub (.cons rfl (.cons rfl .nil))
            refine wpList_nil (norm_then ?_)
            refine wp_ret (ret_then (ret_blk (ret_then (ret_blk (ret_then ?_)))))
            refine ret2 h Tryd.results11 rfl rfl ?_
            exact ⟨_, rfl, _, ([], 4), rfl, fun _ => hM _ (m_end (by omega)), (fun e => by omega), Sl.nil _, hf⟩
          · refine id ?_
            refine wp_skip (norm_then ?_)
            refine wp_seq ?_
            refine wp_seq ?_
            refine wp_region_lit ?_
            refine st_move h rfl rfl ?_; clear h a; intro a h
            refine st_move h rfl rfl ?_; clear h a; intro a h
            refine st_index (p := p) h rfl rfl Tryd.underlying9 (by omega) (by omega) (by omega) rfl ?_; clear h a; intro hy132 a h
            refine st_eq h rfl rfl rfl ?_; clear h a; intro a h
            replace h : Ag a 199 [(0, _), (4, _), (5, _), (6, _), (133, _)] := h.sub (.cons rfl (.cons rfl (.cons rfl (.cons rfl (.cons rfl .nil)))))
            refine wpList_nil (norm_then ?_)
            first | refine cond_dec h rfl (fun c9 => ?_) (fun c9 => ?_) | refine cond_ndec h rfl (fun c9 => ?_) (fun c9 => ?_) | refine cond_split h rfl (fun c9 => ?_) (fun c9 => ?_)
            · refine id ?_
              refine wp_seq ?_
              refine wp_region_lit ?_
              refine st_move h rfl rfl ?_; clear h a; intro a h
              refine st_bslice [((none, 0, 0) : SV)] h (evs_cons rfl evs_nil) rfl rfl rfl el43 (by decide) rfl ?_; clear h a; intro gN w7 hg hoN hq hz a h
              replace hf := hf.next hq
              replace hy := hy.ext hq
              replace hO := hO.ext hq
              replace hI := hI.ext hq
              clear hq hz hg
              have hbO := hO.blk
              refine st_append h rfl rfl hO hoN.sl el43 (by unfold maxLen; simp; omega) (by simp; omega) (by have := hf.size; omega) rfl ?_; clear h a; intro v3 w9 ho3 hq hx3 a h
              obtain ⟨g3, cp3, rfl, hg3, hc3, hs3⟩ := Own.at_ ho3 (by simp)
              rw [show (((ps ++ [(u, t)]).map Prod.fst) ++ [((none, 0, 0) : SV)]).length = (ps ++ [(u, t)]).length + 1 by simp] at h ho3 hx3
              replace hI := (Ins.grow hI hq hx3).pushNil
              replace hy := hy.fr hq (fun hb => by have := (hbO _ hb).1; omega)
              replace hf := hf.step hq (fun k hk hlt => absurd (hbO k hk).1 (by omega))
              replace hO := ho3
              clear hq hx3 hoN ho3 hbO
              refine st_assign h rfl rfl ?_; clear h a; intro a h
              replace h : Ag a 199 [(0, _), (4, _), (5, _), (6, _)] := h.sub (.cons rfl (.cons rfl (.cons rfl (.cons rfl .nil))))
              refine wpList_nil (norm_then ?_)
              refine wp_seq ?_
              refine wp_region_lit ?_
              refine st_move h rfl rfl ?_; clear h a; intro a h
              refine st_add h rfl rfl (by first | exact IntWalk.i64_in _ (by omega) | rfl) rfl ?_; clear h a; intro a h
              refine st_assign h rfl rfl ?_; clear h a; intro a h
              replace h : Ag a 199 [(0, _), (4, _), (5, _), (6, _)] := h.sub (.cons rfl (.cons rfl (.cons rfl (.cons rfl .nil))))
              refine wpList_nil (norm_then ?_)
              refine wp_exit (exit_then (exit_here (norm_then ?_)))
              exact ⟨⟨ps ++ [(u, t)], (none, 0, 0), [], p + 1, true, g3, cp3⟩, h.sub (.cons rfl (.cons rfl (.cons rfl (.cons rfl .nil)))), ⟨by simpa using hO, hI, by simp only; omega, by simp; omega, fun q hq => by simp at hq; rcases hq with hq | rfl; exact hb17 q hq; exact ht17, by simp, fun R m => hM R (m_open (by omega) (byte_eq.1 c9) (by simpa using m)), hy, hf⟩, by simp only; omega⟩
            · refine id ?_
              refine wp_skip (norm_then ?_)
              refine wp_seq ?_
              refine wp_region_lit ?_
              refine st_move h rfl rfl ?_; clear h a; intro a h
              refine st_assign h rfl rfl ?_; clear h a; intro a h
              replace h : Ag a 199 [(0, _), (4, _), (5, _), (12, _)] := h.sub (.cons rfl (.cons rfl (.cons rfl (.cons rfl .nil))))
              refine wpList_nil (norm_then ?_)
              refine wp_seq ?_
              refine wp_block ?_
              refine loop (ι := Nat) (fun k => [(0, S l), (4, .slice (some ⟨g, 0, none⟩) (ps.length + 1) c), (12, .int .i64 (p : Int)), (5, .int .i64 (k : Int))]) (fun k w' => p ≤ k ∧ k ≤ l.length ∧ wordEnd l k = wordEnd l (p) ∧ Own Enc.sl 22 w0.heap.size w' (.slice (some ⟨g, 0, none⟩) (ps.length + 1) c) ((ps ++ [(u, t)]).map Prod.fst) ∧ Ins encSt 36 w0.heap.size w' [g] (ps ++ [(u, t)]) ∧ Sym w' ∧ Fr [] w0 w') (fun k => l.length - k) (p) (h.sub (.cons rfl (.cons rfl (.cons rfl (.cons rfl .nil))))) ⟨Nat.le_refl _, by omega, rfl, hO, hI, hy, hf⟩ ?_
              clear h a hO hI hy hf
              rintro k w10 a h ⟨hpk, hkl, hwe, hO, hI, hy, hf⟩
              refine wp_seq ?_
              refine wp_seq ?_
              refine region_bool (r := 155) (L' := [(0, _), (4, _), (5, _), (12, _)]) (k < l.length ∧ ((l.getD k 0).toNat : Int) ≠ 32 ∧ ((l.getD k 0).toNat : Int) ≠ 93) h (.cons rfl (.cons rfl (.cons rfl (.cons rfl .nil)))) ?_ ?_
              · refine id ?_
                refine st_move h rfl rfl ?_; clear h a; intro a h
                refine st_move h rfl rfl ?_; clear h a; intro a h
                refine st_len h rfl Tryd.underlying9 rfl ?_; clear h a; intro a h
                refine st_lt h rfl rfl rfl ?_; clear h a; intro a h
                refine st_move h rfl rfl ?_; clear h a; intro a h
                first | refine guard_dec (D := 144) h rfl ?_ ?_ | refine guard_ndec (D := 144) h rfl ?_ ?_ | refine guard_any (D := 144) h rfl ?_ ?_
                · clear h; intro g7 h
                  refine gd_yes h rfl rfl rfl rfl rfl rfl ?_
                  refine st_move h rfl rfl ?_; clear h a; intro a h
                  refine gd_yes h rfl rfl rfl rfl rfl rfl ?_
                  refine st_move h rfl rfl ?_; clear h a; intro a h
                  refine gd_yes h rfl rfl rfl rfl rfl rfl ?_
                  refine st_index (p := k) h rfl rfl Tryd.underlying9 (by omega) (by omega) (by omega) rfl ?_; clear h a; intro hy147 a h
                  refine gd_yes h rfl rfl rfl rfl rfl rfl ?_
                  refine st_ne h rfl rfl rfl ?_; clear h a; intro a h
                  refine st_pick_t h rfl rfl rfl rfl ?_; clear h a; intro a h
                  refine st_move h rfl rfl ?_; clear h a; intro a h
                  first | refine guard_dec (D := 150) h rfl ?_ ?_ | refine guard_ndec (D := 150) h rfl ?_ ?_ | refine guard_any (D := 150) h rfl ?_ ?_
                  · clear h; intro g8 h
                    refine gd_yes h rfl rfl rfl rfl rfl rfl ?_
                    refine st_move h rfl rfl ?_; clear h a; intro a h
                    refine gd_yes h rfl rfl rfl rfl rfl rfl ?_
                    refine st_move h rfl rfl ?_; clear h a; intro a h
                    refine gd_yes h rfl rfl rfl rfl rfl rfl ?_
                    refine st_index (p := k) h rfl rfl Tryd.underlying9 (by omega) (by omega) (by omega) rfl ?_; clear h a; intro hy153 a h
                    refine gd_yes h rfl rfl rfl rfl rfl rfl ?_
                    refine st_ne h rfl rfl rfl ?_; clear h a; intro a h
                    refine st_pick_t h rfl rfl rfl rfl ?_; clear h a; intro a h
                    exact wpList_nil (bool_end h rfl (by first | exact bt (by omega) | exact bf (by omega) | exact bi (by omega) | exact bn (by omega)) (.cons rfl (.cons rfl (.cons rfl (.cons rfl .nil)))))
                  · clear h; intro g8 h
                    refine gd_no h rfl rfl rfl rfl rfl rfl rfl rfl ?_; clear h a; intro a h
                    refine gd_no h rfl rfl rfl rfl rfl rfl rfl rfl ?_; clear h a; intro a h
                    refine gd_no h rfl rfl rfl rfl rfl rfl rfl rfl ?_; clear h a; intro a h
                    refine gd_no h rfl rfl rfl rfl rfl rfl rfl rfl ?_; clear h a; intro a h
                    refine st_pick_f h rfl rfl rfl rfl ?_; clear h a; intro a h
                    exact wpList_nil (bool_end h rfl (by first | exact bt (by omega) | exact bf (by omega) | exact bi (by omega) | exact bn (by omega)) (.cons rfl (.cons rfl (.cons rfl (.cons rfl .nil)))))
                · clear h; intro g7 h
                  refine gd_no h rfl rfl rfl rfl rfl rfl rfl rfl ?_; clear h a; intro a h
                  refine gd_no h rfl rfl rfl rfl rfl rfl rfl rfl ?_; clear h a; intro a h
                  refine gd_no h rfl rfl rfl rfl rfl rfl rfl rfl ?_; clear h a; intro a h
                  refine gd_no h rfl rfl rfl rfl rfl rfl rfl rfl ?_; clear h a; intro a h
                  refine st_pick_f h rfl rfl rfl rfl ?_; clear h a; intro a h
                  refine st_move h rfl rfl ?_; clear h a; intro a h
                  refine gd_no h rfl rfl rfl rfl rfl rfl rfl rfl ?_; clear h a; intro a h
                  refine gd_no h rfl rfl rfl rfl rfl rfl rfl rfl ?_; clear h a; intro a h
                  refine gd_no h rfl rfl rfl rfl rfl rfl rfl rfl ?_; clear h a; intro a h
                  refine gd_no h rfl rfl rfl rfl rfl rfl rfl rfl ?_; clear h a; intro a h
                  refine st_pick_f h rfl rfl rfl rfl ?_; clear h a; intro a h
                  exact wpList_nil (bool_end h rfl (by first | exact bt (by omega) | exact bf (by omega) | exact bi (by omega) | exact bn (by omega)) (.cons rfl (.cons rfl (.cons rfl (.cons rfl .nil)))))
              · clear h a; intro a h
                refine (norm_then ?_)
                first | refine cond_dec h rfl (fun c10 => ?_) (fun c10 => ?_) | refine cond_ndec h rfl (fun c10 => ?_) (fun c10 => ?_) | refine cond_split h rfl (fun c10 => ?_) (fun c10 => ?_)
                · have c10' : k < l.length ∧ l.getD k 0 ≠ 32 ∧ l.getD k 0 ≠ 93 := ⟨c10.1, fun e => c10.2.1 (by rw [e]; rfl), fun e => c10.2.2 (by rw [e]; rfl)⟩
                  refine wp_skip (norm_then ?_)
                  refine wp_block ?_
                  refine wp_region_lit ?_
                  refine st_move h rfl rfl ?_; clear h a; intro a h
                  refine st_add h rfl rfl (by first | exact IntWalk.i64_in _ (by omega) | rfl) rfl ?_; clear h a; intro a h
                  refine st_assign h rfl rfl ?_; clear h a; intro a h
                  replace h : Ag a 199 [(0, _), (4, _), (5, _), (12, _)] := h.sub (.cons rfl (.cons rfl (.cons rfl (.cons rfl .nil))))
                  refine wpList_nil (norm_blk (norm_then ?_))
                  exact ⟨k + 1, h.sub (.cons rfl (.cons rfl (.cons rfl (.cons rfl .nil)))), ⟨by omega, by omega, by rw [← hwe, wordEnd_next c10'], hO, hI, hy, hf⟩, by omega⟩
                · have hke : wordEnd l (p) = k := by
                    rw [← hwe]; exact wordEnd_here (fun e => c10 ⟨e.1, fun h => e.2.1 (byte_eq.1 h), fun h => e.2.2 (byte_eq.1 h)⟩)
                  have hwd : (l.take k).drop (p) = wordS l (p) := by rw [wordS, hke]
                  clear hwe
                  refine wp_exit (exit_then (exit_then (exit_here (norm_then ?_))))
                  refine wp_seq ?_
                  refine wp_region_lit ?_
                  refine st_move h rfl rfl ?_; clear h a; intro a h
                  refine st_move h rfl rfl ?_; clear h a; intro a h
                  refine st_move h rfl rfl ?_; clear h a; intro a h
                  refine st_ss_lh (p := p) (p' := k) h rfl rfl rfl Tryd.underlying9 (by omega) (by omega) (by omega) (by omega) (by omega) rfl ?_; clear h a; intro a h
                  refine st_call h (evs_cons rfl evs_nil) co28 (parse_ok _ _ hy) rfl ?_; clear h a; rintro _ w11 ⟨rfl, hq⟩ a h
                  replace hf := hf.next hq
                  replace hy := hy.ext hq
                  replace hO := hO.ext hq
                  replace hI := hI.ext hq
                  clear hq
                  rw [hwd] at h
                  refine st_move h rfl rfl ?_; clear h a; intro a h
                  refine st_extract h rfl rfl rfl ?_; clear h a; intro a h
                  refine st_extract h rfl rfl rfl ?_; clear h a; intro a h
                  refine st_alloc h zv36 rfl rfl ?_; clear h a; intro w12 hb13 hq hz a h
                  obtain ⟨g_13, hg⟩ : ∃ g, g = w11.heap.size := ⟨_, rfl⟩; rw [← hg] at hb13 h hz
                  have hl13 : w0.heap.size ≤ g_13 := by have := hf.size; omega
                  have hg13 : g < g_13 := by have := (hO.blk g (by simp [blks])).2; omega
                  have hI13 : ∀ q ∈ ps ++ [(u, t)], g_13 ∉ blks (slv q.1) := fun q hq2 hk => by have := (hI.blk q hq2 _ hk).2; omega
                  replace hf := hf.next hq
                  replace hy := hy.ext hq
                  replace hO := hO.ext hq
                  replace hI := hI.ext hq
                  clear hq hz hg
                  refine st_storeBA h rfl rfl hb13 rfl (by first | (simp [Value.oneCell', S]; done) | exact Enc.one _ _) sz36 ?_; clear h a; intro w13 hbn hq hz a h
                  replace hf := hf.step hq (by first | (simp; done) | (simp; omega))
                  replace hy := hy.fr hq (by first | (simp; done) | (simp; omega) | (simp [blks]; done) | (simp [blks]; omega))
                  replace hO := hO.fr hq (by simp [blks]; omega)
                  replace hI := hI.fr hq (fun k hk q hq2 hk2 => by simp at hk; subst hk; exact hI13 q hq2 hk2)
                  clear hb13 hq hz; have hb13 : Blk w13 g_13 _ [_, _, _, _, _] := hbn; clear hbn
                  refine st_assign h rfl rfl ?_; clear h a; intro a h
                  replace h : Ag a 199 [(0, _), (4, _), (5, _), (13, _), (14, _)] := h.sub (.cons rfl (.cons rfl (.cons rfl (.cons rfl (.cons rfl .nil)))))
                  refine wpList_nil (norm_then ?_)
                  refine wp_seq ?_
                  refine wp_seq ?_
                  refine wp_region_lit ?_
                  refine st_move h rfl rfl ?_; clear h a; intro a h
                  refine st_ne h rfl rfl rfl ?_; clear h a; intro a h
                  replace h : Ag a 199 [(0, _), (4, _), (5, _), (13, _), (167, _)] := h.sub (.cons rfl (.cons rfl (.cons rfl (.cons rfl (.cons rfl .nil)))))
                  refine wpList_nil (norm_then ?_)
                  first | refine cond_dec h rfl (fun c11 => ?_) (fun c11 => ?_) | refine cond_ndec h rfl (fun c11 => ?_) (fun c11 => ?_) | refine cond_split h rfl (fun c11 => ?_) (fun c11 => ?_)
                  · refine id ?_
                    refine wp_seq ?_
                    refine wp_region_lit ?_
                    refine st_assign h rfl rfl ?_; clear h a; intro a h
                    refine st_assign h rfl rfl ?_; clear h a; intro a h
                    replace h : Ag a 199 [(2, _), (3, _)] := h.sub (.cons rfl (.cons rfl .nil))
                    refine wpList_nil (norm_then ?_)
                    refine wp_ret (ret_then (ret_blk (ret_then (ret_blk (ret_then ?_)))))
                    refine ret2 h Tryd.results11 rfl rfl ?_
                    exact ⟨_, rfl, _, ([], 4), rfl, fun _ => hM _ (m_leaf4 (by omega) (fun e => c9 (by rw [e]; rfl)) c11), (fun e => by omega), Sl.nil _, hf⟩
                  · have hx0 : (parseS (wordS l p)).2 = 0 := by omega
                    have hpk' := word_pos hpl hx0
                    rw [hke] at hpk'
                    refine wp_skip (norm_then ?_)
                    refine wp_seq ?_
                    refine wp_seq ?_
                    refine wp_region_lit ?_
                    refine st_move h rfl rfl ?_; clear h a; intro a h
                    refine st_move h rfl rfl ?_; clear h a; intro a h
                    refine st_lenS h rfl Tryd.underlying43 rfl ?_; clear h a; intro a h
                    refine st_sub h rfl rfl (by first | exact IntWalk.i64_in _ (by omega) | rfl) rfl ?_; clear h a; intro a h
                    refine st_idx (p := ps.length) (e := u) h rfl rfl hO.sl el43 (by omega) (by omega) (top_get (rfl)) rfl ?_; clear h a; intro ad cc a h
                    refine st_loadC0 (v := slv u) h rfl cc na22 rfl ?_; clear h a; intro a h
                    have hul := Own.lens hI.last
                    refine st_assign h rfl rfl ?_; clear h a; intro a h
                    replace h : Ag a 199 [(0, _), (4, _), (5, _), (13, _), (15, _)] := h.sub (.cons rfl (.cons rfl (.cons rfl (.cons rfl (.cons rfl .nil)))))
                    refine wpList_nil (norm_then ?_)
                    refine wp_seq ?_
                    refine wp_region_lit ?_
                    refine st_move h rfl rfl ?_; clear h a; intro a h
                    refine st_lenS h rfl Tryd.underlying22 rfl ?_; clear h a; intro a h
                    refine st_lt h rfl rfl rfl ?_; clear h a; intro a h
                    replace h : Ag a 199 [(0, _), (4, _), (5, _), (13, _), (15, _), (176, _)] := h.sub (.cons rfl (.cons rfl (.cons rfl (.cons rfl (.cons rfl (.cons rfl .nil))))))
                    refine wpList_nil (norm_then ?_)
                    first | refine cond_dec h rfl (fun c12 => ?_) (fun c12 => ?_) | refine cond_ndec h rfl (fun c12 => ?_) (fun c12 => ?_) | refine cond_split h rfl (fun c12 => ?_) (fun c12 => ?_)
                    · refine id ?_
                      refine region_held (fun wb w' => Fr [g] wb w') hmix ?_; intro w14 hq
                      replace hf := hf.next hq
                      replace hy := hy.ext hq
                      replace hO := hO.ext hq
                      replace hI := hI.ext hq
                      replace hb13 := hb13.ext hq
                      clear hq; have hC : Fr [g] w14 w14 := Fr.refl _ _
                      have hy_b := hy
                      have hO_b := hO
                      have hI_b := hI
                      have hb13_b := hb13
                      refine hd_move 0 (by kernel_rfl) (by kernel_rfl) (by kernel_rfl) hC h rfl rfl rfl ?_; clear h a; intro a h
                      refine hd_move 1 (by kernel_rfl) (by kernel_rfl) (by kernel_rfl) hC h rfl rfl rfl ?_; clear h a; intro a h
                      refine hd_lenS 2 (by kernel_rfl) (by kernel_rfl) (by kernel_rfl) hC h rfl Tryd.underlying43 rfl rfl ?_; clear h a; intro a h
                      refine hd_sub 3 (by kernel_rfl) (by kernel_rfl) (by kernel_rfl) hC h rfl rfl (by first | exact IntWalk.i64_in _ (by omega) | rfl) rfl rfl ?_; clear h a; intro a h
                      refine hd_move 5 (by kernel_rfl) (by kernel_rfl) (by kernel_rfl) hC h rfl rfl rfl ?_; clear h a; intro a h
                      refine hd_loadBA 7 (by kernel_rfl) (by kernel_rfl) (by kernel_rfl) hC h rfl (fun _ hw => hb13_b.fr hw (by simp; omega)) ag36 rfl rfl ?_; clear h a; intro a h
                      refine hd_two 4 8 (by kernel_rfl) rfl rfl ?_ ?_
                      · refine id ?_
                        refine st_bslice ([] : List Stitch) h evs_nil rfl rfl rfl el22 (by decide) rfl ?_; clear h a; intro gE w15 hg hoE hq hz a h
                        have hgE : g < gE := by have := (hO.blk g (by simp [blks])).2; omega
                        have hE13 : g_13 < gE := by have := hb13.lt; omega
                        have hwE : w0.heap.size ≤ gE := by have := hf.size; omega
                        have hCE := Nat.le_trans hC.size (Nat.le_of_eq hg.symm)
                        have hIE : ∀ q ∈ ps ++ [(u, t)], ∀ k ∈ blks (slv q.1), k < gE := fun q hq2 k hk => by have := (hI.blk q hq2 k hk).2; omega
                        replace hf := hf.next hq
                        replace hy := hy.ext hq
                        replace hO := hO.ext hq
                        replace hI := hI.ext hq
                        replace hb13 := hb13.ext hq
                        replace hC := hC.next hq
                        clear hq hz hg
                        refine hd_next hC ?_
                        refine hd_two 6 8 (by kernel_rfl) rfl rfl ?_ ?_
                        · refine id ?_
                          refine st_append h rfl rfl hoE hI.last.sl el22 (by unfold maxLen; simp; omega) (by simp; omega) (by have := (hoE.blk gE (by simp [blks])).2; omega) rfl ?_; clear h a; intro v6 w16 ho6 hq hx6 a h
                          replace hf := hf.step hq (fun k hk hlt => by simp [blks] at hk; omega)
                          replace hy := hy.fr hq (by simp [blks]; omega)
                          replace hO := hO.fr hq (by simp [blks]; omega)
                          replace hI := hI.fr hq (fun k hk q hq2 hk2 => by simp [blks] at hk; have := hIE q hq2 k hk2; omega)
                          replace hb13 := hb13.fr hq (by simp [blks]; omega)
                          replace hC := hC.step hq (fun k hk hlt => by simp [blks] at hk; omega)
                          have hEs := Nat.le_trans (Nat.le_of_lt (hoE.blk gE (by simp [blks])).2) hq.size
                          clear hq hx6 hoE
                          refine hd_next hC ?_
                          refine hd_one 8 (by kernel_rfl) rfl ?_
                          refine st_bslice [(parseS (wordS l p)).1] h (evs_cons rfl evs_nil) rfl rfl rfl el22 (by decide) rfl ?_; clear h a; intro gX w17 hg hoX hq hz a h
                          replace hEs := Nat.le_trans hEs hq.size
                          have h6X : ∀ k ∈ blks v6, k ≠ gX := fun k hk => by have := (ho6.blk k hk).2; omega
                          replace hf := hf.next hq
                          replace hy := hy.ext hq
                          replace hO := hO.ext hq
                          replace hI := hI.ext hq
                          replace hb13 := hb13.ext hq
                          replace hC := hC.next hq
                          replace ho6 := ho6.ext hq
                          clear hq hz hg
                          refine hd_next hC ?_
                          refine hd_one 9 (by kernel_rfl) rfl ?_
                          refine st_append h rfl rfl ho6 hoX.sl el22 (by unfold maxLen; simp; omega) (by simp; omega) hEs rfl ?_; clear h a; intro v9 w18 ho9 hq hx9 a h
                          replace hf := hf.step hq (fun k hk hlt => by have := (ho6.blk k hk).1; omega)
                          replace hy := hy.fr hq (fun hb => by have := (ho6.blk _ hb).1; omega)
                          replace hO := hO.fr hq (fun k hk hk2 => by have := (ho6.blk k hk).1; simp [blks] at hk2; omega)
                          replace hI := hI.fr hq (fun k hk q hq2 hk2 => by have := (ho6.blk k hk).1; have := hIE q hq2 k hk2; omega)
                          replace hC := hC.step hq (fun k hk hlt => by have := (ho6.blk k hk).1; omega)
                          obtain ⟨A9, cp9, rfl, hc9⟩ := ho9.sl.form
                          clear hq hx9 hoX h6X hb13
                          refine hd_next hC ?_
                          refine hd_idxS 10 (by kernel_rfl) (by kernel_rfl) (by kernel_rfl) hC (p := ps.length) h rfl rfl el43 (by omega) (by omega) (by omega) rfl rfl ?_; clear h a; intro a h
                          refine hd_one 11 (by kernel_rfl) rfl ?_
                          refine st_storeO (A9, ([] ++ t ++ [(parseS (wordS l p)).1]).length, cp9) h rfl rfl hO (by simp) rfl sz22 ?_; clear h a; intro w19 hO2 hq hz a h
                          replace hO := Own.reTop hO2 rfl (t ++ [(parseS (wordS l p)).1])
                          have hb9 := ho9.blk
                          replace ho9 := ho9.fr hq (fun k hk hk2 => by simp at hk; have := (hb9 k hk2).1; omega)
                          have hoff := hI.off
                          replace hI := (hI.fr hq (fun k hk q hq2 hk2 => hoff q hq2 k hk2 hk)).left
                          replace hI := hI.push (u := (A9, ([] ++ t ++ [(parseS (wordS l p)).1]).length, cp9)) (r := t ++ [(parseS (wordS l p)).1]) (ho9.low (by omega)) (fun k hk hk2 => by have := (hb9 k hk).1; simp at hk2; omega) (fun k hk q hq2 hk2 => by have := (hb9 k hk).1; have := hIE q (by simp [hq2]) k hk2; omega)
                          replace hy := hy.fr hq (by simp; omega)
                          replace hf := hf.step hq (by simp; omega)
                          replace hC := hC.step hq (by simp)
                          clear hq hz hO2 hb9 ho9 hoff
                          refine hd_next hC ?_
                          refine hd_end (by kernel_rfl) ?_
                          clear hC hy_b hO_b hI_b hb13_b
                          replace h : Ag a 199 [(0, _), (4, _), (5, _)] := h.sub (.cons rfl (.cons rfl (.cons rfl .nil)))
                          refine (norm_then ?_)
                          refine wp_region_lit ?_
                          refine st_assign h rfl rfl ?_; clear h a; intro a h
                          refine wpList_nil (norm_blk (norm_then ?_))
                          exact ⟨⟨ps, _, t ++ [(parseS (wordS l p)).1], k, false, g, c⟩, h.sub (.cons rfl (.cons rfl (.cons rfl (.cons rfl .nil)))), ⟨hO, hI, by simp only; omega, by simp only; omega, hb17, by simp; omega, fun R m => hM R (m_leaf (by omega) (fun e => c9 (by rw [e]; rfl)) hx0 (by rw [hke, List.take_of_length_le (by simp; omega)]; exact m)), hy, hf⟩, by simp only; omega⟩
                        · refine id ?_
                          refine st_bslice [(parseS (wordS l p)).1] h (evs_cons rfl evs_nil) rfl rfl rfl el22 (by decide) rfl ?_; clear h a; intro gX w20 hg hoX hq hz a h
                          have hEX : gX ≠ gE := by have := (hoE.blk gE (by simp [blks])).2; omega
                          replace hf := hf.next hq
                          replace hy := hy.ext hq
                          replace hO := hO.ext hq
                          replace hI := hI.ext hq
                          replace hb13 := hb13.ext hq
                          replace hC := hC.next hq
                          replace hoE := hoE.ext hq
                          clear hq hz hg
                          refine hd_next hC ?_
                          refine hd_one 6 (by kernel_rfl) rfl ?_
                          refine st_append h rfl rfl hoE hI.last.sl el22 (by unfold maxLen; simp; omega) (by simp; omega) (by have := (hoE.blk gE (by simp [blks])).2; omega) rfl ?_; clear h a; intro v6 w21 ho6 hq hx6 a h
                          have h6X : ∀ k ∈ blks v6, k ≠ gX := by
                            intro k hk
                            have hXs := (hoX.blk gX (by simp [blks])).2
                            rcases hx6 with e | e | e
                            · rw [e] at hk; simp [blks] at hk; omega
                            · rw [e] at hk; simp [blks] at hk; omega
                            · rw [e] at hk; simp at hk; omega
                          replace hf := hf.step hq (fun k hk hlt => by simp [blks] at hk; omega)
                          replace hy := hy.fr hq (by simp [blks]; omega)
                          replace hO := hO.fr hq (by simp [blks]; omega)
                          replace hI := hI.fr hq (fun k hk q hq2 hk2 => by simp [blks] at hk; have := hIE q hq2 k hk2; omega)
                          replace hb13 := hb13.fr hq (by simp [blks]; omega)
                          replace hC := hC.step hq (fun k hk hlt => by simp [blks] at hk; omega)
                          replace hoX := hoX.fr hq (by simp [blks]; omega)
                          have hEs := Nat.le_trans (Nat.le_of_lt (hoE.blk gE (by simp [blks])).2) hq.size
                          clear hq hx6 hoE
                          refine hd_next hC ?_
                          refine hd_one 9 (by kernel_rfl) rfl ?_
                          refine st_append h rfl rfl ho6 hoX.sl el22 (by unfold maxLen; simp; omega) (by simp; omega) hEs rfl ?_; clear h a; intro v9 w22 ho9 hq hx9 a h
                          replace hf := hf.step hq (fun k hk hlt => by have := (ho6.blk k hk).1; omega)
                          replace hy := hy.fr hq (fun hb => by have := (ho6.blk _ hb).1; omega)
                          replace hO := hO.fr hq (fun k hk hk2 => by have := (ho6.blk k hk).1; simp [blks] at hk2; omega)
                          replace hI := hI.fr hq (fun k hk q hq2 hk2 => by have := (ho6.blk k hk).1; have := hIE q hq2 k hk2; omega)
                          replace hC := hC.step hq (fun k hk hlt => by have := (ho6.blk k hk).1; omega)
                          obtain ⟨A9, cp9, rfl, hc9⟩ := ho9.sl.form
                          clear hq hx9 hoX h6X hb13
                          refine hd_next hC ?_
                          refine hd_idxS 10 (by kernel_rfl) (by kernel_rfl) (by kernel_rfl) hC (p := ps.length) h rfl rfl el43 (by omega) (by omega) (by omega) rfl rfl ?_; clear h a; intro a h
                          refine hd_one 11 (by kernel_rfl) rfl ?_
                          refine st_storeO (A9, ([] ++ t ++ [(parseS (wordS l p)).1]).length, cp9) h rfl rfl hO (by simp) rfl sz22 ?_; clear h a; intro w23 hO2 hq hz a h
                          replace hO := Own.reTop hO2 rfl (t ++ [(parseS (wordS l p)).1])
                          have hb9 := ho9.blk
                          replace ho9 := ho9.fr hq (fun k hk hk2 => by simp at hk; have := (hb9 k hk2).1; omega)
                          have hoff := hI.off
                          replace hI := (hI.fr hq (fun k hk q hq2 hk2 => hoff q hq2 k hk2 hk)).left
                          replace hI := hI.push (u := (A9, ([] ++ t ++ [(parseS (wordS l p)).1]).length, cp9)) (r := t ++ [(parseS (wordS l p)).1]) (ho9.low (by omega)) (fun k hk hk2 => by have := (hb9 k hk).1; simp at hk2; omega) (fun k hk q hq2 hk2 => by have := (hb9 k hk).1; have := hIE q (by simp [hq2]) k hk2; omega)
                          replace hy := hy.fr hq (by simp; omega)
                          replace hf := hf.step hq (by simp; omega)
                          replace hC := hC.step hq (by simp)
                          clear hq hz hO2 hb9 ho9 hoff
                          refine hd_next hC ?_
                          refine hd_end (by kernel_rfl) ?_
                          clear hC hy_b hO_b hI_b hb13_b
                          replace h : Ag a 199 [(0, _), (4, _), (5, _)] := h.sub (.cons rfl (.cons rfl (.cons rfl .nil)))
                          refine (norm_then ?_)
                          refine wp_region_lit ?_
                          refine st_assign h rfl rfl ?_; clear h a; intro a h
                          refine wpList_nil (norm_blk (norm_then ?_))
                          exact ⟨⟨ps, _, t ++ [(parseS (wordS l p)).1], k, false, g, c⟩, h.sub (.cons rfl (.cons rfl (.cons rfl (.cons rfl .nil)))), ⟨hO, hI, by simp only; omega, by simp only; omega, hb17, by simp; omega, fun R m => hM R (m_leaf (by omega) (fun e => c9 (by rw [e]; rfl)) hx0 (by rw [hke, List.take_of_length_le (by simp; omega)]; exact m)), hy, hf⟩, by simp only; omega⟩
                      · refine id ?_
                        refine st_bslice [(parseS (wordS l p)).1] h (evs_cons rfl evs_nil) rfl rfl rfl el22 (by decide) rfl ?_; clear h a; intro gX w24 hg hoX hq hz a h
                        replace hf := hf.next hq
                        replace hy := hy.ext hq
                        replace hO := hO.ext hq
                        replace hI := hI.ext hq
                        replace hb13 := hb13.ext hq
                        replace hC := hC.next hq
                        clear hq hz hg
                        refine hd_next hC ?_
                        refine hd_one 4 (by kernel_rfl) rfl ?_
                        refine st_bslice ([] : List Stitch) h evs_nil rfl rfl rfl el22 (by decide) rfl ?_; clear h a; intro gE w25 hg hoE hq hz a h
                        have hgE : g < gE := by have := (hO.blk g (by simp [blks])).2; omega
                        have hE13 : g_13 < gE := by have := hb13.lt; omega
                        have hwE : w0.heap.size ≤ gE := by have := hf.size; omega
                        have hCE := Nat.le_trans hC.size (Nat.le_of_eq hg.symm)
                        have hIE : ∀ q ∈ ps ++ [(u, t)], ∀ k ∈ blks (slv q.1), k < gE := fun q hq2 k hk => by have := (hI.blk q hq2 k hk).2; omega
                        have hEX : gX ≠ gE := by have := (hoX.blk gX (by simp [blks])).2; omega
                        replace hf := hf.next hq
                        replace hy := hy.ext hq
                        replace hO := hO.ext hq
                        replace hI := hI.ext hq
                        replace hb13 := hb13.ext hq
                        replace hC := hC.next hq
                        replace hoX := hoX.ext hq
                        clear hq hz hg
                        refine hd_next hC ?_
                        refine hd_one 6 (by kernel_rfl) rfl ?_
                        refine st_append h rfl rfl hoE hI.last.sl el22 (by unfold maxLen; simp; omega) (by simp; omega) (by have := (hoE.blk gE (by simp [blks])).2; omega) rfl ?_; clear h a; intro v6 w26 ho6 hq hx6 a h
                        have h6X : ∀ k ∈ blks v6, k ≠ gX := by
                          intro k hk
                          have hXs := (hoX.blk gX (by simp [blks])).2
                          rcases hx6 with e | e | e
                          · rw [e] at hk; simp [blks] at hk; omega
                          · rw [e] at hk; simp [blks] at hk; omega
                          · rw [e] at hk; simp at hk; omega
                        replace hf := hf.step hq (fun k hk hlt => by simp [blks] at hk; omega)
                        replace hy := hy.fr hq (by simp [blks]; omega)
                        replace hO := hO.fr hq (by simp [blks]; omega)
                        replace hI := hI.fr hq (fun k hk q hq2 hk2 => by simp [blks] at hk; have := hIE q hq2 k hk2; omega)
                        replace hb13 := hb13.fr hq (by simp [blks]; omega)
                        replace hC := hC.step hq (fun k hk hlt => by simp [blks] at hk; omega)
                        replace hoX := hoX.fr hq (by simp [blks]; omega)
                        have hEs := Nat.le_trans (Nat.le_of_lt (hoE.blk gE (by simp [blks])).2) hq.size
                        clear hq hx6 hoE
                        refine hd_next hC ?_
                        refine hd_one 9 (by kernel_rfl) rfl ?_
                        refine st_append h rfl rfl ho6 hoX.sl el22 (by unfold maxLen; simp; omega) (by simp; omega) hEs rfl ?_; clear h a; intro v9 w27 ho9 hq hx9 a h
                        replace hf := hf.step hq (fun k hk hlt => by have := (ho6.blk k hk).1; omega)
                        replace hy := hy.fr hq (fun hb => by have := (ho6.blk _ hb).1; omega)
                        replace hO := hO.fr hq (fun k hk hk2 => by have := (ho6.blk k hk).1; simp [blks] at hk2; omega)
                        replace hI := hI.fr hq (fun k hk q hq2 hk2 => by have := (ho6.blk k hk).1; have := hIE q hq2 k hk2; omega)
                        replace hC := hC.step hq (fun k hk hlt => by have := (ho6.blk k hk).1; omega)
                        obtain ⟨A9, cp9, rfl, hc9⟩ := ho9.sl.form
                        clear hq hx9 hoX h6X hb13
                        refine hd_next hC ?_
                        refine hd_idxS 10 (by kernel_rfl) (by kernel_rfl) (by kernel_rfl) hC (p := ps.length) h rfl rfl el43 (by omega) (by omega) (by omega) rfl rfl ?_; clear h a; intro a h
                        refine hd_one 11 (by kernel_rfl) rfl ?_
                        refine st_storeO (A9, ([] ++ t ++ [(parseS (wordS l p)).1]).length, cp9) h rfl rfl hO (by simp) rfl sz22 ?_; clear h a; intro w28 hO2 hq hz a h
                        replace hO := Own.reTop hO2 rfl (t ++ [(parseS (wordS l p)).1])
                        have hb9 := ho9.blk
                        replace ho9 := ho9.fr hq (fun k hk hk2 => by simp at hk; have := (hb9 k hk2).1; omega)
                        have hoff := hI.off
                        replace hI := (hI.fr hq (fun k hk q hq2 hk2 => hoff q hq2 k hk2 hk)).left
                        replace hI := hI.push (u := (A9, ([] ++ t ++ [(parseS (wordS l p)).1]).length, cp9)) (r := t ++ [(parseS (wordS l p)).1]) (ho9.low (by omega)) (fun k hk hk2 => by have := (hb9 k hk).1; simp at hk2; omega) (fun k hk q hq2 hk2 => by have := (hb9 k hk).1; have := hIE q (by simp [hq2]) k hk2; omega)
                        replace hy := hy.fr hq (by simp; omega)
                        replace hf := hf.step hq (by simp; omega)
                        replace hC := hC.step hq (by simp)
                        clear hq hz hO2 hb9 ho9 hoff
                        refine hd_next hC ?_
                        refine hd_end (by kernel_rfl) ?_
                        clear hC hy_b hO_b hI_b hb13_b
                        replace h : Ag a 199 [(0, _), (4, _), (5, _)] := h.sub (.cons rfl (.cons rfl (.cons rfl .nil)))
                        refine (norm_then ?_)
                        refine wp_region_lit ?_
                        refine st_assign h rfl rfl ?_; clear h a; intro a h
                        refine wpList_nil (norm_blk (norm_then ?_))
                        exact ⟨⟨ps, _, t ++ [(parseS (wordS l p)).1], k, false, g, c⟩, h.sub (.cons rfl (.cons rfl (.cons rfl (.cons rfl .nil)))), ⟨hO, hI, by simp only; omega, by simp only; omega, hb17, by simp; omega, fun R m => hM R (m_leaf (by omega) (fun e => c9 (by rw [e]; rfl)) hx0 (by rw [hke, List.take_of_length_le (by simp; omega)]; exact m)), hy, hf⟩, by simp only; omega⟩
                    · refine id ?_
                      refine wp_skip (norm_then ?_)
                      refine wp_region_lit ?_
                      refine st_assign h rfl rfl ?_; clear h a; intro a h
                      replace h : Ag a 199 [(0, _), (4, _), (5, _), (6, _)] := h.sub (.cons rfl (.cons rfl (.cons rfl (.cons rfl .nil))))
                      refine wpList_nil (norm_blk (norm_then ?_))
                      exact ⟨⟨ps, u, t, k, false, g, c⟩, h.sub (.cons rfl (.cons rfl (.cons rfl (.cons rfl .nil)))), ⟨hO, hI, by simp only; omega, by simp only; omega, hb17, ht17, fun R m => hM R (m_leaf (by omega) (fun e => c9 (by rw [e]; rfl)) hx0 (by rw [hke, List.take_append_of_le_length (by omega), List.take_of_length_le (by omega)]; exact m)), hy, hf⟩, by simp only; omega⟩
      · obtain rfl : it = false := by cases it with | false => rfl | true => exact absurd (.inl rfl) c1
        have c1q : ¬ p < l.length := fun e => c1 (.inr e)
        refine wp_exit (exit_then (exit_then (exit_here (norm_then ?_))))
        refine wp_seq ?_
        refine wp_seq ?_
        refine wp_region_lit ?_
        refine st_move h rfl rfl ?_; clear h a; intro a h
        refine st_lenS h rfl Tryd.underlying43 rfl ?_; clear h a; intro a h
        refine st_ne h rfl rfl rfl ?_; clear h a; intro a h
        replace h : Ag a 199 [(4, _), (190, _)] := h.sub (.cons rfl (.cons rfl .nil))
        refine wpList_nil (norm_then ?_)
        first | refine cond_dec h rfl (fun c13 => ?_) (fun c13 => ?_) | refine cond_ndec h rfl (fun c13 => ?_) (fun c13 => ?_) | refine cond_split h rfl (fun c13 => ?_) (fun c13 => ?_)
        · refine id ?_
          refine wp_seq ?_
          refine wp_region_lit ?_
          refine st_assign h rfl rfl ?_; clear h a; intro a h
          refine st_assign h rfl rfl ?_; clear h a; intro a h
          replace h : Ag a 199 [(2, _), (3, _)] := h.sub (.cons rfl (.cons rfl .nil))
          refine wpList_nil (norm_then ?_)
          refine wp_ret (ret_then ?_)
          refine ret2 h Tryd.results11 rfl rfl ?_
          exact ⟨_, rfl, _, ([], 4), rfl, fun _ => hM _ (m_fin4 c1q (fun e => c13 (by have := congrArg List.length e; simp only [List.length_map, List.length_nil] at this; omega))), (fun e => by omega), Sl.nil _, hf⟩
        · obtain rfl : ps = [] := List.length_eq_zero_iff.1 (by omega)
          refine wp_skip (norm_then ?_)
          refine wp_seq ?_
          refine wp_seq ?_
          refine wp_region_lit ?_
          refine st_move h rfl rfl ?_; clear h a; intro a h
          refine st_idx (p := 0) (e := u) h rfl rfl hO.sl el43 (by omega) (by omega) (top_get (rfl)) rfl ?_; clear h a; intro ad cc a h
          refine st_loadC0 (v := slv u) h rfl cc na22 rfl ?_; clear h a; intro a h
          have hul := Own.lens hI.last
          refine st_lenS h rfl Tryd.underlying22 rfl ?_; clear h a; intro a h
          refine st_gt h rfl rfl rfl ?_; clear h a; intro a h
          replace h : Ag a 199 [(4, _), (195, _)] := h.sub (.cons rfl (.cons rfl .nil))
          refine wpList_nil (norm_then ?_)
          first | refine cond_dec h rfl (fun c14 => ?_) (fun c14 => ?_) | refine cond_ndec h rfl (fun c14 => ?_) (fun c14 => ?_) | refine cond_split h rfl (fun c14 => ?_) (fun c14 => ?_)
          · refine id ?_
            refine wp_seq ?_
            refine wp_region_lit ?_
            refine st_assign h rfl rfl ?_; clear h a; intro a h
            refine st_assign h rfl rfl ?_; clear h a; intro a h
            replace h : Ag a 199 [(2, _), (3, _)] := h.sub (.cons rfl (.cons rfl .nil))
            refine wpList_nil (norm_then ?_)
            refine wp_ret (ret_then ?_)
            refine ret2 h Tryd.results11 rfl rfl ?_
            exact ⟨_, rfl, _, ([], 3), rfl, fun _ => hM _ (m_fin3 c1q (by omega)), (fun e => by omega), Sl.nil _, hf⟩
          · refine id ?_
            refine wp_skip (norm_then ?_)
            refine wp_seq ?_
            refine wp_region_lit ?_
            refine st_move h rfl rfl ?_; clear h a; intro a h
            refine st_idx (p := 0) (e := u) h rfl rfl hO.sl el43 (by omega) (by omega) (top_get (rfl)) rfl ?_; clear h a; intro ad cc a h
            refine st_loadC0 (v := slv u) h rfl cc na22 rfl ?_; clear h a; intro a h
            refine st_assign h rfl rfl ?_; clear h a; intro a h
            refine st_assign h rfl rfl ?_; clear h a; intro a h
            replace h : Ag a 199 [(2, _), (3, _)] := h.sub (.cons rfl (.cons rfl .nil))
            refine wpList_nil (norm_then ?_)
            refine wp_ret ?_
            refine ret2 h Tryd.results11 rfl rfl ?_
            exact ⟨_, rfl, _, (t, 0), rfl, fun _ => hM _ (m_fin0 c1q (by omega)), (fun e => by omega), hI.last.sl, hf⟩
end Go.Proofs.YtbbnampdgefljaaDoor
