/- Walks. -/
import Derived.Test.YtbbnampdgefljaaDoorRows
import Derived.Test.YtbbnampdgefljaaDoorW7
import Derived.Test.YtbbnampdgefljaaDoorXMap
set_option linter.unusedVariables false
set_option linter.unusedSimpArgs false
namespace Go.Proofs.YtbbnampdgefljaaDoor
open Go.Lw Go.G14
def kV (p : Int × Int) : Value := .agg #[.int .i64 p.1, .int .i64 p.2]
theorem eq98 (p q : Int × Int) (w : World) : (Op.equal 98 (kV p) (kV q)).run Tryd.prog w = .ok (decide (p = q)) w := by
  obtain ⟨a, b⟩ := p
  obtain ⟨c, d⟩ := q
  have hp0 : ∀ (x y : Value) w, (part 3 #[x, y] (0 * 1)).run Tryd.prog w = .ok x w := fun _ _ _ => by kernel_rfl
  have hp1 : ∀ (x y : Value) w, (part 3 #[x, y] 1).run Tryd.prog w = .ok y w := fun _ _ _ => by kernel_rfl
  have hs : ∀ w : World, (sizeOf 3).run Tryd.prog w = .ok 1 w := fun _ => by kernel_rfl
  show (Op.equalIn (9998 + 1 + 1) 98 (kV (a, b)) (kV (c, d))).run Tryd.prog w = _
  unfold Op.equalIn
  simp only [kV, Sem.run_bind, run_underlying Tryd.underlying98, Result.andThen_ok, hs]
  simp only [Std.Legacy.Range.forIn_eq_forIn_range', Std.Legacy.Range.size]
  have hI : ∀ (x y : Int) (w : World), (Op.equalIn 9999 3 (.int .i64 x) (.int .i64 y)).run Tryd.prog w = .ok (x == y) w := fun x y w => run_equalIn_int w 9998 3 _ _ x y Tryd.underlying3
  rw [show List.range' 0 ((2 - 0 + 1 - 1) / 1) = [0, 1] from rfl]
  simp only [List.forIn_cons, List.forIn_nil, Sem.run_bind, hp0, hI, Result.andThen_ok]
  by_cases e : a = c
  · subst e
    by_cases f : b = d
    · subst f; simp [hp1, hI]
    · simp [f, hp1, hI]
  · simp [e]
theorem key98 : KeyLaw Tryd.prog 98 kV := KeyLaw.asking Tryd.underlying98 (fun _ _ => rfl) (fun _ _ _ => by kernel_rfl) eq98 (fun _ => by simp [kV, Instr.sameBits])
set_option maxHeartbeats 4000000 in
theorem shortest_ok (u : Value) (xs : List Stitch) (w0 : World) (hu : Sl encSt w0 u xs) (hn : 1 ≤ xs.length) (hm : xs.length ≤ 16) (hy : Sym w0) : Rets Tryd.prog 31 #[u] w0 fun v w' => v = S (shortS xs) ∧ Fr [] w0 w' := by
  have h00 := hy.pos
  have hrb := hu.blk (by intro e; subst e; simp at hn)
  obtain ⟨A, c, rfl, hc⟩ := hu.form
  have hs := hu
  obtain ⟨-, -, hM, hA⟩ := Sl.open_ hu
  unfold maxLen at hM
  refine enter [(0, .slice A xs.length c)] Tryd.func31 rfl Tryd.ntmps31 rfl (.cons rfl .nil) ?_
  have hf := Fr.refl [] w0
  intro a h
  refine wp_seq ?_
  refine wp_region_lit ?_
  refine st_assign h rfl rfl ?_; clear h a; intro a h
  replace h : Ag a 115 [(0, _)] := h.sub (.cons rfl .nil)
  refine wpList_nil (norm_then ?_)
  refine wp_seq ?_
  refine wp_region_lit ?_
  refine st_makeMap kV h rfl ?_; clear h a; intro gt w1 hg hmt hq hz a h
  have hlgt : w0.heap.size ≤ gt := by have := hf.size; omega
  replace hf := hf.next hq
  replace hs := hs.ext hq
  replace hy := hy.ext hq
  clear hq hz hg
  refine st_assign h rfl rfl ?_; clear h a; intro a h
  replace h : Ag a 115 [(0, _), (3, _)] := h.sub (.cons rfl (.cons rfl .nil))
  refine wpList_nil (norm_then ?_)
  refine wp_seq ?_
  refine wp_region_lit ?_
  refine st_makeMap kV h rfl ?_; clear h a; intro gi w2 hg hmi hq hz a h
  have hlgi : w0.heap.size ≤ gi := by have := hf.size; omega
  have hti : gt < gi := by have := hmt.lt; omega
  replace hf := hf.next hq
  replace hs := hs.ext hq
  replace hy := hy.ext hq
  replace hmt := hmt.ext hq
  clear hq hz hg
  refine st_assign h rfl rfl ?_; clear h a; intro a h
  replace h : Ag a 115 [(0, _), (3, _), (4, _)] := h.sub (.cons rfl (.cons rfl (.cons rfl .nil)))
  refine wpList_nil (norm_then ?_)
  refine wp_seq ?_
  refine wp_seq ?_
  refine wp_region_lit ?_
  refine st_assign h rfl rfl ?_; clear h a; intro a h
  refine wpList_nil (norm_then ?_)
  refine wp_block ?_
  refine loop (ι := Nat) (fun L => [(0, .slice A xs.length c), (3, .map (some gt)), (4, .map (some gi)), (5, .int .i64 (L : Int))]) (fun L w' => 1 ≤ L ∧ L ≤ xs.length + 1 ∧ MapF kV w' gt (mfun xs.length (fun a m => (T xs a m).2) L 0) ∧ MapF kV w' gi (mfun xs.length (fun a m => (T xs a m).1) L 0) ∧ Sl encSt w' (.slice A xs.length c) xs ∧ Sym w' ∧ Fr [] w0 w') (fun L => xs.length + 1 - L) 1 (h.sub (.cons rfl (.cons rfl (.cons rfl (.cons rfl .nil))))) ⟨by omega, by omega, by rw [mfun_zero]; exact hmt, by rw [mfun_zero]; exact hmi, hs, hy, hf⟩ ?_
  clear h a hmt hmi hs hy hf
  rintro L w3 a h ⟨hL1, hL2, hmt, hmi, hs, hy, hf⟩
  refine wp_seq ?_
  refine wp_seq ?_
  refine wp_region_lit ?_
  refine st_move h rfl rfl ?_; clear h a; intro a h
  refine st_move h rfl rfl ?_; clear h a; intro a h
  refine st_lenS h rfl Tryd.underlying22 rfl ?_; clear h a; intro a h
  refine st_le h rfl rfl rfl ?_; clear h a; intro a h
  replace h : Ag a 115 [(0, _), (3, _), (4, _), (5, _), (19, _)] := h.sub (.cons rfl (.cons rfl (.cons rfl (.cons rfl (.cons rfl .nil)))))
  refine wpList_nil (norm_then ?_)
  first | refine cond_dec h rfl (fun c0 => ?_) (fun c0 => ?_) | refine cond_ndec h rfl (fun c0 => ?_) (fun c0 => ?_) | refine cond_split h rfl (fun c0 => ?_) (fun c0 => ?_)
  · refine id ?_
    refine wp_skip (norm_then ?_)
    refine wp_seq ?_
    refine wp_block ?_
    refine wp_seq ?_
    refine wp_region_lit ?_
    refine st_assign h rfl rfl ?_; clear h a; intro a h
    replace h : Ag a 115 [(0, _), (3, _), (4, _), (5, _), (6, _)] := h.sub (.cons rfl (.cons rfl (.cons rfl (.cons rfl (.cons rfl .nil)))))
    refine wpList_nil (norm_then ?_)
    refine wp_block ?_
    refine loop (ι := Nat) (fun i => [(0, .slice A xs.length c), (3, .map (some gt)), (4, .map (some gi)), (5, .int .i64 (L : Int)), (6, .int .i64 (i : Int))]) (fun i w' => i ≤ xs.length + 1 - L ∧ MapF kV w' gt (mfun xs.length (fun a m => (T xs a m).2) L i) ∧ MapF kV w' gi (mfun xs.length (fun a m => (T xs a m).1) L i) ∧ Sl encSt w' (.slice A xs.length c) xs ∧ Sym w' ∧ Fr [] w0 w') (fun i => xs.length + 1 - i) 0 (h.sub (.cons rfl (.cons rfl (.cons rfl (.cons rfl (.cons rfl .nil)))))) ⟨by omega, hmt, hmi, hs, hy, hf⟩ ?_
    clear h a hmt hmi hs hy hf
    rintro i w4 a h ⟨hiL, hmt, hmi, hs, hy, hf⟩
    refine wp_seq ?_
    refine wp_seq ?_
    refine wp_region_lit ?_
    refine st_move h rfl rfl ?_; clear h a; intro a h
    refine st_move h rfl rfl ?_; clear h a; intro a h
    refine st_add h rfl rfl (by first | exact IntWalk.i64_in _ (by omega) | rfl) rfl ?_; clear h a; intro a h
    refine st_move h rfl rfl ?_; clear h a; intro a h
    refine st_lenS h rfl Tryd.underlying22 rfl ?_; clear h a; intro a h
    refine st_le h rfl rfl rfl ?_; clear h a; intro a h
    replace h : Ag a 115 [(0, _), (3, _), (4, _), (5, _), (6, _), (27, _)] := h.sub (.cons rfl (.cons rfl (.cons rfl (.cons rfl (.cons rfl (.cons rfl .nil))))))
    refine wpList_nil (norm_then ?_)
    first | refine cond_dec h rfl (fun c1 => ?_) (fun c1 => ?_) | refine cond_ndec h rfl (fun c1 => ?_) (fun c1 => ?_) | refine cond_split h rfl (fun c1 => ?_) (fun c1 => ?_)
    · refine id ?_
      refine wp_skip (norm_then ?_)
      refine wp_seq ?_
      refine wp_block ?_
      refine wp_seq ?_
      refine wp_region_lit ?_
      refine st_move h rfl rfl ?_; clear h a; intro a h
      refine st_move h rfl rfl ?_; clear h a; intro a h
      refine st_add h rfl rfl (by first | exact IntWalk.i64_in _ (by omega) | rfl) rfl ?_; clear h a; intro a h
      refine st_assign h rfl rfl ?_; clear h a; intro a h
      replace h : Ag a 115 [(0, _), (3, _), (4, _), (5, _), (6, _), (7, _)] := h.sub (.cons rfl (.cons rfl (.cons rfl (.cons rfl (.cons rfl (.cons rfl .nil))))))
      refine wpList_nil (norm_then ?_)
      refine wp_seq ?_
      refine wp_region_lit ?_
      refine st_assign h rfl rfl ?_; clear h a; intro a h
      refine wpList_nil (norm_then ?_)
      refine seq_cut (Cut (ι := Unit) 115 (fun u => [(0, .slice A xs.length c), (3, .map (some gt)), (4, .map (some gi)), (5, .int .i64 (L : Int)), (6, .int .i64 (i : Int)), (7, .int .i64 ((i : Int) + (L : Int))), (8, S (itemTo (T xs) xs i L 0))]) (fun u w' => MapF kV w' gt (mfun xs.length (fun a m => (T xs a m).2) L i) ∧ MapF kV w' gi (mfun xs.length (fun a m => (T xs a m).1) L i) ∧ Sl encSt w' (.slice A xs.length c) xs ∧ Sym w' ∧ Fr [] w0 w')) ?_ ?_
      · refine id ?_
        refine wp_seq ?_
        refine wp_region_lit ?_
        refine st_move h rfl rfl ?_; clear h a; intro a h
        refine st_eq h rfl rfl rfl ?_; clear h a; intro a h
        replace h : Ag a 115 [(0, _), (3, _), (4, _), (5, _), (6, _), (7, _), (8, _), (34, _)] := h.sub (.cons rfl (.cons rfl (.cons rfl (.cons rfl (.cons rfl (.cons rfl (.cons rfl (.cons rfl .nil))))))))
        refine wpList_nil (norm_then ?_)
        first | refine cond_dec h rfl (fun c2 => ?_) (fun c2 => ?_) | refine cond_ndec h rfl (fun c2 => ?_) (fun c2 => ?_) | refine cond_split h rfl (fun c2 => ?_) (fun c2 => ?_)
        · obtain ⟨x, hxi⟩ : ∃ x, xs[i]? = some x := ⟨_, List.getElem?_eq_getElem (by omega)⟩
          obtain ⟨ad, hAd, ca⟩ := hA i x hxi
          refine wp_region_lit ?_
          refine st_move h rfl rfl ?_; clear h a; intro a h
          refine st_move h rfl rfl ?_; clear h a; intro a h
          refine st_idxS h (by rw [hAd]; rfl) rfl el22 (by omega) (by omega) rfl rfl ?_; clear h a; intro a h
          refine st_loadA h rfl (ca.fr hf (by simp)) ag36 rfl ?_; clear h a; intro a h
          refine st_call h (evs_cons rfl evs_nil) co54 (text_ok _ _ hy) rfl ?_; clear h a; rintro _ w5 ⟨rfl, hq⟩ a h
          replace hf := hf.next hq
          replace hmt := hmt.ext hq
          replace hmi := hmi.ext hq
          replace hs := hs.ext hq
          replace hy := hy.ext hq
          clear hq
          refine st_assign h rfl rfl ?_; clear h a; intro a h
          replace h : Ag a 115 [(0, _), (3, _), (4, _), (5, _), (6, _), (7, _), (8, _)] := h.sub (.cons rfl (.cons rfl (.cons rfl (.cons rfl (.cons rfl (.cons rfl (.cons rfl .nil)))))))
          refine wpList_nil (norm_then ?_)
          exact ⟨(), h.sub (.cons rfl (.cons rfl (.cons rfl (.cons rfl (.cons rfl (.cons rfl (.cons (by first | (rw [itemTo, if_pos (by omega), List.getD, hxi]; rfl) | (rw [itemTo, if_neg (by omega)]; rfl)) .nil))))))), hmt, hmi, hs, hy, hf⟩
        · refine id ?_
          refine wp_skip (norm_then ?_)
          exact ⟨(), h.sub (.cons rfl (.cons rfl (.cons rfl (.cons rfl (.cons rfl (.cons rfl (.cons (by first | (rw [itemTo, if_pos (by omega), List.getD, hxi]; rfl) | (rw [itemTo, if_neg (by omega)]; rfl)) .nil))))))), hmt, hmi, hs, hy, hf⟩
      · clear h a hmt hmi hs hy hf
        rintro a w6 ⟨u, h, ⟨hmt, hmi, hs, hy, hf⟩⟩
        refine wp_seq ?_
        refine wp_seq ?_
        refine wp_region_lit ?_
        refine st_assign h rfl rfl ?_; clear h a; intro a h
        refine wpList_nil (norm_then ?_)
        refine wp_block ?_
        refine loop (ι := Nat) (fun k => [(0, .slice A xs.length c), (3, .map (some gt)), (4, .map (some gi)), (5, .int .i64 (L : Int)), (6, .int .i64 (i : Int)), (7, .int .i64 ((i : Int) + (L : Int))), (8, S (itemTo (T xs) xs i L k)), (9, .int .i64 ((k : Int) + 2))]) (fun k w' => k ≤ L - 1 ∧ MapF kV w' gt (mfun xs.length (fun a m => (T xs a m).2) L i) ∧ MapF kV w' gi (mfun xs.length (fun a m => (T xs a m).1) L i) ∧ Sl encSt w' (.slice A xs.length c) xs ∧ Sym w' ∧ Fr [] w0 w') (fun k => L - k) 0 (h.sub (.cons rfl (.cons rfl (.cons rfl (.cons rfl (.cons rfl (.cons rfl (.cons rfl (.cons rfl .nil))))))))) ⟨by omega, hmt, hmi, hs, hy, hf⟩ ?_
        clear h a hmt hmi hs hy hf
        rintro k w7 a h ⟨hk, hmt, hmi, hs, hy, hf⟩
        have hdl : L / (k + 2) * (k + 2) ≤ L := Nat.div_mul_le_self _ _
        have hil := itemT_len xs i L k hL1
        refine wp_seq ?_
        refine wp_seq ?_
        refine wp_region_lit ?_
        refine st_move h rfl rfl ?_; clear h a; intro a h
        refine st_move h rfl rfl ?_; clear h a; intro a h
        refine st_le h rfl rfl rfl ?_; clear h a; intro a h
        replace h : Ag a 115 [(0, _), (3, _), (4, _), (5, _), (6, _), (7, _), (8, _), (9, _), (42, _)] := h.sub (.cons rfl (.cons rfl (.cons rfl (.cons rfl (.cons rfl (.cons rfl (.cons rfl (.cons rfl (.cons rfl .nil)))))))))
        refine wpList_nil (norm_then ?_)
        first | refine cond_dec h rfl (fun c3 => ?_) (fun c3 => ?_) | refine cond_ndec h rfl (fun c3 => ?_) (fun c3 => ?_) | refine cond_split h rfl (fun c3 => ?_) (fun c3 => ?_)
        · have hk2 : 2 ≤ k + 2 := by omega
          refine wp_skip (norm_then ?_)
          refine wp_seq ?_
          refine wp_block ?_
          refine wp_seq ?_
          refine wp_region_lit ?_
          refine st_move h rfl rfl ?_; clear h a; intro a h
          refine st_move h rfl rfl ?_; clear h a; intro a h
          refine st_quo (z := ((L / (k + 2) : Nat) : Int)) h rfl rfl (by omega) (by rw [IntWalk.i64_quo _ _ (by omega)]; exact (Int.natCast_ediv L (k + 2)).symm) rfl ?_; clear h a; intro a h
          refine st_assign h rfl rfl ?_; clear h a; intro a h
          replace h : Ag a 115 [(0, _), (3, _), (4, _), (5, _), (6, _), (7, _), (8, _), (9, _), (10, _)] := h.sub (.cons rfl (.cons rfl (.cons rfl (.cons rfl (.cons rfl (.cons rfl (.cons rfl (.cons rfl (.cons rfl .nil)))))))))
          refine wpList_nil (norm_then ?_)
          refine wp_seq ?_
          refine wp_region_lit ?_
          refine st_move h rfl rfl ?_; clear h a; intro a h
          refine st_move h rfl rfl ?_; clear h a; intro a h
          refine st_mul (z := ((L / (k + 2) * (k + 2) : Nat) : Int)) h rfl rfl (by rw [show ((L / (k + 2) : Nat) : Int) * ((k : Int) + 2) = ((L / (k + 2) * (k + 2) : Nat) : Int) from rfl]; exact IntWalk.i64_in _ (by omega)) rfl ?_; clear h a; intro a h
          refine st_move h rfl rfl ?_; clear h a; intro a h
          refine st_eq h rfl rfl rfl ?_; clear h a; intro a h
          refine st_move h rfl rfl ?_; clear h a; intro a h
          first | refine guard_dec (D := 53) h rfl ?_ ?_ | refine guard_ndec (D := 53) h rfl ?_ ?_ | refine guard_any (D := 53) h rfl ?_ ?_
          · clear h; intro g0 h
            refine gd_yes h rfl rfl rfl rfl rfl rfl ?_
            refine st_move h rfl rfl ?_; clear h a; intro a h
            refine gd_yes h rfl rfl rfl rfl rfl rfl ?_
            refine st_move h rfl rfl ?_; clear h a; intro a h
            refine gd_yes h rfl rfl rfl rfl rfl rfl ?_
            refine st_move h rfl rfl ?_; clear h a; intro a h
            refine gd_yes h rfl rfl rfl rfl rfl rfl ?_
            refine st_sl_lh (p := i) (p' := i + L) h rfl rfl rfl el22 (by omega) (by omega) (by omega) (by omega) (by omega) rfl ?_; clear h a; intro a h
            refine gd_yes h rfl rfl rfl rfl rfl rfl ?_
            refine st_move h rfl rfl ?_; clear h a; intro a h
            refine gd_yes h rfl rfl rfl rfl rfl rfl ?_
            refine st_call h (evs_cons rfl (evs_cons rfl evs_nil)) co55 (repeats_ok _ (partS xs i L) _ _ (part_sl hs (by omega)) (by rw [part_len (show i + L ≤ xs.length by omega)]; have := Nat.div_le_self L (k + 2); omega)) rfl ?_; clear h a; rintro _ w8 ⟨rfl, hq⟩ a h
            replace hf := hf.next hq
            replace hmt := hmt.ext hq
            replace hmi := hmi.ext hq
            replace hs := hs.ext hq
            replace hy := hy.ext hq
            clear hq
            refine st_pick_t h rfl rfl rfl rfl ?_; clear h a; intro a h
            replace h : Ag a 115 [(0, _), (3, _), (4, _), (5, _), (6, _), (7, _), (8, _), (9, _), (10, _), (54, _), (55, _), (56, _), (57, _), (58, _), (59, _), (60, _)] := h.sub (.cons rfl (.cons rfl (.cons rfl (.cons rfl (.cons rfl (.cons rfl (.cons rfl (.cons rfl (.cons rfl (.cons rfl (.cons rfl (.cons rfl (.cons rfl (.cons rfl (.cons rfl (.cons rfl .nil))))))))))))))))
            refine wpList_nil (norm_then ?_)
            first | refine cond_dec h rfl (fun c4 => ?_) (fun c4 => ?_) | refine cond_ndec h rfl (fun c4 => ?_) (fun c4 => ?_) | refine cond_split h rfl (fun c4 => ?_) (fun c4 => ?_)
            · have hone : 1 ≤ L / (k + 2) := by
                rcases Nat.eq_zero_or_pos (L / (k + 2)) with e | e
                · rw [e] at hdl; have hz : L / (k + 2) * (k + 2) = L := by omega
                  rw [e] at hz; omega
                · exact e
              have hlt1 : L / (k + 2) < L := Nat.div_lt_self (by omega) (by omega)
              have hTl := (T_len xs i (L / (k + 2)) hone).2
              refine region_quiet hmix (by kernel_rfl) ?_
              refine qt_move h rfl rfl ?_; clear h a; intro a h
              refine qt_move h rfl rfl ?_; clear h a; intro a h
              refine qt_move h rfl rfl ?_; clear h a; intro a h
              refine qt_move h rfl rfl ?_; clear h a; intro a h
              refine qt_move h rfl rfl ?_; clear h a; intro a h
              refine qt_add h rfl rfl (by first | exact IntWalk.i64_in _ (by omega) | rfl) rfl ?_; clear h a; intro a h
              refine qt_lit (cs := [_, _]) h (evs_cons rfl (evs_cons rfl evs_nil)) bo98 (pok_cons rfl rfl rfl (pok_cons rfl rfl rfl pok_nil)) rfl rfl ?_; clear h a; intro a h
              refine qt_lookup (V := kV) (k := ((i : Int), (i : Int) + ((L / (k + 2) : Nat) : Int))) h rfl rfl (fun _ hw => hmt.ext hw) key98 Tryd.underlying95 zv9 (mfun_hit _ (i) (L / (k + 2)) _ _ (by omega) (by omega) (by omega) (by omega) (by omega) _) rfl ?_; clear h a; intro a h
              refine qt_adds h rfl rfl (by first | (simp; done) | (simp; omega)) rfl ?_; clear h a; intro a h
              refine qt_adds h rfl rfl (by first | (simp; done) | (simp; omega)) rfl ?_; clear h a; intro a h
              refine qt_move h rfl rfl ?_; clear h a; intro a h
              refine qt_call h (evs_cons rfl evs_nil) co46 (fun w hw => (itoa_ok (k + 2) w (by omega)).mono fun u w' ⟨e, f⟩ => ⟨e, f ▸ hw⟩) rfl ?_; clear h a; intro a h
              have hit := itoa_len (k + 2)
              refine qt_adds h rfl rfl (by simp; omega) rfl ?_; clear h a; intro a h
              refine qt_call h (evs_cons rfl (evs_cons rfl evs_nil)) co56 (fun w hw => (better_ok _ _ w).mono fun u w' ⟨e, f⟩ => ⟨e, f ▸ hw⟩) rfl ?_; clear h a; intro a h
              refine qt_assign h rfl rfl ?_; clear h a; intro a h
              refine wpQuiet_nil ?_
              intro w9 hq
              replace hf := hf.next hq
              replace hmt := hmt.ext hq
              replace hmi := hmi.ext hq
              replace hs := hs.ext hq
              replace hy := hy.ext hq
              clear hq
              replace h : Ag a 115 [(0, _), (3, _), (4, _), (5, _), (6, _), (7, _), (8, _), (9, _), (54, _), (55, _), (56, _), (57, _), (58, _), (59, _)] := h.sub (.cons rfl (.cons rfl (.cons rfl (.cons rfl (.cons rfl (.cons rfl (.cons rfl (.cons rfl (.cons rfl (.cons rfl (.cons rfl (.cons rfl (.cons rfl (.cons rfl .nil))))))))))))))
              refine (norm_blk (norm_then ?_))
              refine wp_region_lit ?_
              refine st_move h rfl rfl ?_; clear h a; intro a h
              refine st_add h rfl rfl (by first | exact IntWalk.i64_in _ (by omega) | rfl) rfl ?_; clear h a; intro a h
              refine st_assign h rfl rfl ?_; clear h a; intro a h
              replace h : Ag a 115 [(0, _), (3, _), (4, _), (5, _), (6, _), (7, _), (8, _), (9, _), (54, _), (55, _), (56, _), (57, _), (58, _), (59, _)] := h.sub (.cons rfl (.cons rfl (.cons rfl (.cons rfl (.cons rfl (.cons rfl (.cons rfl (.cons rfl (.cons rfl (.cons rfl (.cons rfl (.cons rfl (.cons rfl (.cons rfl .nil))))))))))))))
              refine wpList_nil (norm_then ?_)
              exact ⟨k + 1, h.sub (.cons rfl (.cons rfl (.cons rfl (.cons rfl (.cons rfl (.cons rfl (.cons (by first | rfl | exact congrArg (fun x => some (S x)) (itemTo_no (fun e => absurd e.1 (by omega))) | exact congrArg (fun x => some (S x)) (itemTo_no (fun e => c4 ((repsB_iff (by omega)).1 e.2))) | exact congrArg (fun x => some (S x)) (itemTo_yes (by omega) ((repsB_iff (by omega)).2 c4))) (.cons (by first | rfl | (congr 2; omega)) .nil)))))))), ⟨by omega, hmt, hmi, hs, hy, hf⟩, by omega⟩
            · refine id ?_
              refine wp_skip (norm_blk (norm_then ?_))
              refine wp_region_lit ?_
              refine st_move h rfl rfl ?_; clear h a; intro a h
              refine st_add h rfl rfl (by first | exact IntWalk.i64_in _ (by omega) | rfl) rfl ?_; clear h a; intro a h
              refine st_assign h rfl rfl ?_; clear h a; intro a h
              replace h : Ag a 115 [(0, _), (3, _), (4, _), (5, _), (6, _), (7, _), (8, _), (9, _), (54, _), (55, _), (56, _), (57, _), (58, _), (59, _)] := h.sub (.cons rfl (.cons rfl (.cons rfl (.cons rfl (.cons rfl (.cons rfl (.cons rfl (.cons rfl (.cons rfl (.cons rfl (.cons rfl (.cons rfl (.cons rfl (.cons rfl .nil))))))))))))))
              refine wpList_nil (norm_then ?_)
              exact ⟨k + 1, h.sub (.cons rfl (.cons rfl (.cons rfl (.cons rfl (.cons rfl (.cons rfl (.cons (by first | rfl | exact congrArg (fun x => some (S x)) (itemTo_no (fun e => absurd e.1 (by omega))) | exact congrArg (fun x => some (S x)) (itemTo_no (fun e => c4 ((repsB_iff (by omega)).1 e.2))) | exact congrArg (fun x => some (S x)) (itemTo_yes (by omega) ((repsB_iff (by omega)).2 c4))) (.cons (by first | rfl | (congr 2; omega)) .nil)))))))), ⟨by omega, hmt, hmi, hs, hy, hf⟩, by omega⟩
          · clear h; intro g0 h
            refine gd_no h rfl rfl rfl rfl rfl rfl rfl rfl ?_; clear h a; intro a h
            refine gd_no h rfl rfl rfl rfl rfl rfl rfl rfl ?_; clear h a; intro a h
            refine gd_no h rfl rfl rfl rfl rfl rfl rfl rfl ?_; clear h a; intro a h
            refine gd_no h rfl rfl rfl rfl rfl rfl rfl rfl ?_; clear h a; intro a h
            refine gd_no h rfl rfl rfl rfl rfl rfl rfl rfl ?_; clear h a; intro a h
            refine gd_no h rfl rfl rfl rfl rfl rfl rfl rfl ?_; clear h a; intro a h
            refine st_pick_f h rfl rfl rfl rfl ?_; clear h a; intro a h
            replace h : Ag a 115 [(0, _), (3, _), (4, _), (5, _), (6, _), (7, _), (8, _), (9, _), (10, _), (54, _), (55, _), (56, _), (57, _), (58, _), (59, _), (60, _)] := h.sub (.cons rfl (.cons rfl (.cons rfl (.cons rfl (.cons rfl (.cons rfl (.cons rfl (.cons rfl (.cons rfl (.cons rfl (.cons rfl (.cons rfl (.cons rfl (.cons rfl (.cons rfl (.cons rfl .nil))))))))))))))))
            refine wpList_nil (norm_then ?_)
            refine cond_false h rfl ?_
            refine wp_skip (norm_blk (norm_then ?_))
            refine wp_region_lit ?_
            refine st_move h rfl rfl ?_; clear h a; intro a h
            refine st_add h rfl rfl (by first | exact IntWalk.i64_in _ (by omega) | rfl) rfl ?_; clear h a; intro a h
            refine st_assign h rfl rfl ?_; clear h a; intro a h
            replace h : Ag a 115 [(0, _), (3, _), (4, _), (5, _), (6, _), (7, _), (8, _), (9, _), (54, _), (55, _), (56, _), (57, _), (58, _), (59, _)] := h.sub (.cons rfl (.cons rfl (.cons rfl (.cons rfl (.cons rfl (.cons rfl (.cons rfl (.cons rfl (.cons rfl (.cons rfl (.cons rfl (.cons rfl (.cons rfl (.cons rfl .nil))))))))))))))
            refine wpList_nil (norm_then ?_)
            exact ⟨k + 1, h.sub (.cons rfl (.cons rfl (.cons rfl (.cons rfl (.cons rfl (.cons rfl (.cons (by first | rfl | exact congrArg (fun x => some (S x)) (itemTo_no (fun e => absurd e.1 (by omega))) | exact congrArg (fun x => some (S x)) (itemTo_no (fun e => c4 ((repsB_iff (by omega)).1 e.2))) | exact congrArg (fun x => some (S x)) (itemTo_yes (by omega) ((repsB_iff (by omega)).2 c4))) (.cons (by first | rfl | (congr 2; omega)) .nil)))))))), ⟨by omega, hmt, hmi, hs, hy, hf⟩, by omega⟩
        · obtain rfl : k = L - 1 := by omega
          refine wp_exit (exit_then (exit_then (exit_here (norm_then ?_))))
          refine wp_seq ?_
          refine wp_region_lit ?_
          refine st_move h rfl rfl ?_; clear h a; intro a h
          refine st_assign h rfl rfl ?_; clear h a; intro a h
          replace h : Ag a 115 [(0, _), (3, _), (4, _), (5, _), (6, _), (7, _), (8, _), (11, _)] := h.sub (.cons rfl (.cons rfl (.cons rfl (.cons rfl (.cons rfl (.cons rfl (.cons rfl (.cons rfl .nil))))))))
          refine wpList_nil (norm_then ?_)
          refine wp_seq ?_
          refine wp_seq ?_
          refine wp_region_lit ?_
          refine st_move h rfl rfl ?_; clear h a; intro a h
          refine st_add h rfl rfl (by first | exact IntWalk.i64_in _ (by omega) | rfl) rfl ?_; clear h a; intro a h
          refine st_assign h rfl rfl ?_; clear h a; intro a h
          replace h : Ag a 115 [(0, _), (3, _), (4, _), (5, _), (6, _), (7, _), (8, _), (11, _), (12, _)] := h.sub (.cons rfl (.cons rfl (.cons rfl (.cons rfl (.cons rfl (.cons rfl (.cons rfl (.cons rfl (.cons rfl .nil)))))))))
          refine wpList_nil (norm_then ?_)
          refine wp_block ?_
          refine loop (ι := Nat) (fun m => [(0, .slice A xs.length c), (3, .map (some gt)), (4, .map (some gi)), (5, .int .i64 (L : Int)), (6, .int .i64 (i : Int)), (7, .int .i64 ((i : Int) + (L : Int))), (8, S (itemTo (T xs) xs i L (L - 1))), (11, S (textTo (T xs) i L (itemTo (T xs) xs i L (L - 1)) m)), (12, .int .i64 ((i : Int) + 1 + (m : Int)))]) (fun m w' => m ≤ L - 1 ∧ MapF kV w' gt (mfun xs.length (fun a m => (T xs a m).2) L i) ∧ MapF kV w' gi (mfun xs.length (fun a m => (T xs a m).1) L i) ∧ Sl encSt w' (.slice A xs.length c) xs ∧ Sym w' ∧ Fr [] w0 w') (fun m => L - m) 0 (h.sub (.cons rfl (.cons rfl (.cons rfl (.cons rfl (.cons rfl (.cons rfl (.cons rfl (.cons rfl (.cons (by first | rfl | (congr 2; omega)) .nil)))))))))) ⟨by omega, hmt, hmi, hs, hy, hf⟩ ?_
          clear h a hmt hmi hs hy hf
          rintro m w10 a h ⟨hml, hmt, hmi, hs, hy, hf⟩
          have hil := itemT_len xs i L (L - 1) hL1
          have htl := textT_len xs i L m _ hil (by omega)
          refine wp_seq ?_
          refine wp_seq ?_
          refine wp_region_lit ?_
          refine st_move h rfl rfl ?_; clear h a; intro a h
          refine st_move h rfl rfl ?_; clear h a; intro a h
          refine st_lt h rfl rfl rfl ?_; clear h a; intro a h
          replace h : Ag a 115 [(0, _), (3, _), (4, _), (5, _), (6, _), (7, _), (8, _), (11, _), (12, _), (80, _)] := h.sub (.cons rfl (.cons rfl (.cons rfl (.cons rfl (.cons rfl (.cons rfl (.cons rfl (.cons rfl (.cons rfl (.cons rfl .nil))))))))))
          refine wpList_nil (norm_then ?_)
          first | refine cond_dec h rfl (fun c5 => ?_) (fun c5 => ?_) | refine cond_ndec h rfl (fun c5 => ?_) (fun c5 => ?_) | refine cond_split h rfl (fun c5 => ?_) (fun c5 => ?_)
          · refine id ?_
            refine wp_skip (norm_then ?_)
            refine wp_seq ?_
            refine wp_block ?_
            refine wp_seq ?_
            refine wp_region_lit ?_
            refine st_move h rfl rfl ?_; clear h a; intro a h
            refine st_move h rfl rfl ?_; clear h a; intro a h
            refine st_move h rfl rfl ?_; clear h a; intro a h
            refine st_lit (cs := [_, _]) h (evs_cons rfl (evs_cons rfl evs_nil)) bo98 (pok_cons rfl rfl rfl (pok_cons rfl rfl rfl pok_nil)) rfl rfl ?_; clear h a; intro a h
            have hTi := T_len xs i (m + 1) (by omega)
            refine st_lookup (V := kV) (k := ((i : Int), (i : Int) + 1 + (m : Int))) h rfl rfl hmi key98 Tryd.underlying95 zv9 (mfun_hit _ (i) (m + 1) _ _ (by omega) (by omega) (by omega) (by omega) (by omega) _) rfl ?_; clear h a; intro a h
            refine st_assign h rfl rfl ?_; clear h a; intro a h
            replace h : Ag a 115 [(0, _), (3, _), (4, _), (5, _), (6, _), (7, _), (8, _), (11, _), (12, _), (13, _)] := h.sub (.cons rfl (.cons rfl (.cons rfl (.cons rfl (.cons rfl (.cons rfl (.cons rfl (.cons rfl (.cons rfl (.cons rfl .nil))))))))))
            refine wpList_nil (norm_then ?_)
            refine wp_seq ?_
            refine wp_region_lit ?_
            refine st_move h rfl rfl ?_; clear h a; intro a h
            refine st_nes h rfl rfl rfl ?_; clear h a; intro a h
            replace h : Ag a 115 [(0, _), (3, _), (4, _), (5, _), (6, _), (7, _), (8, _), (11, _), (12, _), (13, _), (89, _)] := h.sub (.cons rfl (.cons rfl (.cons rfl (.cons rfl (.cons rfl (.cons rfl (.cons rfl (.cons rfl (.cons rfl (.cons rfl (.cons rfl .nil)))))))))))
            refine wpList_nil (norm_then ?_)
            first | refine cond_dec h rfl (fun c6 => ?_) (fun c6 => ?_) | refine cond_ndec h rfl (fun c6 => ?_) (fun c6 => ?_) | refine cond_split h rfl (fun c6 => ?_) (fun c6 => ?_)
            · refine id ?_
              refine wp_region_lit ?_
              refine st_move h rfl rfl ?_; clear h a; intro a h
              refine st_move h rfl rfl ?_; clear h a; intro a h
              refine st_adds h rfl rfl (by first | (simp; done) | (simp; omega)) rfl ?_; clear h a; intro a h
              refine st_move h rfl rfl ?_; clear h a; intro a h
              refine st_move h rfl rfl ?_; clear h a; intro a h
              refine st_move h rfl rfl ?_; clear h a; intro a h
              refine st_lit (cs := [_, _]) h (evs_cons rfl (evs_cons rfl evs_nil)) bo98 (pok_cons rfl rfl rfl (pok_cons rfl rfl rfl pok_nil)) rfl rfl ?_; clear h a; intro a h
              have hTr := (T_len xs (i + (m + 1)) (L - (m + 1)) (by omega)).2
              refine st_lookup (V := kV) (k := ((i : Int) + 1 + (m : Int), (i : Int) + (L : Int))) h rfl rfl hmt key98 Tryd.underlying95 zv9 (mfun_hit _ (i + (m + 1)) (L - (m + 1)) _ _ (by omega) (by omega) (by omega) (by omega) (by omega) _) rfl ?_; clear h a; intro a h
              refine st_adds h rfl rfl (by first | (simp; done) | (simp; omega)) rfl ?_; clear h a; intro a h
              refine st_call h (evs_cons rfl (evs_cons rfl evs_nil)) co56 (better_ok _ _ _) rfl ?_; clear h a; rintro _ _ ⟨rfl, rfl⟩ a h
              refine st_assign h rfl rfl ?_; clear h a; intro a h
              replace h : Ag a 115 [(0, _), (3, _), (4, _), (5, _), (6, _), (7, _), (8, _), (11, _), (12, _)] := h.sub (.cons rfl (.cons rfl (.cons rfl (.cons rfl (.cons rfl (.cons rfl (.cons rfl (.cons rfl (.cons rfl .nil)))))))))
              refine wpList_nil (norm_blk (norm_then ?_))
              refine wp_region_lit ?_
              refine st_move h rfl rfl ?_; clear h a; intro a h
              refine st_add h rfl rfl (by first | exact IntWalk.i64_in _ (by omega) | rfl) rfl ?_; clear h a; intro a h
              refine st_assign h rfl rfl ?_; clear h a; intro a h
              replace h : Ag a 115 [(0, _), (3, _), (4, _), (5, _), (6, _), (7, _), (8, _), (11, _), (12, _)] := h.sub (.cons rfl (.cons rfl (.cons rfl (.cons rfl (.cons rfl (.cons rfl (.cons rfl (.cons rfl (.cons rfl .nil)))))))))
              refine wpList_nil (norm_then ?_)
              exact ⟨m + 1, h.sub (.cons rfl (.cons rfl (.cons rfl (.cons rfl (.cons rfl (.cons rfl (.cons rfl (.cons (by first | exact congrArg (fun x => some (S x)) (textTo_yes c6) | exact congrArg (fun x => some (S x)) (textTo_no c6)) (.cons (by first | rfl | (congr 2; omega)) .nil))))))))), ⟨by omega, hmt, hmi, hs, hy, hf⟩, by omega⟩
            · refine id ?_
              refine wp_skip (norm_blk (norm_then ?_))
              refine wp_region_lit ?_
              refine st_move h rfl rfl ?_; clear h a; intro a h
              refine st_add h rfl rfl (by first | exact IntWalk.i64_in _ (by omega) | rfl) rfl ?_; clear h a; intro a h
              refine st_assign h rfl rfl ?_; clear h a; intro a h
              replace h : Ag a 115 [(0, _), (3, _), (4, _), (5, _), (6, _), (7, _), (8, _), (11, _), (12, _)] := h.sub (.cons rfl (.cons rfl (.cons rfl (.cons rfl (.cons rfl (.cons rfl (.cons rfl (.cons rfl (.cons rfl .nil)))))))))
              refine wpList_nil (norm_then ?_)
              exact ⟨m + 1, h.sub (.cons rfl (.cons rfl (.cons rfl (.cons rfl (.cons rfl (.cons rfl (.cons rfl (.cons (by first | exact congrArg (fun x => some (S x)) (textTo_yes c6) | exact congrArg (fun x => some (S x)) (textTo_no c6)) (.cons (by first | rfl | (congr 2; omega)) .nil))))))))), ⟨by omega, hmt, hmi, hs, hy, hf⟩, by omega⟩
          · obtain rfl : m = L - 1 := by omega
            rw [show itemTo (T xs) xs i L (L - 1) = (T xs i L).1 from (T_item xs i L hL1 (by omega)).symm, ← T_text xs i L hL1 (by omega), T_item xs i L hL1 (by omega)] at h
            refine wp_exit (exit_then (exit_then (exit_here (norm_then ?_))))
            refine wp_seq ?_
            refine wp_region_lit ?_
            refine st_move h rfl rfl ?_; clear h a; intro a h
            refine st_move h rfl rfl ?_; clear h a; intro a h
            refine st_move h rfl rfl ?_; clear h a; intro a h
            refine st_lit (cs := [_, _]) h (evs_cons rfl (evs_cons rfl evs_nil)) bo98 (pok_cons rfl rfl rfl (pok_cons rfl rfl rfl pok_nil)) rfl rfl ?_; clear h a; intro a h
            refine st_move h rfl rfl ?_; clear h a; intro a h
            refine st_mapSet (k := ((i : Int), (i : Int) + (L : Int))) h rfl rfl rfl hmi key98 Tryd.underlying95 ?_; clear h a; intro w11 hmn hq hz a h
            replace hf := hf.step hq (by simp; omega)
            replace hs := hs.fr hq (by intro k hk hb; have := hrb k hb; simp at hk; omega)
            replace hy := hy.fr hq (by simp; omega)
            replace hmt := hmt.fr hq (by simp; omega)
            rw [show itemTo (T xs) xs i L (L - 1) = (T xs i L).1 from (T_item xs i L hL1 (by omega)).symm] at hmn
            rw [mfun_set (fun a m => (T xs a m).1) hL1 (by omega)] at hmn
            clear hq hz hmi; have hmi := hmn; clear hmn
            replace h : Ag a 115 [(0, _), (3, _), (4, _), (5, _), (6, _), (7, _), (11, _)] := h.sub (.cons rfl (.cons rfl (.cons rfl (.cons rfl (.cons rfl (.cons rfl (.cons rfl .nil)))))))
            refine wpList_nil (norm_then ?_)
            refine wp_region_lit ?_
            refine st_move h rfl rfl ?_; clear h a; intro a h
            refine st_move h rfl rfl ?_; clear h a; intro a h
            refine st_move h rfl rfl ?_; clear h a; intro a h
            refine st_lit (cs := [_, _]) h (evs_cons rfl (evs_cons rfl evs_nil)) bo98 (pok_cons rfl rfl rfl (pok_cons rfl rfl rfl pok_nil)) rfl rfl ?_; clear h a; intro a h
            refine st_move h rfl rfl ?_; clear h a; intro a h
            refine st_mapSet (k := ((i : Int), (i : Int) + (L : Int))) h rfl rfl rfl hmt key98 Tryd.underlying95 ?_; clear h a; intro w12 hmn hq hz a h
            replace hf := hf.step hq (by simp; omega)
            replace hs := hs.fr hq (by intro k hk hb; have := hrb k hb; simp at hk; omega)
            replace hy := hy.fr hq (by simp; omega)
            replace hmi := hmi.fr hq (by simp; omega)
            rw [mfun_set (fun a m => (T xs a m).2) hL1 (by omega)] at hmn
            clear hq hz hmt; have hmt := hmn; clear hmn
            replace h : Ag a 115 [(0, _), (3, _), (4, _), (5, _), (6, _)] := h.sub (.cons rfl (.cons rfl (.cons rfl (.cons rfl (.cons rfl .nil)))))
            refine wpList_nil (norm_blk (norm_then ?_))
            refine wp_region_lit ?_
            refine st_move h rfl rfl ?_; clear h a; intro a h
            refine st_add h rfl rfl (by first | exact IntWalk.i64_in _ (by omega) | rfl) rfl ?_; clear h a; intro a h
            refine st_assign h rfl rfl ?_; clear h a; intro a h
            replace h : Ag a 115 [(0, _), (3, _), (4, _), (5, _), (6, _)] := h.sub (.cons rfl (.cons rfl (.cons rfl (.cons rfl (.cons rfl .nil)))))
            refine wpList_nil (norm_then ?_)
            exact ⟨i + 1, h.sub (.cons rfl (.cons rfl (.cons rfl (.cons rfl (.cons rfl .nil))))), ⟨by omega, hmt, hmi, hs, hy, hf⟩, by omega⟩
    · refine id ?_
      refine wp_exit (exit_then (exit_then (exit_here (norm_blk (norm_then ?_)))))
      refine wp_region_lit ?_
      refine st_move h rfl rfl ?_; clear h a; intro a h
      refine st_add h rfl rfl (by first | exact IntWalk.i64_in _ (by omega) | rfl) rfl ?_; clear h a; intro a h
      refine st_assign h rfl rfl ?_; clear h a; intro a h
      replace h : Ag a 115 [(0, _), (3, _), (4, _), (5, _)] := h.sub (.cons rfl (.cons rfl (.cons rfl (.cons rfl .nil))))
      refine wpList_nil (norm_then ?_)
      exact ⟨L + 1, h.sub (.cons rfl (.cons rfl (.cons rfl (.cons rfl .nil)))), ⟨by omega, by omega, by rw [← mfun_next _ (show xs.length < i + L by omega)]; exact hmt, by rw [← mfun_next _ (show xs.length < i + L by omega)]; exact hmi, hs, hy, hf⟩, by omega⟩
  · obtain rfl : L = xs.length + 1 := by omega
    refine wp_exit (exit_then (exit_then (exit_here (norm_then ?_))))
    refine wp_seq ?_
    refine wp_region_lit ?_
    refine st_move h rfl rfl ?_; clear h a; intro a h
    refine st_move h rfl rfl ?_; clear h a; intro a h
    refine st_lenS h rfl Tryd.underlying22 rfl ?_; clear h a; intro a h
    refine st_lit (cs := [_, _]) h (evs_cons rfl (evs_cons rfl evs_nil)) bo98 (pok_cons rfl rfl rfl (pok_cons rfl rfl rfl pok_nil)) rfl rfl ?_; clear h a; intro a h
    refine st_lookup (V := kV) (k := (0, (xs.length : Int))) h rfl rfl hmt key98 Tryd.underlying95 zv9 (mfun_hit _ 0 xs.length _ _ (by omega) (by omega) (by omega) (by omega) (by omega) _) rfl ?_; clear h a; intro a h
    refine st_assign h rfl rfl ?_; clear h a; intro a h
    replace h : Ag a 115 [(2, _)] := h.sub (.cons rfl .nil)
    refine wpList_nil (norm_then ?_)
    refine wp_ret ?_
    refine ret1 h Tryd.results31 rfl ?_
    exact ⟨_, rfl, rfl, hf⟩
end Go.Proofs.YtbbnampdgefljaaDoor
