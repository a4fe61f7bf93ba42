/- Walks. -/
import Derived.Test.YtacclnebhbakmaaDoorRows
import Derived.Test.YtacclnebhbakmaaDoorW13
import Derived.Test.YtacclnebhbakmaaDoorXOp
import Derived.Test.YtacclnebhbakmaaDoorXMap
set_option linter.unusedVariables false
set_option linter.unusedSimpArgs false
namespace Go.Proofs.YtacclnebhbakmaaDoor
open Go.Lw

theorem xfers_ok (b by_ : Int) (gX gO N : Nat) (vr va vb vO : Value) (l : List Int) (os : List MOp) (w0 : World) (hbX : Blk w0 gX 56 [vr, va, .int .i64 by_, vb]) (hs : Sl Enc.i64 w0 va l) (hbO : Blk w0 gO 31 [vO]) (hoO : Lw.Own encOp 42 N w0 vO os) (hN : N ≤ w0.heap.size) (hA : ∀ k ∈ blks va, k < w0.heap.size ∧ k ≠ gO ∧ k ∉ blks vO) (hl : os.length + l.length ≤ 1000000) : Rets Tryd.prog 18 #[.int .u8 b, .pointer (some ⟨gX, 0, none⟩), .pointer (some ⟨gO, 0, none⟩)] w0 fun _ w' => ∃ v', Blk w' gO 31 [v'] ∧ Lw.Own encOp 42 N w' v' (os ++ xfers b l) ∧ (∀ k ∈ blks v', k ∈ blks vO ∨ w0.heap.size ≤ k) ∧ Fr (gO :: blks vO) w0 w' := by
 obtain ⟨A, c, rfl, hcc, hM, hA'⟩ := id hs
 clear hA'
 have hvO0 : ∀ k ∈ blks vO, k ∈ blks vO ∨ w0.heap.size ≤ k := fun k hk => .inl hk
 refine we [(0, .int .u8 b), (1, .pointer (some ⟨gX, 0, none⟩)), (2, .pointer (some ⟨gO, 0, none⟩))] Tryd.func18 rfl Tryd.ntmps18 rfl (.cons rfl (.cons rfl (.cons rfl .nil))) ?_
 have hs0 := hs
 refine sr (fad rfl fa56_1 rfl (s_loadB rfl hbX rfl na26 rfl (lnS rfl Tryd.underlying26 rfl (mv rfl rfl (nn (bl ?_))))))
 refine lpK (ι := Nat × Value) [(0, _), (2, _), (7, _), (8, _)] (fun p => [(9, .int .i64 (p.1 : Int))]) (fun p w' => p.1 ≤ l.length ∧ Blk w' gO 31 [p.2] ∧ Lw.Own encOp 42 N w' p.2 (os ++ xfers b (l.take p.1)) ∧ (∀ k ∈ blks p.2, k ∈ blks vO ∨ w0.heap.size ≤ k) ∧ Fr (gO :: blks vO) w0 w') (fun p => l.length - p.1) (0, vO) (.cons rfl (.cons rfl (.cons rfl (.cons rfl (.cons rfl .nil))))) ⟨Nat.zero_le _, hbO, by rw [List.take_zero, show xfers b [] = [] from rfl, List.append_nil]; exact hoO, hvO0, Fr.refl _ _⟩ ?_
 rintro ⟨i, v1⟩ w1 ⟨hi, hbO, hoO, hvO, hf⟩
 simp only at hi hbO hoO hvO
 have lt_hbO := hbO.lt
 refine kpC [(0, _), (2, _), (7, _), (8, _), (9, .int .i64 (i : Int))] (.cons rfl (.cons rfl (.cons rfl (.cons rfl (.cons rfl .nil))))) ?_
 have hzf := hf.size
 replace hs := hs0.fr hf (fun k hk hb => by have h := hA k hb; rcases List.mem_cons.1 hk with e | e; omega; exact h.2.2 e)
 refine sr (lt' rfl rfl rfl (nn (sq ?_)))
 refine cd rfl (fun c0 => ?_) (fun c0 => ?_)
 · refine sk (tn (sq (bl (sr (s_idxL (p := i) (0) rfl hs rfl el26 (by omega) (by omega) (by omega) rfl (fun ad11 hc11 => ?_))))))
   refine s_loadC0 rfl (hc11 _ hs) na3 rfl (asg rfl rfl (nn (rg (s_loadB0 rfl hbO na31 rfl (mv rfl rfl (mv rfl rfl (s_lit (cs := [_, _]) (ev2 rfl rfl) bo39 (pok_cons rfl rfl rfl (pok_cons rfl rfl rfl pok_nil)) rfl rfl (s_lit (cs := [_, _, _, _, _, _]) (ev2 rfl rfl) bo42 (pok_cons rfl rfl rfl (pok_cons rfl rfl rfl pok_nil)) rfl rfl (s_bslice ([xferO b (l.getD i 0)]) (ev1 rfl) rfl rfl rfl el31 (Nat.le_of_ble_eq_true rfl) rfl (fun g18 w2 hg18 ho18 q2 z2 => ?_))))))))))
   replace hbO := hbO.ext q2
   replace hs := hs.ext q2
   replace hoO := hoO.ext q2
   have hoo19 := hoO
   refine s_append rfl rfl hoO ho18.sl el31 (by unfold maxLen; simp only [List.length_append, List.length_cons, List.length_nil, xfers, List.length_map, List.length_take]; omega) (by simp only [List.length_append, List.length_cons, List.length_nil, xfers, List.length_map, List.length_take]; omega) (by omega) rfl (fun v19 w3 hoO q3 hor19 => ?_)
   have z3 := q3.size
   replace hbO := hbO.fr q3 (hoo19.neB hbO (by decide))
   replace hs := hs.fr q3 (fun k hk hb => by have h := hA k hb; rcases hvO k hk with e | e; exact h.2.2 e; omega)
   have hvO2 : ∀ k ∈ blks v19, k ∈ blks vO ∨ w0.heap.size ≤ k := by
     rcases hor19 with e | e | e
     · rw [e]; exact hvO
     · rw [e]; exact hvO
     · rw [e]; intro k hk; simp at hk; right; omega
   have hnO : gO ∉ blks v19 := hoO.neB hbO (by decide)
   obtain ⟨A19, c19, rfl, _⟩ := hoO.sl.form
   refine s_storeB0 rfl rfl hbO rfl rfl sz31 (fun w4 hbO q4 z4 => ?_)
   refine kpL [(0, _), (2, _), (7, _), (8, _), (9, _)] (.cons rfl (.cons rfl (.cons rfl (.cons rfl (.cons rfl .nil))))) (nl (bn' (tn (rg (s_add rfl rfl (wi6 (by omega)) rfl (mv rfl rfl (nl ?_)))))))
   replace hoO := hoO.fr q4 (by intro k hk hb; simp at hk; subst hk; exact hnO hb)
   exact lpE ((i + 1, _)) (.cons rfl (.cons rfl (.cons rfl (.cons rfl (.cons rfl .nil))))) ⟨by simp only; omega, hbO, by rw [xfers_succ b (by omega), ← List.append_assoc]; exact hoO, hvO2, (((hf.next q2).step q3 (fun k hk hlt => (hvO k hk).elim (fun h => List.mem_cons_of_mem _ h) (fun h => by omega))).step q4 (by simp))⟩ (by simp only; omega)
 · obtain rfl : i = l.length := by omega
   rw [List.take_length] at hoO
   refine ex (te (te (xh (r0n Tryd.results18  ?_))))
   exact ⟨_, rfl, v1, hbO, hoO, hvO, hf⟩
end Go.Proofs.YtacclnebhbakmaaDoor
