/- Walks. -/
import Derived.Test.YtbalocjcbmkecaaDoorRows
import Derived.Test.YtbalocjcbmkecaaDoorW15
import Derived.Test.YtbalocjcbmkecaaDoorXOp
import Derived.Test.YtbalocjcbmkecaaDoorXMap
set_option linter.unusedVariables false
set_option linter.unusedSimpArgs false
namespace Go.Proofs.YtbalocjcbmkecaaDoor
open Go.Lw
theorem co36 : CallOf Tryd.prog 36 := CallOf.mk' Tryd.func36 (by kernel_rfl) (by kernel_rfl)
theorem co37 : CallOf Tryd.prog 37 := CallOf.mk' Tryd.func37 (by kernel_rfl) (by kernel_rfl)
theorem co38 : CallOf Tryd.prog 38 := CallOf.mk' Tryd.func38 (by kernel_rfl) (by kernel_rfl)
theorem zv75 (w : World) : (zeroValue 75).run Tryd.prog w = .ok (.agg #[(.pointer none), (.slice none 0 0)]) w := by kernel_rfl
theorem all_of_getD {os : List MOp} (h : ∀ j, j < os.length → chkO (os.getD j op0) = 0) : ∀ o ∈ os, chkO o = 0 := fun o ho => by
  obtain ⟨j, hj, rfl⟩ := List.mem_iff_getElem.1 ho
  have := h j hj
  rwa [List.getD, List.getElem?_eq_getElem hj] at this
theorem mem_getD {os : List MOp} {i : Nat} (h : i < os.length) : os.getD i op0 ∈ os := by rw [List.getD, List.getElem?_eq_getElem h]; exact List.getElem_mem _
theorem format_ok (v : Value) (os : List MOp) (w0 : World) (hG : Glob w0) (hs : Sl encOp w0 v os) (hl : os.length ≤ 4096) : Rets Tryd.prog 22 #[v] w0 fun r w' => r = S (fmtS os) ∧ Fr [] w0 w' := by
 obtain ⟨A, c, rfl, hc, hM, hA⟩ := id hs
 clear hA
 have hsb : ∀ k ∈ blks (Value.slice A os.length c), os ≠ [] → k < w0.heap.size := fun k hk hne => hs.blk hne k hk
 have hGs := hG.sz
 refine we [(0, .slice A os.length c)] Tryd.func22 rfl Tryd.ntmps22 rfl (.cons rfl .nil) ?_
 have hG0 := hG
 have hs0 := hs
 refine sr (asg rfl rfl (nn (sr (al zv75 rfl rfl (fun g3 w1 hg3 hb3 q1 z1 => ?_)))))
 have hB : Bld 75 5 g3 [] w1 := Bld.new hb3
 have hB0 := hB
 refine nn (sq (sr (mv rfl rfl (lnS rfl Tryd.underlying45 rfl (mv rfl rfl (nn (bl ?_)))))))
 refine lpK (ι := Nat) [(3, _), (6, _), (7, _)] (fun i => [(8, .int .i64 (i : Int))]) (fun i w' => Fr [g3] w1 w' ∧ i ≤ os.length ∧ Bld 75 5 g3 (linesT ((os.take i).map txtO)) w' ∧ ∀ j, j < i → chkO (os.getD j op0) = 0) (fun i => os.length - i) 0 (.cons rfl (.cons rfl (.cons rfl (.cons rfl .nil)))) ⟨Fr.refl _ _, ⟨by omega, hB, fun j hj => absurd hj (by omega)⟩⟩ ?_
 rintro i w2 ⟨q2, ⟨hi, hB, hck⟩⟩
 have z2 := q2.size
 have hB0 := hB
 refine kpC [(3, _), (6, _), (7, _), (8, _)] (.cons rfl (.cons rfl (.cons rfl (.cons rfl .nil)))) ?_
 have hll : (linesT ((os.take i).map txtO)).length ≤ os.length * 31 := by have := linesT_len (os.take i); rw [List.length_take] at this; have h2 := Nat.mul_le_mul_right 31 (Nat.min_le_right i os.length); omega
 have htl := txt_len (os.getD i op0)
 have hlt3 := hB.lt
 refine sr (lt' rfl rfl rfl (nn (sq ?_)))
 refine cd rfl (fun c0 => ?_) (fun c0 => ?_)
 · refine sk (tn (sq (bl (sr ?_))))
   replace hs := hs0.ext (q1.step q2 (by first | (simp; done) | (simp; omega)))
   refine s_idxL (p := i) (op0) rfl hs rfl el45 (by omega) (by omega) (by omega) rfl (fun ad10 hc10 => ?_)
   refine s_loadA rfl (hc10 _ hs) ag31 rfl (al zv31 rfl rfl (fun g5 w3 hg5 hb5 q3 z3 => ?_))
   refine s_storeBA rfl rfl hb5 rfl (by first | (simp [Value.oneCell', S]; done) | exact Enc.one _ _) sz31 (fun w4 hb5 q4 z4 => ?_)
   refine nn (sq (sr (s_loadBA rfl hb5 ag31 rfl ?_)))
   refine cl (ev1 rfl) co16 (check_ok (os.getD i op0) _) rfl ?_
   rintro _ w5 ⟨rfl, q5⟩
   have z5 := q5.size
   refine ne' rfl rfl rfl (nn ?_)
   refine cd rfl (fun c1 => ?_) (fun c1 => ?_)
   · refine sr (asg rfl rfl (kpL [(2, _)] (.cons rfl .nil) (nn (rt (tr (rb (tr (tr (rb (tr (r1 Tryd.results22 rfl ?_)))))))))))
     exact ⟨_, rfl, by rw [fmtS, if_neg (fun h => c1 (h _ (mem_getD (by omega))))]; rfl, ((((q1.step q2 (by first | (simp; done) | (simp; omega))).next q3).step q4 (by first | (simp; done) | (simp; omega))).next q5)⟩
   · refine sk (tn (sr ?_))
     replace hb5 := hb5.ext q5
     refine s_loadBA rfl hb5 ag31 rfl ?_
     replace hG := hG0.ext ((((q1.step q2 (by first | (simp; done) | (simp; omega))).next q3).step q4 (by first | (simp; done) | (simp; omega))).next q5)
     refine cl (ev1 rfl) co17 (text_ok (os.getD i op0) _ hG) rfl ?_
     rintro _ w6 ⟨rfl, q6⟩
     have z6 := q6.size
     replace hB := hB0.ext (((q3.step q4 (by first | (simp; done) | (simp; omega))).next q5).next q6)
     refine cl (ev2 rfl rfl) co36 (bws_ok _ _ _ _ hB (by have := txt_len (os.getD i op0); omega)) rfl ?_
     rintro _ w7 ⟨hB, Sx, hS7, q7⟩
     have z7 := q7.size
     have hB0 := hB
     refine nn (rg ?_)
     refine cl (ev2 rfl rfl) co37 (bwb_ok _ _ 10 _ hB (by have := txt_len (os.getD i op0); simp only [List.length_append]; omega)) rfl ?_
     rintro _ w8 ⟨hB, Sx, hS8, q8⟩
     have z8 := q8.size
     have hB0 := hB
     refine nl (bn' (tn (rg (s_add rfl rfl (wi6 (by omega)) rfl (mv rfl rfl (nl ?_))))))
     exact lpE (i + 1) (.cons rfl (.cons rfl (.cons rfl (.cons rfl .nil)))) ⟨((((((((Fr.refl [g3] _).step q2 (by first | (simp; done) | (simp; omega))).next q3).step q4 (by first | (simp; done) | (simp; omega))).next q5).next q6).step q7 (fun k hk hlt => by have := hS7 k hk; first | (exfalso; omega) | (simp; omega))).step q8 (fun k hk hlt => by have := hS8 k hk; first | (exfalso; omega) | (simp; omega))), ⟨by omega, by rw [linesT_snoc os i (by omega)]; exact hB, fun j hj => by rcases Nat.lt_succ_iff_lt_or_eq.1 hj with h | rfl; exact hck j h; exact Classical.not_not.1 c1⟩⟩ (by omega)
 · obtain rfl : i = os.length := by omega
   rw [List.take_length] at hB
   refine ex (te (te (xh (tn (sr ?_)))))
   refine cl (ev1 rfl) co38 (bst_ok _ _ _ hB) rfl ?_
   rintro _ w9 ⟨rfl, Sx, hS9, q9⟩
   have z9 := q9.size
   refine asg rfl rfl (kpL [(2, _)] (.cons rfl .nil) (nn (rt (r1 Tryd.results22 rfl ?_))))
   exact ⟨_, rfl, by rw [fmt_ok (all_of_getD hck)], ((q1.step q2 (by first | (simp; done) | (simp; omega))).step q9 (fun k hk hlt => by have := hS9 k hk; first | (exfalso; omega) | (simp; omega)))⟩
end Go.Proofs.YtbalocjcbmkecaaDoor
