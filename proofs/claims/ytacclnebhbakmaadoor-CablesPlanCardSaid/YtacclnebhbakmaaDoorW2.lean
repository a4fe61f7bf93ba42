/- Walks. -/
import Derived.Test.YtacclnebhbakmaaDoorRows
import Derived.Test.YtacclnebhbakmaaDoorW1
import Derived.Test.YtacclnebhbakmaaDoorXOp
import Derived.Test.YtacclnebhbakmaaDoorXMap
import Derived.Test.YtacclnebhbakmaaDoorShelf
import Derived.Test.YtacclnebhbakmaaDoorXShelf
set_option linter.unusedVariables false
set_option linter.unusedSimpArgs false
namespace Go.Proofs.YtacclnebhbakmaaDoor
open Go.Lw
theorem co33 : CallOf Tryd.prog 33 := CallOf.mk' Tryd.func33 (by kernel_rfl) (by kernel_rfl)
theorem tab_fr {w w' : World} {name : String} {k : IntKind} {zs : List Int} {S : List Nat} (h : Lib.TabIs Tryd.prog w name k zs) (hf : Fr S w w') (hS : ∀ g, Tryd.prog.globalNamed name = some g → g ∉ S) : Lib.TabIs Tryd.prog w' name k zs := by
  unfold Lib.TabIs World.var? at *
  cases hg : Tryd.prog.globalNamed name with
  | none => simp [hg] at h
  | some g =>
    simp only [hg, Option.bind_some] at h ⊢
    have hlt : g < w.heap.size := by
      rcases Nat.lt_or_ge g w.heap.size with h' | h'
      · exact h'
      · rw [Array.getElem?_eq_none h'] at h; simp at h
    rw [hf.block g hlt (hS g hg)]
    exact h
theorem gPow : Tryd.prog.globalNamed "internal/strconv.uint64pow10" = some 2 := by kernel_rfl
/-- What the package-level variables hold. -/
structure Glob (w : World) : Prop where
  wd : Cells w ⟨0, 0, none⟩ (wordsL.map S)
  dr : Cells w ⟨1, 0, none⟩ (dirsL.map S)
  ml : IntAt 3 w
  tab : Lib.TabIs Tryd.prog w "internal/strconv.uint64pow10" .u64 Lib.pow10Tab
  sz : 6 ≤ w.heap.size
theorem Glob.fr {w w' : World} {S : List Nat} (h : Glob w) (hf : Fr S w w') (hS : ∀ k ∈ S, 6 ≤ k) : Glob w' := by
  have hn : ∀ g, g < 6 → g ∉ S := fun g hg e => by have := hS g e; omega
  exact ⟨h.wd.fr hf (hn _ (by decide)), h.dr.fr hf (hn _ (by decide)), h.ml.fr hf (hn _ (by decide)), tab_fr h.tab hf (fun g hg => by rw [gPow] at hg; cases hg; exact hn _ (by decide)), Nat.le_trans h.sz hf.size⟩
theorem Glob.ext {w w' : World} (h : Glob w) (hf : Fr [] w w') : Glob w' := h.fr hf (by simp)
theorem grow_fr (w : World) (k : Nat) (l : Array Obj) : Fr [] w (Sort.grow (w.drewN k) l) :=
  (Fr.drewN [] w k).next ⟨rfl, rfl, rfl, by simp [Sort.grow], fun k hk _ => by simp only [Sort.grow]; exact Array.getElem?_append_left hk⟩
theorem itoa_ok (n : Int) (w0 : World) (hG : Glob w0) (h : -99 ≤ n ∧ n ≤ 99) : Rets Tryd.prog 33 #[.int .i64 n] w0 fun v w' => v = S (dec2 n) ∧ Fr [] w0 w' := by
  refine Calls.mono (Tryd.strconv_Itoa n (by omega) (by omega) w0 hG.tab) ?_
  rintro e w' ⟨rfl, k, os, rfl⟩
  exact ⟨_, rfl, by rw [dec2_eq h]; rfl, grow_fr _ _ _⟩
theorem ntext_ok (b p : Int) (w0 : World) (hG : Glob w0) : Rets Tryd.prog 34 #[.agg #[.int .u8 b, .int .i64 p]] w0 fun v w' => v = S (txtN b p) ∧ Fr [] w0 w' := by
 have hGs := hG.sz
 refine we [(0, .agg #[.int .u8 b, .int .i64 p])] Tryd.func34 rfl Tryd.ntmps34 rfl (.cons rfl .nil) ?_
 refine sr (bx rfl rfl rfl (fun g1 w1 hg1 hb1 q1 z1 => ?_))
 refine asg rfl rfl (nn (sq (sr (s_loadBA rfl hb1 ag39 rfl ?_))))
 refine cl (ev1 rfl) co38 (ncheck_ok _ _ _) rfl ?_
 rintro _ w2 ⟨rfl, q2⟩
 have z2 := q2.size
 refine ne' rfl rfl rfl (nn ?_)
 refine cd rfl (fun c0 => ?_) (fun c0 => ?_)
 · refine sr (asg rfl rfl (nn (rt (tr (r1 Tryd.results34 rfl ?_)))))
   exact ⟨_, rfl, by rw [txtN, if_pos c0] <;> rfl, (q1.next q2)⟩
 · have hr := nchk_iff.1 (Classical.not_not.1 c0)
   refine sk (tn (sq (sr (fad rfl fa39_0 rfl ?_))))
   replace hb1 := hb1.ext q2
   refine s_loadB rfl hb1 rfl na37 rfl (eq' rfl rfl rfl (nn ?_))
   refine cd rfl (fun c1 => ?_) (fun c1 => ?_)
   · refine sr (fad rfl fa39_1 rfl (s_loadB rfl hb1 rfl na3 rfl ?_))
     replace hG := hG.ext (q1.next q2)
     refine cl (ev1 rfl) co33 (itoa_ok _ _ hG (by omega)) rfl ?_
     rintro _ w3 ⟨rfl, q3⟩
     have z3 := q3.size
     refine s_adds rfl rfl (by have := itoa_le p; simp; omega) rfl (asg rfl rfl (kpL [(2, _)] (.cons rfl .nil) (nn (rt (tr (r1 Tryd.results34 rfl ?_))))))
     exact ⟨_, rfl, by rw [txtN, if_neg c0, if_pos c1] <;> rfl, ((q1.next q2).next q3)⟩
   · refine sk (tn (sr (fad rfl fa39_1 rfl (s_loadB rfl hb1 rfl na3 rfl ?_))))
     replace hG := hG.ext (q1.next q2)
     refine cl (ev1 rfl) co33 (itoa_ok _ _ hG (by omega)) rfl ?_
     rintro _ w4 ⟨rfl, q4⟩
     have z4 := q4.size
     refine s_adds rfl rfl (by have := itoa_le p; simp; omega) rfl (asg rfl rfl (kpL [(2, _)] (.cons rfl .nil) (nn (rt (r1 Tryd.results34 rfl ?_)))))
     exact ⟨_, rfl, by rw [txtN, if_neg c0, if_neg c1] <;> rfl, ((q1.next q2).next q4)⟩
theorem Below.fr' {w w' : World} (h : RowKit.Below w.heap.size w w') : Fr [] w w' := Fr.of_below h
theorem join_ok (v : Value) (ys : List (List UInt8)) (sep : List UInt8) (base T : Nat) (w0 : World) (hO : Lw.Own Enc.str T base w0 v ys) (hne : ys ≠ []) (hl : (Lib.join ys sep).length ≤ 1000000) (hl2 : ys.length ≤ 1000000) : Rets Tryd.prog 35 #[v, S sep] w0 fun r w' => r = S (Lib.join ys sep) ∧ Fr [] w0 w' := by
  rcases hO with ⟨_, e⟩ | ⟨g, cap, cur, rfl, hb, hg, h1, h2, h3, h4⟩
  · exact absurd e hne
  have hm : (ys.map (fun y => (⟨y.toArray⟩ : ByteArray))).map (·.data.toList) = ys := by rw [List.map_map]; simp [Function.comp_def]
  have hO : Lw.Own Enc.str T base w0 (.slice (some ⟨g, 0, none⟩) ys.length cap) ys := .inr ⟨g, cap, cur, rfl, hb, hg, h1, h2, h3, h4⟩
  have hj := Tryd.strings_Join g 0 cap (ys.map (fun y => (⟨y.toArray⟩ : ByteArray))) ⟨sep.toArray⟩ w0 (fun j x hx => by
      rw [List.getElem?_map, Option.map_eq_some_iff] at hx
      obtain ⟨y, hy, rfl⟩ := hx
      obtain ⟨A, c, e, _, _, hA⟩ := hO.sl
      cases e
      obtain ⟨ad, e1, hc⟩ := hA j y hy
      cases e1
      have := hc 0 (S y) rfl
      rw [lit_add, lit_add, Nat.add_zero, show Enc.str.sz = 1 from rfl, Nat.mul_one] at this
      exact this) ((Array.getElem?_eq_some_iff.1 hg).1) (by simp; omega) (by simp; omega) (by rw [hm]; simp; omega)
  rw [hm, List.length_map] at hj
  refine Calls.mono hj ?_
  rintro e w' ⟨rfl, hb⟩
  exact ⟨_, rfl, by simp [S], Fr.of_below hb⟩
end Go.Proofs.YtacclnebhbakmaaDoor
