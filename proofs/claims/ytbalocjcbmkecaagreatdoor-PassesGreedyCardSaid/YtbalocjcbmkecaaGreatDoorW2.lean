/- Walks. -/
import Derived.Test.YtbalocjcbmkecaaGreatDoorRows
import Derived.Test.YtbalocjcbmkecaaGreatDoorW1
import Derived.Test.YtbalocjcbmkecaaGreatDoorXOp
import Derived.Test.YtbalocjcbmkecaaGreatDoorXMap
import Derived.Test.YtbalocjcbmkecaaGreatDoorShelf
import Derived.Test.YtbalocjcbmkecaaGreatDoorXShelf
set_option linter.unusedVariables false
set_option linter.unusedSimpArgs false
namespace Go.Proofs.YtbalocjcbmkecaaGreatDoor
open Go.Lw
theorem co56 : CallOf Tryz.prog 56 := CallOf.mk' Tryz.func56 (by kernel_rfl) (by kernel_rfl)
theorem tab_fr {w w' : World} {name : String} {k : IntKind} {zs : List Int} {S : List Nat} (h : Lib.TabIs Tryz.prog w name k zs) (hf : Fr S w w') (hS : ∀ g, Tryz.prog.globalNamed name = some g → g ∉ S) : Lib.TabIs Tryz.prog w' name k zs := by
  unfold Lib.TabIs World.var? at *
  cases hg : Tryz.prog.globalNamed name with
  | none => simp [hg] at h
  | some g =>
    simp only [hg, Option.bind_some] at h ⊢
    have hlt : g < w.heap.size := by
      rcases Nat.lt_or_ge g w.heap.size with h' | h'
      · exact h'
      · rw [Array.getElem?_eq_none h'] at h; simp at h
    rw [hf.block g hlt (hS g hg)]
    exact h
theorem gPow : Tryz.prog.globalNamed "internal/strconv.uint64pow10" = some 7 := by kernel_rfl
/-- What the package-level variables hold. -/
structure Glob (w : World) : Prop where
  wd : Cells w ⟨0, 0, none⟩ (wordsL.map S)
  dr : Cells w ⟨1, 0, none⟩ (dirsL.map S)
  ml : IntAt 2 w
  tab : Lib.TabIs Tryz.prog w "internal/strconv.uint64pow10" .u64 Lib.pow10Tab
  es : ∃ te pe, w.cell? ⟨5, 0, none⟩ = some (.iface te pe)
  er : ∃ te pe, w.cell? ⟨6, 0, none⟩ = some (.iface te pe)
  sz : 10 ≤ w.heap.size
theorem Glob.fr {w w' : World} {S : List Nat} (h : Glob w) (hf : Fr S w w') (hS : ∀ k ∈ S, 10 ≤ k) : Glob w' := by
  have hn : ∀ g, g < 10 → g ∉ S := fun g hg e => by have := hS g e; omega
  exact ⟨h.wd.fr hf (hn _ (by decide)), h.dr.fr hf (hn _ (by decide)), h.ml.fr hf (hn _ (by decide)), tab_fr h.tab hf (fun g hg => by rw [gPow] at hg; cases hg; exact hn _ (by decide)), let ⟨a, b, e⟩ := h.es; ⟨a, b, hf.cell e (hn _ (by decide))⟩, let ⟨a, b, e⟩ := h.er; ⟨a, b, hf.cell e (hn _ (by decide))⟩, Nat.le_trans h.sz hf.size⟩
theorem Glob.ext {w w' : World} (h : Glob w) (hf : Fr [] w w') : Glob w' := h.fr hf (by simp)
theorem grow_fr (w : World) (k : Nat) (l : Array Obj) : Fr [] w (Sort.grow (w.drewN k) l) :=
  (Fr.drewN [] w k).next ⟨rfl, rfl, rfl, by simp [Sort.grow], fun k hk _ => by simp only [Sort.grow]; exact Array.getElem?_append_left hk⟩
theorem itoa_ok (n : Int) (w0 : World) (hG : Glob w0) (h : -99 ≤ n ∧ n ≤ 99) : Rets Tryz.prog 56 #[.int .i64 n] w0 fun v w' => v = S (dec2 n) ∧ Fr [] w0 w' := by
  refine Calls.mono (Tryz.strconv_Itoa n (by omega) (by omega) w0 hG.tab) ?_
  rintro e w' ⟨rfl, k, os, rfl⟩
  exact ⟨_, rfl, by rw [dec2_eq h]; rfl, grow_fr _ _ _⟩
theorem ntext_ok (b p : Int) (w0 : World) (hG : Glob w0) : Rets Tryz.prog 57 #[.agg #[.int .u8 b, .int .i64 p]] w0 fun v w' => v = S (txtN b p) ∧ Fr [] w0 w' := by
 have hGs := hG.sz
 refine we [(0, .agg #[.int .u8 b, .int .i64 p])] Tryz.func57 rfl Tryz.ntmps57 rfl (.cons rfl .nil) ?_
 refine sr (bx rfl rfl rfl (fun g1 w1 hg1 hb1 q1 z1 => ?_))
 refine asg rfl rfl (nn (sq (sr (s_loadBA rfl hb1 ag39 rfl ?_))))
 refine cl (ev1 rfl) co26 (ncheck_ok _ _ _) rfl ?_
 rintro _ w2 ⟨rfl, q2⟩
 have z2 := q2.size
 refine ne' rfl rfl rfl (nn ?_)
 refine cd rfl (fun c0 => ?_) (fun c0 => ?_)
 · refine sr (asg rfl rfl (nn (rt (tr (r1 Tryz.results57 rfl ?_)))))
   exact ⟨_, rfl, by rw [txtN, if_pos c0] <;> rfl, (q1.next q2)⟩
 · have hr := nchk_iff.1 (Classical.not_not.1 c0)
   refine sk (tn (sq (sr (fad rfl fa39_0 rfl ?_))))
   replace hb1 := hb1.ext q2
   refine s_loadB rfl hb1 rfl na37 rfl (eq' rfl rfl rfl (nn ?_))
   refine cd rfl (fun c1 => ?_) (fun c1 => ?_)
   · refine sr (fad rfl fa39_1 rfl (s_loadB rfl hb1 rfl na3 rfl ?_))
     replace hG := hG.ext (q1.next q2)
     refine cl (ev1 rfl) co56 (itoa_ok _ _ hG (by omega)) rfl ?_
     rintro _ w3 ⟨rfl, q3⟩
     have z3 := q3.size
     refine s_adds rfl rfl (by have := itoa_le p; simp; omega) rfl (asg rfl rfl (kpL [(2, _)] (.cons rfl .nil) (nn (rt (tr (r1 Tryz.results57 rfl ?_))))))
     exact ⟨_, rfl, by rw [txtN, if_neg c0, if_pos c1] <;> rfl, ((q1.next q2).next q3)⟩
   · refine sk (tn (sr (fad rfl fa39_1 rfl (s_loadB rfl hb1 rfl na3 rfl ?_))))
     replace hG := hG.ext (q1.next q2)
     refine cl (ev1 rfl) co56 (itoa_ok _ _ hG (by omega)) rfl ?_
     rintro _ w4 ⟨rfl, q4⟩
     have z4 := q4.size
     refine s_adds rfl rfl (by have := itoa_le p; simp; omega) rfl (asg rfl rfl (kpL [(2, _)] (.cons rfl .nil) (nn (rt (r1 Tryz.results57 rfl ?_)))))
     exact ⟨_, rfl, by rw [txtN, if_neg c0, if_neg c1] <;> rfl, ((q1.next q2).next q4)⟩
theorem Below.fr' {w w' : World} (h : RowKit.Below w.heap.size w w') : Fr [] w w' := Fr.of_below h
theorem join_ok (v : Value) (ys : List (List UInt8)) (sep : List UInt8) (base T : Nat) (w0 : World) (hO : Lw.Own Enc.str T base w0 v ys) (hne : ys ≠ []) (hl : (Lib.join ys sep).length ≤ 1000000) (hl2 : ys.length ≤ 1000000) : Rets Tryz.prog 58 #[v, S sep] w0 fun r w' => r = S (Lib.join ys sep) ∧ Fr [] w0 w' := by
  rcases hO with ⟨_, e⟩ | ⟨g, cap, cur, rfl, hb, hg, h1, h2, h3, h4⟩
  · exact absurd e hne
  have hm : (ys.map (fun y => (⟨y.toArray⟩ : ByteArray))).map (·.data.toList) = ys := by rw [List.map_map]; simp [Function.comp_def]
  have hO : Lw.Own Enc.str T base w0 (.slice (some ⟨g, 0, none⟩) ys.length cap) ys := .inr ⟨g, cap, cur, rfl, hb, hg, h1, h2, h3, h4⟩
  have hj := Tryz.strings_Join g 0 cap (ys.map (fun y => (⟨y.toArray⟩ : ByteArray))) ⟨sep.toArray⟩ w0 (fun j x hx => by
      rw [List.getElem?_map, Option.map_eq_some_iff] at hx
      obtain ⟨y, hy, rfl⟩ := hx
      obtain ⟨A, c, e, _, _, hA⟩ := hO.sl
      cases e
      obtain ⟨ad, e1, hc⟩ := hA j y hy
      cases e1
      have := hc 0 (S y) rfl
      rw [lit_add, lit_add, Nat.add_zero, show Enc.str.sz = 1 from rfl, Nat.mul_one] at this
      exact this) ((Array.getElem?_eq_some_iff.1 hg).1) (by simp; omega) (by simp; omega) (by rw [hm]; simp; omega)
  rw [hm, List.length_map] at hj
  refine Calls.mono hj ?_
  rintro e w' ⟨rfl, hb⟩
  exact ⟨_, rfl, by simp [S], Fr.of_below hb⟩
theorem bytes_fr (w : World) (t : ByteArray) : Fr [] w (Lib.bytesWorld w 5 t) := Fr.of_below (Lib.bytesWorld_below w 5 t)
theorem atoi_ok (l : List UInt8) (w0 : World) (hG : Glob w0) (hl : l.length ≤ 1000000) : Rets Tryz.prog 68 #[S l] w0 fun r w' => ∃ n e, ∃ b : Bool, r = .tuple #[.int .i64 n, e] ∧ (e = .nilIface ∧ b = false ∨ (∃ t p, e = .iface t p) ∧ b = true) ∧ numS l = (if b = true then 0 else n) ∧ Fr [] w0 w' := by
  have hs : (⟨l.toArray⟩ : ByteArray).size = l.length := by simp [ByteArray.size]
  rcases h : Lib.atoiAll l with v | _ | _
  · refine Calls.mono (Tryz.strconv_Atoi_ok ⟨l.toArray⟩ (by omega) v (by simpa using h) w0) ?_
    rintro e w' ⟨rfl, hw⟩
    refine ⟨_, rfl, v, .nilIface, false, rfl, .inl ⟨rfl, rfl⟩, by simp [numS, h], ?_⟩
    rcases hw with rfl | ⟨t, rfl⟩
    · exact Fr.refl _ _
    · exact bytes_fr w0 t
  · obtain ⟨te, pe, he⟩ := hG.es
    refine Calls.mono (Tryz.strconv_Atoi_syntax ⟨l.toArray⟩ (by omega) (show Lib.atoiAll l = Lib.atoiAll [] from h) _ w0 he (.inr ⟨_, _, rfl⟩)) ?_
    rintro e w' ⟨N, rfl, _, _, hb⟩
    exact ⟨_, rfl, _, _, true, rfl, .inr ⟨⟨_, _, rfl⟩, rfl⟩, by simp [numS, h], Fr.of_below hb⟩
  · obtain ⟨te, pe, he⟩ := hG.er
    refine Calls.mono (Tryz.strconv_Atoi_range ⟨l.toArray⟩ (by omega) (by simpa using h) _ w0 he (.inr ⟨_, _, rfl⟩)) ?_
    rintro e w' ⟨N, rfl, _, _, hb⟩
    exact ⟨_, rfl, _, _, true, rfl, .inr ⟨⟨_, _, rfl⟩, rfl⟩, by simp [numS, h], Fr.of_below hb⟩
theorem split_ok (l sep : List UInt8) (w0 : World) (hG : Glob w0) (hl : l.length < 4294967281) (h1 : 1 ≤ sep.length) : Rets Tryz.prog 28 #[S l, S sep] w0 fun r w' => Lw.Own Enc.str 9 w0.heap.size w' r (Lib.split l sep) ∧ Fr [] w0 w' := by
  obtain ⟨k, hk⟩ := hG.ml
  have hs : (⟨l.toArray⟩ : ByteArray).size = l.length := by simp [ByteArray.size]
  have hs2 : (⟨sep.toArray⟩ : ByteArray).size = sep.length := by simp [ByteArray.size]
  refine Calls.mono (Tryz.strings_Split ⟨l.toArray⟩ ⟨sep.toArray⟩ k w0 (by omega) hk (by omega)) ?_
  rintro e w' ⟨rfl, rfl⟩
  have hd := Lib.splitB_data ⟨sep.toArray⟩ 0 (Lib.countB ⟨l.toArray⟩ ⟨sep.toArray⟩) ⟨l.toArray⟩
  have hc : Lib.countB ⟨l.toArray⟩ ⟨sep.toArray⟩ = Lib.count l sep := by simp [Lib.countB]
  have hn := Lib.splitB_all ⟨sep.toArray⟩ (by omega) 0 _ ⟨l.toArray⟩ rfl
  have hcl := Lib.countB_le ⟨sep.toArray⟩ (by omega) _ ⟨l.toArray⟩ (Nat.le_refl _)
  rw [hs] at hcl
  have he : Lib.split l sep = (Lib.splitB ⟨sep.toArray⟩ 0 (Lib.countB ⟨l.toArray⟩ ⟨sep.toArray⟩) ⟨l.toArray⟩).map (·.data.toList) := by rw [hd, hc]; rfl
  have hz : ∀ zs : List ByteArray, zs.map Value.string = (zs.map (·.data.toList)).flatMap Enc.str.enc := fun zs => by
    induction zs with
    | nil => rfl
    | cons z zs ih => rw [List.map_cons, List.map_cons, List.flatMap_cons, ← ih]; rfl
  refine ⟨_, rfl, .inr ⟨w0.heap.size, Lib.countB ⟨l.toArray⟩ ⟨sep.toArray⟩ + 1, _, by rw [he, List.length_map, hn], Nat.le_refl _, heap_alloc_new w0 _, by rw [he, List.length_map, hn]; exact Nat.le_refl _, by unfold maxLen; omega, ?_, ?_⟩, Fr.alloc [] w0 _⟩
  · rw [show Enc.str.sz = 1 from rfl, Nat.mul_one, List.size_toArray, List.length_map, hn]; exact Nat.le_refl _
  · rw [he, List.length_map, hn, show Enc.str.sz = 1 from rfl, Nat.mul_one, ← hz]
    exact List.take_of_length_le (by rw [List.length_map, hn]; exact Nat.le_refl _)
theorem trim_ok (l : List UInt8) (w0 : World) (hl : l.length ≤ 1000000000) : Rets Tryz.prog 30 #[S l, S [32]] w0 fun r w' => r = S (Lib.trimB l 32) ∧ Fr [] w0 w' := by
  refine Calls.mono (Tryz.strings_Trim_one ⟨l.toArray⟩ 32 (by decide) w0 (by simp [ByteArray.size]; omega)) ?_
  rintro e w' ⟨rfl, rfl | rfl⟩
  · exact ⟨_, rfl, by simp [S], Fr.refl _ _⟩
  · exact ⟨_, rfl, by simp [S], Fr.drew _ _⟩
theorem scut_ok (l m : List UInt8) (w0 : World) (hG : Glob w0) (hl : l.length < 4294967281) : Rets Tryz.prog 29 #[S l, S m] w0 fun v w' => v = .tuple #[S (Lib.cut l m).1, S (Lib.cut l m).2.1, .bool (Lib.cut l m).2.2] ∧ Fr [] w0 w' := by
  obtain ⟨k, hk⟩ := hG.ml
  refine Calls.mono (Tryz.strings_Cut ⟨l.toArray⟩ ⟨m.toArray⟩ k w0 (by simpa [ByteArray.size] using hl) hk) ?_
  rintro e w' ⟨rfl, n, rfl⟩
  exact ⟨_, rfl, rfl, Fr.drewN _ _ _⟩
end Go.Proofs.YtbalocjcbmkecaaGreatDoor
