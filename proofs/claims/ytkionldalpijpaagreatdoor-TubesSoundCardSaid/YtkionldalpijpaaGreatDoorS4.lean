/- Texts of the proof, joined. -/
import Derived.Test.YtkionldalpijpaaGreatDoorRows
import Derived.Lib.LaidTab
import Derived.LaidSub
import Derived.Test.YtkionldalpijpaaGreatDoorCards
import Derived.Test.YtkionldalpijpaaGreatDoorTie
import Derived.ChangeMaps5
import Derived.Laws.RangeString
import Derived.Test.YtkionldalpijpaaGreatDoorS3
set_option linter.unusedVariables false
set_option linter.unusedSimpArgs false
namespace Go.Proofs.YtkionldalpijpaaGreatDoor
open Go.Lw Go.G21

/-- What the package-level variables hold. -/
structure Glob (w : World) : Prop where
  ml : IntAt 0 w
  es : ∃ te pe, w.cell? ⟨1, 0, none⟩ = some (.iface te pe)
  er : ∃ te pe, w.cell? ⟨2, 0, none⟩ = some (.iface te pe)
  sz : 8 ≤ w.heap.size
theorem Glob.fr {w w' : World} {S : List Nat} (h : Glob w) (hf : Fr S w w') (hS : ∀ k ∈ S, 8 ≤ k) : Glob w' := by
  have hn : ∀ g, g < 8 → g ∉ S := fun g hg e => by have := hS g e; omega
  exact ⟨h.ml.fr hf (hn _ (by decide)), let ⟨a, b, e⟩ := h.es; ⟨a, b, hf.cell e (hn _ (by decide))⟩, let ⟨a, b, e⟩ := h.er; ⟨a, b, hf.cell e (hn _ (by decide))⟩, Nat.le_trans h.sz hf.size⟩
theorem Glob.ext {w w' : World} (h : Glob w) (hf : Fr [] w w') : Glob w' := h.fr hf (by simp)
theorem itoa_ok (n : Int) (w0 : World) (h : 0 ≤ n ∧ n < 100) : Rets Tryz.prog 44 #[.int .i64 n] w0 fun v w' => v = S (dT n) ∧ w0 = w' := by
  obtain ⟨k, rfl⟩ := Int.eq_ofNat_of_zero_le h.1
  refine Calls.mono (Tryz.strconv_Itoa_small k (by omega) w0) ?_
  rintro e w' ⟨rfl, rfl⟩
  exact ⟨_, rfl, by rw [dec0_eq (by omega)]; rfl, rfl⟩
theorem bytes_fr (w : World) (t : ByteArray) : Fr [] w (Lib.bytesWorld w 5 t) := Fr.of_below (Lib.bytesWorld_below w 5 t)
theorem atoi_ok (l : List UInt8) (w0 : World) (hG : Glob w0) (hl : l.length ≤ 1000000) : Rets Tryz.prog 64 #[S l] w0 fun r w' => ∃ n e, ∃ b : Bool, r = .tuple #[.int .i64 n, e] ∧ (e = .nilIface ∧ b = false ∨ (∃ t p, e = .iface t p) ∧ b = true) ∧ (b = false → Lib.atoiAll l = .ok n) ∧ (b = true → ∀ v, Lib.atoiAll l ≠ .ok v) ∧ Fr [] w0 w' := by
  have hs : (⟨l.toArray⟩ : ByteArray).size = l.length := by simp [ByteArray.size]
  rcases h : Lib.atoiAll l with v | _ | _
  · refine Calls.mono (Tryz.strconv_Atoi_ok ⟨l.toArray⟩ (by omega) v (by simpa using h) w0) ?_
    rintro e w' ⟨rfl, hw⟩
    refine ⟨_, rfl, v, .nilIface, false, rfl, .inl ⟨rfl, rfl⟩, fun _ => rfl, (fun e => by cases e), ?_⟩
    rcases hw with rfl | ⟨t, rfl⟩
    · exact Fr.refl _ _
    · exact bytes_fr w0 t
  · obtain ⟨te, pe, he⟩ := hG.es
    refine Calls.mono (Tryz.strconv_Atoi_syntax ⟨l.toArray⟩ (by omega) (show Lib.atoiAll l = Lib.atoiAll [] from h) _ w0 he (.inr ⟨_, _, rfl⟩)) ?_
    rintro e w' ⟨N, rfl, _, _, hb⟩
    exact ⟨_, rfl, _, _, true, rfl, .inr ⟨⟨_, _, rfl⟩, rfl⟩, (fun e => by cases e), (fun _ v e => by cases e), Fr.of_below hb⟩
  · obtain ⟨te, pe, he⟩ := hG.er
    refine Calls.mono (Tryz.strconv_Atoi_range ⟨l.toArray⟩ (by omega) (by simpa using h) _ w0 he (.inr ⟨_, _, rfl⟩)) ?_
    rintro e w' ⟨N, rfl, _, _, hb⟩
    exact ⟨_, rfl, _, _, true, rfl, .inr ⟨⟨_, _, rfl⟩, rfl⟩, (fun e => by cases e), (fun _ v e => by cases e), Fr.of_below hb⟩
theorem split_ok (l sep : List UInt8) (w0 : World) (hG : Glob w0) (hl : l.length < 4294967281) (h1 : 1 ≤ sep.length) : Rets Tryz.prog 40 #[S l, S sep] w0 fun r w' => Lw.Own Enc.str 9 w0.heap.size w' r (Lib.split l sep) ∧ Fr [] w0 w' := by
  obtain ⟨k, hk⟩ := hG.ml
  have hs : (⟨l.toArray⟩ : ByteArray).size = l.length := by simp [ByteArray.size]
  have hs2 : (⟨sep.toArray⟩ : ByteArray).size = sep.length := by simp [ByteArray.size]
  refine Calls.mono (Tryz.strings_Split ⟨l.toArray⟩ ⟨sep.toArray⟩ k w0 (by omega) hk (by omega)) ?_
  rintro e w' ⟨rfl, rfl⟩
  have hd := Lib.splitB_data ⟨sep.toArray⟩ 0 (Lib.countB ⟨l.toArray⟩ ⟨sep.toArray⟩) ⟨l.toArray⟩
  have hc : Lib.countB ⟨l.toArray⟩ ⟨sep.toArray⟩ = Lib.count l sep := by simp [Lib.countB]
  have hn := Lib.splitB_all ⟨sep.toArray⟩ (by omega) 0 _ ⟨l.toArray⟩ rfl
  have hcl := Lib.countB_le ⟨sep.toArray⟩ (by omega) _ ⟨l.toArray⟩ (Nat.le_refl _)
  rw [hs] at hcl
  have he : Lib.split l sep = (Lib.splitB ⟨sep.toArray⟩ 0 (Lib.countB ⟨l.toArray⟩ ⟨sep.toArray⟩) ⟨l.toArray⟩).map (·.data.toList) := by rw [hd, hc]; rfl
  have hz : ∀ zs : List ByteArray, zs.map Value.string = (zs.map (·.data.toList)).flatMap Enc.str.enc := fun zs => by
    induction zs with
    | nil => rfl
    | cons z zs ih => rw [List.map_cons, List.map_cons, List.flatMap_cons, ← ih]; rfl
  refine ⟨_, rfl, .inr ⟨w0.heap.size, Lib.countB ⟨l.toArray⟩ ⟨sep.toArray⟩ + 1, _, by rw [he, List.length_map, hn], Nat.le_refl _, heap_alloc_new w0 _, by rw [he, List.length_map, hn]; exact Nat.le_refl _, by unfold maxLen; omega, ?_, ?_⟩, Fr.alloc [] w0 _⟩
  · rw [show Enc.str.sz = 1 from rfl, Nat.mul_one, List.size_toArray, List.length_map, hn]; exact Nat.le_refl _
  · rw [he, List.length_map, hn, show Enc.str.sz = 1 from rfl, Nat.mul_one, ← hz]
    exact List.take_of_length_le (by rw [List.length_map, hn]; exact Nat.le_refl _)
theorem scut_ok (l m : List UInt8) (w0 : World) (hG : Glob w0) (hl : l.length < 4294967281) : Rets Tryz.prog 42 #[S l, S m] w0 fun v w' => v = .tuple #[S (Lib.cut l m).1, S (Lib.cut l m).2.1, .bool (Lib.cut l m).2.2] ∧ Fr [] w0 w' := by
  obtain ⟨k, hk⟩ := hG.ml
  refine Calls.mono (Tryz.strings_Cut ⟨l.toArray⟩ ⟨m.toArray⟩ k w0 (by simpa [ByteArray.size] using hl) hk) ?_
  rintro e w' ⟨rfl, n, rfl⟩
  exact ⟨_, rfl, rfl, Fr.drewN _ _ _⟩
theorem numM_of {l : List UInt8} {most n : Int} {b : Bool} (hok : b = false → Lib.atoiAll l = .ok n) (hno : b = true → ∀ v, Lib.atoiAll l ≠ .ok v) : numM l most = if (b = true ∨ n < 1) ∨ most < n then 0 else n := by
  unfold numM
  cases b with
  | false =>
    rw [hok rfl]
    by_cases h : n < 1 ∨ most < n
    · rw [if_pos (h.elim (fun h => .inl (.inr h)) .inr)]; exact if_pos h
    · rw [if_neg (fun e => e.elim (fun e => e.elim (fun e => by cases e) (fun e => h (.inl e))) (fun e => h (.inr e)))]; exact if_neg h
  | true =>
    rw [if_pos (.inl (.inl rfl))]
    have := hno rfl
    split
    · rename_i v e; exact absurd e (this v)
    · rfl
end Go.Proofs.YtkionldalpijpaaGreatDoor
namespace Go.Lw
theorem laid_at {P : Program} {W : World} {n : String} {d : DataW Unit} : ∀ {l : List (String × DataW Unit)} {ps : List MemPlace}, DataW.LaidVars P W l ps → (n, d) ∈ l →
    ∃ g t cs fuel p, P.globalNamed n = some g ∧ (P.globals[g]?).map (·.type) = some t ∧ W.var? P n = some cs ∧ DataW.trod (fun _ => ()) P W 0 (fun _ => true) false fuel t cs.toList = some (d, p)
  | [], _, _, hm => by simp at hm
  | (m, e) :: r, ps, h, hm => by
    obtain ⟨g, t, cs, fuel, p, q, e1, e2, e3, e4, hr, _⟩ := h
    rcases List.mem_cons.1 hm with e | hm
    · cases e; exact ⟨g, t, cs, fuel, p, e1, e2, e3, e4⟩
    · exact laid_at hr hm
theorem iface_of {H : Type} {enc : TypeId × Value → H} {P : Program} {w : World} {base : Nat} {sp : Nat → Bool} {held : Bool} {fuel : Nat} {t : TypeId} {ms} {cs : List Value} {nm : String} {d : DataW H} {p : List MemPlace}
    (ht : P.underlying t = some (.interface ms)) (h : DataW.trod enc P w base sp held fuel t cs = some (.iface nm d, p)) : ∃ u v, cs = [.iface u v] := by
  cases fuel with
  | zero => simp [DataW.trod] at h
  | succ fuel =>
    simp only [DataW.trod, ht] at h
    split at h <;> simp_all
theorem var_lt {P : Program} {W : World} {n : String} {g : Nat} {cs : Array Value} (hg : P.globalNamed n = some g) (h : W.var? P n = some cs) : g < W.heap.size := by
  unfold World.var? at h
  simp only [hg, Option.bind_some] at h
  rcases Nat.lt_or_ge g W.heap.size with h' | h'
  · exact h'
  · rw [Array.getElem?_eq_none h'] at h; simp at h
end Go.Lw
namespace Go.Proofs.YtkionldalpijpaaGreatDoor
open Go.ChangeShapes Go.WideShapes Go.ChangeAt Go.RowKit Go.Lw

theorem own : ownKnob Tryz.prog.godebug = none := by kernel_rfl
theorem laidOut : laidOutB Tryz.prog = true := by kernel_rfl
/-- What the rows list. -/
def laidL : List (String × DataW Unit) := [("math/bits.deBruijn32tab", Rows.laid_math_bits_deBruijn32tab), ("math/bits.deBruijn64tab", Rows.laid_math_bits_deBruijn64tab), ("internal/strconv.uint64pow10", Rows.laid_internal_strconv_uint64pow10), ("unicode/utf8.acceptRanges", Rows.laid_unicode_utf8_acceptRanges), ("strconv.ErrRange", Rows.laid_strconv_ErrRange), ("strconv.ErrSyntax", Rows.laid_strconv_ErrSyntax), ("unicode/utf8.first", Rows.laid_unicode_utf8_first)]
theorem err_at {n nm : String} {d : DataW Unit} {W : World} {l : List (String × DataW Unit)} {ps : List MemPlace} {g : Nat} (hL : DataW.LaidVars Tryz.prog W l ps) (hm : (n, .iface nm d) ∈ l) (hg : Tryz.prog.globalNamed n = some g) (hty : (Tryz.prog.globals[g]?).map (·.type) = some 122) : ∃ te pe, W.cell? ⟨g, 0, none⟩ = some (.iface te pe) := by
  obtain ⟨g', t', cs, fuel, p, e1, e2, e3, e4⟩ := laid_at hL hm
  cases hg.symm.trans e1
  cases hty.symm.trans e2
  obtain ⟨u, v, hc⟩ := iface_of Tryz.underlying122 e4
  exact ⟨u, v, by rw [World.var?_cell hg e3 0, ← Array.getElem?_toList, hc]; rfl⟩
theorem glob_of {W : World} (h : laidMetH Tryz.prog laidL W) (hSh : W.ShapedOpen Tryz.prog) : Glob W := by
  have h' : laidMet Tryz.prog laidL W := h
  obtain ⟨ps, hL, _, _⟩ := h'
  refine ⟨(Go.Proofs.cell_of_shapedOpen_int (zero := #[.int .i64 0]) (t := 3) hSh (of_decide_eq_true (by kernel_rfl)) (by kernel_rfl) rfl (by kernel_rfl) (by kernel_rfl) Tryz.underlying3), ?_, ?_, ?_⟩
  · exact err_at (n := "strconv.ErrSyntax") hL (by unfold laidL; simp only [Rows.laid_strconv_ErrSyntax]; simp; exact ⟨rfl, rfl⟩) (by kernel_rfl) (by kernel_rfl)
  · exact err_at (n := "strconv.ErrRange") hL (by unfold laidL; simp only [Rows.laid_strconv_ErrRange]; simp; exact ⟨rfl, rfl⟩) (by kernel_rfl) (by kernel_rfl)
  · obtain ⟨g', t', cs, fuel, p, e1, e2, e3, e4⟩ := laid_at (n := "math/bits.deBruijn64tab") (d := Rows.laid_math_bits_deBruijn64tab) hL (by simp [laidL])
    have := var_lt (show Tryz.prog.globalNamed "math/bits.deBruijn64tab" = some 7 by kernel_rfl) e3
    omega
def plainL : List (String × DataW Unit) := laidL.filter fun p => match p.2 with | .iface _ _ => false | _ => true
noncomputable def witP (os : Os) : World := laidW Tryz.prog os plainL
noncomputable def layErr (w : World) (g : Nat) (s : List UInt8) : World := layW (w.alloc (.cells #[.string ⟨s.toArray⟩] 178)) g #[.iface 176 (.pointer (some ⟨w.heap.size, 0, none⟩))]
noncomputable def witW (os : Os) : World := layErr (layErr (witP os) 2 [118, 97, 108, 117, 101, 32, 111, 117, 116, 32, 111, 102, 32, 114, 97, 110, 103, 101]) 1 [105, 110, 118, 97, 108, 105, 100, 32, 115, 121, 110, 116, 97, 120]

end Go.Proofs.YtkionldalpijpaaGreatDoor
namespace Go.Proofs.YtkionldalpijpaaGreatDoor
open Go.Lw
def encU : Enc (Int × SV) := ⟨fun p => [.int .u8 p.1, slv p.2], 2, fun _ => rfl, fun _ u h => by simp [slv] at h; rcases h with rfl | rfl <;> rfl, by decide⟩
theorem opU_len {cs : List Value} (h : cs.length = 2) : ∃ c0 c1, cs = [c0, c1] := match cs, h with | [c0, c1], _ => ⟨c0, c1, rfl⟩
theorem opU : Opens Tryz.prog 24 encU (fun w y => (0 ≤ y.1 ∧ y.1 ≤ 255) ∧ SlR Enc.b (fun _ _ => True) w y.2) := by
  intro H enc w base sp held fuel cs x h
  obtain ⟨xs, n, _, _, hl, hlen, hf⟩ := DataW.trod_struct Tryz.underlying24 h
  rw [show Tryz.prog.cellsOf 24 = 2 by kernel_rfl] at hl
  obtain ⟨c0, c1, rfl⟩ := opU_len hl
  have h0 : DataW.trod enc Tryz.prog w base sp held n 5 (([c0, c1].drop 0).take (Tryz.prog.cellsOf 5)) = xs[0]? := hf 0 _ rfl
  rw [show Tryz.prog.cellsOf 5 = 1 by kernel_rfl] at h0
  obtain ⟨y0, e0, r0⟩ := opens_field (cs := [c0]) h0 hlen (by decide) (opens_u8 Tryz.underlying5)
  have h1 : DataW.trod enc Tryz.prog w base sp held n 22 (([c0, c1].drop 1).take (Tryz.prog.cellsOf 22)) = xs[1]? := hf 1 _ rfl
  rw [show Tryz.prog.cellsOf 22 = 1 by kernel_rfl] at h1
  obtain ⟨y1, e1, r1⟩ := opens_field (cs := [c1]) h1 hlen (by decide) (opens_slice Tryz.underlying22 (by kernel_rfl) (opens_b Tryz.underlying5))
  cases e0
  cases e1
  exact ⟨(y0, y1), rfl, ⟨r0, r1⟩⟩
end Go.Proofs.YtkionldalpijpaaGreatDoor
namespace Go.Proofs.YtkionldalpijpaaGreatDoor
open Go.Lw Go.G21
theorem co64 : CallOf Tryz.prog 64 := CallOf.mk' Tryz.func64 (by kernel_rfl) (by kernel_rfl)
theorem number_ok (l : List UInt8) (most : Int) (w0 : World) (hG : Glob w0) (hl : l.length ≤ 1000000) : Rets Tryz.prog 41 #[S l, .int .i64 most] w0 fun v w' => v = .int .i64 (numM l most) ∧ Fr [] w0 w' := by
 have hGs := hG.sz
 refine we [(0, S l), (1, .int .i64 most)] Tryz.func41 rfl Tryz.ntmps41 rfl (.cons rfl (.cons rfl .nil)) ?_
 have hG0 := hG
 refine sr (asg rfl rfl (nn (sr (mv rfl rfl ?_))))
 refine cl (ev1 rfl) co64 (atoi_ok _ _ hG (by omega)) rfl ?_
 rintro _ w1 ⟨n, e, b, rfl, hb, hok, hno, q1⟩
 have z1 := q1.size
 refine mv rfl rfl (xt rfl rfl rfl (xt rfl rfl rfl (asg rfl rfl (asg rfl rfl (kpL [(1, _), (5, _), (6, _)] (.cons rfl (.cons rfl (.cons rfl .nil))) (nn (sq (sq ?_))))))))
 refine rbo (r := 22) (L' := [(5, _)]) ((((b = true) ∨ (n < 1)) ∨ (most < n))) (.cons rfl .nil) ?_ ?_
 · refine mv rfl rfl ?_
   refine s_neNil rfl Tryz.underlying122 hb rfl ?_
   refine mv rfl rfl ?_
   refine gs 14 rfl (fun g0 => ?_) (fun g0 => ?_)
   · exact gN rfl rfl rfl (gN rfl rfl rfl (pkt rfl rfl rfl rfl (mv rfl rfl (gN rfl rfl rfl (gN rfl rfl rfl (gN rfl rfl rfl (pkt rfl rfl rfl rfl (rbe rfl (by first | exact bt (by omega) | exact bf (by omega) | exact bi (by omega) | exact bn (by omega) | (simp_all; done) | (simp_all; omega)) (.cons rfl .nil)))))))))
   · refine gY rfl (mv rfl rfl (gY rfl (lt' rfl rfl rfl (pkf rfl rfl rfl rfl (mv rfl rfl ?_)))))
     refine gs 18 rfl (fun g1 => ?_) (fun g1 => ?_)
     · exact gN rfl rfl rfl (gN rfl rfl rfl (gN rfl rfl rfl (pkt rfl rfl rfl rfl (rbe rfl (by first | exact bt (by omega) | exact bf (by omega) | exact bi (by omega) | exact bn (by omega) | (simp_all; done) | (simp_all; omega)) (.cons rfl .nil)))))
     · exact gY rfl (mv rfl rfl (gY rfl (mv rfl rfl (gY rfl (gt' rfl rfl rfl (pkf rfl rfl rfl rfl (rbe rfl (by first | exact bt (by omega) | exact bf (by omega) | exact bi (by omega) | exact bn (by omega) | (simp_all; done) | (simp_all; omega)) (.cons rfl .nil))))))))
 · refine tn ?_
   refine cd rfl (fun c0 => ?_) (fun c0 => ?_)
   · refine sr (asg rfl rfl (nn (rt (tr (r1 Tryz.results41 rfl ?_)))))
     exact ⟨_, rfl, by rw [numM_of hok hno, if_pos c0], q1⟩
   · refine sk (tn (sr (mv rfl rfl (asg rfl rfl (nn (rt (r1 Tryz.results41 rfl ?_)))))))
     exact ⟨_, rfl, by rw [numM_of hok hno, if_neg c0]; rfl, q1⟩
end Go.Proofs.YtkionldalpijpaaGreatDoor
namespace Go.Proofs.YtkionldalpijpaaGreatDoor
open Go.Lw Go.G21
theorem co44 : CallOf Tryz.prog 44 := CallOf.mk' Tryz.func44 (by kernel_rfl) (by kernel_rfl)
theorem text_ok (wd : Int) (v : Value) (rs : List UInt8) (w0 : World) (hs : Sl Enc.b w0 v rs) : Rets Tryz.prog 23 #[.agg #[.int .i64 wd, v]] w0 fun r w' => r = S (if tubE wd rs = 0 then textT wd rs else []) ∧ Fr [] w0 w' := by
 obtain ⟨A, c, rfl, hcc, hM, hA⟩ := id hs
 clear hA
 unfold maxLen at hM
 refine we [(0, .agg #[.int .i64 wd, .slice A rs.length c])] Tryz.func23 rfl Tryz.ntmps23 rfl (.cons rfl .nil) ?_
 have hs0 := hs
 refine sr (bx rfl rfl rfl (fun g1 w1 hg1 hb1 q1 z1 => ?_))
 refine asg rfl rfl (nn (sc (sq (sr (s_loadBA rfl hb1 ag26 rfl ?_)))))
 replace hs := hs0.ext q1
 refine cl (ev1 rfl) co9 (tcheck_ok _ _ _ _ hs) rfl ?_
 rintro _ w2 ⟨rfl, q2⟩
 have z2 := q2.size
 refine ne' rfl rfl rfl (nn ?_)
 refine cd rfl (fun c0 => ?_) (fun c0 => ?_)
 · refine sr (asg rfl rfl (nn (rt (tr (gr' (r1 Tryz.results23 rfl ?_))))))
   exact ⟨_, rfl, by rw [if_neg c0]; rfl, (q1.next q2)⟩
 · have h0 : tubE wd rs = 0 := Classical.not_not.1 c0
   obtain ⟨hw1, hw16, hl1, hl31, hv⟩ := tub_of h0
   have hd0 := dT_le wd
   refine sk (tn (sr (fad rfl fa26_0 rfl ?_)))
   replace hb1 := hb1.ext q2
   refine s_loadB rfl hb1 rfl na3 rfl ?_
   refine cl (ev1 rfl) co44 (itoa_ok _ _ (by omega)) rfl ?_
   rintro _ _ ⟨rfl, rfl⟩
   refine s_adds rfl rfl (by first | (simp only [List.length_append, List.length_cons, List.length_nil]; omega) | omega | (simp; done) | (simp; omega)) rfl (asg rfl rfl (nn (sr (asg rfl rfl (nn (sq (lb (tn (sq (bl ?_))))))))))
   refine lpK (ι := Nat × List UInt8) [(1, _)] (fun p => [(4, .int .i64 (p.1 : Int)), (3, S p.2)]) (fun p w' => Fr [] w2 w' ∧ p.1 ≤ rs.length ∧ p.2.length ≤ 7 + 8 * p.1 ∧ p.2 ++ textR (rs.drop p.1) = textT wd rs) (fun p => rs.length - p.1) (0, [116, 117, 98, 101, 32] ++ dT wd) (.cons rfl (.cons rfl (.cons rfl .nil))) ⟨Fr.refl _ _, ⟨Nat.zero_le _, by simp only [List.length_append, List.length_cons, List.length_nil]; omega, rfl⟩⟩ ?_
   rintro ⟨i, acc⟩ w3 ⟨q3, ⟨hi, hal, hT⟩⟩
   simp only at hi hal hT
   have z3 := q3.size
   refine kpC [(1, _), (4, .int .i64 (i : Int)), (3, S acc)] (.cons rfl (.cons rfl (.cons rfl .nil))) ?_
   refine sq (sr (mv rfl rfl (fad rfl fa26_1 rfl ?_)))
   replace hb1 := hb1.ext q3
   refine s_loadB rfl hb1 rfl na22 rfl (lnS rfl Tryz.underlying22 rfl (lt' rfl rfl rfl (nn ?_)))
   refine cd rfl (fun c1 => ?_) (fun c1 => ?_)
   · have hy := hv _ (mem_getD (d := 0) (i := i) (by omega))
     have hd1 := dT_le (((rs.getD i 0)).toNat : Int)
     refine sk (tn (bl (sr (fad rfl fa26_1 rfl (s_loadB rfl hb1 rfl na22 rfl (mv rfl rfl ?_))))))
     replace hs := hs0.ext ((q1.next q2).next q3)
     refine s_idxL (p := i) ((0 : UInt8)) rfl hs rfl el22 (by omega) (by omega) (by omega) rfl (fun ad22 hc22 => ?_)
     refine s_loadC0 rfl (hc22 _ hs) na5 rfl (asg rfl rfl (kpL [(1, _), (3, _), (4, _), (5, _)] (.cons rfl (.cons rfl (.cons rfl (.cons rfl .nil)))) (nn (sr (mv rfl rfl (mv rfl rfl (s_conv rfl (us Tryz.underlying5) Tryz.underlying3 (wi6 (by omega)) rfl ?_)))))))
     refine cl (ev1 rfl) co44 (itoa_ok _ _ (by omega)) rfl ?_
     rintro _ _ ⟨rfl, rfl⟩
     refine s_adds rfl rfl (by first | (simp only [List.length_append, List.length_cons, List.length_nil]; omega) | omega | (simp; done) | (simp; omega)) rfl (s_adds rfl rfl (by first | (simp only [List.length_append, List.length_cons, List.length_nil]; omega) | omega | (simp; done) | (simp; omega)) rfl (asg rfl rfl (kpL [(1, _), (3, _), (4, _), (5, _)] (.cons rfl (.cons rfl (.cons rfl (.cons rfl .nil)))) (nn (sr (asg rfl rfl (nn (bl ?_))))))))
     refine lpK (ι := Nat) [(1, _), (3, _), (4, _), (5, _)] (fun k => [(6, .int .i64 (k : Int))]) (fun k w' => Fr [] w3 w' ∧ 1 ≤ k ∧ i + k ≤ rs.length ∧ ∀ j, i ≤ j → j < i + k → rs.getD j 0 = rs.getD i 0) (fun k => rs.length - k) 1 (.cons rfl (.cons rfl (.cons rfl (.cons rfl (.cons rfl .nil))))) ⟨Fr.refl _ _, ⟨Nat.le_refl _, by omega, fun j h1 h2 => by rw [show j = i by omega]⟩⟩ ?_
     rintro k w4 ⟨q4, ⟨hk1, hkl, hk⟩⟩
     have z4 := q4.size
     refine kpC [(1, _), (3, _), (4, _), (5, _), (6, _)] (.cons rfl (.cons rfl (.cons rfl (.cons rfl (.cons rfl .nil))))) ?_
     refine sq (bl (sq (sq ?_)))
     refine rbo (r := 49) (L' := [(1, _), (3, _), (4, _), (5, _), (6, _)]) (((((i : Int) + (k : Int)) < (rs.length : Int)) ∧ (((rs.getD (i + k) 0).toNat : Int) = ((rs.getD i 0).toNat : Int)))) (.cons rfl (.cons rfl (.cons rfl (.cons rfl (.cons rfl .nil))))) ?_ ?_
     · refine mv rfl rfl (mv rfl rfl (s_add rfl rfl (wi6 (by omega)) rfl (fad rfl fa26_1 rfl ?_)))
       replace hb1 := hb1.ext q4
       refine s_loadB rfl hb1 rfl na22 rfl (lnS rfl Tryz.underlying22 rfl (lt' rfl rfl rfl (mv rfl rfl ?_)))
       refine gs 39 rfl (fun g0 => ?_) (fun g0 => ?_)
       · refine gY rfl (fad rfl fa26_1 rfl (gY rfl (s_loadB rfl hb1 rfl na22 rfl (gY rfl (mv rfl rfl (gY rfl (mv rfl rfl (gY rfl (s_add rfl rfl (wi6 (by omega)) rfl (gY rfl ?_))))))))))
         replace hs := hs0.ext (((q1.next q2).next q3).next q4)
         refine s_idxL (p := (i + k)) ((0 : UInt8)) rfl hs rfl el22 (by omega) (by omega) (by omega) rfl (fun ad45 hc45 => ?_)
         exact gY rfl (s_loadC0 rfl (hc45 _ hs) na5 rfl (gY rfl (mv rfl rfl (gY rfl (eq' rfl rfl rfl (pkt rfl rfl rfl rfl (rbe rfl (by first | exact bt (by omega) | exact bf (by omega) | exact bi (by omega) | exact bn (by omega) | (simp_all; done) | (simp_all; omega)) (.cons rfl (.cons rfl (.cons rfl (.cons rfl (.cons rfl .nil))))))))))))
       · exact gN rfl rfl rfl (gN rfl rfl rfl (gN rfl rfl rfl (gN rfl rfl rfl (gN rfl rfl rfl (gN rfl rfl rfl (gN rfl rfl rfl (gN rfl rfl rfl (gN rfl rfl rfl (pkf rfl rfl rfl rfl (rbe rfl (by first | exact bt (by omega) | exact bf (by omega) | exact bi (by omega) | exact bn (by omega) | (simp_all; done) | (simp_all; omega)) (.cons rfl (.cons rfl (.cons rfl (.cons rfl (.cons rfl .nil)))))))))))))))
     · refine tn ?_
       refine cd rfl (fun c2 => ?_) (fun c2 => ?_)
       · refine ex (te (xh (tn (rg (mv rfl rfl (s_add rfl rfl (wi6 (by omega)) rfl (asg rfl rfl (nl ?_))))))))
         exact lpE (k + 1) (.cons rfl (.cons rfl (.cons rfl (.cons rfl (.cons rfl .nil))))) ⟨q4, ⟨by omega, by omega, fun j h1 h2 => by
             by_cases e : j < i + k
             · exact hk j h1 e
             · rw [show j = i + k by omega]; exact UInt8.toNat_inj.1 (by omega)⟩⟩ (by omega)
       · refine sk (tn (sq (sr (mv rfl rfl (gt' rfl rfl rfl (nn ?_))))))
         refine cd rfl (fun c3 => ?_) (fun c3 => ?_)
         · have hd2 := dT_le (k : Int)
           refine rg (mv rfl rfl (mv rfl rfl ?_))
           refine cl (ev1 rfl) co44 (itoa_ok _ _ (by omega)) rfl ?_
           rintro _ _ ⟨rfl, rfl⟩
           refine s_adds rfl rfl (by first | (simp only [List.length_append, List.length_cons, List.length_nil]; omega) | omega | (simp; done) | (simp; omega)) rfl (s_adds rfl rfl (by first | (simp only [List.length_append, List.length_cons, List.length_nil]; omega) | omega | (simp; done) | (simp; omega)) rfl (asg rfl rfl (kpL [(1, _), (3, _), (4, _), (6, _)] (.cons rfl (.cons rfl (.cons rfl (.cons rfl .nil)))) (nl (tn (sr (mv rfl rfl (mv rfl rfl (s_add rfl rfl (wi6 (by omega)) rfl (asg rfl rfl (nn ?_)))))))))))
           refine ex (xo rfl (te (te (xo rfl (xh ?_)))))
           exact lpE ((i + k, acc ++ (32 :: dT (((rs.getD i 0)).toNat : Int)) ++ (120 :: dT (k : Int)))) (.cons rfl (.cons rfl (.cons rfl .nil))) ⟨(q3.next q4), ⟨by simp only; omega, (by simp only [List.length_append, List.length_cons, List.length_nil]; omega), (by have hr := run_end (rs := rs) (i := i) (k := i + k) (by omega) (by omega) hk (by first | exact .inl (by omega) | exact .inr (fun e => c2 ⟨by omega, by rw [e]⟩) | (by_cases e_ : i + k < rs.length; exact .inr (fun e => c2 ⟨by omega, by rw [e]⟩); exact .inl (by omega))); rw [Nat.add_sub_cancel_left] at hr; unfold Go.G21.runT at hr; rw [if_pos (by omega)] at hr; rw [hr] at hT; simpa [dT] using hT)⟩⟩ (by simp only; omega)
         · refine sk (tn (sr (mv rfl rfl (mv rfl rfl (s_add rfl rfl (wi6 (by omega)) rfl (asg rfl rfl (nn (ex (xo rfl (te (te ?_)))))))))))
           refine xo rfl (xh ?_)
           exact lpE ((i + k, acc ++ (32 :: dT (((rs.getD i 0)).toNat : Int)))) (.cons rfl (.cons rfl (.cons rfl .nil))) ⟨(q3.next q4), ⟨by simp only; omega, (by simp only [List.length_append, List.length_cons, List.length_nil]; omega), (by have hr := run_end (rs := rs) (i := i) (k := i + k) (by omega) (by omega) hk (by first | exact .inl (by omega) | exact .inr (fun e => c2 ⟨by omega, by rw [e]⟩) | (by_cases e_ : i + k < rs.length; exact .inr (fun e => c2 ⟨by omega, by rw [e]⟩); exact .inl (by omega))); rw [Nat.add_sub_cancel_left] at hr; unfold Go.G21.runT at hr; rw [if_neg (by omega)] at hr; rw [hr] at hT; simpa [dT] using hT)⟩⟩ (by simp only; omega)
   · have hie : i = rs.length := by omega
     rw [hie, List.drop_length, textR_nil, List.append_nil] at hT
     refine ex (te (te (xh (tn (sr (mv rfl rfl (asg rfl rfl (nn (rt (gr' (r1 Tryz.results23 rfl ?_)))))))))))
     exact ⟨_, rfl, by rw [if_pos h0, ← hT], ((q1.next q2).next q3)⟩
end Go.Proofs.YtkionldalpijpaaGreatDoor
namespace Go.Proofs.YtkionldalpijpaaGreatDoor
open Go.Lw Go.G21

/-- The tube with a text. -/
def parS (s : List UInt8) : Option (Int × List UInt8) :=
  if (Lib.split s [32]).length < 3 then none else
  if tubE (numM ((Lib.split s [32]).getD 1 []) 16) (guessR ((Lib.split s [32]).drop 2)) = 0 ∧ textT (numM ((Lib.split s [32]).getD 1 []) 16) (guessR ((Lib.split s [32]).drop 2)) = s then some (numM ((Lib.split s [32]).getD 1 []) 16, guessR ((Lib.split s [32]).drop 2)) else none
theorem addW_len (acc w : List UInt8) (h : acc.length ≤ 32) : (addW acc w).length ≤ 32 := by
  unfold addW
  rw [List.length_append, List.length_replicate]
  omega
theorem guess_len (ws : List (List UInt8)) : (guessR ws).length ≤ 32 := by
  have : ∀ (ws : List (List UInt8)) (acc : List UInt8), acc.length ≤ 32 → (ws.foldl addW acc).length ≤ 32 := by
    intro ws
    induction ws with
    | nil => exact fun acc h => h
    | cons w ws ih => exact fun acc h => ih _ (addW_len acc w h)
  exact this ws [] (by simp)
theorem guess_snoc (ws : List (List UInt8)) (w : List UInt8) : guessR (ws ++ [w]) = addW (guessR ws) w := by simp [guessR]
end Go.Proofs.YtkionldalpijpaaGreatDoor
namespace Go.Proofs.YtkionldalpijpaaGreatDoor
open Go.Lw Go.G21
theorem bo26 : BuildAt Tryz.prog 26 [(0, 1), (1, 1)] [(.int .i64 0), (.slice none 0 0)] := BuildAt.struct Tryz.underlying26 (fun _ => by kernel_rfl) (fun _ => by kernel_rfl)
theorem co23 : CallOf Tryz.prog 23 := CallOf.mk' Tryz.func23 (by kernel_rfl) (by kernel_rfl)
theorem co40 : CallOf Tryz.prog 40 := CallOf.mk' Tryz.func40 (by kernel_rfl) (by kernel_rfl)
theorem co41 : CallOf Tryz.prog 41 := CallOf.mk' Tryz.func41 (by kernel_rfl) (by kernel_rfl)
theorem co42 : CallOf Tryz.prog 42 := CallOf.mk' Tryz.func42 (by kernel_rfl) (by kernel_rfl)
theorem co43 : CallOf Tryz.prog 43 := CallOf.mk' Tryz.func43 (by kernel_rfl) (by kernel_rfl)
theorem el98 : ElemOf Tryz.prog 98 9 Enc.str 16 := ElemOf.mk' (z := (.string ⟨#[]⟩)) Tryz.underlying98 (by kernel_rfl) rfl
theorem na9 : NotAgg Tryz.prog 9 := fun _ => by kernel_rfl
theorem sz22 : SizeOf Tryz.prog 22 1 := fun _ => by kernel_rfl
theorem sz26 : SizeOf Tryz.prog 26 2 := fun _ => by kernel_rfl
theorem zv26 (w : World) : (zeroValue 26).run Tryz.prog w = .ok (.agg #[(.int .i64 0), (.slice none 0 0)]) w := by kernel_rfl
theorem cut_len2 (x m : List UInt8) : (Lib.cut x m).2.1.length ≤ x.length := by unfold Lib.cut; (repeat' split) <;> simp <;> omega
theorem bytc {n : Int} (h : 0 ≤ n ∧ n ≤ 255) : [Value.int .u8 n].map Value.cells = [UInt8.ofNat n.toNat].map (fun y => (Enc.b.enc y).toArray) := by
  have e : ((UInt8.ofNat n.toNat).toNat : Int) = n := by rw [UInt8.toNat_ofNat']; omega
  show [#[Value.int .u8 n]] = [#[Value.int .u8 ((UInt8.ofNat n.toNat).toNat : Int)]]
  rw [e]
theorem rep_snoc {α : Type} (l : List α) (k : Nat) (x : α) : (l ++ List.replicate k x) ++ [x] = l ++ List.replicate (k + 1) x := by
  rw [List.append_assoc]; congr 1
  exact (List.replicate_succ' (n := k) (a := x)).symm
theorem blks_cut {A : Option Addr} {b : Prop} [Decidable b] {q m c m' c' : Nat} : blks (.slice (if b then A else A.map (·.add q)) m' c') = blks (.slice A m c) := by
  cases A <;> split <;> simp [blks, block_add]
theorem guess_take (ws : List (List UInt8)) (i : Nat) (h : i < ws.length) : guessR (ws.take (i + 1)) = addW (guessR (ws.take i)) (ws.getD i []) := by
  rw [List.take_add_one, List.getElem?_eq_getElem h, List.getD, List.getElem?_eq_getElem h]
  exact guess_snoc _ _
theorem tx_some {c : Prop} [Decidable c] {t s : List UInt8} (h : ¬ ((if c then t else []) = [] ∨ (if c then t else []) ≠ s)) : c ∧ t = s := by
  by_cases hc : c
  · rw [if_pos hc] at h; exact ⟨hc, Classical.not_not.1 fun e => h (.inr e)⟩
  · rw [if_neg hc] at h; exact absurd (.inl rfl) h
theorem tx_none {c : Prop} [Decidable c] {t s : List UInt8} (ht : t ≠ []) (h : (if c then t else []) = [] ∨ (if c then t else []) ≠ s) : ¬ (c ∧ t = s) := fun ⟨h1, h2⟩ => by
  rw [if_pos h1] at h; exact h.elim ht fun e => e h2
theorem textT_ne (wd : Int) (rs : List UInt8) : textT wd rs ≠ [] := by simp [textT]
theorem clipb_ok (A : Option Addr) (m c : Nat) (w0 : World) (hc : m ≤ c) : Rets Tryz.prog 43 #[.slice A m c] w0 fun v w' => v = .slice A m m ∧ w0 = w' := by
 refine we [(0, .slice A m c)] Tryz.func43 rfl Tryz.ntmps43 rfl (.cons rfl .nil) ?_
 refine sr (asg rfl rfl (nn (sr (mv rfl rfl (mv rfl rfl (lnS rfl Tryz.underlying22 rfl (mv rfl rfl (lnS rfl Tryz.underlying22 rfl (s_sl_hm rfl rfl rfl el22 (by omega) (by omega) (by omega) nat_of nat_of rfl (asg rfl rfl (kpL [(2, _)] (.cons rfl .nil) ?_)))))))))))
 refine nn (rt (r1 Tryz.results43 rfl ?_))
 exact ⟨_, rfl, rfl, rfl⟩
set_option maxHeartbeats 1000000 in
theorem parse_ok (s : List UInt8) (w0 : World) (hG : Glob w0) (hl : s.length ≤ 1000000) : Rets Tryz.prog 22 #[S s] w0 fun r w' => ∃ (wd : Int) (A : Option Addr) (rs : List UInt8) (e : Int), r = .tuple #[.agg #[.int .i64 wd, .slice A rs.length rs.length], .int .i64 e] ∧ Sl Enc.b w' (.slice A rs.length rs.length) rs ∧ (e = 0 ∧ parS s = some (wd, rs) ∨ e = 4 ∧ wd = 0 ∧ rs = [] ∧ parS s = none) ∧ Fr [] w0 w' := by
 have hsl := fun i => split_len s [32] i
 have hs1 := split_len s [32] 1
 have hgl := fun k => guess_len (((Lib.split s [32]).drop 2).take k)
 have hGs := hG.sz
 refine we [(0, S s)] Tryz.func22 rfl Tryz.ntmps22 rfl (.cons rfl .nil) ?_
 have hG0 := hG
 refine sr (al zv26 rfl rfl (fun g2 w1 hg2 hb2 q1 z1 => ?_))
 refine asg rfl rfl (nn (sr (mv rfl rfl ?_)))
 replace hG := hG0.ext q1
 refine cl (ev2 rfl rfl) co40 (split_ok _ _ _ hG (by omega) (by decide)) rfl ?_
 rintro V14 w2 ⟨ho14, q2⟩
 have z2 := q2.size
 obtain ⟨A14, c14, rfl, hc14⟩ := ho14.sl.form
 have hb14 := fun k hk => (ho14.blk k hk).2
 have hl14 := ho14.sl.len_le
 unfold maxLen at hl14
 refine asg rfl rfl (nn (sq (sr (mv rfl rfl (lnS rfl Tryz.underlying98 rfl (lt' rfl rfl rfl (nn ?_)))))))
 refine cd rfl (fun c0 => ?_) (fun c0 => ?_)
 · refine sr (s_lit (cs := [_, _]) evs_nil bo26 pok_nil rfl rfl ?_)
   replace hb2 := hb2.ext q2
   refine s_storeBA (vs := [_, _]) rfl rfl hb2 (by rfl) (by first | (simp [Value.oneCell', S]; done) | exact Enc.one _ _) sz26 (fun w3 hb2 q3 z3 => ?_)
   refine asg rfl rfl (nn (rt (tr (rCT Tryz.results22 rfl hb2 ag26 rfl ?_))))
   exact ⟨_, rfl, 0, none, [], 4, rfl, Sl.nil _, .inr ⟨rfl, rfl, rfl, by unfold parS; rw [if_pos (by omega)]⟩, ((q1.next q2).step q3 (by first | (simp; done) | (simp; omega)))⟩
 · refine sk (tn (sr (mv rfl rfl (s_idxL (p := 1) (([] : List UInt8)) rfl ho14.sl rfl el98 (by omega) (by omega) rfl rfl (fun ad20 hc20 => ?_)))))
   refine s_loadC0 rfl (hc20 _ ho14.sl) na9 rfl ?_
   replace hG := hG0.ext (q1.next q2)
   refine cl (ev2 rfl rfl) co41 (number_ok _ _ _ hG (by omega)) rfl ?_
   rintro _ w4 ⟨rfl, q4⟩
   have z4 := q4.size
   refine s_lit (cs := [_, _]) (ev1 rfl) bo26 (pok_cons rfl rfl rfl pok_nil) rfl rfl ?_
   refine al zv26 rfl rfl (fun g5 w5 hg5 hb5 q5 z5 => ?_)
   refine s_storeBA (vs := [_, _]) rfl rfl hb5 (by rfl) (by first | (simp [Value.oneCell', S]; done) | exact Enc.one _ _) sz26 (fun w6 hb5 q6 z6 => ?_)
   refine kpL [(0, _), (2, _), (4, _), (5, _)] (.cons rfl (.cons rfl (.cons rfl (.cons rfl .nil)))) (nn (sq (sr (mv rfl rfl ?_))))
   replace ho14 := (ho14.ext (q4.next q5)).fr q6 (by intro k hk hb; simp at hk; subst hk; have := (ho14.blk _ hb); omega)
   replace hb2 := (hb2.ext ((q2.next q4).next q5)).fr q6 (by first | (simp; done) | (simp; omega) | (simp [blks]; done) | (simp [blks]; omega))
   refine s_sl_l (p := 2) rfl rfl el98 (by omega) (by omega) rfl rfl ?_
   have hw2 := ho14.sl.cutv (p := 2) (p' := (Lib.split s [32]).length) (by omega) (Nat.le_refl _)
   rw [List.take_length] at hw2
   have hw5 : g5 ∉ blks (.slice (if c14 = 2 then A14 else A14.map (·.add (2 * Enc.str.sz))) ((Lib.split s [32]).length - 2) (c14 - 2)) := fun hk => by
     rw [blks_cut (m := (Lib.split s [32]).length) (c := c14)] at hk
     have := hb14 _ hk; omega
   generalize (if c14 = 2 then A14 else A14.map (·.add (2 * Enc.str.sz))) = A25 at hw2 hw5 ⊢
   generalize c14 - 2 = c25 at hw2 hw5 ⊢
   rw [show (Lib.split s [32]).length - 2 = ((Lib.split s [32]).drop 2).length by simp] at hw2 hw5 ⊢
   have hw20 := hw2
   have hb20 := hb2
   have hMw := hw2.len_le
   unfold maxLen at hMw
   refine lnS rfl Tryz.underlying98 rfl (mv rfl rfl (nn (bl ?_)))
   refine lpK (ι := Nat) [(0, _), (2, _), (5, _), (25, _), (26, _)] (fun i => [(27, .int .i64 (i : Int))]) (fun i w' => Fr [g5] w6 w' ∧ i ≤ ((Lib.split s [32]).drop 2).length ∧ ∃ A c, Blk w' g5 26 [.int .i64 (numM ((Lib.split s [32]).getD 1 []) 16), .slice A ((guessR (((Lib.split s [32]).drop 2).take i))).length c] ∧ Lw.Own Enc.b 5 (g5 + 1) w' (.slice A ((guessR (((Lib.split s [32]).drop 2).take i))).length c) ((guessR (((Lib.split s [32]).drop 2).take i)))) (fun i => ((Lib.split s [32]).drop 2).length - i) 0 (.cons rfl (.cons rfl (.cons rfl (.cons rfl (.cons rfl (.cons rfl .nil)))))) ⟨(Fr.refl _ _), ⟨Nat.zero_le _, ⟨none, 0, hb5, Own.nil _⟩⟩⟩ ?_
   rintro i w7 ⟨q7, ⟨hi, ⟨A, c, hb5, ho⟩⟩⟩
   have z7 := q7.size
   have lt_hb5 := hb5.lt
   refine kpC [(0, _), (2, _), (5, _), (25, _), (26, _), (27, _)] (.cons rfl (.cons rfl (.cons rfl (.cons rfl (.cons rfl (.cons rfl .nil)))))) ?_
   refine sr (lt' rfl rfl rfl (nn (sq ?_)))
   refine cd rfl (fun c1 => ?_) (fun c1 => ?_)
   · have hsi : (((Lib.split s [32]).drop 2).getD i []).length ≤ s.length := by rw [List.getD, List.getElem?_drop]; exact hsl (2 + i)
     have hcl1 := cut_len (((Lib.split s [32]).drop 2).getD i []) [120]
     have hcl2 := cut_len2 (((Lib.split s [32]).drop 2).getD i []) [120]
     have hgi := hgl i
     have hnr := numM_rng (Lib.cut (((Lib.split s [32]).drop 2).getD i []) [120]).1 6 (by decide)
     refine sk (tn (sq (bl (sr ?_))))
     replace hw2 := hw20.fr ((Fr.refl [g5] _).step q7 (by first | (simp; done) | (simp; omega))) (fun k hk hb => by rw [List.mem_singleton] at hk; subst hk; exact hw5 hb)
     refine s_idxL (p := i) (([] : List UInt8)) rfl hw2 rfl el98 (by omega) (by omega) (by omega) rfl (fun ad29 hc29 => ?_)
     refine s_loadC0 rfl (hc29 _ hw2) na9 rfl (asg rfl rfl (nn (sr (mv rfl rfl ?_))))
     replace hG := hG0.ext (((((q1.next q2).next q4).next q5).step q6 (by first | (simp; done) | (simp; omega))).step q7 (by first | (simp; done) | (simp; omega)))
     refine cl (ev2 rfl rfl) co42 (scut_ok _ _ _ hG (by omega)) rfl ?_
     rintro _ w8 ⟨rfl, q8⟩
     have z8 := q8.size
     refine mv rfl rfl (xt rfl rfl rfl (xt rfl rfl rfl (xt rfl rfl rfl (asg rfl rfl (asg rfl rfl (asg rfl rfl (kpL [(0, _), (2, _), (5, _), (8, _), (9, _), (10, _), (25, _), (26, _), (27, _)] (.cons rfl (.cons rfl (.cons rfl (.cons rfl (.cons rfl (.cons rfl (.cons rfl (.cons rfl (.cons rfl .nil))))))))) (nn (sr (asg rfl rfl (nn ?_)))))))))))
     refine jn (ι := Unit) [(0, _), (2, _), (5, _), (8, _), (25, _), (26, _), (27, _)] (fun _j => [(11, .int .i64 (timesW (((Lib.split s [32]).drop 2).getD i [])))]) (fun _j w' => Fr [] w8 w') (.cons rfl (.cons rfl (.cons rfl (.cons rfl (.cons rfl (.cons rfl (.cons rfl .nil))))))) ?_ ?_
     · refine sr (mv rfl rfl (nn ?_))
       refine cd rfl (fun c2 => ?_) (fun c2 => ?_)
       · refine rg (mv rfl rfl ?_)
         replace hG := hG0.ext ((((((q1.next q2).next q4).next q5).step q6 (by first | (simp; done) | (simp; omega))).step q7 (by first | (simp; done) | (simp; omega))).next q8)
         refine cl (ev2 rfl rfl) co41 (number_ok _ _ _ hG (by omega)) rfl ?_
         rintro _ w9 ⟨rfl, q9⟩
         have z9 := q9.size
         refine asg rfl rfl (nl ?_)
         exact jE (()) (.cons rfl (.cons rfl (.cons rfl (.cons rfl (.cons rfl (.cons rfl (.cons rfl (.cons (congrArg (fun z => some (Value.int .i64 z)) (by first | (unfold timesW; rw [if_pos c2]) | (unfold timesW; rw [if_neg c2]))) .nil)))))))) q9
       · refine sk ?_
         exact jE (()) (.cons rfl (.cons rfl (.cons rfl (.cons rfl (.cons rfl (.cons rfl (.cons rfl (.cons (congrArg (fun z => some (Value.int .i64 z)) (by first | (unfold timesW; rw [if_pos c2]) | (unfold timesW; rw [if_neg c2]))) .nil)))))))) (Fr.refl _ _)
     · rintro _j w10 q10
       have z10 := q10.size
       refine kpC [(0, _), (2, _), (5, _), (8, _), (25, _), (26, _), (27, _), (11, _)] (.cons rfl (.cons rfl (.cons rfl (.cons rfl (.cons rfl (.cons rfl (.cons rfl (.cons rfl .nil)))))))) ?_
       refine sr (mv rfl rfl (fad rfl fa26_1 rfl ?_))
       replace hb5 := hb5.ext (q8.next q10)
       refine s_loadB rfl hb5 rfl na22 rfl (lnS rfl Tryz.underlying22 rfl (s_sub rfl rfl (wi6 (by omega)) rfl (s_min rfl rfl rfl (mv rfl rfl (kpL [(0, _), (2, _), (5, _), (8, _), (25, _), (26, _), (27, _), (45, _), (46, _)] (.cons rfl (.cons rfl (.cons rfl (.cons rfl (.cons rfl (.cons rfl (.cons rfl (.cons rfl (.cons rfl .nil))))))))) (nn (bl ?_)))))))
       replace ho := ho.ext (q8.next q10)
       refine lpK (ι := Nat) [(0, _), (2, _), (5, _), (8, _), (25, _), (26, _), (27, _), (45, _)] (fun j => [(46, .int .i64 (j : Int))]) (fun j w' => Fr [g5] w6 w' ∧ j ≤ (min (timesW (((Lib.split s [32]).drop 2).getD i [])) (32 - ((guessR (((Lib.split s [32]).drop 2).take i)).length : Int))).toNat ∧ ∃ A c, Blk w' g5 26 [.int .i64 (numM ((Lib.split s [32]).getD 1 []) 16), .slice A (((guessR (((Lib.split s [32]).drop 2).take i)) ++ List.replicate j (UInt8.ofNat (numM (Lib.cut (((Lib.split s [32]).drop 2).getD i []) [120]).1 6).toNat))).length c] ∧ Lw.Own Enc.b 5 (g5 + 1) w' (.slice A (((guessR (((Lib.split s [32]).drop 2).take i)) ++ List.replicate j (UInt8.ofNat (numM (Lib.cut (((Lib.split s [32]).drop 2).getD i []) [120]).1 6).toNat))).length c) (((guessR (((Lib.split s [32]).drop 2).take i)) ++ List.replicate j (UInt8.ofNat (numM (Lib.cut (((Lib.split s [32]).drop 2).getD i []) [120]).1 6).toNat)))) (fun j => (min (timesW (((Lib.split s [32]).drop 2).getD i [])) (32 - ((guessR (((Lib.split s [32]).drop 2).take i)).length : Int))).toNat - j) 0 (.cons rfl (.cons rfl (.cons rfl (.cons rfl (.cons rfl (.cons rfl (.cons rfl (.cons rfl (.cons rfl .nil))))))))) ⟨((((Fr.refl [g5] _).step q7 (by first | (simp; done) | (simp; omega))).next q8).next q10), ⟨Nat.zero_le _, ⟨_, _, by simpa using hb5, by simpa using ho⟩⟩⟩ ?_
       rintro j w11 ⟨q11, ⟨hj, ⟨A, c, hb5, ho⟩⟩⟩
       have z11 := q11.size
       have lt_hb5 := hb5.lt
       refine kpC [(0, _), (2, _), (5, _), (8, _), (25, _), (26, _), (27, _), (45, _), (46, _)] (.cons rfl (.cons rfl (.cons rfl (.cons rfl (.cons rfl (.cons rfl (.cons rfl (.cons rfl (.cons rfl .nil))))))))) ?_
       refine sr (lt' rfl rfl rfl (nn (sq ?_)))
       refine cd rfl (fun c3 => ?_) (fun c3 => ?_)
       · refine sk (tn (sq (bl ?_)))
         replace hG := hG0.ext (((((q1.next q2).next q4).next q5).step q6 (by first | (simp; done) | (simp; omega))).step q11 (by first | (simp; done) | (simp; omega)))
         intro a h
         refine region_heldP (some 8) (fun wb w' => Fr (blks (.slice A ((guessR (((Lib.split s [32]).drop 2).take i)) ++ List.replicate j (UInt8.ofNat (numM (Lib.cut (((Lib.split s [32]).drop 2).getD i []) [120]).1 6).toNat)).length c)) wb w') hmix ?_; intro w12 hq
         have z12 := hq.size
         replace hG := hG.ext hq
         replace hb5 := hb5.ext hq
         replace ho := ho.ext hq
         have q12 := hq
         clear hq; have hC : Fr (blks (.slice A ((guessR (((Lib.split s [32]).drop 2).take i)) ++ List.replicate j (UInt8.ofNat (numM (Lib.cut (((Lib.split s [32]).drop 2).getD i []) [120]).1 6).toNat)).length c)) w12 w12 := Fr.refl _ _
         have hG_b := hG
         have hb5_b := hb5
         have ho_b := ho
         refine hd_fieldAddr 0 (by kernel_rfl) (by kernel_rfl) (by kernel_rfl) hC h wn rfl fa26_1 rfl rfl ?_; clear h a; intro a h
         refine hd_loadB 1 (by kernel_rfl) (by kernel_rfl) (by kernel_rfl) hC h wn rfl (fun _ hw => hb5_b.fr hw (fun k_ => Own.neB ho_b hb5_b (by decide) k_)) rfl na22 rfl rfl ?_; clear h a; intro a h
         refine hd_move 2 (by kernel_rfl) (by kernel_rfl) (by kernel_rfl) hC h wn rfl rfl rfl ?_; clear h a; intro a h
         refine hd_one 3 (by kernel_rfl) rfl ?_
         refine st_call h (evs_cons rfl (evs_cons rfl evs_nil)) co41 (number_ok _ _ _ hG (by omega)) rfl ?_; clear h a; rintro _ w13 ⟨rfl, hq⟩ a h
         have z13 := hq.size
         replace hG := hG.ext hq
         replace hb5 := hb5.ext hq
         replace ho := ho.ext hq
         replace hC := hC.next hq
         have q13 := hq
         clear hq
         refine hd_next hC ?_
         refine hd_conv 4 (by kernel_rfl) (by kernel_rfl) (by kernel_rfl) hC h wn rfl (by rw [Tryz.underlying3]; rfl) Tryz.underlying5 (by first | exact IntWalk.u8_in _ (by omega) | rfl) rfl rfl ?_; clear h a; intro a h
         refine hd_one 5 (by kernel_rfl) rfl ?_
         refine st_bslice ([(UInt8.ofNat (numM (Lib.cut (((Lib.split s [32]).drop 2).getD i []) [120]).1 6).toNat)]) h (evs_cons rfl evs_nil) rfl (bytc (by omega)) rfl el22 (Nat.le_of_ble_eq_true rfl) rfl ?_; clear h a; intro g_53 w14 hg ho53 hq hz a h
         have hn__53 : g5 < g_53 := by have := hb5.lt; omega
         have z14 := hq.size
         replace hG := hG.ext hq
         replace hb5 := hb5.ext hq
         replace ho := ho.ext hq
         replace hC := hC.next hq
         have q14 := hq
         clear hq
         refine hd_next hC ?_
         refine hd_one 6 (by kernel_rfl) rfl ?_
         have hoo54 := ho
         refine st_append h rfl rfl ho ho53.sl el22 (by unfold maxLen; simp only [List.length_cons, List.length_nil, List.length_append, List.length_replicate]; omega) (by simp only [List.length_cons, List.length_nil, List.length_append, List.length_replicate]; omega) (by omega) rfl ?_; clear h a; intro v54 w15 ho hq hor54 a h
         rw [rep_snoc] at ho
         obtain ⟨A5, c5, rfl, hcA⟩ := ho.sl.form
         have z15 := hq.size
         replace hb5 := hb5.fr hq (fun hk => hoo54.neB hb5 (by decide) hk)
         replace hC := hC.step hq (fun k_ h_ _ => h_)
         have q15 := hq
         clear hq
         refine hd_next hC ?_
         refine hd_fieldAddr 7 (by kernel_rfl) (by kernel_rfl) (by kernel_rfl) hC h wn rfl fa26_1 rfl rfl ?_; clear h a; intro a h
         refine hd_one 8 (by kernel_rfl) rfl ?_
         refine st_storeB h rfl rfl hb5 rfl rfl rfl sz22 ?_; clear h a; intro w16 hbn hq hz a h
         have z16 := hq.size
         replace ho := ho.fr hq (by intro k hk hb; simp at hk; subst hk; have := (ho.blk _ hb).1; omega)
         have q16 := hq
         clear hb5 hq hz; have hb5 : Blk w16 g5 _ [_, _] := hbn; clear hbn
         refine hd_past (by kernel_rfl) ?_
         refine hd_end (by kernel_rfl) ?_
         clear hC hG_b hb5_b ho_b
         refine bk (h.sub (L' := [(0, _), (2, _), (5, _), (8, _), (25, _), (26, _), (27, _), (45, _), (46, _)]) (.cons rfl (.cons rfl (.cons rfl (.cons rfl (.cons rfl (.cons rfl (.cons rfl (.cons rfl (.cons rfl .nil)))))))))) ?_; clear h a
         refine bn' (tn (rg (s_add rfl rfl (wi6 (by omega)) rfl (mv rfl rfl (nl ?_)))))
         exact lpE (j + 1) (.cons rfl (.cons rfl (.cons rfl (.cons rfl (.cons rfl (.cons rfl (.cons rfl (.cons rfl (.cons rfl .nil))))))))) ⟨(((((((Fr.refl [g5] _).step q11 (by first | (simp; done) | (simp; omega))).next q12).next q13).next q14).step q15 (fun k hk hlt => absurd (hoo54.blk k hk).1 (by omega))).step q16 (by first | (simp; done) | (simp; omega))), ⟨by omega, ⟨A5, c5, hb5, ho⟩⟩⟩ (by omega)
       · obtain rfl : j = (min (timesW (((Lib.split s [32]).drop 2).getD i [])) (32 - ((guessR (((Lib.split s [32]).drop 2).take i)).length : Int))).toNat := by omega
         have hge := guess_take ((Lib.split s [32]).drop 2) i (by omega)
         unfold addW at hge
         rw [← hge] at hb5 ho
         refine ex (te (te (xh (bn' (tn (rg (s_add rfl rfl (wi6 (by omega)) rfl (mv rfl rfl (nl ?_)))))))))
         exact lpE (i + 1) (.cons rfl (.cons rfl (.cons rfl (.cons rfl (.cons rfl (.cons rfl .nil)))))) ⟨((Fr.refl [g5] _).step q11 (by first | (simp; done) | (simp; omega))), ⟨by omega, ⟨_, _, hb5, ho⟩⟩⟩ (by omega)
   · obtain rfl : i = ((Lib.split s [32]).drop 2).length := by omega
     rw [List.take_length] at hb5 ho
     have hcA : (guessR ((Lib.split s [32]).drop 2)).length ≤ c := by obtain ⟨A_, c_, e_, h_⟩ := ho.sl.form; simp only [Value.slice.injEq] at e_; omega
     refine ex (te (te (xh (tn (sq (sr (s_loadBA rfl hb5 ag26 rfl ?_)))))))
     refine cl (ev1 rfl) co23 (text_ok _ _ (guessR ((Lib.split s [32]).drop 2)) _ ho.sl) rfl ?_
     rintro _ w17 ⟨rfl, q17⟩
     have z17 := q17.size
     refine asg rfl rfl (kpL [(0, _), (2, _), (5, _), (12, _)] (.cons rfl (.cons rfl (.cons rfl (.cons rfl .nil)))) (nn (sq ?_)))
     refine rbo (r := 66) (L' := [(2, _), (5, _)]) ((((if tubE (numM ((Lib.split s [32]).getD 1 []) 16) (guessR ((Lib.split s [32]).drop 2)) = 0 then textT (numM ((Lib.split s [32]).getD 1 []) 16) (guessR ((Lib.split s [32]).drop 2)) else []) = []) ∨ ((if tubE (numM ((Lib.split s [32]).getD 1 []) 16) (guessR ((Lib.split s [32]).drop 2)) = 0 then textT (numM ((Lib.split s [32]).getD 1 []) 16) (guessR ((Lib.split s [32]).drop 2)) else []) ≠ s))) (.cons rfl (.cons rfl .nil)) ?_ ?_
     · refine mv rfl rfl (s_eqs rfl rfl rfl (mv rfl rfl ?_))
       refine gs 62 rfl (fun g0 => ?_) (fun g0 => ?_)
       · exact gN rfl rfl rfl (gN rfl rfl rfl (gN rfl rfl rfl (pkt rfl rfl rfl rfl (rbe rfl (by first | exact bt (by omega) | exact bf (by omega) | exact bi (by omega) | exact bn (by omega) | (simp_all; done) | (simp_all; omega)) (.cons rfl (.cons rfl .nil))))))
       · exact gY rfl (mv rfl rfl (gY rfl (mv rfl rfl (gY rfl (s_nes rfl rfl rfl (pkf rfl rfl rfl rfl (rbe rfl (by first | exact bt (by omega) | exact bf (by omega) | exact bi (by omega) | exact bn (by omega) | (simp_all; done) | (simp_all; omega)) (.cons rfl (.cons rfl .nil)))))))))
     · refine tn ?_
       refine cd rfl (fun c4 => ?_) (fun c4 => ?_)
       · refine sr (s_lit (cs := [_, _]) evs_nil bo26 pok_nil rfl rfl ?_)
         replace hb2 := hb20.fr (((Fr.refl [g5] _).step q7 (by first | (simp; done) | (simp; omega))).next q17) (by simp; omega)
         refine s_storeBA (vs := [_, _]) rfl rfl hb2 (by rfl) (by first | (simp [Value.oneCell', S]; done) | exact Enc.one _ _) sz26 (fun w18 hb2 q18 z18 => ?_)
         refine asg rfl rfl (nn (rt (tr (rCT Tryz.results22 rfl hb2 ag26 rfl ?_))))
         exact ⟨_, rfl, 0, none, [], 4, rfl, Sl.nil _, .inr ⟨rfl, rfl, rfl, by unfold parS; rw [if_neg (by omega), if_neg (tx_none (textT_ne _ _) c4)]⟩, (((((((q1.next q2).next q4).next q5).step q6 (by first | (simp; done) | (simp; omega))).step q7 (by first | (simp; done) | (simp; omega))).next q17).step q18 (by first | (simp; done) | (simp; omega)))⟩
       · refine sk (tn (sr (fad rfl fa26_1 rfl ?_)))
         replace hb5 := hb5.ext q17
         refine s_loadB rfl hb5 rfl na22 rfl ?_
         refine cl (ev1 rfl) co43 (clipb_ok _ _ _ _ hcA) rfl ?_
         rintro _ _ ⟨rfl, rfl⟩
         refine fad rfl fa26_1 rfl (s_storeB rfl rfl hb5 rfl rfl rfl sz22 (fun w19 hb5 q19 z19 => ?_))
         replace hb5 : Blk w19 g5 _ [_, _] := hb5
         refine nn (sr (s_loadBA rfl hb5 ag26 rfl ?_))
         replace hb2 := hb20.fr ((((Fr.refl [g5] _).step q7 (by first | (simp; done) | (simp; omega))).next q17).step q19 (by first | (simp; done) | (simp; omega))) (by simp; omega)
         refine s_storeBA (vs := [_, _]) rfl rfl hb2 (by rfl) (by first | (simp [Value.oneCell', S]; done) | exact Enc.one _ _) sz26 (fun w20 hb2 q20 z20 => ?_)
         refine asg rfl rfl (nn (rt (rCT Tryz.results22 rfl hb2 ag26 rfl ?_)))
         replace ho := ((ho.ext q17).fr q19 (by intro k hk hb; simp at hk; subst hk; have := (ho.blk _ hb).1; omega)).fr q20 (by intro k hk hb; simp at hk; subst hk; have := (ho.blk _ hb).1; omega)
         have hoc := ho.take rfl (Nat.le_refl _) (c' := (guessR ((Lib.split s [32]).drop 2)).length) hcA (Nat.le_refl _)
         rw [List.take_length] at hoc
         exact ⟨_, rfl, (numM ((Lib.split s [32]).getD 1 []) 16), _, (guessR ((Lib.split s [32]).drop 2)), 0, rfl, hoc.sl, .inl ⟨rfl, by unfold parS; rw [if_neg (by omega), if_pos (tx_some c4)]⟩, ((((((((q1.next q2).next q4).next q5).step q6 (by first | (simp; done) | (simp; omega))).step q7 (by first | (simp; done) | (simp; omega))).next q17).step q19 (by first | (simp; done) | (simp; omega))).step q20 (by first | (simp; done) | (simp; omega)))⟩
end Go.Proofs.YtkionldalpijpaaGreatDoor
namespace Go.Proofs.YtkionldalpijpaaGreatDoor
open Go.Lw Go.G21
theorem fa24_0 : FieldAt Tryz.prog 24 0 0 := fun _ _ => by kernel_rfl
theorem fa24_1 : FieldAt Tryz.prog 24 1 1 := fun _ _ => by kernel_rfl
def uE (xs : List UInt8) : List UInt8 := xs.map fun y => 1 + y % 3
def uR (xs : List UInt8) : List UInt8 := if uE (xs.take 8) = [] then [1] else uE (xs.take 8)
theorem uby (y : UInt8) : ((1 + y % 3 : UInt8).toNat : Int) = 1 + (y.toNat : Int) % 3 := by
  rw [UInt8.toNat_add, UInt8.toNat_mod]
  show (((1 + y.toNat % 3) % 256 : Nat) : Int) = _
  omega
theorem ubyc (y : UInt8) : [Value.int .u8 (1 + (y.toNat : Int) % 3)].map Value.cells = [1 + y % 3].map (fun y => (Enc.b.enc y).toArray) := by
  show [#[Value.int .u8 (1 + (y.toNat : Int) % 3)]] = [#[Value.int .u8 ((1 + y % 3 : UInt8).toNat : Int)]]
  rw [uby]
theorem uE_len (xs : List UInt8) : (uE xs).length = xs.length := by simp [uE]
theorem uE_snoc (xs : List UInt8) (i : Nat) (h : i < xs.length) : uE (xs.take i) ++ [1 + xs.getD i 0 % 3] = uE (xs.take (i + 1)) := by
  rw [List.take_add_one, List.getElem?_eq_getElem h, List.getD, List.getElem?_eq_getElem h]; unfold uE; rw [List.map_append]; rfl
theorem uR_ok {b : Int} (hb : 0 ≤ b ∧ b ≤ 255) (xs : List UInt8) : tubE (1 + b % 8) (uR xs) = 0 := by
  have hm : ∀ y ∈ uE (xs.take 8), 1 ≤ y.toNat ∧ y.toNat ≤ 6 := fun y hy => by
    obtain ⟨z, _, rfl⟩ := List.mem_map.1 hy
    have := uby z
    omega
  have hl : (uE (xs.take 8)).length ≤ 8 := by rw [uE_len, List.length_take]; omega
  have key : ∀ l : List UInt8, 1 ≤ l.length → l.length ≤ 8 → (∀ y ∈ l, 1 ≤ y.toNat ∧ y.toNat ≤ 6) → tubE (1 + b % 8) l = 0 := fun l h1 h2 h3 => by
    unfold tubE
    rw [if_neg (by omega), if_neg (by omega), if_neg]
    intro e
    obtain ⟨y, hy, hd⟩ := List.any_eq_true.1 e
    have := h3 y hy
    have := of_decide_eq_true hd
    omega
  unfold uR
  split
  · exact key _ (by simp) (by simp) (by decide)
  · rename_i h
    exact key _ (by cases e : uE (xs.take 8) with | nil => exact absurd e h | cons _ _ => simp) hl hm
theorem uof_ok (b : Int) (v : Value) (xs : List UInt8) (w0 : World) (hb : 0 ≤ b ∧ b ≤ 255) (hs : Sl Enc.b w0 v xs) : Rets Tryz.prog 4 #[.agg #[.int .u8 b, v]] w0 fun r w' => ∃ A c, r = .agg #[.int .i64 (1 + b % 8), .slice A (uR xs).length c] ∧ Sl Enc.b w' (.slice A (uR xs).length c) (uR xs) ∧ Fr [] w0 w' := by
 obtain ⟨Ax, cx, rfl, hcx, hMx, hAx⟩ := id hs
 clear hAx
 unfold maxLen at hMx
 refine we [(0, .agg #[.int .u8 b, .slice Ax xs.length cx])] Tryz.func4 rfl Tryz.ntmps4 rfl (.cons rfl .nil) ?_
 have hs0 := hs
 refine sr (bx rfl rfl rfl (fun g1 w1 hg1 hb1 q1 z1 => ?_))
 refine al zv26 rfl rfl (fun g2 w2 hg2 hb2 q2 z2 => ?_)
 refine nn (sr (fad rfl fa24_0 rfl ?_))
 replace hb1 := hb1.ext q2
 refine s_loadB rfl hb1 rfl na5 rfl (s_rem rfl rfl (by omega) (by first | exact IntWalk.rem_in _ _ (by omega) | rfl) rfl (s_conv rfl (us Tryz.underlying5) Tryz.underlying3 (wi6 (by omega)) rfl (s_add rfl rfl (wi6 (by omega)) rfl (s_lit (cs := [_, _]) (ev1 rfl) bo26 (pok_cons rfl rfl rfl pok_nil) rfl rfl ?_))))
 refine al zv26 rfl rfl (fun g3 w3 hg3 hb3 q3 z3 => ?_)
 refine s_storeBA (vs := [_, _]) rfl rfl hb3 (by rfl) (by first | (simp [Value.oneCell', S]; done) | exact Enc.one _ _) sz26 (fun w4 hb3 q4 z4 => ?_)
 refine kpL [(1, _), (2, _), (3, _)] (.cons rfl (.cons rfl (.cons rfl .nil))) (nn (sq (sr (asg rfl rfl ?_))))
 replace hb1 := (hb1.ext q3).fr q4 (by first | (simp; done) | (simp; omega) | (simp [blks]; done) | (simp [blks]; omega))
 replace hb2 := (hb2.ext q3).fr q4 (by first | (simp; done) | (simp; omega) | (simp [blks]; done) | (simp [blks]; omega))
 have hb10 := hb1
 have hb20 := hb2
 refine nn (bl ?_)
 refine lpK (ι := Nat) [(1, _), (2, _), (3, _)] (fun i => [(4, .int .i64 (i : Int))]) (fun i w' => Fr [g3] w4 w' ∧ i ≤ (min xs.length 8) ∧ ∃ A c, Blk w' g3 26 [.int .i64 (1 + b % 8), .slice A (uE (xs.take i)).length c] ∧ Lw.Own Enc.b 5 (g3 + 1) w' (.slice A (uE (xs.take i)).length c) (uE (xs.take i))) (fun i => (min xs.length 8) - i) 0 (.cons rfl (.cons rfl (.cons rfl (.cons rfl .nil)))) ⟨(Fr.refl _ _), ⟨Nat.zero_le _, ⟨none, 0, hb3, Own.nil _⟩⟩⟩ ?_
 rintro i w5 ⟨q5, ⟨hi, ⟨A, c, hb3, ho⟩⟩⟩
 have z5 := q5.size
 have lt_hb3 := hb3.lt
 refine kpC [(1, _), (2, _), (3, _), (4, _)] (.cons rfl (.cons rfl (.cons rfl (.cons rfl .nil)))) ?_
 refine sq (sq ?_)
 refine rbo (r := 19) (L' := [(1, _), (2, _), (3, _), (4, _)]) ((((i : Int) < (xs.length : Int)) ∧ ((i : Int) < 8))) (.cons rfl (.cons rfl (.cons rfl (.cons rfl .nil)))) ?_ ?_
 · refine mv rfl rfl (fad rfl fa24_1 rfl ?_)
   replace hb1 := hb10.fr ((Fr.refl [g3] _).step q5 (by first | (simp; done) | (simp; omega))) (by simp; omega)
   refine s_loadB rfl hb1 rfl na22 rfl (lnS rfl Tryz.underlying22 rfl (lt' rfl rfl rfl (mv rfl rfl ?_)))
   refine gs 16 rfl (fun g0 => ?_) (fun g0 => ?_)
   · exact gY rfl (mv rfl rfl (gY rfl (lt' rfl rfl rfl (pkt rfl rfl rfl rfl (rbe rfl (by first | exact bt (by omega) | exact bf (by omega) | exact bi (by omega) | exact bn (by omega) | (simp_all; done) | (simp_all; omega)) (.cons rfl (.cons rfl (.cons rfl (.cons rfl .nil)))))))))
   · exact gN rfl rfl rfl (gN rfl rfl rfl (pkf rfl rfl rfl rfl (rbe rfl (by first | exact bt (by omega) | exact bf (by omega) | exact bi (by omega) | exact bn (by omega) | (simp_all; done) | (simp_all; omega)) (.cons rfl (.cons rfl (.cons rfl (.cons rfl .nil)))))))
 · refine tn ?_
   refine cd rfl (fun c0 => ?_) (fun c0 => ?_)
   · have hlt : i < xs.length := by omega
     have hsz : ∀ k ∈ blks (.slice Ax xs.length cx), k < w0.heap.size := hs0.blk (by intro e; rw [e] at hlt; exact absurd hlt (by simp))
     refine sk (tn (sq (bl ?_)))
     replace hs := hs0.ext ((((q1.next q2).next q3).step q4 (by first | (simp; done) | (simp; omega))).step q5 (by first | (simp; done) | (simp; omega)))
     replace hb1 := hb10.fr ((Fr.refl [g3] _).step q5 (by first | (simp; done) | (simp; omega))) (by simp; omega)
     intro a h
     refine region_heldP (some 12) (fun wb w' => Fr (blks (.slice A (uE (xs.take i)).length c)) wb w') hmix ?_; intro w6 hq
     have z6 := hq.size
     replace hs := hs.ext hq
     replace hb1 := hb1.ext hq
     replace hb3 := hb3.ext hq
     replace ho := ho.ext hq
     have q6 := hq
     clear hq; have hC : Fr (blks (.slice A (uE (xs.take i)).length c)) w6 w6 := Fr.refl _ _
     have hs_b := hs
     have hb1_b := hb1
     have hb3_b := hb3
     have ho_b := ho
     refine hd_fieldAddr 0 (by kernel_rfl) (by kernel_rfl) (by kernel_rfl) hC h wn rfl fa26_1 rfl rfl ?_; clear h a; intro a h
     refine hd_loadB 1 (by kernel_rfl) (by kernel_rfl) (by kernel_rfl) hC h wn rfl (fun _ hw => hb3_b.fr hw (fun k_ => Own.neB ho_b hb3_b (by decide) k_)) rfl na22 rfl rfl ?_; clear h a; intro a h
     refine hd_fieldAddr 2 (by kernel_rfl) (by kernel_rfl) (by kernel_rfl) hC h wn rfl fa24_1 rfl rfl ?_; clear h a; intro a h
     refine hd_loadB 3 (by kernel_rfl) (by kernel_rfl) (by kernel_rfl) hC h wn rfl (fun _ hw => hb1_b.fr hw (fun k_ => Own.neB ho_b hb1_b (by decide) k_)) rfl na22 rfl rfl ?_; clear h a; intro a h
     refine hd_move 4 (by kernel_rfl) (by kernel_rfl) (by kernel_rfl) hC h wn rfl rfl rfl ?_; clear h a; intro a h
     refine hd_idxL (p := i) ((0 : UInt8)) 5 (by kernel_rfl) (by kernel_rfl) (by kernel_rfl) hC h wn rfl hs rfl el22 (by omega) (by omega) (by omega) rfl rfl ?_; clear h a; intro ad27 hc27 a h
     refine hd_loadC0 6 (by kernel_rfl) (by kernel_rfl) (by kernel_rfl) hC h wn rfl (fun _ hw => hc27 _ (hs_b.fr hw (fun k hk hb => by have := (ho_b.blk _ hk).1; have := hsz k hb; omega))) na5 rfl rfl ?_; clear h a; intro a h
     refine hd_rem 7 (by kernel_rfl) (by kernel_rfl) (by kernel_rfl) hC h wn rfl rfl (by omega) (by first | exact IntWalk.rem_in _ _ (by omega) | rfl) rfl rfl ?_; clear h a; intro a h
     refine hd_add 8 (by kernel_rfl) (by kernel_rfl) (by kernel_rfl) hC h wn rfl rfl (by first | exact IntWalk.u8_in _ (by omega) | rfl) rfl rfl ?_; clear h a; intro a h
     refine hd_one 9 (by kernel_rfl) rfl ?_
     refine st_bslice ([1 + xs.getD i 0 % 3]) h (evs_cons rfl evs_nil) rfl (ubyc _) rfl el22 (Nat.le_of_ble_eq_true rfl) rfl ?_; clear h a; intro g_31 w7 hg ho31 hq hz a h
     have hn__31 : g3 < g_31 := by have := hb3.lt; omega
     have z7 := hq.size
     replace hs := hs.ext hq
     replace hb1 := hb1.ext hq
     replace hb3 := hb3.ext hq
     replace ho := ho.ext hq
     replace hC := hC.next hq
     have q7 := hq
     clear hq
     refine hd_next hC ?_
     refine hd_one 10 (by kernel_rfl) rfl ?_
     have hoo32 := ho
     refine st_append h rfl rfl ho ho31.sl el22 (by unfold maxLen; simp only [List.length_cons, List.length_nil, uE_len, List.length_take]; omega) (by simp only [List.length_cons, List.length_nil, uE_len, List.length_take]; omega) (by omega) rfl ?_; clear h a; intro v32 w8 ho hq hor32 a h
     rw [uE_snoc xs i (by omega)] at ho
     obtain ⟨A5, c5, rfl, hcA⟩ := ho.sl.form
     have z8 := hq.size
     replace hb3 := hb3.fr hq (fun hk => hoo32.neB hb3 (by decide) hk)
     replace hC := hC.step hq (fun k_ h_ _ => h_)
     have q8 := hq
     clear hq
     refine hd_next hC ?_
     refine hd_fieldAddr 11 (by kernel_rfl) (by kernel_rfl) (by kernel_rfl) hC h wn rfl fa26_1 rfl rfl ?_; clear h a; intro a h
     refine hd_one 12 (by kernel_rfl) rfl ?_
     refine st_storeB h rfl rfl hb3 rfl rfl rfl sz22 ?_; clear h a; intro w9 hbn hq hz a h
     have z9 := hq.size
     replace ho := ho.fr hq (by intro k hk hb; simp at hk; subst hk; have := (ho.blk _ hb).1; omega)
     have q9 := hq
     clear hb3 hq hz; have hb3 : Blk w9 g3 _ [_, _] := hbn; clear hbn
     refine hd_past (by kernel_rfl) ?_
     refine hd_end (by kernel_rfl) ?_
     clear hC hs_b hb1_b hb3_b ho_b
     refine bk (h.sub (L' := [(1, _), (2, _), (3, _), (4, _)]) (.cons rfl (.cons rfl (.cons rfl (.cons rfl .nil))))) ?_; clear h a
     refine bn' (tn (rg (mv rfl rfl (s_add rfl rfl (wi6 (by omega)) rfl (asg rfl rfl (nl ?_))))))
     exact lpE (i + 1) (.cons rfl (.cons rfl (.cons rfl (.cons rfl .nil)))) ⟨((((((Fr.refl [g3] _).step q5 (by first | (simp; done) | (simp; omega))).next q6).next q7).step q8 (fun k hk hlt => absurd (hoo32.blk k hk).1 (by omega))).step q9 (by first | (simp; done) | (simp; omega))), ⟨by omega, ⟨A5, c5, hb3, ho⟩⟩⟩ (by omega)
   · have hti : xs.take i = xs.take 8 := by
       by_cases h : xs.length ≤ 8
       · rw [List.take_of_length_le (by omega), List.take_of_length_le h]
       · rw [show i = 8 by omega]
     refine ex (te (te (xh (tn (sq (sr (fad rfl fa26_1 rfl (s_loadB rfl hb3 rfl na22 rfl (lnS rfl Tryz.underlying22 rfl (eq' rfl rfl rfl (kpL [(2, _), (3, _), (37, _)] (.cons rfl (.cons rfl (.cons rfl .nil))) ?_)))))))))))
     refine nn ?_
     refine cd rfl (fun c1 => ?_) (fun c1 => ?_)
     · have hu : uE (xs.take 8) = [] := by
         rw [← hti]; exact List.length_eq_zero_iff.1 (by omega)
       refine rg (s_bslice ([(1 : UInt8)]) (ev1 rfl) rfl rfl rfl el22 (Nat.le_of_ble_eq_true rfl) rfl (fun g38 w10 hg38 ho38 q10 z10 => ?_))
       refine fad rfl fa26_1 rfl ?_
       replace hb3 := hb3.ext q10
       refine s_storeB rfl rfl hb3 rfl rfl rfl sz22 (fun w11 hb3 q11 z11 => ?_)
       replace hb3 : Blk w11 g3 _ [_, _] := hb3
       refine nl (tn (sr (s_loadBA rfl hb3 ag26 rfl ?_)))
       replace hb2 := hb20.fr ((((Fr.refl [g3] _).step q5 (by first | (simp; done) | (simp; omega))).next q10).step q11 (by first | (simp; done) | (simp; omega))) (by simp; omega)
       refine s_storeBA (vs := [_, _]) rfl rfl hb2 (by rfl) (by first | (simp [Value.oneCell', S]; done) | exact Enc.one _ _) sz26 (fun w12 hb2 q12 z12 => ?_)
       refine nn (rt (rC Tryz.results4 rfl hb2 ag26  ?_))
       replace ho38 := (ho38.fr q11 (by first | (simp; done) | (simp; omega) | (simp [blks]; done) | (simp [blks]; omega) | (intro k hk hb; simp at hk; subst hk; have := ho38.blk _ hb; omega))).fr q12 (by first | (simp; done) | (simp; omega) | (simp [blks]; done) | (simp [blks]; omega) | (intro k hk hb; simp at hk; subst hk; have := ho38.blk _ hb; omega))
       exact ⟨_, rfl, _, _, congrArg (fun l : List UInt8 => Value.agg #[.int .i64 (1 + b % 8), .slice (some ⟨g38, 0, none⟩) l.length 1]) (show ([1] : List UInt8) = uR xs by rw [uR, if_pos hu]), (by rw [uR, if_pos hu]; exact ho38.sl), (((((((q1.next q2).next q3).step q4 (by first | (simp; done) | (simp; omega))).step q5 (by first | (simp; done) | (simp; omega))).next q10).step q11 (by first | (simp; done) | (simp; omega))).step q12 (by first | (simp; done) | (simp; omega)))⟩
     · have hu : ¬ uE (xs.take 8) = [] := fun e => c1 (by rw [hti, e]; rfl)
       refine sk (tn (sr (s_loadBA rfl hb3 ag26 rfl ?_)))
       replace hb2 := hb20.fr ((Fr.refl [g3] _).step q5 (by first | (simp; done) | (simp; omega))) (by simp; omega)
       refine s_storeBA (vs := [_, _]) rfl rfl hb2 (by rfl) (by first | (simp [Value.oneCell', S]; done) | exact Enc.one _ _) sz26 (fun w13 hb2 q13 z13 => ?_)
       refine nn (rt (rC Tryz.results4 rfl hb2 ag26  ?_))
       replace ho := ho.fr q13 (by intro k hk hb; simp at hk; subst hk; have := (ho.blk _ hb).1; omega)
       exact ⟨_, rfl, A, c, by rw [uR, if_neg hu, ← hti], (by rw [uR, if_neg hu, ← hti]; exact ho.sl), (((((q1.next q2).next q3).step q4 (by first | (simp; done) | (simp; omega))).step q5 (by first | (simp; done) | (simp; omega))).step q13 (by first | (simp; done) | (simp; omega)))⟩
end Go.Proofs.YtkionldalpijpaaGreatDoor
namespace Go.Lw
/-- For whom an operation waits. -/
def bnds (ops : Array Oper) (i : Nat) : List Nat := match ops[i]? with
  | some o => (o.after.toList.filter (Region.binds .any)).map (·.on)
  | none => []
def combB (ops : Array Oper) (m : Nat) : Bool :=
  Nat.beq ops.size (m + 1) && (List.range (m + 1)).all (fun i => (bnds ops i).all (fun j => Nat.blt j i)) && (List.range m).all (fun j => (bnds ops m).contains j)
/-- How many have not come up. -/
def cntU (listed : Array Bool) : Nat → Nat
  | 0 => 0
  | k + 1 => cntU listed k + (if listed.getD k true = false then 1 else 0)
theorem getD_set {listed : Array Bool} {i j : Nat} (hi : i < listed.size) : (listed.setIfInBounds i true).getD j true = if j = i then true else listed.getD j true := by
  simp only [Array.getD_eq_getD_getElem?, Array.getElem?_setIfInBounds]
  by_cases e : i = j
  · subst e; simp [hi]
  · rw [if_neg e, if_neg (Ne.symm e)]
theorem cntU_set {listed : Array Bool} {i : Nat} (hi : i < listed.size) (h : listed.getD i true = false) : ∀ k, cntU (listed.setIfInBounds i true) k + (if i < k then 1 else 0) = cntU listed k
  | 0 => by simp [cntU]
  | k + 1 => by
    have ih := cntU_set hi h k
    simp only [cntU, getD_set hi]
    by_cases e : k = i
    · subst e
      rw [if_neg (by omega)] at ih
      rw [if_pos rfl, if_neg (by decide), if_pos h, if_pos (by omega)]; omega
    · rw [if_neg e]
      by_cases e2 : i < k
      · rw [if_pos e2] at ih
        have e3 : (if i < k + 1 then 1 else 0 : Nat) = 1 := if_pos (by omega)
        rw [e3]; omega
      · rw [if_neg e2] at ih
        have e3 : (if i < k + 1 then 1 else 0 : Nat) = 0 := if_neg (by omega)
        rw [e3]; omega
theorem cntU_pos {listed : Array Bool} : ∀ {k i : Nat}, i < k → listed.getD i true = false → 0 < cntU listed k
  | k + 1, i, hi, h => by
    simp only [cntU]
    by_cases e : i = k
    · subst e; rw [if_pos h]; omega
    · have := cntU_pos (k := k) (i := i) (by omega) h; omega
theorem ready_mem {ops : Array Oper} {listed : Array Bool} {i : Nat} (hi : i ∈ Region.ready .any ops listed) : i < ops.size ∧ listed.getD i true = false ∧ ∀ j ∈ bnds ops i, listed.getD j false = true := by
  unfold Region.ready at hi
  rw [List.mem_filter, List.mem_range] at hi
  obtain ⟨h1, h2⟩ := hi
  rw [Bool.and_eq_true] at h2
  refine ⟨h1, by simpa using h2.1, fun j hj => ?_⟩
  have h3 := h2.2
  unfold bnds at hj
  rw [Array.getElem?_eq_getElem h1] at h3 hj
  simp only [Option.map_some, Option.getD_some] at h3
  obtain ⟨e, he, rfl⟩ := List.mem_map.1 hj
  rw [List.mem_filter] at he
  have h4 := (Array.all_eq_true'.1 h3) e (by simpa using he.1)
  rw [he.2] at h4
  simpa using h4
theorem ready_of {ops : Array Oper} {listed : Array Bool} {i : Nat} (h1 : i < ops.size) (h2 : listed.getD i true = false) (h3 : ∀ j ∈ bnds ops i, listed.getD j false = true) : i ∈ Region.ready .any ops listed := by
  unfold Region.ready
  rw [List.mem_filter, List.mem_range]
  refine ⟨h1, ?_⟩
  rw [Bool.and_eq_true]
  refine ⟨by simpa using h2, ?_⟩
  unfold bnds at h3
  rw [Array.getElem?_eq_getElem h1] at h3 ⊢
  simp only [Option.map_some, Option.getD_some]
  refine Array.all_eq_true'.2 fun e he => ?_
  cases hb : Region.binds .any e
  · rfl
  · have := h3 e.on (List.mem_map.2 ⟨e, List.mem_filter.2 ⟨by simpa using he, hb⟩, rfl⟩)
    simpa using this
theorem hd_comeR {P : Program} {ops : Array Oper} {K R : Act → World → Prop} {i : Nat} {o : Oper} {a : Act} {w : World} (hix : ops[i]? = some o) (k : wpList P ops (NormEnd R) [o] a w) : wpOp P ops (NormEnd K) i R a w := by
  unfold wpOp
  rw [hix]
  unfold wpList at k
  simp only
  split
  · rename_i hw
    rw [if_pos hw] at k
    rcases k with k | ⟨_, _, _, k⟩
    · refine .inl (Oper.wp_mono (fun a w h => h) ?_)
      unfold Oper.wp at k ⊢
      generalize (execOp a.eval o).run P w = r at k ⊢
      cases r with
      | ok nx w' =>
        cases nx <;> simp only [Oper.upon] at k ⊢ <;> first
          | exact k
          | exact Calls.mono k (fun e w'' he => by cases e <;> first | exact he | exact he.elim | (obtain ⟨_, _, he⟩ := he; exact he.elim))
          | exact Rows.mono k (fun _ _ he => he)
      | halt x w' => cases x <;> simp only [Oper.upon] at k ⊢ <;> exact k.elim
    · exact k.elim
  · rename_i hw
    rw [if_neg hw] at k
    exact k
section
variable {P : Program} {ops : Array Oper} {K : Act → World → Prop} {m n : Nat} {ds : List Nat}
theorem getD_ft {listed : Array Bool} {j : Nat} (h : listed.getD j false = true) : listed.getD j true = true := by
  simp only [Array.getD_eq_getD_getElem?] at h ⊢
  cases e : listed[j]? with
  | none => rfl
  | some b => rw [e] at h; exact h
theorem getD_tf {listed : Array Bool} {j : Nat} (hj : j < listed.size) (h : listed.getD j true = true) : listed.getD j false = true := by
  simp only [Array.getD_eq_getD_getElem?, Array.getElem?_eq_getElem hj] at h ⊢; exact h
theorem comb (hB : combB ops m = true) (I : Act → World → Prop) (Po : Nat → Act → World → Prop)
    (hst : ∀ i, i < m → ∀ a w, I a w → (∀ j ∈ bnds ops i, Po j a w) → wpOp P ops (NormEnd K) i (fun a' w' => I a' w' ∧ Po i a' w' ∧ ∀ j, j < m → j ≠ i → Po j a w → Po j a' w') a w)
    (hlast : ∀ a w, I a w → (∀ j, j < m → Po j a w) → wpOp P ops (NormEnd K) m K a w) :
    ∀ (fu : Nat) (listed : Array Bool) (a : Act) (w : World), listed.size = m + 1 → cntU listed (m + 1) = fu → listed.getD m true = false → I a w → (∀ j, j < m → listed.getD j true = true → Po j a w) → wpAnyP none P ops (NormEnd K) (fun _ => True) fu listed a w := by
  unfold combB at hB
  simp only [Bool.and_eq_true, List.all_eq_true, List.mem_range] at hB
  obtain ⟨⟨hsz, hwf⟩, hal⟩ := hB
  replace hsz : ops.size = m + 1 := Nat.eq_of_beq_eq_true hsz
  replace hwf : ∀ i, i < m + 1 → ∀ j ∈ bnds ops i, j < i := fun i hi j hj => by simpa [Nat.blt_eq] using hwf i hi j hj
  replace hal : ∀ j, j < m → j ∈ bnds ops m := fun j hj => by simpa using hal j hj
  intro fu
  induction fu with
  | zero =>
    intro listed a w _ hc hm
    have := cntU_pos (listed := listed) (k := m + 1) (i := m) (by omega) hm
    omega
  | succ fu ih =>
    intro listed a w hls hc hm hI hPo
    refine ⟨fun hr => ?_, fun i hi => ?_⟩
    · exfalso
      have key : ∀ d i, m - i = d → i ≤ m → listed.getD i true = false → (∀ j, j < i → listed.getD j true = true) → False := fun d i _ hi h1 h2 => by
        have := ready_of (ops := ops) (listed := listed) (i := i) (by omega) h1 (fun j hj => getD_tf (by have := hwf i (by omega) j hj; omega) (h2 j (hwf i (by omega) j hj)))
        rw [hr] at this; cases this
      have least : ∀ k, k ≤ m → (∀ j, j < k → listed.getD j true = true) ∨ ∃ i, i < k ∧ listed.getD i true = false ∧ ∀ j, j < i → listed.getD j true = true := by
        intro k
        induction k with
        | zero => exact fun _ => .inl fun j hj => by omega
        | succ k ihk =>
          intro hk
          rcases ihk (by omega) with h | ⟨i, h1, h2, h3⟩
          · cases e : listed.getD k true
            · exact .inr ⟨k, by omega, e, h⟩
            · exact .inl fun j hj => by
                by_cases e2 : j = k
                · subst e2; exact e
                · exact h j (by omega)
          · exact .inr ⟨i, by omega, h2, h3⟩
      rcases least m (Nat.le_refl _) with h | ⟨i, h1, h2, h3⟩
      · exact key _ m rfl (Nat.le_refl _) hm h
      · exact key _ i rfl (by omega) h2 h3
    · obtain ⟨h1, h2, h3⟩ := ready_mem hi
      have hcs := cntU_set (listed := listed) (i := i) (by omega) h2 (m + 1)
      rw [if_pos (by omega)] at hcs
      by_cases e : i = m
      · subst e
        refine wpOp_mono (fun a' w' hk => ⟨sat_of trivial, P_done ?_ hk _⟩) (hlast a w hI fun j hj => hPo j hj (getD_ft (h3 j (hal j hj))))
        cases hr : Region.ready .any ops (listed.setIfInBounds i true) with
        | nil => rfl
        | cons x r =>
          exfalso
          have hx : x ∈ Region.ready .any ops (listed.setIfInBounds i true) := by rw [hr]; exact List.mem_cons_self
          obtain ⟨g1, g2, _⟩ := ready_mem hx
          rw [getD_set (by omega)] at g2
          split at g2
          · cases g2
          · have := getD_ft (h3 x (hal x (by omega)))
            rw [this] at g2; cases g2
      · refine wpOp_mono (fun a' w' hk => ⟨sat_of trivial, ih _ a' w' (by simpa using hls) (by omega) ?_ hk.1 fun j hj hl => ?_⟩) (hst i (by omega) a w hI fun j hj => hPo j (by have := hwf i (by omega) j hj; omega) (getD_ft (h3 j hj)))
        · rw [getD_set (by omega), if_neg (Ne.symm e)]; exact hm
        · by_cases e2 : j = i
          · subst e2; exact hk.2.1
          · rw [getD_set (by omega), if_neg e2] at hl
            exact hk.2.2 j hj e2 (hPo j hj hl)
/-- What the slots hold, as a list behind others. -/
def rdS (a : Act) (dl : List Nat) : List (Nat × Value) := dl.map fun t => (t, a.tmps.getD t undef)
theorem look_app : ∀ (L L' : List (Nat × Value)) (t : Nat), look (L ++ L') t = (look L t).or (look L' t)
  | [], L', t => by simp [look]
  | (s, v) :: r, L', t => by
    simp only [List.cons_append, look]
    cases Nat.beq s t
    · exact look_app r L' t
    · rfl
theorem look_rd (a : Act) : ∀ (dl : List Nat) (t : Nat) (v : Value), look (rdS a dl) t = some v → a.tmps.getD t undef = v
  | [], _, _, h => by cases h
  | s :: r, t, v, h => by
    simp only [rdS, List.map_cons, look] at h
    cases e : Nat.beq s t
    · rw [e] at h; exact look_rd a r t v h
    · rw [e] at h
      have e2 := Nat.eq_of_beq_eq_true e
      subst e2; exact Option.some.inj h
theorem look_in (a : Act) : ∀ (dl : List Nat) (t : Nat), t ∈ dl → look (rdS a dl) t = some (a.tmps.getD t undef)
  | s :: r, t, h => by
    simp only [rdS, List.map_cons, look]
    cases e : Nat.beq s t
    · rcases List.mem_cons.1 h with h2 | h2
      · subst h2; rw [Nat.beq_refl] at e; cases e
      · exact look_in a r t h2
    · have e2 := Nat.eq_of_beq_eq_true e
      subst e2; rfl
variable {a : Act} {L Lc Lo : List (Nat × Value)} {w w' : World}
theorem AgM.full (hc : AgM ds a n Lc) (dl : List Nat) (ho : AgM ds a n Lo) : AgM ds a n (Lc ++ (rdS a dl ++ Lo)) :=
  ⟨hc.dfr, hc.size, fun t v hv => by
    rw [look_app] at hv
    cases e : look Lc t with
    | some u => rw [e, Option.some_or] at hv; cases hv; exact hc.at_ t _ e
    | none =>
      rw [e, Option.none_or, look_app] at hv
      cases e2 : look (rdS a dl) t with
      | some u => rw [e2, Option.some_or] at hv; cases hv; exact look_rd a dl t _ e2
      | none => rw [e2, Option.none_or] at hv; exact ho.at_ t v hv⟩
theorem AgM.eqc {t : Nat} {v : Value} (h : AgM ds a n L) (e : a.tmps.getD t undef = v) : AgM ds a n ((t, v) :: L) :=
  ⟨h.dfr, h.size, fun s u hs => by
    simp only [look] at hs
    cases e2 : Nat.beq t s
    · rw [e2] at hs; exact h.at_ s u hs
    · rw [e2] at hs
      have e3 := Nat.eq_of_beq_eq_true e2
      subst e3; cases hs; exact e⟩
/-- The operations of a region that only make new things: what each leaves. dl: the slot that each writes. -/
theorem comb_region {id : Nat} {Q : Exit → Act → World → Prop} {l : List Oper} {dl : List Nat} (hm : P.follows .mixedOrders = true) (hB : combB l.toArray m = true) (hdl : dl.length = m) (hnd : dl.Nodup) (hLo' : (dl.all fun d => (look Lo d).isNone) = true)
    (h : AgM ds a n Lo) (Ok : Nat → Value → World → Prop) (hmono : ∀ j v w w', Fr [] w w' → Ok j v w → Ok j v w')
    (hst : ∀ i, i < m → ∀ a w', AgM ds a n Lo → Fr [] w w' → (∀ j, (bnds l.toArray i).contains j = true → Ok j (a.tmps.getD (dl.getD j 0) undef) w') →
      ∃ o Lc, l[i]? = some o ∧ AgM ds a n Lc ∧ (AgM ds a n (Lc ++ (rdS a dl ++ Lo)) → wpList P l.toArray (NormEnd fun a' w2 => ∃ v, AgM ds a' n ((dl.getD i 0, v) :: (Lc ++ (rdS a dl ++ Lo))) ∧ Fr [] w' w2 ∧ Ok i v w2) [o] a w'))
    (hlast : ∀ a w', AgM ds a n Lo → Fr [] w w' → (∀ j, j < m → Ok j (a.tmps.getD (dl.getD j 0) undef) w') → ∃ o, l[m]? = some o ∧ wpList P l.toArray (NormEnd (Q .normal)) [o] a w') :
    (Code.region id l.toArray true).wp P Q a w := by
  have hLo : ∀ d ∈ dl, look Lo d = none := fun d hd => by simpa using List.all_eq_true.1 hLo' d hd
  have hsz : l.length = m + 1 := by
    unfold combB at hB
    simp only [Bool.and_eq_true] at hB
    have := Nat.eq_of_beq_eq_true hB.1.1
    simpa using this
  have hinj : ∀ i j, i < m → j < m → j ≠ i → dl.getD j 0 ≠ dl.getD i 0 := fun i j hi hj hne e => by
    rw [List.getD, List.getD, List.getElem?_eq_getElem (by omega), List.getElem?_eq_getElem (by omega)] at e
    have e1 : dl[j]? = dl[i]? := by rw [List.getElem?_eq_getElem (by omega), List.getElem?_eq_getElem (by omega)]; exact congrArg some e
    exact hne ((List.getElem?_inj (i := j) (by omega) hnd).1 e1)
  have hmem : ∀ i, i < m → dl.getD i 0 ∈ dl := fun i hi => by
    rw [List.getD, List.getElem?_eq_getElem (by omega)]; exact List.getElem_mem _
  refine region_held (fun _ _ => True) hm fun w1 hf1 => ?_
  rw [hsz]
  refine comb hB (fun a w' => AgM ds a n Lo ∧ Fr [] w w') (fun j a w' => Ok j (a.tmps.getD (dl.getD j 0) undef) w') (fun i hi a w' hI hb => ?_) (fun a w' hI hall => ?_) _ _ _ _ (by simp) ?_ ?_ ⟨h, hf1⟩ (fun j hj hl => ?_)
  · obtain ⟨o, Lc, ho, hc, hk⟩ := hst i hi a w' hI.1 hI.2 (fun j hj => hb j (by simpa using hj))
    refine wpOp_mono ?_ (hd_comeR (i := i) (by simpa using ho) (hk (hc.full dl hI.1)))
    rintro a' w2 ⟨v, hag, hfr, hok⟩
    refine ⟨⟨⟨hag.dfr, hag.size, fun t u hu => ?_⟩, hI.2.next hfr⟩, ?_, fun j hj hne hp => ?_⟩
    · by_cases e : t ∈ dl
      · rw [hLo t e] at hu; cases hu
      · have hne : dl.getD i 0 ≠ t := fun e2 => e (e2 ▸ hmem i hi)
        refine hag.at_ t u ?_
        simp only [look]
        rw [show Nat.beq (dl.getD i 0) t = false from by cases e2 : Nat.beq (dl.getD i 0) t; rfl; exact absurd (Nat.eq_of_beq_eq_true e2) hne]
        rw [Bool.cond_false, look_app]
        cases e3 : look Lc t with
        | some u2 => rw [Option.some_or]; rw [← hc.at_ t _ e3, hI.1.at_ t _ hu]
        | none =>
          rw [Option.none_or, look_app]
          cases e4 : look (rdS a dl) t with
          | some u2 => rw [Option.some_or]; rw [← look_rd a dl t _ e4, hI.1.at_ t _ hu]
          | none => rw [Option.none_or]; exact hu
    · have := hag.at_ (dl.getD i 0) v (by simp [look])
      rw [this]; exact hok
    · have hne2 := hinj i j hi hj hne
      have := hag.at_ (dl.getD j 0) (a.tmps.getD (dl.getD j 0) undef) (by
        simp only [look]
        rw [show Nat.beq (dl.getD i 0) (dl.getD j 0) = false from by cases e2 : Nat.beq (dl.getD i 0) (dl.getD j 0); rfl; exact absurd (Nat.eq_of_beq_eq_true e2).symm hne2]
        rw [Bool.cond_false, look_app]
        cases e3 : look Lc (dl.getD j 0) with
        | some u2 => rw [Option.some_or, hc.at_ _ _ e3]
        | none => rw [Option.none_or, look_app, look_in a dl _ (hmem j hj), Option.some_or])
      rw [this]; exact hmono j _ _ _ hfr hp
  · obtain ⟨o, ho, hk⟩ := hlast a w' hI.1 hI.2 hall
    exact hd_comeR (i := m) (by simpa using ho) hk
  · have key : ∀ k, k ≤ m + 1 → cntU (Array.replicate (m + 1) false) k = k := by
      intro k
      induction k with
      | zero => exact fun _ => rfl
      | succ k ih =>
        intro hk
        rw [cntU, ih (by omega), if_pos]
        simp [Array.getD_eq_getD_getElem?, show k < m + 1 by omega]
    exact key _ (Nat.le_refl _)
  · simp [Array.getD_eq_getD_getElem?]
  · simp [Array.getD_eq_getD_getElem?, show j < m + 1 by omega] at hl
theorem comb_done {R : Act → World → Prop} (h : R a w) : wpList P ops (NormEnd R) [] a w := h
/-- What an operation leaves: kept where new things are made. -/
structure Sp where
  p : Value → World → Prop
  m : ∀ v w w', Fr [] w w' → p v w → p v w'
def spC (u : Value) : Sp := ⟨fun v _ => v = u, fun _ _ _ _ h => h⟩
def spAt (l : List Sp) (j : Nat) : Value → World → Prop := (l.getD j ⟨fun _ _ => True, fun _ _ _ _ _ => trivial⟩).p
theorem spAt_m (l : List Sp) (j : Nat) (v : Value) (w w' : World) (hf : Fr [] w w') (h : spAt l j v w) : spAt l j v w' := (l.getD j ⟨fun _ _ => True, fun _ _ _ _ _ => trivial⟩).m v w w' hf h
/-- A slice of the call's own, from block b on. -/
def spO {α : Type} (E : Enc α) (T b : Nat) (l : List α) : Sp := ⟨fun v w => ∃ g, v = .slice (some ⟨g, 0, none⟩) l.length l.length ∧ Own E T b w (.slice (some ⟨g, 0, none⟩) l.length l.length) l, fun _ _ _ hf ⟨g, e, h⟩ => ⟨g, e, h.ext hf⟩⟩
end
end Go.Lw
namespace Go.Proofs.YtkionldalpijpaaGreatDoor
open Go.Lw Go.G21

theorem lpo_ext {τ : TyK} {b : Nat} {w w' : World} {q : LpQ} (h : LpO τ b w q) (hf : Fr [] w w') : LpO τ b w' q := h.tf hf OffT.nil OffT.nil
def spL (b : Nat) (l : Lp) : Sp := ⟨fun v w => ∃ q : LpQ, v = .agg (lpL q).toArray ∧ LpO τd b w q ∧ q.p = l, fun _ _ _ hf ⟨q, e, h, k⟩ => ⟨q, e, lpo_ext h hf, k⟩⟩
def spR (b n : Nat) (l : List Lp) : Sp := ⟨fun v w => ∃ (g : Nat) (ls : List LpQ), v = .slice (some ⟨g, 0, none⟩) n n ∧ Lw.Own encLp 58 b w (.slice (some ⟨g, 0, none⟩) n n) ls ∧ (∀ q ∈ ls, LpO τd b w q) ∧ ls.map LpQ.p = l, fun _ _ _ hf ⟨g, ls, e, h, k, j⟩ => ⟨g, ls, e, h.ext hf, fun q hq => lpo_ext (k q hq) hf, j⟩⟩
def spF (b : Nat) (l : List LId) : Sp := ⟨fun v w => ∃ gt gf, v = .agg ([.slice (some ⟨gt, 0, none⟩) 6 6, .slice none 0 0, .slice none 0 0, .slice (some ⟨gf, 0, none⟩) l.length l.length] : List Value).toArray ∧ Lw.Own encTq 40 b w (.slice (some ⟨gt, 0, none⟩) 6 6) (List.replicate 6 tq0) ∧ Lw.Own encId 39 b w (.slice (some ⟨gf, 0, none⟩) l.length l.length) l, fun _ _ _ hf ⟨g, k, e, h, j⟩ => ⟨g, k, e, h.ext hf, j.ext hf⟩⟩
def spA (b : Nat) : Sp := ⟨fun v w => ∃ g, v = .pointer (some ⟨g, 0, none⟩) ∧ Blk w g 33 [.slice none 0 0, .slice none 0 0, .slice none 0 0, .slice none 0 0] ∧ b ≤ g, fun _ _ _ hf ⟨g, e, h, k⟩ => ⟨g, e, h.ext hf, k⟩⟩
theorem tab1 {w : World} {u : SV} {ls : List LpQ} (h1 : Sl encLp w (slv u) ls) (h2 : LpsAt w ls) : TabAt w ((List.replicate 6 tq0).set 0 (u, ls)) := fun p hp => by
  rcases List.mem_or_eq_of_mem_set hp with hp | rfl
  · obtain rfl := List.eq_of_mem_replicate hp
    exact ⟨Sl.nil _, fun q hq => by cases hq⟩
  · exact ⟨h1, h2⟩
abbrev lp_ (b : Int) (nw : Bool) (th : List LId) (pa : List Pa) : Lp := ⟨b, nw, th, pa⟩
def rowA : List Lp := [lp_ 0 true [] [], lp_ 1 false [] [⟨⟨1, 0⟩, false, 0⟩], lp_ 0 false [⟨1, 1⟩, ⟨1, 0⟩] []]
def rowB : List Lp := [lp_ 0 true [] [], lp_ 1 false [] [⟨⟨1, 0⟩, false, 0⟩], lp_ 0 false [⟨1, 0⟩] [⟨⟨1, 1⟩, true, 1⟩], lp_ 1 false [⟨1, 1⟩] [⟨⟨1, 2⟩, false, 0⟩], lp_ 0 false [⟨1, 3⟩, ⟨1, 2⟩] []]
theorem tubA : tubF 1 [1] = ⟨[rowA, [], [], [], [], []], [], [], [⟨1, 2⟩]⟩ := by decide +kernel
theorem tubB : tubF 1 [1, 1] = ⟨[rowB, [], [], [], [], []], [], [], [⟨1, 4⟩]⟩ := by decide +kernel
theorem cntC : cntZ (tubT 3 [1, 1, 2]) = [12, 9, 0, 0, 0, 0] := by decide +kernel
theorem txtC : (if tubE 3 [1, 1, 2] = 0 then textT 3 [1, 1, 2] else []) = [116, 117, 98, 101, 32, 51, 32, 49, 120, 50, 32, 50] := by decide +kernel
theorem parC : parS [116, 117, 98, 101, 32, 51, 32, 49, 120, 49, 32, 50] = none := by decide +kernel
end Go.Proofs.YtkionldalpijpaaGreatDoor
namespace Go.Proofs.YtkionldalpijpaaGreatDoor
open Go.Lw Go.G21
theorem co5 : CallOf Tryz.prog 5 := CallOf.mk' Tryz.func5 (by kernel_rfl) (by kernel_rfl)
theorem co19 : CallOf Tryz.prog 19 := CallOf.mk' Tryz.func19 (by kernel_rfl) (by kernel_rfl)
theorem co20 : CallOf Tryz.prog 20 := CallOf.mk' Tryz.func20 (by kernel_rfl) (by kernel_rfl)
theorem co21 : CallOf Tryz.prog 21 := CallOf.mk' Tryz.func21 (by kernel_rfl) (by kernel_rfl)
theorem co22 : CallOf Tryz.prog 22 := CallOf.mk' Tryz.func22 (by kernel_rfl) (by kernel_rfl)
theorem el67 : ElemOf Tryz.prog 67 3 Enc.i64 8 := ElemOf.mk' (z := (.int .i64 0)) Tryz.underlying67 (by kernel_rfl) rfl
set_option maxHeartbeats 4000000 in
set_option maxRecDepth 10000 in
theorem lives_ok (w0 : World) (hG : Glob w0) : Rets Tryz.prog 8 #[] w0 fun r w' => r = .bool true ∧ Fr [] w0 w' := by
 have hGs := hG.sz
 refine we [] Tryz.func8 rfl Tryz.ntmps8 rfl .nil ?_
 have hG0 := hG
 refine sr (asg rfl rfl (nn (sr (s_bslice ([(1 : UInt8)]) (ev1 rfl) rfl rfl rfl el22 (Nat.le_of_ble_eq_true rfl) rfl (fun g12 w1 hg12 ho12 q1 z1 => ?_)))))
 refine s_lit (cs := [_, _]) (ev2 rfl rfl) bo26 (pok_cons rfl rfl rfl (pok_cons rfl rfl rfl pok_nil)) rfl rfl ?_
 refine cl (ev1 rfl) co5 (of_ok 1 _ [1] _ ho12.sl (by decide)) rfl ?_
 rintro _ w2 ⟨f1, rfl, hk1, hp1, q2⟩
 have z2 := q2.size
 have hf1 := hk1.at
 have hf10 := hf1
 refine mv rfl rfl (xt rfl rfl rfl (xt rfl rfl rfl (al zv33 rfl rfl (fun g1 w3 hg1 hb1 q3 z3 => ?_))))
 refine s_storeBA (vs := [_, _, _, _]) rfl rfl hb1 (by rfl) (by first | (simp [Value.oneCell', S]; done) | exact Enc.one _ _) sz33 (fun w4 hb1 q4 z4 => ?_)
 refine asg rfl rfl (kpL [(1, _), (2, _)] (.cons rfl (.cons rfl .nil)) (nn (sq ?_)))
 replace hG := hG0.ext (((q1.next q2).next q3).step q4 (by first | (simp; done) | (simp; omega)))
 intro a h
 replace h := h.sub (L' := [(1, _), (2, _)]) (.cons rfl (.cons rfl .nil))
 refine comb_region (dl := [17, 18, 19, 20, 3]) (m := 5) hmix (by kernel_rfl) rfl (by decide) rfl h (spAt [spO encTq 40 w4.heap.size (List.replicate 6 tq0), spC (.agg #[.int .u8 1, .int .i64 2]), spO encId 39 w4.heap.size [(⟨1, 2⟩ : LId)], spF w4.heap.size [(⟨1, 2⟩ : LId)], spA w4.heap.size]) (spAt_m _) ?_ ?_
 · intro i hi a w5 h hf hb
   have hz := hf.size
   match i, hi, hb with
   | 0, _, hb =>
     refine ⟨_, _, rfl, h, fun h => ?_⟩
     refine st_makeSlice (m := 6) (c := 6) (tq0) h rfl rfl el29 zv40 rfl (Nat.le_refl _) (by decide) (by decide) rfl ?_
     intro g w2 hg ho hq hz' a' h'
     exact comb_done ⟨_, h', hq, g, rfl, ho.low (by omega)⟩
   | 1, _, hb =>
     refine ⟨_, _, rfl, h, fun h => ?_⟩
     refine st_call h (evs_cons rfl evs_nil) co19 (one_ok _ _) rfl ?_
     rintro _ w2 ⟨rfl, hq⟩ a' h'
     exact comb_done ⟨_, h', hq, rfl⟩
   | 2, _, hb =>
     have e18 : a.tmps.getD 18 undef = (.agg #[.int .u8 1, .int .i64 2]) := hb 1 (by kernel_rfl)
     refine ⟨_, _, rfl, (h.eqc e18), fun h => ?_⟩
     refine st_bslice ([(⟨1, 2⟩ : LId)]) h (evs_cons rfl evs_nil) rfl rfl rfl el31 (Nat.le_of_ble_eq_true rfl) rfl ?_
     intro g w2 hg ho hq hz' a' h'
     exact comb_done ⟨_, h', hq, g, rfl, ho.low (by omega)⟩
   | 3, _, hb =>
     obtain ⟨g17, e17, ho17⟩ : ∃ g, a.tmps.getD 17 undef = .slice (some ⟨g, 0, none⟩) 6 6 ∧ Lw.Own encTq 40 w4.heap.size w5 (.slice (some ⟨g, 0, none⟩) 6 6) (List.replicate 6 tq0) := hb 0 (by kernel_rfl)
     obtain ⟨g19, e19, ho19⟩ : ∃ g, a.tmps.getD 19 undef = .slice (some ⟨g, 0, none⟩) 1 1 ∧ Lw.Own encId 39 w4.heap.size w5 (.slice (some ⟨g, 0, none⟩) 1 1) [(⟨1, 2⟩ : LId)] := hb 2 (by kernel_rfl)
     refine ⟨_, _, rfl, ((h.eqc e17).eqc e19), fun h => ?_⟩
     refine st_lit (cs := [_, _, _, _]) h (evs_cons rfl (evs_cons rfl evs_nil)) bo33 (pok_cons rfl rfl rfl (pok_cons rfl rfl rfl pok_nil)) rfl rfl ?_
     intro a' h'
     exact comb_done ⟨_, h', Fr.refl _ _, g17, g19, rfl, ho17, ho19⟩
   | 4, _, hb =>
     refine ⟨_, _, rfl, h, fun h => ?_⟩
     refine st_alloc h zv33 rfl rfl ?_
     intro w2 hb_ hq hz' a' h'
     exact comb_done ⟨_, h', hq, _, rfl, hb_, by omega⟩
   | n + 5, hi, _ => exact absurd hi (by omega)
 · intro a w6 h hf hall
   have z6 := hf.size
   have q6 := hf
   refine ⟨_, rfl, ?_⟩
   obtain ⟨g3, e3, hb3, hg3⟩ : ∃ g, a.tmps.getD 3 undef = .pointer (some ⟨g, 0, none⟩) ∧ Blk w6 g 33 [.slice none 0 0, .slice none 0 0, .slice none 0 0, .slice none 0 0] ∧ w4.heap.size ≤ g := hall 4 (by omega)
   obtain ⟨gT, gF, e20, hoT, hoF⟩ : ∃ gt gf, a.tmps.getD 20 undef = .agg ([.slice (some ⟨gt, 0, none⟩) 6 6, .slice none 0 0, .slice none 0 0, .slice (some ⟨gf, 0, none⟩) 1 1] : List Value).toArray ∧ Lw.Own encTq 40 w4.heap.size w6 (.slice (some ⟨gt, 0, none⟩) 6 6) (List.replicate 6 tq0) ∧ Lw.Own encId 39 w4.heap.size w6 (.slice (some ⟨gf, 0, none⟩) 1 1) [(⟨1, 2⟩ : LId)] := hall 3 (by omega)
   replace h := (h.eqc e3).eqc e20
   clear hall e3 e20
   refine st_storeBA (vs := [_, _, _, _]) h rfl rfl hb3 (by rfl) (by first | (simp [Value.oneCell', S]; done) | exact Enc.one _ _) sz33 ?_; clear h a; intro w7 hbn q7 z7 a h
   have hgT := hoT.blk gT (by simp [blks])
   have hgF := hoF.blk gF (by simp [blks])
   replace hoT := hoT.fr q7 (fun k hk hb => by rw [List.mem_singleton] at hk; subst hk; exact Own.neB hoT hb3 (by decide) hb)
   replace hoF := hoF.fr q7 (fun k hk hb => by rw [List.mem_singleton] at hk; subst hk; exact Own.neB hoF hb3 (by decide) hb)
   have hgTF : gT ≠ gF := fun e => by subst e; exact Own.neB hoT (show Blk _ gT 39 _ from (own_blk hoF gT (by simp [blks])).choose_spec) (by decide) (by simp [blks])
   have hg3z := hb3.lt
   have hgT3 : gT ≠ g3 := fun e => by subst e; exact Own.neB hoT hbn (by decide) (by simp [blks])
   clear hb3
   have hb3 := hbn
   clear hbn
   refine comb_done ?_
   refine bk (h.sub (L' := [(1, _), (2, _), (3, _)]) (.cons rfl (.cons rfl (.cons rfl .nil)))) ?_; clear h a
   refine tn (sq ?_)
   replace hG := hG0.ext (((((q1.next q2).next q3).step q4 (by first | (simp; done) | (simp; omega))).next q6).step q7 (by first | (simp; done) | (simp; omega)))
   replace ho12 := (((ho12.ext (q2.next q3)).fr q4 (by first | (simp; done) | (simp; omega) | (simp [blks]; done) | (simp [blks]; omega) | (intro k hk hb; simp at hk; subst hk; have := ho12.blk _ hb; omega))).ext q6).fr q7 (by first | (simp; done) | (simp; omega) | (simp [blks]; done) | (simp [blks]; omega) | (intro k hk hb; simp at hk; subst hk; have := ho12.blk _ hb; omega))
   replace hf1 := hf10.ext (((q3.step q4 (by first | (simp; done) | (simp; omega))).next q6).step q7 (by first | (simp; done) | (simp; omega)))
   replace hb1 := (hb1.ext q6).fr q7 (by first | (simp; done) | (simp; omega) | (simp [blks]; done) | (simp [blks]; omega))
   intro a h
   replace h := h.sub (L' := [(1, _), (2, _), (3, _)]) (.cons rfl (.cons rfl (.cons rfl .nil)))
   refine comb_region (dl := [21, 22, 23, 24, 25, 26, 27, 28, 29, 30, 31, 32, 33]) (m := 13) hmix (by kernel_rfl) rfl (by decide) rfl h (spAt [spC (.pointer (some ((⟨g3, 0, none⟩ : Addr).add 0))), spC (.slice (some ⟨gT, 0, none⟩) 6 6), spL w7.heap.size (lp_ 0 true [] []), spC (.agg #[.int .u8 1, .int .i64 0]), spC (.agg #[.int .u8 1, .int .i64 0, .bool false, .int .u8 0]), spO encPa 65 w7.heap.size [(⟨(⟨1, 0⟩ : LId), false, 0⟩ : Pa)], spL w7.heap.size (lp_ 1 false [] [(⟨(⟨1, 0⟩ : LId), false, 0⟩ : Pa)]), spC (.agg #[.int .u8 1, .int .i64 1]), spC (.agg #[.int .u8 1, .int .i64 0]), spO encId 39 w7.heap.size [(⟨1, 1⟩ : LId), (⟨1, 0⟩ : LId)], spL w7.heap.size (lp_ 0 false [(⟨1, 1⟩ : LId), (⟨1, 0⟩ : LId)] []), spR w7.heap.size 3 [(lp_ 0 true [] []), (lp_ 1 false [] [(⟨(⟨1, 0⟩ : LId), false, 0⟩ : Pa)]), (lp_ 0 false [(⟨1, 1⟩ : LId), (⟨1, 0⟩ : LId)] [])], spC (.pointer (some ((⟨gT, 0, none⟩ : Addr).add (0 * encTq.sz))))]) (spAt_m _) ?_ ?_
   · intro i hi a w8 h hf hb
     have hz := hf.size
     match i, hi, hb with
     | 0, _, hb =>
       refine ⟨_, _, rfl, h, fun h => ?_⟩
       refine st_fieldAddr h rfl fa33_0 rfl ?_
       intro a' h'
       exact comb_done ⟨_, h', Fr.refl _ _, rfl⟩
     | 1, _, hb =>
       have e21 : a.tmps.getD 21 undef = (.pointer (some ((⟨g3, 0, none⟩ : Addr).add 0))) := hb 0 (by kernel_rfl)
       refine ⟨_, _, rfl, (h.eqc e21), fun h => ?_⟩
       refine st_loadB h rfl (hb3.ext hf) rfl na29 rfl ?_
       intro a' h'
       exact comb_done ⟨_, h', Fr.refl _ _, rfl⟩
     | 2, _, hb =>
       refine ⟨_, _, rfl, h, fun h => ?_⟩
       refine st_lit (cs := [_, _, _, _]) h (evs_cons rfl evs_nil) bo58 (pok_cons rfl rfl rfl pok_nil) rfl rfl ?_
       intro a' h'
       exact comb_done ⟨_, h', Fr.refl _ _, ⟨0, true, sv0, sv0, [], []⟩, rfl, ⟨Own.nil _, Own.nil _⟩, rfl⟩
     | 3, _, hb =>
       refine ⟨_, _, rfl, h, fun h => ?_⟩
       refine st_call h (evs_cons rfl evs_nil) co19 (one_ok _ _) rfl ?_
       rintro _ w2 ⟨rfl, hq⟩ a' h'
       exact comb_done ⟨_, h', hq, rfl⟩
     | 4, _, hb =>
       have e24 : a.tmps.getD 24 undef = (.agg #[.int .u8 1, .int .i64 0]) := hb 3 (by kernel_rfl)
       refine ⟨_, _, rfl, (h.eqc e24), fun h => ?_⟩
       refine st_lit (cs := [_, _, _, _]) h (evs_cons rfl evs_nil) bo65 (pok_cons rfl rfl rfl pok_nil) rfl rfl ?_
       intro a' h'
       exact comb_done ⟨_, h', Fr.refl _ _, rfl⟩
     | 5, _, hb =>
       have e25 : a.tmps.getD 25 undef = (.agg #[.int .u8 1, .int .i64 0, .bool false, .int .u8 0]) := hb 4 (by kernel_rfl)
       refine ⟨_, _, rfl, (h.eqc e25), fun h => ?_⟩
       refine st_bslice ([(⟨(⟨1, 0⟩ : LId), false, 0⟩ : Pa)]) h (evs_cons rfl evs_nil) rfl rfl rfl el56 (Nat.le_of_ble_eq_true rfl) rfl ?_
       intro g w2 hg ho hq hz' a' h'
       exact comb_done ⟨_, h', hq, g, rfl, ho.low (by omega)⟩
     | 6, _, hb =>
       obtain ⟨g26, e26, ho26⟩ : ∃ g, a.tmps.getD 26 undef = .slice (some ⟨g, 0, none⟩) 1 1 ∧ Lw.Own encPa 65 w7.heap.size w8 (.slice (some ⟨g, 0, none⟩) 1 1) [(⟨(⟨1, 0⟩ : LId), false, 0⟩ : Pa)] := hb 5 (by kernel_rfl)
       refine ⟨_, _, rfl, (h.eqc e26), fun h => ?_⟩
       refine st_lit (cs := [_, _, _, _]) h (evs_cons rfl (evs_cons rfl evs_nil)) bo58 (pok_cons rfl rfl rfl (pok_cons rfl rfl rfl pok_nil)) rfl rfl ?_
       intro a' h'
       exact comb_done ⟨_, h', Fr.refl _ _, ⟨1, false, sv0, (some ⟨g26, 0, none⟩, 1, 1), [], [(⟨(⟨1, 0⟩ : LId), false, 0⟩ : Pa)]⟩, rfl, ⟨Own.nil _, ho26⟩, rfl⟩
     | 7, _, hb =>
       refine ⟨_, _, rfl, h, fun h => ?_⟩
       refine st_call h (evs_cons rfl evs_nil) co19 (one_ok _ _) rfl ?_
       rintro _ w2 ⟨rfl, hq⟩ a' h'
       exact comb_done ⟨_, h', hq, rfl⟩
     | 8, _, hb =>
       refine ⟨_, _, rfl, h, fun h => ?_⟩
       refine st_call h (evs_cons rfl evs_nil) co19 (one_ok _ _) rfl ?_
       rintro _ w2 ⟨rfl, hq⟩ a' h'
       exact comb_done ⟨_, h', hq, rfl⟩
     | 9, _, hb =>
       have e28 : a.tmps.getD 28 undef = (.agg #[.int .u8 1, .int .i64 1]) := hb 7 (by kernel_rfl)
       have e29 : a.tmps.getD 29 undef = (.agg #[.int .u8 1, .int .i64 0]) := hb 8 (by kernel_rfl)
       refine ⟨_, _, rfl, ((h.eqc e28).eqc e29), fun h => ?_⟩
       refine st_bslice ([(⟨1, 1⟩ : LId), (⟨1, 0⟩ : LId)]) h (evs_cons rfl (evs_cons rfl evs_nil)) rfl rfl rfl el31 (Nat.le_of_ble_eq_true rfl) rfl ?_
       intro g w2 hg ho hq hz' a' h'
       exact comb_done ⟨_, h', hq, g, rfl, ho.low (by omega)⟩
     | 10, _, hb =>
       obtain ⟨g30, e30, ho30⟩ : ∃ g, a.tmps.getD 30 undef = .slice (some ⟨g, 0, none⟩) 2 2 ∧ Lw.Own encId 39 w7.heap.size w8 (.slice (some ⟨g, 0, none⟩) 2 2) [(⟨1, 1⟩ : LId), (⟨1, 0⟩ : LId)] := hb 9 (by kernel_rfl)
       refine ⟨_, _, rfl, (h.eqc e30), fun h => ?_⟩
       refine st_lit (cs := [_, _, _, _]) h (evs_cons rfl evs_nil) bo58 (pok_cons rfl rfl rfl pok_nil) rfl rfl ?_
       intro a' h'
       exact comb_done ⟨_, h', Fr.refl _ _, ⟨0, false, (some ⟨g30, 0, none⟩, 2, 2), sv0, [(⟨1, 1⟩ : LId), (⟨1, 0⟩ : LId)], []⟩, rfl, ⟨ho30, Own.nil _⟩, rfl⟩
     | 11, _, hb =>
       obtain ⟨y23, e23, ho23, p23⟩ : ∃ q : LpQ, a.tmps.getD 23 undef = .agg (lpL q).toArray ∧ LpO τd w7.heap.size w8 q ∧ q.p = (lp_ 0 true [] []) := hb 2 (by kernel_rfl)
       obtain ⟨y27, e27, ho27, p27⟩ : ∃ q : LpQ, a.tmps.getD 27 undef = .agg (lpL q).toArray ∧ LpO τd w7.heap.size w8 q ∧ q.p = (lp_ 1 false [] [(⟨(⟨1, 0⟩ : LId), false, 0⟩ : Pa)]) := hb 6 (by kernel_rfl)
       obtain ⟨y31, e31, ho31, p31⟩ : ∃ q : LpQ, a.tmps.getD 31 undef = .agg (lpL q).toArray ∧ LpO τd w7.heap.size w8 q ∧ q.p = (lp_ 0 false [(⟨1, 1⟩ : LId), (⟨1, 0⟩ : LId)] []) := hb 10 (by kernel_rfl)
       refine ⟨_, _, rfl, (((h.eqc e23).eqc e27).eqc e31), fun h => ?_⟩
       refine st_bslice ([y23, y27, y31]) h (evs_cons rfl (evs_cons rfl (evs_cons rfl evs_nil))) rfl rfl rfl el40 (Nat.le_of_ble_eq_true rfl) rfl ?_
       intro g w2 hg ho hq hz' a' h'
       refine comb_done ⟨_, h', hq, g, [y23, y27, y31], rfl, ho.low (by omega), fun q hq_ => ?_, ?_⟩
       · simp only [List.mem_cons, List.not_mem_nil, or_false] at hq_
         rcases hq_ with rfl | rfl | rfl
         · exact lpo_ext ho23 hq
         · exact lpo_ext ho27 hq
         · exact lpo_ext ho31 hq
       · show [y23.p, y27.p, y31.p] = _; rw [p23, p27, p31]
     | 12, _, hb =>
       have e22 : a.tmps.getD 22 undef = (.slice (some ⟨gT, 0, none⟩) 6 6) := hb 1 (by kernel_rfl)
       refine ⟨_, _, rfl, (h.eqc e22), fun h => ?_⟩
       refine st_idxS (p := 0) (E := encTq) h rfl rfl el29 (by decide) (by decide) rfl rfl ?_
       intro a' h'
       exact comb_done ⟨_, h', Fr.refl _ _, rfl⟩
     | n + 13, hi, _ => exact absurd hi (by omega)
   · intro a w9 h hf hall
     have z9 := hf.size
     have q9 := hf
     refine ⟨_, rfl, ?_⟩
     have e33 : a.tmps.getD 33 undef = (.pointer (some ((⟨gT, 0, none⟩ : Addr).add (0 * encTq.sz)))) := hall 12 (by omega)
     obtain ⟨g32, ls, e32, ho32, hls, hlp⟩ : ∃ (g : Nat) (ls : List LpQ), a.tmps.getD 32 undef = .slice (some ⟨g, 0, none⟩) 3 3 ∧ Lw.Own encLp 58 w7.heap.size w9 (.slice (some ⟨g, 0, none⟩) 3 3) ls ∧ (∀ q ∈ ls, LpO τd w7.heap.size w9 q) ∧ ls.map LpQ.p = [(lp_ 0 true [] []), (lp_ 1 false [] [(⟨(⟨1, 0⟩ : LId), false, 0⟩ : Pa)]), (lp_ 0 false [(⟨1, 1⟩ : LId), (⟨1, 0⟩ : LId)] [])] := hall 11 (by omega)
     replace hoT := hoT.ext q9
     replace hb3 := hb3.ext q9
     replace hoF := hoF.ext q9
     replace h := (h.eqc e33).eqc e32
     clear hall e33 e32
     refine st_storeO (i := 0) (((some ⟨g32, 0, none⟩, 3, 3), ls) : TQ) h rfl rfl hoT (by simp) rfl sz40 ?_; clear h a; intro w10 ho_2 q10 z10 a h
     have hgR := ho32.blk g32 (by simp [blks])
     have hgT_ := (hoT.blk gT (by simp [blks])).2
     replace hb3 := hb3.fr q10 (by simp; omega)
     replace hoF := hoF.fr q10 (by intro k hk hb; simp [blks] at hk hb; omega)
     have hoTb := hoT
     clear hoT
     have hoT := ho_2
     clear ho_2
     try rw [List.set_set] at hoT
     have hRw : Lw.Own encLp 58 0 w10 (slv (some ⟨g32, 0, none⟩, 3, 3)) ls := (ho32.fr q10 (fun k hk hb => by rw [List.mem_singleton] at hk; subst hk; have := (ho32.blk _ hb).1; omega)).low (Nat.zero_le _)
     have hRl : ∀ q ∈ ls, LpO τd (gT + 1) w10 q := fun q hq => LpO.tf ⟨(hls q hq).1.low (by omega), (hls q hq).2.low (by omega)⟩ q10 (own_off (E := encTq) (v := .slice (some ⟨gT, 0, none⟩) 6 6) hoTb (by decide)) (own_off (E := encTq) (v := .slice (some ⟨gT, 0, none⟩) 6 6) hoTb (by decide))
     have hRq : Sl encLp w10 (slv (some ⟨g32, 0, none⟩, 3, 3)) ls ∧ LpsAt w10 ls := ⟨hRw.sl, fun q hq => (hRl q hq).at⟩
     have hRq0 := hRq
     refine comb_done ?_
     have hQA : FbAt w10 (⟨(some ⟨gT, 0, none⟩, 6, 6), sv0, sv0, (some ⟨gF, 0, none⟩, 1, 1), (List.replicate 6 tq0).set 0 ((some ⟨g32, 0, none⟩, 3, 3), ls), [], [], [⟨1, 2⟩]⟩ : FbQ) := ⟨hoT.sl, tab1 hRq.1 hRq.2, Sl.nil _, Sl.nil _, hoF.sl⟩
     have hQA0 := hQA
     have heA : f1.p = ((⟨(some ⟨gT, 0, none⟩, 6, 6), sv0, sv0, (some ⟨gF, 0, none⟩, 1, 1), (List.replicate 6 tq0).set 0 ((some ⟨g32, 0, none⟩, 3, 3), ls), [], [], [⟨1, 2⟩]⟩ : FbQ)).p := by rw [hp1, tubA]; show _ = Fb.mk [ls.map LpQ.p, [], [], [], [], []] [] [] [⟨1, 2⟩]; rw [hlp]; rfl
     refine bk (h.sub (L' := [(1, _), (2, _), (3, _)]) (.cons rfl (.cons rfl (.cons rfl .nil)))) ?_; clear h a
     refine tn (sq (sq ?_))
     refine rboF (r := 41) (L' := [(3, _)]) (((0 ≠ 0) ∨ (0 ≠ 0))) (.cons rfl .nil) ?_ ?_
     · refine mv rfl rfl (ne' rfl rfl rfl (mv rfl rfl ?_))
       refine gs 36 rfl (fun hh => absurd hh (by decide)) (fun g0 => ?_)
       refine gY rfl ?_
       replace hb1 := (hb1.ext q9).fr q10 (by first | (simp; done) | (simp; omega) | (simp [blks]; done) | (simp [blks]; omega))
       refine s_loadBA rfl hb1 ag33 rfl (gY rfl (s_loadBA rfl hb3 ag33 rfl (gY rfl ?_)))
       replace hf1 := hf10.ext (((((q3.step q4 (by first | (simp; done) | (simp; omega))).next q6).step q7 (by first | (simp; done) | (simp; omega))).next q9).step q10 (by first | (simp; done) | (simp; omega)))
       refine cl (ev2 rfl rfl) co20 (by have hfA := fabrics_ok _ _ _ hf1 hQA heA; exact hfA) rfl ?_
       rintro _ w11 ⟨rfl, q11⟩
       have z11 := q11.size
       exact gY rfl (ne' rfl rfl rfl (pkf rfl rfl rfl rfl (rbeF rfl (by first | exact bt (by omega) | exact bf (by omega) | exact bi (by omega) | exact bn (by omega) | (simp_all; done) | (simp_all; omega)) (.cons rfl .nil) q11)))
     · intro w12 q12; have z12 := q12.size
       refine tn ?_
       refine cd rfl (fun c0 => ?_) (fun c0 => ?_)
       · refine sr (asg rfl rfl (nn (rt (tr (r1 Tryz.results8 rfl ?_)))))
         exact absurd c0 (by decide)
       · refine sk (tn (sr (s_bslice ([(1 : UInt8), 1]) (ev2 rfl rfl) rfl rfl rfl el22 (Nat.le_of_ble_eq_true rfl) rfl (fun g43 w13 hg43 ho43 q13 z13 => ?_))))
         refine s_lit (cs := [_, _]) (ev2 rfl rfl) bo26 (pok_cons rfl rfl rfl (pok_cons rfl rfl rfl pok_nil)) rfl rfl ?_
         refine cl (ev1 rfl) co5 (of_ok 1 _ [1, 1] _ ho43.sl (by decide)) rfl ?_
         rintro _ w14 ⟨f2, rfl, hk2, hp2, q14⟩
         have z14 := q14.size
         have hf2 := hk2.at
         have hf20 := hf2
         refine mv rfl rfl (xt rfl rfl rfl (xt rfl rfl rfl (al zv33 rfl rfl (fun g4 w15 hg4 hb4 q15 z15 => ?_))))
         refine s_storeBA (vs := [_, _, _, _]) rfl rfl hb4 (by rfl) (by first | (simp [Value.oneCell', S]; done) | exact Enc.one _ _) sz33 (fun w16 hb4 q16 z16 => ?_)
         refine asg rfl rfl (kpL [(3, _), (4, _), (5, _)] (.cons rfl (.cons rfl (.cons rfl .nil))) (nn (sq ?_)))
         replace hG := hG0.ext ((((((((((((q1.next q2).next q3).step q4 (by first | (simp; done) | (simp; omega))).next q6).step q7 (by first | (simp; done) | (simp; omega))).next q9).step q10 (by first | (simp; done) | (simp; omega))).next q12).next q13).next q14).next q15).step q16 (by first | (simp; done) | (simp; omega)))
         replace ho12 := (((ho12.ext q9).fr q10 (by first | (simp; done) | (simp; omega) | (simp [blks]; done) | (simp [blks]; omega) | (intro k hk hb; simp at hk; subst hk; have := ho12.blk _ hb; omega))).ext (((q12.next q13).next q14).next q15)).fr q16 (by first | (simp; done) | (simp; omega) | (simp [blks]; done) | (simp [blks]; omega) | (intro k hk hb; simp at hk; subst hk; have := ho12.blk _ hb; omega))
         replace hf1 := hf10.ext ((((((((((q3.step q4 (by first | (simp; done) | (simp; omega))).next q6).step q7 (by first | (simp; done) | (simp; omega))).next q9).step q10 (by first | (simp; done) | (simp; omega))).next q12).next q13).next q14).next q15).step q16 (by first | (simp; done) | (simp; omega)))
         replace hb1 := (((hb1.ext q9).fr q10 (by first | (simp; done) | (simp; omega) | (simp [blks]; done) | (simp [blks]; omega))).ext (((q12.next q13).next q14).next q15)).fr q16 (by first | (simp; done) | (simp; omega) | (simp [blks]; done) | (simp [blks]; omega))
         replace hb3 := (hb3.ext (((q12.next q13).next q14).next q15)).fr q16 (by first | (simp; done) | (simp; omega) | (simp [blks]; done) | (simp [blks]; omega))
         replace hoT := (hoT.ext (((q12.next q13).next q14).next q15)).fr q16 (by intro k hk hb; simp [blks] at hk hb; omega)
         replace hoF := (hoF.ext (((q12.next q13).next q14).next q15)).fr q16 (by intro k hk hb; simp [blks] at hk hb; omega)
         replace hQA := hQA0.ext ((((q12.next q13).next q14).next q15).step q16 (by first | (simp; done) | (simp; omega)))
         replace ho43 := (ho43.ext (q14.next q15)).fr q16 (by first | (simp; done) | (simp; omega) | (simp [blks]; done) | (simp [blks]; omega) | (intro k hk hb; simp at hk; subst hk; have := ho43.blk _ hb; omega))
         replace hf2 := hf20.ext (q15.step q16 (by first | (simp; done) | (simp; omega)))
         intro a h
         replace h := h.sub (L' := [(3, _), (4, _), (5, _)]) (.cons rfl (.cons rfl (.cons rfl .nil)))
         refine comb_region (dl := [48, 49, 50, 51, 52, 53, 54, 55, 56, 57, 58, 59, 60, 61, 62, 63, 64, 65, 66, 67, 68, 69, 70, 71, 72]) (m := 25) hmix (by kernel_rfl) rfl (by decide) rfl h (spAt [spC (.pointer (some ((⟨g3, 0, none⟩ : Addr).add 0))), spC (.slice (some ⟨gT, 0, none⟩) 6 6), spL w16.heap.size (lp_ 0 true [] []), spC (.agg #[.int .u8 1, .int .i64 0]), spC (.agg #[.int .u8 1, .int .i64 0, .bool false, .int .u8 0]), spO encPa 65 w16.heap.size [(⟨(⟨1, 0⟩ : LId), false, 0⟩ : Pa)], spL w16.heap.size (lp_ 1 false [] [(⟨(⟨1, 0⟩ : LId), false, 0⟩ : Pa)]), spC (.agg #[.int .u8 1, .int .i64 0]), spO encId 39 w16.heap.size [(⟨1, 0⟩ : LId)], spC (.agg #[.int .u8 1, .int .i64 1]), spC (.agg #[.int .u8 1, .int .i64 1, .bool true, .int .u8 1]), spO encPa 65 w16.heap.size [(⟨(⟨1, 1⟩ : LId), true, 1⟩ : Pa)], spL w16.heap.size (lp_ 0 false [(⟨1, 0⟩ : LId)] [(⟨(⟨1, 1⟩ : LId), true, 1⟩ : Pa)]), spC (.agg #[.int .u8 1, .int .i64 1]), spO encId 39 w16.heap.size [(⟨1, 1⟩ : LId)], spC (.agg #[.int .u8 1, .int .i64 2]), spC (.agg #[.int .u8 1, .int .i64 2, .bool false, .int .u8 0]), spO encPa 65 w16.heap.size [(⟨(⟨1, 2⟩ : LId), false, 0⟩ : Pa)], spL w16.heap.size (lp_ 1 false [(⟨1, 1⟩ : LId)] [(⟨(⟨1, 2⟩ : LId), false, 0⟩ : Pa)]), spC (.agg #[.int .u8 1, .int .i64 3]), spC (.agg #[.int .u8 1, .int .i64 2]), spO encId 39 w16.heap.size [(⟨1, 3⟩ : LId), (⟨1, 2⟩ : LId)], spL w16.heap.size (lp_ 0 false [(⟨1, 3⟩ : LId), (⟨1, 2⟩ : LId)] []), spR w16.heap.size 5 [(lp_ 0 true [] []), (lp_ 1 false [] [(⟨(⟨1, 0⟩ : LId), false, 0⟩ : Pa)]), (lp_ 0 false [(⟨1, 0⟩ : LId)] [(⟨(⟨1, 1⟩ : LId), true, 1⟩ : Pa)]), (lp_ 1 false [(⟨1, 1⟩ : LId)] [(⟨(⟨1, 2⟩ : LId), false, 0⟩ : Pa)]), (lp_ 0 false [(⟨1, 3⟩ : LId), (⟨1, 2⟩ : LId)] [])], spC (.pointer (some ((⟨gT, 0, none⟩ : Addr).add (0 * encTq.sz))))]) (spAt_m _) ?_ ?_
         · intro i hi a w17 h hf hb
           have hz := hf.size
           match i, hi, hb with
           | 0, _, hb =>
             refine ⟨_, _, rfl, h, fun h => ?_⟩
             refine st_fieldAddr h rfl fa33_0 rfl ?_
             intro a' h'
             exact comb_done ⟨_, h', Fr.refl _ _, rfl⟩
           | 1, _, hb =>
             have e48 : a.tmps.getD 48 undef = (.pointer (some ((⟨g3, 0, none⟩ : Addr).add 0))) := hb 0 (by kernel_rfl)
             refine ⟨_, _, rfl, (h.eqc e48), fun h => ?_⟩
             refine st_loadB h rfl (hb3.ext hf) rfl na29 rfl ?_
             intro a' h'
             exact comb_done ⟨_, h', Fr.refl _ _, rfl⟩
           | 2, _, hb =>
             refine ⟨_, _, rfl, h, fun h => ?_⟩
             refine st_lit (cs := [_, _, _, _]) h (evs_cons rfl evs_nil) bo58 (pok_cons rfl rfl rfl pok_nil) rfl rfl ?_
             intro a' h'
             exact comb_done ⟨_, h', Fr.refl _ _, ⟨0, true, sv0, sv0, [], []⟩, rfl, ⟨Own.nil _, Own.nil _⟩, rfl⟩
           | 3, _, hb =>
             refine ⟨_, _, rfl, h, fun h => ?_⟩
             refine st_call h (evs_cons rfl evs_nil) co19 (one_ok _ _) rfl ?_
             rintro _ w2 ⟨rfl, hq⟩ a' h'
             exact comb_done ⟨_, h', hq, rfl⟩
           | 4, _, hb =>
             have e51 : a.tmps.getD 51 undef = (.agg #[.int .u8 1, .int .i64 0]) := hb 3 (by kernel_rfl)
             refine ⟨_, _, rfl, (h.eqc e51), fun h => ?_⟩
             refine st_lit (cs := [_, _, _, _]) h (evs_cons rfl evs_nil) bo65 (pok_cons rfl rfl rfl pok_nil) rfl rfl ?_
             intro a' h'
             exact comb_done ⟨_, h', Fr.refl _ _, rfl⟩
           | 5, _, hb =>
             have e52 : a.tmps.getD 52 undef = (.agg #[.int .u8 1, .int .i64 0, .bool false, .int .u8 0]) := hb 4 (by kernel_rfl)
             refine ⟨_, _, rfl, (h.eqc e52), fun h => ?_⟩
             refine st_bslice ([(⟨(⟨1, 0⟩ : LId), false, 0⟩ : Pa)]) h (evs_cons rfl evs_nil) rfl rfl rfl el56 (Nat.le_of_ble_eq_true rfl) rfl ?_
             intro g w2 hg ho hq hz' a' h'
             exact comb_done ⟨_, h', hq, g, rfl, ho.low (by omega)⟩
           | 6, _, hb =>
             obtain ⟨g53, e53, ho53⟩ : ∃ g, a.tmps.getD 53 undef = .slice (some ⟨g, 0, none⟩) 1 1 ∧ Lw.Own encPa 65 w16.heap.size w17 (.slice (some ⟨g, 0, none⟩) 1 1) [(⟨(⟨1, 0⟩ : LId), false, 0⟩ : Pa)] := hb 5 (by kernel_rfl)
             refine ⟨_, _, rfl, (h.eqc e53), fun h => ?_⟩
             refine st_lit (cs := [_, _, _, _]) h (evs_cons rfl (evs_cons rfl evs_nil)) bo58 (pok_cons rfl rfl rfl (pok_cons rfl rfl rfl pok_nil)) rfl rfl ?_
             intro a' h'
             exact comb_done ⟨_, h', Fr.refl _ _, ⟨1, false, sv0, (some ⟨g53, 0, none⟩, 1, 1), [], [(⟨(⟨1, 0⟩ : LId), false, 0⟩ : Pa)]⟩, rfl, ⟨Own.nil _, ho53⟩, rfl⟩
           | 7, _, hb =>
             refine ⟨_, _, rfl, h, fun h => ?_⟩
             refine st_call h (evs_cons rfl evs_nil) co19 (one_ok _ _) rfl ?_
             rintro _ w2 ⟨rfl, hq⟩ a' h'
             exact comb_done ⟨_, h', hq, rfl⟩
           | 8, _, hb =>
             have e55 : a.tmps.getD 55 undef = (.agg #[.int .u8 1, .int .i64 0]) := hb 7 (by kernel_rfl)
             refine ⟨_, _, rfl, (h.eqc e55), fun h => ?_⟩
             refine st_bslice ([(⟨1, 0⟩ : LId)]) h (evs_cons rfl evs_nil) rfl rfl rfl el31 (Nat.le_of_ble_eq_true rfl) rfl ?_
             intro g w2 hg ho hq hz' a' h'
             exact comb_done ⟨_, h', hq, g, rfl, ho.low (by omega)⟩
           | 9, _, hb =>
             refine ⟨_, _, rfl, h, fun h => ?_⟩
             refine st_call h (evs_cons rfl evs_nil) co19 (one_ok _ _) rfl ?_
             rintro _ w2 ⟨rfl, hq⟩ a' h'
             exact comb_done ⟨_, h', hq, rfl⟩
           | 10, _, hb =>
             have e57 : a.tmps.getD 57 undef = (.agg #[.int .u8 1, .int .i64 1]) := hb 9 (by kernel_rfl)
             refine ⟨_, _, rfl, (h.eqc e57), fun h => ?_⟩
             refine st_lit (cs := [_, _, _, _]) h (evs_cons rfl (evs_cons rfl (evs_cons rfl evs_nil))) bo65 (pok_cons rfl rfl rfl (pok_cons rfl rfl rfl (pok_cons rfl rfl rfl pok_nil))) rfl rfl ?_
             intro a' h'
             exact comb_done ⟨_, h', Fr.refl _ _, rfl⟩
           | 11, _, hb =>
             have e58 : a.tmps.getD 58 undef = (.agg #[.int .u8 1, .int .i64 1, .bool true, .int .u8 1]) := hb 10 (by kernel_rfl)
             refine ⟨_, _, rfl, (h.eqc e58), fun h => ?_⟩
             refine st_bslice ([(⟨(⟨1, 1⟩ : LId), true, 1⟩ : Pa)]) h (evs_cons rfl evs_nil) rfl rfl rfl el56 (Nat.le_of_ble_eq_true rfl) rfl ?_
             intro g w2 hg ho hq hz' a' h'
             exact comb_done ⟨_, h', hq, g, rfl, ho.low (by omega)⟩
           | 12, _, hb =>
             obtain ⟨g56, e56, ho56⟩ : ∃ g, a.tmps.getD 56 undef = .slice (some ⟨g, 0, none⟩) 1 1 ∧ Lw.Own encId 39 w16.heap.size w17 (.slice (some ⟨g, 0, none⟩) 1 1) [(⟨1, 0⟩ : LId)] := hb 8 (by kernel_rfl)
             obtain ⟨g59, e59, ho59⟩ : ∃ g, a.tmps.getD 59 undef = .slice (some ⟨g, 0, none⟩) 1 1 ∧ Lw.Own encPa 65 w16.heap.size w17 (.slice (some ⟨g, 0, none⟩) 1 1) [(⟨(⟨1, 1⟩ : LId), true, 1⟩ : Pa)] := hb 11 (by kernel_rfl)
             refine ⟨_, _, rfl, ((h.eqc e56).eqc e59), fun h => ?_⟩
             refine st_lit (cs := [_, _, _, _]) h (evs_cons rfl (evs_cons rfl evs_nil)) bo58 (pok_cons rfl rfl rfl (pok_cons rfl rfl rfl pok_nil)) rfl rfl ?_
             intro a' h'
             exact comb_done ⟨_, h', Fr.refl _ _, ⟨0, false, (some ⟨g56, 0, none⟩, 1, 1), (some ⟨g59, 0, none⟩, 1, 1), [(⟨1, 0⟩ : LId)], [(⟨(⟨1, 1⟩ : LId), true, 1⟩ : Pa)]⟩, rfl, ⟨ho56, ho59⟩, rfl⟩
           | 13, _, hb =>
             refine ⟨_, _, rfl, h, fun h => ?_⟩
             refine st_call h (evs_cons rfl evs_nil) co19 (one_ok _ _) rfl ?_
             rintro _ w2 ⟨rfl, hq⟩ a' h'
             exact comb_done ⟨_, h', hq, rfl⟩
           | 14, _, hb =>
             have e61 : a.tmps.getD 61 undef = (.agg #[.int .u8 1, .int .i64 1]) := hb 13 (by kernel_rfl)
             refine ⟨_, _, rfl, (h.eqc e61), fun h => ?_⟩
             refine st_bslice ([(⟨1, 1⟩ : LId)]) h (evs_cons rfl evs_nil) rfl rfl rfl el31 (Nat.le_of_ble_eq_true rfl) rfl ?_
             intro g w2 hg ho hq hz' a' h'
             exact comb_done ⟨_, h', hq, g, rfl, ho.low (by omega)⟩
           | 15, _, hb =>
             refine ⟨_, _, rfl, h, fun h => ?_⟩
             refine st_call h (evs_cons rfl evs_nil) co19 (one_ok _ _) rfl ?_
             rintro _ w2 ⟨rfl, hq⟩ a' h'
             exact comb_done ⟨_, h', hq, rfl⟩
           | 16, _, hb =>
             have e63 : a.tmps.getD 63 undef = (.agg #[.int .u8 1, .int .i64 2]) := hb 15 (by kernel_rfl)
             refine ⟨_, _, rfl, (h.eqc e63), fun h => ?_⟩
             refine st_lit (cs := [_, _, _, _]) h (evs_cons rfl evs_nil) bo65 (pok_cons rfl rfl rfl pok_nil) rfl rfl ?_
             intro a' h'
             exact comb_done ⟨_, h', Fr.refl _ _, rfl⟩
           | 17, _, hb =>
             have e64 : a.tmps.getD 64 undef = (.agg #[.int .u8 1, .int .i64 2, .bool false, .int .u8 0]) := hb 16 (by kernel_rfl)
             refine ⟨_, _, rfl, (h.eqc e64), fun h => ?_⟩
             refine st_bslice ([(⟨(⟨1, 2⟩ : LId), false, 0⟩ : Pa)]) h (evs_cons rfl evs_nil) rfl rfl rfl el56 (Nat.le_of_ble_eq_true rfl) rfl ?_
             intro g w2 hg ho hq hz' a' h'
             exact comb_done ⟨_, h', hq, g, rfl, ho.low (by omega)⟩
           | 18, _, hb =>
             obtain ⟨g62, e62, ho62⟩ : ∃ g, a.tmps.getD 62 undef = .slice (some ⟨g, 0, none⟩) 1 1 ∧ Lw.Own encId 39 w16.heap.size w17 (.slice (some ⟨g, 0, none⟩) 1 1) [(⟨1, 1⟩ : LId)] := hb 14 (by kernel_rfl)
             obtain ⟨g65, e65, ho65⟩ : ∃ g, a.tmps.getD 65 undef = .slice (some ⟨g, 0, none⟩) 1 1 ∧ Lw.Own encPa 65 w16.heap.size w17 (.slice (some ⟨g, 0, none⟩) 1 1) [(⟨(⟨1, 2⟩ : LId), false, 0⟩ : Pa)] := hb 17 (by kernel_rfl)
             refine ⟨_, _, rfl, ((h.eqc e62).eqc e65), fun h => ?_⟩
             refine st_lit (cs := [_, _, _, _]) h (evs_cons rfl (evs_cons rfl (evs_cons rfl evs_nil))) bo58 (pok_cons rfl rfl rfl (pok_cons rfl rfl rfl (pok_cons rfl rfl rfl pok_nil))) rfl rfl ?_
             intro a' h'
             exact comb_done ⟨_, h', Fr.refl _ _, ⟨1, false, (some ⟨g62, 0, none⟩, 1, 1), (some ⟨g65, 0, none⟩, 1, 1), [(⟨1, 1⟩ : LId)], [(⟨(⟨1, 2⟩ : LId), false, 0⟩ : Pa)]⟩, rfl, ⟨ho62, ho65⟩, rfl⟩
           | 19, _, hb =>
             refine ⟨_, _, rfl, h, fun h => ?_⟩
             refine st_call h (evs_cons rfl evs_nil) co19 (one_ok _ _) rfl ?_
             rintro _ w2 ⟨rfl, hq⟩ a' h'
             exact comb_done ⟨_, h', hq, rfl⟩
           | 20, _, hb =>
             refine ⟨_, _, rfl, h, fun h => ?_⟩
             refine st_call h (evs_cons rfl evs_nil) co19 (one_ok _ _) rfl ?_
             rintro _ w2 ⟨rfl, hq⟩ a' h'
             exact comb_done ⟨_, h', hq, rfl⟩
           | 21, _, hb =>
             have e67 : a.tmps.getD 67 undef = (.agg #[.int .u8 1, .int .i64 3]) := hb 19 (by kernel_rfl)
             have e68 : a.tmps.getD 68 undef = (.agg #[.int .u8 1, .int .i64 2]) := hb 20 (by kernel_rfl)
             refine ⟨_, _, rfl, ((h.eqc e67).eqc e68), fun h => ?_⟩
             refine st_bslice ([(⟨1, 3⟩ : LId), (⟨1, 2⟩ : LId)]) h (evs_cons rfl (evs_cons rfl evs_nil)) rfl rfl rfl el31 (Nat.le_of_ble_eq_true rfl) rfl ?_
             intro g w2 hg ho hq hz' a' h'
             exact comb_done ⟨_, h', hq, g, rfl, ho.low (by omega)⟩
           | 22, _, hb =>
             obtain ⟨g69, e69, ho69⟩ : ∃ g, a.tmps.getD 69 undef = .slice (some ⟨g, 0, none⟩) 2 2 ∧ Lw.Own encId 39 w16.heap.size w17 (.slice (some ⟨g, 0, none⟩) 2 2) [(⟨1, 3⟩ : LId), (⟨1, 2⟩ : LId)] := hb 21 (by kernel_rfl)
             refine ⟨_, _, rfl, (h.eqc e69), fun h => ?_⟩
             refine st_lit (cs := [_, _, _, _]) h (evs_cons rfl evs_nil) bo58 (pok_cons rfl rfl rfl pok_nil) rfl rfl ?_
             intro a' h'
             exact comb_done ⟨_, h', Fr.refl _ _, ⟨0, false, (some ⟨g69, 0, none⟩, 2, 2), sv0, [(⟨1, 3⟩ : LId), (⟨1, 2⟩ : LId)], []⟩, rfl, ⟨ho69, Own.nil _⟩, rfl⟩
           | 23, _, hb =>
             obtain ⟨y50, e50, ho50, p50⟩ : ∃ q : LpQ, a.tmps.getD 50 undef = .agg (lpL q).toArray ∧ LpO τd w16.heap.size w17 q ∧ q.p = (lp_ 0 true [] []) := hb 2 (by kernel_rfl)
             obtain ⟨y54, e54, ho54, p54⟩ : ∃ q : LpQ, a.tmps.getD 54 undef = .agg (lpL q).toArray ∧ LpO τd w16.heap.size w17 q ∧ q.p = (lp_ 1 false [] [(⟨(⟨1, 0⟩ : LId), false, 0⟩ : Pa)]) := hb 6 (by kernel_rfl)
             obtain ⟨y60, e60, ho60, p60⟩ : ∃ q : LpQ, a.tmps.getD 60 undef = .agg (lpL q).toArray ∧ LpO τd w16.heap.size w17 q ∧ q.p = (lp_ 0 false [(⟨1, 0⟩ : LId)] [(⟨(⟨1, 1⟩ : LId), true, 1⟩ : Pa)]) := hb 12 (by kernel_rfl)
             obtain ⟨y66, e66, ho66, p66⟩ : ∃ q : LpQ, a.tmps.getD 66 undef = .agg (lpL q).toArray ∧ LpO τd w16.heap.size w17 q ∧ q.p = (lp_ 1 false [(⟨1, 1⟩ : LId)] [(⟨(⟨1, 2⟩ : LId), false, 0⟩ : Pa)]) := hb 18 (by kernel_rfl)
             obtain ⟨y70, e70, ho70, p70⟩ : ∃ q : LpQ, a.tmps.getD 70 undef = .agg (lpL q).toArray ∧ LpO τd w16.heap.size w17 q ∧ q.p = (lp_ 0 false [(⟨1, 3⟩ : LId), (⟨1, 2⟩ : LId)] []) := hb 22 (by kernel_rfl)
             refine ⟨_, _, rfl, (((((h.eqc e50).eqc e54).eqc e60).eqc e66).eqc e70), fun h => ?_⟩
             refine st_bslice ([y50, y54, y60, y66, y70]) h (evs_cons rfl (evs_cons rfl (evs_cons rfl (evs_cons rfl (evs_cons rfl evs_nil))))) rfl rfl rfl el40 (Nat.le_of_ble_eq_true rfl) rfl ?_
             intro g w2 hg ho hq hz' a' h'
             refine comb_done ⟨_, h', hq, g, [y50, y54, y60, y66, y70], rfl, ho.low (by omega), fun q hq_ => ?_, ?_⟩
             · simp only [List.mem_cons, List.not_mem_nil, or_false] at hq_
               rcases hq_ with rfl | rfl | rfl | rfl | rfl
               · exact lpo_ext ho50 hq
               · exact lpo_ext ho54 hq
               · exact lpo_ext ho60 hq
               · exact lpo_ext ho66 hq
               · exact lpo_ext ho70 hq
             · show [y50.p, y54.p, y60.p, y66.p, y70.p] = _; rw [p50, p54, p60, p66, p70]
           | 24, _, hb =>
             have e49 : a.tmps.getD 49 undef = (.slice (some ⟨gT, 0, none⟩) 6 6) := hb 1 (by kernel_rfl)
             refine ⟨_, _, rfl, (h.eqc e49), fun h => ?_⟩
             refine st_idxS (p := 0) (E := encTq) h rfl rfl el29 (by decide) (by decide) rfl rfl ?_
             intro a' h'
             exact comb_done ⟨_, h', Fr.refl _ _, rfl⟩
           | n + 25, hi, _ => exact absurd hi (by omega)
         · intro a w18 h hf hall
           have z18 := hf.size
           have q18 := hf
           refine ⟨_, rfl, ?_⟩
           have e72 : a.tmps.getD 72 undef = (.pointer (some ((⟨gT, 0, none⟩ : Addr).add (0 * encTq.sz)))) := hall 24 (by omega)
           obtain ⟨g71, ls, e71, ho71, hls, hlp⟩ : ∃ (g : Nat) (ls : List LpQ), a.tmps.getD 71 undef = .slice (some ⟨g, 0, none⟩) 5 5 ∧ Lw.Own encLp 58 w16.heap.size w18 (.slice (some ⟨g, 0, none⟩) 5 5) ls ∧ (∀ q ∈ ls, LpO τd w16.heap.size w18 q) ∧ ls.map LpQ.p = [(lp_ 0 true [] []), (lp_ 1 false [] [(⟨(⟨1, 0⟩ : LId), false, 0⟩ : Pa)]), (lp_ 0 false [(⟨1, 0⟩ : LId)] [(⟨(⟨1, 1⟩ : LId), true, 1⟩ : Pa)]), (lp_ 1 false [(⟨1, 1⟩ : LId)] [(⟨(⟨1, 2⟩ : LId), false, 0⟩ : Pa)]), (lp_ 0 false [(⟨1, 3⟩ : LId), (⟨1, 2⟩ : LId)] [])] := hall 23 (by omega)
           replace hoT := hoT.ext q18
           replace hb3 := hb3.ext q18
           replace hoF := hoF.ext q18
           replace h := (h.eqc e72).eqc e71
           clear hall e72 e71
           refine st_storeO (i := 0) (((some ⟨g71, 0, none⟩, 5, 5), ls) : TQ) h rfl rfl hoT (by simp) rfl sz40 ?_; clear h a; intro w19 ho_2 q19 z19 a h
           have hgR := ho71.blk g71 (by simp [blks])
           have hgT_ := (hoT.blk gT (by simp [blks])).2
           replace hb3 := hb3.fr q19 (by simp; omega)
           replace hoF := hoF.fr q19 (by intro k hk hb; simp [blks] at hk hb; omega)
           have hoTb := hoT
           clear hoT
           have hoT := ho_2
           clear ho_2
           try rw [List.set_set] at hoT
           have hRw : Lw.Own encLp 58 0 w19 (slv (some ⟨g71, 0, none⟩, 5, 5)) ls := (ho71.fr q19 (fun k hk hb => by rw [List.mem_singleton] at hk; subst hk; have := (ho71.blk _ hb).1; omega)).low (Nat.zero_le _)
           have hRl : ∀ q ∈ ls, LpO τd (gT + 1) w19 q := fun q hq => LpO.tf ⟨(hls q hq).1.low (by omega), (hls q hq).2.low (by omega)⟩ q19 (own_off (E := encTq) (v := .slice (some ⟨gT, 0, none⟩) 6 6) hoTb (by decide)) (own_off (E := encTq) (v := .slice (some ⟨gT, 0, none⟩) 6 6) hoTb (by decide))
           have hRq : Sl encLp w19 (slv (some ⟨g71, 0, none⟩, 5, 5)) ls ∧ LpsAt w19 ls := ⟨hRw.sl, fun q hq => (hRl q hq).at⟩
           have hRq0 := hRq
           have hb3R := hb3
           refine comb_done ?_
           refine bk (h.sub (L' := [(3, _), (4, _), (5, _)]) (.cons rfl (.cons rfl (.cons rfl .nil)))) ?_; clear h a
           refine tn (sr ?_)
           refine cl (ev1 rfl) co19 (one_ok _ _) rfl ?_
           rintro _ w20 ⟨rfl, q20⟩
           have z20 := q20.size
           refine s_bslice ([(⟨1, 4⟩ : LId)]) (ev1 rfl) rfl rfl rfl el31 (Nat.le_of_ble_eq_true rfl) rfl (fun g74 w21 hg74 ho74 q21 z21 => ?_)
           refine fad rfl fa33_3 rfl ?_
           replace hb3 := hb3.ext (q20.next q21)
           refine s_storeB rfl rfl hb3 rfl rfl rfl sz31 (fun w22 hb3 q22 z22 => ?_)
           replace hb3 : Blk w22 g3 _ [_, _, _, _] := hb3
           replace hoT := (hoT.ext (q20.next q21)).fr q22 (by intro k hk hb; simp [blks] at hk hb; omega)
           replace ho74 := ho74.fr q22 (by first | (simp; done) | (simp; omega) | (simp [blks]; done) | (simp [blks]; omega) | (intro k hk hb; simp at hk; subst hk; have := ho74.blk _ hb; omega))
           have hf2C := hk2 [gT, g3] _ ((((((((Fr.refl [gT, g3] _).next q15).step q16 (by first | (simp; done) | (simp; omega))).next q18).step q19 (by first | (simp; done) | (simp; omega))).next q20).next q21).step q22 (by first | (simp; done) | (simp; omega))) (by intro k hk; simp only [List.mem_cons, List.not_mem_nil, or_false] at hk; rcases hk with rfl | rfl <;> omega)
           have hf2C0 := hf2C
           have hFR := ((((Fr.refl [g3] _).next q20).next q21).step q22 (by first | (simp; done) | (simp; omega)))
           have hoR := fun (T : Nat) (hT_ : 33 ≠ T) => OffT.one hb3R hT_
           have hQB : FbAt w22 (⟨(some ⟨gT, 0, none⟩, 6, 6), sv0, sv0, (some ⟨g74, 0, none⟩, 1, 1), (List.replicate 6 tq0).set 0 ((some ⟨g71, 0, none⟩, 5, 5), ls), [], [], [⟨1, 4⟩]⟩ : FbQ) := ⟨hoT.sl, tab1 (own_tf hRw hFR (hoR _ (by decide))).sl (fun q hq => (LpO.tf (hRl q hq) hFR (hoR _ (by decide)) (hoR _ (by decide))).at), Sl.nil _, Sl.nil _, ho74.sl⟩
           have hQB0 := hQB
           have heB : f2.p = ((⟨(some ⟨gT, 0, none⟩, 6, 6), sv0, sv0, (some ⟨g74, 0, none⟩, 1, 1), (List.replicate 6 tq0).set 0 ((some ⟨g71, 0, none⟩, 5, 5), ls), [], [], [⟨1, 4⟩]⟩ : FbQ)).p := by rw [hp2, tubB]; show _ = Fb.mk [ls.map LpQ.p, [], [], [], [], []] [] [] [⟨1, 4⟩]; rw [hlp]; rfl
           refine nn (sq (sq ?_))
           refine rboF (r := 83) (L' := []) (((0 ≠ 0) ∨ (0 ≠ 0))) .nil ?_ ?_
           · refine mv rfl rfl (ne' rfl rfl rfl (mv rfl rfl ?_))
             refine gs 78 rfl (fun hh => absurd hh (by decide)) (fun g1 => ?_)
             refine gY rfl ?_
             replace hb4 := (((hb4.ext q18).fr q19 (by first | (simp; done) | (simp; omega) | (simp [blks]; done) | (simp [blks]; omega))).ext (q20.next q21)).fr q22 (by first | (simp; done) | (simp; omega) | (simp [blks]; done) | (simp [blks]; omega))
             refine s_loadBA rfl hb4 ag33 rfl (gY rfl (s_loadBA rfl hb3 ag33 rfl (gY rfl ?_)))
             refine cl (ev2 rfl rfl) co20 (by have hfA := fabrics_ok _ _ _ hf2C hQB heB; exact hfA) rfl ?_
             rintro _ w23 ⟨rfl, q23⟩
             have z23 := q23.size
             exact gY rfl (ne' rfl rfl rfl (pkf rfl rfl rfl rfl (rbeF rfl (by first | exact bt (by omega) | exact bf (by omega) | exact bi (by omega) | exact bn (by omega) | (simp_all; done) | (simp_all; omega)) .nil q23)))
           · intro w24 q24; have z24 := q24.size
             refine tn ?_
             refine cd rfl (fun c1 => ?_) (fun c1 => ?_)
             · refine sr (asg rfl rfl (nn (rt (tr (r1 Tryz.results8 rfl ?_)))))
               exact absurd c1 (by decide)
             · refine sk (tn (sr (s_bslice ([(1 : UInt8), 1, 2]) (ev3 rfl rfl rfl) rfl rfl rfl el22 (Nat.le_of_ble_eq_true rfl) rfl (fun g84 w25 hg84 ho84 q25 z25 => ?_))))
               refine s_lit (cs := [_, _]) (ev2 rfl rfl) bo26 (pok_cons rfl rfl rfl (pok_cons rfl rfl rfl pok_nil)) rfl rfl ?_
               refine al zv26 rfl rfl (fun g6 w26 hg6 hb6 q26 z26 => ?_)
               refine s_storeBA (vs := [_, _]) rfl rfl hb6 (by rfl) (by first | (simp [Value.oneCell', S]; done) | exact Enc.one _ _) sz26 (fun w27 hb6 q27 z27 => ?_)
               refine nn (sr (s_loadBA rfl hb6 ag26 rfl ?_))
               replace ho84 := (ho84.ext q26).fr q27 (by first | (simp; done) | (simp; omega) | (simp [blks]; done) | (simp [blks]; omega) | (intro k hk hb; simp at hk; subst hk; have := ho84.blk _ hb; omega))
               refine cl (ev1 rfl) co21 (loops_ok 3 _ [1, 1, 2] _ ho84.sl (by decide)) rfl ?_
               rintro _ w28 ⟨AL, rfl, hsL, q28⟩
               have z28 := q28.size
               rw [cntC] at hsL
               obtain ⟨LC, hLC⟩ : ∃ l : List Int, l = [12, 9, 0, 0, 0, 0] := ⟨_, rfl⟩
               rw [← hLC] at hsL
               have hLl : LC.length = 6 := by rw [hLC]; rfl
               have hL0 : LC.getD 0 0 = 12 := by rw [hLC]; rfl
               have hL1 : LC.getD 1 0 = 9 := by rw [hLC]; rfl
               have hsL0 := hsL
               refine mv rfl rfl (xt rfl rfl rfl (xt rfl rfl rfl (asg rfl rfl (asg rfl rfl (nn (sr ?_))))))
               replace hG := hG0.ext ((((((((((((((((((((((q1.next q2).next q3).step q4 (by first | (simp; done) | (simp; omega))).next q6).step q7 (by first | (simp; done) | (simp; omega))).next q9).step q10 (by first | (simp; done) | (simp; omega))).next q12).next q13).next q14).next q15).step q16 (by first | (simp; done) | (simp; omega))).next q18).step q19 (by first | (simp; done) | (simp; omega))).next q20).next q21).step q22 (by first | (simp; done) | (simp; omega))).next q24).next q25).next q26).step q27 (by first | (simp; done) | (simp; omega))).next q28)
               refine cl (ev1 rfl) co22 (parse_ok _ _ hG (by simp)) rfl ?_
               rintro _ w29 ⟨wdP, AP, rsP, eP, rfl, hsP, hP, q29⟩
               have z29 := q29.size
               obtain rfl : eP = 4 := by
                 rcases hP with ⟨_, h⟩ | ⟨h, _⟩
                 · rw [parC] at h; cases h
                 · exact h
               refine mv rfl rfl (xt rfl rfl rfl (xt rfl rfl rfl (al zv26 rfl rfl (fun g9 w30 hg9 hb9 q30 z30 => ?_))))
               refine s_storeBA (vs := [_, _]) rfl rfl hb9 (by rfl) (by first | (simp [Value.oneCell', S]; done) | exact Enc.one _ _) sz26 (fun w31 hb9 q31 z31 => ?_)
               refine asg rfl rfl (nn (sq ?_))
               refine rboF (r := 0) (L' := []) (((((((0 = 0) ∧ ((6 : Int) = 6)) ∧ ((LC.getD 0 0 : Int) = 12)) ∧ ((LC.getD 1 0 : Int) = 9)) ∧ ((if tubE 3 [1, 1, 2] = 0 then textT 3 [1, 1, 2] else []) = [116, 117, 98, 101, 32, 51, 32, 49, 120, 50, 32, 50])) ∧ (4 = 4))) .nil ?_ ?_
               · refine mv rfl rfl (eq' rfl rfl rfl (mv rfl rfl ?_))
                 refine gs 97 rfl (fun g2 => ?_) (fun hh => absurd (by decide) hh)
                 refine gY rfl (mv rfl rfl (gY rfl (lnS rfl Tryz.underlying67 rfl (gY rfl (eq' rfl rfl rfl (pkt rfl rfl rfl rfl (mv rfl rfl ?_)))))))
                 refine gs 102 rfl (fun g3 => ?_) (fun hh => absurd (by rfl) hh)
                 refine gY rfl (mv rfl rfl (gY rfl ?_))
                 replace hsL := hsL0.ext ((q29.next q30).step q31 (by first | (simp; done) | (simp; omega)))
                 refine s_idxL (p := 0) ((0 : Int)) rfl hsL rfl el67 (by omega) (by omega) rfl rfl (fun ad104 hc104 => ?_)
                 refine gY rfl (s_loadC0 rfl (hc104 _ hsL) na3 rfl (gY rfl (eq' rfl rfl rfl (pkt rfl rfl rfl rfl (mv rfl rfl ?_)))))
                 refine gs 108 rfl (fun g4 => ?_) (fun hh => absurd (by exact hL0) hh)
                 refine gY rfl (mv rfl rfl (gY rfl (s_idxL (p := 1) ((0 : Int)) rfl hsL rfl el67 (by omega) (by omega) rfl rfl (fun ad110 hc110 => ?_))))
                 refine gY rfl (s_loadC0 rfl (hc110 _ hsL) na3 rfl (gY rfl (eq' rfl rfl rfl (pkt rfl rfl rfl rfl (mv rfl rfl ?_)))))
                 refine gs 114 rfl (fun g5 => ?_) (fun hh => absurd (by exact hL1) hh)
                 refine gY rfl ?_
                 replace hb6 := (hb6.ext ((q28.next q29).next q30)).fr q31 (by first | (simp; done) | (simp; omega) | (simp [blks]; done) | (simp [blks]; omega))
                 refine s_loadBA rfl hb6 ag26 rfl (gY rfl ?_)
                 replace ho84 := (ho84.ext ((q28.next q29).next q30)).fr q31 (by first | (simp; done) | (simp; omega) | (simp [blks]; done) | (simp [blks]; omega) | (intro k hk hb; simp at hk; subst hk; have := ho84.blk _ hb; omega))
                 refine cl (ev1 rfl) co23 (text_ok _ _ [1, 1, 2] _ ho84.sl) rfl ?_
                 rintro _ w32 ⟨rfl, q32⟩
                 have z32 := q32.size
                 refine gY rfl (s_eqs rfl rfl rfl (pkt rfl rfl rfl rfl (mv rfl rfl ?_)))
                 refine gs 119 rfl (fun g6 => ?_) (fun hh => absurd (by exact txtC) hh)
                 exact gY rfl (mv rfl rfl (gY rfl (eq' rfl rfl rfl (pkt rfl rfl rfl rfl (asg rfl rfl (rbeF rfl (by first | exact bt (by omega) | exact bf (by omega) | exact bi (by omega) | exact bn (by omega) | (simp_all; done) | (simp_all; omega)) .nil q32))))))
               · intro w33 q33; have z33 := q33.size
                 refine tn (rt (r1 Tryz.results8 rfl ?_))
                 exact ⟨_, rfl, congrArg Value.bool (decide_eq_true ⟨⟨⟨⟨⟨rfl, rfl⟩, hL0⟩, hL1⟩, txtC⟩, rfl⟩), ((((((((((((((((((((((((((q1.next q2).next q3).step q4 (by first | (simp; done) | (simp; omega))).next q6).step q7 (by first | (simp; done) | (simp; omega))).next q9).step q10 (by first | (simp; done) | (simp; omega))).next q12).next q13).next q14).next q15).step q16 (by first | (simp; done) | (simp; omega))).next q18).step q19 (by first | (simp; done) | (simp; omega))).next q20).next q21).step q22 (by first | (simp; done) | (simp; omega))).next q24).next q25).next q26).step q27 (by first | (simp; done) | (simp; omega))).next q28).next q29).next q30).step q31 (by first | (simp; done) | (simp; omega))).next q33)⟩
end Go.Proofs.YtkionldalpijpaaGreatDoor
namespace Go.G21
open Go.Lw
abbrev Tb := List (List Lp)
def rowL (T : Tb) (y : Nat) : Nat := (T.getD y []).length
def lpA (T : Tb) (y n : Nat) : Lp := (T.getD y []).getD n lq0.p
def hasP (T : Tb) (i : LId) : Prop := 1 ≤ i.y ∧ i.y ≤ T.length ∧ 0 ≤ i.n ∧ i.n < rowL T (i.y - 1).toNat
instance (T : Tb) (i : LId) : Decidable (hasP T i) := by unfold hasP; infer_instance
/-- What a loop needs. -/
def needs (l : Lp) : List LId := l.th ++ l.pa.map Pa.id
def rightP (T : Tb) (l : Lp) : Prop := (l.b = 0 ∨ l.b = 1) ∧ (l.th.length ≤ 4 ∧ l.pa.length ≤ 4096) ∧ (∀ i ∈ needs l, hasP T i) ∧ (∀ p ∈ l.pa, Sided p.d) ∧ (pushS [] l.pa).length = l.pa.length
/-- All that loops are made through. -/
def thrR (r : List Lp) : List LId := r.flatMap Lp.th
def thrA (T : Tb) : List LId := T.flatMap thrR
def cntA (T : Tb) : Nat := (T.map List.length).sum
/-- The loops can be made in an order. -/
structure Ranked (T : Tb) (rk : LId → Nat) : Prop where
  need : ∀ y, y < 6 → ∀ n, n < rowL T y → ∀ i ∈ needs (lpA T y n), rk i < rk ⟨(y : Int) + 1, n⟩
  mono : ∀ y, y < 6 → ∀ n m, n < m → m < rowL T y → rk ⟨(y : Int) + 1, (n : Int)⟩ < rk ⟨(y : Int) + 1, (m : Int)⟩
structure TabOk (T : Tb) : Prop where
  six : T.length = 6
  cnt : cntA T ≤ 2048
  rts : ∀ y, y < 6 → ∀ n, n < rowL T y → rightP T (lpA T y n) ∧ (n = 0 → (lpA T y n).nw = true)
  ord : ∃ rk, Ranked T rk
/-- Each loop is held, has fallen, or has another one on it, once. -/
structure PlaceOk (T : Tb) (H F : List LId) : Prop where
  has : ∀ i ∈ H ++ F, hasP T i
  asc : F.length ≤ 1
  once : ∀ y, y < 6 → ∀ n, n < rowL T y → (H ++ F ++ thrA T).count ⟨(y : Int) + 1, (n : Int)⟩ = 1
theorem rowL_set {T : Tb} {j : Nat} {r : List Lp} (hj : j < T.length) (y : Nat) : rowL (T.set j r) y = if j = y then r.length else rowL T y := by
  unfold rowL; rw [set_getD hj]; split <;> rfl
theorem flat_set {α β : Type} [BEq β] [LawfulBEq β] (g : α → List β) : ∀ (T : List α) (j : Nat) (d v : α) (x : β), j < T.length → ((T.set j v).flatMap g).count x + (g (T.getD j d)).count x = (T.flatMap g).count x + (g v).count x
  | a :: T, 0, d, v, x, _ => by
    simp only [List.set_cons_zero, List.flatMap_cons, List.count_append, List.getD_cons_zero]; omega
  | a :: T, j + 1, d, v, x, h => by
    have := flat_set g T j d v x (by simpa using h)
    simp only [List.set_cons_succ, List.flatMap_cons, List.count_append, List.getD_cons_succ]; omega
theorem sum_set : ∀ (T : Tb) (j : Nat) (r : List Lp), j < T.length → cntA (T.set j r) + rowL T j = cntA T + r.length
  | a :: T, 0, r, _ => by simp [cntA, rowL]; omega
  | a :: T, j + 1, r, h => by
    have := sum_set T j r (by simpa using h)
    simp only [cntA, rowL, List.set_cons_succ, List.map_cons, List.sum_cons, List.getD_cons_succ] at this ⊢; omega
/-- Names in a row: each once. -/
theorem count_rng (y : Int) (f : Nat) (i : LId) : ∀ n, ((List.range n).map fun k => (⟨y, ((f + k : Nat) : Int)⟩ : LId)).count i = if i.y = y ∧ (f : Int) ≤ i.n ∧ i.n < ((f + n : Nat) : Int) then 1 else 0
  | 0 => by
    rw [if_neg (by omega)]; rfl
  | n + 1 => by
    rw [List.range_succ, List.map_append, List.count_append, count_rng y f i n]
    obtain ⟨iy, ik⟩ := i
    simp only [List.map_cons, List.map_nil, List.count_singleton, beq_iff_eq, LId.mk.injEq]
    by_cases h : iy = y ∧ (f : Int) ≤ ik ∧ ik < ((f + n : Nat) : Int)
    · rw [if_pos h, if_neg (by omega), if_pos (by omega)]
    · rw [if_neg h]
      by_cases h2 : y = iy ∧ ((f + n : Nat) : Int) = ik
      · rw [if_pos h2, if_pos (by omega)]
      · rw [if_neg h2, if_neg (by omega)]
end Go.G21
namespace Go.G21
open Go.Lw
theorem hasP_row {T : Tb} {y n : Nat} (h1 : y < T.length) (h2 : n < rowL T y) : hasP T ⟨(y : Int) + 1, (n : Int)⟩ := by
  refine ⟨by show 1 ≤ (y : Int) + 1; omega, by show (y : Int) + 1 ≤ _; omega, by show (0 : Int) ≤ n; omega, ?_⟩
  show (n : Int) < (rowL T ((y : Int) + 1 - 1).toNat : Int)
  rw [show ((y : Int) + 1 - 1).toNat = y by omega]; omega
theorem hasP_set {T : Tb} {j : Nat} {X : List Lp} (hj : j < T.length) {i : LId} (h : hasP T i) : hasP (T.set j (T.getD j [] ++ X)) i := by
  obtain ⟨h1, h2, h3, h4⟩ := h
  refine ⟨h1, by rw [List.length_set]; exact h2, h3, ?_⟩
  rw [rowL_set hj]
  split
  · rename_i e
    rw [List.length_append]
    have : rowL T (i.y - 1).toNat = (T.getD j []).length := by rw [← e]; rfl
    omega
  · exact h4
theorem lpA_set {T : Tb} {j : Nat} {X : List Lp} (hj : j < T.length) (y n : Nat) : lpA (T.set j (T.getD j [] ++ X)) y n = if j = y then (if n < rowL T j then lpA T j n else X.getD (n - rowL T j) lq0.p) else lpA T y n := by
  unfold lpA rowL
  rw [set_getD hj]
  split
  · rename_i e; subst e
    generalize T.getD j [] = r
    split
    · rename_i h; simp only [List.getD, List.getElem?_append_left h]
    · rename_i h; simp only [List.getD, List.getElem?_append_right (Nat.not_lt.1 h)]
  · rfl
def rkX (rk : LId → Nat) (j f N : Nat) (i : LId) : Nat := if i.y = (j : Int) + 1 ∧ (f : Int) ≤ i.n then N + (i.n - f).toNat else rk i
/-- A table whose N loops can be made in the order rk. -/
structure BaseT (T : Tb) (N : Nat) (rk : LId → Nat) : Prop where
  six : T.length = 6
  cnt : cntA T = N
  ok : ∀ y, y < 6 → ∀ n, n < rowL T y → ((lpA T y n).b = 0 ∨ (lpA T y n).b = 1) ∧ (lpA T y n).th.length ≤ 3 ∧ (lpA T y n).pa.length ≤ 1 ∧ (∀ p ∈ (lpA T y n).pa, Sided p.d) ∧ (n = 0 → (lpA T y n).nw = true) ∧ ∀ i ∈ needs (lpA T y n), hasP T i
  rkd : Ranked T rk
  top : ∀ y, y < 6 → ∀ n, n < rowL T y → rk ⟨(y : Int) + 1, (n : Int)⟩ < N
theorem BaseT.add {T : Tb} {N : Nat} {rk : LId → Nat} (h : BaseT T N rk) {j : Nat} (hj : j < 6) (X : List Lp)
    (hX : ∀ k, k < X.length → ((X.getD k lq0.p).b = 0 ∨ (X.getD k lq0.p).b = 1) ∧ (X.getD k lq0.p).th.length ≤ 3 ∧ (X.getD k lq0.p).pa.length ≤ 1 ∧ (∀ p ∈ (X.getD k lq0.p).pa, Sided p.d) ∧ (rowL T j + k = 0 → (X.getD k lq0.p).nw = true) ∧ ∀ i ∈ needs (X.getD k lq0.p), hasP T i ∨ ∃ m, m < k ∧ i = ⟨(j : Int) + 1, ((rowL T j + m : Nat) : Int)⟩) :
    BaseT (T.set j (T.getD j [] ++ X)) (N + X.length) (rkX rk j (rowL T j) N) := by
  have hjT : j < T.length := by rw [h.six]; exact hj
  have hlen : ∀ y, rowL (T.set j (T.getD j [] ++ X)) y = if j = y then rowL T j + X.length else rowL T y := fun y => by
    rw [rowL_set hjT, List.length_append]; rfl
  -- the rank of an old name, of a new one
  have hold : ∀ i, hasP T i → rkX rk j (rowL T j) N i = rk i ∧ rk i < N := fun i hi => by
    obtain ⟨h1, h2, h3, h4⟩ := hi
    obtain ⟨iy, ik⟩ := i
    simp only at h1 h2 h3 h4
    have h2' : iy ≤ 6 := by have := h.six; omega
    obtain ⟨y, rfl⟩ : ∃ y : Nat, iy = (y : Int) + 1 := ⟨(iy - 1).toNat, by omega⟩
    obtain ⟨n, rfl⟩ := Int.eq_ofNat_of_zero_le h3
    rw [show ((y : Int) + 1 - 1).toNat = y by omega] at h4
    refine ⟨?_, h.top y (by omega) n (by omega)⟩
    unfold rkX
    rw [if_neg]
    rintro ⟨e1, e2⟩
    simp only at e1 e2
    have : y = j := by omega
    subst this; omega
  have hnew : ∀ m : Nat, rkX rk j (rowL T j) N ⟨(j : Int) + 1, ((rowL T j + m : Nat) : Int)⟩ = N + m := fun m => by
    unfold rkX
    rw [if_pos ⟨rfl, by show (rowL T j : Int) ≤ ((rowL T j + m : Nat) : Int); omega⟩]
    show N + (((rowL T j + m : Nat) : Int) - (rowL T j : Int)).toNat = N + m
    omega
  have hnm : ∀ y, y < 6 → ∀ n, n < rowL (T.set j (T.getD j [] ++ X)) y → (hasP T ⟨(y : Int) + 1, (n : Int)⟩ ∧ (j = y → n < rowL T j) ∧ lpA (T.set j (T.getD j [] ++ X)) y n = lpA T y n ∧ n < rowL T y) ∨ ∃ k, k < X.length ∧ y = j ∧ n = rowL T j + k ∧ lpA (T.set j (T.getD j [] ++ X)) y n = X.getD k lq0.p := fun y hy n hn => by
    rw [hlen] at hn
    rw [lpA_set hjT]
    by_cases e : j = y
    · subst e
      rw [if_pos rfl] at hn ⊢
      by_cases e2 : n < rowL T j
      · exact .inl ⟨hasP_row hjT e2, fun _ => e2, by rw [if_pos e2], e2⟩
      · exact .inr ⟨n - rowL T j, by omega, rfl, by omega, by rw [if_neg e2]⟩
    · rw [if_neg e] at hn ⊢
      exact .inl ⟨hasP_row (by rw [h.six]; exact hy) hn, fun e2 => absurd e2 e, rfl, hn⟩
  refine ⟨by rw [List.length_set]; exact h.six, ?_, fun y hy n hn => ?_, ⟨fun y hy n hn i hi => ?_, fun y hy n m hnm2 hm => ?_⟩, fun y hy n hn => ?_⟩
  · have := sum_set T j (T.getD j [] ++ X) hjT
    rw [List.length_append] at this
    have e : rowL T j = (T.getD j []).length := rfl
    rw [h.cnt] at this; omega
  · rcases hnm y hy n hn with ⟨_, _, e, hlt⟩ | ⟨k, hk, rfl, rfl, e⟩
    · rw [e]
      obtain ⟨a1, a2, a3, a4, a5, a6⟩ := h.ok y hy n hlt
      exact ⟨a1, a2, a3, a4, a5, fun i hi => hasP_set hjT (a6 i hi)⟩
    · rw [e]
      obtain ⟨a1, a2, a3, a4, a5, a6⟩ := hX k hk
      refine ⟨a1, a2, a3, a4, fun e0 => a5 e0, fun i hi => ?_⟩
      rcases a6 i hi with h6 | ⟨m, hm, rfl⟩
      · exact hasP_set hjT h6
      · exact hasP_row (by rw [List.length_set]; exact hjT) (by rw [hlen, if_pos rfl]; omega)
  · rcases hnm y hy n hn with ⟨hp, _, e, hlt⟩ | ⟨k, hk, rfl, rfl, e⟩
    · rw [e] at hi
      rw [(hold _ ((h.ok y hy n hlt).2.2.2.2.2 i hi)).1, (hold _ hp).1]
      exact h.rkd.need y hy n hlt i hi
    · rw [e] at hi
      rw [hnew]
      rcases (hX k hk).2.2.2.2.2 i hi with h6 | ⟨m, hm, rfl⟩
      · have := hold i h6; omega
      · rw [hnew]; omega
  · rcases hnm y hy m hm with ⟨hp, hjl, _, hlt⟩ | ⟨k, hk, rfl, rfl, _⟩
    · have hp1 : hasP T ⟨(y : Int) + 1, (n : Int)⟩ := hasP_row (by rw [h.six]; exact hy) (by omega)
      rw [(hold _ hp).1, (hold _ hp1).1]
      exact h.rkd.mono y hy n m hnm2 hlt
    · rw [hnew]
      by_cases e2 : n < rowL T y
      · have := hold _ (hasP_row hjT e2); omega
      · obtain ⟨a, rfl⟩ : ∃ a, n = rowL T y + a := ⟨n - rowL T y, by omega⟩
        rw [hnew]; omega
  · rcases hnm y hy n hn with ⟨hp, _, _, _⟩ | ⟨k, hk, rfl, rfl, _⟩
    · have := hold _ hp; omega
    · rw [hnew]; omega
end Go.G21
namespace Go.G21
open Go.Lw
/-- What the next loop of a row needs, one behind the other. -/
def nd (T : Tb) (y : Nat) (n : Int) : List LId := needs (lpA T y n.toNat)
def InM (ms : List Int) (i : LId) : Prop := i.n < ms.getD (i.y - 1).toNat 0
/-- All that loops need are names of loops. -/
def Has (T : Tb) : Prop := T.length = 6 ∧ ∀ y, y < 6 → ∀ n, n < rowL T y → ∀ i ∈ needs (lpA T y n), hasP T i
theorem Has.nm {T : Tb} (h : Has T) {y n : Nat} (hy : y < 6) (hn : n < rowL T y) {i : LId} (hi : i ∈ needs (lpA T y n)) : ∃ y' n' : Nat, y' < 6 ∧ n' < rowL T y' ∧ i = ⟨(y' : Int) + 1, (n' : Int)⟩ := by
  obtain ⟨h1, h2, h3, h4⟩ := h.2 y hy n hn i hi
  have := h.1
  obtain ⟨iy, ik⟩ := i
  simp only at h1 h2 h3 h4
  refine ⟨(iy - 1).toNat, ik.toNat, by omega, by omega, ?_⟩
  rw [show (((iy - 1).toNat : Nat) : Int) + 1 = iy by omega, show ((ik.toNat : Nat) : Int) = ik by omega]
theorem inM_nm {ms : List Int} {y n : Nat} : InM ms ⟨(y : Int) + 1, (n : Int)⟩ ↔ (n : Int) < ms.getD y 0 := by
  unfold InM
  show (n : Int) < ms.getD ((y : Int) + 1 - 1).toNat 0 ↔ _
  rw [show ((y : Int) + 1 - 1).toNat = y by omega]
theorem sum_setI : ∀ (l : List Int) (j : Nat) (v : Int), j < l.length → (l.set j v).sum = l.sum - l.getD j 0 + v
  | a :: l, 0, v, _ => by simp; omega
  | a :: l, j + 1, v, h => by
    have := sum_setI l j v (by simpa using h)
    simp only [List.set_cons_succ, List.sum_cons, List.getD_cons_succ] at this ⊢; omega
theorem sum_leI : ∀ (l : List Int) (T : Tb), l.length = T.length → (∀ i, i < l.length → l.getD i 0 ≤ (rowL T i : Int)) → l.sum ≤ (cntA T : Int) ∧ (l.sum = (cntA T : Int) → ∀ i, i < l.length → l.getD i 0 = (rowL T i : Int)) ∧ ((∀ i, i < l.length → l.getD i 0 = (rowL T i : Int)) → l.sum = (cntA T : Int))
  | [], [], _, _ => ⟨by simp [cntA], fun _ i hi => by simp at hi, fun _ => by simp [cntA]⟩
  | [], _ :: _, h, _ => by simp at h
  | _ :: _, [], h, _ => by simp at h
  | a :: l, r :: T, h, hb => by
    obtain ⟨h1, h2, h3⟩ := sum_leI l T (by simpa using h) (fun i hi => by simpa [rowL] using hb (i + 1) (by simpa using hi))
    have h0 : a ≤ (r.length : Int) := by simpa [rowL] using hb 0 (by simp)
    have e : (cntA (r :: T) : Int) = (r.length : Int) + (cntA T : Int) := by simp [cntA]
    rw [List.sum_cons, e]
    refine ⟨by omega, fun hs i hi => ?_, fun ha => ?_⟩
    · cases i with
      | zero => show a = (r.length : Int); omega
      | succ i => simpa [rowL] using h2 (by omega) i (by simpa using hi)
    · have e0 : a = (r.length : Int) := by simpa [rowL] using ha 0 (by simp)
      have e1 := h3 (fun i hi => by simpa [rowL] using ha (i + 1) (by simpa using hi))
      omega
structure FstI (T : Tb) (ms ts : List Int) (N : Nat) : Prop where
  lm : ms.length = 6
  lt : ts.length = 6
  mb : ∀ y, y < 6 → 0 ≤ ms.getD y 0 ∧ ms.getD y 0 ≤ (rowL T y : Int)
  tb : ∀ y, y < 6 → 0 ≤ ts.getD y 0
  td : ∀ y, y < 6 → ∀ k : Nat, (k : Int) < ts.getD y 0 → k < (nd T y (ms.getD y 0)).length → InM ms ((nd T y (ms.getD y 0)).getD k id0)
  sum : ms.sum = (N : Int)
  rk : ∃ rk : LId → Nat, (∀ y, y < 6 → ∀ n : Nat, (n : Int) < ms.getD y 0 → rk ⟨(y : Int) + 1, (n : Int)⟩ < N ∧ ∀ i ∈ needs (lpA T y n), InM ms i ∧ rk i < rk ⟨(y : Int) + 1, (n : Int)⟩) ∧ ∀ y, y < 6 → ∀ n m : Nat, n < m → (m : Int) < ms.getD y 0 → rk ⟨(y : Int) + 1, (n : Int)⟩ < rk ⟨(y : Int) + 1, (m : Int)⟩
theorem rep6 (y : Nat) : (List.replicate 6 (0 : Int)).getD y 0 = 0 := by rw [List.getD, List.getElem?_replicate]; split <;> rfl
theorem FstI.init {T : Tb} : FstI T (List.replicate 6 0) (List.replicate 6 0) 0 :=
  ⟨rfl, rfl, fun y _ => by rw [rep6]; omega, fun y _ => by rw [rep6]; omega, fun y _ k hk => by rw [rep6] at hk; omega, rfl, fun _ => 0, fun y _ n hn => by rw [rep6] at hn; omega, fun y _ n m _ hn => by rw [rep6] at hn; omega⟩
theorem set_getI {l : List Int} {i : Nat} (h : i < l.length) (v : Int) (j : Nat) : (l.set i v).getD j 0 = if i = j then v else l.getD j 0 := by
  rw [List.getD, List.getD, List.getElem?_set]
  split
  · rename_i e; subst e; first | rfl | (rw [if_pos h]; rfl)
  · rfl
variable {T : Tb} {ms ts : List Int} {N : Nat}
theorem FstI.there (h : FstI T ms ts N) {y : Nat} (hy : y < 6) (hin : InM ms ((nd T y (ms.getD y 0)).getD (ts.getD y 0).toNat id0)) : FstI T ms (ts.set y (ts.getD y 0 + 1)) N := by
  have hl : y < ts.length := by rw [h.lt]; exact hy
  refine ⟨h.lm, by rw [List.length_set]; exact h.lt, h.mb, fun z hz => ?_, fun z hz k hk hkl => ?_, h.sum, h.rk⟩
  · rw [set_getI hl]; split
    · have := h.tb y hy; omega
    · exact h.tb z hz
  · rw [set_getI hl] at hk
    split at hk
    · rename_i e; subst e
      have := h.tb y hy
      by_cases e : k = (ts.getD y 0).toNat
      · rw [e]; exact hin
      · exact h.td y hy k (by omega) hkl
    · exact h.td z hz k hk hkl
theorem FstI.push (h : FstI T ms ts N) (hH : Has T) {y : Nat} (hy : y < 6) (hlt : ms.getD y 0 < (rowL T y : Int)) (hge : ((nd T y (ms.getD y 0)).length : Int) ≤ ts.getD y 0) : FstI T (ms.set y (ms.getD y 0 + 1)) (ts.set y 0) (N + 1) := by
  have hlm : y < ms.length := by rw [h.lm]; exact hy
  have hlt2 : y < ts.length := by rw [h.lt]; exact hy
  have h0 := h.mb y hy
  obtain ⟨m, hm⟩ := Int.eq_ofNat_of_zero_le h0.1
  rw [hm] at hlt hge ⊢
  have hup : ∀ i, InM ms i → InM (ms.set y ((m : Int) + 1)) i := fun i hi => by
    unfold InM at hi ⊢
    rw [set_getI hlm]; split
    · rename_i e; rw [← e, hm] at hi; omega
    · exact hi
  have hnd : ∀ i ∈ needs (lpA T y m), InM ms i := fun i hi => by
    obtain ⟨k, hk, rfl⟩ := List.getElem_of_mem hi
    have e : nd T y (ms.getD y 0) = needs (lpA T y m) := by unfold nd; rw [hm, Int.toNat_natCast]
    have := h.td y hy k (by
      have e2 : ((nd T y (m : Int)).length : Int) ≤ ts.getD y 0 := hge
      rw [← hm, e] at e2; omega) (by rw [e]; exact hk)
    rw [e, List.getD, List.getElem?_eq_getElem hk] at this
    exact this
  obtain ⟨rk, h1, h2⟩ := h.rk
  have hold : ∀ i, InM ms i → ¬ i = (⟨(y : Int) + 1, (m : Int)⟩ : LId) := fun i hi e => by
    subst e; rw [inM_nm, hm] at hi; omega
  refine ⟨by rw [List.length_set]; exact h.lm, by rw [List.length_set]; exact h.lt, fun z hz => ?_, fun z hz => ?_, fun z hz k hk hkl => ?_, ?_, fun i => if i = ⟨(y : Int) + 1, (m : Int)⟩ then N else rk i, fun z hz n hn => ?_, fun z hz n k hnk hk => ?_⟩
  · rw [set_getI hlm]; split
    · rename_i e; subst e; omega
    · exact h.mb z hz
  · rw [set_getI hlt2]; split
    · omega
    · exact h.tb z hz
  · rw [set_getI hlt2] at hk
    split at hk
    · omega
    · rename_i e
      rw [set_getI hlm, if_neg e] at hkl ⊢
      exact hup _ (h.td z hz k hk hkl)
  · rw [sum_setI _ _ _ hlm, h.sum, hm]; omega
  · rw [set_getI hlm] at hn
    simp only
    by_cases e : z = y ∧ n = m
    · obtain ⟨rfl, rfl⟩ := e
      rw [if_pos rfl]
      refine ⟨by omega, fun i hi => ⟨hup i (hnd i hi), ?_⟩⟩
      rw [if_neg (hold i (hnd i hi))]
      obtain ⟨y', n', hy', _, rfl⟩ := hH.nm hy (by omega) hi
      exact (h1 y' hy' n' (inM_nm.1 (hnd _ hi))).1
    · have hn' : (n : Int) < ms.getD z 0 := by
        split at hn
        · rename_i e2; subst e2
          have : n ≠ m := fun e3 => e ⟨rfl, e3⟩
          rw [hm]; omega
        · exact hn
      rw [if_neg (hold _ (inM_nm.2 hn'))]
      obtain ⟨a1, a2⟩ := h1 z hz n hn'
      refine ⟨by omega, fun i hi => ?_⟩
      obtain ⟨b1, b2⟩ := a2 i hi
      rw [if_neg (hold i b1)]
      exact ⟨hup i b1, b2⟩
  · rw [set_getI hlm] at hk
    simp only
    have hn' : (n : Int) < ms.getD z 0 := by
      split at hk
      · rename_i e2; subst e2; rw [hm]; omega
      · omega
    rw [if_neg (hold _ (inM_nm.2 hn'))]
    by_cases e : z = y ∧ k = m
    · obtain ⟨rfl, rfl⟩ := e
      rw [if_pos rfl]
      exact (h1 z hz n hn').1
    · have hk' : (k : Int) < ms.getD z 0 := by
        split at hk
        · rename_i e2; subst e2
          have : k ≠ m := fun e3 => e ⟨rfl, e3⟩
          rw [hm]; omega
        · exact hk
      rw [if_neg (hold _ (inM_nm.2 hk'))]
      exact h2 z hz n k hnk hk'
theorem FstI.leI (h : FstI T ms ts N) (hT : T.length = 6) : N ≤ cntA T := by
  have := (sum_leI ms T (by rw [h.lm, hT]) (fun i hi => (h.mb i (by rw [← h.lm]; exact hi)).2)).1
  rw [h.sum] at this; omega
/-- The next loop of a row waits for one that is not there; or there is none. -/
def Stuck (T : Tb) (ms : List Int) (y : Nat) : Prop := ms.getD y 0 = (rowL T y : Int) ∨ (ms.getD y 0 < (rowL T y : Int) ∧ ∃ i ∈ nd T y (ms.getD y 0), ¬ InM ms i)
theorem FstI.done (h : FstI T ms ts N) (hH : Has T) (hs : ∀ y, y < 6 → Stuck T ms y) (ho : ∃ rk, Ranked T rk) : N = cntA T := by
  obtain ⟨rk, hr⟩ := ho
  have key : ∀ k y, y < 6 → ms.getD y 0 < (rowL T y : Int) → rk ⟨(y : Int) + 1, ms.getD y 0⟩ = k → False := fun k => by
    induction k using Nat.strongRecOn with
    | ind k ih =>
      intro y hy hlt hk
      obtain ⟨m, hm⟩ := Int.eq_ofNat_of_zero_le (h.mb y hy).1
      rcases hs y hy with e | ⟨_, i, hi, hn⟩
      · omega
      · have hi2 : i ∈ needs (lpA T y m) := by unfold nd at hi; rw [hm, Int.toNat_natCast] at hi; exact hi
        rw [hm] at hlt hk
        obtain ⟨y', n', hy', hn', rfl⟩ := hH.nm hy (by omega) hi2
        rw [inM_nm] at hn
        obtain ⟨m', hm'⟩ := Int.eq_ofNat_of_zero_le (h.mb y' hy').1
        have h1 := hr.need y hy m (by omega) _ hi2
        have h2 : rk ⟨(y' : Int) + 1, (m' : Int)⟩ ≤ rk ⟨(y' : Int) + 1, (n' : Int)⟩ := by
          rcases Nat.lt_or_ge m' n' with h3 | h3
          · exact Nat.le_of_lt (hr.mono y' hy' m' n' h3 hn')
          · have : m' = n' := by omega
            rw [this]; exact Nat.le_refl _
        refine ih (rk ⟨(y' : Int) + 1, (m' : Int)⟩) (by omega) y' hy' (by omega) (by rw [hm'])
  have := (sum_leI ms T (by rw [h.lm, hH.1]) (fun i hi => (h.mb i (by rw [← h.lm]; exact hi)).2)).2.2 (fun i hi => by
    have hi6 : i < 6 := by rw [← h.lm]; exact hi
    have h1 := (h.mb i hi6).2
    rcases Decidable.em (ms.getD i 0 < (rowL T i : Int)) with h2 | h2
    · exact (key _ i hi6 h2 rfl).elim
    · omega)
  rw [h.sum] at this; omega
theorem FstI.ord (h : FstI T ms ts N) (hH : Has T) (hN : N = cntA T) : ∃ rk, Ranked T rk := by
  have hall := (sum_leI ms T (by rw [h.lm, hH.1]) (fun i hi => (h.mb i (by rw [← h.lm]; exact hi)).2)).2.1 (by rw [h.sum, hN])
  obtain ⟨rk, h1, h2⟩ := h.rk
  refine ⟨rk, ⟨fun y hy n hn i hi => ?_, fun y hy n m hnm hm => ?_⟩⟩
  · exact ((h1 y hy n (by rw [hall y (by rw [h.lm]; exact hy)]; omega)).2 i hi).2
  · exact h2 y hy n m hnm (by rw [hall y (by rw [h.lm]; exact hy)]; omega)
end Go.G21
namespace Go.G21
open Go.Lw
theorem thr_add {T : Tb} {j : Nat} (hj : j < T.length) (X : List Lp) (i : LId) : (thrA (T.set j (T.getD j [] ++ X))).count i = (thrA T).count i + (thrR X).count i := by
  have := flat_set thrR T j [] (T.getD j [] ++ X) i hj
  unfold thrA
  rw [show thrR (T.getD j [] ++ X) = thrR (T.getD j []) ++ thrR X from List.flatMap_append, List.count_append] at this
  omega
/-- What stands at the places. -/
def StN (W : Nat) (s : Lst) (i : LId) : Prop := match s with
  | none => False
  | some (y, f) => i.y = y ∧ (f : Int) ≤ i.n ∧ i.n < ((f + 2 * W : Nat) : Int)
instance (W : Nat) (s : Lst) (i : LId) : Decidable (StN W s i) := by unfold StN; split <;> infer_instance
theorem stN_mk {W : Nat} {y : Int} {f : Nat} {n : Int} (h1 : (f : Int) ≤ n) (h2 : n < ((f + 2 * W : Nat) : Int)) : StN W (some (y, f)) ⟨y, n⟩ := ⟨rfl, h1, h2⟩
theorem flat1 {α β : Type} (g : α → β) : ∀ l : List α, (l.flatMap fun k => [g k]) = l.map g
  | [] => rfl
  | a :: l => by rw [List.flatMap_cons, flat1 g l]; rfl
theorem fr_in {W : Nat} {s : Lst} {k : Nat} (hk : k < W) : ∀ i ∈ frS s k, StN W s i := fun i hi => by
  unfold frS at hi
  split at hi
  · cases hi
  · rw [List.mem_singleton] at hi; subst hi; exact stN_mk (by omega) (by omega)
theorem bk_in {W : Nat} {s : Lst} {k : Nat} (hk : k < W) : ∀ i ∈ bkS W s k, StN W s i := fun i hi => by
  unfold bkS at hi
  split at hi
  · cases hi
  · rw [List.mem_singleton] at hi; subst hi; exact stN_mk (by omega) (by omega)
theorem psB_id (l : List LId) : (psB l).map Pa.id = l := by simp [psB, Function.comp_def]
theorem psF_id (l : List LId) : (psF l).map Pa.id = l := by simp [psF, Function.comp_def]
theorem rndL_at {W : Nat} {s : Lst} {y : Int} {f k : Nat} (h : k < 2 * W) : (rndL W s y f).getD k lq0.p = if k < W then lpF W s f k else lpB W s y f (k - W) := by
  unfold rndL rndF rndB
  split
  · rename_i h1
    rw [List.getD, List.getElem?_append_left (by simpa using h1), List.getElem?_map, List.getElem?_range h1]; rfl
  · rename_i h1
    rw [List.getD, List.getElem?_append_right (by simpa using h1), List.length_map, List.length_range, List.getElem?_map, List.getElem?_range (by omega)]; rfl
/-- What a round is made through. -/
theorem thr_rnd (W : Nat) (s : Lst) (y : Int) (f : Nat) (i : LId) : (thrR (rndL W s y f)).count i = if StN W s i then 1 else 0 := by
  unfold rndL
  rw [show ∀ a b : List Lp, thrR (a ++ b) = thrR a ++ thrR b from fun a b => List.flatMap_append, List.count_append]
  cases s with
  | none =>
    have e1 : thrR (rndF W none f W) = [] := by
      unfold thrR rndF; rw [List.flatMap_map]; exact List.flatMap_eq_nil_iff.2 fun k _ => rfl
    have e2 : thrR (rndB W none y f W) = [] := by
      unfold thrR rndB; rw [List.flatMap_map]; exact List.flatMap_eq_nil_iff.2 fun k _ => rfl
    rw [e1, e2]; simp [StN]
  | some p =>
    obtain ⟨y', f'⟩ := p
    have e1 : thrR (rndF W (some (y', f')) f W) = (List.range W).map fun k => (⟨y', ((f' + k : Nat) : Int)⟩ : LId) := by
      unfold thrR rndF; rw [List.flatMap_map]
      exact flat1 (fun k => (⟨y', ((f' + k : Nat) : Int)⟩ : LId)) _
    have e2 : thrR (rndB W (some (y', f')) y f W) = (List.range W).map fun k => (⟨y', ((f' + W + k : Nat) : Int)⟩ : LId) := by
      unfold thrR rndB; rw [List.flatMap_map]
      have : ∀ l : List Nat, (∀ k ∈ l, k < W) → (l.flatMap fun k => (lpB W (some (y', f')) y f k).th) = l.map fun k => (⟨y', ((f' + W + k : Nat) : Int)⟩ : LId) := by
        intro l
        induction l with
        | nil => exact fun _ => rfl
        | cons a l ih =>
          intro h
          have ha := h a List.mem_cons_self
          rw [List.flatMap_cons, ih fun k hk => h k (List.mem_cons_of_mem _ hk), List.map_cons]
          show [(⟨y', ((f' + 2 * W - 1 - (W - 1 - a) : Nat) : Int)⟩ : LId)] ++ _ = _
          rw [show f' + 2 * W - 1 - (W - 1 - a) = f' + W + a by omega]; rfl
      exact this _ fun k hk => List.mem_range.1 hk
    rw [e1, e2, count_rng, count_rng]
    by_cases h : StN W (some (y', f')) i
    · rw [if_pos h]
      obtain ⟨h1, h2, h3⟩ := h
      by_cases h4 : i.n < ((f' + W : Nat) : Int)
      · rw [if_pos ⟨h1, h2, h4⟩, if_neg (by omega)]
      · rw [if_neg (by omega), if_pos ⟨h1, by omega, by omega⟩]
    · rw [if_neg h, if_neg (fun e => h ⟨e.1, e.2.1, by omega⟩), if_neg (fun e => h ⟨e.1, by omega, by omega⟩)]
/-- The table behind some rounds. -/
structure RInv (W : Nat) (T : Tb) (s : Lst) (N : Nat) (rk : LId → Nat) : Prop where
  base : BaseT T N rk
  st : ∀ y f, s = some (y, f) → 1 ≤ y ∧ y ≤ 6 ∧ rowL T (y - 1).toNat = f + 2 * W
  once : ∀ y, y < 6 → ∀ n, n < rowL T y → (thrA T).count ⟨(y : Int) + 1, (n : Int)⟩ = if StN W s ⟨(y : Int) + 1, (n : Int)⟩ then 0 else 1
  out : ∀ y, y < 6 → ∀ n, rowL T y ≤ n → (thrA T).count ⟨(y : Int) + 1, (n : Int)⟩ = 0
theorem RInv.stood {W : Nat} {T : Tb} {s : Lst} {N : Nat} {rk : LId → Nat} (h : RInv W T s N rk) {i : LId} (hi : StN W s i) : hasP T i := by
  unfold StN at hi
  split at hi
  · exact hi.elim
  · rename_i y f
    obtain ⟨h1, h2, h3⟩ := h.st y f rfl
    obtain ⟨e1, e2, e3⟩ := hi
    exact ⟨by omega, by rw [h.base.six]; omega, by omega, by rw [e1, h3]; omega⟩
theorem RInv.rnd {W : Nat} {T : Tb} {s : Lst} {N : Nat} {rk : LId → Nat} (h : RInv W T s N rk) {j : Nat} (hj : j < 6) :
    ∃ rk', RInv W (T.set j (T.getD j [] ++ rndL W s ((j : Int) + 1) (rowL T j))) (some ((j : Int) + 1, rowL T j)) (N + 2 * W) rk' := by
  have hjT : j < T.length := by rw [h.base.six]; exact hj
  have hlen : ∀ y, rowL (T.set j (T.getD j [] ++ rndL W s ((j : Int) + 1) (rowL T j))) y = if j = y then rowL T j + 2 * W else rowL T y := fun y => by
    rw [rowL_set hjT, List.length_append, rndL_len]; rfl
  have hb := h.base.add hj (rndL W s ((j : Int) + 1) (rowL T j)) (fun k hk => by
    rw [rndL_len] at hk
    rw [rndL_at hk]
    split
    · rename_i h1
      refine ⟨.inl rfl, by have := frS_len s k; show (frS s k).length ≤ 3; omega, by have := bkS_len W s k; show (psB (bkS W s k)).length ≤ 1; unfold psB; rw [List.length_map]; exact this, fun p hp => ?_, fun e => ?_, fun i hi => .inl ?_⟩
      · obtain ⟨q, _, rfl⟩ := List.mem_map.1 hp; exact .inr rfl
      · exact decide_eq_true e
      · unfold needs at hi
        rcases List.mem_append.1 hi with hi | hi
        · exact h.stood (fr_in h1 i hi)
        · rw [show (lpF W s (rowL T j) k).pa.map Pa.id = bkS W s k from psB_id _] at hi; exact h.stood (bk_in h1 i hi)
    · rename_i h1
      refine ⟨.inr rfl, by have := bkS_len W s (W - 1 - (k - W)); show (bkS W s (W - 1 - (k - W))).length ≤ 3; omega, Nat.le_refl _, fun p hp => ?_, fun e => by omega, fun i hi => ?_⟩
      · obtain ⟨q, _, rfl⟩ := List.mem_map.1 hp; exact .inl rfl
      · unfold needs at hi
        rcases List.mem_append.1 hi with hi | hi
        · exact .inl (h.stood (bk_in (by omega) i hi))
        · rw [show (lpB W s ((j : Int) + 1) (rowL T j) (k - W)).pa.map Pa.id = [(⟨(j : Int) + 1, ((rowL T j + (W - 1 - (k - W)) : Nat) : Int)⟩ : LId)] from psF_id _] at hi
          exact .inr ⟨W - 1 - (k - W), by omega, List.mem_singleton.1 hi⟩)
  rw [rndL_len] at hb
  refine ⟨_, hb, fun y f e => ?_, fun y hy n hn => ?_, fun y hy n hn => ?_⟩
  · cases e
    refine ⟨by omega, by omega, ?_⟩
    rw [show ((j : Int) + 1 - 1).toNat = j by omega, hlen, if_pos rfl]
  · rw [thr_add hjT, thr_rnd]
    rw [hlen] at hn
    by_cases e : j = y
    · subst e
      rw [if_pos rfl] at hn
      by_cases e2 : n < rowL T j
      · rw [h.once j hj n e2, if_neg (show ¬ StN W (some ((j : Int) + 1, rowL T j)) ⟨(j : Int) + 1, (n : Int)⟩ from fun e3 => by have := e3.2.1; simp only at this; omega)]
        split <;> rfl
      · rw [h.out j hj n (by omega), if_pos (show StN W (some ((j : Int) + 1, rowL T j)) ⟨(j : Int) + 1, (n : Int)⟩ from stN_mk (by omega) (by omega)), if_neg]
        intro e3
        have := (h.stood e3).2.2.2
        rw [show ((j : Int) + 1 - 1).toNat = j by omega] at this
        simp only at this; omega
    · rw [if_neg e] at hn
      rw [h.once y hy n hn, if_neg (show ¬ StN W (some ((j : Int) + 1, rowL T j)) ⟨(y : Int) + 1, (n : Int)⟩ from fun e3 => by have := e3.1; simp only at this; omega)]
      split <;> rfl
  · rw [thr_add hjT, thr_rnd]
    rw [hlen] at hn
    have hn2 : rowL T y ≤ n := by
      by_cases e : j = y
      · subst e; rw [if_pos rfl] at hn; omega
      · rw [if_neg e] at hn; exact hn
    rw [h.out y hy n hn2, if_neg]
    intro e3
    have := (h.stood e3).2.2.2
    rw [show ((y : Int) + 1 - 1).toNat = y by omega] at this
    simp only at this; omega
end Go.G21
namespace Go.G21
open Go.Lw
theorem rnds_inv (W : Nat) (rs : List UInt8) (hv : ∀ y ∈ rs, 1 ≤ y.toNat ∧ y.toNat ≤ 6) : ∀ n, n ≤ rs.length → ∃ rk, RInv W (rndsT W (rs.take n)).1 (rndsT W (rs.take n)).2 (2 * W * n) rk
  | 0, _ => by
    have hr : ∀ y, rowL (List.replicate 6 ([] : List Lp)) y = 0 := fun y => by unfold rowL; rw [rep_getD]; rfl
    refine ⟨fun _ => 0, ⟨rfl, rfl, fun y hy n hn => ?_, ⟨fun y hy n hn => ?_, fun y hy n m h1 h2 => ?_⟩, fun y hy n hn => ?_⟩, fun y f e => (by cases e), fun y hy n hn => ?_, fun y hy n hn => (by rfl)⟩
    all_goals (exfalso; first | (have h3 : n < rowL (List.replicate 6 ([] : List Lp)) y := hn; rw [hr] at h3; omega) | (have h3 : m < rowL (List.replicate 6 ([] : List Lp)) y := h2; rw [hr] at h3; omega))
  | n + 1, hn => by
    obtain ⟨rk, h⟩ := rnds_inv W rs hv n (by omega)
    have hy := hv _ (mem_getD (d := 0) (show n < rs.length by omega))
    obtain ⟨rk', h'⟩ := h.rnd (j := (rs.getD n 0).toNat - 1) (by omega)
    rw [show (((rs.getD n 0).toNat - 1 : Nat) : Int) + 1 = ((rs.getD n 0).toNat : Int) by omega] at h'
    refine ⟨rk', ?_⟩
    rw [rnds_take W rs n (by omega), show 2 * W * (n + 1) = 2 * W * n + 2 * W from Nat.mul_succ _ _]
    exact h'
theorem bndL_at {W : Nat} {s : Lst} {y : Int} {f k n : Nat} (h : k < n) : (bndL W s y f n).getD k lq0.p = bndP W s y f k := by
  unfold bndL; rw [List.getD, List.getElem?_map, List.getElem?_range h]; rfl
theorem thr_bnd (W : Nat) (y : Int) (f g n : Nat) (k : Int) : ∀ m, m ≤ W → (thrR (bndL W (some (y, f)) y g m)).count ⟨y, k⟩ = (if (g : Int) ≤ k ∧ k + 1 < ((g + m : Nat) : Int) then 1 else 0) + (if (f : Int) ≤ k ∧ k < ((f + m : Nat) : Int) then 1 else 0) + (if ((f + 2 * W : Nat) : Int) ≤ k + m ∧ k < ((f + 2 * W : Nat) : Int) then 1 else 0)
  | 0, _ => by
    rw [if_neg (by omega), if_neg (by omega), if_neg (by omega)]; rfl
  | m + 1, hm => by
    rw [bndL_succ, show ∀ a b : List Lp, thrR (a ++ b) = thrR a ++ thrR b from fun a b => List.flatMap_append, List.count_append, thr_bnd W y f g n k m (by omega)]
    have e : thrR [bndP W (some (y, f)) y g m] = (if m = 0 then [] else [(⟨y, ((g + m - 1 : Nat) : Int)⟩ : LId)]) ++ [(⟨y, ((f + 2 * W - 1 - m : Nat) : Int)⟩ : LId)] ++ [(⟨y, ((f + m : Nat) : Int)⟩ : LId)] := by
      unfold thrR; rw [List.flatMap_cons, List.flatMap_nil, List.append_nil]; rfl
    rw [e, List.count_append, List.count_append]
    have c1 : ∀ a : Int, [(⟨y, a⟩ : LId)].count ⟨y, k⟩ = if a = k then 1 else 0 := fun a => by
      rw [List.count_singleton]
      by_cases h : a = k
      · subst h; rw [if_pos rfl, if_pos (by simp)]
      · rw [if_neg h, if_neg (by simpa using h)]
    rw [c1, c1]
    have c0 : (if m = 0 then [] else [(⟨y, ((g + m - 1 : Nat) : Int)⟩ : LId)]).count ⟨y, k⟩ = if m ≠ 0 ∧ ((g + m - 1 : Nat) : Int) = k then 1 else 0 := by
      by_cases h : m = 0
      · subst h; rfl
      · rw [if_neg h, c1]
        by_cases h2 : ((g + m - 1 : Nat) : Int) = k
        · rw [if_pos h2, if_pos ⟨h, h2⟩]
        · rw [if_neg h2, if_neg (fun e => h2 e.2)]
    rw [c0]
    repeat' split
    all_goals omega
theorem thr_bnd_no (W : Nat) (y : Int) (f g : Nat) (i : LId) (hi : i.y ≠ y) : ∀ m, (thrR (bndL W (some (y, f)) y g m)).count i = 0
  | 0 => rfl
  | m + 1 => by
    rw [bndL_succ, show ∀ a b : List Lp, thrR (a ++ b) = thrR a ++ thrR b from fun a b => List.flatMap_append, List.count_append, thr_bnd_no W y f g i hi m, Nat.zero_add]
    rw [List.count_eq_zero]
    intro h
    have e : thrR [bndP W (some (y, f)) y g m] = (if m = 0 then [] else [(⟨y, ((g + m - 1 : Nat) : Int)⟩ : LId)]) ++ [(⟨y, ((f + 2 * W - 1 - m : Nat) : Int)⟩ : LId)] ++ [(⟨y, ((f + m : Nat) : Int)⟩ : LId)] := by
      unfold thrR; rw [List.flatMap_cons, List.flatMap_nil, List.append_nil]; rfl
    rw [e] at h
    rcases List.mem_append.1 h with h | h
    · rcases List.mem_append.1 h with h | h
      · split at h
        · cases h
        · rw [List.mem_singleton] at h; subst h; exact hi rfl
      · rw [List.mem_singleton] at h; subst h; exact hi rfl
    · rw [List.mem_singleton] at h; subst h; exact hi rfl
/-- The fabric of a tube is valid; what has fallen is its last loop, which is made through others. -/
theorem tub_sound {W : Nat} {rs : List UInt8} (h0 : tubE (W : Int) rs = 0) : TabOk (tubT W rs) ∧ PlaceOk (tubT W rs) [] (tubF W rs).f ∧ (lpA (tubT W rs) ((lastY rs).toNat - 1) (rowL (tubT W rs) ((lastY rs).toNat - 1) - 1)).th ≠ [] ∧ 1 ≤ rowL (tubT W rs) ((lastY rs).toNat - 1) := by
  obtain ⟨hw1, hw16, hl1, hl31, hv⟩ := tub_of h0
  obtain ⟨rk, h⟩ := rnds_inv W rs hv rs.length (Nat.le_refl _)
  rw [List.take_length] at h
  have hy := lastY_in hl1 hv
  have hlast := rnds_last (wd := W) hl1 hv
  obtain ⟨f, hs⟩ : ∃ f : Nat, (rndsT W rs).2 = some (((lastY rs).toNat : Int), f) := by
    have e : rs = rs.take (rs.length - 1 + 1) := by rw [List.take_of_length_le (by omega)]
    rw [e, rnds_take W rs _ (by omega), ← e]
    exact ⟨_, rfl⟩
  obtain ⟨-, -, hg⟩ := h.st _ _ hs
  rw [hs] at h
  have hT : tubT W rs = (rndsT W rs).1.set ((lastY rs).toNat - 1) ((rndsT W rs).1.getD ((lastY rs).toNat - 1) [] ++ bndL W (some (((lastY rs).toNat : Int), f)) (lastY rs).toNat (rowL (rndsT W rs).1 ((lastY rs).toNat - 1)) W) := by
    unfold tubT; rw [hs]; rfl
  have hF : (tubF W rs).f = [⟨((lastY rs).toNat : Int), (rowL (tubT W rs) ((lastY rs).toNat - 1) : Int) - 1⟩] := rfl
  obtain ⟨j, hj⟩ : ∃ j, (lastY rs).toNat = j + 1 := ⟨(lastY rs).toNat - 1, by omega⟩
  rw [hF, hT]
  clear hF hT
  rw [hj] at h hg hlast ⊢
  rw [show j + 1 - 1 = j by omega] at hlast ⊢
  rw [show (((j + 1 : Nat) : Int) - 1).toNat = j by omega] at hg
  clear hs
  generalize (rndsT W rs).1 = T at *
  have hj6 : j < 6 := by omega
  have hjT : j < T.length := by rw [h.base.six]; exact hj6
  have hY : ((j + 1 : Nat) : Int) = (j : Int) + 1 := by omega
  rw [hY] at h ⊢
  have hlen : ∀ y, rowL (T.set j (T.getD j [] ++ bndL W (some ((j : Int) + 1, f)) ((j : Int) + 1) (rowL T j) W)) y = if j = y then rowL T j + W else rowL T y := fun y => by
    rw [rowL_set hjT, List.length_append, bndL_len]; rfl
  have hb := h.base.add hj6 (bndL W (some ((j : Int) + 1, f)) ((j : Int) + 1) (rowL T j) W) (fun k hk => by
    rw [bndL_len] at hk
    rw [bndL_at hk]
    refine ⟨.inl rfl, ?_, ?_, fun p hp => ?_, fun e => by omega, fun i hi => ?_⟩
    · show ((if k = 0 then [] else [_]) ++ [_] ++ [_] : List LId).length ≤ 3
      split <;> simp
    · show (if k = 0 then [] else [_] : List Pa).length ≤ 1
      split <;> simp
    · have hp2 : p ∈ (if k = 0 then [] else [(⟨⟨(j : Int) + 1, ((rowL T j + k - 1 : Nat) : Int)⟩, true, 0⟩ : Pa)]) := hp
      split at hp2
      · cases hp2
      · rw [List.mem_singleton] at hp2; subst hp2; exact .inl rfl
    · have hn : k ≠ 0 → ∃ m, m < k ∧ (⟨(j : Int) + 1, ((rowL T j + k - 1 : Nat) : Int)⟩ : LId) = ⟨(j : Int) + 1, ((rowL T j + m : Nat) : Int)⟩ := fun e => ⟨k - 1, by omega, by rw [show rowL T j + k - 1 = rowL T j + (k - 1) by omega]⟩
      unfold needs at hi
      rcases List.mem_append.1 hi with hi | hi
      · have hi2 : i ∈ (if k = 0 then [] else [(⟨(j : Int) + 1, ((rowL T j + k - 1 : Nat) : Int)⟩ : LId)]) ++ bkS W (some ((j : Int) + 1, f)) k ++ frS (some ((j : Int) + 1, f)) k := hi
        rcases List.mem_append.1 hi2 with hi2 | hi2
        · rcases List.mem_append.1 hi2 with hi2 | hi2
          · split at hi2
            · cases hi2
            · rename_i e; rw [List.mem_singleton] at hi2; subst hi2; exact .inr (hn e)
          · exact .inl (h.stood (bk_in hk i hi2))
        · exact .inl (h.stood (fr_in hk i hi2))
      · obtain ⟨p, hp, rfl⟩ := List.mem_map.1 hi
        have hp2 : p ∈ (if k = 0 then [] else [(⟨⟨(j : Int) + 1, ((rowL T j + k - 1 : Nat) : Int)⟩, true, 0⟩ : Pa)]) := hp
        split at hp2
        · cases hp2
        · rename_i e; rw [List.mem_singleton] at hp2; subst hp2; exact .inr (hn e))
  rw [bndL_len] at hb
  have hN : 2 * W * rs.length ≤ 2 * 16 * 31 := Nat.mul_le_mul (by omega) hl31
  refine ⟨⟨hb.six, by rw [hb.cnt]; omega, fun y hy n hn => ?_, _, hb.rkd⟩, ⟨fun i hi => ?_, Nat.le_refl _, fun y hy n hn => ?_⟩, ?_, by rw [hlen, if_pos rfl]; omega⟩
  · obtain ⟨a1, a2, a3, a4, a5, a6⟩ := hb.ok y hy n hn
    exact ⟨⟨a1, ⟨by omega, by omega⟩, a6, a4, by rw [pushS_one a3]⟩, a5⟩
  · rw [List.nil_append, List.mem_singleton] at hi
    subst hi
    rw [hlen, if_pos rfl, show ((rowL T j + W : Nat) : Int) - 1 = ((rowL T j + W - 1 : Nat) : Int) by omega]
    exact hasP_row (by rw [List.length_set]; exact hjT) (by rw [hlen, if_pos rfl]; omega)
  · rw [List.nil_append, List.count_append, thr_add hjT, List.count_singleton]
    rw [hlen, if_pos rfl]
    have hn' := hn
    rw [hlen] at hn'
    by_cases e : j = y
    · subst e
      rw [if_pos rfl] at hn'
      rw [thr_bnd W _ f _ 0 _ W (Nat.le_refl _)]
      have e1 : (if ((⟨(j : Int) + 1, ((rowL T j + W : Nat) : Int) - 1⟩ : LId) == ⟨(j : Int) + 1, (n : Int)⟩) = true then 1 else 0) = if ((rowL T j + W : Nat) : Int) - 1 = (n : Int) then 1 else 0 := by
        by_cases e2 : ((rowL T j + W : Nat) : Int) - 1 = (n : Int)
        · rw [if_pos e2, e2, if_pos (by simp)]
        · rw [if_neg e2, if_neg (by simpa using e2)]
      rw [e1]
      by_cases e3 : n < rowL T j
      · rw [h.once j hj6 n e3]
        by_cases e4 : StN W (some ((j : Int) + 1, f)) ⟨(j : Int) + 1, (n : Int)⟩
        · rw [if_pos e4]
          obtain ⟨-, e5, e6⟩ := e4
          simp only at e5 e6
          repeat' split
          all_goals omega
        · rw [if_neg e4]
          have e5 : n < f := by
            rcases Nat.lt_or_ge n f with h1 | h1
            · exact h1
            · exact absurd (stN_mk (by omega) (by omega)) e4
          repeat' split
          all_goals omega
      · rw [h.out j hj6 n (by omega)]
        repeat' split
        all_goals omega
    · rw [if_neg e] at hn'
      rw [thr_bnd_no W _ f _ _ (by show (y : Int) + 1 ≠ (j : Int) + 1; omega), h.once y hy n hn', if_neg (show ¬ StN W (some ((j : Int) + 1, f)) ⟨(y : Int) + 1, (n : Int)⟩ from fun e3 => by have := e3.1; simp only at this; omega), if_neg (by simp; omega)]
  · rw [hlen, if_pos rfl, lpA_set hjT, if_pos rfl, if_neg (by omega), bndL_at (by omega)]
    show ((if _ then [] else [_]) ++ [_] ++ [_] : List LId) ≠ []
    simp
end Go.G21
namespace Go.G21
open Go.Lw
theorem row_tab (ts : List TQ) (y : Nat) : (tabP ts).getD y [] = (ts.getD y tq0).2.map LpQ.p := by
  rcases Nat.lt_or_ge y ts.length with h | h
  · exact map_getD' (fun p : TQ => p.2.map LpQ.p) ts y tq0 [] h
  · rw [List.getD, List.getElem?_eq_none (by simpa [tabP] using h), List.getD, List.getElem?_eq_none h]; rfl
theorem rowL_tab (ts : List TQ) (y : Nat) : rowL (tabP ts) y = (ts.getD y tq0).2.length := by
  unfold rowL; rw [row_tab, List.length_map]
theorem lpA_tab (ts : List TQ) (y n : Nat) : lpA (tabP ts) y n = ((ts.getD y tq0).2.getD n lq0).p := by
  unfold lpA; rw [row_tab]; generalize (ts.getD y tq0).2 = l; rw [List.getD, List.getElem?_map, List.getD]; cases l[n]? <;> rfl
theorem hasP_tab {ts : List TQ} {i : LId} : hasP (tabP ts) i ↔ 1 ≤ i.y ∧ i.y ≤ (ts.length : Int) ∧ 0 ≤ i.n ∧ i.n < ((ts.getD (i.y - 1).toNat tq0).2.length : Int) := by
  unfold hasP; rw [rowL_tab]; simp only [tabP, List.length_map]
theorem tab_len {w : World} {ts : List TQ} (h : TabAt w ts) (y : Nat) : (ts.getD y tq0).1.2.1 = (ts.getD y tq0).2.length := by
  rcases Nat.lt_or_ge y ts.length with e | e
  · exact sl_len (h _ (mem_getD e)).1
  · rw [List.getD, List.getElem?_eq_none e]; rfl
theorem tab_lp {w : World} {ts : List TQ} (h : TabAt w ts) {y n : Nat} (hy : y < ts.length) (hn : n < (ts.getD y tq0).2.length) : LpAt w ((ts.getD y tq0).2.getD n lq0) := (h _ (mem_getD hy)).2 _ (mem_getD hn)
theorem len_tab (ts : List TQ) : (tabP ts).length = ts.length := by simp [tabP]
/-- What is made through by the rows before y, and by the first n loops of the row y. -/
def thrU (T : Tb) (y n : Nat) : List LId := (T.take y).flatMap thrR ++ ((T.getD y []).take n).flatMap Lp.th
theorem thrU_zero (T : Tb) : thrU T 0 0 = [] := by simp [thrU]
theorem thrU_succ {T : Tb} {y n : Nat} (h : n < rowL T y) : thrU T y (n + 1) = thrU T y n ++ (lpA T y n).th := by
  unfold thrU lpA
  have h' : n < (T.getD y []).length := h
  rw [flat_succ Lp.th _ n lq0.p h', List.append_assoc]
theorem thrU_next {T : Tb} {y : Nat} (h : y < T.length) : thrU T (y + 1) 0 = thrU T y (rowL T y) := by
  unfold thrU rowL
  rw [flat_succ thrR _ y [] h, List.take_zero, List.take_length]
  simp [thrR]
theorem thrU_all {T : Tb} {y : Nat} (h : T.length ≤ y) : thrU T y 0 = thrA T := by
  unfold thrU thrA; rw [List.take_of_length_le h]; simp
theorem thrU_sub {T : Tb} {y n : Nat} (hy : y < T.length) (i : LId) : (thrU T y n).count i ≤ (thrA T).count i := by
  have h1 : thrA T = (T.take y).flatMap thrR ++ (T.drop y).flatMap thrR := by unfold thrA; rw [← List.flatMap_append, List.take_append_drop]
  have h2 : T.drop y = T.getD y [] :: T.drop (y + 1) := by
    rw [List.drop_eq_getElem_cons hy, List.getD, List.getElem?_eq_getElem hy]; rfl
  have h3 : thrR (T.getD y []) = ((T.getD y []).take n).flatMap Lp.th ++ ((T.getD y []).drop n).flatMap Lp.th := by
    unfold thrR; rw [← List.flatMap_append, List.take_append_drop]
  rw [h1, h2, List.flatMap_cons, h3]
  unfold thrU
  simp only [List.count_append]; omega
theorem thrU_at {T : Tb} {y n k : Nat} (hy : y < T.length) (hn : n < rowL T y) (hk : k < (lpA T y n).th.length) : (thrU T y n ++ (lpA T y n).th.take k).count ((lpA T y n).th.getD k id0) + 1 ≤ (thrA T).count ((lpA T y n).th.getD k id0) := by
  have h := thrU_sub (n := n + 1) hy ((lpA T y n).th.getD k id0)
  rw [thrU_succ hn] at h
  generalize lpA T y n = l at *
  generalize thrU T y n = u at *
  have h2 : l.th = l.th.take k ++ l.th.getD k id0 :: l.th.drop (k + 1) := by
    conv => lhs; rw [← List.take_append_drop k l.th, List.drop_eq_getElem_cons hk]
    rw [List.getD, List.getElem?_eq_getElem hk]; rfl
  have h3 := congrArg (List.count (l.th.getD k id0)) h2
  rw [List.count_append, List.count_cons_self] at h3
  rw [List.count_append] at h ⊢
  omega
/-- Counts in a map. -/
def cntF (p : List LId) (i : LId) : Value := .int .i64 ((p.count i : Nat) : Int)
theorem cnt_ins (p : List LId) (k : LId) : (fun k' => if k' = k then Value.int .i64 (((p.count k : Nat) : Int) + 1) else cntF p k') = cntF (p ++ [k]) := by
  funext k'
  unfold cntF
  rw [List.count_append, List.count_singleton]
  by_cases h : k' = k
  · subst h; rw [if_pos rfl, if_pos (by simp)]; rfl
  · rw [if_neg h, if_neg (by simpa using fun e => h e.symm), Nat.add_zero]
theorem take_snoc {α : Type} {l : List α} {k : Nat} (d : α) (h : k < l.length) : l.take (k + 1) = l.take k ++ [l.getD k d] := by
  rw [List.take_add_one, List.getElem?_eq_getElem h, List.getD, List.getElem?_eq_getElem h]; rfl
/-- What a valid table's loops are. -/
structure TabV (T : Tb) : Prop where
  ok : TabOk T
  thr : ∀ i, (thrA T).count i ≤ 1
theorem tabV {T : Tb} {H F : List LId} (h : TabOk T) (hp : PlaceOk T H F) : TabV T := by
  refine ⟨h, fun i => ?_⟩
  by_cases hi : hasP T i
  · obtain ⟨h1, h2, h3, h4⟩ := hi
    have h6 := h.six
    obtain ⟨iy, ik⟩ := i
    simp only at h1 h2 h3 h4
    have := hp.once (iy - 1).toNat (by omega) ik.toNat (by omega)
    rw [show (((iy - 1).toNat : Nat) : Int) + 1 = iy by omega, show ((ik.toNat : Nat) : Int) = ik by omega] at this
    rw [List.count_append] at this; omega
  · have : (thrA T).count i = 0 := by
      rw [List.count_eq_zero]
      intro hm
      unfold thrA thrR at hm
      obtain ⟨r, hr, hm⟩ := List.mem_flatMap.1 hm
      obtain ⟨l, hl, hm⟩ := List.mem_flatMap.1 hm
      obtain ⟨y, hy, rfl⟩ := List.getElem_of_mem hr
      obtain ⟨n, hn, rfl⟩ := List.getElem_of_mem hl
      have e1 : T.getD y [] = T[y] := by rw [List.getD, List.getElem?_eq_getElem hy]; rfl
      have e2 : lpA T y n = T[y][n] := by unfold lpA; rw [e1, List.getD, List.getElem?_eq_getElem hn]; rfl
      have h6 := h.six
      have := (h.rts y (by omega) n (by unfold rowL; rw [e1]; exact hn)).1.2.2.1 i (by rw [e2]; unfold needs; exact List.mem_append_left _ hm)
      exact hi this
    omega
theorem thq (ts : List TQ) (y n : Nat) : (lpA (tabP ts) y n).th = ((ts.getD y tq0).2.getD n lq0).ths := by rw [lpA_tab]
theorem thrU_succQ {ts : List TQ} {y n : Nat} (h : n < (ts.getD y tq0).2.length) : thrU (tabP ts) y (n + 1) = thrU (tabP ts) y n ++ ((ts.getD y tq0).2.getD n lq0).ths := by
  rw [thrU_succ (by rw [rowL_tab]; exact h), thq]
theorem thrU_nextQ {ts : List TQ} {y : Nat} (h : y < ts.length) : thrU (tabP ts) (y + 1) 0 = thrU (tabP ts) y (ts.getD y tq0).2.length := by
  rw [thrU_next (by rw [len_tab]; exact h), rowL_tab]
theorem cnt_once {ts : List TQ} {y n k : Nat} (hT : ∀ i, (thrA (tabP ts)).count i ≤ 1) (hy : y < ts.length) (hn : n < (ts.getD y tq0).2.length) (hk : k < ((ts.getD y tq0).2.getD n lq0).ths.length) :
    ((thrU (tabP ts) y n ++ ((ts.getD y tq0).2.getD n lq0).ths.take k ++ [((ts.getD y tq0).2.getD n lq0).ths.getD k id0]).count (((ts.getD y tq0).2.getD n lq0).ths.getD k id0)) ≤ 1 := by
  have h := thrU_at (T := tabP ts) (n := n) (k := k) (by rw [len_tab]; exact hy) (by rw [rowL_tab]; exact hn) (by rw [thq]; exact hk)
  rw [thq] at h
  have h2 := hT (((ts.getD y tq0).2.getD n lq0).ths.getD k id0)
  rw [List.count_append, List.count_singleton, if_pos (by simp)]
  omega
/-- How many loops the first rows have. -/
def cntU (ts : List TQ) (i : Nat) : Nat := ((ts.take i).map fun p : TQ => p.2.length).sum
theorem cntU_succ {ts : List TQ} {i : Nat} (h : i < ts.length) : cntU ts (i + 1) = cntU ts i + (ts.getD i tq0).2.length := by
  unfold cntU; rw [take_snoc tq0 h, List.map_append, List.sum_append]; simp
theorem cntA_tab (ts : List TQ) : cntA (tabP ts) = (ts.map fun p : TQ => p.2.length).sum := by
  unfold cntA tabP; rw [List.map_map]; congr 1; apply List.map_congr_left; intro p _; simp
theorem cntU_le (ts : List TQ) (i : Nat) : cntU ts i ≤ cntA (tabP ts) := by
  rw [cntA_tab]
  conv => rhs; rw [← List.take_append_drop i ts, List.map_append, List.sum_append]
  unfold cntU; omega
theorem cntU_all (ts : List TQ) : cntU ts ts.length = cntA (tabP ts) := by
  unfold cntU; rw [List.take_length, cntA_tab]
theorem need_lo {q : LpQ} {n : Nat} (h : n < q.ths.length) : (needs q.p).getD n id0 = q.ths.getD n id0 := by
  show (q.ths ++ q.pas.map Pa.id).getD n id0 = _
  simp only [List.getD, List.getElem?_append_left h]
theorem need_hi {q : LpQ} {n : Nat} (h : q.ths.length ≤ n) (h2 : n < (needs q.p).length) : (needs q.p).getD n id0 = (q.pas.getD (n - q.ths.length) pa0).id := by
  have h3 : n - q.ths.length < q.pas.length := by
    have : (needs q.p).length = q.ths.length + q.pas.length := by simp [needs]
    omega
  show (q.ths ++ q.pas.map Pa.id).getD n id0 = _
  simp only [List.getD, List.getElem?_append_right h, List.getElem?_map, List.getElem?_eq_getElem h3]; rfl
theorem need_len (q : LpQ) : (needs q.p).length = q.ths.length + q.pas.length := by simp [needs]
theorem TabV.has {T : Tb} (h : TabV T) : Has T := ⟨h.ok.six, fun y hy n hn i hi => (h.ok.rts y hy n hn).1.2.2.1 i hi⟩
end Go.G21
namespace Go.Lw
open Go.RowKit
/-- Block g is a map that holds f, the value z where it has no entry. -/
def MapZ {κ : Type} [DecidableEq κ] (V : κ → Value) (w : World) (g : Nat) (z : Value) (f : κ → Value) : Prop :=
  ∃ (es : Array MapEntry) (c : Nat) (m : List (κ × Value)), w.heap[g]? = some (.map es c) ∧ es.toList.map (fun e => (e.key, e.val)) = m.map (fun p => (V p.1, p.2)) ∧ (∀ k, (assocGet m k).getD z = f k) ∧ (es.toList.map (·.born)).Nodup ∧ ∀ e ∈ es.toList, e.born < c
/-- The same, and the entry of the key k has the stamp st. -/
def MapE {κ : Type} [DecidableEq κ] (V : κ → Value) (w : World) (g : Nat) (z : Value) (f : κ → Value) (k : κ) (st : Nat) : Prop :=
  ∃ (es : Array MapEntry) (c : Nat) (m : List (κ × Value)) (j : Nat), w.heap[g]? = some (.map es c) ∧ es.toList.map (fun e => (e.key, e.val)) = m.map (fun p => (V p.1, p.2)) ∧ (∀ k, (assocGet m k).getD z = f k) ∧ (es.toList.map (·.born)).Nodup ∧ (∀ e ∈ es.toList, e.born < c) ∧ (m.map (·.1)).findIdx? (fun x => decide (k = x)) = some j ∧ (es.toList[j]?).map (·.born) = some st
section
variable {κ : Type} [DecidableEq κ] {V : κ → Value} {P : Program} {K : TypeId}
theorem MapZ.fr {w w' : World} {g : Nat} {z : Value} {f : κ → Value} {S : List Nat} (h : MapZ V w g z f) (hf : Fr S w w') (hn : ∀ k ∈ S, k ∉ [g]) : MapZ V w' g z f := by
  obtain ⟨es, c, m, h1, h2⟩ := h
  exact ⟨es, c, m, (hf.block g (Array.getElem?_eq_some_iff.1 h1).1 (fun h => hn g h (by simp))).trans h1, h2⟩
theorem MapZ.ext {w w' : World} {g : Nat} {z : Value} {f : κ → Value} (h : MapZ V w g z f) (hf : Fr [] w w') : MapZ V w' g z f := h.fr hf (by simp)
theorem MapZ.lt {w : World} {g : Nat} {z : Value} {f : κ → Value} (h : MapZ V w g z f) : g < w.heap.size := let ⟨_, _, _, h1, _⟩ := h; (Array.getElem?_eq_some_iff.1 h1).1
theorem MapZ.ne_blk {w : World} {g g' T : Nat} {z : Value} {f : κ → Value} {cs : List Value} (h : MapZ V w g z f) (h' : Blk w g' T cs) : g ≠ g' := by
  rintro rfl; obtain ⟨_, _, _, h1, _⟩ := h; unfold Blk at h'; rw [h'] at h1; cases h1
theorem MapE.map {w : World} {g st : Nat} {z : Value} {f : κ → Value} {k : κ} (h : MapE V w g z f k st) : MapZ V w g z f :=
  let ⟨es, c, m, _, h1, h2, h3, h4, h5, _⟩ := h; ⟨es, c, m, h1, h2, h3, h4, h5⟩
theorem findIdx_st {l : List MapEntry} (hn : (l.map (·.born)).Nodup) {j st : Nat} (h : (l[j]?).map (·.born) = some st) : l.findIdx? (fun e => ((e.born : Nat) : Int) == ((st : Nat) : Int)) = some j := by
  induction l generalizing j with
  | nil => simp at h
  | cons a r ih =>
    simp only [List.map_cons, List.nodup_cons] at hn
    cases j with
    | zero => simp at h; subst h; simp [List.findIdx?_cons]
    | succ j =>
      simp only [List.getElem?_cons_succ] at h
      obtain ⟨e0, he, hs⟩ := Option.map_eq_some_iff.1 h
      have hne : a.born ≠ st := fun e1 => hn.1 (List.mem_map.2 ⟨e0, List.mem_of_getElem? he, hs.trans e1.symm⟩)
      have hb : (((a.born : Nat) : Int) == ((st : Nat) : Int)) = false := by
        simp only [beq_eq_false_iff_ne, ne_eq, Int.natCast_inj]; exact hne
      rw [List.findIdx?_cons, hb]
      simp [ih hn.2 h]
theorem run_lookupZ {w : World} {g : Nat} {z : Value} {f : κ → Value} {t E : TypeId} (h : MapZ V w g z f) (hk : KeyLaw P K V) (hu : P.underlying t = some (.map K E)) (hz : (zeroValue E).run P w = .ok z w) (k : κ) :
    (Instr.lookup t (.map (some g)) (V k) false).run P w = .ok (f k) w := by
  obtain ⟨es, c, m, h1, h2, h3, _⟩ := h
  rw [← h3 k]
  exact run_lookup (f := assocGet m) ⟨es, c, m, h1, h2, fun _ => rfl⟩ hk hu hz k
theorem run_mapEntryZ {w : World} {g : Nat} {z : Value} {f : κ → Value} {t E : TypeId} (h : MapZ V w g z f) (hk : KeyLaw P K V) (hu : P.underlying t = some (.map K E)) (hz : ∀ w : World, (zeroValue E).run P w = .ok z w) (k : κ) :
    ∃ w' st, (Instr.mapEntry t (.map (some g)) (V k)).run P w = .ok (.tuple #[f k, .int .i64 (st : Nat)]) w' ∧ MapE V w' g z f k st ∧ Fr [g] w w' ∧ w'.heap.size = w.heap.size := by
  obtain ⟨es, c, m, h1, h2, h3, h4, h5⟩ := h
  have hlt := (Array.getElem?_eq_some_iff.1 h1).1
  have hkeys : es.toList.map (·.key) = (m.map (·.1)).map V := by
    have := congrArg (List.map Prod.fst) h2
    simpa [List.map_map, Function.comp_def] using this
  have hfi := hk.find k es.toList (m.map (·.1)) w hkeys
  have hset : ∀ o, (setObj g o).run P w = .ok () { w with heap := w.heap.setIfInBounds g o } := by intro o; simp [setObj, Sem.run, h1]
  have hfr : ∀ o, Fr [g] w { w with heap := w.heap.setIfInBounds g o } := fun o => ⟨rfl, rfl, rfl, by simp, fun i _ hn => by
    simp only
    rw [Array.getElem?_setIfInBounds_ne (by intro e; subst e; simp at hn)]⟩
  have hheap : ∀ o, ({ w with heap := w.heap.setIfInBounds g o } : World).heap[g]? = some o := by intro o; simp [hlt]
  have hlen : es.toList.length = m.length := by have := congrArg List.length h2; simpa using this
  have hval := assoc_find (V := V) m k es.toList h2
  cases hf : (m.map (·.1)).findIdx? (fun x => decide (k = x)) with
  | none =>
    rw [hf] at hfi hval
    simp only [Option.bind_none, Option.map_none] at hval
    have e0 : f k = z := by rw [← h3 k, ← hval]; rfl
    refine ⟨{ w with heap := w.heap.setIfInBounds g (.map (es.push { key := V k, val := z, born := c }) (c + 1)) }, c, ?_, ⟨_, _, m ++ [(k, z)], m.length, hheap (.map (es.push { key := V k, val := z, born := c }) (c + 1)), ?_, fun k' => ?_, ?_, ?_, ?_, ?_⟩, hfr _, by simp⟩
    · simp only [Instr.mapEntry, Sem.run_bind, run_underlying hu, Result.andThen_ok, run_getObj h1, hk.check, hfi, Option.bind_none, hz w, hset, Sem.run_pure, e0]
      rfl
    · simp [h2]
    · rw [assocGet_app m k k' z hf, ← h3 k']
      split
      · rename_i e; subst e; rw [h3, e0]; rfl
      · rfl
    · simp only [Array.toList_push, List.map_append, List.map_cons, List.map_nil]
      refine List.nodup_append.2 ⟨h4, by simp, fun a ha b hb e => ?_⟩
      simp only [List.mem_singleton] at hb
      obtain ⟨x, hx, rfl⟩ := List.mem_map.1 ha
      have := h5 x hx; omega
    · intro e he
      simp only [Array.toList_push, List.mem_append, List.mem_singleton] at he
      rcases he with he | rfl
      · have := h5 e he; omega
      · simp
    · rw [List.map_append, List.findIdx?_append, hf]; simp
    · simp only [Array.toList_push]
      rw [← hlen, List.getElem?_append_right (Nat.le_refl _)]; simp
  | some i =>
    have hi : i < m.length := by
      have := List.findIdx?_eq_some_iff_findIdx_eq.1 hf
      simpa using this.1
    have hi' : i < es.toList.length := by omega
    have hki : V k = (es.toList[i]).key := by
      have hmem := List.findIdx?_eq_some_iff_getElem.1 hf
      obtain ⟨hlt', hp, _⟩ := hmem
      have hp' : k = (m.map (·.1))[i] := by simpa using hp
      have e1 : (es.toList.map (·.key))[i]? = ((m.map (·.1)).map V)[i]? := by rw [hkeys]
      simp only [List.getElem?_map, List.getElem?_eq_getElem hi', List.getElem?_eq_getElem hi, Option.map_some, Option.some.injEq] at e1
      rw [e1, hp']; simp
    have hes : es[i]? = some es.toList[i] := by rw [← Array.getElem?_toList, List.getElem?_eq_getElem hi']
    have hstay : (Instr.keyThatStays (((es[i]?).map (·.key)).getD (V k)) (V k)).run P w = .ok (V k) w := by
      rw [hes]
      simp only [Option.map_some, Option.getD_some, ← hki, Instr.keyThatStays, hk.bits, if_true, Sem.run_pure]
    have hsame : es.modify i (fun e => { e with key := V k }) = es := by
      apply Array.ext'
      rw [Array.toList_modify]
      apply List.ext_getElem?
      intro j
      rw [List.getElem?_modify]
      by_cases hj : i = j
      · subst hj
        rw [List.getElem?_eq_getElem hi']
        simp only [Option.map_eq_map, Option.map_some, if_pos, Option.some.injEq]
        rw [hki]
      · simp [hj]
    rw [hf] at hfi hval
    simp only [Option.bind_some, List.getElem?_eq_getElem hi', Option.map_some] at hfi hval
    have e0 : f k = es.toList[i].val := by rw [← h3 k, ← hval]; rfl
    refine ⟨{ w with heap := w.heap.setIfInBounds g (.map es c) }, es.toList[i].born, ?_, ⟨es, c, m, i, hheap _, h2, h3, h4, h5, hf, ?_⟩, hfr _, by simp⟩
    · simp only [Instr.mapEntry, Sem.run_bind, run_underlying hu, Result.andThen_ok, run_getObj h1, hk.check, hfi, hstay, hset, hsame, Sem.run_pure, e0]
      rw [hes]; rfl
    · rw [List.getElem?_eq_getElem hi']; rfl
theorem run_entryStoreZ {w : World} {g st : Nat} {z v : Value} {f : κ → Value} {t : TypeId} {k : κ} (h : MapE V w g z f k st) :
    ∃ w', (Instr.entryStore t (.map (some g)) (.int .i64 (st : Nat)) v).run P w = .ok () w' ∧ MapZ V w' g z (fun k' => if k' = k then v else f k') ∧ Fr [g] w w' ∧ w'.heap.size = w.heap.size := by
  obtain ⟨es, c, m, j, h1, h2, h3, h4, h5, h6, h7⟩ := h
  have hlt := (Array.getElem?_eq_some_iff.1 h1).1
  have hset : ∀ o, (setObj g o).run P w = .ok () { w with heap := w.heap.setIfInBounds g o } := by intro o; simp [setObj, Sem.run, h1]
  have hfr : ∀ o, Fr [g] w { w with heap := w.heap.setIfInBounds g o } := fun o => ⟨rfl, rfl, rfl, by simp, fun i _ hn => by
    simp only
    rw [Array.getElem?_setIfInBounds_ne (by intro e; subst e; simp at hn)]⟩
  have hheap : ∀ o, ({ w with heap := w.heap.setIfInBounds g o } : World).heap[g]? = some o := by intro o; simp [hlt]
  have hidx : es.findIdx? (fun e => ((e.born : Nat) : Int) == ((st : Nat) : Int)) = some j := by
    have e : es.findIdx? (fun e => ((e.born : Nat) : Int) == ((st : Nat) : Int)) = es.toList.findIdx? (fun e => ((e.born : Nat) : Int) == ((st : Nat) : Int)) := by cases es; simp
    rw [e]; exact findIdx_st h4 h7
  have hi : j < m.length := by
    have := List.findIdx?_eq_some_iff_findIdx_eq.1 h6
    simpa using this.1
  refine ⟨{ w with heap := w.heap.setIfInBounds g (.map (es.modify j fun e => { e with val := v }) c) }, ?_, ⟨_, c, m.modify j fun p => (p.1, v), hheap _, ?_, fun k' => ?_, ?_, ?_⟩, hfr _, by simp⟩
  · simp only [Instr.entryStore, Sem.run_bind, Result.andThen_ok, run_getObj h1, asInt, asIntOf, Sem.run_pure, hidx, hset]
  · rw [Array.toList_modify]
    apply List.ext_getElem?
    intro i
    have e2 := congrArg (·[i]?) h2
    simp only [List.getElem?_map] at e2 ⊢
    rw [List.getElem?_modify, List.getElem?_modify]
    by_cases hj : j = i
    · subst hj
      simp only [Option.map_eq_map, if_pos]
      cases he : es.toList[j]? with
      | none => rw [he] at e2; cases hm : m[j]? with
        | none => rfl
        | some p => rw [hm] at e2; cases e2
      | some e => rw [he] at e2; cases hm : m[j]? with
        | none => rw [hm] at e2; cases e2
        | some p =>
          rw [hm] at e2
          simp only [Option.map_some, Option.some.injEq, Prod.mk.injEq] at e2 ⊢
          first | exact ⟨e2.1, rfl⟩ | exact ⟨e2.1, trivial⟩ | simp [e2.1]
    · simp only [Option.map_eq_map, if_neg hj]; simpa using e2
  · rw [assocGet_mod k k' v m j h6]
    show _ = if k' = k then v else f k'
    split
    · rfl
    · exact h3 k'
  · rw [Array.toList_modify]
    have e : (es.toList.modify j fun e => { e with val := v }).map (·.born) = es.toList.map (·.born) := by
      apply List.ext_getElem?
      intro i
      rw [List.getElem?_map, List.getElem?_map, List.getElem?_modify]
      split
      · cases es.toList[i]? <;> rfl
      · simp
    rw [e]; exact h4
  · intro e he
    rw [Array.toList_modify] at he
    obtain ⟨i, hi2, rfl⟩ := List.getElem_of_mem he
    rw [List.length_modify] at hi2
    rw [List.getElem_modify]
    have := h5 _ (List.getElem_mem hi2)
    split <;> exact this
variable {a : Act} {n : Nat} {L : List (Nat × Value)} {ds : List Nat} {w w' : World} {Q : Exit → Act → World → Prop} {ops : Array Oper} {rest : List Oper}
variable {d : Nat} {ty : TypeId} {pos : String} {after : Array Edge} {x y z' : Operand} {t E : TypeId} {g st : Nat} {f : κ → Value} {k : κ} {v z : Value}
theorem st_makeMapZ (V : κ → Value) (z : Value) (h : AgM ds a n L) (hn : Nat.blt d n = true)
    (q : ∀ g w', g = w.heap.size → MapZ V w' g z (fun _ => z) → Fr [] w w' → w'.heap.size = g + 1 → ∀ a, AgM ds a n ((d, .map (some g)) :: L) → wpList P ops Q rest a w') : wpList P ops Q (⟨some d, .makeMap t none, ty, pos, after, none⟩ :: rest) a w :=
  st_ok h rfl rfl hn (w' := w.alloc (.map #[] 0)) (by simp [execOp, Instr.makeMap]) (q _ _ rfl ⟨_, _, [], heap_alloc_new w _, by simp, fun _ => rfl, by simp, by simp⟩ (Fr.alloc [] w _) (by simp))
theorem s_makeMapZ (V : κ → Value) (z : Value) (hn : Nat.blt d n = true) (q : ∀ g w', g = w.heap.size → MapZ V w' g z (fun _ => z) → Fr [] w w' → w'.heap.size = g + 1 → WL P ops Q rest n ds w' ((d, .map (some g)) :: L)) : WL P ops Q (⟨some d, .makeMap t none, ty, pos, after, none⟩ :: rest) n ds w L := fun a h => st_makeMapZ V z h hn q
theorem st_lookupZ (h : AgM ds a n L) (hx : ev L x = some (.map (some g))) (hy : ev L y = some (V k)) (hm : MapZ V w g z f) (hk : KeyLaw P K V) (hu : P.underlying t = some (.map K E)) (hz : ∀ w : World, (zeroValue E).run P w = .ok z w) (hv : f k = v) (hn : Nat.blt d n = true)
    (q : ∀ a, AgM ds a n ((d, v) :: L) → wpList P ops Q rest a w) : wpList P ops Q (⟨some d, .lookup t x y false, ty, pos, after, none⟩ :: rest) a w :=
  st_ok h rfl rfl hn (by rw [← hv]; simp [execOp, h.eval hx, h.eval hy, run_lookupZ hm hk hu (hz w) k]) q
theorem s_lookupZ (hx : ev L x = some (.map (some g))) (hy : ev L y = some (V k)) (hm : MapZ V w g z f) (hk : KeyLaw P K V) (hu : P.underlying t = some (.map K E)) (hz : ∀ w : World, (zeroValue E).run P w = .ok z w) (hv : f k = v) (hn : Nat.blt d n = true)
    (q : WL P ops Q rest n ds w ((d, v) :: L)) : WL P ops Q (⟨some d, .lookup t x y false, ty, pos, after, none⟩ :: rest) n ds w L := fun a h => st_lookupZ h hx hy hm hk hu hz hv hn q
theorem st_mapEntryZ (h : AgM ds a n L) (hx : ev L x = some (.map (some g))) (hy : ev L y = some (V k)) (hm : MapZ V w g z f) (hk : KeyLaw P K V) (hu : P.underlying t = some (.map K E)) (hz : ∀ w : World, (zeroValue E).run P w = .ok z w) (hn : Nat.blt d n = true)
    (q : ∀ w' st, MapE V w' g z f k st → Fr [g] w w' → w'.heap.size = w.heap.size → ∀ a, AgM ds a n ((d, .tuple #[f k, .int .i64 (st : Nat)]) :: L) → wpList P ops Q rest a w') : wpList P ops Q (⟨some d, .mapEntry t x y, ty, pos, after, none⟩ :: rest) a w := by
  obtain ⟨w', st, hr, h1, h2, h3⟩ := run_mapEntryZ hm hk hu hz k
  exact st_ok h rfl rfl hn (w' := w') (by simp [execOp, h.eval hx, h.eval hy, hr]) (q w' st h1 h2 h3)
theorem st_entryStoreZ {s : Operand} (h : AgM ds a n L) (hx : ev L x = some (.map (some g))) (hs : ev L s = some (.int .i64 (st : Nat))) (hy : ev L y = some v) (hm : MapE V w g z f k st)
    (q : ∀ w', MapZ V w' g z (fun k' => if k' = k then v else f k') → Fr [g] w w' → w'.heap.size = w.heap.size → ∀ a, AgM ds a n L → wpList P ops Q rest a w') : wpList P ops Q (⟨none, .entryStore t x s y, ty, pos, after, none⟩ :: rest) a w := by
  obtain ⟨w', hr, h1, h2, h3⟩ := run_entryStoreZ (P := P) (t := t) (v := v) hm
  exact st_skip h rfl rfl (w' := w') (by simp [execOp, h.eval hx, h.eval hs, h.eval hy, hr]) (q w' h1 h2 h3)
end
end Go.Lw
namespace Go.Lw
open Go.RowKit
theorem cells_part {w : World} {ad : Addr} {cs vs : List Value} {off : Nat} (h : Cells w ad cs) (hv : (cs.drop off).take vs.length = vs) : Cells w (ad.add off) vs := fun j u hu => by
  rw [← hv] at hu
  rw [List.getElem?_take] at hu
  split at hu
  · rw [List.getElem?_drop] at hu
    rw [add_add]; exact h _ u hu
  · cases hu
section
variable {P : Program} {a : Act} {n : Nat} {L : List (Nat × Value)} {ds : List Nat} {w : World} {Q : Exit → Act → World → Prop} {ops : Array Oper} {rest : List Oper} {d g p : Nat} {ty t : TypeId} {pos : String} {after : Array Edge} {x : Operand} {l : List UInt8}
end
end Go.Lw
namespace Go.Lw
open Go.RowKit
section
variable {P : Program} {a : Act} {n : Nat} {L : List (Nat × Value)} {ds : List Nat} {w : World} {Q : Exit → Act → World → Prop} {ops : Array Oper} {rest : List Oper} {d : Nat} {ty t T : TypeId} {pos : String} {after : Array Edge} {x : Operand}
end
section
variable {P : Program} {a : Act} {n : Nat} {L : List (Nat × Value)} {ds : List Nat} {w : World} {Q : Exit → Act → World → Prop} {ops : Array Oper} {rest : List Oper} {d : Nat} {ty t T : TypeId} {pos : String} {after : Array Edge} {x y : Operand} {k : IntKind} {i : Int}
end
end Go.Lw
namespace Go.Proofs.YtkionldalpijpaaGreatDoor
open Go.Lw Go.G21

theorem lhas_ok (i : LId) (v : Value) (ts : List TQ) (w0 : World) (hs : Sl encTq w0 v ts) (hk : TabAt w0 ts) (hl : ts.length ≤ 200) (hi : 0 ≤ i.y ∧ i.y ≤ 255) : Rets Tryz.prog 86 #[v, .agg #[.int .u8 i.y, .int .i64 i.n]] w0 fun r w' => r = .bool (decide (hasP (tabP ts) i)) ∧ Fr [] w0 w' := by
 obtain ⟨A, c, rfl, hcc, hM, hA⟩ := id hs
 clear hA
 unfold maxLen at hM
 have hrl := tab_len hk
 have hr1 := hrl (i.y - 1).toNat
 refine we [(0, .slice A ts.length c), (1, .agg #[.int .u8 i.y, .int .i64 i.n])] Tryz.func86 rfl Tryz.ntmps86 rfl (.cons rfl (.cons rfl .nil)) ?_
 have hs0 := hs
 have hk0 := hk
 refine sr (bx rfl rfl rfl (fun g3 w1 hg3 hb3 q1 z1 => ?_))
 refine asg rfl rfl (nn (sq ?_))
 replace hs := hs0.ext q1
 replace hk := hk0.ext q1
 intro a h
 refine region_quiet hmix (by kernel_rfl) ?_
 refine qt_fieldAddr h rfl fa39_0 rfl ?_; clear h a; intro a h
 refine qt_loadB h rfl (fun _ hw => hb3.ext hw) rfl na5 rfl ?_; clear h a; intro a h
 refine qt_ge h rfl rfl rfl ?_; clear h a; intro a h
 refine qt_move h rfl rfl ?_; clear h a; intro a h
 first | refine guard_dec (D := 8) h rfl ?_ ?_ | refine guard_ndec (D := 8) h rfl ?_ ?_ | refine guard_any (D := 8) h rfl ?_ ?_
 · clear h; intro g0 h
   refine qd_yes h rfl rfl rfl rfl rfl rfl ?_
   refine qt_fieldAddr h rfl fa39_0 rfl ?_; clear h a; intro a h
   refine qd_yes h rfl rfl rfl rfl rfl rfl ?_
   refine qt_loadB h rfl (fun _ hw => hb3.ext hw) rfl na5 rfl ?_; clear h a; intro a h
   refine qd_yes h rfl rfl rfl rfl rfl rfl ?_
   refine qt_conv h rfl (by rw [Tryz.underlying5]; rfl) Tryz.underlying3 (by first | exact IntWalk.i64_in _ (by omega) | rfl) rfl ?_; clear h a; intro a h
   refine qd_yes h rfl rfl rfl rfl rfl rfl ?_
   refine qt_move h rfl rfl ?_; clear h a; intro a h
   refine qd_yes h rfl rfl rfl rfl rfl rfl ?_
   refine qt_lenS h rfl Tryz.underlying29 rfl ?_; clear h a; intro a h
   refine qd_yes h rfl rfl rfl rfl rfl rfl ?_
   refine qt_le h rfl rfl rfl ?_; clear h a; intro a h
   refine qt_pick_t h rfl rfl rfl rfl ?_; clear h a; intro a h
   refine qt_move h rfl rfl ?_; clear h a; intro a h
   first | refine guard_dec (D := 16) h rfl ?_ ?_ | refine guard_ndec (D := 16) h rfl ?_ ?_ | refine guard_any (D := 16) h rfl ?_ ?_
   · clear h; intro g1 h
     refine qd_yes h rfl rfl rfl rfl rfl rfl ?_
     refine qt_fieldAddr h rfl fa39_1 rfl ?_; clear h a; intro a h
     refine qd_yes h rfl rfl rfl rfl rfl rfl ?_
     refine qt_loadB h rfl (fun _ hw => hb3.ext hw) rfl na3 rfl ?_; clear h a; intro a h
     refine qd_yes h rfl rfl rfl rfl rfl rfl ?_
     refine qt_ge h rfl rfl rfl ?_; clear h a; intro a h
     refine qt_pick_t h rfl rfl rfl rfl ?_; clear h a; intro a h
     refine qt_move h rfl rfl ?_; clear h a; intro a h
     first | refine guard_dec (D := 21) h rfl ?_ ?_ | refine guard_ndec (D := 21) h rfl ?_ ?_ | refine guard_any (D := 21) h rfl ?_ ?_
     · clear h; intro g2 h
       refine qd_yes h rfl rfl rfl rfl rfl rfl ?_
       refine qt_fieldAddr h rfl fa39_1 rfl ?_; clear h a; intro a h
       refine qd_yes h rfl rfl rfl rfl rfl rfl ?_
       refine qt_loadB h rfl (fun _ hw => hb3.ext hw) rfl na3 rfl ?_; clear h a; intro a h
       refine qd_yes h rfl rfl rfl rfl rfl rfl ?_
       refine qt_move h rfl rfl ?_; clear h a; intro a h
       refine qd_yes h rfl rfl rfl rfl rfl rfl ?_
       refine qt_fieldAddr h rfl fa39_0 rfl ?_; clear h a; intro a h
       refine qd_yes h rfl rfl rfl rfl rfl rfl ?_
       refine qt_loadB h rfl (fun _ hw => hb3.ext hw) rfl na5 rfl ?_; clear h a; intro a h
       refine qd_yes h rfl rfl rfl rfl rfl rfl ?_
       refine qt_sub h rfl rfl (by first | exact IntWalk.u8_in _ (by omega) | rfl) rfl ?_; clear h a; intro a h
       refine qd_yes h rfl rfl rfl rfl rfl rfl ?_
       refine qt_idxL (tq0) h rfl hs rfl el29 (by omega) (by omega) rfl rfl ?_; clear h a; intro ad28 hc28 a h
       refine qd_yes h rfl rfl rfl rfl rfl rfl ?_
       refine qt_loadC0 h rfl (fun _ hw => hc28 _ (hs.ext hw)) na40 rfl ?_; clear h a; intro a h
       refine qd_yes h rfl rfl rfl rfl rfl rfl ?_
       refine qt_lenS h rfl Tryz.underlying40 rfl ?_; clear h a; intro a h
       refine qd_yes h rfl rfl rfl rfl rfl rfl ?_
       refine qt_lt h rfl rfl rfl ?_; clear h a; intro a h
       refine qt_pick_t h rfl rfl rfl rfl ?_; clear h a; intro a h
       refine qt_assign h rfl rfl ?_; clear h a; intro a h
       refine wpQuiet_nil ?_
       intro w2 q2
       have z2 := q2.size
       refine bk (h.sub (L' := [(4, _)]) (.cons rfl .nil)) ?_; clear h a
       refine tn (rt (r1 Tryz.results86 rfl ?_))
       exact ⟨_, rfl, by first | exact congrArg Value.bool (decide_eq_decide.2 (by rw [hasP_tab]; omega)) | exact congrArg Value.bool (decide_eq_false (by rw [hasP_tab]; omega)).symm | exact congrArg Value.bool (decide_eq_true (by rw [hasP_tab]; omega)).symm, (q1.next q2)⟩
     · clear h; intro g2 h
       refine qd_no h rfl rfl rfl rfl rfl rfl rfl rfl ?_; clear h a; intro a h
       refine qd_no h rfl rfl rfl rfl rfl rfl rfl rfl ?_; clear h a; intro a h
       refine qd_no h rfl rfl rfl rfl rfl rfl rfl rfl ?_; clear h a; intro a h
       refine qd_no h rfl rfl rfl rfl rfl rfl rfl rfl ?_; clear h a; intro a h
       refine qd_no h rfl rfl rfl rfl rfl rfl rfl rfl ?_; clear h a; intro a h
       refine qd_no h rfl rfl rfl rfl rfl rfl rfl rfl ?_; clear h a; intro a h
       refine qd_no h rfl rfl rfl rfl rfl rfl rfl rfl ?_; clear h a; intro a h
       refine qd_no h rfl rfl rfl rfl rfl rfl rfl rfl ?_; clear h a; intro a h
       refine qd_no h rfl rfl rfl rfl rfl rfl rfl rfl ?_; clear h a; intro a h
       refine qd_no h rfl rfl rfl rfl rfl rfl rfl rfl ?_; clear h a; intro a h
       refine qt_pick_f h rfl rfl rfl rfl ?_; clear h a; intro a h
       refine qt_assign h rfl rfl ?_; clear h a; intro a h
       refine wpQuiet_nil ?_
       intro w3 q3
       have z3 := q3.size
       refine bk (h.sub (L' := [(4, _)]) (.cons rfl .nil)) ?_; clear h a
       refine tn (rt (r1 Tryz.results86 rfl ?_))
       exact ⟨_, rfl, by first | exact congrArg Value.bool (decide_eq_decide.2 (by rw [hasP_tab]; omega)) | exact congrArg Value.bool (decide_eq_false (by rw [hasP_tab]; omega)).symm | exact congrArg Value.bool (decide_eq_true (by rw [hasP_tab]; omega)).symm, (q1.next q3)⟩
   · clear h; intro g1 h
     refine qd_no h rfl rfl rfl rfl rfl rfl rfl rfl ?_; clear h a; intro a h
     refine qd_no h rfl rfl rfl rfl rfl rfl rfl rfl ?_; clear h a; intro a h
     refine qd_no h rfl rfl rfl rfl rfl rfl rfl rfl ?_; clear h a; intro a h
     refine qt_pick_f h rfl rfl rfl rfl ?_; clear h a; intro a h
     refine qt_move h rfl rfl ?_; clear h a; intro a h
     refine qd_no h rfl rfl rfl rfl rfl rfl rfl rfl ?_; clear h a; intro a h
     refine qd_no h rfl rfl rfl rfl rfl rfl rfl rfl ?_; clear h a; intro a h
     refine qd_no h rfl rfl rfl rfl rfl rfl rfl rfl ?_; clear h a; intro a h
     refine qd_no h rfl rfl rfl rfl rfl rfl rfl rfl ?_; clear h a; intro a h
     refine qd_no h rfl rfl rfl rfl rfl rfl rfl rfl ?_; clear h a; intro a h
     refine qd_no h rfl rfl rfl rfl rfl rfl rfl rfl ?_; clear h a; intro a h
     refine qd_no h rfl rfl rfl rfl rfl rfl rfl rfl ?_; clear h a; intro a h
     refine qd_no h rfl rfl rfl rfl rfl rfl rfl rfl ?_; clear h a; intro a h
     refine qd_no h rfl rfl rfl rfl rfl rfl rfl rfl ?_; clear h a; intro a h
     refine qd_no h rfl rfl rfl rfl rfl rfl rfl rfl ?_; clear h a; intro a h
     refine qt_pick_f h rfl rfl rfl rfl ?_; clear h a; intro a h
     refine qt_assign h rfl rfl ?_; clear h a; intro a h
     refine wpQuiet_nil ?_
     intro w4 q4
     have z4 := q4.size
     refine bk (h.sub (L' := [(4, _)]) (.cons rfl .nil)) ?_; clear h a
     refine tn (rt (r1 Tryz.results86 rfl ?_))
     exact ⟨_, rfl, by first | exact congrArg Value.bool (decide_eq_decide.2 (by rw [hasP_tab]; omega)) | exact congrArg Value.bool (decide_eq_false (by rw [hasP_tab]; omega)).symm | exact congrArg Value.bool (decide_eq_true (by rw [hasP_tab]; omega)).symm, (q1.next q4)⟩
 · clear h; intro g0 h
   refine qd_no h rfl rfl rfl rfl rfl rfl rfl rfl ?_; clear h a; intro a h
   refine qd_no h rfl rfl rfl rfl rfl rfl rfl rfl ?_; clear h a; intro a h
   refine qd_no h rfl rfl rfl rfl rfl rfl rfl rfl ?_; clear h a; intro a h
   refine qd_no h rfl rfl rfl rfl rfl rfl rfl rfl ?_; clear h a; intro a h
   refine qd_no h rfl rfl rfl rfl rfl rfl rfl rfl ?_; clear h a; intro a h
   refine qd_no h rfl rfl rfl rfl rfl rfl rfl rfl ?_; clear h a; intro a h
   refine qt_pick_f h rfl rfl rfl rfl ?_; clear h a; intro a h
   refine qt_move h rfl rfl ?_; clear h a; intro a h
   refine qd_no h rfl rfl rfl rfl rfl rfl rfl rfl ?_; clear h a; intro a h
   refine qd_no h rfl rfl rfl rfl rfl rfl rfl rfl ?_; clear h a; intro a h
   refine qd_no h rfl rfl rfl rfl rfl rfl rfl rfl ?_; clear h a; intro a h
   refine qt_pick_f h rfl rfl rfl rfl ?_; clear h a; intro a h
   refine qt_move h rfl rfl ?_; clear h a; intro a h
   refine qd_no h rfl rfl rfl rfl rfl rfl rfl rfl ?_; clear h a; intro a h
   refine qd_no h rfl rfl rfl rfl rfl rfl rfl rfl ?_; clear h a; intro a h
   refine qd_no h rfl rfl rfl rfl rfl rfl rfl rfl ?_; clear h a; intro a h
   refine qd_no h rfl rfl rfl rfl rfl rfl rfl rfl ?_; clear h a; intro a h
   refine qd_no h rfl rfl rfl rfl rfl rfl rfl rfl ?_; clear h a; intro a h
   refine qd_no h rfl rfl rfl rfl rfl rfl rfl rfl ?_; clear h a; intro a h
   refine qd_no h rfl rfl rfl rfl rfl rfl rfl rfl ?_; clear h a; intro a h
   refine qd_no h rfl rfl rfl rfl rfl rfl rfl rfl ?_; clear h a; intro a h
   refine qd_no h rfl rfl rfl rfl rfl rfl rfl rfl ?_; clear h a; intro a h
   refine qd_no h rfl rfl rfl rfl rfl rfl rfl rfl ?_; clear h a; intro a h
   refine qt_pick_f h rfl rfl rfl rfl ?_; clear h a; intro a h
   refine qt_assign h rfl rfl ?_; clear h a; intro a h
   refine wpQuiet_nil ?_
   intro w5 q5
   have z5 := q5.size
   refine bk (h.sub (L' := [(4, _)]) (.cons rfl .nil)) ?_; clear h a
   refine tn (rt (r1 Tryz.results86 rfl ?_))
   exact ⟨_, rfl, by first | exact congrArg Value.bool (decide_eq_decide.2 (by rw [hasP_tab]; omega)) | exact congrArg Value.bool (decide_eq_false (by rw [hasP_tab]; omega)).symm | exact congrArg Value.bool (decide_eq_true (by rw [hasP_tab]; omega)).symm, (q1.next q5)⟩
theorem fhas_ok (i : LId) (v : Value) (ts : List TQ) (w0 : World) (hs : Sl encTq w0 v ts) (hk : TabAt w0 ts) (hl : ts.length ≤ 200) (hi : 0 ≤ i.y ∧ i.y ≤ 255) : Rets Tryz.prog 34 #[v, .agg #[.int .u8 i.y, .int .i64 i.n]] w0 fun r w' => r = .bool (decide (hasP (tabP ts) i)) ∧ Fr [] w0 w' := by
 obtain ⟨A, c, rfl, hcc, hM, hA⟩ := id hs
 clear hA
 unfold maxLen at hM
 have hrl := tab_len hk
 have hr1 := hrl (i.y - 1).toNat
 refine we [(0, .slice A ts.length c), (1, .agg #[.int .u8 i.y, .int .i64 i.n])] Tryz.func34 rfl Tryz.ntmps34 rfl (.cons rfl (.cons rfl .nil)) ?_
 have hs0 := hs
 have hk0 := hk
 refine sr (bx rfl rfl rfl (fun g3 w1 hg3 hb3 q1 z1 => ?_))
 refine asg rfl rfl (nn (sq ?_))
 replace hs := hs0.ext q1
 replace hk := hk0.ext q1
 intro a h
 refine region_quiet hmix (by kernel_rfl) ?_
 refine qt_fieldAddr h rfl fa39_0 rfl ?_; clear h a; intro a h
 refine qt_loadB h rfl (fun _ hw => hb3.ext hw) rfl na5 rfl ?_; clear h a; intro a h
 refine qt_ge h rfl rfl rfl ?_; clear h a; intro a h
 refine qt_move h rfl rfl ?_; clear h a; intro a h
 first | refine guard_dec (D := 8) h rfl ?_ ?_ | refine guard_ndec (D := 8) h rfl ?_ ?_ | refine guard_any (D := 8) h rfl ?_ ?_
 · clear h; intro g0 h
   refine qd_yes h rfl rfl rfl rfl rfl rfl ?_
   refine qt_fieldAddr h rfl fa39_0 rfl ?_; clear h a; intro a h
   refine qd_yes h rfl rfl rfl rfl rfl rfl ?_
   refine qt_loadB h rfl (fun _ hw => hb3.ext hw) rfl na5 rfl ?_; clear h a; intro a h
   refine qd_yes h rfl rfl rfl rfl rfl rfl ?_
   refine qt_conv h rfl (by rw [Tryz.underlying5]; rfl) Tryz.underlying3 (by first | exact IntWalk.i64_in _ (by omega) | rfl) rfl ?_; clear h a; intro a h
   refine qd_yes h rfl rfl rfl rfl rfl rfl ?_
   refine qt_move h rfl rfl ?_; clear h a; intro a h
   refine qd_yes h rfl rfl rfl rfl rfl rfl ?_
   refine qt_lenS h rfl Tryz.underlying29 rfl ?_; clear h a; intro a h
   refine qd_yes h rfl rfl rfl rfl rfl rfl ?_
   refine qt_le h rfl rfl rfl ?_; clear h a; intro a h
   refine qt_pick_t h rfl rfl rfl rfl ?_; clear h a; intro a h
   refine qt_move h rfl rfl ?_; clear h a; intro a h
   first | refine guard_dec (D := 16) h rfl ?_ ?_ | refine guard_ndec (D := 16) h rfl ?_ ?_ | refine guard_any (D := 16) h rfl ?_ ?_
   · clear h; intro g1 h
     refine qd_yes h rfl rfl rfl rfl rfl rfl ?_
     refine qt_fieldAddr h rfl fa39_1 rfl ?_; clear h a; intro a h
     refine qd_yes h rfl rfl rfl rfl rfl rfl ?_
     refine qt_loadB h rfl (fun _ hw => hb3.ext hw) rfl na3 rfl ?_; clear h a; intro a h
     refine qd_yes h rfl rfl rfl rfl rfl rfl ?_
     refine qt_ge h rfl rfl rfl ?_; clear h a; intro a h
     refine qt_pick_t h rfl rfl rfl rfl ?_; clear h a; intro a h
     refine qt_move h rfl rfl ?_; clear h a; intro a h
     first | refine guard_dec (D := 21) h rfl ?_ ?_ | refine guard_ndec (D := 21) h rfl ?_ ?_ | refine guard_any (D := 21) h rfl ?_ ?_
     · clear h; intro g2 h
       refine qd_yes h rfl rfl rfl rfl rfl rfl ?_
       refine qt_fieldAddr h rfl fa39_1 rfl ?_; clear h a; intro a h
       refine qd_yes h rfl rfl rfl rfl rfl rfl ?_
       refine qt_loadB h rfl (fun _ hw => hb3.ext hw) rfl na3 rfl ?_; clear h a; intro a h
       refine qd_yes h rfl rfl rfl rfl rfl rfl ?_
       refine qt_move h rfl rfl ?_; clear h a; intro a h
       refine qd_yes h rfl rfl rfl rfl rfl rfl ?_
       refine qt_fieldAddr h rfl fa39_0 rfl ?_; clear h a; intro a h
       refine qd_yes h rfl rfl rfl rfl rfl rfl ?_
       refine qt_loadB h rfl (fun _ hw => hb3.ext hw) rfl na5 rfl ?_; clear h a; intro a h
       refine qd_yes h rfl rfl rfl rfl rfl rfl ?_
       refine qt_sub h rfl rfl (by first | exact IntWalk.u8_in _ (by omega) | rfl) rfl ?_; clear h a; intro a h
       refine qd_yes h rfl rfl rfl rfl rfl rfl ?_
       refine qt_idxL (tq0) h rfl hs rfl el29 (by omega) (by omega) rfl rfl ?_; clear h a; intro ad28 hc28 a h
       refine qd_yes h rfl rfl rfl rfl rfl rfl ?_
       refine qt_loadC0 h rfl (fun _ hw => hc28 _ (hs.ext hw)) na40 rfl ?_; clear h a; intro a h
       refine qd_yes h rfl rfl rfl rfl rfl rfl ?_
       refine qt_lenS h rfl Tryz.underlying40 rfl ?_; clear h a; intro a h
       refine qd_yes h rfl rfl rfl rfl rfl rfl ?_
       refine qt_lt h rfl rfl rfl ?_; clear h a; intro a h
       refine qt_pick_t h rfl rfl rfl rfl ?_; clear h a; intro a h
       refine qt_assign h rfl rfl ?_; clear h a; intro a h
       refine wpQuiet_nil ?_
       intro w2 q2
       have z2 := q2.size
       refine bk (h.sub (L' := [(4, _)]) (.cons rfl .nil)) ?_; clear h a
       refine tn (rt (r1 Tryz.results34 rfl ?_))
       exact ⟨_, rfl, by first | exact congrArg Value.bool (decide_eq_decide.2 (by rw [hasP_tab]; omega)) | exact congrArg Value.bool (decide_eq_false (by rw [hasP_tab]; omega)).symm | exact congrArg Value.bool (decide_eq_true (by rw [hasP_tab]; omega)).symm, (q1.next q2)⟩
     · clear h; intro g2 h
       refine qd_no h rfl rfl rfl rfl rfl rfl rfl rfl ?_; clear h a; intro a h
       refine qd_no h rfl rfl rfl rfl rfl rfl rfl rfl ?_; clear h a; intro a h
       refine qd_no h rfl rfl rfl rfl rfl rfl rfl rfl ?_; clear h a; intro a h
       refine qd_no h rfl rfl rfl rfl rfl rfl rfl rfl ?_; clear h a; intro a h
       refine qd_no h rfl rfl rfl rfl rfl rfl rfl rfl ?_; clear h a; intro a h
       refine qd_no h rfl rfl rfl rfl rfl rfl rfl rfl ?_; clear h a; intro a h
       refine qd_no h rfl rfl rfl rfl rfl rfl rfl rfl ?_; clear h a; intro a h
       refine qd_no h rfl rfl rfl rfl rfl rfl rfl rfl ?_; clear h a; intro a h
       refine qd_no h rfl rfl rfl rfl rfl rfl rfl rfl ?_; clear h a; intro a h
       refine qd_no h rfl rfl rfl rfl rfl rfl rfl rfl ?_; clear h a; intro a h
       refine qt_pick_f h rfl rfl rfl rfl ?_; clear h a; intro a h
       refine qt_assign h rfl rfl ?_; clear h a; intro a h
       refine wpQuiet_nil ?_
       intro w3 q3
       have z3 := q3.size
       refine bk (h.sub (L' := [(4, _)]) (.cons rfl .nil)) ?_; clear h a
       refine tn (rt (r1 Tryz.results34 rfl ?_))
       exact ⟨_, rfl, by first | exact congrArg Value.bool (decide_eq_decide.2 (by rw [hasP_tab]; omega)) | exact congrArg Value.bool (decide_eq_false (by rw [hasP_tab]; omega)).symm | exact congrArg Value.bool (decide_eq_true (by rw [hasP_tab]; omega)).symm, (q1.next q3)⟩
   · clear h; intro g1 h
     refine qd_no h rfl rfl rfl rfl rfl rfl rfl rfl ?_; clear h a; intro a h
     refine qd_no h rfl rfl rfl rfl rfl rfl rfl rfl ?_; clear h a; intro a h
     refine qd_no h rfl rfl rfl rfl rfl rfl rfl rfl ?_; clear h a; intro a h
     refine qt_pick_f h rfl rfl rfl rfl ?_; clear h a; intro a h
     refine qt_move h rfl rfl ?_; clear h a; intro a h
     refine qd_no h rfl rfl rfl rfl rfl rfl rfl rfl ?_; clear h a; intro a h
     refine qd_no h rfl rfl rfl rfl rfl rfl rfl rfl ?_; clear h a; intro a h
     refine qd_no h rfl rfl rfl rfl rfl rfl rfl rfl ?_; clear h a; intro a h
     refine qd_no h rfl rfl rfl rfl rfl rfl rfl rfl ?_; clear h a; intro a h
     refine qd_no h rfl rfl rfl rfl rfl rfl rfl rfl ?_; clear h a; intro a h
     refine qd_no h rfl rfl rfl rfl rfl rfl rfl rfl ?_; clear h a; intro a h
     refine qd_no h rfl rfl rfl rfl rfl rfl rfl rfl ?_; clear h a; intro a h
     refine qd_no h rfl rfl rfl rfl rfl rfl rfl rfl ?_; clear h a; intro a h
     refine qd_no h rfl rfl rfl rfl rfl rfl rfl rfl ?_; clear h a; intro a h
     refine qd_no h rfl rfl rfl rfl rfl rfl rfl rfl ?_; clear h a; intro a h
     refine qt_pick_f h rfl rfl rfl rfl ?_; clear h a; intro a h
     refine qt_assign h rfl rfl ?_; clear h a; intro a h
     refine wpQuiet_nil ?_
     intro w4 q4
     have z4 := q4.size
     refine bk (h.sub (L' := [(4, _)]) (.cons rfl .nil)) ?_; clear h a
     refine tn (rt (r1 Tryz.results34 rfl ?_))
     exact ⟨_, rfl, by first | exact congrArg Value.bool (decide_eq_decide.2 (by rw [hasP_tab]; omega)) | exact congrArg Value.bool (decide_eq_false (by rw [hasP_tab]; omega)).symm | exact congrArg Value.bool (decide_eq_true (by rw [hasP_tab]; omega)).symm, (q1.next q4)⟩
 · clear h; intro g0 h
   refine qd_no h rfl rfl rfl rfl rfl rfl rfl rfl ?_; clear h a; intro a h
   refine qd_no h rfl rfl rfl rfl rfl rfl rfl rfl ?_; clear h a; intro a h
   refine qd_no h rfl rfl rfl rfl rfl rfl rfl rfl ?_; clear h a; intro a h
   refine qd_no h rfl rfl rfl rfl rfl rfl rfl rfl ?_; clear h a; intro a h
   refine qd_no h rfl rfl rfl rfl rfl rfl rfl rfl ?_; clear h a; intro a h
   refine qd_no h rfl rfl rfl rfl rfl rfl rfl rfl ?_; clear h a; intro a h
   refine qt_pick_f h rfl rfl rfl rfl ?_; clear h a; intro a h
   refine qt_move h rfl rfl ?_; clear h a; intro a h
   refine qd_no h rfl rfl rfl rfl rfl rfl rfl rfl ?_; clear h a; intro a h
   refine qd_no h rfl rfl rfl rfl rfl rfl rfl rfl ?_; clear h a; intro a h
   refine qd_no h rfl rfl rfl rfl rfl rfl rfl rfl ?_; clear h a; intro a h
   refine qt_pick_f h rfl rfl rfl rfl ?_; clear h a; intro a h
   refine qt_move h rfl rfl ?_; clear h a; intro a h
   refine qd_no h rfl rfl rfl rfl rfl rfl rfl rfl ?_; clear h a; intro a h
   refine qd_no h rfl rfl rfl rfl rfl rfl rfl rfl ?_; clear h a; intro a h
   refine qd_no h rfl rfl rfl rfl rfl rfl rfl rfl ?_; clear h a; intro a h
   refine qd_no h rfl rfl rfl rfl rfl rfl rfl rfl ?_; clear h a; intro a h
   refine qd_no h rfl rfl rfl rfl rfl rfl rfl rfl ?_; clear h a; intro a h
   refine qd_no h rfl rfl rfl rfl rfl rfl rfl rfl ?_; clear h a; intro a h
   refine qd_no h rfl rfl rfl rfl rfl rfl rfl rfl ?_; clear h a; intro a h
   refine qd_no h rfl rfl rfl rfl rfl rfl rfl rfl ?_; clear h a; intro a h
   refine qd_no h rfl rfl rfl rfl rfl rfl rfl rfl ?_; clear h a; intro a h
   refine qd_no h rfl rfl rfl rfl rfl rfl rfl rfl ?_; clear h a; intro a h
   refine qt_pick_f h rfl rfl rfl rfl ?_; clear h a; intro a h
   refine qt_assign h rfl rfl ?_; clear h a; intro a h
   refine wpQuiet_nil ?_
   intro w5 q5
   have z5 := q5.size
   refine bk (h.sub (L' := [(4, _)]) (.cons rfl .nil)) ?_; clear h a
   refine tn (rt (r1 Tryz.results34 rfl ?_))
   exact ⟨_, rfl, by first | exact congrArg Value.bool (decide_eq_decide.2 (by rw [hasP_tab]; omega)) | exact congrArg Value.bool (decide_eq_false (by rw [hasP_tab]; omega)).symm | exact congrArg Value.bool (decide_eq_true (by rw [hasP_tab]; omega)).symm, (q1.next q5)⟩
end Go.Proofs.YtkionldalpijpaaGreatDoor
namespace Go.Proofs.YtkionldalpijpaaGreatDoor
open Go.Lw Go.G21

theorem push0_ok (u : Value) (A : Option Addr) (m c : Nat) (w0 : World) (hm : m = 0) : Rets Tryz.prog 71 #[u, .slice A m c] w0 fun r w' => r = u ∧ Fr [] w0 w' := by
 refine we [(0, u), (1, .slice A m c)] Tryz.func71 rfl Tryz.ntmps71 rfl (.cons rfl (.cons rfl .nil)) ?_
 refine sr (asg rfl rfl (nn (sq (sr (mv rfl rfl (lnS rfl Tryz.underlying56 rfl (mv rfl rfl (nn (bl ?_)))))))))
 refine lpK (ι := Nat) [(0, _), (8, _), (9, _)] (fun k => [(10, .int .i64 (k : Int))]) (fun k w' => Fr [] w0 w' ∧ k ≤ m) (fun k => m - k) 0 (.cons rfl (.cons rfl (.cons rfl (.cons rfl .nil)))) ⟨Fr.refl _ _, Nat.zero_le _⟩ ?_
 rintro k w1 ⟨q1, hi⟩
 have z1 := q1.size
 refine kpC [(0, _), (8, _), (9, _), (10, _)] (.cons rfl (.cons rfl (.cons rfl (.cons rfl .nil)))) ?_
 refine sr ?_
 refine lt' rfl rfl rfl ?_
 rw [show decide ((k : Int) < (m : Int)) = false from decide_eq_false (by omega)]
 refine nn (sq (cf rfl (ex (te (te (xh (tn (sr (mv rfl rfl (asg rfl rfl (kpL [(4, _)] (.cons rfl .nil) ?_)))))))))))
 refine nn (rt (r1 Tryz.results71 rfl ?_))
 exact ⟨_, rfl, rfl, q1⟩
theorem pushd_ok (base : Nat) (u v : Value) (l : List Pa) (wS w0 : World) (ho : Lw.Own encPa 65 base w0 u []) (hS : Sl encPa wS v l) (hs : Sl encPa w0 v l) (hb : wS.heap.size ≤ base) (hb2 : base ≤ w0.heap.size) (hn : l.length ≤ 100000) : Rets Tryz.prog 71 #[u, v] w0 fun r w' => ∃ S, Lw.Own encPa 65 base w' r (pushS [] l) ∧ (∀ k ∈ S, base ≤ k) ∧ Fr S w0 w' := by
  by_cases e : l = []
  · subst e
    obtain ⟨A, c, rfl, _⟩ := hs.form
    refine Rets.mono (push0_ok u A _ c w0 rfl) ?_
    rintro r w' ⟨rfl, hf⟩
    exact ⟨[], ho.ext hf, by simp, hf⟩
  · exact push_ok base u v [] l w0 ho hs (fun k hk => by have := hS.blk e k hk; omega) hb2 (by simpa using hn)
theorem reduce_ok (v : Value) (l : List Pa) (w0 : World) (hs : Sl encPa w0 v l) (hl : l.length ≤ 50000) : Rets Tryz.prog 87 #[v] w0 fun r w' => ∃ A, r = .slice A (pushS [] l).length (pushS [] l).length ∧ Fr [] w0 w' := by
 obtain ⟨A, c, rfl, hcc, hM, hA⟩ := id hs
 clear hA
 unfold maxLen at hM
 refine we [(0, .slice A l.length c)] Tryz.func87 rfl Tryz.ntmps87 rfl (.cons rfl .nil) ?_
 have hs0 := hs
 refine sr (asg rfl rfl (nn (sr (mv rfl rfl (lnS rfl Tryz.underlying56 rfl ?_)))))
 refine s_makeSlice (m := 0) (c := l.length) (pa0) rfl rfl el56 zv65 rfl (by omega) (by omega) (by unfold maxLen; omega) rfl (fun g5 w1 hg5 ho q1 z1 => ?_)
 refine mv rfl rfl ?_
 replace hs := hs0.ext q1
 refine cl (ev2 rfl rfl) co71 (pushd_ok g5 _ _ l w0 _ (by simpa using ho) hs0 hs (by omega) (by omega) (by omega)) rfl ?_
 rintro V7 w2 ⟨S7, ho7, hS7, q2⟩
 have z2 := q2.size
 have hpn := pushS_len l []
 obtain ⟨A7, c7, rfl, hc7⟩ := ho7.sl.form
 refine cl (ev1 rfl) co72 (ycopied_ok _ _ _ ho7.sl (by simp only [List.length_nil] at hpn; omega)) rfl ?_
 rintro _ w3 ⟨A8, rfl, ho8, q3⟩
 have z3 := q3.size
 refine asg rfl rfl (kpL [(2, _)] (.cons rfl .nil) (nn (rt (r1 Tryz.results87 rfl ?_))))
 exact ⟨_, rfl, A8, rfl, ((q1.step q2 (fun k hk hlt => absurd (hS7 k hk) (by omega))).next q3)⟩
theorem count_ok (v : Value) (ts : List TQ) (w0 : World) (hs : Sl encTq w0 v ts) (hk : TabAt w0 ts) (hN : cntA (tabP ts) ≤ 100000) : Rets Tryz.prog 55 #[v] w0 fun r w' => r = .int .i64 (cntA (tabP ts) : Int) ∧ Fr [] w0 w' := by
 obtain ⟨A, c, rfl, hcc, hM, hA⟩ := id hs
 clear hA
 unfold maxLen at hM
 have hrl := tab_len hk
 refine we [(0, .slice A ts.length c)] Tryz.func55 rfl Tryz.ntmps55 rfl (.cons rfl .nil) ?_
 have hs0 := hs
 have hk0 := hk
 refine sr (asg rfl rfl (nn (sr (asg rfl rfl (nn (sq (sr (mv rfl rfl (lnS rfl Tryz.underlying29 rfl (mv rfl rfl (nn ?_)))))))))))
 refine bl ?_
 refine lpK (ι := Nat) [(6, _), (7, _)] (fun i => [(8, .int .i64 (i : Int)), (3, .int .i64 (cntU ts i : Int))]) (fun i w' => Fr [] w0 w' ∧ i ≤ ts.length) (fun i => ts.length - i) 0 (.cons rfl (.cons rfl (.cons rfl (.cons rfl .nil)))) ⟨Fr.refl _ _, Nat.zero_le _⟩ ?_
 rintro i w1 ⟨q1, hi⟩
 have z1 := q1.size
 refine kpC [(6, _), (7, _), (8, _), (3, _)] (.cons rfl (.cons rfl (.cons rfl (.cons rfl .nil)))) ?_
 refine sr (lt' rfl rfl rfl (nn (sq ?_)))
 refine cd rfl (fun c0 => ?_) (fun c0 => ?_)
 · have hr1 := hrl i
   have hc1 := cntU_succ (ts := ts) (i := i) (by omega)
   have hc2 := cntU_le ts (i + 1)
   refine sk (tn (sq (bl (sr ?_))))
   replace hs := hs0.ext q1
   refine s_idxL (tq0) rfl hs rfl el29 (by omega) (by omega) nat_of rfl (fun ad10 hc10 => ?_)
   refine s_loadC0 rfl (hc10 _ hs) na40 rfl (asg rfl rfl (nn (rg (mv rfl rfl (mv rfl rfl (lnS rfl Tryz.underlying40 rfl (s_add rfl rfl (wi6 (by omega)) rfl (asg rfl rfl (nl (bn' (tn ?_)))))))))))
   refine rg (s_add rfl rfl (wi6 (by omega)) rfl (mv rfl rfl (nl ?_)))
   exact lpE (i + 1) (.cons rfl (.cons rfl (.cons rfl (.cons (congrArg (fun z => some (Value.int .i64 z)) (by omega)) .nil)))) ⟨q1, by omega⟩ (by omega)
 · obtain rfl : i = ts.length := by omega
   refine ex (te (te (xh (tn (sr (mv rfl rfl (asg rfl rfl (kpL [(2, _)] (.cons rfl .nil) (nn (rt (r1 Tryz.results55 rfl ?_)))))))))))
   exact ⟨_, rfl, by rw [cntU_all], q1⟩
end Go.Proofs.YtkionldalpijpaaGreatDoor
namespace Go.Proofs.YtkionldalpijpaaGreatDoor
open Go.Lw Go.G21
theorem co86 : CallOf Tryz.prog 86 := CallOf.mk' Tryz.func86 (by kernel_rfl) (by kernel_rfl)
theorem co87 : CallOf Tryz.prog 87 := CallOf.mk' Tryz.func87 (by kernel_rfl) (by kernel_rfl)
set_option maxHeartbeats 1000000 in
theorem right_ok (q : LpQ) (v : Value) (ts : List TQ) (w0 : World) (hs : Sl encTq w0 v ts) (hk : TabAt w0 ts) (hl : ts.length = 6) (hL : LpAt w0 q) (hv : rightP (tabP ts) q.p) : Rets Tryz.prog 74 #[v, .agg #[.int .u8 q.b, .bool q.nw, .slice q.th.1 q.th.2.1 q.th.2.2, .slice q.pa.1 q.pa.2.1 q.pa.2.2]] w0 fun r w' => r = .bool true ∧ Fr [] w0 w' := by
 obtain ⟨A, c, rfl, hcc, hM, hA⟩ := id hs
 clear hA
 unfold maxLen at hM
 have hrl := tab_len hk
 have hl1 := sl_len hL.1
 have hl2 := sl_len hL.2
 have hb : q.b = 0 ∨ q.b = 1 := hv.1
 have hn1 : q.ths.length ≤ 4 := hv.2.1.1
 have hn2 : q.pas.length ≤ 4096 := hv.2.1.2
 have hsd : ∀ p ∈ q.pas, Sided p.d := hv.2.2.2.1
 have hps : (pushS [] q.pas).length = q.pas.length := hv.2.2.2.2
 have hnt : ∀ i, i < q.ths.length → hasP (tabP ts) (q.ths.getD i id0) := fun i hi => hv.2.2.1 _ (List.mem_append_left _ (mem_getD hi))
 have hnp : ∀ i, i < q.pas.length → hasP (tabP ts) (q.pas.getD i pa0).id := fun i hi => hv.2.2.1 _ (List.mem_append_right _ (List.mem_map_of_mem (mem_getD hi)))
 have hly := len_tab ts
 refine we [(0, .slice A ts.length c), (1, .agg #[.int .u8 q.b, .bool q.nw, .slice q.th.1 q.th.2.1 q.th.2.2, .slice q.pa.1 q.pa.2.1 q.pa.2.2])] Tryz.func74 rfl Tryz.ntmps74 rfl (.cons rfl (.cons rfl .nil)) ?_
 have hs0 := hs
 have hk0 := hk
 have hL0 := hL
 refine sr (bx rfl rfl rfl (fun g3 w1 hg3 hb3 q1 z1 => ?_))
 refine asg rfl rfl (nn (sq (sq ?_)))
 refine rbo (r := 16) (L' := [(0, _), (3, _)]) (((q.b ≠ 0) ∧ (q.b ≠ 1))) (.cons rfl (.cons rfl .nil)) ?_ ?_
 · refine fad rfl fa58_0 rfl (s_loadB rfl hb3 rfl na55 rfl (ne' rfl rfl rfl (mv rfl rfl ?_)))
   refine gs 12 rfl (fun g0 => ?_) (fun g0 => ?_)
   · exact gY rfl (fad rfl fa58_0 rfl (gY rfl (s_loadB rfl hb3 rfl na55 rfl (gY rfl (ne' rfl rfl rfl (pkt rfl rfl rfl rfl (rbe rfl (by first | exact bt (by omega) | exact bf (by omega) | exact bi (by omega) | exact bn (by omega) | (simp_all; done) | (simp_all; omega)) (.cons rfl (.cons rfl .nil)))))))))
   · exact gN rfl rfl rfl (gN rfl rfl rfl (gN rfl rfl rfl (pkf rfl rfl rfl rfl (rbe rfl (by first | exact bt (by omega) | exact bf (by omega) | exact bi (by omega) | exact bn (by omega) | (simp_all; done) | (simp_all; omega)) (.cons rfl (.cons rfl .nil))))))
 · refine tn ?_
   refine cd rfl (fun c0 => ?_) (fun c0 => ?_)
   · refine sr (asg rfl rfl (nn (rt (tr (r1 Tryz.results74 rfl ?_)))))
     exfalso; omega
   · refine sk (tn (sq (sq ?_)))
     refine rbo (r := 26) (L' := [(0, _), (3, _)]) (((4 < (q.th.2.1 : Int)) ∨ (4096 < (q.pa.2.1 : Int)))) (.cons rfl (.cons rfl .nil)) ?_ ?_
     · refine fad rfl fa58_2 rfl (s_loadB rfl hb3 rfl na31 rfl (lnS rfl Tryz.underlying31 rfl (gt' rfl rfl rfl (mv rfl rfl ?_))))
       refine gs 21 rfl (fun g1 => ?_) (fun g1 => ?_)
       · exact gN rfl rfl rfl (gN rfl rfl rfl (gN rfl rfl rfl (gN rfl rfl rfl (pkt rfl rfl rfl rfl (rbe rfl (by first | exact bt (by omega) | exact bf (by omega) | exact bi (by omega) | exact bn (by omega) | (simp_all; done) | (simp_all; omega)) (.cons rfl (.cons rfl .nil)))))))
       · exact gY rfl (fad rfl fa58_3 rfl (gY rfl (s_loadB rfl hb3 rfl na56 rfl (gY rfl (lnS rfl Tryz.underlying56 rfl (gY rfl (gt' rfl rfl rfl (pkf rfl rfl rfl rfl (rbe rfl (by first | exact bt (by omega) | exact bf (by omega) | exact bi (by omega) | exact bn (by omega) | (simp_all; done) | (simp_all; omega)) (.cons rfl (.cons rfl .nil)))))))))))
     · refine tn ?_
       refine cd rfl (fun c1 => ?_) (fun c1 => ?_)
       · refine sr (asg rfl rfl (nn (rt (tr (r1 Tryz.results74 rfl ?_)))))
         exfalso; omega
       · refine sk (tn (sq (sr (fad rfl fa58_2 rfl (s_loadB rfl hb3 rfl na31 rfl (lnS rfl Tryz.underlying31 rfl (mv rfl rfl (nn (bl ?_)))))))))
         refine lpK (ι := Nat) [(0, _), (3, _), (28, _), (29, _)] (fun i => [(30, .int .i64 (i : Int))]) (fun i w' => Fr [] w1 w' ∧ i ≤ q.ths.length) (fun i => q.ths.length - i) 0 (.cons rfl (.cons rfl (.cons rfl (.cons rfl (.cons rfl .nil))))) ⟨Fr.refl _ _, Nat.zero_le _⟩ ?_
         rintro i w2 ⟨q2, hi⟩
         have z2 := q2.size
         refine kpC [(0, _), (3, _), (28, _), (29, _), (30, _)] (.cons rfl (.cons rfl (.cons rfl (.cons rfl (.cons rfl .nil))))) ?_
         refine sr (lt' rfl rfl rfl (nn (sq ?_)))
         refine cd rfl (fun c2 => ?_) (fun c2 => ?_)
         · refine sk (tn (sq (bl (sr ?_))))
           replace hL := hL0.ext (q1.next q2)
           refine s_idxL (id0) rfl hL.1 rfl el31 (by omega) (by omega) nat_of rfl (fun ad32 hc32 => ?_)
           refine s_loadA rfl (hc32 _ hL.1) ag39 rfl (al zv39 rfl rfl (fun g6 w3 hg6 hb6 q3 z3 => ?_))
           refine s_storeBA (vs := [_, _]) rfl rfl hb6 (by rfl) (by first | (simp [Value.oneCell', S]; done) | exact Enc.one _ _) sz39 (fun w4 hb6 q4 z4 => ?_)
           refine nn (sr (mv rfl rfl (s_loadBA rfl hb6 ag39 rfl ?_)))
           replace hs := hs0.ext (((q1.next q2).next q3).step q4 (by first | (simp; done) | (simp; omega)))
           replace hk := hk0.ext (((q1.next q2).next q3).step q4 (by first | (simp; done) | (simp; omega)))
           refine cl (ev2 rfl rfl) co86 (lhas_ok (q.ths.getD i id0) _ _ _ hs hk (by omega) (by have h := hnt i (by omega); have := h.1; have := h.2.1; omega)) rfl ?_
           rintro _ w5 ⟨rfl, q5⟩
           have z5 := q5.size
           refine nt' rfl rfl (nn ?_)
           refine cd rfl (fun c3 => ?_) (fun c3 => ?_)
           · refine sr (asg rfl rfl (kpL [(4, _)] (.cons rfl .nil) (nn (rt (rb (tr (tr (rb (tr (r1 Tryz.results74 rfl ?_))))))))))
             exact absurd (hnt i (by omega)) (by simpa using c3)
           · refine sk (bn' (tn (rg (s_add rfl rfl (wi6 (by omega)) rfl (mv rfl rfl (nl ?_))))))
             exact lpE (i + 1) (.cons rfl (.cons rfl (.cons rfl (.cons rfl (.cons rfl .nil))))) ⟨(((q2.next q3).step q4 (by first | (simp; done) | (simp; omega))).next q5), by omega⟩ (by omega)
         · obtain rfl : i = q.ths.length := by omega
           refine ex (te (te (xh (tn (sq (sr (fad rfl fa58_3 rfl ?_)))))))
           replace hb3 := hb3.ext q2
           refine s_loadB rfl hb3 rfl na56 rfl (lnS rfl Tryz.underlying56 rfl (mv rfl rfl (nn (bl ?_))))
           refine lpK (ι := Nat) [(0, _), (3, _), (40, _), (41, _)] (fun i => [(42, .int .i64 (i : Int))]) (fun i w' => Fr [] w2 w' ∧ i ≤ q.pas.length) (fun i => q.pas.length - i) 0 (.cons rfl (.cons rfl (.cons rfl (.cons rfl (.cons rfl .nil))))) ⟨Fr.refl _ _, Nat.zero_le _⟩ ?_
           rintro i w6 ⟨q6, hi⟩
           have z6 := q6.size
           refine kpC [(0, _), (3, _), (40, _), (41, _), (42, _)] (.cons rfl (.cons rfl (.cons rfl (.cons rfl (.cons rfl .nil))))) ?_
           refine sr (lt' rfl rfl rfl (nn (sq ?_)))
           refine cd rfl (fun c4 => ?_) (fun c4 => ?_)
           · have hsi : (q.pas.getD i pa0).d = 0 ∨ (q.pas.getD i pa0).d = 1 := hsd _ (mem_getD (by omega))
             have hhi := hnp i (by omega)
             refine sk (tn (sq (bl (sr ?_))))
             replace hL := hL0.ext ((q1.next q2).next q6)
             refine s_idxL (pa0) rfl hL.2 rfl el56 (by omega) (by omega) nat_of rfl (fun ad44 hc44 => ?_)
             refine s_loadA rfl (hc44 _ hL.2) ag65 rfl (al zv65 rfl rfl (fun g8 w7 hg8 hb8 q7 z7 => ?_))
             refine s_storeBA (vs := [_, _, _, _]) rfl rfl hb8 (by rfl) (by first | (simp [Value.oneCell', S]; done) | exact Enc.one _ _) sz65 (fun w8 hb8 q8 z8 => ?_)
             refine nn (sq ?_)
             refine rboF (r := 60) (L' := [(0, _), (3, _), (40, _), (41, _), (42, _)]) (((¬ hasP (tabP ts) (q.pas.getD i pa0).id) ∨ (((q.pas.getD i pa0).d ≠ 0) ∧ ((q.pas.getD i pa0).d ≠ 1)))) (.cons rfl (.cons rfl (.cons rfl (.cons rfl (.cons rfl .nil))))) ?_ ?_
             · refine mv rfl rfl (fad rfl fa65_0 rfl (s_loadBP (vs := [_, _]) rfl hb8 ag39 rfl rfl ?_))
               replace hs := hs0.ext ((((q1.next q2).next q6).next q7).step q8 (by first | (simp; done) | (simp; omega)))
               replace hk := hk0.ext ((((q1.next q2).next q6).next q7).step q8 (by first | (simp; done) | (simp; omega)))
               refine cl (ev2 rfl rfl) co86 (lhas_ok (q.pas.getD i pa0).id _ _ _ hs hk (by omega) (by have h := hnp i (by omega); have := h.1; have := h.2.1; omega)) rfl ?_
               rintro _ w9 ⟨rfl, q9⟩
               have z9 := q9.size
               refine nt' rfl rfl (mv rfl rfl ?_)
               refine gs 51 rfl (fun g2 => ?_) (fun g2 => ?_)
               · exact gN rfl rfl rfl (gN rfl rfl rfl (gN rfl rfl rfl (gN rfl rfl rfl (gS rfl rfl rfl (gS rfl rfl rfl (gS rfl rfl rfl (gN rfl rfl rfl (pkt rfl rfl rfl rfl (rbeF rfl (by first | exact bt (by omega) | exact bf (by omega) | exact bi (by omega) | exact bn (by omega) | (simp_all; done) | (simp_all; omega)) (.cons rfl (.cons rfl (.cons rfl (.cons rfl (.cons rfl .nil))))) q9)))))))))
               · refine gY rfl (fad rfl fa65_2 rfl (gY rfl ?_))
                 replace hb8 := hb8.ext q9
                 refine s_loadB rfl hb8 rfl na63 rfl (gY rfl (ne' rfl rfl rfl (gY rfl (mv rfl rfl ?_))))
                 refine gs 55 rfl (fun g3 => ?_) (fun g3 => ?_)
                 · exact gY rfl (fad rfl fa65_2 rfl (gY rfl (s_loadB rfl hb8 rfl na63 rfl (gY rfl (ne' rfl rfl rfl (gY rfl (pkt rfl rfl rfl rfl (pkf rfl rfl rfl rfl (rbeF rfl (by first | exact bt (by omega) | exact bf (by omega) | exact bi (by omega) | exact bn (by omega) | (simp_all; done) | (simp_all; omega)) (.cons rfl (.cons rfl (.cons rfl (.cons rfl (.cons rfl .nil))))) q9)))))))))
                 · exact gN rfl rfl rfl (gN rfl rfl rfl (gN rfl rfl rfl (gY rfl (pkf rfl rfl rfl rfl (pkf rfl rfl rfl rfl (rbeF rfl (by first | exact bt (by omega) | exact bf (by omega) | exact bi (by omega) | exact bn (by omega) | (simp_all; done) | (simp_all; omega)) (.cons rfl (.cons rfl (.cons rfl (.cons rfl (.cons rfl .nil))))) q9))))))
             · intro w10 q10; have z10 := q10.size
               refine tn ?_
               refine cd rfl (fun c5 => ?_) (fun c5 => ?_)
               · refine sr (asg rfl rfl (kpL [(4, _)] (.cons rfl .nil) (nn (rt (rb (tr (tr (rb (tr (r1 Tryz.results74 rfl ?_))))))))))
                 exfalso; first | omega | (simp_all; done) | (simp_all; omega)
               · refine sk (bn' (tn (rg (s_add rfl rfl (wi6 (by omega)) rfl (mv rfl rfl (nl ?_))))))
                 exact lpE (i + 1) (.cons rfl (.cons rfl (.cons rfl (.cons rfl (.cons rfl .nil))))) ⟨(((q6.next q7).step q8 (by first | (simp; done) | (simp; omega))).next q10), by omega⟩ (by omega)
           · obtain rfl : i = q.pas.length := by omega
             refine ex (te (te (xh (tn (sq ?_)))))
             replace hL := hL0.ext ((q1.next q2).next q6)
             replace hb3 := hb3.ext q6
             intro a h
             refine region_heldP none (fun wb w' => Fr [] wb w') hmix ?_; intro w11 hq
             have z11 := hq.size
             replace hL := hL.ext hq
             replace hb3 := hb3.ext hq
             have q11 := hq
             clear hq; have hC : Fr [] w11 w11 := Fr.refl _ _
             have hL_b := hL
             have hb3_b := hb3
             refine hd_fieldAddr 0 (by kernel_rfl) (by kernel_rfl) (by kernel_rfl) hC h wn rfl fa58_3 rfl rfl ?_; clear h a; intro a h
             refine hd_loadB 1 (by kernel_rfl) (by kernel_rfl) (by kernel_rfl) hC h wn rfl (fun _ hw => hb3_b.ext hw) rfl na56 rfl rfl ?_; clear h a; intro a h
             refine hd_fieldAddr 4 (by kernel_rfl) (by kernel_rfl) (by kernel_rfl) hC h wn rfl fa58_3 rfl rfl ?_; clear h a; intro a h
             refine hd_loadB 5 (by kernel_rfl) (by kernel_rfl) (by kernel_rfl) hC h wn rfl (fun _ hw => hb3_b.ext hw) rfl na56 rfl rfl ?_; clear h a; intro a h
             refine hd_lenS 6 (by kernel_rfl) (by kernel_rfl) (by kernel_rfl) hC h wn rfl Tryz.underlying56 rfl rfl ?_; clear h a; intro a h
             refine hd_one 2 (by kernel_rfl) rfl ?_
             refine st_call h (evs_cons rfl evs_nil) co87 (reduce_ok _ q.pas _ hL.2 (by omega)) rfl ?_; clear h a; rintro _ w12 ⟨A64, rfl, hq⟩ a h
             have z12 := hq.size
             replace hL := hL.ext hq
             replace hb3 := hb3.ext hq
             replace hC := hC.next hq
             have q12 := hq
             clear hq
             refine hd_next hC ?_
             refine hd_lenS 3 (by kernel_rfl) (by kernel_rfl) (by kernel_rfl) hC h wn rfl Tryz.underlying56 rfl rfl ?_; clear h a; intro a h
             refine hd_eq 7 (by kernel_rfl) (by kernel_rfl) (by kernel_rfl) hC h wn rfl rfl rfl rfl ?_; clear h a; intro a h
             refine hd_one 8 (by kernel_rfl) rfl ?_
             refine st_assign h rfl rfl ?_; clear h a; intro a h
             refine hd_next hC ?_
             refine hd_end (by kernel_rfl) ?_
             clear hC hL_b hb3_b
             refine bk (h.sub (L' := [(4, _)]) (.cons rfl .nil)) ?_; clear h a
             refine tn (rt (r1 Tryz.results74 rfl ?_))
             exact ⟨_, rfl, congrArg Value.bool (decide_eq_true (by omega)), ((((q1.next q2).next q6).next q11).next q12)⟩
end Go.Proofs.YtkionldalpijpaaGreatDoor
namespace Go.Proofs.YtkionldalpijpaaGreatDoor
open Go.Lw Go.G21
theorem co74 : CallOf Tryz.prog 74 := CallOf.mk' Tryz.func74 (by kernel_rfl) (by kernel_rfl)
set_option maxHeartbeats 1000000 in
theorem cloops_ok (v : Value) (ts : List TQ) (w0 : World) (hs : Sl encTq w0 v ts) (hk : TabAt w0 ts) (hl : ts.length = 6) (hv : TabOk (tabP ts)) : Rets Tryz.prog 56 #[v] w0 fun r w' => r = .int .i64 0 ∧ Fr [] w0 w' := by
 obtain ⟨A, c, rfl, hcc, hM, hA⟩ := id hs
 clear hA
 unfold maxLen at hM
 have hrl := tab_len hk
 refine we [(0, .slice A ts.length c)] Tryz.func56 rfl Tryz.ntmps56 rfl (.cons rfl .nil) ?_
 have hs0 := hs
 have hk0 := hk
 refine sr (asg rfl rfl (nn (sq (sr (mv rfl rfl (lnS rfl Tryz.underlying29 rfl (mv rfl rfl (nn (bl ?_)))))))))
 refine lpK (ι := Nat) [(0, _), (7, _), (8, _)] (fun y => [(9, .int .i64 (y : Int))]) (fun y w' => Fr [] w0 w' ∧ y ≤ ts.length) (fun y => ts.length - y) 0 (.cons rfl (.cons rfl (.cons rfl (.cons rfl .nil)))) ⟨Fr.refl _ _, Nat.zero_le _⟩ ?_
 rintro y w1 ⟨q1, hy⟩
 have z1 := q1.size
 refine kpC [(0, _), (7, _), (8, _), (9, _)] (.cons rfl (.cons rfl (.cons rfl (.cons rfl .nil)))) ?_
 refine sr (lt' rfl rfl rfl (nn (sq ?_)))
 refine cd rfl (fun c0 => ?_) (fun c0 => ?_)
 · replace hk := hk0.ext q1
   have hr1 := hrl y
   have hM1 := (hk _ (mem_getD (d := tq0) (i := y) (by omega))).1.len_le
   unfold maxLen at hM1
   refine sk (tn (sq (bl (sr ?_))))
   replace hs := hs0.ext q1
   refine s_idxL (tq0) rfl hs rfl el29 (by omega) (by omega) nat_of rfl (fun ad11 hc11 => ?_)
   refine s_loadC0 rfl (hc11 _ hs) na40 rfl (asg rfl rfl (nn (sr (mv rfl rfl (lnS rfl Tryz.underlying40 rfl (mv rfl rfl (nn (bl ?_))))))))
   refine lpK (ι := Nat) [(0, _), (7, _), (8, _), (9, _), (13, _), (14, _)] (fun n => [(15, .int .i64 (n : Int))]) (fun n w' => Fr [] w1 w' ∧ n ≤ (ts.getD y tq0).2.length) (fun n => (ts.getD y tq0).2.length - n) 0 (.cons rfl (.cons rfl (.cons rfl (.cons rfl (.cons rfl (.cons rfl (.cons rfl .nil))))))) ⟨Fr.refl _ _, Nat.zero_le _⟩ ?_
   rintro n w2 ⟨q2, hn⟩
   have z2 := q2.size
   refine kpC [(0, _), (7, _), (8, _), (9, _), (13, _), (14, _), (15, _)] (.cons rfl (.cons rfl (.cons rfl (.cons rfl (.cons rfl (.cons rfl (.cons rfl .nil))))))) ?_
   refine sr (lt' rfl rfl rfl (nn (sq ?_)))
   refine cd rfl (fun c1 => ?_) (fun c1 => ?_)
   · have hnw : n = 0 → ((ts.getD y tq0).2.getD n lq0).nw = true := fun e => by
       have h := (hv.rts y (by omega) n (by rw [rowL_tab]; omega)).2 e; rw [lpA_tab] at h; exact h
     refine sk (tn (sq (bl (sr (mv rfl rfl ?_)))))
     replace hk := hk0.ext (q1.next q2)
     refine s_idxL (lq0) rfl (hk _ (mem_getD (d := tq0) (i := y) (by omega))).1 rfl el40 (by omega) (by omega) nat_of rfl (fun ad18 hc18 => ?_)
     refine s_loadA rfl (hc18 _ (hk _ (mem_getD (d := tq0) (i := y) (by omega))).1) ag58 rfl (al zv58 rfl rfl (fun g6 w3 hg6 hb6 q3 z3 => ?_))
     refine asg rfl rfl (s_storeBA (vs := [_, _, _, _]) rfl rfl hb6 (by rfl) (by first | (simp [Value.oneCell', S]; done) | exact Enc.one _ _ | exact encLp.one ((ts.getD y tq0).2.getD n lq0)) sz58 (fun w4 hb6 q4 z4 => ?_))
     refine nn (sq ?_)
     refine rboF (r := 32) (L' := [(0, _), (7, _), (8, _), (9, _), (13, _), (14, _), (15, _)]) (((¬ (0 : Int) = 0) ∨ (((n : Int) = 0) ∧ (¬ ((ts.getD y tq0).2.getD n lq0).nw = true)))) (.cons rfl (.cons rfl (.cons rfl (.cons rfl (.cons rfl (.cons rfl (.cons rfl .nil))))))) ?_ ?_
     · refine mv rfl rfl (s_loadBA rfl hb6 ag58 rfl ?_)
       replace hs := hs0.ext (((q1.next q2).next q3).step q4 (by first | (simp; done) | (simp; omega)))
       replace hk := hk0.ext (((q1.next q2).next q3).step q4 (by first | (simp; done) | (simp; omega)))
       refine cl (ev2 rfl rfl) co74 (right_ok ((ts.getD y tq0).2.getD n lq0) _ _ _ hs hk hl (tab_lp hk (by omega) (by omega)) (by have h := (hv.rts y (by omega) n (by rw [rowL_tab]; omega)).1; rw [lpA_tab] at h; exact h)) rfl ?_
       rintro _ w5 ⟨rfl, q5⟩
       have z5 := q5.size
       refine nt' rfl rfl (mv rfl rfl ?_)
       refine gs 24 rfl (fun g0 => ?_) (fun g0 => ?_)
       · exact gN rfl rfl rfl (gN rfl rfl rfl (gN rfl rfl rfl (gS rfl rfl rfl (gS rfl rfl rfl (gS rfl rfl rfl (gN rfl rfl rfl (pkt rfl rfl rfl rfl (rbeF rfl (by first | exact bt (by omega) | exact bf (by omega) | exact bi (by omega) | exact bn (by omega) | (simp_all; done) | (simp_all; omega)) (.cons rfl (.cons rfl (.cons rfl (.cons rfl (.cons rfl (.cons rfl (.cons rfl .nil))))))) q5))))))))
       · refine gY rfl (mv rfl rfl (gY rfl (eq' rfl rfl rfl (gY rfl (mv rfl rfl ?_)))))
         refine gs 27 rfl (fun g1 => ?_) (fun g1 => ?_)
         · refine gY rfl (fad rfl fa58_1 rfl (gY rfl ?_))
           replace hb6 := hb6.ext q5
           exact s_loadB rfl hb6 rfl na4 rfl (gY rfl (nt' rfl rfl (gY rfl (pkt rfl rfl rfl rfl (pkf rfl rfl rfl rfl (rbeF rfl (by first | exact bt (by omega) | exact bf (by omega) | exact bi (by omega) | exact bn (by omega) | (simp_all; done) | (simp_all; omega)) (.cons rfl (.cons rfl (.cons rfl (.cons rfl (.cons rfl (.cons rfl (.cons rfl .nil))))))) q5))))))
         · exact gN rfl rfl rfl (gN rfl rfl rfl (gN rfl rfl rfl (gY rfl (pkf rfl rfl rfl rfl (pkf rfl rfl rfl rfl (rbeF rfl (by first | exact bt (by omega) | exact bf (by omega) | exact bi (by omega) | exact bn (by omega) | (simp_all; done) | (simp_all; omega)) (.cons rfl (.cons rfl (.cons rfl (.cons rfl (.cons rfl (.cons rfl (.cons rfl .nil))))))) q5))))))
     · intro w6 q6; have z6 := q6.size
       refine tn ?_
       refine cd rfl (fun c2 => ?_) (fun c2 => ?_)
       · refine sr (asg rfl rfl (kpL [(2, _)] (.cons rfl .nil) (nn (rt (rb (tr (tr (rb (rb (tr (tr ?_)))))))))))
         refine rb (tr (r1 Tryz.results56 rfl ?_))
         rcases c2 with h | h
         · exact absurd rfl h
         · exact absurd (hnw (by omega)) h.2
       · refine sk (bn' (tn (rg (s_add rfl rfl (wi6 (by omega)) rfl (mv rfl rfl (nl ?_))))))
         exact lpE (n + 1) (.cons rfl (.cons rfl (.cons rfl (.cons rfl (.cons rfl (.cons rfl (.cons rfl .nil))))))) ⟨(((q2.next q3).step q4 (by first | (simp; done) | (simp; omega))).next q6), by omega⟩ (by omega)
   · obtain rfl : n = (ts.getD y tq0).2.length := by omega
     refine ex (te (te (xh (bn' (tn (rg (s_add rfl rfl (wi6 (by omega)) rfl (mv rfl rfl (nl ?_)))))))))
     exact lpE (y + 1) (.cons rfl (.cons rfl (.cons rfl (.cons rfl .nil)))) ⟨(q1.next q2), by omega⟩ (by omega)
 · obtain rfl : y = ts.length := by omega
   refine ex (te (te (xh (tn (sr (asg rfl rfl (nn (rt (r1 Tryz.results56 rfl ?_)))))))))
   exact ⟨_, rfl, rfl, q1⟩
end Go.Proofs.YtkionldalpijpaaGreatDoor
