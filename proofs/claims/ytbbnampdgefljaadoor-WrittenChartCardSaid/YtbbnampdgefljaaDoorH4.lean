/- Texts of the proof, joined: W12 XCard CBase XGram XBest XOrd XMin XLaws FactsC W13 XRefS XRefT XLoads XRowOf XMake W14 W16 XTwice XSll XChart -/
import Derived.Test.YtbbnampdgefljaaDoorRows
import Derived.ProofKit
import Derived.OpenShut
import Derived.Carry
import Derived.ChangeOld
import Derived.Deep.DeepHandedRow
import Derived.Lib.LaidTab
import Derived.Test.YtbbnampdgefljaaDoorCards
import Derived.Test.YtbbnampdgefljaaDoorTie
import Derived.ChangeMaps5
import Derived.Test.YtbbnampdgefljaaDoorH3
set_option linter.unusedVariables false
set_option linter.unusedSimpArgs false
namespace Go.Proofs.YtbbnampdgefljaaDoor
open Go.Lw Go.G14
theorem law_expand (l : List UInt8) (w0 : World) (hy : Sym w0) (hlen : l.length ≤ 9223372036854775807) : Rets Tryd.prog 3 #[S l] w0 fun v w' => v = .bool true ∧ Fr [] w0 w' := by
  refine enter [(0, S l)] Tryd.func3 rfl Tryd.ntmps3 rfl (.cons rfl .nil) ?_
  have hf := Fr.refl [] w0
  intro a h
  refine wp_seq ?_
  refine wp_region_lit ?_
  refine st_assign h rfl rfl ?_; clear h a; intro a h
  replace h : Ag a 45 [(0, _)] := h.sub (.cons rfl .nil)
  refine wpList_nil (norm_then ?_)
  refine wp_seq ?_
  refine wp_seq ?_
  refine wp_region_lit ?_
  refine st_move h rfl rfl ?_; clear h a; intro a h
  refine st_len h rfl Tryd.underlying9 rfl ?_; clear h a; intro a h
  refine st_gt h rfl rfl rfl ?_; clear h a; intro a h
  replace h : Ag a 45 [(0, _), (9, _)] := h.sub (.cons rfl (.cons rfl .nil))
  refine wpList_nil (norm_then ?_)
  first | refine cond_dec h rfl (fun c0 => ?_) (fun c0 => ?_) | refine cond_ndec h rfl (fun c0 => ?_) (fun c0 => ?_) | refine cond_split h rfl (fun c0 => ?_) (fun c0 => ?_)
  · refine id ?_
    refine wp_seq ?_
    refine wp_region_lit ?_
    refine st_assign h rfl rfl ?_; clear h a; intro a h
    replace h : Ag a 45 [(2, _)] := h.sub (.cons rfl .nil)
    refine wpList_nil (norm_then ?_)
    refine wp_ret (ret_then ?_)
    refine ret1 h Tryd.results3 rfl ?_
    first | exact ⟨_, rfl, rfl, hf⟩ | (exfalso; simp_all)
  · refine id ?_
    refine wp_skip (norm_then ?_)
    refine wp_seq ?_
    refine wp_region_lit ?_
    refine st_move h rfl rfl ?_; clear h a; intro a h
    refine st_call h (evs_cons rfl evs_nil) co10 (expand_ok _ _ hy hlen) rfl ?_; clear h a; rintro _ w1 ⟨x, c, rfl, rfl, ho, hq⟩ a h
    replace hf := hf.next hq
    replace hy := hy.ext hq
    clear hq
    refine st_move h rfl rfl ?_; clear h a; intro a h
    refine st_extract h rfl rfl rfl ?_; clear h a; intro a h
    refine st_extract h rfl rfl rfl ?_; clear h a; intro a h
    refine st_assign h rfl rfl ?_; clear h a; intro a h
    refine st_assign h rfl rfl ?_; clear h a; intro a h
    replace h : Ag a 45 [(0, _), (3, _), (4, _)] := h.sub (.cons rfl (.cons rfl (.cons rfl .nil)))
    refine wpList_nil (norm_then ?_)
    refine wp_seq ?_
    refine wp_region_lit ?_
    refine st_move h rfl rfl ?_; clear h a; intro a h
    refine st_call h (evs_cons rfl evs_nil) co11 (refexpand_ok _ _ hy) rfl ?_; clear h a; rintro _ w2 ⟨x2, R, rfl, hR1, hR2, hs2, hq⟩ a h
    replace hf := hf.next hq
    replace hy := hy.ext hq
    replace ho := ho.ext hq
    clear hq
    obtain rfl : R = expandS l := mach_all hR1 hR2
    clear hR1 hR2
    refine st_move h rfl rfl ?_; clear h a; intro a h
    refine st_extract h rfl rfl rfl ?_; clear h a; intro a h
    refine st_extract h rfl rfl rfl ?_; clear h a; intro a h
    refine st_assign h rfl rfl ?_; clear h a; intro a h
    refine st_assign h rfl rfl ?_; clear h a; intro a h
    replace h : Ag a 45 [(3, _), (4, _), (5, _), (6, _)] := h.sub (.cons rfl (.cons rfl (.cons rfl (.cons rfl .nil))))
    refine wpList_nil (norm_then ?_)
    refine wp_seq ?_
    refine wp_seq ?_
    refine wp_region_lit ?_
    refine st_move h rfl rfl ?_; clear h a; intro a h
    refine st_move h rfl rfl ?_; clear h a; intro a h
    refine st_ne h rfl rfl rfl ?_; clear h a; intro a h
    replace h : Ag a 45 [(3, _), (4, _), (5, _), (22, _)] := h.sub (.cons rfl (.cons rfl (.cons rfl (.cons rfl .nil))))
    refine wpList_nil (norm_then ?_)
    first | refine cond_dec h rfl (fun c1 => ?_) (fun c1 => ?_) | refine cond_ndec h rfl (fun c1 => ?_) (fun c1 => ?_) | refine cond_split h rfl (fun c1 => ?_) (fun c1 => ?_)
    · exact absurd rfl c1
    · refine id ?_
      refine wp_skip (norm_then ?_)
      refine wp_seq ?_
      refine wp_seq ?_
      refine wp_region_lit ?_
      refine st_move h rfl rfl ?_; clear h a; intro a h
      refine st_ne h rfl rfl rfl ?_; clear h a; intro a h
      replace h : Ag a 45 [(3, _), (5, _), (24, _)] := h.sub (.cons rfl (.cons rfl (.cons rfl .nil)))
      refine wpList_nil (norm_then ?_)
      first | refine cond_dec h rfl (fun c2 => ?_) (fun c2 => ?_) | refine cond_ndec h rfl (fun c2 => ?_) (fun c2 => ?_) | refine cond_split h rfl (fun c2 => ?_) (fun c2 => ?_)
      · have hnil := expand_err c2
        refine wp_seq ?_
        refine wp_region_lit ?_
        refine st_move h rfl rfl ?_; clear h a; intro a h
        refine st_lenS h rfl Tryd.underlying22 rfl ?_; clear h a; intro a h
        refine st_eq h rfl rfl rfl ?_; clear h a; intro a h
        refine st_move h rfl rfl ?_; clear h a; intro a h
        first | refine guard_dec (D := 28) h rfl ?_ ?_ | refine guard_ndec (D := 28) h rfl ?_ ?_ | refine guard_any (D := 28) h rfl ?_ ?_
        · clear h; intro g0 h
          refine gd_yes h rfl rfl rfl rfl rfl rfl ?_
          refine st_call h evs_nil co12 (lives_ok _ hy) rfl ?_; clear h a; rintro _ w3 ⟨rfl, hq⟩ a h
          replace hf := hf.next hq
          replace hy := hy.ext hq
          replace ho := ho.ext hq
          replace hs2 := hs2.ext hq
          clear hq
          refine st_pick_t h rfl rfl rfl rfl ?_; clear h a; intro a h
          refine st_assign h rfl rfl ?_; clear h a; intro a h
          replace h : Ag a 45 [(2, _)] := h.sub (.cons rfl .nil)
          refine wpList_nil (norm_then ?_)
          refine wp_ret (ret_then ?_)
          refine ret1 h Tryd.results3 rfl ?_
          first | exact ⟨_, rfl, rfl, hf⟩ | (exfalso; simp_all)
        · clear h; intro g0 h
          refine gd_no h rfl rfl rfl rfl rfl rfl rfl rfl ?_; clear h a; intro a h
          refine st_pick_f h rfl rfl rfl rfl ?_; clear h a; intro a h
          refine st_assign h rfl rfl ?_; clear h a; intro a h
          replace h : Ag a 45 [(2, _)] := h.sub (.cons rfl .nil)
          refine wpList_nil (norm_then ?_)
          refine wp_ret (ret_then ?_)
          refine ret1 h Tryd.results3 rfl ?_
          first | exact ⟨_, rfl, rfl, hf⟩ | (exfalso; simp_all)
      · refine id ?_
        refine wp_skip (norm_then ?_)
        refine wp_seq ?_
        refine wp_region_lit ?_
        refine st_move h rfl rfl ?_; clear h a; intro a h
        refine st_move h rfl rfl ?_; clear h a; intro a h
        refine st_call h (evs_cons rfl (evs_cons rfl evs_nil)) co13 (differ_ok _ _ _ _ _ ho.sl hs2) rfl ?_; clear h a; rintro _ w4 ⟨rfl, hq⟩ a h
        replace hf := hf.next hq
        replace hy := hy.ext hq
        replace ho := ho.ext hq
        replace hs2 := hs2.ext hq
        clear hq
        refine st_eq h rfl rfl rfl ?_; clear h a; intro a h
        refine st_move h rfl rfl ?_; clear h a; intro a h
        first | refine guard_dec (D := 35) h rfl ?_ ?_ | refine guard_ndec (D := 35) h rfl ?_ ?_ | refine guard_any (D := 35) h rfl ?_ ?_
        · clear h; intro g1 h
          refine gd_yes h rfl rfl rfl rfl rfl rfl ?_
          refine st_move h rfl rfl ?_; clear h a; intro a h
          refine gd_yes h rfl rfl rfl rfl rfl rfl ?_
          refine st_capS h rfl Tryd.underlying22 rfl ?_; clear h a; intro a h
          refine gd_yes h rfl rfl rfl rfl rfl rfl ?_
          refine st_move h rfl rfl ?_; clear h a; intro a h
          refine gd_yes h rfl rfl rfl rfl rfl rfl ?_
          refine st_lenS h rfl Tryd.underlying22 rfl ?_; clear h a; intro a h
          refine gd_yes h rfl rfl rfl rfl rfl rfl ?_
          refine st_eq h rfl rfl rfl ?_; clear h a; intro a h
          refine st_pick_t h rfl rfl rfl rfl ?_; clear h a; intro a h
          refine st_move h rfl rfl ?_; clear h a; intro a h
          first | refine guard_dec (D := 42) h rfl ?_ ?_ | refine guard_ndec (D := 42) h rfl ?_ ?_ | refine guard_any (D := 42) h rfl ?_ ?_
          · clear h; intro g2 h
            refine gd_yes h rfl rfl rfl rfl rfl rfl ?_
            refine st_call h evs_nil co12 (lives_ok _ hy) rfl ?_; clear h a; rintro _ w5 ⟨rfl, hq⟩ a h
            replace hf := hf.next hq
            replace hy := hy.ext hq
            replace ho := ho.ext hq
            replace hs2 := hs2.ext hq
            clear hq
            refine st_pick_t h rfl rfl rfl rfl ?_; clear h a; intro a h
            refine st_assign h rfl rfl ?_; clear h a; intro a h
            replace h : Ag a 45 [(2, _)] := h.sub (.cons rfl .nil)
            refine wpList_nil (norm_then ?_)
            refine wp_ret ?_
            refine ret1 h Tryd.results3 rfl ?_
            first | exact ⟨_, rfl, rfl, hf⟩ | (exfalso; simp_all)
          · clear h; intro g2 h
            refine gd_no h rfl rfl rfl rfl rfl rfl rfl rfl ?_; clear h a; intro a h
            refine st_pick_f h rfl rfl rfl rfl ?_; clear h a; intro a h
            refine st_assign h rfl rfl ?_; clear h a; intro a h
            replace h : Ag a 45 [(2, _)] := h.sub (.cons rfl .nil)
            refine wpList_nil (norm_then ?_)
            refine wp_ret ?_
            refine ret1 h Tryd.results3 rfl ?_
            first | exact ⟨_, rfl, rfl, hf⟩ | (exfalso; simp_all)
        · clear h; intro g1 h
          refine gd_no h rfl rfl rfl rfl rfl rfl rfl rfl ?_; clear h a; intro a h
          refine gd_no h rfl rfl rfl rfl rfl rfl rfl rfl ?_; clear h a; intro a h
          refine gd_no h rfl rfl rfl rfl rfl rfl rfl rfl ?_; clear h a; intro a h
          refine gd_no h rfl rfl rfl rfl rfl rfl rfl rfl ?_; clear h a; intro a h
          refine gd_no h rfl rfl rfl rfl rfl rfl rfl rfl ?_; clear h a; intro a h
          refine st_pick_f h rfl rfl rfl rfl ?_; clear h a; intro a h
          refine st_move h rfl rfl ?_; clear h a; intro a h
          refine gd_no h rfl rfl rfl rfl rfl rfl rfl rfl ?_; clear h a; intro a h
          refine st_pick_f h rfl rfl rfl rfl ?_; clear h a; intro a h
          refine st_assign h rfl rfl ?_; clear h a; intro a h
          replace h : Ag a 45 [(2, _)] := h.sub (.cons rfl .nil)
          refine wpList_nil (norm_then ?_)
          refine wp_ret ?_
          refine ret1 h Tryd.results3 rfl ?_
          first | exact ⟨_, rfl, rfl, hf⟩ | (exfalso; simp_all)
end Go.Proofs.YtbbnampdgefljaaDoor
namespace Go.Lw
open Go.ChangeShapes Go.WideShapes Go.ChangeAt Go.RowKit

section
variable {H : Type} {enc : TypeId × Value → H} {P : Program}
theorem trodAll_stays (hl : laidOutB P = true) {W W' : World} (hb : Below W.heap.size W W') {sp : Nat → Bool} : ∀ {ts : List TypeId} {vs : List Value} {ds : List (DataW H)} {ps : List MemPlace},
    (∀ t ∈ ts, P.readableRec t = true ∧ t < P.types.size) → (∀ p ∈ ps, sp p.block = true) → (∀ p ∈ ps, p.block < W.heap.size) → DataW.TrodAll enc P W 0 (fun _ => true) true ts vs ds ps → DataW.TrodAll enc P W' 0 sp true ts vs ds ps
  | [], vs, ds, ps, _, _, _, h => by
    obtain ⟨rfl, rfl, rfl⟩ := trodAll_nil h
    exact trodAll_mk0
  | t :: ts, vs, ds, ps, ht, hs, hlt, h => by
    obtain ⟨v, vs', d, ds', p, q, rfl, rfl, rfl, h1, h2⟩ := trodAll_cons h
    refine trodAll_cons_mk (WideElems.Trod_stays hl (ht t (by simp)).1 (ht t (by simp)).2 h1 (fun x hx => hb.same (hlt x (by simp [hx]))) (fun x hx => hs x (by simp [hx]))) ?_
    exact trodAll_stays hl hb (fun t' h' => ht t' (by simp [h'])) (fun x hx => hs x (by simp [hx])) (fun x hx => hlt x (by simp [hx])) h2

/-- A law that returned true and turned nothing old. -/
theorem post_true {f : Func} {s : ChangeSpec} {apart fresh handsOn again : Bool} {W W' : World} {args : Array Value} {ds : List (DataW H)} {before : List MemPlace} {tb : TypeId}
    (hW : DataW.Whole enc P f.params.toList s.vars apart W args.toList ds [] before) (hv : s.vars = []) (hfn : s.fn H ds = { results := [.lit (.bool true)], args := ds }) (hf : Fr [] W W')
    (hl : laidOutB P = true) (hr : ∀ t ∈ f.params.toList, P.readableRec t = true ∧ t < P.types.size) (hrt : f.resultTypes = #[tb]) (hbt : P.underlying tb = some .bool) : s.post enc P f apart fresh handsOn again W args (.bool true) W' := by
  have hb := hf.below
  have hlt := hW.lt
  have hW' := hW
  obtain ⟨pa, pv, hA, hV, rfl, hz, hn⟩ := hW
  rw [hv] at hV
  obtain ⟨-, rfl⟩ := trodVars_none hV
  rw [List.append_nil] at hW' hlt hz hn
  have hargs : ∀ sp : Nat → Bool, (∀ p ∈ pa, sp p.block = true) → DataW.TrodAll enc P W' 0 sp true f.params.toList args.toList (s.fn H (ds ++ [])).args pa := by
    intro sp hsp
    rw [List.append_nil, hfn]
    exact trodAll_stays hl hb hr hsp hlt hA
  have hres : ∀ (b : Nat) (sp : Nat → Bool) (hd : Bool), DataW.TrodAll enc P W' b sp hd f.resultTypes.toList ((Value.bool true).resultList f.resultTypes.size) (s.fn H (ds ++ [])).results [] := by
    intro b sp hd
    rw [List.append_nil, hfn, hrt]
    exact trodAll_cons_mk (shut_bool hbt true) trodAll_mk0
  have hvars : ∀ sp : Nat → Bool, DataW.TrodVars enc P W' sp s.vars (s.fn H (ds ++ [])).vars [] := by
    intro sp
    rw [hv, List.append_nil, hfn]
    rfl
  have hold : ∀ p ∈ pa, (fun b => decide (b < W.heap.size)) p.block = true := fun p hp => by simpa using hlt p hp
  refine ⟨ds, [], pa, [], pa, [], hW', hres _ _ _, hargs _ hold, hvars _, World.keptBut_mono (fun p hp => ⟨hp, by simp [hp]⟩) (hb.frame _), fun _ => ⟨ok_one hrt rfl (okWide_bool_mk hbt true), _, _, ([] ++ pa) ++ [], ⟨[] ++ pa, [], trodAll_append (hargs _ (fun _ _ => rfl)) (hres _ _ _), hvars _, rfl, ?_, ?_⟩, ?_⟩⟩
  · intro b off hp
    have hp' : MemPlace.cell b off ∈ pa := by simpa using hp
    rw [hb.frozen (hlt _ hp')]
    exact hz b off hp'
  · intro ha
    simpa using hn ha
  · intro p hp _
    simpa using hp
/-- The walk's contract, as the row asks it. -/
theorem calls_true {f : FuncId} {fn : Func} {s : ChangeSpec} {apart fresh handsOn again : Bool} {W : World} {args : Array Value} {ds : List (DataW H)} {before : List MemPlace} {tb : TypeId}
    (hw : Rets P f args W fun v w' => v = .bool true ∧ Fr [] W w')
    (hW : DataW.Whole enc P fn.params.toList s.vars apart W args.toList ds [] before) (hv : s.vars = []) (hfn : s.fn H ds = { results := [.lit (.bool true)], args := ds })
    (hl : laidOutB P = true) (hr : ∀ t ∈ fn.params.toList, P.readableRec t = true ∧ t < P.types.size) (hrt : fn.resultTypes = #[tb]) (hbt : P.underlying tb = some .bool) :
    Calls P f args W fun e W' => ∃ v, e = .returned v ∧ s.post enc P fn apart fresh handsOn again W args v W' :=
  Calls.mono hw fun e w' ⟨v, he, hv', hf⟩ => ⟨v, he, by subst hv'; exact post_true hW hv hfn hf hl hr hrt hbt⟩
end

theorem str_len {b : ByteArray} (h : b.size ≤ maxLen) : b.data.toList.length ≤ 9223372036854775807 := by
  have hm : maxLen = 9223372036854775807 := by decide +kernel
  rw [Array.length_toList, ← hm]; exact h
/-! Worlds for the witness: the settled one, the listed tables of numbers laid. -/
def litV {H : Type} : DataW H → Value
  | .lit (.int k z) => .int k z
  | _ => .bool false
def tabV {H : Type} : DataW H → Array Value
  | .agg ds => (ds.map litV).toArray
  | _ => #[]
def layW (w : World) (g : Nat) (cs : Array Value) : World :=
  { w with heap := w.heap.modify g fun
      | .cells _ t fr => .cells cs t fr
      | o => o }
noncomputable def laidW (P : Program) (os : Os) (laid : List (String × DataW Unit)) : World :=
  laid.foldl (fun w p => match P.globalNamed p.1 with
    | some g => layW w g (tabV p.2)
    | none => w) (World.holding P os ⟨#[], #[], []⟩)
end Go.Lw
namespace Go.Proofs.YtbbnampdgefljaaDoor
open Go.ChangeShapes Go.WideShapes Go.ChangeAt Go.RowKit Go.Lw Go.G14

theorem own : ownKnob Tryd.prog.godebug = none := by kernel_rfl
theorem laidOut : laidOutB Tryd.prog = true := by kernel_rfl
theorem gSym : Tryd.prog.globalNamed "gansey/stitches.symbols" = some 0 := by kernel_rfl
theorem gSymT : (Tryd.prog.globals[0]?).map (·.type) = some 94 := by kernel_rfl
theorem cells94 : Tryd.prog.cellsOf 94 = 8 := by kernel_rfl
theorem cells5 : Tryd.prog.cellsOf 5 = 1 := by kernel_rfl
/-- What the rows list. -/
def laidL : List (String × DataW Unit) := [("gansey/stitches.symbols", Rows.laid_gansey_stitches_symbols), ("math/bits.deBruijn32tab", Rows.laid_math_bits_deBruijn32tab), ("math/bits.deBruijn64tab", Rows.laid_math_bits_deBruijn64tab), ("internal/strconv.uint64pow10", Rows.laid_internal_strconv_uint64pow10)]
theorem sym_of {W : World} (h : laidMetH Tryd.prog laidL W) : Sym W := by
  have ht : Lib.TabIs Tryd.prog W "gansey/stitches.symbols" .u8 [107, 112, 111, 47, 118, 116, 115, 99] :=
    Lib.tabIs_of_head (rest := laidL.drop 1) gSym gSymT Tryd.underlying94 Tryd.underlying5 cells5 cells94 h
  intro j u hu
  have hj : j < 8 := by
    have := (List.getElem?_eq_some_iff.1 hu).1
    rwa [show (symbols.flatMap Enc.b.enc).length = 8 from rfl] at this
  have hc := ht.cell gSym j hj
  rw [lit_add, Nat.zero_add, hc]
  match j, hj, hu with
  | 0, _, hu => exact hu
  | 1, _, hu => exact hu
  | 2, _, hu => exact hu
  | 3, _, hu => exact hu
  | 4, _, hu => exact hu
  | 5, _, hu => exact hu
  | 6, _, hu => exact hu
  | 7, _, hu => exact hu
noncomputable def witW (os : Os) : World := laidW Tryd.prog os laidL
end Go.Proofs.YtbbnampdgefljaaDoor
namespace Go.G14
open Go.Lw

/-- The text of an item (tag false) or of a row (tag true), and what it stands for. -/
inductive Txt : Bool → List UInt8 → List Stitch → Prop
  | leaf {x : Stitch} (h : checkS x = 0) : Txt false (textS x) [x]
  | rep {t : List UInt8} {xs : List Stitch} {n : Nat} (h : Txt true t xs) (h2 : 2 ≤ n) (h16 : n ≤ 16) : Txt false (repT t n) (timesS xs n)
  | one {t : List UInt8} {xs : List Stitch} (h : Txt false t xs) : Txt true t xs
  | cons {t s : List UInt8} {xs ys : List Stitch} (h : Txt false t xs) (hr : Txt true s ys) : Txt true (t ++ [32] ++ s) (xs ++ ys)

theorem Txt.ok {tg : Bool} {t : List UInt8} {xs : List Stitch} (h : Txt tg t xs) : xs ≠ [] ∧ xs.all okB = true := by
  induction h with
  | leaf h => exact ⟨by simp, by simp [(okB_iff _).2 h]⟩
  | @rep t xs n _ h2 _ ih =>
    obtain ⟨m, rfl⟩ : ∃ m, n = m + 1 := ⟨n - 1, by omega⟩
    refine ⟨?_, ?_⟩
    · rw [times_succ]; intro e; exact ih.1 (List.append_eq_nil_iff.1 e).2
    · rw [List.all_eq_true] at ih ⊢
      intro x hx
      unfold timesS at hx
      obtain ⟨l, hl, hx⟩ := List.mem_flatten.1 hx
      rw [(List.mem_replicate.1 hl).2] at hx
      exact ih.2 x hx
  | one _ ih => exact ih
  | cons _ _ ih1 ih2 => exact ⟨by intro e; exact ih1.1 (List.append_eq_nil_iff.1 e).1, by rw [List.all_append, ih1.2, ih2.2]; rfl⟩
/-- Two rows, one after the other. -/
theorem Txt.app {t s : List UInt8} {xs ys : List Stitch} (h : Txt true t xs) (hr : Txt true s ys) : Txt true (t ++ [32] ++ s) (xs ++ ys) := by
  generalize hb : true = tg at h
  induction h with
  | leaf _ => cases hb
  | rep _ _ _ => cases hb
  | one h _ => exact .cons h hr
  | @cons t s' xs' ys' h1 _ _ ih2 =>
    have := Txt.cons h1 (ih2 rfl)
    simpa [List.append_assoc] using this

/-! What the reader reads is a text of the grammar. -/
theorem times_take (xs : List Stitch) (n : Nat) : (timesS (xs.take 17) n).take 17 = (timesS xs n).take 17 := by
  rcases Nat.lt_or_ge xs.length 18 with h | h
  · rw [List.take_of_length_le (show xs.length ≤ 17 by omega)]
  · cases n with
    | zero => rfl
    | succ n =>
      have e : ∀ ys : List Stitch, timesS ys (n + 1) = ys ++ timesS ys n := fun ys => by simp [timesS, List.replicate_succ]
      rw [e, e, List.take_append_of_le_length (by simp; omega), List.take_append_of_le_length (by omega), List.take_take, Nat.min_self]
theorem word_split {l : List UInt8} {p : Nat} (hp : p ≤ l.length) : l.drop p = wordS l p ++ l.drop (wordEnd l p) := by
  rw [word_tw hp, word_end _ p rfl hp, ← List.drop_drop, tw_drop, List.takeWhile_append_dropWhile]
theorem parse_text {l : List UInt8} (h : (parseS l).2 = 0) : textS (parseS l).1 = l ∧ checkS (parseS l).1 = 0 := by
  unfold parseS at h ⊢
  split at h
  · simp at h
  · rename_i c
    rw [if_neg c]
    simp only [not_or, Decidable.not_not] at c
    refine ⟨c.2, ?_⟩
    simp only
    refine Decidable.not_not.1 fun e => c.1 ?_
    rw [← c.2, textS, if_pos e]
theorem count_text {r : List UInt8} (h : 0 < (countS r 16).2) : ∃ n : Nat, 2 ≤ n ∧ n ≤ 16 ∧ (countS r 16).1 = n ∧ r = itoaS n ++ r.drop (countS r 16).2.toNat ∧ ((countS r 16).2.toNat = (itoaS n).length) := by
  obtain ⟨n1, n2, n3⟩ := num_count (r := r) rfl
  obtain ⟨e1, e2⟩ := n2 (by omega)
  have hall := all_tw r
  have hpre : r = r.takeWhile isDig ++ r.drop (r.takeWhile isDig).length := by rw [tw_drop, List.takeWhile_append_dropWhile]
  have key : r.takeWhile isDig = itoaS (countS r 16).1.toNat ∧ 2 ≤ (countS r 16).1 ∧ (countS r 16).1 ≤ 16 := by
    rw [← n1] at e2 ⊢
    generalize r.takeWhile isDig = W at hall e2 ⊢
    unfold numberS at e2 ⊢
    split at e2
    · exact absurd rfl e2
    · rename_i c1
      rw [if_neg c1]
      split at e2
      · exact absurd rfl e2
      · rename_i c2
        rw [if_neg c2]
        split at e2
        · exact absurd rfl e2
        · rename_i c3
          rw [if_neg c3]
          refine ⟨?_, by omega, by omega⟩
          match W, hall, c1, c3 with
          | [a], ha, c1, c3 =>
            simp only [List.all_cons, List.all_nil, Bool.and_true] at ha
            have h1 := (isDig_iff a).1 ha
            simp [valS, dstep] at c3 ⊢
            unfold itoaS
            rw [if_pos (by omega)]
            congr 1
            apply UInt8.toNat_inj.1
            have := dg_val (((a.toNat : Int) - 48).toNat : Int) (by omega) (by omega)
            omega
          | [a, b], ha, c1, c3 =>
            simp only [List.all_cons, List.all_nil, Bool.and_true, Bool.and_eq_true] at ha
            have h1 := (isDig_iff a).1 ha.1
            have h2 := (isDig_iff b).1 ha.2
            simp [valS, dstep] at c1 c3 ⊢
            unfold itoaS
            rw [if_neg (by omega)]
            have d1 := dg_val (((10 * ((a.toNat : Int) - 48) + ((b.toNat : Int) - 48)).toNat / 10 : Nat) : Int) (by omega) (by omega)
            have d2 := dg_val (((10 * ((a.toNat : Int) - 48) + ((b.toNat : Int) - 48)).toNat % 10 : Nat) : Int) (by omega) (by omega)
            congr 1
            · apply UInt8.toNat_inj.1; omega
            · congr 1
              apply UInt8.toNat_inj.1; omega
          | [], _, c1, _ => simp at c1
          | a :: b :: d :: s, _, c1, _ => simp at c1
  refine ⟨(countS r 16).1.toNat, by omega, by omega, by omega, ?_, ?_⟩
  · rw [e1, Int.toNat_natCast]; conv => lhs; rw [hpre, key.1]
    rw [key.1]
  · rw [e1, Int.toNat_natCast, key.1]
def cutS (l : List UInt8) (p q : Nat) : List UInt8 := (l.take q).drop p
theorem drop_cut {l : List UInt8} {p q : Nat} (h1 : p ≤ q) (h2 : q ≤ l.length) : l.drop p = cutS l p q ++ l.drop q := by
  unfold cutS
  conv => lhs; rw [← List.take_append_drop q l]
  rw [List.drop_append_of_le_length (by simp; omega)]
theorem cut_of {l a : List UInt8} {p q : Nat} (h : l.drop p = a ++ l.drop q) (h1 : p ≤ q) (h2 : q ≤ l.length) : cutS l p q = a := by
  rw [drop_cut h1 h2] at h
  exact List.append_cancel_right h
theorem read_sound {l : List UInt8} : ∀ (F : Nat) (tg : Bool) (p : Nat) (acc xs : List Stitch) (q : Nat), p ≤ l.length → readS l F tg p acc = some (xs, q) →
    ∃ ys, Txt tg (cutS l p q) ys ∧ xs = ((if tg then acc else []) ++ ys).take 17
  | F, false, p, acc, xs, q, hp, h => by
    by_cases c : p = l.length ∨ l.getD p 0 ≠ 91
    · rw [read_leaf c] at h
      by_cases h0 : (parseS (wordS l p)).2 = 0
      · rw [leaf_some rfl h0] at h
        cases h
        obtain ⟨e1, e2⟩ := parse_text h0
        have hw := wordEnd_rng hp
        refine ⟨[(parseS (wordS l p)).1], ?_, rfl⟩
        rw [cut_of (word_split hp) hw.1 hw.2]
        have := Txt.leaf e2
        rwa [e1] at this
      · rw [leaf_none rfl h0] at h; cases h
    · cases F with
      | zero => rw [readS, if_neg c] at h; cases h
      | succ F =>
        rw [read_rep c] at h
        have hlt : p < l.length := by omega
        have hc : l.getD p 0 = 91 := Decidable.not_not.1 fun e => c (.inr e)
        cases hr : readS l F true (p + 1) [] with
        | none => rw [hr] at h; cases h
        | some z =>
          obtain ⟨zs, r⟩ := z
          rw [hr] at h
          simp only at h
          obtain ⟨ys, hT, hz⟩ := read_sound F true (p + 1) [] zs r (by omega) hr
          have hpos := read_pos F true (p + 1) [] zs r (by omega) hr
          have hcl := close_pos h
          unfold closeS at h
          split at h
          · rename_i hpre
            simp only at h
            split at h
            · rename_i hcnt
              simp only [Option.some.injEq, Prod.mk.injEq] at h
              obtain ⟨hx, hq⟩ := h
              obtain ⟨n, n2, n16, en, er, el⟩ := count_text hcnt
              refine ⟨timesS ys n, ?_, ?_⟩
              · have h2 := pre_two.1 hpre
                have e1 : l.drop p = repT (cutS l (p + 1) r) n ++ l.drop q := by
                  rw [drop_get hlt, hc, drop_cut (p := p + 1) (q := r) (by omega) hpos.2.1, drop_get (show r < l.length by omega), h2.1, drop_get h2.2.1, h2.2.2]
                  rw [show r + 1 + 1 = r + 2 from rfl, er, List.drop_drop, hq]
                  simp [repT]
                rw [cut_of e1 (by omega) hcl.2.1]
                exact Txt.rep hT n2 n16
              · rw [← hx, en, Int.toNat_natCast, hz]
                simp only [Bool.false_eq_true, if_false, if_true, List.nil_append]
                exact times_take ys n
            · cases h
          · cases h
  | 0, true, p, acc, xs, q, hp, h => by rw [readS] at h; cases h
  | F + 1, true, p, acc, xs, q, hp, h => by
    cases hr : readS l F false p [] with
    | none => rw [read_row_none hr] at h; cases h
    | some z =>
      obtain ⟨zs, r⟩ := z
      obtain ⟨ys, hT, hz⟩ := read_sound F false p [] zs r hp hr
      have hpos := read_pos F false p [] zs r hp hr
      simp only [Bool.false_eq_true, if_false, List.nil_append] at hz
      by_cases c : r = l.length ∨ l.getD r 0 ≠ 32
      · rw [read_row_end hr c] at h
        cases h
        refine ⟨ys, .one hT, ?_⟩
        rw [if_pos rfl, hz, take_take_app]
      · rw [read_row_next hr c] at h
        have h32 : l.getD r 0 = 32 := Decidable.not_not.1 fun e => c (.inr e)
        have hlt : r < l.length := by omega
        obtain ⟨ys2, hT2, hz2⟩ := read_sound F true (r + 1) _ xs q (by omega) h
        have hpos2 := read_pos F true (r + 1) _ xs q (by omega) h
        refine ⟨ys ++ ys2, ?_, ?_⟩
        · have e1 : l.drop p = (cutS l p r ++ [32] ++ cutS l (r + 1) q) ++ l.drop q := by
            rw [drop_cut (Nat.le_of_lt hpos.1) hpos.2.1, drop_get hlt, h32, drop_cut (p := r + 1) (q := q) (by omega) hpos2.2.1]
            simp
          rw [cut_of e1 (by omega) hpos2.2.1]
          exact .cons hT hT2
        · rw [hz2, if_pos rfl, if_pos rfl, hz, take_take_app, ← List.append_assoc]
          rw [List.take_append, List.take_append (l₁ := acc ++ ys), List.take_take, Nat.min_self]
          rw [show 17 - (List.take 17 (acc ++ ys)).length = 17 - (acc ++ ys).length by simp; omega]
/-- A row that was read is a text of the grammar. -/
theorem expand_sound {l : List UInt8} {xs : List Stitch} (h : expandS l = (xs, 0)) : Txt true l xs ∧ xs.length ≤ 16 := by
  unfold expandS at h
  split at h
  · cases h
  · unfold rowS at h
    cases hr : readS l (2 * l.length + 1) true 0 [] with
    | none => rw [hr] at h; cases h
    | some z =>
      obtain ⟨zs, q⟩ := z
      rw [hr] at h
      simp only at h
      by_cases c : q = l.length
      · rw [if_pos c] at h
        simp only at h
        split at h
        · cases h
        · rename_i h16
          cases h
          obtain ⟨ys, hT, hz⟩ := read_sound _ true 0 [] xs q (by omega) hr
          simp only [if_true, List.nil_append] at hz
          have : ys = xs := by
            rw [hz] at h16 ⊢
            rw [List.length_take] at h16
            rw [List.take_of_length_le (by omega)]
          subst this
          rw [c, show cutS l 0 l.length = l by simp [cutS]] at hT
          exact ⟨hT, by omega⟩
      · rw [if_neg c] at h; cases h
end Go.G14
namespace Go.G14
open Go.Lw

def textB (x : Stitch) : Bool := decide (checkS x = 0 → parseS (textS x) = (x, 0) ∧ (textS x).all nb = true ∧ (textS x).getD 0 0 ≠ 91 ∧ textS x ≠ [])
theorem text_facts : ∀ k, k < 9 → ∀ y, y < 7 → ∀ a, a < 4 → ∀ b, b < 4 → textB ⟨((k : Nat) : Int), ((y : Nat) : Int), ((a : Nat) : Int), ((b : Nat) : Int), false⟩ = true ∧ textB ⟨((k : Nat) : Int), ((y : Nat) : Int), ((a : Nat) : Int), ((b : Nat) : Int), true⟩ = true := by
  decide +kernel
theorem text_ok_of {x : Stitch} (h : checkS x = 0) : parseS (textS x) = (x, 0) ∧ (textS x).all nb = true ∧ (textS x).getD 0 0 ≠ 91 ∧ textS x ≠ [] := by
  obtain ⟨k, y, a, b, f⟩ := x
  have hr := check_rng h
  simp only at hr
  have ha : 0 ≤ a ∧ a < 4 ∧ 0 ≤ b ∧ b < 4 := by
    by_cases c : k = 8
    · have := hr.2.2.2.2.2 c; omega
    · have := hr.2.2.2.2.1 c; omega
  obtain ⟨k', rfl⟩ : ∃ n : Nat, k = (n : Int) := ⟨k.toNat, by omega⟩
  obtain ⟨y', rfl⟩ : ∃ n : Nat, y = (n : Int) := ⟨y.toNat, by omega⟩
  obtain ⟨a', rfl⟩ : ∃ n : Nat, a = (n : Int) := ⟨a.toNat, by omega⟩
  obtain ⟨b', rfl⟩ : ∃ n : Nat, b = (n : Int) := ⟨b.toNat, by omega⟩
  have hb := text_facts k' (by omega) y' (by omega) a' (by omega) b' (by omega)
  cases f with
  | false => exact of_decide_eq_true hb.1 h
  | true => exact of_decide_eq_true hb.2 h
theorem itoa_facts : ∀ n, n < 17 → 2 ≤ n → (itoaS n).all isDig = true ∧ itoaS n ≠ [] ∧ (((itoaS n).getD 0 0).toNat : Int) ≠ 48 ∧ capS (itoaS n) = n := by decide +kernel
theorem tw_nil {f : UInt8 → Bool} {r : List UInt8} (h : r = [] ∨ f (r.getD 0 0) = false) : r.takeWhile f = [] := by
  cases r with
  | nil => rfl
  | cons c s => exact List.takeWhile_cons_of_neg (by rcases h with h | h; cases h; simpa using h)
theorem count_itoa {n : Nat} {r : List UInt8} (h2 : 2 ≤ n) (h16 : n ≤ 16) (h : r = [] ∨ isDig (r.getD 0 0) = false) : countS (itoaS n ++ r) 16 = ((n : Int), ((itoaS n).length : Int)) := by
  obtain ⟨f1, f2, f3, f4⟩ := itoa_facts n (by omega) h2
  have hw : (itoaS n ++ r).takeWhile isDig = itoaS n := by rw [tw_app _ _ f1, tw_nil h, List.append_nil]
  have hg : (itoaS n ++ r).getD 0 0 = (itoaS n).getD 0 0 := by
    cases he : itoaS n with
    | nil => exact absurd he f2
    | cons c s => rfl
  unfold countS
  simp only [hw, hg, f4]
  rw [if_neg]
  rintro (e | e | e | e)
  · exact f2 (List.length_eq_zero_iff.1 e)
  · exact f3 e
  · omega
  · omega
theorem get_at {l a r : List UInt8} {p : Nat} (h : l.drop p = a ++ r) : l.drop (p + a.length) = r := by
  rw [← List.drop_drop, h, List.drop_left]
theorem get_head {l r : List UInt8} {q : Nat} (h : l.drop q = r) : (r = [] ↔ l.length ≤ q) ∧ l.getD q 0 = r.getD 0 0 := by
  subst h
  refine ⟨List.drop_eq_nil_iff, ?_⟩
  simp [List.getD]
theorem read_complete {tg : Bool} {t : List UInt8} {xs : List Stitch} (hT : Txt tg t xs) : ∀ (l r : List UInt8) (p F : Nat) (acc : List Stitch), l.drop p = t ++ r → p ≤ l.length →
    (tg = false → 2 * (l.length - p) ≤ F ∧ (r = [] ∨ r.getD 0 0 = 32 ∨ r.getD 0 0 = 93)) → (tg = true → 2 * (l.length - p) + 1 ≤ F ∧ (r = [] ∨ r.getD 0 0 = 93)) →
    readS l F tg p acc = some (((if tg then acc else []) ++ xs).take 17, p + t.length) := by
  induction hT with
  | @leaf x h =>
    intro l r p F acc hl hp hi _
    obtain ⟨_, hr⟩ := hi rfl
    obtain ⟨f1, f2, f3, f4⟩ := text_ok_of h
    have hg := (get_head hl).2
    have hg' : l.getD p 0 ≠ 91 := by
      rw [hg]
      cases he : textS x with
      | nil => exact absurd he f4
      | cons c s => rw [he] at f3; exact f3
    have hrn : r = [] ∨ nb (r.getD 0 0) = false := hr.imp id fun e => by rcases e with e | e <;> rw [e] <;> rfl
    have hw : wordS l p = textS x := by rw [word_tw hp, hl, tw_app _ _ f2, tw_nil hrn, List.append_nil]
    have he : wordEnd l p = p + (textS x).length := by rw [word_end _ p rfl hp, ← word_tw hp, hw]
    rw [read_leaf (.inr hg'), leaf_some rfl (by show (parseS (wordS l p)).2 = 0; rw [hw, f1])]
    show some ([(parseS (wordS l p)).1], wordEnd l p) = _
    rw [hw, he, f1]; rfl
  | @rep t xs n hT h2 h16 ih =>
    intro l r p F acc hl hp hi _
    obtain ⟨hF, hr⟩ := hi rfl
    have hlen : 2 ≤ l.length - p := by
      have := congrArg List.length hl
      simp [repT] at this; omega
    obtain ⟨F', rfl⟩ : ∃ m, F = m + 1 := ⟨F - 1, by omega⟩
    have hl1 : l.drop p = 91 :: (t ++ ([93, 120] ++ itoaS n ++ r)) := by rw [hl]; simp [repT]
    have hc : l.getD p 0 = 91 := by rw [(get_head hl1).2]; rfl
    have hd1 : l.drop (p + 1) = t ++ ([93, 120] ++ itoaS n ++ r) := by
      rw [← List.drop_drop, hl1]; rfl
    have hrow := ih l ([93, 120] ++ itoaS n ++ r) (p + 1) F' [] hd1 (by omega) (fun e => by cases e) (fun _ => ⟨by omega, .inr rfl⟩)
    have hd2 := get_at hd1
    have hd3 : l.drop (p + 1 + t.length + 2) = itoaS n ++ r := by rw [← List.drop_drop, hd2]; rfl
    have hdr : r = [] ∨ isDig (r.getD 0 0) = false := hr.imp id fun e => by rcases e with e | e <;> rw [e] <;> rfl
    have hcnt := count_itoa h2 h16 hdr
    have hpos : 0 < (itoaS n).length := List.length_pos_iff.2 (itoa_facts n (by omega) h2).2.1
    rw [read_rep (by rintro (e | e); omega; exact e hc), hrow]
    simp only
    unfold closeS
    rw [if_pos (by rw [hd2]; exact ⟨itoaS n ++ r, by simp⟩), hd3, hcnt]
    simp only
    rw [if_pos (by omega), Int.toNat_natCast, Int.toNat_natCast]
    simp only [if_true, Bool.false_eq_true, if_false, List.nil_append]
    rw [times_take]
    congr 2
    simp [repT]; omega
  | @one t xs hT ih =>
    intro l r p F acc hl hp _ hi
    obtain ⟨hF, hr⟩ := hi rfl
    obtain ⟨F', rfl⟩ : ∃ m, F = m + 1 := ⟨F - 1, by omega⟩
    have h1 := ih l r p F' [] hl hp (fun _ => ⟨by omega, hr.imp id .inr⟩) (fun e => by cases e)
    have hq := get_head (get_at hl)
    have hle : p + t.length ≤ l.length := by have := congrArg List.length hl; simp at this; omega
    have hc : p + t.length = l.length ∨ l.getD (p + t.length) 0 ≠ 32 := by
      rcases hr with e | e
      · left; have := hq.1.1 e; omega
      · right; rw [hq.2, e]; decide
    rw [read_row_end h1 hc]
    simp only [Bool.false_eq_true, if_false, if_true, List.nil_append]
    rw [take_take_app]
  | @cons t s xs ys hT hR ih1 ih2 =>
    intro l r p F acc hl hp _ hi
    obtain ⟨hF, hr⟩ := hi rfl
    obtain ⟨F', rfl⟩ : ∃ m, F = m + 1 := ⟨F - 1, by omega⟩
    have hl1 : l.drop p = t ++ ([32] ++ s ++ r) := by rw [hl]; simp
    have h1 := ih1 l ([32] ++ s ++ r) p F' [] hl1 hp (fun _ => ⟨by omega, .inr (.inl rfl)⟩) (fun e => by cases e)
    have hd := get_at hl1
    have hq := get_head hd
    have hlt : p + t.length < l.length := by
      rcases Nat.lt_or_ge (p + t.length) l.length with h | h
      · exact h
      · have := hq.1.2 h; simp at this
    have hd2 : l.drop (p + t.length + 1) = s ++ r := by rw [← List.drop_drop, hd]; rfl
    have h2 := ih2 l r (p + t.length + 1) F' ((acc ++ (([] : List Stitch) ++ xs).take 17).take 17) hd2 (by omega) (fun e => by cases e) (fun _ => ⟨by omega, hr⟩)
    rw [read_row_next (acc := acc) h1 (by rintro (e | e); omega; exact e (by rw [hq.2]; rfl))]
    simp only [Bool.false_eq_true, if_false, if_true, List.nil_append] at h2 ⊢
    rw [h2, take_take_app]
    congr 2
    · rw [← List.append_assoc, List.take_append, List.take_append (l₁ := acc ++ xs), List.take_take, Nat.min_self]
      rw [show 17 - (List.take 17 (acc ++ xs)).length = 17 - (acc ++ xs).length by simp; omega]
    · simp; omega
/-- A text of the grammar is read as what it stands for. -/
theorem expand_complete {l : List UInt8} {xs : List Stitch} (h : Txt true l xs) (hl : l.length ≤ 1024) (h16 : xs.length ≤ 16) : expandS l = (xs, 0) := by
  have hr := read_complete h l [] 0 (2 * l.length + 1) [] (by simp) (by omega) (fun e => by cases e) (fun _ => ⟨by omega, .inl rfl⟩)
  simp only [if_true, List.nil_append, Nat.zero_add] at hr
  rw [List.take_of_length_le (by omega)] at hr
  unfold expandS rowS
  rw [if_neg (by omega), hr]
  simp only [if_true]
  rw [if_neg (by omega)]
end Go.G14
namespace Go.G14
open Go.Lw

theorem bl_nil (a : List UInt8) : Op.bytesLess a [] = false := by cases a <;> rfl
theorem bl_cons (a b : UInt8) (x y : List UInt8) : Op.bytesLess (a :: x) (b :: y) = (decide (a < b) || (a == b && Op.bytesLess x y)) := rfl
theorem bl_irrefl : ∀ a : List UInt8, Op.bytesLess a a = false
  | [] => rfl
  | a :: x => by rw [bl_cons, bl_irrefl x]; simp
theorem bl_antis : ∀ a b : List UInt8, a.length = b.length → Op.bytesLess a b = false → Op.bytesLess b a = false → a = b
  | [], [], _, _, _ => rfl
  | [], _ :: _, h, _, _ => by simp at h
  | _ :: _, [], h, _, _ => by simp at h
  | a :: x, b :: y, h, h1, h2 => by
    rw [bl_cons] at h1 h2
    simp only [Bool.or_eq_false_iff, Bool.and_eq_false_iff, decide_eq_false_iff_not] at h1 h2
    have e : a = b := by
      have h3 : ¬ a.toNat < b.toNat := h1.1
      have h4 : ¬ b.toNat < a.toNat := h2.1
      exact UInt8.toNat_inj.1 (by omega)
    subst e
    have h5 := h1.2.resolve_left (by simp)
    have h6 := h2.2.resolve_left (by simp)
    rw [bl_antis x y (by simpa using h) h5 h6]
theorem bl_trans : ∀ a b c : List UInt8, Op.bytesLess a b = true → Op.bytesLess b c = true → Op.bytesLess a c = true
  | _, _, [], _, h => by rw [bl_nil] at h; cases h
  | _, [], _ :: _, h, _ => by rw [bl_nil] at h; cases h
  | [], _ :: _, _ :: _, _, _ => rfl
  | a :: x, b :: y, c :: z, h1, h2 => by
    rw [bl_cons] at h1 h2 ⊢
    simp only [Bool.or_eq_true, Bool.and_eq_true, decide_eq_true_eq, beq_iff_eq] at h1 h2 ⊢
    rcases h1 with h1 | ⟨rfl, h1⟩
    · rcases h2 with h2 | ⟨rfl, h2⟩
      · left; exact UInt8.lt_trans h1 h2
      · exact .inl h1
    · rcases h2 with h2 | ⟨rfl, h2⟩
      · exact .inl h2
      · exact .inr ⟨rfl, bl_trans x y z h1 h2⟩
theorem bl_app : ∀ (a a' b b' : List UInt8), a.length = a'.length → Op.bytesLess (a ++ b) (a' ++ b') = (Op.bytesLess a a' || (a == a' && Op.bytesLess b b'))
  | [], [], b, b', _ => by simp [bl_nil]
  | [], _ :: _, _, _, h => by simp at h
  | _ :: _, [], _, _, h => by simp at h
  | x :: a, y :: a', b, b', h => by
    rw [List.cons_append, List.cons_append, bl_cons, bl_cons, bl_app a a' b b' (by simpa using h)]
    by_cases c : x = y
    · subst c
      by_cases d : a = a'
      · subst d; simp [bl_irrefl]
      · simp [d]
    · have e : (x == y) = false := by simpa using c
      have e2 : ((x :: a) == (y :: a')) = false := by simp [c]
      rw [e, e2]; simp
/-- No worse than. -/
def leP (a b : List UInt8) : Prop := ¬ lessP b a
theorem leP_iff {a b : List UInt8} : leP a b ↔ a.length < b.length ∨ (a.length = b.length ∧ Op.bytesLess b a = false) := by
  unfold leP lessP
  constructor
  · intro h
    rcases Nat.lt_trichotomy a.length b.length with c | c | c
    · exact .inl c
    · refine .inr ⟨c, ?_⟩
      cases e : Op.bytesLess b a with
      | false => rfl
      | true => exact absurd (.inr ⟨c.symm, e⟩) h
    · exact absurd (.inl c) h
  · rintro (h | ⟨h, e⟩) (h' | ⟨h', e'⟩)
    · omega
    · omega
    · omega
    · rw [e] at e'; cases e'
theorem leP_refl (a : List UInt8) : leP a a := leP_iff.2 (.inr ⟨rfl, bl_irrefl a⟩)
theorem leP_antis {a b : List UInt8} (h1 : leP a b) (h2 : leP b a) : a = b := by
  rw [leP_iff] at h1 h2
  rcases h1 with h1 | ⟨h1, e1⟩ <;> rcases h2 with h2 | ⟨h2, e2⟩
  · omega
  · omega
  · omega
  · exact bl_antis a b h1 e2 e1
theorem leP_of_less {a b : List UInt8} (h : lessP a b) : leP a b := by
  rw [leP_iff]
  rcases h with h | ⟨h, e⟩
  · exact .inl h
  · refine .inr ⟨h, ?_⟩
    cases e' : Op.bytesLess b a with
    | false => rfl
    | true => have := bl_trans _ _ _ e e'; rw [bl_irrefl] at this; cases this
theorem leP_trans {a b c : List UInt8} (h1 : leP a b) (h2 : leP b c) : leP a c := by
  rw [leP_iff] at h1 h2 ⊢
  rcases h1 with h1 | ⟨h1, e1⟩ <;> rcases h2 with h2 | ⟨h2, e2⟩
  · left; omega
  · left; omega
  · left; omega
  · right
    refine ⟨h1.trans h2, ?_⟩
    cases e : Op.bytesLess c a with
    | false => rfl
    | true =>
      by_cases d : b = a
      · subst d; rw [e2] at e; cases e
      · cases f : Op.bytesLess a b with
        | true => have := bl_trans _ _ _ e f; rw [e2] at this; cases this
        | false => exact absurd (bl_antis b a h1.symm e1 f) d
theorem leP_cons {a a' b b' : List UInt8} (h1 : leP a a') (h2 : leP b b') : leP (a ++ [32] ++ b) (a' ++ [32] ++ b') := by
  rw [leP_iff] at h1 h2 ⊢
  simp only [List.length_append, List.length_singleton]
  rcases h1 with h1 | ⟨h1, e1⟩
  · left; rcases h2 with h2 | ⟨h2, _⟩ <;> omega
  · rcases h2 with h2 | ⟨h2, e2⟩
    · left; omega
    · right
      refine ⟨by omega, ?_⟩
      rw [bl_app _ _ _ _ (by simp [h1]), bl_app _ _ _ _ h1.symm, e1]
      rw [show Op.bytesLess [32] [32] = false from rfl]
      simp [e2]
theorem leP_rep {t t' : List UInt8} (n : Nat) (h : leP t t') : leP (repT t n) (repT t' n) := by
  rw [leP_iff] at h ⊢
  unfold repT
  simp only [List.length_cons, List.length_append, List.length_nil]
  rcases h with h | ⟨h, e⟩
  · left; omega
  · right
    refine ⟨by omega, ?_⟩
    rw [bl_cons, List.append_assoc, List.append_assoc, bl_app _ _ _ _ h.symm, e, bl_irrefl]
    simp
theorem better_cases (a b : List UInt8) : betterS a b = a ∨ betterS a b = b := by
  unfold betterS; split
  · exact .inr rfl
  · exact .inl rfl
theorem better_le_left {a b : List UInt8} (ha : a ≠ []) (hb : b ≠ []) : leP (betterS a b) a := by
  unfold betterS
  split
  · rename_i h
    rcases h with h | h
    · exact absurd h ha
    · exact leP_of_less h.2
  · exact leP_refl a
theorem better_le_right {a b : List UInt8} (hb : b ≠ []) : leP (betterS a b) b := by
  unfold betterS
  split
  · exact leP_refl b
  · rename_i h
    simp only [not_or, not_and] at h
    exact h.2 hb
theorem better_ne {a b : List UInt8} (hb : b ≠ []) : betterS a b ≠ [] := by
  unfold betterS
  split
  · exact hb
  · rename_i h; simp only [not_or] at h; exact h.1
end Go.G14
namespace Go.G14
open Go.Lw

theorem times_front (ys : List Stitch) (k : Nat) : timesS ys (k + 1) = ys ++ timesS ys k := by simp [timesS, List.replicate_succ]
theorem period {m : Nat} : ∀ (k : Nat) (l : List Stitch), l.length = m * k → l.drop m = l.take (l.length - m) → l = timesS (l.take m) k
  | 0, l, hl, _ => by simp at hl; subst hl; simp [timesS]
  | 1, l, hl, _ => by rw [List.take_of_length_le (by omega)]; simp [timesS]
  | k + 2, l, hl, h => by
    have hlen : l.length = m + m * (k + 1) := by rw [hl, show k + 2 = (k + 1) + 1 from rfl, Nat.mul_succ]; omega
    have hk : m ≤ m * (k + 1) := Nat.le_mul_of_pos_right m (by omega)
    have h1 : (l.drop m).length = m * (k + 1) := by simp; omega
    have h2 : (l.drop m).drop m = (l.drop m).take ((l.drop m).length - m) := by
      conv => lhs; rw [h]
      rw [List.drop_take, h1, hlen]
      congr 1; omega
    have h3 : (l.drop m).take m = l.take m := by rw [h, List.take_take, Nat.min_eq_left (by omega)]
    have ih := period (k + 1) (l.drop m) h1 h2
    rw [h3] at ih
    rw [times_front, ← ih, List.take_append_drop]
theorem period_back {ys : List Stitch} {k : Nat} : (timesS ys (k + 1)).drop ys.length = (timesS ys (k + 1)).take ((timesS ys (k + 1)).length - ys.length) := by
  have e1 : (timesS ys (k + 1)).drop ys.length = timesS ys k := by rw [times_front, List.drop_left]
  have e2 : (timesS ys (k + 1)).take ((timesS ys (k + 1)).length - ys.length) = timesS ys k := by
    rw [times_succ, List.length_append, Nat.add_sub_cancel, List.take_left]
  rw [e1, e2]
theorem part_split {row : List Stitch} {i m n : Nat} (h : m ≤ n) : partS row i n = partS row i m ++ partS row (i + m) (n - m) := by
  unfold partS
  rw [← List.drop_drop]
  conv => lhs; rw [show n = m + (n - m) by omega]
  exact List.take_add
theorem part_take {row : List Stitch} {i m n : Nat} (h : m ≤ n) : (partS row i n).take m = partS row i m := by
  unfold partS; rw [List.take_take, Nat.min_eq_left h]
theorem part_times {row : List Stitch} {i n k : Nat} (hi : i + n ≤ row.length) (hk : n / k * k = n) (hr : repsB row i n (n / k) = true) : timesS (partS row i (n / k)) k = partS row i n := by
  have h := (repsB_iff hi).1 hr
  have hl := part_len hi
  have := period (m := n / k) k (partS row i n) (by rw [hl, hk]) h
  rw [part_take (Nat.div_le_self _ _)] at this
  exact this.symm
theorem part_of_times {row : List Stitch} {i n k : Nat} {ys : List Stitch} (hi : i + n ≤ row.length) (hk : 1 ≤ k) (h : timesS ys k = partS row i n) : n / k * k = n ∧ ys = partS row i (n / k) ∧ repsB row i n (n / k) = true ∧ ys.length = n / k := by
  have hl : k * ys.length = n := by rw [← times_len, h, part_len hi]
  have hd : n / k = ys.length := by rw [← hl]; exact Nat.mul_div_cancel_left _ (by omega)
  obtain ⟨j, rfl⟩ : ∃ j, k = j + 1 := ⟨k - 1, by omega⟩
  refine ⟨by rw [hd, Nat.mul_comm]; exact hl, ?_, ?_, hd.symm⟩
  · rw [hd, ← part_take (n := n) (by rw [← hl]; exact Nat.le_mul_of_pos_left _ (by omega)), ← h, times_front, List.take_left]
  · rw [repsB_iff hi, hd, ← h]; exact period_back
def ItemOk (t : List UInt8) (xs : List Stitch) : Prop := (t ≠ [] → Txt false t xs) ∧ ∀ s, Txt false s xs → t ≠ [] ∧ leP t s
def RowOk (t : List UInt8) (xs : List Stitch) : Prop := Txt true t xs ∧ ∀ s, Txt true s xs → leP t s
theorem rep_ne (t : List UInt8) (n : Nat) : repT t n ≠ [] := by simp [repT]
theorem item_inv {row : List Stitch} {i n : Nat} (hok : row.all okB = true) (hi : i + n ≤ row.length) (hn : 1 ≤ n) (h16 : n ≤ 16) (t : Nat → Nat → List UInt8 × List UInt8)
    (ih : ∀ m, 1 ≤ m → m < n → RowOk (t i m).2 (partS row i m)) : ∀ k, k < n →
    (itemTo t row i n k ≠ [] → Txt false (itemTo t row i n k) (partS row i n)) ∧
    (∀ x, partS row i n = [x] → itemTo t row i n k ≠ [] ∧ leP (itemTo t row i n k) (textS x)) ∧
    (∀ times, 2 ≤ times → times ≤ k + 1 → n / times * times = n → repsB row i n (n / times) = true → itemTo t row i n k ≠ [] ∧ leP (itemTo t row i n k) (repT (t i (n / times)).2 times))
  | 0, _ => by
    have hx : ∀ x, partS row i n = [x] → itemTo t row i n 0 = textS x ∧ checkS x = 0 := by
      intro x hx
      have hl := part_len hi
      rw [hx] at hl
      have h1 : n = 1 := hl.symm
      subst h1
      have hget : row[i]? = some x := by
        have := congrArg (·[0]?) hx
        simpa [partS] using this
      have hck := (okB_iff x).1 (List.all_eq_true.1 hok x (List.mem_of_getElem? hget))
      refine ⟨?_, hck⟩
      rw [itemTo, if_pos rfl, List.getD, hget]; rfl
    refine ⟨fun h => ?_, fun x e => ?_, fun times h1 h2 => by omega⟩
    · by_cases h1 : n = 1
      · subst h1
        obtain ⟨x, hx1⟩ : ∃ x, partS row i 1 = [x] := by
          have hl := part_len hi
          exact List.length_eq_one_iff.1 hl
        obtain ⟨e1, e2⟩ := hx x hx1
        rw [e1, hx1]; exact Txt.leaf e2
      · rw [itemTo, if_neg h1] at h; exact absurd rfl h
    · obtain ⟨e1, e2⟩ := hx x e
      rw [e1]; exact ⟨(text_ok_of e2).2.2.2, leP_refl _⟩
  | k + 1, hk => by
    obtain ⟨i1, i2, i3⟩ := item_inv hok hi hn h16 t ih k (by omega)
    by_cases c : n / (k + 2) * (k + 2) = n ∧ repsB row i n (n / (k + 2)) = true
    · have e : itemTo t row i n (k + 1) = betterS (itemTo t row i n k) (repT (t i (n / (k + 2))).2 (k + 2)) := (itemTo_yes c.1 c.2).symm
      have hne : betterS (itemTo t row i n k) (repT (t i (n / (k + 2))).2 (k + 2)) ≠ [] := better_ne (rep_ne _ _)
      have hm1 : 1 ≤ n / (k + 2) := by
        rcases Nat.eq_zero_or_pos (n / (k + 2)) with z | z
        · rw [z] at c; omega
        · exact z
      have hm2 : n / (k + 2) < n := Nat.div_lt_self (by omega) (by omega)
      have hT : Txt false (repT (t i (n / (k + 2))).2 (k + 2)) (partS row i n) := by
        have := Txt.rep (ih _ hm1 hm2).1 (show 2 ≤ k + 2 by omega) (by omega)
        rwa [part_times hi c.1 c.2] at this
      have hleft : itemTo t row i n k ≠ [] → leP (betterS (itemTo t row i n k) (repT (t i (n / (k + 2))).2 (k + 2))) (itemTo t row i n k) := fun h => better_le_left h (rep_ne _ _)
      rw [e]
      refine ⟨fun _ => ?_, fun x hx => ⟨hne, ?_⟩, fun times h1 h2 h3 h4 => ⟨hne, ?_⟩⟩
      · rcases better_cases (itemTo t row i n k) (repT (t i (n / (k + 2))).2 (k + 2)) with e2 | e2
        · rw [e2]; rw [e2] at hne; exact i1 hne
        · rw [e2]; exact hT
      · have := i2 x hx; exact leP_trans (hleft this.1) this.2
      · rcases Nat.lt_or_ge times (k + 2) with h | h
        · have := i3 times h1 (by omega) h3 h4; exact leP_trans (hleft this.1) this.2
        · obtain rfl : times = k + 2 := by omega
          exact better_le_right (rep_ne _ _)
    · rw [← itemTo_no c]
      refine ⟨i1, i2, fun times h1 h2 h3 h4 => ?_⟩
      rcases Nat.lt_or_ge times (k + 2) with h | h
      · exact i3 times h1 (by omega) h3 h4
      · obtain rfl : times = k + 2 := by omega
        exact absurd ⟨h3, h4⟩ c
theorem cons_ne (a b : List UInt8) : a ++ [32] ++ b ≠ [] := by simp
theorem text_inv {row : List Stitch} {i n : Nat} (t : Nat → Nat → List UInt8 × List UInt8) (item : List UInt8) (hit : item ≠ [] → Txt false item (partS row i n))
    (ih : ∀ m, 1 ≤ m → m < n → ItemOk (t i m).1 (partS row i m) ∧ RowOk (t (i + m) (n - m)).2 (partS row (i + m) (n - m))) : ∀ k, k < n →
    (textTo t i n item k ≠ [] → Txt true (textTo t i n item k) (partS row i n)) ∧ (item ≠ [] → textTo t i n item k ≠ [] ∧ leP (textTo t i n item k) item) ∧
    (∀ m, 1 ≤ m → m ≤ k → (t i m).1 ≠ [] → textTo t i n item k ≠ [] ∧ leP (textTo t i n item k) ((t i m).1 ++ [32] ++ (t (i + m) (n - m)).2))
  | 0, _ => ⟨fun h => .one (hit h), fun h => ⟨h, leP_refl _⟩, fun m h1 h2 => by omega⟩
  | k + 1, hk => by
    obtain ⟨i1, i2, i3⟩ := text_inv t item hit ih k (by omega)
    by_cases c : (t i (k + 1)).1 ≠ []
    · rw [← textTo_yes c]
      have hne : betterS (textTo t i n item k) ((t i (k + 1)).1 ++ [32] ++ (t (i + (k + 1)) (n - (k + 1))).2) ≠ [] := better_ne (cons_ne _ _)
      have hT : Txt true ((t i (k + 1)).1 ++ [32] ++ (t (i + (k + 1)) (n - (k + 1))).2) (partS row i n) := by
        obtain ⟨j1, j2⟩ := ih (k + 1) (by omega) hk
        rw [part_split (m := k + 1) (by omega)]
        exact .cons (j1.1 c) j2.1
      have hleft : textTo t i n item k ≠ [] → leP (betterS (textTo t i n item k) ((t i (k + 1)).1 ++ [32] ++ (t (i + (k + 1)) (n - (k + 1))).2)) (textTo t i n item k) := fun h => better_le_left h (cons_ne _ _)
      refine ⟨fun _ => ?_, fun h => ⟨hne, ?_⟩, fun m h1 h2 h3 => ⟨hne, ?_⟩⟩
      · rcases better_cases (textTo t i n item k) ((t i (k + 1)).1 ++ [32] ++ (t (i + (k + 1)) (n - (k + 1))).2) with e2 | e2
        · rw [e2]; rw [e2] at hne; exact i1 hne
        · rw [e2]; exact hT
      · have := i2 h; exact leP_trans (hleft this.1) this.2
      · rcases Nat.lt_or_ge m (k + 1) with h | h
        · have := i3 m h1 (by omega) h3; exact leP_trans (hleft this.1) this.2
        · obtain rfl : m = k + 1 := by omega
          exact better_le_right (cons_ne _ _)
    · rw [← textTo_no c]
      refine ⟨i1, i2, fun m h1 h2 h3 => ?_⟩
      rcases Nat.lt_or_ge m (k + 1) with h | h
      · exact i3 m h1 (by omega) h3
      · obtain rfl : m = k + 1 := by omega
        exact absurd h3 c
theorem T_ok {row : List Stitch} (hok : row.all okB = true) (h16 : row.length ≤ 16) (n : Nat) : 1 ≤ n → ∀ i, i + n ≤ row.length → ItemOk (T row i n).1 (partS row i n) ∧ RowOk (T row i n).2 (partS row i n) := by
  induction n using Nat.strongRecOn with
  | _ n ih =>
    intro hn i hi
    have hitem : ItemOk (T row i n).1 (partS row i n) := by
      obtain ⟨i1, i2, i3⟩ := item_inv hok hi hn (by omega) (T row) (fun m h1 h2 => (ih m h2 h1 i (by omega)).2) (n - 1) (by omega)
      rw [← T_item row i n hn (by omega)] at i1 i2 i3
      refine ⟨i1, fun s hs => ?_⟩
      generalize hp : partS row i n = xs at hs
      generalize hb : false = tg at hs
      cases hs with
      | leaf h => exact i2 _ hp
      | @rep t' ys k hT h2 hk16 =>
        obtain ⟨e1, e2, e3, e4⟩ := part_of_times hi (by omega) hp.symm
        have hy := hT.ok.1
        have hm1 : 1 ≤ n / k := by
          rw [← e4]; exact List.length_pos_iff.2 hy
        have hm2 : n / k < n := Nat.div_lt_self (by omega) (by omega)
        have hkn : k ≤ n := by
          have := Nat.mul_le_mul_right k hm1
          omega
        have h3 := i3 k h2 (by omega) e1 e3
        refine ⟨h3.1, leP_trans h3.2 (leP_rep k ((ih (n / k) hm2 hm1 i (by omega)).2.2 t' ?_))⟩
        rw [← e2]; exact hT
      | one => cases hb
      | cons => cases hb
    refine ⟨hitem, ?_⟩
    obtain ⟨r1, r2, r3⟩ := text_inv (row := row) (T row) (T row i n).1 hitem.1 (fun m h1 h2 => ⟨(ih m h2 h1 i (by omega)).1, (ih (n - m) (by omega) (by omega) (i + m) (by omega)).2⟩) (n - 1) (by omega)
    rw [← T_text row i n hn (by omega)] at r1 r2 r3
    have hleast : ∀ s, Txt true s (partS row i n) → (T row i n).2 ≠ [] ∧ leP (T row i n).2 s := by
      intro s hs
      generalize hp : partS row i n = xs at hs
      generalize hb : true = tg at hs
      cases hs with
      | leaf => cases hb
      | rep => cases hb
      | one h =>
        have h1 := hitem.2 s (by rw [hp]; exact h)
        have h2 := r2 h1.1
        exact ⟨h2.1, leP_trans h2.2 h1.2⟩
      | @cons a b ys zs ha hbT =>
        have hl := part_len hi
        rw [hp, List.length_append] at hl
        have hy : 1 ≤ ys.length := List.length_pos_iff.2 ha.ok.1
        have hz : 1 ≤ zs.length := List.length_pos_iff.2 hbT.ok.1
        have e1 : ys = partS row i ys.length := by rw [← part_take (n := n) (by omega), hp, List.take_left]
        have e2 : zs = partS row (i + ys.length) (n - ys.length) := by
          have := part_split (row := row) (i := i) (m := ys.length) (n := n) (by omega)
          rw [hp, ← e1] at this
          exact List.append_cancel_left this
        have h1 := (ih ys.length (by omega) hy i (by omega)).1.2 a (by rw [← e1]; exact ha)
        have h2 := (ih (n - ys.length) (by omega) (by omega) (i + ys.length) (by omega)).2.2 b (by rw [← e2]; exact hbT)
        have h3 := r3 ys.length hy (by omega) h1.1
        exact ⟨h3.1, leP_trans h3.2 (leP_cons h1.2 h2)⟩
    have hex : ∃ s, Txt true s (partS row i n) := by
      have all : ∀ l : List Stitch, l ≠ [] → l.all okB = true → ∃ s, Txt true s l := by
        intro l
        induction l with
        | nil => intro h; exact absurd rfl h
        | cons x l ihl =>
          intro _ h
          simp only [List.all_cons, Bool.and_eq_true] at h
          have hx := (okB_iff x).1 h.1
          cases l with
          | nil => exact ⟨_, .one (.leaf hx)⟩
          | cons y l =>
            obtain ⟨s, hs⟩ := ihl (by simp) h.2
            exact ⟨_, .cons (.leaf hx) hs⟩
      refine all _ (fun e => by have := part_len hi; rw [e] at this; simp at this; omega) ?_
      rw [List.all_eq_true] at hok ⊢
      exact fun x hx => hok x (List.mem_of_mem_drop (List.mem_of_mem_take hx))
    obtain ⟨s, hs⟩ := hex
    exact ⟨r1 (hleast s hs).1, fun s hs => (hleast s hs).2⟩
/-- The shortest text: it stands for the row, and no text of the row is better. -/
theorem short_ok {row : List Stitch} (hok : row.all okB = true) (h1 : 1 ≤ row.length) (h16 : row.length ≤ 16) : RowOk (shortS row) row := by
  have := (T_ok hok h16 row.length h1 0 (by omega)).2
  rwa [show partS row 0 row.length = row by simp [partS]] at this
theorem short_back {row : List Stitch} (hok : row.all okB = true) (h1 : 1 ≤ row.length) (h16 : row.length ≤ 16) : expandS (shortS row) = (row, 0) :=
  expand_complete (short_ok hok h1 h16).1 (by have := (T_len row 0 row.length h1).2; show (T row 0 row.length).2.length ≤ 1024; omega) h16
end Go.G14
namespace Go.G14
open Go.Lw

theorem shorten_good {xs : List Stitch} (hok : xs.all okB = true) (h1 : 1 ≤ xs.length) (h16 : xs.length ≤ 16) : shortenS xs = (shortS xs, 0) := by
  rw [shortenS, if_neg (by omega), if_neg (by omega), if_pos hok]
theorem least_facts {l : List UInt8} (h : (expandS l).2 = 0) : shortenS (expandS l).1 = (shortS (expandS l).1, 0) ∧ ¬ lessP l (shortS (expandS l).1) := by
  have e : expandS l = ((expandS l).1, 0) := by rw [← h]
  obtain ⟨hT, h16⟩ := expand_sound e
  have hk := hT.ok
  have h1 : 1 ≤ (expandS l).1.length := List.length_pos_iff.2 hk.1
  exact ⟨shorten_good hk.2 h1 h16, (short_ok hk.2 h1 h16).2 l hT⟩
end Go.G14
namespace Go.Proofs.YtbbnampdgefljaaDoor
open Go.Lw Go.G14
theorem co17 : CallOf Tryd.prog 17 := CallOf.mk' Tryd.func17 (by kernel_rfl) (by kernel_rfl)
end Go.Proofs.YtbbnampdgefljaaDoor
namespace Go.Proofs.YtbbnampdgefljaaDoor
open Go.Lw Go.G14
theorem law_least (l : List UInt8) (w0 : World) (hy : Sym w0) (hlen : l.length ≤ 9223372036854775807) : Rets Tryd.prog 5 #[S l] w0 fun v w' => v = .bool true ∧ Fr [] w0 w' := by
  refine enter [(0, S l)] Tryd.func5 rfl Tryd.ntmps5 rfl (.cons rfl .nil) ?_
  have hf := Fr.refl [] w0
  intro a h
  refine wp_seq ?_
  refine wp_region_lit ?_
  refine st_assign h rfl rfl ?_; clear h a; intro a h
  replace h : Ag a 34 [(0, _)] := h.sub (.cons rfl .nil)
  refine wpList_nil (norm_then ?_)
  refine wp_seq ?_
  refine wp_seq ?_
  refine wp_region_lit ?_
  refine st_move h rfl rfl ?_; clear h a; intro a h
  refine st_len h rfl Tryd.underlying9 rfl ?_; clear h a; intro a h
  refine st_gt h rfl rfl rfl ?_; clear h a; intro a h
  replace h : Ag a 34 [(0, _), (9, _)] := h.sub (.cons rfl (.cons rfl .nil))
  refine wpList_nil (norm_then ?_)
  first | refine cond_dec h rfl (fun c0 => ?_) (fun c0 => ?_) | refine cond_ndec h rfl (fun c0 => ?_) (fun c0 => ?_) | refine cond_split h rfl (fun c0 => ?_) (fun c0 => ?_)
  · refine id ?_
    refine wp_seq ?_
    refine wp_region_lit ?_
    refine st_assign h rfl rfl ?_; clear h a; intro a h
    replace h : Ag a 34 [(2, _)] := h.sub (.cons rfl .nil)
    refine wpList_nil (norm_then ?_)
    refine wp_ret (ret_then ?_)
    refine ret1 h Tryd.results5 rfl ?_
    first | exact ⟨_, rfl, rfl, hf⟩ | (exfalso; simp_all)
  · refine id ?_
    refine wp_skip (norm_then ?_)
    refine wp_seq ?_
    refine wp_region_lit ?_
    refine st_move h rfl rfl ?_; clear h a; intro a h
    refine st_call h (evs_cons rfl evs_nil) co11 (refexpand_ok _ _ hy) rfl ?_; clear h a; rintro _ w1 ⟨x2, R, rfl, hR1, hR2, hs2, hq⟩ a h
    replace hf := hf.next hq
    replace hy := hy.ext hq
    clear hq
    obtain rfl : R = expandS l := mach_all hR1 hR2
    clear hR1 hR2
    refine st_move h rfl rfl ?_; clear h a; intro a h
    refine st_extract h rfl rfl rfl ?_; clear h a; intro a h
    refine st_extract h rfl rfl rfl ?_; clear h a; intro a h
    refine st_assign h rfl rfl ?_; clear h a; intro a h
    refine st_assign h rfl rfl ?_; clear h a; intro a h
    replace h : Ag a 34 [(0, _), (3, _), (4, _)] := h.sub (.cons rfl (.cons rfl (.cons rfl .nil)))
    refine wpList_nil (norm_then ?_)
    refine wp_seq ?_
    refine wp_seq ?_
    refine wp_region_lit ?_
    refine st_move h rfl rfl ?_; clear h a; intro a h
    refine st_ne h rfl rfl rfl ?_; clear h a; intro a h
    replace h : Ag a 34 [(0, _), (3, _), (16, _)] := h.sub (.cons rfl (.cons rfl (.cons rfl .nil)))
    refine wpList_nil (norm_then ?_)
    first | refine cond_dec h rfl (fun c1 => ?_) (fun c1 => ?_) | refine cond_ndec h rfl (fun c1 => ?_) (fun c1 => ?_) | refine cond_split h rfl (fun c1 => ?_) (fun c1 => ?_)
    · refine id ?_
      refine wp_seq ?_
      refine wp_region_lit ?_
      refine st_call h evs_nil co12 (lives_ok _ hy) rfl ?_; clear h a; rintro _ w2 ⟨rfl, hq⟩ a h
      replace hf := hf.next hq
      replace hy := hy.ext hq
      replace hs2 := hs2.ext hq
      clear hq
      refine st_assign h rfl rfl ?_; clear h a; intro a h
      replace h : Ag a 34 [(2, _)] := h.sub (.cons rfl .nil)
      refine wpList_nil (norm_then ?_)
      refine wp_ret (ret_then ?_)
      refine ret1 h Tryd.results5 rfl ?_
      first | exact ⟨_, rfl, rfl, hf⟩ | (exfalso; simp_all)
    · obtain ⟨hsh, hnl⟩ := least_facts (by omega : (expandS l).2 = 0)
      refine wp_skip (norm_then ?_)
      refine wp_seq ?_
      refine wp_region_lit ?_
      refine st_move h rfl rfl ?_; clear h a; intro a h
      refine st_call h (evs_cons rfl evs_nil) co14 (shorten_ok _ _ _ hs2 hy) rfl ?_; clear h a; rintro _ w3 ⟨rfl, hq⟩ a h
      replace hf := hf.next hq
      replace hy := hy.ext hq
      replace hs2 := hs2.ext hq
      clear hq
      rw [hsh] at h
      refine st_move h rfl rfl ?_; clear h a; intro a h
      refine st_extract h rfl rfl rfl ?_; clear h a; intro a h
      refine st_extract h rfl rfl rfl ?_; clear h a; intro a h
      refine st_assign h rfl rfl ?_; clear h a; intro a h
      refine st_assign h rfl rfl ?_; clear h a; intro a h
      replace h : Ag a 34 [(0, _), (5, _), (6, _)] := h.sub (.cons rfl (.cons rfl (.cons rfl .nil)))
      refine wpList_nil (norm_then ?_)
      refine wp_seq ?_
      refine wp_region_lit ?_
      refine st_move h rfl rfl ?_; clear h a; intro a h
      refine st_eq h rfl rfl rfl ?_; clear h a; intro a h
      refine st_move h rfl rfl ?_; clear h a; intro a h
      first | refine guard_dec (D := 25) h rfl ?_ ?_ | refine guard_ndec (D := 25) h rfl ?_ ?_ | refine guard_any (D := 25) h rfl ?_ ?_
      · clear h; intro g0 h
        refine gd_yes h rfl rfl rfl rfl rfl rfl ?_
        refine st_move h rfl rfl ?_; clear h a; intro a h
        refine gd_yes h rfl rfl rfl rfl rfl rfl ?_
        refine st_move h rfl rfl ?_; clear h a; intro a h
        refine gd_yes h rfl rfl rfl rfl rfl rfl ?_
        refine st_call h (evs_cons rfl (evs_cons rfl evs_nil)) co17 (less_ok _ _ _) rfl ?_; clear h a; rintro _ _ ⟨rfl, rfl⟩ a h
        rw [if_neg hnl] at h
        refine gd_yes h rfl rfl rfl rfl rfl rfl ?_
        refine st_eq h rfl rfl rfl ?_; clear h a; intro a h
        refine st_pick_t h rfl rfl rfl rfl ?_; clear h a; intro a h
        refine st_move h rfl rfl ?_; clear h a; intro a h
        first | refine guard_dec (D := 31) h rfl ?_ ?_ | refine guard_ndec (D := 31) h rfl ?_ ?_ | refine guard_any (D := 31) h rfl ?_ ?_
        · clear h; intro g1 h
          refine gd_yes h rfl rfl rfl rfl rfl rfl ?_
          refine st_call h evs_nil co12 (lives_ok _ hy) rfl ?_; clear h a; rintro _ w4 ⟨rfl, hq⟩ a h
          replace hf := hf.next hq
          replace hy := hy.ext hq
          replace hs2 := hs2.ext hq
          clear hq
          refine st_pick_t h rfl rfl rfl rfl ?_; clear h a; intro a h
          refine st_assign h rfl rfl ?_; clear h a; intro a h
          replace h : Ag a 34 [(2, _)] := h.sub (.cons rfl .nil)
          refine wpList_nil (norm_then ?_)
          refine wp_ret ?_
          refine ret1 h Tryd.results5 rfl ?_
          first | exact ⟨_, rfl, rfl, hf⟩ | (exfalso; simp_all)
        · clear h; intro g1 h
          refine gd_no h rfl rfl rfl rfl rfl rfl rfl rfl ?_; clear h a; intro a h
          refine st_pick_f h rfl rfl rfl rfl ?_; clear h a; intro a h
          refine st_assign h rfl rfl ?_; clear h a; intro a h
          replace h : Ag a 34 [(2, _)] := h.sub (.cons rfl .nil)
          refine wpList_nil (norm_then ?_)
          refine wp_ret ?_
          refine ret1 h Tryd.results5 rfl ?_
          first | exact ⟨_, rfl, rfl, hf⟩ | (exfalso; simp_all)
      · clear h; intro g0 h
        refine gd_no h rfl rfl rfl rfl rfl rfl rfl rfl ?_; clear h a; intro a h
        refine gd_no h rfl rfl rfl rfl rfl rfl rfl rfl ?_; clear h a; intro a h
        refine gd_no h rfl rfl rfl rfl rfl rfl rfl rfl ?_; clear h a; intro a h
        refine gd_no h rfl rfl rfl rfl rfl rfl rfl rfl ?_; clear h a; intro a h
        refine st_pick_f h rfl rfl rfl rfl ?_; clear h a; intro a h
        refine st_move h rfl rfl ?_; clear h a; intro a h
        refine gd_no h rfl rfl rfl rfl rfl rfl rfl rfl ?_; clear h a; intro a h
        refine st_pick_f h rfl rfl rfl rfl ?_; clear h a; intro a h
        refine st_assign h rfl rfl ?_; clear h a; intro a h
        replace h : Ag a 34 [(2, _)] := h.sub (.cons rfl .nil)
        refine wpList_nil (norm_then ?_)
        refine wp_ret ?_
        refine ret1 h Tryd.results5 rfl ?_
        first | exact ⟨_, rfl, rfl, hf⟩ | (exfalso; simp_all)
end Go.Proofs.YtbbnampdgefljaaDoor
namespace Go.G14
open Go.Lw

abbrev bT (row : List Stitch) (i n : Nat) : List UInt8 := (T row i n).2
abbrev bothT (row : List Stitch) (i n k : Nat) : List UInt8 := bT row i k ++ [32] ++ bT row (i + k) (n - k)
def refStep (row : List Stitch) (i n k : Nat) (t : List UInt8) : List UInt8 :=
  if n % k = 0 ∧ repsB row i n k = true then betterS (betterS t (bothT row i n k)) (repT (bT row i k) (n / k)) else betterS t (bothT row i n k)
def refTo (row : List Stitch) (i n : Nat) : Nat → List UInt8
  | 0 => if n = 1 then textS (row.getD i zeroSt) else []
  | k + 1 => refStep row i n (k + 1) (refTo row i n k)
theorem better_inv {xs : List Stitch} {t c : List UInt8} {C : List UInt8 → Prop} (h : (t ≠ [] → Txt true t xs) ∧ ∀ s, C s → t ≠ [] ∧ leP t s) (hc : Txt true c xs) (hn : c ≠ []) :
    (betterS t c ≠ [] → Txt true (betterS t c) xs) ∧ (∀ s, C s ∨ s = c → betterS t c ≠ [] ∧ leP (betterS t c) s) := by
  have hne : betterS t c ≠ [] := better_ne hn
  refine ⟨fun _ => ?_, fun s hs => ⟨hne, ?_⟩⟩
  · rcases better_cases t c with e | e
    · rw [e] at hne ⊢; exact h.1 hne
    · rw [e]; exact hc
  · rcases hs with hs | rfl
    · obtain ⟨h1, h2⟩ := h.2 s hs
      exact leP_trans (better_le_left h1 hn) h2
    · exact better_le_right hn
/-- What has been tried with the first m stitches up to k. -/
def Tried (row : List Stitch) (i n k : Nat) (s : List UInt8) : Prop :=
  (n = 1 ∧ s = textS (row.getD i zeroSt)) ∨ ∃ m, 1 ≤ m ∧ m ≤ k ∧ (s = bothT row i n m ∨ (n % m = 0 ∧ repsB row i n m = true ∧ s = repT (bT row i m) (n / m)))
theorem mod_div {n k : Nat} (h : n % k = 0) : n / k * k = n := by
  have := Nat.div_add_mod n k
  rw [h, Nat.mul_comm] at this; omega
theorem div_div {n m : Nat} (h1 : 1 ≤ m) (hn : 1 ≤ n) (h : n % m = 0) : n / (n / m) = m := by
  have e := mod_div h
  have hq : 1 ≤ n / m := by
    rcases Nat.eq_zero_or_pos (n / m) with z | z
    · rw [z] at e; omega
    · exact z
  refine Nat.div_eq_of_lt_le ?_ ?_
  · rw [Nat.mul_comm]; omega
  · rw [Nat.mul_comm]
    have h2 : n / m * (m + 1) = n / m * m + n / m := by rw [Nat.mul_add, Nat.mul_one]
    omega
theorem ref_inv {row : List Stitch} {i n : Nat} (hok : row.all okB = true) (h16 : row.length ≤ 16) (hi : i + n ≤ row.length) (hn : 1 ≤ n) : ∀ k, k < n →
    (refTo row i n k ≠ [] → Txt true (refTo row i n k) (partS row i n)) ∧ (∀ s, Tried row i n k s → refTo row i n k ≠ [] ∧ leP (refTo row i n k) s)
  | 0, _ => by
    by_cases h1 : n = 1
    · subst h1
      obtain ⟨x, hx⟩ : ∃ x, row[i]? = some x := ⟨_, List.getElem?_eq_getElem (by omega)⟩
      have hck := (okB_iff x).1 (List.all_eq_true.1 hok x (List.mem_of_getElem? hx))
      have e : refTo row i 1 0 = textS x := by rw [refTo, if_pos rfl, List.getD, hx]; rfl
      have ep : partS row i 1 = [x] := by
        have hl := part_len hi
        obtain ⟨y, hy⟩ := List.length_eq_one_iff.1 hl
        have := congrArg (·[0]?) hy
        simp [partS, hx] at this
        rw [hy, this]
      refine ⟨fun _ => by rw [e, ep]; exact .one (.leaf hck), fun s hs => ?_⟩
      rcases hs with ⟨_, rfl⟩ | ⟨m, h1, h2, _⟩
      · rw [List.getD, hx, e]; exact ⟨(text_ok_of hck).2.2.2, leP_refl _⟩
      · omega
    · refine ⟨fun h => absurd (by rw [refTo, if_neg h1]) h, fun s hs => ?_⟩
      rcases hs with ⟨h, _⟩ | ⟨m, h1, h2, _⟩
      · exact absurd h h1
      · omega
  | k + 1, hk => by
    have ih := ref_inv hok h16 hi hn k (by omega)
    have ha := (T_ok hok h16 (k + 1) (by omega) i (by omega)).2
    have hb := (T_ok hok h16 (n - (k + 1)) (by omega) (i + (k + 1)) (by omega)).2
    have hT : Txt true (bothT row i n (k + 1)) (partS row i n) := by
      rw [part_split (m := k + 1) (by omega)]
      exact Txt.app ha.1 hb.1
    have h1 := better_inv ih hT (cons_ne _ _)
    have hs1 : ∀ s, Tried row i n (k + 1) s → Tried row i n k s ∨ s = bothT row i n (k + 1) ∨ (n % (k + 1) = 0 ∧ repsB row i n (k + 1) = true ∧ s = repT (bT row i (k + 1)) (n / (k + 1))) := by
      rintro s (h | ⟨m, m1, m2, m3⟩)
      · exact .inl (.inl h)
      · rcases Nat.lt_or_ge m (k + 1) with h | h
        · exact .inl (.inr ⟨m, m1, by omega, m3⟩)
        · obtain rfl : m = k + 1 := by omega
          exact .inr m3
    by_cases c : n % (k + 1) = 0 ∧ repsB row i n (k + 1) = true
    · have e : refTo row i n (k + 1) = betterS (betterS (refTo row i n k) (bothT row i n (k + 1))) (repT (bT row i (k + 1)) (n / (k + 1))) := by rw [refTo, refStep, if_pos c]
      have hd := mod_div c.1
      have hq : 2 ≤ n / (k + 1) := by
        rcases Nat.lt_or_ge (n / (k + 1)) 2 with z | z
        · have : n / (k + 1) * (k + 1) ≤ 1 * (k + 1) := Nat.mul_le_mul_right _ (by omega)
          omega
        · exact z
      have hR : Txt true (repT (bT row i (k + 1)) (n / (k + 1))) (partS row i n) := by
        have h3 := Txt.rep ha.1 hq (by have := Nat.div_le_self n (k + 1); omega)
        have e2 := div_div (show 1 ≤ k + 1 by omega) hn c.1
        have e3 : timesS (partS row i (k + 1)) (n / (k + 1)) = partS row i n := by
          have := part_times (k := n / (k + 1)) hi (by rw [e2, Nat.mul_comm]; exact hd) (by rw [e2]; exact c.2)
          rwa [e2] at this
        rw [e3] at h3
        exact .one h3
      have h2 := better_inv h1 hR (rep_ne _ _)
      rw [e]
      refine ⟨h2.1, fun s hs => h2.2 s ?_⟩
      rcases hs1 s hs with h | h | h
      · exact .inl (.inl h)
      · exact .inl (.inr h)
      · exact .inr h.2.2
    · have e : refTo row i n (k + 1) = betterS (refTo row i n k) (bothT row i n (k + 1)) := by rw [refTo, refStep, if_neg c]
      rw [e]
      refine ⟨h1.1, fun s hs => h1.2 s ?_⟩
      rcases hs1 s hs with h | h | h
      · exact .inl h
      · exact .inr h
      · exact absurd ⟨h.1, h.2.1⟩ c
theorem ref_done {row : List Stitch} {i n : Nat} (hok : row.all okB = true) (h16 : row.length ≤ 16) (hi : i + n ≤ row.length) (hn : 1 ≤ n) : refTo row i n (n - 1) = bT row i n := by
  obtain ⟨r1, r2⟩ := ref_inv hok h16 hi hn (n - 1) (by omega)
  have hB := (T_ok hok h16 n hn i hi).2
  have hleast : refTo row i n (n - 1) ≠ [] ∧ ∀ s, Txt true s (partS row i n) → leP (refTo row i n (n - 1)) s := by
    have key : ∀ s, Txt true s (partS row i n) → refTo row i n (n - 1) ≠ [] ∧ leP (refTo row i n (n - 1)) s := by
      intro s hs
      generalize hp : partS row i n = xs at hs
      generalize hb : true = tg at hs
      cases hs with
      | leaf => cases hb
      | rep => cases hb
      | one h =>
        generalize hb2 : false = tg2 at h
        cases h with
        | one => cases hb2
        | cons => cases hb2
        | @leaf x hx =>
          have hl := part_len hi
          rw [hp] at hl
          have h1 : n = 1 := hl.symm
          subst h1
          have hget : row[i]? = some x := by
            have := congrArg (·[0]?) hp
            simpa [partS] using this
          exact r2 _ (.inl ⟨rfl, by rw [List.getD, hget]; rfl⟩)
        | @rep t' ys k hT h2 hk16 =>
          obtain ⟨e1, e2, e3, e4⟩ := part_of_times hi (by omega) hp.symm
          have hm1 : 1 ≤ n / k := by
            rw [← e4]; exact List.length_pos_iff.2 hT.ok.1
          have hm2 : n / k < n := Nat.div_lt_self (by omega) (by omega)
          have hmod : n % (n / k) = 0 := by
            have : n = n / k * k := e1.symm
            rw [this, Nat.mul_div_cancel _ (by omega)]
            exact Nat.mul_mod_right _ _
          have hdd : n / (n / k) = k := by
            refine Nat.div_eq_of_eq_mul_left (by omega) ?_
            rw [Nat.mul_comm]; exact e1.symm
          have h3 := r2 _ (.inr ⟨n / k, hm1, by omega, .inr ⟨hmod, e3, rfl⟩⟩)
          rw [hdd] at h3
          refine ⟨h3.1, leP_trans h3.2 (leP_rep k ((T_ok hok h16 (n / k) hm1 i (by omega)).2.2 t' ?_))⟩
          rw [← e2]; exact hT
      | @cons a b ys zs ha hbT =>
        have hl := part_len hi
        rw [hp, List.length_append] at hl
        have hy : 1 ≤ ys.length := List.length_pos_iff.2 ha.ok.1
        have hz : 1 ≤ zs.length := List.length_pos_iff.2 hbT.ok.1
        have e1 : ys = partS row i ys.length := by rw [← part_take (n := n) (by omega), hp, List.take_left]
        have e2 : zs = partS row (i + ys.length) (n - ys.length) := by
          have := part_split (row := row) (i := i) (m := ys.length) (n := n) (by omega)
          rw [hp, ← e1] at this
          exact List.append_cancel_left this
        have h1 := (T_ok hok h16 ys.length hy i (by omega)).2.2 a (by rw [← e1]; exact .one ha)
        have h2 := (T_ok hok h16 (n - ys.length) (by omega) (i + ys.length) (by omega)).2.2 b (by rw [← e2]; exact hbT)
        have h3 := r2 _ (.inr ⟨ys.length, hy, by omega, .inl rfl⟩)
        exact ⟨h3.1, leP_trans h3.2 (leP_cons h1 h2)⟩
    exact ⟨(key _ hB.1).1, fun s hs => (key s hs).2⟩
  exact leP_antis (hleast.2 _ hB.1) (hB.2 _ (r1 hleast.1))
end Go.G14
namespace Go.G14
open Go.Lw

theorem idx_lt {n a m : Nat} (h : a + m ≤ n) : a * (n + 1) + a + m < (n + 1) * (n + 1) := by
  have : a * (n + 1) ≤ n * (n + 1) := Nat.mul_le_mul_right _ (by omega)
  rw [Nat.add_mul n 1 (n + 1)]; omega
theorem idx_inj {n a m i L : Nat} (h1 : a + m ≤ n) (h2 : i + L ≤ n) (h : a * (n + 1) + a + m = i * (n + 1) + i + L) : a = i ∧ m = L := by
  have key : ∀ {a m i L : Nat}, a + m ≤ n → i + L ≤ n → a * (n + 1) + a + m = i * (n + 1) + i + L → ¬ a < i := by
    intro a m i L h1 h2 h hlt
    have : (a + 1) * (n + 1) ≤ i * (n + 1) := Nat.mul_le_mul_right _ hlt
    rw [Nat.add_mul] at this; omega
  have e : a = i := by have := key h1 h2 h; have := key h2 h1 h.symm; omega
  subst e; omega
def Filled (xs : List Stitch) (L i : Nat) (tab : List (List UInt8)) : Prop :=
  tab.length = (xs.length + 1) * (xs.length + 1) ∧ ∀ a m, 1 ≤ m → a + m ≤ xs.length → (m < L ∨ (m = L ∧ a < i)) → tab[a * (xs.length + 1) + a + m]? = some (bT xs a m)
theorem fill_start (xs : List Stitch) : Filled xs 1 0 (List.replicate ((xs.length + 1) * (xs.length + 1)) []) :=
  ⟨by simp, fun a m h1 _ h => by omega⟩
theorem fill_next {xs : List Stitch} {L i : Nat} {tab : List (List UInt8)} (hi : xs.length < i + L) (h : Filled xs L i tab) : Filled xs (L + 1) 0 tab :=
  ⟨h.1, fun a m h1 h2 h3 => h.2 a m h1 h2 (by omega)⟩
theorem fill_set {xs : List Stitch} {L i : Nat} {tab : List (List UInt8)} (hi : i + L ≤ xs.length) (h : Filled xs L i tab) : Filled xs L (i + 1) (tab.set (i * (xs.length + 1) + i + L) (bT xs i L)) := by
  refine ⟨by rw [List.length_set]; exact h.1, fun a m h1 h2 h3 => ?_⟩
  rw [List.getElem?_set]
  by_cases e : i * (xs.length + 1) + i + L = a * (xs.length + 1) + a + m
  · obtain ⟨rfl, rfl⟩ := idx_inj hi h2 e
    rw [if_pos rfl, if_pos (by rw [h.1]; exact idx_lt hi)]
  · rw [if_neg e]
    refine h.2 a m h1 h2 ?_
    rcases h3 with h3 | ⟨h3, h4⟩
    · exact .inl h3
    · rcases Nat.lt_or_ge a i with h5 | h5
      · exact .inr ⟨h3, h5⟩
      · exfalso; apply e; rw [show a = i by omega, h3]
def sameB (xs : List Stitch) (i k d : Nat) : Bool := (List.range d).all fun t => decide (xs[i + k + t]? = xs[i + t]?)
theorem same_zero (xs : List Stitch) (i k : Nat) : sameB xs i k 0 = true := rfl
theorem same_next (xs : List Stitch) (i k d : Nat) : sameB xs i k (d + 1) = (sameB xs i k d && decide (xs[i + k + d]? = xs[i + d]?)) := by
  simp [sameB, List.range_succ, List.all_append]
theorem same_yes {xs : List Stitch} {i k d : Nat} {x y : Stitch} (hx : xs[i + k + d]? = some x) (hy : xs[i + d]? = some y) (h : x = y) : sameB xs i k (d + 1) = sameB xs i k d := by
  rw [same_next, hx, hy, h]; simp
theorem same_no {xs : List Stitch} {i k d : Nat} {x y : Stitch} (hx : xs[i + k + d]? = some x) (hy : xs[i + d]? = some y) (h : x ≠ y) : sameB xs i k (d + 1) = false := by
  rw [same_next, hx, hy]; simp [h]
theorem same_reps {xs : List Stitch} {i n k : Nat} (hi : i + n ≤ xs.length) (hk : k ≤ n) : sameB xs i k (n - k) = repsB xs i n k := by
  have e : (sameB xs i k (n - k) = true) ↔ (repsB xs i n k = true) := by
    unfold sameB repsB partS
    rw [List.all_eq_true, decide_eq_true_iff]
    constructor
    · intro h
      apply List.ext_getElem?
      intro t
      rw [List.getElem?_drop, List.getElem?_take, List.getElem?_take, List.getElem?_take, List.getElem?_drop, List.getElem?_drop]
      rcases Nat.lt_or_ge t (n - k) with ht | ht
      · rw [if_pos (by omega), if_pos ht, if_pos (by omega)]
        have := h t (List.mem_range.2 ht)
        rw [decide_eq_true_iff, Nat.add_assoc] at this
        exact this
      · rw [if_neg (by omega), if_neg (by omega)]
    · intro h t ht
      have ht := List.mem_range.1 ht
      have := congrArg (·[t]?) h
      simp only [List.getElem?_drop, List.getElem?_take] at this
      rw [if_pos (by omega), if_pos ht, if_pos (by omega)] at this
      rw [decide_eq_true_iff, Nat.add_assoc]; exact this
  cases h1 : sameB xs i k (n - k) <;> cases h2 : repsB xs i n k <;> simp_all
theorem itoa_lo : ∀ t, t < 17 → ¬ 9 < t → [dg ((t % 10 : Nat) : Int)] = itoaS t := by decide +kernel
theorem itoa_hi : ∀ t, t < 17 → 9 < t → [49] ++ [dg ((t % 10 : Nat) : Int)] = itoaS t := by decide +kernel
theorem better_pos {t c : List UInt8} (hc : c ≠ []) (h : t = [] ∨ lessP c t) : betterS t c = c := by
  rw [betterS, if_pos (h.imp id fun e => ⟨hc, e⟩)]
theorem better_neg {t c : List UInt8} (h : ¬ (t = [] ∨ lessP c t)) : betterS t c = t := by
  rw [betterS, if_neg (fun e => h (e.imp id fun e => e.2))]
theorem ref_no {row : List Stitch} {i n k : Nat} (h : ¬ (n % (k + 1) = 0 ∧ repsB row i n (k + 1) = true)) : betterS (refTo row i n k) (bothT row i n (k + 1)) = refTo row i n (k + 1) := by
  rw [refTo, refStep, if_neg h]
theorem ref_yes {row : List Stitch} {i n k : Nat} (h1 : n % (k + 1) = 0) (h2 : repsB row i n (k + 1) = true) : betterS (betterS (refTo row i n k) (bothT row i n (k + 1))) (repT (bT row i (k + 1)) (n / (k + 1))) = refTo row i n (k + 1) := by
  rw [refTo, refStep, if_pos ⟨h1, h2⟩]
theorem both_ne (row : List Stitch) (i n k : Nat) (t : List UInt8) : betterS t (bothT row i n k) ≠ [] := better_ne (cons_ne _ _)
theorem rep_eq (t : List UInt8) (times : Nat) : [91] ++ t ++ [93, 120] ++ itoaS times = repT t times := by simp [repT]
theorem sh_big {xs : List Stitch} (h : 16 < xs.length) : shortenS xs = ([], 3) := by rw [shortenS, if_pos h]
theorem sh_nil {xs : List Stitch} (h : xs.length = 0) : shortenS xs = ([], 1) := by rw [shortenS, if_neg (by omega), if_pos h]
theorem sh_err {xs : List Stitch} (h : ¬ 16 < xs.length) : (shortenS xs).2 = if xs.length = 0 then 1 else if xs.all okB = true then 0 else 1 := by
  unfold shortenS; rw [if_neg h]; (repeat' split) <;> rfl
theorem sh_bad {xs : List Stitch} (h : (shortenS xs).2 ≠ 0) : (shortenS xs).1 = [] := by
  unfold shortenS at h ⊢; (repeat' split) <;> first | rfl | (exfalso; simp_all)
theorem sh_good {xs : List Stitch} (h : (shortenS xs).2 = 0) : xs.all okB = true ∧ 1 ≤ xs.length ∧ xs.length ≤ 16 ∧ (shortenS xs).1 = shortS xs := by
  unfold shortenS at h ⊢
  split at h
  · simp at h
  · rename_i h1
    split at h
    · simp at h
    · rename_i h2
      split at h
      · rename_i h3
        rw [if_neg h1, if_neg h2, if_pos h3]
        exact ⟨h3, by omega, by omega, rfl⟩
      · simp at h
theorem all_bad {l : List Stitch} {x : Stitch} (h : okB x = false) : (l ++ (some x).toList).all okB = false := by simp [h]
theorem all_good {l : List Stitch} {x : Stitch} (h : okB x = true) : (l ++ (some x).toList).all okB = l.all okB := by simp [h]
theorem short_len {xs : List Stitch} (h1 : 1 ≤ xs.length) (h16 : xs.length ≤ 16) : (shortS xs).length ≤ 12 * xs.length - 1 := (T_len xs 0 xs.length h1).2
end Go.G14
namespace Go.G14
open Go.Lw

def needsS (s : Stitch) : Int := if checkS s ≠ 0 ∨ s.k = 3 then 0 else if s.k = 8 then s.a + s.b else if s.k = 4 ∨ s.k = 5 then 2 else 1
def makesS (s : Stitch) : Int := if checkS s ≠ 0 then 0 else if s.k = 8 then s.a + s.b else 1
def few (n : Int) : Bool := decide (1 ≤ n ∧ n ≤ 3)
def loadsS (s : Stitch) (l : List Int) : List Int × Int :=
  if checkS s ≠ 0 then ([], 1) else if (l.length : Int) ≠ needsS s then ([], 5) else if l.all few = false then ([], 1)
  else if s.k = 4 ∨ s.k = 5 then (if 4 < l.getD 0 0 + l.getD 1 0 then ([], 9) else ([1], 0))
  else if s.k = 6 then (if l.getD 0 0 = 3 then ([], 9) else ([l.getD 0 0 + 1], 0))
  else if s.k = 7 then ([l.getD 0 0], 0) else (List.replicate (makesS s).toNat 1, 0)
theorem few_iff (n : Int) : few n = true ↔ 1 ≤ n ∧ n ≤ 3 := by simp [few]
theorem needs_rng (s : Stitch) : 0 ≤ needsS s ∧ needsS s ≤ 4 := by
  unfold needsS
  split
  · omega
  · rename_i h
    have hc : checkS s = 0 := Decidable.not_not.1 fun e => h (.inl e)
    have hr := check_rng hc
    (repeat' split) <;> first | omega | (rename_i h8; have := hr.2.2.2.2.2 h8; omega)
theorem makes_rng (s : Stitch) : 0 ≤ makesS s ∧ makesS s ≤ 4 := by
  unfold makesS
  split
  · omega
  · rename_i h
    have hr := check_rng (Decidable.not_not.1 h)
    split
    · rename_i h8; have := hr.2.2.2.2.2 h8; omega
    · omega
variable {s : Stitch} {l : List Int}
theorem needs_0 (h : checkS s ≠ 0 ∨ s.k = 3) : needsS s = 0 := if_pos h
theorem needs_8 (h : checkS s = 0) (h8 : s.k = 8) : needsS s = s.a + s.b := by rw [needsS, if_neg (by omega), if_pos h8]
theorem needs_2 (h : checkS s = 0) (h4 : s.k = 4 ∨ s.k = 5) : needsS s = 2 := by rw [needsS, if_neg (by omega), if_neg (by omega), if_pos h4]
theorem needs_1 (h : checkS s = 0) (h3 : s.k ≠ 3) (h8 : s.k ≠ 8) (h4 : ¬ (s.k = 4 ∨ s.k = 5)) : needsS s = 1 := by rw [needsS, if_neg (by omega), if_neg h8, if_neg h4]
theorem makes_0 (h : checkS s ≠ 0) : makesS s = 0 := if_pos h
theorem makes_8 (h : checkS s = 0) (h8 : s.k = 8) : makesS s = s.a + s.b := by rw [makesS, if_neg (by omega), if_pos h8]
theorem makes_1 (h : checkS s = 0) (h8 : s.k ≠ 8) : makesS s = 1 := by rw [makesS, if_neg (by omega), if_neg h8]
theorem loads_1 (h : checkS s ≠ 0) : loadsS s l = ([], 1) := if_pos h
theorem loads_5 (h : checkS s = 0) (hn : (l.length : Int) ≠ needsS s) : loadsS s l = ([], 5) := by rw [loadsS, if_neg (by omega), if_pos hn]
theorem loads_b (h : checkS s = 0) (hn : (l.length : Int) = needsS s) {k : Nat} {x : Int} (hx : l[k]? = some x) (hb : ¬ (1 ≤ x ∧ x ≤ 3)) : loadsS s l = ([], 1) := by
  have hf : l.all few = false := by
    rw [Bool.eq_false_iff]
    intro e
    exact hb ((few_iff x).1 (List.all_eq_true.1 e x (List.mem_of_getElem? hx)))
  rw [loadsS, if_neg (by omega), if_neg (by omega), if_pos hf]
variable (h : checkS s = 0) (hn : (l.length : Int) = needsS s) (hf : l.all few = true)
include h hn hf
theorem loads_g : loadsS s l = if s.k = 4 ∨ s.k = 5 then (if 4 < l.getD 0 0 + l.getD 1 0 then ([], 9) else ([1], 0))
  else if s.k = 6 then (if l.getD 0 0 = 3 then ([], 9) else ([l.getD 0 0 + 1], 0))
  else if s.k = 7 then ([l.getD 0 0], 0) else (List.replicate (makesS s).toNat 1, 0) := by
  rw [loadsS, if_neg (by omega), if_neg (by omega), if_neg (by rw [hf]; simp)]
theorem loads_2f (h4 : s.k = 4 ∨ s.k = 5) {x y : Int} (hx : l[0]? = some x) (hy : l[1]? = some y) (hc : 4 < x + y) : loadsS s l = ([], 9) := by
  rw [loads_g h hn hf, if_pos h4, if_pos (by rw [List.getD, List.getD, hx, hy]; exact hc)]
theorem loads_2 (h4 : s.k = 4 ∨ s.k = 5) {x y : Int} (hx : l[0]? = some x) (hy : l[1]? = some y) (hc : ¬ 4 < x + y) : loadsS s l = ([1], 0) := by
  rw [loads_g h hn hf, if_pos h4, if_neg (by rw [List.getD, List.getD, hx, hy]; exact hc)]
theorem loads_6f (h6 : s.k = 6) {x : Int} (hx : l[0]? = some x) (hc : x = 3) : loadsS s l = ([], 9) := by
  rw [loads_g h hn hf, if_neg (by omega), if_pos h6, if_pos (by rw [List.getD, hx]; exact hc)]
theorem loads_6 (h6 : s.k = 6) {x : Int} (hx : l[0]? = some x) (hc : ¬ x = 3) : loadsS s l = ([x + 1], 0) := by
  rw [loads_g h hn hf, if_neg (by omega), if_pos h6, if_neg (by rw [List.getD, hx]; exact hc), List.getD, hx]; rfl
theorem loads_7 (h7 : s.k = 7) {x : Int} (hx : l[0]? = some x) : loadsS s l = ([x], 0) := by
  rw [loads_g h hn hf, if_neg (by omega), if_neg (by omega), if_pos h7, List.getD, hx]; rfl
theorem loads_o (h4 : ¬ (s.k = 4 ∨ s.k = 5)) (h6 : s.k ≠ 6) (h7 : s.k ≠ 7) : loadsS s l = (List.replicate (makesS s).toNat 1, 0) := by
  rw [loads_g h hn hf, if_neg h4, if_neg h6, if_neg h7]
omit h hn hf
theorem all_few_next {l : List Int} {k : Nat} {x : Int} (ha : (l.take k).all few = true) (hx : l[k]? = some x) (h : 1 ≤ x ∧ x ≤ 3) : (l.take (k + 1)).all few = true := by
  rw [List.take_add_one, hx]; simp [ha, (few_iff x).2 h]
theorem rep_succ (n : Nat) : List.replicate (n + 1) (1 : Int) = List.replicate n 1 ++ [1] := List.replicate_succ'
/-- What Loads makes of few loops is few again. -/
theorem loads_few (h0 : (loadsS s l).2 = 0) : (loadsS s l).1.all few = true ∧ ((loadsS s l).1.length : Int) = makesS s ∧ checkS s = 0 := by
  unfold loadsS at h0 ⊢
  by_cases h : checkS s ≠ 0
  · rw [if_pos h] at h0; simp at h0
  by_cases hn : (l.length : Int) ≠ needsS s
  · rw [if_neg h, if_pos hn] at h0; simp at h0
  by_cases hf : l.all few = false
  · rw [if_neg h, if_neg hn, if_pos hf] at h0; simp at h0
  rw [if_neg h, if_neg hn, if_neg hf] at h0 ⊢
  have hf' : l.all few = true := by simpa using hf
  have hc : checkS s = 0 := Decidable.not_not.1 h
  have hnn : (l.length : Int) = needsS s := Decidable.not_not.1 hn
  have get0 : s.k = 6 ∨ s.k = 7 → 1 ≤ l.getD 0 0 ∧ l.getD 0 0 ≤ 3 := by
    intro hk
    have hl : l.length = 1 := by have := needs_1 hc (by omega) (by omega) (by omega); omega
    obtain ⟨x, rfl⟩ := List.length_eq_one_iff.1 hl
    simpa [few] using hf'
  by_cases h4 : s.k = 4 ∨ s.k = 5
  · rw [if_pos h4] at h0 ⊢
    split at h0
    · simp at h0
    · rename_i c; rw [if_neg c]; exact ⟨rfl, by rw [makes_1 hc (by omega)]; rfl, hc⟩
  rw [if_neg h4] at h0 ⊢
  by_cases h6 : s.k = 6
  · rw [if_pos h6] at h0 ⊢
    have := get0 (.inl h6)
    split at h0
    · simp at h0
    · rename_i c; rw [if_neg c]; exact ⟨by simp only [List.all_cons, List.all_nil, Bool.and_true]; exact (few_iff _).2 (by omega), by rw [makes_1 hc (by omega)]; rfl, hc⟩
  rw [if_neg h6]
  by_cases h7 : s.k = 7
  · rw [if_pos h7]
    have := get0 (.inr h7)
    exact ⟨by simp only [List.all_cons, List.all_nil, Bool.and_true]; exact (few_iff _).2 (by omega), by rw [makes_1 hc (by omega)]; rfl, hc⟩
  rw [if_neg h7]
  have := makes_rng s
  exact ⟨by simp [few], by simp; omega, hc⟩
end Go.G14
namespace Go.G14
open Go.Lw

theorem Sl.part {α : Type} {E : Enc α} {w : World} {A : Option Addr} {n c : Nat} {l : List α} {i m : Nat} (h : Sl E w (.slice A n c) l) (hm : i + m ≤ l.length) : Sl E w (.slice (if c = i then A else A.map (·.add (i * E.sz))) (i + m - i) (c - i)) ((l.drop i).take m) := by
  obtain ⟨hn, hc, hM, _⟩ := Sl.open_ h
  have h1 := h.drop rfl (m := i) (by omega) (B := if c = i then A else A.map (·.add (i * E.sz))) (c' := c - i) (by omega) (by omega) (fun hlt => by rw [if_neg (by omega)])
  have h2 := h1.take rfl (m := m) (by simp; omega) (B := if c = i then A else A.map (·.add (i * E.sz))) (c' := c - i) (by omega) (by omega) (fun _ => rfl)
  rw [show i + m - i = m by omega]
  exact h2
def pairsL : List (Int × Int) := [(1, 1), (1, 2), (2, 1), (2, 2), (1, 3), (3, 1)]
def encPr : Enc (Int × Int) := ⟨fun p => [.int .i64 p.1, .int .i64 p.2], 2, fun _ => rfl, fun _ u h => by simp at h; rcases h with rfl | rfl <;> rfl, by decide⟩
def kOfS (kd y a : Int) (f : Bool) : Stitch :=
  if 1 + kd % 8 = 8 then ⟨1 + kd % 8, 1 + y % 6, (pairsL.getD (a % 6).toNat (0, 0)).1, (pairsL.getD (a % 6).toNat (0, 0)).2, f⟩ else ⟨1 + kd % 8, 1 + y % 6, 0, 0, false⟩
theorem kOf7 (a : Int) (f : Bool) (h : 0 ≤ a) : (kOfS 7 0 a f).k = 8 ∧ (kOfS 7 0 a f).y = 1 ∧ 1 ≤ (kOfS 7 0 a f).a ∧ 1 ≤ (kOfS 7 0 a f).b ∧ (kOfS 7 0 a f).a + (kOfS 7 0 a f).b ≤ 4 := by
  have h6 : (a % 6).toNat < 6 := by omega
  have key : ∀ n, n < 6 → 1 ≤ (pairsL.getD n (0, 0)).1 ∧ 1 ≤ (pairsL.getD n (0, 0)).2 ∧ (pairsL.getD n (0, 0)).1 + (pairsL.getD n (0, 0)).2 ≤ 4 := by decide
  have := key _ h6
  rw [kOfS, if_pos (by decide)]
  exact ⟨by simp, by simp, this.1, this.2.1, this.2.2⟩
/-- A stitch that fits behind i slots, where ny slots have been made. -/
def Fit (ls : List Int) (i ny : Nat) (s : Stitch) : Prop :=
  checkS s = 0 ∧ i + (needsS s).toNat ≤ ls.length ∧ (needsS s = 0 → ny + (ls.length - i) < 8) ∧ (loadsS s ((ls.drop i).take (needsS s).toNat)).2 = 0
theorem part_few {ls : List Int} {i m : Nat} (h : ls.all few = true) : ((ls.drop i).take m).all few = true := by
  rw [List.all_eq_true] at h ⊢
  exact fun x hx => h x (List.mem_of_mem_drop (List.mem_of_mem_take hx))
theorem part_length {ls : List Int} {i : Nat} {s : Stitch} (h : i + (needsS s).toNat ≤ ls.length) : (((ls.drop i).take (needsS s).toNat).length : Int) = needsS s := by
  have := needs_rng s
  simp; omega
theorem part_get {ls : List Int} {i m j : Nat} (h : j < m) : ((ls.drop i).take m)[j]? = ls[i + j]? := by
  rw [List.getElem?_take, if_pos h, List.getElem?_drop]
variable {ls : List Int} {i ny : Nat} {s : Stitch}
theorem fit_over (hc : checkS s = 0) (hk : s.k = 3) (hi : i ≤ ls.length) (hf : ls.all few = true) (h8 : ny + (ls.length - i) < 8) : Fit ls i ny s := by
  have hn := needs_0 (s := s) (.inr hk)
  have hle : i + (needsS s).toNat ≤ ls.length := by omega
  exact ⟨hc, hle, fun _ => h8, by rw [loads_o hc (part_length hle) (part_few hf) (by omega) (by omega) (by omega)]⟩
theorem fit_plain (hc : checkS s = 0) (hk : s.k = 1 ∨ s.k = 2) (hi : i < ls.length) (hf : ls.all few = true) : Fit ls i ny s := by
  have hn := needs_1 hc (by omega) (by omega) (by omega)
  have hle : i + (needsS s).toNat ≤ ls.length := by omega
  exact ⟨hc, hle, fun e => by omega, by rw [loads_o hc (part_length hle) (part_few hf) (by omega) (by omega) (by omega)]⟩
theorem fit_two (hc : checkS s = 0) (hk : s.k = 4 ∨ s.k = 5) (hi : i + 1 < ls.length) (hf : ls.all few = true) {x y : Int} (hx : ls[i]? = some x) (hy : ls[i + 1]? = some y) (h4 : x + y ≤ 4) : Fit ls i ny s := by
  have hn := needs_2 hc hk
  have hle : i + (needsS s).toNat ≤ ls.length := by omega
  exact ⟨hc, hle, fun e => by omega, by rw [loads_2 hc (part_length hle) (part_few hf) hk (by rw [part_get (by omega)]; exact hx) (by rw [part_get (by omega)]; exact hy) (by omega)]⟩
theorem fit_tuck (hc : checkS s = 0) (hk : s.k = 6) (hi : i < ls.length) (hf : ls.all few = true) {x : Int} (hx : ls[i]? = some x) (h3 : x < 3) : Fit ls i ny s := by
  have hn := needs_1 hc (by omega) (by omega) (by omega)
  have hle : i + (needsS s).toNat ≤ ls.length := by omega
  exact ⟨hc, hle, fun e => by omega, by rw [loads_6 hc (part_length hle) (part_few hf) hk (by rw [part_get (by omega)]; exact hx) (by omega)]⟩
theorem fit_slip (hc : checkS s = 0) (hk : s.k = 7) (hi : i < ls.length) (hf : ls.all few = true) : Fit ls i ny s := by
  have hn := needs_1 hc (by omega) (by omega) (by omega)
  have hle : i + (needsS s).toNat ≤ ls.length := by omega
  obtain ⟨x, hx⟩ : ∃ x, ls[i]? = some x := ⟨_, List.getElem?_eq_getElem hi⟩
  exact ⟨hc, hle, fun e => by omega, by rw [loads_7 hc (part_length hle) (part_few hf) hk (by rw [part_get (by omega)]; exact hx)]⟩
theorem fit_cable (hc : checkS s = 0) (hk : s.k = 8) (hf : ls.all few = true) (hle : (i : Int) + (s.a + s.b) ≤ ls.length) : Fit ls i ny s := by
  have hn := needs_8 hc hk
  have hr := (check_rng hc).2.2.2.2.2 hk
  have hle : i + (needsS s).toNat ≤ ls.length := by omega
  exact ⟨hc, hle, fun e => by omega, by rw [loads_o hc (part_length hle) (part_few hf) (by omega) (by omega) (by omega)]⟩
theorem fit_step (h : Fit ls i ny s) (hi : i ≤ ls.length) (h8 : ny + (ls.length - i) ≤ 8) : 1 ≤ makesS s ∧ ny + (makesS s).toNat + (ls.length - (i + (needsS s).toNat)) ≤ 8 ∧ (needsS s = 0 → makesS s = 1) := by
  obtain ⟨hc, h1, h2, h3⟩ := h
  have hr := check_rng hc
  by_cases h8k : s.k = 8
  · have := hr.2.2.2.2.2 h8k
    rw [makes_8 hc h8k, needs_8 hc h8k] at *
    omega
  · rw [makes_1 hc h8k]
    by_cases h3k : s.k = 3
    · rw [needs_0 (.inr h3k)] at *
      have := h2 rfl
      simp; omega
    · have : 1 ≤ needsS s := by
        by_cases h4 : s.k = 4 ∨ s.k = 5
        · rw [needs_2 hc h4]; omega
        · rw [needs_1 hc h3k h8k h4]; omega
      omega
theorem check_plain {k y : Int} (hk : 1 ≤ k ∧ k ≤ 7) (hy : 1 ≤ y ∧ y ≤ 6) : checkS ⟨k, y, 0, 0, false⟩ = 0 :=
  check_zero (by show 0 ≤ k; omega) (by show 0 ≤ y; omega) (by show ¬ (y = 0 ∨ 6 < y ∨ k = 0 ∨ 8 < k); omega) (.inr ⟨by show k ≠ 8; omega, rfl, rfl, rfl⟩)
theorem check_cable {y a b : Int} {f : Bool} (hy : 1 ≤ y ∧ y ≤ 6) (ha : 1 ≤ a) (hb : 1 ≤ b) (hab : a + b ≤ 4) : checkS ⟨8, y, a, b, f⟩ = 0 :=
  check_zero (by show (0 : Int) ≤ 8; omega) (by show 0 ≤ y; omega) (by show ¬ (y = 0 ∨ 6 < y ∨ (8 : Int) = 0 ∨ (8 : Int) < 8); omega) (.inl ⟨rfl, ha, hb, hab⟩)
theorem fitP {k y : Int} (hk : k = 1 ∨ k = 2) (hy : 1 ≤ y ∧ y ≤ 6) (hi : i < ls.length) (hf : ls.all few = true) : Fit ls i ny ⟨k, y, 0, 0, false⟩ := fit_plain (check_plain (by omega) hy) hk hi hf
theorem fitO {k y : Int} (hk : k = 3) (hy : 1 ≤ y ∧ y ≤ 6) (hi : i ≤ ls.length) (hf : ls.all few = true) (h8 : ny + (ls.length - i) < 8) : Fit ls i ny ⟨k, y, 0, 0, false⟩ := fit_over (check_plain (by omega) hy) hk hi hf h8
theorem fitT {k y : Int} (hk : k = 4 ∨ k = 5) (hy : 1 ≤ y ∧ y ≤ 6) (hi : i + 1 < ls.length) (hf : ls.all few = true) {p q : Int} (hx : ls[i]? = some p) (hy' : ls[i + 1]? = some q) (h4 : p + q ≤ 4) : Fit ls i ny ⟨k, y, 0, 0, false⟩ := fit_two (check_plain (by omega) hy) hk hi hf hx hy' h4
theorem fitU {k y : Int} (hk : k = 6) (hy : 1 ≤ y ∧ y ≤ 6) (hi : i < ls.length) (hf : ls.all few = true) {p : Int} (hx : ls[i]? = some p) (h3 : p < 3) : Fit ls i ny ⟨k, y, 0, 0, false⟩ := fit_tuck (check_plain (by omega) hy) hk hi hf hx h3
theorem fitS {k y : Int} (hk : k = 7) (hy : 1 ≤ y ∧ y ≤ 6) (hi : i < ls.length) (hf : ls.all few = true) : Fit ls i ny ⟨k, y, 0, 0, false⟩ := fit_slip (check_plain (by omega) hy) hk hi hf
theorem fitC {k y a b : Int} {f : Bool} (hk : k = 8) (hy : 1 ≤ y ∧ y ≤ 6) (ha : 1 ≤ a) (hb : 1 ≤ b) (hab : a + b ≤ 4) (hf : ls.all few = true) (hle : (i : Int) + (a + b) ≤ ls.length) : Fit ls i ny ⟨k, y, a, b, f⟩ := by
  subst hk; exact fit_cable (check_cable hy ha hb hab) rfl hf hle
theorem all_app {l m : List Int} (h1 : l.all few = true) (h2 : m.all few = true) : (l ++ m).all few = true := by simp [h1, h2]
structure RowSt where
  i : Nat
  xs : List Stitch
  ys : List Int
  X : Value
  Y : Value
/-- Rows in memory: the outer slice is the call's own, and so are the rows, apart from it. -/
structure RowsO (R T : TypeId) (base : Nat) (w : World) (OV : Value) (ps : List (SV × List Stitch)) : Prop where
  out : Own Enc.sl R base w OV (ps.map Prod.fst)
  ins : ∀ p ∈ ps, Own encSt T base w (slv p.1) p.2
  off : ∀ p ∈ ps, ∀ k ∈ blks (slv p.1), k ∉ blks OV
section
variable {R T : TypeId} {base : Nat} {w w' : World} {OV OV' : Value} {ps : List (SV × List Stitch)}
theorem RowsO.fr {S : List Nat} (h : RowsO R T base w OV ps) (hq : Fr S w w') (hS : ∀ k ∈ S, k < base) : RowsO R T base w' OV ps :=
  ⟨h.out.fr hq (fun k hk hb => by have := (h.out.blk k hb).1; have := hS k hk; omega), fun p hp => (h.ins p hp).fr hq (fun k hk hb => by have := ((h.ins p hp).blk k hb).1; have := hS k hk; omega), h.off⟩
theorem RowsO.ext (h : RowsO R T base w OV ps) (hq : Fr [] w w') : RowsO R T base w' OV ps := h.fr hq (by simp)
theorem RowsO.nil (w : World) : RowsO R T base w (.slice none 0 0) [] := ⟨Own.nil w, by simp, by simp⟩
theorem RowsO.push {u : SV} {r : List Stitch} (h : RowsO R T base w OV ps) (hu : Own encSt T base w (slv u) r) (hd : ∀ k ∈ blks (slv u), k ∉ blks OV) (ho : Own Enc.sl R base w' OV' (ps.map Prod.fst ++ [u])) (hq : Fr (blks OV) w w')
    (hx : OV' = OV ∨ blks OV' = blks OV ∨ blks OV' = [w.heap.size]) : RowsO R T base w' OV' (ps ++ [(u, r)]) := by
  have hall : ∀ p ∈ ps ++ [(u, r)], Own encSt T base w (slv p.1) p.2 ∧ ∀ k ∈ blks (slv p.1), k ∉ blks OV := by
    intro p hp
    rcases List.mem_append.1 hp with hp | hp
    · exact ⟨h.ins p hp, h.off p hp⟩
    · simp at hp; subst hp; exact ⟨hu, hd⟩
  refine ⟨by simpa using ho, fun p hp => (hall p hp).1.fr hq (fun k hk hb => (hall p hp).2 k hb hk), fun p hp k hk => ?_⟩
  rcases hx with e | e | e
  · rw [e]; exact (hall p hp).2 k hk
  · rw [e]; exact (hall p hp).2 k hk
  · rw [e]; have := ((hall p hp).1.blk k hk).2; simp; omega
theorem RowsO.sl2 (h : RowsO R T base w OV ps) : Sl2 w OV (ps.map Prod.snd) := by
  refine ⟨ps.map Prod.fst, h.out.sl, by simp, fun i p x hp hx => ?_⟩
  rw [List.getElem?_map] at hp hx
  obtain ⟨q, hq, rfl⟩ := Option.map_eq_some_iff.1 hp
  rw [hq] at hx
  simp at hx; subst hx
  exact (h.ins q (List.mem_of_getElem? hq)).sl
end
structure OfSt where
  i : Nat
  L : Value
  ls : List Int
  OV : Value
  ps : List (SV × List Stitch)
def goodRow (r : List Stitch) : Prop := r ≠ [] ∧ r.all okB = true ∧ r.length ≤ 8
theorem rep_few (n : Nat) : (List.replicate n (1 : Int)).all few = true := by simp [few]
end Go.G14
namespace Go.Lw
open Go.RowKit

theorem zero_rows {α : Type} (E : Enc α) (z : α) : ∀ (c : Nat), ((Array.range (c * E.sz)).map ((E.enc z).toArray[· % E.sz]!)).toList = (List.replicate c z).flatMap E.enc := by
  intro c
  apply List.ext_getElem?
  intro m
  have hl : ((List.replicate c z).flatMap E.enc).length = c * E.sz := by rw [E.flat_len, List.length_replicate]
  rcases Nat.lt_or_ge m (c * E.sz) with h | h
  · have hi : m / E.sz < c := Nat.div_lt_of_lt_mul (by rw [Nat.mul_comm]; exact h)
    have hj : m % E.sz < E.sz := Nat.mod_lt _ E.pos
    have e : m / E.sz * E.sz + m % E.sz = m := by rw [Nat.mul_comm]; exact Nat.div_add_mod m E.sz
    have hg := E.flat_get (List.replicate c z) (m / E.sz) z (by rw [List.getElem?_replicate, if_pos hi]) (m % E.sz) hj
    rw [e] at hg
    rw [hg]
    have hj' : m % E.sz < (E.enc z).length := by rw [E.len]; exact hj
    simp [h]
    rw [List.getElem?_eq_getElem hj']
    rfl
  · rw [List.getElem?_eq_none (by simp; exact h), List.getElem?_eq_none (by rw [hl]; exact h)]

section
variable {P : Program} {a : Act} {n : Nat} {L : List (Nat × Value)} {w w' : World} {Q : Exit → Act → World → Prop} {ops : Array Oper} {rest : List Oper}
variable {d : Nat} {ty : TypeId} {pos : String} {after : Array Edge} {v u : Value} {x y z : Operand} {t t' T : TypeId} {k k' : IntKind} {i j : Int}

theorem ex_makeSlice {α : Type} {E : Enc α} {bytes m c : Nat} (e0 : α) (h : Ag a n L) (hx : ev L x = some (.int k (m : Int))) (hy : ev L y = some (.int k' (c : Int))) (he : ElemOf P t T E bytes)
    (hz : ∀ w : World, (zeroValue T).run P w = .ok v w) (hv : v.cells = (E.enc e0).toArray) (hmc : m ≤ c) (hb : c * bytes ≤ 140737488355328) (hM : c ≤ maxLen) :
    (execOp a.eval ⟨some d, .makeSlice t x y, ty, pos, after, none⟩).run P w = .ok (.value (.slice (some ⟨w.heap.size, 0, none⟩) m c)) (w.alloc (.cells ((List.replicate c e0).flatMap E.enc).toArray T)) := by
  obtain ⟨inf, zv, hin, hzz, hsz, hby, hzs⟩ := he.info
  have hzv : zv = v := by
    have := hz w
    simpa [zeroValue, typeInfo, hin, hzz] using this
  subst hzv
  have hM' : c ≤ 9223372036854775807 := by simp only [maxLen] at hM; omega
  have w1 : IntKind.i64.wrap (m : Int) = m := IntWalk.i64_in _ (by omega)
  have w2 : IntKind.i64.wrap (c : Int) = c := IntWalk.i64_in _ (by omega)
  have hbi : ((inf.bytes : Nat) : Int) * (c : Int) ≤ 140737488355328 := by
    have : ((inf.bytes * c : Nat) : Int) ≤ 140737488355328 := by rw [hby, Nat.mul_comm]; omega
    simpa using this
  have ht : (decide ((c : Int) < 0) || decide ((inf.bytes : Int) * (c : Int) > 2 ^ 48)) = false := by
    simp only [Bool.or_eq_false_iff, decide_eq_false_iff_not]
    constructor <;> omega
  have hlt : ¬ ((m : Int) < 0) := by omega
  have hgt : ¬ ((m : Int) > (c : Int)) := by omega
  have hroom : ¬ (c * inf.bytes > roomBytes) := by
    rw [hby]; unfold roomBytes; omega
  have hrows := zero_rows E e0 c
  simp only [execOp, h.eval hx, h.eval hy, Instr.makeSlice, Sem.run_bind, run_underlying he.und, Result.andThen_ok, asInt, asIntOf, Sem.run_pure, typeInfo, sizeOf, w1, w2]
  simp [hin, hsz, ht, hlt, hgt, askRoom, hroom, w1, w2]
  by_cases h0 : c = 0
  · subst h0
    simp [newRow]
    rw [show Array.range 0 = #[] from rfl]; simp
  · have hcz : ¬ (c * E.sz = 0) := by
      have := E.pos
      intro e
      rcases Nat.mul_eq_zero.1 e with e | e <;> omega
    have h00 : ¬ ((c : Int) < 0) := by omega
    have hbb : ¬ ((281474976710656 : Int) < (inf.bytes : Int) * (c : Int)) := by omega
    simp [hcz, zeroValue, typeInfo, hin, hzz, newRow, hv, E.len, h00, hbb]
    congr 2
    apply Array.toList_inj.1
    simpa using hrows
theorem st_makeSlice {α : Type} {E : Enc α} {bytes m c : Nat} (e0 : α) (h : Ag a n L) (hx : ev L x = some (.int k (m : Int))) (hy : ev L y = some (.int k' (c : Int))) (he : ElemOf P t T E bytes)
    (hz : ∀ w : World, (zeroValue T).run P w = .ok v w) (hv : v.cells = (E.enc e0).toArray) (hmc : m ≤ c) (hb : c * bytes ≤ 140737488355328) (hM : c ≤ maxLen) (hn : Nat.blt d n = true)
    (q : ∀ g w', g = w.heap.size → Own E T g w' (.slice (some ⟨g, 0, none⟩) m c) (List.replicate m e0) → Fr [] w w' → w'.heap.size = g + 1 → ∀ a, Ag a n ((d, .slice (some ⟨g, 0, none⟩) m c) :: L) → wpList P ops Q rest a w') :
    wpList P ops Q (⟨some d, .makeSlice t x y, ty, pos, after, none⟩ :: rest) a w := by
  refine st_ok h rfl rfl hn (ex_makeSlice e0 h hx hy he hz hv hmc hb hM) (q _ _ rfl ?_ (Fr.alloc [] w _) (by simp))
  refine .inr ⟨_, c, _, by simp, Nat.le_refl _, heap_alloc_new w _, by simpa using hmc, hM, by simp [E.flat_len], ?_⟩
  simp only [List.length_replicate]
  obtain ⟨r, rfl⟩ : ∃ r, c = m + r := ⟨c - m, by omega⟩
  rw [← List.replicate_append_replicate, List.flatMap_append]
  rw [show m * E.sz = ((List.replicate m e0).flatMap E.enc).length by rw [E.flat_len, List.length_replicate]]
  exact List.take_left
end
end Go.Lw
namespace Go.Lw
section
variable {P : Program} {a : Act} {n : Nat} {L : List (Nat × Value)} {w w' : World} {ops : Array Oper} {C : World → Prop}
variable {d : Nat} {ty : TypeId} {pos : String} {after : Array Edge} {x y : Operand} {t T : TypeId} {k : IntKind} {i : Int}
theorem hd_idxA {K : Act → World → Prop} {fu : Nat} {listed : Array Bool} {ad : Addr} {N sz : Nat} (ix : Nat) (hsel : Region.noSelect ops = true) (hfr : Region.free .any ops listed ix = true) (hre : (Region.ready .any ops listed).contains ix = true) (hC : C w) (h : Ag a n L)
    (hx : ev L x = some (.pointer (some ad))) (hy : ev L y = some (.int k i)) (hu : P.underlying t = some (.array N T)) (hs : SizeOf P T sz) (h0 : 0 ≤ i) (h1 : i < N) (hix : ops[ix]? = some ⟨some d, .indexAddr t x y, ty, pos, after, none⟩) (hn : Nat.blt d n = true)
    (q : ∀ a, Ag a n ((d, .pointer (some (ad.add (i.toNat * sz)))) :: L) → wpAnyH P .any ops (NormEnd K) C fu (listed.setIfInBounds ix true) a w) : wpAnyH P .any ops (NormEnd K) C (fu + 1) listed a w :=
  hd_ok ix hsel hfr hre hC h hix rfl rfl hn (fun _ _ => ex_idxA h hx hy hu hs h0 h1) q
end
end Go.Lw
namespace Go.Proofs.YtbbnampdgefljaaDoor
open Go.Lw Go.G14
theorem sz9 : SizeOf Tryd.prog 9 1 := fun _ => by kernel_rfl
set_option maxHeartbeats 4000000 in
theorem refshort_ok (u : Value) (xs : List Stitch) (w0 : World) (hu : Sl encSt w0 u xs) (hok : xs.all okB = true) (hn : 1 ≤ xs.length) (hm : xs.length ≤ 16) : Rets Tryd.prog 16 #[u] w0 fun v w' => v = S (shortS xs) ∧ Fr [] w0 w' := by
  have hrb := hu.blk (by intro e; subst e; simp at hn)
  obtain ⟨A, c, rfl, hc⟩ := hu.form
  have hs := hu
  obtain ⟨-, -, hM, hA⟩ := Sl.open_ hu
  unfold maxLen at hM
  obtain ⟨N, hN⟩ : ∃ N, N = (xs.length + 1) * (xs.length + 1) := ⟨_, rfl⟩
  have hN2 : N ≤ 289 := by rw [hN]; exact Nat.mul_le_mul (show xs.length + 1 ≤ 17 by omega) (show xs.length + 1 ≤ 17 by omega)
  refine enter [(0, .slice A xs.length c)] Tryd.func16 rfl Tryd.ntmps16 rfl (.cons rfl .nil) ?_
  have hf := Fr.refl [] w0
  intro a h
  refine wp_seq ?_
  refine wp_region_lit ?_
  refine st_assign h rfl rfl ?_; clear h a; intro a h
  replace h : Ag a 151 [(0, _)] := h.sub (.cons rfl .nil)
  refine wpList_nil (norm_then ?_)
  refine wp_seq ?_
  refine wp_region_lit ?_
  refine st_move h rfl rfl ?_; clear h a; intro a h
  refine st_lenS h rfl Tryd.underlying22 rfl ?_; clear h a; intro a h
  refine st_assign h rfl rfl ?_; clear h a; intro a h
  replace h : Ag a 151 [(0, _), (3, _)] := h.sub (.cons rfl (.cons rfl .nil))
  refine wpList_nil (norm_then ?_)
  refine wp_seq ?_
  refine wp_region_lit ?_
  refine st_move h rfl rfl ?_; clear h a; intro a h
  refine st_add h rfl rfl (by first | exact IntWalk.i64_in _ (by omega) | rfl) rfl ?_; clear h a; intro a h
  refine st_move h rfl rfl ?_; clear h a; intro a h
  refine st_add h rfl rfl (by first | exact IntWalk.i64_in _ (by omega) | rfl) rfl ?_; clear h a; intro a h
  refine st_mul (z := (N : Int)) h rfl rfl (by rw [show ((xs.length : Int) + 1) * ((xs.length : Int) + 1) = (N : Int) by rw [hN]; push_cast; rfl]; exact IntWalk.i64_in _ (by omega)) rfl ?_; clear h a; intro a h
  refine st_makeSlice ([] : List UInt8) h rfl rfl el48 zv9 rfl (Nat.le_refl _) (by omega) (by unfold maxLen; omega) rfl ?_; clear h a; intro gT w1 hg hO hq hz a h
  have hgT : w0.heap.size ≤ gT := by have := hf.size; omega
  replace hO := hO.low hgT
  replace hf := hf.next hq
  replace hs := hs.ext hq
  clear hq hz hg
  refine st_assign h rfl rfl ?_; clear h a; intro a h
  replace h : Ag a 151 [(0, _), (3, _), (4, _)] := h.sub (.cons rfl (.cons rfl (.cons rfl .nil)))
  refine wpList_nil (norm_then ?_)
  refine wp_seq ?_
  refine wp_seq ?_
  refine wp_region_lit ?_
  refine st_assign h rfl rfl ?_; clear h a; intro a h
  refine wpList_nil (norm_then ?_)
  refine wp_block ?_
  refine loop (ι := Nat × List (List UInt8)) (fun z => [(0, .slice A xs.length c), (3, .int .i64 (xs.length : Int)), (4, .slice (some ⟨gT, 0, none⟩) N N), (5, .int .i64 (z.1 : Int))]) (fun z w' => 1 ≤ z.1 ∧ z.1 ≤ xs.length + 1 ∧ Own Enc.str 9 w0.heap.size w' (.slice (some ⟨gT, 0, none⟩) N N) z.2 ∧ Filled xs z.1 0 z.2 ∧ Sl encSt w' (.slice A xs.length c) xs ∧ Fr [] w0 w') (fun z => xs.length + 1 - z.1) (1, List.replicate N []) (h.sub (.cons rfl (.cons rfl (.cons rfl (.cons rfl .nil))))) ⟨by simp, by simp only; omega, hO, by rw [hN]; exact fill_start xs, hs, hf⟩ ?_
  clear h a hO hs hf
  rintro ⟨L, tab⟩ w2 a h ⟨hL1, hL2, hO, hfl, hs, hf⟩
  simp only at hL1 hL2 hO hfl h
  refine wp_seq ?_
  refine wp_seq ?_
  refine wp_region_lit ?_
  refine st_move h rfl rfl ?_; clear h a; intro a h
  refine st_move h rfl rfl ?_; clear h a; intro a h
  refine st_le h rfl rfl rfl ?_; clear h a; intro a h
  replace h : Ag a 151 [(0, _), (3, _), (4, _), (5, _), (26, _)] := h.sub (.cons rfl (.cons rfl (.cons rfl (.cons rfl (.cons rfl .nil)))))
  refine wpList_nil (norm_then ?_)
  first | refine cond_dec h rfl (fun c0 => ?_) (fun c0 => ?_) | refine cond_ndec h rfl (fun c0 => ?_) (fun c0 => ?_) | refine cond_split h rfl (fun c0 => ?_) (fun c0 => ?_)
  · refine id ?_
    refine wp_skip (norm_then ?_)
    refine wp_seq ?_
    refine wp_block ?_
    refine wp_seq ?_
    refine wp_region_lit ?_
    refine st_assign h rfl rfl ?_; clear h a; intro a h
    replace h : Ag a 151 [(0, _), (3, _), (4, _), (5, _), (6, _)] := h.sub (.cons rfl (.cons rfl (.cons rfl (.cons rfl (.cons rfl .nil)))))
    refine wpList_nil (norm_then ?_)
    refine wp_block ?_
    refine loop (ι := Nat × List (List UInt8)) (fun z => [(0, .slice A xs.length c), (3, .int .i64 (xs.length : Int)), (4, .slice (some ⟨gT, 0, none⟩) N N), (5, .int .i64 (L : Int)), (6, .int .i64 (z.1 : Int))]) (fun z w' => z.1 ≤ xs.length + 1 - L ∧ Own Enc.str 9 w0.heap.size w' (.slice (some ⟨gT, 0, none⟩) N N) z.2 ∧ Filled xs L z.1 z.2 ∧ Sl encSt w' (.slice A xs.length c) xs ∧ Fr [] w0 w') (fun z => xs.length + 1 - z.1) (0, tab) (h.sub (.cons rfl (.cons rfl (.cons rfl (.cons rfl (.cons rfl .nil)))))) ⟨by simp, hO, hfl, hs, hf⟩ ?_
    clear h a hO hs hf hfl
    rintro ⟨i, tab⟩ w3 a h ⟨hiL, hO, hfl, hs, hf⟩
    simp only at hiL hO hfl h
    refine wp_seq ?_
    refine wp_seq ?_
    refine wp_region_lit ?_
    refine st_move h rfl rfl ?_; clear h a; intro a h
    refine st_move h rfl rfl ?_; clear h a; intro a h
    refine st_add h rfl rfl (by first | exact IntWalk.i64_in _ (by omega) | rfl) rfl ?_; clear h a; intro a h
    refine st_move h rfl rfl ?_; clear h a; intro a h
    refine st_le h rfl rfl rfl ?_; clear h a; intro a h
    replace h : Ag a 151 [(0, _), (3, _), (4, _), (5, _), (6, _), (33, _)] := h.sub (.cons rfl (.cons rfl (.cons rfl (.cons rfl (.cons rfl (.cons rfl .nil))))))
    refine wpList_nil (norm_then ?_)
    first | refine cond_dec h rfl (fun c1 => ?_) (fun c1 => ?_) | refine cond_ndec h rfl (fun c1 => ?_) (fun c1 => ?_) | refine cond_split h rfl (fun c1 => ?_) (fun c1 => ?_)
    · refine id ?_
      refine wp_skip (norm_then ?_)
      refine wp_seq ?_
      refine wp_block ?_
      refine wp_seq ?_
      refine wp_region_lit ?_
      refine st_assign h rfl rfl ?_; clear h a; intro a h
      replace h : Ag a 151 [(0, _), (3, _), (4, _), (5, _), (6, _), (7, _)] := h.sub (.cons rfl (.cons rfl (.cons rfl (.cons rfl (.cons rfl (.cons rfl .nil))))))
      refine wpList_nil (norm_then ?_)
      refine seq_cut (Cut (ι := Unit) 151 (fun u => [(0, .slice A xs.length c), (3, .int .i64 (xs.length : Int)), (4, .slice (some ⟨gT, 0, none⟩) N N), (5, .int .i64 (L : Int)), (6, .int .i64 (i : Int)), (7, S (refTo xs i L 0))]) (fun u w' => Own Enc.str 9 w0.heap.size w' (.slice (some ⟨gT, 0, none⟩) N N) tab ∧ Filled xs L i tab ∧ Sl encSt w' (.slice A xs.length c) xs ∧ Fr [] w0 w')) ?_ ?_
      · refine id ?_
        refine wp_seq ?_
        refine wp_region_lit ?_
        refine st_move h rfl rfl ?_; clear h a; intro a h
        refine st_eq h rfl rfl rfl ?_; clear h a; intro a h
        replace h : Ag a 151 [(0, _), (3, _), (4, _), (5, _), (6, _), (7, _), (37, _)] := h.sub (.cons rfl (.cons rfl (.cons rfl (.cons rfl (.cons rfl (.cons rfl (.cons rfl .nil)))))))
        refine wpList_nil (norm_then ?_)
        first | refine cond_dec h rfl (fun c2 => ?_) (fun c2 => ?_) | refine cond_ndec h rfl (fun c2 => ?_) (fun c2 => ?_) | refine cond_split h rfl (fun c2 => ?_) (fun c2 => ?_)
        · obtain ⟨x, hxi⟩ : ∃ x, xs[i]? = some x := ⟨_, List.getElem?_eq_getElem (by omega)⟩
          obtain ⟨ad, hAd, ca⟩ := hA i x hxi
          obtain ⟨p1, p2⟩ := okB_pos (List.all_eq_true.1 hok x (List.mem_of_getElem? hxi))
          refine wp_region_lit ?_
          refine st_move h rfl rfl ?_; clear h a; intro a h
          refine st_move h rfl rfl ?_; clear h a; intro a h
          refine st_idxS h (by rw [hAd]; rfl) rfl el22 (by omega) (by omega) rfl rfl ?_; clear h a; intro a h
          refine st_loadA h rfl (ca.fr hf (by simp)) ag36 rfl ?_; clear h a; intro a h
          refine st_call h (evs_cons rfl evs_nil) co29 (reftext_ok x _ p1 p2) rfl ?_; clear h a; rintro _ w4 ⟨rfl, hq⟩ a h
          replace hf := hf.next hq
          replace hO := hO.ext hq
          replace hs := hs.ext hq
          clear hq
          refine st_assign h rfl rfl ?_; clear h a; intro a h
          replace h : Ag a 151 [(0, _), (3, _), (4, _), (5, _), (6, _), (7, _)] := h.sub (.cons rfl (.cons rfl (.cons rfl (.cons rfl (.cons rfl (.cons rfl .nil))))))
          refine wpList_nil (norm_then ?_)
          exact ⟨(), h.sub (.cons rfl (.cons rfl (.cons rfl (.cons rfl (.cons rfl (.cons (by first | (rw [refTo, if_pos (by omega), List.getD, hxi]; rfl) | (rw [refTo, if_neg (by omega)]; rfl)) .nil)))))), hO, hfl, hs, hf⟩
        · refine id ?_
          refine wp_skip (norm_then ?_)
          exact ⟨(), h.sub (.cons rfl (.cons rfl (.cons rfl (.cons rfl (.cons rfl (.cons (by first | (rw [refTo, if_pos (by omega), List.getD, hxi]; rfl) | (rw [refTo, if_neg (by omega)]; rfl)) .nil)))))), hO, hfl, hs, hf⟩
      · clear h a hO hs hf hfl
        rintro a w5 ⟨u, h, ⟨hO, hfl, hs, hf⟩⟩
        refine wp_seq ?_
        refine wp_seq ?_
        refine wp_region_lit ?_
        refine st_assign h rfl rfl ?_; clear h a; intro a h
        refine wpList_nil (norm_then ?_)
        refine wp_block ?_
        refine loop (ι := Nat) (fun k => [(0, .slice A xs.length c), (3, .int .i64 (xs.length : Int)), (4, .slice (some ⟨gT, 0, none⟩) N N), (5, .int .i64 (L : Int)), (6, .int .i64 (i : Int)), (7, S (refTo xs i L k)), (8, .int .i64 ((k : Int) + 1))]) (fun k w' => k ≤ L - 1 ∧ Own Enc.str 9 w0.heap.size w' (.slice (some ⟨gT, 0, none⟩) N N) tab ∧ Filled xs L i tab ∧ Sl encSt w' (.slice A xs.length c) xs ∧ Fr [] w0 w') (fun k => L - k) 0 (h.sub (.cons rfl (.cons rfl (.cons rfl (.cons rfl (.cons rfl (.cons rfl (.cons rfl .nil)))))))) ⟨by omega, hO, hfl, hs, hf⟩ ?_
        clear h a hO hs hf hfl
        rintro k w6 a h ⟨hk, hO, hfl, hs, hf⟩
        have hix1 : i * (xs.length + 1) ≤ 16 * 17 := Nat.mul_le_mul (show i ≤ 16 by omega) (show xs.length + 1 ≤ 17 by omega)
        have hix := idx_lt (n := xs.length) (a := i) (m := L) (by omega)
        rw [← hN] at hix
        refine wp_seq ?_
        refine wp_seq ?_
        refine wp_region_lit ?_
        refine st_move h rfl rfl ?_; clear h a; intro a h
        refine st_move h rfl rfl ?_; clear h a; intro a h
        refine st_lt h rfl rfl rfl ?_; clear h a; intro a h
        replace h : Ag a 151 [(0, _), (3, _), (4, _), (5, _), (6, _), (7, _), (8, _), (45, _)] := h.sub (.cons rfl (.cons rfl (.cons rfl (.cons rfl (.cons rfl (.cons rfl (.cons rfl (.cons rfl .nil))))))))
        refine wpList_nil (norm_then ?_)
        first | refine cond_dec h rfl (fun c3 => ?_) (fun c3 => ?_) | refine cond_ndec h rfl (fun c3 => ?_) (fun c3 => ?_) | refine cond_split h rfl (fun c3 => ?_) (fun c3 => ?_)
        · have hTi : (bT xs i (k + 1)).length ≤ _ := (T_len xs i (k + 1) (by omega)).2
          have hTr : (bT xs (i + (k + 1)) (L - (k + 1))).length ≤ _ := (T_len xs (i + (k + 1)) (L - (k + 1)) (by omega)).2
          have hix2 : (i + (k + 1)) * (xs.length + 1) ≤ 16 * 17 := Nat.mul_le_mul (show i + (k + 1) ≤ 16 by omega) (show xs.length + 1 ≤ 17 by omega)
          have hix3 := idx_lt (n := xs.length) (a := i + (k + 1)) (m := L - (k + 1)) (by omega)
          rw [← hN] at hix3
          refine wp_skip (norm_then ?_)
          refine wp_seq ?_
          refine wp_block ?_
          refine wp_seq ?_
          refine wp_region_lit ?_
          refine st_move h rfl rfl ?_; clear h a; intro a h
          refine st_move h rfl rfl ?_; clear h a; intro a h
          refine st_move h rfl rfl ?_; clear h a; intro a h
          refine st_add h rfl rfl (by first | exact IntWalk.i64_in _ (by omega) | rfl) rfl ?_; clear h a; intro a h
          refine st_mul (z := ((i * (xs.length + 1) : Nat) : Int)) h rfl rfl (by rw [show ((i : Int)) * ((xs.length : Int) + 1) = ((i * (xs.length + 1) : Nat) : Int) by push_cast; rfl]; exact IntWalk.i64_in _ (by have : i * (xs.length + 1) ≤ 16 * 17 := Nat.mul_le_mul (show i ≤ 16 by omega) (show xs.length + 1 ≤ 17 by omega); omega)) rfl ?_; clear h a; intro a h
          refine st_move h rfl rfl ?_; clear h a; intro a h
          refine st_add h rfl rfl (by first | exact IntWalk.i64_in _ (by omega) | rfl) rfl ?_; clear h a; intro a h
          refine st_move h rfl rfl ?_; clear h a; intro a h
          refine st_add h rfl rfl (by first | exact IntWalk.i64_in _ (by omega) | rfl) rfl ?_; clear h a; intro a h
          refine st_idx (p := i * (xs.length + 1) + i + (k + 1)) h rfl rfl hO.sl el48 (by omega) (by omega) (hfl.2 (i) ((k + 1)) (by omega) (by omega) (by omega)) rfl ?_; clear h a; intro ad cc a h
          refine st_loadC0 h rfl cc na9 rfl ?_; clear h a; intro a h
          refine st_assign h rfl rfl ?_; clear h a; intro a h
          replace h : Ag a 151 [(0, _), (3, _), (4, _), (5, _), (6, _), (7, _), (8, _), (9, _)] := h.sub (.cons rfl (.cons rfl (.cons rfl (.cons rfl (.cons rfl (.cons rfl (.cons rfl (.cons rfl .nil))))))))
          refine wpList_nil (norm_then ?_)
          refine wp_seq ?_
          refine wp_region_lit ?_
          refine st_move h rfl rfl ?_; clear h a; intro a h
          refine st_adds h rfl rfl (by first | (simp; done) | (simp; omega)) rfl ?_; clear h a; intro a h
          refine st_move h rfl rfl ?_; clear h a; intro a h
          refine st_move h rfl rfl ?_; clear h a; intro a h
          refine st_move h rfl rfl ?_; clear h a; intro a h
          refine st_add h rfl rfl (by first | exact IntWalk.i64_in _ (by omega) | rfl) rfl ?_; clear h a; intro a h
          refine st_move h rfl rfl ?_; clear h a; intro a h
          refine st_add h rfl rfl (by first | exact IntWalk.i64_in _ (by omega) | rfl) rfl ?_; clear h a; intro a h
          refine st_mul (z := (((i + (k + 1)) * (xs.length + 1) : Nat) : Int)) h rfl rfl (by rw [show ((i : Int) + ((k : Int) + 1)) * ((xs.length : Int) + 1) = (((i + (k + 1)) * (xs.length + 1) : Nat) : Int) by push_cast; rfl]; exact IntWalk.i64_in _ (by have : (i + (k + 1)) * (xs.length + 1) ≤ 16 * 17 := Nat.mul_le_mul (show (i + (k + 1)) ≤ 16 by omega) (show xs.length + 1 ≤ 17 by omega); omega)) rfl ?_; clear h a; intro a h
          refine st_move h rfl rfl ?_; clear h a; intro a h
          refine st_add h rfl rfl (by first | exact IntWalk.i64_in _ (by omega) | rfl) rfl ?_; clear h a; intro a h
          refine st_move h rfl rfl ?_; clear h a; intro a h
          refine st_add h rfl rfl (by first | exact IntWalk.i64_in _ (by omega) | rfl) rfl ?_; clear h a; intro a h
          refine st_idx (p := (i + (k + 1)) * (xs.length + 1) + (i + (k + 1)) + (L - (k + 1))) h rfl rfl hO.sl el48 (by omega) (by omega) (hfl.2 (i + (k + 1)) (L - (k + 1)) (by omega) (by omega) (by omega)) rfl ?_; clear h a; intro ad cc a h
          refine st_loadC0 h rfl cc na9 rfl ?_; clear h a; intro a h
          refine st_adds h rfl rfl (by first | (simp; done) | (simp; omega)) rfl ?_; clear h a; intro a h
          refine st_assign h rfl rfl ?_; clear h a; intro a h
          replace h : Ag a 151 [(0, _), (3, _), (4, _), (5, _), (6, _), (7, _), (8, _), (9, _), (10, _)] := h.sub (.cons rfl (.cons rfl (.cons rfl (.cons rfl (.cons rfl (.cons rfl (.cons rfl (.cons rfl (.cons rfl .nil)))))))))
          refine wpList_nil (norm_then ?_)
          refine seq_cut (Cut (ι := Unit) 151 (fun u => [(0, .slice A xs.length c), (3, .int .i64 (xs.length : Int)), (4, .slice (some ⟨gT, 0, none⟩) N N), (5, .int .i64 (L : Int)), (6, .int .i64 (i : Int)), (7, S (betterS (refTo xs i L k) (bothT xs i L (k + 1)))), (8, .int .i64 ((k : Int) + 1)), (9, S (bT xs i (k + 1)))]) (fun u w' => Own Enc.str 9 w0.heap.size w' (.slice (some ⟨gT, 0, none⟩) N N) tab ∧ Filled xs L i tab ∧ Sl encSt w' (.slice A xs.length c) xs ∧ Fr [] w0 w')) ?_ ?_
          · refine id ?_
            refine wp_seq ?_
            refine region_bool (r := 82) (L' := [(0, _), (3, _), (4, _), (5, _), (6, _), (7, _), (8, _), (9, _), (10, _)]) (refTo xs i L k = [] ∨ lessP (bothT xs i L (k + 1)) (refTo xs i L k)) h (.cons rfl (.cons rfl (.cons rfl (.cons rfl (.cons rfl (.cons rfl (.cons rfl (.cons rfl (.cons rfl .nil))))))))) ?_ ?_
            · refine id ?_
              refine st_move h rfl rfl ?_; clear h a; intro a h
              refine st_eqs h rfl rfl rfl ?_; clear h a; intro a h
              refine st_move h rfl rfl ?_; clear h a; intro a h
              first | refine guard_dec (D := 77) h rfl ?_ ?_ | refine guard_ndec (D := 77) h rfl ?_ ?_ | refine guard_any (D := 77) h rfl ?_ ?_
              · clear h; intro g0 h
                refine gd_no h rfl rfl rfl rfl rfl rfl rfl rfl ?_; clear h a; intro a h
                refine gd_no h rfl rfl rfl rfl rfl rfl rfl rfl ?_; clear h a; intro a h
                refine gd_no h rfl rfl rfl rfl rfl rfl rfl rfl ?_; clear h a; intro a h
                refine gd_no h rfl rfl rfl rfl rfl rfl rfl rfl ?_; clear h a; intro a h
                refine st_pick_t h rfl rfl rfl rfl ?_; clear h a; intro a h
                exact wpList_nil (bool_end h rfl (by first | exact bt (.inl (by assumption)) | exact bi (by constructor; intro e; split at e; exact .inr (by assumption); omega; rintro (e | e); exact absurd e (by assumption); rw [if_pos e])) (.cons rfl (.cons rfl (.cons rfl (.cons rfl (.cons rfl (.cons rfl (.cons rfl (.cons rfl (.cons rfl .nil))))))))))
              · clear h; intro g0 h
                refine gd_yes h rfl rfl rfl rfl rfl rfl ?_
                refine st_move h rfl rfl ?_; clear h a; intro a h
                refine gd_yes h rfl rfl rfl rfl rfl rfl ?_
                refine st_move h rfl rfl ?_; clear h a; intro a h
                refine gd_yes h rfl rfl rfl rfl rfl rfl ?_
                refine st_call h (evs_cons rfl (evs_cons rfl evs_nil)) co17 (less_ok _ _ _) rfl ?_; clear h a; rintro _ _ ⟨rfl, rfl⟩ a h
                refine gd_yes h rfl rfl rfl rfl rfl rfl ?_
                refine st_eq h rfl rfl rfl ?_; clear h a; intro a h
                refine st_pick_f h rfl rfl rfl rfl ?_; clear h a; intro a h
                exact wpList_nil (bool_end h rfl (by first | exact bt (.inl (by assumption)) | exact bi (by constructor; intro e; split at e; exact .inr (by assumption); omega; rintro (e | e); exact absurd e (by assumption); rw [if_pos e])) (.cons rfl (.cons rfl (.cons rfl (.cons rfl (.cons rfl (.cons rfl (.cons rfl (.cons rfl (.cons rfl .nil))))))))))
            · clear h a; intro a h
              refine (norm_then ?_)
              first | refine cond_dec h rfl (fun c4 => ?_) (fun c4 => ?_) | refine cond_ndec h rfl (fun c4 => ?_) (fun c4 => ?_) | refine cond_split h rfl (fun c4 => ?_) (fun c4 => ?_)
              · refine id ?_
                refine wp_region_lit ?_
                refine st_move h rfl rfl ?_; clear h a; intro a h
                refine st_assign h rfl rfl ?_; clear h a; intro a h
                replace h : Ag a 151 [(0, _), (3, _), (4, _), (5, _), (6, _), (7, _), (8, _), (9, _)] := h.sub (.cons rfl (.cons rfl (.cons rfl (.cons rfl (.cons rfl (.cons rfl (.cons rfl (.cons rfl .nil))))))))
                refine wpList_nil (norm_then ?_)
                exact ⟨(), h.sub (.cons rfl (.cons rfl (.cons rfl (.cons rfl (.cons rfl (.cons (by first | exact congrArg (fun x => some (S x)) (better_pos (cons_ne _ _) c4).symm | exact congrArg (fun x => some (S x)) (better_neg c4).symm) (.cons rfl (.cons rfl .nil)))))))), hO, hfl, hs, hf⟩
              · refine id ?_
                refine wp_skip (norm_then ?_)
                exact ⟨(), h.sub (.cons rfl (.cons rfl (.cons rfl (.cons rfl (.cons rfl (.cons (by first | exact congrArg (fun x => some (S x)) (better_pos (cons_ne _ _) c4).symm | exact congrArg (fun x => some (S x)) (better_neg c4).symm) (.cons rfl (.cons rfl .nil)))))))), hO, hfl, hs, hf⟩
          · clear h a hO hs hf hfl
            rintro a w7 ⟨u, h, ⟨hO, hfl, hs, hf⟩⟩
            refine wp_seq ?_
            refine wp_seq ?_
            refine wp_region_lit ?_
            refine st_move h rfl rfl ?_; clear h a; intro a h
            refine st_move h rfl rfl ?_; clear h a; intro a h
            refine st_rem (z := ((L % (k + 1) : Nat) : Int)) h rfl rfl (by omega) (by rw [IntWalk.rem_in _ _ (by omega)]; exact (Int.natCast_emod L (k + 1)).symm) rfl ?_; clear h a; intro a h
            refine st_ne h rfl rfl rfl ?_; clear h a; intro a h
            replace h : Ag a 151 [(0, _), (3, _), (4, _), (5, _), (6, _), (7, _), (8, _), (9, _), (87, _)] := h.sub (.cons rfl (.cons rfl (.cons rfl (.cons rfl (.cons rfl (.cons rfl (.cons rfl (.cons rfl (.cons rfl .nil)))))))))
            refine wpList_nil (norm_then ?_)
            first | refine cond_dec h rfl (fun c5 => ?_) (fun c5 => ?_) | refine cond_ndec h rfl (fun c5 => ?_) (fun c5 => ?_) | refine cond_split h rfl (fun c5 => ?_) (fun c5 => ?_)
            · refine id ?_
              refine wp_exit (exit_then (exit_here (norm_then ?_)))
              refine wp_region_lit ?_
              refine st_move h rfl rfl ?_; clear h a; intro a h
              refine st_add h rfl rfl (by first | exact IntWalk.i64_in _ (by omega) | rfl) rfl ?_; clear h a; intro a h
              refine st_assign h rfl rfl ?_; clear h a; intro a h
              replace h : Ag a 151 [(0, _), (3, _), (4, _), (5, _), (6, _), (7, _), (8, _)] := h.sub (.cons rfl (.cons rfl (.cons rfl (.cons rfl (.cons rfl (.cons rfl (.cons rfl .nil)))))))
              refine wpList_nil (norm_then ?_)
              exact ⟨k + 1, h.sub (.cons rfl (.cons rfl (.cons rfl (.cons rfl (.cons rfl (.cons (by first | exact congrArg (fun x => some (S x)) (ref_no (fun e => absurd e.1 (by omega))) | exact congrArg (fun x => some (S x)) hres) (.cons (by first | rfl | (congr 2; omega)) .nil))))))), ⟨by omega, hO, hfl, hs, hf⟩, by omega⟩
            · have hmod : L % (k + 1) = 0 := by omega
              obtain ⟨tm, htmE⟩ : ∃ q, q = L / (k + 1) := ⟨_, rfl⟩
              have htm : tm ≤ L := by rw [htmE]; exact Nat.div_le_self _ _
              refine wp_skip (norm_then ?_)
              refine wp_seq ?_
              refine wp_region_lit ?_
              refine st_assign h rfl rfl ?_; clear h a; intro a h
              replace h : Ag a 151 [(0, _), (3, _), (4, _), (5, _), (6, _), (7, _), (8, _), (9, _), (11, _)] := h.sub (.cons rfl (.cons rfl (.cons rfl (.cons rfl (.cons rfl (.cons rfl (.cons rfl (.cons rfl (.cons rfl .nil)))))))))
              refine wpList_nil (norm_then ?_)
              refine wp_seq ?_
              refine wp_seq ?_
              refine wp_region_lit ?_
              refine st_move h rfl rfl ?_; clear h a; intro a h
              refine st_move h rfl rfl ?_; clear h a; intro a h
              refine st_add h rfl rfl (by first | exact IntWalk.i64_in _ (by omega) | rfl) rfl ?_; clear h a; intro a h
              refine st_assign h rfl rfl ?_; clear h a; intro a h
              replace h : Ag a 151 [(0, _), (3, _), (4, _), (5, _), (6, _), (7, _), (8, _), (9, _), (11, _), (12, _)] := h.sub (.cons rfl (.cons rfl (.cons rfl (.cons rfl (.cons rfl (.cons rfl (.cons rfl (.cons rfl (.cons rfl (.cons rfl .nil))))))))))
              refine wpList_nil (norm_then ?_)
              refine wp_block ?_
              refine loop (ι := Nat) (fun e => [(0, .slice A xs.length c), (3, .int .i64 (xs.length : Int)), (4, .slice (some ⟨gT, 0, none⟩) N N), (5, .int .i64 (L : Int)), (6, .int .i64 (i : Int)), (7, S (betterS (refTo xs i L k) (bothT xs i L (k + 1)))), (8, .int .i64 ((k : Int) + 1)), (9, S (bT xs i (k + 1))), (11, .int .i64 (if sameB xs i (k + 1) e then 1 else 0)), (12, .int .i64 ((i : Int) + ((k : Int) + 1) + (e : Int)))]) (fun e w' => e ≤ L - (k + 1) ∧ Own Enc.str 9 w0.heap.size w' (.slice (some ⟨gT, 0, none⟩) N N) tab ∧ Filled xs L i tab ∧ Sl encSt w' (.slice A xs.length c) xs ∧ Fr [] w0 w') (fun e => L - e) 0 (h.sub (.cons rfl (.cons rfl (.cons rfl (.cons rfl (.cons rfl (.cons rfl (.cons rfl (.cons rfl (.cons rfl (.cons (by first | rfl | (congr 2; omega) | congr 2) .nil))))))))))) ⟨by omega, hO, hfl, hs, hf⟩ ?_
              clear h a hO hs hf hfl
              rintro e w8 a h ⟨he, hO, hfl, hs, hf⟩
              refine wp_seq ?_
              refine wp_seq ?_
              refine wp_region_lit ?_
              refine st_move h rfl rfl ?_; clear h a; intro a h
              refine st_move h rfl rfl ?_; clear h a; intro a h
              refine st_move h rfl rfl ?_; clear h a; intro a h
              refine st_add h rfl rfl (by first | exact IntWalk.i64_in _ (by omega) | rfl) rfl ?_; clear h a; intro a h
              refine st_lt h rfl rfl rfl ?_; clear h a; intro a h
              replace h : Ag a 151 [(0, _), (3, _), (4, _), (5, _), (6, _), (7, _), (8, _), (9, _), (11, _), (12, _), (95, _)] := h.sub (.cons rfl (.cons rfl (.cons rfl (.cons rfl (.cons rfl (.cons rfl (.cons rfl (.cons rfl (.cons rfl (.cons rfl (.cons rfl .nil)))))))))))
              refine wpList_nil (norm_then ?_)
              first | refine cond_dec h rfl (fun c6 => ?_) (fun c6 => ?_) | refine cond_ndec h rfl (fun c6 => ?_) (fun c6 => ?_) | refine cond_split h rfl (fun c6 => ?_) (fun c6 => ?_)
              · obtain ⟨x, hx⟩ : ∃ x, xs[i + (k + 1) + e]? = some x := ⟨_, List.getElem?_eq_getElem (by omega)⟩
                obtain ⟨y, hy⟩ : ∃ y, xs[i + e]? = some y := ⟨_, List.getElem?_eq_getElem (by omega)⟩
                obtain ⟨xa, hxa, cx⟩ := hA _ x hx
                obtain ⟨ya, hya, cy⟩ := hA _ y hy
                refine wp_skip (norm_then ?_)
                refine wp_seq ?_
                refine wp_block ?_
                refine wp_seq ?_
                refine region_quiet hmix (by kernel_rfl) ?_
                refine qt_move h rfl rfl ?_; clear h a; intro a h
                refine qt_move h rfl rfl ?_; clear h a; intro a h
                refine qt_idxS (p := i + (k + 1) + e) h (by rw [hxa]; rfl) rfl el22 (by omega) (by omega) (by omega) rfl ?_; clear h a; intro a h
                refine qt_loadA h rfl (fun _ hw => (cx.fr hf (by simp)).fr hw (by simp)) ag36 rfl ?_; clear h a; intro a h
                refine qt_move h rfl rfl ?_; clear h a; intro a h
                refine qt_move h rfl rfl ?_; clear h a; intro a h
                refine qt_move h rfl rfl ?_; clear h a; intro a h
                refine qt_sub h rfl rfl (by first | exact IntWalk.i64_in _ (by omega) | rfl) rfl ?_; clear h a; intro a h
                refine qt_idxS (p := i + e) h (by rw [hya]; rfl) rfl el22 (by omega) (by omega) (by omega) rfl ?_; clear h a; intro a h
                refine qt_loadA h rfl (fun _ hw => (cy.fr hf (by simp)).fr hw (by simp)) ag36 rfl ?_; clear h a; intro a h
                refine qt_neV (e := x) (f := y) h rfl rfl eqv36 rfl ?_; clear h a; intro a h
                refine wpQuiet_nil ?_
                intro w9 hq
                replace hf := hf.next hq
                replace hO := hO.ext hq
                replace hs := hs.ext hq
                clear hq
                replace h : Ag a 151 [(0, _), (3, _), (4, _), (5, _), (6, _), (7, _), (8, _), (9, _), (11, _), (12, _), (108, _)] := h.sub (.cons rfl (.cons rfl (.cons rfl (.cons rfl (.cons rfl (.cons rfl (.cons rfl (.cons rfl (.cons rfl (.cons rfl (.cons rfl .nil)))))))))))
                refine (norm_then ?_)
                first | refine cond_dec h rfl (fun c7 => ?_) (fun c7 => ?_) | refine cond_ndec h rfl (fun c7 => ?_) (fun c7 => ?_) | refine cond_split h rfl (fun c7 => ?_) (fun c7 => ?_)
                · refine id ?_
                  refine wp_region_lit ?_
                  refine st_assign h rfl rfl ?_; clear h a; intro a h
                  replace h : Ag a 151 [(0, _), (3, _), (4, _), (5, _), (6, _), (7, _), (8, _), (9, _), (11, _), (12, _)] := h.sub (.cons rfl (.cons rfl (.cons rfl (.cons rfl (.cons rfl (.cons rfl (.cons rfl (.cons rfl (.cons rfl (.cons rfl .nil))))))))))
                  refine wpList_nil (norm_blk (norm_then ?_))
                  refine wp_region_lit ?_
                  refine st_move h rfl rfl ?_; clear h a; intro a h
                  refine st_add h rfl rfl (by first | exact IntWalk.i64_in _ (by omega) | rfl) rfl ?_; clear h a; intro a h
                  refine st_assign h rfl rfl ?_; clear h a; intro a h
                  replace h : Ag a 151 [(0, _), (3, _), (4, _), (5, _), (6, _), (7, _), (8, _), (9, _), (11, _), (12, _)] := h.sub (.cons rfl (.cons rfl (.cons rfl (.cons rfl (.cons rfl (.cons rfl (.cons rfl (.cons rfl (.cons rfl (.cons rfl .nil))))))))))
                  refine wpList_nil (norm_then ?_)
                  exact ⟨e + 1, h.sub (.cons rfl (.cons rfl (.cons rfl (.cons rfl (.cons rfl (.cons rfl (.cons rfl (.cons rfl (.cons (by first | (rw [same_yes hx hy (Decidable.not_not.1 c7)]; rfl) | (rw [same_no hx hy c7]; rfl)) (.cons (by first | rfl | (congr 2; omega) | congr 2) .nil)))))))))), ⟨by omega, hO, hfl, hs, hf⟩, by omega⟩
                · refine id ?_
                  refine wp_skip (norm_blk (norm_then ?_))
                  refine wp_region_lit ?_
                  refine st_move h rfl rfl ?_; clear h a; intro a h
                  refine st_add h rfl rfl (by first | exact IntWalk.i64_in _ (by omega) | rfl) rfl ?_; clear h a; intro a h
                  refine st_assign h rfl rfl ?_; clear h a; intro a h
                  replace h : Ag a 151 [(0, _), (3, _), (4, _), (5, _), (6, _), (7, _), (8, _), (9, _), (11, _), (12, _)] := h.sub (.cons rfl (.cons rfl (.cons rfl (.cons rfl (.cons rfl (.cons rfl (.cons rfl (.cons rfl (.cons rfl (.cons rfl .nil))))))))))
                  refine wpList_nil (norm_then ?_)
                  exact ⟨e + 1, h.sub (.cons rfl (.cons rfl (.cons rfl (.cons rfl (.cons rfl (.cons rfl (.cons rfl (.cons rfl (.cons (by first | (rw [same_yes hx hy (Decidable.not_not.1 c7)]; rfl) | (rw [same_no hx hy c7]; rfl)) (.cons (by first | rfl | (congr 2; omega) | congr 2) .nil)))))))))), ⟨by omega, hO, hfl, hs, hf⟩, by omega⟩
              · obtain rfl : e = L - (k + 1) := by omega
                rw [same_reps (by omega) (by omega)] at h
                refine wp_exit (exit_then (exit_then (exit_here (norm_then ?_))))
                refine wp_seq ?_
                refine wp_region_lit ?_
                refine st_move h rfl rfl ?_; clear h a; intro a h
                refine st_move h rfl rfl ?_; clear h a; intro a h
                refine st_quo (z := ((tm : Nat) : Int)) h rfl rfl (by omega) (by rw [IntWalk.i64_quo _ _ (by omega)]; rw [htmE]; exact (Int.natCast_ediv L (k + 1)).symm) rfl ?_; clear h a; intro a h
                refine st_assign h rfl rfl ?_; clear h a; intro a h
                replace h : Ag a 151 [(0, _), (3, _), (4, _), (5, _), (6, _), (7, _), (8, _), (9, _), (11, _), (13, _)] := h.sub (.cons rfl (.cons rfl (.cons rfl (.cons rfl (.cons rfl (.cons rfl (.cons rfl (.cons rfl (.cons rfl (.cons rfl .nil))))))))))
                refine wpList_nil (norm_then ?_)
                refine wp_seq ?_
                refine wp_region_lit ?_
                refine st_move h rfl rfl ?_; clear h a; intro a h
                refine st_rem (z := ((tm % 10 : Nat) : Int)) h rfl rfl (by omega) (by rw [IntWalk.rem_in _ _ (by omega)]; omega) rfl ?_; clear h a; intro a h
                refine st_add h rfl rfl (by first | exact IntWalk.i64_in _ (by omega) | rfl) rfl ?_; clear h a; intro a h
                refine st_conv h rfl (by rw [Tryd.underlying3]; rfl) Tryd.underlying5 (by first | exact IntWalk.u8_in _ (by omega) | rfl) rfl ?_; clear h a; intro a h
                refine st_bslice ([dg ((tm % 10 : Nat) : Int)]) h (evs_cons rfl evs_nil) rfl (by rw [show (48 : Int) + ((tm % 10 : Nat) : Int) = ((dg ((tm % 10 : Nat) : Int)).toNat : Int) from (dg_val _ (by omega) (by omega)).symm]; rfl) rfl el58 (by decide) rfl ?_; clear h a; intro g_116 w10 hg ho116 hq hz a h
                have hl116 : w0.heap.size ≤ g_116 := by have := hf.size; omega
                replace hf := hf.next hq
                replace hO := hO.ext hq
                replace hs := hs.ext hq
                clear hq hz hg
                refine st_b2s h rfl ho116.sl el58 Tryd.underlying5 Tryd.underlying9 rfl ?_; clear h a; intro a h
                refine st_assign h rfl rfl ?_; clear h a; intro a h
                replace h : Ag a 151 [(0, _), (3, _), (4, _), (5, _), (6, _), (7, _), (8, _), (9, _), (11, _), (13, _), (14, _)] := h.sub (.cons rfl (.cons rfl (.cons rfl (.cons rfl (.cons rfl (.cons rfl (.cons rfl (.cons rfl (.cons rfl (.cons rfl (.cons rfl .nil)))))))))))
                refine wpList_nil (norm_then ?_)
                refine seq_cut (Cut (ι := Unit) 151 (fun u => [(0, .slice A xs.length c), (3, .int .i64 (xs.length : Int)), (4, .slice (some ⟨gT, 0, none⟩) N N), (5, .int .i64 (L : Int)), (6, .int .i64 (i : Int)), (7, S (betterS (refTo xs i L k) (bothT xs i L (k + 1)))), (8, .int .i64 ((k : Int) + 1)), (9, S (bT xs i (k + 1))), (11, .int .i64 (if repsB xs i L (k + 1) then 1 else 0)), (14, S (itoaS (tm)))]) (fun u w' => Own Enc.str 9 w0.heap.size w' (.slice (some ⟨gT, 0, none⟩) N N) tab ∧ Filled xs L i tab ∧ Sl encSt w' (.slice A xs.length c) xs ∧ Fr [] w0 w')) ?_ ?_
                · refine id ?_
                  refine wp_seq ?_
                  refine wp_region_lit ?_
                  refine st_move h rfl rfl ?_; clear h a; intro a h
                  refine st_gt h rfl rfl rfl ?_; clear h a; intro a h
                  replace h : Ag a 151 [(0, _), (3, _), (4, _), (5, _), (6, _), (7, _), (8, _), (9, _), (11, _), (14, _), (119, _)] := h.sub (.cons rfl (.cons rfl (.cons rfl (.cons rfl (.cons rfl (.cons rfl (.cons rfl (.cons rfl (.cons rfl (.cons rfl (.cons rfl .nil)))))))))))
                  refine wpList_nil (norm_then ?_)
                  first | refine cond_dec h rfl (fun c8 => ?_) (fun c8 => ?_) | refine cond_ndec h rfl (fun c8 => ?_) (fun c8 => ?_) | refine cond_split h rfl (fun c8 => ?_) (fun c8 => ?_)
                  · refine id ?_
                    refine wp_region_lit ?_
                    refine st_move h rfl rfl ?_; clear h a; intro a h
                    refine st_adds h rfl rfl (by first | (simp; done) | (simp; omega)) rfl ?_; clear h a; intro a h
                    refine st_assign h rfl rfl ?_; clear h a; intro a h
                    replace h : Ag a 151 [(0, _), (3, _), (4, _), (5, _), (6, _), (7, _), (8, _), (9, _), (11, _), (14, _)] := h.sub (.cons rfl (.cons rfl (.cons rfl (.cons rfl (.cons rfl (.cons rfl (.cons rfl (.cons rfl (.cons rfl (.cons rfl .nil))))))))))
                    refine wpList_nil (norm_then ?_)
                    exact ⟨(), h.sub (.cons rfl (.cons rfl (.cons rfl (.cons rfl (.cons rfl (.cons rfl (.cons rfl (.cons rfl (.cons rfl (.cons (by first | exact congrArg (fun x => some (S x)) (itoa_hi _ (by omega) (by omega)) | exact congrArg (fun x => some (S x)) (itoa_lo _ (by omega) (by omega))) .nil)))))))))), hO, hfl, hs, hf⟩
                  · refine id ?_
                    refine wp_skip (norm_then ?_)
                    exact ⟨(), h.sub (.cons rfl (.cons rfl (.cons rfl (.cons rfl (.cons rfl (.cons rfl (.cons rfl (.cons rfl (.cons rfl (.cons (by first | exact congrArg (fun x => some (S x)) (itoa_hi _ (by omega) (by omega)) | exact congrArg (fun x => some (S x)) (itoa_lo _ (by omega) (by omega))) .nil)))))))))), hO, hfl, hs, hf⟩
                · clear h a hO hs hf hfl
                  rintro a w11 ⟨u, h, ⟨hO, hfl, hs, hf⟩⟩
                  refine wp_seq ?_
                  refine wp_region_lit ?_
                  refine st_move h rfl rfl ?_; clear h a; intro a h
                  refine st_adds h rfl rfl (by first | (simp; done) | (simp; omega)) rfl ?_; clear h a; intro a h
                  refine st_adds h rfl rfl (by simp; omega) rfl ?_; clear h a; intro a h
                  refine st_move h rfl rfl ?_; clear h a; intro a h
                  have hit := itoa_len (tm)
                  refine st_adds h rfl rfl (by simp; omega) rfl ?_; clear h a; intro a h
                  rw [rep_eq] at h
                  refine st_assign h rfl rfl ?_; clear h a; intro a h
                  replace h : Ag a 151 [(0, _), (3, _), (4, _), (5, _), (6, _), (7, _), (8, _), (11, _), (15, _)] := h.sub (.cons rfl (.cons rfl (.cons rfl (.cons rfl (.cons rfl (.cons rfl (.cons rfl (.cons rfl (.cons rfl .nil)))))))))
                  refine wpList_nil (norm_then ?_)
                  refine wp_seq ?_
                  refine region_bool (r := 134) (L' := [(0, _), (3, _), (4, _), (5, _), (6, _), (7, _), (8, _), (15, _)]) (repsB xs i L (k + 1) = true ∧ lessP (repT (bT xs i (k + 1)) (tm)) (betterS (refTo xs i L k) (bothT xs i L (k + 1)))) h (.cons rfl (.cons rfl (.cons rfl (.cons rfl (.cons rfl (.cons rfl (.cons rfl (.cons rfl .nil)))))))) ?_ ?_
                  · refine id ?_
                    refine st_move h rfl rfl ?_; clear h a; intro a h
                    refine st_eq h rfl rfl rfl ?_; clear h a; intro a h
                    refine st_move h rfl rfl ?_; clear h a; intro a h
                    first | refine guard_dec (D := 129) h rfl ?_ ?_ | refine guard_ndec (D := 129) h rfl ?_ ?_ | refine guard_any (D := 129) h rfl ?_ ?_
                    · clear h; intro g1 h
                      refine gd_yes h rfl rfl rfl rfl rfl rfl ?_
                      refine st_move h rfl rfl ?_; clear h a; intro a h
                      refine gd_yes h rfl rfl rfl rfl rfl rfl ?_
                      refine st_move h rfl rfl ?_; clear h a; intro a h
                      refine gd_yes h rfl rfl rfl rfl rfl rfl ?_
                      refine st_call h (evs_cons rfl (evs_cons rfl evs_nil)) co17 (less_ok _ _ _) rfl ?_; clear h a; rintro _ _ ⟨rfl, rfl⟩ a h
                      refine gd_yes h rfl rfl rfl rfl rfl rfl ?_
                      refine st_eq h rfl rfl rfl ?_; clear h a; intro a h
                      refine st_pick_t h rfl rfl rfl rfl ?_; clear h a; intro a h
                      exact wpList_nil (bool_end h rfl (by first | exact bi (by constructor; intro e; split at e; exact ⟨by split at g1; assumption; omega, by assumption⟩; omega; rintro ⟨_, e⟩; rw [if_pos e]) | exact bf (fun e => by rw [if_pos e.1] at g1; exact g1 rfl)) (.cons rfl (.cons rfl (.cons rfl (.cons rfl (.cons rfl (.cons rfl (.cons rfl (.cons rfl .nil)))))))))
                    · clear h; intro g1 h
                      refine gd_no h rfl rfl rfl rfl rfl rfl rfl rfl ?_; clear h a; intro a h
                      refine gd_no h rfl rfl rfl rfl rfl rfl rfl rfl ?_; clear h a; intro a h
                      refine gd_no h rfl rfl rfl rfl rfl rfl rfl rfl ?_; clear h a; intro a h
                      refine gd_no h rfl rfl rfl rfl rfl rfl rfl rfl ?_; clear h a; intro a h
                      refine st_pick_f h rfl rfl rfl rfl ?_; clear h a; intro a h
                      exact wpList_nil (bool_end h rfl (by first | exact bi (by constructor; intro e; split at e; exact ⟨by split at g1; assumption; omega, by assumption⟩; omega; rintro ⟨_, e⟩; rw [if_pos e]) | exact bf (fun e => by rw [if_pos e.1] at g1; exact g1 rfl)) (.cons rfl (.cons rfl (.cons rfl (.cons rfl (.cons rfl (.cons rfl (.cons rfl (.cons rfl .nil)))))))))
                  · clear h a; intro a h
                    refine (norm_then ?_)
                    first | refine cond_dec h rfl (fun c9 => ?_) (fun c9 => ?_) | refine cond_ndec h rfl (fun c9 => ?_) (fun c9 => ?_) | refine cond_split h rfl (fun c9 => ?_) (fun c9 => ?_)
                    · have hres := ref_yes (i := i) hmod c9.1
                      rw [← htmE] at hres
                      rw [better_pos (rep_ne _ _) (.inr c9.2)] at hres
                      refine wp_region_lit ?_
                      refine st_move h rfl rfl ?_; clear h a; intro a h
                      refine st_assign h rfl rfl ?_; clear h a; intro a h
                      replace h : Ag a 151 [(0, _), (3, _), (4, _), (5, _), (6, _), (7, _), (8, _)] := h.sub (.cons rfl (.cons rfl (.cons rfl (.cons rfl (.cons rfl (.cons rfl (.cons rfl .nil)))))))
                      refine wpList_nil (norm_blk (norm_then ?_))
                      refine wp_region_lit ?_
                      refine st_move h rfl rfl ?_; clear h a; intro a h
                      refine st_add h rfl rfl (by first | exact IntWalk.i64_in _ (by omega) | rfl) rfl ?_; clear h a; intro a h
                      refine st_assign h rfl rfl ?_; clear h a; intro a h
                      replace h : Ag a 151 [(0, _), (3, _), (4, _), (5, _), (6, _), (7, _), (8, _)] := h.sub (.cons rfl (.cons rfl (.cons rfl (.cons rfl (.cons rfl (.cons rfl (.cons rfl .nil)))))))
                      refine wpList_nil (norm_then ?_)
                      exact ⟨k + 1, h.sub (.cons rfl (.cons rfl (.cons rfl (.cons rfl (.cons rfl (.cons (by first | exact congrArg (fun x => some (S x)) (ref_no (fun e => absurd e.1 (by omega))) | exact congrArg (fun x => some (S x)) hres) (.cons (by first | rfl | (congr 2; omega)) .nil))))))), ⟨by omega, hO, hfl, hs, hf⟩, by omega⟩
                    · have hres : betterS (refTo xs i L k) (bothT xs i L (k + 1)) = refTo xs i L (k + 1) := by
                        by_cases hr : repsB xs i L (k + 1) = true
                        · rw [← ref_yes hmod hr, ← htmE, better_neg (fun e => e.elim (both_ne _ _ _ _ _) (fun e => c9 ⟨hr, e⟩))]
                        · exact ref_no (fun e => hr e.2)
                      refine wp_skip (norm_blk (norm_then ?_))
                      refine wp_region_lit ?_
                      refine st_move h rfl rfl ?_; clear h a; intro a h
                      refine st_add h rfl rfl (by first | exact IntWalk.i64_in _ (by omega) | rfl) rfl ?_; clear h a; intro a h
                      refine st_assign h rfl rfl ?_; clear h a; intro a h
                      replace h : Ag a 151 [(0, _), (3, _), (4, _), (5, _), (6, _), (7, _), (8, _)] := h.sub (.cons rfl (.cons rfl (.cons rfl (.cons rfl (.cons rfl (.cons rfl (.cons rfl .nil)))))))
                      refine wpList_nil (norm_then ?_)
                      exact ⟨k + 1, h.sub (.cons rfl (.cons rfl (.cons rfl (.cons rfl (.cons rfl (.cons (by first | exact congrArg (fun x => some (S x)) (ref_no (fun e => absurd e.1 (by omega))) | exact congrArg (fun x => some (S x)) hres) (.cons (by first | rfl | (congr 2; omega)) .nil))))))), ⟨by omega, hO, hfl, hs, hf⟩, by omega⟩
        · obtain rfl : k = L - 1 := by omega
          rw [ref_done hok hm (by omega) hL1] at h
          refine wp_exit (exit_then (exit_then (exit_here (norm_then ?_))))
          refine wp_region_lit ?_
          refine st_move h rfl rfl ?_; clear h a; intro a h
          refine st_move h rfl rfl ?_; clear h a; intro a h
          refine st_move h rfl rfl ?_; clear h a; intro a h
          refine st_add h rfl rfl (by first | exact IntWalk.i64_in _ (by omega) | rfl) rfl ?_; clear h a; intro a h
          refine st_mul (z := ((i * (xs.length + 1) : Nat) : Int)) h rfl rfl (by rw [show ((i : Int)) * ((xs.length : Int) + 1) = ((i * (xs.length + 1) : Nat) : Int) by push_cast; rfl]; exact IntWalk.i64_in _ (by have : i * (xs.length + 1) ≤ 16 * 17 := Nat.mul_le_mul (show i ≤ 16 by omega) (show xs.length + 1 ≤ 17 by omega); omega)) rfl ?_; clear h a; intro a h
          refine st_move h rfl rfl ?_; clear h a; intro a h
          refine st_add h rfl rfl (by first | exact IntWalk.i64_in _ (by omega) | rfl) rfl ?_; clear h a; intro a h
          refine st_move h rfl rfl ?_; clear h a; intro a h
          refine st_add h rfl rfl (by first | exact IntWalk.i64_in _ (by omega) | rfl) rfl ?_; clear h a; intro a h
          refine st_move h rfl rfl ?_; clear h a; intro a h
          refine st_idxS (p := i * (xs.length + 1) + i + L) h rfl rfl el48 (by omega) (by omega) (by omega) rfl ?_; clear h a; intro a h
          refine st_storeO (bT xs i L) h rfl rfl hO (by have := hfl.1; have := idx_lt (n := xs.length) (a := i) (m := L) (by omega); omega) rfl sz9 ?_; clear h a; intro w12 hO2 hq hz a h
          replace hO := hO2
          replace hfl := fill_set (by omega) hfl
          replace hs := hs.fr hq (by intro k hk hb; have := hrb k hb; simp at hk; omega)
          replace hf := hf.step hq (by simp; omega)
          clear hq hz hO2
          replace h : Ag a 151 [(0, _), (3, _), (4, _), (5, _), (6, _)] := h.sub (.cons rfl (.cons rfl (.cons rfl (.cons rfl (.cons rfl .nil)))))
          refine wpList_nil (norm_blk (norm_then ?_))
          refine wp_region_lit ?_
          refine st_move h rfl rfl ?_; clear h a; intro a h
          refine st_add h rfl rfl (by first | exact IntWalk.i64_in _ (by omega) | rfl) rfl ?_; clear h a; intro a h
          refine st_assign h rfl rfl ?_; clear h a; intro a h
          replace h : Ag a 151 [(0, _), (3, _), (4, _), (5, _), (6, _)] := h.sub (.cons rfl (.cons rfl (.cons rfl (.cons rfl (.cons rfl .nil)))))
          refine wpList_nil (norm_then ?_)
          exact ⟨(i + 1, _), h.sub (.cons rfl (.cons rfl (.cons rfl (.cons rfl (.cons rfl .nil))))), ⟨by simp only; omega, hO, hfl, hs, hf⟩, by simp only; omega⟩
    · refine id ?_
      refine wp_exit (exit_then (exit_then (exit_here (norm_blk (norm_then ?_)))))
      refine wp_region_lit ?_
      refine st_move h rfl rfl ?_; clear h a; intro a h
      refine st_add h rfl rfl (by first | exact IntWalk.i64_in _ (by omega) | rfl) rfl ?_; clear h a; intro a h
      refine st_assign h rfl rfl ?_; clear h a; intro a h
      replace h : Ag a 151 [(0, _), (3, _), (4, _), (5, _)] := h.sub (.cons rfl (.cons rfl (.cons rfl (.cons rfl .nil))))
      refine wpList_nil (norm_then ?_)
      exact ⟨(L + 1, tab), h.sub (.cons rfl (.cons rfl (.cons rfl (.cons rfl .nil)))), ⟨by simp only; omega, by simp only; omega, hO, fill_next (by omega) hfl, hs, hf⟩, by simp only; omega⟩
  · obtain rfl : L = xs.length + 1 := by omega
    refine wp_exit (exit_then (exit_then (exit_here (norm_then ?_))))
    refine wp_seq ?_
    refine wp_region_lit ?_
    refine st_move h rfl rfl ?_; clear h a; intro a h
    refine st_move h rfl rfl ?_; clear h a; intro a h
    refine st_idx (p := 0 * (xs.length + 1) + 0 + xs.length) h rfl rfl hO.sl el48 (by omega) (by omega) (hfl.2 0 xs.length (by omega) (by omega) (by omega)) rfl ?_; clear h a; intro ad cc a h
    refine st_loadC0 h rfl cc na9 rfl ?_; clear h a; intro a h
    refine st_assign h rfl rfl ?_; clear h a; intro a h
    replace h : Ag a 151 [(2, _)] := h.sub (.cons rfl .nil)
    refine wpList_nil (norm_then ?_)
    refine wp_ret ?_
    refine ret1 h Tryd.results16 rfl ?_
    exact ⟨_, rfl, rfl, hf⟩
end Go.Proofs.YtbbnampdgefljaaDoor
namespace Go.Proofs.YtbbnampdgefljaaDoor
open Go.Lw Go.G14
theorem co42 : CallOf Tryd.prog 42 := CallOf.mk' Tryd.func42 (by kernel_rfl) (by kernel_rfl)
theorem co60 : CallOf Tryd.prog 60 := CallOf.mk' Tryd.func60 (by kernel_rfl) (by kernel_rfl)
theorem el68 : ElemOf Tryd.prog 68 3 Enc.i64 8 := ElemOf.mk' (z := (.int .i64 0)) Tryd.underlying68 (by kernel_rfl) rfl
theorem refneeds_ok (s : Stitch) (w0 : World) (hk : 0 ≤ s.k) (hy : 0 ≤ s.y) : Rets Tryd.prog 42 #[stV s] w0 fun v w' => v = .int .i64 (needsS s) ∧ Fr [] w0 w' := by
  refine enter [(0, stV s)] Tryd.func42 rfl Tryd.ntmps42 rfl (.cons rfl .nil) ?_
  have hf := Fr.refl [] w0
  intro a h
  refine wp_seq ?_
  refine wp_region_lit ?_
  refine st_box h rfl rfl rfl ?_; clear h a; intro w1 hb1 hq hz a h
  obtain ⟨g_1, hg⟩ : ∃ g, g = w0.heap.size := ⟨_, rfl⟩; rw [← hg] at hb1 h hz
  have hl1 : w0.heap.size ≤ g_1 := by have := hf.size; omega
  replace hf := hf.next hq
  clear hq hz hg
  refine st_assign h rfl rfl ?_; clear h a; intro a h
  replace h : Ag a 27 [(1, _)] := h.sub (.cons rfl .nil)
  refine wpList_nil (norm_then ?_)
  refine wp_seq ?_
  refine wp_seq ?_
  refine wp_region_lit ?_
  refine st_loadBA h rfl hb1 ag36 rfl ?_; clear h a; intro a h
  refine st_call h (evs_cons rfl evs_nil) co15 (valid_ok s _ hk hy) rfl ?_; clear h a; rintro _ w2 ⟨rfl, hq⟩ a h
  replace hf := hf.next hq
  replace hb1 := hb1.ext hq
  clear hq
  refine st_eq h rfl rfl rfl ?_; clear h a; intro a h
  refine st_move h rfl rfl ?_; clear h a; intro a h
  first | refine guard_dec (D := 6) h rfl ?_ ?_ | refine guard_ndec (D := 6) h rfl ?_ ?_ | refine guard_any (D := 6) h rfl ?_ ?_
  · clear h; intro g0 h
    refine gd_no h rfl rfl rfl rfl rfl rfl rfl rfl ?_; clear h a; intro a h
    refine gd_no h rfl rfl rfl rfl rfl rfl rfl rfl ?_; clear h a; intro a h
    refine gd_no h rfl rfl rfl rfl rfl rfl rfl rfl ?_; clear h a; intro a h
    refine st_pick_t h rfl rfl rfl rfl ?_; clear h a; intro a h
    replace h : Ag a 27 [(1, _), (10, _)] := h.sub (.cons rfl (.cons rfl .nil))
    refine wpList_nil (norm_then ?_)
    refine cond_true h rfl ?_
    refine wp_seq ?_
    refine wp_region_lit ?_
    refine st_assign h rfl rfl ?_; clear h a; intro a h
    replace h : Ag a 27 [(2, _)] := h.sub (.cons rfl .nil)
    refine wpList_nil (norm_then ?_)
    refine wp_ret (ret_then ?_)
    refine ret1 h Tryd.results42 rfl ?_
    exact ⟨_, rfl, by first | rw [needs_0 (.inl (fun e => by rw [if_pos e] at g0; omega))] | rw [needs_0 (.inr c0)] | rw [needs_8 hc c1] | rw [needs_2 hc (by omega)] | rw [needs_1 hc (by omega) (by omega) (by omega)], hf⟩
  · clear h; intro g0 h
    refine gd_yes h rfl rfl rfl rfl rfl rfl ?_
    refine st_fieldAddr h rfl fa36_0 rfl ?_; clear h a; intro a h
    refine gd_yes h rfl rfl rfl rfl rfl rfl ?_
    refine st_loadB h rfl hb1 rfl na34 rfl ?_; clear h a; intro a h
    refine gd_yes h rfl rfl rfl rfl rfl rfl ?_
    refine st_eq h rfl rfl rfl ?_; clear h a; intro a h
    refine st_pick_f h rfl rfl rfl rfl ?_; clear h a; intro a h
    replace h : Ag a 27 [(1, _), (10, _)] := h.sub (.cons rfl (.cons rfl .nil))
    refine wpList_nil (norm_then ?_)
    first | refine cond_dec h rfl (fun c0 => ?_) (fun c0 => ?_) | refine cond_ndec h rfl (fun c0 => ?_) (fun c0 => ?_) | refine cond_split h rfl (fun c0 => ?_) (fun c0 => ?_)
    · refine id ?_
      refine wp_seq ?_
      refine wp_region_lit ?_
      refine st_assign h rfl rfl ?_; clear h a; intro a h
      replace h : Ag a 27 [(2, _)] := h.sub (.cons rfl .nil)
      refine wpList_nil (norm_then ?_)
      refine wp_ret (ret_then ?_)
      refine ret1 h Tryd.results42 rfl ?_
      exact ⟨_, rfl, by first | rw [needs_0 (.inl (fun e => by rw [if_pos e] at g0; omega))] | rw [needs_0 (.inr c0)] | rw [needs_8 hc c1] | rw [needs_2 hc (by omega)] | rw [needs_1 hc (by omega) (by omega) (by omega)], hf⟩
    · have hc : checkS s = 0 := Decidable.not_not.1 fun e => g0 (if_neg e)
      refine wp_skip (norm_then ?_)
      refine wp_seq ?_
      refine wp_seq ?_
      refine wp_region_lit ?_
      refine st_fieldAddr h rfl fa36_0 rfl ?_; clear h a; intro a h
      refine st_loadB h rfl hb1 rfl na34 rfl ?_; clear h a; intro a h
      refine st_eq h rfl rfl rfl ?_; clear h a; intro a h
      replace h : Ag a 27 [(1, _), (13, _)] := h.sub (.cons rfl (.cons rfl .nil))
      refine wpList_nil (norm_then ?_)
      first | refine cond_dec h rfl (fun c1 => ?_) (fun c1 => ?_) | refine cond_ndec h rfl (fun c1 => ?_) (fun c1 => ?_) | refine cond_split h rfl (fun c1 => ?_) (fun c1 => ?_)
      · have h8 := (check_rng hc).2.2.2.2.2 c1
        refine wp_seq ?_
        refine wp_region_lit ?_
        refine st_fieldAddr h rfl fa36_2 rfl ?_; clear h a; intro a h
        refine st_loadB h rfl hb1 rfl na3 rfl ?_; clear h a; intro a h
        refine st_fieldAddr h rfl fa36_3 rfl ?_; clear h a; intro a h
        refine st_loadB h rfl hb1 rfl na3 rfl ?_; clear h a; intro a h
        refine st_add h rfl rfl (by first | exact IntWalk.i64_in _ (by omega) | rfl) rfl ?_; clear h a; intro a h
        refine st_assign h rfl rfl ?_; clear h a; intro a h
        replace h : Ag a 27 [(2, _)] := h.sub (.cons rfl .nil)
        refine wpList_nil (norm_then ?_)
        refine wp_ret (ret_then ?_)
        refine ret1 h Tryd.results42 rfl ?_
        exact ⟨_, rfl, by first | rw [needs_0 (.inl (fun e => by rw [if_pos e] at g0; omega))] | rw [needs_0 (.inr c0)] | rw [needs_8 hc c1] | rw [needs_2 hc (by omega)] | rw [needs_1 hc (by omega) (by omega) (by omega)], hf⟩
      · refine id ?_
        refine wp_skip (norm_then ?_)
        refine wp_seq ?_
        refine wp_seq ?_
        refine wp_region_lit ?_
        refine st_fieldAddr h rfl fa36_0 rfl ?_; clear h a; intro a h
        refine st_loadB h rfl hb1 rfl na34 rfl ?_; clear h a; intro a h
        refine st_eq h rfl rfl rfl ?_; clear h a; intro a h
        refine st_move h rfl rfl ?_; clear h a; intro a h
        first | refine guard_dec (D := 22) h rfl ?_ ?_ | refine guard_ndec (D := 22) h rfl ?_ ?_ | refine guard_any (D := 22) h rfl ?_ ?_
        · clear h; intro g1 h
          refine gd_no h rfl rfl rfl rfl rfl rfl rfl rfl ?_; clear h a; intro a h
          refine gd_no h rfl rfl rfl rfl rfl rfl rfl rfl ?_; clear h a; intro a h
          refine gd_no h rfl rfl rfl rfl rfl rfl rfl rfl ?_; clear h a; intro a h
          refine st_pick_t h rfl rfl rfl rfl ?_; clear h a; intro a h
          replace h : Ag a 27 [(26, _)] := h.sub (.cons rfl .nil)
          refine wpList_nil (norm_then ?_)
          refine cond_true h rfl ?_
          refine wp_seq ?_
          refine wp_region_lit ?_
          refine st_assign h rfl rfl ?_; clear h a; intro a h
          replace h : Ag a 27 [(2, _)] := h.sub (.cons rfl .nil)
          refine wpList_nil (norm_then ?_)
          refine wp_ret (ret_then ?_)
          refine ret1 h Tryd.results42 rfl ?_
          exact ⟨_, rfl, by first | rw [needs_0 (.inl (fun e => by rw [if_pos e] at g0; omega))] | rw [needs_0 (.inr c0)] | rw [needs_8 hc c1] | rw [needs_2 hc (by omega)] | rw [needs_1 hc (by omega) (by omega) (by omega)], hf⟩
        · clear h; intro g1 h
          refine gd_yes h rfl rfl rfl rfl rfl rfl ?_
          refine st_fieldAddr h rfl fa36_0 rfl ?_; clear h a; intro a h
          refine gd_yes h rfl rfl rfl rfl rfl rfl ?_
          refine st_loadB h rfl hb1 rfl na34 rfl ?_; clear h a; intro a h
          refine gd_yes h rfl rfl rfl rfl rfl rfl ?_
          refine st_eq h rfl rfl rfl ?_; clear h a; intro a h
          refine st_pick_f h rfl rfl rfl rfl ?_; clear h a; intro a h
          replace h : Ag a 27 [(26, _)] := h.sub (.cons rfl .nil)
          refine wpList_nil (norm_then ?_)
          first | refine cond_dec h rfl (fun c2 => ?_) (fun c2 => ?_) | refine cond_ndec h rfl (fun c2 => ?_) (fun c2 => ?_) | refine cond_split h rfl (fun c2 => ?_) (fun c2 => ?_)
          · refine id ?_
            refine wp_seq ?_
            refine wp_region_lit ?_
            refine st_assign h rfl rfl ?_; clear h a; intro a h
            replace h : Ag a 27 [(2, _)] := h.sub (.cons rfl .nil)
            refine wpList_nil (norm_then ?_)
            refine wp_ret (ret_then ?_)
            refine ret1 h Tryd.results42 rfl ?_
            exact ⟨_, rfl, by first | rw [needs_0 (.inl (fun e => by rw [if_pos e] at g0; omega))] | rw [needs_0 (.inr c0)] | rw [needs_8 hc c1] | rw [needs_2 hc (by omega)] | rw [needs_1 hc (by omega) (by omega) (by omega)], hf⟩
          · refine id ?_
            refine wp_skip (norm_then ?_)
            refine wp_seq ?_
            refine wp_region_lit ?_
            refine st_assign h rfl rfl ?_; clear h a; intro a h
            replace h : Ag a 27 [(2, _)] := h.sub (.cons rfl .nil)
            refine wpList_nil (norm_then ?_)
            refine wp_ret ?_
            refine ret1 h Tryd.results42 rfl ?_
            exact ⟨_, rfl, by first | rw [needs_0 (.inl (fun e => by rw [if_pos e] at g0; omega))] | rw [needs_0 (.inr c0)] | rw [needs_8 hc c1] | rw [needs_2 hc (by omega)] | rw [needs_1 hc (by omega) (by omega) (by omega)], hf⟩
theorem refmakes_ok (s : Stitch) (w0 : World) (hk : 0 ≤ s.k) (hy : 0 ≤ s.y) : Rets Tryd.prog 60 #[stV s] w0 fun v w' => v = .int .i64 (makesS s) ∧ Fr [] w0 w' := by
  refine enter [(0, stV s)] Tryd.func60 rfl Tryd.ntmps60 rfl (.cons rfl .nil) ?_
  have hf := Fr.refl [] w0
  intro a h
  refine wp_seq ?_
  refine wp_region_lit ?_
  refine st_box h rfl rfl rfl ?_; clear h a; intro w1 hb1 hq hz a h
  obtain ⟨g_1, hg⟩ : ∃ g, g = w0.heap.size := ⟨_, rfl⟩; rw [← hg] at hb1 h hz
  have hl1 : w0.heap.size ≤ g_1 := by have := hf.size; omega
  replace hf := hf.next hq
  clear hq hz hg
  refine st_assign h rfl rfl ?_; clear h a; intro a h
  replace h : Ag a 14 [(1, _)] := h.sub (.cons rfl .nil)
  refine wpList_nil (norm_then ?_)
  refine wp_seq ?_
  refine wp_seq ?_
  refine wp_region_lit ?_
  refine st_loadBA h rfl hb1 ag36 rfl ?_; clear h a; intro a h
  refine st_call h (evs_cons rfl evs_nil) co15 (valid_ok s _ hk hy) rfl ?_; clear h a; rintro _ w2 ⟨rfl, hq⟩ a h
  replace hf := hf.next hq
  replace hb1 := hb1.ext hq
  clear hq
  refine st_eq h rfl rfl rfl ?_; clear h a; intro a h
  replace h : Ag a 14 [(1, _), (5, _)] := h.sub (.cons rfl (.cons rfl .nil))
  refine wpList_nil (norm_then ?_)
  first | refine cond_dec h rfl (fun c0 => ?_) (fun c0 => ?_) | refine cond_ndec h rfl (fun c0 => ?_) (fun c0 => ?_) | refine cond_split h rfl (fun c0 => ?_) (fun c0 => ?_)
  · have hc : checkS s ≠ 0 := fun e => by rw [if_pos e] at c0; omega
    refine wp_seq ?_
    refine wp_region_lit ?_
    refine st_assign h rfl rfl ?_; clear h a; intro a h
    replace h : Ag a 14 [(2, _)] := h.sub (.cons rfl .nil)
    refine wpList_nil (norm_then ?_)
    refine wp_ret (ret_then ?_)
    refine ret1 h Tryd.results60 rfl ?_
    exact ⟨_, rfl, by first | rw [makes_0 hc] | rw [makes_8 hc c1] | rw [makes_1 hc c1], hf⟩
  · have hc : checkS s = 0 := Decidable.not_not.1 fun e => c0 (if_neg e)
    refine wp_skip (norm_then ?_)
    refine wp_seq ?_
    refine wp_seq ?_
    refine wp_region_lit ?_
    refine st_fieldAddr h rfl fa36_0 rfl ?_; clear h a; intro a h
    refine st_loadB h rfl hb1 rfl na34 rfl ?_; clear h a; intro a h
    refine st_eq h rfl rfl rfl ?_; clear h a; intro a h
    replace h : Ag a 14 [(1, _), (8, _)] := h.sub (.cons rfl (.cons rfl .nil))
    refine wpList_nil (norm_then ?_)
    first | refine cond_dec h rfl (fun c1 => ?_) (fun c1 => ?_) | refine cond_ndec h rfl (fun c1 => ?_) (fun c1 => ?_) | refine cond_split h rfl (fun c1 => ?_) (fun c1 => ?_)
    · have h8 := (check_rng hc).2.2.2.2.2 c1
      refine wp_seq ?_
      refine wp_region_lit ?_
      refine st_fieldAddr h rfl fa36_2 rfl ?_; clear h a; intro a h
      refine st_loadB h rfl hb1 rfl na3 rfl ?_; clear h a; intro a h
      refine st_fieldAddr h rfl fa36_3 rfl ?_; clear h a; intro a h
      refine st_loadB h rfl hb1 rfl na3 rfl ?_; clear h a; intro a h
      refine st_add h rfl rfl (by first | exact IntWalk.i64_in _ (by omega) | rfl) rfl ?_; clear h a; intro a h
      refine st_assign h rfl rfl ?_; clear h a; intro a h
      replace h : Ag a 14 [(2, _)] := h.sub (.cons rfl .nil)
      refine wpList_nil (norm_then ?_)
      refine wp_ret (ret_then ?_)
      refine ret1 h Tryd.results60 rfl ?_
      exact ⟨_, rfl, by first | rw [makes_0 hc] | rw [makes_8 hc c1] | rw [makes_1 hc c1], hf⟩
    · refine id ?_
      refine wp_skip (norm_then ?_)
      refine wp_seq ?_
      refine wp_region_lit ?_
      refine st_assign h rfl rfl ?_; clear h a; intro a h
      replace h : Ag a 14 [(2, _)] := h.sub (.cons rfl .nil)
      refine wpList_nil (norm_then ?_)
      refine wp_ret ?_
      refine ret1 h Tryd.results60 rfl ?_
      exact ⟨_, rfl, by first | rw [makes_0 hc] | rw [makes_8 hc c1] | rw [makes_1 hc c1], hf⟩
theorem refloads_ok (s : Stitch) (u : Value) (l : List Int) (w0 : World) (hk : 0 ≤ s.k) (hy : 0 ≤ s.y) (hu : Sl Enc.i64 w0 u l) : Rets Tryd.prog 43 #[stV s, u] w0 fun v w' => ∃ r, v = .tuple #[r, .int .i64 (loadsS s l).2] ∧ Own Enc.i64 3 w0.heap.size w' r (loadsS s l).1 ∧ Fr [] w0 w' := by
  obtain ⟨A, c, rfl, hcp⟩ := hu.form
  obtain ⟨-, -, hM, hA⟩ := Sl.open_ hu
  unfold maxLen at hM
  have hmk := makes_rng s
  refine enter [(0, stV s), (1, .slice A l.length c)] Tryd.func43 rfl Tryd.ntmps43 rfl (.cons rfl (.cons rfl .nil)) ?_
  have hf := Fr.refl [] w0
  intro a h
  refine wp_seq ?_
  refine wp_region_lit ?_
  refine st_box h rfl rfl rfl ?_; clear h a; intro w1 hb2 hq hz a h
  obtain ⟨g_2, hg⟩ : ∃ g, g = w0.heap.size := ⟨_, rfl⟩; rw [← hg] at hb2 h hz
  have hl2 : w0.heap.size ≤ g_2 := by have := hf.size; omega
  replace hf := hf.next hq
  clear hq hz hg
  refine st_assign h rfl rfl ?_; clear h a; intro a h
  refine st_assign h rfl rfl ?_; clear h a; intro a h
  replace h : Ag a 88 [(1, _), (2, _)] := h.sub (.cons rfl (.cons rfl .nil))
  refine wpList_nil (norm_then ?_)
  refine wp_seq ?_
  refine wp_seq ?_
  refine wp_region_lit ?_
  refine st_loadBA h rfl hb2 ag36 rfl ?_; clear h a; intro a h
  refine st_call h (evs_cons rfl evs_nil) co15 (valid_ok s _ hk hy) rfl ?_; clear h a; rintro _ w2 ⟨rfl, hq⟩ a h
  replace hf := hf.next hq
  replace hb2 := hb2.ext hq
  clear hq
  refine st_eq h rfl rfl rfl ?_; clear h a; intro a h
  replace h : Ag a 88 [(1, _), (2, _), (11, _)] := h.sub (.cons rfl (.cons rfl (.cons rfl .nil)))
  refine wpList_nil (norm_then ?_)
  first | refine cond_dec h rfl (fun c0 => ?_) (fun c0 => ?_) | refine cond_ndec h rfl (fun c0 => ?_) (fun c0 => ?_) | refine cond_split h rfl (fun c0 => ?_) (fun c0 => ?_)
  · have hc : checkS s ≠ 0 := fun e => by rw [if_pos e] at c0; omega
    refine wp_seq ?_
    refine wp_region_lit ?_
    refine st_assign h rfl rfl ?_; clear h a; intro a h
    refine st_assign h rfl rfl ?_; clear h a; intro a h
    replace h : Ag a 88 [(4, _), (5, _)] := h.sub (.cons rfl (.cons rfl .nil))
    refine wpList_nil (norm_then ?_)
    refine wp_ret (ret_then ?_)
    refine ret2 h Tryd.results43 rfl rfl ?_
    rw [loads_1 hc]; exact ⟨_, rfl, _, rfl, Own.nil _, hf⟩
  · have hc : checkS s = 0 := Decidable.not_not.1 fun e => c0 (if_neg e)
    refine wp_skip (norm_then ?_)
    refine wp_seq ?_
    refine wp_seq ?_
    refine wp_region_lit ?_
    refine st_move h rfl rfl ?_; clear h a; intro a h
    refine st_lenS h rfl Tryd.underlying68 rfl ?_; clear h a; intro a h
    refine st_loadBA h rfl hb2 ag36 rfl ?_; clear h a; intro a h
    refine st_call h (evs_cons rfl evs_nil) co42 (refneeds_ok s _ hk hy) rfl ?_; clear h a; rintro _ w3 ⟨rfl, hq⟩ a h
    replace hf := hf.next hq
    replace hb2 := hb2.ext hq
    clear hq
    refine st_ne h rfl rfl rfl ?_; clear h a; intro a h
    replace h : Ag a 88 [(1, _), (2, _), (16, _)] := h.sub (.cons rfl (.cons rfl (.cons rfl .nil)))
    refine wpList_nil (norm_then ?_)
    first | refine cond_dec h rfl (fun c1 => ?_) (fun c1 => ?_) | refine cond_ndec h rfl (fun c1 => ?_) (fun c1 => ?_) | refine cond_split h rfl (fun c1 => ?_) (fun c1 => ?_)
    · refine id ?_
      refine wp_seq ?_
      refine wp_region_lit ?_
      refine st_assign h rfl rfl ?_; clear h a; intro a h
      refine st_assign h rfl rfl ?_; clear h a; intro a h
      replace h : Ag a 88 [(4, _), (5, _)] := h.sub (.cons rfl (.cons rfl .nil))
      refine wpList_nil (norm_then ?_)
      refine wp_ret (ret_then ?_)
      refine ret2 h Tryd.results43 rfl rfl ?_
      rw [loads_5 hc c1]; exact ⟨_, rfl, _, rfl, Own.nil _, hf⟩
    · have hn : (l.length : Int) = needsS s := Decidable.not_not.1 c1
      refine wp_skip (norm_then ?_)
      refine wp_seq ?_
      refine wp_seq ?_
      refine wp_region_lit ?_
      refine st_assign h rfl rfl ?_; clear h a; intro a h
      replace h : Ag a 88 [(1, _), (2, _), (6, _)] := h.sub (.cons rfl (.cons rfl (.cons rfl .nil)))
      refine wpList_nil (norm_then ?_)
      refine wp_block ?_
      refine loop (ι := Nat) (fun k => [(1, .slice A l.length c), (2, .pointer (some ⟨g_2, 0, none⟩)), (6, .int .i64 (k : Int))]) (fun k w' => k ≤ l.length ∧ (l.take k).all few = true ∧ Blk w' g_2 36 [.int .u8 s.k, .int .u8 s.y, .int .i64 s.a, .int .i64 s.b, .bool s.f] ∧ Fr [] w0 w') (fun k => l.length - k) 0 (h.sub (.cons rfl (.cons rfl (.cons rfl .nil)))) ⟨by omega, rfl, hb2, hf⟩ ?_
      clear h a hb2 hf
      rintro k w4 a h ⟨hkl, ha, hb2, hf⟩
      refine wp_seq ?_
      refine wp_seq ?_
      refine wp_region_lit ?_
      refine st_move h rfl rfl ?_; clear h a; intro a h
      refine st_move h rfl rfl ?_; clear h a; intro a h
      refine st_lenS h rfl Tryd.underlying68 rfl ?_; clear h a; intro a h
      refine st_lt h rfl rfl rfl ?_; clear h a; intro a h
      replace h : Ag a 88 [(1, _), (2, _), (6, _), (20, _)] := h.sub (.cons rfl (.cons rfl (.cons rfl (.cons rfl .nil))))
      refine wpList_nil (norm_then ?_)
      first | refine cond_dec h rfl (fun c2 => ?_) (fun c2 => ?_) | refine cond_ndec h rfl (fun c2 => ?_) (fun c2 => ?_) | refine cond_split h rfl (fun c2 => ?_) (fun c2 => ?_)
      · obtain ⟨x, hxx⟩ : ∃ x, l[k]? = some x := ⟨_, List.getElem?_eq_getElem (by omega)⟩
        obtain ⟨ad, hAx, ca⟩ := hA _ x hxx
        refine wp_skip (norm_then ?_)
        refine wp_seq ?_
        refine wp_block ?_
        refine wp_seq ?_
        refine region_bool (r := 41) (L' := [(1, _), (2, _), (6, _)]) (¬ (1 ≤ x ∧ x ≤ 3)) h (.cons rfl (.cons rfl (.cons rfl .nil))) ?_ ?_
        · refine id ?_
          refine st_move h rfl rfl ?_; clear h a; intro a h
          refine st_move h rfl rfl ?_; clear h a; intro a h
          refine st_idxS h (by rw [hAx]; rfl) rfl el68 (by omega) (by omega) rfl rfl ?_; clear h a; intro a h
          refine st_loadC0 h rfl (ca.fr hf (by simp)) na3 rfl ?_; clear h a; intro a h
          refine st_ne h rfl rfl rfl ?_; clear h a; intro a h
          refine st_move h rfl rfl ?_; clear h a; intro a h
          first | refine guard_dec (D := 28) h rfl ?_ ?_ | refine guard_ndec (D := 28) h rfl ?_ ?_ | refine guard_any (D := 28) h rfl ?_ ?_
          · clear h; intro g0 h
            refine gd_yes h rfl rfl rfl rfl rfl rfl ?_
            refine st_move h rfl rfl ?_; clear h a; intro a h
            refine gd_yes h rfl rfl rfl rfl rfl rfl ?_
            refine st_move h rfl rfl ?_; clear h a; intro a h
            refine gd_yes h rfl rfl rfl rfl rfl rfl ?_
            refine st_idxS h (by rw [hAx]; rfl) rfl el68 (by omega) (by omega) rfl rfl ?_; clear h a; intro a h
            refine gd_yes h rfl rfl rfl rfl rfl rfl ?_
            refine st_loadC0 h rfl (ca.fr hf (by simp)) na3 rfl ?_; clear h a; intro a h
            refine gd_yes h rfl rfl rfl rfl rfl rfl ?_
            refine st_ne h rfl rfl rfl ?_; clear h a; intro a h
            refine st_pick_t h rfl rfl rfl rfl ?_; clear h a; intro a h
            refine st_move h rfl rfl ?_; clear h a; intro a h
            first | refine guard_dec (D := 35) h rfl ?_ ?_ | refine guard_ndec (D := 35) h rfl ?_ ?_ | refine guard_any (D := 35) h rfl ?_ ?_
            · clear h; intro g1 h
              refine gd_yes h rfl rfl rfl rfl rfl rfl ?_
              refine st_move h rfl rfl ?_; clear h a; intro a h
              refine gd_yes h rfl rfl rfl rfl rfl rfl ?_
              refine st_move h rfl rfl ?_; clear h a; intro a h
              refine gd_yes h rfl rfl rfl rfl rfl rfl ?_
              refine st_idxS h (by rw [hAx]; rfl) rfl el68 (by omega) (by omega) rfl rfl ?_; clear h a; intro a h
              refine gd_yes h rfl rfl rfl rfl rfl rfl ?_
              refine st_loadC0 h rfl (ca.fr hf (by simp)) na3 rfl ?_; clear h a; intro a h
              refine gd_yes h rfl rfl rfl rfl rfl rfl ?_
              refine st_ne h rfl rfl rfl ?_; clear h a; intro a h
              refine st_pick_t h rfl rfl rfl rfl ?_; clear h a; intro a h
              exact wpList_nil (bool_end h rfl (by first | exact bt (by omega) | exact bf (by omega) | exact bi (by omega) | exact bn (by omega)) (.cons rfl (.cons rfl (.cons rfl .nil))))
            · clear h; intro g1 h
              refine gd_no h rfl rfl rfl rfl rfl rfl rfl rfl ?_; clear h a; intro a h
              refine gd_no h rfl rfl rfl rfl rfl rfl rfl rfl ?_; clear h a; intro a h
              refine gd_no h rfl rfl rfl rfl rfl rfl rfl rfl ?_; clear h a; intro a h
              refine gd_no h rfl rfl rfl rfl rfl rfl rfl rfl ?_; clear h a; intro a h
              refine gd_no h rfl rfl rfl rfl rfl rfl rfl rfl ?_; clear h a; intro a h
              refine st_pick_f h rfl rfl rfl rfl ?_; clear h a; intro a h
              exact wpList_nil (bool_end h rfl (by first | exact bt (by omega) | exact bf (by omega) | exact bi (by omega) | exact bn (by omega)) (.cons rfl (.cons rfl (.cons rfl .nil))))
          · clear h; intro g0 h
            refine gd_no h rfl rfl rfl rfl rfl rfl rfl rfl ?_; clear h a; intro a h
            refine gd_no h rfl rfl rfl rfl rfl rfl rfl rfl ?_; clear h a; intro a h
            refine gd_no h rfl rfl rfl rfl rfl rfl rfl rfl ?_; clear h a; intro a h
            refine gd_no h rfl rfl rfl rfl rfl rfl rfl rfl ?_; clear h a; intro a h
            refine gd_no h rfl rfl rfl rfl rfl rfl rfl rfl ?_; clear h a; intro a h
            refine st_pick_f h rfl rfl rfl rfl ?_; clear h a; intro a h
            refine st_move h rfl rfl ?_; clear h a; intro a h
            refine gd_no h rfl rfl rfl rfl rfl rfl rfl rfl ?_; clear h a; intro a h
            refine gd_no h rfl rfl rfl rfl rfl rfl rfl rfl ?_; clear h a; intro a h
            refine gd_no h rfl rfl rfl rfl rfl rfl rfl rfl ?_; clear h a; intro a h
            refine gd_no h rfl rfl rfl rfl rfl rfl rfl rfl ?_; clear h a; intro a h
            refine gd_no h rfl rfl rfl rfl rfl rfl rfl rfl ?_; clear h a; intro a h
            refine st_pick_f h rfl rfl rfl rfl ?_; clear h a; intro a h
            exact wpList_nil (bool_end h rfl (by first | exact bt (by omega) | exact bf (by omega) | exact bi (by omega) | exact bn (by omega)) (.cons rfl (.cons rfl (.cons rfl .nil))))
        · clear h a; intro a h
          refine (norm_then ?_)
          first | refine cond_dec h rfl (fun c3 => ?_) (fun c3 => ?_) | refine cond_ndec h rfl (fun c3 => ?_) (fun c3 => ?_) | refine cond_split h rfl (fun c3 => ?_) (fun c3 => ?_)
          · refine id ?_
            refine wp_seq ?_
            refine wp_region_lit ?_
            refine st_assign h rfl rfl ?_; clear h a; intro a h
            refine st_assign h rfl rfl ?_; clear h a; intro a h
            replace h : Ag a 88 [(4, _), (5, _)] := h.sub (.cons rfl (.cons rfl .nil))
            refine wpList_nil (norm_then ?_)
            refine wp_ret (ret_blk (ret_then (ret_then (ret_blk (ret_then ?_)))))
            refine ret2 h Tryd.results43 rfl rfl ?_
            rw [loads_b hc hn hxx c3]; exact ⟨_, rfl, _, rfl, Own.nil _, hf⟩
          · refine id ?_
            refine wp_skip (norm_blk (norm_then ?_))
            refine wp_region_lit ?_
            refine st_move h rfl rfl ?_; clear h a; intro a h
            refine st_add h rfl rfl (by first | exact IntWalk.i64_in _ (by omega) | rfl) rfl ?_; clear h a; intro a h
            refine st_assign h rfl rfl ?_; clear h a; intro a h
            replace h : Ag a 88 [(1, _), (2, _), (6, _)] := h.sub (.cons rfl (.cons rfl (.cons rfl .nil)))
            refine wpList_nil (norm_then ?_)
            exact ⟨k + 1, h.sub (.cons rfl (.cons rfl (.cons rfl .nil))), ⟨by omega, all_few_next ha hxx (by omega), hb2, hf⟩, by omega⟩
      · obtain rfl : k = l.length := by omega
        rw [List.take_length] at ha
        refine wp_exit (exit_then (exit_then (exit_here (norm_then ?_))))
        refine wp_seq ?_
        refine wp_seq ?_
        refine region_bool (r := 49) (L' := [(1, _), (2, _)]) (s.k = 4 ∨ s.k = 5) h (.cons rfl (.cons rfl .nil)) ?_ ?_
        · refine id ?_
          refine st_fieldAddr h rfl fa36_0 rfl ?_; clear h a; intro a h
          refine st_loadB h rfl hb2 rfl na34 rfl ?_; clear h a; intro a h
          refine st_eq h rfl rfl rfl ?_; clear h a; intro a h
          refine st_move h rfl rfl ?_; clear h a; intro a h
          first | refine guard_dec (D := 45) h rfl ?_ ?_ | refine guard_ndec (D := 45) h rfl ?_ ?_ | refine guard_any (D := 45) h rfl ?_ ?_
          · clear h; intro g2 h
            refine gd_no h rfl rfl rfl rfl rfl rfl rfl rfl ?_; clear h a; intro a h
            refine gd_no h rfl rfl rfl rfl rfl rfl rfl rfl ?_; clear h a; intro a h
            refine gd_no h rfl rfl rfl rfl rfl rfl rfl rfl ?_; clear h a; intro a h
            refine st_pick_t h rfl rfl rfl rfl ?_; clear h a; intro a h
            exact wpList_nil (bool_end h rfl (by first | exact bt (by omega) | exact bf (by omega) | exact bi (by omega) | exact bn (by omega)) (.cons rfl (.cons rfl .nil)))
          · clear h; intro g2 h
            refine gd_yes h rfl rfl rfl rfl rfl rfl ?_
            refine st_fieldAddr h rfl fa36_0 rfl ?_; clear h a; intro a h
            refine gd_yes h rfl rfl rfl rfl rfl rfl ?_
            refine st_loadB h rfl hb2 rfl na34 rfl ?_; clear h a; intro a h
            refine gd_yes h rfl rfl rfl rfl rfl rfl ?_
            refine st_eq h rfl rfl rfl ?_; clear h a; intro a h
            refine st_pick_f h rfl rfl rfl rfl ?_; clear h a; intro a h
            exact wpList_nil (bool_end h rfl (by first | exact bt (by omega) | exact bf (by omega) | exact bi (by omega) | exact bn (by omega)) (.cons rfl (.cons rfl .nil)))
        · clear h a; intro a h
          refine (norm_then ?_)
          first | refine cond_dec h rfl (fun c4 => ?_) (fun c4 => ?_) | refine cond_ndec h rfl (fun c4 => ?_) (fun c4 => ?_) | refine cond_split h rfl (fun c4 => ?_) (fun c4 => ?_)
          · have h4 : s.k = 4 ∨ s.k = 5 := by omega
            have hn2 := needs_2 hc h4
            obtain ⟨x, hxx⟩ : ∃ x, l[0]? = some x := ⟨_, List.getElem?_eq_getElem (by omega)⟩
            obtain ⟨ad, hAx, ca⟩ := hA _ x hxx
            obtain ⟨y, hxy⟩ : ∃ x, l[1]? = some x := ⟨_, List.getElem?_eq_getElem (by omega)⟩
            obtain ⟨bd, hAy, cb⟩ := hA _ y hxy
            have hfx := (few_iff x).1 (List.all_eq_true.1 ha x (List.mem_of_getElem? hxx))
            have hfy := (few_iff y).1 (List.all_eq_true.1 ha y (List.mem_of_getElem? hxy))
            refine wp_seq ?_
            refine wp_seq ?_
            refine region_quiet hmix (by kernel_rfl) ?_
            refine qt_move h rfl rfl ?_; clear h a; intro a h
            refine qt_idxS (p := 0) h (by rw [hAx]; rfl) rfl el68 (by omega) (by omega) (by omega) rfl ?_; clear h a; intro a h
            refine qt_loadC0 h rfl (fun _ hw => (ca.fr hf (by simp)).fr hw (by simp)) na3 rfl ?_; clear h a; intro a h
            refine qt_move h rfl rfl ?_; clear h a; intro a h
            refine qt_idxS (p := 1) h (by rw [hAy]; rfl) rfl el68 (by omega) (by omega) (by omega) rfl ?_; clear h a; intro a h
            refine qt_loadC0 h rfl (fun _ hw => (cb.fr hf (by simp)).fr hw (by simp)) na3 rfl ?_; clear h a; intro a h
            refine qt_add h rfl rfl (by first | exact IntWalk.i64_in _ (by omega) | rfl) rfl ?_; clear h a; intro a h
            refine qt_gt h rfl rfl rfl ?_; clear h a; intro a h
            refine wpQuiet_nil ?_
            intro w5 hq
            replace hf := hf.next hq
            replace hb2 := hb2.ext hq
            clear hq
            replace h : Ag a 88 [(57, _)] := h.sub (.cons rfl .nil)
            refine (norm_then ?_)
            first | refine cond_dec h rfl (fun c5 => ?_) (fun c5 => ?_) | refine cond_ndec h rfl (fun c5 => ?_) (fun c5 => ?_) | refine cond_split h rfl (fun c5 => ?_) (fun c5 => ?_)
            · refine id ?_
              refine wp_seq ?_
              refine wp_region_lit ?_
              refine st_assign h rfl rfl ?_; clear h a; intro a h
              refine st_assign h rfl rfl ?_; clear h a; intro a h
              replace h : Ag a 88 [(4, _), (5, _)] := h.sub (.cons rfl (.cons rfl .nil))
              refine wpList_nil (norm_then ?_)
              refine wp_ret (ret_then (ret_then ?_))
              refine ret2 h Tryd.results43 rfl rfl ?_
              rw [loads_2f hc hn ha h4 hxx hxy c5]; exact ⟨_, rfl, _, rfl, Own.nil _, hf⟩
            · refine id ?_
              refine wp_skip (norm_then ?_)
              refine wp_seq ?_
              refine wp_region_lit ?_
              refine st_bslice [(1 : Int)] h (evs_cons rfl evs_nil) rfl rfl rfl el68 (by decide) rfl ?_; clear h a; intro gN w6 hg hoN hq hz a h
              have hlN : w0.heap.size ≤ gN := by have := hf.size; omega
              replace hf := hf.next hq
              replace hb2 := hb2.ext hq
              clear hq hz hg
              refine st_assign h rfl rfl ?_; clear h a; intro a h
              refine st_assign h rfl rfl ?_; clear h a; intro a h
              replace h : Ag a 88 [(4, _), (5, _)] := h.sub (.cons rfl (.cons rfl .nil))
              refine wpList_nil (norm_then ?_)
              refine wp_ret (ret_then ?_)
              refine ret2 h Tryd.results43 rfl rfl ?_
              rw [loads_2 hc hn ha h4 hxx hxy c5]; exact ⟨_, rfl, _, rfl, hoN.low hlN, hf⟩
          · have h4 : ¬ (s.k = 4 ∨ s.k = 5) := by omega
            refine wp_skip (norm_then ?_)
            refine wp_seq ?_
            refine wp_seq ?_
            refine wp_region_lit ?_
            refine st_fieldAddr h rfl fa36_0 rfl ?_; clear h a; intro a h
            refine st_loadB h rfl hb2 rfl na34 rfl ?_; clear h a; intro a h
            refine st_eq h rfl rfl rfl ?_; clear h a; intro a h
            replace h : Ag a 88 [(1, _), (2, _), (61, _)] := h.sub (.cons rfl (.cons rfl (.cons rfl .nil)))
            refine wpList_nil (norm_then ?_)
            first | refine cond_dec h rfl (fun c6 => ?_) (fun c6 => ?_) | refine cond_ndec h rfl (fun c6 => ?_) (fun c6 => ?_) | refine cond_split h rfl (fun c6 => ?_) (fun c6 => ?_)
            · have hn1 := needs_1 hc (by omega) (by omega) h4
              obtain ⟨x, hxx⟩ : ∃ x, l[0]? = some x := ⟨_, List.getElem?_eq_getElem (by omega)⟩
              obtain ⟨ad, hAx, ca⟩ := hA _ x hxx
              have hfx := (few_iff x).1 (List.all_eq_true.1 ha x (List.mem_of_getElem? hxx))
              refine wp_seq ?_
              refine wp_seq ?_
              refine wp_region_lit ?_
              refine st_move h rfl rfl ?_; clear h a; intro a h
              refine st_idxS (p := 0) h (by rw [hAx]; rfl) rfl el68 (by omega) (by omega) (by omega) rfl ?_; clear h a; intro a h
              refine st_loadC0 h rfl (ca.fr hf (by simp)) na3 rfl ?_; clear h a; intro a h
              refine st_eq h rfl rfl rfl ?_; clear h a; intro a h
              replace h : Ag a 88 [(1, _), (65, _)] := h.sub (.cons rfl (.cons rfl .nil))
              refine wpList_nil (norm_then ?_)
              first | refine cond_dec h rfl (fun c7 => ?_) (fun c7 => ?_) | refine cond_ndec h rfl (fun c7 => ?_) (fun c7 => ?_) | refine cond_split h rfl (fun c7 => ?_) (fun c7 => ?_)
              · refine id ?_
                refine wp_seq ?_
                refine wp_region_lit ?_
                refine st_assign h rfl rfl ?_; clear h a; intro a h
                refine st_assign h rfl rfl ?_; clear h a; intro a h
                replace h : Ag a 88 [(4, _), (5, _)] := h.sub (.cons rfl (.cons rfl .nil))
                refine wpList_nil (norm_then ?_)
                refine wp_ret (ret_then (ret_then ?_))
                refine ret2 h Tryd.results43 rfl rfl ?_
                rw [loads_6f hc hn ha c6 hxx c7]; exact ⟨_, rfl, _, rfl, Own.nil _, hf⟩
              · refine id ?_
                refine wp_skip (norm_then ?_)
                refine wp_seq ?_
                refine wp_region_lit ?_
                refine st_move h rfl rfl ?_; clear h a; intro a h
                refine st_idxS (p := 0) h (by rw [hAx]; rfl) rfl el68 (by omega) (by omega) (by omega) rfl ?_; clear h a; intro a h
                refine st_loadC0 h rfl (ca.fr hf (by simp)) na3 rfl ?_; clear h a; intro a h
                refine st_add h rfl rfl (by first | exact IntWalk.i64_in _ (by omega) | rfl) rfl ?_; clear h a; intro a h
                refine st_bslice [x + 1] h (evs_cons rfl evs_nil) rfl rfl rfl el68 (by decide) rfl ?_; clear h a; intro gN w7 hg hoN hq hz a h
                have hlN : w0.heap.size ≤ gN := by have := hf.size; omega
                replace hf := hf.next hq
                replace hb2 := hb2.ext hq
                clear hq hz hg
                refine st_assign h rfl rfl ?_; clear h a; intro a h
                refine st_assign h rfl rfl ?_; clear h a; intro a h
                replace h : Ag a 88 [(4, _), (5, _)] := h.sub (.cons rfl (.cons rfl .nil))
                refine wpList_nil (norm_then ?_)
                refine wp_ret (ret_then ?_)
                refine ret2 h Tryd.results43 rfl rfl ?_
                rw [loads_6 hc hn ha c6 hxx c7]; exact ⟨_, rfl, _, rfl, hoN.low hlN, hf⟩
            · refine id ?_
              refine wp_skip (norm_then ?_)
              refine wp_seq ?_
              refine wp_seq ?_
              refine wp_region_lit ?_
              refine st_fieldAddr h rfl fa36_0 rfl ?_; clear h a; intro a h
              refine st_loadB h rfl hb2 rfl na34 rfl ?_; clear h a; intro a h
              refine st_eq h rfl rfl rfl ?_; clear h a; intro a h
              replace h : Ag a 88 [(1, _), (2, _), (73, _)] := h.sub (.cons rfl (.cons rfl (.cons rfl .nil)))
              refine wpList_nil (norm_then ?_)
              first | refine cond_dec h rfl (fun c8 => ?_) (fun c8 => ?_) | refine cond_ndec h rfl (fun c8 => ?_) (fun c8 => ?_) | refine cond_split h rfl (fun c8 => ?_) (fun c8 => ?_)
              · have hn1 := needs_1 hc (by omega) (by omega) h4
                obtain ⟨x, hxx⟩ : ∃ x, l[0]? = some x := ⟨_, List.getElem?_eq_getElem (by omega)⟩
                obtain ⟨ad, hAx, ca⟩ := hA _ x hxx
                refine wp_seq ?_
                refine wp_region_lit ?_
                refine st_move h rfl rfl ?_; clear h a; intro a h
                refine st_idxS (p := 0) h (by rw [hAx]; rfl) rfl el68 (by omega) (by omega) (by omega) rfl ?_; clear h a; intro a h
                refine st_loadC0 h rfl (ca.fr hf (by simp)) na3 rfl ?_; clear h a; intro a h
                refine st_bslice [x] h (evs_cons rfl evs_nil) rfl rfl rfl el68 (by decide) rfl ?_; clear h a; intro gN w8 hg hoN hq hz a h
                have hlN : w0.heap.size ≤ gN := by have := hf.size; omega
                replace hf := hf.next hq
                replace hb2 := hb2.ext hq
                clear hq hz hg
                refine st_assign h rfl rfl ?_; clear h a; intro a h
                refine st_assign h rfl rfl ?_; clear h a; intro a h
                replace h : Ag a 88 [(4, _), (5, _)] := h.sub (.cons rfl (.cons rfl .nil))
                refine wpList_nil (norm_then ?_)
                refine wp_ret (ret_then ?_)
                refine ret2 h Tryd.results43 rfl rfl ?_
                rw [loads_7 hc hn ha c8 hxx]; exact ⟨_, rfl, _, rfl, hoN.low hlN, hf⟩
              · refine id ?_
                refine wp_skip (norm_then ?_)
                refine wp_seq ?_
                refine wp_region_lit ?_
                refine st_assign h rfl rfl ?_; clear h a; intro a h
                replace h : Ag a 88 [(2, _), (7, _)] := h.sub (.cons rfl (.cons rfl .nil))
                refine wpList_nil (norm_then ?_)
                refine wp_seq ?_
                refine wp_seq ?_
                refine wp_region_lit ?_
                refine st_assign h rfl rfl ?_; clear h a; intro a h
                refine wpList_nil (norm_then ?_)
                refine wp_block ?_
                refine loop (ι := Nat × Value) (fun z => [(2, .pointer (some ⟨g_2, 0, none⟩)), (7, z.2), (8, .int .i64 (z.1 : Int))]) (fun z w' => (z.1 : Int) ≤ makesS s ∧ Own Enc.i64 3 (g_2 + 1) w' z.2 (List.replicate z.1 1) ∧ Blk w' g_2 36 [.int .u8 s.k, .int .u8 s.y, .int .i64 s.a, .int .i64 s.b, .bool s.f] ∧ Fr [] w0 w') (fun z => (makesS s).toNat - z.1) (0, .slice none 0 0) (h.sub (.cons rfl (.cons rfl (.cons rfl .nil)))) ⟨by simp only; omega, Own.nil _, hb2, hf⟩ ?_
                clear h a hb2 hf
                rintro ⟨j, x⟩ w9 a h ⟨hj, ho, hb2, hf⟩
                simp only at hj ho h
                refine wp_seq ?_
                refine wp_seq ?_
                refine wp_region_lit ?_
                refine st_move h rfl rfl ?_; clear h a; intro a h
                refine st_loadBA h rfl hb2 ag36 rfl ?_; clear h a; intro a h
                refine st_call h (evs_cons rfl evs_nil) co60 (refmakes_ok s _ hk hy) rfl ?_; clear h a; rintro _ w10 ⟨rfl, hq⟩ a h
                replace hf := hf.next hq
                replace hb2 := hb2.ext hq
                replace ho := ho.ext hq
                clear hq
                refine st_lt h rfl rfl rfl ?_; clear h a; intro a h
                replace h : Ag a 88 [(2, _), (7, _), (8, _), (81, _)] := h.sub (.cons rfl (.cons rfl (.cons rfl (.cons rfl .nil))))
                refine wpList_nil (norm_then ?_)
                first | refine cond_dec h rfl (fun c9 => ?_) (fun c9 => ?_) | refine cond_ndec h rfl (fun c9 => ?_) (fun c9 => ?_) | refine cond_split h rfl (fun c9 => ?_) (fun c9 => ?_)
                · refine id ?_
                  refine wp_skip (norm_then ?_)
                  refine wp_seq ?_
                  refine wp_block ?_
                  refine wp_region_lit ?_
                  refine st_move h rfl rfl ?_; clear h a; intro a h
                  refine st_bslice [(1 : Int)] h (evs_cons rfl evs_nil) rfl rfl rfl el68 (by decide) rfl ?_; clear h a; intro gN w11 hg hoN hq hz a h
                  have hlN : w0.heap.size ≤ gN := by have := hf.size; omega
                  replace hf := hf.next hq
                  replace hb2 := hb2.ext hq
                  replace ho := ho.ext hq
                  clear hq hz hg
                  have hbO := ho.blk
                  refine st_append h rfl rfl ho hoN.sl el68 (by unfold maxLen; simp; omega) (by simp; omega) (by have := hb2.lt; omega) rfl ?_; clear h a; intro v3 w12 ho3 hq hx3 a h
                  replace hb2 := hb2.fr hq (fun hb => by have := (hbO _ hb).1; omega)
                  replace hf := hf.step hq (fun k hk hlt => absurd (hbO k hk).1 (by omega))
                  clear ho hq hx3 hoN hbO; have ho := ho3; clear ho3
                  refine st_assign h rfl rfl ?_; clear h a; intro a h
                  replace h : Ag a 88 [(2, _), (7, _), (8, _)] := h.sub (.cons rfl (.cons rfl (.cons rfl .nil)))
                  refine wpList_nil (norm_blk (norm_then ?_))
                  refine wp_region_lit ?_
                  refine st_move h rfl rfl ?_; clear h a; intro a h
                  refine st_add h rfl rfl (by first | exact IntWalk.i64_in _ (by omega) | rfl) rfl ?_; clear h a; intro a h
                  refine st_assign h rfl rfl ?_; clear h a; intro a h
                  replace h : Ag a 88 [(2, _), (7, _), (8, _)] := h.sub (.cons rfl (.cons rfl (.cons rfl .nil)))
                  refine wpList_nil (norm_then ?_)
                  exact ⟨(j + 1, _), h.sub (.cons rfl (.cons rfl (.cons rfl .nil))), ⟨by simp only; omega, by rw [rep_succ]; exact ho, hb2, hf⟩, by simp only; omega⟩
                · obtain rfl : j = (makesS s).toNat := by omega
                  refine wp_exit (exit_then (exit_then (exit_here (norm_then ?_))))
                  refine wp_seq ?_
                  refine wp_region_lit ?_
                  refine st_move h rfl rfl ?_; clear h a; intro a h
                  refine st_assign h rfl rfl ?_; clear h a; intro a h
                  refine st_assign h rfl rfl ?_; clear h a; intro a h
                  replace h : Ag a 88 [(4, _), (5, _)] := h.sub (.cons rfl (.cons rfl .nil))
                  refine wpList_nil (norm_then ?_)
                  refine wp_ret ?_
                  refine ret2 h Tryd.results43 rfl rfl ?_
                  rw [loads_o hc hn ha h4 c6 c8]; exact ⟨_, rfl, _, rfl, ho.low (by omega), hf⟩
end Go.Proofs.YtbbnampdgefljaaDoor
namespace Go.G14
open Go.Lw

theorem leP_len {a b : List UInt8} (h : leP a b) : a.length ≤ b.length := by
  rcases leP_iff.1 h with h | h <;> omega
theorem times_two (r : List Stitch) : timesS r 2 = r ++ r := by simp [timesS, List.replicate]
theorem twice_facts {r : List Stitch} (hr : goodRow r) : shortenS r = (shortS r, 0) ∧ shortenS (r ++ r) = (shortS (r ++ r), 0) ∧ expandS ([91] ++ shortS r ++ [93, 120, 50]) = (r ++ r, 0) ∧ expandS (shortS r ++ [32] ++ shortS r) = (r ++ r, 0) ∧
    (shortS (r ++ r)).length ≤ (shortS r).length + 4 ∧ (shortS (r ++ r)).length ≤ 2 * (shortS r).length + 1 ∧ (shortS r).length ≤ 96 := by
  obtain ⟨h1, h2, h3⟩ := hr
  have hl : 1 ≤ r.length := List.length_pos_iff.2 h1
  have hok : (r ++ r).all okB = true := by simp [h2]
  have hlen : (r ++ r).length = r.length + r.length := List.length_append
  have hR := short_ok h2 hl (by omega)
  have hRR := short_ok hok (by omega) (by omega)
  have hsl := short_len hl (by omega)
  have hT1 : Txt true (repT (shortS r) 2) (r ++ r) := by
    have := Txt.rep (n := 2) hR.1 (by omega) (by omega)
    rw [times_two] at this
    exact .one this
  have hT2 : Txt true (shortS r ++ [32] ++ shortS r) (r ++ r) := Txt.app hR.1 hR.1
  have e1 : [91] ++ shortS r ++ [93, 120, 50] = repT (shortS r) 2 := by simp [repT, show itoaS 2 = [50] from rfl]
  have l1 : (repT (shortS r) 2).length = (shortS r).length + 4 := by rw [← e1]; simp
  have l2 : (shortS r ++ [32] ++ shortS r).length = 2 * (shortS r).length + 1 := by simp; omega
  refine ⟨shorten_good h2 hl (by omega), shorten_good hok (by omega) (by omega), ?_, ?_, ?_, ?_, by omega⟩
  · rw [e1]; exact expand_complete hT1 (by omega) (by omega)
  · exact expand_complete hT2 (by omega) (by omega)
  · have := leP_len (hRR.2 _ hT1); omega
  · have := leP_len (hRR.2 _ hT2); omega
end Go.G14
namespace Go.Lw
open Go.RowKit

/-- A slice of slices reads as a list of lists. -/
def Sll {α : Type} (E : Enc α) (w : World) (v : Value) (rows : List (List α)) : Prop :=
  ∃ hs : List SV, Sl Enc.sl w v hs ∧ hs.length = rows.length ∧ ∀ (i : Nat) (p : SV) (r : List α), hs[i]? = some p → rows[i]? = some r → Sl E w (slv p) r
theorem Sll.ext {α : Type} {E : Enc α} {w w' : World} {v : Value} {rows : List (List α)} (h : Sll E w v rows) (hf : Fr [] w w') : Sll E w' v rows := by
  obtain ⟨hs, h1, h2, h3⟩ := h
  exact ⟨hs, h1.ext hf, h2, fun i p r hp hr => (h3 i p r hp hr).ext hf⟩
theorem Sll.form {α : Type} {E : Enc α} {w : World} {v : Value} {rows : List (List α)} (h : Sll E w v rows) : ∃ A c, v = .slice A rows.length c ∧ rows.length ≤ c ∧ c ≤ maxLen := by
  obtain ⟨hs, h1, h2, h3⟩ := h
  obtain ⟨A, c, e, h4, h5, _⟩ := h1
  exact ⟨A, c, by rw [e, h2], by omega, h5⟩
/-- A row of it: its header lies where it is, and reads as the list. -/
theorem Sll.row {α : Type} {E : Enc α} {w : World} {A : Option Addr} {n c : Nat} {rows : List (List α)} {i : Nat} {r : List α} (h : Sll E w (.slice A n c) rows) (hr : rows[i]? = some r) :
    ∃ RA rc ad, A = some ad ∧ Cells w (ad.add (i * 1)) [.slice RA r.length rc] ∧ Sl E w (.slice RA r.length rc) r ∧ r.length ≤ rc ∧ rc ≤ maxLen := by
  obtain ⟨hs, h1, h2, h3⟩ := h
  have hi : i < hs.length := by rw [h2]; exact (List.getElem?_eq_some_iff.1 hr).1
  have hp := List.getElem?_eq_getElem hi
  have hs1 := h3 i _ r hp hr
  obtain ⟨A', c', e, _, _, hA⟩ := h1
  cases e
  obtain ⟨ad, rfl, hc⟩ := hA i _ hp
  obtain ⟨RA, rc, e, h5, h6, _⟩ := hs1
  have hl : hs[i].2.1 = r.length ∧ hs[i].1 = RA ∧ hs[i].2.2 = rc := by
    simp only [slv, Value.slice.injEq] at e; exact ⟨e.2.1, e.1, e.2.2⟩
  have hsl := h3 i _ r hp hr
  refine ⟨RA, rc, ad, rfl, ?_, ?_, h5, h6⟩
  · have hc' : Cells w (ad.add (i * 1)) [.slice hs[i].1 hs[i].2.1 hs[i].2.2] := hc
    rw [hl.1, hl.2.1, hl.2.2] at hc'; exact hc'
  · rw [e] at hsl; exact hsl
/-- Rows in memory: the outer slice is the call's own, and so are the rows, apart from it. -/
structure Rws {α : Type} (E : Enc α) (R T : TypeId) (base : Nat) (w : World) (OV : Value) (ps : List (SV × List α)) : Prop where
  out : Own Enc.sl R base w OV (ps.map Prod.fst)
  ins : ∀ p ∈ ps, Own E T base w (slv p.1) p.2
  off : ∀ p ∈ ps, ∀ k ∈ blks (slv p.1), k ∉ blks OV
section
variable {α : Type} {E : Enc α} {R T : TypeId} {base : Nat} {w w' : World} {OV OV' : Value} {ps : List (SV × List α)}
theorem Rws.fr {S : List Nat} (h : Rws E R T base w OV ps) (hq : Fr S w w') (hS : ∀ k ∈ S, k < base) : Rws E R T base w' OV ps :=
  ⟨h.out.fr hq (fun k hk hb => by have := (h.out.blk k hb).1; have := hS k hk; omega), fun p hp => (h.ins p hp).fr hq (fun k hk hb => by have := ((h.ins p hp).blk k hb).1; have := hS k hk; omega), h.off⟩
theorem Rws.ext (h : Rws E R T base w OV ps) (hq : Fr [] w w') : Rws E R T base w' OV ps := h.fr hq (by simp)
theorem Rws.nil (w : World) : Rws E R T base w (.slice none 0 0) [] := ⟨Own.nil w, by simp, by simp⟩
theorem Rws.low {b' : Nat} (h : Rws E R T base w OV ps) (hb : b' ≤ base) : Rws E R T b' w OV ps := ⟨h.out.low hb, fun p hp => (h.ins p hp).low hb, h.off⟩
theorem Rws.push {u : SV} {r : List α} (h : Rws E R T base w OV ps) (hu : Own E T base w (slv u) r) (hd : ∀ k ∈ blks (slv u), k ∉ blks OV) (ho : Own Enc.sl R base w' OV' (ps.map Prod.fst ++ [u])) (hq : Fr (blks OV) w w')
    (hx : OV' = OV ∨ blks OV' = blks OV ∨ blks OV' = [w.heap.size]) : Rws E R T base w' OV' (ps ++ [(u, r)]) := by
  have hall : ∀ p ∈ ps ++ [(u, r)], Own E T base w (slv p.1) p.2 ∧ ∀ k ∈ blks (slv p.1), k ∉ blks OV := by
    intro p hp
    rcases List.mem_append.1 hp with hp | hp
    · exact ⟨h.ins p hp, h.off p hp⟩
    · simp at hp; subst hp; exact ⟨hu, hd⟩
  refine ⟨by simpa using ho, fun p hp => (hall p hp).1.fr hq (fun k hk hb => (hall p hp).2 k hb hk), fun p hp k hk => ?_⟩
  rcases hx with e | e | e
  · rw [e]; exact (hall p hp).2 k hk
  · rw [e]; exact (hall p hp).2 k hk
  · rw [e]; have := ((hall p hp).1.blk k hk).2; simp; omega
theorem Rws.sll (h : Rws E R T base w OV ps) : Sll E w OV (ps.map Prod.snd) := by
  refine ⟨ps.map Prod.fst, h.out.sl, by simp, fun i p x hp hx => ?_⟩
  rw [List.getElem?_map] at hp hx
  obtain ⟨q, hq, rfl⟩ := Option.map_eq_some_iff.1 hp
  rw [hq] at hx
  simp at hx; subst hx
  exact (h.ins q (List.mem_of_getElem? hq)).sl
/-- All blocks of such rows are below n. -/
def RAll (n : Nat) (OV : Value) (ps : List (SV × List α)) : Prop := (∀ k ∈ blks OV, k < n) ∧ ∀ p ∈ ps, ∀ k ∈ blks (slv p.1), k < n
theorem Rws.bnd (h : Rws E R T base w OV ps) : RAll w.heap.size OV ps := ⟨fun k hk => (h.out.blk k hk).2, fun p hp k hk => ((h.ins p hp).blk k hk).2⟩
theorem Rws.up {S : List Nat} {n : Nat} (h : Rws E R T base w OV ps) (hq : Fr S w w') (hA : RAll n OV ps) (hS : ∀ k ∈ S, n ≤ k) : Rws E R T base w' OV ps :=
  ⟨h.out.fr hq (fun k hk hb => by have := hA.1 k hb; have := hS k hk; omega), fun p hp => (h.ins p hp).fr hq (fun k hk hb => by have := hA.2 p hp k hb; have := hS k hk; omega), h.off⟩
end
theorem blks_add (A : Option Addr) (m n c n' c' : Nat) : blks (.slice (A.map (·.add m)) n c) = blks (.slice A n' c') := by cases A <;> simp [blks, block_add]
theorem blks_any (A : Option Addr) (n c n' c' : Nat) : blks (.slice A n c) = blks (.slice A n' c') := by cases A <;> rfl
end Go.Lw
namespace Go.Lw
section
variable {α : Type} {E : Enc α} {R T : TypeId} {base : Nat} {w w' : World} {OV : Value} {ps : List (SV × List α)}
theorem Rws.rev {v : Value} (h : Rws E R T base w v ps) (ho : Own Enc.sl R base w' v (ps.map Prod.fst).reverse) (hq : Fr (blks v) w w') : Rws E R T base w' v ps.reverse :=
  ⟨by rw [List.map_reverse]; exact ho, fun p hp => (h.ins p (List.mem_reverse.1 hp)).fr hq (fun k hk hb => h.off p (List.mem_reverse.1 hp) k hb hk), fun p hp => h.off p (List.mem_reverse.1 hp)⟩
theorem Rws.clip {A : Option Addr} {n c : Nat} (h : Rws E R T base w (.slice A n c) ps) : Rws E R T base w (.slice A n n) ps := by
  have hn : n = ps.length ∧ n ≤ c := by
    obtain ⟨A', c', e, h1⟩ := h.out.sl.form
    cases e; simp at h1 ⊢; exact h1
  refine ⟨?_, h.ins, fun p hp k hk => by rw [blks_any A n n n c]; exact h.off p hp k hk⟩
  have := h.out.take rfl (m := n) (c' := n) (by simp; omega) hn.2 (Nat.le_refl _)
  rwa [List.take_of_length_le (by simp; omega)] at this
end
end Go.Lw
namespace Go.G14
open Go.Lw

def needsR (xs : List Stitch) : Int := (xs.map needsS).sum
def makesR (xs : List Stitch) : Int := (xs.map makesS).sum
theorem sum_rng {f : Stitch → Int} (hf : ∀ s, 0 ≤ f s ∧ f s ≤ 4) : ∀ xs : List Stitch, 0 ≤ (xs.map f).sum ∧ (xs.map f).sum ≤ 4 * xs.length
  | [] => by simp
  | x :: xs => by
    have := sum_rng hf xs
    have := hf x
    simp only [List.map_cons, List.sum_cons, List.length_cons]
    omega
theorem sum_next {f : Stitch → Int} {xs : List Stitch} {k : Nat} {x : Stitch} (hx : xs[k]? = some x) : ((xs.take (k + 1)).map f).sum = ((xs.take k).map f).sum + f x := by
  rw [List.take_add_one, hx]; simp
theorem sum_drop {f : Stitch → Int} {xs : List Stitch} {k : Nat} {x : Stitch} (hx : xs[k]? = some x) : ((xs.drop k).map f).sum = f x + ((xs.drop (k + 1)).map f).sum := by
  rw [List.drop_eq_getElem_cons (List.getElem?_eq_some_iff.1 hx).1]
  have : xs[k]'(List.getElem?_eq_some_iff.1 hx).1 = x := (List.getElem?_eq_some_iff.1 hx).2
  simp [this]
def rowE (xs : List Stitch) : Int :=
  if 16 < xs.length then 3 else if xs.length = 0 then 1 else if xs.all okB = false then 1
  else if needsR xs < 1 ∨ 16 < needsR xs ∨ makesR xs < 1 ∨ 16 < makesR xs then 5 else 0
def adjB (rows : List (List Stitch)) : Bool := (List.range (rows.length - 1)).all fun i => decide (needsR (rows.getD (i + 1) []) = makesR (rows.getD i []))
def firstE : List (List Stitch) → Int
  | [] => 0
  | r :: rs => if rowE r ≠ 0 then rowE r else firstE rs
def rowsE (rows : List (List Stitch)) : Int :=
  if 31 < rows.length then 3 else if rows.length % 2 = 0 then 1 else if firstE rows ≠ 0 then firstE rows else if adjB rows = true then 0 else 14
/-- The loops behind a row, and its error. -/
def runRow : List Stitch → List Int → List Int → List Int × Int
  | [], _, acc => (acc, 0)
  | s :: xs, ls, acc => if (loadsS s (ls.take (needsS s).toNat)).2 ≠ 0 then ([], (loadsS s (ls.take (needsS s).toNat)).2) else runRow xs (ls.drop (needsS s).toNat) (acc ++ (loadsS s (ls.take (needsS s).toNat)).1)
def runRows : List (List Stitch) → List Int → Int
  | [], _ => 0
  | r :: rs, ls => if (runRow r ls []).2 ≠ 0 then (runRow r ls []).2 else runRows rs (runRow r ls []).1
def startL (rows : List (List Stitch)) : List Int := List.replicate (needsR (rows.getD 0 [])).toNat 1
def chartE (rows : List (List Stitch)) : Int := if rowsE rows ≠ 0 then rowsE rows else runRows rows (startL rows)
variable {xs : List Stitch} {rows : List (List Stitch)}
theorem row3 (h : 16 < xs.length) : rowE xs = 3 := if_pos h
theorem row1 (h : ¬ 16 < xs.length) (h0 : xs.length = 0) : rowE xs = 1 := by rw [rowE, if_neg h, if_pos h0]
theorem row1b (h : ¬ 16 < xs.length) {k : Nat} {x : Stitch} (hx : xs[k]? = some x) (hb : checkS x ≠ 0) : rowE xs = 1 := by
  have : xs.all okB = false := by
    rw [Bool.eq_false_iff]; intro e
    exact hb ((okB_iff x).1 (List.all_eq_true.1 e x (List.mem_of_getElem? hx)))
  have h0 : ¬ xs.length = 0 := by have := (List.getElem?_eq_some_iff.1 hx).1; omega
  rw [rowE, if_neg h, if_neg h0, if_pos this]
theorem row5 (h : ¬ 16 < xs.length) (h0 : ¬ xs.length = 0) (ha : xs.all okB = true) (hc : needsR xs < 1 ∨ 16 < needsR xs ∨ makesR xs < 1 ∨ 16 < makesR xs) : rowE xs = 5 := by
  rw [rowE, if_neg h, if_neg h0, if_neg (by rw [ha]; simp), if_pos hc]
theorem row0 (h : ¬ 16 < xs.length) (h0 : ¬ xs.length = 0) (ha : xs.all okB = true) (hc : ¬ (needsR xs < 1 ∨ 16 < needsR xs ∨ makesR xs < 1 ∨ 16 < makesR xs)) : rowE xs = 0 := by
  rw [rowE, if_neg h, if_neg h0, if_neg (by rw [ha]; simp), if_neg hc]
theorem row_ok_of (h : rowE xs = 0) : xs.length ≤ 16 ∧ 1 ≤ xs.length ∧ xs.all okB = true ∧ 1 ≤ needsR xs ∧ needsR xs ≤ 16 ∧ 1 ≤ makesR xs ∧ makesR xs ≤ 16 := by
  unfold rowE at h
  split at h
  · omega
  split at h
  · omega
  split at h
  · omega
  split at h
  · omega
  · rename_i h1 h2 h3 h4
    refine ⟨by omega, by omega, by simpa using h3, by omega, by omega, by omega, by omega⟩
theorem first_bad : ∀ {rows : List (List Stitch)} {k : Nat} {r : List Stitch}, (∀ i q, i < k → rows[i]? = some q → rowE q = 0) → rows[k]? = some r → rowE r ≠ 0 → firstE rows = rowE r
  | [], k, r, _, h, _ => by simp at h
  | q :: rs, 0, r, _, h, hb => by simp at h; subst h; rw [firstE, if_pos hb]
  | q :: rs, k + 1, r, hz, h, hb => by
    have hq := hz 0 q (by omega) rfl
    rw [firstE, if_neg (by omega)]
    exact first_bad (k := k) (fun i p hi hp => hz (i + 1) p (by omega) (by simpa using hp)) (by simpa using h) hb
theorem first_good : ∀ {rows : List (List Stitch)}, (∀ (i : Nat) (q : List Stitch), rows[i]? = some q → rowE q = 0) → firstE rows = 0
  | [], _ => rfl
  | q :: rs, hz => by
    have hq := hz 0 q rfl
    rw [firstE, if_neg (by omega)]
    exact first_good fun i p hp => hz (i + 1) p (by simpa using hp)
theorem first_all : ∀ {rows : List (List Stitch)}, firstE rows = 0 → ∀ (i : Nat) (q : List Stitch), rows[i]? = some q → rowE q = 0
  | [], _, i, q, h => by simp at h
  | r :: rs, hz, i, q, h => by
    unfold firstE at hz
    split at hz
    · rename_i hb; exact absurd hz hb
    · rename_i hb
      match i with
      | 0 => simp at h; subst h; omega
      | i + 1 => exact first_all hz i q (by simpa using h)
theorem rows3 (h : 31 < rows.length) : rowsE rows = 3 := if_pos h
theorem rows1 (h : ¬ 31 < rows.length) (h2 : rows.length % 2 = 0) : rowsE rows = 1 := by rw [rowsE, if_neg h, if_pos h2]
theorem rowsB (h : ¬ 31 < rows.length) (h2 : ¬ rows.length % 2 = 0) {k : Nat} {r : List Stitch} (hz : ∀ i q, i < k → rows[i]? = some q → rowE q = 0) (hr : rows[k]? = some r) (hb : rowE r ≠ 0) : rowsE rows = rowE r := by
  have := first_bad hz hr hb
  rw [rowsE, if_neg h, if_neg h2, if_pos (by omega), this]
theorem adj_at {k : Nat} (h : adjB rows = true) (hk : k + 1 < rows.length) : needsR (rows.getD (k + 1) []) = makesR (rows.getD k []) := by
  have := List.all_eq_true.1 h k (List.mem_range.2 (by omega))
  simpa using this
theorem rows14 (h : ¬ 31 < rows.length) (h2 : ¬ rows.length % 2 = 0) (hz : ∀ (i : Nat) (q : List Stitch), rows[i]? = some q → rowE q = 0) {k : Nat} {r q : List Stitch} (hr : rows[k]? = some r) (hq : rows[k + 1]? = some q) (hne : needsR q ≠ makesR r) : rowsE rows = 14 := by
  have h0 := first_good hz
  have ha : ¬ adjB rows = true := fun e => by
    have := adj_at (k := k) e (List.getElem?_eq_some_iff.1 hq).1
    rw [List.getD, List.getD, hq, hr] at this
    exact hne this
  rw [rowsE, if_neg h, if_neg h2, if_neg (by omega), if_neg ha]
theorem rows0 (h : ¬ 31 < rows.length) (h2 : ¬ rows.length % 2 = 0) (hz : ∀ (i : Nat) (q : List Stitch), rows[i]? = some q → rowE q = 0) (ha : ∀ (k : Nat) (r q : List Stitch), rows[k]? = some r → rows[k + 1]? = some q → needsR q = makesR r) : rowsE rows = 0 := by
  have h0 := first_good hz
  have ha : adjB rows = true := by
    refine List.all_eq_true.2 fun k hk => ?_
    have hk := List.mem_range.1 hk
    have h1 : k < rows.length := by omega
    have h3 : k + 1 < rows.length := by omega
    rw [decide_eq_true_iff, List.getD, List.getD, List.getElem?_eq_getElem h1, List.getElem?_eq_getElem h3]
    exact ha k _ _ (List.getElem?_eq_getElem h1) (List.getElem?_eq_getElem h3)
  rw [rowsE, if_neg h, if_neg h2, if_neg (by omega), if_pos ha]
theorem rows_of (h : rowsE rows = 0) : rows.length ≤ 31 ∧ rows.length % 2 = 1 ∧ (∀ (i : Nat) (q : List Stitch), rows[i]? = some q → rowE q = 0) ∧ ∀ (k : Nat) (r q : List Stitch), rows[k]? = some r → rows[k + 1]? = some q → needsR q = makesR r := by
  unfold rowsE at h
  split at h
  · omega
  split at h
  · omega
  split at h
  · omega
  split at h
  · rename_i h1 h2 h3 h4
    refine ⟨by omega, by omega, first_all (by omega), fun k r q hr hq => ?_⟩
    have := adj_at (k := k) h4 (List.getElem?_eq_some_iff.1 hq).1
    rw [List.getD, List.getD, hq, hr] at this
    exact this
  · omega
theorem run_bad {s : Stitch} {xs : List Stitch} {ls acc : List Int} (h : (loadsS s (ls.take (needsS s).toNat)).2 ≠ 0) : runRow (s :: xs) ls acc = ([], (loadsS s (ls.take (needsS s).toNat)).2) := by rw [runRow, if_pos h]
theorem run_next {s : Stitch} {xs : List Stitch} {ls acc : List Int} (h : ¬ (loadsS s (ls.take (needsS s).toNat)).2 ≠ 0) : runRow (s :: xs) ls acc = runRow xs (ls.drop (needsS s).toNat) (acc ++ (loadsS s (ls.take (needsS s).toNat)).1) := by rw [runRow, if_neg h]
theorem drop_cons {α : Type} {l : List α} {k : Nat} {x : α} (h : l[k]? = some x) : l.drop k = x :: l.drop (k + 1) := by
  rw [List.drop_eq_getElem_cons (List.getElem?_eq_some_iff.1 h).1, (List.getElem?_eq_some_iff.1 h).2]
theorem run_len : ∀ (xs : List Stitch) (ls acc : List Int), (runRow xs ls acc).2 = 0 → ((runRow xs ls acc).1.length : Int) = acc.length + makesR xs
  | [], ls, acc, _ => by simp [runRow, makesR]
  | s :: xs, ls, acc, h => by
    by_cases hb : (loadsS s (ls.take (needsS s).toNat)).2 ≠ 0
    · rw [run_bad hb] at h; exact absurd h hb
    · rw [run_next hb] at h ⊢
      have hl := (loads_few (Decidable.not_not.1 hb)).2.1
      rw [run_len xs _ _ h, List.length_append]
      simp only [makesR, List.map_cons, List.sum_cons]
      push_cast; omega
end Go.G14
namespace Go.G14
theorem set_one (j m : Nat) (h : j < m) : (List.replicate j (1 : Int) ++ List.replicate (m - j) 0).set j 1 = List.replicate (j + 1) 1 ++ List.replicate (m - (j + 1)) 0 := by
  obtain ⟨r, rfl⟩ : ∃ r, m = j + 1 + r := ⟨m - (j + 1), by omega⟩
  rw [show j + 1 + r - j = r + 1 by omega, show j + 1 + r - (j + 1) = r by omega, List.replicate_succ]
  rw [List.set_append_right _ _ (by simp)]
  simp [List.replicate_succ']
end Go.G14
namespace Go.G14
theorem z_next {rows : List (List Stitch)} {k : Nat} {r : List Stitch} (hz : ∀ (i : Nat) (q : List Stitch), i < k → rows[i]? = some q → rowE q = 0) (hr : rows[k]? = some r) (h0 : rowE r = 0) : ∀ (i : Nat) (q : List Stitch), i < k + 1 → rows[i]? = some q → rowE q = 0 := by
  intro i q hi hq
  rcases Nat.lt_or_ge i k with h | h
  · exact hz i q h hq
  · obtain rfl : i = k := by omega
    rw [hr] at hq; cases hq; exact h0
theorem adj_next {rows : List (List Stitch)} {k : Nat} {r q : List Stitch} (ha : ∀ (j : Nat) (r q : List Stitch), j < k → rows[j]? = some r → rows[j + 1]? = some q → needsR q = makesR r) (hr : rows[k]? = some r) (hq : rows[k + 1]? = some q) (h0 : needsR q = makesR r) :
    ∀ (j : Nat) (r q : List Stitch), j < k + 1 → rows[j]? = some r → rows[j + 1]? = some q → needsR q = makesR r := by
  intro j r1 q1 hj h1 h2
  rcases Nat.lt_or_ge j k with h | h
  · exact ha j r1 q1 h h1 h2
  · obtain rfl : j = k := by omega
    rw [hr] at h1; rw [hq] at h2; cases h1; cases h2; exact h0
end Go.G14
namespace Go.G14
theorem rr_next {r : List Stitch} {ls acc : List Int} {k at_ : Nat} {s : Stitch} {R : List Int × Int} (h : runRow (r.drop k) (ls.drop at_) acc = R) (hs : r[k]? = some s) (h0 : ¬ (loadsS s ((ls.drop at_).take (needsS s).toNat)).2 ≠ 0) :
    runRow (r.drop (k + 1)) (ls.drop (at_ + (needsS s).toNat)) (acc ++ (loadsS s ((ls.drop at_).take (needsS s).toNat)).1) = R := by
  rw [drop_cons hs, run_next h0, List.drop_drop] at h; exact h
theorem rr_bad {r : List Stitch} {ls acc : List Int} {k at_ : Nat} {s : Stitch} {R : List Int × Int} (h : runRow (r.drop k) (ls.drop at_) acc = R) (hs : r[k]? = some s) (h0 : (loadsS s ((ls.drop at_).take (needsS s).toNat)).2 ≠ 0) :
    R.2 = (loadsS s ((ls.drop at_).take (needsS s).toNat)).2 := by
  rw [drop_cons hs, run_bad h0] at h; rw [← h]
theorem rr_end {r : List Stitch} {ls acc : List Int} {at_ : Nat} {R : List Int × Int} (h : runRow (r.drop r.length) (ls.drop at_) acc = R) : R = (acc, 0) := by
  rw [List.drop_length, runRow] at h; exact h.symm
theorem rs_next {rows : List (List Stitch)} {ls : List Int} {i : Nat} {r : List Stitch} {E : Int} (h : runRows (rows.drop i) ls = E) (hr : rows[i]? = some r) {acc : List Int} (h0 : runRow r ls [] = (acc, 0)) : runRows (rows.drop (i + 1)) acc = E := by
  rw [drop_cons hr, runRows, h0, if_neg (by simp)] at h; exact h
theorem rs_bad {rows : List (List Stitch)} {ls : List Int} {i : Nat} {r : List Stitch} {E : Int} (h : runRows (rows.drop i) ls = E) (hr : rows[i]? = some r) (h0 : (runRow r ls []).2 ≠ 0) : E = (runRow r ls []).2 := by
  rw [drop_cons hr, runRows, if_pos h0] at h; exact h.symm
theorem rs_end {rows : List (List Stitch)} {ls : List Int} {E : Int} (h : runRows (rows.drop rows.length) ls = E) : E = 0 := by
  rw [List.drop_length, runRows] at h; exact h.symm
theorem needs_drop {r : List Stitch} {k : Nat} {s : Stitch} (hs : r[k]? = some s) : needsR (r.drop k) = needsS s + needsR (r.drop (k + 1)) := sum_drop hs
theorem needs_pos (xs : List Stitch) : 0 ≤ needsR xs := (sum_rng needs_rng xs).1
theorem chart_run {rows : List (List Stitch)} (h : rowsE rows = 0) : chartE rows = runRows rows (startL rows) := by rw [chartE, if_neg (by omega)]
theorem chart_bad {rows : List (List Stitch)} {e : Int} (h : rowsE rows = e) (he : e ≠ 0) : chartE rows = e := by rw [chartE, if_pos (by omega), h]
theorem run_next_len {r : List Stitch} {ls acc : List Int} (h0 : runRow r ls [] = (acc, 0)) : (acc.length : Int) = makesR r := by
  have := run_len r ls [] (by rw [h0])
  rw [h0] at this; simpa using this
theorem loads_len (s : Stitch) (l : List Int) : (loadsS s l).1.length ≤ 4 := by
  by_cases h : (loadsS s l).2 = 0
  · have := (loads_few h).2.1
    have := makes_rng s
    omega
  · unfold loadsS at h ⊢
    (repeat' split) <;> simp_all
structure RefSt where
  i : Nat
  N : Value
  ls : List Int
  OV : Value
  hs : List Go.Lw.SV
structure InSt where
  k : Nat
  at_ : Nat
  acc : List Int
  X : Value
end Go.G14
namespace Go.G14
open Go.Lw
structure LdSt where
  i : Nat
  OV : Value
  ps : List (SV × List Int)
  u : SV
  ls : List Int
structure LeSt where
  k : Nat
  at_ : Nat
  acc : List Int
  X : Value
  B : Value
theorem rws_one {E : Enc Int} {R T : TypeId} {base : Nat} {w : World} {OV : Value} {u : SV} {ls : List Int} (ho : Own Enc.sl R base w OV [u]) (hi : Own E T base w (slv u) ls) (hd : ∀ k ∈ blks (slv u), k ∉ blks OV) : Rws E R T base w OV ([] ++ [(u, ls)]) :=
  ⟨by simpa using ho, fun p hp => by simp at hp; subst hp; exact hi, fun p hp => by simp at hp; subst hp; exact hd⟩
end Go.G14
