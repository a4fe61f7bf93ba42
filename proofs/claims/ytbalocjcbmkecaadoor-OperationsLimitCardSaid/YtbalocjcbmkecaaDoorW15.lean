/- Walks. -/
import Derived.Test.YtbalocjcbmkecaaDoorRows
import Derived.Test.YtbalocjcbmkecaaDoorW14
import Derived.Test.YtbalocjcbmkecaaDoorXOp
import Derived.Test.YtbalocjcbmkecaaDoorXMap
import Derived.Test.YtbalocjcbmkecaaDoorXBld
set_option linter.unusedVariables false
set_option linter.unusedSimpArgs false
namespace Go.Proofs.YtbalocjcbmkecaaDoor
open Go.Lw
theorem co60 : CallOf Tryd.prog 60 := CallOf.mk' Tryd.func60 (by kernel_rfl) (by kernel_rfl)
theorem fa75_0 : FieldAt Tryd.prog 75 0 0 := fun _ _ => by kernel_rfl
theorem fa75_1 : FieldAt Tryd.prog 75 1 1 := fun _ _ => by kernel_rfl
theorem na39 : NotAgg Tryd.prog 39 := fun _ => by kernel_rfl
theorem na73 : NotAgg Tryd.prog 73 := fun _ => by kernel_rfl
theorem sz39 : SizeOf Tryd.prog 39 1 := fun _ => by kernel_rfl
theorem sz73 : SizeOf Tryd.prog 73 1 := fun _ => by kernel_rfl
theorem infoBd : ∃ j, Tryd.prog.info? 75 = some j ∧ j.size = 2 := Option.map_eq_some_iff.1 (show (Tryd.prog.info? 75).map (·.size) = some 2 by kernel_rfl)
theorem infoBy : (Tryd.prog.info? 5).map (fun i => (i.zero, i.size, i.bytes)) = some (some (.int .u8 0), 1, 1) := by kernel_rfl
theorem liesBd : liesAt Tryd.prog Tryd.prog.depth 75 (2 / Tryd.prog.cellsOf 75) 0 75 1 = true := by kernel_rfl
theorem noEscape (u : Value) (w : World) : (callFunc 75 #[u]).run Tryd.prog w = .ok (.value u) w := by
  rw [run_callFunc_extern Tryd.func75 (by kernel_rfl) (by kernel_rfl) (by kernel_rfl) (e := Extern.AbiNoEscape.same) (by kernel_rfl), Lib.run_noEscape]; rfl
theorem copycheck_ok (B b : Nat) (bs : List Value) (w0 : World) (hI : Lib.IsBuilder 75 5 B b bs w0) : Rets Tryd.prog 60 #[.pointer (some ⟨b, 0, none⟩)] w0 fun v w' => Lib.BuilderAt 75 5 B b (.pointer (some ⟨b, 0, none⟩)) bs w' ∧ RowKit.Below B w0 w' := by
  obtain ⟨po, hpo, hAt⟩ : ∃ po, (po = none ∨ po = some ⟨b, 0, none⟩) ∧ Lib.BuilderAt 75 5 B b (.pointer po) bs w0 := hI.elim (fun h => ⟨none, .inl rfl, h⟩) (fun h => ⟨_, .inr rfl, h⟩)
  have hsh := hAt.shape
  obtain ⟨j, hj, hj2⟩ := infoBd
  obtain ⟨hB, v, hbk, hown, hne⟩ := hAt
  have hbl : Blk w0 b 75 [.pointer po, v] := hbk
  refine enter [(0, .pointer (some ⟨b, 0, none⟩))] Tryd.func60 rfl Tryd.ntmps60 rfl (.cons rfl .nil) ?_
  intro a h
  refine wp_seq ?_
  refine wp_region_lit ?_
  refine st_move h rfl rfl ?_; clear h a; intro a h
  refine st_nilCheck h rfl rfl ?_; clear h a; intro a h
  refine st_fieldAddr h rfl fa75_0 rfl ?_; clear h a; intro a h
  refine st_loadB h rfl hbl rfl na73 rfl ?_; clear h a; intro a h
  refine st_eqnilP h rfl Tryd.underlying73 rfl ?_; clear h a; intro a h
  replace h : Ag a 20 [(0, _), (6, _)] := h.sub (.cons rfl (.cons rfl .nil))
  refine wpList_nil (norm_then ?_)
  first | refine cond_dec h rfl (fun c0 => ?_) (fun c0 => ?_) | refine cond_ndec h rfl (fun c0 => ?_) (fun c0 => ?_) | refine cond_split h rfl (fun c0 => ?_) (fun c0 => ?_)
  · obtain rfl : po = none := by cases po with | none => rfl | some x => cases c0
    refine wp_region_lit ?_
    refine st_move h rfl rfl ?_; clear h a; intro a h
    refine st_move h rfl rfl ?_; clear h a; intro a h
    refine st_toUnsafe h rfl Tryd.underlying73 Tryd.underlying122 hj (by omega) hsh Nat.zero_lt_two rfl ?_; clear h a; intro a h
    refine st_same h rfl noEscape rfl ?_; clear h a; intro a h
    refine st_fromUnsafe h rfl Tryd.underlying122 Tryd.underlying73 hj hsh liesBd rfl ?_; clear h a; intro a h
    refine st_nilCheck h rfl rfl ?_; clear h a; intro a h
    refine st_fieldAddr h rfl fa75_0 rfl ?_; clear h a; intro a h
    refine st_storeB h rfl rfl hbl rfl rfl rfl sz73 ?_; clear h a; intro w1 hbn hq hz a h
    replace h : Ag a 20 [] := h.sub .nil
    refine wpList_nil ?_
    refine ret0n h Tryd.results60  ?_
    exact ⟨_, rfl, bAt_mk hB hbn hown hq hne, below_of_fr hq (by simpa using hB) (Nat.le_trans hB (Nat.le_of_lt hbl.lt))⟩
  · obtain rfl : po = some ⟨b, 0, none⟩ := hpo.resolve_left (fun e => by rw [e] at c0; cases c0)
    refine wp_seq ?_
    refine wp_region_lit ?_
    refine st_move h rfl rfl ?_; clear h a; intro a h
    refine st_nilCheck h rfl rfl ?_; clear h a; intro a h
    refine st_fieldAddr h rfl fa75_0 rfl ?_; clear h a; intro a h
    refine st_loadB h rfl hbl rfl na73 rfl ?_; clear h a; intro a h
    refine st_move h rfl rfl ?_; clear h a; intro a h
    refine st_neSameP h rfl rfl Tryd.underlying73 hj rfl ?_; clear h a; intro a h
    replace h : Ag a 20 [(19, _)] := h.sub (.cons rfl .nil)
    refine wpList_nil (norm_then ?_)
    refine cond_false h rfl ?_
    refine wp_skip ?_
    refine ret0n h Tryd.results60  ?_
    exact ⟨_, rfl, ⟨hB, v, hbk, hown, hne⟩, RowKit.Below.refl _ _⟩
theorem bws_ok (b : Nat) (l s : List UInt8) (w0 : World) (hI : Bld 75 5 b l w0) (hM : l.length + s.length ≤ 16777216) : Rets Tryd.prog 36 #[.pointer (some ⟨b, 0, none⟩), S s] w0 fun v w' => Bld 75 5 b (l ++ s) w' ∧ ∃ S, (∀ k ∈ S, b ≤ k) ∧ Fr S w0 w' := by
  have hI' := hI
  replace hI : Lib.IsBuilder 75 5 b b (Lib.byteCells l) w0 := hI'
  refine enter [(0, .pointer (some ⟨b, 0, none⟩)), (1, S s)] Tryd.func36 rfl Tryd.ntmps36 rfl (.cons rfl (.cons rfl .nil)) ?_
  intro a h
  refine wp_seq ?_
  refine wp_region_lit ?_
  refine st_assign h rfl rfl ?_; clear h a; intro a h
  refine st_assign h rfl rfl ?_; clear h a; intro a h
  replace h : Ag a 19 [(0, _), (1, _)] := h.sub (.cons rfl (.cons rfl .nil))
  refine wpList_nil (norm_then ?_)
  refine wp_seq ?_
  refine wp_region_lit ?_
  refine st_move h rfl rfl ?_; clear h a; intro a h
  refine st_call h (evs_cons rfl evs_nil) co60 (copycheck_ok _ _ _ _ hI) rfl ?_; clear h a; rintro _ w1 ⟨hAt, hq1⟩ a h
  obtain ⟨hB, v, hbk, hown, hne⟩ := hAt
  have hbl : Blk w1 b 75 [.pointer (some ⟨b, 0, none⟩), v] := hbk
  have hbz := hbl.lt
  rw [Lib.byteCells_length] at hown
  replace h : Ag a 19 [(0, _), (1, _)] := h.sub (.cons rfl (.cons rfl .nil))
  refine wpList_nil (norm_then ?_)
  refine wp_seq ?_
  refine wp_region_lit ?_
  refine st_move h rfl rfl ?_; clear h a; intro a h
  refine st_move h rfl rfl ?_; clear h a; intro a h
  refine st_nilCheck h rfl rfl ?_; clear h a; intro a h
  refine st_fieldAddr h rfl fa75_1 rfl ?_; clear h a; intro a h
  refine st_loadB h rfl hbl rfl na39 rfl ?_; clear h a; intro a h
  refine st_move h rfl rfl ?_; clear h a; intro a h
  refine st_appendStr h rfl rfl Tryd.underlying39 Tryd.underlying9 infoBy hown (by unfold maxLen; omega) (by omega) (by omega) rfl ?_; clear h a; intro v2 w2 hown2 hgr a h
  have hfg := fr_grown hgr
  have hbl2 := hbl.fr hfg (by simpa using hne)
  have hgz := hfg.size
  refine st_nilCheck h rfl rfl ?_; clear h a; intro a h
  refine st_fieldAddr h rfl fa75_1 rfl ?_; clear h a; intro a h
  refine st_storeB h rfl rfl hbl2 rfl (own_one hown2).1 (own_one hown2).2 sz39 ?_; clear h a; intro w3 hbn hq hz a h
  replace h : Ag a 19 [(1, _)] := h.sub (.cons rfl .nil)
  refine wpList_nil (norm_then ?_)
  refine wp_seq ?_
  refine wp_region_lit ?_
  refine st_move h rfl rfl ?_; clear h a; intro a h
  refine st_len h rfl Tryd.underlying9 rfl ?_; clear h a; intro a h
  refine st_assign h rfl rfl ?_; clear h a; intro a h
  refine st_assign h rfl rfl ?_; clear h a; intro a h
  replace h : Ag a 19 [(4, _), (5, _)] := h.sub (.cons rfl (.cons rfl .nil))
  refine wpList_nil (norm_then ?_)
  refine wp_ret ?_
  refine ret2 h Tryd.results36 rfl rfl ?_
  exact ⟨_, rfl, .inr (bAt_mk hB hbn (row_str hown2) hq (Lib.ownBlock_ne hown2 hbl2 (by decide))), below_frS (hq1.trans ((below_of_fr hfg (own_ge hown) (by omega)).trans (below_of_fr hq (by simp) (by omega))))⟩
theorem bwb_ok (b : Nat) (l : List UInt8) (c : UInt8) (w0 : World) (hI : Bld 75 5 b l w0) (hM : l.length + 1 ≤ 16777216) : Rets Tryd.prog 37 #[.pointer (some ⟨b, 0, none⟩), .int .u8 (c.toNat : Int)] w0 fun v w' => Bld 75 5 b (l ++ [c]) w' ∧ ∃ S, (∀ k ∈ S, b ≤ k) ∧ Fr S w0 w' := by
  have hI' := hI
  replace hI : Lib.IsBuilder 75 5 b b (Lib.byteCells l) w0 := hI'
  refine enter [(0, .pointer (some ⟨b, 0, none⟩)), (1, .int .u8 (c.toNat : Int))] Tryd.func37 rfl Tryd.ntmps37 rfl (.cons rfl (.cons rfl .nil)) ?_
  intro a h
  refine wp_seq ?_
  refine wp_region_lit ?_
  refine st_assign h rfl rfl ?_; clear h a; intro a h
  replace h : Ag a 17 [(0, _), (1, _)] := h.sub (.cons rfl (.cons rfl .nil))
  refine wpList_nil (norm_then ?_)
  refine wp_seq ?_
  refine wp_region_lit ?_
  refine st_move h rfl rfl ?_; clear h a; intro a h
  refine st_call h (evs_cons rfl evs_nil) co60 (copycheck_ok _ _ _ _ hI) rfl ?_; clear h a; rintro _ w1 ⟨hAt, hq1⟩ a h
  obtain ⟨hB, v, hbk, hown, hne⟩ := hAt
  have hbl : Blk w1 b 75 [.pointer (some ⟨b, 0, none⟩), v] := hbk
  have hbz := hbl.lt
  rw [Lib.byteCells_length] at hown
  replace h : Ag a 17 [(0, _), (1, _)] := h.sub (.cons rfl (.cons rfl .nil))
  refine wpList_nil (norm_then ?_)
  refine wp_seq ?_
  refine wp_region_lit ?_
  refine st_move h rfl rfl ?_; clear h a; intro a h
  refine st_move h rfl rfl ?_; clear h a; intro a h
  refine st_nilCheck h rfl rfl ?_; clear h a; intro a h
  refine st_fieldAddr h rfl fa75_1 rfl ?_; clear h a; intro a h
  refine st_loadB h rfl hbl rfl na39 rfl ?_; clear h a; intro a h
  refine st_move h rfl rfl ?_; clear h a; intro a h
  refine st_bslice [c] h (evs_cons rfl evs_nil) rfl rfl rfl el39 (by decide) rfl ?_; clear h a; intro gV w2 hg hoV hqb hzb a h
  replace hown := own_fr hown hqb (by simp)
  replace hbl := hbl.ext hqb
  have hqz := hqb.size
  refine st_appendRow h rfl rfl Tryd.underlying39 infoBy hown rfl (cell_one hoV) (by simp [Lib.strCells, Value.oneCell']) (by unfold maxLen; omega) (by omega) (by omega) rfl ?_; clear h a; intro v2 w3 hown2 hgr a h
  have hfg := fr_grown hgr
  have hbl2 := hbl.fr hfg (by simpa using hne)
  have hgz := hfg.size
  refine st_nilCheck h rfl rfl ?_; clear h a; intro a h
  refine st_fieldAddr h rfl fa75_1 rfl ?_; clear h a; intro a h
  refine st_storeB h rfl rfl hbl2 rfl (own_one hown2).1 (own_one hown2).2 sz39 ?_; clear h a; intro w4 hbn hq hz a h
  replace h : Ag a 17 [] := h.sub .nil
  refine wpList_nil (norm_then ?_)
  refine wp_seq ?_
  refine wp_region_lit ?_
  refine st_assign h rfl rfl ?_; clear h a; intro a h
  refine wpList_nil (norm_then ?_)
  refine wp_ret ?_
  refine ret1 h Tryd.results37 rfl ?_
  exact ⟨_, rfl, .inr (bAt_mk hB hbn (row_str hown2) hq (Lib.ownBlock_ne hown2 hbl2 (by decide))), below_frS (hq1.trans ((below_of_fr hqb (by simp) (by omega)).trans ((below_of_fr hfg (own_ge hown) (by omega)).trans (below_of_fr hq (by simp) (by omega)))))⟩
theorem bst_ok (b : Nat) (l : List UInt8) (w0 : World) (hI : Bld 75 5 b l w0) : Rets Tryd.prog 38 #[.pointer (some ⟨b, 0, none⟩)] w0 fun v w' => v = S l ∧ ∃ S, (∀ k ∈ S, b ≤ k) ∧ Fr S w0 w' := by
  refine Calls.mono (Tryd.Builder_String_any b b l w0 hI (Nat.le_of_lt hI.lt)) ?_
  rintro e w' ⟨rfl, hb⟩
  exact ⟨_, rfl, rfl, below_frS hb⟩
end Go.Proofs.YtbalocjcbmkecaaDoor
