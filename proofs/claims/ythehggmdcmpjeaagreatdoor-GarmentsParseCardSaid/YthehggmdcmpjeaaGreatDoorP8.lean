/- The card of the law GarmentsParse: for every input the law returns true, and the arguments read behind the call as before it. Conditions: the listed package-level variables hold what the program's text lays. -/
import Derived.Test.YthehggmdcmpjeaaGreatDoorP7
set_option linter.unusedVariables false
set_option linter.unusedSimpArgs false
namespace Go.Proofs.YthehggmdcmpjeaaGreatDoor.garmentsParse
open Go.ChangeShapes Go.WideShapes Go.ChangeAt Go.RowKit Go.Lw

set_option maxRecDepth 100000 in
theorem contract (H : Type) (enc : TypeId × Value → H) (W : World) (base : Nat) (args : Array Value) (ds gs : List (DataW H)) (before : List MemPlace)
    (hval : ∀ (j : Nat) t v, Tryz.f5.params[j]? = some t → args[j]? = some v → Value.okWide Tryz.prog W .any base t v)
    (hW : DataW.Whole enc Tryz.prog Tryz.f5.params.toList Rows.garmentsParseSpec.vars false W args.toList ds gs before) (hL : laidMetH Tryz.prog Rows.garmentsParseRow.laid W) (hSh : W.ShapedOpen Tryz.prog) :
    Calls Tryz.prog 5 args W fun e W' => ∃ v, e = .returned v ∧ Rows.garmentsParseSpec.post enc Tryz.prog Tryz.f5 false true false false W args v W' := by
  have hG := glob_of hL hSh
  have hW' := hW
  obtain ⟨p, q, hA0, hV, rfl, hfz, hnd⟩ := hW
  have hA : DataW.TrodAll enc Tryz.prog W 0 (fun _ => true) true Tryz.f5.params.toList args.toList ds p := hA0
  rw [Tryz.params5] at hA hval
  obtain ⟨v0, v1, d0, d1, p0, p1, rfl, rfl, rfl, h0, h1⟩ := trodAll_two hA
  have hv0 : Value.okWide Tryz.prog W .any base 24 v0 := by
    apply hval 0
    · rfl
    · rfl
  have hv1 : Value.okWide Tryz.prog W .any base 66 v1 := by
    apply hval 1
    · rfl
    · rfl
  obtain ⟨x, rfl, hx⟩ := arg_struct Tryz.underlying24 opG hv0 h0
  obtain ⟨y, rfl, hwh, hta⟩ := arg_struct Tryz.underlying66 opSp hv1 h1
  obtain ⟨rfl, rfl⟩ := trodVars_none hV
  exact calls_true (tb := 4) (by obtain ⟨hnb, ys, hs, hqy⟩ := hx; exact law_parse x.1 _ ys y.1 y.2.1 y.2.2 W hnb hwh hta hs hqy hG) hW' rfl rfl laidOut (by rw [Tryz.params5]; intro t ht; simp at ht; rcases ht with rfl | rfl <;> exact ⟨by kernel_rfl, of_decide_eq_true (by kernel_rfl)⟩) (by kernel_rfl) Tryz.underlying4
theorem laid_met (os : Os) : laidMet Tryz.prog Rows.garmentsParseRow.laid ((witW os).forCall (fun _ _ => 0) ⟨#[], #[.agg #[.int .u8 0, .slice none 0 0], .agg #[.int .u8 0, .int .u8 0, .string ⟨#[]⟩]], []⟩).memory :=
  laidMet_of_run' 8 (by kernel_rfl) (by kernel_rfl)
theorem reads (os : Os) {H : Type} (enc : TypeId × Value → H) : ∃ places, DataW.whole enc Tryz.prog ((witW os).forCall (fun _ _ => 0) ⟨#[], #[.agg #[.int .u8 0, .slice none 0 0], .agg #[.int .u8 0, .int .u8 0, .string ⟨#[]⟩]], []⟩).memory Tryz.f5.params.toList Rows.garmentsParseSpec.vars false (#[.agg #[.int .u8 0, .slice none 0 0], .agg #[.int .u8 0, .int .u8 0, .string ⟨#[]⟩]] : Array Value).toList 8 = some ([.agg [.lit (.int .u8 0), .nil], .agg [.lit (.int .u8 0), .lit (.int .u8 0), .lit (.string [])]], [], places) :=
  ⟨[], by kernel_rfl⟩

set_option maxRecDepth 100000 in
theorem lifted (os : Os) (started : os.Started) (H : Type) (enc : TypeId × Value → H) (F : Stop.Interp) :
    ReturnsInHanded {} Tryz.checked os 5 .any ((OpenSpec.ofChange Rows.garmentsParseSpec).preRow enc Tryz.prog Tryz.f5 Rows.garmentsParseRow.domain false Rows.garmentsParseRow.laid) (((OpenSpec.ofChange Rows.garmentsParseSpec).at F).post enc Tryz.prog Tryz.f5 false true false false) := by
  obtain ⟨places, hx⟩ := reads os enc
  refine returnsInHanded_of_row (C := Tryz.checked) (s := OpenSpec.ofChange Rows.garmentsParseSpec) own started (by kernel_rfl) Tryz.func5
    (witness_row_at (enc := enc) (C := Tryz.checked) false (witW os) #[.agg #[.int .u8 0, .slice none 0 0], .agg #[.int .u8 0, .int .u8 0, .string ⟨#[]⟩]] rfl (by kernel_rfl) (by kernel_rfl) (by kernel_rfl)
      (OpenSpec.preRow_of_cond 8 hx (by kernel_rfl) (fun k hk => by cases hk) (by kernel_rfl) (laid_met os))) ?_
  intro W base args ds gs before hval hW _ _ _ hL hSh _
  exact contract H enc W base args ds gs before hval hW hL hSh
theorem said : Rows.GarmentsParseSaid :=
  OpenClaim.holds_of_cond 5 Tryz.f5 rfl rfl rfl rfl rfl rfl rfl ⟨rfl, rfl, rfl, rfl, rfl⟩ rfl rfl rfl rfl rfl (by kernel_rfl) Tryz.func5 (by kernel_rfl)
    (of_decide_eq_true (by kernel_rfl)) (by unfold Func.isWrapper; first | (rw [if_pos (by decide +kernel)]; kernel_rfl) | (rw [if_neg (by decide +kernel)]; exact ⟨rfl, rfl⟩))
    (fun os started H enc _ F => by rw [OpenClaim.pre_eq_preRow]; exact lifted os started H enc F)
theorem plain (f : FuncId) (fn : Func) (hf : Tryz.pinned.checked.prog.funcNamed "gansey/ganseylaw22.GarmentsParse" = some f) (hfn : Tryz.pinned.checked.prog.funcs[f]? = some fn) :
    true = Tryz.pinned.checked.prog.looks [] ∧ ∀ (j : Nat) t, fn.params[j]? = some t → Tryz.pinned.checked.prog.wantsStandIn t = false := by
  obtain rfl : f = 5 := Option.some.inj ((show Tryz.prog.funcNamed "gansey/ganseylaw22.GarmentsParse" = some 5 by kernel_rfl).symm.trans hf) |>.symm
  obtain rfl : fn = Tryz.f5 := (Option.some.inj (Tryz.func5.symm.trans hfn)).symm
  refine ⟨by kernel_rfl, fun j t ht => ?_⟩
  rw [Tryz.params5] at ht
  rcases j with _ | _ | j
  · obtain rfl : t = 24 := by simpa using ht.symm
    exact (show Tryz.prog.wantsStandIn 24 = false by kernel_rfl)
  · obtain rfl : t = 66 := by simpa using ht.symm
    exact (show Tryz.prog.wantsStandIn 66 = false by kernel_rfl)
  · simp at ht
end Go.Proofs.YthehggmdcmpjeaaGreatDoor.garmentsParse
namespace Go.Proofs.YthehggmdcmpjeaaGreatDoor
theorem garmentsParse_card : Rows.GarmentsParseCardSaid :=
  Claim7.holds_tied_plain_at .later [] _ _ _ _ garmentsParse.said (fun _ h => by cases h) (by kernel_rfl) (fun _ h => by cases h) garmentsParse_row_tie rfl ⟨rfl, rfl⟩ (by kernel_rfl) rfl garmentsParse.plain (by kernel_rfl)
#print axioms garmentsParse_card
end Go.Proofs.YthehggmdcmpjeaaGreatDoor
