/- The card of the law PassesValid: for every input the law returns true, and the arguments read behind the call as before it. Conditions: the listed package-level variables hold what the program's text lays. -/
import Derived.Test.YtbalocjcbmkecaaDoorCBase
import Derived.Test.YtbalocjcbmkecaaDoorOpens
import Derived.Test.YtbalocjcbmkecaaDoorW27
set_option linter.unusedVariables false
set_option linter.unusedSimpArgs false
namespace Go.Proofs.YtbalocjcbmkecaaDoor.passesValid
open Go.ChangeShapes Go.WideShapes Go.ChangeAt Go.RowKit Go.Lw

set_option maxRecDepth 100000 in
theorem contract (H : Type) (enc : TypeId × Value → H) (W : World) (base : Nat) (args : Array Value) (ds gs : List (DataW H)) (before : List MemPlace)
    (hval : ∀ (j : Nat) t v, Tryd.f10.params[j]? = some t → args[j]? = some v → Value.okWide Tryd.prog W .any base t v)
    (hW : DataW.Whole enc Tryd.prog Tryd.f10.params.toList Rows.passesValidSpec.vars false W args.toList ds gs before) (hL : laidMetH Tryd.prog Rows.passesValidRow.laid W) (hSh : W.ShapedOpen Tryd.prog) :
    Calls Tryd.prog 10 args W fun e W' => ∃ v, e = .returned v ∧ Rows.passesValidSpec.post enc Tryd.prog Tryd.f10 false true false false W args v W' := by
  have hG := glob_of hL hSh
  have hW' := hW
  obtain ⟨p, q, hA0, hV, rfl, hfz, hnd⟩ := hW
  have hA : DataW.TrodAll enc Tryd.prog W 0 (fun _ => true) true Tryd.f10.params.toList args.toList ds p := hA0
  rw [Tryd.params10] at hA hval
  obtain ⟨v0, v1, v2, d0, d1, d2, p0, p1, p2, rfl, rfl, rfl, h0, h1, h2⟩ := trodAll_three hA
  have hv0 : Value.okWide Tryd.prog W .any base 43 v0 := by
    apply hval 0
    · rfl
    · rfl
  have hv1 : Value.okWide Tryd.prog W .any base 31 v1 := by
    apply hval 1
    · rfl
    · rfl
  have hv2 : Value.okWide Tryd.prog W .any base 5 v2 := by
    apply hval 2
    · rfl
    · rfl
  obtain ⟨xs, hsxs, hbxs⟩ := arg_slice Tryd.underlying43 (by kernel_rfl) opOX hv0 h0
  obtain ⟨o, rfl, ho⟩ := arg_struct Tryd.underlying31 opOp hv1 h1
  obtain ⟨a, rfl, rfl, rfl, hwa⟩ := open_int Tryd.underlying5 hv2 h2
  have ha := wf_u8 hwa
  obtain ⟨rfl, rfl⟩ := trodVars_none hV
  exact calls_true (tb := 4) (law_valid _ xs o a W hG hsxs hbxs ha) hW' rfl rfl laidOut (by rw [Tryd.params10]; intro t ht; simp at ht; rcases ht with rfl | rfl | rfl <;> exact ⟨by kernel_rfl, of_decide_eq_true (by kernel_rfl)⟩) (by kernel_rfl) Tryd.underlying4
theorem laid_met (os : Os) : laidMet Tryd.prog Rows.passesValidRow.laid ((witW os).forCall (fun _ _ => 0) ⟨#[], #[.slice none 0 0, .agg #[.int .u8 0, .int .u8 0, .int .u8 0, .int .i64 0, .int .u8 0, .int .i64 0], .int .u8 0], []⟩).memory :=
  laidMet_of_run' 8 (by kernel_rfl) (by kernel_rfl)
theorem reads (os : Os) {H : Type} (enc : TypeId × Value → H) : ∃ places, DataW.whole enc Tryd.prog ((witW os).forCall (fun _ _ => 0) ⟨#[], #[.slice none 0 0, .agg #[.int .u8 0, .int .u8 0, .int .u8 0, .int .i64 0, .int .u8 0, .int .i64 0], .int .u8 0], []⟩).memory Tryd.f10.params.toList Rows.passesValidSpec.vars false (#[.slice none 0 0, .agg #[.int .u8 0, .int .u8 0, .int .u8 0, .int .i64 0, .int .u8 0, .int .i64 0], .int .u8 0] : Array Value).toList 8 = some ([.nil, .agg [.lit (.int .u8 0), .lit (.int .u8 0), .agg [.lit (.int .u8 0), .lit (.int .i64 0)], .lit (.int .u8 0), .lit (.int .i64 0)], .lit (.int .u8 0)], [], places) :=
  ⟨[], by kernel_rfl⟩

set_option maxRecDepth 100000 in
theorem lifted (os : Os) (started : os.Started) (H : Type) (enc : TypeId × Value → H) (F : Stop.Interp) :
    ReturnsInHanded {} Tryd.checked os 10 .any ((OpenSpec.ofChange Rows.passesValidSpec).preRow enc Tryd.prog Tryd.f10 Rows.passesValidRow.domain false Rows.passesValidRow.laid) (((OpenSpec.ofChange Rows.passesValidSpec).at F).post enc Tryd.prog Tryd.f10 false true false false) := by
  obtain ⟨places, hx⟩ := reads os enc
  refine returnsInHanded_of_row (C := Tryd.checked) (s := OpenSpec.ofChange Rows.passesValidSpec) own started (by kernel_rfl) Tryd.func10
    (witness_row_at (enc := enc) (C := Tryd.checked) false (witW os) #[.slice none 0 0, .agg #[.int .u8 0, .int .u8 0, .int .u8 0, .int .i64 0, .int .u8 0, .int .i64 0], .int .u8 0] rfl (by kernel_rfl) (by kernel_rfl) (by kernel_rfl)
      (OpenSpec.preRow_of_cond 8 hx (by kernel_rfl) (fun k hk => by cases hk) (by kernel_rfl) (laid_met os))) ?_
  intro W base args ds gs before hval hW _ _ _ hL hSh _
  exact contract H enc W base args ds gs before hval hW hL hSh
theorem said : Rows.PassesValidSaid :=
  OpenClaim.holds_of_cond 10 Tryd.f10 rfl rfl rfl rfl rfl rfl rfl ⟨rfl, rfl, rfl, rfl, rfl⟩ rfl rfl rfl rfl rfl (by kernel_rfl) Tryd.func10 (by kernel_rfl)
    (of_decide_eq_true (by kernel_rfl)) (by unfold Func.isWrapper; first | (rw [if_pos (by decide +kernel)]; kernel_rfl) | (rw [if_neg (by decide +kernel)]; exact ⟨rfl, rfl⟩))
    (fun os started H enc _ F => by rw [OpenClaim.pre_eq_preRow]; exact lifted os started H enc F)
theorem plain (f : FuncId) (fn : Func) (hf : Tryd.pinned.checked.prog.funcNamed "gansey/ganseylaw10.PassesValid" = some f) (hfn : Tryd.pinned.checked.prog.funcs[f]? = some fn) :
    true = Tryd.pinned.checked.prog.looks [] ∧ ∀ (j : Nat) t, fn.params[j]? = some t → Tryd.pinned.checked.prog.wantsStandIn t = false := by
  obtain rfl : f = 10 := Option.some.inj ((show Tryd.prog.funcNamed "gansey/ganseylaw10.PassesValid" = some 10 by kernel_rfl).symm.trans hf) |>.symm
  obtain rfl : fn = Tryd.f10 := (Option.some.inj (Tryd.func10.symm.trans hfn)).symm
  refine ⟨by kernel_rfl, fun j t ht => ?_⟩
  rw [Tryd.params10] at ht
  rcases j with _ | _ | _ | j
  · obtain rfl : t = 43 := by simpa using ht.symm
    exact (show Tryd.prog.wantsStandIn 43 = false by kernel_rfl)
  · obtain rfl : t = 31 := by simpa using ht.symm
    exact (show Tryd.prog.wantsStandIn 31 = false by kernel_rfl)
  · obtain rfl : t = 5 := by simpa using ht.symm
    exact (show Tryd.prog.wantsStandIn 5 = false by kernel_rfl)
  · simp at ht
end Go.Proofs.YtbalocjcbmkecaaDoor.passesValid
namespace Go.Proofs.YtbalocjcbmkecaaDoor
theorem passesValid_card : Rows.PassesValidCardSaid :=
  Claim7.holds_tied_plain_at .later [] _ _ _ _ passesValid.said (fun _ h => by cases h) (by kernel_rfl) (fun _ h => by cases h) passesValid_row_tie rfl ⟨rfl, rfl⟩ (by kernel_rfl) rfl passesValid.plain (by kernel_rfl)
#print axioms passesValid_card
end Go.Proofs.YtbalocjcbmkecaaDoor
