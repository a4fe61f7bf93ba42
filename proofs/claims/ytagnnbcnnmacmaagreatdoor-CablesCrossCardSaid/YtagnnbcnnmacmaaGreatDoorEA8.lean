/- The card of the law CablesCross: for every input the law returns true, and the arguments read behind the call as before it. Conditions: the listed package-level variables hold what the program's text lays. -/
import Derived.Test.YtagnnbcnnmacmaaGreatDoorEA7
set_option linter.unusedVariables false
set_option linter.unusedSimpArgs false
namespace Go.Proofs.YtagnnbcnnmacmaaGreatDoor.cablesCross
open Go.ChangeShapes Go.WideShapes Go.ChangeAt Go.RowKit Go.Lw

set_option maxRecDepth 100000 in
theorem contract (H : Type) (enc : TypeId × Value → H) (W : World) (base : Nat) (args : Array Value) (ds gs : List (DataW H)) (before : List MemPlace)
    (hval : ∀ (j : Nat) t v, Tryz.f3.params[j]? = some t → args[j]? = some v → Value.okWide Tryz.prog W .any base t v)
    (hW : DataW.Whole enc Tryz.prog Tryz.f3.params.toList Rows.cablesCrossSpec.vars false W args.toList ds gs before) (hL : laidMetH Tryz.prog Rows.cablesCrossRow.laid W) (hSh : W.ShapedOpen Tryz.prog) :
    Calls Tryz.prog 3 args W fun e W' => ∃ v, e = .returned v ∧ Rows.cablesCrossSpec.post enc Tryz.prog Tryz.f3 false true false false W args v W' := by
  have hG := j4d hL hSh
  have hT := k0c hL
  have hW' := hW
  obtain ⟨p, q, hA0, hV, rfl, hfz, hnd⟩ := hW
  have hA : DataW.TrodAll enc Tryz.prog W 0 (fun _ => true) true Tryz.f3.params.toList args.toList ds p := hA0
  rw [Tryz.params3] at hA hval
  obtain ⟨v0, d0, rfl, rfl, h0⟩ := trodAll_one hA
  have hv0 : Value.okWide Tryz.prog W .any base 25 v0 := by
    apply hval 0
    · rfl
    · rfl
  obtain ⟨x, rfl, hx⟩ := v4h Tryz.underlying25 opX hv0 h0
  obtain ⟨rfl, rfl⟩ := trodVars_none hV
  exact v3r (tb := 4) (by obtain ⟨⟨xs, hsx, hbx⟩, hyI, hyA, hyB⟩ := hx; exact u1q _ xs _ _ _ _ W hG hT hsx hbx hyI hyA hyB) hW' rfl rfl j3g (by rw [Tryz.params3]; intro t ht; simp at ht; subst ht; exact ⟨by kernel_rfl, of_decide_eq_true (by kernel_rfl)⟩) (by kernel_rfl) Tryz.underlying4
theorem laid_met (os : Os) : laidMet Tryz.prog Rows.cablesCrossRow.laid ((k2y os).forCall (fun _ _ => 0) ⟨#[], #[.agg #[.slice none 0 0, .int .u8 0, .int .u8 0, .int .u8 0, .bool false]], []⟩).memory :=
  laidMet_of_run' 8 (by kernel_rfl) (by kernel_rfl)
theorem reads (os : Os) {H : Type} (enc : TypeId × Value → H) : ∃ places, DataW.whole enc Tryz.prog ((k2y os).forCall (fun _ _ => 0) ⟨#[], #[.agg #[.slice none 0 0, .int .u8 0, .int .u8 0, .int .u8 0, .bool false]], []⟩).memory Tryz.f3.params.toList Rows.cablesCrossSpec.vars false (#[.agg #[.slice none 0 0, .int .u8 0, .int .u8 0, .int .u8 0, .bool false]] : Array Value).toList 8 = some ([.agg [.nil, .lit (.int .u8 0), .lit (.int .u8 0), .lit (.int .u8 0), .lit (.bool false)]], [], places) :=
  ⟨[], by kernel_rfl⟩

set_option maxRecDepth 100000 in
theorem lifted (os : Os) (started : os.Started) (H : Type) (enc : TypeId × Value → H) (F : Stop.Interp) :
    ReturnsInHanded {} Tryz.checked os 3 .any ((OpenSpec.ofChange Rows.cablesCrossSpec).preRow enc Tryz.prog Tryz.f3 Rows.cablesCrossRow.domain false Rows.cablesCrossRow.laid) (((OpenSpec.ofChange Rows.cablesCrossSpec).at F).post enc Tryz.prog Tryz.f3 false true false false) := by
  obtain ⟨places, hx⟩ := reads os enc
  refine returnsInHanded_of_row (C := Tryz.checked) (s := OpenSpec.ofChange Rows.cablesCrossSpec) own started (by kernel_rfl) Tryz.func3
    (witness_row_at (enc := enc) (C := Tryz.checked) false (k2y os) #[.agg #[.slice none 0 0, .int .u8 0, .int .u8 0, .int .u8 0, .bool false]] rfl (by kernel_rfl) (by kernel_rfl) (by kernel_rfl)
      (OpenSpec.preRow_of_cond 8 hx (by kernel_rfl) (fun k hk => by cases hk) (by kernel_rfl) (laid_met os))) ?_
  intro W base args ds gs before hval hW _ _ _ hL hSh _
  exact contract H enc W base args ds gs before hval hW hL hSh
set_option maxRecDepth 100000 in
theorem jIn : (Rows.cablesCrossRow.inPlace == Tryz.pinned.checked.prog.inPlace 3) = true := by kernel_rfl
set_option maxRecDepth 100000 in
theorem jUn : (Rows.cablesCrossRow.unfollowed == Tryz.pinned.checked.prog.unfollowed 3) = true := by kernel_rfl
set_option maxRecDepth 100000 in
theorem jRe : (Rows.cablesCrossRow.recurses == Tryz.pinned.checked.prog.recurses 3) = true := by kernel_rfl
set_option maxRecDepth 100000 in
theorem jNa : (Rows.cablesCrossRow.named == Tryz.pinned.checked.prog.varsNamed 3) = true := by kernel_rfl
set_option maxRecDepth 100000 in
theorem joined : joinedFacts Tryz.pinned.checked.prog 3 Tryz.f3 (OpenSpec.ofChange Rows.cablesCrossSpec).bare Rows.cablesCrossRow = true := by
  unfold joinedFacts
  rw [jIn, jUn, jRe, jNa]
  kernel_rfl
theorem said : Rows.CablesCrossSaid :=
  OpenClaim.holds_of_cond 3 Tryz.f3 rfl rfl rfl rfl rfl rfl rfl ⟨rfl, rfl, rfl, rfl, rfl⟩ rfl rfl rfl rfl rfl (by kernel_rfl) Tryz.func3 (joined)
    (of_decide_eq_true (by kernel_rfl)) (by unfold Func.isWrapper; first | (rw [if_pos (by decide +kernel)]; kernel_rfl) | (rw [if_neg (by decide +kernel)]; exact ⟨rfl, rfl⟩))
    (fun os started H enc _ F => by rw [OpenClaim.pre_eq_preRow]; exact lifted os started H enc F)
theorem plain (f : FuncId) (fn : Func) (hf : Tryz.pinned.checked.prog.funcNamed "gansey/ganseylaw28.CablesCross" = some f) (hfn : Tryz.pinned.checked.prog.funcs[f]? = some fn) :
    false = Tryz.pinned.checked.prog.looks [] ∧ ∀ (j : Nat) t, fn.params[j]? = some t → Tryz.pinned.checked.prog.wantsStandIn t = false := by
  obtain rfl : f = 3 := Option.some.inj ((show Tryz.prog.funcNamed "gansey/ganseylaw28.CablesCross" = some 3 by kernel_rfl).symm.trans hf) |>.symm
  obtain rfl : fn = Tryz.f3 := (Option.some.inj (Tryz.func3.symm.trans hfn)).symm
  refine ⟨by kernel_rfl, fun j t ht => ?_⟩
  rw [Tryz.params3] at ht
  rcases j with _ | j
  · obtain rfl : t = 25 := by simpa using ht.symm
    exact (show Tryz.prog.wantsStandIn 25 = false by kernel_rfl)
  · simp at ht
end Go.Proofs.YtagnnbcnnmacmaaGreatDoor.cablesCross
namespace Go.Proofs.YtagnnbcnnmacmaaGreatDoor
theorem cablesCross_card : Rows.CablesCrossCardSaid :=
  Claim7.holds_tied_plain_at .later [] _ _ _ _ cablesCross.said (fun _ h => by cases h) (by kernel_rfl) (fun _ h => by cases h) cablesCross_row_tie rfl ⟨rfl, rfl⟩ (by kernel_rfl) rfl cablesCross.plain (by kernel_rfl)
#print axioms cablesCross_card
end Go.Proofs.YtagnnbcnnmacmaaGreatDoor
