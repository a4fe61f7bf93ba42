/- The card of the law GarmentsCheck: for every input the law returns true, and the arguments read behind the call as before it. Conditions: the listed package-level variables hold what the program's text lays. -/
import Derived.Test.YthehggmdcmpjeaaDoorA6
set_option linter.unusedVariables false
set_option linter.unusedSimpArgs false
namespace Go.Proofs.YthehggmdcmpjeaaDoor.garmentsCheck
open Go.ChangeShapes Go.WideShapes Go.ChangeAt Go.RowKit Go.Lw

set_option maxRecDepth 100000 in
theorem contract (H : Type) (enc : TypeId × Value → H) (W : World) (base : Nat) (args : Array Value) (ds gs : List (DataW H)) (before : List MemPlace)
    (hval : ∀ (j : Nat) t v, Tryd.f3.params[j]? = some t → args[j]? = some v → Value.okWide Tryd.prog W .any base t v)
    (hW : DataW.Whole enc Tryd.prog Tryd.f3.params.toList Rows.garmentsCheckSpec.vars false W args.toList ds gs before) (hL : laidMetH Tryd.prog Rows.garmentsCheckRow.laid W) (hSh : W.ShapedOpen Tryd.prog) :
    Calls Tryd.prog 3 args W fun e W' => ∃ v, e = .returned v ∧ Rows.garmentsCheckSpec.post enc Tryd.prog Tryd.f3 false true false false W args v W' := by
  have hy := sym_of hL
  have hW' := hW
  obtain ⟨p, q, hA0, hV, rfl, hfz, hnd⟩ := hW
  have hA : DataW.TrodAll enc Tryd.prog W 0 (fun _ => true) true Tryd.f3.params.toList args.toList ds p := hA0
  rw [Tryd.params3] at hA hval
  obtain ⟨v0, v1, d0, d1, p0, p1, rfl, rfl, rfl, h0, h1⟩ := trodAll_two hA
  have hv0 : Value.okWide Tryd.prog W .any base 24 v0 := by
    apply hval 0
    · rfl
    · rfl
  have hv1 : Value.okWide Tryd.prog W .any base 3 v1 := by
    apply hval 1
    · rfl
    · rfl
  obtain ⟨g, rfl, hg⟩ := arg_struct Tryd.underlying24 opGm hv0 h0
  obtain ⟨size, rfl, rfl, rfl, -⟩ := open_int Tryd.underlying3 hv1 h1
  obtain ⟨rfl, rfl⟩ := trodVars_none hV
  exact calls_true (tb := 4) (by obtain ⟨qs, hs, hq⟩ := hg; exact law_check g.1 _ qs size W hs hq hy) hW' rfl rfl laidOut (by rw [Tryd.params3]; intro t ht; simp at ht; rcases ht with rfl | rfl <;> exact ⟨by kernel_rfl, of_decide_eq_true (by kernel_rfl)⟩) (by kernel_rfl) Tryd.underlying4
theorem laid_met (os : Os) : laidMet Tryd.prog Rows.garmentsCheckRow.laid ((witW os).forCall (fun _ _ => 0) ⟨#[], #[.agg #[.string ⟨#[]⟩, .slice none 0 0], .int .i64 0], []⟩).memory :=
  laidMet_of_run' 8 (by kernel_rfl) (by kernel_rfl)
theorem reads (os : Os) {H : Type} (enc : TypeId × Value → H) : ∃ places, DataW.whole enc Tryd.prog ((witW os).forCall (fun _ _ => 0) ⟨#[], #[.agg #[.string ⟨#[]⟩, .slice none 0 0], .int .i64 0], []⟩).memory Tryd.f3.params.toList Rows.garmentsCheckSpec.vars false (#[.agg #[.string ⟨#[]⟩, .slice none 0 0], .int .i64 0] : Array Value).toList 8 = some ([.agg [.lit (.string []), .nil], .lit (.int .i64 0)], [], places) :=
  ⟨[], by kernel_rfl⟩

set_option maxRecDepth 100000 in
theorem lifted (os : Os) (started : os.Started) (H : Type) (enc : TypeId × Value → H) (F : Stop.Interp) :
    ReturnsInHanded {} Tryd.checked os 3 .any ((OpenSpec.ofChange Rows.garmentsCheckSpec).preRow enc Tryd.prog Tryd.f3 Rows.garmentsCheckRow.domain false Rows.garmentsCheckRow.laid) (((OpenSpec.ofChange Rows.garmentsCheckSpec).at F).post enc Tryd.prog Tryd.f3 false true false false) := by
  obtain ⟨places, hx⟩ := reads os enc
  refine returnsInHanded_of_row (C := Tryd.checked) (s := OpenSpec.ofChange Rows.garmentsCheckSpec) own started (by kernel_rfl) Tryd.func3
    (witness_row_at (enc := enc) (C := Tryd.checked) false (witW os) #[.agg #[.string ⟨#[]⟩, .slice none 0 0], .int .i64 0] rfl (by kernel_rfl) (by kernel_rfl) (by kernel_rfl)
      (OpenSpec.preRow_of_cond 8 hx (by kernel_rfl) (fun k hk => by cases hk) (by kernel_rfl) (laid_met os))) ?_
  intro W base args ds gs before hval hW _ _ _ hL hSh _
  exact contract H enc W base args ds gs before hval hW hL hSh
theorem said : Rows.GarmentsCheckSaid :=
  OpenClaim.holds_of_cond 3 Tryd.f3 rfl rfl rfl rfl rfl rfl rfl ⟨rfl, rfl, rfl, rfl, rfl⟩ rfl rfl rfl rfl rfl (by kernel_rfl) Tryd.func3 (by kernel_rfl)
    (of_decide_eq_true (by kernel_rfl)) (by unfold Func.isWrapper; first | (rw [if_pos (by decide +kernel)]; kernel_rfl) | (rw [if_neg (by decide +kernel)]; exact ⟨rfl, rfl⟩))
    (fun os started H enc _ F => by rw [OpenClaim.pre_eq_preRow]; exact lifted os started H enc F)
theorem plain (f : FuncId) (fn : Func) (hf : Tryd.pinned.checked.prog.funcNamed "gansey/ganseylaw22.GarmentsCheck" = some f) (hfn : Tryd.pinned.checked.prog.funcs[f]? = some fn) :
    false = Tryd.pinned.checked.prog.looks [] ∧ ∀ (j : Nat) t, fn.params[j]? = some t → Tryd.pinned.checked.prog.wantsStandIn t = false := by
  obtain rfl : f = 3 := Option.some.inj ((show Tryd.prog.funcNamed "gansey/ganseylaw22.GarmentsCheck" = some 3 by kernel_rfl).symm.trans hf) |>.symm
  obtain rfl : fn = Tryd.f3 := (Option.some.inj (Tryd.func3.symm.trans hfn)).symm
  refine ⟨by kernel_rfl, fun j t ht => ?_⟩
  rw [Tryd.params3] at ht
  rcases j with _ | _ | j
  · obtain rfl : t = 24 := by simpa using ht.symm
    exact (show Tryd.prog.wantsStandIn 24 = false by kernel_rfl)
  · obtain rfl : t = 3 := by simpa using ht.symm
    exact (show Tryd.prog.wantsStandIn 3 = false by kernel_rfl)
  · simp at ht
end Go.Proofs.YthehggmdcmpjeaaDoor.garmentsCheck
namespace Go.Proofs.YthehggmdcmpjeaaDoor
theorem garmentsCheck_card : Rows.GarmentsCheckCardSaid :=
  Claim7.holds_tied_plain_at .later [] _ _ _ _ garmentsCheck.said (fun _ h => by cases h) (by kernel_rfl) (fun _ h => by cases h) garmentsCheck_row_tie rfl ⟨rfl, rfl⟩ (by kernel_rfl) rfl garmentsCheck.plain (by kernel_rfl)
#print axioms garmentsCheck_card
end Go.Proofs.YthehggmdcmpjeaaDoor
