/- The card of the law OperationsProgram: for every input the law returns true, and the arguments read behind the call as before it. Conditions: the listed package-level variables hold what the program's text lays. -/
import Derived.Test.YtbalocjcbmkecaaDoorCBase
import Derived.Test.YtbalocjcbmkecaaDoorOpens
import Derived.Test.YtbalocjcbmkecaaDoorW17
set_option linter.unusedVariables false
set_option linter.unusedSimpArgs false
namespace Go.Proofs.YtbalocjcbmkecaaDoor.operationsProgram
open Go.ChangeShapes Go.WideShapes Go.ChangeAt Go.RowKit Go.Lw

set_option maxRecDepth 100000 in
theorem contract (H : Type) (enc : TypeId × Value → H) (W : World) (base : Nat) (args : Array Value) (ds gs : List (DataW H)) (before : List MemPlace)
    (hval : ∀ (j : Nat) t v, Tryd.f6.params[j]? = some t → args[j]? = some v → Value.okWide Tryd.prog W .any base t v)
    (hW : DataW.Whole enc Tryd.prog Tryd.f6.params.toList Rows.operationsProgramSpec.vars false W args.toList ds gs before) (hL : laidMetH Tryd.prog Rows.operationsProgramRow.laid W) (hSh : W.ShapedOpen Tryd.prog) :
    Calls Tryd.prog 6 args W fun e W' => ∃ v, e = .returned v ∧ Rows.operationsProgramSpec.post enc Tryd.prog Tryd.f6 false true false false W args v W' := by
  have hG := glob_of hL hSh
  have hW' := hW
  obtain ⟨p, q, hA0, hV, rfl, hfz, hnd⟩ := hW
  have hA : DataW.TrodAll enc Tryd.prog W 0 (fun _ => true) true Tryd.f6.params.toList args.toList ds p := hA0
  rw [Tryd.params6] at hA hval
  obtain ⟨v0, v1, v2, d0, d1, d2, p0, p1, p2, rfl, rfl, rfl, h0, h1, h2⟩ := trodAll_three hA
  have hv0 : Value.okWide Tryd.prog W .any base 43 v0 := by
    apply hval 0
    · rfl
    · rfl
  have hv1 : Value.okWide Tryd.prog W .any base 39 v1 := by
    apply hval 1
    · rfl
    · rfl
  have hv2 : Value.okWide Tryd.prog W .any base 9 v2 := by
    apply hval 2
    · rfl
    · rfl
  obtain ⟨xs, hsxs, hbxs⟩ := arg_slice Tryd.underlying43 (by kernel_rfl) opOX hv0 h0
  obtain ⟨ar, hsar, -⟩ := arg_slice Tryd.underlying39 (by kernel_rfl) (opens_b Tryd.underlying5) hv1 h1
  obtain ⟨bs, rfl, rfl, rfl, hzs⟩ := Go.ChangeMaps.open_string Tryd.underlying9 hv2 h2
  have hs := str_len hzs
  have es : (Value.string bs) = S bs.data.toList := by simp [S]
  obtain ⟨rfl, rfl⟩ := trodVars_none hV
  exact calls_true (tb := 4) (by rw [es]; exact law_program _ _ xs ar _ W hG hsxs hbxs hsar hs) hW' rfl rfl laidOut (by rw [Tryd.params6]; intro t ht; simp at ht; rcases ht with rfl | rfl | rfl <;> exact ⟨by kernel_rfl, of_decide_eq_true (by kernel_rfl)⟩) (by kernel_rfl) Tryd.underlying4
theorem laid_met (os : Os) : laidMet Tryd.prog Rows.operationsProgramRow.laid ((witW os).forCall (fun _ _ => 0) ⟨#[], #[.slice none 0 0, .slice none 0 0, .string ⟨#[]⟩], []⟩).memory :=
  laidMet_of_run' 8 (by kernel_rfl) (by kernel_rfl)
theorem reads (os : Os) {H : Type} (enc : TypeId × Value → H) : ∃ places, DataW.whole enc Tryd.prog ((witW os).forCall (fun _ _ => 0) ⟨#[], #[.slice none 0 0, .slice none 0 0, .string ⟨#[]⟩], []⟩).memory Tryd.f6.params.toList Rows.operationsProgramSpec.vars false (#[.slice none 0 0, .slice none 0 0, .string ⟨#[]⟩] : Array Value).toList 8 = some ([.nil, .nil, .lit (.string [])], [], places) :=
  ⟨[], by kernel_rfl⟩

set_option maxRecDepth 100000 in
theorem lifted (os : Os) (started : os.Started) (H : Type) (enc : TypeId × Value → H) (F : Stop.Interp) :
    ReturnsInHanded {} Tryd.checked os 6 .any ((OpenSpec.ofChange Rows.operationsProgramSpec).preRow enc Tryd.prog Tryd.f6 Rows.operationsProgramRow.domain false Rows.operationsProgramRow.laid) (((OpenSpec.ofChange Rows.operationsProgramSpec).at F).post enc Tryd.prog Tryd.f6 false true false false) := by
  obtain ⟨places, hx⟩ := reads os enc
  refine returnsInHanded_of_row (C := Tryd.checked) (s := OpenSpec.ofChange Rows.operationsProgramSpec) own started (by kernel_rfl) Tryd.func6
    (witness_row_at (enc := enc) (C := Tryd.checked) false (witW os) #[.slice none 0 0, .slice none 0 0, .string ⟨#[]⟩] rfl (by kernel_rfl) (by kernel_rfl) (by kernel_rfl)
      (OpenSpec.preRow_of_cond 8 hx (by kernel_rfl) (fun k hk => by cases hk) (by kernel_rfl) (laid_met os))) ?_
  intro W base args ds gs before hval hW _ _ _ hL hSh _
  exact contract H enc W base args ds gs before hval hW hL hSh
theorem said : Rows.OperationsProgramSaid :=
  OpenClaim.holds_of_cond 6 Tryd.f6 rfl rfl rfl rfl rfl rfl rfl ⟨rfl, rfl, rfl, rfl, rfl⟩ rfl rfl rfl rfl rfl (by kernel_rfl) Tryd.func6 (by kernel_rfl)
    (of_decide_eq_true (by kernel_rfl)) (by unfold Func.isWrapper; first | (rw [if_pos (by decide +kernel)]; kernel_rfl) | (rw [if_neg (by decide +kernel)]; exact ⟨rfl, rfl⟩))
    (fun os started H enc _ F => by rw [OpenClaim.pre_eq_preRow]; exact lifted os started H enc F)
theorem plain (f : FuncId) (fn : Func) (hf : Tryd.pinned.checked.prog.funcNamed "gansey/ganseylaw07.OperationsProgram" = some f) (hfn : Tryd.pinned.checked.prog.funcs[f]? = some fn) :
    true = Tryd.pinned.checked.prog.looks [] ∧ ∀ (j : Nat) t, fn.params[j]? = some t → Tryd.pinned.checked.prog.wantsStandIn t = false := by
  obtain rfl : f = 6 := Option.some.inj ((show Tryd.prog.funcNamed "gansey/ganseylaw07.OperationsProgram" = some 6 by kernel_rfl).symm.trans hf) |>.symm
  obtain rfl : fn = Tryd.f6 := (Option.some.inj (Tryd.func6.symm.trans hfn)).symm
  refine ⟨by kernel_rfl, fun j t ht => ?_⟩
  rw [Tryd.params6] at ht
  rcases j with _ | _ | _ | j
  · obtain rfl : t = 43 := by simpa using ht.symm
    exact (show Tryd.prog.wantsStandIn 43 = false by kernel_rfl)
  · obtain rfl : t = 39 := by simpa using ht.symm
    exact (show Tryd.prog.wantsStandIn 39 = false by kernel_rfl)
  · obtain rfl : t = 9 := by simpa using ht.symm
    exact (show Tryd.prog.wantsStandIn 9 = false by kernel_rfl)
  · simp at ht
end Go.Proofs.YtbalocjcbmkecaaDoor.operationsProgram
namespace Go.Proofs.YtbalocjcbmkecaaDoor
theorem operationsProgram_card : Rows.OperationsProgramCardSaid :=
  Claim7.holds_tied_plain_at .later [] _ _ _ _ operationsProgram.said (fun _ h => by cases h) (by kernel_rfl) (fun _ h => by cases h) operationsProgram_row_tie rfl ⟨rfl, rfl⟩ (by kernel_rfl) rfl operationsProgram.plain (by kernel_rfl)
#print axioms operationsProgram_card
end Go.Proofs.YtbalocjcbmkecaaDoor
