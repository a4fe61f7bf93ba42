/- The card of the law PlansIs: for every input the law returns true, and the arguments read behind the call as before it. Conditions: the listed package-level variables hold what the program's text lays. -/
import Derived.Test.YtlfdhllfmoplgaaGreatDoorRE8
set_option linter.unusedVariables false
set_option linter.unusedSimpArgs false
namespace Go.Proofs.YtlfdhllfmoplgaaGreatDoor.plansIs
open Go.ChangeShapes Go.WideShapes Go.ChangeAt Go.RowKit Go.Lw

set_option maxRecDepth 100000 in
theorem contract (H : Type) (enc : TypeId × Value → H) (W : World) (base : Nat) (args : Array Value) (ds gs : List (DataW H)) (before : List MemPlace)
    (hval : ∀ (j : Nat) t v, Tryz.f5.params[j]? = some t → args[j]? = some v → Value.okWide Tryz.prog W .any base t v)
    (hW : DataW.Whole enc Tryz.prog Tryz.f5.params.toList Rows.plansIsSpec.vars false W args.toList ds gs before) (hL : laidMetH Tryz.prog Rows.plansIsRow.laid W) (hSh : W.ShapedOpen Tryz.prog) :
    Calls Tryz.prog 5 args W fun e W' => ∃ v, e = .returned v ∧ Rows.plansIsSpec.post enc Tryz.prog Tryz.f5 false true false false W args v W' := by
  have hG := j6f hL hSh
  have hT := j7k hL
  have hW' := hW
  obtain ⟨p, q, hA0, hV, rfl, hfz, hnd⟩ := hW
  have hA : DataW.TrodAll enc Tryz.prog W 0 (fun _ => true) true Tryz.f5.params.toList args.toList ds p := hA0
  rw [Tryz.params5] at hA hval
  obtain ⟨v0, v1, v2, d0, d1, d2, p0, p1, p2, rfl, rfl, rfl, h0, h1, h2⟩ := trodAll_three hA
  have hv0 : Value.okWide Tryz.prog W .any base 53 v0 := by
    apply hval 0
    · rfl
    · rfl
  have hv1 : Value.okWide Tryz.prog W .any base 44 v1 := by
    apply hval 1
    · rfl
    · rfl
  have hv2 : Value.okWide Tryz.prog W .any base 5 v2 := by
    apply hval 2
    · rfl
    · rfl
  obtain ⟨x, rfl, ⟨ys, hs, -⟩, ⟨zs, hz, -⟩⟩ := y9c Tryz.underlying53 opL hv0 h0
  obtain ⟨o, rfl, ho⟩ := y9c Tryz.underlying44 opOp hv1 h1
  obtain ⟨a, rfl, rfl, rfl, hwa⟩ := open_int Tryz.underlying5 hv2 h2
  have ha := k6a hwa
  obtain ⟨rfl, rfl⟩ := trodVars_none hV
  exact v3j (tb := 4) (k0j x ys zs o a W ha hG hT hs hz) hW' rfl rfl j4y (by rw [Tryz.params5]; intro t ht; simp at ht; rcases ht with rfl | rfl | rfl <;> exact ⟨by kernel_rfl, of_decide_eq_true (by kernel_rfl)⟩) (by kernel_rfl) Tryz.underlying4
theorem laid_met (os : Os) : laidMet Tryz.prog Rows.plansIsRow.laid ((k5y os).forCall (fun _ _ => 0) ⟨#[], #[.agg #[.slice none 0 0, .slice none 0 0], .agg #[.int .u8 0, .int .u8 0, .int .u8 0, .int .i64 0, .int .u8 0, .int .i64 0], .int .u8 0], []⟩).memory :=
  laidMet_of_run' 8 (by kernel_rfl) (by kernel_rfl)
theorem reads (os : Os) {H : Type} (enc : TypeId × Value → H) : ∃ places, DataW.whole enc Tryz.prog ((k5y os).forCall (fun _ _ => 0) ⟨#[], #[.agg #[.slice none 0 0, .slice none 0 0], .agg #[.int .u8 0, .int .u8 0, .int .u8 0, .int .i64 0, .int .u8 0, .int .i64 0], .int .u8 0], []⟩).memory Tryz.f5.params.toList Rows.plansIsSpec.vars false (#[.agg #[.slice none 0 0, .slice none 0 0], .agg #[.int .u8 0, .int .u8 0, .int .u8 0, .int .i64 0, .int .u8 0, .int .i64 0], .int .u8 0] : Array Value).toList 8 = some ([.agg [.nil, .nil], .agg [.lit (.int .u8 0), .lit (.int .u8 0), .agg [.lit (.int .u8 0), .lit (.int .i64 0)], .lit (.int .u8 0), .lit (.int .i64 0)], .lit (.int .u8 0)], [], places) :=
  ⟨[], by kernel_rfl⟩

set_option maxRecDepth 100000 in
theorem lifted (os : Os) (started : os.Started) (H : Type) (enc : TypeId × Value → H) (F : Stop.Interp) :
    ReturnsInHanded {} Tryz.checked os 5 .any ((OpenSpec.ofChange Rows.plansIsSpec).preRow enc Tryz.prog Tryz.f5 Rows.plansIsRow.domain false Rows.plansIsRow.laid) (((OpenSpec.ofChange Rows.plansIsSpec).at F).post enc Tryz.prog Tryz.f5 false true false false) := by
  obtain ⟨places, hx⟩ := reads os enc
  refine returnsInHanded_of_row (C := Tryz.checked) (s := OpenSpec.ofChange Rows.plansIsSpec) own started (by kernel_rfl) Tryz.func5
    (witness_row_at (enc := enc) (C := Tryz.checked) false (k5y os) #[.agg #[.slice none 0 0, .slice none 0 0], .agg #[.int .u8 0, .int .u8 0, .int .u8 0, .int .i64 0, .int .u8 0, .int .i64 0], .int .u8 0] rfl (by kernel_rfl) (by kernel_rfl) (by kernel_rfl)
      (OpenSpec.preRow_of_cond 8 hx (by kernel_rfl) (fun k hk => by cases hk) (by kernel_rfl) (laid_met os))) ?_
  intro W base args ds gs before hval hW _ _ _ hL hSh _
  exact contract H enc W base args ds gs before hval hW hL hSh
set_option maxRecDepth 100000 in
theorem jIn : (Rows.plansIsRow.inPlace == Tryz.pinned.checked.prog.inPlace 5) = true := by kernel_rfl
set_option maxRecDepth 100000 in
theorem jUn : (Rows.plansIsRow.unfollowed == Tryz.pinned.checked.prog.unfollowed 5) = true := by kernel_rfl
set_option maxRecDepth 100000 in
theorem jRe : (Rows.plansIsRow.recurses == Tryz.pinned.checked.prog.recurses 5) = true := by kernel_rfl
set_option maxRecDepth 100000 in
theorem jNa : (Rows.plansIsRow.named == Tryz.pinned.checked.prog.varsNamed 5) = true := by kernel_rfl
set_option maxRecDepth 100000 in
theorem joined : joinedFacts Tryz.pinned.checked.prog 5 Tryz.f5 (OpenSpec.ofChange Rows.plansIsSpec).bare Rows.plansIsRow = true := by
  unfold joinedFacts
  rw [jIn, jUn, jRe, jNa]
  kernel_rfl
theorem said : Rows.PlansIsSaid :=
  OpenClaim.holds_of_cond 5 Tryz.f5 rfl rfl rfl rfl rfl rfl rfl ⟨rfl, rfl, rfl, rfl, rfl⟩ rfl rfl rfl rfl rfl (by kernel_rfl) Tryz.func5 (joined)
    (of_decide_eq_true (by kernel_rfl)) (by unfold Func.isWrapper; first | (rw [if_pos (by decide +kernel)]; kernel_rfl) | (rw [if_neg (by decide +kernel)]; exact ⟨rfl, rfl⟩))
    (fun os started H enc _ F => by rw [OpenClaim.pre_eq_preRow]; exact lifted os started H enc F)
theorem plain (f : FuncId) (fn : Func) (hf : Tryz.pinned.checked.prog.funcNamed "gansey/ganseylaw26.PlansIs" = some f) (hfn : Tryz.pinned.checked.prog.funcs[f]? = some fn) :
    true = Tryz.pinned.checked.prog.looks [] ∧ ∀ (j : Nat) t, fn.params[j]? = some t → Tryz.pinned.checked.prog.wantsStandIn t = false := by
  obtain rfl : f = 5 := Option.some.inj ((show Tryz.prog.funcNamed "gansey/ganseylaw26.PlansIs" = some 5 by kernel_rfl).symm.trans hf) |>.symm
  obtain rfl : fn = Tryz.f5 := (Option.some.inj (Tryz.func5.symm.trans hfn)).symm
  refine ⟨by kernel_rfl, fun j t ht => ?_⟩
  rw [Tryz.params5] at ht
  rcases j with _ | _ | _ | j
  · obtain rfl : t = 53 := by simpa using ht.symm
    exact (show Tryz.prog.wantsStandIn 53 = false by kernel_rfl)
  · obtain rfl : t = 44 := by simpa using ht.symm
    exact (show Tryz.prog.wantsStandIn 44 = false by kernel_rfl)
  · obtain rfl : t = 5 := by simpa using ht.symm
    exact (show Tryz.prog.wantsStandIn 5 = false by kernel_rfl)
  · simp at ht
end Go.Proofs.YtlfdhllfmoplgaaGreatDoor.plansIs
namespace Go.Proofs.YtlfdhllfmoplgaaGreatDoor
theorem plansIs_card : Rows.PlansIsCardSaid :=
  Claim7.holds_tied_plain_at .later [] _ _ _ _ plansIs.said (fun _ h => by cases h) (by kernel_rfl) (fun _ h => by cases h) plansIs_row_tie rfl ⟨rfl, rfl⟩ (by kernel_rfl) rfl plansIs.plain (by kernel_rfl)
#print axioms plansIs_card
end Go.Proofs.YtlfdhllfmoplgaaGreatDoor
