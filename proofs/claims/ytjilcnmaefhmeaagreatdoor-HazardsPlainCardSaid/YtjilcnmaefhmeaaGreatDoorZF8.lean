/- The card of the law HazardsPlain: for every input the law returns true, and the arguments read behind the call as before it. Conditions: the listed package-level variables hold what the program's text lays. -/
import Derived.Test.YtjilcnmaefhmeaaGreatDoorZF7
set_option linter.unusedVariables false
set_option linter.unusedSimpArgs false
namespace Go.Proofs.YtjilcnmaefhmeaaGreatDoor.hazardsPlain
open Go.ChangeShapes Go.WideShapes Go.ChangeAt Go.RowKit Go.Lw

set_option maxRecDepth 100000 in
theorem contract (H : Type) (enc : TypeId × Value → H) (W : World) (base : Nat) (args : Array Value) (ds gs : List (DataW H)) (before : List MemPlace)
    (hval : ∀ (j : Nat) t v, Tryz.f9.params[j]? = some t → args[j]? = some v → Value.okWide Tryz.prog W .any base t v)
    (hW : DataW.Whole enc Tryz.prog Tryz.f9.params.toList Rows.hazardsPlainSpec.vars false W args.toList ds gs before) (hL : laidMetH Tryz.prog Rows.hazardsPlainRow.laid W) (hSh : W.ShapedOpen Tryz.prog) :
    Calls Tryz.prog 9 args W fun e W' => ∃ v, e = .returned v ∧ Rows.hazardsPlainSpec.post enc Tryz.prog Tryz.f9 false true false false W args v W' := by
  have hG := u9j hL hSh
  have hT := j7b hL
  have hZ := j6u hL
  have hW' := hW
  obtain ⟨p, q, hA0, hV, rfl, hfz, hnd⟩ := hW
  have hA : DataW.TrodAll enc Tryz.prog W 0 (fun _ => true) true Tryz.f9.params.toList args.toList ds p := hA0
  rw [Tryz.params9] at hA hval
  obtain ⟨v0, v1, v2, d0, d1, d2, p0, p1, p2, rfl, rfl, rfl, h0, h1, h2⟩ := trodAll_three hA
  have hv0 : Value.okWide Tryz.prog W .any base 5 v0 := by
    apply hval 0
    · rfl
    · rfl
  have hv1 : Value.okWide Tryz.prog W .any base 5 v1 := by
    apply hval 1
    · rfl
    · rfl
  have hv2 : Value.okWide Tryz.prog W .any base 5 v2 := by
    apply hval 2
    · rfl
    · rfl
  obtain ⟨a, rfl, rfl, rfl, hwa⟩ := open_int Tryz.underlying5 hv0 h0
  have ha := j1b hwa
  obtain ⟨b, rfl, rfl, rfl, hwb⟩ := open_int Tryz.underlying5 hv1 h1
  have hb := j1b hwb
  obtain ⟨d, rfl, rfl, rfl, hwd⟩ := open_int Tryz.underlying5 hv2 h2
  have hd := j1b hwd
  obtain ⟨rfl, rfl⟩ := trodVars_none hV
  exact v1c (tb := 4) (x9x a b d W hG hT hZ ha hb hd) hW' rfl rfl u8o (by rw [Tryz.params9]; intro t ht; simp at ht; subst ht; exact ⟨by kernel_rfl, of_decide_eq_true (by kernel_rfl)⟩) (by kernel_rfl) Tryz.underlying4
theorem laid_met (os : Os) : laidMet Tryz.prog Rows.hazardsPlainRow.laid ((k0a os).forCall (fun _ _ => 0) ⟨#[], #[.int .u8 0, .int .u8 0, .int .u8 0], []⟩).memory :=
  laidMet_of_run' 8 (by kernel_rfl) (by kernel_rfl)
theorem reads (os : Os) {H : Type} (enc : TypeId × Value → H) : ∃ places, DataW.whole enc Tryz.prog ((k0a os).forCall (fun _ _ => 0) ⟨#[], #[.int .u8 0, .int .u8 0, .int .u8 0], []⟩).memory Tryz.f9.params.toList Rows.hazardsPlainSpec.vars false (#[.int .u8 0, .int .u8 0, .int .u8 0] : Array Value).toList 8 = some ([.lit (.int .u8 0), .lit (.int .u8 0), .lit (.int .u8 0)], [], places) :=
  ⟨[], by kernel_rfl⟩

set_option maxRecDepth 100000 in
theorem lifted (os : Os) (started : os.Started) (H : Type) (enc : TypeId × Value → H) (F : Stop.Interp) :
    ReturnsInHanded {} Tryz.checked os 9 .any ((OpenSpec.ofChange Rows.hazardsPlainSpec).preRow enc Tryz.prog Tryz.f9 Rows.hazardsPlainRow.domain false Rows.hazardsPlainRow.laid) (((OpenSpec.ofChange Rows.hazardsPlainSpec).at F).post enc Tryz.prog Tryz.f9 false true false false) := by
  obtain ⟨places, hx⟩ := reads os enc
  refine returnsInHanded_of_row (C := Tryz.checked) (s := OpenSpec.ofChange Rows.hazardsPlainSpec) own started (by kernel_rfl) Tryz.func9
    (witness_row_at (enc := enc) (C := Tryz.checked) false (k0a os) #[.int .u8 0, .int .u8 0, .int .u8 0] rfl (by kernel_rfl) (by kernel_rfl) (by kernel_rfl)
      (OpenSpec.preRow_of_cond 8 hx (by kernel_rfl) (fun k hk => by cases hk) (by kernel_rfl) (laid_met os))) ?_
  intro W base args ds gs before hval hW _ _ _ hL hSh _
  exact contract H enc W base args ds gs before hval hW hL hSh
set_option maxRecDepth 100000 in
theorem jIn : (Rows.hazardsPlainRow.inPlace == Tryz.pinned.checked.prog.inPlace 9) = true := by kernel_rfl
set_option maxRecDepth 100000 in
theorem jUn : (Rows.hazardsPlainRow.unfollowed == Tryz.pinned.checked.prog.unfollowed 9) = true := by kernel_rfl
set_option maxRecDepth 100000 in
theorem jRe : (Rows.hazardsPlainRow.recurses == Tryz.pinned.checked.prog.recurses 9) = true := by kernel_rfl
set_option maxRecDepth 100000 in
theorem jNa : (Rows.hazardsPlainRow.named == Tryz.pinned.checked.prog.varsNamed 9) = true := by kernel_rfl
set_option maxRecDepth 100000 in
theorem joined : joinedFacts Tryz.pinned.checked.prog 9 Tryz.f9 (OpenSpec.ofChange Rows.hazardsPlainSpec).bare Rows.hazardsPlainRow = true := by
  unfold joinedFacts
  rw [jIn, jUn, jRe, jNa]
  kernel_rfl
theorem said : Rows.HazardsPlainSaid :=
  OpenClaim.holds_of_cond 9 Tryz.f9 rfl rfl rfl rfl rfl rfl rfl ⟨rfl, rfl, rfl, rfl, rfl⟩ rfl rfl rfl rfl rfl (by kernel_rfl) Tryz.func9 (joined)
    (of_decide_eq_true (by kernel_rfl)) (by unfold Func.isWrapper; first | (rw [if_pos (by decide +kernel)]; kernel_rfl) | (rw [if_neg (by decide +kernel)]; exact ⟨rfl, rfl⟩))
    (fun os started H enc _ F => by rw [OpenClaim.pre_eq_preRow]; exact lifted os started H enc F)
theorem plain (f : FuncId) (fn : Func) (hf : Tryz.pinned.checked.prog.funcNamed "gansey/ganseylaw09.HazardsPlain" = some f) (hfn : Tryz.pinned.checked.prog.funcs[f]? = some fn) :
    true = Tryz.pinned.checked.prog.looks [] ∧ ∀ (j : Nat) t, fn.params[j]? = some t → Tryz.pinned.checked.prog.wantsStandIn t = false := by
  obtain rfl : f = 9 := Option.some.inj ((show Tryz.prog.funcNamed "gansey/ganseylaw09.HazardsPlain" = some 9 by kernel_rfl).symm.trans hf) |>.symm
  obtain rfl : fn = Tryz.f9 := (Option.some.inj (Tryz.func9.symm.trans hfn)).symm
  refine ⟨by kernel_rfl, fun j t ht => ?_⟩
  rw [Tryz.params9] at ht
  rcases j with _ | _ | _ | j
  · obtain rfl : t = 5 := by simpa using ht.symm
    exact (show Tryz.prog.wantsStandIn 5 = false by kernel_rfl)
  · obtain rfl : t = 5 := by simpa using ht.symm
    exact (show Tryz.prog.wantsStandIn 5 = false by kernel_rfl)
  · obtain rfl : t = 5 := by simpa using ht.symm
    exact (show Tryz.prog.wantsStandIn 5 = false by kernel_rfl)
  · simp at ht
end Go.Proofs.YtjilcnmaefhmeaaGreatDoor.hazardsPlain
namespace Go.Proofs.YtjilcnmaefhmeaaGreatDoor
theorem hazardsPlain_card : Rows.HazardsPlainCardSaid :=
  Claim7.holds_tied_plain_at .later [] _ _ _ _ hazardsPlain.said (fun _ h => by cases h) (by kernel_rfl) (fun _ h => by cases h) hazardsPlain_row_tie rfl ⟨rfl, rfl⟩ (by kernel_rfl) rfl hazardsPlain.plain (by kernel_rfl)
#print axioms hazardsPlain_card
end Go.Proofs.YtjilcnmaefhmeaaGreatDoor
