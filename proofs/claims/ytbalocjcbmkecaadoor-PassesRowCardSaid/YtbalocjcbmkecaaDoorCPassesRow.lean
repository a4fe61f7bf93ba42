/- The card of the law PassesRow: for every input the law returns true, and the arguments read behind the call as before it. Conditions: the listed package-level variables hold what the program's text lays. -/
import Derived.Test.YtbalocjcbmkecaaDoorCBase
import Derived.Test.YtbalocjcbmkecaaDoorOpens
import Derived.Test.YtbalocjcbmkecaaDoorW28
set_option linter.unusedVariables false
set_option linter.unusedSimpArgs false
namespace Go.Proofs.YtbalocjcbmkecaaDoor.passesRow
open Go.ChangeShapes Go.WideShapes Go.ChangeAt Go.RowKit Go.Lw

set_option maxRecDepth 100000 in
theorem contract (H : Type) (enc : TypeId × Value → H) (W : World) (base : Nat) (args : Array Value) (ds gs : List (DataW H)) (before : List MemPlace)
    (hval : ∀ (j : Nat) t v, Tryd.f11.params[j]? = some t → args[j]? = some v → Value.okWide Tryd.prog W .any base t v)
    (hW : DataW.Whole enc Tryd.prog Tryd.f11.params.toList Rows.passesRowSpec.vars false W args.toList ds gs before) (hL : laidMetH Tryd.prog Rows.passesRowRow.laid W) (hSh : W.ShapedOpen Tryd.prog) :
    Calls Tryd.prog 11 args W fun e W' => ∃ v, e = .returned v ∧ Rows.passesRowSpec.post enc Tryd.prog Tryd.f11 false true false false W args v W' := by
  have hG := glob_of hL hSh
  have hW' := hW
  obtain ⟨p, q, hA0, hV, rfl, hfz, hnd⟩ := hW
  have hA : DataW.TrodAll enc Tryd.prog W 0 (fun _ => true) true Tryd.f11.params.toList args.toList ds p := hA0
  rw [Tryd.params11] at hA hval
  obtain ⟨v0, v1, v2, d0, d1, d2, p0, p1, p2, rfl, rfl, rfl, h0, h1, h2⟩ := trodAll_three hA
  have hv0 : Value.okWide Tryd.prog W .any base 5 v0 := by
    apply hval 0
    · rfl
    · rfl
  have hv1 : Value.okWide Tryd.prog W .any base 59 v1 := by
    apply hval 1
    · rfl
    · rfl
  have hv2 : Value.okWide Tryd.prog W .any base 5 v2 := by
    apply hval 2
    · rfl
    · rfl
  obtain ⟨a, rfl, rfl, rfl, hwa⟩ := open_int Tryd.underlying5 hv0 h0
  have ha := wf_u8 hwa
  obtain ⟨b, rfl, rfl, rfl, hwb⟩ := open_int Tryd.underlying59 hv1 h1
  have hb : 0 ≤ b ∧ b ≤ 18446744073709551615 := by
    have h' : IntKind.u64.min ≤ b ∧ b ≤ IntKind.u64.max := by simpa [Lit.wf] using hwb
    exact h'
  obtain ⟨d, rfl, rfl, rfl, hwd⟩ := open_int Tryd.underlying5 hv2 h2
  have hd := wf_u8 hwd
  obtain ⟨rfl, rfl⟩ := trodVars_none hV
  exact calls_true (tb := 4) (law_row a b d W hG ha hb hd) hW' rfl rfl laidOut (by rw [Tryd.params11]; intro t ht; simp at ht; rcases ht with rfl | rfl | rfl <;> exact ⟨by kernel_rfl, of_decide_eq_true (by kernel_rfl)⟩) (by kernel_rfl) Tryd.underlying4
theorem laid_met (os : Os) : laidMet Tryd.prog Rows.passesRowRow.laid ((witW os).forCall (fun _ _ => 0) ⟨#[], #[.int .u8 0, .int .u64 0, .int .u8 0], []⟩).memory :=
  laidMet_of_run' 8 (by kernel_rfl) (by kernel_rfl)
theorem reads (os : Os) {H : Type} (enc : TypeId × Value → H) : ∃ places, DataW.whole enc Tryd.prog ((witW os).forCall (fun _ _ => 0) ⟨#[], #[.int .u8 0, .int .u64 0, .int .u8 0], []⟩).memory Tryd.f11.params.toList Rows.passesRowSpec.vars false (#[.int .u8 0, .int .u64 0, .int .u8 0] : Array Value).toList 8 = some ([.lit (.int .u8 0), .lit (.int .u64 0), .lit (.int .u8 0)], [], places) :=
  ⟨[], by kernel_rfl⟩

set_option maxRecDepth 100000 in
theorem lifted (os : Os) (started : os.Started) (H : Type) (enc : TypeId × Value → H) (F : Stop.Interp) :
    ReturnsInHanded {} Tryd.checked os 11 .any ((OpenSpec.ofChange Rows.passesRowSpec).preRow enc Tryd.prog Tryd.f11 Rows.passesRowRow.domain false Rows.passesRowRow.laid) (((OpenSpec.ofChange Rows.passesRowSpec).at F).post enc Tryd.prog Tryd.f11 false true false false) := by
  obtain ⟨places, hx⟩ := reads os enc
  refine returnsInHanded_of_row (C := Tryd.checked) (s := OpenSpec.ofChange Rows.passesRowSpec) own started (by kernel_rfl) Tryd.func11
    (witness_row_at (enc := enc) (C := Tryd.checked) false (witW os) #[.int .u8 0, .int .u64 0, .int .u8 0] rfl (by kernel_rfl) (by kernel_rfl) (by kernel_rfl)
      (OpenSpec.preRow_of_cond 8 hx (by kernel_rfl) (fun k hk => by cases hk) (by kernel_rfl) (laid_met os))) ?_
  intro W base args ds gs before hval hW _ _ _ hL hSh _
  exact contract H enc W base args ds gs before hval hW hL hSh
theorem said : Rows.PassesRowSaid :=
  OpenClaim.holds_of_cond 11 Tryd.f11 rfl rfl rfl rfl rfl rfl rfl ⟨rfl, rfl, rfl, rfl, rfl⟩ rfl rfl rfl rfl rfl (by kernel_rfl) Tryd.func11 (by kernel_rfl)
    (of_decide_eq_true (by kernel_rfl)) (by unfold Func.isWrapper; first | (rw [if_pos (by decide +kernel)]; kernel_rfl) | (rw [if_neg (by decide +kernel)]; exact ⟨rfl, rfl⟩))
    (fun os started H enc _ F => by rw [OpenClaim.pre_eq_preRow]; exact lifted os started H enc F)
theorem plain (f : FuncId) (fn : Func) (hf : Tryd.pinned.checked.prog.funcNamed "gansey/ganseylaw10.PassesRow" = some f) (hfn : Tryd.pinned.checked.prog.funcs[f]? = some fn) :
    true = Tryd.pinned.checked.prog.looks [] ∧ ∀ (j : Nat) t, fn.params[j]? = some t → Tryd.pinned.checked.prog.wantsStandIn t = false := by
  obtain rfl : f = 11 := Option.some.inj ((show Tryd.prog.funcNamed "gansey/ganseylaw10.PassesRow" = some 11 by kernel_rfl).symm.trans hf) |>.symm
  obtain rfl : fn = Tryd.f11 := (Option.some.inj (Tryd.func11.symm.trans hfn)).symm
  refine ⟨by kernel_rfl, fun j t ht => ?_⟩
  rw [Tryd.params11] at ht
  rcases j with _ | _ | _ | j
  · obtain rfl : t = 5 := by simpa using ht.symm
    exact (show Tryd.prog.wantsStandIn 5 = false by kernel_rfl)
  · obtain rfl : t = 59 := by simpa using ht.symm
    exact (show Tryd.prog.wantsStandIn 59 = false by kernel_rfl)
  · obtain rfl : t = 5 := by simpa using ht.symm
    exact (show Tryd.prog.wantsStandIn 5 = false by kernel_rfl)
  · simp at ht
end Go.Proofs.YtbalocjcbmkecaaDoor.passesRow
namespace Go.Proofs.YtbalocjcbmkecaaDoor
theorem passesRow_card : Rows.PassesRowCardSaid :=
  Claim7.holds_tied_plain_at .later [] _ _ _ _ passesRow.said (fun _ h => by cases h) (by kernel_rfl) (fun _ h => by cases h) passesRow_row_tie rfl ⟨rfl, rfl⟩ (by kernel_rfl) rfl passesRow.plain (by kernel_rfl)
#print axioms passesRow_card
end Go.Proofs.YtbalocjcbmkecaaDoor
