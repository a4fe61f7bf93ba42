/- The card of the law GarmentsText: for every input the law returns true, and the arguments read behind the call as before it. Conditions: the listed package-level variables hold what the program's text lays. -/
import Derived.Test.YthehggmdcmpjeaaGreatDoorRows
import Derived.Test.YthehggmdcmpjeaaGreatDoorP6
set_option linter.unusedVariables false
set_option linter.unusedSimpArgs false
namespace Go.Lw
open Go.RowKit
section
variable {P : Program} {a : Act} {n : Nat} {L : List (Nat × Value)} {ds : List Nat} {w w' : World} {Q : Exit → Act → World → Prop} {ops : Array Oper} {rest : List Oper}
variable {d : Nat} {ty : TypeId} {pos : String} {after : Array Edge} {v u : Value} {x y z : Operand} {t t' T : TypeId} {k k' : IntKind} {i j : Int} {b c : Bool} {l l' : List UInt8}
variable {A : Option Addr} {m cp : Nat}
theorem st_capS (h : AgM ds a n L) (hx : ev L x = some (.slice A m cp)) (hu : P.underlying t = some (.slice T)) (hn : Nat.blt d n = true) (q : ∀ a, AgM ds a n ((d, .int .i64 (cp : Int)) :: L) → wpList P ops Q rest a w) :
    wpList P ops Q (⟨some d, .call ⟨.builtin .cap, #[x], #[t]⟩, ty, pos, after, none⟩ :: rest) a w :=
  st_ok h rfl rfl hn (by
    rw [exec_builtin]; unfold builtin
    simp [h.eval hx, Builtin.cap_, run_underlying hu]
    rfl) q
theorem s_capS (hx : ev L x = some (.slice A m cp)) (hu : P.underlying t = some (.slice T)) (hn : Nat.blt d n = true) (q : WL P ops Q rest n ds w ((d, .int .i64 (cp : Int)) :: L)) : WL P ops Q (⟨some d, .call ⟨.builtin .cap, #[x], #[t]⟩, ty, pos, after, none⟩ :: rest) n ds w L := fun a h => st_capS h hx hu hn q -- short
end
end Go.Lw
namespace Go.G14
open Go.Lw
theorem text_good {nm : List UInt8} {ps : List Pc} (h : garE nm ps = 0) : garText nm ps = textG nm ps := if_pos h
end Go.G14
namespace Go.Proofs.YthehggmdcmpjeaaGreatDoor
open Go.Lw Go.G14
set_option maxHeartbeats 2000000 in
theorem law_text (nb : Int) (v : Value) (ys : List QD) (w0 : World) (hnb : 0 ≤ nb ∧ nb ≤ 255) (hs : Sl encQd w0 v ys) (hqy : QsAt w0 ys) (hG : GlobZ w0) : Rets Tryz.prog 4 #[.agg #[.int .u8 nb, v]] w0 fun r w' => r = .bool true ∧ Fr [] w0 w' := by
 obtain ⟨B, H, hB, hH, hqF⟩ := mean_at hqy
 obtain ⟨A, c, rfl, hcc, hM, hA⟩ := id hs
 clear hA
 unfold maxLen at hM
 have hGs := hG.sz
 refine we [(0, .agg #[.int .u8 nb, .slice A ys.length c])] Tryz.func4 rfl Tryz.ntmps4 rfl (.cons rfl .nil) ?_
 have hs0 := hs
 have hqF0 := hqF
 have hG0 := hG
 refine sr (bx rfl rfl rfl (fun g1 w1 hg1 hb1 q1 z1 => ?_))
 refine asg rfl (nn (sr (s_loadBA rfl hb1 ag24 ?_)))
 replace hs := hs0.ext q1
 replace hqF := hqF0.ext q1
 refine cl (ev1 rfl) co7 (gof_ok B H hB hH nb _ ys _ hnb hs hqF) rfl ?_
 rintro _ w2 ⟨V, qs, rfl, hoG, hpo, he1, q2⟩
 have z2 := q2.size
 have hoG0 := hoG
 have hpo0 := hpo
 obtain ⟨AG, cG, rfl, _⟩ := hoG.sl.form
 have hg0 := gar_valid nb hpo he1
 obtain ⟨nm, hnm⟩ : ∃ n, n = nmF nb := ⟨_, rfl⟩
 rw [← hnm] at hg0 ⊢
 have htl := text_le hg0
 refine al zv27 rfl rfl (fun g3 w3 hg3 hb3 q3 z3 => ?_)
 refine s_storeBA rfl rfl hb3 rfl sz27 (fun w4 hb3 q4 z4 => ?_)
 refine nn (sr (s_loadBA rfl hb3 ag27 ?_))
 replace hoG := hoG0.ext (q3.z1 q4)
 replace hpo := hpo0.ext (q3.z1 q4)
 refine cl (ev1 rfl) co14 (reftextg_ok nm _ qs _ hoG.sl hpo.q hg0) rfl ?_
 rintro _ w5 ⟨rfl, q5⟩
 have z5 := q5.size
 refine asg rfl (nn (sr (mv rfl ?_)))
 replace hG := hG0.ext (q1.z4 q2 q3 q4 q5)
 refine cl (ev1 rfl) co15 (gparse_ok (textG nm (pcs qs)) _ hG (by omega)) rfl ?_
 rintro _ w6 ⟨nm2, V2, qb, n2, e2, rfl, hoB, hpb, hpr, q6⟩
 have z6 := q6.size
 have hoB0 := hoB
 have hpb0 := hpb
 obtain ⟨hn2, heb, rfl, rfl, ⟨AB, rfl⟩⟩ := gparse_text hg0 hpr
 rw [hn2]
 refine mv rfl (xt rfl rfl (xt rfl rfl (xt rfl rfl (al zv27 rfl rfl (fun g5 w7 hg5 hb5 q7 z7 => ?_)))))
 refine s_storeBA rfl rfl hb5 rfl sz27 (fun w8 hb5 q8 z8 => ?_)
 refine asg rfl (asg rfl (kpL [(3, _), (4, _), (5, _), (6, _), (7, _)] (.c5 rfl rfl rfl rfl rfl) (nn (sr ?_))))
 replace hb3 := (hb3.ext (q5.n2 q6 q7)).fr q8 (by simp[blks]<;>omega)
 refine s_loadBA rfl hb3 ag27 ?_
 replace hoG := hoG0.ext (q3.z5 q4 q5 q6 q7 q8)
 replace hpo := hpo0.ext (q3.z5 q4 q5 q6 q7 q8)
 replace hG := hG0.ext ((q1.z6 q2 q3 q4 q5 q6 q7).z1 q8)
 refine cl (ev1 rfl) co16 (gtext_ok nm _ qs _ hoG.sl hpo.q hG.sy) rfl ?_
 rintro _ w9 ⟨rfl, q9⟩
 have z9 := q9.size
 refine mv rfl (s_eqs rfl rfl (mv rfl ?_))
 refine gs 22 rfl (fun g0 => ?_) (fun hh => absurd (by exact text_good hg0) hh)
 refine gY rfl (mv rfl (gY rfl (eq' rfl rfl (pkt rfl rfl (mv rfl ?_)))))
 refine gs 26 rfl (fun g1 => ?_) (fun hh => absurd (by rfl) hh)
 refine gY rfl (mv rfl (gY rfl (eq' rfl rfl (pkt rfl rfl (mv rfl ?_)))))
 refine gs 30 rfl (fun g2 => ?_) (fun hh => absurd (by rfl) hh)
 refine gY rfl ?_
 replace hb5 := hb5.ext q9
 refine s_loadBA rfl hb5 ag27 (gY rfl ?_)
 replace hb3 := hb3.ext q9
 refine s_loadBA rfl hb3 ag27 (gY rfl ?_)
 replace hoB := hoB0.ext (q7.z2 q8 q9)
 replace hoG := hoG0.ext (q3.z6 q4 q5 q6 q7 q8 q9)
 replace hpb := hpb0.ext (q7.z2 q8 q9)
 replace hpo := hpo0.ext (q3.z6 q4 q5 q6 q7 q8 q9)
 refine cl (ev2 rfl rfl) co17 (gdiff_ok nm _ _ qb qs _ hoB.sl hoG.sl hpb.q hpo.q heb) rfl ?_
 rintro _ w10 ⟨rfl, q10⟩
 have z10 := q10.size
 refine gY rfl (eq' rfl rfl (pkt rfl rfl (mv rfl ?_)))
 refine gs 36 rfl (fun g3 => ?_) (fun hh => absurd (by rfl) hh)
 refine gY rfl (fad rfl fa27_1 (gY rfl ?_))
 replace hb5 := hb5.ext q10
 refine s_loadB rfl hb5 rfl na25 (gY rfl (s_capS rfl Tryz.underlying25 rfl (gY rfl (fad rfl fa27_1 (gY rfl (s_loadB rfl hb5 rfl na25 (gY rfl (lnS rfl Tryz.underlying25 (gY rfl (eq' rfl rfl (pkt rfl rfl ?_)))))))))))
 refine mv rfl ?_
 refine gs 45 rfl (fun g4 => ?_) (fun hh => absurd (by rfl) hh)
 refine gY rfl ?_
 replace hG := hG0.ext ((((q1.z6 q2 q3 q4 q5 q6 q7).z1 q8).n1 q9).n1 q10)
 refine cl evs_nil co13 (lives22_ok _ hG.sy) rfl ?_
 rintro _ w11 ⟨rfl, q11⟩
 have z11 := q11.size
 refine pkt rfl rfl (asg rfl (kpL [(2, _)] (.cons rfl .nil) (nn (rt (r1 Tryz.results4 rfl ?_)))))
 exact ⟨_, rfl, rfl, ((((q1.z6 q2 q3 q4 q5 q6 q7).z1 q8).n1 q9).n2 q10 q11)⟩
end Go.Proofs.YthehggmdcmpjeaaGreatDoor
namespace Go.Proofs.YthehggmdcmpjeaaGreatDoor.garmentsText
open Go.ChangeShapes Go.WideShapes Go.ChangeAt Go.RowKit Go.Lw

set_option maxRecDepth 100000 in
theorem contract (H : Type) (enc : TypeId × Value → H) (W : World) (base : Nat) (args : Array Value) (ds gs : List (DataW H)) (before : List MemPlace)
    (hval : ∀ (j : Nat) t v, Tryz.f4.params[j]? = some t → args[j]? = some v → Value.okWide Tryz.prog W .any base t v)
    (hW : DataW.Whole enc Tryz.prog Tryz.f4.params.toList Rows.garmentsTextSpec.vars false W args.toList ds gs before) (hL : laidMetH Tryz.prog Rows.garmentsTextRow.laid W) (hSh : W.ShapedOpen Tryz.prog) :
    Calls Tryz.prog 4 args W fun e W' => ∃ v, e = .returned v ∧ Rows.garmentsTextSpec.post enc Tryz.prog Tryz.f4 false true false false W args v W' := by
  have hG := glob_of hL hSh
  have hW' := hW
  obtain ⟨p, q, hA0, hV, rfl, hfz, hnd⟩ := hW
  have hA : DataW.TrodAll enc Tryz.prog W 0 (fun _ => true) true Tryz.f4.params.toList args.toList ds p := hA0
  rw [Tryz.params4] at hA hval
  obtain ⟨v0, d0, rfl, rfl, h0⟩ := trodAll_one hA
  have hv0 : Value.okWide Tryz.prog W .any base 24 v0 := by
    apply hval 0
    · rfl
    · rfl
  obtain ⟨x, rfl, hx⟩ := arg_struct Tryz.underlying24 opG hv0 h0
  obtain ⟨rfl, rfl⟩ := trodVars_none hV
  exact calls_true (tb := 4) (by obtain ⟨hnb, ys, hs, hqy⟩ := hx; exact law_text x.1 _ ys W hnb hs hqy hG) hW' rfl rfl laidOut (by rw [Tryz.params4]; intro t ht; simp at ht; subst ht; exact ⟨by kernel_rfl, of_decide_eq_true (by kernel_rfl)⟩) (by kernel_rfl) Tryz.underlying4
theorem laid_met (os : Os) : laidMet Tryz.prog Rows.garmentsTextRow.laid ((witW os).forCall (fun _ _ => 0) ⟨#[], #[.agg #[.int .u8 0, .slice none 0 0]], []⟩).memory :=
  laidMet_of_run' 8 (by kernel_rfl) (by kernel_rfl)
theorem reads (os : Os) {H : Type} (enc : TypeId × Value → H) : ∃ places, DataW.whole enc Tryz.prog ((witW os).forCall (fun _ _ => 0) ⟨#[], #[.agg #[.int .u8 0, .slice none 0 0]], []⟩).memory Tryz.f4.params.toList Rows.garmentsTextSpec.vars false (#[.agg #[.int .u8 0, .slice none 0 0]] : Array Value).toList 8 = some ([.agg [.lit (.int .u8 0), .nil]], [], places) :=
  ⟨[], by kernel_rfl⟩

set_option maxRecDepth 100000 in
theorem lifted (os : Os) (started : os.Started) (H : Type) (enc : TypeId × Value → H) (F : Stop.Interp) :
    ReturnsInHanded {} Tryz.checked os 4 .any ((OpenSpec.ofChange Rows.garmentsTextSpec).preRow enc Tryz.prog Tryz.f4 Rows.garmentsTextRow.domain false Rows.garmentsTextRow.laid) (((OpenSpec.ofChange Rows.garmentsTextSpec).at F).post enc Tryz.prog Tryz.f4 false true false false) := by
  obtain ⟨places, hx⟩ := reads os enc
  refine returnsInHanded_of_row (C := Tryz.checked) (s := OpenSpec.ofChange Rows.garmentsTextSpec) own started (by kernel_rfl) Tryz.func4
    (witness_row_at (enc := enc) (C := Tryz.checked) false (witW os) #[.agg #[.int .u8 0, .slice none 0 0]] rfl (by kernel_rfl) (by kernel_rfl) (by kernel_rfl)
      (OpenSpec.preRow_of_cond 8 hx (by kernel_rfl) (fun k hk => by cases hk) (by kernel_rfl) (laid_met os))) ?_
  intro W base args ds gs before hval hW _ _ _ hL hSh _
  exact contract H enc W base args ds gs before hval hW hL hSh
theorem said : Rows.GarmentsTextSaid :=
  OpenClaim.holds_of_cond 4 Tryz.f4 rfl rfl rfl rfl rfl rfl rfl ⟨rfl, rfl, rfl, rfl, rfl⟩ rfl rfl rfl rfl rfl (by kernel_rfl) Tryz.func4 (by kernel_rfl)
    (of_decide_eq_true (by kernel_rfl)) (by unfold Func.isWrapper; first | (rw [if_pos (by decide +kernel)]; kernel_rfl) | (rw [if_neg (by decide +kernel)]; exact ⟨rfl, rfl⟩))
    (fun os started H enc _ F => by rw [OpenClaim.pre_eq_preRow]; exact lifted os started H enc F)
theorem plain (f : FuncId) (fn : Func) (hf : Tryz.pinned.checked.prog.funcNamed "gansey/ganseylaw22.GarmentsText" = some f) (hfn : Tryz.pinned.checked.prog.funcs[f]? = some fn) :
    true = Tryz.pinned.checked.prog.looks [] ∧ ∀ (j : Nat) t, fn.params[j]? = some t → Tryz.pinned.checked.prog.wantsStandIn t = false := by
  obtain rfl : f = 4 := Option.some.inj ((show Tryz.prog.funcNamed "gansey/ganseylaw22.GarmentsText" = some 4 by kernel_rfl).symm.trans hf) |>.symm
  obtain rfl : fn = Tryz.f4 := (Option.some.inj (Tryz.func4.symm.trans hfn)).symm
  refine ⟨by kernel_rfl, fun j t ht => ?_⟩
  rw [Tryz.params4] at ht
  rcases j with _ | j
  · obtain rfl : t = 24 := by simpa using ht.symm
    exact (show Tryz.prog.wantsStandIn 24 = false by kernel_rfl)
  · simp at ht
end Go.Proofs.YthehggmdcmpjeaaGreatDoor.garmentsText
namespace Go.Proofs.YthehggmdcmpjeaaGreatDoor
theorem garmentsText_card : Rows.GarmentsTextCardSaid :=
  Claim7.holds_tied_plain_at .later [] _ _ _ _ garmentsText.said (fun _ h => by cases h) (by kernel_rfl) (fun _ h => by cases h) garmentsText_row_tie rfl ⟨rfl, rfl⟩ (by kernel_rfl) rfl garmentsText.plain (by kernel_rfl)
#print axioms garmentsText_card
end Go.Proofs.YthehggmdcmpjeaaGreatDoor
