/- Walks. -/
import Derived.Test.YtbalocjcbmkecaaGreatDoorRows
import Derived.Test.YtbalocjcbmkecaaGreatDoorW23
import Derived.Test.YtbalocjcbmkecaaGreatDoorXOp
import Derived.Test.YtbalocjcbmkecaaGreatDoorXMap
set_option linter.unusedVariables false
set_option linter.unusedSimpArgs false
namespace Go.Proofs.YtbalocjcbmkecaaGreatDoor
open Go.Lw
theorem co8 : CallOf Tryz.prog 8 := CallOf.mk' Tryz.func8 (by kernel_rfl) (by kernel_rfl)
theorem co11 : CallOf Tryz.prog 11 := CallOf.mk' Tryz.func11 (by kernel_rfl) (by kernel_rfl)
theorem co14 : CallOf Tryz.prog 14 := CallOf.mk' Tryz.func14 (by kernel_rfl) (by kernel_rfl)
theorem co15 : CallOf Tryz.prog 15 := CallOf.mk' Tryz.func15 (by kernel_rfl) (by kernel_rfl)
theorem co22 : CallOf Tryz.prog 22 := CallOf.mk' Tryz.func22 (by kernel_rfl) (by kernel_rfl)
theorem prog10_ok (l : List UInt8) (w0 : World) (hG : Glob w0) (hl : l.length ≤ 1000000) : Rets Tryz.prog 15 #[S l] w0 fun r w' => ∃ A os n e, progS l = (os, n, e) ∧ r = .slice A os.length os.length ∧ Lw.Own encOp 41 w0.heap.size w' r os ∧ Fr [] w0 w' := by
 have hGs := hG.sz
 refine we [(0, S l)] Tryz.func15 rfl Tryz.ntmps15 rfl (.cons rfl .nil) ?_
 have hG0 := hG
 refine sr (asg rfl rfl (nn (sr (mv rfl rfl ?_))))
 refine cl (ev1 rfl) co22 (program_ok _ _ hG hl) rfl ?_
 rintro _ w1 ⟨A, os, n, e, hpe, rfl, hos, q1⟩
 have z1 := q1.size
 have hos0 := hos
 refine mv rfl rfl (xt rfl rfl rfl (xt rfl rfl rfl (xt rfl rfl rfl (asg rfl rfl (asg rfl rfl (asg rfl rfl (kpL [(3, _)] (.cons rfl .nil) (nn (sr (mv rfl rfl (asg rfl rfl ?_)))))))))))
 refine nn (rt (r1 Tryz.results15 rfl ?_))
 exact ⟨_, rfl, A, os, n, e, hpe, rfl, hos, q1⟩
theorem prog10_at {l : List UInt8} {os : List MOp} {n e : Int} (h : progS l = (os, n, e)) (w0 : World) (hG : Glob w0) (hl : l.length ≤ 1000000) : Rets Tryz.prog 15 #[S l] w0 fun r w' => ∃ A, r = .slice A os.length os.length ∧ Lw.Own encOp 41 w0.heap.size w' r os ∧ Fr [] w0 w' := by
  refine Calls.mono (prog10_ok l w0 hG hl) ?_
  rintro e w' ⟨v, he, A, os', n', e', hp, hv, ho, hf⟩
  cases h.symm.trans hp
  exact ⟨v, he, A, hv, ho, hf⟩
theorem passes_at {os : List MOp} {ps : List (Nat × Nat)} (h : passS os = ps) (v : Value) (w0 : World) (hs : Sl encOp w0 v os) : Rets Tryz.prog 8 #[v] w0 fun r w' => ∃ A, r = .slice A ps.length ps.length ∧ Lw.Own encPs 32 w0.heap.size w' r ps ∧ Fr [] w0 w' := by rw [← h]; exact passes_ok v os w0 hs
def psV (p : Int × Int) : Value := .agg #[.int .i64 p.1, .int .i64 p.2]
theorem eqPs : EqOf Tryz.prog 32 psV := by
  intro e f ox oy w
  have hg : ∀ op, (eqGuard op 32 ox oy (psV e) (psV f)).run Tryz.prog w = .ok () w := fun op => run_eqGuard_agg w op 32 ox oy _ _ (by kernel_rfl)
  have h1 : Tryz.prog.stoodInHeld 32 = false := by kernel_rfl
  obtain ⟨k, y⟩ := e
  obtain ⟨k', y'⟩ := f
  refine ⟨hg _, hg _, ?_, ?_⟩
  · unfold psV
    simp [go_sem, h1, Tryz.underlying32]
    (repeat' split) <;> simp_all
  · unfold psV
    simp [go_sem, h1, Tryz.underlying32]
    (repeat' split) <;> simp_all
def laA : List MOp := [⟨1, 0, 0, 0, 1, 0⟩, ⟨4, 1, 0, 1, 1, 0⟩, ⟨4, 1, 0, 3, 1, 0⟩, ⟨6, 1, 0, 5, 1, 0⟩]
theorem lpA : progS [105, 110, 32, 49, 32, 108, 101, 102, 116, 10, 107, 110, 105, 116, 32, 114, 105, 103, 104, 116, 32, 102, 49, 32, 49, 10, 107, 110, 105, 116, 32, 114, 105, 103, 104, 116, 32, 102, 51, 32, 49, 10, 109, 105, 115, 115, 32, 114, 105, 103, 104, 116, 32, 102, 53, 32, 49] = (laA, 0, 0) := by decide +kernel
theorem lsA : passS laA = [(0, 4)] := by decide +kernel
theorem lcA : countS laA = 1 := by decide +kernel
theorem ltA : timeS laA = 6 := by decide +kernel
def laB : List MOp := [⟨4, 1, 0, 2, 1, 0⟩, ⟨4, 1, 0, 2, 1, 0⟩, ⟨4, 0, 0, 2, 1, 0⟩]
theorem lpB : progS [107, 110, 105, 116, 32, 114, 105, 103, 104, 116, 32, 102, 50, 32, 49, 10, 107, 110, 105, 116, 32, 114, 105, 103, 104, 116, 32, 102, 50, 32, 49, 10, 107, 110, 105, 116, 32, 108, 101, 102, 116, 32, 102, 50, 32, 49] = (laB, 0, 0) := by decide +kernel
theorem lsB : passS laB = [(0, 1), (1, 1), (2, 1)] := by decide +kernel
theorem lcB : countS laB = 3 := by decide +kernel
theorem ltB : timeS laB = 6 := by decide +kernel
def laC : List MOp := [⟨7, 0, 0, 1, 0, 0⟩, ⟨7, 0, 0, 4, 0, 0⟩, ⟨7, 0, 1, 2, 0, 0⟩, ⟨3, 0, 0, 0, 0, 2⟩, ⟨3, 0, 0, 0, 0, 1⟩, ⟨8, 0, 0, 1, 0, 0⟩, ⟨2, 0, 0, 0, 1, 0⟩]
theorem lpC : progS [120, 102, 101, 114, 32, 102, 49, 10, 120, 102, 101, 114, 32, 102, 52, 10, 120, 102, 101, 114, 32, 98, 50, 10, 114, 97, 99, 107, 32, 50, 10, 114, 97, 99, 107, 32, 49, 10, 100, 114, 111, 112, 32, 102, 49, 10, 111, 117, 116, 32, 49] = (laC, 0, 0) := by decide +kernel
theorem lsC : passS laC = [(0, 2), (2, 1), (3, 4)] := by decide +kernel
theorem lcC : countS laC = 3 := by decide +kernel
theorem ltC : timeS laC = 15 := by decide +kernel
def laD : List MOp := [⟨4, 1, 1, 1, 1, 0⟩, ⟨4, 1, 0, 1, 1, 0⟩, ⟨3, 0, 0, 0, 0, -1⟩, ⟨4, 1, 1, 3, 1, 0⟩, ⟨1, 0, 0, 0, 2, 0⟩]
theorem lpD : progS [107, 110, 105, 116, 32, 114, 105, 103, 104, 116, 32, 98, 49, 32, 49, 10, 107, 110, 105, 116, 32, 114, 105, 103, 104, 116, 32, 102, 49, 32, 49, 10, 114, 97, 99, 107, 32, 45, 49, 10, 107, 110, 105, 116, 32, 114, 105, 103, 104, 116, 32, 98, 51, 32, 49, 10, 105, 110, 32, 50, 32, 108, 101, 102, 116] = (laD, 0, 0) := by decide +kernel
theorem lsD : passS laD = [(0, 2), (2, 3)] := by decide +kernel
theorem lcD : countS laD = 2 := by decide +kernel
theorem ltD : timeS laD = 6 := by decide +kernel

set_option maxHeartbeats 2000000 in
theorem lives10_ok (w0 : World) (hG : Glob w0) : Rets Tryz.prog 5 #[] w0 fun r w' => r = .bool true ∧ Fr [] w0 w' := by
 have hGs := hG.sz
 refine we [] Tryz.func5 rfl Tryz.ntmps5 rfl .nil ?_
 have hG0 := hG
 refine sr (asg rfl rfl (nn (sr ?_)))
 refine cl (ev1 rfl) co15 (prog10_at lpA _ hG (by decide)) rfl ?_
 rintro _ w1 ⟨A1, rfl, ho1, q1⟩
 have z1 := q1.size
 have ho10 := ho1
 refine asg rfl rfl (nn (sr ?_))
 replace hG := hG0.ext q1
 refine cl (ev1 rfl) co15 (prog10_at lpB _ hG (by decide)) rfl ?_
 rintro _ w2 ⟨A2, rfl, ho2, q2⟩
 have z2 := q2.size
 have ho20 := ho2
 refine asg rfl rfl (nn (sr ?_))
 replace hG := hG0.ext (q1.next q2)
 refine cl (ev1 rfl) co15 (prog10_at lpC _ hG (by decide)) rfl ?_
 rintro _ w3 ⟨A3, rfl, ho3, q3⟩
 have z3 := q3.size
 have ho30 := ho3
 refine asg rfl rfl (nn (sr ?_))
 replace hG := hG0.ext ((q1.next q2).next q3)
 refine cl (ev1 rfl) co15 (prog10_at lpD _ hG (by decide)) rfl ?_
 rintro _ w4 ⟨A4, rfl, ho4, q4⟩
 have z4 := q4.size
 have ho40 := ho4
 refine asg rfl rfl (nn (sr (mv rfl rfl ?_)))
 replace ho3 := ho30.ext q4
 refine cl (ev1 rfl) co8 (passes_at lsC _ _ ho3.sl) rfl ?_
 rintro _ w5 ⟨A5, rfl, ho5, q5⟩
 have z5 := q5.size
 have ho50 := ho5
 refine asg rfl rfl (nn (sq ?_))
 refine rboF (r := 0) (L' := []) (True) .nil ?_ ?_
 · refine mv rfl rfl ?_
   replace ho1 := ho10.ext (((q2.next q3).next q4).next q5)
   refine cl (ev1 rfl) co8 (passes_at lsA _ _ ho1.sl) rfl ?_
   rintro _ w6 ⟨Ap, rfl, hop, q6⟩
   have z6 := q6.size
   refine lnS rfl Tryz.underlying29 rfl (eq' rfl rfl rfl (mv rfl rfl ?_))
   refine gs 16 rfl (fun g0 => ?_) (fun hh => absurd (by rfl) hh)
   refine gY rfl (mv rfl rfl (gY rfl ?_))
   replace ho1 := ho10.ext ((((q2.next q3).next q4).next q5).next q6)
   refine cl (ev1 rfl) co11 (count_ok _ laA _ ho1.sl) rfl ?_
   rintro _ w7 ⟨rfl, q7⟩
   have z7 := q7.size
   refine gY rfl (eq' rfl rfl rfl (pkt rfl rfl rfl rfl (mv rfl rfl ?_)))
   refine gs 21 rfl (fun g1 => ?_) (fun hh => absurd (by exact lcA) hh)
   refine gY rfl (mv rfl rfl (gY rfl ?_))
   replace ho1 := ho10.ext (((((q2.next q3).next q4).next q5).next q6).next q7)
   refine cl (ev1 rfl) co14 (time_ok _ laA _ ho1.sl) rfl ?_
   rintro _ w8 ⟨rfl, q8⟩
   have z8 := q8.size
   refine gY rfl (eq' rfl rfl rfl (pkt rfl rfl rfl rfl (mv rfl rfl ?_)))
   refine gs 26 rfl (fun g2 => ?_) (fun hh => absurd (by exact ltA) hh)
   refine gY rfl (mv rfl rfl (gY rfl ?_))
   replace ho2 := ho20.ext (((((q3.next q4).next q5).next q6).next q7).next q8)
   refine cl (ev1 rfl) co8 (passes_at lsB _ _ ho2.sl) rfl ?_
   rintro _ w9 ⟨Ap, rfl, hop, q9⟩
   have z9 := q9.size
   refine gY rfl (lnS rfl Tryz.underlying29 rfl (gY rfl (eq' rfl rfl rfl (pkt rfl rfl rfl rfl (mv rfl rfl ?_)))))
   refine gs 32 rfl (fun g3 => ?_) (fun hh => absurd (by rfl) hh)
   refine gY rfl (mv rfl rfl (gY rfl ?_))
   replace ho2 := ho20.ext ((((((q3.next q4).next q5).next q6).next q7).next q8).next q9)
   refine cl (ev1 rfl) co11 (count_ok _ laB _ ho2.sl) rfl ?_
   rintro _ w10 ⟨rfl, q10⟩
   have z10 := q10.size
   refine gY rfl (eq' rfl rfl rfl (pkt rfl rfl rfl rfl (mv rfl rfl ?_)))
   refine gs 37 rfl (fun g4 => ?_) (fun hh => absurd (by exact lcB) hh)
   refine gY rfl (mv rfl rfl (gY rfl ?_))
   replace ho2 := ho20.ext (((((((q3.next q4).next q5).next q6).next q7).next q8).next q9).next q10)
   refine cl (ev1 rfl) co14 (time_ok _ laB _ ho2.sl) rfl ?_
   rintro _ w11 ⟨rfl, q11⟩
   have z11 := q11.size
   refine gY rfl (eq' rfl rfl rfl (pkt rfl rfl rfl rfl (mv rfl rfl ?_)))
   refine gs 42 rfl (fun g5 => ?_) (fun hh => absurd (by exact ltB) hh)
   refine gY rfl (mv rfl rfl (gY rfl (lnS rfl Tryz.underlying29 rfl (gY rfl (eq' rfl rfl rfl (pkt rfl rfl rfl rfl (mv rfl rfl ?_)))))))
   refine gs 47 rfl (fun g6 => ?_) (fun hh => absurd (by rfl) hh)
   refine gY rfl (mv rfl rfl (gY rfl ?_))
   replace ho5 := ho50.ext (((((q6.next q7).next q8).next q9).next q10).next q11)
   refine s_idxL (p := 0) ((0, 0)) rfl ho5.sl rfl el29 (by omega) (by omega) rfl rfl (fun ad49 hc49 => ?_)
   refine gY rfl (s_loadA rfl (hc49 _ ho5.sl) ag32 rfl (gY rfl (s_lit (cs := [_, _]) (ev2 rfl rfl) bo32 (pok_cons rfl rfl rfl (pok_cons rfl rfl rfl pok_nil)) rfl rfl (gY rfl (s_eqV (V := psV) (e := (_, _)) (f := (_, _)) rfl rfl eqPs rfl (pkt rfl rfl rfl rfl (mv rfl rfl ?_)))))))
   refine gs 54 rfl (fun g7 => ?_) (fun hh => absurd (by rfl) hh)
   refine gY rfl (mv rfl rfl (gY rfl (s_idxL (p := 1) ((0, 0)) rfl ho5.sl rfl el29 (by omega) (by omega) rfl rfl (fun ad56 hc56 => ?_))))
   refine gY rfl (s_loadA rfl (hc56 _ ho5.sl) ag32 rfl (gY rfl (s_lit (cs := [_, _]) (ev2 rfl rfl) bo32 (pok_cons rfl rfl rfl (pok_cons rfl rfl rfl pok_nil)) rfl rfl (gY rfl (s_eqV (V := psV) (e := (_, _)) (f := (_, _)) rfl rfl eqPs rfl (pkt rfl rfl rfl rfl (mv rfl rfl ?_)))))))
   refine gs 61 rfl (fun g8 => ?_) (fun hh => absurd (by rfl) hh)
   refine gY rfl (mv rfl rfl (gY rfl (s_idxL (p := 2) ((0, 0)) rfl ho5.sl rfl el29 (by omega) (by omega) rfl rfl (fun ad63 hc63 => ?_))))
   refine gY rfl (s_loadA rfl (hc63 _ ho5.sl) ag32 rfl (gY rfl (s_lit (cs := [_, _]) (ev2 rfl rfl) bo32 (pok_cons rfl rfl rfl (pok_cons rfl rfl rfl pok_nil)) rfl rfl (gY rfl (s_eqV (V := psV) (e := (_, _)) (f := (_, _)) rfl rfl eqPs rfl (pkt rfl rfl rfl rfl (mv rfl rfl ?_)))))))
   refine gs 68 rfl (fun g9 => ?_) (fun hh => absurd (by rfl) hh)
   refine gY rfl (mv rfl rfl (gY rfl ?_))
   replace ho3 := ho30.ext (((((((q4.next q5).next q6).next q7).next q8).next q9).next q10).next q11)
   refine cl (ev1 rfl) co11 (count_ok _ laC _ ho3.sl) rfl ?_
   rintro _ w12 ⟨rfl, q12⟩
   have z12 := q12.size
   refine gY rfl (eq' rfl rfl rfl (pkt rfl rfl rfl rfl (mv rfl rfl ?_)))
   refine gs 73 rfl (fun g10 => ?_) (fun hh => absurd (by exact lcC) hh)
   refine gY rfl (mv rfl rfl (gY rfl ?_))
   replace ho3 := ho30.ext ((((((((q4.next q5).next q6).next q7).next q8).next q9).next q10).next q11).next q12)
   refine cl (ev1 rfl) co14 (time_ok _ laC _ ho3.sl) rfl ?_
   rintro _ w13 ⟨rfl, q13⟩
   have z13 := q13.size
   refine gY rfl (eq' rfl rfl rfl (pkt rfl rfl rfl rfl (mv rfl rfl ?_)))
   refine gs 78 rfl (fun g11 => ?_) (fun hh => absurd (by exact ltC) hh)
   refine gY rfl (mv rfl rfl (gY rfl ?_))
   replace ho4 := ho40.ext ((((((((q5.next q6).next q7).next q8).next q9).next q10).next q11).next q12).next q13)
   refine cl (ev1 rfl) co8 (passes_at lsD _ _ ho4.sl) rfl ?_
   rintro _ w14 ⟨Ap, rfl, hop, q14⟩
   have z14 := q14.size
   refine gY rfl (lnS rfl Tryz.underlying29 rfl (gY rfl (eq' rfl rfl rfl (pkt rfl rfl rfl rfl (mv rfl rfl ?_)))))
   refine gs 84 rfl (fun g12 => ?_) (fun hh => absurd (by rfl) hh)
   refine gY rfl (mv rfl rfl (gY rfl ?_))
   replace ho4 := ho40.ext (((((((((q5.next q6).next q7).next q8).next q9).next q10).next q11).next q12).next q13).next q14)
   refine cl (ev1 rfl) co11 (count_ok _ laD _ ho4.sl) rfl ?_
   rintro _ w15 ⟨rfl, q15⟩
   have z15 := q15.size
   refine gY rfl (eq' rfl rfl rfl (pkt rfl rfl rfl rfl (mv rfl rfl ?_)))
   refine gs 89 rfl (fun g13 => ?_) (fun hh => absurd (by exact lcD) hh)
   refine gY rfl (mv rfl rfl (gY rfl ?_))
   replace ho4 := ho40.ext ((((((((((q5.next q6).next q7).next q8).next q9).next q10).next q11).next q12).next q13).next q14).next q15)
   refine cl (ev1 rfl) co14 (time_ok _ laD _ ho4.sl) rfl ?_
   rintro _ w16 ⟨rfl, q16⟩
   have z16 := q16.size
   exact gY rfl (eq' rfl rfl rfl (pkt rfl rfl rfl rfl (asg rfl rfl (rbeF rfl (by simp [ltD]) .nil ((((((((((q6.next q7).next q8).next q9).next q10).next q11).next q12).next q13).next q14).next q15).next q16)))))
 · intro w17 q17; have z17 := q17.size
   refine tn (rt (r1 Tryz.results5 rfl ?_))
   exact ⟨_, rfl, by simp, (((((q1.next q2).next q3).next q4).next q5).next q17)⟩
end Go.Proofs.YtbalocjcbmkecaaGreatDoor
