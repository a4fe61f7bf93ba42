/- Texts of the proof, joined: W40 XOpen Opens -/
import Derived.Test.YtbbnampdgefljaaDoorRows
import Derived.Test.YtbbnampdgefljaaDoorK6
set_option linter.unusedVariables false
set_option linter.unusedSimpArgs false
namespace Go.Proofs.YtbbnampdgefljaaDoor
open Go.Lw Go.G14
theorem bo42 : BuildAt Tryd.prog 42 [(0, 1), (1, 1)] [(.int .u8 0), (.slice none 0 0)] := BuildAt.struct Tryd.underlying42 (fun _ => by kernel_rfl) (fun _ => by kernel_rfl)
theorem co3 : CallOf Tryd.prog 3 := CallOf.mk' Tryd.func3 (by kernel_rfl) (by kernel_rfl)
theorem co4 : CallOf Tryd.prog 4 := CallOf.mk' Tryd.func4 (by kernel_rfl) (by kernel_rfl)
theorem co5 : CallOf Tryd.prog 5 := CallOf.mk' Tryd.func5 (by kernel_rfl) (by kernel_rfl)
theorem co6 : CallOf Tryd.prog 6 := CallOf.mk' Tryd.func6 (by kernel_rfl) (by kernel_rfl)
theorem co7 : CallOf Tryd.prog 7 := CallOf.mk' Tryd.func7 (by kernel_rfl) (by kernel_rfl)
theorem co8 : CallOf Tryd.prog 8 := CallOf.mk' Tryd.func8 (by kernel_rfl) (by kernel_rfl)
theorem sz42 : SizeOf Tryd.prog 42 2 := fun _ => by kernel_rfl
theorem zv42 (w : World) : (zeroValue 42).run Tryd.prog w = .ok (.agg #[(.int .u8 0), (.slice none 0 0)]) w := by kernel_rfl
theorem enc_b {z : Int} (h : 0 ≤ z ∧ z ≤ 255) : Enc.b.enc (UInt8.ofNat z.toNat) = [.int .u8 z] := by
 have e : ((UInt8.ofNat z.toNat).toNat : Int) = z := by
  rw [UInt8.toNat_ofNat']; omega
 show [Value.int .u8 ((UInt8.ofNat z.toNat).toNat : Int)] = _
 rw [e]
theorem wrap_u8 (z : Int) : 0 ≤ IntKind.u8.wrap z ∧ IntKind.u8.wrap z ≤ 255 := by
 rw [show IntKind.u8.wrap z = z % 256 from rfl]; omega
def txK : List (List UInt8) := [[], [91, 107, 93, 120, 50, 32], [91, 91, 91, 107, 93, 120, 50, 93, 120, 50, 93, 120, 50], [91, 91, 91, 107, 93, 120, 50, 93, 120, 50, 93, 120, 53], [91, 107], [107, 93], [91, 93, 120, 50], [91, 107, 93, 50], [91, 107, 93, 120, 49, 55], [91, 107, 32, 112], [91, 107, 93, 120, 50, 91, 112, 93, 120, 50], [91, 91, 107, 93, 120, 50], [107, 32, 91, 112, 93, 120, 51, 32, 99, 49, 49, 70], [120]]
theorem txK_len : ∀ i, i < 14 → (txK.getD i []).length ≤ 100 := by decide
set_option maxHeartbeats 2000000 in
theorem law_known (w0 : World) (hy : Sym w0) (hm : IntAt 1 w0) : Rets Tryd.prog 9 #[] w0 fun r w' => r = .bool true ∧ Fr [] w0 w' := by
 have htx : txK.length = 14 := rfl
 refine we [] Tryd.func9 rfl Tryd.ntmps9 rfl .nil ?_
 have hy0 := hy
 have hm0 := hm
 refine sr (asg rfl rfl (nn (sr (asg rfl rfl (nn (sq (sr (asg rfl rfl (nn (bl ?_))))))))))
 refine lpK (ι := Nat × Int) [] (fun p => [(1, .int .i64 p.2), (2, .int .i64 (p.1 : Int))]) (fun p w' => Fr [] w0 w' ∧ p.1 ≤ 24 ∧ 0 ≤ p.2 ∧ p.2 < 100003) (fun p => 24 - p.1) (0, 1) (.cons rfl (.cons rfl .nil)) ⟨Fr.refl _ _, ⟨by decide, by decide, by decide⟩⟩ ?_
 rintro ⟨n, kk⟩ w1 ⟨q1, ⟨hn, hk0, hk1⟩⟩
 simp only at hn hk0 hk1
 have z1 := q1.size
 refine kpC [(1, .int .i64 kk), (2, .int .i64 (n : Int))] (.cons rfl (.cons rfl .nil)) ?_
 refine sq (sr (mv rfl rfl (lt' rfl rfl rfl (nn ?_))))
 refine cd rfl (fun c0 => ?_) (fun c0 => ?_)
 ·refine sk (tn (sq (bl (sr (asg rfl rfl (nn (sq (sr (asg rfl rfl (nn (bl ?_)))))))))))
  refine lpK (ι := Nat × Int × Value × List Stitch) [(2, _)] (fun p => [(1, .int .i64 p.2.1), (3, p.2.2.1), (4, .int .i64 (p.1 : Int))]) (fun p w' => Fr [] w0 w' ∧ p.1 ≤ 16 ∧ (0 ≤ p.2.1 ∧ p.2.1 < 100003) ∧ p.2.2.2.length ≤ p.1 ∧ (∀ x ∈ p.2.2.2, 0 ≤ x.k ∧ 0 ≤ x.y) ∧ Lw.Own encSt 36 w0.heap.size w' p.2.2.1 p.2.2.2) (fun p => 16 - p.1) (0, kk, .slice none 0 0, []) (.cons rfl (.cons rfl (.cons rfl (.cons rfl .nil)))) ⟨q1, ⟨Nat.zero_le _, ⟨hk0, hk1⟩, Nat.le_refl _, (fun x hx => by cases hx), Own.nil _⟩⟩ ?_
  rintro ⟨i, kk, vR, xs⟩ w2 ⟨q2, ⟨hi, hkk, hxl, hxr, hoR⟩⟩
  simp only at hi hkk hxl hxr hoR
  have z2 := q2.size
  refine kpC [(2, _), (1, .int .i64 kk), (3, vR), (4, .int .i64 (i : Int))] (.cons rfl (.cons rfl (.cons rfl (.cons rfl .nil)))) ?_
  refine sq (sr (mv rfl rfl (mv rfl rfl (s_rem rfl rfl (by omega) (by first | exact IntWalk.rem_in _ _ (by omega) | rfl) rfl (lt' rfl rfl rfl (nn ?_))))))
  refine cd rfl (fun c1 => ?_) (fun c1 => ?_)
  ·have hm0 := Int.emod_nonneg (i : Int) (show 1 + (n : Int) % 5 ≠ 0 by omega)
   have hkn : 0 ≤ kk % 2 * ((n : Int) % 2) ∧ kk % 2 * ((n : Int) % 2) ≤ 1 := by rcases Int.emod_two_eq kk with e | e <;> rw [e] <;> omega
   refine sk (tn (sq (bl (sr (mv rfl rfl (mv rfl rfl (mv rfl rfl (s_rem rfl rfl (by omega) (by first | exact IntWalk.rem_in _ _ (by omega) | rfl) rfl (s_add rfl rfl (wi6 (by omega)) rfl (s_rem rfl rfl (by omega) (by first | exact IntWalk.rem_in _ _ (by omega) | rfl) rfl (s_rem rfl rfl (by omega) (by first | exact IntWalk.rem_in _ _ (by omega) | rfl) rfl ?_)))))))))))
   refine s_add rfl rfl (wi6 (by omega)) rfl (s_conv rfl (us Tryd.underlying3) Tryd.underlying34 (wi8 (by omega)) rfl (mv rfl rfl (s_rem rfl rfl (by omega) (by first | exact IntWalk.rem_in _ _ (by omega) | rfl) rfl (mv rfl rfl (s_rem rfl rfl (by omega) (by first | exact IntWalk.rem_in _ _ (by omega) | rfl) rfl (s_mul rfl rfl (wi6 (by omega)) rfl (s_add rfl rfl (wi6 (by omega)) rfl (s_conv rfl (us Tryd.underlying3) Tryd.underlying5 (wi8 (by omega)) rfl (s_lit (cs := [_, _, _, _, _]) (ev2 rfl rfl) bo36 (pok_cons rfl rfl rfl (pok_cons rfl rfl rfl pok_nil)) rfl rfl (s_bslice ([(⟨(1 + (i : Int) % (1 + (n : Int) % 5) % 3), (1 + kk % 2 * ((n : Int) % 2)), 0, 0, false⟩ : Stitch)]) (ev1 rfl) rfl rfl rfl el22 (Nat.le_of_ble_eq_true rfl) rfl (fun g35 w3 hg35 ho35 q3 z3 => ?_)))))))))))
   replace hoR := hoR.ext q3
   have hoo36 := hoR
   refine s_append rfl rfl hoR ho35.sl el22 (by unfold maxLen; simp only [List.length_cons, List.length_nil]; omega) (by simp only [List.length_cons, List.length_nil]; omega) (by omega) rfl (fun v36 w4 hoR q4 hor36 => ?_)
   have z4 := q4.size
   refine asg rfl rfl (kpL [(1, _), (2, _), (3, _), (4, _)] (.cons rfl (.cons rfl (.cons rfl (.cons rfl .nil)))) (nn (rg (mv rfl rfl (s_mul rfl rfl (wi6 (by omega)) rfl (mv rfl rfl (s_mul rfl rfl (wi6 (by omega)) rfl (s_add rfl rfl (wi6 (by omega)) rfl (s_add rfl rfl (wi6 (by omega)) rfl (s_rem rfl rfl (by omega) (by first | exact IntWalk.rem_in _ _ (by omega) | rfl) rfl (asg rfl rfl ?_)))))))))))
   refine kpL [(1, _), (2, _), (3, _), (4, _)] (.cons rfl (.cons rfl (.cons rfl (.cons rfl .nil)))) (nl (bn' (tn (rg (mv rfl rfl (s_add rfl rfl (wi6 (by omega)) rfl (asg rfl rfl (nl ?_))))))))
   exact lpE ((i + 1, (kk * 31 + 7 * (i : Int) + 11) % 100003, v36, xs ++ [(⟨(1 + (i : Int) % (1 + (n : Int) % 5) % 3), (1 + kk % 2 * ((n : Int) % 2)), 0, 0, false⟩ : Stitch)])) (.cons rfl (.cons rfl (.cons rfl (.cons rfl .nil)))) ⟨((q2.next q3).step q4 (fun k hk hlt => absurd (hoo36.blk k hk).1 (by omega))), ⟨by simp only; omega, by simp only; omega, by simp only [List.length_append, List.length_singleton]; omega, fun x hx => (List.mem_append.1 hx).elim (hxr x) (fun e => by obtain rfl := List.mem_singleton.1 e; simp only; omega), hoR⟩⟩ (by simp only; omega)
  ·refine ex (te (te (xh (tn (sr (mv rfl rfl (s_conv rfl (us Tryd.underlying3) Tryd.underlying5 (wi8 (by omega)) rfl (mv rfl rfl (s_conv rfl (us Tryd.underlying3) Tryd.underlying5 rfl rfl (mv rfl rfl (s_quo rfl rfl (by omega) (by first | exact IntWalk.i64_quo _ _ (by omega) | rfl) rfl ?_)))))))))))
   refine s_conv rfl (us Tryd.underlying3) Tryd.underlying5 rfl rfl (mv rfl rfl (s_conv rfl (us Tryd.underlying3) Tryd.underlying5 (wi8 (by omega)) rfl (mv rfl rfl (s_conv rfl (us Tryd.underlying3) Tryd.underlying5 (wi8 (by omega)) rfl (s_bslice ([UInt8.ofNat (IntKind.u8.wrap (kk)).toNat, UInt8.ofNat (IntKind.u8.wrap (kk / 3)).toNat, UInt8.ofNat ((n : Int)).toNat, UInt8.ofNat ((n : Int)).toNat]) (ev4 rfl rfl rfl rfl) rfl (by simp only [List.map_cons, List.map_nil, enc_b (wrap_u8 _), enc_b (show 0 ≤ (n : Int) ∧ (n : Int) ≤ 255 by omega)]; rfl) rfl el58 (Nat.le_of_ble_eq_true rfl) rfl (fun g55 w5 hg55 ho55 q5 z5 => ?_))))))
   refine s_bslice ([(some ⟨g55, 0, none⟩, 4, 4)]) (ev1 rfl) rfl rfl rfl el40 (Nat.le_of_ble_eq_true rfl) rfl (fun g56 w6 hg56 ho56 q6 z6 => ?_)
   refine s_lit (cs := [_, _]) (ev2 rfl rfl) bo42 (pok_cons rfl rfl rfl (pok_cons rfl rfl rfl pok_nil)) rfl rfl (al zv42 rfl rfl (fun g5 w7 hg5 hb5 q7 z7 => ?_))
   refine s_storeBA rfl rfl hb5 rfl (by first | (simp [Value.oneCell', S]; done) | exact Enc.one _ _) sz42 (fun w8 hb5 q8 z8 => ?_)
   refine kpL [(1, _), (2, _), (3, _), (5, _)] (.cons rfl (.cons rfl (.cons rfl (.cons rfl .nil)))) (nn (sq ?_))
   refine rboF (r := 71) (L' := [(1, _), (2, _)]) (False) (.cons rfl (.cons rfl .nil)) ?_ ?_
   ·refine mv rfl rfl ?_
    replace hoR := (hoR.ext ((q5.next q6).next q7)).fr q8 (by first | (simp; done) | (simp; omega) | (simp [blks]; done) | (simp [blks]; omega) | (intro k hk hb; simp at hk; subst hk; have := (hoR.blk _ hb).2; omega))
    replace hy := hy0.ext ((((q2.next q5).next q6).next q7).step q8 (by first | (simp; done) | (simp; omega)))
    refine cl (ev1 rfl) co4 (law_shorten _ xs _ hoR.sl hxr hy) rfl ?_
    rintro _ w9 ⟨rfl, q9⟩
    have z9 := q9.size
    refine nt' rfl rfl (mv rfl rfl ?_)
    refine gs 61 rfl (fun hh => absurd hh (by simp)) (fun g0 => ?_)
    refine gY rfl ?_
    replace hb5 := hb5.ext q9
    refine s_loadBA rfl hb5 ag42 rfl (gY rfl ?_)
    replace ho56 := ((ho56.ext q7).fr q8 (by first | (simp; done) | (simp; omega) | (simp [blks]; done) | (simp [blks]; omega) | (intro k hk hb; simp at hk; subst hk; have := (ho56.blk _ hb).2; omega))).ext q9
    replace ho55 := ((ho55.ext (q6.next q7)).fr q8 (by first | (simp; done) | (simp; omega) | (simp [blks]; done) | (simp [blks]; omega) | (intro k hk hb; simp at hk; subst hk; have := (ho55.blk _ hb).2; omega))).ext q9
    replace hy := hy0.ext (((((q2.next q5).next q6).next q7).step q8 (by first | (simp; done) | (simp; omega))).next q9)
    refine cl (ev1 rfl) co6 (law_twice _ _ _ (by omega) ⟨_, ho56.sl, fun p hp => ⟨_, by obtain rfl := List.mem_singleton.1 hp; exact ho55.sl⟩⟩ hy) rfl ?_
    rintro _ w10 ⟨rfl, q10⟩
    have z10 := q10.size
    refine gY rfl (nt' rfl rfl (pkf rfl rfl rfl rfl (mv rfl rfl ?_)))
    refine gs 66 rfl (fun hh => absurd hh (by simp)) (fun g1 => ?_)
    refine gY rfl ?_
    replace hb5 := hb5.ext q10
    refine s_loadBA rfl hb5 ag42 rfl (gY rfl ?_)
    replace ho56 := ho56.ext q10
    replace ho55 := ho55.ext q10
    refine cl (ev1 rfl) co18 (cof_ok _ _ _ (by omega) ⟨_, ho56.sl, fun p hp => ⟨_, by obtain rfl := List.mem_singleton.1 hp; exact ho55.sl⟩⟩) rfl ?_
    rintro _ w11 ⟨X, rows, rfl, hX, hne, hgr, q11⟩
    have z11 := q11.size
    refine gY rfl ?_
    replace hy := hy0.ext (((((((q2.next q5).next q6).next q7).step q8 (by first | (simp; done) | (simp; omega))).next q9).next q10).next q11)
    replace hm := hm0.ext (((((((q2.next q5).next q6).next q7).step q8 (by first | (simp; done) | (simp; omega))).next q9).next q10).next q11)
    refine cl (ev1 rfl) co8 (law_chart X rows _ hX (fun r hr x hx => okB_pos (List.all_eq_true.1 (hgr r hr).2.1 x hx)) hy hm) rfl ?_
    rintro _ w12 ⟨rfl, q12⟩
    have z12 := q12.size
    exact gY rfl (nt' rfl rfl (pkf rfl rfl rfl rfl (rbeF rfl (by first | rfl | (simp; done)) (.cons rfl (.cons rfl .nil)) (((q9.next q10).next q11).next q12))))
   ·intro w13 q13; have z13 := q13.size
    refine tn ?_
    refine cd rfl (fun c2 => ?_) (fun c2 => ?_)
    ·exact c2.elim
    ·refine sk (bn' (tn (rg (mv rfl rfl (s_add rfl rfl (wi6 (by omega)) rfl (asg rfl rfl (nl ?_)))))))
     exact lpE ((n + 1, kk)) (.cons rfl (.cons rfl .nil)) ⟨(((((q2.next q5).next q6).next q7).step q8 (by first | (simp; done) | (simp; omega))).next q13), ⟨by simp only; omega, hkk.1, hkk.2⟩⟩ (by simp only; omega)
 ·refine ex (te (te (xh (tn (sr (s_bslice (txK) (evs_cons rfl (evs_cons rfl (evs_cons rfl (evs_cons rfl (evs_cons rfl (evs_cons rfl (evs_cons rfl (evs_cons rfl (evs_cons rfl (evs_cons rfl (evs_cons rfl (evs_cons rfl (evs_cons rfl (evs_cons rfl evs_nil)))))))))))))) rfl rfl rfl el48 (Nat.le_of_ble_eq_true rfl) rfl (fun g72 w14 hg72 ho72 q14 z14 => ?_)))))))
  refine asg rfl rfl (nn (sq (sr (asg rfl rfl (nn (bl ?_))))))
  refine lpK (ι := Nat) [(6, _)] (fun i => [(7, .int .i64 (i : Int))]) (fun i w' => Fr [] w14 w' ∧ i ≤ 14) (fun i => 14 - i) 0 (.cons rfl (.cons rfl .nil)) ⟨Fr.refl _ _, by decide⟩ ?_
  rintro i w15 ⟨q15, hi⟩
  have z15 := q15.size
  refine kpC [(6, _), (7, _)] (.cons rfl (.cons rfl .nil)) ?_
  refine sq (sr (mv rfl rfl (mv rfl rfl (lnS rfl Tryd.underlying48 rfl (lt' rfl rfl rfl (nn ?_))))))
  refine cd rfl (fun c3 => ?_) (fun c3 => ?_)
  ·have htl := txK_len i (by omega)
   refine sk (tn (sq (bl (sq ?_))))
   refine rboF (r := 92) (L' := [(6, _), (7, _)]) (False) (.cons rfl (.cons rfl .nil)) ?_ ?_
   ·refine mv rfl rfl (mv rfl rfl ?_)
    replace ho72 := ho72.ext q15
    refine s_idxL (p := i) ([]) rfl ho72.sl rfl el48 (by omega) (by omega) (by omega) rfl (fun ad81 hc81 => ?_)
    refine s_loadC0 rfl (hc81 _ ho72.sl) na9 rfl ?_
    replace hy := hy0.ext ((q1.next q14).next q15)
    refine cl (ev1 rfl) co3 (law_expand (txK.getD i []) _ hy (by omega)) rfl ?_
    rintro _ w16 ⟨rfl, q16⟩
    have z16 := q16.size
    refine nt' rfl rfl (mv rfl rfl ?_)
    refine gs 85 rfl (fun hh => absurd hh (by simp)) (fun g2 => ?_)
    refine gY rfl (mv rfl rfl (gY rfl (mv rfl rfl (gY rfl ?_))))
    replace ho72 := ho72.ext q16
    refine s_idxL (p := i) ([]) rfl ho72.sl rfl el48 (by omega) (by omega) (by omega) rfl (fun ad88 hc88 => ?_)
    refine gY rfl (s_loadC0 rfl (hc88 _ ho72.sl) na9 rfl (gY rfl ?_))
    replace hy := hy0.ext (((q1.next q14).next q15).next q16)
    refine cl (ev1 rfl) co5 (law_least (txK.getD i []) _ hy (by omega)) rfl ?_
    rintro _ w17 ⟨rfl, q17⟩
    have z17 := q17.size
    exact gY rfl (nt' rfl rfl (pkf rfl rfl rfl rfl (rbeF rfl (by first | rfl | (simp; done)) (.cons rfl (.cons rfl .nil)) (q16.next q17))))
   ·intro w18 q18; have z18 := q18.size
    refine tn ?_
    refine cd rfl (fun c4 => ?_) (fun c4 => ?_)
    ·exact c4.elim
    ·refine sk (bn' (tn (rg (mv rfl rfl (s_add rfl rfl (wi6 (by omega)) rfl (asg rfl rfl (nl ?_)))))))
     exact lpE (i + 1) (.cons rfl (.cons rfl .nil)) ⟨(q15.next q18), by omega⟩ (by omega)
  ·refine ex (te (te (xh (tn (sq ?_)))))
   refine rboF (r := 0) (L' := []) (True) .nil ?_ ?_
   ·refine s_bslice (([[91, 107, 93, 120, 51, 32, 42, 51], [107, 32, 107, 32, 107], [91, 107, 93, 120, 50, 32, 107]] : List (List UInt8))) (ev3 rfl rfl rfl) rfl rfl rfl el48 (Nat.le_of_ble_eq_true rfl) rfl (fun g93 w19 hg93 ho93 q19 z19 => ?_)
    replace hy := hy0.ext (((q1.next q14).next q15).next q19)
    replace hm := hm0.ext (((q1.next q14).next q15).next q19)
    refine cl (ev2 rfl rfl) co7 (law_read _ _ false _ ho93.sl hy hm) rfl ?_
    rintro _ w20 ⟨rfl, q20⟩
    have z20 := q20.size
    refine mv rfl rfl ?_
    refine gs 95 rfl (fun g3 => ?_) (fun hh => absurd (by rfl) hh)
    refine gY rfl (s_bslice (([[107, 32, 42, 51, 49]] : List (List UInt8))) (ev1 rfl) rfl rfl rfl el48 (Nat.le_of_ble_eq_true rfl) rfl (fun g96 w21 hg96 ho96 q21 z21 => ?_))
    refine gY rfl ?_
    replace hy := hy0.ext (((((q1.next q14).next q15).next q19).next q20).next q21)
    replace hm := hm0.ext (((((q1.next q14).next q15).next q19).next q20).next q21)
    refine cl (ev2 rfl rfl) co7 (law_read _ _ false _ ho96.sl hy hm) rfl ?_
    rintro _ w22 ⟨rfl, q22⟩
    have z22 := q22.size
    refine pkt rfl rfl rfl rfl (mv rfl rfl ?_)
    refine gs 99 rfl (fun g4 => ?_) (fun hh => absurd (by rfl) hh)
    refine gY rfl (s_bslice (([[107, 32, 42, 51, 49], [107, 32, 42, 51, 49]] : List (List UInt8))) (ev2 rfl rfl) rfl rfl rfl el48 (Nat.le_of_ble_eq_true rfl) rfl (fun g100 w23 hg100 ho100 q23 z23 => ?_))
    refine gY rfl ?_
    replace hy := hy0.ext (((((((q1.next q14).next q15).next q19).next q20).next q21).next q22).next q23)
    replace hm := hm0.ext (((((((q1.next q14).next q15).next q19).next q20).next q21).next q22).next q23)
    refine cl (ev2 rfl rfl) co7 (law_read _ _ false _ ho100.sl hy hm) rfl ?_
    rintro _ w24 ⟨rfl, q24⟩
    have z24 := q24.size
    refine pkt rfl rfl rfl rfl (mv rfl rfl ?_)
    refine gs 103 rfl (fun g5 => ?_) (fun hh => absurd (by rfl) hh)
    refine gY rfl (s_bslice (([[107, 32, 42, 49]] : List (List UInt8))) (ev1 rfl) rfl rfl rfl el48 (Nat.le_of_ble_eq_true rfl) rfl (fun g104 w25 hg104 ho104 q25 z25 => ?_))
    refine gY rfl ?_
    replace hy := hy0.ext (((((((((q1.next q14).next q15).next q19).next q20).next q21).next q22).next q23).next q24).next q25)
    replace hm := hm0.ext (((((((((q1.next q14).next q15).next q19).next q20).next q21).next q22).next q23).next q24).next q25)
    refine cl (ev2 rfl rfl) co7 (law_read _ _ false _ ho104.sl hy hm) rfl ?_
    rintro _ w26 ⟨rfl, q26⟩
    have z26 := q26.size
    refine pkt rfl rfl rfl rfl (mv rfl rfl ?_)
    refine gs 107 rfl (fun g6 => ?_) (fun hh => absurd (by rfl) hh)
    refine gY rfl (s_bslice (([[107, 32, 42], [107]] : List (List UInt8))) (ev2 rfl rfl) rfl rfl rfl el48 (Nat.le_of_ble_eq_true rfl) rfl (fun g108 w27 hg108 ho108 q27 z27 => ?_))
    refine gY rfl ?_
    replace hy := hy0.ext (((((((((((q1.next q14).next q15).next q19).next q20).next q21).next q22).next q23).next q24).next q25).next q26).next q27)
    replace hm := hm0.ext (((((((((((q1.next q14).next q15).next q19).next q20).next q21).next q22).next q23).next q24).next q25).next q26).next q27)
    refine cl (ev2 rfl rfl) co7 (law_read _ _ false _ ho108.sl hy hm) rfl ?_
    rintro _ w28 ⟨rfl, q28⟩
    have z28 := q28.size
    refine pkt rfl rfl rfl rfl (mv rfl rfl ?_)
    refine gs 111 rfl (fun g7 => ?_) (fun hh => absurd (by rfl) hh)
    refine gY rfl (s_bslice (([[107]] : List (List UInt8))) (ev1 rfl) rfl rfl rfl el48 (Nat.le_of_ble_eq_true rfl) rfl (fun g112 w29 hg112 ho112 q29 z29 => ?_))
    refine gY rfl ?_
    replace hy := hy0.ext (((((((((((((q1.next q14).next q15).next q19).next q20).next q21).next q22).next q23).next q24).next q25).next q26).next q27).next q28).next q29)
    replace hm := hm0.ext (((((((((((((q1.next q14).next q15).next q19).next q20).next q21).next q22).next q23).next q24).next q25).next q26).next q27).next q28).next q29)
    refine cl (ev2 rfl rfl) co7 (law_read _ _ true _ ho112.sl hy hm) rfl ?_
    rintro _ w30 ⟨rfl, q30⟩
    have z30 := q30.size
    refine pkt rfl rfl rfl rfl (mv rfl rfl ?_)
    refine gs 115 rfl (fun g8 => ?_) (fun hh => absurd (by rfl) hh)
    refine gY rfl ?_
    replace hy := hy0.ext ((((((((((((((q1.next q14).next q15).next q19).next q20).next q21).next q22).next q23).next q24).next q25).next q26).next q27).next q28).next q29).next q30)
    refine cl evs_nil co12 (lives_ok _ hy) rfl ?_
    rintro _ w31 ⟨rfl, q31⟩
    have z31 := q31.size
    exact pkt rfl rfl rfl rfl (asg rfl rfl (rbeF rfl (by first | rfl | (simp; done)) .nil ((((((((((((q19.next q20).next q21).next q22).next q23).next q24).next q25).next q26).next q27).next q28).next q29).next q30).next q31)))
   ·intro w32 q32; have z32 := q32.size
    refine tn (rt (r1 Tryd.results9 rfl ?_))
    exact ⟨_, rfl, rfl, (((q1.next q14).next q15).next q32)⟩
end Go.Proofs.YtbbnampdgefljaaDoor
namespace Go.Lw
open Go.ChangeShapes Go.WideShapes Go.ChangeAt Go.RowKit

def Enc.int (k : IntKind) : Enc Int := ⟨fun n => [.int k n], 1, fun _ => rfl, fun _ u h => by simp at h; subst h; rfl, by decide⟩
def Enc.bool : Enc Bool := ⟨fun n => [.bool n], 1, fun _ => rfl, fun _ u h => by simp at h; subst h; rfl, by decide⟩
section
variable {P : Program} {t e : TypeId}
end
end Go.Lw
namespace Go.Proofs.YtbbnampdgefljaaDoor
open Go.Lw Go.G14
end Go.Proofs.YtbbnampdgefljaaDoor
