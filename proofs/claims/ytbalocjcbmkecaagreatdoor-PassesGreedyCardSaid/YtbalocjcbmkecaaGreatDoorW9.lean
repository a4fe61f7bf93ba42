/- Walks. -/
import Derived.Test.YtbalocjcbmkecaaGreatDoorRows
import Derived.Test.YtbalocjcbmkecaaGreatDoorW8
import Derived.Test.YtbalocjcbmkecaaGreatDoorXOp
import Derived.Test.YtbalocjcbmkecaaGreatDoorXMap
import Derived.Test.YtbalocjcbmkecaaGreatDoorXCopy
set_option linter.unusedVariables false
set_option linter.unusedSimpArgs false
namespace Go.Proofs.YtbalocjcbmkecaaGreatDoor
open Go.Lw
theorem co29 : CallOf Tryz.prog 29 := CallOf.mk' Tryz.func29 (by kernel_rfl) (by kernel_rfl)
theorem co30 : CallOf Tryz.prog 30 := CallOf.mk' Tryz.func30 (by kernel_rfl) (by kernel_rfl)
theorem co31 : CallOf Tryz.prog 31 := CallOf.mk' Tryz.func31 (by kernel_rfl) (by kernel_rfl)
theorem el25 : ElemOf Tryz.prog 25 41 encOp 40 := ElemOf.mk' (z := (.agg #[.int .u8 0, .int .u8 0, .int .u8 0, .int .i64 0, .int .u8 0, .int .i64 0])) Tryz.underlying25 (by kernel_rfl) rfl
theorem program_ok (l : List UInt8) (w0 : World) (hG : Glob w0) (hl : l.length ≤ 1000000) : Rets Tryz.prog 22 #[S l] w0 fun r w' => ∃ A os n e, progS l = (os, n, e) ∧ r = .tuple #[.slice A os.length os.length, .int .i64 n, .int .i64 e] ∧ Lw.Own encOp 41 w0.heap.size w' (.slice A os.length os.length) os ∧ Fr [] w0 w' := by
 have hsl := fun i => split_len l [10] i
 have hGs := hG.sz
 refine we [(0, S l)] Tryz.func22 rfl Tryz.ntmps22 rfl (.cons rfl .nil) ?_
 refine sr (asg rfl rfl (asg rfl rfl (asg rfl rfl (nn (sr (asg rfl rfl (nn (sq (sr (mv rfl rfl ?_))))))))))
 refine cl (ev2 rfl rfl) co28 (split_ok _ _ _ hG (by omega) (by decide)) rfl ?_
 rintro v12 w1 ⟨ho12, q1⟩
 have z1 := q1.size
 obtain ⟨A12, c12, rfl, hc12⟩ := ho12.sl.form
 have hLb := fun k hk => (ho12.blk k hk).2
 have hnl := ho12.sl.len_le
 unfold maxLen at hnl
 refine lnS rfl Tryz.underlying66 rfl (mv rfl rfl (nn (bl ?_)))
 refine lpK (ι := Nat × List MOp × Option Addr × Nat) [(12, _), (13, _)] (fun p => [(5, .slice p.2.2.1 p.2.1.length p.2.2.2), (14, .int .i64 (p.1 : Int))]) (fun p w' => Fr [] w1 w' ∧ p.1 ≤ (Lib.split l [10]).length ∧ Lw.Own encOp 41 w1.heap.size w' (.slice p.2.2.1 p.2.1.length p.2.2.2) p.2.1 ∧ progF ((Lib.split l [10]).drop p.1) p.1 p.2.1 = progS l ∧ p.2.1.length ≤ 4096) (fun p => (Lib.split l [10]).length - p.1) (0, [], none, 0) (.cons rfl (.cons rfl (.cons rfl (.cons rfl .nil)))) ⟨Fr.refl _ _, ⟨Nat.zero_le _, Own.nil _, rfl, by decide⟩⟩ ?_
 rintro ⟨i, acc, A5, c5⟩ w2 ⟨q2, ⟨hi, ho5, hpr, hal⟩⟩
 simp only at hi ho5 hpr hal
 have z2 := q2.size
 refine kpC [(12, _), (13, _), (5, .slice A5 acc.length c5), (14, .int .i64 (i : Int))] (.cons rfl (.cons rfl (.cons rfl (.cons rfl .nil)))) ?_
 refine sr (lt' rfl rfl rfl (nn (sq ?_)))
 refine cd rfl (fun c0 => ?_) (fun c0 => ?_)
 · rw [drop_getD (Lib.split l [10]) i [] (by omega), progF] at hpr
   have hdx := hsl i
   refine sk (tn (sq (bl (sr (mv rfl rfl ?_)))))
   replace ho12 := ho12.ext q2
   refine s_idxL (p := i) ([]) rfl ho12.sl rfl el66 (by omega) (by omega) (by omega) rfl (fun ad17 hc17 => ?_)
   refine s_loadC0 rfl (hc17 _ ho12.sl) na9 rfl (asg rfl rfl (asg rfl rfl (nn (sr (mv rfl rfl ?_)))))
   replace hG := hG.ext (q1.next q2)
   refine cl (ev2 rfl rfl) co29 (scut_ok _ _ _ hG (by have := hsl i; omega)) rfl ?_
   rintro _ w3 ⟨rfl, q3⟩
   have z3 := q3.size
   refine mv rfl rfl (xt rfl rfl rfl (xt rfl rfl rfl (xt rfl rfl rfl (asg rfl rfl (kpL [(5, _), (6, _), (7, _), (12, _), (13, _), (14, _)] (.cons rfl (.cons rfl (.cons rfl (.cons rfl (.cons rfl (.cons rfl .nil)))))) (nn (sr (mv rfl rfl ?_))))))))
   refine cl (ev2 rfl rfl) co30 (trim_ok _ _ (by have := hsl i; have := cut_len ((Lib.split l [10]).getD i []) [35]; omega)) rfl ?_
   rintro _ w4 ⟨rfl, q4⟩
   have z4 := q4.size
   refine asg rfl rfl (nn (sq (sr (mv rfl rfl (s_eqs rfl rfl rfl (nn ?_))))))
   refine cd rfl (fun c1 => ?_) (fun c1 => ?_)
   · rw [if_pos (show lineS ((Lib.split l [10]).getD i []) = [] from c1)] at hpr
     refine ex (te (xh (tn (rg (s_add rfl rfl (wi6 (by omega)) rfl (mv rfl rfl (nl ?_)))))))
     replace ho5 := ho5.ext (q3.next q4)
     exact lpE ((i + 1, acc, A5, c5)) (.cons rfl (.cons rfl (.cons rfl (.cons rfl .nil)))) ⟨((q2.next q3).next q4), ⟨by omega, ho5, by simpa using hpr, hal⟩⟩ (by omega)
   · rw [if_neg (show ¬ lineS ((Lib.split l [10]).getD i []) = [] from c1)] at hpr
     refine sk (tn (sr (mv rfl rfl ?_)))
     replace hG := hG.ext (q3.next q4)
     refine cl (ev1 rfl) co31 (parse_ok _ _ hG (by have := hsl i; have := line_len ((Lib.split l [10]).getD i []); unfold lineS at this; omega)) rfl ?_
     rintro _ w5 ⟨o, e, hpe, rfl, q5⟩
     have z5 := q5.size
     rw [show parseS (lineS ((Lib.split l [10]).getD i [])) = (o, e) from hpe] at hpr
     simp only at hpr
     refine mv rfl rfl (xt rfl rfl rfl (xt rfl rfl rfl (al zv41 rfl rfl (fun g8 w6 hg8 hb8 q6 z6 => ?_))))
     refine s_storeBA rfl rfl hb8 rfl (by first | (simp [Value.oneCell', S]; done) | exact Enc.one _ _) sz41 (fun w7 hb8 q7 z7 => ?_)
     refine asg rfl rfl (kpL [(5, _), (6, _), (8, _), (9, _), (12, _), (13, _), (14, _)] (.cons rfl (.cons rfl (.cons rfl (.cons rfl (.cons rfl (.cons rfl (.cons rfl .nil))))))) (nn (sq (sr (mv rfl rfl (ne' rfl rfl rfl (nn ?_)))))))
     refine cd rfl (fun c2 => ?_) (fun c2 => ?_)
     · rw [if_pos c2] at hpr
       refine sr (mv rfl rfl (s_add rfl rfl (wi6 (by omega)) rfl (mv rfl rfl (asg rfl rfl (asg rfl rfl (asg rfl rfl (kpL [(2, _), (3, _), (4, _)] (.cons rfl (.cons rfl (.cons rfl .nil))) (nn (rt (tr (rb ?_)))))))))))
       refine tr (tr (rb (tr (r3 Tryz.results22 rfl rfl rfl ?_))))
       exact ⟨_, rfl, none, [], _, _, hpr.symm, rfl, Own.nil _, ((((((q1.next q2).next q3).next q4).next q5).next q6).step q7 (by first | (simp; done) | (simp; omega)))⟩
     · rw [if_neg c2] at hpr
       refine sk (tn (sq (sr (mv rfl rfl (lnS rfl Tryz.underlying25 rfl (eq' rfl rfl rfl (nn ?_)))))))
       refine cd rfl (fun c3 => ?_) (fun c3 => ?_)
       · rw [if_pos c3] at hpr
         refine sr (mv rfl rfl (s_add rfl rfl (wi6 (by omega)) rfl (asg rfl rfl (asg rfl rfl (asg rfl rfl (kpL [(2, _), (3, _), (4, _)] (.cons rfl (.cons rfl (.cons rfl .nil))) (nn (rt (tr (rb (tr ?_)))))))))))
         refine tr (rb (tr (r3 Tryz.results22 rfl rfl rfl ?_)))
         exact ⟨_, rfl, none, [], _, _, hpr.symm, rfl, Own.nil _, ((((((q1.next q2).next q3).next q4).next q5).next q6).step q7 (by first | (simp; done) | (simp; omega)))⟩
       · rw [if_neg c3] at hpr
         refine sk (tn (rg (mv rfl rfl (s_loadBA rfl hb8 ag41 rfl (s_bslice ([o]) (ev1 rfl) rfl rfl rfl el25 (Nat.le_of_ble_eq_true rfl) rfl (fun g46 w8 hg46 ho46 q8 z8 => ?_))))))
         replace hG := ((hG.ext (q5.next q6)).fr q7 (by first | (simp; done) | (simp; omega) | (simp [blks]; done) | (simp [blks]; omega) | (intro k hk hb; simp at hk; subst hk; have := (hG.blk _ hb).2; omega))).ext q8
         replace ho12 := ((ho12.ext (((q3.next q4).next q5).next q6)).fr q7 (by first | (simp; done) | (simp; omega) | (simp [blks]; done) | (simp [blks]; omega) | (intro k hk hb; simp at hk; subst hk; have := (ho12.blk _ hb).2; omega))).ext q8
         replace ho5 := ((ho5.ext (((q3.next q4).next q5).next q6)).fr q7 (by first | (simp; done) | (simp; omega) | (simp [blks]; done) | (simp [blks]; omega) | (intro k hk hb; simp at hk; subst hk; have := (ho5.blk _ hb).2; omega))).ext q8
         have hoo47 := ho5
         refine s_append rfl rfl ho5 ho46.sl el25 (by unfold maxLen; simp; omega) (by simp; omega) (by omega) rfl (fun v47 w9 ho5 q9 hor47 => ?_)
         have z9 := q9.size
         replace hG := hG.fr q9 (fun k hk => by have := (hoo47.blk k hk).1; omega)
         replace ho12 := ho12.fr q9 (fun k hk hb => by have := (hoo47.blk k hk).1; have := hLb k hb; omega)
         obtain ⟨A7, c7, rfl, hc7⟩ := ho5.sl.form
         refine asg rfl rfl (kpL [(5, _), (12, _), (13, _), (14, _)] (.cons rfl (.cons rfl (.cons rfl (.cons rfl .nil)))) (nl (bn' (tn (rg (s_add rfl rfl (wi6 (by omega)) rfl (mv rfl rfl (nl ?_))))))))
         exact lpE ((i + 1, acc ++ [o], A7, c7)) (.cons rfl (.cons rfl (.cons rfl (.cons rfl .nil)))) ⟨(((((((q2.next q3).next q4).next q5).next q6).step q7 (by first | (simp; done) | (simp; omega))).next q8).step q9 (fun k hk hlt => absurd (hoo47.blk k hk).1 (by omega))), ⟨by omega, ho5, by simpa using hpr, by simp; omega⟩⟩ (by omega)
 · obtain rfl : i = (Lib.split l [10]).length := by omega
   rw [List.drop_length, progF] at hpr
   refine ex (te (te (xh (tn (sr (mv rfl rfl (lnS rfl Tryz.underlying25 rfl ?_)))))))
   refine s_makeSlice (m := acc.length) (c := acc.length) op0 rfl rfl el25 zv41 rfl (Nat.le_refl _) (by omega) (by unfold maxLen; omega) rfl (fun g51 w10 hg51 ho10 q10 z10 => ?_)
   refine asg rfl rfl (kpL [(5, _), (10, _)] (.cons rfl (.cons rfl .nil)) (nn (sr (mv rfl rfl (mv rfl rfl ?_)))))
   replace ho5 := ho5.ext q10
   refine s_copy (zs := List.replicate acc.length op0) (by rw [List.length_replicate]; rfl) rfl (by rw [List.length_replicate]; exact ho10) ho5.sl (by rw [List.length_replicate]) el25 rfl (fun w11 ho10 q11 z11 => ?_)
   rw [List.length_replicate] at ho10
   refine nn (sr (mv rfl rfl (asg rfl rfl (asg rfl rfl (asg rfl rfl (nn (rt (r3 Tryz.results22 rfl rfl rfl ?_))))))))
   exact ⟨_, rfl, some ⟨g51, 0, none⟩, acc, 0, 0, hpr.symm, rfl, ho10.low (by omega), (((q1.next q2).next q10).step q11 (by first | (simp; done) | (simp; omega)))⟩
end Go.Proofs.YtbalocjcbmkecaaGreatDoor
