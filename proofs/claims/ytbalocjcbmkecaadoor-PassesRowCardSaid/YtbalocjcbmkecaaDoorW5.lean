/- Walks. -/
import Derived.Test.YtbalocjcbmkecaaDoorRows
import Derived.Test.YtbalocjcbmkecaaDoorW4
import Derived.Test.YtbalocjcbmkecaaDoorXOp
import Derived.Test.YtbalocjcbmkecaaDoorXMap
set_option linter.unusedVariables false
set_option linter.unusedSimpArgs false
namespace Go.Proofs.YtbalocjcbmkecaaDoor
open Go.Lw
theorem bo31 : BuildAt Tryd.prog 31 [(0, 1), (1, 1), (2, 2), (4, 1), (5, 1)] [(.int .u8 0), (.int .u8 0), (.int .u8 0), (.int .i64 0), (.int .u8 0), (.int .i64 0)] := BuildAt.struct Tryd.underlying31 (fun _ => by kernel_rfl) (fun _ => by kernel_rfl)
theorem fa23_0 : FieldAt Tryd.prog 23 0 0 := fun _ _ => by kernel_rfl
theorem fa23_1 : FieldAt Tryd.prog 23 1 1 := fun _ _ => by kernel_rfl
theorem fa23_2 : FieldAt Tryd.prog 23 2 2 := fun _ _ => by kernel_rfl
theorem fa23_3 : FieldAt Tryd.prog 23 3 3 := fun _ _ => by kernel_rfl
theorem fa23_4 : FieldAt Tryd.prog 23 4 4 := fun _ _ => by kernel_rfl
theorem fa23_5 : FieldAt Tryd.prog 23 5 5 := fun _ _ => by kernel_rfl
theorem sz3 : SizeOf Tryd.prog 3 1 := fun _ => by kernel_rfl
theorem sz5 : SizeOf Tryd.prog 5 1 := fun _ => by kernel_rfl
theorem sz26 : SizeOf Tryd.prog 26 1 := fun _ => by kernel_rfl
theorem sz29 : SizeOf Tryd.prog 29 2 := fun _ => by kernel_rfl
theorem sz31 : SizeOf Tryd.prog 31 6 := fun _ => by kernel_rfl
theorem zv29 (w : World) : (zeroValue 29).run Tryd.prog w = .ok (.agg #[(.int .u8 0), (.int .i64 0)]) w := by kernel_rfl
theorem zv31 (w : World) : (zeroValue 31).run Tryd.prog w = .ok (.agg #[(.int .u8 0), (.int .u8 0), (.int .u8 0), (.int .i64 0), (.int .u8 0), (.int .i64 0)]) w := by kernel_rfl
theorem wrong_ok (o : MOp) (w0 : World) (hok : o.Ok) : Rets Tryd.prog 18 #[opV o] w0 fun v w' => v = .int .i64 (chkO o) ∧ Fr [] w0 w' := by
 obtain ⟨hk0, hd0, hb0, hy0, _⟩ := hok
 refine we [(0, opV o)] Tryd.func18 rfl Tryd.ntmps18 rfl (.cons rfl .nil) ?_
 refine sr (bx rfl rfl rfl (fun g1 w1 hg1 hb1 q1 z1 => ?_))
 refine asg rfl rfl (nn (sr (al zv29 rfl rfl (fun g3 w2 hg3 hb3 q2 z2 => ?_))))
 refine nn (sq ?_)
 refine rbo (r := 4) (L' := [(1, _), (3, _)]) ((((o.b ≤ 1) ∧ (1 ≤ o.p)) ∧ (o.p ≤ 40))) (.cons rfl (.cons rfl .nil)) ?_ ?_
 · refine fad rfl fa31_2 rfl (s_fad2 rfl fa29_0 rfl ?_)
   replace hb1 := hb1.ext q2
   refine s_loadB rfl hb1 rfl na27 rfl (le' rfl rfl rfl (mv rfl rfl ?_))
   refine gs 11 rfl (fun g0 => ?_) (fun g0 => ?_)
   · refine gY rfl (fad rfl fa31_2 rfl (gY rfl (s_fad2 rfl fa29_1 rfl (gY rfl (s_loadB rfl hb1 rfl na3 rfl (gY rfl (ge' rfl rfl rfl (pkt rfl rfl rfl rfl (mv rfl rfl ?_)))))))))
     refine gs 17 rfl (fun g1 => ?_) (fun g1 => ?_)
     · exact gY rfl (fad rfl fa31_2 rfl (gY rfl (s_fad2 rfl fa29_1 rfl (gY rfl (s_loadB rfl hb1 rfl na3 rfl (gY rfl (le' rfl rfl rfl (pkt rfl rfl rfl rfl (asg rfl rfl (rbe rfl (by first | exact bt (by omega) | exact bf (by omega) | exact bi (by omega) | exact bn (by omega) | (simp_all; done) | (simp_all; omega)) (.cons rfl (.cons rfl .nil))))))))))))
     · exact gN rfl rfl rfl (gN rfl rfl rfl (gN rfl rfl rfl (gN rfl rfl rfl (pkf rfl rfl rfl rfl (asg rfl rfl (rbe rfl (by first | exact bt (by omega) | exact bf (by omega) | exact bi (by omega) | exact bn (by omega) | (simp_all; done) | (simp_all; omega)) (.cons rfl (.cons rfl .nil))))))))
   · refine gN rfl rfl rfl (gN rfl rfl rfl (gN rfl rfl rfl (gN rfl rfl rfl (pkf rfl rfl rfl rfl (mv rfl rfl (gN rfl rfl rfl (gN rfl rfl rfl (gN rfl rfl rfl (gN rfl rfl rfl (pkf rfl rfl rfl rfl (asg rfl rfl ?_)))))))))))
     exact rbe rfl (by first | exact bt (by omega) | exact bf (by omega) | exact bi (by omega) | exact bn (by omega) | (simp_all; done) | (simp_all; omega)) (.cons rfl (.cons rfl .nil))
 · refine tn (sq ?_)
   refine rbo (r := 5) (L' := [(1, _), (3, _), (4, _)]) (((1 ≤ o.y) ∧ (o.y ≤ 6))) (.cons rfl (.cons rfl (.cons rfl .nil))) ?_ ?_
   · refine fad rfl fa31_3 rfl ?_
     replace hb1 := hb1.ext q2
     refine s_loadB rfl hb1 rfl na5 rfl (ge' rfl rfl rfl (mv rfl rfl ?_))
     refine gs 26 rfl (fun g2 => ?_) (fun g2 => ?_)
     · exact gY rfl (fad rfl fa31_3 rfl (gY rfl (s_loadB rfl hb1 rfl na5 rfl (gY rfl (le' rfl rfl rfl (pkt rfl rfl rfl rfl (asg rfl rfl (rbe rfl (by first | exact bt (by omega) | exact bf (by omega) | exact bi (by omega) | exact bn (by omega) | (simp_all; done) | (simp_all; omega)) (.cons rfl (.cons rfl (.cons rfl .nil)))))))))))
     · exact gN rfl rfl rfl (gN rfl rfl rfl (gN rfl rfl rfl (pkf rfl rfl rfl rfl (asg rfl rfl (rbe rfl (by first | exact bt (by omega) | exact bf (by omega) | exact bi (by omega) | exact bn (by omega) | (simp_all; done) | (simp_all; omega)) (.cons rfl (.cons rfl (.cons rfl .nil))))))))
   · refine tn (sr (asg rfl rfl (nn ?_)))
     refine jn (ι := Bool) [] (fun b6 => [(6, .bool b6)]) (fun b6 w' => Fr [] w2 w' ∧ chkO o = if b6 = true then 0 else 1) .nil ?_ ?_
     · refine sr (fad rfl fa31_0 rfl ?_)
       replace hb1 := hb1.ext q2
       refine s_loadB rfl hb1 rfl na25 rfl (nn (bl (sr (eq' rfl rfl rfl (asg rfl rfl (nn ?_))))))
       refine cd rfl (fun c0 => ?_) (fun c0 => ?_)
       · refine rbo (r := 6) (L' := []) (((((o.d ≤ 1) ∧ ((1 ≤ o.y) ∧ (o.y ≤ 6))) ∧ (o.b = 0 ∧ o.p = 0)) ∧ (o.r = 0))) .nil ?_ ?_
         · refine fad rfl fa31_1 rfl (s_loadB rfl hb1 rfl na26 rfl (le' rfl rfl rfl (mv rfl rfl ?_)))
           refine gs 38 rfl (fun g3 => ?_) (fun g3 => ?_)
           · refine gY rfl (mv rfl rfl (pkt rfl rfl rfl rfl (mv rfl rfl ?_)))
             refine gs 41 rfl (fun g4 => ?_) (fun g4 => ?_)
             · refine gY rfl (fad rfl fa31_2 rfl (gY rfl (s_loadBP (vs := [_, _]) rfl hb1 ag29 rfl rfl (gY rfl (s_loadBA rfl hb3 ag29 rfl (gY rfl (s_eqV (V := ndV) (e := (_, _)) (f := (_, _)) rfl rfl eqNd rfl (pkt rfl rfl rfl rfl (mv rfl rfl ?_)))))))))
               refine gs 47 rfl (fun g5 => ?_) (fun g5 => ?_)
               · exact gY rfl (fad rfl fa31_4 rfl (gY rfl (s_loadB rfl hb1 rfl na3 rfl (gY rfl (eq' rfl rfl rfl (pkt rfl rfl rfl rfl (asg rfl rfl (rbe rfl (by first | exact bt (by omega) | exact bf (by omega) | exact bi (by omega) | exact bn (by omega) | (simp_all; done) | (simp_all; omega)) .nil))))))))
               · exact gN rfl rfl rfl (gN rfl rfl rfl (gN rfl rfl rfl (pkf rfl rfl rfl rfl (asg rfl rfl (rbe rfl (by first | exact bt (by omega) | exact bf (by omega) | exact bi (by omega) | exact bn (by omega) | (simp_all; done) | (simp_all; omega)) .nil)))))
             · exact gN rfl rfl rfl (gN rfl rfl rfl (gN rfl rfl rfl (gN rfl rfl rfl (pkf rfl rfl rfl rfl (mv rfl rfl (gN rfl rfl rfl (gN rfl rfl rfl (gN rfl rfl rfl (pkf rfl rfl rfl rfl (asg rfl rfl (rbe rfl (by first | exact bt (by omega) | exact bf (by omega) | exact bi (by omega) | exact bn (by omega) | (simp_all; done) | (simp_all; omega)) .nil)))))))))))
           · refine gN rfl rfl rfl (pkf rfl rfl rfl rfl (mv rfl rfl (gN rfl rfl rfl (gN rfl rfl rfl (gN rfl rfl rfl (gN rfl rfl rfl (pkf rfl rfl rfl rfl (mv rfl rfl (gN rfl rfl rfl (gN rfl rfl rfl (gN rfl rfl rfl ?_)))))))))))
             exact pkf rfl rfl rfl rfl (asg rfl rfl (rbe rfl (by first | exact bt (by omega) | exact bf (by omega) | exact bi (by omega) | exact bn (by omega) | (simp_all; done) | (simp_all; omega)) .nil))
         · refine bn' ?_
           exact jE (_) (.cons rfl .nil) ⟨(Fr.refl _ _), by rw [chk_of]; (first | simp only [plain1 c0, decide_eq_true_eq] | simp only [plain2 c1, decide_eq_true_eq] | simp only [plain3 c2, decide_eq_true_eq] | simp only [plain46 (show 4 ≤ o.k ∧ o.k ≤ 6 by omega), decide_eq_true_eq] | simp only [plain78 c8, decide_eq_true_eq] | simp only [plain0 (show o.k < 1 ∨ 8 < o.k by omega), if_false, Bool.false_eq_true]) <;> (repeat' split) <;> omega⟩
       · refine sr (eq' rfl rfl rfl (asg rfl rfl (nn ?_)))
         refine cd rfl (fun c1 => ?_) (fun c1 => ?_)
         · refine rbo (r := 6) (L' := []) (((((o.d = 0) ∧ ((1 ≤ o.y) ∧ (o.y ≤ 6))) ∧ (o.b = 0 ∧ o.p = 0)) ∧ (o.r = 0))) .nil ?_ ?_
           · refine fad rfl fa31_1 rfl (s_loadB rfl hb1 rfl na26 rfl (eq' rfl rfl rfl (mv rfl rfl ?_)))
             refine gs 57 rfl (fun g6 => ?_) (fun g6 => ?_)
             · refine gY rfl (mv rfl rfl (pkt rfl rfl rfl rfl (mv rfl rfl ?_)))
               refine gs 60 rfl (fun g7 => ?_) (fun g7 => ?_)
               · refine gY rfl (fad rfl fa31_2 rfl (gY rfl (s_loadBP (vs := [_, _]) rfl hb1 ag29 rfl rfl (gY rfl (s_loadBA rfl hb3 ag29 rfl (gY rfl (s_eqV (V := ndV) (e := (_, _)) (f := (_, _)) rfl rfl eqNd rfl (pkt rfl rfl rfl rfl (mv rfl rfl ?_)))))))))
                 refine gs 66 rfl (fun g8 => ?_) (fun g8 => ?_)
                 · exact gY rfl (fad rfl fa31_4 rfl (gY rfl (s_loadB rfl hb1 rfl na3 rfl (gY rfl (eq' rfl rfl rfl (pkt rfl rfl rfl rfl (asg rfl rfl (rbe rfl (by first | exact bt (by omega) | exact bf (by omega) | exact bi (by omega) | exact bn (by omega) | (simp_all; done) | (simp_all; omega)) .nil))))))))
                 · exact gN rfl rfl rfl (gN rfl rfl rfl (gN rfl rfl rfl (pkf rfl rfl rfl rfl (asg rfl rfl (rbe rfl (by first | exact bt (by omega) | exact bf (by omega) | exact bi (by omega) | exact bn (by omega) | (simp_all; done) | (simp_all; omega)) .nil)))))
               · exact gN rfl rfl rfl (gN rfl rfl rfl (gN rfl rfl rfl (gN rfl rfl rfl (pkf rfl rfl rfl rfl (mv rfl rfl (gN rfl rfl rfl (gN rfl rfl rfl (gN rfl rfl rfl (pkf rfl rfl rfl rfl (asg rfl rfl (rbe rfl (by first | exact bt (by omega) | exact bf (by omega) | exact bi (by omega) | exact bn (by omega) | (simp_all; done) | (simp_all; omega)) .nil)))))))))))
             · refine gN rfl rfl rfl (pkf rfl rfl rfl rfl (mv rfl rfl (gN rfl rfl rfl (gN rfl rfl rfl (gN rfl rfl rfl (gN rfl rfl rfl (pkf rfl rfl rfl rfl (mv rfl rfl (gN rfl rfl rfl (gN rfl rfl rfl (gN rfl rfl rfl ?_)))))))))))
               exact pkf rfl rfl rfl rfl (asg rfl rfl (rbe rfl (by first | exact bt (by omega) | exact bf (by omega) | exact bi (by omega) | exact bn (by omega) | (simp_all; done) | (simp_all; omega)) .nil))
           · refine bn' ?_
             exact jE (_) (.cons rfl .nil) ⟨(Fr.refl _ _), by rw [chk_of]; (first | simp only [plain1 c0, decide_eq_true_eq] | simp only [plain2 c1, decide_eq_true_eq] | simp only [plain3 c2, decide_eq_true_eq] | simp only [plain46 (show 4 ≤ o.k ∧ o.k ≤ 6 by omega), decide_eq_true_eq] | simp only [plain78 c8, decide_eq_true_eq] | simp only [plain0 (show o.k < 1 ∨ 8 < o.k by omega), if_false, Bool.false_eq_true]) <;> (repeat' split) <;> omega⟩
         · refine sr (eq' rfl rfl rfl (asg rfl rfl (nn ?_)))
           refine cd rfl (fun c2 => ?_) (fun c2 => ?_)
           · refine sq (sq ?_)
             refine rbo (r := 96) (L' := [(1, _), (3, _)]) (((((o.d = 0) ∧ (o.y = 0)) ∧ (o.b = 0 ∧ o.p = 0)) ∧ ((o.r < -4) ∨ (4 < o.r)))) (.cons rfl (.cons rfl .nil)) ?_ ?_
             · refine fad rfl fa31_1 rfl (s_loadB rfl hb1 rfl na26 rfl (eq' rfl rfl rfl (mv rfl rfl ?_)))
               refine gs 76 rfl (fun g9 => ?_) (fun g9 => ?_)
               · refine gY rfl (fad rfl fa31_3 rfl (gY rfl (s_loadB rfl hb1 rfl na5 rfl (gY rfl (eq' rfl rfl rfl (pkt rfl rfl rfl rfl (mv rfl rfl ?_)))))))
                 refine gs 81 rfl (fun g10 => ?_) (fun g10 => ?_)
                 · refine gY rfl (fad rfl fa31_2 rfl (gY rfl (s_loadBP (vs := [_, _]) rfl hb1 ag29 rfl rfl (gY rfl (s_loadBA rfl hb3 ag29 rfl (gY rfl (s_eqV (V := ndV) (e := (_, _)) (f := (_, _)) rfl rfl eqNd rfl (pkt rfl rfl rfl rfl (mv rfl rfl ?_)))))))))
                   refine gs 87 rfl (fun g11 => ?_) (fun g11 => ?_)
                   · refine gY rfl (fad rfl fa31_4 rfl (gY rfl (s_loadB rfl hb1 rfl na3 rfl (gY rfl (lt' rfl rfl rfl (gY rfl (mv rfl rfl ?_)))))))
                     refine gs 91 rfl (fun g12 => ?_) (fun g12 => ?_)
                     · exact gN rfl rfl rfl (gN rfl rfl rfl (gN rfl rfl rfl (gY rfl (pkt rfl rfl rfl rfl (pkt rfl rfl rfl rfl (rbe rfl (by first | exact bt (by omega) | exact bf (by omega) | exact bi (by omega) | exact bn (by omega) | (simp_all; done) | (simp_all; omega)) (.cons rfl (.cons rfl .nil))))))))
                     · exact gY rfl (fad rfl fa31_4 rfl (gY rfl (s_loadB rfl hb1 rfl na3 rfl (gY rfl (gt' rfl rfl rfl (gY rfl (pkf rfl rfl rfl rfl (pkt rfl rfl rfl rfl (rbe rfl (by first | exact bt (by omega) | exact bf (by omega) | exact bi (by omega) | exact bn (by omega) | (simp_all; done) | (simp_all; omega)) (.cons rfl (.cons rfl .nil)))))))))))
                   · exact gN rfl rfl rfl (gN rfl rfl rfl (gN rfl rfl rfl (gN rfl rfl rfl (gS rfl rfl rfl (gS rfl rfl rfl (gS rfl rfl rfl (gN rfl rfl rfl (pkf rfl rfl rfl rfl (rbe rfl (by first | exact bt (by omega) | exact bf (by omega) | exact bi (by omega) | exact bn (by omega) | (simp_all; done) | (simp_all; omega)) (.cons rfl (.cons rfl .nil)))))))))))
                 · refine gN rfl rfl rfl (gN rfl rfl rfl (gN rfl rfl rfl (gN rfl rfl rfl (pkf rfl rfl rfl rfl (mv rfl rfl (gN rfl rfl rfl (gN rfl rfl rfl (gN rfl rfl rfl (gN rfl rfl rfl (gS rfl rfl rfl (gS rfl rfl rfl ?_)))))))))))
                   exact gS rfl rfl rfl (gN rfl rfl rfl (pkf rfl rfl rfl rfl (rbe rfl (by first | exact bt (by omega) | exact bf (by omega) | exact bi (by omega) | exact bn (by omega) | (simp_all; done) | (simp_all; omega)) (.cons rfl (.cons rfl .nil)))))
               · refine gN rfl rfl rfl (gN rfl rfl rfl (gN rfl rfl rfl (pkf rfl rfl rfl rfl (mv rfl rfl (gN rfl rfl rfl (gN rfl rfl rfl (gN rfl rfl rfl (gN rfl rfl rfl (pkf rfl rfl rfl rfl (mv rfl rfl (gN rfl rfl rfl ?_)))))))))))
                 exact gN rfl rfl rfl (gN rfl rfl rfl (gN rfl rfl rfl (gS rfl rfl rfl (gS rfl rfl rfl (gS rfl rfl rfl (gN rfl rfl rfl (pkf rfl rfl rfl rfl (rbe rfl (by first | exact bt (by omega) | exact bf (by omega) | exact bi (by omega) | exact bn (by omega) | (simp_all; done) | (simp_all; omega)) (.cons rfl (.cons rfl .nil))))))))))
             · refine tn ?_
               refine cd rfl (fun c3 => ?_) (fun c3 => ?_)
               · refine sr (asg rfl rfl (nn (rt (tr (rb (tr (r1 Tryd.results18 rfl ?_)))))))
                 exact ⟨_, rfl, congrArg (Value.int .i64) (by rw [chk_of]; simp only [plain3 c2]; (repeat' split) <;> omega), (q1.next q2)⟩
               · refine sk (tn ?_)
                 refine rbo (r := 6) (L' := []) ((((o.d = 0) ∧ (o.y = 0)) ∧ (o.b = 0 ∧ o.p = 0))) .nil ?_ ?_
                 · refine fad rfl fa31_1 rfl (s_loadB rfl hb1 rfl na26 rfl (eq' rfl rfl rfl (mv rfl rfl ?_)))
                   refine gs 100 rfl (fun g13 => ?_) (fun g13 => ?_)
                   · refine gY rfl (fad rfl fa31_3 rfl (gY rfl (s_loadB rfl hb1 rfl na5 rfl (gY rfl (eq' rfl rfl rfl (pkt rfl rfl rfl rfl (mv rfl rfl ?_)))))))
                     refine gs 105 rfl (fun g14 => ?_) (fun g14 => ?_)
                     · exact gY rfl (fad rfl fa31_2 rfl (gY rfl (s_loadBP (vs := [_, _]) rfl hb1 ag29 rfl rfl (gY rfl (s_loadBA rfl hb3 ag29 rfl (gY rfl (s_eqV (V := ndV) (e := (_, _)) (f := (_, _)) rfl rfl eqNd rfl (pkt rfl rfl rfl rfl (asg rfl rfl (rbe rfl (by first | exact bt (by omega) | exact bf (by omega) | exact bi (by omega) | exact bn (by omega) | (simp_all; done) | (simp_all; omega)) .nil))))))))))
                     · exact gN rfl rfl rfl (gN rfl rfl rfl (gN rfl rfl rfl (gN rfl rfl rfl (pkf rfl rfl rfl rfl (asg rfl rfl (rbe rfl (by first | exact bt (by omega) | exact bf (by omega) | exact bi (by omega) | exact bn (by omega) | (simp_all; done) | (simp_all; omega)) .nil))))))
                   · exact gN rfl rfl rfl (gN rfl rfl rfl (gN rfl rfl rfl (pkf rfl rfl rfl rfl (mv rfl rfl (gN rfl rfl rfl (gN rfl rfl rfl (gN rfl rfl rfl (gN rfl rfl rfl (pkf rfl rfl rfl rfl (asg rfl rfl (rbe rfl (by first | exact bt (by omega) | exact bf (by omega) | exact bi (by omega) | exact bn (by omega) | (simp_all; done) | (simp_all; omega)) .nil)))))))))))
                 · refine bn' ?_
                   exact jE (_) (.cons rfl .nil) ⟨(Fr.refl _ _), by rw [chk_of]; (first | simp only [plain1 c0, decide_eq_true_eq] | simp only [plain2 c1, decide_eq_true_eq] | simp only [plain3 c2, decide_eq_true_eq] | simp only [plain46 (show 4 ≤ o.k ∧ o.k ≤ 6 by omega), decide_eq_true_eq] | simp only [plain78 c8, decide_eq_true_eq] | simp only [plain0 (show o.k < 1 ∨ 8 < o.k by omega), if_false, Bool.false_eq_true]) <;> (repeat' split) <;> omega⟩
           · refine jn (ι := Bool) [(1, _), (4, _), (5, _), (6, _), (32, _)] (fun b4 => [(111, .bool b4)]) (fun b4 w' => Fr [] w2 w' ∧ b4 = decide ((o.k = 4 ∨ o.k = 5) ∨ o.k = 6)) (.cons rfl (.cons rfl (.cons rfl (.cons rfl (.cons rfl .nil))))) ?_ ?_
             · refine sr (eq' rfl rfl rfl (asg rfl rfl (nn ?_)))
               refine cd rfl (fun c4 => ?_) (fun c4 => ?_)
               · refine sk ?_
                 exact jE (_) (.cons rfl (.cons rfl (.cons rfl (.cons rfl (.cons rfl (.cons rfl .nil)))))) ⟨(Fr.refl _ _), by first | exact bi (by omega) | exact bt (by omega) | exact bf (by omega)⟩
               · refine sr (eq' rfl rfl rfl (asg rfl rfl (nn ?_)))
                 refine cd rfl (fun c5 => ?_) (fun c5 => ?_)
                 · refine sk ?_
                   exact jE (_) (.cons rfl (.cons rfl (.cons rfl (.cons rfl (.cons rfl (.cons rfl .nil)))))) ⟨(Fr.refl _ _), by first | exact bi (by omega) | exact bt (by omega) | exact bf (by omega)⟩
                 · refine rg (eq' rfl rfl rfl (asg rfl rfl (nl ?_)))
                   exact jE (_) (.cons rfl (.cons rfl (.cons rfl (.cons rfl (.cons rfl (.cons rfl .nil)))))) ⟨(Fr.refl _ _), by first | exact bi (by omega) | exact bt (by omega) | exact bf (by omega)⟩
             · rintro b4 w3 ⟨q3, rfl⟩
               have z3 := q3.size
               refine kpC [(1, _), (4, _), (5, _), (6, _), (32, _), (111, _)] (.cons rfl (.cons rfl (.cons rfl (.cons rfl (.cons rfl (.cons rfl .nil)))))) ?_
               refine cd rfl (fun c6 => ?_) (fun c6 => ?_)
               · refine rbo (r := 6) (L' := []) (((((o.d ≤ 1) ∧ ((1 ≤ o.y) ∧ (o.y ≤ 6))) ∧ (((o.b ≤ 1) ∧ (1 ≤ o.p)) ∧ (o.p ≤ 40))) ∧ (o.r = 0))) .nil ?_ ?_
                 · refine fad rfl fa31_1 rfl ?_
                   replace hb1 := hb1.ext q3
                   refine s_loadB rfl hb1 rfl na26 rfl (le' rfl rfl rfl (mv rfl rfl ?_))
                   refine gs 118 rfl (fun g15 => ?_) (fun g15 => ?_)
                   · refine gY rfl (mv rfl rfl (pkt rfl rfl rfl rfl (mv rfl rfl ?_)))
                     refine gs 121 rfl (fun g16 => ?_) (fun g16 => ?_)
                     · refine gY rfl (mv rfl rfl (pkt rfl rfl rfl rfl (mv rfl rfl ?_)))
                       refine gs 124 rfl (fun g17 => ?_) (fun g17 => ?_)
                       · exact gY rfl (fad rfl fa31_4 rfl (gY rfl (s_loadB rfl hb1 rfl na3 rfl (gY rfl (eq' rfl rfl rfl (pkt rfl rfl rfl rfl (asg rfl rfl (rbe rfl (by first | exact bt (by omega) | exact bf (by omega) | exact bi (by omega) | exact bn (by omega) | (simp_all; done) | (simp_all; omega)) .nil))))))))
                       · exact gN rfl rfl rfl (gN rfl rfl rfl (gN rfl rfl rfl (pkf rfl rfl rfl rfl (asg rfl rfl (rbe rfl (by first | exact bt (by omega) | exact bf (by omega) | exact bi (by omega) | exact bn (by omega) | (simp_all; done) | (simp_all; omega)) .nil)))))
                     · exact gN rfl rfl rfl (pkf rfl rfl rfl rfl (mv rfl rfl (gN rfl rfl rfl (gN rfl rfl rfl (gN rfl rfl rfl (pkf rfl rfl rfl rfl (asg rfl rfl (rbe rfl (by first | exact bt (by omega) | exact bf (by omega) | exact bi (by omega) | exact bn (by omega) | (simp_all; done) | (simp_all; omega)) .nil))))))))
                   · exact gN rfl rfl rfl (pkf rfl rfl rfl rfl (mv rfl rfl (gN rfl rfl rfl (pkf rfl rfl rfl rfl (mv rfl rfl (gN rfl rfl rfl (gN rfl rfl rfl (gN rfl rfl rfl (pkf rfl rfl rfl rfl (asg rfl rfl (rbe rfl (by first | exact bt (by omega) | exact bf (by omega) | exact bi (by omega) | exact bn (by omega) | (simp_all; done) | (simp_all; omega)) .nil)))))))))))
                 · refine bn' ?_
                   exact jE (_) (.cons rfl .nil) ⟨q3, by rw [chk_of]; (first | simp only [plain1 c0, decide_eq_true_eq] | simp only [plain2 c1, decide_eq_true_eq] | simp only [plain3 c2, decide_eq_true_eq] | simp only [plain46 (show 4 ≤ o.k ∧ o.k ≤ 6 by omega), decide_eq_true_eq] | simp only [plain78 c8, decide_eq_true_eq] | simp only [plain0 (show o.k < 1 ∨ 8 < o.k by omega), if_false, Bool.false_eq_true]) <;> (repeat' split) <;> omega⟩
               · refine jn (ι := Bool) [(1, _), (4, _), (6, _)] (fun b7 => [(129, .bool b7)]) (fun b7 w' => Fr [] w3 w' ∧ b7 = decide (o.k = 7 ∨ o.k = 8)) (.cons rfl (.cons rfl (.cons rfl .nil))) ?_ ?_
                 · refine sr (eq' rfl rfl rfl (asg rfl rfl (nn ?_)))
                   refine cd rfl (fun c7 => ?_) (fun c7 => ?_)
                   · refine sk ?_
                     exact jE (_) (.cons rfl (.cons rfl (.cons rfl (.cons rfl .nil)))) ⟨(Fr.refl _ _), by first | exact bi (by omega) | exact bt (by omega) | exact bf (by omega)⟩
                   · refine rg (eq' rfl rfl rfl (asg rfl rfl (nl ?_)))
                     exact jE (_) (.cons rfl (.cons rfl (.cons rfl (.cons rfl .nil)))) ⟨(Fr.refl _ _), by first | exact bi (by omega) | exact bt (by omega) | exact bf (by omega)⟩
                 · rintro b7 w4 ⟨q4, rfl⟩
                   have z4 := q4.size
                   refine kpC [(1, _), (4, _), (6, _), (129, _)] (.cons rfl (.cons rfl (.cons rfl (.cons rfl .nil)))) ?_
                   refine cd rfl (fun c8 => ?_) (fun c8 => ?_)
                   · refine rbo (r := 6) (L' := []) (((((o.d = 0) ∧ (o.y = 0)) ∧ (((o.b ≤ 1) ∧ (1 ≤ o.p)) ∧ (o.p ≤ 40))) ∧ (o.r = 0))) .nil ?_ ?_
                     · refine fad rfl fa31_1 rfl ?_
                       replace hb1 := hb1.ext (q3.next q4)
                       refine s_loadB rfl hb1 rfl na26 rfl (eq' rfl rfl rfl (mv rfl rfl ?_))
                       refine gs 135 rfl (fun g18 => ?_) (fun g18 => ?_)
                       · refine gY rfl (fad rfl fa31_3 rfl (gY rfl (s_loadB rfl hb1 rfl na5 rfl (gY rfl (eq' rfl rfl rfl (pkt rfl rfl rfl rfl (mv rfl rfl ?_)))))))
                         refine gs 140 rfl (fun g19 => ?_) (fun g19 => ?_)
                         · refine gY rfl (mv rfl rfl (pkt rfl rfl rfl rfl (mv rfl rfl ?_)))
                           refine gs 143 rfl (fun g20 => ?_) (fun g20 => ?_)
                           · exact gY rfl (fad rfl fa31_4 rfl (gY rfl (s_loadB rfl hb1 rfl na3 rfl (gY rfl (eq' rfl rfl rfl (pkt rfl rfl rfl rfl (asg rfl rfl (rbe rfl (by first | exact bt (by omega) | exact bf (by omega) | exact bi (by omega) | exact bn (by omega) | (simp_all; done) | (simp_all; omega)) .nil))))))))
                           · exact gN rfl rfl rfl (gN rfl rfl rfl (gN rfl rfl rfl (pkf rfl rfl rfl rfl (asg rfl rfl (rbe rfl (by first | exact bt (by omega) | exact bf (by omega) | exact bi (by omega) | exact bn (by omega) | (simp_all; done) | (simp_all; omega)) .nil)))))
                         · exact gN rfl rfl rfl (pkf rfl rfl rfl rfl (mv rfl rfl (gN rfl rfl rfl (gN rfl rfl rfl (gN rfl rfl rfl (pkf rfl rfl rfl rfl (asg rfl rfl (rbe rfl (by first | exact bt (by omega) | exact bf (by omega) | exact bi (by omega) | exact bn (by omega) | (simp_all; done) | (simp_all; omega)) .nil))))))))
                       · refine gN rfl rfl rfl (gN rfl rfl rfl (gN rfl rfl rfl (pkf rfl rfl rfl rfl (mv rfl rfl (gN rfl rfl rfl (pkf rfl rfl rfl rfl (mv rfl rfl (gN rfl rfl rfl (gN rfl rfl rfl (gN rfl rfl rfl (pkf rfl rfl rfl rfl ?_)))))))))))
                         exact asg rfl rfl (rbe rfl (by first | exact bt (by omega) | exact bf (by omega) | exact bi (by omega) | exact bn (by omega) | (simp_all; done) | (simp_all; omega)) .nil)
                     · refine bn' ?_
                       exact jE (_) (.cons rfl .nil) ⟨(q3.next q4), by rw [chk_of]; (first | simp only [plain1 c0, decide_eq_true_eq] | simp only [plain2 c1, decide_eq_true_eq] | simp only [plain3 c2, decide_eq_true_eq] | simp only [plain46 (show 4 ≤ o.k ∧ o.k ≤ 6 by omega), decide_eq_true_eq] | simp only [plain78 c8, decide_eq_true_eq] | simp only [plain0 (show o.k < 1 ∨ 8 < o.k by omega), if_false, Bool.false_eq_true]) <;> (repeat' split) <;> omega⟩
                   · refine sk (bn' ?_)
                     exact jE (_) (.cons rfl .nil) ⟨(q3.next q4), by rw [chk_of]; (first | simp only [plain1 c0, decide_eq_true_eq] | simp only [plain2 c1, decide_eq_true_eq] | simp only [plain3 c2, decide_eq_true_eq] | simp only [plain46 (show 4 ≤ o.k ∧ o.k ≤ 6 by omega), decide_eq_true_eq] | simp only [plain78 c8, decide_eq_true_eq] | simp only [plain0 (show o.k < 1 ∨ 8 < o.k by omega), if_false, Bool.false_eq_true]) <;> (repeat' split) <;> omega⟩
     · rintro b6 w5 ⟨q5, hj⟩
       have z5 := q5.size
       refine kpC [(6, _)] (.cons rfl .nil) ?_
       refine sq (sr (mv rfl rfl (nt' rfl rfl (nn ?_))))
       refine cd rfl (fun c9 => ?_) (fun c9 => ?_)
       · refine sr (asg rfl rfl (nn (rt (tr (r1 Tryd.results18 rfl ?_)))))
         exact ⟨_, rfl, by rw [hj]; cases b6 <;> simp_all, ((q1.next q2).next q5)⟩
       · refine sk (tn (sr (asg rfl rfl (nn (rt (r1 Tryd.results18 rfl ?_))))))
         exact ⟨_, rfl, by rw [hj]; cases b6 <;> simp_all, ((q1.next q2).next q5)⟩
theorem of_ok (x : MOp) (w0 : World) (hx : x.Bytes) : Rets Tryd.prog 13 #[oxV x] w0 fun v w' => v = opV (ofO x) ∧ Fr [] w0 w' := by
 obtain ⟨⟨_, _⟩, ⟨_, _⟩, ⟨_, _⟩, ⟨_, _⟩, ⟨_, _⟩, ⟨_, _⟩⟩ := hx
 refine we [(0, oxV x)] Tryd.func13 rfl Tryd.ntmps13 rfl (.cons rfl .nil) ?_
 refine sr (bx rfl rfl rfl (fun g1 w1 hg1 hb1 q1 z1 => ?_))
 refine al zv31 rfl rfl (fun g2 w2 hg2 hb2 q2 z2 => ?_)
 refine nn (sr (fad rfl fa23_0 rfl ?_))
 replace hb1 := hb1.ext q2
 refine s_loadB rfl hb1 rfl na5 rfl (s_rem rfl rfl (by omega) (by first | exact IntWalk.rem_in _ _ (by omega) | rfl) rfl (s_add rfl rfl (wi8 (by omega)) rfl (s_lit (cs := [_, _, _, _, _, _]) (ev1 rfl) bo31 (pok_cons rfl rfl rfl pok_nil) rfl rfl (al zv31 rfl rfl (fun g3 w3 hg3 hb3 q3 z3 => ?_)))))
 refine s_storeBA rfl rfl hb3 rfl (by first | (simp [Value.oneCell', S]; done) | exact Enc.one _ _) sz31 (fun w4 hb3 q4 z4 => ?_)
 refine nn (sr (fad rfl fa23_2 rfl ?_))
 replace hb1 := (hb1.ext q3).fr q4 (by first | (simp; done) | (simp; omega) | (simp [blks]; done) | (simp [blks]; omega))
 refine s_loadB rfl hb1 rfl na5 rfl (s_rem rfl rfl (by omega) (by first | exact IntWalk.rem_in _ _ (by omega) | rfl) rfl (fad rfl fa23_3 rfl (s_loadB rfl hb1 rfl na5 rfl (s_rem rfl rfl (by omega) (by first | exact IntWalk.rem_in _ _ (by omega) | rfl) rfl (s_conv rfl (us Tryd.underlying5) Tryd.underlying3 (wi6 (by omega)) rfl (s_add rfl rfl (wi6 (by omega)) rfl (s_lit (cs := [_, _]) (ev2 rfl rfl) bo29 (pok_cons rfl rfl rfl (pok_cons rfl rfl rfl pok_nil)) rfl rfl (al zv29 rfl rfl (fun g4 w5 hg4 hb4 q5 z5 => ?_)))))))))
 refine s_storeBA rfl rfl hb4 rfl (by first | (simp [Value.oneCell', S]; done) | exact Enc.one _ _) sz29 (fun w6 hb4 q6 z6 => ?_)
 refine kpL [(1, _), (2, _), (3, _), (4, _)] (.cons rfl (.cons rfl (.cons rfl (.cons rfl .nil)))) (nn ?_)
 refine jn (ι := Unit) [(2, _), (3, _)] (fun _j => []) (fun _j w' => Fr [g3] w6 w' ∧ Blk w' g3 31 [.int .u8 (ofO x).k, .int .u8 (ofO x).d, .int .u8 (ofO x).b, .int .i64 (ofO x).p, .int .u8 (ofO x).y, .int .i64 (ofO x).r]) (.cons rfl (.cons rfl .nil)) ?_ ?_
 · refine sr (fad rfl fa31_0 rfl ?_)
   replace hb3 := (hb3.ext q5).fr q6 (by first | (simp; done) | (simp; omega) | (simp [blks]; done) | (simp [blks]; omega))
   refine s_loadB rfl hb3 rfl na25 rfl (nn (bl (sr (eq' rfl rfl rfl (asg rfl rfl (nn ?_))))))
   refine cd rfl (fun c0 => ?_) (fun c0 => ?_)
   · replace hb1 := (hb1.ext q5).fr q6 (by first | (simp; done) | (simp; omega) | (simp [blks]; done) | (simp [blks]; omega))
     replace hb2 := (((hb2.ext q3).fr q4 (by first | (simp; done) | (simp; omega) | (simp [blks]; done) | (simp [blks]; omega))).ext q5).fr q6 (by first | (simp; done) | (simp; omega) | (simp [blks]; done) | (simp [blks]; omega))
     intro a h
     have qh6 := Fr.refl [g3] w6
     refine region_held (fun wb w' => Fr [g3] wb w') hmix ?_; intro w7 hq
     have z7 := hq.size
     replace hb1 := hb1.ext hq
     replace hb2 := hb2.ext hq
     replace hb3 := hb3.ext hq
     replace hb4 := hb4.ext hq
     replace qh6 := qh6.next hq
     have hsz := hq.size; clear hq; have hC : Fr [g3] w7 w7 := Fr.refl _ _
     have hb1_b := hb1
     have hb2_b := hb2
     have hb3_b := hb3
     have hb4_b := hb4
     refine hd_fieldAddr 0 (by kernel_rfl) (by kernel_rfl) (by kernel_rfl) hC h wn rfl fa23_1 rfl rfl ?_; clear h a; intro a h
     refine hd_loadB 1 (by kernel_rfl) (by kernel_rfl) (by kernel_rfl) hC h wn rfl (fun _ hw => hb1_b.fr hw (by first | (simp; done) | (simp; omega))) rfl na5 rfl rfl ?_; clear h a; intro a h
     refine hd_rem 2 (by kernel_rfl) (by kernel_rfl) (by kernel_rfl) hC h wn rfl rfl (by omega) (by first | exact IntWalk.rem_in _ _ (by omega) | rfl) rfl rfl ?_; clear h a; intro a h
     refine hd_fieldAddr 3 (by kernel_rfl) (by kernel_rfl) (by kernel_rfl) hC h wn rfl fa23_4 rfl rfl ?_; clear h a; intro a h
     refine hd_loadB 4 (by kernel_rfl) (by kernel_rfl) (by kernel_rfl) hC h wn rfl (fun _ hw => hb1_b.fr hw (by first | (simp; done) | (simp; omega))) rfl na5 rfl rfl ?_; clear h a; intro a h
     refine hd_rem 5 (by kernel_rfl) (by kernel_rfl) (by kernel_rfl) hC h wn rfl rfl (by omega) (by first | exact IntWalk.rem_in _ _ (by omega) | rfl) rfl rfl ?_; clear h a; intro a h
     refine hd_add 6 (by kernel_rfl) (by kernel_rfl) (by kernel_rfl) hC h wn rfl rfl (by first | exact IntWalk.u8_in _ (by omega) | rfl) rfl rfl ?_; clear h a; intro a h
     refine hd_fieldAddr 7 (by kernel_rfl) (by kernel_rfl) (by kernel_rfl) hC h wn rfl fa31_1 rfl rfl ?_; clear h a; intro a h
     refine hd_one 8 (by kernel_rfl) rfl ?_
     refine st_storeB h rfl rfl hb3 rfl rfl rfl sz26 ?_; clear h a; intro w8 hbn hq hz a h
     have z8 := hq.size
     replace hb1 := hb1.fr hq (by first | (simp; done) | (simp; omega) | (simp [blks]; done) | (simp [blks]; omega))
     replace hb2 := hb2.fr hq (by first | (simp; done) | (simp; omega) | (simp [blks]; done) | (simp [blks]; omega))
     replace hb4 := hb4.fr hq (by first | (simp; done) | (simp; omega) | (simp [blks]; done) | (simp [blks]; omega))
     replace qh6 := qh6.step hq (by first | (simp; done) | (simp; omega))
     replace hC := hC.step hq (by first | (simp; done) | (simp; omega))
     clear hb3 hq hz; have hb3 : Blk w8 g3 _ [_, _, _, _, _, _] := hbn; clear hbn
     refine hd_next hC ?_
     refine hd_fieldAddr 9 (by kernel_rfl) (by kernel_rfl) (by kernel_rfl) hC h wn rfl fa31_3 rfl rfl ?_; clear h a; intro a h
     refine hd_one 10 (by kernel_rfl) rfl ?_
     refine st_storeB h rfl rfl hb3 rfl rfl rfl sz5 ?_; clear h a; intro w9 hbn hq hz a h
     have z9 := hq.size
     replace hb1 := hb1.fr hq (by first | (simp; done) | (simp; omega) | (simp [blks]; done) | (simp [blks]; omega))
     replace hb2 := hb2.fr hq (by first | (simp; done) | (simp; omega) | (simp [blks]; done) | (simp [blks]; omega))
     replace hb4 := hb4.fr hq (by first | (simp; done) | (simp; omega) | (simp [blks]; done) | (simp [blks]; omega))
     replace qh6 := qh6.step hq (by first | (simp; done) | (simp; omega))
     replace hC := hC.step hq (by first | (simp; done) | (simp; omega))
     clear hb3 hq hz; have hb3 : Blk w9 g3 _ [_, _, _, _, _, _] := hbn; clear hbn
     refine hd_next hC ?_
     refine hd_end (by kernel_rfl) ?_
     clear hC hb1_b hb2_b hb3_b hb4_b
     have z9 := qh6.size
     refine bk (h.sub (L' := [(2, _), (3, _)]) (.cons rfl (.cons rfl .nil))) ?_; clear h a
     refine bn' ?_
     exact jE (()) (.cons rfl (.cons rfl .nil)) ⟨((Fr.refl [g3] _).step qh6 (by first | (simp; done) | (simp; omega))), by rw [ofO, ofK, if_pos c0]; exact hb3⟩
   · refine sr (eq' rfl rfl rfl (asg rfl rfl (nn ?_)))
     refine cd rfl (fun c1 => ?_) (fun c1 => ?_)
     · refine rg (fad rfl fa23_4 rfl ?_)
       replace hb1 := (hb1.ext q5).fr q6 (by first | (simp; done) | (simp; omega) | (simp [blks]; done) | (simp [blks]; omega))
       refine s_loadB rfl hb1 rfl na5 rfl (s_rem rfl rfl (by omega) (by first | exact IntWalk.rem_in _ _ (by omega) | rfl) rfl (s_add rfl rfl (wi8 (by omega)) rfl (fad rfl fa31_3 rfl (s_storeB rfl rfl hb3 rfl rfl rfl sz5 (fun w10 hb3 q10 z10 => ?_)))))
       replace hb3 : Blk w10 g3 _ [_, _, _, _, _, _] := hb3
       refine kpL [(2, _), (3, _)] (.cons rfl (.cons rfl .nil)) (nl (bn' ?_))
       exact jE (()) (.cons rfl (.cons rfl .nil)) ⟨((Fr.refl [g3] _).step q10 (by first | (simp; done) | (simp; omega))), by rw [ofO, ofK, if_neg c0, if_pos c1]; exact hb3⟩
     · refine sr (eq' rfl rfl rfl (asg rfl rfl (nn ?_)))
       refine cd rfl (fun c2 => ?_) (fun c2 => ?_)
       · refine rg (fad rfl fa23_5 rfl ?_)
         replace hb1 := (hb1.ext q5).fr q6 (by first | (simp; done) | (simp; omega) | (simp [blks]; done) | (simp [blks]; omega))
         refine s_loadB rfl hb1 rfl na5 rfl (s_rem rfl rfl (by omega) (by first | exact IntWalk.rem_in _ _ (by omega) | rfl) rfl (s_conv rfl (us Tryd.underlying5) Tryd.underlying3 (wi6 (by omega)) rfl (s_sub rfl rfl (wi6 (by omega)) rfl (fad rfl fa31_4 rfl (s_storeB rfl rfl hb3 rfl rfl rfl sz3 (fun w11 hb3 q11 z11 => ?_))))))
         replace hb3 : Blk w11 g3 _ [_, _, _, _, _, _] := hb3
         refine kpL [(2, _), (3, _)] (.cons rfl (.cons rfl .nil)) (nl (bn' ?_))
         exact jE (()) (.cons rfl (.cons rfl .nil)) ⟨((Fr.refl [g3] _).step q11 (by first | (simp; done) | (simp; omega))), by rw [ofO, ofK, if_neg c0, if_neg c1, if_pos c2]; exact hb3⟩
       · refine jn (ι := Bool) [(1, _), (2, _), (3, _), (4, _)] (fun b3 => [(58, .bool b3)]) (fun b3 w' => Fr [] w6 w' ∧ b3 = decide ((1 + x.k % 8) = 7 ∨ (1 + x.k % 8) = 8)) (.cons rfl (.cons rfl (.cons rfl (.cons rfl .nil)))) ?_ ?_
         · refine sr (eq' rfl rfl rfl (asg rfl rfl (nn ?_)))
           refine cd rfl (fun c3 => ?_) (fun c3 => ?_)
           · refine sk ?_
             exact jE (_) (.cons rfl (.cons rfl (.cons rfl (.cons rfl (.cons rfl .nil))))) ⟨(Fr.refl _ _), by first | exact bi (by omega) | exact bt (by omega) | exact bf (by omega)⟩
           · refine rg (eq' rfl rfl rfl (asg rfl rfl (nl ?_)))
             exact jE (_) (.cons rfl (.cons rfl (.cons rfl (.cons rfl (.cons rfl .nil))))) ⟨(Fr.refl _ _), by first | exact bi (by omega) | exact bt (by omega) | exact bf (by omega)⟩
         · rintro b3 w12 ⟨q12, rfl⟩
           have z12 := q12.size
           refine kpC [(1, _), (2, _), (3, _), (4, _), (58, _)] (.cons rfl (.cons rfl (.cons rfl (.cons rfl (.cons rfl .nil))))) ?_
           refine cd rfl (fun c4 => ?_) (fun c4 => ?_)
           · refine rg ?_
             replace hb4 := hb4.ext q12
             refine s_loadBA rfl hb4 ag29 rfl (fad rfl fa31_2 rfl ?_)
             replace hb3 := hb3.ext q12
             refine s_storeBP (cs' := [_, _, _, _, _, _]) rfl rfl hb3 rfl (by first | (simp [Value.oneCell', S]; done) | exact Enc.one _ _) sz29 rfl (fun w13 hb3 q13 z13 => ?_)
             refine nl (bn' ?_)
             exact jE (()) (.cons rfl (.cons rfl .nil)) ⟨(((Fr.refl [g3] _).next q12).step q13 (by first | (simp; done) | (simp; omega))), by rw [ofO, ofK, if_neg c0, if_neg c1, if_neg c2, if_pos c4]; exact hb3⟩
           · replace hb1 := ((hb1.ext q5).fr q6 (by first | (simp; done) | (simp; omega) | (simp [blks]; done) | (simp [blks]; omega))).ext q12
             replace hb2 := ((((hb2.ext q3).fr q4 (by first | (simp; done) | (simp; omega) | (simp [blks]; done) | (simp [blks]; omega))).ext q5).fr q6 (by first | (simp; done) | (simp; omega) | (simp [blks]; done) | (simp [blks]; omega))).ext q12
             replace hb3 := hb3.ext q12
             replace hb4 := hb4.ext q12
             intro a h
             have qh4 := Fr.refl [g3] w12
             refine region_held (fun wb w' => Fr [g3] wb w') hmix ?_; intro w14 hq
             have z14 := hq.size
             replace hb1 := hb1.ext hq
             replace hb2 := hb2.ext hq
             replace hb3 := hb3.ext hq
             replace hb4 := hb4.ext hq
             replace qh4 := qh4.next hq
             have hsz := hq.size; clear hq; have hC : Fr [g3] w14 w14 := Fr.refl _ _
             have hb1_b := hb1
             have hb2_b := hb2
             have hb3_b := hb3
             have hb4_b := hb4
             refine hd_fieldAddr 0 (by kernel_rfl) (by kernel_rfl) (by kernel_rfl) hC h wn rfl fa23_1 rfl rfl ?_; clear h a; intro a h
             refine hd_loadB 1 (by kernel_rfl) (by kernel_rfl) (by kernel_rfl) hC h wn rfl (fun _ hw => hb1_b.fr hw (by first | (simp; done) | (simp; omega))) rfl na5 rfl rfl ?_; clear h a; intro a h
             refine hd_rem 2 (by kernel_rfl) (by kernel_rfl) (by kernel_rfl) hC h wn rfl rfl (by omega) (by first | exact IntWalk.rem_in _ _ (by omega) | rfl) rfl rfl ?_; clear h a; intro a h
             refine hd_loadBA 3 (by kernel_rfl) (by kernel_rfl) (by kernel_rfl) hC h wn rfl (fun _ hw => hb4_b.fr hw (by first | (simp; done) | (simp; omega))) ag29 rfl rfl ?_; clear h a; intro a h
             refine hd_fieldAddr 4 (by kernel_rfl) (by kernel_rfl) (by kernel_rfl) hC h wn rfl fa23_4 rfl rfl ?_; clear h a; intro a h
             refine hd_loadB 5 (by kernel_rfl) (by kernel_rfl) (by kernel_rfl) hC h wn rfl (fun _ hw => hb1_b.fr hw (by first | (simp; done) | (simp; omega))) rfl na5 rfl rfl ?_; clear h a; intro a h
             refine hd_rem 6 (by kernel_rfl) (by kernel_rfl) (by kernel_rfl) hC h wn rfl rfl (by omega) (by first | exact IntWalk.rem_in _ _ (by omega) | rfl) rfl rfl ?_; clear h a; intro a h
             refine hd_add 7 (by kernel_rfl) (by kernel_rfl) (by kernel_rfl) hC h wn rfl rfl (by first | exact IntWalk.u8_in _ (by omega) | rfl) rfl rfl ?_; clear h a; intro a h
             refine hd_fieldAddr 8 (by kernel_rfl) (by kernel_rfl) (by kernel_rfl) hC h wn rfl fa31_1 rfl rfl ?_; clear h a; intro a h
             refine hd_one 9 (by kernel_rfl) rfl ?_
             refine st_storeB h rfl rfl hb3 rfl rfl rfl sz26 ?_; clear h a; intro w15 hbn hq hz a h
             have z15 := hq.size
             replace hb1 := hb1.fr hq (by first | (simp; done) | (simp; omega) | (simp [blks]; done) | (simp [blks]; omega))
             replace hb2 := hb2.fr hq (by first | (simp; done) | (simp; omega) | (simp [blks]; done) | (simp [blks]; omega))
             replace hb4 := hb4.fr hq (by first | (simp; done) | (simp; omega) | (simp [blks]; done) | (simp [blks]; omega))
             replace qh4 := qh4.step hq (by first | (simp; done) | (simp; omega))
             replace hC := hC.step hq (by first | (simp; done) | (simp; omega))
             clear hb3 hq hz; have hb3 : Blk w15 g3 _ [_, _, _, _, _, _] := hbn; clear hbn
             refine hd_next hC ?_
             refine hd_fieldAddr 10 (by kernel_rfl) (by kernel_rfl) (by kernel_rfl) hC h wn rfl fa31_2 rfl rfl ?_; clear h a; intro a h
             refine hd_one 11 (by kernel_rfl) rfl ?_
             refine st_storeBP (cs' := [_, _, _, _, _, _]) h rfl rfl hb3 rfl (by first | (simp [Value.oneCell', S]; done) | exact Enc.one _ _) sz29 rfl ?_; clear h a; intro w16 hbn hq hz a h
             have z16 := hq.size
             replace hb1 := hb1.fr hq (by first | (simp; done) | (simp; omega) | (simp [blks]; done) | (simp [blks]; omega))
             replace hb2 := hb2.fr hq (by first | (simp; done) | (simp; omega) | (simp [blks]; done) | (simp [blks]; omega))
             replace hb4 := hb4.fr hq (by first | (simp; done) | (simp; omega) | (simp [blks]; done) | (simp [blks]; omega))
             replace qh4 := qh4.step hq (by first | (simp; done) | (simp; omega))
             replace hC := hC.step hq (by first | (simp; done) | (simp; omega))
             clear hb3 hq hz; have hb3 := hbn; clear hbn
             refine hd_next hC ?_
             refine hd_fieldAddr 12 (by kernel_rfl) (by kernel_rfl) (by kernel_rfl) hC h wn rfl fa31_3 rfl rfl ?_; clear h a; intro a h
             refine hd_one 13 (by kernel_rfl) rfl ?_
             refine st_storeB h rfl rfl hb3 rfl rfl rfl sz5 ?_; clear h a; intro w17 hbn hq hz a h
             have z17 := hq.size
             replace hb1 := hb1.fr hq (by first | (simp; done) | (simp; omega) | (simp [blks]; done) | (simp [blks]; omega))
             replace hb2 := hb2.fr hq (by first | (simp; done) | (simp; omega) | (simp [blks]; done) | (simp [blks]; omega))
             replace hb4 := hb4.fr hq (by first | (simp; done) | (simp; omega) | (simp [blks]; done) | (simp [blks]; omega))
             replace qh4 := qh4.step hq (by first | (simp; done) | (simp; omega))
             replace hC := hC.step hq (by first | (simp; done) | (simp; omega))
             clear hb3 hq hz; have hb3 : Blk w17 g3 _ [_, _, _, _, _, _] := hbn; clear hbn
             refine hd_next hC ?_
             refine hd_end (by kernel_rfl) ?_
             clear hC hb1_b hb2_b hb3_b hb4_b
             have z17 := qh4.size
             refine bk (h.sub (L' := [(2, _), (3, _)]) (.cons rfl (.cons rfl .nil))) ?_; clear h a
             refine bn' ?_
             exact jE (()) (.cons rfl (.cons rfl .nil)) ⟨(((Fr.refl [g3] _).next q12).step qh4 (by first | (simp; done) | (simp; omega))), by rw [ofO, ofK, if_neg c0, if_neg c1, if_neg c2, if_neg c4]; exact hb3⟩
 · rintro _j w18 ⟨q18, hb3⟩
   have z18 := q18.size
   have lt_hb3 := hb3.lt
   refine kpC [(2, _), (3, _)] (.cons rfl (.cons rfl .nil)) ?_
   refine sr (s_loadBA rfl hb3 ag31 rfl ?_)
   replace hb2 := ((((hb2.ext q3).fr q4 (by first | (simp; done) | (simp; omega) | (simp [blks]; done) | (simp [blks]; omega))).ext q5).fr q6 (by first | (simp; done) | (simp; omega) | (simp [blks]; done) | (simp [blks]; omega))).fr q18 (by first | (simp; done) | (simp; omega) | (simp [blks]; done) | (simp [blks]; omega))
   refine s_storeBA rfl rfl hb2 rfl (by first | (simp [Value.oneCell', S]; done) | exact Enc.one _ _) sz31 (fun w19 hb2 q19 z19 => ?_)
   refine nn (rt (rC Tryd.results13 rfl hb2 ag31  ?_))
   exact ⟨_, rfl, rfl, (((((((q1.next q2).next q3).step q4 (by first | (simp; done) | (simp; omega))).next q5).step q6 (by first | (simp; done) | (simp; omega))).step q18 (by first | (simp; done) | (simp; omega))).step q19 (by first | (simp; done) | (simp; omega)))⟩
end Go.Proofs.YtbalocjcbmkecaaDoor
