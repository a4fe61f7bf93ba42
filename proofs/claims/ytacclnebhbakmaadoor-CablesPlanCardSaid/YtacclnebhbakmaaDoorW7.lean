/- Walks. -/
import Derived.Test.YtacclnebhbakmaaDoorRows
import Derived.Test.YtacclnebhbakmaaDoorW6
import Derived.Test.YtacclnebhbakmaaDoorXOp
import Derived.Test.YtacclnebhbakmaaDoorXMap
set_option linter.unusedVariables false
set_option linter.unusedSimpArgs false
namespace Go.Proofs.YtacclnebhbakmaaDoor
open Go.Lw
theorem na26 : NotAgg Tryd.prog 26 := fun _ => by kernel_rfl
theorem tog_ok (i : Nat) (gT gB : Nat) (A1 A2 : Option Addr) (c1 c2 : Nat) (bs : List Int) (w0 : World) (hb1 : Blk w0 gT 26 [.slice A1 bs.length c1]) (hb2 : Blk w0 gB 26 [.slice A2 bs.length c2]) (hs : Sl Enc.i64 w0 (.slice A2 bs.length c2) bs) (hi : i < bs.length) : Rets Tryd.prog 21 #[.int .i64 (i : Int), .pointer (some ⟨gT, 0, none⟩), .pointer (some ⟨gB, 0, none⟩)] w0 fun r w' => r = .int .i64 (togS bs i : Int) ∧ Fr [] w0 w' := by
 have hM := hs.len_le
 unfold maxLen at hM
 refine we [(0, .int .i64 (i : Int)), (1, .pointer (some ⟨gT, 0, none⟩)), (2, .pointer (some ⟨gB, 0, none⟩))] Tryd.func21 rfl Tryd.ntmps21 rfl (.cons rfl (.cons rfl (.cons rfl .nil))) ?_
 refine sr (asg rfl rfl (nn (sr (mv rfl rfl (s_add rfl rfl (wi6 (by omega)) rfl (asg rfl rfl (nn (sq (bl ?_)))))))))
 refine lpK (ι := Nat) [(0, _), (1, _), (2, _)] (fun e => [(5, .int .i64 (e : Int))]) (fun e w' => Fr [] w0 w' ∧ i < e ∧ e ≤ bs.length ∧ ∀ j, i < j → j < e → bs.getD j 0 = bs.getD i 0) (fun e => bs.length - e) (i + 1) (.cons rfl (.cons rfl (.cons rfl (.cons rfl .nil)))) ⟨Fr.refl _ _, ⟨by omega, by omega, fun j h1 h2 => by omega⟩⟩ ?_
 rintro e w1 ⟨q1, ⟨he1, he2, he3⟩⟩
 have z1 := q1.size
 refine kpC [(0, _), (1, _), (2, _), (5, _)] (.cons rfl (.cons rfl (.cons rfl (.cons rfl .nil)))) ?_
 refine sq (sq ?_)
 replace hb1 := hb1.ext q1
 replace hb2 := hb2.ext q1
 replace hs := hs.ext q1
 intro a h
 refine region_quiet hmix (by kernel_rfl) ?_
 refine qt_move h rfl rfl ?_; clear h a; intro a h
 refine qt_loadB0 h rfl (fun _ hw => hb1.ext hw) na26 rfl ?_; clear h a; intro a h
 refine qt_lenS h rfl Tryd.underlying26 rfl ?_; clear h a; intro a h
 refine qt_lt h rfl rfl rfl ?_; clear h a; intro a h
 refine qt_move h rfl rfl ?_; clear h a; intro a h
 first | refine guard_dec (D := 12) h rfl ?_ ?_ | refine guard_ndec (D := 12) h rfl ?_ ?_ | refine guard_any (D := 12) h rfl ?_ ?_
 · clear h; intro g0 h
   refine qd_yes h rfl rfl rfl rfl rfl rfl ?_
   refine qt_loadB0 h rfl (fun _ hw => hb2.ext hw) na26 rfl ?_; clear h a; intro a h
   refine qd_yes h rfl rfl rfl rfl rfl rfl ?_
   refine qt_move h rfl rfl ?_; clear h a; intro a h
   refine qd_yes h rfl rfl rfl rfl rfl rfl ?_
   refine qt_idxL (p := e) (0) h rfl hs rfl el26 (by omega) (by omega) (by omega) rfl ?_; clear h a; intro ad15 hc15 a h
   refine qd_yes h rfl rfl rfl rfl rfl rfl ?_
   refine qt_loadC0 h rfl (fun _ hw => hc15 _ (hs.ext hw)) na3 rfl ?_; clear h a; intro a h
   refine qd_yes h rfl rfl rfl rfl rfl rfl ?_
   refine qt_loadB0 h rfl (fun _ hw => hb2.ext hw) na26 rfl ?_; clear h a; intro a h
   refine qd_yes h rfl rfl rfl rfl rfl rfl ?_
   refine qt_move h rfl rfl ?_; clear h a; intro a h
   refine qd_yes h rfl rfl rfl rfl rfl rfl ?_
   refine qt_idxL (p := i) (0) h rfl hs rfl el26 (by omega) (by omega) (by omega) rfl ?_; clear h a; intro ad19 hc19 a h
   refine qd_yes h rfl rfl rfl rfl rfl rfl ?_
   refine qt_loadC0 h rfl (fun _ hw => hc19 _ (hs.ext hw)) na3 rfl ?_; clear h a; intro a h
   refine qd_yes h rfl rfl rfl rfl rfl rfl ?_
   refine qt_eq h rfl rfl rfl ?_; clear h a; intro a h
   refine qt_pick_t h rfl rfl rfl rfl ?_; clear h a; intro a h
   refine wpQuiet_nil ?_
   intro w2 q2
   have z2 := q2.size
   refine bk (h.sub (L' := [(0, _), (1, _), (2, _), (5, _), (22, _)]) (.cons rfl (.cons rfl (.cons rfl (.cons rfl (.cons rfl .nil)))))) ?_; clear h a
   refine tn ?_
   refine cd rfl (fun c0 => ?_) (fun c0 => ?_)
   · refine sk (tn (bl (rg (mv rfl rfl (s_add rfl rfl (wi6 (by omega)) rfl (asg rfl rfl (nl (bn' ?_))))))))
     exact lpE (e + 1) (.cons rfl (.cons rfl (.cons rfl (.cons rfl .nil)))) ⟨(q1.next q2), ⟨by omega, by omega, fun j h1 h2 => by
       rcases Nat.lt_or_ge j e with h | h
       · exact he3 j h1 h
       · have e' : j = e := by omega
         subst e'
         omega⟩⟩ (by omega)
   · refine ex (te (te (xh (tn (sr (mv rfl rfl (asg rfl rfl (kpL [(4, _)] (.cons rfl .nil) (nn (rt (r1 Tryd.results21 rfl ?_)))))))))))
     exact ⟨_, rfl, by rw [tog_of he1 he2 he3 (by omega)], (q1.next q2)⟩
 · clear h; intro g0 h
   refine qd_no h rfl rfl rfl rfl rfl rfl rfl rfl ?_; clear h a; intro a h
   refine qd_no h rfl rfl rfl rfl rfl rfl rfl rfl ?_; clear h a; intro a h
   refine qd_no h rfl rfl rfl rfl rfl rfl rfl rfl ?_; clear h a; intro a h
   refine qd_no h rfl rfl rfl rfl rfl rfl rfl rfl ?_; clear h a; intro a h
   refine qd_no h rfl rfl rfl rfl rfl rfl rfl rfl ?_; clear h a; intro a h
   refine qd_no h rfl rfl rfl rfl rfl rfl rfl rfl ?_; clear h a; intro a h
   refine qd_no h rfl rfl rfl rfl rfl rfl rfl rfl ?_; clear h a; intro a h
   refine qd_no h rfl rfl rfl rfl rfl rfl rfl rfl ?_; clear h a; intro a h
   refine qd_no h rfl rfl rfl rfl rfl rfl rfl rfl ?_; clear h a; intro a h
   refine qt_pick_f h rfl rfl rfl rfl ?_; clear h a; intro a h
   refine wpQuiet_nil ?_
   intro w3 q3
   have z3 := q3.size
   refine bk (h.sub (L' := [(0, _), (1, _), (2, _), (5, _), (22, _)]) (.cons rfl (.cons rfl (.cons rfl (.cons rfl (.cons rfl .nil)))))) ?_; clear h a
   refine tn (cf rfl (ex (te (te (xh (tn (sr (mv rfl rfl (asg rfl rfl (kpL [(4, _)] (.cons rfl .nil) (nn ?_)))))))))))
   refine rt (r1 Tryd.results21 rfl ?_)
   exact ⟨_, rfl, by rw [tog_of he1 he2 he3 (by omega)], (q1.next q3)⟩
end Go.Proofs.YtacclnebhbakmaaDoor
