/- Walks. -/
import Derived.Test.YtacclnebhbakmaaDoorRows
import Derived.Test.YtacclnebhbakmaaDoorW11
import Derived.Test.YtacclnebhbakmaaDoorXOp
import Derived.Test.YtacclnebhbakmaaDoorXMap
import Derived.Test.YtacclnebhbakmaaDoorXSK
set_option linter.unusedVariables false
set_option linter.unusedSimpArgs false
namespace Go.Proofs.YtacclnebhbakmaaDoor
open Go.Lw

theorem back_ok (v : Value) (w0 : World) (hv : v.cells = #[v]) : Rets Tryd.prog 22 #[v] w0 fun r w' => ∃ g, r = .func (.func 30) #[] #[.pointer (some ⟨g, 0, none⟩)] ∧ w0.heap.size ≤ g ∧ Blk w' g 26 [v] ∧ Fr [] w0 w' := by
 refine we [(0, v)] Tryd.func22 rfl Tryd.ntmps22 rfl (.cons rfl .nil) ?_
 refine sr ?_
 refine bx rfl hv rfl (fun g1 w1 hg1 hb1 q1 z1 => ?_)
 refine asg rfl rfl (nn (sr (s_makeFunc evs_nil (ev1 rfl) rfl (asg rfl rfl (nn (rt (r1 Tryd.results22 rfl ?_)))))))
 exact ⟨_, rfl, g1, rfl, by omega, hb1, q1⟩
abbrev Ix (l : List Int) := {j : Nat // j < l.length}
def ixE {l : List Int} (x : Ix l) : Array Value := #[.int .i64 (x.1 : Int), .int .i64 (l.getD x.1 0)]
theorem back_seq (N gD : Nat) (A : Option Addr) (c : Nat) (l : List Int) (wS : World) (hbS : Blk wS gD 26 [.slice A l.length c]) (hsS : Sl Enc.i64 wS (.slice A l.length c) l) : SeqStopsK (Fo none) N Tryd.prog 30 #[.pointer (some ⟨gD, 0, none⟩)] ixE (KeepT [] (gD :: slB l.length (.slice A l.length c))) (fun xs : List (Ix l) => xs.map Subtype.val = (List.range l.length).reverse) (fun _ => True) (l.length + 1) wS := by
 intro ly J Jx w0 hbel hA hAx hyp hJ0
 have hM := hsS.len_le
 unfold maxLen at hM
 obtain ⟨B0, hB0⟩ : ∃ B0, B0 = w0.heap.size := ⟨_, rfl⟩
 rw [← hB0] at hA
 clear hB0
 have hF : Fr [] wS w0 := Fr.of_below' hbel (Nat.le_refl _)
 have hb1 := hbS.ext hF
 have hs := hsS.ext hF
 have hJ : JAt J B0 [] w0 := ⟨hJ0, hA⟩
 refine weI [(0, .func (.yield ly) #[] #[]), (1, .pointer (some ⟨gD, 0, none⟩))] Tryd.func30 rfl Tryd.ntmps30 rfl (.cons rfl (.cons rfl .nil)) ?_
 have hb10 := hb1
 have hs0 := hs
 have hJ0 := hJ
 refine isq (irg rfl (s_loadB0 rfl hb1 na26 rfl (lnS rfl Tryd.underlying26 rfl (s_sub rfl rfl (wi6 (by omega)) rfl (asg rfl rfl (inl (itn (ibl ?_))))))))
 refine ilpK (ι := Nat × List (Ix l)) [(0, _), (1, _)] (fun p => [(3, .int .i64 ((p.1 : Int) - 1))]) (fun p w' => p.1 ≤ l.length ∧ p.2.map Subtype.val ++ (List.range p.1).reverse = (List.range l.length).reverse ∧ JAt J B0 p.2 w' ∧ Blk w' gD 26 [.slice A l.length c] ∧ Sl Enc.i64 w' (.slice A l.length c) l) (fun p => p.1) (l.length, []) (.cons rfl (.cons rfl (.cons rfl .nil))) ⟨Nat.le_refl _, rfl, hJ, hb1, hs⟩ ?_
 rintro ⟨m, pre⟩ w1 ⟨hm, hdv, hJ, hb1, hs⟩
 simp only at hm hdv hJ
 have hJ0 := hJ
 have hb10 := hb1
 have hs0 := hs
 refine ikpC [(0, _), (1, _), (3, .int .i64 ((m : Int) - 1))] (.cons rfl (.cons rfl (.cons rfl .nil))) ?_
 refine isq (isq (irg rfl (mv rfl rfl (ge' rfl rfl rfl (inl (itn ?_))))))
 refine icd rfl (fun c0 => ?_) (fun c0 => ?_)
 · obtain ⟨k, rfl⟩ : ∃ k, m = k + 1 := ⟨m - 1, by omega⟩
   rw [List.range_succ, List.reverse_append] at hdv
   have hkl : k < l.length := by omega
   have hpl : pre.length < l.length + 1 := by have h1 := congrArg List.length hdv; simp at h1; omega
   refine isk (itn (isq (ibl (isq (iry 6 rfl rfl rfl (by intro g e; cases e) (mv rfl rfl (mv rfl rfl (s_loadB0 rfl hb1 na26 rfl (mv rfl rfl (s_idxL (p := k) (0) rfl hs rfl el26 (by omega) (by omega) (by omega) rfl (fun ad15 hc15 => ?_)))))))))))
   refine s_loadC0 rfl (hc15 _ hs) na3 rfl ?_
   have hb1s := hb1
   have hss := hs
   refine yld rfl (ev2 rfl rfl) (yat (x := ⟨k, hkl⟩) hyp hJ hpl (by first | (simp [ixE]; done) | (simp [ixE]; omega))) rfl ?_
   rintro _ w2 (⟨rfl, hJ', hK'⟩ | ⟨rfl, hJx'⟩)
   · have hb1 := hb1s.keep hK'.1 List.mem_cons_self
     have hs := hss.keep hK'.1 (fun hne k hk => List.mem_cons_of_mem _ (slB_in hne k hk))
     have hJ : JAt J B0 _ w2 := ⟨hJ', hA⟩
     have hJ0 := hJ
     have hb10 := hb1
     have hs0 := hs
     refine nt' rfl rfl (kpL [(0, _), (1, _), (3, _), (18, _)] (.cons rfl (.cons rfl (.cons rfl (.cons rfl .nil)))) (inl (itn (icf rfl (isk (bn' (itn (irg rfl (mv rfl rfl (s_sub rfl rfl (wi6 (by omega)) rfl (asg rfl rfl ?_)))))))))))
     refine inl ?_
     exact ilpE ((k, pre ++ [⟨k, hkl⟩])) (.cons rfl (.cons rfl (.cons (congrArg (fun z => some (Value.int .i64 z)) (show (((k + 1 : Nat) : Int) - 1) - 1 = (k : Int) - 1 by omega)) .nil))) ⟨by simp only; omega, by simpa using hdv, hJ, hb1, hs⟩ (by omega)
   · skip
     refine nt' rfl rfl (kpL [(0, _), (1, _), (3, _), (18, _)] (.cons rfl (.cons rfl (.cons rfl (.cons rfl .nil)))) (inl (itn (ict rfl (irt (rb (tr (tr (rb (r0 Tryd.results30  ?_))))))))))
     exact ⟨⟨_, rfl⟩, .inr ⟨_, trivial, hJx'⟩⟩
 · obtain rfl : m = 0 := by omega
   refine iex (te (te (xh (r0n Tryd.results30  ?_))))
   exact ⟨⟨_, rfl⟩, .inl ⟨pre, by simpa using hdv, hJ.1⟩⟩
end Go.Proofs.YtacclnebhbakmaaDoor
