/- Walks. -/
import Derived.Test.YtbalocjcbmkecaaGreatDoorRows
import Derived.Test.YtbalocjcbmkecaaGreatDoorW10
import Derived.Test.YtbalocjcbmkecaaGreatDoorXOp
import Derived.Test.YtbalocjcbmkecaaGreatDoorXMap
set_option linter.unusedVariables false
set_option linter.unusedSimpArgs false
namespace Go.Proofs.YtbalocjcbmkecaaGreatDoor
open Go.Lw
theorem ag48 : AggOf Tryz.prog 48 6 := ⟨fun _ => by kernel_rfl, fun _ => by kernel_rfl⟩
theorem co16 : CallOf Tryz.prog 16 := CallOf.mk' Tryz.func16 (by kernel_rfl) (by kernel_rfl)
theorem el23 : ElemOf Tryz.prog 23 48 encOX 6 := ElemOf.mk' (z := (.agg #[.int .u8 0, .int .u8 0, .int .u8 0, .int .u8 0, .int .u8 0, .int .u8 0])) Tryz.underlying23 (by kernel_rfl) rfl
theorem take_succ_g {α : Type} (l : List α) (i : Nat) (z : α) (h : i < l.length) : l.take (i + 1) = l.take i ++ [l.getD i z] := by
  rw [List.take_succ_eq_append_getElem h]; simp [List.getD, h]
theorem oneF_succ (s : List UInt8) (i : Nat) (h : i < s.length) : (s.take (i + 1)).filter (fun c => decide ((c.toNat : Int) ≠ 10)) = (s.take i).filter (fun c => decide ((c.toNat : Int) ≠ 10)) ++ (if ((s.getD i 0).toNat : Int) ≠ 10 then [s.getD i 0] else []) := by
  rw [take_succ_g s i 0 h, List.filter_append]
  by_cases e : ((s.getD i 0).toNat : Int) ≠ 10 <;> simp only [List.filter, e, decide_true, decide_false, if_true, if_false, not_false_iff, ne_eq] <;> simp_all
theorem slice_one (s : List UInt8) (i : Nat) (h : i < s.length) : (s.take (i + 1)).drop i = [s.getD i 0] := by
  rw [take_succ_g s i 0 h, List.drop_append_of_le_length (by simp; omega), List.drop_of_length_le (by simp; omega)]; rfl
theorem pof_ok (v : Value) (xs : List MOp) (w0 : World) (hs : Sl encOX w0 v xs) (hb : ∀ x ∈ xs, x.Bytes) (hl : xs.length ≤ 1000) : Rets Tryz.prog 6 #[v] w0 fun r w' => ∃ A c, r = .slice A (xs.map ofO).length c ∧ Lw.Own encOp 41 w0.heap.size w' r (xs.map ofO) ∧ Fr [] w0 w' := by
 obtain ⟨A, c, rfl, hc, hM, hA⟩ := id hs
 clear hA
 have hsb : ∀ k ∈ blks (Value.slice A xs.length c), xs ≠ [] → k < w0.heap.size := fun k hk hne => hs.blk hne k hk
 refine we [(0, .slice A xs.length c)] Tryz.func6 rfl Tryz.ntmps6 rfl (.cons rfl .nil) ?_
 refine sr (asg rfl rfl (nn (sr (asg rfl rfl (nn (sq (sr (asg rfl rfl (nn (bl ?_))))))))))
 refine lpK (ι := Nat × List MOp × Option Addr × Nat) [(0, _)] (fun p => [(3, .slice p.2.2.1 p.2.1.length p.2.2.2), (4, .int .i64 (p.1 : Int))]) (fun p w' => Fr [] w0 w' ∧ p.1 ≤ xs.length ∧ Lw.Own encOp 41 w0.heap.size w' (.slice p.2.2.1 p.2.1.length p.2.2.2) p.2.1 ∧ p.2.1 = (xs.take p.1).map ofO) (fun p => xs.length - p.1) (0, [], none, 0) (.cons rfl (.cons rfl (.cons rfl .nil))) ⟨Fr.refl _ _, ⟨Nat.zero_le _, Own.nil _, rfl⟩⟩ ?_
 rintro ⟨i, acc, A3, c3⟩ w1 ⟨q1, ⟨hi, ho3, hac⟩⟩
 simp only at hi ho3 hac
 have hal : acc.length ≤ 1000 := by rw [hac]; simp; omega
 have z1 := q1.size
 refine kpC [(0, _), (3, .slice A3 acc.length c3), (4, .int .i64 (i : Int))] (.cons rfl (.cons rfl (.cons rfl .nil))) ?_
 refine sq (sr (mv rfl rfl (mv rfl rfl (lnS rfl Tryz.underlying23 rfl (lt' rfl rfl rfl (nn ?_))))))
 refine cd rfl (fun c0 => ?_) (fun c0 => ?_)
 · refine sk (tn (sq (bl (rg (mv rfl rfl (mv rfl rfl (mv rfl rfl ?_)))))))
   replace hs := hs.ext q1
   refine s_idxL (p := i) (op0) rfl hs rfl el23 (by omega) (by omega) (by omega) rfl (fun ad14 hc14 => ?_)
   refine s_loadA rfl (hc14 _ hs) ag48 rfl ?_
   refine cl (ev1 rfl) co16 (of_ok (xs.getD i op0) _ (hb _ (by rw [List.getD, List.getElem?_eq_getElem (show i < xs.length by omega)]; exact List.getElem_mem _))) rfl ?_
   rintro _ w2 ⟨rfl, q2⟩
   have z2 := q2.size
   refine s_bslice ([ofO (xs.getD i op0)]) (ev1 rfl) rfl rfl rfl el25 (Nat.le_of_ble_eq_true rfl) rfl (fun g17 w3 hg17 ho17 q3 z3 => ?_)
   replace hs := hs.ext (q2.next q3)
   replace ho3 := ho3.ext (q2.next q3)
   have hoo18 := ho3
   refine s_append rfl rfl ho3 ho17.sl el25 (by unfold maxLen; simp; omega) (by simp; omega) (by omega) rfl (fun v18 w4 ho3 q4 hor18 => ?_)
   have z4 := q4.size
   replace hs := hs.fr q4 (fun k hk hb => by have := (hoo18.blk k hk).1; have := hsb k hb (fun e => by have h0 : xs.length = ([] : List MOp).length := congrArg List.length e; simp only [List.length_nil] at h0; omega); omega)
   obtain ⟨A7, c7, rfl, hc7⟩ := ho3.sl.form
   refine asg rfl rfl (kpL [(0, _), (3, _), (4, _)] (.cons rfl (.cons rfl (.cons rfl .nil))) (nl (bn' (tn (rg (mv rfl rfl (s_add rfl rfl (wi6 (by omega)) rfl (asg rfl rfl (nl ?_)))))))))
   exact lpE ((i + 1, acc ++ [ofO (xs.getD i op0)], A7, c7)) (.cons rfl (.cons rfl (.cons rfl .nil))) ⟨(((q1.next q2).next q3).step q4 (fun k hk hlt => absurd (hoo18.blk k hk).1 (by omega))), ⟨by omega, ho3, by rw [hac, take_succ_g xs i op0 (by omega)]; simp⟩⟩ (by omega)
 · obtain rfl : i = xs.length := by omega
   rw [List.take_length] at hac
   subst hac
   refine ex (te (te (xh (tn (sr (mv rfl rfl (asg rfl rfl (nn (rt (r1 Tryz.results6 rfl ?_))))))))))
   exact ⟨_, rfl, A3, c3, rfl, ho3, q1⟩
end Go.Proofs.YtbalocjcbmkecaaGreatDoor
