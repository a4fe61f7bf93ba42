/- Walks. -/
import Derived.Test.YtbalocjcbmkecaaGreatDoorRows
import Derived.Test.YtbalocjcbmkecaaGreatDoorW31
import Derived.Test.YtbalocjcbmkecaaGreatDoorXOp
import Derived.Test.YtbalocjcbmkecaaGreatDoorXMap
set_option linter.unusedVariables false
set_option linter.unusedSimpArgs false
namespace Go.Proofs.YtbalocjcbmkecaaGreatDoor
open Go.Lw
theorem co9 : CallOf Tryz.prog 9 := CallOf.mk' Tryz.func9 (by kernel_rfl) (by kernel_rfl)
theorem co10 : CallOf Tryz.prog 10 := CallOf.mk' Tryz.func10 (by kernel_rfl) (by kernel_rfl)
theorem co19 : CallOf Tryz.prog 19 := CallOf.mk' Tryz.func19 (by kernel_rfl) (by kernel_rfl)
set_option maxHeartbeats 4000000 in
theorem pass10_ok (v u : Value) (os : List MOp) (a b : Nat) (w0 : World) (hs : Sl encOp w0 v os) (hr : Sl Enc.i64 w0 u (rkL os)) (hc : ∀ o ∈ os, chkO o = 0) (hl : os.length ≤ 1000) (hab : a ≤ b) (hb : b ≤ os.length) : Rets Tryz.prog 9 #[v, u, .int .i64 (a : Int), .int .i64 (b : Int)] w0 fun r w' => ∃ z : Int, r = .int .i64 z ∧ (z = 1 ∧ pasS os a b ∨ z = 0 ∧ ¬ pasS os a b) ∧ Fr [] w0 w' := by
 obtain ⟨A, c, rfl, hcc, hM, hA⟩ := id hs
 clear hA
 obtain ⟨A1, c1', rfl, hcc1, hM1, hA1⟩ := id hr
 clear hA1
 have hrl := rkL_len os
 have hoc := all_getD hc
 have hri := rkA_in hc
 have hsb : os ≠ [] → ∀ k ∈ blks (Value.slice A os.length c), k < w0.heap.size := fun hne => hs.blk hne
 refine we [(0, .slice A os.length c), (1, .slice A1 (rkL os).length c1'), (2, .int .i64 (a : Int)), (3, .int .i64 (b : Int))] Tryz.func9 rfl Tryz.ntmps9 rfl (.cons rfl (.cons rfl (.cons rfl (.cons rfl .nil)))) ?_
 have hs0 := hs
 have hr0 := hr
 refine sr (asg rfl rfl (nn (sr (asg rfl rfl (nn (sq (sr (mv rfl rfl (asg rfl rfl (nn (bl ?_)))))))))))
 refine lpK (ι := Nat × Int) [(0, _), (1, _), (3, _)] (fun p => [(9, .int .i64 p.2), (10, .int .i64 (p.1 : Int))]) (fun p w' => Fr [] w0 w' ∧ a ≤ p.1 ∧ p.1 ≤ b ∧ PI os a p.1 p.2) (fun p => b - p.1) (a, -1) (.cons rfl (.cons rfl (.cons rfl (.cons rfl (.cons rfl .nil))))) ⟨Fr.refl _ _, ⟨Nat.le_refl _, hab, PI.start os a⟩⟩ ?_
 rintro ⟨i, last⟩ w1 ⟨q1, ⟨hi, hib, hpi⟩⟩
 simp only at hi hib hpi
 have hran := hpi.ran
 have z1 := q1.size
 refine kpC [(0, _), (1, _), (3, _), (9, .int .i64 last), (10, .int .i64 (i : Int))] (.cons rfl (.cons rfl (.cons rfl (.cons rfl (.cons rfl .nil))))) ?_
 refine sq (sr (mv rfl rfl (mv rfl rfl (lt' rfl rfl rfl (nn ?_)))))
 refine cd rfl (fun c0 => ?_) (fun c0 => ?_)
 · have hch := chk_nd (hoc i (by omega))
   refine sk (tn (sq (bl (sq (sq ?_)))))
   refine rbo (r := 30) (L' := [(0, _), (1, _), (3, _), (9, _), (10, _)]) ((((os.getD i op0).k = 3) ∧ (0 ≤ last))) (.cons rfl (.cons rfl (.cons rfl (.cons rfl (.cons rfl .nil))))) ?_ ?_
   · refine mv rfl rfl (mv rfl rfl ?_)
     replace hs := hs0.ext q1
     refine s_idxL (p := i) (op0) rfl hs rfl el25 (by omega) (by omega) (by omega) rfl (fun ad23 hc23 => ?_)
     refine fad rfl fa41_0 rfl (s_loadC rfl (hc23 _ hs) rfl na35 rfl (eq' rfl rfl rfl (mv rfl rfl ?_)))
     refine gs 27 rfl (fun g0 => ?_) (fun g0 => ?_)
     · exact gY rfl (mv rfl rfl (gY rfl (ge' rfl rfl rfl (pkt rfl rfl rfl rfl (rbe rfl (by first | exact bt (by omega) | exact bf (by omega) | exact bi (by omega) | exact bn (by omega) | (simp_all; done) | (simp_all; omega)) (.cons rfl (.cons rfl (.cons rfl (.cons rfl (.cons rfl .nil))))))))))
     · exact gN rfl rfl rfl (gN rfl rfl rfl (pkf rfl rfl rfl rfl (rbe rfl (by first | exact bt (by omega) | exact bf (by omega) | exact bi (by omega) | exact bn (by omega) | (simp_all; done) | (simp_all; omega)) (.cons rfl (.cons rfl (.cons rfl (.cons rfl (.cons rfl .nil))))))))
   · refine tn ?_
     refine cd rfl (fun c1 => ?_) (fun c1 => ?_)
     · refine sr (asg rfl rfl (kpL [(8, _)] (.cons rfl .nil) (nn (rt (tr (rb (tr (tr (rb (tr (r1 Tryz.results9 rfl ?_)))))))))))
       exact ⟨_, rfl, 0, rfl, .inr ⟨rfl, PI.no (hpi.stop hi (by omega) c1.2 (.inl c1.1)) hi (by omega)⟩, q1⟩
     · refine sk (tn (sq (sr (mv rfl rfl (mv rfl rfl ?_)))))
       replace hs := hs0.ext q1
       refine s_idxL (p := i) (op0) rfl hs rfl el25 (by omega) (by omega) (by omega) rfl (fun ad33 hc33 => ?_)
       refine s_loadA rfl (hc33 _ hs) ag41 rfl ?_
       refine cl (ev1 rfl) co10 (class10_ok (os.getD i op0) _) rfl ?_
       rintro _ w2 ⟨rfl, q2⟩
       have z2 := q2.size
       refine eq' rfl rfl rfl (kpL [(0, _), (1, _), (3, _), (9, _), (10, _), (36, _)] (.cons rfl (.cons rfl (.cons rfl (.cons rfl (.cons rfl (.cons rfl .nil)))))) (nn ?_))
       refine cd rfl (fun c2 => ?_) (fun c2 => ?_)
       · refine ex (te (xh (tn (rg (mv rfl rfl (s_add rfl rfl (wi6 (by omega)) rfl (asg rfl rfl (nl ?_))))))))
         exact lpE ((i + 1, last)) (.cons rfl (.cons rfl (.cons rfl (.cons rfl (.cons rfl .nil))))) ⟨(q1.next q2), ⟨by simp only; omega, by simp only; omega, hpi.idle hi (by omega) c2 c1⟩⟩ (by omega)
       · refine sk (tn (sq (sr (mv rfl rfl (ge' rfl rfl rfl (nn ?_))))))
         refine cd rfl (fun c3 => ?_) (fun c3 => ?_)
         · have hwk := hpi.wk c3
           have hch2 := chk_nd (hoc last.toNat (by omega))
           have hrr := hri i (by omega)
           refine jn (ι := Nat × Nat) [(0, _), (1, _), (3, _), (9, _), (10, _)] (fun p => [(11, .pointer (some ⟨p.1, 0, none⟩)), (12, .pointer (some ⟨p.2, 0, none⟩))]) (fun p w' => Fr [] w2 w' ∧ w2.heap.size ≤ p.1 ∧ w2.heap.size ≤ p.2 ∧ p.1 ≠ p.2 ∧ Blk w' p.1 41 (encOp.enc (os.getD last.toNat op0)) ∧ Blk w' p.2 41 (encOp.enc (os.getD i op0))) (.cons rfl (.cons rfl (.cons rfl (.cons rfl (.cons rfl .nil))))) ?_ ?_
           · replace hs := hs0.ext (q1.next q2)
             intro a h
             have qh9 := Fr.refl [] w2
             refine region_held (fun wb w' => Fr [] wb w') hmix ?_; intro w3 hq
             have z3 := hq.size
             replace hs := hs.ext hq
             replace qh9 := qh9.next hq
             have hsz := hq.size; clear hq; have hC : Fr [] w3 w3 := Fr.refl _ _
             have hs_b := hs
             refine hd_move 0 (by kernel_rfl) (by kernel_rfl) (by kernel_rfl) hC h wn rfl rfl rfl ?_; clear h a; intro a h
             refine hd_move 1 (by kernel_rfl) (by kernel_rfl) (by kernel_rfl) hC h wn rfl rfl rfl ?_; clear h a; intro a h
             refine hd_idxL (p := last.toNat) (op0) 2 (by kernel_rfl) (by kernel_rfl) (by kernel_rfl) hC h wn rfl hs rfl el25 (by omega) (by omega) (by omega) rfl rfl ?_; clear h a; intro ad41 hc41 a h
             refine hd_loadA 3 (by kernel_rfl) (by kernel_rfl) (by kernel_rfl) hC h wn rfl (fun _ hw => hc41 _ (hs_b.ext hw)) ag41 rfl rfl ?_; clear h a; intro a h
             refine hd_move 4 (by kernel_rfl) (by kernel_rfl) (by kernel_rfl) hC h wn rfl rfl rfl ?_; clear h a; intro a h
             refine hd_move 5 (by kernel_rfl) (by kernel_rfl) (by kernel_rfl) hC h wn rfl rfl rfl ?_; clear h a; intro a h
             refine hd_idxL (p := i) (op0) 6 (by kernel_rfl) (by kernel_rfl) (by kernel_rfl) hC h wn rfl hs rfl el25 (by omega) (by omega) (by omega) rfl rfl ?_; clear h a; intro ad45 hc45 a h
             refine hd_loadA 7 (by kernel_rfl) (by kernel_rfl) (by kernel_rfl) hC h wn rfl (fun _ hw => hc45 _ (hs_b.ext hw)) ag41 rfl rfl ?_; clear h a; intro a h
             refine hd_two 8 9 (by kernel_rfl) rfl rfl ?_ ?_
             · refine id ?_
               refine st_alloc h zv41 rfl rfl ?_; clear h a; intro w4 hb11 hq hz a h
               obtain ⟨g_11, hg⟩ : ∃ g, g = w3.heap.size := ⟨_, rfl⟩; rw [← hg] at hb11 h hz
               have hl_qh9_11 : w2.heap.size ≤ g_11 := by have := qh9.size; omega
               have hl_hC_11 : w3.heap.size ≤ g_11 := by have := hC.size; omega
               have z4 := hq.size
               replace hs := hs.ext hq
               replace qh9 := qh9.next hq
               replace hC := hC.next hq
               clear hq
               refine hd_next hC ?_
               refine hd_one 9 (by kernel_rfl) rfl ?_
               refine st_alloc h zv41 rfl rfl ?_; clear h a; intro w5 hb12 hq hz a h
               obtain ⟨g_12, hg⟩ : ∃ g, g = w4.heap.size := ⟨_, rfl⟩; rw [← hg] at hb12 h hz
               have hl_qh9_12 : w2.heap.size ≤ g_12 := by have := qh9.size; omega
               have hl_hC_12 : w3.heap.size ≤ g_12 := by have := hC.size; omega
               have hn_11_12 : g_11 < g_12 := by have := hb11.lt; omega
               have z5 := hq.size
               replace hs := hs.ext hq
               replace qh9 := qh9.next hq
               replace hC := hC.next hq
               replace hb11 := hb11.ext hq
               clear hq
               refine hd_next hC ?_
               refine hd_one 10 (by kernel_rfl) rfl ?_
               refine st_storeBA h rfl rfl hb11 rfl (by first | (simp [Value.oneCell', S]; done) | exact Enc.one _ _) sz41 ?_; clear h a; intro w6 hbn hq hz a h
               have z6 := hq.size
               replace hs := hs.fr hq (by intro k hk hb; simp at hk; subst hk; have := hsb (fun e => by have h0 := congrArg List.length e; simp only [List.length_nil] at h0; omega) _ hb; omega)
               replace qh9 := qh9.step hq (by first | (simp; done) | (simp; omega))
               replace hC := hC.step hq (by first | (simp; done) | (simp; omega))
               replace hb12 := hb12.fr hq (by first | (simp; done) | (simp; omega) | (simp [blks]; done) | (simp [blks]; omega))
               clear hb11 hq hz; have hb11 : Blk w6 g_11 _ [_, _, _, _, _, _] := hbn; clear hbn
               refine hd_next hC ?_
               refine hd_one 11 (by kernel_rfl) rfl ?_
               refine st_storeBA h rfl rfl hb12 rfl (by first | (simp [Value.oneCell', S]; done) | exact Enc.one _ _) sz41 ?_; clear h a; intro w7 hbn hq hz a h
               have z7 := hq.size
               replace hs := hs.fr hq (by intro k hk hb; simp at hk; subst hk; have := hsb (fun e => by have h0 := congrArg List.length e; simp only [List.length_nil] at h0; omega) _ hb; omega)
               replace qh9 := qh9.step hq (by first | (simp; done) | (simp; omega))
               replace hC := hC.step hq (by first | (simp; done) | (simp; omega))
               replace hb11 := hb11.fr hq (by first | (simp; done) | (simp; omega) | (simp [blks]; done) | (simp [blks]; omega))
               clear hb12 hq hz; have hb12 : Blk w7 g_12 _ [_, _, _, _, _, _] := hbn; clear hbn
               refine hd_next hC ?_
               refine hd_end (by kernel_rfl) ?_
               clear hC hs_b
               have z7 := qh9.size
               refine bk (h.sub (L' := [(0, _), (1, _), (3, _), (9, _), (10, _), (11, _), (12, _)]) (.cons rfl (.cons rfl (.cons rfl (.cons rfl (.cons rfl (.cons rfl (.cons rfl .nil)))))))) ?_; clear h a
               exact jE ((g_11, g_12)) (.cons rfl (.cons rfl (.cons rfl (.cons rfl (.cons rfl (.cons rfl (.cons rfl .nil))))))) ⟨qh9, ⟨by omega, by omega, by omega, hb11, hb12⟩⟩
             · refine id ?_
               refine st_alloc h zv41 rfl rfl ?_; clear h a; intro w8 hb12 hq hz a h
               obtain ⟨g_12, hg⟩ : ∃ g, g = w3.heap.size := ⟨_, rfl⟩; rw [← hg] at hb12 h hz
               have hl_qh9_12 : w2.heap.size ≤ g_12 := by have := qh9.size; omega
               have hl_hC_12 : w3.heap.size ≤ g_12 := by have := hC.size; omega
               have z8 := hq.size
               replace hs := hs.ext hq
               replace qh9 := qh9.next hq
               replace hC := hC.next hq
               clear hq
               refine hd_next hC ?_
               refine hd_one 8 (by kernel_rfl) rfl ?_
               refine st_alloc h zv41 rfl rfl ?_; clear h a; intro w9 hb11 hq hz a h
               obtain ⟨g_11, hg⟩ : ∃ g, g = w8.heap.size := ⟨_, rfl⟩; rw [← hg] at hb11 h hz
               have hl_qh9_11 : w2.heap.size ≤ g_11 := by have := qh9.size; omega
               have hl_hC_11 : w3.heap.size ≤ g_11 := by have := hC.size; omega
               have hn_12_11 : g_12 < g_11 := by have := hb12.lt; omega
               have z9 := hq.size
               replace hs := hs.ext hq
               replace qh9 := qh9.next hq
               replace hC := hC.next hq
               replace hb12 := hb12.ext hq
               clear hq
               refine hd_next hC ?_
               refine hd_one 10 (by kernel_rfl) rfl ?_
               refine st_storeBA h rfl rfl hb11 rfl (by first | (simp [Value.oneCell', S]; done) | exact Enc.one _ _) sz41 ?_; clear h a; intro w10 hbn hq hz a h
               have z10 := hq.size
               replace hs := hs.fr hq (by intro k hk hb; simp at hk; subst hk; have := hsb (fun e => by have h0 := congrArg List.length e; simp only [List.length_nil] at h0; omega) _ hb; omega)
               replace qh9 := qh9.step hq (by first | (simp; done) | (simp; omega))
               replace hC := hC.step hq (by first | (simp; done) | (simp; omega))
               replace hb12 := hb12.fr hq (by first | (simp; done) | (simp; omega) | (simp [blks]; done) | (simp [blks]; omega))
               clear hb11 hq hz; have hb11 : Blk w10 g_11 _ [_, _, _, _, _, _] := hbn; clear hbn
               refine hd_next hC ?_
               refine hd_one 11 (by kernel_rfl) rfl ?_
               refine st_storeBA h rfl rfl hb12 rfl (by first | (simp [Value.oneCell', S]; done) | exact Enc.one _ _) sz41 ?_; clear h a; intro w11 hbn hq hz a h
               have z11 := hq.size
               replace hs := hs.fr hq (by intro k hk hb; simp at hk; subst hk; have := hsb (fun e => by have h0 := congrArg List.length e; simp only [List.length_nil] at h0; omega) _ hb; omega)
               replace qh9 := qh9.step hq (by first | (simp; done) | (simp; omega))
               replace hC := hC.step hq (by first | (simp; done) | (simp; omega))
               replace hb11 := hb11.fr hq (by first | (simp; done) | (simp; omega) | (simp [blks]; done) | (simp [blks]; omega))
               clear hb12 hq hz; have hb12 : Blk w11 g_12 _ [_, _, _, _, _, _] := hbn; clear hbn
               refine hd_next hC ?_
               refine hd_end (by kernel_rfl) ?_
               clear hC hs_b
               have z11 := qh9.size
               refine bk (h.sub (L' := [(0, _), (1, _), (3, _), (9, _), (10, _), (11, _), (12, _)]) (.cons rfl (.cons rfl (.cons rfl (.cons rfl (.cons rfl (.cons rfl (.cons rfl .nil)))))))) ?_; clear h a
               exact jE ((g_11, g_12)) (.cons rfl (.cons rfl (.cons rfl (.cons rfl (.cons rfl (.cons rfl (.cons rfl .nil))))))) ⟨qh9, ⟨by omega, by omega, by omega, hb11, hb12⟩⟩
           · rintro ⟨g11, g12⟩ w12 ⟨q12, ⟨hg11, hg12, hgn, hb11, hb12⟩⟩
             have z12 := q12.size
             have lt_hb11 := hb11.lt
             have lt_hb12 := hb12.lt
             refine kpC [(0, _), (1, _), (3, _), (9, _), (10, _), (11, _), (12, _)] (.cons rfl (.cons rfl (.cons rfl (.cons rfl (.cons rfl (.cons rfl (.cons rfl .nil))))))) ?_
             simp only at hg11 hg12 hgn hb11 hb12
             replace hb11 : Blk w12 g11 41 [.int .u8 (os.getD last.toNat op0).k, .int .u8 (os.getD last.toNat op0).d, .int .u8 (os.getD last.toNat op0).b, .int .i64 (os.getD last.toNat op0).p, .int .u8 (os.getD last.toNat op0).y, .int .i64 (os.getD last.toNat op0).r] := hb11
             replace hb12 : Blk w12 g12 41 [.int .u8 (os.getD i op0).k, .int .u8 (os.getD i op0).d, .int .u8 (os.getD i op0).b, .int .i64 (os.getD i op0).p, .int .u8 (os.getD i op0).y, .int .i64 (os.getD i op0).r] := hb12
             refine jn (ι := Unit) [(0, _), (1, _), (3, _), (10, _), (11, _), (12, _)] (fun _j => [(13, .int .i64 (spL (os.getD last.toNat op0) (rackF 0 (os.take i)))), (14, .int .i64 (spL (os.getD i op0) (rackF 0 (os.take i))))]) (fun _j w' => Fr [] w12 w') (.cons rfl (.cons rfl (.cons rfl (.cons rfl (.cons rfl (.cons rfl .nil)))))) ?_ ?_
             · replace hr := hr0.ext ((q1.next q2).next q12)
               intro a h
               have qh10 := Fr.refl [] w12
               refine region_held (fun wb w' => Fr [] wb w') hmix ?_; intro w13 hq
               have z13 := hq.size
               replace hr := hr.ext hq
               replace hb11 := hb11.ext hq
               replace hb12 := hb12.ext hq
               replace qh10 := qh10.next hq
               have hsz := hq.size; clear hq; have hC : Fr [] w13 w13 := Fr.refl _ _
               have hr_b := hr
               have hb11_b := hb11
               have hb12_b := hb12
               refine hd_loadBA 0 (by kernel_rfl) (by kernel_rfl) (by kernel_rfl) hC h wn rfl (fun _ hw => hb11_b.ext hw) ag41 rfl rfl ?_; clear h a; intro a h
               refine hd_move 1 (by kernel_rfl) (by kernel_rfl) (by kernel_rfl) hC h wn rfl rfl rfl ?_; clear h a; intro a h
               refine hd_move 2 (by kernel_rfl) (by kernel_rfl) (by kernel_rfl) hC h wn rfl rfl rfl ?_; clear h a; intro a h
               refine hd_idxL (p := last.toNat) (0) 3 (by kernel_rfl) (by kernel_rfl) (by kernel_rfl) hC h wn rfl hr rfl el27 (by omega) (by omega) (by omega) rfl rfl ?_; clear h a; intro ad50 hc50 a h
               refine hd_loadC0 4 (by kernel_rfl) (by kernel_rfl) (by kernel_rfl) hC h wn rfl (fun _ hw => hc50 _ (hr_b.ext hw)) na3 rfl rfl ?_; clear h a; intro a h
               refine hd_loadBA 6 (by kernel_rfl) (by kernel_rfl) (by kernel_rfl) hC h wn rfl (fun _ hw => hb12_b.ext hw) ag41 rfl rfl ?_; clear h a; intro a h
               refine hd_move 7 (by kernel_rfl) (by kernel_rfl) (by kernel_rfl) hC h wn rfl rfl rfl ?_; clear h a; intro a h
               refine hd_move 8 (by kernel_rfl) (by kernel_rfl) (by kernel_rfl) hC h wn rfl rfl rfl ?_; clear h a; intro a h
               refine hd_idxL (p := i) (0) 9 (by kernel_rfl) (by kernel_rfl) (by kernel_rfl) hC h wn rfl hr rfl el27 (by omega) (by omega) (by omega) rfl rfl ?_; clear h a; intro ad56 hc56 a h
               refine hd_loadC0 10 (by kernel_rfl) (by kernel_rfl) (by kernel_rfl) hC h wn rfl (fun _ hw => hc56 _ (hr_b.ext hw)) na3 rfl rfl ?_; clear h a; intro a h
               refine hd_one 5 (by kernel_rfl) rfl ?_
               refine st_call h (evs_cons rfl (evs_cons rfl evs_nil)) co19 (spot10_ok (os.getD last.toNat op0) _ _ (by omega) (by rw [rkL_get (by omega)]; omega)) rfl ?_; clear h a; rintro _ w14 ⟨rfl, hq⟩ a h
               have z14 := hq.size
               replace hr := hr.ext hq
               replace hb11 := hb11.ext hq
               replace hb12 := hb12.ext hq
               replace qh10 := qh10.next hq
               replace hC := hC.next hq
               clear hq
               refine hd_next hC ?_
               refine hd_one 11 (by kernel_rfl) rfl ?_
               refine st_call h (evs_cons rfl (evs_cons rfl evs_nil)) co19 (spot10_ok (os.getD i op0) _ _ (by omega) (by rw [rkL_get (by omega)]; omega)) rfl ?_; clear h a; rintro _ w15 ⟨rfl, hq⟩ a h
               have z15 := hq.size
               replace hr := hr.ext hq
               replace hb11 := hb11.ext hq
               replace hb12 := hb12.ext hq
               replace qh10 := qh10.next hq
               replace hC := hC.next hq
               clear hq
               refine hd_next hC ?_
               refine hd_one 12 (by kernel_rfl) rfl ?_
               refine st_assign h rfl rfl ?_; clear h a; intro a h
               refine hd_next hC ?_
               refine hd_one 13 (by kernel_rfl) rfl ?_
               refine st_assign h rfl rfl ?_; clear h a; intro a h
               refine hd_next hC ?_
               refine hd_end (by kernel_rfl) ?_
               clear hC hr_b hb11_b hb12_b
               have z15 := qh10.size
               refine bk (h.sub (L' := [(0, _), (1, _), (3, _), (10, _), (11, _), (12, _), (13, _), (14, _)]) (.cons rfl (.cons rfl (.cons rfl (.cons rfl (.cons rfl (.cons rfl (.cons rfl (.cons rfl .nil))))))))) ?_; clear h a
               exact jE (()) (.cons rfl (.cons rfl (.cons rfl (.cons rfl (.cons rfl (.cons rfl (.cons (congrArg (fun z => some (Value.int .i64 (spL (os.getD last.toNat op0) z))) (by rw [rkL_get (by omega)]; exact hwk.2)) (.cons (congrArg (fun z => some (Value.int .i64 (spL (os.getD i op0) z))) (rkL_get (by omega))) .nil)))))))) qh10
             · rintro _j w16 q16
               have z16 := q16.size
               refine kpC [(0, _), (1, _), (3, _), (10, _), (11, _), (12, _), (13, _), (14, _)] (.cons rfl (.cons rfl (.cons rfl (.cons rfl (.cons rfl (.cons rfl (.cons rfl (.cons rfl .nil)))))))) ?_
               refine bl ?_
               refine jn (ι := Unit) [(0, _), (1, _), (3, _), (10, _), (11, _), (12, _), (13, _), (14, _)] (fun _j => [(59, .bool (decide (clsS (os.getD last.toNat op0).k ≠ clsS (os.getD i op0).k)))]) (fun _j w' => Fr [] w16 w') (.cons rfl (.cons rfl (.cons rfl (.cons rfl (.cons rfl (.cons rfl (.cons rfl (.cons rfl .nil)))))))) ?_ ?_
               · replace hb11 := hb11.ext q16
                 replace hb12 := hb12.ext q16
                 intro a h
                 have qh11 := Fr.refl [] w16
                 refine region_held (fun wb w' => Fr [] wb w') hmix ?_; intro w17 hq
                 have z17 := hq.size
                 replace hb11 := hb11.ext hq
                 replace hb12 := hb12.ext hq
                 replace qh11 := qh11.next hq
                 have hsz := hq.size; clear hq; have hC : Fr [] w17 w17 := Fr.refl _ _
                 have hb11_b := hb11
                 have hb12_b := hb12
                 refine hd_loadBA 0 (by kernel_rfl) (by kernel_rfl) (by kernel_rfl) hC h wn rfl (fun _ hw => hb11_b.ext hw) ag41 rfl rfl ?_; clear h a; intro a h
                 refine hd_loadBA 2 (by kernel_rfl) (by kernel_rfl) (by kernel_rfl) hC h wn rfl (fun _ hw => hb12_b.ext hw) ag41 rfl rfl ?_; clear h a; intro a h
                 refine hd_one 1 (by kernel_rfl) rfl ?_
                 refine st_call h (evs_cons rfl evs_nil) co10 (class10_ok (os.getD last.toNat op0) _) rfl ?_; clear h a; rintro _ w18 ⟨rfl, hq⟩ a h
                 have z18 := hq.size
                 replace hb11 := hb11.ext hq
                 replace hb12 := hb12.ext hq
                 replace qh11 := qh11.next hq
                 replace hC := hC.next hq
                 clear hq
                 refine hd_next hC ?_
                 refine hd_one 3 (by kernel_rfl) rfl ?_
                 refine st_call h (evs_cons rfl evs_nil) co10 (class10_ok (os.getD i op0) _) rfl ?_; clear h a; rintro _ w19 ⟨rfl, hq⟩ a h
                 have z19 := hq.size
                 replace hb11 := hb11.ext hq
                 replace hb12 := hb12.ext hq
                 replace qh11 := qh11.next hq
                 replace hC := hC.next hq
                 clear hq
                 refine hd_next hC ?_
                 refine hd_ne 4 (by kernel_rfl) (by kernel_rfl) (by kernel_rfl) hC h wn rfl rfl rfl rfl ?_; clear h a; intro a h
                 refine hd_one 5 (by kernel_rfl) rfl ?_
                 refine st_assign h rfl rfl ?_; clear h a; intro a h
                 refine hd_next hC ?_
                 refine hd_end (by kernel_rfl) ?_
                 clear hC hb11_b hb12_b
                 have z19 := qh11.size
                 refine bk (h.sub (L' := [(0, _), (1, _), (3, _), (10, _), (11, _), (12, _), (13, _), (14, _), (59, _)]) (.cons rfl (.cons rfl (.cons rfl (.cons rfl (.cons rfl (.cons rfl (.cons rfl (.cons rfl (.cons rfl .nil)))))))))) ?_; clear h a
                 exact jE (()) (.cons rfl (.cons rfl (.cons rfl (.cons rfl (.cons rfl (.cons rfl (.cons rfl (.cons rfl (.cons rfl .nil))))))))) qh11
               · rintro _j w20 q20
                 have z20 := q20.size
                 refine kpC [(0, _), (1, _), (3, _), (10, _), (11, _), (12, _), (13, _), (14, _), (59, _)] (.cons rfl (.cons rfl (.cons rfl (.cons rfl (.cons rfl (.cons rfl (.cons rfl (.cons rfl (.cons rfl .nil))))))))) ?_
                 refine cd rfl (fun c4 => ?_) (fun c4 => ?_)
                 · refine sr (asg rfl rfl (kpL [(8, _)] (.cons rfl .nil) (nn (rt (rb (tr (rb (tr (tr (rb (tr ?_)))))))))))
                   refine r1 Tryz.results9 rfl ?_
                   exact ⟨_, rfl, 0, rfl, .inr ⟨rfl, PI.no (hpi.stop hi (by omega) c3 (.inr ⟨c2, (fol_law (hoc _ (by omega)) (hoc i (by omega)) hwk.1 c2 hrr).2 (.inl c4)⟩)) hi (by omega)⟩, ((((q1.next q2).next q12).next q16).next q20)⟩
                 · refine sq ?_
                   refine rboF (r := 65) (L' := [(0, _), (1, _), (3, _), (10, _), (11, _), (12, _)]) ((((clsS (os.getD last.toNat op0).k) = 1) ∧ ((((os.getD last.toNat op0).d ≠ (os.getD i op0).d) ∨ (((os.getD last.toNat op0).d = 1) ∧ ((spL (os.getD i op0) (rackF 0 (os.take i))) ≤ (spL (os.getD last.toNat op0) (rackF 0 (os.take i)))))) ∨ (((os.getD last.toNat op0).d = 0) ∧ ((spL (os.getD last.toNat op0) (rackF 0 (os.take i))) ≤ (spL (os.getD i op0) (rackF 0 (os.take i)))))))) (.cons rfl (.cons rfl (.cons rfl (.cons rfl (.cons rfl (.cons rfl .nil)))))) ?_ ?_
                   · replace hb11 := hb11.ext (q16.next q20)
                     refine s_loadBA rfl hb11 ag41 rfl ?_
                     refine cl (ev1 rfl) co10 (class10_ok (os.getD last.toNat op0) _) rfl ?_
                     rintro _ w21 ⟨rfl, q21⟩
                     have z21 := q21.size
                     refine eq' rfl rfl rfl (mv rfl rfl ?_)
                     refine gs 69 rfl (fun g1 => ?_) (fun g1 => ?_)
                     · refine gY rfl (fad rfl fa41_1 rfl (gY rfl ?_))
                       replace hb11 := hb11.ext q21
                       refine s_loadB rfl hb11 rfl na36 rfl (gY rfl (fad rfl fa41_1 rfl (gY rfl ?_)))
                       replace hb12 := hb12.ext ((q16.next q20).next q21)
                       refine s_loadB rfl hb12 rfl na36 rfl (gY rfl (ne' rfl rfl rfl (gY rfl (mv rfl rfl ?_))))
                       refine gs 75 rfl (fun g2 => ?_) (fun g2 => ?_)
                       · refine gN rfl rfl rfl (gN rfl rfl rfl (gN rfl rfl rfl (gN rfl rfl rfl (gS rfl rfl rfl (gS rfl rfl rfl (gS rfl rfl rfl (gN rfl rfl rfl (gY rfl (pkt rfl rfl rfl rfl (gY rfl (mv rfl rfl ?_)))))))))))
                         refine gN rfl rfl rfl (gN rfl rfl rfl (gN rfl rfl rfl (gN rfl rfl rfl (gS rfl rfl rfl (gS rfl rfl rfl (gS rfl rfl rfl (gN rfl rfl rfl (gY rfl (pkt rfl rfl rfl rfl (pkt rfl rfl rfl rfl (asg rfl rfl ?_)))))))))))
                         exact rbeF rfl (by first | exact bt (by omega) | exact bf (by omega) | exact bi (by omega) | exact bn (by omega) | (simp_all; done) | (simp_all; omega)) (.cons rfl (.cons rfl (.cons rfl (.cons rfl (.cons rfl (.cons rfl .nil)))))) q21
                       · refine gY rfl (fad rfl fa41_1 rfl (gY rfl (s_loadB rfl hb11 rfl na36 rfl (gY rfl (eq' rfl rfl rfl (gY rfl (mv rfl rfl ?_)))))))
                         refine gs 79 rfl (fun g3 => ?_) (fun g3 => ?_)
                         · refine gY rfl (mv rfl rfl (gY rfl (mv rfl rfl (gY rfl (ge' rfl rfl rfl (gY rfl (pkt rfl rfl rfl rfl (gY rfl (pkf rfl rfl rfl rfl (gY rfl (mv rfl rfl ?_)))))))))))
                           refine gs 85 rfl (fun g4 => ?_) (fun g4 => ?_)
                           · refine gN rfl rfl rfl (gN rfl rfl rfl (gN rfl rfl rfl (gN rfl rfl rfl (gS rfl rfl rfl (gS rfl rfl rfl (gS rfl rfl rfl (gN rfl rfl rfl (gY rfl (pkt rfl rfl rfl rfl (pkt rfl rfl rfl rfl (asg rfl rfl ?_)))))))))))
                             exact rbeF rfl (by first | exact bt (by omega) | exact bf (by omega) | exact bi (by omega) | exact bn (by omega) | (simp_all; done) | (simp_all; omega)) (.cons rfl (.cons rfl (.cons rfl (.cons rfl (.cons rfl (.cons rfl .nil)))))) q21
                           · refine gY rfl (fad rfl fa41_1 rfl (gY rfl (s_loadB rfl hb11 rfl na36 rfl (gY rfl (eq' rfl rfl rfl (gY rfl (mv rfl rfl ?_)))))))
                             refine gs 89 rfl (fun g5 => ?_) (fun g5 => ?_)
                             · refine gY rfl (mv rfl rfl (gY rfl (mv rfl rfl (gY rfl (le' rfl rfl rfl (gY rfl (pkt rfl rfl rfl rfl (gY rfl (pkf rfl rfl rfl rfl (pkt rfl rfl rfl rfl (asg rfl rfl ?_)))))))))))
                               exact rbeF rfl (by first | exact bt (by omega) | exact bf (by omega) | exact bi (by omega) | exact bn (by omega) | (simp_all; done) | (simp_all; omega)) (.cons rfl (.cons rfl (.cons rfl (.cons rfl (.cons rfl (.cons rfl .nil)))))) q21
                             · exact gN rfl rfl rfl (gN rfl rfl rfl (gN rfl rfl rfl (gY rfl (pkf rfl rfl rfl rfl (gY rfl (pkf rfl rfl rfl rfl (pkt rfl rfl rfl rfl (asg rfl rfl (rbeF rfl (by first | exact bt (by omega) | exact bf (by omega) | exact bi (by omega) | exact bn (by omega) | (simp_all; done) | (simp_all; omega)) (.cons rfl (.cons rfl (.cons rfl (.cons rfl (.cons rfl (.cons rfl .nil)))))) q21)))))))))
                         · refine gN rfl rfl rfl (gN rfl rfl rfl (gN rfl rfl rfl (gY rfl (pkf rfl rfl rfl rfl (gY rfl (pkf rfl rfl rfl rfl (gY rfl (mv rfl rfl (gY rfl (fad rfl fa41_1 rfl (gY rfl ?_)))))))))))
                           refine s_loadB rfl hb11 rfl na36 rfl (gY rfl (eq' rfl rfl rfl (gY rfl (mv rfl rfl ?_))))
                           refine gs 89 rfl (fun g6 => ?_) (fun g6 => ?_)
                           · refine gY rfl (mv rfl rfl (gY rfl (mv rfl rfl (gY rfl (le' rfl rfl rfl (gY rfl (pkt rfl rfl rfl rfl (gY rfl (pkf rfl rfl rfl rfl (pkt rfl rfl rfl rfl (asg rfl rfl ?_)))))))))))
                             exact rbeF rfl (by first | exact bt (by omega) | exact bf (by omega) | exact bi (by omega) | exact bn (by omega) | (simp_all; done) | (simp_all; omega)) (.cons rfl (.cons rfl (.cons rfl (.cons rfl (.cons rfl (.cons rfl .nil)))))) q21
                           · exact gN rfl rfl rfl (gN rfl rfl rfl (gN rfl rfl rfl (gY rfl (pkf rfl rfl rfl rfl (gY rfl (pkf rfl rfl rfl rfl (pkt rfl rfl rfl rfl (asg rfl rfl (rbeF rfl (by first | exact bt (by omega) | exact bf (by omega) | exact bi (by omega) | exact bn (by omega) | (simp_all; done) | (simp_all; omega)) (.cons rfl (.cons rfl (.cons rfl (.cons rfl (.cons rfl (.cons rfl .nil)))))) q21)))))))))
                     · refine gN rfl rfl rfl (gN rfl rfl rfl (gN rfl rfl rfl (gN rfl rfl rfl (gN rfl rfl rfl (gN rfl rfl rfl (gS rfl rfl rfl (gS rfl rfl rfl (gS rfl rfl rfl (gS rfl rfl rfl (gS rfl rfl rfl (gS rfl rfl rfl ?_)))))))))))
                       refine gS rfl rfl rfl (gS rfl rfl rfl (gN rfl rfl rfl (gN rfl rfl rfl (gS rfl rfl rfl (gS rfl rfl rfl (gS rfl rfl rfl (gS rfl rfl rfl (gS rfl rfl rfl (gS rfl rfl rfl (gS rfl rfl rfl (gS rfl rfl rfl ?_)))))))))))
                       exact gN rfl rfl rfl (pkf rfl rfl rfl rfl (asg rfl rfl (rbeF rfl (by first | exact bt (by omega) | exact bf (by omega) | exact bi (by omega) | exact bn (by omega) | (simp_all; done) | (simp_all; omega)) (.cons rfl (.cons rfl (.cons rfl (.cons rfl (.cons rfl (.cons rfl .nil)))))) q21)))
                   · intro w22 q22; have z22 := q22.size
                     refine tn ?_
                     refine cd rfl (fun c5 => ?_) (fun c5 => ?_)
                     · refine sr (asg rfl rfl (kpL [(8, _)] (.cons rfl .nil) (nn (rt (rb (tr (rb (tr (tr (rb (tr ?_)))))))))))
                       refine r1 Tryz.results9 rfl ?_
                       exact ⟨_, rfl, 0, rfl, .inr ⟨rfl, PI.no (hpi.stop hi (by omega) c3 (.inr ⟨c2, (fol_law (hoc _ (by omega)) (hoc i (by omega)) hwk.1 c2 hrr).2 (.inr (.inl c5))⟩)) hi (by omega)⟩, (((((q1.next q2).next q12).next q16).next q20).next q22)⟩
                     · refine sq ?_
                       refine rboF (r := 96) (L' := [(0, _), (1, _), (3, _), (10, _)]) ((((clsS (os.getD last.toNat op0).k) = 2) ∧ ((os.getD last.toNat op0).b ≠ (os.getD i op0).b))) (.cons rfl (.cons rfl (.cons rfl (.cons rfl .nil)))) ?_ ?_
                       · replace hb11 := hb11.ext ((q16.next q20).next q22)
                         refine s_loadBA rfl hb11 ag41 rfl ?_
                         refine cl (ev1 rfl) co10 (class10_ok (os.getD last.toNat op0) _) rfl ?_
                         rintro _ w23 ⟨rfl, q23⟩
                         have z23 := q23.size
                         refine eq' rfl rfl rfl (mv rfl rfl ?_)
                         refine gs 100 rfl (fun g7 => ?_) (fun g7 => ?_)
                         · refine gY rfl (fad rfl fa41_2 rfl (gY rfl (s_fad2 rfl fa39_0 rfl (gY rfl ?_))))
                           replace hb11 := hb11.ext q23
                           refine s_loadB rfl hb11 rfl na37 rfl (gY rfl (fad rfl fa41_2 rfl (gY rfl (s_fad2 rfl fa39_0 rfl (gY rfl ?_)))))
                           replace hb12 := hb12.ext (((q16.next q20).next q22).next q23)
                           exact s_loadB rfl hb12 rfl na37 rfl (gY rfl (ne' rfl rfl rfl (pkt rfl rfl rfl rfl (asg rfl rfl (rbeF rfl (by first | exact bt (by omega) | exact bf (by omega) | exact bi (by omega) | exact bn (by omega) | (simp_all; done) | (simp_all; omega)) (.cons rfl (.cons rfl (.cons rfl (.cons rfl .nil)))) q23)))))
                         · exact gN rfl rfl rfl (gN rfl rfl rfl (gN rfl rfl rfl (gN rfl rfl rfl (gN rfl rfl rfl (gN rfl rfl rfl (gN rfl rfl rfl (pkf rfl rfl rfl rfl (asg rfl rfl (rbeF rfl (by first | exact bt (by omega) | exact bf (by omega) | exact bi (by omega) | exact bn (by omega) | (simp_all; done) | (simp_all; omega)) (.cons rfl (.cons rfl (.cons rfl (.cons rfl .nil)))) q23)))))))))
                       · intro w24 q24; have z24 := q24.size
                         refine tn ?_
                         refine cd rfl (fun c6 => ?_) (fun c6 => ?_)
                         · refine sr (asg rfl rfl (nn (rt (rb (tr (rb (tr (tr (rb (tr (r1 Tryz.results9 rfl ?_)))))))))))
                           exact ⟨_, rfl, 0, rfl, .inr ⟨rfl, PI.no (hpi.stop hi (by omega) c3 (.inr ⟨c2, (fol_law (hoc _ (by omega)) (hoc i (by omega)) hwk.1 c2 hrr).2 (.inr (.inr c6))⟩)) hi (by omega)⟩, ((((((q1.next q2).next q12).next q16).next q20).next q22).next q24)⟩
                         · refine sk (bn' (tn (rg (mv rfl rfl (asg rfl rfl (nl (bn' (tn (rg (mv rfl rfl (s_add rfl rfl (wi6 (by omega)) rfl ?_)))))))))))
                           refine asg rfl rfl (nl ?_)
                           exact lpE ((i + 1, (i : Int))) (.cons rfl (.cons rfl (.cons rfl (.cons rfl (.cons rfl .nil))))) ⟨((((((q1.next q2).next q12).next q16).next q20).next q22).next q24), ⟨by simp only; omega, by simp only; omega, hpi.work hi (by omega) c2 (fun _ => Classical.not_not.1 (fun hn => by rcases (fol_law (hoc _ (by omega)) (hoc i (by omega)) hwk.1 c2 hrr).1 hn with h | h | h; exact c4 h; exact c5 h; exact c6 h))⟩⟩ (by omega)
         · refine sk (tn (rg (mv rfl rfl (asg rfl rfl (nl (bn' (tn (rg (mv rfl rfl (s_add rfl rfl (wi6 (by omega)) rfl (asg rfl rfl ?_)))))))))))
           refine nl ?_
           exact lpE ((i + 1, (i : Int))) (.cons rfl (.cons rfl (.cons rfl (.cons rfl (.cons rfl .nil))))) ⟨(q1.next q2), ⟨by simp only; omega, by simp only; omega, hpi.work hi (by omega) c2 (fun hl => absurd hl c3)⟩⟩ (by omega)
 · obtain rfl : i = b := by omega
   refine ex (te (te (xh (tn (sr (asg rfl rfl (kpL [(8, _)] (.cons rfl .nil) (nn (rt (r1 Tryz.results9 rfl ?_))))))))))
   exact ⟨_, rfl, 1, rfl, .inl ⟨rfl, hpi.ok⟩, q1⟩
set_option maxHeartbeats 4000000 in
theorem least_ok (v u : Value) (os : List MOp) (w0 : World) (hs : Sl encOp w0 v os) (hr : Sl Enc.i64 w0 u (rkL os)) (hc : ∀ o ∈ os, chkO o = 0) (hl : os.length ≤ 1000) : Rets Tryz.prog 12 #[v, u] w0 fun r w' => r = .int .i64 (gc os os.length : Int) ∧ Fr [] w0 w' := by
 obtain ⟨A, c, rfl, hcc, hM, hA⟩ := id hs
 clear hA
 obtain ⟨A1, c1', rfl, hcc1, hM1, hA1⟩ := id hr
 clear hA1
 have hrl := rkL_len os
 have hgz : ((gc os 0 : Nat) : Int) = 0 := by rw [gc_zero]; rfl
 refine we [(0, .slice A os.length c), (1, .slice A1 (rkL os).length c1')] Tryz.func12 rfl Tryz.ntmps12 rfl (.cons rfl (.cons rfl .nil)) ?_
 have hs0 := hs
 have hr0 := hr
 refine sr (asg rfl rfl (nn (sr (mv rfl rfl (lnS rfl Tryz.underlying25 rfl ?_)))))
 refine s_add rfl rfl (show IntKind.i64.wrap ((os.length : Int) + 1) = (((os.length + 1) : Nat) : Int) by rw [wi6 (by omega)]; omega) rfl ?_
 refine s_makeSlice (m := (os.length + 1)) (c := (os.length + 1)) (0 : Int) rfl rfl el27 zv3 rfl (Nat.le_refl _) (by omega) (by unfold maxLen; omega) rfl (fun g11 w1 hg11 ho q1 z1 => ?_)
 replace ho : Lw.Own Enc.i64 3 g11 w1 (.slice (some ⟨g11, 0, none⟩) (os.length + 1) (os.length + 1)) (tabR (fun j => (gc os j : Int)) (os.length + 1) 1) := by rw [tabR_one (f := (fun j => (gc os j : Int))) hgz (by omega)]; exact ho
 refine asg rfl rfl (nn (sq (sr (asg rfl rfl (nn (bl ?_))))))
 refine lpK (ι := Nat) [(0, _), (1, _), (5, _)] (fun t => [(6, .int .i64 (t : Int))]) (fun t w' => Fr [g11] w1 w' ∧ 1 ≤ t ∧ t ≤ (os.length + 1) ∧ Lw.Own Enc.i64 3 g11 w' (.slice (some ⟨g11, 0, none⟩) (os.length + 1) (os.length + 1)) (tabR (fun j => (gc os j : Int)) (os.length + 1) t)) (fun t => (os.length + 1) - t) 1 (.cons rfl (.cons rfl (.cons rfl (.cons rfl .nil)))) ⟨Fr.refl _ _, ⟨Nat.le_refl _, by omega, ho⟩⟩ ?_
 rintro t w2 ⟨q2, ⟨ht1, ht, ho⟩⟩
 have z2 := q2.size
 refine kpC [(0, _), (1, _), (5, _), (6, _)] (.cons rfl (.cons rfl (.cons rfl (.cons rfl .nil)))) ?_
 refine sq (sr (mv rfl rfl (mv rfl rfl (lnS rfl Tryz.underlying25 rfl (le' rfl rfl rfl (nn ?_))))))
 refine cd rfl (fun c0 => ?_) (fun c0 => ?_)
 · refine sk (tn (sq (bl (sr (mv rfl rfl (mv rfl rfl (mv rfl rfl ?_)))))))
   refine s_ixs (p := t) ((t : Int)) rfl ho rfl rfl (by intro e; cases e) el27 sz3 rfl (by omega) (by rw [tabR_len (by omega)]; omega) (by omega) rfl rfl (fun w3 ho q3 z3 => ?_)
   skip
   replace q3 : Fr [g11] _ _ := q3
   refine nn (sr (asg rfl rfl (nn (bl ?_))))
   refine lpK (ι := Nat) [(0, _), (1, _), (5, _), (6, _)] (fun f => [(7, .int .i64 (f : Int))]) (fun f w' => Fr [g11] w3 w' ∧ f ≤ t ∧ Lw.Own Enc.i64 3 g11 w' (.slice (some ⟨g11, 0, none⟩) (os.length + 1) (os.length + 1)) ((tabR (fun j => (gc os j : Int)) (os.length + 1) t).set t (bstI os t f : Int))) (fun f => t - f) 0 (.cons rfl (.cons rfl (.cons rfl (.cons rfl (.cons rfl .nil))))) ⟨Fr.refl _ _, ⟨by omega, by rw [bstI]; exact ho⟩⟩ ?_
   rintro f w4 ⟨q4, ⟨hf, ho⟩⟩
   have z4 := q4.size
   refine kpC [(0, _), (1, _), (5, _), (6, _), (7, _)] (.cons rfl (.cons rfl (.cons rfl (.cons rfl (.cons rfl .nil))))) ?_
   have hxl : ((tabR (fun j => (gc os j : Int)) (os.length + 1) t).set t (bstI os t f : Int)).length = (os.length + 1) := by rw [List.length_set, tabR_len (by omega)]
   have hgt : ((tabR (fun j => (gc os j : Int)) (os.length + 1) t).set t (bstI os t f : Int)).getD t 0 = (bstI os t f : Int) := set_get_eq (by rw [tabR_len (by omega)]; omega)
   have hble := bstI_le os t f
   refine sq (sr (mv rfl rfl (mv rfl rfl (lt' rfl rfl rfl (nn ?_)))))
   refine cd rfl (fun c1 => ?_) (fun c1 => ?_)
   · have hgf : ((tabR (fun j => (gc os j : Int)) (os.length + 1) t).set t (bstI os t f : Int)).getD f 0 = (gc os f : Int) := by rw [set_get_ne (by omega)]; exact tabR_get (f := (fun j => (gc os j : Int))) (by omega)
     have hgl := gc_le os f
     refine sk (tn (sq (bl ?_)))
     refine jn (ι := Bool) [(0, _), (1, _), (5, _), (6, _), (7, _)] (fun b44 => [(44, .bool b44)]) (fun b44 w' => Fr [] w4 w' ∧ (b44 = true ↔ (pasS os f t ∧ gc os f + 1 < bstI os t f))) (.cons rfl (.cons rfl (.cons rfl (.cons rfl (.cons rfl .nil))))) ?_ ?_
     · replace hs := hs0.ext (((q1.step q2 (by first | (simp; done) | (simp; omega))).step q3 (by first | (simp; done) | (simp; omega))).step q4 (by first | (simp; done) | (simp; omega)))
       replace hr := hr0.ext (((q1.step q2 (by first | (simp; done) | (simp; omega))).step q3 (by first | (simp; done) | (simp; omega))).step q4 (by first | (simp; done) | (simp; omega)))
       intro a h
       have qh9 := Fr.refl [] w4
       refine region_held (fun wb w' => Fr [] wb w') hmix ?_; intro w5 hq
       have z5 := hq.size
       replace hs := hs.ext hq
       replace hr := hr.ext hq
       replace ho := ho.ext hq
       replace qh9 := qh9.next hq
       have hsz := hq.size; clear hq; have hC : Fr [] w5 w5 := Fr.refl _ _
       have hs_b := hs
       have hr_b := hr
       have ho_b := ho
       refine hd_move 0 (by kernel_rfl) (by kernel_rfl) (by kernel_rfl) hC h wn rfl rfl rfl ?_; clear h a; intro a h
       refine hd_move 1 (by kernel_rfl) (by kernel_rfl) (by kernel_rfl) hC h wn rfl rfl rfl ?_; clear h a; intro a h
       refine hd_move 2 (by kernel_rfl) (by kernel_rfl) (by kernel_rfl) hC h wn rfl rfl rfl ?_; clear h a; intro a h
       refine hd_move 3 (by kernel_rfl) (by kernel_rfl) (by kernel_rfl) hC h wn rfl rfl rfl ?_; clear h a; intro a h
       refine hd_one 4 (by kernel_rfl) rfl ?_
       refine st_call h (evs_cons rfl (evs_cons rfl (evs_cons rfl (evs_cons rfl evs_nil)))) co9 (pass10_ok _ _ os f t _ hs hr hc hl (by omega) (by omega)) rfl ?_; clear h a; rintro _ w6 ⟨z, rfl, hz1, hq⟩ a h
       have z6 := hq.size
       replace hs := hs.ext hq
       replace hr := hr.ext hq
       replace ho := ho.ext hq
       replace qh9 := qh9.next hq
       replace hC := hC.next hq
       clear hq
       refine hd_next hC ?_
       refine hd_eq 5 (by kernel_rfl) (by kernel_rfl) (by kernel_rfl) hC h wn rfl rfl rfl rfl ?_; clear h a; intro a h
       refine hd_move 6 (by kernel_rfl) (by kernel_rfl) (by kernel_rfl) hC h wn rfl rfl rfl ?_; clear h a; intro a h
       first | refine guard_dec (D := 33) h rfl ?_ ?_ | refine guard_ndec (D := 33) h rfl ?_ ?_ | refine guard_any (D := 33) h rfl ?_ ?_
       · clear h; intro g0 h
         refine hd_move 7 (by kernel_rfl) (by kernel_rfl) (by kernel_rfl) hC h (wy rfl) rfl rfl rfl ?_; clear h a; intro a h
         refine hd_move 8 (by kernel_rfl) (by kernel_rfl) (by kernel_rfl) hC h (wy rfl) rfl rfl rfl ?_; clear h a; intro a h
         refine hd_idxL (p := f) (0) 9 (by kernel_rfl) (by kernel_rfl) (by kernel_rfl) hC h (wy rfl) rfl ho.sl rfl el27 (by omega) (by omega) (by omega) rfl rfl ?_; clear h a; intro ad36 hc36 a h
         refine hd_loadC0 10 (by kernel_rfl) (by kernel_rfl) (by kernel_rfl) hC h (wy rfl) rfl (fun _ hw => hc36 _ (ho_b.sl.ext hw)) na3 rfl rfl ?_; clear h a; intro a h
         refine hd_add 11 (by kernel_rfl) (by kernel_rfl) (by kernel_rfl) hC h (wy rfl) rfl rfl (by first | exact IntWalk.i64_in _ (by omega) | rfl) rfl rfl ?_; clear h a; intro a h
         refine hd_move 12 (by kernel_rfl) (by kernel_rfl) (by kernel_rfl) hC h (wy rfl) rfl rfl rfl ?_; clear h a; intro a h
         refine hd_move 13 (by kernel_rfl) (by kernel_rfl) (by kernel_rfl) hC h (wy rfl) rfl rfl rfl ?_; clear h a; intro a h
         refine hd_idxL (p := t) (0) 14 (by kernel_rfl) (by kernel_rfl) (by kernel_rfl) hC h (wy rfl) rfl ho.sl rfl el27 (by omega) (by omega) (by omega) rfl rfl ?_; clear h a; intro ad41 hc41 a h
         refine hd_loadC0 15 (by kernel_rfl) (by kernel_rfl) (by kernel_rfl) hC h (wy rfl) rfl (fun _ hw => hc41 _ (ho_b.sl.ext hw)) na3 rfl rfl ?_; clear h a; intro a h
         refine hd_lt 16 (by kernel_rfl) (by kernel_rfl) (by kernel_rfl) hC h (wy rfl) rfl rfl rfl rfl ?_; clear h a; intro a h
         refine hd_one 17 (by kernel_rfl) rfl ?_
         refine st_pick_t h rfl rfl rfl rfl ?_; clear h a; intro a h
         refine hd_next hC ?_
         refine hd_end (by kernel_rfl) ?_
         clear hC hs_b hr_b ho_b
         have z6 := qh9.size
         refine bk (h.sub (L' := [(0, _), (1, _), (5, _), (6, _), (7, _), (44, _)]) (.cons rfl (.cons rfl (.cons rfl (.cons rfl (.cons rfl (.cons rfl .nil))))))) ?_; clear h a
         exact jE (_) (.cons rfl (.cons rfl (.cons rfl (.cons rfl (.cons rfl (.cons rfl .nil)))))) ⟨qh9, by first | (rw [decide_eq_true_iff, hgf, hgt]; exact ⟨fun h => ⟨(hz1.resolve_right (fun e => by omega)).2, by omega⟩, fun h => by omega⟩) | exact ⟨(fun h => by cases h), fun h => absurd h.1 (hz1.resolve_left (fun e => g0 e.1)).2⟩⟩
       · clear h; intro g0 h
         refine hd_gn 7 (by kernel_rfl) (by kernel_rfl) (by kernel_rfl) hC h rfl rfl rfl rfl ?_; clear h a; intro a h
         refine hd_gn 8 (by kernel_rfl) (by kernel_rfl) (by kernel_rfl) hC h rfl rfl rfl rfl ?_; clear h a; intro a h
         refine hd_gn 9 (by kernel_rfl) (by kernel_rfl) (by kernel_rfl) hC h rfl rfl rfl rfl ?_; clear h a; intro a h
         refine hd_gn 10 (by kernel_rfl) (by kernel_rfl) (by kernel_rfl) hC h rfl rfl rfl rfl ?_; clear h a; intro a h
         refine hd_gn 11 (by kernel_rfl) (by kernel_rfl) (by kernel_rfl) hC h rfl rfl rfl rfl ?_; clear h a; intro a h
         refine hd_gn 12 (by kernel_rfl) (by kernel_rfl) (by kernel_rfl) hC h rfl rfl rfl rfl ?_; clear h a; intro a h
         refine hd_gn 13 (by kernel_rfl) (by kernel_rfl) (by kernel_rfl) hC h rfl rfl rfl rfl ?_; clear h a; intro a h
         refine hd_gn 14 (by kernel_rfl) (by kernel_rfl) (by kernel_rfl) hC h rfl rfl rfl rfl ?_; clear h a; intro a h
         refine hd_gn 15 (by kernel_rfl) (by kernel_rfl) (by kernel_rfl) hC h rfl rfl rfl rfl ?_; clear h a; intro a h
         refine hd_gn 16 (by kernel_rfl) (by kernel_rfl) (by kernel_rfl) hC h rfl rfl rfl rfl ?_; clear h a; intro a h
         refine hd_one 17 (by kernel_rfl) rfl ?_
         refine st_pick_f h rfl rfl rfl rfl ?_; clear h a; intro a h
         refine hd_next hC ?_
         refine hd_end (by kernel_rfl) ?_
         clear hC hs_b hr_b ho_b
         have z6 := qh9.size
         refine bk (h.sub (L' := [(0, _), (1, _), (5, _), (6, _), (7, _), (44, _)]) (.cons rfl (.cons rfl (.cons rfl (.cons rfl (.cons rfl (.cons rfl .nil))))))) ?_; clear h a
         exact jE (_) (.cons rfl (.cons rfl (.cons rfl (.cons rfl (.cons rfl (.cons rfl .nil)))))) ⟨qh9, by first | (rw [decide_eq_true_iff, hgf, hgt]; exact ⟨fun h => ⟨(hz1.resolve_right (fun e => by omega)).2, by omega⟩, fun h => by omega⟩) | exact ⟨(fun h => by cases h), fun h => absurd h.1 (hz1.resolve_left (fun e => g0 e.1)).2⟩⟩
     · rintro b44 w7 ⟨q7, hb44⟩
       have z7 := q7.size
       refine kpC [(0, _), (1, _), (5, _), (6, _), (7, _), (44, _)] (.cons rfl (.cons rfl (.cons rfl (.cons rfl (.cons rfl (.cons rfl .nil)))))) ?_
       refine cd rfl (fun c2 => ?_) (fun c2 => ?_)
       · refine rg (mv rfl rfl (mv rfl rfl (mv rfl rfl (mv rfl rfl ?_))))
         replace ho := ho.ext q7
         refine s_idxL (p := f) (0) rfl ho.sl rfl el27 (by omega) (by omega) (by omega) rfl (fun ad49 hc49 => ?_)
         refine s_loadC0 rfl (hc49 _ ho.sl) na3 rfl (s_add rfl rfl (wi6 (by omega)) rfl ?_)
         refine s_ixs (p := t) (((tabR (fun j => (gc os j : Int)) (os.length + 1) t).set t (bstI os t f : Int)).getD f 0 + 1) rfl ho rfl rfl (by intro e; cases e) el27 sz3 rfl (by omega) (by rw [List.length_set, tabR_len (by omega)]; omega) (by omega) rfl rfl (fun w8 ho q8 z8 => ?_)
         rw [List.set_set, hgf] at ho
         replace q8 : Fr [g11] _ _ := q8
         refine kpL [(0, _), (1, _), (5, _), (6, _), (7, _)] (.cons rfl (.cons rfl (.cons rfl (.cons rfl (.cons rfl .nil))))) (nl (bn' (tn (rg (mv rfl rfl (s_add rfl rfl (wi6 (by omega)) rfl (asg rfl rfl (nl ?_))))))))
         exact lpE (f + 1) (.cons rfl (.cons rfl (.cons rfl (.cons rfl (.cons rfl .nil))))) ⟨((((Fr.refl [g11] _).step q4 (by first | (simp; done) | (simp; omega))).next q7).step q8 (by first | (simp; done) | (simp; omega))), ⟨by omega, by first | (rw [bst_y (hb44.1 c2)]; exact ho) | (rw [bst_n (fun h => c2 (hb44.2 h))]; exact ho)⟩⟩ (by omega)
       · refine sk (bn' (tn (rg (mv rfl rfl (s_add rfl rfl (wi6 (by omega)) rfl (asg rfl rfl (nl ?_)))))))
         replace ho := ho.ext q7
         exact lpE (f + 1) (.cons rfl (.cons rfl (.cons rfl (.cons rfl (.cons rfl .nil))))) ⟨(((Fr.refl [g11] _).step q4 (by first | (simp; done) | (simp; omega))).next q7), ⟨by omega, by first | (rw [bst_y (hb44.1 c2)]; exact ho) | (rw [bst_n (fun h => c2 (hb44.2 h))]; exact ho)⟩⟩ (by omega)
   · obtain rfl : t = f := by omega
     rw [bstI_all (by omega) (by omega), show (tabR (fun j => (gc os j : Int)) (os.length + 1) t).set t ((gc os t : Nat) : Int) = (tabR (fun j => (gc os j : Int)) (os.length + 1) (t + 1)) from tabR_set (f := (fun j => (gc os j : Int))) (by omega)] at ho
     refine ex (te (te (xh (bn' (tn (rg (mv rfl rfl (s_add rfl rfl (wi6 (by omega)) rfl (asg rfl rfl (nl ?_))))))))))
     exact lpE (t + 1) (.cons rfl (.cons rfl (.cons rfl (.cons rfl .nil)))) ⟨((((Fr.refl [g11] _).step q2 (by first | (simp; done) | (simp; omega))).step q3 (by first | (simp; done) | (simp; omega))).step q4 (by first | (simp; done) | (simp; omega))), ⟨by omega, by omega, ho⟩⟩ (by omega)
 · obtain rfl : t = (os.length + 1) := by omega
   have htbl := tabR_len (f := (fun j => (gc os j : Int))) (n := (os.length + 1)) (i := (os.length + 1)) (Nat.le_refl _)
   refine ex (te (te (xh (tn (sr (mv rfl rfl (mv rfl rfl (lnS rfl Tryz.underlying25 rfl (s_idxL (p := os.length) (0) rfl ho.sl rfl el27 (by omega) (by omega) (by omega) rfl (fun ad56 hc56 => ?_))))))))))
   refine s_loadC0 rfl (hc56 _ ho.sl) na3 rfl (asg rfl rfl (kpL [(4, _)] (.cons rfl .nil) (nn (rt (r1 Tryz.results12 rfl ?_)))))
   exact ⟨_, rfl, by rw [show (tabR (fun j => (gc os j : Int)) (os.length + 1) (os.length + 1)).getD os.length 0 = (gc os os.length : Int) from tabR_get (f := (fun j => (gc os j : Int))) (by omega)], (q1.step q2 (by first | (simp; done) | (simp; omega)))⟩
end Go.Proofs.YtbalocjcbmkecaaGreatDoor
