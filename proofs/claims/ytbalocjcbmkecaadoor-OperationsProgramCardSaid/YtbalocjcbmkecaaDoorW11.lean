/- Walks. -/
import Derived.Test.YtbalocjcbmkecaaDoorRows
import Derived.Test.YtbalocjcbmkecaaDoorW10
import Derived.Test.YtbalocjcbmkecaaDoorXOp
import Derived.Test.YtbalocjcbmkecaaDoorXMap
import Derived.Test.YtbalocjcbmkecaaDoorXOpLaw
set_option linter.unusedVariables false
set_option linter.unusedSimpArgs false
namespace Go.Proofs.YtbalocjcbmkecaaDoor
open Go.Lw
theorem ag23 : AggOf Tryd.prog 23 6 := ⟨fun _ => by kernel_rfl, fun _ => by kernel_rfl⟩
theorem co12 : CallOf Tryd.prog 12 := CallOf.mk' Tryd.func12 (by kernel_rfl) (by kernel_rfl)
theorem co13 : CallOf Tryd.prog 13 := CallOf.mk' Tryd.func13 (by kernel_rfl) (by kernel_rfl)
theorem co15 : CallOf Tryd.prog 15 := CallOf.mk' Tryd.func15 (by kernel_rfl) (by kernel_rfl)
theorem co18 : CallOf Tryd.prog 18 := CallOf.mk' Tryd.func18 (by kernel_rfl) (by kernel_rfl)
set_option maxHeartbeats 2000000 in
theorem law_back (x y : MOp) (s : List UInt8) (w0 : World) (hG : Glob w0) (hx : x.Bytes) (hy : y.Bytes) (hsl : s.length ≤ 9223372036854775807) : Rets Tryd.prog 3 #[oxV x, oxV y, S s] w0 fun r w' => r = .bool true ∧ Fr [] w0 w' := by
 have hca := of_chk hx
 have hcb := of_chk hy
 have hpa := parse_txt hca
 have hGs := hG.sz
 refine we [(0, oxV x), (1, oxV y), (2, S s)] Tryd.func3 rfl Tryd.ntmps3 rfl (.cons rfl (.cons rfl (.cons rfl .nil))) ?_
 refine sr (bx rfl rfl rfl (fun g3 w1 hg3 hb3 q1 z1 => ?_))
 refine bx rfl rfl rfl (fun g4 w2 hg4 hb4 q2 z2 => ?_)
 refine asg rfl rfl (nn (sq (sr (mv rfl rfl (ln rfl Tryd.underlying9 rfl (gt' rfl rfl rfl (nn ?_)))))))
 refine cd rfl (fun c0 => ?_) (fun c0 => ?_)
 · refine sr ?_
   replace hG := hG.ext (q1.next q2)
   refine cl evs_nil co12 (lives_ok _ hG) rfl ?_
   rintro _ w3 ⟨rfl, q3⟩
   have z3 := q3.size
   refine asg rfl rfl (nn (rt (tr (r1 Tryd.results3 rfl ?_))))
   exact ⟨_, rfl, rfl, ((q1.next q2).next q3)⟩
 · refine sk (tn ?_)
   refine jn (ι := Nat × Nat) [(2, _)] (fun p => [(7, .pointer (some ⟨p.1, 0, none⟩)), (8, .pointer (some ⟨p.2, 0, none⟩))]) (fun p w' => Fr [] w2 w' ∧ w2.heap.size ≤ p.1 ∧ w2.heap.size ≤ p.2 ∧ p.1 ≠ p.2 ∧ Blk w' p.1 31 [.int .u8 (ofO x).k, .int .u8 (ofO x).d, .int .u8 (ofO x).b, .int .i64 (ofO x).p, .int .u8 (ofO x).y, .int .i64 (ofO x).r] ∧ Blk w' p.2 31 [.int .u8 (ofO y).k, .int .u8 (ofO y).d, .int .u8 (ofO y).b, .int .i64 (ofO y).p, .int .u8 (ofO y).y, .int .i64 (ofO y).r]) (.cons rfl .nil) ?_ ?_
   · replace hG := hG.ext (q1.next q2)
     replace hb3 := hb3.ext q2
     intro a h
     have qh3 := Fr.refl [] w2
     refine region_held (fun wb w' => Fr [] wb w') hmix ?_; intro w4 hq
     have z4 := hq.size
     replace hG := hG.ext hq
     replace hb3 := hb3.ext hq
     replace hb4 := hb4.ext hq
     replace qh3 := qh3.next hq
     have hsz := hq.size; clear hq; have hC : Fr [] w4 w4 := Fr.refl _ _
     have hG_b := hG
     have hb3_b := hb3
     have hb4_b := hb4
     refine hd_loadBA 0 (by kernel_rfl) (by kernel_rfl) (by kernel_rfl) hC h wn rfl (fun _ hw => hb3_b.ext hw) ag23 rfl rfl ?_; clear h a; intro a h
     refine hd_loadBA 2 (by kernel_rfl) (by kernel_rfl) (by kernel_rfl) hC h wn rfl (fun _ hw => hb4_b.ext hw) ag23 rfl rfl ?_; clear h a; intro a h
     refine hd_three 1 4 5 (by kernel_rfl) rfl rfl rfl ?_ ?_ ?_
     · refine id ?_
       refine st_call h (evs_cons rfl evs_nil) co13 (of_ok x _ hx) rfl ?_; clear h a; rintro _ w5 ⟨rfl, hq⟩ a h
       have z5 := hq.size
       replace hG := hG.ext hq
       replace hb3 := hb3.ext hq
       replace hb4 := hb4.ext hq
       replace qh3 := qh3.next hq
       replace hC := hC.next hq
       clear hq
       refine hd_next hC ?_
       refine hd_three 3 4 5 (by kernel_rfl) rfl rfl rfl ?_ ?_ ?_
       · refine id ?_
         refine st_call h (evs_cons rfl evs_nil) co13 (of_ok y _ hy) rfl ?_; clear h a; rintro _ w6 ⟨rfl, hq⟩ a h
         have z6 := hq.size
         replace hG := hG.ext hq
         replace hb3 := hb3.ext hq
         replace hb4 := hb4.ext hq
         replace qh3 := qh3.next hq
         replace hC := hC.next hq
         clear hq
         refine hd_next hC ?_
         refine hd_two 4 5 (by kernel_rfl) rfl rfl ?_ ?_
         · refine id ?_
           refine st_alloc h zv31 rfl rfl ?_; clear h a; intro w7 hb7 hq hz a h
           obtain ⟨g_7, hg⟩ : ∃ g, g = w6.heap.size := ⟨_, rfl⟩; rw [← hg] at hb7 h hz
           have hn__7 : g3 < g_7 := by have := hb3.lt; omega
           have hn__7 : g4 < g_7 := by have := hb4.lt; omega
           have hl_qh3_7 : w2.heap.size ≤ g_7 := by have := qh3.size; omega
           have hl_hC_7 : w4.heap.size ≤ g_7 := by have := hC.size; omega
           have z7 := hq.size
           replace hG := hG.ext hq
           replace hb3 := hb3.ext hq
           replace hb4 := hb4.ext hq
           replace qh3 := qh3.next hq
           replace hC := hC.next hq
           clear hq
           refine hd_next hC ?_
           refine hd_one 5 (by kernel_rfl) rfl ?_
           refine st_alloc h zv31 rfl rfl ?_; clear h a; intro w8 hb8 hq hz a h
           obtain ⟨g_8, hg⟩ : ∃ g, g = w7.heap.size := ⟨_, rfl⟩; rw [← hg] at hb8 h hz
           have hn__8 : g3 < g_8 := by have := hb3.lt; omega
           have hn__8 : g4 < g_8 := by have := hb4.lt; omega
           have hl_qh3_8 : w2.heap.size ≤ g_8 := by have := qh3.size; omega
           have hl_hC_8 : w4.heap.size ≤ g_8 := by have := hC.size; omega
           have hn_7_8 : g_7 < g_8 := by have := hb7.lt; omega
           have z8 := hq.size
           replace hG := hG.ext hq
           replace hb3 := hb3.ext hq
           replace hb4 := hb4.ext hq
           replace qh3 := qh3.next hq
           replace hC := hC.next hq
           replace hb7 := hb7.ext hq
           clear hq
           refine hd_next hC ?_
           refine hd_one 6 (by kernel_rfl) rfl ?_
           refine st_storeBA h rfl rfl hb7 rfl (by first | (simp [Value.oneCell', S]; done) | exact Enc.one _ _) sz31 ?_; clear h a; intro w9 hbn hq hz a h
           have z9 := hq.size
           replace hG := hG.fr hq (by first | (simp; done) | (simp; omega) | (simp [blks]; done) | (simp [blks]; omega))
           replace hb3 := hb3.fr hq (by first | (simp; done) | (simp; omega) | (simp [blks]; done) | (simp [blks]; omega))
           replace hb4 := hb4.fr hq (by first | (simp; done) | (simp; omega) | (simp [blks]; done) | (simp [blks]; omega))
           replace qh3 := qh3.step hq (by first | (simp; done) | (simp; omega))
           replace hC := hC.step hq (by first | (simp; done) | (simp; omega))
           replace hb8 := hb8.fr hq (by first | (simp; done) | (simp; omega) | (simp [blks]; done) | (simp [blks]; omega))
           clear hb7 hq hz; have hb7 : Blk w9 g_7 _ [_, _, _, _, _, _] := hbn; clear hbn
           refine hd_next hC ?_
           refine hd_one 7 (by kernel_rfl) rfl ?_
           refine st_storeBA h rfl rfl hb8 rfl (by first | (simp [Value.oneCell', S]; done) | exact Enc.one _ _) sz31 ?_; clear h a; intro w10 hbn hq hz a h
           have z10 := hq.size
           replace hG := hG.fr hq (by first | (simp; done) | (simp; omega) | (simp [blks]; done) | (simp [blks]; omega))
           replace hb3 := hb3.fr hq (by first | (simp; done) | (simp; omega) | (simp [blks]; done) | (simp [blks]; omega))
           replace hb4 := hb4.fr hq (by first | (simp; done) | (simp; omega) | (simp [blks]; done) | (simp [blks]; omega))
           replace qh3 := qh3.step hq (by first | (simp; done) | (simp; omega))
           replace hC := hC.step hq (by first | (simp; done) | (simp; omega))
           replace hb7 := hb7.fr hq (by first | (simp; done) | (simp; omega) | (simp [blks]; done) | (simp [blks]; omega))
           clear hb8 hq hz; have hb8 : Blk w10 g_8 _ [_, _, _, _, _, _] := hbn; clear hbn
           refine hd_next hC ?_
           refine hd_end (by kernel_rfl) ?_
           clear hC hG_b hb3_b hb4_b
           have z10 := qh3.size
           refine bk (h.sub (L' := [(2, _), (7, _), (8, _)]) (.cons rfl (.cons rfl (.cons rfl .nil)))) ?_; clear h a
           exact jE ((g_7, g_8)) (.cons rfl (.cons rfl (.cons rfl .nil))) ⟨qh3, ⟨by omega, by omega, by omega, hb7, hb8⟩⟩
         · refine id ?_
           refine st_alloc h zv31 rfl rfl ?_; clear h a; intro w11 hb8 hq hz a h
           obtain ⟨g_8, hg⟩ : ∃ g, g = w6.heap.size := ⟨_, rfl⟩; rw [← hg] at hb8 h hz
           have hn__8 : g3 < g_8 := by have := hb3.lt; omega
           have hn__8 : g4 < g_8 := by have := hb4.lt; omega
           have hl_qh3_8 : w2.heap.size ≤ g_8 := by have := qh3.size; omega
           have hl_hC_8 : w4.heap.size ≤ g_8 := by have := hC.size; omega
           have z11 := hq.size
           replace hG := hG.ext hq
           replace hb3 := hb3.ext hq
           replace hb4 := hb4.ext hq
           replace qh3 := qh3.next hq
           replace hC := hC.next hq
           clear hq
           refine hd_next hC ?_
           refine hd_one 4 (by kernel_rfl) rfl ?_
           refine st_alloc h zv31 rfl rfl ?_; clear h a; intro w12 hb7 hq hz a h
           obtain ⟨g_7, hg⟩ : ∃ g, g = w11.heap.size := ⟨_, rfl⟩; rw [← hg] at hb7 h hz
           have hn__7 : g3 < g_7 := by have := hb3.lt; omega
           have hn__7 : g4 < g_7 := by have := hb4.lt; omega
           have hl_qh3_7 : w2.heap.size ≤ g_7 := by have := qh3.size; omega
           have hl_hC_7 : w4.heap.size ≤ g_7 := by have := hC.size; omega
           have hn_8_7 : g_8 < g_7 := by have := hb8.lt; omega
           have z12 := hq.size
           replace hG := hG.ext hq
           replace hb3 := hb3.ext hq
           replace hb4 := hb4.ext hq
           replace qh3 := qh3.next hq
           replace hC := hC.next hq
           replace hb8 := hb8.ext hq
           clear hq
           refine hd_next hC ?_
           refine hd_one 6 (by kernel_rfl) rfl ?_
           refine st_storeBA h rfl rfl hb7 rfl (by first | (simp [Value.oneCell', S]; done) | exact Enc.one _ _) sz31 ?_; clear h a; intro w13 hbn hq hz a h
           have z13 := hq.size
           replace hG := hG.fr hq (by first | (simp; done) | (simp; omega) | (simp [blks]; done) | (simp [blks]; omega))
           replace hb3 := hb3.fr hq (by first | (simp; done) | (simp; omega) | (simp [blks]; done) | (simp [blks]; omega))
           replace hb4 := hb4.fr hq (by first | (simp; done) | (simp; omega) | (simp [blks]; done) | (simp [blks]; omega))
           replace qh3 := qh3.step hq (by first | (simp; done) | (simp; omega))
           replace hC := hC.step hq (by first | (simp; done) | (simp; omega))
           replace hb8 := hb8.fr hq (by first | (simp; done) | (simp; omega) | (simp [blks]; done) | (simp [blks]; omega))
           clear hb7 hq hz; have hb7 : Blk w13 g_7 _ [_, _, _, _, _, _] := hbn; clear hbn
           refine hd_next hC ?_
           refine hd_one 7 (by kernel_rfl) rfl ?_
           refine st_storeBA h rfl rfl hb8 rfl (by first | (simp [Value.oneCell', S]; done) | exact Enc.one _ _) sz31 ?_; clear h a; intro w14 hbn hq hz a h
           have z14 := hq.size
           replace hG := hG.fr hq (by first | (simp; done) | (simp; omega) | (simp [blks]; done) | (simp [blks]; omega))
           replace hb3 := hb3.fr hq (by first | (simp; done) | (simp; omega) | (simp [blks]; done) | (simp [blks]; omega))
           replace hb4 := hb4.fr hq (by first | (simp; done) | (simp; omega) | (simp [blks]; done) | (simp [blks]; omega))
           replace qh3 := qh3.step hq (by first | (simp; done) | (simp; omega))
           replace hC := hC.step hq (by first | (simp; done) | (simp; omega))
           replace hb7 := hb7.fr hq (by first | (simp; done) | (simp; omega) | (simp [blks]; done) | (simp [blks]; omega))
           clear hb8 hq hz; have hb8 : Blk w14 g_8 _ [_, _, _, _, _, _] := hbn; clear hbn
           refine hd_next hC ?_
           refine hd_end (by kernel_rfl) ?_
           clear hC hG_b hb3_b hb4_b
           have z14 := qh3.size
           refine bk (h.sub (L' := [(2, _), (7, _), (8, _)]) (.cons rfl (.cons rfl (.cons rfl .nil)))) ?_; clear h a
           exact jE ((g_7, g_8)) (.cons rfl (.cons rfl (.cons rfl .nil))) ⟨qh3, ⟨by omega, by omega, by omega, hb7, hb8⟩⟩
       · refine id ?_
         refine st_alloc h zv31 rfl rfl ?_; clear h a; intro w15 hb7 hq hz a h
         obtain ⟨g_7, hg⟩ : ∃ g, g = w5.heap.size := ⟨_, rfl⟩; rw [← hg] at hb7 h hz
         have hn__7 : g3 < g_7 := by have := hb3.lt; omega
         have hn__7 : g4 < g_7 := by have := hb4.lt; omega
         have hl_qh3_7 : w2.heap.size ≤ g_7 := by have := qh3.size; omega
         have hl_hC_7 : w4.heap.size ≤ g_7 := by have := hC.size; omega
         have z15 := hq.size
         replace hG := hG.ext hq
         replace hb3 := hb3.ext hq
         replace hb4 := hb4.ext hq
         replace qh3 := qh3.next hq
         replace hC := hC.next hq
         clear hq
         refine hd_next hC ?_
         refine hd_two 3 5 (by kernel_rfl) rfl rfl ?_ ?_
         · refine id ?_
           refine st_call h (evs_cons rfl evs_nil) co13 (of_ok y _ hy) rfl ?_; clear h a; rintro _ w16 ⟨rfl, hq⟩ a h
           have z16 := hq.size
           replace hG := hG.ext hq
           replace hb3 := hb3.ext hq
           replace hb4 := hb4.ext hq
           replace qh3 := qh3.next hq
           replace hC := hC.next hq
           replace hb7 := hb7.ext hq
           clear hq
           refine hd_next hC ?_
           refine hd_one 5 (by kernel_rfl) rfl ?_
           refine st_alloc h zv31 rfl rfl ?_; clear h a; intro w17 hb8 hq hz a h
           obtain ⟨g_8, hg⟩ : ∃ g, g = w16.heap.size := ⟨_, rfl⟩; rw [← hg] at hb8 h hz
           have hn__8 : g3 < g_8 := by have := hb3.lt; omega
           have hn__8 : g4 < g_8 := by have := hb4.lt; omega
           have hl_qh3_8 : w2.heap.size ≤ g_8 := by have := qh3.size; omega
           have hl_hC_8 : w4.heap.size ≤ g_8 := by have := hC.size; omega
           have hn_7_8 : g_7 < g_8 := by have := hb7.lt; omega
           have z17 := hq.size
           replace hG := hG.ext hq
           replace hb3 := hb3.ext hq
           replace hb4 := hb4.ext hq
           replace qh3 := qh3.next hq
           replace hC := hC.next hq
           replace hb7 := hb7.ext hq
           clear hq
           refine hd_next hC ?_
           refine hd_one 6 (by kernel_rfl) rfl ?_
           refine st_storeBA h rfl rfl hb7 rfl (by first | (simp [Value.oneCell', S]; done) | exact Enc.one _ _) sz31 ?_; clear h a; intro w18 hbn hq hz a h
           have z18 := hq.size
           replace hG := hG.fr hq (by first | (simp; done) | (simp; omega) | (simp [blks]; done) | (simp [blks]; omega))
           replace hb3 := hb3.fr hq (by first | (simp; done) | (simp; omega) | (simp [blks]; done) | (simp [blks]; omega))
           replace hb4 := hb4.fr hq (by first | (simp; done) | (simp; omega) | (simp [blks]; done) | (simp [blks]; omega))
           replace qh3 := qh3.step hq (by first | (simp; done) | (simp; omega))
           replace hC := hC.step hq (by first | (simp; done) | (simp; omega))
           replace hb8 := hb8.fr hq (by first | (simp; done) | (simp; omega) | (simp [blks]; done) | (simp [blks]; omega))
           clear hb7 hq hz; have hb7 : Blk w18 g_7 _ [_, _, _, _, _, _] := hbn; clear hbn
           refine hd_next hC ?_
           refine hd_one 7 (by kernel_rfl) rfl ?_
           refine st_storeBA h rfl rfl hb8 rfl (by first | (simp [Value.oneCell', S]; done) | exact Enc.one _ _) sz31 ?_; clear h a; intro w19 hbn hq hz a h
           have z19 := hq.size
           replace hG := hG.fr hq (by first | (simp; done) | (simp; omega) | (simp [blks]; done) | (simp [blks]; omega))
           replace hb3 := hb3.fr hq (by first | (simp; done) | (simp; omega) | (simp [blks]; done) | (simp [blks]; omega))
           replace hb4 := hb4.fr hq (by first | (simp; done) | (simp; omega) | (simp [blks]; done) | (simp [blks]; omega))
           replace qh3 := qh3.step hq (by first | (simp; done) | (simp; omega))
           replace hC := hC.step hq (by first | (simp; done) | (simp; omega))
           replace hb7 := hb7.fr hq (by first | (simp; done) | (simp; omega) | (simp [blks]; done) | (simp [blks]; omega))
           clear hb8 hq hz; have hb8 : Blk w19 g_8 _ [_, _, _, _, _, _] := hbn; clear hbn
           refine hd_next hC ?_
           refine hd_end (by kernel_rfl) ?_
           clear hC hG_b hb3_b hb4_b
           have z19 := qh3.size
           refine bk (h.sub (L' := [(2, _), (7, _), (8, _)]) (.cons rfl (.cons rfl (.cons rfl .nil)))) ?_; clear h a
           exact jE ((g_7, g_8)) (.cons rfl (.cons rfl (.cons rfl .nil))) ⟨qh3, ⟨by omega, by omega, by omega, hb7, hb8⟩⟩
         · refine id ?_
           refine st_alloc h zv31 rfl rfl ?_; clear h a; intro w20 hb8 hq hz a h
           obtain ⟨g_8, hg⟩ : ∃ g, g = w15.heap.size := ⟨_, rfl⟩; rw [← hg] at hb8 h hz
           have hn__8 : g3 < g_8 := by have := hb3.lt; omega
           have hn__8 : g4 < g_8 := by have := hb4.lt; omega
           have hl_qh3_8 : w2.heap.size ≤ g_8 := by have := qh3.size; omega
           have hl_hC_8 : w4.heap.size ≤ g_8 := by have := hC.size; omega
           have hn_7_8 : g_7 < g_8 := by have := hb7.lt; omega
           have z20 := hq.size
           replace hG := hG.ext hq
           replace hb3 := hb3.ext hq
           replace hb4 := hb4.ext hq
           replace qh3 := qh3.next hq
           replace hC := hC.next hq
           replace hb7 := hb7.ext hq
           clear hq
           refine hd_next hC ?_
           refine hd_one 3 (by kernel_rfl) rfl ?_
           refine st_call h (evs_cons rfl evs_nil) co13 (of_ok y _ hy) rfl ?_; clear h a; rintro _ w21 ⟨rfl, hq⟩ a h
           have z21 := hq.size
           replace hG := hG.ext hq
           replace hb3 := hb3.ext hq
           replace hb4 := hb4.ext hq
           replace qh3 := qh3.next hq
           replace hC := hC.next hq
           replace hb7 := hb7.ext hq
           replace hb8 := hb8.ext hq
           clear hq
           refine hd_next hC ?_
           refine hd_one 6 (by kernel_rfl) rfl ?_
           refine st_storeBA h rfl rfl hb7 rfl (by first | (simp [Value.oneCell', S]; done) | exact Enc.one _ _) sz31 ?_; clear h a; intro w22 hbn hq hz a h
           have z22 := hq.size
           replace hG := hG.fr hq (by first | (simp; done) | (simp; omega) | (simp [blks]; done) | (simp [blks]; omega))
           replace hb3 := hb3.fr hq (by first | (simp; done) | (simp; omega) | (simp [blks]; done) | (simp [blks]; omega))
           replace hb4 := hb4.fr hq (by first | (simp; done) | (simp; omega) | (simp [blks]; done) | (simp [blks]; omega))
           replace qh3 := qh3.step hq (by first | (simp; done) | (simp; omega))
           replace hC := hC.step hq (by first | (simp; done) | (simp; omega))
           replace hb8 := hb8.fr hq (by first | (simp; done) | (simp; omega) | (simp [blks]; done) | (simp [blks]; omega))
           clear hb7 hq hz; have hb7 : Blk w22 g_7 _ [_, _, _, _, _, _] := hbn; clear hbn
           refine hd_next hC ?_
           refine hd_one 7 (by kernel_rfl) rfl ?_
           refine st_storeBA h rfl rfl hb8 rfl (by first | (simp [Value.oneCell', S]; done) | exact Enc.one _ _) sz31 ?_; clear h a; intro w23 hbn hq hz a h
           have z23 := hq.size
           replace hG := hG.fr hq (by first | (simp; done) | (simp; omega) | (simp [blks]; done) | (simp [blks]; omega))
           replace hb3 := hb3.fr hq (by first | (simp; done) | (simp; omega) | (simp [blks]; done) | (simp [blks]; omega))
           replace hb4 := hb4.fr hq (by first | (simp; done) | (simp; omega) | (simp [blks]; done) | (simp [blks]; omega))
           replace qh3 := qh3.step hq (by first | (simp; done) | (simp; omega))
           replace hC := hC.step hq (by first | (simp; done) | (simp; omega))
           replace hb7 := hb7.fr hq (by first | (simp; done) | (simp; omega) | (simp [blks]; done) | (simp [blks]; omega))
           clear hb8 hq hz; have hb8 : Blk w23 g_8 _ [_, _, _, _, _, _] := hbn; clear hbn
           refine hd_next hC ?_
           refine hd_end (by kernel_rfl) ?_
           clear hC hG_b hb3_b hb4_b
           have z23 := qh3.size
           refine bk (h.sub (L' := [(2, _), (7, _), (8, _)]) (.cons rfl (.cons rfl (.cons rfl .nil)))) ?_; clear h a
           exact jE ((g_7, g_8)) (.cons rfl (.cons rfl (.cons rfl .nil))) ⟨qh3, ⟨by omega, by omega, by omega, hb7, hb8⟩⟩
       · refine id ?_
         refine st_alloc h zv31 rfl rfl ?_; clear h a; intro w24 hb8 hq hz a h
         obtain ⟨g_8, hg⟩ : ∃ g, g = w5.heap.size := ⟨_, rfl⟩; rw [← hg] at hb8 h hz
         have hn__8 : g3 < g_8 := by have := hb3.lt; omega
         have hn__8 : g4 < g_8 := by have := hb4.lt; omega
         have hl_qh3_8 : w2.heap.size ≤ g_8 := by have := qh3.size; omega
         have hl_hC_8 : w4.heap.size ≤ g_8 := by have := hC.size; omega
         have z24 := hq.size
         replace hG := hG.ext hq
         replace hb3 := hb3.ext hq
         replace hb4 := hb4.ext hq
         replace qh3 := qh3.next hq
         replace hC := hC.next hq
         clear hq
         refine hd_next hC ?_
         refine hd_two 3 4 (by kernel_rfl) rfl rfl ?_ ?_
         · refine id ?_
           refine st_call h (evs_cons rfl evs_nil) co13 (of_ok y _ hy) rfl ?_; clear h a; rintro _ w25 ⟨rfl, hq⟩ a h
           have z25 := hq.size
           replace hG := hG.ext hq
           replace hb3 := hb3.ext hq
           replace hb4 := hb4.ext hq
           replace qh3 := qh3.next hq
           replace hC := hC.next hq
           replace hb8 := hb8.ext hq
           clear hq
           refine hd_next hC ?_
           refine hd_one 4 (by kernel_rfl) rfl ?_
           refine st_alloc h zv31 rfl rfl ?_; clear h a; intro w26 hb7 hq hz a h
           obtain ⟨g_7, hg⟩ : ∃ g, g = w25.heap.size := ⟨_, rfl⟩; rw [← hg] at hb7 h hz
           have hn__7 : g3 < g_7 := by have := hb3.lt; omega
           have hn__7 : g4 < g_7 := by have := hb4.lt; omega
           have hl_qh3_7 : w2.heap.size ≤ g_7 := by have := qh3.size; omega
           have hl_hC_7 : w4.heap.size ≤ g_7 := by have := hC.size; omega
           have hn_8_7 : g_8 < g_7 := by have := hb8.lt; omega
           have z26 := hq.size
           replace hG := hG.ext hq
           replace hb3 := hb3.ext hq
           replace hb4 := hb4.ext hq
           replace qh3 := qh3.next hq
           replace hC := hC.next hq
           replace hb8 := hb8.ext hq
           clear hq
           refine hd_next hC ?_
           refine hd_one 6 (by kernel_rfl) rfl ?_
           refine st_storeBA h rfl rfl hb7 rfl (by first | (simp [Value.oneCell', S]; done) | exact Enc.one _ _) sz31 ?_; clear h a; intro w27 hbn hq hz a h
           have z27 := hq.size
           replace hG := hG.fr hq (by first | (simp; done) | (simp; omega) | (simp [blks]; done) | (simp [blks]; omega))
           replace hb3 := hb3.fr hq (by first | (simp; done) | (simp; omega) | (simp [blks]; done) | (simp [blks]; omega))
           replace hb4 := hb4.fr hq (by first | (simp; done) | (simp; omega) | (simp [blks]; done) | (simp [blks]; omega))
           replace qh3 := qh3.step hq (by first | (simp; done) | (simp; omega))
           replace hC := hC.step hq (by first | (simp; done) | (simp; omega))
           replace hb8 := hb8.fr hq (by first | (simp; done) | (simp; omega) | (simp [blks]; done) | (simp [blks]; omega))
           clear hb7 hq hz; have hb7 : Blk w27 g_7 _ [_, _, _, _, _, _] := hbn; clear hbn
           refine hd_next hC ?_
           refine hd_one 7 (by kernel_rfl) rfl ?_
           refine st_storeBA h rfl rfl hb8 rfl (by first | (simp [Value.oneCell', S]; done) | exact Enc.one _ _) sz31 ?_; clear h a; intro w28 hbn hq hz a h
           have z28 := hq.size
           replace hG := hG.fr hq (by first | (simp; done) | (simp; omega) | (simp [blks]; done) | (simp [blks]; omega))
           replace hb3 := hb3.fr hq (by first | (simp; done) | (simp; omega) | (simp [blks]; done) | (simp [blks]; omega))
           replace hb4 := hb4.fr hq (by first | (simp; done) | (simp; omega) | (simp [blks]; done) | (simp [blks]; omega))
           replace qh3 := qh3.step hq (by first | (simp; done) | (simp; omega))
           replace hC := hC.step hq (by first | (simp; done) | (simp; omega))
           replace hb7 := hb7.fr hq (by first | (simp; done) | (simp; omega) | (simp [blks]; done) | (simp [blks]; omega))
           clear hb8 hq hz; have hb8 : Blk w28 g_8 _ [_, _, _, _, _, _] := hbn; clear hbn
           refine hd_next hC ?_
           refine hd_end (by kernel_rfl) ?_
           clear hC hG_b hb3_b hb4_b
           have z28 := qh3.size
           refine bk (h.sub (L' := [(2, _), (7, _), (8, _)]) (.cons rfl (.cons rfl (.cons rfl .nil)))) ?_; clear h a
           exact jE ((g_7, g_8)) (.cons rfl (.cons rfl (.cons rfl .nil))) ⟨qh3, ⟨by omega, by omega, by omega, hb7, hb8⟩⟩
         · refine id ?_
           refine st_alloc h zv31 rfl rfl ?_; clear h a; intro w29 hb7 hq hz a h
           obtain ⟨g_7, hg⟩ : ∃ g, g = w24.heap.size := ⟨_, rfl⟩; rw [← hg] at hb7 h hz
           have hn__7 : g3 < g_7 := by have := hb3.lt; omega
           have hn__7 : g4 < g_7 := by have := hb4.lt; omega
           have hl_qh3_7 : w2.heap.size ≤ g_7 := by have := qh3.size; omega
           have hl_hC_7 : w4.heap.size ≤ g_7 := by have := hC.size; omega
           have hn_8_7 : g_8 < g_7 := by have := hb8.lt; omega
           have z29 := hq.size
           replace hG := hG.ext hq
           replace hb3 := hb3.ext hq
           replace hb4 := hb4.ext hq
           replace qh3 := qh3.next hq
           replace hC := hC.next hq
           replace hb8 := hb8.ext hq
           clear hq
           refine hd_next hC ?_
           refine hd_one 3 (by kernel_rfl) rfl ?_
           refine st_call h (evs_cons rfl evs_nil) co13 (of_ok y _ hy) rfl ?_; clear h a; rintro _ w30 ⟨rfl, hq⟩ a h
           have z30 := hq.size
           replace hG := hG.ext hq
           replace hb3 := hb3.ext hq
           replace hb4 := hb4.ext hq
           replace qh3 := qh3.next hq
           replace hC := hC.next hq
           replace hb8 := hb8.ext hq
           replace hb7 := hb7.ext hq
           clear hq
           refine hd_next hC ?_
           refine hd_one 6 (by kernel_rfl) rfl ?_
           refine st_storeBA h rfl rfl hb7 rfl (by first | (simp [Value.oneCell', S]; done) | exact Enc.one _ _) sz31 ?_; clear h a; intro w31 hbn hq hz a h
           have z31 := hq.size
           replace hG := hG.fr hq (by first | (simp; done) | (simp; omega) | (simp [blks]; done) | (simp [blks]; omega))
           replace hb3 := hb3.fr hq (by first | (simp; done) | (simp; omega) | (simp [blks]; done) | (simp [blks]; omega))
           replace hb4 := hb4.fr hq (by first | (simp; done) | (simp; omega) | (simp [blks]; done) | (simp [blks]; omega))
           replace qh3 := qh3.step hq (by first | (simp; done) | (simp; omega))
           replace hC := hC.step hq (by first | (simp; done) | (simp; omega))
           replace hb8 := hb8.fr hq (by first | (simp; done) | (simp; omega) | (simp [blks]; done) | (simp [blks]; omega))
           clear hb7 hq hz; have hb7 : Blk w31 g_7 _ [_, _, _, _, _, _] := hbn; clear hbn
           refine hd_next hC ?_
           refine hd_one 7 (by kernel_rfl) rfl ?_
           refine st_storeBA h rfl rfl hb8 rfl (by first | (simp [Value.oneCell', S]; done) | exact Enc.one _ _) sz31 ?_; clear h a; intro w32 hbn hq hz a h
           have z32 := hq.size
           replace hG := hG.fr hq (by first | (simp; done) | (simp; omega) | (simp [blks]; done) | (simp [blks]; omega))
           replace hb3 := hb3.fr hq (by first | (simp; done) | (simp; omega) | (simp [blks]; done) | (simp [blks]; omega))
           replace hb4 := hb4.fr hq (by first | (simp; done) | (simp; omega) | (simp [blks]; done) | (simp [blks]; omega))
           replace qh3 := qh3.step hq (by first | (simp; done) | (simp; omega))
           replace hC := hC.step hq (by first | (simp; done) | (simp; omega))
           replace hb7 := hb7.fr hq (by first | (simp; done) | (simp; omega) | (simp [blks]; done) | (simp [blks]; omega))
           clear hb8 hq hz; have hb8 : Blk w32 g_8 _ [_, _, _, _, _, _] := hbn; clear hbn
           refine hd_next hC ?_
           refine hd_end (by kernel_rfl) ?_
           clear hC hG_b hb3_b hb4_b
           have z32 := qh3.size
           refine bk (h.sub (L' := [(2, _), (7, _), (8, _)]) (.cons rfl (.cons rfl (.cons rfl .nil)))) ?_; clear h a
           exact jE ((g_7, g_8)) (.cons rfl (.cons rfl (.cons rfl .nil))) ⟨qh3, ⟨by omega, by omega, by omega, hb7, hb8⟩⟩
     · refine id ?_
       refine st_alloc h zv31 rfl rfl ?_; clear h a; intro w33 hb7 hq hz a h
       obtain ⟨g_7, hg⟩ : ∃ g, g = w4.heap.size := ⟨_, rfl⟩; rw [← hg] at hb7 h hz
       have hn__7 : g3 < g_7 := by have := hb3.lt; omega
       have hn__7 : g4 < g_7 := by have := hb4.lt; omega
       have hl_qh3_7 : w2.heap.size ≤ g_7 := by have := qh3.size; omega
       have hl_hC_7 : w4.heap.size ≤ g_7 := by have := hC.size; omega
       have z33 := hq.size
       replace hG := hG.ext hq
       replace hb3 := hb3.ext hq
       replace hb4 := hb4.ext hq
       replace qh3 := qh3.next hq
       replace hC := hC.next hq
       clear hq
       refine hd_next hC ?_
       refine hd_two 1 5 (by kernel_rfl) rfl rfl ?_ ?_
       · refine id ?_
         refine st_call h (evs_cons rfl evs_nil) co13 (of_ok x _ hx) rfl ?_; clear h a; rintro _ w34 ⟨rfl, hq⟩ a h
         have z34 := hq.size
         replace hG := hG.ext hq
         replace hb3 := hb3.ext hq
         replace hb4 := hb4.ext hq
         replace qh3 := qh3.next hq
         replace hC := hC.next hq
         replace hb7 := hb7.ext hq
         clear hq
         refine hd_next hC ?_
         refine hd_two 3 5 (by kernel_rfl) rfl rfl ?_ ?_
         · refine id ?_
           refine st_call h (evs_cons rfl evs_nil) co13 (of_ok y _ hy) rfl ?_; clear h a; rintro _ w35 ⟨rfl, hq⟩ a h
           have z35 := hq.size
           replace hG := hG.ext hq
           replace hb3 := hb3.ext hq
           replace hb4 := hb4.ext hq
           replace qh3 := qh3.next hq
           replace hC := hC.next hq
           replace hb7 := hb7.ext hq
           clear hq
           refine hd_next hC ?_
           refine hd_one 5 (by kernel_rfl) rfl ?_
           refine st_alloc h zv31 rfl rfl ?_; clear h a; intro w36 hb8 hq hz a h
           obtain ⟨g_8, hg⟩ : ∃ g, g = w35.heap.size := ⟨_, rfl⟩; rw [← hg] at hb8 h hz
           have hn__8 : g3 < g_8 := by have := hb3.lt; omega
           have hn__8 : g4 < g_8 := by have := hb4.lt; omega
           have hl_qh3_8 : w2.heap.size ≤ g_8 := by have := qh3.size; omega
           have hl_hC_8 : w4.heap.size ≤ g_8 := by have := hC.size; omega
           have hn_7_8 : g_7 < g_8 := by have := hb7.lt; omega
           have z36 := hq.size
           replace hG := hG.ext hq
           replace hb3 := hb3.ext hq
           replace hb4 := hb4.ext hq
           replace qh3 := qh3.next hq
           replace hC := hC.next hq
           replace hb7 := hb7.ext hq
           clear hq
           refine hd_next hC ?_
           refine hd_one 6 (by kernel_rfl) rfl ?_
           refine st_storeBA h rfl rfl hb7 rfl (by first | (simp [Value.oneCell', S]; done) | exact Enc.one _ _) sz31 ?_; clear h a; intro w37 hbn hq hz a h
           have z37 := hq.size
           replace hG := hG.fr hq (by first | (simp; done) | (simp; omega) | (simp [blks]; done) | (simp [blks]; omega))
           replace hb3 := hb3.fr hq (by first | (simp; done) | (simp; omega) | (simp [blks]; done) | (simp [blks]; omega))
           replace hb4 := hb4.fr hq (by first | (simp; done) | (simp; omega) | (simp [blks]; done) | (simp [blks]; omega))
           replace qh3 := qh3.step hq (by first | (simp; done) | (simp; omega))
           replace hC := hC.step hq (by first | (simp; done) | (simp; omega))
           replace hb8 := hb8.fr hq (by first | (simp; done) | (simp; omega) | (simp [blks]; done) | (simp [blks]; omega))
           clear hb7 hq hz; have hb7 : Blk w37 g_7 _ [_, _, _, _, _, _] := hbn; clear hbn
           refine hd_next hC ?_
           refine hd_one 7 (by kernel_rfl) rfl ?_
           refine st_storeBA h rfl rfl hb8 rfl (by first | (simp [Value.oneCell', S]; done) | exact Enc.one _ _) sz31 ?_; clear h a; intro w38 hbn hq hz a h
           have z38 := hq.size
           replace hG := hG.fr hq (by first | (simp; done) | (simp; omega) | (simp [blks]; done) | (simp [blks]; omega))
           replace hb3 := hb3.fr hq (by first | (simp; done) | (simp; omega) | (simp [blks]; done) | (simp [blks]; omega))
           replace hb4 := hb4.fr hq (by first | (simp; done) | (simp; omega) | (simp [blks]; done) | (simp [blks]; omega))
           replace qh3 := qh3.step hq (by first | (simp; done) | (simp; omega))
           replace hC := hC.step hq (by first | (simp; done) | (simp; omega))
           replace hb7 := hb7.fr hq (by first | (simp; done) | (simp; omega) | (simp [blks]; done) | (simp [blks]; omega))
           clear hb8 hq hz; have hb8 : Blk w38 g_8 _ [_, _, _, _, _, _] := hbn; clear hbn
           refine hd_next hC ?_
           refine hd_end (by kernel_rfl) ?_
           clear hC hG_b hb3_b hb4_b
           have z38 := qh3.size
           refine bk (h.sub (L' := [(2, _), (7, _), (8, _)]) (.cons rfl (.cons rfl (.cons rfl .nil)))) ?_; clear h a
           exact jE ((g_7, g_8)) (.cons rfl (.cons rfl (.cons rfl .nil))) ⟨qh3, ⟨by omega, by omega, by omega, hb7, hb8⟩⟩
         · refine id ?_
           refine st_alloc h zv31 rfl rfl ?_; clear h a; intro w39 hb8 hq hz a h
           obtain ⟨g_8, hg⟩ : ∃ g, g = w34.heap.size := ⟨_, rfl⟩; rw [← hg] at hb8 h hz
           have hn__8 : g3 < g_8 := by have := hb3.lt; omega
           have hn__8 : g4 < g_8 := by have := hb4.lt; omega
           have hl_qh3_8 : w2.heap.size ≤ g_8 := by have := qh3.size; omega
           have hl_hC_8 : w4.heap.size ≤ g_8 := by have := hC.size; omega
           have hn_7_8 : g_7 < g_8 := by have := hb7.lt; omega
           have z39 := hq.size
           replace hG := hG.ext hq
           replace hb3 := hb3.ext hq
           replace hb4 := hb4.ext hq
           replace qh3 := qh3.next hq
           replace hC := hC.next hq
           replace hb7 := hb7.ext hq
           clear hq
           refine hd_next hC ?_
           refine hd_one 3 (by kernel_rfl) rfl ?_
           refine st_call h (evs_cons rfl evs_nil) co13 (of_ok y _ hy) rfl ?_; clear h a; rintro _ w40 ⟨rfl, hq⟩ a h
           have z40 := hq.size
           replace hG := hG.ext hq
           replace hb3 := hb3.ext hq
           replace hb4 := hb4.ext hq
           replace qh3 := qh3.next hq
           replace hC := hC.next hq
           replace hb7 := hb7.ext hq
           replace hb8 := hb8.ext hq
           clear hq
           refine hd_next hC ?_
           refine hd_one 6 (by kernel_rfl) rfl ?_
           refine st_storeBA h rfl rfl hb7 rfl (by first | (simp [Value.oneCell', S]; done) | exact Enc.one _ _) sz31 ?_; clear h a; intro w41 hbn hq hz a h
           have z41 := hq.size
           replace hG := hG.fr hq (by first | (simp; done) | (simp; omega) | (simp [blks]; done) | (simp [blks]; omega))
           replace hb3 := hb3.fr hq (by first | (simp; done) | (simp; omega) | (simp [blks]; done) | (simp [blks]; omega))
           replace hb4 := hb4.fr hq (by first | (simp; done) | (simp; omega) | (simp [blks]; done) | (simp [blks]; omega))
           replace qh3 := qh3.step hq (by first | (simp; done) | (simp; omega))
           replace hC := hC.step hq (by first | (simp; done) | (simp; omega))
           replace hb8 := hb8.fr hq (by first | (simp; done) | (simp; omega) | (simp [blks]; done) | (simp [blks]; omega))
           clear hb7 hq hz; have hb7 : Blk w41 g_7 _ [_, _, _, _, _, _] := hbn; clear hbn
           refine hd_next hC ?_
           refine hd_one 7 (by kernel_rfl) rfl ?_
           refine st_storeBA h rfl rfl hb8 rfl (by first | (simp [Value.oneCell', S]; done) | exact Enc.one _ _) sz31 ?_; clear h a; intro w42 hbn hq hz a h
           have z42 := hq.size
           replace hG := hG.fr hq (by first | (simp; done) | (simp; omega) | (simp [blks]; done) | (simp [blks]; omega))
           replace hb3 := hb3.fr hq (by first | (simp; done) | (simp; omega) | (simp [blks]; done) | (simp [blks]; omega))
           replace hb4 := hb4.fr hq (by first | (simp; done) | (simp; omega) | (simp [blks]; done) | (simp [blks]; omega))
           replace qh3 := qh3.step hq (by first | (simp; done) | (simp; omega))
           replace hC := hC.step hq (by first | (simp; done) | (simp; omega))
           replace hb7 := hb7.fr hq (by first | (simp; done) | (simp; omega) | (simp [blks]; done) | (simp [blks]; omega))
           clear hb8 hq hz; have hb8 : Blk w42 g_8 _ [_, _, _, _, _, _] := hbn; clear hbn
           refine hd_next hC ?_
           refine hd_end (by kernel_rfl) ?_
           clear hC hG_b hb3_b hb4_b
           have z42 := qh3.size
           refine bk (h.sub (L' := [(2, _), (7, _), (8, _)]) (.cons rfl (.cons rfl (.cons rfl .nil)))) ?_; clear h a
           exact jE ((g_7, g_8)) (.cons rfl (.cons rfl (.cons rfl .nil))) ⟨qh3, ⟨by omega, by omega, by omega, hb7, hb8⟩⟩
       · refine id ?_
         refine st_alloc h zv31 rfl rfl ?_; clear h a; intro w43 hb8 hq hz a h
         obtain ⟨g_8, hg⟩ : ∃ g, g = w33.heap.size := ⟨_, rfl⟩; rw [← hg] at hb8 h hz
         have hn__8 : g3 < g_8 := by have := hb3.lt; omega
         have hn__8 : g4 < g_8 := by have := hb4.lt; omega
         have hl_qh3_8 : w2.heap.size ≤ g_8 := by have := qh3.size; omega
         have hl_hC_8 : w4.heap.size ≤ g_8 := by have := hC.size; omega
         have hn_7_8 : g_7 < g_8 := by have := hb7.lt; omega
         have z43 := hq.size
         replace hG := hG.ext hq
         replace hb3 := hb3.ext hq
         replace hb4 := hb4.ext hq
         replace qh3 := qh3.next hq
         replace hC := hC.next hq
         replace hb7 := hb7.ext hq
         clear hq
         refine hd_next hC ?_
         refine hd_one 1 (by kernel_rfl) rfl ?_
         refine st_call h (evs_cons rfl evs_nil) co13 (of_ok x _ hx) rfl ?_; clear h a; rintro _ w44 ⟨rfl, hq⟩ a h
         have z44 := hq.size
         replace hG := hG.ext hq
         replace hb3 := hb3.ext hq
         replace hb4 := hb4.ext hq
         replace qh3 := qh3.next hq
         replace hC := hC.next hq
         replace hb7 := hb7.ext hq
         replace hb8 := hb8.ext hq
         clear hq
         refine hd_next hC ?_
         refine hd_one 3 (by kernel_rfl) rfl ?_
         refine st_call h (evs_cons rfl evs_nil) co13 (of_ok y _ hy) rfl ?_; clear h a; rintro _ w45 ⟨rfl, hq⟩ a h
         have z45 := hq.size
         replace hG := hG.ext hq
         replace hb3 := hb3.ext hq
         replace hb4 := hb4.ext hq
         replace qh3 := qh3.next hq
         replace hC := hC.next hq
         replace hb7 := hb7.ext hq
         replace hb8 := hb8.ext hq
         clear hq
         refine hd_next hC ?_
         refine hd_one 6 (by kernel_rfl) rfl ?_
         refine st_storeBA h rfl rfl hb7 rfl (by first | (simp [Value.oneCell', S]; done) | exact Enc.one _ _) sz31 ?_; clear h a; intro w46 hbn hq hz a h
         have z46 := hq.size
         replace hG := hG.fr hq (by first | (simp; done) | (simp; omega) | (simp [blks]; done) | (simp [blks]; omega))
         replace hb3 := hb3.fr hq (by first | (simp; done) | (simp; omega) | (simp [blks]; done) | (simp [blks]; omega))
         replace hb4 := hb4.fr hq (by first | (simp; done) | (simp; omega) | (simp [blks]; done) | (simp [blks]; omega))
         replace qh3 := qh3.step hq (by first | (simp; done) | (simp; omega))
         replace hC := hC.step hq (by first | (simp; done) | (simp; omega))
         replace hb8 := hb8.fr hq (by first | (simp; done) | (simp; omega) | (simp [blks]; done) | (simp [blks]; omega))
         clear hb7 hq hz; have hb7 : Blk w46 g_7 _ [_, _, _, _, _, _] := hbn; clear hbn
         refine hd_next hC ?_
         refine hd_one 7 (by kernel_rfl) rfl ?_
         refine st_storeBA h rfl rfl hb8 rfl (by first | (simp [Value.oneCell', S]; done) | exact Enc.one _ _) sz31 ?_; clear h a; intro w47 hbn hq hz a h
         have z47 := hq.size
         replace hG := hG.fr hq (by first | (simp; done) | (simp; omega) | (simp [blks]; done) | (simp [blks]; omega))
         replace hb3 := hb3.fr hq (by first | (simp; done) | (simp; omega) | (simp [blks]; done) | (simp [blks]; omega))
         replace hb4 := hb4.fr hq (by first | (simp; done) | (simp; omega) | (simp [blks]; done) | (simp [blks]; omega))
         replace qh3 := qh3.step hq (by first | (simp; done) | (simp; omega))
         replace hC := hC.step hq (by first | (simp; done) | (simp; omega))
         replace hb7 := hb7.fr hq (by first | (simp; done) | (simp; omega) | (simp [blks]; done) | (simp [blks]; omega))
         clear hb8 hq hz; have hb8 : Blk w47 g_8 _ [_, _, _, _, _, _] := hbn; clear hbn
         refine hd_next hC ?_
         refine hd_end (by kernel_rfl) ?_
         clear hC hG_b hb3_b hb4_b
         have z47 := qh3.size
         refine bk (h.sub (L' := [(2, _), (7, _), (8, _)]) (.cons rfl (.cons rfl (.cons rfl .nil)))) ?_; clear h a
         exact jE ((g_7, g_8)) (.cons rfl (.cons rfl (.cons rfl .nil))) ⟨qh3, ⟨by omega, by omega, by omega, hb7, hb8⟩⟩
     · refine id ?_
       refine st_alloc h zv31 rfl rfl ?_; clear h a; intro w48 hb8 hq hz a h
       obtain ⟨g_8, hg⟩ : ∃ g, g = w4.heap.size := ⟨_, rfl⟩; rw [← hg] at hb8 h hz
       have hn__8 : g3 < g_8 := by have := hb3.lt; omega
       have hn__8 : g4 < g_8 := by have := hb4.lt; omega
       have hl_qh3_8 : w2.heap.size ≤ g_8 := by have := qh3.size; omega
       have hl_hC_8 : w4.heap.size ≤ g_8 := by have := hC.size; omega
       have z48 := hq.size
       replace hG := hG.ext hq
       replace hb3 := hb3.ext hq
       replace hb4 := hb4.ext hq
       replace qh3 := qh3.next hq
       replace hC := hC.next hq
       clear hq
       refine hd_next hC ?_
       refine hd_two 1 4 (by kernel_rfl) rfl rfl ?_ ?_
       · refine id ?_
         refine st_call h (evs_cons rfl evs_nil) co13 (of_ok x _ hx) rfl ?_; clear h a; rintro _ w49 ⟨rfl, hq⟩ a h
         have z49 := hq.size
         replace hG := hG.ext hq
         replace hb3 := hb3.ext hq
         replace hb4 := hb4.ext hq
         replace qh3 := qh3.next hq
         replace hC := hC.next hq
         replace hb8 := hb8.ext hq
         clear hq
         refine hd_next hC ?_
         refine hd_two 3 4 (by kernel_rfl) rfl rfl ?_ ?_
         · refine id ?_
           refine st_call h (evs_cons rfl evs_nil) co13 (of_ok y _ hy) rfl ?_; clear h a; rintro _ w50 ⟨rfl, hq⟩ a h
           have z50 := hq.size
           replace hG := hG.ext hq
           replace hb3 := hb3.ext hq
           replace hb4 := hb4.ext hq
           replace qh3 := qh3.next hq
           replace hC := hC.next hq
           replace hb8 := hb8.ext hq
           clear hq
           refine hd_next hC ?_
           refine hd_one 4 (by kernel_rfl) rfl ?_
           refine st_alloc h zv31 rfl rfl ?_; clear h a; intro w51 hb7 hq hz a h
           obtain ⟨g_7, hg⟩ : ∃ g, g = w50.heap.size := ⟨_, rfl⟩; rw [← hg] at hb7 h hz
           have hn__7 : g3 < g_7 := by have := hb3.lt; omega
           have hn__7 : g4 < g_7 := by have := hb4.lt; omega
           have hl_qh3_7 : w2.heap.size ≤ g_7 := by have := qh3.size; omega
           have hl_hC_7 : w4.heap.size ≤ g_7 := by have := hC.size; omega
           have hn_8_7 : g_8 < g_7 := by have := hb8.lt; omega
           have z51 := hq.size
           replace hG := hG.ext hq
           replace hb3 := hb3.ext hq
           replace hb4 := hb4.ext hq
           replace qh3 := qh3.next hq
           replace hC := hC.next hq
           replace hb8 := hb8.ext hq
           clear hq
           refine hd_next hC ?_
           refine hd_one 6 (by kernel_rfl) rfl ?_
           refine st_storeBA h rfl rfl hb7 rfl (by first | (simp [Value.oneCell', S]; done) | exact Enc.one _ _) sz31 ?_; clear h a; intro w52 hbn hq hz a h
           have z52 := hq.size
           replace hG := hG.fr hq (by first | (simp; done) | (simp; omega) | (simp [blks]; done) | (simp [blks]; omega))
           replace hb3 := hb3.fr hq (by first | (simp; done) | (simp; omega) | (simp [blks]; done) | (simp [blks]; omega))
           replace hb4 := hb4.fr hq (by first | (simp; done) | (simp; omega) | (simp [blks]; done) | (simp [blks]; omega))
           replace qh3 := qh3.step hq (by first | (simp; done) | (simp; omega))
           replace hC := hC.step hq (by first | (simp; done) | (simp; omega))
           replace hb8 := hb8.fr hq (by first | (simp; done) | (simp; omega) | (simp [blks]; done) | (simp [blks]; omega))
           clear hb7 hq hz; have hb7 : Blk w52 g_7 _ [_, _, _, _, _, _] := hbn; clear hbn
           refine hd_next hC ?_
           refine hd_one 7 (by kernel_rfl) rfl ?_
           refine st_storeBA h rfl rfl hb8 rfl (by first | (simp [Value.oneCell', S]; done) | exact Enc.one _ _) sz31 ?_; clear h a; intro w53 hbn hq hz a h
           have z53 := hq.size
           replace hG := hG.fr hq (by first | (simp; done) | (simp; omega) | (simp [blks]; done) | (simp [blks]; omega))
           replace hb3 := hb3.fr hq (by first | (simp; done) | (simp; omega) | (simp [blks]; done) | (simp [blks]; omega))
           replace hb4 := hb4.fr hq (by first | (simp; done) | (simp; omega) | (simp [blks]; done) | (simp [blks]; omega))
           replace qh3 := qh3.step hq (by first | (simp; done) | (simp; omega))
           replace hC := hC.step hq (by first | (simp; done) | (simp; omega))
           replace hb7 := hb7.fr hq (by first | (simp; done) | (simp; omega) | (simp [blks]; done) | (simp [blks]; omega))
           clear hb8 hq hz; have hb8 : Blk w53 g_8 _ [_, _, _, _, _, _] := hbn; clear hbn
           refine hd_next hC ?_
           refine hd_end (by kernel_rfl) ?_
           clear hC hG_b hb3_b hb4_b
           have z53 := qh3.size
           refine bk (h.sub (L' := [(2, _), (7, _), (8, _)]) (.cons rfl (.cons rfl (.cons rfl .nil)))) ?_; clear h a
           exact jE ((g_7, g_8)) (.cons rfl (.cons rfl (.cons rfl .nil))) ⟨qh3, ⟨by omega, by omega, by omega, hb7, hb8⟩⟩
         · refine id ?_
           refine st_alloc h zv31 rfl rfl ?_; clear h a; intro w54 hb7 hq hz a h
           obtain ⟨g_7, hg⟩ : ∃ g, g = w49.heap.size := ⟨_, rfl⟩; rw [← hg] at hb7 h hz
           have hn__7 : g3 < g_7 := by have := hb3.lt; omega
           have hn__7 : g4 < g_7 := by have := hb4.lt; omega
           have hl_qh3_7 : w2.heap.size ≤ g_7 := by have := qh3.size; omega
           have hl_hC_7 : w4.heap.size ≤ g_7 := by have := hC.size; omega
           have hn_8_7 : g_8 < g_7 := by have := hb8.lt; omega
           have z54 := hq.size
           replace hG := hG.ext hq
           replace hb3 := hb3.ext hq
           replace hb4 := hb4.ext hq
           replace qh3 := qh3.next hq
           replace hC := hC.next hq
           replace hb8 := hb8.ext hq
           clear hq
           refine hd_next hC ?_
           refine hd_one 3 (by kernel_rfl) rfl ?_
           refine st_call h (evs_cons rfl evs_nil) co13 (of_ok y _ hy) rfl ?_; clear h a; rintro _ w55 ⟨rfl, hq⟩ a h
           have z55 := hq.size
           replace hG := hG.ext hq
           replace hb3 := hb3.ext hq
           replace hb4 := hb4.ext hq
           replace qh3 := qh3.next hq
           replace hC := hC.next hq
           replace hb8 := hb8.ext hq
           replace hb7 := hb7.ext hq
           clear hq
           refine hd_next hC ?_
           refine hd_one 6 (by kernel_rfl) rfl ?_
           refine st_storeBA h rfl rfl hb7 rfl (by first | (simp [Value.oneCell', S]; done) | exact Enc.one _ _) sz31 ?_; clear h a; intro w56 hbn hq hz a h
           have z56 := hq.size
           replace hG := hG.fr hq (by first | (simp; done) | (simp; omega) | (simp [blks]; done) | (simp [blks]; omega))
           replace hb3 := hb3.fr hq (by first | (simp; done) | (simp; omega) | (simp [blks]; done) | (simp [blks]; omega))
           replace hb4 := hb4.fr hq (by first | (simp; done) | (simp; omega) | (simp [blks]; done) | (simp [blks]; omega))
           replace qh3 := qh3.step hq (by first | (simp; done) | (simp; omega))
           replace hC := hC.step hq (by first | (simp; done) | (simp; omega))
           replace hb8 := hb8.fr hq (by first | (simp; done) | (simp; omega) | (simp [blks]; done) | (simp [blks]; omega))
           clear hb7 hq hz; have hb7 : Blk w56 g_7 _ [_, _, _, _, _, _] := hbn; clear hbn
           refine hd_next hC ?_
           refine hd_one 7 (by kernel_rfl) rfl ?_
           refine st_storeBA h rfl rfl hb8 rfl (by first | (simp [Value.oneCell', S]; done) | exact Enc.one _ _) sz31 ?_; clear h a; intro w57 hbn hq hz a h
           have z57 := hq.size
           replace hG := hG.fr hq (by first | (simp; done) | (simp; omega) | (simp [blks]; done) | (simp [blks]; omega))
           replace hb3 := hb3.fr hq (by first | (simp; done) | (simp; omega) | (simp [blks]; done) | (simp [blks]; omega))
           replace hb4 := hb4.fr hq (by first | (simp; done) | (simp; omega) | (simp [blks]; done) | (simp [blks]; omega))
           replace qh3 := qh3.step hq (by first | (simp; done) | (simp; omega))
           replace hC := hC.step hq (by first | (simp; done) | (simp; omega))
           replace hb7 := hb7.fr hq (by first | (simp; done) | (simp; omega) | (simp [blks]; done) | (simp [blks]; omega))
           clear hb8 hq hz; have hb8 : Blk w57 g_8 _ [_, _, _, _, _, _] := hbn; clear hbn
           refine hd_next hC ?_
           refine hd_end (by kernel_rfl) ?_
           clear hC hG_b hb3_b hb4_b
           have z57 := qh3.size
           refine bk (h.sub (L' := [(2, _), (7, _), (8, _)]) (.cons rfl (.cons rfl (.cons rfl .nil)))) ?_; clear h a
           exact jE ((g_7, g_8)) (.cons rfl (.cons rfl (.cons rfl .nil))) ⟨qh3, ⟨by omega, by omega, by omega, hb7, hb8⟩⟩
       · refine id ?_
         refine st_alloc h zv31 rfl rfl ?_; clear h a; intro w58 hb7 hq hz a h
         obtain ⟨g_7, hg⟩ : ∃ g, g = w48.heap.size := ⟨_, rfl⟩; rw [← hg] at hb7 h hz
         have hn__7 : g3 < g_7 := by have := hb3.lt; omega
         have hn__7 : g4 < g_7 := by have := hb4.lt; omega
         have hl_qh3_7 : w2.heap.size ≤ g_7 := by have := qh3.size; omega
         have hl_hC_7 : w4.heap.size ≤ g_7 := by have := hC.size; omega
         have hn_8_7 : g_8 < g_7 := by have := hb8.lt; omega
         have z58 := hq.size
         replace hG := hG.ext hq
         replace hb3 := hb3.ext hq
         replace hb4 := hb4.ext hq
         replace qh3 := qh3.next hq
         replace hC := hC.next hq
         replace hb8 := hb8.ext hq
         clear hq
         refine hd_next hC ?_
         refine hd_one 1 (by kernel_rfl) rfl ?_
         refine st_call h (evs_cons rfl evs_nil) co13 (of_ok x _ hx) rfl ?_; clear h a; rintro _ w59 ⟨rfl, hq⟩ a h
         have z59 := hq.size
         replace hG := hG.ext hq
         replace hb3 := hb3.ext hq
         replace hb4 := hb4.ext hq
         replace qh3 := qh3.next hq
         replace hC := hC.next hq
         replace hb8 := hb8.ext hq
         replace hb7 := hb7.ext hq
         clear hq
         refine hd_next hC ?_
         refine hd_one 3 (by kernel_rfl) rfl ?_
         refine st_call h (evs_cons rfl evs_nil) co13 (of_ok y _ hy) rfl ?_; clear h a; rintro _ w60 ⟨rfl, hq⟩ a h
         have z60 := hq.size
         replace hG := hG.ext hq
         replace hb3 := hb3.ext hq
         replace hb4 := hb4.ext hq
         replace qh3 := qh3.next hq
         replace hC := hC.next hq
         replace hb8 := hb8.ext hq
         replace hb7 := hb7.ext hq
         clear hq
         refine hd_next hC ?_
         refine hd_one 6 (by kernel_rfl) rfl ?_
         refine st_storeBA h rfl rfl hb7 rfl (by first | (simp [Value.oneCell', S]; done) | exact Enc.one _ _) sz31 ?_; clear h a; intro w61 hbn hq hz a h
         have z61 := hq.size
         replace hG := hG.fr hq (by first | (simp; done) | (simp; omega) | (simp [blks]; done) | (simp [blks]; omega))
         replace hb3 := hb3.fr hq (by first | (simp; done) | (simp; omega) | (simp [blks]; done) | (simp [blks]; omega))
         replace hb4 := hb4.fr hq (by first | (simp; done) | (simp; omega) | (simp [blks]; done) | (simp [blks]; omega))
         replace qh3 := qh3.step hq (by first | (simp; done) | (simp; omega))
         replace hC := hC.step hq (by first | (simp; done) | (simp; omega))
         replace hb8 := hb8.fr hq (by first | (simp; done) | (simp; omega) | (simp [blks]; done) | (simp [blks]; omega))
         clear hb7 hq hz; have hb7 : Blk w61 g_7 _ [_, _, _, _, _, _] := hbn; clear hbn
         refine hd_next hC ?_
         refine hd_one 7 (by kernel_rfl) rfl ?_
         refine st_storeBA h rfl rfl hb8 rfl (by first | (simp [Value.oneCell', S]; done) | exact Enc.one _ _) sz31 ?_; clear h a; intro w62 hbn hq hz a h
         have z62 := hq.size
         replace hG := hG.fr hq (by first | (simp; done) | (simp; omega) | (simp [blks]; done) | (simp [blks]; omega))
         replace hb3 := hb3.fr hq (by first | (simp; done) | (simp; omega) | (simp [blks]; done) | (simp [blks]; omega))
         replace hb4 := hb4.fr hq (by first | (simp; done) | (simp; omega) | (simp [blks]; done) | (simp [blks]; omega))
         replace qh3 := qh3.step hq (by first | (simp; done) | (simp; omega))
         replace hC := hC.step hq (by first | (simp; done) | (simp; omega))
         replace hb7 := hb7.fr hq (by first | (simp; done) | (simp; omega) | (simp [blks]; done) | (simp [blks]; omega))
         clear hb8 hq hz; have hb8 : Blk w62 g_8 _ [_, _, _, _, _, _] := hbn; clear hbn
         refine hd_next hC ?_
         refine hd_end (by kernel_rfl) ?_
         clear hC hG_b hb3_b hb4_b
         have z62 := qh3.size
         refine bk (h.sub (L' := [(2, _), (7, _), (8, _)]) (.cons rfl (.cons rfl (.cons rfl .nil)))) ?_; clear h a
         exact jE ((g_7, g_8)) (.cons rfl (.cons rfl (.cons rfl .nil))) ⟨qh3, ⟨by omega, by omega, by omega, hb7, hb8⟩⟩
   · rintro ⟨g7, g8⟩ w63 ⟨q63, ⟨hg7, hg8, hg78, hb7, hb8⟩⟩
     have z63 := q63.size
     have lt_hb7 := hb7.lt
     have lt_hb8 := hb8.lt
     refine kpC [(2, _), (7, _), (8, _)] (.cons rfl (.cons rfl (.cons rfl .nil))) ?_
     simp only at hg7 hg8 hg78 hb7 hb8
     refine sr (s_loadBA rfl hb7 ag31 rfl ?_)
     refine cl (ev1 rfl) co15 (ltext_ok (ofO x) _ hca) rfl ?_
     rintro _ w64 ⟨rfl, q64⟩
     have z64 := q64.size
     replace hG := hG.ext (((q1.next q2).next q63).next q64)
     refine cl (ev1 rfl) co14 (parse_ok _ _ hG (by have := txt_len (ofO x); omega)) rfl ?_
     rintro _ w65 ⟨o, e, hpe, rfl, q65⟩
     have z65 := q65.size
     cases hpe.symm.trans hpa
     refine mv rfl rfl (xt rfl rfl rfl (xt rfl rfl rfl (al zv31 rfl rfl (fun g9 w66 hg9 hb9 q66 z66 => ?_))))
     refine s_storeBA rfl rfl hb9 rfl (by first | (simp [Value.oneCell', S]; done) | exact Enc.one _ _) sz31 (fun w67 hb9 q67 z67 => ?_)
     refine asg rfl rfl (kpL [(2, _), (7, _), (8, _), (9, _), (10, _)] (.cons rfl (.cons rfl (.cons rfl (.cons rfl (.cons rfl .nil))))) (nn (sq ?_)))
     refine jn (ι := Bool) [(2, _), (9, _)] (fun b5 => [(54, .bool b5)]) (fun b5 w' => Fr [] w67 w' ∧ b5 = false) (.cons rfl (.cons rfl .nil)) ?_ ?_
     · replace hG := (hG.ext (q65.next q66)).fr q67 (by first | (simp; done) | (simp; omega) | (simp [blks]; done) | (simp [blks]; omega) | (intro k hk hb; simp at hk; subst hk; have := (hG.blk _ hb).2; omega))
       replace hb3 := (hb3.ext ((((q2.next q63).next q64).next q65).next q66)).fr q67 (by first | (simp; done) | (simp; omega) | (simp [blks]; done) | (simp [blks]; omega))
       replace hb4 := (hb4.ext (((q63.next q64).next q65).next q66)).fr q67 (by first | (simp; done) | (simp; omega) | (simp [blks]; done) | (simp [blks]; omega))
       replace hb7 := (hb7.ext ((q64.next q65).next q66)).fr q67 (by first | (simp; done) | (simp; omega) | (simp [blks]; done) | (simp [blks]; omega))
       replace hb8 := (hb8.ext ((q64.next q65).next q66)).fr q67 (by first | (simp; done) | (simp; omega) | (simp [blks]; done) | (simp [blks]; omega))
       intro a h
       have qh5 := Fr.refl [] w67
       refine region_held (fun wb w' => Fr [] wb w') hmix ?_; intro w68 hq
       have z68 := hq.size
       replace hG := hG.ext hq
       replace hb3 := hb3.ext hq
       replace hb4 := hb4.ext hq
       replace hb7 := hb7.ext hq
       replace hb8 := hb8.ext hq
       replace hb9 := hb9.ext hq
       replace qh5 := qh5.next hq
       have hsz := hq.size; clear hq; have hC : Fr [] w68 w68 := Fr.refl _ _
       have hG_b := hG
       have hb3_b := hb3
       have hb4_b := hb4
       have hb7_b := hb7
       have hb8_b := hb8
       have hb9_b := hb9
       refine hd_loadBA 0 (by kernel_rfl) (by kernel_rfl) (by kernel_rfl) hC h wn rfl (fun _ hw => hb7_b.ext hw) ag31 rfl rfl ?_; clear h a; intro a h
       refine hd_one 1 (by kernel_rfl) rfl ?_
       refine st_call h (evs_cons rfl evs_nil) co16 (check_ok (ofO x) _) rfl ?_; clear h a; rintro _ w69 ⟨rfl, hq⟩ a h
       have z69 := hq.size
       replace hG := hG.ext hq
       replace hb3 := hb3.ext hq
       replace hb4 := hb4.ext hq
       replace hb7 := hb7.ext hq
       replace hb8 := hb8.ext hq
       replace hb9 := hb9.ext hq
       replace qh5 := qh5.next hq
       replace hC := hC.next hq
       clear hq
       refine hd_next hC ?_
       refine hd_ne 2 (by kernel_rfl) (by kernel_rfl) (by kernel_rfl) hC h wn rfl rfl rfl rfl ?_; clear h a; intro a h
       refine hd_move 3 (by kernel_rfl) (by kernel_rfl) (by kernel_rfl) hC h wn rfl rfl rfl ?_; clear h a; intro a h
       first | refine guard_dec (D := 28) h rfl ?_ ?_ | refine guard_ndec (D := 28) h rfl ?_ ?_ | refine guard_any (D := 28) h rfl ?_ ?_
       · clear h; intro g0 h
         refine hd_gn 4 (by kernel_rfl) (by kernel_rfl) (by kernel_rfl) hC h rfl rfl rfl rfl ?_; clear h a; intro a h
         refine hd_gn 5 (by kernel_rfl) (by kernel_rfl) (by kernel_rfl) hC h rfl rfl rfl rfl ?_; clear h a; intro a h
         refine hd_gn 6 (by kernel_rfl) (by kernel_rfl) (by kernel_rfl) hC h rfl rfl rfl rfl ?_; clear h a; intro a h
         refine hd_gn 7 (by kernel_rfl) (by kernel_rfl) (by kernel_rfl) hC h rfl rfl rfl rfl ?_; clear h a; intro a h
         refine hd_gn 8 (by kernel_rfl) (by kernel_rfl) (by kernel_rfl) hC h rfl rfl rfl rfl ?_; clear h a; intro a h
         refine hd_one 9 (by kernel_rfl) rfl ?_
         refine st_pick_t h rfl rfl rfl rfl ?_; clear h a; intro a h
         refine hd_next hC ?_
         refine hd_move 10 (by kernel_rfl) (by kernel_rfl) (by kernel_rfl) hC h wn rfl rfl rfl ?_; clear h a; intro a h
         refine hd_gn 11 (by kernel_rfl) (by kernel_rfl) (by kernel_rfl) hC h rfl rfl rfl rfl ?_; clear h a; intro a h
         refine hd_gn 12 (by kernel_rfl) (by kernel_rfl) (by kernel_rfl) hC h rfl rfl rfl rfl ?_; clear h a; intro a h
         refine hd_gn 13 (by kernel_rfl) (by kernel_rfl) (by kernel_rfl) hC h rfl rfl rfl rfl ?_; clear h a; intro a h
         refine hd_one 14 (by kernel_rfl) rfl ?_
         refine st_pick_t h rfl rfl rfl rfl ?_; clear h a; intro a h
         refine hd_next hC ?_
         refine hd_move 15 (by kernel_rfl) (by kernel_rfl) (by kernel_rfl) hC h wn rfl rfl rfl ?_; clear h a; intro a h
         refine hd_gn 16 (by kernel_rfl) (by kernel_rfl) (by kernel_rfl) hC h rfl rfl rfl rfl ?_; clear h a; intro a h
         refine hd_gn 17 (by kernel_rfl) (by kernel_rfl) (by kernel_rfl) hC h rfl rfl rfl rfl ?_; clear h a; intro a h
         refine hd_one 18 (by kernel_rfl) rfl ?_
         refine st_pick_t h rfl rfl rfl rfl ?_; clear h a; intro a h
         refine hd_next hC ?_
         refine hd_move 19 (by kernel_rfl) (by kernel_rfl) (by kernel_rfl) hC h wn rfl rfl rfl ?_; clear h a; intro a h
         refine hd_gn 20 (by kernel_rfl) (by kernel_rfl) (by kernel_rfl) hC h rfl rfl rfl rfl ?_; clear h a; intro a h
         refine hd_gn 21 (by kernel_rfl) (by kernel_rfl) (by kernel_rfl) hC h rfl rfl rfl rfl ?_; clear h a; intro a h
         refine hd_gn 22 (by kernel_rfl) (by kernel_rfl) (by kernel_rfl) hC h rfl rfl rfl rfl ?_; clear h a; intro a h
         refine hd_gn 23 (by kernel_rfl) (by kernel_rfl) (by kernel_rfl) hC h rfl rfl rfl rfl ?_; clear h a; intro a h
         refine hd_gn 24 (by kernel_rfl) (by kernel_rfl) (by kernel_rfl) hC h rfl rfl rfl rfl ?_; clear h a; intro a h
         refine hd_gn 25 (by kernel_rfl) (by kernel_rfl) (by kernel_rfl) hC h rfl rfl rfl rfl ?_; clear h a; intro a h
         refine hd_gn 26 (by kernel_rfl) (by kernel_rfl) (by kernel_rfl) hC h rfl rfl rfl rfl ?_; clear h a; intro a h
         refine hd_gn 27 (by kernel_rfl) (by kernel_rfl) (by kernel_rfl) hC h rfl rfl rfl rfl ?_; clear h a; intro a h
         refine hd_gn 28 (by kernel_rfl) (by kernel_rfl) (by kernel_rfl) hC h rfl rfl rfl rfl ?_; clear h a; intro a h
         refine hd_one 29 (by kernel_rfl) rfl ?_
         refine st_pick_t h rfl rfl rfl rfl ?_; clear h a; intro a h
         refine hd_next hC ?_
         refine hd_end (by kernel_rfl) ?_
         clear hC hG_b hb3_b hb4_b hb7_b hb8_b hb9_b
         have z69 := qh5.size
         refine bk (h.sub (L' := [(2, _), (9, _), (54, _)]) (.cons rfl (.cons rfl (.cons rfl .nil)))) ?_; clear h a
         exact jE (_) (.cons rfl (.cons rfl (.cons rfl .nil))) ⟨qh5, by first | rfl | exact decide_eq_false (fun h => h (decide_eq_decide.2 (txt_inj hca hcb))) | (simp_all; done)⟩
       · clear h; intro g0 h
         refine hd_loadBA 4 (by kernel_rfl) (by kernel_rfl) (by kernel_rfl) hC h (wy rfl) rfl (fun _ hw => hb7_b.ext hw) ag31 rfl rfl ?_; clear h a; intro a h
         refine hd_loadBA 6 (by kernel_rfl) (by kernel_rfl) (by kernel_rfl) hC h (wy rfl) rfl (fun _ hw => hb7_b.ext hw) ag31 rfl rfl ?_; clear h a; intro a h
         refine hd_one 5 (by kernel_rfl) rfl ?_
         refine gd_yes h rfl rfl rfl rfl rfl rfl ?_
         refine st_call h (evs_cons rfl evs_nil) co17 (text_ok (ofO x) _ hG) rfl ?_; clear h a; rintro _ w70 ⟨rfl, hq⟩ a h
         have z70 := hq.size
         replace hG := hG.ext hq
         replace hb3 := hb3.ext hq
         replace hb4 := hb4.ext hq
         replace hb7 := hb7.ext hq
         replace hb8 := hb8.ext hq
         replace hb9 := hb9.ext hq
         replace qh5 := qh5.next hq
         replace hC := hC.next hq
         clear hq
         refine hd_next hC ?_
         refine hd_one 7 (by kernel_rfl) rfl ?_
         refine gd_yes h rfl rfl rfl rfl rfl rfl ?_
         refine st_call h (evs_cons rfl evs_nil) co15 (ltext_ok (ofO x) _ hca) rfl ?_; clear h a; rintro _ w71 ⟨rfl, hq⟩ a h
         have z71 := hq.size
         replace hG := hG.ext hq
         replace hb3 := hb3.ext hq
         replace hb4 := hb4.ext hq
         replace hb7 := hb7.ext hq
         replace hb8 := hb8.ext hq
         replace hb9 := hb9.ext hq
         replace qh5 := qh5.next hq
         replace hC := hC.next hq
         clear hq
         refine hd_next hC ?_
         refine hd_nes 8 (by kernel_rfl) (by kernel_rfl) (by kernel_rfl) hC h (wy rfl) rfl rfl rfl rfl ?_; clear h a; intro a h
         refine hd_one 9 (by kernel_rfl) rfl ?_
         refine st_pick_f h rfl rfl rfl rfl ?_; clear h a; intro a h
         refine hd_next hC ?_
         refine hd_move 10 (by kernel_rfl) (by kernel_rfl) (by kernel_rfl) hC h wn rfl rfl rfl ?_; clear h a; intro a h
         first | refine guard_dec (D := 35) h rfl ?_ ?_ | refine guard_ndec (D := 35) h rfl ?_ ?_ | refine guard_any (D := 35) h rfl ?_ ?_
         · clear h; intro g1 h
           refine hd_gn 11 (by kernel_rfl) (by kernel_rfl) (by kernel_rfl) hC h rfl rfl rfl rfl ?_; clear h a; intro a h
           refine hd_gn 12 (by kernel_rfl) (by kernel_rfl) (by kernel_rfl) hC h rfl rfl rfl rfl ?_; clear h a; intro a h
           refine hd_gn 13 (by kernel_rfl) (by kernel_rfl) (by kernel_rfl) hC h rfl rfl rfl rfl ?_; clear h a; intro a h
           refine hd_one 14 (by kernel_rfl) rfl ?_
           refine st_pick_t h rfl rfl rfl rfl ?_; clear h a; intro a h
           refine hd_next hC ?_
           refine hd_move 15 (by kernel_rfl) (by kernel_rfl) (by kernel_rfl) hC h wn rfl rfl rfl ?_; clear h a; intro a h
           refine hd_gn 16 (by kernel_rfl) (by kernel_rfl) (by kernel_rfl) hC h rfl rfl rfl rfl ?_; clear h a; intro a h
           refine hd_gn 17 (by kernel_rfl) (by kernel_rfl) (by kernel_rfl) hC h rfl rfl rfl rfl ?_; clear h a; intro a h
           refine hd_one 18 (by kernel_rfl) rfl ?_
           refine st_pick_t h rfl rfl rfl rfl ?_; clear h a; intro a h
           refine hd_next hC ?_
           refine hd_move 19 (by kernel_rfl) (by kernel_rfl) (by kernel_rfl) hC h wn rfl rfl rfl ?_; clear h a; intro a h
           refine hd_gn 20 (by kernel_rfl) (by kernel_rfl) (by kernel_rfl) hC h rfl rfl rfl rfl ?_; clear h a; intro a h
           refine hd_gn 21 (by kernel_rfl) (by kernel_rfl) (by kernel_rfl) hC h rfl rfl rfl rfl ?_; clear h a; intro a h
           refine hd_gn 22 (by kernel_rfl) (by kernel_rfl) (by kernel_rfl) hC h rfl rfl rfl rfl ?_; clear h a; intro a h
           refine hd_gn 23 (by kernel_rfl) (by kernel_rfl) (by kernel_rfl) hC h rfl rfl rfl rfl ?_; clear h a; intro a h
           refine hd_gn 24 (by kernel_rfl) (by kernel_rfl) (by kernel_rfl) hC h rfl rfl rfl rfl ?_; clear h a; intro a h
           refine hd_gn 25 (by kernel_rfl) (by kernel_rfl) (by kernel_rfl) hC h rfl rfl rfl rfl ?_; clear h a; intro a h
           refine hd_gn 26 (by kernel_rfl) (by kernel_rfl) (by kernel_rfl) hC h rfl rfl rfl rfl ?_; clear h a; intro a h
           refine hd_gn 27 (by kernel_rfl) (by kernel_rfl) (by kernel_rfl) hC h rfl rfl rfl rfl ?_; clear h a; intro a h
           refine hd_gn 28 (by kernel_rfl) (by kernel_rfl) (by kernel_rfl) hC h rfl rfl rfl rfl ?_; clear h a; intro a h
           refine hd_one 29 (by kernel_rfl) rfl ?_
           refine st_pick_t h rfl rfl rfl rfl ?_; clear h a; intro a h
           refine hd_next hC ?_
           refine hd_end (by kernel_rfl) ?_
           clear hC hG_b hb3_b hb4_b hb7_b hb8_b hb9_b
           have z71 := qh5.size
           refine bk (h.sub (L' := [(2, _), (9, _), (54, _)]) (.cons rfl (.cons rfl (.cons rfl .nil)))) ?_; clear h a
           exact jE (_) (.cons rfl (.cons rfl (.cons rfl .nil))) ⟨qh5, by first | rfl | exact decide_eq_false (fun h => h (decide_eq_decide.2 (txt_inj hca hcb))) | (simp_all; done)⟩
         · clear h; intro g1 h
           refine hd_loadBA 11 (by kernel_rfl) (by kernel_rfl) (by kernel_rfl) hC h (wy rfl) rfl (fun _ hw => hb9_b.ext hw) ag31 rfl rfl ?_; clear h a; intro a h
           refine hd_loadBA 12 (by kernel_rfl) (by kernel_rfl) (by kernel_rfl) hC h (wy rfl) rfl (fun _ hw => hb7_b.ext hw) ag31 rfl rfl ?_; clear h a; intro a h
           refine hd_neV (V := opF) (e := ⟨_, _, _, _, _, _⟩) (f := ⟨_, _, _, _, _, _⟩) 13 (by kernel_rfl) (by kernel_rfl) (by kernel_rfl) hC h (wy rfl) rfl rfl eqOp rfl rfl ?_; clear h a; intro a h
           refine hd_one 14 (by kernel_rfl) rfl ?_
           refine st_pick_f h rfl rfl rfl rfl ?_; clear h a; intro a h
           refine hd_next hC ?_
           refine hd_move 15 (by kernel_rfl) (by kernel_rfl) (by kernel_rfl) hC h wn rfl rfl rfl ?_; clear h a; intro a h
           first | refine guard_dec (D := 40) h rfl ?_ ?_ | refine guard_ndec (D := 40) h rfl ?_ ?_ | refine guard_any (D := 40) h rfl ?_ ?_
           · clear h; intro g2 h
             refine hd_gn 16 (by kernel_rfl) (by kernel_rfl) (by kernel_rfl) hC h rfl rfl rfl rfl ?_; clear h a; intro a h
             refine hd_gn 17 (by kernel_rfl) (by kernel_rfl) (by kernel_rfl) hC h rfl rfl rfl rfl ?_; clear h a; intro a h
             refine hd_one 18 (by kernel_rfl) rfl ?_
             refine st_pick_t h rfl rfl rfl rfl ?_; clear h a; intro a h
             refine hd_next hC ?_
             refine hd_move 19 (by kernel_rfl) (by kernel_rfl) (by kernel_rfl) hC h wn rfl rfl rfl ?_; clear h a; intro a h
             refine hd_gn 20 (by kernel_rfl) (by kernel_rfl) (by kernel_rfl) hC h rfl rfl rfl rfl ?_; clear h a; intro a h
             refine hd_gn 21 (by kernel_rfl) (by kernel_rfl) (by kernel_rfl) hC h rfl rfl rfl rfl ?_; clear h a; intro a h
             refine hd_gn 22 (by kernel_rfl) (by kernel_rfl) (by kernel_rfl) hC h rfl rfl rfl rfl ?_; clear h a; intro a h
             refine hd_gn 23 (by kernel_rfl) (by kernel_rfl) (by kernel_rfl) hC h rfl rfl rfl rfl ?_; clear h a; intro a h
             refine hd_gn 24 (by kernel_rfl) (by kernel_rfl) (by kernel_rfl) hC h rfl rfl rfl rfl ?_; clear h a; intro a h
             refine hd_gn 25 (by kernel_rfl) (by kernel_rfl) (by kernel_rfl) hC h rfl rfl rfl rfl ?_; clear h a; intro a h
             refine hd_gn 26 (by kernel_rfl) (by kernel_rfl) (by kernel_rfl) hC h rfl rfl rfl rfl ?_; clear h a; intro a h
             refine hd_gn 27 (by kernel_rfl) (by kernel_rfl) (by kernel_rfl) hC h rfl rfl rfl rfl ?_; clear h a; intro a h
             refine hd_gn 28 (by kernel_rfl) (by kernel_rfl) (by kernel_rfl) hC h rfl rfl rfl rfl ?_; clear h a; intro a h
             refine hd_one 29 (by kernel_rfl) rfl ?_
             refine st_pick_t h rfl rfl rfl rfl ?_; clear h a; intro a h
             refine hd_next hC ?_
             refine hd_end (by kernel_rfl) ?_
             clear hC hG_b hb3_b hb4_b hb7_b hb8_b hb9_b
             have z71 := qh5.size
             refine bk (h.sub (L' := [(2, _), (9, _), (54, _)]) (.cons rfl (.cons rfl (.cons rfl .nil)))) ?_; clear h a
             exact jE (_) (.cons rfl (.cons rfl (.cons rfl .nil))) ⟨qh5, by first | rfl | exact decide_eq_false (fun h => h (decide_eq_decide.2 (txt_inj hca hcb))) | (simp_all; done)⟩
           · clear h; intro g2 h
             refine hd_move 16 (by kernel_rfl) (by kernel_rfl) (by kernel_rfl) hC h (wy rfl) rfl rfl rfl ?_; clear h a; intro a h
             refine hd_ne 17 (by kernel_rfl) (by kernel_rfl) (by kernel_rfl) hC h (wy rfl) rfl rfl rfl rfl ?_; clear h a; intro a h
             refine hd_one 18 (by kernel_rfl) rfl ?_
             refine st_pick_f h rfl rfl rfl rfl ?_; clear h a; intro a h
             refine hd_next hC ?_
             refine hd_move 19 (by kernel_rfl) (by kernel_rfl) (by kernel_rfl) hC h wn rfl rfl rfl ?_; clear h a; intro a h
             first | refine guard_dec (D := 44) h rfl ?_ ?_ | refine guard_ndec (D := 44) h rfl ?_ ?_ | refine guard_any (D := 44) h rfl ?_ ?_
             · clear h; intro g3 h
               refine hd_gn 20 (by kernel_rfl) (by kernel_rfl) (by kernel_rfl) hC h rfl rfl rfl rfl ?_; clear h a; intro a h
               refine hd_gn 21 (by kernel_rfl) (by kernel_rfl) (by kernel_rfl) hC h rfl rfl rfl rfl ?_; clear h a; intro a h
               refine hd_gn 22 (by kernel_rfl) (by kernel_rfl) (by kernel_rfl) hC h rfl rfl rfl rfl ?_; clear h a; intro a h
               refine hd_gn 23 (by kernel_rfl) (by kernel_rfl) (by kernel_rfl) hC h rfl rfl rfl rfl ?_; clear h a; intro a h
               refine hd_gn 24 (by kernel_rfl) (by kernel_rfl) (by kernel_rfl) hC h rfl rfl rfl rfl ?_; clear h a; intro a h
               refine hd_gn 25 (by kernel_rfl) (by kernel_rfl) (by kernel_rfl) hC h rfl rfl rfl rfl ?_; clear h a; intro a h
               refine hd_gn 26 (by kernel_rfl) (by kernel_rfl) (by kernel_rfl) hC h rfl rfl rfl rfl ?_; clear h a; intro a h
               refine hd_gn 27 (by kernel_rfl) (by kernel_rfl) (by kernel_rfl) hC h rfl rfl rfl rfl ?_; clear h a; intro a h
               refine hd_gn 28 (by kernel_rfl) (by kernel_rfl) (by kernel_rfl) hC h rfl rfl rfl rfl ?_; clear h a; intro a h
               refine hd_one 29 (by kernel_rfl) rfl ?_
               refine st_pick_t h rfl rfl rfl rfl ?_; clear h a; intro a h
               refine hd_next hC ?_
               refine hd_end (by kernel_rfl) ?_
               clear hC hG_b hb3_b hb4_b hb7_b hb8_b hb9_b
               have z71 := qh5.size
               refine bk (h.sub (L' := [(2, _), (9, _), (54, _)]) (.cons rfl (.cons rfl (.cons rfl .nil)))) ?_; clear h a
               exact jE (_) (.cons rfl (.cons rfl (.cons rfl .nil))) ⟨qh5, by first | rfl | exact decide_eq_false (fun h => h (decide_eq_decide.2 (txt_inj hca hcb))) | (simp_all; done)⟩
             · clear h; intro g3 h
               refine hd_loadBA 20 (by kernel_rfl) (by kernel_rfl) (by kernel_rfl) hC h (wy rfl) rfl (fun _ hw => hb7_b.ext hw) ag31 rfl rfl ?_; clear h a; intro a h
               refine hd_loadBA 22 (by kernel_rfl) (by kernel_rfl) (by kernel_rfl) hC h (wy rfl) rfl (fun _ hw => hb8_b.ext hw) ag31 rfl rfl ?_; clear h a; intro a h
               refine hd_loadBA 25 (by kernel_rfl) (by kernel_rfl) (by kernel_rfl) hC h (wy rfl) rfl (fun _ hw => hb7_b.ext hw) ag31 rfl rfl ?_; clear h a; intro a h
               refine hd_loadBA 26 (by kernel_rfl) (by kernel_rfl) (by kernel_rfl) hC h (wy rfl) rfl (fun _ hw => hb8_b.ext hw) ag31 rfl rfl ?_; clear h a; intro a h
               refine hd_eqV (V := opF) (e := ⟨_, _, _, _, _, _⟩) (f := ⟨_, _, _, _, _, _⟩) 27 (by kernel_rfl) (by kernel_rfl) (by kernel_rfl) hC h (wy rfl) rfl rfl eqOp rfl rfl ?_; clear h a; intro a h
               refine hd_one 21 (by kernel_rfl) rfl ?_
               refine gd_yes h rfl rfl rfl rfl rfl rfl ?_
               refine st_call h (evs_cons rfl evs_nil) co17 (text_ok (ofO x) _ hG) rfl ?_; clear h a; rintro _ w72 ⟨rfl, hq⟩ a h
               have z72 := hq.size
               replace hG := hG.ext hq
               replace hb3 := hb3.ext hq
               replace hb4 := hb4.ext hq
               replace hb7 := hb7.ext hq
               replace hb8 := hb8.ext hq
               replace hb9 := hb9.ext hq
               replace qh5 := qh5.next hq
               replace hC := hC.next hq
               clear hq
               refine hd_next hC ?_
               refine hd_one 23 (by kernel_rfl) rfl ?_
               refine gd_yes h rfl rfl rfl rfl rfl rfl ?_
               refine st_call h (evs_cons rfl evs_nil) co17 (text_ok (ofO y) _ hG) rfl ?_; clear h a; rintro _ w73 ⟨rfl, hq⟩ a h
               have z73 := hq.size
               replace hG := hG.ext hq
               replace hb3 := hb3.ext hq
               replace hb4 := hb4.ext hq
               replace hb7 := hb7.ext hq
               replace hb8 := hb8.ext hq
               replace hb9 := hb9.ext hq
               replace qh5 := qh5.next hq
               replace hC := hC.next hq
               clear hq
               refine hd_next hC ?_
               refine hd_eqs 24 (by kernel_rfl) (by kernel_rfl) (by kernel_rfl) hC h (wy rfl) rfl rfl rfl rfl ?_; clear h a; intro a h
               refine hd_neb 28 (by kernel_rfl) (by kernel_rfl) (by kernel_rfl) hC h (wy rfl) rfl rfl Tryd.underlying4 rfl rfl ?_; clear h a; intro a h
               refine hd_one 29 (by kernel_rfl) rfl ?_
               refine st_pick_f h rfl rfl rfl rfl ?_; clear h a; intro a h
               refine hd_next hC ?_
               refine hd_end (by kernel_rfl) ?_
               clear hC hG_b hb3_b hb4_b hb7_b hb8_b hb9_b
               have z73 := qh5.size
               refine bk (h.sub (L' := [(2, _), (9, _), (54, _)]) (.cons rfl (.cons rfl (.cons rfl .nil)))) ?_; clear h a
               exact jE (_) (.cons rfl (.cons rfl (.cons rfl .nil))) ⟨qh5, by first | rfl | exact decide_eq_false (fun h => h (decide_eq_decide.2 (txt_inj hca hcb))) | (simp_all; done)⟩
     · rintro b5 w74 ⟨q74, rfl⟩
       have z74 := q74.size
       refine kpC [(2, _), (9, _), (54, _)] (.cons rfl (.cons rfl (.cons rfl .nil))) ?_
       refine cd rfl (fun c1 => ?_) (fun c1 => ?_)
       · exact absurd c1 (by simp)
       · refine sk (tn (sr (mv rfl rfl ?_)))
         replace hG := ((hG.ext (q65.next q66)).fr q67 (by first | (simp; done) | (simp; omega) | (simp [blks]; done) | (simp [blks]; omega) | (intro k hk hb; simp at hk; subst hk; have := (hG.blk _ hb).2; omega))).ext q74
         refine cl (ev1 rfl) co14 (parse_ok _ _ hG (by omega)) rfl ?_
         rintro _ w75 ⟨o, e, hpe, rfl, q75⟩
         have z75 := q75.size
         have hpb := parse_back hpe
         refine mv rfl rfl (xt rfl rfl rfl (xt rfl rfl rfl ?_))
         replace hb9 := hb9.ext (q74.next q75)
         refine s_storeBA rfl rfl hb9 rfl (by first | (simp [Value.oneCell', S]; done) | exact Enc.one _ _) sz31 (fun w76 hb9 q76 z76 => ?_)
         refine asg rfl rfl (kpL [(2, _), (9, _), (10, _)] (.cons rfl (.cons rfl (.cons rfl .nil))) (nn (sq (sr (mv rfl rfl (ne' rfl rfl rfl (nn ?_)))))))
         refine cd rfl (fun c2 => ?_) (fun c2 => ?_)
         · have hbad : e = 4 ∧ o = op0 := hpb.resolve_left (fun h => c2 h.1)
           refine sq ?_
           refine rboF (r := 6) (L' := []) (True) .nil ?_ ?_
           · refine mv rfl rfl (eq' rfl rfl rfl (mv rfl rfl ?_))
             refine gs 64 rfl (fun g4 => ?_) (fun g4 => ?_)
             · refine gY rfl (s_loadBA rfl hb9 ag31 rfl (gY rfl (s_lit (cs := [_, _, _, _, _, _]) evs_nil bo31 pok_nil rfl rfl (gY rfl (s_eqV (V := opF) (e := ⟨_, _, _, _, _, _⟩) (f := ⟨_, _, _, _, _, _⟩) rfl rfl eqOp rfl (pkt rfl rfl rfl rfl (mv rfl rfl ?_)))))))
               refine gs 69 rfl (fun g5 => ?_) (fun g5 => ?_)
               · refine gY rfl ?_
                 replace hG := (hG.ext q75).fr q76 (by first | (simp; done) | (simp; omega) | (simp [blks]; done) | (simp [blks]; omega) | (intro k hk hb; simp at hk; subst hk; have := (hG.blk _ hb).2; omega))
                 refine cl evs_nil co12 (lives_ok _ hG) rfl ?_
                 rintro _ w77 ⟨rfl, q77⟩
                 have z77 := q77.size
                 exact pkt rfl rfl rfl rfl (asg rfl rfl (rbeF rfl (by first | rfl | (simp_all [op0]; done)) .nil q77))
               · exact gN rfl rfl rfl (pkf rfl rfl rfl rfl (asg rfl rfl (rbeF rfl (by first | rfl | (simp_all [op0]; done)) .nil (Fr.refl _ _))))
             · exact gN rfl rfl rfl (gN rfl rfl rfl (gN rfl rfl rfl (pkf rfl rfl rfl rfl (mv rfl rfl (gN rfl rfl rfl (pkf rfl rfl rfl rfl (asg rfl rfl (rbeF rfl (by first | rfl | (simp_all [op0]; done)) .nil (Fr.refl _ _)))))))))
           · intro w78 q78; have z78 := q78.size
             refine tn (rt (tr (r1 Tryd.results3 rfl ?_)))
             exact ⟨_, rfl, rfl, ((((((((((q1.next q2).next q63).next q64).next q65).next q66).step q67 (by first | (simp; done) | (simp; omega))).next q74).next q75).step q76 (by first | (simp; done) | (simp; omega))).next q78)⟩
         · have hgd := hpb.resolve_right (fun h => c2 (by omega))
           have hco := hgd.2.1
           have hts := hgd.2.2
           refine sk (tn (sq ?_))
           refine rboF (r := 6) (L' := []) (True) .nil ?_ ?_
           · refine s_loadBA rfl hb9 ag31 rfl ?_
             refine cl (ev1 rfl) co18 (wrong_ok o _ (ok_of_chk hco)) rfl ?_
             rintro _ w79 ⟨rfl, q79⟩
             have z79 := q79.size
             refine eq' rfl rfl rfl (mv rfl rfl ?_)
             refine gs 75 rfl (fun g6 => ?_) (fun g6 => ?_)
             · refine gY rfl ?_
               replace hb9 := hb9.ext q79
               refine s_loadBA rfl hb9 ag31 rfl (gY rfl ?_)
               refine cl (ev1 rfl) co15 (ltext_ok o _ hco) rfl ?_
               rintro _ w80 ⟨rfl, q80⟩
               have z80 := q80.size
               refine gY rfl (mv rfl rfl (gY rfl (s_eqs rfl rfl rfl (pkt rfl rfl rfl rfl (mv rfl rfl ?_)))))
               refine gs 81 rfl (fun g7 => ?_) (fun g7 => ?_)
               · refine gY rfl ?_
                 replace hG := ((hG.ext q75).fr q76 (by first | (simp; done) | (simp; omega) | (simp [blks]; done) | (simp [blks]; omega) | (intro k hk hb; simp at hk; subst hk; have := (hG.blk _ hb).2; omega))).ext (q79.next q80)
                 refine cl evs_nil co12 (lives_ok _ hG) rfl ?_
                 rintro _ w81 ⟨rfl, q81⟩
                 have z81 := q81.size
                 exact pkt rfl rfl rfl rfl (asg rfl rfl (rbeF rfl (by first | rfl | (simp_all; done)) .nil ((q79.next q80).next q81)))
               · exact gN rfl rfl rfl (pkf rfl rfl rfl rfl (asg rfl rfl (rbeF rfl (by first | rfl | (simp_all; done)) .nil (q79.next q80))))
             · exact gN rfl rfl rfl (gN rfl rfl rfl (gN rfl rfl rfl (gN rfl rfl rfl (pkf rfl rfl rfl rfl (mv rfl rfl (gN rfl rfl rfl (pkf rfl rfl rfl rfl (asg rfl rfl (rbeF rfl (by first | rfl | (simp_all; done)) .nil q79)))))))))
           · intro w82 q82; have z82 := q82.size
             refine tn (rt (r1 Tryd.results3 rfl ?_))
             exact ⟨_, rfl, rfl, ((((((((((q1.next q2).next q63).next q64).next q65).next q66).step q67 (by first | (simp; done) | (simp; omega))).next q74).next q75).step q76 (by first | (simp; done) | (simp; omega))).next q82)⟩
end Go.Proofs.YtbalocjcbmkecaaDoor
