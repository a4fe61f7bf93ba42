/- Walks. -/
import Derived.Test.YtbalocjcbmkecaaDoorRows
import Derived.Test.YtbalocjcbmkecaaDoorW24b
import Derived.Test.YtbalocjcbmkecaaDoorXOp
import Derived.Test.YtbalocjcbmkecaaDoorXMap
set_option linter.unusedVariables false
set_option linter.unusedSimpArgs false
namespace Go.Proofs.YtbalocjcbmkecaaDoor
open Go.Lw
theorem co20 : CallOf Tryd.prog 20 := CallOf.mk' Tryd.func20 (by kernel_rfl) (by kernel_rfl)
theorem co23 : CallOf Tryd.prog 23 := CallOf.mk' Tryd.func23 (by kernel_rfl) (by kernel_rfl)
def ioO (a : Int) : MOp := ⟨1 + a % 2, 0, 0, 0, 1 + a % 6, 0⟩
theorem ioO_k (a : Int) : (ioO a).k = 1 ∨ (ioO a).k = 2 := by show 1 + a % 2 = 1 ∨ 1 + a % 2 = 2; omega
theorem ioO_chk (a : Int) : chkO (ioO a) = 0 := by
  rcases ioO_k a with h | h
  · refine chk0_of ((plain1 h).2 ?_) (by simp [ioO])
    simp [ioO]; omega
  · refine chk0_of ((plain2 h).2 ?_) (by simp [ioO])
    simp [ioO]; omega
def IoS (os ms : List MOp) (i : Nat) : Prop := (∀ o ∈ ms, chkO o = 0) ∧ ms.length = os.length + i ∧ cntS ms = cntS os ∧ timS ms = timS os
theorem io_step {os ms : List MOp} {i k : Nat} {a : Int} (h : IoS os ms i) (hk : k ≤ ms.length) : IoS os ([] ++ ms.take k ++ [ioO a] ++ ms.drop k) (i + 1) := by
  obtain ⟨h1, h2, h3, h4⟩ := h
  have e : [] ++ ms.take k ++ [ioO a] ++ ms.drop k = ms.take k ++ ioO a :: ms.drop k := by simp
  rw [e]
  refine ⟨chk_app (fun o ho => h1 o (List.mem_of_mem_take ho)) (fun o ho => ?_), ?_, ?_, ?_⟩
  · rcases List.mem_cons.1 ho with rfl | ho
    · exact ioO_chk a
    · exact h1 o (List.mem_of_mem_drop ho)
  · rw [List.length_append, List.length_cons, List.length_take, List.length_drop]; omega
  · unfold cntS; rw [cnt_io (ioO_k a), List.take_append_drop]; exact h3
  · unfold timS; rw [tim_io (ioO_k a), List.take_append_drop]; exact h4
theorem take_sl2 {w : World} {A : Option Addr} {c k : Nat} {ms : List MOp} (hs : Sl encOp w (.slice A ms.length c) ms) (hk : k ≤ ms.length) : Sl encOp w (.slice A k c) (ms.take k) := by
  have hs0 := hs
  obtain ⟨A', c', e, hl, hM, _⟩ := hs0
  cases e
  exact hs.take rfl (m := k) hk (B := A) (c' := c) (by omega) hM (fun _ => rfl)
theorem drop_sl2 {w : World} {A : Option Addr} {c k : Nat} {ms : List MOp} (hs : Sl encOp w (.slice A ms.length c) ms) (hk : k ≤ ms.length) : Sl encOp w (.slice (if c = k then A else A.map (·.add (k * encOp.sz))) (ms.length - k) (c - k)) (ms.drop k) := by
  have := hs.cutv (p := k) (p' := ms.length) hk (Nat.le_refl _)
  rwa [List.take_length] at this
set_option maxHeartbeats 4000000 in
theorem law_inout (v u : Value) (xs : List MOp) (ar : List UInt8) (w0 : World) (hG : Glob w0) (hs : Sl encOX w0 v xs) (hb : ∀ x ∈ xs, x.Bytes) (har : Sl Enc.b w0 u ar) : Rets Tryd.prog 9 #[v, u] w0 fun r w' => r = .bool true ∧ Fr [] w0 w' := by
 obtain ⟨A, c, rfl, hc, hM, hA⟩ := id hs
 clear hA
 have hsb : ∀ k ∈ blks (Value.slice A xs.length c), xs ≠ [] → k < w0.heap.size := fun k hk hne => hs.blk hne k hk
 obtain ⟨os, hos0⟩ : ∃ os, os = xs.map ofO := ⟨_, rfl⟩
 have hosl : os.length = xs.length := by rw [hos0, List.length_map]
 have hosc : ∀ o ∈ os, chkO o = 0 := by rw [hos0]; exact of_all hb
 have hoc := all_getD hosc
 obtain ⟨A1, c1', rfl, hcr, hMr, hA1⟩ := id har
 clear hA1
 unfold maxLen at hMr
 have hGs := hG.sz
 refine we [(0, .slice A xs.length c), (1, .slice A1 ar.length c1')] Tryd.func9 rfl Tryd.ntmps9 rfl (.cons rfl (.cons rfl .nil)) ?_
 have hG0 := hG
 have hs0 := hs
 have har0 := har
 refine sr (asg rfl rfl (nn (sq (sq ?_))))
 refine rbo (r := 17) (L' := [(0, _), (1, _)]) (((30 < (xs.length : Int)) ∨ (10 < (ar.length : Int)))) (.cons rfl (.cons rfl .nil)) ?_ ?_
 · refine mv rfl rfl (lnS rfl Tryd.underlying43 rfl (gt' rfl rfl rfl (mv rfl rfl ?_)))
   refine gs 13 rfl (fun g0 => ?_) (fun g0 => ?_)
   · exact gN rfl rfl rfl (gN rfl rfl rfl (gN rfl rfl rfl (pkt rfl rfl rfl rfl (rbe rfl (by first | exact bt (by omega) | exact bf (by omega) | exact bi (by omega) | exact bn (by omega) | (simp_all; done) | (simp_all; omega)) (.cons rfl (.cons rfl .nil))))))
   · exact gY rfl (mv rfl rfl (gY rfl (lnS rfl Tryd.underlying39 rfl (gY rfl (gt' rfl rfl rfl (pkf rfl rfl rfl rfl (rbe rfl (by first | exact bt (by omega) | exact bf (by omega) | exact bi (by omega) | exact bn (by omega) | (simp_all; done) | (simp_all; omega)) (.cons rfl (.cons rfl .nil)))))))))
 · refine tn ?_
   refine cd rfl (fun c0 => ?_) (fun c0 => ?_)
   · refine sr ?_
     refine cl evs_nil co23 (lives10_ok _ hG) rfl ?_
     rintro _ w1 ⟨rfl, q1⟩
     have z1 := q1.size
     refine asg rfl rfl (nn (rt (tr (r1 Tryd.results9 rfl ?_))))
     exact ⟨_, rfl, by first | rfl | simp, q1⟩
   · refine sk (tn (sr (mv rfl rfl ?_)))
     refine cl (ev1 rfl) co20 (pof2 hos0 _ _ hs hb (by omega)) rfl ?_
     rintro _ w2 ⟨A5, c5, rfl, ho5, q2⟩
     have z2 := q2.size
     have ho50 := ho5
     have hlt5 := fun k hk => (ho5.blk k hk).2
     refine asg rfl rfl (nn (sr (s_bslice (([] : List MOp)) evs_nil rfl rfl rfl el45 (Nat.le_of_ble_eq_true rfl) rfl (fun g21 w3 hg21 ho21 q3 z3 => ?_))))
     refine mv rfl rfl ?_
     replace ho5 := ho50.ext q3
     have hoo23 := ho21
     refine s_append rfl rfl ho21 ho5.sl el45 (by unfold maxLen; simp; omega) (by simp; omega) (by omega) rfl (fun v23 w4 ho6 q4 hor23 => ?_)
     have z4 := q4.size
     obtain ⟨A23, c23, rfl, hc23⟩ := ho6.sl.form
     replace ho6 := ho6.low (show w0.heap.size ≤ _ by omega)
     refine asg rfl rfl (nn (sq (sr (asg rfl rfl (nn (bl ?_))))))
     refine lpK (ι := Nat × List MOp × Option Addr × Nat) [(1, _), (5, _)] (fun p => [(6, .slice p.2.2.1 p.2.1.length p.2.2.2), (7, .int .i64 (p.1 : Int))]) (fun p w' => Fr [] w4 w' ∧ p.1 ≤ ar.length ∧ Lw.Own encOp 31 w0.heap.size w' (.slice p.2.2.1 p.2.1.length p.2.2.2) p.2.1 ∧ IoS os p.2.1 p.1) (fun p => ar.length - p.1) (0, [] ++ os, A23, c23) (.cons rfl (.cons rfl (.cons rfl (.cons rfl .nil)))) ⟨Fr.refl _ _, ⟨Nat.zero_le _, ho6, ⟨hosc, rfl, rfl, rfl⟩⟩⟩ ?_
     rintro ⟨i, ms, A6, c6⟩ w5 ⟨q5, ⟨hi, ho6, hio⟩⟩
     simp only at hi ho6 hio
     have hml := hio.2.1
     have z5 := q5.size
     refine kpC [(1, _), (5, _), (6, .slice A6 ms.length c6), (7, .int .i64 (i : Int))] (.cons rfl (.cons rfl (.cons rfl (.cons rfl .nil)))) ?_
     refine sq (sr (mv rfl rfl (mv rfl rfl (lnS rfl Tryd.underlying39 rfl (lt' rfl rfl rfl (nn ?_))))))
     refine cd rfl (fun c1 => ?_) (fun c1 => ?_)
     · replace har := har0.ext (((q2.next q3).step q4 (fun k hk hlt => absurd (hoo23.blk k hk).1 (by omega))).next q5)
       have hltr := har.blk (fun e => by have h0 := congrArg List.length e; simp only [List.length_nil] at h0; omega)
       have hby := byte_rng (ar.getD i 0)
       obtain ⟨k, hk⟩ : ∃ k : Nat, (((ar.getD i 0).toNat : Int) / 2) % ((ms.length : Int) + 1) = (k : Int) := ⟨((((ar.getD i 0).toNat : Int) / 2) % ((ms.length : Int) + 1)).toNat, by have := Int.emod_nonneg (((ar.getD i 0).toNat : Int) / 2) (show ((ms.length : Int) + 1) ≠ 0 by omega); omega⟩
       have hkm : k ≤ ms.length := by have := Int.emod_lt_of_pos (((ar.getD i 0).toNat : Int) / 2) (show (0 : Int) < ((ms.length : Int) + 1) by omega); omega
       have hc6 := ho6.sl.form
       obtain ⟨_, _, hc6e, hc6⟩ := hc6
       cases hc6e
       refine sk (tn (sq (bl (sr (mv rfl rfl (mv rfl rfl (s_idxL (p := i) (0) rfl har rfl el39 (by omega) (by omega) (by omega) rfl (fun ad32 hc32 => ?_))))))))
       refine s_loadC0 rfl (hc32 _ har) na5 rfl (s_quo rfl rfl (by omega) (by first | exact IntWalk.u8_quo _ _ (by omega) | rfl) rfl (s_conv rfl (us Tryd.underlying5) Tryd.underlying3 (wi6 (by omega)) rfl (mv rfl rfl (lnS rfl Tryd.underlying45 rfl (s_add rfl rfl (wi6 (by omega)) rfl ?_)))))
       refine s_rem rfl rfl (by omega) (show Int.tmod (((ar.getD i 0).toNat : Int) / 2) ((ms.length : Int) + 1) = (k : Int) by rw [← hk]; exact IntWalk.rem_in _ _ (by omega)) rfl ?_
       refine asg rfl rfl ?_
       have hlt6 := fun k hk => (ho6.blk k hk).2
       refine kpL [(1, _), (5, _), (6, _), (7, _), (8, _)] (.cons rfl (.cons rfl (.cons rfl (.cons rfl (.cons rfl .nil))))) (nn ?_)
       refine jn (ι := Nat) [(1, _), (5, _), (6, _), (7, _), (8, _)] (fun g9 => [(9, .pointer (some ⟨g9, 0, none⟩))]) (fun g9 w' => Fr [] w5 w' ∧ w5.heap.size ≤ g9 ∧ Blk w' g9 31 (encOp.enc (ioO ((ar.getD i 0).toNat : Int)))) (.cons rfl (.cons rfl (.cons rfl (.cons rfl (.cons rfl .nil))))) ?_ ?_
       · intro a h
         have qh9 := Fr.refl [] w5
         refine region_held (fun wb w' => Fr [] wb w') hmix ?_; intro w6 hq
         have z6 := hq.size
         replace har := har.ext hq
         replace qh9 := qh9.next hq
         have hsz := hq.size; clear hq; have hC : Fr [] w6 w6 := Fr.refl _ _
         have har_b := har
         refine hd_move 0 (by kernel_rfl) (by kernel_rfl) (by kernel_rfl) hC h wn rfl rfl rfl ?_; clear h a; intro a h
         refine hd_move 1 (by kernel_rfl) (by kernel_rfl) (by kernel_rfl) hC h wn rfl rfl rfl ?_; clear h a; intro a h
         refine hd_idxL (p := i) (0) 2 (by kernel_rfl) (by kernel_rfl) (by kernel_rfl) hC h wn rfl har rfl el39 (by omega) (by omega) (by omega) rfl rfl ?_; clear h a; intro ad42 hc42 a h
         refine hd_loadC0 3 (by kernel_rfl) (by kernel_rfl) (by kernel_rfl) hC h wn rfl (fun _ hw => hc42 _ (har_b.ext hw)) na5 rfl rfl ?_; clear h a; intro a h
         refine hd_rem 4 (by kernel_rfl) (by kernel_rfl) (by kernel_rfl) hC h wn rfl rfl (by omega) (by first | exact IntWalk.rem_in _ _ (by omega) | rfl) rfl rfl ?_; clear h a; intro a h
         refine hd_add 5 (by kernel_rfl) (by kernel_rfl) (by kernel_rfl) hC h wn rfl rfl (by first | exact IntWalk.u8_in _ (by omega) | rfl) rfl rfl ?_; clear h a; intro a h
         refine hd_move 6 (by kernel_rfl) (by kernel_rfl) (by kernel_rfl) hC h wn rfl rfl rfl ?_; clear h a; intro a h
         refine hd_move 7 (by kernel_rfl) (by kernel_rfl) (by kernel_rfl) hC h wn rfl rfl rfl ?_; clear h a; intro a h
         refine hd_idxL (p := i) (0) 8 (by kernel_rfl) (by kernel_rfl) (by kernel_rfl) hC h wn rfl har rfl el39 (by omega) (by omega) (by omega) rfl rfl ?_; clear h a; intro ad48 hc48 a h
         refine hd_loadC0 9 (by kernel_rfl) (by kernel_rfl) (by kernel_rfl) hC h wn rfl (fun _ hw => hc48 _ (har_b.ext hw)) na5 rfl rfl ?_; clear h a; intro a h
         refine hd_rem 10 (by kernel_rfl) (by kernel_rfl) (by kernel_rfl) hC h wn rfl rfl (by omega) (by first | exact IntWalk.rem_in _ _ (by omega) | rfl) rfl rfl ?_; clear h a; intro a h
         refine hd_add 11 (by kernel_rfl) (by kernel_rfl) (by kernel_rfl) hC h wn rfl rfl (by first | exact IntWalk.u8_in _ (by omega) | rfl) rfl rfl ?_; clear h a; intro a h
         refine hd_lit (cs := [_, _, _, _, _, _]) 12 (by kernel_rfl) (by kernel_rfl) (by kernel_rfl) hC h wn (evs_cons rfl (evs_cons rfl evs_nil)) bo31 (pok_cons rfl rfl rfl (pok_cons rfl rfl rfl pok_nil)) rfl rfl rfl ?_; clear h a; intro a h
         refine hd_one 13 (by kernel_rfl) rfl ?_
         refine st_alloc h zv31 rfl rfl ?_; clear h a; intro w7 hb9 hq hz a h
         obtain ⟨g_9, hg⟩ : ∃ g, g = w6.heap.size := ⟨_, rfl⟩; rw [← hg] at hb9 h hz
         have hl_qh9_9 : w5.heap.size ≤ g_9 := by have := qh9.size; omega
         have hl_hC_9 : w6.heap.size ≤ g_9 := by have := hC.size; omega
         have z7 := hq.size
         replace har := har.ext hq
         replace qh9 := qh9.next hq
         replace hC := hC.next hq
         clear hq
         refine hd_next hC ?_
         refine hd_one 14 (by kernel_rfl) rfl ?_
         refine st_storeBA h rfl rfl hb9 rfl (by first | (simp [Value.oneCell', S]; done) | exact Enc.one _ _) sz31 ?_; clear h a; intro w8 hbn hq hz a h
         have z8 := hq.size
         replace har := har.fr hq (by intro k hk hb; simp at hk; subst hk; have := hltr _ hb; omega)
         replace qh9 := qh9.step hq (by first | (simp; done) | (simp; omega))
         replace hC := hC.step hq (by first | (simp; done) | (simp; omega))
         clear hb9 hq hz; have hb9 : Blk w8 g_9 _ [_, _, _, _, _, _] := hbn; clear hbn
         refine hd_next hC ?_
         refine hd_end (by kernel_rfl) ?_
         clear hC har_b
         have z8 := qh9.size
         refine bk (h.sub (L' := [(1, _), (5, _), (6, _), (7, _), (8, _), (9, _)]) (.cons rfl (.cons rfl (.cons rfl (.cons rfl (.cons rfl (.cons rfl .nil))))))) ?_; clear h a
         exact jE (g_9) (.cons rfl (.cons rfl (.cons rfl (.cons rfl (.cons rfl (.cons rfl .nil)))))) ⟨qh9, ⟨by omega, hb9⟩⟩
       · rintro g9 w9 ⟨q9, ⟨hg9, hb9⟩⟩
         have z9 := q9.size
         have lt_hb9 := hb9.lt
         refine kpC [(1, _), (5, _), (6, _), (7, _), (8, _), (9, _)] (.cons rfl (.cons rfl (.cons rfl (.cons rfl (.cons rfl (.cons rfl .nil)))))) ?_
         replace ho6 := ho6.ext q9
         intro a h
         have qh10 := Fr.refl [] w9
         refine region_held (fun wb w' => Fr [] wb w') hmix ?_; intro w10 hq
         have z10 := hq.size
         replace ho6 := ho6.ext hq
         replace hb9 := hb9.ext hq
         replace qh10 := qh10.next hq
         have hsz := hq.size; clear hq; have hC : Fr [] w10 w10 := Fr.refl _ _
         have ho6_b := ho6
         have hb9_b := hb9
         refine hd_move 1 (by kernel_rfl) (by kernel_rfl) (by kernel_rfl) hC h wn rfl rfl rfl ?_; clear h a; intro a h
         refine hd_move 2 (by kernel_rfl) (by kernel_rfl) (by kernel_rfl) hC h wn rfl rfl rfl ?_; clear h a; intro a h
         refine hd_sl_h (p := k) 3 (by kernel_rfl) (by kernel_rfl) (by kernel_rfl) hC h wn rfl rfl el45 (by omega) (by omega) (by omega) rfl rfl ?_; clear h a; intro a h
         refine hd_loadBA 5 (by kernel_rfl) (by kernel_rfl) (by kernel_rfl) hC h wn rfl (fun _ hw => hb9_b.ext hw) ag31 rfl rfl ?_; clear h a; intro a h
         refine hd_move 8 (by kernel_rfl) (by kernel_rfl) (by kernel_rfl) hC h wn rfl rfl rfl ?_; clear h a; intro a h
         refine hd_move 9 (by kernel_rfl) (by kernel_rfl) (by kernel_rfl) hC h wn rfl rfl rfl ?_; clear h a; intro a h
         refine hd_sl_l (p := k) 10 (by kernel_rfl) (by kernel_rfl) (by kernel_rfl) hC h wn rfl rfl el45 (by omega) (by omega) (by omega) rfl rfl ?_; clear h a; intro a h
         refine hd_two 0 6 (by kernel_rfl) rfl rfl ?_ ?_
         · refine id ?_
           refine st_bslice (([] : List MOp)) h evs_nil rfl rfl rfl el45 (Nat.le_of_ble_eq_true rfl) rfl ?_; clear h a; intro g_53 w11 hg ho53 hq hz a h
           have hn__53 : g9 < g_53 := by have := hb9.lt; omega
           have z11 := hq.size
           replace ho6 := ho6.ext hq
           replace hb9 := hb9.ext hq
           replace qh10 := qh10.next hq
           replace hC := hC.next hq
           clear hq
           refine hd_next hC ?_
           refine hd_two 4 6 (by kernel_rfl) rfl rfl ?_ ?_
           · refine id ?_
             have hoo57 := ho53
             refine st_append h rfl rfl ho53 (take_sl2 ho6.sl hkm) el45 (by unfold maxLen; simp; omega) (by simp; omega) (by omega) rfl ?_; clear h a; intro v57 w12 ho57 hq hor57 a h
             have z12 := hq.size
             replace ho6 := ho6.fr hq (fun k hk hb => by have := (hoo57.blk k hk).1; have := hlt6 k hb; omega)
             replace hb9 := hb9.fr hq (fun hk => by have := (hoo57.blk _ hk).1; omega)
             replace qh10 := qh10.step hq (fun k hk hlt => absurd (hoo57.blk k hk).1 (by omega))
             replace hC := hC.step hq (fun k hk hlt => absurd (hoo57.blk k hk).1 (by omega))
             clear hq
             refine hd_next hC ?_
             refine hd_one 6 (by kernel_rfl) rfl ?_
             refine st_bslice ([ioO ((ar.getD i 0).toNat : Int)]) h (evs_cons rfl evs_nil) rfl rfl rfl el45 (Nat.le_of_ble_eq_true rfl) rfl ?_; clear h a; intro g_59 w13 hg ho59 hq hz a h
             have hn__59 : g9 < g_59 := by have := hb9.lt; omega
             have z13 := hq.size
             replace ho6 := ho6.ext hq
             replace hb9 := hb9.ext hq
             replace qh10 := qh10.next hq
             replace hC := hC.next hq
             replace ho57 := ho57.ext hq
             clear hq
             refine hd_next hC ?_
             refine hd_one 7 (by kernel_rfl) rfl ?_
             have hoo60 := ho57
             refine st_append h rfl rfl ho57 ho59.sl el45 (by unfold maxLen; simp; omega) (by simp; omega) (by omega) rfl ?_; clear h a; intro v60 w14 ho60 hq hor60 a h
             have z14 := hq.size
             replace ho6 := ho6.fr hq (fun k hk hb => by have := (hoo60.blk k hk).1; have := hlt6 k hb; omega)
             replace hb9 := hb9.fr hq (fun hk => by have := (hoo60.blk _ hk).1; omega)
             replace qh10 := qh10.step hq (fun k hk hlt => absurd (hoo60.blk k hk).1 (by omega))
             replace hC := hC.step hq (fun k hk hlt => absurd (hoo60.blk k hk).1 (by omega))
             clear hq
             refine hd_next hC ?_
             refine hd_one 11 (by kernel_rfl) rfl ?_
             have hoo64 := ho60
             refine st_append h rfl rfl ho60 (drop_sl2 ho6.sl hkm) el45 (by unfold maxLen; simp; omega) (by simp; omega) (by omega) rfl ?_; clear h a; intro v64 w15 ho64 hq hor64 a h
             have z15 := hq.size
             replace ho6 := ho6.fr hq (fun k hk hb => by have := (hoo64.blk k hk).1; have := hlt6 k hb; omega)
             replace hb9 := hb9.fr hq (fun hk => by have := (hoo64.blk _ hk).1; omega)
             replace qh10 := qh10.step hq (fun k hk hlt => absurd (hoo64.blk k hk).1 (by omega))
             replace hC := hC.step hq (fun k hk hlt => absurd (hoo64.blk k hk).1 (by omega))
             clear hq
             refine hd_next hC ?_
             refine hd_one 12 (by kernel_rfl) rfl ?_
             refine st_assign h rfl rfl ?_; clear h a; intro a h
             refine hd_next hC ?_
             refine hd_end (by kernel_rfl) ?_
             clear hC ho6_b hb9_b
             have z15 := qh10.size
             refine bk (h.sub (L' := [(1, _), (5, _), (6, _), (7, _)]) (.cons rfl (.cons rfl (.cons rfl (.cons rfl .nil))))) ?_; clear h a
             refine bn' (tn (rg (mv rfl rfl (s_add rfl rfl (wi6 (by omega)) rfl (asg rfl rfl (nl ?_))))))
             obtain ⟨A8, c8, rfl, hc8⟩ := ho64.sl.form
             exact lpE ((i + 1, ([] ++ ms.take k ++ [ioO ((ar.getD i 0).toNat : Int)] ++ ms.drop k), A8, c8)) (.cons rfl (.cons rfl (.cons rfl (.cons rfl .nil)))) ⟨((q5.next q9).next qh10), ⟨by simp only; omega, ho64.low (by omega), io_step hio hkm⟩⟩ (by omega)
           · refine id ?_
             refine st_bslice ([ioO ((ar.getD i 0).toNat : Int)]) h (evs_cons rfl evs_nil) rfl rfl rfl el45 (Nat.le_of_ble_eq_true rfl) rfl ?_; clear h a; intro g_59 w16 hg ho59 hq hz a h
             have hn__59 : g9 < g_59 := by have := hb9.lt; omega
             have z16 := hq.size
             replace ho6 := ho6.ext hq
             replace hb9 := hb9.ext hq
             replace qh10 := qh10.next hq
             replace hC := hC.next hq
             replace ho53 := ho53.ext hq
             clear hq
             refine hd_next hC ?_
             refine hd_one 4 (by kernel_rfl) rfl ?_
             have hoo57 := ho53
             refine st_append h rfl rfl ho53 (take_sl2 ho6.sl hkm) el45 (by unfold maxLen; simp; omega) (by simp; omega) (by omega) rfl ?_; clear h a; intro v57 w17 ho57 hq hor57 a h
             have z17 := hq.size
             replace ho6 := ho6.fr hq (fun k hk hb => by have := (hoo57.blk k hk).1; have := hlt6 k hb; omega)
             replace hb9 := hb9.fr hq (fun hk => by have := (hoo57.blk _ hk).1; omega)
             replace qh10 := qh10.step hq (fun k hk hlt => absurd (hoo57.blk k hk).1 (by omega))
             replace hC := hC.step hq (fun k hk hlt => absurd (hoo57.blk k hk).1 (by omega))
             replace ho59 := ho59.fr hq (fun k hk hb => by simp [blks] at hk hb; omega)
             clear hq
             refine hd_next hC ?_
             refine hd_one 7 (by kernel_rfl) rfl ?_
             have hoo60 := ho57
             refine st_append h rfl rfl ho57 ho59.sl el45 (by unfold maxLen; simp; omega) (by simp; omega) (by omega) rfl ?_; clear h a; intro v60 w18 ho60 hq hor60 a h
             have z18 := hq.size
             replace ho6 := ho6.fr hq (fun k hk hb => by have := (hoo60.blk k hk).1; have := hlt6 k hb; omega)
             replace hb9 := hb9.fr hq (fun hk => by have := (hoo60.blk _ hk).1; omega)
             replace qh10 := qh10.step hq (fun k hk hlt => absurd (hoo60.blk k hk).1 (by omega))
             replace hC := hC.step hq (fun k hk hlt => absurd (hoo60.blk k hk).1 (by omega))
             clear hq
             refine hd_next hC ?_
             refine hd_one 11 (by kernel_rfl) rfl ?_
             have hoo64 := ho60
             refine st_append h rfl rfl ho60 (drop_sl2 ho6.sl hkm) el45 (by unfold maxLen; simp; omega) (by simp; omega) (by omega) rfl ?_; clear h a; intro v64 w19 ho64 hq hor64 a h
             have z19 := hq.size
             replace ho6 := ho6.fr hq (fun k hk hb => by have := (hoo64.blk k hk).1; have := hlt6 k hb; omega)
             replace hb9 := hb9.fr hq (fun hk => by have := (hoo64.blk _ hk).1; omega)
             replace qh10 := qh10.step hq (fun k hk hlt => absurd (hoo64.blk k hk).1 (by omega))
             replace hC := hC.step hq (fun k hk hlt => absurd (hoo64.blk k hk).1 (by omega))
             clear hq
             refine hd_next hC ?_
             refine hd_one 12 (by kernel_rfl) rfl ?_
             refine st_assign h rfl rfl ?_; clear h a; intro a h
             refine hd_next hC ?_
             refine hd_end (by kernel_rfl) ?_
             clear hC ho6_b hb9_b
             have z19 := qh10.size
             refine bk (h.sub (L' := [(1, _), (5, _), (6, _), (7, _)]) (.cons rfl (.cons rfl (.cons rfl (.cons rfl .nil))))) ?_; clear h a
             refine bn' (tn (rg (mv rfl rfl (s_add rfl rfl (wi6 (by omega)) rfl (asg rfl rfl (nl ?_))))))
             obtain ⟨A8, c8, rfl, hc8⟩ := ho64.sl.form
             exact lpE ((i + 1, ([] ++ ms.take k ++ [ioO ((ar.getD i 0).toNat : Int)] ++ ms.drop k), A8, c8)) (.cons rfl (.cons rfl (.cons rfl (.cons rfl .nil)))) ⟨((q5.next q9).next qh10), ⟨by simp only; omega, ho64.low (by omega), io_step hio hkm⟩⟩ (by omega)
         · refine id ?_
           refine st_bslice ([ioO ((ar.getD i 0).toNat : Int)]) h (evs_cons rfl evs_nil) rfl rfl rfl el45 (Nat.le_of_ble_eq_true rfl) rfl ?_; clear h a; intro g_59 w20 hg ho59 hq hz a h
           have hn__59 : g9 < g_59 := by have := hb9.lt; omega
           have z20 := hq.size
           replace ho6 := ho6.ext hq
           replace hb9 := hb9.ext hq
           replace qh10 := qh10.next hq
           replace hC := hC.next hq
           clear hq
           refine hd_next hC ?_
           refine hd_one 0 (by kernel_rfl) rfl ?_
           refine st_bslice (([] : List MOp)) h evs_nil rfl rfl rfl el45 (Nat.le_of_ble_eq_true rfl) rfl ?_; clear h a; intro g_53 w21 hg ho53 hq hz a h
           have hn__53 : g9 < g_53 := by have := hb9.lt; omega
           have z21 := hq.size
           replace ho6 := ho6.ext hq
           replace hb9 := hb9.ext hq
           replace qh10 := qh10.next hq
           replace hC := hC.next hq
           replace ho59 := ho59.ext hq
           clear hq
           refine hd_next hC ?_
           refine hd_one 4 (by kernel_rfl) rfl ?_
           have hoo57 := ho53
           refine st_append h rfl rfl ho53 (take_sl2 ho6.sl hkm) el45 (by unfold maxLen; simp; omega) (by simp; omega) (by omega) rfl ?_; clear h a; intro v57 w22 ho57 hq hor57 a h
           have z22 := hq.size
           replace ho6 := ho6.fr hq (fun k hk hb => by have := (hoo57.blk k hk).1; have := hlt6 k hb; omega)
           replace hb9 := hb9.fr hq (fun hk => by have := (hoo57.blk _ hk).1; omega)
           replace qh10 := qh10.step hq (fun k hk hlt => absurd (hoo57.blk k hk).1 (by omega))
           replace hC := hC.step hq (fun k hk hlt => absurd (hoo57.blk k hk).1 (by omega))
           replace ho59 := ho59.fr hq (fun k hk hb => by simp [blks] at hk hb; omega)
           clear hq
           refine hd_next hC ?_
           refine hd_one 7 (by kernel_rfl) rfl ?_
           have hoo60 := ho57
           refine st_append h rfl rfl ho57 ho59.sl el45 (by unfold maxLen; simp; omega) (by simp; omega) (by omega) rfl ?_; clear h a; intro v60 w23 ho60 hq hor60 a h
           have z23 := hq.size
           replace ho6 := ho6.fr hq (fun k hk hb => by have := (hoo60.blk k hk).1; have := hlt6 k hb; omega)
           replace hb9 := hb9.fr hq (fun hk => by have := (hoo60.blk _ hk).1; omega)
           replace qh10 := qh10.step hq (fun k hk hlt => absurd (hoo60.blk k hk).1 (by omega))
           replace hC := hC.step hq (fun k hk hlt => absurd (hoo60.blk k hk).1 (by omega))
           clear hq
           refine hd_next hC ?_
           refine hd_one 11 (by kernel_rfl) rfl ?_
           have hoo64 := ho60
           refine st_append h rfl rfl ho60 (drop_sl2 ho6.sl hkm) el45 (by unfold maxLen; simp; omega) (by simp; omega) (by omega) rfl ?_; clear h a; intro v64 w24 ho64 hq hor64 a h
           have z24 := hq.size
           replace ho6 := ho6.fr hq (fun k hk hb => by have := (hoo64.blk k hk).1; have := hlt6 k hb; omega)
           replace hb9 := hb9.fr hq (fun hk => by have := (hoo64.blk _ hk).1; omega)
           replace qh10 := qh10.step hq (fun k hk hlt => absurd (hoo64.blk k hk).1 (by omega))
           replace hC := hC.step hq (fun k hk hlt => absurd (hoo64.blk k hk).1 (by omega))
           clear hq
           refine hd_next hC ?_
           refine hd_one 12 (by kernel_rfl) rfl ?_
           refine st_assign h rfl rfl ?_; clear h a; intro a h
           refine hd_next hC ?_
           refine hd_end (by kernel_rfl) ?_
           clear hC ho6_b hb9_b
           have z24 := qh10.size
           refine bk (h.sub (L' := [(1, _), (5, _), (6, _), (7, _)]) (.cons rfl (.cons rfl (.cons rfl (.cons rfl .nil))))) ?_; clear h a
           refine bn' (tn (rg (mv rfl rfl (s_add rfl rfl (wi6 (by omega)) rfl (asg rfl rfl (nl ?_))))))
           obtain ⟨A8, c8, rfl, hc8⟩ := ho64.sl.form
           exact lpE ((i + 1, ([] ++ ms.take k ++ [ioO ((ar.getD i 0).toNat : Int)] ++ ms.drop k), A8, c8)) (.cons rfl (.cons rfl (.cons rfl (.cons rfl .nil)))) ⟨((q5.next q9).next qh10), ⟨by simp only; omega, ho64.low (by omega), io_step hio hkm⟩⟩ (by omega)
     · obtain rfl : i = ar.length := by omega
       have hqc : countS ms = countS os := by rw [count_v hio.1 (by omega), count_v hosc (by omega), hio.2.2.1]
       have hqt : timeS ms = timeS os := by rw [time_v hio.1 (by omega), time_v hosc (by omega), hio.2.2.2]
       refine ex (te (te (xh (tn (sq ?_)))))
       refine rboF (r := 4) (L' := []) (True) .nil ?_ ?_
       · refine mv rfl rfl ?_
         refine cl (ev1 rfl) co24 (count_ok _ ms _ ho6.sl) rfl ?_
         rintro _ w25 ⟨rfl, q25⟩
         have z25 := q25.size
         refine mv rfl rfl ?_
         replace ho5 := ho50.ext (((q3.step q4 (fun k hk hlt => absurd (hoo23.blk k hk).1 (by omega))).next q5).next q25)
         refine cl (ev1 rfl) co24 (count_ok _ os _ ho5.sl) rfl ?_
         rintro _ w26 ⟨rfl, q26⟩
         have z26 := q26.size
         refine eq' rfl rfl rfl (mv rfl rfl ?_)
         refine gs 70 rfl (fun g1 => ?_) (fun hh => absurd (by exact hqc) hh)
         refine gY rfl (mv rfl rfl (gY rfl ?_))
         replace ho6 := ho6.ext (q25.next q26)
         refine cl (ev1 rfl) co25 (time_ok _ ms _ ho6.sl) rfl ?_
         rintro _ w27 ⟨rfl, q27⟩
         have z27 := q27.size
         refine gY rfl (mv rfl rfl (gY rfl ?_))
         replace ho5 := ho50.ext (((((q3.step q4 (fun k hk hlt => absurd (hoo23.blk k hk).1 (by omega))).next q5).next q25).next q26).next q27)
         refine cl (ev1 rfl) co25 (time_ok _ os _ ho5.sl) rfl ?_
         rintro _ w28 ⟨rfl, q28⟩
         have z28 := q28.size
         refine gY rfl (eq' rfl rfl rfl (pkt rfl rfl rfl rfl (mv rfl rfl ?_)))
         refine gs 77 rfl (fun g2 => ?_) (fun hh => absurd (by exact hqt) hh)
         refine gY rfl ?_
         replace hG := hG0.ext (((((((q2.next q3).step q4 (fun k hk hlt => absurd (hoo23.blk k hk).1 (by omega))).next q5).next q25).next q26).next q27).next q28)
         refine cl evs_nil co23 (lives10_ok _ hG) rfl ?_
         rintro _ w29 ⟨rfl, q29⟩
         have z29 := q29.size
         exact pkt rfl rfl rfl rfl (asg rfl rfl (rbeF rfl (by rfl) .nil ((((q25.next q26).next q27).next q28).next q29)))
       · intro w30 q30; have z30 := q30.size
         refine tn (rt (r1 Tryd.results9 rfl ?_))
         exact ⟨_, rfl, by first | rfl | simp, ((((q2.next q3).step q4 (fun k hk hlt => absurd (hoo23.blk k hk).1 (by omega))).next q5).next q30)⟩
end Go.Proofs.YtbalocjcbmkecaaDoor
