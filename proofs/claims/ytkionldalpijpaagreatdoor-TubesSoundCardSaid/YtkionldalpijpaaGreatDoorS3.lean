/- Texts of the proof, joined. -/
import Derived.Test.YtkionldalpijpaaGreatDoorRows
import Derived.Shelf.Strconv.Atoi
import Derived.Shelf.Strconv.Itoa0
import Derived.Shelf.Strconv.Itoa1
import Derived.Shelf.LaysM
import Derived.Shelf.Strconv.Itoa2
import Derived.Shelf.Strconv.Itoa3
import Derived.Shelf.Strconv.AtoiErrFast
import Derived.Shelf.Strconv.ParseIntEmpty
import Derived.Shelf.Strconv.AtoiFail
import Derived.Shelf.Strconv.Clone
import Derived.Shelf.Strconv.SyntaxError
import Derived.Shelf.LaysC
import Derived.Shelf.Strconv.ToError
import Derived.Shelf.Strconv.AtoiErr
import Derived.Shelf.Strconv.ErrVar
import Derived.Shelf.Strconv.Lower
import Derived.Shelf.Strconv.ParseUint10
import Derived.Shelf.Strconv.ParseUint10Empty
import Derived.Shelf.Strconv.ParseUint10Any
import Derived.Shelf.Strconv.ParseInt10
import Derived.Shelf.Strconv.AtoiLong
import Derived.Shelf.Strconv.AtoiInnerAll
import Derived.Shelf.Strconv.RangeError
import Derived.Shelf.Strconv.ToErrorRange
import Derived.Shelf.Strconv.AtoiAll
import Derived.Shelf.Strconv.ErrVarAll
import Derived.Shelf.Strings.Search1
import Derived.Shelf.Strings.Search2
import Derived.Shelf.Strings.Search3
import Derived.Shelf.Strings.Cut
import Derived.Shelf.Strings.Count
import Derived.Shelf.Strings.Shaped
import Derived.Shelf.Strings.Split
import Derived.Shelf.Strings.SplitShaped
import Derived.Shelf.Unicode.DecodeSlow
import Derived.Test.YtkionldalpijpaaGreatDoorProg
import Derived.Test.YtkionldalpijpaaGreatDoorS2
set_option linter.unusedVariables false
set_option linter.unusedSimpArgs false
namespace Go.Proofs.YtkionldalpijpaaGreatDoor
open Go.Lw Go.G21

set_option maxHeartbeats 2000000 in
theorem rnd2_ok (wS : World) (ka : KA) (ck cy j at_ : Nat) (ys : List YQ) (ts : List TQ) (fs bs : List IQ) (w0 : World) (hM : KnM τd 50 wS ka w0 ys ts fs bs) (hck : Blk w0 ck 46 [.pointer (some ⟨ka.gk, 0, none⟩)]) (hcy : Blk w0 cy 5 [.int .u8 ((j : Int) + 1)]) (hj : j < 6) (hat : at_ < ka.wd) (hwd : ka.wd ≤ 1000) (hr : (ts.getD j tq0).2.length ≤ 5000) (hB1 : (fs.getD at_ iq0).2.length ≤ 1) (hg0 : goE (ys.getD j yq0).p (ys.getD j yq0).pl ((fs.getD at_ iq0).2.map (paF 0 0)) = 0) (hm0 : mkE (goS (ys.getD j yq0).p (ys.getD j yq0).pl ((fs.getD at_ iq0).2.map (paF 0 0))) = 0) : Rets Tryz.prog 30 #[.int .i64 (at_ : Int), .pointer (some ⟨ck, 0, none⟩), .pointer (some ⟨cy, 0, none⟩)] w0 fun r w' => r = .int .i64 0 ∧ (∃ (u h2 : SV) (lq : LpQ), KnM τd 50 wS ka w' (ys.set j (⟨true, (ys.getD j yq0).pl, (ys.getD j yq0).ct + 1, false, sv0, []⟩ : YQ)) (ts.set j (u, (ts.getD j tq0).2 ++ [lq])) fs (bs.set at_ (h2, [(⟨(j : Int) + 1, (ys.getD j yq0).ct⟩ : LId)])) ∧ lq.p = ⟨1, (ys.getD j yq0).nw, (bs.getD at_ iq0).2, pushS (ys.getD j yq0).pes ((fs.getD at_ iq0).2.map (paF 0 0))⟩) ∧ Blk w' ck 46 [.pointer (some ⟨ka.gk, 0, none⟩)] ∧ Blk w' cy 5 [.int .u8 ((j : Int) + 1)] := by
 have hltO := hM.lt
 have hI1 := fun i (hi : i < 6) q hq k k_ => ((hM.t.lps i (by rw [hM.lt]; exact hi) q hq).1.blk k k_).2
 have hI2 := fun i (hi : i < ka.wd) k k_ => ((hM.f.ins i (by rw [hM.lf]; exact hi)).blk k k_).2
 have hI3 := fun i (hi : i < ka.wd) k k_ => ((hM.b.ins i (by rw [hM.lb]; exact hi)).blk k k_).2
 have hI4 := fun p (hp : p ∈ ka.ids) => (hM.xi p hp).lt
 have hk := hM.k
 have hzS := hM.fr.size
 have hlr := hM.lf
 have hlw := hM.lb
 refine we [(0, .int .i64 (at_ : Int)), (1, .pointer (some ⟨ck, 0, none⟩)), (2, .pointer (some ⟨cy, 0, none⟩))] Tryz.func30 rfl Tryz.ntmps30 rfl (.cons rfl (.cons rfl (.cons rfl .nil))) ?_
 have hM0 := hM
 refine sr (asg rfl rfl (nn (sr (s_loadB0 rfl hck na46 rfl (nlc rfl rfl (fad rfl fa50_2 rfl (s_loadB rfl hk rfl na48 rfl (mv rfl rfl (s_idxL (p := at_) (iq0) rfl hM.f.out.sl rfl el48 (by omega) (by omega) (by omega) rfl (fun ad13 hc13 => ?_))))))))))
 refine s_loadC0 rfl (hc13 _ hM.f.out.sl) na31 rfl (s_lit (cs := [_, _]) (ev2 rfl rfl) bo81 (pok_cons rfl rfl rfl (pok_cons rfl rfl rfl pok_nil)) rfl rfl ?_)
 refine s_bslice ([(⟨0, (fs.getD at_ iq0).1, (fs.getD at_ iq0).2⟩ : SlQ)]) (ev1 rfl) rfl rfl rfl el82 (Nat.le_of_ble_eq_true rfl) rfl (fun g16 w1 hg16 ho16 q1 z1 => ?_)
 replace hM := hM0.ext q1
 refine cl (ev2 rfl rfl) co28 (past_ok _ [(⟨0, (fs.getD at_ iq0).1, (fs.getD at_ iq0).2⟩ : SlQ)] 0 _ ho16.sl (sq1 (hM.f.ins at_ (by omega)).sl) (by simp) (by simpa using hB1)) rfl ?_
 rintro V17 w2 ⟨hoP, q2⟩
 have z2 := q2.size
 rw [pas1] at hoP
 refine asg rfl rfl (kpL [(0, _), (1, _), (2, _), (5, _)] (.cons rfl (.cons rfl (.cons rfl (.cons rfl .nil)))) (nn (sq ?_)))
 replace hM := hM0.ext (q1.next q2)
 replace hk := hk.ext (q1.next q2)
 replace hck := hck.ext (q1.next q2)
 replace hcy := hcy.ext (q1.next q2)
 intro a h
 refine region_heldP (some 16) (fun wb w' => Fr ([ka.gy] ++ ([ka.gt] ++ blks (slv (ts.getD j tq0).1))) wb w') hmix ?_; intro w3 hq
 have z3 := hq.size
 replace hM := hM.ext hq
 replace hk := hk.ext hq
 replace hck := hck.ext hq
 replace hcy := hcy.ext hq
 replace hoP := hoP.ext hq
 have q3 := hq
 clear hq; have hC : Fr ([ka.gy] ++ ([ka.gt] ++ blks (slv (ts.getD j tq0).1))) w3 w3 := Fr.refl _ _
 have hM_b := hM
 have hk_b := hk
 have hck_b := hck
 have hcy_b := hcy
 have hoP_b := hoP
 refine hd_loadB0 0 (by kernel_rfl) (by kernel_rfl) (by kernel_rfl) hC h wn rfl (fun _ hw => hck_b.fr hw (off_mem hck_b (hM_b.offL hj (by decide) (by decide) (by decide)))) na46 rfl rfl ?_; clear h a; intro a h
 refine hd_loadB0 1 (by kernel_rfl) (by kernel_rfl) (by kernel_rfl) hC h wn rfl (fun _ hw => hcy_b.fr hw (off_mem hcy_b (hM_b.offL hj (by decide) (by decide) (by decide)))) na5 rfl rfl ?_; clear h a; intro a h
 refine hd_move 2 (by kernel_rfl) (by kernel_rfl) (by kernel_rfl) hC h wn rfl rfl rfl ?_; clear h a; intro a h
 refine hd_loadB0 3 (by kernel_rfl) (by kernel_rfl) (by kernel_rfl) hC h wn rfl (fun _ hw => hck_b.fr hw (off_mem hck_b (hM_b.offL hj (by decide) (by decide) (by decide)))) na46 rfl rfl ?_; clear h a; intro a h
 refine hd_nilCheck 4 (by kernel_rfl) (by kernel_rfl) (by kernel_rfl) hC h wn rfl rfl rfl ?_; clear h a; intro a h
 refine hd_fieldAddr 5 (by kernel_rfl) (by kernel_rfl) (by kernel_rfl) hC h wn rfl fa50_3 rfl rfl ?_; clear h a; intro a h
 refine hd_loadB 6 (by kernel_rfl) (by kernel_rfl) (by kernel_rfl) hC h wn rfl (fun _ hw => hk_b.fr hw (off_mem hk_b (hM_b.offL hj (by decide) (by decide) (by decide)))) rfl na48 rfl rfl ?_; clear h a; intro a h
 refine hd_move 7 (by kernel_rfl) (by kernel_rfl) (by kernel_rfl) hC h wn rfl rfl rfl ?_; clear h a; intro a h
 refine hd_idxL (p := at_) (iq0) 8 (by kernel_rfl) (by kernel_rfl) (by kernel_rfl) hC h wn rfl hM.b.out.sl rfl el48 (by omega) (by omega) (by omega) rfl rfl ?_; clear h a; intro ad27 hc27 a h
 refine hd_loadC0 9 (by kernel_rfl) (by kernel_rfl) (by kernel_rfl) hC h wn rfl (fun _ hw => hc27 _ (own_tf hM_b.b.out hw (hM_b.offL hj (by decide) (by decide) (by decide))).sl) na31 rfl rfl ?_; clear h a; intro a h
 refine hd_two 10 14 (by kernel_rfl) rfl rfl ?_ ?_
 · refine id ?_
   refine st_call h (evs_cons rfl (evs_cons rfl (evs_cons rfl (evs_cons rfl (evs_cons rfl evs_nil))))) co29 (kloop_ok ka.gk ka.gy ka.cy ka.gt ka.ct wS.heap.size j _ _ _ ys ts ((fs.getD at_ iq0).2.map (paF 0 0)) 1 (bs.getD at_ iq0).1 (bs.getD at_ iq0).2 _ hk hM.y hM.t hM.ly hM.lt hj hr hoP.sl (fun k k_ => (hoP.blk k k_).2) (by rw [List.length_map]; omega) (hM.b.ins at_ (by rw [hM.lb]; exact hat)) (by omega) hg0 hm0) rfl ?_; clear h a; rintro _ w4 ⟨u, lq, rfl, hlq, hlth, hyN, htN, hq⟩ a h
   have z4 := hq.size
   have hoL := fun (T : Nat) (h1 : T ≠ τd.Y) (h2 : T ≠ τd.T) (h3 : T ≠ τd.L) => hM.offL hj h1 h2 h3
   replace hck := blk_tf hck hq (hoL _ (by decide) (by decide) (by decide))
   replace hcy := blk_tf hcy hq (hoL _ (by decide) (by decide) (by decide))
   have hM := hM.loop ktd hj hyN htN (by rw [List.length_set]; exact hM.ly) (by rw [List.length_set]; exact hM.lt) hq
   have hM0 := hM
   have hq_ := hq
   replace hC := hC.step hq (fun k k_ _ => k_)
   clear hq
   clear hq_
   refine hd_next hC ?_
   refine hd_move 11 (by kernel_rfl) (by kernel_rfl) (by kernel_rfl) hC h wn rfl rfl rfl ?_; clear h a; intro a h
   refine hd_extract 12 (by kernel_rfl) (by kernel_rfl) (by kernel_rfl) hC h wn rfl rfl rfl rfl ?_; clear h a; intro a h
   refine hd_extract 13 (by kernel_rfl) (by kernel_rfl) (by kernel_rfl) hC h wn rfl rfl rfl rfl ?_; clear h a; intro a h
   refine hd_one 14 (by kernel_rfl) rfl ?_
   refine st_alloc h zv39 rfl rfl ?_; clear h a; intro w5 hb6 hq hz a h
   obtain ⟨g_6, hg⟩ : ∃ g, g = w4.heap.size := ⟨_, rfl⟩; rw [← hg] at hb6 h hz
   have hn__6 : ck < g_6 := by have := hck.lt; omega
   have hn__6 : cy < g_6 := by have := hcy.lt; omega
   have z5 := hq.size
   replace hck := hck.ext hq
   replace hcy := hcy.ext hq
   replace hC := hC.next hq
   have q5 := hq
   clear hq
   refine hd_next hC ?_
   refine hd_one 15 (by kernel_rfl) rfl ?_
   refine st_storeBA h rfl rfl hb6 rfl (by first | (simp [Value.oneCell', S]; done) | exact Enc.one _ _) sz39 ?_; clear h a; intro w6 hbn hq hz a h
   have z6 := hq.size
   replace hck := hck.fr hq (by first | (simp; done) | (simp; omega) | (simp [blks]; done) | (simp [blks]; omega))
   replace hcy := hcy.fr hq (by first | (simp; done) | (simp; omega) | (simp [blks]; done) | (simp [blks]; omega))
   replace hC := hC.step hq (by first | (simp; done) | (simp; omega))
   have q6 := hq
   clear hb6 hq hz; have hb6 : Blk w6 g_6 _ [_, _] := hbn; clear hbn
   refine hd_next hC ?_
   refine hd_one 16 (by kernel_rfl) rfl ?_
   refine st_assign h rfl rfl ?_; clear h a; intro a h
   refine hd_past (by kernel_rfl) ?_
   refine hd_end (by kernel_rfl) ?_
   clear hC hM_b hk_b hck_b hcy_b hoP_b
   replace hM := hM0.ext (q5.step q6 (by first | (simp; done) | (simp; omega)))
   have hk := hM.k
   have hzM := hM.fr.size
   refine bk (h.sub (L' := [(0, _), (1, _), (6, _), (7, _)]) (.cons rfl (.cons rfl (.cons rfl (.cons rfl .nil))))) ?_; clear h a
   refine tn (sq ?_)
   intro a h
   refine region_heldP (some 8) (fun wb w' => Fr [] wb w') hmix ?_; intro w7 hq
   have z7 := hq.size
   replace hM := hM.ext hq
   replace hk := hk.ext hq
   replace hck := hck.ext hq
   replace hcy := hcy.ext hq
   replace hb6 := hb6.ext hq
   have q7 := hq
   clear hq; have hC : Fr [] w7 w7 := Fr.refl _ _
   have hM_b := hM
   have hk_b := hk
   have hck_b := hck
   have hcy_b := hcy
   have hb6_b := hb6
   refine hd_loadB0 0 (by kernel_rfl) (by kernel_rfl) (by kernel_rfl) hC h wn rfl (fun _ hw => hck_b.ext hw) na46 rfl rfl ?_; clear h a; intro a h
   refine hd_nilCheck 1 (by kernel_rfl) (by kernel_rfl) (by kernel_rfl) hC h wn rfl rfl rfl ?_; clear h a; intro a h
   refine hd_fieldAddr 2 (by kernel_rfl) (by kernel_rfl) (by kernel_rfl) hC h wn rfl fa50_3 rfl rfl ?_; clear h a; intro a h
   refine hd_loadB 3 (by kernel_rfl) (by kernel_rfl) (by kernel_rfl) hC h wn rfl (fun _ hw => hk_b.ext hw) rfl na48 rfl rfl ?_; clear h a; intro a h
   refine hd_move 4 (by kernel_rfl) (by kernel_rfl) (by kernel_rfl) hC h wn rfl rfl rfl ?_; clear h a; intro a h
   refine hd_loadBA 5 (by kernel_rfl) (by kernel_rfl) (by kernel_rfl) hC h wn rfl (fun _ hw => hb6_b.ext hw) ag39 rfl rfl ?_; clear h a; intro a h
   refine hd_one 6 (by kernel_rfl) rfl ?_
   refine st_bslice ([(⟨(j : Int) + 1, (ys.getD j yq0).ct⟩ : LId)]) h (evs_cons rfl evs_nil) rfl rfl rfl el31 (Nat.le_of_ble_eq_true rfl) rfl ?_; clear h a; intro g_38 w8 hg ho38 hq hz a h
   have hn_.gk_38 : ka.gk < g_38 := by have := hk.lt; omega
   have hn__38 : ck < g_38 := by have := hck.lt; omega
   have hn__38 : cy < g_38 := by have := hcy.lt; omega
   have hn_6_38 : g_6 < g_38 := by have := hb6.lt; omega
   have z8 := hq.size
   replace hM := hM.ext hq
   replace hk := hk.ext hq
   replace hck := hck.ext hq
   replace hcy := hcy.ext hq
   replace hb6 := hb6.ext hq
   replace hC := hC.next hq
   have q8 := hq
   clear hq
   refine hd_next hC ?_
   refine hd_idxS 7 (by kernel_rfl) (by kernel_rfl) (by kernel_rfl) hC (p := at_) h wn rfl rfl el48 (by omega) (by omega) (by omega) rfl rfl ?_; clear h a; intro a h
   refine hd_one 8 (by kernel_rfl) rfl ?_
   refine st_storeO (i := at_) (((_, _, _), [(⟨(j : Int) + 1, (ys.getD j yq0).ct⟩ : LId)]) : IQ) h rfl rfl hM.b.out (by rw [hM.lb]; exact hat) rfl sz31 ?_; clear h a; intro w9 ho_2 hq _hz a h
   replace hck := blk_tf hck hq (own_off hM.b.out (by decide))
   replace hcy := blk_tf hcy hq (own_off hM.b.out (by decide))
   have hMF := hM.back ktd hat ho_2 hq (ho38.low (by omega))
   clear hq _hz
   refine hd_past (by kernel_rfl) ?_
   refine hd_end (by kernel_rfl) ?_
   clear hC hM_b hk_b hck_b hcy_b hb6_b
   refine bk (h.sub (L' := [(7, _)]) (.cons rfl .nil)) ?_; clear h a
   refine tn (sr (mv rfl rfl (asg rfl rfl (nn (rt (r1 Tryz.results30 rfl ?_))))))
   exact ⟨_, rfl, rfl, ⟨u, _, lq, hMF, hlq⟩, hck, hcy⟩
 · refine id ?_
   refine st_alloc h zv39 rfl rfl ?_; clear h a; intro w10 hb6 hq hz a h
   obtain ⟨g_6, hg⟩ : ∃ g, g = w3.heap.size := ⟨_, rfl⟩; rw [← hg] at hb6 h hz
   have hn_.gk_6 : ka.gk < g_6 := by have := hk.lt; omega
   have hn__6 : ck < g_6 := by have := hck.lt; omega
   have hn__6 : cy < g_6 := by have := hcy.lt; omega
   have z10 := hq.size
   replace hM := hM.ext hq
   replace hk := hk.ext hq
   replace hck := hck.ext hq
   replace hcy := hcy.ext hq
   replace hoP := hoP.ext hq
   replace hC := hC.next hq
   have q10 := hq
   clear hq
   refine hd_next hC ?_
   refine hd_one 10 (by kernel_rfl) rfl ?_
   refine st_call h (evs_cons rfl (evs_cons rfl (evs_cons rfl (evs_cons rfl (evs_cons rfl evs_nil))))) co29 (kloop_ok ka.gk ka.gy ka.cy ka.gt ka.ct wS.heap.size j _ _ _ ys ts ((fs.getD at_ iq0).2.map (paF 0 0)) 1 (bs.getD at_ iq0).1 (bs.getD at_ iq0).2 _ hk hM.y hM.t hM.ly hM.lt hj hr hoP.sl (fun k k_ => (hoP.blk k k_).2) (by rw [List.length_map]; omega) (hM.b.ins at_ (by rw [hM.lb]; exact hat)) (by omega) hg0 hm0) rfl ?_; clear h a; rintro _ w11 ⟨u, lq, rfl, hlq, hlth, hyN, htN, hq⟩ a h
   have z11 := hq.size
   have hoL := fun (T : Nat) (h1 : T ≠ τd.Y) (h2 : T ≠ τd.T) (h3 : T ≠ τd.L) => hM.offL hj h1 h2 h3
   replace hck := blk_tf hck hq (hoL _ (by decide) (by decide) (by decide))
   replace hcy := blk_tf hcy hq (hoL _ (by decide) (by decide) (by decide))
   have hM := hM.loop ktd hj hyN htN (by rw [List.length_set]; exact hM.ly) (by rw [List.length_set]; exact hM.lt) hq
   have hM0 := hM
   have hq_ := hq
   replace hC := hC.step hq (fun k k_ _ => k_)
   clear hq
   replace hb6 := blk_tf hb6 hq_ (hoL _ (by decide) (by decide) (by decide))
   have hbA := hb6
   clear hq_
   refine hd_next hC ?_
   refine hd_move 11 (by kernel_rfl) (by kernel_rfl) (by kernel_rfl) hC h wn rfl rfl rfl ?_; clear h a; intro a h
   refine hd_extract 12 (by kernel_rfl) (by kernel_rfl) (by kernel_rfl) hC h wn rfl rfl rfl rfl ?_; clear h a; intro a h
   refine hd_extract 13 (by kernel_rfl) (by kernel_rfl) (by kernel_rfl) hC h wn rfl rfl rfl rfl ?_; clear h a; intro a h
   refine hd_one 15 (by kernel_rfl) rfl ?_
   refine st_storeBA h rfl rfl hb6 rfl (by first | (simp [Value.oneCell', S]; done) | exact Enc.one _ _) sz39 ?_; clear h a; intro w12 hbn hq hz a h
   have z12 := hq.size
   replace hck := hck.fr hq (by first | (simp; done) | (simp; omega) | (simp [blks]; done) | (simp [blks]; omega))
   replace hcy := hcy.fr hq (by first | (simp; done) | (simp; omega) | (simp [blks]; done) | (simp [blks]; omega))
   replace hC := hC.step hq (by first | (simp; done) | (simp; omega))
   have q12 := hq
   clear hb6 hq hz; have hb6 : Blk w12 g_6 _ [_, _] := hbn; clear hbn
   refine hd_next hC ?_
   refine hd_one 16 (by kernel_rfl) rfl ?_
   refine st_assign h rfl rfl ?_; clear h a; intro a h
   refine hd_past (by kernel_rfl) ?_
   refine hd_end (by kernel_rfl) ?_
   clear hC hM_b hk_b hck_b hcy_b hoP_b
   replace hM := hM.tfI ktd (by decide) (by decide) hbA q12 (by omega) (fun i hi q hq k_ => by
     rcases put_mem (by rw [hltO]; exact hj) (by rw [List.length_set, hltO]; exact hi) hq with ⟨i', h1, h2⟩ | e
     · have hi' : i' < 6 := by rw [← hltO]; exact h1
       have := hI1 i' hi' q h2 _ k_; omega
     · subst e; rw [hlth] at k_; have := hI3 at_ hat _ k_; omega) (fun i hi k_ => by have := hI2 i hi _ k_; omega) (fun i hi k_ => by have := hI3 i hi _ k_; omega) (fun p hp => by have := hI4 p hp; omega)
   have hM0 := hM
   have hk := hM.k
   have hzM := hM.fr.size
   refine bk (h.sub (L' := [(0, _), (1, _), (6, _), (7, _)]) (.cons rfl (.cons rfl (.cons rfl (.cons rfl .nil))))) ?_; clear h a
   refine tn (sq ?_)
   intro a h
   refine region_heldP (some 8) (fun wb w' => Fr [] wb w') hmix ?_; intro w13 hq
   have z13 := hq.size
   replace hM := hM.ext hq
   replace hk := hk.ext hq
   replace hck := hck.ext hq
   replace hcy := hcy.ext hq
   replace hb6 := hb6.ext hq
   have q13 := hq
   clear hq; have hC : Fr [] w13 w13 := Fr.refl _ _
   have hM_b := hM
   have hk_b := hk
   have hck_b := hck
   have hcy_b := hcy
   have hb6_b := hb6
   refine hd_loadB0 0 (by kernel_rfl) (by kernel_rfl) (by kernel_rfl) hC h wn rfl (fun _ hw => hck_b.ext hw) na46 rfl rfl ?_; clear h a; intro a h
   refine hd_nilCheck 1 (by kernel_rfl) (by kernel_rfl) (by kernel_rfl) hC h wn rfl rfl rfl ?_; clear h a; intro a h
   refine hd_fieldAddr 2 (by kernel_rfl) (by kernel_rfl) (by kernel_rfl) hC h wn rfl fa50_3 rfl rfl ?_; clear h a; intro a h
   refine hd_loadB 3 (by kernel_rfl) (by kernel_rfl) (by kernel_rfl) hC h wn rfl (fun _ hw => hk_b.ext hw) rfl na48 rfl rfl ?_; clear h a; intro a h
   refine hd_move 4 (by kernel_rfl) (by kernel_rfl) (by kernel_rfl) hC h wn rfl rfl rfl ?_; clear h a; intro a h
   refine hd_loadBA 5 (by kernel_rfl) (by kernel_rfl) (by kernel_rfl) hC h wn rfl (fun _ hw => hb6_b.ext hw) ag39 rfl rfl ?_; clear h a; intro a h
   refine hd_one 6 (by kernel_rfl) rfl ?_
   refine st_bslice ([(⟨(j : Int) + 1, (ys.getD j yq0).ct⟩ : LId)]) h (evs_cons rfl evs_nil) rfl rfl rfl el31 (Nat.le_of_ble_eq_true rfl) rfl ?_; clear h a; intro g_38 w14 hg ho38 hq hz a h
   have hn_.gk_38 : ka.gk < g_38 := by have := hk.lt; omega
   have hn__38 : ck < g_38 := by have := hck.lt; omega
   have hn__38 : cy < g_38 := by have := hcy.lt; omega
   have hn_6_38 : g_6 < g_38 := by have := hb6.lt; omega
   have z14 := hq.size
   replace hM := hM.ext hq
   replace hk := hk.ext hq
   replace hck := hck.ext hq
   replace hcy := hcy.ext hq
   replace hb6 := hb6.ext hq
   replace hC := hC.next hq
   have q14 := hq
   clear hq
   refine hd_next hC ?_
   refine hd_idxS 7 (by kernel_rfl) (by kernel_rfl) (by kernel_rfl) hC (p := at_) h wn rfl rfl el48 (by omega) (by omega) (by omega) rfl rfl ?_; clear h a; intro a h
   refine hd_one 8 (by kernel_rfl) rfl ?_
   refine st_storeO (i := at_) (((_, _, _), [(⟨(j : Int) + 1, (ys.getD j yq0).ct⟩ : LId)]) : IQ) h rfl rfl hM.b.out (by rw [hM.lb]; exact hat) rfl sz31 ?_; clear h a; intro w15 ho_2 hq _hz a h
   replace hck := blk_tf hck hq (own_off hM.b.out (by decide))
   replace hcy := blk_tf hcy hq (own_off hM.b.out (by decide))
   have hMF := hM.back ktd hat ho_2 hq (ho38.low (by omega))
   clear hq _hz
   refine hd_past (by kernel_rfl) ?_
   refine hd_end (by kernel_rfl) ?_
   clear hC hM_b hk_b hck_b hcy_b hb6_b
   refine bk (h.sub (L' := [(7, _)]) (.cons rfl .nil)) ?_; clear h a
   refine tn (sr (mv rfl rfl (asg rfl rfl (nn (rt (r1 Tryz.results30 rfl ?_))))))
   exact ⟨_, rfl, rfl, ⟨u, _, lq, hMF, hlq⟩, hck, hcy⟩
end Go.Proofs.YtkionldalpijpaaGreatDoor
namespace Go.Proofs.YtkionldalpijpaaGreatDoor
open Go.Lw Go.G21

def KnI (wS : World) (ka : KA) (ck cy j : Nat) (rows : List (List Lp)) (en : Nat → Bool) (F B : Nat → List LId) (w : World) : Prop :=
  ∃ ys ts fs bs, KnM τd 50 wS ka w ys ts fs bs ∧ KnR ka.wd ys ts fs bs rows en F B ∧ Blk w ck 46 [.pointer (some ⟨ka.gk, 0, none⟩)] ∧ Blk w cy 5 [.int .u8 ((j : Int) + 1)]
theorem half1_ok (wS : World) (ka : KA) (ck cy j f : Nat) (z : List (List Lp)) (s : Lst) (en : Nat → Bool) (w0 : World) (h0 : KnI wS ka ck cy j z en (frS s) (bkS ka.wd s) w0) (hj : j < 6) (hz : z.length = 6) (hf : (z.getD j []).length = f) (hwd : ka.wd ≤ 1000) (hfl : f + 2 * ka.wd < 2048) (he : en j = true) (hv : ∀ i, i < ka.wd → AllV (psB (bkS ka.wd s i))) :
    Rets Tryz.prog 26 #[.int .i64 (ka.wd : Int), .int .u8 1, .func (.func 27) #[] [Value.pointer (some ⟨ck, 0, none⟩), Value.pointer (some ⟨cy, 0, none⟩)].toArray] w0 fun r w' => r = .int .i64 0 ∧ KnI wS ka ck cy j (z.set j (z.getD j [] ++ rndF ka.wd s f ka.wd)) en (frK s ((j : Int) + 1) f ka.wd) (bkS ka.wd s) w' := by
  refine half_ok ka.wd 27 1 _ (fun k w => KnI wS ka ck cy j (z.set j (z.getD j [] ++ rndF ka.wd s f k)) en (frK s ((j : Int) + 1) f k) (bkS ka.wd s) w) w0 hwd (CallOf.mk' Tryz.func27 (by kernel_rfl) (by kernel_rfl)) ?_ ?_
  · have e : z.set j (z.getD j [] ++ rndF ka.wd s f 0) = z := by
      rw [show rndF ka.wd s f 0 = [] from rfl, List.append_nil, List.getD, List.getElem?_eq_getElem (by omega)]
      exact List.set_getElem_self _
    have e2 : frK s ((j : Int) + 1) f 0 = frS s := by funext i; unfold frK; rw [if_neg (by omega)]
    show KnI _ _ _ _ _ _ _ _ _ _
    rw [e, e2]; exact h0
  · rintro k w hk ⟨ys, ts, fs, bs, hM, hR, hck, hcy⟩
    have hrow : ((z.set j (z.getD j [] ++ rndF ka.wd s f k)).getD j []) = z.getD j [] ++ rndF ka.wd s f k := by rw [set_getD (by omega), if_pos rfl]
    have hyq := hR.y j hj
    rw [hrow, List.length_append, hf, rndF_len, he] at hyq
    have hb := hR.b k hk
    have hfk := hR.f k hk
    have hbl := bkS_len ka.wd s k
    have hps : (bs.getD k iq0).2.map (paF 1 1) = psB (bkS ka.wd s k) := by rw [hb]; rfl
    have hpl : (psB (bkS ka.wd s k)).length ≤ 1 := by unfold psB; rw [List.length_map]; exact hbl
    have hrl := hR.rlen (j := j) (by rw [hM.lt]; exact hj)
    rw [hrow, List.length_append, hf, rndF_len] at hrl
    rw [show ixH 1 ka.wd k = (k : Int) from if_neg (by decide)]
    refine Rets.mono (rnd1_ok wS ka ck cy j k ys ts fs bs w hM hck hcy hj hk hwd (by omega) (by rw [hb]; exact hbl) (by rw [hyq, hps]; exact goE_yQ (by omega) hpl (hv k hk)) (by rw [hyq, hps]; exact mkE_yQ (by omega) hpl (hv k hk))) ?_
    rintro r w' ⟨rfl, ⟨u, h2, lq, hM2, hlq⟩, hck2, hcy2⟩
    refine ⟨rfl, _, _, _, _, hM2, ?_, hck2, hcy2⟩
    rw [hps, hyq, hfk] at hlq
    have hst := hR.stepF (u := u) (u' := h2) hz hf hM.ly hM.lt hM.lf hj hk he (lq := lq) (by rw [hlq, show (yQ true (f + k)).pes = [] from rfl, pushS_one hpl]; unfold frK lpF; rw [if_neg (Nat.lt_irrefl k)]; rfl)
    rw [hyq] at hst ⊢
    exact hst
end Go.Proofs.YtkionldalpijpaaGreatDoor
namespace Go.Proofs.YtkionldalpijpaaGreatDoor
open Go.Lw Go.G21

theorem half2_ok (wS : World) (ka : KA) (ck cy j f : Nat) (z : List (List Lp)) (s : Lst) (en : Nat → Bool) (w0 : World) (h0 : KnI wS ka ck cy j (z.set j (z.getD j [] ++ rndF ka.wd s f ka.wd)) en (frK s ((j : Int) + 1) f ka.wd) (bkS ka.wd s) w0) (hj : j < 6) (hz : z.length = 6) (hf : (z.getD j []).length = f) (hwd : ka.wd ≤ 1000) (hfl : f + 2 * ka.wd < 2048) (he : en j = true) :
    Rets Tryz.prog 26 #[.int .i64 (ka.wd : Int), .int .u8 0, .func (.func 30) #[] [Value.pointer (some ⟨ck, 0, none⟩), Value.pointer (some ⟨cy, 0, none⟩)].toArray] w0 fun r w' => r = .int .i64 0 ∧ KnI wS ka ck cy j (z.set j (z.getD j [] ++ rndF ka.wd s f ka.wd ++ rndB ka.wd s ((j : Int) + 1) f ka.wd)) en (frK s ((j : Int) + 1) f ka.wd) (bkK ka.wd s ((j : Int) + 1) f ka.wd) w' := by
  refine half_ok ka.wd 30 0 _ (fun k w => KnI wS ka ck cy j (z.set j (z.getD j [] ++ rndF ka.wd s f ka.wd ++ rndB ka.wd s ((j : Int) + 1) f k)) en (frK s ((j : Int) + 1) f ka.wd) (bkK ka.wd s ((j : Int) + 1) f k) w) w0 hwd (CallOf.mk' Tryz.func30 (by kernel_rfl) (by kernel_rfl)) ?_ ?_
  · have e2 : bkK ka.wd s ((j : Int) + 1) f 0 = bkS ka.wd s := by funext i; unfold bkK; rw [if_neg (by omega)]
    show KnI _ _ _ _ _ _ _ _ _ _
    rw [e2, show rndB ka.wd s ((j : Int) + 1) f 0 = [] from rfl, List.append_nil]; exact h0
  · rintro k w hk ⟨ys, ts, fs, bs, hM, hR, hck, hcy⟩
    have hrow : ((z.set j (z.getD j [] ++ rndF ka.wd s f ka.wd ++ rndB ka.wd s ((j : Int) + 1) f k)).getD j []) = z.getD j [] ++ rndF ka.wd s f ka.wd ++ rndB ka.wd s ((j : Int) + 1) f k := by rw [set_getD (by omega), if_pos rfl]
    have hyq := hR.y j hj
    rw [hrow, List.length_append, List.length_append, hf, rndF_len, rndB_len, he] at hyq
    have hat : ka.wd - 1 - k < ka.wd := by omega
    have hb := hR.b _ hat
    have hfk := hR.f _ hat
    have hfe : frK s ((j : Int) + 1) f ka.wd (ka.wd - 1 - k) = [⟨(j : Int) + 1, ((f + (ka.wd - 1 - k) : Nat) : Int)⟩] := by unfold frK; rw [if_pos hat]
    have hps : (fs.getD (ka.wd - 1 - k) iq0).2.map (paF 0 0) = psF [⟨(j : Int) + 1, ((f + (ka.wd - 1 - k) : Nat) : Int)⟩] := by rw [hfk, hfe]; rfl
    have hpl : (psF [⟨(j : Int) + 1, ((f + (ka.wd - 1 - k) : Nat) : Int)⟩]).length ≤ 1 := by simp [psF]
    have hv := allF (y := (j : Int) + 1) (n := f + (ka.wd - 1 - k)) (by omega) (by omega) (by omega)
    have hrl := hR.rlen (j := j) (by rw [hM.lt]; exact hj)
    rw [hrow, List.length_append, List.length_append, hf, rndF_len, rndB_len] at hrl
    rw [show ixH 0 ka.wd k = ((ka.wd - 1 - k : Nat) : Int) from (if_pos rfl).trans (by omega)]
    refine Rets.mono (rnd2_ok wS ka ck cy j (ka.wd - 1 - k) ys ts fs bs w hM hck hcy hj hat hwd (by omega) (by rw [hfk, hfe]; simp) (by rw [hyq, hps]; exact goE_yQ (by omega) hpl hv) (by rw [hyq, hps]; exact mkE_yQ (by omega) hpl hv)) ?_
    rintro r w' ⟨rfl, ⟨u, h2, lq, hM2, hlq⟩, hck2, hcy2⟩
    refine ⟨rfl, _, _, _, _, hM2, ?_, hck2, hcy2⟩
    rw [hps, hyq, hb] at hlq
    have hst := hR.stepB (u := u) (u' := h2) hz hf hM.ly hM.lt hM.lb hj hk he (lq := lq) (by rw [hlq, show (yQ true (f + ka.wd + k)).pes = [] from rfl, pushS_one hpl]; unfold bkK lpB; rw [if_neg (by omega)]; show Lp.mk _ (decide (f + ka.wd + k = 0)) _ _ = _; rw [decide_eq_false (by omega)])
    rw [hyq] at hst ⊢
    exact hst
end Go.Proofs.YtkionldalpijpaaGreatDoor
namespace Go.Proofs.YtkionldalpijpaaGreatDoor
open Go.Lw Go.G21
theorem co25 : CallOf Tryz.prog 25 := CallOf.mk' Tryz.func25 (by kernel_rfl) (by kernel_rfl)
theorem co26 : CallOf Tryz.prog 26 := CallOf.mk' Tryz.func26 (by kernel_rfl) (by kernel_rfl)
set_option maxHeartbeats 1000000 in
theorem round_ok (wS : World) (ka : KA) (j f : Nat) (ys : List YQ) (ts : List TQ) (fs bs : List IQ) (z : List (List Lp)) (s : Lst) (en : Nat → Bool) (w0 : World) (hM : KnM τd 50 wS ka w0 ys ts fs bs) (hR : KnR ka.wd ys ts fs bs z en (frS s) (bkS ka.wd s)) (hj : j < 6) (hf : (z.getD j []).length = f) (hw1 : 1 ≤ ka.wd) (hwd : ka.wd ≤ 1000) (hfl : f + 2 * ka.wd < 2048) (hv : ∀ i, i < ka.wd → AllV (psB (bkS ka.wd s i))) (hen : en j = false → z.getD j [] = []) : Rets Tryz.prog 11 #[.pointer (some ⟨ka.gk, 0, none⟩), .int .i64 (ka.wd : Int), .int .u8 ((j : Int) + 1)] w0 fun r w' => r = .int .i64 0 ∧ ∃ ys' ts' fs' bs', KnM τd 50 wS ka w' ys' ts' fs' bs' ∧ KnR ka.wd ys' ts' fs' bs' (z.set j (z.getD j [] ++ rndL ka.wd s ((j : Int) + 1) f)) (fun i => if i = j then true else en i) (frS (some ((j : Int) + 1, f))) (bkS ka.wd (some ((j : Int) + 1, f))) := by
 have hz6 : z.length = 6 := by rw [hR.rows_len, hM.lt]
 have hly := hM.ly
 have hyq := hR.y j hj
 have hk := hM.k
 have hkz := hk.lt
 have hgyz := (hM.y.out.blk ka.gy (by simp [blks])).2
 refine we [(0, .pointer (some ⟨ka.gk, 0, none⟩)), (1, .int .i64 (ka.wd : Int)), (2, .int .u8 ((j : Int) + 1))] Tryz.func11 rfl Tryz.ntmps11 rfl (.cons rfl (.cons rfl (.cons rfl .nil))) ?_
 have hM0 := hM
 refine sr (bx rfl rfl rfl (fun g3 w1 hg3 hb3 q1 z1 => ?_))
 refine bx rfl rfl rfl (fun g5 w2 hg5 hb5 q2 z2 => ?_)
 refine asg rfl rfl (nn (sq (sq ?_)))
 replace hM := hM0.ext (q1.next q2)
 replace hk := hk.ext (q1.next q2)
 replace hb3 := hb3.ext q2
 intro a h
 refine region_heldP (some 9) (fun wb w' => Fr [] wb w') hmix ?_; intro w3 hq
 have z3 := hq.size
 replace hM := hM.ext hq
 replace hk := hk.ext hq
 replace hb3 := hb3.ext hq
 replace hb5 := hb5.ext hq
 have q3 := hq
 clear hq; have hC : Fr [] w3 w3 := Fr.refl _ _
 have hM_b := hM
 have hk_b := hk
 have hb3_b := hb3
 have hb5_b := hb5
 refine hd_loadB0 0 (by kernel_rfl) (by kernel_rfl) (by kernel_rfl) hC h wn rfl (fun _ hw => hb3_b.ext hw) na46 rfl rfl ?_; clear h a; intro a h
 refine hd_nilCheck 1 (by kernel_rfl) (by kernel_rfl) (by kernel_rfl) hC h wn rfl rfl rfl ?_; clear h a; intro a h
 refine hd_fieldAddr 2 (by kernel_rfl) (by kernel_rfl) (by kernel_rfl) hC h wn rfl fa50_0 rfl rfl ?_; clear h a; intro a h
 refine hd_loadB 3 (by kernel_rfl) (by kernel_rfl) (by kernel_rfl) hC h wn rfl (fun _ hw => hk_b.ext hw) rfl na47 rfl rfl ?_; clear h a; intro a h
 refine hd_loadB0 4 (by kernel_rfl) (by kernel_rfl) (by kernel_rfl) hC h wn rfl (fun _ hw => hb5_b.ext hw) na5 rfl rfl ?_; clear h a; intro a h
 refine hd_sub 5 (by kernel_rfl) (by kernel_rfl) (by kernel_rfl) hC h wn rfl rfl (by first | exact IntWalk.u8_in _ (by omega) | rfl) rfl rfl ?_; clear h a; intro a h
 refine hd_idxL (p := j) (yq0) 6 (by kernel_rfl) (by kernel_rfl) (by kernel_rfl) hC h wn rfl hM.y.out.sl rfl el47 (by omega) (by omega) (by omega) rfl rfl ?_; clear h a; intro ad17 hc17 a h
 refine hd_loadA 7 (by kernel_rfl) (by kernel_rfl) (by kernel_rfl) hC h wn rfl (fun _ hw => hc17 _ (hM_b.y.out.sl.ext hw)) ag75 rfl rfl ?_; clear h a; intro a h
 refine hd_one 8 (by kernel_rfl) rfl ?_
 refine st_alloc h zv75 rfl rfl ?_; clear h a; intro w4 hb7 hq hz a h
 obtain ⟨g_7, hg⟩ : ∃ g, g = w3.heap.size := ⟨_, rfl⟩; rw [← hg] at hb7 h hz
 have hn_.gk_7 : ka.gk < g_7 := by have := hk.lt; omega
 have hn__7 : g3 < g_7 := by have := hb3.lt; omega
 have hn__7 : g5 < g_7 := by have := hb5.lt; omega
 have z4 := hq.size
 replace hM := hM.ext hq
 replace hk := hk.ext hq
 replace hb3 := hb3.ext hq
 replace hb5 := hb5.ext hq
 replace hC := hC.next hq
 have q4 := hq
 clear hq
 refine hd_next hC ?_
 refine hd_one 9 (by kernel_rfl) rfl ?_
 refine st_storeBA h rfl rfl hb7 rfl (by first | (simp [Value.oneCell', S]; done) | exact Enc.one _ _ | exact encYq.one (ys.getD j yq0)) sz75 ?_; clear h a; intro w5 hbn hq hz a h
 have z5 := hq.size
 replace hk := hk.fr hq (by first | (simp; done) | (simp; omega) | (simp [blks]; done) | (simp [blks]; omega))
 replace hb3 := hb3.fr hq (by first | (simp; done) | (simp; omega) | (simp [blks]; done) | (simp [blks]; omega))
 replace hb5 := hb5.fr hq (by first | (simp; done) | (simp; omega) | (simp [blks]; done) | (simp [blks]; omega))
 have q5 := hq
 clear hb7 hq hz; have hb7 : Blk w5 g_7 _ [_, _, _, _, _] := hbn; clear hbn
 refine hd_past (by kernel_rfl) ?_
 refine hd_end (by kernel_rfl) ?_
 clear hC hM_b hk_b hb3_b hb5_b
 refine bk (h.sub (L' := [(1, _), (3, _), (5, _), (7, _)]) (.cons rfl (.cons rfl (.cons rfl (.cons rfl .nil))))) ?_; clear h a
 refine tn (sr (fad rfl fa75_0 rfl (s_loadB rfl hb7 rfl na4 rfl (nt' rfl rfl (nn ?_)))))
 refine cd rfl (fun c0 => ?_) (fun c0 => ?_)
 · have hej : en j = false := by
     cases e : en j with
     | false => rfl
     | true => rw [hyq, e] at c0; simp [yQ] at c0
   refine sr (s_loadBA rfl hb7 ag75 rfl ?_)
   replace hM := hM0.ext ((((q1.next q2).next q3).next q4).step q5 (by first | (simp; done) | (simp; omega)))
   refine cl (ev2 rfl rfl) co25 (yenter_ok (ys.getD j yq0) 0 _ (hM.y.ins j (by omega)).sl) rfl ?_
   rintro _ w6 ⟨q1, rfl, hen1, q6⟩
   have z6 := q6.size
   obtain rfl := hen1 (by rw [hyq, hej]; exact enE_new)
   have hzj := hen hej
   have hctq : (ys.getD j yq0).ct = 0 := by rw [hyq, hej]; rfl
   refine mv rfl rfl (xt rfl rfl rfl (xt rfl rfl rfl (al zv75 rfl rfl (fun g8 w7 hg8 hb8 q7 z7 => ?_))))
   refine s_storeBA (vs := [_, _, _, _, _]) rfl rfl hb8 (by rfl) (by first | (simp [Value.oneCell', S]; done) | exact Enc.one _ _ | exact encYq.one (ys.getD j yq0)) sz75 (fun w8 hb8 q8 z8 => ?_)
   refine asg rfl rfl (kpL [(1, _), (3, _), (5, _), (8, _), (9, _)] (.cons rfl (.cons rfl (.cons rfl (.cons rfl (.cons rfl .nil))))) (nn (sq (sr (mv rfl rfl (ne' rfl rfl rfl (nn ?_)))))))
   refine cd rfl (fun c1 => ?_) (fun c1 => ?_)
   · refine sr (mv rfl rfl (asg rfl rfl (kpL [(6, _)] (.cons rfl .nil) (nn (rt (tr (tr (r1 Tryz.results11 rfl ?_))))))))
     exact absurd (by rw [hyq, hej]; exact enE_new) c1
   · refine sk (tn ?_)
     replace hM := hM0.ext (((((((q1.next q2).next q3).next q4).step q5 (by first | (simp; done) | (simp; omega))).next q6).next q7).step q8 (by first | (simp; done) | (simp; omega)))
     replace hk := (hk.ext (q6.next q7)).fr q8 (by first | (simp; done) | (simp; omega) | (simp [blks]; done) | (simp [blks]; omega))
     replace hb3 := (hb3.ext (q6.next q7)).fr q8 (by first | (simp; done) | (simp; omega) | (simp [blks]; done) | (simp [blks]; omega))
     replace hb5 := (hb5.ext (q6.next q7)).fr q8 (by first | (simp; done) | (simp; omega) | (simp [blks]; done) | (simp [blks]; omega))
     intro a h
     refine region_heldP (some 8) (fun wb w' => Fr [] wb w') hmix ?_; intro w9 hq
     have z9 := hq.size
     replace hM := hM.ext hq
     replace hk := hk.ext hq
     replace hb3 := hb3.ext hq
     replace hb5 := hb5.ext hq
     replace hb8 := hb8.ext hq
     have q9 := hq
     clear hq; have hC : Fr [] w9 w9 := Fr.refl _ _
     have hM_b := hM
     have hk_b := hk
     have hb3_b := hb3
     have hb5_b := hb5
     have hb8_b := hb8
     refine hd_loadB0 0 (by kernel_rfl) (by kernel_rfl) (by kernel_rfl) hC h wn rfl (fun _ hw => hb3_b.ext hw) na46 rfl rfl ?_; clear h a; intro a h
     refine hd_nilCheck 1 (by kernel_rfl) (by kernel_rfl) (by kernel_rfl) hC h wn rfl rfl rfl ?_; clear h a; intro a h
     refine hd_fieldAddr 2 (by kernel_rfl) (by kernel_rfl) (by kernel_rfl) hC h wn rfl fa50_0 rfl rfl ?_; clear h a; intro a h
     refine hd_loadB 3 (by kernel_rfl) (by kernel_rfl) (by kernel_rfl) hC h wn rfl (fun _ hw => hk_b.ext hw) rfl na47 rfl rfl ?_; clear h a; intro a h
     refine hd_loadB0 4 (by kernel_rfl) (by kernel_rfl) (by kernel_rfl) hC h wn rfl (fun _ hw => hb5_b.ext hw) na5 rfl rfl ?_; clear h a; intro a h
     refine hd_sub 5 (by kernel_rfl) (by kernel_rfl) (by kernel_rfl) hC h wn rfl rfl (by first | exact IntWalk.u8_in _ (by omega) | rfl) rfl rfl ?_; clear h a; intro a h
     refine hd_loadBA 6 (by kernel_rfl) (by kernel_rfl) (by kernel_rfl) hC h wn rfl (fun _ hw => hb8_b.ext hw) ag75 rfl rfl ?_; clear h a; intro a h
     refine hd_idxS 7 (by kernel_rfl) (by kernel_rfl) (by kernel_rfl) hC (p := j) h wn rfl rfl el47 (by omega) (by omega) (by omega) rfl rfl ?_; clear h a; intro a h
     refine hd_one 8 (by kernel_rfl) rfl ?_
     refine st_storeO (i := j) (⟨true, -13, 0, true, sv0, []⟩ : YQ) h rfl rfl hM.y.out (by rw [hM.ly]; exact hj) (by rw [hctq]; rfl) sz75 ?_; clear h a; intro w10 ho_2 hq _hz a h
     replace hM := hM.yarn ktd hj ho_2 hq (Own.nil _)
     have hM0 := hM
     have hR2 := hR.enter hly hj hzj
     clear ho_2
     have z10 := hq.size
     replace hb3 := hb3.fr hq (by first | (simp; done) | (simp; omega) | (simp [blks]; done) | (simp [blks]; omega))
     replace hb5 := hb5.fr hq (by first | (simp; done) | (simp; omega) | (simp [blks]; done) | (simp [blks]; omega))
     replace hb8 := hb8.fr hq (by first | (simp; done) | (simp; omega) | (simp [blks]; done) | (simp [blks]; omega))
     have q10 := hq
     clear hq _hz
     refine hd_past (by kernel_rfl) ?_
     refine hd_end (by kernel_rfl) ?_
     clear hC hM_b hk_b hb3_b hb5_b hb8_b
     refine bk (h.sub (L' := [(1, _), (3, _), (5, _)]) (.cons rfl (.cons rfl (.cons rfl .nil)))) ?_; clear h a
     refine tn (sr (mv rfl rfl (s_makeFunc evs_nil (ev2 rfl rfl) rfl ?_)))
     refine cl (evs_cons rfl (evs_cons rfl (evs_cons rfl evs_nil))) co26 (half1_ok wS ka g3 g5 j f z s (fun i => if i = j then true else en i) _ ⟨_, ts, fs, bs, hM, hR2, hb3, hb5⟩ hj hz6 hf (by omega) hfl (if_pos rfl) hv) rfl ?_
     rintro _ w11 ⟨rfl, hI1⟩
     refine asg rfl rfl (nn (sq (sr (mv rfl rfl (ne' rfl rfl rfl (nn ?_))))))
     refine cd rfl (fun c2 => ?_) (fun c2 => ?_)
     · refine sr (mv rfl rfl (asg rfl rfl (kpL [(6, _)] (.cons rfl .nil) (nn (rt (tr (r1 Tryz.results11 rfl ?_)))))))
       exact absurd rfl (by assumption)
     · refine sk (tn (sr (mv rfl rfl (s_makeFunc evs_nil (ev2 rfl rfl) rfl ?_))))
       refine cl (evs_cons rfl (evs_cons rfl (evs_cons rfl evs_nil))) co26 (half2_ok wS ka g3 g5 j f z s (fun i => if i = j then true else en i) _ hI1 hj hz6 hf (by omega) hfl (if_pos rfl)) rfl ?_
       rintro _ w12 ⟨rfl, ys3, ts3, fs3, bs3, hM3, hR3, -, -⟩
       refine asg rfl rfl (kpL [(6, _)] (.cons rfl .nil) (nn (rt (r1 Tryz.results11 rfl ?_))))
       exact ⟨_, rfl, rfl, ys3, ts3, fs3, bs3, hM3, hR3.fin hw1⟩
 · have hej : en j = true := by
     cases e : en j with
     | true => rfl
     | false => rw [hyq, e] at c0; exact absurd rfl c0
   refine sk (tn (sr (mv rfl rfl (s_makeFunc evs_nil (ev2 rfl rfl) rfl ?_))))
   replace hM := hM0.ext ((((q1.next q2).next q3).next q4).step q5 (by first | (simp; done) | (simp; omega)))
   refine cl (evs_cons rfl (evs_cons rfl (evs_cons rfl evs_nil))) co26 (half1_ok wS ka g3 g5 j f z s (fun i => if i = j then true else en i) _ ⟨ys, ts, fs, bs, hM, hR.stay hej, hb3, hb5⟩ hj hz6 hf (by omega) hfl (if_pos rfl) hv) rfl ?_
   rintro _ w13 ⟨rfl, hI1⟩
   refine asg rfl rfl (nn (sq (sr (mv rfl rfl (ne' rfl rfl rfl (nn ?_))))))
   refine cd rfl (fun c2 => ?_) (fun c2 => ?_)
   · refine sr (mv rfl rfl (asg rfl rfl (kpL [(6, _)] (.cons rfl .nil) (nn (rt (tr (r1 Tryz.results11 rfl ?_)))))))
     exact absurd rfl (by assumption)
   · refine sk (tn (sr (mv rfl rfl (s_makeFunc evs_nil (ev2 rfl rfl) rfl ?_))))
     refine cl (evs_cons rfl (evs_cons rfl (evs_cons rfl evs_nil))) co26 (half2_ok wS ka g3 g5 j f z s (fun i => if i = j then true else en i) _ hI1 hj hz6 hf (by omega) hfl (if_pos rfl)) rfl ?_
     rintro _ w14 ⟨rfl, ys3, ts3, fs3, bs3, hM3, hR3, -, -⟩
     refine asg rfl rfl (kpL [(6, _)] (.cons rfl .nil) (nn (rt (r1 Tryz.results11 rfl ?_))))
     exact ⟨_, rfl, rfl, ys3, ts3, fs3, bs3, hM3, hR3.fin hw1⟩
end Go.Proofs.YtkionldalpijpaaGreatDoor
namespace Go.Proofs.YtkionldalpijpaaGreatDoor
open Go.Lw Go.G21
theorem el22 : ElemOf Tryz.prog 22 5 Enc.b 1 := ElemOf.mk' (z := (.int .u8 0)) Tryz.underlying22 (by kernel_rfl) rfl
theorem fa26_0 : FieldAt Tryz.prog 26 0 0 := fun _ _ => by kernel_rfl
theorem fa26_1 : FieldAt Tryz.prog 26 1 1 := fun _ _ => by kernel_rfl
theorem na22 : NotAgg Tryz.prog 22 := fun _ => by kernel_rfl
def BadAt (rs : List UInt8) (k : Nat) : Prop := (rs.getD k 0).toNat < 1 ∨ 6 < (rs.getD k 0).toNat
theorem bad_at {rs : List UInt8} {i : Nat} (h : i < rs.length) (hb : BadAt rs i) : badY rs = true := by
  unfold badY; exact List.any_eq_true.2 ⟨_, mem_getD h, decide_eq_true hb⟩
theorem bad_no {rs : List UInt8} (h : ∀ k, k < rs.length → ¬ BadAt rs k) : ¬ badY rs = true := fun e => by
  obtain ⟨y, hy, hd⟩ := List.any_eq_true.1 e
  obtain ⟨k, hk, rfl⟩ := List.getElem_of_mem hy
  exact h k hk (by unfold BadAt; rw [List.getD, List.getElem?_eq_getElem hk]; exact of_decide_eq_true hd)
theorem tcheck_ok (wd : Int) (v : Value) (rs : List UInt8) (w0 : World) (hs : Sl Enc.b w0 v rs) : Rets Tryz.prog 9 #[.agg #[.int .i64 wd, v]] w0 fun r w' => r = .int .i64 (tubE wd rs) ∧ Fr [] w0 w' := by
 obtain ⟨A, c, rfl, hcc, hM, hA⟩ := id hs
 clear hA
 unfold maxLen at hM
 refine we [(0, .agg #[.int .i64 wd, .slice A rs.length c])] Tryz.func9 rfl Tryz.ntmps9 rfl (.cons rfl .nil) ?_
 have hs0 := hs
 refine sr (bx rfl rfl rfl (fun g1 w1 hg1 hb1 q1 z1 => ?_))
 refine asg rfl rfl (nn (sq (sq ?_)))
 refine rbo (r := 13) (L' := [(1, _)]) (((16 < wd) ∨ (31 < (rs.length : Int)))) (.cons rfl .nil) ?_ ?_
 · refine fad rfl fa26_0 rfl (s_loadB rfl hb1 rfl na3 rfl (gt' rfl rfl rfl (mv rfl rfl ?_)))
   refine gs 8 rfl (fun g0 => ?_) (fun g0 => ?_)
   · exact gN rfl rfl rfl (gN rfl rfl rfl (gN rfl rfl rfl (gN rfl rfl rfl (pkt rfl rfl rfl rfl (rbe rfl (by first | exact bt (by omega) | exact bf (by omega) | exact bi (by omega) | exact bn (by omega) | (simp_all; done) | (simp_all; omega)) (.cons rfl .nil))))))
   · exact gY rfl (fad rfl fa26_1 rfl (gY rfl (s_loadB rfl hb1 rfl na22 rfl (gY rfl (lnS rfl Tryz.underlying22 rfl (gY rfl (gt' rfl rfl rfl (pkf rfl rfl rfl rfl (rbe rfl (by first | exact bt (by omega) | exact bf (by omega) | exact bi (by omega) | exact bn (by omega) | (simp_all; done) | (simp_all; omega)) (.cons rfl .nil))))))))))
 · refine tn ?_
   refine cd rfl (fun c0 => ?_) (fun c0 => ?_)
   · refine sr (asg rfl rfl (nn (rt (tr (r1 Tryz.results9 rfl ?_)))))
     exact ⟨_, rfl, by rw [tubE, if_pos (by omega)], q1⟩
   · refine sk (tn (sq (sq ?_)))
     refine rbo (r := 22) (L' := [(1, _)]) (((wd < 1) ∨ ((rs.length : Int) < 1))) (.cons rfl .nil) ?_ ?_
     · refine fad rfl fa26_0 rfl (s_loadB rfl hb1 rfl na3 rfl (lt' rfl rfl rfl (mv rfl rfl ?_)))
       refine gs 17 rfl (fun g1 => ?_) (fun g1 => ?_)
       · exact gN rfl rfl rfl (gN rfl rfl rfl (gN rfl rfl rfl (gN rfl rfl rfl (pkt rfl rfl rfl rfl (rbe rfl (by first | exact bt (by omega) | exact bf (by omega) | exact bi (by omega) | exact bn (by omega) | (simp_all; done) | (simp_all; omega)) (.cons rfl .nil))))))
       · exact gY rfl (fad rfl fa26_1 rfl (gY rfl (s_loadB rfl hb1 rfl na22 rfl (gY rfl (lnS rfl Tryz.underlying22 rfl (gY rfl (lt' rfl rfl rfl (pkf rfl rfl rfl rfl (rbe rfl (by first | exact bt (by omega) | exact bf (by omega) | exact bi (by omega) | exact bn (by omega) | (simp_all; done) | (simp_all; omega)) (.cons rfl .nil))))))))))
     · refine tn ?_
       refine cd rfl (fun c1 => ?_) (fun c1 => ?_)
       · refine sr (asg rfl rfl (nn (rt (tr (r1 Tryz.results9 rfl ?_)))))
         exact ⟨_, rfl, by rw [tubE, if_neg (by omega), if_pos (by omega)], q1⟩
       · refine sk (tn (sq (sr (fad rfl fa26_1 rfl (s_loadB rfl hb1 rfl na22 rfl (lnS rfl Tryz.underlying22 rfl (mv rfl rfl (nn (bl ?_)))))))))
         refine lpK (ι := Nat) [(24, _), (25, _)] (fun i => [(26, .int .i64 (i : Int))]) (fun i w' => Fr [] w1 w' ∧ i ≤ rs.length ∧ ∀ k, k < i → ¬ BadAt rs k) (fun i => rs.length - i) 0 (.cons rfl (.cons rfl (.cons rfl .nil))) ⟨Fr.refl _ _, ⟨Nat.zero_le _, fun k h => absurd h (by omega)⟩⟩ ?_
         rintro i w2 ⟨q2, ⟨hi, hg⟩⟩
         have z2 := q2.size
         refine kpC [(24, _), (25, _), (26, _)] (.cons rfl (.cons rfl (.cons rfl .nil))) ?_
         refine sr (lt' rfl rfl rfl (nn (sq ?_)))
         refine cd rfl (fun c2 => ?_) (fun c2 => ?_)
         · refine sk (tn (sq (bl (sr ?_))))
           replace hs := hs0.ext (q1.next q2)
           refine s_idxL (p := i) ((0 : UInt8)) rfl hs rfl el22 (by omega) (by omega) (by omega) rfl (fun ad28 hc28 => ?_)
           refine s_loadC0 rfl (hc28 _ hs) na5 rfl (asg rfl rfl (nn (sq ?_)))
           refine rbo (r := 35) (L' := [(24, _), (25, _), (26, _)]) (((((rs.getD i 0).toNat : Int) < 1) ∨ (6 < ((rs.getD i 0).toNat : Int)))) (.cons rfl (.cons rfl (.cons rfl .nil))) ?_ ?_
           · refine mv rfl rfl (lt' rfl rfl rfl (mv rfl rfl ?_))
             refine gs 32 rfl (fun g2 => ?_) (fun g2 => ?_)
             · exact gN rfl rfl rfl (gN rfl rfl rfl (pkt rfl rfl rfl rfl (rbe rfl (by first | exact bt (by omega) | exact bf (by omega) | exact bi (by omega) | exact bn (by omega) | (simp_all; done) | (simp_all; omega)) (.cons rfl (.cons rfl (.cons rfl .nil))))))
             · exact gY rfl (mv rfl rfl (gY rfl (gt' rfl rfl rfl (pkf rfl rfl rfl rfl (rbe rfl (by first | exact bt (by omega) | exact bf (by omega) | exact bi (by omega) | exact bn (by omega) | (simp_all; done) | (simp_all; omega)) (.cons rfl (.cons rfl (.cons rfl .nil))))))))
           · refine tn ?_
             refine cd rfl (fun c3 => ?_) (fun c3 => ?_)
             · refine sr (asg rfl rfl (nn (rt (rb (tr (tr (rb (tr (r1 Tryz.results9 rfl ?_)))))))))
               exact ⟨_, rfl, by rw [tubE, if_neg (by omega), if_neg (by omega), if_pos (bad_at (i := i) (by omega) (by unfold BadAt; omega))], (q1.next q2)⟩
             · refine sk (bn' (tn (rg (s_add rfl rfl (wi6 (by omega)) rfl (mv rfl rfl (nl ?_))))))
               exact lpE (i + 1) (.cons rfl (.cons rfl (.cons rfl .nil))) ⟨q2, ⟨by omega, fun k h => by
                   by_cases e : k < i
                   · exact hg k e
                   · obtain rfl : k = i := by omega
                     unfold BadAt; omega⟩⟩ (by omega)
         · obtain rfl : i = rs.length := by omega
           refine ex (te (te (xh (tn (sr (asg rfl rfl (nn (rt (r1 Tryz.results9 rfl ?_)))))))))
           exact ⟨_, rfl, by rw [tubE, if_neg (by omega), if_neg (by omega), if_neg (bad_no hg)], (q1.next q2)⟩
end Go.Proofs.YtkionldalpijpaaGreatDoor
namespace Go.Proofs.YtkionldalpijpaaGreatDoor
open Go.Lw Go.G21

def dT (n : Int) : List UInt8 := dec0 n.toNat
theorem dT_le (n : Int) : (dT n).length ≤ 2 := by unfold dT dec0; split <;> simp
end Go.Proofs.YtkionldalpijpaaGreatDoor
namespace Go.Proofs.YtkionldalpijpaaGreatDoor
open Go.Lw Go.G21

theorem ext_getD {α : Type} {d : α} {xs ys : List α} (hl : xs.length = ys.length) (h : ∀ k, k < xs.length → xs.getD k d = ys.getD k d) : xs = ys := by
  refine List.ext_getElem hl fun k h1 h2 => ?_
  have := h k h1
  rwa [List.getD, List.getD, List.getElem?_eq_getElem h1, List.getElem?_eq_getElem h2] at this
theorem names_ok (u v : Value) (xs ys : List LId) (w0 : World) (hs : Sl encId w0 u xs) (ht : Sl encId w0 v ys) : Rets Tryz.prog 38 #[u, v] w0 fun r w' => r = .int .i64 (if xs = ys then 0 else 1) ∧ Fr [] w0 w' := by
 obtain ⟨A, c, rfl, hcc, hM, hA⟩ := id hs
 obtain ⟨A2, c2, rfl, hcc2, hM2, hA2⟩ := id ht
 clear hA hA2
 unfold maxLen at hM hM2
 refine we [(0, .slice A xs.length c), (1, .slice A2 ys.length c2)] Tryz.func38 rfl Tryz.ntmps38 rfl (.cons rfl (.cons rfl .nil)) ?_
 have hs0 := hs
 have ht0 := ht
 refine sr (asg rfl rfl (nn (sq (sr (mv rfl rfl (lnS rfl Tryz.underlying31 rfl (mv rfl rfl (lnS rfl Tryz.underlying31 rfl (ne' rfl rfl rfl (nn ?_))))))))))
 refine cd rfl (fun c0 => ?_) (fun c0 => ?_)
 · refine sr (asg rfl rfl (nn (rt (tr (r1 Tryz.results38 rfl ?_)))))
   exact ⟨_, rfl, by rw [if_neg (fun e => by rw [e] at c0; omega)], (Fr.refl _ _)⟩
 · refine sk (tn (sq (sr (asg rfl rfl (nn (bl ?_))))))
   refine lpK (ι := Nat) [(0, _), (1, _)] (fun i => [(5, .int .i64 (i : Int))]) (fun i w' => Fr [] w0 w' ∧ i ≤ xs.length ∧ ∀ k, k < i → xs.getD k id0 = ys.getD k id0) (fun i => xs.length - i) 0 (.cons rfl (.cons rfl (.cons rfl .nil))) ⟨Fr.refl _ _, ⟨Nat.zero_le _, fun k h => absurd h (by omega)⟩⟩ ?_
   rintro i w1 ⟨q1, ⟨hi, hg⟩⟩
   have z1 := q1.size
   refine kpC [(0, _), (1, _), (5, _)] (.cons rfl (.cons rfl (.cons rfl .nil))) ?_
   refine sq (sr (mv rfl rfl (mv rfl rfl (lnS rfl Tryz.underlying31 rfl (lt' rfl rfl rfl (nn ?_))))))
   refine cd rfl (fun c1 => ?_) (fun c1 => ?_)
   · refine sk (tn (sq (bl (sq ?_))))
     replace hs := hs0.ext q1
     replace ht := ht0.ext q1
     intro a h
     refine region_heldP none (fun wb w' => Fr [] wb w') hmix ?_; intro w2 hq
     have z2 := hq.size
     replace hs := hs.ext hq
     replace ht := ht.ext hq
     have q2 := hq
     clear hq; have hC : Fr [] w2 w2 := Fr.refl _ _
     have hs_b := hs
     have ht_b := ht
     refine hd_move 0 (by kernel_rfl) (by kernel_rfl) (by kernel_rfl) hC h wn rfl rfl rfl ?_; clear h a; intro a h
     refine hd_move 1 (by kernel_rfl) (by kernel_rfl) (by kernel_rfl) hC h wn rfl rfl rfl ?_; clear h a; intro a h
     refine hd_idxL (p := i) (id0) 2 (by kernel_rfl) (by kernel_rfl) (by kernel_rfl) hC h wn rfl hs rfl el31 (by omega) (by omega) (by omega) rfl rfl ?_; clear h a; intro ad19 hc19 a h
     refine hd_loadA 3 (by kernel_rfl) (by kernel_rfl) (by kernel_rfl) hC h wn rfl (fun _ hw => hc19 _ (hs_b.ext hw)) ag39 rfl rfl ?_; clear h a; intro a h
     refine hd_move 4 (by kernel_rfl) (by kernel_rfl) (by kernel_rfl) hC h wn rfl rfl rfl ?_; clear h a; intro a h
     refine hd_move 5 (by kernel_rfl) (by kernel_rfl) (by kernel_rfl) hC h wn rfl rfl rfl ?_; clear h a; intro a h
     refine hd_idxL (p := i) (id0) 6 (by kernel_rfl) (by kernel_rfl) (by kernel_rfl) hC h wn rfl ht rfl el31 (by omega) (by omega) (by omega) rfl rfl ?_; clear h a; intro ad23 hc23 a h
     refine hd_loadA 7 (by kernel_rfl) (by kernel_rfl) (by kernel_rfl) hC h wn rfl (fun _ hw => hc23 _ (ht_b.ext hw)) ag39 rfl rfl ?_; clear h a; intro a h
     refine hd_neV (V := idV) (e := (xs.getD i id0)) (f := (ys.getD i id0)) 8 (by kernel_rfl) (by kernel_rfl) (by kernel_rfl) hC h wn rfl rfl eqId rfl rfl ?_; clear h a; intro a h
     refine hd_end (by kernel_rfl) ?_
     clear hC hs_b ht_b
     refine bk (h.sub (L' := [(0, _), (1, _), (5, _), (25, _)]) (.cons rfl (.cons rfl (.cons rfl (.cons rfl .nil))))) ?_; clear h a
     refine tn ?_
     refine cd rfl (fun c2 => ?_) (fun c2 => ?_)
     · refine sr (asg rfl rfl (nn (rt (rb (tr (tr (rb (tr (r1 Tryz.results38 rfl ?_)))))))))
       exact ⟨_, rfl, by rw [if_neg (fun e => by rw [e] at c2; exact c2 rfl)], (q1.next q2)⟩
     · refine sk (bn' (tn (rg (mv rfl rfl (s_add rfl rfl (wi6 (by omega)) rfl (asg rfl rfl (nl ?_)))))))
       exact lpE (i + 1) (.cons rfl (.cons rfl (.cons rfl .nil))) ⟨(q1.next q2), ⟨by omega, fun k h => by
           by_cases e : k < i
           · exact hg k e
           · obtain rfl : k = i := by omega
             exact Classical.not_not.1 (by assumption)⟩⟩ (by omega)
   · obtain rfl : i = xs.length := by omega
     refine ex (te (te (xh (tn (sr (asg rfl rfl (nn (rt (r1 Tryz.results38 rfl ?_)))))))))
     exact ⟨_, rfl, by rw [if_pos (ext_getD (by omega) (fun k hk => hg k (by omega)))], q1⟩
theorem passes_ok (u v : Value) (xs ys : List Pa) (w0 : World) (hs : Sl encPa w0 u xs) (ht : Sl encPa w0 v ys) : Rets Tryz.prog 39 #[u, v] w0 fun r w' => r = .int .i64 (if xs = ys then 0 else 1) ∧ Fr [] w0 w' := by
 obtain ⟨A, c, rfl, hcc, hM, hA⟩ := id hs
 obtain ⟨A2, c2, rfl, hcc2, hM2, hA2⟩ := id ht
 clear hA hA2
 unfold maxLen at hM hM2
 refine we [(0, .slice A xs.length c), (1, .slice A2 ys.length c2)] Tryz.func39 rfl Tryz.ntmps39 rfl (.cons rfl (.cons rfl .nil)) ?_
 have hs0 := hs
 have ht0 := ht
 refine sr (asg rfl rfl (nn (sq (sr (mv rfl rfl (lnS rfl Tryz.underlying56 rfl (mv rfl rfl (lnS rfl Tryz.underlying56 rfl (ne' rfl rfl rfl (nn ?_))))))))))
 refine cd rfl (fun c0 => ?_) (fun c0 => ?_)
 · refine sr (asg rfl rfl (nn (rt (tr (r1 Tryz.results39 rfl ?_)))))
   exact ⟨_, rfl, by rw [if_neg (fun e => by rw [e] at c0; omega)], (Fr.refl _ _)⟩
 · refine sk (tn (sq (sr (asg rfl rfl (nn (bl ?_))))))
   refine lpK (ι := Nat) [(0, _), (1, _)] (fun i => [(5, .int .i64 (i : Int))]) (fun i w' => Fr [] w0 w' ∧ i ≤ xs.length ∧ ∀ k, k < i → xs.getD k pa0 = ys.getD k pa0) (fun i => xs.length - i) 0 (.cons rfl (.cons rfl (.cons rfl .nil))) ⟨Fr.refl _ _, ⟨Nat.zero_le _, fun k h => absurd h (by omega)⟩⟩ ?_
   rintro i w1 ⟨q1, ⟨hi, hg⟩⟩
   have z1 := q1.size
   refine kpC [(0, _), (1, _), (5, _)] (.cons rfl (.cons rfl (.cons rfl .nil))) ?_
   refine sq (sr (mv rfl rfl (mv rfl rfl (lnS rfl Tryz.underlying56 rfl (lt' rfl rfl rfl (nn ?_))))))
   refine cd rfl (fun c1 => ?_) (fun c1 => ?_)
   · refine sk (tn (sq (bl (sq ?_))))
     replace hs := hs0.ext q1
     replace ht := ht0.ext q1
     intro a h
     refine region_heldP none (fun wb w' => Fr [] wb w') hmix ?_; intro w2 hq
     have z2 := hq.size
     replace hs := hs.ext hq
     replace ht := ht.ext hq
     have q2 := hq
     clear hq; have hC : Fr [] w2 w2 := Fr.refl _ _
     have hs_b := hs
     have ht_b := ht
     refine hd_move 0 (by kernel_rfl) (by kernel_rfl) (by kernel_rfl) hC h wn rfl rfl rfl ?_; clear h a; intro a h
     refine hd_move 1 (by kernel_rfl) (by kernel_rfl) (by kernel_rfl) hC h wn rfl rfl rfl ?_; clear h a; intro a h
     refine hd_idxL (p := i) (pa0) 2 (by kernel_rfl) (by kernel_rfl) (by kernel_rfl) hC h wn rfl hs rfl el56 (by omega) (by omega) (by omega) rfl rfl ?_; clear h a; intro ad19 hc19 a h
     refine hd_loadA 3 (by kernel_rfl) (by kernel_rfl) (by kernel_rfl) hC h wn rfl (fun _ hw => hc19 _ (hs_b.ext hw)) ag65 rfl rfl ?_; clear h a; intro a h
     refine hd_move 4 (by kernel_rfl) (by kernel_rfl) (by kernel_rfl) hC h wn rfl rfl rfl ?_; clear h a; intro a h
     refine hd_move 5 (by kernel_rfl) (by kernel_rfl) (by kernel_rfl) hC h wn rfl rfl rfl ?_; clear h a; intro a h
     refine hd_idxL (p := i) (pa0) 6 (by kernel_rfl) (by kernel_rfl) (by kernel_rfl) hC h wn rfl ht rfl el56 (by omega) (by omega) (by omega) rfl rfl ?_; clear h a; intro ad23 hc23 a h
     refine hd_loadA 7 (by kernel_rfl) (by kernel_rfl) (by kernel_rfl) hC h wn rfl (fun _ hw => hc23 _ (ht_b.ext hw)) ag65 rfl rfl ?_; clear h a; intro a h
     refine hd_neV (V := paV) (e := (xs.getD i pa0)) (f := (ys.getD i pa0)) 8 (by kernel_rfl) (by kernel_rfl) (by kernel_rfl) hC h wn rfl rfl eqPa rfl rfl ?_; clear h a; intro a h
     refine hd_end (by kernel_rfl) ?_
     clear hC hs_b ht_b
     refine bk (h.sub (L' := [(0, _), (1, _), (5, _), (25, _)]) (.cons rfl (.cons rfl (.cons rfl (.cons rfl .nil))))) ?_; clear h a
     refine tn ?_
     refine cd rfl (fun c2 => ?_) (fun c2 => ?_)
     · refine sr (asg rfl rfl (nn (rt (rb (tr (tr (rb (tr (r1 Tryz.results39 rfl ?_)))))))))
       exact ⟨_, rfl, by rw [if_neg (fun e => by rw [e] at c2; exact c2 rfl)], (q1.next q2)⟩
     · refine sk (bn' (tn (rg (mv rfl rfl (s_add rfl rfl (wi6 (by omega)) rfl (asg rfl rfl (nl ?_)))))))
       exact lpE (i + 1) (.cons rfl (.cons rfl (.cons rfl .nil))) ⟨(q1.next q2), ⟨by omega, fun k h => by
           by_cases e : k < i
           · exact hg k e
           · obtain rfl : k = i := by omega
             exact Classical.not_not.1 (by assumption)⟩⟩ (by omega)
   · obtain rfl : i = xs.length := by omega
     refine ex (te (te (xh (tn (sr (asg rfl rfl (nn (rt (r1 Tryz.results39 rfl ?_)))))))))
     exact ⟨_, rfl, by rw [if_pos (ext_getD (by omega) (fun k hk => hg k (by omega)))], q1⟩
end Go.Proofs.YtkionldalpijpaaGreatDoor
namespace Go.Proofs.YtkionldalpijpaaGreatDoor
open Go.Lw Go.G21

def cxV (c : Cx) : Value := .agg (cxL c).toArray
theorem eqCx : EqOf Tryz.prog 89 cxV := by
  intro e f ox oy w
  have hg : ∀ op, (eqGuard op 89 ox oy (cxV e) (cxV f)).run Tryz.prog w = .ok () w := fun op => run_eqGuard_agg w op 89 ox oy _ _ (by kernel_rfl)
  have h1 : Tryz.prog.stoodInHeld 89 = false := by kernel_rfl
  obtain ⟨⟨y, n⟩, ⟨y2, n2⟩, k⟩ := e
  obtain ⟨⟨y', n'⟩, ⟨y2', n2'⟩, k'⟩ := f
  refine ⟨hg _, hg _, ?_, ?_⟩
  · unfold cxV
    simp [go_sem, h1, Tryz.underlying89]
    (repeat' split) <;> simp_all
  · unfold cxV
    simp [go_sem, h1, Tryz.underlying89]
    (repeat' split) <;> simp_all
end Go.Proofs.YtkionldalpijpaaGreatDoor
namespace Go.Proofs.YtkionldalpijpaaGreatDoor
open Go.Lw Go.G21
theorem ag89 : AggOf Tryz.prog 89 5 := ⟨fun _ => by kernel_rfl, fun _ => by kernel_rfl⟩
theorem co38 : CallOf Tryz.prog 38 := CallOf.mk' Tryz.func38 (by kernel_rfl) (by kernel_rfl)
theorem co39 : CallOf Tryz.prog 39 := CallOf.mk' Tryz.func39 (by kernel_rfl) (by kernel_rfl)
theorem el30 : ElemOf Tryz.prog 30 89 encCx 40 := ElemOf.mk' (z := (.agg #[.int .u8 0, .int .i64 0, .int .u8 0, .int .i64 0, .int .i64 0])) Tryz.underlying30 (by kernel_rfl) rfl
theorem fa33_0 : FieldAt Tryz.prog 33 0 0 := fun _ _ => by kernel_rfl
theorem fa33_1 : FieldAt Tryz.prog 33 1 1 := fun _ _ => by kernel_rfl
theorem fa33_2 : FieldAt Tryz.prog 33 2 2 := fun _ _ => by kernel_rfl
theorem fa33_3 : FieldAt Tryz.prog 33 3 3 := fun _ _ => by kernel_rfl
theorem fa58_0 : FieldAt Tryz.prog 58 0 0 := fun _ _ => by kernel_rfl
theorem fa58_1 : FieldAt Tryz.prog 58 1 1 := fun _ _ => by kernel_rfl
theorem fa58_2 : FieldAt Tryz.prog 58 2 2 := fun _ _ => by kernel_rfl
theorem fa58_3 : FieldAt Tryz.prog 58 3 3 := fun _ _ => by kernel_rfl
theorem na30 : NotAgg Tryz.prog 30 := fun _ => by kernel_rfl
theorem fab_row {fa fc : FbQ} (he : fa.p = fc.p) (i : Nat) : (fa.ts.getD i tq0).2.map LpQ.p = (fc.ts.getD i tq0).2.map LpQ.p := by
  have e : tabP fa.ts = tabP fc.ts := congrArg Fb.t he
  have h := congrArg (fun t : List (List Lp) => t.getD i []) e
  have g : ∀ ts : List TQ, (tabP ts).getD i [] = (ts.getD i tq0).2.map LpQ.p := fun ts => by
    rcases Nat.lt_or_ge i ts.length with h | h
    · exact map_getD' (fun p : TQ => p.2.map LpQ.p) ts i tq0 [] h
    · rw [List.getD, List.getElem?_eq_none (by simpa [tabP] using h), List.getD, List.getElem?_eq_none h]; rfl
  simp only [g] at h; exact h
theorem fab_lp {fa fc : FbQ} (he : fa.p = fc.p) (i k : Nat) : ((fa.ts.getD i tq0).2.getD k lq0).p = ((fc.ts.getD i tq0).2.getD k lq0).p := by
  have e := fab_row he i
  have h := congrArg (fun t : List Lp => t.getD k lq0.p) e
  have g : ∀ ls : List LpQ, (ls.map LpQ.p).getD k lq0.p = (ls.getD k lq0).p := fun ls => by
    rw [List.getD, List.getElem?_map, List.getD]; cases ls[k]? <;> rfl
  simp only [g] at h; exact h
theorem lps_at {w : World} {q : FbQ} (h : FbAt w q) {i k : Nat} (hi : i < q.ts.length) (hk : k < (q.ts.getD i tq0).2.length) : LpAt w ((q.ts.getD i tq0).2.getD k lq0) := (h.tt _ (mem_getD hi)).2 _ (mem_getD hk)
set_option maxHeartbeats 2000000 in
theorem fabrics_ok (fa fc : FbQ) (w0 : World) (h1 : FbAt w0 fa) (h2 : FbAt w0 fc) (he : fa.p = fc.p) : Rets Tryz.prog 20 #[.agg #[.slice fa.t.1 fa.t.2.1 fa.t.2.2, .slice fa.c.1 fa.c.2.1 fa.c.2.2, .slice fa.h.1 fa.h.2.1 fa.h.2.2, .slice fa.f.1 fa.f.2.1 fa.f.2.2], .agg #[.slice fc.t.1 fc.t.2.1 fc.t.2.2, .slice fc.c.1 fc.c.2.1 fc.c.2.2, .slice fc.h.1 fc.h.2.1 fc.h.2.2, .slice fc.f.1 fc.f.2.1 fc.f.2.2]] w0 fun r w' => r = .int .i64 0 ∧ Fr [] w0 w' := by
 have hl1 := h1.len
 have hl2 := h2.len
 have e1 := congrArg (fun f : Fb => f.t.length) he
 have e2 := congrArg (fun f : Fb => f.c) he
 have e3 := congrArg (fun f : Fb => f.h) he
 have e4 := congrArg (fun f : Fb => f.f) he
 simp only [List.length_map] at e1 e2 e3 e4
 have e2l := congrArg List.length e2
 have hM1 := h1.t.len_le
 have hM2 := h1.c.len_le
 unfold maxLen at hM1 hM2
 refine we [(0, .agg #[.slice fa.t.1 fa.t.2.1 fa.t.2.2, .slice fa.c.1 fa.c.2.1 fa.c.2.2, .slice fa.h.1 fa.h.2.1 fa.h.2.2, .slice fa.f.1 fa.f.2.1 fa.f.2.2]), (1, .agg #[.slice fc.t.1 fc.t.2.1 fc.t.2.2, .slice fc.c.1 fc.c.2.1 fc.c.2.2, .slice fc.h.1 fc.h.2.1 fc.h.2.2, .slice fc.f.1 fc.f.2.1 fc.f.2.2])] Tryz.func20 rfl Tryz.ntmps20 rfl (.cons rfl (.cons rfl .nil)) ?_
 have h10 := h1
 have h20 := h2
 refine sr (bx rfl rfl rfl (fun g2 w1 hg2 hb2 q1 z1 => ?_))
 refine bx rfl rfl rfl (fun g3 w2 hg3 hb3 q2 z2 => ?_)
 refine asg rfl rfl (nn (sq (sq ?_)))
 refine rboF (r := 41) (L' := [(2, _), (3, _)]) ((((((fa.t.2.1 : Int) ≠ (fc.t.2.1 : Int)) ∨ ((fa.c.2.1 : Int) ≠ (fc.c.2.1 : Int))) ∨ ((if fa.hs = fc.hs then (0 : Int) else 1) ≠ 0)) ∨ ((if fa.fs = fc.fs then (0 : Int) else 1) ≠ 0))) (.cons rfl (.cons rfl .nil)) ?_ ?_
 · refine fad rfl fa33_0 rfl ?_
   replace hb2 := hb2.ext q2
   refine s_loadB rfl hb2 rfl na29 rfl (lnS rfl Tryz.underlying29 rfl (fad rfl fa33_0 rfl (s_loadB rfl hb3 rfl na29 rfl (lnS rfl Tryz.underlying29 rfl (ne' rfl rfl rfl (mv rfl rfl ?_))))))
   refine gs 17 rfl (fun g0 => ?_) (fun g0 => ?_)
   · refine gN rfl rfl rfl (gN rfl rfl rfl (gN rfl rfl rfl (gN rfl rfl rfl (gN rfl rfl rfl (gN rfl rfl rfl (gN rfl rfl rfl (pkt rfl rfl rfl rfl (mv rfl rfl (gN rfl rfl rfl (gN rfl rfl rfl (gN rfl rfl rfl ?_)))))))))))
     refine gN rfl rfl rfl (gN rfl rfl rfl (gN rfl rfl rfl (pkt rfl rfl rfl rfl (mv rfl rfl (gN rfl rfl rfl (gN rfl rfl rfl (gN rfl rfl rfl (gN rfl rfl rfl (gN rfl rfl rfl (gN rfl rfl rfl (pkt rfl rfl rfl rfl ?_)))))))))))
     exact rbeF rfl (by first | exact bt (by omega) | exact bf (by omega) | exact bi (by omega) | exact bn (by omega) | (simp_all; done) | (simp_all; omega)) (.cons rfl (.cons rfl .nil)) (Fr.refl _ _)
   · refine gY rfl (fad rfl fa33_1 rfl (gY rfl (s_loadB rfl hb2 rfl na30 rfl (gY rfl (lnS rfl Tryz.underlying30 rfl (gY rfl (fad rfl fa33_1 rfl (gY rfl (s_loadB rfl hb3 rfl na30 rfl (gY rfl (lnS rfl Tryz.underlying30 rfl ?_)))))))))))
     refine gY rfl (ne' rfl rfl rfl (pkf rfl rfl rfl rfl (mv rfl rfl ?_)))
     refine gs 26 rfl (fun g1 => ?_) (fun g1 => ?_)
     · refine gN rfl rfl rfl (gN rfl rfl rfl (gN rfl rfl rfl (gN rfl rfl rfl (gN rfl rfl rfl (gN rfl rfl rfl (pkt rfl rfl rfl rfl (mv rfl rfl (gN rfl rfl rfl (gN rfl rfl rfl (gN rfl rfl rfl (gN rfl rfl rfl ?_)))))))))))
       exact gN rfl rfl rfl (gN rfl rfl rfl (pkt rfl rfl rfl rfl (rbeF rfl (by first | exact bt (by omega) | exact bf (by omega) | exact bi (by omega) | exact bn (by omega) | (simp_all; done) | (simp_all; omega)) (.cons rfl (.cons rfl .nil)) (Fr.refl _ _))))
     · refine gY rfl (fad rfl fa33_2 rfl (gY rfl (s_loadB rfl hb2 rfl na31 rfl (gY rfl (fad rfl fa33_2 rfl (gY rfl (s_loadB rfl hb3 rfl na31 rfl (gY rfl ?_))))))))
       replace h1 := h10.ext (q1.next q2)
       replace h2 := h20.ext (q1.next q2)
       refine cl (ev2 rfl rfl) co38 (names_ok _ _ fa.hs fc.hs _ h1.h h2.h) rfl ?_
       rintro _ w3 ⟨rfl, q3⟩
       have z3 := q3.size
       refine gY rfl (ne' rfl rfl rfl (pkf rfl rfl rfl rfl (mv rfl rfl ?_)))
       refine gs 34 rfl (fun g2 => ?_) (fun g2 => ?_)
       · exact gN rfl rfl rfl (gN rfl rfl rfl (gN rfl rfl rfl (gN rfl rfl rfl (gN rfl rfl rfl (gN rfl rfl rfl (pkt rfl rfl rfl rfl (rbeF rfl (by first | exact bt (by omega) | exact bf (by omega) | exact bi (by omega) | exact bn (by omega) | (simp_all; done) | (simp_all; omega)) (.cons rfl (.cons rfl .nil)) q3)))))))
       · refine gY rfl (fad rfl fa33_3 rfl (gY rfl ?_))
         replace hb2 := hb2.ext q3
         refine s_loadB rfl hb2 rfl na31 rfl (gY rfl (fad rfl fa33_3 rfl (gY rfl ?_)))
         replace hb3 := hb3.ext q3
         refine s_loadB rfl hb3 rfl na31 rfl (gY rfl ?_)
         replace h1 := h10.ext ((q1.next q2).next q3)
         replace h2 := h20.ext ((q1.next q2).next q3)
         refine cl (ev2 rfl rfl) co38 (names_ok _ _ fa.fs fc.fs _ h1.f h2.f) rfl ?_
         rintro _ w4 ⟨rfl, q4⟩
         have z4 := q4.size
         exact gY rfl (ne' rfl rfl rfl (pkf rfl rfl rfl rfl (rbeF rfl (by first | exact bt (by omega) | exact bf (by omega) | exact bi (by omega) | exact bn (by omega) | (simp_all; done) | (simp_all; omega)) (.cons rfl (.cons rfl .nil)) (q3.next q4))))
 · intro w5 q5; have z5 := q5.size
   refine tn ?_
   refine cd rfl (fun c0 => ?_) (fun c0 => ?_)
   · refine sr (asg rfl rfl (nn (rt (tr (r1 Tryz.results20 rfl ?_)))))
     exact absurd c0 (by rw [e3, e4, if_pos rfl, if_pos rfl]; omega)
   · refine sk (tn (sq (sr (asg rfl rfl (nn (bl ?_))))))
     refine lpK (ι := Nat) [(2, _), (3, _)] (fun i => [(5, .int .i64 (i : Int))]) (fun i w' => Fr [] w5 w' ∧ i ≤ fa.cs.length) (fun i => fa.cs.length - i) 0 (.cons rfl (.cons rfl (.cons rfl .nil))) ⟨Fr.refl _ _, Nat.zero_le _⟩ ?_
     rintro i w6 ⟨q6, hi⟩
     have z6 := q6.size
     refine kpC [(2, _), (3, _), (5, _)] (.cons rfl (.cons rfl (.cons rfl .nil))) ?_
     refine sq (sr (mv rfl rfl (fad rfl fa33_1 rfl ?_)))
     replace hb2 := hb2.ext ((q2.next q5).next q6)
     refine s_loadB rfl hb2 rfl na30 rfl (lnS rfl Tryz.underlying30 rfl (lt' rfl rfl rfl (nn ?_)))
     refine cd rfl (fun c1 => ?_) (fun c1 => ?_)
     · refine sk (tn (sq (bl (sq ?_))))
       replace h1 := h10.ext (((q1.next q2).next q5).next q6)
       replace h2 := h20.ext (((q1.next q2).next q5).next q6)
       replace hb3 := hb3.ext (q5.next q6)
       intro a h
       refine region_heldP none (fun wb w' => Fr [] wb w') hmix ?_; intro w7 hq
       have z7 := hq.size
       replace h1 := h1.ext hq
       replace h2 := h2.ext hq
       replace hb2 := hb2.ext hq
       replace hb3 := hb3.ext hq
       have q7 := hq
       clear hq; have hC : Fr [] w7 w7 := Fr.refl _ _
       have h1_b := h1
       have h2_b := h2
       have hb2_b := hb2
       have hb3_b := hb3
       refine hd_fieldAddr 0 (by kernel_rfl) (by kernel_rfl) (by kernel_rfl) hC h wn rfl fa33_1 rfl rfl ?_; clear h a; intro a h
       refine hd_loadB 1 (by kernel_rfl) (by kernel_rfl) (by kernel_rfl) hC h wn rfl (fun _ hw => hb2_b.ext hw) rfl na30 rfl rfl ?_; clear h a; intro a h
       refine hd_move 2 (by kernel_rfl) (by kernel_rfl) (by kernel_rfl) hC h wn rfl rfl rfl ?_; clear h a; intro a h
       refine hd_idxL (p := i) (cx0) 3 (by kernel_rfl) (by kernel_rfl) (by kernel_rfl) hC h wn rfl h1.c rfl el30 (by omega) (by omega) (by omega) rfl rfl ?_; clear h a; intro ad52 hc52 a h
       refine hd_loadA 4 (by kernel_rfl) (by kernel_rfl) (by kernel_rfl) hC h wn rfl (fun _ hw => hc52 _ (h1_b.c.ext hw)) ag89 rfl rfl ?_; clear h a; intro a h
       refine hd_fieldAddr 5 (by kernel_rfl) (by kernel_rfl) (by kernel_rfl) hC h wn rfl fa33_1 rfl rfl ?_; clear h a; intro a h
       refine hd_loadB 6 (by kernel_rfl) (by kernel_rfl) (by kernel_rfl) hC h wn rfl (fun _ hw => hb3_b.ext hw) rfl na30 rfl rfl ?_; clear h a; intro a h
       refine hd_move 7 (by kernel_rfl) (by kernel_rfl) (by kernel_rfl) hC h wn rfl rfl rfl ?_; clear h a; intro a h
       refine hd_idxL (p := i) (cx0) 8 (by kernel_rfl) (by kernel_rfl) (by kernel_rfl) hC h wn rfl h2.c rfl el30 (by omega) (by omega) (by omega) rfl rfl ?_; clear h a; intro ad57 hc57 a h
       refine hd_loadA 9 (by kernel_rfl) (by kernel_rfl) (by kernel_rfl) hC h wn rfl (fun _ hw => hc57 _ (h2_b.c.ext hw)) ag89 rfl rfl ?_; clear h a; intro a h
       refine hd_neV (V := cxV) (e := (fa.cs.getD i cx0)) (f := (fc.cs.getD i cx0)) 10 (by kernel_rfl) (by kernel_rfl) (by kernel_rfl) hC h wn rfl rfl eqCx rfl rfl ?_; clear h a; intro a h
       refine hd_end (by kernel_rfl) ?_
       clear hC h1_b h2_b hb2_b hb3_b
       refine bk (h.sub (L' := [(2, _), (3, _), (5, _), (59, _)]) (.cons rfl (.cons rfl (.cons rfl (.cons rfl .nil))))) ?_; clear h a
       refine tn ?_
       refine cd rfl (fun c2 => ?_) (fun c2 => ?_)
       · refine sr (asg rfl rfl (nn (rt (rb (tr (tr (rb (tr (r1 Tryz.results20 rfl ?_)))))))))
         exact (c2 (by rw [e2])).elim
       · refine sk (bn' (tn (rg (mv rfl rfl (s_add rfl rfl (wi6 (by omega)) rfl (asg rfl rfl (nl ?_)))))))
         exact lpE (i + 1) (.cons rfl (.cons rfl (.cons rfl .nil))) ⟨(q6.next q7), by omega⟩ (by omega)
     · obtain rfl : i = fa.cs.length := by omega
       refine ex (te (te (xh (tn (sq (sr (asg rfl rfl (nn (bl ?_)))))))))
       refine lpK (ι := Nat) [(2, _), (3, _)] (fun i => [(6, .int .i64 (i : Int))]) (fun i w' => Fr [] w6 w' ∧ i ≤ fa.ts.length) (fun i => fa.ts.length - i) 0 (.cons rfl (.cons rfl (.cons rfl .nil))) ⟨Fr.refl _ _, Nat.zero_le _⟩ ?_
       rintro i w8 ⟨q8, hi⟩
       have z8 := q8.size
       refine kpC [(2, _), (3, _), (6, _)] (.cons rfl (.cons rfl (.cons rfl .nil))) ?_
       refine sq (sr (mv rfl rfl (fad rfl fa33_0 rfl ?_)))
       replace hb2 := hb2.ext q8
       refine s_loadB rfl hb2 rfl na29 rfl (lnS rfl Tryz.underlying29 rfl (lt' rfl rfl rfl (nn ?_)))
       refine cd rfl (fun c3 => ?_) (fun c3 => ?_)
       · replace h1 := h10.ext ((((q1.next q2).next q5).next q6).next q8)
         replace h2 := h20.ext ((((q1.next q2).next q5).next q6).next q8)
         have er := congrArg List.length (fab_row he i)
         simp only [List.length_map] at er
         have hr1 := sl_len (h1.tt _ (mem_getD (d := tq0) (i := i) (by omega))).1
         have hr2 := sl_len (h2.tt _ (mem_getD (d := tq0) (i := i) (by omega))).1
         have hM3 := (h1.tt _ (mem_getD (d := tq0) (i := i) (by omega))).1.len_le
         unfold maxLen at hM3
         refine sk (tn (sq (bl (sq (sq ?_)))))
         replace hb3 := hb3.ext ((q5.next q6).next q8)
         intro a h
         refine region_heldP none (fun wb w' => Fr [] wb w') hmix ?_; intro w9 hq
         have z9 := hq.size
         replace h1 := h1.ext hq
         replace h2 := h2.ext hq
         replace hb2 := hb2.ext hq
         replace hb3 := hb3.ext hq
         have q9 := hq
         clear hq; have hC : Fr [] w9 w9 := Fr.refl _ _
         have h1_b := h1
         have h2_b := h2
         have hb2_b := hb2
         have hb3_b := hb3
         refine hd_fieldAddr 0 (by kernel_rfl) (by kernel_rfl) (by kernel_rfl) hC h wn rfl fa33_0 rfl rfl ?_; clear h a; intro a h
         refine hd_loadB 1 (by kernel_rfl) (by kernel_rfl) (by kernel_rfl) hC h wn rfl (fun _ hw => hb2_b.ext hw) rfl na29 rfl rfl ?_; clear h a; intro a h
         refine hd_move 2 (by kernel_rfl) (by kernel_rfl) (by kernel_rfl) hC h wn rfl rfl rfl ?_; clear h a; intro a h
         refine hd_idxL (p := i) (tq0) 3 (by kernel_rfl) (by kernel_rfl) (by kernel_rfl) hC h wn rfl h1.t rfl el29 (by omega) (by omega) (by omega) rfl rfl ?_; clear h a; intro ad70 hc70 a h
         refine hd_loadC0 4 (by kernel_rfl) (by kernel_rfl) (by kernel_rfl) hC h wn rfl (fun _ hw => hc70 _ (h1_b.t.ext hw)) na40 rfl rfl ?_; clear h a; intro a h
         refine hd_lenS 5 (by kernel_rfl) (by kernel_rfl) (by kernel_rfl) hC h wn rfl Tryz.underlying40 rfl rfl ?_; clear h a; intro a h
         refine hd_fieldAddr 6 (by kernel_rfl) (by kernel_rfl) (by kernel_rfl) hC h wn rfl fa33_0 rfl rfl ?_; clear h a; intro a h
         refine hd_loadB 7 (by kernel_rfl) (by kernel_rfl) (by kernel_rfl) hC h wn rfl (fun _ hw => hb3_b.ext hw) rfl na29 rfl rfl ?_; clear h a; intro a h
         refine hd_move 8 (by kernel_rfl) (by kernel_rfl) (by kernel_rfl) hC h wn rfl rfl rfl ?_; clear h a; intro a h
         refine hd_idxL (p := i) (tq0) 9 (by kernel_rfl) (by kernel_rfl) (by kernel_rfl) hC h wn rfl h2.t rfl el29 (by omega) (by omega) (by omega) rfl rfl ?_; clear h a; intro ad76 hc76 a h
         refine hd_loadC0 10 (by kernel_rfl) (by kernel_rfl) (by kernel_rfl) hC h wn rfl (fun _ hw => hc76 _ (h2_b.t.ext hw)) na40 rfl rfl ?_; clear h a; intro a h
         refine hd_lenS 11 (by kernel_rfl) (by kernel_rfl) (by kernel_rfl) hC h wn rfl Tryz.underlying40 rfl rfl ?_; clear h a; intro a h
         refine hd_ne 12 (by kernel_rfl) (by kernel_rfl) (by kernel_rfl) hC h wn rfl rfl rfl rfl ?_; clear h a; intro a h
         refine hd_end (by kernel_rfl) ?_
         clear hC h1_b h2_b hb2_b hb3_b
         refine bk (h.sub (L' := [(2, _), (3, _), (6, _), (79, _)]) (.cons rfl (.cons rfl (.cons rfl (.cons rfl .nil))))) ?_; clear h a
         refine tn ?_
         refine cd rfl (fun c4 => ?_) (fun c4 => ?_)
         · refine sr (asg rfl rfl (nn (rt (tr (rb (tr (tr (rb (tr (r1 Tryz.results20 rfl ?_))))))))))
           exact (c4 (by omega)).elim
         · refine sk (tn (sr (asg rfl rfl (nn (bl ?_)))))
           refine lpK (ι := Nat) [(2, _), (3, _), (6, _)] (fun k => [(7, .int .i64 (k : Int))]) (fun k w' => Fr [] w9 w' ∧ k ≤ (fa.ts.getD i tq0).2.length) (fun k => (fa.ts.getD i tq0).2.length - k) 0 (.cons rfl (.cons rfl (.cons rfl (.cons rfl .nil)))) ⟨Fr.refl _ _, Nat.zero_le _⟩ ?_
           rintro k w10 ⟨q10, hk⟩
           have z10 := q10.size
           refine kpC [(2, _), (3, _), (6, _), (7, _)] (.cons rfl (.cons rfl (.cons rfl (.cons rfl .nil)))) ?_
           refine sq (sr (mv rfl rfl (fad rfl fa33_0 rfl ?_)))
           replace hb2 := hb2.ext q10
           refine s_loadB rfl hb2 rfl na29 rfl (mv rfl rfl ?_)
           replace h1 := h10.ext ((((((q1.next q2).next q5).next q6).next q8).next q9).next q10)
           refine s_idxL (p := i) (tq0) rfl h1.t rfl el29 (by omega) (by omega) (by omega) rfl (fun ad84 hc84 => ?_)
           refine s_loadC0 rfl (hc84 _ h1.t) na40 rfl (lnS rfl Tryz.underlying40 rfl (lt' rfl rfl rfl (kpL [(2, _), (3, _), (6, _), (7, _), (87, _)] (.cons rfl (.cons rfl (.cons rfl (.cons rfl (.cons rfl .nil))))) (nn ?_))))
           refine cd rfl (fun c5 => ?_) (fun c5 => ?_)
           · have el := fab_lp he i k
             refine sk (tn (sq (bl (sq ?_))))
             replace h2 := h20.ext ((((((q1.next q2).next q5).next q6).next q8).next q9).next q10)
             replace hb3 := hb3.ext q10
             intro a h
             refine region_heldP (some 19) (fun wb w' => Fr [] wb w') hmix ?_; intro w11 hq
             have z11 := hq.size
             replace h1 := h1.ext hq
             replace h2 := h2.ext hq
             replace hb2 := hb2.ext hq
             replace hb3 := hb3.ext hq
             have q11 := hq
             clear hq; have hC : Fr [] w11 w11 := Fr.refl _ _
             have h1_b := h1
             have h2_b := h2
             have hb2_b := hb2
             have hb3_b := hb3
             refine hd_fieldAddr 0 (by kernel_rfl) (by kernel_rfl) (by kernel_rfl) hC h wn rfl fa33_0 rfl rfl ?_; clear h a; intro a h
             refine hd_loadB 1 (by kernel_rfl) (by kernel_rfl) (by kernel_rfl) hC h wn rfl (fun _ hw => hb2_b.ext hw) rfl na29 rfl rfl ?_; clear h a; intro a h
             refine hd_move 2 (by kernel_rfl) (by kernel_rfl) (by kernel_rfl) hC h wn rfl rfl rfl ?_; clear h a; intro a h
             refine hd_idxL (p := i) (tq0) 3 (by kernel_rfl) (by kernel_rfl) (by kernel_rfl) hC h wn rfl h1.t rfl el29 (by omega) (by omega) (by omega) rfl rfl ?_; clear h a; intro ad93 hc93 a h
             refine hd_loadC0 4 (by kernel_rfl) (by kernel_rfl) (by kernel_rfl) hC h wn rfl (fun _ hw => hc93 _ (h1_b.t.ext hw)) na40 rfl rfl ?_; clear h a; intro a h
             refine hd_move 5 (by kernel_rfl) (by kernel_rfl) (by kernel_rfl) hC h wn rfl rfl rfl ?_; clear h a; intro a h
             refine hd_idxL (p := k) (lq0) 6 (by kernel_rfl) (by kernel_rfl) (by kernel_rfl) hC h wn rfl (h1.tt _ (mem_getD (d := tq0) (i := i) (by omega))).1 rfl el40 (by omega) (by omega) (by omega) rfl rfl ?_; clear h a; intro ad96 hc96 a h
             refine hd_loadA 7 (by kernel_rfl) (by kernel_rfl) (by kernel_rfl) hC h wn rfl (fun _ hw => hc96 _ ((h1.tt _ (mem_getD (d := tq0) (i := i) (by omega))).1.ext hw)) ag58 rfl rfl ?_; clear h a; intro a h
             refine hd_fieldAddr 8 (by kernel_rfl) (by kernel_rfl) (by kernel_rfl) hC h wn rfl fa33_0 rfl rfl ?_; clear h a; intro a h
             refine hd_loadB 9 (by kernel_rfl) (by kernel_rfl) (by kernel_rfl) hC h wn rfl (fun _ hw => hb3_b.ext hw) rfl na29 rfl rfl ?_; clear h a; intro a h
             refine hd_move 10 (by kernel_rfl) (by kernel_rfl) (by kernel_rfl) hC h wn rfl rfl rfl ?_; clear h a; intro a h
             refine hd_idxL (p := i) (tq0) 11 (by kernel_rfl) (by kernel_rfl) (by kernel_rfl) hC h wn rfl h2.t rfl el29 (by omega) (by omega) (by omega) rfl rfl ?_; clear h a; intro ad101 hc101 a h
             refine hd_loadC0 12 (by kernel_rfl) (by kernel_rfl) (by kernel_rfl) hC h wn rfl (fun _ hw => hc101 _ (h2_b.t.ext hw)) na40 rfl rfl ?_; clear h a; intro a h
             refine hd_move 13 (by kernel_rfl) (by kernel_rfl) (by kernel_rfl) hC h wn rfl rfl rfl ?_; clear h a; intro a h
             refine hd_idxL (p := k) (lq0) 14 (by kernel_rfl) (by kernel_rfl) (by kernel_rfl) hC h wn rfl (h2.tt _ (mem_getD (d := tq0) (i := i) (by omega))).1 rfl el40 (by omega) (by omega) (by omega) rfl rfl ?_; clear h a; intro ad104 hc104 a h
             refine hd_loadA 15 (by kernel_rfl) (by kernel_rfl) (by kernel_rfl) hC h wn rfl (fun _ hw => hc104 _ ((h2.tt _ (mem_getD (d := tq0) (i := i) (by omega))).1.ext hw)) ag58 rfl rfl ?_; clear h a; intro a h
             refine hd_two 16 17 (by kernel_rfl) rfl rfl ?_ ?_
             · refine id ?_
               refine st_alloc h zv58 rfl rfl ?_; clear h a; intro w12 hb8 hq hz a h
               obtain ⟨g_8, hg⟩ : ∃ g, g = w11.heap.size := ⟨_, rfl⟩; rw [← hg] at hb8 h hz
               have hn__8 : g2 < g_8 := by have := hb2.lt; omega
               have hn__8 : g3 < g_8 := by have := hb3.lt; omega
               have z12 := hq.size
               replace h1 := h1.ext hq
               replace h2 := h2.ext hq
               replace hb2 := hb2.ext hq
               replace hb3 := hb3.ext hq
               replace hC := hC.next hq
               have q12 := hq
               clear hq
               refine hd_next hC ?_
               refine hd_one 17 (by kernel_rfl) rfl ?_
               refine st_alloc h zv58 rfl rfl ?_; clear h a; intro w13 hb9 hq hz a h
               obtain ⟨g_9, hg⟩ : ∃ g, g = w12.heap.size := ⟨_, rfl⟩; rw [← hg] at hb9 h hz
               have hn__9 : g2 < g_9 := by have := hb2.lt; omega
               have hn__9 : g3 < g_9 := by have := hb3.lt; omega
               have hn_8_9 : g_8 < g_9 := by have := hb8.lt; omega
               have z13 := hq.size
               replace h1 := h1.ext hq
               replace h2 := h2.ext hq
               replace hb2 := hb2.ext hq
               replace hb3 := hb3.ext hq
               replace hb8 := hb8.ext hq
               replace hC := hC.next hq
               have q13 := hq
               clear hq
               refine hd_next hC ?_
               refine hd_one 18 (by kernel_rfl) rfl ?_
               refine st_storeBA h rfl rfl hb8 rfl (by first | (simp [Value.oneCell', S]; done) | exact Enc.one _ _ | exact encLp.one ((fa.ts.getD i tq0).2.getD k lq0)) sz58 ?_; clear h a; intro w14 hbn hq hz a h
               have z14 := hq.size
               replace hb2 := hb2.fr hq (by first | (simp; done) | (simp; omega) | (simp [blks]; done) | (simp [blks]; omega))
               replace hb3 := hb3.fr hq (by first | (simp; done) | (simp; omega) | (simp [blks]; done) | (simp [blks]; omega))
               replace hb9 := hb9.fr hq (by first | (simp; done) | (simp; omega) | (simp [blks]; done) | (simp [blks]; omega))
               replace hC := hC.step hq (by first | (simp; done) | (simp; omega))
               have q14 := hq
               clear hb8 hq hz; have hb8 : Blk w14 g_8 _ [_, _, _, _] := hbn; clear hbn
               refine hd_next hC ?_
               refine hd_one 19 (by kernel_rfl) rfl ?_
               refine st_storeBA h rfl rfl hb9 rfl (by first | (simp [Value.oneCell', S]; done) | exact Enc.one _ _ | exact encLp.one ((fa.ts.getD i tq0).2.getD k lq0)) sz58 ?_; clear h a; intro w15 hbn hq hz a h
               have z15 := hq.size
               replace hb2 := hb2.fr hq (by first | (simp; done) | (simp; omega) | (simp [blks]; done) | (simp [blks]; omega))
               replace hb3 := hb3.fr hq (by first | (simp; done) | (simp; omega) | (simp [blks]; done) | (simp [blks]; omega))
               replace hb8 := hb8.fr hq (by first | (simp; done) | (simp; omega) | (simp [blks]; done) | (simp [blks]; omega))
               have q15 := hq
               clear hb9 hq hz; have hb9 : Blk w15 g_9 _ [_, _, _, _] := hbn; clear hbn
               refine hd_past (by kernel_rfl) ?_
               refine hd_end (by kernel_rfl) ?_
               clear hC h1_b h2_b hb2_b hb3_b
               refine bk (h.sub (L' := [(2, _), (3, _), (6, _), (7, _), (8, _), (9, _)]) (.cons rfl (.cons rfl (.cons rfl (.cons rfl (.cons rfl (.cons rfl .nil))))))) ?_; clear h a
               refine tn (sr (fad rfl fa58_0 rfl (s_loadB rfl hb8 rfl na55 rfl (fad rfl fa58_0 rfl (s_loadB rfl hb9 rfl na55 rfl (ne' rfl rfl rfl (mv rfl rfl ?_)))))))
               refine gs 111 rfl (fun g3 => ?_) (fun g3 => ?_)
               · refine gN rfl rfl rfl (gN rfl rfl rfl (gN rfl rfl rfl (gN rfl rfl rfl (gN rfl rfl rfl (pkt rfl rfl rfl rfl (mv rfl rfl (gN rfl rfl rfl (gN rfl rfl rfl (gN rfl rfl rfl (gN rfl rfl rfl (gN rfl rfl rfl ?_)))))))))))
                 refine gN rfl rfl rfl (pkt rfl rfl rfl rfl (mv rfl rfl (gN rfl rfl rfl (gN rfl rfl rfl (gN rfl rfl rfl (gN rfl rfl rfl (gN rfl rfl rfl (gN rfl rfl rfl (pkt rfl rfl rfl rfl (kpL [(2, _), (3, _), (6, _), (7, _), (133, _)] (.cons rfl (.cons rfl (.cons rfl (.cons rfl (.cons rfl .nil))))) (nn ?_)))))))))))
                 refine ct rfl (sr (asg rfl rfl (nn (rt (rb (tr (tr (rb (rb (tr (tr ?_)))))))))))
                 refine rb (tr (r1 Tryz.results20 rfl ?_))
                 exfalso
                 have eb : ((fa.ts.getD i tq0).2.getD k lq0).b = ((fc.ts.getD i tq0).2.getD k lq0).b := congrArg Lp.b el
                 have en : ((fa.ts.getD i tq0).2.getD k lq0).nw = ((fc.ts.getD i tq0).2.getD k lq0).nw := congrArg Lp.nw el
                 have eh : ((fa.ts.getD i tq0).2.getD k lq0).ths = ((fc.ts.getD i tq0).2.getD k lq0).ths := congrArg Lp.th el
                 have ep : ((fa.ts.getD i tq0).2.getD k lq0).pas = ((fc.ts.getD i tq0).2.getD k lq0).pas := congrArg Lp.pa el
                 first | (simp_all; done) | omega
               · refine gY rfl (fad rfl fa58_1 rfl (gY rfl (s_loadB rfl hb8 rfl na4 rfl (gY rfl (fad rfl fa58_1 rfl (gY rfl (s_loadB rfl hb9 rfl na4 rfl (gY rfl (s_neb rfl rfl Tryz.underlying4 rfl (pkf rfl rfl rfl rfl (mv rfl rfl ?_)))))))))))
                 refine gs 118 rfl (fun g4 => ?_) (fun g4 => ?_)
                 · refine gN rfl rfl rfl (gN rfl rfl rfl (gN rfl rfl rfl (gN rfl rfl rfl (gN rfl rfl rfl (gN rfl rfl rfl (pkt rfl rfl rfl rfl (mv rfl rfl (gN rfl rfl rfl (gN rfl rfl rfl (gN rfl rfl rfl (gN rfl rfl rfl ?_)))))))))))
                   refine gN rfl rfl rfl (gN rfl rfl rfl (pkt rfl rfl rfl rfl (kpL [(2, _), (3, _), (6, _), (7, _), (133, _)] (.cons rfl (.cons rfl (.cons rfl (.cons rfl (.cons rfl .nil))))) (nn (ct rfl (sr (asg rfl rfl (nn (rt (rb (tr ?_)))))))))))
                   refine tr (rb (rb (tr (tr (rb (tr (r1 Tryz.results20 rfl ?_)))))))
                   exfalso
                   have eb : ((fa.ts.getD i tq0).2.getD k lq0).b = ((fc.ts.getD i tq0).2.getD k lq0).b := congrArg Lp.b el
                   have en : ((fa.ts.getD i tq0).2.getD k lq0).nw = ((fc.ts.getD i tq0).2.getD k lq0).nw := congrArg Lp.nw el
                   have eh : ((fa.ts.getD i tq0).2.getD k lq0).ths = ((fc.ts.getD i tq0).2.getD k lq0).ths := congrArg Lp.th el
                   have ep : ((fa.ts.getD i tq0).2.getD k lq0).pas = ((fc.ts.getD i tq0).2.getD k lq0).pas := congrArg Lp.pa el
                   first | (simp_all; done) | omega
                 · refine gY rfl (fad rfl fa58_2 rfl (gY rfl (s_loadB rfl hb8 rfl na31 rfl (gY rfl (fad rfl fa58_2 rfl (gY rfl (s_loadB rfl hb9 rfl na31 rfl (gY rfl ?_))))))))
                   replace h1 := h10.ext (((((((((((q1.next q2).next q5).next q6).next q8).next q9).next q10).next q11).next q12).next q13).step q14 (by first | (simp; done) | (simp; omega))).step q15 (by first | (simp; done) | (simp; omega)))
                   replace h2 := h20.ext (((((((((((q1.next q2).next q5).next q6).next q8).next q9).next q10).next q11).next q12).next q13).step q14 (by first | (simp; done) | (simp; omega))).step q15 (by first | (simp; done) | (simp; omega)))
                   refine cl (ev2 rfl rfl) co38 (names_ok _ _ ((fa.ts.getD i tq0).2.getD k lq0).ths ((fc.ts.getD i tq0).2.getD k lq0).ths _ (lps_at h1 (by omega) (by omega)).1 (lps_at h2 (by omega) (by omega)).1) rfl ?_
                   rintro _ w16 ⟨rfl, q16⟩
                   have z16 := q16.size
                   refine gY rfl (ne' rfl rfl rfl (pkf rfl rfl rfl rfl (mv rfl rfl ?_)))
                   refine gs 126 rfl (fun g5 => ?_) (fun g5 => ?_)
                   · refine gN rfl rfl rfl (gN rfl rfl rfl (gN rfl rfl rfl (gN rfl rfl rfl (gN rfl rfl rfl (gN rfl rfl rfl (pkt rfl rfl rfl rfl (kpL [(2, _), (3, _), (6, _), (7, _), (133, _)] (.cons rfl (.cons rfl (.cons rfl (.cons rfl (.cons rfl .nil))))) (nn (ct rfl (sr (asg rfl rfl ?_)))))))))))
                     refine nn (rt (rb (tr (tr (rb (rb (tr (tr (rb (tr (r1 Tryz.results20 rfl ?_)))))))))))
                     exfalso
                     have eb : ((fa.ts.getD i tq0).2.getD k lq0).b = ((fc.ts.getD i tq0).2.getD k lq0).b := congrArg Lp.b el
                     have en : ((fa.ts.getD i tq0).2.getD k lq0).nw = ((fc.ts.getD i tq0).2.getD k lq0).nw := congrArg Lp.nw el
                     have eh : ((fa.ts.getD i tq0).2.getD k lq0).ths = ((fc.ts.getD i tq0).2.getD k lq0).ths := congrArg Lp.th el
                     have ep : ((fa.ts.getD i tq0).2.getD k lq0).pas = ((fc.ts.getD i tq0).2.getD k lq0).pas := congrArg Lp.pa el
                     first | (simp_all; done) | omega
                   · refine gY rfl (fad rfl fa58_3 rfl (gY rfl ?_))
                     replace hb8 := hb8.ext q16
                     refine s_loadB rfl hb8 rfl na56 rfl (gY rfl (fad rfl fa58_3 rfl (gY rfl ?_)))
                     replace hb9 := hb9.ext q16
                     refine s_loadB rfl hb9 rfl na56 rfl (gY rfl ?_)
                     replace h1 := h10.ext ((((((((((((q1.next q2).next q5).next q6).next q8).next q9).next q10).next q11).next q12).next q13).step q14 (by first | (simp; done) | (simp; omega))).step q15 (by first | (simp; done) | (simp; omega))).next q16)
                     replace h2 := h20.ext ((((((((((((q1.next q2).next q5).next q6).next q8).next q9).next q10).next q11).next q12).next q13).step q14 (by first | (simp; done) | (simp; omega))).step q15 (by first | (simp; done) | (simp; omega))).next q16)
                     refine cl (ev2 rfl rfl) co39 (passes_ok _ _ ((fa.ts.getD i tq0).2.getD k lq0).pas ((fc.ts.getD i tq0).2.getD k lq0).pas _ (lps_at h1 (by omega) (by omega)).2 (lps_at h2 (by omega) (by omega)).2) rfl ?_
                     rintro _ w17 ⟨rfl, q17⟩
                     have z17 := q17.size
                     refine gY rfl (ne' rfl rfl rfl (pkf rfl rfl rfl rfl (kpL [(2, _), (3, _), (6, _), (7, _), (133, _)] (.cons rfl (.cons rfl (.cons rfl (.cons rfl (.cons rfl .nil))))) (nn ?_))))
                     refine cd rfl (fun c6 => ?_) (fun c6 => ?_)
                     · refine sr (asg rfl rfl (nn (rt (rb (tr (tr (rb (rb (tr (tr (rb ?_)))))))))))
                       refine tr (r1 Tryz.results20 rfl ?_)
                       exfalso
                       have eb : ((fa.ts.getD i tq0).2.getD k lq0).b = ((fc.ts.getD i tq0).2.getD k lq0).b := congrArg Lp.b el
                       have en : ((fa.ts.getD i tq0).2.getD k lq0).nw = ((fc.ts.getD i tq0).2.getD k lq0).nw := congrArg Lp.nw el
                       have eh : ((fa.ts.getD i tq0).2.getD k lq0).ths = ((fc.ts.getD i tq0).2.getD k lq0).ths := congrArg Lp.th el
                       have ep : ((fa.ts.getD i tq0).2.getD k lq0).pas = ((fc.ts.getD i tq0).2.getD k lq0).pas := congrArg Lp.pa el
                       first | (simp_all; done) | omega
                     · refine sk (bn' (tn (rg (mv rfl rfl (s_add rfl rfl (wi6 (by omega)) rfl (asg rfl rfl (nl ?_)))))))
                       exact lpE (k + 1) (.cons rfl (.cons rfl (.cons rfl (.cons rfl .nil)))) ⟨(((((((q10.next q11).next q12).next q13).step q14 (by first | (simp; done) | (simp; omega))).step q15 (by first | (simp; done) | (simp; omega))).next q16).next q17), by omega⟩ (by omega)
             · refine id ?_
               refine st_alloc h zv58 rfl rfl ?_; clear h a; intro w18 hb9 hq hz a h
               obtain ⟨g_9, hg⟩ : ∃ g, g = w11.heap.size := ⟨_, rfl⟩; rw [← hg] at hb9 h hz
               have hn__9 : g2 < g_9 := by have := hb2.lt; omega
               have hn__9 : g3 < g_9 := by have := hb3.lt; omega
               have z18 := hq.size
               replace h1 := h1.ext hq
               replace h2 := h2.ext hq
               replace hb2 := hb2.ext hq
               replace hb3 := hb3.ext hq
               replace hC := hC.next hq
               have q18 := hq
               clear hq
               refine hd_next hC ?_
               refine hd_one 16 (by kernel_rfl) rfl ?_
               refine st_alloc h zv58 rfl rfl ?_; clear h a; intro w19 hb8 hq hz a h
               obtain ⟨g_8, hg⟩ : ∃ g, g = w18.heap.size := ⟨_, rfl⟩; rw [← hg] at hb8 h hz
               have hn__8 : g2 < g_8 := by have := hb2.lt; omega
               have hn__8 : g3 < g_8 := by have := hb3.lt; omega
               have hn_9_8 : g_9 < g_8 := by have := hb9.lt; omega
               have z19 := hq.size
               replace h1 := h1.ext hq
               replace h2 := h2.ext hq
               replace hb2 := hb2.ext hq
               replace hb3 := hb3.ext hq
               replace hb9 := hb9.ext hq
               replace hC := hC.next hq
               have q19 := hq
               clear hq
               refine hd_next hC ?_
               refine hd_one 18 (by kernel_rfl) rfl ?_
               refine st_storeBA h rfl rfl hb8 rfl (by first | (simp [Value.oneCell', S]; done) | exact Enc.one _ _ | exact encLp.one ((fa.ts.getD i tq0).2.getD k lq0)) sz58 ?_; clear h a; intro w20 hbn hq hz a h
               have z20 := hq.size
               replace hb2 := hb2.fr hq (by first | (simp; done) | (simp; omega) | (simp [blks]; done) | (simp [blks]; omega))
               replace hb3 := hb3.fr hq (by first | (simp; done) | (simp; omega) | (simp [blks]; done) | (simp [blks]; omega))
               replace hb9 := hb9.fr hq (by first | (simp; done) | (simp; omega) | (simp [blks]; done) | (simp [blks]; omega))
               replace hC := hC.step hq (by first | (simp; done) | (simp; omega))
               have q20 := hq
               clear hb8 hq hz; have hb8 : Blk w20 g_8 _ [_, _, _, _] := hbn; clear hbn
               refine hd_next hC ?_
               refine hd_one 19 (by kernel_rfl) rfl ?_
               refine st_storeBA h rfl rfl hb9 rfl (by first | (simp [Value.oneCell', S]; done) | exact Enc.one _ _ | exact encLp.one ((fa.ts.getD i tq0).2.getD k lq0)) sz58 ?_; clear h a; intro w21 hbn hq hz a h
               have z21 := hq.size
               replace hb2 := hb2.fr hq (by first | (simp; done) | (simp; omega) | (simp [blks]; done) | (simp [blks]; omega))
               replace hb3 := hb3.fr hq (by first | (simp; done) | (simp; omega) | (simp [blks]; done) | (simp [blks]; omega))
               replace hb8 := hb8.fr hq (by first | (simp; done) | (simp; omega) | (simp [blks]; done) | (simp [blks]; omega))
               have q21 := hq
               clear hb9 hq hz; have hb9 : Blk w21 g_9 _ [_, _, _, _] := hbn; clear hbn
               refine hd_past (by kernel_rfl) ?_
               refine hd_end (by kernel_rfl) ?_
               clear hC h1_b h2_b hb2_b hb3_b
               refine bk (h.sub (L' := [(2, _), (3, _), (6, _), (7, _), (8, _), (9, _)]) (.cons rfl (.cons rfl (.cons rfl (.cons rfl (.cons rfl (.cons rfl .nil))))))) ?_; clear h a
               refine tn (sr (fad rfl fa58_0 rfl (s_loadB rfl hb8 rfl na55 rfl (fad rfl fa58_0 rfl (s_loadB rfl hb9 rfl na55 rfl (ne' rfl rfl rfl (mv rfl rfl ?_)))))))
               refine gs 111 rfl (fun g6 => ?_) (fun g6 => ?_)
               · refine gN rfl rfl rfl (gN rfl rfl rfl (gN rfl rfl rfl (gN rfl rfl rfl (gN rfl rfl rfl (pkt rfl rfl rfl rfl (mv rfl rfl (gN rfl rfl rfl (gN rfl rfl rfl (gN rfl rfl rfl (gN rfl rfl rfl (gN rfl rfl rfl ?_)))))))))))
                 refine gN rfl rfl rfl (pkt rfl rfl rfl rfl (mv rfl rfl (gN rfl rfl rfl (gN rfl rfl rfl (gN rfl rfl rfl (gN rfl rfl rfl (gN rfl rfl rfl (gN rfl rfl rfl (pkt rfl rfl rfl rfl (kpL [(2, _), (3, _), (6, _), (7, _), (133, _)] (.cons rfl (.cons rfl (.cons rfl (.cons rfl (.cons rfl .nil))))) (nn ?_)))))))))))
                 refine ct rfl (sr (asg rfl rfl (nn (rt (rb (tr (tr (rb (rb (tr (tr ?_)))))))))))
                 refine rb (tr (r1 Tryz.results20 rfl ?_))
                 exfalso
                 have eb : ((fa.ts.getD i tq0).2.getD k lq0).b = ((fc.ts.getD i tq0).2.getD k lq0).b := congrArg Lp.b el
                 have en : ((fa.ts.getD i tq0).2.getD k lq0).nw = ((fc.ts.getD i tq0).2.getD k lq0).nw := congrArg Lp.nw el
                 have eh : ((fa.ts.getD i tq0).2.getD k lq0).ths = ((fc.ts.getD i tq0).2.getD k lq0).ths := congrArg Lp.th el
                 have ep : ((fa.ts.getD i tq0).2.getD k lq0).pas = ((fc.ts.getD i tq0).2.getD k lq0).pas := congrArg Lp.pa el
                 first | (simp_all; done) | omega
               · refine gY rfl (fad rfl fa58_1 rfl (gY rfl (s_loadB rfl hb8 rfl na4 rfl (gY rfl (fad rfl fa58_1 rfl (gY rfl (s_loadB rfl hb9 rfl na4 rfl (gY rfl (s_neb rfl rfl Tryz.underlying4 rfl (pkf rfl rfl rfl rfl (mv rfl rfl ?_)))))))))))
                 refine gs 118 rfl (fun g7 => ?_) (fun g7 => ?_)
                 · refine gN rfl rfl rfl (gN rfl rfl rfl (gN rfl rfl rfl (gN rfl rfl rfl (gN rfl rfl rfl (gN rfl rfl rfl (pkt rfl rfl rfl rfl (mv rfl rfl (gN rfl rfl rfl (gN rfl rfl rfl (gN rfl rfl rfl (gN rfl rfl rfl ?_)))))))))))
                   refine gN rfl rfl rfl (gN rfl rfl rfl (pkt rfl rfl rfl rfl (kpL [(2, _), (3, _), (6, _), (7, _), (133, _)] (.cons rfl (.cons rfl (.cons rfl (.cons rfl (.cons rfl .nil))))) (nn (ct rfl (sr (asg rfl rfl (nn (rt (rb (tr ?_)))))))))))
                   refine tr (rb (rb (tr (tr (rb (tr (r1 Tryz.results20 rfl ?_)))))))
                   exfalso
                   have eb : ((fa.ts.getD i tq0).2.getD k lq0).b = ((fc.ts.getD i tq0).2.getD k lq0).b := congrArg Lp.b el
                   have en : ((fa.ts.getD i tq0).2.getD k lq0).nw = ((fc.ts.getD i tq0).2.getD k lq0).nw := congrArg Lp.nw el
                   have eh : ((fa.ts.getD i tq0).2.getD k lq0).ths = ((fc.ts.getD i tq0).2.getD k lq0).ths := congrArg Lp.th el
                   have ep : ((fa.ts.getD i tq0).2.getD k lq0).pas = ((fc.ts.getD i tq0).2.getD k lq0).pas := congrArg Lp.pa el
                   first | (simp_all; done) | omega
                 · refine gY rfl (fad rfl fa58_2 rfl (gY rfl (s_loadB rfl hb8 rfl na31 rfl (gY rfl (fad rfl fa58_2 rfl (gY rfl (s_loadB rfl hb9 rfl na31 rfl (gY rfl ?_))))))))
                   replace h1 := h10.ext (((((((((((q1.next q2).next q5).next q6).next q8).next q9).next q10).next q11).next q18).next q19).step q20 (by first | (simp; done) | (simp; omega))).step q21 (by first | (simp; done) | (simp; omega)))
                   replace h2 := h20.ext (((((((((((q1.next q2).next q5).next q6).next q8).next q9).next q10).next q11).next q18).next q19).step q20 (by first | (simp; done) | (simp; omega))).step q21 (by first | (simp; done) | (simp; omega)))
                   refine cl (ev2 rfl rfl) co38 (names_ok _ _ ((fa.ts.getD i tq0).2.getD k lq0).ths ((fc.ts.getD i tq0).2.getD k lq0).ths _ (lps_at h1 (by omega) (by omega)).1 (lps_at h2 (by omega) (by omega)).1) rfl ?_
                   rintro _ w22 ⟨rfl, q22⟩
                   have z22 := q22.size
                   refine gY rfl (ne' rfl rfl rfl (pkf rfl rfl rfl rfl (mv rfl rfl ?_)))
                   refine gs 126 rfl (fun g8 => ?_) (fun g8 => ?_)
                   · refine gN rfl rfl rfl (gN rfl rfl rfl (gN rfl rfl rfl (gN rfl rfl rfl (gN rfl rfl rfl (gN rfl rfl rfl (pkt rfl rfl rfl rfl (kpL [(2, _), (3, _), (6, _), (7, _), (133, _)] (.cons rfl (.cons rfl (.cons rfl (.cons rfl (.cons rfl .nil))))) (nn (ct rfl (sr (asg rfl rfl ?_)))))))))))
                     refine nn (rt (rb (tr (tr (rb (rb (tr (tr (rb (tr (r1 Tryz.results20 rfl ?_)))))))))))
                     exfalso
                     have eb : ((fa.ts.getD i tq0).2.getD k lq0).b = ((fc.ts.getD i tq0).2.getD k lq0).b := congrArg Lp.b el
                     have en : ((fa.ts.getD i tq0).2.getD k lq0).nw = ((fc.ts.getD i tq0).2.getD k lq0).nw := congrArg Lp.nw el
                     have eh : ((fa.ts.getD i tq0).2.getD k lq0).ths = ((fc.ts.getD i tq0).2.getD k lq0).ths := congrArg Lp.th el
                     have ep : ((fa.ts.getD i tq0).2.getD k lq0).pas = ((fc.ts.getD i tq0).2.getD k lq0).pas := congrArg Lp.pa el
                     first | (simp_all; done) | omega
                   · refine gY rfl (fad rfl fa58_3 rfl (gY rfl ?_))
                     replace hb8 := hb8.ext q22
                     refine s_loadB rfl hb8 rfl na56 rfl (gY rfl (fad rfl fa58_3 rfl (gY rfl ?_)))
                     replace hb9 := hb9.ext q22
                     refine s_loadB rfl hb9 rfl na56 rfl (gY rfl ?_)
                     replace h1 := h10.ext ((((((((((((q1.next q2).next q5).next q6).next q8).next q9).next q10).next q11).next q18).next q19).step q20 (by first | (simp; done) | (simp; omega))).step q21 (by first | (simp; done) | (simp; omega))).next q22)
                     replace h2 := h20.ext ((((((((((((q1.next q2).next q5).next q6).next q8).next q9).next q10).next q11).next q18).next q19).step q20 (by first | (simp; done) | (simp; omega))).step q21 (by first | (simp; done) | (simp; omega))).next q22)
                     refine cl (ev2 rfl rfl) co39 (passes_ok _ _ ((fa.ts.getD i tq0).2.getD k lq0).pas ((fc.ts.getD i tq0).2.getD k lq0).pas _ (lps_at h1 (by omega) (by omega)).2 (lps_at h2 (by omega) (by omega)).2) rfl ?_
                     rintro _ w23 ⟨rfl, q23⟩
                     have z23 := q23.size
                     refine gY rfl (ne' rfl rfl rfl (pkf rfl rfl rfl rfl (kpL [(2, _), (3, _), (6, _), (7, _), (133, _)] (.cons rfl (.cons rfl (.cons rfl (.cons rfl (.cons rfl .nil))))) (nn ?_))))
                     refine cd rfl (fun c6 => ?_) (fun c6 => ?_)
                     · refine sr (asg rfl rfl (nn (rt (rb (tr (tr (rb (rb (tr (tr (rb ?_)))))))))))
                       refine tr (r1 Tryz.results20 rfl ?_)
                       exfalso
                       have eb : ((fa.ts.getD i tq0).2.getD k lq0).b = ((fc.ts.getD i tq0).2.getD k lq0).b := congrArg Lp.b el
                       have en : ((fa.ts.getD i tq0).2.getD k lq0).nw = ((fc.ts.getD i tq0).2.getD k lq0).nw := congrArg Lp.nw el
                       have eh : ((fa.ts.getD i tq0).2.getD k lq0).ths = ((fc.ts.getD i tq0).2.getD k lq0).ths := congrArg Lp.th el
                       have ep : ((fa.ts.getD i tq0).2.getD k lq0).pas = ((fc.ts.getD i tq0).2.getD k lq0).pas := congrArg Lp.pa el
                       first | (simp_all; done) | omega
                     · refine sk (bn' (tn (rg (mv rfl rfl (s_add rfl rfl (wi6 (by omega)) rfl (asg rfl rfl (nl ?_)))))))
                       exact lpE (k + 1) (.cons rfl (.cons rfl (.cons rfl (.cons rfl .nil)))) ⟨(((((((q10.next q11).next q18).next q19).step q20 (by first | (simp; done) | (simp; omega))).step q21 (by first | (simp; done) | (simp; omega))).next q22).next q23), by omega⟩ (by omega)
           · obtain rfl : k = (fa.ts.getD i tq0).2.length := by omega
             refine ex (te (te (xh (bn' (tn (rg (mv rfl rfl (s_add rfl rfl (wi6 (by omega)) rfl (asg rfl rfl (nl ?_))))))))))
             exact lpE (i + 1) (.cons rfl (.cons rfl (.cons rfl .nil))) ⟨((q8.next q9).next q10), by omega⟩ (by omega)
       · obtain rfl : i = fa.ts.length := by omega
         refine ex (te (te (xh (tn (sr (asg rfl rfl (nn (rt (r1 Tryz.results20 rfl ?_)))))))))
         exact ⟨_, rfl, rfl, ((((q1.next q2).next q5).next q6).next q8)⟩
end Go.Proofs.YtkionldalpijpaaGreatDoor
namespace Go.Proofs.YtkionldalpijpaaGreatDoor
open Go.Lw Go.G21

theorem one_ok (n : Int) (w0 : World) : Rets Tryz.prog 19 #[.int .i64 n] w0 fun r w' => r = .agg #[.int .u8 1, .int .i64 n] ∧ Fr [] w0 w' := by
 refine we [(0, .int .i64 n)] Tryz.func19 rfl Tryz.ntmps19 rfl (.cons rfl .nil) ?_
 refine sr (al zv39 rfl rfl (fun g2 w1 hg2 hb2 q1 z1 => ?_))
 refine nn (sr (mv rfl rfl (s_lit (cs := [_, _]) (ev2 rfl rfl) bo39 (pok_cons rfl rfl rfl (pok_cons rfl rfl rfl pok_nil)) rfl rfl ?_)))
 refine s_storeBA (vs := [_, _]) rfl rfl hb2 (by rfl) (by first | (simp [Value.oneCell', S]; done) | exact Enc.one _ _) sz39 (fun w2 hb2 q2 z2 => ?_)
 refine nn (rt (rC Tryz.results19 rfl hb2 ag39  ?_))
 exact ⟨_, rfl, rfl, (q1.step q2 (by first | (simp; done) | (simp; omega)))⟩
end Go.Proofs.YtkionldalpijpaaGreatDoor
namespace Go.Proofs.YtkionldalpijpaaGreatDoor
open Go.Lw Go.G21
theorem co32 : CallOf Tryz.prog 32 := CallOf.mk' Tryz.func32 (by kernel_rfl) (by kernel_rfl)
theorem iq3 {w : World} {p q r : IQ} (h1 : Sl encId w (slv p.1) p.2) (h2 : Sl encId w (slv q.1) q.2) (h3 : Sl encId w (slv r.1) r.2) : IqAt w [p, q, r] := fun x hx => by
  simp only [List.mem_cons, List.not_mem_nil, or_false] at hx
  rcases hx with rfl | rfl | rfl
  · exact h1
  · exact h2
  · exact h3
theorem fl3 (p q r : IQ) : [p, q, r].flatMap Prod.snd = p.2 ++ q.2 ++ r.2 := by simp [List.append_assoc]
set_option maxHeartbeats 4000000 in
theorem bnd1_ok (wS : World) (ka : KA) (ck cy cp cb j at_ : Nat) (ys : List YQ) (ts : List TQ) (fs bs : List IQ) (bd pd : SV) (bds : List LId) (pds : List Pa) (w0 : World) (hM : KnM τd 50 wS ka w0 ys ts fs bs) (hck : Blk w0 ck 46 [.pointer (some ⟨ka.gk, 0, none⟩)]) (hcy : Blk w0 cy 5 [.int .u8 ((j : Int) + 1)]) (hcp : Blk w0 cp 56 [slv pd]) (hcb : Blk w0 cb 31 [slv bd])  (hpd : Lw.Own encPa 65 wS.heap.size w0 (slv pd) pds) (hbd : Lw.Own encId 39 wS.heap.size w0 (slv bd) bds) (hne : ck ≠ cb ∧ cy ≠ cb ∧ cp ≠ cb ∧ ck ≠ cp ∧ cy ≠ cp ∧ cb ≠ ka.gf ∧ cb ≠ ka.gb ∧ wS.heap.size ≤ cb ∧ wS.heap.size ≤ cp) (hj : j < 6) (hat : at_ < ka.wd) (hwd : ka.wd ≤ 1000) (hr : (ts.getD j tq0).2.length ≤ 5000) (hB1 : (bs.getD at_ iq0).2.length ≤ 1 ∧ (fs.getD at_ iq0).2.length ≤ 1 ∧ bds.length ≤ 1 ∧ pds.length ≤ 1) (hg0 : goE (ys.getD j yq0).p (ys.getD j yq0).pl pds = 0) (hm0 : mkE (goS (ys.getD j yq0).p (ys.getD j yq0).pl pds) = 0) : Rets Tryz.prog 31 #[.int .i64 (at_ : Int), .pointer (some ⟨ck, 0, none⟩), .pointer (some ⟨cy, 0, none⟩), .pointer (some ⟨cp, 0, none⟩), .pointer (some ⟨cb, 0, none⟩)] w0 fun r w' => r = .int .i64 0 ∧ (∃ (u : SV) (lq : LpQ), KnM τd 50 wS ka w' (ys.set j (⟨true, (ys.getD j yq0).pl, (ys.getD j yq0).ct + 1, false, sv0, []⟩ : YQ)) (ts.set j (u, (ts.getD j tq0).2 ++ [lq])) fs bs ∧ lq.p = ⟨0, (ys.getD j yq0).nw, (bds ++ (bs.getD at_ iq0).2 ++ (fs.getD at_ iq0).2), pushS (ys.getD j yq0).pes pds⟩ ∧ ∀ k ∈ blks (slv lq.th), w0.heap.size ≤ k) ∧ Blk w' ck 46 [.pointer (some ⟨ka.gk, 0, none⟩)] ∧ Blk w' cy 5 [.int .u8 ((j : Int) + 1)] ∧ (∃ pd2, Blk w' cp 56 [slv pd2] ∧ Lw.Own encPa 65 wS.heap.size w' (slv pd2) [(⟨(⟨(j : Int) + 1, (ys.getD j yq0).ct⟩ : LId), true, 0⟩ : Pa)]) ∧ (∃ bd2, Blk w' cb 31 [slv bd2] ∧ Lw.Own encId 39 wS.heap.size w' (slv bd2) [(⟨(j : Int) + 1, (ys.getD j yq0).ct⟩ : LId)]) := by
 obtain ⟨hn1, hn2, hn3, hn4, hn5, hn6, hn7, hn8, hn9⟩ := hne
 obtain ⟨hB1, hB2, hB3, hB4⟩ := hB1
 have hJl : (bds ++ (bs.getD at_ iq0).2 ++ (fs.getD at_ iq0).2).length = bds.length + (bs.getD at_ iq0).2.length + (fs.getD at_ iq0).2.length := by simp only [List.length_append]
 have hltO := hM.lt
 have hI1 := fun i (hi : i < 6) q hq k k_ => ((hM.t.lps i (by rw [hM.lt]; exact hi) q hq).1.blk k k_).2
 have hI2 := fun i (hi : i < ka.wd) k k_ => ((hM.f.ins i (by rw [hM.lf]; exact hi)).blk k k_).2
 have hI3 := fun i (hi : i < ka.wd) k k_ => ((hM.b.ins i (by rw [hM.lb]; exact hi)).blk k k_).2
 have hI4 := fun p (hp : p ∈ ka.ids) => (hM.xi p hp).lt
 have hk := hM.k
 have hzS := hM.fr.size
 have hlr := hM.lb
 have hlw := hM.lf
 refine we [(0, .int .i64 (at_ : Int)), (1, .pointer (some ⟨ck, 0, none⟩)), (2, .pointer (some ⟨cy, 0, none⟩)), (3, .pointer (some ⟨cp, 0, none⟩)), (4, .pointer (some ⟨cb, 0, none⟩))] Tryz.func31 rfl Tryz.ntmps31 rfl (.cons rfl (.cons rfl (.cons rfl (.cons rfl (.cons rfl .nil))))) ?_
 have hM0 := hM
 have hpd0 := hpd
 have hbd0 := hbd
 refine sr (asg rfl rfl (nn (sq ?_)))
 intro a h
 refine region_heldP (some 26) (fun wb w' => Fr ([ka.gy] ++ ([ka.gt] ++ blks (slv (ts.getD j tq0).1))) wb w') hmix ?_; intro w1 hq
 have z1 := hq.size
 replace hM := hM.ext hq
 replace hk := hk.ext hq
 replace hck := hck.ext hq
 replace hcy := hcy.ext hq
 replace hcp := hcp.ext hq
 replace hcb := hcb.ext hq
 replace hpd := hpd.ext hq
 replace hbd := hbd.ext hq
 have q1 := hq
 clear hq; have hC : Fr ([ka.gy] ++ ([ka.gt] ++ blks (slv (ts.getD j tq0).1))) w1 w1 := Fr.refl _ _
 have hM_b := hM
 have hk_b := hk
 have hck_b := hck
 have hcy_b := hcy
 have hcp_b := hcp
 have hcb_b := hcb
 have hpd_b := hpd
 have hbd_b := hbd
 refine hd_loadB0 0 (by kernel_rfl) (by kernel_rfl) (by kernel_rfl) hC h wn rfl (fun _ hw => hck_b.fr hw (off_mem hck_b (hM_b.offL hj (by decide) (by decide) (by decide)))) na46 rfl rfl ?_; clear h a; intro a h
 refine hd_loadB0 1 (by kernel_rfl) (by kernel_rfl) (by kernel_rfl) hC h wn rfl (fun _ hw => hcy_b.fr hw (off_mem hcy_b (hM_b.offL hj (by decide) (by decide) (by decide)))) na5 rfl rfl ?_; clear h a; intro a h
 refine hd_loadB0 2 (by kernel_rfl) (by kernel_rfl) (by kernel_rfl) hC h wn rfl (fun _ hw => hcp_b.fr hw (off_mem hcp_b (hM_b.offL hj (by decide) (by decide) (by decide)))) na56 rfl rfl ?_; clear h a; intro a h
 refine hd_loadB0 3 (by kernel_rfl) (by kernel_rfl) (by kernel_rfl) hC h wn rfl (fun _ hw => hcb_b.fr hw (off_mem hcb_b (hM_b.offL hj (by decide) (by decide) (by decide)))) na31 rfl rfl ?_; clear h a; intro a h
 refine hd_loadB0 4 (by kernel_rfl) (by kernel_rfl) (by kernel_rfl) hC h wn rfl (fun _ hw => hck_b.fr hw (off_mem hck_b (hM_b.offL hj (by decide) (by decide) (by decide)))) na46 rfl rfl ?_; clear h a; intro a h
 refine hd_nilCheck 5 (by kernel_rfl) (by kernel_rfl) (by kernel_rfl) hC h wn rfl rfl rfl ?_; clear h a; intro a h
 refine hd_fieldAddr 6 (by kernel_rfl) (by kernel_rfl) (by kernel_rfl) hC h wn rfl fa50_3 rfl rfl ?_; clear h a; intro a h
 refine hd_loadB 7 (by kernel_rfl) (by kernel_rfl) (by kernel_rfl) hC h wn rfl (fun _ hw => hk_b.fr hw (off_mem hk_b (hM_b.offL hj (by decide) (by decide) (by decide)))) rfl na48 rfl rfl ?_; clear h a; intro a h
 refine hd_move 8 (by kernel_rfl) (by kernel_rfl) (by kernel_rfl) hC h wn rfl rfl rfl ?_; clear h a; intro a h
 refine hd_idxL (p := at_) (iq0) 9 (by kernel_rfl) (by kernel_rfl) (by kernel_rfl) hC h wn rfl hM.b.out.sl rfl el48 (by omega) (by omega) (by omega) rfl rfl ?_; clear h a; intro ad19 hc19 a h
 refine hd_loadC0 10 (by kernel_rfl) (by kernel_rfl) (by kernel_rfl) hC h wn rfl (fun _ hw => hc19 _ (own_tf hM_b.b.out hw (hM_b.offL hj (by decide) (by decide) (by decide))).sl) na31 rfl rfl ?_; clear h a; intro a h
 refine hd_loadB0 11 (by kernel_rfl) (by kernel_rfl) (by kernel_rfl) hC h wn rfl (fun _ hw => hck_b.fr hw (off_mem hck_b (hM_b.offL hj (by decide) (by decide) (by decide)))) na46 rfl rfl ?_; clear h a; intro a h
 refine hd_nilCheck 12 (by kernel_rfl) (by kernel_rfl) (by kernel_rfl) hC h wn rfl rfl rfl ?_; clear h a; intro a h
 refine hd_fieldAddr 13 (by kernel_rfl) (by kernel_rfl) (by kernel_rfl) hC h wn rfl fa50_2 rfl rfl ?_; clear h a; intro a h
 refine hd_loadB 14 (by kernel_rfl) (by kernel_rfl) (by kernel_rfl) hC h wn rfl (fun _ hw => hk_b.fr hw (off_mem hk_b (hM_b.offL hj (by decide) (by decide) (by decide)))) rfl na48 rfl rfl ?_; clear h a; intro a h
 refine hd_move 15 (by kernel_rfl) (by kernel_rfl) (by kernel_rfl) hC h wn rfl rfl rfl ?_; clear h a; intro a h
 refine hd_idxL (p := at_) (iq0) 16 (by kernel_rfl) (by kernel_rfl) (by kernel_rfl) hC h wn rfl hM.f.out.sl rfl el48 (by omega) (by omega) (by omega) rfl rfl ?_; clear h a; intro ad26 hc26 a h
 refine hd_loadC0 17 (by kernel_rfl) (by kernel_rfl) (by kernel_rfl) hC h wn rfl (fun _ hw => hc26 _ (own_tf hM_b.f.out hw (hM_b.offL hj (by decide) (by decide) (by decide))).sl) na31 rfl rfl ?_; clear h a; intro a h
 refine hd_two 18 24 (by kernel_rfl) rfl rfl ?_ ?_
 · refine id ?_
   refine st_bslice ([((bd, bds) : IQ), (bs.getD at_ iq0), (fs.getD at_ iq0)]) h (evs_cons rfl (evs_cons rfl (evs_cons rfl evs_nil))) rfl rfl rfl el48 (Nat.le_of_ble_eq_true rfl) rfl ?_; clear h a; intro g_28 w2 hg ho28 hq hz a h
   have hn_.gk_28 : ka.gk < g_28 := by have := hk.lt; omega
   have hn__28 : ck < g_28 := by have := hck.lt; omega
   have hn__28 : cy < g_28 := by have := hcy.lt; omega
   have hn__28 : cp < g_28 := by have := hcp.lt; omega
   have hn__28 : cb < g_28 := by have := hcb.lt; omega
   have z2 := hq.size
   replace hM := hM.ext hq
   replace hk := hk.ext hq
   replace hck := hck.ext hq
   replace hcy := hcy.ext hq
   replace hcp := hcp.ext hq
   replace hcb := hcb.ext hq
   replace hpd := hpd.ext hq
   replace hbd := hbd.ext hq
   replace hC := hC.next hq
   have q2 := hq
   clear hq
   refine hd_next hC ?_
   refine hd_two 19 24 (by kernel_rfl) rfl rfl ?_ ?_
   · refine id ?_
     refine st_call h (evs_cons rfl evs_nil) co32 (tjoin_ok _ [((bd, bds) : IQ), (bs.getD at_ iq0), (fs.getD at_ iq0)] _ ho28.sl (iq3 hbd.sl (hM.b.ins at_ (by omega)).sl (hM.f.ins at_ (by omega)).sl) (by rw [fl3, hJl]; omega)) rfl ?_; clear h a; rintro _ w3 ⟨AJ, rfl, hoJ, hq⟩ a h
     have z3 := hq.size
     replace hM := hM.ext hq
     replace hk := hk.ext hq
     replace hck := hck.ext hq
     replace hcy := hcy.ext hq
     replace hcp := hcp.ext hq
     replace hcb := hcb.ext hq
     replace hpd := hpd.ext hq
     replace hbd := hbd.ext hq
     replace ho28 := ho28.ext hq
     replace hC := hC.next hq
     have q3 := hq
     rw [fl3] at hoJ h
     have hJb := fun k k_ => hoJ.blk k k_
     refine hd_next hC ?_
     refine hd_two 20 24 (by kernel_rfl) rfl rfl ?_ ?_
     · refine id ?_
       refine st_call h (evs_cons rfl (evs_cons rfl (evs_cons rfl (evs_cons rfl (evs_cons rfl evs_nil))))) co29 (kloop_ok ka.gk ka.gy ka.cy ka.gt ka.ct wS.heap.size j _ _ _ ys ts pds 0 (AJ, (bds ++ (bs.getD at_ iq0).2 ++ (fs.getD at_ iq0).2).length, (bds ++ (bs.getD at_ iq0).2 ++ (fs.getD at_ iq0).2).length) (bds ++ (bs.getD at_ iq0).2 ++ (fs.getD at_ iq0).2) _ hk hM.y hM.t hM.ly hM.lt hj hr hpd.sl (fun k k_ => (hpd.blk k k_).2) (by omega) (hoJ.low (by omega)) (by omega) hg0 hm0) rfl ?_; clear h a; rintro _ w4 ⟨u, lq, rfl, hlq, hlth, hyN, htN, hq⟩ a h
       have z4 := hq.size
       have hoL := fun (T : Nat) (h1 : T ≠ τd.Y) (h2 : T ≠ τd.T) (h3 : T ≠ τd.L) => hM.offL hj h1 h2 h3
       replace hck := blk_tf hck hq (hoL _ (by decide) (by decide) (by decide))
       replace hcy := blk_tf hcy hq (hoL _ (by decide) (by decide) (by decide))
       replace hcp := blk_tf hcp hq (hoL _ (by decide) (by decide) (by decide))
       replace hcb := blk_tf hcb hq (hoL _ (by decide) (by decide) (by decide))
       have hM := hM.loop ktd hj hyN htN (by rw [List.length_set]; exact hM.ly) (by rw [List.length_set]; exact hM.lt) hq
       have hM0 := hM
       replace hC := hC.step hq (fun k k_ _ => k_)
       clear hq
       refine hd_next hC ?_
       refine hd_move 21 (by kernel_rfl) (by kernel_rfl) (by kernel_rfl) hC h wn rfl rfl rfl ?_; clear h a; intro a h
       refine hd_extract 22 (by kernel_rfl) (by kernel_rfl) (by kernel_rfl) hC h wn rfl rfl rfl rfl ?_; clear h a; intro a h
       refine hd_extract 23 (by kernel_rfl) (by kernel_rfl) (by kernel_rfl) hC h wn rfl rfl rfl rfl ?_; clear h a; intro a h
       refine hd_one 24 (by kernel_rfl) rfl ?_
       refine st_alloc h zv39 rfl rfl ?_; clear h a; intro w5 hb7 hq hz a h
       obtain ⟨g_7, hg⟩ : ∃ g, g = w4.heap.size := ⟨_, rfl⟩; rw [← hg] at hb7 h hz
       have hn__7 : ck < g_7 := by have := hck.lt; omega
       have hn__7 : cy < g_7 := by have := hcy.lt; omega
       have hn__7 : cp < g_7 := by have := hcp.lt; omega
       have hn__7 : cb < g_7 := by have := hcb.lt; omega
       have z5 := hq.size
       replace hck := hck.ext hq
       replace hcy := hcy.ext hq
       replace hcp := hcp.ext hq
       replace hcb := hcb.ext hq
       replace hC := hC.next hq
       have q5 := hq
       clear hq
       refine hd_next hC ?_
       refine hd_one 25 (by kernel_rfl) rfl ?_
       refine st_storeBA h rfl rfl hb7 rfl (by first | (simp [Value.oneCell', S]; done) | exact Enc.one _ _) sz39 ?_; clear h a; intro w6 hbn hq hz a h
       have z6 := hq.size
       replace hck := hck.fr hq (by first | (simp; done) | (simp; omega) | (simp [blks]; done) | (simp [blks]; omega))
       replace hcy := hcy.fr hq (by first | (simp; done) | (simp; omega) | (simp [blks]; done) | (simp [blks]; omega))
       replace hcp := hcp.fr hq (by first | (simp; done) | (simp; omega) | (simp [blks]; done) | (simp [blks]; omega))
       replace hcb := hcb.fr hq (by first | (simp; done) | (simp; omega) | (simp [blks]; done) | (simp [blks]; omega))
       replace hC := hC.step hq (by first | (simp; done) | (simp; omega))
       have q6 := hq
       clear hb7 hq hz; have hb7 : Blk w6 g_7 _ [_, _] := hbn; clear hbn
       refine hd_next hC ?_
       refine hd_one 26 (by kernel_rfl) rfl ?_
       refine st_assign h rfl rfl ?_; clear h a; intro a h
       refine hd_past (by kernel_rfl) ?_
       refine hd_end (by kernel_rfl) ?_
       clear hC hM_b hk_b hck_b hcy_b hcp_b hcb_b hpd_b hbd_b
       replace hM := hM0.ext (q5.step q6 (by first | (simp; done) | (simp; omega)))
       have hzM := hM.fr.size
       have hcbz := hcb.lt
       have hcpz := hcp.lt
       refine bk (h.sub (L' := [(3, _), (4, _), (7, _), (8, _)]) (.cons rfl (.cons rfl (.cons rfl (.cons rfl .nil))))) ?_; clear h a
       refine tn (sr (s_loadBA rfl hb7 ag39 rfl (s_bslice ([(⟨(j : Int) + 1, (ys.getD j yq0).ct⟩ : LId)]) (ev1 rfl) rfl rfl rfl el31 (Nat.le_of_ble_eq_true rfl) rfl (fun g34 w7 hg34 ho34 q7 z7 => ?_))))
       replace hM := hM0.ext ((q5.step q6 (by first | (simp; done) | (simp; omega))).next q7)
       replace hcb := hcb.ext q7
       replace hck := hck.ext q7
       replace hcy := hcy.ext q7
       replace hcp := hcp.ext q7
       replace hb7 := hb7.ext q7
       have hcbO := hcb
       refine s_storeB0 rfl rfl hcb rfl rfl sz31 (fun w8 hcb q8 z8 => ?_)
       replace hM := hM.tfS ktd hcbO q8 hn8 hn6 hn7
       have hM0 := hM
       replace hck := hck.fr q8 (by first | (simp; done) | (simp; omega))
       replace hcy := hcy.fr q8 (by first | (simp; done) | (simp; omega))
       replace hcp := hcp.fr q8 (by first | (simp; done) | (simp; omega))
       replace hb7 := hb7.fr q8 (by first | (simp; done) | (simp; omega))
       refine nn (sr (s_loadBA rfl hb7 ag39 rfl (s_lit (cs := [_, _, _, _]) (ev3 rfl rfl rfl) bo65 (pok_cons rfl rfl rfl (pok_cons rfl rfl rfl (pok_cons rfl rfl rfl pok_nil))) rfl rfl ?_)))
       refine s_bslice ([(⟨(⟨(j : Int) + 1, (ys.getD j yq0).ct⟩ : LId), true, 0⟩ : Pa)]) (ev1 rfl) rfl rfl rfl el56 (Nat.le_of_ble_eq_true rfl) rfl (fun g37 w9 hg37 ho37 q9 z9 => ?_)
       replace hM := hM0.ext q9
       replace hcp := hcp.ext q9
       replace hck := hck.ext q9
       replace hcy := hcy.ext q9
       replace hcb := hcb.ext q9
       have hcpO := hcp
       refine s_storeB0 rfl rfl hcp rfl rfl sz56 (fun w10 hcp q10 z10 => ?_)
       replace hM := hM.tfO q10 (fun k k_ => by rw [List.mem_singleton.1 k_]; exact hn9) (OffT.one hcpO (by decide)) (OffT.one hcpO (by decide)) (OffT.one hcpO (by decide)) (OffT.one hcpO (by decide)) (OffT.one hcpO (by decide)) (OffT.one hcpO (by decide)) (OffT.one hcpO (by decide)) (OffT.one hcpO (by decide))
       have hM0 := hM
       replace hck := hck.fr q10 (by first | (simp; done) | (simp; omega))
       replace hcy := hcy.fr q10 (by first | (simp; done) | (simp; omega))
       replace hcb := hcb.fr q10 (by first | (simp; done) | (simp; omega))
       refine nn (sr (mv rfl rfl (asg rfl rfl (nn (rt (r1 Tryz.results31 rfl ?_))))))
       replace ho37 := ho37.fr q10 (by first | (simp; done) | (simp; omega) | (simp [blks]; done) | (simp [blks]; omega) | (intro k hk hb; simp at hk; subst hk; have := ho37.blk _ hb; omega))
       replace ho34 := ((ho34.fr q8 (by first | (simp; done) | (simp; omega) | (simp [blks]; done) | (simp [blks]; omega) | (intro k hk hb; simp at hk; subst hk; have := ho34.blk _ hb; omega))).ext q9).fr q10 (by first | (simp; done) | (simp; omega) | (simp [blks]; done) | (simp [blks]; omega) | (intro k hk hb; simp at hk; subst hk; have := ho34.blk _ hb; omega))
       exact ⟨_, rfl, rfl, ⟨u, lq, hM, hlq, fun k k_ => by rw [hlth] at k_; have := hJb k k_; omega⟩, hck, hcy, ⟨(_, _, _), hcp, ho37.low (by omega)⟩, ⟨(_, _, _), hcb, ho34.low (by omega)⟩⟩
     · refine id ?_
       refine st_alloc h zv39 rfl rfl ?_; clear h a; intro w11 hb7 hq hz a h
       obtain ⟨g_7, hg⟩ : ∃ g, g = w3.heap.size := ⟨_, rfl⟩; rw [← hg] at hb7 h hz
       have hn_.gk_7 : ka.gk < g_7 := by have := hk.lt; omega
       have hn__7 : ck < g_7 := by have := hck.lt; omega
       have hn__7 : cy < g_7 := by have := hcy.lt; omega
       have hn__7 : cp < g_7 := by have := hcp.lt; omega
       have hn__7 : cb < g_7 := by have := hcb.lt; omega
       have hn_28_7 : g_28 < g_7 := by have := (ho28.blk g_28 (by simp [blks])).2; omega
       have z11 := hq.size
       replace hM := hM.ext hq
       replace hk := hk.ext hq
       replace hck := hck.ext hq
       replace hcy := hcy.ext hq
       replace hcp := hcp.ext hq
       replace hcb := hcb.ext hq
       replace hpd := hpd.ext hq
       replace hbd := hbd.ext hq
       replace ho28 := ho28.ext hq
       replace hoJ := hoJ.ext hq
       replace hC := hC.next hq
       have q11 := hq
       clear hq
       refine hd_next hC ?_
       refine hd_one 20 (by kernel_rfl) rfl ?_
       refine st_call h (evs_cons rfl (evs_cons rfl (evs_cons rfl (evs_cons rfl (evs_cons rfl evs_nil))))) co29 (kloop_ok ka.gk ka.gy ka.cy ka.gt ka.ct wS.heap.size j _ _ _ ys ts pds 0 (AJ, (bds ++ (bs.getD at_ iq0).2 ++ (fs.getD at_ iq0).2).length, (bds ++ (bs.getD at_ iq0).2 ++ (fs.getD at_ iq0).2).length) (bds ++ (bs.getD at_ iq0).2 ++ (fs.getD at_ iq0).2) _ hk hM.y hM.t hM.ly hM.lt hj hr hpd.sl (fun k k_ => (hpd.blk k k_).2) (by omega) (hoJ.low (by omega)) (by omega) hg0 hm0) rfl ?_; clear h a; rintro _ w12 ⟨u, lq, rfl, hlq, hlth, hyN, htN, hq⟩ a h
       have z12 := hq.size
       have hoL := fun (T : Nat) (h1 : T ≠ τd.Y) (h2 : T ≠ τd.T) (h3 : T ≠ τd.L) => hM.offL hj h1 h2 h3
       replace hck := blk_tf hck hq (hoL _ (by decide) (by decide) (by decide))
       replace hcy := blk_tf hcy hq (hoL _ (by decide) (by decide) (by decide))
       replace hcp := blk_tf hcp hq (hoL _ (by decide) (by decide) (by decide))
       replace hcb := blk_tf hcb hq (hoL _ (by decide) (by decide) (by decide))
       replace hb7 := blk_tf hb7 hq (hoL _ (by decide) (by decide) (by decide))
       have hbA := hb7
       have hM := hM.loop ktd hj hyN htN (by rw [List.length_set]; exact hM.ly) (by rw [List.length_set]; exact hM.lt) hq
       have hM0 := hM
       replace hC := hC.step hq (fun k k_ _ => k_)
       clear hq
       refine hd_next hC ?_
       refine hd_move 21 (by kernel_rfl) (by kernel_rfl) (by kernel_rfl) hC h wn rfl rfl rfl ?_; clear h a; intro a h
       refine hd_extract 22 (by kernel_rfl) (by kernel_rfl) (by kernel_rfl) hC h wn rfl rfl rfl rfl ?_; clear h a; intro a h
       refine hd_extract 23 (by kernel_rfl) (by kernel_rfl) (by kernel_rfl) hC h wn rfl rfl rfl rfl ?_; clear h a; intro a h
       refine hd_one 25 (by kernel_rfl) rfl ?_
       refine st_storeBA h rfl rfl hb7 rfl (by first | (simp [Value.oneCell', S]; done) | exact Enc.one _ _) sz39 ?_; clear h a; intro w13 hbn hq hz a h
       have z13 := hq.size
       replace hck := hck.fr hq (by first | (simp; done) | (simp; omega) | (simp [blks]; done) | (simp [blks]; omega))
       replace hcy := hcy.fr hq (by first | (simp; done) | (simp; omega) | (simp [blks]; done) | (simp [blks]; omega))
       replace hcp := hcp.fr hq (by first | (simp; done) | (simp; omega) | (simp [blks]; done) | (simp [blks]; omega))
       replace hcb := hcb.fr hq (by first | (simp; done) | (simp; omega) | (simp [blks]; done) | (simp [blks]; omega))
       replace hC := hC.step hq (by first | (simp; done) | (simp; omega))
       have q13 := hq
       clear hb7 hq hz; have hb7 : Blk w13 g_7 _ [_, _] := hbn; clear hbn
       refine hd_next hC ?_
       refine hd_one 26 (by kernel_rfl) rfl ?_
       refine st_assign h rfl rfl ?_; clear h a; intro a h
       refine hd_past (by kernel_rfl) ?_
       refine hd_end (by kernel_rfl) ?_
       clear hC hM_b hk_b hck_b hcy_b hcp_b hcb_b hpd_b hbd_b
       replace hM := hM.tfI ktd (by decide) (by decide) hbA q13 (by omega) (fun i hi q hq k_ => by
         rcases put_mem (by rw [hltO]; exact hj) (by rw [List.length_set, hltO]; exact hi) hq with ⟨i', h1, h2⟩ | e
         · have hi' : i' < 6 := by rw [← hltO]; exact h1
           have := hI1 i' hi' q h2 _ k_; omega
         · subst e; rw [hlth] at k_; have := hJb _ k_; omega) (fun i hi k_ => by have := hI2 i hi _ k_; omega) (fun i hi k_ => by have := hI3 i hi _ k_; omega) (fun p hp => by have := hI4 p hp; omega)
       have hM0 := hM
       have hzM := hM.fr.size
       have hcbz := hcb.lt
       have hcpz := hcp.lt
       refine bk (h.sub (L' := [(3, _), (4, _), (7, _), (8, _)]) (.cons rfl (.cons rfl (.cons rfl (.cons rfl .nil))))) ?_; clear h a
       refine tn (sr (s_loadBA rfl hb7 ag39 rfl (s_bslice ([(⟨(j : Int) + 1, (ys.getD j yq0).ct⟩ : LId)]) (ev1 rfl) rfl rfl rfl el31 (Nat.le_of_ble_eq_true rfl) rfl (fun g34 w14 hg34 ho34 q14 z14 => ?_))))
       replace hM := hM0.ext q14
       replace hcb := hcb.ext q14
       replace hck := hck.ext q14
       replace hcy := hcy.ext q14
       replace hcp := hcp.ext q14
       replace hb7 := hb7.ext q14
       have hcbO := hcb
       refine s_storeB0 rfl rfl hcb rfl rfl sz31 (fun w15 hcb q15 z15 => ?_)
       replace hM := hM.tfS ktd hcbO q15 hn8 hn6 hn7
       have hM0 := hM
       replace hck := hck.fr q15 (by first | (simp; done) | (simp; omega))
       replace hcy := hcy.fr q15 (by first | (simp; done) | (simp; omega))
       replace hcp := hcp.fr q15 (by first | (simp; done) | (simp; omega))
       replace hb7 := hb7.fr q15 (by first | (simp; done) | (simp; omega))
       refine nn (sr (s_loadBA rfl hb7 ag39 rfl (s_lit (cs := [_, _, _, _]) (ev3 rfl rfl rfl) bo65 (pok_cons rfl rfl rfl (pok_cons rfl rfl rfl (pok_cons rfl rfl rfl pok_nil))) rfl rfl ?_)))
       refine s_bslice ([(⟨(⟨(j : Int) + 1, (ys.getD j yq0).ct⟩ : LId), true, 0⟩ : Pa)]) (ev1 rfl) rfl rfl rfl el56 (Nat.le_of_ble_eq_true rfl) rfl (fun g37 w16 hg37 ho37 q16 z16 => ?_)
       replace hM := hM0.ext q16
       replace hcp := hcp.ext q16
       replace hck := hck.ext q16
       replace hcy := hcy.ext q16
       replace hcb := hcb.ext q16
       have hcpO := hcp
       refine s_storeB0 rfl rfl hcp rfl rfl sz56 (fun w17 hcp q17 z17 => ?_)
       replace hM := hM.tfO q17 (fun k k_ => by rw [List.mem_singleton.1 k_]; exact hn9) (OffT.one hcpO (by decide)) (OffT.one hcpO (by decide)) (OffT.one hcpO (by decide)) (OffT.one hcpO (by decide)) (OffT.one hcpO (by decide)) (OffT.one hcpO (by decide)) (OffT.one hcpO (by decide)) (OffT.one hcpO (by decide))
       have hM0 := hM
       replace hck := hck.fr q17 (by first | (simp; done) | (simp; omega))
       replace hcy := hcy.fr q17 (by first | (simp; done) | (simp; omega))
       replace hcb := hcb.fr q17 (by first | (simp; done) | (simp; omega))
       refine nn (sr (mv rfl rfl (asg rfl rfl (nn (rt (r1 Tryz.results31 rfl ?_))))))
       replace ho37 := ho37.fr q17 (by first | (simp; done) | (simp; omega) | (simp [blks]; done) | (simp [blks]; omega) | (intro k hk hb; simp at hk; subst hk; have := ho37.blk _ hb; omega))
       replace ho34 := ((ho34.fr q15 (by first | (simp; done) | (simp; omega) | (simp [blks]; done) | (simp [blks]; omega) | (intro k hk hb; simp at hk; subst hk; have := ho34.blk _ hb; omega))).ext q16).fr q17 (by first | (simp; done) | (simp; omega) | (simp [blks]; done) | (simp [blks]; omega) | (intro k hk hb; simp at hk; subst hk; have := ho34.blk _ hb; omega))
       exact ⟨_, rfl, rfl, ⟨u, lq, hM, hlq, fun k k_ => by rw [hlth] at k_; have := hJb k k_; omega⟩, hck, hcy, ⟨(_, _, _), hcp, ho37.low (by omega)⟩, ⟨(_, _, _), hcb, ho34.low (by omega)⟩⟩
   · refine id ?_
     refine st_alloc h zv39 rfl rfl ?_; clear h a; intro w18 hb7 hq hz a h
     obtain ⟨g_7, hg⟩ : ∃ g, g = w2.heap.size := ⟨_, rfl⟩; rw [← hg] at hb7 h hz
     have hn_.gk_7 : ka.gk < g_7 := by have := hk.lt; omega
     have hn__7 : ck < g_7 := by have := hck.lt; omega
     have hn__7 : cy < g_7 := by have := hcy.lt; omega
     have hn__7 : cp < g_7 := by have := hcp.lt; omega
     have hn__7 : cb < g_7 := by have := hcb.lt; omega
     have hn_28_7 : g_28 < g_7 := by have := (ho28.blk g_28 (by simp [blks])).2; omega
     have z18 := hq.size
     replace hM := hM.ext hq
     replace hk := hk.ext hq
     replace hck := hck.ext hq
     replace hcy := hcy.ext hq
     replace hcp := hcp.ext hq
     replace hcb := hcb.ext hq
     replace hpd := hpd.ext hq
     replace hbd := hbd.ext hq
     replace ho28 := ho28.ext hq
     replace hC := hC.next hq
     have q18 := hq
     clear hq
     refine hd_next hC ?_
     refine hd_one 19 (by kernel_rfl) rfl ?_
     refine st_call h (evs_cons rfl evs_nil) co32 (tjoin_ok _ [((bd, bds) : IQ), (bs.getD at_ iq0), (fs.getD at_ iq0)] _ ho28.sl (iq3 hbd.sl (hM.b.ins at_ (by omega)).sl (hM.f.ins at_ (by omega)).sl) (by rw [fl3, hJl]; omega)) rfl ?_; clear h a; rintro _ w19 ⟨AJ, rfl, hoJ, hq⟩ a h
     have z19 := hq.size
     replace hM := hM.ext hq
     replace hk := hk.ext hq
     replace hck := hck.ext hq
     replace hcy := hcy.ext hq
     replace hcp := hcp.ext hq
     replace hcb := hcb.ext hq
     replace hpd := hpd.ext hq
     replace hbd := hbd.ext hq
     replace ho28 := ho28.ext hq
     replace hb7 := hb7.ext hq
     replace hC := hC.next hq
     have q19 := hq
     rw [fl3] at hoJ h
     have hJb := fun k k_ => hoJ.blk k k_
     refine hd_next hC ?_
     refine hd_one 20 (by kernel_rfl) rfl ?_
     refine st_call h (evs_cons rfl (evs_cons rfl (evs_cons rfl (evs_cons rfl (evs_cons rfl evs_nil))))) co29 (kloop_ok ka.gk ka.gy ka.cy ka.gt ka.ct wS.heap.size j _ _ _ ys ts pds 0 (AJ, (bds ++ (bs.getD at_ iq0).2 ++ (fs.getD at_ iq0).2).length, (bds ++ (bs.getD at_ iq0).2 ++ (fs.getD at_ iq0).2).length) (bds ++ (bs.getD at_ iq0).2 ++ (fs.getD at_ iq0).2) _ hk hM.y hM.t hM.ly hM.lt hj hr hpd.sl (fun k k_ => (hpd.blk k k_).2) (by omega) (hoJ.low (by omega)) (by omega) hg0 hm0) rfl ?_; clear h a; rintro _ w20 ⟨u, lq, rfl, hlq, hlth, hyN, htN, hq⟩ a h
     have z20 := hq.size
     have hoL := fun (T : Nat) (h1 : T ≠ τd.Y) (h2 : T ≠ τd.T) (h3 : T ≠ τd.L) => hM.offL hj h1 h2 h3
     replace hck := blk_tf hck hq (hoL _ (by decide) (by decide) (by decide))
     replace hcy := blk_tf hcy hq (hoL _ (by decide) (by decide) (by decide))
     replace hcp := blk_tf hcp hq (hoL _ (by decide) (by decide) (by decide))
     replace hcb := blk_tf hcb hq (hoL _ (by decide) (by decide) (by decide))
     replace hb7 := blk_tf hb7 hq (hoL _ (by decide) (by decide) (by decide))
     have hbA := hb7
     have hM := hM.loop ktd hj hyN htN (by rw [List.length_set]; exact hM.ly) (by rw [List.length_set]; exact hM.lt) hq
     have hM0 := hM
     replace hC := hC.step hq (fun k k_ _ => k_)
     clear hq
     refine hd_next hC ?_
     refine hd_move 21 (by kernel_rfl) (by kernel_rfl) (by kernel_rfl) hC h wn rfl rfl rfl ?_; clear h a; intro a h
     refine hd_extract 22 (by kernel_rfl) (by kernel_rfl) (by kernel_rfl) hC h wn rfl rfl rfl rfl ?_; clear h a; intro a h
     refine hd_extract 23 (by kernel_rfl) (by kernel_rfl) (by kernel_rfl) hC h wn rfl rfl rfl rfl ?_; clear h a; intro a h
     refine hd_one 25 (by kernel_rfl) rfl ?_
     refine st_storeBA h rfl rfl hb7 rfl (by first | (simp [Value.oneCell', S]; done) | exact Enc.one _ _) sz39 ?_; clear h a; intro w21 hbn hq hz a h
     have z21 := hq.size
     replace hck := hck.fr hq (by first | (simp; done) | (simp; omega) | (simp [blks]; done) | (simp [blks]; omega))
     replace hcy := hcy.fr hq (by first | (simp; done) | (simp; omega) | (simp [blks]; done) | (simp [blks]; omega))
     replace hcp := hcp.fr hq (by first | (simp; done) | (simp; omega) | (simp [blks]; done) | (simp [blks]; omega))
     replace hcb := hcb.fr hq (by first | (simp; done) | (simp; omega) | (simp [blks]; done) | (simp [blks]; omega))
     replace hC := hC.step hq (by first | (simp; done) | (simp; omega))
     have q21 := hq
     clear hb7 hq hz; have hb7 : Blk w21 g_7 _ [_, _] := hbn; clear hbn
     refine hd_next hC ?_
     refine hd_one 26 (by kernel_rfl) rfl ?_
     refine st_assign h rfl rfl ?_; clear h a; intro a h
     refine hd_past (by kernel_rfl) ?_
     refine hd_end (by kernel_rfl) ?_
     clear hC hM_b hk_b hck_b hcy_b hcp_b hcb_b hpd_b hbd_b
     replace hM := hM.tfI ktd (by decide) (by decide) hbA q21 (by omega) (fun i hi q hq k_ => by
       rcases put_mem (by rw [hltO]; exact hj) (by rw [List.length_set, hltO]; exact hi) hq with ⟨i', h1, h2⟩ | e
       · have hi' : i' < 6 := by rw [← hltO]; exact h1
         have := hI1 i' hi' q h2 _ k_; omega
       · subst e; rw [hlth] at k_; have := hJb _ k_; omega) (fun i hi k_ => by have := hI2 i hi _ k_; omega) (fun i hi k_ => by have := hI3 i hi _ k_; omega) (fun p hp => by have := hI4 p hp; omega)
     have hM0 := hM
     have hzM := hM.fr.size
     have hcbz := hcb.lt
     have hcpz := hcp.lt
     refine bk (h.sub (L' := [(3, _), (4, _), (7, _), (8, _)]) (.cons rfl (.cons rfl (.cons rfl (.cons rfl .nil))))) ?_; clear h a
     refine tn (sr (s_loadBA rfl hb7 ag39 rfl (s_bslice ([(⟨(j : Int) + 1, (ys.getD j yq0).ct⟩ : LId)]) (ev1 rfl) rfl rfl rfl el31 (Nat.le_of_ble_eq_true rfl) rfl (fun g34 w22 hg34 ho34 q22 z22 => ?_))))
     replace hM := hM0.ext q22
     replace hcb := hcb.ext q22
     replace hck := hck.ext q22
     replace hcy := hcy.ext q22
     replace hcp := hcp.ext q22
     replace hb7 := hb7.ext q22
     have hcbO := hcb
     refine s_storeB0 rfl rfl hcb rfl rfl sz31 (fun w23 hcb q23 z23 => ?_)
     replace hM := hM.tfS ktd hcbO q23 hn8 hn6 hn7
     have hM0 := hM
     replace hck := hck.fr q23 (by first | (simp; done) | (simp; omega))
     replace hcy := hcy.fr q23 (by first | (simp; done) | (simp; omega))
     replace hcp := hcp.fr q23 (by first | (simp; done) | (simp; omega))
     replace hb7 := hb7.fr q23 (by first | (simp; done) | (simp; omega))
     refine nn (sr (s_loadBA rfl hb7 ag39 rfl (s_lit (cs := [_, _, _, _]) (ev3 rfl rfl rfl) bo65 (pok_cons rfl rfl rfl (pok_cons rfl rfl rfl (pok_cons rfl rfl rfl pok_nil))) rfl rfl ?_)))
     refine s_bslice ([(⟨(⟨(j : Int) + 1, (ys.getD j yq0).ct⟩ : LId), true, 0⟩ : Pa)]) (ev1 rfl) rfl rfl rfl el56 (Nat.le_of_ble_eq_true rfl) rfl (fun g37 w24 hg37 ho37 q24 z24 => ?_)
     replace hM := hM0.ext q24
     replace hcp := hcp.ext q24
     replace hck := hck.ext q24
     replace hcy := hcy.ext q24
     replace hcb := hcb.ext q24
     have hcpO := hcp
     refine s_storeB0 rfl rfl hcp rfl rfl sz56 (fun w25 hcp q25 z25 => ?_)
     replace hM := hM.tfO q25 (fun k k_ => by rw [List.mem_singleton.1 k_]; exact hn9) (OffT.one hcpO (by decide)) (OffT.one hcpO (by decide)) (OffT.one hcpO (by decide)) (OffT.one hcpO (by decide)) (OffT.one hcpO (by decide)) (OffT.one hcpO (by decide)) (OffT.one hcpO (by decide)) (OffT.one hcpO (by decide))
     have hM0 := hM
     replace hck := hck.fr q25 (by first | (simp; done) | (simp; omega))
     replace hcy := hcy.fr q25 (by first | (simp; done) | (simp; omega))
     replace hcb := hcb.fr q25 (by first | (simp; done) | (simp; omega))
     refine nn (sr (mv rfl rfl (asg rfl rfl (nn (rt (r1 Tryz.results31 rfl ?_))))))
     replace ho37 := ho37.fr q25 (by first | (simp; done) | (simp; omega) | (simp [blks]; done) | (simp [blks]; omega) | (intro k hk hb; simp at hk; subst hk; have := ho37.blk _ hb; omega))
     replace ho34 := ((ho34.fr q23 (by first | (simp; done) | (simp; omega) | (simp [blks]; done) | (simp [blks]; omega) | (intro k hk hb; simp at hk; subst hk; have := ho34.blk _ hb; omega))).ext q24).fr q25 (by first | (simp; done) | (simp; omega) | (simp [blks]; done) | (simp [blks]; omega) | (intro k hk hb; simp at hk; subst hk; have := ho34.blk _ hb; omega))
     exact ⟨_, rfl, rfl, ⟨u, lq, hM, hlq, fun k k_ => by rw [hlth] at k_; have := hJb k k_; omega⟩, hck, hcy, ⟨(_, _, _), hcp, ho37.low (by omega)⟩, ⟨(_, _, _), hcb, ho34.low (by omega)⟩⟩
 · refine id ?_
   refine st_alloc h zv39 rfl rfl ?_; clear h a; intro w26 hb7 hq hz a h
   obtain ⟨g_7, hg⟩ : ∃ g, g = w1.heap.size := ⟨_, rfl⟩; rw [← hg] at hb7 h hz
   have hn_.gk_7 : ka.gk < g_7 := by have := hk.lt; omega
   have hn__7 : ck < g_7 := by have := hck.lt; omega
   have hn__7 : cy < g_7 := by have := hcy.lt; omega
   have hn__7 : cp < g_7 := by have := hcp.lt; omega
   have hn__7 : cb < g_7 := by have := hcb.lt; omega
   have z26 := hq.size
   replace hM := hM.ext hq
   replace hk := hk.ext hq
   replace hck := hck.ext hq
   replace hcy := hcy.ext hq
   replace hcp := hcp.ext hq
   replace hcb := hcb.ext hq
   replace hpd := hpd.ext hq
   replace hbd := hbd.ext hq
   replace hC := hC.next hq
   have q26 := hq
   clear hq
   refine hd_next hC ?_
   refine hd_one 18 (by kernel_rfl) rfl ?_
   refine st_bslice ([((bd, bds) : IQ), (bs.getD at_ iq0), (fs.getD at_ iq0)]) h (evs_cons rfl (evs_cons rfl (evs_cons rfl evs_nil))) rfl rfl rfl el48 (Nat.le_of_ble_eq_true rfl) rfl ?_; clear h a; intro g_28 w27 hg ho28 hq hz a h
   have hn_.gk_28 : ka.gk < g_28 := by have := hk.lt; omega
   have hn__28 : ck < g_28 := by have := hck.lt; omega
   have hn__28 : cy < g_28 := by have := hcy.lt; omega
   have hn__28 : cp < g_28 := by have := hcp.lt; omega
   have hn__28 : cb < g_28 := by have := hcb.lt; omega
   have hn_7_28 : g_7 < g_28 := by have := hb7.lt; omega
   have z27 := hq.size
   replace hM := hM.ext hq
   replace hk := hk.ext hq
   replace hck := hck.ext hq
   replace hcy := hcy.ext hq
   replace hcp := hcp.ext hq
   replace hcb := hcb.ext hq
   replace hpd := hpd.ext hq
   replace hbd := hbd.ext hq
   replace hb7 := hb7.ext hq
   replace hC := hC.next hq
   have q27 := hq
   clear hq
   refine hd_next hC ?_
   refine hd_one 19 (by kernel_rfl) rfl ?_
   refine st_call h (evs_cons rfl evs_nil) co32 (tjoin_ok _ [((bd, bds) : IQ), (bs.getD at_ iq0), (fs.getD at_ iq0)] _ ho28.sl (iq3 hbd.sl (hM.b.ins at_ (by omega)).sl (hM.f.ins at_ (by omega)).sl) (by rw [fl3, hJl]; omega)) rfl ?_; clear h a; rintro _ w28 ⟨AJ, rfl, hoJ, hq⟩ a h
   have z28 := hq.size
   replace hM := hM.ext hq
   replace hk := hk.ext hq
   replace hck := hck.ext hq
   replace hcy := hcy.ext hq
   replace hcp := hcp.ext hq
   replace hcb := hcb.ext hq
   replace hpd := hpd.ext hq
   replace hbd := hbd.ext hq
   replace hb7 := hb7.ext hq
   replace ho28 := ho28.ext hq
   replace hC := hC.next hq
   have q28 := hq
   rw [fl3] at hoJ h
   have hJb := fun k k_ => hoJ.blk k k_
   refine hd_next hC ?_
   refine hd_one 20 (by kernel_rfl) rfl ?_
   refine st_call h (evs_cons rfl (evs_cons rfl (evs_cons rfl (evs_cons rfl (evs_cons rfl evs_nil))))) co29 (kloop_ok ka.gk ka.gy ka.cy ka.gt ka.ct wS.heap.size j _ _ _ ys ts pds 0 (AJ, (bds ++ (bs.getD at_ iq0).2 ++ (fs.getD at_ iq0).2).length, (bds ++ (bs.getD at_ iq0).2 ++ (fs.getD at_ iq0).2).length) (bds ++ (bs.getD at_ iq0).2 ++ (fs.getD at_ iq0).2) _ hk hM.y hM.t hM.ly hM.lt hj hr hpd.sl (fun k k_ => (hpd.blk k k_).2) (by omega) (hoJ.low (by omega)) (by omega) hg0 hm0) rfl ?_; clear h a; rintro _ w29 ⟨u, lq, rfl, hlq, hlth, hyN, htN, hq⟩ a h
   have z29 := hq.size
   have hoL := fun (T : Nat) (h1 : T ≠ τd.Y) (h2 : T ≠ τd.T) (h3 : T ≠ τd.L) => hM.offL hj h1 h2 h3
   replace hck := blk_tf hck hq (hoL _ (by decide) (by decide) (by decide))
   replace hcy := blk_tf hcy hq (hoL _ (by decide) (by decide) (by decide))
   replace hcp := blk_tf hcp hq (hoL _ (by decide) (by decide) (by decide))
   replace hcb := blk_tf hcb hq (hoL _ (by decide) (by decide) (by decide))
   replace hb7 := blk_tf hb7 hq (hoL _ (by decide) (by decide) (by decide))
   have hbA := hb7
   have hM := hM.loop ktd hj hyN htN (by rw [List.length_set]; exact hM.ly) (by rw [List.length_set]; exact hM.lt) hq
   have hM0 := hM
   replace hC := hC.step hq (fun k k_ _ => k_)
   clear hq
   refine hd_next hC ?_
   refine hd_move 21 (by kernel_rfl) (by kernel_rfl) (by kernel_rfl) hC h wn rfl rfl rfl ?_; clear h a; intro a h
   refine hd_extract 22 (by kernel_rfl) (by kernel_rfl) (by kernel_rfl) hC h wn rfl rfl rfl rfl ?_; clear h a; intro a h
   refine hd_extract 23 (by kernel_rfl) (by kernel_rfl) (by kernel_rfl) hC h wn rfl rfl rfl rfl ?_; clear h a; intro a h
   refine hd_one 25 (by kernel_rfl) rfl ?_
   refine st_storeBA h rfl rfl hb7 rfl (by first | (simp [Value.oneCell', S]; done) | exact Enc.one _ _) sz39 ?_; clear h a; intro w30 hbn hq hz a h
   have z30 := hq.size
   replace hck := hck.fr hq (by first | (simp; done) | (simp; omega) | (simp [blks]; done) | (simp [blks]; omega))
   replace hcy := hcy.fr hq (by first | (simp; done) | (simp; omega) | (simp [blks]; done) | (simp [blks]; omega))
   replace hcp := hcp.fr hq (by first | (simp; done) | (simp; omega) | (simp [blks]; done) | (simp [blks]; omega))
   replace hcb := hcb.fr hq (by first | (simp; done) | (simp; omega) | (simp [blks]; done) | (simp [blks]; omega))
   replace hC := hC.step hq (by first | (simp; done) | (simp; omega))
   have q30 := hq
   clear hb7 hq hz; have hb7 : Blk w30 g_7 _ [_, _] := hbn; clear hbn
   refine hd_next hC ?_
   refine hd_one 26 (by kernel_rfl) rfl ?_
   refine st_assign h rfl rfl ?_; clear h a; intro a h
   refine hd_past (by kernel_rfl) ?_
   refine hd_end (by kernel_rfl) ?_
   clear hC hM_b hk_b hck_b hcy_b hcp_b hcb_b hpd_b hbd_b
   replace hM := hM.tfI ktd (by decide) (by decide) hbA q30 (by omega) (fun i hi q hq k_ => by
     rcases put_mem (by rw [hltO]; exact hj) (by rw [List.length_set, hltO]; exact hi) hq with ⟨i', h1, h2⟩ | e
     · have hi' : i' < 6 := by rw [← hltO]; exact h1
       have := hI1 i' hi' q h2 _ k_; omega
     · subst e; rw [hlth] at k_; have := hJb _ k_; omega) (fun i hi k_ => by have := hI2 i hi _ k_; omega) (fun i hi k_ => by have := hI3 i hi _ k_; omega) (fun p hp => by have := hI4 p hp; omega)
   have hM0 := hM
   have hzM := hM.fr.size
   have hcbz := hcb.lt
   have hcpz := hcp.lt
   refine bk (h.sub (L' := [(3, _), (4, _), (7, _), (8, _)]) (.cons rfl (.cons rfl (.cons rfl (.cons rfl .nil))))) ?_; clear h a
   refine tn (sr (s_loadBA rfl hb7 ag39 rfl (s_bslice ([(⟨(j : Int) + 1, (ys.getD j yq0).ct⟩ : LId)]) (ev1 rfl) rfl rfl rfl el31 (Nat.le_of_ble_eq_true rfl) rfl (fun g34 w31 hg34 ho34 q31 z31 => ?_))))
   replace hM := hM0.ext q31
   replace hcb := hcb.ext q31
   replace hck := hck.ext q31
   replace hcy := hcy.ext q31
   replace hcp := hcp.ext q31
   replace hb7 := hb7.ext q31
   have hcbO := hcb
   refine s_storeB0 rfl rfl hcb rfl rfl sz31 (fun w32 hcb q32 z32 => ?_)
   replace hM := hM.tfS ktd hcbO q32 hn8 hn6 hn7
   have hM0 := hM
   replace hck := hck.fr q32 (by first | (simp; done) | (simp; omega))
   replace hcy := hcy.fr q32 (by first | (simp; done) | (simp; omega))
   replace hcp := hcp.fr q32 (by first | (simp; done) | (simp; omega))
   replace hb7 := hb7.fr q32 (by first | (simp; done) | (simp; omega))
   refine nn (sr (s_loadBA rfl hb7 ag39 rfl (s_lit (cs := [_, _, _, _]) (ev3 rfl rfl rfl) bo65 (pok_cons rfl rfl rfl (pok_cons rfl rfl rfl (pok_cons rfl rfl rfl pok_nil))) rfl rfl ?_)))
   refine s_bslice ([(⟨(⟨(j : Int) + 1, (ys.getD j yq0).ct⟩ : LId), true, 0⟩ : Pa)]) (ev1 rfl) rfl rfl rfl el56 (Nat.le_of_ble_eq_true rfl) rfl (fun g37 w33 hg37 ho37 q33 z33 => ?_)
   replace hM := hM0.ext q33
   replace hcp := hcp.ext q33
   replace hck := hck.ext q33
   replace hcy := hcy.ext q33
   replace hcb := hcb.ext q33
   have hcpO := hcp
   refine s_storeB0 rfl rfl hcp rfl rfl sz56 (fun w34 hcp q34 z34 => ?_)
   replace hM := hM.tfO q34 (fun k k_ => by rw [List.mem_singleton.1 k_]; exact hn9) (OffT.one hcpO (by decide)) (OffT.one hcpO (by decide)) (OffT.one hcpO (by decide)) (OffT.one hcpO (by decide)) (OffT.one hcpO (by decide)) (OffT.one hcpO (by decide)) (OffT.one hcpO (by decide)) (OffT.one hcpO (by decide))
   have hM0 := hM
   replace hck := hck.fr q34 (by first | (simp; done) | (simp; omega))
   replace hcy := hcy.fr q34 (by first | (simp; done) | (simp; omega))
   replace hcb := hcb.fr q34 (by first | (simp; done) | (simp; omega))
   refine nn (sr (mv rfl rfl (asg rfl rfl (nn (rt (r1 Tryz.results31 rfl ?_))))))
   replace ho37 := ho37.fr q34 (by first | (simp; done) | (simp; omega) | (simp [blks]; done) | (simp [blks]; omega) | (intro k hk hb; simp at hk; subst hk; have := ho37.blk _ hb; omega))
   replace ho34 := ((ho34.fr q32 (by first | (simp; done) | (simp; omega) | (simp [blks]; done) | (simp [blks]; omega) | (intro k hk hb; simp at hk; subst hk; have := ho34.blk _ hb; omega))).ext q33).fr q34 (by first | (simp; done) | (simp; omega) | (simp [blks]; done) | (simp [blks]; omega) | (intro k hk hb; simp at hk; subst hk; have := ho34.blk _ hb; omega))
   exact ⟨_, rfl, rfl, ⟨u, lq, hM, hlq, fun k k_ => by rw [hlth] at k_; have := hJb k k_; omega⟩, hck, hcy, ⟨(_, _, _), hcp, ho37.low (by omega)⟩, ⟨(_, _, _), hcb, ho34.low (by omega)⟩⟩
end Go.Proofs.YtkionldalpijpaaGreatDoor
namespace Go.Proofs.YtkionldalpijpaaGreatDoor
open Go.Lw Go.G21

/-- The cells that are kept are no parts of loops or stacks. -/
def OffIds (ka : KA) (ts : List TQ) (fs bs : List IQ) : Prop :=
  ∀ p ∈ ka.ids, (∀ i, i < 6 → ∀ q ∈ (ts.getD i tq0).2, p.1 ∉ blks (slv q.th)) ∧ (∀ i, i < ka.wd → p.1 ∉ blks (slv (fs.getD i iq0).1)) ∧ (∀ i, i < ka.wd → p.1 ∉ blks (slv (bs.getD i iq0).1))
def KnB (wS : World) (ka : KA) (ck cy cp cb : Nat) (j f : Nat) (z : List (List Lp)) (s : Lst) (en : Nat → Bool) (k : Nat) (w : World) : Prop :=
  ∃ ys ts fs bs bd pd, KnM τd 50 wS ka w ys ts fs bs ∧ KnR ka.wd ys ts fs bs (z.set j (z.getD j [] ++ bndL ka.wd s ((j : Int) + 1) f k)) en (frS s) (bkS ka.wd s) ∧ Blk w ck 46 [.pointer (some ⟨ka.gk, 0, none⟩)] ∧ Blk w cy 5 [.int .u8 ((j : Int) + 1)] ∧ Blk w cp 56 [slv pd] ∧ Blk w cb 31 [slv bd] ∧ Lw.Own encPa 65 wS.heap.size w (slv pd) (pdK ((j : Int) + 1) f k) ∧ Lw.Own encId 39 wS.heap.size w (slv bd) (bdK ((j : Int) + 1) f k) ∧ OffIds ka ts fs bs
theorem halfB_ok (wS : World) (ka : KA) (ck cy cp cb : Nat) (j f : Nat) (z : List (List Lp)) (s : Lst) (en : Nat → Bool) (w0 : World) (h0 : KnB wS ka ck cy cp cb j f z s en 0 w0) (hne : ck ≠ cb ∧ cy ≠ cb ∧ cp ≠ cb ∧ ck ≠ cp ∧ cy ≠ cp ∧ cb ≠ ka.gf ∧ cb ≠ ka.gb ∧ wS.heap.size ≤ cb ∧ wS.heap.size ≤ cp) (hj : j < 6) (hz : z.length = 6) (hf : (z.getD j []).length = f) (hf1 : 1 ≤ f) (hwd : ka.wd ≤ 1000) (hfl : f + 2 * ka.wd < 2048) (he : en j = true) :
    Rets Tryz.prog 26 #[.int .i64 (ka.wd : Int), .int .u8 1, .func (.func 31) #[] [Value.pointer (some ⟨ck, 0, none⟩), Value.pointer (some ⟨cy, 0, none⟩), Value.pointer (some ⟨cp, 0, none⟩), Value.pointer (some ⟨cb, 0, none⟩)].toArray] w0 fun r w' => r = .int .i64 0 ∧ KnB wS ka ck cy cp cb j f z s en ka.wd w' := by
  refine half_ok ka.wd 31 1 _ (fun k w => KnB wS ka ck cy cp cb j f z s en k w) w0 hwd (CallOf.mk' Tryz.func31 (by kernel_rfl) (by kernel_rfl)) h0 ?_
  rintro k w hk ⟨ys, ts, fs, bs, bd, pd, hM, hR, hck, hcy, hcp, hcb, hpd, hbd, hof⟩
  have hrow : ((z.set j (z.getD j [] ++ bndL ka.wd s ((j : Int) + 1) f k)).getD j []) = z.getD j [] ++ bndL ka.wd s ((j : Int) + 1) f k := by rw [set_getD (by omega), if_pos rfl]
  have hyq := hR.y j hj
  rw [hrow, List.length_append, hf, bndL_len, he] at hyq
  have hb := hR.b k hk
  have hfk := hR.f k hk
  have hrl := hR.rlen (j := j) (by rw [hM.lt]; exact hj)
  rw [hrow, List.length_append, hf, bndL_len] at hrl
  have hpl := pdK_len ((j : Int) + 1) f k
  have hpv := pdK_all (y := (j : Int) + 1) (f := f) (k := k) (by omega) (by omega) (by omega)
  rw [show ixH 1 ka.wd k = (k : Int) from if_neg (by decide)]
  refine Rets.mono (bnd1_ok wS ka ck cy cp cb j k ys ts fs bs bd pd _ _ w hM hck hcy hcp hcb hpd hbd hne hj hk hwd (by omega) ⟨by rw [hb]; exact bkS_len _ _ _, by rw [hfk]; exact frS_len _ _, bdK_len _ _ _, hpl⟩ (by rw [hyq]; exact goE_yQ (by omega) hpl hpv) (by rw [hyq]; exact mkE_yQ (by omega) hpl hpv)) ?_
  rintro r w' ⟨rfl, ⟨u, lq, hM2, hlq, hlb⟩, hck2, hcy2, ⟨pd2, hcp2, hpd2⟩, ⟨bd2, hcb2, hbd2⟩⟩
  rw [hyq, hb, hfk] at hlq
  have hst := hR.stepN (u := u) hz hM.ly hM.lt hj he (lq := lq) (by rw [hlq, show (yQ true (f + k)).pes = [] from rfl, pushS_one hpl]; unfold bndP bdK pdK; show Lp.mk 0 (decide (f + k = 0)) _ _ = _; rw [decide_eq_false (by omega)])
  have hct : (ys.getD j yq0).ct = ((f + (k + 1) - 1 : Nat) : Int) := by rw [hyq]; show ((f + k : Nat) : Int) = _; omega
  refine ⟨rfl, _, _, _, _, bd2, pd2, hM2, hst, hck2, hcy2, hcp2, hcb2, ?_, ?_, fun p hp => ⟨fun i hi q hq k_ => ?_, (hof p hp).2⟩⟩
  · rw [hct] at hpd2; unfold pdK; rw [if_neg (by omega)]; exact hpd2
  · rw [hct] at hbd2; unfold bdK; rw [if_neg (by omega)]; exact hbd2
  · rcases put_mem (by rw [hM.lt]; exact hj) (by rw [List.length_set, hM.lt]; exact hi) hq with ⟨i', h1, h2⟩ | e
    · exact (hof p hp).1 i' (by rw [← hM.lt]; exact h1) q h2 k_
    · subst e; have := hlb _ k_; have := (hM.xi p hp).lt; omega
end Go.Proofs.YtkionldalpijpaaGreatDoor
namespace Go.Proofs.YtkionldalpijpaaGreatDoor
open Go.Lw Go.G21
theorem zv56 (w : World) : (zeroValue 56).run Tryz.prog w = .ok (.slice none 0 0) w := by kernel_rfl
set_option maxHeartbeats 1000000 in
theorem bind_ok (wS : World) (ka : KA) (j f : Nat) (ys : List YQ) (ts : List TQ) (fs bs : List IQ) (z : List (List Lp)) (s : Lst) (en : Nat → Bool) (w0 : World) (hM : KnM τd 50 wS ka w0 ys ts fs bs) (hR : KnR ka.wd ys ts fs bs z en (frS s) (bkS ka.wd s)) (hj : j < 6) (hf : (z.getD j []).length = f) (hf1 : 1 ≤ f) (hw1 : 1 ≤ ka.wd) (hwd : ka.wd ≤ 1000) (hfl : f + 2 * ka.wd < 2048) (he : en j = true) (hof : OffIds ka ts fs bs) : Rets Tryz.prog 12 #[.pointer (some ⟨ka.gk, 0, none⟩), .int .i64 (ka.wd : Int), .int .u8 ((j : Int) + 1)] w0 fun r w' => r = .tuple #[.agg #[.int .u8 ((j : Int) + 1), .int .i64 ((f + ka.wd - 1 : Nat) : Int)], .int .i64 0] ∧ ∃ ys' ts' fs' bs', KnM τd 50 wS ka w' ys' ts' fs' bs' ∧ KnR ka.wd ys' ts' fs' bs' (z.set j (z.getD j [] ++ bndL ka.wd s ((j : Int) + 1) f ka.wd)) en (frS s) (bkS ka.wd s) ∧ OffIds ka ts' fs' bs' := by
 have hz6 : z.length = 6 := by rw [hR.rows_len, hM.lt]
 have hzs : z.set j (z.getD j []) = z := by rw [List.getD, List.getElem?_eq_getElem (by omega)]; exact List.set_getElem_self _
 have hzS := hM.fr.size
 have hI1 := fun i (hi : i < 6) q hq k k_ => ((hM.t.lps i (by rw [hM.lt]; exact hi) q hq).1.blk k k_).2
 have hI2 := fun i (hi : i < ka.wd) k k_ => ((hM.f.ins i (by rw [hM.lf]; exact hi)).blk k k_).2
 have hI3 := fun i (hi : i < ka.wd) k k_ => ((hM.b.ins i (by rw [hM.lb]; exact hi)).blk k k_).2
 have hI4 := fun p (hp : p ∈ ka.ids) => (hM.xi p hp).lt
 have hgf := (hM.f.out.blk ka.gf (by simp [blks])).2
 have hgb := (hM.b.out.blk ka.gb (by simp [blks])).2
 refine we [(0, .pointer (some ⟨ka.gk, 0, none⟩)), (1, .int .i64 (ka.wd : Int)), (2, .int .u8 ((j : Int) + 1))] Tryz.func12 rfl Tryz.ntmps12 rfl (.cons rfl (.cons rfl (.cons rfl .nil))) ?_
 have hM0 := hM
 refine sr (bx rfl rfl rfl (fun g3 w1 hg3 hb3 q1 z1 => ?_))
 refine bx rfl rfl rfl (fun g5 w2 hg5 hb5 q2 z2 => ?_)
 refine al zv39 rfl rfl (fun g6 w3 hg6 hb6 q3 z3 => ?_)
 refine asg rfl rfl (nn (sr (al zv31 rfl rfl (fun g8 w4 hg8 hb8 q4 z4 => ?_))))
 refine nn (sr (al zv56 rfl rfl (fun g9 w5 hg9 hb9 q5 z5 => ?_)))
 refine nn (sr (mv rfl rfl (s_makeFunc evs_nil (ev4 rfl rfl rfl rfl) rfl ?_)))
 replace hM := hM0.ext ((((q1.next q2).next q3).next q4).next q5)
 replace hb3 := hb3.ext (((q2.next q3).next q4).next q5)
 replace hb5 := hb5.ext ((q3.next q4).next q5)
 replace hb6 := hb6.ext (q4.next q5)
 replace hb8 := hb8.ext q5
 refine cl (evs_cons rfl (evs_cons rfl (evs_cons rfl evs_nil))) co26 (halfB_ok wS { ka with ids := (g6, [.int .u8 0, .int .i64 0]) :: ka.ids } g3 g5 g9 g8 j f z s en _ ⟨ys, ts, fs, bs, sv0, sv0, hM.addId hb6, (by rw [show bndL ka.wd s ((j : Int) + 1) f 0 = [] from rfl, List.append_nil, hzs]; exact hR), hb3, hb5, hb9, hb8, Own.nil _, Own.nil _, fun p hp => (List.mem_cons.1 hp).elim (fun e => by subst e; exact ⟨fun i hi q hq k_ => by have := hI1 i hi q hq _ k_; omega, fun i hi k_ => by have := hI2 i hi _ k_; omega, fun i hi k_ => by have := hI3 i hi _ k_; omega⟩) (hof p)⟩ ⟨by omega, by omega, by omega, by omega, by omega, by show g8 ≠ ka.gf; omega, by show g8 ≠ ka.gb; omega, by omega, by omega⟩ hj hz6 hf hf1 (by omega) hfl he) rfl ?_
 rintro _ w6 ⟨rfl, ys3, ts3, fs3, bs3, bd3, pd3, hM3, hR3, -, -, -, hcb3, -, hbd3, hof3⟩
 have hc63 := hM3.xi _ List.mem_cons_self
 have hof6 := hof3 _ List.mem_cons_self
 replace hM3 := hM3.dropId
 replace hof3 : OffIds ka ts3 fs3 bs3 := fun p hp => hof3 p (List.mem_cons_of_mem _ hp)
 have hbe : bdK ((j : Int) + 1) f ka.wd = [⟨(j : Int) + 1, ((f + ka.wd - 1 : Nat) : Int)⟩] := by unfold bdK; rw [if_neg (by omega)]
 rw [hbe] at hbd3
 have hM30 := hM3
 have hbd30 := hbd3
 have hcb8 := hcb3
 have hb6 := hc63
 obtain ⟨A8, c8, e8, hc8⟩ := hbd3.sl.form
 rw [e8] at hcb8 hbd3
 have hbd30 := hbd3
 refine asg rfl rfl (kpL [(6, _), (8, _), (10, _)] (.cons rfl (.cons rfl (.cons rfl .nil))) (nn (sq (sr (mv rfl rfl (ne' rfl rfl rfl (nn ?_)))))))
 refine cd rfl (fun c0 => ?_) (fun c0 => ?_)
 · refine sr (s_lit (cs := [_, _]) evs_nil bo39 pok_nil rfl rfl ?_)
   refine mv rfl rfl (s_storeBA (vs := [_, _]) rfl rfl hb6 (by rfl) (by first | (simp [Value.oneCell', S]; done) | exact Enc.one _ _) sz39 (fun w7 hb6 q7 z7 => ?_))
   refine asg rfl rfl (nn (rt (tr (rCT Tryz.results12 rfl hb6 ag39 rfl ?_))))
   exact absurd rfl (by assumption)
 · refine sk (tn (sr (s_loadB0 rfl hcb8 na31 rfl ?_)))
   refine s_idxL (p := 0) id0 rfl hbd3.sl rfl el31 (by omega) (by simp) rfl rfl (fun ad19 hc19 => ?_)
   refine s_loadA rfl (hc19 _ hbd3.sl) ag39 rfl (s_storeBA (vs := [_, _]) rfl rfl hb6 (by rfl) (by first | (simp [Value.oneCell', S]; done) | exact Enc.one _ _) sz39 (fun w8 hb6 q8 z8 => ?_))
   refine asg rfl rfl (kpL [(6, _), (7, _)] (.cons rfl (.cons rfl .nil)) (nn (rt (rCT Tryz.results12 rfl hb6 ag39 rfl ?_))))
   exact ⟨_, rfl, rfl, ys3, ts3, fs3, bs3, hM3.tfI ktd (by decide) (by decide) hc63 q8 (by omega) hof6.1 hof6.2.1 hof6.2.2 (fun p hp => by have := hI4 p hp; show g6 ≠ p.1; omega), hR3, hof3⟩
end Go.Proofs.YtkionldalpijpaaGreatDoor
namespace Go.G21
open Go.Lw
theorem rnds_take (wd : Nat) (rs : List UInt8) (i : Nat) (h : i < rs.length) : rndsT wd (rs.take (i + 1)) = rndT wd (rndsT wd (rs.take i)) (rs.getD i 0) := by
  rw [List.take_add_one, List.getElem?_eq_getElem h, List.getD, List.getElem?_eq_getElem h]
  exact rnds_snoc _ _ _
theorem rnds_snd (wd : Nat) : ∀ (rs : List UInt8), (∀ y ∈ rs, 1 ≤ y.toNat ∧ y.toNat ≤ 6) → (rndsT wd rs).2 = none ∨ ∃ (y f : Nat), (rndsT wd rs).2 = some ((y : Int), f) ∧ 1 ≤ y ∧ y ≤ 6 ∧ f + 2 * wd ≤ 2 * wd * rs.length := by
  intro rs h
  rcases List.eq_nil_or_concat rs with rfl | ⟨l, y, rfl⟩
  · exact .inl rfl
  · right
    rw [List.concat_eq_append] at h ⊢
    have hy := h y (by simp)
    refine ⟨y.toNat, ((rndsT wd l).1.getD (y.toNat - 1) []).length, by rw [rnds_snoc]; rfl, hy.1, hy.2, ?_⟩
    have := rnds_le wd l (y.toNat - 1)
    rw [List.length_append, Nat.mul_add]
    show _ ≤ _ + 2 * wd * 1
    omega
theorem rnds_hv {wd : Nat} {rs : List UInt8} (h : ∀ y ∈ rs, 1 ≤ y.toNat ∧ y.toNat ≤ 6) (hw : wd ≤ 16) (hl : rs.length ≤ 31) : ∀ i, i < wd → AllV (psB (bkS wd (rndsT wd rs).2 i)) := by
  intro i hi
  rcases rnds_snd wd rs h with e | ⟨y, f, e, h1, h2, h3⟩
  · rw [e]; intro p hp; cases hp
  · rw [e]
    have : 2 * wd * rs.length ≤ 2 * 16 * 31 := Nat.mul_le_mul (by omega) hl
    exact allB (by omega) (by omega) (by omega)
theorem rnds_row {wd : Nat} {rs : List UInt8} (hw : wd ≤ 16) (hl : rs.length ≤ 31) (i : Nat) : ((rndsT wd rs).1.getD i []).length ≤ 992 := by
  have h1 := rnds_le wd rs i
  have : 2 * wd * rs.length ≤ 2 * 16 * 31 := Nat.mul_le_mul (by omega) hl
  omega
theorem rndT_row (wd : Nat) (z : TSt) (y : UInt8) (hz : z.1.length = 6) (hy : 1 ≤ y.toNat ∧ y.toNat ≤ 6) : ((rndT wd z y).1.getD (y.toNat - 1) []).length = (z.1.getD (y.toNat - 1) []).length + 2 * wd := by
  unfold rndT
  show ((z.1.set _ _).getD _ []).length = _
  rw [set_getD (by omega), if_pos rfl, List.length_append, rndL_len]
theorem lastY_in {rs : List UInt8} (h1 : 1 ≤ rs.length) (h : ∀ y ∈ rs, 1 ≤ y.toNat ∧ y.toNat ≤ 6) : 1 ≤ (lastY rs).toNat ∧ (lastY rs).toNat ≤ 6 := h _ (mem_getD (by omega))
theorem rnds_last {wd : Nat} {rs : List UInt8} (h1 : 1 ≤ rs.length) (h : ∀ y ∈ rs, 1 ≤ y.toNat ∧ y.toNat ≤ 6) : 2 * wd ≤ ((rndsT wd rs).1.getD ((lastY rs).toNat - 1) []).length := by
  have hl := lastY_in h1 h
  have e : rs = rs.take (rs.length - 1 + 1) := by rw [List.take_of_length_le (by omega)]
  conv => rhs; rw [e, rnds_take wd rs _ (by omega)]
  have := rndT_row wd (rndsT wd (rs.take (rs.length - 1))) (lastY rs) (rnds_len _ _) hl
  unfold lastY at this ⊢
  rw [← e]
  omega
/-- A fabric that is kept where what is older than b is written. -/
def FbK (b : Nat) (w : World) (q : FbQ) : Prop := ∀ (S : List Nat) (w2 : World), Fr S w w2 → (∀ k ∈ S, k < b) → FbAt w2 q
theorem FbK.at {b : Nat} {w : World} {q : FbQ} (h : FbK b w q) : FbAt w q := h [] w (Fr.refl _ _) (fun k hk => by cases hk)
section
variable {τ : TyK} {base : Nat} {w w2 : World} {v : Value} {ts : List TQ} {i : Nat} {u : SV}
/-- A row's header gets less room. -/
theorem TbO.clip (hτ : τ.Ok) (h : TbO τ base w v ts) (hi : i < ts.length) (hb : blks (slv u) = blks (slv (ts.getD i tq0).1)) (h1 : Lw.Own encLp τ.L base w (slv u) (ts.getD i tq0).2)
    (h2 : Lw.Own encTq τ.T base w2 v (ts.set i (u, (ts.getD i tq0).2))) (f2 : Fr (blks v) w w2) : TbO τ base w2 v (ts.set i (u, (ts.getD i tq0).2)) := by
  have o : ∀ T, T ≠ τ.T → OffT w T (blks v) := fun T hT => own_off h.out (Ne.symm hT)
  refine ⟨h2, fun j hj => ?_, fun j k hj hk hjk => ?_, fun j hj p hp => ?_⟩
  · rw [List.length_set] at hj
    rw [set_getD hi]
    split
    · exact own_tf h1 f2 (o _ (Ne.symm hτ.tl))
    · exact own_tf (h.ins j hj) f2 (o _ (Ne.symm hτ.tl))
  · rw [List.length_set] at hj hk
    rw [set_getD hi, set_getD hi]
    split <;> split
    · rename_i e1 e2; exact absurd (e1.symm.trans e2) hjk
    · rename_i e1 e2; show ∀ b ∈ blks (slv u), _; rw [hb]; exact h.off i k hi hk e2
    · rename_i e1 e2; show ∀ b ∈ _, b ∉ blks (slv u); rw [hb]; exact h.off j i hj hi (Ne.symm e1)
    · exact h.off j k hj hk hjk
  · rw [List.length_set] at hj
    rw [set_getD hi] at hp
    have g : ∀ p, LpO τ base w p → LpO τ base w2 p := fun p hp => hp.tf f2 (o _ (Ne.symm hτ.ti)) (o _ (Ne.symm hτ.tp))
    split at hp
    · exact g p (h.lps i hi p hp)
    · exact g p (h.lps j hj p hp)
theorem clip_tab (ts : List TQ) (i : Nat) (u : SV) (hi : i < ts.length) : tabP (ts.set i (u, (ts.getD i tq0).2)) = tabP ts := by
  refine List.ext_getElem? fun j => ?_
  rw [List.getElem?_map, List.getElem?_map, List.getElem?_set]
  split
  · rename_i e; subst e
    rw [List.getD, List.getElem?_eq_getElem hi]; first | rfl | (rw [if_pos hi]; rfl)
  · rfl
/-- What is older is written. -/
theorem TbO.old {S : List Nat} {w' : World} (h : TbO τ base w v ts) (hf : Fr S w w') (hS : ∀ k ∈ S, k < base) : TbO τ base w' v ts := by
  have o : ∀ {α : Type} {E : Enc α} {T : Nat} {u : Value} {l : List α}, Lw.Own E T base w u l → Lw.Own E T base w' u l := fun hO => hO.fr hf fun k hk hb => by
    have h1 := hS k hk; have h2 := (hO.blk k hb).1; omega
  exact ⟨o h.out, fun i hi => o (h.ins i hi), h.off, fun i hi q hq => ⟨o (h.lps i hi q hq).1, o (h.lps i hi q hq).2⟩⟩
theorem blks_cl (u : SV) : blks (slv (u.1, u.2.1, u.2.1)) = blks (slv u) := by
  obtain ⟨a, m, c⟩ := u
  cases a <;> rfl
theorem rep_getD {α : Type} (n i : Nat) (x : α) : (List.replicate n x).getD i x = x := by
  rw [List.getD, List.getElem?_replicate]; split <;> rfl
theorem ysO0 {n : Nat} (h : Lw.Own encYq τ.Y base w v (List.replicate n yq0)) : YsO τ base w v (List.replicate n yq0) := ⟨h, fun i _ => by rw [rep_getD]; exact Own.nil _⟩
theorem tbO0 {n : Nat} (h : Lw.Own encTq τ.T base w v (List.replicate n tq0)) : TbO τ base w v (List.replicate n tq0) :=
  ⟨h, fun i _ => by rw [rep_getD]; exact Own.nil _, fun i j _ _ _ k hk => (by rw [rep_getD] at hk; cases hk), fun i _ q hq => by rw [rep_getD] at hq; cases hq⟩
theorem fqO0 {n : Nat} (h : Lw.Own encIq τ.S base w v (List.replicate n iq0)) : FqO τ base w v (List.replicate n iq0) := ⟨h, fun i _ => by rw [rep_getD]; exact Own.nil _⟩
theorem knR0 (wd : Nat) : KnR wd (List.replicate 6 yq0) (List.replicate 6 tq0) (List.replicate wd iq0) (List.replicate wd iq0) (rndsT wd []).1 (fun _ => false) (frS (rndsT wd []).2) (bkS wd (rndsT wd []).2) :=
  ⟨fun j _ => by rw [rep_getD]; rfl, by show List.map _ _ = _; rw [List.map_replicate]; rfl, fun i _ => by rw [rep_getD]; rfl, fun i _ => by rw [rep_getD]; rfl⟩
end
end Go.G21
namespace Go.Proofs.YtkionldalpijpaaGreatDoor
open Go.Lw Go.G21

/-- The tube after some rounds. -/
def KnO (wS : World) (ka : KA) (rs : List UInt8) (w : World) : Prop :=
  ∃ ys ts fs bs en, KnM τd 50 wS ka w ys ts fs bs ∧ KnR ka.wd ys ts fs bs (rndsT ka.wd rs).1 en (frS (rndsT ka.wd rs).2) (bkS ka.wd (rndsT ka.wd rs).2) ∧ ∀ j, en j = false → (rndsT ka.wd rs).1.getD j [] = []
theorem u8j {y : UInt8} (h : 1 ≤ y.toNat) : Value.int .u8 (y.toNat : Int) = Value.int .u8 (((y.toNat - 1 : Nat) : Int) + 1) := congrArg (Value.int .u8) (by omega)
theorem knO_round (wS : World) (ka : KA) (W : Nat) (hkw : ka.wd = W) (rs : List UInt8) (i : Nat) (w0 : World) (h0 : KnO wS ka (rs.take i) w0) (hi : i < rs.length) (hv : ∀ y ∈ rs, 1 ≤ y.toNat ∧ y.toNat ≤ 6) (hw1 : 1 ≤ ka.wd) (hwd : ka.wd ≤ 16) (hl : rs.length ≤ 31) :
    Rets Tryz.prog 11 #[.pointer (some ⟨ka.gk, 0, none⟩), .int .i64 (W : Int), .int .u8 ((rs.getD i 0).toNat : Int)] w0 fun r w' => r = .int .i64 0 ∧ KnO wS ka (rs.take (i + 1)) w' ∧ Fr [] wS w' := by
  obtain rfl := hkw
  obtain ⟨ys, ts, fs, bs, en, hM, hR, hE⟩ := h0
  have hy := hv _ (mem_getD (d := 0) hi)
  have ht : ∀ y ∈ rs.take i, 1 ≤ y.toNat ∧ y.toNat ≤ 6 := fun y k => hv y (List.mem_of_mem_take k)
  have hlt : (rs.take i).length ≤ 31 := by rw [List.length_take]; omega
  have hle := rnds_row (wd := ka.wd) (rs := rs.take i) hwd hlt ((rs.getD i 0).toNat - 1)
  have hz6 := rnds_len ka.wd (rs.take i)
  have hrow := rndT_row ka.wd (rndsT ka.wd (rs.take i)) (rs.getD i 0) hz6 hy
  rw [u8j hy.1]
  refine Rets.mono (round_ok wS ka ((rs.getD i 0).toNat - 1) _ ys ts fs bs _ _ en w0 hM hR (by omega) rfl hw1 (by omega) (by omega) (rnds_hv ht hwd hlt) (hE _)) ?_
  rintro r w' ⟨rfl, ys', ts', fs', bs', hM', hR'⟩
  refine ⟨rfl, ⟨ys', ts', fs', bs', (fun k => if k = (rs.getD i 0).toNat - 1 then true else en k), hM', ?_, fun j hj => ?_⟩, hM'.fr⟩
  · rw [rnds_take _ _ _ hi]
    rw [show (((rs.getD i 0).toNat - 1 : Nat) : Int) + 1 = ((rs.getD i 0).toNat : Int) by omega] at hR'
    exact hR'
  · rw [rnds_take _ _ _ hi]
    by_cases e : j = (rs.getD i 0).toNat - 1
    · simp only [e, if_true] at hj; cases hj
    · simp only [e, if_false] at hj
      unfold rndT
      show ((List.set _ _ _).getD j []) = _
      rw [set_getD (by omega), if_neg (Ne.symm e)]; exact hE j hj
def KnO2 (wS : World) (ka : KA) (rs : List UInt8) (w : World) : Prop :=
  ∃ ys ts fs bs en, KnM τd 50 wS ka w ys ts fs bs ∧ KnR ka.wd ys ts fs bs (rndsT ka.wd rs).1 en (frS (rndsT ka.wd rs).2) (bkS ka.wd (rndsT ka.wd rs).2) ∧ (∀ j, en j = false → (rndsT ka.wd rs).1.getD j [] = []) ∧ OffIds ka ts fs bs
theorem KnO.ext {wS w w' : World} {ka : KA} {rs : List UInt8} (h : KnO wS ka rs w) (hf : Fr [] w w') : KnO wS ka rs w' := by
  obtain ⟨ys, ts, fs, bs, en, hM, hR, hE⟩ := h
  exact ⟨ys, ts, fs, bs, en, hM.ext hf, hR, hE⟩
theorem KnO.two {wS w : World} {ka : KA} {rs : List UInt8} (h : KnO wS ka rs w) (hi : ka.ids = []) : KnO2 wS ka rs w := by
  obtain ⟨ys, ts, fs, bs, en, hM, hR, hE⟩ := h
  exact ⟨ys, ts, fs, bs, en, hM, hR, hE, fun p hp => by rw [hi] at hp; cases hp⟩
theorem KnO.two1 {wS w w' : World} {ka : KA} {rs : List UInt8} {g : Nat} {cs : List Value} (h : KnO wS ka rs w) (hf : Fr [] w w') (hb : Blk w' g 39 cs) (hg : w.heap.size ≤ g) (hi : ka.ids = []) : KnO2 wS { ka with ids := (g, cs) :: ka.ids } rs w' := by
  obtain ⟨ys, ts, fs, bs, en, hM, hR, hE⟩ := h
  refine ⟨ys, ts, fs, bs, en, (hM.ext hf).addId hb, hR, hE, fun p hp => ?_⟩
  rw [hi] at hp
  obtain rfl := List.mem_singleton.1 hp
  exact ⟨fun i hk q hq k_ => by have := ((hM.t.lps i (by rw [hM.lt]; exact hk) q hq).1.blk _ k_).2; simp only at this; omega, fun i hk k_ => by have := ((hM.f.ins i (by rw [hM.lf]; exact hk)).blk _ k_).2; simp only at this; omega, fun i hk k_ => by have := ((hM.b.ins i (by rw [hM.lb]; exact hk)).blk _ k_).2; simp only at this; omega⟩
theorem knO_bind (wS : World) (ka : KA) (W : Nat) (hkw : ka.wd = W) (rs : List UInt8) (w0 : World) (h0 : KnO2 wS ka rs w0) (hv : ∀ y ∈ rs, 1 ≤ y.toNat ∧ y.toNat ≤ 6) (h1 : 1 ≤ rs.length) (hw1 : 1 ≤ ka.wd) (hwd : ka.wd ≤ 16) (hl : rs.length ≤ 31) :
    Rets Tryz.prog 12 #[.pointer (some ⟨ka.gk, 0, none⟩), .int .i64 (W : Int), .int .u8 ((lastY rs).toNat : Int)] w0 fun r w' => r = .tuple #[.agg #[.int .u8 ((lastY rs).toNat : Int), .int .i64 ((((tubT W rs).getD ((lastY rs).toNat - 1) []).length : Int) - 1)], .int .i64 0] ∧ ∃ ys ts fs bs, KnM τd 50 wS ka w' ys ts fs bs ∧ tabP ts = tubT W rs ∧ OffIds ka ts fs bs := by
  obtain rfl := hkw
  obtain ⟨ys, ts, fs, bs, en, hM, hR, hE, hof⟩ := h0
  have hy := lastY_in h1 hv
  have hle := rnds_row (wd := ka.wd) (rs := rs) hwd hl ((lastY rs).toNat - 1)
  have hz6 := rnds_len ka.wd rs
  have hlo := rnds_last (wd := ka.wd) h1 hv
  have he : en ((lastY rs).toNat - 1) = true := by
    cases e : en ((lastY rs).toNat - 1) with
    | true => rfl
    | false => have := hE _ e; rw [this] at hlo; simp at hlo; omega
  rw [u8j hy.1]
  refine Rets.mono (bind_ok wS ka ((lastY rs).toNat - 1) _ ys ts fs bs _ _ en w0 hM hR (by omega) rfl (by omega) hw1 (by omega) (by omega) he hof) ?_
  rintro r w' ⟨rfl, ys', ts', fs', bs', hM', hR', hof'⟩
  have e1 : (((lastY rs).toNat - 1 : Nat) : Int) + 1 = ((lastY rs).toNat : Int) := by omega
  rw [e1] at hR'
  have hL : ((tubT ka.wd rs).getD ((lastY rs).toNat - 1) []).length = ((rndsT ka.wd rs).1.getD ((lastY rs).toNat - 1) []).length + ka.wd := by
    unfold tubT
    rw [set_getD (by omega), if_pos rfl, List.length_append, bndL_len]
  refine ⟨?_, ys', ts', fs', bs', hM', hR'.t, hof'⟩
  rw [hL, e1]
  rw [show (((((rndsT ka.wd rs).1.getD ((lastY rs).toNat - 1) []).length + ka.wd - 1 : Nat)) : Int) = ((((rndsT ka.wd rs).1.getD ((lastY rs).toNat - 1) []).length + ka.wd : Nat) : Int) - 1 by omega]
end Go.Proofs.YtkionldalpijpaaGreatDoor
namespace Go.Proofs.YtkionldalpijpaaGreatDoor
open Go.Lw Go.G21
theorem ag26 : AggOf Tryz.prog 26 2 := ⟨fun _ => by kernel_rfl, fun _ => by kernel_rfl⟩
theorem bo50 : BuildAt Tryz.prog 50 [(0, 1), (1, 1), (2, 1), (3, 1)] [(.slice none 0 0), (.slice none 0 0), (.slice none 0 0), (.slice none 0 0)] := BuildAt.struct Tryz.underlying50 (fun _ => by kernel_rfl) (fun _ => by kernel_rfl)
theorem co9 : CallOf Tryz.prog 9 := CallOf.mk' Tryz.func9 (by kernel_rfl) (by kernel_rfl)
theorem co10 : CallOf Tryz.prog 10 := CallOf.mk' Tryz.func10 (by kernel_rfl) (by kernel_rfl)
theorem co11 : CallOf Tryz.prog 11 := CallOf.mk' Tryz.func11 (by kernel_rfl) (by kernel_rfl)
theorem co12 : CallOf Tryz.prog 12 := CallOf.mk' Tryz.func12 (by kernel_rfl) (by kernel_rfl)
theorem co13 : CallOf Tryz.prog 13 := CallOf.mk' Tryz.func13 (by kernel_rfl) (by kernel_rfl)
theorem sz29 : SizeOf Tryz.prog 29 1 := fun _ => by kernel_rfl
set_option maxHeartbeats 2000000 in
theorem of_ok (W : Nat) (v : Value) (rs : List UInt8) (w0 : World) (hs : Sl Enc.b w0 v rs) (h0 : tubE (W : Int) rs = 0) : Rets Tryz.prog 5 #[.agg #[.int .i64 (W : Int), v]] w0 fun r w' => ∃ q : FbQ, r = .tuple #[.agg (fbL q).toArray, .int .i64 0] ∧ FbK w0.heap.size w' q ∧ q.p = tubF W rs ∧ Fr [] w0 w' := by
 obtain ⟨A, c, rfl, hcc, hM, hA⟩ := id hs
 clear hA
 unfold maxLen at hM
 obtain ⟨hw1, hw16, hl1, hl31, hv⟩ := tub_of h0
 refine we [(0, .agg #[.int .i64 (W : Int), .slice A rs.length c])] Tryz.func5 rfl Tryz.ntmps5 rfl (.cons rfl .nil) ?_
 have hs0 := hs
 refine sr (bx rfl rfl rfl (fun g1 w1 hg1 hb1 q1 z1 => ?_))
 refine al zv33 rfl rfl (fun g2 w2 hg2 hb2 q2 z2 => ?_)
 refine asg rfl rfl ?_
 replace hb1 := hb1.ext q2
 have sb1 := hb1
 have sb2 := hb2
 have shs := hs0.ext (q1.next q2)
 refine nn (sq (sr (s_loadBA rfl hb1 ag26 rfl ?_)))
 replace hs := hs0.ext (q1.next q2)
 refine cl (ev1 rfl) co9 (tcheck_ok _ _ _ _ hs) rfl ?_
 rintro _ w3 ⟨rfl, q3⟩
 have z3 := q3.size
 refine asg rfl rfl (nn (sr (mv rfl rfl (ne' rfl rfl rfl (nn ?_)))))
 refine cd rfl (fun c0 => ?_) (fun c0 => ?_)
 · refine sr (s_lit (cs := [_, _, _, _]) evs_nil bo33 pok_nil rfl rfl ?_)
   refine mv rfl rfl ?_
   replace hb2 := hb2.ext q3
   refine s_storeBA (vs := [_, _, _, _]) rfl rfl hb2 (by rfl) (by first | (simp [Value.oneCell', S]; done) | exact Enc.one _ _) sz33 (fun w4 hb2 q4 z4 => ?_)
   refine asg rfl rfl (nn (rt (tr (rCT Tryz.results5 rfl hb2 ag33 rfl ?_))))
   exact absurd h0 c0
 · refine sk (tn (sr ?_))
   refine cl evs_nil co10 (fempty_ok _) rfl ?_
   rintro _ w5 ⟨gT, rfl, hgT, hoT, q5⟩
   have z5 := q5.size
   have hgTz := (hoT.blk gT (by simp [blks])).2
   refine al zv33 rfl rfl (fun g5 w6 hg5 hb5 q6 z6 => ?_)
   refine s_storeBA (vs := [_, _, _, _]) rfl rfl hb5 (by rfl) (by first | (simp [Value.oneCell', S]; done) | exact Enc.one _ _) sz33 (fun w7 hb5 q7 z7 => ?_)
   refine nn ?_
   refine jn (ι := KA) [(1, _), (2, _), (5, _)] (fun ka => [(6, .pointer (some ⟨ka.gk, 0, none⟩))]) (fun ka w' => ka.wd = W ∧ ka.g5 = g5 ∧ ka.c5 = [ka.TV, .slice none 0 0, .slice none 0 0, .slice none 0 0] ∧ ka.ids = [] ∧ KnO w2 ka [] w' ∧ Fr [] w2 w') (.cons rfl (.cons rfl (.cons rfl .nil))) ?_ ?_
   · replace hb1 := (hb1.ext ((q3.next q5).next q6)).fr q7 (by first | (simp; done) | (simp; omega) | (simp [blks]; done) | (simp [blks]; omega))
     replace hb2 := (hb2.ext ((q3.next q5).next q6)).fr q7 (by first | (simp; done) | (simp; omega) | (simp [blks]; done) | (simp [blks]; omega))
     replace hoT := (hoT.ext q6).fr q7 (by intro k hk hb; simp [blks] at hk hb; omega)
     intro a h
     refine region_heldP none (fun wb w' => Fr [] wb w') hmix ?_; intro w8 hq
     have z8 := hq.size
     replace hb1 := hb1.ext hq
     replace hb2 := hb2.ext hq
     replace hoT := hoT.ext hq
     replace hb5 := hb5.ext hq
     have q8 := hq
     clear hq; have hC : Fr [] w8 w8 := Fr.refl _ _
     have hb1_b := hb1
     have hb2_b := hb2
     have hoT_b := hoT
     have hb5_b := hb5
     refine hd_fieldAddr 1 (by kernel_rfl) (by kernel_rfl) (by kernel_rfl) hC h wn rfl fa33_0 rfl rfl ?_; clear h a; intro a h
     refine hd_loadB 2 (by kernel_rfl) (by kernel_rfl) (by kernel_rfl) hC h wn rfl (fun _ hw => hb5_b.ext hw) rfl na29 rfl rfl ?_; clear h a; intro a h
     refine hd_fieldAddr 3 (by kernel_rfl) (by kernel_rfl) (by kernel_rfl) hC h wn rfl fa26_0 rfl rfl ?_; clear h a; intro a h
     refine hd_loadB 4 (by kernel_rfl) (by kernel_rfl) (by kernel_rfl) hC h wn rfl (fun _ hw => hb1_b.ext hw) rfl na3 rfl rfl ?_; clear h a; intro a h
     refine hd_fieldAddr 6 (by kernel_rfl) (by kernel_rfl) (by kernel_rfl) hC h wn rfl fa26_0 rfl rfl ?_; clear h a; intro a h
     refine hd_loadB 7 (by kernel_rfl) (by kernel_rfl) (by kernel_rfl) hC h wn rfl (fun _ hw => hb1_b.ext hw) rfl na3 rfl rfl ?_; clear h a; intro a h
     refine hd_three 0 5 8 (by kernel_rfl) rfl rfl rfl ?_ ?_ ?_
     · refine id ?_
       refine st_makeSlice (m := 6) (c := 6) (yq0) h rfl rfl el47 zv75 rfl (Nat.le_refl _) (by omega) (by unfold maxLen; omega) rfl ?_; clear h a; intro g21 w9 hg21 hoY hq hy21 a h
       have z9 := hq.size
       replace hb1 := hb1.ext hq
       replace hb2 := hb2.ext hq
       replace hoT := hoT.ext hq
       replace hb5 := hb5.ext hq
       replace hC := hC.next hq
       have q9 := hq
       clear hq
       refine hd_next hC ?_
       refine hd_two 5 8 (by kernel_rfl) rfl rfl ?_ ?_
       · refine id ?_
         refine st_makeSlice (m := W) (c := W) (iq0) h rfl rfl el48 zv31 rfl (Nat.le_refl _) (by omega) (by unfold maxLen; omega) rfl ?_; clear h a; intro g26 w10 hg26 hoF hq hy26 a h
         have z10 := hq.size
         replace hb1 := hb1.ext hq
         replace hb2 := hb2.ext hq
         replace hoT := hoT.ext hq
         replace hb5 := hb5.ext hq
         replace hoY := hoY.ext hq
         replace hC := hC.next hq
         have q10 := hq
         clear hq
         refine hd_next hC ?_
         refine hd_one 8 (by kernel_rfl) rfl ?_
         refine st_makeSlice (m := W) (c := W) (iq0) h rfl rfl el48 zv31 rfl (Nat.le_refl _) (by omega) (by unfold maxLen; omega) rfl ?_; clear h a; intro g29 w11 hg29 hoB hq hy29 a h
         have z11 := hq.size
         replace hb1 := hb1.ext hq
         replace hb2 := hb2.ext hq
         replace hoT := hoT.ext hq
         replace hb5 := hb5.ext hq
         replace hoY := hoY.ext hq
         replace hoF := hoF.ext hq
         replace hC := hC.next hq
         have q11 := hq
         clear hq
         refine hd_next hC ?_
         refine hd_lit (cs := [_, _, _, _]) 9 (by kernel_rfl) (by kernel_rfl) (by kernel_rfl) hC h wn (evs_cons rfl (evs_cons rfl (evs_cons rfl (evs_cons rfl evs_nil)))) bo50 (pok_cons rfl rfl rfl (pok_cons rfl rfl rfl (pok_cons rfl rfl rfl (pok_cons rfl rfl rfl pok_nil)))) rfl rfl rfl ?_; clear h a; intro a h
         refine hd_one 10 (by kernel_rfl) rfl ?_
         refine st_box h rfl rfl rfl ?_; clear h a; intro w12 hb31 hq hz a h
         obtain ⟨g_31, hg⟩ : ∃ g, g = w11.heap.size := ⟨_, rfl⟩; rw [← hg] at hb31 h hz
         have hn__31 : g1 < g_31 := by have := hb1.lt; omega
         have hn__31 : g2 < g_31 := by have := hb2.lt; omega
         have hn__31 : g5 < g_31 := by have := hb5.lt; omega
         have z12 := hq.size
         replace hb1 := hb1.ext hq
         replace hb2 := hb2.ext hq
         replace hoT := hoT.ext hq
         replace hb5 := hb5.ext hq
         replace hoY := hoY.ext hq
         replace hoF := hoF.ext hq
         replace hoB := hoB.ext hq
         replace hC := hC.next hq
         have q12 := hq
         clear hq
         refine hd_next hC ?_
         refine hd_one 11 (by kernel_rfl) rfl ?_
         refine st_assign h rfl rfl ?_; clear h a; intro a h
         refine hd_next hC ?_
         refine hd_end (by kernel_rfl) ?_
         clear hC hb1_b hb2_b hoT_b hb5_b
         refine bk (h.sub (L' := [(1, _), (2, _), (5, _), (6, _)]) (.cons rfl (.cons rfl (.cons rfl (.cons rfl .nil))))) ?_; clear h a
         exact jE (⟨g_31, g21, 6, gT, 6, g26, W, g29, W, W, g5, [.slice (some ⟨gT, 0, none⟩) 6 6, .slice none 0 0, .slice none 0 0, .slice none 0 0], []⟩) (.cons rfl (.cons rfl (.cons rfl (.cons rfl .nil)))) ⟨rfl, rfl, rfl, rfl, ⟨_, _, _, _, (fun _ => false), ⟨hb31, ysO0 (hoY.low (by omega)), tbO0 (hoT.low (by omega)), fqO0 (hoF.low (by omega)), fqO0 (hoB.low (by omega)), by simp, by simp, by simp, by simp, (by show g26 ≠ g29; omega), (by show w2.heap.size ≤ g_31; omega), ((((((((q3.next q5).next q6).step q7 (by first | (simp; done) | (simp; omega))).next q8).next q9).next q10).next q11).next q12), hb5, fun p hp => by cases hp⟩, knR0 _, fun j _ => rep_getD 6 j []⟩, ((((((((q3.next q5).next q6).step q7 (by first | (simp; done) | (simp; omega))).next q8).next q9).next q10).next q11).next q12)⟩
       · refine id ?_
         refine st_makeSlice (m := W) (c := W) (iq0) h rfl rfl el48 zv31 rfl (Nat.le_refl _) (by omega) (by unfold maxLen; omega) rfl ?_; clear h a; intro g29 w13 hg29 hoB hq hy29 a h
         have z13 := hq.size
         replace hb1 := hb1.ext hq
         replace hb2 := hb2.ext hq
         replace hoT := hoT.ext hq
         replace hb5 := hb5.ext hq
         replace hoY := hoY.ext hq
         replace hC := hC.next hq
         have q13 := hq
         clear hq
         refine hd_next hC ?_
         refine hd_one 5 (by kernel_rfl) rfl ?_
         refine st_makeSlice (m := W) (c := W) (iq0) h rfl rfl el48 zv31 rfl (Nat.le_refl _) (by omega) (by unfold maxLen; omega) rfl ?_; clear h a; intro g26 w14 hg26 hoF hq hy26 a h
         have z14 := hq.size
         replace hb1 := hb1.ext hq
         replace hb2 := hb2.ext hq
         replace hoT := hoT.ext hq
         replace hb5 := hb5.ext hq
         replace hoY := hoY.ext hq
         replace hoB := hoB.ext hq
         replace hC := hC.next hq
         have q14 := hq
         clear hq
         refine hd_next hC ?_
         refine hd_lit (cs := [_, _, _, _]) 9 (by kernel_rfl) (by kernel_rfl) (by kernel_rfl) hC h wn (evs_cons rfl (evs_cons rfl (evs_cons rfl (evs_cons rfl evs_nil)))) bo50 (pok_cons rfl rfl rfl (pok_cons rfl rfl rfl (pok_cons rfl rfl rfl (pok_cons rfl rfl rfl pok_nil)))) rfl rfl rfl ?_; clear h a; intro a h
         refine hd_one 10 (by kernel_rfl) rfl ?_
         refine st_box h rfl rfl rfl ?_; clear h a; intro w15 hb31 hq hz a h
         obtain ⟨g_31, hg⟩ : ∃ g, g = w14.heap.size := ⟨_, rfl⟩; rw [← hg] at hb31 h hz
         have hn__31 : g1 < g_31 := by have := hb1.lt; omega
         have hn__31 : g2 < g_31 := by have := hb2.lt; omega
         have hn__31 : g5 < g_31 := by have := hb5.lt; omega
         have z15 := hq.size
         replace hb1 := hb1.ext hq
         replace hb2 := hb2.ext hq
         replace hoT := hoT.ext hq
         replace hb5 := hb5.ext hq
         replace hoY := hoY.ext hq
         replace hoB := hoB.ext hq
         replace hoF := hoF.ext hq
         replace hC := hC.next hq
         have q15 := hq
         clear hq
         refine hd_next hC ?_
         refine hd_one 11 (by kernel_rfl) rfl ?_
         refine st_assign h rfl rfl ?_; clear h a; intro a h
         refine hd_next hC ?_
         refine hd_end (by kernel_rfl) ?_
         clear hC hb1_b hb2_b hoT_b hb5_b
         refine bk (h.sub (L' := [(1, _), (2, _), (5, _), (6, _)]) (.cons rfl (.cons rfl (.cons rfl (.cons rfl .nil))))) ?_; clear h a
         exact jE (⟨g_31, g21, 6, gT, 6, g26, W, g29, W, W, g5, [.slice (some ⟨gT, 0, none⟩) 6 6, .slice none 0 0, .slice none 0 0, .slice none 0 0], []⟩) (.cons rfl (.cons rfl (.cons rfl (.cons rfl .nil)))) ⟨rfl, rfl, rfl, rfl, ⟨_, _, _, _, (fun _ => false), ⟨hb31, ysO0 (hoY.low (by omega)), tbO0 (hoT.low (by omega)), fqO0 (hoF.low (by omega)), fqO0 (hoB.low (by omega)), by simp, by simp, by simp, by simp, (by show g26 ≠ g29; omega), (by show w2.heap.size ≤ g_31; omega), ((((((((q3.next q5).next q6).step q7 (by first | (simp; done) | (simp; omega))).next q8).next q9).next q13).next q14).next q15), hb5, fun p hp => by cases hp⟩, knR0 _, fun j _ => rep_getD 6 j []⟩, ((((((((q3.next q5).next q6).step q7 (by first | (simp; done) | (simp; omega))).next q8).next q9).next q13).next q14).next q15)⟩
     · refine id ?_
       refine st_makeSlice (m := W) (c := W) (iq0) h rfl rfl el48 zv31 rfl (Nat.le_refl _) (by omega) (by unfold maxLen; omega) rfl ?_; clear h a; intro g26 w16 hg26 hoF hq hy26 a h
       have z16 := hq.size
       replace hb1 := hb1.ext hq
       replace hb2 := hb2.ext hq
       replace hoT := hoT.ext hq
       replace hb5 := hb5.ext hq
       replace hC := hC.next hq
       have q16 := hq
       clear hq
       refine hd_next hC ?_
       refine hd_two 0 8 (by kernel_rfl) rfl rfl ?_ ?_
       · refine id ?_
         refine st_makeSlice (m := 6) (c := 6) (yq0) h rfl rfl el47 zv75 rfl (Nat.le_refl _) (by omega) (by unfold maxLen; omega) rfl ?_; clear h a; intro g21 w17 hg21 hoY hq hy21 a h
         have z17 := hq.size
         replace hb1 := hb1.ext hq
         replace hb2 := hb2.ext hq
         replace hoT := hoT.ext hq
         replace hb5 := hb5.ext hq
         replace hoF := hoF.ext hq
         replace hC := hC.next hq
         have q17 := hq
         clear hq
         refine hd_next hC ?_
         refine hd_one 8 (by kernel_rfl) rfl ?_
         refine st_makeSlice (m := W) (c := W) (iq0) h rfl rfl el48 zv31 rfl (Nat.le_refl _) (by omega) (by unfold maxLen; omega) rfl ?_; clear h a; intro g29 w18 hg29 hoB hq hy29 a h
         have z18 := hq.size
         replace hb1 := hb1.ext hq
         replace hb2 := hb2.ext hq
         replace hoT := hoT.ext hq
         replace hb5 := hb5.ext hq
         replace hoF := hoF.ext hq
         replace hoY := hoY.ext hq
         replace hC := hC.next hq
         have q18 := hq
         clear hq
         refine hd_next hC ?_
         refine hd_lit (cs := [_, _, _, _]) 9 (by kernel_rfl) (by kernel_rfl) (by kernel_rfl) hC h wn (evs_cons rfl (evs_cons rfl (evs_cons rfl (evs_cons rfl evs_nil)))) bo50 (pok_cons rfl rfl rfl (pok_cons rfl rfl rfl (pok_cons rfl rfl rfl (pok_cons rfl rfl rfl pok_nil)))) rfl rfl rfl ?_; clear h a; intro a h
         refine hd_one 10 (by kernel_rfl) rfl ?_
         refine st_box h rfl rfl rfl ?_; clear h a; intro w19 hb31 hq hz a h
         obtain ⟨g_31, hg⟩ : ∃ g, g = w18.heap.size := ⟨_, rfl⟩; rw [← hg] at hb31 h hz
         have hn__31 : g1 < g_31 := by have := hb1.lt; omega
         have hn__31 : g2 < g_31 := by have := hb2.lt; omega
         have hn__31 : g5 < g_31 := by have := hb5.lt; omega
         have z19 := hq.size
         replace hb1 := hb1.ext hq
         replace hb2 := hb2.ext hq
         replace hoT := hoT.ext hq
         replace hb5 := hb5.ext hq
         replace hoF := hoF.ext hq
         replace hoY := hoY.ext hq
         replace hoB := hoB.ext hq
         replace hC := hC.next hq
         have q19 := hq
         clear hq
         refine hd_next hC ?_
         refine hd_one 11 (by kernel_rfl) rfl ?_
         refine st_assign h rfl rfl ?_; clear h a; intro a h
         refine hd_next hC ?_
         refine hd_end (by kernel_rfl) ?_
         clear hC hb1_b hb2_b hoT_b hb5_b
         refine bk (h.sub (L' := [(1, _), (2, _), (5, _), (6, _)]) (.cons rfl (.cons rfl (.cons rfl (.cons rfl .nil))))) ?_; clear h a
         exact jE (⟨g_31, g21, 6, gT, 6, g26, W, g29, W, W, g5, [.slice (some ⟨gT, 0, none⟩) 6 6, .slice none 0 0, .slice none 0 0, .slice none 0 0], []⟩) (.cons rfl (.cons rfl (.cons rfl (.cons rfl .nil)))) ⟨rfl, rfl, rfl, rfl, ⟨_, _, _, _, (fun _ => false), ⟨hb31, ysO0 (hoY.low (by omega)), tbO0 (hoT.low (by omega)), fqO0 (hoF.low (by omega)), fqO0 (hoB.low (by omega)), by simp, by simp, by simp, by simp, (by show g26 ≠ g29; omega), (by show w2.heap.size ≤ g_31; omega), ((((((((q3.next q5).next q6).step q7 (by first | (simp; done) | (simp; omega))).next q8).next q16).next q17).next q18).next q19), hb5, fun p hp => by cases hp⟩, knR0 _, fun j _ => rep_getD 6 j []⟩, ((((((((q3.next q5).next q6).step q7 (by first | (simp; done) | (simp; omega))).next q8).next q16).next q17).next q18).next q19)⟩
       · refine id ?_
         refine st_makeSlice (m := W) (c := W) (iq0) h rfl rfl el48 zv31 rfl (Nat.le_refl _) (by omega) (by unfold maxLen; omega) rfl ?_; clear h a; intro g29 w20 hg29 hoB hq hy29 a h
         have z20 := hq.size
         replace hb1 := hb1.ext hq
         replace hb2 := hb2.ext hq
         replace hoT := hoT.ext hq
         replace hb5 := hb5.ext hq
         replace hoF := hoF.ext hq
         replace hC := hC.next hq
         have q20 := hq
         clear hq
         refine hd_next hC ?_
         refine hd_one 0 (by kernel_rfl) rfl ?_
         refine st_makeSlice (m := 6) (c := 6) (yq0) h rfl rfl el47 zv75 rfl (Nat.le_refl _) (by omega) (by unfold maxLen; omega) rfl ?_; clear h a; intro g21 w21 hg21 hoY hq hy21 a h
         have z21 := hq.size
         replace hb1 := hb1.ext hq
         replace hb2 := hb2.ext hq
         replace hoT := hoT.ext hq
         replace hb5 := hb5.ext hq
         replace hoF := hoF.ext hq
         replace hoB := hoB.ext hq
         replace hC := hC.next hq
         have q21 := hq
         clear hq
         refine hd_next hC ?_
         refine hd_lit (cs := [_, _, _, _]) 9 (by kernel_rfl) (by kernel_rfl) (by kernel_rfl) hC h wn (evs_cons rfl (evs_cons rfl (evs_cons rfl (evs_cons rfl evs_nil)))) bo50 (pok_cons rfl rfl rfl (pok_cons rfl rfl rfl (pok_cons rfl rfl rfl (pok_cons rfl rfl rfl pok_nil)))) rfl rfl rfl ?_; clear h a; intro a h
         refine hd_one 10 (by kernel_rfl) rfl ?_
         refine st_box h rfl rfl rfl ?_; clear h a; intro w22 hb31 hq hz a h
         obtain ⟨g_31, hg⟩ : ∃ g, g = w21.heap.size := ⟨_, rfl⟩; rw [← hg] at hb31 h hz
         have hn__31 : g1 < g_31 := by have := hb1.lt; omega
         have hn__31 : g2 < g_31 := by have := hb2.lt; omega
         have hn__31 : g5 < g_31 := by have := hb5.lt; omega
         have z22 := hq.size
         replace hb1 := hb1.ext hq
         replace hb2 := hb2.ext hq
         replace hoT := hoT.ext hq
         replace hb5 := hb5.ext hq
         replace hoF := hoF.ext hq
         replace hoB := hoB.ext hq
         replace hoY := hoY.ext hq
         replace hC := hC.next hq
         have q22 := hq
         clear hq
         refine hd_next hC ?_
         refine hd_one 11 (by kernel_rfl) rfl ?_
         refine st_assign h rfl rfl ?_; clear h a; intro a h
         refine hd_next hC ?_
         refine hd_end (by kernel_rfl) ?_
         clear hC hb1_b hb2_b hoT_b hb5_b
         refine bk (h.sub (L' := [(1, _), (2, _), (5, _), (6, _)]) (.cons rfl (.cons rfl (.cons rfl (.cons rfl .nil))))) ?_; clear h a
         exact jE (⟨g_31, g21, 6, gT, 6, g26, W, g29, W, W, g5, [.slice (some ⟨gT, 0, none⟩) 6 6, .slice none 0 0, .slice none 0 0, .slice none 0 0], []⟩) (.cons rfl (.cons rfl (.cons rfl (.cons rfl .nil)))) ⟨rfl, rfl, rfl, rfl, ⟨_, _, _, _, (fun _ => false), ⟨hb31, ysO0 (hoY.low (by omega)), tbO0 (hoT.low (by omega)), fqO0 (hoF.low (by omega)), fqO0 (hoB.low (by omega)), by simp, by simp, by simp, by simp, (by show g26 ≠ g29; omega), (by show w2.heap.size ≤ g_31; omega), ((((((((q3.next q5).next q6).step q7 (by first | (simp; done) | (simp; omega))).next q8).next q16).next q20).next q21).next q22), hb5, fun p hp => by cases hp⟩, knR0 _, fun j _ => rep_getD 6 j []⟩, ((((((((q3.next q5).next q6).step q7 (by first | (simp; done) | (simp; omega))).next q8).next q16).next q20).next q21).next q22)⟩
     · refine id ?_
       refine st_makeSlice (m := W) (c := W) (iq0) h rfl rfl el48 zv31 rfl (Nat.le_refl _) (by omega) (by unfold maxLen; omega) rfl ?_; clear h a; intro g29 w23 hg29 hoB hq hy29 a h
       have z23 := hq.size
       replace hb1 := hb1.ext hq
       replace hb2 := hb2.ext hq
       replace hoT := hoT.ext hq
       replace hb5 := hb5.ext hq
       replace hC := hC.next hq
       have q23 := hq
       clear hq
       refine hd_next hC ?_
       refine hd_two 0 5 (by kernel_rfl) rfl rfl ?_ ?_
       · refine id ?_
         refine st_makeSlice (m := 6) (c := 6) (yq0) h rfl rfl el47 zv75 rfl (Nat.le_refl _) (by omega) (by unfold maxLen; omega) rfl ?_; clear h a; intro g21 w24 hg21 hoY hq hy21 a h
         have z24 := hq.size
         replace hb1 := hb1.ext hq
         replace hb2 := hb2.ext hq
         replace hoT := hoT.ext hq
         replace hb5 := hb5.ext hq
         replace hoB := hoB.ext hq
         replace hC := hC.next hq
         have q24 := hq
         clear hq
         refine hd_next hC ?_
         refine hd_one 5 (by kernel_rfl) rfl ?_
         refine st_makeSlice (m := W) (c := W) (iq0) h rfl rfl el48 zv31 rfl (Nat.le_refl _) (by omega) (by unfold maxLen; omega) rfl ?_; clear h a; intro g26 w25 hg26 hoF hq hy26 a h
         have z25 := hq.size
         replace hb1 := hb1.ext hq
         replace hb2 := hb2.ext hq
         replace hoT := hoT.ext hq
         replace hb5 := hb5.ext hq
         replace hoB := hoB.ext hq
         replace hoY := hoY.ext hq
         replace hC := hC.next hq
         have q25 := hq
         clear hq
         refine hd_next hC ?_
         refine hd_lit (cs := [_, _, _, _]) 9 (by kernel_rfl) (by kernel_rfl) (by kernel_rfl) hC h wn (evs_cons rfl (evs_cons rfl (evs_cons rfl (evs_cons rfl evs_nil)))) bo50 (pok_cons rfl rfl rfl (pok_cons rfl rfl rfl (pok_cons rfl rfl rfl (pok_cons rfl rfl rfl pok_nil)))) rfl rfl rfl ?_; clear h a; intro a h
         refine hd_one 10 (by kernel_rfl) rfl ?_
         refine st_box h rfl rfl rfl ?_; clear h a; intro w26 hb31 hq hz a h
         obtain ⟨g_31, hg⟩ : ∃ g, g = w25.heap.size := ⟨_, rfl⟩; rw [← hg] at hb31 h hz
         have hn__31 : g1 < g_31 := by have := hb1.lt; omega
         have hn__31 : g2 < g_31 := by have := hb2.lt; omega
         have hn__31 : g5 < g_31 := by have := hb5.lt; omega
         have z26 := hq.size
         replace hb1 := hb1.ext hq
         replace hb2 := hb2.ext hq
         replace hoT := hoT.ext hq
         replace hb5 := hb5.ext hq
         replace hoB := hoB.ext hq
         replace hoY := hoY.ext hq
         replace hoF := hoF.ext hq
         replace hC := hC.next hq
         have q26 := hq
         clear hq
         refine hd_next hC ?_
         refine hd_one 11 (by kernel_rfl) rfl ?_
         refine st_assign h rfl rfl ?_; clear h a; intro a h
         refine hd_next hC ?_
         refine hd_end (by kernel_rfl) ?_
         clear hC hb1_b hb2_b hoT_b hb5_b
         refine bk (h.sub (L' := [(1, _), (2, _), (5, _), (6, _)]) (.cons rfl (.cons rfl (.cons rfl (.cons rfl .nil))))) ?_; clear h a
         exact jE (⟨g_31, g21, 6, gT, 6, g26, W, g29, W, W, g5, [.slice (some ⟨gT, 0, none⟩) 6 6, .slice none 0 0, .slice none 0 0, .slice none 0 0], []⟩) (.cons rfl (.cons rfl (.cons rfl (.cons rfl .nil)))) ⟨rfl, rfl, rfl, rfl, ⟨_, _, _, _, (fun _ => false), ⟨hb31, ysO0 (hoY.low (by omega)), tbO0 (hoT.low (by omega)), fqO0 (hoF.low (by omega)), fqO0 (hoB.low (by omega)), by simp, by simp, by simp, by simp, (by show g26 ≠ g29; omega), (by show w2.heap.size ≤ g_31; omega), ((((((((q3.next q5).next q6).step q7 (by first | (simp; done) | (simp; omega))).next q8).next q23).next q24).next q25).next q26), hb5, fun p hp => by cases hp⟩, knR0 _, fun j _ => rep_getD 6 j []⟩, ((((((((q3.next q5).next q6).step q7 (by first | (simp; done) | (simp; omega))).next q8).next q23).next q24).next q25).next q26)⟩
       · refine id ?_
         refine st_makeSlice (m := W) (c := W) (iq0) h rfl rfl el48 zv31 rfl (Nat.le_refl _) (by omega) (by unfold maxLen; omega) rfl ?_; clear h a; intro g26 w27 hg26 hoF hq hy26 a h
         have z27 := hq.size
         replace hb1 := hb1.ext hq
         replace hb2 := hb2.ext hq
         replace hoT := hoT.ext hq
         replace hb5 := hb5.ext hq
         replace hoB := hoB.ext hq
         replace hC := hC.next hq
         have q27 := hq
         clear hq
         refine hd_next hC ?_
         refine hd_one 0 (by kernel_rfl) rfl ?_
         refine st_makeSlice (m := 6) (c := 6) (yq0) h rfl rfl el47 zv75 rfl (Nat.le_refl _) (by omega) (by unfold maxLen; omega) rfl ?_; clear h a; intro g21 w28 hg21 hoY hq hy21 a h
         have z28 := hq.size
         replace hb1 := hb1.ext hq
         replace hb2 := hb2.ext hq
         replace hoT := hoT.ext hq
         replace hb5 := hb5.ext hq
         replace hoB := hoB.ext hq
         replace hoF := hoF.ext hq
         replace hC := hC.next hq
         have q28 := hq
         clear hq
         refine hd_next hC ?_
         refine hd_lit (cs := [_, _, _, _]) 9 (by kernel_rfl) (by kernel_rfl) (by kernel_rfl) hC h wn (evs_cons rfl (evs_cons rfl (evs_cons rfl (evs_cons rfl evs_nil)))) bo50 (pok_cons rfl rfl rfl (pok_cons rfl rfl rfl (pok_cons rfl rfl rfl (pok_cons rfl rfl rfl pok_nil)))) rfl rfl rfl ?_; clear h a; intro a h
         refine hd_one 10 (by kernel_rfl) rfl ?_
         refine st_box h rfl rfl rfl ?_; clear h a; intro w29 hb31 hq hz a h
         obtain ⟨g_31, hg⟩ : ∃ g, g = w28.heap.size := ⟨_, rfl⟩; rw [← hg] at hb31 h hz
         have hn__31 : g1 < g_31 := by have := hb1.lt; omega
         have hn__31 : g2 < g_31 := by have := hb2.lt; omega
         have hn__31 : g5 < g_31 := by have := hb5.lt; omega
         have z29 := hq.size
         replace hb1 := hb1.ext hq
         replace hb2 := hb2.ext hq
         replace hoT := hoT.ext hq
         replace hb5 := hb5.ext hq
         replace hoB := hoB.ext hq
         replace hoF := hoF.ext hq
         replace hoY := hoY.ext hq
         replace hC := hC.next hq
         have q29 := hq
         clear hq
         refine hd_next hC ?_
         refine hd_one 11 (by kernel_rfl) rfl ?_
         refine st_assign h rfl rfl ?_; clear h a; intro a h
         refine hd_next hC ?_
         refine hd_end (by kernel_rfl) ?_
         clear hC hb1_b hb2_b hoT_b hb5_b
         refine bk (h.sub (L' := [(1, _), (2, _), (5, _), (6, _)]) (.cons rfl (.cons rfl (.cons rfl (.cons rfl .nil))))) ?_; clear h a
         exact jE (⟨g_31, g21, 6, gT, 6, g26, W, g29, W, W, g5, [.slice (some ⟨gT, 0, none⟩) 6 6, .slice none 0 0, .slice none 0 0, .slice none 0 0], []⟩) (.cons rfl (.cons rfl (.cons rfl (.cons rfl .nil)))) ⟨rfl, rfl, rfl, rfl, ⟨_, _, _, _, (fun _ => false), ⟨hb31, ysO0 (hoY.low (by omega)), tbO0 (hoT.low (by omega)), fqO0 (hoF.low (by omega)), fqO0 (hoB.low (by omega)), by simp, by simp, by simp, by simp, (by show g26 ≠ g29; omega), (by show w2.heap.size ≤ g_31; omega), ((((((((q3.next q5).next q6).step q7 (by first | (simp; done) | (simp; omega))).next q8).next q23).next q27).next q28).next q29), hb5, fun p hp => by cases hp⟩, knR0 _, fun j _ => rep_getD 6 j []⟩, ((((((((q3.next q5).next q6).step q7 (by first | (simp; done) | (simp; omega))).next q8).next q23).next q27).next q28).next q29)⟩
   · rintro ka w30 ⟨hkw, hk5, hkc, hki, hO, qf⟩
     refine kpC [(1, _), (2, _), (5, _), (6, _)] (.cons rfl (.cons rfl (.cons rfl (.cons rfl .nil)))) ?_
     have hb1 := sb1.ext qf
     have hb2 := sb2.ext qf
     have hs := hs0
     have hzf := qf.size
     
     refine sq (sr (fad rfl fa26_1 rfl (s_loadB rfl hb1 rfl na22 rfl (lnS rfl Tryz.underlying22 rfl (mv rfl rfl (nn (bl ?_)))))))
     refine lpK (ι := Nat) [(1, _), (2, _), (5, _), (6, _), (33, _), (34, _)] (fun i => [(35, .int .i64 (i : Int))]) (fun i w' => i ≤ rs.length ∧ KnO w2 ka (rs.take i) w' ∧ Fr [] w2 w') (fun i => rs.length - i) 0 (.cons rfl (.cons rfl (.cons rfl (.cons rfl (.cons rfl (.cons rfl (.cons rfl .nil))))))) ⟨Nat.zero_le _, hO, qf⟩ ?_
     rintro i w31 ⟨hi, hO, qf⟩
     refine kpC [(1, _), (2, _), (5, _), (6, _), (33, _), (34, _), (35, _)] (.cons rfl (.cons rfl (.cons rfl (.cons rfl (.cons rfl (.cons rfl (.cons rfl .nil))))))) ?_
     have hb1 := sb1.ext qf
     have hb2 := sb2.ext qf
     have hs := hs0
     have hzf := qf.size
     
     refine sr (lt' rfl rfl rfl (nn (sq ?_)))
     refine cd rfl (fun c1 => ?_) (fun c1 => ?_)
     · refine sk (tn (sq (bl (sr ?_))))
       replace hs := hs0.ext ((q1.next q2).next qf)
       refine s_idxL (p := i) ((0 : UInt8)) rfl hs rfl el22 (by omega) (by omega) (by omega) rfl (fun ad37 hc37 => ?_)
       refine s_loadC0 rfl (hc37 _ hs) na5 rfl (asg rfl rfl (nn (sr (mv rfl rfl (fad rfl fa26_0 rfl (s_loadB rfl hb1 rfl na3 rfl (mv rfl rfl ?_)))))))
       refine cl (evs_cons rfl (evs_cons rfl (evs_cons rfl evs_nil))) co11 (knO_round w2 ka W hkw rs i _ hO (by omega) hv (by omega) (by omega) (by omega)) rfl ?_
       rintro _ w32 ⟨rfl, hO, qf⟩
       have hzf := qf.size
       have hb1 := sb1.ext qf
       have hb2 := sb2.ext qf
       have hs := hs0
       refine asg rfl rfl (kpL [(1, _), (2, _), (5, _), (6, _), (9, _), (33, _), (34, _), (35, _)] (.cons rfl (.cons rfl (.cons rfl (.cons rfl (.cons rfl (.cons rfl (.cons rfl (.cons rfl .nil)))))))) (nn (sr (mv rfl rfl (ne' rfl rfl rfl (nn ?_))))))
       refine cd rfl (fun c2 => ?_) (fun c2 => ?_)
       · refine sr (s_lit (cs := [_, _, _, _]) evs_nil bo33 pok_nil rfl rfl ?_)
         refine mv rfl rfl (s_storeBA (vs := [_, _, _, _]) rfl rfl hb2 (by rfl) (by first | (simp [Value.oneCell', S]; done) | exact Enc.one _ _) sz33 (fun w33 hb2 q33 z33 => ?_))
         refine asg rfl rfl (kpL [(2, _), (3, _)] (.cons rfl (.cons rfl .nil)) (nn (rt (rb (tr (tr (rb (tr (rCT Tryz.results5 rfl hb2 ag33 rfl ?_)))))))))
         exact absurd rfl (by assumption)
       · refine sk (bn' (tn (rg (s_add rfl rfl (wi6 (by omega)) rfl (mv rfl rfl (nl ?_))))))
         exact lpE (i + 1) (.cons rfl (.cons rfl (.cons rfl (.cons rfl (.cons rfl (.cons rfl (.cons rfl .nil))))))) ⟨by omega, hO, qf⟩ (by omega)
     · obtain rfl : i = rs.length := by omega
       rw [List.take_length] at hO
       refine ex (te (te (xh (tn ?_))))
       refine jn (ι := Nat) [(2, _), (5, _), (6, _)] (fun g10 => [(10, .pointer (some ⟨g10, 0, none⟩)), (11, .int .i64 0)]) (fun g10 w' => ∃ ts, Blk w' ka.gk 50 [ka.YV, ka.TV, ka.FV, ka.BV] ∧ TbO τd w2.heap.size w' ka.TV ts ∧ ts.length = 6 ∧ tabP ts = tubT W rs ∧ Blk w' ka.g5 33 ka.c5 ∧ Blk w' g10 39 [.int .u8 ((lastY rs).toNat : Int), .int .i64 ((((tubT W rs).getD ((lastY rs).toNat - 1) []).length : Int) - 1)] ∧ Fr [] w2 w') (.cons rfl (.cons rfl (.cons rfl .nil))) ?_ ?_
       · replace hs := hs0.ext ((q1.next q2).next qf)
         intro a h
         refine region_heldP (some 17) (fun _ w' => Fr [] w2 w') hmix ?_; intro w34 hq
         have z34 := hq.size
         replace hb1 := hb1.ext hq
         replace hs := hs.ext hq
         have q34 := hq
         clear hq; have hC : Fr [] w2 w34 := (qf.next q34)
         have hb1_b := sb1
         have hs_b := shs
         refine hd_move 0 (by kernel_rfl) (by kernel_rfl) (by kernel_rfl) hC h wn rfl rfl rfl ?_; clear h a; intro a h
         refine hd_fieldAddr 1 (by kernel_rfl) (by kernel_rfl) (by kernel_rfl) hC h wn rfl fa26_0 rfl rfl ?_; clear h a; intro a h
         refine hd_loadB 2 (by kernel_rfl) (by kernel_rfl) (by kernel_rfl) hC h wn rfl (fun _ hw => hb1_b.ext hw) rfl na3 rfl rfl ?_; clear h a; intro a h
         refine hd_fieldAddr 3 (by kernel_rfl) (by kernel_rfl) (by kernel_rfl) hC h wn rfl fa26_1 rfl rfl ?_; clear h a; intro a h
         refine hd_loadB 4 (by kernel_rfl) (by kernel_rfl) (by kernel_rfl) hC h wn rfl (fun _ hw => hb1_b.ext hw) rfl na22 rfl rfl ?_; clear h a; intro a h
         refine hd_fieldAddr 5 (by kernel_rfl) (by kernel_rfl) (by kernel_rfl) hC h wn rfl fa26_1 rfl rfl ?_; clear h a; intro a h
         refine hd_loadB 6 (by kernel_rfl) (by kernel_rfl) (by kernel_rfl) hC h wn rfl (fun _ hw => hb1_b.ext hw) rfl na22 rfl rfl ?_; clear h a; intro a h
         refine hd_lenS 7 (by kernel_rfl) (by kernel_rfl) (by kernel_rfl) hC h wn rfl Tryz.underlying22 rfl rfl ?_; clear h a; intro a h
         refine hd_sub 8 (by kernel_rfl) (by kernel_rfl) (by kernel_rfl) hC h wn rfl rfl (by first | exact IntWalk.i64_in _ (by omega) | rfl) rfl rfl ?_; clear h a; intro a h
         refine hd_idxL (p := (rs.length - 1)) ((0 : UInt8)) 9 (by kernel_rfl) (by kernel_rfl) (by kernel_rfl) hC h wn rfl hs rfl el22 (by omega) (by omega) (by omega) rfl rfl ?_; clear h a; intro ad59 hc59 a h
         refine hd_loadC0 10 (by kernel_rfl) (by kernel_rfl) (by kernel_rfl) hC h wn rfl (fun _ hw => hc59 _ (hs_b.ext hw)) na5 rfl rfl ?_; clear h a; intro a h
         refine hd_two 11 15 (by kernel_rfl) rfl rfl ?_ ?_
         · refine id ?_
           have hO2 := (hO.ext q34).two hki
           refine st_call h (evs_cons rfl (evs_cons rfl (evs_cons rfl evs_nil))) co12 (knO_bind w2 ka W hkw rs _ hO2 hv (by omega) (by show 1 ≤ ka.wd; omega) (by show ka.wd ≤ 16; omega) (by omega)) rfl ?_; clear h a; rintro _ w35 ⟨rfl, ys, ts, fs, bs, hM, htP, hof⟩ a h
           have qf := hM.fr
           have hzf := qf.size
           have hk := hM.k
           have hT := hM.t
           have hltT := hM.lt
           have hx := hM.x
           replace hC := qf
           refine hd_next hC ?_
           refine hd_move 12 (by kernel_rfl) (by kernel_rfl) (by kernel_rfl) hC h wn rfl rfl rfl ?_; clear h a; intro a h
           refine hd_extract 13 (by kernel_rfl) (by kernel_rfl) (by kernel_rfl) hC h wn rfl rfl rfl rfl ?_; clear h a; intro a h
           refine hd_extract 14 (by kernel_rfl) (by kernel_rfl) (by kernel_rfl) hC h wn rfl rfl rfl rfl ?_; clear h a; intro a h
           refine hd_one 15 (by kernel_rfl) rfl ?_
           refine st_alloc h zv39 rfl rfl ?_; clear h a; intro w36 hb10 hq hz a h
           obtain ⟨g_10, hg⟩ : ∃ g, g = w35.heap.size := ⟨_, rfl⟩; rw [← hg] at hb10 h hz
           have z36 := hq.size
           replace hC := hC.next hq
           have q36 := hq
           clear hq
           refine hd_next hC ?_
           refine hd_one 16 (by kernel_rfl) rfl ?_
           refine st_storeBA h rfl rfl hb10 rfl (by first | (simp [Value.oneCell', S]; done) | exact Enc.one _ _) sz39 ?_; clear h a; intro w37 hbn hq hz a h
           have z37 := hq.size
           replace hC := hC.step hq (by first | (simp; done) | (simp; omega))
           have q37 := hq
           clear hb10 hq hz; have hb10 : Blk w37 g_10 _ [_, _] := hbn; clear hbn
           refine hd_next hC ?_
           refine hd_one 17 (by kernel_rfl) rfl ?_
           refine st_assign h rfl rfl ?_; clear h a; intro a h
           refine hd_past (by kernel_rfl) ?_
           refine hd_end (by kernel_rfl) ?_
           clear hC hb1_b hs_b
           refine bk (h.sub (L' := [(2, _), (5, _), (6, _), (10, _), (11, _)]) (.cons rfl (.cons rfl (.cons rfl (.cons rfl (.cons rfl .nil)))))) ?_; clear h a
           have hF := (q36.step q37 (by first | (simp; done) | (simp; omega)))
           replace hk := hk.ext hF
           replace hT := hT.ext hF
           replace hx := hx.ext hF
           exact jE (g_10) (.cons rfl (.cons rfl (.cons rfl (.cons rfl (.cons rfl .nil))))) ⟨ts, hk, hT, hltT, htP, hx, hb10, ((qf.next q36).step q37 (by first | (simp; done) | (simp; omega)))⟩
         · refine id ?_
           refine st_alloc h zv39 rfl rfl ?_; clear h a; intro w38 hb10 hq hz a h
           obtain ⟨g_10, hg⟩ : ∃ g, g = w34.heap.size := ⟨_, rfl⟩; rw [← hg] at hb10 h hz
           have hn__10 : g1 < g_10 := by have := hb1.lt; omega
           have z38 := hq.size
           replace hb1 := hb1.ext hq
           replace hs := hs.ext hq
           replace hC := hC.next hq
           have q38 := hq
           clear hq
           refine hd_next hC ?_
           refine hd_one 11 (by kernel_rfl) rfl ?_
           have hO2 := hO.two1 (q34.next q38) hb10 (by omega) hki
           refine st_call h (evs_cons rfl (evs_cons rfl (evs_cons rfl evs_nil))) co12 (knO_bind w2 { ka with ids := (g_10, [.int .u8 0, .int .i64 0]) :: ka.ids } W hkw rs _ hO2 hv (by omega) (by show 1 ≤ ka.wd; omega) (by show ka.wd ≤ 16; omega) (by omega)) rfl ?_; clear h a; rintro _ w39 ⟨rfl, ys, ts, fs, bs, hM, htP, hof⟩ a h
           have qf := hM.fr
           have hzf := qf.size
           have hk := hM.k
           have hT := hM.t
           have hltT := hM.lt
           have hx := hM.x
           replace hC := qf
           have hb10B := hM.xi _ List.mem_cons_self
           have hb10 := hb10B
           refine hd_next hC ?_
           refine hd_move 12 (by kernel_rfl) (by kernel_rfl) (by kernel_rfl) hC h wn rfl rfl rfl ?_; clear h a; intro a h
           refine hd_extract 13 (by kernel_rfl) (by kernel_rfl) (by kernel_rfl) hC h wn rfl rfl rfl rfl ?_; clear h a; intro a h
           refine hd_extract 14 (by kernel_rfl) (by kernel_rfl) (by kernel_rfl) hC h wn rfl rfl rfl rfl ?_; clear h a; intro a h
           refine hd_one 16 (by kernel_rfl) rfl ?_
           refine st_storeBA h rfl rfl hb10 rfl (by first | (simp [Value.oneCell', S]; done) | exact Enc.one _ _) sz39 ?_; clear h a; intro w40 hbn hq hz a h
           have z40 := hq.size
           replace hC := hC.step hq (by first | (simp; done) | (simp; omega))
           have q40 := hq
           clear hb10 hq hz; have hb10 : Blk w40 g_10 _ [_, _] := hbn; clear hbn
           refine hd_next hC ?_
           refine hd_one 17 (by kernel_rfl) rfl ?_
           refine st_assign h rfl rfl ?_; clear h a; intro a h
           refine hd_past (by kernel_rfl) ?_
           refine hd_end (by kernel_rfl) ?_
           clear hC hb1_b hs_b
           refine bk (h.sub (L' := [(2, _), (5, _), (6, _), (10, _), (11, _)]) (.cons rfl (.cons rfl (.cons rfl (.cons rfl (.cons rfl .nil)))))) ?_; clear h a
           have hF := ((Fr.refl [g_10] _).step q40 (by first | (simp; done) | (simp; omega)))
           replace hk := blk_tf hk hF (OffT.one hb10B (by decide))
           replace hT := TbO.tfI hT hF (OffT.one hb10B (by decide)) (OffT.one hb10B (by decide)) (OffT.one hb10B (by decide)) (fun i hi q hq k k1 k2 => by rw [List.mem_singleton] at k2; subst k2; exact (hof _ List.mem_cons_self).1 i (by omega) q hq k1)
           replace hx := blk_tf hx hF (OffT.one hb10B (by decide))
           exact jE (g_10) (.cons rfl (.cons rfl (.cons rfl (.cons rfl (.cons rfl .nil))))) ⟨ts, hk, hT, hltT, htP, hx, hb10, (qf.step q40 (by first | (simp; done) | (simp; omega)))⟩
       · rintro g10 w41 ⟨ts, hk, hT, hltT, htP, hx, hb10, qf⟩
         refine kpC [(2, _), (5, _), (6, _), (10, _), (11, _)] (.cons rfl (.cons rfl (.cons rfl (.cons rfl (.cons rfl .nil))))) ?_
         have hb1 := sb1.ext qf
         have hb2 := sb2.ext qf
         have hs := hs0
         have hzf := qf.size
         have hkz := hk.lt
         have hb10z := hb10.lt
         have hxz := hx.lt
         
         refine sq (sr (mv rfl rfl (ne' rfl rfl rfl (nn ?_))))
         refine cd rfl (fun c3 => ?_) (fun c3 => ?_)
         · refine sr (s_lit (cs := [_, _, _, _]) evs_nil bo33 pok_nil rfl rfl ?_)
           refine mv rfl rfl (s_storeBA (vs := [_, _, _, _]) rfl rfl hb2 (by rfl) (by first | (simp [Value.oneCell', S]; done) | exact Enc.one _ _) sz33 (fun w42 hb2 q42 z42 => ?_))
           refine asg rfl rfl (kpL [(2, _), (3, _)] (.cons rfl (.cons rfl .nil)) (nn (rt (tr (rCT Tryz.results5 rfl hb2 ag33 rfl ?_)))))
           exact absurd rfl (by assumption)
         · refine sk (tn (sq (sr (mv rfl rfl (nlc rfl rfl (fad rfl fa50_1 rfl (s_loadB rfl hk rfl na29 rfl (lnS rfl Tryz.underlying29 rfl (mv rfl rfl (nn (bl ?_)))))))))))
           refine lpK (ι := Nat) [(2, _), (5, _), (6, _), (10, _), (71, _), (72, _)] (fun i => [(73, .int .i64 (i : Int))]) (fun i w' => i ≤ 6 ∧ ∃ ts, Blk w' ka.gk 50 [ka.YV, ka.TV, ka.FV, ka.BV] ∧ TbO τd w2.heap.size w' ka.TV ts ∧ ts.length = 6 ∧ tabP ts = tubT W rs ∧ Blk w' ka.g5 33 ka.c5 ∧ Blk w' g10 39 [.int .u8 ((lastY rs).toNat : Int), .int .i64 ((((tubT W rs).getD ((lastY rs).toNat - 1) []).length : Int) - 1)] ∧ Fr [] w2 w') (fun i => 6 - i) 0 (.cons rfl (.cons rfl (.cons rfl (.cons rfl (.cons rfl (.cons rfl (.cons rfl .nil))))))) ⟨Nat.zero_le _, _, hk, hT, hltT, htP, hx, hb10, qf⟩ ?_
           rintro i w43 ⟨hi, ts, hk, hT, hltT, htP, hx, hb10, qf⟩
           refine kpC [(2, _), (5, _), (6, _), (10, _), (71, _), (72, _), (73, _)] (.cons rfl (.cons rfl (.cons rfl (.cons rfl (.cons rfl (.cons rfl (.cons rfl .nil))))))) ?_
           have hb1 := sb1.ext qf
           have hb2 := sb2.ext qf
           have hs := hs0
           have hzf := qf.size
           have hkz := hk.lt
           have hb10z := hb10.lt
           have hxz := hx.lt
           have hb5 : Blk w43 g5 33 [ka.TV, .slice none 0 0, .slice none 0 0, .slice none 0 0] := by rw [← hk5, ← hkc]; exact hx
           have hb5L := hb5
           have hne5 : g10 ≠ g5 := fun e => off_mem hb10 (OffT.one hb5 (by decide)) (by simp [e])
           have hb2L := hb2
           
           refine sr (lt' rfl rfl rfl (nn (sq ?_)))
           refine cd rfl (fun c4 => ?_) (fun c4 => ?_)
           · have hrow := hT.ins i (by omega)
             have hrl := sl_len hrow.sl
             have hcl : (ts.getD i tq0).1.2.1 ≤ (ts.getD i tq0).1.2.2 := by obtain ⟨A_, c_, e_, h_⟩ := hrow.sl.form; simp only [slv, Value.slice.injEq] at e_; omega
             have hclp := hrow.take rfl (Nat.le_refl _) (c' := (ts.getD i tq0).2.length) (by omega) (Nat.le_refl _)
             rw [List.take_length, ← hrl] at hclp
             refine sk (tn (sq (bl (sr (mv rfl rfl (s_idxL (p := i) (tq0) rfl hT.out.sl rfl el29 (by omega) (by omega) (by omega) rfl (fun ad76 hc76 => ?_)))))))
             refine s_loadC0 rfl (hc76 _ hT.out.sl) na40 rfl (asg rfl rfl (asg rfl rfl (nn ?_)))
             intro a h
             refine region_heldP (some 8) (fun wb w' => Fr [] wb w') hmix ?_; intro w44 hq
             have z44 := hq.size
             replace hk := hk.ext hq
             have q44 := hq
             clear hq; have hC : Fr [] w44 w44 := Fr.refl _ _
             have hk_b := hk
             refine hd_move 0 (by kernel_rfl) (by kernel_rfl) (by kernel_rfl) hC h wn rfl rfl rfl ?_; clear h a; intro a h
             refine hd_nilCheck 1 (by kernel_rfl) (by kernel_rfl) (by kernel_rfl) hC h wn rfl rfl rfl ?_; clear h a; intro a h
             refine hd_fieldAddr 2 (by kernel_rfl) (by kernel_rfl) (by kernel_rfl) hC h wn rfl fa50_1 rfl rfl ?_; clear h a; intro a h
             refine hd_loadB 3 (by kernel_rfl) (by kernel_rfl) (by kernel_rfl) hC h wn rfl (fun _ hw => hk_b.ext hw) rfl na29 rfl rfl ?_; clear h a; intro a h
             refine hd_move 4 (by kernel_rfl) (by kernel_rfl) (by kernel_rfl) hC h wn rfl rfl rfl ?_; clear h a; intro a h
             refine hd_move 5 (by kernel_rfl) (by kernel_rfl) (by kernel_rfl) hC h wn rfl rfl rfl ?_; clear h a; intro a h
             refine hd_one 6 (by kernel_rfl) rfl ?_
             refine st_call h (evs_cons rfl evs_nil) co13 (cliplp_ok (ts.getD i tq0).1.1 (ts.getD i tq0).1.2.1 (ts.getD i tq0).1.2.2 _ hcl) rfl ?_; clear h a; rintro _ _ ⟨rfl, rfl⟩ a h
             refine hd_next hC ?_
             refine hd_idxS 7 (by kernel_rfl) (by kernel_rfl) (by kernel_rfl) hC (p := i) h wn rfl rfl el29 (by omega) (by omega) (by omega) rfl rfl ?_; clear h a; intro a h
             refine hd_one 8 (by kernel_rfl) rfl ?_
             have hF := q44
             replace hT := hT.ext hF
             replace hx := hx.ext hF
             replace hb10 := hb10.ext hF
             replace qf := qf.next hF
             replace hclp := hclp.ext hF
             refine st_storeO (i := i) ((((ts.getD i tq0).1.1, (ts.getD i tq0).1.2.1, (ts.getD i tq0).1.2.1), (ts.getD i tq0).2) : TQ) h rfl rfl hT.out (by omega) rfl sz40 ?_; clear h a; intro w45 ho_2 hq _hz a h
             have hoG := own_off hT.out (T := 50) (by decide)
             have hgt := (hT.out.blk ka.gt (by simp [blks])).1
             replace hk := blk_tf hk hq hoG
             replace hx := blk_tf hx hq (own_off hT.out (by decide))
             replace hb10 := blk_tf hb10 hq (own_off hT.out (by decide))
             have htP2 := clip_tab ts i ((ts.getD i tq0).1.1, (ts.getD i tq0).1.2.1, (ts.getD i tq0).1.2.1) (by omega)
             replace qf := qf.step hq (fun k k_ hlt => by rw [List.mem_singleton.1 k_] at hlt; omega)
             have hT2 := hT.clip τd_ok (i := i) (u := ((ts.getD i tq0).1.1, (ts.getD i tq0).1.2.1, (ts.getD i tq0).1.2.1)) (by omega) (blks_cl _) hclp ho_2 hq
             have hzf := qf.size
             clear hq _hz
             refine hd_past (by kernel_rfl) ?_
             refine hd_end (by kernel_rfl) ?_
             clear hC hk_b
             refine bk (h.sub (L' := [(2, _), (5, _), (6, _), (10, _), (71, _), (72, _), (73, _)]) (.cons rfl (.cons rfl (.cons rfl (.cons rfl (.cons rfl (.cons rfl (.cons rfl .nil)))))))) ?_; clear h a
             refine bn' (tn (rg (s_add rfl rfl (wi6 (by omega)) rfl (mv rfl rfl (nl ?_)))))
             exact lpE (i + 1) (.cons rfl (.cons rfl (.cons rfl (.cons rfl (.cons rfl (.cons rfl (.cons rfl .nil))))))) ⟨by omega, _, hk, hT2, by rw [List.length_set]; exact hltT, htP2.trans htP, hx, hb10, qf⟩ (by omega)
           · obtain rfl : i = 6 := by omega
             refine ex (te (te (xh (tn (sr (mv rfl rfl (nlc rfl rfl (fad rfl fa50_1 rfl (s_loadB rfl hk rfl na29 rfl (fad rfl fa33_0 rfl (s_storeB rfl rfl hb5 rfl rfl rfl sz29 (fun w46 hb5 q46 z46 => ?_))))))))))))
             replace hb5 : Blk w46 g5 _ [_, _, _, _] := hb5
             refine kpL [(2, _), (5, _), (10, _)] (.cons rfl (.cons rfl (.cons rfl .nil))) (nn (sr ?_))
             replace hb10 := hb10.fr q46 (by first | (simp; done) | (simp; omega) | (simp [blks]; done) | (simp [blks]; omega))
             refine s_loadBA rfl hb10 ag39 rfl (s_bslice ([(⟨((lastY rs).toNat : Int), (((tubT W rs).getD ((lastY rs).toNat - 1) []).length : Int) - 1⟩ : LId)]) (ev1 rfl) rfl rfl rfl el31 (Nat.le_of_ble_eq_true rfl) rfl (fun g93 w47 hg93 ho93 q47 z47 => ?_))
             refine fad rfl fa33_3 rfl ?_
             replace hb5 := hb5.ext q47
             refine s_storeB rfl rfl hb5 rfl rfl rfl sz31 (fun w48 hb5 q48 z48 => ?_)
             replace hb5 : Blk w48 g5 _ [_, _, _, _] := hb5
             refine nn (sr (s_loadBA rfl hb5 ag33 rfl ?_))
             replace hb2 := ((hb2.fr q46 (by first | (simp; done) | (simp; omega) | (simp [blks]; done) | (simp [blks]; omega))).ext q47).fr q48 (by first | (simp; done) | (simp; omega) | (simp [blks]; done) | (simp [blks]; omega))
             refine s_storeBA (vs := [_, _, _, _]) rfl rfl hb2 (by rfl) (by first | (simp [Value.oneCell', S]; done) | exact Enc.one _ _) sz33 (fun w49 hb2 q49 z49 => ?_)
             refine asg rfl rfl (nn (rt ?_))
             replace ho93 := (ho93.fr q48 (by first | (simp; done) | (simp; omega) | (simp [blks]; done) | (simp [blks]; omega) | (intro k hk hb; simp at hk; subst hk; have := ho93.blk _ hb; omega))).fr q49 (by first | (simp; done) | (simp; omega) | (simp [blks]; done) | (simp [blks]; omega) | (intro k hk hb; simp at hk; subst hk; have := ho93.blk _ hb; omega))
             have hbW : w0.heap.size ≤ w2.heap.size := by omega
             have hbV : w0.heap.size ≤ g93 := by omega
             have hF := (((((Fr.refl [g5, g2] _).step q46 (by first | (simp; done) | (simp; omega))).next q47).step q48 (by first | (simp; done) | (simp; omega))).step q49 (by first | (simp; done) | (simp; omega)))
             have oo := fun (T : Nat) (hT_ : 33 ≠ T) => OffT.app (OffT.one hb5L hT_) (OffT.one hb2L hT_)
             have hTF := hT.tf hF (oo _ (by decide)) (oo _ (by decide)) (oo _ (by decide)) (oo _ (by decide))
             refine rCT Tryz.results5 rfl hb2 ag33 rfl ?_
             exact ⟨_, rfl, ⟨(some ⟨ka.gt, 0, none⟩, 6, ka.ct), sv0, sv0, (some ⟨g93, 0, none⟩, 1, 1), ts, [], [], [(⟨((lastY rs).toNat : Int), (((tubT W rs).getD ((lastY rs).toNat - 1) []).length : Int) - 1⟩ : LId)]⟩, rfl, (fun SS ww hfS hS => ⟨(hTF.old hfS (fun k k_ => Nat.lt_of_lt_of_le (hS k k_) hbW)).at.1, (hTF.old hfS (fun k k_ => Nat.lt_of_lt_of_le (hS k k_) hbW)).at.2, Sl.nil _, Sl.nil _, (ho93.fr hfS (fun k k_ hb => absurd (Nat.lt_of_lt_of_le (hS k k_) hbV) (Nat.not_lt.2 (ho93.blk k hb).1))).sl⟩), (by show Fb.mk _ _ _ _ = _; rw [htP]; rfl), ((((((q1.next q2).next qf).step q46 (by first | (simp; done) | (simp; omega))).next q47).step q48 (by first | (simp; done) | (simp; omega))).step q49 (by first | (simp; done) | (simp; omega)))⟩
end Go.Proofs.YtkionldalpijpaaGreatDoor
namespace Go.Lw
section
variable {P : Program} {n : Nat} {L : List (Nat × Value)} {ds : List Nat} {w w' : World} {Q : Exit → Act → World → Prop} {ops : Array Oper} {rest : List Oper} {a : Act} {d : Nat} {ty T t : TypeId} {pos : String} {after : Array Edge} {v : Value} {x y : Operand}
theorem s_slA {ad : Addr} {N sz : Nat} (hx : ev L x = some (.pointer (some ad))) (hu : P.underlying t = some (.array N T)) (hs : SizeOf P T sz) (hn : Nat.blt d n = true) (q : WL P ops Q rest n ds w ((d, .slice (some ad) N N) :: L)) : WL P ops Q (⟨some d, .slice t x none none none, ty, pos, after, none⟩ :: rest) n ds w L := fun a h =>
  st_ok h rfl rfl hn (by
    have hA : ad.add 0 = ad := by simp [Addr.add]
    simp [execOp, h.eval hx, Instr.sliceAt, run_underlying hu, Instr.sureAddr, Instr.sliceBounds, hs w, hA]) (fun a h => q a h)
theorem cell_at {zs : List Int} {j off : Nat} (hj : j < zs.length) (ho : off = j) : (zs.map (Value.int .i64))[off]? = some (.int .i64 (zs.getD j 0)) := by
  subst ho
  rw [List.getElem?_map, List.getElem?_eq_getElem hj, List.getD, List.getElem?_eq_getElem hj]; rfl
theorem own_arr {zs : List Int} {g base N : Nat} (hb : Blk w g T (zs.map (Value.int .i64))) (hg : base ≤ g) (hz : zs.length = N) (hM : N ≤ maxLen) : Own Enc.i64 T base w (.slice (some ⟨g, 0, none⟩) N N) zs := by
  subst hz
  have e : zs.flatMap Enc.i64.enc = zs.map (Value.int .i64) := by
    clear hb hM
    induction zs with
    | nil => rfl
    | cons z zs ih => rw [List.flatMap_cons, List.map_cons, ih]; rfl
  refine .inr ⟨g, zs.length, _, rfl, hg, hb, Nat.le_refl _, hM, ?_, ?_⟩
  · simp [Enc.i64]
  · rw [e]; simp only [Enc.i64, Nat.mul_one]; exact List.take_of_length_le (by simp)
end
end Go.Lw
namespace Go.G21
open Go.Lw
def cntZ (z : List (List Lp)) : List Int := z.map fun r => (r.length : Int)
theorem cnt_len (z : List (List Lp)) : (cntZ z).length = z.length := by simp [cntZ]
theorem cnt_at (z : List (List Lp)) (j : Nat) (hj : j < z.length) : (cntZ z).getD j 0 = ((z.getD j []).length : Int) := map_getD' (fun r : List Lp => (r.length : Int)) z j [] 0 hj
theorem cnt_put (z : List (List Lp)) (j off : Nat) (l : List Lp) (x : Int) (ho : off = j) (hx : x = (l.length : Int)) : (cntZ (z.set j l)).map (Value.int .i64) = ((cntZ z).map (Value.int .i64)).set off (.int .i64 x) := by
  subst ho; subst hx
  unfold cntZ
  rw [List.map_set, List.map_set]
theorem tubT_len (wd : Nat) (rs : List UInt8) : (tubT wd rs).length = 6 := by unfold tubT; rw [List.length_set]; exact rnds_len _ _
end Go.G21
namespace Go.Proofs.YtkionldalpijpaaGreatDoor
open Go.Lw Go.G21

end Go.Proofs.YtkionldalpijpaaGreatDoor
namespace Go.Proofs.YtkionldalpijpaaGreatDoor
open Go.Lw Go.G21
theorem zv97 (w : World) : (zeroValue 97).run Tryz.prog w = .ok (.agg #[(.int .i64 0), (.int .i64 0), (.int .i64 0), (.int .i64 0), (.int .i64 0), (.int .i64 0)]) w := by kernel_rfl
set_option maxHeartbeats 1000000 in
theorem loops_ok (W : Nat) (v : Value) (rs : List UInt8) (w0 : World) (hs : Sl Enc.b w0 v rs) (h0 : tubE (W : Int) rs = 0) : Rets Tryz.prog 21 #[.agg #[.int .i64 (W : Int), v]] w0 fun r w' => ∃ A, r = .tuple #[.slice A 6 6, .int .i64 0] ∧ Sl Enc.i64 w' (.slice A 6 6) (cntZ (tubT W rs)) ∧ Fr [] w0 w' := by
 obtain ⟨A, c, rfl, hcc, hM, hA⟩ := id hs
 clear hA
 unfold maxLen at hM
 obtain ⟨hw1, hw16, hl1, hl31, hv⟩ := tub_of h0
 refine we [(0, .agg #[.int .i64 (W : Int), .slice A rs.length c])] Tryz.func21 rfl Tryz.ntmps21 rfl (.cons rfl .nil) ?_
 have hs0 := hs
 refine sr (bx rfl rfl rfl (fun g1 w1 hg1 hb1 q1 z1 => ?_))
 refine asg rfl rfl (asg rfl rfl (nn (sq (sr (s_loadBA rfl hb1 ag26 rfl ?_)))))
 replace hs := hs0.ext q1
 refine cl (ev1 rfl) co9 (tcheck_ok _ _ _ _ hs) rfl ?_
 rintro _ w2 ⟨rfl, q2⟩
 have z2 := q2.size
 refine asg rfl rfl (nn (sr (mv rfl rfl (ne' rfl rfl rfl (nn ?_)))))
 refine cd rfl (fun c0 => ?_) (fun c0 => ?_)
 · refine sr (mv rfl rfl (asg rfl rfl (asg rfl rfl (nn (rt (tr (r2 Tryz.results21 rfl rfl ?_)))))))
   exact absurd h0 c0
 · refine sk (tn (sr (al zv97 rfl rfl (fun g5 w3 hg5 hb5 q3 z3 => ?_))))
   refine nn (sq (sr (fad rfl fa26_1 rfl ?_)))
   replace hb1 := hb1.ext (q2.next q3)
   refine s_loadB rfl hb1 rfl na22 rfl (lnS rfl Tryz.underlying22 rfl (mv rfl rfl (nn (bl ?_))))
   refine lpK (ι := Nat) [(1, _), (5, _), (14, _), (15, _)] (fun i => [(16, .int .i64 (i : Int))]) (fun i w' => Fr [g5] w3 w' ∧ i ≤ rs.length ∧ Blk w' g5 97 ((cntZ (rndsT W (rs.take i)).1).map (Value.int .i64))) (fun i => rs.length - i) 0 (.cons rfl (.cons rfl (.cons rfl (.cons rfl (.cons rfl .nil))))) ⟨Fr.refl _ _, ⟨Nat.zero_le _, hb5⟩⟩ ?_
   rintro i w4 ⟨q4, ⟨hi, hb5⟩⟩
   have z4 := q4.size
   have lt_hb5 := hb5.lt
   refine kpC [(1, _), (5, _), (14, _), (15, _), (16, _)] (.cons rfl (.cons rfl (.cons rfl (.cons rfl (.cons rfl .nil))))) ?_
   refine sr (lt' rfl rfl rfl (nn (sq ?_)))
   refine cd rfl (fun c1 => ?_) (fun c1 => ?_)
   · have hy := hv _ (mem_getD (d := 0) (i := i) (by omega))
     have hct := cnt_at (rndsT W (rs.take i)).1 ((rs.getD i 0).toNat - 1) (by rw [rnds_len]; omega)
     have hle := rnds_row (wd := W) (rs := rs.take i) (by omega) (by rw [List.length_take]; omega) ((rs.getD i 0).toNat - 1)
     refine sk (tn (sq (bl (sr ?_))))
     replace hs := hs0.ext (((q1.next q2).next q3).step q4 (by first | (simp; done) | (simp; omega)))
     refine s_idxL (p := i) ((0 : UInt8)) rfl hs rfl el22 (by omega) (by omega) (by omega) rfl (fun ad18 hc18 => ?_)
     refine s_loadC0 rfl (hc18 _ hs) na5 rfl (asg rfl rfl (nn ?_))
     replace hb1 := hb1.fr q4 (by first | (simp; done) | (simp; omega) | (simp [blks]; done) | (simp [blks]; omega))
     intro a h
     refine region_heldP (some 9) (fun wb w' => Fr [] wb w') hmix ?_; intro w5 hq
     have z5 := hq.size
     replace hb1 := hb1.ext hq
     replace hb5 := hb5.ext hq
     have q5 := hq
     clear hq; have hC : Fr [] w5 w5 := Fr.refl _ _
     have hb1_b := hb1
     have hb5_b := hb5
     refine hd_move 0 (by kernel_rfl) (by kernel_rfl) (by kernel_rfl) hC h wn rfl rfl rfl ?_; clear h a; intro a h
     refine hd_sub 1 (by kernel_rfl) (by kernel_rfl) (by kernel_rfl) hC h wn rfl rfl (by first | exact IntWalk.u8_in _ (by omega) | rfl) rfl rfl ?_; clear h a; intro a h
     refine hd_idxA 2 (by kernel_rfl) (by kernel_rfl) (by kernel_rfl) hC h wn rfl rfl Tryz.underlying97 sz3 (by omega) (by omega) rfl rfl ?_; clear h a; intro a h
     refine hd_loadB 3 (by kernel_rfl) (by kernel_rfl) (by kernel_rfl) hC h wn rfl (fun _ hw => hb5_b.ext hw) (cell_at (zs := (cntZ (rndsT W (rs.take i)).1)) (j := ((rs.getD i 0).toNat - 1)) (by rw [cnt_len, rnds_len]; omega) (by omega)) na3 rfl rfl ?_; clear h a; intro a h
     refine hd_fieldAddr 4 (by kernel_rfl) (by kernel_rfl) (by kernel_rfl) hC h wn rfl fa26_0 rfl rfl ?_; clear h a; intro a h
     refine hd_loadB 5 (by kernel_rfl) (by kernel_rfl) (by kernel_rfl) hC h wn rfl (fun _ hw => hb1_b.ext hw) rfl na3 rfl rfl ?_; clear h a; intro a h
     refine hd_mul 6 (by kernel_rfl) (by kernel_rfl) (by kernel_rfl) hC h wn rfl rfl (by first | exact IntWalk.i64_in _ (by omega) | rfl) rfl rfl ?_; clear h a; intro a h
     refine hd_add 7 (by kernel_rfl) (by kernel_rfl) (by kernel_rfl) hC h wn rfl rfl (by first | exact IntWalk.i64_in _ (by omega) | rfl) rfl rfl ?_; clear h a; intro a h
     refine hd_idxA 8 (by kernel_rfl) (by kernel_rfl) (by kernel_rfl) hC h wn rfl rfl Tryz.underlying97 sz3 (by omega) (by omega) rfl rfl ?_; clear h a; intro a h
     refine hd_one 9 (by kernel_rfl) rfl ?_
     refine st_storeB h rfl rfl hb5 (by rw [Nat.blt_eq, List.length_map, cnt_len, rnds_len]; omega) rfl rfl sz3 ?_; clear h a; intro w6 hbn hq _hz a h
     have z6 := hq.size
     replace hb1 := hb1.fr hq (by first | (simp; done) | (simp; omega) | (simp [blks]; done) | (simp [blks]; omega))
     have q6 := hq
     clear hq _hz hb5
     have hb5 := hbn
     rw [← cnt_put _ ((rs.getD i 0).toNat - 1) _ ((rndsT W (rs.take i)).1.getD ((rs.getD i 0).toNat - 1) [] ++ rndL W (rndsT W (rs.take i)).2 (rs.getD i 0).toNat ((rndsT W (rs.take i)).1.getD ((rs.getD i 0).toNat - 1) []).length) _ (by omega) (by rw [List.length_append, rndL_len, hct]; omega)] at hb5
     replace hb5 : Blk w6 g5 97 ((cntZ (rndsT W (rs.take (i + 1))).1).map (Value.int .i64)) := by rw [rnds_take _ _ _ (by omega)]; exact hb5
     refine hd_past (by kernel_rfl) ?_
     refine hd_end (by kernel_rfl) ?_
     clear hC hb1_b hb5_b
     refine bk (h.sub (L' := [(1, _), (5, _), (14, _), (15, _), (16, _)]) (.cons rfl (.cons rfl (.cons rfl (.cons rfl (.cons rfl .nil)))))) ?_; clear h a
     refine bn' (tn (rg (s_add rfl rfl (wi6 (by omega)) rfl (mv rfl rfl (nl ?_)))))
     exact lpE (i + 1) (.cons rfl (.cons rfl (.cons rfl (.cons rfl (.cons rfl .nil))))) ⟨((((Fr.refl [g5] _).step q4 (by first | (simp; done) | (simp; omega))).next q5).step q6 (by first | (simp; done) | (simp; omega))), ⟨by omega, hb5⟩⟩ (by omega)
   · obtain rfl : i = rs.length := by omega
     rw [List.take_length] at hb5
     have hy := lastY_in hl1 hv
     have hye : (rs.getD (rs.length - 1) 0).toNat = (lastY rs).toNat := rfl
     have hct := cnt_at (rndsT W rs).1 ((lastY rs).toNat - 1) (by rw [rnds_len]; omega)
     have hle := rnds_row (wd := W) (rs := rs) (by omega) hl31 ((lastY rs).toNat - 1)
     refine ex (te (te (xh (tn (sq ?_)))))
     replace hs := hs0.ext (((q1.next q2).next q3).step q4 (by first | (simp; done) | (simp; omega)))
     replace hb1 := hb1.fr q4 (by first | (simp; done) | (simp; omega) | (simp [blks]; done) | (simp [blks]; omega))
     intro a h
     refine region_heldP (some 15) (fun wb w' => Fr [] wb w') hmix ?_; intro w7 hq
     have z7 := hq.size
     replace hs := hs.ext hq
     replace hb1 := hb1.ext hq
     replace hb5 := hb5.ext hq
     have q7 := hq
     clear hq; have hC : Fr [] w7 w7 := Fr.refl _ _
     have hs_b := hs
     have hb1_b := hb1
     have hb5_b := hb5
     refine hd_fieldAddr 0 (by kernel_rfl) (by kernel_rfl) (by kernel_rfl) hC h wn rfl fa26_1 rfl rfl ?_; clear h a; intro a h
     refine hd_loadB 1 (by kernel_rfl) (by kernel_rfl) (by kernel_rfl) hC h wn rfl (fun _ hw => hb1_b.ext hw) rfl na22 rfl rfl ?_; clear h a; intro a h
     refine hd_fieldAddr 2 (by kernel_rfl) (by kernel_rfl) (by kernel_rfl) hC h wn rfl fa26_1 rfl rfl ?_; clear h a; intro a h
     refine hd_loadB 3 (by kernel_rfl) (by kernel_rfl) (by kernel_rfl) hC h wn rfl (fun _ hw => hb1_b.ext hw) rfl na22 rfl rfl ?_; clear h a; intro a h
     refine hd_lenS 4 (by kernel_rfl) (by kernel_rfl) (by kernel_rfl) hC h wn rfl Tryz.underlying22 rfl rfl ?_; clear h a; intro a h
     refine hd_sub 5 (by kernel_rfl) (by kernel_rfl) (by kernel_rfl) hC h wn rfl rfl (by first | exact IntWalk.i64_in _ (by omega) | rfl) rfl rfl ?_; clear h a; intro a h
     refine hd_idxL (p := (rs.length - 1)) ((0 : UInt8)) 6 (by kernel_rfl) (by kernel_rfl) (by kernel_rfl) hC h wn rfl hs rfl el22 (by omega) (by omega) (by omega) rfl rfl ?_; clear h a; intro ad36 hc36 a h
     refine hd_loadC0 7 (by kernel_rfl) (by kernel_rfl) (by kernel_rfl) hC h wn rfl (fun _ hw => hc36 _ (hs_b.ext hw)) na5 rfl rfl ?_; clear h a; intro a h
     refine hd_sub 8 (by kernel_rfl) (by kernel_rfl) (by kernel_rfl) hC h wn rfl rfl (by first | exact IntWalk.u8_in _ (by omega) | rfl) rfl rfl ?_; clear h a; intro a h
     refine hd_idxA 9 (by kernel_rfl) (by kernel_rfl) (by kernel_rfl) hC h wn rfl rfl Tryz.underlying97 sz3 (by omega) (by omega) rfl rfl ?_; clear h a; intro a h
     refine hd_loadB 10 (by kernel_rfl) (by kernel_rfl) (by kernel_rfl) hC h wn rfl (fun _ hw => hb5_b.ext hw) (cell_at (zs := (cntZ (rndsT W rs).1)) (j := ((lastY rs).toNat - 1)) (by rw [cnt_len, rnds_len]; omega) (by omega)) na3 rfl rfl ?_; clear h a; intro a h
     refine hd_fieldAddr 11 (by kernel_rfl) (by kernel_rfl) (by kernel_rfl) hC h wn rfl fa26_0 rfl rfl ?_; clear h a; intro a h
     refine hd_loadB 12 (by kernel_rfl) (by kernel_rfl) (by kernel_rfl) hC h wn rfl (fun _ hw => hb1_b.ext hw) rfl na3 rfl rfl ?_; clear h a; intro a h
     refine hd_add 13 (by kernel_rfl) (by kernel_rfl) (by kernel_rfl) hC h wn rfl rfl (by first | exact IntWalk.i64_in _ (by omega) | rfl) rfl rfl ?_; clear h a; intro a h
     refine hd_idxA 14 (by kernel_rfl) (by kernel_rfl) (by kernel_rfl) hC h wn rfl rfl Tryz.underlying97 sz3 (by omega) (by omega) rfl rfl ?_; clear h a; intro a h
     refine hd_one 15 (by kernel_rfl) rfl ?_
     refine st_storeB h rfl rfl hb5 (by rw [Nat.blt_eq, List.length_map, cnt_len, rnds_len]; omega) rfl rfl sz3 ?_; clear h a; intro w8 hbn hq _hz a h
     have z8 := hq.size
     replace hb1 := hb1.fr hq (by first | (simp; done) | (simp; omega) | (simp [blks]; done) | (simp [blks]; omega))
     have q8 := hq
     clear hq _hz hb5
     have hb5 := hbn
     rw [← cnt_put _ ((lastY rs).toNat - 1) _ ((rndsT W rs).1.getD ((lastY rs).toNat - 1) [] ++ bndL W (rndsT W rs).2 (lastY rs).toNat ((rndsT W rs).1.getD ((lastY rs).toNat - 1) []).length W) _ (by omega) (by rw [List.length_append, bndL_len, hct]; omega)] at hb5
     replace hb5 : Blk w8 g5 97 ((cntZ (tubT W rs)).map (Value.int .i64)) := hb5
     refine hd_past (by kernel_rfl) ?_
     refine hd_end (by kernel_rfl) ?_
     clear hC hs_b hb1_b hb5_b
     refine bk (h.sub (L' := [(5, _)]) (.cons rfl .nil)) ?_; clear h a
     refine tn (sr ?_)
     refine s_slA rfl Tryz.underlying97 sz3 rfl ?_
     refine asg rfl rfl (asg rfl rfl (nn (rt (r2 Tryz.results21 rfl rfl ?_))))
     exact ⟨_, rfl, some ⟨g5, 0, none⟩, rfl, (own_arr hb5 (Nat.le_refl _) (by rw [cnt_len, tubT_len]) (by decide)).sl, (((((q1.next q2).next q3).step q4 (by first | (simp; done) | (simp; omega))).next q7).step q8 (by first | (simp; done) | (simp; omega)))⟩
end Go.Proofs.YtkionldalpijpaaGreatDoor
namespace Go.Proofs
open Go.Shelf
def Tryz.lays171_ren : Go.Shelf.Ren := ⟨fun | 171 => 44 | 243 => 66 | 246 => 84 | 283 => 100 | 284 => 101 | 285 => 102 | 286 => 103 | 129 => 111 | 317 => 110 | 318 => 112 | 319 => 113 | 320 => 114 | 337 => 117 | 338 => 118 | n => n, fun | 3 => 3 | 9 => 9 | 2 => 2 | 4 => 4 | 171 => 150 | 0 => 0 | 53 => 151 | 37 => 22 | 5 => 5 | 173 => 154 | 212 => 166 | 51 => 162 | 20 => 20 | 213 => 167 | 46 => 149 | 232 => 180 | 233 => 181 | n => n, fun | 17 => 3 | 18 => 6 | 19 => 7 | n => n⟩
theorem Tryz.lays171 : Go.Proofs.Lays.n171 Tryz.prog Tryz.lays171_ren := {
  mixed := by kernel_rfl
  f129 := Tryz.func111.trans (congrArg some (by kernel_rfl))
  f171 := Tryz.func44.trans (congrArg some (by kernel_rfl))
  f243 := Tryz.func66.trans (congrArg some (by kernel_rfl))
  f246 := Tryz.func84.trans (congrArg some (by kernel_rfl))
  f283 := Tryz.func100.trans (congrArg some (by kernel_rfl))
  f284 := Tryz.func101.trans (congrArg some (by kernel_rfl))
  f285 := Tryz.func102.trans (congrArg some (by kernel_rfl))
  f286 := Tryz.func103.trans (congrArg some (by kernel_rfl))
  f317 := Tryz.func110.trans (congrArg some (by kernel_rfl))
  f318 := Tryz.func112.trans (congrArg some (by kernel_rfl))
  f319 := Tryz.func113.trans (congrArg some (by kernel_rfl))
  f320 := Tryz.func114.trans (congrArg some (by kernel_rfl))
  f337 := Tryz.func117.trans (congrArg some (by kernel_rfl))
  f338 := Tryz.func118.trans (congrArg some (by kernel_rfl))
  t0 := Tryz.underlying0
  a0 := Tryz.isAgg0
  z0 := Tryz.sizeOf0
  v0 := Tryz.zeroValue0
  t2 := Tryz.underlying2
  a2 := Tryz.isAgg2
  z2 := Tryz.sizeOf2
  v2 := Tryz.zeroValue2
  t3 := Tryz.underlying3
  a3 := Tryz.isAgg3
  z3 := Tryz.sizeOf3
  v3 := Tryz.zeroValue3
  t4 := Tryz.underlying4
  a4 := Tryz.isAgg4
  z4 := Tryz.sizeOf4
  v4 := Tryz.zeroValue4
  t5 := Tryz.underlying5
  a5 := Tryz.isAgg5
  z5 := Tryz.sizeOf5
  v5 := Tryz.zeroValue5
  t9 := Tryz.underlying9
  a9 := Tryz.isAgg9
  z9 := Tryz.sizeOf9
  v9 := Tryz.zeroValue9
  t20 := Tryz.underlying20
  a20 := Tryz.isAgg20
  z20 := Tryz.sizeOf20
  v20 := Tryz.zeroValue20
  t37 := Tryz.underlying22
  a37 := Tryz.isAgg22
  z37 := Tryz.sizeOf22
  v37 := Tryz.zeroValue22
  t46 := Tryz.underlying149
  a46 := Tryz.isAgg149
  z46 := Tryz.sizeOf149
  v46 := Tryz.zeroValue149
  t51 := Tryz.underlying162
  a51 := Tryz.isAgg162
  z51 := Tryz.sizeOf162
  v51 := Tryz.zeroValue162
  t53 := Tryz.underlying151
  a53 := Tryz.isAgg151
  z53 := Tryz.sizeOf151
  v53 := Tryz.zeroValue151
  t171 := Tryz.underlying150
  a171 := Tryz.isAgg150
  z171 := Tryz.sizeOf150
  v171 := Tryz.zeroValue150
  t173 := Tryz.underlying154
  a173 := Tryz.isAgg154
  z173 := Tryz.sizeOf154
  v173 := Tryz.zeroValue154
  t212 := Tryz.underlying166
  a212 := Tryz.isAgg166
  z212 := Tryz.sizeOf166
  v212 := Tryz.zeroValue166
  t213 := Tryz.underlying167
  a213 := Tryz.isAgg167
  z213 := Tryz.sizeOf167
  t232 := Tryz.underlying180
  a232 := Tryz.isAgg180
  z232 := Tryz.sizeOf180
  v232 := Tryz.zeroValue180
  t233 := Tryz.underlying181
  a233 := Tryz.isAgg181
  z233 := Tryz.sizeOf181
  v233 := Tryz.zeroValue181
  g17 := by kernel_rfl
  g18 := by kernel_rfl
  g19 := by kernel_rfl }
open Go.RowKit Go.Sort Go.Lib in
theorem Tryz.strconv_Itoa_small (i : Nat) (hi : i < 100) (w : World) :
    Calls Tryz.prog 44 #[.int .i64 i] w fun e w' => e = .returned (.string ⟨(Lib.decDigits i).toArray⟩) ∧ w' = w := Any.strconv_Itoa_small Tryz.lays171 i hi w
def Tryz.laysC172_ren : Go.Shelf.Ren := ⟨fun | 172 => 64 | 244 => 81 | 245 => 82 | 247 => 91 | 279 => 92 | 280 => 93 | 281 => 94 | 282 => 95 | 287 => 105 | 316 => 106 | 171 => 44 | 205 => 107 | 321 => 115 | 322 => 116 | 243 => 66 | 246 => 84 | 283 => 100 | 284 => 101 | 285 => 102 | 286 => 103 | 129 => 111 | 317 => 110 | 318 => 112 | 319 => 113 | 320 => 114 | 337 => 117 | 338 => 118 | n => n, fun | 9 => 9 | 3 => 3 | 75 => 122 | 76 => 123 | 4 => 4 | 5 => 5 | 167 => 142 | 37 => 22 | 0 => 0 | 85 => 143 | 2 => 2 | 168 => 145 | 53 => 151 | 175 => 156 | 46 => 149 | 210 => 160 | 127 => 175 | 145 => 178 | 143 => 176 | 21 => 21 | 171 => 150 | 173 => 154 | 212 => 166 | 51 => 162 | 20 => 20 | 213 => 167 | 232 => 180 | 233 => 181 | 80 => 182 | n => n, fun | 15 => 1 | 16 => 2 | 17 => 3 | 18 => 6 | 19 => 7 | n => n⟩
theorem Tryz.laysC172 : Go.Proofs.LaysC.n172 Tryz.prog Tryz.laysC172_ren := {
  mixed := by kernel_rfl
  f129 := Tryz.func111.trans (congrArg some (by kernel_rfl))
  f171 := Tryz.func44.trans (congrArg some (by kernel_rfl))
  f172 := Tryz.func64.trans (congrArg some (by kernel_rfl))
  f205 := Tryz.func107.trans (congrArg some (by kernel_rfl))
  f243 := Tryz.func66.trans (congrArg some (by kernel_rfl))
  f244 := Tryz.func81.trans (congrArg some (by kernel_rfl))
  f245 := Tryz.func82.trans (congrArg some (by kernel_rfl))
  f246 := Tryz.func84.trans (congrArg some (by kernel_rfl))
  f247 := Tryz.func91.trans (congrArg some (by kernel_rfl))
  f279 := Tryz.func92.trans (congrArg some (by kernel_rfl))
  f280 := Tryz.func93.trans (congrArg some (by kernel_rfl))
  f281 := Tryz.func94.trans (congrArg some (by kernel_rfl))
  f282 := Tryz.func95.trans (congrArg some (by kernel_rfl))
  f283 := Tryz.func100.trans (congrArg some (by kernel_rfl))
  f284 := Tryz.func101.trans (congrArg some (by kernel_rfl))
  f285 := Tryz.func102.trans (congrArg some (by kernel_rfl))
  f286 := Tryz.func103.trans (congrArg some (by kernel_rfl))
  f287 := Tryz.func105.trans (congrArg some (by kernel_rfl))
  f316 := Tryz.func106.trans (congrArg some (by kernel_rfl))
  f317 := Tryz.func110.trans (congrArg some (by kernel_rfl))
  f318 := Tryz.func112.trans (congrArg some (by kernel_rfl))
  f319 := Tryz.func113.trans (congrArg some (by kernel_rfl))
  f320 := Tryz.func114.trans (congrArg some (by kernel_rfl))
  f321 := Tryz.func115.trans (congrArg some (by kernel_rfl))
  f322 := Tryz.func116.trans (congrArg some (by kernel_rfl))
  f337 := Tryz.func117.trans (congrArg some (by kernel_rfl))
  f338 := Tryz.func118.trans (congrArg some (by kernel_rfl))
  t0 := Tryz.underlying0
  a0 := Tryz.isAgg0
  z0 := Tryz.sizeOf0
  v0 := Tryz.zeroValue0
  t2 := Tryz.underlying2
  a2 := Tryz.isAgg2
  z2 := Tryz.sizeOf2
  v2 := Tryz.zeroValue2
  t3 := Tryz.underlying3
  a3 := Tryz.isAgg3
  z3 := Tryz.sizeOf3
  v3 := Tryz.zeroValue3
  t4 := Tryz.underlying4
  a4 := Tryz.isAgg4
  z4 := Tryz.sizeOf4
  v4 := Tryz.zeroValue4
  t5 := Tryz.underlying5
  a5 := Tryz.isAgg5
  z5 := Tryz.sizeOf5
  v5 := Tryz.zeroValue5
  t9 := Tryz.underlying9
  a9 := Tryz.isAgg9
  z9 := Tryz.sizeOf9
  v9 := Tryz.zeroValue9
  t20 := Tryz.underlying20
  a20 := Tryz.isAgg20
  z20 := Tryz.sizeOf20
  v20 := Tryz.zeroValue20
  t21 := Tryz.underlying21
  a21 := Tryz.isAgg21
  z21 := Tryz.sizeOf21
  v21 := Tryz.zeroValue21
  t37 := Tryz.underlying22
  a37 := Tryz.isAgg22
  z37 := Tryz.sizeOf22
  v37 := Tryz.zeroValue22
  t46 := Tryz.underlying149
  a46 := Tryz.isAgg149
  z46 := Tryz.sizeOf149
  v46 := Tryz.zeroValue149
  t51 := Tryz.underlying162
  a51 := Tryz.isAgg162
  z51 := Tryz.sizeOf162
  v51 := Tryz.zeroValue162
  t53 := Tryz.underlying151
  a53 := Tryz.isAgg151
  z53 := Tryz.sizeOf151
  v53 := Tryz.zeroValue151
  t75 := Tryz.underlying122
  a75 := Tryz.isAgg122
  z75 := Tryz.sizeOf122
  v75 := Tryz.zeroValue122
  t76 := Tryz.underlying123
  a76 := Tryz.isAgg123
  z76 := Tryz.sizeOf123
  v76 := Tryz.zeroValue123
  t85 := Tryz.underlying143
  a85 := Tryz.isAgg143
  z85 := Tryz.sizeOf143
  v85 := Tryz.zeroValue143
  t127 := Tryz.underlying175
  a127 := Tryz.isAgg175
  z127 := Tryz.sizeOf175
  v127 := Tryz.zeroValue175
  t143 := Tryz.underlying176
  a143 := Tryz.isAgg176
  z143 := Tryz.sizeOf176
  v143 := Tryz.zeroValue176
  t145 := Tryz.underlying178
  a145 := Tryz.isAgg178
  z145 := Tryz.sizeOf178
  v145 := Tryz.zeroValue178
  t167 := Tryz.underlying142
  a167 := Tryz.isAgg142
  z167 := Tryz.sizeOf142
  v167 := Tryz.zeroValue142
  t168 := Tryz.underlying145
  a168 := Tryz.isAgg145
  z168 := Tryz.sizeOf145
  v168 := Tryz.zeroValue145
  t171 := Tryz.underlying150
  a171 := Tryz.isAgg150
  z171 := Tryz.sizeOf150
  v171 := Tryz.zeroValue150
  t173 := Tryz.underlying154
  a173 := Tryz.isAgg154
  z173 := Tryz.sizeOf154
  v173 := Tryz.zeroValue154
  t175 := Tryz.underlying156
  a175 := Tryz.isAgg156
  z175 := Tryz.sizeOf156
  v175 := Tryz.zeroValue156
  t210 := Tryz.underlying160
  a210 := Tryz.isAgg160
  z210 := Tryz.sizeOf160
  v210 := Tryz.zeroValue160
  t212 := Tryz.underlying166
  a212 := Tryz.isAgg166
  z212 := Tryz.sizeOf166
  v212 := Tryz.zeroValue166
  t213 := Tryz.underlying167
  a213 := Tryz.isAgg167
  z213 := Tryz.sizeOf167
  t232 := Tryz.underlying180
  a232 := Tryz.isAgg180
  z232 := Tryz.sizeOf180
  v232 := Tryz.zeroValue180
  t233 := Tryz.underlying181
  a233 := Tryz.isAgg181
  z233 := Tryz.sizeOf181
  v233 := Tryz.zeroValue181
  g15 := by kernel_rfl
  g16 := by kernel_rfl
  g17 := by kernel_rfl
  g18 := by kernel_rfl
  g19 := by kernel_rfl
  t80 := Tryz.underlying182
  a80 := Tryz.isAgg182
  z80 := Tryz.sizeOf182
  v80 := Tryz.zeroValue182
  i0 := by kernel_rfl
  i2 := by kernel_rfl
  i3 := by kernel_rfl
  i4 := by kernel_rfl
  i5 := by kernel_rfl
  i9 := by kernel_rfl
  i20 := by kernel_rfl
  i21 := by kernel_rfl
  i37 := by kernel_rfl
  i46 := by kernel_rfl
  i51 := by kernel_rfl
  i53 := by kernel_rfl
  i75 := by kernel_rfl
  i76 := by kernel_rfl
  i80 := by kernel_rfl
  i85 := by kernel_rfl
  i127 := by kernel_rfl
  i143 := by kernel_rfl
  i145 := by kernel_rfl
  i167 := by kernel_rfl
  i168 := by kernel_rfl
  i171 := by kernel_rfl
  i173 := by kernel_rfl
  i175 := by kernel_rfl
  i210 := by kernel_rfl
  i212 := by kernel_rfl
  i232 := by kernel_rfl
  i233 := by kernel_rfl
  m15 := by kernel_rfl
  m16 := by kernel_rfl
  m17 := by kernel_rfl
  m18 := by kernel_rfl
  m19 := by kernel_rfl
  c0 := by kernel_rfl
  c2 := by kernel_rfl
  c3 := by kernel_rfl
  c4 := by kernel_rfl
  c5 := by kernel_rfl
  c9 := by kernel_rfl
  c20 := by kernel_rfl
  c21 := by kernel_rfl
  c37 := by kernel_rfl
  c46 := by kernel_rfl
  c51 := by kernel_rfl
  c53 := by kernel_rfl
  c75 := by kernel_rfl
  c76 := by kernel_rfl
  c80 := by kernel_rfl
  c85 := by kernel_rfl
  c127 := by kernel_rfl
  c143 := by kernel_rfl
  c145 := by kernel_rfl
  c167 := by kernel_rfl
  c168 := by kernel_rfl
  c171 := by kernel_rfl
  c173 := by kernel_rfl
  c175 := by kernel_rfl
  c210 := by kernel_rfl
  c212 := by kernel_rfl
  c213 := by kernel_rfl
  c232 := by kernel_rfl
  c233 := by kernel_rfl }
open Go.RowKit in
theorem Tryz.strconv_Atoi_ok (s : ByteArray) (hmax : s.size ≤ 9223372036854775806) (v : Int) (h : Lib.atoiAll s.data.toList = .ok v) (w : World) :
    Calls Tryz.prog 64 #[.string s] w fun e w' => e = .returned (.tuple #[.int .i64 v, .nilIface]) ∧ (w' = w ∨ ∃ t, w' = Lib.bytesWorld w 5 t) := Any.strconv_Atoi_ok Tryz.laysC172 s hmax v h w
open Go.RowKit in
theorem Tryz.strconv_Atoi_syntax (s : ByteArray) (hlim : s.size ≤ 281474976710656) (h : Lib.atoiAll s.data.toList = Lib.atoiAll []) (ev : Value) (w : World) (hv : w.cell? ⟨1, 0, none⟩ = some ev) (hev : ev = .nilIface ∨ ∃ te pe, ev = .iface te pe) :
    Calls Tryz.prog 64 #[.string s] w fun e w' => ∃ N, e = .returned (.tuple #[.int .i64 (0), .iface 145 (.pointer (some ⟨N, 0, none⟩))]) ∧ w.heap.size ≤ N ∧ w'.heap[N]? = some (.cells #[.string ⟨#[65, 116, 111, 105]⟩, .string s, ev] 160 (0, 0)) ∧ Below w.heap.size w w' := Any.strconv_Atoi_syntax Tryz.laysC172 s hlim h ev w hv hev
open Go.RowKit in
theorem Tryz.strconv_Atoi_range (s : ByteArray) (hlim : s.size ≤ 281474976710656) (h : Lib.atoiAll s.data.toList = .range) (ev : Value) (w : World) (hv : w.cell? ⟨2, 0, none⟩ = some ev) (hev : ev = .nilIface ∨ ∃ te pe, ev = .iface te pe) :
    Calls Tryz.prog 64 #[.string s] w fun e w' => ∃ N, e = .returned (.tuple #[.int .i64 (Lib.atoiSat s.data.toList), .iface 145 (.pointer (some ⟨N, 0, none⟩))]) ∧ w.heap.size ≤ N ∧ w'.heap[N]? = some (.cells #[.string ⟨#[65, 116, 111, 105]⟩, .string s, ev] 160 (0, 0)) ∧ Below w.heap.size w w' := Any.strconv_Atoi_range Tryz.laysC172 s hlim h ev w hv hev
def Tryz.lays145_ren : Go.Shelf.Ren := ⟨fun | 145 => 42 | 220 => 65 | 219 => 83 | 217 => 96 | 225 => 97 | 224 => 98 | 267 => 99 | 266 => 108 | 314 => 109 | n => n, fun | 9 => 9 | 4 => 4 | 59 => 101 | 3 => 3 | 5 => 5 | 46 => 149 | 146 => 163 | 51 => 162 | n => n, fun | 1 => 0 | n => n⟩
theorem Tryz.lays145 : Go.Proofs.Lays.n145 Tryz.prog Tryz.lays145_ren := {
  mixed := by kernel_rfl
  f145 := Tryz.func42.trans (congrArg some (by kernel_rfl))
  f217 := Tryz.func96.trans (congrArg some (by kernel_rfl))
  f219 := Tryz.func83.trans (congrArg some (by kernel_rfl))
  f220 := Tryz.func65.trans (congrArg some (by kernel_rfl))
  f224 := Tryz.func98.trans (congrArg some (by kernel_rfl))
  f225 := Tryz.func97.trans (congrArg some (by kernel_rfl))
  f266 := Tryz.func108.trans (congrArg some (by kernel_rfl))
  f267 := Tryz.func99.trans (congrArg some (by kernel_rfl))
  f314 := Tryz.func109.trans (congrArg some (by kernel_rfl))
  t3 := Tryz.underlying3
  a3 := Tryz.isAgg3
  z3 := Tryz.sizeOf3
  v3 := Tryz.zeroValue3
  t4 := Tryz.underlying4
  a4 := Tryz.isAgg4
  z4 := Tryz.sizeOf4
  v4 := Tryz.zeroValue4
  t5 := Tryz.underlying5
  a5 := Tryz.isAgg5
  z5 := Tryz.sizeOf5
  v5 := Tryz.zeroValue5
  t9 := Tryz.underlying9
  a9 := Tryz.isAgg9
  z9 := Tryz.sizeOf9
  v9 := Tryz.zeroValue9
  t46 := Tryz.underlying149
  a46 := Tryz.isAgg149
  z46 := Tryz.sizeOf149
  v46 := Tryz.zeroValue149
  t51 := Tryz.underlying162
  a51 := Tryz.isAgg162
  z51 := Tryz.sizeOf162
  v51 := Tryz.zeroValue162
  t59 := Tryz.underlying101
  a59 := Tryz.isAgg101
  z59 := Tryz.sizeOf101
  v59 := Tryz.zeroValue101
  t146 := Tryz.underlying163
  a146 := Tryz.isAgg163
  z146 := Tryz.sizeOf163
  v146 := Tryz.zeroValue163
  g1 := by kernel_rfl }
open Go.RowKit Go.Lib in
theorem Tryz.strings_Cut (s sep : ByteArray) (m : Int) (w : World) (hs : s.size < 4294967281) (hm : w.cell? ⟨0, 0, none⟩ = some (.int .i64 m)) :
    Calls Tryz.prog 42 #[.string s, .string sep] w fun e w' => e = .returned (.tuple #[.string ⟨(Lib.cut s.data.toList sep.data.toList).1.toArray⟩, .string ⟨(Lib.cut s.data.toList sep.data.toList).2.1.toArray⟩, .bool (Lib.cut s.data.toList sep.data.toList).2.2]) ∧ ∃ n, w' = w.drewN n := Any.strings_Cut Tryz.lays145 s sep m w hs hm
def Tryz.lays146_ren : Go.Shelf.Ren := ⟨fun | 146 => 40 | 221 => 63 | 268 => 78 | 138 => 79 | 143 => 80 | 195 => 88 | 197 => 89 | 218 => 90 | 219 => 83 | 260 => 104 | 217 => 96 | 225 => 97 | 224 => 98 | 267 => 99 | 266 => 108 | 314 => 109 | n => n, fun | 9 => 9 | 31 => 98 | 3 => 3 | 4 => 4 | 0 => 0 | 105 => 139 | 21 => 21 | 5 => 5 | 46 => 149 | 119 => 169 | 139 => 172 | 138 => 171 | 146 => 163 | 51 => 162 | n => n, fun | 1 => 0 | 3 => 4 | 4 => 5 | n => n⟩
theorem Tryz.lays146 : Go.Proofs.Lays.n146 Tryz.prog Tryz.lays146_ren := {
  mixed := by kernel_rfl
  f138 := Tryz.func79.trans (congrArg some (by kernel_rfl))
  f143 := Tryz.func80.trans (congrArg some (by kernel_rfl))
  f146 := Tryz.func40.trans (congrArg some (by kernel_rfl))
  f195 := Tryz.func88.trans (congrArg some (by kernel_rfl))
  f197 := Tryz.func89.trans (congrArg some (by kernel_rfl))
  f217 := Tryz.func96.trans (congrArg some (by kernel_rfl))
  f218 := Tryz.func90.trans (congrArg some (by kernel_rfl))
  f219 := Tryz.func83.trans (congrArg some (by kernel_rfl))
  f221 := Tryz.func63.trans (congrArg some (by kernel_rfl))
  f224 := Tryz.func98.trans (congrArg some (by kernel_rfl))
  f225 := Tryz.func97.trans (congrArg some (by kernel_rfl))
  f260 := Tryz.func104.trans (congrArg some (by kernel_rfl))
  f266 := Tryz.func108.trans (congrArg some (by kernel_rfl))
  f267 := Tryz.func99.trans (congrArg some (by kernel_rfl))
  f268 := Tryz.func78.trans (congrArg some (by kernel_rfl))
  f314 := Tryz.func109.trans (congrArg some (by kernel_rfl))
  t0 := Tryz.underlying0
  a0 := Tryz.isAgg0
  z0 := Tryz.sizeOf0
  v0 := Tryz.zeroValue0
  t3 := Tryz.underlying3
  a3 := Tryz.isAgg3
  z3 := Tryz.sizeOf3
  v3 := Tryz.zeroValue3
  t4 := Tryz.underlying4
  a4 := Tryz.isAgg4
  z4 := Tryz.sizeOf4
  v4 := Tryz.zeroValue4
  t5 := Tryz.underlying5
  a5 := Tryz.isAgg5
  z5 := Tryz.sizeOf5
  v5 := Tryz.zeroValue5
  t9 := Tryz.underlying9
  a9 := Tryz.isAgg9
  z9 := Tryz.sizeOf9
  v9 := Tryz.zeroValue9
  t21 := Tryz.underlying21
  a21 := Tryz.isAgg21
  z21 := Tryz.sizeOf21
  v21 := Tryz.zeroValue21
  t31 := Tryz.underlying98
  a31 := Tryz.isAgg98
  z31 := Tryz.sizeOf98
  v31 := Tryz.zeroValue98
  t46 := Tryz.underlying149
  a46 := Tryz.isAgg149
  z46 := Tryz.sizeOf149
  v46 := Tryz.zeroValue149
  t51 := Tryz.underlying162
  a51 := Tryz.isAgg162
  z51 := Tryz.sizeOf162
  v51 := Tryz.zeroValue162
  t105 := Tryz.underlying139
  a105 := Tryz.isAgg139
  z105 := Tryz.sizeOf139
  v105 := Tryz.zeroValue139
  t119 := Tryz.underlying169
  a119 := Tryz.isAgg169
  z119 := Tryz.sizeOf169
  t138 := Tryz.underlying171
  a138 := Tryz.isAgg171
  z138 := Tryz.sizeOf171
  v138 := Tryz.zeroValue171
  t139 := Tryz.underlying172
  a139 := Tryz.isAgg172
  z139 := Tryz.sizeOf172
  v139 := Tryz.zeroValue172
  t146 := Tryz.underlying163
  a146 := Tryz.isAgg163
  z146 := Tryz.sizeOf163
  v146 := Tryz.zeroValue163
  g1 := by kernel_rfl
  g3 := by kernel_rfl
  g4 := by kernel_rfl }
open Go.RowKit Go.Lib in
theorem Tryz.strings_Split (s sep : ByteArray) (m : Int) (w : World) (hs : s.size < 4294967281) (hm : w.cell? ⟨0, 0, none⟩ = some (.int .i64 m)) (h1 : 1 ≤ sep.size) :
    Calls Tryz.prog 40 #[.string s, .string sep] w fun e w' =>
      e = .returned (.slice (some ⟨w.heap.size, 0, none⟩) (Lib.countB s sep + 1) (Lib.countB s sep + 1)) ∧ w' = w.alloc (.cells ((Lib.splitB sep 0 (Lib.countB s sep) s).map Value.string).toArray 9) := Any.strings_Split Tryz.lays146 (by kernel_rfl) s sep m w hs hm h1
end Go.Proofs
