/- Texts of the proof, joined. -/
import Derived.Test.YthehggmdcmpjeaaGreatDoorRows
import Derived.ProofKit
import Derived.OpenShut
import Derived.Carry
import Derived.ChangeOld
import Derived.Deep.DeepHandedRow
import Derived.Lib.LaidTab
import Derived.Test.YthehggmdcmpjeaaGreatDoorP2
set_option linter.unusedVariables false
set_option linter.unusedSimpArgs false
namespace Go.Proofs.YthehggmdcmpjeaaGreatDoor
open Go.Lw Go.G14
theorem co75 : CallOf Tryz.prog 75 := mkC Tryz.func75
theorem co108 : CallOf Tryz.prog 108 := mkC Tryz.func108
theorem shorten_ok (u : Value) (xs : List Stitch) (w0 : World) (hu : Sl encSt w0 u xs) (hy : Sym w0) : Rets Tryz.prog 73 #[u] w0 fun v w' => v = .tuple #[S (shortenS xs).1, .int .i64 (shortenS xs).2] ∧ Fr [] w0 w' := by
 have h00 := hy.pos
 obtain ⟨A, c, rfl, hc⟩ := hu.form
 have hs := hu
 obtain ⟨-, -, hM, hA⟩ := Sl.open_ hu
 unfold maxLen at hM
 refine enter [(0, .slice A xs.length c)] Tryz.func73 rfl Tryz.ntmps73 rfl (.cons rfl .nil) ?_
 have hf := Fr.refl [] w0
 intro a h
 refine tC h (kQ (kR (asg rfl (asg rfl (kL [(0, _)] (.cons rfl .nil) (kE (kQ (kQ (kR (mv rfl (lnS rfl Tryz.underlying88 (gt' rfl rfl (kL [(0, _), (8, _)] (.c2 rfl rfl) (kE ?_)))))))))))))); clear h a; intro a h
 refine cS h rfl (fun c0=>?_) (fun c0=>?_)
 ·refine tC h (kQ (kR (asg rfl (asg rfl (kL [(2, _), (3, _)] (.c2 rfl rfl) (kE ?_)))))); clear h a; intro a h
  refine wp_ret (ret_then (ret2 h Tryz.results73 rfl rfl ?_))
  exact ⟨_, rfl, by rw [shortenS, if_pos (by omega)]; rfl, hf⟩
 refine tC h (kZ (kQ (kQ (kR (mv rfl (lnS rfl Tryz.underlying88 (eq' rfl rfl (kL [(0, _), (11, _)] (.c2 rfl rfl) (kE ?_))))))))); clear h a; intro a h
 refine cS h rfl (fun c1=>?_) (fun c1=>?_)
 ·refine tC h (kQ (kR (asg rfl (asg rfl (kL [(2, _), (3, _)] (.c2 rfl rfl) (kE ?_)))))); clear h a; intro a h
  refine wp_ret (ret_then (ret2 h Tryz.results73 rfl rfl ?_))
  exact ⟨_, rfl, by rw [shortenS, if_neg (by omega), if_pos (by omega)]; rfl, hf⟩
 refine tC h (kZ (kQ (kQ (kR (mv rfl (lnS rfl Tryz.underlying88 (mv rfl (kL [(0, _), (12, _), (13, _), (14, _)] (.c4 rfl rfl rfl rfl) (kE (kB ?_)))))))))); clear h a; intro a h
 refine loop (ι := Nat) (fun k => [(0, .slice A xs.length c), (12, .slice A xs.length c), (13, .int .i64 (xs.length : Int)), (14, .int .i64 (k : Int))]) (fun k w' => k ≤ xs.length ∧ (xs.take k).all okB = true ∧ Sl encSt w' (.slice A xs.length c) xs ∧ Sym w' ∧ Fr [] w0 w') (fun k => xs.length - k) 0 (h.sub (.c4 rfl rfl rfl rfl)) ⟨by omega, rfl, hs, hy, hf⟩ ?_
 clear h a hs hy hf
 rintro k w1 a h ⟨hk, ha, hs, hy, hf⟩
 refine tC h (kQ (kR (lt' rfl rfl (kE (kQ ?_))))); clear h a; intro a h
 refine cS h rfl (fun c2=>?_) (fun c2=>?_)
 ·have hrb := hu.blk (by intro e; subst e; simp at c1)
  obtain ⟨x, hxk⟩ : ∃ x, xs[k]? = some x := ⟨_, List.getElem?_eq_getElem (by omega)⟩
  obtain ⟨ad, hAd, ca⟩ := hA k x hxk
  refine tC h (kZ (kQ (kB (kQ (kR (s_idxS (by rw [hAd]; rfl) rfl el88 (s_loadA rfl (ca.fr hf (by simp)) ag91 ?_) (hp := rfl))))))); clear h a; intro a h
  refine st_alloc h zv91 rfl ?_; clear h a; intro w2 hb5 hq hz a h
  obtain ⟨g_5, hg⟩ : ∃ g, g = w1.heap.size := ⟨_, rfl⟩; rw [← hg] at hb5 h hz
  have hl5 : w0.heap.size ≤ g_5 := by have := hf.size; omega
  replace hf := hf.next hq
  replace hs := hs.ext hq
  replace hy := hy.ext hq
  clear hq hz hg
  refine st_storeBA h rfl rfl hb5 rfl sz91 ?_; clear h a; intro w3 hbn hq hz a h
  replace hf := hf.sp hq
  replace hs := hs.fr hq (by intro k hk hb; have := hrb k hb; simp at hk; omega)
  replace hy := hy.fr hq (by simp[blks]<;>omega)
  clear hb5 hq hz; have hb5 : Blk w3 g_5 _ [_, _, _, _, _] := hbn; clear hbn
  refine tW h (kL [(0, _), (5, _), (12, _), (13, _), (14, _)] (.c5 rfl rfl rfl rfl rfl) (kE (kQ (kR (s_loadBA rfl hb5 ag91 ?_))))); clear h a; intro a h
  refine st_call h (evs_cons rfl evs_nil) co89 (check_ok x _) ?_; clear h a; rintro _ w4 ⟨rfl, hq⟩ a h
  replace hf := hf.next hq
  replace hs := hs.ext hq
  replace hy := hy.ext hq
  replace hb5 := hb5.ext hq
  clear hq
  refine tW h (ne' rfl rfl (kL [(0, _), (12, _), (13, _), (14, _), (20, _)] (.c5 rfl rfl rfl rfl rfl) (kE ?_))); clear h a; intro a h
  refine cS h rfl (fun c3=>?_) (fun c3=>?_)
  ·refine tC h (kQ (kR (asg rfl (asg rfl (kL [(2, _), (3, _)] (.c2 rfl rfl) (kE ?_)))))); clear h a; intro a h
   refine wp_ret (ret_blk (ret_then (ret_then (ret_blk (ret_then ?_)))))
   refine ret2 h Tryz.results73 rfl rfl ?_
   exact ⟨_, rfl, by rw [shortenS, if_neg (by omega), if_neg (by omega), if_neg (fun e => c3 ((okB_iff _).1 (List.all_eq_true.1 e x (List.mem_of_getElem? hxk))))]; rfl, hf⟩
  refine wp_skip (norm_blk (norm_then ?_))
  refine tC h (kR (s_add rfl rfl (by first | exact i6 (by omega) | rfl) (mv rfl (kL [(0, _), (12, _), (13, _), (14, _)] (.c4 rfl rfl rfl rfl) ?_)))); clear h a; intro a h
  refine wnt ?_
  exact ⟨k + 1, h.sub (.c4 rfl rfl rfl rfl), ⟨by omega, by rw [List.take_add_one, hxk]; exact all_snocS _ _ ha ((okB_iff _).2 (by omega)), hs, hy, hf⟩, by omega⟩
 obtain rfl : k = xs.length := by omega
 rw [List.take_length] at ha
 refine wp_exit (exit_then (exit_then (exit_here (norm_then ?_))))
 refine tC h (kQ (kR (mv rfl ?_))); clear h a; intro a h
 refine st_call h (evs_cons rfl evs_nil) co108 (shortest_ok _ xs _ hs (by omega) (by omega) hy) ?_; clear h a; rintro _ w5 ⟨rfl, hq⟩ a h
 replace hf := hf.next hq
 replace hs := hs.ext hq
 replace hy := hy.ext hq
 clear hq
 refine tW h (asg rfl (asg rfl (kL [(2, _), (3, _)] (.c2 rfl rfl) (kE ?_)))); clear h a; intro a h
 refine wp_ret (ret2 h Tryz.results73 rfl rfl ?_)
 exact ⟨_, rfl, by rw [shortenS, if_neg (by omega), if_neg (by omega), if_pos ha], hf⟩
theorem valid_ok (s : Stitch) (w0 : World) (hk : 0 ≤ s.k) (hy : 0 ≤ s.y) : Rets Tryz.prog 75 #[stV s] w0 fun v w' => v = .int .i64 (if checkS s = 0 then 1 else 0) ∧ Fr [] w0 w' := by
 refine enter [(0, stV s)] Tryz.func75 rfl Tryz.ntmps75 rfl (.cons rfl .nil) ?_
 have hf := Fr.refl [] w0
 intro a h
 refine tC h (kQ (kR ?_)); clear h a; intro a h
 refine st_box h rfl rfl ?_; clear h a; intro w1 hb1 hq hz a h
 obtain ⟨g_1, hg⟩ : ∃ g, g = w0.heap.size := ⟨_, rfl⟩; rw [← hg] at hb1 h hz
 have hl1 : w0.heap.size ≤ g_1 := by have := hf.size; omega
 replace hf := hf.next hq
 clear hq hz hg
 refine tW h (asg rfl (kL [(1, _)] (.cons rfl .nil) (kE (kQ (kQ ?_))))); clear h a; intro a h
 refine region_bool (r := 22) (L' := [(1, _)]) (s.y = 0 ∨ 6 < s.y ∨ s.k = 0 ∨ 8 < s.k) h (.cons rfl .nil) ?_ ?_
 ·refine tW h (fad rfl fa91_1 (s_loadB rfl hb1 rfl na5 (eq' rfl rfl (mv rfl ?_)))); clear h a; intro a h
  refine gSp (D := 8) h rfl ?_ ?_
  ·clear h; intro g0 h
   refine tW h (kN rfl rfl (kN rfl rfl (kN rfl rfl (pkt rfl rfl (mv rfl (kN rfl rfl (kN rfl rfl (kN rfl rfl (pkt rfl rfl (mv rfl (kN rfl rfl (kN rfl rfl (kN rfl rfl (pkt rfl rfl ?_)))))))))))))); clear h a; intro a h
   exact wpList_nil (bool_end h rfl (by first | exact bt (by omega) | exact bf (by omega) | exact bi (by omega) | exact bn (by omega)) (.cons rfl .nil))
  clear h; intro g0 h
  refine tW h (kY rfl (fad rfl fa91_1 (kY rfl (s_loadB rfl hb1 rfl na5 (kY rfl (gt' rfl rfl (pkf rfl rfl (mv rfl ?_)))))))); clear h a; intro a h
  refine gSp (D := 13) h rfl ?_ ?_
  ·clear h; intro g1 h
   refine tW h (kN rfl rfl (kN rfl rfl (kN rfl rfl (pkt rfl rfl (mv rfl (kN rfl rfl (kN rfl rfl (kN rfl rfl (pkt rfl rfl ?_))))))))); clear h a; intro a h
   exact wpList_nil (bool_end h rfl (by first | exact bt (by omega) | exact bf (by omega) | exact bi (by omega) | exact bn (by omega)) (.cons rfl .nil))
  clear h; intro g1 h
  refine tW h (kY rfl (fad rfl fa91_0 (kY rfl (s_loadB rfl hb1 rfl na89 (kY rfl (eq' rfl rfl (pkf rfl rfl (mv rfl ?_)))))))); clear h a; intro a h
  refine gSp (D := 18) h rfl ?_ ?_
  ·clear h; intro g2 h
   refine tW h (kN rfl rfl (kN rfl rfl (kN rfl rfl (pkt rfl rfl ?_)))); clear h a; intro a h
   exact wpList_nil (bool_end h rfl (by first | exact bt (by omega) | exact bf (by omega) | exact bi (by omega) | exact bn (by omega)) (.cons rfl .nil))
  clear h; intro g2 h
  refine tW h (kY rfl (fad rfl fa91_0 (kY rfl (s_loadB rfl hb1 rfl na89 (kY rfl (gt' rfl rfl (pkf rfl rfl ?_))))))); clear h a; intro a h
  exact wpList_nil (bool_end h rfl (by first | exact bt (by omega) | exact bf (by omega) | exact bi (by omega) | exact bn (by omega)) (.cons rfl .nil))
 clear h a; intro a h
 refine (norm_then ?_)
 refine cS h rfl (fun c0=>?_) (fun c0=>?_)
 ·refine tC h (kQ (kR (asg rfl (kL [(2, _)] (.cons rfl .nil) (kE ?_))))); clear h a; intro a h
  refine wp_ret (ret_then (ret1 h Tryz.results75 rfl ?_))
  exact ⟨_, rfl, by rw [if_neg (fun e => by have := check_rng e; omega)], hf⟩
 refine tC h (kZ (kQ (kQ (kR (fad rfl fa91_0 (s_loadB rfl hb1 rfl na89 (eq' rfl rfl (kL [(1, _), (25, _)] (.c2 rfl rfl) (kE ?_))))))))); clear h a; intro a h
 refine cS h rfl (fun c1=>?_) (fun c1=>?_)
 ·refine tC h (kQ (kQ (kR (asg rfl (kL [(1, _), (3, _)] (.c2 rfl rfl) (kE (kB ?_))))))); clear h a; intro a h
  refine loop (ι := Nat) (fun i => [(1, .pointer (some ⟨g_1, 0, none⟩)), (3, .int .i64 (i : Int))]) (fun i w' => 1 ≤ i ∧ i ≤ 4 ∧ ¬ (1 ≤ s.a ∧ s.a < i ∧ 1 ≤ s.b ∧ s.a + s.b ≤ 4) ∧ Blk w' g_1 91 [.int .u8 s.k, .int .u8 s.y, .int .i64 s.a, .int .i64 s.b, .bool s.f] ∧ Fr [] w0 w') (fun i => 4 - i) 1 (h.sub (.c2 rfl rfl)) ⟨by omega, by omega, by omega, hb1, hf⟩ ?_
  clear h a hb1 hf
  rintro i w2 a h ⟨hi1, hi4, hno, hb1, hf⟩
  refine tC h (kQ (kQ (kR (mv rfl (lt' rfl rfl (kL [(1, _), (3, _), (27, _)] (.c3 rfl rfl rfl) (kE ?_))))))); clear h a; intro a h
  refine cS h rfl (fun c2=>?_) (fun c2=>?_)
  ·refine tC h (kZ (kQ (kB (kQ (kR (asg rfl (kL [(1, _), (3, _), (4, _)] (.c3 rfl rfl rfl) (kE (kB ?_))))))))); clear h a; intro a h
   refine loop (ι := Nat) (fun j => [(1, .pointer (some ⟨g_1, 0, none⟩)), (3, .int .i64 (i : Int)), (4, .int .i64 (j : Int))]) (fun j w' => 1 ≤ j ∧ i + j ≤ 5 ∧ ¬ (s.a = i ∧ 1 ≤ s.b ∧ s.b < j) ∧ Blk w' g_1 91 [.int .u8 s.k, .int .u8 s.y, .int .i64 s.a, .int .i64 s.b, .bool s.f] ∧ Fr [] w0 w') (fun j => 5 - j) 1 (h.sub (.c3 rfl rfl rfl)) ⟨by omega, by omega, by omega, hb1, hf⟩ ?_
   clear h a hb1 hf
   rintro j w3 a h ⟨hj1, hj4, hnj, hb1, hf⟩
   refine tC h (kQ (kQ (kR (mv rfl (mv rfl (s_add rfl rfl (by first | exact i6 (by omega) | rfl) (le' rfl rfl (kL [(1, _), (3, _), (4, _), (33, _)] (.c4 rfl rfl rfl rfl) (kE ?_))))))))); clear h a; intro a h
   refine cS h rfl (fun c3=>?_) (fun c3=>?_)
   ·refine tC h (kZ (kQ (kB (kQ ?_)))); clear h a; intro a h
    refine region_bool (r := 45) (L' := [(1, _), (3, _), (4, _)]) (s.a = i ∧ s.b = j) h (.c3 rfl rfl rfl) ?_ ?_
    ·refine tW h (fad rfl fa91_2 (s_loadB rfl hb1 rfl na3 (mv rfl (eq' rfl rfl (mv rfl ?_))))); clear h a; intro a h
     refine gSp (D := 40) h rfl ?_ ?_
     ·clear h; intro g3 h
      refine tW h (kY rfl (fad rfl fa91_3 (kY rfl (s_loadB rfl hb1 rfl na3 (kY rfl (mv rfl (kY rfl (eq' rfl rfl (pkt rfl rfl ?_))))))))); clear h a; intro a h
      exact wpList_nil (bool_end h rfl (by first | exact bt (by omega) | exact bf (by omega) | exact bi (by omega) | exact bn (by omega)) (.c3 rfl rfl rfl))
     clear h; intro g3 h
     refine tW h (kN rfl rfl (kN rfl rfl (kN rfl rfl (kN rfl rfl (pkf rfl rfl ?_))))); clear h a; intro a h
     exact wpList_nil (bool_end h rfl (by first | exact bt (by omega) | exact bf (by omega) | exact bi (by omega) | exact bn (by omega)) (.c3 rfl rfl rfl))
    clear h a; intro a h
    refine (norm_then ?_)
    refine cS h rfl (fun c4=>?_) (fun c4=>?_)
    ·refine tC h (kQ (kR (asg rfl (kL [(2, _)] (.cons rfl .nil) (kE ?_))))); clear h a; intro a h
     refine wp_ret (ret_blk (ret_then (ret_then (ret_blk (ret_blk (ret_then (ret_then (ret_blk (ret_then (ret_then ?_))))))))))
     refine ret1 h Tryz.results75 rfl ?_
     exact ⟨_, rfl, by rw [if_pos (check_zero hk hy (by omega) (.inl (by omega)))], hf⟩
    refine wp_skip (norm_blk (norm_then ?_))
    refine tC h (kR (mv rfl (s_add rfl rfl (by first | exact i6 (by omega) | rfl) (asg rfl (kL [(1, _), (3, _), (4, _)] (.c3 rfl rfl rfl) ?_))))); clear h a; intro a h
    refine wnt ?_
    exact ⟨j + 1, h.sub (.c3 rfl rfl rfl), ⟨by omega, by omega, by omega, hb1, hf⟩, by omega⟩
   refine wp_exit (exit_then (exit_then (exit_here (norm_blk (norm_then ?_)))))
   refine tC h (kR (mv rfl (s_add rfl rfl (by first | exact i6 (by omega) | rfl) (asg rfl (kL [(1, _), (3, _)] (.c2 rfl rfl) ?_))))); clear h a; intro a h
   refine wnt ?_
   exact ⟨i + 1, h.sub (.c2 rfl rfl), ⟨by omega, by omega, by omega, hb1, hf⟩, by omega⟩
  refine wp_exit (exit_then (exit_then (exit_here (norm_then ?_))))
  refine tC h (kQ (kR (asg rfl (kL [(2, _)] (.cons rfl .nil) (kE ?_))))); clear h a; intro a h
  refine wp_ret (ret_then (ret1 h Tryz.results75 rfl ?_))
  exact ⟨_, rfl, by rw [if_neg (fun e => by have := check_rng e; omega)], hf⟩
 refine tC h (kZ (kQ (kQ ?_))); clear h a; intro a h
 refine region_bool (r := 57) (L' := []) (s.a ≠ 0 ∨ s.b ≠ 0 ∨ s.f = true) h .nil ?_ ?_
 ·refine tW h (fad rfl fa91_2 (s_loadB rfl hb1 rfl na3 (ne' rfl rfl (mv rfl ?_)))); clear h a; intro a h
  refine gSp (D := 49) h rfl ?_ ?_
  ·clear h; intro g4 h
   refine tW h (kN rfl rfl (kN rfl rfl (kN rfl rfl (pkt rfl rfl (mv rfl (kN rfl rfl (kN rfl rfl (pkt rfl rfl ?_)))))))); clear h a; intro a h
   exact wpList_nil (bool_end h rfl (by simp_all) .nil)
  clear h; intro g4 h
  refine tW h (kY rfl (fad rfl fa91_3 (kY rfl (s_loadB rfl hb1 rfl na3 (kY rfl (ne' rfl rfl (pkf rfl rfl (mv rfl ?_)))))))); clear h a; intro a h
  refine gSp (D := 54) h rfl ?_ ?_
  ·clear h; intro g5 h
   refine tW h (kN rfl rfl (kN rfl rfl (pkt rfl rfl ?_))); clear h a; intro a h
   exact wpList_nil (bool_end h rfl (by simp_all) .nil)
  clear h; intro g5 h
  refine tW h (kY rfl (fad rfl fa91_4 (kY rfl (s_loadB rfl hb1 rfl na4 (pkf rfl rfl ?_))))); clear h a; intro a h
  exact wpList_nil (bool_end h rfl (by simp_all) .nil)
 clear h a; intro a h
 refine (norm_then ?_)
 refine cS h rfl (fun c5=>?_) (fun c5=>?_)
 ·refine tC h (kQ (kR (asg rfl (kL [(2, _)] (.cons rfl .nil) (kE ?_))))); clear h a; intro a h
  refine wp_ret (ret_then (ret1 h Tryz.results75 rfl ?_))
  exact ⟨_, rfl, by rw [if_neg (fun e => by obtain ⟨p, q, r⟩ := (check_rng e).2.2.2.2.1 c1; rcases c5 with x | x | x; exact x p; exact x q; rw [r] at x; cases x)], hf⟩
 refine tC h (kZ (kQ (kR (asg rfl (kL [(2, _)] (.cons rfl .nil) (kE ?_)))))); clear h a; intro a h
 refine wp_ret (ret1 h Tryz.results75 rfl ?_)
 exact ⟨_, rfl, by rw [if_pos (check_zero hk hy (by omega) (.inr ⟨c1, by omega, by omega, by cases hsf : s.f with | false => rfl | true => exact absurd (.inr (.inr hsf)) c5⟩))], hf⟩
theorem reftext_ok (s : Stitch) (w0 : World) (hk : 0 ≤ s.k) (hy : 0 ≤ s.y) : Rets Tryz.prog 98 #[stV s] w0 fun v w' => v = S (textS s) ∧ Fr [] w0 w' := by
 refine enter [(0, stV s)] Tryz.func98 rfl Tryz.ntmps98 rfl (.cons rfl .nil) ?_
 have hf := Fr.refl [] w0
 intro a h
 refine tC h (kQ (kR ?_)); clear h a; intro a h
 refine st_box h rfl rfl ?_; clear h a; intro w1 hb1 hq hz a h
 obtain ⟨g_1, hg⟩ : ∃ g, g = w0.heap.size := ⟨_, rfl⟩; rw [← hg] at hb1 h hz
 have hl1 : w0.heap.size ≤ g_1 := by have := hf.size; omega
 replace hf := hf.next hq
 clear hq hz hg
 refine tW h (asg rfl (kL [(1, _)] (.cons rfl .nil) (kE (kQ (kQ (kR (s_loadBA rfl hb1 ag91 ?_))))))); clear h a; intro a h
 refine st_call h (evs_cons rfl evs_nil) co75 (valid_ok s _ hk hy) ?_; clear h a; rintro _ w2 ⟨rfl, hq⟩ a h
 replace hf := hf.next hq
 replace hb1 := hb1.ext hq
 clear hq
 refine tW h (eq' rfl rfl (kL [(1, _), (8, _)] (.c2 rfl rfl) (kE ?_))); clear h a; intro a h
 refine cS h rfl (fun c0=>?_) (fun c0=>?_)
 ·have hc : checkS s ≠ 0 := fun e => by rw [if_pos e] at c0; omega
  refine tC h (kQ (kR (asg rfl (kL [(2, _)] (.cons rfl .nil) (kE ?_))))); clear h a; intro a h
  refine wp_ret (ret_then (ret1 h Tryz.results98 rfl ?_))
  exact ⟨_, rfl, by rw [textS, if_pos hc]; rfl, hf⟩
 have hc : checkS s = 0 := Decidable.not_not.1 fun e => c0 (if_neg e)
 obtain ⟨k1, k8, y1, y6, kn, ky⟩ := check_rng hc
 refine tC h (kZ (kQ (kR (asg rfl (kL [(1, _), (3, _)] (.c2 rfl rfl) (kE (kQ (kR (mv rfl (fad rfl fa91_0 (s_loadB rfl hb1 rfl na89 (fad rfl fa91_0 (s_loadB rfl hb1 rfl na89 (s_add rfl rfl (by first | exact IntWalk.u8_in _ (by omega) | rfl) (s_ss_lh (p := (s.k).toNat) (p' := (s.k + 1).toNat) rfl rfl rfl Tryz.underlying9 rfl rfl ?_))))))))))))))); clear h a; intro a h
 rw [refsym s.k k1 k8] at h
 refine tW h (asg rfl (kL [(1, _), (4, _)] (.c2 rfl rfl) (kE (kQ (kR (asg rfl (kE (kQ (kQ (kR (fad rfl fa91_0 (s_loadB rfl hb1 rfl na89 (eq' rfl rfl (kL [(1, _), (4, _), (5, _), (18, _)] (.c4 rfl rfl rfl rfl) (kE ?_))))))))))))))); clear h a; intro a h
 refine cS h rfl (fun c1=>?_) (fun c1=>?_)
 ·obtain ⟨a1, a3, b1, b3, ab⟩ := ky c1
  refine wp_seq ?_
  refine region_quiet hmix (by kernel_rfl) ?_
  refine qt_move h rfl rfl ?_; clear h a; intro a h
  refine qt_move h rfl rfl ?_; clear h a; intro a h
  refine qt_fieldAddr h rfl fa91_2 rfl ?_; clear h a; intro a h
  refine qt_loadB h rfl (fun _ hw => hb1.ext hw) rfl na3 rfl ?_; clear h a; intro a h
  refine qt_fieldAddr h rfl fa91_2 rfl ?_; clear h a; intro a h
  refine qt_loadB h rfl (fun _ hw => hb1.ext hw) rfl na3 rfl ?_; clear h a; intro a h
  refine qt_add h rfl rfl (by first | exact i6 (by omega) | rfl) rfl ?_; clear h a; intro a h
  refine qt_ss_lh (p := (s.a).toNat) (p' := (s.a + 1).toNat) h rfl rfl rfl Tryz.underlying9 (by omega) (by omega) (by simp only [List.length_cons, List.length_nil]; omega) rfl rfl rfl ?_; clear h a; intro a h
  rw [refdig s.a (by omega) (by omega)] at h
  refine qt_move h rfl rfl ?_; clear h a; intro a h
  refine qt_fieldAddr h rfl fa91_3 rfl ?_; clear h a; intro a h
  refine qt_loadB h rfl (fun _ hw => hb1.ext hw) rfl na3 rfl ?_; clear h a; intro a h
  refine qt_fieldAddr h rfl fa91_3 rfl ?_; clear h a; intro a h
  refine qt_loadB h rfl (fun _ hw => hb1.ext hw) rfl na3 rfl ?_; clear h a; intro a h
  refine qt_add h rfl rfl (by first | exact i6 (by omega) | rfl) rfl ?_; clear h a; intro a h
  refine qt_ss_lh (p := (s.b).toNat) (p' := (s.b + 1).toNat) h rfl rfl rfl Tryz.underlying9 (by omega) (by omega) (by simp only [List.length_cons, List.length_nil]; omega) rfl rfl rfl ?_; clear h a; intro a h
  rw [refdig s.b (by omega) (by omega)] at h
  refine qt_adds h rfl rfl (by simp<;>omega) rfl ?_; clear h a; intro a h
  refine qt_adds h rfl rfl (by simp<;>omega) rfl ?_; clear h a; intro a h
  refine qt_assign h rfl rfl ?_; clear h a; intro a h
  refine wpQuiet_nil ?_
  intro w3 hq
  replace hf := hf.next hq
  replace hb1 := hb1.ext hq
  clear hq
  replace h : Ag a 55 [(1, _), (4, _), (5, _)] := h.sub (.c3 rfl rfl rfl)
  refine (norm_then ?_)
  refine tC h (kQ (kR (fad rfl fa91_4 (s_loadB rfl hb1 rfl na4 (kL [(1, _), (4, _), (5, _), (37, _)] (.c4 rfl rfl rfl rfl) (kE ?_)))))); clear h a; intro a h
  refine cS h rfl (fun c2=>?_) (fun c2=>?_)
  ·refine tC h (kR (mv rfl (s_adds rfl rfl (asg rfl (kL [(1, _), (4, _), (5, _)] (.c3 rfl rfl rfl) (kE (kQ (kQ (kR (fad rfl fa91_1 (s_loadB rfl hb1 rfl na5 (ne' rfl rfl (kL [(1, _), (4, _), (5, _), (44, _)] (.c4 rfl rfl rfl rfl) (kE ?_))))))))))) (hb := (by simp<;>omega))))); clear h a; intro a h
   refine cS h rfl (fun c3=>?_) (fun c3=>?_)
   ·refine tC h (kR (mv rfl (mv rfl (fad rfl fa91_1 (s_loadB rfl hb1 rfl na5 (fad rfl fa91_1 (s_loadB rfl hb1 rfl na5 (s_add rfl rfl (by first | exact IntWalk.u8_in _ (by omega) | rfl) (s_ss_lh (p := (s.y).toNat) (p' := (s.y + 1).toNat) rfl rfl rfl Tryz.underlying9 rfl rfl ?_))))))))); clear h a; intro a h
    rw [refdig s.y (by omega) (by omega)] at h
    refine tW h (s_adds rfl rfl (asg rfl (kL [(4, _)] (.cons rfl .nil) (kE (kQ (kR (mv rfl (asg rfl (kL [(2, _)] (.cons rfl .nil) (kE ?_))))))))) (hb := (by simp<;>omega))); clear h a; intro a h
    refine wp_ret (ret1 h Tryz.results98 rfl ?_)
    exact ⟨_, rfl, by simp_all [textS], hf⟩
   refine tC h (kZ (kQ (kR (mv rfl (asg rfl (kL [(2, _)] (.cons rfl .nil) (kE ?_))))))); clear h a; intro a h
   refine wp_ret (ret1 h Tryz.results98 rfl ?_)
   exact ⟨_, rfl, by simp_all [textS], hf⟩
  refine tC h (kR (mv rfl (s_adds rfl rfl (asg rfl (kL [(1, _), (4, _), (5, _)] (.c3 rfl rfl rfl) (kE (kQ (kQ (kR (fad rfl fa91_1 (s_loadB rfl hb1 rfl na5 (ne' rfl rfl (kL [(1, _), (4, _), (5, _), (44, _)] (.c4 rfl rfl rfl rfl) (kE ?_))))))))))) (hb := (by simp<;>omega))))); clear h a; intro a h
  refine cS h rfl (fun c3=>?_) (fun c3=>?_)
  ·refine tC h (kR (mv rfl (mv rfl (fad rfl fa91_1 (s_loadB rfl hb1 rfl na5 (fad rfl fa91_1 (s_loadB rfl hb1 rfl na5 (s_add rfl rfl (by first | exact IntWalk.u8_in _ (by omega) | rfl) (s_ss_lh (p := (s.y).toNat) (p' := (s.y + 1).toNat) rfl rfl rfl Tryz.underlying9 rfl rfl ?_))))))))); clear h a; intro a h
   rw [refdig s.y (by omega) (by omega)] at h
   refine tW h (s_adds rfl rfl (asg rfl (kL [(4, _)] (.cons rfl .nil) (kE (kQ (kR (mv rfl (asg rfl (kL [(2, _)] (.cons rfl .nil) (kE ?_))))))))) (hb := (by simp<;>omega))); clear h a; intro a h
   refine wp_ret (ret1 h Tryz.results98 rfl ?_)
   exact ⟨_, rfl, by simp_all [textS], hf⟩
  refine tC h (kZ (kQ (kR (mv rfl (asg rfl (kL [(2, _)] (.cons rfl .nil) (kE ?_))))))); clear h a; intro a h
  refine wp_ret (ret1 h Tryz.results98 rfl ?_)
  exact ⟨_, rfl, by simp_all [textS], hf⟩
 refine tC h (kZ (kQ (kQ (kR (fad rfl fa91_1 (s_loadB rfl hb1 rfl na5 (ne' rfl rfl (kL [(1, _), (4, _), (5, _), (44, _)] (.c4 rfl rfl rfl rfl) (kE ?_))))))))); clear h a; intro a h
 refine cS h rfl (fun c3=>?_) (fun c3=>?_)
 ·refine tC h (kR (mv rfl (mv rfl (fad rfl fa91_1 (s_loadB rfl hb1 rfl na5 (fad rfl fa91_1 (s_loadB rfl hb1 rfl na5 (s_add rfl rfl (by first | exact IntWalk.u8_in _ (by omega) | rfl) (s_ss_lh (p := (s.y).toNat) (p' := (s.y + 1).toNat) rfl rfl rfl Tryz.underlying9 rfl rfl ?_))))))))); clear h a; intro a h
  rw [refdig s.y (by omega) (by omega)] at h
  refine tW h (s_adds rfl rfl (asg rfl (kL [(4, _)] (.cons rfl .nil) (kE (kQ (kR (mv rfl (asg rfl (kL [(2, _)] (.cons rfl .nil) (kE ?_))))))))) (hb := (by simp<;>omega))); clear h a; intro a h
  refine wp_ret (ret1 h Tryz.results98 rfl ?_)
  exact ⟨_, rfl, by simp_all [textS], hf⟩
 refine tC h (kZ (kQ (kR (mv rfl (asg rfl (kL [(2, _)] (.cons rfl .nil) (kE ?_))))))); clear h a; intro a h
 refine wp_ret (ret1 h Tryz.results98 rfl ?_)
 exact ⟨_, rfl, by simp_all [textS], hf⟩
end Go.Proofs.YthehggmdcmpjeaaGreatDoor
namespace Go.Proofs.YthehggmdcmpjeaaGreatDoor
open Go.Lw Go.G14
theorem co98 : CallOf Tryz.prog 98 := mkC Tryz.func98
theorem co99 : CallOf Tryz.prog 99 := mkC Tryz.func99
theorem el67 : ElemOf Tryz.prog 67 9 Enc.str 16 := ElemOf.mk' (z := (.string ⟨#[]⟩)) Tryz.underlying67 (by kernel_rfl) rfl
theorem sz9 : SizeOf Tryz.prog 9 1 := fun _ => by kernel_rfl
set_option maxHeartbeats 4000000 in
theorem refshort_ok (u : Value) (xs : List Stitch) (w0 : World) (hu : Sl encSt w0 u xs) (hok : xs.all okB = true) (hn : 1 ≤ xs.length) (hm : xs.length ≤ 16) : Rets Tryz.prog 65 #[u] w0 fun v w' => v = S (shortS xs) ∧ Fr [] w0 w' := by
 have hrb := hu.blk (by intro e; subst e; simp at hn)
 obtain ⟨A, c, rfl, hc⟩ := hu.form
 have hs := hu
 obtain ⟨-, -, hM, hA⟩ := Sl.open_ hu
 unfold maxLen at hM
 obtain ⟨N, hN⟩ : ∃ N, N = (xs.length + 1) * (xs.length + 1) := ⟨_, rfl⟩
 have hN2 : N ≤ 289 := by rw [hN]; exact Nat.mul_le_mul (show xs.length + 1 ≤ 17 by omega) (show xs.length + 1 ≤ 17 by omega)
 refine enter [(0, .slice A xs.length c)] Tryz.func65 rfl Tryz.ntmps65 rfl (.cons rfl .nil) ?_
 have hf := Fr.refl [] w0
 intro a h
 refine tC h (kQ (kR (asg rfl (kL [(0, _)] (.cons rfl .nil) (kE (kQ (kR (mv rfl (lnS rfl Tryz.underlying88 (asg rfl (kL [(0, _), (3, _)] (.c2 rfl rfl) (kE (kQ (kR (mv rfl (s_add rfl rfl (by first | exact i6 (by omega) | rfl) (mv rfl (s_add rfl rfl (by first | exact i6 (by omega) | rfl) (s_mul (z := (N : Int)) rfl rfl (by rw [show ((xs.length : Int) + 1) * ((xs.length : Int) + 1) = (N : Int) by rw [hN]; push_cast; rfl]; exact IntWalk.i64_in _ (by omega)) ?_))))))))))))))))))); clear h a; intro a h
 refine st_makeSlice ([] : List UInt8) h rfl rfl el67 zv9 rfl (Nat.le_refl _) (by unfold maxLen; omega) rfl ?_; clear h a; intro gT w1 hg hO hq hz a h
 have hgT : w0.heap.size ≤ gT := by have := hf.size; omega
 replace hO := hO.low hgT
 replace hf := hf.next hq
 replace hs := hs.ext hq
 clear hq hz hg
 refine tW h (asg rfl (kL [(0, _), (3, _), (4, _)] (.c3 rfl rfl rfl) (kE (kQ (kQ (kR (asg rfl (kE (kB ?_))))))))); clear h a; intro a h
 refine loop (ι := Nat × List (List UInt8)) (fun z => [(0, .slice A xs.length c), (3, .int .i64 (xs.length : Int)), (4, .slice (some ⟨gT, 0, none⟩) N N), (5, .int .i64 (z.1 : Int))]) (fun z w' => 1 ≤ z.1 ∧ z.1 ≤ xs.length + 1 ∧ Lw.Own Enc.str 9 w0.heap.size w' (.slice (some ⟨gT, 0, none⟩) N N) z.2 ∧ Filled xs z.1 0 z.2 ∧ Sl encSt w' (.slice A xs.length c) xs ∧ Fr [] w0 w') (fun z => xs.length + 1 - z.1) (1, List.replicate N []) (h.sub (.c4 rfl rfl rfl rfl)) ⟨by simp, by simp only; omega, hO, by rw [hN]; exact fill_start xs, hs, hf⟩ ?_
 clear h a hO hs hf
 rintro ⟨L, tab⟩ w2 a h ⟨hL1, hL2, hO, hfl, hs, hf⟩
 simp only at hL1 hL2 hO hfl h
 refine tC h (kQ (kQ (kR (mv rfl (mv rfl (le' rfl rfl (kL [(0, _), (3, _), (4, _), (5, _), (26, _)] (.c5 rfl rfl rfl rfl rfl) (kE ?_)))))))); clear h a; intro a h
 refine cS h rfl (fun c0=>?_) (fun c0=>?_)
 ·refine tC h (kZ (kQ (kB (kQ (kR (asg rfl (kL [(0, _), (3, _), (4, _), (5, _), (6, _)] (.c5 rfl rfl rfl rfl rfl) (kE (kB ?_))))))))); clear h a; intro a h
  refine loop (ι := Nat × List (List UInt8)) (fun z => [(0, .slice A xs.length c), (3, .int .i64 (xs.length : Int)), (4, .slice (some ⟨gT, 0, none⟩) N N), (5, .int .i64 (L : Int)), (6, .int .i64 (z.1 : Int))]) (fun z w' => z.1 ≤ xs.length + 1 - L ∧ Lw.Own Enc.str 9 w0.heap.size w' (.slice (some ⟨gT, 0, none⟩) N N) z.2 ∧ Filled xs L z.1 z.2 ∧ Sl encSt w' (.slice A xs.length c) xs ∧ Fr [] w0 w') (fun z => xs.length + 1 - z.1) (0, tab) (h.sub (.c5 rfl rfl rfl rfl rfl)) ⟨by simp, hO, hfl, hs, hf⟩ ?_
  clear h a hO hs hf hfl
  rintro ⟨i, tab⟩ w3 a h ⟨hiL, hO, hfl, hs, hf⟩
  simp only at hiL hO hfl h
  refine tC h (kQ (kQ (kR (mv rfl (mv rfl (s_add rfl rfl (by first | exact i6 (by omega) | rfl) (mv rfl (le' rfl rfl (kL [(0, _), (3, _), (4, _), (5, _), (6, _), (33, _)] (.c6 rfl rfl rfl rfl rfl rfl) (kE ?_)))))))))); clear h a; intro a h
  refine cS h rfl (fun c1=>?_) (fun c1=>?_)
  ·refine tC h (kZ (kQ (kB (kQ (kR (asg rfl (kL [(0, _), (3, _), (4, _), (5, _), (6, _), (7, _)] (.c6 rfl rfl rfl rfl rfl rfl) (kE ?_)))))))); clear h a; intro a h
   refine seq_cut (Cut (ι := Unit) 151 (fun u => [(0, .slice A xs.length c), (3, .int .i64 (xs.length : Int)), (4, .slice (some ⟨gT, 0, none⟩) N N), (5, .int .i64 (L : Int)), (6, .int .i64 (i : Int)), (7, S (refTo xs i L 0))]) (fun u w' => Lw.Own Enc.str 9 w0.heap.size w' (.slice (some ⟨gT, 0, none⟩) N N) tab ∧ Filled xs L i tab ∧ Sl encSt w' (.slice A xs.length c) xs ∧ Fr [] w0 w')) ?_ ?_
   ·refine tC h (kQ (kR (mv rfl (eq' rfl rfl (kL [(0, _), (3, _), (4, _), (5, _), (6, _), (7, _), (37, _)] (.c7 rfl rfl rfl rfl rfl rfl rfl) (kE ?_)))))); clear h a; intro a h
    refine cS h rfl (fun c2=>?_) (fun c2=>?_)
    ·obtain ⟨x, hxi⟩ : ∃ x, xs[i]? = some x := ⟨_, List.getElem?_eq_getElem (by omega)⟩
     obtain ⟨ad, hAd, ca⟩ := hA i x hxi
     obtain ⟨p1, p2⟩ := okB_pos (List.all_eq_true.1 hok x (List.mem_of_getElem? hxi))
     refine tC h (kR (mv rfl (mv rfl (s_idxS (by rw [hAd]; rfl) rfl el88 (s_loadA rfl (ca.fr hf (by simp)) ag91 ?_) (hp := rfl))))); clear h a; intro a h
     refine st_call h (evs_cons rfl evs_nil) co98 (reftext_ok x _ p1 p2) ?_; clear h a; rintro _ w4 ⟨rfl, hq⟩ a h
     replace hf := hf.next hq
     replace hO := hO.ext hq
     replace hs := hs.ext hq
     clear hq
     refine tW h (asg rfl (kL [(0, _), (3, _), (4, _), (5, _), (6, _), (7, _)] (.c6 rfl rfl rfl rfl rfl rfl) ?_)); clear h a; intro a h
     refine wnt ?_
     exact ⟨(), h.sub (.c6 rfl rfl rfl rfl rfl (by first | (rw [refTo, if_pos (by omega), List.getD, hxi]; rfl) | (rw [refTo, if_neg (by omega)]; rfl))), hO, hfl, hs, hf⟩
    refine wsn ?_
    exact ⟨(), h.sub (.c6 rfl rfl rfl rfl rfl (by first | (rw [refTo, if_pos (by omega), List.getD, hxi]; rfl) | (rw [refTo, if_neg (by omega)]; rfl))), hO, hfl, hs, hf⟩
   clear h a hO hs hf hfl
   rintro a w5 ⟨u, h, ⟨hO, hfl, hs, hf⟩⟩
   refine tC h (kQ (kQ (kR (asg rfl (kE (kB ?_)))))); clear h a; intro a h
   refine loop (ι := Nat) (fun k => [(0, .slice A xs.length c), (3, .int .i64 (xs.length : Int)), (4, .slice (some ⟨gT, 0, none⟩) N N), (5, .int .i64 (L : Int)), (6, .int .i64 (i : Int)), (7, S (refTo xs i L k)), (8, .int .i64 ((k : Int) + 1))]) (fun k w' => k ≤ L - 1 ∧ Lw.Own Enc.str 9 w0.heap.size w' (.slice (some ⟨gT, 0, none⟩) N N) tab ∧ Filled xs L i tab ∧ Sl encSt w' (.slice A xs.length c) xs ∧ Fr [] w0 w') (fun k => L - k) 0 (h.sub (.c7 rfl rfl rfl rfl rfl rfl rfl)) ⟨by omega, hO, hfl, hs, hf⟩ ?_
   clear h a hO hs hf hfl
   rintro k w6 a h ⟨hk, hO, hfl, hs, hf⟩
   have hix1 : i * (xs.length + 1) ≤ 16 * 17 := Nat.mul_le_mul (show i ≤ 16 by omega) (show xs.length + 1 ≤ 17 by omega)
   have hix := idx_lt (n := xs.length) (a := i) (m := L) (by omega)
   rw [← hN] at hix
   refine tC h (kQ (kQ (kR (mv rfl (mv rfl (lt' rfl rfl (kL [(0, _), (3, _), (4, _), (5, _), (6, _), (7, _), (8, _), (45, _)] (.c8 rfl rfl rfl rfl rfl rfl rfl rfl) (kE ?_)))))))); clear h a; intro a h
   refine cS h rfl (fun c3=>?_) (fun c3=>?_)
   ·have hTi : (bT xs i (k + 1)).length ≤ _ := (T_len xs i (k + 1) (by omega)).2
    have hTr : (bT xs (i + (k + 1)) (L - (k + 1))).length ≤ _ := (T_len xs (i + (k + 1)) (L - (k + 1)) (by omega)).2
    have hix2 : (i + (k + 1)) * (xs.length + 1) ≤ 16 * 17 := Nat.mul_le_mul (show i + (k + 1) ≤ 16 by omega) (show xs.length + 1 ≤ 17 by omega)
    have hix3 := idx_lt (n := xs.length) (a := i + (k + 1)) (m := L - (k + 1)) (by omega)
    rw [← hN] at hix3
    refine tC h (kZ (kQ (kB (kQ (kR (mv rfl (mv rfl (mv rfl (s_add rfl rfl (by first | exact i6 (by omega) | rfl) ?_))))))))); clear h a; intro a h
    refine st_mul (z := ((i * (xs.length + 1) : Nat) : Int)) h rfl rfl (by rw [show ((i : Int)) * ((xs.length : Int) + 1) = ((i * (xs.length + 1) : Nat) : Int) by push_cast; rfl]; exact IntWalk.i64_in _ (by have : i * (xs.length + 1) ≤ 16 * 17 := Nat.mul_le_mul (show i ≤ 16 by omega) (show xs.length + 1 ≤ 17 by omega); omega)) rfl ?_; clear h a; intro a h
    refine tW h (mv rfl (s_add rfl rfl (by first | exact i6 (by omega) | rfl) (mv rfl (s_add rfl rfl (by first | exact i6 (by omega) | rfl) ?_)))); clear h a; intro a h
    refine st_idx (p := i * (xs.length + 1) + i + (k + 1)) h rfl rfl hO.sl el67 (by omega) (hfl.2 (i) ((k + 1)) (by omega) (by omega) (by omega)) rfl ?_; clear h a; intro ad cc a h
    refine tW h (s_loadC0 rfl cc na9 (asg rfl (kL [(0, _), (3, _), (4, _), (5, _), (6, _), (7, _), (8, _), (9, _)] (.c8 rfl rfl rfl rfl rfl rfl rfl rfl) (kE (kQ (kR (mv rfl (s_adds rfl rfl (mv rfl (mv rfl (mv rfl (s_add rfl rfl (by first | exact i6 (by omega) | rfl) (mv rfl (s_add rfl rfl (by first | exact i6 (by omega) | rfl) ?_)))))) (hb := (by simp<;>omega)))))))))); clear h a; intro a h
    refine st_mul (z := (((i + (k + 1)) * (xs.length + 1) : Nat) : Int)) h rfl rfl (by rw [show ((i : Int) + ((k : Int) + 1)) * ((xs.length : Int) + 1) = (((i + (k + 1)) * (xs.length + 1) : Nat) : Int) by push_cast; rfl]; exact IntWalk.i64_in _ (by have : (i + (k + 1)) * (xs.length + 1) ≤ 16 * 17 := Nat.mul_le_mul (show (i + (k + 1)) ≤ 16 by omega) (show xs.length + 1 ≤ 17 by omega); omega)) rfl ?_; clear h a; intro a h
    refine tW h (mv rfl (s_add rfl rfl (by first | exact i6 (by omega) | rfl) (mv rfl (s_add rfl rfl (by first | exact i6 (by omega) | rfl) ?_)))); clear h a; intro a h
    refine st_idx (p := (i + (k + 1)) * (xs.length + 1) + (i + (k + 1)) + (L - (k + 1))) h rfl rfl hO.sl el67 (by omega) (hfl.2 (i + (k + 1)) (L - (k + 1)) (by omega) (by omega) (by omega)) rfl ?_; clear h a; intro ad cc a h
    refine tW h (s_loadC0 rfl cc na9 (s_adds rfl rfl (asg rfl (kL [(0, _), (3, _), (4, _), (5, _), (6, _), (7, _), (8, _), (9, _), (10, _)] (.d8 rfl rfl rfl rfl rfl rfl rfl rfl (.cons rfl .nil)) (kE ?_))) (hb := (by simp<;>omega)))); clear h a; intro a h
    refine seq_cut (Cut (ι := Unit) 151 (fun u => [(0, .slice A xs.length c), (3, .int .i64 (xs.length : Int)), (4, .slice (some ⟨gT, 0, none⟩) N N), (5, .int .i64 (L : Int)), (6, .int .i64 (i : Int)), (7, S (betterS (refTo xs i L k) (bothT xs i L (k + 1)))), (8, .int .i64 ((k : Int) + 1)), (9, S (bT xs i (k + 1)))]) (fun u w' => Lw.Own Enc.str 9 w0.heap.size w' (.slice (some ⟨gT, 0, none⟩) N N) tab ∧ Filled xs L i tab ∧ Sl encSt w' (.slice A xs.length c) xs ∧ Fr [] w0 w')) ?_ ?_
    ·refine wp_seq ?_
     refine region_bool (r := 82) (L' := [(0, _), (3, _), (4, _), (5, _), (6, _), (7, _), (8, _), (9, _), (10, _)]) (refTo xs i L k = [] ∨ lessP (bothT xs i L (k + 1)) (refTo xs i L k)) h (.d8 rfl rfl rfl rfl rfl rfl rfl rfl (.cons rfl .nil)) ?_ ?_
     ·refine tW h (mv rfl (s_eqs rfl rfl (mv rfl ?_))); clear h a; intro a h
      refine gSp (D := 77) h rfl ?_ ?_
      ·clear h; intro g0 h
       refine tW h (kN rfl rfl (kN rfl rfl (kN rfl rfl (kN rfl rfl (pkt rfl rfl ?_))))); clear h a; intro a h
       exact wpList_nil (bool_end h rfl (by first | exact bt (.inl (by assumption)) | exact bi (by constructor; intro e; split at e; exact .inr (by assumption); omega; rintro (e | e); exact absurd e (by assumption); rw [if_pos e])) (.d8 rfl rfl rfl rfl rfl rfl rfl rfl (.cons rfl .nil)))
      clear h; intro g0 h
      refine tW h (kY rfl (mv rfl (kY rfl (mv rfl ?_)))); clear h a; intro a h
      refine gd_yes h rfl rfl rfl rfl rfl rfl ?_
      refine st_call h (evs_cons rfl (evs_cons rfl evs_nil)) co99 (less_ok _ _ _) ?_; clear h a; rintro _ _ ⟨rfl, rfl⟩ a h
      refine tW h (kY rfl (eq' rfl rfl (pkf rfl rfl ?_))); clear h a; intro a h
      exact wpList_nil (bool_end h rfl (by first | exact bt (.inl (by assumption)) | exact bi (by constructor; intro e; split at e; exact .inr (by assumption); omega; rintro (e | e); exact absurd e (by assumption); rw [if_pos e])) (.d8 rfl rfl rfl rfl rfl rfl rfl rfl (.cons rfl .nil)))
     clear h a; intro a h
     refine (norm_then ?_)
     refine cS h rfl (fun c4=>?_) (fun c4=>?_)
     ·refine tC h (kR (mv rfl (asg rfl (kL [(0, _), (3, _), (4, _), (5, _), (6, _), (7, _), (8, _), (9, _)] (.c8 rfl rfl rfl rfl rfl rfl rfl rfl) ?_)))); clear h a; intro a h
      refine wnt ?_
      exact ⟨(), h.sub (.c8 rfl rfl rfl rfl rfl (by first | exact congrArg (fun x => some (S x)) (better_pos (cons_ne _ _) c4).symm | exact congrArg (fun x => some (S x)) (better_neg c4).symm) rfl rfl), hO, hfl, hs, hf⟩
     refine wsn ?_
     exact ⟨(), h.sub (.c8 rfl rfl rfl rfl rfl (by first | exact congrArg (fun x => some (S x)) (better_pos (cons_ne _ _) c4).symm | exact congrArg (fun x => some (S x)) (better_neg c4).symm) rfl rfl), hO, hfl, hs, hf⟩
    clear h a hO hs hf hfl
    rintro a w7 ⟨u, h, ⟨hO, hfl, hs, hf⟩⟩
    refine tC h (kQ (kQ (kR (mv rfl (mv rfl ?_))))); clear h a; intro a h
    refine st_rem (z := ((L % (k + 1) : Nat) : Int)) h rfl rfl (by omega) (by rw [IntWalk.rem_in _ _ (by omega)]; exact (Int.natCast_emod L (k + 1)).symm) rfl ?_; clear h a; intro a h
    refine tW h (ne' rfl rfl (kL [(0, _), (3, _), (4, _), (5, _), (6, _), (7, _), (8, _), (9, _), (87, _)] (.d8 rfl rfl rfl rfl rfl rfl rfl rfl (.cons rfl .nil)) (kE ?_))); clear h a; intro a h
    refine cS h rfl (fun c5=>?_) (fun c5=>?_)
    ·refine wp_exit (exit_then (exit_here (norm_then ?_)))
     refine tC h (kR (mv rfl (s_add rfl rfl (by first | exact i6 (by omega) | rfl) (asg rfl (kL [(0, _), (3, _), (4, _), (5, _), (6, _), (7, _), (8, _)] (.c7 rfl rfl rfl rfl rfl rfl rfl) ?_))))); clear h a; intro a h
     refine wnt ?_
     exact ⟨k + 1, h.sub (.c7 rfl rfl rfl rfl rfl (by first | exact congrArg (fun x => some (S x)) (ref_no (fun e => absurd e.1 (by omega))) | exact congrArg (fun x => some (S x)) hres) (by first | rfl | (congr 2; omega))), ⟨by omega, hO, hfl, hs, hf⟩, by omega⟩
    have hmod : L % (k + 1) = 0 := by omega
    obtain ⟨tm, htmE⟩ : ∃ q, q = L / (k + 1) := ⟨_, rfl⟩
    have htm : tm ≤ L := by rw [htmE]; exact Nat.div_le_self _ _
    refine tC h (kZ (kQ (kR (asg rfl (kL [(0, _), (3, _), (4, _), (5, _), (6, _), (7, _), (8, _), (9, _), (11, _)] (.d8 rfl rfl rfl rfl rfl rfl rfl rfl (.cons rfl .nil)) (kE (kQ (kQ (kR (mv rfl (mv rfl (s_add rfl rfl (by first | exact i6 (by omega) | rfl) (asg rfl (kL [(0, _), (3, _), (4, _), (5, _), (6, _), (7, _), (8, _), (9, _), (11, _), (12, _)] (.d8 rfl rfl rfl rfl rfl rfl rfl rfl (.c2 rfl rfl)) (kE (kB ?_)))))))))))))))); clear h a; intro a h
    refine loop (ι := Nat) (fun e => [(0, .slice A xs.length c), (3, .int .i64 (xs.length : Int)), (4, .slice (some ⟨gT, 0, none⟩) N N), (5, .int .i64 (L : Int)), (6, .int .i64 (i : Int)), (7, S (betterS (refTo xs i L k) (bothT xs i L (k + 1)))), (8, .int .i64 ((k : Int) + 1)), (9, S (bT xs i (k + 1))), (11, .int .i64 (if sameB xs i (k + 1) e then 1 else 0)), (12, .int .i64 ((i : Int) + ((k : Int) + 1) + (e : Int)))]) (fun e w' => e ≤ L - (k + 1) ∧ Lw.Own Enc.str 9 w0.heap.size w' (.slice (some ⟨gT, 0, none⟩) N N) tab ∧ Filled xs L i tab ∧ Sl encSt w' (.slice A xs.length c) xs ∧ Fr [] w0 w') (fun e => L - e) 0 (h.sub (.d8 rfl rfl rfl rfl rfl rfl rfl rfl (.c2 rfl (by first | rfl | (congr 2; omega) | congr 2)))) ⟨by omega, hO, hfl, hs, hf⟩ ?_
    clear h a hO hs hf hfl
    rintro e w8 a h ⟨he, hO, hfl, hs, hf⟩
    refine tC h (kQ (kQ (kR (mv rfl (mv rfl (mv rfl (s_add rfl rfl (by first | exact i6 (by omega) | rfl) (lt' rfl rfl (kL [(0, _), (3, _), (4, _), (5, _), (6, _), (7, _), (8, _), (9, _), (11, _), (12, _), (95, _)] (.d8 rfl rfl rfl rfl rfl rfl rfl rfl (.c3 rfl rfl rfl)) (kE ?_)))))))))); clear h a; intro a h
    refine cS h rfl (fun c6=>?_) (fun c6=>?_)
    ·obtain ⟨x, hx⟩ : ∃ x, xs[i + (k + 1) + e]? = some x := ⟨_, List.getElem?_eq_getElem (by omega)⟩
     obtain ⟨y, hy⟩ : ∃ y, xs[i + e]? = some y := ⟨_, List.getElem?_eq_getElem (by omega)⟩
     obtain ⟨xa, hxa, cx⟩ := hA _ x hx
     obtain ⟨ya, hya, cy⟩ := hA _ y hy
     refine tC h (kZ (kQ (kB (kQ ?_)))); clear h a; intro a h
     refine region_quiet hmix (by kernel_rfl) ?_
     refine qt_move h rfl rfl ?_; clear h a; intro a h
     refine qt_move h rfl rfl ?_; clear h a; intro a h
     refine qt_idxS (p := i + (k + 1) + e) h (by rw [hxa]; rfl) rfl el88 (by omega) (by omega) (by omega) rfl ?_; clear h a; intro a h
     refine qt_loadA h rfl (fun _ hw => (cx.fr hf (by simp)).fr hw (by simp)) ag91 rfl ?_; clear h a; intro a h
     refine qt_move h rfl rfl ?_; clear h a; intro a h
     refine qt_move h rfl rfl ?_; clear h a; intro a h
     refine qt_move h rfl rfl ?_; clear h a; intro a h
     refine qt_sub h rfl rfl (by first | exact i6 (by omega) | rfl) rfl ?_; clear h a; intro a h
     refine qt_idxS (p := i + e) h (by rw [hya]; rfl) rfl el88 (by omega) (by omega) (by omega) rfl ?_; clear h a; intro a h
     refine qt_loadA h rfl (fun _ hw => (cy.fr hf (by simp)).fr hw (by simp)) ag91 rfl ?_; clear h a; intro a h
     refine qt_neV (e := x) (f := y) h rfl rfl eqv36 rfl ?_; clear h a; intro a h
     refine wpQuiet_nil ?_
     intro w9 hq
     replace hf := hf.next hq
     replace hO := hO.ext hq
     replace hs := hs.ext hq
     clear hq
     replace h : Ag a 151 [(0, _), (3, _), (4, _), (5, _), (6, _), (7, _), (8, _), (9, _), (11, _), (12, _), (108, _)] := h.sub (.d8 rfl rfl rfl rfl rfl rfl rfl rfl (.c3 rfl rfl rfl))
     refine (norm_then ?_)
     refine cS h rfl (fun c7=>?_) (fun c7=>?_)
     ·refine tC h (kR (asg rfl (kL [(0, _), (3, _), (4, _), (5, _), (6, _), (7, _), (8, _), (9, _), (11, _), (12, _)] (.d8 rfl rfl rfl rfl rfl rfl rfl rfl (.c2 rfl rfl)) ?_))); clear h a; intro a h
      refine wpList_nil (norm_blk (norm_then ?_))
      refine tC h (kR (mv rfl (s_add rfl rfl (by first | exact i6 (by omega) | rfl) (asg rfl (kL [(0, _), (3, _), (4, _), (5, _), (6, _), (7, _), (8, _), (9, _), (11, _), (12, _)] (.d8 rfl rfl rfl rfl rfl rfl rfl rfl (.c2 rfl rfl)) ?_))))); clear h a; intro a h
      refine wnt ?_
      exact ⟨e + 1, h.sub (.d8 rfl rfl rfl rfl rfl rfl rfl rfl (.c2 (by first | (rw [same_yes hx hy (Decidable.not_not.1 c7)]; rfl) | (rw [same_no hx hy c7]; rfl)) (by first | rfl | (congr 2; omega) | congr 2))), ⟨by omega, hO, hfl, hs, hf⟩, by omega⟩
     refine wp_skip (norm_blk (norm_then ?_))
     refine tC h (kR (mv rfl (s_add rfl rfl (by first | exact i6 (by omega) | rfl) (asg rfl (kL [(0, _), (3, _), (4, _), (5, _), (6, _), (7, _), (8, _), (9, _), (11, _), (12, _)] (.d8 rfl rfl rfl rfl rfl rfl rfl rfl (.c2 rfl rfl)) ?_))))); clear h a; intro a h
     refine wnt ?_
     exact ⟨e + 1, h.sub (.d8 rfl rfl rfl rfl rfl rfl rfl rfl (.c2 (by first | (rw [same_yes hx hy (Decidable.not_not.1 c7)]; rfl) | (rw [same_no hx hy c7]; rfl)) (by first | rfl | (congr 2; omega) | congr 2))), ⟨by omega, hO, hfl, hs, hf⟩, by omega⟩
    obtain rfl : e = L - (k + 1) := by omega
    rw [same_reps (by omega) (by omega)] at h
    refine wp_exit (exit_then (exit_then (exit_here (norm_then ?_))))
    refine tC h (kQ (kR (mv rfl (mv rfl ?_)))); clear h a; intro a h
    refine st_quo (z := ((tm : Nat) : Int)) h rfl rfl (by omega) (by rw [IntWalk.i64_quo _ _ (by omega)]; rw [htmE]; exact (Int.natCast_ediv L (k + 1)).symm) rfl ?_; clear h a; intro a h
    refine tW h (asg rfl (kL [(0, _), (3, _), (4, _), (5, _), (6, _), (7, _), (8, _), (9, _), (11, _), (13, _)] (.d8 rfl rfl rfl rfl rfl rfl rfl rfl (.c2 rfl rfl)) (kE (kQ (kR (mv rfl ?_)))))); clear h a; intro a h
    refine st_rem (z := ((tm % 10 : Nat) : Int)) h rfl rfl (by omega) (by rw [IntWalk.rem_in _ _ (by omega)]; omega) rfl ?_; clear h a; intro a h
    refine tW h (s_add rfl rfl (by first | exact i6 (by omega) | rfl) (s_conv rfl (by rw [Tryz.underlying3]; rfl) Tryz.underlying5 (by first | exact IntWalk.u8_in _ (by omega) | rfl) ?_)); clear h a; intro a h
    refine st_bslice ([dg ((tm % 10 : Nat) : Int)]) h (evs_cons rfl evs_nil) rfl (by rw [show (48 : Int) + ((tm % 10 : Nat) : Int) = ((dg ((tm % 10 : Nat) : Int)).toNat : Int) from (dg_val _ (by omega) (by omega)).symm]; rfl) rfl el75 (Nat.le_of_ble_eq_true rfl) ?_; clear h a; intro g_116 w10 hg ho116 hq hz a h
    have hl116 : w0.heap.size ≤ g_116 := by have := hf.size; omega
    replace hf := hf.next hq
    replace hO := hO.ext hq
    replace hs := hs.ext hq
    clear hq hz hg
    refine tW h (s_b2s rfl ho116.sl el75 Tryz.underlying5 Tryz.underlying9 rfl (asg rfl (kL [(0, _), (3, _), (4, _), (5, _), (6, _), (7, _), (8, _), (9, _), (11, _), (13, _), (14, _)] (.d8 rfl rfl rfl rfl rfl rfl rfl rfl (.c3 rfl rfl rfl)) (kE ?_)))); clear h a; intro a h
    refine seq_cut (Cut (ι := Unit) 151 (fun u => [(0, .slice A xs.length c), (3, .int .i64 (xs.length : Int)), (4, .slice (some ⟨gT, 0, none⟩) N N), (5, .int .i64 (L : Int)), (6, .int .i64 (i : Int)), (7, S (betterS (refTo xs i L k) (bothT xs i L (k + 1)))), (8, .int .i64 ((k : Int) + 1)), (9, S (bT xs i (k + 1))), (11, .int .i64 (if repsB xs i L (k + 1) then 1 else 0)), (14, S (itoaS (tm)))]) (fun u w' => Lw.Own Enc.str 9 w0.heap.size w' (.slice (some ⟨gT, 0, none⟩) N N) tab ∧ Filled xs L i tab ∧ Sl encSt w' (.slice A xs.length c) xs ∧ Fr [] w0 w')) ?_ ?_
    ·refine tC h (kQ (kR (mv rfl (gt' rfl rfl (kL [(0, _), (3, _), (4, _), (5, _), (6, _), (7, _), (8, _), (9, _), (11, _), (14, _), (119, _)] (.d8 rfl rfl rfl rfl rfl rfl rfl rfl (.c3 rfl rfl rfl)) (kE ?_)))))); clear h a; intro a h
     refine cS h rfl (fun c8=>?_) (fun c8=>?_)
     ·refine tC h (kR (mv rfl (s_adds rfl rfl (asg rfl (kL [(0, _), (3, _), (4, _), (5, _), (6, _), (7, _), (8, _), (9, _), (11, _), (14, _)] (.d8 rfl rfl rfl rfl rfl rfl rfl rfl (.c2 rfl rfl)) ?_)) (hb := (by simp<;>omega))))); clear h a; intro a h
      refine wnt ?_
      exact ⟨(), h.sub (.d8 rfl rfl rfl rfl rfl rfl rfl rfl (.c2 rfl (by first | exact congrArg (fun x => some (S x)) (itoa_hi _ (by omega) (by omega)) | exact congrArg (fun x => some (S x)) (itoa_lo _ (by omega) (by omega))))), hO, hfl, hs, hf⟩
     refine wsn ?_
     exact ⟨(), h.sub (.d8 rfl rfl rfl rfl rfl rfl rfl rfl (.c2 rfl (by first | exact congrArg (fun x => some (S x)) (itoa_hi _ (by omega) (by omega)) | exact congrArg (fun x => some (S x)) (itoa_lo _ (by omega) (by omega))))), hO, hfl, hs, hf⟩
    clear h a hO hs hf hfl
    rintro a w11 ⟨u, h, ⟨hO, hfl, hs, hf⟩⟩
    refine tC h (kQ (kR (mv rfl (s_adds rfl rfl (s_adds rfl rfl (mv rfl ?_) (hb := (by simp; omega))) (hb := (by simp<;>omega)))))); clear h a; intro a h
    have hit := itoa_len (tm)
    refine st_adds h rfl rfl (by simp; omega) rfl ?_; clear h a; intro a h
    rw [rep_eq] at h
    refine tW h (asg rfl (kL [(0, _), (3, _), (4, _), (5, _), (6, _), (7, _), (8, _), (11, _), (15, _)] (.d8 rfl rfl rfl rfl rfl rfl rfl rfl (.cons rfl .nil)) (kE (kQ ?_)))); clear h a; intro a h
    refine region_bool (r := 134) (L' := [(0, _), (3, _), (4, _), (5, _), (6, _), (7, _), (8, _), (15, _)]) (repsB xs i L (k + 1) = true ∧ lessP (repT (bT xs i (k + 1)) (tm)) (betterS (refTo xs i L k) (bothT xs i L (k + 1)))) h (.c8 rfl rfl rfl rfl rfl rfl rfl rfl) ?_ ?_
    ·refine tW h (mv rfl (eq' rfl rfl (mv rfl ?_))); clear h a; intro a h
     refine gSp (D := 129) h rfl ?_ ?_
     ·clear h; intro g1 h
      refine tW h (kY rfl (mv rfl (kY rfl (mv rfl ?_)))); clear h a; intro a h
      refine gd_yes h rfl rfl rfl rfl rfl rfl ?_
      refine st_call h (evs_cons rfl (evs_cons rfl evs_nil)) co99 (less_ok _ _ _) ?_; clear h a; rintro _ _ ⟨rfl, rfl⟩ a h
      refine tW h (kY rfl (eq' rfl rfl (pkt rfl rfl ?_))); clear h a; intro a h
      exact wpList_nil (bool_end h rfl (by first | exact bi (by constructor; intro e; split at e; exact ⟨by split at g1; assumption; omega, by assumption⟩; omega; rintro ⟨_, e⟩; rw [if_pos e]) | exact bf (fun e => by rw [if_pos e.1] at g1; exact g1 rfl)) (.c8 rfl rfl rfl rfl rfl rfl rfl rfl))
     clear h; intro g1 h
     refine tW h (kN rfl rfl (kN rfl rfl (kN rfl rfl (kN rfl rfl (pkf rfl rfl ?_))))); clear h a; intro a h
     exact wpList_nil (bool_end h rfl (by first | exact bi (by constructor; intro e; split at e; exact ⟨by split at g1; assumption; omega, by assumption⟩; omega; rintro ⟨_, e⟩; rw [if_pos e]) | exact bf (fun e => by rw [if_pos e.1] at g1; exact g1 rfl)) (.c8 rfl rfl rfl rfl rfl rfl rfl rfl))
    clear h a; intro a h
    refine (norm_then ?_)
    refine cS h rfl (fun c9=>?_) (fun c9=>?_)
    ·have hres := ref_yes (i := i) hmod c9.1
     rw [← htmE] at hres
     rw [better_pos (rep_ne _ _) (.inr c9.2)] at hres
     refine tC h (kR (mv rfl (asg rfl (kL [(0, _), (3, _), (4, _), (5, _), (6, _), (7, _), (8, _)] (.c7 rfl rfl rfl rfl rfl rfl rfl) ?_)))); clear h a; intro a h
     refine wpList_nil (norm_blk (norm_then ?_))
     refine tC h (kR (mv rfl (s_add rfl rfl (by first | exact i6 (by omega) | rfl) (asg rfl (kL [(0, _), (3, _), (4, _), (5, _), (6, _), (7, _), (8, _)] (.c7 rfl rfl rfl rfl rfl rfl rfl) ?_))))); clear h a; intro a h
     refine wnt ?_
     exact ⟨k + 1, h.sub (.c7 rfl rfl rfl rfl rfl (by first | exact congrArg (fun x => some (S x)) (ref_no (fun e => absurd e.1 (by omega))) | exact congrArg (fun x => some (S x)) hres) (by first | rfl | (congr 2; omega))), ⟨by omega, hO, hfl, hs, hf⟩, by omega⟩
    have hres : betterS (refTo xs i L k) (bothT xs i L (k + 1)) = refTo xs i L (k + 1) := by
     by_cases hr : repsB xs i L (k + 1) = true
     ·rw [← ref_yes hmod hr, ← htmE, better_neg (fun e => e.elim (both_ne _ _ _ _ _) (fun e => c9 ⟨hr, e⟩))]
     exact ref_no (fun e => hr e.2)
    refine wp_skip (norm_blk (norm_then ?_))
    refine tC h (kR (mv rfl (s_add rfl rfl (by first | exact i6 (by omega) | rfl) (asg rfl (kL [(0, _), (3, _), (4, _), (5, _), (6, _), (7, _), (8, _)] (.c7 rfl rfl rfl rfl rfl rfl rfl) ?_))))); clear h a; intro a h
    refine wnt ?_
    exact ⟨k + 1, h.sub (.c7 rfl rfl rfl rfl rfl (by first | exact congrArg (fun x => some (S x)) (ref_no (fun e => absurd e.1 (by omega))) | exact congrArg (fun x => some (S x)) hres) (by first | rfl | (congr 2; omega))), ⟨by omega, hO, hfl, hs, hf⟩, by omega⟩
   obtain rfl : k = L - 1 := by omega
   rw [ref_done hok hm (by omega) hL1] at h
   refine wp_exit (exit_then (exit_then (exit_here (norm_then ?_))))
   refine tC h (kR (mv rfl (mv rfl (mv rfl (s_add rfl rfl (by first | exact i6 (by omega) | rfl) ?_))))); clear h a; intro a h
   refine st_mul (z := ((i * (xs.length + 1) : Nat) : Int)) h rfl rfl (by rw [show ((i : Int)) * ((xs.length : Int) + 1) = ((i * (xs.length + 1) : Nat) : Int) by push_cast; rfl]; exact IntWalk.i64_in _ (by have : i * (xs.length + 1) ≤ 16 * 17 := Nat.mul_le_mul (show i ≤ 16 by omega) (show xs.length + 1 ≤ 17 by omega); omega)) rfl ?_; clear h a; intro a h
   refine tW h (mv rfl (s_add rfl rfl (by first | exact i6 (by omega) | rfl) (mv rfl (s_add rfl rfl (by first | exact i6 (by omega) | rfl) (mv rfl (s_idxS (p := i * (xs.length + 1) + i + L) rfl rfl el67 ?_)))))); clear h a; intro a h
   refine st_storeO (bT xs i L) h rfl rfl hO (by have := hfl.1; have := idx_lt (n := xs.length) (a := i) (m := L) (by omega); omega) rfl sz9 ?_; clear h a; intro w12 hO2 hq hz a h
   replace hO := hO2
   replace hfl := fill_set (by omega) hfl
   replace hs := hs.fr hq (by intro k hk hb; have := hrb k hb; simp at hk; omega)
   replace hf := hf.step hq (by simp; omega)
   clear hq hz hO2
   replace h : Ag a 151 [(0, _), (3, _), (4, _), (5, _), (6, _)] := h.sub (.c5 rfl rfl rfl rfl rfl)
   refine wpList_nil (norm_blk (norm_then ?_))
   refine tC h (kR (mv rfl (s_add rfl rfl (by first | exact i6 (by omega) | rfl) (asg rfl (kL [(0, _), (3, _), (4, _), (5, _), (6, _)] (.c5 rfl rfl rfl rfl rfl) ?_))))); clear h a; intro a h
   refine wnt ?_
   exact ⟨(i + 1, _), h.sub (.c5 rfl rfl rfl rfl rfl), ⟨by simp only; omega, hO, hfl, hs, hf⟩, by simp only; omega⟩
  refine wp_exit (exit_then (exit_then (exit_here (norm_blk (norm_then ?_)))))
  refine tC h (kR (mv rfl (s_add rfl rfl (by first | exact i6 (by omega) | rfl) (asg rfl (kL [(0, _), (3, _), (4, _), (5, _)] (.c4 rfl rfl rfl rfl) ?_))))); clear h a; intro a h
  refine wnt ?_
  exact ⟨(L + 1, tab), h.sub (.c4 rfl rfl rfl rfl), ⟨by simp only; omega, by simp only; omega, hO, fill_next (by omega) hfl, hs, hf⟩, by simp only; omega⟩
 obtain rfl : L = xs.length + 1 := by omega
 refine wp_exit (exit_then (exit_then (exit_here (norm_then ?_))))
 refine tC h (kQ (kR (mv rfl (mv rfl ?_)))); clear h a; intro a h
 refine st_idx (p := 0 * (xs.length + 1) + 0 + xs.length) h rfl rfl hO.sl el67 (by omega) (hfl.2 0 xs.length (by omega) (by omega) (by omega)) rfl ?_; clear h a; intro ad cc a h
 refine tW h (s_loadC0 rfl cc na9 (asg rfl (kL [(2, _)] (.cons rfl .nil) (kE ?_)))); clear h a; intro a h
 refine wp_ret (ret1 h Tryz.results65 rfl ?_)
 exact ⟨_, rfl, rfl, hf⟩
end Go.Proofs.YthehggmdcmpjeaaGreatDoor
namespace Go.Proofs.YthehggmdcmpjeaaGreatDoor
open Go.Lw Go.G14
theorem co92 : CallOf Tryz.prog 92 := mkC Tryz.func92
theorem co115 : CallOf Tryz.prog 115 := mkC Tryz.func115
theorem el33 : ElemOf Tryz.prog 33 3 Enc.i64 8 := ElemOf.mk' (z := (.int .i64 0)) Tryz.underlying33 (by kernel_rfl) rfl
theorem refneeds_ok (s : Stitch) (w0 : World) (hk : 0 ≤ s.k) (hy : 0 ≤ s.y) : Rets Tryz.prog 92 #[stV s] w0 fun v w' => v = .int .i64 (needsS s) ∧ Fr [] w0 w' := by
 refine enter [(0, stV s)] Tryz.func92 rfl Tryz.ntmps92 rfl (.cons rfl .nil) ?_
 have hf := Fr.refl [] w0
 intro a h
 refine tC h (kQ (kR ?_)); clear h a; intro a h
 refine st_box h rfl rfl ?_; clear h a; intro w1 hb1 hq hz a h
 obtain ⟨g_1, hg⟩ : ∃ g, g = w0.heap.size := ⟨_, rfl⟩; rw [← hg] at hb1 h hz
 have hl1 : w0.heap.size ≤ g_1 := by have := hf.size; omega
 replace hf := hf.next hq
 clear hq hz hg
 refine tW h (asg rfl (kL [(1, _)] (.cons rfl .nil) (kE (kQ (kQ (kR (s_loadBA rfl hb1 ag91 ?_))))))); clear h a; intro a h
 refine st_call h (evs_cons rfl evs_nil) co75 (valid_ok s _ hk hy) ?_; clear h a; rintro _ w2 ⟨rfl, hq⟩ a h
 replace hf := hf.next hq
 replace hb1 := hb1.ext hq
 clear hq
 refine tW h (eq' rfl rfl (mv rfl ?_)); clear h a; intro a h
 refine gSp (D := 6) h rfl ?_ ?_
 ·clear h; intro g0 h
  refine tW h (kN rfl rfl (kN rfl rfl (kN rfl rfl (pkt rfl rfl (kL [(1, _), (10, _)] (.c2 rfl rfl) ?_))))); clear h a; intro a h
  refine wnt ?_
  refine cond_true h rfl ?_
  refine tC h (kQ (kR (asg rfl (kL [(2, _)] (.cons rfl .nil) (kE ?_))))); clear h a; intro a h
  refine wp_ret (ret_then (ret1 h Tryz.results92 rfl ?_))
  exact ⟨_, rfl, by first | rw [needs_0 (.inl (fun e => by rw [if_pos e] at g0; omega))] | rw [needs_0 (.inr c0)] | rw [needs_8 hc c1] | rw [needs_2 hc (by omega)] | rw [needs_1 hc (by omega) (by omega) (by omega)], hf⟩
 clear h; intro g0 h
 refine tW h (kY rfl (fad rfl fa91_0 (kY rfl (s_loadB rfl hb1 rfl na89 (kY rfl (eq' rfl rfl (pkf rfl rfl (kL [(1, _), (10, _)] (.c2 rfl rfl) (kE ?_))))))))); clear h a; intro a h
 refine cS h rfl (fun c0=>?_) (fun c0=>?_)
 ·refine tC h (kQ (kR (asg rfl (kL [(2, _)] (.cons rfl .nil) (kE ?_))))); clear h a; intro a h
  refine wp_ret (ret_then (ret1 h Tryz.results92 rfl ?_))
  exact ⟨_, rfl, by first | rw [needs_0 (.inl (fun e => by rw [if_pos e] at g0; omega))] | rw [needs_0 (.inr c0)] | rw [needs_8 hc c1] | rw [needs_2 hc (by omega)] | rw [needs_1 hc (by omega) (by omega) (by omega)], hf⟩
 have hc : checkS s = 0 := Decidable.not_not.1 fun e => g0 (if_neg e)
 refine tC h (kZ (kQ (kQ (kR (fad rfl fa91_0 (s_loadB rfl hb1 rfl na89 (eq' rfl rfl (kL [(1, _), (13, _)] (.c2 rfl rfl) (kE ?_))))))))); clear h a; intro a h
 refine cS h rfl (fun c1=>?_) (fun c1=>?_)
 ·have h8 := (check_rng hc).2.2.2.2.2 c1
  refine tC h (kQ (kR (fad rfl fa91_2 (s_loadB rfl hb1 rfl na3 (fad rfl fa91_3 (s_loadB rfl hb1 rfl na3 (s_add rfl rfl (by first | exact i6 (by omega) | rfl) (asg rfl (kL [(2, _)] (.cons rfl .nil) (kE ?_)))))))))); clear h a; intro a h
  refine wp_ret (ret_then (ret1 h Tryz.results92 rfl ?_))
  exact ⟨_, rfl, by first | rw [needs_0 (.inl (fun e => by rw [if_pos e] at g0; omega))] | rw [needs_0 (.inr c0)] | rw [needs_8 hc c1] | rw [needs_2 hc (by omega)] | rw [needs_1 hc (by omega) (by omega) (by omega)], hf⟩
 refine tC h (kZ (kQ (kQ (kR (fad rfl fa91_0 (s_loadB rfl hb1 rfl na89 (eq' rfl rfl (mv rfl ?_)))))))); clear h a; intro a h
 refine gSp (D := 22) h rfl ?_ ?_
 ·clear h; intro g1 h
  refine tW h (kN rfl rfl (kN rfl rfl (kN rfl rfl (pkt rfl rfl (kL [(26, _)] (.cons rfl .nil) ?_))))); clear h a; intro a h
  refine wnt ?_
  refine cond_true h rfl ?_
  refine tC h (kQ (kR (asg rfl (kL [(2, _)] (.cons rfl .nil) (kE ?_))))); clear h a; intro a h
  refine wp_ret (ret_then (ret1 h Tryz.results92 rfl ?_))
  exact ⟨_, rfl, by first | rw [needs_0 (.inl (fun e => by rw [if_pos e] at g0; omega))] | rw [needs_0 (.inr c0)] | rw [needs_8 hc c1] | rw [needs_2 hc (by omega)] | rw [needs_1 hc (by omega) (by omega) (by omega)], hf⟩
 clear h; intro g1 h
 refine tW h (kY rfl (fad rfl fa91_0 (kY rfl (s_loadB rfl hb1 rfl na89 (kY rfl (eq' rfl rfl (pkf rfl rfl (kL [(26, _)] (.cons rfl .nil) (kE ?_))))))))); clear h a; intro a h
 refine cS h rfl (fun c2=>?_) (fun c2=>?_)
 ·refine tC h (kQ (kR (asg rfl (kL [(2, _)] (.cons rfl .nil) (kE ?_))))); clear h a; intro a h
  refine wp_ret (ret_then (ret1 h Tryz.results92 rfl ?_))
  exact ⟨_, rfl, by first | rw [needs_0 (.inl (fun e => by rw [if_pos e] at g0; omega))] | rw [needs_0 (.inr c0)] | rw [needs_8 hc c1] | rw [needs_2 hc (by omega)] | rw [needs_1 hc (by omega) (by omega) (by omega)], hf⟩
 refine tC h (kZ (kQ (kR (asg rfl (kL [(2, _)] (.cons rfl .nil) (kE ?_)))))); clear h a; intro a h
 refine wp_ret (ret1 h Tryz.results92 rfl ?_)
 exact ⟨_, rfl, by first | rw [needs_0 (.inl (fun e => by rw [if_pos e] at g0; omega))] | rw [needs_0 (.inr c0)] | rw [needs_8 hc c1] | rw [needs_2 hc (by omega)] | rw [needs_1 hc (by omega) (by omega) (by omega)], hf⟩
theorem refmakes_ok (s : Stitch) (w0 : World) (hk : 0 ≤ s.k) (hy : 0 ≤ s.y) : Rets Tryz.prog 115 #[stV s] w0 fun v w' => v = .int .i64 (makesS s) ∧ Fr [] w0 w' := by
 refine enter [(0, stV s)] Tryz.func115 rfl Tryz.ntmps115 rfl (.cons rfl .nil) ?_
 have hf := Fr.refl [] w0
 intro a h
 refine tC h (kQ (kR ?_)); clear h a; intro a h
 refine st_box h rfl rfl ?_; clear h a; intro w1 hb1 hq hz a h
 obtain ⟨g_1, hg⟩ : ∃ g, g = w0.heap.size := ⟨_, rfl⟩; rw [← hg] at hb1 h hz
 have hl1 : w0.heap.size ≤ g_1 := by have := hf.size; omega
 replace hf := hf.next hq
 clear hq hz hg
 refine tW h (asg rfl (kL [(1, _)] (.cons rfl .nil) (kE (kQ (kQ (kR (s_loadBA rfl hb1 ag91 ?_))))))); clear h a; intro a h
 refine st_call h (evs_cons rfl evs_nil) co75 (valid_ok s _ hk hy) ?_; clear h a; rintro _ w2 ⟨rfl, hq⟩ a h
 replace hf := hf.next hq
 replace hb1 := hb1.ext hq
 clear hq
 refine tW h (eq' rfl rfl (kL [(1, _), (5, _)] (.c2 rfl rfl) (kE ?_))); clear h a; intro a h
 refine cS h rfl (fun c0=>?_) (fun c0=>?_)
 ·have hc : checkS s ≠ 0 := fun e => by rw [if_pos e] at c0; omega
  refine tC h (kQ (kR (asg rfl (kL [(2, _)] (.cons rfl .nil) (kE ?_))))); clear h a; intro a h
  refine wp_ret (ret_then (ret1 h Tryz.results115 rfl ?_))
  exact ⟨_, rfl, by first | rw [makes_0 hc] | rw [makes_8 hc c1] | rw [makes_1 hc c1], hf⟩
 have hc : checkS s = 0 := Decidable.not_not.1 fun e => c0 (if_neg e)
 refine tC h (kZ (kQ (kQ (kR (fad rfl fa91_0 (s_loadB rfl hb1 rfl na89 (eq' rfl rfl (kL [(1, _), (8, _)] (.c2 rfl rfl) (kE ?_))))))))); clear h a; intro a h
 refine cS h rfl (fun c1=>?_) (fun c1=>?_)
 ·have h8 := (check_rng hc).2.2.2.2.2 c1
  refine tC h (kQ (kR (fad rfl fa91_2 (s_loadB rfl hb1 rfl na3 (fad rfl fa91_3 (s_loadB rfl hb1 rfl na3 (s_add rfl rfl (by first | exact i6 (by omega) | rfl) (asg rfl (kL [(2, _)] (.cons rfl .nil) (kE ?_)))))))))); clear h a; intro a h
  refine wp_ret (ret_then (ret1 h Tryz.results115 rfl ?_))
  exact ⟨_, rfl, by first | rw [makes_0 hc] | rw [makes_8 hc c1] | rw [makes_1 hc c1], hf⟩
 refine tC h (kZ (kQ (kR (asg rfl (kL [(2, _)] (.cons rfl .nil) (kE ?_)))))); clear h a; intro a h
 refine wp_ret (ret1 h Tryz.results115 rfl ?_)
 exact ⟨_, rfl, by first | rw [makes_0 hc] | rw [makes_8 hc c1] | rw [makes_1 hc c1], hf⟩
theorem refloads_ok (s : Stitch) (u : Value) (l : List Int) (w0 : World) (hk : 0 ≤ s.k) (hy : 0 ≤ s.y) (hu : Sl Enc.i64 w0 u l) : Rets Tryz.prog 93 #[stV s, u] w0 fun v w' => ∃ r, v = .tuple #[r, .int .i64 (loadsS s l).2] ∧ Lw.Own Enc.i64 3 w0.heap.size w' r (loadsS s l).1 ∧ Fr [] w0 w' := by
 obtain ⟨A, c, rfl, hcp⟩ := hu.form
 obtain ⟨-, -, hM, hA⟩ := Sl.open_ hu
 unfold maxLen at hM
 have hmk := makes_rng s
 refine enter [(0, stV s), (1, .slice A l.length c)] Tryz.func93 rfl Tryz.ntmps93 rfl (.c2 rfl rfl) ?_
 have hf := Fr.refl [] w0
 intro a h
 refine tC h (kQ (kR ?_)); clear h a; intro a h
 refine st_box h rfl rfl ?_; clear h a; intro w1 hb2 hq hz a h
 obtain ⟨g_2, hg⟩ : ∃ g, g = w0.heap.size := ⟨_, rfl⟩; rw [← hg] at hb2 h hz
 have hl2 : w0.heap.size ≤ g_2 := by have := hf.size; omega
 replace hf := hf.next hq
 clear hq hz hg
 refine tW h (asg rfl (asg rfl (kL [(1, _), (2, _)] (.c2 rfl rfl) (kE (kQ (kQ (kR (s_loadBA rfl hb2 ag91 ?_)))))))); clear h a; intro a h
 refine st_call h (evs_cons rfl evs_nil) co75 (valid_ok s _ hk hy) ?_; clear h a; rintro _ w2 ⟨rfl, hq⟩ a h
 replace hf := hf.next hq
 replace hb2 := hb2.ext hq
 clear hq
 refine tW h (eq' rfl rfl (kL [(1, _), (2, _), (11, _)] (.c3 rfl rfl rfl) (kE ?_))); clear h a; intro a h
 refine cS h rfl (fun c0=>?_) (fun c0=>?_)
 ·have hc : checkS s ≠ 0 := fun e => by rw [if_pos e] at c0; omega
  refine tC h (kQ (kR (asg rfl (asg rfl (kL [(4, _), (5, _)] (.c2 rfl rfl) (kE ?_)))))); clear h a; intro a h
  refine wp_ret (ret_then (ret2 h Tryz.results93 rfl rfl ?_))
  rw [loads_1 hc]; exact ⟨_, rfl, _, rfl, Own.nil _, hf⟩
 have hc : checkS s = 0 := Decidable.not_not.1 fun e => c0 (if_neg e)
 refine tC h (kZ (kQ (kQ (kR (mv rfl (lnS rfl Tryz.underlying33 (s_loadBA rfl hb2 ag91 ?_))))))); clear h a; intro a h
 refine st_call h (evs_cons rfl evs_nil) co92 (refneeds_ok s _ hk hy) ?_; clear h a; rintro _ w3 ⟨rfl, hq⟩ a h
 replace hf := hf.next hq
 replace hb2 := hb2.ext hq
 clear hq
 refine tW h (ne' rfl rfl (kL [(1, _), (2, _), (16, _)] (.c3 rfl rfl rfl) (kE ?_))); clear h a; intro a h
 refine cS h rfl (fun c1=>?_) (fun c1=>?_)
 ·refine tC h (kQ (kR (asg rfl (asg rfl (kL [(4, _), (5, _)] (.c2 rfl rfl) (kE ?_)))))); clear h a; intro a h
  refine wp_ret (ret_then (ret2 h Tryz.results93 rfl rfl ?_))
  rw [loads_5 hc c1]; exact ⟨_, rfl, _, rfl, Own.nil _, hf⟩
 have hn : (l.length : Int) = needsS s := Decidable.not_not.1 c1
 refine tC h (kZ (kQ (kQ (kR (asg rfl (kL [(1, _), (2, _), (6, _)] (.c3 rfl rfl rfl) (kE (kB ?_)))))))); clear h a; intro a h
 refine loop (ι := Nat) (fun k => [(1, .slice A l.length c), (2, .pointer (some ⟨g_2, 0, none⟩)), (6, .int .i64 (k : Int))]) (fun k w' => k ≤ l.length ∧ (l.take k).all few = true ∧ Blk w' g_2 91 [.int .u8 s.k, .int .u8 s.y, .int .i64 s.a, .int .i64 s.b, .bool s.f] ∧ Fr [] w0 w') (fun k => l.length - k) 0 (h.sub (.c3 rfl rfl rfl)) ⟨by omega, rfl, hb2, hf⟩ ?_
 clear h a hb2 hf
 rintro k w4 a h ⟨hkl, ha, hb2, hf⟩
 refine tC h (kQ (kQ (kR (mv rfl (mv rfl (lnS rfl Tryz.underlying33 (lt' rfl rfl (kL [(1, _), (2, _), (6, _), (20, _)] (.c4 rfl rfl rfl rfl) (kE ?_))))))))); clear h a; intro a h
 refine cS h rfl (fun c2=>?_) (fun c2=>?_)
 ·obtain ⟨x, hxx⟩ : ∃ x, l[k]? = some x := ⟨_, List.getElem?_eq_getElem (by omega)⟩
  obtain ⟨ad, hAx, ca⟩ := hA _ x hxx
  refine tC h (kZ (kQ (kB (kQ ?_)))); clear h a; intro a h
  refine region_bool (r := 41) (L' := [(1, _), (2, _), (6, _)]) (¬ (1 ≤ x ∧ x ≤ 3)) h (.c3 rfl rfl rfl) ?_ ?_
  ·refine tW h (mv rfl (mv rfl (s_idxS (by rw [hAx]; rfl) rfl el33 (s_loadC0 rfl (ca.fr hf (by simp)) na3 (ne' rfl rfl (mv rfl ?_))) (hp := rfl)))); clear h a; intro a h
   refine gSp (D := 28) h rfl ?_ ?_
   ·clear h; intro g0 h
    refine tW h (kY rfl (mv rfl (kY rfl (mv rfl (kY rfl (s_idxS (by rw [hAx]; rfl) rfl el33 (kY rfl (s_loadC0 rfl (ca.fr hf (by simp)) na3 (kY rfl (ne' rfl rfl (pkt rfl rfl (mv rfl ?_)))))) (hp := rfl))))))); clear h a; intro a h
    refine gSp (D := 35) h rfl ?_ ?_
    ·clear h; intro g1 h
     refine tW h (kY rfl (mv rfl (kY rfl (mv rfl (kY rfl (s_idxS (by rw [hAx]; rfl) rfl el33 (kY rfl (s_loadC0 rfl (ca.fr hf (by simp)) na3 (kY rfl (ne' rfl rfl (pkt rfl rfl ?_))))) (hp := rfl))))))); clear h a; intro a h
     exact wpList_nil (bool_end h rfl (by first | exact bt (by omega) | exact bf (by omega) | exact bi (by omega) | exact bn (by omega)) (.c3 rfl rfl rfl))
    clear h; intro g1 h
    refine tW h (kN rfl rfl (kN rfl rfl (kN rfl rfl (kN rfl rfl (kN rfl rfl (pkf rfl rfl ?_)))))); clear h a; intro a h
    exact wpList_nil (bool_end h rfl (by first | exact bt (by omega) | exact bf (by omega) | exact bi (by omega) | exact bn (by omega)) (.c3 rfl rfl rfl))
   clear h; intro g0 h
   refine tW h (kN rfl rfl (kN rfl rfl (kN rfl rfl (kN rfl rfl (kN rfl rfl (pkf rfl rfl (mv rfl (kN rfl rfl (kN rfl rfl (kN rfl rfl (kN rfl rfl (kN rfl rfl (pkf rfl rfl ?_))))))))))))); clear h a; intro a h
   exact wpList_nil (bool_end h rfl (by first | exact bt (by omega) | exact bf (by omega) | exact bi (by omega) | exact bn (by omega)) (.c3 rfl rfl rfl))
  clear h a; intro a h
  refine (norm_then ?_)
  refine cS h rfl (fun c3=>?_) (fun c3=>?_)
  ·refine tC h (kQ (kR (asg rfl (asg rfl (kL [(4, _), (5, _)] (.c2 rfl rfl) (kE ?_)))))); clear h a; intro a h
   refine wp_ret (ret_blk (ret_then (ret_then (ret_blk (ret_then ?_)))))
   refine ret2 h Tryz.results93 rfl rfl ?_
   rw [loads_b hc hn hxx c3]; exact ⟨_, rfl, _, rfl, Own.nil _, hf⟩
  refine wp_skip (norm_blk (norm_then ?_))
  refine tC h (kR (mv rfl (s_add rfl rfl (by first | exact i6 (by omega) | rfl) (asg rfl (kL [(1, _), (2, _), (6, _)] (.c3 rfl rfl rfl) ?_))))); clear h a; intro a h
  refine wnt ?_
  exact ⟨k + 1, h.sub (.c3 rfl rfl rfl), ⟨by omega, all_few_next ha hxx (by omega), hb2, hf⟩, by omega⟩
 obtain rfl : k = l.length := by omega
 rw [List.take_length] at ha
 refine wp_exit (exit_then (exit_then (exit_here (norm_then ?_))))
 refine tC h (kQ (kQ ?_)); clear h a; intro a h
 refine region_bool (r := 49) (L' := [(1, _), (2, _)]) (s.k = 4 ∨ s.k = 5) h (.c2 rfl rfl) ?_ ?_
 ·refine tW h (fad rfl fa91_0 (s_loadB rfl hb2 rfl na89 (eq' rfl rfl (mv rfl ?_)))); clear h a; intro a h
  refine gSp (D := 45) h rfl ?_ ?_
  ·clear h; intro g2 h
   refine tW h (kN rfl rfl (kN rfl rfl (kN rfl rfl (pkt rfl rfl ?_)))); clear h a; intro a h
   exact wpList_nil (bool_end h rfl (by first | exact bt (by omega) | exact bf (by omega) | exact bi (by omega) | exact bn (by omega)) (.c2 rfl rfl))
  clear h; intro g2 h
  refine tW h (kY rfl (fad rfl fa91_0 (kY rfl (s_loadB rfl hb2 rfl na89 (kY rfl (eq' rfl rfl (pkf rfl rfl ?_))))))); clear h a; intro a h
  exact wpList_nil (bool_end h rfl (by first | exact bt (by omega) | exact bf (by omega) | exact bi (by omega) | exact bn (by omega)) (.c2 rfl rfl))
 clear h a; intro a h
 refine (norm_then ?_)
 refine cS h rfl (fun c4=>?_) (fun c4=>?_)
 ·have h4 : s.k = 4 ∨ s.k = 5 := by omega
  have hn2 := needs_2 hc h4
  obtain ⟨x, hxx⟩ : ∃ x, l[0]? = some x := ⟨_, List.getElem?_eq_getElem (by omega)⟩
  obtain ⟨ad, hAx, ca⟩ := hA _ x hxx
  obtain ⟨y, hxy⟩ : ∃ x, l[1]? = some x := ⟨_, List.getElem?_eq_getElem (by omega)⟩
  obtain ⟨bd, hAy, cb⟩ := hA _ y hxy
  have hfx := (few_iff x).1 (List.all_eq_true.1 ha x (List.mem_of_getElem? hxx))
  have hfy := (few_iff y).1 (List.all_eq_true.1 ha y (List.mem_of_getElem? hxy))
  refine tC h (kQ (kQ ?_)); clear h a; intro a h
  refine region_quiet hmix (by kernel_rfl) ?_
  refine qt_move h rfl rfl ?_; clear h a; intro a h
  refine qt_idxS (p := 0) h (by rw [hAx]; rfl) rfl el33 (by omega) (by omega) (by omega) rfl ?_; clear h a; intro a h
  refine qt_loadC0 h rfl (fun _ hw => (ca.fr hf (by simp)).fr hw (by simp)) na3 rfl ?_; clear h a; intro a h
  refine qt_move h rfl rfl ?_; clear h a; intro a h
  refine qt_idxS (p := 1) h (by rw [hAy]; rfl) rfl el33 (by omega) (by omega) (by omega) rfl ?_; clear h a; intro a h
  refine qt_loadC0 h rfl (fun _ hw => (cb.fr hf (by simp)).fr hw (by simp)) na3 rfl ?_; clear h a; intro a h
  refine qt_add h rfl rfl (by first | exact i6 (by omega) | rfl) rfl ?_; clear h a; intro a h
  refine qt_gt h rfl rfl rfl ?_; clear h a; intro a h
  refine wpQuiet_nil ?_
  intro w5 hq
  replace hf := hf.next hq
  replace hb2 := hb2.ext hq
  clear hq
  replace h : Ag a 88 [(57, _)] := h.sub (.cons rfl .nil)
  refine (norm_then ?_)
  refine cS h rfl (fun c5=>?_) (fun c5=>?_)
  ·refine tC h (kQ (kR (asg rfl (asg rfl (kL [(4, _), (5, _)] (.c2 rfl rfl) (kE ?_)))))); clear h a; intro a h
   refine wp_ret (ret_then (ret_then ?_))
   refine ret2 h Tryz.results93 rfl rfl ?_
   rw [loads_2f hc hn ha h4 hxx hxy c5]; exact ⟨_, rfl, _, rfl, Own.nil _, hf⟩
  refine tC h (kZ (kQ (kR ?_))); clear h a; intro a h
  refine st_bslice [(1 : Int)] h (evs_cons rfl evs_nil) rfl rfl rfl el33 (by decide) ?_; clear h a; intro gN w6 hg hoN hq hz a h
  have hlN : w0.heap.size ≤ gN := by have := hf.size; omega
  replace hf := hf.next hq
  replace hb2 := hb2.ext hq
  clear hq hz hg
  refine tW h (asg rfl (asg rfl (kL [(4, _), (5, _)] (.c2 rfl rfl) (kE ?_)))); clear h a; intro a h
  refine wp_ret (ret_then (ret2 h Tryz.results93 rfl rfl ?_))
  rw [loads_2 hc hn ha h4 hxx hxy c5]; exact ⟨_, rfl, _, rfl, hoN.low hlN, hf⟩
 have h4 : ¬ (s.k = 4 ∨ s.k = 5) := by omega
 refine tC h (kZ (kQ (kQ (kR (fad rfl fa91_0 (s_loadB rfl hb2 rfl na89 (eq' rfl rfl (kL [(1, _), (2, _), (61, _)] (.c3 rfl rfl rfl) (kE ?_))))))))); clear h a; intro a h
 refine cS h rfl (fun c6=>?_) (fun c6=>?_)
 ·have hn1 := needs_1 hc (by omega) (by omega) h4
  obtain ⟨x, hxx⟩ : ∃ x, l[0]? = some x := ⟨_, List.getElem?_eq_getElem (by omega)⟩
  obtain ⟨ad, hAx, ca⟩ := hA _ x hxx
  have hfx := (few_iff x).1 (List.all_eq_true.1 ha x (List.mem_of_getElem? hxx))
  refine tC h (kQ (kQ (kR (mv rfl (s_idxS (p := 0) (by rw [hAx]; rfl) rfl el33 (s_loadC0 rfl (ca.fr hf (by simp)) na3 (eq' rfl rfl (kL [(1, _), (65, _)] (.c2 rfl rfl) (kE ?_))))))))); clear h a; intro a h
  refine cS h rfl (fun c7=>?_) (fun c7=>?_)
  ·refine tC h (kQ (kR (asg rfl (asg rfl (kL [(4, _), (5, _)] (.c2 rfl rfl) (kE ?_)))))); clear h a; intro a h
   refine wp_ret (ret_then (ret_then ?_))
   refine ret2 h Tryz.results93 rfl rfl ?_
   rw [loads_6f hc hn ha c6 hxx c7]; exact ⟨_, rfl, _, rfl, Own.nil _, hf⟩
  refine tC h (kZ (kQ (kR (mv rfl (s_idxS (p := 0) (by rw [hAx]; rfl) rfl el33 (s_loadC0 rfl (ca.fr hf (by simp)) na3 (s_add rfl rfl (by first | exact i6 (by omega) | rfl) ?_))))))); clear h a; intro a h
  refine st_bslice [x + 1] h (evs_cons rfl evs_nil) rfl rfl rfl el33 (by decide) ?_; clear h a; intro gN w7 hg hoN hq hz a h
  have hlN : w0.heap.size ≤ gN := by have := hf.size; omega
  replace hf := hf.next hq
  replace hb2 := hb2.ext hq
  clear hq hz hg
  refine tW h (asg rfl (asg rfl (kL [(4, _), (5, _)] (.c2 rfl rfl) (kE ?_)))); clear h a; intro a h
  refine wp_ret (ret_then (ret2 h Tryz.results93 rfl rfl ?_))
  rw [loads_6 hc hn ha c6 hxx c7]; exact ⟨_, rfl, _, rfl, hoN.low hlN, hf⟩
 refine tC h (kZ (kQ (kQ (kR (fad rfl fa91_0 (s_loadB rfl hb2 rfl na89 (eq' rfl rfl (kL [(1, _), (2, _), (73, _)] (.c3 rfl rfl rfl) (kE ?_))))))))); clear h a; intro a h
 refine cS h rfl (fun c8=>?_) (fun c8=>?_)
 ·have hn1 := needs_1 hc (by omega) (by omega) h4
  obtain ⟨x, hxx⟩ : ∃ x, l[0]? = some x := ⟨_, List.getElem?_eq_getElem (by omega)⟩
  obtain ⟨ad, hAx, ca⟩ := hA _ x hxx
  refine tC h (kQ (kR (mv rfl (s_idxS (p := 0) (by rw [hAx]; rfl) rfl el33 (s_loadC0 rfl (ca.fr hf (by simp)) na3 ?_))))); clear h a; intro a h
  refine st_bslice [x] h (evs_cons rfl evs_nil) rfl rfl rfl el33 (by decide) ?_; clear h a; intro gN w8 hg hoN hq hz a h
  have hlN : w0.heap.size ≤ gN := by have := hf.size; omega
  replace hf := hf.next hq
  replace hb2 := hb2.ext hq
  clear hq hz hg
  refine tW h (asg rfl (asg rfl (kL [(4, _), (5, _)] (.c2 rfl rfl) (kE ?_)))); clear h a; intro a h
  refine wp_ret (ret_then (ret2 h Tryz.results93 rfl rfl ?_))
  rw [loads_7 hc hn ha c8 hxx]; exact ⟨_, rfl, _, rfl, hoN.low hlN, hf⟩
 refine tC h (kZ (kQ (kR (asg rfl (kL [(2, _), (7, _)] (.c2 rfl rfl) (kE (kQ (kQ (kR (asg rfl (kE (kB ?_)))))))))))); clear h a; intro a h
 refine loop (ι := Nat × Value) (fun z => [(2, .pointer (some ⟨g_2, 0, none⟩)), (7, z.2), (8, .int .i64 (z.1 : Int))]) (fun z w' => (z.1 : Int) ≤ makesS s ∧ Lw.Own Enc.i64 3 (g_2 + 1) w' z.2 (List.replicate z.1 1) ∧ Blk w' g_2 91 [.int .u8 s.k, .int .u8 s.y, .int .i64 s.a, .int .i64 s.b, .bool s.f] ∧ Fr [] w0 w') (fun z => (makesS s).toNat - z.1) (0, .slice none 0 0) (h.sub (.c3 rfl rfl rfl)) ⟨by simp only; omega, Own.nil _, hb2, hf⟩ ?_
 clear h a hb2 hf
 rintro ⟨j, x⟩ w9 a h ⟨hj, ho, hb2, hf⟩
 simp only at hj ho h
 refine tC h (kQ (kQ (kR (mv rfl (s_loadBA rfl hb2 ag91 ?_))))); clear h a; intro a h
 refine st_call h (evs_cons rfl evs_nil) co115 (refmakes_ok s _ hk hy) ?_; clear h a; rintro _ w10 ⟨rfl, hq⟩ a h
 replace hf := hf.next hq
 replace hb2 := hb2.ext hq
 replace ho := ho.ext hq
 clear hq
 refine tW h (lt' rfl rfl (kL [(2, _), (7, _), (8, _), (81, _)] (.c4 rfl rfl rfl rfl) (kE ?_))); clear h a; intro a h
 refine cS h rfl (fun c9=>?_) (fun c9=>?_)
 ·refine tC h (kZ (kQ (kB (kR (mv rfl ?_))))); clear h a; intro a h
  refine st_bslice [(1 : Int)] h (evs_cons rfl evs_nil) rfl rfl rfl el33 (by decide) ?_; clear h a; intro gN w11 hg hoN hq hz a h
  have hlN : w0.heap.size ≤ gN := by have := hf.size; omega
  replace hf := hf.next hq
  replace hb2 := hb2.ext hq
  replace ho := ho.ext hq
  clear hq hz hg
  have hbO := ho.blk
  refine st_append h rfl rfl ho hoN.sl el33 (by unfold maxLen; simp; omega) (by simp; omega) (by have := hb2.lt; omega) ?_; clear h a; intro v3 w12 ho3 hq hx3 a h
  replace hb2 := hb2.fr hq (fun hb => by have := (hbO _ hb).1; omega)
  replace hf := hf.step hq (fun k hk hlt => absurd (hbO k hk).1 (by omega))
  clear ho hq hx3 hoN hbO; have ho := ho3; clear ho3
  refine tW h (asg rfl (kL [(2, _), (7, _), (8, _)] (.c3 rfl rfl rfl) ?_)); clear h a; intro a h
  refine wpList_nil (norm_blk (norm_then ?_))
  refine tC h (kR (mv rfl (s_add rfl rfl (by first | exact i6 (by omega) | rfl) (asg rfl (kL [(2, _), (7, _), (8, _)] (.c3 rfl rfl rfl) ?_))))); clear h a; intro a h
  refine wnt ?_
  exact ⟨(j + 1, _), h.sub (.c3 rfl rfl rfl), ⟨by simp only; omega, by rw [rep_succ]; exact ho, hb2, hf⟩, by simp only; omega⟩
 obtain rfl : j = (makesS s).toNat := by omega
 refine wp_exit (exit_then (exit_then (exit_here (norm_then ?_))))
 refine tC h (kQ (kR (mv rfl (asg rfl (asg rfl (kL [(4, _), (5, _)] (.c2 rfl rfl) (kE ?_))))))); clear h a; intro a h
 refine wp_ret (ret2 h Tryz.results93 rfl rfl ?_)
 rw [loads_o hc hn ha h4 c6 c8]; exact ⟨_, rfl, _, rfl, ho.low (by omega), hf⟩
end Go.Proofs.YthehggmdcmpjeaaGreatDoor
namespace Go.Proofs.YthehggmdcmpjeaaGreatDoor
open Go.Lw Go.G14
theorem ag190 : AggOf Tryz.prog 190 2 := ⟨fun _ => by kernel_rfl, fun _ => by kernel_rfl⟩
theorem el259 : ElemOf Tryz.prog 259 190 encPr 16 := ElemOf.mk' (z := (.agg #[.int .i64 0, .int .i64 0])) Tryz.underlying259 (by kernel_rfl) rfl
theorem fa235_0 : FieldAt Tryz.prog 235 0 0 := fun _ _ => by kernel_rfl
theorem fa235_1 : FieldAt Tryz.prog 235 1 1 := fun _ _ => by kernel_rfl
theorem fa235_2 : FieldAt Tryz.prog 235 2 2 := fun _ _ => by kernel_rfl
theorem fa235_3 : FieldAt Tryz.prog 235 3 3 := fun _ _ => by kernel_rfl
theorem sz190 : SizeOf Tryz.prog 190 2 := fun _ => by kernel_rfl
theorem zv190 (w : World) : (zeroValue 190).run Tryz.prog w = .ok (.agg #[(.int .i64 0), (.int .i64 0)]) w := by kernel_rfl
set_option maxHeartbeats 1000000 in
theorem kof_ok (kd y a1 : Int) (f : Bool) (w0 : World) (r1 : 0 ≤ kd ∧ kd ≤ 255) (r2 : 0 ≤ y ∧ y ≤ 255) (r3 : 0 ≤ a1 ∧ a1 ≤ 255) : Rets Tryz.prog 135 #[.agg #[.int .u8 kd, .int .u8 y, .int .u8 a1, .bool f]] w0 fun v w' => v = stV (kOfS kd y a1 f) ∧ Fr [] w0 w' := by
 refine enter [(0, .agg #[.int .u8 kd, .int .u8 y, .int .u8 a1, .bool f])] Tryz.func135 rfl Tryz.ntmps135 rfl (.cons rfl .nil) ?_
 have hf := Fr.refl [] w0
 intro a h
 refine tC h (kQ (kR ?_)); clear h a; intro a h
 refine st_box h rfl rfl ?_; clear h a; intro w1 hb1 hq hz a h
 obtain ⟨g_1, hg⟩ : ∃ g, g = w0.heap.size := ⟨_, rfl⟩; rw [← hg] at hb1 h hz
 have hl1 : w0.heap.size ≤ g_1 := by have := hf.size; omega
 replace hf := hf.next hq
 clear hq hz hg
 refine st_alloc h zv91 rfl ?_; clear h a; intro w2 hb2 hq hz a h
 obtain ⟨g_2, hg⟩ : ∃ g, g = w1.heap.size := ⟨_, rfl⟩; rw [← hg] at hb2 h hz
 have hl2 : w0.heap.size ≤ g_2 := by have := hf.size; omega
 have hn_1_2 : g_1 < g_2 := by have := hb1.lt; omega
 replace hf := hf.next hq
 replace hb1 := hb1.ext hq
 clear hq hz hg
 refine tW h (kL [(1, _), (2, _)] (.c2 rfl rfl) (kE (kQ (kR (fad rfl fa235_0 (s_loadB rfl hb1 rfl na5 (s_rem rfl rfl (by first | exact IntWalk.rem_in _ _ (by omega) | rfl) (s_add rfl rfl (by first | exact IntWalk.u8_in _ (by omega) | rfl) (fad rfl fa235_1 (s_loadB rfl hb1 rfl na5 (s_rem rfl rfl (by first | exact IntWalk.rem_in _ _ (by omega) | rfl) (s_add rfl rfl (by first | exact IntWalk.u8_in _ (by omega) | rfl) (s_lit (cs := [_, _, _, _, _]) (evs_cons rfl (evs_cons rfl evs_nil)) bo91 (pok_cons rfl rfl rfl (pok_cons rfl rfl rfl pok_nil)) rfl ?_))))))))))))); clear h a; intro a h
 refine st_alloc h zv91 rfl ?_; clear h a; intro w3 hb3 hq hz a h
 obtain ⟨g_3, hg⟩ : ∃ g, g = w2.heap.size := ⟨_, rfl⟩; rw [← hg] at hb3 h hz
 have hl3 : w0.heap.size ≤ g_3 := by have := hf.size; omega
 have hn_1_3 : g_1 < g_3 := by have := hb1.lt; omega
 have hn_2_3 : g_2 < g_3 := by have := hb2.lt; omega
 replace hf := hf.next hq
 replace hb1 := hb1.ext hq
 replace hb2 := hb2.ext hq
 clear hq hz hg
 refine st_storeBA h rfl rfl hb3 rfl sz91 ?_; clear h a; intro w4 hbn hq hz a h
 replace hf := hf.sp hq
 replace hb1 := hb1.fr hq (by simp[blks]<;>omega)
 replace hb2 := hb2.fr hq (by simp[blks]<;>omega)
 clear hb3 hq hz; have hb3 : Blk w4 g_3 _ [_, _, _, _, _] := hbn; clear hbn
 refine tW h (kL [(1, _), (2, _), (3, _)] (.c3 rfl rfl rfl) (kE (kQ (kQ (kR (fad rfl fa91_0 (s_loadB rfl hb3 rfl na89 (eq' rfl rfl (kL [(1, _), (2, _), (3, _), (16, _)] (.c4 rfl rfl rfl rfl) (kE ?_)))))))))); clear h a; intro a h
 refine cS h rfl (fun c0=>?_) (fun c0=>?_)
 ·refine tC h (kQ (kR (s_lit (cs := [_, _]) (evs_cons rfl (evs_cons rfl evs_nil)) bo190 (pok_cons rfl rfl rfl (pok_cons rfl rfl rfl pok_nil)) rfl (s_lit (cs := [_, _]) (evs_cons rfl (evs_cons rfl evs_nil)) bo190 (pok_cons rfl rfl rfl (pok_cons rfl rfl rfl pok_nil)) rfl (s_lit (cs := [_, _]) (evs_cons rfl (evs_cons rfl evs_nil)) bo190 (pok_cons rfl rfl rfl (pok_cons rfl rfl rfl pok_nil)) rfl (s_lit (cs := [_, _]) (evs_cons rfl (evs_cons rfl evs_nil)) bo190 (pok_cons rfl rfl rfl (pok_cons rfl rfl rfl pok_nil)) rfl (s_lit (cs := [_, _]) (evs_cons rfl (evs_cons rfl evs_nil)) bo190 (pok_cons rfl rfl rfl (pok_cons rfl rfl rfl pok_nil)) rfl (s_lit (cs := [_, _]) (evs_cons rfl (evs_cons rfl evs_nil)) bo190 (pok_cons rfl rfl rfl (pok_cons rfl rfl rfl pok_nil)) rfl ?_)))))))); clear h a; intro a h
  refine st_bslice (pairsL) h (evs_cons rfl (evs_cons rfl (evs_cons rfl (evs_cons rfl (evs_cons rfl (evs_cons rfl evs_nil)))))) rfl rfl rfl el259 (Nat.le_of_ble_eq_true rfl) ?_; clear h a; intro g_23 w5 hg ho23 hq hz a h
  have hn_1_23 : g_1 < g_23 := by have := hb1.lt; omega
  have hn_2_23 : g_2 < g_23 := by have := hb2.lt; omega
  have hn_3_23 : g_3 < g_23 := by have := hb3.lt; omega
  have hl23 : w0.heap.size ≤ g_23 := by have := hf.size; omega
  replace hf := hf.next hq
  replace hb1 := hb1.ext hq
  replace hb2 := hb2.ext hq
  replace hb3 := hb3.ext hq
  clear hq hz hg
  refine tW h (fad rfl fa235_2 (s_loadB rfl hb1 rfl na5 (s_rem rfl rfl (by first | exact IntWalk.rem_in _ _ (by omega) | rfl) ?_))); clear h a; intro a h
  refine st_idx (p := (a1 % 6).toNat) h rfl rfl ho23.sl el259 rfl (getD_get (show (a1 % 6).toNat < pairsL.length by rw [show pairsL.length = 6 from rfl]; omega) (0, 0)) rfl ?_; clear h a; intro ad cc a h
  refine st_loadA h rfl cc ag190 rfl ?_; clear h a; intro a h
  refine st_alloc h zv190 rfl ?_; clear h a; intro w6 hb4 hq hz a h
  obtain ⟨g_4, hg⟩ : ∃ g, g = w5.heap.size := ⟨_, rfl⟩; rw [← hg] at hb4 h hz
  have hl4 : w0.heap.size ≤ g_4 := by have := hf.size; omega
  have hn_1_4 : g_1 < g_4 := by have := hb1.lt; omega
  have hn_2_4 : g_2 < g_4 := by have := hb2.lt; omega
  have hn_3_4 : g_3 < g_4 := by have := hb3.lt; omega
  have hn_23_4 : g_23 < g_4 := by have := (ho23.blk g_23 (by simp [blks])).2; omega
  replace hf := hf.next hq
  replace hb1 := hb1.ext hq
  replace hb2 := hb2.ext hq
  replace hb3 := hb3.ext hq
  replace ho23 := ho23.ext hq
  clear hq hz hg
  refine st_storeBA h rfl rfl hb4 rfl sz190 ?_; clear h a; intro w7 hbn hq hz a h
  replace hf := hf.sp hq
  replace hb1 := hb1.fr hq (by simp[blks]<;>omega)
  replace hb2 := hb2.fr hq (by simp[blks]<;>omega)
  replace hb3 := hb3.fr hq (by simp[blks]<;>omega)
  replace ho23 := ho23.fr hq (by simp[blks]<;>omega)
  clear hb4 hq hz; have hb4 : Blk w7 g_4 _ [_, _] := hbn; clear hbn
  replace h : Ag a 39 [(1, _), (2, _), (3, _), (4, _)] := h.sub (.c4 rfl rfl rfl rfl)
  refine wnt ?_
  refine region_held (fun wb w' => Fr [g_3] wb w') hmix ?_; intro w8 hq
  replace hf := hf.next hq
  replace hb1 := hb1.ext hq
  replace hb2 := hb2.ext hq
  replace hb3 := hb3.ext hq
  replace ho23 := ho23.ext hq
  replace hb4 := hb4.ext hq
  clear hq; have hC : Fr [g_3] w8 w8 := Fr.refl _ _
  have hb1_b := hb1
  have hb2_b := hb2
  have hb3_b := hb3
  have ho23_b := ho23
  have hb4_b := hb4
  refine hd_idxA 0 hC h wn rfl rfl Tryz.underlying190 sz3 rfl ?_; clear h a; intro a h
  refine hd_loadB 1 hC h wn rfl (fun _ hw => hb4_b.fr hw (by simp<;>omega)) rfl na3 rfl ?_; clear h a; intro a h
  refine hd_idxA 2 hC h wn rfl rfl Tryz.underlying190 sz3 rfl ?_; clear h a; intro a h
  refine hd_loadB 3 hC h wn rfl (fun _ hw => hb4_b.fr hw (by simp<;>omega)) rfl na3 rfl ?_; clear h a; intro a h
  refine hd_fieldAddr 4 hC h wn rfl fa235_3 rfl ?_; clear h a; intro a h
  refine hd_loadB 5 hC h wn rfl (fun _ hw => hb1_b.fr hw (by simp<;>omega)) rfl na4 rfl ?_; clear h a; intro a h
  refine hd_fieldAddr 6 hC h wn rfl fa91_2 rfl ?_; clear h a; intro a h
  refine hd_one 7 rfl ?_
  refine st_storeB h rfl rfl hb3 rfl rfl rfl sz3 ?_; clear h a; intro w9 hbn hq hz a h
  replace hf := hf.sp hq
  replace hb1 := hb1.fr hq (by simp[blks]<;>omega)
  replace hb2 := hb2.fr hq (by simp[blks]<;>omega)
  replace ho23 := ho23.fr hq (by simp[blks]<;>omega)
  replace hb4 := hb4.fr hq (by simp[blks]<;>omega)
  replace hC := hC.sp hq
  clear hb3 hq hz; have hb3 : Blk w9 g_3 _ [_, _, _, _, _] := hbn; clear hbn
  refine hd_next hC ?_
  refine hd_fieldAddr 8 hC h wn rfl fa91_3 rfl ?_; clear h a; intro a h
  refine hd_one 9 rfl ?_
  refine st_storeB h rfl rfl hb3 rfl rfl rfl sz3 ?_; clear h a; intro w10 hbn hq hz a h
  replace hf := hf.sp hq
  replace hb1 := hb1.fr hq (by simp[blks]<;>omega)
  replace hb2 := hb2.fr hq (by simp[blks]<;>omega)
  replace ho23 := ho23.fr hq (by simp[blks]<;>omega)
  replace hb4 := hb4.fr hq (by simp[blks]<;>omega)
  replace hC := hC.sp hq
  clear hb3 hq hz; have hb3 : Blk w10 g_3 _ [_, _, _, _, _] := hbn; clear hbn
  refine hd_next hC ?_
  refine hd_fieldAddr 10 hC h wn rfl fa91_4 rfl ?_; clear h a; intro a h
  refine hd_one 11 rfl ?_
  refine st_storeB h rfl rfl hb3 rfl rfl rfl sz4 ?_; clear h a; intro w11 hbn hq hz a h
  replace hf := hf.sp hq
  replace hb1 := hb1.fr hq (by simp[blks]<;>omega)
  replace hb2 := hb2.fr hq (by simp[blks]<;>omega)
  replace ho23 := ho23.fr hq (by simp[blks]<;>omega)
  replace hb4 := hb4.fr hq (by simp[blks]<;>omega)
  replace hC := hC.sp hq
  clear hb3 hq hz; have hb3 : Blk w11 g_3 _ [_, _, _, _, _] := hbn; clear hbn
  refine hd_next hC ?_
  refine hd_end ?_
  clear hC hb1_b hb2_b hb3_b ho23_b hb4_b
  replace h : Ag a 39 [(2, _), (3, _)] := h.sub (.c2 rfl rfl)
  refine (norm_then ?_)
  refine tC h (kQ (kR (s_loadBA rfl hb3 ag91 ?_))); clear h a; intro a h
  refine st_storeBA h rfl rfl hb2 rfl sz91 ?_; clear h a; intro w12 hbn hq hz a h
  replace hf := hf.sp hq
  replace hb1 := hb1.fr hq (by simp[blks]<;>omega)
  replace hb3 := hb3.fr hq (by simp[blks]<;>omega)
  replace ho23 := ho23.fr hq (by simp[blks]<;>omega)
  replace hb4 := hb4.fr hq (by simp[blks]<;>omega)
  clear hb2 hq hz; have hb2 : Blk w12 g_2 _ [_, _, _, _, _] := hbn; clear hbn
  refine tW h (kL [(2, _)] (.cons rfl .nil) (kE ?_)); clear h a; intro a h
  refine wp_ret (retC h Tryz.results135 rfl hb2 ag91  ?_)
  exact ⟨_, rfl, by first | (rw [kOfS, if_pos c0]; rfl) | (rw [kOfS, if_neg c0]; rfl), hf⟩
 refine tC h (kZ (kQ (kR (s_loadBA rfl hb3 ag91 ?_)))); clear h a; intro a h
 refine st_storeBA h rfl rfl hb2 rfl sz91 ?_; clear h a; intro w13 hbn hq hz a h
 replace hf := hf.sp hq
 replace hb1 := hb1.fr hq (by simp[blks]<;>omega)
 replace hb3 := hb3.fr hq (by simp[blks]<;>omega)
 clear hb2 hq hz; have hb2 : Blk w13 g_2 _ [_, _, _, _, _] := hbn; clear hbn
 refine tW h (kL [(2, _)] (.cons rfl .nil) (kE ?_)); clear h a; intro a h
 refine wp_ret (retC h Tryz.results135 rfl hb2 ag91  ?_)
 exact ⟨_, rfl, by first | (rw [kOfS, if_pos c0]; rfl) | (rw [kOfS, if_neg c0]; rfl), hf⟩
end Go.Proofs.YthehggmdcmpjeaaGreatDoor
namespace Go.G14
open Go.Lw
abbrev RowL := List (List Stitch)
structure Mot where
  L : RowL
  T : RowL
  R : RowL
def largeB (c : RowL) : Bool := decide (31 < c.length) || c.any fun r => decide (16 < r.length)
def goodB (c : RowL) : Bool := c.all fun r => r.all okB
def motE (m : Mot) : Int :=
  if largeB m.L = true ∨ largeB m.T = true ∨ largeB m.R = true then 3
  else if (m.L.length ≠ 0 ∧ m.L.length ≠ m.T.length) ∨ (m.R.length ≠ 0 ∧ m.R.length ≠ m.T.length) then 5
  else if m.T.length = 0 ∨ goodB m.L = false ∨ goodB m.T = false ∨ goodB m.R = false then 1
  else if m.T.all (fun r => decide (r.length ≠ 0)) = true then 0 else 1
def sideR (m : Mot) (n i : Nat) : List Stitch := m.L.getD i [] ++ ((List.replicate n (m.T.getD i [])).flatten ++ m.R.getD i [])
def sideM (m : Mot) (n : Nat) : RowL := (List.range m.T.length).map (sideR m n)
def stackM (m : Mot) (n up : Nat) : RowL := (List.replicate up (sideM m n)).flatten
def stackE (m : Mot) (n up : Int) : Int :=
  if motE m ≠ 0 then motE m else if n < 1 ∨ up < 1 then 1 else if largeB (stackM m n.toNat up.toNat) = true then 3 else chartE (stackM m n.toNat up.toNat)
def stackS (m : Mot) (n up : Int) : RowL := if stackE m n up = 0 then stackM m n.toNat up.toNat else []
end Go.G14
namespace Go.G14
open Go.Lw
def firstY : List Stitch → Int
  | [] => 0
  | s :: xs => xs.foldl (fun y x => min y x.y) s.y
def rowC (y : Int) (r : List Stitch) : Int := (r.map fun s => if s.k ≠ 7 ∧ s.y = y then makesS s else 0).sum
def cntY (c : RowL) (y : Int) : Int :=
  (if firstY (c.getD 0 []) = y then needsR (c.getD 0 []) else 0) + (if firstY (c.getD (c.length - 1) []) = y then makesR (c.getD (c.length - 1) []) else 0) + (c.map (rowC y)).sum
theorem fold_min : ∀ (xs : List Stitch) (a : Int), xs.foldl (fun y x => min y x.y) a ≤ a ∧ (∀ s ∈ xs, xs.foldl (fun y x => min y x.y) a ≤ s.y) ∧ (xs.foldl (fun y x => min y x.y) a = a ∨ ∃ s ∈ xs, xs.foldl (fun y x => min y x.y) a = s.y)
 | [], a => ⟨Int.le_refl _, by simp, .inl rfl⟩
 | x :: xs, a => by
  obtain ⟨h1, h2, h3⟩ := fold_min xs (min a x.y)
  rw [List.foldl_cons]
  refine ⟨by omega, fun s hs => ?_, ?_⟩
  ·rcases List.mem_cons.1 hs with rfl | hs
   ·omega
   exact h2 s hs
  rcases h3 with h3 | ⟨s, hs, h3⟩
  ·rcases Int.le_total a x.y with h | h
   ·left; omega
   right; exact ⟨x, by simp, by omega⟩
  right; exact ⟨s, by simp [hs], h3⟩
theorem first_spec {r : List Stitch} (h : r ≠ []) : (∃ s ∈ r, s.y = firstY r) ∧ ∀ s ∈ r, firstY r ≤ s.y := by
 match r, h with
 | x :: xs, _ =>
  obtain ⟨h1, h2, h3⟩ := fold_min xs x.y
  refine ⟨?_, fun s hs => ?_⟩
  ·rcases h3 with h3 | ⟨s, hs, h3⟩
   ·exact ⟨x, by simp, h3.symm⟩
   exact ⟨s, by simp [hs], h3.symm⟩
  rcases List.mem_cons.1 hs with rfl | hs
  ·exact h1
  exact h2 s hs
theorem rowC_pos (y : Int) (r : List Stitch) : 0 ≤ rowC y r ∧ rowC y r ≤ 4 * r.length :=
 sum_rng (f := fun s => if s.k ≠ 7 ∧ s.y = y then makesS s else 0) (fun s => by have := makes_rng s; split <;> omega) r
theorem sideM_len (m : Mot) (n : Nat) : (sideM m n).length = m.T.length := by simp [sideM]
theorem stackM_succ (m : Mot) (n up : Nat) : stackM m n (up + 1) = sideM m n ++ stackM m n up := by simp [stackM, List.replicate_succ]
theorem stackM_len (m : Mot) (n up : Nat) : (stackM m n up).length = up * m.T.length := by
 induction up with
 | zero => simp [stackM]
 | succ up ih => rw [stackM_succ, List.length_append, ih, sideM_len, Nat.add_mul]; omega
theorem mot_tile {m : Mot} (h : motE m = 0) : 1 ≤ m.T.length ∧ (∀ i, i < m.T.length → m.T.getD i [] ≠ []) ∧ m.T.length ≤ 31 := by
 unfold motE at h
 split at h
 ·omega
 split at h
 ·omega
 split at h
 ·omega
 split at h
 ·rename_i h1 h2 h3 h4
  refine ⟨by omega, fun i hi e => ?_, ?_⟩
  ·have := List.all_eq_true.1 h4 (m.T.getD i []) (by rw [List.getD, List.getElem?_eq_getElem hi]; exact List.getElem_mem hi)
   rw [e] at this; simp at this
  have : ¬ largeB m.T = true := fun e => h1 (.inr (.inl e))
  unfold largeB at this
  simp only [Bool.or_eq_true, decide_eq_true_eq, not_or] at this
  omega
 omega
end Go.G14
namespace Go.G14
open Go.Lw
structure Pc where
  nm : List UInt8
  mot : Mot
  ba : Int
  st : Int
  up : Int
  ct : Int
def pc0 : Pc := ⟨[], ⟨[], [], []⟩, 0, 0, 0, 0⟩
def lower (c : UInt8) : Bool := decide (97 ≤ c.toNat ∧ c.toNat ≤ 122)
def nameB (s : List UInt8) : Bool := decide (1 ≤ s.length ∧ s.length ≤ 16) && s.all lower
def rightB (p : Pc) : Bool := nameB p.nm && decide (1 ≤ p.ba ∧ p.ba ≤ 16 ∧ 0 ≤ p.st ∧ p.st ≤ 4 ∧ 1 ≤ p.up ∧ p.up ≤ 31 ∧ 1 ≤ p.ct ∧ p.ct ≤ 9)
def dupB (ps : List Pc) : Bool := (List.range ps.length).any fun i => (List.range i).any fun k => decide ((ps.getD i pc0).nm = (ps.getD k pc0).nm)
def motsE : List Pc → Int
  | [] => 0
  | p :: ps => if motE p.mot ≠ 0 then motE p.mot else motsE ps
def garE (nm : List UInt8) (ps : List Pc) : Int :=
  if 8 < ps.length then 3 else if ps.length = 0 ∨ nameB nm = false then 1 else if ps.all rightB = false then 1 else if dupB ps = true then 8 else motsE ps
def tiles (p : Pc) (size : Int) : Int := p.ba + size * p.st
def chartsE (size : Int) : List Pc → Int
  | [] => 0
  | p :: ps => if stackE p.mot (tiles p size) p.up ≠ 0 then stackE p.mot (tiles p size) p.up else chartsE size ps
def makeE (nm : List UInt8) (ps : List Pc) (size : Int) : Int :=
  if garE nm ps ≠ 0 then garE nm ps else if size < 0 ∨ 9 < size then 1 else chartsE size ps
def chartP (size : Int) (p : Pc) : RowL := stackM p.mot (tiles p size).toNat p.up.toNat
def needY (ps : List Pc) (size y : Int) : Int := (ps.map fun p => p.ct * cntY (chartP size p) y).sum
def needL (ps : List Pc) (size : Int) : List Int := (List.range 6).map fun y => needY ps size (y + 1 : Nat)
theorem mots_of : ∀ {ps : List Pc}, motsE ps = 0 → ∀ p ∈ ps, motE p.mot = 0
 | [], _, p, h => by cases h
 | q :: ps, h0, p, h => by
  rw [motsE] at h0
  by_cases c : motE q.mot ≠ 0
  ·rw [if_pos c] at h0; exact absurd h0 c
  rw [if_neg c] at h0
  rcases List.mem_cons.1 h with rfl | h
  ·simpa using c
  exact mots_of h0 p h
theorem gar_of {nm : List UInt8} {ps : List Pc} (h : garE nm ps = 0) : ps.length ≤ 8 ∧ 1 ≤ ps.length ∧ nameB nm = true ∧ (∀ p ∈ ps, rightB p = true) ∧ (∀ p ∈ ps, motE p.mot = 0) ∧ dupB ps = false := by
 unfold garE at h
 split at h
 ·omega
 split at h
 ·omega
 split at h
 ·omega
 split at h
 ·omega
 rename_i h1 h2 h3 h4
 refine ⟨by omega, by omega, ?_, ?_, mots_of h, by simpa using h4⟩
 ·cases e : nameB nm
  ·exact absurd (.inr e) h2
  rfl
 have : ps.all rightB = true := by simpa using h3
 exact List.all_eq_true.1 this
theorem right_of {p : Pc} (h : rightB p = true) : nameB p.nm = true ∧ 1 ≤ p.ba ∧ p.ba ≤ 16 ∧ 0 ≤ p.st ∧ p.st ≤ 4 ∧ 1 ≤ p.up ∧ p.up ≤ 31 ∧ 1 ≤ p.ct ∧ p.ct ≤ 9 := by
 unfold rightB at h
 rw [Bool.and_eq_true, decide_eq_true_eq] at h
 exact ⟨h.1, h.2⟩
theorem charts_of {size : Int} : ∀ {ps : List Pc}, chartsE size ps = 0 → ∀ p ∈ ps, stackE p.mot (tiles p size) p.up = 0
 | [], _, p, h => by cases h
 | q :: ps, h0, p, h => by
  rw [chartsE] at h0
  by_cases c : stackE q.mot (tiles q size) q.up ≠ 0
  ·rw [if_pos c] at h0; exact absurd h0 c
  rw [if_neg c] at h0
  rcases List.mem_cons.1 h with rfl | h
  ·simpa using c
  exact charts_of h0 p h
theorem make_of {nm : List UInt8} {ps : List Pc} {size : Int} (h : makeE nm ps size = 0) : garE nm ps = 0 ∧ 0 ≤ size ∧ size ≤ 9 ∧ chartsE size ps = 0 := by
 unfold makeE at h
 split at h
 ·exact absurd h (by assumption)
 split at h
 ·omega
 rename_i h1 h2
 exact ⟨by simpa using h1, by omega, by omega, h⟩
theorem stack_of {m : Mot} {n up : Int} (h : stackE m n up = 0) : motE m = 0 ∧ 1 ≤ n ∧ 1 ≤ up ∧ largeB (stackM m n.toNat up.toNat) = false ∧ chartE (stackM m n.toNat up.toNat) = 0 := by
 unfold stackE at h
 split at h
 ·exact absurd h (by assumption)
 split at h
 ·omega
 split at h
 ·omega
 rename_i h1 h2 h3
 exact ⟨by simpa using h1, by omega, by omega, by simpa using h3, h⟩
end Go.G14
namespace Go.Lw
open Go.ChangeShapes Go.WideShapes Go.ChangeAt Go.RowKit
section
variable {H : Type} {enc : TypeId × Value → H} {P : Program}
theorem trodAll_stays (hl : laidOutB P = true) {W W' : World} (hb : Below W.heap.size W W') {sp : Nat → Bool} : ∀ {ts : List TypeId} {vs : List Value} {ds : List (DataW H)} {ps : List MemPlace},
    (∀ t ∈ ts, P.readableRec t = true ∧ t < P.types.size) → (∀ p ∈ ps, sp p.block = true) → (∀ p ∈ ps, p.block < W.heap.size) → DataW.TrodAll enc P W 0 (fun _ => true) true ts vs ds ps → DataW.TrodAll enc P W' 0 sp true ts vs ds ps
  | [], vs, ds, ps, _, _, _, h => by
    obtain ⟨rfl, rfl, rfl⟩ := trodAll_nil h
    exact trodAll_mk0
  | t :: ts, vs, ds, ps, ht, hs, hlt, h => by
    obtain ⟨v, vs', d, ds', p, q, rfl, rfl, rfl, h1, h2⟩ := trodAll_cons h
    refine trodAll_cons_mk (WideElems.Trod_stays hl (ht t (by simp)).1 (ht t (by simp)).2 h1 (fun x hx => hb.same (hlt x (by simp [hx]))) (fun x hx => hs x (by simp [hx]))) ?_
    exact trodAll_stays hl hb (fun t' h' => ht t' (by simp [h'])) (fun x hx => hs x (by simp [hx])) (fun x hx => hlt x (by simp [hx])) h2
theorem post_true {f : Func} {s : ChangeSpec} {apart fresh handsOn again : Bool} {W W' : World} {args : Array Value} {ds : List (DataW H)} {before : List MemPlace} {tb : TypeId}
    (hW : DataW.Whole enc P f.params.toList s.vars apart W args.toList ds [] before) (hv : s.vars = []) (hfn : s.fn H ds = { results := [.lit (.bool true)], args := ds }) (hf : Fr [] W W')
    (hl : laidOutB P = true) (hr : ∀ t ∈ f.params.toList, P.readableRec t = true ∧ t < P.types.size) (hrt : f.resultTypes = #[tb]) (hbt : P.underlying tb = some .bool) : s.post enc P f apart fresh handsOn again W args (.bool true) W' := by
  have hb := hf.below
  have hlt := hW.lt
  have hW' := hW
  obtain ⟨pa, pv, hA, hV, rfl, hz, hn⟩ := hW
  rw [hv] at hV
  obtain ⟨-, rfl⟩ := trodVars_none hV
  rw [List.append_nil] at hW' hlt hz hn
  have hargs : ∀ sp : Nat → Bool, (∀ p ∈ pa, sp p.block = true) → DataW.TrodAll enc P W' 0 sp true f.params.toList args.toList (s.fn H (ds ++ [])).args pa := by
    intro sp hsp
    rw [List.append_nil, hfn]
    exact trodAll_stays hl hb hr hsp hlt hA
  have hres : ∀ (b : Nat) (sp : Nat → Bool) (hd : Bool), DataW.TrodAll enc P W' b sp hd f.resultTypes.toList ((Value.bool true).resultList f.resultTypes.size) (s.fn H (ds ++ [])).results [] := by
    intro b sp hd
    rw [List.append_nil, hfn, hrt]
    exact trodAll_cons_mk (shut_bool hbt true) trodAll_mk0
  have hvars : ∀ sp : Nat → Bool, DataW.TrodVars enc P W' sp s.vars (s.fn H (ds ++ [])).vars [] := by
    intro sp
    rw [hv, List.append_nil, hfn]
    rfl
  have hold : ∀ p ∈ pa, (fun b => decide (b < W.heap.size)) p.block = true := fun p hp => by simpa using hlt p hp
  refine ⟨ds, [], pa, [], pa, [], hW', hres _ _ _, hargs _ hold, hvars _, World.keptBut_mono (fun p hp => ⟨hp, by simp [hp]⟩) (hb.frame _), fun _ => ⟨ok_one hrt rfl (okWide_bool_mk hbt true), _, _, ([] ++ pa) ++ [], ⟨[] ++ pa, [], trodAll_append (hargs _ (fun _ _ => rfl)) (hres _ _ _), hvars _, rfl, ?_, ?_⟩, ?_⟩⟩
  · intro b off hp
    have hp' : MemPlace.cell b off ∈ pa := by simpa using hp
    rw [hb.frozen (hlt _ hp')]
    exact hz b off hp'
  · intro ha
    simpa using hn ha
  · intro p hp _
    simpa using hp
theorem calls_true {f : FuncId} {fn : Func} {s : ChangeSpec} {apart fresh handsOn again : Bool} {W : World} {args : Array Value} {ds : List (DataW H)} {before : List MemPlace} {tb : TypeId}
    (hw : Rets P f args W fun v w' => v = .bool true ∧ Fr [] W w')
    (hW : DataW.Whole enc P fn.params.toList s.vars apart W args.toList ds [] before) (hv : s.vars = []) (hfn : s.fn H ds = { results := [.lit (.bool true)], args := ds })
    (hl : laidOutB P = true) (hr : ∀ t ∈ fn.params.toList, P.readableRec t = true ∧ t < P.types.size) (hrt : fn.resultTypes = #[tb]) (hbt : P.underlying tb = some .bool) :
    Calls P f args W fun e W' => ∃ v, e = .returned v ∧ s.post enc P fn apart fresh handsOn again W args v W' :=
  Calls.mono hw fun e w' ⟨v, he, hv', hf⟩ => ⟨v, he, by subst hv'; exact post_true hW hv hfn hf hl hr hrt hbt⟩
end
theorem str_len {b : ByteArray} (h : b.size ≤ maxLen) : b.data.toList.length ≤ 9223372036854775807 := by
 have hm : maxLen = 9223372036854775807 := by decide +kernel
 rw [Array.length_toList, ← hm]; exact h
def litV {H : Type} : DataW H → Value
  | .lit (.int k z) => .int k z
  | .lit (.string s) => .string ⟨s.toArray⟩
  | _ => .bool false
def itemV {H : Type} : DataW H → List Value
  | .agg es => es.map litV
  | d => [litV d]
def tabV {H : Type} : DataW H → Array Value
  | .agg ds => (ds.flatMap itemV).toArray
  | _ => #[]
def layW (w : World) (g : Nat) (cs : Array Value) : World :=
  { w with heap := w.heap.modify g fun
      | .cells _ t fr => .cells cs t fr
      | o => o }
noncomputable def laidW (P : Program) (os : Os) (laid : List (String × DataW Unit)) : World :=
  laid.foldl (fun w p => match P.globalNamed p.1 with
    | some g => layW w g (tabV p.2)
    | none => w) (World.holding P os ⟨#[], #[], []⟩)
end Go.Lw
namespace Go.Lw
open Go.ChangeShapes Go.WideShapes Go.ChangeAt Go.RowKit
def Opens (P : Program) (t : TypeId) {α : Type} (E : Enc α) (R : World → α → Prop) : Prop :=
  ∀ (H : Type) (enc : TypeId × Value → H) (w : World) (base : Nat) (sp : Nat → Bool) (held : Bool) (fuel : Nat) (cs : List Value) (x : DataW H × List MemPlace),
    DataW.trod enc P w base sp held fuel t cs = some x → ∃ y, cs = E.enc y ∧ R w y
def Enc.int (k : IntKind) : Enc Int := ⟨fun n => [.int k n], 1, fun _ => rfl, fun _ u h => by simp at h; subst h; rfl, by decide⟩
def Enc.bool : Enc Bool := ⟨fun n => [.bool n], 1, fun _ => rfl, fun _ u h => by simp at h; subst h; rfl, by decide⟩
def SlR {α : Type} (E : Enc α) (R : World → α → Prop) (w : World) (v : SV) : Prop := ∃ ys, Sl E w (slv v) ys ∧ ∀ y ∈ ys, R w y
section
variable {P : Program} {t e : TypeId}
theorem opens_int {k : IntKind} (hu : P.underlying t = some (.int k)) : Opens P t (Enc.int k) (fun _ n => k.min ≤ n ∧ n ≤ k.max) := by
 intro H enc w base sp held fuel cs x h
 obtain ⟨n, rfl, _, hw⟩ := DataW.trod_int hu h
 refine ⟨n, rfl, ?_⟩
 simpa [Lit.wf] using hw
theorem opens_u8 (hu : P.underlying t = some (.int .u8)) : Opens P t Enc.u8 (fun _ n => 0 ≤ n ∧ n ≤ 255) := by
 intro H enc w base sp held fuel cs x h
 obtain ⟨n, rfl, r⟩ := opens_int hu H enc w base sp held fuel cs x h
 exact ⟨n, rfl, r⟩
theorem opens_b (hu : P.underlying t = some (.int .u8)) : Opens P t Enc.b (fun _ _ => True) := by
 intro H enc w base sp held fuel cs x h
 obtain ⟨n, rfl, r⟩ := opens_u8 hu H enc w base sp held fuel cs x h
 refine ⟨UInt8.ofNat n.toNat, ?_, trivial⟩
 show [Value.int .u8 n] = [Value.int .u8 (((UInt8.ofNat n.toNat).toNat : Nat) : Int)]
 rw [UInt8.toNat_ofNat', Nat.mod_eq_of_lt (by omega)]
 congr 2
 omega
theorem opens_str (hu : P.underlying t = some .string) : Opens P t Enc.str (fun _ l => l.length ≤ 9223372036854775807) := by
 intro H enc w base sp held fuel cs x h
 obtain ⟨s, rfl, _, hs⟩ := DataW.trod_string hu h
 exact ⟨s.data.toList, by simp [Enc.str, S], str_len hs⟩
theorem opens_slice {α : Type} {E : Enc α} {R : World → α → Prop} (hu : P.underlying t = some (.slice e)) (hc : P.cellsOf e = E.sz) (ho : Opens P e E R) : Opens P t Enc.sl (SlR E R) := by
 intro H enc w base sp held fuel cs x h
 rcases DataW.trod_slice hu h with ⟨rfl, _⟩ | ⟨ad, len, cap, elems, rest, n, _, rfl, _, hb, hl, hm, hlen, hel, _⟩
 ·exact ⟨(none, 0, 0), rfl, [], Sl.nil w, by simp⟩
 have each : ∀ i, i < len → ∃ y, Cells w (ad.add (i * E.sz)) (E.enc y) ∧ R w y := by
  intro i hi
  have h1 := hel i hi
  rw [List.getElem?_eq_getElem (by omega), Option.bind_eq_some_iff, hc] at h1
  obtain ⟨cs', h2, h3⟩ := h1
  obtain ⟨y, rfl, hR⟩ := ho H enc w base sp held n cs' _ h3
  obtain ⟨_, h5, h6⟩ := World.cells?_some h2
  refine ⟨y, fun j u hj => ?_, hR⟩
  have hjl : j < E.sz := by rw [← E.len y]; exact (List.getElem?_eq_some_iff.1 hj).1
  rw [h6 j hjl, hj]
 have all : ∀ m, m ≤ len → ∃ ys : List α, ys.length = m ∧ ∀ i y, ys[i]? = some y → Cells w (ad.add (i * E.sz)) (E.enc y) ∧ R w y := by
  intro m
  induction m with
  | zero => exact fun _ => ⟨[], rfl, fun i y h => by simp at h⟩
  | succ m ih =>
   intro hm
   obtain ⟨ys, h1, h2⟩ := ih (by omega)
   obtain ⟨y, h3⟩ := each m (by omega)
   refine ⟨ys ++ [y], by simp [h1], fun i z hz => ?_⟩
   rcases Nat.lt_or_ge i m with hi | hi
   ·rw [List.getElem?_append_left (by omega)] at hz
    exact h2 i z hz
   have hi' : i = m := by
    have := (List.getElem?_eq_some_iff.1 hz).1
    simp [h1] at this; omega
   subst hi'
   rw [List.getElem?_append_right (by omega), h1, Nat.sub_self] at hz
   simp at hz; subst hz
   exact h3
 obtain ⟨ys, h1, h2⟩ := all len (Nat.le_refl _)
 refine ⟨(some ad, len, cap), rfl, ys, ⟨some ad, cap, by simp [slv, h1], by omega, hm, fun i y hy => ⟨ad, rfl, (h2 i y hy).1⟩⟩, fun y hy => ?_⟩
 obtain ⟨i, hi⟩ := List.getElem?_of_mem hy
 exact (h2 i y hi).2
theorem opens_field {H : Type} {enc : TypeId × Value → H} {w : World} {base : Nat} {sp : Nat → Bool} {held : Bool} {n : Nat} {cs : List Value} {xs : List (DataW H × List MemPlace)} {f : TypeId} {α : Type} {E : Enc α} {R : World → α → Prop} {i m : Nat}
    (h : DataW.trod enc P w base sp held n f cs = xs[i]?) (hl : xs.length = m) (hi : i < m) (ho : Opens P f E R) : ∃ y, cs = E.enc y ∧ R w y := by
  rw [List.getElem?_eq_getElem (by omega)] at h
  exact ho H enc w base sp held n cs _ h
theorem arg_struct {H : Type} {enc : TypeId × Value → H} {w : World} {base b0 : Nat} {r : Reach} {sp : Nat → Bool} {held : Bool} {v : Value} {d : DataW H} {ps : List MemPlace} {α : Type} {E : Enc α} {R : World → α → Prop} {fs : Array Field}
    (hu : P.underlying t = some (.struct fs)) (ho : Opens P t E R) (hv : Value.okWide P w r b0 t v) (hd : DataW.Trod enc P w base sp held t v d ps) : ∃ y, v = .agg (E.enc y).toArray ∧ R w y := by
  simp only [Value.okWide, hu] at hv
  obtain ⟨cs, rfl, _⟩ := hv
  obtain ⟨fuel, hf⟩ := hd
  obtain ⟨y, h1, h2⟩ := ho H enc w base sp held fuel _ _ hf
  refine ⟨y, ?_, h2⟩
  have h1' : cs.toList = E.enc y := h1
  rw [← h1']
end
end Go.Lw
namespace Go.G14
open Go.Lw
abbrev RQ := SV × List Stitch
abbrev CQ := SV × RowL
def sv0 : SV := (none, 0, 0)
abbrev rq0 : RQ := (sv0, [])
abbrev cq0 : CQ := (sv0, [])
def encRq : Enc RQ := ⟨fun p => [.slice p.1.1 p.1.2.1 p.1.2.2], 1, fun _ => rfl, fun _ u h => by simp at h; subst h; rfl, by decide⟩
def encCq : Enc CQ := ⟨fun p => [.slice p.1.1 p.1.2.1 p.1.2.2], 1, fun _ => rfl, fun _ u h => by simp at h; subst h; rfl, by decide⟩
def RowsQ (w : World) (qs : List RQ) : Prop := ∀ q ∈ qs, Sl encSt w (slv q.1) q.2
def ChsQ (w : World) (qs : List CQ) : Prop := ∀ q ∈ qs, Sll encSt w (slv q.1) q.2
theorem RowsQ.ext {w w' : World} {qs : List RQ} (h : RowsQ w qs) (hf : Fr [] w w') : RowsQ w' qs := fun q hq => (h q hq).ext hf
theorem ChsQ.ext {w w' : World} {qs : List CQ} (h : ChsQ w qs) (hf : Fr [] w w') : ChsQ w' qs := fun q hq => (h q hq).ext hf
theorem getD_memS {α : Type} {l : List α} {i : Nat} {d : α} (h : i < l.length) : l.getD i d ∈ l := by
 rw [List.getD, List.getElem?_eq_getElem h]; exact List.getElem_mem h
theorem sl_len {α : Type} {E : Enc α} {w : World} {p : SV} {l : List α} (h : Sl E w (slv p) l) : p.2.1 = l.length := by
 obtain ⟨A, c, e, _⟩ := h; simp only [slv, Value.slice.injEq] at e; exact e.2.1
theorem sll_len {α : Type} {E : Enc α} {w : World} {p : SV} {l : List (List α)} (h : Sll E w (slv p) l) : p.2.1 = l.length := by
 obtain ⟨A, c, e, _⟩ := h.form; simp only [slv, Value.slice.injEq] at e; exact e.2.1
theorem RowsQ.at {w : World} {qs : List RQ} (h : RowsQ w qs) {i : Nat} (hi : i < qs.length) : Sl encSt w (slv (qs.getD i rq0).1) (qs.getD i rq0).2 ∧ (qs.getD i rq0).1.2.1 = (qs.getD i rq0).2.length :=
 have h1 := h _ (getD_memS hi); ⟨h1, sl_len h1⟩
theorem ChsQ.at {w : World} {qs : List CQ} (h : ChsQ w qs) {i : Nat} (hi : i < qs.length) : Sll encSt w (slv (qs.getD i cq0).1) (qs.getD i cq0).2 ∧ (qs.getD i cq0).1.2.1 = (qs.getD i cq0).2.length :=
 have h1 := h _ (getD_memS hi); ⟨h1, sll_len h1⟩
theorem Sll.opn {w : World} {v : Value} {rows : RowL} (h : Sll encSt w v rows) : ∃ qs : List RQ, Sl encRq w v qs ∧ RowsQ w qs ∧ qs.map Prod.snd = rows := by
 obtain ⟨hs, h1, h2, h3⟩ := h
 refine ⟨hs.zip rows, ?_, ?_, ?_⟩
 ·obtain ⟨A, c, e, r1, r2, r3⟩ := h1
  have hl : (hs.zip rows).length = hs.length := by rw [List.length_zip]; omega
  refine ⟨A, c, by rw [hl]; exact e, by omega, r2, fun i y hy => ?_⟩
  rw [List.getElem?_zip_eq_some] at hy
  exact r3 i y.1 hy.1
 ·intro q hq
  obtain ⟨i, hi⟩ := List.getElem?_of_mem hq
  rw [List.getElem?_zip_eq_some] at hi
  exact h3 i q.1 q.2 hi.1 hi.2
 exact List.map_snd_zip (by omega)
theorem sll_of {w : World} {v : Value} {qs : List RQ} (h : Sl encRq w v qs) (hr : RowsQ w qs) : Sll encSt w v (qs.map Prod.snd) := by
 refine ⟨qs.map Prod.fst, ?_, by simp, ?_⟩
 ·obtain ⟨A, c, e, r1, r2, r3⟩ := h
  refine ⟨A, c, by rw [List.length_map]; exact e, by rw [List.length_map]; exact r1, r2, fun i y hy => ?_⟩
  rw [List.getElem?_map, Option.map_eq_some_iff] at hy
  obtain ⟨q, hq, rfl⟩ := hy
  exact r3 i q hq
 intro i p r hp hx
 rw [List.getElem?_map, Option.map_eq_some_iff] at hp hx
 obtain ⟨q, hq, rfl⟩ := hp
 obtain ⟨q', hq', rfl⟩ := hx
 rw [hq] at hq'; cases hq'
 exact hr q (List.mem_of_getElem? hq)
theorem map_getD {α β : Type} (f : α → β) (l : List α) (i : Nat) (d : α) (e : β) (h : i < l.length) : (l.map f).getD i e = f (l.getD i d) := by
 rw [List.getD, List.getD, List.getElem?_map, List.getElem?_eq_getElem h]; rfl
def RwO (T N : Nat) (w : World) (qs : List RQ) : Prop := ∀ q ∈ qs, Lw.Own encSt T N w (slv q.1) q.2
theorem RwO.fr {T N : Nat} {w w' : World} {qs : List RQ} {S : List Nat} (h : RwO T N w qs) (hf : Fr S w w') (hS : ∀ k ∈ S, k < N) : RwO T N w' qs :=
 fun q hq => (h q hq).fr hf fun k hk hb => by have := ((h q hq).blk k hb).1; have := hS k hk; omega
theorem RwO.ext {T N : Nat} {w w' : World} {qs : List RQ} (h : RwO T N w qs) (hf : Fr [] w w') : RwO T N w' qs := h.fr hf (by simp)
theorem RwO.q {T N : Nat} {w : World} {qs : List RQ} (h : RwO T N w qs) : RowsQ w qs := fun q hq => (h q hq).sl
theorem RwO.nil {T N : Nat} {w : World} : RwO T N w [] := fun q hq => by cases hq
theorem RwO.snoc {T N : Nat} {w : World} {qs : List RQ} {q : RQ} (h : RwO T N w qs) (hq : Lw.Own encSt T N w (slv q.1) q.2) : RwO T N w (qs ++ [q]) := fun x hx => by
 rcases List.mem_append.1 hx with hx | hx
 ·exact h x hx
 rw [List.mem_singleton.1 hx]; exact hq
theorem set_at {α : Type} (l : List α) (m : Nat) (z e : α) : (l ++ List.replicate (m + 1) z).set l.length e = (l ++ [e]) ++ List.replicate m z := by
 rw [List.set_append_right _ _ (Nat.le_refl _), Nat.sub_self, List.replicate_succ, List.set_cons_zero, List.append_assoc]; rfl
abbrev KQ := SV × List CQ
abbrev kq0 : KQ := (sv0, [])
def encKq : Enc KQ := ⟨fun p => [.slice p.1.1 p.1.2.1 p.1.2.2], 1, fun _ => rfl, fun _ u h => by simp at h; subst h; rfl, by decide⟩
def KsQ (w : World) (ks : List KQ) : Prop := ∀ q ∈ ks, Sl encCq w (slv q.1) q.2
theorem KsQ.ext {w w' : World} {qs : List KQ} (h : KsQ w qs) (hf : Fr [] w w') : KsQ w' qs := fun q hq => (h q hq).ext hf
theorem flat_succ {α β : Type} (f : α → List β) (l : List α) (i : Nat) (d : α) (h : i < l.length) : (l.take (i + 1)).flatMap f = (l.take i).flatMap f ++ f (l.getD i d) := by
 rw [List.take_add_one, List.getElem?_eq_getElem h, List.flatMap_append, List.getD, List.getElem?_eq_getElem h]; simp
theorem flat_le {α β : Type} (f : α → List β) (l : List α) (i : Nat) : ((l.take i).flatMap f).length ≤ (l.flatMap f).length := by
 conv => rhs; rw [← List.take_append_drop i l, List.flatMap_append, List.length_append]
 omega
theorem rep_copy {α : Type} (q z : α) {n m k : Nat} (hk : k = min (n - m) m) (h : m ≤ n) : (List.replicate m q ++ List.replicate (n - m) z).take m ++ (List.replicate m q).take k ++ (List.replicate m q ++ List.replicate (n - m) z).drop (m + k) = List.replicate (m + k) q ++ List.replicate (n - (m + k)) z := by
 have e1 : (List.replicate m q ++ List.replicate (n - m) z).take m = List.replicate m q := by
  rw [List.take_append_of_le_length (by simp), List.take_of_length_le (by simp)]
 have e2 : (List.replicate m q ++ List.replicate (n - m) z).drop (m + k) = List.replicate (n - (m + k)) z := by
  rw [List.drop_append, List.drop_of_length_le (by simp), List.nil_append, List.length_replicate, List.drop_replicate]
  congr 1; omega
 rw [e1, e2, List.take_replicate, Nat.min_eq_left (by omega), List.replicate_append_replicate]
def edgeL (q : CQ) : List CQ := if q.2.length = 0 then [] else [q]
structure PQ where
  p : Pc
  l : SV
  t : SV
  r : SV
def pq0 : PQ := ⟨pc0, sv0, sv0, sv0⟩
def encPq : Enc PQ := ⟨fun q => [S q.p.nm, .slice q.l.1 q.l.2.1 q.l.2.2, .slice q.t.1 q.t.2.1 q.t.2.2, .slice q.r.1 q.r.2.1 q.r.2.2, .int .i64 q.p.ba, .int .i64 q.p.st, .int .i64 q.p.up, .int .i64 q.p.ct], 8, fun _ => rfl, fun _ u h => by simp at h; rcases h with rfl | rfl | rfl | rfl | rfl | rfl | rfl | rfl <;> rfl, by decide⟩
def rowsR (c : RowL) : Prop := ∀ r ∈ c, ∀ x ∈ r, 0 ≤ x.k ∧ 0 ≤ x.y
structure MotAt (w : World) (m : Mot) (l t r : SV) : Prop where
  L : Sll encSt w (slv l) m.L
  T : Sll encSt w (slv t) m.T
  R : Sll encSt w (slv r) m.R
  gL : rowsR m.L
  gT : rowsR m.T
  gR : rowsR m.R
theorem MotAt.ext {w w' : World} {m : Mot} {l t r : SV} (h : MotAt w m l t r) (hf : Fr [] w w') : MotAt w' m l t r := ⟨h.L.ext hf, h.T.ext hf, h.R.ext hf, h.gL, h.gT, h.gR⟩
def bl3 (m : Mot) (l t r : SV) : List CQ := [(l, m.L), (t, m.T), (r, m.R)]
def bl2 (m : Mot) (l r : SV) : List CQ := [(l, m.L), (r, m.R)]
theorem MotAt.chs3 {w : World} {m : Mot} {l t r : SV} (h : MotAt w m l t r) : ChsQ w (bl3 m l t r) := fun q hq => by
 simp only [bl3, List.mem_cons, List.not_mem_nil, or_false] at hq
 rcases hq with rfl | rfl | rfl
 ·exact h.L
 ·exact h.T
 exact h.R
theorem MotAt.chs2 {w : World} {m : Mot} {l t r : SV} (h : MotAt w m l t r) : ChsQ w (bl2 m l r) := fun q hq => by
 simp only [bl2, List.mem_cons, List.not_mem_nil, or_false] at hq
 rcases hq with rfl | rfl
 ·exact h.L
 exact h.R
theorem MotAt.rng3 {w : World} {m : Mot} {l t r : SV} (h : MotAt w m l t r) {k : Nat} (hk : k < 3) : rowsR ((bl3 m l t r).getD k cq0).2 := by
 match k, hk with
 | 0, _ => exact h.gL
 | 1, _ => exact h.gT
 | 2, _ => exact h.gR
theorem bl3_get (m : Mot) (l t r : SV) {k : Nat} (hk : k < 3) : ([.slice l.1 l.2.1 l.2.2, .slice t.1 t.2.1 t.2.2, .slice r.1 r.2.1 r.2.2] : List Value)[(k : Int).toNat * 1 + 0]? = some (slv ((bl3 m l t r).getD k cq0).1) := by
 match k, hk with
 | 0, _ | 1, _ | 2, _ => rfl
section
variable {m : Mot} {l t r : SV}
abbrev NoL (m : Mot) (l t r : SV) : Prop := ∀ q ∈ bl3 m l t r, largeB q.2 = false
abbrev Edg (m : Mot) : Prop := (m.L.length ≠ 0 ∧ m.L.length ≠ m.T.length) ∨ (m.R.length ≠ 0 ∧ m.R.length ≠ m.T.length)
theorem nol_iff : NoL m l t r ↔ largeB m.L = false ∧ largeB m.T = false ∧ largeB m.R = false := by simp [NoL, bl3]
theorem mot3 (h : ¬ NoL m l t r) : motE m = 3 := by
 unfold motE
 rw [if_pos]
 rw [nol_iff] at h
 cases e1 : largeB m.L
 ·cases e2 : largeB m.T
  ·cases e3 : largeB m.R
   ·exact absurd ⟨e1, e2, e3⟩ h
   exact .inr (.inr rfl)
  exact .inr (.inl rfl)
 exact .inl rfl
theorem nol_if (h : NoL m l t r) : ¬ (largeB m.L = true ∨ largeB m.T = true ∨ largeB m.R = true) := by
 obtain ⟨a, b, c⟩ := nol_iff.1 h
 rintro (e | e | e) <;> simp_all
theorem mot5 (h : NoL m l t r) (he : Edg m) : motE m = 5 := by unfold motE; rw [if_neg (nol_if h), if_pos he]
theorem mot1 (h : NoL m l t r) (he : ¬ Edg m) (h1 : m.T.length = 0 ∨ ¬ ∀ q ∈ bl3 m l t r, goodB q.2 = true) : motE m = 1 := by
 unfold motE; rw [if_neg (nol_if h), if_neg he, if_pos]
 rcases h1 with h1 | h1
 ·exact .inl h1
 right
 simp only [bl3, List.mem_cons, List.not_mem_nil, or_false, forall_eq_or_imp, forall_eq] at h1
 cases e1 : goodB m.L
 ·exact .inl rfl
 cases e2 : goodB m.T
 ·exact .inr (.inl rfl)
 cases e3 : goodB m.R
 ·exact .inr (.inr rfl)
 exact absurd ⟨e1, e2, e3⟩ h1
theorem good_if (h0 : ¬ m.T.length = 0) (h : ∀ q ∈ bl3 m l t r, goodB q.2 = true) : ¬ (m.T.length = 0 ∨ goodB m.L = false ∨ goodB m.T = false ∨ goodB m.R = false) := by
 simp only [bl3, List.mem_cons, List.not_mem_nil, or_false, forall_eq_or_imp, forall_eq] at h
 rintro (e | e | e | e)
 ·exact h0 e
 ·rw [h.1] at e; cases e
 ·rw [h.2.1] at e; cases e
 rw [h.2.2] at e; cases e
theorem mot1r (h : NoL m l t r) (he : ¬ Edg m) (hr : ∃ r ∈ m.T, r.length = 0) : motE m = 1 := by
 unfold motE; rw [if_neg (nol_if h), if_neg he]
 split
 ·rfl
 rw [if_neg]
 intro e
 obtain ⟨r, hr, e0⟩ := hr
 have := List.all_eq_true.1 e r hr
 simp [e0] at this
theorem mot0 (h : NoL m l t r) (he : ¬ Edg m) (h0 : ¬ m.T.length = 0) (hg : ∀ q ∈ bl3 m l t r, goodB q.2 = true) (hr : ∀ r ∈ m.T, ¬ r.length = 0) : motE m = 0 := by
 unfold motE; rw [if_neg (nol_if h), if_neg he, if_neg (good_if h0 hg), if_pos]
 exact List.all_eq_true.2 fun r h => by simpa using hr r h
theorem edg_at {i : Nat} (hi : i < 2) (h : 0 < ((bl2 m l r).getD i cq0).2.length ∧ ((bl2 m l r).getD i cq0).2.length ≠ m.T.length) : Edg m := by
 match i, hi, h with
 | 0, _, h => exact .inl ⟨by have := h.1; simp only [bl2, List.getD, List.getElem?_cons_zero, Option.getD_some] at this; omega, h.2⟩
 | 1, _, h => exact .inr ⟨by have := h.1; simp only [bl2, List.getD, List.getElem?_cons_succ, List.getElem?_cons_zero, Option.getD_some] at this; omega, h.2⟩
theorem edg_no (h : ∀ i, i < 2 → ¬ (0 < ((bl2 m l r).getD i cq0).2.length ∧ ((bl2 m l r).getD i cq0).2.length ≠ m.T.length)) : ¬ Edg m := by
 rintro (e | e)
 ·exact h 0 (by omega) ⟨Nat.pos_of_ne_zero e.1, e.2⟩
 exact h 1 (by omega) ⟨Nat.pos_of_ne_zero e.1, e.2⟩
end
theorem MotAt.len {w : World} {m : Mot} {l t r : SV} (h : MotAt w m l t r) : l.2.1 = m.L.length ∧ t.2.1 = m.T.length ∧ r.2.1 = m.R.length := ⟨sll_len h.L, sll_len h.T, sll_len h.R⟩
def PcsQ (w : World) (qs : List PQ) : Prop := ∀ q ∈ qs, MotAt w q.p.mot q.l q.t q.r
theorem PcsQ.ext {w w' : World} {qs : List PQ} (h : PcsQ w qs) (hf : Fr [] w w') : PcsQ w' qs := fun q hq => (h q hq).ext hf
theorem PcsQ.at {w : World} {qs : List PQ} (h : PcsQ w qs) {i : Nat} (hi : i < qs.length) : MotAt w (qs.getD i pq0).p.mot (qs.getD i pq0).l (qs.getD i pq0).t (qs.getD i pq0).r := h _ (getD_memS hi)
abbrev pcs (qs : List PQ) : List Pc := qs.map PQ.p
theorem pcs_get (qs : List PQ) (i : Nat) : (pcs qs).getD i pc0 = (qs.getD i pq0).p := by
 rw [List.getD, List.getD, List.getElem?_map]
 cases qs[i]? <;> rfl
structure IQ where
  nm : List UInt8
  c : SV
  ct : Int
  rows : RowL
def iq0 : IQ := ⟨[], sv0, 0, []⟩
def encIq : Enc IQ := ⟨fun q => [S q.nm, .slice q.c.1 q.c.2.1 q.c.2.2, .int .i64 q.ct], 3, fun _ => rfl, fun _ u h => by simp at h; rcases h with rfl | rfl | rfl <;> rfl, by decide⟩
def ItmQ (w : World) (qs : List IQ) : Prop := ∀ q ∈ qs, Sll encSt w (slv q.c) q.rows
theorem ItmQ.ext {w w' : World} {qs : List IQ} (h : ItmQ w qs) (hf : Fr [] w w') : ItmQ w' qs := fun q hq => (h q hq).ext hf
theorem ItmQ.at {w : World} {qs : List IQ} (h : ItmQ w qs) {i : Nat} (hi : i < qs.length) : Sll encSt w (slv (qs.getD i iq0).c) (qs.getD i iq0).rows := h _ (getD_memS hi)
end Go.G14
namespace Go.G14
open Go.Lw
def wide (c : RowL) : Bool := c.any fun r => decide (16 < r.length)
theorem wide_iff (c : RowL) : wide c = true ↔ ∃ r ∈ c, 16 < r.length := by unfold wide; simp
theorem wide_no {c : RowL} (h : ¬ wide c = true) : ∀ r ∈ c, r.length ≤ 16 := fun r hr => by
 rcases Nat.lt_or_ge 16 r.length with h1 | h1
 ·exact absurd ((wide_iff c).2 ⟨r, hr, h1⟩) h
 exact h1
theorem large_wide (c : RowL) : largeB c = (decide (31 < c.length) || wide c) := rfl
def besR (qs : List CQ) (i : Nat) : List Stitch := qs.flatMap fun q => q.2.getD i []
def besS (qs : List CQ) (h : Nat) : RowL := (List.range h).map (besR qs)
def besE (qs : List CQ) (h : Nat) : Int := if wide (besS qs h) = true then 3 else 0
theorem bes_bad {qs : List CQ} {h i : Nat} (hi : i < h) (hw : 16 < (besR qs i).length) : besE qs h = 3 := by
 rw [besE, if_pos]; exact (wide_iff _).2 ⟨_, List.mem_map.2 ⟨i, List.mem_range.2 hi, rfl⟩, hw⟩
theorem bes_good {qs : List CQ} {h : Nat} (hw : ∀ i, i < h → ¬ 16 < (besR qs i).length) : besE qs h = 0 := by
 rw [besE, if_neg]
 rw [wide_iff]; rintro ⟨r, hr, h2⟩
 obtain ⟨i, hi, rfl⟩ := List.mem_map.1 hr
 exact hw i (List.mem_range.1 hi) h2
theorem flat_snd {ps : List RQ} {l : List (List Stitch)} (h : ps.map Prod.snd = l) : ps.flatMap Prod.snd = l.flatten := by
 rw [List.flatMap_def, h]
theorem bes_flat {qs : List CQ} {ps : List RQ} {i : Nat} (h : ps.map Prod.snd = qs.map fun q => q.2.getD i []) : ps.flatMap Prod.snd = besR qs i := by
 rw [flat_snd h, besR, List.flatMap_def]
theorem take_map {α β : Type} (f : α → β) (l : List α) (i : Nat) (d : α) (h : i < l.length) : (l.take (i + 1)).map f = (l.take i).map f ++ [f (l.getD i d)] := by
 rw [List.take_add_one, List.getElem?_eq_getElem h, List.map_append, List.getD, List.getElem?_eq_getElem h]; rfl
theorem range_map_succ {β : Type} (f : Nat → β) (i : Nat) : (List.range (i + 1)).map f = (List.range i).map f ++ [f i] := by
 rw [List.range_succ, List.map_append]; rfl
theorem part_le {qs : List CQ} {i j : Nat} (hw : ∀ q ∈ qs, ∀ r ∈ q.2, r.length ≤ 16) : (((qs.take j).map fun q => q.2.getD i []).flatten).length ≤ 16 * j := by
 induction j with
 | zero => simp
 | succ j ih =>
  by_cases h : j < qs.length
  ·rw [take_map _ qs j cq0 h, List.flatten_append, List.length_append]
   have : ((qs.getD j cq0).2.getD i []).length ≤ 16 := by
    rcases Nat.lt_or_ge i (qs.getD j cq0).2.length with h1 | h1
    ·exact hw _ (getD_memS h) _ (getD_memS h1)
    rw [List.getD, List.getElem?_eq_none h1]; simp
   simp only [List.flatten_cons, List.flatten_nil, List.append_nil]; omega
  rw [List.take_of_length_le (by omega)] at ih ⊢; omega
def tilesL (m : Mot) (l t r : SV) (n : Nat) : List CQ := edgeL (l, m.L) ++ (List.replicate n (t, m.T) ++ edgeL (r, m.R))
def blkE (m : Mot) (n : Nat) : Int := if 16 < n then 3 else if wide (sideM m n) = true then 3 else 0
theorem edge_flat (q : CQ) (i : Nat) : ((edgeL q).flatMap fun q => q.2.getD i []) = q.2.getD i [] := by
 unfold edgeL
 split
 ·rename_i h; rw [List.length_eq_zero_iff.1 h]; rfl
 simp
theorem tiles_row (m : Mot) (l t r : SV) (n i : Nat) : besR (tilesL m l t r n) i = sideR m n i := by
 unfold besR tilesL sideR
 rw [List.flatMap_append, List.flatMap_append, edge_flat, edge_flat]
 congr 2
 induction n with
 | zero => rfl
 | succ n ih => rw [List.replicate_succ, List.flatMap_cons, ih, List.replicate_succ, List.flatten_cons]
theorem tiles_bes (m : Mot) (l t r : SV) (n : Nat) : besS (tilesL m l t r n) m.T.length = sideM m n := by
 unfold besS sideM; exact List.map_congr_left fun i _ => tiles_row m l t r n i
theorem edge_len (q : CQ) : (edgeL q).length ≤ 1 := by unfold edgeL; split <;> simp
theorem tiles_len (m : Mot) (l t r : SV) (n : Nat) : n ≤ (tilesL m l t r n).length ∧ (tilesL m l t r n).length ≤ n + 2 := by
 have h1 := edge_len (l, m.L)
 have h2 := edge_len (r, m.R)
 unfold tilesL
 simp only [List.length_append, List.length_replicate]; omega
theorem large_len {c : RowL} (h : largeB c = false) : c.length ≤ 31 ∧ ∀ r ∈ c, r.length ≤ 16 := by
 rw [large_wide, Bool.or_eq_false_iff, decide_eq_false_iff_not] at h
 exact ⟨by omega, wide_no (by rw [h.2]; decide)⟩
theorem mot_all {m : Mot} (h : motE m = 0) : largeB m.L = false ∧ largeB m.T = false ∧ largeB m.R = false ∧ (m.L.length = 0 ∨ m.L.length = m.T.length) ∧ (m.R.length = 0 ∨ m.R.length = m.T.length) ∧ 1 ≤ m.T.length ∧ (∀ i, i < m.T.length → m.T.getD i [] ≠ []) := by
 have ht := mot_tile h
 unfold motE at h
 split at h
 ·omega
 split at h
 ·omega
 rename_i h1 h2
 refine ⟨?_, ?_, ?_, by omega, by omega, ht.1, ht.2.1⟩
 ·cases e : largeB m.L; rfl; exact absurd (.inl e) h1
 ·cases e : largeB m.T; rfl; exact absurd (.inr (.inl e)) h1
 cases e : largeB m.R; rfl; exact absurd (.inr (.inr e)) h1
theorem tiles_mem {m : Mot} {l t r : SV} {n : Nat} {q : CQ} (hq : q ∈ tilesL m l t r n) : (q = (l, m.L) ∧ m.L.length ≠ 0) ∨ q = (t, m.T) ∨ (q = (r, m.R) ∧ m.R.length ≠ 0) := by
 unfold tilesL at hq
 rw [List.mem_append, List.mem_append] at hq
 have he : ∀ z : CQ, q ∈ edgeL z → q = z ∧ z.2.length ≠ 0 := by
  intro z hz
  unfold edgeL at hz
  split at hz
  ·cases hz
  exact ⟨List.mem_singleton.1 hz, by assumption⟩
 rcases hq with hq | hq | hq
 ·exact .inl (he _ hq)
 ·exact .inr (.inl (List.eq_of_mem_replicate hq))
 exact .inr (.inr (he _ hq))
theorem tiles_ok {m : Mot} {l t r : SV} {n : Nat} (h : motE m = 0) : (∀ q ∈ tilesL m l t r n, q.2.length = m.T.length) ∧ ∀ q ∈ tilesL m l t r n, ∀ x ∈ q.2, x.length ≤ 16 := by
 obtain ⟨a1, a2, a3, a4, a5, _⟩ := mot_all h
 refine ⟨fun q hq => ?_, fun q hq => ?_⟩
 ·rcases tiles_mem hq with ⟨rfl, h1⟩ | rfl | ⟨rfl, h1⟩
  ·exact a4.resolve_left h1
  ·rfl
  exact a5.resolve_left h1
 rcases tiles_mem hq with ⟨rfl, _⟩ | rfl | ⟨rfl, _⟩
 ·exact (large_len a1).2
 ·exact (large_len a2).2
 exact (large_len a3).2
theorem tiles_chs {w : World} {m : Mot} {l t r : SV} {n : Nat} (hm : MotAt w m l t r) : ChsQ w (tilesL m l t r n) := fun q hq => by
 rcases tiles_mem hq with ⟨rfl, _⟩ | rfl | ⟨rfl, _⟩
 ·exact hm.L
 ·exact hm.T
 exact hm.R
def abvE (qs : List CQ) : Int := if ¬ (∀ q ∈ qs, largeB q.2 = false) then 3 else if 31 < (qs.flatMap Prod.snd).length then 3 else 0
theorem rep_flat (q : CQ) : ∀ n, (List.replicate n q).flatMap Prod.snd = (List.replicate n q.2).flatten
 | 0 => rfl
 | n + 1 => by rw [List.replicate_succ, List.flatMap_cons, rep_flat q n, List.replicate_succ, List.flatten_cons]
theorem side_wide {m : Mot} {n up : Nat} (hu : 1 ≤ up) : wide (stackM m n up) = wide (sideM m n) := by
 rw [Bool.eq_iff_iff, wide_iff, wide_iff]
 constructor
 ·rintro ⟨r, hr, h⟩
  obtain ⟨c, hc, hr⟩ := List.mem_flatten.1 hr
  rw [List.eq_of_mem_replicate hc] at hr
  exact ⟨r, hr, h⟩
 rintro ⟨r, hr, h⟩
 exact ⟨r, List.mem_flatten.2 ⟨_, List.mem_replicate.2 ⟨by omega, rfl⟩, hr⟩, h⟩
theorem flat_rep_len {α : Type} (a : List α) : ∀ n : Nat, (List.replicate n a).flatten.length = n * a.length
 | 0 => by simp
 | n + 1 => by rw [List.replicate_succ, List.flatten_cons, List.length_append, flat_rep_len a n, Nat.add_mul]; omega
theorem side_long {m : Mot} {n : Nat} (h : motE m = 0) (hn : 16 < n) : wide (sideM m n) = true := by
 obtain ⟨_, _, _, _, _, t1, t2⟩ := mot_all h
 refine (wide_iff _).2 ⟨sideR m n 0, List.mem_map.2 ⟨0, List.mem_range.2 (by omega), rfl⟩, ?_⟩
 unfold sideR
 rw [List.length_append, List.length_append, flat_rep_len]
 have : 1 ≤ (m.T.getD 0 []).length := List.length_pos_iff.2 (t2 0 (by omega))
 have : n * 1 ≤ n * (m.T.getD 0 []).length := Nat.mul_le_mul_left _ this
 omega
theorem stk_mot {m : Mot} {n up : Int} (h : motE m ≠ 0) : stackE m n up = motE m := if_pos h
theorem stk_arg {m : Mot} {n up : Int} (h : motE m = 0) (h1 : n < 1 ∨ up < 1) : stackE m n up = 1 := by
 unfold stackE; rw [if_neg (by omega), if_pos h1]
theorem stk_up {m : Mot} {n up : Int} (h : motE m = 0) (h1 : ¬ (n < 1 ∨ up < 1)) (h2 : 31 < up) : stackE m n up = 3 := by
 unfold stackE; rw [if_neg (by omega), if_neg h1, if_pos]
 rw [large_wide, Bool.or_eq_true, decide_eq_true_eq, stackM_len]
 left
 have t1 := (mot_all h).2.2.2.2.2.1
 have : up.toNat * 1 ≤ up.toNat * m.T.length := Nat.mul_le_mul_left _ t1
 omega
theorem stk_blk {m : Mot} {n up : Int} (h : motE m = 0) (h1 : ¬ (n < 1 ∨ up < 1)) (h2 : blkE m n.toNat ≠ 0) : stackE m n up = 3 ∧ blkE m n.toNat = 3 := by
 have hb : blkE m n.toNat = 3 ∧ wide (sideM m n.toNat) = true := by
  unfold blkE at h2 ⊢
  split
  ·rename_i hh; exact ⟨rfl, side_long h hh⟩
  rename_i hh
  rw [if_neg hh] at h2
  split
  ·exact ⟨rfl, by assumption⟩
  rename_i h3; rw [if_neg h3] at h2; exact absurd rfl h2
 refine ⟨?_, hb.1⟩
 unfold stackE; rw [if_neg (by omega), if_neg h1, if_pos]
 rw [large_wide, side_wide (by omega), hb.2]; simp
theorem blk_of {m : Mot} {n : Nat} (h2 : blkE m n = 0) : n ≤ 16 ∧ ¬ wide (sideM m n) = true := by
 unfold blkE at h2
 split at h2
 ·omega
 split at h2
 ·omega
 exact ⟨by omega, by assumption⟩
theorem stk_abv {m : Mot} {n up : Int} {s : SV} (h : motE m = 0) (h1 : ¬ (n < 1 ∨ up < 1)) (h2 : blkE m n.toNat = 0) : abvE (List.replicate up.toNat (s, sideM m n.toNat)) = (if 31 < (stackM m n.toNat up.toNat).length then 3 else 0) ∧ (abvE (List.replicate up.toNat (s, sideM m n.toNat)) ≠ 0 → stackE m n up = 3) ∧ (abvE (List.replicate up.toNat (s, sideM m n.toNat)) = 0 → stackE m n up = chartE (stackM m n.toNat up.toNat)) := by
 obtain ⟨b1, b2⟩ := blk_of h2
 have t3 := (mot_tile h).2.2
 have hl : largeB (sideM m n.toNat) = false := by
  rw [large_wide, Bool.or_eq_false_iff, decide_eq_false_iff_not, sideM_len]
  exact ⟨by omega, by simpa using b2⟩
 have e1 : abvE (List.replicate up.toNat (s, sideM m n.toNat)) = if 31 < (stackM m n.toNat up.toNat).length then 3 else 0 := by
  unfold abvE
  rw [if_neg (fun hh => hh fun q hq => by rw [List.eq_of_mem_replicate hq]; exact hl), rep_flat]; rfl
 refine ⟨e1, fun e => ?_, fun e => ?_⟩
 ·rw [e1] at e
  unfold stackE; rw [if_neg (by omega), if_neg h1, if_pos]
  rw [large_wide, Bool.or_eq_true, decide_eq_true_eq]
  left
  split at e
  ·assumption
  exact absurd rfl e
 rw [e1] at e
 unfold stackE; rw [if_neg (by omega), if_neg h1, if_neg]
 rw [large_wide, side_wide (by omega), Bool.or_eq_true, decide_eq_true_eq]
 rintro (hh | hh)
 ·rw [if_pos hh] at e; omega
 exact b2 hh
theorem slln {α : Type} {E : Enc α} (w : World) : Sll E w (.slice none 0 0) [] := ⟨[], Sl.nil w, rfl, fun i p r hp => by simp at hp⟩
theorem tks_flat (m : Mot) (l t r p q s : SV) (n : Nat) : ([(p, edgeL (l, m.L)), (q, List.replicate n (t, m.T)), (s, edgeL (r, m.R))] : List KQ).flatMap Prod.snd = tilesL m l t r n := by simp [tilesL]
theorem blk_bes {m : Mot} {l t r : SV} {n : Nat} (h : ¬ 16 < n) : besE (tilesL m l t r n) m.T.length = blkE m n := by
 unfold besE blkE; rw [tiles_bes, if_neg h]
theorem take_one {α : Type} (l : List α) (j : Nat) (d : α) (h : j < l.length) : l.take (j + 1) = l.take j ++ [l.getD j d] := by
 rw [List.take_add_one, List.getElem?_eq_getElem h, List.getD, List.getElem?_eq_getElem h]; rfl
theorem ownT_dis {α β : Type} {E : Enc α} {E' : Enc β} {T T' b b' : Nat} {w : World} {v v' : Value} {xs : List α} {ys : List β} (h : Lw.Own E T b w v xs) (h' : Lw.Own E' T' b' w v' ys) (hT : T ≠ T') : ∀ k ∈ blks v, k ∉ blks v' := by
 intro k hk hk'
 rcases h with ⟨rfl, rfl⟩ | ⟨g, c, cur, rfl, _, hg, _⟩
 ·cases hk
 rcases h' with ⟨rfl, rfl⟩ | ⟨g', c', cur', rfl, _, hg', _⟩
 ·cases hk'
 simp only [blks, List.mem_singleton] at hk hk'
 subst hk; subst hk'
 rw [hg] at hg'; cases hg'; exact hT rfl
theorem RwO.frT {T N Ro b : Nat} {w w' : World} {qs : List RQ} {α : Type} {E : Enc α} {v : Value} {xs : List α} (h : RwO T N w qs) (hf : Fr (blks v) w w') (ho : Lw.Own E Ro b w v xs) (hT : Ro ≠ T) : RwO T N w' qs :=
 fun q hq => (h q hq).fr hf fun k hk hb => ownT_dis ho (h q hq) hT k hk hb
theorem RwO.low {T N M : Nat} {w : World} {qs : List RQ} (h : RwO T N w qs) (hM : M ≤ N) : RwO T M w qs := fun q hq => (h q hq).low hM
def OwR (R T N : Nat) (w : World) (X : Value) (rows : RowL) : Prop := ∃ qs : List RQ, Lw.Own encRq R N w X qs ∧ RwO T N w qs ∧ qs.map Prod.snd = rows
section
variable {R T N : Nat} {w w' : World} {X : Value} {rows : RowL}
theorem OwR.fr {S : List Nat} (h : OwR R T N w X rows) (hf : Fr S w w') (hS : ∀ k ∈ S, k < N) : OwR R T N w' X rows := by
 obtain ⟨qs, h1, h2, h3⟩ := h
 exact ⟨qs, h1.fr hf (fun k hk hb => by have := (h1.blk k hb).1; have := hS k hk; omega), h2.fr hf hS, h3⟩
theorem OwR.ext (h : OwR R T N w X rows) (hf : Fr [] w w') : OwR R T N w' X rows := h.fr hf (by simp)
theorem OwR.sll (h : OwR R T N w X rows) : Sll encSt w X rows := by
 obtain ⟨qs, h1, h2, h3⟩ := h
 rw [← h3]; exact sll_of h1.sl h2.q
theorem OwR.low {M : Nat} (h : OwR R T N w X rows) (hM : M ≤ N) : OwR R T M w X rows := by
 obtain ⟨qs, h1, h2, h3⟩ := h
 exact ⟨qs, h1.low hM, h2.low hM, h3⟩
theorem OwR.form (h : OwR R T N w X rows) : ∃ A c, X = .slice A rows.length c ∧ rows.length ≤ c := by
 obtain ⟨A, c, e, h1, _⟩ := h.sll.form
 exact ⟨A, c, e, h1⟩
theorem OwR.nil (w : World) : OwR R T N w (.slice none 0 0) [] := ⟨[], Own.nil w, RwO.nil, rfl⟩
end
def ItmO (R T N : Nat) (w : World) (its : List IQ) : Prop := ∀ q ∈ its, OwR R T N w (slv q.c) q.rows
theorem ItmO.fr {R T N : Nat} {w w' : World} {its : List IQ} {S : List Nat} (h : ItmO R T N w its) (hf : Fr S w w') (hS : ∀ k ∈ S, k < N) : ItmO R T N w' its := fun q hq => (h q hq).fr hf hS
theorem ItmO.ext {R T N : Nat} {w w' : World} {its : List IQ} (h : ItmO R T N w its) (hf : Fr [] w w') : ItmO R T N w' its := h.fr hf (by simp)
theorem ItmO.nil {R T N : Nat} {w : World} : ItmO R T N w [] := fun q hq => by cases hq
theorem ItmO.snoc {R T N : Nat} {w : World} {its : List IQ} {q : IQ} (h : ItmO R T N w its) (hq : OwR R T N w (slv q.c) q.rows) : ItmO R T N w (its ++ [q]) := fun x hx => by
 rcases List.mem_append.1 hx with hx | hx
 ·exact h x hx
 rw [List.mem_singleton.1 hx]; exact hq
theorem ItmO.low {R T N M : Nat} {w : World} {its : List IQ} (h : ItmO R T N w its) (hM : M ≤ N) : ItmO R T M w its := fun q hq => (h q hq).low hM
theorem ItmO.q {R T N : Nat} {w : World} {its : List IQ} (h : ItmO R T N w its) : ItmQ w its := fun q hq => (h q hq).sll
def itmOf (size : Int) (p : Pc) (q : IQ) : Prop := q.nm = p.nm ∧ q.ct = p.ct ∧ q.rows = chartP size p
theorem charts_at {size : Int} : ∀ {qs : List PQ} {i : Nat}, i < qs.length → (∀ j, j < i → stackE (qs.getD j pq0).p.mot (tiles (qs.getD j pq0).p size) (qs.getD j pq0).p.up = 0) → stackE (qs.getD i pq0).p.mot (tiles (qs.getD i pq0).p size) (qs.getD i pq0).p.up ≠ 0 → chartsE size (pcs qs) = stackE (qs.getD i pq0).p.mot (tiles (qs.getD i pq0).p size) (qs.getD i pq0).p.up
 | [], i, h, _, _ => by simp at h
 | q :: qs, 0, _, _, h => by
  show (if stackE q.p.mot (tiles q.p size) q.p.up ≠ 0 then _ else _) = _
  rw [if_pos (show stackE q.p.mot (tiles q.p size) q.p.up ≠ 0 from h)]; rfl
 | q :: qs, i + 1, hl, hb, h => by
  have h0 : stackE q.p.mot (tiles q.p size) q.p.up = 0 := hb 0 (by omega)
  show (if stackE q.p.mot (tiles q.p size) q.p.up ≠ 0 then _ else chartsE size (pcs qs)) = _
  rw [if_neg (by omega)]
  exact charts_at (qs := qs) (i := i) (by simp at hl; omega) (fun j hj => hb (j + 1) (by omega)) h
theorem charts_no {size : Int} : ∀ {qs : List PQ}, (∀ j, j < qs.length → stackE (qs.getD j pq0).p.mot (tiles (qs.getD j pq0).p size) (qs.getD j pq0).p.up = 0) → chartsE size (pcs qs) = 0
 | [], _ => rfl
 | q :: qs, hb => by
  have h0 : stackE q.p.mot (tiles q.p size) q.p.up = 0 := hb 0 (by simp)
  show (if stackE q.p.mot (tiles q.p size) q.p.up ≠ 0 then _ else chartsE size (pcs qs)) = _
  rw [if_neg (by omega)]
  exact charts_no (qs := qs) fun j hj => hb (j + 1) (by simp; omega)
theorem make_a {nm : List UInt8} {ps : List Pc} {size : Int} (h : garE nm ps ≠ 0) : makeE nm ps size = garE nm ps := if_pos h
theorem make_b {nm : List UInt8} {ps : List Pc} {size : Int} (h : garE nm ps = 0) (h2 : size < 0 ∨ 9 < size) : makeE nm ps size = 1 := by unfold makeE; rw [if_neg (by omega), if_pos h2]
theorem make_c {nm : List UInt8} {ps : List Pc} {size : Int} (h : garE nm ps = 0) (h2 : ¬ (size < 0 ∨ 9 < size)) : makeE nm ps size = chartsE size ps := by unfold makeE; rw [if_neg (by omega), if_neg h2]
theorem tiles_rng {p : Pc} {size : Int} (h : rightB p = true) (h0 : 0 ≤ size) (h9 : size ≤ 9) : 0 ≤ size * p.st ∧ size * p.st ≤ 36 ∧ 1 ≤ tiles p size ∧ tiles p size ≤ 52 := by
 obtain ⟨_, r1, r2, r3, r4, _⟩ := right_of h
 have e1 := Int.mul_nonneg h0 r3
 have e2 : size * p.st ≤ 9 * 4 := Int.mul_le_mul h9 r4 r3 (by omega)
 unfold tiles; omega
section
variable {R T N : Nat} {w w' : World} {cs : List CQ}
theorem OwR.frT {α : Type} {E : Enc α} {Ro b : Nat} {v X : Value} {xs : List α} {rows : RowL} (h : OwR R T N w X rows) (hf : Fr (blks v) w w') (ho : Lw.Own E Ro b w v xs) (h1 : Ro ≠ R) (h2 : Ro ≠ T) : OwR R T N w' X rows := by
 obtain ⟨qs, a1, a2, a3⟩ := h
 exact ⟨qs, a1.fr hf fun k hk hb => ownT_dis ho a1 h1 k hk hb, a2.frT hf ho h2, a3⟩
end
def sizesTo (nm : List UInt8) (ps : List Pc) (i : Nat) : List Int := ((List.range i).filter fun s : Nat => decide (makeE nm ps (s : Int) = 0)).map fun s : Nat => (s : Int)
theorem sizes_yes {nm : List UInt8} {ps : List Pc} {i : Nat} (h : makeE nm ps (i : Int) = 0) : sizesTo nm ps (i + 1) = sizesTo nm ps i ++ [(i : Int)] := by
 unfold sizesTo; rw [List.range_succ, List.filter_append, List.map_append]; simp [h]
theorem sizes_no {nm : List UInt8} {ps : List Pc} {i : Nat} (h : ¬ makeE nm ps (i : Int) = 0) : sizesTo nm ps (i + 1) = sizesTo nm ps i := by
 unfold sizesTo; rw [List.range_succ, List.filter_append, List.map_append]; simp [h]
theorem sizes_len (nm : List UInt8) (ps : List Pc) (i : Nat) : (sizesTo nm ps i).length ≤ i := by
 unfold sizesTo; rw [List.length_map]
 exact Nat.le_trans (List.length_filter_le _ _) (by simp)
end Go.G14
namespace Go.G14
open Go.Lw
theorem own_rq {R N : Nat} {w : World} {v : Value} {ps : List RQ} (h : Lw.Own Enc.sl R N w v (ps.map Prod.fst)) : Lw.Own encRq R N w v ps := by
 rcases h with ⟨e, h⟩ | ⟨g, cap, cur, e, h1, h2, h3, h4, h5, h6⟩
 ·exact .inl ⟨e, by simpa using h⟩
 rw [List.length_map] at e h3 h6
 refine .inr ⟨g, cap, cur, e, h1, h2, h3, h4, h5, ?_⟩
 have e1 : (ps.map Prod.fst).flatMap Enc.sl.enc = ps.flatMap encRq.enc := by
  rw [List.flatMap_map]; rfl
 rw [← e1]; exact h6
theorem owr_of {R T N : Nat} {w : World} {X : Value} {ps : List RQ} (h : RowsO R T N w X ps) : OwR R T N w X (ps.map Prod.snd) := ⟨ps, own_rq h.out, h.ins, rfl⟩
def BytesAt (w : World) (hs : List SV) : Prop := ∀ p ∈ hs, ∃ cs, Sl Enc.b w (slv p) cs
theorem BytesAt.ext {w w' : World} {hs : List SV} (h : BytesAt w hs) (hf : Fr [] w w') : BytesAt w' hs := fun p hp => (h p hp).imp fun _ x => x.ext hf
def goodM (c : RowL) : Prop := ∀ r ∈ c, goodRow r
theorem good_rng {c : RowL} (h : goodM c) : rowsR c := fun r hr s hs => by
 have := check_rng ((okB_iff s).1 (List.all_eq_true.1 (h r hr).2.1 s hs))
 omega
theorem good_nil : goodM [] := fun r hr => by cases hr
structure MotO (R0 T0 N : Nat) (w : World) (X Y Z : Value) (m : Mot) : Prop where
  L : OwR R0 T0 N w X m.L
  T : OwR R0 T0 N w Y m.T
  R : OwR R0 T0 N w Z m.R
  gL : goodM m.L
  gT : goodM m.T
  gR : goodM m.R
theorem MotO.fr {R0 T0 N : Nat} {w w' : World} {X Y Z : Value} {m : Mot} {S : List Nat} (h : MotO R0 T0 N w X Y Z m) (hf : Fr S w w') (hS : ∀ k ∈ S, k < N) : MotO R0 T0 N w' X Y Z m := ⟨h.L.fr hf hS, h.T.fr hf hS, h.R.fr hf hS, h.gL, h.gT, h.gR⟩
theorem MotO.ext {R0 T0 N : Nat} {w w' : World} {X Y Z : Value} {m : Mot} (h : MotO R0 T0 N w X Y Z m) (hf : Fr [] w w') : MotO R0 T0 N w' X Y Z m := h.fr hf (by simp)
theorem MotO.low {R0 T0 N M : Nat} {w : World} {X Y Z : Value} {m : Mot} (h : MotO R0 T0 N w X Y Z m) (hM : M ≤ N) : MotO R0 T0 M w X Y Z m := ⟨h.L.low hM, h.T.low hM, h.R.low hM, h.gL, h.gT, h.gR⟩
theorem MotO.at {R0 T0 N : Nat} {w : World} {l t r : SV} {m : Mot} (h : MotO R0 T0 N w (slv l) (slv t) (slv r) m) : MotAt w m l t r := ⟨h.L.sll, h.T.sll, h.R.sll, good_rng h.gL, good_rng h.gT, good_rng h.gR⟩
structure QD where
  ht : Int
  ed : Int
  lw : Int
  l : SV
  tw : Int
  t : SV
  rw : Int
  r : SV
  ba : Int
  st : Int
  up : Int
  ct : Int
def qd0 : QD := ⟨0, 0, 0, (none, 0, 0), 0, (none, 0, 0), 0, (none, 0, 0), 0, 0, 0, 0⟩
def encQd : Enc QD := ⟨fun q => [.int .u8 q.ht, .int .u8 q.ed, .int .u8 q.lw, .slice q.l.1 q.l.2.1 q.l.2.2, .int .u8 q.tw, .slice q.t.1 q.t.2.1 q.t.2.2, .int .u8 q.rw, .slice q.r.1 q.r.2.1 q.r.2.2, .int .u8 q.ba, .int .u8 q.st, .int .u8 q.up, .int .u8 q.ct], 12, fun _ => rfl, fun _ u h => by simp at h; rcases h with rfl | rfl | rfl | rfl | rfl | rfl | rfl | rfl | rfl | rfl | rfl | rfl <;> rfl, by decide⟩
def CAt (w : World) (v : SV) : Prop := ∃ hs, Sl Enc.sl w (slv v) hs ∧ BytesAt w hs
theorem CAt.ext {w w' : World} {v : SV} (h : CAt w v) (hf : Fr [] w w') : CAt w' v := by obtain ⟨hs, a, b⟩ := h; exact ⟨hs, a.ext hf, b.ext hf⟩
theorem CAt.nil (w : World) : CAt w (none, 0, 0) := ⟨[], Sl.nil w, fun p hp => by cases hp⟩
structure QAt (w : World) (q : QD) : Prop where
  l : CAt w q.l
  t : CAt w q.t
  r : CAt w q.r
  rg : (0 ≤ q.ht ∧ q.ht ≤ 255) ∧ (0 ≤ q.ed ∧ q.ed ≤ 255) ∧ (0 ≤ q.lw ∧ q.lw ≤ 255) ∧ (0 ≤ q.tw ∧ q.tw ≤ 255) ∧ (0 ≤ q.rw ∧ q.rw ≤ 255) ∧ (0 ≤ q.ba ∧ q.ba ≤ 255) ∧ (0 ≤ q.st ∧ q.st ≤ 255) ∧ (0 ≤ q.up ∧ q.up ≤ 255) ∧ (0 ≤ q.ct ∧ q.ct ≤ 255)
theorem QAt.ext {w w' : World} {q : QD} (h : QAt w q) (hf : Fr [] w w') : QAt w' q := ⟨h.l.ext hf, h.t.ext hf, h.r.ext hf, h.rg⟩
theorem QAt.zero (w : World) : QAt w qd0 := ⟨CAt.nil w, CAt.nil w, CAt.nil w, by simp [qd0]⟩
def PcsO (R0 T0 N : Nat) (w : World) (qs : List PQ) : Prop := ∀ q ∈ qs, MotO R0 T0 N w (slv q.l) (slv q.t) (slv q.r) q.p.mot
theorem own_ty {α : Type} {E : Enc α} {R0 N T : Nat} {w : World} {v : Value} {ys : List α} {cs : List Value} (h : Lw.Own E R0 N w v ys) {k : Nat} (hk : k ∈ blks v) (hb : Blk w k T cs) : T = R0 := by
 rcases h with ⟨rfl, -⟩ | ⟨g, cap, cur, rfl, _, hg, _⟩
 ·cases hk
 obtain rfl : k = g := by simpa [blks] using hk
 have hb2 : w.heap[k]? = some (.cells cs.toArray T (0, 0)) := hb
 rw [hg] at hb2
 cases hb2; rfl
def Apart (R0 T0 N : Nat) (w : World) (S : List Nat) : Prop := ∀ k ∈ S, k < N ∨ ∃ (T : Nat) (cs : List Value), Blk w k T cs ∧ T ≠ R0 ∧ T ≠ T0
theorem own_apart {α : Type} {E : Enc α} {R0 T0 R1 N M : Nat} {w : World} {v : Value} {ys : List α} (h : Lw.Own E R1 M w v ys) (h1 : R1 ≠ R0) (h2 : R1 ≠ T0) : Apart R0 T0 N w (blks v) := fun k hk => by
 rcases h with ⟨rfl, -⟩ | ⟨g, cap, cur, rfl, _, hg, _⟩
 ·cases hk
 obtain rfl : k = g := by simpa [blks] using hk
 exact .inr ⟨_, cur.toList, hg, h1, h2⟩
theorem own_ap {α : Type} {E : Enc α} {R0 R1 T0 N : Nat} {w w' : World} {v : Value} {ys : List α} {S : List Nat} (h : Lw.Own E R1 N w v ys) (hf : Fr S w w') (hS : Apart R0 T0 N w S) (hR : R1 = R0 ∨ R1 = T0) : Lw.Own E R1 N w' v ys := h.fr hf fun k hk hb => by
 rcases hS k hk with h1 | ⟨T, cs, h1, h2, h3⟩
 ·have := (h.blk k hb).1; omega
 have := own_ty h hb h1; rcases hR with e | e <;> omega
theorem OwR.fap {R0 T0 N : Nat} {w w' : World} {X : Value} {rows : RowL} {S : List Nat} (h : OwR R0 T0 N w X rows) (hf : Fr S w w') (hS : Apart R0 T0 N w S) : OwR R0 T0 N w' X rows := by
 obtain ⟨qs, h1, h2, h3⟩ := h
 exact ⟨qs, own_ap h1 hf hS (.inl rfl), fun q hq => own_ap (h2 q hq) hf hS (.inr rfl), h3⟩
theorem PcsO.fr {R0 T0 N : Nat} {w w' : World} {qs : List PQ} {S : List Nat} (h : PcsO R0 T0 N w qs) (hf : Fr S w w') (hS : Apart R0 T0 N w S) : PcsO R0 T0 N w' qs := fun q hq =>
 ⟨(h q hq).L.fap hf hS, (h q hq).T.fap hf hS, (h q hq).R.fap hf hS, (h q hq).gL, (h q hq).gT, (h q hq).gR⟩
theorem PcsO.ext {R0 T0 N : Nat} {w w' : World} {qs : List PQ} (h : PcsO R0 T0 N w qs) (hf : Fr [] w w') : PcsO R0 T0 N w' qs := h.fr hf (fun k hk => by cases hk)
theorem PcsO.low {R0 T0 N M : Nat} {w : World} {qs : List PQ} (h : PcsO R0 T0 N w qs) (hM : M ≤ N) : PcsO R0 T0 M w qs := fun q hq => (h q hq).low hM
theorem PcsO.nil {R0 T0 N : Nat} {w : World} : PcsO R0 T0 N w [] := fun q hq => by cases hq
theorem PcsO.snoc {R0 T0 N : Nat} {w : World} {qs : List PQ} {q : PQ} (h : PcsO R0 T0 N w qs) (hq : MotO R0 T0 N w (slv q.l) (slv q.t) (slv q.r) q.p.mot) : PcsO R0 T0 N w (qs ++ [q]) := fun x hx => by
 rcases List.mem_append.1 hx with hx | hx
 ·exact h x hx
 rw [List.mem_singleton.1 hx]; exact hq
theorem PcsO.q {R0 T0 N : Nat} {w : World} {qs : List PQ} (h : PcsO R0 T0 N w qs) : PcsQ w qs := fun q hq => (h q hq).at
theorem MotO.frT {α : Type} {E : Enc α} {R0 T0 N Ro b : Nat} {w w' : World} {v X Y Z : Value} {xs : List α} {m : Mot} (h : MotO R0 T0 N w X Y Z m) (hf : Fr (blks v) w w') (ho : Lw.Own E Ro b w v xs) (h1 : Ro ≠ R0) (h2 : Ro ≠ T0) : MotO R0 T0 N w' X Y Z m :=
 ⟨h.L.frT hf ho h1 h2, h.T.frT hf ho h1 h2, h.R.frT hf ho h1 h2, h.gL, h.gT, h.gR⟩
theorem PcsO.frT {α : Type} {E : Enc α} {R0 T0 N Ro b : Nat} {w w' : World} {v : Value} {xs : List α} {qs : List PQ} (h : PcsO R0 T0 N w qs) (hf : Fr (blks v) w w') (ho : Lw.Own E Ro b w v xs) (h1 : Ro ≠ R0) (h2 : Ro ≠ T0) : PcsO R0 T0 N w' qs := fun q hq => (h q hq).frT hf ho h1 h2
def QsAt (w : World) (ys : List QD) : Prop := ∀ q ∈ ys, QAt w q
theorem QsAt.ext {w w' : World} {ys : List QD} (h : QsAt w ys) (hf : Fr [] w w') : QsAt w' ys := fun q hq => (h q hq).ext hf
def ofN : List (List UInt8) := [[102, 114, 111, 110, 116], [98, 97, 99, 107], [97], [122, 122, 122, 122, 122, 122, 122, 122, 122, 122, 122, 122, 122, 122, 122, 122]]
end Go.G14
namespace Go.G14
open Go.Lw
def pickS (ls : List Int) (i ny : Nat) (ch : Int) : Stitch :=
  if ch % 16 = 1 ∨ ch % 16 = 2 then ⟨2, 1 + ch / 16 % 3, 0, 0, false⟩
  else if ch % 16 = 3 then (if (ny : Int) + ((ls.length : Int) - i) < 8 then ⟨3, 1 + ch / 16 % 3, 0, 0, false⟩ else ⟨1, 1 + ch / 16 % 3, 0, 0, false⟩)
  else if ch % 16 = 4 ∨ ch % 16 = 5 then (if 1 < (ls.length : Int) - i ∧ ls.getD i 0 + ls.getD (i + 1) 0 ≤ 4 then ⟨4 + (ch % 16 - 4), 1 + ch / 16 % 3, 0, 0, false⟩ else ⟨1, 1 + ch / 16 % 3, 0, 0, false⟩)
  else if ch % 16 = 6 ∨ ch % 16 = 7 then (if ls.getD i 0 < 3 then ⟨6, 1 + ch / 16 % 3, 0, 0, false⟩ else ⟨1, 1 + ch / 16 % 3, 0, 0, false⟩)
  else if ch % 16 = 8 ∨ ch % 16 = 9 then ⟨7, 1 + ch / 16 % 3, 0, 0, false⟩
  else if 10 ≤ ch % 16 ∧ ch % 16 ≤ 14 then
    (if (kOfS 7 0 (ch - ch / 16 * 16) (decide (128 ≤ ch))).a + (kOfS 7 0 (ch - ch / 16 * 16) (decide (128 ≤ ch))).b ≤ (ls.length : Int) - i then
      ⟨(kOfS 7 0 (ch - ch / 16 * 16) (decide (128 ≤ ch))).k, 1 + ch / 16 % 3, (kOfS 7 0 (ch - ch / 16 * 16) (decide (128 ≤ ch))).a, (kOfS 7 0 (ch - ch / 16 * 16) (decide (128 ≤ ch))).b, (kOfS 7 0 (ch - ch / 16 * 16) (decide (128 ≤ ch))).f⟩
    else ⟨1, 1 + ch / 16 % 3, 0, 0, false⟩)
  else ⟨1, 1 + ch / 16 % 3, 0, 0, false⟩
theorem getD_of {α : Type} {l : List α} {i : Nat} {x d : α} (h : l[i]? = some x) : l.getD i d = x := by simp [List.getD, h]
theorem getD_out {α : Type} {l : List α} {i : Nat} {d : α} (h : l.length ≤ i) : l.getD i d = d := by simp [List.getD, List.getElem?_eq_none h]
theorem pick_purl {ls : List Int} {i ny : Nat} {ch : Int} (h : ch % 16 = 1 ∨ ch % 16 = 2) : (⟨2, 1 + ch / 16 % 3, 0, 0, false⟩ : Stitch) = pickS ls i ny ch := by rw [pickS, if_pos h]
theorem pick_over {ls : List Int} {i ny : Nat} {ch : Int} (h : ch % 16 = 3) (h2 : (ny : Int) + ((ls.length : Int) - i) < 8) : (⟨3, 1 + ch / 16 % 3, 0, 0, false⟩ : Stitch) = pickS ls i ny ch := by rw [pickS, if_neg (by omega), if_pos h, if_pos h2]
theorem pick_over' {ls : List Int} {i ny : Nat} {ch : Int} (h : ch % 16 = 3) (h2 : ¬ (ny : Int) + ((ls.length : Int) - i) < 8) : (⟨1, 1 + ch / 16 % 3, 0, 0, false⟩ : Stitch) = pickS ls i ny ch := by rw [pickS, if_neg (by omega), if_pos h, if_neg h2]
theorem pick_two {ls : List Int} {i ny : Nat} {ch p q : Int} (hp : ls[i]? = some p) (hq : ls[i + 1]? = some q) (h : ch % 16 = 4 ∨ ch % 16 = 5) (h2 : 1 < (ls.length : Int) - i) (h3 : p + q ≤ 4) : (⟨4 + (ch % 16 - 4), 1 + ch / 16 % 3, 0, 0, false⟩ : Stitch) = pickS ls i ny ch := by
 rw [pickS, if_neg (by omega), if_neg (by omega), if_pos h, if_pos ⟨h2, by rw [getD_of hp, getD_of hq]; exact h3⟩]
theorem pick_two' {ls : List Int} {i ny : Nat} {ch p q : Int} (hp : ls[i]? = some p) (hq : ls[i + 1]? = some q) (h : ch % 16 = 4 ∨ ch % 16 = 5) (h3 : ¬ p + q ≤ 4) : (⟨1, 1 + ch / 16 % 3, 0, 0, false⟩ : Stitch) = pickS ls i ny ch := by
 rw [pickS, if_neg (by omega), if_neg (by omega), if_pos h, if_neg (fun e => h3 (by rw [getD_of hp, getD_of hq] at e; exact e.2))]
theorem pick_twox {ls : List Int} {i ny : Nat} {ch : Int} (h : ch % 16 = 4 ∨ ch % 16 = 5) (h2 : ¬ 1 < (ls.length : Int) - i) : (⟨1, 1 + ch / 16 % 3, 0, 0, false⟩ : Stitch) = pickS ls i ny ch := by
 rw [pickS, if_neg (by omega), if_neg (by omega), if_pos h, if_neg (fun e => h2 e.1)]
theorem pick_tuck {ls : List Int} {i ny : Nat} {ch p : Int} (hp : ls[i]? = some p) (h : ch % 16 = 6 ∨ ch % 16 = 7) (h3 : p < 3) : (⟨6, 1 + ch / 16 % 3, 0, 0, false⟩ : Stitch) = pickS ls i ny ch := by
 rw [pickS, if_neg (by omega), if_neg (by omega), if_neg (by omega), if_pos h, if_pos (by rw [getD_of hp]; exact h3)]
theorem pick_tuck' {ls : List Int} {i ny : Nat} {ch p : Int} (hp : ls[i]? = some p) (h : ch % 16 = 6 ∨ ch % 16 = 7) (h3 : ¬ p < 3) : (⟨1, 1 + ch / 16 % 3, 0, 0, false⟩ : Stitch) = pickS ls i ny ch := by
 rw [pickS, if_neg (by omega), if_neg (by omega), if_neg (by omega), if_pos h, if_neg (by rw [getD_of hp]; exact h3)]
theorem pick_slip {ls : List Int} {i ny : Nat} {ch : Int} (h : ch % 16 = 8 ∨ ch % 16 = 9) : (⟨7, 1 + ch / 16 % 3, 0, 0, false⟩ : Stitch) = pickS ls i ny ch := by
 rw [pickS, if_neg (by omega), if_neg (by omega), if_neg (by omega), if_neg (by omega), if_pos h]
theorem pick_cable {ls : List Int} {i ny : Nat} {ch : Int} {kx : Stitch} (hk : kx = kOfS 7 0 (ch - ch / 16 * 16) (decide (128 ≤ ch))) (h : 10 ≤ ch % 16 ∧ ch % 16 ≤ 14) (h2 : kx.a + kx.b ≤ (ls.length : Int) - i) : (⟨kx.k, 1 + ch / 16 % 3, kx.a, kx.b, kx.f⟩ : Stitch) = pickS ls i ny ch := by
 rw [pickS, if_neg (by omega), if_neg (by omega), if_neg (by omega), if_neg (by omega), if_neg (by omega), if_pos h, ← hk, if_pos h2]
theorem pick_cable' {ls : List Int} {i ny : Nat} {ch : Int} {kx : Stitch} (hk : kx = kOfS 7 0 (ch - ch / 16 * 16) (decide (128 ≤ ch))) (h : 10 ≤ ch % 16 ∧ ch % 16 ≤ 14) (h2 : ¬ kx.a + kx.b ≤ (ls.length : Int) - i) : (⟨1, 1 + ch / 16 % 3, 0, 0, false⟩ : Stitch) = pickS ls i ny ch := by
 rw [pickS, if_neg (by omega), if_neg (by omega), if_neg (by omega), if_neg (by omega), if_neg (by omega), if_pos h, ← hk, if_neg h2]
theorem pick_knit {ls : List Int} {i ny : Nat} {ch : Int} (h : ch % 16 = 0 ∨ ch % 16 = 15) : (⟨1, 1 + ch / 16 % 3, 0, 0, false⟩ : Stitch) = pickS ls i ny ch := by
 rw [pickS, if_neg (by omega), if_neg (by omega), if_neg (by omega), if_neg (by omega), if_neg (by omega), if_neg (by omega)]
abbrev FP (ls : List Int) (i ny : Nat) (ch : Int) (s : Stitch) : Prop := Fit ls i ny s ∧ s = pickS ls i ny ch
section
variable {ls : List Int} {i ny : Nat} {ch p q : Int}
abbrev FH (ls : List Int) (i : Nat) (ch : Int) : Prop := 0 ≤ ch ∧ ch ≤ 255 ∧ i < ls.length ∧ ls.all few = true
theorem f1 (H : FH ls i ch) (h : ch % 16 = 1 ∨ ch % 16 = 2 := by omega) : FP ls i ny ch ⟨2, 1 + ch / 16 % 3, 0, 0, false⟩ := ⟨fitP (by omega) (by have := H.1; omega) H.2.2.1 H.2.2.2, pick_purl h⟩
theorem f2 (H : FH ls i ch) (h : ch % 16 = 3 := by omega) (h2 : (ny : Int) + ((ls.length : Int) - i) < 8 := by omega) : FP ls i ny ch ⟨3, 1 + ch / 16 % 3, 0, 0, false⟩ := ⟨fitO rfl (by have := H.1; omega) (by have := H.2.2.1; omega) H.2.2.2 (by have := H.2.2.1; omega), pick_over h h2⟩
theorem f3 (H : FH ls i ch) (h : ch % 16 = 3 := by omega) (h2 : ¬ (ny : Int) + ((ls.length : Int) - i) < 8 := by omega) : FP ls i ny ch ⟨1, 1 + ch / 16 % 3, 0, 0, false⟩ := ⟨fitP (by omega) (by have := H.1; omega) H.2.2.1 H.2.2.2, pick_over' h h2⟩
theorem f4 (H : FH ls i ch) (hp : ls[i]? = some p) (hq : ls[i + 1]? = some q) (h : ch % 16 = 4 ∨ ch % 16 = 5 := by omega) (h2 : 1 < (ls.length : Int) - i := by omega) (h3 : p + q ≤ 4 := by omega) : FP ls i ny ch ⟨4 + (ch % 16 - 4), 1 + ch / 16 % 3, 0, 0, false⟩ := ⟨fitT (by omega) (by have := H.1; omega) (by omega) H.2.2.2 hp hq h3, pick_two hp hq h h2 h3⟩
theorem f5 (H : FH ls i ch) (hp : ls[i]? = some p) (hq : ls[i + 1]? = some q) (h : ch % 16 = 4 ∨ ch % 16 = 5 := by omega) (h3 : ¬ p + q ≤ 4 := by omega) : FP ls i ny ch ⟨1, 1 + ch / 16 % 3, 0, 0, false⟩ := ⟨fitP (by omega) (by have := H.1; omega) H.2.2.1 H.2.2.2, pick_two' hp hq h h3⟩
theorem f6 (H : FH ls i ch) (h : ch % 16 = 4 ∨ ch % 16 = 5 := by omega) (h2 : ¬ 1 < (ls.length : Int) - i := by omega) : FP ls i ny ch ⟨1, 1 + ch / 16 % 3, 0, 0, false⟩ := ⟨fitP (by omega) (by have := H.1; omega) H.2.2.1 H.2.2.2, pick_twox h h2⟩
theorem f7 (H : FH ls i ch) (hp : ls[i]? = some p) (h : ch % 16 = 6 ∨ ch % 16 = 7 := by omega) (h3 : p < 3 := by omega) : FP ls i ny ch ⟨6, 1 + ch / 16 % 3, 0, 0, false⟩ := ⟨fitU rfl (by have := H.1; omega) H.2.2.1 H.2.2.2 hp h3, pick_tuck hp h h3⟩
theorem f8 (H : FH ls i ch) (hp : ls[i]? = some p) (h : ch % 16 = 6 ∨ ch % 16 = 7 := by omega) (h3 : ¬ p < 3 := by omega) : FP ls i ny ch ⟨1, 1 + ch / 16 % 3, 0, 0, false⟩ := ⟨fitP (by omega) (by have := H.1; omega) H.2.2.1 H.2.2.2, pick_tuck' hp h h3⟩
theorem f9 (H : FH ls i ch) (h : ch % 16 = 8 ∨ ch % 16 = 9 := by omega) : FP ls i ny ch ⟨7, 1 + ch / 16 % 3, 0, 0, false⟩ := ⟨fitS rfl (by have := H.1; omega) H.2.2.1 H.2.2.2, pick_slip h⟩
theorem f10 {kx : Stitch} (H : FH ls i ch) (hk : kx = kOfS 7 0 (ch - ch / 16 * 16) (decide (128 ≤ ch))) (h7 : kx.k = 8 ∧ 1 ≤ kx.a ∧ 1 ≤ kx.b ∧ kx.a + kx.b ≤ 4) (h : 10 ≤ ch % 16 ∧ ch % 16 ≤ 14 := by omega) (h2 : kx.a + kx.b ≤ (ls.length : Int) - i := by omega) : FP ls i ny ch ⟨kx.k, 1 + ch / 16 % 3, kx.a, kx.b, kx.f⟩ := ⟨fitC h7.1 (by have := H.1; omega) h7.2.1 h7.2.2.1 h7.2.2.2 H.2.2.2 (by omega), pick_cable hk h h2⟩
theorem f11 {kx : Stitch} (H : FH ls i ch) (hk : kx = kOfS 7 0 (ch - ch / 16 * 16) (decide (128 ≤ ch))) (h : 10 ≤ ch % 16 ∧ ch % 16 ≤ 14 := by omega) (h2 : ¬ kx.a + kx.b ≤ (ls.length : Int) - i := by omega) : FP ls i ny ch ⟨1, 1 + ch / 16 % 3, 0, 0, false⟩ := ⟨fitP (by omega) (by have := H.1; omega) H.2.2.1 H.2.2.2, pick_cable' hk h h2⟩
theorem f12 (H : FH ls i ch) (h : ch % 16 = 0 ∨ ch % 16 = 15 := by omega) : FP ls i ny ch ⟨1, 1 + ch / 16 % 3, 0, 0, false⟩ := ⟨fitP (by omega) (by have := H.1; omega) H.2.2.1 H.2.2.2, pick_knit h⟩
end
def stepR (ls : List Int) (cs : List UInt8) (z : Nat × List Stitch × List Int) : Nat × List Stitch × List Int :=
  if z.1 < ls.length then
    (z.1 + (needsS (pickS ls z.1 z.2.2.length ((cs.getD z.2.1.length 0).toNat : Int))).toNat, z.2.1 ++ [pickS ls z.1 z.2.2.length ((cs.getD z.2.1.length 0).toNat : Int)],
      z.2.2 ++ (loadsS (pickS ls z.1 z.2.2.length ((cs.getD z.2.1.length 0).toNat : Int)) ((ls.drop z.1).take (needsS (pickS ls z.1 z.2.2.length ((cs.getD z.2.1.length 0).toNat : Int))).toNat)).1)
  else z
def goR (ls : List Int) (cs : List UInt8) : Nat → Nat × List Stitch × List Int
  | 0 => (0, [], [])
  | n + 1 => stepR ls cs (goR ls cs n)
def rowF (ls : List Int) (cs : List UInt8) : List Stitch × List Int := (goR ls cs 8).2
theorem goR_next {ls : List Int} {cs : List UInt8} {i : Nat} {xs : List Stitch} {ys : List Int} {s : Stitch} {ch : Int} (h : goR ls cs xs.length = (i, xs, ys)) (hi : i < ls.length) (hc : ch = ((cs.getD xs.length 0).toNat : Int)) (hs : s = pickS ls i ys.length ch) :
    goR ls cs (xs ++ [s]).length = (i + (needsS s).toNat, xs ++ [s], ys ++ (loadsS s ((ls.drop i).take (needsS s).toNat)).1) := by
  subst hc; subst hs
  rw [List.length_append, List.length_singleton, goR, h, stepR, if_pos hi]
theorem goR_stay {ls : List Int} {cs : List UInt8} {n : Nat} {xs : List Stitch} {ys : List Int} (h : goR ls cs n = (ls.length, xs, ys)) : ∀ m, goR ls cs (n + m) = (ls.length, xs, ys)
 | 0 => h
 | m + 1 => by rw [← Nat.add_assoc, goR, goR_stay h m, stepR, if_neg (Nat.lt_irrefl _)]
theorem goR_end {ls : List Int} {cs : List UInt8} {xs : List Stitch} {ys : List Int} (h : goR ls cs xs.length = (ls.length, xs, ys)) (h8 : xs.length ≤ 8) : rowF ls cs = (xs, ys) := by
 have := goR_stay h (8 - xs.length)
 rw [show xs.length + (8 - xs.length) = 8 by omega] at this
 rw [rowF, this]
def chG (wd : Int) (css : List (List UInt8)) : Nat → List Int × RowL
  | 0 => (List.replicate (wd % 8 + 1).toNat 1, [])
  | n + 1 => ((rowF (chG wd css n).1 (css.getD n [])).2, (chG wd css n).2 ++ [(rowF (chG wd css n).1 (css.getD n [])).1])
def manyF (n : Nat) : Int := if ((min n 9 : Nat) : Int) % 2 = 0 then ((min n 9 : Nat) : Int) + 1 else ((min n 9 : Nat) : Int)
def chartF (wd : Int) (css : List (List UInt8)) : RowL := (chG wd css (manyF css.length).toNat).2
theorem chG_next {wd : Int} {css : List (List UInt8)} {i : Nat} {ls : List Int} {rows : RowL} {cs : List UInt8} (h : chG wd css i = (ls, rows)) (hc : cs = css.getD i []) : chG wd css (i + 1) = ((rowF ls cs).2, rows ++ [(rowF ls cs).1]) := by
 subst hc; rw [chG, h]
def blkF (B : SV → List UInt8) (wd : Int) (hs : List SV) (n : Nat) : RowL := chartF (wd % 4) ((hs.take (min n hs.length) ++ List.replicate (n - min n hs.length) (none, 0, 0)).map B)
def motF (B : SV → List UInt8) (H : SV → List SV) (q : QD) : Mot :=
  ⟨if q.ed % 2 = 1 then blkF B q.lw (H q.l) (1 + 2 * (q.ht % 3)).toNat else [], blkF B q.tw (H q.t) (1 + 2 * (q.ht % 3)).toNat, if q.ed / 2 % 2 = 1 then blkF B q.rw (H q.r) (1 + 2 * (q.ht % 3)).toNat else []⟩
theorem motF_eq {B : SV → List UInt8} {H : SV → List SV} {q : QD} {n : Nat} {rL rT rR : RowL} (hn : (n : Int) = 1 + 2 * (q.ht % 3)) (hL : rL = if q.ed % 2 = 1 then blkF B q.lw (H q.l) n else []) (hT : rT = blkF B q.tw (H q.t) n) (hR : rR = if q.ed / 2 % 2 = 1 then blkF B q.rw (H q.r) n else []) : (⟨rL, rT, rR⟩ : Mot) = motF B H q := by
 have e : (1 + 2 * (q.ht % 3)).toNat = n := by omega
 subst hL; subst hT; subst hR
 rw [motF, e]
def BytesF (B : SV → List UInt8) (w : World) (hs : List SV) : Prop := ∀ p ∈ hs, Sl Enc.b w (slv p) (B p)
theorem BytesF.ext {B : SV → List UInt8} {w w' : World} {hs : List SV} (h : BytesF B w hs) (hf : Fr [] w w') : BytesF B w' hs := fun p hp => (h p hp).ext hf
theorem bytesf_copy {B : SV → List UInt8} {w : World} {hs : List SV} {k n : Nat} (hB : B (none, 0, 0) = []) (h : BytesF B w hs) : BytesF B w (hs.take k ++ List.replicate n (none, 0, 0)) := fun p hp => by
 rcases List.mem_append.1 hp with hp | hp
 ·exact h p (List.mem_of_mem_take hp)
 obtain rfl := (List.mem_replicate.1 hp).2
 rw [hB]; exact Sl.nil w
def CAtF (B : SV → List UInt8) (H : SV → List SV) (w : World) (v : SV) : Prop := Sl Enc.sl w (slv v) (H v) ∧ BytesF B w (H v)
theorem CAtF.ext {B : SV → List UInt8} {H : SV → List SV} {w w' : World} {v : SV} (h : CAtF B H w v) (hf : Fr [] w w') : CAtF B H w' v := ⟨h.1.ext hf, h.2.ext hf⟩
structure QAtF (B : SV → List UInt8) (H : SV → List SV) (w : World) (q : QD) : Prop where
  l : CAtF B H w q.l
  t : CAtF B H w q.t
  r : CAtF B H w q.r
  rg : (0 ≤ q.ht ∧ q.ht ≤ 255) ∧ (0 ≤ q.ed ∧ q.ed ≤ 255) ∧ (0 ≤ q.lw ∧ q.lw ≤ 255) ∧ (0 ≤ q.tw ∧ q.tw ≤ 255) ∧ (0 ≤ q.rw ∧ q.rw ≤ 255) ∧ (0 ≤ q.ba ∧ q.ba ≤ 255) ∧ (0 ≤ q.st ∧ q.st ≤ 255) ∧ (0 ≤ q.up ∧ q.up ≤ 255) ∧ (0 ≤ q.ct ∧ q.ct ≤ 255)
theorem QAtF.ext {B : SV → List UInt8} {H : SV → List SV} {w w' : World} {q : QD} (h : QAtF B H w q) (hf : Fr [] w w') : QAtF B H w' q := ⟨h.l.ext hf, h.t.ext hf, h.r.ext hf, h.rg⟩
def QsAtF (B : SV → List UInt8) (H : SV → List SV) (w : World) (ys : List QD) : Prop := ∀ q ∈ ys, QAtF B H w q
theorem QsAtF.ext {B : SV → List UInt8} {H : SV → List SV} {w w' : World} {ys : List QD} (h : QsAtF B H w ys) (hf : Fr [] w w') : QsAtF B H w' ys := fun q hq => (h q hq).ext hf
theorem QAtF.zero {B : SV → List UInt8} {H : SV → List SV} (hH : H (none, 0, 0) = []) (w : World) : QAtF B H w qd0 := by
 have h : CAtF B H w (none, 0, 0) := by rw [CAtF, hH]; exact ⟨Sl.nil w, fun p hp => by cases hp⟩
 exact ⟨h, h, h, by simp [qd0]⟩
theorem sl_none {α : Type} {E : Enc α} {w : World} {l : List α} (h : Sl E w (slv (none, 0, 0)) l) : l = [] := by
 have := sl_len h
 exact List.length_eq_zero_iff.1 this.symm
open Classical in
theorem mean_at {w : World} {ys : List QD} (h : QsAt w ys) : ∃ (B : SV → List UInt8) (H : SV → List SV), B (none, 0, 0) = [] ∧ H (none, 0, 0) = [] ∧ QsAtF B H w ys := by
 let B : SV → List UInt8 := fun p => if h : ∃ cs, Sl Enc.b w (slv p) cs then Classical.choose h else []
 let H : SV → List SV := fun p => if h : ∃ hs, Sl Enc.sl w (slv p) hs ∧ BytesAt w hs then Classical.choose h else []
 have hB : ∀ p, (∃ cs, Sl Enc.b w (slv p) cs) → Sl Enc.b w (slv p) (B p) := fun p hp => by
  show Sl Enc.b w (slv p) (if h : _ then _ else _); rw [dif_pos hp]; exact Classical.choose_spec hp
 have hH : ∀ p, CAt w p → Sl Enc.sl w (slv p) (H p) ∧ BytesAt w (H p) := fun p hp => by
  have hp2 : ∃ hs, Sl Enc.sl w (slv p) hs ∧ BytesAt w hs := hp
  show Sl Enc.sl w (slv p) (if h : _ then _ else _) ∧ BytesAt w (if h : _ then _ else _); rw [dif_pos hp2]; exact Classical.choose_spec hp2
 have hC : ∀ p, CAt w p → CAtF B H w p := fun p hp => ⟨(hH p hp).1, fun x hx => hB x ((hH p hp).2 x hx)⟩
 exact ⟨B, H, sl_none (hB _ ⟨[], Sl.nil w⟩), sl_none (hH _ (CAt.nil w)).1, fun q hq => ⟨hC _ (h q hq).l, hC _ (h q hq).t, hC _ (h q hq).r, (h q hq).rg⟩⟩
def nmF (nb : Int) : List UInt8 := (([97, 98, 99, 100, 101, 102, 103, 104, 105, 106, 107, 108, 109, 110, 111, 112] : List UInt8)).take (1 + (nb % 16)).toNat
def pcF (B : SV → List UInt8) (H : SV → List SV) (ys : List QD) (j : Nat) : Pc :=
  ⟨ofN.getD j [], motF B H (ys.getD j qd0), 1 + (ys.getD j qd0).ba % 4, (ys.getD j qd0).st % 5, 1 + (ys.getD j qd0).up % 5, 1 + (ys.getD j qd0).ct % 9⟩
def garF (B : SV → List UInt8) (H : SV → List SV) (ys : List QD) (n : Nat) : List Pc := (List.range n).map (pcF B H ys)
theorem garF_succ (B : SV → List UInt8) (H : SV → List SV) (ys : List QD) (n : Nat) : garF B H ys (n + 1) = garF B H ys n ++ [pcF B H ys n] := by simp [garF, List.range_succ]
def manyG (ys : List QD) : Nat := max 1 (min 4 ys.length)
end Go.G14
namespace Go.Proofs.YthehggmdcmpjeaaGreatDoor
open Go.Lw Go.G14
theorem bo235 : BuildAt Tryz.prog 235 [(0, 1), (1, 1), (2, 1), (3, 1)] [(.int .u8 0), (.int .u8 0), (.int .u8 0), (.bool false)] := BuildAt.struct Tryz.underlying235 (fun _ => by kernel_rfl) (fun _ => by kernel_rfl)
theorem co93 : CallOf Tryz.prog 93 := mkC Tryz.func93
theorem co135 : CallOf Tryz.prog 135 := mkC Tryz.func135
set_option maxHeartbeats 4000000 in
theorem row_ok (u v : Value) (ls : List Int) (cs : List UInt8) (w0 : World) (hu : Sl Enc.i64 w0 u ls) (hv : Sl Enc.b w0 v cs) (hfl : ls.all few = true) (hl1 : 1 ≤ ls.length) (hl8 : ls.length ≤ 8) : Rets Tryz.prog 110 #[u, v] w0 fun r w' => ∃ X Y xs ys, r = .tuple #[X, Y] ∧ Lw.Own encSt 91 w0.heap.size w' X xs ∧ Lw.Own Enc.i64 3 w0.heap.size w' Y ys ∧ (∀ k ∈ blks X, k ∉ blks Y) ∧ xs ≠ [] ∧ xs.all okB = true ∧ xs.length ≤ 8 ∧ ys.all few = true ∧ 1 ≤ ys.length ∧ ys.length ≤ 8 ∧ rowF ls cs = (xs, ys) ∧ Fr [] w0 w' := by
 obtain ⟨A, c, rfl, hcp⟩ := hu.form
 obtain ⟨-, -, hM, hA⟩ := Sl.open_ hu
 obtain ⟨B, d, rfl, hdp⟩ := hv.form
 obtain ⟨-, -, hN, hB⟩ := Sl.open_ hv
 unfold maxLen at hM hN
 refine enter [(0, .slice A ls.length c), (1, .slice B cs.length d)] Tryz.func110 rfl Tryz.ntmps110 rfl (.c2 rfl rfl) ?_
 have hf := Fr.refl [] w0
 intro a h
 refine tC h (kQ (kR (asg rfl (asg rfl (kL [(0, _), (1, _)] (.c2 rfl rfl) (kE (kQ (kR (asg rfl (kE (kQ (kR (asg rfl (kE (kQ (kR (asg rfl (kE (kQ (kQ (kR (asg rfl (kE (kB ?_)))))))))))))))))))))))); clear h a; intro a h
 refine loop (ι := RowSt) (fun z => [(0, .slice A ls.length c), (1, .slice B cs.length d), (6, z.X), (7, z.Y), (8, .int .i64 (z.i : Int)), (9, .int .i64 (z.xs.length : Int))]) (fun z w' => z.i ≤ ls.length ∧ Lw.Own encSt 91 w0.heap.size w' z.X z.xs ∧ Lw.Own Enc.i64 3 w0.heap.size w' z.Y z.ys ∧ (∀ k ∈ blks z.X, k ∉ blks z.Y) ∧ z.xs.all okB = true ∧ z.ys.all few = true ∧ z.xs.length ≤ z.ys.length ∧ z.ys.length + (ls.length - z.i) ≤ 8 ∧ (z.xs = [] → z.i = 0) ∧ goR ls cs z.xs.length = (z.i, z.xs, z.ys) ∧ Fr [] w0 w') (fun z => 16 + (ls.length - z.i) - z.ys.length) ⟨0, [], [], .slice none 0 0, .slice none 0 0⟩ (h.sub (.c6 rfl rfl rfl rfl rfl rfl)) ⟨Nat.zero_le _, Own.nil _, Own.nil _, (by intro k hk; cases hk), rfl, rfl, Nat.le_refl _, by simpa using hl8, fun _ => rfl, rfl, hf⟩ ?_
 clear h a hf
 rintro ⟨i, xs, ys, X, Y⟩ w1 a h ⟨hi, hX, hY, hdis, hok, hfy, hxy, h8, hne, hgo, hf⟩
 simp only at hi hX hY hdis hok hfy hxy h8 hne hgo h
 obtain ⟨YA, yc, rfl, hyc⟩ := hY.sl.form
 refine tC h (kQ (kQ (kR (mv rfl (mv rfl (lnS rfl Tryz.underlying33 (lt' rfl rfl (kL [(0, _), (1, _), (6, _), (7, _), (8, _), (9, _), (20, _)] (.c7 rfl rfl rfl rfl rfl rfl rfl) (kE ?_))))))))); clear h a; intro a h
 refine cS h rfl (fun c0=>?_) (fun c0=>?_)
 ·refine tC h (kZ (kQ (kB (kQ (kR (asg rfl (kL [(0, _), (1, _), (6, _), (7, _), (8, _), (9, _), (10, _)] (.c7 rfl rfl rfl rfl rfl rfl rfl) (kE ?_)))))))); clear h a; intro a h
  refine seq_cut (Cut (ι := Int) 141 (fun ch => [(0, .slice A ls.length c), (1, .slice B cs.length d), (6, X), (7, .slice YA ys.length yc), (8, .int .i64 (i : Int)), (9, .int .i64 (xs.length : Int)), (10, .int .u8 ch)]) (fun ch w' => 0 ≤ ch ∧ ch ≤ 255 ∧ ch = ((cs.getD xs.length 0).toNat : Int) ∧ Lw.Own encSt 91 w0.heap.size w' X xs ∧ Lw.Own Enc.i64 3 w0.heap.size w' (.slice YA ys.length yc) ys ∧ Fr [] w0 w')) ?_ ?_
  ·refine tC h (kQ (kR (mv rfl (mv rfl (lnS rfl Tryz.underlying75 (lt' rfl rfl (kL [(0, _), (1, _), (6, _), (7, _), (8, _), (9, _), (10, _), (26, _)] (.c8 rfl rfl rfl rfl rfl rfl rfl rfl) (kE ?_)))))))); clear h a; intro a h
   refine cS h rfl (fun c1=>?_) (fun c1=>?_)
   ·obtain ⟨bx, hbx⟩ : ∃ x, cs[xs.length]? = some x := ⟨_, List.getElem?_eq_getElem (by omega)⟩
    obtain ⟨bd, hBx, cbx⟩ := hB _ bx hbx
    refine tC h (kR (mv rfl (mv rfl (s_idxS (by rw [hBx]; rfl) rfl el75 (s_loadC0 rfl (cbx.fr hf (by simp)) na5 (asg rfl (kL [(0, _), (1, _), (6, _), (7, _), (8, _), (9, _), (10, _)] (.c7 rfl rfl rfl rfl rfl rfl rfl) ?_))) (hp := rfl))))); clear h a; intro a h
    refine wnt ?_
    exact ⟨_, h.sub (.c7 rfl rfl rfl rfl rfl rfl rfl), by first | omega | exact (byte_rng _).1, by first | omega | exact (byte_rng _).2, by first | (rw [getD_of hbx]; done) | (rw [getD_out (by omega)]; rfl), hX, hY, hf⟩
   refine wsn ?_
   exact ⟨_, h.sub (.c7 rfl rfl rfl rfl rfl rfl rfl), by first | omega | exact (byte_rng _).1, by first | omega | exact (byte_rng _).2, by first | (rw [getD_of hbx]; done) | (rw [getD_out (by omega)]; rfl), hX, hY, hf⟩
  clear h a hX hY hf
  rintro a w2 ⟨ch, h, ⟨ch0, ch1, hchs, hX, hY, hf⟩⟩
  refine tC h (kQ (kR (mv rfl (s_quo rfl rfl (by first | exact IntWalk.u8_quo _ _ (by omega) | rfl) (s_rem rfl rfl (by first | exact IntWalk.rem_in _ _ (by omega) | rfl) (s_add rfl rfl (by first | exact IntWalk.u8_in _ (by omega) | rfl) (s_lit (cs := [_, _, _, _, _]) (evs_cons rfl (evs_cons rfl evs_nil)) bo91 (pok_cons rfl rfl rfl (pok_cons rfl rfl rfl pok_nil)) rfl ?_))))))); clear h a; intro a h
  refine st_alloc h zv91 rfl ?_; clear h a; intro w3 hb11 hq hz a h
  obtain ⟨g_11, hg⟩ : ∃ g, g = w2.heap.size := ⟨_, rfl⟩; rw [← hg] at hb11 h hz
  have hl11 : w0.heap.size ≤ g_11 := by have := hf.size; omega
  have hlt_hX_11 : ∀ k ∈ blks X, k < g_11 := fun k hk => by have := (hX.blk k hk).2; omega
  have hlt_hY_11 : ∀ k ∈ blks (.slice YA ys.length yc), k < g_11 := fun k hk => by have := (hY.blk k hk).2; omega
  replace hf := hf.next hq
  replace hX := hX.ext hq
  replace hY := hY.ext hq
  clear hq hz hg
  refine st_storeBA h rfl rfl hb11 rfl sz91 ?_; clear h a; intro w4 hbn hq hz a h
  replace hf := hf.sp hq
  replace hX := hX.fr hq (dlt hlt_hX_11 (by omega))
  replace hY := hY.fr hq (dlt hlt_hY_11 (by omega))
  clear hb11 hq hz; have hb11 : Blk w4 g_11 _ [_, _, _, _, _] := hbn; clear hbn
  replace hb11 : Blk w4 g_11 91 [.int .u8 1, .int .u8 (1 + ch / 16 % 3), .int .i64 0, .int .i64 0, .bool false] := hb11
  refine tW h (kL [(0, _), (1, _), (6, _), (7, _), (8, _), (9, _), (10, _), (11, _)] (.c8 rfl rfl rfl rfl rfl rfl rfl rfl) (kE (kQ (kR (mv rfl (lnS rfl Tryz.underlying33 (mv rfl (s_sub rfl rfl (by first | exact i6 (by omega) | rfl) (asg rfl (kL [(0, _), (1, _), (6, _), (7, _), (8, _), (9, _), (10, _), (11, _), (12, _)] (.d8 rfl rfl rfl rfl rfl rfl rfl rfl (.cons rfl .nil)) (kE ?_))))))))))); clear h a; intro a h
  refine seq_cut (Cut (ι := Stitch) 141 (fun s => [(0, .slice A ls.length c), (1, .slice B cs.length d), (6, X), (7, .slice YA ys.length yc), (8, .int .i64 (i : Int)), (9, .int .i64 (xs.length : Int)), (11, .pointer (some ⟨g_11, 0, none⟩))]) (fun s w' => Blk w' g_11 91 [.int .u8 s.k, .int .u8 s.y, .int .i64 s.a, .int .i64 s.b, .bool s.f] ∧ (Fit ls i ys.length s ∧ s = pickS ls i ys.length ch) ∧ Lw.Own encSt 91 w0.heap.size w' X xs ∧ Lw.Own Enc.i64 3 w0.heap.size w' (.slice YA ys.length yc) ys ∧ Fr [] w0 w')) ?_ ?_
  ·refine tC h (kQ (kR (mv rfl (s_rem rfl rfl (by first | exact IntWalk.rem_in _ _ (by omega) | rfl) (kL [(0, _), (1, _), (6, _), (7, _), (8, _), (9, _), (10, _), (11, _), (12, _), (41, _)] (.d8 rfl rfl rfl rfl rfl rfl rfl rfl (.c2 rfl rfl)) (kE (kB (kQ (kQ (kR (eq' rfl rfl (asg rfl (kL [(0, _), (1, _), (6, _), (7, _), (8, _), (9, _), (10, _), (11, _), (12, _), (41, _), (42, _)] (.d8 rfl rfl rfl rfl rfl rfl rfl rfl (.c3 rfl rfl rfl)) (kE ?_)))))))))))))); clear h a; intro a h
   refine cS h rfl (fun c2=>?_) (fun c2=>?_)
   ·rw [decide_eq_true c2] at h
    refine wsn ?_
    refine cond_true h rfl ?_
    refine tC h (kR (fad rfl fa91_0 ?_)); clear h a; intro a h
    refine st_storeB h rfl rfl hb11 rfl rfl rfl sz89 ?_; clear h a; intro w5 hbn hq hz a h
    replace hf := hf.sp hq
    replace hX := hX.fr hq (dlt hlt_hX_11 (by omega))
    replace hY := hY.fr hq (dlt hlt_hY_11 (by omega))
    clear hb11 hq hz; have hb11 : Blk w5 g_11 _ [_, _, _, _, _] := hbn; clear hbn
    replace h : Ag a 141 [(0, _), (1, _), (6, _), (7, _), (8, _), (9, _), (11, _)] := h.sub (.c7 rfl rfl rfl rfl rfl rfl rfl)
    refine wpList_nil (norm_blk (norm_then ?_))
    exact ⟨⟨_, _, _, _, _⟩, h.sub (.c7 rfl rfl rfl rfl rfl rfl rfl), hb11, (by have H : FH ls i ch := ⟨ch0, ch1, by omega, hfl⟩; first | exact f1 H | exact f2 H | exact f3 H | exact f4 H hxp hxq | exact f5 H hxp hxq | exact f6 H | exact f7 H hxp | exact f8 H hxp | exact f9 H | exact f10 H hkx ⟨hk7.1, hk7.2.2.1, hk7.2.2.2.1, hk7.2.2.2.2⟩ | exact f11 H hkx | exact f12 H), hX, hY, hf⟩
   rw [decide_eq_false c2] at h
   refine tC h (kR (eq' rfl rfl (asg rfl (kL [(0, _), (1, _), (6, _), (7, _), (8, _), (9, _), (10, _), (11, _), (12, _), (41, _), (42, _)] (.d8 rfl rfl rfl rfl rfl rfl rfl rfl (.c3 rfl rfl rfl)) (kE ?_))))); clear h a; intro a h
   refine cS h rfl (fun c3=>?_) (fun c3=>?_)
   ·refine tC h (kR (fad rfl fa91_0 ?_)); clear h a; intro a h
    refine st_storeB h rfl rfl hb11 rfl rfl rfl sz89 ?_; clear h a; intro w6 hbn hq hz a h
    replace hf := hf.sp hq
    replace hX := hX.fr hq (dlt hlt_hX_11 (by omega))
    replace hY := hY.fr hq (dlt hlt_hY_11 (by omega))
    clear hb11 hq hz; have hb11 : Blk w6 g_11 _ [_, _, _, _, _] := hbn; clear hbn
    replace h : Ag a 141 [(0, _), (1, _), (6, _), (7, _), (8, _), (9, _), (11, _)] := h.sub (.c7 rfl rfl rfl rfl rfl rfl rfl)
    refine wpList_nil (norm_blk (norm_then ?_))
    exact ⟨⟨_, _, _, _, _⟩, h.sub (.c7 rfl rfl rfl rfl rfl rfl rfl), hb11, (by have H : FH ls i ch := ⟨ch0, ch1, by omega, hfl⟩; first | exact f1 H | exact f2 H | exact f3 H | exact f4 H hxp hxq | exact f5 H hxp hxq | exact f6 H | exact f7 H hxp | exact f8 H hxp | exact f9 H | exact f10 H hkx ⟨hk7.1, hk7.2.2.1, hk7.2.2.2.1, hk7.2.2.2.2⟩ | exact f11 H hkx | exact f12 H), hX, hY, hf⟩
   refine tC h (kQ (kR (eq' rfl rfl (asg rfl (kL [(0, _), (1, _), (6, _), (7, _), (8, _), (9, _), (10, _), (11, _), (12, _), (41, _), (46, _)] (.d8 rfl rfl rfl rfl rfl rfl rfl rfl (.c3 rfl rfl rfl)) (kE ?_)))))); clear h a; intro a h
   refine cS h rfl (fun c4=>?_) (fun c4=>?_)
   ·refine tC h (kQ (kR (mv rfl (lnS rfl Tryz.underlying33 (mv rfl (s_add rfl rfl (by first | exact i6 (by omega) | rfl) (lt' rfl rfl (kL [(0, _), (1, _), (6, _), (7, _), (8, _), (9, _), (11, _), (52, _)] (.c8 rfl rfl rfl rfl rfl rfl rfl rfl) (kE ?_))))))))); clear h a; intro a h
    refine cS h rfl (fun c5=>?_) (fun c5=>?_)
    ·refine tC h (kR (fad rfl fa91_0 ?_)); clear h a; intro a h
     refine st_storeB h rfl rfl hb11 rfl rfl rfl sz89 ?_; clear h a; intro w7 hbn hq hz a h
     replace hf := hf.sp hq
     replace hX := hX.fr hq (dlt hlt_hX_11 (by omega))
     replace hY := hY.fr hq (dlt hlt_hY_11 (by omega))
     clear hb11 hq hz; have hb11 : Blk w7 g_11 _ [_, _, _, _, _] := hbn; clear hbn
     replace h : Ag a 141 [(0, _), (1, _), (6, _), (7, _), (8, _), (9, _), (11, _)] := h.sub (.c7 rfl rfl rfl rfl rfl rfl rfl)
     refine wpList_nil (norm_blk (norm_then ?_))
     exact ⟨⟨_, _, _, _, _⟩, h.sub (.c7 rfl rfl rfl rfl rfl rfl rfl), hb11, (by have H : FH ls i ch := ⟨ch0, ch1, by omega, hfl⟩; first | exact f1 H | exact f2 H | exact f3 H | exact f4 H hxp hxq | exact f5 H hxp hxq | exact f6 H | exact f7 H hxp | exact f8 H hxp | exact f9 H | exact f10 H hkx ⟨hk7.1, hk7.2.2.1, hk7.2.2.2.1, hk7.2.2.2.2⟩ | exact f11 H hkx | exact f12 H), hX, hY, hf⟩
    refine wp_skip (norm_blk (norm_then ?_))
    exact ⟨⟨_, _, _, _, _⟩, h.sub (.c7 rfl rfl rfl rfl rfl rfl rfl), hb11, (by have H : FH ls i ch := ⟨ch0, ch1, by omega, hfl⟩; first | exact f1 H | exact f2 H | exact f3 H | exact f4 H hxp hxq | exact f5 H hxp hxq | exact f6 H | exact f7 H hxp | exact f8 H hxp | exact f9 H | exact f10 H hkx ⟨hk7.1, hk7.2.2.1, hk7.2.2.2.1, hk7.2.2.2.2⟩ | exact f11 H hkx | exact f12 H), hX, hY, hf⟩
   refine tC h (kQ (kQ (kR (eq' rfl rfl (asg rfl (kL [(0, _), (1, _), (6, _), (7, _), (8, _), (9, _), (10, _), (11, _), (12, _), (41, _), (54, _)] (.d8 rfl rfl rfl rfl rfl rfl rfl rfl (.c3 rfl rfl rfl)) (kE ?_))))))); clear h a; intro a h
   refine cS h rfl (fun c6=>?_) (fun c6=>?_)
   ·rw [decide_eq_true c6] at h
    refine wsn ?_
    refine cond_true h rfl ?_
    refine wp_seq ?_
    refine region_quiet hmix (by kernel_rfl) ?_
    refine qt_move h rfl rfl ?_; clear h a; intro a h
    refine qt_gt h rfl rfl rfl ?_; clear h a; intro a h
    refine qt_move h rfl rfl ?_; clear h a; intro a h
    refine gSp (D := 59) h rfl ?_ ?_
    ·clear h; intro g0 h
     refine qd_yes h rfl rfl rfl rfl rfl rfl ?_
     refine qt_move h rfl rfl ?_; clear h a; intro a h
     refine qd_yes h rfl rfl rfl rfl rfl rfl ?_
     refine qt_move h rfl rfl ?_; clear h a; intro a h
     refine qd_yes h rfl rfl rfl rfl rfl rfl ?_
     obtain ⟨p, hxp⟩ : ∃ x, ls[i]? = some x := ⟨_, List.getElem?_eq_getElem (by omega)⟩
     obtain ⟨pa, hAp, cp⟩ := hA _ p hxp
     have hfp := (few_iff p).1 (List.all_eq_true.1 hfl p (List.mem_of_getElem? hxp))
     obtain ⟨q, hxq⟩ : ∃ x, ls[i + 1]? = some x := ⟨_, List.getElem?_eq_getElem (by omega)⟩
     obtain ⟨qa, hAq, cq⟩ := hA _ q hxq
     have hfq := (few_iff q).1 (List.all_eq_true.1 hfl q (List.mem_of_getElem? hxq))
     refine qt_idxS (p := i) h (by rw [hAp]; rfl) rfl el33 (by omega) (by omega) (by omega) rfl ?_; clear h a; intro a h
     refine qd_yes h rfl rfl rfl rfl rfl rfl ?_
     refine qt_loadC0 h rfl (fun _ hw => (cp.fr hf (by simp)).fr hw (by simp)) na3 rfl ?_; clear h a; intro a h
     refine qd_yes h rfl rfl rfl rfl rfl rfl ?_
     refine qt_move h rfl rfl ?_; clear h a; intro a h
     refine qd_yes h rfl rfl rfl rfl rfl rfl ?_
     refine qt_move h rfl rfl ?_; clear h a; intro a h
     refine qd_yes h rfl rfl rfl rfl rfl rfl ?_
     refine qt_add h rfl rfl (by first | exact i6 (by omega) | rfl) rfl ?_; clear h a; intro a h
     refine qd_yes h rfl rfl rfl rfl rfl rfl ?_
     refine qt_idxS (p := i + 1) h (by rw [hAq]; rfl) rfl el33 (by omega) (by omega) (by omega) rfl ?_; clear h a; intro a h
     refine qd_yes h rfl rfl rfl rfl rfl rfl ?_
     refine qt_loadC0 h rfl (fun _ hw => (cq.fr hf (by simp)).fr hw (by simp)) na3 rfl ?_; clear h a; intro a h
     refine qd_yes h rfl rfl rfl rfl rfl rfl ?_
     refine qt_add h rfl rfl (by first | exact i6 (by omega) | rfl) rfl ?_; clear h a; intro a h
     refine qd_yes h rfl rfl rfl rfl rfl rfl ?_
     refine qt_le h rfl rfl rfl ?_; clear h a; intro a h
     refine qt_pick_t h rfl rfl rfl rfl ?_; clear h a; intro a h
     refine wpQuiet_nil ?_
     intro w8 hq
     replace hf := hf.next hq
     replace hX := hX.ext hq
     replace hY := hY.ext hq
     replace hb11 := hb11.ext hq
     clear hq
     replace h : Ag a 141 [(0, _), (1, _), (6, _), (7, _), (8, _), (9, _), (10, _), (11, _), (71, _)] := h.sub (.d8 rfl rfl rfl rfl rfl rfl rfl rfl (.cons rfl .nil))
     refine (norm_then ?_)
     refine cS h rfl (fun c8=>?_) (fun c8=>?_)
     ·refine tC h (kR (mv rfl (s_rem rfl rfl (by first | exact IntWalk.rem_in _ _ (by omega) | rfl) (s_sub rfl rfl (by first | exact IntWalk.u8_in _ (by omega) | rfl) (s_add rfl rfl (by first | exact IntWalk.u8_in _ (by omega) | rfl) (fad rfl fa91_0 ?_)))))); clear h a; intro a h
      refine st_storeB h rfl rfl hb11 rfl rfl rfl sz89 ?_; clear h a; intro w9 hbn hq hz a h
      replace hf := hf.sp hq
      replace hX := hX.fr hq (dlt hlt_hX_11 (by omega))
      replace hY := hY.fr hq (dlt hlt_hY_11 (by omega))
      clear hb11 hq hz; have hb11 : Blk w9 g_11 _ [_, _, _, _, _] := hbn; clear hbn
      replace h : Ag a 141 [(0, _), (1, _), (6, _), (7, _), (8, _), (9, _), (11, _)] := h.sub (.c7 rfl rfl rfl rfl rfl rfl rfl)
      refine wpList_nil (norm_blk (norm_then ?_))
      exact ⟨⟨_, _, _, _, _⟩, h.sub (.c7 rfl rfl rfl rfl rfl rfl rfl), hb11, (by have H : FH ls i ch := ⟨ch0, ch1, by omega, hfl⟩; first | exact f1 H | exact f2 H | exact f3 H | exact f4 H hxp hxq | exact f5 H hxp hxq | exact f6 H | exact f7 H hxp | exact f8 H hxp | exact f9 H | exact f10 H hkx ⟨hk7.1, hk7.2.2.1, hk7.2.2.2.1, hk7.2.2.2.2⟩ | exact f11 H hkx | exact f12 H), hX, hY, hf⟩
     refine wp_skip (norm_blk (norm_then ?_))
     exact ⟨⟨_, _, _, _, _⟩, h.sub (.c7 rfl rfl rfl rfl rfl rfl rfl), hb11, (by have H : FH ls i ch := ⟨ch0, ch1, by omega, hfl⟩; first | exact f1 H | exact f2 H | exact f3 H | exact f4 H hxp hxq | exact f5 H hxp hxq | exact f6 H | exact f7 H hxp | exact f8 H hxp | exact f9 H | exact f10 H hkx ⟨hk7.1, hk7.2.2.1, hk7.2.2.2.1, hk7.2.2.2.2⟩ | exact f11 H hkx | exact f12 H), hX, hY, hf⟩
    clear h; intro g0 h
    refine qd_no h rfl rfl rfl rfl rfl rfl rfl rfl ?_; clear h a; intro a h
    refine qd_no h rfl rfl rfl rfl rfl rfl rfl rfl ?_; clear h a; intro a h
    refine qd_no h rfl rfl rfl rfl rfl rfl rfl rfl ?_; clear h a; intro a h
    refine qd_no h rfl rfl rfl rfl rfl rfl rfl rfl ?_; clear h a; intro a h
    refine qd_no h rfl rfl rfl rfl rfl rfl rfl rfl ?_; clear h a; intro a h
    refine qd_no h rfl rfl rfl rfl rfl rfl rfl rfl ?_; clear h a; intro a h
    refine qd_no h rfl rfl rfl rfl rfl rfl rfl rfl ?_; clear h a; intro a h
    refine qd_no h rfl rfl rfl rfl rfl rfl rfl rfl ?_; clear h a; intro a h
    refine qd_no h rfl rfl rfl rfl rfl rfl rfl rfl ?_; clear h a; intro a h
    refine qd_no h rfl rfl rfl rfl rfl rfl rfl rfl ?_; clear h a; intro a h
    refine qd_no h rfl rfl rfl rfl rfl rfl rfl rfl ?_; clear h a; intro a h
    refine qt_pick_f h rfl rfl rfl rfl ?_; clear h a; intro a h
    refine wpQuiet_nil ?_
    intro w10 hq
    replace hf := hf.next hq
    replace hX := hX.ext hq
    replace hY := hY.ext hq
    replace hb11 := hb11.ext hq
    clear hq
    replace h : Ag a 141 [(0, _), (1, _), (6, _), (7, _), (8, _), (9, _), (10, _), (11, _), (71, _)] := h.sub (.d8 rfl rfl rfl rfl rfl rfl rfl rfl (.cons rfl .nil))
    refine (norm_then ?_)
    refine cond_false h rfl ?_
    refine wp_skip (norm_blk (norm_then ?_))
    exact ⟨⟨_, _, _, _, _⟩, h.sub (.c7 rfl rfl rfl rfl rfl rfl rfl), hb11, (by have H : FH ls i ch := ⟨ch0, ch1, by omega, hfl⟩; first | exact f1 H | exact f2 H | exact f3 H | exact f4 H hxp hxq | exact f5 H hxp hxq | exact f6 H | exact f7 H hxp | exact f8 H hxp | exact f9 H | exact f10 H hkx ⟨hk7.1, hk7.2.2.1, hk7.2.2.2.1, hk7.2.2.2.2⟩ | exact f11 H hkx | exact f12 H), hX, hY, hf⟩
   rw [decide_eq_false c6] at h
   refine tC h (kR (eq' rfl rfl (asg rfl (kL [(0, _), (1, _), (6, _), (7, _), (8, _), (9, _), (10, _), (11, _), (12, _), (41, _), (54, _)] (.d8 rfl rfl rfl rfl rfl rfl rfl rfl (.c3 rfl rfl rfl)) (kE ?_))))); clear h a; intro a h
   refine cS h rfl (fun c7=>?_) (fun c7=>?_)
   ·refine wp_seq ?_
    refine region_quiet hmix (by kernel_rfl) ?_
    refine qt_move h rfl rfl ?_; clear h a; intro a h
    refine qt_gt h rfl rfl rfl ?_; clear h a; intro a h
    refine qt_move h rfl rfl ?_; clear h a; intro a h
    refine gSp (D := 59) h rfl ?_ ?_
    ·clear h; intro g1 h
     refine qd_yes h rfl rfl rfl rfl rfl rfl ?_
     refine qt_move h rfl rfl ?_; clear h a; intro a h
     refine qd_yes h rfl rfl rfl rfl rfl rfl ?_
     refine qt_move h rfl rfl ?_; clear h a; intro a h
     refine qd_yes h rfl rfl rfl rfl rfl rfl ?_
     obtain ⟨p, hxp⟩ : ∃ x, ls[i]? = some x := ⟨_, List.getElem?_eq_getElem (by omega)⟩
     obtain ⟨pa, hAp, cp⟩ := hA _ p hxp
     have hfp := (few_iff p).1 (List.all_eq_true.1 hfl p (List.mem_of_getElem? hxp))
     obtain ⟨q, hxq⟩ : ∃ x, ls[i + 1]? = some x := ⟨_, List.getElem?_eq_getElem (by omega)⟩
     obtain ⟨qa, hAq, cq⟩ := hA _ q hxq
     have hfq := (few_iff q).1 (List.all_eq_true.1 hfl q (List.mem_of_getElem? hxq))
     refine qt_idxS (p := i) h (by rw [hAp]; rfl) rfl el33 (by omega) (by omega) (by omega) rfl ?_; clear h a; intro a h
     refine qd_yes h rfl rfl rfl rfl rfl rfl ?_
     refine qt_loadC0 h rfl (fun _ hw => (cp.fr hf (by simp)).fr hw (by simp)) na3 rfl ?_; clear h a; intro a h
     refine qd_yes h rfl rfl rfl rfl rfl rfl ?_
     refine qt_move h rfl rfl ?_; clear h a; intro a h
     refine qd_yes h rfl rfl rfl rfl rfl rfl ?_
     refine qt_move h rfl rfl ?_; clear h a; intro a h
     refine qd_yes h rfl rfl rfl rfl rfl rfl ?_
     refine qt_add h rfl rfl (by first | exact i6 (by omega) | rfl) rfl ?_; clear h a; intro a h
     refine qd_yes h rfl rfl rfl rfl rfl rfl ?_
     refine qt_idxS (p := i + 1) h (by rw [hAq]; rfl) rfl el33 (by omega) (by omega) (by omega) rfl ?_; clear h a; intro a h
     refine qd_yes h rfl rfl rfl rfl rfl rfl ?_
     refine qt_loadC0 h rfl (fun _ hw => (cq.fr hf (by simp)).fr hw (by simp)) na3 rfl ?_; clear h a; intro a h
     refine qd_yes h rfl rfl rfl rfl rfl rfl ?_
     refine qt_add h rfl rfl (by first | exact i6 (by omega) | rfl) rfl ?_; clear h a; intro a h
     refine qd_yes h rfl rfl rfl rfl rfl rfl ?_
     refine qt_le h rfl rfl rfl ?_; clear h a; intro a h
     refine qt_pick_t h rfl rfl rfl rfl ?_; clear h a; intro a h
     refine wpQuiet_nil ?_
     intro w11 hq
     replace hf := hf.next hq
     replace hX := hX.ext hq
     replace hY := hY.ext hq
     replace hb11 := hb11.ext hq
     clear hq
     replace h : Ag a 141 [(0, _), (1, _), (6, _), (7, _), (8, _), (9, _), (10, _), (11, _), (71, _)] := h.sub (.d8 rfl rfl rfl rfl rfl rfl rfl rfl (.cons rfl .nil))
     refine (norm_then ?_)
     refine cS h rfl (fun c8=>?_) (fun c8=>?_)
     ·refine tC h (kR (mv rfl (s_rem rfl rfl (by first | exact IntWalk.rem_in _ _ (by omega) | rfl) (s_sub rfl rfl (by first | exact IntWalk.u8_in _ (by omega) | rfl) (s_add rfl rfl (by first | exact IntWalk.u8_in _ (by omega) | rfl) (fad rfl fa91_0 ?_)))))); clear h a; intro a h
      refine st_storeB h rfl rfl hb11 rfl rfl rfl sz89 ?_; clear h a; intro w12 hbn hq hz a h
      replace hf := hf.sp hq
      replace hX := hX.fr hq (dlt hlt_hX_11 (by omega))
      replace hY := hY.fr hq (dlt hlt_hY_11 (by omega))
      clear hb11 hq hz; have hb11 : Blk w12 g_11 _ [_, _, _, _, _] := hbn; clear hbn
      replace h : Ag a 141 [(0, _), (1, _), (6, _), (7, _), (8, _), (9, _), (11, _)] := h.sub (.c7 rfl rfl rfl rfl rfl rfl rfl)
      refine wpList_nil (norm_blk (norm_then ?_))
      exact ⟨⟨_, _, _, _, _⟩, h.sub (.c7 rfl rfl rfl rfl rfl rfl rfl), hb11, (by have H : FH ls i ch := ⟨ch0, ch1, by omega, hfl⟩; first | exact f1 H | exact f2 H | exact f3 H | exact f4 H hxp hxq | exact f5 H hxp hxq | exact f6 H | exact f7 H hxp | exact f8 H hxp | exact f9 H | exact f10 H hkx ⟨hk7.1, hk7.2.2.1, hk7.2.2.2.1, hk7.2.2.2.2⟩ | exact f11 H hkx | exact f12 H), hX, hY, hf⟩
     refine wp_skip (norm_blk (norm_then ?_))
     exact ⟨⟨_, _, _, _, _⟩, h.sub (.c7 rfl rfl rfl rfl rfl rfl rfl), hb11, (by have H : FH ls i ch := ⟨ch0, ch1, by omega, hfl⟩; first | exact f1 H | exact f2 H | exact f3 H | exact f4 H hxp hxq | exact f5 H hxp hxq | exact f6 H | exact f7 H hxp | exact f8 H hxp | exact f9 H | exact f10 H hkx ⟨hk7.1, hk7.2.2.1, hk7.2.2.2.1, hk7.2.2.2.2⟩ | exact f11 H hkx | exact f12 H), hX, hY, hf⟩
    clear h; intro g1 h
    refine qd_no h rfl rfl rfl rfl rfl rfl rfl rfl ?_; clear h a; intro a h
    refine qd_no h rfl rfl rfl rfl rfl rfl rfl rfl ?_; clear h a; intro a h
    refine qd_no h rfl rfl rfl rfl rfl rfl rfl rfl ?_; clear h a; intro a h
    refine qd_no h rfl rfl rfl rfl rfl rfl rfl rfl ?_; clear h a; intro a h
    refine qd_no h rfl rfl rfl rfl rfl rfl rfl rfl ?_; clear h a; intro a h
    refine qd_no h rfl rfl rfl rfl rfl rfl rfl rfl ?_; clear h a; intro a h
    refine qd_no h rfl rfl rfl rfl rfl rfl rfl rfl ?_; clear h a; intro a h
    refine qd_no h rfl rfl rfl rfl rfl rfl rfl rfl ?_; clear h a; intro a h
    refine qd_no h rfl rfl rfl rfl rfl rfl rfl rfl ?_; clear h a; intro a h
    refine qd_no h rfl rfl rfl rfl rfl rfl rfl rfl ?_; clear h a; intro a h
    refine qd_no h rfl rfl rfl rfl rfl rfl rfl rfl ?_; clear h a; intro a h
    refine qt_pick_f h rfl rfl rfl rfl ?_; clear h a; intro a h
    refine wpQuiet_nil ?_
    intro w13 hq
    replace hf := hf.next hq
    replace hX := hX.ext hq
    replace hY := hY.ext hq
    replace hb11 := hb11.ext hq
    clear hq
    replace h : Ag a 141 [(0, _), (1, _), (6, _), (7, _), (8, _), (9, _), (10, _), (11, _), (71, _)] := h.sub (.d8 rfl rfl rfl rfl rfl rfl rfl rfl (.cons rfl .nil))
    refine (norm_then ?_)
    refine cond_false h rfl ?_
    refine wp_skip (norm_blk (norm_then ?_))
    exact ⟨⟨_, _, _, _, _⟩, h.sub (.c7 rfl rfl rfl rfl rfl rfl rfl), hb11, (by have H : FH ls i ch := ⟨ch0, ch1, by omega, hfl⟩; first | exact f1 H | exact f2 H | exact f3 H | exact f4 H hxp hxq | exact f5 H hxp hxq | exact f6 H | exact f7 H hxp | exact f8 H hxp | exact f9 H | exact f10 H hkx ⟨hk7.1, hk7.2.2.1, hk7.2.2.2.1, hk7.2.2.2.2⟩ | exact f11 H hkx | exact f12 H), hX, hY, hf⟩
   refine tC h (kQ (kQ (kR (eq' rfl rfl (asg rfl (kL [(0, _), (1, _), (6, _), (7, _), (8, _), (9, _), (10, _), (11, _), (12, _), (41, _), (77, _)] (.d8 rfl rfl rfl rfl rfl rfl rfl rfl (.c3 rfl rfl rfl)) (kE ?_))))))); clear h a; intro a h
   refine cS h rfl (fun c9=>?_) (fun c9=>?_)
   ·rw [decide_eq_true c9] at h
    refine wsn ?_
    refine cond_true h rfl ?_
    obtain ⟨p, hxp⟩ : ∃ x, ls[i]? = some x := ⟨_, List.getElem?_eq_getElem (by omega)⟩
    obtain ⟨pa, hAp, cp⟩ := hA _ p hxp
    have hfp := (few_iff p).1 (List.all_eq_true.1 hfl p (List.mem_of_getElem? hxp))
    refine tC h (kQ (kR (mv rfl (mv rfl (s_idxS (p := i) (by rw [hAp]; rfl) rfl el33 (s_loadC0 rfl (cp.fr hf (by simp)) na3 (lt' rfl rfl (kL [(0, _), (1, _), (6, _), (7, _), (8, _), (9, _), (11, _), (84, _)] (.c8 rfl rfl rfl rfl rfl rfl rfl rfl) (kE ?_))))))))); clear h a; intro a h
    refine cS h rfl (fun c11=>?_) (fun c11=>?_)
    ·refine tC h (kR (fad rfl fa91_0 ?_)); clear h a; intro a h
     refine st_storeB h rfl rfl hb11 rfl rfl rfl sz89 ?_; clear h a; intro w14 hbn hq hz a h
     replace hf := hf.sp hq
     replace hX := hX.fr hq (dlt hlt_hX_11 (by omega))
     replace hY := hY.fr hq (dlt hlt_hY_11 (by omega))
     clear hb11 hq hz; have hb11 : Blk w14 g_11 _ [_, _, _, _, _] := hbn; clear hbn
     replace h : Ag a 141 [(0, _), (1, _), (6, _), (7, _), (8, _), (9, _), (11, _)] := h.sub (.c7 rfl rfl rfl rfl rfl rfl rfl)
     refine wpList_nil (norm_blk (norm_then ?_))
     exact ⟨⟨_, _, _, _, _⟩, h.sub (.c7 rfl rfl rfl rfl rfl rfl rfl), hb11, (by have H : FH ls i ch := ⟨ch0, ch1, by omega, hfl⟩; first | exact f1 H | exact f2 H | exact f3 H | exact f4 H hxp hxq | exact f5 H hxp hxq | exact f6 H | exact f7 H hxp | exact f8 H hxp | exact f9 H | exact f10 H hkx ⟨hk7.1, hk7.2.2.1, hk7.2.2.2.1, hk7.2.2.2.2⟩ | exact f11 H hkx | exact f12 H), hX, hY, hf⟩
    refine wp_skip (norm_blk (norm_then ?_))
    exact ⟨⟨_, _, _, _, _⟩, h.sub (.c7 rfl rfl rfl rfl rfl rfl rfl), hb11, (by have H : FH ls i ch := ⟨ch0, ch1, by omega, hfl⟩; first | exact f1 H | exact f2 H | exact f3 H | exact f4 H hxp hxq | exact f5 H hxp hxq | exact f6 H | exact f7 H hxp | exact f8 H hxp | exact f9 H | exact f10 H hkx ⟨hk7.1, hk7.2.2.1, hk7.2.2.2.1, hk7.2.2.2.2⟩ | exact f11 H hkx | exact f12 H), hX, hY, hf⟩
   rw [decide_eq_false c9] at h
   refine tC h (kR (eq' rfl rfl (asg rfl (kL [(0, _), (1, _), (6, _), (7, _), (8, _), (9, _), (10, _), (11, _), (12, _), (41, _), (77, _)] (.d8 rfl rfl rfl rfl rfl rfl rfl rfl (.c3 rfl rfl rfl)) (kE ?_))))); clear h a; intro a h
   refine cS h rfl (fun c10=>?_) (fun c10=>?_)
   ·obtain ⟨p, hxp⟩ : ∃ x, ls[i]? = some x := ⟨_, List.getElem?_eq_getElem (by omega)⟩
    obtain ⟨pa, hAp, cp⟩ := hA _ p hxp
    have hfp := (few_iff p).1 (List.all_eq_true.1 hfl p (List.mem_of_getElem? hxp))
    refine tC h (kQ (kR (mv rfl (mv rfl (s_idxS (p := i) (by rw [hAp]; rfl) rfl el33 (s_loadC0 rfl (cp.fr hf (by simp)) na3 (lt' rfl rfl (kL [(0, _), (1, _), (6, _), (7, _), (8, _), (9, _), (11, _), (84, _)] (.c8 rfl rfl rfl rfl rfl rfl rfl rfl) (kE ?_))))))))); clear h a; intro a h
    refine cS h rfl (fun c11=>?_) (fun c11=>?_)
    ·refine tC h (kR (fad rfl fa91_0 ?_)); clear h a; intro a h
     refine st_storeB h rfl rfl hb11 rfl rfl rfl sz89 ?_; clear h a; intro w15 hbn hq hz a h
     replace hf := hf.sp hq
     replace hX := hX.fr hq (dlt hlt_hX_11 (by omega))
     replace hY := hY.fr hq (dlt hlt_hY_11 (by omega))
     clear hb11 hq hz; have hb11 : Blk w15 g_11 _ [_, _, _, _, _] := hbn; clear hbn
     replace h : Ag a 141 [(0, _), (1, _), (6, _), (7, _), (8, _), (9, _), (11, _)] := h.sub (.c7 rfl rfl rfl rfl rfl rfl rfl)
     refine wpList_nil (norm_blk (norm_then ?_))
     exact ⟨⟨_, _, _, _, _⟩, h.sub (.c7 rfl rfl rfl rfl rfl rfl rfl), hb11, (by have H : FH ls i ch := ⟨ch0, ch1, by omega, hfl⟩; first | exact f1 H | exact f2 H | exact f3 H | exact f4 H hxp hxq | exact f5 H hxp hxq | exact f6 H | exact f7 H hxp | exact f8 H hxp | exact f9 H | exact f10 H hkx ⟨hk7.1, hk7.2.2.1, hk7.2.2.2.1, hk7.2.2.2.2⟩ | exact f11 H hkx | exact f12 H), hX, hY, hf⟩
    refine wp_skip (norm_blk (norm_then ?_))
    exact ⟨⟨_, _, _, _, _⟩, h.sub (.c7 rfl rfl rfl rfl rfl rfl rfl), hb11, (by have H : FH ls i ch := ⟨ch0, ch1, by omega, hfl⟩; first | exact f1 H | exact f2 H | exact f3 H | exact f4 H hxp hxq | exact f5 H hxp hxq | exact f6 H | exact f7 H hxp | exact f8 H hxp | exact f9 H | exact f10 H hkx ⟨hk7.1, hk7.2.2.1, hk7.2.2.2.1, hk7.2.2.2.2⟩ | exact f11 H hkx | exact f12 H), hX, hY, hf⟩
   refine tC h (kQ (kQ (kR (eq' rfl rfl (asg rfl (kL [(0, _), (1, _), (6, _), (7, _), (8, _), (9, _), (10, _), (11, _), (12, _), (41, _), (86, _)] (.d8 rfl rfl rfl rfl rfl rfl rfl rfl (.c3 rfl rfl rfl)) (kE ?_))))))); clear h a; intro a h
   refine cS h rfl (fun c12=>?_) (fun c12=>?_)
   ·rw [decide_eq_true c12] at h
    refine wsn ?_
    refine cond_true h rfl ?_
    refine tC h (kR (fad rfl fa91_0 ?_)); clear h a; intro a h
    refine st_storeB h rfl rfl hb11 rfl rfl rfl sz89 ?_; clear h a; intro w16 hbn hq hz a h
    replace hf := hf.sp hq
    replace hX := hX.fr hq (dlt hlt_hX_11 (by omega))
    replace hY := hY.fr hq (dlt hlt_hY_11 (by omega))
    clear hb11 hq hz; have hb11 : Blk w16 g_11 _ [_, _, _, _, _] := hbn; clear hbn
    replace h : Ag a 141 [(0, _), (1, _), (6, _), (7, _), (8, _), (9, _), (11, _)] := h.sub (.c7 rfl rfl rfl rfl rfl rfl rfl)
    refine wpList_nil (norm_blk (norm_then ?_))
    exact ⟨⟨_, _, _, _, _⟩, h.sub (.c7 rfl rfl rfl rfl rfl rfl rfl), hb11, (by have H : FH ls i ch := ⟨ch0, ch1, by omega, hfl⟩; first | exact f1 H | exact f2 H | exact f3 H | exact f4 H hxp hxq | exact f5 H hxp hxq | exact f6 H | exact f7 H hxp | exact f8 H hxp | exact f9 H | exact f10 H hkx ⟨hk7.1, hk7.2.2.1, hk7.2.2.2.1, hk7.2.2.2.2⟩ | exact f11 H hkx | exact f12 H), hX, hY, hf⟩
   rw [decide_eq_false c12] at h
   refine tC h (kR (eq' rfl rfl (asg rfl (kL [(0, _), (1, _), (6, _), (7, _), (8, _), (9, _), (10, _), (11, _), (12, _), (41, _), (86, _)] (.d8 rfl rfl rfl rfl rfl rfl rfl rfl (.c3 rfl rfl rfl)) (kE ?_))))); clear h a; intro a h
   refine cS h rfl (fun c13=>?_) (fun c13=>?_)
   ·refine tC h (kR (fad rfl fa91_0 ?_)); clear h a; intro a h
    refine st_storeB h rfl rfl hb11 rfl rfl rfl sz89 ?_; clear h a; intro w17 hbn hq hz a h
    replace hf := hf.sp hq
    replace hX := hX.fr hq (dlt hlt_hX_11 (by omega))
    replace hY := hY.fr hq (dlt hlt_hY_11 (by omega))
    clear hb11 hq hz; have hb11 : Blk w17 g_11 _ [_, _, _, _, _] := hbn; clear hbn
    replace h : Ag a 141 [(0, _), (1, _), (6, _), (7, _), (8, _), (9, _), (11, _)] := h.sub (.c7 rfl rfl rfl rfl rfl rfl rfl)
    refine wpList_nil (norm_blk (norm_then ?_))
    exact ⟨⟨_, _, _, _, _⟩, h.sub (.c7 rfl rfl rfl rfl rfl rfl rfl), hb11, (by have H : FH ls i ch := ⟨ch0, ch1, by omega, hfl⟩; first | exact f1 H | exact f2 H | exact f3 H | exact f4 H hxp hxq | exact f5 H hxp hxq | exact f6 H | exact f7 H hxp | exact f8 H hxp | exact f9 H | exact f10 H hkx ⟨hk7.1, hk7.2.2.1, hk7.2.2.2.1, hk7.2.2.2.2⟩ | exact f11 H hkx | exact f12 H), hX, hY, hf⟩
   refine tC h (kQ (kQ (kR (eq' rfl rfl (asg rfl (kL [(0, _), (1, _), (6, _), (7, _), (8, _), (9, _), (10, _), (11, _), (12, _), (41, _), (90, _)] (.d8 rfl rfl rfl rfl rfl rfl rfl rfl (.c3 rfl rfl rfl)) (kE ?_))))))); clear h a; intro a h
   refine cS h rfl (fun c14=>?_) (fun c14=>?_)
   ·rw [decide_eq_true c14] at h
    refine wsn ?_
    refine cond_true h rfl ?_
    refine tC h (kQ (kR (mv rfl (mv rfl (s_quo rfl rfl (by first | exact IntWalk.u8_quo _ _ (by omega) | rfl) (s_mul rfl rfl (by first | exact IntWalk.u8_in _ (by omega) | rfl) (s_sub rfl rfl (by first | exact IntWalk.u8_in _ (by omega) | rfl) (mv rfl (ge' rfl rfl (s_lit (cs := [_, _, _, _]) (evs_cons rfl (evs_cons rfl (evs_cons rfl evs_nil))) bo235 (pok_cons rfl rfl rfl (pok_cons rfl rfl rfl (pok_cons rfl rfl rfl pok_nil))) rfl ?_)))))))))); clear h a; intro a h
    refine st_call h (evs_cons rfl evs_nil) co135 (kof_ok 7 0 _ _ _ (by omega) (by omega) (by omega)) ?_; clear h a; rintro _ w18 ⟨rfl, hq⟩ a h
    replace hf := hf.next hq
    replace hX := hX.ext hq
    replace hY := hY.ext hq
    replace hb11 := hb11.ext hq
    clear hq
    obtain ⟨kx, hkx⟩ : ∃ s, s = kOfS 7 0 (ch - ch / 16 * 16) (decide (128 ≤ ch)) := ⟨_, rfl⟩
    rw [← hkx] at h
    have hk7 := kOf7 (ch - ch / 16 * 16) (decide (128 ≤ ch)) (by omega)
    rw [← hkx] at hk7
    refine st_alloc h zv91 rfl ?_; clear h a; intro w19 hb13 hq hz a h
    obtain ⟨g_13, hg⟩ : ∃ g, g = w18.heap.size := ⟨_, rfl⟩; rw [← hg] at hb13 h hz
    have hl13 : w0.heap.size ≤ g_13 := by have := hf.size; omega
    have hlt_hX_13 : ∀ k ∈ blks X, k < g_13 := fun k hk => by have := (hX.blk k hk).2; omega
    have hlt_hY_13 : ∀ k ∈ blks (.slice YA ys.length yc), k < g_13 := fun k hk => by have := (hY.blk k hk).2; omega
    have hn_11_13 : g_11 < g_13 := by have := hb11.lt; omega
    replace hf := hf.next hq
    replace hX := hX.ext hq
    replace hY := hY.ext hq
    replace hb11 := hb11.ext hq
    clear hq hz hg
    refine st_storeBA h rfl rfl hb13 rfl sz91 ?_; clear h a; intro w20 hbn hq hz a h
    replace hf := hf.sp hq
    replace hX := hX.fr hq (dlt hlt_hX_13 (by omega))
    replace hY := hY.fr hq (dlt hlt_hY_13 (by omega))
    replace hb11 := hb11.fr hq (by simp[blks]<;>omega)
    clear hb13 hq hz; have hb13 : Blk w20 g_13 _ [_, _, _, _, _] := hbn; clear hbn
    refine tW h (kL [(0, _), (1, _), (6, _), (7, _), (8, _), (9, _), (11, _), (12, _), (13, _)] (.d8 rfl rfl rfl rfl rfl rfl rfl rfl (.cons rfl .nil)) (kE (kQ (kR (fad rfl fa91_2 (s_loadB rfl hb13 rfl na3 (fad rfl fa91_3 (s_loadB rfl hb13 rfl na3 (s_add rfl rfl (by first | exact i6 (by omega) | rfl) (mv rfl (le' rfl rfl (kL [(0, _), (1, _), (6, _), (7, _), (8, _), (9, _), (11, _), (13, _), (111, _)] (.d8 rfl rfl rfl rfl rfl rfl rfl rfl (.cons rfl .nil)) (kE ?_))))))))))))); clear h a; intro a h
    refine cS h rfl (fun c19=>?_) (fun c19=>?_)
    ·refine tC h (kQ (kR (fad rfl fa91_1 (s_loadB rfl hb11 rfl na5 (fad rfl fa91_1 ?_))))); clear h a; intro a h
     refine st_storeB h rfl rfl hb13 rfl rfl rfl sz5 ?_; clear h a; intro w21 hbn hq hz a h
     replace hf := hf.sp hq
     replace hX := hX.fr hq (dlt hlt_hX_13 (by omega))
     replace hY := hY.fr hq (dlt hlt_hY_13 (by omega))
     replace hb11 := hb11.fr hq (by simp[blks]<;>omega)
     clear hb13 hq hz; have hb13 : Blk w21 g_13 _ [_, _, _, _, _] := hbn; clear hbn
     refine tW h (kL [(0, _), (1, _), (6, _), (7, _), (8, _), (9, _), (11, _), (13, _)] (.c8 rfl rfl rfl rfl rfl rfl rfl rfl) (kE (kR (s_loadBA rfl hb13 ag91 ?_)))); clear h a; intro a h
     refine st_storeBA h rfl rfl hb11 rfl sz91 ?_; clear h a; intro w22 hbn hq hz a h
     replace hf := hf.sp hq
     replace hX := hX.fr hq (dlt hlt_hX_11 (by omega))
     replace hY := hY.fr hq (dlt hlt_hY_11 (by omega))
     replace hb13 := hb13.fr hq (by simp[blks]<;>omega)
     clear hb11 hq hz; have hb11 : Blk w22 g_11 _ [_, _, _, _, _] := hbn; clear hbn
     replace hb11 : Blk w22 g_11 91 [.int .u8 kx.k, .int .u8 (1 + ch / 16 % 3), .int .i64 kx.a, .int .i64 kx.b, .bool kx.f] := hb11
     replace h : Ag a 141 [(0, _), (1, _), (6, _), (7, _), (8, _), (9, _), (11, _)] := h.sub (.c7 rfl rfl rfl rfl rfl rfl rfl)
     refine wpList_nil (norm_blk (norm_then ?_))
     exact ⟨⟨_, _, _, _, _⟩, h.sub (.c7 rfl rfl rfl rfl rfl rfl rfl), hb11, (by have H : FH ls i ch := ⟨ch0, ch1, by omega, hfl⟩; first | exact f1 H | exact f2 H | exact f3 H | exact f4 H hxp hxq | exact f5 H hxp hxq | exact f6 H | exact f7 H hxp | exact f8 H hxp | exact f9 H | exact f10 H hkx ⟨hk7.1, hk7.2.2.1, hk7.2.2.2.1, hk7.2.2.2.2⟩ | exact f11 H hkx | exact f12 H), hX, hY, hf⟩
    refine wp_skip (norm_blk (norm_then ?_))
    exact ⟨⟨_, _, _, _, _⟩, h.sub (.c7 rfl rfl rfl rfl rfl rfl rfl), hb11, (by have H : FH ls i ch := ⟨ch0, ch1, by omega, hfl⟩; first | exact f1 H | exact f2 H | exact f3 H | exact f4 H hxp hxq | exact f5 H hxp hxq | exact f6 H | exact f7 H hxp | exact f8 H hxp | exact f9 H | exact f10 H hkx ⟨hk7.1, hk7.2.2.1, hk7.2.2.2.1, hk7.2.2.2.2⟩ | exact f11 H hkx | exact f12 H), hX, hY, hf⟩
   rw [decide_eq_false c14] at h
   refine tC h (kQ (kR (eq' rfl rfl (asg rfl (kL [(0, _), (1, _), (6, _), (7, _), (8, _), (9, _), (10, _), (11, _), (12, _), (41, _), (90, _)] (.d8 rfl rfl rfl rfl rfl rfl rfl rfl (.c3 rfl rfl rfl)) (kE ?_)))))); clear h a; intro a h
   refine cS h rfl (fun c15=>?_) (fun c15=>?_)
   ·rw [decide_eq_true c15] at h
    refine wsn ?_
    refine cond_true h rfl ?_
    refine tC h (kQ (kR (mv rfl (mv rfl (s_quo rfl rfl (by first | exact IntWalk.u8_quo _ _ (by omega) | rfl) (s_mul rfl rfl (by first | exact IntWalk.u8_in _ (by omega) | rfl) (s_sub rfl rfl (by first | exact IntWalk.u8_in _ (by omega) | rfl) (mv rfl (ge' rfl rfl (s_lit (cs := [_, _, _, _]) (evs_cons rfl (evs_cons rfl (evs_cons rfl evs_nil))) bo235 (pok_cons rfl rfl rfl (pok_cons rfl rfl rfl (pok_cons rfl rfl rfl pok_nil))) rfl ?_)))))))))); clear h a; intro a h
    refine st_call h (evs_cons rfl evs_nil) co135 (kof_ok 7 0 _ _ _ (by omega) (by omega) (by omega)) ?_; clear h a; rintro _ w23 ⟨rfl, hq⟩ a h
    replace hf := hf.next hq
    replace hX := hX.ext hq
    replace hY := hY.ext hq
    replace hb11 := hb11.ext hq
    clear hq
    obtain ⟨kx, hkx⟩ : ∃ s, s = kOfS 7 0 (ch - ch / 16 * 16) (decide (128 ≤ ch)) := ⟨_, rfl⟩
    rw [← hkx] at h
    have hk7 := kOf7 (ch - ch / 16 * 16) (decide (128 ≤ ch)) (by omega)
    rw [← hkx] at hk7
    refine st_alloc h zv91 rfl ?_; clear h a; intro w24 hb13 hq hz a h
    obtain ⟨g_13, hg⟩ : ∃ g, g = w23.heap.size := ⟨_, rfl⟩; rw [← hg] at hb13 h hz
    have hl13 : w0.heap.size ≤ g_13 := by have := hf.size; omega
    have hlt_hX_13 : ∀ k ∈ blks X, k < g_13 := fun k hk => by have := (hX.blk k hk).2; omega
    have hlt_hY_13 : ∀ k ∈ blks (.slice YA ys.length yc), k < g_13 := fun k hk => by have := (hY.blk k hk).2; omega
    have hn_11_13 : g_11 < g_13 := by have := hb11.lt; omega
    replace hf := hf.next hq
    replace hX := hX.ext hq
    replace hY := hY.ext hq
    replace hb11 := hb11.ext hq
    clear hq hz hg
    refine st_storeBA h rfl rfl hb13 rfl sz91 ?_; clear h a; intro w25 hbn hq hz a h
    replace hf := hf.sp hq
    replace hX := hX.fr hq (dlt hlt_hX_13 (by omega))
    replace hY := hY.fr hq (dlt hlt_hY_13 (by omega))
    replace hb11 := hb11.fr hq (by simp[blks]<;>omega)
    clear hb13 hq hz; have hb13 : Blk w25 g_13 _ [_, _, _, _, _] := hbn; clear hbn
    refine tW h (kL [(0, _), (1, _), (6, _), (7, _), (8, _), (9, _), (11, _), (12, _), (13, _)] (.d8 rfl rfl rfl rfl rfl rfl rfl rfl (.cons rfl .nil)) (kE (kQ (kR (fad rfl fa91_2 (s_loadB rfl hb13 rfl na3 (fad rfl fa91_3 (s_loadB rfl hb13 rfl na3 (s_add rfl rfl (by first | exact i6 (by omega) | rfl) (mv rfl (le' rfl rfl (kL [(0, _), (1, _), (6, _), (7, _), (8, _), (9, _), (11, _), (13, _), (111, _)] (.d8 rfl rfl rfl rfl rfl rfl rfl rfl (.cons rfl .nil)) (kE ?_))))))))))))); clear h a; intro a h
    refine cS h rfl (fun c19=>?_) (fun c19=>?_)
    ·refine tC h (kQ (kR (fad rfl fa91_1 (s_loadB rfl hb11 rfl na5 (fad rfl fa91_1 ?_))))); clear h a; intro a h
     refine st_storeB h rfl rfl hb13 rfl rfl rfl sz5 ?_; clear h a; intro w26 hbn hq hz a h
     replace hf := hf.sp hq
     replace hX := hX.fr hq (dlt hlt_hX_13 (by omega))
     replace hY := hY.fr hq (dlt hlt_hY_13 (by omega))
     replace hb11 := hb11.fr hq (by simp[blks]<;>omega)
     clear hb13 hq hz; have hb13 : Blk w26 g_13 _ [_, _, _, _, _] := hbn; clear hbn
     refine tW h (kL [(0, _), (1, _), (6, _), (7, _), (8, _), (9, _), (11, _), (13, _)] (.c8 rfl rfl rfl rfl rfl rfl rfl rfl) (kE (kR (s_loadBA rfl hb13 ag91 ?_)))); clear h a; intro a h
     refine st_storeBA h rfl rfl hb11 rfl sz91 ?_; clear h a; intro w27 hbn hq hz a h
     replace hf := hf.sp hq
     replace hX := hX.fr hq (dlt hlt_hX_11 (by omega))
     replace hY := hY.fr hq (dlt hlt_hY_11 (by omega))
     replace hb13 := hb13.fr hq (by simp[blks]<;>omega)
     clear hb11 hq hz; have hb11 : Blk w27 g_11 _ [_, _, _, _, _] := hbn; clear hbn
     replace hb11 : Blk w27 g_11 91 [.int .u8 kx.k, .int .u8 (1 + ch / 16 % 3), .int .i64 kx.a, .int .i64 kx.b, .bool kx.f] := hb11
     replace h : Ag a 141 [(0, _), (1, _), (6, _), (7, _), (8, _), (9, _), (11, _)] := h.sub (.c7 rfl rfl rfl rfl rfl rfl rfl)
     refine wpList_nil (norm_blk (norm_then ?_))
     exact ⟨⟨_, _, _, _, _⟩, h.sub (.c7 rfl rfl rfl rfl rfl rfl rfl), hb11, (by have H : FH ls i ch := ⟨ch0, ch1, by omega, hfl⟩; first | exact f1 H | exact f2 H | exact f3 H | exact f4 H hxp hxq | exact f5 H hxp hxq | exact f6 H | exact f7 H hxp | exact f8 H hxp | exact f9 H | exact f10 H hkx ⟨hk7.1, hk7.2.2.1, hk7.2.2.2.1, hk7.2.2.2.2⟩ | exact f11 H hkx | exact f12 H), hX, hY, hf⟩
    refine wp_skip (norm_blk (norm_then ?_))
    exact ⟨⟨_, _, _, _, _⟩, h.sub (.c7 rfl rfl rfl rfl rfl rfl rfl), hb11, (by have H : FH ls i ch := ⟨ch0, ch1, by omega, hfl⟩; first | exact f1 H | exact f2 H | exact f3 H | exact f4 H hxp hxq | exact f5 H hxp hxq | exact f6 H | exact f7 H hxp | exact f8 H hxp | exact f9 H | exact f10 H hkx ⟨hk7.1, hk7.2.2.1, hk7.2.2.2.1, hk7.2.2.2.2⟩ | exact f11 H hkx | exact f12 H), hX, hY, hf⟩
   rw [decide_eq_false c15] at h
   refine tC h (kQ (kR (eq' rfl rfl (asg rfl (kL [(0, _), (1, _), (6, _), (7, _), (8, _), (9, _), (10, _), (11, _), (12, _), (41, _), (90, _)] (.d8 rfl rfl rfl rfl rfl rfl rfl rfl (.c3 rfl rfl rfl)) (kE ?_)))))); clear h a; intro a h
   refine cS h rfl (fun c16=>?_) (fun c16=>?_)
   ·rw [decide_eq_true c16] at h
    refine wsn ?_
    refine cond_true h rfl ?_
    refine tC h (kQ (kR (mv rfl (mv rfl (s_quo rfl rfl (by first | exact IntWalk.u8_quo _ _ (by omega) | rfl) (s_mul rfl rfl (by first | exact IntWalk.u8_in _ (by omega) | rfl) (s_sub rfl rfl (by first | exact IntWalk.u8_in _ (by omega) | rfl) (mv rfl (ge' rfl rfl (s_lit (cs := [_, _, _, _]) (evs_cons rfl (evs_cons rfl (evs_cons rfl evs_nil))) bo235 (pok_cons rfl rfl rfl (pok_cons rfl rfl rfl (pok_cons rfl rfl rfl pok_nil))) rfl ?_)))))))))); clear h a; intro a h
    refine st_call h (evs_cons rfl evs_nil) co135 (kof_ok 7 0 _ _ _ (by omega) (by omega) (by omega)) ?_; clear h a; rintro _ w28 ⟨rfl, hq⟩ a h
    replace hf := hf.next hq
    replace hX := hX.ext hq
    replace hY := hY.ext hq
    replace hb11 := hb11.ext hq
    clear hq
    obtain ⟨kx, hkx⟩ : ∃ s, s = kOfS 7 0 (ch - ch / 16 * 16) (decide (128 ≤ ch)) := ⟨_, rfl⟩
    rw [← hkx] at h
    have hk7 := kOf7 (ch - ch / 16 * 16) (decide (128 ≤ ch)) (by omega)
    rw [← hkx] at hk7
    refine st_alloc h zv91 rfl ?_; clear h a; intro w29 hb13 hq hz a h
    obtain ⟨g_13, hg⟩ : ∃ g, g = w28.heap.size := ⟨_, rfl⟩; rw [← hg] at hb13 h hz
    have hl13 : w0.heap.size ≤ g_13 := by have := hf.size; omega
    have hlt_hX_13 : ∀ k ∈ blks X, k < g_13 := fun k hk => by have := (hX.blk k hk).2; omega
    have hlt_hY_13 : ∀ k ∈ blks (.slice YA ys.length yc), k < g_13 := fun k hk => by have := (hY.blk k hk).2; omega
    have hn_11_13 : g_11 < g_13 := by have := hb11.lt; omega
    replace hf := hf.next hq
    replace hX := hX.ext hq
    replace hY := hY.ext hq
    replace hb11 := hb11.ext hq
    clear hq hz hg
    refine st_storeBA h rfl rfl hb13 rfl sz91 ?_; clear h a; intro w30 hbn hq hz a h
    replace hf := hf.sp hq
    replace hX := hX.fr hq (dlt hlt_hX_13 (by omega))
    replace hY := hY.fr hq (dlt hlt_hY_13 (by omega))
    replace hb11 := hb11.fr hq (by simp[blks]<;>omega)
    clear hb13 hq hz; have hb13 : Blk w30 g_13 _ [_, _, _, _, _] := hbn; clear hbn
    refine tW h (kL [(0, _), (1, _), (6, _), (7, _), (8, _), (9, _), (11, _), (12, _), (13, _)] (.d8 rfl rfl rfl rfl rfl rfl rfl rfl (.cons rfl .nil)) (kE (kQ (kR (fad rfl fa91_2 (s_loadB rfl hb13 rfl na3 (fad rfl fa91_3 (s_loadB rfl hb13 rfl na3 (s_add rfl rfl (by first | exact i6 (by omega) | rfl) (mv rfl (le' rfl rfl (kL [(0, _), (1, _), (6, _), (7, _), (8, _), (9, _), (11, _), (13, _), (111, _)] (.d8 rfl rfl rfl rfl rfl rfl rfl rfl (.cons rfl .nil)) (kE ?_))))))))))))); clear h a; intro a h
    refine cS h rfl (fun c19=>?_) (fun c19=>?_)
    ·refine tC h (kQ (kR (fad rfl fa91_1 (s_loadB rfl hb11 rfl na5 (fad rfl fa91_1 ?_))))); clear h a; intro a h
     refine st_storeB h rfl rfl hb13 rfl rfl rfl sz5 ?_; clear h a; intro w31 hbn hq hz a h
     replace hf := hf.sp hq
     replace hX := hX.fr hq (dlt hlt_hX_13 (by omega))
     replace hY := hY.fr hq (dlt hlt_hY_13 (by omega))
     replace hb11 := hb11.fr hq (by simp[blks]<;>omega)
     clear hb13 hq hz; have hb13 : Blk w31 g_13 _ [_, _, _, _, _] := hbn; clear hbn
     refine tW h (kL [(0, _), (1, _), (6, _), (7, _), (8, _), (9, _), (11, _), (13, _)] (.c8 rfl rfl rfl rfl rfl rfl rfl rfl) (kE (kR (s_loadBA rfl hb13 ag91 ?_)))); clear h a; intro a h
     refine st_storeBA h rfl rfl hb11 rfl sz91 ?_; clear h a; intro w32 hbn hq hz a h
     replace hf := hf.sp hq
     replace hX := hX.fr hq (dlt hlt_hX_11 (by omega))
     replace hY := hY.fr hq (dlt hlt_hY_11 (by omega))
     replace hb13 := hb13.fr hq (by simp[blks]<;>omega)
     clear hb11 hq hz; have hb11 : Blk w32 g_11 _ [_, _, _, _, _] := hbn; clear hbn
     replace hb11 : Blk w32 g_11 91 [.int .u8 kx.k, .int .u8 (1 + ch / 16 % 3), .int .i64 kx.a, .int .i64 kx.b, .bool kx.f] := hb11
     replace h : Ag a 141 [(0, _), (1, _), (6, _), (7, _), (8, _), (9, _), (11, _)] := h.sub (.c7 rfl rfl rfl rfl rfl rfl rfl)
     refine wpList_nil (norm_blk (norm_then ?_))
     exact ⟨⟨_, _, _, _, _⟩, h.sub (.c7 rfl rfl rfl rfl rfl rfl rfl), hb11, (by have H : FH ls i ch := ⟨ch0, ch1, by omega, hfl⟩; first | exact f1 H | exact f2 H | exact f3 H | exact f4 H hxp hxq | exact f5 H hxp hxq | exact f6 H | exact f7 H hxp | exact f8 H hxp | exact f9 H | exact f10 H hkx ⟨hk7.1, hk7.2.2.1, hk7.2.2.2.1, hk7.2.2.2.2⟩ | exact f11 H hkx | exact f12 H), hX, hY, hf⟩
    refine wp_skip (norm_blk (norm_then ?_))
    exact ⟨⟨_, _, _, _, _⟩, h.sub (.c7 rfl rfl rfl rfl rfl rfl rfl), hb11, (by have H : FH ls i ch := ⟨ch0, ch1, by omega, hfl⟩; first | exact f1 H | exact f2 H | exact f3 H | exact f4 H hxp hxq | exact f5 H hxp hxq | exact f6 H | exact f7 H hxp | exact f8 H hxp | exact f9 H | exact f10 H hkx ⟨hk7.1, hk7.2.2.1, hk7.2.2.2.1, hk7.2.2.2.2⟩ | exact f11 H hkx | exact f12 H), hX, hY, hf⟩
   rw [decide_eq_false c16] at h
   refine tC h (kQ (kR (eq' rfl rfl (asg rfl (kL [(0, _), (1, _), (6, _), (7, _), (8, _), (9, _), (10, _), (11, _), (12, _), (41, _), (90, _)] (.d8 rfl rfl rfl rfl rfl rfl rfl rfl (.c3 rfl rfl rfl)) (kE ?_)))))); clear h a; intro a h
   refine cS h rfl (fun c17=>?_) (fun c17=>?_)
   ·rw [decide_eq_true c17] at h
    refine wsn ?_
    refine cond_true h rfl ?_
    refine tC h (kQ (kR (mv rfl (mv rfl (s_quo rfl rfl (by first | exact IntWalk.u8_quo _ _ (by omega) | rfl) (s_mul rfl rfl (by first | exact IntWalk.u8_in _ (by omega) | rfl) (s_sub rfl rfl (by first | exact IntWalk.u8_in _ (by omega) | rfl) (mv rfl (ge' rfl rfl (s_lit (cs := [_, _, _, _]) (evs_cons rfl (evs_cons rfl (evs_cons rfl evs_nil))) bo235 (pok_cons rfl rfl rfl (pok_cons rfl rfl rfl (pok_cons rfl rfl rfl pok_nil))) rfl ?_)))))))))); clear h a; intro a h
    refine st_call h (evs_cons rfl evs_nil) co135 (kof_ok 7 0 _ _ _ (by omega) (by omega) (by omega)) ?_; clear h a; rintro _ w33 ⟨rfl, hq⟩ a h
    replace hf := hf.next hq
    replace hX := hX.ext hq
    replace hY := hY.ext hq
    replace hb11 := hb11.ext hq
    clear hq
    obtain ⟨kx, hkx⟩ : ∃ s, s = kOfS 7 0 (ch - ch / 16 * 16) (decide (128 ≤ ch)) := ⟨_, rfl⟩
    rw [← hkx] at h
    have hk7 := kOf7 (ch - ch / 16 * 16) (decide (128 ≤ ch)) (by omega)
    rw [← hkx] at hk7
    refine st_alloc h zv91 rfl ?_; clear h a; intro w34 hb13 hq hz a h
    obtain ⟨g_13, hg⟩ : ∃ g, g = w33.heap.size := ⟨_, rfl⟩; rw [← hg] at hb13 h hz
    have hl13 : w0.heap.size ≤ g_13 := by have := hf.size; omega
    have hlt_hX_13 : ∀ k ∈ blks X, k < g_13 := fun k hk => by have := (hX.blk k hk).2; omega
    have hlt_hY_13 : ∀ k ∈ blks (.slice YA ys.length yc), k < g_13 := fun k hk => by have := (hY.blk k hk).2; omega
    have hn_11_13 : g_11 < g_13 := by have := hb11.lt; omega
    replace hf := hf.next hq
    replace hX := hX.ext hq
    replace hY := hY.ext hq
    replace hb11 := hb11.ext hq
    clear hq hz hg
    refine st_storeBA h rfl rfl hb13 rfl sz91 ?_; clear h a; intro w35 hbn hq hz a h
    replace hf := hf.sp hq
    replace hX := hX.fr hq (dlt hlt_hX_13 (by omega))
    replace hY := hY.fr hq (dlt hlt_hY_13 (by omega))
    replace hb11 := hb11.fr hq (by simp[blks]<;>omega)
    clear hb13 hq hz; have hb13 : Blk w35 g_13 _ [_, _, _, _, _] := hbn; clear hbn
    refine tW h (kL [(0, _), (1, _), (6, _), (7, _), (8, _), (9, _), (11, _), (12, _), (13, _)] (.d8 rfl rfl rfl rfl rfl rfl rfl rfl (.cons rfl .nil)) (kE (kQ (kR (fad rfl fa91_2 (s_loadB rfl hb13 rfl na3 (fad rfl fa91_3 (s_loadB rfl hb13 rfl na3 (s_add rfl rfl (by first | exact i6 (by omega) | rfl) (mv rfl (le' rfl rfl (kL [(0, _), (1, _), (6, _), (7, _), (8, _), (9, _), (11, _), (13, _), (111, _)] (.d8 rfl rfl rfl rfl rfl rfl rfl rfl (.cons rfl .nil)) (kE ?_))))))))))))); clear h a; intro a h
    refine cS h rfl (fun c19=>?_) (fun c19=>?_)
    ·refine tC h (kQ (kR (fad rfl fa91_1 (s_loadB rfl hb11 rfl na5 (fad rfl fa91_1 ?_))))); clear h a; intro a h
     refine st_storeB h rfl rfl hb13 rfl rfl rfl sz5 ?_; clear h a; intro w36 hbn hq hz a h
     replace hf := hf.sp hq
     replace hX := hX.fr hq (dlt hlt_hX_13 (by omega))
     replace hY := hY.fr hq (dlt hlt_hY_13 (by omega))
     replace hb11 := hb11.fr hq (by simp[blks]<;>omega)
     clear hb13 hq hz; have hb13 : Blk w36 g_13 _ [_, _, _, _, _] := hbn; clear hbn
     refine tW h (kL [(0, _), (1, _), (6, _), (7, _), (8, _), (9, _), (11, _), (13, _)] (.c8 rfl rfl rfl rfl rfl rfl rfl rfl) (kE (kR (s_loadBA rfl hb13 ag91 ?_)))); clear h a; intro a h
     refine st_storeBA h rfl rfl hb11 rfl sz91 ?_; clear h a; intro w37 hbn hq hz a h
     replace hf := hf.sp hq
     replace hX := hX.fr hq (dlt hlt_hX_11 (by omega))
     replace hY := hY.fr hq (dlt hlt_hY_11 (by omega))
     replace hb13 := hb13.fr hq (by simp[blks]<;>omega)
     clear hb11 hq hz; have hb11 : Blk w37 g_11 _ [_, _, _, _, _] := hbn; clear hbn
     replace hb11 : Blk w37 g_11 91 [.int .u8 kx.k, .int .u8 (1 + ch / 16 % 3), .int .i64 kx.a, .int .i64 kx.b, .bool kx.f] := hb11
     replace h : Ag a 141 [(0, _), (1, _), (6, _), (7, _), (8, _), (9, _), (11, _)] := h.sub (.c7 rfl rfl rfl rfl rfl rfl rfl)
     refine wpList_nil (norm_blk (norm_then ?_))
     exact ⟨⟨_, _, _, _, _⟩, h.sub (.c7 rfl rfl rfl rfl rfl rfl rfl), hb11, (by have H : FH ls i ch := ⟨ch0, ch1, by omega, hfl⟩; first | exact f1 H | exact f2 H | exact f3 H | exact f4 H hxp hxq | exact f5 H hxp hxq | exact f6 H | exact f7 H hxp | exact f8 H hxp | exact f9 H | exact f10 H hkx ⟨hk7.1, hk7.2.2.1, hk7.2.2.2.1, hk7.2.2.2.2⟩ | exact f11 H hkx | exact f12 H), hX, hY, hf⟩
    refine wp_skip (norm_blk (norm_then ?_))
    exact ⟨⟨_, _, _, _, _⟩, h.sub (.c7 rfl rfl rfl rfl rfl rfl rfl), hb11, (by have H : FH ls i ch := ⟨ch0, ch1, by omega, hfl⟩; first | exact f1 H | exact f2 H | exact f3 H | exact f4 H hxp hxq | exact f5 H hxp hxq | exact f6 H | exact f7 H hxp | exact f8 H hxp | exact f9 H | exact f10 H hkx ⟨hk7.1, hk7.2.2.1, hk7.2.2.2.1, hk7.2.2.2.2⟩ | exact f11 H hkx | exact f12 H), hX, hY, hf⟩
   rw [decide_eq_false c17] at h
   refine tC h (kR (eq' rfl rfl (asg rfl (kL [(0, _), (1, _), (6, _), (7, _), (8, _), (9, _), (10, _), (11, _), (12, _), (90, _)] (.d8 rfl rfl rfl rfl rfl rfl rfl rfl (.c2 rfl rfl)) (kE ?_))))); clear h a; intro a h
   refine cS h rfl (fun c18=>?_) (fun c18=>?_)
   ·refine tC h (kQ (kR (mv rfl (mv rfl (s_quo rfl rfl (by first | exact IntWalk.u8_quo _ _ (by omega) | rfl) (s_mul rfl rfl (by first | exact IntWalk.u8_in _ (by omega) | rfl) (s_sub rfl rfl (by first | exact IntWalk.u8_in _ (by omega) | rfl) (mv rfl (ge' rfl rfl (s_lit (cs := [_, _, _, _]) (evs_cons rfl (evs_cons rfl (evs_cons rfl evs_nil))) bo235 (pok_cons rfl rfl rfl (pok_cons rfl rfl rfl (pok_cons rfl rfl rfl pok_nil))) rfl ?_)))))))))); clear h a; intro a h
    refine st_call h (evs_cons rfl evs_nil) co135 (kof_ok 7 0 _ _ _ (by omega) (by omega) (by omega)) ?_; clear h a; rintro _ w38 ⟨rfl, hq⟩ a h
    replace hf := hf.next hq
    replace hX := hX.ext hq
    replace hY := hY.ext hq
    replace hb11 := hb11.ext hq
    clear hq
    obtain ⟨kx, hkx⟩ : ∃ s, s = kOfS 7 0 (ch - ch / 16 * 16) (decide (128 ≤ ch)) := ⟨_, rfl⟩
    rw [← hkx] at h
    have hk7 := kOf7 (ch - ch / 16 * 16) (decide (128 ≤ ch)) (by omega)
    rw [← hkx] at hk7
    refine st_alloc h zv91 rfl ?_; clear h a; intro w39 hb13 hq hz a h
    obtain ⟨g_13, hg⟩ : ∃ g, g = w38.heap.size := ⟨_, rfl⟩; rw [← hg] at hb13 h hz
    have hl13 : w0.heap.size ≤ g_13 := by have := hf.size; omega
    have hlt_hX_13 : ∀ k ∈ blks X, k < g_13 := fun k hk => by have := (hX.blk k hk).2; omega
    have hlt_hY_13 : ∀ k ∈ blks (.slice YA ys.length yc), k < g_13 := fun k hk => by have := (hY.blk k hk).2; omega
    have hn_11_13 : g_11 < g_13 := by have := hb11.lt; omega
    replace hf := hf.next hq
    replace hX := hX.ext hq
    replace hY := hY.ext hq
    replace hb11 := hb11.ext hq
    clear hq hz hg
    refine st_storeBA h rfl rfl hb13 rfl sz91 ?_; clear h a; intro w40 hbn hq hz a h
    replace hf := hf.sp hq
    replace hX := hX.fr hq (dlt hlt_hX_13 (by omega))
    replace hY := hY.fr hq (dlt hlt_hY_13 (by omega))
    replace hb11 := hb11.fr hq (by simp[blks]<;>omega)
    clear hb13 hq hz; have hb13 : Blk w40 g_13 _ [_, _, _, _, _] := hbn; clear hbn
    refine tW h (kL [(0, _), (1, _), (6, _), (7, _), (8, _), (9, _), (11, _), (12, _), (13, _)] (.d8 rfl rfl rfl rfl rfl rfl rfl rfl (.cons rfl .nil)) (kE (kQ (kR (fad rfl fa91_2 (s_loadB rfl hb13 rfl na3 (fad rfl fa91_3 (s_loadB rfl hb13 rfl na3 (s_add rfl rfl (by first | exact i6 (by omega) | rfl) (mv rfl (le' rfl rfl (kL [(0, _), (1, _), (6, _), (7, _), (8, _), (9, _), (11, _), (13, _), (111, _)] (.d8 rfl rfl rfl rfl rfl rfl rfl rfl (.cons rfl .nil)) (kE ?_))))))))))))); clear h a; intro a h
    refine cS h rfl (fun c19=>?_) (fun c19=>?_)
    ·refine tC h (kQ (kR (fad rfl fa91_1 (s_loadB rfl hb11 rfl na5 (fad rfl fa91_1 ?_))))); clear h a; intro a h
     refine st_storeB h rfl rfl hb13 rfl rfl rfl sz5 ?_; clear h a; intro w41 hbn hq hz a h
     replace hf := hf.sp hq
     replace hX := hX.fr hq (dlt hlt_hX_13 (by omega))
     replace hY := hY.fr hq (dlt hlt_hY_13 (by omega))
     replace hb11 := hb11.fr hq (by simp[blks]<;>omega)
     clear hb13 hq hz; have hb13 : Blk w41 g_13 _ [_, _, _, _, _] := hbn; clear hbn
     refine tW h (kL [(0, _), (1, _), (6, _), (7, _), (8, _), (9, _), (11, _), (13, _)] (.c8 rfl rfl rfl rfl rfl rfl rfl rfl) (kE (kR (s_loadBA rfl hb13 ag91 ?_)))); clear h a; intro a h
     refine st_storeBA h rfl rfl hb11 rfl sz91 ?_; clear h a; intro w42 hbn hq hz a h
     replace hf := hf.sp hq
     replace hX := hX.fr hq (dlt hlt_hX_11 (by omega))
     replace hY := hY.fr hq (dlt hlt_hY_11 (by omega))
     replace hb13 := hb13.fr hq (by simp[blks]<;>omega)
     clear hb11 hq hz; have hb11 : Blk w42 g_11 _ [_, _, _, _, _] := hbn; clear hbn
     replace hb11 : Blk w42 g_11 91 [.int .u8 kx.k, .int .u8 (1 + ch / 16 % 3), .int .i64 kx.a, .int .i64 kx.b, .bool kx.f] := hb11
     replace h : Ag a 141 [(0, _), (1, _), (6, _), (7, _), (8, _), (9, _), (11, _)] := h.sub (.c7 rfl rfl rfl rfl rfl rfl rfl)
     refine wpList_nil (norm_blk (norm_then ?_))
     exact ⟨⟨_, _, _, _, _⟩, h.sub (.c7 rfl rfl rfl rfl rfl rfl rfl), hb11, (by have H : FH ls i ch := ⟨ch0, ch1, by omega, hfl⟩; first | exact f1 H | exact f2 H | exact f3 H | exact f4 H hxp hxq | exact f5 H hxp hxq | exact f6 H | exact f7 H hxp | exact f8 H hxp | exact f9 H | exact f10 H hkx ⟨hk7.1, hk7.2.2.1, hk7.2.2.2.1, hk7.2.2.2.2⟩ | exact f11 H hkx | exact f12 H), hX, hY, hf⟩
    refine wp_skip (norm_blk (norm_then ?_))
    exact ⟨⟨_, _, _, _, _⟩, h.sub (.c7 rfl rfl rfl rfl rfl rfl rfl), hb11, (by have H : FH ls i ch := ⟨ch0, ch1, by omega, hfl⟩; first | exact f1 H | exact f2 H | exact f3 H | exact f4 H hxp hxq | exact f5 H hxp hxq | exact f6 H | exact f7 H hxp | exact f8 H hxp | exact f9 H | exact f10 H hkx ⟨hk7.1, hk7.2.2.1, hk7.2.2.2.1, hk7.2.2.2.2⟩ | exact f11 H hkx | exact f12 H), hX, hY, hf⟩
   refine wp_skip (norm_blk (norm_then ?_))
   exact ⟨⟨_, _, _, _, _⟩, h.sub (.c7 rfl rfl rfl rfl rfl rfl rfl), hb11, (by have H : FH ls i ch := ⟨ch0, ch1, by omega, hfl⟩; first | exact f1 H | exact f2 H | exact f3 H | exact f4 H hxp hxq | exact f5 H hxp hxq | exact f6 H | exact f7 H hxp | exact f8 H hxp | exact f9 H | exact f10 H hkx ⟨hk7.1, hk7.2.2.1, hk7.2.2.2.1, hk7.2.2.2.2⟩ | exact f11 H hkx | exact f12 H), hX, hY, hf⟩
  clear h a hX hY hf hb11
  rintro a w43 ⟨s, h, ⟨hb11, ⟨hfit, hsp⟩, hX, hY, hf⟩⟩
  obtain ⟨hst1, hst2, hst3⟩ := fit_step hfit hi h8
  have hrs := check_rng hfit.1
  have hks : 0 ≤ s.k := by omega
  have hys : 0 ≤ s.y := by omega
  have hfz := loads_few hfit.2.2.2
  obtain ⟨hfz, hzl, -⟩ := hfz
  have hfn := hfit.2.1
  have hndr := needs_rng s
  refine tC h (kQ (kR (s_loadBA rfl hb11 ag91 ?_))); clear h a; intro a h
  refine st_call h (evs_cons rfl evs_nil) co92 (refneeds_ok s _ hks hys) ?_; clear h a; rintro _ w44 ⟨rfl, hq⟩ a h
  replace hf := hf.next hq
  replace hX := hX.ext hq
  replace hY := hY.ext hq
  replace hb11 := hb11.ext hq
  clear hq
  refine tW h (asg rfl (kL [(0, _), (1, _), (6, _), (7, _), (8, _), (9, _), (11, _), (14, _)] (.c8 rfl rfl rfl rfl rfl rfl rfl rfl) (kE (kQ ?_)))); clear h a; intro a h
  refine region_held (fun wb w' => Fr [] wb w') hmix ?_; intro w45 hq
  replace hf := hf.next hq
  replace hX := hX.ext hq
  replace hY := hY.ext hq
  replace hb11 := hb11.ext hq
  clear hq; have hC : Fr [] w45 w45 := Fr.refl _ _
  have hX_b := hX
  have hY_b := hY
  have hb11_b := hb11
  refine hd_loadBA 0 hC h wn rfl (fun _ hw => hb11_b.ext hw) ag91 rfl ?_; clear h a; intro a h
  refine hd_move 1 hC h wn rfl rfl ?_; clear h a; intro a h
  refine hd_move 2 hC h wn rfl rfl ?_; clear h a; intro a h
  refine hd_move 3 hC h wn rfl rfl ?_; clear h a; intro a h
  refine hd_move 4 hC h wn rfl rfl ?_; clear h a; intro a h
  refine hd_add 5 hC h wn rfl rfl (by first | exact i6 (by omega) | rfl) rfl ?_; clear h a; intro a h
  refine hd_sl_lh 6 hC (p := i) (p' := i + (needsS s).toNat) h wn rfl rfl rfl el33 (by omega) (by omega) (by omega) (by omega) (by omega) rfl rfl ?_; clear h a; intro a h
  refine hd_one 7 rfl ?_
  have hpt := (Sl.part hu hfit.2.1).ext hf
  have hnd := needs_rng s
  refine st_call h (evs_cons rfl (evs_cons rfl evs_nil)) co93 (refloads_ok s _ _ _ hks hys hpt) ?_; clear h a; rintro _ w46 ⟨rv, rfl, hr, hq⟩ a h
  have hXr : ∀ k ∈ blks X, k ∉ blks rv := fun k hk hk2 => by have := (hX.blk k hk).2; have := (hr.blk k hk2).1; omega
  have hYr : ∀ k ∈ blks (.slice YA ys.length yc), k ∉ blks rv := fun k hk hk2 => by have := (hY.blk k hk).2; have := (hr.blk k hk2).1; omega
  replace hf := hf.next hq
  replace hX := hX.ext hq
  replace hY := hY.ext hq
  replace hb11 := hb11.ext hq
  replace hC := hC.next hq
  clear hq hpt
  refine hd_next hC ?_
  refine hd_move 8 hC h wn rfl rfl ?_; clear h a; intro a h
  refine hd_extract 9 hC h wn rfl rfl rfl ?_; clear h a; intro a h
  refine hd_extract 10 hC h wn rfl rfl rfl ?_; clear h a; intro a h
  refine hd_one 11 rfl ?_
  refine st_assign h rfl ?_; clear h a; intro a h
  refine hd_next hC ?_
  refine hd_one 12 rfl ?_
  refine st_assign h rfl ?_; clear h a; intro a h
  refine hd_next hC ?_
  refine hd_end ?_
  clear hC hX_b hY_b hb11_b
  replace h : Ag a 141 [(0, _), (1, _), (6, _), (7, _), (8, _), (9, _), (11, _), (14, _), (15, _)] := h.sub (.d8 rfl rfl rfl rfl rfl rfl rfl rfl (.cons rfl .nil))
  refine (norm_then ?_)
  refine tC h (kQ (kR (mv rfl (s_loadBA rfl hb11 ag91 ?_)))); clear h a; intro a h
  clear hb11
  refine st_bslice [s] h (evs_cons rfl evs_nil) rfl rfl rfl el88 (by decide) ?_; clear h a; intro gN w47 hg hoN hq hz a h
  replace hf := hf.next hq
  replace hX := hX.ext hq
  replace hY := hY.ext hq
  replace hr := hr.ext hq
  clear hq hz hg
  have hbX := hX.blk
  have hbY := hY.blk
  refine st_append h rfl rfl hX hoN.sl el88 (by unfold maxLen; simp; omega) (by simp; omega) (by have := hf.size; omega) ?_; clear h a; intro X3 w48 hX3 hq hx3 a h
  replace hY := hY.fr hq hdis
  replace hr := hr.fr hq hXr
  replace hf := hf.step hq (fun k hk hlt => absurd (hbX k hk).1 (by omega))
  have hdis3 : ∀ k ∈ blks X3, k ∉ blks (.slice YA ys.length yc) := by
   intro k hk
   rcases hx3 with e | e | e
   ·rw [e] at hk; exact hdis k hk
   ·rw [e] at hk; exact hdis k hk
   rw [e] at hk; simp at hk; intro hb; have := (hbY k hb).2; omega
  clear hX hbX hbY hq hx3 hdis hXr hoN; have hX := hX3; have hdis := hdis3; clear hX3 hdis3
  refine tW h (asg rfl (kL [(0, _), (1, _), (6, _), (7, _), (8, _), (9, _), (14, _), (15, _)] (.c8 rfl rfl rfl rfl rfl rfl rfl rfl) (kE (kQ (kR (mv rfl (mv rfl ?_))))))); clear h a; intro a h
  have hbX := hX.blk
  have hbY := hY.blk
  refine st_append h rfl rfl hY hr.sl el33 (by unfold maxLen; omega) (by omega) (by have := hf.size; omega) ?_; clear h a; intro Y3 w49 hY3 hq hx3 a h
  replace hX := hX.fr hq (fun k hk hk2 => hdis k hk2 hk)
  replace hf := hf.step hq (fun k hk hlt => absurd (hbY k hk).1 (by omega))
  have hdis3 : ∀ k ∈ blks X3, k ∉ blks Y3 := by
   intro k hk
   rcases hx3 with e | e | e
   ·rw [e]; exact hdis k hk
   ·rw [e]; exact hdis k hk
   rw [e]; have := (hbX k hk).2; simp; omega
  clear hY hbX hbY hq hx3 hdis hr hYr; have hY := hY3; have hdis := hdis3; clear hY3 hdis3
  refine tW h (asg rfl (kL [(0, _), (1, _), (6, _), (7, _), (8, _), (9, _), (14, _)] (.c7 rfl rfl rfl rfl rfl rfl rfl) (kE (kR (mv rfl (mv rfl (s_add rfl rfl (by first | exact i6 (by omega) | rfl) (asg rfl (kL [(0, _), (1, _), (6, _), (7, _), (8, _), (9, _)] (.c6 rfl rfl rfl rfl rfl rfl) ?_))))))))); clear h a; intro a h
  refine wpList_nil (norm_blk (norm_then ?_))
  refine tC h (kR (mv rfl (s_add rfl rfl (by first | exact i6 (by omega) | rfl) (asg rfl (kL [(0, _), (1, _), (6, _), (7, _), (8, _), (9, _)] (.c6 rfl rfl rfl rfl rfl rfl) ?_))))); clear h a; intro a h
  refine wnt ?_
  exact ⟨⟨i + (needsS s).toNat, xs ++ [s], ys ++ (loadsS s ((ls.drop i).take (needsS s).toNat)).1, _, _⟩, h.sub (.c6 rfl rfl rfl rfl (by show some (Value.int IntKind.i64 ((i : Int) + needsS s)) = some (Value.int IntKind.i64 ((i + (needsS s).toNat : Nat) : Int)); congr 2; omega) (by show some (Value.int IntKind.i64 ((xs.length : Int) + 1)) = some (Value.int IntKind.i64 (((xs ++ [s]).length : Nat) : Int)); rw [List.length_append]; rfl)), ⟨by simp only; omega, hX, hY, hdis, by simp [hok, (okB_iff s).2 hfit.1], all_app hfy hfz, by simp only [List.length_append, List.length_singleton]; omega, by simp only [List.length_append]; omega, by simp, goR_next hgo (by omega) hchs hsp, hf⟩, by simp only [List.length_append]; omega⟩
 obtain rfl : i = ls.length := by omega
 refine wp_exit (exit_then (exit_then (exit_here (norm_then ?_))))
 refine tC h (kQ (kR (mv rfl (mv rfl (asg rfl (asg rfl (kL [(4, _), (5, _)] (.c2 rfl rfl) (kE ?_)))))))); clear h a; intro a h
 refine wp_ret (ret2 h Tryz.results110 rfl rfl ?_)
 exact ⟨_, rfl, X, _, xs, ys, rfl, hX, hY, hdis, fun e => by have := hne e; omega, hok, by omega, hfy, by have : xs ≠ [] := fun e => (by have := hne e; omega); have := List.length_pos_iff.2 this; omega, by omega, goR_end hgo (by omega), hf⟩
end Go.Proofs.YthehggmdcmpjeaaGreatDoor
namespace Go.Proofs.YthehggmdcmpjeaaGreatDoor
open Go.Lw Go.G14
theorem ag42 : AggOf Tryz.prog 42 1 := ⟨fun _ => by kernel_rfl, fun _ => by kernel_rfl⟩
theorem co110 : CallOf Tryz.prog 110 := mkC Tryz.func110
theorem el70 : ElemOf Tryz.prog 70 75 Enc.sl 24 := ElemOf.mk' (z := (.slice none 0 0)) Tryz.underlying70 (by kernel_rfl) rfl
theorem fa72_0 : FieldAt Tryz.prog 72 0 0 := fun _ _ => by kernel_rfl
theorem fa72_1 : FieldAt Tryz.prog 72 1 1 := fun _ _ => by kernel_rfl
theorem na70 : NotAgg Tryz.prog 70 := fun _ => by kernel_rfl
theorem na75 : NotAgg Tryz.prog 75 := fun _ => by kernel_rfl
theorem sz40 : SizeOf Tryz.prog 40 1 := fun _ => by kernel_rfl
theorem sz42 : SizeOf Tryz.prog 42 1 := fun _ => by kernel_rfl
theorem zv42 (w : World) : (zeroValue 42).run Tryz.prog w = .ok (.agg #[(.slice none 0 0)]) w := by kernel_rfl
set_option maxHeartbeats 1000000 in
theorem cof_ok (B : SV → List UInt8) (hs : List SV) (wd : Int) (v : Value) (w0 : World) (hw : 0 ≤ wd ∧ wd ≤ 255) (hsl : Sl Enc.sl w0 v hs) (hin : BytesF B w0 hs) : Rets Tryz.prog 78 #[.agg #[.int .u8 wd, v]] w0 fun r w' => ∃ X rows, r = .agg #[X] ∧ (∃ ps, RowsO 88 91 w0.heap.size w' X ps ∧ ps.map Prod.snd = rows) ∧ rows ≠ [] ∧ (∀ r ∈ rows, goodRow r) ∧ rows = chartF wd (hs.map B) ∧ Fr [] w0 w' := by
 obtain ⟨HA, hc, rfl, hcp⟩ := hsl.form
 obtain ⟨-, -, hM, hA⟩ := Sl.open_ hsl
 unfold maxLen at hM
 refine enter [(0, .agg #[.int .u8 wd, .slice HA hs.length hc])] Tryz.func78 rfl Tryz.ntmps78 rfl (.cons rfl .nil) ?_
 have hf := Fr.refl [] w0
 intro a h
 refine tC h (kQ (kR ?_)); clear h a; intro a h
 refine st_box h rfl rfl ?_; clear h a; intro w1 hb1 hq hz a h
 obtain ⟨g_1, hg⟩ : ∃ g, g = w0.heap.size := ⟨_, rfl⟩; rw [← hg] at hb1 h hz
 have hl1 : w0.heap.size ≤ g_1 := by have := hf.size; omega
 replace hf := hf.next hq
 clear hq hz hg
 refine st_alloc h zv42 rfl ?_; clear h a; intro w2 hb2 hq hz a h
 obtain ⟨g_2, hg⟩ : ∃ g, g = w1.heap.size := ⟨_, rfl⟩; rw [← hg] at hb2 h hz
 have hl2 : w0.heap.size ≤ g_2 := by have := hf.size; omega
 have hn_1_2 : g_1 < g_2 := by have := hb1.lt; omega
 replace hf := hf.next hq
 replace hb1 := hb1.ext hq
 clear hq hz hg
 refine tW h (kL [(1, _), (2, _)] (.c2 rfl rfl) (kE (kQ (kR (asg rfl (kE (kQ (kQ (kR (asg rfl (kE (kB ?_)))))))))))); clear h a; intro a h
 refine loop (ι := Nat × Value) (fun z => [(1, .pointer (some ⟨g_1, 0, none⟩)), (2, .pointer (some ⟨g_2, 0, none⟩)), (3, z.2), (4, .int .i64 (z.1 : Int))]) (fun z w' => (z.1 : Int) ≤ wd % 8 + 1 ∧ Lw.Own Enc.i64 3 (g_2 + 1) w' z.2 (List.replicate z.1 1) ∧ Blk w' g_1 72 [.int .u8 wd, .slice HA hs.length hc] ∧ Blk w' g_2 42 [.slice none 0 0] ∧ Fr [] w0 w') (fun z => 9 - z.1) (0, .slice none 0 0) (h.sub (.c4 rfl rfl rfl rfl)) ⟨by simp only; omega, Own.nil _, hb1, hb2, hf⟩ ?_
 clear h a hb1 hb2 hf
 rintro ⟨j, x⟩ w3 a h ⟨hj, ho, hb1, hb2, hf⟩
 simp only at hj ho h
 refine tC h (kQ (kQ (kR (mv rfl (fad rfl fa72_0 (s_loadB rfl hb1 rfl na5 (s_rem rfl rfl (by first | exact IntWalk.rem_in _ _ (by omega) | rfl) (s_conv rfl (by rw [Tryz.underlying5]; rfl) Tryz.underlying3 (by first | exact i6 (by omega) | rfl) (le' rfl rfl (kL [(1, _), (2, _), (3, _), (4, _), (16, _)] (.c5 rfl rfl rfl rfl rfl) (kE ?_))))))))))); clear h a; intro a h
 refine cS h rfl (fun c0=>?_) (fun c0=>?_)
 ·refine tC h (kZ (kQ (kB (kR (mv rfl ?_))))); clear h a; intro a h
  refine st_bslice [(1 : Int)] h (evs_cons rfl evs_nil) rfl rfl rfl el33 (by decide) ?_; clear h a; intro gN w4 hg hoN hq hz a h
  replace hf := hf.next hq
  replace hb1 := hb1.ext hq
  replace hb2 := hb2.ext hq
  replace ho := ho.ext hq
  clear hq hz hg
  have hbO := ho.blk
  refine st_append h rfl rfl ho hoN.sl el33 (by unfold maxLen; simp; omega) (by simp; omega) (by have := hb2.lt; omega) ?_; clear h a; intro v3 w5 ho3 hq hx3 a h
  replace hb1 := hb1.fr hq (fun hb => by have := (hbO _ hb).1; omega)
  replace hb2 := hb2.fr hq (fun hb => by have := (hbO _ hb).1; omega)
  replace hf := hf.step hq (fun k hk hlt => absurd (hbO k hk).1 (by omega))
  clear ho hq hx3 hoN hbO; have ho := ho3; clear ho3
  refine tW h (asg rfl (kL [(1, _), (2, _), (3, _), (4, _)] (.c4 rfl rfl rfl rfl) ?_)); clear h a; intro a h
  refine wpList_nil (norm_blk (norm_then ?_))
  refine tC h (kR (mv rfl (s_add rfl rfl (by first | exact i6 (by omega) | rfl) (asg rfl (kL [(1, _), (2, _), (3, _), (4, _)] (.c4 rfl rfl rfl rfl) ?_))))); clear h a; intro a h
  refine wnt ?_
  exact ⟨(j + 1, _), h.sub (.c4 rfl rfl rfl rfl), ⟨by simp only; omega, by rw [rep_succ]; exact ho, hb1, hb2, hf⟩, by simp only; omega⟩
 obtain hjj : (j : Int) = wd % 8 + 1 := by omega
 refine wp_exit (exit_then (exit_then (exit_here (norm_then ?_))))
 refine tC h (kQ (kR (fad rfl fa72_1 (s_loadB rfl hb1 rfl na70 (lnS rfl Tryz.underlying70 (s_min rfl rfl rfl (asg rfl (kL [(1, _), (2, _), (3, _), (5, _)] (.c4 rfl rfl rfl rfl) (kE ?_))))))))); clear h a; intro a h
 refine seq_cut (Cut (ι := Int) 60 (fun many => [(1, .pointer (some ⟨g_1, 0, none⟩)), (2, .pointer (some ⟨g_2, 0, none⟩)), (3, x), (5, .int .i64 many)]) (fun many w' => 1 ≤ many ∧ many ≤ 9 ∧ many = manyF hs.length ∧ Lw.Own Enc.i64 3 (g_2 + 1) w' x (List.replicate j 1) ∧ Blk w' g_1 72 [.int .u8 wd, .slice HA hs.length hc] ∧ Blk w' g_2 42 [.slice none 0 0] ∧ Fr [] w0 w')) ?_ ?_
 ·refine tC h (kQ (kR (mv rfl (s_rem rfl rfl (by first | exact IntWalk.rem_in _ _ (by omega) | rfl) (eq' rfl rfl (kL [(1, _), (2, _), (3, _), (5, _), (28, _)] (.c5 rfl rfl rfl rfl rfl) (kE ?_))))))); clear h a; intro a h
  refine cS h rfl (fun c1=>?_) (fun c1=>?_)
  ·refine tC h (kR (mv rfl (s_add rfl rfl (by first | exact i6 (by omega) | rfl) (asg rfl (kL [(1, _), (2, _), (3, _), (5, _)] (.c4 rfl rfl rfl rfl) ?_))))); clear h a; intro a h
   refine wnt ?_
   exact ⟨_, h.sub (.c4 rfl rfl rfl rfl), by omega, by omega, (by unfold manyF; first | (rw [if_pos (by omega)]; omega) | (rw [if_neg (by omega)]; omega)), ho, hb1, hb2, hf⟩
  refine wsn ?_
  exact ⟨_, h.sub (.c4 rfl rfl rfl rfl), by omega, by omega, (by unfold manyF; first | (rw [if_pos (by omega)]; omega) | (rw [if_neg (by omega)]; omega)), ho, hb1, hb2, hf⟩
 clear h a hb1 hb2 hf ho
 rintro a w6 ⟨many, h, ⟨hm1, hm9, hmny, ho, hb1, hb2, hf⟩⟩
 refine tC h (kQ (kR ?_)); clear h a; intro a h
 refine st_alloc h zv42 rfl ?_; clear h a; intro w7 hb6 hq hz a h
 obtain ⟨g_6, hg⟩ : ∃ g, g = w6.heap.size := ⟨_, rfl⟩; rw [← hg] at hb6 h hz
 have hl6 : w0.heap.size ≤ g_6 := by have := hf.size; omega
 have hn_1_6 : g_1 < g_6 := by have := hb1.lt; omega
 have hn_2_6 : g_2 < g_6 := by have := hb2.lt; omega
 replace hf := hf.next hq
 replace hb1 := hb1.ext hq
 replace hb2 := hb2.ext hq
 replace ho := ho.ext hq
 clear hq hz hg
 refine tW h (kE (kQ (kQ (kR (asg rfl (kE (kB ?_))))))); clear h a; intro a h
 refine loop (ι := OfSt) (fun z => [(1, .pointer (some ⟨g_1, 0, none⟩)), (2, .pointer (some ⟨g_2, 0, none⟩)), (3, z.L), (5, .int .i64 many), (6, .pointer (some ⟨g_6, 0, none⟩)), (7, .int .i64 (z.i : Int))]) (fun z w' => (z.i : Int) ≤ many ∧ z.ps.length = z.i ∧ Sl Enc.i64 w' z.L z.ls ∧ z.ls.all few = true ∧ 1 ≤ z.ls.length ∧ z.ls.length ≤ 8 ∧ RowsO 88 91 (g_6 + 1) w' z.OV z.ps ∧ (∀ p ∈ z.ps, goodRow p.2) ∧ chG wd (hs.map B) z.i = (z.ls, z.ps.map Prod.snd) ∧ Blk w' g_1 72 [.int .u8 wd, .slice HA hs.length hc] ∧ Blk w' g_2 42 [.slice none 0 0] ∧ Blk w' g_6 42 [z.OV] ∧ Fr [] w0 w') (fun z => many.toNat - z.i) ⟨0, x, List.replicate j 1, .slice none 0 0, []⟩ (h.sub (.c6 rfl rfl rfl rfl rfl rfl)) ⟨by simp only; omega, rfl, ho.sl, rep_few _, by simp; omega, by simp; omega, RowsO.nil _, by simp, by rw [chG, ← hjj]; rfl, hb1, hb2, hb6, hf⟩ ?_
 clear h a hb1 hb2 hb6 hf ho
 rintro ⟨i, L, ls, OV, ps⟩ w8 a h ⟨hi, hpl, hL, hlf, hl1, hl8, hR, hgood, hch, hb1, hb2, hb6, hf⟩
 simp only at hi hpl hL hlf hl1 hl8 hR hgood hch hb6 h
 refine tC h (kQ (kQ (kR (mv rfl (mv rfl (lt' rfl rfl (kL [(1, _), (2, _), (3, _), (5, _), (6, _), (7, _), (33, _)] (.c7 rfl rfl rfl rfl rfl rfl rfl) (kE ?_)))))))); clear h a; intro a h
 refine cS h rfl (fun c2=>?_) (fun c2=>?_)
 ·refine tC h (kZ (kQ (kB (kQ (kR (asg rfl (kL [(1, _), (2, _), (3, _), (5, _), (6, _), (7, _), (8, _)] (.c7 rfl rfl rfl rfl rfl rfl rfl) (kE ?_)))))))); clear h a; intro a h
  refine seq_cut (Cut (ι := Value) 60 (fun v8 => [(1, .pointer (some ⟨g_1, 0, none⟩)), (2, .pointer (some ⟨g_2, 0, none⟩)), (3, L), (5, .int .i64 many), (6, .pointer (some ⟨g_6, 0, none⟩)), (7, .int .i64 (i : Int)), (8, v8)]) (fun v8 w' => (∃ cs, cs = (hs.map B).getD i [] ∧ Sl Enc.b w' v8 cs) ∧ Sl Enc.i64 w' L ls ∧ RowsO 88 91 (g_6 + 1) w' OV ps ∧ Blk w' g_1 72 [.int .u8 wd, .slice HA hs.length hc] ∧ Blk w' g_2 42 [.slice none 0 0] ∧ Blk w' g_6 42 [OV] ∧ Fr [] w0 w')) ?_ ?_
  ·refine tC h (kQ (kR (mv rfl (fad rfl fa72_1 (s_loadB rfl hb1 rfl na70 (lnS rfl Tryz.underlying70 (lt' rfl rfl (kL [(1, _), (2, _), (3, _), (5, _), (6, _), (7, _), (8, _), (40, _)] (.c8 rfl rfl rfl rfl rfl rfl rfl rfl) (kE ?_))))))))); clear h a; intro a h
   refine cS h rfl (fun c3=>?_) (fun c3=>?_)
   ·obtain ⟨p, hp⟩ : ∃ x, hs[i]? = some x := ⟨_, List.getElem?_eq_getElem (by omega)⟩
    obtain ⟨ad, hAd, ca⟩ := hA _ p hp
    have hcs := hin p (List.mem_of_getElem? hp)
    refine tC h (kR (fad rfl fa72_1 (s_loadB rfl hb1 rfl na70 (mv rfl (s_idxS (by rw [hAd]; rfl) rfl el70 (s_loadC0 rfl (ca.fr hf (by simp)) na75 (asg rfl (kL [(1, _), (2, _), (3, _), (5, _), (6, _), (7, _), (8, _)] (.c7 rfl rfl rfl rfl rfl rfl rfl) ?_))) (hp := rfl)))))); clear h a; intro a h
    refine wnt ?_
    exact ⟨_, h.sub (.c7 rfl rfl rfl rfl rfl rfl rfl), by first | exact ⟨_, (getD_of (by rw [List.getElem?_map, hp]; rfl)).symm, hcs.ext hf⟩ | exact ⟨[], (getD_out (by rw [List.length_map]; omega)).symm, Sl.nil _⟩, hL, hR, hb1, hb2, hb6, hf⟩
   refine wsn ?_
   exact ⟨_, h.sub (.c7 rfl rfl rfl rfl rfl rfl rfl), by first | exact ⟨_, (getD_of (by rw [List.getElem?_map, hp]; rfl)).symm, hcs.ext hf⟩ | exact ⟨[], (getD_out (by rw [List.length_map]; omega)).symm, Sl.nil _⟩, hL, hR, hb1, hb2, hb6, hf⟩
  clear h a hb1 hb2 hb6 hf hL hR
  rintro a w9 ⟨v8, h, ⟨⟨cs, hcsd, hcs⟩, hL, hR, hb1, hb2, hb6, hf⟩⟩
  refine tC h (kQ (kR (mv rfl (mv rfl ?_)))); clear h a; intro a h
  have hOb := hR.out.blk
  have hb6l := hb6.lt
  refine st_call h (evs_cons rfl (evs_cons rfl evs_nil)) co110 (row_ok _ _ _ _ _ hL hcs hlf hl1 hl8) ?_; clear h a; rintro _ w10 ⟨X, Y, xs2, ys2, rfl, hX, hY, -, hxne, hxok, hx8, hyf, hy1, hy8, hrow, hq⟩ a h
  have hXO : ∀ k ∈ blks X, k ∉ blks OV := fun k hk hk2 => by have := (hX.blk k hk).1; have := (hOb k hk2).2; omega
  have hYO : ∀ k ∈ blks OV, k ∉ blks Y := fun k hk hk2 => by have := (hY.blk k hk2).1; have := (hOb k hk).2; omega
  have hY6 : ∀ k ∈ blks Y, g_6 < k := fun k hk => by have := (hY.blk k hk).1; omega
  replace hX := hX.low (show g_6 + 1 ≤ _ by omega)
  replace hf := hf.next hq
  replace hb1 := hb1.ext hq
  replace hb2 := hb2.ext hq
  replace hb6 := hb6.ext hq
  replace hR := hR.ext hq
  clear hq hL hcs hOb hb6l
  replace hY := hY.sl
  obtain ⟨XA, xc, rfl, hxc⟩ := hX.sl.form
  refine tW h (mv rfl (xt rfl rfl (xt rfl rfl (asg rfl (asg rfl (kL [(1, _), (2, _), (5, _), (6, _), (7, _), (9, _), (10, _)] (.c7 rfl rfl rfl rfl rfl rfl rfl) (kE (kQ (kR (fad rfl fa42_0 (s_loadB rfl hb6 rfl na40 (mv rfl ?_)))))))))))); clear h a; intro a h
  refine st_bslice [((XA, xs2.length, xc) : SV)] h (evs_cons rfl evs_nil) rfl rfl rfl el40 (by decide) ?_; clear h a; intro gN w11 hg hoN hq hz a h
  replace hf := hf.next hq
  replace hb1 := hb1.ext hq
  replace hb2 := hb2.ext hq
  replace hb6 := hb6.ext hq
  replace hR := hR.ext hq
  replace hX := hX.ext hq
  replace hY := hY.ext hq
  clear hq hz hg
  have hbO := hR.out.blk
  refine st_append h rfl rfl hR.out hoN.sl el40 (by unfold maxLen; simp; omega) (by simp; omega) (by have := hb6.lt; omega) ?_; clear h a; intro OV3 w12 ho3 hq hx3 a h
  replace hR := hR.push (u := (XA, xs2.length, xc)) hX hXO ho3 hq hx3
  replace hY := hY.fr hq hYO
  replace hb1 := hb1.fr hq (fun hb => by have := (hbO _ hb).1; omega)
  replace hb2 := hb2.fr hq (fun hb => by have := (hbO _ hb).1; omega)
  replace hb6 := hb6.fr hq (fun hb => by have := (hbO _ hb).1; omega)
  replace hf := hf.step hq (fun k hk hlt => absurd (hbO k hk).1 (by omega))
  clear hq hx3 hoN hbO ho3 hX hXO hYO
  refine st_fieldAddr h rfl fa42_0 rfl ?_; clear h a; intro a h
  refine st_storeB h rfl rfl hb6 rfl (by obtain ⟨OA, oc, rfl, _⟩ := hR.out.sl.form; rfl) (by obtain ⟨OA, oc, rfl, _⟩ := hR.out.sl.form; rfl) sz40 ?_; clear h a; intro w13 hbn hq hz a h
  replace hR := hR.fr hq (by simp)
  replace hY := hY.fr hq (fun k hk hb => by simp at hk; have := hY6 k hb; omega)
  replace hb1 := hb1.fr hq (by simp; omega)
  replace hb2 := hb2.fr hq (by simp; omega)
  replace hf := hf.step hq (by simp; omega)
  clear hb6 hq hz; have hb6 : Blk w13 g_6 _ [_] := hbn; clear hbn
  refine tW h (kL [(1, _), (2, _), (5, _), (6, _), (7, _), (10, _)] (.c6 rfl rfl rfl rfl rfl rfl) (kE (kR (mv rfl (asg rfl (kL [(1, _), (2, _), (3, _), (5, _), (6, _), (7, _)] (.c6 rfl rfl rfl rfl rfl rfl) ?_)))))); clear h a; intro a h
  refine wpList_nil (norm_blk (norm_then ?_))
  refine tC h (kR (mv rfl (s_add rfl rfl (by first | exact i6 (by omega) | rfl) (asg rfl (kL [(1, _), (2, _), (3, _), (5, _), (6, _), (7, _)] (.c6 rfl rfl rfl rfl rfl rfl) ?_))))); clear h a; intro a h
  refine wnt ?_
  exact ⟨⟨i + 1, Y, ys2, OV3, ps ++ [((XA, xs2.length, xc), xs2)]⟩, h.sub (.c6 rfl rfl rfl rfl rfl rfl), ⟨by simp only; omega, by simp [hpl], hY, hyf, hy1, hy8, hR, by intro p hp; rcases List.mem_append.1 hp with hp | hp; exact hgood p hp; simp at hp; subst hp; exact ⟨hxne, hxok, hx8⟩, by rw [chG_next hch hcsd, hrow, List.map_append]; rfl, hb1, hb2, hb6, hf⟩, by simp only; omega⟩
 obtain ⟨OA, oc, rfl, _⟩ := hR.out.sl.form
 clear hL
 refine wp_exit (exit_then (exit_then (exit_here (norm_then ?_))))
 refine tC h (kQ (kR (s_loadBA rfl hb6 ag42 ?_))); clear h a; intro a h
 refine st_storeBA h rfl rfl hb2 rfl sz42 ?_; clear h a; intro w14 hbn hq hz a h
 replace hf := hf.sp hq
 replace hb1 := hb1.fr hq (by simp[blks]<;>omega)
 replace hb6 := hb6.fr hq (by simp[blks]<;>omega)
 replace hR := hR.fr hq (by simp[blks]<;>omega)
 clear hb2 hq hz; have hb2 : Blk w14 g_2 _ [_] := hbn; clear hbn
 refine tW h (kL [(2, _)] (.cons rfl .nil) (kE ?_)); clear h a; intro a h
 refine wp_ret (retC h Tryz.results78 rfl hb2 ag42  ?_)
 exact ⟨_, rfl, _, _, rfl, ⟨_, ⟨hR.out.low (by omega), fun p hp => (hR.ins p hp).low (by omega), hR.off⟩, rfl⟩, fun e => by have := congrArg List.length e; rw [List.length_map, List.length_nil] at this; omega, fun r hr => by obtain ⟨p, hp, rfl⟩ := List.mem_map.1 hr; exact hgood p hp, (by have hi2 : (manyF (hs.map B).length).toNat = i := (by rw [List.length_map]; omega); rw [chartF, hi2, hch]), hf⟩
end Go.Proofs.YthehggmdcmpjeaaGreatDoor
