/- Texts of the proof, joined. -/
import Derived.Test.YthehggmdcmpjeaaGreatDoorRows
import Derived.RangeFuncNested
import Derived.RangeFuncBound
import Derived.RangeFuncCalls
import Derived.RangeFuncLeaves
import Derived.OrdersIn
import Derived.Lib.Builder
import Derived.Lib.AppendStr
import Derived.Laws.Pointers
import Derived.Laws.Externs
import Derived.Lib.ConvBytes
import Derived.Laws.AppendOwn
import Derived.Laws.RangeString
import Derived.Laws.CopyRow
import Derived.Shelf.Strings.Builder1
import Derived.Shelf.Strings.Builder2
import Derived.Shelf.Strings.OnBuilder
import Derived.Shelf.Strconv.Atoi
import Derived.Shelf.Strconv.Itoa0
import Derived.Shelf.Strconv.Itoa1
import Derived.Shelf.LaysM
import Derived.Shelf.Strconv.Itoa2
import Derived.Shelf.Strconv.Itoa3
import Derived.Shelf.Strconv.AtoiErrFast
import Derived.Shelf.Strconv.ParseIntEmpty
import Derived.Shelf.Strconv.AtoiFail
import Derived.Shelf.Strconv.Clone
import Derived.Shelf.Strconv.SyntaxError
import Derived.Shelf.LaysC
import Derived.Shelf.Strconv.ToError
import Derived.Shelf.Strconv.AtoiErr
import Derived.Shelf.Strconv.ErrVar
import Derived.Shelf.Strconv.Lower
import Derived.Shelf.Strconv.ParseUint10
import Derived.Shelf.Strconv.ParseUint10Empty
import Derived.Shelf.Strconv.ParseUint10Any
import Derived.Shelf.Strconv.ParseInt10
import Derived.Shelf.Strconv.AtoiLong
import Derived.Shelf.Strconv.AtoiInnerAll
import Derived.Shelf.Strconv.RangeError
import Derived.Shelf.Strconv.ToErrorRange
import Derived.Shelf.Strconv.AtoiAll
import Derived.Shelf.Strconv.ErrVarAll
import Derived.Shelf.Strings.Search1
import Derived.Shelf.Strings.Search2
import Derived.Shelf.Strings.Search3
import Derived.Shelf.Strings.Cut
import Derived.Shelf.Strings.Count
import Derived.Shelf.Strings.Shaped
import Derived.Shelf.Strings.Split
import Derived.Shelf.Strings.SplitShaped
import Derived.Shelf.Bits.Mul64
import Derived.Shelf.Unicode.DecodeSlow
import Derived.Test.YthehggmdcmpjeaaGreatDoorProg
import Derived.Test.YthehggmdcmpjeaaGreatDoorP3
set_option linter.unusedVariables false
set_option linter.unusedSimpArgs false
namespace Go.Proofs.YthehggmdcmpjeaaGreatDoor
open Go.Lw Go.G14
theorem co57 : CallOf Tryz.prog 57 := mkC Tryz.func57
theorem co88 : CallOf Tryz.prog 88 := mkC Tryz.func88
theorem needs_ok (s : Stitch) (w0 : World) : Rets Tryz.prog 88 #[stV s] w0 fun v w' => v = .int .i64 (needsS s) ∧ Fr [] w0 w' := by
 refine enter [(0, stV s)] Tryz.func88 rfl Tryz.ntmps88 rfl (.cons rfl .nil) ?_
 have hf := Fr.refl [] w0
 intro a h
 refine tC h (kQ (kR ?_)); clear h a; intro a h
 refine st_box h rfl rfl ?_; clear h a; intro w1 hb1 hq hz a h
 obtain ⟨g_1, hg⟩ : ∃ g, g = w0.heap.size := ⟨_, rfl⟩; rw [← hg] at hb1 h hz
 have hl1 : w0.heap.size ≤ g_1 := by have := hf.size; omega
 replace hf := hf.next hq
 clear hq hz hg
 refine tW h (asg rfl (kL [(1, _)] (.cons rfl .nil) (kE (kQ (kQ (kR (s_loadBA rfl hb1 ag91 ?_))))))); clear h a; intro a h
 refine st_call h (evs_cons rfl evs_nil) co89 (check_ok s _) ?_; clear h a; rintro _ w2 ⟨rfl, hq⟩ a h
 replace hf := hf.next hq
 replace hb1 := hb1.ext hq
 clear hq
 refine tW h (ne' rfl rfl (kL [(1, _), (5, _)] (.c2 rfl rfl) (kE ?_))); clear h a; intro a h
 refine cS h rfl (fun c0=>?_) (fun c0=>?_)
 ·have hc : checkS s ≠ 0 := c0
  refine tC h (kQ (kR (asg rfl (kL [(2, _)] (.cons rfl .nil) (kE ?_))))); clear h a; intro a h
  refine wp_ret (ret_then (ret1 h Tryz.results88 rfl ?_))
  exact ⟨_, rfl, by first | rw [needs_0 (.inl hc)] | rw [needs_0 (.inr c1)] | rw [needs_2 hc (by omega)] | rw [needs_8 hc c4] | rw [needs_1 hc (by omega) (by omega) (by omega)], hf⟩
 have hc : checkS s = 0 := Decidable.not_not.1 c0
 refine tC h (kZ (kQ (kQ (kR (fad rfl fa91_0 (s_loadB rfl hb1 rfl na89 (kL [(1, _), (7, _)] (.c2 rfl rfl) (kE (kB (kQ (kR (eq' rfl rfl (asg rfl (kL [(1, _), (7, _), (8, _)] (.c3 rfl rfl rfl) (kE ?_))))))))))))))); clear h a; intro a h
 refine cS h rfl (fun c1=>?_) (fun c1=>?_)
 ·refine tC h (kQ (kR (asg rfl (kL [(2, _)] (.cons rfl .nil) (kE ?_))))); clear h a; intro a h
  refine wp_ret (ret_blk (ret_then ?_))
  refine ret1 h Tryz.results88 rfl ?_
  exact ⟨_, rfl, by first | rw [needs_0 (.inl hc)] | rw [needs_0 (.inr c1)] | rw [needs_2 hc (by omega)] | rw [needs_8 hc c4] | rw [needs_1 hc (by omega) (by omega) (by omega)], hf⟩
 refine tC h (kQ (kQ (kR (eq' rfl rfl (asg rfl (kL [(1, _), (7, _), (10, _)] (.c3 rfl rfl rfl) (kE ?_))))))); clear h a; intro a h
 refine cS h rfl (fun c2=>?_) (fun c2=>?_)
 ·rw [decide_eq_true c2] at h
  refine wsn ?_
  refine cond_true h rfl ?_
  refine tC h (kQ (kR (asg rfl (kL [(2, _)] (.cons rfl .nil) (kE ?_))))); clear h a; intro a h
  refine wp_ret (ret_blk (ret_then ?_))
  refine ret1 h Tryz.results88 rfl ?_
  exact ⟨_, rfl, by first | rw [needs_0 (.inl hc)] | rw [needs_0 (.inr c1)] | rw [needs_2 hc (by omega)] | rw [needs_8 hc c4] | rw [needs_1 hc (by omega) (by omega) (by omega)], hf⟩
 rw [decide_eq_false c2] at h
 refine tC h (kR (eq' rfl rfl (asg rfl (kL [(1, _), (7, _), (10, _)] (.c3 rfl rfl rfl) (kE ?_))))); clear h a; intro a h
 refine cS h rfl (fun c3=>?_) (fun c3=>?_)
 ·refine tC h (kQ (kR (asg rfl (kL [(2, _)] (.cons rfl .nil) (kE ?_))))); clear h a; intro a h
  refine wp_ret (ret_blk (ret_then ?_))
  refine ret1 h Tryz.results88 rfl ?_
  exact ⟨_, rfl, by first | rw [needs_0 (.inl hc)] | rw [needs_0 (.inr c1)] | rw [needs_2 hc (by omega)] | rw [needs_8 hc c4] | rw [needs_1 hc (by omega) (by omega) (by omega)], hf⟩
 refine tC h (kQ (kR (eq' rfl rfl (asg rfl (kL [(1, _), (13, _)] (.c2 rfl rfl) (kE ?_)))))); clear h a; intro a h
 refine cS h rfl (fun c4=>?_) (fun c4=>?_)
 ·have h8 := (check_rng hc).2.2.2.2.2 c4
  refine tC h (kQ (kR (fad rfl fa91_2 (s_loadB rfl hb1 rfl na3 (fad rfl fa91_3 (s_loadB rfl hb1 rfl na3 (s_add rfl rfl (by first | exact i6 (by omega) | rfl) (asg rfl (kL [(2, _)] (.cons rfl .nil) (kE ?_)))))))))); clear h a; intro a h
  refine wp_ret (ret_blk (ret_then ?_))
  refine ret1 h Tryz.results88 rfl ?_
  exact ⟨_, rfl, by first | rw [needs_0 (.inl hc)] | rw [needs_0 (.inr c1)] | rw [needs_2 hc (by omega)] | rw [needs_8 hc c4] | rw [needs_1 hc (by omega) (by omega) (by omega)], hf⟩
 refine wp_skip (norm_blk (norm_then ?_))
 refine tC h (kQ (kR (asg rfl (kL [(2, _)] (.cons rfl .nil) (kE ?_))))); clear h a; intro a h
 refine wp_ret (ret1 h Tryz.results88 rfl ?_)
 exact ⟨_, rfl, by first | rw [needs_0 (.inl hc)] | rw [needs_0 (.inr c1)] | rw [needs_2 hc (by omega)] | rw [needs_8 hc c4] | rw [needs_1 hc (by omega) (by omega) (by omega)], hf⟩
theorem makes_ok (s : Stitch) (w0 : World) : Rets Tryz.prog 57 #[stV s] w0 fun v w' => v = .int .i64 (makesS s) ∧ Fr [] w0 w' := by
 refine enter [(0, stV s)] Tryz.func57 rfl Tryz.ntmps57 rfl (.cons rfl .nil) ?_
 have hf := Fr.refl [] w0
 intro a h
 refine tC h (kQ (kR ?_)); clear h a; intro a h
 refine st_box h rfl rfl ?_; clear h a; intro w1 hb1 hq hz a h
 obtain ⟨g_1, hg⟩ : ∃ g, g = w0.heap.size := ⟨_, rfl⟩; rw [← hg] at hb1 h hz
 have hl1 : w0.heap.size ≤ g_1 := by have := hf.size; omega
 replace hf := hf.next hq
 clear hq hz hg
 refine tW h (asg rfl (kL [(1, _)] (.cons rfl .nil) (kE (kQ (kQ (kR (s_loadBA rfl hb1 ag91 ?_))))))); clear h a; intro a h
 refine st_call h (evs_cons rfl evs_nil) co89 (check_ok s _) ?_; clear h a; rintro _ w2 ⟨rfl, hq⟩ a h
 replace hf := hf.next hq
 replace hb1 := hb1.ext hq
 clear hq
 refine tW h (ne' rfl rfl (kL [(1, _), (5, _)] (.c2 rfl rfl) (kE ?_))); clear h a; intro a h
 refine cS h rfl (fun c0=>?_) (fun c0=>?_)
 ·have hc : checkS s ≠ 0 := c0
  refine tC h (kQ (kR (asg rfl (kL [(2, _)] (.cons rfl .nil) (kE ?_))))); clear h a; intro a h
  refine wp_ret (ret_then (ret1 h Tryz.results57 rfl ?_))
  exact ⟨_, rfl, by first | rw [makes_0 hc] | rw [makes_8 hc c1] | rw [makes_1 hc c1], hf⟩
 have hc : checkS s = 0 := Decidable.not_not.1 c0
 refine tC h (kZ (kQ (kQ (kR (fad rfl fa91_0 (s_loadB rfl hb1 rfl na89 (eq' rfl rfl (kL [(1, _), (8, _)] (.c2 rfl rfl) (kE ?_))))))))); clear h a; intro a h
 refine cS h rfl (fun c1=>?_) (fun c1=>?_)
 ·have h8 := (check_rng hc).2.2.2.2.2 c1
  refine tC h (kQ (kR (fad rfl fa91_2 (s_loadB rfl hb1 rfl na3 (fad rfl fa91_3 (s_loadB rfl hb1 rfl na3 (s_add rfl rfl (by first | exact i6 (by omega) | rfl) (asg rfl (kL [(2, _)] (.cons rfl .nil) (kE ?_)))))))))); clear h a; intro a h
  refine wp_ret (ret_then (ret1 h Tryz.results57 rfl ?_))
  exact ⟨_, rfl, by first | rw [makes_0 hc] | rw [makes_8 hc c1] | rw [makes_1 hc c1], hf⟩
 refine tC h (kZ (kQ (kR (asg rfl (kL [(2, _)] (.cons rfl .nil) (kE ?_)))))); clear h a; intro a h
 refine wp_ret (ret1 h Tryz.results57 rfl ?_)
 exact ⟨_, rfl, by first | rw [makes_0 hc] | rw [makes_8 hc c1] | rw [makes_1 hc c1], hf⟩
set_option maxHeartbeats 1000000 in
theorem loads_ok (s : Stitch) (u : Value) (l : List Int) (w0 : World) (hu : Sl Enc.i64 w0 u l) : Rets Tryz.prog 114 #[stV s, u] w0 fun v w' => ∃ r, v = .tuple #[r, .int .i64 (loadsS s l).2] ∧ Lw.Own Enc.i64 3 w0.heap.size w' r (loadsS s l).1 ∧ Fr [] w0 w' := by
 obtain ⟨A, c, rfl, hcp⟩ := hu.form
 obtain ⟨-, -, hM, hA⟩ := Sl.open_ hu
 unfold maxLen at hM
 have hmk := makes_rng s
 refine enter [(0, stV s), (1, .slice A l.length c)] Tryz.func114 rfl Tryz.ntmps114 rfl (.c2 rfl rfl) ?_
 have hf := Fr.refl [] w0
 intro a h
 refine tC h (kQ (kR ?_)); clear h a; intro a h
 refine st_box h rfl rfl ?_; clear h a; intro w1 hb2 hq hz a h
 obtain ⟨g_2, hg⟩ : ∃ g, g = w0.heap.size := ⟨_, rfl⟩; rw [← hg] at hb2 h hz
 have hl2 : w0.heap.size ≤ g_2 := by have := hf.size; omega
 replace hf := hf.next hq
 clear hq hz hg
 refine tW h (asg rfl (asg rfl (kL [(1, _), (2, _)] (.c2 rfl rfl) (kE (kQ (kQ (kR (s_loadBA rfl hb2 ag91 ?_)))))))); clear h a; intro a h
 refine st_call h (evs_cons rfl evs_nil) co89 (check_ok s _) ?_; clear h a; rintro _ w2 ⟨rfl, hq⟩ a h
 replace hf := hf.next hq
 replace hb2 := hb2.ext hq
 clear hq
 refine tW h (ne' rfl rfl (kL [(1, _), (2, _), (12, _)] (.c3 rfl rfl rfl) (kE ?_))); clear h a; intro a h
 refine cS h rfl (fun c0=>?_) (fun c0=>?_)
 ·have hc : checkS s ≠ 0 := c0
  refine tC h (kQ (kR (asg rfl (asg rfl (kL [(4, _), (5, _)] (.c2 rfl rfl) (kE ?_)))))); clear h a; intro a h
  refine wp_ret (ret_then (ret2 h Tryz.results114 rfl rfl ?_))
  rw [loads_1 hc]; exact ⟨_, rfl, _, rfl, Own.nil _, hf⟩
 have hc : checkS s = 0 := Decidable.not_not.1 c0
 refine tC h (kZ (kQ (kQ (kR (mv rfl (lnS rfl Tryz.underlying33 (s_loadBA rfl hb2 ag91 ?_))))))); clear h a; intro a h
 refine st_call h (evs_cons rfl evs_nil) co88 (needs_ok s _) ?_; clear h a; rintro _ w3 ⟨rfl, hq⟩ a h
 replace hf := hf.next hq
 replace hb2 := hb2.ext hq
 clear hq
 refine tW h (ne' rfl rfl (kL [(1, _), (2, _), (17, _)] (.c3 rfl rfl rfl) (kE ?_))); clear h a; intro a h
 refine cS h rfl (fun c1=>?_) (fun c1=>?_)
 ·refine tC h (kQ (kR (asg rfl (asg rfl (kL [(4, _), (5, _)] (.c2 rfl rfl) (kE ?_)))))); clear h a; intro a h
  refine wp_ret (ret_then (ret2 h Tryz.results114 rfl rfl ?_))
  rw [loads_5 hc c1]; exact ⟨_, rfl, _, rfl, Own.nil _, hf⟩
 have hn : (l.length : Int) = needsS s := Decidable.not_not.1 c1
 refine tC h (kZ (kQ (kQ (kR (mv rfl (lnS rfl Tryz.underlying33 (mv rfl (kL [(1, _), (2, _), (18, _), (19, _), (20, _)] (.c5 rfl rfl rfl rfl rfl) (kE (kB ?_)))))))))); clear h a; intro a h
 refine loop (ι := Nat) (fun k => [(1, .slice A l.length c), (2, .pointer (some ⟨g_2, 0, none⟩)), (18, .slice A l.length c), (19, .int .i64 (l.length : Int)), (20, .int .i64 (k : Int))]) (fun k w' => k ≤ l.length ∧ (l.take k).all few = true ∧ Blk w' g_2 91 [.int .u8 s.k, .int .u8 s.y, .int .i64 s.a, .int .i64 s.b, .bool s.f] ∧ Fr [] w0 w') (fun k => l.length - k) 0 (h.sub (.c5 rfl rfl rfl rfl rfl)) ⟨by omega, rfl, hb2, hf⟩ ?_
 clear h a hb2 hf
 rintro k w4 a h ⟨hkl, ha, hb2, hf⟩
 refine tC h (kQ (kR (lt' rfl rfl (kE (kQ ?_))))); clear h a; intro a h
 refine cS h rfl (fun c2=>?_) (fun c2=>?_)
 ·obtain ⟨x, hxx⟩ : ∃ x, l[k]? = some x := ⟨_, List.getElem?_eq_getElem (by omega)⟩
  obtain ⟨ad, hAx, ca⟩ := hA _ x hxx
  refine tC h (kZ (kQ (kB (kQ (kR (s_idxS (by rw [hAx]; rfl) rfl el33 (s_loadC0 rfl (ca.fr hf (by simp)) na3 (asg rfl (kL [(1, _), (2, _), (7, _), (18, _), (19, _), (20, _)] (.c6 rfl rfl rfl rfl rfl rfl) (kE (kQ ?_))))) (hp := rfl))))))); clear h a; intro a h
  refine region_bool (r := 29) (L' := [(1, _), (2, _), (18, _), (19, _), (20, _)]) (¬ (1 ≤ x ∧ x ≤ 3)) h (.c5 rfl rfl rfl rfl rfl) ?_ ?_
  ·refine tW h (mv rfl (lt' rfl rfl (mv rfl ?_))); clear h a; intro a h
   refine gSp (D := 26) h rfl ?_ ?_
   ·clear h; intro g0 h
    refine tW h (kN rfl rfl (kN rfl rfl (pkt rfl rfl ?_))); clear h a; intro a h
    exact wpList_nil (bool_end h rfl (by first | exact bt (by omega) | exact bf (by omega) | exact bi (by omega) | exact bn (by omega)) (.c5 rfl rfl rfl rfl rfl))
   clear h; intro g0 h
   refine tW h (kY rfl (mv rfl (kY rfl (gt' rfl rfl (pkf rfl rfl ?_))))); clear h a; intro a h
   exact wpList_nil (bool_end h rfl (by first | exact bt (by omega) | exact bf (by omega) | exact bi (by omega) | exact bn (by omega)) (.c5 rfl rfl rfl rfl rfl))
  clear h a; intro a h
  refine (norm_then ?_)
  refine cS h rfl (fun c3=>?_) (fun c3=>?_)
  ·refine tC h (kQ (kR (asg rfl (asg rfl (kL [(4, _), (5, _)] (.c2 rfl rfl) (kE ?_)))))); clear h a; intro a h
   refine wp_ret (ret_blk (ret_then (ret_then (ret_blk (ret_then ?_)))))
   refine ret2 h Tryz.results114 rfl rfl ?_
   rw [loads_b hc hn hxx c3]; exact ⟨_, rfl, _, rfl, Own.nil _, hf⟩
  refine wp_skip (norm_blk (norm_then ?_))
  refine tC h (kR (s_add rfl rfl (by first | exact i6 (by omega) | rfl) (mv rfl (kL [(1, _), (2, _), (18, _), (19, _), (20, _)] (.c5 rfl rfl rfl rfl rfl) ?_)))); clear h a; intro a h
  refine wnt ?_
  exact ⟨k + 1, h.sub (.c5 rfl rfl rfl rfl rfl), ⟨by omega, all_few_next ha hxx (by omega), hb2, hf⟩, by omega⟩
 obtain rfl : k = l.length := by omega
 rw [List.take_length] at ha
 refine wp_exit (exit_then (exit_then (exit_here (norm_then ?_))))
 refine tC h (kQ (kR (s_loadBA rfl hb2 ag91 ?_))); clear h a; intro a h
 refine st_call h (evs_cons rfl evs_nil) co57 (makes_ok s _) ?_; clear h a; rintro _ w5 ⟨rfl, hq⟩ a h
 replace hf := hf.next hq
 replace hb2 := hb2.ext hq
 clear hq
 have hmn : ((makesS s).toNat : Int) = makesS s := by omega
 rw [← hmn] at h
 refine st_makeSlice (0 : Int) h rfl rfl el33 zv3 rfl (Nat.le_refl _) (by unfold maxLen; omega) rfl ?_; clear h a; intro gM w6 hg hO hq hz a h
 have hgM : w0.heap.size ≤ gM := by have := hf.size; omega
 have hg2M : g_2 < gM := by have := hb2.lt; omega
 replace hf := hf.next hq
 replace hb2 := hb2.ext hq
 clear hq hz hg
 refine tW h (asg rfl (kL [(1, _), (2, _), (8, _)] (.c3 rfl rfl rfl) (kE (kQ (kQ (kR (mv rfl (lnS rfl Tryz.underlying33 (mv rfl (kL [(1, _), (2, _), (8, _), (35, _), (36, _)] (.c5 rfl rfl rfl rfl rfl) (kE (kB ?_)))))))))))); clear h a; intro a h
 refine loop (ι := Nat) (fun j => [(1, .slice A l.length c), (2, .pointer (some ⟨g_2, 0, none⟩)), (8, .slice (some ⟨gM, 0, none⟩) (makesS s).toNat (makesS s).toNat), (35, .int .i64 ((makesS s).toNat : Int)), (36, .int .i64 (j : Int))]) (fun j w' => j ≤ (makesS s).toNat ∧ Lw.Own Enc.i64 3 gM w' (.slice (some ⟨gM, 0, none⟩) (makesS s).toNat (makesS s).toNat) (List.replicate j 1 ++ List.replicate ((makesS s).toNat - j) 0) ∧ Blk w' g_2 91 [.int .u8 s.k, .int .u8 s.y, .int .i64 s.a, .int .i64 s.b, .bool s.f] ∧ Fr [] w0 w') (fun j => (makesS s).toNat - j) 0 (h.sub (.c5 rfl rfl rfl rfl rfl)) ⟨by omega, by simpa using hO, hb2, hf⟩ ?_
 clear h a hb2 hf hO
 rintro j w7 a h ⟨hj, hO, hb2, hf⟩
 refine tC h (kQ (kR (lt' rfl rfl (kE (kQ ?_))))); clear h a; intro a h
 refine cS h rfl (fun c4=>?_) (fun c4=>?_)
 ·refine tC h (kZ (kQ (kB (kQ (kR (mv rfl (asg rfl (kL [(1, _), (2, _), (8, _), (9, _), (35, _), (36, _)] (.c6 rfl rfl rfl rfl rfl rfl) (kE (kR (mv rfl (mv rfl (s_idxS (p := j) rfl rfl el33 ?_))))))))))))); clear h a; intro a h
  refine st_storeO (i := j) (1 : Int) h rfl rfl hO (by simp; omega) rfl sz3 ?_; clear h a; intro w8 hO2 hq hz a h
  replace hb2 := hb2.fr hq (by simp; omega)
  replace hf := hf.step hq (by simp; omega)
  clear hO hq hz; have hO := hO2; clear hO2
  rw [set_one j _ (by omega)] at hO
  replace h : Ag a 76 [(1, _), (2, _), (8, _), (35, _), (36, _)] := h.sub (.c5 rfl rfl rfl rfl rfl)
  refine wpList_nil (norm_blk (norm_then ?_))
  refine tC h (kR (s_add rfl rfl (by first | exact i6 (by omega) | rfl) (mv rfl (kL [(1, _), (2, _), (8, _), (35, _), (36, _)] (.c5 rfl rfl rfl rfl rfl) ?_)))); clear h a; intro a h
  refine wnt ?_
  exact ⟨j + 1, h.sub (.c5 rfl rfl rfl rfl rfl), ⟨by omega, hO, hb2, hf⟩, by omega⟩
 obtain rfl : j = (makesS s).toNat := by omega
 rw [Nat.sub_self, List.replicate_zero, List.append_nil] at hO
 refine wp_exit (exit_then (exit_then (exit_here (norm_then ?_))))
 refine seq_cut (Cut (ι := Unit) 76 (fun u => [(8, .slice (some ⟨gM, 0, none⟩) (makesS s).toNat (makesS s).toNat)]) (fun u w' => Lw.Own Enc.i64 3 gM w' (.slice (some ⟨gM, 0, none⟩) (makesS s).toNat (makesS s).toNat) (loadsS s l).1 ∧ (loadsS s l).2 = 0 ∧ Fr [] w0 w')) ?_ ?_
 ·refine tC h (kQ (kR (fad rfl fa91_0 (s_loadB rfl hb2 rfl na89 (kL [(1, _), (8, _), (44, _)] (.c3 rfl rfl rfl) (kE (kB (kQ (kQ (kR (eq' rfl rfl (asg rfl (kL [(1, _), (8, _), (44, _), (45, _)] (.c4 rfl rfl rfl rfl) (kE ?_)))))))))))))); clear h a; intro a h
  refine cS h rfl (fun c5=>?_) (fun c5=>?_)
  ·rw [decide_eq_true c5] at h
   refine wsn ?_
   refine cond_true h rfl ?_
   have h4 : s.k = 4 ∨ s.k = 5 := by omega
   have hn2 := needs_2 hc h4
   obtain ⟨x, hxx⟩ : ∃ x, l[0]? = some x := ⟨_, List.getElem?_eq_getElem (by omega)⟩
   obtain ⟨ad, hAx, ca⟩ := hA _ x hxx
   obtain ⟨y, hxy⟩ : ∃ x, l[1]? = some x := ⟨_, List.getElem?_eq_getElem (by omega)⟩
   obtain ⟨bd, hAy, cb⟩ := hA _ y hxy
   have hfx := (few_iff x).1 (List.all_eq_true.1 ha x (List.mem_of_getElem? hxx))
   have hfy := (few_iff y).1 (List.all_eq_true.1 ha y (List.mem_of_getElem? hxy))
   refine wp_seq ?_
   refine region_quiet hmix (by kernel_rfl) ?_
   refine qt_move h rfl rfl ?_; clear h a; intro a h
   refine qt_idxS (p := 0) h (by rw [hAx]; rfl) rfl el33 (by omega) (by omega) (by omega) rfl ?_; clear h a; intro a h
   refine qt_loadC0 h rfl (fun _ hw => (ca.fr hf (by simp)).fr hw (by simp)) na3 rfl ?_; clear h a; intro a h
   refine qt_move h rfl rfl ?_; clear h a; intro a h
   refine qt_idxS (p := 1) h (by rw [hAy]; rfl) rfl el33 (by omega) (by omega) (by omega) rfl ?_; clear h a; intro a h
   refine qt_loadC0 h rfl (fun _ hw => (cb.fr hf (by simp)).fr hw (by simp)) na3 rfl ?_; clear h a; intro a h
   refine qt_add h rfl rfl (by first | exact i6 (by omega) | rfl) rfl ?_; clear h a; intro a h
   refine qt_gt h rfl rfl rfl ?_; clear h a; intro a h
   refine wpQuiet_nil ?_
   intro w9 hq
   replace hf := hf.next hq
   replace hb2 := hb2.ext hq
   replace hO := hO.ext hq
   clear hq
   replace h : Ag a 76 [(8, _), (55, _)] := h.sub (.c2 rfl rfl)
   refine (norm_then ?_)
   refine cS h rfl (fun c7=>?_) (fun c7=>?_)
   ·refine tC h (kQ (kR (asg rfl (asg rfl (kL [(4, _), (5, _)] (.c2 rfl rfl) (kE ?_)))))); clear h a; intro a h
    refine wp_ret (ret_blk (ret_then ?_))
    refine ret2 h Tryz.results114 rfl rfl ?_
    rw [loads_2f hc hn ha h4 hxx hxy c7]; exact ⟨_, rfl, _, rfl, Own.nil _, hf⟩
   refine wp_skip (norm_blk (norm_then ?_))
   first | (have e := loads_2 hc hn ha h4 hxx hxy c7; exact ⟨(), h.sub (.cons rfl .nil), by rw [e, show (makesS s).toNat = 1 by rw [makes_1 hc (by omega)]; rfl] at *; exact hO, by rw [e], hf⟩) | (have e := loads_6 hc hn ha c8 hxx c9; exact ⟨(), h.sub (.cons rfl .nil), by rw [e]; rw [hm1] at hO ⊢; exact hO, by rw [e], hf⟩) | (have e := loads_7 hc hn ha c10 hxx; exact ⟨(), h.sub (.cons rfl .nil), by rw [e]; rw [hm1] at hO ⊢; exact hO, by rw [e], hf⟩) | (have e := loads_o hc hn ha h4 c8 c10; exact ⟨(), h.sub (.cons rfl .nil), by rw [e]; exact hO, by rw [e], hf⟩)
  rw [decide_eq_false c5] at h
  refine tC h (kR (eq' rfl rfl (asg rfl (kL [(1, _), (8, _), (44, _), (45, _)] (.c4 rfl rfl rfl rfl) (kE ?_))))); clear h a; intro a h
  refine cS h rfl (fun c6=>?_) (fun c6=>?_)
  ·have h4 : s.k = 4 ∨ s.k = 5 := by omega
   have hn2 := needs_2 hc h4
   obtain ⟨x, hxx⟩ : ∃ x, l[0]? = some x := ⟨_, List.getElem?_eq_getElem (by omega)⟩
   obtain ⟨ad, hAx, ca⟩ := hA _ x hxx
   obtain ⟨y, hxy⟩ : ∃ x, l[1]? = some x := ⟨_, List.getElem?_eq_getElem (by omega)⟩
   obtain ⟨bd, hAy, cb⟩ := hA _ y hxy
   have hfx := (few_iff x).1 (List.all_eq_true.1 ha x (List.mem_of_getElem? hxx))
   have hfy := (few_iff y).1 (List.all_eq_true.1 ha y (List.mem_of_getElem? hxy))
   refine wp_seq ?_
   refine region_quiet hmix (by kernel_rfl) ?_
   refine qt_move h rfl rfl ?_; clear h a; intro a h
   refine qt_idxS (p := 0) h (by rw [hAx]; rfl) rfl el33 (by omega) (by omega) (by omega) rfl ?_; clear h a; intro a h
   refine qt_loadC0 h rfl (fun _ hw => (ca.fr hf (by simp)).fr hw (by simp)) na3 rfl ?_; clear h a; intro a h
   refine qt_move h rfl rfl ?_; clear h a; intro a h
   refine qt_idxS (p := 1) h (by rw [hAy]; rfl) rfl el33 (by omega) (by omega) (by omega) rfl ?_; clear h a; intro a h
   refine qt_loadC0 h rfl (fun _ hw => (cb.fr hf (by simp)).fr hw (by simp)) na3 rfl ?_; clear h a; intro a h
   refine qt_add h rfl rfl (by first | exact i6 (by omega) | rfl) rfl ?_; clear h a; intro a h
   refine qt_gt h rfl rfl rfl ?_; clear h a; intro a h
   refine wpQuiet_nil ?_
   intro w10 hq
   replace hf := hf.next hq
   replace hb2 := hb2.ext hq
   replace hO := hO.ext hq
   clear hq
   replace h : Ag a 76 [(8, _), (55, _)] := h.sub (.c2 rfl rfl)
   refine (norm_then ?_)
   refine cS h rfl (fun c7=>?_) (fun c7=>?_)
   ·refine tC h (kQ (kR (asg rfl (asg rfl (kL [(4, _), (5, _)] (.c2 rfl rfl) (kE ?_)))))); clear h a; intro a h
    refine wp_ret (ret_blk (ret_then ?_))
    refine ret2 h Tryz.results114 rfl rfl ?_
    rw [loads_2f hc hn ha h4 hxx hxy c7]; exact ⟨_, rfl, _, rfl, Own.nil _, hf⟩
   refine wp_skip (norm_blk (norm_then ?_))
   first | (have e := loads_2 hc hn ha h4 hxx hxy c7; exact ⟨(), h.sub (.cons rfl .nil), by rw [e, show (makesS s).toNat = 1 by rw [makes_1 hc (by omega)]; rfl] at *; exact hO, by rw [e], hf⟩) | (have e := loads_6 hc hn ha c8 hxx c9; exact ⟨(), h.sub (.cons rfl .nil), by rw [e]; rw [hm1] at hO ⊢; exact hO, by rw [e], hf⟩) | (have e := loads_7 hc hn ha c10 hxx; exact ⟨(), h.sub (.cons rfl .nil), by rw [e]; rw [hm1] at hO ⊢; exact hO, by rw [e], hf⟩) | (have e := loads_o hc hn ha h4 c8 c10; exact ⟨(), h.sub (.cons rfl .nil), by rw [e]; exact hO, by rw [e], hf⟩)
  have h4 : ¬ (s.k = 4 ∨ s.k = 5) := by omega
  refine tC h (kQ (kR (eq' rfl rfl (asg rfl (kL [(1, _), (8, _), (44, _), (56, _)] (.c4 rfl rfl rfl rfl) (kE ?_)))))); clear h a; intro a h
  refine cS h rfl (fun c8=>?_) (fun c8=>?_)
  ·have hn1 := needs_1 hc (by omega) (by omega) h4
   have hm1 := makes_1 hc (show s.k ≠ 8 by omega)
   obtain ⟨x, hxx⟩ : ∃ x, l[0]? = some x := ⟨_, List.getElem?_eq_getElem (by omega)⟩
   obtain ⟨ad, hAx, ca⟩ := hA _ x hxx
   have hfx := (few_iff x).1 (List.all_eq_true.1 ha x (List.mem_of_getElem? hxx))
   refine tC h (kQ (kQ (kR (mv rfl (s_idxS (p := 0) (by rw [hAx]; rfl) rfl el33 (s_loadC0 rfl (ca.fr hf (by simp)) na3 (eq' rfl rfl (kL [(1, _), (8, _), (61, _)] (.c3 rfl rfl rfl) (kE ?_))))))))); clear h a; intro a h
   refine cS h rfl (fun c9=>?_) (fun c9=>?_)
   ·refine tC h (kQ (kR (asg rfl (asg rfl (kL [(4, _), (5, _)] (.c2 rfl rfl) (kE ?_)))))); clear h a; intro a h
    refine wp_ret (ret_then (ret_blk (ret_then ?_)))
    refine ret2 h Tryz.results114 rfl rfl ?_
    rw [loads_6f hc hn ha c8 hxx c9]; exact ⟨_, rfl, _, rfl, Own.nil _, hf⟩
   refine tC h (kZ (kR (mv rfl (mv rfl (s_idxS (p := 0) (by rw [hAx]; rfl) rfl el33 (s_loadC0 rfl (ca.fr hf (by simp)) na3 (s_add rfl rfl (by first | exact i6 (by omega) | rfl) (s_idxS (p := 0) rfl rfl el33 ?_)))))))); clear h a; intro a h
   refine st_storeO (i := 0) (x + 1) h rfl rfl hO (by simp; omega) rfl sz3 ?_; clear h a; intro w11 hO2 hq hz a h
   replace hb2 := hb2.fr hq (by simp; omega)
   replace hf := hf.step hq (by simp; omega)
   clear hO hq hz; have hO := hO2; clear hO2
   replace h : Ag a 76 [(8, _)] := h.sub (.cons rfl .nil)
   refine wpList_nil (norm_blk (norm_then ?_))
   first | (have e := loads_2 hc hn ha h4 hxx hxy c7; exact ⟨(), h.sub (.cons rfl .nil), by rw [e, show (makesS s).toNat = 1 by rw [makes_1 hc (by omega)]; rfl] at *; exact hO, by rw [e], hf⟩) | (have e := loads_6 hc hn ha c8 hxx c9; exact ⟨(), h.sub (.cons rfl .nil), by rw [e]; rw [hm1] at hO ⊢; exact hO, by rw [e], hf⟩) | (have e := loads_7 hc hn ha c10 hxx; exact ⟨(), h.sub (.cons rfl .nil), by rw [e]; rw [hm1] at hO ⊢; exact hO, by rw [e], hf⟩) | (have e := loads_o hc hn ha h4 c8 c10; exact ⟨(), h.sub (.cons rfl .nil), by rw [e]; exact hO, by rw [e], hf⟩)
  refine tC h (kQ (kR (eq' rfl rfl (asg rfl (kL [(1, _), (8, _), (68, _)] (.c3 rfl rfl rfl) (kE ?_)))))); clear h a; intro a h
  refine cS h rfl (fun c10=>?_) (fun c10=>?_)
  ·have hn1 := needs_1 hc (by omega) (by omega) h4
   have hm1 := makes_1 hc (show s.k ≠ 8 by omega)
   obtain ⟨x, hxx⟩ : ∃ x, l[0]? = some x := ⟨_, List.getElem?_eq_getElem (by omega)⟩
   obtain ⟨ad, hAx, ca⟩ := hA _ x hxx
   refine tC h (kR (mv rfl (mv rfl (s_idxS (p := 0) (by rw [hAx]; rfl) rfl el33 (s_loadC0 rfl (ca.fr hf (by simp)) na3 (s_idxS (p := 0) rfl rfl el33 ?_)))))); clear h a; intro a h
   refine st_storeO (i := 0) x h rfl rfl hO (by simp; omega) rfl sz3 ?_; clear h a; intro w12 hO2 hq hz a h
   replace hb2 := hb2.fr hq (by simp; omega)
   replace hf := hf.step hq (by simp; omega)
   clear hO hq hz; have hO := hO2; clear hO2
   replace h : Ag a 76 [(8, _)] := h.sub (.cons rfl .nil)
   refine wpList_nil (norm_blk (norm_then ?_))
   first | (have e := loads_2 hc hn ha h4 hxx hxy c7; exact ⟨(), h.sub (.cons rfl .nil), by rw [e, show (makesS s).toNat = 1 by rw [makes_1 hc (by omega)]; rfl] at *; exact hO, by rw [e], hf⟩) | (have e := loads_6 hc hn ha c8 hxx c9; exact ⟨(), h.sub (.cons rfl .nil), by rw [e]; rw [hm1] at hO ⊢; exact hO, by rw [e], hf⟩) | (have e := loads_7 hc hn ha c10 hxx; exact ⟨(), h.sub (.cons rfl .nil), by rw [e]; rw [hm1] at hO ⊢; exact hO, by rw [e], hf⟩) | (have e := loads_o hc hn ha h4 c8 c10; exact ⟨(), h.sub (.cons rfl .nil), by rw [e]; exact hO, by rw [e], hf⟩)
  refine wp_skip (norm_blk (norm_then ?_))
  first | (have e := loads_2 hc hn ha h4 hxx hxy c7; exact ⟨(), h.sub (.cons rfl .nil), by rw [e, show (makesS s).toNat = 1 by rw [makes_1 hc (by omega)]; rfl] at *; exact hO, by rw [e], hf⟩) | (have e := loads_6 hc hn ha c8 hxx c9; exact ⟨(), h.sub (.cons rfl .nil), by rw [e]; rw [hm1] at hO ⊢; exact hO, by rw [e], hf⟩) | (have e := loads_7 hc hn ha c10 hxx; exact ⟨(), h.sub (.cons rfl .nil), by rw [e]; rw [hm1] at hO ⊢; exact hO, by rw [e], hf⟩) | (have e := loads_o hc hn ha h4 c8 c10; exact ⟨(), h.sub (.cons rfl .nil), by rw [e]; exact hO, by rw [e], hf⟩)
 clear h a hb2 hf hO
 rintro a w13 ⟨u, h, ⟨hO, h0, hf⟩⟩
 refine tC h (kQ (kR (mv rfl (asg rfl (asg rfl (kL [(4, _), (5, _)] (.c2 rfl rfl) (kE ?_))))))); clear h a; intro a h
 refine wp_ret (ret2 h Tryz.results114 rfl rfl ?_)
 exact ⟨_, rfl, _, by rw [h0], hO.low hgM, hf⟩
end Go.Proofs.YthehggmdcmpjeaaGreatDoor
namespace Go.Proofs.YthehggmdcmpjeaaGreatDoor
open Go.Lw Go.G14
theorem co55 : CallOf Tryz.prog 55 := mkC Tryz.func55
theorem co56 : CallOf Tryz.prog 56 := mkC Tryz.func56
theorem co87 : CallOf Tryz.prog 87 := mkC Tryz.func87
theorem total_ok (fid : Nat) (g : Stitch → Int) (hg : ∀ s, 0 ≤ g s ∧ g s ≤ 4) (hgc : ∀ s w, Rets Tryz.prog fid #[stV s] w fun v w' => v = .int .i64 (g s) ∧ Fr [] w w') (hco : CallOf Tryz.prog fid) (u : Value) (xs : List Stitch) (w0 : World) (hu : Sl encSt w0 u xs) (h16 : xs.length ≤ 16) : Rets Tryz.prog 87 #[u, .func (.func fid) #[] #[]] w0 fun v w' => v = .int .i64 (xs.map g).sum ∧ Fr [] w0 w' := by
 obtain ⟨A, c, rfl, hcp⟩ := hu.form
 obtain ⟨-, -, hM, hA⟩ := Sl.open_ hu
 unfold maxLen at hM
 refine enter [(0, .slice A xs.length c), (1, .func (.func fid) #[] #[])] Tryz.func87 rfl Tryz.ntmps87 rfl (.c2 rfl rfl) ?_
 have hf := Fr.refl [] w0
 intro a h
 refine tC h (kQ (kR (asg rfl (kL [(0, _), (1, _)] (.c2 rfl rfl) (kE (kQ (kR (asg rfl (kE (kQ (kQ (kR (mv rfl (lnS rfl Tryz.underlying88 (mv rfl (kL [(1, _), (5, _), (8, _), (9, _), (10, _)] (.c5 rfl rfl rfl rfl rfl) (kE (kB ?_)))))))))))))))))); clear h a; intro a h
 refine loop (ι := Nat) (fun k => [(1, .func (.func fid) #[] #[]), (5, .int .i64 ((xs.take k).map g).sum), (8, .slice A xs.length c), (9, .int .i64 (xs.length : Int)), (10, .int .i64 (k : Int))]) (fun k w' => k ≤ xs.length ∧ Fr [] w0 w') (fun k => xs.length - k) 0 (h.sub (.c5 rfl rfl rfl rfl rfl)) ⟨by omega, hf⟩ ?_
 clear h a hf
 rintro k w1 a h ⟨hk, hf⟩
 have hsr := sum_rng hg (xs.take k)
 rw [List.length_take] at hsr
 refine tC h (kQ (kR (lt' rfl rfl (kE (kQ ?_))))); clear h a; intro a h
 refine cS h rfl (fun c0=>?_) (fun c0=>?_)
 ·obtain ⟨x, hxk⟩ : ∃ x, xs[k]? = some x := ⟨_, List.getElem?_eq_getElem (by omega)⟩
  obtain ⟨ad, hAd, ca⟩ := hA k x hxk
  have hgx := hg x
  refine tC h (kZ (kQ (kB (kQ (kR (s_idxS (by rw [hAd]; rfl) rfl el88 (s_loadA rfl (ca.fr hf (by simp)) ag91 ?_) (hp := rfl))))))); clear h a; intro a h
  refine st_alloc h zv91 rfl ?_; clear h a; intro w2 hb7 hq hz a h
  obtain ⟨g_7, hg⟩ : ∃ g, g = w1.heap.size := ⟨_, rfl⟩; rw [← hg] at hb7 h hz
  have hl7 : w0.heap.size ≤ g_7 := by have := hf.size; omega
  replace hf := hf.next hq
  clear hq hz hg
  refine st_storeBA h rfl rfl hb7 rfl sz91 ?_; clear h a; intro w3 hbn hq hz a h
  replace hf := hf.sp hq
  clear hb7 hq hz; have hb7 : Blk w3 g_7 _ [_, _, _, _, _] := hbn; clear hbn
  refine tW h (kL [(1, _), (5, _), (7, _), (8, _), (9, _), (10, _)] (.c6 rfl rfl rfl rfl rfl rfl) (kE (kR (mv rfl (mv rfl (s_loadBA rfl hb7 ag91 ?_)))))); clear h a; intro a h
  refine st_callv (us := []) (ws := []) h rfl (evs_cons rfl evs_nil) hco (hgc x _) rfl (by intro g; simp) ?_; clear h a; rintro _ w4 ⟨rfl, hq⟩ a h
  replace hf := hf.next hq
  replace hb7 := hb7.ext hq
  clear hq
  refine tW h (s_add rfl rfl (by first | exact i6 (by omega) | rfl) (asg rfl (kL [(1, _), (5, _), (8, _), (9, _), (10, _)] (.c5 rfl rfl rfl rfl rfl) ?_))); clear h a; intro a h
  refine wpList_nil (norm_blk (norm_then ?_))
  refine tC h (kR (s_add rfl rfl (by first | exact i6 (by omega) | rfl) (mv rfl (kL [(1, _), (5, _), (8, _), (9, _), (10, _)] (.c5 rfl rfl rfl rfl rfl) ?_)))); clear h a; intro a h
  refine wnt ?_
  exact ⟨k + 1, h.sub (.c5 rfl (by rw [sum_next hxk]; rfl) rfl rfl rfl), ⟨by omega, hf⟩, by omega⟩
 obtain rfl : k = xs.length := by omega
 rw [List.take_length] at h
 refine wp_exit (exit_then (exit_then (exit_here (norm_then ?_))))
 refine tC h (kQ (kR (mv rfl (asg rfl (kL [(4, _)] (.cons rfl .nil) (kE ?_)))))); clear h a; intro a h
 refine wp_ret (ret1 h Tryz.results87 rfl ?_)
 exact ⟨_, rfl, rfl, hf⟩
theorem cneeds_ok (u : Value) (xs : List Stitch) (w0 : World) (hu : Sl encSt w0 u xs) (h16 : xs.length ≤ 16) : Rets Tryz.prog 55 #[u] w0 fun v w' => v = .int .i64 (needsR xs) ∧ Fr [] w0 w' := by
 obtain ⟨A, c, rfl, hcp⟩ := hu.form
 refine enter [(0, .slice A xs.length c)] Tryz.func55 rfl Tryz.ntmps55 rfl (.cons rfl .nil) ?_
 have hf := Fr.refl [] w0
 intro a h
 refine tC h (kQ (kR (asg rfl (kL [(0, _)] (.cons rfl .nil) (kE (kQ (kR (mv rfl ?_)))))))); clear h a; intro a h
 refine st_call h (evs_cons rfl (evs_cons rfl evs_nil)) co87 (total_ok 88 needsS needs_rng (fun s w => needs_ok s w) co88 _ xs _ hu h16) ?_; clear h a; rintro _ w1 ⟨rfl, hq⟩ a h
 replace hf := hf.next hq
 clear hq
 refine tW h (asg rfl (kL [(2, _)] (.cons rfl .nil) (kE ?_))); clear h a; intro a h
 refine wp_ret (ret1 h Tryz.results55 rfl ?_)
 exact ⟨_, rfl, rfl, hf⟩
theorem cmakes_ok (u : Value) (xs : List Stitch) (w0 : World) (hu : Sl encSt w0 u xs) (h16 : xs.length ≤ 16) : Rets Tryz.prog 56 #[u] w0 fun v w' => v = .int .i64 (makesR xs) ∧ Fr [] w0 w' := by
 obtain ⟨A, c, rfl, hcp⟩ := hu.form
 refine enter [(0, .slice A xs.length c)] Tryz.func56 rfl Tryz.ntmps56 rfl (.cons rfl .nil) ?_
 have hf := Fr.refl [] w0
 intro a h
 refine tC h (kQ (kR (asg rfl (kL [(0, _)] (.cons rfl .nil) (kE (kQ (kR (mv rfl ?_)))))))); clear h a; intro a h
 refine st_call h (evs_cons rfl (evs_cons rfl evs_nil)) co87 (total_ok 57 makesS makes_rng (fun s w => makes_ok s w) co57 _ xs _ hu h16) ?_; clear h a; rintro _ w1 ⟨rfl, hq⟩ a h
 replace hf := hf.next hq
 clear hq
 refine tW h (asg rfl (kL [(2, _)] (.cons rfl .nil) (kE ?_))); clear h a; intro a h
 refine wp_ret (ret1 h Tryz.results56 rfl ?_)
 exact ⟨_, rfl, rfl, hf⟩
theorem checkrow_ok (u : Value) (xs : List Stitch) (w0 : World) (hu : Sl encSt w0 u xs) : Rets Tryz.prog 136 #[u] w0 fun v w' => v = .int .i64 (rowE xs) ∧ Fr [] w0 w' := by
 obtain ⟨A, c, rfl, hcp⟩ := hu.form
 obtain ⟨-, -, hM, hA⟩ := Sl.open_ hu
 unfold maxLen at hM
 refine enter [(0, .slice A xs.length c)] Tryz.func136 rfl Tryz.ntmps136 rfl (.cons rfl .nil) ?_
 have hf := Fr.refl [] w0
 intro a h
 refine tC h (kQ (kR (asg rfl (kL [(0, _)] (.cons rfl .nil) (kE (kQ (kQ (kR (mv rfl (lnS rfl Tryz.underlying88 (gt' rfl rfl (kL [(0, _), (9, _)] (.c2 rfl rfl) (kE ?_))))))))))))); clear h a; intro a h
 refine cS h rfl (fun c0=>?_) (fun c0=>?_)
 ·refine tC h (kQ (kR (asg rfl (kL [(2, _)] (.cons rfl .nil) (kE ?_))))); clear h a; intro a h
  refine wp_ret (ret_then (ret1 h Tryz.results136 rfl ?_))
  exact ⟨_, rfl, by rw [row3 (by omega)], hf⟩
 refine tC h (kZ (kQ (kQ (kR (mv rfl (lnS rfl Tryz.underlying88 (eq' rfl rfl (kL [(0, _), (12, _)] (.c2 rfl rfl) (kE ?_))))))))); clear h a; intro a h
 refine cS h rfl (fun c1=>?_) (fun c1=>?_)
 ·refine tC h (kQ (kR (asg rfl (kL [(2, _)] (.cons rfl .nil) (kE ?_))))); clear h a; intro a h
  refine wp_ret (ret_then (ret1 h Tryz.results136 rfl ?_))
  exact ⟨_, rfl, by rw [row1 (by omega) (by omega)], hf⟩
 refine tC h (kZ (kQ (kQ (kR (mv rfl (lnS rfl Tryz.underlying88 (mv rfl (kL [(0, _), (13, _), (14, _), (15, _)] (.c4 rfl rfl rfl rfl) (kE (kB ?_)))))))))); clear h a; intro a h
 refine loop (ι := Nat) (fun k => [(0, .slice A xs.length c), (13, .slice A xs.length c), (14, .int .i64 (xs.length : Int)), (15, .int .i64 (k : Int))]) (fun k w' => k ≤ xs.length ∧ (xs.take k).all okB = true ∧ Fr [] w0 w') (fun k => xs.length - k) 0 (h.sub (.c4 rfl rfl rfl rfl)) ⟨by omega, rfl, hf⟩ ?_
 clear h a hf
 rintro k w1 a h ⟨hk, ha, hf⟩
 refine tC h (kQ (kR (lt' rfl rfl (kE (kQ ?_))))); clear h a; intro a h
 refine cS h rfl (fun c2=>?_) (fun c2=>?_)
 ·obtain ⟨x, hxk⟩ : ∃ x, xs[k]? = some x := ⟨_, List.getElem?_eq_getElem (by omega)⟩
  obtain ⟨ad, hAd, ca⟩ := hA k x hxk
  refine tC h (kZ (kQ (kB (kQ (kR (s_idxS (by rw [hAd]; rfl) rfl el88 (s_loadA rfl (ca.fr hf (by simp)) ag91 ?_) (hp := rfl))))))); clear h a; intro a h
  refine st_alloc h zv91 rfl ?_; clear h a; intro w2 hb4 hq hz a h
  obtain ⟨g_4, hg⟩ : ∃ g, g = w1.heap.size := ⟨_, rfl⟩; rw [← hg] at hb4 h hz
  have hl4 : w0.heap.size ≤ g_4 := by have := hf.size; omega
  replace hf := hf.next hq
  clear hq hz hg
  refine st_storeBA h rfl rfl hb4 rfl sz91 ?_; clear h a; intro w3 hbn hq hz a h
  replace hf := hf.sp hq
  clear hb4 hq hz; have hb4 : Blk w3 g_4 _ [_, _, _, _, _] := hbn; clear hbn
  refine tW h (kL [(0, _), (4, _), (13, _), (14, _), (15, _)] (.c5 rfl rfl rfl rfl rfl) (kE (kQ (kR (s_loadBA rfl hb4 ag91 ?_))))); clear h a; intro a h
  refine st_call h (evs_cons rfl evs_nil) co89 (check_ok x _) ?_; clear h a; rintro _ w4 ⟨rfl, hq⟩ a h
  replace hf := hf.next hq
  replace hb4 := hb4.ext hq
  clear hq
  refine tW h (ne' rfl rfl (kL [(0, _), (13, _), (14, _), (15, _), (21, _)] (.c5 rfl rfl rfl rfl rfl) (kE ?_))); clear h a; intro a h
  refine cS h rfl (fun c3=>?_) (fun c3=>?_)
  ·have c3' : checkS x ≠ 0 := c3
   refine tC h (kQ (kR (asg rfl (kL [(2, _)] (.cons rfl .nil) (kE ?_))))); clear h a; intro a h
   refine wp_ret (ret_blk (ret_then (ret_then (ret_blk (ret_then ?_)))))
   refine ret1 h Tryz.results136 rfl ?_
   exact ⟨_, rfl, by rw [row1b (by omega) hxk c3'], hf⟩
  have c3' : checkS x = 0 := Decidable.not_not.1 c3
  refine wp_skip (norm_blk (norm_then ?_))
  refine tC h (kR (s_add rfl rfl (by first | exact i6 (by omega) | rfl) (mv rfl (kL [(0, _), (13, _), (14, _), (15, _)] (.c4 rfl rfl rfl rfl) ?_)))); clear h a; intro a h
  refine wnt ?_
  exact ⟨k + 1, h.sub (.c4 rfl rfl rfl rfl), ⟨by omega, by rw [List.take_add_one, hxk]; exact all_snocS _ _ ha ((okB_iff _).2 c3'), hf⟩, by omega⟩
 obtain rfl : k = xs.length := by omega
 rw [List.take_length] at ha
 refine wp_exit (exit_then (exit_then (exit_here (norm_then ?_))))
 refine tC h (kQ (kR (mv rfl ?_))); clear h a; intro a h
 refine st_call h (evs_cons rfl evs_nil) co55 (cneeds_ok _ xs _ (hu.ext hf) (by omega)) ?_; clear h a; rintro _ w5 ⟨rfl, hq⟩ a h
 replace hf := hf.next hq
 clear hq
 refine st_move h rfl rfl ?_; clear h a; intro a h
 refine st_call h (evs_cons rfl evs_nil) co56 (cmakes_ok _ xs _ (hu.ext hf) (by omega)) ?_; clear h a; rintro _ w6 ⟨rfl, hq⟩ a h
 replace hf := hf.next hq
 clear hq
 refine tW h (asg rfl (asg rfl (kL [(5, _), (6, _)] (.c2 rfl rfl) (kE (kQ (kQ ?_)))))); clear h a; intro a h
 refine region_bool (r := 40) (L' := []) (needsR xs < 1 ∨ 16 < needsR xs ∨ makesR xs < 1 ∨ 16 < makesR xs) h .nil ?_ ?_
 ·refine tW h (mv rfl (lt' rfl rfl (mv rfl ?_))); clear h a; intro a h
  refine gSp (D := 29) h rfl ?_ ?_
  ·clear h; intro g0 h
   refine tW h (kN rfl rfl (kN rfl rfl (pkt rfl rfl (mv rfl (kN rfl rfl (kN rfl rfl (pkt rfl rfl (mv rfl (kN rfl rfl (kN rfl rfl (pkt rfl rfl ?_))))))))))); clear h a; intro a h
   exact wpList_nil (bool_end h rfl (by first | exact bt (by omega) | exact bf (by omega) | exact bi (by omega) | exact bn (by omega)) .nil)
  clear h; intro g0 h
  refine tW h (kY rfl (mv rfl (kY rfl (gt' rfl rfl (pkf rfl rfl (mv rfl ?_)))))); clear h a; intro a h
  refine gSp (D := 33) h rfl ?_ ?_
  ·clear h; intro g1 h
   refine tW h (kN rfl rfl (kN rfl rfl (pkt rfl rfl (mv rfl (kN rfl rfl (kN rfl rfl (pkt rfl rfl ?_))))))); clear h a; intro a h
   exact wpList_nil (bool_end h rfl (by first | exact bt (by omega) | exact bf (by omega) | exact bi (by omega) | exact bn (by omega)) .nil)
  clear h; intro g1 h
  refine tW h (kY rfl (mv rfl (kY rfl (lt' rfl rfl (pkf rfl rfl (mv rfl ?_)))))); clear h a; intro a h
  refine gSp (D := 37) h rfl ?_ ?_
  ·clear h; intro g2 h
   refine tW h (kN rfl rfl (kN rfl rfl (pkt rfl rfl ?_))); clear h a; intro a h
   exact wpList_nil (bool_end h rfl (by first | exact bt (by omega) | exact bf (by omega) | exact bi (by omega) | exact bn (by omega)) .nil)
  clear h; intro g2 h
  refine tW h (kY rfl (mv rfl (kY rfl (gt' rfl rfl (pkf rfl rfl ?_))))); clear h a; intro a h
  exact wpList_nil (bool_end h rfl (by first | exact bt (by omega) | exact bf (by omega) | exact bi (by omega) | exact bn (by omega)) .nil)
 clear h a; intro a h
 refine (norm_then ?_)
 refine cS h rfl (fun c4=>?_) (fun c4=>?_)
 ·refine tC h (kQ (kR (asg rfl (kL [(2, _)] (.cons rfl .nil) (kE ?_))))); clear h a; intro a h
  refine wp_ret (ret_then (ret1 h Tryz.results136 rfl ?_))
  exact ⟨_, rfl, by rw [row5 (by omega) (by omega) ha c4], hf⟩
 refine tC h (kZ (kQ (kR (asg rfl (kL [(2, _)] (.cons rfl .nil) (kE ?_)))))); clear h a; intro a h
 refine wp_ret (ret1 h Tryz.results136 rfl ?_)
 exact ⟨_, rfl, by rw [row0 (by omega) (by omega) ha c4], hf⟩
end Go.Proofs.YthehggmdcmpjeaaGreatDoor
namespace Go.Proofs.YthehggmdcmpjeaaGreatDoor
open Go.Lw Go.G14
theorem co136 : CallOf Tryz.prog 136 := mkC Tryz.func136
theorem checkrows_ok (u : Value) (rows : List (List Stitch)) (w0 : World) (hS : Sll encSt w0 u rows) : Rets Tryz.prog 113 #[u] w0 fun v w' => v = .int .i64 (rowsE rows) ∧ Fr [] w0 w' := by
 obtain ⟨A, c, rfl, hcp, hM⟩ := hS.form
 unfold maxLen at hM
 refine enter [(0, .slice A rows.length c)] Tryz.func113 rfl Tryz.ntmps113 rfl (.cons rfl .nil) ?_
 have hf := Fr.refl [] w0
 intro a h
 refine tC h (kQ (kR (asg rfl (kL [(0, _)] (.cons rfl .nil) (kE (kQ (kQ (kR (mv rfl (lnS rfl Tryz.underlying40 (gt' rfl rfl (kL [(0, _), (9, _)] (.c2 rfl rfl) (kE ?_))))))))))))); clear h a; intro a h
 refine cS h rfl (fun c0=>?_) (fun c0=>?_)
 ·refine tC h (kQ (kR (asg rfl (kL [(2, _)] (.cons rfl .nil) (kE ?_))))); clear h a; intro a h
  refine wp_ret (ret_then (ret1 h Tryz.results113 rfl ?_))
  exact ⟨_, rfl, by rw [rows3 (by omega)], hf⟩
 refine tC h (kZ (kQ (kQ (kR (mv rfl (lnS rfl Tryz.underlying40 (s_rem rfl rfl (by first | exact IntWalk.rem_in _ _ (by omega) | rfl) (eq' rfl rfl (kL [(0, _), (13, _)] (.c2 rfl rfl) (kE ?_)))))))))); clear h a; intro a h
 refine cS h rfl (fun c1=>?_) (fun c1=>?_)
 ·refine tC h (kQ (kR (asg rfl (kL [(2, _)] (.cons rfl .nil) (kE ?_))))); clear h a; intro a h
  refine wp_ret (ret_then (ret1 h Tryz.results113 rfl ?_))
  exact ⟨_, rfl, by rw [rows1 (by omega) (by omega)], hf⟩
 refine tC h (kZ (kQ (kQ (kR (mv rfl (lnS rfl Tryz.underlying40 (mv rfl (kL [(0, _), (14, _), (15, _), (16, _)] (.c4 rfl rfl rfl rfl) (kE (kB ?_)))))))))); clear h a; intro a h
 refine loop (ι := Nat) (fun k => [(0, .slice A rows.length c), (14, .slice A rows.length c), (15, .int .i64 (rows.length : Int)), (16, .int .i64 (k : Int))]) (fun k w' => k ≤ rows.length ∧ (∀ (i : Nat) (q : List Stitch), i < k → rows[i]? = some q → rowE q = 0) ∧ Fr [] w0 w') (fun k => rows.length - k) 0 (h.sub (.c4 rfl rfl rfl rfl)) ⟨by omega, fun i q h => by omega, hf⟩ ?_
 clear h a hf
 rintro k w1 a h ⟨hk, hz, hf⟩
 refine tC h (kQ (kR (lt' rfl rfl (kE (kQ ?_))))); clear h a; intro a h
 refine cS h rfl (fun c2=>?_) (fun c2=>?_)
 ·obtain ⟨r, hrk⟩ : ∃ r, rows[k]? = some r := ⟨_, List.getElem?_eq_getElem (by omega)⟩
  obtain ⟨RA, rc, ad, hAd, cc, hr, hrc, hrm⟩ := (hS.ext hf).row hrk
  unfold maxLen at hrm
  refine tC h (kZ (kQ (kB (kQ (kR (s_idxS (by rw [hAd]; rfl) rfl el40 (s_loadC0 rfl cc na88 (asg rfl (kL [(0, _), (4, _), (14, _), (15, _), (16, _)] (.c5 rfl rfl rfl rfl rfl) (kE (kQ (kR (mv rfl ?_))))))) (hp := rfl))))))); clear h a; intro a h
  refine st_call h (evs_cons rfl evs_nil) co136 (checkrow_ok _ r _ hr) ?_; clear h a; rintro _ w2 ⟨rfl, hq⟩ a h
  replace hf := hf.next hq
  clear hq
  refine tW h (asg rfl (kL [(0, _), (5, _), (14, _), (15, _), (16, _)] (.c5 rfl rfl rfl rfl rfl) (kE (kQ (kR (mv rfl (ne' rfl rfl (kL [(0, _), (5, _), (14, _), (15, _), (16, _), (23, _)] (.c6 rfl rfl rfl rfl rfl rfl) (kE ?_))))))))); clear h a; intro a h
  refine cS h rfl (fun c3=>?_) (fun c3=>?_)
  ·have c3' : rowE r ≠ 0 := c3
   refine tC h (kQ (kR (mv rfl (asg rfl (kL [(2, _)] (.cons rfl .nil) (kE ?_)))))); clear h a; intro a h
   refine wp_ret (ret_blk (ret_then (ret_then (ret_blk (ret_then ?_)))))
   refine ret1 h Tryz.results113 rfl ?_
   exact ⟨_, rfl, by rw [rowsB (by omega) (by omega) hz hrk c3'], hf⟩
  have c3' : rowE r = 0 := Decidable.not_not.1 c3
  refine wp_skip (norm_blk (norm_then ?_))
  refine tC h (kR (s_add rfl rfl (by first | exact i6 (by omega) | rfl) (mv rfl (kL [(0, _), (14, _), (15, _), (16, _)] (.c4 rfl rfl rfl rfl) ?_)))); clear h a; intro a h
  refine wnt ?_
  exact ⟨k + 1, h.sub (.c4 rfl rfl rfl rfl), ⟨by omega, z_next hz hrk c3', hf⟩, by omega⟩
 obtain rfl : k = rows.length := by omega
 replace hz : ∀ (i : Nat) (q : List Stitch), rows[i]? = some q → rowE q = 0 := fun i q hq => hz i q (List.getElem?_eq_some_iff.1 hq).1 hq
 refine wp_exit (exit_then (exit_then (exit_here (norm_then ?_))))
 refine tC h (kQ (kQ (kR (asg rfl (kL [(0, _), (6, _)] (.c2 rfl rfl) (kE (kB ?_))))))); clear h a; intro a h
 refine loop (ι := Nat) (fun k => [(0, .slice A rows.length c), (6, .int .i64 ((k : Int) + 1))]) (fun k w' => k + 1 ≤ rows.length ∧ (∀ (j : Nat) (r q : List Stitch), j < k → rows[j]? = some r → rows[j + 1]? = some q → needsR q = makesR r) ∧ Fr [] w0 w') (fun k => rows.length - k) 0 (h.sub (.c2 rfl rfl)) ⟨by omega, fun j r q h => by omega, hf⟩ ?_
 clear h a hf
 rintro k w3 a h ⟨hk1, hadj, hf⟩
 refine tC h (kQ (kQ (kR (mv rfl (mv rfl (lnS rfl Tryz.underlying40 (lt' rfl rfl (kL [(0, _), (6, _), (29, _)] (.c3 rfl rfl rfl) (kE ?_))))))))); clear h a; intro a h
 refine cS h rfl (fun c4=>?_) (fun c4=>?_)
 ·obtain ⟨r, hrk⟩ : ∃ r, rows[k]? = some r := ⟨_, List.getElem?_eq_getElem (by omega)⟩
  obtain ⟨RA, rc, ad, hAd, cc, hr, hrc, hrm⟩ := (hS.ext hf).row hrk
  unfold maxLen at hrm
  obtain ⟨q, hqk⟩ : ∃ r, rows[k + 1]? = some r := ⟨_, List.getElem?_eq_getElem (by omega)⟩
  obtain ⟨RA2, rc2, ad2, hAd2, cc2, hr2, hrc2, hrm2⟩ := (hS.ext hf).row hqk
  unfold maxLen at hrm2
  have hr16 := (row_ok_of (hz _ _ hrk)).1
  have hq16 := (row_ok_of (hz _ _ hqk)).1
  refine tC h (kZ (kQ (kB (kQ ?_)))); clear h a; intro a h
  refine region_quiet hmix (by kernel_rfl) ?_
  refine qt_move h rfl rfl ?_; clear h a; intro a h
  refine qt_move h rfl rfl ?_; clear h a; intro a h
  refine qt_idxS (p := k + 1) h (by rw [hAd2]; rfl) rfl el40 (by omega) (by omega) (by omega) rfl ?_; clear h a; intro a h
  refine qt_loadC0 h rfl (fun _ hw => cc2.fr hw (by simp)) na88 rfl ?_; clear h a; intro a h
  refine qt_call h (evs_cons rfl evs_nil) co55 (fun w hw => (cneeds_ok _ q w (hr2.ext hw) (by omega)).mono fun u w' ⟨e, f⟩ => ⟨e, hw.next f⟩) rfl ?_; clear h a; intro a h
  refine qt_move h rfl rfl ?_; clear h a; intro a h
  refine qt_move h rfl rfl ?_; clear h a; intro a h
  refine qt_sub h rfl rfl (by first | exact i6 (by omega) | rfl) rfl ?_; clear h a; intro a h
  refine qt_idxS (p := k) h (by rw [hAd]; rfl) rfl el40 (by omega) (by omega) (by omega) rfl ?_; clear h a; intro a h
  refine qt_loadC0 h rfl (fun _ hw => cc.fr hw (by simp)) na88 rfl ?_; clear h a; intro a h
  refine qt_call h (evs_cons rfl evs_nil) co56 (fun w hw => (cmakes_ok _ r w (hr.ext hw) (by omega)).mono fun u w' ⟨e, f⟩ => ⟨e, hw.next f⟩) rfl ?_; clear h a; intro a h
  refine qt_ne h rfl rfl rfl ?_; clear h a; intro a h
  refine wpQuiet_nil ?_
  intro w4 hq
  replace hf := hf.next hq
  clear hq
  replace h : Ag a 44 [(0, _), (6, _), (43, _)] := h.sub (.c3 rfl rfl rfl)
  refine (norm_then ?_)
  refine cS h rfl (fun c5=>?_) (fun c5=>?_)
  ·refine tC h (kQ (kR (asg rfl (kL [(2, _)] (.cons rfl .nil) (kE ?_))))); clear h a; intro a h
   refine wp_ret (ret_blk (ret_then (ret_then (ret_blk (ret_then ?_)))))
   refine ret1 h Tryz.results113 rfl ?_
   exact ⟨_, rfl, by rw [rows14 (by omega) (by omega) hz hrk hqk c5], hf⟩
  refine wp_skip (norm_blk (norm_then ?_))
  refine tC h (kR (mv rfl (s_add rfl rfl (by first | exact i6 (by omega) | rfl) (asg rfl (kL [(0, _), (6, _)] (.c2 rfl rfl) ?_))))); clear h a; intro a h
  refine wnt ?_
  exact ⟨k + 1, h.sub (.c2 rfl (by first | rfl | (congr 2; omega))), ⟨by omega, adj_next hadj hrk hqk (Decidable.not_not.1 c5), hf⟩, by omega⟩
 obtain hkl : k + 1 = rows.length := by omega
 refine wp_exit (exit_then (exit_then (exit_here (norm_then ?_))))
 refine tC h (kQ (kR (asg rfl (kL [(2, _)] (.cons rfl .nil) (kE ?_))))); clear h a; intro a h
 refine wp_ret (ret1 h Tryz.results113 rfl ?_)
 exact ⟨_, rfl, by rw [rows0 (by omega) (by omega) hz (fun j r q h1 h2 => hadj j r q (by have := (List.getElem?_eq_some_iff.1 h2).1; omega) h1 h2)], hf⟩
end Go.Proofs.YthehggmdcmpjeaaGreatDoor
namespace Go.Proofs.YthehggmdcmpjeaaGreatDoor
open Go.Lw Go.G14
theorem el131 : ElemOf Tryz.prog 131 33 Enc.sl 24 := ElemOf.mk' (z := (.slice none 0 0)) Tryz.underlying131 (by kernel_rfl) rfl
end Go.Proofs.YthehggmdcmpjeaaGreatDoor
namespace Go.Proofs.YthehggmdcmpjeaaGreatDoor
open Go.Lw Go.G14
theorem co86 : CallOf Tryz.prog 86 := mkC Tryz.func86
theorem co113 : CallOf Tryz.prog 113 := mkC Tryz.func113
theorem co114 : CallOf Tryz.prog 114 := mkC Tryz.func114
theorem na33 : NotAgg Tryz.prog 33 := fun _ => by kernel_rfl
theorem sz33 : SizeOf Tryz.prog 33 1 := fun _ => by kernel_rfl
theorem zv33 (w : World) : (zeroValue 33).run Tryz.prog w = .ok (.slice none 0 0) w := by kernel_rfl
set_option maxHeartbeats 2000000 in
theorem chart_ok (u : Value) (rows : List (List Stitch)) (w0 : World) (hS : Sll encSt w0 u rows) : Rets Tryz.prog 86 #[.agg #[u]] w0 fun v w' => ∃ X, v = .tuple #[X, .int .i64 (chartE rows)] ∧ Fr [] w0 w' := by
 obtain ⟨A, c, rfl, hcp, hM⟩ := hS.form
 unfold maxLen at hM
 refine enter [(0, .agg #[.slice A rows.length c])] Tryz.func86 rfl Tryz.ntmps86 rfl (.cons rfl .nil) ?_
 have hf := Fr.refl [] w0
 intro a h
 refine tC h (kQ (kR ?_)); clear h a; intro a h
 refine st_box h rfl rfl ?_; clear h a; intro w1 hb1 hq hz a h
 obtain ⟨g_1, hg⟩ : ∃ g, g = w0.heap.size := ⟨_, rfl⟩; rw [← hg] at hb1 h hz
 have hl1 : w0.heap.size ≤ g_1 := by have := hf.size; omega
 replace hf := hf.next hq
 clear hq hz hg
 refine tW h (asg rfl (asg rfl (kL [(1, _)] (.cons rfl .nil) (kE ?_)))); clear h a; intro a h
 refine wp_scope_straight ?_
 refine tC h (kQ (kQ (kR (fad rfl fa42_0 (s_loadB rfl hb1 rfl na40 ?_))))); clear h a; intro a h
 refine st_call h (evs_cons rfl evs_nil) co113 (checkrows_ok _ rows _ (hS.ext hf)) ?_; clear h a; rintro _ w2 ⟨rfl, hq⟩ a h
 replace hf := hf.next hq
 replace hb1 := hb1.ext hq
 clear hq
 refine tW h (asg rfl (kL [(1, _), (4, _)] (.c2 rfl rfl) (kE (kQ (kR (mv rfl (ne' rfl rfl (kL [(1, _), (4, _), (22, _)] (.c3 rfl rfl rfl) (kE ?_))))))))); clear h a; intro a h
 refine cS h rfl (fun c0=>?_) (fun c0=>?_)
 ·have hE := c0
  refine tC h (kQ (kR (mv rfl (asg rfl (asg rfl (kL [(2, _), (3, _)] (.c2 rfl rfl) (kE ?_))))))); clear h a; intro a h
  refine wp_ret (ret_then (ret_sc ?_))
  refine ret2 h Tryz.results86 rfl rfl ?_
  exact ⟨_, rfl, _, by rw [chart_bad rfl hE], hf⟩
 have hE0 : rowsE rows = 0 := Decidable.not_not.1 c0
 obtain ⟨hl31, hl2, hz, hadj2⟩ := rows_of hE0
 obtain ⟨r0, hr0k⟩ : ∃ r, rows[0]? = some r := ⟨_, List.getElem?_eq_getElem (by omega)⟩
 have hr016 := row_ok_of (hz _ _ hr0k)
 obtain ⟨RA, rc, ad, hAd, cc, hr, hrc, hrm⟩ := hS.row hr0k
 unfold maxLen at hrm
 refine tC h (kZ (kQ (kR (fad rfl fa42_0 (s_loadB rfl hb1 rfl na40 (s_idxS (p := 0) (by rw [hAd]; rfl) rfl el40 (s_loadC0 rfl (cc.fr hf (by simp)) na88 ?_))))))); clear h a; intro a h
 refine st_call h (evs_cons rfl evs_nil) co55 (cneeds_ok _ r0 _ (hr.ext hf) (by omega)) ?_; clear h a; rintro _ w3 ⟨rfl, hq⟩ a h
 replace hf := hf.next hq
 replace hb1 := hb1.ext hq
 clear hq
 obtain ⟨n0, hn0⟩ : ∃ n : Nat, (n : Int) = needsR r0 := ⟨(needsR r0).toNat, by omega⟩
 rw [← hn0] at h
 refine st_makeSlice (0 : Int) h rfl rfl el33 zv3 rfl (Nat.le_refl _) (by unfold maxLen; omega) rfl ?_; clear h a; intro gF w4 hg hF hq hz a h
 have hgF : w0.heap.size ≤ gF := by have := hf.size; omega
 have hg1F : g_1 < gF := by have := hb1.lt; omega
 replace hf := hf.next hq
 replace hb1 := hb1.ext hq
 clear hq hz hg
 refine tW h (asg rfl (kL [(1, _), (5, _)] (.c2 rfl rfl) (kE (kQ (kQ (kR (mv rfl (lnS rfl Tryz.underlying33 (mv rfl (kL [(1, _), (5, _), (31, _), (32, _)] (.c4 rfl rfl rfl rfl) (kE (kB ?_)))))))))))); clear h a; intro a h
 refine loop (ι := Nat) (fun j => [(1, .pointer (some ⟨g_1, 0, none⟩)), (5, .slice (some ⟨gF, 0, none⟩) n0 n0), (31, .int .i64 (n0 : Int)), (32, .int .i64 (j : Int))]) (fun j w' => j ≤ n0 ∧ Lw.Own Enc.i64 3 gF w' (.slice (some ⟨gF, 0, none⟩) n0 n0) (List.replicate j 1 ++ List.replicate (n0 - j) 0) ∧ Blk w' g_1 42 [.slice A rows.length c] ∧ Fr [] w0 w') (fun j => n0 - j) 0 (h.sub (.c4 rfl rfl rfl rfl)) ⟨by omega, by simpa using hF, hb1, hf⟩ ?_
 clear h a hf hb1 hF
 rintro j w5 a h ⟨hj, hF, hb1, hf⟩
 refine tC h (kQ (kR (lt' rfl rfl (kE (kQ ?_))))); clear h a; intro a h
 refine cS h rfl (fun c1=>?_) (fun c1=>?_)
 ·refine tC h (kZ (kQ (kB (kQ (kR (mv rfl (asg rfl (kL [(1, _), (5, _), (6, _), (31, _), (32, _)] (.c5 rfl rfl rfl rfl rfl) (kE (kR (mv rfl (mv rfl (s_idxS (p := j) rfl rfl el33 ?_))))))))))))); clear h a; intro a h
  refine st_storeO (i := j) (1 : Int) h rfl rfl hF (by simp; omega) rfl sz3 ?_; clear h a; intro w6 hO2 hq hz a h
  replace hb1 := hb1.fr hq (by simp; omega)
  replace hf := hf.step hq (by simp; omega)
  clear hF hq hz; have hF := hO2; clear hO2
  rw [set_one j _ (by omega)] at hF
  replace h : Ag a 97 [(1, _), (5, _), (31, _), (32, _)] := h.sub (.c4 rfl rfl rfl rfl)
  refine wpList_nil (norm_blk (norm_then ?_))
  refine tC h (kR (s_add rfl rfl (by first | exact i6 (by omega) | rfl) (mv rfl (kL [(1, _), (5, _), (31, _), (32, _)] (.c4 rfl rfl rfl rfl) ?_)))); clear h a; intro a h
  refine wnt ?_
  exact ⟨j + 1, h.sub (.c4 rfl rfl rfl rfl), ⟨by omega, hF, hb1, hf⟩, by omega⟩
 obtain rfl : n0 = j := by omega
 rw [Nat.sub_self, List.replicate_zero, List.append_nil] at hF
 refine wp_exit (exit_then (exit_then (exit_here (norm_then ?_))))
 refine tC h (kQ (kR (fad rfl fa42_0 (s_loadB rfl hb1 rfl na40 (lnS rfl Tryz.underlying40 (s_add rfl rfl (by first | exact i6 (by omega) | rfl) ?_)))))); clear h a; intro a h
 rw [show (1 : Int) + (rows.length : Int) = ((1 + rows.length : Nat) : Int) by omega] at h
 refine st_makeSlice (m := 1) (c := 1 + rows.length) ((none, 0, 0) : SV) h rfl rfl el131 zv33 rfl (by omega) (by unfold maxLen; omega) rfl ?_; clear h a; intro gL w7 hg hL hq hz a h
 have hgL : w0.heap.size ≤ gL := by have := hf.size; omega
 have hgFL : gF < gL := by have := (hF.blk gF (by simp [blks])).2; omega
 replace hf := hf.next hq
 replace hb1 := hb1.ext hq
 replace hF := hF.ext hq
 clear hq hz hg
 refine tW h (asg rfl (kL [(1, _), (5, _), (7, _)] (.c3 rfl rfl rfl) (kE (kQ (kR (mv rfl (mv rfl (s_idxS (p := 0) rfl rfl el131 ?_)))))))); clear h a; intro a h
 refine st_storeO (i := 0) ((some ⟨gF, 0, none⟩, n0, n0) : SV) h rfl rfl hL (by simp) rfl sz33 ?_; clear h a; intro w8 hO2 hq hz a h
 replace hF := hF.fr hq (by simp [blks]; omega)
 replace hb1 := hb1.fr hq (by simp; omega)
 replace hf := hf.step hq (by simp; omega)
 have hR : Rws Enc.i64 33 3 (g_1 + 1) w8 _ ([] ++ [((some ⟨gF, 0, none⟩, n0, n0), List.replicate n0 1)]) := rws_one (hO2.low (by omega)) (hF.low (by omega)) (by simp [slv, blks]; omega)
 clear hL hF hq hz hO2
 refine tW h (kL [(1, _), (7, _)] (.c2 rfl rfl) (kE (kQ (kR (asg rfl (kE (kQ ?_))))))); clear h a; intro a h
 refine wp_label (norm_then ?_)
 refine seq_cut (Cut (ι := Value) 97 (fun V => [(7, V), (8, .int .i64 (chartE rows))]) (fun V w' => Fr [] w0 w')) ?_ ?_
 ·refine tC h (kQ (kR (fad rfl fa42_0 (s_loadB rfl hb1 rfl na40 (lnS rfl Tryz.underlying40 (mv rfl (kL [(7, _), (8, _), (48, _), (49, _), (50, _)] (.c5 rfl rfl rfl rfl rfl) (kE (kB ?_))))))))); clear h a; intro a h
  refine loop (ι := LdSt) (fun z => [(7, z.OV), (8, .int .i64 0), (48, .slice A rows.length c), (49, .int .i64 (rows.length : Int)), (50, .int .i64 (z.i : Int))]) (fun z w' => z.i ≤ rows.length ∧ (∀ r, rows[z.i]? = some r → (z.ls.length : Int) = needsR r) ∧ runRows (rows.drop z.i) z.ls = chartE rows ∧ Rws Enc.i64 33 3 (g_1 + 1) w' z.OV (z.ps ++ [(z.u, z.ls)]) ∧ z.ps.length = z.i ∧ g_1 < w'.heap.size ∧ Fr [] w0 w') (fun z => rows.length - z.i) ⟨0, _, [], (some ⟨gF, 0, none⟩, n0, n0), List.replicate n0 1⟩ (h.sub (.c5 rfl rfl rfl rfl rfl)) ⟨Nat.zero_le _, fun r hr => by rw [hr0k] at hr; cases hr; simpa using hn0, by rw [chart_run hE0, startL, List.getD, hr0k, List.drop_zero]; show runRows rows (List.replicate n0 1) = runRows rows (List.replicate (needsR r0).toNat 1); rw [show (needsR r0).toNat = n0 by omega], hR, rfl, by have := (hR.out.blk gL (by simp [blks])).2; omega, hf⟩ ?_
  clear h a hf hR hb1
  rintro ⟨i, OV, ps, u, ls⟩ w9 a h ⟨hi, hln, hrs, hR, hpl, hgz, hf⟩
  simp only at hi hln hrs hR hpl h
  obtain ⟨uA, un, uc⟩ := u
  obtain ⟨e1, e2⟩ := Own.lens (hR.ins _ (show ((uA, un, uc), ls) ∈ ps ++ [((uA, un, uc), ls)] by simp))
  simp only at e1 e2
  subst e1
  refine tC h (kQ (kR (lt' rfl rfl (kE (kQ ?_))))); clear h a; intro a h
  refine cS h rfl (fun c2=>?_) (fun c2=>?_)
  ·obtain ⟨r, hrk⟩ : ∃ r, rows[i]? = some r := ⟨_, List.getElem?_eq_getElem (by omega)⟩
   have hr16 := row_ok_of (hz _ _ hrk)
   have hls := hln r hrk
   obtain ⟨RA, rc, ad, hAd, cc, hr, hrc, hrm⟩ := hS.row hrk
   unfold maxLen at hrm
   refine tC h (kZ (kQ (kB (kQ (kR (mv rfl (s_idxS (p := i) (by rw [hAd]; rfl) rfl el40 (s_loadC0 rfl (cc.fr hf (by simp)) na88 (asg rfl (asg rfl (kL [(7, _), (8, _), (9, _), (10, _), (48, _), (49, _), (50, _)] (.c7 rfl rfl rfl rfl rfl rfl rfl) (kE (kQ (kR (mv rfl (mv rfl ?_)))))))))))))))); clear h a; intro a h
   refine st_idx (p := i) h rfl rfl hR.out.sl el131 (by omega) (top_get hpl.symm) rfl ?_; clear h a; intro la lc a h
   refine tW h (s_loadC0 (v := .slice uA ls.length uc) rfl lc na33 (asg rfl (kL [(7, _), (8, _), (10, _), (11, _), (48, _), (49, _), (50, _)] (.c7 rfl rfl rfl rfl rfl rfl rfl) (kE (kQ (kR (mv rfl ?_))))))); clear h a; intro a h
   refine st_call h (evs_cons rfl evs_nil) co56 (cmakes_ok _ r _ (hr.ext hf) (by omega)) ?_; clear h a; rintro _ w10 ⟨rfl, hq⟩ a h
   replace hf := hf.next hq
   replace hR := hR.ext hq
   replace hgz := Nat.lt_of_lt_of_le hgz hq.size
   clear hq
   obtain ⟨m0, hm0⟩ : ∃ n : Nat, (n : Int) = makesR r := ⟨(makesR r).toNat, by omega⟩
   rw [← hm0] at h
   have hOb := hR.out.blk
   have hub := (hR.ins _ (show ((uA, ls.length, uc), ls) ∈ ps ++ [((uA, ls.length, uc), ls)] by simp)).blk
   refine st_makeSlice (m := 0) (c := m0) (0 : Int) h rfl rfl el33 zv3 rfl (by omega) (by unfold maxLen; omega) rfl ?_; clear h a; intro gI w11 hg hX hq hz a h
   have hgI : w0.heap.size ≤ gI := by have := hf.size; omega
   have hOI : ∀ k ∈ blks OV, k < gI := fun k hk => by have := (hOb k hk).2; omega
   have hBI : ∀ k ∈ blks (slv (uA, ls.length, uc)), k < gI := fun k hk => by have := (hub k hk).2; omega
   have hg1I : g_1 + 1 ≤ gI := by omega
   have hRA : RAll gI OV (ps ++ [((uA, ls.length, uc), ls)]) := by rw [hg]; exact hR.bnd
   replace hf := hf.next hq
   replace hR := hR.ext hq
   replace hgz := Nat.lt_of_lt_of_le hgz hq.size
   have hgs : gI ≤ w11.heap.size := by omega
   have hB : Sl Enc.i64 w11 (.slice uA ls.length uc) ls := (hR.ins _ (show ((uA, ls.length, uc), ls) ∈ ps ++ [((uA, ls.length, uc), ls)] by simp)).sl
   clear hq hz hg hOb hub
   refine tW h (asg rfl (kL [(7, _), (8, _), (10, _), (11, _), (12, _), (48, _), (49, _), (50, _)] (.c8 rfl rfl rfl rfl rfl rfl rfl rfl) (kE (kQ (kQ (kR (mv rfl (lnS rfl Tryz.underlying88 (mv rfl (kL [(7, _), (8, _), (11, _), (12, _), (48, _), (49, _), (50, _), (62, _), (63, _), (64, _)] (.d8 rfl rfl rfl rfl rfl rfl rfl rfl (.c2 rfl rfl)) (kE (kB ?_)))))))))))); clear h a; intro a h
   refine loop (ι := LeSt) (fun z => [(7, OV), (8, .int .i64 0), (11, z.B), (12, z.X), (48, .slice A rows.length c), (49, .int .i64 (rows.length : Int)), (50, .int .i64 (i : Int)), (62, .slice RA r.length rc), (63, .int .i64 (r.length : Int)), (64, .int .i64 (z.k : Int))]) (fun z w' => z.k ≤ r.length ∧ z.at_ ≤ ls.length ∧ ((ls.drop z.at_).length : Int) = needsR (r.drop z.k) ∧ runRow (r.drop z.k) (ls.drop z.at_) z.acc = runRow r ls [] ∧ z.acc.length ≤ 4 * z.k ∧ Lw.Own Enc.i64 3 gI w' z.X z.acc ∧ Sl Enc.i64 w' z.B (ls.drop z.at_) ∧ (∀ k ∈ blks z.B, k < gI) ∧ Rws Enc.i64 33 3 (g_1 + 1) w' OV (ps ++ [((uA, ls.length, uc), ls)]) ∧ gI ≤ w'.heap.size ∧ Fr [] w0 w') (fun z => r.length - z.k) ⟨0, 0, [], _, _⟩ (h.sub (.d8 rfl rfl rfl rfl rfl rfl rfl rfl (.c2 rfl rfl))) ⟨Nat.zero_le _, Nat.zero_le _, by simpa using hln r hrk, rfl, Nat.le_refl _, hX, hB, hBI, hR, hgs, hf⟩ ?_
   clear h a hf hX hB hBI hR hgs
   rintro ⟨k, at_, acc, X, B⟩ w12 a h ⟨hk, hat, hdl, hrr, hal, hX, hB, hBI, hR, hgs, hf⟩
   simp only at hk hat hdl hrr hal hX hB hBI h
   obtain ⟨BA, bc, rfl, hbc⟩ := hB.form
   obtain ⟨-, -, hbM, -⟩ := Sl.open_ hB
   unfold maxLen at hbM
   refine tC h (kQ (kR (lt' rfl rfl (kE (kQ ?_))))); clear h a; intro a h
   refine cS h rfl (fun c3=>?_) (fun c3=>?_)
   ·obtain ⟨s, hsk⟩ : ∃ s, r[k]? = some s := ⟨_, List.getElem?_eq_getElem (by omega)⟩
    obtain ⟨-, -, -, hE⟩ := Sl.open_ hr
    obtain ⟨sa, hsa, csx⟩ := hE k s hsk
    have hnd := needs_drop hsk
    have hnp := needs_pos (r.drop (k + 1))
    have hnr := needs_rng s
    have hdl2 : ((ls.length - at_ : Nat) : Int) = needsR (r.drop k) := by rw [← hdl, List.length_drop]
    refine tC h (kZ (kQ (kB (kQ (kR (s_idxS (p := k) (by rw [hsa]; rfl) rfl el88 (s_loadA rfl (csx.fr hf (by simp)) ag91 ?_))))))); clear h a; intro a h
    refine st_alloc h zv91 rfl ?_; clear h a; intro w13 hb14 hq hz a h
    obtain ⟨g_14, hg⟩ : ∃ g, g = w12.heap.size := ⟨_, rfl⟩; rw [← hg] at hb14 h hz
    have hl14 : w0.heap.size ≤ g_14 := by have := hf.size; omega
    have hlt_hX_14 : ∀ k ∈ blks X, k < g_14 := fun k hk => by have := (hX.blk k hk).2; omega
    have hl_hgs_14 : gI ≤ g_14 := by omega
    replace hf := hf.next hq
    replace hX := hX.ext hq
    replace hB := hB.ext hq
    replace hR := hR.up hq hRA (by simp<;>omega)
    replace hgs := Nat.le_trans hgs hq.size
    clear hq hz hg
    refine st_storeBA h rfl rfl hb14 rfl sz91 ?_; clear h a; intro w14 hbn hq hz a h
    replace hf := hf.sp hq
    replace hX := hX.fr hq (dlt hlt_hX_14 (by omega))
    replace hB := hB.fr hq (by intro k hk hb; simp at hk; have := hBI k hb; omega)
    replace hR := hR.up hq hRA (by simp<;>omega)
    replace hgs := Nat.le_trans hgs hq.size
    clear hb14 hq hz; have hb14 : Blk w14 g_14 _ [_, _, _, _, _] := hbn; clear hbn
    refine tW h (kL [(7, _), (8, _), (11, _), (12, _), (14, _), (48, _), (49, _), (50, _), (62, _), (63, _), (64, _)] (.d8 rfl rfl rfl rfl rfl rfl rfl rfl (.c3 rfl rfl rfl)) (kE (kQ (kR (s_loadBA rfl hb14 ag91 ?_))))); clear h a; intro a h
    refine st_call h (evs_cons rfl evs_nil) co88 (needs_ok s _) ?_; clear h a; rintro _ w15 ⟨rfl, hq⟩ a h
    replace hf := hf.next hq
    replace hX := hX.ext hq
    replace hB := hB.ext hq
    replace hR := hR.up hq hRA (by simp<;>omega)
    replace hgs := Nat.le_trans hgs hq.size
    replace hb14 := hb14.ext hq
    clear hq
    refine tW h (asg rfl (kL [(7, _), (8, _), (11, _), (12, _), (14, _), (15, _), (48, _), (49, _), (50, _), (62, _), (63, _), (64, _)] (.d8 rfl rfl rfl rfl rfl rfl rfl rfl (.c4 rfl rfl rfl rfl)) (kE (kQ ?_)))); clear h a; intro a h
    refine region_held (fun wb w' => Fr [] wb w') hmix ?_; intro w16 hq
    replace hf := hf.next hq
    replace hX := hX.ext hq
    replace hB := hB.ext hq
    replace hR := hR.up hq hRA (by simp<;>omega)
    replace hgs := Nat.le_trans hgs hq.size
    replace hb14 := hb14.ext hq
    clear hq; have hC : Fr [] w16 w16 := Fr.refl _ _
    have hX_b := hX
    have hB_b := hB
    have hb14_b := hb14
    refine hd_loadBA 0 hC h wn rfl (fun _ hw => hb14_b.ext hw) ag91 rfl ?_; clear h a; intro a h
    refine hd_move 1 hC h wn rfl rfl ?_; clear h a; intro a h
    refine hd_move 2 hC h wn rfl rfl ?_; clear h a; intro a h
    refine hd_sl_h 3 hC (p := (needsS s).toNat) h wn rfl rfl el33 (by omega) (by omega) rfl rfl rfl ?_; clear h a; intro a h
    refine hd_one 4 rfl ?_
    have hpt := hB.take rfl (m := (needsS s).toNat) (by omega) (B := BA) (c' := bc) (by omega) (by unfold maxLen; omega) (fun _ => rfl)
    refine st_call h (evs_cons rfl (evs_cons rfl evs_nil)) co114 (loads_ok s _ _ _ hpt) ?_; clear h a; rintro _ w17 ⟨rv, rfl, hrv, hq⟩ a h
    replace hf := hf.next hq
    replace hX := hX.ext hq
    replace hB := hB.ext hq
    replace hR := hR.up hq hRA (by simp<;>omega)
    replace hgs := Nat.le_trans hgs hq.size
    replace hb14 := hb14.ext hq
    replace hC := hC.next hq
    clear hq hpt
    refine hd_next hC ?_
    refine hd_move 5 hC h wn rfl rfl ?_; clear h a; intro a h
    refine hd_extract 6 hC h wn rfl rfl rfl ?_; clear h a; intro a h
    refine hd_extract 7 hC h wn rfl rfl rfl ?_; clear h a; intro a h
    refine hd_one 8 rfl ?_
    refine st_assign h rfl ?_; clear h a; intro a h
    refine hd_next hC ?_
    refine hd_one 9 rfl ?_
    refine st_assign h rfl ?_; clear h a; intro a h
    refine hd_next hC ?_
    refine hd_end ?_
    clear hC hX_b hB_b hb14_b
    replace h : Ag a 97 [(7, _), (8, _), (11, _), (12, _), (15, _), (16, _), (17, _), (48, _), (49, _), (50, _), (62, _), (63, _), (64, _)] := h.sub (.d8 rfl rfl rfl rfl rfl rfl rfl rfl (.c5 rfl rfl rfl rfl rfl))
    refine (norm_then ?_)
    refine tC h (kQ (kQ (kR (mv rfl (ne' rfl rfl (kL [(7, _), (8, _), (11, _), (12, _), (15, _), (16, _), (17, _), (48, _), (49, _), (50, _), (62, _), (63, _), (64, _), (79, _)] (.d8 rfl rfl rfl rfl rfl rfl rfl rfl (.c6 rfl rfl rfl rfl rfl rfl)) (kE ?_))))))); clear h a; intro a h
    refine cS h rfl (fun c4=>?_) (fun c4=>?_)
    ·have hbad := rs_bad hrs hrk (by rw [rr_bad hrr hsk c4]; exact c4)
     rw [rr_bad hrr hsk c4] at hbad
     refine tC h (kQ (kR (mv rfl (asg rfl (kL [(7, _), (8, _)] (.c2 rfl rfl) (kE ?_)))))); clear h a; intro a h
     refine wp_exit (exit_then (exit_out rfl (exit_then (exit_then (exit_out rfl (exit_then (exit_out rfl (exit_then (exit_then (exit_here (norm_then ?_)))))))))))
     exact ⟨_, h.sub (.c2 rfl (by first | (rw [hend]; rfl) | (rw [hbad]; rfl))), hf⟩
    clear hb14
    have h0' : ¬ (loadsS s ((ls.drop at_).take (needsS s).toNat)).2 ≠ 0 := c4
    have hll := loads_len s ((ls.drop at_).take (needsS s).toNat)
    refine tC h (kZ (kQ (kR (mv rfl (mv rfl (s_sl_l (p := (needsS s).toNat) rfl rfl el33 (by omega) (by omega) rfl rfl ?_)))))); clear h a; intro a h
    replace hB := hB.drop rfl (m := (needsS s).toNat) (by omega) (B := if bc = (needsS s).toNat then BA else BA.map (·.add ((needsS s).toNat * Enc.i64.sz))) (c' := bc - (needsS s).toNat) (by omega) (by unfold maxLen; omega) (fun hlt => by rw [if_neg (by omega)])
    rw [List.drop_drop] at hB
    replace hBI : ∀ k ∈ blks (.slice (if bc = (needsS s).toNat then BA else BA.map (·.add ((needsS s).toNat * Enc.i64.sz))) ((ls.drop at_).length - (needsS s).toNat) (bc - (needsS s).toNat)), k < gI := by
     intro k hk; split at hk; exact hBI k (by rw [blks_any BA _ _ ((ls.drop at_).length - (needsS s).toNat) (bc - (needsS s).toNat)]; exact hk); exact hBI k (by rw [← blks_add BA ((needsS s).toNat * Enc.i64.sz) ((ls.drop at_).length - (needsS s).toNat) (bc - (needsS s).toNat)]; exact hk)
    refine tW h (asg rfl (kL [(7, _), (8, _), (11, _), (12, _), (16, _), (48, _), (49, _), (50, _), (62, _), (63, _), (64, _)] (.d8 rfl rfl rfl rfl rfl rfl rfl rfl (.c3 rfl rfl rfl)) (kE (kR (mv rfl (mv rfl ?_)))))); clear h a; intro a h
    have hbO := hX.blk
    refine st_append h rfl rfl hX hrv.sl el33 (by unfold maxLen; omega) (by omega) (by omega) ?_; clear h a; intro X3 w18 ho3 hq hx3 a h
    replace hB := hB.fr hq (fun k hk hb => by have := (hbO k hk).1; have := hBI k hb; omega)
    replace hR := hR.up hq hRA (fun k hk => (hbO k hk).1)
    replace hf := hf.step hq (fun k hk hlt => absurd (hbO k hk).1 (by omega))
    replace hgs := Nat.le_trans hgs hq.size
    clear hrv
    clear hX hq hx3 hbO; have hX := ho3; clear ho3
    refine tW h (asg rfl (kL [(7, _), (8, _), (11, _), (12, _), (48, _), (49, _), (50, _), (62, _), (63, _), (64, _)] (.d8 rfl rfl rfl rfl rfl rfl rfl rfl (.c2 rfl rfl)) ?_)); clear h a; intro a h
    refine wpList_nil (norm_blk (norm_then ?_))
    refine tC h (kR (s_add rfl rfl (by first | exact i6 (by omega) | rfl) (mv rfl (kL [(7, _), (8, _), (11, _), (12, _), (48, _), (49, _), (50, _), (62, _), (63, _), (64, _)] (.d8 rfl rfl rfl rfl rfl rfl rfl rfl (.c2 rfl rfl)) ?_)))); clear h a; intro a h
    refine wnt ?_
    exact ⟨⟨k + 1, at_ + (needsS s).toNat, acc ++ (loadsS s ((ls.drop at_).take (needsS s).toNat)).1, _, _⟩, h.sub (.d8 rfl rfl (by rw [List.length_drop]; rfl) rfl rfl rfl rfl rfl (.c2 rfl rfl)), ⟨by simp only; omega, by simp only; omega, by simp only [List.length_drop] at hdl ⊢; omega, rr_next hrr hsk h0', by simp only [List.length_append]; omega, hX, hB, hBI, hR, hgs, hf⟩, by simp only; omega⟩
   obtain rfl : k = r.length := by omega
   have hrow := rr_end hrr
   have hrsn := rs_next hrs hrk hrow
   have hal2 := run_next_len hrow
   have hlnn : ∀ q, rows[i + 1]? = some q → (acc.length : Int) = needsR q := fun q hq => by rw [hadj2 i r q hrk hq]; exact hal2
   obtain ⟨XA, xc, rfl, hxc⟩ := hX.sl.form
   refine wp_exit (exit_then (exit_then (exit_here (norm_then ?_))))
   refine tC h (kR (mv rfl (mv rfl ?_))); clear h a; intro a h
   refine st_bslice [((XA, acc.length, xc) : SV)] h (evs_cons rfl evs_nil) rfl rfl rfl el131 (by decide) ?_; clear h a; intro gV w19 hg hoV hq hz a h
   replace hf := hf.next hq
   replace hX := hX.ext hq
   replace hB := hB.ext hq
   replace hR := hR.up hq hRA (by simp<;>omega)
   replace hgs := Nat.le_trans hgs hq.size
   clear hq hz hg
   have hbO := hR.out.blk
   refine st_append h rfl rfl hR.out hoV.sl el131 (by unfold maxLen; simp; omega) (by simp; omega) (by omega) ?_; clear h a; intro O3 w20 ho3 hq hx3 a h
   replace hR := hR.push (u := (XA, acc.length, xc)) (hX.low (by omega)) (fun k hk hk2 => by have := (hX.blk k hk).1; have := hOI k hk2; omega) ho3 hq hx3
   replace hf := hf.step hq (fun k hk hlt => absurd (hbO k hk).1 (by omega))
   replace hgs := Nat.le_trans hgs hq.size
   clear hq hx3 hoV hbO ho3 hX
   refine tW h (asg rfl (kL [(7, _), (8, _), (48, _), (49, _), (50, _)] (.c5 rfl rfl rfl rfl rfl) ?_)); clear h a; intro a h
   refine wpList_nil (norm_blk (norm_then ?_))
   refine tC h (kR (s_add rfl rfl (by first | exact i6 (by omega) | rfl) (mv rfl (kL [(7, _), (8, _), (48, _), (49, _), (50, _)] (.c5 rfl rfl rfl rfl rfl) ?_)))); clear h a; intro a h
   refine wnt ?_
   exact ⟨⟨i + 1, O3, ps ++ [((uA, ls.length, uc), ls)], (XA, acc.length, xc), acc⟩, h.sub (.c5 rfl rfl rfl rfl rfl), ⟨by simp only; omega, hlnn, hrsn, hR, by simp [hpl], by omega, hf⟩, by simp only; omega⟩
  obtain rfl : i = rows.length := by omega
  have hend := rs_end hrs
  refine wp_exit (exit_then (exit_then (exit_here (norm_then ?_))))
  exact ⟨_, h.sub (.c2 rfl (by first | (rw [hend]; rfl) | (rw [hbad]; rfl))), hf⟩
 clear h a hf
 rintro a w21 ⟨V, h, hf⟩
 refine tC h (kQ (kQ (kR (mv rfl (ne' rfl rfl (kL [(7, _), (8, _), (94, _)] (.c3 rfl rfl rfl) (kE ?_))))))); clear h a; intro a h
 refine cS h rfl (fun c5=>?_) (fun c5=>?_)
 ·refine tC h (kQ (kR (mv rfl (asg rfl (asg rfl (kL [(2, _), (3, _)] (.c2 rfl rfl) (kE ?_))))))); clear h a; intro a h
  refine wp_ret (ret_then (ret_sc ?_))
  refine ret2 h Tryz.results86 rfl rfl ?_
  exact ⟨_, rfl, _, rfl, hf⟩
 refine tC h (kZ (kQ (kR (mv rfl (asg rfl (asg rfl (kL [(2, _), (3, _)] (.c2 rfl rfl) (kE ?_)))))))); clear h a; intro a h
 refine wp_ret (ret_sc ?_)
 refine ret2 h Tryz.results86 rfl rfl ?_
 exact ⟨_, rfl, _, by rw [show chartE rows = 0 from Decidable.not_not.1 c5], hf⟩
theorem check_chart_ok (u : Value) (rows : List (List Stitch)) (w0 : World) (hS : Sll encSt w0 u rows) : Rets Tryz.prog 53 #[.agg #[u]] w0 fun v w' => v = .int .i64 (chartE rows) ∧ Fr [] w0 w' := by
 obtain ⟨A, c, rfl, hcp, hM⟩ := hS.form
 unfold maxLen at hM
 refine enter [(0, .agg #[.slice A rows.length c])] Tryz.func53 rfl Tryz.ntmps53 rfl (.cons rfl .nil) ?_
 have hf := Fr.refl [] w0
 intro a h
 refine tC h (kQ (kR ?_)); clear h a; intro a h
 refine st_box h rfl rfl ?_; clear h a; intro w1 hb1 hq hz a h
 obtain ⟨g_1, hg⟩ : ∃ g, g = w0.heap.size := ⟨_, rfl⟩; rw [← hg] at hb1 h hz
 have hl1 : w0.heap.size ≤ g_1 := by have := hf.size; omega
 replace hf := hf.next hq
 clear hq hz hg
 refine tW h (asg rfl (kL [(1, _)] (.cons rfl .nil) (kE (kQ (kR (s_loadBA rfl hb1 ag42 ?_)))))); clear h a; intro a h
 refine st_call h (evs_cons rfl evs_nil) co86 (chart_ok _ rows _ (hS.ext hf)) ?_; clear h a; rintro _ w2 ⟨X, rfl, hq⟩ a h
 replace hf := hf.next hq
 replace hb1 := hb1.ext hq
 clear hq
 refine tW h (mv rfl (xt rfl rfl (xt rfl rfl (asg rfl (asg rfl (kL [(4, _)] (.cons rfl .nil) (kE (kQ (kR (mv rfl (asg rfl (kL [(2, _)] (.cons rfl .nil) (kE ?_))))))))))))); clear h a; intro a h
 refine wp_ret (ret1 h Tryz.results53 rfl ?_)
 exact ⟨_, rfl, rfl, hf⟩
end Go.Proofs.YthehggmdcmpjeaaGreatDoor
namespace Go.Lw
open Go.RowKit
section
variable {P : Program} {a : Act} {n : Nat} {L : List (Nat × Value)} {ds : List Nat} {w w' : World} {Q : Exit → Act → World → Prop} {C : World → Prop} {Qa : Act → Prop} {ops : Array Oper} {rest : List Oper} {d d2 : Nat} {ty ty2 : TypeId} {pos pos2 : String} {after after2 : Array Edge} {v u : Value} {x y z : Operand} {t T : TypeId} {k k' k'' : IntKind} {i j : Int}
theorem Sl.at {α : Type} {E : Enc α} {ys : List α} (hs : Sl E w v ys) {p : Nat} (hp : p < ys.length) : ∃ ad c, v = .slice (some ad) ys.length c ∧ ∀ W, Sl E W v ys → Cells W (ad.add (p * E.sz)) (E.enc ys[p]) := by
 obtain ⟨A, c, rfl, h1, h2, h3⟩ := hs
 obtain ⟨ad, rfl, _⟩ := h3 p _ (List.getElem?_eq_getElem hp)
 refine ⟨ad, c, rfl, fun W hW => ?_⟩
 obtain ⟨A', c', e, _, _, h3'⟩ := hW
 cases e
 obtain ⟨ad', e, hc⟩ := h3' p _ (List.getElem?_eq_getElem hp)
 cases e; exact hc
theorem getD_at {α : Type} (ys : List α) (p : Nat) (hp : p < ys.length) (z : α) : ys[p] = ys.getD p z := by simp [List.getD, hp]
theorem st_ixs {α : Type} {E : Enc α} {bytes base : Nat} {ys : List α} {p : Nat} (e : α) (h : AgM ds a n L) (hx : ev L x = some v) (ho : Own E T base w v ys) (hy : ev L y = some (.int k i)) (hz : ev L z = some u) (hzd : z ≠ .tmp d) (he : ElemOf P t T E bytes) (hsz : SizeOf P T E.sz) (hc : u.cells = (E.enc e).toArray) (h0 : 0 ≤ i) (h1 : i < ys.length) (hp : i.toNat = p) (hf : look L d = none) (hn : Nat.blt d n = true)
    (q : ∀ w', Own E T base w' v (ys.set p e) → Fr (blks v) w w' → w'.heap.size = w.heap.size → ∀ a, AgM ds a n L → wpList P ops Q rest a w') : wpList P ops Q (⟨some d, .indexAddr t x y, ty, pos, after, none⟩ :: ⟨none, .store T (.tmp d) z, ty2, pos2, after2, none⟩ :: rest) a w := by
  subst hp
  have hlt : i.toNat < ys.length := by omega
  rcases ho with ⟨rfl, rfl⟩ | ⟨g, cap, cur, rfl, r⟩
  · simp at hlt
  have ho : Own E T base w (.slice (some ⟨g, 0, none⟩) ys.length cap) ys := .inr ⟨g, cap, cur, rfl, r⟩
  refine st_idxS h hx hy he h0 h1 rfl hn fun a h => ?_
  have hz' : ev ((d, Value.pointer (some ((⟨g, 0, none⟩ : Addr).add (i.toNat * E.sz)))) :: L) z = some u := by
    cases z with
    | tmp s =>
      have : ¬ d = s := fun e => hzd (by rw [e])
      simp only [ev, look, beq_no this, cond_false]; exact hz
    | _ => exact hz
  refine st_storeO e h (by simp [ev, look]) hz' ho hlt hc hsz fun w' h1 h2 h3 a h => ?_
  exact q w' h1 h2 h3 a ⟨h.dfr, h.size, fun s u hu => h.at_ s u (by
    simp only [look]
    by_cases e : d = s
    · subst e; rw [hf] at hu; cases hu
    · rw [beq_no e]; exact hu)⟩
theorem s_ixs {α : Type} {E : Enc α} {bytes base : Nat} {ys : List α} {p : Nat} (e : α) (hx : ev L x = some v) (ho : Own E T base w v ys) (hy : ev L y = some (.int k i)) (hz : ev L z = some u) (hzd : z ≠ .tmp d) (he : ElemOf P t T E bytes) (hsz : SizeOf P T E.sz) (hc : u.cells = (E.enc e).toArray) (h1 : i < ys.length) (hf : look L d = none) (q : ∀ w', Own E T base w' v (ys.set p e) → Fr (blks v) w w' → w'.heap.size = w.heap.size → WL P ops Q rest n ds w' L) (h0 : 0 ≤ i := by omega) (hp : i.toNat = p := by omega) (hn : Nat.blt d n = true := by exact rfl) : WL P ops Q (⟨some d, .indexAddr t x y, ty, pos, after, none⟩ :: ⟨none, .store T (.tmp d) z, ty2, pos2, after2, none⟩ :: rest) n ds w L := fun a h => st_ixs e h hx ho hy hz hzd he hsz hc h0 h1 hp hf hn q -- short
theorem Sl.at' {α : Type} {E : Enc α} {ys : List α} (hs : Sl E w v ys) {p : Nat} (hp : p < ys.length) (y0 : α) : ∃ ad c, v = .slice (some ad) ys.length c ∧ ∀ W, Sl E W v ys → Cells W (ad.add (p * E.sz)) (E.enc (ys.getD p y0)) := by
 obtain ⟨ad, c, h1, h2⟩ := hs.at hp
 exact ⟨ad, c, h1, by rw [← getD_at ys p hp y0]; exact h2⟩
theorem st_idxL {α : Type} {E : Enc α} {bytes : Nat} {ys : List α} {p : Nat} (y0 : α) (h : AgM ds a n L) (hx : ev L x = some v) (hs : Sl E w' v ys) (hy : ev L y = some (.int k i)) (he : ElemOf P t T E bytes) (h0 : 0 ≤ i) (h1 : i < ys.length) (hp : i.toNat = p) (hn : Nat.blt d n = true)
    (q : ∀ ad, (∀ W, Sl E W v ys → Cells W ad (E.enc (ys.getD p y0))) → ∀ a, AgM ds a n ((d, .pointer (some ad)) :: L) → wpList P ops Q rest a w) : wpList P ops Q (⟨some d, .indexAddr t x y, ty, pos, after, none⟩ :: rest) a w := by
  subst hp
  obtain ⟨ad, c, rfl, hc⟩ := hs.at' (p := i.toNat) (by omega) y0
  exact st_idxS h hx hy he h0 h1 rfl hn (q _ hc)
theorem s_idxL {α : Type} {E : Enc α} {bytes : Nat} {ys : List α} {p : Nat} (y0 : α) (hx : ev L x = some v) (hs : Sl E w' v ys) (hy : ev L y = some (.int k i)) (he : ElemOf P t T E bytes) (hp : i.toNat = p) (q : ∀ ad, (∀ W, Sl E W v ys → Cells W ad (E.enc (ys.getD p y0))) → WL P ops Q rest n ds w ((d, .pointer (some ad)) :: L)) (h0 : 0 ≤ i := by omega) (h1 : i < ys.length := by omega) (hn : Nat.blt d n = true := by exact rfl) : WL P ops Q (⟨some d, .indexAddr t x y, ty, pos, after, none⟩ :: rest) n ds w L := fun a h => st_idxL y0 h hx hs hy he h0 h1 hp hn q -- short
theorem qt_idxL {α : Type} {E : Enc α} {bytes : Nat} {ys : List α} {p : Nat} (y0 : α) (h : AgM ds a n L) (hx : ev L x = some v) (hs : Sl E w' v ys) (hy : ev L y = some (.int k i)) (he : ElemOf P t T E bytes) (h0 : 0 ≤ i) (h1 : i < ys.length) (hp : i.toNat = p) (hn : Nat.blt d n = true)
    (q : ∀ ad, (∀ W, Sl E W v ys → Cells W ad (E.enc (ys.getD p y0))) → ∀ a, AgM ds a n ((d, .pointer (some ad)) :: L) → wpQuiet P ops C Qa rest a) : wpQuiet P ops C Qa (⟨some d, .indexAddr t x y, ty, pos, after, none⟩ :: rest) a := by
  subst hp
  obtain ⟨ad, c, rfl, hc⟩ := hs.at' (p := i.toNat) (by omega) y0
  exact qt_idxS h hx hy he h0 h1 rfl hn (q _ hc)
theorem hd_idxL {G : Option (Nat × Bool)} {K : Act → World → Prop} {fu : Nat} {listed : Array Bool} {pq : Option Nat} {α : Type} {E : Enc α} {bytes : Nat} {ys : List α} {p : Nat} (y0 : α) (ix : Nat) (hC : C w) (h : AgM ds a n L) (hG : Wd ops n L G) (hx : ev L x = some v) (hs : Sl E w' v ys) (hy : ev L y = some (.int k i)) (he : ElemOf P t T E bytes) (hix : ops[ix]? = some ⟨some d, .indexAddr t x y, ty, pos, after, G⟩) (q : ∀ ad, (∀ W, Sl E W v ys → Cells W ad (E.enc (ys.getD p y0))) → ∀ a, AgM ds a n ((d, .pointer (some ad)) :: L) → wpAnyP pq P ops (NormEnd K) C fu (listed.setIfInBounds ix true) a w) (hsel : Region.noSelect ops = true := by kernel_rfl) (hfr : Fre pq ops listed ix = true := by kernel_rfl) (hre : (Region.ready .any ops listed).contains ix = true := by kernel_rfl) (h0 : 0 ≤ i := by omega) (h1 : i < ys.length := by omega) (hp : i.toNat = p := by omega) (hn : Nat.blt d n = true := by exact rfl) : wpAnyP pq P ops (NormEnd K) C (fu + 1) listed a w := by
  subst hp
  obtain ⟨ad, c, rfl, hc⟩ := hs.at' (p := i.toNat) (by omega) y0
  exact hd_idxS ix hsel hfr hre hC h hG hx hy he h0 h1 rfl hix hn (q _ hc)
theorem hd_loadC0 {G : Option (Nat × Bool)} {K : Act → World → Prop} {fu : Nat} {listed : Array Bool} {pq : Option Nat} {ad : Addr} (ix : Nat) (hC : C w) (h : AgM ds a n L) (hG : Wd ops n L G) (hx : ev L x = some (.pointer (some ad))) (hc : ∀ w, C w → Cells w ad [v]) (hg : NotAgg P t) (hix : ops[ix]? = some ⟨some d, .load t x, ty, pos, after, G⟩) (q : ∀ a, AgM ds a n ((d, v) :: L) → wpAnyP pq P ops (NormEnd K) C fu (listed.setIfInBounds ix true) a w) (hsel : Region.noSelect ops = true := by kernel_rfl) (hfr : Fre pq ops listed ix = true := by kernel_rfl) (hre : (Region.ready .any ops listed).contains ix = true := by kernel_rfl) (hn : Nat.blt d n = true := by exact rfl) : wpAnyP pq P ops (NormEnd K) C (fu + 1) listed a w :=
  hd_load ix hsel hfr hre hC h hG hx (fun W hW => by have := hc W hW 0 v rfl; rwa [Addr.add_zero'] at this) hg hix hn q
theorem st_fad2 {ad : Addr} {f off o1 : Nat} (h : AgM ds a n L) (hx : ev L x = some (.pointer (some (ad.add o1)))) (hf : FieldAt P t f off) (hn : Nat.blt d n = true) (q : ∀ a, AgM ds a n ((d, .pointer (some (ad.add (o1 + off)))) :: L) → wpList P ops Q rest a w) : wpList P ops Q (⟨some d, .fieldAddr t x f, ty, pos, after, none⟩ :: rest) a w :=
 st_fieldAddr h hx hf hn (by rw [add_add]; exact q)
theorem s_fad2 {ad : Addr} {f off o1 : Nat} (hx : ev L x = some (.pointer (some (ad.add o1)))) (hf : FieldAt P t f off) (q : WL P ops Q rest n ds w ((d, .pointer (some (ad.add (o1 + off)))) :: L)) (hn : Nat.blt d n = true := by exact rfl) : WL P ops Q (⟨some d, .fieldAddr t x f, ty, pos, after, none⟩ :: rest) n ds w L := fun a h => st_fad2 h hx hf hn q -- short
theorem hd_fad2 {G : Option (Nat × Bool)} {K : Act → World → Prop} {fu : Nat} {listed : Array Bool} {pq : Option Nat} {ad : Addr} {f off o1 : Nat} (ix : Nat) (hC : C w) (h : AgM ds a n L) (hG : Wd ops n L G) (hx : ev L x = some (.pointer (some (ad.add o1)))) (hf : FieldAt P t f off) (hix : ops[ix]? = some ⟨some d, .fieldAddr t x f, ty, pos, after, G⟩) (hn : Nat.blt d n = true) (q : ∀ a, AgM ds a n ((d, .pointer (some (ad.add (o1 + off)))) :: L) → wpAnyP pq P ops (NormEnd K) C fu (listed.setIfInBounds ix true) a w) (hsel : Region.noSelect ops = true := by kernel_rfl) (hfr : Fre pq ops listed ix = true := by kernel_rfl) (hre : (Region.ready .any ops listed).contains ix = true := by kernel_rfl) : wpAnyP pq P ops (NormEnd K) C (fu + 1) listed a w :=
  hd_fieldAddr ix hC h hG hx hf hix (by rw [add_add]; exact q) (hsel := hsel) (hfr := hfr) (hre := hre) (hn := hn)
theorem Blk.part {w : World} {g T off : Nat} {cs vs : List Value} (hb : Blk w g T cs) (hv : (cs.drop off).take vs.length = vs) : Cells w ((⟨g, 0, none⟩ : Addr).add off) vs := fun j u hu => by
 rw [← hv] at hu
 have hj : (cs.drop off)[j]? = some u := by
  rw [List.getElem?_take] at hu; split at hu
  ·exact hu
  cases hu
 rw [List.getElem?_drop] at hj
 rw [add_add]; exact hb.cellAdd hj
theorem hd_loadBP {G : Option (Nat × Bool)} {K : Act → World → Prop} {fu : Nat} {listed : Array Bool} {pq : Option Nat} {g T off : Nat} {cs vs : List Value} (ix : Nat) (hC : C w) (h : AgM ds a n L) (hG : Wd ops n L G) (hx : ev L x = some (.pointer (some ((⟨g, 0, none⟩ : Addr).add off)))) (hb : ∀ w, C w → Blk w g T cs) (hg : AggOf P t vs.length) (hv : (cs.drop off).take vs.length = vs) (hix : ops[ix]? = some ⟨some d, .load t x, ty, pos, after, G⟩) (q : ∀ a, AgM ds a n ((d, .agg vs.toArray) :: L) → wpAnyP pq P ops (NormEnd K) C fu (listed.setIfInBounds ix true) a w) (hsel : Region.noSelect ops = true := by kernel_rfl) (hfr : Fre pq ops listed ix = true := by kernel_rfl) (hre : (Region.ready .any ops listed).contains ix = true := by kernel_rfl) (hn : Nat.blt d n = true := by exact rfl) : wpAnyP pq P ops (NormEnd K) C (fu + 1) listed a w :=
  hd_loadA ix hC h hG hx (fun w hw => (hb w hw).part hv) hg hix hn q (hsel := hsel) (hfr := hfr) (hre := hre)
end
end Go.Lw
namespace Go.Lw
open Go.RowKit
section
variable {P : Program} {a : Act} {n N : Nat} {L : List (Nat × Value)} {ds : List Nat} {w w' : World} {Q : Exit → Act → World → Prop} {ops : Array Oper} {rest : List Oper} {o : Oper} {r : Option Nat}
theorem nm_end (h : Q .normal a w) : wpList P ops (NormEnd (Q .normal)) [] a w := h
end
end Go.Lw
namespace Go.Lw
open Go.RowKit
section
variable {α : Type} {E : Enc α} {T : TypeId} {base g : Nat} {w w' : World} {v : Value} {ys : List α} {K : Nat → Prop} {cs : List Value} {ad : Addr}
end
section
variable {α : Type} {E : Enc α} {T : TypeId} {base g n0 : Nat} {w W W' : World} {v : Value} {ys : List α} {K : Nat → Prop} {cs : List Value} {ad : Addr} {S : List Nat}
end
section
variable {P : Program} {a : Act} {n N : Nat} {L : List (Nat × Value)} {ds : List Nat} {w w' : World} {Q : Exit → Act → World → Prop} {ops : Array Oper} {rest : List Oper} {o : Oper} {r : Option Nat}
end
end Go.Lw
namespace Go.Lw
open Go.RowKit
theorem Blk.of_below {w w' : World} {g B : Nat} {T : TypeId} {cs : List Value} (h : Blk w g T cs) (hb : Below B w w') (hg : g < B) : Blk w' g T cs := by
 unfold Blk at h ⊢; rw [hb.block g hg]; exact h
theorem below_of_fr {w w' : World} {B : Nat} {S : List Nat} (hf : Fr S w w') (hS : ∀ k ∈ S, B ≤ k) (hB : B ≤ w.heap.size) : Below B w w' :=
 ⟨hf.os, hf.tape, hf.output, hf.size, fun k hk => hf.block k (by omega) (fun e => by have := hS k e; omega)⟩
theorem bAt_fr {T e : TypeId} {B b : Nat} {p : Value} {bs : List Value} {w w' : World} (h : Lib.BuilderAt T e B b p bs w) (hf : Fr [] w w') : Lib.BuilderAt T e B b p bs w' := by
 obtain ⟨hB, v, hb, ⟨hl, hown⟩, hne⟩ := h
 have hblk : ∀ k o, w.heap[k]? = some o → w'.heap[k]? = some o := fun k o hk => by
  rw [hf.block k (Array.getElem?_eq_some_iff.1 hk).1 (by simp)]; exact hk
 refine ⟨hB, v, hblk _ _ hb, ⟨hl, ?_⟩, hne⟩
 rcases hown with h1 | ⟨g, cap, cur, h1, h2, h3, r⟩
 ·exact .inl h1
 exact .inr ⟨g, cap, cur, h1, h2, hblk _ _ h3, r⟩
theorem isB_fr {T e : TypeId} {B b : Nat} {bs : List Value} {w w' : World} (h : Lib.IsBuilder T e B b bs w) (hf : Fr [] w w') : Lib.IsBuilder T e B b bs w' := h.imp (bAt_fr · hf) (bAt_fr · hf)
theorem own_fr {w w' : World} {S : List Nat} {B : Nat} {e : TypeId} {v : Value} {n : Nat} {xs : List Value} (h : w.ownsRow B e 1 v n xs) (hf : Fr S w w') (hS : ∀ g ∈ S, v.ownBlock ≠ some g) : w'.ownsRow B e 1 v n xs := by
 obtain ⟨hl, hown⟩ := h
 refine ⟨hl, ?_⟩
 rcases hown with h1 | ⟨g, cap, cur, rfl, h2, h3, r⟩
 ·exact .inl h1
 exact .inr ⟨g, cap, cur, rfl, h2, by rw [hf.block g (Array.getElem?_eq_some_iff.1 h3).1 (fun e => hS g e rfl)]; exact h3, r⟩
theorem fr_grown {w w' : World} {r : Option Nat} (h : w.grownBy w' r) : Fr r.toList w w' :=
 ⟨h.os, h.tape, h.output, h.size, fun k hk hn => h.block k hk (fun e => hn (by simp [← e]))⟩
theorem own_ge {w : World} {B : Nat} {e : TypeId} {v : Value} {n : Nat} {xs : List Value} (h : w.ownsRow B e 1 v n xs) : ∀ k ∈ v.ownBlock.toList, B ≤ k := by
 obtain ⟨-, ⟨rfl, -⟩ | ⟨g, cap, cur, rfl, h2, -⟩⟩ := h
 ·simp [Value.ownBlock]
 simpa [Value.ownBlock] using h2
theorem own_one {w : World} {B : Nat} {e : TypeId} {v : Value} {n : Nat} {xs : List Value} (h : w.ownsRow B e 1 v n xs) : v.oneCell' = true ∧ v.cells = #[v] := by
 obtain ⟨-, ⟨rfl, -⟩ | ⟨g, cap, cur, rfl, -⟩⟩ := h <;> exact ⟨rfl, rfl⟩
theorem bAt_mk {T e : TypeId} {B b : Nat} {p v : Value} {bs : List Value} {w w' : World} (hB : B ≤ b) (hb : Blk w' b T [p, v]) (ho : w.ownsRow B e 1 v bs.length bs) (hf : Fr [b] w w') (hne : v.ownBlock ≠ some b) : Lib.BuilderAt T e B b p bs w' :=
 ⟨hB, v, hb, own_fr ho hf (fun g hg => by rw [List.mem_singleton.1 hg]; exact hne), hne⟩
theorem row_str {w : World} {B : Nat} {e : TypeId} {v : Value} {l s : List UInt8} (h : w.ownsRow B e 1 v (l.length + s.length) (Lib.byteCells l ++ Lib.strCells ⟨s.toArray⟩)) : w.ownsRow B e 1 v (Lib.byteCells (l ++ s)).length (Lib.byteCells (l ++ s)) := by
 have e : Lib.byteCells l ++ Lib.strCells ⟨s.toArray⟩ = Lib.byteCells (l ++ s) := by simp [Lib.byteCells, Lib.strCells]
 rw [Lib.byteCells_length, List.length_append, ← e]; exact h
section
variable {P : Program} {a : Act} {n : Nat} {L : List (Nat × Value)} {ds : List Nat} {w w' : World} {Q : Exit → Act → World → Prop} {ops : Array Oper} {rest : List Oper}
variable {d : Nat} {ty : TypeId} {pos : String} {after : Array Edge} {x y : Operand} {t t' T T' : TypeId} {v : Value} {ad : Addr} {po : Option Addr}
theorem st_eqnilP (h : AgM ds a n L) (hx : ev L x = some (.pointer po)) (hu : P.underlying t = some (.pointer T)) (hn : Nat.blt d n = true) (q : ∀ a, AgM ds a n ((d, .bool po.isNone) :: L) → wpList P ops Q rest a w) :
    wpList P ops Q (⟨some d, .binOp .eql t x (.const (.pointer none)) t', ty, pos, after, none⟩ :: rest) a w :=
  st_ok h rfl rfl hn (by
    have hp : P.pointee t = T := by simp [Program.pointee, hu]
    have h3 := run_eql_pointer_nil (P := P) (w := w) t po (by rw [hp]; exact hu)
    have h4 : a.eval (.const (.pointer none)) = .pointer none := rfl
    simp [execOp, h.eval hx, h4, eqGuard, h3]) q
theorem s_eqnilP (hx : ev L x = some (.pointer po)) (hu : P.underlying t = some (.pointer T)) (hn : Nat.blt d n = true) (q : WL P ops Q rest n ds w ((d, .bool po.isNone) :: L)) : WL P ops Q (⟨some d, .binOp .eql t x (.const (.pointer none)) t', ty, pos, after, none⟩ :: rest) n ds w L := fun a h => st_eqnilP h hx hu hn q -- short
theorem st_neSameP {j : TypeInfo} (h : AgM ds a n L) (hx : ev L x = some (.pointer (some ad))) (hy : ev L y = some (.pointer (some ad))) (hu : P.underlying t = some (.pointer T)) (hi : P.info? T = some j) (hn : Nat.blt d n = true)
    (q : ∀ a, AgM ds a n ((d, .bool false) :: L) → wpList P ops Q rest a w) : wpList P ops Q (⟨some d, .binOp .neq t x y t', ty, pos, after, none⟩ :: rest) a w :=
  st_ok h rfl rfl hn (by
    have h3 := Lib.run_neq_ptr_same (P := P) (w := w) ad hu hi
    simp [execOp, h.eval hx, h.eval hy, eqGuard, h3]) q
theorem s_neSameP {j : TypeInfo} (hx : ev L x = some (.pointer (some ad))) (hy : ev L y = some (.pointer (some ad))) (hu : P.underlying t = some (.pointer T)) (hi : P.info? T = some j) (hn : Nat.blt d n = true) (q : WL P ops Q rest n ds w ((d, .bool false) :: L)) : WL P ops Q (⟨some d, .binOp .neq t x y t', ty, pos, after, none⟩ :: rest) n ds w L := fun a h => st_neSameP h hx hy hu hi hn q -- short
theorem st_toUnsafe {j : TypeInfo} {E cells : Nat} (h : AgM ds a n L) (hx : ev L x = some (.pointer (some ad))) (hs : P.underlying t = some (.pointer T)) (hd : P.underlying t' = some .unsafePointer) (hi : P.info? T = some j) (hj : j.size ≠ 0) (hsh : w.shape? ad.block = some (E, cells)) (ho : ad.off < cells) (hn : Nat.blt d n = true)
    (q : ∀ a, AgM ds a n ((d, .pointer (some ad)) :: L) → wpList P ops Q rest a w) : wpList P ops Q (⟨some d, .convert t t' x, ty, pos, after, none⟩ :: rest) a w :=
  st_ok h rfl rfl hn (by
    have h3 := Lib.run_to_unsafe (P := P) (w := w) ad hs hd hi hj hsh ho
    simp [execOp, h.eval hx, h3]) q
theorem s_toUnsafe {j : TypeInfo} {E cells : Nat} (hx : ev L x = some (.pointer (some ad))) (hs : P.underlying t = some (.pointer T)) (hd : P.underlying t' = some .unsafePointer) (hi : P.info? T = some j) (hj : j.size ≠ 0) (hsh : w.shape? ad.block = some (E, cells)) (ho : ad.off < cells) (hn : Nat.blt d n = true) (q : WL P ops Q rest n ds w ((d, .pointer (some ad)) :: L)) : WL P ops Q (⟨some d, .convert t t' x, ty, pos, after, none⟩ :: rest) n ds w L := fun a h => st_toUnsafe h hx hs hd hi hj hsh ho hn q -- short
theorem st_fromUnsafe {j : TypeInfo} {E cells : Nat} (h : AgM ds a n L) (hx : ev L x = some (.pointer (some ad))) (hs : P.underlying t = some .unsafePointer) (hd : P.underlying t' = some (.pointer T)) (hi : P.info? T = some j) (hsh : w.shape? ad.block = some (E, cells)) (hl : liesAt P P.depth E (cells / P.cellsOf E) ad.off T 1 = true) (hn : Nat.blt d n = true)
    (q : ∀ a, AgM ds a n ((d, .pointer (some ad)) :: L) → wpList P ops Q rest a w) : wpList P ops Q (⟨some d, .convert t t' x, ty, pos, after, none⟩ :: rest) a w :=
  st_ok h rfl rfl hn (by
    have h3 := Lib.run_from_unsafe (P := P) (w := w) ad hs hd hi hsh hl
    simp [execOp, h.eval hx, h3]) q
theorem s_fromUnsafe {j : TypeInfo} {E cells : Nat} (hx : ev L x = some (.pointer (some ad))) (hs : P.underlying t = some .unsafePointer) (hd : P.underlying t' = some (.pointer T)) (hi : P.info? T = some j) (hsh : w.shape? ad.block = some (E, cells)) (hl : liesAt P P.depth E (cells / P.cellsOf E) ad.off T 1 = true) (hn : Nat.blt d n = true) (q : WL P ops Q rest n ds w ((d, .pointer (some ad)) :: L)) : WL P ops Q (⟨some d, .convert t t' x, ty, pos, after, none⟩ :: rest) n ds w L := fun a h => st_fromUnsafe h hx hs hd hi hsh hl hn q -- short
theorem st_same {f : FuncId} {ts : Array TypeId} (h : AgM ds a n L) (hx : ev L x = some v) (hf : ∀ (u : Value) (w : World), (callFunc f #[u]).run P w = .ok (.value u) w) (hn : Nat.blt d n = true)
    (q : ∀ a, AgM ds a n ((d, v) :: L) → wpList P ops Q rest a w) : wpList P ops Q (⟨some d, .call ⟨.value (.func f), #[x], ts⟩, ty, pos, after, none⟩ :: rest) a w :=
  st_ok h rfl rfl hn (by
    rw [execOp_call_go]
    simp only [List.map_toArray, List.map_cons, List.map_nil, h.eval hx]
    exact hf v w) q
theorem s_same {f : FuncId} {ts : Array TypeId} (hx : ev L x = some v) (hf : ∀ (u : Value) (w : World), (callFunc f #[u]).run P w = .ok (.value u) w) (hn : Nat.blt d n = true) (q : WL P ops Q rest n ds w ((d, v) :: L)) : WL P ops Q (⟨some d, .call ⟨.value (.func f), #[x], ts⟩, ty, pos, after, none⟩ :: rest) n ds w L := fun a h => st_same h hx hf hn q -- short
theorem st_appendStr {u : Value} {m B : Nat} {xs : List Value} {l : List UInt8} (h : AgM ds a n L) (hx : ev L x = some u) (hy : ev L y = some (S l)) (ht : P.underlying t = some (.slice T)) (hs : P.underlying t' = some .string) (hi : (P.info? T).map (fun i => (i.zero, i.size, i.bytes)) = some (some (.int .u8 0), 1, 1))
    (ho : w.ownsRow B T 1 u m xs) (hM : m + l.length ≤ maxLen) (hb : m + l.length ≤ 140737488355328) (hB : B ≤ w.heap.size) (hn : Nat.blt d n = true)
    (q : ∀ v' w', w'.ownsRow B T 1 v' (m + l.length) (xs ++ Lib.strCells ⟨l.toArray⟩) → w.grownBy w' u.ownBlock → ∀ a, AgM ds a n ((d, v') :: L) → wpList P ops Q rest a w') :
    wpList P ops Q (⟨some d, .call ⟨.builtin .append, #[x, y], #[t, t']⟩, ty, pos, after, none⟩ :: rest) a w := by
  obtain ⟨i, h1, h2, h3, h4⟩ := info_parts hi
  have hsz : (ByteArray.mk l.toArray).size = l.length := by simp [ByteArray.size]
  obtain ⟨v', w', hr, r1, r2, _⟩ := Lib.run_append_own_string (P := P) (w := w) B t t' ty T i ht hs h1 h2 h3 h4 u m xs ho ⟨l.toArray⟩ (by rw [hsz]; exact hM) (by rw [hsz]; exact hb) hB
  rw [hsz] at r1
  refine st_ok h rfl rfl hn (w' := w') ?_ (q v' w' r1 r2)
  rw [exec_builtin]; unfold builtin
  simp only [List.map_toArray, List.map_cons, List.map_nil, h.eval hx, h.eval hy, S, Sem.run_bind, hr, Result.andThen_ok, Sem.run_pure]
end
end Go.Lw
namespace Go.Lw
open Go.RowKit
section
variable {P : Program} {n : Nat} {L : List (Nat × Value)} {ds : List Nat} {w w' : World} {Q : Exit → Act → World → Prop} {ops : Array Oper} {rest : List Oper} {a : Act} {x y c : Code} {id : Nat}
class Says (b : Bool) (p : outParam Prop) : Prop where
  iff : b = true ↔ p
instance (priority := 100) says_b (b : Bool) : Says b (b = true) := ⟨Iff.rfl⟩
instance (priority := 1000) says_d (p : Prop) {hp : Decidable p} : Says (@decide p hp) p := ⟨decide_eq_true_iff⟩
instance (priority := 1100) says_n (p : Prop) {hp : Decidable p} : Says (!(@decide p hp)) (¬ p) := ⟨by simp⟩
theorem Says.no {b : Bool} {p : Prop} [h : Says b p] (e : b = false) : ¬ p := fun hp => by rw [h.iff.2 hp] at e; cases e
theorem sq (h : CW P (Exit.then (y.wp P Q) Q) x n ds w L) : CW P Q (.seq x y) n ds w L := fun a ha => wp_seq (h a ha)
theorem rg {l : List Oper} (h : WL P l.toArray Q l n ds w L) : CW P Q (.region id l.toArray false) n ds w L := fun a ha => wp_region_lit (h a ha)
theorem sr {l : List Oper} (h : WL P l.toArray (Exit.then (y.wp P Q) Q) l n ds w L) : CW P Q (.seq (.region id l.toArray false) y) n ds w L := sq (rg h)
theorem bl (h : CW P (Exit.inBlock id Q) x n ds w L) : CW P Q (.block id x) n ds w L := fun a ha => wp_block (h a ha)
theorem sk (h : EW Q .normal n ds w L) : CW P Q .skip n ds w L := fun a ha => wp_skip (h a ha)
theorem lb {l : Nat} (h : EW Q .normal n ds w L) : CW P Q (.label l) n ds w L := fun a ha => wp_label (h a ha)
theorem rt (h : EW Q .ret n ds w L) : CW P Q .ret n ds w L := fun a ha => wp_ret (h a ha)
theorem ex (h : EW Q (.exit id) n ds w L) : CW P Q (.exit id) n ds w L := fun a ha => wp_exit (h a ha)
theorem nl (h : EW Q .normal n ds w L) : WL P ops Q [] n ds w L := fun a ha => wpList_nil (h a ha)
theorem tn (h : CW P Q y n ds w L) {Q' : Exit → Act → World → Prop} : EW (Exit.then (y.wp P Q) Q') .normal n ds w L := h
theorem nn (h : CW P Q y n ds w L) {Q' : Exit → Act → World → Prop} : WL P ops (Exit.then (y.wp P Q) Q') [] n ds w L := nl (tn h)
theorem bn' (h : EW Q .normal n ds w L) : EW (Exit.inBlock id Q) .normal n ds w L := h
theorem rb (h : EW Q .ret n ds w L) : EW (Exit.inBlock id Q) .ret n ds w L := h
theorem tr {K : Act → World → Prop} (h : EW Q .ret n ds w L) : EW (Exit.then K Q) .ret n ds w L := h
theorem te {K : Act → World → Prop} (h : EW Q (.exit id) n ds w L) : EW (Exit.then K Q) (.exit id) n ds w L := h
theorem xh (h : EW Q .normal n ds w L) : EW (Exit.inBlock id Q) (.exit id) n ds w L := fun a ha => exit_here (h a ha)
theorem xo {id' : Nat} (hne : Nat.beq id' id = false) (h : EW Q (.exit id') n ds w L) : EW (Exit.inBlock id Q) (.exit id') n ds w L := fun a ha => exit_out hne (h a ha)
theorem ct {C : Operand} (hc : ev L C = some (.bool true)) (k : CW P Q x n ds w L) : CW P Q (.cond C x y) n ds w L := fun a h => cond_true h hc (k a h)
theorem cf {C : Operand} (hc : ev L C = some (.bool false)) (k : CW P Q y n ds w L) : CW P Q (.cond C x y) n ds w L := fun a h => cond_false h hc (k a h)
theorem cd {C : Operand} {b : Bool} {p : Prop} (hc : ev L C = some (.bool b)) [s : Says b p] (ht : p → CW P Q x n ds w L) (hf : ¬ p → CW P Q y n ds w L) : CW P Q (.cond C x y) n ds w L :=
 fun a h => cond_split h hc (fun e => ht (s.iff.1 e) a h) (fun e => hf (s.no e) a h)
theorem gs {l : List Oper} (D : Nat) {b : Bool} {p : Prop} (hb : look L D = some (.bool b)) [s : Says b p] (ht : p → WL P ops Q l n ds w ((D, .bool true) :: L)) (hf : ¬ p → WL P ops Q l n ds w ((D, .bool false) :: L)) : WL P ops Q l n ds w L :=
 fun a h => guard_any h hb (fun e h' => ht (s.iff.1 e) a h') (fun e h' => hf (s.no e) a h')
theorem kpL {l : List Oper} (L' : List (Nat × Value)) (hs : Sub L' L) (k : WL P ops Q l n ds w L') : WL P ops Q l n ds w L := fun a h => k a (h.sub hs)
theorem kpC (L' : List (Nat × Value)) (hs : Sub L' L) (k : CW P Q c n ds w L') : CW P Q c n ds w L := fun a h => k a (h.sub hs)
def gAskG (ops : Array Oper) (G : Option (Nat × Bool)) (n : Nat) (L : List (Nat × Value)) : Option (Value × Bool) :=
  match G with
  | none => none
  | some (j, want) =>
    match ops[j]? with
    | none => none
    | some oj =>
      match oj.dst with
      | none => none
      | some dj => bif Nat.blt dj n then (look L dj).map (fun v => (v, want)) else none
def gAsk (ops : Array Oper) (o : Oper) (n : Nat) (L : List (Nat × Value)) : Option (Value × Bool) := gAskG ops o.guard n L
theorem gAsk_spec {o : Oper} {v : Value} {want : Bool} (h : gAsk ops o n L = some (v, want)) : ∃ j dj oj, o.guard = some (j, want) ∧ ops[j]? = some oj ∧ oj.dst = some dj ∧ Nat.blt dj n = true ∧ look L dj = some v := by
 unfold gAsk gAskG at h
 split at h
 ·cases h
 rename_i j want' hg
 split at h
 ·cases h
 rename_i oj hj
 split at h
 ·cases h
 rename_i dj hd
 cases hb : Nat.blt dj n with
 | false => rw [hb] at h; cases h
 | true =>
  rw [hb] at h
  cases hl : look L dj with
  | none => rw [hl] at h; cases h
  | some u => rw [hl] at h; cases h; exact ⟨j, dj, oj, hg, hj, hd, hb, hl⟩
theorem gY {o : Oper} {b : Bool} (hg : gAsk ops o n L = some (.bool b, b)) (k : WL P ops Q ({ o with guard := none } :: rest) n ds w L) : WL P ops Q (o :: rest) n ds w L := by
 obtain ⟨j, dj, oj, h1, h2, h3, h4, h5⟩ := gAsk_spec hg
 exact fun a h => gd_yes h h1 h2 h3 h4 h5 (by cases b <;> rfl) (k a h)
theorem gN {o : Oper} {b : Bool} {d : Nat} (hg : gAsk ops o n L = some (.bool b, !b)) (hd : o.dst = some d) (hn : Nat.blt d n = true) (k : WL P ops Q rest n ds w ((d, undef) :: L)) : WL P ops Q (o :: rest) n ds w L := by
 obtain ⟨j, dj, oj, h1, h2, h3, h4, h5⟩ := gAsk_spec hg
 exact fun a h => gd_no h h1 h2 h3 h4 h5 (by cases b <;> rfl) hd hn k
theorem gS {o : Oper} {d : Nat} {want : Bool} (hg : gAsk ops o n L = some (undef, want)) (hd : o.dst = some d) (k : WL P ops Q rest n ds w ((d, undef) :: L)) (hn : Nat.blt d n = true := by exact rfl) : WL P ops Q (o :: rest) n ds w L := by
 obtain ⟨j, dj, oj, h1, h2, h3, h4, h5⟩ := gAsk_spec hg
 exact fun a h => gd_skip h h1 h2 h3 h4 h5 hd hn k
theorem lpK {ι : Type} (K : List (Nat × Value)) (M : ι → List (Nat × Value)) (I : ι → World → Prop) (μ : ι → Nat) (i : ι) (hs : Sub (K ++ M i) L) (hI : I i w)
    (round : ∀ i w, I i w → CW P (Exit.then (fun a' w' => ∃ j, AgM ds a' n (K ++ M j) ∧ I j w' ∧ μ j < μ i) Q) c n ds w (K ++ M i)) : CW P Q (.loop c) n ds w L :=
  fun a h => loop (fun i => K ++ M i) I μ i (h.sub hs) hI (fun i w a h hI => round i w hI a h)
theorem lpE {ι : Type} {K : List (Nat × Value)} {M : ι → List (Nat × Value)} {I : ι → World → Prop} {μ : ι → Nat} {m : Nat} (j : ι) (hs : Sub (K ++ M j) L) (hI : I j w) (hm : μ j < m) : EW (Exit.then (fun a' w' => ∃ j, AgM ds a' n (K ++ M j) ∧ I j w' ∧ μ j < m) Q) .normal n ds w L :=
 fun a h => ⟨j, h.sub hs, hI, hm⟩
def JW {ι : Type} (n : Nat) (ds : List Nat) (K : List (Nat × Value)) (M : ι → List (Nat × Value)) (I : ι → World → Prop) (a : Act) (w : World) : Prop := ∃ j, AgM ds a n (K ++ M j) ∧ I j w
theorem jn {ι : Type} (K : List (Nat × Value)) (M : ι → List (Nat × Value)) (I : ι → World → Prop) (_hs : Sub K L) (h1 : CW P (Exit.then (JW n ds K M I) Q) x n ds w L) (h2 : ∀ j w, I j w → CW P Q y n ds w (K ++ M j)) : CW P Q (.seq x y) n ds w L :=
 fun a h => seq_cut (JW n ds K M I) (h1 a h) (fun a w ⟨j, h, hI⟩ => h2 j w hI a h)
theorem jE {ι : Type} {K : List (Nat × Value)} {M : ι → List (Nat × Value)} {I : ι → World → Prop} (j : ι) (hs : Sub (K ++ M j) L) (hI : I j w) : EW (Exit.then (JW n ds K M I) Q) .normal n ds w L := fun a h => ⟨j, h.sub hs, hI⟩
theorem rbo {ol : List Oper} {r : Nat} {L' : List (Nat × Value)} (C : Prop) [Decidable C] (hs : Sub L' L) (h1 : WL P ol.toArray (BoolEnd ds n r C L' w) ol n ds w L) (h2 : EW Q .normal n ds w ((r, .bool (decide C)) :: L')) : CW P Q (.region id ol.toArray false) n ds w L :=
 fun a h => region_bool C h hs (h1 a h) h2
theorem rbe {r : Nat} {L' : List (Nat × Value)} {C : Prop} [Decidable C] {b : Bool} (hr : look L r = some (.bool b)) (hs : Sub L' L) (hb : b = decide C := by first | exact bt (by omega) | exact bf (by omega) | exact bi (by omega) | exact bn (by omega) | (simp_all; done) | (simp_all; omega)) : WL P ops (BoolEnd ds n r C L' w) [] n ds w L :=
 fun a h => wpList_nil (bool_end h hr hb hs)
def BoolEndF (ds : List Nat) (n r : Nat) (C : Prop) [Decidable C] (L' : List (Nat × Value)) (w0 : World) : Exit → Act → World → Prop := fun e a w => e = .normal ∧ Fr [] w0 w ∧ AgM ds a n ((r, .bool (decide C)) :: L')
theorem rboF {ol : List Oper} {r : Nat} {L' : List (Nat × Value)} (C : Prop) [Decidable C] (_hs : Sub L' L) (h1 : WL P ol.toArray (BoolEndF ds n r C L' w) ol n ds w L) (h2 : ∀ w', Fr [] w w' → EW Q .normal n ds w' ((r, .bool (decide C)) :: L')) : CW P Q (.region id ol.toArray false) n ds w L :=
 fun a h => wp_mono (wp_region_lit (h1 a h)) (fun e a w h => by obtain ⟨rfl, hf, ha⟩ := h; exact h2 w hf a ha)
theorem rbeF {r : Nat} {L' : List (Nat × Value)} {C : Prop} [Decidable C] {b : Bool} {w0 : World} (hr : look L r = some (.bool b)) (hs : Sub L' L) (hf : Fr [] w0 w) (hb : b = decide C := by first | exact bt (by omega) | exact bf (by omega) | exact bi (by omega) | exact bn (by omega) | (simp_all; done) | (simp_all; omega)) : WL P ops (BoolEndF ds n r C L' w0) [] n ds w L :=
 fun a h => wpList_nil ⟨rfl, hf, (bool_end (w := w) h hr hb hs).2.2⟩
theorem bk {e : Exit} (h : AgM ds a n L) (k : EW Q e n ds w L) : Q e a w := k a h
theorem we {f : FuncId} {fn : Func} {c : Code} {args : Array Value} {R : Ending → World → Prop} (L : List (Nat × Value)) (hf : P.funcs[f]? = some fn) (hc : fn.body = some c) (hn : fn.ntmps = n) (hl : Nat.ble args.size n = true) (hL : argsOk args L)
 (h : CW P (bodyPost P fn R) c n [] w L) : Calls P f args w R := enter L hf hc hn hl hL h
section
variable {R : Ending → World → Prop} {fn : Func} {t u s : Nat} {v z : Value}
theorem r0 (hr : fn.results = #[]) (k : R (.returned (.tuple #[])) w) : EW (bodyPost P fn R) .ret n [] w L := fun _ h => ret0 h hr k
theorem r0n (hr : fn.results = #[]) (k : R (.returned (.tuple #[])) w) : EW (bodyPost P fn R) .normal n [] w L := fun _ h => ret0n h hr k
theorem r1 (hr : fn.results = #[.tmp t]) (hv : look L t = some v) (k : R (.returned v) w) : EW (bodyPost P fn R) .ret n [] w L := fun _ h => ret1 h hr hv k
theorem r2 (hr : fn.results = #[.tmp t, .tmp u]) (hv : look L t = some v) (hx : look L u = some z) (k : R (.returned (.tuple #[v, z])) w) : EW (bodyPost P fn R) .ret n [] w L := fun _ h => ret2 h hr hv hx k
theorem r3 {z' : Value} (hr : fn.results = #[.tmp t, .tmp u, .tmp s]) (hv : look L t = some v) (hx : look L u = some z) (hy : look L s = some z') (k : R (.returned (.tuple #[v, z, z'])) w) : EW (bodyPost P fn R) .ret n [] w L := fun _ h => ret3 h hr hv hx hy k
variable {p pt q r g T : Nat} {cs : List Value}
theorem rC (hr : fn.results = #[.cell p pt]) (hp : look L p = some (.pointer (some ⟨g, 0, none⟩))) (hb : Blk w g T cs) (hg : AggOf P pt cs.length) (k : R (.returned (.agg cs.toArray)) w) : EW (bodyPost P fn R) .ret n [] w L := fun _ h => retC h hr hp hb hg k
theorem rCT (hr : fn.results = #[.cell p pt, .tmp q]) (hp : look L p = some (.pointer (some ⟨g, 0, none⟩))) (hb : Blk w g T cs) (hg : AggOf P pt cs.length) (hv : look L q = some v) (k : R (.returned (.tuple #[.agg cs.toArray, v])) w) : EW (bodyPost P fn R) .ret n [] w L := fun _ h => retCT h hr hp hb hg hv k
theorem rCTT {u : Value} (hr : fn.results = #[.cell p pt, .tmp q, .tmp r]) (hp : look L p = some (.pointer (some ⟨g, 0, none⟩))) (hb : Blk w g T cs) (hg : AggOf P pt cs.length) (hv : look L q = some v) (hu : look L r = some u) (k : R (.returned (.tuple #[.agg cs.toArray, v, u])) w) : EW (bodyPost P fn R) .ret n [] w L := fun _ h => retCTT h hr hp hb hg hv hu k
end
theorem wi6 {z : Int} (h : -9223372036854775808 ≤ z ∧ z ≤ 9223372036854775807) : IntKind.i64.wrap z = z := IntWalk.i64_in z (by omega)
theorem wi8 {z : Int} (h : 0 ≤ z ∧ z ≤ 255) : IntKind.u8.wrap z = z := IntWalk.u8_in z (by omega)
theorem ev1 {x : Operand} {v : Value} (h : ev L x = some v) : evs L [x] [v] := ⟨h, trivial⟩
theorem ev2 {x y : Operand} {v u : Value} (h : ev L x = some v) (h2 : ev L y = some u) : evs L [x, y] [v, u] := ⟨h, h2, trivial⟩
theorem ev3 {x y z : Operand} {v u t : Value} (h : ev L x = some v) (h2 : ev L y = some u) (h3 : ev L z = some t) : evs L [x, y, z] [v, u, t] := ⟨h, h2, h3, trivial⟩
theorem ev4 {x y z o : Operand} {v u t s : Value} (h : ev L x = some v) (h2 : ev L y = some u) (h3 : ev L z = some t) (h4 : ev L o = some s) : evs L [x, y, z, o] [v, u, t, s] := ⟨h, h2, h3, h4, trivial⟩
theorem nat_of {k : Nat} : ((k : Nat) : Int).toNat = k := Int.toNat_natCast k
end
theorem us {P : Program} {t : TypeId} {u} (h : P.underlying t = some u) : (P.underlying t).isSome = true := by rw [h]; rfl
section
variable {P : Program} {n : Nat} {L : List (Nat × Value)} {ds : List Nat} {w w' : World} {Q : Exit → Act → World → Prop} {ops : Array Oper} {rest : List Oper} {d : Nat} {ty T : TypeId} {pos : String} {after : Array Edge} {v : Value} {x : Operand}
theorem bx {cs : List Value} (hx : ev L x = some v) (hc : v.cells = cs.toArray) (hn : Nat.blt d n = true) (q : ∀ g w', g = w.heap.size → Blk w' g T cs → Fr [] w w' → w'.heap.size = g + 1 → WL P ops Q rest n ds w' ((d, .pointer (some ⟨g, 0, none⟩)) :: L)) : WL P ops Q (⟨some d, .box T x, ty, pos, after, none⟩ :: rest) n ds w L :=
 s_box hx hc hn (fun w' h1 h2 h3 => q _ w' rfl h1 h2 h3)
theorem al {cs : List Value} (hz : ∀ w : World, (zeroValue T).run P w = .ok v w) (hc : v.cells = cs.toArray) (hn : Nat.blt d n = true) (q : ∀ g w', g = w.heap.size → Blk w' g T cs → Fr [] w w' → w'.heap.size = g + 1 → WL P ops Q rest n ds w' ((d, .pointer (some ⟨g, 0, none⟩)) :: L)) : WL P ops Q (⟨some d, .alloc T, ty, pos, after, none⟩ :: rest) n ds w L :=
 s_alloc hz hc hn (fun w' h1 h2 h3 => q _ w' rfl h1 h2 h3)
theorem s_loadBP {t : TypeId} {g off : Nat} {cs vs : List Value} (hx : ev L x = some (.pointer (some ((⟨g, 0, none⟩ : Addr).add off)))) (hb : Blk w g T cs) (hg : AggOf P t vs.length) (hv : (cs.drop off).take vs.length = vs) (q : WL P ops Q rest n ds w ((d, .agg vs.toArray) :: L)) (hn : Nat.blt d n = true := by exact rfl) : WL P ops Q (⟨some d, .load t x, ty, pos, after, none⟩ :: rest) n ds w L :=
 s_loadA hx (fun j u hu => by
  rw [← hv] at hu
  have hj : (cs.drop off)[j]? = some u := by
   rw [List.getElem?_take] at hu; split at hu
   ·exact hu
   cases hu
  rw [List.getElem?_drop] at hj
  rw [add_add]; exact hb.cellAdd hj) hg q (hn := hn)
theorem s_neNil {t t' : TypeId} {ms} {b : Bool} (hx : ev L x = some v) (hu : P.underlying t = some (.interface ms)) (hb : v = .nilIface ∧ b = false ∨ (∃ s p, v = .iface s p) ∧ b = true) (hn : Nat.blt d n = true) (q : WL P ops Q rest n ds w ((d, .bool b) :: L)) : WL P ops Q (⟨some d, .binOp .neq t x (.const .nilIface) t', ty, pos, after, none⟩ :: rest) n ds w L :=
 fun a h => st_ok h rfl rfl hn (by
  have h4 : a.eval (.const .nilIface) = .nilIface := rfl
  rcases hb with ⟨rfl, rfl⟩ | ⟨⟨s, p, rfl⟩, rfl⟩
  ·have e : ∀ k, (Op.equalIn (k + 1) t .nilIface .nilIface).run P w = .ok true w := fun k => by unfold Op.equalIn; simp only [Sem.run_bind, run_underlying hu, Result.andThen_ok, Sem.run_pure]
   have h3 : (binOp .neq t .nilIface .nilIface).run P w = .ok (.bool false) w := by
    simp only [binOp]
    simp [Op.equal, Op.maxDepth, e 9999]
   simp [execOp, h.eval hx, h4, eqGuard, h3]
  have e : ∀ k, (Op.equalIn (k + 1) t (.iface s p) .nilIface).run P w = .ok false w := fun k => by unfold Op.equalIn; simp only [Sem.run_bind, run_underlying hu, Result.andThen_ok, Sem.run_pure]
  have h3 : (binOp .neq t (.iface s p) .nilIface).run P w = .ok (.bool true) w := by
   simp only [binOp]
   simp [Op.equal, Op.maxDepth, e 9999]
  simp [execOp, h.eval hx, h4, eqGuard, h3]) q
section
variable {C : World → Prop} {K : Act → World → Prop} {fu : Nat} {listed : Array Bool} {pq : Option Nat} {o : Oper} {a : Act} {G : Option (Nat × Bool)} {t t' : TypeId} {y : Operand} {k : IntKind} {i j : Int} {l l' : List UInt8}
theorem wanted_yes {b : Bool} (h : AgM ds a n L) (hg : gAsk ops o n L = some (.bool b, b)) : Region.wanted o (yielded ops a.tmps) = true := by
 obtain ⟨j, dj, oj, h1, h2, h3, h4, h5⟩ := gAsk_spec hg
 have hy := yielded_of (ops := ops) h h2 h3 h4 h5
 simp [Region.wanted, h1, hy]
theorem wy {b : Bool} (hg : gAskG ops G n L = some (.bool b, b)) : Wd ops n L G := fun a ds h o ho => wanted_yes (o := o) h (by unfold gAsk; rw [ho]; exact hg)
end
end
end Go.Lw
namespace Go.Lw
open Go.RowKit
theorem cells_part {w : World} {ad : Addr} {cs vs : List Value} {off : Nat} (h : Cells w ad cs) (hv : (cs.drop off).take vs.length = vs) : Cells w (ad.add off) vs := fun j u hu => by
 rw [← hv] at hu
 rw [List.getElem?_take] at hu
 split at hu
 ·rw [List.getElem?_drop] at hu
  rw [add_add]; exact h _ u hu
 cases hu
def IterAt (w : World) (g : Nat) (l : List UInt8) (p : Nat) : Prop := w.heap[g]? = some (.stringIter ⟨l.toArray⟩ p)
theorem IterAt.fr {w w' : World} {g p : Nat} {l : List UInt8} {S : List Nat} (h : IterAt w g l p) (hf : Fr S w w') (hn : g ∉ S) : IterAt w' g l p := by
 unfold IterAt at h ⊢
 rw [hf.block g (Array.getElem?_eq_some_iff.1 h).1 hn]; exact h
theorem IterAt.ext {w w' : World} {g p : Nat} {l : List UInt8} (h : IterAt w g l p) (hf : Fr [] w w') : IterAt w' g l p := h.fr hf (by simp)
theorem IterAt.lt {w : World} {g p : Nat} {l : List UInt8} (h : IterAt w g l p) : g < w.heap.size := (Array.getElem?_eq_some_iff.1 h).1
abbrev dec8 (l : List UInt8) (p : Nat) : Nat × Nat := Utf8.decode ⟨l.toArray⟩ p
theorem dec_get (l : List UInt8) (p : Nat) : (ByteArray.mk l.toArray).get! p = l.getD p 0 := by
 show l.toArray[p]! = _
 rw [List.getD]
 by_cases h : p < l.length
 ·simp [h]
 simp [List.getElem?_eq_none (show l.length ≤ p by omega)]; rfl
theorem dec_low {l : List UInt8} {p : Nat} (h : (l.getD p 0).toNat < 128) : dec8 l p = ((l.getD p 0).toNat, 1) := by
 unfold dec8 Utf8.decode
 simp only [Nat.add_zero, dec_get]
 rw [if_pos h]
theorem dec_high {l : List UInt8} {p : Nat} (h : ¬ (l.getD p 0).toNat < 128) : 128 ≤ (dec8 l p).1 := by
 unfold dec8 Utf8.decode Utf8.runeError
 simp only [Nat.add_zero, dec_get]
 rw [if_neg h]
 repeat' split
 all_goals first | (simp only; omega) | (rename_i hh; simp only [Bool.and_eq_true, decide_eq_true_eq] at hh; simp only; omega)
section
variable {P : Program} {a : Act} {n : Nat} {L : List (Nat × Value)} {ds : List Nat} {w : World} {Q : Exit → Act → World → Prop} {ops : Array Oper} {rest : List Oper} {d g p : Nat} {ty t : TypeId} {pos : String} {after : Array Edge} {x : Operand} {l : List UInt8}
theorem st_range (h : AgM ds a n L) (hx : ev L x = some (S l)) (hu : P.underlying t = some .string) (hn : Nat.blt d n = true)
    (q : ∀ g w', g = w.heap.size → IterAt w' g l 0 → Fr [] w w' → w'.heap.size = g + 1 → ∀ a, AgM ds a n ((d, .pointer (some ⟨g, 0, none⟩)) :: L) → wpList P ops Q rest a w') : wpList P ops Q (⟨some d, .range t x, ty, pos, after, none⟩ :: rest) a w := by
  refine st_ok h rfl rfl hn (w' := w.alloc (.stringIter ⟨l.toArray⟩ 0)) (v := .pointer (some ⟨w.heap.size, 0, none⟩)) ?_ (q _ _ rfl (heap_alloc_new w _) (Fr.alloc [] w _) (by simp))
  have hx' := h.eval hx
  have e : w.iter ⟨l.toArray⟩ 0 = w.alloc (.stringIter ⟨l.toArray⟩ 0) := rfl
  simp only [execOp, hx', S, Sem.run_bind, run_range_string w t ⟨l.toArray⟩ hu, Result.andThen_ok, Sem.run_pure, e]
theorem next_in {w : World} {k p : Nat} (ty : TypeId) (hk : IterAt w k l p) (h : p < l.length) :
    (Instr.next (.pointer (some ⟨k, 0, none⟩)) true ty).run P w = .ok (.tuple #[.bool true, .int .i64 p, .int .i32 (dec8 l p).1]) { w with heap := w.heap.setIfInBounds k (.stringIter ⟨l.toArray⟩ (p + (dec8 l p).2)) } := by
  have hs : p < (⟨l.toArray⟩ : ByteArray).size := by simpa [ByteArray.size] using h
  have hk' : w.heap[k]? = some (.stringIter ⟨l.toArray⟩ p) := hk
  simp only [Instr.next, getObj, setObj, Sem.run_bind, Sem.run, hk', Result.andThen, hs, if_true]
  simp [goInt]
theorem st_next_t (h : AgM ds a n L) (hx : ev L x = some (.pointer (some ⟨g, 0, none⟩))) (hi : IterAt w g l p) (hp : p < l.length) (hn : Nat.blt d n = true)
    (q : ∀ w', IterAt w' g l (p + (dec8 l p).2) → Fr [g] w w' → w'.heap.size = w.heap.size → ∀ a, AgM ds a n ((d, .tuple #[.bool true, .int .i64 (p : Int), .int .i32 ((dec8 l p).1 : Int)]) :: L) → wpList P ops Q rest a w') : wpList P ops Q (⟨some d, .next x true, ty, pos, after, none⟩ :: rest) a w := by
  have hlt := hi.lt
  refine st_ok h rfl rfl hn (w' := { w with heap := w.heap.setIfInBounds g (.stringIter ⟨l.toArray⟩ (p + (dec8 l p).2)) }) (v := .tuple #[.bool true, .int .i64 (p : Int), .int .i32 ((dec8 l p).1 : Int)]) ?_ (q _ ?_ ⟨rfl, rfl, rfl, by simp, fun k hk hS => ?_⟩ (by simp))
  · have hx' := h.eval hx
    simp only [execOp, hx', Sem.run_bind, next_in ty hi hp, Result.andThen_ok, Sem.run_pure]
  · unfold IterAt; simp [hlt]
  · have : g ≠ k := fun e => hS (by simp [e])
    simp [Array.getElem?_setIfInBounds_ne this]
theorem st_next_f (h : AgM ds a n L) (hx : ev L x = some (.pointer (some ⟨g, 0, none⟩))) (hi : IterAt w g l p) (hp : ¬ p < l.length) (hn : Nat.blt d n = true)
    (q : ∀ a, AgM ds a n ((d, .tuple #[.bool false]) :: L) → wpList P ops Q rest a w) : wpList P ops Q (⟨some d, .next x true, ty, pos, after, none⟩ :: rest) a w := by
  refine st_ok h rfl rfl hn (w' := w) (v := .tuple #[.bool false]) ?_ q
  have hx' := h.eval hx
  have hs : ¬ p < (⟨l.toArray⟩ : ByteArray).size := by simpa [ByteArray.size] using hp
  have hk' : w.heap[g]? = some (.stringIter ⟨l.toArray⟩ p) := hi
  have e : (Instr.next (.pointer (some ⟨g, 0, none⟩)) true ty).run P w = .ok (.tuple #[.bool false]) w := by simp [Instr.next, getObj, Sem.run, hk', hs]
  simp only [execOp, hx', Sem.run_bind, e, Result.andThen_ok, Sem.run_pure]
theorem s_range (hx : ev L x = some (S l)) (hu : P.underlying t = some .string) (hn : Nat.blt d n = true)
 (q : ∀ g w', g = w.heap.size → IterAt w' g l 0 → Fr [] w w' → w'.heap.size = g + 1 → WL P ops Q rest n ds w' ((d, .pointer (some ⟨g, 0, none⟩)) :: L)) : WL P ops Q (⟨some d, .range t x, ty, pos, after, none⟩ :: rest) n ds w L := fun _ h => st_range h hx hu hn q
theorem s_next (hx : ev L x = some (.pointer (some ⟨g, 0, none⟩))) (hi : IterAt w g l p) (hn : Nat.blt d n = true)
    (qt : p < l.length → ∀ w', IterAt w' g l (p + (dec8 l p).2) → Fr [g] w w' → w'.heap.size = w.heap.size → WL P ops Q rest n ds w' ((d, .tuple #[.bool true, .int .i64 (p : Int), .int .i32 ((dec8 l p).1 : Int)]) :: L))
    (qf : ¬ p < l.length → WL P ops Q rest n ds w ((d, .tuple #[.bool false]) :: L)) : WL P ops Q (⟨some d, .next x true, ty, pos, after, none⟩ :: rest) n ds w L := fun _ h => by
  by_cases hp : p < l.length
  · exact st_next_t h hx hi hp hn (qt hp)
  · exact st_next_f h hx hi hp hn (qf hp)
end
end Go.Lw
namespace Go.Lw
open Go.RowKit
section
variable {P : Program} {a : Act} {n : Nat} {L : List (Nat × Value)} {ds : List Nat} {w : World} {Q : Exit → Act → World → Prop} {ops : Array Oper} {rest : List Oper} {d : Nat} {ty t T : TypeId} {pos : String} {after : Array Edge} {x : Operand}
theorem st_slArr {g N sz : Nat} (h : AgM ds a n L) (hx : ev L x = some (.pointer (some ⟨g, 0, none⟩))) (hu : P.underlying t = some (.array N T)) (hs : SizeOf P T sz) (hN : Nat.beq N 0 = false) (hn : Nat.blt d n = true)
    (q : ∀ a, AgM ds a n ((d, .slice (some ⟨g, 0, none⟩) N N) :: L) → wpList P ops Q rest a w) : wpList P ops Q (⟨some d, .slice t x none none none, ty, pos, after, none⟩ :: rest) a w := by
  have hN' : N ≠ 0 := fun e => by subst e; cases hN
  refine st_ok h rfl rfl hn (w' := w) ?_ q
  have hs' := hs w
  have hx' := h.eval hx
  simp [execOp, hx', Instr.sliceAt, Instr.slice, run_underlying hu, Instr.sliceBounds, hs', hN', Addr.add, Instr.sureAddr, Sem.run_bind, Result.andThen_ok]
theorem s_slArr {g N sz : Nat} (hx : ev L x = some (.pointer (some ⟨g, 0, none⟩))) (hu : P.underlying t = some (.array N T)) (hs : SizeOf P T sz) (hN : Nat.beq N 0 = false) (hn : Nat.blt d n = true)
 (q : WL P ops Q rest n ds w ((d, .slice (some ⟨g, 0, none⟩) N N) :: L)) : WL P ops Q (⟨some d, .slice t x none none none, ty, pos, after, none⟩ :: rest) n ds w L := fun _ h => st_slArr h hx hu hs hN hn q
def ivs (c : List Int) : List Value := c.map fun z => .int .i64 z
theorem ivs_get {c : List Int} {k : Nat} (h : k < c.length) : (ivs c)[k]? = some (.int .i64 (c.getD k 0)) := by
 unfold ivs; rw [List.getElem?_map, List.getElem?_eq_getElem h, List.getD, List.getElem?_eq_getElem h]; rfl
theorem ivs_set (c : List Int) (k : Nat) (z : Int) : (ivs c).set k (.int .i64 z) = ivs (c.set k z) := by
 unfold ivs; rw [List.map_set]
theorem ivs_len (c : List Int) : (ivs c).length = c.length := by simp [ivs]
theorem tab_add (F : Nat → Int) (n k : Nat) (z : Int) (h : k < n) : ((List.range n).map F).set k (F k + z) = (List.range n).map fun y => F y + if y = k then z else 0 := by
 apply List.ext_getElem?
 intro i
 rw [List.getElem?_set]
 by_cases e : k = i
 ·subst e
  rw [if_pos rfl, if_pos (by simpa using h), List.getElem?_map, List.getElem?_range h]
  simp
 rw [if_neg e, List.getElem?_map, List.getElem?_map]
 by_cases hi : i < n
 ·rw [List.getElem?_range hi]; simp [Ne.symm e]
 rw [List.getElem?_eq_none (by simpa using hi)]; rfl
theorem tab_get (F : Nat → Int) {n k : Nat} (h : k < n) : ((List.range n).map F).getD k 0 = F k := by
 rw [List.getD, List.getElem?_map, List.getElem?_range h]; rfl
theorem blk_own {g T : Nat} {c : List Int} {N : Nat} (h : Blk w g T (ivs c)) (hN : N ≤ g) (hM : c.length ≤ maxLen) : Lw.Own Enc.i64 T N w (.slice (some ⟨g, 0, none⟩) c.length c.length) c := by
 refine .inr ⟨g, c.length, (ivs c).toArray, rfl, hN, h, Nat.le_refl _, hM, ?_, ?_⟩
 ·simp [ivs, Enc.i64]
 have e : c.flatMap Enc.i64.enc = ivs c := by
  clear h hM
  unfold ivs
  induction c with
  | nil => rfl
  | cons x xs ih => rw [List.flatMap_cons, List.map_cons, ih]; rfl
 rw [e]
 simp only [ivs, Enc.i64, Nat.mul_one, List.drop_zero]
 exact List.take_of_length_le (by simp)
end
section
variable {P : Program} {a : Act} {n : Nat} {L : List (Nat × Value)} {ds : List Nat} {w : World} {Q : Exit → Act → World → Prop} {ops : Array Oper} {rest : List Oper} {d : Nat} {ty t T : TypeId} {pos : String} {after : Array Edge} {x y : Operand} {k : IntKind} {i : Int}
theorem st_ixv {vs : List Value} {N : Nat} {v : Value} (h : AgM ds a n L) (hx : ev L x = some (.agg vs.toArray)) (hy : ev L y = some (.int k i)) (hu : P.underlying t = some (.array N T)) (hs : SizeOf P T 1) (hg : NotAgg P T) (h0 : 0 ≤ i) (h1 : i < N) (hv : vs[i.toNat]? = some v) (hn : Nat.blt d n = true)
    (q : ∀ a, AgM ds a n ((d, v) :: L) → wpList P ops Q rest a w) : wpList P ops Q (⟨some d, .index t x y, ty, pos, after, none⟩ :: rest) a w := by
  refine st_ok h rfl rfl hn (w' := w) (v := v) ?_ q
  have hx' := h.eval hx
  have hy' := h.eval hy
  have hs' := hs w
  have hg' := hg w
  simp [execOp, hx', hy', Instr.index, asIntOf, run_underlying hu, h0, h1, hs', part, hg', hv]
theorem s_ixv {vs : List Value} {N : Nat} {v : Value} (hx : ev L x = some (.agg vs.toArray)) (hy : ev L y = some (.int k i)) (hu : P.underlying t = some (.array N T)) (hs : SizeOf P T 1) (hg : NotAgg P T) (h0 : 0 ≤ i) (h1 : i < N) (hv : vs[i.toNat]? = some v) (hn : Nat.blt d n = true)
 (q : WL P ops Q rest n ds w ((d, v) :: L)) : WL P ops Q (⟨some d, .index t x y, ty, pos, after, none⟩ :: rest) n ds w L := fun _ h => st_ixv h hx hy hu hs hg h0 h1 hv hn q
end
end Go.Lw
namespace Go.Proofs.YthehggmdcmpjeaaGreatDoor
open Go.Lw Go.G14
theorem el36 : ElemOf Tryz.prog 36 42 encCq 24 := ElemOf.mk' (z := (.agg #[(.slice none 0 0)])) Tryz.underlying36 (by kernel_rfl) rfl
theorem er40 : ElemOf Tryz.prog 40 88 encRq 24 := ElemOf.mk' (z := (.slice none 0 0)) Tryz.underlying40 (by kernel_rfl) rfl
theorem low_of {l : List UInt8} {i : Nat} (h : i ≤ l.length) (ha : (l.take i).all lower = true) (h2 : i < l.length) (hc : 97 ≤ (dec8 l i).1 ∧ (dec8 l i).1 ≤ 122) : (l.take (i + 1)).all lower = true ∧ (dec8 l i).2 = 1 := by
 have hb : (l.getD i 0).toNat < 128 := by
  rcases Nat.lt_or_ge (l.getD i 0).toNat 128 with h | h
  ·exact h
  have := dec_high (l := l) (p := i) (by omega); omega
 rw [dec_low hb] at hc ⊢
 refine ⟨?_, rfl⟩
 rw [List.take_add_one, List.all_append, ha, List.getElem?_eq_getElem h2]
 have e : l.getD i 0 = l[i] := by rw [List.getD, List.getElem?_eq_getElem h2]; rfl
 rw [e] at hc
 simp [lower]; omega
theorem low_no {l : List UInt8} {i : Nat} (h2 : i < l.length) (hc : ¬ (97 ≤ (dec8 l i).1 ∧ (dec8 l i).1 ≤ 122)) : l.all lower = false := by
 rw [Bool.eq_false_iff]
 intro e
 have h1 := List.all_eq_true.1 e l[i] (List.getElem_mem h2)
 have e2 : l.getD i 0 = l[i] := by rw [List.getD, List.getElem?_eq_getElem h2]; rfl
 simp only [lower, decide_eq_true_eq] at h1
 rw [dec_low (by rw [e2]; omega), e2] at hc
 exact hc h1
theorem byte_lo {l : List UInt8} {i : Nat} (ha : (l.take i).all lower = true) (h2 : i < l.length) (hc : ¬ (((l.getD i 0).toNat : Int) < 97 ∨ 122 < ((l.getD i 0).toNat : Int))) : (l.take (i + 1)).all lower = true := by
 rw [List.take_add_one, List.all_append, ha, List.getElem?_eq_getElem h2]
 have e : l.getD i 0 = l[i] := by rw [List.getD, List.getElem?_eq_getElem h2]; rfl
 rw [e] at hc
 simp [lower]; omega
theorem byte_no {l : List UInt8} {i : Nat} (h2 : i < l.length) (hc : ((l.getD i 0).toNat : Int) < 97 ∨ 122 < ((l.getD i 0).toNat : Int)) : l.all lower = false := by
 rw [Bool.eq_false_iff]
 intro e
 have h1 := List.all_eq_true.1 e l[i] (List.getElem_mem h2)
 have e2 : l.getD i 0 = l[i] := by rw [List.getD, List.getElem?_eq_getElem h2]; rfl
 simp only [lower, decide_eq_true_eq] at h1
 rw [e2] at hc; omega
theorem name_iff (l : List UInt8) : nameB l = true ↔ (1 ≤ l.length ∧ l.length ≤ 16) ∧ l.all lower = true := by
 unfold nameB; rw [Bool.and_eq_true, decide_eq_true_eq]
theorem name_f1 {l : List UInt8} (h : ¬ (1 ≤ l.length ∧ l.length ≤ 16)) : nameB l = false := by
 rw [Bool.eq_false_iff]; exact fun e => h ((name_iff l).1 e).1
theorem name_f2 {l : List UInt8} (h : l.all lower = false) : nameB l = false := by
 rw [Bool.eq_false_iff]; intro e; rw [((name_iff l).1 e).2] at h; cases h
theorem named_ok (l : List UInt8) (w0 : World) : Rets Tryz.prog 47 #[S l] w0 fun r w' => r = .bool (nameB l) ∧ Fr [] w0 w' := by
 refine we [(0, S l)] Tryz.func47 rfl Tryz.ntmps47 rfl (.cons rfl .nil) ?_
 refine sr (asg rfl (nn (sq (sq ?_))))
 refine rbo (r := 12) (L' := [(0, _)]) ((((l.length : Int) < 1) ∨ (16 < (l.length : Int)))) (.cons rfl .nil) ?_ ?_
 ·refine mv rfl (ln rfl Tryz.underlying9 (lt' rfl rfl (mv rfl ?_)))
  refine gs 8 rfl (fun g0 => ?_) (fun g0 => ?_)
  ·exact gN rfl rfl rfl (gN rfl rfl rfl (gN rfl rfl rfl (pkt rfl rfl (rbe rfl (.cons rfl .nil)))))
  exact gY rfl (mv rfl (gY rfl (ln rfl Tryz.underlying9 (gY rfl (gt' rfl rfl (pkf rfl rfl (rbe rfl (.cons rfl .nil))))))))
 refine tn ?_
 refine cd rfl (fun c0 => ?_) (fun c0 => ?_)
 ·refine sr (asg rfl (nn (rt (tr (r1 Tryz.results47 rfl ?_)))))
  exact ⟨_, rfl, by first | rw [name_f1 (by omega)] | rw [name_f2 (low_no (by assumption) (by omega))] | rw [name_f2 (byte_no (by assumption) (by assumption))] | rw [(name_iff l).2 ⟨by omega, by first | assumption | (rw [← List.take_of_length_le (l := l) (show l.length ≤ i by omega)]; assumption)⟩], (Fr.refl _ _)⟩
 refine sk (tn (sq (sr (mv rfl (s_range rfl Tryz.underlying9 rfl (fun g14 w1 hg14 hit14 q1 z1 => ?_))))))
 refine nn (bl ?_)
 refine lpK (ι := Nat) [(14, _)] (fun i => []) (fun i w' => Fr [g14] w1 w' ∧ i ≤ l.length ∧ (l.take i).all lower = true ∧ IterAt w' g14 l i) (fun i => l.length - i) 0 (.cons rfl .nil) ⟨Fr.refl _ _, ⟨Nat.zero_le _, rfl, hit14⟩⟩ ?_
 rintro i w2 ⟨q2, ⟨hi, ha, hit14⟩⟩
 have z2 := q2.size
 refine kpC [(14, _)] (.cons rfl .nil) ?_
 refine sr ?_
 refine s_next rfl hit14 rfl (fun hlt w3 hit14 q3 z3 => ?_) (fun hlt => ?_)
 ·refine xt rfl rfl (nn (sq (ct rfl (sk (tn (bl (sr (xt rfl rfl (asg rfl (nn (sq ?_)))))))))))
  refine rbo (r := 23) (L' := [(14, _)]) (((((dec8 l i).1 : Int) < 97) ∨ (122 < ((dec8 l i).1 : Int)))) (.cons rfl .nil) ?_ ?_
  ·refine mv rfl (lt' rfl rfl (mv rfl ?_))
   refine gs 20 rfl (fun g1 => ?_) (fun g1 => ?_)
   ·exact gN rfl rfl rfl (gN rfl rfl rfl (pkt rfl rfl (rbe rfl (.cons rfl .nil))))
   exact gY rfl (mv rfl (gY rfl (gt' rfl rfl (pkf rfl rfl (rbe rfl (.cons rfl .nil))))))
  refine tn ?_
  refine cd rfl (fun c2 => ?_) (fun c2 => ?_)
  ·refine sr (asg rfl (nn (rt (rb (tr (rb (tr (r1 Tryz.results47 rfl ?_))))))))
   exact ⟨_, rfl, by first | rw [name_f1 (by omega)] | rw [name_f2 (low_no (by assumption) (by omega))] | rw [name_f2 (byte_no (by assumption) (by assumption))] | rw [(name_iff l).2 ⟨by omega, by first | assumption | (rw [← List.take_of_length_le (l := l) (show l.length ≤ i by omega)]; assumption)⟩], (q1.z2 q2 q3)⟩
  refine sk (bn' ?_)
  obtain ⟨ha2, hw1⟩ := low_of hi ha hlt (by omega)
  rw [hw1] at hit14
  exact lpE (i + 1) (.cons rfl .nil) ⟨((Fr.refl [g14] _).z2 q2 q3), ⟨by omega, ha2, hit14⟩⟩ (by omega)
 refine xt rfl rfl (nn (sq (cf rfl (ex (te (te (xh (tn (sr (asg rfl (nn ?_)))))))))))
 refine rt (r1 Tryz.results47 rfl ?_)
 exact ⟨_, rfl, by first | rw [name_f1 (by omega)] | rw [name_f2 (low_no (by assumption) (by omega))] | rw [name_f2 (byte_no (by assumption) (by assumption))] | rw [(name_iff l).2 ⟨by omega, by first | assumption | (rw [← List.take_of_length_le (l := l) (show l.length ≤ i by omega)]; assumption)⟩], (q1.z1 q2)⟩
theorem within_ok (n a b : Int) (w0 : World) : Rets Tryz.prog 24 #[.int .i64 n, .int .i64 a, .int .i64 b] w0 fun r w' => r = .bool (decide (a ≤ n ∧ n ≤ b)) ∧ Fr [] w0 w' := by
 refine we [(0, .int .i64 n), (1, .int .i64 a), (2, .int .i64 b)] Tryz.func24 rfl Tryz.ntmps24 rfl (.c3 rfl rfl rfl) ?_
 refine sr (asg rfl (nn (sq ?_)))
 refine rbo (r := 6) (L' := []) (((a ≤ n) ∧ (n ≤ b))) .nil ?_ ?_
 ·refine mv rfl (mv rfl (le' rfl rfl (mv rfl ?_)))
  refine gs 10 rfl (fun g0 => ?_) (fun g0 => ?_)
  ·exact gY rfl (mv rfl (gY rfl (mv rfl (gY rfl (le' rfl rfl (pkt rfl rfl (asg rfl (rbe rfl .nil))))))))
  exact gN rfl rfl rfl (gN rfl rfl rfl (gN rfl rfl rfl (pkf rfl rfl (asg rfl (rbe rfl .nil)))))
 refine tn (rt (r1 Tryz.results24 rfl ?_))
 exact ⟨_, rfl, rfl, (Fr.refl _ _)⟩
theorem refname_ok (l : List UInt8) (w0 : World) : Rets Tryz.prog 41 #[S l] w0 fun r w' => r = .int .i64 (if nameB l = true then 1 else 0) ∧ Fr [] w0 w' := by
 refine we [(0, S l)] Tryz.func41 rfl Tryz.ntmps41 rfl (.cons rfl .nil) ?_
 refine sr (asg rfl (nn (sq (sq ?_))))
 refine rbo (r := 11) (L' := [(0, _)]) ((((l.length : Int) = 0) ∨ (16 < (l.length : Int)))) (.cons rfl .nil) ?_ ?_
 ·refine mv rfl (ln rfl Tryz.underlying9 (eq' rfl rfl (mv rfl ?_)))
  refine gs 7 rfl (fun g0 => ?_) (fun g0 => ?_)
  ·exact gN rfl rfl rfl (gN rfl rfl rfl (gN rfl rfl rfl (pkt rfl rfl (rbe rfl (.cons rfl .nil)))))
  exact gY rfl (mv rfl (gY rfl (ln rfl Tryz.underlying9 (gY rfl (gt' rfl rfl (pkf rfl rfl (rbe rfl (.cons rfl .nil))))))))
 refine tn ?_
 refine cd rfl (fun c0 => ?_) (fun c0 => ?_)
 ·refine sr (asg rfl (nn (rt (tr (r1 Tryz.results41 rfl ?_)))))
  exact ⟨_, rfl, by first | (rw [name_f1 (by omega)]; rfl) | rw [name_f2 (low_no (by assumption) (by omega))] | rw [name_f2 (byte_no (by assumption) (by assumption))]; rfl | rw [(name_iff l).2 ⟨by omega, by first | assumption | (rw [← List.take_of_length_le (l := l) (show l.length ≤ i by omega)]; assumption)⟩]; rfl, (Fr.refl _ _)⟩
 refine sk (tn (sq (sr (asg rfl (nn (bl ?_))))))
 refine lpK (ι := Nat) [(0, _)] (fun i => [(3, .int .i64 (i : Int))]) (fun i w' => Fr [] w0 w' ∧ i ≤ l.length ∧ (l.take i).all lower = true) (fun i => l.length - i) 0 (.c2 rfl rfl) ⟨Fr.refl _ _, ⟨Nat.zero_le _, rfl⟩⟩ ?_
 rintro i w1 ⟨q1, ⟨hi, ha⟩⟩
 have z1 := q1.size
 refine kpC [(0, _), (3, _)] (.c2 rfl rfl) ?_
 refine sq (sr (mv rfl (mv rfl (ln rfl Tryz.underlying9 (lt' rfl rfl (nn ?_))))))
 refine cd rfl (fun c1 => ?_) (fun c1 => ?_)
 ·have hlt : i < l.length := by omega
  refine sk (tn (sq (bl (sq ?_))))
  refine rbo (r := 27) (L' := [(0, _), (3, _)]) (((((l.getD ((i : Int)).toNat 0).toNat : Int) < 97) ∨ (122 < ((l.getD ((i : Int)).toNat 0).toNat : Int)))) (.c2 rfl rfl) ?_ ?_
  ·refine mv rfl (mv rfl (s_index rfl rfl Tryz.underlying9 nat_of rfl (fun hy20 => ?_)))
   refine lt' rfl rfl (mv rfl ?_)
   refine gs 22 rfl (fun g1 => ?_) (fun g1 => ?_)
   ·exact gN rfl rfl rfl (gN rfl rfl rfl (gN rfl rfl rfl (gN rfl rfl rfl (pkt rfl rfl (rbe rfl (.c2 rfl rfl))))))
   refine gY rfl (mv rfl (gY rfl (mv rfl (gY rfl (s_index rfl rfl Tryz.underlying9 nat_of rfl (fun hy25 => ?_))))))
   exact gY rfl (gt' rfl rfl (pkf rfl rfl (rbe rfl (.c2 rfl rfl))))
  refine tn ?_
  refine cd rfl (fun c2 => ?_) (fun c2 => ?_)
  ·refine sr (asg rfl (nn (rt (rb (tr (tr (rb (tr (r1 Tryz.results41 rfl ?_)))))))))
   exact ⟨_, rfl, by first | (rw [name_f1 (by omega)]; rfl) | rw [name_f2 (low_no (by assumption) (by omega))] | rw [name_f2 (byte_no (by assumption) (by assumption))]; rfl | rw [(name_iff l).2 ⟨by omega, by first | assumption | (rw [← List.take_of_length_le (l := l) (show l.length ≤ i by omega)]; assumption)⟩]; rfl, q1⟩
  refine sk (bn' (tn (rg (mv rfl (s_add rfl rfl (wi6 (by omega)) (asg rfl (nl ?_)))))))
  exact lpE (i + 1) (.c2 rfl rfl) ⟨q1, ⟨by omega, byte_lo ha (by omega) (by assumption)⟩⟩ (by omega)
 obtain rfl : i = l.length := by omega
 rw [List.take_length] at ha
 refine ex (te (te (xh (tn (sr (asg rfl (nn (rt (r1 Tryz.results41 rfl ?_)))))))))
 exact ⟨_, rfl, by first | (rw [name_f1 (by omega)]; rfl) | rw [name_f2 (low_no (by assumption) (by omega))] | rw [name_f2 (byte_no (by assumption) (by assumption))]; rfl | rw [(name_iff l).2 ⟨by omega, by first | assumption | (rw [← List.take_of_length_le (l := l) (show l.length ≤ i by omega)]; assumption)⟩]; rfl, q1⟩
theorem all_lt {α : Type} {l : List α} {d : α} {p : α → Prop} (h : ∀ j, j < l.length → p (l.getD j d)) : ∀ x ∈ l, p x := by
 intro x hx
 obtain ⟨i, hi⟩ := List.getElem?_of_mem hx
 have := h i (List.getElem?_eq_some_iff.1 hi).1
 rwa [List.getD, hi] at this
theorem all_step {p : Nat → Prop} {i : Nat} (h : ∀ j, j < i → p j) (hi : p i) : ∀ j, j < i + 1 → p j := fun j hj => by
 rcases Nat.lt_or_ge j i with h1 | h1
 ·exact h j h1
 obtain rfl : j = i := by omega
 exact hi
theorem large_iff (c : RowL) : largeB c = true ↔ 31 < c.length ∨ ∃ r ∈ c, 16 < r.length := by
 unfold largeB; rw [Bool.or_eq_true, decide_eq_true_eq, List.any_eq_true]; simp
theorem large_no {c : RowL} (h1 : ¬ 31 < c.length) (h2 : ∀ r ∈ c, ¬ 16 < r.length) : largeB c = false := by
 rw [Bool.eq_false_iff]; intro e
 rcases (large_iff c).1 e with e | ⟨r, hr, e⟩
 ·exact h1 e
 exact h2 r hr e
theorem good_no {c : RowL} {r : List Stitch} {s : Stitch} (hr : r ∈ c) (hs : s ∈ r) (h : checkS s ≠ 0) : goodB c = false := by
 rw [Bool.eq_false_iff]; intro e
 have := List.all_eq_true.1 (List.all_eq_true.1 e r hr) s hs
 exact h ((okB_iff s).1 this)
theorem mem_snd {α β : Type} {l : List (α × β)} {j : Nat} {d : α × β} (h : j < l.length) : (l.getD j d).2 ∈ l.map Prod.snd := List.mem_map.2 ⟨_, getD_memS h, rfl⟩
theorem all_snd {α β : Type} {l : List (α × β)} {d : α × β} {p : β → Prop} (h : ∀ j, j < l.length → p (l.getD j d).2) : ∀ r ∈ l.map Prod.snd, p r := by
 intro r hr
 obtain ⟨q, hq, rfl⟩ := List.mem_map.1 hr
 exact all_lt (p := fun q => p q.2) h q hq
theorem msmall_ok (v : Value) (qs : List CQ) (w0 : World) (hs : Sl encCq w0 v qs) (hq : ChsQ w0 qs) : Rets Tryz.prog 79 #[v] w0 fun r w' => r = .bool (decide (∀ q ∈ qs, largeB q.2 = false)) ∧ Fr [] w0 w' := by
 obtain ⟨A, c, rfl, hcc, hM, hA⟩ := id hs
 clear hA
 unfold maxLen at hM
 refine we [(0, .slice A qs.length c)] Tryz.func79 rfl Tryz.ntmps79 rfl (.cons rfl .nil) ?_
 have hs0 := hs
 have hq0 := hq
 refine sr (asg rfl (nn (sq (sr (mv rfl (lnS rfl Tryz.underlying36 (mv rfl (nn (bl ?_)))))))))
 refine lpK (ι := Nat) [(7, _), (8, _)] (fun i => [(9, .int .i64 (i : Int))]) (fun i w' => Fr [] w0 w' ∧ i ≤ qs.length ∧ ∀ j, j < i → largeB (qs.getD j cq0).2 = false) (fun i => qs.length - i) 0 (.c3 rfl rfl rfl) ⟨Fr.refl _ _, ⟨Nat.zero_le _, fun j hj => absurd hj (Nat.not_lt_zero j)⟩⟩ ?_
 rintro i w1 ⟨q1, ⟨hi, hall⟩⟩
 have z1 := q1.size
 refine kpC [(7, _), (8, _), (9, _)] (.c3 rfl rfl rfl) ?_
 refine sr (lt' rfl rfl (nn (sq ?_)))
 refine cd rfl (fun c0 => ?_) (fun c0 => ?_)
 ·replace hq := hq0.ext q1
  obtain ⟨hqS, hqL⟩ := hq.at (i := i) (by omega)
  obtain ⟨rs, hrs, hqr, hrm⟩ := Sll.opn hqS
  have hrl := sl_len hrs
  have hrc : rs.length = (qs.getD i cq0).2.length := by rw [← hrm, List.length_map]
  have hrM := hrs.len_le
  unfold maxLen at hrM
  have hrs0 := hrs
  have hqr0 := hqr
  refine sk (tn (sq (bl (sr ?_))))
  replace hs := hs0.ext q1
  refine s_idxL (cq0) rfl hs rfl el36 nat_of (fun ad11 hc11 => ?_)
  refine s_loadA rfl (hc11 _ hs) ag42 (al zv42 rfl rfl (fun g4 w2 hg4 hb4 q2 z2 => ?_))
  refine s_storeBA rfl rfl hb4 rfl sz42 (fun w3 hb4 q3 z3 => ?_)
  refine nn (sq (sr (fad rfl fa42_0 (s_loadB rfl hb4 rfl na40 (lnS rfl Tryz.underlying40 (gt' rfl rfl (nn ?_)))))))
  refine cd rfl (fun c1 => ?_) (fun c1 => ?_)
  ·refine sr (asg rfl (nn (rt (tr (rb (tr (tr (rb (tr (r1 Tryz.results79 rfl ?_))))))))))
   exact ⟨_, rfl, by first | rw [decide_eq_true (all_lt (d := cq0) hall)] | (rw [decide_eq_false]; intro hh; have h1 := hh _ (getD_memS (d := cq0) (show i < qs.length by omega)); rw [(large_iff _).2 (by first | (left; omega) | (right; exact ⟨_, by rw [← hrm]; exact mem_snd (d := rq0) (show j < rs.length by omega), by omega⟩))] at h1; cases h1), (q1.z2 q2 q3)⟩
  refine sk (tn (sr (fad rfl fa42_0 (s_loadB rfl hb4 rfl na40 (lnS rfl Tryz.underlying40 (mv rfl (nn (bl ?_))))))))
  refine lpK (ι := Nat) [(7, _), (8, _), (9, _), (18, _), (19, _)] (fun j => [(20, .int .i64 (j : Int))]) (fun j w' => Fr [] w3 w' ∧ j ≤ rs.length ∧ ∀ k, k < j → ¬ 16 < (rs.getD k rq0).2.length) (fun j => rs.length - j) 0 (.c6 rfl rfl rfl rfl rfl rfl) ⟨Fr.refl _ _, ⟨Nat.zero_le _, fun j hj => absurd hj (Nat.not_lt_zero j)⟩⟩ ?_
  rintro j w4 ⟨q4, ⟨hj, hrow⟩⟩
  have z4 := q4.size
  refine kpC [(7, _), (8, _), (9, _), (18, _), (19, _), (20, _)] (.c6 rfl rfl rfl rfl rfl rfl) ?_
  refine sr (lt' rfl rfl (nn (sq ?_)))
  refine cd rfl (fun c2 => ?_) (fun c2 => ?_)
  ·replace hqr := hqr0.ext (q2.z2 q3 q4)
   have hjl := sl_len (hqr (rs.getD j rq0) (getD_memS (by omega)))
   have hjM := (hqr (rs.getD j rq0) (getD_memS (by omega))).len_le
   unfold maxLen at hjM
   refine sk (tn (sq (bl (sr ?_))))
   replace hrs := hrs0.ext (q2.z2 q3 q4)
   refine s_idxL (rq0) rfl hrs rfl er40 nat_of (fun ad22 hc22 => ?_)
   refine s_loadC0 rfl (hc22 _ hrs) na88 (asg rfl (nn (sr (mv rfl (lnS rfl Tryz.underlying88 (gt' rfl rfl (nn ?_)))))))
   refine cd rfl (fun c3 => ?_) (fun c3 => ?_)
   ·refine sr (asg rfl (kpL [(2, _)] (.cons rfl .nil) (nn (rt (rb (tr (tr (rb (rb (tr (tr ?_)))))))))))
    refine rb (tr (r1 Tryz.results79 rfl ?_))
    exact ⟨_, rfl, by first | rw [decide_eq_true (all_lt (d := cq0) hall)] | (rw [decide_eq_false]; intro hh; have h1 := hh _ (getD_memS (d := cq0) (show i < qs.length by omega)); rw [(large_iff _).2 (by first | (left; omega) | (right; exact ⟨_, by rw [← hrm]; exact mem_snd (d := rq0) (show j < rs.length by omega), by omega⟩))] at h1; cases h1), (q1.z3 q2 q3 q4)⟩
   refine sk (bn' (tn (rg (s_add rfl rfl (wi6 (by omega)) (mv rfl (nl ?_))))))
   exact lpE (j + 1) (.c6 rfl rfl rfl rfl rfl rfl) ⟨q4, ⟨by omega, all_step hrow (by omega)⟩⟩ (by omega)
  obtain rfl : j = rs.length := by omega
  refine ex (te (te (xh (bn' (tn (rg (s_add rfl rfl (wi6 (by omega)) (mv rfl (nl ?_)))))))))
  exact lpE (i + 1) (.c3 rfl rfl rfl) ⟨(q1.z3 q2 q3 q4), ⟨by omega, all_step hall (by rw [← hrm]; exact large_no (by rw [List.length_map]; omega) (all_snd (d := rq0) hrow))⟩⟩ (by omega)
 obtain rfl : i = qs.length := by omega
 refine ex (te (te (xh (tn (sr (asg rfl (nn (rt (r1 Tryz.results79 rfl ?_)))))))))
 exact ⟨_, rfl, by first | rw [decide_eq_true (all_lt (d := cq0) hall)] | (rw [decide_eq_false]; intro hh; have h1 := hh _ (getD_memS (d := cq0) (show i < qs.length by omega)); rw [(large_iff _).2 (by first | (left; omega) | (right; exact ⟨_, by rw [← hrm]; exact mem_snd (d := rq0) (show j < rs.length by omega), by omega⟩))] at h1; cases h1), q1⟩
theorem mgood_ok (v : Value) (qs : List CQ) (w0 : World) (hs : Sl encCq w0 v qs) (hq : ChsQ w0 qs) : Rets Tryz.prog 80 #[v] w0 fun r w' => r = .bool (decide (∀ q ∈ qs, goodB q.2 = true)) ∧ Fr [] w0 w' := by
 obtain ⟨A, c, rfl, hcc, hM, hA⟩ := id hs
 clear hA
 unfold maxLen at hM
 refine we [(0, .slice A qs.length c)] Tryz.func80 rfl Tryz.ntmps80 rfl (.cons rfl .nil) ?_
 have hs0 := hs
 have hq0 := hq
 refine sr (asg rfl (nn (sq (sr (mv rfl (lnS rfl Tryz.underlying36 (mv rfl (nn (bl ?_)))))))))
 refine lpK (ι := Nat) [(9, _), (10, _)] (fun i => [(11, .int .i64 (i : Int))]) (fun i w' => Fr [] w0 w' ∧ i ≤ qs.length ∧ ∀ j, j < i → goodB (qs.getD j cq0).2 = true) (fun i => qs.length - i) 0 (.c3 rfl rfl rfl) ⟨Fr.refl _ _, ⟨Nat.zero_le _, fun j hj => absurd hj (Nat.not_lt_zero j)⟩⟩ ?_
 rintro i w1 ⟨q1, ⟨hi, hall⟩⟩
 have z1 := q1.size
 refine kpC [(9, _), (10, _), (11, _)] (.c3 rfl rfl rfl) ?_
 refine sr (lt' rfl rfl (nn (sq ?_)))
 refine cd rfl (fun c0 => ?_) (fun c0 => ?_)
 ·replace hq := hq0.ext q1
  obtain ⟨hqS, hqL⟩ := hq.at (i := i) (by omega)
  obtain ⟨rs, hrs, hqr, hrm⟩ := Sll.opn hqS
  have hrl := sl_len hrs
  have hrc : rs.length = (qs.getD i cq0).2.length := by rw [← hrm, List.length_map]
  have hrM := hrs.len_le
  unfold maxLen at hrM
  have hrs0 := hrs
  have hqr0 := hqr
  refine sk (tn (sq (bl (sr ?_))))
  replace hs := hs0.ext q1
  refine s_idxL (cq0) rfl hs rfl el36 nat_of (fun ad13 hc13 => ?_)
  refine s_loadA rfl (hc13 _ hs) ag42 (al zv42 rfl rfl (fun g4 w2 hg4 hb4 q2 z2 => ?_))
  refine s_storeBA rfl rfl hb4 rfl sz42 (fun w3 hb4 q3 z3 => ?_)
  refine nn (sr (fad rfl fa42_0 (s_loadB rfl hb4 rfl na40 (lnS rfl Tryz.underlying40 (mv rfl (nn (bl ?_)))))))
  refine lpK (ι := Nat) [(9, _), (10, _), (11, _), (16, _), (17, _)] (fun j => [(18, .int .i64 (j : Int))]) (fun j w' => Fr [] w3 w' ∧ j ≤ rs.length ∧ ∀ k, k < j → (rs.getD k rq0).2.all okB = true) (fun j => rs.length - j) 0 (.c6 rfl rfl rfl rfl rfl rfl) ⟨Fr.refl _ _, ⟨Nat.zero_le _, fun j hj => absurd hj (Nat.not_lt_zero j)⟩⟩ ?_
  rintro j w4 ⟨q4, ⟨hj, hrow⟩⟩
  have z4 := q4.size
  refine kpC [(9, _), (10, _), (11, _), (16, _), (17, _), (18, _)] (.c6 rfl rfl rfl rfl rfl rfl) ?_
  refine sr (lt' rfl rfl (nn (sq ?_)))
  refine cd rfl (fun c1 => ?_) (fun c1 => ?_)
  ·replace hqr := hqr0.ext (q2.z2 q3 q4)
   have hjl := sl_len (hqr (rs.getD j rq0) (getD_memS (by omega)))
   have hjM := (hqr (rs.getD j rq0) (getD_memS (by omega))).len_le
   unfold maxLen at hjM
   refine sk (tn (sq (bl (sr ?_))))
   replace hrs := hrs0.ext (q2.z2 q3 q4)
   refine s_idxL (rq0) rfl hrs rfl er40 nat_of (fun ad20 hc20 => ?_)
   refine s_loadC0 rfl (hc20 _ hrs) na88 (asg rfl (nn (sr (mv rfl (lnS rfl Tryz.underlying88 (mv rfl (nn (bl ?_))))))))
   refine lpK (ι := Nat) [(9, _), (10, _), (11, _), (16, _), (17, _), (18, _), (22, _), (23, _)] (fun k => [(24, .int .i64 (k : Int))]) (fun k w' => Fr [] w4 w' ∧ k ≤ (rs.getD j rq0).2.length ∧ ∀ m, m < k → okB ((rs.getD j rq0).2.getD m zeroS) = true) (fun k => (rs.getD j rq0).2.length - k) 0 (.d8 rfl rfl rfl rfl rfl rfl rfl rfl (.cons rfl .nil)) ⟨Fr.refl _ _, ⟨Nat.zero_le _, fun j hj => absurd hj (Nat.not_lt_zero j)⟩⟩ ?_
   rintro k w5 ⟨q5, ⟨hk, hst⟩⟩
   have z5 := q5.size
   refine kpC [(9, _), (10, _), (11, _), (16, _), (17, _), (18, _), (22, _), (23, _), (24, _)] (.d8 rfl rfl rfl rfl rfl rfl rfl rfl (.cons rfl .nil)) ?_
   refine sr (lt' rfl rfl (nn (sq ?_)))
   refine cd rfl (fun c2 => ?_) (fun c2 => ?_)
   ·refine sk (tn (sq (bl (sr ?_))))
    replace hqr := hqr0.ext (q2.z3 q3 q4 q5)
    refine s_idxL (zeroS) rfl (hqr (rs.getD j rq0) (getD_memS (by omega))) rfl el88 nat_of (fun ad26 hc26 => ?_)
    refine s_loadA rfl (hc26 _ (hqr (rs.getD j rq0) (getD_memS (by omega)))) ag91 (al zv91 rfl rfl (fun g8 w6 hg8 hb8 q6 z6 => ?_))
    refine s_storeBA rfl rfl hb8 rfl sz91 (fun w7 hb8 q7 z7 => ?_)
    refine nn (sr (s_loadBA rfl hb8 ag91 ?_))
    refine cl (ev1 rfl) co89 (check_ok ((rs.getD j rq0).2.getD k zeroS) _) rfl ?_
    rintro _ w8 ⟨rfl, q8⟩
    have z8 := q8.size
    refine ne' rfl rfl (nn ?_)
    refine cd rfl (fun c3 => ?_) (fun c3 => ?_)
    ·refine sr (asg rfl (kpL [(2, _)] (.cons rfl .nil) (nn (rt (rb (tr (tr (rb (rb (tr (tr ?_)))))))))))
     refine rb (rb (tr (tr (rb (tr (r1 Tryz.results80 rfl ?_))))))
     exact ⟨_, rfl, by first | rw [decide_eq_true (all_lt (d := cq0) hall)] | (rw [decide_eq_false]; intro hh; have h1 := hh _ (getD_memS (d := cq0) (show i < qs.length by omega)); rw [← hrm, good_no (mem_snd (d := rq0) (show j < rs.length by omega)) (getD_memS (d := zeroS) (show k < (rs.getD j rq0).2.length by omega)) (by assumption)] at h1; cases h1), ((q1.z6 q2 q3 q4 q5 q6 q7).n1 q8)⟩
    refine sk (bn' (tn (rg (s_add rfl rfl (wi6 (by omega)) (mv rfl (nl ?_))))))
    exact lpE (k + 1) (.d8 rfl rfl rfl rfl rfl rfl rfl rfl (.cons rfl .nil)) ⟨(q5.z3 q6 q7 q8), ⟨by omega, all_step hst ((okB_iff _).2 (Classical.not_not.1 (by assumption)))⟩⟩ (by omega)
   obtain rfl : k = (rs.getD j rq0).2.length := by omega
   refine ex (te (te (xh (bn' (tn (rg (s_add rfl rfl (wi6 (by omega)) (mv rfl (nl ?_)))))))))
   exact lpE (j + 1) (.c6 rfl rfl rfl rfl rfl rfl) ⟨(q4.n1 q5), ⟨by omega, all_step hrow (List.all_eq_true.2 (all_lt (d := zeroS) hst))⟩⟩ (by omega)
  obtain rfl : j = rs.length := by omega
  refine ex (te (te (xh (bn' (tn (rg (s_add rfl rfl (wi6 (by omega)) (mv rfl (nl ?_)))))))))
  exact lpE (i + 1) (.c3 rfl rfl rfl) ⟨(q1.z3 q2 q3 q4), ⟨by omega, all_step hall (by rw [← hrm]; exact List.all_eq_true.2 (all_snd (d := rq0) hrow))⟩⟩ (by omega)
 obtain rfl : i = qs.length := by omega
 refine ex (te (te (xh (tn (sr (asg rfl (nn (rt (r1 Tryz.results80 rfl ?_)))))))))
 exact ⟨_, rfl, by first | rw [decide_eq_true (all_lt (d := cq0) hall)] | (rw [decide_eq_false]; intro hh; have h1 := hh _ (getD_memS (d := cq0) (show i < qs.length by omega)); rw [← hrm, good_no (mem_snd (d := rq0) (show j < rs.length by omega)) (getD_memS (d := zeroS) (show k < (rs.getD j rq0).2.length by omega)) (by assumption)] at h1; cases h1), q1⟩
end Go.Proofs.YthehggmdcmpjeaaGreatDoor
namespace Go.Proofs.YthehggmdcmpjeaaGreatDoor
open Go.Lw Go.G14
theorem bo167 : BuildAt Tryz.prog 167 [(0, 1), (1, 1), (2, 1)] [(.slice none 0 0), (.slice none 0 0), (.slice none 0 0)] := BuildAt.array (sz := 1) Tryz.underlying167 (fun _ => by kernel_rfl) (fun _ => by kernel_rfl) (fun i q h => by match i, h with | 0, h => simpa using h.symm | 1, h => simpa using h.symm | 2, h => simpa using h.symm | (k + 3), h => simp at h)
theorem co58 : CallOf Tryz.prog 58 := mkC Tryz.func58
theorem co79 : CallOf Tryz.prog 79 := mkC Tryz.func79
theorem co80 : CallOf Tryz.prog 80 := mkC Tryz.func80
theorem fa46_0 : FieldAt Tryz.prog 46 0 0 := fun _ _ => by kernel_rfl
theorem fa46_1 : FieldAt Tryz.prog 46 1 1 := fun _ _ => by kernel_rfl
theorem fa46_2 : FieldAt Tryz.prog 46 2 2 := fun _ _ => by kernel_rfl
theorem sz167 : SizeOf Tryz.prog 167 3 := fun _ => by kernel_rfl
theorem zv167 (w : World) : (zeroValue 167).run Tryz.prog w = .ok (.agg #[(.slice none 0 0), (.slice none 0 0), (.slice none 0 0)]) w := by kernel_rfl
theorem mcheck_ok (m : Mot) (l t r : SV) (w0 : World) (hm : MotAt w0 m l t r) : Rets Tryz.prog 49 #[.agg #[.slice l.1 l.2.1 l.2.2, .slice t.1 t.2.1 t.2.2, .slice r.1 r.2.1 r.2.2]] w0 fun v w' => v = .int .i64 (motE m) ∧ Fr [] w0 w' := by
 obtain ⟨hl1, hl2, hl3⟩ := hm.len
 obtain ⟨rs, hrs, hqr, hrm⟩ := Sll.opn hm.T
 have hrl := sl_len hrs
 have hrc : rs.length = m.T.length := by rw [← hrm, List.length_map]
 have hrM := hrs.len_le
 unfold maxLen at hrM
 refine we [(0, .agg #[.slice l.1 l.2.1 l.2.2, .slice t.1 t.2.1 t.2.2, .slice r.1 r.2.1 r.2.2])] Tryz.func49 rfl Tryz.ntmps49 rfl (.cons rfl .nil) ?_
 have hm0 := hm
 have hrs0 := hrs
 have hqr0 := hqr
 refine sr (bx rfl rfl rfl (fun g1 w1 hg1 hb1 q1 z1 => ?_))
 refine asg rfl (nn (sq (sr (fad rfl fa46_0 (s_loadBP (vs := [_]) rfl hb1 ag42 rfl (fad rfl fa46_1 (s_loadBP (vs := [_]) rfl hb1 ag42 rfl (fad rfl fa46_2 (s_loadBP (vs := [_]) rfl hb1 ag42 rfl (s_bslice (bl3 m l t r) (ev3 rfl rfl rfl) rfl rfl rfl el36 (Nat.le_of_ble_eq_true rfl) (fun g14 w2 hg14 ho14 q2 z2 => ?_)))))))))))
 replace hm := hm0.ext (q1.n1 q2)
 refine cl (ev1 rfl) co79 (msmall_ok _ _ _ ho14.sl hm.chs3) rfl ?_
 rintro _ w3 ⟨rfl, q3⟩
 have z3 := q3.size
 refine nt' rfl (kpL [(1, _), (16, _)] (.c2 rfl rfl) (nn ?_))
 refine cd rfl (fun c0 => ?_) (fun c0 => ?_)
 ·refine sr (asg rfl (nn (rt (tr (r1 Tryz.results49 rfl ?_)))))
  exact ⟨_, rfl, by rw [mot3 c0], (q1.n2 q2 q3)⟩
 refine sk (tn (sr (fad rfl fa46_1 (s_fad2 rfl fa42_0 ?_))))
 replace hb1 := hb1.ext (q2.n1 q3)
 refine s_loadB rfl hb1 rfl na40 (lnS rfl Tryz.underlying40 (asg rfl (nn (sq (sr (fad rfl fa46_0 (s_loadBP (vs := [_]) rfl hb1 ag42 rfl (fad rfl fa46_2 (s_loadBP (vs := [_]) rfl hb1 ag42 rfl (s_bslice (bl2 m l r) (ev2 rfl rfl) rfl rfl rfl el36 (Nat.le_of_ble_eq_true rfl) (fun g25 w4 hg25 ho25 q4 z4 => ?_)))))))))))
 refine lnS rfl Tryz.underlying36 (mv rfl (nn (bl ?_)))
 have hes : (bl2 m l r).length = 2 := rfl
 refine lpK (ι := Nat) [(1, _), (3, _), (25, _), (26, _)] (fun i => [(27, .int .i64 (i : Int))]) (fun i w' => Fr [] w4 w' ∧ i ≤ 2 ∧ ∀ j, j < i → ¬ (0 < ((bl2 m l r).getD j cq0).2.length ∧ ((bl2 m l r).getD j cq0).2.length ≠ m.T.length)) (fun i => 2 - i) 0 (.c5 rfl rfl rfl rfl rfl) ⟨Fr.refl _ _, ⟨Nat.zero_le _, fun j hj => absurd hj (Nat.not_lt_zero j)⟩⟩ ?_
 rintro i w5 ⟨q5, ⟨hi, hall⟩⟩
 have z5 := q5.size
 refine kpC [(1, _), (3, _), (25, _), (26, _), (27, _)] (.c5 rfl rfl rfl rfl rfl) ?_
 refine sr (lt' rfl rfl (nn (sq ?_)))
 refine cd rfl (fun c1 => ?_) (fun c1 => ?_)
 ·replace hm := hm0.ext (q1.n4 q2 q3 q4 q5)
  have hee := (hm.chs2.at (i := i) (by omega)).2
  refine sk (tn (sq (bl (sr ?_))))
  replace ho25 := ho25.ext q5
  refine s_idxL (cq0) rfl ho25.sl rfl el36 nat_of (fun ad29 hc29 => ?_)
  refine s_loadA rfl (hc29 _ ho25.sl) ag42 (al zv42 rfl rfl (fun g5 w6 hg5 hb5 q6 z6 => ?_))
  refine s_storeBA rfl rfl hb5 rfl sz42 (fun w7 hb5 q7 z7 => ?_)
  refine nn (sq ?_)
  refine rbo (r := 41) (L' := [(1, _), (3, _), (25, _), (26, _), (27, _)]) (((0 < (((bl2 m l r).getD i cq0).1.2.1 : Int)) ∧ ((((bl2 m l r).getD i cq0).1.2.1 : Int) ≠ (t.2.1 : Int)))) (.c5 rfl rfl rfl rfl rfl) ?_ ?_
  ·refine fad rfl fa42_0 (s_loadB rfl hb5 rfl na40 (lnS rfl Tryz.underlying40 (gt' rfl rfl (mv rfl ?_))))
   refine gs 35 rfl (fun g0 => ?_) (fun g0 => ?_)
   ·exact gY rfl (fad rfl fa42_0 (gY rfl (s_loadB rfl hb5 rfl na40 (gY rfl (lnS rfl Tryz.underlying40 (gY rfl (mv rfl (gY rfl (ne' rfl rfl (pkt rfl rfl (rbe rfl (.c5 rfl rfl rfl rfl rfl))))))))))))
   exact gN rfl rfl rfl (gN rfl rfl rfl (gN rfl rfl rfl (gN rfl rfl rfl (gN rfl rfl rfl (pkf rfl rfl (rbe rfl (.c5 rfl rfl rfl rfl rfl)))))))
  refine tn ?_
  refine cd rfl (fun c2 => ?_) (fun c2 => ?_)
  ·refine sr (asg rfl (kpL [(2, _)] (.cons rfl .nil) (nn (rt (rb (tr (tr (rb (tr (r1 Tryz.results49 rfl ?_))))))))))
   exact ⟨_, rfl, by rw [mot5 (Classical.not_not.1 c0) (edg_at (l := l) (r := r) (i := i) (by omega) (by omega))], (q1.z6 q2 q3 q4 q5 q6 q7)⟩
  refine sk (bn' (tn (rg (s_add rfl rfl (wi6 (by omega)) (mv rfl (nl ?_))))))
  exact lpE (i + 1) (.c5 rfl rfl rfl rfl rfl) ⟨(q5.z2 q6 q7), ⟨by omega, all_step hall (by omega)⟩⟩ (by omega)
 obtain rfl : i = 2 := by omega
 have hne := edg_no hall
 refine ex (te (te (xh (tn (sq (sq ?_))))))
 refine rboF (r := 55) (L' := [(1, _)]) ((((t.2.1 : Int) = 0) ∨ (¬ (∀ q ∈ bl3 m l t r, goodB q.2 = true)))) (.cons rfl .nil) ?_ ?_
 ·refine mv rfl (eq' rfl rfl (mv rfl ?_))
  refine gs 45 rfl (fun g1 => ?_) (fun g1 => ?_)
  ·exact gN rfl rfl rfl (gN rfl rfl rfl (gN rfl rfl rfl (gN rfl rfl rfl (gN rfl rfl rfl (gN rfl rfl rfl (gN rfl rfl rfl (gN rfl rfl rfl (gN rfl rfl rfl (pkt rfl rfl (rbeF rfl (.cons rfl .nil) (Fr.refl _ _)))))))))))
  refine gY rfl (fad rfl fa46_0 (gY rfl ?_))
  replace hb1 := hb1.ext (q4.n1 q5)
  refine s_loadBP (vs := [_]) rfl hb1 ag42 rfl (gY rfl (fad rfl fa46_1 (gY rfl (s_loadBP (vs := [_]) rfl hb1 ag42 rfl (gY rfl (fad rfl fa46_2 (gY rfl (s_loadBP (vs := [_]) rfl hb1 ag42 rfl (gY rfl (s_bslice (bl3 m l t r) (ev3 rfl rfl rfl) rfl rfl rfl el36 (Nat.le_of_ble_eq_true rfl) (fun g52 w8 hg52 ho52 q8 z8 => ?_)))))))))))
  refine gY rfl ?_
  replace hm := hm0.ext (q1.n5 q2 q3 q4 q5 q8)
  refine cl (ev1 rfl) co80 (mgood_ok _ _ _ ho52.sl hm.chs3) rfl ?_
  rintro _ w9 ⟨rfl, q9⟩
  have z9 := q9.size
  exact gY rfl (nt' rfl (pkf rfl rfl (rbeF rfl (.cons rfl .nil) (q8.n1 q9))))
 intro w10 q10; have z10 := q10.size
 refine tn ?_
 refine cd rfl (fun c3 => ?_) (fun c3 => ?_)
 ·refine sr (asg rfl (nn (rt (tr (r1 Tryz.results49 rfl ?_)))))
  exact ⟨_, rfl, by rw [mot1 (Classical.not_not.1 c0) hne (by rcases c3 with h | h; exact .inl (by omega); exact .inr h)], (q1.n5 q2 q3 q4 q5 q10)⟩
 refine sk (tn (sq (sr (fad rfl fa46_1 (s_fad2 rfl fa42_0 ?_)))))
 replace hb1 := hb1.ext (q4.n2 q5 q10)
 refine s_loadB rfl hb1 rfl na40 (lnS rfl Tryz.underlying40 (mv rfl (nn (bl ?_))))
 refine lpK (ι := Nat) [(58, _), (59, _)] (fun j => [(60, .int .i64 (j : Int))]) (fun j w' => Fr [] w10 w' ∧ j ≤ rs.length ∧ ∀ k, k < j → ¬ (rs.getD k rq0).2.length = 0) (fun j => rs.length - j) 0 (.c3 rfl rfl rfl) ⟨Fr.refl _ _, ⟨Nat.zero_le _, fun j hj => absurd hj (Nat.not_lt_zero j)⟩⟩ ?_
 rintro j w11 ⟨q11, ⟨hj, hrow⟩⟩
 have z11 := q11.size
 refine kpC [(58, _), (59, _), (60, _)] (.c3 rfl rfl rfl) ?_
 refine sr (lt' rfl rfl (nn (sq ?_)))
 refine cd rfl (fun c4 => ?_) (fun c4 => ?_)
 ·replace hqr := hqr0.ext (q1.n6 q2 q3 q4 q5 q10 q11)
  have hjl := sl_len (hqr (rs.getD j rq0) (getD_memS (by omega)))
  have hjM := (hqr (rs.getD j rq0) (getD_memS (by omega))).len_le
  unfold maxLen at hjM
  refine sk (tn (sq (bl (sr ?_))))
  replace hrs := hrs0.ext (q1.n6 q2 q3 q4 q5 q10 q11)
  refine s_idxL (rq0) rfl hrs rfl er40 nat_of (fun ad62 hc62 => ?_)
  refine s_loadC0 rfl (hc62 _ hrs) na88 (asg rfl (nn (sr (mv rfl (lnS rfl Tryz.underlying88 (eq' rfl rfl (nn ?_)))))))
  refine cd rfl (fun c5 => ?_) (fun c5 => ?_)
  ·refine sr (asg rfl (nn (rt (rb (tr (tr (rb (tr (r1 Tryz.results49 rfl ?_)))))))))
   exact ⟨_, rfl, by rw [mot1r (Classical.not_not.1 c0) hne ⟨_, by rw [← hrm]; exact mem_snd (d := rq0) (show j < rs.length by omega), by omega⟩], (q1.n6 q2 q3 q4 q5 q10 q11)⟩
  refine sk (bn' (tn (rg (s_add rfl rfl (wi6 (by omega)) (mv rfl (nl ?_))))))
  exact lpE (j + 1) (.c3 rfl rfl rfl) ⟨q11, ⟨by omega, all_step hrow (by omega)⟩⟩ (by omega)
 obtain rfl : j = rs.length := by omega
 refine ex (te (te (xh (tn (sr (asg rfl (nn (rt (r1 Tryz.results49 rfl ?_)))))))))
 exact ⟨_, rfl, by rw [mot0 (l := l) (t := t) (r := r) (Classical.not_not.1 c0) hne (fun h => c3 (.inl (by omega))) (Classical.not_not.1 fun h => c3 (.inr h)) (by rw [← hrm]; exact all_snd (d := rq0) hrow)], (q1.n6 q2 q3 q4 q5 q10 q11)⟩
theorem large_ok (u : Value) (rows : RowL) (w0 : World) (hS : Sll encSt w0 u rows) : Rets Tryz.prog 58 #[.agg #[u]] w0 fun v w' => v = .int .i64 (if largeB rows = true then 1 else 0) ∧ Fr [] w0 w' := by
 obtain ⟨rs, hrs, hqr, hrm⟩ := Sll.opn hS
 obtain ⟨A, c, rfl, hcc, hM, hA⟩ := id hrs
 clear hA
 unfold maxLen at hM
 have hrc : rs.length = rows.length := by rw [← hrm, List.length_map]
 refine we [(0, .agg #[.slice A rs.length c])] Tryz.func58 rfl Tryz.ntmps58 rfl (.cons rfl .nil) ?_
 have hrs0 := hrs
 have hqr0 := hqr
 refine sr (bx rfl rfl rfl (fun g1 w1 hg1 hb1 q1 z1 => ?_))
 refine asg rfl (nn (sq (sr (fad rfl fa42_0 (s_loadB rfl hb1 rfl na40 (lnS rfl Tryz.underlying40 (gt' rfl rfl (nn ?_))))))))
 refine cd rfl (fun c0 => ?_) (fun c0 => ?_)
 ·refine sr (asg rfl (nn (rt (tr (r1 Tryz.results58 rfl ?_)))))
  exact ⟨_, rfl, by first | rw [if_pos ((large_iff _).2 (.inl (by omega)))] | rw [if_pos ((large_iff _).2 (.inr ⟨_, by rw [← hrm]; exact mem_snd (d := rq0) (show j < rs.length by omega), by omega⟩))] | rw [large_no (by omega) (by rw [← hrm]; exact all_snd (d := rq0) hrow), if_neg (by decide)], q1⟩
 refine sk (tn (sq (sr (asg rfl (nn (bl ?_))))))
 refine lpK (ι := Nat) [(1, _)] (fun j => [(3, .int .i64 (j : Int))]) (fun j w' => Fr [] w1 w' ∧ j ≤ rs.length ∧ ∀ k, k < j → ¬ 16 < (rs.getD k rq0).2.length) (fun j => rs.length - j) 0 (.c2 rfl rfl) ⟨Fr.refl _ _, ⟨Nat.zero_le _, fun j hj => absurd hj (Nat.not_lt_zero j)⟩⟩ ?_
 rintro j w2 ⟨q2, ⟨hj, hrow⟩⟩
 have z2 := q2.size
 refine kpC [(1, _), (3, _)] (.c2 rfl rfl) ?_
 refine sq (sr (mv rfl (fad rfl fa42_0 ?_)))
 replace hb1 := hb1.ext q2
 refine s_loadB rfl hb1 rfl na40 (lnS rfl Tryz.underlying40 (lt' rfl rfl (nn ?_)))
 refine cd rfl (fun c1 => ?_) (fun c1 => ?_)
 ·replace hqr := hqr0.ext (q1.n1 q2)
  have hjl := sl_len (hqr (rs.getD j rq0) (getD_memS (by omega)))
  have hjM := (hqr (rs.getD j rq0) (getD_memS (by omega))).len_le
  unfold maxLen at hjM
  refine sk (tn (sq (bl (sr (fad rfl fa42_0 (s_loadB rfl hb1 rfl na40 (mv rfl ?_)))))))
  replace hrs := hrs0.ext (q1.n1 q2)
  refine s_idxL (rq0) rfl hrs rfl er40 nat_of (fun ad18 hc18 => ?_)
  refine s_loadC0 rfl (hc18 _ hrs) na88 (lnS rfl Tryz.underlying88 (gt' rfl rfl (kpL [(1, _), (3, _), (21, _)] (.c3 rfl rfl rfl) (nn ?_))))
  refine cd rfl (fun c2 => ?_) (fun c2 => ?_)
  ·refine sr (asg rfl (nn (rt (rb (tr (tr (rb (tr (r1 Tryz.results58 rfl ?_)))))))))
   exact ⟨_, rfl, by first | rw [if_pos ((large_iff _).2 (.inl (by omega)))] | rw [if_pos ((large_iff _).2 (.inr ⟨_, by rw [← hrm]; exact mem_snd (d := rq0) (show j < rs.length by omega), by omega⟩))] | rw [large_no (by omega) (by rw [← hrm]; exact all_snd (d := rq0) hrow), if_neg (by decide)], (q1.n1 q2)⟩
  refine sk (bn' (tn (rg (mv rfl (s_add rfl rfl (wi6 (by omega)) (asg rfl (nl ?_)))))))
  exact lpE (j + 1) (.c2 rfl rfl) ⟨q2, ⟨by omega, all_step hrow (by omega)⟩⟩ (by omega)
 obtain rfl : j = rs.length := by omega
 refine ex (te (te (xh (tn (sr (asg rfl (nn (rt (r1 Tryz.results58 rfl ?_)))))))))
 exact ⟨_, rfl, by first | rw [if_pos ((large_iff _).2 (.inl (by omega)))] | rw [if_pos ((large_iff _).2 (.inr ⟨_, by rw [← hrm]; exact mem_snd (d := rq0) (show j < rs.length by omega), by omega⟩))] | rw [large_no (by omega) (by rw [← hrm]; exact all_snd (d := rq0) hrow), if_neg (by decide)], (q1.n1 q2)⟩
abbrev RowOk15 (k : Nat) (r : List Stitch) : Prop := ¬ (k = 1 ∧ r.length = 0) ∧ r.all okB = true
theorem rows_bad {m : Mot} {l t r : SV} {k : Nat} {row : List Stitch} (hN : NoL m l t r) (he : ¬ Edg m) (hk : k < 3) (hr : row ∈ ((bl3 m l t r).getD k cq0).2) (hb : (k = 1 ∧ row.length = 0) ∨ ∃ s ∈ row, checkS s ≠ 0) : motE m = 1 := by
 rcases hb with ⟨rfl, h0⟩ | ⟨s, hs, hc⟩
 ·exact mot1r hN he ⟨row, hr, h0⟩
 refine mot1 (l := l) (t := t) (r := r) hN he (.inr fun hg => ?_)
 have h1 := hg _ (getD_memS (d := cq0) (show k < (bl3 m l t r).length from hk))
 rw [good_no hr hs hc] at h1; cases h1
theorem rows_ok {m : Mot} {l t r : SV} (hN : NoL m l t r) (he : ¬ Edg m) (h0 : ¬ m.T.length = 0) (h : ∀ k, k < 3 → ∀ row ∈ ((bl3 m l t r).getD k cq0).2, RowOk15 k row) : motE m = 0 := by
 refine mot0 hN he h0 (fun q hq => ?_) (fun row hr e => (h 1 (by omega) row hr).1 ⟨rfl, e⟩)
 obtain ⟨k, hk⟩ := List.getElem?_of_mem hq
 have hk3 : k < 3 := (List.getElem?_eq_some_iff.1 hk).1
 have := h k hk3
 rw [List.getD, hk] at this
 exact List.all_eq_true.2 fun row hr => (this row hr).2
set_option maxHeartbeats 1000000 in
theorem refmot_ok (m : Mot) (l t r : SV) (w0 : World) (hm : MotAt w0 m l t r) : Rets Tryz.prog 42 #[.agg #[.slice l.1 l.2.1 l.2.2, .slice t.1 t.2.1 t.2.2, .slice r.1 r.2.1 r.2.2]] w0 fun v w' => v = .int .i64 (motE m) ∧ Fr [] w0 w' := by
 obtain ⟨hl1, hl2, hl3⟩ := hm.len
 refine we [(0, .agg #[.slice l.1 l.2.1 l.2.2, .slice t.1 t.2.1 t.2.2, .slice r.1 r.2.1 r.2.2])] Tryz.func42 rfl Tryz.ntmps42 rfl (.cons rfl .nil) ?_
 have hm0 := hm
 refine sr (bx rfl rfl rfl (fun g1 w1 hg1 hb1 q1 z1 => ?_))
 refine asg rfl (nn (sq (sq ?_)))
 refine rboF (r := 23) (L' := [(1, _)]) (((((if largeB m.L = true then 1 else 0) = 1) ∨ ((if largeB m.T = true then 1 else 0) = 1)) ∨ ((if largeB m.R = true then 1 else 0) = 1))) (.cons rfl .nil) ?_ ?_
 ·refine fad rfl fa46_0 (s_loadBP (vs := [_]) rfl hb1 ag42 rfl ?_)
  replace hm := hm0.ext q1
  refine cl (ev1 rfl) co58 (large_ok _ m.L _ hm.L) rfl ?_
  rintro _ w2 ⟨rfl, q2⟩
  have z2 := q2.size
  refine eq' rfl rfl (mv rfl ?_)
  refine gs 12 rfl (fun g0 => ?_) (fun g0 => ?_)
  ·exact gN rfl rfl rfl (gN rfl rfl rfl (gN rfl rfl rfl (gN rfl rfl rfl (pkt rfl rfl (mv rfl (gN rfl rfl rfl (gN rfl rfl rfl (gN rfl rfl rfl (gN rfl rfl rfl (pkt rfl rfl (rbeF rfl (.cons rfl .nil) q2)))))))))))
  refine gY rfl (fad rfl fa46_1 (gY rfl ?_))
  replace hb1 := hb1.ext q2
  refine s_loadBP (vs := [_]) rfl hb1 ag42 rfl (gY rfl ?_)
  replace hm := hm0.ext (q1.n1 q2)
  refine cl (ev1 rfl) co58 (large_ok _ m.T _ hm.T) rfl ?_
  rintro _ w3 ⟨rfl, q3⟩
  have z3 := q3.size
  refine gY rfl (eq' rfl rfl (pkf rfl rfl (mv rfl ?_)))
  refine gs 18 rfl (fun g1 => ?_) (fun g1 => ?_)
  ·exact gN rfl rfl rfl (gN rfl rfl rfl (gN rfl rfl rfl (gN rfl rfl rfl (pkt rfl rfl (rbeF rfl (.cons rfl .nil) (q2.n1 q3))))))
  refine gY rfl (fad rfl fa46_2 (gY rfl ?_))
  replace hb1 := hb1.ext q3
  refine s_loadBP (vs := [_]) rfl hb1 ag42 rfl (gY rfl ?_)
  replace hm := hm0.ext (q1.n2 q2 q3)
  refine cl (ev1 rfl) co58 (large_ok _ m.R _ hm.R) rfl ?_
  rintro _ w4 ⟨rfl, q4⟩
  have z4 := q4.size
  exact gY rfl (eq' rfl rfl (pkf rfl rfl (rbeF rfl (.cons rfl .nil) (q2.n2 q3 q4))))
 intro w5 q5; have z5 := q5.size
 refine tn ?_
 refine cd rfl (fun c0 => ?_) (fun c0 => ?_)
 ·refine sr (asg rfl (nn (rt (tr (r1 Tryz.results42 rfl ?_)))))
  exact ⟨_, rfl, by rw [mot3 (l := l) (t := t) (r := r) (fun h => by have := nol_iff.1 h; rw [this.1, this.2.1, this.2.2] at c0; simp at c0)], (q1.n1 q5)⟩
 have hN : NoL m l t r := nol_iff.2 ⟨by cases e : largeB m.L <;> simp_all, by cases e : largeB m.T <;> simp_all, by cases e : largeB m.R <;> simp_all⟩
 refine sk (tn (sr (fad rfl fa46_1 (s_fad2 rfl fa42_0 ?_))))
 replace hb1 := hb1.ext q5
 refine s_loadB rfl hb1 rfl na40 (lnS rfl Tryz.underlying40 (asg rfl (nn (sq (sq ?_)))))
 refine rbo (r := 55) (L' := [(1, _), (3, _)]) (((((l.2.1 : Int) ≠ 0) ∧ ((l.2.1 : Int) ≠ (t.2.1 : Int))) ∨ (((r.2.1 : Int) ≠ 0) ∧ ((r.2.1 : Int) ≠ (t.2.1 : Int))))) (.c2 rfl rfl) ?_ ?_
 ·refine fad rfl fa46_0 (s_fad2 rfl fa42_0 (s_loadB rfl hb1 rfl na40 (lnS rfl Tryz.underlying40 (ne' rfl rfl (mv rfl ?_)))))
  refine gs 33 rfl (fun g2 => ?_) (fun g2 => ?_)
  ·refine gY rfl (fad rfl fa46_0 (gY rfl (s_fad2 rfl fa42_0 (gY rfl (s_loadB rfl hb1 rfl na40 (gY rfl (lnS rfl Tryz.underlying40 (gY rfl (mv rfl (gY rfl (ne' rfl rfl ?_)))))))))))
   refine pkt rfl rfl (mv rfl ?_)
   refine gs 41 rfl (fun g3 => ?_) (fun g3 => ?_)
   ·refine gN rfl rfl rfl (gN rfl rfl rfl (gN rfl rfl rfl (gN rfl rfl rfl (gN rfl rfl rfl (gN rfl rfl rfl (gS rfl rfl (gS rfl rfl (gS rfl rfl (gS rfl rfl (gS rfl rfl (gS rfl rfl ?_)))))))))))
    exact gN rfl rfl rfl (pkt rfl rfl (rbe rfl (.c2 rfl rfl)))
   refine gY rfl (fad rfl fa46_2 (gY rfl (s_fad2 rfl fa42_0 (gY rfl (s_loadB rfl hb1 rfl na40 (gY rfl (lnS rfl Tryz.underlying40 (gY rfl (ne' rfl rfl (gY rfl (mv rfl ?_)))))))))))
   refine gs 47 rfl (fun g4 => ?_) (fun g4 => ?_)
   ·refine gY rfl (fad rfl fa46_2 (gY rfl (s_fad2 rfl fa42_0 (gY rfl (s_loadB rfl hb1 rfl na40 (gY rfl (lnS rfl Tryz.underlying40 (gY rfl (mv rfl (gY rfl (ne' rfl rfl ?_)))))))))))
    exact gY rfl (pkt rfl rfl (pkf rfl rfl (rbe rfl (.c2 rfl rfl))))
   exact gN rfl rfl rfl (gN rfl rfl rfl (gN rfl rfl rfl (gN rfl rfl rfl (gN rfl rfl rfl (gN rfl rfl rfl (gY rfl (pkf rfl rfl (pkf rfl rfl (rbe rfl (.c2 rfl rfl))))))))))
  refine gN rfl rfl rfl (gN rfl rfl rfl (gN rfl rfl rfl (gN rfl rfl rfl (gN rfl rfl rfl (gN rfl rfl rfl (pkf rfl rfl (mv rfl (gY rfl (fad rfl fa46_2 (gY rfl (s_fad2 rfl fa42_0 ?_)))))))))))
  refine gY rfl (s_loadB rfl hb1 rfl na40 (gY rfl (lnS rfl Tryz.underlying40 (gY rfl (ne' rfl rfl (gY rfl (mv rfl ?_)))))))
  refine gs 47 rfl (fun g5 => ?_) (fun g5 => ?_)
  ·refine gY rfl (fad rfl fa46_2 (gY rfl (s_fad2 rfl fa42_0 (gY rfl (s_loadB rfl hb1 rfl na40 (gY rfl (lnS rfl Tryz.underlying40 (gY rfl (mv rfl (gY rfl (ne' rfl rfl ?_)))))))))))
   exact gY rfl (pkt rfl rfl (pkf rfl rfl (rbe rfl (.c2 rfl rfl))))
  exact gN rfl rfl rfl (gN rfl rfl rfl (gN rfl rfl rfl (gN rfl rfl rfl (gN rfl rfl rfl (gN rfl rfl rfl (gY rfl (pkf rfl rfl (pkf rfl rfl (rbe rfl (.c2 rfl rfl))))))))))
 refine tn ?_
 refine cd rfl (fun c1 => ?_) (fun c1 => ?_)
 ·refine sr (asg rfl (nn (rt (tr (r1 Tryz.results42 rfl ?_)))))
  exact ⟨_, rfl, by rw [mot5 (l := l) (t := t) (r := r) hN (by unfold Edg; omega)], (q1.n1 q5)⟩
 have hne : ¬ Edg m := fun e => c1 (by unfold Edg at e; omega)
 refine sk (tn (sq (sr (mv rfl (eq' rfl rfl (nn ?_))))))
 refine cd rfl (fun c2 => ?_) (fun c2 => ?_)
 ·refine sr (asg rfl (nn (rt (tr (r1 Tryz.results42 rfl ?_)))))
  exact ⟨_, rfl, by rw [mot1 (l := l) (t := t) (r := r) hN hne (.inl (by omega))], (q1.n1 q5)⟩
 refine sk (tn (sr (fad rfl fa46_0 (s_loadBP (vs := [_]) rfl hb1 ag42 rfl (fad rfl fa46_1 (s_loadBP (vs := [_]) rfl hb1 ag42 rfl (fad rfl fa46_2 (s_loadBP (vs := [_]) rfl hb1 ag42 rfl (s_lit (cs := [_, _, _]) (ev3 rfl rfl rfl) bo167 (pok_cons rfl rfl rfl (pok_cons rfl rfl rfl (pok_cons rfl rfl rfl pok_nil))) rfl ?_)))))))))
 refine al zv167 rfl rfl (fun g4 w6 hg4 hb4 q6 z6 => ?_)
 refine s_storeBA rfl rfl hb4 rfl sz167 (fun w7 hb4 q7 z7 => ?_)
 refine kpL [(4, _)] (.cons rfl .nil) (nn (sq (sr (asg rfl (nn (bl ?_))))))
 refine lpK (ι := Nat) [(4, _)] (fun k => [(5, .int .i64 (k : Int))]) (fun k w' => Fr [] w7 w' ∧ k ≤ 3 ∧ ∀ k', k' < k → ∀ row ∈ ((bl3 m l t r).getD k' cq0).2, RowOk15 k' row) (fun k => 3 - k) 0 (.c2 rfl rfl) ⟨Fr.refl _ _, ⟨Nat.zero_le _, fun j hj => absurd hj (Nat.not_lt_zero j)⟩⟩ ?_
 rintro k w8 ⟨q8, ⟨hk, hall⟩⟩
 have z8 := q8.size
 refine kpC [(4, _), (5, _)] (.c2 rfl rfl) ?_
 refine sq (sr (mv rfl (lt' rfl rfl (nn ?_))))
 refine cd rfl (fun c3 => ?_) (fun c3 => ?_)
 ·replace hm := hm0.ext (q1.z4 q5 q6 q7 q8)
  obtain ⟨hqS, hqL⟩ := hm.chs3.at (i := k) (show k < 3 by omega)
  obtain ⟨rs, hrs, hqr, hrm⟩ := Sll.opn hqS
  have hrl := sl_len hrs
  have hrM := hrs.len_le
  unfold maxLen at hrM
  have hrs0 := hrs
  have hqr0 := hqr
  refine sk (tn (sq (bl (sr (asg rfl (nn (bl ?_)))))))
  refine lpK (ι := Nat) [(4, _), (5, _)] (fun j => [(6, .int .i64 (j : Int))]) (fun j w' => Fr [] w8 w' ∧ j ≤ rs.length ∧ ∀ a, a < j → RowOk15 k (rs.getD a rq0).2) (fun j => rs.length - j) 0 (.c3 rfl rfl rfl) ⟨Fr.refl _ _, ⟨Nat.zero_le _, fun j hj => absurd hj (Nat.not_lt_zero j)⟩⟩ ?_
  rintro j w9 ⟨q9, ⟨hj, hrow⟩⟩
  have z9 := q9.size
  refine kpC [(4, _), (5, _), (6, _)] (.c3 rfl rfl rfl) ?_
  refine sq (sr (mv rfl (mv rfl (s_idxA rfl rfl Tryz.underlying167 sz42 (s_fad2 rfl fa42_0 ?_)))))
  replace hb4 := hb4.ext (q8.n1 q9)
  refine s_loadB rfl hb4 (bl3_get m l t r (by omega)) na40 (lnS rfl Tryz.underlying40 (lt' rfl rfl (kpL [(4, _), (5, _), (6, _), (75, _)] (.c4 rfl rfl rfl rfl) (nn ?_))))
  refine cd rfl (fun c4 => ?_) (fun c4 => ?_)
  ·replace hqr := hqr0.ext q9
   replace hm := hm0.ext (q1.z5 q5 q6 q7 q8 q9)
   have hjl := sl_len (hqr (rs.getD j rq0) (getD_memS (by omega)))
   have hjM := (hqr (rs.getD j rq0) (getD_memS (by omega))).len_le
   unfold maxLen at hjM
   have hrg := hm.rng3 (l := l) (t := t) (r := r) (k := k) (by omega) (rs.getD j rq0).2 (by rw [← hrm]; exact mem_snd (d := rq0) (by omega))
   refine sk (tn (sq (bl (sq (sq ?_)))))
   refine rbo (r := 90) (L' := [(4, _), (5, _), (6, _)]) ((((k : Int) = 1) ∧ (((rs.getD j rq0).1.2.1 : Int) = 0))) (.c3 rfl rfl rfl) ?_ ?_
   ·refine mv rfl (eq' rfl rfl (mv rfl ?_))
    refine gs 80 rfl (fun g6 => ?_) (fun g6 => ?_)
    ·refine gY rfl (mv rfl (gY rfl (s_idxA rfl rfl Tryz.underlying167 sz42 (gY rfl (s_fad2 rfl fa42_0 (gY rfl (s_loadB rfl hb4 (bl3_get m l t r (by omega)) na40 (gY rfl (mv rfl (gY rfl ?_))))))))))
     replace hrs := hrs0.ext q9
     refine s_idxL (rq0) rfl hrs rfl er40 nat_of (fun ad86 hc86 => ?_)
     exact gY rfl (s_loadC0 rfl (hc86 _ hrs) na88 (gY rfl (lnS rfl Tryz.underlying88 (gY rfl (eq' rfl rfl (pkt rfl rfl (rbe rfl (.c3 rfl rfl rfl))))))))
    exact gN rfl rfl rfl (gN rfl rfl rfl (gN rfl rfl rfl (gN rfl rfl rfl (gN rfl rfl rfl (gN rfl rfl rfl (gN rfl rfl rfl (gN rfl rfl rfl (gN rfl rfl rfl (pkf rfl rfl (rbe rfl (.c3 rfl rfl rfl)))))))))))
   refine tn ?_
   refine cd rfl (fun c5 => ?_) (fun c5 => ?_)
   ·refine sr (asg rfl (nn (rt (tr (rb (tr (tr (rb (rb (tr (tr ?_)))))))))))
    refine rb (tr (r1 Tryz.results42 rfl ?_))
    exact ⟨_, rfl, by rw [rows_bad hN hne (k := k) (by omega) (row := (rs.getD j rq0).2) (by rw [← hrm]; exact mem_snd (d := rq0) (by omega)) (.inl (by omega))], (q1.z5 q5 q6 q7 q8 q9)⟩
   refine sk (tn (sr (asg rfl (nn (bl ?_)))))
   refine lpK (ι := Nat) [(4, _), (5, _), (6, _)] (fun n => [(7, .int .i64 (n : Int))]) (fun n w' => Fr [] w9 w' ∧ n ≤ (rs.getD j rq0).2.length ∧ ∀ a, a < n → okB ((rs.getD j rq0).2.getD a zeroS) = true) (fun n => (rs.getD j rq0).2.length - n) 0 (.c4 rfl rfl rfl rfl) ⟨Fr.refl _ _, ⟨Nat.zero_le _, fun j hj => absurd hj (Nat.not_lt_zero j)⟩⟩ ?_
   rintro n w10 ⟨q10, ⟨hn, hst⟩⟩
   have z10 := q10.size
   refine kpC [(4, _), (5, _), (6, _), (7, _)] (.c4 rfl rfl rfl rfl) ?_
   refine sq (sr (mv rfl (mv rfl (s_idxA rfl rfl Tryz.underlying167 sz42 (s_fad2 rfl fa42_0 ?_)))))
   replace hb4 := hb4.ext q10
   refine s_loadB rfl hb4 (bl3_get m l t r (by omega)) na40 (mv rfl ?_)
   replace hrs := hrs0.ext (q9.n1 q10)
   refine s_idxL (rq0) rfl hrs rfl er40 nat_of (fun ad97 hc97 => ?_)
   refine s_loadC0 rfl (hc97 _ hrs) na88 (lnS rfl Tryz.underlying88 (lt' rfl rfl (kpL [(4, _), (5, _), (6, _), (7, _), (100, _)] (.c5 rfl rfl rfl rfl rfl) (nn ?_))))
   refine cd rfl (fun c6 => ?_) (fun c6 => ?_)
   ·refine sk (tn (sq (bl (sr (mv rfl (s_idxA rfl rfl Tryz.underlying167 sz42 (s_fad2 rfl fa42_0 (s_loadB rfl hb4 (bl3_get m l t r (by omega)) na40 (mv rfl (s_idxL (rq0) rfl hrs rfl er40 nat_of (fun ad108 hc108 => ?_)))))))))))
    refine s_loadC0 rfl (hc108 _ hrs) na88 (mv rfl ?_)
    replace hqr := hqr0.ext (q9.n1 q10)
    refine s_idxL (zeroS) rfl (hqr (rs.getD j rq0) (getD_memS (by omega))) rfl el88 nat_of (fun ad111 hc111 => ?_)
    refine s_loadA rfl (hc111 _ (hqr (rs.getD j rq0) (getD_memS (by omega)))) ag91 ?_
    refine cl (ev1 rfl) co75 (valid_ok ((rs.getD j rq0).2.getD n zeroS) _ (hrg _ (getD_memS (by omega))).1 (hrg _ (getD_memS (by omega))).2) rfl ?_
    rintro _ w11 ⟨rfl, q11⟩
    have z11 := q11.size
    refine eq' rfl rfl (kpL [(4, _), (5, _), (6, _), (7, _), (114, _)] (.c5 rfl rfl rfl rfl rfl) (nn ?_))
    refine cd rfl (fun c7 => ?_) (fun c7 => ?_)
    ·refine sr (asg rfl (nn (rt (rb (tr (tr (rb (rb (tr (tr (rb ?_)))))))))))
     refine rb (tr (tr (rb (tr (r1 Tryz.results42 rfl ?_)))))
     exact ⟨_, rfl, by rw [rows_bad hN hne (k := k) (by omega) (row := (rs.getD j rq0).2) (by rw [← hrm]; exact mem_snd (d := rq0) (by omega)) (.inr ⟨_, getD_memS (d := zeroS) (show n < (rs.getD j rq0).2.length by omega), fun e => by rw [if_pos e] at c7; cases c7⟩)], ((q1.z6 q5 q6 q7 q8 q9 q10).n1 q11)⟩
    refine sk (bn' (tn (rg (mv rfl (s_add rfl rfl (wi6 (by omega)) (asg rfl (nl ?_)))))))
    exact lpE (n + 1) (.c4 rfl rfl rfl rfl) ⟨(q10.n1 q11), ⟨by omega, all_step hst ((okB_iff _).2 (Classical.not_not.1 fun e => by rw [if_neg e] at c7; exact c7 rfl))⟩⟩ (by omega)
   obtain rfl : n = (rs.getD j rq0).2.length := by omega
   refine ex (te (te (xh (bn' (tn (rg (mv rfl (s_add rfl rfl (wi6 (by omega)) (asg rfl (nl ?_))))))))))
   exact lpE (j + 1) (.c3 rfl rfl rfl) ⟨(q9.n1 q10), ⟨by omega, all_step hrow ⟨by omega, List.all_eq_true.2 (all_lt (d := zeroS) hst)⟩⟩⟩ (by omega)
  obtain rfl : j = rs.length := by omega
  refine ex (te (te (xh (bn' (tn (rg (mv rfl (s_add rfl rfl (wi6 (by omega)) (asg rfl (nl ?_))))))))))
  exact lpE (k + 1) (.c2 rfl rfl) ⟨(q8.n1 q9), ⟨by omega, all_step hall (by rw [← hrm]; exact all_snd (d := rq0) hrow)⟩⟩ (by omega)
 obtain rfl : k = 3 := by omega
 refine ex (te (te (xh (tn (sr (asg rfl (nn (rt (r1 Tryz.results42 rfl ?_)))))))))
 exact ⟨_, rfl, by rw [rows_ok hN hne (fun h => c2 (by omega)) hall], (q1.z4 q5 q6 q7 q8)⟩
end Go.Proofs.YthehggmdcmpjeaaGreatDoor
namespace Go.Proofs.YthehggmdcmpjeaaGreatDoor
open Go.Lw Go.G14
theorem ag46 : AggOf Tryz.prog 46 3 := ⟨fun _ => by kernel_rfl, fun _ => by kernel_rfl⟩
theorem ag48 : AggOf Tryz.prog 48 8 := ⟨fun _ => by kernel_rfl, fun _ => by kernel_rfl⟩
theorem co24 : CallOf Tryz.prog 24 := mkC Tryz.func24
theorem co47 : CallOf Tryz.prog 47 := mkC Tryz.func47
theorem co48 : CallOf Tryz.prog 48 := mkC Tryz.func48
theorem co49 : CallOf Tryz.prog 49 := mkC Tryz.func49
theorem el25 : ElemOf Tryz.prog 25 48 encPq 120 := ElemOf.mk' (z := (.agg #[(S []), (.slice none 0 0), (.slice none 0 0), (.slice none 0 0), (.int .i64 0), (.int .i64 0), (.int .i64 0), (.int .i64 0)])) Tryz.underlying25 (by kernel_rfl) rfl
theorem fa27_0 : FieldAt Tryz.prog 27 0 0 := fun _ _ => by kernel_rfl
theorem fa27_1 : FieldAt Tryz.prog 27 1 1 := fun _ _ => by kernel_rfl
theorem fa48_0 : FieldAt Tryz.prog 48 0 0 := fun _ _ => by kernel_rfl
theorem fa48_1 : FieldAt Tryz.prog 48 1 1 := fun _ _ => by kernel_rfl
theorem fa48_2 : FieldAt Tryz.prog 48 2 4 := fun _ _ => by kernel_rfl
theorem fa48_3 : FieldAt Tryz.prog 48 3 5 := fun _ _ => by kernel_rfl
theorem fa48_4 : FieldAt Tryz.prog 48 4 6 := fun _ _ => by kernel_rfl
theorem fa48_5 : FieldAt Tryz.prog 48 5 7 := fun _ _ => by kernel_rfl
theorem na25 : NotAgg Tryz.prog 25 := fun _ => by kernel_rfl
theorem sz48 : SizeOf Tryz.prog 48 8 := fun _ => by kernel_rfl
theorem zv48 (w : World) : (zeroValue 48).run Tryz.prog w = .ok (.agg #[(S []), (.slice none 0 0), (.slice none 0 0), (.slice none 0 0), (.int .i64 0), (.int .i64 0), (.int .i64 0), (.int .i64 0)]) w := by kernel_rfl
theorem right_iff (p : Pc) : rightB p = true ↔ nameB p.nm = true ∧ 1 ≤ p.ba ∧ p.ba ≤ 16 ∧ 0 ≤ p.st ∧ p.st ≤ 4 ∧ 1 ≤ p.up ∧ p.up ≤ 31 ∧ 1 ≤ p.ct ∧ p.ct ≤ 9 := by
 unfold rightB; rw [Bool.and_eq_true, decide_eq_true_eq]
theorem bnot_pos {b : Bool} (h : (!b) = true) : ¬ b = true := by cases b; decide; cases h
theorem bnot_neg {b : Bool} (h : ¬ (!b) = true) : b = true := by cases b; exact absurd rfl h; rfl
section
variable {nm : List UInt8} {qs : List PQ}
abbrev PcAt (qs : List PQ) (i : Nat) : Pc := (qs.getD i pq0).p
theorem pcs_len (qs : List PQ) : (pcs qs).length = qs.length := by simp
theorem gar_a (h : 8 < qs.length) : garE nm (pcs qs) = 3 := by unfold garE; rw [if_pos (by rw [pcs_len]; exact h)]
theorem gar_b (h : ¬ 8 < qs.length) (h2 : qs.length = 0 ∨ ¬ nameB nm = true) : garE nm (pcs qs) = 1 := by
 unfold garE; rw [if_neg (by rw [pcs_len]; exact h), if_pos (by rw [pcs_len]; exact h2.imp id fun e => by cases h : nameB nm; rfl; exact absurd h e)]
theorem gar_nb (h2 : ¬ (qs.length = 0 ∨ ¬ nameB nm = true)) : ¬ ((pcs qs).length = 0 ∨ nameB nm = false) := by
 rw [pcs_len]; exact fun e => h2 (e.imp id fun e h => by rw [e] at h; cases h)
theorem gar_c (h : ¬ 8 < qs.length) (h2 : ¬ (qs.length = 0 ∨ ¬ nameB nm = true)) {i : Nat} (hi : i < qs.length) (hr : ¬ rightB (PcAt qs i) = true) : garE nm (pcs qs) = 1 := by
 unfold garE; rw [if_neg (by rw [pcs_len]; exact h), if_neg (gar_nb h2), if_pos]
 rw [Bool.eq_false_iff]; intro e
 exact hr (List.all_eq_true.1 e _ (List.mem_map.2 ⟨_, getD_memS hi, rfl⟩))
theorem all_right (hr : ∀ j, j < qs.length → rightB (PcAt qs j) = true) : ¬ (pcs qs).all rightB = false := by
 have : (pcs qs).all rightB = true := List.all_eq_true.2 fun p hp => by
  obtain ⟨q, hq, rfl⟩ := List.mem_map.1 hp
  exact all_lt (d := pq0) (p := fun q => rightB q.p = true) hr q hq
 rw [this]; decide
theorem dup_yes {i k : Nat} (hi : i < qs.length) (hk : k < i) (he : (PcAt qs i).nm = (PcAt qs k).nm) : dupB (pcs qs) = true := by
 unfold dupB
 rw [List.any_eq_true]
 refine ⟨i, by rw [pcs_len]; exact List.mem_range.2 hi, ?_⟩
 rw [List.any_eq_true]
 exact ⟨k, List.mem_range.2 hk, by rw [pcs_get, pcs_get]; exact decide_eq_true he⟩
theorem dup_no (h : ∀ i, i < qs.length → ∀ k, k < i → ¬ (PcAt qs i).nm = (PcAt qs k).nm) : ¬ dupB (pcs qs) = true := by
 unfold dupB
 rw [List.any_eq_true]
 rintro ⟨i, hi, h2⟩
 rw [List.any_eq_true] at h2
 obtain ⟨k, hk, h3⟩ := h2
 rw [pcs_len] at hi
 rw [pcs_get, pcs_get] at h3
 exact h i (List.mem_range.1 hi) k (List.mem_range.1 hk) (of_decide_eq_true h3)
theorem gar_d (h : ¬ 8 < qs.length) (h2 : ¬ (qs.length = 0 ∨ ¬ nameB nm = true)) (hr : ∀ j, j < qs.length → rightB (PcAt qs j) = true) (hd : dupB (pcs qs) = true) : garE nm (pcs qs) = 8 := by
 unfold garE; rw [if_neg (by rw [pcs_len]; exact h), if_neg (gar_nb h2), if_neg (all_right hr), if_pos hd]
theorem gar_e (h : ¬ 8 < qs.length) (h2 : ¬ (qs.length = 0 ∨ ¬ nameB nm = true)) (hr : ∀ j, j < qs.length → rightB (PcAt qs j) = true) (hd : ¬ dupB (pcs qs) = true) : garE nm (pcs qs) = motsE (pcs qs) := by
 unfold garE; rw [if_neg (by rw [pcs_len]; exact h), if_neg (gar_nb h2), if_neg (all_right hr), if_neg hd]
theorem mots_at : ∀ {qs : List PQ} {i : Nat}, i < qs.length → (∀ j, j < i → motE (PcAt qs j).mot = 0) → motE (PcAt qs i).mot ≠ 0 → motsE (pcs qs) = motE (PcAt qs i).mot
 | [], i, h, _, _ => by simp at h
 | q :: qs, 0, _, _, h => by show (if motE q.p.mot ≠ 0 then _ else _) = _; rw [if_pos (show motE q.p.mot ≠ 0 from h)]; rfl
 | q :: qs, i + 1, hl, hb, h => by
  have h0 : motE q.p.mot = 0 := hb 0 (by omega)
  show (if motE q.p.mot ≠ 0 then _ else motsE (pcs qs)) = _
  rw [if_neg (by omega)]
  exact mots_at (qs := qs) (i := i) (by simp at hl; omega) (fun j hj => hb (j + 1) (by omega)) h
theorem mots_no : ∀ {qs : List PQ}, (∀ j, j < qs.length → motE (PcAt qs j).mot = 0) → motsE (pcs qs) = 0
 | [], _ => rfl
 | q :: qs, hb => by
  have h0 : motE q.p.mot = 0 := hb 0 (by simp)
  show (if motE q.p.mot ≠ 0 then _ else motsE (pcs qs)) = _
  rw [if_neg (by omega)]
  exact mots_no (qs := qs) (fun j hj => hb (j + 1) (by simp; omega))
theorem take_pq {i k : Nat} (h : k < i) : (qs.take i).getD k pq0 = qs.getD k pq0 := by
 rw [List.getD, List.getD, List.getElem?_take, if_pos h]
end
theorem right_ok (q : PQ) (w0 : World) : Rets Tryz.prog 48 #[.agg #[S q.p.nm, .slice q.l.1 q.l.2.1 q.l.2.2, .slice q.t.1 q.t.2.1 q.t.2.2, .slice q.r.1 q.r.2.1 q.r.2.2, .int .i64 q.p.ba, .int .i64 q.p.st, .int .i64 q.p.up, .int .i64 q.p.ct]] w0 fun v w' => v = .bool (rightB q.p) ∧ Fr [] w0 w' := by
 refine we [(0, .agg #[S q.p.nm, .slice q.l.1 q.l.2.1 q.l.2.2, .slice q.t.1 q.t.2.1 q.t.2.2, .slice q.r.1 q.r.2.1 q.r.2.2, .int .i64 q.p.ba, .int .i64 q.p.st, .int .i64 q.p.up, .int .i64 q.p.ct])] Tryz.func48 rfl Tryz.ntmps48 rfl (.cons rfl .nil) ?_
 refine sr (bx rfl rfl rfl (fun g1 w1 hg1 hb1 q1 z1 => ?_))
 refine asg rfl (nn (sq ?_))
 refine rboF (r := 2) (L' := []) ((((((nameB q.p.nm = true) ∧ (1 ≤ q.p.ba ∧ q.p.ba ≤ 16)) ∧ (0 ≤ q.p.st ∧ q.p.st ≤ 4)) ∧ (1 ≤ q.p.up ∧ q.p.up ≤ 31)) ∧ (1 ≤ q.p.ct ∧ q.p.ct ≤ 9))) .nil ?_ ?_
 ·refine fad rfl fa48_0 (s_loadB rfl hb1 rfl na9 ?_)
  refine cl (ev1 rfl) co47 (named_ok _ _) rfl ?_
  rintro _ w2 ⟨rfl, q2⟩
  have z2 := q2.size
  refine mv rfl ?_
  refine gs 6 rfl (fun g0 => ?_) (fun g0 => ?_)
  ·refine gY rfl (fad rfl fa48_2 (gY rfl ?_))
   replace hb1 := hb1.ext q2
   refine s_loadB rfl hb1 rfl na3 (gY rfl ?_)
   refine cl (ev3 rfl rfl rfl) co24 (within_ok _ _ _ _) rfl ?_
   rintro _ w3 ⟨rfl, q3⟩
   have z3 := q3.size
   refine pkt rfl rfl (mv rfl ?_)
   refine gs 11 rfl (fun g1 => ?_) (fun g1 => ?_)
   ·refine gY rfl (fad rfl fa48_3 (gY rfl ?_))
    replace hb1 := hb1.ext q3
    refine s_loadB rfl hb1 rfl na3 (gY rfl ?_)
    refine cl (ev3 rfl rfl rfl) co24 (within_ok _ _ _ _) rfl ?_
    rintro _ w4 ⟨rfl, q4⟩
    have z4 := q4.size
    refine pkt rfl rfl (mv rfl ?_)
    refine gs 16 rfl (fun g2 => ?_) (fun g2 => ?_)
    ·refine gY rfl (fad rfl fa48_4 (gY rfl ?_))
     replace hb1 := hb1.ext q4
     refine s_loadB rfl hb1 rfl na3 (gY rfl ?_)
     refine cl (ev3 rfl rfl rfl) co24 (within_ok _ _ _ _) rfl ?_
     rintro _ w5 ⟨rfl, q5⟩
     have z5 := q5.size
     refine pkt rfl rfl (mv rfl ?_)
     refine gs 21 rfl (fun g3 => ?_) (fun g3 => ?_)
     ·refine gY rfl (fad rfl fa48_5 (gY rfl ?_))
      replace hb1 := hb1.ext q5
      refine s_loadB rfl hb1 rfl na3 (gY rfl ?_)
      refine cl (ev3 rfl rfl rfl) co24 (within_ok _ _ _ _) rfl ?_
      rintro _ w6 ⟨rfl, q6⟩
      have z6 := q6.size
      exact pkt rfl rfl (asg rfl (rbeF rfl .nil (q2.n4 q3 q4 q5 q6)))
     exact gN rfl rfl rfl (gN rfl rfl rfl (gN rfl rfl rfl (pkf rfl rfl (asg rfl (rbeF rfl .nil (q2.n3 q3 q4 q5))))))
    exact gN rfl rfl rfl (gN rfl rfl rfl (gN rfl rfl rfl (pkf rfl rfl (mv rfl (gN rfl rfl rfl (gN rfl rfl rfl (gN rfl rfl rfl (pkf rfl rfl (asg rfl (rbeF rfl .nil (q2.n2 q3 q4)))))))))))
   refine gN rfl rfl rfl (gN rfl rfl rfl (gN rfl rfl rfl (pkf rfl rfl (mv rfl (gN rfl rfl rfl (gN rfl rfl rfl (gN rfl rfl rfl (pkf rfl rfl (mv rfl (gN rfl rfl rfl (gN rfl rfl rfl ?_)))))))))))
   exact gN rfl rfl rfl (pkf rfl rfl (asg rfl (rbeF rfl .nil (q2.n1 q3))))
  refine gN rfl rfl rfl (gN rfl rfl rfl (gN rfl rfl rfl (pkf rfl rfl (mv rfl (gN rfl rfl rfl (gN rfl rfl rfl (gN rfl rfl rfl (pkf rfl rfl (mv rfl (gN rfl rfl rfl (gN rfl rfl rfl ?_)))))))))))
  exact gN rfl rfl rfl (pkf rfl rfl (mv rfl (gN rfl rfl rfl (gN rfl rfl rfl (gN rfl rfl rfl (pkf rfl rfl (asg rfl (rbeF rfl .nil q2))))))))
 intro w7 q7; have z7 := q7.size
 refine tn (rt (r1 Tryz.results48 rfl ?_))
 exact ⟨_, rfl, congrArg Value.bool (by rw [Bool.eq_iff_iff, decide_eq_true_iff, right_iff]; exact ⟨fun ⟨⟨⟨⟨a, b⟩, c⟩, d⟩, e⟩ => ⟨a, by omega⟩, fun ⟨a, b⟩ => ⟨⟨⟨⟨a, by omega⟩, by omega⟩, by omega⟩, by omega⟩⟩), (q1.n1 q7)⟩
set_option maxHeartbeats 1000000 in
theorem gcheck_ok (nm : List UInt8) (v : Value) (qs : List PQ) (w0 : World) (hs : Sl encPq w0 v qs) (hq : PcsQ w0 qs) : Rets Tryz.prog 23 #[.agg #[S nm, v]] w0 fun r w' => r = .int .i64 (garE nm (pcs qs)) ∧ Fr [] w0 w' := by
 obtain ⟨A, c, rfl, hcc, hM, hA⟩ := id hs
 clear hA
 unfold maxLen at hM
 refine we [(0, .agg #[S nm, .slice A qs.length c])] Tryz.func23 rfl Tryz.ntmps23 rfl (.cons rfl .nil) ?_
 have hs0 := hs
 have hq0 := hq
 refine sr (bx rfl rfl rfl (fun g1 w1 hg1 hb1 q1 z1 => ?_))
 refine asg rfl (nn (sq (sr (fad rfl fa27_1 (s_loadB rfl hb1 rfl na25 (lnS rfl Tryz.underlying25 (gt' rfl rfl (nn ?_))))))))
 refine cd rfl (fun c0 => ?_) (fun c0 => ?_)
 ·refine sr (asg rfl (nn (rt (tr (r1 Tryz.results23 rfl ?_)))))
  exact ⟨_, rfl, by rw [gar_a (by omega)], q1⟩
 refine sk (tn (sq (sq ?_)))
 refine rboF (r := 25) (L' := [(1, _)]) ((((qs.length : Int) = 0) ∨ (¬ (nameB nm = true)))) (.cons rfl .nil) ?_ ?_
 ·refine fad rfl fa27_1 (s_loadB rfl hb1 rfl na25 (lnS rfl Tryz.underlying25 (eq' rfl rfl (mv rfl ?_))))
  refine gs 20 rfl (fun g0 => ?_) (fun g0 => ?_)
  ·exact gN rfl rfl rfl (gN rfl rfl rfl (gN rfl rfl rfl (gN rfl rfl rfl (pkt rfl rfl (rbeF rfl (.cons rfl .nil) (Fr.refl _ _))))))
  refine gY rfl (fad rfl fa27_0 (gY rfl (s_loadB rfl hb1 rfl na9 (gY rfl ?_))))
  refine cl (ev1 rfl) co47 (named_ok _ _) rfl ?_
  rintro _ w2 ⟨rfl, q2⟩
  have z2 := q2.size
  exact gY rfl (nt' rfl (pkf rfl rfl (rbeF rfl (.cons rfl .nil) q2)))
 intro w3 q3; have z3 := q3.size
 refine tn ?_
 refine cd rfl (fun c1 => ?_) (fun c1 => ?_)
 ·refine sr (asg rfl (nn (rt (tr (r1 Tryz.results23 rfl ?_)))))
  exact ⟨_, rfl, by rw [gar_b (by omega) (by rcases c1 with h | h; exact .inl (by omega); exact .inr h)], (q1.n1 q3)⟩
 refine sk (tn (sq (sr (fad rfl fa27_1 ?_))))
 replace hb1 := hb1.ext q3
 refine s_loadB rfl hb1 rfl na25 (lnS rfl Tryz.underlying25 (mv rfl (nn (bl ?_))))
 refine lpK (ι := Nat) [(1, _), (27, _), (28, _)] (fun i => [(29, .int .i64 (i : Int))]) (fun i w' => Fr [] w3 w' ∧ i ≤ qs.length ∧ ∀ j, j < i → rightB (PcAt qs j) = true) (fun i => qs.length - i) 0 (.c4 rfl rfl rfl rfl) ⟨Fr.refl _ _, ⟨Nat.zero_le _, fun j hj => absurd hj (Nat.not_lt_zero j)⟩⟩ ?_
 rintro i w4 ⟨q4, ⟨hi, hr⟩⟩
 have z4 := q4.size
 refine kpC [(1, _), (27, _), (28, _), (29, _)] (.c4 rfl rfl rfl rfl) ?_
 refine sr (lt' rfl rfl (nn (sq ?_)))
 refine cd rfl (fun c2 => ?_) (fun c2 => ?_)
 ·refine sk (tn (sq (bl (sr ?_))))
  replace hs := hs0.ext (q1.n2 q3 q4)
  refine s_idxL (pq0) rfl hs rfl el25 nat_of (fun ad31 hc31 => ?_)
  refine s_loadA rfl (hc31 _ hs) ag48 (al zv48 rfl rfl (fun g4 w5 hg4 hb4 q5 z5 => ?_))
  refine s_storeBA rfl rfl hb4 rfl sz48 (fun w6 hb4 q6 z6 => ?_)
  refine nn (sr (s_loadBA rfl hb4 ag48 ?_))
  refine cl (ev1 rfl) co48 (right_ok (qs.getD i pq0) _) rfl ?_
  rintro _ w7 ⟨rfl, q7⟩
  have z7 := q7.size
  refine nt' rfl (nn ?_)
  refine cd rfl (fun c3 => ?_) (fun c3 => ?_)
  ·refine sr (asg rfl (nn (rt (rb (tr (tr (rb (tr (r1 Tryz.results23 rfl ?_)))))))))
   exact ⟨_, rfl, by rw [gar_c (by omega) (fun e => c1 (by rcases e with h | h; exact .inl (by omega); exact .inr h)) (i := i) (by omega) (bnot_pos c3)], (q1.z5 q3 q4 q5 q6 q7)⟩
  refine sk (bn' (tn (rg (s_add rfl rfl (wi6 (by omega)) (mv rfl (nl ?_))))))
  exact lpE (i + 1) (.c4 rfl rfl rfl rfl) ⟨(q4.z3 q5 q6 q7), ⟨by omega, all_step hr (bnot_neg c3)⟩⟩ (by omega)
 obtain rfl : i = qs.length := by omega
 refine ex (te (te (xh (tn (sq (sr (fad rfl fa27_1 ?_)))))))
 replace hb1 := hb1.ext q4
 refine s_loadB rfl hb1 rfl na25 (lnS rfl Tryz.underlying25 (mv rfl (nn (bl ?_))))
 refine lpK (ι := Nat) [(1, _), (38, _), (39, _)] (fun i => [(40, .int .i64 (i : Int))]) (fun i w' => Fr [] w4 w' ∧ i ≤ qs.length ∧ ∀ a, a < i → ∀ b, b < a → ¬ (PcAt qs a).nm = (PcAt qs b).nm) (fun i => qs.length - i) 0 (.c4 rfl rfl rfl rfl) ⟨Fr.refl _ _, ⟨Nat.zero_le _, fun j hj => absurd hj (Nat.not_lt_zero j)⟩⟩ ?_
 rintro i w8 ⟨q8, ⟨hi, hd⟩⟩
 have z8 := q8.size
 refine kpC [(1, _), (38, _), (39, _), (40, _)] (.c4 rfl rfl rfl rfl) ?_
 refine sr (lt' rfl rfl (nn (sq ?_)))
 refine cd rfl (fun c4 => ?_) (fun c4 => ?_)
 ·refine sk (tn (sq (bl (sr (mv rfl ?_)))))
  replace hs := hs0.ext (q1.n3 q3 q4 q8)
  refine s_idxL (pq0) rfl hs rfl el25 nat_of (fun ad43 hc43 => ?_)
  refine s_loadA rfl (hc43 _ hs) ag48 (al zv48 rfl rfl (fun g6 w9 hg6 hb6 q9 z9 => ?_))
  refine asg rfl (s_storeBA rfl rfl hb6 rfl sz48 (fun w10 hb6 q10 z10 => ?_))
  refine nn (sr (fad rfl fa27_1 ?_))
  replace hb1 := (hb1.ext (q8.n1 q9)).fr q10 (by simp[blks]<;>omega)
  refine s_loadB rfl hb1 rfl na25 (mv rfl (s_sl_h (p := i) rfl rfl el25 (by omega) (by omega) (by omega) rfl (lnS rfl Tryz.underlying25 (mv rfl (nn (bl ?_))))))
  have htl : (qs.take i).length = i := by rw [List.length_take]; omega
  refine lpK (ι := Nat) [(1, _), (6, _), (38, _), (39, _), (40, _), (48, _), (49, _)] (fun k => [(50, .int .i64 (k : Int))]) (fun k w' => Fr [] w10 w' ∧ k ≤ i ∧ ∀ b, b < k → ¬ (PcAt qs i).nm = (PcAt qs b).nm) (fun k => i - k) 0 (.c8 rfl rfl rfl rfl rfl rfl rfl rfl) ⟨Fr.refl _ _, ⟨Nat.zero_le _, fun j hj => absurd hj (Nat.not_lt_zero j)⟩⟩ ?_
  rintro k w11 ⟨q11, ⟨hk, hn⟩⟩
  have z11 := q11.size
  refine kpC [(1, _), (6, _), (38, _), (39, _), (40, _), (48, _), (49, _), (50, _)] (.c8 rfl rfl rfl rfl rfl rfl rfl rfl) ?_
  refine sr (lt' rfl rfl (nn (sq ?_)))
  refine cd rfl (fun c5 => ?_) (fun c5 => ?_)
  ·refine sk (tn (sq (bl (sr ?_))))
   replace hs := hs0.ext (q1.z6 q3 q4 q8 q9 q10 q11)
   refine s_idxL (pq0) rfl (hs.take rfl (m := i) (B := A) (by omega) (by omega) (by unfold maxLen; omega) (fun _ => rfl)) rfl el25 nat_of (fun ad52 hc52 => ?_)
   refine s_loadA rfl (hc52 _ (hs.take rfl (m := i) (B := A) (by omega) (by omega) (by unfold maxLen; omega) (fun _ => rfl))) ag48 (al zv48 rfl rfl (fun g8 w12 hg8 hb8 q12 z12 => ?_))
   refine s_storeBA rfl rfl hb8 rfl sz48 (fun w13 hb8 q13 z13 => ?_)
   refine nn (sr (fad rfl fa48_0 ?_))
   replace hb6 := (hb6.ext (q11.n1 q12)).fr q13 (by simp[blks]<;>omega)
   refine s_loadB rfl hb6 rfl na9 (fad rfl fa48_0 (s_loadB rfl hb8 rfl na9 (s_eqs rfl rfl (nn ?_))))
   refine cd rfl (fun c6 => ?_) (fun c6 => ?_)
   ·refine sr (asg rfl (kpL [(2, _)] (.cons rfl .nil) (nn (rt (rb (tr (tr (rb (rb (tr (tr ?_)))))))))))
    refine rb (tr (r1 Tryz.results23 rfl ?_))
    exact ⟨_, rfl, by rw [gar_d (by omega) (fun e => c1 (by rcases e with h | h; exact .inl (by omega); exact .inr h)) hr (dup_yes (i := i) (k := k) (by omega) (by omega) (by rw [take_pq (by omega)] at c6; exact c6))], (((q1.z6 q3 q4 q8 q9 q10 q11).n1 q12).z1 q13)⟩
   refine sk (bn' (tn (rg (s_add rfl rfl (wi6 (by omega)) (mv rfl (nl ?_))))))
   exact lpE (k + 1) (.c8 rfl rfl rfl rfl rfl rfl rfl rfl) ⟨(q11.z2 q12 q13), ⟨by omega, all_step hn (by rw [take_pq (by omega)] at c6; exact c6)⟩⟩ (by omega)
  obtain rfl : i = k := by omega
  refine ex (te (te (xh (bn' (tn (rg (s_add rfl rfl (wi6 (by omega)) (mv rfl (kpL [(1, _), (38, _), (39, _), (40, _)] (.c4 rfl rfl rfl rfl) (nl ?_))))))))))
  exact lpE (i + 1) (.c4 rfl rfl rfl rfl) ⟨(q8.z3 q9 q10 q11), ⟨by omega, all_step hd hn⟩⟩ (by omega)
 obtain rfl : i = qs.length := by omega
 refine ex (te (te (xh (tn (sq (sr (fad rfl fa27_1 ?_)))))))
 replace hb1 := hb1.ext q8
 refine s_loadB rfl hb1 rfl na25 (lnS rfl Tryz.underlying25 (mv rfl (kpL [(62, _), (63, _), (64, _)] (.c3 rfl rfl rfl) (nn (bl ?_)))))
 refine lpK (ι := Nat) [(62, _), (63, _)] (fun i => [(64, .int .i64 (i : Int))]) (fun i w' => Fr [] w8 w' ∧ i ≤ qs.length ∧ ∀ a, a < i → motE (PcAt qs a).mot = 0) (fun i => qs.length - i) 0 (.c3 rfl rfl rfl) ⟨Fr.refl _ _, ⟨Nat.zero_le _, fun j hj => absurd hj (Nat.not_lt_zero j)⟩⟩ ?_
 rintro i w14 ⟨q14, ⟨hi, hm⟩⟩
 have z14 := q14.size
 refine kpC [(62, _), (63, _), (64, _)] (.c3 rfl rfl rfl) ?_
 refine sr (lt' rfl rfl (nn (sq ?_)))
 refine cd rfl (fun c7 => ?_) (fun c7 => ?_)
 ·refine sk (tn (sq (bl (sr ?_))))
  replace hs := hs0.ext (q1.n4 q3 q4 q8 q14)
  refine s_idxL (pq0) rfl hs rfl el25 nat_of (fun ad66 hc66 => ?_)
  refine s_loadA rfl (hc66 _ hs) ag48 (al zv48 rfl rfl (fun g10 w15 hg10 hb10 q15 z15 => ?_))
  refine s_storeBA rfl rfl hb10 rfl sz48 (fun w16 hb10 q16 z16 => ?_)
  refine nn (sr (fad rfl fa48_1 (s_loadBP (vs := [_, _, _]) rfl hb10 ag46 rfl ?_)))
  replace hq := hq0.ext (q1.z6 q3 q4 q8 q14 q15 q16)
  refine cl (ev1 rfl) co49 (mcheck_ok (PcAt qs i).mot _ _ _ _ (hq.at (by omega))) rfl ?_
  rintro _ w17 ⟨rfl, q17⟩
  have z17 := q17.size
  refine asg rfl (nn (sr (mv rfl (ne' rfl rfl (nn ?_)))))
  refine cd rfl (fun c8 => ?_) (fun c8 => ?_)
  ·refine sr (mv rfl (asg rfl (kpL [(2, _)] (.cons rfl .nil) (nn (rt (rb (tr (tr (rb (tr (r1 Tryz.results23 rfl ?_)))))))))))
   exact ⟨_, rfl, by rw [gar_e (by omega) (fun e => c1 (by rcases e with h | h; exact .inl (by omega); exact .inr h)) hr (dup_no hd), mots_at (i := i) (by omega) hm (by omega)], ((q1.z6 q3 q4 q8 q14 q15 q16).n1 q17)⟩
  refine sk (bn' (tn (rg (s_add rfl rfl (wi6 (by omega)) (mv rfl (nl ?_))))))
  exact lpE (i + 1) (.c3 rfl rfl rfl) ⟨(q14.z3 q15 q16 q17), ⟨by omega, all_step hm (by omega)⟩⟩ (by omega)
 obtain rfl : i = qs.length := by omega
 refine ex (te (te (xh (tn (sr (asg rfl (nn (rt (r1 Tryz.results23 rfl ?_)))))))))
 exact ⟨_, rfl, by rw [gar_e (by omega) (fun e => c1 (by rcases e with h | h; exact .inl (by omega); exact .inr h)) hr (dup_no hd), mots_no hm], (q1.n4 q3 q4 q8 q14)⟩
end Go.Proofs.YthehggmdcmpjeaaGreatDoor
namespace Go.Proofs.YthehggmdcmpjeaaGreatDoor
open Go.Lw Go.G14
theorem co41 : CallOf Tryz.prog 41 := mkC Tryz.func41
theorem co42 : CallOf Tryz.prog 42 := mkC Tryz.func42
theorem nrx {l : List UInt8} : ((if nameB l = true then 1 else 0 : Int) = 0) ↔ ¬ nameB l = true := by by_cases h : nameB l = true <;> simp [h]
set_option maxHeartbeats 2000000 in
theorem refgar_ok (nm : List UInt8) (v : Value) (qs : List PQ) (w0 : World) (hs : Sl encPq w0 v qs) (hq : PcsQ w0 qs) : Rets Tryz.prog 18 #[.agg #[S nm, v]] w0 fun r w' => r = .int .i64 (garE nm (pcs qs)) ∧ Fr [] w0 w' := by
 obtain ⟨A, c, rfl, hcc, hM, hA⟩ := id hs
 clear hA
 unfold maxLen at hM
 refine we [(0, .agg #[S nm, .slice A qs.length c])] Tryz.func18 rfl Tryz.ntmps18 rfl (.cons rfl .nil) ?_
 have hs0 := hs
 have hq0 := hq
 refine sr (bx rfl rfl rfl (fun g1 w1 hg1 hb1 q1 z1 => ?_))
 refine asg rfl (nn (sr (fad rfl fa27_1 (s_loadB rfl hb1 rfl na25 (lnS rfl Tryz.underlying25 (asg rfl (nn (sq (sr (mv rfl (gt' rfl rfl ?_)))))))))))
 refine nn ?_
 refine cd rfl (fun c0 => ?_) (fun c0 => ?_)
 ·refine sr (asg rfl (nn (rt (tr (r1 Tryz.results18 rfl ?_)))))
  exact ⟨_, rfl, by rw [gar_a (by omega)], q1⟩
 refine sk (tn (sq (sq ?_)))
 refine rboF (r := 22) (L' := [(1, _), (3, _)]) ((((qs.length : Int) = 0) ∨ ((if nameB nm = true then (1 : Int) else 0) = 0))) (.c2 rfl rfl) ?_ ?_
 ·refine mv rfl (eq' rfl rfl (mv rfl ?_))
  refine gs 17 rfl (fun g0 => ?_) (fun g0 => ?_)
  ·exact gN rfl rfl rfl (gN rfl rfl rfl (gN rfl rfl rfl (gN rfl rfl rfl (pkt rfl rfl (rbeF rfl (.c2 rfl rfl) (Fr.refl _ _))))))
  refine gY rfl (fad rfl fa27_0 (gY rfl (s_loadB rfl hb1 rfl na9 (gY rfl ?_))))
  refine cl (ev1 rfl) co41 (refname_ok _ _) rfl ?_
  rintro _ w2 ⟨rfl, q2⟩
  have z2 := q2.size
  exact gY rfl (eq' rfl rfl (pkf rfl rfl (rbeF rfl (.c2 rfl rfl) q2)))
 intro w3 q3; have z3 := q3.size
 refine tn ?_
 refine cd rfl (fun c1 => ?_) (fun c1 => ?_)
 ·refine sr (asg rfl (nn (rt (tr (r1 Tryz.results18 rfl ?_)))))
  exact ⟨_, rfl, by rw [gar_b (by omega) (by rcases c1 with h | h; exact .inl (by omega); exact .inr (nrx.1 h))], (q1.n1 q3)⟩
 refine sk (tn (sq (sr (asg rfl (nn (bl ?_))))))
 refine lpK (ι := Nat) [(1, _), (3, _)] (fun i => [(4, .int .i64 (i : Int))]) (fun i w' => Fr [] w3 w' ∧ i ≤ qs.length ∧ ∀ j, j < i → rightB (PcAt qs j) = true) (fun i => qs.length - i) 0 (.c3 rfl rfl rfl) ⟨Fr.refl _ _, ⟨Nat.zero_le _, fun j hj => absurd hj (Nat.not_lt_zero j)⟩⟩ ?_
 rintro i w4 ⟨q4, ⟨hi, hr⟩⟩
 have z4 := q4.size
 refine kpC [(1, _), (3, _), (4, _)] (.c3 rfl rfl rfl) ?_
 refine sq (sr (mv rfl (mv rfl (lt' rfl rfl (nn ?_)))))
 refine cd rfl (fun c2 => ?_) (fun c2 => ?_)
 ·refine sk (tn (sq (bl (sr (fad rfl fa27_1 ?_)))))
  replace hb1 := hb1.ext (q3.n1 q4)
  refine s_loadB rfl hb1 rfl na25 (mv rfl ?_)
  replace hs := hs0.ext (q1.n2 q3 q4)
  refine s_idxL (pq0) rfl hs rfl el25 nat_of (fun ad31 hc31 => ?_)
  refine s_loadA rfl (hc31 _ hs) ag48 (al zv48 rfl rfl (fun g5 w5 hg5 hb5 q5 z5 => ?_))
  refine s_storeBA rfl rfl hb5 rfl sz48 (fun w6 hb5 q6 z6 => ?_)
  refine kpL [(1, _), (3, _), (4, _), (5, _)] (.c4 rfl rfl rfl rfl) (nn (sq ?_))
  refine rboF (r := 76) (L' := [(1, _), (3, _), (4, _)]) (((((((((((if nameB (qs.getD i pq0).p.nm = true then (1 : Int) else 0) = 0) ∨ ((qs.getD i pq0).p.ba < 1)) ∨ (16 < (qs.getD i pq0).p.ba)) ∨ ((qs.getD i pq0).p.st < 0)) ∨ (4 < (qs.getD i pq0).p.st)) ∨ ((qs.getD i pq0).p.up < 1)) ∨ (31 < (qs.getD i pq0).p.up)) ∨ ((qs.getD i pq0).p.ct < 1)) ∨ (9 < (qs.getD i pq0).p.ct))) (.c3 rfl rfl rfl) ?_ ?_
  ·refine fad rfl fa48_0 (s_loadB rfl hb5 rfl na9 ?_)
   refine cl (ev1 rfl) co41 (refname_ok _ _) rfl ?_
   rintro _ w7 ⟨rfl, q7⟩
   have z7 := q7.size
   refine eq' rfl rfl (mv rfl ?_)
   refine gs 37 rfl (fun g1 => ?_) (fun g1 => ?_)
   ·refine gN rfl rfl rfl (gN rfl rfl rfl (gN rfl rfl rfl (pkt rfl rfl (mv rfl (gN rfl rfl rfl (gN rfl rfl rfl (gN rfl rfl rfl (pkt rfl rfl (mv rfl (gN rfl rfl rfl (gN rfl rfl rfl ?_)))))))))))
    refine gN rfl rfl rfl (pkt rfl rfl (mv rfl (gN rfl rfl rfl (gN rfl rfl rfl (gN rfl rfl rfl (pkt rfl rfl (mv rfl (gN rfl rfl rfl (gN rfl rfl rfl (gN rfl rfl rfl (pkt rfl rfl ?_)))))))))))
    refine mv rfl (gN rfl rfl rfl (gN rfl rfl rfl (gN rfl rfl rfl (pkt rfl rfl (mv rfl (gN rfl rfl rfl (gN rfl rfl rfl (gN rfl rfl rfl (pkt rfl rfl (mv rfl (gN rfl rfl rfl ?_)))))))))))
    exact gN rfl rfl rfl (gN rfl rfl rfl (pkt rfl rfl (rbeF rfl (.c3 rfl rfl rfl) q7)))
   refine gY rfl (fad rfl fa48_2 (gY rfl ?_))
   replace hb5 := hb5.ext q7
   refine s_loadB rfl hb5 rfl na3 (gY rfl (lt' rfl rfl (pkf rfl rfl (mv rfl ?_))))
   refine gs 42 rfl (fun g2 => ?_) (fun g2 => ?_)
   ·refine gN rfl rfl rfl (gN rfl rfl rfl (gN rfl rfl rfl (pkt rfl rfl (mv rfl (gN rfl rfl rfl (gN rfl rfl rfl (gN rfl rfl rfl (pkt rfl rfl (mv rfl (gN rfl rfl rfl (gN rfl rfl rfl ?_)))))))))))
    refine gN rfl rfl rfl (pkt rfl rfl (mv rfl (gN rfl rfl rfl (gN rfl rfl rfl (gN rfl rfl rfl (pkt rfl rfl (mv rfl (gN rfl rfl rfl (gN rfl rfl rfl (gN rfl rfl rfl (pkt rfl rfl ?_)))))))))))
    exact mv rfl (gN rfl rfl rfl (gN rfl rfl rfl (gN rfl rfl rfl (pkt rfl rfl (mv rfl (gN rfl rfl rfl (gN rfl rfl rfl (gN rfl rfl rfl (pkt rfl rfl (rbeF rfl (.c3 rfl rfl rfl) q7))))))))))
   refine gY rfl (fad rfl fa48_2 (gY rfl (s_loadB rfl hb5 rfl na3 (gY rfl (gt' rfl rfl (pkf rfl rfl (mv rfl ?_)))))))
   refine gs 47 rfl (fun g3 => ?_) (fun g3 => ?_)
   ·refine gN rfl rfl rfl (gN rfl rfl rfl (gN rfl rfl rfl (pkt rfl rfl (mv rfl (gN rfl rfl rfl (gN rfl rfl rfl (gN rfl rfl rfl (pkt rfl rfl (mv rfl (gN rfl rfl rfl (gN rfl rfl rfl ?_)))))))))))
    refine gN rfl rfl rfl (pkt rfl rfl (mv rfl (gN rfl rfl rfl (gN rfl rfl rfl (gN rfl rfl rfl (pkt rfl rfl (mv rfl (gN rfl rfl rfl (gN rfl rfl rfl (gN rfl rfl rfl (pkt rfl rfl ?_)))))))))))
    exact mv rfl (gN rfl rfl rfl (gN rfl rfl rfl (gN rfl rfl rfl (pkt rfl rfl (rbeF rfl (.c3 rfl rfl rfl) q7)))))
   refine gY rfl (fad rfl fa48_3 (gY rfl (s_loadB rfl hb5 rfl na3 (gY rfl (lt' rfl rfl (pkf rfl rfl (mv rfl ?_)))))))
   refine gs 52 rfl (fun g4 => ?_) (fun g4 => ?_)
   ·refine gN rfl rfl rfl (gN rfl rfl rfl (gN rfl rfl rfl (pkt rfl rfl (mv rfl (gN rfl rfl rfl (gN rfl rfl rfl (gN rfl rfl rfl (pkt rfl rfl (mv rfl (gN rfl rfl rfl (gN rfl rfl rfl ?_)))))))))))
    refine gN rfl rfl rfl (pkt rfl rfl (mv rfl (gN rfl rfl rfl (gN rfl rfl rfl (gN rfl rfl rfl (pkt rfl rfl (mv rfl (gN rfl rfl rfl (gN rfl rfl rfl (gN rfl rfl rfl (pkt rfl rfl ?_)))))))))))
    exact rbeF rfl (.c3 rfl rfl rfl) q7
   refine gY rfl (fad rfl fa48_3 (gY rfl (s_loadB rfl hb5 rfl na3 (gY rfl (gt' rfl rfl (pkf rfl rfl (mv rfl ?_)))))))
   refine gs 57 rfl (fun g5 => ?_) (fun g5 => ?_)
   ·refine gN rfl rfl rfl (gN rfl rfl rfl (gN rfl rfl rfl (pkt rfl rfl (mv rfl (gN rfl rfl rfl (gN rfl rfl rfl (gN rfl rfl rfl (pkt rfl rfl (mv rfl (gN rfl rfl rfl (gN rfl rfl rfl ?_)))))))))))
    exact gN rfl rfl rfl (pkt rfl rfl (mv rfl (gN rfl rfl rfl (gN rfl rfl rfl (gN rfl rfl rfl (pkt rfl rfl (rbeF rfl (.c3 rfl rfl rfl) q7)))))))
   refine gY rfl (fad rfl fa48_4 (gY rfl (s_loadB rfl hb5 rfl na3 (gY rfl (lt' rfl rfl (pkf rfl rfl (mv rfl ?_)))))))
   refine gs 62 rfl (fun g6 => ?_) (fun g6 => ?_)
   ·refine gN rfl rfl rfl (gN rfl rfl rfl (gN rfl rfl rfl (pkt rfl rfl (mv rfl (gN rfl rfl rfl (gN rfl rfl rfl (gN rfl rfl rfl (pkt rfl rfl (mv rfl (gN rfl rfl rfl (gN rfl rfl rfl ?_)))))))))))
    exact gN rfl rfl rfl (pkt rfl rfl (rbeF rfl (.c3 rfl rfl rfl) q7))
   refine gY rfl (fad rfl fa48_4 (gY rfl (s_loadB rfl hb5 rfl na3 (gY rfl (gt' rfl rfl (pkf rfl rfl (mv rfl ?_)))))))
   refine gs 67 rfl (fun g7 => ?_) (fun g7 => ?_)
   ·exact gN rfl rfl rfl (gN rfl rfl rfl (gN rfl rfl rfl (pkt rfl rfl (mv rfl (gN rfl rfl rfl (gN rfl rfl rfl (gN rfl rfl rfl (pkt rfl rfl (rbeF rfl (.c3 rfl rfl rfl) q7)))))))))
   refine gY rfl (fad rfl fa48_5 (gY rfl (s_loadB rfl hb5 rfl na3 (gY rfl (lt' rfl rfl (pkf rfl rfl (mv rfl ?_)))))))
   refine gs 72 rfl (fun g8 => ?_) (fun g8 => ?_)
   ·exact gN rfl rfl rfl (gN rfl rfl rfl (gN rfl rfl rfl (pkt rfl rfl (rbeF rfl (.c3 rfl rfl rfl) q7))))
   exact gY rfl (fad rfl fa48_5 (gY rfl (s_loadB rfl hb5 rfl na3 (gY rfl (gt' rfl rfl (pkf rfl rfl (rbeF rfl (.c3 rfl rfl rfl) q7)))))))
  intro w8 q8; have z8 := q8.size
  refine tn ?_
  refine cd rfl (fun c3 => ?_) (fun c3 => ?_)
  ·refine sr (asg rfl (nn (rt (rb (tr (tr (rb (tr (r1 Tryz.results18 rfl ?_)))))))))
   exact ⟨_, rfl, by rw [gar_c (by omega) (fun e => c1 (by rcases e with h | h; exact .inl (by omega); exact .inr (nrx.2 h))) (i := i) (by omega) (fun e => by have hh := (right_iff (qs.getD i pq0).p).1 e; rw [if_pos hh.1] at c3; omega)], (q1.z5 q3 q4 q5 q6 q8)⟩
  refine sk (bn' (tn (rg (mv rfl (s_add rfl rfl (wi6 (by omega)) (asg rfl (nl ?_)))))))
  exact lpE (i + 1) (.c3 rfl rfl rfl) ⟨(q4.z3 q5 q6 q8), ⟨by omega, all_step hr ((right_iff (qs.getD i pq0).p).2 ⟨Classical.not_not.1 fun e => c3 (by rw [if_neg e]; omega), by omega⟩)⟩⟩ (by omega)
 obtain rfl : i = qs.length := by omega
 refine ex (te (te (xh (tn (sq (sr (asg rfl (nn (bl ?_)))))))))
 refine lpK (ι := Nat) [(1, _), (3, _)] (fun i => [(6, .int .i64 (i : Int))]) (fun i w' => Fr [] w4 w' ∧ i ≤ qs.length ∧ ∀ a, a < i → ∀ b, b < a → ¬ (PcAt qs a).nm = (PcAt qs b).nm) (fun i => qs.length - i) 0 (.c3 rfl rfl rfl) ⟨Fr.refl _ _, ⟨Nat.zero_le _, fun j hj => absurd hj (Nat.not_lt_zero j)⟩⟩ ?_
 rintro i w9 ⟨q9, ⟨hi, hd⟩⟩
 have z9 := q9.size
 refine kpC [(1, _), (3, _), (6, _)] (.c3 rfl rfl rfl) ?_
 refine sq (sr (mv rfl (mv rfl (lt' rfl rfl (nn ?_)))))
 refine cd rfl (fun c4 => ?_) (fun c4 => ?_)
 ·refine sk (tn (sq (bl (sr (asg rfl (nn (bl ?_)))))))
  refine lpK (ι := Nat) [(1, _), (3, _), (6, _)] (fun k => [(7, .int .i64 (k : Int))]) (fun k w' => Fr [] w9 w' ∧ k ≤ i ∧ ∀ b, b < k → ¬ (PcAt qs i).nm = (PcAt qs b).nm) (fun k => i - k) 0 (.c4 rfl rfl rfl rfl) ⟨Fr.refl _ _, ⟨Nat.zero_le _, fun j hj => absurd hj (Nat.not_lt_zero j)⟩⟩ ?_
  rintro k w10 ⟨q10, ⟨hk, hn⟩⟩
  have z10 := q10.size
  refine kpC [(1, _), (3, _), (6, _), (7, _)] (.c4 rfl rfl rfl rfl) ?_
  refine sq (sr (mv rfl (mv rfl (lt' rfl rfl (nn ?_)))))
  refine cd rfl (fun c5 => ?_) (fun c5 => ?_)
  ·refine sk (tn (sq (bl (sq ?_))))
   replace hs := hs0.ext (q1.n4 q3 q4 q9 q10)
   replace hq := hq0.ext (q1.n4 q3 q4 q9 q10)
   replace hb1 := hb1.ext (q3.n3 q4 q9 q10)
   intro a h
   refine region_quiet hmix (by kernel_rfl) ?_
   refine qt_fieldAddr h rfl fa27_1 rfl ?_; clear h a; intro a h
   refine qt_loadB h rfl (fun _ hw => hb1.ext hw) rfl na25 rfl ?_; clear h a; intro a h
   refine qt_move h rfl rfl ?_; clear h a; intro a h
   refine qt_idxL (pq0) h rfl hs rfl el25 (by omega) (by omega) rfl rfl ?_; clear h a; intro ad90 hc90 a h
   refine qt_fieldAddr h rfl fa48_0 rfl ?_; clear h a; intro a h
   refine qt_loadC h rfl (fun _ hw => hc90 _ (hs.ext hw)) rfl na9 rfl ?_; clear h a; intro a h
   refine qt_fieldAddr h rfl fa27_1 rfl ?_; clear h a; intro a h
   refine qt_loadB h rfl (fun _ hw => hb1.ext hw) rfl na25 rfl ?_; clear h a; intro a h
   refine qt_move h rfl rfl ?_; clear h a; intro a h
   refine qt_idxL (pq0) h rfl hs rfl el25 (by omega) (by omega) rfl rfl ?_; clear h a; intro ad96 hc96 a h
   refine qt_fieldAddr h rfl fa48_0 rfl ?_; clear h a; intro a h
   refine qt_loadC h rfl (fun _ hw => hc96 _ (hs.ext hw)) rfl na9 rfl ?_; clear h a; intro a h
   refine qt_eqs h rfl rfl rfl ?_; clear h a; intro a h
   refine wpQuiet_nil ?_
   intro w11 q11
   have z11 := q11.size
   refine bk (h.sub (L' := [(1, _), (3, _), (6, _), (7, _), (99, _)]) (.c5 rfl rfl rfl rfl rfl)) ?_; clear h a
   refine tn ?_
   refine cd rfl (fun c6 => ?_) (fun c6 => ?_)
   ·refine sr (asg rfl (nn (rt (rb (tr (tr (rb (rb (tr (tr (rb ?_)))))))))))
    refine tr (r1 Tryz.results18 rfl ?_)
    exact ⟨_, rfl, by rw [gar_d (by omega) (fun e => c1 (by rcases e with h | h; exact .inl (by omega); exact .inr (nrx.2 h))) hr (dup_yes (i := i) (k := k) (by omega) (by omega) c6)], (q1.n5 q3 q4 q9 q10 q11)⟩
   refine sk (bn' (tn (rg (mv rfl (s_add rfl rfl (wi6 (by omega)) (asg rfl (nl ?_)))))))
   exact lpE (k + 1) (.c4 rfl rfl rfl rfl) ⟨(q10.n1 q11), ⟨by omega, all_step hn c6⟩⟩ (by omega)
  obtain rfl : i = k := by omega
  refine ex (te (te (xh (bn' (tn (rg (mv rfl (s_add rfl rfl (wi6 (by omega)) (asg rfl (nl ?_))))))))))
  exact lpE (i + 1) (.c3 rfl rfl rfl) ⟨(q9.n1 q10), ⟨by omega, all_step hd hn⟩⟩ (by omega)
 obtain rfl : i = qs.length := by omega
 refine ex (te (te (xh (tn (sq (sr (asg rfl (nn (bl ?_)))))))))
 refine lpK (ι := Nat) [(1, _), (3, _)] (fun i => [(8, .int .i64 (i : Int))]) (fun i w' => Fr [] w9 w' ∧ i ≤ qs.length ∧ ∀ a, a < i → motE (PcAt qs a).mot = 0) (fun i => qs.length - i) 0 (.c3 rfl rfl rfl) ⟨Fr.refl _ _, ⟨Nat.zero_le _, fun j hj => absurd hj (Nat.not_lt_zero j)⟩⟩ ?_
 rintro i w12 ⟨q12, ⟨hi, hm⟩⟩
 have z12 := q12.size
 refine kpC [(1, _), (3, _), (8, _)] (.c3 rfl rfl rfl) ?_
 refine sq (sr (mv rfl (mv rfl (lt' rfl rfl (nn ?_)))))
 refine cd rfl (fun c7 => ?_) (fun c7 => ?_)
 ·refine sk (tn (sq (bl (sr (fad rfl fa27_1 ?_)))))
  replace hb1 := hb1.ext (q3.n3 q4 q9 q12)
  refine s_loadB rfl hb1 rfl na25 (mv rfl ?_)
  replace hs := hs0.ext (q1.n4 q3 q4 q9 q12)
  refine s_idxL (pq0) rfl hs rfl el25 nat_of (fun ad108 hc108 => ?_)
  refine fad rfl fa48_1 (s_loadA rfl (cells_part (vs := [_, _, _]) (hc108 _ hs) rfl) ag46 ?_)
  replace hq := hq0.ext (q1.n4 q3 q4 q9 q12)
  refine cl (ev1 rfl) co42 (refmot_ok (PcAt qs i).mot _ _ _ _ (hq.at (by omega))) rfl ?_
  rintro _ w13 ⟨rfl, q13⟩
  have z13 := q13.size
  refine asg rfl (kpL [(1, _), (3, _), (8, _), (9, _)] (.c4 rfl rfl rfl rfl) (nn (sr (mv rfl (ne' rfl rfl (nn ?_))))))
  refine cd rfl (fun c8 => ?_) (fun c8 => ?_)
  ·refine sr (mv rfl (asg rfl (kpL [(2, _)] (.cons rfl .nil) (nn (rt (rb (tr (tr (rb (tr (r1 Tryz.results18 rfl ?_)))))))))))
   exact ⟨_, rfl, by rw [gar_e (by omega) (fun e => c1 (by rcases e with h | h; exact .inl (by omega); exact .inr (nrx.2 h))) hr (dup_no hd), mots_at (i := i) (by omega) hm (by omega)], (q1.n5 q3 q4 q9 q12 q13)⟩
  refine sk (bn' (tn (rg (mv rfl (s_add rfl rfl (wi6 (by omega)) (asg rfl (nl ?_)))))))
  exact lpE (i + 1) (.c3 rfl rfl rfl) ⟨(q12.n1 q13), ⟨by omega, all_step hm (by omega)⟩⟩ (by omega)
 obtain rfl : i = qs.length := by omega
 refine ex (te (te (xh (tn (sr (asg rfl (nn (rt (r1 Tryz.results18 rfl ?_)))))))))
 exact ⟨_, rfl, by rw [gar_e (by omega) (fun e => c1 (by rcases e with h | h; exact .inl (by omega); exact .inr (nrx.2 h))) hr (dup_no hd), mots_no hm], (q1.n4 q3 q4 q9 q12)⟩
theorem gd_l {α : Type} {l : List α} {j : Nat} {q d : α} (h : j < l.length) : (l ++ [q]).getD j d = l.getD j d := by
 rw [List.getD, List.getD, List.getElem?_append_left h]
theorem gd_r {α : Type} {l : List α} {j : Nat} {q d : α} (h : l.length = j) : (l ++ [q]).getD j d = q := by
 rw [List.getD, List.getElem?_append_right (by omega), h, Nat.sub_self]; rfl
theorem itm_snoc {size : Int} {qs : List PQ} {its : List IQ} {i : Nat} {q : IQ} (hl : its.length = i) (h : ∀ j, j < i → itmOf size (qs.getD j pq0).p (its.getD j iq0)) (hq : itmOf size (qs.getD i pq0).p q) : ∀ j, j < i + 1 → itmOf size (qs.getD j pq0).p ((its ++ [q]).getD j iq0) := fun j hj => by
 rcases Nat.lt_or_ge j i with h1 | h1
 ·rw [gd_l (by omega)]; exact h j h1
 obtain rfl : j = i := by omega
 rw [gd_r hl]; exact hq
end Go.Proofs.YthehggmdcmpjeaaGreatDoor
namespace Go.Lw
open Go.RowKit
section
variable {P : Program} {n : Nat} {L : List (Nat × Value)} {ds : List Nat} {w w' : World} {Q : Exit → Act → World → Prop} {ops : Array Oper} {rest : List Oper} {a : Act} {d : Nat} {ty T t : TypeId} {pos : String} {after : Array Edge} {v : Value} {x y : Operand}
end
end Go.Lw
namespace Go.Lw
open Go.RowKit
section
variable {P : Program} {n : Nat} {L : List (Nat × Value)} {ds : List Nat} {w w' : World} {Q : Exit → Act → World → Prop} {ops : Array Oper} {rest : List Oper} {a : Act} {d : Nat} {ty T t : TypeId} {pos : String} {after : Array Edge} {v : Value} {x y : Operand}
theorem st_copyP {α : Type} {E : Enc α} {bytes base g m cap p k : Nat} {zs ys : List α} (h : AgM ds a n L) (hx : ev L x = some (.slice (some ((⟨g, 0, none⟩ : Addr).add (p * E.sz))) (m - p) (cap - p))) (hy : ev L y = some v) (ho : Own E T base w (.slice (some ⟨g, 0, none⟩) m cap) zs) (hs : Sl E w v ys) (hp : p ≤ m) (hk : k = min (m - p) ys.length) (he : ElemOf P t T E bytes) (hn : Nat.blt d n = true)
    (q : ∀ w', Own E T base w' (.slice (some ⟨g, 0, none⟩) m cap) (zs.take p ++ ys.take k ++ zs.drop (p + k)) → Fr [g] w w' → w'.heap.size = w.heap.size → ∀ a, AgM ds a n ((d, .int .i64 (k : Int)) :: L) → wpList P ops Q rest a w') : wpList P ops Q (⟨some d, .call ⟨.builtin .copy, #[x, y], #[t, t]⟩, ty, pos, after, none⟩ :: rest) a w := by
  obtain ⟨i, z, h1, h2, h3, h4, h5⟩ := he.info
  rcases ho with ⟨e, _⟩ | ⟨g', cap', cur, e, hb, hg, r1, r2, r3, r4⟩
  · cases e
  cases e
  obtain ⟨A0, c0, e0, _, hM0, _⟩ := id hs
  subst e0
  have hkl : k ≤ ys.length := by omega
  have hs2 := hs.take rfl (m := k) hkl (B := A0) (c' := c0) (by omega) hM0 (fun _ => rfl)
  obtain ⟨A, c, e2, hc, hM, hA⟩ := hs2.flat
  have hlk : (ys.take k).length = k := by rw [List.length_take]; omega
  rw [hlk] at e2
  simp only [Value.slice.injEq] at e2
  obtain ⟨rfl, -, rfl⟩ := e2
  obtain ⟨cs, hcs0⟩ : ∃ cs, (ys.take k).flatMap E.enc = cs := ⟨_, rfl⟩
  have hlen : cs.length = k * E.sz := by rw [← hcs0, E.flat_len, hlk]
  have hone := E.flat_one (ys.take k)
  rw [hcs0] at hone hA
  have hpk : p + k ≤ zs.length := by omega
  have hsz : p * E.sz + k * E.sz ≤ zs.length * E.sz := by rw [← Nat.add_mul]; exact Nat.mul_le_mul_right _ hpk
  have hcz : zs.length * E.sz ≤ cur.size := Nat.le_trans (Nat.mul_le_mul_right _ r1) r3
  have hst := run_storeCells_at P g (p * E.sz) T cs 0 cur w hg (by rw [hlen]; omega) hone
  rw [Nat.add_zero, hlen] at hst
  have hfc : (Builtin.firstCells E.sz k (.slice A0 ys.length c0)).run P w = .ok cs.toArray w := by
    by_cases hys : ys.take k = []
    · have h0 : k = 0 := by have := congrArg List.length hys; rw [hlk] at this; simpa using this
      have hc0 : cs = [] := by rw [← hcs0, hys]; rfl
      rw [h0, hc0]
      cases A0 with
      | none => simp [Builtin.firstCells]
      | some ad => simp [Builtin.firstCells, loadCells, loadCellsFrom]
    · obtain ⟨ad, rfl, hcs⟩ := hA hys
      have hload := run_loadCells_list (P := P) w ad cs hcs
      rw [hlen] at hload
      simpa [Builtin.firstCells] using hload
  have key : (Builtin.copy_ #[t, t] ty #[.slice (some ((⟨g, 0, none⟩ : Addr).add (p * E.sz))) (zs.length - p) (cap - p), .slice A0 ys.length c0]).run P w = .ok (.int .i64 (k : Int)) (w.setRow g (cur.toList.take (p * E.sz) ++ cs ++ cur.toList.drop (p * E.sz + k * E.sz)).toArray) := by
    rw [lit_add, Nat.zero_add]
    have hmin : Nat.min (zs.length - p) ys.length = k := hk.symm
    have hmin2 : Nat.min ys.length (zs.length - p) = k := (Nat.min_comm _ _).trans hk.symm
    simp only [Builtin.copy_, List.getElem?_toArray, List.getElem?_cons_zero, List.getElem?_cons_succ, Sem.run_bind, run_underlying he.und, Result.andThen_ok, Builtin.lenOf, Sem.run_pure, hmin, sizeOf, typeInfo]
    simp [h1, h3, hfc, hst, goInt, hmin2]
  obtain ⟨za, zb, zc, rfl, hza, hzb⟩ : ∃ za zb zc, zs = za ++ (zb ++ zc) ∧ za.length = p ∧ zb.length = k := ⟨zs.take p, (zs.drop p).take k, (zs.drop p).drop k, by rw [List.take_append_drop, List.take_append_drop], by rw [List.length_take]; omega, by rw [List.length_take, List.length_drop]; omega⟩
  have hnew : (za ++ (zb ++ zc)).take p ++ ys.take k ++ (za ++ (zb ++ zc)).drop (p + k) = za ++ (ys.take k ++ zc) := by
    rw [← hza, List.take_left, ← hzb, ← List.drop_drop, List.drop_left, List.drop_left, List.append_assoc]
  rw [hnew] at q
  have hl2 : (za ++ (ys.take k ++ zc)).length = (za ++ (zb ++ zc)).length := by simp only [List.length_append, hlk, hzb]
  have hcur : cur.toList = (za ++ (zb ++ zc)).flatMap E.enc ++ cur.toList.drop ((za ++ (zb ++ zc)).length * E.sz) := by
    rw [← r4, List.take_append_drop]
  have hfa : (za.flatMap E.enc).length = p * E.sz := by rw [E.flat_len, hza]
  have hfb : (zb.flatMap E.enc).length = k * E.sz := by rw [E.flat_len, hzb]
  have hrow : cur.toList.take (p * E.sz) ++ cs ++ cur.toList.drop (p * E.sz + k * E.sz) = (za ++ (ys.take k ++ zc)).flatMap E.enc ++ cur.toList.drop ((za ++ (zb ++ zc)).length * E.sz) := by
    generalize cur.toList.drop ((za ++ (zb ++ zc)).length * E.sz) = R at hcur ⊢
    rw [hcur]
    simp only [List.flatMap_append, List.append_assoc]
    rw [← hfa, List.take_left, ← hfb, ← List.drop_drop, List.drop_left, List.drop_left, hcs0]
  rw [hrow] at key
  refine st_ok h rfl rfl hn (w' := w.setRow g ((za ++ (ys.take k ++ zc)).flatMap E.enc ++ cur.toList.drop ((za ++ (zb ++ zc)).length * E.sz)).toArray) ?_ (q _ (.inr ⟨g, cap, _, by rw [hl2], hb, setRow_heap w g cur _ T (0, 0) hg, by rw [hl2]; exact r1, r2, ?_, ?_⟩) (Fr.setRow w g _) (by simp))
  · rw [exec_builtin]; unfold builtin
    simp only [List.map_toArray, List.map_cons, List.map_nil, h.eval hx, h.eval hy, Sem.run_bind, key, Result.andThen_ok, Sem.run_pure]
  · have e1 : ((za ++ (ys.take k ++ zc)).flatMap E.enc).length = (za ++ (zb ++ zc)).length * E.sz := by rw [E.flat_len, hl2]
    generalize (za ++ (ys.take k ++ zc)).flatMap E.enc = X at e1
    generalize (za ++ (zb ++ zc)).length * E.sz = M at e1 hcz
    simp only [List.size_toArray, List.length_append, List.length_drop, Array.length_toList]
    omega
  · show List.take _ _ = _
    rw [show (za ++ (ys.take k ++ zc)).length * E.sz = ((za ++ (ys.take k ++ zc)).flatMap E.enc).length by rw [E.flat_len]]
    exact List.take_left
theorem s_copyP {α : Type} {E : Enc α} {bytes base g m cap p k : Nat} {zs ys : List α} (hx : ev L x = some (.slice (some ((⟨g, 0, none⟩ : Addr).add (p * E.sz))) (m - p) (cap - p))) (hy : ev L y = some v) (ho : Own E T base w (.slice (some ⟨g, 0, none⟩) m cap) zs) (hs : Sl E w v ys) (hp : p ≤ m) (hk : k = min (m - p) ys.length) (he : ElemOf P t T E bytes) (hn : Nat.blt d n = true)
 (q : ∀ w', Own E T base w' (.slice (some ⟨g, 0, none⟩) m cap) (zs.take p ++ ys.take k ++ zs.drop (p + k)) → Fr [g] w w' → w'.heap.size = w.heap.size → WL P ops Q rest n ds w' ((d, .int .i64 (k : Int)) :: L)) : WL P ops Q (⟨some d, .call ⟨.builtin .copy, #[x, y], #[t, t]⟩, ty, pos, after, none⟩ :: rest) n ds w L := fun a h => st_copyP h hx hy ho hs hp hk he hn q
end
end Go.Lw
namespace Go.Proofs
open Go.Shelf
def Tryz.lays169_ren : Go.Shelf.Ren := ⟨fun | 169 => 40 | n => n, fun | 70 => 107 | 9 => 9 | 0 => 0 | 72 => 109 | 37 => 75 | 127 => 166 | 3 => 3 | 5 => 5 | n => n, fun | n => n⟩
theorem Tryz.lays169 : Go.Proofs.Lays.n169 Tryz.prog Tryz.lays169_ren := {
 mixed := by kernel_rfl
 f169 := Tryz.func40.trans (congrArg some (by kernel_rfl))
 t0 := Tryz.underlying0
 a0 := Tryz.isAgg0
 z0 := Tryz.sizeOf0
 v0 := Tryz.zeroValue0
 t3 := Tryz.underlying3
 a3 := Tryz.isAgg3
 z3 := Tryz.sizeOf3
 v3 := Tryz.zeroValue3
 t9 := Tryz.underlying9
 a9 := Tryz.isAgg9
 z9 := Tryz.sizeOf9
 v9 := Tryz.zeroValue9
 t37 := Tryz.underlying75
 a37 := Tryz.isAgg75
 z37 := Tryz.sizeOf75
 v37 := Tryz.zeroValue75
 t70 := Tryz.underlying107
 a70 := Tryz.isAgg107
 z70 := Tryz.sizeOf107
 v70 := Tryz.zeroValue107
 t72 := Tryz.underlying109
 a72 := Tryz.isAgg109
 z72 := Tryz.sizeOf109
 v72 := Tryz.zeroValue109
 t127 := Tryz.underlying166
 a127 := Tryz.isAgg166
 z127 := Tryz.sizeOf166
 v127 := Tryz.zeroValue166 }
theorem Tryz.Builder_Extra_169 : Builder.Extra Tryz.prog Tryz.lays169_ren := {
 sizeBuilder := by kernel_rfl
 liesBuilder := by kernel_rfl
 t5 := Tryz.underlying5
 a5 := Tryz.isAgg5
 z5 := Tryz.sizeOf5
 v5 := Tryz.zeroValue5
 infoByte := by kernel_rfl
 cellsByte := by kernel_rfl
 sizeByte := by kernel_rfl
 neB5 := by decide }
open Go.RowKit in
theorem Tryz.Builder_String_any (B b : Nat) (l : List UInt8) (w : World) (h : Lib.IsBuilder 109 5 B b (Lib.byteCells l) w) (hBw : B ≤ w.heap.size) :
 Calls Tryz.prog 40 #[.pointer (some ⟨b, 0, none⟩)] w fun e w' => e = .returned (.string ⟨l.toArray⟩) ∧ Below B w w' := Any.Builder_String_any Tryz.lays169 Tryz.Builder_Extra_169 B b l w h hBw
def Tryz.lays156_ren : Go.Shelf.Ren := ⟨fun | 156 => 74 | 165 => 109 | 166 => 37 | 169 => 40 | 240 => 71 | 241 => 134 | 276 => 106 | 277 => 160 | n => n, fun | 31 => 67 | 9 => 9 | 3 => 3 | 4 => 4 | 0 => 0 | 20 => 20 | 72 => 109 | 76 => 112 | 70 => 107 | 37 => 75 | 75 => 111 | 127 => 166 | 164 => 203 | 5 => 5 | 80 => 115 | n => n, fun | n => n⟩
theorem Tryz.lays156 : Go.Proofs.Lays.n156 Tryz.prog Tryz.lays156_ren := {
 mixed := by kernel_rfl
 f156 := Tryz.func74.trans (congrArg some (by kernel_rfl))
 f165 := Tryz.func109.trans (congrArg some (by kernel_rfl))
 f166 := Tryz.func37.trans (congrArg some (by kernel_rfl))
 f169 := Tryz.func40.trans (congrArg some (by kernel_rfl))
 f240 := Tryz.func71.trans (congrArg some (by kernel_rfl))
 f241 := Tryz.func134.trans (congrArg some (by kernel_rfl))
 f276 := Tryz.func106.trans (congrArg some (by kernel_rfl))
 f277 := Tryz.func160.trans (congrArg some (by kernel_rfl))
 t0 := Tryz.underlying0
 a0 := Tryz.isAgg0
 z0 := Tryz.sizeOf0
 v0 := Tryz.zeroValue0
 t3 := Tryz.underlying3
 a3 := Tryz.isAgg3
 z3 := Tryz.sizeOf3
 v3 := Tryz.zeroValue3
 t4 := Tryz.underlying4
 a4 := Tryz.isAgg4
 z4 := Tryz.sizeOf4
 v4 := Tryz.zeroValue4
 t9 := Tryz.underlying9
 a9 := Tryz.isAgg9
 z9 := Tryz.sizeOf9
 v9 := Tryz.zeroValue9
 t20 := Tryz.underlying20
 a20 := Tryz.isAgg20
 z20 := Tryz.sizeOf20
 v20 := Tryz.zeroValue20
 t31 := Tryz.underlying67
 a31 := Tryz.isAgg67
 z31 := Tryz.sizeOf67
 v31 := Tryz.zeroValue67
 t37 := Tryz.underlying75
 a37 := Tryz.isAgg75
 z37 := Tryz.sizeOf75
 v37 := Tryz.zeroValue75
 t70 := Tryz.underlying107
 a70 := Tryz.isAgg107
 z70 := Tryz.sizeOf107
 v70 := Tryz.zeroValue107
 t72 := Tryz.underlying109
 a72 := Tryz.isAgg109
 z72 := Tryz.sizeOf109
 v72 := Tryz.zeroValue109
 t75 := Tryz.underlying111
 a75 := Tryz.isAgg111
 z75 := Tryz.sizeOf111
 v75 := Tryz.zeroValue111
 t76 := Tryz.underlying112
 a76 := Tryz.isAgg112
 z76 := Tryz.sizeOf112
 v76 := Tryz.zeroValue112
 t127 := Tryz.underlying166
 a127 := Tryz.isAgg166
 z127 := Tryz.sizeOf166
 v127 := Tryz.zeroValue166
 t164 := Tryz.underlying203
 a164 := Tryz.isAgg203
 z164 := Tryz.sizeOf203
 v164 := Tryz.zeroValue203 }
theorem Tryz.Builder_Extra_156 : Builder.Extra Tryz.prog Tryz.lays156_ren := {
 sizeBuilder := by kernel_rfl
 liesBuilder := by kernel_rfl
 t5 := Tryz.underlying5
 a5 := Tryz.isAgg5
 z5 := Tryz.sizeOf5
 v5 := Tryz.zeroValue5
 infoByte := by kernel_rfl
 cellsByte := by kernel_rfl
 sizeByte := by kernel_rfl
 neB5 := by decide }
open Go.RowKit in
theorem Tryz.strings_Join (bk o c : Nat) (xs : List ByteArray) (sep : ByteArray) (w : World) (hcells : ∀ (j : Nat) x, xs[j]? = some x → w.cell? ⟨bk, o + j, none⟩ = some (.string x)) (hbk : bk < w.heap.size) (hN : xs.length ≤ 140737488355328) (hcap : xs.length ≤ c) (hlen : (Lib.join (xs.map (·.data.toList)) sep.data.toList).length ≤ 140737488355328) :
 Calls Tryz.prog 74 #[.slice (some ⟨bk, o, none⟩) xs.length c, .string sep] w fun e w' => e = .returned (.string ⟨(Lib.join (xs.map (·.data.toList)) sep.data.toList).toArray⟩) ∧ Below w.heap.size w w' := Any.strings_Join Tryz.lays156 Tryz.Builder_Extra_156 bk o c xs sep w hcells hbk hN hcap hlen
def Tryz.laysC172_ren : Go.Shelf.Ren := ⟨fun | 172 => 124 | 244 => 144 | 245 => 145 | 247 => 166 | 279 => 167 | 280 => 168 | 281 => 169 | 282 => 170 | 287 => 174 | 316 => 175 | 171 => 38 | 205 => 176 | 321 => 177 | 322 => 178 | 243 => 72 | 246 => 107 | 283 => 127 | 284 => 128 | 285 => 129 | 286 => 130 | 129 => 153 | 317 => 152 | 318 => 154 | 319 => 155 | 320 => 156 | 337 => 171 | 338 => 172 | n => n, fun | 9 => 9 | 3 => 3 | 75 => 111 | 76 => 112 | 4 => 4 | 5 => 5 | 167 => 263 | 37 => 75 | 0 => 0 | 85 => 264 | 2 => 2 | 168 => 266 | 53 => 213 | 175 => 270 | 46 => 175 | 210 => 274 | 127 => 166 | 145 => 285 | 143 => 283 | 21 => 21 | 171 => 226 | 173 => 229 | 212 => 250 | 51 => 210 | 20 => 20 | 213 => 251 | 232 => 276 | 233 => 277 | 80 => 115 | n => n, fun | 15 => 3 | 16 => 4 | 17 => 1 | 18 => 5 | 19 => 6 | n => n⟩
theorem Tryz.laysC172 : Go.Proofs.LaysC.n172 Tryz.prog Tryz.laysC172_ren := {
 mixed := by kernel_rfl
 f129 := Tryz.func153.trans (congrArg some (by kernel_rfl))
 f171 := Tryz.func38.trans (congrArg some (by kernel_rfl))
 f172 := Tryz.func124.trans (congrArg some (by kernel_rfl))
 f205 := Tryz.func176.trans (congrArg some (by kernel_rfl))
 f243 := Tryz.func72.trans (congrArg some (by kernel_rfl))
 f244 := Tryz.func144.trans (congrArg some (by kernel_rfl))
 f245 := Tryz.func145.trans (congrArg some (by kernel_rfl))
 f246 := Tryz.func107.trans (congrArg some (by kernel_rfl))
 f247 := Tryz.func166.trans (congrArg some (by kernel_rfl))
 f279 := Tryz.func167.trans (congrArg some (by kernel_rfl))
 f280 := Tryz.func168.trans (congrArg some (by kernel_rfl))
 f281 := Tryz.func169.trans (congrArg some (by kernel_rfl))
 f282 := Tryz.func170.trans (congrArg some (by kernel_rfl))
 f283 := Tryz.func127.trans (congrArg some (by kernel_rfl))
 f284 := Tryz.func128.trans (congrArg some (by kernel_rfl))
 f285 := Tryz.func129.trans (congrArg some (by kernel_rfl))
 f286 := Tryz.func130.trans (congrArg some (by kernel_rfl))
 f287 := Tryz.func174.trans (congrArg some (by kernel_rfl))
 f316 := Tryz.func175.trans (congrArg some (by kernel_rfl))
 f317 := Tryz.func152.trans (congrArg some (by kernel_rfl))
 f318 := Tryz.func154.trans (congrArg some (by kernel_rfl))
 f319 := Tryz.func155.trans (congrArg some (by kernel_rfl))
 f320 := Tryz.func156.trans (congrArg some (by kernel_rfl))
 f321 := Tryz.func177.trans (congrArg some (by kernel_rfl))
 f322 := Tryz.func178.trans (congrArg some (by kernel_rfl))
 f337 := Tryz.func171.trans (congrArg some (by kernel_rfl))
 f338 := Tryz.func172.trans (congrArg some (by kernel_rfl))
 t0 := Tryz.underlying0
 a0 := Tryz.isAgg0
 z0 := Tryz.sizeOf0
 v0 := Tryz.zeroValue0
 t2 := Tryz.underlying2
 a2 := Tryz.isAgg2
 z2 := Tryz.sizeOf2
 v2 := Tryz.zeroValue2
 t3 := Tryz.underlying3
 a3 := Tryz.isAgg3
 z3 := Tryz.sizeOf3
 v3 := Tryz.zeroValue3
 t4 := Tryz.underlying4
 a4 := Tryz.isAgg4
 z4 := Tryz.sizeOf4
 v4 := Tryz.zeroValue4
 t5 := Tryz.underlying5
 a5 := Tryz.isAgg5
 z5 := Tryz.sizeOf5
 v5 := Tryz.zeroValue5
 t9 := Tryz.underlying9
 a9 := Tryz.isAgg9
 z9 := Tryz.sizeOf9
 v9 := Tryz.zeroValue9
 t20 := Tryz.underlying20
 a20 := Tryz.isAgg20
 z20 := Tryz.sizeOf20
 v20 := Tryz.zeroValue20
 t21 := Tryz.underlying21
 a21 := Tryz.isAgg21
 z21 := Tryz.sizeOf21
 v21 := Tryz.zeroValue21
 t37 := Tryz.underlying75
 a37 := Tryz.isAgg75
 z37 := Tryz.sizeOf75
 v37 := Tryz.zeroValue75
 t46 := Tryz.underlying175
 a46 := Tryz.isAgg175
 z46 := Tryz.sizeOf175
 v46 := Tryz.zeroValue175
 t51 := Tryz.underlying210
 a51 := Tryz.isAgg210
 z51 := Tryz.sizeOf210
 v51 := Tryz.zeroValue210
 t53 := Tryz.underlying213
 a53 := Tryz.isAgg213
 z53 := Tryz.sizeOf213
 v53 := Tryz.zeroValue213
 t75 := Tryz.underlying111
 a75 := Tryz.isAgg111
 z75 := Tryz.sizeOf111
 v75 := Tryz.zeroValue111
 t76 := Tryz.underlying112
 a76 := Tryz.isAgg112
 z76 := Tryz.sizeOf112
 v76 := Tryz.zeroValue112
 t85 := Tryz.underlying264
 a85 := Tryz.isAgg264
 z85 := Tryz.sizeOf264
 v85 := Tryz.zeroValue264
 t127 := Tryz.underlying166
 a127 := Tryz.isAgg166
 z127 := Tryz.sizeOf166
 v127 := Tryz.zeroValue166
 t143 := Tryz.underlying283
 a143 := Tryz.isAgg283
 z143 := Tryz.sizeOf283
 v143 := Tryz.zeroValue283
 t145 := Tryz.underlying285
 a145 := Tryz.isAgg285
 z145 := Tryz.sizeOf285
 v145 := Tryz.zeroValue285
 t167 := Tryz.underlying263
 a167 := Tryz.isAgg263
 z167 := Tryz.sizeOf263
 v167 := Tryz.zeroValue263
 t168 := Tryz.underlying266
 a168 := Tryz.isAgg266
 z168 := Tryz.sizeOf266
 v168 := Tryz.zeroValue266
 t171 := Tryz.underlying226
 a171 := Tryz.isAgg226
 z171 := Tryz.sizeOf226
 v171 := Tryz.zeroValue226
 t173 := Tryz.underlying229
 a173 := Tryz.isAgg229
 z173 := Tryz.sizeOf229
 v173 := Tryz.zeroValue229
 t175 := Tryz.underlying270
 a175 := Tryz.isAgg270
 z175 := Tryz.sizeOf270
 v175 := Tryz.zeroValue270
 t210 := Tryz.underlying274
 a210 := Tryz.isAgg274
 z210 := Tryz.sizeOf274
 v210 := Tryz.zeroValue274
 t212 := Tryz.underlying250
 a212 := Tryz.isAgg250
 z212 := Tryz.sizeOf250
 v212 := Tryz.zeroValue250
 t213 := Tryz.underlying251
 a213 := Tryz.isAgg251
 z213 := Tryz.sizeOf251
 t232 := Tryz.underlying276
 a232 := Tryz.isAgg276
 z232 := Tryz.sizeOf276
 v232 := Tryz.zeroValue276
 t233 := Tryz.underlying277
 a233 := Tryz.isAgg277
 z233 := Tryz.sizeOf277
 v233 := Tryz.zeroValue277
 g15 := by kernel_rfl
 g16 := by kernel_rfl
 g17 := by kernel_rfl
 g18 := by kernel_rfl
 g19 := by kernel_rfl
 t80 := Tryz.underlying115
 a80 := Tryz.isAgg115
 z80 := Tryz.sizeOf115
 v80 := Tryz.zeroValue115
 i0 := by kernel_rfl
 i2 := by kernel_rfl
 i3 := by kernel_rfl
 i4 := by kernel_rfl
 i5 := by kernel_rfl
 i9 := by kernel_rfl
 i20 := by kernel_rfl
 i21 := by kernel_rfl
 i37 := by kernel_rfl
 i46 := by kernel_rfl
 i51 := by kernel_rfl
 i53 := by kernel_rfl
 i75 := by kernel_rfl
 i76 := by kernel_rfl
 i80 := by kernel_rfl
 i85 := by kernel_rfl
 i127 := by kernel_rfl
 i143 := by kernel_rfl
 i145 := by kernel_rfl
 i167 := by kernel_rfl
 i168 := by kernel_rfl
 i171 := by kernel_rfl
 i173 := by kernel_rfl
 i175 := by kernel_rfl
 i210 := by kernel_rfl
 i212 := by kernel_rfl
 i232 := by kernel_rfl
 i233 := by kernel_rfl
 m15 := by kernel_rfl
 m16 := by kernel_rfl
 m17 := by kernel_rfl
 m18 := by kernel_rfl
 m19 := by kernel_rfl
 c0 := by kernel_rfl
 c2 := by kernel_rfl
 c3 := by kernel_rfl
 c4 := by kernel_rfl
 c5 := by kernel_rfl
 c9 := by kernel_rfl
 c20 := by kernel_rfl
 c21 := by kernel_rfl
 c37 := by kernel_rfl
 c46 := by kernel_rfl
 c51 := by kernel_rfl
 c53 := by kernel_rfl
 c75 := by kernel_rfl
 c76 := by kernel_rfl
 c80 := by kernel_rfl
 c85 := by kernel_rfl
 c127 := by kernel_rfl
 c143 := by kernel_rfl
 c145 := by kernel_rfl
 c167 := by kernel_rfl
 c168 := by kernel_rfl
 c171 := by kernel_rfl
 c173 := by kernel_rfl
 c175 := by kernel_rfl
 c210 := by kernel_rfl
 c212 := by kernel_rfl
 c213 := by kernel_rfl
 c232 := by kernel_rfl
 c233 := by kernel_rfl }
open Go.RowKit in
theorem Tryz.strconv_Atoi_ok (s : ByteArray) (hmax : s.size ≤ 9223372036854775806) (v : Int) (h : Lib.atoiAll s.data.toList = .ok v) (w : World) :
 Calls Tryz.prog 124 #[.string s] w fun e w' => e = .returned (.tuple #[.int .i64 v, .nilIface]) ∧ (w' = w ∨ ∃ t, w' = Lib.bytesWorld w 5 t) := Any.strconv_Atoi_ok Tryz.laysC172 s hmax v h w
open Go.RowKit in
theorem Tryz.strconv_Atoi_syntax (s : ByteArray) (hlim : s.size ≤ 281474976710656) (h : Lib.atoiAll s.data.toList = Lib.atoiAll []) (ev : Value) (w : World) (hv : w.cell? ⟨3, 0, none⟩ = some ev) (hev : ev = .nilIface ∨ ∃ te pe, ev = .iface te pe) :
 Calls Tryz.prog 124 #[.string s] w fun e w' => ∃ N, e = .returned (.tuple #[.int .i64 (0), .iface 266 (.pointer (some ⟨N, 0, none⟩))]) ∧ w.heap.size ≤ N ∧ w'.heap[N]? = some (.cells #[.string ⟨#[65, 116, 111, 105]⟩, .string s, ev] 274 (0, 0)) ∧ Below w.heap.size w w' := Any.strconv_Atoi_syntax Tryz.laysC172 s hlim h ev w hv hev
open Go.RowKit in
theorem Tryz.strconv_Atoi_range (s : ByteArray) (hlim : s.size ≤ 281474976710656) (h : Lib.atoiAll s.data.toList = .range) (ev : Value) (w : World) (hv : w.cell? ⟨4, 0, none⟩ = some ev) (hev : ev = .nilIface ∨ ∃ te pe, ev = .iface te pe) :
 Calls Tryz.prog 124 #[.string s] w fun e w' => ∃ N, e = .returned (.tuple #[.int .i64 (Lib.atoiSat s.data.toList), .iface 266 (.pointer (some ⟨N, 0, none⟩))]) ∧ w.heap.size ≤ N ∧ w'.heap[N]? = some (.cells #[.string ⟨#[65, 116, 111, 105]⟩, .string s, ev] 274 (0, 0)) ∧ Below w.heap.size w w' := Any.strconv_Atoi_range Tryz.laysC172 s hlim h ev w hv hev
def Tryz.lays144_ren : Go.Shelf.Ren := ⟨fun | 144 => 67 | 143 => 102 | 219 => 122 | 217 => 138 | 225 => 139 | 224 => 140 | 267 => 141 | 266 => 161 | 314 => 162 | n => n, fun | 9 => 9 | 4 => 4 | 3 => 3 | 5 => 5 | 46 => 175 | 146 => 211 | 51 => 210 | n => n, fun | 1 => 0 | n => n⟩
theorem Tryz.lays144 : Go.Proofs.Lays.n144 Tryz.prog Tryz.lays144_ren := {
 mixed := by kernel_rfl
 f143 := Tryz.func102.trans (congrArg some (by kernel_rfl))
 f144 := Tryz.func67.trans (congrArg some (by kernel_rfl))
 f217 := Tryz.func138.trans (congrArg some (by kernel_rfl))
 f219 := Tryz.func122.trans (congrArg some (by kernel_rfl))
 f224 := Tryz.func140.trans (congrArg some (by kernel_rfl))
 f225 := Tryz.func139.trans (congrArg some (by kernel_rfl))
 f266 := Tryz.func161.trans (congrArg some (by kernel_rfl))
 f267 := Tryz.func141.trans (congrArg some (by kernel_rfl))
 f314 := Tryz.func162.trans (congrArg some (by kernel_rfl))
 t3 := Tryz.underlying3
 a3 := Tryz.isAgg3
 z3 := Tryz.sizeOf3
 v3 := Tryz.zeroValue3
 t4 := Tryz.underlying4
 a4 := Tryz.isAgg4
 z4 := Tryz.sizeOf4
 v4 := Tryz.zeroValue4
 t5 := Tryz.underlying5
 a5 := Tryz.isAgg5
 z5 := Tryz.sizeOf5
 v5 := Tryz.zeroValue5
 t9 := Tryz.underlying9
 a9 := Tryz.isAgg9
 z9 := Tryz.sizeOf9
 v9 := Tryz.zeroValue9
 t46 := Tryz.underlying175
 a46 := Tryz.isAgg175
 z46 := Tryz.sizeOf175
 v46 := Tryz.zeroValue175
 t51 := Tryz.underlying210
 a51 := Tryz.isAgg210
 z51 := Tryz.sizeOf210
 v51 := Tryz.zeroValue210
 t146 := Tryz.underlying211
 a146 := Tryz.isAgg211
 z146 := Tryz.sizeOf211
 v146 := Tryz.zeroValue211
 g1 := by kernel_rfl }
open Go.RowKit Go.Lib in
theorem Tryz.strings_Contains (s sub : ByteArray) (m : Int) (w : World) (hs : s.size < 4294967281) (hm : w.cell? ⟨0, 0, none⟩ = some (.int .i64 m)) :
 Calls Tryz.prog 67 #[.string s, .string sub] w fun e w' => e = .returned (.bool (Lib.contains s.data.toList sub.data.toList)) ∧ w' = w := Any.strings_Contains Tryz.lays144 s sub m w hs hm
def Tryz.lays145_ren : Go.Shelf.Ren := ⟨fun | 145 => 100 | 220 => 120 | 219 => 122 | 217 => 138 | 225 => 139 | 224 => 140 | 267 => 141 | 266 => 161 | 314 => 162 | n => n, fun | 9 => 9 | 4 => 4 | 59 => 195 | 3 => 3 | 5 => 5 | 46 => 175 | 146 => 211 | 51 => 210 | n => n, fun | 1 => 0 | n => n⟩
theorem Tryz.lays145 : Go.Proofs.Lays.n145 Tryz.prog Tryz.lays145_ren := {
 mixed := by kernel_rfl
 f145 := Tryz.func100.trans (congrArg some (by kernel_rfl))
 f217 := Tryz.func138.trans (congrArg some (by kernel_rfl))
 f219 := Tryz.func122.trans (congrArg some (by kernel_rfl))
 f220 := Tryz.func120.trans (congrArg some (by kernel_rfl))
 f224 := Tryz.func140.trans (congrArg some (by kernel_rfl))
 f225 := Tryz.func139.trans (congrArg some (by kernel_rfl))
 f266 := Tryz.func161.trans (congrArg some (by kernel_rfl))
 f267 := Tryz.func141.trans (congrArg some (by kernel_rfl))
 f314 := Tryz.func162.trans (congrArg some (by kernel_rfl))
 t3 := Tryz.underlying3
 a3 := Tryz.isAgg3
 z3 := Tryz.sizeOf3
 v3 := Tryz.zeroValue3
 t4 := Tryz.underlying4
 a4 := Tryz.isAgg4
 z4 := Tryz.sizeOf4
 v4 := Tryz.zeroValue4
 t5 := Tryz.underlying5
 a5 := Tryz.isAgg5
 z5 := Tryz.sizeOf5
 v5 := Tryz.zeroValue5
 t9 := Tryz.underlying9
 a9 := Tryz.isAgg9
 z9 := Tryz.sizeOf9
 v9 := Tryz.zeroValue9
 t46 := Tryz.underlying175
 a46 := Tryz.isAgg175
 z46 := Tryz.sizeOf175
 v46 := Tryz.zeroValue175
 t51 := Tryz.underlying210
 a51 := Tryz.isAgg210
 z51 := Tryz.sizeOf210
 v51 := Tryz.zeroValue210
 t59 := Tryz.underlying195
 a59 := Tryz.isAgg195
 z59 := Tryz.sizeOf195
 v59 := Tryz.zeroValue195
 t146 := Tryz.underlying211
 a146 := Tryz.isAgg211
 z146 := Tryz.sizeOf211
 v146 := Tryz.zeroValue211
 g1 := by kernel_rfl }
open Go.RowKit Go.Lib in
theorem Tryz.strings_Cut (s sep : ByteArray) (m : Int) (w : World) (hs : s.size < 4294967281) (hm : w.cell? ⟨0, 0, none⟩ = some (.int .i64 m)) :
 Calls Tryz.prog 100 #[.string s, .string sep] w fun e w' => e = .returned (.tuple #[.string ⟨(Lib.cut s.data.toList sep.data.toList).1.toArray⟩, .string ⟨(Lib.cut s.data.toList sep.data.toList).2.1.toArray⟩, .bool (Lib.cut s.data.toList sep.data.toList).2.2]) ∧ ∃ n, w' = w.drewN n := Any.strings_Cut Tryz.lays145 s sep m w hs hm
def Tryz.lays146_ren : Go.Shelf.Ren := ⟨fun | 146 => 103 | 221 => 123 | 268 => 142 | 138 => 143 | 143 => 102 | 195 => 163 | 197 => 164 | 218 => 165 | 219 => 122 | 260 => 173 | 217 => 138 | 225 => 139 | 224 => 140 | 267 => 141 | 266 => 161 | 314 => 162 | n => n, fun | 9 => 9 | 31 => 67 | 3 => 3 | 4 => 4 | 0 => 0 | 105 => 261 | 21 => 21 | 5 => 5 | 46 => 175 | 119 => 278 | 139 => 281 | 138 => 280 | 146 => 211 | 51 => 210 | n => n, fun | 1 => 0 | 3 => 7 | 4 => 8 | n => n⟩
theorem Tryz.lays146 : Go.Proofs.Lays.n146 Tryz.prog Tryz.lays146_ren := {
 mixed := by kernel_rfl
 f138 := Tryz.func143.trans (congrArg some (by kernel_rfl))
 f143 := Tryz.func102.trans (congrArg some (by kernel_rfl))
 f146 := Tryz.func103.trans (congrArg some (by kernel_rfl))
 f195 := Tryz.func163.trans (congrArg some (by kernel_rfl))
 f197 := Tryz.func164.trans (congrArg some (by kernel_rfl))
 f217 := Tryz.func138.trans (congrArg some (by kernel_rfl))
 f218 := Tryz.func165.trans (congrArg some (by kernel_rfl))
 f219 := Tryz.func122.trans (congrArg some (by kernel_rfl))
 f221 := Tryz.func123.trans (congrArg some (by kernel_rfl))
 f224 := Tryz.func140.trans (congrArg some (by kernel_rfl))
 f225 := Tryz.func139.trans (congrArg some (by kernel_rfl))
 f260 := Tryz.func173.trans (congrArg some (by kernel_rfl))
 f266 := Tryz.func161.trans (congrArg some (by kernel_rfl))
 f267 := Tryz.func141.trans (congrArg some (by kernel_rfl))
 f268 := Tryz.func142.trans (congrArg some (by kernel_rfl))
 f314 := Tryz.func162.trans (congrArg some (by kernel_rfl))
 t0 := Tryz.underlying0
 a0 := Tryz.isAgg0
 z0 := Tryz.sizeOf0
 v0 := Tryz.zeroValue0
 t3 := Tryz.underlying3
 a3 := Tryz.isAgg3
 z3 := Tryz.sizeOf3
 v3 := Tryz.zeroValue3
 t4 := Tryz.underlying4
 a4 := Tryz.isAgg4
 z4 := Tryz.sizeOf4
 v4 := Tryz.zeroValue4
 t5 := Tryz.underlying5
 a5 := Tryz.isAgg5
 z5 := Tryz.sizeOf5
 v5 := Tryz.zeroValue5
 t9 := Tryz.underlying9
 a9 := Tryz.isAgg9
 z9 := Tryz.sizeOf9
 v9 := Tryz.zeroValue9
 t21 := Tryz.underlying21
 a21 := Tryz.isAgg21
 z21 := Tryz.sizeOf21
 v21 := Tryz.zeroValue21
 t31 := Tryz.underlying67
 a31 := Tryz.isAgg67
 z31 := Tryz.sizeOf67
 v31 := Tryz.zeroValue67
 t46 := Tryz.underlying175
 a46 := Tryz.isAgg175
 z46 := Tryz.sizeOf175
 v46 := Tryz.zeroValue175
 t51 := Tryz.underlying210
 a51 := Tryz.isAgg210
 z51 := Tryz.sizeOf210
 v51 := Tryz.zeroValue210
 t105 := Tryz.underlying261
 a105 := Tryz.isAgg261
 z105 := Tryz.sizeOf261
 v105 := Tryz.zeroValue261
 t119 := Tryz.underlying278
 a119 := Tryz.isAgg278
 z119 := Tryz.sizeOf278
 t138 := Tryz.underlying280
 a138 := Tryz.isAgg280
 z138 := Tryz.sizeOf280
 v138 := Tryz.zeroValue280
 t139 := Tryz.underlying281
 a139 := Tryz.isAgg281
 z139 := Tryz.sizeOf281
 v139 := Tryz.zeroValue281
 t146 := Tryz.underlying211
 a146 := Tryz.isAgg211
 z146 := Tryz.sizeOf211
 v146 := Tryz.zeroValue211
 g1 := by kernel_rfl
 g3 := by kernel_rfl
 g4 := by kernel_rfl }
open Go.RowKit Go.Lib in
theorem Tryz.strings_Split (s sep : ByteArray) (m : Int) (w : World) (hs : s.size < 4294967281) (hm : w.cell? ⟨0, 0, none⟩ = some (.int .i64 m)) (h1 : 1 ≤ sep.size) :
 Calls Tryz.prog 103 #[.string s, .string sep] w fun e w' =>
  e = .returned (.slice (some ⟨w.heap.size, 0, none⟩) (Lib.countB s sep + 1) (Lib.countB s sep + 1)) ∧ w' = w.alloc (.cells ((Lib.splitB sep 0 (Lib.countB s sep) s).map Value.string).toArray 9) := Any.strings_Split Tryz.lays146 (by kernel_rfl) s sep m w hs hm h1
def Tryz.lays212_ren : Go.Shelf.Ren := ⟨fun | 212 => 85 | 263 => 111 | 264 => 112 | n => n, fun | 46 => 175 | 51 => 210 | 146 => 211 | 53 => 213 | 148 => 214 | n => n, fun | n => n⟩
theorem Tryz.lays212 : Go.Proofs.Lays.n212 Tryz.prog Tryz.lays212_ren := {
 mixed := by kernel_rfl
 f212 := Tryz.func85.trans (congrArg some (by kernel_rfl))
 f263 := Tryz.func111.trans (congrArg some (by kernel_rfl))
 f264 := Tryz.func112.trans (congrArg some (by kernel_rfl))
 t46 := Tryz.underlying175
 a46 := Tryz.isAgg175
 z46 := Tryz.sizeOf175
 v46 := Tryz.zeroValue175
 t51 := Tryz.underlying210
 a51 := Tryz.isAgg210
 z51 := Tryz.sizeOf210
 v51 := Tryz.zeroValue210
 t53 := Tryz.underlying213
 a53 := Tryz.isAgg213
 z53 := Tryz.sizeOf213
 v53 := Tryz.zeroValue213
 t146 := Tryz.underlying211
 a146 := Tryz.isAgg211
 z146 := Tryz.sizeOf211
 v146 := Tryz.zeroValue211
 t148 := Tryz.underlying214
 a148 := Tryz.isAgg214
 z148 := Tryz.sizeOf214
 v148 := Tryz.zeroValue214 }
open Go.RowKit Go.Lib in
theorem Tryz.bits_Mul (x y : Nat) (hx : x < 18446744073709551616) (hy : y < 18446744073709551616) (w : World) :
 Calls Tryz.prog 85 #[.int .u64 x, .int .u64 y] w fun e w' => e = .returned (.tuple #[.int .u64 ((x * y / 18446744073709551616 : Nat) : Int), .int .u64 ((x * y % 18446744073709551616 : Nat) : Int)]) ∧ w' = w := Any.bits_Mul Tryz.lays212 x y hx hy w
end Go.Proofs
