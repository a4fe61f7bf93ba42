/- Texts of the proof, joined. -/
import Derived.Test.YtgdlgjkjpbbniaaDoorRows
import Derived.Test.YtgdlgjkjpbbniaaDoorR3
set_option linter.unusedVariables false
set_option linter.unusedSimpArgs false
namespace Go.Proofs.YtgdlgjkjpbbniaaDoor
open Go.Lw Go.G21
theorem bo26 : BuildAt Tryd.prog 26 [(0, 1), (1, 1)] [(.int .i64 0), (.slice none 0 0)] := BuildAt.struct Tryd.underlying26 (fun _ => by kernel_rfl) (fun _ => by kernel_rfl)
theorem co13 : CallOf Tryd.prog 13 := CallOf.mk' Tryd.func13 (by kernel_rfl) (by kernel_rfl)
theorem co27 : CallOf Tryd.prog 27 := CallOf.mk' Tryd.func27 (by kernel_rfl) (by kernel_rfl)
theorem co28 : CallOf Tryd.prog 28 := CallOf.mk' Tryd.func28 (by kernel_rfl) (by kernel_rfl)
theorem co29 : CallOf Tryd.prog 29 := CallOf.mk' Tryd.func29 (by kernel_rfl) (by kernel_rfl)
theorem co30 : CallOf Tryd.prog 30 := CallOf.mk' Tryd.func30 (by kernel_rfl) (by kernel_rfl)
theorem el79 : ElemOf Tryd.prog 79 9 Enc.str 16 := ElemOf.mk' (z := (.string ⟨#[]⟩)) Tryd.underlying79 (by kernel_rfl) rfl
theorem na9 : NotAgg Tryd.prog 9 := fun _ => by kernel_rfl
theorem sz22 : SizeOf Tryd.prog 22 1 := fun _ => by kernel_rfl
theorem sz26 : SizeOf Tryd.prog 26 2 := fun _ => by kernel_rfl
theorem zv26 (w : World) : (zeroValue 26).run Tryd.prog w = .ok (.agg #[(.int .i64 0), (.slice none 0 0)]) w := by kernel_rfl
theorem cut_len2 (x m : List UInt8) : (Lib.cut x m).2.1.length ≤ x.length := by unfold Lib.cut; (repeat' split) <;> simp <;> omega
theorem bytc {n : Int} (h : 0 ≤ n ∧ n ≤ 255) : [Value.int .u8 n].map Value.cells = [UInt8.ofNat n.toNat].map (fun y => (Enc.b.enc y).toArray) := by
  have e : ((UInt8.ofNat n.toNat).toNat : Int) = n := by rw [UInt8.toNat_ofNat']; omega
  show [#[Value.int .u8 n]] = [#[Value.int .u8 ((UInt8.ofNat n.toNat).toNat : Int)]]
  rw [e]
theorem rep_snoc {α : Type} (l : List α) (k : Nat) (x : α) : (l ++ List.replicate k x) ++ [x] = l ++ List.replicate (k + 1) x := by
  rw [List.append_assoc]; congr 1
  exact (List.replicate_succ' (n := k) (a := x)).symm
theorem blks_cut {A : Option Addr} {b : Prop} [Decidable b] {q m c m' c' : Nat} : blks (.slice (if b then A else A.map (·.add q)) m' c') = blks (.slice A m c) := by
  cases A <;> split <;> simp [blks, block_add]
theorem guess_take (ws : List (List UInt8)) (i : Nat) (h : i < ws.length) : guessR (ws.take (i + 1)) = addW (guessR (ws.take i)) (ws.getD i []) := by
  rw [List.take_add_one, List.getElem?_eq_getElem h, List.getD, List.getElem?_eq_getElem h]
  exact guess_snoc _ _
theorem tx_some {c : Prop} [Decidable c] {t s : List UInt8} (h : ¬ ((if c then t else []) = [] ∨ (if c then t else []) ≠ s)) : c ∧ t = s := by
  by_cases hc : c
  · rw [if_pos hc] at h; exact ⟨hc, Classical.not_not.1 fun e => h (.inr e)⟩
  · rw [if_neg hc] at h; exact absurd (.inl rfl) h
theorem tx_none {c : Prop} [Decidable c] {t s : List UInt8} (ht : t ≠ []) (h : (if c then t else []) = [] ∨ (if c then t else []) ≠ s) : ¬ (c ∧ t = s) := fun ⟨h1, h2⟩ => by
  rw [if_pos h1] at h; exact h.elim ht fun e => e h2
theorem textT_ne (wd : Int) (rs : List UInt8) : textT wd rs ≠ [] := by simp [textT]
theorem clipb_ok (A : Option Addr) (m c : Nat) (w0 : World) (hc : m ≤ c) : Rets Tryd.prog 30 #[.slice A m c] w0 fun v w' => v = .slice A m m ∧ w0 = w' := by
 refine we [(0, .slice A m c)] Tryd.func30 rfl Tryd.ntmps30 rfl (.cons rfl .nil) ?_
 refine sr (asg rfl rfl (nn (sr (mv rfl rfl (mv rfl rfl (lnS rfl Tryd.underlying22 rfl (mv rfl rfl (lnS rfl Tryd.underlying22 rfl (s_sl_hm rfl rfl rfl el22 (by omega) (by omega) (by omega) nat_of nat_of rfl (asg rfl rfl (kpL [(2, _)] (.cons rfl .nil) ?_)))))))))))
 refine nn (rt (r1 Tryd.results30 rfl ?_))
 exact ⟨_, rfl, rfl, rfl⟩
set_option maxHeartbeats 1000000 in
theorem parse_ok (s : List UInt8) (w0 : World) (hG : Glob w0) (hl : s.length ≤ 1000000) : Rets Tryd.prog 15 #[S s] w0 fun r w' => ∃ (wd : Int) (A : Option Addr) (rs : List UInt8) (e : Int), r = .tuple #[.agg #[.int .i64 wd, .slice A rs.length rs.length], .int .i64 e] ∧ Sl Enc.b w' (.slice A rs.length rs.length) rs ∧ (e = 0 ∧ parS s = some (wd, rs) ∨ e = 4 ∧ wd = 0 ∧ rs = [] ∧ parS s = none) ∧ Fr [] w0 w' := by
 have hsl := fun i => split_len s [32] i
 have hs1 := split_len s [32] 1
 have hgl := fun k => guess_len (((Lib.split s [32]).drop 2).take k)
 have hGs := hG.sz
 refine we [(0, S s)] Tryd.func15 rfl Tryd.ntmps15 rfl (.cons rfl .nil) ?_
 have hG0 := hG
 refine sr (al zv26 rfl rfl (fun g2 w1 hg2 hb2 q1 z1 => ?_))
 refine asg rfl rfl (nn (sr (mv rfl rfl ?_)))
 replace hG := hG0.ext q1
 refine cl (ev2 rfl rfl) co27 (split_ok _ _ _ hG (by omega) (by decide)) rfl ?_
 rintro V14 w2 ⟨ho14, q2⟩
 have z2 := q2.size
 obtain ⟨A14, c14, rfl, hc14⟩ := ho14.sl.form
 have hb14 := fun k hk => (ho14.blk k hk).2
 have hl14 := ho14.sl.len_le
 unfold maxLen at hl14
 refine asg rfl rfl (nn (sq (sr (mv rfl rfl (lnS rfl Tryd.underlying79 rfl (lt' rfl rfl rfl (nn ?_)))))))
 refine cd rfl (fun c0 => ?_) (fun c0 => ?_)
 · refine sr (s_lit (cs := [_, _]) evs_nil bo26 pok_nil rfl rfl ?_)
   replace hb2 := hb2.ext q2
   refine s_storeBA (vs := [_, _]) rfl rfl hb2 (by rfl) (by first | (simp [Value.oneCell', S]; done) | exact Enc.one _ _) sz26 (fun w3 hb2 q3 z3 => ?_)
   refine asg rfl rfl (nn (rt (tr (rCT Tryd.results15 rfl hb2 ag26 rfl ?_))))
   exact ⟨_, rfl, 0, none, [], 4, rfl, Sl.nil _, .inr ⟨rfl, rfl, rfl, by unfold parS; rw [if_pos (by omega)]⟩, ((q1.next q2).step q3 (by first | (simp; done) | (simp; omega)))⟩
 · refine sk (tn (sr (mv rfl rfl (s_idxL (p := 1) (([] : List UInt8)) rfl ho14.sl rfl el79 (by omega) (by omega) rfl rfl (fun ad20 hc20 => ?_)))))
   refine s_loadC0 rfl (hc20 _ ho14.sl) na9 rfl ?_
   replace hG := hG0.ext (q1.next q2)
   refine cl (ev2 rfl rfl) co28 (number_ok _ _ _ hG (by omega)) rfl ?_
   rintro _ w4 ⟨rfl, q4⟩
   have z4 := q4.size
   refine s_lit (cs := [_, _]) (ev1 rfl) bo26 (pok_cons rfl rfl rfl pok_nil) rfl rfl ?_
   refine al zv26 rfl rfl (fun g5 w5 hg5 hb5 q5 z5 => ?_)
   refine s_storeBA (vs := [_, _]) rfl rfl hb5 (by rfl) (by first | (simp [Value.oneCell', S]; done) | exact Enc.one _ _) sz26 (fun w6 hb5 q6 z6 => ?_)
   refine kpL [(0, _), (2, _), (4, _), (5, _)] (.cons rfl (.cons rfl (.cons rfl (.cons rfl .nil)))) (nn (sq (sr (mv rfl rfl ?_))))
   replace ho14 := (ho14.ext (q4.next q5)).fr q6 (by intro k hk hb; simp at hk; subst hk; have := (ho14.blk _ hb); omega)
   replace hb2 := (hb2.ext ((q2.next q4).next q5)).fr q6 (by first | (simp; done) | (simp; omega) | (simp [blks]; done) | (simp [blks]; omega))
   refine s_sl_l (p := 2) rfl rfl el79 (by omega) (by omega) rfl rfl ?_
   have hw2 := ho14.sl.cutv (p := 2) (p' := (Lib.split s [32]).length) (by omega) (Nat.le_refl _)
   rw [List.take_length] at hw2
   have hw5 : g5 ∉ blks (.slice (if c14 = 2 then A14 else A14.map (·.add (2 * Enc.str.sz))) ((Lib.split s [32]).length - 2) (c14 - 2)) := fun hk => by
     rw [blks_cut (m := (Lib.split s [32]).length) (c := c14)] at hk
     have := hb14 _ hk; omega
   generalize (if c14 = 2 then A14 else A14.map (·.add (2 * Enc.str.sz))) = A25 at hw2 hw5 ⊢
   generalize c14 - 2 = c25 at hw2 hw5 ⊢
   rw [show (Lib.split s [32]).length - 2 = ((Lib.split s [32]).drop 2).length by simp] at hw2 hw5 ⊢
   have hw20 := hw2
   have hb20 := hb2
   have hMw := hw2.len_le
   unfold maxLen at hMw
   refine lnS rfl Tryd.underlying79 rfl (mv rfl rfl (nn (bl ?_)))
   refine lpK (ι := Nat) [(0, _), (2, _), (5, _), (25, _), (26, _)] (fun i => [(27, .int .i64 (i : Int))]) (fun i w' => Fr [g5] w6 w' ∧ i ≤ ((Lib.split s [32]).drop 2).length ∧ ∃ A c, Blk w' g5 26 [.int .i64 (numM ((Lib.split s [32]).getD 1 []) 16), .slice A ((guessR (((Lib.split s [32]).drop 2).take i))).length c] ∧ Lw.Own Enc.b 5 (g5 + 1) w' (.slice A ((guessR (((Lib.split s [32]).drop 2).take i))).length c) ((guessR (((Lib.split s [32]).drop 2).take i)))) (fun i => ((Lib.split s [32]).drop 2).length - i) 0 (.cons rfl (.cons rfl (.cons rfl (.cons rfl (.cons rfl (.cons rfl .nil)))))) ⟨(Fr.refl _ _), ⟨Nat.zero_le _, ⟨none, 0, hb5, Own.nil _⟩⟩⟩ ?_
   rintro i w7 ⟨q7, ⟨hi, ⟨A, c, hb5, ho⟩⟩⟩
   have z7 := q7.size
   have lt_hb5 := hb5.lt
   refine kpC [(0, _), (2, _), (5, _), (25, _), (26, _), (27, _)] (.cons rfl (.cons rfl (.cons rfl (.cons rfl (.cons rfl (.cons rfl .nil)))))) ?_
   refine sr (lt' rfl rfl rfl (nn (sq ?_)))
   refine cd rfl (fun c1 => ?_) (fun c1 => ?_)
   · have hsi : (((Lib.split s [32]).drop 2).getD i []).length ≤ s.length := by rw [List.getD, List.getElem?_drop]; exact hsl (2 + i)
     have hcl1 := cut_len (((Lib.split s [32]).drop 2).getD i []) [120]
     have hcl2 := cut_len2 (((Lib.split s [32]).drop 2).getD i []) [120]
     have hgi := hgl i
     have hnr := numM_rng (Lib.cut (((Lib.split s [32]).drop 2).getD i []) [120]).1 6 (by decide)
     refine sk (tn (sq (bl (sr ?_))))
     replace hw2 := hw20.fr ((Fr.refl [g5] _).step q7 (by first | (simp; done) | (simp; omega))) (fun k hk hb => by rw [List.mem_singleton] at hk; subst hk; exact hw5 hb)
     refine s_idxL (p := i) (([] : List UInt8)) rfl hw2 rfl el79 (by omega) (by omega) (by omega) rfl (fun ad29 hc29 => ?_)
     refine s_loadC0 rfl (hc29 _ hw2) na9 rfl (asg rfl rfl (nn (sr (mv rfl rfl ?_))))
     replace hG := hG0.ext (((((q1.next q2).next q4).next q5).step q6 (by first | (simp; done) | (simp; omega))).step q7 (by first | (simp; done) | (simp; omega)))
     refine cl (ev2 rfl rfl) co29 (scut_ok _ _ _ hG (by omega)) rfl ?_
     rintro _ w8 ⟨rfl, q8⟩
     have z8 := q8.size
     refine mv rfl rfl (xt rfl rfl rfl (xt rfl rfl rfl (xt rfl rfl rfl (asg rfl rfl (asg rfl rfl (asg rfl rfl (kpL [(0, _), (2, _), (5, _), (8, _), (9, _), (10, _), (25, _), (26, _), (27, _)] (.cons rfl (.cons rfl (.cons rfl (.cons rfl (.cons rfl (.cons rfl (.cons rfl (.cons rfl (.cons rfl .nil))))))))) (nn (sr (asg rfl rfl (nn ?_)))))))))))
     refine jn (ι := Unit) [(0, _), (2, _), (5, _), (8, _), (25, _), (26, _), (27, _)] (fun _j => [(11, .int .i64 (timesW (((Lib.split s [32]).drop 2).getD i [])))]) (fun _j w' => Fr [] w8 w') (.cons rfl (.cons rfl (.cons rfl (.cons rfl (.cons rfl (.cons rfl (.cons rfl .nil))))))) ?_ ?_
     · refine sr (mv rfl rfl (nn ?_))
       refine cd rfl (fun c2 => ?_) (fun c2 => ?_)
       · refine rg (mv rfl rfl ?_)
         replace hG := hG0.ext ((((((q1.next q2).next q4).next q5).step q6 (by first | (simp; done) | (simp; omega))).step q7 (by first | (simp; done) | (simp; omega))).next q8)
         refine cl (ev2 rfl rfl) co28 (number_ok _ _ _ hG (by omega)) rfl ?_
         rintro _ w9 ⟨rfl, q9⟩
         have z9 := q9.size
         refine asg rfl rfl (nl ?_)
         exact jE (()) (.cons rfl (.cons rfl (.cons rfl (.cons rfl (.cons rfl (.cons rfl (.cons rfl (.cons (congrArg (fun z => some (Value.int .i64 z)) (by first | (unfold timesW; rw [if_pos c2]) | (unfold timesW; rw [if_neg c2]))) .nil)))))))) q9
       · refine sk ?_
         exact jE (()) (.cons rfl (.cons rfl (.cons rfl (.cons rfl (.cons rfl (.cons rfl (.cons rfl (.cons (congrArg (fun z => some (Value.int .i64 z)) (by first | (unfold timesW; rw [if_pos c2]) | (unfold timesW; rw [if_neg c2]))) .nil)))))))) (Fr.refl _ _)
     · rintro _j w10 q10
       have z10 := q10.size
       refine kpC [(0, _), (2, _), (5, _), (8, _), (25, _), (26, _), (27, _), (11, _)] (.cons rfl (.cons rfl (.cons rfl (.cons rfl (.cons rfl (.cons rfl (.cons rfl (.cons rfl .nil)))))))) ?_
       refine sr (mv rfl rfl (fad rfl fa26_1 rfl ?_))
       replace hb5 := hb5.ext (q8.next q10)
       refine s_loadB rfl hb5 rfl na22 rfl (lnS rfl Tryd.underlying22 rfl (s_sub rfl rfl (wi6 (by omega)) rfl (s_min rfl rfl rfl (mv rfl rfl (kpL [(0, _), (2, _), (5, _), (8, _), (25, _), (26, _), (27, _), (45, _), (46, _)] (.cons rfl (.cons rfl (.cons rfl (.cons rfl (.cons rfl (.cons rfl (.cons rfl (.cons rfl (.cons rfl .nil))))))))) (nn (bl ?_)))))))
       replace ho := ho.ext (q8.next q10)
       refine lpK (ι := Nat) [(0, _), (2, _), (5, _), (8, _), (25, _), (26, _), (27, _), (45, _)] (fun j => [(46, .int .i64 (j : Int))]) (fun j w' => Fr [g5] w6 w' ∧ j ≤ (min (timesW (((Lib.split s [32]).drop 2).getD i [])) (32 - ((guessR (((Lib.split s [32]).drop 2).take i)).length : Int))).toNat ∧ ∃ A c, Blk w' g5 26 [.int .i64 (numM ((Lib.split s [32]).getD 1 []) 16), .slice A (((guessR (((Lib.split s [32]).drop 2).take i)) ++ List.replicate j (UInt8.ofNat (numM (Lib.cut (((Lib.split s [32]).drop 2).getD i []) [120]).1 6).toNat))).length c] ∧ Lw.Own Enc.b 5 (g5 + 1) w' (.slice A (((guessR (((Lib.split s [32]).drop 2).take i)) ++ List.replicate j (UInt8.ofNat (numM (Lib.cut (((Lib.split s [32]).drop 2).getD i []) [120]).1 6).toNat))).length c) (((guessR (((Lib.split s [32]).drop 2).take i)) ++ List.replicate j (UInt8.ofNat (numM (Lib.cut (((Lib.split s [32]).drop 2).getD i []) [120]).1 6).toNat)))) (fun j => (min (timesW (((Lib.split s [32]).drop 2).getD i [])) (32 - ((guessR (((Lib.split s [32]).drop 2).take i)).length : Int))).toNat - j) 0 (.cons rfl (.cons rfl (.cons rfl (.cons rfl (.cons rfl (.cons rfl (.cons rfl (.cons rfl (.cons rfl .nil))))))))) ⟨((((Fr.refl [g5] _).step q7 (by first | (simp; done) | (simp; omega))).next q8).next q10), ⟨Nat.zero_le _, ⟨_, _, by simpa using hb5, by simpa using ho⟩⟩⟩ ?_
       rintro j w11 ⟨q11, ⟨hj, ⟨A, c, hb5, ho⟩⟩⟩
       have z11 := q11.size
       have lt_hb5 := hb5.lt
       refine kpC [(0, _), (2, _), (5, _), (8, _), (25, _), (26, _), (27, _), (45, _), (46, _)] (.cons rfl (.cons rfl (.cons rfl (.cons rfl (.cons rfl (.cons rfl (.cons rfl (.cons rfl (.cons rfl .nil))))))))) ?_
       refine sr (lt' rfl rfl rfl (nn (sq ?_)))
       refine cd rfl (fun c3 => ?_) (fun c3 => ?_)
       · refine sk (tn (sq (bl ?_)))
         replace hG := hG0.ext (((((q1.next q2).next q4).next q5).step q6 (by first | (simp; done) | (simp; omega))).step q11 (by first | (simp; done) | (simp; omega)))
         intro a h
         refine region_heldP (some 8) (fun wb w' => Fr (blks (.slice A ((guessR (((Lib.split s [32]).drop 2).take i)) ++ List.replicate j (UInt8.ofNat (numM (Lib.cut (((Lib.split s [32]).drop 2).getD i []) [120]).1 6).toNat)).length c)) wb w') hmix ?_; intro w12 hq
         have z12 := hq.size
         replace hG := hG.ext hq
         replace hb5 := hb5.ext hq
         replace ho := ho.ext hq
         have q12 := hq
         clear hq; have hC : Fr (blks (.slice A ((guessR (((Lib.split s [32]).drop 2).take i)) ++ List.replicate j (UInt8.ofNat (numM (Lib.cut (((Lib.split s [32]).drop 2).getD i []) [120]).1 6).toNat)).length c)) w12 w12 := Fr.refl _ _
         have hG_b := hG
         have hb5_b := hb5
         have ho_b := ho
         refine hd_fieldAddr 0 (by kernel_rfl) (by kernel_rfl) (by kernel_rfl) hC h wn rfl fa26_1 rfl rfl ?_; clear h a; intro a h
         refine hd_loadB 1 (by kernel_rfl) (by kernel_rfl) (by kernel_rfl) hC h wn rfl (fun _ hw => hb5_b.fr hw (fun k_ => Own.neB ho_b hb5_b (by decide) k_)) rfl na22 rfl rfl ?_; clear h a; intro a h
         refine hd_move 2 (by kernel_rfl) (by kernel_rfl) (by kernel_rfl) hC h wn rfl rfl rfl ?_; clear h a; intro a h
         refine hd_one 3 (by kernel_rfl) rfl ?_
         refine st_call h (evs_cons rfl (evs_cons rfl evs_nil)) co28 (number_ok _ _ _ hG (by omega)) rfl ?_; clear h a; rintro _ w13 ⟨rfl, hq⟩ a h
         have z13 := hq.size
         replace hG := hG.ext hq
         replace hb5 := hb5.ext hq
         replace ho := ho.ext hq
         replace hC := hC.next hq
         have q13 := hq
         clear hq
         refine hd_next hC ?_
         refine hd_conv 4 (by kernel_rfl) (by kernel_rfl) (by kernel_rfl) hC h wn rfl (by rw [Tryd.underlying3]; rfl) Tryd.underlying5 (by first | exact IntWalk.u8_in _ (by omega) | rfl) rfl rfl ?_; clear h a; intro a h
         refine hd_one 5 (by kernel_rfl) rfl ?_
         refine st_bslice ([(UInt8.ofNat (numM (Lib.cut (((Lib.split s [32]).drop 2).getD i []) [120]).1 6).toNat)]) h (evs_cons rfl evs_nil) rfl (bytc (by omega)) rfl el22 (Nat.le_of_ble_eq_true rfl) rfl ?_; clear h a; intro g_53 w14 hg ho53 hq hz a h
         have hn__53 : g5 < g_53 := by have := hb5.lt; omega
         have z14 := hq.size
         replace hG := hG.ext hq
         replace hb5 := hb5.ext hq
         replace ho := ho.ext hq
         replace hC := hC.next hq
         have q14 := hq
         clear hq
         refine hd_next hC ?_
         refine hd_one 6 (by kernel_rfl) rfl ?_
         have hoo54 := ho
         refine st_append h rfl rfl ho ho53.sl el22 (by unfold maxLen; simp only [List.length_cons, List.length_nil, List.length_append, List.length_replicate]; omega) (by simp only [List.length_cons, List.length_nil, List.length_append, List.length_replicate]; omega) (by omega) rfl ?_; clear h a; intro v54 w15 ho hq hor54 a h
         rw [rep_snoc] at ho
         obtain ⟨A5, c5, rfl, hcA⟩ := ho.sl.form
         have z15 := hq.size
         replace hb5 := hb5.fr hq (fun hk => hoo54.neB hb5 (by decide) hk)
         replace hC := hC.step hq (fun k_ h_ _ => h_)
         have q15 := hq
         clear hq
         refine hd_next hC ?_
         refine hd_fieldAddr 7 (by kernel_rfl) (by kernel_rfl) (by kernel_rfl) hC h wn rfl fa26_1 rfl rfl ?_; clear h a; intro a h
         refine hd_one 8 (by kernel_rfl) rfl ?_
         refine st_storeB h rfl rfl hb5 rfl rfl rfl sz22 ?_; clear h a; intro w16 hbn hq hz a h
         have z16 := hq.size
         replace ho := ho.fr hq (by intro k hk hb; simp at hk; subst hk; have := (ho.blk _ hb).1; omega)
         have q16 := hq
         clear hb5 hq hz; have hb5 : Blk w16 g5 _ [_, _] := hbn; clear hbn
         refine hd_past (by kernel_rfl) ?_
         refine hd_end (by kernel_rfl) ?_
         clear hC hG_b hb5_b ho_b
         refine bk (h.sub (L' := [(0, _), (2, _), (5, _), (8, _), (25, _), (26, _), (27, _), (45, _), (46, _)]) (.cons rfl (.cons rfl (.cons rfl (.cons rfl (.cons rfl (.cons rfl (.cons rfl (.cons rfl (.cons rfl .nil)))))))))) ?_; clear h a
         refine bn' (tn (rg (s_add rfl rfl (wi6 (by omega)) rfl (mv rfl rfl (nl ?_)))))
         exact lpE (j + 1) (.cons rfl (.cons rfl (.cons rfl (.cons rfl (.cons rfl (.cons rfl (.cons rfl (.cons rfl (.cons rfl .nil))))))))) ⟨(((((((Fr.refl [g5] _).step q11 (by first | (simp; done) | (simp; omega))).next q12).next q13).next q14).step q15 (fun k hk hlt => absurd (hoo54.blk k hk).1 (by omega))).step q16 (by first | (simp; done) | (simp; omega))), ⟨by omega, ⟨A5, c5, hb5, ho⟩⟩⟩ (by omega)
       · obtain rfl : j = (min (timesW (((Lib.split s [32]).drop 2).getD i [])) (32 - ((guessR (((Lib.split s [32]).drop 2).take i)).length : Int))).toNat := by omega
         have hge := guess_take ((Lib.split s [32]).drop 2) i (by omega)
         unfold addW at hge
         rw [← hge] at hb5 ho
         refine ex (te (te (xh (bn' (tn (rg (s_add rfl rfl (wi6 (by omega)) rfl (mv rfl rfl (nl ?_)))))))))
         exact lpE (i + 1) (.cons rfl (.cons rfl (.cons rfl (.cons rfl (.cons rfl (.cons rfl .nil)))))) ⟨((Fr.refl [g5] _).step q11 (by first | (simp; done) | (simp; omega))), ⟨by omega, ⟨_, _, hb5, ho⟩⟩⟩ (by omega)
   · obtain rfl : i = ((Lib.split s [32]).drop 2).length := by omega
     rw [List.take_length] at hb5 ho
     have hcA : (guessR ((Lib.split s [32]).drop 2)).length ≤ c := by obtain ⟨A_, c_, e_, h_⟩ := ho.sl.form; simp only [Value.slice.injEq] at e_; omega
     refine ex (te (te (xh (tn (sq (sr (s_loadBA rfl hb5 ag26 rfl ?_)))))))
     refine cl (ev1 rfl) co13 (text_ok _ _ (guessR ((Lib.split s [32]).drop 2)) _ ho.sl) rfl ?_
     rintro _ w17 ⟨rfl, q17⟩
     have z17 := q17.size
     refine asg rfl rfl (kpL [(0, _), (2, _), (5, _), (12, _)] (.cons rfl (.cons rfl (.cons rfl (.cons rfl .nil)))) (nn (sq ?_)))
     refine rbo (r := 66) (L' := [(2, _), (5, _)]) ((((if tubE (numM ((Lib.split s [32]).getD 1 []) 16) (guessR ((Lib.split s [32]).drop 2)) = 0 then textT (numM ((Lib.split s [32]).getD 1 []) 16) (guessR ((Lib.split s [32]).drop 2)) else []) = []) ∨ ((if tubE (numM ((Lib.split s [32]).getD 1 []) 16) (guessR ((Lib.split s [32]).drop 2)) = 0 then textT (numM ((Lib.split s [32]).getD 1 []) 16) (guessR ((Lib.split s [32]).drop 2)) else []) ≠ s))) (.cons rfl (.cons rfl .nil)) ?_ ?_
     · refine mv rfl rfl (s_eqs rfl rfl rfl (mv rfl rfl ?_))
       refine gs 62 rfl (fun g0 => ?_) (fun g0 => ?_)
       · exact gN rfl rfl rfl (gN rfl rfl rfl (gN rfl rfl rfl (pkt rfl rfl rfl rfl (rbe rfl (by first | exact bt (by omega) | exact bf (by omega) | exact bi (by omega) | exact bn (by omega) | (simp_all; done) | (simp_all; omega)) (.cons rfl (.cons rfl .nil))))))
       · exact gY rfl (mv rfl rfl (gY rfl (mv rfl rfl (gY rfl (s_nes rfl rfl rfl (pkf rfl rfl rfl rfl (rbe rfl (by first | exact bt (by omega) | exact bf (by omega) | exact bi (by omega) | exact bn (by omega) | (simp_all; done) | (simp_all; omega)) (.cons rfl (.cons rfl .nil)))))))))
     · refine tn ?_
       refine cd rfl (fun c4 => ?_) (fun c4 => ?_)
       · refine sr (s_lit (cs := [_, _]) evs_nil bo26 pok_nil rfl rfl ?_)
         replace hb2 := hb20.fr (((Fr.refl [g5] _).step q7 (by first | (simp; done) | (simp; omega))).next q17) (by simp; omega)
         refine s_storeBA (vs := [_, _]) rfl rfl hb2 (by rfl) (by first | (simp [Value.oneCell', S]; done) | exact Enc.one _ _) sz26 (fun w18 hb2 q18 z18 => ?_)
         refine asg rfl rfl (nn (rt (tr (rCT Tryd.results15 rfl hb2 ag26 rfl ?_))))
         exact ⟨_, rfl, 0, none, [], 4, rfl, Sl.nil _, .inr ⟨rfl, rfl, rfl, by unfold parS; rw [if_neg (by omega), if_neg (tx_none (textT_ne _ _) c4)]⟩, (((((((q1.next q2).next q4).next q5).step q6 (by first | (simp; done) | (simp; omega))).step q7 (by first | (simp; done) | (simp; omega))).next q17).step q18 (by first | (simp; done) | (simp; omega)))⟩
       · refine sk (tn (sr (fad rfl fa26_1 rfl ?_)))
         replace hb5 := hb5.ext q17
         refine s_loadB rfl hb5 rfl na22 rfl ?_
         refine cl (ev1 rfl) co30 (clipb_ok _ _ _ _ hcA) rfl ?_
         rintro _ _ ⟨rfl, rfl⟩
         refine fad rfl fa26_1 rfl (s_storeB rfl rfl hb5 rfl rfl rfl sz22 (fun w19 hb5 q19 z19 => ?_))
         replace hb5 : Blk w19 g5 _ [_, _] := hb5
         refine nn (sr (s_loadBA rfl hb5 ag26 rfl ?_))
         replace hb2 := hb20.fr ((((Fr.refl [g5] _).step q7 (by first | (simp; done) | (simp; omega))).next q17).step q19 (by first | (simp; done) | (simp; omega))) (by simp; omega)
         refine s_storeBA (vs := [_, _]) rfl rfl hb2 (by rfl) (by first | (simp [Value.oneCell', S]; done) | exact Enc.one _ _) sz26 (fun w20 hb2 q20 z20 => ?_)
         refine asg rfl rfl (nn (rt (rCT Tryd.results15 rfl hb2 ag26 rfl ?_)))
         replace ho := ((ho.ext q17).fr q19 (by intro k hk hb; simp at hk; subst hk; have := (ho.blk _ hb).1; omega)).fr q20 (by intro k hk hb; simp at hk; subst hk; have := (ho.blk _ hb).1; omega)
         have hoc := ho.take rfl (Nat.le_refl _) (c' := (guessR ((Lib.split s [32]).drop 2)).length) hcA (Nat.le_refl _)
         rw [List.take_length] at hoc
         exact ⟨_, rfl, (numM ((Lib.split s [32]).getD 1 []) 16), _, (guessR ((Lib.split s [32]).drop 2)), 0, rfl, hoc.sl, .inl ⟨rfl, by unfold parS; rw [if_neg (by omega), if_pos (tx_some c4)]⟩, ((((((((q1.next q2).next q4).next q5).step q6 (by first | (simp; done) | (simp; omega))).step q7 (by first | (simp; done) | (simp; omega))).next q17).step q19 (by first | (simp; done) | (simp; omega))).step q20 (by first | (simp; done) | (simp; omega)))⟩
end Go.Proofs.YtgdlgjkjpbbniaaDoor
namespace Go.Proofs.YtgdlgjkjpbbniaaDoor
open Go.Lw Go.G21
end Go.Proofs.YtgdlgjkjpbbniaaDoor
namespace Go.Lw
/-- For whom an operation waits. -/
def bnds (ops : Array Oper) (i : Nat) : List Nat := match ops[i]? with
  | some o => (o.after.toList.filter (Region.binds .any)).map (·.on)
  | none => []
def combB (ops : Array Oper) (m : Nat) : Bool :=
  Nat.beq ops.size (m + 1) && (List.range (m + 1)).all (fun i => (bnds ops i).all (fun j => Nat.blt j i)) && (List.range m).all (fun j => (bnds ops m).contains j)
/-- How many have not come up. -/
def cntU (listed : Array Bool) : Nat → Nat
  | 0 => 0
  | k + 1 => cntU listed k + (if listed.getD k true = false then 1 else 0)
theorem getD_set {listed : Array Bool} {i j : Nat} (hi : i < listed.size) : (listed.setIfInBounds i true).getD j true = if j = i then true else listed.getD j true := by
  simp only [Array.getD_eq_getD_getElem?, Array.getElem?_setIfInBounds]
  by_cases e : i = j
  · subst e; simp [hi]
  · rw [if_neg e, if_neg (Ne.symm e)]
theorem cntU_set {listed : Array Bool} {i : Nat} (hi : i < listed.size) (h : listed.getD i true = false) : ∀ k, cntU (listed.setIfInBounds i true) k + (if i < k then 1 else 0) = cntU listed k
  | 0 => by simp [cntU]
  | k + 1 => by
    have ih := cntU_set hi h k
    simp only [cntU, getD_set hi]
    by_cases e : k = i
    · subst e
      rw [if_neg (by omega)] at ih
      rw [if_pos rfl, if_neg (by decide), if_pos h, if_pos (by omega)]; omega
    · rw [if_neg e]
      by_cases e2 : i < k
      · rw [if_pos e2] at ih
        have e3 : (if i < k + 1 then 1 else 0 : Nat) = 1 := if_pos (by omega)
        rw [e3]; omega
      · rw [if_neg e2] at ih
        have e3 : (if i < k + 1 then 1 else 0 : Nat) = 0 := if_neg (by omega)
        rw [e3]; omega
theorem cntU_pos {listed : Array Bool} : ∀ {k i : Nat}, i < k → listed.getD i true = false → 0 < cntU listed k
  | k + 1, i, hi, h => by
    simp only [cntU]
    by_cases e : i = k
    · subst e; rw [if_pos h]; omega
    · have := cntU_pos (k := k) (i := i) (by omega) h; omega
theorem ready_mem {ops : Array Oper} {listed : Array Bool} {i : Nat} (hi : i ∈ Region.ready .any ops listed) : i < ops.size ∧ listed.getD i true = false ∧ ∀ j ∈ bnds ops i, listed.getD j false = true := by
  unfold Region.ready at hi
  rw [List.mem_filter, List.mem_range] at hi
  obtain ⟨h1, h2⟩ := hi
  rw [Bool.and_eq_true] at h2
  refine ⟨h1, by simpa using h2.1, fun j hj => ?_⟩
  have h3 := h2.2
  unfold bnds at hj
  rw [Array.getElem?_eq_getElem h1] at h3 hj
  simp only [Option.map_some, Option.getD_some] at h3
  obtain ⟨e, he, rfl⟩ := List.mem_map.1 hj
  rw [List.mem_filter] at he
  have h4 := (Array.all_eq_true'.1 h3) e (by simpa using he.1)
  rw [he.2] at h4
  simpa using h4
theorem ready_of {ops : Array Oper} {listed : Array Bool} {i : Nat} (h1 : i < ops.size) (h2 : listed.getD i true = false) (h3 : ∀ j ∈ bnds ops i, listed.getD j false = true) : i ∈ Region.ready .any ops listed := by
  unfold Region.ready
  rw [List.mem_filter, List.mem_range]
  refine ⟨h1, ?_⟩
  rw [Bool.and_eq_true]
  refine ⟨by simpa using h2, ?_⟩
  unfold bnds at h3
  rw [Array.getElem?_eq_getElem h1] at h3 ⊢
  simp only [Option.map_some, Option.getD_some]
  refine Array.all_eq_true'.2 fun e he => ?_
  cases hb : Region.binds .any e
  · rfl
  · have := h3 e.on (List.mem_map.2 ⟨e, List.mem_filter.2 ⟨by simpa using he, hb⟩, rfl⟩)
    simpa using this
theorem hd_comeR {P : Program} {ops : Array Oper} {K R : Act → World → Prop} {i : Nat} {o : Oper} {a : Act} {w : World} (hix : ops[i]? = some o) (k : wpList P ops (NormEnd R) [o] a w) : wpOp P ops (NormEnd K) i R a w := by
  unfold wpOp
  rw [hix]
  unfold wpList at k
  simp only
  split
  · rename_i hw
    rw [if_pos hw] at k
    rcases k with k | ⟨_, _, _, k⟩
    · refine .inl (Oper.wp_mono (fun a w h => h) ?_)
      unfold Oper.wp at k ⊢
      generalize (execOp a.eval o).run P w = r at k ⊢
      cases r with
      | ok nx w' =>
        cases nx <;> simp only [Oper.upon] at k ⊢ <;> first
          | exact k
          | exact Calls.mono k (fun e w'' he => by cases e <;> first | exact he | exact he.elim | (obtain ⟨_, _, he⟩ := he; exact he.elim))
          | exact Rows.mono k (fun _ _ he => he)
      | halt x w' => cases x <;> simp only [Oper.upon] at k ⊢ <;> exact k.elim
    · exact k.elim
  · rename_i hw
    rw [if_neg hw] at k
    exact k
section
variable {P : Program} {ops : Array Oper} {K : Act → World → Prop} {m n : Nat} {ds : List Nat}
theorem getD_ft {listed : Array Bool} {j : Nat} (h : listed.getD j false = true) : listed.getD j true = true := by
  simp only [Array.getD_eq_getD_getElem?] at h ⊢
  cases e : listed[j]? with
  | none => rfl
  | some b => rw [e] at h; exact h
theorem getD_tf {listed : Array Bool} {j : Nat} (hj : j < listed.size) (h : listed.getD j true = true) : listed.getD j false = true := by
  simp only [Array.getD_eq_getD_getElem?, Array.getElem?_eq_getElem hj] at h ⊢; exact h
theorem comb (hB : combB ops m = true) (I : Act → World → Prop) (Po : Nat → Act → World → Prop)
    (hst : ∀ i, i < m → ∀ a w, I a w → (∀ j ∈ bnds ops i, Po j a w) → wpOp P ops (NormEnd K) i (fun a' w' => I a' w' ∧ Po i a' w' ∧ ∀ j, j < m → j ≠ i → Po j a w → Po j a' w') a w)
    (hlast : ∀ a w, I a w → (∀ j, j < m → Po j a w) → wpOp P ops (NormEnd K) m K a w) :
    ∀ (fu : Nat) (listed : Array Bool) (a : Act) (w : World), listed.size = m + 1 → cntU listed (m + 1) = fu → listed.getD m true = false → I a w → (∀ j, j < m → listed.getD j true = true → Po j a w) → wpAnyP none P ops (NormEnd K) (fun _ => True) fu listed a w := by
  unfold combB at hB
  simp only [Bool.and_eq_true, List.all_eq_true, List.mem_range] at hB
  obtain ⟨⟨hsz, hwf⟩, hal⟩ := hB
  replace hsz : ops.size = m + 1 := Nat.eq_of_beq_eq_true hsz
  replace hwf : ∀ i, i < m + 1 → ∀ j ∈ bnds ops i, j < i := fun i hi j hj => by simpa [Nat.blt_eq] using hwf i hi j hj
  replace hal : ∀ j, j < m → j ∈ bnds ops m := fun j hj => by simpa using hal j hj
  intro fu
  induction fu with
  | zero =>
    intro listed a w _ hc hm
    have := cntU_pos (listed := listed) (k := m + 1) (i := m) (by omega) hm
    omega
  | succ fu ih =>
    intro listed a w hls hc hm hI hPo
    refine ⟨fun hr => ?_, fun i hi => ?_⟩
    · exfalso
      have key : ∀ d i, m - i = d → i ≤ m → listed.getD i true = false → (∀ j, j < i → listed.getD j true = true) → False := fun d i _ hi h1 h2 => by
        have := ready_of (ops := ops) (listed := listed) (i := i) (by omega) h1 (fun j hj => getD_tf (by have := hwf i (by omega) j hj; omega) (h2 j (hwf i (by omega) j hj)))
        rw [hr] at this; cases this
      have least : ∀ k, k ≤ m → (∀ j, j < k → listed.getD j true = true) ∨ ∃ i, i < k ∧ listed.getD i true = false ∧ ∀ j, j < i → listed.getD j true = true := by
        intro k
        induction k with
        | zero => exact fun _ => .inl fun j hj => by omega
        | succ k ihk =>
          intro hk
          rcases ihk (by omega) with h | ⟨i, h1, h2, h3⟩
          · cases e : listed.getD k true
            · exact .inr ⟨k, by omega, e, h⟩
            · exact .inl fun j hj => by
                by_cases e2 : j = k
                · subst e2; exact e
                · exact h j (by omega)
          · exact .inr ⟨i, by omega, h2, h3⟩
      rcases least m (Nat.le_refl _) with h | ⟨i, h1, h2, h3⟩
      · exact key _ m rfl (Nat.le_refl _) hm h
      · exact key _ i rfl (by omega) h2 h3
    · obtain ⟨h1, h2, h3⟩ := ready_mem hi
      have hcs := cntU_set (listed := listed) (i := i) (by omega) h2 (m + 1)
      rw [if_pos (by omega)] at hcs
      by_cases e : i = m
      · subst e
        refine wpOp_mono (fun a' w' hk => ⟨sat_of trivial, P_done ?_ hk _⟩) (hlast a w hI fun j hj => hPo j hj (getD_ft (h3 j (hal j hj))))
        cases hr : Region.ready .any ops (listed.setIfInBounds i true) with
        | nil => rfl
        | cons x r =>
          exfalso
          have hx : x ∈ Region.ready .any ops (listed.setIfInBounds i true) := by rw [hr]; exact List.mem_cons_self
          obtain ⟨g1, g2, _⟩ := ready_mem hx
          rw [getD_set (by omega)] at g2
          split at g2
          · cases g2
          · have := getD_ft (h3 x (hal x (by omega)))
            rw [this] at g2; cases g2
      · refine wpOp_mono (fun a' w' hk => ⟨sat_of trivial, ih _ a' w' (by simpa using hls) (by omega) ?_ hk.1 fun j hj hl => ?_⟩) (hst i (by omega) a w hI fun j hj => hPo j (by have := hwf i (by omega) j hj; omega) (getD_ft (h3 j hj)))
        · rw [getD_set (by omega), if_neg (Ne.symm e)]; exact hm
        · by_cases e2 : j = i
          · subst e2; exact hk.2.1
          · rw [getD_set (by omega), if_neg e2] at hl
            exact hk.2.2 j hj e2 (hPo j hj hl)
/-- What the slots hold, as a list behind others. -/
def rdS (a : Act) (dl : List Nat) : List (Nat × Value) := dl.map fun t => (t, a.tmps.getD t undef)
theorem look_app : ∀ (L L' : List (Nat × Value)) (t : Nat), look (L ++ L') t = (look L t).or (look L' t)
  | [], L', t => by simp [look]
  | (s, v) :: r, L', t => by
    simp only [List.cons_append, look]
    cases Nat.beq s t
    · exact look_app r L' t
    · rfl
theorem look_rd (a : Act) : ∀ (dl : List Nat) (t : Nat) (v : Value), look (rdS a dl) t = some v → a.tmps.getD t undef = v
  | [], _, _, h => by cases h
  | s :: r, t, v, h => by
    simp only [rdS, List.map_cons, look] at h
    cases e : Nat.beq s t
    · rw [e] at h; exact look_rd a r t v h
    · rw [e] at h
      have e2 := Nat.eq_of_beq_eq_true e
      subst e2; exact Option.some.inj h
theorem look_in (a : Act) : ∀ (dl : List Nat) (t : Nat), t ∈ dl → look (rdS a dl) t = some (a.tmps.getD t undef)
  | s :: r, t, h => by
    simp only [rdS, List.map_cons, look]
    cases e : Nat.beq s t
    · rcases List.mem_cons.1 h with h2 | h2
      · subst h2; rw [Nat.beq_refl] at e; cases e
      · exact look_in a r t h2
    · have e2 := Nat.eq_of_beq_eq_true e
      subst e2; rfl
variable {a : Act} {L Lc Lo : List (Nat × Value)} {w w' : World}
theorem AgM.full (hc : AgM ds a n Lc) (dl : List Nat) (ho : AgM ds a n Lo) : AgM ds a n (Lc ++ (rdS a dl ++ Lo)) :=
  ⟨hc.dfr, hc.size, fun t v hv => by
    rw [look_app] at hv
    cases e : look Lc t with
    | some u => rw [e, Option.some_or] at hv; cases hv; exact hc.at_ t _ e
    | none =>
      rw [e, Option.none_or, look_app] at hv
      cases e2 : look (rdS a dl) t with
      | some u => rw [e2, Option.some_or] at hv; cases hv; exact look_rd a dl t _ e2
      | none => rw [e2, Option.none_or] at hv; exact ho.at_ t v hv⟩
theorem AgM.eqc {t : Nat} {v : Value} (h : AgM ds a n L) (e : a.tmps.getD t undef = v) : AgM ds a n ((t, v) :: L) :=
  ⟨h.dfr, h.size, fun s u hs => by
    simp only [look] at hs
    cases e2 : Nat.beq t s
    · rw [e2] at hs; exact h.at_ s u hs
    · rw [e2] at hs
      have e3 := Nat.eq_of_beq_eq_true e2
      subst e3; cases hs; exact e⟩
/-- The operations of a region that only make new things: what each leaves. dl: the slot that each writes. -/
theorem comb_region {id : Nat} {Q : Exit → Act → World → Prop} {l : List Oper} {dl : List Nat} (hm : P.follows .mixedOrders = true) (hB : combB l.toArray m = true) (hdl : dl.length = m) (hnd : dl.Nodup) (hLo' : (dl.all fun d => (look Lo d).isNone) = true)
    (h : AgM ds a n Lo) (Ok : Nat → Value → World → Prop) (hmono : ∀ j v w w', Fr [] w w' → Ok j v w → Ok j v w')
    (hst : ∀ i, i < m → ∀ a w', AgM ds a n Lo → Fr [] w w' → (∀ j, (bnds l.toArray i).contains j = true → Ok j (a.tmps.getD (dl.getD j 0) undef) w') →
      ∃ o Lc, l[i]? = some o ∧ AgM ds a n Lc ∧ (AgM ds a n (Lc ++ (rdS a dl ++ Lo)) → wpList P l.toArray (NormEnd fun a' w2 => ∃ v, AgM ds a' n ((dl.getD i 0, v) :: (Lc ++ (rdS a dl ++ Lo))) ∧ Fr [] w' w2 ∧ Ok i v w2) [o] a w'))
    (hlast : ∀ a w', AgM ds a n Lo → Fr [] w w' → (∀ j, j < m → Ok j (a.tmps.getD (dl.getD j 0) undef) w') → ∃ o, l[m]? = some o ∧ wpList P l.toArray (NormEnd (Q .normal)) [o] a w') :
    (Code.region id l.toArray true).wp P Q a w := by
  have hLo : ∀ d ∈ dl, look Lo d = none := fun d hd => by simpa using List.all_eq_true.1 hLo' d hd
  have hsz : l.length = m + 1 := by
    unfold combB at hB
    simp only [Bool.and_eq_true] at hB
    have := Nat.eq_of_beq_eq_true hB.1.1
    simpa using this
  have hinj : ∀ i j, i < m → j < m → j ≠ i → dl.getD j 0 ≠ dl.getD i 0 := fun i j hi hj hne e => by
    rw [List.getD, List.getD, List.getElem?_eq_getElem (by omega), List.getElem?_eq_getElem (by omega)] at e
    have e1 : dl[j]? = dl[i]? := by rw [List.getElem?_eq_getElem (by omega), List.getElem?_eq_getElem (by omega)]; exact congrArg some e
    exact hne ((List.getElem?_inj (i := j) (by omega) hnd).1 e1)
  have hmem : ∀ i, i < m → dl.getD i 0 ∈ dl := fun i hi => by
    rw [List.getD, List.getElem?_eq_getElem (by omega)]; exact List.getElem_mem _
  refine region_held (fun _ _ => True) hm fun w1 hf1 => ?_
  rw [hsz]
  refine comb hB (fun a w' => AgM ds a n Lo ∧ Fr [] w w') (fun j a w' => Ok j (a.tmps.getD (dl.getD j 0) undef) w') (fun i hi a w' hI hb => ?_) (fun a w' hI hall => ?_) _ _ _ _ (by simp) ?_ ?_ ⟨h, hf1⟩ (fun j hj hl => ?_)
  · obtain ⟨o, Lc, ho, hc, hk⟩ := hst i hi a w' hI.1 hI.2 (fun j hj => hb j (by simpa using hj))
    refine wpOp_mono ?_ (hd_comeR (i := i) (by simpa using ho) (hk (hc.full dl hI.1)))
    rintro a' w2 ⟨v, hag, hfr, hok⟩
    refine ⟨⟨⟨hag.dfr, hag.size, fun t u hu => ?_⟩, hI.2.next hfr⟩, ?_, fun j hj hne hp => ?_⟩
    · by_cases e : t ∈ dl
      · rw [hLo t e] at hu; cases hu
      · have hne : dl.getD i 0 ≠ t := fun e2 => e (e2 ▸ hmem i hi)
        refine hag.at_ t u ?_
        simp only [look]
        rw [show Nat.beq (dl.getD i 0) t = false from by cases e2 : Nat.beq (dl.getD i 0) t; rfl; exact absurd (Nat.eq_of_beq_eq_true e2) hne]
        rw [Bool.cond_false, look_app]
        cases e3 : look Lc t with
        | some u2 => rw [Option.some_or]; rw [← hc.at_ t _ e3, hI.1.at_ t _ hu]
        | none =>
          rw [Option.none_or, look_app]
          cases e4 : look (rdS a dl) t with
          | some u2 => rw [Option.some_or]; rw [← look_rd a dl t _ e4, hI.1.at_ t _ hu]
          | none => rw [Option.none_or]; exact hu
    · have := hag.at_ (dl.getD i 0) v (by simp [look])
      rw [this]; exact hok
    · have hne2 := hinj i j hi hj hne
      have := hag.at_ (dl.getD j 0) (a.tmps.getD (dl.getD j 0) undef) (by
        simp only [look]
        rw [show Nat.beq (dl.getD i 0) (dl.getD j 0) = false from by cases e2 : Nat.beq (dl.getD i 0) (dl.getD j 0); rfl; exact absurd (Nat.eq_of_beq_eq_true e2).symm hne2]
        rw [Bool.cond_false, look_app]
        cases e3 : look Lc (dl.getD j 0) with
        | some u2 => rw [Option.some_or, hc.at_ _ _ e3]
        | none => rw [Option.none_or, look_app, look_in a dl _ (hmem j hj), Option.some_or])
      rw [this]; exact hmono j _ _ _ hfr hp
  · obtain ⟨o, ho, hk⟩ := hlast a w' hI.1 hI.2 hall
    exact hd_comeR (i := m) (by simpa using ho) hk
  · have key : ∀ k, k ≤ m + 1 → cntU (Array.replicate (m + 1) false) k = k := by
      intro k
      induction k with
      | zero => exact fun _ => rfl
      | succ k ih =>
        intro hk
        rw [cntU, ih (by omega), if_pos]
        simp [Array.getD_eq_getD_getElem?, show k < m + 1 by omega]
    exact key _ (Nat.le_refl _)
  · simp [Array.getD_eq_getD_getElem?]
  · simp [Array.getD_eq_getD_getElem?, show j < m + 1 by omega] at hl
theorem comb_done {R : Act → World → Prop} (h : R a w) : wpList P ops (NormEnd R) [] a w := h
/-- What an operation leaves: kept where new things are made. -/
structure Sp where
  p : Value → World → Prop
  m : ∀ v w w', Fr [] w w' → p v w → p v w'
def spC (u : Value) : Sp := ⟨fun v _ => v = u, fun _ _ _ _ h => h⟩
def spAt (l : List Sp) (j : Nat) : Value → World → Prop := (l.getD j ⟨fun _ _ => True, fun _ _ _ _ _ => trivial⟩).p
theorem spAt_m (l : List Sp) (j : Nat) (v : Value) (w w' : World) (hf : Fr [] w w') (h : spAt l j v w) : spAt l j v w' := (l.getD j ⟨fun _ _ => True, fun _ _ _ _ _ => trivial⟩).m v w w' hf h
/-- A slice of the call's own, from block b on. -/
def spO {α : Type} (E : Enc α) (T b : Nat) (l : List α) : Sp := ⟨fun v w => ∃ g, v = .slice (some ⟨g, 0, none⟩) l.length l.length ∧ Own E T b w (.slice (some ⟨g, 0, none⟩) l.length l.length) l, fun _ _ _ hf ⟨g, e, h⟩ => ⟨g, e, h.ext hf⟩⟩
end
end Go.Lw
namespace Go.Proofs.YtgdlgjkjpbbniaaDoor
open Go.Lw Go.G21

theorem lpo_ext {τ : TyK} {b : Nat} {w w' : World} {q : LpQ} (h : LpO τ b w q) (hf : Fr [] w w') : LpO τ b w' q := h.tf hf OffT.nil OffT.nil
def spL (b : Nat) (l : Lp) : Sp := ⟨fun v w => ∃ q : LpQ, v = .agg (lpL q).toArray ∧ LpO τd b w q ∧ q.p = l, fun _ _ _ hf ⟨q, e, h, k⟩ => ⟨q, e, lpo_ext h hf, k⟩⟩
def spR (b n : Nat) (l : List Lp) : Sp := ⟨fun v w => ∃ (g : Nat) (ls : List LpQ), v = .slice (some ⟨g, 0, none⟩) n n ∧ Lw.Own encLp 68 b w (.slice (some ⟨g, 0, none⟩) n n) ls ∧ (∀ q ∈ ls, LpO τd b w q) ∧ ls.map LpQ.p = l, fun _ _ _ hf ⟨g, ls, e, h, k, j⟩ => ⟨g, ls, e, h.ext hf, fun q hq => lpo_ext (k q hq) hf, j⟩⟩
def spF (b : Nat) (l : List LId) : Sp := ⟨fun v w => ∃ gt gf, v = .agg ([.slice (some ⟨gt, 0, none⟩) 6 6, .slice none 0 0, .slice none 0 0, .slice (some ⟨gf, 0, none⟩) l.length l.length] : List Value).toArray ∧ Lw.Own encTq 42 b w (.slice (some ⟨gt, 0, none⟩) 6 6) (List.replicate 6 tq0) ∧ Lw.Own encId 61 b w (.slice (some ⟨gf, 0, none⟩) l.length l.length) l, fun _ _ _ hf ⟨g, k, e, h, j⟩ => ⟨g, k, e, h.ext hf, j.ext hf⟩⟩
def spA (b : Nat) : Sp := ⟨fun v w => ∃ g, v = .pointer (some ⟨g, 0, none⟩) ∧ Blk w g 33 [.slice none 0 0, .slice none 0 0, .slice none 0 0, .slice none 0 0] ∧ b ≤ g, fun _ _ _ hf ⟨g, e, h, k⟩ => ⟨g, e, h.ext hf, k⟩⟩
theorem tab1 {w : World} {u : SV} {ls : List LpQ} (h1 : Sl encLp w (slv u) ls) (h2 : LpsAt w ls) : TabAt w ((List.replicate 6 tq0).set 0 (u, ls)) := fun p hp => by
  rcases List.mem_or_eq_of_mem_set hp with hp | rfl
  · obtain rfl := List.eq_of_mem_replicate hp
    exact ⟨Sl.nil _, fun q hq => by cases hq⟩
  · exact ⟨h1, h2⟩
abbrev lp_ (b : Int) (nw : Bool) (th : List LId) (pa : List Pa) : Lp := ⟨b, nw, th, pa⟩
def rowA : List Lp := [lp_ 0 true [] [], lp_ 1 false [] [⟨⟨1, 0⟩, false, 0⟩], lp_ 0 false [⟨1, 1⟩, ⟨1, 0⟩] []]
def rowB : List Lp := [lp_ 0 true [] [], lp_ 1 false [] [⟨⟨1, 0⟩, false, 0⟩], lp_ 0 false [⟨1, 0⟩] [⟨⟨1, 1⟩, true, 1⟩], lp_ 1 false [⟨1, 1⟩] [⟨⟨1, 2⟩, false, 0⟩], lp_ 0 false [⟨1, 3⟩, ⟨1, 2⟩] []]
theorem tubA : tubF 1 [1] = ⟨[rowA, [], [], [], [], []], [], [], [⟨1, 2⟩]⟩ := by decide +kernel
theorem tubB : tubF 1 [1, 1] = ⟨[rowB, [], [], [], [], []], [], [], [⟨1, 4⟩]⟩ := by decide +kernel
theorem cntC : cntZ (tubT 3 [1, 1, 2]) = [12, 9, 0, 0, 0, 0] := by decide +kernel
theorem txtC : (if tubE 3 [1, 1, 2] = 0 then textT 3 [1, 1, 2] else []) = [116, 117, 98, 101, 32, 51, 32, 49, 120, 50, 32, 50] := by decide +kernel
theorem parC : parS [116, 117, 98, 101, 32, 51, 32, 49, 120, 49, 32, 50] = none := by decide +kernel
end Go.Proofs.YtgdlgjkjpbbniaaDoor
namespace Go.Proofs.YtgdlgjkjpbbniaaDoor
open Go.Lw Go.G21
theorem co8 : CallOf Tryd.prog 8 := CallOf.mk' Tryd.func8 (by kernel_rfl) (by kernel_rfl)
theorem co10 : CallOf Tryd.prog 10 := CallOf.mk' Tryd.func10 (by kernel_rfl) (by kernel_rfl)
theorem co11 : CallOf Tryd.prog 11 := CallOf.mk' Tryd.func11 (by kernel_rfl) (by kernel_rfl)
theorem co15 : CallOf Tryd.prog 15 := CallOf.mk' Tryd.func15 (by kernel_rfl) (by kernel_rfl)
theorem co25 : CallOf Tryd.prog 25 := CallOf.mk' Tryd.func25 (by kernel_rfl) (by kernel_rfl)
theorem el38 : ElemOf Tryd.prog 38 3 Enc.i64 8 := ElemOf.mk' (z := (.int .i64 0)) Tryd.underlying38 (by kernel_rfl) rfl
set_option maxHeartbeats 4000000 in
set_option maxRecDepth 10000 in
theorem lives_ok (w0 : World) (hG : Glob w0) : Rets Tryd.prog 12 #[] w0 fun r w' => r = .bool true ∧ Fr [] w0 w' := by
 have hGs := hG.sz
 refine we [] Tryd.func12 rfl Tryd.ntmps12 rfl .nil ?_
 have hG0 := hG
 refine sr (asg rfl rfl (nn (sr (s_bslice ([(1 : UInt8)]) (ev1 rfl) rfl rfl rfl el22 (Nat.le_of_ble_eq_true rfl) rfl (fun g12 w1 hg12 ho12 q1 z1 => ?_)))))
 refine s_lit (cs := [_, _]) (ev2 rfl rfl) bo26 (pok_cons rfl rfl rfl (pok_cons rfl rfl rfl pok_nil)) rfl rfl ?_
 refine cl (ev1 rfl) co8 (of_ok 1 _ [1] _ ho12.sl (by decide)) rfl ?_
 rintro _ w2 ⟨f1, rfl, hk1, hp1, q2⟩
 have z2 := q2.size
 have hf1 := hk1.at
 have hf10 := hf1
 refine mv rfl rfl (xt rfl rfl rfl (xt rfl rfl rfl (al zv33 rfl rfl (fun g1 w3 hg1 hb1 q3 z3 => ?_))))
 refine s_storeBA (vs := [_, _, _, _]) rfl rfl hb1 (by rfl) (by first | (simp [Value.oneCell', S]; done) | exact Enc.one _ _) sz33 (fun w4 hb1 q4 z4 => ?_)
 refine asg rfl rfl (kpL [(1, _), (2, _)] (.cons rfl (.cons rfl .nil)) (nn (sq ?_)))
 replace hG := hG0.ext (((q1.next q2).next q3).step q4 (by first | (simp; done) | (simp; omega)))
 intro a h
 replace h := h.sub (L' := [(1, _), (2, _)]) (.cons rfl (.cons rfl .nil))
 refine comb_region (dl := [17, 18, 19, 20, 3]) (m := 5) hmix (by kernel_rfl) rfl (by decide) rfl h (spAt [spO encTq 42 w4.heap.size (List.replicate 6 tq0), spC (.agg #[.int .u8 1, .int .i64 2]), spO encId 61 w4.heap.size [(⟨1, 2⟩ : LId)], spF w4.heap.size [(⟨1, 2⟩ : LId)], spA w4.heap.size]) (spAt_m _) ?_ ?_
 · intro i hi a w5 h hf hb
   have hz := hf.size
   match i, hi, hb with
   | 0, _, hb =>
     refine ⟨_, _, rfl, h, fun h => ?_⟩
     refine st_makeSlice (m := 6) (c := 6) (tq0) h rfl rfl el29 zv42 rfl (Nat.le_refl _) (by decide) (by decide) rfl ?_
     intro g w2 hg ho hq hz' a' h'
     exact comb_done ⟨_, h', hq, g, rfl, ho.low (by omega)⟩
   | 1, _, hb =>
     refine ⟨_, _, rfl, h, fun h => ?_⟩
     refine st_call h (evs_cons rfl evs_nil) co25 (one_ok _ _) rfl ?_
     rintro _ w2 ⟨rfl, hq⟩ a' h'
     exact comb_done ⟨_, h', hq, rfl⟩
   | 2, _, hb =>
     have e18 : a.tmps.getD 18 undef = (.agg #[.int .u8 1, .int .i64 2]) := hb 1 (by kernel_rfl)
     refine ⟨_, _, rfl, (h.eqc e18), fun h => ?_⟩
     refine st_bslice ([(⟨1, 2⟩ : LId)]) h (evs_cons rfl evs_nil) rfl rfl rfl el31 (Nat.le_of_ble_eq_true rfl) rfl ?_
     intro g w2 hg ho hq hz' a' h'
     exact comb_done ⟨_, h', hq, g, rfl, ho.low (by omega)⟩
   | 3, _, hb =>
     obtain ⟨g17, e17, ho17⟩ : ∃ g, a.tmps.getD 17 undef = .slice (some ⟨g, 0, none⟩) 6 6 ∧ Lw.Own encTq 42 w4.heap.size w5 (.slice (some ⟨g, 0, none⟩) 6 6) (List.replicate 6 tq0) := hb 0 (by kernel_rfl)
     obtain ⟨g19, e19, ho19⟩ : ∃ g, a.tmps.getD 19 undef = .slice (some ⟨g, 0, none⟩) 1 1 ∧ Lw.Own encId 61 w4.heap.size w5 (.slice (some ⟨g, 0, none⟩) 1 1) [(⟨1, 2⟩ : LId)] := hb 2 (by kernel_rfl)
     refine ⟨_, _, rfl, ((h.eqc e17).eqc e19), fun h => ?_⟩
     refine st_lit (cs := [_, _, _, _]) h (evs_cons rfl (evs_cons rfl evs_nil)) bo33 (pok_cons rfl rfl rfl (pok_cons rfl rfl rfl pok_nil)) rfl rfl ?_
     intro a' h'
     exact comb_done ⟨_, h', Fr.refl _ _, g17, g19, rfl, ho17, ho19⟩
   | 4, _, hb =>
     refine ⟨_, _, rfl, h, fun h => ?_⟩
     refine st_alloc h zv33 rfl rfl ?_
     intro w2 hb_ hq hz' a' h'
     exact comb_done ⟨_, h', hq, _, rfl, hb_, by omega⟩
   | n + 5, hi, _ => exact absurd hi (by omega)
 · intro a w6 h hf hall
   have z6 := hf.size
   have q6 := hf
   refine ⟨_, rfl, ?_⟩
   obtain ⟨g3, e3, hb3, hg3⟩ : ∃ g, a.tmps.getD 3 undef = .pointer (some ⟨g, 0, none⟩) ∧ Blk w6 g 33 [.slice none 0 0, .slice none 0 0, .slice none 0 0, .slice none 0 0] ∧ w4.heap.size ≤ g := hall 4 (by omega)
   obtain ⟨gT, gF, e20, hoT, hoF⟩ : ∃ gt gf, a.tmps.getD 20 undef = .agg ([.slice (some ⟨gt, 0, none⟩) 6 6, .slice none 0 0, .slice none 0 0, .slice (some ⟨gf, 0, none⟩) 1 1] : List Value).toArray ∧ Lw.Own encTq 42 w4.heap.size w6 (.slice (some ⟨gt, 0, none⟩) 6 6) (List.replicate 6 tq0) ∧ Lw.Own encId 61 w4.heap.size w6 (.slice (some ⟨gf, 0, none⟩) 1 1) [(⟨1, 2⟩ : LId)] := hall 3 (by omega)
   replace h := (h.eqc e3).eqc e20
   clear hall e3 e20
   refine st_storeBA (vs := [_, _, _, _]) h rfl rfl hb3 (by rfl) (by first | (simp [Value.oneCell', S]; done) | exact Enc.one _ _) sz33 ?_; clear h a; intro w7 hbn q7 z7 a h
   have hgT := hoT.blk gT (by simp [blks])
   have hgF := hoF.blk gF (by simp [blks])
   replace hoT := hoT.fr q7 (fun k hk hb => by rw [List.mem_singleton] at hk; subst hk; exact Own.neB hoT hb3 (by decide) hb)
   replace hoF := hoF.fr q7 (fun k hk hb => by rw [List.mem_singleton] at hk; subst hk; exact Own.neB hoF hb3 (by decide) hb)
   have hgTF : gT ≠ gF := fun e => by subst e; exact Own.neB hoT (show Blk _ gT 61 _ from (own_blk hoF gT (by simp [blks])).choose_spec) (by decide) (by simp [blks])
   have hg3z := hb3.lt
   have hgT3 : gT ≠ g3 := fun e => by subst e; exact Own.neB hoT hbn (by decide) (by simp [blks])
   clear hb3
   have hb3 := hbn
   clear hbn
   refine comb_done ?_
   refine bk (h.sub (L' := [(1, _), (2, _), (3, _)]) (.cons rfl (.cons rfl (.cons rfl .nil)))) ?_; clear h a
   refine tn (sq ?_)
   replace hG := hG0.ext (((((q1.next q2).next q3).step q4 (by first | (simp; done) | (simp; omega))).next q6).step q7 (by first | (simp; done) | (simp; omega)))
   replace ho12 := (((ho12.ext (q2.next q3)).fr q4 (by first | (simp; done) | (simp; omega) | (simp [blks]; done) | (simp [blks]; omega) | (intro k hk hb; simp at hk; subst hk; have := ho12.blk _ hb; omega))).ext q6).fr q7 (by first | (simp; done) | (simp; omega) | (simp [blks]; done) | (simp [blks]; omega) | (intro k hk hb; simp at hk; subst hk; have := ho12.blk _ hb; omega))
   replace hf1 := hf10.ext (((q3.step q4 (by first | (simp; done) | (simp; omega))).next q6).step q7 (by first | (simp; done) | (simp; omega)))
   replace hb1 := (hb1.ext q6).fr q7 (by first | (simp; done) | (simp; omega) | (simp [blks]; done) | (simp [blks]; omega))
   intro a h
   replace h := h.sub (L' := [(1, _), (2, _), (3, _)]) (.cons rfl (.cons rfl (.cons rfl .nil)))
   refine comb_region (dl := [21, 22, 23, 24, 25, 26, 27, 28, 29, 30, 31, 32, 33]) (m := 13) hmix (by kernel_rfl) rfl (by decide) rfl h (spAt [spC (.pointer (some ((⟨g3, 0, none⟩ : Addr).add 0))), spC (.slice (some ⟨gT, 0, none⟩) 6 6), spL w7.heap.size (lp_ 0 true [] []), spC (.agg #[.int .u8 1, .int .i64 0]), spC (.agg #[.int .u8 1, .int .i64 0, .bool false, .int .u8 0]), spO encPa 71 w7.heap.size [(⟨(⟨1, 0⟩ : LId), false, 0⟩ : Pa)], spL w7.heap.size (lp_ 1 false [] [(⟨(⟨1, 0⟩ : LId), false, 0⟩ : Pa)]), spC (.agg #[.int .u8 1, .int .i64 1]), spC (.agg #[.int .u8 1, .int .i64 0]), spO encId 61 w7.heap.size [(⟨1, 1⟩ : LId), (⟨1, 0⟩ : LId)], spL w7.heap.size (lp_ 0 false [(⟨1, 1⟩ : LId), (⟨1, 0⟩ : LId)] []), spR w7.heap.size 3 [(lp_ 0 true [] []), (lp_ 1 false [] [(⟨(⟨1, 0⟩ : LId), false, 0⟩ : Pa)]), (lp_ 0 false [(⟨1, 1⟩ : LId), (⟨1, 0⟩ : LId)] [])], spC (.pointer (some ((⟨gT, 0, none⟩ : Addr).add (0 * encTq.sz))))]) (spAt_m _) ?_ ?_
   · intro i hi a w8 h hf hb
     have hz := hf.size
     match i, hi, hb with
     | 0, _, hb =>
       refine ⟨_, _, rfl, h, fun h => ?_⟩
       refine st_fieldAddr h rfl fa33_0 rfl ?_
       intro a' h'
       exact comb_done ⟨_, h', Fr.refl _ _, rfl⟩
     | 1, _, hb =>
       have e21 : a.tmps.getD 21 undef = (.pointer (some ((⟨g3, 0, none⟩ : Addr).add 0))) := hb 0 (by kernel_rfl)
       refine ⟨_, _, rfl, (h.eqc e21), fun h => ?_⟩
       refine st_loadB h rfl (hb3.ext hf) rfl na29 rfl ?_
       intro a' h'
       exact comb_done ⟨_, h', Fr.refl _ _, rfl⟩
     | 2, _, hb =>
       refine ⟨_, _, rfl, h, fun h => ?_⟩
       refine st_lit (cs := [_, _, _, _]) h (evs_cons rfl evs_nil) bo68 (pok_cons rfl rfl rfl pok_nil) rfl rfl ?_
       intro a' h'
       exact comb_done ⟨_, h', Fr.refl _ _, ⟨0, true, sv0, sv0, [], []⟩, rfl, ⟨Own.nil _, Own.nil _⟩, rfl⟩
     | 3, _, hb =>
       refine ⟨_, _, rfl, h, fun h => ?_⟩
       refine st_call h (evs_cons rfl evs_nil) co25 (one_ok _ _) rfl ?_
       rintro _ w2 ⟨rfl, hq⟩ a' h'
       exact comb_done ⟨_, h', hq, rfl⟩
     | 4, _, hb =>
       have e24 : a.tmps.getD 24 undef = (.agg #[.int .u8 1, .int .i64 0]) := hb 3 (by kernel_rfl)
       refine ⟨_, _, rfl, (h.eqc e24), fun h => ?_⟩
       refine st_lit (cs := [_, _, _, _]) h (evs_cons rfl evs_nil) bo71 (pok_cons rfl rfl rfl pok_nil) rfl rfl ?_
       intro a' h'
       exact comb_done ⟨_, h', Fr.refl _ _, rfl⟩
     | 5, _, hb =>
       have e25 : a.tmps.getD 25 undef = (.agg #[.int .u8 1, .int .i64 0, .bool false, .int .u8 0]) := hb 4 (by kernel_rfl)
       refine ⟨_, _, rfl, (h.eqc e25), fun h => ?_⟩
       refine st_bslice ([(⟨(⟨1, 0⟩ : LId), false, 0⟩ : Pa)]) h (evs_cons rfl evs_nil) rfl rfl rfl el66 (Nat.le_of_ble_eq_true rfl) rfl ?_
       intro g w2 hg ho hq hz' a' h'
       exact comb_done ⟨_, h', hq, g, rfl, ho.low (by omega)⟩
     | 6, _, hb =>
       obtain ⟨g26, e26, ho26⟩ : ∃ g, a.tmps.getD 26 undef = .slice (some ⟨g, 0, none⟩) 1 1 ∧ Lw.Own encPa 71 w7.heap.size w8 (.slice (some ⟨g, 0, none⟩) 1 1) [(⟨(⟨1, 0⟩ : LId), false, 0⟩ : Pa)] := hb 5 (by kernel_rfl)
       refine ⟨_, _, rfl, (h.eqc e26), fun h => ?_⟩
       refine st_lit (cs := [_, _, _, _]) h (evs_cons rfl (evs_cons rfl evs_nil)) bo68 (pok_cons rfl rfl rfl (pok_cons rfl rfl rfl pok_nil)) rfl rfl ?_
       intro a' h'
       exact comb_done ⟨_, h', Fr.refl _ _, ⟨1, false, sv0, (some ⟨g26, 0, none⟩, 1, 1), [], [(⟨(⟨1, 0⟩ : LId), false, 0⟩ : Pa)]⟩, rfl, ⟨Own.nil _, ho26⟩, rfl⟩
     | 7, _, hb =>
       refine ⟨_, _, rfl, h, fun h => ?_⟩
       refine st_call h (evs_cons rfl evs_nil) co25 (one_ok _ _) rfl ?_
       rintro _ w2 ⟨rfl, hq⟩ a' h'
       exact comb_done ⟨_, h', hq, rfl⟩
     | 8, _, hb =>
       refine ⟨_, _, rfl, h, fun h => ?_⟩
       refine st_call h (evs_cons rfl evs_nil) co25 (one_ok _ _) rfl ?_
       rintro _ w2 ⟨rfl, hq⟩ a' h'
       exact comb_done ⟨_, h', hq, rfl⟩
     | 9, _, hb =>
       have e28 : a.tmps.getD 28 undef = (.agg #[.int .u8 1, .int .i64 1]) := hb 7 (by kernel_rfl)
       have e29 : a.tmps.getD 29 undef = (.agg #[.int .u8 1, .int .i64 0]) := hb 8 (by kernel_rfl)
       refine ⟨_, _, rfl, ((h.eqc e28).eqc e29), fun h => ?_⟩
       refine st_bslice ([(⟨1, 1⟩ : LId), (⟨1, 0⟩ : LId)]) h (evs_cons rfl (evs_cons rfl evs_nil)) rfl rfl rfl el31 (Nat.le_of_ble_eq_true rfl) rfl ?_
       intro g w2 hg ho hq hz' a' h'
       exact comb_done ⟨_, h', hq, g, rfl, ho.low (by omega)⟩
     | 10, _, hb =>
       obtain ⟨g30, e30, ho30⟩ : ∃ g, a.tmps.getD 30 undef = .slice (some ⟨g, 0, none⟩) 2 2 ∧ Lw.Own encId 61 w7.heap.size w8 (.slice (some ⟨g, 0, none⟩) 2 2) [(⟨1, 1⟩ : LId), (⟨1, 0⟩ : LId)] := hb 9 (by kernel_rfl)
       refine ⟨_, _, rfl, (h.eqc e30), fun h => ?_⟩
       refine st_lit (cs := [_, _, _, _]) h (evs_cons rfl evs_nil) bo68 (pok_cons rfl rfl rfl pok_nil) rfl rfl ?_
       intro a' h'
       exact comb_done ⟨_, h', Fr.refl _ _, ⟨0, false, (some ⟨g30, 0, none⟩, 2, 2), sv0, [(⟨1, 1⟩ : LId), (⟨1, 0⟩ : LId)], []⟩, rfl, ⟨ho30, Own.nil _⟩, rfl⟩
     | 11, _, hb =>
       obtain ⟨y23, e23, ho23, p23⟩ : ∃ q : LpQ, a.tmps.getD 23 undef = .agg (lpL q).toArray ∧ LpO τd w7.heap.size w8 q ∧ q.p = (lp_ 0 true [] []) := hb 2 (by kernel_rfl)
       obtain ⟨y27, e27, ho27, p27⟩ : ∃ q : LpQ, a.tmps.getD 27 undef = .agg (lpL q).toArray ∧ LpO τd w7.heap.size w8 q ∧ q.p = (lp_ 1 false [] [(⟨(⟨1, 0⟩ : LId), false, 0⟩ : Pa)]) := hb 6 (by kernel_rfl)
       obtain ⟨y31, e31, ho31, p31⟩ : ∃ q : LpQ, a.tmps.getD 31 undef = .agg (lpL q).toArray ∧ LpO τd w7.heap.size w8 q ∧ q.p = (lp_ 0 false [(⟨1, 1⟩ : LId), (⟨1, 0⟩ : LId)] []) := hb 10 (by kernel_rfl)
       refine ⟨_, _, rfl, (((h.eqc e23).eqc e27).eqc e31), fun h => ?_⟩
       refine st_bslice ([y23, y27, y31]) h (evs_cons rfl (evs_cons rfl (evs_cons rfl evs_nil))) rfl rfl rfl el42 (Nat.le_of_ble_eq_true rfl) rfl ?_
       intro g w2 hg ho hq hz' a' h'
       refine comb_done ⟨_, h', hq, g, [y23, y27, y31], rfl, ho.low (by omega), fun q hq_ => ?_, ?_⟩
       · simp only [List.mem_cons, List.not_mem_nil, or_false] at hq_
         rcases hq_ with rfl | rfl | rfl
         · exact lpo_ext ho23 hq
         · exact lpo_ext ho27 hq
         · exact lpo_ext ho31 hq
       · show [y23.p, y27.p, y31.p] = _; rw [p23, p27, p31]
     | 12, _, hb =>
       have e22 : a.tmps.getD 22 undef = (.slice (some ⟨gT, 0, none⟩) 6 6) := hb 1 (by kernel_rfl)
       refine ⟨_, _, rfl, (h.eqc e22), fun h => ?_⟩
       refine st_idxS (p := 0) (E := encTq) h rfl rfl el29 (by decide) (by decide) rfl rfl ?_
       intro a' h'
       exact comb_done ⟨_, h', Fr.refl _ _, rfl⟩
     | n + 13, hi, _ => exact absurd hi (by omega)
   · intro a w9 h hf hall
     have z9 := hf.size
     have q9 := hf
     refine ⟨_, rfl, ?_⟩
     have e33 : a.tmps.getD 33 undef = (.pointer (some ((⟨gT, 0, none⟩ : Addr).add (0 * encTq.sz)))) := hall 12 (by omega)
     obtain ⟨g32, ls, e32, ho32, hls, hlp⟩ : ∃ (g : Nat) (ls : List LpQ), a.tmps.getD 32 undef = .slice (some ⟨g, 0, none⟩) 3 3 ∧ Lw.Own encLp 68 w7.heap.size w9 (.slice (some ⟨g, 0, none⟩) 3 3) ls ∧ (∀ q ∈ ls, LpO τd w7.heap.size w9 q) ∧ ls.map LpQ.p = [(lp_ 0 true [] []), (lp_ 1 false [] [(⟨(⟨1, 0⟩ : LId), false, 0⟩ : Pa)]), (lp_ 0 false [(⟨1, 1⟩ : LId), (⟨1, 0⟩ : LId)] [])] := hall 11 (by omega)
     replace hoT := hoT.ext q9
     replace hb3 := hb3.ext q9
     replace hoF := hoF.ext q9
     replace h := (h.eqc e33).eqc e32
     clear hall e33 e32
     refine st_storeO (i := 0) (((some ⟨g32, 0, none⟩, 3, 3), ls) : TQ) h rfl rfl hoT (by simp) rfl sz42 ?_; clear h a; intro w10 ho_2 q10 z10 a h
     have hgR := ho32.blk g32 (by simp [blks])
     have hgT_ := (hoT.blk gT (by simp [blks])).2
     replace hb3 := hb3.fr q10 (by simp; omega)
     replace hoF := hoF.fr q10 (by intro k hk hb; simp [blks] at hk hb; omega)
     have hoTb := hoT
     clear hoT
     have hoT := ho_2
     clear ho_2
     try rw [List.set_set] at hoT
     have hRw : Lw.Own encLp 68 0 w10 (slv (some ⟨g32, 0, none⟩, 3, 3)) ls := (ho32.fr q10 (fun k hk hb => by rw [List.mem_singleton] at hk; subst hk; have := (ho32.blk _ hb).1; omega)).low (Nat.zero_le _)
     have hRl : ∀ q ∈ ls, LpO τd (gT + 1) w10 q := fun q hq => LpO.tf ⟨(hls q hq).1.low (by omega), (hls q hq).2.low (by omega)⟩ q10 (own_off (E := encTq) (v := .slice (some ⟨gT, 0, none⟩) 6 6) hoTb (by decide)) (own_off (E := encTq) (v := .slice (some ⟨gT, 0, none⟩) 6 6) hoTb (by decide))
     have hRq : Sl encLp w10 (slv (some ⟨g32, 0, none⟩, 3, 3)) ls ∧ LpsAt w10 ls := ⟨hRw.sl, fun q hq => (hRl q hq).at⟩
     have hRq0 := hRq
     refine comb_done ?_
     have hQA : FbAt w10 (⟨(some ⟨gT, 0, none⟩, 6, 6), sv0, sv0, (some ⟨gF, 0, none⟩, 1, 1), (List.replicate 6 tq0).set 0 ((some ⟨g32, 0, none⟩, 3, 3), ls), [], [], [⟨1, 2⟩]⟩ : FbQ) := ⟨hoT.sl, tab1 hRq.1 hRq.2, Sl.nil _, Sl.nil _, hoF.sl⟩
     have hQA0 := hQA
     have heA : f1.p = ((⟨(some ⟨gT, 0, none⟩, 6, 6), sv0, sv0, (some ⟨gF, 0, none⟩, 1, 1), (List.replicate 6 tq0).set 0 ((some ⟨g32, 0, none⟩, 3, 3), ls), [], [], [⟨1, 2⟩]⟩ : FbQ)).p := by rw [hp1, tubA]; show _ = Fb.mk [ls.map LpQ.p, [], [], [], [], []] [] [] [⟨1, 2⟩]; rw [hlp]; rfl
     refine bk (h.sub (L' := [(1, _), (2, _), (3, _)]) (.cons rfl (.cons rfl (.cons rfl .nil)))) ?_; clear h a
     refine tn (sq (sq ?_))
     refine rboF (r := 41) (L' := [(3, _)]) (((0 ≠ 0) ∨ (0 ≠ 0))) (.cons rfl .nil) ?_ ?_
     · refine mv rfl rfl (ne' rfl rfl rfl (mv rfl rfl ?_))
       refine gs 36 rfl (fun hh => absurd hh (by decide)) (fun g0 => ?_)
       refine gY rfl ?_
       replace hb1 := (hb1.ext q9).fr q10 (by first | (simp; done) | (simp; omega) | (simp [blks]; done) | (simp [blks]; omega))
       refine s_loadBA rfl hb1 ag33 rfl (gY rfl (s_loadBA rfl hb3 ag33 rfl (gY rfl ?_)))
       replace hf1 := hf10.ext (((((q3.step q4 (by first | (simp; done) | (simp; omega))).next q6).step q7 (by first | (simp; done) | (simp; omega))).next q9).step q10 (by first | (simp; done) | (simp; omega)))
       refine cl (ev2 rfl rfl) co11 (by have hfA := fabrics_ok _ _ _ hf1 hQA heA; exact hfA) rfl ?_
       rintro _ w11 ⟨rfl, q11⟩
       have z11 := q11.size
       exact gY rfl (ne' rfl rfl rfl (pkf rfl rfl rfl rfl (rbeF rfl (by first | exact bt (by omega) | exact bf (by omega) | exact bi (by omega) | exact bn (by omega) | (simp_all; done) | (simp_all; omega)) (.cons rfl .nil) q11)))
     · intro w12 q12; have z12 := q12.size
       refine tn ?_
       refine cd rfl (fun c0 => ?_) (fun c0 => ?_)
       · refine sr (asg rfl rfl (nn (rt (tr (r1 Tryd.results12 rfl ?_)))))
         exact absurd c0 (by decide)
       · refine sk (tn (sr (s_bslice ([(1 : UInt8), 1]) (ev2 rfl rfl) rfl rfl rfl el22 (Nat.le_of_ble_eq_true rfl) rfl (fun g43 w13 hg43 ho43 q13 z13 => ?_))))
         refine s_lit (cs := [_, _]) (ev2 rfl rfl) bo26 (pok_cons rfl rfl rfl (pok_cons rfl rfl rfl pok_nil)) rfl rfl ?_
         refine cl (ev1 rfl) co8 (of_ok 1 _ [1, 1] _ ho43.sl (by decide)) rfl ?_
         rintro _ w14 ⟨f2, rfl, hk2, hp2, q14⟩
         have z14 := q14.size
         have hf2 := hk2.at
         have hf20 := hf2
         refine mv rfl rfl (xt rfl rfl rfl (xt rfl rfl rfl (al zv33 rfl rfl (fun g4 w15 hg4 hb4 q15 z15 => ?_))))
         refine s_storeBA (vs := [_, _, _, _]) rfl rfl hb4 (by rfl) (by first | (simp [Value.oneCell', S]; done) | exact Enc.one _ _) sz33 (fun w16 hb4 q16 z16 => ?_)
         refine asg rfl rfl (kpL [(3, _), (4, _), (5, _)] (.cons rfl (.cons rfl (.cons rfl .nil))) (nn (sq ?_)))
         replace hG := hG0.ext ((((((((((((q1.next q2).next q3).step q4 (by first | (simp; done) | (simp; omega))).next q6).step q7 (by first | (simp; done) | (simp; omega))).next q9).step q10 (by first | (simp; done) | (simp; omega))).next q12).next q13).next q14).next q15).step q16 (by first | (simp; done) | (simp; omega)))
         replace ho12 := (((ho12.ext q9).fr q10 (by first | (simp; done) | (simp; omega) | (simp [blks]; done) | (simp [blks]; omega) | (intro k hk hb; simp at hk; subst hk; have := ho12.blk _ hb; omega))).ext (((q12.next q13).next q14).next q15)).fr q16 (by first | (simp; done) | (simp; omega) | (simp [blks]; done) | (simp [blks]; omega) | (intro k hk hb; simp at hk; subst hk; have := ho12.blk _ hb; omega))
         replace hf1 := hf10.ext ((((((((((q3.step q4 (by first | (simp; done) | (simp; omega))).next q6).step q7 (by first | (simp; done) | (simp; omega))).next q9).step q10 (by first | (simp; done) | (simp; omega))).next q12).next q13).next q14).next q15).step q16 (by first | (simp; done) | (simp; omega)))
         replace hb1 := (((hb1.ext q9).fr q10 (by first | (simp; done) | (simp; omega) | (simp [blks]; done) | (simp [blks]; omega))).ext (((q12.next q13).next q14).next q15)).fr q16 (by first | (simp; done) | (simp; omega) | (simp [blks]; done) | (simp [blks]; omega))
         replace hb3 := (hb3.ext (((q12.next q13).next q14).next q15)).fr q16 (by first | (simp; done) | (simp; omega) | (simp [blks]; done) | (simp [blks]; omega))
         replace hoT := (hoT.ext (((q12.next q13).next q14).next q15)).fr q16 (by intro k hk hb; simp [blks] at hk hb; omega)
         replace hoF := (hoF.ext (((q12.next q13).next q14).next q15)).fr q16 (by intro k hk hb; simp [blks] at hk hb; omega)
         replace hQA := hQA0.ext ((((q12.next q13).next q14).next q15).step q16 (by first | (simp; done) | (simp; omega)))
         replace ho43 := (ho43.ext (q14.next q15)).fr q16 (by first | (simp; done) | (simp; omega) | (simp [blks]; done) | (simp [blks]; omega) | (intro k hk hb; simp at hk; subst hk; have := ho43.blk _ hb; omega))
         replace hf2 := hf20.ext (q15.step q16 (by first | (simp; done) | (simp; omega)))
         intro a h
         replace h := h.sub (L' := [(3, _), (4, _), (5, _)]) (.cons rfl (.cons rfl (.cons rfl .nil)))
         refine comb_region (dl := [48, 49, 50, 51, 52, 53, 54, 55, 56, 57, 58, 59, 60, 61, 62, 63, 64, 65, 66, 67, 68, 69, 70, 71, 72]) (m := 25) hmix (by kernel_rfl) rfl (by decide) rfl h (spAt [spC (.pointer (some ((⟨g3, 0, none⟩ : Addr).add 0))), spC (.slice (some ⟨gT, 0, none⟩) 6 6), spL w16.heap.size (lp_ 0 true [] []), spC (.agg #[.int .u8 1, .int .i64 0]), spC (.agg #[.int .u8 1, .int .i64 0, .bool false, .int .u8 0]), spO encPa 71 w16.heap.size [(⟨(⟨1, 0⟩ : LId), false, 0⟩ : Pa)], spL w16.heap.size (lp_ 1 false [] [(⟨(⟨1, 0⟩ : LId), false, 0⟩ : Pa)]), spC (.agg #[.int .u8 1, .int .i64 0]), spO encId 61 w16.heap.size [(⟨1, 0⟩ : LId)], spC (.agg #[.int .u8 1, .int .i64 1]), spC (.agg #[.int .u8 1, .int .i64 1, .bool true, .int .u8 1]), spO encPa 71 w16.heap.size [(⟨(⟨1, 1⟩ : LId), true, 1⟩ : Pa)], spL w16.heap.size (lp_ 0 false [(⟨1, 0⟩ : LId)] [(⟨(⟨1, 1⟩ : LId), true, 1⟩ : Pa)]), spC (.agg #[.int .u8 1, .int .i64 1]), spO encId 61 w16.heap.size [(⟨1, 1⟩ : LId)], spC (.agg #[.int .u8 1, .int .i64 2]), spC (.agg #[.int .u8 1, .int .i64 2, .bool false, .int .u8 0]), spO encPa 71 w16.heap.size [(⟨(⟨1, 2⟩ : LId), false, 0⟩ : Pa)], spL w16.heap.size (lp_ 1 false [(⟨1, 1⟩ : LId)] [(⟨(⟨1, 2⟩ : LId), false, 0⟩ : Pa)]), spC (.agg #[.int .u8 1, .int .i64 3]), spC (.agg #[.int .u8 1, .int .i64 2]), spO encId 61 w16.heap.size [(⟨1, 3⟩ : LId), (⟨1, 2⟩ : LId)], spL w16.heap.size (lp_ 0 false [(⟨1, 3⟩ : LId), (⟨1, 2⟩ : LId)] []), spR w16.heap.size 5 [(lp_ 0 true [] []), (lp_ 1 false [] [(⟨(⟨1, 0⟩ : LId), false, 0⟩ : Pa)]), (lp_ 0 false [(⟨1, 0⟩ : LId)] [(⟨(⟨1, 1⟩ : LId), true, 1⟩ : Pa)]), (lp_ 1 false [(⟨1, 1⟩ : LId)] [(⟨(⟨1, 2⟩ : LId), false, 0⟩ : Pa)]), (lp_ 0 false [(⟨1, 3⟩ : LId), (⟨1, 2⟩ : LId)] [])], spC (.pointer (some ((⟨gT, 0, none⟩ : Addr).add (0 * encTq.sz))))]) (spAt_m _) ?_ ?_
         · intro i hi a w17 h hf hb
           have hz := hf.size
           match i, hi, hb with
           | 0, _, hb =>
             refine ⟨_, _, rfl, h, fun h => ?_⟩
             refine st_fieldAddr h rfl fa33_0 rfl ?_
             intro a' h'
             exact comb_done ⟨_, h', Fr.refl _ _, rfl⟩
           | 1, _, hb =>
             have e48 : a.tmps.getD 48 undef = (.pointer (some ((⟨g3, 0, none⟩ : Addr).add 0))) := hb 0 (by kernel_rfl)
             refine ⟨_, _, rfl, (h.eqc e48), fun h => ?_⟩
             refine st_loadB h rfl (hb3.ext hf) rfl na29 rfl ?_
             intro a' h'
             exact comb_done ⟨_, h', Fr.refl _ _, rfl⟩
           | 2, _, hb =>
             refine ⟨_, _, rfl, h, fun h => ?_⟩
             refine st_lit (cs := [_, _, _, _]) h (evs_cons rfl evs_nil) bo68 (pok_cons rfl rfl rfl pok_nil) rfl rfl ?_
             intro a' h'
             exact comb_done ⟨_, h', Fr.refl _ _, ⟨0, true, sv0, sv0, [], []⟩, rfl, ⟨Own.nil _, Own.nil _⟩, rfl⟩
           | 3, _, hb =>
             refine ⟨_, _, rfl, h, fun h => ?_⟩
             refine st_call h (evs_cons rfl evs_nil) co25 (one_ok _ _) rfl ?_
             rintro _ w2 ⟨rfl, hq⟩ a' h'
             exact comb_done ⟨_, h', hq, rfl⟩
           | 4, _, hb =>
             have e51 : a.tmps.getD 51 undef = (.agg #[.int .u8 1, .int .i64 0]) := hb 3 (by kernel_rfl)
             refine ⟨_, _, rfl, (h.eqc e51), fun h => ?_⟩
             refine st_lit (cs := [_, _, _, _]) h (evs_cons rfl evs_nil) bo71 (pok_cons rfl rfl rfl pok_nil) rfl rfl ?_
             intro a' h'
             exact comb_done ⟨_, h', Fr.refl _ _, rfl⟩
           | 5, _, hb =>
             have e52 : a.tmps.getD 52 undef = (.agg #[.int .u8 1, .int .i64 0, .bool false, .int .u8 0]) := hb 4 (by kernel_rfl)
             refine ⟨_, _, rfl, (h.eqc e52), fun h => ?_⟩
             refine st_bslice ([(⟨(⟨1, 0⟩ : LId), false, 0⟩ : Pa)]) h (evs_cons rfl evs_nil) rfl rfl rfl el66 (Nat.le_of_ble_eq_true rfl) rfl ?_
             intro g w2 hg ho hq hz' a' h'
             exact comb_done ⟨_, h', hq, g, rfl, ho.low (by omega)⟩
           | 6, _, hb =>
             obtain ⟨g53, e53, ho53⟩ : ∃ g, a.tmps.getD 53 undef = .slice (some ⟨g, 0, none⟩) 1 1 ∧ Lw.Own encPa 71 w16.heap.size w17 (.slice (some ⟨g, 0, none⟩) 1 1) [(⟨(⟨1, 0⟩ : LId), false, 0⟩ : Pa)] := hb 5 (by kernel_rfl)
             refine ⟨_, _, rfl, (h.eqc e53), fun h => ?_⟩
             refine st_lit (cs := [_, _, _, _]) h (evs_cons rfl (evs_cons rfl evs_nil)) bo68 (pok_cons rfl rfl rfl (pok_cons rfl rfl rfl pok_nil)) rfl rfl ?_
             intro a' h'
             exact comb_done ⟨_, h', Fr.refl _ _, ⟨1, false, sv0, (some ⟨g53, 0, none⟩, 1, 1), [], [(⟨(⟨1, 0⟩ : LId), false, 0⟩ : Pa)]⟩, rfl, ⟨Own.nil _, ho53⟩, rfl⟩
           | 7, _, hb =>
             refine ⟨_, _, rfl, h, fun h => ?_⟩
             refine st_call h (evs_cons rfl evs_nil) co25 (one_ok _ _) rfl ?_
             rintro _ w2 ⟨rfl, hq⟩ a' h'
             exact comb_done ⟨_, h', hq, rfl⟩
           | 8, _, hb =>
             have e55 : a.tmps.getD 55 undef = (.agg #[.int .u8 1, .int .i64 0]) := hb 7 (by kernel_rfl)
             refine ⟨_, _, rfl, (h.eqc e55), fun h => ?_⟩
             refine st_bslice ([(⟨1, 0⟩ : LId)]) h (evs_cons rfl evs_nil) rfl rfl rfl el31 (Nat.le_of_ble_eq_true rfl) rfl ?_
             intro g w2 hg ho hq hz' a' h'
             exact comb_done ⟨_, h', hq, g, rfl, ho.low (by omega)⟩
           | 9, _, hb =>
             refine ⟨_, _, rfl, h, fun h => ?_⟩
             refine st_call h (evs_cons rfl evs_nil) co25 (one_ok _ _) rfl ?_
             rintro _ w2 ⟨rfl, hq⟩ a' h'
             exact comb_done ⟨_, h', hq, rfl⟩
           | 10, _, hb =>
             have e57 : a.tmps.getD 57 undef = (.agg #[.int .u8 1, .int .i64 1]) := hb 9 (by kernel_rfl)
             refine ⟨_, _, rfl, (h.eqc e57), fun h => ?_⟩
             refine st_lit (cs := [_, _, _, _]) h (evs_cons rfl (evs_cons rfl (evs_cons rfl evs_nil))) bo71 (pok_cons rfl rfl rfl (pok_cons rfl rfl rfl (pok_cons rfl rfl rfl pok_nil))) rfl rfl ?_
             intro a' h'
             exact comb_done ⟨_, h', Fr.refl _ _, rfl⟩
           | 11, _, hb =>
             have e58 : a.tmps.getD 58 undef = (.agg #[.int .u8 1, .int .i64 1, .bool true, .int .u8 1]) := hb 10 (by kernel_rfl)
             refine ⟨_, _, rfl, (h.eqc e58), fun h => ?_⟩
             refine st_bslice ([(⟨(⟨1, 1⟩ : LId), true, 1⟩ : Pa)]) h (evs_cons rfl evs_nil) rfl rfl rfl el66 (Nat.le_of_ble_eq_true rfl) rfl ?_
             intro g w2 hg ho hq hz' a' h'
             exact comb_done ⟨_, h', hq, g, rfl, ho.low (by omega)⟩
           | 12, _, hb =>
             obtain ⟨g56, e56, ho56⟩ : ∃ g, a.tmps.getD 56 undef = .slice (some ⟨g, 0, none⟩) 1 1 ∧ Lw.Own encId 61 w16.heap.size w17 (.slice (some ⟨g, 0, none⟩) 1 1) [(⟨1, 0⟩ : LId)] := hb 8 (by kernel_rfl)
             obtain ⟨g59, e59, ho59⟩ : ∃ g, a.tmps.getD 59 undef = .slice (some ⟨g, 0, none⟩) 1 1 ∧ Lw.Own encPa 71 w16.heap.size w17 (.slice (some ⟨g, 0, none⟩) 1 1) [(⟨(⟨1, 1⟩ : LId), true, 1⟩ : Pa)] := hb 11 (by kernel_rfl)
             refine ⟨_, _, rfl, ((h.eqc e56).eqc e59), fun h => ?_⟩
             refine st_lit (cs := [_, _, _, _]) h (evs_cons rfl (evs_cons rfl evs_nil)) bo68 (pok_cons rfl rfl rfl (pok_cons rfl rfl rfl pok_nil)) rfl rfl ?_
             intro a' h'
             exact comb_done ⟨_, h', Fr.refl _ _, ⟨0, false, (some ⟨g56, 0, none⟩, 1, 1), (some ⟨g59, 0, none⟩, 1, 1), [(⟨1, 0⟩ : LId)], [(⟨(⟨1, 1⟩ : LId), true, 1⟩ : Pa)]⟩, rfl, ⟨ho56, ho59⟩, rfl⟩
           | 13, _, hb =>
             refine ⟨_, _, rfl, h, fun h => ?_⟩
             refine st_call h (evs_cons rfl evs_nil) co25 (one_ok _ _) rfl ?_
             rintro _ w2 ⟨rfl, hq⟩ a' h'
             exact comb_done ⟨_, h', hq, rfl⟩
           | 14, _, hb =>
             have e61 : a.tmps.getD 61 undef = (.agg #[.int .u8 1, .int .i64 1]) := hb 13 (by kernel_rfl)
             refine ⟨_, _, rfl, (h.eqc e61), fun h => ?_⟩
             refine st_bslice ([(⟨1, 1⟩ : LId)]) h (evs_cons rfl evs_nil) rfl rfl rfl el31 (Nat.le_of_ble_eq_true rfl) rfl ?_
             intro g w2 hg ho hq hz' a' h'
             exact comb_done ⟨_, h', hq, g, rfl, ho.low (by omega)⟩
           | 15, _, hb =>
             refine ⟨_, _, rfl, h, fun h => ?_⟩
             refine st_call h (evs_cons rfl evs_nil) co25 (one_ok _ _) rfl ?_
             rintro _ w2 ⟨rfl, hq⟩ a' h'
             exact comb_done ⟨_, h', hq, rfl⟩
           | 16, _, hb =>
             have e63 : a.tmps.getD 63 undef = (.agg #[.int .u8 1, .int .i64 2]) := hb 15 (by kernel_rfl)
             refine ⟨_, _, rfl, (h.eqc e63), fun h => ?_⟩
             refine st_lit (cs := [_, _, _, _]) h (evs_cons rfl evs_nil) bo71 (pok_cons rfl rfl rfl pok_nil) rfl rfl ?_
             intro a' h'
             exact comb_done ⟨_, h', Fr.refl _ _, rfl⟩
           | 17, _, hb =>
             have e64 : a.tmps.getD 64 undef = (.agg #[.int .u8 1, .int .i64 2, .bool false, .int .u8 0]) := hb 16 (by kernel_rfl)
             refine ⟨_, _, rfl, (h.eqc e64), fun h => ?_⟩
             refine st_bslice ([(⟨(⟨1, 2⟩ : LId), false, 0⟩ : Pa)]) h (evs_cons rfl evs_nil) rfl rfl rfl el66 (Nat.le_of_ble_eq_true rfl) rfl ?_
             intro g w2 hg ho hq hz' a' h'
             exact comb_done ⟨_, h', hq, g, rfl, ho.low (by omega)⟩
           | 18, _, hb =>
             obtain ⟨g62, e62, ho62⟩ : ∃ g, a.tmps.getD 62 undef = .slice (some ⟨g, 0, none⟩) 1 1 ∧ Lw.Own encId 61 w16.heap.size w17 (.slice (some ⟨g, 0, none⟩) 1 1) [(⟨1, 1⟩ : LId)] := hb 14 (by kernel_rfl)
             obtain ⟨g65, e65, ho65⟩ : ∃ g, a.tmps.getD 65 undef = .slice (some ⟨g, 0, none⟩) 1 1 ∧ Lw.Own encPa 71 w16.heap.size w17 (.slice (some ⟨g, 0, none⟩) 1 1) [(⟨(⟨1, 2⟩ : LId), false, 0⟩ : Pa)] := hb 17 (by kernel_rfl)
             refine ⟨_, _, rfl, ((h.eqc e62).eqc e65), fun h => ?_⟩
             refine st_lit (cs := [_, _, _, _]) h (evs_cons rfl (evs_cons rfl (evs_cons rfl evs_nil))) bo68 (pok_cons rfl rfl rfl (pok_cons rfl rfl rfl (pok_cons rfl rfl rfl pok_nil))) rfl rfl ?_
             intro a' h'
             exact comb_done ⟨_, h', Fr.refl _ _, ⟨1, false, (some ⟨g62, 0, none⟩, 1, 1), (some ⟨g65, 0, none⟩, 1, 1), [(⟨1, 1⟩ : LId)], [(⟨(⟨1, 2⟩ : LId), false, 0⟩ : Pa)]⟩, rfl, ⟨ho62, ho65⟩, rfl⟩
           | 19, _, hb =>
             refine ⟨_, _, rfl, h, fun h => ?_⟩
             refine st_call h (evs_cons rfl evs_nil) co25 (one_ok _ _) rfl ?_
             rintro _ w2 ⟨rfl, hq⟩ a' h'
             exact comb_done ⟨_, h', hq, rfl⟩
           | 20, _, hb =>
             refine ⟨_, _, rfl, h, fun h => ?_⟩
             refine st_call h (evs_cons rfl evs_nil) co25 (one_ok _ _) rfl ?_
             rintro _ w2 ⟨rfl, hq⟩ a' h'
             exact comb_done ⟨_, h', hq, rfl⟩
           | 21, _, hb =>
             have e67 : a.tmps.getD 67 undef = (.agg #[.int .u8 1, .int .i64 3]) := hb 19 (by kernel_rfl)
             have e68 : a.tmps.getD 68 undef = (.agg #[.int .u8 1, .int .i64 2]) := hb 20 (by kernel_rfl)
             refine ⟨_, _, rfl, ((h.eqc e67).eqc e68), fun h => ?_⟩
             refine st_bslice ([(⟨1, 3⟩ : LId), (⟨1, 2⟩ : LId)]) h (evs_cons rfl (evs_cons rfl evs_nil)) rfl rfl rfl el31 (Nat.le_of_ble_eq_true rfl) rfl ?_
             intro g w2 hg ho hq hz' a' h'
             exact comb_done ⟨_, h', hq, g, rfl, ho.low (by omega)⟩
           | 22, _, hb =>
             obtain ⟨g69, e69, ho69⟩ : ∃ g, a.tmps.getD 69 undef = .slice (some ⟨g, 0, none⟩) 2 2 ∧ Lw.Own encId 61 w16.heap.size w17 (.slice (some ⟨g, 0, none⟩) 2 2) [(⟨1, 3⟩ : LId), (⟨1, 2⟩ : LId)] := hb 21 (by kernel_rfl)
             refine ⟨_, _, rfl, (h.eqc e69), fun h => ?_⟩
             refine st_lit (cs := [_, _, _, _]) h (evs_cons rfl evs_nil) bo68 (pok_cons rfl rfl rfl pok_nil) rfl rfl ?_
             intro a' h'
             exact comb_done ⟨_, h', Fr.refl _ _, ⟨0, false, (some ⟨g69, 0, none⟩, 2, 2), sv0, [(⟨1, 3⟩ : LId), (⟨1, 2⟩ : LId)], []⟩, rfl, ⟨ho69, Own.nil _⟩, rfl⟩
           | 23, _, hb =>
             obtain ⟨y50, e50, ho50, p50⟩ : ∃ q : LpQ, a.tmps.getD 50 undef = .agg (lpL q).toArray ∧ LpO τd w16.heap.size w17 q ∧ q.p = (lp_ 0 true [] []) := hb 2 (by kernel_rfl)
             obtain ⟨y54, e54, ho54, p54⟩ : ∃ q : LpQ, a.tmps.getD 54 undef = .agg (lpL q).toArray ∧ LpO τd w16.heap.size w17 q ∧ q.p = (lp_ 1 false [] [(⟨(⟨1, 0⟩ : LId), false, 0⟩ : Pa)]) := hb 6 (by kernel_rfl)
             obtain ⟨y60, e60, ho60, p60⟩ : ∃ q : LpQ, a.tmps.getD 60 undef = .agg (lpL q).toArray ∧ LpO τd w16.heap.size w17 q ∧ q.p = (lp_ 0 false [(⟨1, 0⟩ : LId)] [(⟨(⟨1, 1⟩ : LId), true, 1⟩ : Pa)]) := hb 12 (by kernel_rfl)
             obtain ⟨y66, e66, ho66, p66⟩ : ∃ q : LpQ, a.tmps.getD 66 undef = .agg (lpL q).toArray ∧ LpO τd w16.heap.size w17 q ∧ q.p = (lp_ 1 false [(⟨1, 1⟩ : LId)] [(⟨(⟨1, 2⟩ : LId), false, 0⟩ : Pa)]) := hb 18 (by kernel_rfl)
             obtain ⟨y70, e70, ho70, p70⟩ : ∃ q : LpQ, a.tmps.getD 70 undef = .agg (lpL q).toArray ∧ LpO τd w16.heap.size w17 q ∧ q.p = (lp_ 0 false [(⟨1, 3⟩ : LId), (⟨1, 2⟩ : LId)] []) := hb 22 (by kernel_rfl)
             refine ⟨_, _, rfl, (((((h.eqc e50).eqc e54).eqc e60).eqc e66).eqc e70), fun h => ?_⟩
             refine st_bslice ([y50, y54, y60, y66, y70]) h (evs_cons rfl (evs_cons rfl (evs_cons rfl (evs_cons rfl (evs_cons rfl evs_nil))))) rfl rfl rfl el42 (Nat.le_of_ble_eq_true rfl) rfl ?_
             intro g w2 hg ho hq hz' a' h'
             refine comb_done ⟨_, h', hq, g, [y50, y54, y60, y66, y70], rfl, ho.low (by omega), fun q hq_ => ?_, ?_⟩
             · simp only [List.mem_cons, List.not_mem_nil, or_false] at hq_
               rcases hq_ with rfl | rfl | rfl | rfl | rfl
               · exact lpo_ext ho50 hq
               · exact lpo_ext ho54 hq
               · exact lpo_ext ho60 hq
               · exact lpo_ext ho66 hq
               · exact lpo_ext ho70 hq
             · show [y50.p, y54.p, y60.p, y66.p, y70.p] = _; rw [p50, p54, p60, p66, p70]
           | 24, _, hb =>
             have e49 : a.tmps.getD 49 undef = (.slice (some ⟨gT, 0, none⟩) 6 6) := hb 1 (by kernel_rfl)
             refine ⟨_, _, rfl, (h.eqc e49), fun h => ?_⟩
             refine st_idxS (p := 0) (E := encTq) h rfl rfl el29 (by decide) (by decide) rfl rfl ?_
             intro a' h'
             exact comb_done ⟨_, h', Fr.refl _ _, rfl⟩
           | n + 25, hi, _ => exact absurd hi (by omega)
         · intro a w18 h hf hall
           have z18 := hf.size
           have q18 := hf
           refine ⟨_, rfl, ?_⟩
           have e72 : a.tmps.getD 72 undef = (.pointer (some ((⟨gT, 0, none⟩ : Addr).add (0 * encTq.sz)))) := hall 24 (by omega)
           obtain ⟨g71, ls, e71, ho71, hls, hlp⟩ : ∃ (g : Nat) (ls : List LpQ), a.tmps.getD 71 undef = .slice (some ⟨g, 0, none⟩) 5 5 ∧ Lw.Own encLp 68 w16.heap.size w18 (.slice (some ⟨g, 0, none⟩) 5 5) ls ∧ (∀ q ∈ ls, LpO τd w16.heap.size w18 q) ∧ ls.map LpQ.p = [(lp_ 0 true [] []), (lp_ 1 false [] [(⟨(⟨1, 0⟩ : LId), false, 0⟩ : Pa)]), (lp_ 0 false [(⟨1, 0⟩ : LId)] [(⟨(⟨1, 1⟩ : LId), true, 1⟩ : Pa)]), (lp_ 1 false [(⟨1, 1⟩ : LId)] [(⟨(⟨1, 2⟩ : LId), false, 0⟩ : Pa)]), (lp_ 0 false [(⟨1, 3⟩ : LId), (⟨1, 2⟩ : LId)] [])] := hall 23 (by omega)
           replace hoT := hoT.ext q18
           replace hb3 := hb3.ext q18
           replace hoF := hoF.ext q18
           replace h := (h.eqc e72).eqc e71
           clear hall e72 e71
           refine st_storeO (i := 0) (((some ⟨g71, 0, none⟩, 5, 5), ls) : TQ) h rfl rfl hoT (by simp) rfl sz42 ?_; clear h a; intro w19 ho_2 q19 z19 a h
           have hgR := ho71.blk g71 (by simp [blks])
           have hgT_ := (hoT.blk gT (by simp [blks])).2
           replace hb3 := hb3.fr q19 (by simp; omega)
           replace hoF := hoF.fr q19 (by intro k hk hb; simp [blks] at hk hb; omega)
           have hoTb := hoT
           clear hoT
           have hoT := ho_2
           clear ho_2
           try rw [List.set_set] at hoT
           have hRw : Lw.Own encLp 68 0 w19 (slv (some ⟨g71, 0, none⟩, 5, 5)) ls := (ho71.fr q19 (fun k hk hb => by rw [List.mem_singleton] at hk; subst hk; have := (ho71.blk _ hb).1; omega)).low (Nat.zero_le _)
           have hRl : ∀ q ∈ ls, LpO τd (gT + 1) w19 q := fun q hq => LpO.tf ⟨(hls q hq).1.low (by omega), (hls q hq).2.low (by omega)⟩ q19 (own_off (E := encTq) (v := .slice (some ⟨gT, 0, none⟩) 6 6) hoTb (by decide)) (own_off (E := encTq) (v := .slice (some ⟨gT, 0, none⟩) 6 6) hoTb (by decide))
           have hRq : Sl encLp w19 (slv (some ⟨g71, 0, none⟩, 5, 5)) ls ∧ LpsAt w19 ls := ⟨hRw.sl, fun q hq => (hRl q hq).at⟩
           have hRq0 := hRq
           have hb3R := hb3
           refine comb_done ?_
           refine bk (h.sub (L' := [(3, _), (4, _), (5, _)]) (.cons rfl (.cons rfl (.cons rfl .nil)))) ?_; clear h a
           refine tn (sr ?_)
           refine cl (ev1 rfl) co25 (one_ok _ _) rfl ?_
           rintro _ w20 ⟨rfl, q20⟩
           have z20 := q20.size
           refine s_bslice ([(⟨1, 4⟩ : LId)]) (ev1 rfl) rfl rfl rfl el31 (Nat.le_of_ble_eq_true rfl) rfl (fun g74 w21 hg74 ho74 q21 z21 => ?_)
           refine fad rfl fa33_3 rfl ?_
           replace hb3 := hb3.ext (q20.next q21)
           refine s_storeB rfl rfl hb3 rfl rfl rfl sz31 (fun w22 hb3 q22 z22 => ?_)
           replace hb3 : Blk w22 g3 _ [_, _, _, _] := hb3
           replace hoT := (hoT.ext (q20.next q21)).fr q22 (by intro k hk hb; simp [blks] at hk hb; omega)
           replace ho74 := ho74.fr q22 (by first | (simp; done) | (simp; omega) | (simp [blks]; done) | (simp [blks]; omega) | (intro k hk hb; simp at hk; subst hk; have := ho74.blk _ hb; omega))
           have hf2C := hk2 [gT, g3] _ ((((((((Fr.refl [gT, g3] _).next q15).step q16 (by first | (simp; done) | (simp; omega))).next q18).step q19 (by first | (simp; done) | (simp; omega))).next q20).next q21).step q22 (by first | (simp; done) | (simp; omega))) (by intro k hk; simp only [List.mem_cons, List.not_mem_nil, or_false] at hk; rcases hk with rfl | rfl <;> omega)
           have hf2C0 := hf2C
           have hFR := ((((Fr.refl [g3] _).next q20).next q21).step q22 (by first | (simp; done) | (simp; omega)))
           have hoR := fun (T : Nat) (hT_ : 33 ≠ T) => OffT.one hb3R hT_
           have hQB : FbAt w22 (⟨(some ⟨gT, 0, none⟩, 6, 6), sv0, sv0, (some ⟨g74, 0, none⟩, 1, 1), (List.replicate 6 tq0).set 0 ((some ⟨g71, 0, none⟩, 5, 5), ls), [], [], [⟨1, 4⟩]⟩ : FbQ) := ⟨hoT.sl, tab1 (own_tf hRw hFR (hoR _ (by decide))).sl (fun q hq => (LpO.tf (hRl q hq) hFR (hoR _ (by decide)) (hoR _ (by decide))).at), Sl.nil _, Sl.nil _, ho74.sl⟩
           have hQB0 := hQB
           have heB : f2.p = ((⟨(some ⟨gT, 0, none⟩, 6, 6), sv0, sv0, (some ⟨g74, 0, none⟩, 1, 1), (List.replicate 6 tq0).set 0 ((some ⟨g71, 0, none⟩, 5, 5), ls), [], [], [⟨1, 4⟩]⟩ : FbQ)).p := by rw [hp2, tubB]; show _ = Fb.mk [ls.map LpQ.p, [], [], [], [], []] [] [] [⟨1, 4⟩]; rw [hlp]; rfl
           refine nn (sq (sq ?_))
           refine rboF (r := 83) (L' := []) (((0 ≠ 0) ∨ (0 ≠ 0))) .nil ?_ ?_
           · refine mv rfl rfl (ne' rfl rfl rfl (mv rfl rfl ?_))
             refine gs 78 rfl (fun hh => absurd hh (by decide)) (fun g1 => ?_)
             refine gY rfl ?_
             replace hb4 := (((hb4.ext q18).fr q19 (by first | (simp; done) | (simp; omega) | (simp [blks]; done) | (simp [blks]; omega))).ext (q20.next q21)).fr q22 (by first | (simp; done) | (simp; omega) | (simp [blks]; done) | (simp [blks]; omega))
             refine s_loadBA rfl hb4 ag33 rfl (gY rfl (s_loadBA rfl hb3 ag33 rfl (gY rfl ?_)))
             refine cl (ev2 rfl rfl) co11 (by have hfA := fabrics_ok _ _ _ hf2C hQB heB; exact hfA) rfl ?_
             rintro _ w23 ⟨rfl, q23⟩
             have z23 := q23.size
             exact gY rfl (ne' rfl rfl rfl (pkf rfl rfl rfl rfl (rbeF rfl (by first | exact bt (by omega) | exact bf (by omega) | exact bi (by omega) | exact bn (by omega) | (simp_all; done) | (simp_all; omega)) .nil q23)))
           · intro w24 q24; have z24 := q24.size
             refine tn ?_
             refine cd rfl (fun c1 => ?_) (fun c1 => ?_)
             · refine sr (asg rfl rfl (nn (rt (tr (r1 Tryd.results12 rfl ?_)))))
               exact absurd c1 (by decide)
             · refine sk (tn (sr (s_bslice ([(1 : UInt8), 1, 2]) (ev3 rfl rfl rfl) rfl rfl rfl el22 (Nat.le_of_ble_eq_true rfl) rfl (fun g84 w25 hg84 ho84 q25 z25 => ?_))))
               refine s_lit (cs := [_, _]) (ev2 rfl rfl) bo26 (pok_cons rfl rfl rfl (pok_cons rfl rfl rfl pok_nil)) rfl rfl ?_
               refine al zv26 rfl rfl (fun g6 w26 hg6 hb6 q26 z26 => ?_)
               refine s_storeBA (vs := [_, _]) rfl rfl hb6 (by rfl) (by first | (simp [Value.oneCell', S]; done) | exact Enc.one _ _) sz26 (fun w27 hb6 q27 z27 => ?_)
               refine nn (sr (s_loadBA rfl hb6 ag26 rfl ?_))
               replace ho84 := (ho84.ext q26).fr q27 (by first | (simp; done) | (simp; omega) | (simp [blks]; done) | (simp [blks]; omega) | (intro k hk hb; simp at hk; subst hk; have := ho84.blk _ hb; omega))
               refine cl (ev1 rfl) co10 (loops_ok 3 _ [1, 1, 2] _ ho84.sl (by decide)) rfl ?_
               rintro _ w28 ⟨AL, rfl, hsL, q28⟩
               have z28 := q28.size
               rw [cntC] at hsL
               obtain ⟨LC, hLC⟩ : ∃ l : List Int, l = [12, 9, 0, 0, 0, 0] := ⟨_, rfl⟩
               rw [← hLC] at hsL
               have hLl : LC.length = 6 := by rw [hLC]; rfl
               have hL0 : LC.getD 0 0 = 12 := by rw [hLC]; rfl
               have hL1 : LC.getD 1 0 = 9 := by rw [hLC]; rfl
               have hsL0 := hsL
               refine mv rfl rfl (xt rfl rfl rfl (xt rfl rfl rfl (asg rfl rfl (asg rfl rfl (nn (sr ?_))))))
               replace hG := hG0.ext ((((((((((((((((((((((q1.next q2).next q3).step q4 (by first | (simp; done) | (simp; omega))).next q6).step q7 (by first | (simp; done) | (simp; omega))).next q9).step q10 (by first | (simp; done) | (simp; omega))).next q12).next q13).next q14).next q15).step q16 (by first | (simp; done) | (simp; omega))).next q18).step q19 (by first | (simp; done) | (simp; omega))).next q20).next q21).step q22 (by first | (simp; done) | (simp; omega))).next q24).next q25).next q26).step q27 (by first | (simp; done) | (simp; omega))).next q28)
               refine cl (ev1 rfl) co15 (parse_ok _ _ hG (by simp)) rfl ?_
               rintro _ w29 ⟨wdP, AP, rsP, eP, rfl, hsP, hP, q29⟩
               have z29 := q29.size
               obtain rfl : eP = 4 := by
                 rcases hP with ⟨_, h⟩ | ⟨h, _⟩
                 · rw [parC] at h; cases h
                 · exact h
               refine mv rfl rfl (xt rfl rfl rfl (xt rfl rfl rfl (al zv26 rfl rfl (fun g9 w30 hg9 hb9 q30 z30 => ?_))))
               refine s_storeBA (vs := [_, _]) rfl rfl hb9 (by rfl) (by first | (simp [Value.oneCell', S]; done) | exact Enc.one _ _) sz26 (fun w31 hb9 q31 z31 => ?_)
               refine asg rfl rfl (nn (sq ?_))
               refine rboF (r := 0) (L' := []) (((((((0 = 0) ∧ ((6 : Int) = 6)) ∧ ((LC.getD 0 0 : Int) = 12)) ∧ ((LC.getD 1 0 : Int) = 9)) ∧ ((if tubE 3 [1, 1, 2] = 0 then textT 3 [1, 1, 2] else []) = [116, 117, 98, 101, 32, 51, 32, 49, 120, 50, 32, 50])) ∧ (4 = 4))) .nil ?_ ?_
               · refine mv rfl rfl (eq' rfl rfl rfl (mv rfl rfl ?_))
                 refine gs 97 rfl (fun g2 => ?_) (fun hh => absurd (by decide) hh)
                 refine gY rfl (mv rfl rfl (gY rfl (lnS rfl Tryd.underlying38 rfl (gY rfl (eq' rfl rfl rfl (pkt rfl rfl rfl rfl (mv rfl rfl ?_)))))))
                 refine gs 102 rfl (fun g3 => ?_) (fun hh => absurd (by rfl) hh)
                 refine gY rfl (mv rfl rfl (gY rfl ?_))
                 replace hsL := hsL0.ext ((q29.next q30).step q31 (by first | (simp; done) | (simp; omega)))
                 refine s_idxL (p := 0) ((0 : Int)) rfl hsL rfl el38 (by omega) (by omega) rfl rfl (fun ad104 hc104 => ?_)
                 refine gY rfl (s_loadC0 rfl (hc104 _ hsL) na3 rfl (gY rfl (eq' rfl rfl rfl (pkt rfl rfl rfl rfl (mv rfl rfl ?_)))))
                 refine gs 108 rfl (fun g4 => ?_) (fun hh => absurd (by exact hL0) hh)
                 refine gY rfl (mv rfl rfl (gY rfl (s_idxL (p := 1) ((0 : Int)) rfl hsL rfl el38 (by omega) (by omega) rfl rfl (fun ad110 hc110 => ?_))))
                 refine gY rfl (s_loadC0 rfl (hc110 _ hsL) na3 rfl (gY rfl (eq' rfl rfl rfl (pkt rfl rfl rfl rfl (mv rfl rfl ?_)))))
                 refine gs 114 rfl (fun g5 => ?_) (fun hh => absurd (by exact hL1) hh)
                 refine gY rfl ?_
                 replace hb6 := (hb6.ext ((q28.next q29).next q30)).fr q31 (by first | (simp; done) | (simp; omega) | (simp [blks]; done) | (simp [blks]; omega))
                 refine s_loadBA rfl hb6 ag26 rfl (gY rfl ?_)
                 replace ho84 := (ho84.ext ((q28.next q29).next q30)).fr q31 (by first | (simp; done) | (simp; omega) | (simp [blks]; done) | (simp [blks]; omega) | (intro k hk hb; simp at hk; subst hk; have := ho84.blk _ hb; omega))
                 refine cl (ev1 rfl) co13 (text_ok _ _ [1, 1, 2] _ ho84.sl) rfl ?_
                 rintro _ w32 ⟨rfl, q32⟩
                 have z32 := q32.size
                 refine gY rfl (s_eqs rfl rfl rfl (pkt rfl rfl rfl rfl (mv rfl rfl ?_)))
                 refine gs 119 rfl (fun g6 => ?_) (fun hh => absurd (by exact txtC) hh)
                 exact gY rfl (mv rfl rfl (gY rfl (eq' rfl rfl rfl (pkt rfl rfl rfl rfl (asg rfl rfl (rbeF rfl (by first | exact bt (by omega) | exact bf (by omega) | exact bi (by omega) | exact bn (by omega) | (simp_all; done) | (simp_all; omega)) .nil q32))))))
               · intro w33 q33; have z33 := q33.size
                 refine tn (rt (r1 Tryd.results12 rfl ?_))
                 exact ⟨_, rfl, congrArg Value.bool (decide_eq_true ⟨⟨⟨⟨⟨rfl, rfl⟩, hL0⟩, hL1⟩, txtC⟩, rfl⟩), ((((((((((((((((((((((((((q1.next q2).next q3).step q4 (by first | (simp; done) | (simp; omega))).next q6).step q7 (by first | (simp; done) | (simp; omega))).next q9).step q10 (by first | (simp; done) | (simp; omega))).next q12).next q13).next q14).next q15).step q16 (by first | (simp; done) | (simp; omega))).next q18).step q19 (by first | (simp; done) | (simp; omega))).next q20).next q21).step q22 (by first | (simp; done) | (simp; omega))).next q24).next q25).next q26).step q27 (by first | (simp; done) | (simp; omega))).next q28).next q29).next q30).step q31 (by first | (simp; done) | (simp; omega))).next q33)⟩
end Go.Proofs.YtgdlgjkjpbbniaaDoor
namespace Go.Proofs.YtgdlgjkjpbbniaaDoor
open Go.Lw Go.G21

end Go.Proofs.YtgdlgjkjpbbniaaDoor
namespace Go.Proofs.YtgdlgjkjpbbniaaDoor
open Go.Lw Go.G21
theorem co12 : CallOf Tryd.prog 12 := CallOf.mk' Tryd.func12 (by kernel_rfl) (by kernel_rfl)
end Go.Proofs.YtgdlgjkjpbbniaaDoor
namespace Go.Proofs.YtgdlgjkjpbbniaaDoor
open Go.Lw Go.G21
end Go.Proofs.YtgdlgjkjpbbniaaDoor
namespace Go.Proofs.YtgdlgjkjpbbniaaDoor
open Go.Lw Go.G21

/-- After k exchanges. -/
def RevK (ys zs : List UInt8) (k : Nat) : Prop := zs.length = ys.length ∧ ∀ p, p < ys.length → zs.getD p 0 = if p < k ∨ ys.length - 1 - p < k then ys.getD (ys.length - 1 - p) 0 else ys.getD p 0
theorem rev_step {ys zs : List UInt8} {k : Nat} (hk : k < ys.length - 1 - k) (h : RevK ys zs k) : RevK ys ((zs.set k (zs.getD (ys.length - 1 - k) 0)).set (ys.length - 1 - k) (zs.getD k 0)) (k + 1) := by
  obtain ⟨hl, h⟩ := h
  refine ⟨by rw [List.length_set, List.length_set]; exact hl, fun p hp => ?_⟩
  rw [set_getD (by rw [List.length_set]; omega), set_getD (by omega), h k (by omega), h (ys.length - 1 - k) (by omega), h p hp]
  rw [if_neg (show ¬ (k < k ∨ ys.length - 1 - k < k) by omega), if_neg (show ¬ (ys.length - 1 - k < k ∨ ys.length - 1 - (ys.length - 1 - k) < k) by omega)]
  by_cases e1 : ys.length - 1 - k = p
  · subst e1
    rw [if_pos rfl, if_pos (by omega)]
    congr 1; omega
  · rw [if_neg e1]
    by_cases e2 : k = p
    · subst e2; rw [if_pos rfl, if_pos (by omega)]
    · rw [if_neg e2]
      by_cases e3 : p < k ∨ ys.length - 1 - p < k
      · rw [if_pos e3, if_pos (by omega)]
      · rw [if_neg e3, if_neg (by omega)]
theorem rev_end {ys zs : List UInt8} {k : Nat} (hk : ¬ (k : Int) < (ys.length : Int) - 1 - k) (h : RevK ys zs k) : zs = ys.reverse := by
  obtain ⟨hl, h⟩ := h
  refine List.ext_getElem (by simpa using hl) fun p h1 h2 => ?_
  have hp : p < ys.length := by rw [← hl]; exact h1
  have := h p hp
  rw [List.getElem_reverse]
  rw [List.getD, List.getElem?_eq_getElem h1, Option.getD_some] at this
  rw [this]
  split
  · rw [List.getD, List.getElem?_eq_getElem (by omega)]; rfl
  · have e : p = ys.length - 1 - p := by omega
    rw [List.getD, List.getElem?_eq_getElem hp, Option.getD_some]
    congr 1
theorem rev_0 (ys : List UInt8) : RevK ys ys 0 := ⟨rfl, fun p hp => by rw [if_neg (by omega)]⟩
end Go.Proofs.YtgdlgjkjpbbniaaDoor
namespace Go.Proofs.YtgdlgjkjpbbniaaDoor
open Go.Lw Go.G21
theorem sz5 : SizeOf Tryd.prog 5 1 := fun _ => by kernel_rfl
theorem revb_ok (g c base : Nat) (ys : List UInt8) (w0 : World) (ho : Lw.Own Enc.b 5 base w0 (.slice (some ⟨g, 0, none⟩) ys.length c) ys) (hl : ys.length ≤ 1000000) : Rets Tryd.prog 32 #[.slice (some ⟨g, 0, none⟩) ys.length c] w0 fun r w' => Lw.Own Enc.b 5 base w' (.slice (some ⟨g, 0, none⟩) ys.length c) ys.reverse ∧ Fr [g] w0 w' := by
 refine we [(0, .slice (some ⟨g, 0, none⟩) ys.length c)] Tryd.func32 rfl Tryd.ntmps32 rfl (.cons rfl .nil) ?_
 refine sr (mv rfl rfl (lnS rfl Tryd.underlying22 rfl (s_sub rfl rfl (wi6 (by omega)) rfl (asg rfl rfl (asg rfl rfl (nn (bl ?_)))))))
 refine lpK (ι := Nat) [(0, _)] (fun k => [(2, .int .i64 (k : Int)), (3, .int .i64 ((ys.length : Int) - 1 - (k : Int)))]) (fun k w' => Fr [g] w0 w' ∧ k ≤ ys.length ∧ ∃ zs, RevK ys zs k ∧ Lw.Own Enc.b 5 base w' (.slice (some ⟨g, 0, none⟩) ys.length c) zs) (fun k => ys.length - k) 0 (.cons rfl (.cons rfl (.cons (congrArg (fun z => some (Value.int .i64 z)) (by omega)) .nil))) ⟨Fr.refl _ _, ⟨Nat.zero_le _, _, rev_0 _, ho⟩⟩ ?_
 rintro k w1 ⟨q1, ⟨hk, zs, hR, ho⟩⟩
 have z1 := q1.size
 refine kpC [(0, _), (2, _), (3, _)] (.cons rfl (.cons rfl (.cons rfl .nil))) ?_
 refine sq (sr (mv rfl rfl (mv rfl rfl (lt' rfl rfl rfl (nn ?_)))))
 refine cd rfl (fun c0 => ?_) (fun c0 => ?_)
 · obtain ⟨hzl, -⟩ := id hR
   have hkk : k < ys.length - 1 - k := by omega
   refine sk (tn (sq (bl ?_)))
   intro a h
   refine region_heldP (some 15) (fun wb w' => Fr [g] wb w') hmix ?_; intro w2 hq
   have z2 := hq.size
   replace ho := ho.ext hq
   have q2 := hq
   clear hq; have hC : Fr [g] w2 w2 := Fr.refl _ _
   have ho_b := ho
   refine hd_move 0 (by kernel_rfl) (by kernel_rfl) (by kernel_rfl) hC h wn rfl rfl rfl ?_; clear h a; intro a h
   refine hd_move 1 (by kernel_rfl) (by kernel_rfl) (by kernel_rfl) hC h wn rfl rfl rfl ?_; clear h a; intro a h
   refine hd_move 2 (by kernel_rfl) (by kernel_rfl) (by kernel_rfl) hC h wn rfl rfl rfl ?_; clear h a; intro a h
   refine hd_move 3 (by kernel_rfl) (by kernel_rfl) (by kernel_rfl) hC h wn rfl rfl rfl ?_; clear h a; intro a h
   refine hd_move 4 (by kernel_rfl) (by kernel_rfl) (by kernel_rfl) hC h wn rfl rfl rfl ?_; clear h a; intro a h
   refine hd_move 5 (by kernel_rfl) (by kernel_rfl) (by kernel_rfl) hC h wn rfl rfl rfl ?_; clear h a; intro a h
   refine hd_idxL (p := (ys.length - 1 - k)) ((0 : UInt8)) 6 (by kernel_rfl) (by kernel_rfl) (by kernel_rfl) hC h wn rfl ho.sl rfl el22 (by omega) (by omega) (by omega) rfl rfl ?_; clear h a; intro ad20 hc20 a h
   refine hd_move 8 (by kernel_rfl) (by kernel_rfl) (by kernel_rfl) hC h wn rfl rfl rfl ?_; clear h a; intro a h
   refine hd_move 9 (by kernel_rfl) (by kernel_rfl) (by kernel_rfl) hC h wn rfl rfl rfl ?_; clear h a; intro a h
   refine hd_idxL (p := k) ((0 : UInt8)) 10 (by kernel_rfl) (by kernel_rfl) (by kernel_rfl) hC h wn rfl ho.sl rfl el22 (by omega) (by omega) (by omega) rfl rfl ?_; clear h a; intro ad24 hc24 a h
   refine hd_two 7 11 (by kernel_rfl) rfl rfl ?_ ?_
   · refine id ?_
     refine st_loadC0 h rfl (hc20 _ ho.sl) na5 rfl ?_; clear h a; intro a h
     refine hd_next hC ?_
     refine hd_one 11 (by kernel_rfl) rfl ?_
     refine st_loadC0 h rfl (hc24 _ ho.sl) na5 rfl ?_; clear h a; intro a h
     refine hd_next hC ?_
     refine hd_idxS 12 (by kernel_rfl) (by kernel_rfl) (by kernel_rfl) hC (p := k) h wn rfl rfl el22 (by omega) (by omega) (by omega) rfl rfl ?_; clear h a; intro a h
     refine hd_one 13 (by kernel_rfl) rfl ?_
     refine st_storeO (i := k) (zs.getD (ys.length - 1 - k) 0) h rfl rfl ho (by omega) rfl sz5 ?_; clear h a; intro w3 ho_2 hq _hz a h
     have z3 := hq.size
     replace hC := hC.step hq (by first | (simp; done) | (simp; omega))
     have q3 := hq
     clear hq _hz ho
     have ho := ho_2
     clear ho_2
     refine hd_next hC ?_
     refine hd_idxS 14 (by kernel_rfl) (by kernel_rfl) (by kernel_rfl) hC (p := (ys.length - 1 - k)) h wn rfl rfl el22 (by omega) (by omega) (by omega) rfl rfl ?_; clear h a; intro a h
     refine hd_one 15 (by kernel_rfl) rfl ?_
     refine st_storeO (i := (ys.length - 1 - k)) (zs.getD k 0) h rfl rfl ho (by rw [List.length_set]; omega) rfl sz5 ?_; clear h a; intro w4 ho_2 hq _hz a h
     have z4 := hq.size
     have q4 := hq
     clear hq _hz ho
     have ho := ho_2
     clear ho_2
     refine hd_past (by kernel_rfl) ?_
     refine hd_end (by kernel_rfl) ?_
     clear hC ho_b
     refine bk (h.sub (L' := [(0, _), (2, _), (3, _)]) (.cons rfl (.cons rfl (.cons rfl .nil)))) ?_; clear h a
     refine bn' (tn (rg (mv rfl rfl (s_add rfl rfl (wi6 (by omega)) rfl (mv rfl rfl (s_sub rfl rfl (wi6 (by omega)) rfl (asg rfl rfl (asg rfl rfl (nl ?_)))))))))
     exact lpE (k + 1) (.cons rfl (.cons rfl (.cons (congrArg (fun z => some (Value.int .i64 z)) (by omega)) .nil))) ⟨(((((Fr.refl [g] _).step q1 (by first | (simp; done) | (simp; omega))).next q2).step q3 (by first | (simp; done) | (simp; omega))).step q4 (by first | (simp; done) | (simp; omega))), ⟨by omega, _, rev_step hkk hR, ho⟩⟩ (by omega)
   · refine id ?_
     refine st_loadC0 h rfl (hc24 _ ho.sl) na5 rfl ?_; clear h a; intro a h
     refine hd_next hC ?_
     refine hd_one 7 (by kernel_rfl) rfl ?_
     refine st_loadC0 h rfl (hc20 _ ho.sl) na5 rfl ?_; clear h a; intro a h
     refine hd_next hC ?_
     refine hd_idxS 12 (by kernel_rfl) (by kernel_rfl) (by kernel_rfl) hC (p := k) h wn rfl rfl el22 (by omega) (by omega) (by omega) rfl rfl ?_; clear h a; intro a h
     refine hd_one 13 (by kernel_rfl) rfl ?_
     refine st_storeO (i := k) (zs.getD (ys.length - 1 - k) 0) h rfl rfl ho (by omega) rfl sz5 ?_; clear h a; intro w5 ho_2 hq _hz a h
     have z5 := hq.size
     replace hC := hC.step hq (by first | (simp; done) | (simp; omega))
     have q5 := hq
     clear hq _hz ho
     have ho := ho_2
     clear ho_2
     refine hd_next hC ?_
     refine hd_idxS 14 (by kernel_rfl) (by kernel_rfl) (by kernel_rfl) hC (p := (ys.length - 1 - k)) h wn rfl rfl el22 (by omega) (by omega) (by omega) rfl rfl ?_; clear h a; intro a h
     refine hd_one 15 (by kernel_rfl) rfl ?_
     refine st_storeO (i := (ys.length - 1 - k)) (zs.getD k 0) h rfl rfl ho (by rw [List.length_set]; omega) rfl sz5 ?_; clear h a; intro w6 ho_2 hq _hz a h
     have z6 := hq.size
     have q6 := hq
     clear hq _hz ho
     have ho := ho_2
     clear ho_2
     refine hd_past (by kernel_rfl) ?_
     refine hd_end (by kernel_rfl) ?_
     clear hC ho_b
     refine bk (h.sub (L' := [(0, _), (2, _), (3, _)]) (.cons rfl (.cons rfl (.cons rfl .nil)))) ?_; clear h a
     refine bn' (tn (rg (mv rfl rfl (s_add rfl rfl (wi6 (by omega)) rfl (mv rfl rfl (s_sub rfl rfl (wi6 (by omega)) rfl (asg rfl rfl (asg rfl rfl (nl ?_)))))))))
     exact lpE (k + 1) (.cons rfl (.cons rfl (.cons (congrArg (fun z => some (Value.int .i64 z)) (by omega)) .nil))) ⟨(((((Fr.refl [g] _).step q1 (by first | (simp; done) | (simp; omega))).next q2).step q5 (by first | (simp; done) | (simp; omega))).step q6 (by first | (simp; done) | (simp; omega))), ⟨by omega, _, rev_step hkk hR, ho⟩⟩ (by omega)
 · refine ex (te (te (xh (r0n Tryd.results32  ?_))))
   exact ⟨_, rfl, by rw [← rev_end (by omega) hR]; exact ho, (q1.weak (by first | (simp; done) | (simp; omega)))⟩
end Go.Proofs.YtgdlgjkjpbbniaaDoor
namespace Go.Proofs.YtgdlgjkjpbbniaaDoor
open Go.Lw Go.G21
theorem co32 : CallOf Tryd.prog 32 := CallOf.mk' Tryd.func32 (by kernel_rfl) (by kernel_rfl)
theorem zv5 (w : World) : (zeroValue 5).run Tryd.prog w = .ok (.int .u8 0) w := by kernel_rfl
theorem turn_ok (wd : Int) (v : Value) (rs : List UInt8) (w0 : World) (hs : Sl Enc.b w0 v rs) (hl : rs.length ≤ 1000) : Rets Tryd.prog 18 #[.agg #[.int .i64 wd, v]] w0 fun r w' => ∃ A, r = .agg #[.int .i64 wd, .slice A rs.length rs.length] ∧ Sl Enc.b w' (.slice A rs.length rs.length) rs.reverse ∧ Fr [] w0 w' := by
 obtain ⟨A, c, rfl, hcc, hM, hA⟩ := id hs
 clear hA
 unfold maxLen at hM
 refine we [(0, .agg #[.int .i64 wd, .slice A rs.length c])] Tryd.func18 rfl Tryd.ntmps18 rfl (.cons rfl .nil) ?_
 have hs0 := hs
 refine sr (bx rfl rfl rfl (fun g1 w1 hg1 hb1 q1 z1 => ?_))
 refine al zv26 rfl rfl (fun g2 w2 hg2 hb2 q2 z2 => ?_)
 refine nn ?_
 refine jn (ι := Nat × Nat) [(1, _), (2, _)] (fun p => [(3, .pointer (some ⟨p.1, 0, none⟩))]) (fun p w' => Fr [] w2 w' ∧ p.1 ≠ p.2 ∧ w2.heap.size ≤ p.1 ∧ w2.heap.size ≤ p.2 ∧ Blk w' p.1 26 [.int .i64 wd, .slice (some ⟨p.2, 0, none⟩) rs.length rs.length] ∧ Lw.Own Enc.b 5 w0.heap.size w' (.slice (some ⟨p.2, 0, none⟩) rs.length rs.length) (List.replicate rs.length 0)) (.cons rfl (.cons rfl .nil)) ?_ ?_
 · replace hs := hs0.ext (q1.next q2)
   replace hb1 := hb1.ext q2
   intro a h
   refine region_heldP none (fun wb w' => Fr [] wb w') hmix ?_; intro w3 hq
   have z3 := hq.size
   replace hs := hs.ext hq
   replace hb1 := hb1.ext hq
   have q3 := hq
   clear hq; have hC : Fr [] w3 w3 := Fr.refl _ _
   have hs_b := hs
   have hb1_b := hb1
   refine hd_fieldAddr 0 (by kernel_rfl) (by kernel_rfl) (by kernel_rfl) hC h wn rfl fa26_0 rfl rfl ?_; clear h a; intro a h
   refine hd_loadB 1 (by kernel_rfl) (by kernel_rfl) (by kernel_rfl) hC h wn rfl (fun _ hw => hb1_b.ext hw) rfl na3 rfl rfl ?_; clear h a; intro a h
   refine hd_fieldAddr 2 (by kernel_rfl) (by kernel_rfl) (by kernel_rfl) hC h wn rfl fa26_1 rfl rfl ?_; clear h a; intro a h
   refine hd_loadB 3 (by kernel_rfl) (by kernel_rfl) (by kernel_rfl) hC h wn rfl (fun _ hw => hb1_b.ext hw) rfl na22 rfl rfl ?_; clear h a; intro a h
   refine hd_lenS 4 (by kernel_rfl) (by kernel_rfl) (by kernel_rfl) hC h wn rfl Tryd.underlying22 rfl rfl ?_; clear h a; intro a h
   refine hd_two 5 7 (by kernel_rfl) rfl rfl ?_ ?_
   · refine id ?_
     refine st_makeSlice (m := rs.length) (c := rs.length) ((0 : UInt8)) h rfl rfl el22 zv5 rfl (Nat.le_refl _) (by omega) (by unfold maxLen; omega) rfl ?_; clear h a; intro g_9 w4 hg9 hoN hq hy9 a h
     have z4 := hq.size
     replace hs := hs.ext hq
     replace hb1 := hb1.ext hq
     replace hC := hC.next hq
     have q4 := hq
     clear hq
     refine hd_next hC ?_
     refine hd_lit (cs := [_, _]) 6 (by kernel_rfl) (by kernel_rfl) (by kernel_rfl) hC h wn (evs_cons rfl (evs_cons rfl evs_nil)) bo26 (pok_cons rfl rfl rfl (pok_cons rfl rfl rfl pok_nil)) rfl rfl rfl ?_; clear h a; intro a h
     refine hd_one 7 (by kernel_rfl) rfl ?_
     refine st_alloc h zv26 rfl rfl ?_; clear h a; intro w5 hb3 hq hz a h
     obtain ⟨g_3, hg⟩ : ∃ g, g = w4.heap.size := ⟨_, rfl⟩; rw [← hg] at hb3 h hz
     have hn__3 : g1 < g_3 := by have := hb1.lt; omega
     have z5 := hq.size
     replace hs := hs.ext hq
     replace hb1 := hb1.ext hq
     replace hoN := hoN.ext hq
     replace hC := hC.next hq
     have q5 := hq
     clear hq
     refine hd_next hC ?_
     refine hd_one 8 (by kernel_rfl) rfl ?_
     refine st_storeBA h rfl rfl hb3 rfl (by first | (simp [Value.oneCell', S]; done) | exact Enc.one _ _) sz26 ?_; clear h a; intro w6 hbn hq hz a h
     have z6 := hq.size
     replace hb1 := hb1.fr hq (by first | (simp; done) | (simp; omega) | (simp [blks]; done) | (simp [blks]; omega))
     replace hoN := hoN.fr hq (fun k hk hb => by rw [List.mem_singleton] at hk; subst hk; exact Own.neB hoN hb3 (by decide) hb)
     replace hC := hC.step hq (by first | (simp; done) | (simp; omega))
     have q6 := hq
     clear hb3 hq hz; have hb3 : Blk w6 g_3 _ [_, _] := hbn; clear hbn
     refine hd_next hC ?_
     refine hd_end (by kernel_rfl) ?_
     clear hC hs_b hb1_b
     refine bk (h.sub (L' := [(1, _), (2, _), (3, _)]) (.cons rfl (.cons rfl (.cons rfl .nil)))) ?_; clear h a
     exact jE ((g_3, g_9)) (.cons rfl (.cons rfl (.cons rfl .nil))) ⟨(((q3.next q4).next q5).step q6 (by first | (simp; done) | (simp; omega))), ⟨fun e => Own.neB hoN hb3 (by decide) (by simp [blks, show g_3 = g_9 from e]), by show _ ≤ g_3; omega, by show _ ≤ g_9; omega, hb3, hoN.low (by omega)⟩⟩
   · refine id ?_
     refine st_alloc h zv26 rfl rfl ?_; clear h a; intro w7 hb3 hq hz a h
     obtain ⟨g_3, hg⟩ : ∃ g, g = w3.heap.size := ⟨_, rfl⟩; rw [← hg] at hb3 h hz
     have hn__3 : g1 < g_3 := by have := hb1.lt; omega
     have z7 := hq.size
     replace hs := hs.ext hq
     replace hb1 := hb1.ext hq
     replace hC := hC.next hq
     have q7 := hq
     clear hq
     refine hd_next hC ?_
     refine hd_one 5 (by kernel_rfl) rfl ?_
     refine st_makeSlice (m := rs.length) (c := rs.length) ((0 : UInt8)) h rfl rfl el22 zv5 rfl (Nat.le_refl _) (by omega) (by unfold maxLen; omega) rfl ?_; clear h a; intro g_9 w8 hg9 hoN hq hy9 a h
     have z8 := hq.size
     replace hs := hs.ext hq
     replace hb1 := hb1.ext hq
     replace hb3 := hb3.ext hq
     replace hC := hC.next hq
     have q8 := hq
     clear hq
     refine hd_next hC ?_
     refine hd_lit (cs := [_, _]) 6 (by kernel_rfl) (by kernel_rfl) (by kernel_rfl) hC h wn (evs_cons rfl (evs_cons rfl evs_nil)) bo26 (pok_cons rfl rfl rfl (pok_cons rfl rfl rfl pok_nil)) rfl rfl rfl ?_; clear h a; intro a h
     refine hd_one 8 (by kernel_rfl) rfl ?_
     refine st_storeBA h rfl rfl hb3 rfl (by first | (simp [Value.oneCell', S]; done) | exact Enc.one _ _) sz26 ?_; clear h a; intro w9 hbn hq hz a h
     have z9 := hq.size
     replace hb1 := hb1.fr hq (by first | (simp; done) | (simp; omega) | (simp [blks]; done) | (simp [blks]; omega))
     replace hoN := hoN.fr hq (fun k hk hb => by rw [List.mem_singleton] at hk; subst hk; exact Own.neB hoN hb3 (by decide) hb)
     replace hC := hC.step hq (by first | (simp; done) | (simp; omega))
     have q9 := hq
     clear hb3 hq hz; have hb3 : Blk w9 g_3 _ [_, _] := hbn; clear hbn
     refine hd_next hC ?_
     refine hd_end (by kernel_rfl) ?_
     clear hC hs_b hb1_b
     refine bk (h.sub (L' := [(1, _), (2, _), (3, _)]) (.cons rfl (.cons rfl (.cons rfl .nil)))) ?_; clear h a
     exact jE ((g_3, g_9)) (.cons rfl (.cons rfl (.cons rfl .nil))) ⟨(((q3.next q7).next q8).step q9 (by first | (simp; done) | (simp; omega))), ⟨fun e => Own.neB hoN hb3 (by decide) (by simp [blks, show g_3 = g_9 from e]), by show _ ≤ g_3; omega, by show _ ≤ g_9; omega, hb3, hoN.low (by omega)⟩⟩
 · rintro ⟨g3, g9⟩ w10 ⟨q10, hgne, hg32, hg92, hb3, hoN⟩
   have z10 := q10.size
   have lt_hb3 := hb3.lt
   refine kpC [(1, _), (2, _), (3, _)] (.cons rfl (.cons rfl (.cons rfl .nil))) ?_
   refine sr (fad rfl fa26_1 rfl (s_loadB rfl hb3 rfl na22 rfl (fad rfl fa26_1 rfl ?_)))
   replace hb1 := hb1.ext (q2.next q10)
   refine s_loadB rfl hb1 rfl na22 rfl ?_
   replace hs := hs0.ext ((q1.next q2).next q10)
   refine s_copy (zs := List.replicate rs.length (0 : UInt8)) (by rw [List.length_replicate]; rfl) rfl (by rw [List.length_replicate]; exact hoN) hs (by rw [List.length_replicate]) el22 rfl (fun w11 hoN q11 z11 => ?_)
   rw [List.length_replicate] at hoN
   refine kpL [(2, _), (3, _)] (.cons rfl (.cons rfl .nil)) (nn (sr (fad rfl fa26_1 rfl ?_)))
   replace hb3 := hb3.fr q11 (by first | (simp; done) | (simp; omega) | (simp [blks]; done) | (simp [blks]; omega))
   refine s_loadB rfl hb3 rfl na22 rfl ?_
   refine cl (ev1 rfl) co32 (revb_ok g9 rs.length w0.heap.size rs _ hoN (by omega)) rfl ?_
   rintro _ w12 ⟨hoN, q12⟩
   have z12 := q12.size
   refine nn (sr ?_)
   replace hb3 := hb3.fr q12 (by first | (simp; done) | (simp; omega) | (simp [blks]; done) | (simp [blks]; omega))
   refine s_loadBA rfl hb3 ag26 rfl ?_
   replace hb2 := ((hb2.ext q10).fr q11 (by first | (simp; done) | (simp; omega) | (simp [blks]; done) | (simp [blks]; omega))).fr q12 (by first | (simp; done) | (simp; omega) | (simp [blks]; done) | (simp [blks]; omega))
   refine s_storeBA (vs := [_, _]) rfl rfl hb2 (by rfl) (by first | (simp [Value.oneCell', S]; done) | exact Enc.one _ _) sz26 (fun w13 hb2 q13 z13 => ?_)
   refine nn (rt (rC Tryd.results18 rfl hb2 ag26  ?_))
   replace hoN := hoN.fr q13 (by intro k hk hb; simp [blks] at hk hb; omega)
   exact ⟨_, rfl, some ⟨g9, 0, none⟩, rfl, hoN.sl, (((((q1.next q2).next q10).step q11 (by first | (simp; done) | (simp; omega))).step q12 (by first | (simp; done) | (simp; omega))).step q13 (by first | (simp; done) | (simp; omega)))⟩
end Go.Proofs.YtgdlgjkjpbbniaaDoor
namespace Go.Proofs.YtgdlgjkjpbbniaaDoor
open Go.Lw Go.G21
theorem co18 : CallOf Tryd.prog 18 := CallOf.mk' Tryd.func18 (by kernel_rfl) (by kernel_rfl)
theorem rev_at {rs : List UInt8} {i : Nat} (h : i < rs.length) : rs.reverse.getD i 0 = rs.getD (rs.length - 1 - i) 0 := by
  rw [List.getD, List.getElem?_reverse h, List.getD]
theorem tubE_rev (wd : Int) (rs : List UInt8) : tubE wd rs.reverse = tubE wd rs := by
  unfold tubE badY
  rw [List.length_reverse, List.any_reverse]
set_option maxHeartbeats 1000000 in
theorem law_turn (wd : Int) (v : Value) (rs : List UInt8) (w0 : World) (hG : Glob w0) (hs : Sl Enc.b w0 v rs) : Rets Tryd.prog 6 #[.agg #[.int .i64 wd, v]] w0 fun r w' => r = .bool true ∧ Fr [] w0 w' := by
 obtain ⟨A, c, rfl, hcc, hM, hA⟩ := id hs
 clear hA
 unfold maxLen at hM
 have hrl : rs.reverse.length = rs.length := List.length_reverse
 have hGs := hG.sz
 refine we [(0, .agg #[.int .i64 wd, .slice A rs.length c])] Tryd.func6 rfl Tryd.ntmps6 rfl (.cons rfl .nil) ?_
 have hs0 := hs
 have hG0 := hG
 refine sr (bx rfl rfl rfl (fun g1 w1 hg1 hb1 q1 z1 => ?_))
 refine asg rfl rfl (nn (sq (sr (fad rfl fa26_1 rfl (s_loadB rfl hb1 rfl na22 rfl (lnS rfl Tryd.underlying22 rfl (gt' rfl rfl rfl (nn ?_))))))))
 refine cd rfl (fun c0 => ?_) (fun c0 => ?_)
 · refine sr (asg rfl rfl (nn (rt (tr (r1 Tryd.results6 rfl ?_)))))
   exact ⟨_, rfl, rfl, q1⟩
 · refine sk (tn (sr (s_loadBA rfl hb1 ag26 rfl ?_)))
   replace hs := hs0.ext q1
   refine cl (ev1 rfl) co18 (turn_ok _ _ _ _ hs (by omega)) rfl ?_
   rintro _ w2 ⟨AU, rfl, hsu, q2⟩
   have z2 := q2.size
   have hsu0 := hsu
   refine al zv26 rfl rfl (fun g3 w3 hg3 hb3 q3 z3 => ?_)
   refine s_storeBA (vs := [_, _]) rfl rfl hb3 (by rfl) (by first | (simp [Value.oneCell', S]; done) | exact Enc.one _ _) sz26 (fun w4 hb3 q4 z4 => ?_)
   refine nn (sr (fad rfl fa26_1 rfl ?_))
   replace hb1 := (hb1.ext (q2.next q3)).fr q4 (by first | (simp; done) | (simp; omega) | (simp [blks]; done) | (simp [blks]; omega))
   refine s_loadB rfl hb1 rfl na22 rfl (lnS rfl Tryd.underlying22 rfl (asg rfl rfl (nn (sq (sq ?_)))))
   replace hs := hs0.ext (((q1.next q2).next q3).step q4 (by first | (simp; done) | (simp; omega)))
   replace hG := hG0.ext (((q1.next q2).next q3).step q4 (by first | (simp; done) | (simp; omega)))
   replace hsu := hsu0.ext (q3.step q4 (by first | (simp; done) | (simp; omega)))
   intro a h
   refine region_heldP none (fun wb w' => Fr [] wb w') hmix ?_; intro w5 hq
   have z5 := hq.size
   replace hs := hs.ext hq
   replace hG := hG.ext hq
   replace hb1 := hb1.ext hq
   replace hsu := hsu.ext hq
   replace hb3 := hb3.ext hq
   have q5 := hq
   clear hq; have hC : Fr [] w5 w5 := Fr.refl _ _
   have hs_b := hs
   have hG_b := hG
   have hb1_b := hb1
   have hsu_b := hsu
   have hb3_b := hb3
   refine hd_fieldAddr 0 (by kernel_rfl) (by kernel_rfl) (by kernel_rfl) hC h wn rfl fa26_0 rfl rfl ?_; clear h a; intro a h
   refine hd_loadB 1 (by kernel_rfl) (by kernel_rfl) (by kernel_rfl) hC h wn rfl (fun _ hw => hb3_b.ext hw) rfl na3 rfl rfl ?_; clear h a; intro a h
   refine hd_fieldAddr 2 (by kernel_rfl) (by kernel_rfl) (by kernel_rfl) hC h wn rfl fa26_0 rfl rfl ?_; clear h a; intro a h
   refine hd_loadB 3 (by kernel_rfl) (by kernel_rfl) (by kernel_rfl) hC h wn rfl (fun _ hw => hb1_b.ext hw) rfl na3 rfl rfl ?_; clear h a; intro a h
   refine hd_ne 4 (by kernel_rfl) (by kernel_rfl) (by kernel_rfl) hC h wn rfl rfl rfl rfl ?_; clear h a; intro a h
   refine hd_move 5 (by kernel_rfl) (by kernel_rfl) (by kernel_rfl) hC h wn rfl rfl rfl ?_; clear h a; intro a h
   refine guard_dec (D := 21) h rfl (fun hh => absurd hh (by exact fun e => e rfl)) ?_
   clear h; intro g0 h
   refine hd_fieldAddr 6 (by kernel_rfl) (by kernel_rfl) (by kernel_rfl) hC h (wy rfl) rfl fa26_1 rfl rfl ?_; clear h a; intro a h
   refine hd_loadB 7 (by kernel_rfl) (by kernel_rfl) (by kernel_rfl) hC h (wy rfl) rfl (fun _ hw => hb3_b.ext hw) rfl na22 rfl rfl ?_; clear h a; intro a h
   refine hd_lenS 8 (by kernel_rfl) (by kernel_rfl) (by kernel_rfl) hC h (wy rfl) rfl Tryd.underlying22 rfl rfl ?_; clear h a; intro a h
   refine hd_move 9 (by kernel_rfl) (by kernel_rfl) (by kernel_rfl) hC h (wy rfl) rfl rfl rfl ?_; clear h a; intro a h
   refine hd_ne 10 (by kernel_rfl) (by kernel_rfl) (by kernel_rfl) hC h (wy rfl) rfl rfl rfl rfl ?_; clear h a; intro a h
   refine hd_one 11 (by kernel_rfl) rfl ?_
   refine st_pick_f h rfl rfl rfl rfl ?_; clear h a; intro a h
   refine hd_next hC ?_
   refine hd_move 12 (by kernel_rfl) (by kernel_rfl) (by kernel_rfl) hC h wn rfl rfl rfl ?_; clear h a; intro a h
   refine guard_dec (D := 28) h rfl (fun hh => absurd hh (by exact fun e => e rfl)) ?_
   clear h; intro g1 h
   refine hd_fieldAddr 13 (by kernel_rfl) (by kernel_rfl) (by kernel_rfl) hC h (wy rfl) rfl fa26_1 rfl rfl ?_; clear h a; intro a h
   refine hd_loadB 14 (by kernel_rfl) (by kernel_rfl) (by kernel_rfl) hC h (wy rfl) rfl (fun _ hw => hb3_b.ext hw) rfl na22 rfl rfl ?_; clear h a; intro a h
   refine hd_capS 15 (by kernel_rfl) (by kernel_rfl) (by kernel_rfl) hC h (wy rfl) rfl Tryd.underlying22 rfl rfl ?_; clear h a; intro a h
   refine hd_move 16 (by kernel_rfl) (by kernel_rfl) (by kernel_rfl) hC h (wy rfl) rfl rfl rfl ?_; clear h a; intro a h
   refine hd_ne 17 (by kernel_rfl) (by kernel_rfl) (by kernel_rfl) hC h (wy rfl) rfl rfl rfl rfl ?_; clear h a; intro a h
   refine hd_one 18 (by kernel_rfl) rfl ?_
   refine st_pick_f h rfl rfl rfl rfl ?_; clear h a; intro a h
   refine hd_next hC ?_
   refine hd_move 19 (by kernel_rfl) (by kernel_rfl) (by kernel_rfl) hC h wn rfl rfl rfl ?_; clear h a; intro a h
   refine guard_dec (D := 35) h rfl (fun hh => absurd hh (by exact fun e => e rfl)) ?_
   clear h; intro g2 h
   refine hd_loadBA 20 (by kernel_rfl) (by kernel_rfl) (by kernel_rfl) hC h (wy rfl) rfl (fun _ hw => hb3_b.ext hw) ag26 rfl rfl ?_; clear h a; intro a h
   refine hd_loadBA 22 (by kernel_rfl) (by kernel_rfl) (by kernel_rfl) hC h (wy rfl) rfl (fun _ hw => hb1_b.ext hw) ag26 rfl rfl ?_; clear h a; intro a h
   refine hd_one 21 (by kernel_rfl) rfl ?_
   refine gd_yes h rfl rfl rfl rfl rfl rfl ?_
   refine st_call h (evs_cons rfl evs_nil) co17 (tcheck_ok _ _ rs.reverse _ hsu) rfl ?_; clear h a; rintro _ w6 ⟨rfl, hq⟩ a h
   have z6 := hq.size
   replace hs := hs.ext hq
   replace hG := hG.ext hq
   replace hb1 := hb1.ext hq
   replace hsu := hsu.ext hq
   replace hb3 := hb3.ext hq
   replace hC := hC.next hq
   have q6 := hq
   clear hq
   refine hd_next hC ?_
   refine hd_one 23 (by kernel_rfl) rfl ?_
   refine gd_yes h rfl rfl rfl rfl rfl rfl ?_
   refine st_call h (evs_cons rfl evs_nil) co17 (tcheck_ok _ _ _ _ hs) rfl ?_; clear h a; rintro _ w7 ⟨rfl, hq⟩ a h
   have z7 := hq.size
   replace hs := hs.ext hq
   replace hG := hG.ext hq
   replace hb1 := hb1.ext hq
   replace hsu := hsu.ext hq
   replace hb3 := hb3.ext hq
   replace hC := hC.next hq
   have q7 := hq
   clear hq
   refine hd_next hC ?_
   refine hd_ne 24 (by kernel_rfl) (by kernel_rfl) (by kernel_rfl) hC h (wy rfl) rfl rfl rfl rfl ?_; clear h a; intro a h
   refine hd_one 25 (by kernel_rfl) rfl ?_
   refine st_pick_f h rfl rfl rfl rfl ?_; clear h a; intro a h
   refine hd_next hC ?_
   refine hd_end (by kernel_rfl) ?_
   clear hC hs_b hG_b hb1_b hsu_b hb3_b
   refine bk (h.sub (L' := [(1, _), (3, _), (4, _), (41, _)]) (.cons rfl (.cons rfl (.cons rfl (.cons rfl .nil))))) ?_; clear h a
   refine tn ?_
   refine cd rfl (fun c1 => ?_) (fun c1 => ?_)
   · refine sr (asg rfl rfl (nn (rt (tr (r1 Tryd.results6 rfl ?_)))))
     exact absurd (tubE_rev wd rs) c1
   · refine sk (tn (sr (s_loadBA rfl hb3 ag26 rfl ?_)))
     refine cl (ev1 rfl) co18 (turn_ok _ _ rs.reverse _ hsu (by omega)) rfl ?_
     rintro _ w8 ⟨AB, rfl, hsb, q8⟩
     have z8 := q8.size
     rw [List.reverse_reverse, hrl] at hsb
     rw [hrl]
     have hsb0 := hsb
     refine al zv26 rfl rfl (fun g5 w9 hg5 hb5 q9 z9 => ?_)
     refine s_storeBA (vs := [_, _]) rfl rfl hb5 (by rfl) (by first | (simp [Value.oneCell', S]; done) | exact Enc.one _ _) sz26 (fun w10 hb5 q10 z10 => ?_)
     refine nn (sq (sr (asg rfl rfl (nn (bl ?_)))))
     refine lpK (ι := Nat) [(1, _), (3, _), (4, _), (5, _)] (fun i => [(6, .int .i64 (i : Int))]) (fun i w' => Fr [] w10 w' ∧ i ≤ rs.length) (fun i => rs.length - i) 0 (.cons rfl (.cons rfl (.cons rfl (.cons rfl (.cons rfl .nil))))) ⟨Fr.refl _ _, Nat.zero_le _⟩ ?_
     rintro i w11 ⟨q11, hi⟩
     have z11 := q11.size
     refine kpC [(1, _), (3, _), (4, _), (5, _), (6, _)] (.cons rfl (.cons rfl (.cons rfl (.cons rfl (.cons rfl .nil))))) ?_
     refine sq (sr (mv rfl rfl (mv rfl rfl (lt' rfl rfl rfl (nn ?_)))))
     refine cd rfl (fun c2 => ?_) (fun c2 => ?_)
     · refine sk (tn (sq (bl (sq ?_))))
       replace hs := hs0.ext ((((((((((q1.next q2).next q3).step q4 (by first | (simp; done) | (simp; omega))).next q5).next q6).next q7).next q8).next q9).step q10 (by first | (simp; done) | (simp; omega))).next q11)
       replace hb1 := ((hb1.ext (q8.next q9)).fr q10 (by first | (simp; done) | (simp; omega) | (simp [blks]; done) | (simp [blks]; omega))).ext q11
       replace hsu := hsu0.ext ((((((((q3.step q4 (by first | (simp; done) | (simp; omega))).next q5).next q6).next q7).next q8).next q9).step q10 (by first | (simp; done) | (simp; omega))).next q11)
       replace hb3 := ((hb3.ext (q8.next q9)).fr q10 (by first | (simp; done) | (simp; omega) | (simp [blks]; done) | (simp [blks]; omega))).ext q11
       replace hsb := hsb0.ext ((q9.step q10 (by first | (simp; done) | (simp; omega))).next q11)
       replace hb5 := hb5.ext q11
       intro a h
       refine region_heldP none (fun wb w' => Fr [] wb w') hmix ?_; intro w12 hq
       have z12 := hq.size
       replace hs := hs.ext hq
       replace hb1 := hb1.ext hq
       replace hsu := hsu.ext hq
       replace hb3 := hb3.ext hq
       replace hsb := hsb.ext hq
       replace hb5 := hb5.ext hq
       have q12 := hq
       clear hq; have hC : Fr [] w12 w12 := Fr.refl _ _
       have hs_b := hs
       have hb1_b := hb1
       have hsu_b := hsu
       have hb3_b := hb3
       have hsb_b := hsb
       have hb5_b := hb5
       refine hd_fieldAddr 0 (by kernel_rfl) (by kernel_rfl) (by kernel_rfl) hC h wn rfl fa26_1 rfl rfl ?_; clear h a; intro a h
       refine hd_loadB 1 (by kernel_rfl) (by kernel_rfl) (by kernel_rfl) hC h wn rfl (fun _ hw => hb3_b.ext hw) rfl na22 rfl rfl ?_; clear h a; intro a h
       refine hd_move 2 (by kernel_rfl) (by kernel_rfl) (by kernel_rfl) hC h wn rfl rfl rfl ?_; clear h a; intro a h
       refine hd_idxL (p := i) ((0 : UInt8)) 3 (by kernel_rfl) (by kernel_rfl) (by kernel_rfl) hC h wn rfl hsu rfl el22 (by omega) (by omega) (by omega) rfl rfl ?_; clear h a; intro ad52 hc52 a h
       refine hd_loadC0 4 (by kernel_rfl) (by kernel_rfl) (by kernel_rfl) hC h wn rfl (fun _ hw => hc52 _ (hsu_b.ext hw)) na5 rfl rfl ?_; clear h a; intro a h
       refine hd_fieldAddr 5 (by kernel_rfl) (by kernel_rfl) (by kernel_rfl) hC h wn rfl fa26_1 rfl rfl ?_; clear h a; intro a h
       refine hd_loadB 6 (by kernel_rfl) (by kernel_rfl) (by kernel_rfl) hC h wn rfl (fun _ hw => hb1_b.ext hw) rfl na22 rfl rfl ?_; clear h a; intro a h
       refine hd_move 7 (by kernel_rfl) (by kernel_rfl) (by kernel_rfl) hC h wn rfl rfl rfl ?_; clear h a; intro a h
       refine hd_sub 8 (by kernel_rfl) (by kernel_rfl) (by kernel_rfl) hC h wn rfl rfl (by first | exact IntWalk.i64_in _ (by omega) | rfl) rfl rfl ?_; clear h a; intro a h
       refine hd_move 9 (by kernel_rfl) (by kernel_rfl) (by kernel_rfl) hC h wn rfl rfl rfl ?_; clear h a; intro a h
       refine hd_sub 10 (by kernel_rfl) (by kernel_rfl) (by kernel_rfl) hC h wn rfl rfl (by first | exact IntWalk.i64_in _ (by omega) | rfl) rfl rfl ?_; clear h a; intro a h
       refine hd_idxL (p := (rs.length - 1 - i)) ((0 : UInt8)) 11 (by kernel_rfl) (by kernel_rfl) (by kernel_rfl) hC h wn rfl hs rfl el22 (by omega) (by omega) (by omega) rfl rfl ?_; clear h a; intro ad60 hc60 a h
       refine hd_loadC0 12 (by kernel_rfl) (by kernel_rfl) (by kernel_rfl) hC h wn rfl (fun _ hw => hc60 _ (hs_b.ext hw)) na5 rfl rfl ?_; clear h a; intro a h
       refine hd_ne 13 (by kernel_rfl) (by kernel_rfl) (by kernel_rfl) hC h wn rfl rfl rfl rfl ?_; clear h a; intro a h
       refine hd_move 14 (by kernel_rfl) (by kernel_rfl) (by kernel_rfl) hC h wn rfl rfl rfl ?_; clear h a; intro a h
       refine guard_dec (D := 63) h rfl (fun hh => absurd hh (by exact fun e => e (by rw [rev_at (by omega)]))) ?_
       clear h; intro g3 h
       refine hd_fieldAddr 15 (by kernel_rfl) (by kernel_rfl) (by kernel_rfl) hC h (wy rfl) rfl fa26_1 rfl rfl ?_; clear h a; intro a h
       refine hd_loadB 16 (by kernel_rfl) (by kernel_rfl) (by kernel_rfl) hC h (wy rfl) rfl (fun _ hw => hb5_b.ext hw) rfl na22 rfl rfl ?_; clear h a; intro a h
       refine hd_move 17 (by kernel_rfl) (by kernel_rfl) (by kernel_rfl) hC h (wy rfl) rfl rfl rfl ?_; clear h a; intro a h
       refine hd_idxL (p := i) ((0 : UInt8)) 18 (by kernel_rfl) (by kernel_rfl) (by kernel_rfl) hC h (wy rfl) rfl hsb rfl el22 (by omega) (by omega) (by omega) rfl rfl ?_; clear h a; intro ad67 hc67 a h
       refine hd_loadC0 19 (by kernel_rfl) (by kernel_rfl) (by kernel_rfl) hC h (wy rfl) rfl (fun _ hw => hc67 _ (hsb_b.ext hw)) na5 rfl rfl ?_; clear h a; intro a h
       refine hd_fieldAddr 20 (by kernel_rfl) (by kernel_rfl) (by kernel_rfl) hC h (wy rfl) rfl fa26_1 rfl rfl ?_; clear h a; intro a h
       refine hd_loadB 21 (by kernel_rfl) (by kernel_rfl) (by kernel_rfl) hC h (wy rfl) rfl (fun _ hw => hb1_b.ext hw) rfl na22 rfl rfl ?_; clear h a; intro a h
       refine hd_move 22 (by kernel_rfl) (by kernel_rfl) (by kernel_rfl) hC h (wy rfl) rfl rfl rfl ?_; clear h a; intro a h
       refine hd_idxL (p := i) ((0 : UInt8)) 23 (by kernel_rfl) (by kernel_rfl) (by kernel_rfl) hC h (wy rfl) rfl hs rfl el22 (by omega) (by omega) (by omega) rfl rfl ?_; clear h a; intro ad72 hc72 a h
       refine hd_loadC0 24 (by kernel_rfl) (by kernel_rfl) (by kernel_rfl) hC h (wy rfl) rfl (fun _ hw => hc72 _ (hs_b.ext hw)) na5 rfl rfl ?_; clear h a; intro a h
       refine hd_ne 25 (by kernel_rfl) (by kernel_rfl) (by kernel_rfl) hC h (wy rfl) rfl rfl rfl rfl ?_; clear h a; intro a h
       refine hd_one 26 (by kernel_rfl) rfl ?_
       refine st_pick_f h rfl rfl rfl rfl ?_; clear h a; intro a h
       refine hd_next hC ?_
       refine hd_end (by kernel_rfl) ?_
       clear hC hs_b hb1_b hsu_b hb3_b hsb_b hb5_b
       refine bk (h.sub (L' := [(1, _), (3, _), (4, _), (5, _), (6, _), (75, _)]) (.cons rfl (.cons rfl (.cons rfl (.cons rfl (.cons rfl (.cons rfl .nil))))))) ?_; clear h a
       refine tn ?_
       refine cd rfl (fun c3 => ?_) (fun c3 => ?_)
       · refine sr (asg rfl rfl (kpL [(2, _)] (.cons rfl .nil) (nn (rt (rb (tr (tr (rb (tr (r1 Tryd.results6 rfl ?_))))))))))
         exact absurd rfl c3
       · refine sk (bn' (tn (rg (mv rfl rfl (s_add rfl rfl (wi6 (by omega)) rfl (asg rfl rfl (nl ?_)))))))
         exact lpE (i + 1) (.cons rfl (.cons rfl (.cons rfl (.cons rfl (.cons rfl .nil))))) ⟨(q11.next q12), by omega⟩ (by omega)
     · obtain rfl : i = rs.length := by omega
       refine ex (te (te (xh (tn (sr ?_)))))
       replace hG := hG0.ext ((((((((((q1.next q2).next q3).step q4 (by first | (simp; done) | (simp; omega))).next q5).next q6).next q7).next q8).next q9).step q10 (by first | (simp; done) | (simp; omega))).next q11)
       refine cl evs_nil co12 (lives_ok _ hG) rfl ?_
       rintro _ w13 ⟨rfl, q13⟩
       have z13 := q13.size
       refine asg rfl rfl (kpL [(2, _)] (.cons rfl .nil) (nn (rt (r1 Tryd.results6 rfl ?_))))
       exact ⟨_, rfl, rfl, (((((((((((q1.next q2).next q3).step q4 (by first | (simp; done) | (simp; omega))).next q5).next q6).next q7).next q8).next q9).step q10 (by first | (simp; done) | (simp; omega))).next q11).next q13)⟩
end Go.Proofs.YtgdlgjkjpbbniaaDoor
