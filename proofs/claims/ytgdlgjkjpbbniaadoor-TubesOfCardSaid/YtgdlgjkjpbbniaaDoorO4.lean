/- Texts of the proof, joined. -/
import Derived.Test.YtgdlgjkjpbbniaaDoorRows
import Derived.Test.YtgdlgjkjpbbniaaDoorO3
set_option linter.unusedVariables false
set_option linter.unusedSimpArgs false
namespace Go.Proofs.YtgdlgjkjpbbniaaDoor
open Go.Lw Go.G21
theorem bo26 : BuildAt Tryd.prog 26 [(0, 1), (1, 1)] [(.int .i64 0), (.slice none 0 0)] := BuildAt.struct Tryd.underlying26 (fun _ => by kernel_rfl) (fun _ => by kernel_rfl)
theorem co13 : CallOf Tryd.prog 13 := CallOf.mk' Tryd.func13 (by kernel_rfl) (by kernel_rfl)
theorem co27 : CallOf Tryd.prog 27 := CallOf.mk' Tryd.func27 (by kernel_rfl) (by kernel_rfl)
theorem co28 : CallOf Tryd.prog 28 := CallOf.mk' Tryd.func28 (by kernel_rfl) (by kernel_rfl)
theorem co29 : CallOf Tryd.prog 29 := CallOf.mk' Tryd.func29 (by kernel_rfl) (by kernel_rfl)
theorem co30 : CallOf Tryd.prog 30 := CallOf.mk' Tryd.func30 (by kernel_rfl) (by kernel_rfl)
theorem el79 : ElemOf Tryd.prog 79 9 Enc.str 16 := ElemOf.mk' (z := (.string ⟨#[]⟩)) Tryd.underlying79 (by kernel_rfl) rfl
theorem na9 : NotAgg Tryd.prog 9 := fun _ => by kernel_rfl
theorem sz22 : SizeOf Tryd.prog 22 1 := fun _ => by kernel_rfl
theorem sz26 : SizeOf Tryd.prog 26 2 := fun _ => by kernel_rfl
theorem zv26 (w : World) : (zeroValue 26).run Tryd.prog w = .ok (.agg #[(.int .i64 0), (.slice none 0 0)]) w := by kernel_rfl
theorem cut_len2 (x m : List UInt8) : (Lib.cut x m).2.1.length ≤ x.length := by unfold Lib.cut; (repeat' split) <;> simp <;> omega
theorem bytc {n : Int} (h : 0 ≤ n ∧ n ≤ 255) : [Value.int .u8 n].map Value.cells = [UInt8.ofNat n.toNat].map (fun y => (Enc.b.enc y).toArray) := by
  have e : ((UInt8.ofNat n.toNat).toNat : Int) = n := by rw [UInt8.toNat_ofNat']; omega
  show [#[Value.int .u8 n]] = [#[Value.int .u8 ((UInt8.ofNat n.toNat).toNat : Int)]]
  rw [e]
theorem rep_snoc {α : Type} (l : List α) (k : Nat) (x : α) : (l ++ List.replicate k x) ++ [x] = l ++ List.replicate (k + 1) x := by
  rw [List.append_assoc]; congr 1
  exact (List.replicate_succ' (n := k) (a := x)).symm
theorem blks_cut {A : Option Addr} {b : Prop} [Decidable b] {q m c m' c' : Nat} : blks (.slice (if b then A else A.map (·.add q)) m' c') = blks (.slice A m c) := by
  cases A <;> split <;> simp [blks, block_add]
theorem guess_take (ws : List (List UInt8)) (i : Nat) (h : i < ws.length) : guessR (ws.take (i + 1)) = addW (guessR (ws.take i)) (ws.getD i []) := by
  rw [List.take_add_one, List.getElem?_eq_getElem h, List.getD, List.getElem?_eq_getElem h]
  exact guess_snoc _ _
theorem tx_some {c : Prop} [Decidable c] {t s : List UInt8} (h : ¬ ((if c then t else []) = [] ∨ (if c then t else []) ≠ s)) : c ∧ t = s := by
  by_cases hc : c
  · rw [if_pos hc] at h; exact ⟨hc, Classical.not_not.1 fun e => h (.inr e)⟩
  · rw [if_neg hc] at h; exact absurd (.inl rfl) h
theorem tx_none {c : Prop} [Decidable c] {t s : List UInt8} (ht : t ≠ []) (h : (if c then t else []) = [] ∨ (if c then t else []) ≠ s) : ¬ (c ∧ t = s) := fun ⟨h1, h2⟩ => by
  rw [if_pos h1] at h; exact h.elim ht fun e => e h2
theorem textT_ne (wd : Int) (rs : List UInt8) : textT wd rs ≠ [] := by simp [textT]
theorem clipb_ok (A : Option Addr) (m c : Nat) (w0 : World) (hc : m ≤ c) : Rets Tryd.prog 30 #[.slice A m c] w0 fun v w' => v = .slice A m m ∧ w0 = w' := by
 refine we [(0, .slice A m c)] Tryd.func30 rfl Tryd.ntmps30 rfl (.cons rfl .nil) ?_
 refine sr (asg rfl rfl (nn (sr (mv rfl rfl (mv rfl rfl (lnS rfl Tryd.underlying22 rfl (mv rfl rfl (lnS rfl Tryd.underlying22 rfl (s_sl_hm rfl rfl rfl el22 (by omega) (by omega) (by omega) nat_of nat_of rfl (asg rfl rfl (kpL [(2, _)] (.cons rfl .nil) ?_)))))))))))
 refine nn (rt (r1 Tryd.results30 rfl ?_))
 exact ⟨_, rfl, rfl, rfl⟩
set_option maxHeartbeats 1000000 in
theorem parse_ok (s : List UInt8) (w0 : World) (hG : Glob w0) (hl : s.length ≤ 1000000) : Rets Tryd.prog 15 #[S s] w0 fun r w' => ∃ (wd : Int) (A : Option Addr) (rs : List UInt8) (e : Int), r = .tuple #[.agg #[.int .i64 wd, .slice A rs.length rs.length], .int .i64 e] ∧ Sl Enc.b w' (.slice A rs.length rs.length) rs ∧ (e = 0 ∧ parS s = some (wd, rs) ∨ e = 4 ∧ wd = 0 ∧ rs = [] ∧ parS s = none) ∧ Fr [] w0 w' := by
 have hsl := fun i => split_len s [32] i
 have hs1 := split_len s [32] 1
 have hgl := fun k => guess_len (((Lib.split s [32]).drop 2).take k)
 have hGs := hG.sz
 refine we [(0, S s)] Tryd.func15 rfl Tryd.ntmps15 rfl (.cons rfl .nil) ?_
 have hG0 := hG
 refine sr (al zv26 rfl rfl (fun g2 w1 hg2 hb2 q1 z1 => ?_))
 refine asg rfl rfl (nn (sr (mv rfl rfl ?_)))
 replace hG := hG0.ext q1
 refine cl (ev2 rfl rfl) co27 (split_ok _ _ _ hG (by omega) (by decide)) rfl ?_
 rintro V14 w2 ⟨ho14, q2⟩
 have z2 := q2.size
 obtain ⟨A14, c14, rfl, hc14⟩ := ho14.sl.form
 have hb14 := fun k hk => (ho14.blk k hk).2
 have hl14 := ho14.sl.len_le
 unfold maxLen at hl14
 refine asg rfl rfl (nn (sq (sr (mv rfl rfl (lnS rfl Tryd.underlying79 rfl (lt' rfl rfl rfl (nn ?_)))))))
 refine cd rfl (fun c0 => ?_) (fun c0 => ?_)
 · refine sr (s_lit (cs := [_, _]) evs_nil bo26 pok_nil rfl rfl ?_)
   replace hb2 := hb2.ext q2
   refine s_storeBA (vs := [_, _]) rfl rfl hb2 (by rfl) (by first | (simp [Value.oneCell', S]; done) | exact Enc.one _ _) sz26 (fun w3 hb2 q3 z3 => ?_)
   refine asg rfl rfl (nn (rt (tr (rCT Tryd.results15 rfl hb2 ag26 rfl ?_))))
   exact ⟨_, rfl, 0, none, [], 4, rfl, Sl.nil _, .inr ⟨rfl, rfl, rfl, by unfold parS; rw [if_pos (by omega)]⟩, ((q1.next q2).step q3 (by first | (simp; done) | (simp; omega)))⟩
 · refine sk (tn (sr (mv rfl rfl (s_idxL (p := 1) (([] : List UInt8)) rfl ho14.sl rfl el79 (by omega) (by omega) rfl rfl (fun ad20 hc20 => ?_)))))
   refine s_loadC0 rfl (hc20 _ ho14.sl) na9 rfl ?_
   replace hG := hG0.ext (q1.next q2)
   refine cl (ev2 rfl rfl) co28 (number_ok _ _ _ hG (by omega)) rfl ?_
   rintro _ w4 ⟨rfl, q4⟩
   have z4 := q4.size
   refine s_lit (cs := [_, _]) (ev1 rfl) bo26 (pok_cons rfl rfl rfl pok_nil) rfl rfl ?_
   refine al zv26 rfl rfl (fun g5 w5 hg5 hb5 q5 z5 => ?_)
   refine s_storeBA (vs := [_, _]) rfl rfl hb5 (by rfl) (by first | (simp [Value.oneCell', S]; done) | exact Enc.one _ _) sz26 (fun w6 hb5 q6 z6 => ?_)
   refine kpL [(0, _), (2, _), (4, _), (5, _)] (.cons rfl (.cons rfl (.cons rfl (.cons rfl .nil)))) (nn (sq (sr (mv rfl rfl ?_))))
   replace ho14 := (ho14.ext (q4.next q5)).fr q6 (by intro k hk hb; simp at hk; subst hk; have := (ho14.blk _ hb); omega)
   replace hb2 := (hb2.ext ((q2.next q4).next q5)).fr q6 (by first | (simp; done) | (simp; omega) | (simp [blks]; done) | (simp [blks]; omega))
   refine s_sl_l (p := 2) rfl rfl el79 (by omega) (by omega) rfl rfl ?_
   have hw2 := ho14.sl.cutv (p := 2) (p' := (Lib.split s [32]).length) (by omega) (Nat.le_refl _)
   rw [List.take_length] at hw2
   have hw5 : g5 ∉ blks (.slice (if c14 = 2 then A14 else A14.map (·.add (2 * Enc.str.sz))) ((Lib.split s [32]).length - 2) (c14 - 2)) := fun hk => by
     rw [blks_cut (m := (Lib.split s [32]).length) (c := c14)] at hk
     have := hb14 _ hk; omega
   generalize (if c14 = 2 then A14 else A14.map (·.add (2 * Enc.str.sz))) = A25 at hw2 hw5 ⊢
   generalize c14 - 2 = c25 at hw2 hw5 ⊢
   rw [show (Lib.split s [32]).length - 2 = ((Lib.split s [32]).drop 2).length by simp] at hw2 hw5 ⊢
   have hw20 := hw2
   have hb20 := hb2
   have hMw := hw2.len_le
   unfold maxLen at hMw
   refine lnS rfl Tryd.underlying79 rfl (mv rfl rfl (nn (bl ?_)))
   refine lpK (ι := Nat) [(0, _), (2, _), (5, _), (25, _), (26, _)] (fun i => [(27, .int .i64 (i : Int))]) (fun i w' => Fr [g5] w6 w' ∧ i ≤ ((Lib.split s [32]).drop 2).length ∧ ∃ A c, Blk w' g5 26 [.int .i64 (numM ((Lib.split s [32]).getD 1 []) 16), .slice A ((guessR (((Lib.split s [32]).drop 2).take i))).length c] ∧ Lw.Own Enc.b 5 (g5 + 1) w' (.slice A ((guessR (((Lib.split s [32]).drop 2).take i))).length c) ((guessR (((Lib.split s [32]).drop 2).take i)))) (fun i => ((Lib.split s [32]).drop 2).length - i) 0 (.cons rfl (.cons rfl (.cons rfl (.cons rfl (.cons rfl (.cons rfl .nil)))))) ⟨(Fr.refl _ _), ⟨Nat.zero_le _, ⟨none, 0, hb5, Own.nil _⟩⟩⟩ ?_
   rintro i w7 ⟨q7, ⟨hi, ⟨A, c, hb5, ho⟩⟩⟩
   have z7 := q7.size
   have lt_hb5 := hb5.lt
   refine kpC [(0, _), (2, _), (5, _), (25, _), (26, _), (27, _)] (.cons rfl (.cons rfl (.cons rfl (.cons rfl (.cons rfl (.cons rfl .nil)))))) ?_
   refine sr (lt' rfl rfl rfl (nn (sq ?_)))
   refine cd rfl (fun c1 => ?_) (fun c1 => ?_)
   · have hsi : (((Lib.split s [32]).drop 2).getD i []).length ≤ s.length := by rw [List.getD, List.getElem?_drop]; exact hsl (2 + i)
     have hcl1 := cut_len (((Lib.split s [32]).drop 2).getD i []) [120]
     have hcl2 := cut_len2 (((Lib.split s [32]).drop 2).getD i []) [120]
     have hgi := hgl i
     have hnr := numM_rng (Lib.cut (((Lib.split s [32]).drop 2).getD i []) [120]).1 6 (by decide)
     refine sk (tn (sq (bl (sr ?_))))
     replace hw2 := hw20.fr ((Fr.refl [g5] _).step q7 (by first | (simp; done) | (simp; omega))) (fun k hk hb => by rw [List.mem_singleton] at hk; subst hk; exact hw5 hb)
     refine s_idxL (p := i) (([] : List UInt8)) rfl hw2 rfl el79 (by omega) (by omega) (by omega) rfl (fun ad29 hc29 => ?_)
     refine s_loadC0 rfl (hc29 _ hw2) na9 rfl (asg rfl rfl (nn (sr (mv rfl rfl ?_))))
     replace hG := hG0.ext (((((q1.next q2).next q4).next q5).step q6 (by first | (simp; done) | (simp; omega))).step q7 (by first | (simp; done) | (simp; omega)))
     refine cl (ev2 rfl rfl) co29 (scut_ok _ _ _ hG (by omega)) rfl ?_
     rintro _ w8 ⟨rfl, q8⟩
     have z8 := q8.size
     refine mv rfl rfl (xt rfl rfl rfl (xt rfl rfl rfl (xt rfl rfl rfl (asg rfl rfl (asg rfl rfl (asg rfl rfl (kpL [(0, _), (2, _), (5, _), (8, _), (9, _), (10, _), (25, _), (26, _), (27, _)] (.cons rfl (.cons rfl (.cons rfl (.cons rfl (.cons rfl (.cons rfl (.cons rfl (.cons rfl (.cons rfl .nil))))))))) (nn (sr (asg rfl rfl (nn ?_)))))))))))
     refine jn (ι := Unit) [(0, _), (2, _), (5, _), (8, _), (25, _), (26, _), (27, _)] (fun _j => [(11, .int .i64 (timesW (((Lib.split s [32]).drop 2).getD i [])))]) (fun _j w' => Fr [] w8 w') (.cons rfl (.cons rfl (.cons rfl (.cons rfl (.cons rfl (.cons rfl (.cons rfl .nil))))))) ?_ ?_
     · refine sr (mv rfl rfl (nn ?_))
       refine cd rfl (fun c2 => ?_) (fun c2 => ?_)
       · refine rg (mv rfl rfl ?_)
         replace hG := hG0.ext ((((((q1.next q2).next q4).next q5).step q6 (by first | (simp; done) | (simp; omega))).step q7 (by first | (simp; done) | (simp; omega))).next q8)
         refine cl (ev2 rfl rfl) co28 (number_ok _ _ _ hG (by omega)) rfl ?_
         rintro _ w9 ⟨rfl, q9⟩
         have z9 := q9.size
         refine asg rfl rfl (nl ?_)
         exact jE (()) (.cons rfl (.cons rfl (.cons rfl (.cons rfl (.cons rfl (.cons rfl (.cons rfl (.cons (congrArg (fun z => some (Value.int .i64 z)) (by first | (unfold timesW; rw [if_pos c2]) | (unfold timesW; rw [if_neg c2]))) .nil)))))))) q9
       · refine sk ?_
         exact jE (()) (.cons rfl (.cons rfl (.cons rfl (.cons rfl (.cons rfl (.cons rfl (.cons rfl (.cons (congrArg (fun z => some (Value.int .i64 z)) (by first | (unfold timesW; rw [if_pos c2]) | (unfold timesW; rw [if_neg c2]))) .nil)))))))) (Fr.refl _ _)
     · rintro _j w10 q10
       have z10 := q10.size
       refine kpC [(0, _), (2, _), (5, _), (8, _), (25, _), (26, _), (27, _), (11, _)] (.cons rfl (.cons rfl (.cons rfl (.cons rfl (.cons rfl (.cons rfl (.cons rfl (.cons rfl .nil)))))))) ?_
       refine sr (mv rfl rfl (fad rfl fa26_1 rfl ?_))
       replace hb5 := hb5.ext (q8.next q10)
       refine s_loadB rfl hb5 rfl na22 rfl (lnS rfl Tryd.underlying22 rfl (s_sub rfl rfl (wi6 (by omega)) rfl (s_min rfl rfl rfl (mv rfl rfl (kpL [(0, _), (2, _), (5, _), (8, _), (25, _), (26, _), (27, _), (45, _), (46, _)] (.cons rfl (.cons rfl (.cons rfl (.cons rfl (.cons rfl (.cons rfl (.cons rfl (.cons rfl (.cons rfl .nil))))))))) (nn (bl ?_)))))))
       replace ho := ho.ext (q8.next q10)
       refine lpK (ι := Nat) [(0, _), (2, _), (5, _), (8, _), (25, _), (26, _), (27, _), (45, _)] (fun j => [(46, .int .i64 (j : Int))]) (fun j w' => Fr [g5] w6 w' ∧ j ≤ (min (timesW (((Lib.split s [32]).drop 2).getD i [])) (32 - ((guessR (((Lib.split s [32]).drop 2).take i)).length : Int))).toNat ∧ ∃ A c, Blk w' g5 26 [.int .i64 (numM ((Lib.split s [32]).getD 1 []) 16), .slice A (((guessR (((Lib.split s [32]).drop 2).take i)) ++ List.replicate j (UInt8.ofNat (numM (Lib.cut (((Lib.split s [32]).drop 2).getD i []) [120]).1 6).toNat))).length c] ∧ Lw.Own Enc.b 5 (g5 + 1) w' (.slice A (((guessR (((Lib.split s [32]).drop 2).take i)) ++ List.replicate j (UInt8.ofNat (numM (Lib.cut (((Lib.split s [32]).drop 2).getD i []) [120]).1 6).toNat))).length c) (((guessR (((Lib.split s [32]).drop 2).take i)) ++ List.replicate j (UInt8.ofNat (numM (Lib.cut (((Lib.split s [32]).drop 2).getD i []) [120]).1 6).toNat)))) (fun j => (min (timesW (((Lib.split s [32]).drop 2).getD i [])) (32 - ((guessR (((Lib.split s [32]).drop 2).take i)).length : Int))).toNat - j) 0 (.cons rfl (.cons rfl (.cons rfl (.cons rfl (.cons rfl (.cons rfl (.cons rfl (.cons rfl (.cons rfl .nil))))))))) ⟨((((Fr.refl [g5] _).step q7 (by first | (simp; done) | (simp; omega))).next q8).next q10), ⟨Nat.zero_le _, ⟨_, _, by simpa using hb5, by simpa using ho⟩⟩⟩ ?_
       rintro j w11 ⟨q11, ⟨hj, ⟨A, c, hb5, ho⟩⟩⟩
       have z11 := q11.size
       have lt_hb5 := hb5.lt
       refine kpC [(0, _), (2, _), (5, _), (8, _), (25, _), (26, _), (27, _), (45, _), (46, _)] (.cons rfl (.cons rfl (.cons rfl (.cons rfl (.cons rfl (.cons rfl (.cons rfl (.cons rfl (.cons rfl .nil))))))))) ?_
       refine sr (lt' rfl rfl rfl (nn (sq ?_)))
       refine cd rfl (fun c3 => ?_) (fun c3 => ?_)
       · refine sk (tn (sq (bl ?_)))
         replace hG := hG0.ext (((((q1.next q2).next q4).next q5).step q6 (by first | (simp; done) | (simp; omega))).step q11 (by first | (simp; done) | (simp; omega)))
         intro a h
         refine region_heldP (some 8) (fun wb w' => Fr (blks (.slice A ((guessR (((Lib.split s [32]).drop 2).take i)) ++ List.replicate j (UInt8.ofNat (numM (Lib.cut (((Lib.split s [32]).drop 2).getD i []) [120]).1 6).toNat)).length c)) wb w') hmix ?_; intro w12 hq
         have z12 := hq.size
         replace hG := hG.ext hq
         replace hb5 := hb5.ext hq
         replace ho := ho.ext hq
         have q12 := hq
         clear hq; have hC : Fr (blks (.slice A ((guessR (((Lib.split s [32]).drop 2).take i)) ++ List.replicate j (UInt8.ofNat (numM (Lib.cut (((Lib.split s [32]).drop 2).getD i []) [120]).1 6).toNat)).length c)) w12 w12 := Fr.refl _ _
         have hG_b := hG
         have hb5_b := hb5
         have ho_b := ho
         refine hd_fieldAddr 0 (by kernel_rfl) (by kernel_rfl) (by kernel_rfl) hC h wn rfl fa26_1 rfl rfl ?_; clear h a; intro a h
         refine hd_loadB 1 (by kernel_rfl) (by kernel_rfl) (by kernel_rfl) hC h wn rfl (fun _ hw => hb5_b.fr hw (fun k_ => Own.neB ho_b hb5_b (by decide) k_)) rfl na22 rfl rfl ?_; clear h a; intro a h
         refine hd_move 2 (by kernel_rfl) (by kernel_rfl) (by kernel_rfl) hC h wn rfl rfl rfl ?_; clear h a; intro a h
         refine hd_one 3 (by kernel_rfl) rfl ?_
         refine st_call h (evs_cons rfl (evs_cons rfl evs_nil)) co28 (number_ok _ _ _ hG (by omega)) rfl ?_; clear h a; rintro _ w13 ⟨rfl, hq⟩ a h
         have z13 := hq.size
         replace hG := hG.ext hq
         replace hb5 := hb5.ext hq
         replace ho := ho.ext hq
         replace hC := hC.next hq
         have q13 := hq
         clear hq
         refine hd_next hC ?_
         refine hd_conv 4 (by kernel_rfl) (by kernel_rfl) (by kernel_rfl) hC h wn rfl (by rw [Tryd.underlying3]; rfl) Tryd.underlying5 (by first | exact IntWalk.u8_in _ (by omega) | rfl) rfl rfl ?_; clear h a; intro a h
         refine hd_one 5 (by kernel_rfl) rfl ?_
         refine st_bslice ([(UInt8.ofNat (numM (Lib.cut (((Lib.split s [32]).drop 2).getD i []) [120]).1 6).toNat)]) h (evs_cons rfl evs_nil) rfl (bytc (by omega)) rfl el22 (Nat.le_of_ble_eq_true rfl) rfl ?_; clear h a; intro g_53 w14 hg ho53 hq hz a h
         have hn__53 : g5 < g_53 := by have := hb5.lt; omega
         have z14 := hq.size
         replace hG := hG.ext hq
         replace hb5 := hb5.ext hq
         replace ho := ho.ext hq
         replace hC := hC.next hq
         have q14 := hq
         clear hq
         refine hd_next hC ?_
         refine hd_one 6 (by kernel_rfl) rfl ?_
         have hoo54 := ho
         refine st_append h rfl rfl ho ho53.sl el22 (by unfold maxLen; simp only [List.length_cons, List.length_nil, List.length_append, List.length_replicate]; omega) (by simp only [List.length_cons, List.length_nil, List.length_append, List.length_replicate]; omega) (by omega) rfl ?_; clear h a; intro v54 w15 ho hq hor54 a h
         rw [rep_snoc] at ho
         obtain ⟨A5, c5, rfl, hcA⟩ := ho.sl.form
         have z15 := hq.size
         replace hb5 := hb5.fr hq (fun hk => hoo54.neB hb5 (by decide) hk)
         replace hC := hC.step hq (fun k_ h_ _ => h_)
         have q15 := hq
         clear hq
         refine hd_next hC ?_
         refine hd_fieldAddr 7 (by kernel_rfl) (by kernel_rfl) (by kernel_rfl) hC h wn rfl fa26_1 rfl rfl ?_; clear h a; intro a h
         refine hd_one 8 (by kernel_rfl) rfl ?_
         refine st_storeB h rfl rfl hb5 rfl rfl rfl sz22 ?_; clear h a; intro w16 hbn hq hz a h
         have z16 := hq.size
         replace ho := ho.fr hq (by intro k hk hb; simp at hk; subst hk; have := (ho.blk _ hb).1; omega)
         have q16 := hq
         clear hb5 hq hz; have hb5 : Blk w16 g5 _ [_, _] := hbn; clear hbn
         refine hd_past (by kernel_rfl) ?_
         refine hd_end (by kernel_rfl) ?_
         clear hC hG_b hb5_b ho_b
         refine bk (h.sub (L' := [(0, _), (2, _), (5, _), (8, _), (25, _), (26, _), (27, _), (45, _), (46, _)]) (.cons rfl (.cons rfl (.cons rfl (.cons rfl (.cons rfl (.cons rfl (.cons rfl (.cons rfl (.cons rfl .nil)))))))))) ?_; clear h a
         refine bn' (tn (rg (s_add rfl rfl (wi6 (by omega)) rfl (mv rfl rfl (nl ?_)))))
         exact lpE (j + 1) (.cons rfl (.cons rfl (.cons rfl (.cons rfl (.cons rfl (.cons rfl (.cons rfl (.cons rfl (.cons rfl .nil))))))))) ⟨(((((((Fr.refl [g5] _).step q11 (by first | (simp; done) | (simp; omega))).next q12).next q13).next q14).step q15 (fun k hk hlt => absurd (hoo54.blk k hk).1 (by omega))).step q16 (by first | (simp; done) | (simp; omega))), ⟨by omega, ⟨A5, c5, hb5, ho⟩⟩⟩ (by omega)
       · obtain rfl : j = (min (timesW (((Lib.split s [32]).drop 2).getD i [])) (32 - ((guessR (((Lib.split s [32]).drop 2).take i)).length : Int))).toNat := by omega
         have hge := guess_take ((Lib.split s [32]).drop 2) i (by omega)
         unfold addW at hge
         rw [← hge] at hb5 ho
         refine ex (te (te (xh (bn' (tn (rg (s_add rfl rfl (wi6 (by omega)) rfl (mv rfl rfl (nl ?_)))))))))
         exact lpE (i + 1) (.cons rfl (.cons rfl (.cons rfl (.cons rfl (.cons rfl (.cons rfl .nil)))))) ⟨((Fr.refl [g5] _).step q11 (by first | (simp; done) | (simp; omega))), ⟨by omega, ⟨_, _, hb5, ho⟩⟩⟩ (by omega)
   · obtain rfl : i = ((Lib.split s [32]).drop 2).length := by omega
     rw [List.take_length] at hb5 ho
     have hcA : (guessR ((Lib.split s [32]).drop 2)).length ≤ c := by obtain ⟨A_, c_, e_, h_⟩ := ho.sl.form; simp only [Value.slice.injEq] at e_; omega
     refine ex (te (te (xh (tn (sq (sr (s_loadBA rfl hb5 ag26 rfl ?_)))))))
     refine cl (ev1 rfl) co13 (text_ok _ _ (guessR ((Lib.split s [32]).drop 2)) _ ho.sl) rfl ?_
     rintro _ w17 ⟨rfl, q17⟩
     have z17 := q17.size
     refine asg rfl rfl (kpL [(0, _), (2, _), (5, _), (12, _)] (.cons rfl (.cons rfl (.cons rfl (.cons rfl .nil)))) (nn (sq ?_)))
     refine rbo (r := 66) (L' := [(2, _), (5, _)]) ((((if tubE (numM ((Lib.split s [32]).getD 1 []) 16) (guessR ((Lib.split s [32]).drop 2)) = 0 then textT (numM ((Lib.split s [32]).getD 1 []) 16) (guessR ((Lib.split s [32]).drop 2)) else []) = []) ∨ ((if tubE (numM ((Lib.split s [32]).getD 1 []) 16) (guessR ((Lib.split s [32]).drop 2)) = 0 then textT (numM ((Lib.split s [32]).getD 1 []) 16) (guessR ((Lib.split s [32]).drop 2)) else []) ≠ s))) (.cons rfl (.cons rfl .nil)) ?_ ?_
     · refine mv rfl rfl (s_eqs rfl rfl rfl (mv rfl rfl ?_))
       refine gs 62 rfl (fun g0 => ?_) (fun g0 => ?_)
       · exact gN rfl rfl rfl (gN rfl rfl rfl (gN rfl rfl rfl (pkt rfl rfl rfl rfl (rbe rfl (by first | exact bt (by omega) | exact bf (by omega) | exact bi (by omega) | exact bn (by omega) | (simp_all; done) | (simp_all; omega)) (.cons rfl (.cons rfl .nil))))))
       · exact gY rfl (mv rfl rfl (gY rfl (mv rfl rfl (gY rfl (s_nes rfl rfl rfl (pkf rfl rfl rfl rfl (rbe rfl (by first | exact bt (by omega) | exact bf (by omega) | exact bi (by omega) | exact bn (by omega) | (simp_all; done) | (simp_all; omega)) (.cons rfl (.cons rfl .nil)))))))))
     · refine tn ?_
       refine cd rfl (fun c4 => ?_) (fun c4 => ?_)
       · refine sr (s_lit (cs := [_, _]) evs_nil bo26 pok_nil rfl rfl ?_)
         replace hb2 := hb20.fr (((Fr.refl [g5] _).step q7 (by first | (simp; done) | (simp; omega))).next q17) (by simp; omega)
         refine s_storeBA (vs := [_, _]) rfl rfl hb2 (by rfl) (by first | (simp [Value.oneCell', S]; done) | exact Enc.one _ _) sz26 (fun w18 hb2 q18 z18 => ?_)
         refine asg rfl rfl (nn (rt (tr (rCT Tryd.results15 rfl hb2 ag26 rfl ?_))))
         exact ⟨_, rfl, 0, none, [], 4, rfl, Sl.nil _, .inr ⟨rfl, rfl, rfl, by unfold parS; rw [if_neg (by omega), if_neg (tx_none (textT_ne _ _) c4)]⟩, (((((((q1.next q2).next q4).next q5).step q6 (by first | (simp; done) | (simp; omega))).step q7 (by first | (simp; done) | (simp; omega))).next q17).step q18 (by first | (simp; done) | (simp; omega)))⟩
       · refine sk (tn (sr (fad rfl fa26_1 rfl ?_)))
         replace hb5 := hb5.ext q17
         refine s_loadB rfl hb5 rfl na22 rfl ?_
         refine cl (ev1 rfl) co30 (clipb_ok _ _ _ _ hcA) rfl ?_
         rintro _ _ ⟨rfl, rfl⟩
         refine fad rfl fa26_1 rfl (s_storeB rfl rfl hb5 rfl rfl rfl sz22 (fun w19 hb5 q19 z19 => ?_))
         replace hb5 : Blk w19 g5 _ [_, _] := hb5
         refine nn (sr (s_loadBA rfl hb5 ag26 rfl ?_))
         replace hb2 := hb20.fr ((((Fr.refl [g5] _).step q7 (by first | (simp; done) | (simp; omega))).next q17).step q19 (by first | (simp; done) | (simp; omega))) (by simp; omega)
         refine s_storeBA (vs := [_, _]) rfl rfl hb2 (by rfl) (by first | (simp [Value.oneCell', S]; done) | exact Enc.one _ _) sz26 (fun w20 hb2 q20 z20 => ?_)
         refine asg rfl rfl (nn (rt (rCT Tryd.results15 rfl hb2 ag26 rfl ?_)))
         replace ho := ((ho.ext q17).fr q19 (by intro k hk hb; simp at hk; subst hk; have := (ho.blk _ hb).1; omega)).fr q20 (by intro k hk hb; simp at hk; subst hk; have := (ho.blk _ hb).1; omega)
         have hoc := ho.take rfl (Nat.le_refl _) (c' := (guessR ((Lib.split s [32]).drop 2)).length) hcA (Nat.le_refl _)
         rw [List.take_length] at hoc
         exact ⟨_, rfl, (numM ((Lib.split s [32]).getD 1 []) 16), _, (guessR ((Lib.split s [32]).drop 2)), 0, rfl, hoc.sl, .inl ⟨rfl, by unfold parS; rw [if_neg (by omega), if_pos (tx_some c4)]⟩, ((((((((q1.next q2).next q4).next q5).step q6 (by first | (simp; done) | (simp; omega))).step q7 (by first | (simp; done) | (simp; omega))).next q17).step q19 (by first | (simp; done) | (simp; omega))).step q20 (by first | (simp; done) | (simp; omega)))⟩
end Go.Proofs.YtgdlgjkjpbbniaaDoor
namespace Go.Proofs.YtgdlgjkjpbbniaaDoor
open Go.Lw Go.G21
theorem fa24_0 : FieldAt Tryd.prog 24 0 0 := fun _ _ => by kernel_rfl
theorem fa24_1 : FieldAt Tryd.prog 24 1 1 := fun _ _ => by kernel_rfl
def uE (xs : List UInt8) : List UInt8 := xs.map fun y => 1 + y % 3
def uR (xs : List UInt8) : List UInt8 := if uE (xs.take 8) = [] then [1] else uE (xs.take 8)
theorem uby (y : UInt8) : ((1 + y % 3 : UInt8).toNat : Int) = 1 + (y.toNat : Int) % 3 := by
  rw [UInt8.toNat_add, UInt8.toNat_mod]
  show (((1 + y.toNat % 3) % 256 : Nat) : Int) = _
  omega
theorem ubyc (y : UInt8) : [Value.int .u8 (1 + (y.toNat : Int) % 3)].map Value.cells = [1 + y % 3].map (fun y => (Enc.b.enc y).toArray) := by
  show [#[Value.int .u8 (1 + (y.toNat : Int) % 3)]] = [#[Value.int .u8 ((1 + y % 3 : UInt8).toNat : Int)]]
  rw [uby]
theorem uE_len (xs : List UInt8) : (uE xs).length = xs.length := by simp [uE]
theorem uE_snoc (xs : List UInt8) (i : Nat) (h : i < xs.length) : uE (xs.take i) ++ [1 + xs.getD i 0 % 3] = uE (xs.take (i + 1)) := by
  rw [List.take_add_one, List.getElem?_eq_getElem h, List.getD, List.getElem?_eq_getElem h]; unfold uE; rw [List.map_append]; rfl
theorem uR_ok {b : Int} (hb : 0 ≤ b ∧ b ≤ 255) (xs : List UInt8) : tubE (1 + b % 8) (uR xs) = 0 := by
  have hm : ∀ y ∈ uE (xs.take 8), 1 ≤ y.toNat ∧ y.toNat ≤ 6 := fun y hy => by
    obtain ⟨z, _, rfl⟩ := List.mem_map.1 hy
    have := uby z
    omega
  have hl : (uE (xs.take 8)).length ≤ 8 := by rw [uE_len, List.length_take]; omega
  have key : ∀ l : List UInt8, 1 ≤ l.length → l.length ≤ 8 → (∀ y ∈ l, 1 ≤ y.toNat ∧ y.toNat ≤ 6) → tubE (1 + b % 8) l = 0 := fun l h1 h2 h3 => by
    unfold tubE
    rw [if_neg (by omega), if_neg (by omega), if_neg]
    intro e
    obtain ⟨y, hy, hd⟩ := List.any_eq_true.1 e
    have := h3 y hy
    have := of_decide_eq_true hd
    omega
  unfold uR
  split
  · exact key _ (by simp) (by simp) (by decide)
  · rename_i h
    exact key _ (by cases e : uE (xs.take 8) with | nil => exact absurd e h | cons _ _ => simp) hl hm
theorem uof_ok (b : Int) (v : Value) (xs : List UInt8) (w0 : World) (hb : 0 ≤ b ∧ b ≤ 255) (hs : Sl Enc.b w0 v xs) : Rets Tryd.prog 7 #[.agg #[.int .u8 b, v]] w0 fun r w' => ∃ A c, r = .agg #[.int .i64 (1 + b % 8), .slice A (uR xs).length c] ∧ Sl Enc.b w' (.slice A (uR xs).length c) (uR xs) ∧ Fr [] w0 w' := by
 obtain ⟨Ax, cx, rfl, hcx, hMx, hAx⟩ := id hs
 clear hAx
 unfold maxLen at hMx
 refine we [(0, .agg #[.int .u8 b, .slice Ax xs.length cx])] Tryd.func7 rfl Tryd.ntmps7 rfl (.cons rfl .nil) ?_
 have hs0 := hs
 refine sr (bx rfl rfl rfl (fun g1 w1 hg1 hb1 q1 z1 => ?_))
 refine al zv26 rfl rfl (fun g2 w2 hg2 hb2 q2 z2 => ?_)
 refine nn (sr (fad rfl fa24_0 rfl ?_))
 replace hb1 := hb1.ext q2
 refine s_loadB rfl hb1 rfl na5 rfl (s_rem rfl rfl (by omega) (by first | exact IntWalk.rem_in _ _ (by omega) | rfl) rfl (s_conv rfl (us Tryd.underlying5) Tryd.underlying3 (wi6 (by omega)) rfl (s_add rfl rfl (wi6 (by omega)) rfl (s_lit (cs := [_, _]) (ev1 rfl) bo26 (pok_cons rfl rfl rfl pok_nil) rfl rfl ?_))))
 refine al zv26 rfl rfl (fun g3 w3 hg3 hb3 q3 z3 => ?_)
 refine s_storeBA (vs := [_, _]) rfl rfl hb3 (by rfl) (by first | (simp [Value.oneCell', S]; done) | exact Enc.one _ _) sz26 (fun w4 hb3 q4 z4 => ?_)
 refine kpL [(1, _), (2, _), (3, _)] (.cons rfl (.cons rfl (.cons rfl .nil))) (nn (sq (sr (asg rfl rfl ?_))))
 replace hb1 := (hb1.ext q3).fr q4 (by first | (simp; done) | (simp; omega) | (simp [blks]; done) | (simp [blks]; omega))
 replace hb2 := (hb2.ext q3).fr q4 (by first | (simp; done) | (simp; omega) | (simp [blks]; done) | (simp [blks]; omega))
 have hb10 := hb1
 have hb20 := hb2
 refine nn (bl ?_)
 refine lpK (ι := Nat) [(1, _), (2, _), (3, _)] (fun i => [(4, .int .i64 (i : Int))]) (fun i w' => Fr [g3] w4 w' ∧ i ≤ (min xs.length 8) ∧ ∃ A c, Blk w' g3 26 [.int .i64 (1 + b % 8), .slice A (uE (xs.take i)).length c] ∧ Lw.Own Enc.b 5 (g3 + 1) w' (.slice A (uE (xs.take i)).length c) (uE (xs.take i))) (fun i => (min xs.length 8) - i) 0 (.cons rfl (.cons rfl (.cons rfl (.cons rfl .nil)))) ⟨(Fr.refl _ _), ⟨Nat.zero_le _, ⟨none, 0, hb3, Own.nil _⟩⟩⟩ ?_
 rintro i w5 ⟨q5, ⟨hi, ⟨A, c, hb3, ho⟩⟩⟩
 have z5 := q5.size
 have lt_hb3 := hb3.lt
 refine kpC [(1, _), (2, _), (3, _), (4, _)] (.cons rfl (.cons rfl (.cons rfl (.cons rfl .nil)))) ?_
 refine sq (sq ?_)
 refine rbo (r := 19) (L' := [(1, _), (2, _), (3, _), (4, _)]) ((((i : Int) < (xs.length : Int)) ∧ ((i : Int) < 8))) (.cons rfl (.cons rfl (.cons rfl (.cons rfl .nil)))) ?_ ?_
 · refine mv rfl rfl (fad rfl fa24_1 rfl ?_)
   replace hb1 := hb10.fr ((Fr.refl [g3] _).step q5 (by first | (simp; done) | (simp; omega))) (by simp; omega)
   refine s_loadB rfl hb1 rfl na22 rfl (lnS rfl Tryd.underlying22 rfl (lt' rfl rfl rfl (mv rfl rfl ?_)))
   refine gs 16 rfl (fun g0 => ?_) (fun g0 => ?_)
   · exact gY rfl (mv rfl rfl (gY rfl (lt' rfl rfl rfl (pkt rfl rfl rfl rfl (rbe rfl (by first | exact bt (by omega) | exact bf (by omega) | exact bi (by omega) | exact bn (by omega) | (simp_all; done) | (simp_all; omega)) (.cons rfl (.cons rfl (.cons rfl (.cons rfl .nil)))))))))
   · exact gN rfl rfl rfl (gN rfl rfl rfl (pkf rfl rfl rfl rfl (rbe rfl (by first | exact bt (by omega) | exact bf (by omega) | exact bi (by omega) | exact bn (by omega) | (simp_all; done) | (simp_all; omega)) (.cons rfl (.cons rfl (.cons rfl (.cons rfl .nil)))))))
 · refine tn ?_
   refine cd rfl (fun c0 => ?_) (fun c0 => ?_)
   · have hlt : i < xs.length := by omega
     have hsz : ∀ k ∈ blks (.slice Ax xs.length cx), k < w0.heap.size := hs0.blk (by intro e; rw [e] at hlt; exact absurd hlt (by simp))
     refine sk (tn (sq (bl ?_)))
     replace hs := hs0.ext ((((q1.next q2).next q3).step q4 (by first | (simp; done) | (simp; omega))).step q5 (by first | (simp; done) | (simp; omega)))
     replace hb1 := hb10.fr ((Fr.refl [g3] _).step q5 (by first | (simp; done) | (simp; omega))) (by simp; omega)
     intro a h
     refine region_heldP (some 12) (fun wb w' => Fr (blks (.slice A (uE (xs.take i)).length c)) wb w') hmix ?_; intro w6 hq
     have z6 := hq.size
     replace hs := hs.ext hq
     replace hb1 := hb1.ext hq
     replace hb3 := hb3.ext hq
     replace ho := ho.ext hq
     have q6 := hq
     clear hq; have hC : Fr (blks (.slice A (uE (xs.take i)).length c)) w6 w6 := Fr.refl _ _
     have hs_b := hs
     have hb1_b := hb1
     have hb3_b := hb3
     have ho_b := ho
     refine hd_fieldAddr 0 (by kernel_rfl) (by kernel_rfl) (by kernel_rfl) hC h wn rfl fa26_1 rfl rfl ?_; clear h a; intro a h
     refine hd_loadB 1 (by kernel_rfl) (by kernel_rfl) (by kernel_rfl) hC h wn rfl (fun _ hw => hb3_b.fr hw (fun k_ => Own.neB ho_b hb3_b (by decide) k_)) rfl na22 rfl rfl ?_; clear h a; intro a h
     refine hd_fieldAddr 2 (by kernel_rfl) (by kernel_rfl) (by kernel_rfl) hC h wn rfl fa24_1 rfl rfl ?_; clear h a; intro a h
     refine hd_loadB 3 (by kernel_rfl) (by kernel_rfl) (by kernel_rfl) hC h wn rfl (fun _ hw => hb1_b.fr hw (fun k_ => Own.neB ho_b hb1_b (by decide) k_)) rfl na22 rfl rfl ?_; clear h a; intro a h
     refine hd_move 4 (by kernel_rfl) (by kernel_rfl) (by kernel_rfl) hC h wn rfl rfl rfl ?_; clear h a; intro a h
     refine hd_idxL (p := i) ((0 : UInt8)) 5 (by kernel_rfl) (by kernel_rfl) (by kernel_rfl) hC h wn rfl hs rfl el22 (by omega) (by omega) (by omega) rfl rfl ?_; clear h a; intro ad27 hc27 a h
     refine hd_loadC0 6 (by kernel_rfl) (by kernel_rfl) (by kernel_rfl) hC h wn rfl (fun _ hw => hc27 _ (hs_b.fr hw (fun k hk hb => by have := (ho_b.blk _ hk).1; have := hsz k hb; omega))) na5 rfl rfl ?_; clear h a; intro a h
     refine hd_rem 7 (by kernel_rfl) (by kernel_rfl) (by kernel_rfl) hC h wn rfl rfl (by omega) (by first | exact IntWalk.rem_in _ _ (by omega) | rfl) rfl rfl ?_; clear h a; intro a h
     refine hd_add 8 (by kernel_rfl) (by kernel_rfl) (by kernel_rfl) hC h wn rfl rfl (by first | exact IntWalk.u8_in _ (by omega) | rfl) rfl rfl ?_; clear h a; intro a h
     refine hd_one 9 (by kernel_rfl) rfl ?_
     refine st_bslice ([1 + xs.getD i 0 % 3]) h (evs_cons rfl evs_nil) rfl (ubyc _) rfl el22 (Nat.le_of_ble_eq_true rfl) rfl ?_; clear h a; intro g_31 w7 hg ho31 hq hz a h
     have hn__31 : g3 < g_31 := by have := hb3.lt; omega
     have z7 := hq.size
     replace hs := hs.ext hq
     replace hb1 := hb1.ext hq
     replace hb3 := hb3.ext hq
     replace ho := ho.ext hq
     replace hC := hC.next hq
     have q7 := hq
     clear hq
     refine hd_next hC ?_
     refine hd_one 10 (by kernel_rfl) rfl ?_
     have hoo32 := ho
     refine st_append h rfl rfl ho ho31.sl el22 (by unfold maxLen; simp only [List.length_cons, List.length_nil, uE_len, List.length_take]; omega) (by simp only [List.length_cons, List.length_nil, uE_len, List.length_take]; omega) (by omega) rfl ?_; clear h a; intro v32 w8 ho hq hor32 a h
     rw [uE_snoc xs i (by omega)] at ho
     obtain ⟨A5, c5, rfl, hcA⟩ := ho.sl.form
     have z8 := hq.size
     replace hb3 := hb3.fr hq (fun hk => hoo32.neB hb3 (by decide) hk)
     replace hC := hC.step hq (fun k_ h_ _ => h_)
     have q8 := hq
     clear hq
     refine hd_next hC ?_
     refine hd_fieldAddr 11 (by kernel_rfl) (by kernel_rfl) (by kernel_rfl) hC h wn rfl fa26_1 rfl rfl ?_; clear h a; intro a h
     refine hd_one 12 (by kernel_rfl) rfl ?_
     refine st_storeB h rfl rfl hb3 rfl rfl rfl sz22 ?_; clear h a; intro w9 hbn hq hz a h
     have z9 := hq.size
     replace ho := ho.fr hq (by intro k hk hb; simp at hk; subst hk; have := (ho.blk _ hb).1; omega)
     have q9 := hq
     clear hb3 hq hz; have hb3 : Blk w9 g3 _ [_, _] := hbn; clear hbn
     refine hd_past (by kernel_rfl) ?_
     refine hd_end (by kernel_rfl) ?_
     clear hC hs_b hb1_b hb3_b ho_b
     refine bk (h.sub (L' := [(1, _), (2, _), (3, _), (4, _)]) (.cons rfl (.cons rfl (.cons rfl (.cons rfl .nil))))) ?_; clear h a
     refine bn' (tn (rg (mv rfl rfl (s_add rfl rfl (wi6 (by omega)) rfl (asg rfl rfl (nl ?_))))))
     exact lpE (i + 1) (.cons rfl (.cons rfl (.cons rfl (.cons rfl .nil)))) ⟨((((((Fr.refl [g3] _).step q5 (by first | (simp; done) | (simp; omega))).next q6).next q7).step q8 (fun k hk hlt => absurd (hoo32.blk k hk).1 (by omega))).step q9 (by first | (simp; done) | (simp; omega))), ⟨by omega, ⟨A5, c5, hb3, ho⟩⟩⟩ (by omega)
   · have hti : xs.take i = xs.take 8 := by
       by_cases h : xs.length ≤ 8
       · rw [List.take_of_length_le (by omega), List.take_of_length_le h]
       · rw [show i = 8 by omega]
     refine ex (te (te (xh (tn (sq (sr (fad rfl fa26_1 rfl (s_loadB rfl hb3 rfl na22 rfl (lnS rfl Tryd.underlying22 rfl (eq' rfl rfl rfl (kpL [(2, _), (3, _), (37, _)] (.cons rfl (.cons rfl (.cons rfl .nil))) ?_)))))))))))
     refine nn ?_
     refine cd rfl (fun c1 => ?_) (fun c1 => ?_)
     · have hu : uE (xs.take 8) = [] := by
         rw [← hti]; exact List.length_eq_zero_iff.1 (by omega)
       refine rg (s_bslice ([(1 : UInt8)]) (ev1 rfl) rfl rfl rfl el22 (Nat.le_of_ble_eq_true rfl) rfl (fun g38 w10 hg38 ho38 q10 z10 => ?_))
       refine fad rfl fa26_1 rfl ?_
       replace hb3 := hb3.ext q10
       refine s_storeB rfl rfl hb3 rfl rfl rfl sz22 (fun w11 hb3 q11 z11 => ?_)
       replace hb3 : Blk w11 g3 _ [_, _] := hb3
       refine nl (tn (sr (s_loadBA rfl hb3 ag26 rfl ?_)))
       replace hb2 := hb20.fr ((((Fr.refl [g3] _).step q5 (by first | (simp; done) | (simp; omega))).next q10).step q11 (by first | (simp; done) | (simp; omega))) (by simp; omega)
       refine s_storeBA (vs := [_, _]) rfl rfl hb2 (by rfl) (by first | (simp [Value.oneCell', S]; done) | exact Enc.one _ _) sz26 (fun w12 hb2 q12 z12 => ?_)
       refine nn (rt (rC Tryd.results7 rfl hb2 ag26  ?_))
       replace ho38 := (ho38.fr q11 (by first | (simp; done) | (simp; omega) | (simp [blks]; done) | (simp [blks]; omega) | (intro k hk hb; simp at hk; subst hk; have := ho38.blk _ hb; omega))).fr q12 (by first | (simp; done) | (simp; omega) | (simp [blks]; done) | (simp [blks]; omega) | (intro k hk hb; simp at hk; subst hk; have := ho38.blk _ hb; omega))
       exact ⟨_, rfl, _, _, congrArg (fun l : List UInt8 => Value.agg #[.int .i64 (1 + b % 8), .slice (some ⟨g38, 0, none⟩) l.length 1]) (show ([1] : List UInt8) = uR xs by rw [uR, if_pos hu]), (by rw [uR, if_pos hu]; exact ho38.sl), (((((((q1.next q2).next q3).step q4 (by first | (simp; done) | (simp; omega))).step q5 (by first | (simp; done) | (simp; omega))).next q10).step q11 (by first | (simp; done) | (simp; omega))).step q12 (by first | (simp; done) | (simp; omega)))⟩
     · have hu : ¬ uE (xs.take 8) = [] := fun e => c1 (by rw [hti, e]; rfl)
       refine sk (tn (sr (s_loadBA rfl hb3 ag26 rfl ?_)))
       replace hb2 := hb20.fr ((Fr.refl [g3] _).step q5 (by first | (simp; done) | (simp; omega))) (by simp; omega)
       refine s_storeBA (vs := [_, _]) rfl rfl hb2 (by rfl) (by first | (simp [Value.oneCell', S]; done) | exact Enc.one _ _) sz26 (fun w13 hb2 q13 z13 => ?_)
       refine nn (rt (rC Tryd.results7 rfl hb2 ag26  ?_))
       replace ho := ho.fr q13 (by intro k hk hb; simp at hk; subst hk; have := (ho.blk _ hb).1; omega)
       exact ⟨_, rfl, A, c, by rw [uR, if_neg hu, ← hti], (by rw [uR, if_neg hu, ← hti]; exact ho.sl), (((((q1.next q2).next q3).step q4 (by first | (simp; done) | (simp; omega))).step q5 (by first | (simp; done) | (simp; omega))).step q13 (by first | (simp; done) | (simp; omega)))⟩
end Go.Proofs.YtgdlgjkjpbbniaaDoor
namespace Go.Lw
/-- For whom an operation waits. -/
def bnds (ops : Array Oper) (i : Nat) : List Nat := match ops[i]? with
  | some o => (o.after.toList.filter (Region.binds .any)).map (·.on)
  | none => []
def combB (ops : Array Oper) (m : Nat) : Bool :=
  Nat.beq ops.size (m + 1) && (List.range (m + 1)).all (fun i => (bnds ops i).all (fun j => Nat.blt j i)) && (List.range m).all (fun j => (bnds ops m).contains j)
/-- How many have not come up. -/
def cntU (listed : Array Bool) : Nat → Nat
  | 0 => 0
  | k + 1 => cntU listed k + (if listed.getD k true = false then 1 else 0)
theorem getD_set {listed : Array Bool} {i j : Nat} (hi : i < listed.size) : (listed.setIfInBounds i true).getD j true = if j = i then true else listed.getD j true := by
  simp only [Array.getD_eq_getD_getElem?, Array.getElem?_setIfInBounds]
  by_cases e : i = j
  · subst e; simp [hi]
  · rw [if_neg e, if_neg (Ne.symm e)]
theorem cntU_set {listed : Array Bool} {i : Nat} (hi : i < listed.size) (h : listed.getD i true = false) : ∀ k, cntU (listed.setIfInBounds i true) k + (if i < k then 1 else 0) = cntU listed k
  | 0 => by simp [cntU]
  | k + 1 => by
    have ih := cntU_set hi h k
    simp only [cntU, getD_set hi]
    by_cases e : k = i
    · subst e
      rw [if_neg (by omega)] at ih
      rw [if_pos rfl, if_neg (by decide), if_pos h, if_pos (by omega)]; omega
    · rw [if_neg e]
      by_cases e2 : i < k
      · rw [if_pos e2] at ih
        have e3 : (if i < k + 1 then 1 else 0 : Nat) = 1 := if_pos (by omega)
        rw [e3]; omega
      · rw [if_neg e2] at ih
        have e3 : (if i < k + 1 then 1 else 0 : Nat) = 0 := if_neg (by omega)
        rw [e3]; omega
theorem cntU_pos {listed : Array Bool} : ∀ {k i : Nat}, i < k → listed.getD i true = false → 0 < cntU listed k
  | k + 1, i, hi, h => by
    simp only [cntU]
    by_cases e : i = k
    · subst e; rw [if_pos h]; omega
    · have := cntU_pos (k := k) (i := i) (by omega) h; omega
theorem ready_mem {ops : Array Oper} {listed : Array Bool} {i : Nat} (hi : i ∈ Region.ready .any ops listed) : i < ops.size ∧ listed.getD i true = false ∧ ∀ j ∈ bnds ops i, listed.getD j false = true := by
  unfold Region.ready at hi
  rw [List.mem_filter, List.mem_range] at hi
  obtain ⟨h1, h2⟩ := hi
  rw [Bool.and_eq_true] at h2
  refine ⟨h1, by simpa using h2.1, fun j hj => ?_⟩
  have h3 := h2.2
  unfold bnds at hj
  rw [Array.getElem?_eq_getElem h1] at h3 hj
  simp only [Option.map_some, Option.getD_some] at h3
  obtain ⟨e, he, rfl⟩ := List.mem_map.1 hj
  rw [List.mem_filter] at he
  have h4 := (Array.all_eq_true'.1 h3) e (by simpa using he.1)
  rw [he.2] at h4
  simpa using h4
theorem ready_of {ops : Array Oper} {listed : Array Bool} {i : Nat} (h1 : i < ops.size) (h2 : listed.getD i true = false) (h3 : ∀ j ∈ bnds ops i, listed.getD j false = true) : i ∈ Region.ready .any ops listed := by
  unfold Region.ready
  rw [List.mem_filter, List.mem_range]
  refine ⟨h1, ?_⟩
  rw [Bool.and_eq_true]
  refine ⟨by simpa using h2, ?_⟩
  unfold bnds at h3
  rw [Array.getElem?_eq_getElem h1] at h3 ⊢
  simp only [Option.map_some, Option.getD_some]
  refine Array.all_eq_true'.2 fun e he => ?_
  cases hb : Region.binds .any e
  · rfl
  · have := h3 e.on (List.mem_map.2 ⟨e, List.mem_filter.2 ⟨by simpa using he, hb⟩, rfl⟩)
    simpa using this
theorem hd_comeR {P : Program} {ops : Array Oper} {K R : Act → World → Prop} {i : Nat} {o : Oper} {a : Act} {w : World} (hix : ops[i]? = some o) (k : wpList P ops (NormEnd R) [o] a w) : wpOp P ops (NormEnd K) i R a w := by
  unfold wpOp
  rw [hix]
  unfold wpList at k
  simp only
  split
  · rename_i hw
    rw [if_pos hw] at k
    rcases k with k | ⟨_, _, _, k⟩
    · refine .inl (Oper.wp_mono (fun a w h => h) ?_)
      unfold Oper.wp at k ⊢
      generalize (execOp a.eval o).run P w = r at k ⊢
      cases r with
      | ok nx w' =>
        cases nx <;> simp only [Oper.upon] at k ⊢ <;> first
          | exact k
          | exact Calls.mono k (fun e w'' he => by cases e <;> first | exact he | exact he.elim | (obtain ⟨_, _, he⟩ := he; exact he.elim))
          | exact Rows.mono k (fun _ _ he => he)
      | halt x w' => cases x <;> simp only [Oper.upon] at k ⊢ <;> exact k.elim
    · exact k.elim
  · rename_i hw
    rw [if_neg hw] at k
    exact k
section
variable {P : Program} {ops : Array Oper} {K : Act → World → Prop} {m n : Nat} {ds : List Nat}
theorem getD_ft {listed : Array Bool} {j : Nat} (h : listed.getD j false = true) : listed.getD j true = true := by
  simp only [Array.getD_eq_getD_getElem?] at h ⊢
  cases e : listed[j]? with
  | none => rfl
  | some b => rw [e] at h; exact h
theorem getD_tf {listed : Array Bool} {j : Nat} (hj : j < listed.size) (h : listed.getD j true = true) : listed.getD j false = true := by
  simp only [Array.getD_eq_getD_getElem?, Array.getElem?_eq_getElem hj] at h ⊢; exact h
theorem comb (hB : combB ops m = true) (I : Act → World → Prop) (Po : Nat → Act → World → Prop)
    (hst : ∀ i, i < m → ∀ a w, I a w → (∀ j ∈ bnds ops i, Po j a w) → wpOp P ops (NormEnd K) i (fun a' w' => I a' w' ∧ Po i a' w' ∧ ∀ j, j < m → j ≠ i → Po j a w → Po j a' w') a w)
    (hlast : ∀ a w, I a w → (∀ j, j < m → Po j a w) → wpOp P ops (NormEnd K) m K a w) :
    ∀ (fu : Nat) (listed : Array Bool) (a : Act) (w : World), listed.size = m + 1 → cntU listed (m + 1) = fu → listed.getD m true = false → I a w → (∀ j, j < m → listed.getD j true = true → Po j a w) → wpAnyP none P ops (NormEnd K) (fun _ => True) fu listed a w := by
  unfold combB at hB
  simp only [Bool.and_eq_true, List.all_eq_true, List.mem_range] at hB
  obtain ⟨⟨hsz, hwf⟩, hal⟩ := hB
  replace hsz : ops.size = m + 1 := Nat.eq_of_beq_eq_true hsz
  replace hwf : ∀ i, i < m + 1 → ∀ j ∈ bnds ops i, j < i := fun i hi j hj => by simpa [Nat.blt_eq] using hwf i hi j hj
  replace hal : ∀ j, j < m → j ∈ bnds ops m := fun j hj => by simpa using hal j hj
  intro fu
  induction fu with
  | zero =>
    intro listed a w _ hc hm
    have := cntU_pos (listed := listed) (k := m + 1) (i := m) (by omega) hm
    omega
  | succ fu ih =>
    intro listed a w hls hc hm hI hPo
    refine ⟨fun hr => ?_, fun i hi => ?_⟩
    · exfalso
      have key : ∀ d i, m - i = d → i ≤ m → listed.getD i true = false → (∀ j, j < i → listed.getD j true = true) → False := fun d i _ hi h1 h2 => by
        have := ready_of (ops := ops) (listed := listed) (i := i) (by omega) h1 (fun j hj => getD_tf (by have := hwf i (by omega) j hj; omega) (h2 j (hwf i (by omega) j hj)))
        rw [hr] at this; cases this
      have least : ∀ k, k ≤ m → (∀ j, j < k → listed.getD j true = true) ∨ ∃ i, i < k ∧ listed.getD i true = false ∧ ∀ j, j < i → listed.getD j true = true := by
        intro k
        induction k with
        | zero => exact fun _ => .inl fun j hj => by omega
        | succ k ihk =>
          intro hk
          rcases ihk (by omega) with h | ⟨i, h1, h2, h3⟩
          · cases e : listed.getD k true
            · exact .inr ⟨k, by omega, e, h⟩
            · exact .inl fun j hj => by
                by_cases e2 : j = k
                · subst e2; exact e
                · exact h j (by omega)
          · exact .inr ⟨i, by omega, h2, h3⟩
      rcases least m (Nat.le_refl _) with h | ⟨i, h1, h2, h3⟩
      · exact key _ m rfl (Nat.le_refl _) hm h
      · exact key _ i rfl (by omega) h2 h3
    · obtain ⟨h1, h2, h3⟩ := ready_mem hi
      have hcs := cntU_set (listed := listed) (i := i) (by omega) h2 (m + 1)
      rw [if_pos (by omega)] at hcs
      by_cases e : i = m
      · subst e
        refine wpOp_mono (fun a' w' hk => ⟨sat_of trivial, P_done ?_ hk _⟩) (hlast a w hI fun j hj => hPo j hj (getD_ft (h3 j (hal j hj))))
        cases hr : Region.ready .any ops (listed.setIfInBounds i true) with
        | nil => rfl
        | cons x r =>
          exfalso
          have hx : x ∈ Region.ready .any ops (listed.setIfInBounds i true) := by rw [hr]; exact List.mem_cons_self
          obtain ⟨g1, g2, _⟩ := ready_mem hx
          rw [getD_set (by omega)] at g2
          split at g2
          · cases g2
          · have := getD_ft (h3 x (hal x (by omega)))
            rw [this] at g2; cases g2
      · refine wpOp_mono (fun a' w' hk => ⟨sat_of trivial, ih _ a' w' (by simpa using hls) (by omega) ?_ hk.1 fun j hj hl => ?_⟩) (hst i (by omega) a w hI fun j hj => hPo j (by have := hwf i (by omega) j hj; omega) (getD_ft (h3 j hj)))
        · rw [getD_set (by omega), if_neg (Ne.symm e)]; exact hm
        · by_cases e2 : j = i
          · subst e2; exact hk.2.1
          · rw [getD_set (by omega), if_neg e2] at hl
            exact hk.2.2 j hj e2 (hPo j hj hl)
/-- What the slots hold, as a list behind others. -/
def rdS (a : Act) (dl : List Nat) : List (Nat × Value) := dl.map fun t => (t, a.tmps.getD t undef)
theorem look_app : ∀ (L L' : List (Nat × Value)) (t : Nat), look (L ++ L') t = (look L t).or (look L' t)
  | [], L', t => by simp [look]
  | (s, v) :: r, L', t => by
    simp only [List.cons_append, look]
    cases Nat.beq s t
    · exact look_app r L' t
    · rfl
theorem look_rd (a : Act) : ∀ (dl : List Nat) (t : Nat) (v : Value), look (rdS a dl) t = some v → a.tmps.getD t undef = v
  | [], _, _, h => by cases h
  | s :: r, t, v, h => by
    simp only [rdS, List.map_cons, look] at h
    cases e : Nat.beq s t
    · rw [e] at h; exact look_rd a r t v h
    · rw [e] at h
      have e2 := Nat.eq_of_beq_eq_true e
      subst e2; exact Option.some.inj h
theorem look_in (a : Act) : ∀ (dl : List Nat) (t : Nat), t ∈ dl → look (rdS a dl) t = some (a.tmps.getD t undef)
  | s :: r, t, h => by
    simp only [rdS, List.map_cons, look]
    cases e : Nat.beq s t
    · rcases List.mem_cons.1 h with h2 | h2
      · subst h2; rw [Nat.beq_refl] at e; cases e
      · exact look_in a r t h2
    · have e2 := Nat.eq_of_beq_eq_true e
      subst e2; rfl
variable {a : Act} {L Lc Lo : List (Nat × Value)} {w w' : World}
theorem AgM.full (hc : AgM ds a n Lc) (dl : List Nat) (ho : AgM ds a n Lo) : AgM ds a n (Lc ++ (rdS a dl ++ Lo)) :=
  ⟨hc.dfr, hc.size, fun t v hv => by
    rw [look_app] at hv
    cases e : look Lc t with
    | some u => rw [e, Option.some_or] at hv; cases hv; exact hc.at_ t _ e
    | none =>
      rw [e, Option.none_or, look_app] at hv
      cases e2 : look (rdS a dl) t with
      | some u => rw [e2, Option.some_or] at hv; cases hv; exact look_rd a dl t _ e2
      | none => rw [e2, Option.none_or] at hv; exact ho.at_ t v hv⟩
theorem AgM.eqc {t : Nat} {v : Value} (h : AgM ds a n L) (e : a.tmps.getD t undef = v) : AgM ds a n ((t, v) :: L) :=
  ⟨h.dfr, h.size, fun s u hs => by
    simp only [look] at hs
    cases e2 : Nat.beq t s
    · rw [e2] at hs; exact h.at_ s u hs
    · rw [e2] at hs
      have e3 := Nat.eq_of_beq_eq_true e2
      subst e3; cases hs; exact e⟩
/-- The operations of a region that only make new things: what each leaves. dl: the slot that each writes. -/
theorem comb_region {id : Nat} {Q : Exit → Act → World → Prop} {l : List Oper} {dl : List Nat} (hm : P.follows .mixedOrders = true) (hB : combB l.toArray m = true) (hdl : dl.length = m) (hnd : dl.Nodup) (hLo' : (dl.all fun d => (look Lo d).isNone) = true)
    (h : AgM ds a n Lo) (Ok : Nat → Value → World → Prop) (hmono : ∀ j v w w', Fr [] w w' → Ok j v w → Ok j v w')
    (hst : ∀ i, i < m → ∀ a w', AgM ds a n Lo → Fr [] w w' → (∀ j, (bnds l.toArray i).contains j = true → Ok j (a.tmps.getD (dl.getD j 0) undef) w') →
      ∃ o Lc, l[i]? = some o ∧ AgM ds a n Lc ∧ (AgM ds a n (Lc ++ (rdS a dl ++ Lo)) → wpList P l.toArray (NormEnd fun a' w2 => ∃ v, AgM ds a' n ((dl.getD i 0, v) :: (Lc ++ (rdS a dl ++ Lo))) ∧ Fr [] w' w2 ∧ Ok i v w2) [o] a w'))
    (hlast : ∀ a w', AgM ds a n Lo → Fr [] w w' → (∀ j, j < m → Ok j (a.tmps.getD (dl.getD j 0) undef) w') → ∃ o, l[m]? = some o ∧ wpList P l.toArray (NormEnd (Q .normal)) [o] a w') :
    (Code.region id l.toArray true).wp P Q a w := by
  have hLo : ∀ d ∈ dl, look Lo d = none := fun d hd => by simpa using List.all_eq_true.1 hLo' d hd
  have hsz : l.length = m + 1 := by
    unfold combB at hB
    simp only [Bool.and_eq_true] at hB
    have := Nat.eq_of_beq_eq_true hB.1.1
    simpa using this
  have hinj : ∀ i j, i < m → j < m → j ≠ i → dl.getD j 0 ≠ dl.getD i 0 := fun i j hi hj hne e => by
    rw [List.getD, List.getD, List.getElem?_eq_getElem (by omega), List.getElem?_eq_getElem (by omega)] at e
    have e1 : dl[j]? = dl[i]? := by rw [List.getElem?_eq_getElem (by omega), List.getElem?_eq_getElem (by omega)]; exact congrArg some e
    exact hne ((List.getElem?_inj (i := j) (by omega) hnd).1 e1)
  have hmem : ∀ i, i < m → dl.getD i 0 ∈ dl := fun i hi => by
    rw [List.getD, List.getElem?_eq_getElem (by omega)]; exact List.getElem_mem _
  refine region_held (fun _ _ => True) hm fun w1 hf1 => ?_
  rw [hsz]
  refine comb hB (fun a w' => AgM ds a n Lo ∧ Fr [] w w') (fun j a w' => Ok j (a.tmps.getD (dl.getD j 0) undef) w') (fun i hi a w' hI hb => ?_) (fun a w' hI hall => ?_) _ _ _ _ (by simp) ?_ ?_ ⟨h, hf1⟩ (fun j hj hl => ?_)
  · obtain ⟨o, Lc, ho, hc, hk⟩ := hst i hi a w' hI.1 hI.2 (fun j hj => hb j (by simpa using hj))
    refine wpOp_mono ?_ (hd_comeR (i := i) (by simpa using ho) (hk (hc.full dl hI.1)))
    rintro a' w2 ⟨v, hag, hfr, hok⟩
    refine ⟨⟨⟨hag.dfr, hag.size, fun t u hu => ?_⟩, hI.2.next hfr⟩, ?_, fun j hj hne hp => ?_⟩
    · by_cases e : t ∈ dl
      · rw [hLo t e] at hu; cases hu
      · have hne : dl.getD i 0 ≠ t := fun e2 => e (e2 ▸ hmem i hi)
        refine hag.at_ t u ?_
        simp only [look]
        rw [show Nat.beq (dl.getD i 0) t = false from by cases e2 : Nat.beq (dl.getD i 0) t; rfl; exact absurd (Nat.eq_of_beq_eq_true e2) hne]
        rw [Bool.cond_false, look_app]
        cases e3 : look Lc t with
        | some u2 => rw [Option.some_or]; rw [← hc.at_ t _ e3, hI.1.at_ t _ hu]
        | none =>
          rw [Option.none_or, look_app]
          cases e4 : look (rdS a dl) t with
          | some u2 => rw [Option.some_or]; rw [← look_rd a dl t _ e4, hI.1.at_ t _ hu]
          | none => rw [Option.none_or]; exact hu
    · have := hag.at_ (dl.getD i 0) v (by simp [look])
      rw [this]; exact hok
    · have hne2 := hinj i j hi hj hne
      have := hag.at_ (dl.getD j 0) (a.tmps.getD (dl.getD j 0) undef) (by
        simp only [look]
        rw [show Nat.beq (dl.getD i 0) (dl.getD j 0) = false from by cases e2 : Nat.beq (dl.getD i 0) (dl.getD j 0); rfl; exact absurd (Nat.eq_of_beq_eq_true e2).symm hne2]
        rw [Bool.cond_false, look_app]
        cases e3 : look Lc (dl.getD j 0) with
        | some u2 => rw [Option.some_or, hc.at_ _ _ e3]
        | none => rw [Option.none_or, look_app, look_in a dl _ (hmem j hj), Option.some_or])
      rw [this]; exact hmono j _ _ _ hfr hp
  · obtain ⟨o, ho, hk⟩ := hlast a w' hI.1 hI.2 hall
    exact hd_comeR (i := m) (by simpa using ho) hk
  · have key : ∀ k, k ≤ m + 1 → cntU (Array.replicate (m + 1) false) k = k := by
      intro k
      induction k with
      | zero => exact fun _ => rfl
      | succ k ih =>
        intro hk
        rw [cntU, ih (by omega), if_pos]
        simp [Array.getD_eq_getD_getElem?, show k < m + 1 by omega]
    exact key _ (Nat.le_refl _)
  · simp [Array.getD_eq_getD_getElem?]
  · simp [Array.getD_eq_getD_getElem?, show j < m + 1 by omega] at hl
theorem comb_done {R : Act → World → Prop} (h : R a w) : wpList P ops (NormEnd R) [] a w := h
/-- What an operation leaves: kept where new things are made. -/
structure Sp where
  p : Value → World → Prop
  m : ∀ v w w', Fr [] w w' → p v w → p v w'
def spC (u : Value) : Sp := ⟨fun v _ => v = u, fun _ _ _ _ h => h⟩
def spAt (l : List Sp) (j : Nat) : Value → World → Prop := (l.getD j ⟨fun _ _ => True, fun _ _ _ _ _ => trivial⟩).p
theorem spAt_m (l : List Sp) (j : Nat) (v : Value) (w w' : World) (hf : Fr [] w w') (h : spAt l j v w) : spAt l j v w' := (l.getD j ⟨fun _ _ => True, fun _ _ _ _ _ => trivial⟩).m v w w' hf h
/-- A slice of the call's own, from block b on. -/
def spO {α : Type} (E : Enc α) (T b : Nat) (l : List α) : Sp := ⟨fun v w => ∃ g, v = .slice (some ⟨g, 0, none⟩) l.length l.length ∧ Own E T b w (.slice (some ⟨g, 0, none⟩) l.length l.length) l, fun _ _ _ hf ⟨g, e, h⟩ => ⟨g, e, h.ext hf⟩⟩
end
end Go.Lw
namespace Go.Proofs.YtgdlgjkjpbbniaaDoor
open Go.Lw Go.G21

theorem lpo_ext {τ : TyK} {b : Nat} {w w' : World} {q : LpQ} (h : LpO τ b w q) (hf : Fr [] w w') : LpO τ b w' q := h.tf hf OffT.nil OffT.nil
def spL (b : Nat) (l : Lp) : Sp := ⟨fun v w => ∃ q : LpQ, v = .agg (lpL q).toArray ∧ LpO τd b w q ∧ q.p = l, fun _ _ _ hf ⟨q, e, h, k⟩ => ⟨q, e, lpo_ext h hf, k⟩⟩
def spR (b n : Nat) (l : List Lp) : Sp := ⟨fun v w => ∃ (g : Nat) (ls : List LpQ), v = .slice (some ⟨g, 0, none⟩) n n ∧ Lw.Own encLp 68 b w (.slice (some ⟨g, 0, none⟩) n n) ls ∧ (∀ q ∈ ls, LpO τd b w q) ∧ ls.map LpQ.p = l, fun _ _ _ hf ⟨g, ls, e, h, k, j⟩ => ⟨g, ls, e, h.ext hf, fun q hq => lpo_ext (k q hq) hf, j⟩⟩
def spF (b : Nat) (l : List LId) : Sp := ⟨fun v w => ∃ gt gf, v = .agg ([.slice (some ⟨gt, 0, none⟩) 6 6, .slice none 0 0, .slice none 0 0, .slice (some ⟨gf, 0, none⟩) l.length l.length] : List Value).toArray ∧ Lw.Own encTq 42 b w (.slice (some ⟨gt, 0, none⟩) 6 6) (List.replicate 6 tq0) ∧ Lw.Own encId 61 b w (.slice (some ⟨gf, 0, none⟩) l.length l.length) l, fun _ _ _ hf ⟨g, k, e, h, j⟩ => ⟨g, k, e, h.ext hf, j.ext hf⟩⟩
def spA (b : Nat) : Sp := ⟨fun v w => ∃ g, v = .pointer (some ⟨g, 0, none⟩) ∧ Blk w g 33 [.slice none 0 0, .slice none 0 0, .slice none 0 0, .slice none 0 0] ∧ b ≤ g, fun _ _ _ hf ⟨g, e, h, k⟩ => ⟨g, e, h.ext hf, k⟩⟩
theorem tab1 {w : World} {u : SV} {ls : List LpQ} (h1 : Sl encLp w (slv u) ls) (h2 : LpsAt w ls) : TabAt w ((List.replicate 6 tq0).set 0 (u, ls)) := fun p hp => by
  rcases List.mem_or_eq_of_mem_set hp with hp | rfl
  · obtain rfl := List.eq_of_mem_replicate hp
    exact ⟨Sl.nil _, fun q hq => by cases hq⟩
  · exact ⟨h1, h2⟩
abbrev lp_ (b : Int) (nw : Bool) (th : List LId) (pa : List Pa) : Lp := ⟨b, nw, th, pa⟩
def rowA : List Lp := [lp_ 0 true [] [], lp_ 1 false [] [⟨⟨1, 0⟩, false, 0⟩], lp_ 0 false [⟨1, 1⟩, ⟨1, 0⟩] []]
def rowB : List Lp := [lp_ 0 true [] [], lp_ 1 false [] [⟨⟨1, 0⟩, false, 0⟩], lp_ 0 false [⟨1, 0⟩] [⟨⟨1, 1⟩, true, 1⟩], lp_ 1 false [⟨1, 1⟩] [⟨⟨1, 2⟩, false, 0⟩], lp_ 0 false [⟨1, 3⟩, ⟨1, 2⟩] []]
theorem tubA : tubF 1 [1] = ⟨[rowA, [], [], [], [], []], [], [], [⟨1, 2⟩]⟩ := by decide +kernel
theorem tubB : tubF 1 [1, 1] = ⟨[rowB, [], [], [], [], []], [], [], [⟨1, 4⟩]⟩ := by decide +kernel
theorem cntC : cntZ (tubT 3 [1, 1, 2]) = [12, 9, 0, 0, 0, 0] := by decide +kernel
theorem txtC : (if tubE 3 [1, 1, 2] = 0 then textT 3 [1, 1, 2] else []) = [116, 117, 98, 101, 32, 51, 32, 49, 120, 50, 32, 50] := by decide +kernel
theorem parC : parS [116, 117, 98, 101, 32, 51, 32, 49, 120, 49, 32, 50] = none := by decide +kernel
end Go.Proofs.YtgdlgjkjpbbniaaDoor
namespace Go.Proofs.YtgdlgjkjpbbniaaDoor
open Go.Lw Go.G21
theorem co8 : CallOf Tryd.prog 8 := CallOf.mk' Tryd.func8 (by kernel_rfl) (by kernel_rfl)
theorem co10 : CallOf Tryd.prog 10 := CallOf.mk' Tryd.func10 (by kernel_rfl) (by kernel_rfl)
theorem co11 : CallOf Tryd.prog 11 := CallOf.mk' Tryd.func11 (by kernel_rfl) (by kernel_rfl)
theorem co15 : CallOf Tryd.prog 15 := CallOf.mk' Tryd.func15 (by kernel_rfl) (by kernel_rfl)
theorem co25 : CallOf Tryd.prog 25 := CallOf.mk' Tryd.func25 (by kernel_rfl) (by kernel_rfl)
theorem el38 : ElemOf Tryd.prog 38 3 Enc.i64 8 := ElemOf.mk' (z := (.int .i64 0)) Tryd.underlying38 (by kernel_rfl) rfl
set_option maxHeartbeats 4000000 in
set_option maxRecDepth 10000 in
theorem lives_ok (w0 : World) (hG : Glob w0) : Rets Tryd.prog 12 #[] w0 fun r w' => r = .bool true ∧ Fr [] w0 w' := by
 have hGs := hG.sz
 refine we [] Tryd.func12 rfl Tryd.ntmps12 rfl .nil ?_
 have hG0 := hG
 refine sr (asg rfl rfl (nn (sr (s_bslice ([(1 : UInt8)]) (ev1 rfl) rfl rfl rfl el22 (Nat.le_of_ble_eq_true rfl) rfl (fun g12 w1 hg12 ho12 q1 z1 => ?_)))))
 refine s_lit (cs := [_, _]) (ev2 rfl rfl) bo26 (pok_cons rfl rfl rfl (pok_cons rfl rfl rfl pok_nil)) rfl rfl ?_
 refine cl (ev1 rfl) co8 (of_ok 1 _ [1] _ ho12.sl (by decide)) rfl ?_
 rintro _ w2 ⟨f1, rfl, hk1, hp1, q2⟩
 have z2 := q2.size
 have hf1 := hk1.at
 have hf10 := hf1
 refine mv rfl rfl (xt rfl rfl rfl (xt rfl rfl rfl (al zv33 rfl rfl (fun g1 w3 hg1 hb1 q3 z3 => ?_))))
 refine s_storeBA (vs := [_, _, _, _]) rfl rfl hb1 (by rfl) (by first | (simp [Value.oneCell', S]; done) | exact Enc.one _ _) sz33 (fun w4 hb1 q4 z4 => ?_)
 refine asg rfl rfl (kpL [(1, _), (2, _)] (.cons rfl (.cons rfl .nil)) (nn (sq ?_)))
 replace hG := hG0.ext (((q1.next q2).next q3).step q4 (by first | (simp; done) | (simp; omega)))
 intro a h
 replace h := h.sub (L' := [(1, _), (2, _)]) (.cons rfl (.cons rfl .nil))
 refine comb_region (dl := [17, 18, 19, 20, 3]) (m := 5) hmix (by kernel_rfl) rfl (by decide) rfl h (spAt [spO encTq 42 w4.heap.size (List.replicate 6 tq0), spC (.agg #[.int .u8 1, .int .i64 2]), spO encId 61 w4.heap.size [(⟨1, 2⟩ : LId)], spF w4.heap.size [(⟨1, 2⟩ : LId)], spA w4.heap.size]) (spAt_m _) ?_ ?_
 · intro i hi a w5 h hf hb
   have hz := hf.size
   match i, hi, hb with
   | 0, _, hb =>
     refine ⟨_, _, rfl, h, fun h => ?_⟩
     refine st_makeSlice (m := 6) (c := 6) (tq0) h rfl rfl el29 zv42 rfl (Nat.le_refl _) (by decide) (by decide) rfl ?_
     intro g w2 hg ho hq hz' a' h'
     exact comb_done ⟨_, h', hq, g, rfl, ho.low (by omega)⟩
   | 1, _, hb =>
     refine ⟨_, _, rfl, h, fun h => ?_⟩
     refine st_call h (evs_cons rfl evs_nil) co25 (one_ok _ _) rfl ?_
     rintro _ w2 ⟨rfl, hq⟩ a' h'
     exact comb_done ⟨_, h', hq, rfl⟩
   | 2, _, hb =>
     have e18 : a.tmps.getD 18 undef = (.agg #[.int .u8 1, .int .i64 2]) := hb 1 (by kernel_rfl)
     refine ⟨_, _, rfl, (h.eqc e18), fun h => ?_⟩
     refine st_bslice ([(⟨1, 2⟩ : LId)]) h (evs_cons rfl evs_nil) rfl rfl rfl el31 (Nat.le_of_ble_eq_true rfl) rfl ?_
     intro g w2 hg ho hq hz' a' h'
     exact comb_done ⟨_, h', hq, g, rfl, ho.low (by omega)⟩
   | 3, _, hb =>
     obtain ⟨g17, e17, ho17⟩ : ∃ g, a.tmps.getD 17 undef = .slice (some ⟨g, 0, none⟩) 6 6 ∧ Lw.Own encTq 42 w4.heap.size w5 (.slice (some ⟨g, 0, none⟩) 6 6) (List.replicate 6 tq0) := hb 0 (by kernel_rfl)
     obtain ⟨g19, e19, ho19⟩ : ∃ g, a.tmps.getD 19 undef = .slice (some ⟨g, 0, none⟩) 1 1 ∧ Lw.Own encId 61 w4.heap.size w5 (.slice (some ⟨g, 0, none⟩) 1 1) [(⟨1, 2⟩ : LId)] := hb 2 (by kernel_rfl)
     refine ⟨_, _, rfl, ((h.eqc e17).eqc e19), fun h => ?_⟩
     refine st_lit (cs := [_, _, _, _]) h (evs_cons rfl (evs_cons rfl evs_nil)) bo33 (pok_cons rfl rfl rfl (pok_cons rfl rfl rfl pok_nil)) rfl rfl ?_
     intro a' h'
     exact comb_done ⟨_, h', Fr.refl _ _, g17, g19, rfl, ho17, ho19⟩
   | 4, _, hb =>
     refine ⟨_, _, rfl, h, fun h => ?_⟩
     refine st_alloc h zv33 rfl rfl ?_
     intro w2 hb_ hq hz' a' h'
     exact comb_done ⟨_, h', hq, _, rfl, hb_, by omega⟩
   | n + 5, hi, _ => exact absurd hi (by omega)
 · intro a w6 h hf hall
   have z6 := hf.size
   have q6 := hf
   refine ⟨_, rfl, ?_⟩
   obtain ⟨g3, e3, hb3, hg3⟩ : ∃ g, a.tmps.getD 3 undef = .pointer (some ⟨g, 0, none⟩) ∧ Blk w6 g 33 [.slice none 0 0, .slice none 0 0, .slice none 0 0, .slice none 0 0] ∧ w4.heap.size ≤ g := hall 4 (by omega)
   obtain ⟨gT, gF, e20, hoT, hoF⟩ : ∃ gt gf, a.tmps.getD 20 undef = .agg ([.slice (some ⟨gt, 0, none⟩) 6 6, .slice none 0 0, .slice none 0 0, .slice (some ⟨gf, 0, none⟩) 1 1] : List Value).toArray ∧ Lw.Own encTq 42 w4.heap.size w6 (.slice (some ⟨gt, 0, none⟩) 6 6) (List.replicate 6 tq0) ∧ Lw.Own encId 61 w4.heap.size w6 (.slice (some ⟨gf, 0, none⟩) 1 1) [(⟨1, 2⟩ : LId)] := hall 3 (by omega)
   replace h := (h.eqc e3).eqc e20
   clear hall e3 e20
   refine st_storeBA (vs := [_, _, _, _]) h rfl rfl hb3 (by rfl) (by first | (simp [Value.oneCell', S]; done) | exact Enc.one _ _) sz33 ?_; clear h a; intro w7 hbn q7 z7 a h
   have hgT := hoT.blk gT (by simp [blks])
   have hgF := hoF.blk gF (by simp [blks])
   replace hoT := hoT.fr q7 (fun k hk hb => by rw [List.mem_singleton] at hk; subst hk; exact Own.neB hoT hb3 (by decide) hb)
   replace hoF := hoF.fr q7 (fun k hk hb => by rw [List.mem_singleton] at hk; subst hk; exact Own.neB hoF hb3 (by decide) hb)
   have hgTF : gT ≠ gF := fun e => by subst e; exact Own.neB hoT (show Blk _ gT 61 _ from (own_blk hoF gT (by simp [blks])).choose_spec) (by decide) (by simp [blks])
   have hg3z := hb3.lt
   have hgT3 : gT ≠ g3 := fun e => by subst e; exact Own.neB hoT hbn (by decide) (by simp [blks])
   clear hb3
   have hb3 := hbn
   clear hbn
   refine comb_done ?_
   refine bk (h.sub (L' := [(1, _), (2, _), (3, _)]) (.cons rfl (.cons rfl (.cons rfl .nil)))) ?_; clear h a
   refine tn (sq ?_)
   replace hG := hG0.ext (((((q1.next q2).next q3).step q4 (by first | (simp; done) | (simp; omega))).next q6).step q7 (by first | (simp; done) | (simp; omega)))
   replace ho12 := (((ho12.ext (q2.next q3)).fr q4 (by first | (simp; done) | (simp; omega) | (simp [blks]; done) | (simp [blks]; omega) | (intro k hk hb; simp at hk; subst hk; have := ho12.blk _ hb; omega))).ext q6).fr q7 (by first | (simp; done) | (simp; omega) | (simp [blks]; done) | (simp [blks]; omega) | (intro k hk hb; simp at hk; subst hk; have := ho12.blk _ hb; omega))
   replace hf1 := hf10.ext (((q3.step q4 (by first | (simp; done) | (simp; omega))).next q6).step q7 (by first | (simp; done) | (simp; omega)))
   replace hb1 := (hb1.ext q6).fr q7 (by first | (simp; done) | (simp; omega) | (simp [blks]; done) | (simp [blks]; omega))
   intro a h
   replace h := h.sub (L' := [(1, _), (2, _), (3, _)]) (.cons rfl (.cons rfl (.cons rfl .nil)))
   refine comb_region (dl := [21, 22, 23, 24, 25, 26, 27, 28, 29, 30, 31, 32, 33]) (m := 13) hmix (by kernel_rfl) rfl (by decide) rfl h (spAt [spC (.pointer (some ((⟨g3, 0, none⟩ : Addr).add 0))), spC (.slice (some ⟨gT, 0, none⟩) 6 6), spL w7.heap.size (lp_ 0 true [] []), spC (.agg #[.int .u8 1, .int .i64 0]), spC (.agg #[.int .u8 1, .int .i64 0, .bool false, .int .u8 0]), spO encPa 71 w7.heap.size [(⟨(⟨1, 0⟩ : LId), false, 0⟩ : Pa)], spL w7.heap.size (lp_ 1 false [] [(⟨(⟨1, 0⟩ : LId), false, 0⟩ : Pa)]), spC (.agg #[.int .u8 1, .int .i64 1]), spC (.agg #[.int .u8 1, .int .i64 0]), spO encId 61 w7.heap.size [(⟨1, 1⟩ : LId), (⟨1, 0⟩ : LId)], spL w7.heap.size (lp_ 0 false [(⟨1, 1⟩ : LId), (⟨1, 0⟩ : LId)] []), spR w7.heap.size 3 [(lp_ 0 true [] []), (lp_ 1 false [] [(⟨(⟨1, 0⟩ : LId), false, 0⟩ : Pa)]), (lp_ 0 false [(⟨1, 1⟩ : LId), (⟨1, 0⟩ : LId)] [])], spC (.pointer (some ((⟨gT, 0, none⟩ : Addr).add (0 * encTq.sz))))]) (spAt_m _) ?_ ?_
   · intro i hi a w8 h hf hb
     have hz := hf.size
     match i, hi, hb with
     | 0, _, hb =>
       refine ⟨_, _, rfl, h, fun h => ?_⟩
       refine st_fieldAddr h rfl fa33_0 rfl ?_
       intro a' h'
       exact comb_done ⟨_, h', Fr.refl _ _, rfl⟩
     | 1, _, hb =>
       have e21 : a.tmps.getD 21 undef = (.pointer (some ((⟨g3, 0, none⟩ : Addr).add 0))) := hb 0 (by kernel_rfl)
       refine ⟨_, _, rfl, (h.eqc e21), fun h => ?_⟩
       refine st_loadB h rfl (hb3.ext hf) rfl na29 rfl ?_
       intro a' h'
       exact comb_done ⟨_, h', Fr.refl _ _, rfl⟩
     | 2, _, hb =>
       refine ⟨_, _, rfl, h, fun h => ?_⟩
       refine st_lit (cs := [_, _, _, _]) h (evs_cons rfl evs_nil) bo68 (pok_cons rfl rfl rfl pok_nil) rfl rfl ?_
       intro a' h'
       exact comb_done ⟨_, h', Fr.refl _ _, ⟨0, true, sv0, sv0, [], []⟩, rfl, ⟨Own.nil _, Own.nil _⟩, rfl⟩
     | 3, _, hb =>
       refine ⟨_, _, rfl, h, fun h => ?_⟩
       refine st_call h (evs_cons rfl evs_nil) co25 (one_ok _ _) rfl ?_
       rintro _ w2 ⟨rfl, hq⟩ a' h'
       exact comb_done ⟨_, h', hq, rfl⟩
     | 4, _, hb =>
       have e24 : a.tmps.getD 24 undef = (.agg #[.int .u8 1, .int .i64 0]) := hb 3 (by kernel_rfl)
       refine ⟨_, _, rfl, (h.eqc e24), fun h => ?_⟩
       refine st_lit (cs := [_, _, _, _]) h (evs_cons rfl evs_nil) bo71 (pok_cons rfl rfl rfl pok_nil) rfl rfl ?_
       intro a' h'
       exact comb_done ⟨_, h', Fr.refl _ _, rfl⟩
     | 5, _, hb =>
       have e25 : a.tmps.getD 25 undef = (.agg #[.int .u8 1, .int .i64 0, .bool false, .int .u8 0]) := hb 4 (by kernel_rfl)
       refine ⟨_, _, rfl, (h.eqc e25), fun h => ?_⟩
       refine st_bslice ([(⟨(⟨1, 0⟩ : LId), false, 0⟩ : Pa)]) h (evs_cons rfl evs_nil) rfl rfl rfl el66 (Nat.le_of_ble_eq_true rfl) rfl ?_
       intro g w2 hg ho hq hz' a' h'
       exact comb_done ⟨_, h', hq, g, rfl, ho.low (by omega)⟩
     | 6, _, hb =>
       obtain ⟨g26, e26, ho26⟩ : ∃ g, a.tmps.getD 26 undef = .slice (some ⟨g, 0, none⟩) 1 1 ∧ Lw.Own encPa 71 w7.heap.size w8 (.slice (some ⟨g, 0, none⟩) 1 1) [(⟨(⟨1, 0⟩ : LId), false, 0⟩ : Pa)] := hb 5 (by kernel_rfl)
       refine ⟨_, _, rfl, (h.eqc e26), fun h => ?_⟩
       refine st_lit (cs := [_, _, _, _]) h (evs_cons rfl (evs_cons rfl evs_nil)) bo68 (pok_cons rfl rfl rfl (pok_cons rfl rfl rfl pok_nil)) rfl rfl ?_
       intro a' h'
       exact comb_done ⟨_, h', Fr.refl _ _, ⟨1, false, sv0, (some ⟨g26, 0, none⟩, 1, 1), [], [(⟨(⟨1, 0⟩ : LId), false, 0⟩ : Pa)]⟩, rfl, ⟨Own.nil _, ho26⟩, rfl⟩
     | 7, _, hb =>
       refine ⟨_, _, rfl, h, fun h => ?_⟩
       refine st_call h (evs_cons rfl evs_nil) co25 (one_ok _ _) rfl ?_
       rintro _ w2 ⟨rfl, hq⟩ a' h'
       exact comb_done ⟨_, h', hq, rfl⟩
     | 8, _, hb =>
       refine ⟨_, _, rfl, h, fun h => ?_⟩
       refine st_call h (evs_cons rfl evs_nil) co25 (one_ok _ _) rfl ?_
       rintro _ w2 ⟨rfl, hq⟩ a' h'
       exact comb_done ⟨_, h', hq, rfl⟩
     | 9, _, hb =>
       have e28 : a.tmps.getD 28 undef = (.agg #[.int .u8 1, .int .i64 1]) := hb 7 (by kernel_rfl)
       have e29 : a.tmps.getD 29 undef = (.agg #[.int .u8 1, .int .i64 0]) := hb 8 (by kernel_rfl)
       refine ⟨_, _, rfl, ((h.eqc e28).eqc e29), fun h => ?_⟩
       refine st_bslice ([(⟨1, 1⟩ : LId), (⟨1, 0⟩ : LId)]) h (evs_cons rfl (evs_cons rfl evs_nil)) rfl rfl rfl el31 (Nat.le_of_ble_eq_true rfl) rfl ?_
       intro g w2 hg ho hq hz' a' h'
       exact comb_done ⟨_, h', hq, g, rfl, ho.low (by omega)⟩
     | 10, _, hb =>
       obtain ⟨g30, e30, ho30⟩ : ∃ g, a.tmps.getD 30 undef = .slice (some ⟨g, 0, none⟩) 2 2 ∧ Lw.Own encId 61 w7.heap.size w8 (.slice (some ⟨g, 0, none⟩) 2 2) [(⟨1, 1⟩ : LId), (⟨1, 0⟩ : LId)] := hb 9 (by kernel_rfl)
       refine ⟨_, _, rfl, (h.eqc e30), fun h => ?_⟩
       refine st_lit (cs := [_, _, _, _]) h (evs_cons rfl evs_nil) bo68 (pok_cons rfl rfl rfl pok_nil) rfl rfl ?_
       intro a' h'
       exact comb_done ⟨_, h', Fr.refl _ _, ⟨0, false, (some ⟨g30, 0, none⟩, 2, 2), sv0, [(⟨1, 1⟩ : LId), (⟨1, 0⟩ : LId)], []⟩, rfl, ⟨ho30, Own.nil _⟩, rfl⟩
     | 11, _, hb =>
       obtain ⟨y23, e23, ho23, p23⟩ : ∃ q : LpQ, a.tmps.getD 23 undef = .agg (lpL q).toArray ∧ LpO τd w7.heap.size w8 q ∧ q.p = (lp_ 0 true [] []) := hb 2 (by kernel_rfl)
       obtain ⟨y27, e27, ho27, p27⟩ : ∃ q : LpQ, a.tmps.getD 27 undef = .agg (lpL q).toArray ∧ LpO τd w7.heap.size w8 q ∧ q.p = (lp_ 1 false [] [(⟨(⟨1, 0⟩ : LId), false, 0⟩ : Pa)]) := hb 6 (by kernel_rfl)
       obtain ⟨y31, e31, ho31, p31⟩ : ∃ q : LpQ, a.tmps.getD 31 undef = .agg (lpL q).toArray ∧ LpO τd w7.heap.size w8 q ∧ q.p = (lp_ 0 false [(⟨1, 1⟩ : LId), (⟨1, 0⟩ : LId)] []) := hb 10 (by kernel_rfl)
       refine ⟨_, _, rfl, (((h.eqc e23).eqc e27).eqc e31), fun h => ?_⟩
       refine st_bslice ([y23, y27, y31]) h (evs_cons rfl (evs_cons rfl (evs_cons rfl evs_nil))) rfl rfl rfl el42 (Nat.le_of_ble_eq_true rfl) rfl ?_
       intro g w2 hg ho hq hz' a' h'
       refine comb_done ⟨_, h', hq, g, [y23, y27, y31], rfl, ho.low (by omega), fun q hq_ => ?_, ?_⟩
       · simp only [List.mem_cons, List.not_mem_nil, or_false] at hq_
         rcases hq_ with rfl | rfl | rfl
         · exact lpo_ext ho23 hq
         · exact lpo_ext ho27 hq
         · exact lpo_ext ho31 hq
       · show [y23.p, y27.p, y31.p] = _; rw [p23, p27, p31]
     | 12, _, hb =>
       have e22 : a.tmps.getD 22 undef = (.slice (some ⟨gT, 0, none⟩) 6 6) := hb 1 (by kernel_rfl)
       refine ⟨_, _, rfl, (h.eqc e22), fun h => ?_⟩
       refine st_idxS (p := 0) (E := encTq) h rfl rfl el29 (by decide) (by decide) rfl rfl ?_
       intro a' h'
       exact comb_done ⟨_, h', Fr.refl _ _, rfl⟩
     | n + 13, hi, _ => exact absurd hi (by omega)
   · intro a w9 h hf hall
     have z9 := hf.size
     have q9 := hf
     refine ⟨_, rfl, ?_⟩
     have e33 : a.tmps.getD 33 undef = (.pointer (some ((⟨gT, 0, none⟩ : Addr).add (0 * encTq.sz)))) := hall 12 (by omega)
     obtain ⟨g32, ls, e32, ho32, hls, hlp⟩ : ∃ (g : Nat) (ls : List LpQ), a.tmps.getD 32 undef = .slice (some ⟨g, 0, none⟩) 3 3 ∧ Lw.Own encLp 68 w7.heap.size w9 (.slice (some ⟨g, 0, none⟩) 3 3) ls ∧ (∀ q ∈ ls, LpO τd w7.heap.size w9 q) ∧ ls.map LpQ.p = [(lp_ 0 true [] []), (lp_ 1 false [] [(⟨(⟨1, 0⟩ : LId), false, 0⟩ : Pa)]), (lp_ 0 false [(⟨1, 1⟩ : LId), (⟨1, 0⟩ : LId)] [])] := hall 11 (by omega)
     replace hoT := hoT.ext q9
     replace hb3 := hb3.ext q9
     replace hoF := hoF.ext q9
     replace h := (h.eqc e33).eqc e32
     clear hall e33 e32
     refine st_storeO (i := 0) (((some ⟨g32, 0, none⟩, 3, 3), ls) : TQ) h rfl rfl hoT (by simp) rfl sz42 ?_; clear h a; intro w10 ho_2 q10 z10 a h
     have hgR := ho32.blk g32 (by simp [blks])
     have hgT_ := (hoT.blk gT (by simp [blks])).2
     replace hb3 := hb3.fr q10 (by simp; omega)
     replace hoF := hoF.fr q10 (by intro k hk hb; simp [blks] at hk hb; omega)
     have hoTb := hoT
     clear hoT
     have hoT := ho_2
     clear ho_2
     try rw [List.set_set] at hoT
     have hRw : Lw.Own encLp 68 0 w10 (slv (some ⟨g32, 0, none⟩, 3, 3)) ls := (ho32.fr q10 (fun k hk hb => by rw [List.mem_singleton] at hk; subst hk; have := (ho32.blk _ hb).1; omega)).low (Nat.zero_le _)
     have hRl : ∀ q ∈ ls, LpO τd (gT + 1) w10 q := fun q hq => LpO.tf ⟨(hls q hq).1.low (by omega), (hls q hq).2.low (by omega)⟩ q10 (own_off (E := encTq) (v := .slice (some ⟨gT, 0, none⟩) 6 6) hoTb (by decide)) (own_off (E := encTq) (v := .slice (some ⟨gT, 0, none⟩) 6 6) hoTb (by decide))
     have hRq : Sl encLp w10 (slv (some ⟨g32, 0, none⟩, 3, 3)) ls ∧ LpsAt w10 ls := ⟨hRw.sl, fun q hq => (hRl q hq).at⟩
     have hRq0 := hRq
     refine comb_done ?_
     have hQA : FbAt w10 (⟨(some ⟨gT, 0, none⟩, 6, 6), sv0, sv0, (some ⟨gF, 0, none⟩, 1, 1), (List.replicate 6 tq0).set 0 ((some ⟨g32, 0, none⟩, 3, 3), ls), [], [], [⟨1, 2⟩]⟩ : FbQ) := ⟨hoT.sl, tab1 hRq.1 hRq.2, Sl.nil _, Sl.nil _, hoF.sl⟩
     have hQA0 := hQA
     have heA : f1.p = ((⟨(some ⟨gT, 0, none⟩, 6, 6), sv0, sv0, (some ⟨gF, 0, none⟩, 1, 1), (List.replicate 6 tq0).set 0 ((some ⟨g32, 0, none⟩, 3, 3), ls), [], [], [⟨1, 2⟩]⟩ : FbQ)).p := by rw [hp1, tubA]; show _ = Fb.mk [ls.map LpQ.p, [], [], [], [], []] [] [] [⟨1, 2⟩]; rw [hlp]; rfl
     refine bk (h.sub (L' := [(1, _), (2, _), (3, _)]) (.cons rfl (.cons rfl (.cons rfl .nil)))) ?_; clear h a
     refine tn (sq (sq ?_))
     refine rboF (r := 41) (L' := [(3, _)]) (((0 ≠ 0) ∨ (0 ≠ 0))) (.cons rfl .nil) ?_ ?_
     · refine mv rfl rfl (ne' rfl rfl rfl (mv rfl rfl ?_))
       refine gs 36 rfl (fun hh => absurd hh (by decide)) (fun g0 => ?_)
       refine gY rfl ?_
       replace hb1 := (hb1.ext q9).fr q10 (by first | (simp; done) | (simp; omega) | (simp [blks]; done) | (simp [blks]; omega))
       refine s_loadBA rfl hb1 ag33 rfl (gY rfl (s_loadBA rfl hb3 ag33 rfl (gY rfl ?_)))
       replace hf1 := hf10.ext (((((q3.step q4 (by first | (simp; done) | (simp; omega))).next q6).step q7 (by first | (simp; done) | (simp; omega))).next q9).step q10 (by first | (simp; done) | (simp; omega)))
       refine cl (ev2 rfl rfl) co11 (by have hfA := fabrics_ok _ _ _ hf1 hQA heA; exact hfA) rfl ?_
       rintro _ w11 ⟨rfl, q11⟩
       have z11 := q11.size
       exact gY rfl (ne' rfl rfl rfl (pkf rfl rfl rfl rfl (rbeF rfl (by first | exact bt (by omega) | exact bf (by omega) | exact bi (by omega) | exact bn (by omega) | (simp_all; done) | (simp_all; omega)) (.cons rfl .nil) q11)))
     · intro w12 q12; have z12 := q12.size
       refine tn ?_
       refine cd rfl (fun c0 => ?_) (fun c0 => ?_)
       · refine sr (asg rfl rfl (nn (rt (tr (r1 Tryd.results12 rfl ?_)))))
         exact absurd c0 (by decide)
       · refine sk (tn (sr (s_bslice ([(1 : UInt8), 1]) (ev2 rfl rfl) rfl rfl rfl el22 (Nat.le_of_ble_eq_true rfl) rfl (fun g43 w13 hg43 ho43 q13 z13 => ?_))))
         refine s_lit (cs := [_, _]) (ev2 rfl rfl) bo26 (pok_cons rfl rfl rfl (pok_cons rfl rfl rfl pok_nil)) rfl rfl ?_
         refine cl (ev1 rfl) co8 (of_ok 1 _ [1, 1] _ ho43.sl (by decide)) rfl ?_
         rintro _ w14 ⟨f2, rfl, hk2, hp2, q14⟩
         have z14 := q14.size
         have hf2 := hk2.at
         have hf20 := hf2
         refine mv rfl rfl (xt rfl rfl rfl (xt rfl rfl rfl (al zv33 rfl rfl (fun g4 w15 hg4 hb4 q15 z15 => ?_))))
         refine s_storeBA (vs := [_, _, _, _]) rfl rfl hb4 (by rfl) (by first | (simp [Value.oneCell', S]; done) | exact Enc.one _ _) sz33 (fun w16 hb4 q16 z16 => ?_)
         refine asg rfl rfl (kpL [(3, _), (4, _), (5, _)] (.cons rfl (.cons rfl (.cons rfl .nil))) (nn (sq ?_)))
         replace hG := hG0.ext ((((((((((((q1.next q2).next q3).step q4 (by first | (simp; done) | (simp; omega))).next q6).step q7 (by first | (simp; done) | (simp; omega))).next q9).step q10 (by first | (simp; done) | (simp; omega))).next q12).next q13).next q14).next q15).step q16 (by first | (simp; done) | (simp; omega)))
         replace ho12 := (((ho12.ext q9).fr q10 (by first | (simp; done) | (simp; omega) | (simp [blks]; done) | (simp [blks]; omega) | (intro k hk hb; simp at hk; subst hk; have := ho12.blk _ hb; omega))).ext (((q12.next q13).next q14).next q15)).fr q16 (by first | (simp; done) | (simp; omega) | (simp [blks]; done) | (simp [blks]; omega) | (intro k hk hb; simp at hk; subst hk; have := ho12.blk _ hb; omega))
         replace hf1 := hf10.ext ((((((((((q3.step q4 (by first | (simp; done) | (simp; omega))).next q6).step q7 (by first | (simp; done) | (simp; omega))).next q9).step q10 (by first | (simp; done) | (simp; omega))).next q12).next q13).next q14).next q15).step q16 (by first | (simp; done) | (simp; omega)))
         replace hb1 := (((hb1.ext q9).fr q10 (by first | (simp; done) | (simp; omega) | (simp [blks]; done) | (simp [blks]; omega))).ext (((q12.next q13).next q14).next q15)).fr q16 (by first | (simp; done) | (simp; omega) | (simp [blks]; done) | (simp [blks]; omega))
         replace hb3 := (hb3.ext (((q12.next q13).next q14).next q15)).fr q16 (by first | (simp; done) | (simp; omega) | (simp [blks]; done) | (simp [blks]; omega))
         replace hoT := (hoT.ext (((q12.next q13).next q14).next q15)).fr q16 (by intro k hk hb; simp [blks] at hk hb; omega)
         replace hoF := (hoF.ext (((q12.next q13).next q14).next q15)).fr q16 (by intro k hk hb; simp [blks] at hk hb; omega)
         replace hQA := hQA0.ext ((((q12.next q13).next q14).next q15).step q16 (by first | (simp; done) | (simp; omega)))
         replace ho43 := (ho43.ext (q14.next q15)).fr q16 (by first | (simp; done) | (simp; omega) | (simp [blks]; done) | (simp [blks]; omega) | (intro k hk hb; simp at hk; subst hk; have := ho43.blk _ hb; omega))
         replace hf2 := hf20.ext (q15.step q16 (by first | (simp; done) | (simp; omega)))
         intro a h
         replace h := h.sub (L' := [(3, _), (4, _), (5, _)]) (.cons rfl (.cons rfl (.cons rfl .nil)))
         refine comb_region (dl := [48, 49, 50, 51, 52, 53, 54, 55, 56, 57, 58, 59, 60, 61, 62, 63, 64, 65, 66, 67, 68, 69, 70, 71, 72]) (m := 25) hmix (by kernel_rfl) rfl (by decide) rfl h (spAt [spC (.pointer (some ((⟨g3, 0, none⟩ : Addr).add 0))), spC (.slice (some ⟨gT, 0, none⟩) 6 6), spL w16.heap.size (lp_ 0 true [] []), spC (.agg #[.int .u8 1, .int .i64 0]), spC (.agg #[.int .u8 1, .int .i64 0, .bool false, .int .u8 0]), spO encPa 71 w16.heap.size [(⟨(⟨1, 0⟩ : LId), false, 0⟩ : Pa)], spL w16.heap.size (lp_ 1 false [] [(⟨(⟨1, 0⟩ : LId), false, 0⟩ : Pa)]), spC (.agg #[.int .u8 1, .int .i64 0]), spO encId 61 w16.heap.size [(⟨1, 0⟩ : LId)], spC (.agg #[.int .u8 1, .int .i64 1]), spC (.agg #[.int .u8 1, .int .i64 1, .bool true, .int .u8 1]), spO encPa 71 w16.heap.size [(⟨(⟨1, 1⟩ : LId), true, 1⟩ : Pa)], spL w16.heap.size (lp_ 0 false [(⟨1, 0⟩ : LId)] [(⟨(⟨1, 1⟩ : LId), true, 1⟩ : Pa)]), spC (.agg #[.int .u8 1, .int .i64 1]), spO encId 61 w16.heap.size [(⟨1, 1⟩ : LId)], spC (.agg #[.int .u8 1, .int .i64 2]), spC (.agg #[.int .u8 1, .int .i64 2, .bool false, .int .u8 0]), spO encPa 71 w16.heap.size [(⟨(⟨1, 2⟩ : LId), false, 0⟩ : Pa)], spL w16.heap.size (lp_ 1 false [(⟨1, 1⟩ : LId)] [(⟨(⟨1, 2⟩ : LId), false, 0⟩ : Pa)]), spC (.agg #[.int .u8 1, .int .i64 3]), spC (.agg #[.int .u8 1, .int .i64 2]), spO encId 61 w16.heap.size [(⟨1, 3⟩ : LId), (⟨1, 2⟩ : LId)], spL w16.heap.size (lp_ 0 false [(⟨1, 3⟩ : LId), (⟨1, 2⟩ : LId)] []), spR w16.heap.size 5 [(lp_ 0 true [] []), (lp_ 1 false [] [(⟨(⟨1, 0⟩ : LId), false, 0⟩ : Pa)]), (lp_ 0 false [(⟨1, 0⟩ : LId)] [(⟨(⟨1, 1⟩ : LId), true, 1⟩ : Pa)]), (lp_ 1 false [(⟨1, 1⟩ : LId)] [(⟨(⟨1, 2⟩ : LId), false, 0⟩ : Pa)]), (lp_ 0 false [(⟨1, 3⟩ : LId), (⟨1, 2⟩ : LId)] [])], spC (.pointer (some ((⟨gT, 0, none⟩ : Addr).add (0 * encTq.sz))))]) (spAt_m _) ?_ ?_
         · intro i hi a w17 h hf hb
           have hz := hf.size
           match i, hi, hb with
           | 0, _, hb =>
             refine ⟨_, _, rfl, h, fun h => ?_⟩
             refine st_fieldAddr h rfl fa33_0 rfl ?_
             intro a' h'
             exact comb_done ⟨_, h', Fr.refl _ _, rfl⟩
           | 1, _, hb =>
             have e48 : a.tmps.getD 48 undef = (.pointer (some ((⟨g3, 0, none⟩ : Addr).add 0))) := hb 0 (by kernel_rfl)
             refine ⟨_, _, rfl, (h.eqc e48), fun h => ?_⟩
             refine st_loadB h rfl (hb3.ext hf) rfl na29 rfl ?_
             intro a' h'
             exact comb_done ⟨_, h', Fr.refl _ _, rfl⟩
           | 2, _, hb =>
             refine ⟨_, _, rfl, h, fun h => ?_⟩
             refine st_lit (cs := [_, _, _, _]) h (evs_cons rfl evs_nil) bo68 (pok_cons rfl rfl rfl pok_nil) rfl rfl ?_
             intro a' h'
             exact comb_done ⟨_, h', Fr.refl _ _, ⟨0, true, sv0, sv0, [], []⟩, rfl, ⟨Own.nil _, Own.nil _⟩, rfl⟩
           | 3, _, hb =>
             refine ⟨_, _, rfl, h, fun h => ?_⟩
             refine st_call h (evs_cons rfl evs_nil) co25 (one_ok _ _) rfl ?_
             rintro _ w2 ⟨rfl, hq⟩ a' h'
             exact comb_done ⟨_, h', hq, rfl⟩
           | 4, _, hb =>
             have e51 : a.tmps.getD 51 undef = (.agg #[.int .u8 1, .int .i64 0]) := hb 3 (by kernel_rfl)
             refine ⟨_, _, rfl, (h.eqc e51), fun h => ?_⟩
             refine st_lit (cs := [_, _, _, _]) h (evs_cons rfl evs_nil) bo71 (pok_cons rfl rfl rfl pok_nil) rfl rfl ?_
             intro a' h'
             exact comb_done ⟨_, h', Fr.refl _ _, rfl⟩
           | 5, _, hb =>
             have e52 : a.tmps.getD 52 undef = (.agg #[.int .u8 1, .int .i64 0, .bool false, .int .u8 0]) := hb 4 (by kernel_rfl)
             refine ⟨_, _, rfl, (h.eqc e52), fun h => ?_⟩
             refine st_bslice ([(⟨(⟨1, 0⟩ : LId), false, 0⟩ : Pa)]) h (evs_cons rfl evs_nil) rfl rfl rfl el66 (Nat.le_of_ble_eq_true rfl) rfl ?_
             intro g w2 hg ho hq hz' a' h'
             exact comb_done ⟨_, h', hq, g, rfl, ho.low (by omega)⟩
           | 6, _, hb =>
             obtain ⟨g53, e53, ho53⟩ : ∃ g, a.tmps.getD 53 undef = .slice (some ⟨g, 0, none⟩) 1 1 ∧ Lw.Own encPa 71 w16.heap.size w17 (.slice (some ⟨g, 0, none⟩) 1 1) [(⟨(⟨1, 0⟩ : LId), false, 0⟩ : Pa)] := hb 5 (by kernel_rfl)
             refine ⟨_, _, rfl, (h.eqc e53), fun h => ?_⟩
             refine st_lit (cs := [_, _, _, _]) h (evs_cons rfl (evs_cons rfl evs_nil)) bo68 (pok_cons rfl rfl rfl (pok_cons rfl rfl rfl pok_nil)) rfl rfl ?_
             intro a' h'
             exact comb_done ⟨_, h', Fr.refl _ _, ⟨1, false, sv0, (some ⟨g53, 0, none⟩, 1, 1), [], [(⟨(⟨1, 0⟩ : LId), false, 0⟩ : Pa)]⟩, rfl, ⟨Own.nil _, ho53⟩, rfl⟩
           | 7, _, hb =>
             refine ⟨_, _, rfl, h, fun h => ?_⟩
             refine st_call h (evs_cons rfl evs_nil) co25 (one_ok _ _) rfl ?_
             rintro _ w2 ⟨rfl, hq⟩ a' h'
             exact comb_done ⟨_, h', hq, rfl⟩
           | 8, _, hb =>
             have e55 : a.tmps.getD 55 undef = (.agg #[.int .u8 1, .int .i64 0]) := hb 7 (by kernel_rfl)
             refine ⟨_, _, rfl, (h.eqc e55), fun h => ?_⟩
             refine st_bslice ([(⟨1, 0⟩ : LId)]) h (evs_cons rfl evs_nil) rfl rfl rfl el31 (Nat.le_of_ble_eq_true rfl) rfl ?_
             intro g w2 hg ho hq hz' a' h'
             exact comb_done ⟨_, h', hq, g, rfl, ho.low (by omega)⟩
           | 9, _, hb =>
             refine ⟨_, _, rfl, h, fun h => ?_⟩
             refine st_call h (evs_cons rfl evs_nil) co25 (one_ok _ _) rfl ?_
             rintro _ w2 ⟨rfl, hq⟩ a' h'
             exact comb_done ⟨_, h', hq, rfl⟩
           | 10, _, hb =>
             have e57 : a.tmps.getD 57 undef = (.agg #[.int .u8 1, .int .i64 1]) := hb 9 (by kernel_rfl)
             refine ⟨_, _, rfl, (h.eqc e57), fun h => ?_⟩
             refine st_lit (cs := [_, _, _, _]) h (evs_cons rfl (evs_cons rfl (evs_cons rfl evs_nil))) bo71 (pok_cons rfl rfl rfl (pok_cons rfl rfl rfl (pok_cons rfl rfl rfl pok_nil))) rfl rfl ?_
             intro a' h'
             exact comb_done ⟨_, h', Fr.refl _ _, rfl⟩
           | 11, _, hb =>
             have e58 : a.tmps.getD 58 undef = (.agg #[.int .u8 1, .int .i64 1, .bool true, .int .u8 1]) := hb 10 (by kernel_rfl)
             refine ⟨_, _, rfl, (h.eqc e58), fun h => ?_⟩
             refine st_bslice ([(⟨(⟨1, 1⟩ : LId), true, 1⟩ : Pa)]) h (evs_cons rfl evs_nil) rfl rfl rfl el66 (Nat.le_of_ble_eq_true rfl) rfl ?_
             intro g w2 hg ho hq hz' a' h'
             exact comb_done ⟨_, h', hq, g, rfl, ho.low (by omega)⟩
           | 12, _, hb =>
             obtain ⟨g56, e56, ho56⟩ : ∃ g, a.tmps.getD 56 undef = .slice (some ⟨g, 0, none⟩) 1 1 ∧ Lw.Own encId 61 w16.heap.size w17 (.slice (some ⟨g, 0, none⟩) 1 1) [(⟨1, 0⟩ : LId)] := hb 8 (by kernel_rfl)
             obtain ⟨g59, e59, ho59⟩ : ∃ g, a.tmps.getD 59 undef = .slice (some ⟨g, 0, none⟩) 1 1 ∧ Lw.Own encPa 71 w16.heap.size w17 (.slice (some ⟨g, 0, none⟩) 1 1) [(⟨(⟨1, 1⟩ : LId), true, 1⟩ : Pa)] := hb 11 (by kernel_rfl)
             refine ⟨_, _, rfl, ((h.eqc e56).eqc e59), fun h => ?_⟩
             refine st_lit (cs := [_, _, _, _]) h (evs_cons rfl (evs_cons rfl evs_nil)) bo68 (pok_cons rfl rfl rfl (pok_cons rfl rfl rfl pok_nil)) rfl rfl ?_
             intro a' h'
             exact comb_done ⟨_, h', Fr.refl _ _, ⟨0, false, (some ⟨g56, 0, none⟩, 1, 1), (some ⟨g59, 0, none⟩, 1, 1), [(⟨1, 0⟩ : LId)], [(⟨(⟨1, 1⟩ : LId), true, 1⟩ : Pa)]⟩, rfl, ⟨ho56, ho59⟩, rfl⟩
           | 13, _, hb =>
             refine ⟨_, _, rfl, h, fun h => ?_⟩
             refine st_call h (evs_cons rfl evs_nil) co25 (one_ok _ _) rfl ?_
             rintro _ w2 ⟨rfl, hq⟩ a' h'
             exact comb_done ⟨_, h', hq, rfl⟩
           | 14, _, hb =>
             have e61 : a.tmps.getD 61 undef = (.agg #[.int .u8 1, .int .i64 1]) := hb 13 (by kernel_rfl)
             refine ⟨_, _, rfl, (h.eqc e61), fun h => ?_⟩
             refine st_bslice ([(⟨1, 1⟩ : LId)]) h (evs_cons rfl evs_nil) rfl rfl rfl el31 (Nat.le_of_ble_eq_true rfl) rfl ?_
             intro g w2 hg ho hq hz' a' h'
             exact comb_done ⟨_, h', hq, g, rfl, ho.low (by omega)⟩
           | 15, _, hb =>
             refine ⟨_, _, rfl, h, fun h => ?_⟩
             refine st_call h (evs_cons rfl evs_nil) co25 (one_ok _ _) rfl ?_
             rintro _ w2 ⟨rfl, hq⟩ a' h'
             exact comb_done ⟨_, h', hq, rfl⟩
           | 16, _, hb =>
             have e63 : a.tmps.getD 63 undef = (.agg #[.int .u8 1, .int .i64 2]) := hb 15 (by kernel_rfl)
             refine ⟨_, _, rfl, (h.eqc e63), fun h => ?_⟩
             refine st_lit (cs := [_, _, _, _]) h (evs_cons rfl evs_nil) bo71 (pok_cons rfl rfl rfl pok_nil) rfl rfl ?_
             intro a' h'
             exact comb_done ⟨_, h', Fr.refl _ _, rfl⟩
           | 17, _, hb =>
             have e64 : a.tmps.getD 64 undef = (.agg #[.int .u8 1, .int .i64 2, .bool false, .int .u8 0]) := hb 16 (by kernel_rfl)
             refine ⟨_, _, rfl, (h.eqc e64), fun h => ?_⟩
             refine st_bslice ([(⟨(⟨1, 2⟩ : LId), false, 0⟩ : Pa)]) h (evs_cons rfl evs_nil) rfl rfl rfl el66 (Nat.le_of_ble_eq_true rfl) rfl ?_
             intro g w2 hg ho hq hz' a' h'
             exact comb_done ⟨_, h', hq, g, rfl, ho.low (by omega)⟩
           | 18, _, hb =>
             obtain ⟨g62, e62, ho62⟩ : ∃ g, a.tmps.getD 62 undef = .slice (some ⟨g, 0, none⟩) 1 1 ∧ Lw.Own encId 61 w16.heap.size w17 (.slice (some ⟨g, 0, none⟩) 1 1) [(⟨1, 1⟩ : LId)] := hb 14 (by kernel_rfl)
             obtain ⟨g65, e65, ho65⟩ : ∃ g, a.tmps.getD 65 undef = .slice (some ⟨g, 0, none⟩) 1 1 ∧ Lw.Own encPa 71 w16.heap.size w17 (.slice (some ⟨g, 0, none⟩) 1 1) [(⟨(⟨1, 2⟩ : LId), false, 0⟩ : Pa)] := hb 17 (by kernel_rfl)
             refine ⟨_, _, rfl, ((h.eqc e62).eqc e65), fun h => ?_⟩
             refine st_lit (cs := [_, _, _, _]) h (evs_cons rfl (evs_cons rfl (evs_cons rfl evs_nil))) bo68 (pok_cons rfl rfl rfl (pok_cons rfl rfl rfl (pok_cons rfl rfl rfl pok_nil))) rfl rfl ?_
             intro a' h'
             exact comb_done ⟨_, h', Fr.refl _ _, ⟨1, false, (some ⟨g62, 0, none⟩, 1, 1), (some ⟨g65, 0, none⟩, 1, 1), [(⟨1, 1⟩ : LId)], [(⟨(⟨1, 2⟩ : LId), false, 0⟩ : Pa)]⟩, rfl, ⟨ho62, ho65⟩, rfl⟩
           | 19, _, hb =>
             refine ⟨_, _, rfl, h, fun h => ?_⟩
             refine st_call h (evs_cons rfl evs_nil) co25 (one_ok _ _) rfl ?_
             rintro _ w2 ⟨rfl, hq⟩ a' h'
             exact comb_done ⟨_, h', hq, rfl⟩
           | 20, _, hb =>
             refine ⟨_, _, rfl, h, fun h => ?_⟩
             refine st_call h (evs_cons rfl evs_nil) co25 (one_ok _ _) rfl ?_
             rintro _ w2 ⟨rfl, hq⟩ a' h'
             exact comb_done ⟨_, h', hq, rfl⟩
           | 21, _, hb =>
             have e67 : a.tmps.getD 67 undef = (.agg #[.int .u8 1, .int .i64 3]) := hb 19 (by kernel_rfl)
             have e68 : a.tmps.getD 68 undef = (.agg #[.int .u8 1, .int .i64 2]) := hb 20 (by kernel_rfl)
             refine ⟨_, _, rfl, ((h.eqc e67).eqc e68), fun h => ?_⟩
             refine st_bslice ([(⟨1, 3⟩ : LId), (⟨1, 2⟩ : LId)]) h (evs_cons rfl (evs_cons rfl evs_nil)) rfl rfl rfl el31 (Nat.le_of_ble_eq_true rfl) rfl ?_
             intro g w2 hg ho hq hz' a' h'
             exact comb_done ⟨_, h', hq, g, rfl, ho.low (by omega)⟩
           | 22, _, hb =>
             obtain ⟨g69, e69, ho69⟩ : ∃ g, a.tmps.getD 69 undef = .slice (some ⟨g, 0, none⟩) 2 2 ∧ Lw.Own encId 61 w16.heap.size w17 (.slice (some ⟨g, 0, none⟩) 2 2) [(⟨1, 3⟩ : LId), (⟨1, 2⟩ : LId)] := hb 21 (by kernel_rfl)
             refine ⟨_, _, rfl, (h.eqc e69), fun h => ?_⟩
             refine st_lit (cs := [_, _, _, _]) h (evs_cons rfl evs_nil) bo68 (pok_cons rfl rfl rfl pok_nil) rfl rfl ?_
             intro a' h'
             exact comb_done ⟨_, h', Fr.refl _ _, ⟨0, false, (some ⟨g69, 0, none⟩, 2, 2), sv0, [(⟨1, 3⟩ : LId), (⟨1, 2⟩ : LId)], []⟩, rfl, ⟨ho69, Own.nil _⟩, rfl⟩
           | 23, _, hb =>
             obtain ⟨y50, e50, ho50, p50⟩ : ∃ q : LpQ, a.tmps.getD 50 undef = .agg (lpL q).toArray ∧ LpO τd w16.heap.size w17 q ∧ q.p = (lp_ 0 true [] []) := hb 2 (by kernel_rfl)
             obtain ⟨y54, e54, ho54, p54⟩ : ∃ q : LpQ, a.tmps.getD 54 undef = .agg (lpL q).toArray ∧ LpO τd w16.heap.size w17 q ∧ q.p = (lp_ 1 false [] [(⟨(⟨1, 0⟩ : LId), false, 0⟩ : Pa)]) := hb 6 (by kernel_rfl)
             obtain ⟨y60, e60, ho60, p60⟩ : ∃ q : LpQ, a.tmps.getD 60 undef = .agg (lpL q).toArray ∧ LpO τd w16.heap.size w17 q ∧ q.p = (lp_ 0 false [(⟨1, 0⟩ : LId)] [(⟨(⟨1, 1⟩ : LId), true, 1⟩ : Pa)]) := hb 12 (by kernel_rfl)
             obtain ⟨y66, e66, ho66, p66⟩ : ∃ q : LpQ, a.tmps.getD 66 undef = .agg (lpL q).toArray ∧ LpO τd w16.heap.size w17 q ∧ q.p = (lp_ 1 false [(⟨1, 1⟩ : LId)] [(⟨(⟨1, 2⟩ : LId), false, 0⟩ : Pa)]) := hb 18 (by kernel_rfl)
             obtain ⟨y70, e70, ho70, p70⟩ : ∃ q : LpQ, a.tmps.getD 70 undef = .agg (lpL q).toArray ∧ LpO τd w16.heap.size w17 q ∧ q.p = (lp_ 0 false [(⟨1, 3⟩ : LId), (⟨1, 2⟩ : LId)] []) := hb 22 (by kernel_rfl)
             refine ⟨_, _, rfl, (((((h.eqc e50).eqc e54).eqc e60).eqc e66).eqc e70), fun h => ?_⟩
             refine st_bslice ([y50, y54, y60, y66, y70]) h (evs_cons rfl (evs_cons rfl (evs_cons rfl (evs_cons rfl (evs_cons rfl evs_nil))))) rfl rfl rfl el42 (Nat.le_of_ble_eq_true rfl) rfl ?_
             intro g w2 hg ho hq hz' a' h'
             refine comb_done ⟨_, h', hq, g, [y50, y54, y60, y66, y70], rfl, ho.low (by omega), fun q hq_ => ?_, ?_⟩
             · simp only [List.mem_cons, List.not_mem_nil, or_false] at hq_
               rcases hq_ with rfl | rfl | rfl | rfl | rfl
               · exact lpo_ext ho50 hq
               · exact lpo_ext ho54 hq
               · exact lpo_ext ho60 hq
               · exact lpo_ext ho66 hq
               · exact lpo_ext ho70 hq
             · show [y50.p, y54.p, y60.p, y66.p, y70.p] = _; rw [p50, p54, p60, p66, p70]
           | 24, _, hb =>
             have e49 : a.tmps.getD 49 undef = (.slice (some ⟨gT, 0, none⟩) 6 6) := hb 1 (by kernel_rfl)
             refine ⟨_, _, rfl, (h.eqc e49), fun h => ?_⟩
             refine st_idxS (p := 0) (E := encTq) h rfl rfl el29 (by decide) (by decide) rfl rfl ?_
             intro a' h'
             exact comb_done ⟨_, h', Fr.refl _ _, rfl⟩
           | n + 25, hi, _ => exact absurd hi (by omega)
         · intro a w18 h hf hall
           have z18 := hf.size
           have q18 := hf
           refine ⟨_, rfl, ?_⟩
           have e72 : a.tmps.getD 72 undef = (.pointer (some ((⟨gT, 0, none⟩ : Addr).add (0 * encTq.sz)))) := hall 24 (by omega)
           obtain ⟨g71, ls, e71, ho71, hls, hlp⟩ : ∃ (g : Nat) (ls : List LpQ), a.tmps.getD 71 undef = .slice (some ⟨g, 0, none⟩) 5 5 ∧ Lw.Own encLp 68 w16.heap.size w18 (.slice (some ⟨g, 0, none⟩) 5 5) ls ∧ (∀ q ∈ ls, LpO τd w16.heap.size w18 q) ∧ ls.map LpQ.p = [(lp_ 0 true [] []), (lp_ 1 false [] [(⟨(⟨1, 0⟩ : LId), false, 0⟩ : Pa)]), (lp_ 0 false [(⟨1, 0⟩ : LId)] [(⟨(⟨1, 1⟩ : LId), true, 1⟩ : Pa)]), (lp_ 1 false [(⟨1, 1⟩ : LId)] [(⟨(⟨1, 2⟩ : LId), false, 0⟩ : Pa)]), (lp_ 0 false [(⟨1, 3⟩ : LId), (⟨1, 2⟩ : LId)] [])] := hall 23 (by omega)
           replace hoT := hoT.ext q18
           replace hb3 := hb3.ext q18
           replace hoF := hoF.ext q18
           replace h := (h.eqc e72).eqc e71
           clear hall e72 e71
           refine st_storeO (i := 0) (((some ⟨g71, 0, none⟩, 5, 5), ls) : TQ) h rfl rfl hoT (by simp) rfl sz42 ?_; clear h a; intro w19 ho_2 q19 z19 a h
           have hgR := ho71.blk g71 (by simp [blks])
           have hgT_ := (hoT.blk gT (by simp [blks])).2
           replace hb3 := hb3.fr q19 (by simp; omega)
           replace hoF := hoF.fr q19 (by intro k hk hb; simp [blks] at hk hb; omega)
           have hoTb := hoT
           clear hoT
           have hoT := ho_2
           clear ho_2
           try rw [List.set_set] at hoT
           have hRw : Lw.Own encLp 68 0 w19 (slv (some ⟨g71, 0, none⟩, 5, 5)) ls := (ho71.fr q19 (fun k hk hb => by rw [List.mem_singleton] at hk; subst hk; have := (ho71.blk _ hb).1; omega)).low (Nat.zero_le _)
           have hRl : ∀ q ∈ ls, LpO τd (gT + 1) w19 q := fun q hq => LpO.tf ⟨(hls q hq).1.low (by omega), (hls q hq).2.low (by omega)⟩ q19 (own_off (E := encTq) (v := .slice (some ⟨gT, 0, none⟩) 6 6) hoTb (by decide)) (own_off (E := encTq) (v := .slice (some ⟨gT, 0, none⟩) 6 6) hoTb (by decide))
           have hRq : Sl encLp w19 (slv (some ⟨g71, 0, none⟩, 5, 5)) ls ∧ LpsAt w19 ls := ⟨hRw.sl, fun q hq => (hRl q hq).at⟩
           have hRq0 := hRq
           have hb3R := hb3
           refine comb_done ?_
           refine bk (h.sub (L' := [(3, _), (4, _), (5, _)]) (.cons rfl (.cons rfl (.cons rfl .nil)))) ?_; clear h a
           refine tn (sr ?_)
           refine cl (ev1 rfl) co25 (one_ok _ _) rfl ?_
           rintro _ w20 ⟨rfl, q20⟩
           have z20 := q20.size
           refine s_bslice ([(⟨1, 4⟩ : LId)]) (ev1 rfl) rfl rfl rfl el31 (Nat.le_of_ble_eq_true rfl) rfl (fun g74 w21 hg74 ho74 q21 z21 => ?_)
           refine fad rfl fa33_3 rfl ?_
           replace hb3 := hb3.ext (q20.next q21)
           refine s_storeB rfl rfl hb3 rfl rfl rfl sz31 (fun w22 hb3 q22 z22 => ?_)
           replace hb3 : Blk w22 g3 _ [_, _, _, _] := hb3
           replace hoT := (hoT.ext (q20.next q21)).fr q22 (by intro k hk hb; simp [blks] at hk hb; omega)
           replace ho74 := ho74.fr q22 (by first | (simp; done) | (simp; omega) | (simp [blks]; done) | (simp [blks]; omega) | (intro k hk hb; simp at hk; subst hk; have := ho74.blk _ hb; omega))
           have hf2C := hk2 [gT, g3] _ ((((((((Fr.refl [gT, g3] _).next q15).step q16 (by first | (simp; done) | (simp; omega))).next q18).step q19 (by first | (simp; done) | (simp; omega))).next q20).next q21).step q22 (by first | (simp; done) | (simp; omega))) (by intro k hk; simp only [List.mem_cons, List.not_mem_nil, or_false] at hk; rcases hk with rfl | rfl <;> omega)
           have hf2C0 := hf2C
           have hFR := ((((Fr.refl [g3] _).next q20).next q21).step q22 (by first | (simp; done) | (simp; omega)))
           have hoR := fun (T : Nat) (hT_ : 33 ≠ T) => OffT.one hb3R hT_
           have hQB : FbAt w22 (⟨(some ⟨gT, 0, none⟩, 6, 6), sv0, sv0, (some ⟨g74, 0, none⟩, 1, 1), (List.replicate 6 tq0).set 0 ((some ⟨g71, 0, none⟩, 5, 5), ls), [], [], [⟨1, 4⟩]⟩ : FbQ) := ⟨hoT.sl, tab1 (own_tf hRw hFR (hoR _ (by decide))).sl (fun q hq => (LpO.tf (hRl q hq) hFR (hoR _ (by decide)) (hoR _ (by decide))).at), Sl.nil _, Sl.nil _, ho74.sl⟩
           have hQB0 := hQB
           have heB : f2.p = ((⟨(some ⟨gT, 0, none⟩, 6, 6), sv0, sv0, (some ⟨g74, 0, none⟩, 1, 1), (List.replicate 6 tq0).set 0 ((some ⟨g71, 0, none⟩, 5, 5), ls), [], [], [⟨1, 4⟩]⟩ : FbQ)).p := by rw [hp2, tubB]; show _ = Fb.mk [ls.map LpQ.p, [], [], [], [], []] [] [] [⟨1, 4⟩]; rw [hlp]; rfl
           refine nn (sq (sq ?_))
           refine rboF (r := 83) (L' := []) (((0 ≠ 0) ∨ (0 ≠ 0))) .nil ?_ ?_
           · refine mv rfl rfl (ne' rfl rfl rfl (mv rfl rfl ?_))
             refine gs 78 rfl (fun hh => absurd hh (by decide)) (fun g1 => ?_)
             refine gY rfl ?_
             replace hb4 := (((hb4.ext q18).fr q19 (by first | (simp; done) | (simp; omega) | (simp [blks]; done) | (simp [blks]; omega))).ext (q20.next q21)).fr q22 (by first | (simp; done) | (simp; omega) | (simp [blks]; done) | (simp [blks]; omega))
             refine s_loadBA rfl hb4 ag33 rfl (gY rfl (s_loadBA rfl hb3 ag33 rfl (gY rfl ?_)))
             refine cl (ev2 rfl rfl) co11 (by have hfA := fabrics_ok _ _ _ hf2C hQB heB; exact hfA) rfl ?_
             rintro _ w23 ⟨rfl, q23⟩
             have z23 := q23.size
             exact gY rfl (ne' rfl rfl rfl (pkf rfl rfl rfl rfl (rbeF rfl (by first | exact bt (by omega) | exact bf (by omega) | exact bi (by omega) | exact bn (by omega) | (simp_all; done) | (simp_all; omega)) .nil q23)))
           · intro w24 q24; have z24 := q24.size
             refine tn ?_
             refine cd rfl (fun c1 => ?_) (fun c1 => ?_)
             · refine sr (asg rfl rfl (nn (rt (tr (r1 Tryd.results12 rfl ?_)))))
               exact absurd c1 (by decide)
             · refine sk (tn (sr (s_bslice ([(1 : UInt8), 1, 2]) (ev3 rfl rfl rfl) rfl rfl rfl el22 (Nat.le_of_ble_eq_true rfl) rfl (fun g84 w25 hg84 ho84 q25 z25 => ?_))))
               refine s_lit (cs := [_, _]) (ev2 rfl rfl) bo26 (pok_cons rfl rfl rfl (pok_cons rfl rfl rfl pok_nil)) rfl rfl ?_
               refine al zv26 rfl rfl (fun g6 w26 hg6 hb6 q26 z26 => ?_)
               refine s_storeBA (vs := [_, _]) rfl rfl hb6 (by rfl) (by first | (simp [Value.oneCell', S]; done) | exact Enc.one _ _) sz26 (fun w27 hb6 q27 z27 => ?_)
               refine nn (sr (s_loadBA rfl hb6 ag26 rfl ?_))
               replace ho84 := (ho84.ext q26).fr q27 (by first | (simp; done) | (simp; omega) | (simp [blks]; done) | (simp [blks]; omega) | (intro k hk hb; simp at hk; subst hk; have := ho84.blk _ hb; omega))
               refine cl (ev1 rfl) co10 (loops_ok 3 _ [1, 1, 2] _ ho84.sl (by decide)) rfl ?_
               rintro _ w28 ⟨AL, rfl, hsL, q28⟩
               have z28 := q28.size
               rw [cntC] at hsL
               obtain ⟨LC, hLC⟩ : ∃ l : List Int, l = [12, 9, 0, 0, 0, 0] := ⟨_, rfl⟩
               rw [← hLC] at hsL
               have hLl : LC.length = 6 := by rw [hLC]; rfl
               have hL0 : LC.getD 0 0 = 12 := by rw [hLC]; rfl
               have hL1 : LC.getD 1 0 = 9 := by rw [hLC]; rfl
               have hsL0 := hsL
               refine mv rfl rfl (xt rfl rfl rfl (xt rfl rfl rfl (asg rfl rfl (asg rfl rfl (nn (sr ?_))))))
               replace hG := hG0.ext ((((((((((((((((((((((q1.next q2).next q3).step q4 (by first | (simp; done) | (simp; omega))).next q6).step q7 (by first | (simp; done) | (simp; omega))).next q9).step q10 (by first | (simp; done) | (simp; omega))).next q12).next q13).next q14).next q15).step q16 (by first | (simp; done) | (simp; omega))).next q18).step q19 (by first | (simp; done) | (simp; omega))).next q20).next q21).step q22 (by first | (simp; done) | (simp; omega))).next q24).next q25).next q26).step q27 (by first | (simp; done) | (simp; omega))).next q28)
               refine cl (ev1 rfl) co15 (parse_ok _ _ hG (by simp)) rfl ?_
               rintro _ w29 ⟨wdP, AP, rsP, eP, rfl, hsP, hP, q29⟩
               have z29 := q29.size
               obtain rfl : eP = 4 := by
                 rcases hP with ⟨_, h⟩ | ⟨h, _⟩
                 · rw [parC] at h; cases h
                 · exact h
               refine mv rfl rfl (xt rfl rfl rfl (xt rfl rfl rfl (al zv26 rfl rfl (fun g9 w30 hg9 hb9 q30 z30 => ?_))))
               refine s_storeBA (vs := [_, _]) rfl rfl hb9 (by rfl) (by first | (simp [Value.oneCell', S]; done) | exact Enc.one _ _) sz26 (fun w31 hb9 q31 z31 => ?_)
               refine asg rfl rfl (nn (sq ?_))
               refine rboF (r := 0) (L' := []) (((((((0 = 0) ∧ ((6 : Int) = 6)) ∧ ((LC.getD 0 0 : Int) = 12)) ∧ ((LC.getD 1 0 : Int) = 9)) ∧ ((if tubE 3 [1, 1, 2] = 0 then textT 3 [1, 1, 2] else []) = [116, 117, 98, 101, 32, 51, 32, 49, 120, 50, 32, 50])) ∧ (4 = 4))) .nil ?_ ?_
               · refine mv rfl rfl (eq' rfl rfl rfl (mv rfl rfl ?_))
                 refine gs 97 rfl (fun g2 => ?_) (fun hh => absurd (by decide) hh)
                 refine gY rfl (mv rfl rfl (gY rfl (lnS rfl Tryd.underlying38 rfl (gY rfl (eq' rfl rfl rfl (pkt rfl rfl rfl rfl (mv rfl rfl ?_)))))))
                 refine gs 102 rfl (fun g3 => ?_) (fun hh => absurd (by rfl) hh)
                 refine gY rfl (mv rfl rfl (gY rfl ?_))
                 replace hsL := hsL0.ext ((q29.next q30).step q31 (by first | (simp; done) | (simp; omega)))
                 refine s_idxL (p := 0) ((0 : Int)) rfl hsL rfl el38 (by omega) (by omega) rfl rfl (fun ad104 hc104 => ?_)
                 refine gY rfl (s_loadC0 rfl (hc104 _ hsL) na3 rfl (gY rfl (eq' rfl rfl rfl (pkt rfl rfl rfl rfl (mv rfl rfl ?_)))))
                 refine gs 108 rfl (fun g4 => ?_) (fun hh => absurd (by exact hL0) hh)
                 refine gY rfl (mv rfl rfl (gY rfl (s_idxL (p := 1) ((0 : Int)) rfl hsL rfl el38 (by omega) (by omega) rfl rfl (fun ad110 hc110 => ?_))))
                 refine gY rfl (s_loadC0 rfl (hc110 _ hsL) na3 rfl (gY rfl (eq' rfl rfl rfl (pkt rfl rfl rfl rfl (mv rfl rfl ?_)))))
                 refine gs 114 rfl (fun g5 => ?_) (fun hh => absurd (by exact hL1) hh)
                 refine gY rfl ?_
                 replace hb6 := (hb6.ext ((q28.next q29).next q30)).fr q31 (by first | (simp; done) | (simp; omega) | (simp [blks]; done) | (simp [blks]; omega))
                 refine s_loadBA rfl hb6 ag26 rfl (gY rfl ?_)
                 replace ho84 := (ho84.ext ((q28.next q29).next q30)).fr q31 (by first | (simp; done) | (simp; omega) | (simp [blks]; done) | (simp [blks]; omega) | (intro k hk hb; simp at hk; subst hk; have := ho84.blk _ hb; omega))
                 refine cl (ev1 rfl) co13 (text_ok _ _ [1, 1, 2] _ ho84.sl) rfl ?_
                 rintro _ w32 ⟨rfl, q32⟩
                 have z32 := q32.size
                 refine gY rfl (s_eqs rfl rfl rfl (pkt rfl rfl rfl rfl (mv rfl rfl ?_)))
                 refine gs 119 rfl (fun g6 => ?_) (fun hh => absurd (by exact txtC) hh)
                 exact gY rfl (mv rfl rfl (gY rfl (eq' rfl rfl rfl (pkt rfl rfl rfl rfl (asg rfl rfl (rbeF rfl (by first | exact bt (by omega) | exact bf (by omega) | exact bi (by omega) | exact bn (by omega) | (simp_all; done) | (simp_all; omega)) .nil q32))))))
               · intro w33 q33; have z33 := q33.size
                 refine tn (rt (r1 Tryd.results12 rfl ?_))
                 exact ⟨_, rfl, congrArg Value.bool (decide_eq_true ⟨⟨⟨⟨⟨rfl, rfl⟩, hL0⟩, hL1⟩, txtC⟩, rfl⟩), ((((((((((((((((((((((((((q1.next q2).next q3).step q4 (by first | (simp; done) | (simp; omega))).next q6).step q7 (by first | (simp; done) | (simp; omega))).next q9).step q10 (by first | (simp; done) | (simp; omega))).next q12).next q13).next q14).next q15).step q16 (by first | (simp; done) | (simp; omega))).next q18).step q19 (by first | (simp; done) | (simp; omega))).next q20).next q21).step q22 (by first | (simp; done) | (simp; omega))).next q24).next q25).next q26).step q27 (by first | (simp; done) | (simp; omega))).next q28).next q29).next q30).step q31 (by first | (simp; done) | (simp; omega))).next q33)⟩
end Go.Proofs.YtgdlgjkjpbbniaaDoor
namespace Go.Proofs.YtgdlgjkjpbbniaaDoor
open Go.Lw Go.G21

end Go.Proofs.YtgdlgjkjpbbniaaDoor
namespace Go.Proofs.YtgdlgjkjpbbniaaDoor
open Go.Lw Go.G21
theorem co12 : CallOf Tryd.prog 12 := CallOf.mk' Tryd.func12 (by kernel_rfl) (by kernel_rfl)
end Go.Proofs.YtgdlgjkjpbbniaaDoor
namespace Go.Proofs.YtgdlgjkjpbbniaaDoor
open Go.Lw Go.G21
end Go.Proofs.YtgdlgjkjpbbniaaDoor
namespace Go.Proofs.YtgdlgjkjpbbniaaDoor
open Go.Lw Go.G21

end Go.Proofs.YtgdlgjkjpbbniaaDoor
namespace Go.Proofs.YtgdlgjkjpbbniaaDoor
open Go.Lw Go.G21
end Go.Proofs.YtgdlgjkjpbbniaaDoor
namespace Go.Proofs.YtgdlgjkjpbbniaaDoor
open Go.Lw Go.G21
end Go.Proofs.YtgdlgjkjpbbniaaDoor
namespace Go.Proofs.YtgdlgjkjpbbniaaDoor
open Go.Lw Go.G21
end Go.Proofs.YtgdlgjkjpbbniaaDoor
namespace Go.G21
open Go.Lw
def frL (W : Nat) (s : Lst) : List LId := match s with
  | none => []
  | some (y, f) => (List.range W).map fun i => ⟨y, ((f + i : Nat) : Int)⟩
def bkL (W : Nat) (s : Lst) : List LId := match s with
  | none => []
  | some (y, f) => (List.range W).map fun i => ⟨y, ((f + 2 * W - 1 - i : Nat) : Int)⟩
theorem rng_at {α : Type} (φ : Nat → α) {W i : Nat} (h : i < W) (d : α) : ((List.range W).map φ).getD i d = φ i := by
  rw [List.getD, List.getElem?_map, List.getElem?_range h]; rfl
theorem frL_at {W i : Nat} {y : Int} {f : Nat} (h : i < W) : [(frL W (some (y, f))).getD i id0] = frS (some (y, f)) i := by
  unfold frL frS; rw [rng_at _ h]
theorem bkL_at {W i : Nat} {y : Int} {f : Nat} (h : i < W) : [(bkL W (some (y, f))).getD i id0] = bkS W (some (y, f)) i := by
  unfold bkL bkS; rw [rng_at _ h]
theorem frL_len (W : Nat) (y : Int) (f : Nat) : (frL W (some (y, f))).length = W := by simp [frL]
theorem bkL_len (W : Nat) (y : Int) (f : Nat) : (bkL W (some (y, f))).length = W := by simp [bkL]
theorem rng_set {α : Type} (φ : Nat → α) (z : α) {W i : Nat} (h : i < W) : ((List.range i).map φ ++ List.replicate (W - i) z).set i (φ i) = (List.range (i + 1)).map φ ++ List.replicate (W - (i + 1)) z := by
  have e := set_at ((List.range i).map φ) (W - (i + 1)) z (φ i)
  rw [List.length_map, List.length_range, show W - (i + 1) + 1 = W - i by omega] at e
  rw [e, List.range_succ, List.map_append]; rfl
theorem tabP_set (ts : List TQ) (j : Nat) (u : SV) (ls : List LpQ) : tabP (ts.set j (u, ls)) = (tabP ts).set j (ls.map LpQ.p) := by
  show List.map _ _ = _; rw [List.map_set]
theorem rnds_st {W : Nat} {rs : List UInt8} {r : Nat} (hv : ∀ y ∈ rs, 1 ≤ y.toNat ∧ y.toNat ≤ 6) (hr : r ≤ rs.length) (h0 : 0 < r) : ∃ (y : Int) (f : Nat), (rndsT W (rs.take r)).2 = some (y, f) := by
  obtain ⟨k, rfl⟩ : ∃ k, r = k + 1 := ⟨r - 1, by omega⟩
  rw [rnds_take W rs k (by omega)]
  exact ⟨_, _, rfl⟩
theorem tab_row {ts : List TQ} {T : List (List Lp)} {j : Nat} (h : tabP ts = T) (hj : j < ts.length) : (ts.getD j tq0).2.map LpQ.p = T.getD j [] := by
  rw [← h, map_getD' (fun p : TQ => p.2.map LpQ.p) ts j tq0 [] hj]
/-- A table but for its row j, which is made apart. -/
structure TbR (τ : TyK) (base : Nat) (w : World) (ts : List TQ) (j : Nat) (u : SV) (ls : List LpQ) : Prop where
  row : Lw.Own encLp τ.L base w (slv u) ls
  lps : ∀ q ∈ ls, LpO τ base w q
  ins : ∀ i, i < ts.length → i ≠ j → Lw.Own encLp τ.L base w (slv (ts.getD i tq0).1) (ts.getD i tq0).2
  offj : ∀ i, i < ts.length → i ≠ j → ∀ k ∈ blks (slv u), k ∉ blks (slv (ts.getD i tq0).1)
  off : ∀ i i', i < ts.length → i' < ts.length → i ≠ j → i' ≠ j → i ≠ i' → ∀ k ∈ blks (slv (ts.getD i tq0).1), k ∉ blks (slv (ts.getD i' tq0).1)
  lpi : ∀ i, i < ts.length → i ≠ j → ∀ q ∈ (ts.getD i tq0).2, LpO τ base w q
section
variable {τ : TyK} {base : Nat} {w w' : World} {v : Value} {ts : List TQ} {j : Nat} {u u' : SV} {ls : List LpQ} {q : LpQ}
theorem TbR.ext (h : TbR τ base w ts j u ls) (hf : Fr [] w w') : TbR τ base w' ts j u ls :=
  ⟨h.row.ext hf, fun q hq => ⟨(h.lps q hq).1.ext hf, (h.lps q hq).2.ext hf⟩, fun i hi hj => (h.ins i hi hj).ext hf, h.offj, h.off, fun i hi hj q hq => ⟨(h.lpi i hi hj q hq).1.ext hf, (h.lpi i hi hj q hq).2.ext hf⟩⟩
theorem TbO.opened (h : TbO τ base w v ts) (hj : j < ts.length) : TbR τ base w ts j (ts.getD j tq0).1 (ts.getD j tq0).2 :=
  ⟨h.ins j hj, h.lps j hj, fun i hi _ => h.ins i hi, fun i hi hij => h.off j i hj hi (Ne.symm hij), fun i i' hi hi' _ _ h2 => h.off i i' hi hi' h2, fun i hi _ => h.lps i hi⟩
theorem TbR.push (hτ : τ.Ok) (h : TbR τ base w ts j u ls) (hq : LpO τ base w q) (h1 : Lw.Own encLp τ.L base w' (slv u') (ls ++ [q])) (f1 : Fr (blks (slv u)) w w') (hx : slv u' = slv u ∨ blks (slv u') = blks (slv u) ∨ blks (slv u') = [w.heap.size]) : TbR τ base w' ts j u' (ls ++ [q]) := by
  have o1 : ∀ T, T ≠ τ.L → OffT w T (blks (slv u)) := fun T hT => own_off h.row (Ne.symm hT)
  have g : ∀ p, LpO τ base w p → LpO τ base w' p := fun p hp => hp.tf f1 (o1 _ (Ne.symm hτ.li)) (o1 _ (Ne.symm hτ.lp))
  refine ⟨h1, fun p hp => ?_, fun i hi hj => (h.ins i hi hj).fr f1 (h.offj i hi hj), fun i hi hij b hb hb2 => ?_, h.off, fun i hi hj p hp => g p (h.lpi i hi hj p hp)⟩
  · rcases List.mem_append.1 hp with hp | hp
    · exact g p (h.lps p hp)
    · rw [List.mem_singleton.1 hp]; exact g q hq
  · rcases hx with e | e | e
    · rw [e] at hb; exact h.offj i hi hij b hb hb2
    · rw [e] at hb; exact h.offj i hi hij b hb hb2
    · rw [e, List.mem_singleton] at hb; subst hb
      have := ((h.ins i hi hij).blk _ hb2).2; omega
theorem TbR.close (hτ : τ.Ok) (h : TbR τ base w ts j u ls) (hj : j < ts.length) (h0 : Lw.Own encTq τ.T base w v ts) (h2 : Lw.Own encTq τ.T base w' v (ts.set j (u, ls))) (f2 : Fr (blks v) w w') : TbO τ base w' v (ts.set j (u, ls)) := by
  have o2 : ∀ T, T ≠ τ.T → OffT w T (blks v) := fun T hT => own_off h0 (Ne.symm hT)
  have g : ∀ p, LpO τ base w p → LpO τ base w' p := fun p hp => hp.tf f2 (o2 _ (Ne.symm hτ.ti)) (o2 _ (Ne.symm hτ.tp))
  refine ⟨h2, fun i hi => ?_, fun i k hi hk hik => ?_, fun i hi p hp => ?_⟩
  · rw [List.length_set] at hi
    rw [set_getD hj]
    split
    · exact own_tf h.row f2 (o2 _ (Ne.symm hτ.tl))
    · rename_i e; exact own_tf (h.ins i hi (Ne.symm e)) f2 (o2 _ (Ne.symm hτ.tl))
  · rw [List.length_set] at hi hk
    rw [set_getD hj, set_getD hj]
    split <;> split
    · rename_i e1 e2; exact absurd (e1.symm.trans e2) hik
    · rename_i e1 e2; exact h.offj k hk (Ne.symm e2)
    · rename_i e1 e2; exact fun b hb hb2 => h.offj i hi (Ne.symm e1) b hb2 hb
    · rename_i e1 e2; exact h.off i k hi hk (Ne.symm e1) (Ne.symm e2) hik
  · rw [List.length_set] at hi
    rw [set_getD hj] at hp
    split at hp
    · exact g p (h.lps p hp)
    · rename_i e; exact g p (h.lpi i hi (Ne.symm e) p hp)
end
end Go.G21
namespace Go.Proofs.YtgdlgjkjpbbniaaDoor
open Go.Lw Go.G21

set_option maxHeartbeats 4000000 in
theorem refof_ok (W : Nat) (v : Value) (rs : List UInt8) (w0 : World) (hs : Sl Enc.b w0 v rs) (h0 : tubE (W : Int) rs = 0) : Rets Tryd.prog 9 #[.agg #[.int .i64 (W : Int), v]] w0 fun r w' => ∃ q : FbQ, r = .agg (fbL q).toArray ∧ FbAt w' q ∧ q.p = tubF W rs ∧ Fr [] w0 w' := by
 obtain ⟨A, c, rfl, hcc, hM, hA⟩ := id hs
 clear hA
 unfold maxLen at hM
 obtain ⟨hw1, hw16, hl1, hl31, hv⟩ := tub_of h0
 refine we [(0, .agg #[.int .i64 (W : Int), .slice A rs.length c])] Tryd.func9 rfl Tryd.ntmps9 rfl (.cons rfl .nil) ?_
 have hs0 := hs
 refine sr (bx rfl rfl rfl (fun g1 w1 hg1 hb1 q1 z1 => ?_))
 refine al zv33 rfl rfl (fun g2 w2 hg2 hb2 q2 z2 => ?_)
 replace hb1 := hb1.ext q2
 have sb1 := hb1
 have sb2 := hb2
 refine nn (sr ?_)
 refine s_makeSlice (m := 6) (c := 6) (tq0) rfl rfl el29 zv42 rfl (by omega) (by omega) (by decide) rfl (fun gT w3 hgT hoT q3 z3 => ?_)
 refine s_lit (cs := [_, _, _, _]) (ev1 rfl) bo33 (pok_cons rfl rfl rfl pok_nil) rfl rfl ?_
 refine al zv33 rfl rfl (fun g3 w4 hg3 hb3 q4 z4 => ?_)
 refine s_storeBA (vs := [_, _, _, _]) rfl rfl hb3 (by rfl) (by first | (simp [Value.oneCell', S]; done) | exact Enc.one _ _) sz33 (fun w5 hb3 q5 z5 => ?_)
 refine nn (sr (fad rfl fa26_0 rfl ?_))
 replace hb1 := (hb1.ext (q3.next q4)).fr q5 (by first | (simp; done) | (simp; omega) | (simp [blks]; done) | (simp [blks]; omega))
 refine s_loadB rfl hb1 rfl na3 rfl (asg rfl rfl (nn (sr (asg rfl rfl (asg rfl rfl (nn (sq (sr (asg rfl rfl (nn (bl ?_)))))))))))
 replace hoT := (hoT.ext q4).fr q5 (by intro k hk hb; simp [blks] at hk hb; omega)
 refine lpK (ι := Nat × SV × SV) [(1, _), (2, _), (3, _), (4, _)] (fun p => [(7, .int .i64 (p.1 : Int)), (5, .slice p.2.1.1 p.2.1.2.1 p.2.1.2.2), (6, .slice p.2.2.1 p.2.2.2.1 p.2.2.2.2)]) (fun p w' => p.1 ≤ rs.length ∧ ∃ ts, TbO τd w2.heap.size w' (.slice (some ⟨gT, 0, none⟩) 6 6) ts ∧ ts.length = 6 ∧ tabP ts = (rndsT W (rs.take p.1)).1 ∧ Blk w' g3 33 [.slice (some ⟨gT, 0, none⟩) 6 6, .slice none 0 0, .slice none 0 0, .slice none 0 0] ∧ Lw.Own encId 61 w2.heap.size w' (slv p.2.1) (frL W (rndsT W (rs.take p.1)).2) ∧ Lw.Own encId 61 w2.heap.size w' (slv p.2.2) (bkL W (rndsT W (rs.take p.1)).2) ∧ Fr [] w2 w') (fun p => rs.length - p.1) (0, sv0, sv0) (.cons rfl (.cons rfl (.cons rfl (.cons rfl (.cons rfl (.cons rfl (.cons rfl .nil))))))) ⟨Nat.zero_le _, _, tbO0 (hoT.low (by omega)), rfl, rfl, hb3, Own.nil _, Own.nil _, ((q3.next q4).step q5 (by first | (simp; done) | (simp; omega)))⟩ ?_
 rintro ⟨r, fv, bv⟩ w6 ⟨hr, ts, hT, hlt, htP, hb3, hF, hK, qf⟩
 simp only at hr htP hF hK
 refine kpC [(1, _), (2, _), (3, _), (4, _), (7, .int .i64 (r : Int)), (5, .slice fv.1 fv.2.1 fv.2.2), (6, .slice bv.1 bv.2.1 bv.2.2)] (.cons rfl (.cons rfl (.cons rfl (.cons rfl (.cons rfl (.cons rfl (.cons rfl .nil))))))) ?_
 have hb1 := sb1.ext qf
 have hb2 := sb2.ext qf
 have hs := hs0
 have hzf := qf.size
 have lt3 := hb3.lt
 have hT0 := hT
 have hF0 := hF
 have hK0 := hK
 have hgTz := hT.out.blk gT (by simp [blks])
 
 refine sq (sr (mv rfl rfl (fad rfl fa26_1 rfl (s_loadB rfl hb1 rfl na22 rfl (lnS rfl Tryd.underlying22 rfl (lt' rfl rfl rfl (nn ?_)))))))
 refine cd rfl (fun c0 => ?_) (fun c0 => ?_)
 · have hlr : r < rs.length := by omega
   have hy := hv _ (mem_getD (d := 0) hlr)
   have hle := rnds_row (wd := W) (rs := rs.take r) (by omega) (by rw [List.length_take]; omega) ((rs.getD r 0).toNat - 1)
   have hrow := tab_row htP (j := ((rs.getD r 0).toNat - 1)) (by omega)
   have hrl := congrArg List.length hrow
   rw [List.length_map] at hrl
   have hsl_ := sl_len (hT.ins ((rs.getD r 0).toNat - 1) (by omega)).sl
   refine sk (tn (sq (bl (sr (fad rfl fa26_1 rfl (s_loadB rfl hb1 rfl na22 rfl (mv rfl rfl ?_)))))))
   replace hs := hs0.ext ((q1.next q2).next qf)
   refine s_idxL (p := r) ((0 : UInt8)) rfl hs rfl el22 (by omega) (by omega) (by omega) rfl (fun ad36 hc36 => ?_)
   refine s_loadC0 rfl (hc36 _ hs) na5 rfl (asg rfl rfl (kpL [(1, _), (2, _), (3, _), (4, _), (5, _), (6, _), (7, _), (8, _)] (.cons rfl (.cons rfl (.cons rfl (.cons rfl (.cons rfl (.cons rfl (.cons rfl (.cons rfl .nil)))))))) (nn (sr (fad rfl fa33_0 rfl (s_loadB rfl hb3 rfl na29 rfl (mv rfl rfl (s_sub rfl rfl (wi8 (by omega)) rfl (s_idxL (p := ((rs.getD r 0).toNat - 1)) (tq0) rfl hT.out.sl rfl el29 (by omega) (by omega) (by omega) rfl (fun ad42 hc42 => ?_))))))))))
   refine s_loadC0 rfl (hc42 _ hT.out.sl) na42 rfl (asg rfl rfl (kpL [(1, _), (2, _), (3, _), (4, _), (5, _), (6, _), (7, _), (8, _), (9, _)] (.cons rfl (.cons rfl (.cons rfl (.cons rfl (.cons rfl (.cons rfl (.cons rfl (.cons rfl (.cons rfl .nil))))))))) (nn (sr (mv rfl rfl (lnS rfl Tryd.underlying42 rfl (asg rfl rfl (nn (sq (sr (asg rfl rfl ?_)))))))))))
   refine nn (bl ?_)
   refine lpK (ι := Nat × SV) [(1, _), (2, _), (3, _), (4, _), (5, _), (6, _), (7, _), (8, _)] (fun p => [(11, .int .i64 (p.1 : Int)), (9, .slice p.2.1 p.2.2.1 p.2.2.2), (10, .int .i64 (((rndsT W (rs.take r)).1.getD ((rs.getD r 0).toNat - 1) []).length : Int))]) (fun p w' => p.1 ≤ W ∧ ∃ ls, Lw.Own encTq 42 w2.heap.size w' (.slice (some ⟨gT, 0, none⟩) 6 6) ts ∧ TbR τd w2.heap.size w' ts ((rs.getD r 0).toNat - 1) p.2 ls ∧ ls.map LpQ.p = ((rndsT W (rs.take r)).1.getD ((rs.getD r 0).toNat - 1) []) ++ rndF W (rndsT W (rs.take r)).2 ((rndsT W (rs.take r)).1.getD ((rs.getD r 0).toNat - 1) []).length p.1 ∧ Blk w' g3 33 [.slice (some ⟨gT, 0, none⟩) 6 6, .slice none 0 0, .slice none 0 0, .slice none 0 0] ∧ Lw.Own encId 61 w2.heap.size w' (slv fv) (frL W (rndsT W (rs.take r)).2) ∧ Lw.Own encId 61 w2.heap.size w' (slv bv) (bkL W (rndsT W (rs.take r)).2) ∧ Fr [] w2 w') (fun p => W - p.1) (0, (ts.getD ((rs.getD r 0).toNat - 1) tq0).1) (.cons rfl (.cons rfl (.cons rfl (.cons rfl (.cons rfl (.cons rfl (.cons rfl (.cons rfl (.cons rfl (.cons rfl (.cons (congrArg (fun z => some (Value.int .i64 z)) (by omega)) .nil))))))))))) ⟨Nat.zero_le _, _, hT.out, hT.opened (by omega), by rw [hrow]; exact (List.append_nil _).symm, hb3, hF, hK, qf⟩ ?_
   rintro ⟨i, u⟩ w7 ⟨hi, ls, hO, hX, hlsP, hb3, hF, hK, qf⟩
   simp only at hi hX hlsP
   refine kpC [(1, _), (2, _), (3, _), (4, _), (5, _), (6, _), (7, _), (8, _), (11, .int .i64 (i : Int)), (9, .slice u.1 u.2.1 u.2.2), (10, .int .i64 (((rndsT W (rs.take r)).1.getD ((rs.getD r 0).toNat - 1) []).length : Int))] (.cons rfl (.cons rfl (.cons rfl (.cons rfl (.cons rfl (.cons rfl (.cons rfl (.cons rfl (.cons rfl (.cons rfl (.cons rfl .nil))))))))))) ?_
   have hb1 := sb1.ext qf
   have hb2 := sb2.ext qf
   have hs := hs0
   have hzf := qf.size
   have lt3 := hb3.lt
   have hO0 := hO
   have hX0 := hX
   have hF0 := hF
   have hK0 := hK
   have hgTz := hO.blk gT (by simp [blks])
   
   refine sq (sr (mv rfl rfl (mv rfl rfl (lt' rfl rfl rfl (nn ?_)))))
   refine cd rfl (fun c1 => ?_) (fun c1 => ?_)
   · have hil : i < W := by omega
     have hll := congrArg List.length hlsP
     rw [List.length_map, List.length_append, rndF_len] at hll
     have hul := sl_len hX.row.sl
     refine sk (tn (sq (bl (sr (mv rfl rfl (lnS rfl Tryd.underlying42 rfl (eq' rfl rfl rfl (s_lit (cs := [_, _, _, _]) (ev2 rfl rfl) bo68 (pok_cons rfl rfl rfl (pok_cons rfl rfl rfl pok_nil)) rfl rfl ?_))))))))
     refine al zv68 rfl rfl (fun g12 w8 hg12 hb12 q8 z8 => ?_)
     refine s_storeBA (vs := [_, _, _, _]) rfl rfl hb12 (by rfl) (by first | (simp [Value.oneCell', S]; done) | exact Enc.one _ _) sz68 (fun w9 hb12 q9 z9 => ?_)
     refine nn (sq (sr (mv rfl rfl (gt' rfl rfl rfl (nn ?_)))))
     refine cd rfl (fun c2 => ?_) (fun c2 => ?_)
     · obtain ⟨yy, ff, hst⟩ := rnds_st (W := W) hv (show r ≤ rs.length by omega) (show 0 < r by omega)
       have hFl : (frL W (rndsT W (rs.take r)).2).length = W := by rw [hst]; exact frL_len _ _ _
       have hKl : (bkL W (rndsT W (rs.take r)).2).length = W := by rw [hst]; exact bkL_len _ _ _
       refine sr (mv rfl rfl (mv rfl rfl ?_))
       replace hF := hF0.ext (q8.step q9 (by first | (simp; done) | (simp; omega)))
       refine s_idxL (p := i) (id0) rfl hF.sl rfl el31 (by omega) (by omega) (by omega) rfl (fun ad59 hc59 => ?_)
       refine s_loadA rfl (hc59 _ hF.sl) ag61 rfl (s_bslice ([(frL W (rndsT W (rs.take r)).2).getD i id0]) (ev1 rfl) rfl rfl rfl el31 (Nat.le_of_ble_eq_true rfl) rfl (fun g61 w10 hg61 ho61 q10 z10 => ?_))
       refine fad rfl fa68_2 rfl ?_
       replace hb12 := hb12.ext q10
       refine s_storeB rfl rfl hb12 rfl rfl rfl sz31 (fun w11 hb12 q11 z11 => ?_)
       replace hb12 : Blk w11 g12 _ [_, _, _, _] := hb12
       refine kpL [(1, _), (2, _), (3, _), (4, _), (5, _), (6, _), (7, _), (8, _), (9, _), (10, _), (11, _), (12, _)] (.cons rfl (.cons rfl (.cons rfl (.cons rfl (.cons rfl (.cons rfl (.cons rfl (.cons rfl (.cons rfl (.cons rfl (.cons rfl (.cons rfl .nil)))))))))))) (nn (rg (mv rfl rfl (mv rfl rfl ?_))))
       replace hK := hK0.ext (((q8.step q9 (by first | (simp; done) | (simp; omega))).next q10).step q11 (by first | (simp; done) | (simp; omega)))
       refine s_idxL (p := i) (id0) rfl hK.sl rfl el31 (by omega) (by omega) (by omega) rfl (fun ad65 hc65 => ?_)
       refine s_loadA rfl (hc65 _ hK.sl) ag61 rfl (s_lit (cs := [_, _, _, _]) (ev3 rfl rfl rfl) bo71 (pok_cons rfl rfl rfl (pok_cons rfl rfl rfl (pok_cons rfl rfl rfl pok_nil))) rfl rfl ?_)
       refine s_bslice ([(⟨(bkL W (rndsT W (rs.take r)).2).getD i id0, true, 1⟩ : Pa)]) (ev1 rfl) rfl rfl rfl el66 (Nat.le_of_ble_eq_true rfl) rfl (fun g68 w12 hg68 ho68 q12 z12 => ?_)
       refine fad rfl fa68_3 rfl ?_
       replace hb12 := hb12.ext q12
       refine s_storeB rfl rfl hb12 rfl rfl rfl sz66 (fun w13 hb12 q13 z13 => ?_)
       replace hb12 : Blk w13 g12 _ [_, _, _, _] := hb12
       refine kpL [(1, _), (2, _), (3, _), (4, _), (5, _), (6, _), (7, _), (8, _), (9, _), (10, _), (11, _), (12, _)] (.cons rfl (.cons rfl (.cons rfl (.cons rfl (.cons rfl (.cons rfl (.cons rfl (.cons rfl (.cons rfl (.cons rfl (.cons rfl (.cons rfl .nil)))))))))))) (nl (tn (rg (mv rfl rfl (s_loadBA rfl hb12 ag68 rfl ?_)))))
       refine s_bslice ([(⟨0, decide ((u.2.1 : Int) = 0), (some ⟨g61, 0, none⟩, 1, 1), (some ⟨g68, 0, none⟩, 1, 1), [(frL W (rndsT W (rs.take r)).2).getD i id0], [⟨(bkL W (rndsT W (rs.take r)).2).getD i id0, true, 1⟩]⟩ : LpQ)]) (ev1 rfl) rfl rfl rfl el42 (Nat.le_of_ble_eq_true rfl) rfl (fun g72 w14 hg72 ho72 q14 z14 => ?_)
       replace hX := hX0.ext ((((((q8.step q9 (by first | (simp; done) | (simp; omega))).next q10).step q11 (by first | (simp; done) | (simp; omega))).next q12).step q13 (by first | (simp; done) | (simp; omega))).next q14)
       replace hO := hO0.ext ((((((q8.step q9 (by first | (simp; done) | (simp; omega))).next q10).step q11 (by first | (simp; done) | (simp; omega))).next q12).step q13 (by first | (simp; done) | (simp; omega))).next q14)
       replace hF := hF0.ext ((((((q8.step q9 (by first | (simp; done) | (simp; omega))).next q10).step q11 (by first | (simp; done) | (simp; omega))).next q12).step q13 (by first | (simp; done) | (simp; omega))).next q14)
       replace hK := hK0.ext ((((((q8.step q9 (by first | (simp; done) | (simp; omega))).next q10).step q11 (by first | (simp; done) | (simp; omega))).next q12).step q13 (by first | (simp; done) | (simp; omega))).next q14)
       replace hb3 := ((((((hb3.ext q8).fr q9 (by first | (simp; done) | (simp; omega) | (simp [blks]; done) | (simp [blks]; omega))).ext q10).fr q11 (by first | (simp; done) | (simp; omega) | (simp [blks]; done) | (simp [blks]; omega))).ext q12).fr q13 (by first | (simp; done) | (simp; omega) | (simp [blks]; done) | (simp [blks]; omega))).ext q14
       replace ho61 := (((ho61.fr q11 (by first | (simp; done) | (simp; omega) | (simp [blks]; done) | (simp [blks]; omega) | (intro k hk hb; simp at hk; subst hk; have := ho61.blk _ hb; omega))).ext q12).fr q13 (by first | (simp; done) | (simp; omega) | (simp [blks]; done) | (simp [blks]; omega) | (intro k hk hb; simp at hk; subst hk; have := ho61.blk _ hb; omega))).ext q14
       replace ho68 := (ho68.fr q13 (by first | (simp; done) | (simp; omega) | (simp [blks]; done) | (simp [blks]; omega) | (intro k hk hb; simp at hk; subst hk; have := ho68.blk _ hb; omega))).ext q14
       have qfp := (((((((qf.next q8).step q9 (by first | (simp; done) | (simp; omega))).next q10).step q11 (by first | (simp; done) | (simp; omega))).next q12).step q13 (by first | (simp; done) | (simp; omega))).next q14)
       have hzp := qfp.size
       have hlq : LpO τd w2.heap.size w14 (⟨0, decide ((u.2.1 : Int) = 0), (some ⟨g61, 0, none⟩, 1, 1), (some ⟨g68, 0, none⟩, 1, 1), [(frL W (rndsT W (rs.take r)).2).getD i id0], [⟨(bkL W (rndsT W (rs.take r)).2).getD i id0, true, 1⟩]⟩ : LpQ) := ⟨ho61.low (by omega), ho68.low (by omega)⟩
       refine s_append rfl rfl hX.row ho72.sl el42 (by unfold maxLen; simp only [List.length_cons, List.length_nil]; omega) (by simp only [List.length_cons, List.length_nil]; omega) (by omega) rfl (fun v73 w15 ho73 q73 hor73 => ?_)
       obtain ⟨A73, c73, rfl, -⟩ := ho73.sl.form
       have oL := fun (T : Nat) (h_ : T ≠ 68) => own_off hX.row (Ne.symm h_)
       have hX2 := hX.push (u' := (A73, (ls ++ [(⟨0, decide ((u.2.1 : Int) = 0), (some ⟨g61, 0, none⟩, 1, 1), (some ⟨g68, 0, none⟩, 1, 1), [(frL W (rndsT W (rs.take r)).2).getD i id0], [⟨(bkL W (rndsT W (rs.take r)).2).getD i id0, true, 1⟩]⟩ : LpQ)]).length, c73)) τd_ok hlq ho73 q73 hor73
       have hO2 := own_tf hO q73 (oL _ (by decide))
       have hb32 := blk_tf hb3 q73 (oL _ (by decide))
       have hF2 := own_tf hF q73 (oL _ (by decide))
       have hK2 := own_tf hK q73 (oL _ (by decide))
       have qf2 := qfp.step q73 (fun k k_ hlt => by have := (hX.row.blk k k_).1; omega)
       have hQ : (⟨0, decide ((u.2.1 : Int) = 0), (some ⟨g61, 0, none⟩, 1, 1), (some ⟨g68, 0, none⟩, 1, 1), [(frL W (rndsT W (rs.take r)).2).getD i id0], [⟨(bkL W (rndsT W (rs.take r)).2).getD i id0, true, 1⟩]⟩ : LpQ).p = lpF W (rndsT W (rs.take r)).2 ((rndsT W (rs.take r)).1.getD ((rs.getD r 0).toNat - 1) []).length i := by rw [lpF, hst, ← frL_at hil, ← bkL_at hil, show decide (((rndsT W (rs.take r)).1.getD ((rs.getD r 0).toNat - 1) []).length + i = 0) = decide ((u.2.1 : Int) = 0) from decide_eq_decide.2 (by omega)]; rfl
       refine asg rfl rfl (nl (bn' (tn (rg (mv rfl rfl (s_add rfl rfl (wi6 (by omega)) rfl (asg rfl rfl (nl ?_))))))))
       exact lpE ((i + 1, (A73, (ls ++ [(⟨0, decide ((u.2.1 : Int) = 0), (some ⟨g61, 0, none⟩, 1, 1), (some ⟨g68, 0, none⟩, 1, 1), [(frL W (rndsT W (rs.take r)).2).getD i id0], [⟨(bkL W (rndsT W (rs.take r)).2).getD i id0, true, 1⟩]⟩ : LpQ)]).length, c73))) (.cons rfl (.cons rfl (.cons rfl (.cons rfl (.cons rfl (.cons rfl (.cons rfl (.cons rfl (.cons rfl (.cons rfl (.cons rfl .nil))))))))))) ⟨by simp only; omega, _, hO2, hX2, by rw [List.map_append, hlsP, rndF_succ, List.append_assoc, List.map_cons, hQ]; rfl, hb32, hF2, hK2, qf2⟩ (by simp only; omega)
     · have hst : (rndsT W (rs.take r)).2 = none := by rw [show r = 0 by omega]; rfl
       refine sk (tn (rg (mv rfl rfl (s_loadBA rfl hb12 ag68 rfl ?_))))
       refine s_bslice ([(⟨0, decide ((u.2.1 : Int) = 0), sv0, sv0, [], []⟩ : LpQ)]) (ev1 rfl) rfl rfl rfl el42 (Nat.le_of_ble_eq_true rfl) rfl (fun g72 w16 hg72 ho72 q16 z16 => ?_)
       replace hX := hX0.ext ((q8.step q9 (by first | (simp; done) | (simp; omega))).next q16)
       replace hO := hO0.ext ((q8.step q9 (by first | (simp; done) | (simp; omega))).next q16)
       replace hF := hF0.ext ((q8.step q9 (by first | (simp; done) | (simp; omega))).next q16)
       replace hK := hK0.ext ((q8.step q9 (by first | (simp; done) | (simp; omega))).next q16)
       replace hb3 := ((hb3.ext q8).fr q9 (by first | (simp; done) | (simp; omega) | (simp [blks]; done) | (simp [blks]; omega))).ext q16
       have qfp := (((qf.next q8).step q9 (by first | (simp; done) | (simp; omega))).next q16)
       have hzp := qfp.size
       have hlq : LpO τd w2.heap.size w16 (⟨0, decide ((u.2.1 : Int) = 0), sv0, sv0, [], []⟩ : LpQ) := ⟨Own.nil _, Own.nil _⟩
       refine s_append rfl rfl hX.row ho72.sl el42 (by unfold maxLen; simp only [List.length_cons, List.length_nil]; omega) (by simp only [List.length_cons, List.length_nil]; omega) (by omega) rfl (fun v73 w17 ho73 q73 hor73 => ?_)
       obtain ⟨A73, c73, rfl, -⟩ := ho73.sl.form
       have oL := fun (T : Nat) (h_ : T ≠ 68) => own_off hX.row (Ne.symm h_)
       have hX2 := hX.push (u' := (A73, (ls ++ [(⟨0, decide ((u.2.1 : Int) = 0), sv0, sv0, [], []⟩ : LpQ)]).length, c73)) τd_ok hlq ho73 q73 hor73
       have hO2 := own_tf hO q73 (oL _ (by decide))
       have hb32 := blk_tf hb3 q73 (oL _ (by decide))
       have hF2 := own_tf hF q73 (oL _ (by decide))
       have hK2 := own_tf hK q73 (oL _ (by decide))
       have qf2 := qfp.step q73 (fun k k_ hlt => by have := (hX.row.blk k k_).1; omega)
       have hQ : (⟨0, decide ((u.2.1 : Int) = 0), sv0, sv0, [], []⟩ : LpQ).p = lpF W (rndsT W (rs.take r)).2 ((rndsT W (rs.take r)).1.getD ((rs.getD r 0).toNat - 1) []).length i := by rw [lpF, hst, show decide (((rndsT W (rs.take r)).1.getD ((rs.getD r 0).toNat - 1) []).length + i = 0) = decide ((u.2.1 : Int) = 0) from decide_eq_decide.2 (by omega)]; rfl
       refine asg rfl rfl (kpL [(1, _), (2, _), (3, _), (4, _), (5, _), (6, _), (7, _), (8, _), (9, _), (10, _), (11, _)] (.cons rfl (.cons rfl (.cons rfl (.cons rfl (.cons rfl (.cons rfl (.cons rfl (.cons rfl (.cons rfl (.cons rfl (.cons rfl .nil))))))))))) (nl (bn' (tn (rg (mv rfl rfl (s_add rfl rfl (wi6 (by omega)) rfl (asg rfl rfl (nl ?_)))))))))
       exact lpE ((i + 1, (A73, (ls ++ [(⟨0, decide ((u.2.1 : Int) = 0), sv0, sv0, [], []⟩ : LpQ)]).length, c73))) (.cons rfl (.cons rfl (.cons rfl (.cons rfl (.cons rfl (.cons rfl (.cons rfl (.cons rfl (.cons rfl (.cons rfl (.cons rfl .nil))))))))))) ⟨by simp only; omega, _, hO2, hX2, by rw [List.map_append, hlsP, rndF_succ, List.append_assoc, List.map_cons, hQ]; rfl, hb32, hF2, hK2, qf2⟩ (by simp only; omega)
   · refine ex (te (te (xh (tn (sq (sr (asg rfl rfl (nn (bl ?_)))))))))
     refine lpK (ι := Nat × SV) [(1, _), (2, _), (3, _), (4, _), (6, _), (7, _), (8, _), (10, _)] (fun p => [(13, .int .i64 (p.1 : Int)), (9, .slice p.2.1 p.2.2.1 p.2.2.2)]) (fun p w' => p.1 ≤ W ∧ ∃ ls, Lw.Own encTq 42 w2.heap.size w' (.slice (some ⟨gT, 0, none⟩) 6 6) ts ∧ TbR τd w2.heap.size w' ts ((rs.getD r 0).toNat - 1) p.2 ls ∧ ls.map LpQ.p = ((rndsT W (rs.take r)).1.getD ((rs.getD r 0).toNat - 1) []) ++ rndF W (rndsT W (rs.take r)).2 ((rndsT W (rs.take r)).1.getD ((rs.getD r 0).toNat - 1) []).length W ++ rndB W (rndsT W (rs.take r)).2 ((rs.getD r 0).toNat : Int) ((rndsT W (rs.take r)).1.getD ((rs.getD r 0).toNat - 1) []).length p.1 ∧ Blk w' g3 33 [.slice (some ⟨gT, 0, none⟩) 6 6, .slice none 0 0, .slice none 0 0, .slice none 0 0] ∧ Lw.Own encId 61 w2.heap.size w' (slv fv) (frL W (rndsT W (rs.take r)).2) ∧ Lw.Own encId 61 w2.heap.size w' (slv bv) (bkL W (rndsT W (rs.take r)).2) ∧ Fr [] w2 w') (fun p => W - p.1) (0, u) (.cons rfl (.cons rfl (.cons rfl (.cons rfl (.cons rfl (.cons rfl (.cons rfl (.cons rfl (.cons rfl (.cons rfl .nil)))))))))) ⟨Nat.zero_le _, _, hO, hX, by rw [hlsP, show i = W by omega]; exact (List.append_nil _).symm, hb3, hF, hK, qf⟩ ?_
     rintro ⟨i, u⟩ w18 ⟨hi, ls, hO, hX, hlsP, hb3, hF, hK, qf⟩
     simp only at hi hX hlsP
     refine kpC [(1, _), (2, _), (3, _), (4, _), (6, _), (7, _), (8, _), (10, _), (13, .int .i64 (i : Int)), (9, .slice u.1 u.2.1 u.2.2)] (.cons rfl (.cons rfl (.cons rfl (.cons rfl (.cons rfl (.cons rfl (.cons rfl (.cons rfl (.cons rfl (.cons rfl .nil)))))))))) ?_
     have hb1 := sb1.ext qf
     have hb2 := sb2.ext qf
     have hs := hs0
     have hzf := qf.size
     have lt3 := hb3.lt
     have hO0 := hO
     have hX0 := hX
     have hF0 := hF
     have hK0 := hK
     have hgTz := hO.blk gT (by simp [blks])
     
     refine sq (sr (mv rfl rfl (mv rfl rfl (lt' rfl rfl rfl (nn ?_)))))
     refine cd rfl (fun c3 => ?_) (fun c3 => ?_)
     · have hil : i < W := by omega
       have hll := congrArg List.length hlsP
       rw [List.length_map, List.length_append, List.length_append, rndF_len, rndB_len] at hll
       have hul := sl_len hX.row.sl
       refine sk (tn (sq (bl (sr (mv rfl rfl (s_sub rfl rfl (wi6 (by omega)) rfl (mv rfl rfl (s_sub rfl rfl (wi6 (by omega)) rfl (asg rfl rfl (nn (sr ?_)))))))))))
       refine mv rfl rfl (mv rfl rfl (mv rfl rfl (s_add rfl rfl (wi6 (by omega)) rfl (s_lit (cs := [_, _]) (ev2 rfl rfl) bo61 (pok_cons rfl rfl rfl (pok_cons rfl rfl rfl pok_nil)) rfl rfl ?_))))
       refine s_lit (cs := [_, _, _, _]) (ev2 rfl rfl) bo71 (pok_cons rfl rfl rfl (pok_cons rfl rfl rfl pok_nil)) rfl rfl ?_
       refine s_bslice ([(⟨⟨((rs.getD r 0).toNat : Int), (((rndsT W (rs.take r)).1.getD ((rs.getD r 0).toNat - 1) []).length : Int) + ((W : Int) - 1 - (i : Int))⟩, false, 0⟩ : Pa)]) (ev1 rfl) rfl rfl rfl el66 (Nat.le_of_ble_eq_true rfl) rfl (fun g89 w19 hg89 ho89 q19 z19 => ?_)
       refine s_lit (cs := [_, _, _, _]) (ev2 rfl rfl) bo68 (pok_cons rfl rfl rfl (pok_cons rfl rfl rfl pok_nil)) rfl rfl ?_
       refine al zv68 rfl rfl (fun g15 w20 hg15 hb15 q20 z20 => ?_)
       refine s_storeBA (vs := [_, _, _, _]) rfl rfl hb15 (by rfl) (by first | (simp [Value.oneCell', S]; done) | exact Enc.one _ _) sz68 (fun w21 hb15 q21 z21 => ?_)
       refine kpL [(1, _), (2, _), (3, _), (4, _), (6, _), (7, _), (8, _), (9, _), (10, _), (13, _), (14, _), (15, _)] (.cons rfl (.cons rfl (.cons rfl (.cons rfl (.cons rfl (.cons rfl (.cons rfl (.cons rfl (.cons rfl (.cons rfl (.cons rfl (.cons rfl .nil)))))))))))) (nn (sq (sr (mv rfl rfl (gt' rfl rfl rfl (nn ?_))))))
       refine cd rfl (fun c4 => ?_) (fun c4 => ?_)
       · obtain ⟨yy, ff, hst⟩ := rnds_st (W := W) hv (show r ≤ rs.length by omega) (show 0 < r by omega)
         have hFl : (frL W (rndsT W (rs.take r)).2).length = W := by rw [hst]; exact frL_len _ _ _
         have hKl : (bkL W (rndsT W (rs.take r)).2).length = W := by rw [hst]; exact bkL_len _ _ _
         refine rg (mv rfl rfl (mv rfl rfl ?_))
         replace hK := hK0.ext ((q19.next q20).step q21 (by first | (simp; done) | (simp; omega)))
         refine s_idxL (p := (W - 1 - i)) (id0) rfl hK.sl rfl el31 (by omega) (by omega) (by omega) rfl (fun ad95 hc95 => ?_)
         refine s_loadA rfl (hc95 _ hK.sl) ag61 rfl (s_bslice ([(bkL W (rndsT W (rs.take r)).2).getD (W - 1 - i) id0]) (ev1 rfl) rfl rfl rfl el31 (Nat.le_of_ble_eq_true rfl) rfl (fun g97 w22 hg97 ho97 q22 z22 => ?_))
         refine fad rfl fa68_2 rfl ?_
         replace hb15 := hb15.ext q22
         refine s_storeB rfl rfl hb15 rfl rfl rfl sz31 (fun w23 hb15 q23 z23 => ?_)
         replace hb15 : Blk w23 g15 _ [_, _, _, _] := hb15
         refine kpL [(1, _), (2, _), (3, _), (4, _), (6, _), (7, _), (8, _), (9, _), (10, _), (13, _), (15, _)] (.cons rfl (.cons rfl (.cons rfl (.cons rfl (.cons rfl (.cons rfl (.cons rfl (.cons rfl (.cons rfl (.cons rfl (.cons rfl .nil))))))))))) (nl (tn (rg (mv rfl rfl (s_loadBA rfl hb15 ag68 rfl ?_)))))
         refine s_bslice ([(⟨1, false, (some ⟨g97, 0, none⟩, 1, 1), (some ⟨g89, 0, none⟩, 1, 1), [(bkL W (rndsT W (rs.take r)).2).getD (W - 1 - i) id0], [(⟨⟨((rs.getD r 0).toNat : Int), (((rndsT W (rs.take r)).1.getD ((rs.getD r 0).toNat - 1) []).length : Int) + ((W : Int) - 1 - (i : Int))⟩, false, 0⟩ : Pa)]⟩ : LpQ)]) (ev1 rfl) rfl rfl rfl el42 (Nat.le_of_ble_eq_true rfl) rfl (fun g101 w24 hg101 ho101 q24 z24 => ?_)
         replace hX := hX0.ext (((((q19.next q20).step q21 (by first | (simp; done) | (simp; omega))).next q22).step q23 (by first | (simp; done) | (simp; omega))).next q24)
         replace hO := hO0.ext (((((q19.next q20).step q21 (by first | (simp; done) | (simp; omega))).next q22).step q23 (by first | (simp; done) | (simp; omega))).next q24)
         replace hF := hF0.ext (((((q19.next q20).step q21 (by first | (simp; done) | (simp; omega))).next q22).step q23 (by first | (simp; done) | (simp; omega))).next q24)
         replace hK := hK0.ext (((((q19.next q20).step q21 (by first | (simp; done) | (simp; omega))).next q22).step q23 (by first | (simp; done) | (simp; omega))).next q24)
         replace hb3 := ((((hb3.ext (q19.next q20)).fr q21 (by first | (simp; done) | (simp; omega) | (simp [blks]; done) | (simp [blks]; omega))).ext q22).fr q23 (by first | (simp; done) | (simp; omega) | (simp [blks]; done) | (simp [blks]; omega))).ext q24
         replace ho97 := (ho97.fr q23 (by first | (simp; done) | (simp; omega) | (simp [blks]; done) | (simp [blks]; omega) | (intro k hk hb; simp at hk; subst hk; have := ho97.blk _ hb; omega))).ext q24
         replace ho89 := ((((ho89.ext q20).fr q21 (by first | (simp; done) | (simp; omega) | (simp [blks]; done) | (simp [blks]; omega) | (intro k hk hb; simp at hk; subst hk; have := ho89.blk _ hb; omega))).ext q22).fr q23 (by first | (simp; done) | (simp; omega) | (simp [blks]; done) | (simp [blks]; omega) | (intro k hk hb; simp at hk; subst hk; have := ho89.blk _ hb; omega))).ext q24
         have qfp := ((((((qf.next q19).next q20).step q21 (by first | (simp; done) | (simp; omega))).next q22).step q23 (by first | (simp; done) | (simp; omega))).next q24)
         have hzp := qfp.size
         have hlq : LpO τd w2.heap.size w24 (⟨1, false, (some ⟨g97, 0, none⟩, 1, 1), (some ⟨g89, 0, none⟩, 1, 1), [(bkL W (rndsT W (rs.take r)).2).getD (W - 1 - i) id0], [(⟨⟨((rs.getD r 0).toNat : Int), (((rndsT W (rs.take r)).1.getD ((rs.getD r 0).toNat - 1) []).length : Int) + ((W : Int) - 1 - (i : Int))⟩, false, 0⟩ : Pa)]⟩ : LpQ) := ⟨ho97.low (by omega), ho89.low (by omega)⟩
         refine s_append rfl rfl hX.row ho101.sl el42 (by unfold maxLen; simp only [List.length_cons, List.length_nil]; omega) (by simp only [List.length_cons, List.length_nil]; omega) (by omega) rfl (fun v102 w25 ho102 q102 hor102 => ?_)
         obtain ⟨A102, c102, rfl, -⟩ := ho102.sl.form
         have oL := fun (T : Nat) (h_ : T ≠ 68) => own_off hX.row (Ne.symm h_)
         have hX2 := hX.push (u' := (A102, (ls ++ [(⟨1, false, (some ⟨g97, 0, none⟩, 1, 1), (some ⟨g89, 0, none⟩, 1, 1), [(bkL W (rndsT W (rs.take r)).2).getD (W - 1 - i) id0], [(⟨⟨((rs.getD r 0).toNat : Int), (((rndsT W (rs.take r)).1.getD ((rs.getD r 0).toNat - 1) []).length : Int) + ((W : Int) - 1 - (i : Int))⟩, false, 0⟩ : Pa)]⟩ : LpQ)]).length, c102)) τd_ok hlq ho102 q102 hor102
         have hO2 := own_tf hO q102 (oL _ (by decide))
         have hb32 := blk_tf hb3 q102 (oL _ (by decide))
         have hF2 := own_tf hF q102 (oL _ (by decide))
         have hK2 := own_tf hK q102 (oL _ (by decide))
         have qf2 := qfp.step q102 (fun k k_ hlt => by have := (hX.row.blk k k_).1; omega)
         have hQ : (⟨1, false, (some ⟨g97, 0, none⟩, 1, 1), (some ⟨g89, 0, none⟩, 1, 1), [(bkL W (rndsT W (rs.take r)).2).getD (W - 1 - i) id0], [(⟨⟨((rs.getD r 0).toNat : Int), (((rndsT W (rs.take r)).1.getD ((rs.getD r 0).toNat - 1) []).length : Int) + ((W : Int) - 1 - (i : Int))⟩, false, 0⟩ : Pa)]⟩ : LpQ).p = lpB W (rndsT W (rs.take r)).2 ((rs.getD r 0).toNat : Int) ((rndsT W (rs.take r)).1.getD ((rs.getD r 0).toNat - 1) []).length i := by rw [lpB, hst, ← bkL_at (show W - 1 - i < W by omega), show ((((rndsT W (rs.take r)).1.getD ((rs.getD r 0).toNat - 1) []).length + (W - 1 - i) : Nat) : Int) = (((rndsT W (rs.take r)).1.getD ((rs.getD r 0).toNat - 1) []).length : Int) + ((W : Int) - 1 - (i : Int)) by omega]; rfl
         refine asg rfl rfl (nl (bn' (tn (rg (mv rfl rfl (s_add rfl rfl (wi6 (by omega)) rfl (asg rfl rfl (nl ?_))))))))
         exact lpE ((i + 1, (A102, (ls ++ [(⟨1, false, (some ⟨g97, 0, none⟩, 1, 1), (some ⟨g89, 0, none⟩, 1, 1), [(bkL W (rndsT W (rs.take r)).2).getD (W - 1 - i) id0], [(⟨⟨((rs.getD r 0).toNat : Int), (((rndsT W (rs.take r)).1.getD ((rs.getD r 0).toNat - 1) []).length : Int) + ((W : Int) - 1 - (i : Int))⟩, false, 0⟩ : Pa)]⟩ : LpQ)]).length, c102))) (.cons rfl (.cons rfl (.cons rfl (.cons rfl (.cons rfl (.cons rfl (.cons rfl (.cons rfl (.cons rfl (.cons rfl .nil)))))))))) ⟨by simp only; omega, _, hO2, hX2, by rw [List.map_append, hlsP, rndB_succ, List.append_assoc _ (rndB _ _ _ _ _), List.map_cons, hQ]; rfl, hb32, hF2, hK2, qf2⟩ (by simp only; omega)
       · have hst : (rndsT W (rs.take r)).2 = none := by rw [show r = 0 by omega]; rfl
         refine sk (tn (rg (mv rfl rfl (s_loadBA rfl hb15 ag68 rfl ?_))))
         refine s_bslice ([(⟨1, false, sv0, (some ⟨g89, 0, none⟩, 1, 1), [], [(⟨⟨((rs.getD r 0).toNat : Int), (((rndsT W (rs.take r)).1.getD ((rs.getD r 0).toNat - 1) []).length : Int) + ((W : Int) - 1 - (i : Int))⟩, false, 0⟩ : Pa)]⟩ : LpQ)]) (ev1 rfl) rfl rfl rfl el42 (Nat.le_of_ble_eq_true rfl) rfl (fun g101 w26 hg101 ho101 q26 z26 => ?_)
         replace hX := hX0.ext (((q19.next q20).step q21 (by first | (simp; done) | (simp; omega))).next q26)
         replace hO := hO0.ext (((q19.next q20).step q21 (by first | (simp; done) | (simp; omega))).next q26)
         replace hF := hF0.ext (((q19.next q20).step q21 (by first | (simp; done) | (simp; omega))).next q26)
         replace hK := hK0.ext (((q19.next q20).step q21 (by first | (simp; done) | (simp; omega))).next q26)
         replace hb3 := ((hb3.ext (q19.next q20)).fr q21 (by first | (simp; done) | (simp; omega) | (simp [blks]; done) | (simp [blks]; omega))).ext q26
         replace ho89 := ((ho89.ext q20).fr q21 (by first | (simp; done) | (simp; omega) | (simp [blks]; done) | (simp [blks]; omega) | (intro k hk hb; simp at hk; subst hk; have := ho89.blk _ hb; omega))).ext q26
         have qfp := ((((qf.next q19).next q20).step q21 (by first | (simp; done) | (simp; omega))).next q26)
         have hzp := qfp.size
         have hlq : LpO τd w2.heap.size w26 (⟨1, false, sv0, (some ⟨g89, 0, none⟩, 1, 1), [], [(⟨⟨((rs.getD r 0).toNat : Int), (((rndsT W (rs.take r)).1.getD ((rs.getD r 0).toNat - 1) []).length : Int) + ((W : Int) - 1 - (i : Int))⟩, false, 0⟩ : Pa)]⟩ : LpQ) := ⟨Own.nil _, ho89.low (by omega)⟩
         refine s_append rfl rfl hX.row ho101.sl el42 (by unfold maxLen; simp only [List.length_cons, List.length_nil]; omega) (by simp only [List.length_cons, List.length_nil]; omega) (by omega) rfl (fun v102 w27 ho102 q102 hor102 => ?_)
         obtain ⟨A102, c102, rfl, -⟩ := ho102.sl.form
         have oL := fun (T : Nat) (h_ : T ≠ 68) => own_off hX.row (Ne.symm h_)
         have hX2 := hX.push (u' := (A102, (ls ++ [(⟨1, false, sv0, (some ⟨g89, 0, none⟩, 1, 1), [], [(⟨⟨((rs.getD r 0).toNat : Int), (((rndsT W (rs.take r)).1.getD ((rs.getD r 0).toNat - 1) []).length : Int) + ((W : Int) - 1 - (i : Int))⟩, false, 0⟩ : Pa)]⟩ : LpQ)]).length, c102)) τd_ok hlq ho102 q102 hor102
         have hO2 := own_tf hO q102 (oL _ (by decide))
         have hb32 := blk_tf hb3 q102 (oL _ (by decide))
         have hF2 := own_tf hF q102 (oL _ (by decide))
         have hK2 := own_tf hK q102 (oL _ (by decide))
         have qf2 := qfp.step q102 (fun k k_ hlt => by have := (hX.row.blk k k_).1; omega)
         have hQ : (⟨1, false, sv0, (some ⟨g89, 0, none⟩, 1, 1), [], [(⟨⟨((rs.getD r 0).toNat : Int), (((rndsT W (rs.take r)).1.getD ((rs.getD r 0).toNat - 1) []).length : Int) + ((W : Int) - 1 - (i : Int))⟩, false, 0⟩ : Pa)]⟩ : LpQ).p = lpB W (rndsT W (rs.take r)).2 ((rs.getD r 0).toNat : Int) ((rndsT W (rs.take r)).1.getD ((rs.getD r 0).toNat - 1) []).length i := by rw [lpB, hst, show ((((rndsT W (rs.take r)).1.getD ((rs.getD r 0).toNat - 1) []).length + (W - 1 - i) : Nat) : Int) = (((rndsT W (rs.take r)).1.getD ((rs.getD r 0).toNat - 1) []).length : Int) + ((W : Int) - 1 - (i : Int)) by omega]; rfl
         refine asg rfl rfl (kpL [(1, _), (2, _), (3, _), (4, _), (6, _), (7, _), (8, _), (9, _), (10, _), (13, _)] (.cons rfl (.cons rfl (.cons rfl (.cons rfl (.cons rfl (.cons rfl (.cons rfl (.cons rfl (.cons rfl (.cons rfl .nil)))))))))) (nl (bn' (tn (rg (mv rfl rfl (s_add rfl rfl (wi6 (by omega)) rfl (asg rfl rfl (nl ?_)))))))))
         exact lpE ((i + 1, (A102, (ls ++ [(⟨1, false, sv0, (some ⟨g89, 0, none⟩, 1, 1), [], [(⟨⟨((rs.getD r 0).toNat : Int), (((rndsT W (rs.take r)).1.getD ((rs.getD r 0).toNat - 1) []).length : Int) + ((W : Int) - 1 - (i : Int))⟩, false, 0⟩ : Pa)]⟩ : LpQ)]).length, c102))) (.cons rfl (.cons rfl (.cons rfl (.cons rfl (.cons rfl (.cons rfl (.cons rfl (.cons rfl (.cons rfl (.cons rfl .nil)))))))))) ⟨by simp only; omega, _, hO2, hX2, by rw [List.map_append, hlsP, rndB_succ, List.append_assoc _ (rndB _ _ _ _ _), List.map_cons, hQ]; rfl, hb32, hF2, hK2, qf2⟩ (by simp only; omega)
     · refine ex (te (te (xh (tn (sr (fad rfl fa33_0 rfl (s_loadB rfl hb3 rfl na29 rfl (mv rfl rfl (s_sub rfl rfl (wi8 (by omega)) rfl (mv rfl rfl ?_))))))))))
       refine s_idxS (p := ((rs.getD r 0).toNat - 1)) (E := encTq) rfl rfl el29 (by omega) (by omega) (by omega) rfl ?_
       have qfp := qf
       refine s_storeO (i := ((rs.getD r 0).toNat - 1)) ((u, ls) : TQ) rfl rfl hO (by omega) rfl sz42 (fun w28 hO2 qs zs_ => ?_)
       have hT := hX.close τd_ok (by omega) hO hO2 qs
       replace hb3 := blk_tf hb3 qs (own_off hO (by decide))
       have qf := qfp.step qs (fun k k_ hlt => by rw [List.mem_singleton.1 k_] at hlt; omega)
       have htP2 : tabP (ts.set ((rs.getD r 0).toNat - 1) (u, ls)) = (rndsT W (rs.take (r + 1))).1 := by
         rw [tabP_set, htP, hlsP, show i = W by omega, rnds_take W rs r hlr, List.append_assoc]; rfl
       have hst2 : (rndsT W (rs.take (r + 1))).2 = some (((rs.getD r 0).toNat : Int), ((rndsT W (rs.take r)).1.getD ((rs.getD r 0).toNat - 1) []).length) := by rw [rnds_take W rs r hlr]; rfl
       have hlt2 : (ts.set ((rs.getD r 0).toNat - 1) (u, ls)).length = 6 := by rw [List.length_set]; exact hlt
       clear hF hK hF0 hK0 hX hX0 hO hO0
       have hb1 := sb1.ext qf
       have hb2 := sb2.ext qf
       have hs := hs0
       have hzf := qf.size
       have lt3 := hb3.lt
       have hTs := hT
       have hgTz := hT.out.blk gT (by simp [blks])
       refine kpL [(1, _), (2, _), (3, _), (4, _), (7, _), (8, _), (10, _)] (.cons rfl (.cons rfl (.cons rfl (.cons rfl (.cons rfl (.cons rfl (.cons rfl .nil))))))) (nn (sr (mv rfl rfl ?_)))
       refine s_makeSlice (m := W) (c := W) (id0) rfl rfl el31 zv61 rfl (by omega) (by omega) (by unfold maxLen; omega) rfl (fun g110 w29 hg110 hoF q29 z29 => ?_)
       refine asg rfl rfl (nn (sr (mv rfl rfl ?_)))
       refine s_makeSlice (m := W) (c := W) (id0) rfl rfl el31 zv61 rfl (by omega) (by omega) (by unfold maxLen; omega) rfl (fun g112 w30 hg112 hoK q30 z30 => ?_)
       refine asg rfl rfl (nn (sr (asg rfl rfl (nn (bl ?_)))))
       replace hb3 := hb3.ext (q29.next q30)
       replace hoF := hoF.ext q30
       refine lpK (ι := Nat) [(1, _), (2, _), (3, _), (4, _), (5, _), (6, _), (7, _), (8, _), (10, _)] (fun i => [(16, .int .i64 (i : Int))]) (fun i w' => i ≤ W ∧ Fr [] w28 w' ∧ Blk w' g3 33 [.slice (some ⟨gT, 0, none⟩) 6 6, .slice none 0 0, .slice none 0 0, .slice none 0 0] ∧ Lw.Own encId 61 w2.heap.size w' (.slice (some ⟨g110, 0, none⟩) W W) ((List.range i).map (fun k => (⟨((rs.getD r 0).toNat : Int), ((((rndsT W (rs.take r)).1.getD ((rs.getD r 0).toNat - 1) []).length + k : Nat) : Int)⟩ : LId)) ++ List.replicate (W - i) id0) ∧ Lw.Own encId 61 w2.heap.size w' (.slice (some ⟨g112, 0, none⟩) W W) ((List.range i).map (fun k => (⟨((rs.getD r 0).toNat : Int), ((((rndsT W (rs.take r)).1.getD ((rs.getD r 0).toNat - 1) []).length + 2 * W - 1 - k : Nat) : Int)⟩ : LId)) ++ List.replicate (W - i) id0) ∧ Fr [] w2 w') (fun i => W - i) 0 (.cons rfl (.cons rfl (.cons rfl (.cons rfl (.cons rfl (.cons rfl (.cons rfl (.cons rfl (.cons rfl (.cons rfl .nil)))))))))) ⟨Nat.zero_le _, (q29.next q30), hb3, by simpa using hoF.low (by omega), by simpa using hoK.low (by omega), ((qf.next q29).next q30)⟩ ?_
       rintro i w31 ⟨hi, qT, hb3, hoF, hoK, qf⟩
       refine kpC [(1, _), (2, _), (3, _), (4, _), (5, _), (6, _), (7, _), (8, _), (10, _), (16, _)] (.cons rfl (.cons rfl (.cons rfl (.cons rfl (.cons rfl (.cons rfl (.cons rfl (.cons rfl (.cons rfl (.cons rfl .nil)))))))))) ?_
       have hb1 := sb1.ext qf
       have hb2 := sb2.ext qf
       have hs := hs0
       have hzf := qf.size
       have lt3 := hb3.lt
       
       refine sq (sr (mv rfl rfl (mv rfl rfl (lt' rfl rfl rfl (nn ?_)))))
       refine cd rfl (fun c5 => ?_) (fun c5 => ?_)
       · have hil : i < W := by omega
         refine sk (tn (sq (bl (sr (mv rfl rfl (mv rfl rfl (mv rfl rfl (mv rfl rfl (mv rfl rfl (s_add rfl rfl (wi6 (by omega)) rfl (s_lit (cs := [_, _]) (ev2 rfl rfl) bo61 (pok_cons rfl rfl rfl (pok_cons rfl rfl rfl pok_nil)) rfl rfl ?_)))))))))))
         refine s_idxS (p := i) (E := encId) rfl rfl el31 (by omega) (by omega) (by omega) rfl ?_
         refine s_storeO (i := i) ((⟨((rs.getD r 0).toNat : Int), ((((rndsT W (rs.take r)).1.getD ((rs.getD r 0).toNat - 1) []).length + i : Nat) : Int)⟩ : LId)) rfl rfl hoF (by simp; omega) (rfl) sz61 (fun w32 hoF q32 z32 => ?_)
         rw [rng_set (fun k => (⟨((rs.getD r 0).toNat : Int), ((((rndsT W (rs.take r)).1.getD ((rs.getD r 0).toNat - 1) []).length + k : Nat) : Int)⟩ : LId)) id0 hil] at hoF
         refine kpL [(1, _), (2, _), (3, _), (4, _), (5, _), (6, _), (7, _), (8, _), (10, _), (16, _)] (.cons rfl (.cons rfl (.cons rfl (.cons rfl (.cons rfl (.cons rfl (.cons rfl (.cons rfl (.cons rfl (.cons rfl .nil)))))))))) (nn (rg (mv rfl rfl (mv rfl rfl (mv rfl rfl (mv rfl rfl (mv rfl rfl (s_mul rfl rfl (wi6 (by omega)) rfl (s_add rfl rfl (wi6 (by omega)) rfl (s_sub rfl rfl (wi6 (by omega)) rfl (mv rfl rfl ?_)))))))))))
         refine s_sub rfl rfl (wi6 (by omega)) rfl (s_lit (cs := [_, _]) (ev2 rfl rfl) bo61 (pok_cons rfl rfl rfl (pok_cons rfl rfl rfl pok_nil)) rfl rfl ?_)
         replace hoK := hoK.fr q32 (by intro k hk hb; simp [blks] at hk hb; omega)
         refine s_idxS (p := i) (E := encId) rfl rfl el31 (by omega) (by omega) (by omega) rfl ?_
         refine s_storeO (i := i) ((⟨((rs.getD r 0).toNat : Int), ((((rndsT W (rs.take r)).1.getD ((rs.getD r 0).toNat - 1) []).length + 2 * W - 1 - i : Nat) : Int)⟩ : LId)) rfl rfl hoK (by simp; omega) (by show #[Value.int .u8 ((rs.getD r 0).toNat : Int), Value.int .i64 ((((rndsT W (rs.take r)).1.getD ((rs.getD r 0).toNat - 1) []).length : Int) + 2 * (W : Int) - 1 - (i : Int))] = #[Value.int .u8 ((rs.getD r 0).toNat : Int), Value.int .i64 ((((rndsT W (rs.take r)).1.getD ((rs.getD r 0).toNat - 1) []).length + 2 * W - 1 - i : Nat) : Int)]; rw [show ((((rndsT W (rs.take r)).1.getD ((rs.getD r 0).toNat - 1) []).length + 2 * W - 1 - i : Nat) : Int) = (((rndsT W (rs.take r)).1.getD ((rs.getD r 0).toNat - 1) []).length : Int) + 2 * (W : Int) - 1 - (i : Int) by omega]) sz61 (fun w33 hoK q33 z33 => ?_)
         rw [rng_set (fun k => (⟨((rs.getD r 0).toNat : Int), ((((rndsT W (rs.take r)).1.getD ((rs.getD r 0).toNat - 1) []).length + 2 * W - 1 - k : Nat) : Int)⟩ : LId)) id0 hil] at hoK
         refine kpL [(1, _), (2, _), (3, _), (4, _), (5, _), (6, _), (7, _), (8, _), (10, _), (16, _)] (.cons rfl (.cons rfl (.cons rfl (.cons rfl (.cons rfl (.cons rfl (.cons rfl (.cons rfl (.cons rfl (.cons rfl .nil)))))))))) (nl (bn' (tn (rg (mv rfl rfl (s_add rfl rfl (wi6 (by omega)) rfl (asg rfl rfl (nl ?_))))))))
         replace hb3 := (hb3.fr q32 (by first | (simp; done) | (simp; omega) | (simp [blks]; done) | (simp [blks]; omega))).fr q33 (by first | (simp; done) | (simp; omega) | (simp [blks]; done) | (simp [blks]; omega))
         replace hoF := hoF.fr q33 (by intro k hk hb; simp [blks] at hk hb; omega)
         exact lpE (i + 1) (.cons rfl (.cons rfl (.cons rfl (.cons rfl (.cons rfl (.cons rfl (.cons rfl (.cons rfl (.cons rfl (.cons rfl .nil)))))))))) ⟨by omega, qT.step (((Fr.refl [g110, g112] _).step q32 (by first | (simp; done) | (simp; omega))).step q33 (by first | (simp; done) | (simp; omega))) (fun k k_ hlt => by simp only [List.mem_cons, List.not_mem_nil, or_false] at k_; rcases k_ with rfl | rfl <;> omega), hb3, hoF, hoK, ((qf.step q32 (by first | (simp; done) | (simp; omega))).step q33 (by first | (simp; done) | (simp; omega)))⟩ (by omega)
       · have hiW : i = W := by omega
         rw [hiW, Nat.sub_self, List.replicate_zero, List.append_nil] at hoF hoK
         refine ex (te (te (xh (bn' (tn (rg (mv rfl rfl (s_add rfl rfl (wi6 (by omega)) rfl (asg rfl rfl (kpL [(1, _), (2, _), (3, _), (4, _), (5, _), (6, _), (7, _)] (.cons rfl (.cons rfl (.cons rfl (.cons rfl (.cons rfl (.cons rfl (.cons rfl .nil))))))) (nl ?_)))))))))))
         exact lpE ((r + 1, (some ⟨g110, 0, none⟩, W, W), (some ⟨g112, 0, none⟩, W, W))) (.cons rfl (.cons rfl (.cons rfl (.cons rfl (.cons rfl (.cons rfl (.cons rfl .nil))))))) ⟨by simp only; omega, _, hTs.ext qT, hlt2, htP2, hb3, by rw [hst2]; exact hoF, by rw [hst2]; exact hoK, qf⟩ (by simp only; omega)
 · have hre : r = rs.length := by omega
   rw [hre, List.take_length] at htP hF hK
   have hF0 := hF
   have hK0 := hK
   have hyL := lastY_in hl1 hv
   have hye : (rs.getD (rs.length - 1) 0).toNat = (lastY rs).toNat := rfl
   have hRR := rnds_row (wd := W) (rs := rs) (by omega) hl31 ((lastY rs).toNat - 1)
   obtain ⟨yy, ff, hstL⟩ := rnds_st (W := W) hv (Nat.le_refl rs.length) (by omega)
   rw [List.take_length] at hstL
   have hFlL : (frL W (rndsT W rs).2).length = W := by rw [hstL]; exact frL_len _ _ _
   have hKlL : (bkL W (rndsT W rs).2).length = W := by rw [hstL]; exact bkL_len _ _ _
   refine ex (te (te (xh (tn (sr (fad rfl fa26_1 rfl (s_loadB rfl hb1 rfl na22 rfl (fad rfl fa26_1 rfl (s_loadB rfl hb1 rfl na22 rfl (lnS rfl Tryd.underlying22 rfl (s_sub rfl rfl (wi6 (by omega)) rfl ?_)))))))))))
   replace hs := hs0.ext ((q1.next q2).next qf)
   refine s_idxL (p := (rs.length - 1)) ((0 : UInt8)) rfl hs rfl el22 (by omega) (by omega) (by omega) rfl (fun ad144 hc144 => ?_)
   refine s_loadC0 rfl (hc144 _ hs) na5 rfl (asg rfl rfl (kpL [(2, _), (3, _), (4, _), (5, _), (6, _), (17, _)] (.cons rfl (.cons rfl (.cons rfl (.cons rfl (.cons rfl (.cons rfl .nil)))))) (nn (sq (sr (asg rfl rfl (nn (bl ?_))))))))
   refine lpK (ι := Nat) [(2, _), (3, _), (4, _), (5, _), (6, _)] (fun i => [(18, .int .i64 (i : Int)), (17, .int .u8 ((lastY rs).toNat : Int))]) (fun i w' => i ≤ W ∧ ∃ ts, TbO τd w2.heap.size w' (.slice (some ⟨gT, 0, none⟩) 6 6) ts ∧ ts.length = 6 ∧ tabP ts = (rndsT W rs).1.set ((lastY rs).toNat - 1) (((rndsT W rs).1.getD ((lastY rs).toNat - 1) []) ++ bndL W (rndsT W rs).2 ((lastY rs).toNat : Int) ((rndsT W rs).1.getD ((lastY rs).toNat - 1) []).length i) ∧ Blk w' g3 33 [.slice (some ⟨gT, 0, none⟩) 6 6, .slice none 0 0, .slice none 0 0, .slice none 0 0] ∧ Lw.Own encId 61 w2.heap.size w' (slv fv) (frL W (rndsT W rs).2) ∧ Lw.Own encId 61 w2.heap.size w' (slv bv) (bkL W (rndsT W rs).2) ∧ Fr [] w2 w') (fun i => W - i) 0 (.cons rfl (.cons rfl (.cons rfl (.cons rfl (.cons rfl (.cons rfl (.cons rfl .nil))))))) ⟨Nat.zero_le _, _, hT, hlt, by rw [htP, show bndL W (rndsT W rs).2 ((lastY rs).toNat : Int) ((rndsT W rs).1.getD ((lastY rs).toNat - 1) []).length 0 = [] from rfl, List.append_nil, List.getD, List.getElem?_eq_getElem (by rw [rnds_len]; omega)]; exact (List.set_getElem_self _).symm, hb3, hF, hK, qf⟩ ?_
   rintro i w34 ⟨hi, ts, hT, hlt, htP, hb3, hF, hK, qf⟩
   refine kpC [(2, _), (3, _), (4, _), (5, _), (6, _), (18, _), (17, _)] (.cons rfl (.cons rfl (.cons rfl (.cons rfl (.cons rfl (.cons rfl (.cons rfl .nil))))))) ?_
   have hb1 := sb1.ext qf
   have hb2 := sb2.ext qf
   have hs := hs0
   have hzf := qf.size
   have lt3 := hb3.lt
   have hT0 := hT
   have hF0 := hF
   have hK0 := hK
   have hgTz := hT.out.blk gT (by simp [blks])
   
   refine sq (sr (mv rfl rfl (mv rfl rfl (lt' rfl rfl rfl (nn ?_)))))
   refine cd rfl (fun c6 => ?_) (fun c6 => ?_)
   · have hil : i < W := by omega
     have hrow := tab_row htP (j := ((lastY rs).toNat - 1)) (by omega)
     rw [set_getD (by rw [rnds_len]; omega), if_pos rfl] at hrow
     have hrl := congrArg List.length hrow
     rw [List.length_map, List.length_append, bndL_len] at hrl
     have hsl_ := sl_len (hT.ins ((lastY rs).toNat - 1) (by omega)).sl
     refine sk (tn (sq (bl (sr (fad rfl fa33_0 rfl (s_loadB rfl hb3 rfl na29 rfl (mv rfl rfl (s_sub rfl rfl (wi8 (by omega)) rfl (s_idxL (p := ((lastY rs).toNat - 1)) (tq0) rfl hT.out.sl rfl el29 (by omega) (by omega) (by omega) rfl (fun ad155 hc155 => ?_))))))))))
     refine s_loadC0 rfl (hc155 _ hT.out.sl) na42 rfl (lnS rfl Tryd.underlying42 rfl (asg rfl rfl ?_))
     have hrw := hT.ins ((lastY rs).toNat - 1) (by omega)
     have hrw0 := hrw
     have hrwz := fun k k_ => (hrw.blk k k_).2
     refine kpL [(2, _), (3, _), (4, _), (5, _), (6, _), (17, _), (18, _), (19, _)] (.cons rfl (.cons rfl (.cons rfl (.cons rfl (.cons rfl (.cons rfl (.cons rfl (.cons rfl .nil)))))))) (nn ?_)
     refine jn (ι := Nat × Nat) [(2, _), (3, _), (4, _), (5, _), (6, _), (17, _), (18, _), (19, _)] (fun p => [(20, .pointer (some ⟨p.1, 0, none⟩))]) (fun p w' => Fr [] w34 w' ∧ w34.heap.size ≤ p.1 ∧ w34.heap.size ≤ p.2 ∧ Blk w' p.1 68 [.int .u8 0, .bool false, .slice (some ⟨p.2, 0, none⟩) 2 2, .slice none 0 0] ∧ Lw.Own encId 61 w2.heap.size w' (.slice (some ⟨p.2, 0, none⟩) 2 2) [((bkL W (rndsT W rs).2).getD i id0), ((frL W (rndsT W rs).2).getD i id0)] ∧ p.1 ≠ p.2) (.cons rfl (.cons rfl (.cons rfl (.cons rfl (.cons rfl (.cons rfl (.cons rfl (.cons rfl .nil)))))))) ?_ ?_
     · intro a h
       refine region_heldP (some 11) (fun wb w' => Fr [] wb w') hmix ?_; intro w35 hq
       have z35 := hq.size
       replace hF := hF.ext hq
       replace hK := hK.ext hq
       have q35 := hq
       clear hq; have hC : Fr [] w35 w35 := Fr.refl _ _
       have hF_b := hF
       have hK_b := hK
       refine hd_move 0 (by kernel_rfl) (by kernel_rfl) (by kernel_rfl) hC h wn rfl rfl rfl ?_; clear h a; intro a h
       refine hd_move 1 (by kernel_rfl) (by kernel_rfl) (by kernel_rfl) hC h wn rfl rfl rfl ?_; clear h a; intro a h
       refine hd_idxL (p := i) (id0) 2 (by kernel_rfl) (by kernel_rfl) (by kernel_rfl) hC h wn rfl hK.sl rfl el31 (by omega) (by omega) (by omega) rfl rfl ?_; clear h a; intro ad160 hc160 a h
       refine hd_loadA 3 (by kernel_rfl) (by kernel_rfl) (by kernel_rfl) hC h wn rfl (fun _ hw => hc160 _ (hK_b.sl.ext hw)) ag61 rfl rfl ?_; clear h a; intro a h
       refine hd_move 4 (by kernel_rfl) (by kernel_rfl) (by kernel_rfl) hC h wn rfl rfl rfl ?_; clear h a; intro a h
       refine hd_move 5 (by kernel_rfl) (by kernel_rfl) (by kernel_rfl) hC h wn rfl rfl rfl ?_; clear h a; intro a h
       refine hd_idxL (p := i) (id0) 6 (by kernel_rfl) (by kernel_rfl) (by kernel_rfl) hC h wn rfl hF.sl rfl el31 (by omega) (by omega) (by omega) rfl rfl ?_; clear h a; intro ad164 hc164 a h
       refine hd_loadA 7 (by kernel_rfl) (by kernel_rfl) (by kernel_rfl) hC h wn rfl (fun _ hw => hc164 _ (hF_b.sl.ext hw)) ag61 rfl rfl ?_; clear h a; intro a h
       refine hd_two 8 10 (by kernel_rfl) rfl rfl ?_ ?_
       · refine id ?_
         refine st_bslice ([((bkL W (rndsT W rs).2).getD i id0), ((frL W (rndsT W rs).2).getD i id0)]) h (evs_cons rfl (evs_cons rfl evs_nil)) rfl rfl rfl el31 (Nat.le_of_ble_eq_true rfl) rfl ?_; clear h a; intro g_166 w36 hg ho166 hq hz a h
         have z36 := hq.size
         replace hF := hF.ext hq
         replace hK := hK.ext hq
         replace hC := hC.next hq
         have q36 := hq
         clear hq
         refine hd_next hC ?_
         refine hd_lit (cs := [_, _, _, _]) 9 (by kernel_rfl) (by kernel_rfl) (by kernel_rfl) hC h wn (evs_cons rfl evs_nil) bo68 (pok_cons rfl rfl rfl pok_nil) rfl rfl rfl ?_; clear h a; intro a h
         refine hd_one 10 (by kernel_rfl) rfl ?_
         refine st_alloc h zv68 rfl rfl ?_; clear h a; intro w37 hb20 hq hz a h
         obtain ⟨g_20, hg⟩ : ∃ g, g = w36.heap.size := ⟨_, rfl⟩; rw [← hg] at hb20 h hz
         have hn_166_20 : g_166 < g_20 := by have := (ho166.blk g_166 (by simp [blks])).2; omega
         have z37 := hq.size
         replace hF := hF.ext hq
         replace hK := hK.ext hq
         replace ho166 := ho166.ext hq
         replace hC := hC.next hq
         have q37 := hq
         clear hq
         refine hd_next hC ?_
         refine hd_one 11 (by kernel_rfl) rfl ?_
         refine st_storeBA h rfl rfl hb20 rfl (by first | (simp [Value.oneCell', S]; done) | exact Enc.one _ _) sz68 ?_; clear h a; intro w38 hbn hq hz a h
         have z38 := hq.size
         replace ho166 := ho166.fr hq (by first | (simp; done) | (simp; omega) | (simp [blks]; done) | (simp [blks]; omega))
         have q38 := hq
         clear hb20 hq hz; have hb20 : Blk w38 g_20 _ [_, _, _, _] := hbn; clear hbn
         refine hd_past (by kernel_rfl) ?_
         refine hd_end (by kernel_rfl) ?_
         clear hC hF_b hK_b
         refine bk (h.sub (L' := [(2, _), (3, _), (4, _), (5, _), (6, _), (17, _), (18, _), (19, _), (20, _)]) (.cons rfl (.cons rfl (.cons rfl (.cons rfl (.cons rfl (.cons rfl (.cons rfl (.cons rfl (.cons rfl .nil)))))))))) ?_; clear h a
         exact jE ((g_20, g_166)) (.cons rfl (.cons rfl (.cons rfl (.cons rfl (.cons rfl (.cons rfl (.cons rfl (.cons rfl (.cons rfl .nil))))))))) ⟨(((q35.next q36).next q37).step q38 (by first | (simp; done) | (simp; omega))), ⟨by show _ ≤ g_20; omega, by show _ ≤ g_166; omega, hb20, ho166.low (by omega), fun e => Own.neB ho166 hb20 (by decide) (by simp [blks, show g_20 = g_166 from e])⟩⟩
       · refine id ?_
         refine st_alloc h zv68 rfl rfl ?_; clear h a; intro w39 hb20 hq hz a h
         obtain ⟨g_20, hg⟩ : ∃ g, g = w35.heap.size := ⟨_, rfl⟩; rw [← hg] at hb20 h hz
         have z39 := hq.size
         replace hF := hF.ext hq
         replace hK := hK.ext hq
         replace hC := hC.next hq
         have q39 := hq
         clear hq
         refine hd_next hC ?_
         refine hd_one 8 (by kernel_rfl) rfl ?_
         refine st_bslice ([((bkL W (rndsT W rs).2).getD i id0), ((frL W (rndsT W rs).2).getD i id0)]) h (evs_cons rfl (evs_cons rfl evs_nil)) rfl rfl rfl el31 (Nat.le_of_ble_eq_true rfl) rfl ?_; clear h a; intro g_166 w40 hg ho166 hq hz a h
         have hn_20_166 : g_20 < g_166 := by have := hb20.lt; omega
         have z40 := hq.size
         replace hF := hF.ext hq
         replace hK := hK.ext hq
         replace hb20 := hb20.ext hq
         replace hC := hC.next hq
         have q40 := hq
         clear hq
         refine hd_next hC ?_
         refine hd_lit (cs := [_, _, _, _]) 9 (by kernel_rfl) (by kernel_rfl) (by kernel_rfl) hC h wn (evs_cons rfl evs_nil) bo68 (pok_cons rfl rfl rfl pok_nil) rfl rfl rfl ?_; clear h a; intro a h
         refine hd_one 11 (by kernel_rfl) rfl ?_
         refine st_storeBA h rfl rfl hb20 rfl (by first | (simp [Value.oneCell', S]; done) | exact Enc.one _ _) sz68 ?_; clear h a; intro w41 hbn hq hz a h
         have z41 := hq.size
         replace ho166 := ho166.fr hq (by first | (simp; done) | (simp; omega) | (simp [blks]; done) | (simp [blks]; omega))
         have q41 := hq
         clear hb20 hq hz; have hb20 : Blk w41 g_20 _ [_, _, _, _] := hbn; clear hbn
         refine hd_past (by kernel_rfl) ?_
         refine hd_end (by kernel_rfl) ?_
         clear hC hF_b hK_b
         refine bk (h.sub (L' := [(2, _), (3, _), (4, _), (5, _), (6, _), (17, _), (18, _), (19, _), (20, _)]) (.cons rfl (.cons rfl (.cons rfl (.cons rfl (.cons rfl (.cons rfl (.cons rfl (.cons rfl (.cons rfl .nil)))))))))) ?_; clear h a
         exact jE ((g_20, g_166)) (.cons rfl (.cons rfl (.cons rfl (.cons rfl (.cons rfl (.cons rfl (.cons rfl (.cons rfl (.cons rfl .nil))))))))) ⟨(((q35.next q39).next q40).step q41 (by first | (simp; done) | (simp; omega))), ⟨by show _ ≤ g_20; omega, by show _ ≤ g_166; omega, hb20, ho166.low (by omega), fun e => Own.neB ho166 hb20 (by decide) (by simp [blks, show g_20 = g_166 from e])⟩⟩
     · rintro ⟨g20, g166⟩ w42 ⟨q42, hg20, hg166, hb20, ho166, hgne⟩
       have z42 := q42.size
       have lt_hb20 := hb20.lt
       refine kpC [(2, _), (3, _), (4, _), (5, _), (6, _), (17, _), (18, _), (19, _), (20, _)] (.cons rfl (.cons rfl (.cons rfl (.cons rfl (.cons rfl (.cons rfl (.cons rfl (.cons rfl (.cons rfl .nil))))))))) ?_
       have lt20 := hb20.lt
       have lt166 := (ho166.blk g166 (by simp [blks])).2
       
       refine sq (sr (mv rfl rfl (gt' rfl rfl rfl (nn ?_))))
       refine cd rfl (fun c7 => ?_) (fun c7 => ?_)
       · refine sr (mv rfl rfl (mv rfl rfl (s_sub rfl rfl (wi6 (by omega)) rfl (s_lit (cs := [_, _]) (ev2 rfl rfl) bo61 (pok_cons rfl rfl rfl (pok_cons rfl rfl rfl pok_nil)) rfl rfl ?_))))
         refine al zv61 rfl rfl (fun g21 w43 hg21 hb21 q43 z43 => ?_)
         refine s_storeBA (vs := [_, _]) rfl rfl hb21 (by rfl) (by first | (simp [Value.oneCell', S]; done) | exact Enc.one _ _) sz61 (fun w44 hb21 q44 z44 => ?_)
         refine kpL [(2, _), (3, _), (4, _), (5, _), (6, _), (17, _), (18, _), (20, _), (21, _)] (.cons rfl (.cons rfl (.cons rfl (.cons rfl (.cons rfl (.cons rfl (.cons rfl (.cons rfl (.cons rfl .nil))))))))) (nn (sq ?_))
         replace hF := hF0.ext ((q42.next q43).step q44 (by first | (simp; done) | (simp; omega)))
         replace hK := hK0.ext ((q42.next q43).step q44 (by first | (simp; done) | (simp; omega)))
         replace hb20 := (hb20.ext q43).fr q44 (by first | (simp; done) | (simp; omega) | (simp [blks]; done) | (simp [blks]; omega))
         replace ho166 := (ho166.ext q43).fr q44 (by intro k hk hb; simp [blks] at hk hb; omega)
         intro a h
         refine region_heldP (some 11) (fun wb w' => Fr [] wb w') hmix ?_; intro w45 hq
         have z45 := hq.size
         replace hF := hF.ext hq
         replace hK := hK.ext hq
         replace hb20 := hb20.ext hq
         replace ho166 := ho166.ext hq
         replace hb21 := hb21.ext hq
         have q45 := hq
         clear hq; have hC : Fr [] w45 w45 := Fr.refl _ _
         have hF_b := hF
         have hK_b := hK
         have hb20_b := hb20
         have ho166_b := ho166
         have hb21_b := hb21
         refine hd_loadBA 0 (by kernel_rfl) (by kernel_rfl) (by kernel_rfl) hC h wn rfl (fun _ hw => hb21_b.ext hw) ag61 rfl rfl ?_; clear h a; intro a h
         refine hd_move 1 (by kernel_rfl) (by kernel_rfl) (by kernel_rfl) hC h wn rfl rfl rfl ?_; clear h a; intro a h
         refine hd_move 2 (by kernel_rfl) (by kernel_rfl) (by kernel_rfl) hC h wn rfl rfl rfl ?_; clear h a; intro a h
         refine hd_idxL (p := i) (id0) 3 (by kernel_rfl) (by kernel_rfl) (by kernel_rfl) hC h wn rfl hK.sl rfl el31 (by omega) (by omega) (by omega) rfl rfl ?_; clear h a; intro ad177 hc177 a h
         refine hd_loadA 4 (by kernel_rfl) (by kernel_rfl) (by kernel_rfl) hC h wn rfl (fun _ hw => hc177 _ (hK_b.sl.ext hw)) ag61 rfl rfl ?_; clear h a; intro a h
         refine hd_move 5 (by kernel_rfl) (by kernel_rfl) (by kernel_rfl) hC h wn rfl rfl rfl ?_; clear h a; intro a h
         refine hd_move 6 (by kernel_rfl) (by kernel_rfl) (by kernel_rfl) hC h wn rfl rfl rfl ?_; clear h a; intro a h
         refine hd_idxL (p := i) (id0) 7 (by kernel_rfl) (by kernel_rfl) (by kernel_rfl) hC h wn rfl hF.sl rfl el31 (by omega) (by omega) (by omega) rfl rfl ?_; clear h a; intro ad181 hc181 a h
         refine hd_loadA 8 (by kernel_rfl) (by kernel_rfl) (by kernel_rfl) hC h wn rfl (fun _ hw => hc181 _ (hF_b.sl.ext hw)) ag61 rfl rfl ?_; clear h a; intro a h
         refine hd_one 9 (by kernel_rfl) rfl ?_
         refine st_bslice ([(⟨((lastY rs).toNat : Int), ((ts.getD ((lastY rs).toNat - 1) tq0).1.2.1 : Int) - 1⟩ : LId), ((bkL W (rndsT W rs).2).getD i id0), ((frL W (rndsT W rs).2).getD i id0)]) h (evs_cons rfl (evs_cons rfl (evs_cons rfl evs_nil))) rfl rfl rfl el31 (Nat.le_of_ble_eq_true rfl) rfl ?_; clear h a; intro g_183 w46 hg ho183 hq hz a h
         have hn_0_183 : g20 < g_183 := by have := hb20.lt; omega
         have hn_1_183 : g21 < g_183 := by have := hb21.lt; omega
         have z46 := hq.size
         replace hF := hF.ext hq
         replace hK := hK.ext hq
         replace hb20 := hb20.ext hq
         replace ho166 := ho166.ext hq
         replace hb21 := hb21.ext hq
         replace hC := hC.next hq
         have q46 := hq
         clear hq
         refine hd_next hC ?_
         refine hd_fieldAddr 10 (by kernel_rfl) (by kernel_rfl) (by kernel_rfl) hC h wn rfl fa68_2 rfl rfl ?_; clear h a; intro a h
         refine hd_one 11 (by kernel_rfl) rfl ?_
         refine st_storeB h rfl rfl hb20 rfl rfl rfl sz31 ?_; clear h a; intro w47 hbn hq hz a h
         have z47 := hq.size
         replace ho166 := ho166.fr hq (by intro k hk hb; simp [blks] at hk hb; omega)
         replace hb21 := hb21.fr hq (by first | (simp; done) | (simp; omega) | (simp [blks]; done) | (simp [blks]; omega))
         replace ho183 := ho183.fr hq (by first | (simp; done) | (simp; omega) | (simp [blks]; done) | (simp [blks]; omega))
         have q47 := hq
         clear hb20 hq hz; have hb20 : Blk w47 g20 _ [_, _, _, _] := hbn; clear hbn
         refine hd_past (by kernel_rfl) ?_
         refine hd_end (by kernel_rfl) ?_
         clear hC hF_b hK_b hb20_b ho166_b hb21_b
         refine bk (h.sub (L' := [(2, _), (3, _), (4, _), (5, _), (6, _), (17, _), (18, _), (20, _), (21, _)]) (.cons rfl (.cons rfl (.cons rfl (.cons rfl (.cons rfl (.cons rfl (.cons rfl (.cons rfl (.cons rfl .nil)))))))))) ?_; clear h a
         refine tn (rg (s_loadBA rfl hb21 ag61 rfl (s_lit (cs := [_, _, _, _]) (ev3 rfl rfl rfl) bo71 (pok_cons rfl rfl rfl (pok_cons rfl rfl rfl (pok_cons rfl rfl rfl pok_nil))) rfl rfl ?_)))
         refine s_bslice ([(⟨⟨((lastY rs).toNat : Int), ((ts.getD ((lastY rs).toNat - 1) tq0).1.2.1 : Int) - 1⟩, true, 0⟩ : Pa)]) (ev1 rfl) rfl rfl rfl el66 (Nat.le_of_ble_eq_true rfl) rfl (fun g187 w48 hg187 ho187 q48 z48 => ?_)
         refine fad rfl fa68_3 rfl ?_
         replace hb20 := hb20.ext q48
         refine s_storeB rfl rfl hb20 rfl rfl rfl sz66 (fun w49 hb20 q49 z49 => ?_)
         replace hb20 : Blk w49 g20 _ [_, _, _, _] := hb20
         refine nl (tn ?_)
         replace hb3 := (((((hb3.ext (q42.next q43)).fr q44 (by first | (simp; done) | (simp; omega) | (simp [blks]; done) | (simp [blks]; omega))).ext (q45.next q46)).fr q47 (by first | (simp; done) | (simp; omega) | (simp [blks]; done) | (simp [blks]; omega))).ext q48).fr q49 (by first | (simp; done) | (simp; omega) | (simp [blks]; done) | (simp [blks]; omega))
         replace hT := hT0.ext (((((((q42.next q43).step q44 (by first | (simp; done) | (simp; omega))).next q45).next q46).step q47 (by first | (simp; done) | (simp; omega))).next q48).step q49 (by first | (simp; done) | (simp; omega)))
         replace hF := hF0.ext (((((((q42.next q43).step q44 (by first | (simp; done) | (simp; omega))).next q45).next q46).step q47 (by first | (simp; done) | (simp; omega))).next q48).step q49 (by first | (simp; done) | (simp; omega)))
         replace hK := hK0.ext (((((((q42.next q43).step q44 (by first | (simp; done) | (simp; omega))).next q45).next q46).step q47 (by first | (simp; done) | (simp; omega))).next q48).step q49 (by first | (simp; done) | (simp; omega)))
         replace hrw := hrw0.ext (((((((q42.next q43).step q44 (by first | (simp; done) | (simp; omega))).next q45).next q46).step q47 (by first | (simp; done) | (simp; omega))).next q48).step q49 (by first | (simp; done) | (simp; omega)))
         replace ho166 := (ho166.ext q48).fr q49 (by intro k hk hb; simp [blks] at hk hb; omega)
         replace ho183 := (ho183.ext q48).fr q49 (by first | (simp; done) | (simp; omega) | (simp [blks]; done) | (simp [blks]; omega) | (intro k hk hb; simp at hk; subst hk; have := ho183.blk _ hb; omega))
         replace ho187 := ho187.fr q49 (by first | (simp; done) | (simp; omega) | (simp [blks]; done) | (simp [blks]; omega) | (intro k hk hb; simp at hk; subst hk; have := ho187.blk _ hb; omega))
         intro a h
         refine region_heldP (some 14) (fun wb w' => Fr (blks (slv (ts.getD ((lastY rs).toNat - 1) tq0).1)) wb w') hmix ?_; intro w50 hq
         have z50 := hq.size
         replace hb3 := hb3.ext hq
         replace hT := hT.ext hq
         replace hF := hF.ext hq
         replace hK := hK.ext hq
         replace hrw := hrw.ext hq
         replace hb20 := hb20.ext hq
         replace ho166 := ho166.ext hq
         replace ho183 := ho183.ext hq
         replace ho187 := ho187.ext hq
         have q50 := hq
         clear hq; have hC : Fr (blks (slv (ts.getD ((lastY rs).toNat - 1) tq0).1)) w50 w50 := Fr.refl _ _
         have hb3_b := hb3
         have hT_b := hT
         have hF_b := hF
         have hK_b := hK
         have hrw_b := hrw
         have hb20_b := hb20
         have ho166_b := ho166
         have ho183_b := ho183
         have ho187_b := ho187
         refine hd_fieldAddr 0 (by kernel_rfl) (by kernel_rfl) (by kernel_rfl) hC h wn rfl fa33_0 rfl rfl ?_; clear h a; intro a h
         refine hd_loadB 1 (by kernel_rfl) (by kernel_rfl) (by kernel_rfl) hC h wn rfl (fun _ hw => hb3_b.fr hw (fun k_ => Own.neB hrw_b hb3_b (by decide) k_)) rfl na29 rfl rfl ?_; clear h a; intro a h
         refine hd_move 2 (by kernel_rfl) (by kernel_rfl) (by kernel_rfl) hC h wn rfl rfl rfl ?_; clear h a; intro a h
         refine hd_sub 3 (by kernel_rfl) (by kernel_rfl) (by kernel_rfl) hC h wn rfl rfl (by first | exact IntWalk.u8_in _ (by omega) | rfl) rfl rfl ?_; clear h a; intro a h
         refine hd_fieldAddr 4 (by kernel_rfl) (by kernel_rfl) (by kernel_rfl) hC h wn rfl fa33_0 rfl rfl ?_; clear h a; intro a h
         refine hd_loadB 5 (by kernel_rfl) (by kernel_rfl) (by kernel_rfl) hC h wn rfl (fun _ hw => hb3_b.fr hw (fun k_ => Own.neB hrw_b hb3_b (by decide) k_)) rfl na29 rfl rfl ?_; clear h a; intro a h
         refine hd_move 6 (by kernel_rfl) (by kernel_rfl) (by kernel_rfl) hC h wn rfl rfl rfl ?_; clear h a; intro a h
         refine hd_sub 7 (by kernel_rfl) (by kernel_rfl) (by kernel_rfl) hC h wn rfl rfl (by first | exact IntWalk.u8_in _ (by omega) | rfl) rfl rfl ?_; clear h a; intro a h
         refine hd_idxL (p := ((lastY rs).toNat - 1)) (tq0) 8 (by kernel_rfl) (by kernel_rfl) (by kernel_rfl) hC h wn rfl hT.out.sl rfl el29 (by omega) (by omega) (by omega) rfl rfl ?_; clear h a; intro ad197 hc197 a h
         refine hd_loadC0 9 (by kernel_rfl) (by kernel_rfl) (by kernel_rfl) hC h wn rfl (fun _ hw => hc197 _ (own_tf hT_b.out hw (own_off hrw_b (by decide))).sl) na42 rfl rfl ?_; clear h a; intro a h
         refine hd_loadBA 10 (by kernel_rfl) (by kernel_rfl) (by kernel_rfl) hC h wn rfl (fun _ hw => hb20_b.fr hw (fun k_ => by have := hrwz _ k_; omega)) ag68 rfl rfl ?_; clear h a; intro a h
         refine hd_one 11 (by kernel_rfl) rfl ?_
         refine st_bslice ([(⟨0, false, (some ⟨g_183, 0, none⟩, 3, 3), (some ⟨g187, 0, none⟩, 1, 1), [⟨((lastY rs).toNat : Int), ((ts.getD ((lastY rs).toNat - 1) tq0).1.2.1 : Int) - 1⟩, ((bkL W (rndsT W rs).2).getD i id0), ((frL W (rndsT W rs).2).getD i id0)], [⟨⟨((lastY rs).toNat : Int), ((ts.getD ((lastY rs).toNat - 1) tq0).1.2.1 : Int) - 1⟩, true, 0⟩]⟩ : LpQ)]) h (evs_cons rfl evs_nil) rfl rfl rfl el42 (Nat.le_of_ble_eq_true rfl) rfl ?_; clear h a; intro g_200 w51 hg200 ho200 hq hz a h
         have z51 := hq.size
         replace hb3 := hb3.ext hq
         replace hT := hT.ext hq
         replace hF := hF.ext hq
         replace hK := hK.ext hq
         replace hrw := hrw.ext hq
         replace hb20 := hb20.ext hq
         replace ho166 := ho166.ext hq
         replace ho183 := ho183.ext hq
         replace ho187 := ho187.ext hq
         replace hC := hC.next hq
         have q51 := hq
         clear hq
         refine hd_next hC ?_
         refine hd_one 12 (by kernel_rfl) rfl ?_
         have qfp := ((((((((((qf.next q42).next q43).step q44 (by first | (simp; done) | (simp; omega))).next q45).next q46).step q47 (by first | (simp; done) | (simp; omega))).next q48).step q49 (by first | (simp; done) | (simp; omega))).next q50).next q51)
         have hzp := qfp.size
         have hlq : LpO τd w2.heap.size w51 (⟨0, false, (some ⟨g_183, 0, none⟩, 3, 3), (some ⟨g187, 0, none⟩, 1, 1), [⟨((lastY rs).toNat : Int), ((ts.getD ((lastY rs).toNat - 1) tq0).1.2.1 : Int) - 1⟩, ((bkL W (rndsT W rs).2).getD i id0), ((frL W (rndsT W rs).2).getD i id0)], [⟨⟨((lastY rs).toNat : Int), ((ts.getD ((lastY rs).toNat - 1) tq0).1.2.1 : Int) - 1⟩, true, 0⟩]⟩ : LpQ) := ⟨ho183.low (by omega), ho187.low (by omega)⟩
         have hQ : (⟨0, false, (some ⟨g_183, 0, none⟩, 3, 3), (some ⟨g187, 0, none⟩, 1, 1), [⟨((lastY rs).toNat : Int), ((ts.getD ((lastY rs).toNat - 1) tq0).1.2.1 : Int) - 1⟩, ((bkL W (rndsT W rs).2).getD i id0), ((frL W (rndsT W rs).2).getD i id0)], [⟨⟨((lastY rs).toNat : Int), ((ts.getD ((lastY rs).toNat - 1) tq0).1.2.1 : Int) - 1⟩, true, 0⟩]⟩ : LpQ).p = bndP W (rndsT W rs).2 ((lastY rs).toNat : Int) ((rndsT W rs).1.getD ((lastY rs).toNat - 1) []).length i := by rw [bndP, if_neg (show ¬ i = 0 by omega), if_neg (show ¬ i = 0 by omega), hstL, ← frL_at hil, ← bkL_at hil, show ((((rndsT W rs).1.getD ((lastY rs).toNat - 1) []).length + i - 1 : Nat) : Int) = ((ts.getD ((lastY rs).toNat - 1) tq0).1.2.1 : Int) - 1 by omega]; rfl
         refine st_append h rfl rfl hrw ho200.sl el42 (by unfold maxLen; simp only [List.length_cons, List.length_nil]; omega) (by simp only [List.length_cons, List.length_nil]; omega) (by omega) rfl ?_; clear h a; intro v201 w52 ho201 q201 hor201 a h
         obtain ⟨AR, cR, rfl, -⟩ := ho201.sl.form
         have oL := fun (T : Nat) (h_ : T ≠ 68) => own_off hrw (Ne.symm h_)
         have hto := own_tf hT.out q201 (oL _ (by decide))
         have hb33 := blk_tf hb3 q201 (oL _ (by decide))
         have hF3 := own_tf hF q201 (oL _ (by decide))
         have hK3 := own_tf hK q201 (oL _ (by decide))
         have qf1 := qfp.step q201 (fun k k_ hlt => by have := (hrw.blk k k_).1; omega)
         replace hC := hC.step q201 (fun k_ h_ _ => h_)
         refine hd_next hC ?_
         refine hd_one 13 (by kernel_rfl) rfl ?_
         refine st_idxS (p := ((lastY rs).toNat - 1)) (E := encTq) h rfl rfl el29 (by omega) (by omega) (by omega) rfl ?_; clear h a; intro a h
         refine hd_next hC ?_
         refine hd_one 14 (by kernel_rfl) rfl ?_
         refine st_storeO (i := ((lastY rs).toNat - 1)) (((AR, ((ts.getD ((lastY rs).toNat - 1) tq0).2 ++ [(⟨0, false, (some ⟨g_183, 0, none⟩, 3, 3), (some ⟨g187, 0, none⟩, 1, 1), [⟨((lastY rs).toNat : Int), ((ts.getD ((lastY rs).toNat - 1) tq0).1.2.1 : Int) - 1⟩, ((bkL W (rndsT W rs).2).getD i id0), ((frL W (rndsT W rs).2).getD i id0)], [⟨⟨((lastY rs).toNat : Int), ((ts.getD ((lastY rs).toNat - 1) tq0).1.2.1 : Int) - 1⟩, true, 0⟩]⟩ : LpQ)]).length, cR), ((ts.getD ((lastY rs).toNat - 1) tq0).2 ++ [(⟨0, false, (some ⟨g_183, 0, none⟩, 3, 3), (some ⟨g187, 0, none⟩, 1, 1), [⟨((lastY rs).toNat : Int), ((ts.getD ((lastY rs).toNat - 1) tq0).1.2.1 : Int) - 1⟩, ((bkL W (rndsT W rs).2).getD i id0), ((frL W (rndsT W rs).2).getD i id0)], [⟨⟨((lastY rs).toNat : Int), ((ts.getD ((lastY rs).toNat - 1) tq0).1.2.1 : Int) - 1⟩, true, 0⟩]⟩ : LpQ)])) : TQ) h rfl rfl hto (by omega) rfl sz42 ?_; clear h a; intro w53 hto2 hq _hz a h
         have hT2 := hT.put τd_ok (u := (AR, ((ts.getD ((lastY rs).toNat - 1) tq0).2 ++ [(⟨0, false, (some ⟨g_183, 0, none⟩, 3, 3), (some ⟨g187, 0, none⟩, 1, 1), [⟨((lastY rs).toNat : Int), ((ts.getD ((lastY rs).toNat - 1) tq0).1.2.1 : Int) - 1⟩, ((bkL W (rndsT W rs).2).getD i id0), ((frL W (rndsT W rs).2).getD i id0)], [⟨⟨((lastY rs).toNat : Int), ((ts.getD ((lastY rs).toNat - 1) tq0).1.2.1 : Int) - 1⟩, true, 0⟩]⟩ : LpQ)]).length, cR)) (by omega) hlq ho201 q201 hor201 hto2 hq
         have hb34 := blk_tf hb33 hq (own_off hto (by decide))
         have hF4 := own_tf hF3 hq (own_off hto (by decide))
         have hK4 := own_tf hK3 hq (own_off hto (by decide))
         have qf2 := qf1.step hq (fun k k_ hlt => by rw [List.mem_singleton.1 k_] at hlt; omega)
         have htPn : tabP (ts.set ((lastY rs).toNat - 1) ((AR, ((ts.getD ((lastY rs).toNat - 1) tq0).2 ++ [(⟨0, false, (some ⟨g_183, 0, none⟩, 3, 3), (some ⟨g187, 0, none⟩, 1, 1), [⟨((lastY rs).toNat : Int), ((ts.getD ((lastY rs).toNat - 1) tq0).1.2.1 : Int) - 1⟩, ((bkL W (rndsT W rs).2).getD i id0), ((frL W (rndsT W rs).2).getD i id0)], [⟨⟨((lastY rs).toNat : Int), ((ts.getD ((lastY rs).toNat - 1) tq0).1.2.1 : Int) - 1⟩, true, 0⟩]⟩ : LpQ)]).length, cR), ((ts.getD ((lastY rs).toNat - 1) tq0).2 ++ [(⟨0, false, (some ⟨g_183, 0, none⟩, 3, 3), (some ⟨g187, 0, none⟩, 1, 1), [⟨((lastY rs).toNat : Int), ((ts.getD ((lastY rs).toNat - 1) tq0).1.2.1 : Int) - 1⟩, ((bkL W (rndsT W rs).2).getD i id0), ((frL W (rndsT W rs).2).getD i id0)], [⟨⟨((lastY rs).toNat : Int), ((ts.getD ((lastY rs).toNat - 1) tq0).1.2.1 : Int) - 1⟩, true, 0⟩]⟩ : LpQ)]))) = (rndsT W rs).1.set ((lastY rs).toNat - 1) (((rndsT W rs).1.getD ((lastY rs).toNat - 1) []) ++ bndL W (rndsT W rs).2 ((lastY rs).toNat : Int) ((rndsT W rs).1.getD ((lastY rs).toNat - 1) []).length (i + 1)) := by
           rw [tabP_set, htP, List.set_set, List.map_append, hrow, List.map_cons, hQ, bndL_succ, List.append_assoc]; rfl
         refine hd_past (by kernel_rfl) ?_
         refine hd_end (by kernel_rfl) ?_
         clear hC hb3_b hT_b hF_b hK_b hrw_b hb20_b ho166_b ho183_b ho187_b
         refine bk (h.sub (L' := [(2, _), (3, _), (4, _), (5, _), (6, _), (17, _), (18, _)]) (.cons rfl (.cons rfl (.cons rfl (.cons rfl (.cons rfl (.cons rfl (.cons rfl .nil)))))))) ?_; clear h a
         refine bn' (tn (rg (mv rfl rfl (s_add rfl rfl (wi6 (by omega)) rfl (asg rfl rfl (nl ?_))))))
         exact lpE (i + 1) (.cons rfl (.cons rfl (.cons rfl (.cons rfl (.cons rfl (.cons rfl (.cons rfl .nil))))))) ⟨by omega, _, hT2, by rw [List.length_set]; exact hlt, htPn, hb34, hF4, hK4, qf2⟩ (by omega)
       · refine sk (tn ?_)
         replace hb3 := hb3.ext q42
         replace hT := hT0.ext q42
         replace hF := hF0.ext q42
         replace hK := hK0.ext q42
         replace hrw := hrw0.ext q42
         intro a h
         refine region_heldP (some 14) (fun wb w' => Fr (blks (slv (ts.getD ((lastY rs).toNat - 1) tq0).1)) wb w') hmix ?_; intro w54 hq
         have z54 := hq.size
         replace hb3 := hb3.ext hq
         replace hT := hT.ext hq
         replace hF := hF.ext hq
         replace hK := hK.ext hq
         replace hrw := hrw.ext hq
         replace hb20 := hb20.ext hq
         replace ho166 := ho166.ext hq
         have q54 := hq
         clear hq; have hC : Fr (blks (slv (ts.getD ((lastY rs).toNat - 1) tq0).1)) w54 w54 := Fr.refl _ _
         have hb3_b := hb3
         have hT_b := hT
         have hF_b := hF
         have hK_b := hK
         have hrw_b := hrw
         have hb20_b := hb20
         have ho166_b := ho166
         refine hd_fieldAddr 0 (by kernel_rfl) (by kernel_rfl) (by kernel_rfl) hC h wn rfl fa33_0 rfl rfl ?_; clear h a; intro a h
         refine hd_loadB 1 (by kernel_rfl) (by kernel_rfl) (by kernel_rfl) hC h wn rfl (fun _ hw => hb3_b.fr hw (fun k_ => Own.neB hrw_b hb3_b (by decide) k_)) rfl na29 rfl rfl ?_; clear h a; intro a h
         refine hd_move 2 (by kernel_rfl) (by kernel_rfl) (by kernel_rfl) hC h wn rfl rfl rfl ?_; clear h a; intro a h
         refine hd_sub 3 (by kernel_rfl) (by kernel_rfl) (by kernel_rfl) hC h wn rfl rfl (by first | exact IntWalk.u8_in _ (by omega) | rfl) rfl rfl ?_; clear h a; intro a h
         refine hd_fieldAddr 4 (by kernel_rfl) (by kernel_rfl) (by kernel_rfl) hC h wn rfl fa33_0 rfl rfl ?_; clear h a; intro a h
         refine hd_loadB 5 (by kernel_rfl) (by kernel_rfl) (by kernel_rfl) hC h wn rfl (fun _ hw => hb3_b.fr hw (fun k_ => Own.neB hrw_b hb3_b (by decide) k_)) rfl na29 rfl rfl ?_; clear h a; intro a h
         refine hd_move 6 (by kernel_rfl) (by kernel_rfl) (by kernel_rfl) hC h wn rfl rfl rfl ?_; clear h a; intro a h
         refine hd_sub 7 (by kernel_rfl) (by kernel_rfl) (by kernel_rfl) hC h wn rfl rfl (by first | exact IntWalk.u8_in _ (by omega) | rfl) rfl rfl ?_; clear h a; intro a h
         refine hd_idxL (p := ((lastY rs).toNat - 1)) (tq0) 8 (by kernel_rfl) (by kernel_rfl) (by kernel_rfl) hC h wn rfl hT.out.sl rfl el29 (by omega) (by omega) (by omega) rfl rfl ?_; clear h a; intro ad197 hc197 a h
         refine hd_loadC0 9 (by kernel_rfl) (by kernel_rfl) (by kernel_rfl) hC h wn rfl (fun _ hw => hc197 _ (own_tf hT_b.out hw (own_off hrw_b (by decide))).sl) na42 rfl rfl ?_; clear h a; intro a h
         refine hd_loadBA 10 (by kernel_rfl) (by kernel_rfl) (by kernel_rfl) hC h wn rfl (fun _ hw => hb20_b.fr hw (fun k_ => by have := hrwz _ k_; omega)) ag68 rfl rfl ?_; clear h a; intro a h
         refine hd_one 11 (by kernel_rfl) rfl ?_
         refine st_bslice ([(⟨0, false, (some ⟨g166, 0, none⟩, 2, 2), sv0, [((bkL W (rndsT W rs).2).getD i id0), ((frL W (rndsT W rs).2).getD i id0)], []⟩ : LpQ)]) h (evs_cons rfl evs_nil) rfl rfl rfl el42 (Nat.le_of_ble_eq_true rfl) rfl ?_; clear h a; intro g_200 w55 hg200 ho200 hq hz a h
         have z55 := hq.size
         replace hb3 := hb3.ext hq
         replace hT := hT.ext hq
         replace hF := hF.ext hq
         replace hK := hK.ext hq
         replace hrw := hrw.ext hq
         replace hb20 := hb20.ext hq
         replace ho166 := ho166.ext hq
         replace hC := hC.next hq
         have q55 := hq
         clear hq
         refine hd_next hC ?_
         refine hd_one 12 (by kernel_rfl) rfl ?_
         have qfp := (((qf.next q42).next q54).next q55)
         have hzp := qfp.size
         have hlq : LpO τd w2.heap.size w55 (⟨0, false, (some ⟨g166, 0, none⟩, 2, 2), sv0, [((bkL W (rndsT W rs).2).getD i id0), ((frL W (rndsT W rs).2).getD i id0)], []⟩ : LpQ) := ⟨ho166.low (by omega), Own.nil _⟩
         have hQ : (⟨0, false, (some ⟨g166, 0, none⟩, 2, 2), sv0, [((bkL W (rndsT W rs).2).getD i id0), ((frL W (rndsT W rs).2).getD i id0)], []⟩ : LpQ).p = bndP W (rndsT W rs).2 ((lastY rs).toNat : Int) ((rndsT W rs).1.getD ((lastY rs).toNat - 1) []).length i := by rw [bndP, if_pos (show i = 0 by omega), if_pos (show i = 0 by omega), hstL, ← frL_at hil, ← bkL_at hil]; rfl
         refine st_append h rfl rfl hrw ho200.sl el42 (by unfold maxLen; simp only [List.length_cons, List.length_nil]; omega) (by simp only [List.length_cons, List.length_nil]; omega) (by omega) rfl ?_; clear h a; intro v201 w56 ho201 q201 hor201 a h
         obtain ⟨AR, cR, rfl, -⟩ := ho201.sl.form
         have oL := fun (T : Nat) (h_ : T ≠ 68) => own_off hrw (Ne.symm h_)
         have hto := own_tf hT.out q201 (oL _ (by decide))
         have hb33 := blk_tf hb3 q201 (oL _ (by decide))
         have hF3 := own_tf hF q201 (oL _ (by decide))
         have hK3 := own_tf hK q201 (oL _ (by decide))
         have qf1 := qfp.step q201 (fun k k_ hlt => by have := (hrw.blk k k_).1; omega)
         replace hC := hC.step q201 (fun k_ h_ _ => h_)
         refine hd_next hC ?_
         refine hd_one 13 (by kernel_rfl) rfl ?_
         refine st_idxS (p := ((lastY rs).toNat - 1)) (E := encTq) h rfl rfl el29 (by omega) (by omega) (by omega) rfl ?_; clear h a; intro a h
         refine hd_next hC ?_
         refine hd_one 14 (by kernel_rfl) rfl ?_
         refine st_storeO (i := ((lastY rs).toNat - 1)) (((AR, ((ts.getD ((lastY rs).toNat - 1) tq0).2 ++ [(⟨0, false, (some ⟨g166, 0, none⟩, 2, 2), sv0, [((bkL W (rndsT W rs).2).getD i id0), ((frL W (rndsT W rs).2).getD i id0)], []⟩ : LpQ)]).length, cR), ((ts.getD ((lastY rs).toNat - 1) tq0).2 ++ [(⟨0, false, (some ⟨g166, 0, none⟩, 2, 2), sv0, [((bkL W (rndsT W rs).2).getD i id0), ((frL W (rndsT W rs).2).getD i id0)], []⟩ : LpQ)])) : TQ) h rfl rfl hto (by omega) rfl sz42 ?_; clear h a; intro w57 hto2 hq _hz a h
         have hT2 := hT.put τd_ok (u := (AR, ((ts.getD ((lastY rs).toNat - 1) tq0).2 ++ [(⟨0, false, (some ⟨g166, 0, none⟩, 2, 2), sv0, [((bkL W (rndsT W rs).2).getD i id0), ((frL W (rndsT W rs).2).getD i id0)], []⟩ : LpQ)]).length, cR)) (by omega) hlq ho201 q201 hor201 hto2 hq
         have hb34 := blk_tf hb33 hq (own_off hto (by decide))
         have hF4 := own_tf hF3 hq (own_off hto (by decide))
         have hK4 := own_tf hK3 hq (own_off hto (by decide))
         have qf2 := qf1.step hq (fun k k_ hlt => by rw [List.mem_singleton.1 k_] at hlt; omega)
         have htPn : tabP (ts.set ((lastY rs).toNat - 1) ((AR, ((ts.getD ((lastY rs).toNat - 1) tq0).2 ++ [(⟨0, false, (some ⟨g166, 0, none⟩, 2, 2), sv0, [((bkL W (rndsT W rs).2).getD i id0), ((frL W (rndsT W rs).2).getD i id0)], []⟩ : LpQ)]).length, cR), ((ts.getD ((lastY rs).toNat - 1) tq0).2 ++ [(⟨0, false, (some ⟨g166, 0, none⟩, 2, 2), sv0, [((bkL W (rndsT W rs).2).getD i id0), ((frL W (rndsT W rs).2).getD i id0)], []⟩ : LpQ)]))) = (rndsT W rs).1.set ((lastY rs).toNat - 1) (((rndsT W rs).1.getD ((lastY rs).toNat - 1) []) ++ bndL W (rndsT W rs).2 ((lastY rs).toNat : Int) ((rndsT W rs).1.getD ((lastY rs).toNat - 1) []).length (i + 1)) := by
           rw [tabP_set, htP, List.set_set, List.map_append, hrow, List.map_cons, hQ, bndL_succ, List.append_assoc]; rfl
         refine hd_past (by kernel_rfl) ?_
         refine hd_end (by kernel_rfl) ?_
         clear hC hb3_b hT_b hF_b hK_b hrw_b hb20_b ho166_b
         refine bk (h.sub (L' := [(2, _), (3, _), (4, _), (5, _), (6, _), (17, _), (18, _)]) (.cons rfl (.cons rfl (.cons rfl (.cons rfl (.cons rfl (.cons rfl (.cons rfl .nil)))))))) ?_; clear h a
         refine bn' (tn (rg (mv rfl rfl (s_add rfl rfl (wi6 (by omega)) rfl (asg rfl rfl (nl ?_))))))
         exact lpE (i + 1) (.cons rfl (.cons rfl (.cons rfl (.cons rfl (.cons rfl (.cons rfl (.cons rfl .nil))))))) ⟨by omega, _, hT2, by rw [List.length_set]; exact hlt, htPn, hb34, hF4, hK4, qf2⟩ (by omega)
   · have hiW : i = W := by omega
     rw [hiW] at htP
     replace htP : tabP ts = tubT W rs := htP
     have hrow := tab_row htP (j := ((lastY rs).toNat - 1)) (by omega)
     have hrl := congrArg List.length hrow
     rw [List.length_map] at hrl
     have hsl_ := sl_len (hT.ins ((lastY rs).toNat - 1) (by omega)).sl
     have hTl_ : ((tubT W rs).getD ((lastY rs).toNat - 1) []).length = ((rndsT W rs).1.getD ((lastY rs).toNat - 1) []).length + W := by unfold tubT; rw [set_getD (by rw [rnds_len]; omega), if_pos rfl, List.length_append, bndL_len]
     have hTL := hT
     have hb3L := hb3
     have hb2L := hb2
     refine ex (te (te (xh (tn (sr (mv rfl rfl (fad rfl fa33_0 rfl (s_loadB rfl hb3 rfl na29 rfl (mv rfl rfl (s_sub rfl rfl (wi8 (by omega)) rfl (s_idxL (p := ((lastY rs).toNat - 1)) (tq0) rfl hT.out.sl rfl el29 (by omega) (by omega) (by omega) rfl (fun ad208 hc208 => ?_))))))))))))
     refine s_loadC0 rfl (hc208 _ hT.out.sl) na42 rfl (lnS rfl Tryd.underlying42 rfl (s_sub rfl rfl (wi6 (by omega)) rfl (s_lit (cs := [_, _]) (ev2 rfl rfl) bo61 (pok_cons rfl rfl rfl (pok_cons rfl rfl rfl pok_nil)) rfl rfl ?_)))
     refine s_bslice ([(⟨((lastY rs).toNat : Int), ((ts.getD ((lastY rs).toNat - 1) tq0).1.2.1 : Int) - 1⟩ : LId)]) (ev1 rfl) rfl rfl rfl el31 (Nat.le_of_ble_eq_true rfl) rfl (fun g213 w58 hg213 ho213 q58 z58 => ?_)
     refine fad rfl fa33_3 rfl ?_
     replace hb3 := hb3.ext q58
     refine s_storeB rfl rfl hb3 rfl rfl rfl sz31 (fun w59 hb3 q59 z59 => ?_)
     replace hb3 : Blk w59 g3 _ [_, _, _, _] := hb3
     refine kpL [(2, _), (3, _)] (.cons rfl (.cons rfl .nil)) (nn (sr (s_loadBA rfl hb3 ag33 rfl ?_)))
     replace hb2 := (hb2.ext q58).fr q59 (by first | (simp; done) | (simp; omega) | (simp [blks]; done) | (simp [blks]; omega))
     refine s_storeBA (vs := [_, _, _, _]) rfl rfl hb2 (by rfl) (by first | (simp [Value.oneCell', S]; done) | exact Enc.one _ _) sz33 (fun w60 hb2 q60 z60 => ?_)
     refine nn (rt ?_)
     replace ho213 := (ho213.fr q59 (by first | (simp; done) | (simp; omega) | (simp [blks]; done) | (simp [blks]; omega) | (intro k hk hb; simp at hk; subst hk; have := ho213.blk _ hb; omega))).fr q60 (by first | (simp; done) | (simp; omega) | (simp [blks]; done) | (simp [blks]; omega) | (intro k hk hb; simp at hk; subst hk; have := ho213.blk _ hb; omega))
     refine rC Tryd.results9 rfl hb2 ag33  ?_
     have hF_ := ((((Fr.refl [g3, g2] _).next q58).step q59 (by first | (simp; done) | (simp; omega))).step q60 (by first | (simp; done) | (simp; omega)))
     have oo := fun (T : Nat) (hT_ : 33 ≠ T) => OffT.app (OffT.one hb3L hT_) (OffT.one hb2L hT_)
     have hTF := hTL.tf hF_ (oo _ (by decide)) (oo _ (by decide)) (oo _ (by decide)) (oo _ (by decide))
     exact ⟨_, rfl, ⟨(some ⟨gT, 0, none⟩, 6, 6), sv0, sv0, (some ⟨g213, 0, none⟩, 1, 1), ts, [], [], [⟨((lastY rs).toNat : Int), ((ts.getD ((lastY rs).toNat - 1) tq0).1.2.1 : Int) - 1⟩]⟩, rfl, ⟨hTF.at.1, hTF.at.2, Sl.nil _, Sl.nil _, ho213.sl⟩, (by show Fb.mk _ _ _ _ = _; rw [htP, show ((ts.getD ((lastY rs).toNat - 1) tq0).1.2.1 : Int) - 1 = (((tubT W rs).getD ((lastY rs).toNat - 1) []).length : Int) - 1 by omega]; rfl), (((((q1.next q2).next qf).next q58).step q59 (by first | (simp; done) | (simp; omega))).step q60 (by first | (simp; done) | (simp; omega)))⟩
end Go.Proofs.YtgdlgjkjpbbniaaDoor
namespace Go.Proofs.YtgdlgjkjpbbniaaDoor
open Go.Lw Go.G21
theorem ag24 : AggOf Tryd.prog 24 2 := ⟨fun _ => by kernel_rfl, fun _ => by kernel_rfl⟩
theorem co7 : CallOf Tryd.prog 7 := CallOf.mk' Tryd.func7 (by kernel_rfl) (by kernel_rfl)
theorem co9 : CallOf Tryd.prog 9 := CallOf.mk' Tryd.func9 (by kernel_rfl) (by kernel_rfl)
set_option maxHeartbeats 1000000 in
theorem law_of (b : Int) (v : Value) (xs : List UInt8) (w0 : World) (hG : Glob w0) (hb : 0 ≤ b ∧ b ≤ 255) (hs : Sl Enc.b w0 v xs) : Rets Tryd.prog 3 #[.agg #[.int .u8 b, v]] w0 fun r w' => r = .bool true ∧ Fr [] w0 w' := by
 obtain ⟨Ax, cx, rfl, hcx, hMx, hAx⟩ := id hs
 clear hAx
 unfold maxLen at hMx
 have hGs := hG.sz
 refine we [(0, .agg #[.int .u8 b, .slice Ax xs.length cx])] Tryd.func3 rfl Tryd.ntmps3 rfl (.cons rfl .nil) ?_
 have hs0 := hs
 have hG0 := hG
 refine sr (bx rfl rfl rfl (fun g1 w1 hg1 hb1 q1 z1 => ?_))
 refine asg rfl rfl (nn (sr (s_loadBA rfl hb1 ag24 rfl ?_)))
 replace hs := hs0.ext q1
 refine cl (ev1 rfl) co7 (uof_ok b _ xs _ hb hs) rfl ?_
 rintro _ w2 ⟨At, ct, rfl, hst, q2⟩
 have z2 := q2.size
 obtain ⟨W, hW⟩ : ∃ W : Nat, 1 + b % 8 = (W : Int) := ⟨(1 + b % 8).toNat, by omega⟩
 rw [hW]
 have h0 : tubE (W : Int) (uR xs) = 0 := by rw [← hW]; exact uR_ok hb xs
 have hst0 := hst
 refine al zv26 rfl rfl (fun g3 w3 hg3 hb3 q3 z3 => ?_)
 refine s_storeBA (vs := [_, _]) rfl rfl hb3 (by rfl) (by first | (simp [Value.oneCell', S]; done) | exact Enc.one _ _) sz26 (fun w4 hb3 q4 z4 => ?_)
 refine nn (sr (s_loadBA rfl hb3 ag26 rfl ?_))
 replace hst := hst0.ext (q3.step q4 (by first | (simp; done) | (simp; omega)))
 refine cl (ev1 rfl) co8 (of_ok W _ (uR xs) _ hst h0) rfl ?_
 rintro _ w5 ⟨qf, rfl, hkf, hpf, q5⟩
 have z5 := q5.size
 have hfA := hkf.at
 have hfA0 := hfA
 refine mv rfl rfl (xt rfl rfl rfl (xt rfl rfl rfl (al zv33 rfl rfl (fun g4 w6 hg4 hb4 q6 z6 => ?_))))
 refine s_storeBA (vs := [_, _, _, _]) rfl rfl hb4 (by rfl) (by first | (simp [Value.oneCell', S]; done) | exact Enc.one _ _) sz33 (fun w7 hb4 q7 z7 => ?_)
 refine asg rfl rfl (nn (sr ?_))
 replace hb3 := (hb3.ext (q5.next q6)).fr q7 (by first | (simp; done) | (simp; omega) | (simp [blks]; done) | (simp [blks]; omega))
 refine s_loadBA rfl hb3 ag26 rfl ?_
 replace hst := hst0.ext ((((q3.step q4 (by first | (simp; done) | (simp; omega))).next q5).next q6).step q7 (by first | (simp; done) | (simp; omega)))
 refine cl (ev1 rfl) co9 (refof_ok W _ (uR xs) _ hst h0) rfl ?_
 rintro _ w8 ⟨qw, rfl, hfB, hpw, q8⟩
 have z8 := q8.size
 have hfB0 := hfB
 refine al zv33 rfl rfl (fun g6 w9 hg6 hb6 q9 z9 => ?_)
 refine s_storeBA (vs := [_, _, _, _]) rfl rfl hb6 (by rfl) (by first | (simp [Value.oneCell', S]; done) | exact Enc.one _ _) sz33 (fun w10 hb6 q10 z10 => ?_)
 refine nn (sr ?_)
 replace hb3 := (hb3.ext (q8.next q9)).fr q10 (by first | (simp; done) | (simp; omega) | (simp [blks]; done) | (simp [blks]; omega))
 refine s_loadBA rfl hb3 ag26 rfl ?_
 replace hst := hst0.ext (((((((q3.step q4 (by first | (simp; done) | (simp; omega))).next q5).next q6).step q7 (by first | (simp; done) | (simp; omega))).next q8).next q9).step q10 (by first | (simp; done) | (simp; omega)))
 refine cl (ev1 rfl) co10 (loops_ok W _ (uR xs) _ hst h0) rfl ?_
 rintro _ w11 ⟨AL, rfl, hsL, q11⟩
 have z11 := q11.size
 replace hfB := hfB0.ext ((q9.step q10 (by first | (simp; done) | (simp; omega))).next q11)
 have hLl : (cntZ (tubT W (uR xs))).length = 6 := by rw [cnt_len, tubT_len]
 have hpe : qf.p = qw.p := hpf.trans hpw.symm
 have htw : tabP qw.ts = tubT W (uR xs) := congrArg Fb.t hpw
 have hwl : qw.ts.length = 6 := by have := congrArg List.length htw; rwa [List.length_map, tubT_len] at this
 have hwt := hfB.len.1
 have hsL0 := hsL
 refine mv rfl rfl (xt rfl rfl rfl (xt rfl rfl rfl (asg rfl rfl (asg rfl rfl (kpL [(4, _), (5, _), (6, _), (7, _), (8, _)] (.cons rfl (.cons rfl (.cons rfl (.cons rfl (.cons rfl .nil))))) (nn (sq (sq ?_))))))))
 refine rboF (r := 45) (L' := [(6, _), (7, _)]) ((((((0 ≠ 0) ∨ (0 ≠ 0)) ∨ (0 ≠ 0)) ∨ ((6 : Int) ≠ 6)) ∨ (6 ≠ 6))) (.cons rfl (.cons rfl .nil)) ?_ ?_
 · refine mv rfl rfl (ne' rfl rfl rfl (mv rfl rfl ?_))
   refine gs 26 rfl (fun hh => absurd hh (by decide)) (fun g0 => ?_)
   refine gY rfl (mv rfl rfl (gY rfl (ne' rfl rfl rfl (pkf rfl rfl rfl rfl (mv rfl rfl ?_)))))
   refine gs 30 rfl (fun hh => absurd hh (by decide)) (fun g1 => ?_)
   refine gY rfl ?_
   replace hb4 := ((hb4.ext (q8.next q9)).fr q10 (by first | (simp; done) | (simp; omega) | (simp [blks]; done) | (simp [blks]; omega))).ext q11
   refine s_loadBA rfl hb4 ag33 rfl (gY rfl ?_)
   replace hb6 := hb6.ext q11
   refine s_loadBA rfl hb6 ag33 rfl (gY rfl ?_)
   replace hfA := hfA0.ext (((((q6.step q7 (by first | (simp; done) | (simp; omega))).next q8).next q9).step q10 (by first | (simp; done) | (simp; omega))).next q11)
   refine cl (ev2 rfl rfl) co11 (by have hfX := fabrics_ok _ _ _ hfA hfB hpe; exact hfX) rfl ?_
   rintro _ w12 ⟨rfl, q12⟩
   have z12 := q12.size
   refine gY rfl (ne' rfl rfl rfl (pkf rfl rfl rfl rfl (mv rfl rfl ?_)))
   refine gs 36 rfl (fun hh => absurd hh (by decide)) (fun g2 => ?_)
   refine gY rfl (mv rfl rfl (gY rfl (lnS rfl Tryd.underlying38 rfl (gY rfl (ne' rfl rfl rfl (pkf rfl rfl rfl rfl (mv rfl rfl ?_)))))))
   refine gs 41 rfl (fun hh => absurd hh (by decide)) (fun g3 => ?_)
   exact gY rfl (mv rfl rfl (gY rfl (s_capS rfl Tryd.underlying38 rfl (gY rfl (ne' rfl rfl rfl (pkf rfl rfl rfl rfl (rbeF rfl (by first | exact bt (by omega) | exact bf (by omega) | exact bi (by omega) | exact bn (by omega) | (simp_all; done) | (simp_all; omega)) (.cons rfl (.cons rfl .nil)) q12)))))))
 · intro w13 q13; have z13 := q13.size
   refine tn ?_
   refine cd rfl (fun c0 => ?_) (fun c0 => ?_)
   · refine sr (asg rfl rfl (nn (rt (tr (r1 Tryd.results3 rfl ?_)))))
     exact absurd c0 (by decide)
   · refine sk (tn (sq (sr (asg rfl rfl (nn (bl ?_))))))
     refine lpK (ι := Nat) [(6, _), (7, _)] (fun i => [(9, .int .i64 (i : Int))]) (fun i w' => Fr [] w13 w' ∧ i ≤ 6) (fun i => 6 - i) 0 (.cons rfl (.cons rfl (.cons rfl .nil))) ⟨Fr.refl _ _, Nat.zero_le _⟩ ?_
     rintro i w14 ⟨q14, hi⟩
     have z14 := q14.size
     refine kpC [(6, _), (7, _), (9, _)] (.cons rfl (.cons rfl (.cons rfl .nil))) ?_
     refine sq (sr (mv rfl rfl (lt' rfl rfl rfl (nn ?_))))
     refine cd rfl (fun c1 => ?_) (fun c1 => ?_)
     · replace hfB := hfB0.ext ((((q9.step q10 (by first | (simp; done) | (simp; omega))).next q11).next q13).next q14)
       have hct := cnt_at (tubT W (uR xs)) i (by rw [tubT_len]; omega)
       have hrw_ := tab_row htw (j := i) (by omega)
       have hrl := congrArg List.length hrw_
       rw [List.length_map] at hrl
       have hsl_ := sl_len (hfB.tt _ (mem_getD (d := tq0) (i := i) (by omega))).1
       refine sk (tn (sq (bl (sq ?_))))
       replace hb6 := hb6.ext ((q11.next q13).next q14)
       replace hsL := hsL0.ext (q13.next q14)
       intro a h
       refine region_heldP none (fun wb w' => Fr [] wb w') hmix ?_; intro w15 hq
       have z15 := hq.size
       replace hfB := hfB.ext hq
       replace hb6 := hb6.ext hq
       replace hsL := hsL.ext hq
       have q15 := hq
       clear hq; have hC : Fr [] w15 w15 := Fr.refl _ _
       have hfB_b := hfB
       have hb6_b := hb6
       have hsL_b := hsL
       refine hd_move 0 (by kernel_rfl) (by kernel_rfl) (by kernel_rfl) hC h wn rfl rfl rfl ?_; clear h a; intro a h
       refine hd_move 1 (by kernel_rfl) (by kernel_rfl) (by kernel_rfl) hC h wn rfl rfl rfl ?_; clear h a; intro a h
       refine hd_idxL (p := i) ((0 : Int)) 2 (by kernel_rfl) (by kernel_rfl) (by kernel_rfl) hC h wn rfl hsL rfl el38 (by omega) (by omega) (by omega) rfl rfl ?_; clear h a; intro ad52 hc52 a h
       refine hd_loadC0 3 (by kernel_rfl) (by kernel_rfl) (by kernel_rfl) hC h wn rfl (fun _ hw => hc52 _ (hsL_b.ext hw)) na3 rfl rfl ?_; clear h a; intro a h
       refine hd_fieldAddr 4 (by kernel_rfl) (by kernel_rfl) (by kernel_rfl) hC h wn rfl fa33_0 rfl rfl ?_; clear h a; intro a h
       refine hd_loadB 5 (by kernel_rfl) (by kernel_rfl) (by kernel_rfl) hC h wn rfl (fun _ hw => hb6_b.ext hw) rfl na29 rfl rfl ?_; clear h a; intro a h
       refine hd_move 6 (by kernel_rfl) (by kernel_rfl) (by kernel_rfl) hC h wn rfl rfl rfl ?_; clear h a; intro a h
       refine hd_idxL (p := i) (tq0) 7 (by kernel_rfl) (by kernel_rfl) (by kernel_rfl) hC h wn rfl hfB.t rfl el29 (by omega) (by omega) (by omega) rfl rfl ?_; clear h a; intro ad57 hc57 a h
       refine hd_loadC0 8 (by kernel_rfl) (by kernel_rfl) (by kernel_rfl) hC h wn rfl (fun _ hw => hc57 _ (hfB.t.ext hw)) na42 rfl rfl ?_; clear h a; intro a h
       refine hd_lenS 9 (by kernel_rfl) (by kernel_rfl) (by kernel_rfl) hC h wn rfl Tryd.underlying42 rfl rfl ?_; clear h a; intro a h
       refine hd_ne 10 (by kernel_rfl) (by kernel_rfl) (by kernel_rfl) hC h wn rfl rfl rfl rfl ?_; clear h a; intro a h
       refine hd_end (by kernel_rfl) ?_
       clear hC hfB_b hb6_b hsL_b
       refine bk (h.sub (L' := [(6, _), (7, _), (9, _), (60, _)]) (.cons rfl (.cons rfl (.cons rfl (.cons rfl .nil))))) ?_; clear h a
       refine tn ?_
       refine cd rfl (fun c2 => ?_) (fun c2 => ?_)
       · refine sr (asg rfl rfl (nn (rt (rb (tr (tr (rb (tr (r1 Tryd.results3 rfl ?_)))))))))
         exact absurd (by omega) c2
       · refine sk (bn' (tn (rg (mv rfl rfl (s_add rfl rfl (wi6 (by omega)) rfl (asg rfl rfl (nl ?_)))))))
         exact lpE (i + 1) (.cons rfl (.cons rfl (.cons rfl .nil))) ⟨(q14.next q15), by omega⟩ (by omega)
     · obtain rfl : i = 6 := by omega
       refine ex (te (te (xh (tn (sr ?_)))))
       replace hG := hG0.ext ((((((((((((q1.next q2).next q3).step q4 (by first | (simp; done) | (simp; omega))).next q5).next q6).step q7 (by first | (simp; done) | (simp; omega))).next q8).next q9).step q10 (by first | (simp; done) | (simp; omega))).next q11).next q13).next q14)
       refine cl evs_nil co12 (lives_ok _ hG) rfl ?_
       rintro _ w16 ⟨rfl, q16⟩
       have z16 := q16.size
       refine asg rfl rfl (nn (rt (r1 Tryd.results3 rfl ?_)))
       exact ⟨_, rfl, rfl, (((((((((((((q1.next q2).next q3).step q4 (by first | (simp; done) | (simp; omega))).next q5).next q6).step q7 (by first | (simp; done) | (simp; omega))).next q8).next q9).step q10 (by first | (simp; done) | (simp; omega))).next q11).next q13).next q14).next q16)⟩
end Go.Proofs.YtgdlgjkjpbbniaaDoor
