/- Walks. -/
import Derived.Test.YtbalocjcbmkecaaGreatDoorRows
import Derived.Test.YtbalocjcbmkecaaGreatDoorW22
import Derived.Test.YtbalocjcbmkecaaGreatDoorXOp
import Derived.Test.YtbalocjcbmkecaaGreatDoorXMap
import Derived.Test.YtbalocjcbmkecaaGreatDoorXBit
set_option linter.unusedVariables false
set_option linter.unusedSimpArgs false
namespace Go.Proofs.YtbalocjcbmkecaaGreatDoor
open Go.Lw

def fT (os : List MOp) (pre : List (Ps os)) (x : Ps os) (j : Nat) : TS := ((sl2 os x.1).take j).foldl tstep ((timP os (pre.map Subtype.val)).1, (timP os (pre.map Subtype.val)).2, none)
theorem fT_succ {os : List MOp} {pre : List (Ps os)} {x : Ps os} {j : Nat} (h : j < (sl2 os x.1).length) : fT os pre x (j + 1) = tstep (fT os pre x j) ((sl2 os x.1).getD j op0) := by
  unfold fT; rw [take_sg _ j op0 h, List.foldl_append]; rfl
theorem fT_ok {os : List MOp} (hq : ∀ o ∈ os, chkO o = 0) (hl : os.length ≤ 4096) (pre : List (Ps os)) (x : Ps os) (j : Nat) : TSok (70000 * (pre.length : Int) + 16 * 4096) (fT os pre x j) := by
  unfold fT
  have h1 := timP_ok hq hl (pre.map Subtype.val)
  rw [List.length_map] at h1
  have h2 := fold_ok ((sl2 os x.1).take j) _ ((timP os (pre.map Subtype.val)).1, (timP os (pre.map Subtype.val)).2, none) ⟨h1.1, h1.2, fun a b e => by cases e⟩ (fun o ho => hq o (sl2_mem (List.mem_of_mem_take ho)))
  have h3 := sl2_le os x.1
  have h4 : ((sl2 os x.1).take j).length ≤ 4096 := by rw [List.length_take]; omega
  obtain ⟨⟨a1, a2⟩, a3, a4⟩ := h2
  exact ⟨⟨a1, by omega⟩, a3, a4⟩
def loM (m : Option (Int × Int)) : Int := match m with | none => 0 | some p => p.1
def hiM (m : Option (Int × Int)) : Int := match m with | none => 0 | some p => p.2
def lo0 (m : Option (Int × Int)) (p : Int) : Int := match m with | none => p | some q => q.1
def hi0 (m : Option (Int × Int)) (p : Int) : Int := match m with | none => p | some q => q.2
theorem wk_t {m : Option (Int × Int)} (h : (!m.isSome) = true) : m = none := by cases m <;> simp_all
theorem wk_f {m : Option (Int × Int)} (h : ¬ (!m.isSome) = true) : m.isSome = true := by cases m <;> simp_all
theorem lo_t {m : Option (Int × Int)} {p : Int} (h : (!m.isSome) = true) : lo0 m p = p ∧ hi0 m p = p := by rw [wk_t h]; exact ⟨rfl, rfl⟩
theorem lo_f {m : Option (Int × Int)} {p : Int} (h : ¬ (!m.isSome) = true) : lo0 m p = loM m ∧ hi0 m p = hiM m := by cases m <;> simp_all [lo0, hi0, loM, hiM]
theorem lo_tmx (m : Option (Int × Int)) (p : Int) : loM (some (tmx m p)) = min (lo0 m p) p ∧ hiM (some (tmx m p)) = max (hi0 m p) p := by
  cases m <;> simp [loM, hiM, tmx, lo0, hi0]
theorem ts_y {s : TS} {o : MOp} (h : o.k = 3) : (tstep s o).1 = s.1 + 2 * max (o.r - s.2.1) (s.2.1 - o.r) := if_pos h
theorem ts_n {s : TS} {o : MOp} (h : ¬ o.k = 3) : (tstep s o).1 = s.1 := if_neg h
theorem rk_y {r : Int} {o : MOp} (h : o.k = 3) : rkN r o = o.r := if_pos h
theorem rk_n {r : Int} {o : MOp} (h : ¬ o.k = 3) : rkN r o = r := if_neg h
theorem tm_y {s : TS} {o : MOp} (h : clsS o.k = 0) : (tstep s o).2.2 = s.2.2 := if_pos h
theorem tm_n {s : TS} {o : MOp} (h : ¬ clsS o.k = 0) : (tstep s o).2.2 = some (tmx s.2.2 (posS o (rkN s.2.1 o))) := if_neg h
theorem tend_t {s : TS} (h : s.2.2.isSome = true) : tend s = s.1 + (1 + hiM s.2.2 - loM s.2.2 + 1) := by
  obtain ⟨a, b, m⟩ := s; cases m <;> simp_all [tend, hiM, loM]
theorem tend_f {s : TS} (h : ¬ s.2.2.isSome = true) : tend s = s.1 := by
  obtain ⟨a, b, m⟩ := s; cases m <;> simp_all [tend]
theorem tim_x {os : List MOp} {pre : List (Ps os)} {x : Ps os} : timP os ((pre ++ [x]).map Subtype.val) = (tend (fT os pre x (sl2 os x.1).length), (fT os pre x (sl2 os x.1).length).2.1) := by
  rw [List.map_append, List.map_singleton, timP_snoc]; unfold fT; rw [List.take_length]; rfl
theorem lohi_in {M : Int} {s : TS} (h : TSok M s) : -4 ≤ loM s.2.2 ∧ loM s.2.2 ≤ 50 ∧ -4 ≤ hiM s.2.2 ∧ hiM s.2.2 ≤ 50 := by
  obtain ⟨a, b, m⟩ := s
  cases m with
  | none => exact ⟨by simp [loM], by simp [loM], by simp [hiM], by simp [hiM]⟩
  | some p => have := h.2.2 p.1 p.2 rfl; simp only [loM, hiM]; omega
theorem getD_mem {q : List MOp} {j : Nat} (h : j < q.length) : q.getD j op0 ∈ q := by rw [List.getD, List.getElem?_eq_getElem h]; exact List.getElem_mem _
set_option maxHeartbeats 4000000 in
theorem time_ok (v : Value) (os : List MOp) (w0 : World) (hs : Sl encOp w0 v os) : Rets Tryz.prog 14 #[v] w0 fun r w' => r = .int .i64 (timeS os) ∧ Fr [] w0 w' := by
 obtain ⟨A, c, rfl, hc, hM, hA⟩ := id hs
 clear hA
 unfold maxLen at hM
 refine weM [(0, .slice A os.length c)] Tryz.func14 rfl Tryz.ntmps14 rfl (.cons rfl .nil) ?_
 have hs0 := hs
 refine isq (irg rfl (bx rfl rfl rfl (fun g1 w1 hg1 hb1 q1 z1 => ?_)))
 refine asg rfl rfl (inl (itn (isq (isq (irg rfl (s_loadB0 rfl hb1 na25 rfl ?_))))))
 replace hs := hs0.ext q1
 refine cl (ev1 rfl) co17 (valid_ok _ os _ hs) rfl ?_
 rintro _ w2 ⟨bv, rfl, hbv, q2⟩
 have z2 := q2.size
 refine nt' rfl rfl (inl (itn ?_))
 refine icd rfl (fun c0 => ?_) (fun c0 => ?_)
 · have hnv : ¬ vldS os := fun h => by rw [hbv.2 h] at c0; cases c0
   refine isq (irg rfl (asg rfl rfl (inl (itn (irt (tr (rM1 Tryz.results14 rfl (by simp) (by simp) ?_)))))))
   intro w3 q3
   exact ⟨_, rfl, by rw [timeS, if_neg hnv], ((q1.next q2).next q3)⟩
 · have hv : vldS os := hbv.1 (by revert c0; cases bv <;> simp)
   have hv1 : os.length ≤ 4096 := by have := hv.1; omega
   refine isk (itn (isq (irg rfl (al zv3 rfl rfl (fun g3 w4 hg3 hb3 q4 z4 => ?_)))))
   refine al zv3 rfl rfl (fun g4 w5 hg4 hb4 q5 z5 => ?_)
   replace hb3 := hb3.ext q5
   refine s_storeB0 rfl rfl hb3 rfl rfl sz3 (fun w6 hb3 q6 z6 => ?_)
   replace hb4 := hb4.fr q6 (by first | (simp; done) | (simp; omega) | (simp [blks]; done) | (simp [blks]; omega))
   refine s_storeB0 rfl rfl hb4 rfl rfl sz3 (fun w7 hb4 q7 z7 => ?_)
   refine inl (itn (isq (isq (irg rfl ?_))))
   replace hb1 := ((hb1.ext ((q2.next q4).next q5)).fr q6 (by first | (simp; done) | (simp; omega) | (simp [blks]; done) | (simp [blks]; omega))).fr q7 (by first | (simp; done) | (simp; omega) | (simp [blks]; done) | (simp [blks]; omega))
   refine s_loadB0 rfl hb1 na25 rfl ?_
   refine cl (ev1 rfl) co18 (divide_ok _ _ rfl) rfl ?_
   rintro _ w8 ⟨gD, rfl, hgD, hbD, q8⟩
   have z8 := q8.size
   refine inl (itn (ibl ?_))
   replace hs := hs0.ext ((((((q1.next q2).next q4).next q5).step q6 (by first | (simp; done) | (simp; omega))).step q7 (by first | (simp; done) | (simp; omega))).next q8)
   have hBl : ∀ b ∈ gD :: slB os.length (Value.slice A os.length c), b < w8.heap.size := by
     intro b hb
     rcases List.mem_cons.1 hb with rfl | hb
     · exact hbD.lt
     · exact slB_lt hs b hb
   have hBo : ∀ b ∈ slB os.length (Value.slice A os.length c), b < w0.heap.size := slB_lt hs0
   have ltD := hbD.lt
   replace hb3 := (hb3.fr q7 (by first | (simp; done) | (simp; omega) | (simp [blks]; done) | (simp [blks]; omega))).ext q8
   replace hb4 := hb4.ext q8
   refine irng (α := Ps os) rfl co24 (by decide) (divide_seq 8 gD A c os w8 hbD hs hv.2 hv1) hBl (fun _ => rfl) (fun x => [(17, .agg #[.int .i64 (x.1.1 : Int), .int .i64 (x.1.2 : Int)])]) (fun x => by simp [psE, passV]) (fun _ => rfl) 32 (fun x => [.int .i64 (x.1.1 : Int), .int .i64 (x.1.2 : Int)]) (fun (s : List (Ps os)) (W : World) => Fr [g3, g4] w8 W ∧ Blk W g3 3 [.int .i64 (timP os (s.map Subtype.val)).1] ∧ Blk W g4 3 [.int .i64 (timP os (s.map Subtype.val)).2]) (fun s W W' ht h => ⟨h.1.turn ht (Nat.le_refl _), ⟨h.2.1.turn ht, h.2.2.turn ht⟩⟩) (fun s W W' hf h => ⟨h.1.next hf, ⟨h.2.1.ext hf, h.2.2.ext hf⟩⟩) (fun s W h => h.1.size) ⟨Fr.refl _ _, ⟨hb3, hb4⟩⟩ 5 [(1, _), (3, _), (4, _)] (.cons rfl (.cons rfl (.cons rfl .nil))) ?_ ?_ ?_
   · rintro lN pre x w9 hsz ⟨q9, ⟨hb3, hb4⟩⟩
     refine ikpC [(17, .agg #[.int .i64 (x.1.1 : Int), .int .i64 (x.1.2 : Int)]), (1, _), (3, _), (4, _)] (.cons rfl (.cons rfl (.cons rfl (.cons rfl .nil)))) ?_
     refine irg rfl (al zv32 rfl rfl (fun g5 w10 hg5 hb5 q10 z10 => ?_))
     refine s_storeBA rfl rfl hb5 rfl (by first | (simp [Value.oneCell', S]; done) | exact Enc.one _ _) sz32 (fun w11 hb5 q11 z11 => ?_)
     refine inl ?_
     exact asE g5 (by omega) (.cons rfl (.cons rfl (.cons rfl (.cons rfl .nil)))) hb5 (q10.step q11 (by first | (simp; done) | (simp; omega)))
   · rintro lN pre x g5 w12 hg5 hb5 ⟨q12, ⟨hb3, hb4⟩⟩ hlt
     have z12 := q12.size
     have lt_hb5 := hb5.lt
     have lt_hb3 := hb3.lt
     have lt_hb4 := hb4.lt
     have hb3S := hb3
     have hb4S := hb4
     have hx2 := x.2
     have hsl := sl2_le os x.1
     refine ibl (isq (irg rfl (asg rfl rfl (asg rfl rfl (asg rfl rfl (inl (itn (isq (isq (irg rfl ?_))))))))))
     replace hb1 := (hb1.ext q8).fr q12 (by first | (simp; done) | (simp; omega) | (simp [blks]; done) | (simp [blks]; omega))
     refine s_loadB0 rfl hb1 na25 rfl (fad rfl fa32_0 rfl (s_loadB rfl hb5 rfl na3 rfl (fad rfl fa32_0 rfl (s_loadB rfl hb5 rfl na3 rfl (fad rfl fa32_1 rfl (s_loadB rfl hb5 rfl na3 rfl (s_add rfl rfl (wi6 (by omega)) rfl ?_)))))))
     refine s_sl_lh (p := x.1.1) (p' := x.1.1 + x.1.2) rfl rfl rfl el25 (by omega) (by omega) (by have := x.2; omega) (by omega) (by omega) rfl ?_
     obtain ⟨A2, c2, e2, hsc⟩ := cut_sl hs0 x
     rw [e2]
     have hsc0 := hsc
     refine lnS rfl Tryz.underlying25 rfl (mv rfl rfl (kpL [(3, _), (4, _), (6, _), (7, _), (8, _), (26, _), (27, _), (28, _)] (.cons rfl (.cons rfl (.cons rfl (.cons rfl (.cons rfl (.cons rfl (.cons rfl (.cons rfl .nil)))))))) (inl (itn (ibl ?_)))))
     refine ilpK (ι := Nat) [(3, _), (4, _), (26, _), (27, _)] (fun j => [(6, .bool (fT os pre x j).2.2.isSome), (7, .int .i64 (loM (fT os pre x j).2.2)), (8, .int .i64 (hiM (fT os pre x j).2.2)), (28, .int .i64 (j : Int))]) (fun j w' => Fr [g3, g4] w12 w' ∧ j ≤ (sl2 os x.1).length ∧ Blk w' g3 3 [.int .i64 (fT os pre x j).1] ∧ Blk w' g4 3 [.int .i64 (fT os pre x j).2.1]) (fun j => (sl2 os x.1).length - j) 0 (.cons rfl (.cons rfl (.cons rfl (.cons rfl (.cons rfl (.cons rfl (.cons rfl (.cons rfl .nil)))))))) ⟨Fr.refl _ _, ⟨by omega, hb3, hb4⟩⟩ ?_
     rintro j w13 ⟨q13, ⟨hj, hb3, hb4⟩⟩
     have z13 := q13.size
     have lt_hb3 := hb3.lt
     have lt_hb4 := hb4.lt
     refine ikpC [(3, _), (4, _), (26, _), (27, _), (6, _), (7, _), (8, _), (28, _)] (.cons rfl (.cons rfl (.cons rfl (.cons rfl (.cons rfl (.cons rfl (.cons rfl (.cons rfl .nil)))))))) ?_
     have hok := fT_ok hv.2 hv1 pre x j
     have hlh := lohi_in hok
     obtain ⟨hk1, hk2, hk3⟩ := hok
     refine isq (irg rfl (lt' rfl rfl rfl (inl (itn (isq ?_)))))
     refine icd rfl (fun c1 => ?_) (fun c1 => ?_)
     · have hcj := hv.2 _ (sl2_mem (getD_mem (q := sl2 os x.1) (j := j) (by omega)))
       have hnd := chk_nd hcj
       have hrg := chk_rng hcj
       have hrk := rkN_in hk2 hcj
       have hpi := pos_in ((sl2 os x.1).getD j op0) (rkN (fT os pre x j).2.1 ((sl2 os x.1).getD j op0))
       refine isk (itn (isq (ibl (isq (irg rfl ?_)))))
       replace hsc := hsc0.ext ((((((((q1.next q2).next q4).next q5).step q6 (by first | (simp; done) | (simp; omega))).step q7 (by first | (simp; done) | (simp; omega))).next q8).step q12 (by first | (simp; done) | (simp; omega))).step q13 (by first | (simp; done) | (simp; omega)))
       refine s_idxL (p := j) (op0) rfl hsc rfl el25 (by omega) (by omega) (by omega) rfl (fun ad30 hc30 => ?_)
       refine s_loadA rfl (hc30 _ hsc) ag41 rfl (al zv41 rfl rfl (fun g10 w14 hg10 hb10 q14 z14 => ?_))
       refine s_storeBA rfl rfl hb10 rfl (by first | (simp [Value.oneCell', S]; done) | exact Enc.one _ _) sz41 (fun w15 hb10 q15 z15 => ?_)
       refine inl (itn ?_)
       refine ijn (ι := Unit) [(3, _), (4, _), (6, _), (7, _), (8, _), (10, _), (26, _), (27, _), (28, _)] (fun _j => []) (fun _j w' => Fr [g3, g4] w15 w' ∧ Blk w' g3 3 [.int .i64 (tstep (fT os pre x j) ((sl2 os x.1).getD j op0)).1] ∧ Blk w' g4 3 [.int .i64 (rkN (fT os pre x j).2.1 ((sl2 os x.1).getD j op0))]) (.cons rfl (.cons rfl (.cons rfl (.cons rfl (.cons rfl (.cons rfl (.cons rfl (.cons rfl (.cons rfl .nil))))))))) ?_ ?_
       · refine isq (irg rfl (fad rfl fa41_0 rfl (s_loadB rfl hb10 rfl na35 rfl (eq' rfl rfl rfl (inl (itn ?_))))))
         refine icd rfl (fun c2 => ?_) (fun c2 => ?_)
         · refine isq (irg rfl ?_)
           replace hb3 := (hb3.ext q14).fr q15 (by first | (simp; done) | (simp; omega) | (simp [blks]; done) | (simp [blks]; omega))
           refine s_loadB0 rfl hb3 na3 rfl (fad rfl fa41_4 rfl (s_loadB rfl hb10 rfl na3 rfl ?_))
           replace hb4 := (hb4.ext q14).fr q15 (by first | (simp; done) | (simp; omega) | (simp [blks]; done) | (simp [blks]; omega))
           refine s_loadB0 rfl hb4 na3 rfl (s_sub rfl rfl (wi6 (by omega)) rfl (s_loadB0 rfl hb4 na3 rfl (fad rfl fa41_4 rfl (s_loadB rfl hb10 rfl na3 rfl (s_sub rfl rfl (wi6 (by omega)) rfl (s_max rfl rfl rfl (s_mul rfl rfl (wi6 (by omega)) rfl (s_add rfl rfl (wi6 (by omega)) rfl (s_storeB0 rfl rfl hb3 rfl rfl sz3 (fun w16 hb3 q16 z16 => ?_))))))))))
           refine kpL [(3, _), (4, _), (6, _), (7, _), (8, _), (10, _), (26, _), (27, _), (28, _)] (.cons rfl (.cons rfl (.cons rfl (.cons rfl (.cons rfl (.cons rfl (.cons rfl (.cons rfl (.cons rfl .nil))))))))) (inl (itn (irg rfl (fad rfl fa41_4 rfl ?_))))
           replace hb10 := hb10.fr q16 (by first | (simp; done) | (simp; omega) | (simp [blks]; done) | (simp [blks]; omega))
           refine s_loadB rfl hb10 rfl na3 rfl ?_
           replace hb4 := hb4.fr q16 (by first | (simp; done) | (simp; omega) | (simp [blks]; done) | (simp [blks]; omega))
           refine s_storeB0 rfl rfl hb4 rfl rfl sz3 (fun w17 hb4 q17 z17 => ?_)
           refine inl ?_
           replace hb3 := hb3.fr q17 (by first | (simp; done) | (simp; omega) | (simp [blks]; done) | (simp [blks]; omega))
           exact ijE (()) (.cons rfl (.cons rfl (.cons rfl (.cons rfl (.cons rfl (.cons rfl (.cons rfl (.cons rfl (.cons rfl .nil))))))))) ⟨(((Fr.refl [g3, g4] _).step q16 (by first | (simp; done) | (simp; omega))).step q17 (by first | (simp; done) | (simp; omega))), ⟨by first | (rw [ts_y c2]; exact hb3) | (rw [ts_n c2]; exact hb3), by first | (rw [rk_y c2]; exact hb4) | (rw [rk_n c2]; exact hb4)⟩⟩
         · refine isk ?_
           replace hb3 := (hb3.ext q14).fr q15 (by first | (simp; done) | (simp; omega) | (simp [blks]; done) | (simp [blks]; omega))
           replace hb4 := (hb4.ext q14).fr q15 (by first | (simp; done) | (simp; omega) | (simp [blks]; done) | (simp [blks]; omega))
           exact ijE (()) (.cons rfl (.cons rfl (.cons rfl (.cons rfl (.cons rfl (.cons rfl (.cons rfl (.cons rfl (.cons rfl .nil))))))))) ⟨(Fr.refl _ _), ⟨by first | (rw [ts_y c2]; exact hb3) | (rw [ts_n c2]; exact hb3), by first | (rw [rk_y c2]; exact hb4) | (rw [rk_n c2]; exact hb4)⟩⟩
       · rintro _j w18 ⟨q18, ⟨hb3, hb4⟩⟩
         have z18 := q18.size
         have lt_hb3 := hb3.lt
         have lt_hb4 := hb4.lt
         refine ikpC [(3, _), (4, _), (6, _), (7, _), (8, _), (10, _), (26, _), (27, _), (28, _)] (.cons rfl (.cons rfl (.cons rfl (.cons rfl (.cons rfl (.cons rfl (.cons rfl (.cons rfl (.cons rfl .nil))))))))) ?_
         refine isq (isq (irg rfl ?_))
         replace hb10 := hb10.fr q18 (by first | (simp; done) | (simp; omega) | (simp [blks]; done) | (simp [blks]; omega))
         refine s_loadBA rfl hb10 ag41 rfl ?_
         refine cl (ev1 rfl) co20 (class_ok ((sl2 os x.1).getD j op0) _) rfl ?_
         rintro _ w19 ⟨rfl, q19⟩
         have z19 := q19.size
         refine eq' rfl rfl rfl (inl (itn ?_))
         refine icd rfl (fun c3 => ?_) (fun c3 => ?_)
         · refine iex (te (xh (itn (irg rfl (s_add rfl rfl (wi6 (by omega)) rfl (mv rfl rfl (inl ?_)))))))
           replace hb3 := hb3.ext q19
           replace hb4 := hb4.ext q19
           exact ilpE (j + 1) (.cons rfl (.cons rfl (.cons rfl (.cons rfl (.cons (congrArg (fun z => some (Value.bool z)) (by rw [fT_succ (by omega)]; first | rw [tm_y c3] | (rw [tm_n c3]; rfl))) (.cons (congrArg (fun z => some (Value.int .i64 z)) (by rw [fT_succ (by omega)]; first | rw [tm_y c3] | (rw [tm_n c3, (lo_tmx _ _).1]))) (.cons (congrArg (fun z => some (Value.int .i64 z)) (by rw [fT_succ (by omega)]; first | rw [tm_y c3] | (rw [tm_n c3, (lo_tmx _ _).2]))) (.cons rfl .nil)))))))) ⟨((((((Fr.refl [g3, g4] _).step q13 (by first | (simp; done) | (simp; omega))).next q14).step q15 (by first | (simp; done) | (simp; omega))).step q18 (by first | (simp; done) | (simp; omega))).next q19), ⟨by omega, by rw [fT_succ (by omega)]; exact hb3, by rw [fT_succ (by omega)]; exact hb4⟩⟩ (by omega)
         · refine isk (itn (isq (irg rfl (fad rfl fa41_2 rfl ?_))))
           replace hb10 := hb10.ext q19
           refine s_loadBP (vs := [_, _]) rfl hb10 ag39 rfl rfl ?_
           replace hb4 := hb4.ext q19
           refine s_loadB0 rfl hb4 na3 rfl ?_
           refine cl (ev2 rfl rfl) co21 (spot_ok ((sl2 os x.1).getD j op0).b ((sl2 os x.1).getD j op0).p (rkN (fT os pre x j).2.1 ((sl2 os x.1).getD j op0)) _ (by omega)) rfl ?_
           rintro _ w20 ⟨rfl, q20⟩
           have z20 := q20.size
           refine s_shr (m := 2) (z := (posS ((sl2 os x.1).getD j op0) (rkN (fT os pre x j).2.1 ((sl2 os x.1).getD j op0)))) rfl rfl (by decide) rfl rfl ?_
           refine asg rfl rfl (kpL [(3, _), (4, _), (6, _), (7, _), (8, _), (11, _), (26, _), (27, _), (28, _)] (.cons rfl (.cons rfl (.cons rfl (.cons rfl (.cons rfl (.cons rfl (.cons rfl (.cons rfl (.cons rfl .nil))))))))) (inl (itn ?_)))
           refine ijn (ι := Unit) [(3, _), (4, _), (11, _), (26, _), (27, _), (28, _)] (fun _j => [(6, .bool true), (7, .int .i64 (lo0 (fT os pre x j).2.2 (posS ((sl2 os x.1).getD j op0) (rkN (fT os pre x j).2.1 ((sl2 os x.1).getD j op0))))), (8, .int .i64 (hi0 (fT os pre x j).2.2 (posS ((sl2 os x.1).getD j op0) (rkN (fT os pre x j).2.1 ((sl2 os x.1).getD j op0)))))]) (fun _j w' => Fr [] w20 w') (.cons rfl (.cons rfl (.cons rfl (.cons rfl (.cons rfl (.cons rfl .nil)))))) ?_ ?_
           · refine isq (irg rfl (mv rfl rfl (nt' rfl rfl (inl (itn ?_)))))
             refine icd rfl (fun c4 => ?_) (fun c4 => ?_)
             · refine irg rfl (mv rfl rfl (mv rfl rfl (asg rfl rfl (asg rfl rfl (asg rfl rfl (inl ?_))))))
               exact ijE (()) (.cons rfl (.cons rfl (.cons rfl (.cons rfl (.cons rfl (.cons rfl (.cons (congrArg (fun z => some (Value.bool z)) (by first | rfl | exact wk_f c4)) (.cons (congrArg (fun z => some (Value.int .i64 z)) (by first | exact (lo_t c4).1.symm | exact (lo_f c4).1.symm)) (.cons (congrArg (fun z => some (Value.int .i64 z)) (by first | exact (lo_t c4).2.symm | exact (lo_f c4).2.symm)) .nil))))))))) (Fr.refl _ _)
             · refine isk ?_
               exact ijE (()) (.cons rfl (.cons rfl (.cons rfl (.cons rfl (.cons rfl (.cons rfl (.cons (congrArg (fun z => some (Value.bool z)) (by first | rfl | exact wk_f c4)) (.cons (congrArg (fun z => some (Value.int .i64 z)) (by first | exact (lo_t c4).1.symm | exact (lo_f c4).1.symm)) (.cons (congrArg (fun z => some (Value.int .i64 z)) (by first | exact (lo_t c4).2.symm | exact (lo_f c4).2.symm)) .nil))))))))) (Fr.refl _ _)
           · rintro _j w21 q21
             have z21 := q21.size
             refine ikpC [(3, _), (4, _), (11, _), (26, _), (27, _), (28, _), (6, _), (7, _), (8, _)] (.cons rfl (.cons rfl (.cons rfl (.cons rfl (.cons rfl (.cons rfl (.cons rfl (.cons rfl (.cons rfl .nil))))))))) ?_
             refine irg rfl (mv rfl rfl (mv rfl rfl (s_min rfl rfl rfl (mv rfl rfl (mv rfl rfl (s_max rfl rfl rfl (asg rfl rfl (asg rfl rfl (kpL [(3, _), (4, _), (6, _), (7, _), (8, _), (26, _), (27, _), (28, _)] (.cons rfl (.cons rfl (.cons rfl (.cons rfl (.cons rfl (.cons rfl (.cons rfl (.cons rfl .nil)))))))) (inl (bn' ?_)))))))))))
             refine itn (irg rfl (s_add rfl rfl (wi6 (by omega)) rfl (mv rfl rfl (inl ?_))))
             replace hb3 := hb3.ext ((q19.next q20).next q21)
             replace hb4 := hb4.ext (q20.next q21)
             exact ilpE (j + 1) (.cons rfl (.cons rfl (.cons rfl (.cons rfl (.cons (congrArg (fun z => some (Value.bool z)) (by rw [fT_succ (by omega)]; first | rw [tm_y c3] | (rw [tm_n c3]; rfl))) (.cons (congrArg (fun z => some (Value.int .i64 z)) (by rw [fT_succ (by omega)]; first | rw [tm_y c3] | (rw [tm_n c3, (lo_tmx _ _).1]))) (.cons (congrArg (fun z => some (Value.int .i64 z)) (by rw [fT_succ (by omega)]; first | rw [tm_y c3] | (rw [tm_n c3, (lo_tmx _ _).2]))) (.cons rfl .nil)))))))) ⟨((((((((Fr.refl [g3, g4] _).step q13 (by first | (simp; done) | (simp; omega))).next q14).step q15 (by first | (simp; done) | (simp; omega))).step q18 (by first | (simp; done) | (simp; omega))).next q19).next q20).next q21), ⟨by omega, by rw [fT_succ (by omega)]; exact hb3, by rw [fT_succ (by omega)]; exact hb4⟩⟩ (by omega)
     · obtain rfl : j = (sl2 os x.1).length := by omega
       refine iex (te (te (xh (itn (isq (irg rfl (mv rfl rfl (kpL [(3, _), (7, _), (8, _), (68, _)] (.cons rfl (.cons rfl (.cons rfl (.cons rfl .nil)))) (inl (itn ?_))))))))))
       refine icd rfl (fun c5 => ?_) (fun c5 => ?_)
       · refine irg rfl (s_loadB0 rfl hb3 na3 rfl (mv rfl rfl (s_add rfl rfl (wi6 (by omega)) rfl (mv rfl rfl (s_sub rfl rfl (wi6 (by omega)) rfl (s_add rfl rfl (wi6 (by omega)) rfl (s_add rfl rfl (wi6 (by omega)) rfl (s_storeB0 rfl rfl hb3 rfl rfl sz3 (fun w22 hb3 q22 z22 => ?_)))))))))
         refine kpL [] .nil (inl (bn' ?_))
         replace hb4 := hb4.fr q22 (by first | (simp; done) | (simp; omega) | (simp [blks]; done) | (simp [blks]; omega))
         exact rndE (((Fr.refl [g3, g4] _).step q13 (by first | (simp; done) | (simp; omega))).step q22 (by first | (simp; done) | (simp; omega))) (fun k hk _ => by simp at hk; rcases hk with rfl | rfl; exact hb3S.tyC (by decide); exact hb4S.tyC (by decide)) (fun b hb => Nat.lt_of_lt_of_le (hBl b hb) (by omega)) (fun b hb e => by simp at e; rcases List.mem_cons.1 hb with h | h; omega; have := hBo b h; omega) ⟨((((Fr.refl [g3, g4] _).step q12 (by first | (simp; done) | (simp; omega))).step q13 (by first | (simp; done) | (simp; omega))).step q22 (by first | (simp; done) | (simp; omega))), by rw [tim_x]; exact ⟨by rw [tend_t c5]; exact hb3, hb4⟩⟩
       · refine isk (bn' ?_)
         exact rndE ((Fr.refl [g3, g4] _).step q13 (by first | (simp; done) | (simp; omega))) (fun k hk _ => by simp at hk; rcases hk with rfl | rfl; exact hb3S.tyC (by decide); exact hb4S.tyC (by decide)) (fun b hb => Nat.lt_of_lt_of_le (hBl b hb) (by omega)) (fun b hb e => by simp at e; rcases List.mem_cons.1 hb with h | h; omega; have := hBo b h; omega) ⟨(((Fr.refl [g3, g4] _).step q12 (by first | (simp; done) | (simp; omega))).step q13 (by first | (simp; done) | (simp; omega))), by rw [tim_x]; exact ⟨by rw [tend_f c5]; exact hb3, hb4⟩⟩
   · rintro D1 xs w23 hD1 hS ⟨q23, ⟨hb3, hb4⟩⟩ hmk
     have z23 := q23.size
     have hmk0 := hmk
     have lt_hmk := hmk.lt
     have lt_hb3 := hb3.lt
     have lt_hb4 := hb4.lt
     rw [hS, tim_div] at hb3
     refine bn' (itn (isq (irg rfl (s_loadB0 rfl hb3 na3 rfl (asg rfl rfl (kpL [(2, _)] (.cons rfl .nil) (inl (itn (irt (rM1 Tryz.results14 rfl (marks1 hmk) (by simp) ?_))))))))))
     intro w24 q24
     exact ⟨_, rfl, by rw [timeS, if_pos hv], ((((((((q1.next q2).next q4).next q5).step q6 (by first | (simp; done) | (simp; omega))).step q7 (by first | (simp; done) | (simp; omega))).next q8).step q23 (by first | (simp; done) | (simp; omega))).step q24 (by first | (simp; done) | (simp; omega)))⟩
end Go.Proofs.YtbalocjcbmkecaaGreatDoor
