/- Walks. -/
import Derived.Test.YtbbnampdgefljaaDoorRows
import Derived.Test.YtbbnampdgefljaaDoorW5
import Derived.Test.YtbbnampdgefljaaDoorXMap
set_option linter.unusedVariables false
set_option linter.unusedSimpArgs false
namespace Go.Proofs.YtbbnampdgefljaaDoor
open Go.Lw Go.G14
def P3 (g : Nat) : Value := .pointer (some ⟨g, 0, none⟩)
/-- What the two functions that read a row know of memory. -/
def EnvOk (l : List UInt8) (gs ga gr gi p : Nat) (w : World) : Prop :=
  Blk w gs 9 [S l] ∧ Blk w ga 3 [.int .i64 (p : Int)] ∧ Blk w gr 90 [.func (.func 49) #[] #[P3 gi, P3 ga, P3 gs]] ∧ Blk w gi 90 [.func (.func 51) #[] #[P3 ga, P3 gs, P3 gr]] ∧ Sym w
/-- What they return. -/
def RetOk (ga : Nat) (w0 : World) (r : Option (List Stitch × Nat)) (v : Value) (w' : World) : Prop :=
  ∃ (x : Value) (b : Bool), v = .tuple #[x, .bool b] ∧ Fr [ga] w0 w' ∧ (b = true → ∃ xs q, r = some (xs, q) ∧ Own encSt 36 w0.heap.size w' x xs ∧ Blk w' ga 3 [.int .i64 ((q : Nat) : Int)]) ∧ (b = false → r = none)
def ItemC (l : List UInt8) (gs ga gr gi F : Nat) : Prop := ∀ (p : Nat) (w0 : World), p ≤ l.length → 2 * (l.length - p) ≤ F → EnvOk l gs ga gr gi p w0 → Rets Tryd.prog 51 #[P3 ga, P3 gs, P3 gr] w0 (RetOk ga w0 (readS l F false p []))
def RowC (l : List UInt8) (gs ga gr gi F : Nat) : Prop := ∀ (p : Nat) (w0 : World), p ≤ l.length → 2 * (l.length - p) + 1 ≤ F → EnvOk l gs ga gr gi p w0 → Rets Tryd.prog 49 #[P3 gi, P3 ga, P3 gs] w0 (RetOk ga w0 (readS l F true p []))
set_option maxHeartbeats 1000000 in
theorem row_step (l : List UInt8) (gs ga gr gi F : Nat) (hl : l.length ≤ 1024) (o0 : 0 < gs) (o1 : gs < ga) (o2 : ga < gr) (o3 : gr < gi) (hi : ∀ m, m < F → ItemC l gs ga gr gi m) : RowC l gs ga gr gi F := by
  intro p w0 hp hF he
  obtain ⟨hbs, hba, hbr, hbi, hy⟩ := he
  have hgi := hbi.lt
  unfold P3 at *
  refine enter [(0, .pointer (some ⟨gi, 0, none⟩)), (1, .pointer (some ⟨ga, 0, none⟩)), (2, .pointer (some ⟨gs, 0, none⟩))] Tryd.func49 rfl Tryd.ntmps49 rfl (.cons rfl (.cons rfl (.cons rfl .nil))) ?_
  have hf := Fr.refl [ga] w0
  intro a h
  refine wp_seq ?_
  refine wp_region_lit ?_
  refine st_assign h rfl rfl ?_; clear h a; intro a h
  refine st_assign h rfl rfl ?_; clear h a; intro a h
  replace h : Ag a 32 [(0, _), (1, _), (2, _)] := h.sub (.cons rfl (.cons rfl (.cons rfl .nil)))
  refine wpList_nil (norm_then ?_)
  refine wp_seq ?_
  refine wp_region_lit ?_
  refine st_assign h rfl rfl ?_; clear h a; intro a h
  refine wpList_nil (norm_then ?_)
  refine wp_block ?_
  refine loop (ι := Nat × Nat × List Stitch × Value) (fun z => [(0, .pointer (some ⟨gi, 0, none⟩)), (1, .pointer (some ⟨ga, 0, none⟩)), (2, .pointer (some ⟨gs, 0, none⟩)), (5, z.2.2.2)]) (fun z w' => readS l F true p [] = readS l z.1 true z.2.1 z.2.2.1 ∧ z.2.1 ≤ l.length ∧ 2 * (l.length - z.2.1) + 1 ≤ z.1 ∧ z.1 ≤ F ∧ z.2.2.1.length ≤ 17 ∧ Own encSt 36 w0.heap.size w' z.2.2.2 z.2.2.1 ∧ EnvOk l gs ga gr gi z.2.1 w' ∧ Fr [ga] w0 w') (fun z => z.1) (F, p, [], .slice none 0 0) (h.sub (.cons rfl (.cons rfl (.cons rfl (.cons rfl .nil))))) ⟨rfl, hp, hF, Nat.le_refl _, by simp, Own.nil _, ⟨hbs, hba, hbr, hbi, hy⟩, hf⟩ ?_
  clear h a hf hbs hba hbr hbi hy
  rintro ⟨m', q, acc, x⟩ w1 a h ⟨hFe, hql, hm, hmF, hac, ho, ⟨hbs, hba, hbr, hbi, hy⟩, hf⟩
  simp only at hFe hql hm hmF hac ho hbs hba hbr hbi h
  obtain ⟨m, rfl⟩ : ∃ m, m' = m + 1 := ⟨m' - 1, by omega⟩
  unfold P3 at *
  refine wp_block ?_
  refine wp_seq ?_
  refine wp_region_lit ?_
  refine st_loadB0 h rfl hbi na90 rfl ?_; clear h a; intro a h
  refine st_callv (us := []) (ws := [_, _, _]) h rfl evs_nil co51 (hi m (by omega) q w1 hql (by omega) ⟨hbs, hba, hbr, hbi, hy⟩) rfl (by intro g; simp) ?_; clear h a hba; rintro _ w2x ⟨x2, ok, rfl, hq, hyes, hno⟩ a h
  replace hf := hf.step hq (by simp)
  replace hbs := hbs.fr hq (by simp; omega)
  replace hbr := hbr.fr hq (by simp; omega)
  replace hbi := hbi.fr hq (by simp; omega)
  replace hy := hy.fr hq (by simp; omega)
  replace ho := ho.fr hq (by intro k hk hb; have := ho.blk k hb; simp at hk; omega)
  have hsz := hq.size
  clear hq
  refine st_move h rfl rfl ?_; clear h a; intro a h
  refine st_extract h rfl rfl rfl ?_; clear h a; intro a h
  refine st_extract h rfl rfl rfl ?_; clear h a; intro a h
  refine st_assign h rfl rfl ?_; clear h a; intro a h
  refine st_assign h rfl rfl ?_; clear h a; intro a h
  replace h : Ag a 32 [(0, _), (1, _), (2, _), (5, _), (6, _), (7, _)] := h.sub (.cons rfl (.cons rfl (.cons rfl (.cons rfl (.cons rfl (.cons rfl .nil))))))
  refine wpList_nil (norm_then ?_)
  refine wp_seq ?_
  refine wp_seq ?_
  refine wp_region_lit ?_
  refine st_move h rfl rfl ?_; clear h a; intro a h
  refine st_not h rfl rfl ?_; clear h a; intro a h
  replace h : Ag a 32 [(0, _), (1, _), (2, _), (5, _), (6, _), (14, _)] := h.sub (.cons rfl (.cons rfl (.cons rfl (.cons rfl (.cons rfl (.cons rfl .nil))))))
  refine wpList_nil (norm_then ?_)
  first | refine cond_dec h rfl (fun c0 => ?_) (fun c0 => ?_) | refine cond_ndec h rfl (fun c0 => ?_) (fun c0 => ?_) | refine cond_split h rfl (fun c0 => ?_) (fun c0 => ?_)
  · have hok : ok = false := by simpa using c0
    subst hok
    refine wp_seq ?_
    refine wp_region_lit ?_
    refine st_assign h rfl rfl ?_; clear h a; intro a h
    refine st_assign h rfl rfl ?_; clear h a; intro a h
    replace h : Ag a 32 [(3, _), (4, _)] := h.sub (.cons rfl (.cons rfl .nil))
    refine wpList_nil (norm_then ?_)
    refine wp_ret (ret_then (ret_blk (ret_then (ret_blk ?_))))
    refine ret2 h Tryd.results49 rfl rfl ?_
    exact ⟨_, rfl, _, false, rfl, hf, (fun e => by cases e), fun _ => by rw [hFe]; exact read_row_none (hno rfl)⟩
  · have hok : ok = true := by simpa using c0
    subst hok
    obtain ⟨xs, q', hr, ho2, hba⟩ := hyes rfl
    obtain ⟨hq1, hq2, hxl⟩ := read_pos m false q [] xs q' hql hr
    clear hyes hno c0
    refine wp_skip (norm_then ?_)
    refine wp_seq ?_
    refine wp_region_lit ?_
    refine st_move h rfl rfl ?_; clear h a; intro a h
    refine st_move h rfl rfl ?_; clear h a; intro a h
    refine st_append h rfl rfl ho ho2.sl el22 (by unfold maxLen; omega) (by omega) (by have := hf.size; omega) rfl ?_; clear h a; intro x3 w3x ho3 hq _ a h
    replace hbs := hbs.fr hq (fun hb => by have := ho.blk _ hb; omega)
    replace hba := hba.fr hq (fun hb => by have := ho.blk _ hb; omega)
    replace hbr := hbr.fr hq (fun hb => by have := ho.blk _ hb; omega)
    replace hbi := hbi.fr hq (fun hb => by have := ho.blk _ hb; omega)
    replace hy := hy.fr hq (fun hb => by have := ho.blk _ hb; omega)
    replace hf := hf.step hq (fun k hk hlt => by have := ho.blk k hk; omega)
    clear hq
    clear ho ho2
    obtain ⟨A3, cp3, rfl, hc3⟩ := ho3.sl.form
    refine st_call h (evs_cons rfl evs_nil) co50 (cut_ok _ _ _ _ hc3) rfl ?_; clear h a; rintro _ _ ⟨rfl, rfl⟩ a h
    replace ho3 := ho3.take rfl (m := min (acc ++ xs).length 17) (by omega) (Nat.le_refl _) (by omega)
    rw [take_min] at ho3
    refine st_assign h rfl rfl ?_; clear h a; intro a h
    replace h : Ag a 32 [(0, _), (1, _), (2, _), (5, _)] := h.sub (.cons rfl (.cons rfl (.cons rfl (.cons rfl .nil))))
    refine wpList_nil (norm_then ?_)
    refine wp_seq ?_
    refine wp_seq ?_
    refine region_bool (r := 28) (L' := [(0, _), (1, _), (2, _), (5, _)]) (q' = l.length ∨ ((l.getD q' 0).toNat : Int) ≠ 32) h (.cons rfl (.cons rfl (.cons rfl (.cons rfl .nil)))) ?_ ?_
    · refine id ?_
      refine st_loadB0 h rfl hba na3 rfl ?_; clear h a; intro a h
      refine st_loadB0 h rfl hbs na9 rfl ?_; clear h a; intro a h
      refine st_len h rfl Tryd.underlying9 rfl ?_; clear h a; intro a h
      refine st_eq h rfl rfl rfl ?_; clear h a; intro a h
      refine st_move h rfl rfl ?_; clear h a; intro a h
      first | refine guard_dec (D := 23) h rfl ?_ ?_ | refine guard_ndec (D := 23) h rfl ?_ ?_ | refine guard_any (D := 23) h rfl ?_ ?_
      · clear h; intro g0 h
        refine gd_no h rfl rfl rfl rfl rfl rfl rfl rfl ?_; clear h a; intro a h
        refine gd_no h rfl rfl rfl rfl rfl rfl rfl rfl ?_; clear h a; intro a h
        refine gd_no h rfl rfl rfl rfl rfl rfl rfl rfl ?_; clear h a; intro a h
        refine gd_no h rfl rfl rfl rfl rfl rfl rfl rfl ?_; clear h a; intro a h
        refine st_pick_t h rfl rfl rfl rfl ?_; clear h a; intro a h
        exact wpList_nil (bool_end h rfl (by first | exact bt (by omega) | exact bf (by omega) | exact bi (by omega) | exact bn (by omega)) (.cons rfl (.cons rfl (.cons rfl (.cons rfl .nil)))))
      · clear h; intro g0 h
        refine gd_yes h rfl rfl rfl rfl rfl rfl ?_
        refine st_loadB0 h rfl hbs na9 rfl ?_; clear h a; intro a h
        refine gd_yes h rfl rfl rfl rfl rfl rfl ?_
        refine st_loadB0 h rfl hba na3 rfl ?_; clear h a; intro a h
        refine gd_yes h rfl rfl rfl rfl rfl rfl ?_
        refine st_index (p := q') h rfl rfl Tryd.underlying9 (by omega) (by omega) (by omega) rfl ?_; clear h a; intro hy26 a h
        refine gd_yes h rfl rfl rfl rfl rfl rfl ?_
        refine st_ne h rfl rfl rfl ?_; clear h a; intro a h
        refine st_pick_f h rfl rfl rfl rfl ?_; clear h a; intro a h
        exact wpList_nil (bool_end h rfl (by first | exact bt (by omega) | exact bf (by omega) | exact bi (by omega) | exact bn (by omega)) (.cons rfl (.cons rfl (.cons rfl (.cons rfl .nil)))))
    · clear h a; intro a h
      refine (norm_then ?_)
      first | refine cond_dec h rfl (fun c1 => ?_) (fun c1 => ?_) | refine cond_ndec h rfl (fun c1 => ?_) (fun c1 => ?_) | refine cond_split h rfl (fun c1 => ?_) (fun c1 => ?_)
      · refine id ?_
        refine wp_seq ?_
        refine wp_region_lit ?_
        refine st_move h rfl rfl ?_; clear h a; intro a h
        refine st_assign h rfl rfl ?_; clear h a; intro a h
        refine st_assign h rfl rfl ?_; clear h a; intro a h
        replace h : Ag a 32 [(3, _), (4, _)] := h.sub (.cons rfl (.cons rfl .nil))
        refine wpList_nil (norm_then ?_)
        refine wp_ret (ret_then (ret_blk (ret_then (ret_blk ?_))))
        refine ret2 h Tryd.results49 rfl rfl ?_
        exact ⟨_, rfl, _, true, rfl, hf, fun _ => ⟨_, _, by rw [hFe]; exact read_row_end hr (or_byte (c := 32) c1), ho3, hba⟩, (fun e => by cases e)⟩
      · refine id ?_
        refine wp_skip (norm_then ?_)
        refine wp_region_lit ?_
        refine st_loadB0 h rfl hba na3 rfl ?_; clear h a; intro a h
        refine st_add h rfl rfl (by first | exact IntWalk.i64_in _ (by omega) | rfl) rfl ?_; clear h a; intro a h
        refine st_storeB0 h rfl rfl hba rfl rfl sz3 ?_; clear h a; intro w2 hbn hq hz a h
        replace hf := hf.step hq (by first | (simp; done) | (simp; omega))
        replace hbs := hbs.fr hq (by first | (simp; done) | (simp; omega) | (simp [blks]; done) | (simp [blks]; omega))
        replace hbr := hbr.fr hq (by first | (simp; done) | (simp; omega) | (simp [blks]; done) | (simp [blks]; omega))
        replace hbi := hbi.fr hq (by first | (simp; done) | (simp; omega) | (simp [blks]; done) | (simp [blks]; omega))
        replace hy := hy.fr hq (by first | (simp; done) | (simp; omega) | (simp [blks]; done) | (simp [blks]; omega))
        replace ho3 := ho3.fr hq (by intro k hk hb; have := ho3.blk k hb; simp at hk; omega)
        clear hba hq hz; have hba : Blk w2 ga _ [_] := hbn; clear hbn
        replace h : Ag a 32 [(0, _), (1, _), (2, _), (5, _)] := h.sub (.cons rfl (.cons rfl (.cons rfl (.cons rfl .nil))))
        refine wpList_nil (norm_blk (norm_then ?_))
        exact ⟨(m, q' + 1, (acc ++ xs).take 17, _), h.sub (.cons rfl (.cons rfl (.cons rfl (.cons rfl .nil)))), ⟨by rw [hFe]; exact read_row_next hr (nor_byte (c := 32) c1), by simp only; omega, by simp only; omega, by simp only; omega, by simp; omega, ho3, ⟨hbs, hba, hbr, hbi, hy⟩, hf⟩, by simp only; omega⟩
set_option maxHeartbeats 2000000 in
theorem item_step (l : List UInt8) (gs ga gr gi F : Nat) (hl : l.length ≤ 1024) (o0 : 0 < gs) (o1 : gs < ga) (o2 : ga < gr) (o3 : gr < gi) (hi : ∀ m, m < F → RowC l gs ga gr gi m) : ItemC l gs ga gr gi F := by
  intro p w0 hp hF he
  obtain ⟨hbs, hba, hbr, hbi, hy⟩ := he
  have hgi := hbi.lt
  unfold P3 at *
  refine enter [(0, .pointer (some ⟨ga, 0, none⟩)), (1, .pointer (some ⟨gs, 0, none⟩)), (2, .pointer (some ⟨gr, 0, none⟩))] Tryd.func51 rfl Tryd.ntmps51 rfl (.cons rfl (.cons rfl (.cons rfl .nil))) ?_
  have hf := Fr.refl [ga] w0
  intro a h
  refine wp_seq ?_
  refine wp_region_lit ?_
  refine st_assign h rfl rfl ?_; clear h a; intro a h
  refine st_assign h rfl rfl ?_; clear h a; intro a h
  replace h : Ag a 94 [(0, _), (1, _), (2, _)] := h.sub (.cons rfl (.cons rfl (.cons rfl .nil)))
  refine wpList_nil (norm_then ?_)
  refine wp_seq ?_
  refine wp_seq ?_
  refine region_bool (r := 22) (L' := [(0, _), (1, _), (2, _)]) (p = l.length ∨ ((l.getD p 0).toNat : Int) ≠ 91) h (.cons rfl (.cons rfl (.cons rfl .nil))) ?_ ?_
  · refine id ?_
    refine st_loadB0 h rfl hba na3 rfl ?_; clear h a; intro a h
    refine st_loadB0 h rfl hbs na9 rfl ?_; clear h a; intro a h
    refine st_len h rfl Tryd.underlying9 rfl ?_; clear h a; intro a h
    refine st_eq h rfl rfl rfl ?_; clear h a; intro a h
    refine st_move h rfl rfl ?_; clear h a; intro a h
    first | refine guard_dec (D := 17) h rfl ?_ ?_ | refine guard_ndec (D := 17) h rfl ?_ ?_ | refine guard_any (D := 17) h rfl ?_ ?_
    · clear h; intro g0 h
      refine gd_no h rfl rfl rfl rfl rfl rfl rfl rfl ?_; clear h a; intro a h
      refine gd_no h rfl rfl rfl rfl rfl rfl rfl rfl ?_; clear h a; intro a h
      refine gd_no h rfl rfl rfl rfl rfl rfl rfl rfl ?_; clear h a; intro a h
      refine gd_no h rfl rfl rfl rfl rfl rfl rfl rfl ?_; clear h a; intro a h
      refine st_pick_t h rfl rfl rfl rfl ?_; clear h a; intro a h
      exact wpList_nil (bool_end h rfl (by first | exact bt (by omega) | exact bf (by omega) | exact bi (by omega) | exact bn (by omega)) (.cons rfl (.cons rfl (.cons rfl .nil))))
    · clear h; intro g0 h
      refine gd_yes h rfl rfl rfl rfl rfl rfl ?_
      refine st_loadB0 h rfl hbs na9 rfl ?_; clear h a; intro a h
      refine gd_yes h rfl rfl rfl rfl rfl rfl ?_
      refine st_loadB0 h rfl hba na3 rfl ?_; clear h a; intro a h
      refine gd_yes h rfl rfl rfl rfl rfl rfl ?_
      refine st_index (p := p) h rfl rfl Tryd.underlying9 (by omega) (by omega) (by omega) rfl ?_; clear h a; intro hy20 a h
      refine gd_yes h rfl rfl rfl rfl rfl rfl ?_
      refine st_ne h rfl rfl rfl ?_; clear h a; intro a h
      refine st_pick_f h rfl rfl rfl rfl ?_; clear h a; intro a h
      exact wpList_nil (bool_end h rfl (by first | exact bt (by omega) | exact bf (by omega) | exact bi (by omega) | exact bn (by omega)) (.cons rfl (.cons rfl (.cons rfl .nil))))
  · clear h a; intro a h
    refine (norm_then ?_)
    first | refine cond_dec h rfl (fun c0 => ?_) (fun c0 => ?_) | refine cond_ndec h rfl (fun c0 => ?_) (fun c0 => ?_) | refine cond_split h rfl (fun c0 => ?_) (fun c0 => ?_)
    · have c0' := or_byte (c := 91) c0
      refine wp_seq ?_
      refine wp_region_lit ?_
      refine st_loadB0 h rfl hba na3 rfl ?_; clear h a; intro a h
      refine st_assign h rfl rfl ?_; clear h a; intro a h
      replace h : Ag a 94 [(0, _), (1, _), (5, _)] := h.sub (.cons rfl (.cons rfl (.cons rfl .nil)))
      refine wpList_nil (norm_then ?_)
      refine wp_seq ?_
      refine wp_block ?_
      refine loop (ι := Nat) (fun k => [(0, .pointer (some ⟨ga, 0, none⟩)), (1, .pointer (some ⟨gs, 0, none⟩)), (5, .int .i64 (k : Int))]) (fun k w' => p ≤ k ∧ k ≤ l.length ∧ wordEnd l k = wordEnd l p ∧ EnvOk l gs ga gr gi p w' ∧ Fr [ga] w0 w') (fun k => l.length - k) p (h.sub (.cons rfl (.cons rfl (.cons rfl .nil)))) ⟨Nat.le_refl _, hp, rfl, ⟨hbs, hba, hbr, hbi, hy⟩, hf⟩ ?_
      clear h a hf hbs hba hbr hbi hy
      rintro k w1 a h ⟨hpk, hkl, hwe, ⟨hbs, hba, hbr, hbi, hy⟩, hf⟩
      unfold P3 at *
      refine wp_seq ?_
      refine wp_seq ?_
      refine region_bool (r := 39) (L' := [(0, _), (1, _), (5, _)]) (k < l.length ∧ ((l.getD k 0).toNat : Int) ≠ 32 ∧ ((l.getD k 0).toNat : Int) ≠ 93) h (.cons rfl (.cons rfl (.cons rfl .nil))) ?_ ?_
      · refine id ?_
        refine st_move h rfl rfl ?_; clear h a; intro a h
        refine st_loadB0 h rfl hbs na9 rfl ?_; clear h a; intro a h
        refine st_len h rfl Tryd.underlying9 rfl ?_; clear h a; intro a h
        refine st_lt h rfl rfl rfl ?_; clear h a; intro a h
        refine st_move h rfl rfl ?_; clear h a; intro a h
        first | refine guard_dec (D := 28) h rfl ?_ ?_ | refine guard_ndec (D := 28) h rfl ?_ ?_ | refine guard_any (D := 28) h rfl ?_ ?_
        · clear h; intro g1 h
          refine gd_yes h rfl rfl rfl rfl rfl rfl ?_
          refine st_loadB0 h rfl hbs na9 rfl ?_; clear h a; intro a h
          refine gd_yes h rfl rfl rfl rfl rfl rfl ?_
          refine st_move h rfl rfl ?_; clear h a; intro a h
          refine gd_yes h rfl rfl rfl rfl rfl rfl ?_
          refine st_index (p := k) h rfl rfl Tryd.underlying9 (by omega) (by omega) (by omega) rfl ?_; clear h a; intro hy31 a h
          refine gd_yes h rfl rfl rfl rfl rfl rfl ?_
          refine st_ne h rfl rfl rfl ?_; clear h a; intro a h
          refine st_pick_t h rfl rfl rfl rfl ?_; clear h a; intro a h
          refine st_move h rfl rfl ?_; clear h a; intro a h
          first | refine guard_dec (D := 34) h rfl ?_ ?_ | refine guard_ndec (D := 34) h rfl ?_ ?_ | refine guard_any (D := 34) h rfl ?_ ?_
          · clear h; intro g2 h
            refine gd_yes h rfl rfl rfl rfl rfl rfl ?_
            refine st_loadB0 h rfl hbs na9 rfl ?_; clear h a; intro a h
            refine gd_yes h rfl rfl rfl rfl rfl rfl ?_
            refine st_move h rfl rfl ?_; clear h a; intro a h
            refine gd_yes h rfl rfl rfl rfl rfl rfl ?_
            refine st_index (p := k) h rfl rfl Tryd.underlying9 (by omega) (by omega) (by omega) rfl ?_; clear h a; intro hy37 a h
            refine gd_yes h rfl rfl rfl rfl rfl rfl ?_
            refine st_ne h rfl rfl rfl ?_; clear h a; intro a h
            refine st_pick_t h rfl rfl rfl rfl ?_; clear h a; intro a h
            exact wpList_nil (bool_end h rfl (by first | exact bt (by omega) | exact bf (by omega) | exact bi (by omega) | exact bn (by omega)) (.cons rfl (.cons rfl (.cons rfl .nil))))
          · clear h; intro g2 h
            refine gd_no h rfl rfl rfl rfl rfl rfl rfl rfl ?_; clear h a; intro a h
            refine gd_no h rfl rfl rfl rfl rfl rfl rfl rfl ?_; clear h a; intro a h
            refine gd_no h rfl rfl rfl rfl rfl rfl rfl rfl ?_; clear h a; intro a h
            refine gd_no h rfl rfl rfl rfl rfl rfl rfl rfl ?_; clear h a; intro a h
            refine st_pick_f h rfl rfl rfl rfl ?_; clear h a; intro a h
            exact wpList_nil (bool_end h rfl (by first | exact bt (by omega) | exact bf (by omega) | exact bi (by omega) | exact bn (by omega)) (.cons rfl (.cons rfl (.cons rfl .nil))))
        · clear h; intro g1 h
          refine gd_no h rfl rfl rfl rfl rfl rfl rfl rfl ?_; clear h a; intro a h
          refine gd_no h rfl rfl rfl rfl rfl rfl rfl rfl ?_; clear h a; intro a h
          refine gd_no h rfl rfl rfl rfl rfl rfl rfl rfl ?_; clear h a; intro a h
          refine gd_no h rfl rfl rfl rfl rfl rfl rfl rfl ?_; clear h a; intro a h
          refine st_pick_f h rfl rfl rfl rfl ?_; clear h a; intro a h
          refine st_move h rfl rfl ?_; clear h a; intro a h
          refine gd_no h rfl rfl rfl rfl rfl rfl rfl rfl ?_; clear h a; intro a h
          refine gd_no h rfl rfl rfl rfl rfl rfl rfl rfl ?_; clear h a; intro a h
          refine gd_no h rfl rfl rfl rfl rfl rfl rfl rfl ?_; clear h a; intro a h
          refine gd_no h rfl rfl rfl rfl rfl rfl rfl rfl ?_; clear h a; intro a h
          refine st_pick_f h rfl rfl rfl rfl ?_; clear h a; intro a h
          exact wpList_nil (bool_end h rfl (by first | exact bt (by omega) | exact bf (by omega) | exact bi (by omega) | exact bn (by omega)) (.cons rfl (.cons rfl (.cons rfl .nil))))
      · clear h a; intro a h
        refine (norm_then ?_)
        first | refine cond_dec h rfl (fun c1 => ?_) (fun c1 => ?_) | refine cond_ndec h rfl (fun c1 => ?_) (fun c1 => ?_) | refine cond_split h rfl (fun c1 => ?_) (fun c1 => ?_)
        · have c1' : k < l.length ∧ l.getD k 0 ≠ 32 ∧ l.getD k 0 ≠ 93 := ⟨c1.1, fun e => c1.2.1 (by rw [e]; rfl), fun e => c1.2.2 (by rw [e]; rfl)⟩
          refine wp_skip (norm_then ?_)
          refine wp_block ?_
          refine wp_region_lit ?_
          refine st_move h rfl rfl ?_; clear h a; intro a h
          refine st_add h rfl rfl (by first | exact IntWalk.i64_in _ (by omega) | rfl) rfl ?_; clear h a; intro a h
          refine st_assign h rfl rfl ?_; clear h a; intro a h
          replace h : Ag a 94 [(0, _), (1, _), (5, _)] := h.sub (.cons rfl (.cons rfl (.cons rfl .nil)))
          refine wpList_nil (norm_blk (norm_then ?_))
          exact ⟨k + 1, h.sub (.cons rfl (.cons rfl (.cons rfl .nil))), ⟨by omega, by omega, by rw [← hwe, wordEnd_next c1'], ⟨hbs, hba, hbr, hbi, hy⟩, hf⟩, by omega⟩
        · have hke : k = wordEnd l p := by
            rw [← hwe]; exact (wordEnd_here (fun e => c1 ⟨e.1, fun h => e.2.1 (byte_eq.1 h), fun h => e.2.2 (byte_eq.1 h)⟩)).symm
          refine wp_exit (exit_then (exit_then (exit_here (norm_then ?_))))
          refine wp_seq ?_
          refine wp_region_lit ?_
          refine st_loadB0 h rfl hbs na9 rfl ?_; clear h a; intro a h
          refine st_loadB0 h rfl hba na3 rfl ?_; clear h a; intro a h
          refine st_move h rfl rfl ?_; clear h a; intro a h
          refine st_ss_lh (p := p) (p' := k) h rfl rfl rfl Tryd.underlying9 (by omega) (by omega) (by omega) (by omega) (by omega) rfl ?_; clear h a; intro a h
          refine st_call h (evs_cons rfl evs_nil) co28 (parse_ok _ _ hy) rfl ?_; clear h a; rintro _ w2 ⟨rfl, hq⟩ a h
          replace hf := hf.next hq
          replace hbs := hbs.ext hq
          replace hba := hba.ext hq
          replace hbr := hbr.ext hq
          replace hbi := hbi.ext hq
          replace hy := hy.ext hq
          clear hq
          refine st_move h rfl rfl ?_; clear h a; intro a h
          refine st_extract h rfl rfl rfl ?_; clear h a; intro a h
          refine st_extract h rfl rfl rfl ?_; clear h a; intro a h
          refine st_alloc h zv36 rfl rfl ?_; clear h a; intro w3 hb6 hq hz a h
          obtain ⟨g_6, hg⟩ : ∃ g, g = w2.heap.size := ⟨_, rfl⟩; rw [← hg] at hb6 h hz
          have hl6 : w0.heap.size ≤ g_6 := by have := hf.size; omega
          have hn__6 : gs < g_6 := by have := hbs.lt; omega
          have hn__6 : ga < g_6 := by have := hba.lt; omega
          have hn__6 : gr < g_6 := by have := hbr.lt; omega
          have hn__6 : gi < g_6 := by have := hbi.lt; omega
          replace hf := hf.next hq
          replace hbs := hbs.ext hq
          replace hba := hba.ext hq
          replace hbr := hbr.ext hq
          replace hbi := hbi.ext hq
          replace hy := hy.ext hq
          clear hq hz hg
          refine st_storeBA h rfl rfl hb6 rfl (by first | (simp [Value.oneCell', S]; done) | exact Enc.one _ _) sz36 ?_; clear h a; intro w4 hbn hq hz a h
          replace hf := hf.step hq (by first | (simp; done) | (simp; omega))
          replace hbs := hbs.fr hq (by first | (simp; done) | (simp; omega) | (simp [blks]; done) | (simp [blks]; omega))
          replace hba := hba.fr hq (by first | (simp; done) | (simp; omega) | (simp [blks]; done) | (simp [blks]; omega))
          replace hbr := hbr.fr hq (by first | (simp; done) | (simp; omega) | (simp [blks]; done) | (simp [blks]; omega))
          replace hbi := hbi.fr hq (by first | (simp; done) | (simp; omega) | (simp [blks]; done) | (simp [blks]; omega))
          replace hy := hy.fr hq (by first | (simp; done) | (simp; omega) | (simp [blks]; done) | (simp [blks]; omega))
          clear hb6 hq hz; have hb6 : Blk w4 g_6 _ [_, _, _, _, _] := hbn; clear hbn
          refine st_assign h rfl rfl ?_; clear h a; intro a h
          replace h : Ag a 94 [(0, _), (5, _), (6, _), (7, _)] := h.sub (.cons rfl (.cons rfl (.cons rfl (.cons rfl .nil))))
          refine wpList_nil (norm_then ?_)
          refine wp_seq ?_
          refine wp_region_lit ?_
          refine st_move h rfl rfl ?_; clear h a; intro a h
          refine st_storeB0 h rfl rfl hba rfl rfl sz3 ?_; clear h a; intro w5 hbn hq hz a h
          replace hf := hf.step hq (by first | (simp; done) | (simp; omega))
          replace hbs := hbs.fr hq (by first | (simp; done) | (simp; omega) | (simp [blks]; done) | (simp [blks]; omega))
          replace hbr := hbr.fr hq (by first | (simp; done) | (simp; omega) | (simp [blks]; done) | (simp [blks]; omega))
          replace hbi := hbi.fr hq (by first | (simp; done) | (simp; omega) | (simp [blks]; done) | (simp [blks]; omega))
          replace hy := hy.fr hq (by first | (simp; done) | (simp; omega) | (simp [blks]; done) | (simp [blks]; omega))
          replace hb6 := hb6.fr hq (by first | (simp; done) | (simp; omega) | (simp [blks]; done) | (simp [blks]; omega))
          clear hba hq hz; have hba : Blk w5 ga _ [_] := hbn; clear hbn
          replace h : Ag a 94 [(6, _), (7, _)] := h.sub (.cons rfl (.cons rfl .nil))
          refine wpList_nil (norm_then ?_)
          refine wp_seq ?_
          refine wp_region_lit ?_
          refine st_loadBA h rfl hb6 ag36 rfl ?_; clear h a; intro a h
          refine st_bslice ([(parseS ((l.take k).drop p)).1]) h (evs_cons rfl evs_nil) rfl rfl rfl el22 (by decide) rfl ?_; clear h a; intro g_52 w6 hg ho52 hq hz a h
          have hn__52 : gs < g_52 := by have := hbs.lt; omega
          have hn__52 : ga < g_52 := by have := hba.lt; omega
          have hn__52 : gr < g_52 := by have := hbr.lt; omega
          have hn__52 : gi < g_52 := by have := hbi.lt; omega
          have hn_6_52 : g_6 < g_52 := by have := hb6.lt; omega
          have hl52 : w0.heap.size ≤ g_52 := by have := hf.size; omega
          replace hf := hf.next hq
          replace hbs := hbs.ext hq
          replace hba := hba.ext hq
          replace hbr := hbr.ext hq
          replace hbi := hbi.ext hq
          replace hy := hy.ext hq
          replace hb6 := hb6.ext hq
          clear hq hz hg
          refine st_move h rfl rfl ?_; clear h a; intro a h
          refine st_eq h rfl rfl rfl ?_; clear h a; intro a h
          refine st_assign h rfl rfl ?_; clear h a; intro a h
          refine st_assign h rfl rfl ?_; clear h a; intro a h
          replace h : Ag a 94 [(3, _), (4, _)] := h.sub (.cons rfl (.cons rfl .nil))
          refine wpList_nil (norm_then ?_)
          refine wp_ret (ret_then ?_)
          refine ret2 h Tryd.results51 rfl rfl ?_
          refine ⟨_, rfl, _, _, rfl, hf, fun e => ⟨_, _, ?_, ho52.low (by omega), hba⟩, fun e => ?_⟩
          · rw [read_leaf c0']; exact leaf_some hke (of_decide_eq_true e)
          · rw [read_leaf c0']; exact leaf_none hke (of_decide_eq_false e)
    · have c0' := nor_byte (c := 91) c0
      have hpl : p < l.length := by omega
      obtain ⟨m, rfl⟩ : ∃ m, F = m + 1 := ⟨F - 1, by omega⟩
      refine wp_skip (norm_then ?_)
      refine wp_seq ?_
      refine wp_region_lit ?_
      refine st_loadB0 h rfl hba na3 rfl ?_; clear h a; intro a h
      refine st_add h rfl rfl (by first | exact IntWalk.i64_in _ (by omega) | rfl) rfl ?_; clear h a; intro a h
      refine st_storeB0 h rfl rfl hba rfl rfl sz3 ?_; clear h a; intro w7 hbn hq hz a h
      replace hf := hf.step hq (by first | (simp; done) | (simp; omega))
      replace hbs := hbs.fr hq (by first | (simp; done) | (simp; omega) | (simp [blks]; done) | (simp [blks]; omega))
      replace hbr := hbr.fr hq (by first | (simp; done) | (simp; omega) | (simp [blks]; done) | (simp [blks]; omega))
      replace hbi := hbi.fr hq (by first | (simp; done) | (simp; omega) | (simp [blks]; done) | (simp [blks]; omega))
      replace hy := hy.fr hq (by first | (simp; done) | (simp; omega) | (simp [blks]; done) | (simp [blks]; omega))
      clear hba hq hz; have hba : Blk w7 ga _ [_] := hbn; clear hbn
      replace h : Ag a 94 [(0, _), (1, _), (2, _)] := h.sub (.cons rfl (.cons rfl (.cons rfl .nil)))
      refine wpList_nil (norm_then ?_)
      refine wp_seq ?_
      refine wp_region_lit ?_
      refine st_loadB0 h rfl hbr na90 rfl ?_; clear h a; intro a h
      refine st_callv (us := []) (ws := [_, _, _]) h rfl evs_nil co49 (hi m (by omega) (p + 1) w7 (by omega) (by omega) ⟨hbs, hba, hbr, hbi, hy⟩) rfl (by intro g; simp) ?_; clear h a hba; rintro _ w2x ⟨x2, ok, rfl, hq, hyes, hno⟩ a h
      have hfs := hf.size
      replace hf := hf.step hq (by simp)
      replace hbs := hbs.fr hq (by simp; omega)
      replace hbr := hbr.fr hq (by simp; omega)
      replace hbi := hbi.fr hq (by simp; omega)
      replace hy := hy.fr hq (by simp; omega)
      clear hq
      refine st_move h rfl rfl ?_; clear h a; intro a h
      refine st_extract h rfl rfl rfl ?_; clear h a; intro a h
      refine st_extract h rfl rfl rfl ?_; clear h a; intro a h
      refine st_assign h rfl rfl ?_; clear h a; intro a h
      refine st_assign h rfl rfl ?_; clear h a; intro a h
      replace h : Ag a 94 [(0, _), (1, _), (8, _), (9, _)] := h.sub (.cons rfl (.cons rfl (.cons rfl (.cons rfl .nil))))
      refine wpList_nil (norm_then ?_)
      refine wp_seq ?_
      refine wp_seq ?_
      refine wp_region_lit ?_
      refine st_move h rfl rfl ?_; clear h a; intro a h
      refine st_not h rfl rfl ?_; clear h a; intro a h
      refine st_move h rfl rfl ?_; clear h a; intro a h
      first | refine guard_dec (D := 64) h rfl ?_ ?_ | refine guard_ndec (D := 64) h rfl ?_ ?_ | refine guard_any (D := 64) h rfl ?_ ?_
      · clear h; intro g3 h
        refine gd_no h rfl rfl rfl rfl rfl rfl rfl rfl ?_; clear h a; intro a h
        refine gd_no h rfl rfl rfl rfl rfl rfl rfl rfl ?_; clear h a; intro a h
        refine gd_no h rfl rfl rfl rfl rfl rfl rfl rfl ?_; clear h a; intro a h
        refine gd_no h rfl rfl rfl rfl rfl rfl rfl rfl ?_; clear h a; intro a h
        refine gd_no h rfl rfl rfl rfl rfl rfl rfl rfl ?_; clear h a; intro a h
        refine st_pick_t h rfl rfl rfl rfl ?_; clear h a; intro a h
        replace h : Ag a 94 [(0, _), (1, _), (8, _), (70, _)] := h.sub (.cons rfl (.cons rfl (.cons rfl (.cons rfl .nil))))
        refine wpList_nil (norm_then ?_)
        refine cond_true h rfl ?_
        refine wp_seq ?_
        refine wp_region_lit ?_
        refine st_assign h rfl rfl ?_; clear h a; intro a h
        refine st_assign h rfl rfl ?_; clear h a; intro a h
        replace h : Ag a 94 [(3, _), (4, _)] := h.sub (.cons rfl (.cons rfl .nil))
        refine wpList_nil (norm_then ?_)
        refine wp_ret (ret_then ?_)
        refine ret2 h Tryd.results51 rfl rfl ?_
        exact ⟨_, rfl, _, false, rfl, hf, (fun e => by cases e), fun _ => by rw [read_rep c0', hno (by simpa using ‹(!ok) = true›)]⟩
      · clear h; intro g3 h
        refine gd_yes h rfl rfl rfl rfl rfl rfl ?_
        have hok : ok = true := by simpa using g3
        subst hok
        obtain ⟨xs, q, hr, ho2, hba⟩ := hyes rfl
        obtain ⟨hq1, hq2, hxl⟩ := read_pos m true (p + 1) [] xs q (by omega) hr
        replace ho2 := ho2.low hfs
        clear hyes hno
        refine st_loadB0 h rfl hbs na9 rfl ?_; clear h a; intro a h
        refine gd_yes h rfl rfl rfl rfl rfl rfl ?_
        refine st_loadB0 h rfl hba na3 rfl ?_; clear h a; intro a h
        refine gd_yes h rfl rfl rfl rfl rfl rfl ?_
        refine st_ss_l (p := q) h rfl rfl Tryd.underlying9 (by omega) (by omega) (by omega) rfl ?_; clear h a; intro a h
        refine gd_yes h rfl rfl rfl rfl rfl rfl ?_
        refine st_call h (evs_cons rfl (evs_cons rfl evs_nil)) co52 (pref_ok _ _ _) rfl ?_; clear h a; rintro _ _ ⟨rfl, rfl⟩ a h
        refine gd_yes h rfl rfl rfl rfl rfl rfl ?_
        refine st_not h rfl rfl ?_; clear h a; intro a h
        refine st_pick_f h rfl rfl rfl rfl ?_; clear h a; intro a h
        replace h : Ag a 94 [(0, _), (1, _), (8, _), (70, _)] := h.sub (.cons rfl (.cons rfl (.cons rfl (.cons rfl .nil))))
        refine wpList_nil (norm_then ?_)
        first | refine cond_dec h rfl (fun c2 => ?_) (fun c2 => ?_) | refine cond_ndec h rfl (fun c2 => ?_) (fun c2 => ?_) | refine cond_split h rfl (fun c2 => ?_) (fun c2 => ?_)
        · refine id ?_
          refine wp_seq ?_
          refine wp_region_lit ?_
          refine st_assign h rfl rfl ?_; clear h a; intro a h
          refine st_assign h rfl rfl ?_; clear h a; intro a h
          replace h : Ag a 94 [(3, _), (4, _)] := h.sub (.cons rfl (.cons rfl .nil))
          refine wpList_nil (norm_then ?_)
          refine wp_ret (ret_then ?_)
          refine ret2 h Tryd.results51 rfl rfl ?_
          exact ⟨_, rfl, _, false, rfl, hf, (fun e => by cases e), fun _ => by rw [read_rep c0', hr]; show closeS l xs q = none; rw [closeS, if_neg c2]⟩
        · have hpre := c2.length_le
          simp at hpre
          refine wp_skip (norm_then ?_)
          refine wp_seq ?_
          refine wp_region_lit ?_
          refine st_loadB0 h rfl hba na3 rfl ?_; clear h a; intro a h
          refine st_add h rfl rfl (by first | exact IntWalk.i64_in _ (by omega) | rfl) rfl ?_; clear h a; intro a h
          refine st_storeB0 h rfl rfl hba rfl rfl sz3 ?_; clear h a; intro w8 hbn hq hz a h
          replace hf := hf.step hq (by first | (simp; done) | (simp; omega))
          replace hbs := hbs.fr hq (by first | (simp; done) | (simp; omega) | (simp [blks]; done) | (simp [blks]; omega))
          replace hbr := hbr.fr hq (by first | (simp; done) | (simp; omega) | (simp [blks]; done) | (simp [blks]; omega))
          replace hbi := hbi.fr hq (by first | (simp; done) | (simp; omega) | (simp [blks]; done) | (simp [blks]; omega))
          replace hy := hy.fr hq (by first | (simp; done) | (simp; omega) | (simp [blks]; done) | (simp [blks]; omega))
          replace ho2 := ho2.fr hq (by intro k hk hb; have := ho2.blk k hb; simp at hk; omega)
          clear hba hq hz; have hba : Blk w8 ga _ [_] := hbn; clear hbn
          replace h : Ag a 94 [(0, _), (1, _), (8, _)] := h.sub (.cons rfl (.cons rfl (.cons rfl .nil)))
          refine wpList_nil (norm_then ?_)
          refine wp_seq ?_
          refine wp_region_lit ?_
          refine st_loadB0 h rfl hbs na9 rfl ?_; clear h a; intro a h
          refine st_loadB0 h rfl hba na3 rfl ?_; clear h a; intro a h
          refine st_ss_l (p := q + 2) h rfl rfl Tryd.underlying9 (by omega) (by omega) (by omega) rfl ?_; clear h a; intro a h
          have hcr := @count_rng (l.drop (q + 2)) 16
          simp only [List.length_drop] at hcr
          refine st_call h (evs_cons rfl (evs_cons rfl evs_nil)) co53 (count_ok _ _ _ (by simp; omega)) rfl ?_; clear h a; rintro _ _ ⟨rfl, rfl⟩ a h
          refine st_move h rfl rfl ?_; clear h a; intro a h
          refine st_extract h rfl rfl rfl ?_; clear h a; intro a h
          refine st_extract h rfl rfl rfl ?_; clear h a; intro a h
          refine st_assign h rfl rfl ?_; clear h a; intro a h
          refine st_assign h rfl rfl ?_; clear h a; intro a h
          replace h : Ag a 94 [(0, _), (8, _), (10, _), (11, _)] := h.sub (.cons rfl (.cons rfl (.cons rfl (.cons rfl .nil))))
          refine wpList_nil (norm_then ?_)
          refine wp_seq ?_
          refine wp_region_lit ?_
          refine st_loadB0 h rfl hba na3 rfl ?_; clear h a; intro a h
          refine st_move h rfl rfl ?_; clear h a; intro a h
          refine st_add h rfl rfl (by first | exact IntWalk.i64_in _ (by omega) | rfl) rfl ?_; clear h a; intro a h
          refine st_storeB0 h rfl rfl hba rfl rfl sz3 ?_; clear h a; intro w9 hbn hq hz a h
          replace hf := hf.step hq (by first | (simp; done) | (simp; omega))
          replace hbs := hbs.fr hq (by first | (simp; done) | (simp; omega) | (simp [blks]; done) | (simp [blks]; omega))
          replace hbr := hbr.fr hq (by first | (simp; done) | (simp; omega) | (simp [blks]; done) | (simp [blks]; omega))
          replace hbi := hbi.fr hq (by first | (simp; done) | (simp; omega) | (simp [blks]; done) | (simp [blks]; omega))
          replace hy := hy.fr hq (by first | (simp; done) | (simp; omega) | (simp [blks]; done) | (simp [blks]; omega))
          replace ho2 := ho2.fr hq (by intro k hk hb; have := ho2.blk k hb; simp at hk; omega)
          clear hba hq hz; have hba : Blk w9 ga _ [_] := hbn; clear hbn
          replace h : Ag a 94 [(8, _), (10, _), (11, _)] := h.sub (.cons rfl (.cons rfl (.cons rfl .nil)))
          refine wpList_nil (norm_then ?_)
          refine wp_seq ?_
          refine wp_region_lit ?_
          refine st_assign h rfl rfl ?_; clear h a; intro a h
          refine wpList_nil (norm_then ?_)
          refine wp_seq ?_
          refine wp_seq ?_
          refine wp_region_lit ?_
          refine st_move h rfl rfl ?_; clear h a; intro a h
          refine st_move h rfl rfl ?_; clear h a; intro a h
          replace h : Ag a 94 [(8, _), (11, _), (12, _), (83, _), (84, _)] := h.sub (.cons rfl (.cons rfl (.cons rfl (.cons rfl (.cons rfl .nil)))))
          refine wpList_nil (norm_then ?_)
          refine wp_block ?_
          refine loop (ι := Nat × Value) (fun z => [(8, x2), (11, .int .i64 (countS (l.drop (q + 2)) 16).2), (12, z.2), (83, .int .i64 (countS (l.drop (q + 2)) 16).1), (84, .int .i64 (z.1 : Int))]) (fun z w' => z.1 ≤ (countS (l.drop (q + 2)) 16).1.toNat ∧ Own encSt 36 w0.heap.size w' z.2 (timesS xs z.1) ∧ Own encSt 36 w0.heap.size w' x2 xs ∧ (∀ k ∈ blks z.2, k ∉ blks x2) ∧ Blk w' ga 3 [.int .i64 ((q + 2 + (countS (l.drop (q + 2)) 16).2.toNat : Nat) : Int)] ∧ Fr [ga] w0 w') (fun z => (countS (l.drop (q + 2)) 16).1.toNat - z.1) (0, .slice none 0 0) (h.sub (.cons rfl (.cons rfl (.cons rfl (.cons rfl (.cons rfl .nil)))))) ⟨Nat.zero_le _, Own.nil _, ho2, (by intro k hk; cases hk), by rw [show ((q + 2 + (countS (l.drop (q + 2)) 16).2.toNat : Nat) : Int) = (q : Int) + 2 + (countS (l.drop (q + 2)) 16).2 by omega]; exact hba, hf⟩ ?_
          clear h a hf hba ho2 hbs hbr hbi hy
          rintro ⟨j, x⟩ w10 a h ⟨hj, ho, ho2, hdis, hba, hf⟩
          simp only at hj ho hdis h
          refine wp_seq ?_
          refine wp_region_lit ?_
          refine st_lt h rfl rfl rfl ?_; clear h a; intro a h
          refine wpList_nil (norm_then ?_)
          refine wp_seq ?_
          first | refine cond_dec h rfl (fun c3 => ?_) (fun c3 => ?_) | refine cond_ndec h rfl (fun c3 => ?_) (fun c3 => ?_) | refine cond_split h rfl (fun c3 => ?_) (fun c3 => ?_)
          · refine id ?_
            refine wp_skip (norm_then ?_)
            refine wp_seq ?_
            refine wp_block ?_
            refine wp_region_lit ?_
            refine st_move h rfl rfl ?_; clear h a; intro a h
            refine st_move h rfl rfl ?_; clear h a; intro a h
            refine st_append h rfl rfl ho ho2.sl el22 (by unfold maxLen; rw [times_len]; have := Nat.mul_le_mul (show j ≤ 16 by omega) hxl; omega) (by rw [times_len]; have := Nat.mul_le_mul (show j ≤ 16 by omega) hxl; omega) (by have := hf.size; omega) rfl ?_; clear h a; intro x5 w5x ho5 hq hx5 a h
            have hd5 : ∀ k ∈ blks x5, k ∉ blks x2 := by
              intro k hk
              rcases hx5 with e | e | e
              · rw [e] at hk; exact hdis k hk
              · rw [e] at hk; exact hdis k hk
              · rw [e] at hk; simp at hk; intro hb; have := (ho2.blk k hb).2; omega
            replace ho2 := ho2.fr hq (fun k hk hb => hdis k hk hb)
            replace hba := hba.fr hq (fun hb => by have := ho.blk _ hb; omega)
            replace hf := hf.step hq (fun k hk hlt => by have := ho.blk k hk; omega)
            clear hq
            clear ho hdis hx5
            rw [← times_succ] at ho5
            refine st_assign h rfl rfl ?_; clear h a; intro a h
            replace h : Ag a 94 [(8, _), (11, _), (12, _), (83, _), (84, _)] := h.sub (.cons rfl (.cons rfl (.cons rfl (.cons rfl (.cons rfl .nil)))))
            refine wpList_nil (norm_blk (norm_then ?_))
            refine wp_region_lit ?_
            refine st_add h rfl rfl (by first | exact IntWalk.i64_in _ (by omega) | rfl) rfl ?_; clear h a; intro a h
            refine st_move h rfl rfl ?_; clear h a; intro a h
            replace h : Ag a 94 [(8, _), (11, _), (12, _), (83, _), (84, _)] := h.sub (.cons rfl (.cons rfl (.cons rfl (.cons rfl (.cons rfl .nil)))))
            refine wpList_nil (norm_then ?_)
            exact ⟨(j + 1, x5), h.sub (.cons rfl (.cons rfl (.cons rfl (.cons rfl (.cons rfl .nil))))), ⟨by simp only; omega, ho5, ho2, hd5, hba, hf⟩, by simp only; omega⟩
          · obtain rfl : j = (countS (l.drop (q + 2)) 16).1.toNat := by omega
            refine wp_exit (exit_then (exit_then (exit_here (norm_then ?_))))
            refine wp_seq ?_
            refine wp_region_lit ?_
            refine st_move h rfl rfl ?_; clear h a; intro a h
            obtain ⟨A3, cp3, rfl, hc3⟩ := ho.sl.form
            refine st_call h (evs_cons rfl evs_nil) co50 (cut_ok _ _ _ _ hc3) rfl ?_; clear h a; rintro _ _ ⟨rfl, rfl⟩ a h
            replace ho := ho.take rfl (m := min (timesS xs (countS (l.drop (q + 2)) 16).1.toNat).length 17) (by omega) (Nat.le_refl _) (by omega)
            rw [take_min] at ho
            refine st_move h rfl rfl ?_; clear h a; intro a h
            refine st_gt h rfl rfl rfl ?_; clear h a; intro a h
            refine st_assign h rfl rfl ?_; clear h a; intro a h
            refine st_assign h rfl rfl ?_; clear h a; intro a h
            replace h : Ag a 94 [(3, _), (4, _)] := h.sub (.cons rfl (.cons rfl .nil))
            refine wpList_nil (norm_then ?_)
            refine wp_ret ?_
            refine ret2 h Tryd.results51 rfl rfl ?_
            refine ⟨_, rfl, _, _, rfl, hf, fun e => ⟨_, _, ?_, ho, hba⟩, fun e => ?_⟩
            · rw [read_rep c0', hr]; show closeS l xs q = _; rw [closeS, if_pos c2]; exact if_pos (of_decide_eq_true e)
            · rw [read_rep c0', hr]; show closeS l xs q = _; rw [closeS, if_pos c2]; exact if_neg (of_decide_eq_false e)
end Go.Proofs.YtbbnampdgefljaaDoor
