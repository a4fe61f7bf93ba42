/- Texts of operations are read back: plain. Conditions: none. -/
import Derived.Test.YtbalocjcbmkecaaGreatDoorXOp
set_option linter.unusedVariables false
set_option linter.unusedSimpArgs false
namespace Go.Lw

theorem ix_none {c : UInt8} : ∀ {l : List UInt8}, c ∉ l → Lib.index l [c] = -1
  | [], _ => by simp [Lib.index]
  | b :: l, h => by
    have hb : ¬ c = b := fun e => h (by rw [e]; simp)
    have hl : c ∉ l := fun e => h (by simp [e])
    rw [Lib.index, ix_none hl]
    simp [List.isPrefixOf, hb]
theorem ix_app {c : UInt8} (y : List UInt8) : ∀ {x : List UInt8}, c ∉ x → Lib.index (x ++ c :: y) [c] = x.length
  | [], _ => by simp [Lib.index, List.isPrefixOf]
  | b :: x, h => by
    have hb : ¬ c = b := fun e => h (by rw [e]; simp)
    have hl : c ∉ x := fun e => h (by simp [e])
    rw [List.cons_append, Lib.index, ix_app y hl]
    simp only [List.isPrefixOf, beq_eq_false_iff_ne.2 hb, Bool.false_and, Bool.false_eq_true, if_false]
    rw [if_neg (by simp <;> omega)]; simp
theorem cnt {c : UInt8} : ∀ (f : Nat) (s : List UInt8), s.length < f → Lib.countFrom [c] f s = s.count c
  | 0, s, h => by omega
  | f + 1, s, h => by
    rw [Lib.countFrom]
    by_cases hm : c ∈ s
    · obtain ⟨x, y, rfl, hx⟩ := List.eq_append_cons_of_mem hm
      rw [ix_app y hx, if_neg (by simp <;> omega)]
      have e : (x ++ c :: y).drop ((x.length : Int).toNat + [c].length) = y := by
        rw [Int.toNat_natCast, show x ++ c :: y = (x ++ [c]) ++ y by simp, show x.length + [c].length = (x ++ [c]).length by simp, List.drop_left]
      rw [e, cnt f y (by simp at h; omega)]
      simp [List.count_eq_zero.2 hx]; omega
    · rw [ix_none hm, if_pos (by decide), List.count_eq_zero.2 hm]
theorem cnt' (c : UInt8) (s : List UInt8) : Lib.count s [c] = s.count c := cnt _ _ (Nat.lt_succ_self _)
theorem split_app {c : UInt8} (y : List UInt8) {x : List UInt8} (hx : c ∉ x) : Lib.split (x ++ c :: y) [c] = x :: Lib.split y [c] := by
  unfold Lib.split
  rw [cnt', cnt', List.count_append, List.count_cons_self, List.count_eq_zero.2 hx, Nat.zero_add, Lib.splitK, ix_app y hx, if_neg (by simp <;> omega)]
  have e : (x ++ c :: y).drop ((x.length : Int).toNat + [c].length) = y := by
    rw [Int.toNat_natCast, show x ++ c :: y = (x ++ [c]) ++ y by simp, show x.length + [c].length = (x ++ [c]).length by simp, List.drop_left]
  rw [e]; simp
theorem split_one {c : UInt8} {x : List UInt8} (hx : c ∉ x) : Lib.split x [c] = [x] := by
  unfold Lib.split
  rw [cnt', List.count_eq_zero.2 hx]; rfl

theorem wd_no (k : Int) : (32 : UInt8) ∉ wordS k := by
  have : ∀ n : Nat, (32 : UInt8) ∉ wordsL.getD n []
    | 0 | 1 | 2 | 3 | 4 | 5 | 6 | 7 | 8 => by decide
    | n + 9 => by simp [wordsL, List.getD]
  exact this _
theorem dr_no (k : Int) : (32 : UInt8) ∉ dirS k := by
  have : ∀ n : Nat, (32 : UInt8) ∉ dirsL.getD n []
    | 0 | 1 => by decide
    | n + 2 => by simp [dirsL, List.getD]
  exact this _
theorem dec_cases {y : Int} (h : -4 ≤ y ∧ y ≤ 6) : y = -4 ∨ y = -3 ∨ y = -2 ∨ y = -1 ∨ y = 0 ∨ y = 1 ∨ y = 2 ∨ y = 3 ∨ y = 4 ∨ y = 5 ∨ y = 6 := by omega
theorem dc_no {y : Int} (h : -4 ≤ y ∧ y ≤ 6) : (32 : UInt8) ∉ dec2 y := by
  rcases dec_cases h with rfl | rfl | rfl | rfl | rfl | rfl | rfl | rfl | rfl | rfl | rfl <;> decide
theorem num_dec {y : Int} (h : -4 ≤ y ∧ y ≤ 6) : numS (dec2 y) = y := by
  rcases dec_cases h with rfl | rfl | rfl | rfl | rfl | rfl | rfl | rfl | rfl | rfl | rfl <;> decide +kernel
theorem dirQ_dir {d : Int} (h : 0 ≤ d ∧ d ≤ 1) : dirQ (dirS d) = d := by
  have : d = 0 ∨ d = 1 := by omega
  rcases this with rfl | rfl <;> decide
theorem nd_all : ∀ n : Nat, n < 41 → 1 ≤ n → (32 : UInt8) ∉ txtN 0 n ∧ (32 : UInt8) ∉ txtN 1 n ∧ parN (txtN 0 n) = (0, (n : Int)) ∧ parN (txtN 1 n) = (1, (n : Int)) := by decide +kernel
theorem nd_ok {b p : Int} (h : (b = 0 ∨ b = 1) ∧ 1 ≤ p ∧ p ≤ 40) : (32 : UInt8) ∉ txtN b p ∧ parN (txtN b p) = (b, p) := by
  obtain ⟨n, rfl⟩ : ∃ n : Nat, p = n := ⟨p.toNat, by omega⟩
  obtain ⟨h1, h2, h3, h4⟩ := nd_all n (by omega) (by omega)
  rcases h.1 with rfl | rfl
  · exact ⟨h1, h3⟩
  · exact ⟨h2, h4⟩
theorem kind_word {k : Int} (h : 1 ≤ k ∧ k ≤ 8) : kindS (wordS k) = k := by
  have : k = 1 ∨ k = 2 ∨ k = 3 ∨ k = 4 ∨ k = 5 ∨ k = 6 ∨ k = 7 ∨ k = 8 := by omega
  rcases this with rfl | rfl | rfl | rfl | rfl | rfl | rfl | rfl <;> decide
theorem guess_txt {o : MOp} (h : chkO o = 0) : guessS (Lib.split (txtO o) [32]) = o := by
  have hr := chk_rng h
  have hp := (chk_ok h).1
  have hw := wd_no o.k
  have hkw := kind_word (k := o.k) (by omega)
  rw [txt_join h]
  have hk : o.k = 1 ∨ o.k = 2 ∨ o.k = 3 ∨ (4 ≤ o.k ∧ o.k ≤ 6) ∨ (o.k = 7 ∨ o.k = 8) := by omega
  rcases hk with hk | hk | hk | hk | hk
  · have hv := (plain1 hk).1 hp
    rw [tail1 hk, show wordS o.k ++ Lib.joinTail [32] [dec2 o.y, dirS o.d] = wordS o.k ++ 32 :: (dec2 o.y ++ 32 :: dirS o.d) by simp [Lib.joinTail], split_app _ hw, split_app _ (dc_no (by omega)), split_one (dr_no _)]
    unfold guessS
    simp only [List.getD_cons_zero, hkw]
    rw [guessK, if_pos ⟨hk, rfl⟩]
    apply MOp.ext'
    simp only [List.getD_cons_zero, List.getD_cons_succ]
    rw [num_dec (by omega), dirQ_dir (by omega)]
    refine ⟨?_, ?_, ?_, ?_, ?_, ?_⟩ <;> first | trivial | rfl | omega
  · have hv := (plain2 hk).1 hp
    rw [tail2 hk, show wordS o.k ++ Lib.joinTail [32] [dec2 o.y] = wordS o.k ++ 32 :: dec2 o.y by simp [Lib.joinTail], split_app _ hw, split_one (dc_no (by omega))]
    unfold guessS
    simp only [List.getD_cons_zero, hkw]
    rw [guessK, if_neg (by omega), if_pos ⟨hk, rfl⟩]
    apply MOp.ext'
    simp only [List.getD_cons_zero, List.getD_cons_succ]
    rw [num_dec (by omega)]
    refine ⟨?_, ?_, ?_, ?_, ?_, ?_⟩ <;> first | trivial | rfl | omega
  · have hv := (plain3 hk).1 hp
    rw [tail3 hk, show wordS o.k ++ Lib.joinTail [32] [dec2 o.r] = wordS o.k ++ 32 :: dec2 o.r by simp [Lib.joinTail], split_app _ hw, split_one (dc_no (by omega))]
    unfold guessS
    simp only [List.getD_cons_zero, hkw]
    rw [guessK, if_neg (by omega), if_neg (by omega), if_pos ⟨hk, rfl⟩]
    apply MOp.ext'
    simp only [List.getD_cons_zero, List.getD_cons_succ]
    rw [num_dec (by omega)]
    refine ⟨?_, ?_, ?_, ?_, ?_, ?_⟩ <;> first | trivial | rfl | omega
  · have hv := (plain46 hk).1 hp
    have hn := nd_ok (b := o.b) (p := o.p) (by omega)
    rw [tail46 hk, show wordS o.k ++ Lib.joinTail [32] [dirS o.d, txtN o.b o.p, dec2 o.y] = wordS o.k ++ 32 :: (dirS o.d ++ 32 :: (txtN o.b o.p ++ 32 :: dec2 o.y)) by simp [Lib.joinTail], split_app _ hw, split_app _ (dr_no _), split_app _ hn.1, split_one (dc_no (by omega))]
    unfold guessS
    simp only [List.getD_cons_zero, hkw]
    have hf : fD o.k = true := by
      have : o.k = 4 ∨ o.k = 5 ∨ o.k = 6 := by omega
      rcases this with e | e | e <;> rw [e] <;> decide
    rw [guessK, if_neg (by omega), if_neg (by omega), if_neg (by omega), if_pos ⟨hf, rfl⟩]
    apply MOp.ext'
    simp only [List.getD_cons_zero, List.getD_cons_succ]
    rw [num_dec (by omega), dirQ_dir (by omega), hn.2]
    refine ⟨?_, ?_, ?_, ?_, ?_, ?_⟩ <;> first | trivial | rfl | omega
  · have hv := (plain78 hk).1 hp
    have hn := nd_ok (b := o.b) (p := o.p) (by omega)
    rw [tail78 hk, show wordS o.k ++ Lib.joinTail [32] [txtN o.b o.p] = wordS o.k ++ 32 :: txtN o.b o.p by simp [Lib.joinTail], split_app _ hw, split_one hn.1]
    unfold guessS
    simp only [List.getD_cons_zero, hkw]
    have hf : fN o.k = true := by rcases hk with e | e <;> rw [e] <;> decide
    rw [guessK, if_neg (by omega), if_neg (by omega), if_neg (by omega), if_neg (by simp), if_pos ⟨hf, rfl⟩]
    apply MOp.ext'
    simp only [List.getD_cons_zero, List.getD_cons_succ]
    rw [hn.2]
    refine ⟨?_, ?_, ?_, ?_, ?_, ?_⟩ <;> first | trivial | rfl | omega
/-- Parse inverts Text. -/
theorem parse_txt {o : MOp} (h : chkO o = 0) : parseS (txtO o) = (o, 0) := by
  unfold parseS
  rw [guess_txt h, if_neg (by simp [h])]
theorem txt_inj {a b : MOp} (ha : chkO a = 0) (hb : chkO b = 0) : txtO a = txtO b ↔ a = b := by
  constructor
  · intro e
    have h1 := parse_txt ha
    rw [e, parse_txt hb] at h1
    cases h1; rfl
  · intro e; rw [e]
/-- Parse accepts nothing but texts of valid operations. -/
theorem parse_back {l : List UInt8} {o : MOp} {e : Int} (h : parseS l = (o, e)) : (e = 0 ∧ chkO o = 0 ∧ txtO o = l) ∨ (e = 4 ∧ o = op0) := by
  unfold parseS at h
  split at h
  · cases h; exact .inr ⟨rfl, rfl⟩
  · rename_i hh; cases h
    rw [not_or] at hh
    exact .inl ⟨rfl, Classical.not_not.1 hh.1, Classical.not_not.1 hh.2⟩
theorem ok_of_chk {o : MOp} (h : chkO o = 0) : o.Ok := by
  have h1 := chk_rng h; have h2 := chk_nd h
  unfold MOp.Ok; omega
theorem chk0_of {o : MOp} (hp : plainS o) (hr : -4 ≤ o.r ∧ o.r ≤ 4) : chkO o = 0 := by rw [chk_of, if_pos hp, if_neg (by omega)]
theorem r00 : (-4 : Int) ≤ 0 ∧ (0 : Int) ≤ 4 := by decide
theorem of_chk {x : MOp} (hx : x.Bytes) : chkO (ofO x) = 0 := by
  obtain ⟨⟨_, _⟩, ⟨_, _⟩, ⟨_, _⟩, ⟨_, _⟩, ⟨_, _⟩, ⟨_, _⟩⟩ := hx
  unfold ofO ofK
  generalize hk : 1 + x.k % 8 = k
  have hd : x.d % 2 = 0 ∨ x.d % 2 = 1 := by omega
  have hb : x.b % 2 = 0 ∨ x.b % 2 = 1 := by omega
  have hp : 1 ≤ 1 + x.p % 40 ∧ 1 + x.p % 40 ≤ 40 := by omega
  have hy : 1 ≤ 1 + x.y % 6 ∧ 1 + x.y % 6 ≤ 6 := by omega
  have hr : -4 ≤ x.r % 9 - 4 ∧ x.r % 9 - 4 ≤ 4 := by omega
  have hk8 : 1 ≤ k ∧ k ≤ 8 := by omega
  generalize x.d % 2 = d at *
  generalize x.b % 2 = b at *
  generalize 1 + x.p % 40 = p at *
  generalize 1 + x.y % 6 = y at *
  generalize x.r % 9 - 4 = r at *
  split
  · rename_i h; exact chk0_of ((plain1 (o := ⟨k, d, 0, 0, y, 0⟩) h).2 ⟨⟨hd, hy⟩, ⟨rfl, rfl⟩, rfl⟩) r00
  · split
    · rename_i h; exact chk0_of ((plain2 (o := ⟨k, 0, 0, 0, y, 0⟩) h).2 ⟨⟨rfl, hy⟩, ⟨rfl, rfl⟩, rfl⟩) r00
    · split
      · rename_i h; exact chk0_of ((plain3 (o := ⟨k, 0, 0, 0, 0, r⟩) h).2 ⟨⟨rfl, rfl⟩, ⟨rfl, rfl⟩⟩) hr
      · split
        · rename_i h; exact chk0_of ((plain78 (o := ⟨k, 0, b, p, 0, 0⟩) h).2 ⟨⟨rfl, rfl⟩, ⟨hb, hp⟩, rfl⟩) r00
        · exact chk0_of ((plain46 (o := ⟨k, d, b, p, y, 0⟩) (show 4 ≤ k ∧ k ≤ 6 by omega)).2 ⟨⟨hd, hy⟩, ⟨hb, hp⟩, rfl⟩) r00
end Go.Lw
