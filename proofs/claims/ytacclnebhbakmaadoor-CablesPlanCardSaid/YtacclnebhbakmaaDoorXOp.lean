/- Operations of a machine as plain data: what is valid, their texts. Conditions: none. -/
import Derived.Test.YtacclnebhbakmaaDoorXS
import Derived.Test.YtacclnebhbakmaaDoorXShelf
import Derived.Lib.ItoaNum
import Derived.Lib.Join
import Derived.Lib.AtoiAll
import Derived.Lib.Split
import Derived.Lib.TrimByte
import Derived.Lib.IndexMore
set_option linter.unusedVariables false
set_option linter.unusedSimpArgs false
namespace Go.Lw
open Go.RowKit

/-- An operation of a machine: kind, direction, bed, needle, yarn, rack. -/
structure MOp where
  k : Int
  d : Int
  b : Int
  p : Int
  y : Int
  r : Int

theorem MOp.ext' {a c : MOp} (h : a.k = c.k ∧ a.d = c.d ∧ a.b = c.b ∧ a.p = c.p ∧ a.y = c.y ∧ a.r = c.r) : a = c := by
  obtain ⟨h1, h2, h3, h4, h5, h6⟩ := h; cases a; cases c; simp only at *; subst h1 h2 h3 h4 h5 h6; rfl
instance : DecidableEq MOp := fun a c =>
  if h : a.k = c.k ∧ a.d = c.d ∧ a.b = c.b ∧ a.p = c.p ∧ a.y = c.y ∧ a.r = c.r then isTrue (MOp.ext' h)
  else isFalse (fun e => h (by subst e; exact ⟨rfl, rfl, rfl, rfl, rfl, rfl⟩))

def encOp : Enc MOp := ⟨fun o => [.int .u8 o.k, .int .u8 o.d, .int .u8 o.b, .int .i64 o.p, .int .u8 o.y, .int .i64 o.r], 6, fun _ => rfl, fun _ u h => by simp at h; rcases h with rfl | rfl | rfl | rfl | rfl | rfl <;> rfl, by decide⟩
abbrev opV (o : MOp) : Value := .agg #[.int .u8 o.k, .int .u8 o.d, .int .u8 o.b, .int .i64 o.p, .int .u8 o.y, .int .i64 o.r]
def op0 : MOp := ⟨0, 0, 0, 0, 0, 0⟩

def ndV (p : Int × Int) : Value := .agg #[.int .u8 p.1, .int .i64 p.2]
def opF (o : MOp) : Value := opV o
/-- needles.Check -/
def nchk (b p : Int) : Int := if b ≠ 0 ∧ b ≠ 1 then 1 else if p < 1 ∨ 40 < p then 1 else 0
/-- Which fields a kind uses: direction, needle, yarn, rack. -/
abbrev F4 := Bool × Bool × Bool × Bool
def f4L (f : F4) : List Value := [.bool f.1, .bool f.2.1, .bool f.2.2.1, .bool f.2.2.2]
theorem f4L_one (f : F4) : ∀ u ∈ f4L f, u.oneCell' = true := by intro u hu; simp [f4L] at hu; rcases hu with rfl | rfl | rfl | rfl <;> rfl
def f4V (f : F4) : Value := .agg (f4L f).toArray
def f40 : F4 := (false, false, false, false)
def usesS (k : Int) : Option F4 :=
  if k = 8 then some (false, true, false, false) else if k = 7 then some (false, true, false, false) else if k = 6 then some (true, true, true, false)
  else if k = 5 then some (true, true, true, false) else if k = 4 then some (true, true, true, false) else if k = 3 then some (false, false, false, true)
  else if k = 2 then some (false, false, true, false) else if k = 1 then some (true, false, true, false) else none
def usesV (k : Int) : Option Value := (usesS k).map f4V
theorem usesV_getD (k : Int) : (usesV k).getD (.agg #[.bool false, .bool false, .bool false, .bool false]) = .agg (f4L ((usesS k).getD f40)).toArray := by
  unfold usesV; cases usesS k <;> rfl
theorem usesV_some (k : Int) : (usesV k).isSome = (usesS k).isSome := by unfold usesV; cases usesS k <;> rfl
abbrev pl1 (f : F4) (o : MOp) : Prop := (f.1 = true ∧ o.d ≠ 0) ∧ o.d ≠ 1 ∨ ¬ f.1 = true ∧ o.d ≠ 0
abbrev pl2 (f : F4) (o : MOp) : Prop := f.2.1 = true ∧ nchk o.b o.p ≠ 0 ∨ ¬ f.2.1 = true ∧ ¬ (o.b = 0 ∧ o.p = 0)
abbrev pl3 (f : F4) (o : MOp) : Prop := f.2.2.1 = true ∧ (o.y < 1 ∨ 6 < o.y) ∨ ¬ f.2.2.1 = true ∧ o.y ≠ 0
abbrev pl4 (f : F4) (o : MOp) : Prop := f.2.2.2 = true ∨ o.r = 0
def plainF (f : F4) (o : MOp) : Prop := ¬ pl1 f o ∧ ¬ pl2 f o ∧ ¬ pl3 f o ∧ pl4 f o
instance (f : F4) (o : MOp) : Decidable (plainF f o) := by unfold plainF; infer_instance
def plainS (o : MOp) : Prop := (usesS o.k).isSome = true ∧ plainF ((usesS o.k).getD f40) o
instance (o : MOp) : Decidable (plainS o) := by unfold plainS; infer_instance
/-- operations.Check -/
def chkO (o : MOp) : Int := if ¬ plainS o then 1 else if o.r < -4 ∨ 4 < o.r then 11 else 0

/-! Texts. -/
def dig1 (n : Nat) : UInt8 := UInt8.ofNat (48 + n)
def dec0 (n : Nat) : List UInt8 := if n < 10 then [dig1 n] else [dig1 (n / 10), dig1 (n % 10)]
/-- A number from -99 to 99 in decimal. -/
def dec2 (n : Int) : List UInt8 := if n < 0 then 45 :: dec0 n.natAbs else dec0 n.toNat
theorem dec0_eq {n : Nat} (h : n < 100) : Lib.decDigits n = dec0 n := by
  unfold dec0
  rw [Lib.decDigits]
  split
  · rfl
  · rw [Lib.decDigits, dif_pos (by omega)]; rfl
theorem dec2_eq {n : Int} (h : -99 ≤ n ∧ n ≤ 99) : Lib.itoa n = dec2 n := by
  unfold Lib.itoa dec2
  split <;> rw [dec0_eq (by omega)]
theorem itoa_le (n : Int) : (dec2 n).length ≤ 3 := by unfold dec2 dec0; (repeat' split) <;> simp
def wordsL : List (List UInt8) := [[], [105, 110], [111, 117, 116], [114, 97, 99, 107], [107, 110, 105, 116], [116, 117, 99, 107], [109, 105, 115, 115], [120, 102, 101, 114], [100, 114, 111, 112]]
def dirsL : List (List UInt8) := [[108, 101, 102, 116], [114, 105, 103, 104, 116]]
def wordS (k : Int) : List UInt8 := wordsL.getD k.toNat []
def dirS (d : Int) : List UInt8 := dirsL.getD d.toNat []
theorem words_get {k : Int} (h : 0 ≤ k ∧ k < 9) : (wordsL.map S)[k.toNat * 1]? = some (S (wordS k)) := by
  rw [Nat.mul_one, List.getElem?_map, wordS, List.getD]
  have : k.toNat < wordsL.length := by simp only [wordsL, List.length]; omega
  rw [List.getElem?_eq_getElem this]; rfl
theorem dirs_get {k : Int} (h : 0 ≤ k ∧ k < 2) : (dirsL.map S)[k.toNat * 1]? = some (S (dirS k)) := by
  rw [Nat.mul_one, List.getElem?_map, dirS, List.getD]
  have : k.toNat < dirsL.length := by simp only [dirsL, List.length]; omega
  rw [List.getElem?_eq_getElem this]; rfl
/-- needles.Text -/
def txtN (b p : Int) : List UInt8 := if nchk b p ≠ 0 then [] else if b = 0 then [102] ++ dec2 p else [98] ++ dec2 p
def tailO (o : MOp) : List (List UInt8) :=
  if o.k = 1 then [dec2 o.y, dirS o.d] else if o.k = 2 then [dec2 o.y] else if o.k = 3 then [dec2 o.r]
  else if (o.k = 4 ∨ o.k = 5) ∨ o.k = 6 then [dirS o.d, txtN o.b o.p, dec2 o.y] else if o.k = 7 ∨ o.k = 8 then [txtN o.b o.p] else []
/-- operations.Text -/
def txtO (o : MOp) : List UInt8 := if chkO o ≠ 0 then [] else Lib.join (wordS o.k :: tailO o) [32]
theorem nchk_iff {b p : Int} : nchk b p = 0 ↔ (b = 0 ∨ b = 1) ∧ 1 ≤ p ∧ p ≤ 40 := by unfold nchk; (repeat' split) <;> omega
theorem uses_rng {k : Int} (h : (usesS k).isSome = true) : 1 ≤ k ∧ k ≤ 8 := by unfold usesS at h; (repeat' split at h) <;> first | omega | simp at h
theorem chk_ok {o : MOp} (h : chkO o = 0) : plainS o ∧ -4 ≤ o.r ∧ o.r ≤ 4 := by
  unfold chkO at h
  split at h
  · omega
  · rename_i h1; split at h
    · omega
    · rename_i h2; exact ⟨Classical.not_not.1 h1, by omega, by omega⟩
theorem chk_rng {o : MOp} (h : chkO o = 0) : 1 ≤ o.k ∧ o.k ≤ 8 ∧ 0 ≤ o.d ∧ o.d ≤ 1 ∧ 0 ≤ o.y ∧ o.y ≤ 6 ∧ -4 ≤ o.r ∧ o.r ≤ 4 := by
  obtain ⟨⟨h1, h2, h3, h4, h5⟩, h6, h7⟩ := chk_ok h
  have hk := uses_rng h1
  generalize (usesS o.k).getD f40 = f at h2 h3 h4 h5
  refine ⟨hk.1, hk.2, ?_, ?_, ?_, ?_, h6, h7⟩ <;>
  · revert h2 h4
    unfold pl1 pl3
    cases f.1 <;> cases f.2.2.1 <;> simp <;> omega
theorem txtN_len {b p : Int} : (txtN b p).length ≤ 6 := by
  unfold txtN
  split
  · simp
  · rename_i h
    have hr := nchk_iff.1 (Classical.not_not.1 h)
    have := itoa_le p
    split <;> simp <;> omega
theorem wordS_len (k : Int) : (wordS k).length ≤ 4 := by
  have : ∀ n : Nat, (wordsL.getD n []).length ≤ 4
    | 0 | 1 | 2 | 3 | 4 | 5 | 6 | 7 | 8 => by decide
    | n + 9 => by simp [wordsL, List.getD]
  exact this _
theorem dirS_len (k : Int) : (dirS k).length ≤ 5 := by
  have : ∀ n : Nat, (dirsL.getD n []).length ≤ 5
    | 0 | 1 => by decide
    | n + 2 => by simp [dirsL, List.getD]
  exact this _
theorem tail_n (o : MOp) : (tailO o).length ≤ 3 := by unfold tailO; (repeat' split) <;> simp
theorem tail_len (o : MOp) (h : chkO o = 0) : (Lib.join (wordS o.k :: tailO o) [32]).length ≤ 30 := by
  have hr := chk_rng h
  have h1 := wordS_len o.k
  have h2 := dirS_len o.d
  have h3 := itoa_le o.y
  have h4 := itoa_le o.r
  have h5 := txtN_len (b := o.b) (p := o.p)
  rw [Lib.join_cons]
  unfold tailO Lib.joinTail
  (repeat' split) <;> simp <;> omega
theorem txt_len (o : MOp) : (txtO o).length ≤ 30 := by
  unfold txtO; split
  · simp
  · rename_i h; exact tail_len o (Classical.not_not.1 h)

/-! What the laws of layer 7 reckon with. -/
theorem itoa_neg {n : Int} (h : n < 0) : dec2 n = [45] ++ dec2 (0 - n) := by
  unfold dec2
  rw [if_pos h, if_neg (by omega), show (0 - n).toNat = n.natAbs by omega]; rfl
theorem itoa_small {n : Int} (h : 0 ≤ n ∧ n < 10) : dec2 n = [UInt8.ofNat (48 + n.toNat)] := by
  unfold dec2 dec0
  rw [if_neg (by omega), if_pos (by omega)]; rfl
theorem itoa_big {n : Int} (h : 10 ≤ n ∧ n < 100) : dec2 n = dec2 (n / 10) ++ [UInt8.ofNat (48 + (n % 10).toNat)] := by
  unfold dec2 dec0
  rw [if_neg (by omega), if_neg (by omega), if_neg (by omega), if_pos (by omega), show (n / 10).toNat = n.toNat / 10 by omega, show (n % 10).toNat = n.toNat % 10 by omega]; rfl
theorem dig_cells {n : Int} (h : 0 ≤ n ∧ n < 10) : [Value.int .u8 (48 + n)].map Value.cells = [UInt8.ofNat (48 + n.toNat)].map (fun y => (Enc.b.enc y).toArray) := by
  have e : ((UInt8.ofNat (48 + n.toNat)).toNat : Int) = 48 + n := by rw [UInt8.toNat_ofNat']; omega
  show [#[Value.int .u8 (48 + n)]] = [#[Value.int .u8 ((UInt8.ofNat (48 + n.toNat)).toNat : Int)]]
  rw [e]
theorem chk_nd {o : MOp} (h : chkO o = 0) : (o.b = 0 ∨ o.b = 1) ∧ 0 ≤ o.p ∧ o.p ≤ 40 := by
  obtain ⟨⟨h1, h2, h3, h4, h5⟩, h6, h7⟩ := chk_ok h
  generalize (usesS o.k).getD f40 = f at h2 h3 h4 h5
  revert h3
  unfold pl2
  cases f.2.1
  · simp; omega
  · simp; intro h; have := nchk_iff.1 h; omega
theorem chk_nd2 {o : MOp} (h : chkO o = 0) (hk : 4 ≤ o.k) : (o.b = 0 ∨ o.b = 1) ∧ 1 ≤ o.p ∧ o.p ≤ 40 := by
  have hr := chk_rng h
  obtain ⟨⟨h1, h2, h3, h4, h5⟩, h6, h7⟩ := chk_ok h
  have e : ((usesS o.k).getD f40).2.1 = true := by
    have : o.k = 4 ∨ o.k = 5 ∨ o.k = 6 ∨ o.k = 7 ∨ o.k = 8 := by omega
    rcases this with e | e | e | e | e <;> rw [e] <;> rfl
  revert h3
  unfold pl2
  rw [e]
  simp
  intro h; have := nchk_iff.1 h; omega
def bedsL : List (List UInt8) := [[102], [98]]
def bedS (b : Int) : List UInt8 := bedsL.getD b.toNat []
theorem txtN_bed {b p : Int} (h : (b = 0 ∨ b = 1) ∧ 1 ≤ p ∧ p ≤ 40) : txtN b p = bedS b ++ dec2 p := by
  unfold txtN
  rw [if_neg (by simpa using nchk_iff.2 h)]
  rcases h.1 with rfl | rfl <;> rfl
theorem tail1 {o : MOp} (h : o.k = 1) : tailO o = [dec2 o.y, dirS o.d] := by rw [tailO, if_pos h]
theorem tail2 {o : MOp} (h : o.k = 2) : tailO o = [dec2 o.y] := by rw [tailO, if_neg (by omega), if_pos h]
theorem tail3 {o : MOp} (h : o.k = 3) : tailO o = [dec2 o.r] := by rw [tailO, if_neg (by omega), if_neg (by omega), if_pos h]
theorem tail46 {o : MOp} (h : 4 ≤ o.k ∧ o.k ≤ 6) : tailO o = [dirS o.d, txtN o.b o.p, dec2 o.y] := by rw [tailO, if_neg (by omega), if_neg (by omega), if_neg (by omega), if_pos (by omega)]
theorem tail78 {o : MOp} (h : o.k = 7 ∨ o.k = 8) : tailO o = [txtN o.b o.p] := by rw [tailO, if_neg (by omega), if_neg (by omega), if_neg (by omega), if_neg (by omega), if_pos h]
theorem txt_join {o : MOp} (h : chkO o = 0) : txtO o = wordS o.k ++ Lib.joinTail [32] (tailO o) := by rw [txtO, if_neg (by simpa using h), Lib.join_cons]
/-- The fields are those of bytes. -/
def MOp.Ok (o : MOp) : Prop := 0 ≤ o.k ∧ 0 ≤ o.d ∧ 0 ≤ o.b ∧ 0 ≤ o.y ∧ o.k ≤ 255 ∧ o.d ≤ 255 ∧ o.b ≤ 255 ∧ o.y ≤ 255
/-- Plain data of an operation: six bytes. -/
def encOX : Enc MOp := ⟨fun o => [.int .u8 o.k, .int .u8 o.d, .int .u8 o.b, .int .u8 o.p, .int .u8 o.y, .int .u8 o.r], 6, fun _ => rfl, fun _ u h => by simp at h; rcases h with rfl | rfl | rfl | rfl | rfl | rfl <;> rfl, by decide⟩
abbrev oxV (o : MOp) : Value := .agg #[.int .u8 o.k, .int .u8 o.d, .int .u8 o.b, .int .u8 o.p, .int .u8 o.y, .int .u8 o.r]
def MOp.Bytes (o : MOp) : Prop := (0 ≤ o.k ∧ o.k ≤ 255) ∧ (0 ≤ o.d ∧ o.d ≤ 255) ∧ (0 ≤ o.b ∧ o.b ≤ 255) ∧ (0 ≤ o.p ∧ o.p ≤ 255) ∧ (0 ≤ o.y ∧ o.y ≤ 255) ∧ (0 ≤ o.r ∧ o.r ≤ 255)
def ofK (k : Int) (x : MOp) : MOp :=
  if k = 1 then ⟨k, x.d % 2, 0, 0, 1 + x.y % 6, 0⟩ else if k = 2 then ⟨k, 0, 0, 0, 1 + x.y % 6, 0⟩ else if k = 3 then ⟨k, 0, 0, 0, 0, x.r % 9 - 4⟩
  else if k = 7 ∨ k = 8 then ⟨k, 0, x.b % 2, 1 + x.p % 40, 0, 0⟩ else ⟨k, x.d % 2, x.b % 2, 1 + x.p % 40, 1 + x.y % 6, 0⟩
def ofO (x : MOp) : MOp := ofK (1 + x.k % 8) x

theorem plain1 {o : MOp} (hk : o.k = 1) : plainS o ↔ ((o.d = 0 ∨ o.d = 1) ∧ 1 ≤ o.y ∧ o.y ≤ 6) ∧ (o.b = 0 ∧ o.p = 0) ∧ o.r = 0 := by
  have e : usesS o.k = some (true, false, true, false) := by
    rw [hk]; rfl
  have hn := @nchk_iff o.b o.p
  unfold plainS plainF pl1 pl2 pl3 pl4
  rw [e]
  simp only [Option.isSome, Option.getD, f40, Bool.false_eq_true, not_true, not_false_iff, true_and, false_and, false_or, or_false, true_or, and_true, and_false]
  constructor <;> intro h <;> omega
theorem plain2 {o : MOp} (hk : o.k = 2) : plainS o ↔ (o.d = 0 ∧ 1 ≤ o.y ∧ o.y ≤ 6) ∧ (o.b = 0 ∧ o.p = 0) ∧ o.r = 0 := by
  have e : usesS o.k = some (false, false, true, false) := by
    rw [hk]; rfl
  have hn := @nchk_iff o.b o.p
  unfold plainS plainF pl1 pl2 pl3 pl4
  rw [e]
  simp only [Option.isSome, Option.getD, f40, Bool.false_eq_true, not_true, not_false_iff, true_and, false_and, false_or, or_false, true_or, and_true, and_false]
  constructor <;> intro h <;> omega
theorem plain3 {o : MOp} (hk : o.k = 3) : plainS o ↔ (o.d = 0 ∧ o.y = 0) ∧ (o.b = 0 ∧ o.p = 0) := by
  have e : usesS o.k = some (false, false, false, true) := by
    rw [hk]; rfl
  have hn := @nchk_iff o.b o.p
  unfold plainS plainF pl1 pl2 pl3 pl4
  rw [e]
  simp only [Option.isSome, Option.getD, f40, Bool.false_eq_true, not_true, not_false_iff, true_and, false_and, false_or, or_false, true_or, and_true, and_false]
  constructor <;> intro h <;> omega
theorem plain46 {o : MOp} (hk : 4 ≤ o.k ∧ o.k ≤ 6) : plainS o ↔ ((o.d = 0 ∨ o.d = 1) ∧ 1 ≤ o.y ∧ o.y ≤ 6) ∧ ((o.b = 0 ∨ o.b = 1) ∧ 1 ≤ o.p ∧ o.p ≤ 40) ∧ o.r = 0 := by
  have e : usesS o.k = some (true, true, true, false) := by
    have : o.k = 4 ∨ o.k = 5 ∨ o.k = 6 := by omega
    rcases this with e | e | e <;> rw [e] <;> rfl
  have hn := @nchk_iff o.b o.p
  unfold plainS plainF pl1 pl2 pl3 pl4
  rw [e]
  simp only [Option.isSome, Option.getD, f40, Bool.false_eq_true, not_true, not_false_iff, true_and, false_and, false_or, or_false, true_or, and_true, and_false]
  constructor <;> intro h <;> omega
theorem plain78 {o : MOp} (hk : o.k = 7 ∨ o.k = 8) : plainS o ↔ (o.d = 0 ∧ o.y = 0) ∧ ((o.b = 0 ∨ o.b = 1) ∧ 1 ≤ o.p ∧ o.p ≤ 40) ∧ o.r = 0 := by
  have e : usesS o.k = some (false, true, false, false) := by
    rcases hk with e | e <;> rw [e] <;> rfl
  have hn := @nchk_iff o.b o.p
  unfold plainS plainF pl1 pl2 pl3 pl4
  rw [e]
  simp only [Option.isSome, Option.getD, f40, Bool.false_eq_true, not_true, not_false_iff, true_and, false_and, false_or, or_false, true_or, and_true, and_false]
  constructor <;> intro h <;> omega
theorem plain0 {o : MOp} (hk : o.k < 1 ∨ 8 < o.k) : ¬ plainS o := fun h => by have := uses_rng h.1; omega
theorem chk_of {o : MOp} : chkO o = if plainS o then (if o.r < -4 ∨ 4 < o.r then 11 else 0) else 1 := by
  unfold chkO; by_cases e : plainS o
  · rw [if_neg (fun hh => hh e), if_pos e]
  · rw [if_pos e, if_neg e]

/-! Reading. -/
def isDg (c : UInt8) : Bool := decide (48 ≤ (c.toNat : Int) ∧ (c.toNat : Int) ≤ 57)
def dgStep (n : Int) (c : UInt8) : Int := 10 * n + ((c.toNat : Int) - 48)
def dgVal (l : List UInt8) : Int := l.foldl dgStep 0
def parB (l : List UInt8) : Option Int := if ((l.getD 0 0).toNat : Int) = 102 then some 0 else if ((l.getD 0 0).toNat : Int) = 98 then some 1 else none
/-- needles.Parse: the needle. -/
def parN (l : List UInt8) : Int × Int :=
  if (l.length : Int) < 2 ∨ 3 < (l.length : Int) then (0, 0) else
  match parB l with
  | none => (0, 0)
  | some b => if (l.drop 1).all isDg = false then (0, 0) else if txtN b (dgVal (l.drop 1)) ≠ l then (0, 0) else (b, dgVal (l.drop 1))
theorem take_snoc8 (l : List UInt8) (k : Nat) (h : k < l.length) : l.take (k + 1) = l.take k ++ [l.getD k 0] := by
  rw [List.take_succ_eq_append_getElem h]; simp [List.getD, h]
theorem dgVal_snoc (l : List UInt8) (k : Nat) (h : k < l.length) : dgVal (l.take (k + 1)) = 10 * dgVal (l.take k) + (((l.getD k 0).toNat : Int) - 48) := by
  rw [take_snoc8 l k h, dgVal, List.foldl_append]; rfl
theorem all_take (l : List UInt8) (k : Nat) (h : k < l.length) (ha : (l.take k).all isDg = true) (hc : 48 ≤ ((l.getD k 0).toNat : Int) ∧ ((l.getD k 0).toNat : Int) ≤ 57) : (l.take (k + 1)).all isDg = true := by
  rw [take_snoc8 l k h, List.all_append, ha, List.all_cons, List.all_nil, isDg, decide_eq_true hc]; rfl
theorem all_not (l : List UInt8) (k : Nat) (h : k < l.length) (hc : ¬ (48 ≤ ((l.getD k 0).toNat : Int) ∧ ((l.getD k 0).toNat : Int) ≤ 57)) : l.all isDg = false := by
  rw [Bool.eq_false_iff]; intro ha
  rw [List.all_eq_true] at ha
  have := ha (l.getD k 0) (by simp [List.getD, h])
  simp only [isDg, decide_eq_true_eq] at this
  exact hc this
theorem dgVal_rng {l : List UInt8} (h : l.all isDg = true) (hl : l.length ≤ 2) : 0 ≤ dgVal l ∧ dgVal l ≤ 99 := by
  match l, h, hl with
  | [], _, _ => decide
  | [a], h, _ => simp [isDg] at h; simp [dgVal, dgStep]; omega
  | [a, b], h, _ => simp [isDg] at h; simp [dgVal, dgStep]; omega
  | _ :: _ :: _ :: _, _, hl => simp at hl
theorem take_all {l : List UInt8} (k : Nat) (h : l.all isDg = true) : (l.take k).all isDg = true := by
  rw [List.all_eq_true] at *; exact fun x hx => h x (List.mem_of_mem_take hx)
def numS (l : List UInt8) : Int := match Lib.atoiAll l with | .ok v => v | _ => 0
def dirQ (l : List UInt8) : Int := if l = [114, 105, 103, 104, 116] then 1 else 0
def kindF (w : List UInt8) : Nat → Int
  | 0 => 0
  | i + 1 => if wordsL.getD i [] = w then (i : Int) else kindF w i
def kindS (w : List UInt8) : Int := kindF w 9
theorem kindF_rng (w : List UInt8) : ∀ i : Nat, 0 ≤ kindF w i ∧ kindF w i ≤ i
  | 0 => by simp [kindF]
  | i + 1 => by have := kindF_rng w i; unfold kindF; split <;> omega
theorem words_at {i : Nat} (h : i < 9) : (wordsL.map S)[((i : Nat) : Int).toNat]? = some (S (wordsL.getD i [])) := by
  rw [Int.toNat_natCast, List.getElem?_map, List.getD, List.getElem?_eq_getElem (show i < wordsL.length from h)]; rfl
def fD (k : Int) : Bool := ((usesS k).getD f40).1
def fN (k : Int) : Bool := ((usesS k).getD f40).2.1
def guessK (k : Int) (ws : List (List UInt8)) : MOp :=
  if k = 1 ∧ (ws.length : Int) = 3 then ⟨k, dirQ (ws.getD 2 []), 0, 0, numS (ws.getD 1 []) % 256, 0⟩
  else if k = 2 ∧ (ws.length : Int) = 2 then ⟨k, 0, 0, 0, numS (ws.getD 1 []) % 256, 0⟩
  else if k = 3 ∧ (ws.length : Int) = 2 then ⟨k, 0, 0, 0, 0, numS (ws.getD 1 [])⟩
  else if fD k = true ∧ (ws.length : Int) = 4 then ⟨k, dirQ (ws.getD 1 []), (parN (ws.getD 2 [])).1, (parN (ws.getD 2 [])).2, numS (ws.getD 3 []) % 256, 0⟩
  else if fN k = true ∧ (ws.length : Int) = 2 then ⟨k, 0, (parN (ws.getD 1 [])).1, (parN (ws.getD 1 [])).2, 0, 0⟩
  else ⟨k, 0, 0, 0, 0, 0⟩
/-- operations.guess -/
def guessS (ws : List (List UInt8)) : MOp := guessK (kindS (ws.getD 0 [])) ws

/-- operations.Parse -/
def parseS (l : List UInt8) : MOp × Int :=
  if chkO (guessS (Lib.split l [32])) ≠ 0 ∨ txtO (guessS (Lib.split l [32])) ≠ l then (op0, 4) else (guessS (Lib.split l [32]), 0)
theorem splitK_pos (sep : List UInt8) (sv : Nat) : ∀ (k : Nat) (l : List UInt8), 1 ≤ (Lib.splitK sep sv k l).length
  | 0, l => by simp [Lib.splitK]
  | k + 1, l => by unfold Lib.splitK; split <;> simp
theorem split_pos (l sep : List UInt8) : 1 ≤ (Lib.split l sep).length := splitK_pos _ _ _ _
theorem splitK_len (sep : List UInt8) : ∀ (k : Nat) (l x : List UInt8), x ∈ Lib.splitK sep 0 k l → x.length ≤ l.length
  | 0, l, x, h => by simp [Lib.splitK] at h; rw [h]; exact Nat.le_refl _
  | k + 1, l, x, h => by
    unfold Lib.splitK at h
    split at h
    · simp at h; rw [h]; exact Nat.le_refl _
    · rw [List.mem_cons] at h
      rcases h with rfl | h
      · simp; omega
      · have := splitK_len sep k _ x h
        simp at this; omega
theorem split_len (l sep : List UInt8) (i : Nat) : ((Lib.split l sep).getD i []).length ≤ l.length := by
  rw [List.getD]
  cases e : (Lib.split l sep)[i]? with
  | none => simp
  | some y => exact splitK_len sep _ l y (List.mem_of_getElem? e)

/-- A line without a remark, and without spaces at its ends. -/
def lineS (x : List UInt8) : List UInt8 := Lib.trimB (Lib.cut x [35]).1 32
def progF : List (List UInt8) → Int → List MOp → List MOp × Int × Int
  | [], _, acc => (acc, 0, 0)
  | x :: xs, i, acc => if lineS x = [] then progF xs (i + 1) acc else if (parseS (lineS x)).2 ≠ 0 then ([], i + 1, (parseS (lineS x)).2)
    else if (acc.length : Int) = 4096 then ([], i + 1, 3) else progF xs (i + 1) (acc ++ [(parseS (lineS x)).1])
/-- operations.Program: the operations, the line of the error, the error. -/
def progS (l : List UInt8) : List MOp × Int × Int := progF (Lib.split l [10]) 0 []
theorem cut_len (x m : List UInt8) : (Lib.cut x m).1.length ≤ x.length := by unfold Lib.cut; (repeat' split) <;> simp <;> omega
theorem trim_len (x : List UInt8) (c : UInt8) : (Lib.trimB x c).length ≤ x.length := by
  unfold Lib.trimB Lib.trimLeftB Lib.trimRightB
  refine Nat.le_trans ((List.dropWhile_suffix _).length_le) ?_
  rw [List.length_reverse]
  refine Nat.le_trans ((List.dropWhile_suffix _).length_le) ?_
  rw [List.length_reverse]; exact Nat.le_refl _
theorem line_len (x : List UInt8) : (lineS x).length ≤ x.length := Nat.le_trans (trim_len _ _) (cut_len _ _)
theorem drop_getD {α : Type} (l : List α) (i : Nat) (z : α) (h : i < l.length) : l.drop i = l.getD i z :: l.drop (i + 1) := by
  rw [List.drop_eq_getElem_cons h]; simp [List.getD, h]
end Go.Lw
