/- Stitches as data: their check, their text. Plain definitions. Conditions: none. -/
import Derived.Test.YtbbnampdgefljaaDoorXOps2
set_option linter.unusedVariables false
set_option linter.unusedSimpArgs false
namespace Go.G14
open Go.Lw

structure Stitch where
  k : Int
  y : Int
  a : Int
  b : Int
  f : Bool
instance : DecidableEq Stitch := fun x y =>
  if h : x.k = y.k ∧ x.y = y.y ∧ x.a = y.a ∧ x.b = y.b ∧ x.f = y.f then isTrue (by cases x; cases y; simp_all) else isFalse (by intro e; subst e; simp at h)

def stV (s : Stitch) : Value := .agg #[.int .u8 s.k, .int .u8 s.y, .int .i64 s.a, .int .i64 s.b, .bool s.f]
def encSt : Enc Stitch := ⟨fun s => [.int .u8 s.k, .int .u8 s.y, .int .i64 s.a, .int .i64 s.b, .bool s.f], 5, fun _ => rfl, fun _ u h => by simp at h; rcases h with rfl | rfl | rfl | rfl | rfl <;> rfl, by decide⟩

/-- The error of a stitch: 0 or 1. -/
def checkS (s : Stitch) : Int :=
  if s.k < 1 ∨ 8 < s.k ∨ s.y < 1 ∨ 6 < s.y then 1
  else if s.k ≠ 8 then (if s.a ≠ 0 ∨ s.b ≠ 0 ∨ s.f = true then 1 else 0)
  else if s.a < 1 ∨ 4 < s.a ∨ s.b < 1 ∨ 4 - s.a < s.b then 1 else 0

theorem check_rng {s : Stitch} (h : checkS s = 0) : 1 ≤ s.k ∧ s.k ≤ 8 ∧ 1 ≤ s.y ∧ s.y ≤ 6 ∧ (s.k ≠ 8 → s.a = 0 ∧ s.b = 0 ∧ s.f = false) ∧ (s.k = 8 → 1 ≤ s.a ∧ s.a ≤ 3 ∧ 1 ≤ s.b ∧ s.b ≤ 3 ∧ s.a + s.b ≤ 4) := by
  unfold checkS at h
  by_cases c1 : s.k < 1 ∨ 8 < s.k ∨ s.y < 1 ∨ 6 < s.y
  · rw [if_pos c1] at h; omega
  · rw [if_neg c1] at h
    by_cases c2 : s.k ≠ 8
    · rw [if_pos c2] at h
      by_cases c3 : s.a ≠ 0 ∨ s.b ≠ 0 ∨ s.f = true
      · rw [if_pos c3] at h; omega
      · simp only [not_or, Decidable.not_not, Bool.not_eq_true] at c3
        exact ⟨by omega, by omega, by omega, by omega, fun _ => c3, fun e => absurd e c2⟩
    · rw [if_neg c2] at h
      by_cases c3 : s.a < 1 ∨ 4 < s.a ∨ s.b < 1 ∨ 4 - s.a < s.b
      · rw [if_pos c3] at h; omega
      · exact ⟨by omega, by omega, by omega, by omega, fun e => absurd e c2, fun _ => by omega⟩

/-- The digit of a number. -/
def dg (n : Int) : UInt8 := UInt8.ofNat (48 + n.toNat)
theorem dg_val (n : Int) (h0 : 0 ≤ n) (h1 : n ≤ 9) : ((dg n).toNat : Int) = 48 + n := by
  unfold dg
  rw [UInt8.toNat_ofNat']
  omega

def symbols : List UInt8 := [107, 112, 111, 47, 118, 116, 115, 99]
/-- The text of a stitch. -/
def textS (s : Stitch) : List UInt8 :=
  if checkS s ≠ 0 then []
  else [symbols.getD (s.k - 1).toNat 0] ++ (if s.k = 8 then [dg s.a, dg s.b, if s.f then 70 else 66] else []) ++ (if s.y ≠ 1 then [dg s.y] else [])

/-- The kind of a symbol among the first ones. -/
def kindTo : Nat → UInt8 → Int
  | 0, _ => 0
  | n + 1, c => if symbols.getD n 0 = c then ((n + 1 : Nat) : Int) else kindTo n c
theorem kindTo_rng (c : UInt8) : ∀ n, 0 ≤ kindTo n c ∧ kindTo n c ≤ n
  | 0 => by simp [kindTo]
  | n + 1 => by
    have := kindTo_rng c n
    unfold kindTo
    split <;> omega
def zeroS : Stitch := ⟨0, 0, 0, 0, false⟩
abbrev byte (l : List UInt8) (i : Nat) : Int := ((l.getD i 0).toNat : Int)
/-- The only stitch that can have a text. -/
def guessS (l : List UInt8) : Stitch :=
  let k := kindTo 8 (l.getD 0 0)
  let r := l.drop 1
  if k = 8 ∧ 3 ≤ r.length then
    ⟨k, if (r.drop 3).length = 1 then IntKind.u8.wrap (byte (r.drop 3) 0 - 48) else 1, byte r 0 - 48, byte r 1 - 48, decide (byte r 2 = 70)⟩
  else ⟨k, if r.length = 1 then IntKind.u8.wrap (byte r 0 - 48) else 1, 0, 0, false⟩
/-- The stitch of a text, and the error. -/
def parseS (l : List UInt8) : Stitch × Int := if l = [] ∨ textS (guessS l) ≠ l then (zeroS, 4) else (guessS l, 0)

theorem guess_ca {l : List UInt8} (h1 : kindTo 8 (l.getD 0 0) = 8) (h2 : 3 ≤ (l.drop 1).length) (h3 : ((l.drop 1).drop 3).length = 1) :
    guessS l = ⟨kindTo 8 (l.getD 0 0), IntKind.u8.wrap (byte ((l.drop 1).drop 3) 0 - 48), byte (l.drop 1) 0 - 48, byte (l.drop 1) 1 - 48, decide (byte (l.drop 1) 2 = 70)⟩ := by
  unfold guessS; simp only; rw [if_pos ⟨h1, h2⟩, if_pos h3]
theorem guess_cb {l : List UInt8} (h1 : kindTo 8 (l.getD 0 0) = 8) (h2 : 3 ≤ (l.drop 1).length) (h3 : ¬ ((l.drop 1).drop 3).length = 1) :
    guessS l = ⟨kindTo 8 (l.getD 0 0), 1, byte (l.drop 1) 0 - 48, byte (l.drop 1) 1 - 48, decide (byte (l.drop 1) 2 = 70)⟩ := by
  unfold guessS; simp only; rw [if_pos ⟨h1, h2⟩, if_neg h3]
theorem guess_na {l : List UInt8} (h1 : ¬ (kindTo 8 (l.getD 0 0) = 8 ∧ 3 ≤ (l.drop 1).length)) (h3 : (l.drop 1).length = 1) :
    guessS l = ⟨kindTo 8 (l.getD 0 0), IntKind.u8.wrap (byte (l.drop 1) 0 - 48), 0, 0, false⟩ := by
  unfold guessS; simp only; rw [if_neg h1, if_pos h3]
theorem guess_nb {l : List UInt8} (h1 : ¬ (kindTo 8 (l.getD 0 0) = 8 ∧ 3 ≤ (l.drop 1).length)) (h3 : ¬ (l.drop 1).length = 1) :
    guessS l = ⟨kindTo 8 (l.getD 0 0), 1, 0, 0, false⟩ := by
  unfold guessS; simp only; rw [if_neg h1, if_neg h3]
theorem parse_none {l : List UInt8} (h : l = []) : parseS l = (zeroS, 4) := by rw [parseS, if_pos (.inl h)]
theorem parse_bad {l : List UInt8} {s : Stitch} (hg : guessS l = s) (h : textS s ≠ l) : parseS l = (zeroS, 4) := by rw [parseS, if_pos (.inr (by rw [hg]; exact h))]
theorem parse_good {l : List UInt8} {s : Stitch} (hl : ¬ l = []) (hg : guessS l = s) (h : ¬ textS s ≠ l) : parseS l = (s, 0) := by rw [parseS, if_neg (by rw [hg]; exact fun e => e.elim hl h), hg]

/-- The table of the symbols in memory. -/
def Sym (w : World) : Prop := Cells w ⟨0, 0, none⟩ (symbols.flatMap Enc.b.enc)
theorem Sym.ext {w w' : World} (h : Sym w) (hf : Fr [] w w') : Sym w' := Cells.fr h hf (by simp)
theorem Sym.fr {w w' : World} {S : List Nat} (h : Sym w) (hf : Fr S w w') (hn : 0 ∉ S) : Sym w' := Cells.fr h hf hn
theorem Sym.pos {w : World} (h : Sym w) : 0 < w.heap.size := by
  have := h 0 (.int .u8 107) rfl
  exact block_lt_of_cell this
theorem Sym.at {w : World} (h : Sym w) (i : Nat) (hi : i < 8) : w.cell? ((⟨0, 0, none⟩ : Addr).add (i * 1)) = some (.int .u8 ((symbols.getD i 0).toNat : Int)) := by
  rw [Nat.mul_one]
  refine h i _ ?_
  match i, hi with
  | 0, _ | 1, _ | 2, _ | 3, _ | 4, _ | 5, _ | 6, _ | 7, _ => rfl
theorem sym_get (i : Nat) (hi : i < 8) : (symbols.flatMap Enc.b.enc)[i]? = some (.int .u8 ((symbols.getD i 0).toNat : Int)) := by
  match i, hi with
  | 0, _ | 1, _ | 2, _ | 3, _ | 4, _ | 5, _ | 6, _ | 7, _ => rfl
theorem byte_eq {a b : UInt8} : ((a.toNat : Nat) : Int) = ((b.toNat : Nat) : Int) ↔ a = b := by
  constructor
  · intro h; exact UInt8.toNat_inj.1 (by omega)
  · rintro rfl; rfl
end Go.G14
