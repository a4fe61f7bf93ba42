/- Rows out of plain data: which stitches fit. Conditions: none. -/
import Derived.Test.YtbbnampdgefljaaDoorXLoads
set_option linter.unusedVariables false
set_option linter.unusedSimpArgs false
namespace Go.G14
open Go.Lw

theorem Sl.part {α : Type} {E : Enc α} {w : World} {A : Option Addr} {n c : Nat} {l : List α} {i m : Nat} (h : Sl E w (.slice A n c) l) (hm : i + m ≤ l.length) : Sl E w (.slice (if c = i then A else A.map (·.add (i * E.sz))) (i + m - i) (c - i)) ((l.drop i).take m) := by
  obtain ⟨hn, hc, hM, _⟩ := Sl.open_ h
  have h1 := h.drop rfl (m := i) (by omega) (B := if c = i then A else A.map (·.add (i * E.sz))) (c' := c - i) (by omega) (by omega) (fun hlt => by rw [if_neg (by omega)])
  have h2 := h1.take rfl (m := m) (by simp; omega) (B := if c = i then A else A.map (·.add (i * E.sz))) (c' := c - i) (by omega) (by omega) (fun _ => rfl)
  rw [show i + m - i = m by omega]
  exact h2
def pairsL : List (Int × Int) := [(1, 1), (1, 2), (2, 1), (2, 2), (1, 3), (3, 1)]
def encPr : Enc (Int × Int) := ⟨fun p => [.int .i64 p.1, .int .i64 p.2], 2, fun _ => rfl, fun _ u h => by simp at h; rcases h with rfl | rfl <;> rfl, by decide⟩
def kOfS (kd y a : Int) (f : Bool) : Stitch :=
  if 1 + kd % 8 = 8 then ⟨1 + kd % 8, 1 + y % 6, (pairsL.getD (a % 6).toNat (0, 0)).1, (pairsL.getD (a % 6).toNat (0, 0)).2, f⟩ else ⟨1 + kd % 8, 1 + y % 6, 0, 0, false⟩
theorem kOf7 (a : Int) (f : Bool) (h : 0 ≤ a) : (kOfS 7 0 a f).k = 8 ∧ (kOfS 7 0 a f).y = 1 ∧ 1 ≤ (kOfS 7 0 a f).a ∧ 1 ≤ (kOfS 7 0 a f).b ∧ (kOfS 7 0 a f).a + (kOfS 7 0 a f).b ≤ 4 := by
  have h6 : (a % 6).toNat < 6 := by omega
  have key : ∀ n, n < 6 → 1 ≤ (pairsL.getD n (0, 0)).1 ∧ 1 ≤ (pairsL.getD n (0, 0)).2 ∧ (pairsL.getD n (0, 0)).1 + (pairsL.getD n (0, 0)).2 ≤ 4 := by decide
  have := key _ h6
  rw [kOfS, if_pos (by decide)]
  exact ⟨by simp, by simp, this.1, this.2.1, this.2.2⟩
/-- A stitch that fits behind i slots, where ny slots have been made. -/
def Fit (ls : List Int) (i ny : Nat) (s : Stitch) : Prop :=
  checkS s = 0 ∧ i + (needsS s).toNat ≤ ls.length ∧ (needsS s = 0 → ny + (ls.length - i) < 8) ∧ (loadsS s ((ls.drop i).take (needsS s).toNat)).2 = 0
theorem part_few {ls : List Int} {i m : Nat} (h : ls.all few = true) : ((ls.drop i).take m).all few = true := by
  rw [List.all_eq_true] at h ⊢
  exact fun x hx => h x (List.mem_of_mem_drop (List.mem_of_mem_take hx))
theorem part_length {ls : List Int} {i : Nat} {s : Stitch} (h : i + (needsS s).toNat ≤ ls.length) : (((ls.drop i).take (needsS s).toNat).length : Int) = needsS s := by
  have := needs_rng s
  simp; omega
theorem part_get {ls : List Int} {i m j : Nat} (h : j < m) : ((ls.drop i).take m)[j]? = ls[i + j]? := by
  rw [List.getElem?_take, if_pos h, List.getElem?_drop]
variable {ls : List Int} {i ny : Nat} {s : Stitch}
theorem fit_over (hc : checkS s = 0) (hk : s.k = 3) (hi : i ≤ ls.length) (hf : ls.all few = true) (h8 : ny + (ls.length - i) < 8) : Fit ls i ny s := by
  have hn := needs_0 (s := s) (.inr hk)
  have hle : i + (needsS s).toNat ≤ ls.length := by omega
  exact ⟨hc, hle, fun _ => h8, by rw [loads_o hc (part_length hle) (part_few hf) (by omega) (by omega) (by omega)]⟩
theorem fit_plain (hc : checkS s = 0) (hk : s.k = 1 ∨ s.k = 2) (hi : i < ls.length) (hf : ls.all few = true) : Fit ls i ny s := by
  have hn := needs_1 hc (by omega) (by omega) (by omega)
  have hle : i + (needsS s).toNat ≤ ls.length := by omega
  exact ⟨hc, hle, fun e => by omega, by rw [loads_o hc (part_length hle) (part_few hf) (by omega) (by omega) (by omega)]⟩
theorem fit_two (hc : checkS s = 0) (hk : s.k = 4 ∨ s.k = 5) (hi : i + 1 < ls.length) (hf : ls.all few = true) {x y : Int} (hx : ls[i]? = some x) (hy : ls[i + 1]? = some y) (h4 : x + y ≤ 4) : Fit ls i ny s := by
  have hn := needs_2 hc hk
  have hle : i + (needsS s).toNat ≤ ls.length := by omega
  exact ⟨hc, hle, fun e => by omega, by rw [loads_2 hc (part_length hle) (part_few hf) hk (by rw [part_get (by omega)]; exact hx) (by rw [part_get (by omega)]; exact hy) (by omega)]⟩
theorem fit_tuck (hc : checkS s = 0) (hk : s.k = 6) (hi : i < ls.length) (hf : ls.all few = true) {x : Int} (hx : ls[i]? = some x) (h3 : x < 3) : Fit ls i ny s := by
  have hn := needs_1 hc (by omega) (by omega) (by omega)
  have hle : i + (needsS s).toNat ≤ ls.length := by omega
  exact ⟨hc, hle, fun e => by omega, by rw [loads_6 hc (part_length hle) (part_few hf) hk (by rw [part_get (by omega)]; exact hx) (by omega)]⟩
theorem fit_slip (hc : checkS s = 0) (hk : s.k = 7) (hi : i < ls.length) (hf : ls.all few = true) : Fit ls i ny s := by
  have hn := needs_1 hc (by omega) (by omega) (by omega)
  have hle : i + (needsS s).toNat ≤ ls.length := by omega
  obtain ⟨x, hx⟩ : ∃ x, ls[i]? = some x := ⟨_, List.getElem?_eq_getElem hi⟩
  exact ⟨hc, hle, fun e => by omega, by rw [loads_7 hc (part_length hle) (part_few hf) hk (by rw [part_get (by omega)]; exact hx)]⟩
theorem fit_cable (hc : checkS s = 0) (hk : s.k = 8) (hf : ls.all few = true) (hle : (i : Int) + (s.a + s.b) ≤ ls.length) : Fit ls i ny s := by
  have hn := needs_8 hc hk
  have hr := (check_rng hc).2.2.2.2.2 hk
  have hle : i + (needsS s).toNat ≤ ls.length := by omega
  exact ⟨hc, hle, fun e => by omega, by rw [loads_o hc (part_length hle) (part_few hf) (by omega) (by omega) (by omega)]⟩
theorem fit_step (h : Fit ls i ny s) (hi : i ≤ ls.length) (h8 : ny + (ls.length - i) ≤ 8) : 1 ≤ makesS s ∧ ny + (makesS s).toNat + (ls.length - (i + (needsS s).toNat)) ≤ 8 ∧ (needsS s = 0 → makesS s = 1) := by
  obtain ⟨hc, h1, h2, h3⟩ := h
  have hr := check_rng hc
  by_cases h8k : s.k = 8
  · have := hr.2.2.2.2.2 h8k
    rw [makes_8 hc h8k, needs_8 hc h8k] at *
    omega
  · rw [makes_1 hc h8k]
    by_cases h3k : s.k = 3
    · rw [needs_0 (.inr h3k)] at *
      have := h2 rfl
      simp; omega
    · have : 1 ≤ needsS s := by
        by_cases h4 : s.k = 4 ∨ s.k = 5
        · rw [needs_2 hc h4]; omega
        · rw [needs_1 hc h3k h8k h4]; omega
      omega
theorem check_plain {k y : Int} (hk : 1 ≤ k ∧ k ≤ 7) (hy : 1 ≤ y ∧ y ≤ 6) : checkS ⟨k, y, 0, 0, false⟩ = 0 :=
  check_zero (by show 0 ≤ k; omega) (by show 0 ≤ y; omega) (by show ¬ (y = 0 ∨ 6 < y ∨ k = 0 ∨ 8 < k); omega) (.inr ⟨by show k ≠ 8; omega, rfl, rfl, rfl⟩)
theorem check_cable {y a b : Int} {f : Bool} (hy : 1 ≤ y ∧ y ≤ 6) (ha : 1 ≤ a) (hb : 1 ≤ b) (hab : a + b ≤ 4) : checkS ⟨8, y, a, b, f⟩ = 0 :=
  check_zero (by show (0 : Int) ≤ 8; omega) (by show 0 ≤ y; omega) (by show ¬ (y = 0 ∨ 6 < y ∨ (8 : Int) = 0 ∨ (8 : Int) < 8); omega) (.inl ⟨rfl, ha, hb, hab⟩)
theorem fitP {k y : Int} (hk : k = 1 ∨ k = 2) (hy : 1 ≤ y ∧ y ≤ 6) (hi : i < ls.length) (hf : ls.all few = true) : Fit ls i ny ⟨k, y, 0, 0, false⟩ := fit_plain (check_plain (by omega) hy) hk hi hf
theorem fitO {k y : Int} (hk : k = 3) (hy : 1 ≤ y ∧ y ≤ 6) (hi : i ≤ ls.length) (hf : ls.all few = true) (h8 : ny + (ls.length - i) < 8) : Fit ls i ny ⟨k, y, 0, 0, false⟩ := fit_over (check_plain (by omega) hy) hk hi hf h8
theorem fitT {k y : Int} (hk : k = 4 ∨ k = 5) (hy : 1 ≤ y ∧ y ≤ 6) (hi : i + 1 < ls.length) (hf : ls.all few = true) {p q : Int} (hx : ls[i]? = some p) (hy' : ls[i + 1]? = some q) (h4 : p + q ≤ 4) : Fit ls i ny ⟨k, y, 0, 0, false⟩ := fit_two (check_plain (by omega) hy) hk hi hf hx hy' h4
theorem fitU {k y : Int} (hk : k = 6) (hy : 1 ≤ y ∧ y ≤ 6) (hi : i < ls.length) (hf : ls.all few = true) {p : Int} (hx : ls[i]? = some p) (h3 : p < 3) : Fit ls i ny ⟨k, y, 0, 0, false⟩ := fit_tuck (check_plain (by omega) hy) hk hi hf hx h3
theorem fitS {k y : Int} (hk : k = 7) (hy : 1 ≤ y ∧ y ≤ 6) (hi : i < ls.length) (hf : ls.all few = true) : Fit ls i ny ⟨k, y, 0, 0, false⟩ := fit_slip (check_plain (by omega) hy) hk hi hf
theorem fitC {k y a b : Int} {f : Bool} (hk : k = 8) (hy : 1 ≤ y ∧ y ≤ 6) (ha : 1 ≤ a) (hb : 1 ≤ b) (hab : a + b ≤ 4) (hf : ls.all few = true) (hle : (i : Int) + (a + b) ≤ ls.length) : Fit ls i ny ⟨k, y, a, b, f⟩ := by
  subst hk; exact fit_cable (check_cable hy ha hb hab) rfl hf hle
theorem all_app {l m : List Int} (h1 : l.all few = true) (h2 : m.all few = true) : (l ++ m).all few = true := by simp [h1, h2]
structure RowSt where
  i : Nat
  xs : List Stitch
  ys : List Int
  X : Value
  Y : Value
/-- Rows in memory: the outer slice is the call's own, and so are the rows, apart from it. -/
structure RowsO (R T : TypeId) (base : Nat) (w : World) (OV : Value) (ps : List (SV × List Stitch)) : Prop where
  out : Own Enc.sl R base w OV (ps.map Prod.fst)
  ins : ∀ p ∈ ps, Own encSt T base w (slv p.1) p.2
  off : ∀ p ∈ ps, ∀ k ∈ blks (slv p.1), k ∉ blks OV
section
variable {R T : TypeId} {base : Nat} {w w' : World} {OV OV' : Value} {ps : List (SV × List Stitch)}
theorem RowsO.fr {S : List Nat} (h : RowsO R T base w OV ps) (hq : Fr S w w') (hS : ∀ k ∈ S, k < base) : RowsO R T base w' OV ps :=
  ⟨h.out.fr hq (fun k hk hb => by have := (h.out.blk k hb).1; have := hS k hk; omega), fun p hp => (h.ins p hp).fr hq (fun k hk hb => by have := ((h.ins p hp).blk k hb).1; have := hS k hk; omega), h.off⟩
theorem RowsO.ext (h : RowsO R T base w OV ps) (hq : Fr [] w w') : RowsO R T base w' OV ps := h.fr hq (by simp)
theorem RowsO.nil (w : World) : RowsO R T base w (.slice none 0 0) [] := ⟨Own.nil w, by simp, by simp⟩
theorem RowsO.push {u : SV} {r : List Stitch} (h : RowsO R T base w OV ps) (hu : Own encSt T base w (slv u) r) (hd : ∀ k ∈ blks (slv u), k ∉ blks OV) (ho : Own Enc.sl R base w' OV' (ps.map Prod.fst ++ [u])) (hq : Fr (blks OV) w w')
    (hx : OV' = OV ∨ blks OV' = blks OV ∨ blks OV' = [w.heap.size]) : RowsO R T base w' OV' (ps ++ [(u, r)]) := by
  have hall : ∀ p ∈ ps ++ [(u, r)], Own encSt T base w (slv p.1) p.2 ∧ ∀ k ∈ blks (slv p.1), k ∉ blks OV := by
    intro p hp
    rcases List.mem_append.1 hp with hp | hp
    · exact ⟨h.ins p hp, h.off p hp⟩
    · simp at hp; subst hp; exact ⟨hu, hd⟩
  refine ⟨by simpa using ho, fun p hp => (hall p hp).1.fr hq (fun k hk hb => (hall p hp).2 k hb hk), fun p hp k hk => ?_⟩
  rcases hx with e | e | e
  · rw [e]; exact (hall p hp).2 k hk
  · rw [e]; exact (hall p hp).2 k hk
  · rw [e]; have := ((hall p hp).1.blk k hk).2; simp; omega
theorem RowsO.sl2 (h : RowsO R T base w OV ps) : Sl2 w OV (ps.map Prod.snd) := by
  refine ⟨ps.map Prod.fst, h.out.sl, by simp, fun i p x hp hx => ?_⟩
  rw [List.getElem?_map] at hp hx
  obtain ⟨q, hq, rfl⟩ := Option.map_eq_some_iff.1 hp
  rw [hq] at hx
  simp at hx; subst hx
  exact (h.ins q (List.mem_of_getElem? hq)).sl
end
structure OfSt where
  i : Nat
  L : Value
  ls : List Int
  OV : Value
  ps : List (SV × List Stitch)
def goodRow (r : List Stitch) : Prop := r ≠ [] ∧ r.all okB = true ∧ r.length ≤ 8
theorem rep_few (n : Nat) : (List.replicate n (1 : Int)).all few = true := by simp [few]
end Go.G14
