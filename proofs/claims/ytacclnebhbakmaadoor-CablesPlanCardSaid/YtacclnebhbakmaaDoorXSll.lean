/- Slices of slices, for a walk by live slots: read as lists of lists; of the call's own. Conditions: none; each law is over any program. -/
import Derived.Test.YtacclnebhbakmaaDoorXMake
set_option linter.unusedVariables false
set_option linter.unusedSimpArgs false
namespace Go.Lw
open Go.RowKit

/-- A slice of slices reads as a list of lists. -/
def Sll {α : Type} (E : Enc α) (w : World) (v : Value) (rows : List (List α)) : Prop :=
  ∃ hs : List SV, Sl Enc.sl w v hs ∧ hs.length = rows.length ∧ ∀ (i : Nat) (p : SV) (r : List α), hs[i]? = some p → rows[i]? = some r → Sl E w (slv p) r
theorem Sll.ext {α : Type} {E : Enc α} {w w' : World} {v : Value} {rows : List (List α)} (h : Sll E w v rows) (hf : Fr [] w w') : Sll E w' v rows := by
  obtain ⟨hs, h1, h2, h3⟩ := h
  exact ⟨hs, h1.ext hf, h2, fun i p r hp hr => (h3 i p r hp hr).ext hf⟩
theorem Sll.form {α : Type} {E : Enc α} {w : World} {v : Value} {rows : List (List α)} (h : Sll E w v rows) : ∃ A c, v = .slice A rows.length c ∧ rows.length ≤ c ∧ c ≤ maxLen := by
  obtain ⟨hs, h1, h2, h3⟩ := h
  obtain ⟨A, c, e, h4, h5, _⟩ := h1
  exact ⟨A, c, by rw [e, h2], by omega, h5⟩
/-- A row of it: its header lies where it is, and reads as the list. -/
theorem Sll.row {α : Type} {E : Enc α} {w : World} {A : Option Addr} {n c : Nat} {rows : List (List α)} {i : Nat} {r : List α} (h : Sll E w (.slice A n c) rows) (hr : rows[i]? = some r) :
    ∃ RA rc ad, A = some ad ∧ Cells w (ad.add (i * 1)) [.slice RA r.length rc] ∧ Sl E w (.slice RA r.length rc) r ∧ r.length ≤ rc ∧ rc ≤ maxLen := by
  obtain ⟨hs, h1, h2, h3⟩ := h
  have hi : i < hs.length := by rw [h2]; exact (List.getElem?_eq_some_iff.1 hr).1
  have hp := List.getElem?_eq_getElem hi
  have hs1 := h3 i _ r hp hr
  obtain ⟨A', c', e, _, _, hA⟩ := h1
  cases e
  obtain ⟨ad, rfl, hc⟩ := hA i _ hp
  obtain ⟨RA, rc, e, h5, h6, _⟩ := hs1
  have hl : hs[i].2.1 = r.length ∧ hs[i].1 = RA ∧ hs[i].2.2 = rc := by
    simp only [slv, Value.slice.injEq] at e; exact ⟨e.2.1, e.1, e.2.2⟩
  have hsl := h3 i _ r hp hr
  refine ⟨RA, rc, ad, rfl, ?_, ?_, h5, h6⟩
  · have hc' : Cells w (ad.add (i * 1)) [.slice hs[i].1 hs[i].2.1 hs[i].2.2] := hc
    rw [hl.1, hl.2.1, hl.2.2] at hc'; exact hc'
  · rw [e] at hsl; exact hsl
/-- Rows in memory: the outer slice is the call's own, and so are the rows, apart from it. -/
structure Rws {α : Type} (E : Enc α) (R T : TypeId) (base : Nat) (w : World) (OV : Value) (ps : List (SV × List α)) : Prop where
  out : Own Enc.sl R base w OV (ps.map Prod.fst)
  ins : ∀ p ∈ ps, Own E T base w (slv p.1) p.2
  off : ∀ p ∈ ps, ∀ k ∈ blks (slv p.1), k ∉ blks OV
section
variable {α : Type} {E : Enc α} {R T : TypeId} {base : Nat} {w w' : World} {OV OV' : Value} {ps : List (SV × List α)}
theorem Rws.fr {S : List Nat} (h : Rws E R T base w OV ps) (hq : Fr S w w') (hS : ∀ k ∈ S, k < base) : Rws E R T base w' OV ps :=
  ⟨h.out.fr hq (fun k hk hb => by have := (h.out.blk k hb).1; have := hS k hk; omega), fun p hp => (h.ins p hp).fr hq (fun k hk hb => by have := ((h.ins p hp).blk k hb).1; have := hS k hk; omega), h.off⟩
theorem Rws.ext (h : Rws E R T base w OV ps) (hq : Fr [] w w') : Rws E R T base w' OV ps := h.fr hq (by simp)
theorem Rws.nil (w : World) : Rws E R T base w (.slice none 0 0) [] := ⟨Own.nil w, by simp, by simp⟩
theorem Rws.low {b' : Nat} (h : Rws E R T base w OV ps) (hb : b' ≤ base) : Rws E R T b' w OV ps := ⟨h.out.low hb, fun p hp => (h.ins p hp).low hb, h.off⟩
theorem Rws.push {u : SV} {r : List α} (h : Rws E R T base w OV ps) (hu : Own E T base w (slv u) r) (hd : ∀ k ∈ blks (slv u), k ∉ blks OV) (ho : Own Enc.sl R base w' OV' (ps.map Prod.fst ++ [u])) (hq : Fr (blks OV) w w')
    (hx : OV' = OV ∨ blks OV' = blks OV ∨ blks OV' = [w.heap.size]) : Rws E R T base w' OV' (ps ++ [(u, r)]) := by
  have hall : ∀ p ∈ ps ++ [(u, r)], Own E T base w (slv p.1) p.2 ∧ ∀ k ∈ blks (slv p.1), k ∉ blks OV := by
    intro p hp
    rcases List.mem_append.1 hp with hp | hp
    · exact ⟨h.ins p hp, h.off p hp⟩
    · simp at hp; subst hp; exact ⟨hu, hd⟩
  refine ⟨by simpa using ho, fun p hp => (hall p hp).1.fr hq (fun k hk hb => (hall p hp).2 k hb hk), fun p hp k hk => ?_⟩
  rcases hx with e | e | e
  · rw [e]; exact (hall p hp).2 k hk
  · rw [e]; exact (hall p hp).2 k hk
  · rw [e]; have := ((hall p hp).1.blk k hk).2; simp; omega
theorem Rws.sll (h : Rws E R T base w OV ps) : Sll E w OV (ps.map Prod.snd) := by
  refine ⟨ps.map Prod.fst, h.out.sl, by simp, fun i p x hp hx => ?_⟩
  rw [List.getElem?_map] at hp hx
  obtain ⟨q, hq, rfl⟩ := Option.map_eq_some_iff.1 hp
  rw [hq] at hx
  simp at hx; subst hx
  exact (h.ins q (List.mem_of_getElem? hq)).sl
/-- All blocks of such rows are below n. -/
def RAll (n : Nat) (OV : Value) (ps : List (SV × List α)) : Prop := (∀ k ∈ blks OV, k < n) ∧ ∀ p ∈ ps, ∀ k ∈ blks (slv p.1), k < n
theorem Rws.bnd (h : Rws E R T base w OV ps) : RAll w.heap.size OV ps := ⟨fun k hk => (h.out.blk k hk).2, fun p hp k hk => ((h.ins p hp).blk k hk).2⟩
theorem Rws.up {S : List Nat} {n : Nat} (h : Rws E R T base w OV ps) (hq : Fr S w w') (hA : RAll n OV ps) (hS : ∀ k ∈ S, n ≤ k) : Rws E R T base w' OV ps :=
  ⟨h.out.fr hq (fun k hk hb => by have := hA.1 k hb; have := hS k hk; omega), fun p hp => (h.ins p hp).fr hq (fun k hk hb => by have := hA.2 p hp k hb; have := hS k hk; omega), h.off⟩
end
theorem blks_add (A : Option Addr) (m n c n' c' : Nat) : blks (.slice (A.map (·.add m)) n c) = blks (.slice A n' c') := by cases A <;> simp [blks, block_add]
theorem blks_any (A : Option Addr) (n c n' c' : Nat) : blks (.slice A n c) = blks (.slice A n' c') := by cases A <;> rfl
end Go.Lw
namespace Go.Lw
section
variable {α : Type} {E : Enc α} {R T : TypeId} {base : Nat} {w w' : World} {OV : Value} {ps : List (SV × List α)}
theorem Rws.rev {v : Value} (h : Rws E R T base w v ps) (ho : Own Enc.sl R base w' v (ps.map Prod.fst).reverse) (hq : Fr (blks v) w w') : Rws E R T base w' v ps.reverse :=
  ⟨by rw [List.map_reverse]; exact ho, fun p hp => (h.ins p (List.mem_reverse.1 hp)).fr hq (fun k hk hb => h.off p (List.mem_reverse.1 hp) k hb hk), fun p hp => h.off p (List.mem_reverse.1 hp)⟩
theorem Rws.clip {A : Option Addr} {n c : Nat} (h : Rws E R T base w (.slice A n c) ps) : Rws E R T base w (.slice A n n) ps := by
  have hn : n = ps.length ∧ n ≤ c := by
    obtain ⟨A', c', e, h1⟩ := h.out.sl.form
    cases e; simp at h1 ⊢; exact h1
  refine ⟨?_, h.ins, fun p hp k hk => by rw [blks_any A n n n c]; exact h.off p hp k hk⟩
  have := h.out.take rfl (m := n) (c' := n) (by simp; omega) hn.2 (Nat.le_refl _)
  rwa [List.take_of_length_le (by simp; omega)] at this
end
end Go.Lw
