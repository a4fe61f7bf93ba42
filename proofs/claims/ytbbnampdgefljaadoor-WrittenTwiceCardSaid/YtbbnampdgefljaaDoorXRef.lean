/- The reading of written rows with a stack of open brackets, as a machine: plain definitions. Conditions: none. -/
import Derived.Test.YtbbnampdgefljaaDoorXMore
import Derived.Test.YtbbnampdgefljaaDoorXNest
set_option linter.unusedVariables false
set_option linter.unusedSimpArgs false
namespace Go.G14
open Go.Lw

def wordS (l : List UInt8) (p : Nat) : List UInt8 := (l.take (wordEnd l p)).drop p
abbrev MSt := List (List Stitch) × List Stitch × Nat × Bool
/-- May a repeat end here? -/
def ends (l : List UInt8) (b : List (List Stitch)) (p : Nat) : Prop := l.getD p 0 = 93 ∧ b ≠ [] ∧ p + 1 < l.length ∧ l.getD (p + 1) 0 = 120
instance (l : List UInt8) (b : List (List Stitch)) (p : Nat) : Decidable (ends l b p) := by unfold ends; infer_instance
/-- One step: the rows of the open brackets below, the row on top, the place, and whether an item must follow. -/
def stepS (l : List UInt8) (b : List (List Stitch)) (t : List Stitch) (p : Nat) (it : Bool) : MSt ⊕ (List Stitch × Int) :=
  if it = true then
    if p < l.length then
      if l.getD p 0 = 91 then .inl (b ++ [t], [], p + 1, true)
      else if (parseS (wordS l p)).2 = 0 then .inl (b, (t ++ [(parseS (wordS l p)).1]).take 17, wordEnd l p, false) else .inr ([], 4)
    else .inr ([], 4)
  else if p < l.length then
    if l.getD p 0 = 32 then .inl (b, t, p + 1, true)
    else if ends l b p then
      if numberS (wordS l (p + 2)) 16 = 0 then .inr ([], 4)
      else .inl (b.dropLast, (b.getLast?.getD [] ++ timesS t (numberS (wordS l (p + 2)) 16).toNat).take 17, wordEnd l (p + 2), false)
    else .inr ([], 4)
  else if b ≠ [] then .inr ([], 4) else if 16 < t.length then .inr ([], 3) else .inr (t, 0)
inductive Mach (l : List UInt8) : List (List Stitch) → List Stitch → Nat → Bool → List Stitch × Int → Prop
  | done {b t p it R} (h : stepS l b t p it = .inr R) : Mach l b t p it R
  | next {b t p it b' t' p' it' R} (h : stepS l b t p it = .inl (b', t', p', it')) (m : Mach l b' t' p' it' R) : Mach l b t p it R
theorem Mach.det {l : List UInt8} {b : List (List Stitch)} {t : List Stitch} {p : Nat} {it : Bool} {R R' : List Stitch × Int} (h : Mach l b t p it R) (h' : Mach l b t p it R') : R = R' := by
  induction h with
  | done h =>
    cases h' with
    | done h2 => rw [h] at h2; cases h2; rfl
    | next h2 => rw [h] at h2; cases h2
  | next h m ih =>
    cases h' with
    | done h2 => rw [h] at h2; cases h2
    | next h2 m2 => rw [h] at h2; cases h2; exact ih m2
section
variable {l : List UInt8} {b : List (List Stitch)} {s t : List Stitch} {p : Nat} {R : List Stitch × Int}
theorem m_fin4 (hp : ¬ p < l.length) (hb : b ≠ []) : Mach l b t p false ([], 4) := .done (by rw [stepS, if_neg (by simp), if_neg hp, if_pos hb])
theorem m_fin3 (hp : ¬ p < l.length) (ht : 16 < t.length) : Mach l [] t p false ([], 3) := .done (by rw [stepS, if_neg (by simp), if_neg hp, if_neg (by simp), if_pos ht])
theorem m_fin0 (hp : ¬ p < l.length) (ht : ¬ 16 < t.length) : Mach l [] t p false (t, 0) := .done (by rw [stepS, if_neg (by simp), if_neg hp, if_neg (by simp), if_neg ht])
theorem m_space (hp : p < l.length) (hc : l.getD p 0 = 32) (m : Mach l b t (p + 1) true R) : Mach l b t p false R := .next (by rw [stepS, if_neg (by simp), if_pos hp, if_pos hc]) m
theorem m_bad (hp : p < l.length) (hc : l.getD p 0 ≠ 32) (he : ¬ ends l b p) : Mach l b t p false ([], 4) := .done (by rw [stepS, if_neg (by simp), if_pos hp, if_neg hc, if_neg he])
theorem ends_ns (he : ends l b p) : l.getD p 0 ≠ 32 := by rw [he.1]; decide
theorem m_num (he : ends l b p) (hn : numberS (wordS l (p + 2)) 16 = 0) : Mach l b t p false ([], 4) :=
  .done (by rw [stepS, if_neg (by simp), if_pos (by have := he.2.2.1; omega), if_neg (ends_ns he), if_pos he, if_pos hn])
theorem m_close (he : ends l (b ++ [s]) p) (hn : numberS (wordS l (p + 2)) 16 ≠ 0) (m : Mach l b ((s ++ timesS t (numberS (wordS l (p + 2)) 16).toNat).take 17) (wordEnd l (p + 2)) false R) : Mach l (b ++ [s]) t p false R :=
  .next (by rw [stepS, if_neg (by simp), if_pos (by have := he.2.2.1; omega), if_neg (ends_ns he), if_pos he, if_neg hn, List.dropLast_concat, List.getLast?_concat]; rfl) m
theorem m_end (hp : ¬ p < l.length) : Mach l b t p true ([], 4) := .done (by rw [stepS, if_pos rfl, if_neg hp])
theorem m_open (hp : p < l.length) (hc : l.getD p 0 = 91) (m : Mach l (b ++ [t]) [] (p + 1) true R) : Mach l b t p true R := .next (by rw [stepS, if_pos rfl, if_pos hp, if_pos hc]) m
theorem m_leaf4 (hp : p < l.length) (hc : l.getD p 0 ≠ 91) (hx : (parseS (wordS l p)).2 ≠ 0) : Mach l b t p true ([], 4) := .done (by rw [stepS, if_pos rfl, if_pos hp, if_neg hc, if_neg hx])
theorem m_leaf (hp : p < l.length) (hc : l.getD p 0 ≠ 91) (hx : (parseS (wordS l p)).2 = 0) (m : Mach l b ((t ++ [(parseS (wordS l p)).1]).take 17) (wordEnd l p) false R) : Mach l b t p true R := .next (by rw [stepS, if_pos rfl, if_pos hp, if_neg hc, if_pos hx]) m
end
/-- What the walk of the machine holds at its head. -/
structure RSt where
  ps : List (SV × List Stitch)
  u : SV
  t : List Stitch
  p : Nat
  it : Bool
  g : Nat
  c : Nat
theorem Own.lens {α : Type} {E : Enc α} {T : TypeId} {base : Nat} {w : World} {u : SV} {r : List α} (h : Own E T base w (slv u) r) : u.2.1 = r.length ∧ r.length ≤ u.2.2 := by
  obtain ⟨A, c, e, hc⟩ := h.sl.form
  unfold slv at e
  injection e with e1 e2 e3
  exact ⟨e2, by omega⟩
theorem Own.at_ {α : Type} {E : Enc α} {T : TypeId} {base : Nat} {w : World} {v : Value} {r : List α} (h : Own E T base w v r) (hr : r ≠ []) : ∃ g c, v = .slice (some ⟨g, 0, none⟩) r.length c ∧ base ≤ g ∧ r.length ≤ c ∧ g < w.heap.size := by
  rcases h with ⟨_, rfl⟩ | ⟨g, c, cur, e, hb, hg, h1, _⟩
  · exact absurd rfl hr
  · exact ⟨g, c, e, hb, h1, (Array.getElem?_eq_some_iff.1 hg).1⟩
theorem Ins.app {α : Type} {E : Enc α} {T : TypeId} {base : Nat} {w w' : World} {X : List Nat} {ps : List (SV × List α)} {u : SV} {r r' : List α} {v : Value} (h : Ins E T base w X (ps ++ [(u, r)])) (ho : Own E T base w' v r') (hq : Fr (blks (slv u)) w w')
    (hx : v = slv u ∨ blks v = blks (slv u) ∨ blks v = [w.heap.size]) (hX : ∀ k ∈ X, k < w.heap.size) : ∃ u', v = slv u' ∧ Ins E T base w' X (ps ++ [(u', r')]) := by
  obtain ⟨A, c, rfl, _⟩ := ho.sl.form
  refine ⟨(A, r'.length, c), rfl, h.upd hq ho (fun k hk => ?_) hX⟩
  have hk' : k ∈ blks (.slice A r'.length c) := hk
  rcases hx with e | e | e
  · rw [e] at hk'; exact .inl hk'
  · rw [e] at hk'; exact .inl hk'
  · rw [e] at hk'; simp at hk'; right; omega
section
variable {β : Type} {T : TypeId} {base : Nat} {w : World} {A : Option Addr} {n m c : Nat} {qs : List (SV × β)} {x : SV × β}
theorem top_get (hm : m = qs.length) : ((qs ++ [x]).map Prod.fst)[m]? = some x.1 := by subst hm; simp
theorem Own.pop (h : Own Enc.sl T base w (.slice A n c) ((qs ++ [x]).map Prod.fst)) (hm : m = qs.length) : Own Enc.sl T base w (.slice A m c) (qs.map Prod.fst) := by
  subst hm
  obtain ⟨_, c', e, h2⟩ := h.sl.form
  have hc : (qs ++ [x]).length ≤ c := by cases e; simpa using h2
  have h3 := h.take rfl (m := qs.length) (by simp) (Nat.le_refl _) (by simp at hc; omega)
  rw [List.map_append, List.take_left' (by simp)] at h3
  exact h3
theorem Own.reTop {z : SV} (h : Own Enc.sl T base w (.slice A n c) (((qs ++ [x]).map Prod.fst).set m z)) (hm : m = qs.length) (r : β) : Own Enc.sl T base w (.slice A n c) ((qs ++ [(z, r)]).map Prod.fst) := by
  subst hm
  rw [List.map_append, List.set_append_right _ _ (by simp)] at h
  simpa using h
theorem Own.capO (h : Own Enc.sl T base w (.slice A n c) ((qs ++ [x]).map Prod.fst)) : qs.length + 1 ≤ c ∧ n = qs.length + 1 := by
  obtain ⟨_, c', e, h2⟩ := h.sl.form
  cases e
  simpa using h2
end
theorem Ins.grow {α : Type} {E : Enc α} {T : TypeId} {base g g' n c m c' : Nat} {w w' : World} {ps : List (SV × List α)} (h : Ins E T base w [g] ps) (hq : Fr (blks (.slice (some ⟨g, 0, none⟩) n c)) w w')
    (hx : Value.slice (some ⟨g', 0, none⟩) m c' = .slice (some ⟨g, 0, none⟩) n c ∨ blks (.slice (some ⟨g', 0, none⟩) m c') = blks (.slice (some ⟨g, 0, none⟩) n c) ∨ blks (.slice (some ⟨g', 0, none⟩) m c') = [w.heap.size]) : Ins E T base w' [g'] ps := by
  refine (h.newX (Y := [g']) fun k hk => ?_).fr hq fun k hk q hq2 hk2 => h.off q hq2 k hk2 hk
  simp at hk; subst hk
  rcases hx with e | e | e
  · cases e; exact .inl (by simp)
  · simp [blks] at e; exact .inl (by simp [e])
  · simp [blks] at e; exact .inr (by omega)
theorem number_rng (l : List UInt8) : 0 ≤ numberS l 16 ∧ numberS l 16 ≤ 16 := by
  unfold numberS
  split
  · omega
  · split
    · omega
    · split <;> omega
theorem word_pos {l : List UInt8} {p : Nat} (hp : p ≤ l.length) (h : (parseS (wordS l p)).2 = 0) : p < wordEnd l p := by
  have := wordEnd_rng hp
  rcases Nat.lt_or_ge p (wordEnd l p) with c | c
  · exact c
  · rw [wordS, show wordEnd l p = p by omega, show (l.take p).drop p = [] by simp, parse_nil] at h; omega
theorem rep_cut {s t : List Stitch} {k n : Nat} (hk : k ≤ n) (h : ¬ (k < n ∧ (s ++ timesS t k).length < 17)) : (s ++ timesS t n).take 17 = (s ++ timesS t k).take 17 := by
  rcases Nat.lt_or_ge k n with c | c
  · have hl : 17 ≤ (s ++ timesS t k).length := by omega
    have e : timesS t n = timesS t k ++ timesS t (n - k) := by
      unfold timesS
      rw [← List.flatten_append, List.replicate_append_replicate, show k + (n - k) = n by omega]
    rw [e, ← List.append_assoc, List.take_append_of_le_length hl]
  · rw [show k = n by omega]
theorem expand_err {l : List UInt8} (h : (expandS l).2 ≠ 0) : (expandS l).1 = [] := by
  revert h
  unfold expandS
  split
  · intro _; rfl
  · split
    · intro _; rfl
    · split
      · intro _; rfl
      · intro h; exact absurd rfl h
end Go.G14
