/- Range over a function whose loop variables are no blocks, in short forms. Conditions: none. -/
import Derived.Test.YtacclnebhbakmaaDoorXSJ
set_option linter.unusedVariables false
set_option linter.unusedSimpArgs false
namespace Go.Lw
open Go.RowKit
section
variable {P : Program} {n N : Nat} {L : List (Nat × Value)} {ds : List Nat} {w w' : World} {Q : Exit → Act → World → Prop}
/-- Behind the assignment of a loop's variables. -/
def AsU (n : Nat) (W : World) (Lx : List (Nat × Value)) : Act → World → Prop := fun a' W' => AgM [] a' n Lx ∧ W' = W
theorem asU {Lx : List (Nat × Value)} (hs : Sub Lx L) {Q' : Exit → Act → World → Prop} : EW (Exit.then (AsU n w Lx) Q') .normal n [] w L := fun _ h => ⟨h.sub hs, rfl⟩
theorem irngU {α : Type} {g : Operand} {ps : Array Tmp} {assign body : Code} {gf : Nat} {lb : Array Value} (hg : ev L g = some (.func (.func gf) #[] lb)) (eg : CallOf P gf)
    {encs : α → Array Value} {Ts B : List Nat} {S Sp : List α → Prop} {M : Nat} (hN : 1 ≤ N) (hseq : SeqStopsK (Fo none) (N - 1) P gf lb encs (KeepT Ts B) S Sp M w) (hB : ∀ b ∈ B, b < w.heap.size)
    (hps : ∀ x, (encs x).size = ps.size) (Lq : α → List (Nat × Value)) (hLq : ∀ x, (ps.zip (encs x)).toList.reverse = Lq x) (hpn : ∀ x, (Lq x).all (fun p => Nat.blt p.1 n) = true)
    (I : List α → World → Prop) (hI : ∀ s W W', Turn w.heap.size W W' → I s W → I s W') (h0 : I [] w)
    (Lx : α → List (Nat × Value)) (K : List (Nat × Value)) (_hK : Sub K L)
    (hassign : ∀ (l : Nat) (pre : List α) (x : α) (W : World), I pre W → CWi (some l) (N - 1 - 1) P (Exit.then (AsU n W (Lx x ++ K)) (fun _ _ _ => False)) assign n [] W (Lq x ++ L))
    (hbody : ∀ (l : Nat) (pre : List α) (x : α) (W : World), w.heap.size ≤ l → I pre W → pre.length < M → CWi (some l) (N - 1 - 1) P (ownPostG w.heap.size (KeepT Ts B) I (fun _ _ _ => False) (pre ++ [x]) W) body n [] W (Lx x ++ K))
    (hdone : ∀ (D : Nat) (xs : List α) (W : World), w.heap.size ≤ D → S xs → I xs W → DefAt D W → EW Q .normal n (D :: ds) W L) : CWi none N P Q (.rangeFunc g ps assign body) n ds w L := by
  intro a h
  have hmk : ∀ D, AgM (D :: ds) { a with defers := { target := .collected D, args := #[] } :: a.defers } n L := fun D => ⟨by simp [h.dfr, mark], h.size, h.at_⟩
  refine wpIn_rangeFunc_ownH rfl hN (h.eval hg) trivial eg hseq (fun h k => h.trans k) (fun W l o o' hl ho hc _ => KeepT.put ho hc (fun b hb => by have := hB b hb; omega)) (Below.refl _ _) hps
    I (fun _ _ _ => False) (fun s W W' row hs hg hr => hI s W W' ⟨row, hg, hr⟩ hs) (fun c s W W' row hs hg hr => hs.elim) h0
    (fun x a' _ => AgM [] a' n (Lx x ++ K)) (fun _ _ _ _ _ _ hs _ _ => hs) ?_ (fun l pre x a' W hl hr hi hx hlt => hbody l pre x W hl hi hlt a' hx)
    (fun D xs W hD hS hi hk => hdone D xs W hD hS hi hk _ (hmk D)) (fun D c pre W hD hS hi hk => hi.elim)
  intro l pre x W K' hi hK
  have hp := ag_params h (ps.zip (encs x)).toList (by have := hpn x; rw [← hLq, List.all_reverse] at this; exact this)
  rw [hLq] at hp
  have e : ({ tmps := (ps.zip (encs x)).foldl (fun t (p : Nat × Value) => t.setIfInBounds p.1 p.2) a.tmps, defers := [] } : Act) = { tmps := (ps.zip (encs x)).toList.foldl (fun t p => t.setIfInBounds p.1 p.2) a.tmps, defers := [] } := by
    rw [← Array.foldl_toList]
  refine wpIn_mono (hassign l pre x W hi _ (by rw [← e] at hp; exact hp)) ?_
  rintro e a' W' he
  cases e with
  | normal =>
    obtain ⟨h1, rfl⟩ := he
    exact hK a' W' ⟨Nat.le_refl _, fun k o _ hk _ => hk⟩ ⟨fun _ _ => rfl, fun _ _ _ _ _ hc => hc⟩ hi h1
  | _ => exact he.elim
/-- The end of a round that writes cells alone, and not in B. -/
theorem rndU {α : Type} {B0 : Nat} {B S : List Nat} {I : List α → World → Prop} {Ix : Code → List α → World → Prop} {xs : List α} {W : World} (hf : Fr S W w) (hS : ∀ k ∈ S, ¬ NonCells W k) (hB : ∀ b ∈ B, b < W.heap.size) (hd : ∀ b ∈ B, b ∉ S) (hI : I xs w) : EW (ownPostG B0 (KeepT [] B) I Ix xs W) .normal n ds w L :=
  fun _ _ => ⟨keeps_fr hf (fun k hk hlt => by
    have e := Array.getElem?_eq_getElem hlt
    cases hc : (W.heap[k]).isCells with
    | true => exact ⟨_, e, hc⟩
    | false => exact absurd ⟨_, e, hc⟩ (hS k hk)), ⟨Keep.fr hf hB hd, fun _ _ _ _ hT => by cases hT⟩, hI⟩
/-- A block of another type is none of a slice's. -/
theorem Own.neB {α : Type} {E : Enc α} {T T' base g : Nat} {v : Value} {ys : List α} {cs : List Value} (h : Own E T base w v ys) (hb : Blk w g T' cs) (hT : T ≠ T') : g ∉ blks v := by
  rcases h with ⟨rfl, rfl⟩ | ⟨g', cap, cur, rfl, _, hg, _⟩
  · intro e; cases e
  · intro e
    simp [blks] at e; subst e
    rw [show w.heap[g]? = _ from hb] at hg
    cases hg; exact hT rfl
end
end Go.Lw
