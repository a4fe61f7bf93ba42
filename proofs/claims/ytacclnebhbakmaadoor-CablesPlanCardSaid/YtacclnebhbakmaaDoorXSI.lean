/- The short forms at an open fence (for functions with a range over a function, and for iterators). Conditions: none. -/
import Derived.Test.YtacclnebhbakmaaDoorXS
set_option linter.unusedVariables false
set_option linter.unusedSimpArgs false
namespace Go.Lw
open Go.RowKit
section
variable {P : Program} {n N : Nat} {r : Option Nat} {L : List (Nat × Value)} {ds : List Nat} {w w' : World} {Q : Exit → Act → World → Prop} {ops : Array Oper} {rest : List Oper} {a : Act} {x y c : Code} {id : Nat}
def CWi (r : Option Nat) (N : Nat) (P : Program) (Q : Exit → Act → World → Prop) (c : Code) (n : Nat) (ds : List Nat) (w : World) (L : List (Nat × Value)) : Prop := ∀ a, AgM ds a n L → c.wpIn (Fo r) N P Q a w
theorem isq (h : CWi r N P (Exit.then (y.wpIn (Fo r) N P Q) Q) x n ds w L) : CWi r N P Q (.seq x y) n ds w L := fun a ha => wpIn_seq (h a ha)
theorem irg {l : List Oper} (hd : l.all Oper.noDefer = true) (h : WL P l.toArray (NormEnd (Q .normal)) l n ds w L) : CWi r N P Q (.region id l.toArray false) n ds w L := fun a ha => ireg hd (h a ha)
theorem ibl (h : CWi r N P (Exit.inBlock id Q) x n ds w L) : CWi r N P Q (.block id x) n ds w L := fun a ha => wpIn_block (h a ha)
theorem isk (h : EW Q .normal n ds w L) : CWi r N P Q .skip n ds w L := fun a ha => wpIn_skip (h a ha)
theorem ilb {l : Nat} (h : EW Q .normal n ds w L) : CWi r N P Q (.label l) n ds w L := fun a ha => wpIn_label (h a ha)
theorem irt (h : EW Q .ret n ds w L) : CWi r N P Q .ret n ds w L := fun a ha => wpIn_ret (h a ha)
theorem iex (h : EW Q (.exit id) n ds w L) : CWi r N P Q (.exit id) n ds w L := fun a ha => wpIn_exit (h a ha)
theorem inl (h : EW Q .normal n ds w L) : WL P ops (NormEnd (Q .normal)) [] n ds w L := fun a ha => nm_end (h a ha)
theorem itn (h : CWi r N P Q y n ds w L) {Q' : Exit → Act → World → Prop} : EW (Exit.then (y.wpIn (Fo r) N P Q) Q') .normal n ds w L := h
theorem ict {C : Operand} (hc : ev L C = some (.bool true)) (k : CWi r N P Q x n ds w L) : CWi r N P Q (.cond C x y) n ds w L := fun a h => icond_true h hc (k a h)
theorem icf {C : Operand} (hc : ev L C = some (.bool false)) (k : CWi r N P Q y n ds w L) : CWi r N P Q (.cond C x y) n ds w L := fun a h => icond_false h hc (k a h)
theorem icd {C : Operand} {b : Bool} {p : Prop} (hc : ev L C = some (.bool b)) [s : Says b p] (ht : p → CWi r N P Q x n ds w L) (hf : ¬ p → CWi r N P Q y n ds w L) : CWi r N P Q (.cond C x y) n ds w L :=
  fun a h => icond_split h hc (fun e => ht (s.iff.1 e) a h) (fun e => hf (s.no e) a h)
theorem ikpC (L' : List (Nat × Value)) (hs : Sub L' L) (k : CWi r N P Q c n ds w L') : CWi r N P Q c n ds w L := fun a h => k a (h.sub hs)
theorem ilpK {ι : Type} (K : List (Nat × Value)) (M : ι → List (Nat × Value)) (I : ι → World → Prop) (μ : ι → Nat) (i : ι) (hs : Sub (K ++ M i) L) (hI : I i w)
    (round : ∀ i w, I i w → CWi r N P (Exit.then (fun a' w' => ∃ j, AgM ds a' n (K ++ M j) ∧ I j w' ∧ μ j < μ i) Q) c n ds w (K ++ M i)) : CWi r N P Q (.loop c) n ds w L :=
  fun a h => iloop (fun i => K ++ M i) I μ i (h.sub hs) hI (fun i w a h hI => round i w hI a h)
theorem ilpE {ι : Type} {K : List (Nat × Value)} {M : ι → List (Nat × Value)} {I : ι → World → Prop} {μ : ι → Nat} {m : Nat} (j : ι) (hs : Sub (K ++ M j) L) (hI : I j w) (hm : μ j < m) : EW (Exit.then (fun a' w' => ∃ j, AgM ds a' n (K ++ M j) ∧ I j w' ∧ μ j < m) Q) .normal n ds w L := lpE j hs hI hm
theorem ijn {ι : Type} (K : List (Nat × Value)) (M : ι → List (Nat × Value)) (I : ι → World → Prop) (_hs : Sub K L) (h1 : CWi r N P (Exit.then (JW n ds K M I) Q) x n ds w L) (h2 : ∀ j w, I j w → CWi r N P Q y n ds w (K ++ M j)) : CWi r N P Q (.seq x y) n ds w L :=
  fun a h => iseq_cut (JW n ds K M I) (h1 a h) (fun a w ⟨j, h, hI⟩ => h2 j w hI a h)
theorem ijE {ι : Type} {K : List (Nat × Value)} {M : ι → List (Nat × Value)} {I : ι → World → Prop} (j : ι) (hs : Sub (K ++ M j) L) (hI : I j w) : EW (Exit.then (JW n ds K M I) Q) .normal n ds w L := jE j hs hI
end
end Go.Lw
