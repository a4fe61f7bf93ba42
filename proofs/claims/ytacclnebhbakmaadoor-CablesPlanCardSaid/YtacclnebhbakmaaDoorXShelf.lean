/- From the shelf's contracts to a walk's. Conditions: none. -/
import Derived.Test.YtacclnebhbakmaaDoorXScope
import Derived.WalkSmall
set_option linter.unusedVariables false
set_option linter.unusedSimpArgs false
namespace Go.Lw
theorem Fr.drewN (S : List Nat) (w : World) (n : Nat) : Fr S w (w.drewN n) := ⟨rfl, rfl, rfl, Nat.le_refl _, fun _ _ _ => rfl⟩
/-- The cell of a package-level variable holds an int. -/
def IntAt (g : Nat) (w : World) : Prop := ∃ m : Int, w.cell? ⟨g, 0, none⟩ = some (.int .i64 m)
theorem IntAt.fr {g : Nat} {S : List Nat} {w w' : World} (h : IntAt g w) (hf : Fr S w w') (hn : g ∉ S) : IntAt g w' := let ⟨m, hm⟩ := h; ⟨m, hf.cell hm hn⟩
theorem IntAt.ext {g : Nat} {w w' : World} (h : IntAt g w) (hf : Fr [] w w') : IntAt g w' := h.fr hf (by simp)
theorem IntAt.lt {g : Nat} {w : World} (h : IntAt g w) : g < w.heap.size := let ⟨_, hm⟩ := h; block_lt_of_cell hm
end Go.Lw
namespace Go.Lw
section
variable {P : Program} {a : Act} {n : Nat} {L : List (Nat × Value)} {ds : List Nat} {w w' : World} {Q : Exit → Act → World → Prop} {ops : Array Oper} {rest : List Oper}
variable {d : Nat} {ty : TypeId} {pos : String} {after : Array Edge} {x y : Operand} {t t' T : TypeId} {A : Option Addr} {m c : Nat}
theorem ex_eqnil (h : AgM ds a n L) (hx : ev L x = some (.slice A m c)) (hu : P.underlying t = some (.slice T)) :
    (execOp a.eval ⟨some d, .binOp .eql t x (.const (.slice none 0 0)) t', ty, pos, after, none⟩).run P w = .ok (.value (.bool A.isNone)) w := by
  have h2 := run_eql_nil_slice (P := P) w t T A m c 0 0 hu
  have h3 : (binOp .eql t (.slice A m c) (.slice none 0 0)).run P w = .ok (.bool A.isNone) w := by
    simp only [binOp]
    simp [Op.equal, Op.maxDepth, Lib.run_equalIn_slice_nil w 9999 t T A m c 0 0 hu]
  have h4 : a.eval (.const (.slice none 0 0)) = .slice none 0 0 := rfl
  simp [execOp, h.eval hx, h4, eqGuard, h3]
theorem st_eqnil (h : AgM ds a n L) (hx : ev L x = some (.slice A m c)) (hu : P.underlying t = some (.slice T)) (hn : Nat.blt d n = true) (q : ∀ a, AgM ds a n ((d, .bool A.isNone) :: L) → wpList P ops Q rest a w) :
    wpList P ops Q (⟨some d, .binOp .eql t x (.const (.slice none 0 0)) t', ty, pos, after, none⟩ :: rest) a w :=
  st_ok h rfl rfl hn (ex_eqnil h hx hu) q
theorem s_eqnil (hx : ev L x = some (.slice A m c)) (hu : P.underlying t = some (.slice T)) (hn : Nat.blt d n = true) (q : WL P ops Q rest n ds w ((d, .bool A.isNone) :: L)) : WL P ops Q (⟨some d, .binOp .eql t x (.const (.slice none 0 0)) t', ty, pos, after, none⟩ :: rest) n ds w L := fun a h => st_eqnil h hx hu hn q -- short
end
end Go.Lw
