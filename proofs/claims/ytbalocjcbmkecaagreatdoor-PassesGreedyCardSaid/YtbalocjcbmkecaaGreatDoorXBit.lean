/- Shifts. Conditions: none; each rule is over any program. -/
import Derived.Test.YtbalocjcbmkecaaGreatDoorXS
import Derived.WalkSmall
set_option linter.unusedVariables false
set_option linter.unusedSimpArgs false
namespace Go.Lw
open Go.RowKit
section
variable {P : Program} {n : Nat} {L : List (Nat × Value)} {ds : List Nat} {w w' : World} {Q : Exit → Act → World → Prop} {ops : Array Oper} {rest : List Oper} {d : Nat} {ty T : TypeId} {pos : String} {after : Array Edge} {v : Value} {x : Operand}
theorem s_shr {t t' : TypeId} {k k' : IntKind} {i : Int} {m : Nat} {z : Int} {y : Operand} (hx : ev L x = some (.int k i)) (hy : ev L y = some (.int k' (m : Int))) (hm : m ≤ k.bits) (hz : i / ((2 ^ m : Nat) : Int) = z) (hn : Nat.blt d n = true) (q : WL P ops Q rest n ds w ((d, .int k z) :: L)) : WL P ops Q (⟨some d, .binOp .shr t x y t', ty, pos, after, none⟩ :: rest) n ds w L :=
  fun a h => st_ok h rfl rfl hn (by
    have e : i.fdiv (2 ^ m) = z := by
      rw [Int.fdiv_eq_ediv_of_nonneg _ (by exact_mod_cast Nat.zero_le (2 ^ m)), ← hz]
      congr 1
    have hneg : ¬ ((m : Nat) : Int) < 0 := by omega
    simp [execOp, h.eval hx, h.eval hy, eqGuard_shr, binOp_shr, Op.shift, Nat.min_eq_left hm, e, hneg]) q
theorem s_and1 {t t' : TypeId} {i : Int} {y : Operand} (hx : ev L x = some (.int .u64 i)) (hy : ev L y = some (.int .u64 1)) (h0 : 0 ≤ i ∧ i ≤ 18446744073709551615) (hn : Nat.blt d n = true) (q : WL P ops Q rest n ds w ((d, .int .u64 (i % 2)) :: L)) : WL P ops Q (⟨some d, .binOp .and t x y t', ty, pos, after, none⟩ :: rest) n ds w L :=
  fun a h => st_ok h rfl rfl hn (by simp [execOp, h.eval hx, h.eval hy, eqGuard_and, binOp_and, intBits_and, and_one_u64 i h0.1 h0.2]) q
end
end Go.Lw
