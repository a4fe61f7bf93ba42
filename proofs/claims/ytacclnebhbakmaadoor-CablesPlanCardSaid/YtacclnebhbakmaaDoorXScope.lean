/- Scopes, for a walk by live slots. Conditions: none; each law is over any program. -/
import Derived.Test.YtacclnebhbakmaaDoorXSll
import Derived.Scope
set_option linter.unusedVariables false
set_option linter.unusedSimpArgs false
namespace Go.Lw
section
variable {a : Act} {w : World} {Q : Exit → Act → World → Prop}
theorem norm_sc (h : Q .normal a w) : Exit.noGoto Q .normal a w := h
theorem ret_sc (h : Q .ret a w) : Exit.noGoto Q .ret a w := h
theorem exit_sc {id : Nat} (h : Q (.exit id) a w) : Exit.noGoto Q (.exit id) a w := h
end
end Go.Lw
