/- Closed facts on the program's types and functions. Conditions: none. -/
import Derived.Test.YtbbnampdgefljaaDoorRows
import Derived.Test.YtbbnampdgefljaaDoorFactsB
import Derived.Test.YtbbnampdgefljaaDoorXMap
set_option linter.unusedVariables false
set_option linter.unusedSimpArgs false
namespace Go.Proofs.YtbbnampdgefljaaDoor
open Go.Lw Go.G14
theorem co17 : CallOf Tryd.prog 17 := CallOf.mk' Tryd.func17 (by kernel_rfl) (by kernel_rfl)
end Go.Proofs.YtbbnampdgefljaaDoor
