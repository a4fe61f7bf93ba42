/- Closed facts on the program's types and functions. Conditions: none. -/
import Derived.Test.YtbbnampdgefljaaDoorFactsC
namespace Go.Proofs.YtbbnampdgefljaaDoor
open Go.Lw Go.G14
theorem co16 : CallOf Tryd.prog 16 := CallOf.mk' Tryd.func16 (by kernel_rfl) (by kernel_rfl)
theorem sz9 : SizeOf Tryd.prog 9 1 := fun _ => by kernel_rfl
end Go.Proofs.YtbbnampdgefljaaDoor
