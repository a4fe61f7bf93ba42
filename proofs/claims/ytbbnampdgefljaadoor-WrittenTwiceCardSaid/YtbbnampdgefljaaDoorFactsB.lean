/- Closed facts on the program's types and functions. Conditions: none. -/
import Derived.Test.YtbbnampdgefljaaDoorRows
import Derived.Test.YtbbnampdgefljaaDoorXMore
import Derived.Test.YtbbnampdgefljaaDoorXMap
set_option linter.unusedVariables false
set_option linter.unusedSimpArgs false
namespace Go.Proofs.YtbbnampdgefljaaDoor
open Go.Lw Go.G14
theorem co10 : CallOf Tryd.prog 10 := CallOf.mk' Tryd.func10 (by kernel_rfl) (by kernel_rfl)
theorem co11 : CallOf Tryd.prog 11 := CallOf.mk' Tryd.func11 (by kernel_rfl) (by kernel_rfl)
theorem co12 : CallOf Tryd.prog 12 := CallOf.mk' Tryd.func12 (by kernel_rfl) (by kernel_rfl)
theorem co13 : CallOf Tryd.prog 13 := CallOf.mk' Tryd.func13 (by kernel_rfl) (by kernel_rfl)
theorem co14 : CallOf Tryd.prog 14 := CallOf.mk' Tryd.func14 (by kernel_rfl) (by kernel_rfl)
theorem co15 : CallOf Tryd.prog 15 := CallOf.mk' Tryd.func15 (by kernel_rfl) (by kernel_rfl)
theorem co27 : CallOf Tryd.prog 27 := CallOf.mk' Tryd.func27 (by kernel_rfl) (by kernel_rfl)
theorem co29 : CallOf Tryd.prog 29 := CallOf.mk' Tryd.func29 (by kernel_rfl) (by kernel_rfl)
theorem co31 : CallOf Tryd.prog 31 := CallOf.mk' Tryd.func31 (by kernel_rfl) (by kernel_rfl)
theorem el48 : ElemOf Tryd.prog 48 9 Enc.str 16 := ElemOf.mk' (z := (S [])) Tryd.underlying48 (by kernel_rfl) rfl
theorem el65 : ElemOf Tryd.prog 65 23 Enc.i64 8 := ElemOf.mk' (z := (.int .i64 0)) Tryd.underlying65 (by kernel_rfl) rfl
theorem na23 : NotAgg Tryd.prog 23 := fun _ => by kernel_rfl
theorem sz22 : SizeOf Tryd.prog 22 1 := fun _ => by kernel_rfl
end Go.Proofs.YtbbnampdgefljaaDoor
