/- Closed facts on the program's types and functions. Conditions: none. -/
import Derived.Test.YtbbnampdgefljaaDoorRows
import Derived.Test.YtbbnampdgefljaaDoorXShort
import Derived.Test.YtbbnampdgefljaaDoorXMap
set_option linter.unusedVariables false
set_option linter.unusedSimpArgs false
namespace Go.Proofs.YtbbnampdgefljaaDoor
open Go.Lw Go.G14
theorem ag36 : AggOf Tryd.prog 36 5 := ⟨fun _ => by kernel_rfl, fun _ => by kernel_rfl⟩
theorem ag94 : AggOf Tryd.prog 94 8 := ⟨fun _ => by kernel_rfl, fun _ => by kernel_rfl⟩
theorem bo36 : BuildAt Tryd.prog 36 [(0, 1), (1, 1), (2, 1), (3, 1), (4, 1)] [(.int .u8 0), (.int .u8 0), (.int .i64 0), (.int .i64 0), (.bool false)] := BuildAt.struct Tryd.underlying36 (fun _ => by kernel_rfl) (fun _ => by kernel_rfl)
theorem bo45 : BuildAt Tryd.prog 45 [(0, 1)] [(.slice none 0 0)] := BuildAt.struct Tryd.underlying45 (fun _ => by kernel_rfl) (fun _ => by kernel_rfl)
theorem bo98 : BuildAt Tryd.prog 98 [(0, 1), (1, 1)] [(.int .i64 0), (.int .i64 0)] := BuildAt.array (sz := 1) Tryd.underlying98 (fun _ => by kernel_rfl) (fun _ => by kernel_rfl) (fun i q h => by match i, h with | 0, h => simpa using h.symm | 1, h => simpa using h.symm | (k + 2), h => simp at h)
theorem co22 : CallOf Tryd.prog 22 := CallOf.mk' Tryd.func22 (by kernel_rfl) (by kernel_rfl)
theorem co25 : CallOf Tryd.prog 25 := CallOf.mk' Tryd.func25 (by kernel_rfl) (by kernel_rfl)
theorem co26 : CallOf Tryd.prog 26 := CallOf.mk' Tryd.func26 (by kernel_rfl) (by kernel_rfl)
theorem co28 : CallOf Tryd.prog 28 := CallOf.mk' Tryd.func28 (by kernel_rfl) (by kernel_rfl)
theorem co30 : CallOf Tryd.prog 30 := CallOf.mk' Tryd.func30 (by kernel_rfl) (by kernel_rfl)
theorem co44 : CallOf Tryd.prog 44 := CallOf.mk' Tryd.func44 (by kernel_rfl) (by kernel_rfl)
theorem co46 : CallOf Tryd.prog 46 := CallOf.mk' Tryd.func46 (by kernel_rfl) (by kernel_rfl)
theorem co49 : CallOf Tryd.prog 49 := CallOf.mk' Tryd.func49 (by kernel_rfl) (by kernel_rfl)
theorem co50 : CallOf Tryd.prog 50 := CallOf.mk' Tryd.func50 (by kernel_rfl) (by kernel_rfl)
theorem co51 : CallOf Tryd.prog 51 := CallOf.mk' Tryd.func51 (by kernel_rfl) (by kernel_rfl)
theorem co52 : CallOf Tryd.prog 52 := CallOf.mk' Tryd.func52 (by kernel_rfl) (by kernel_rfl)
theorem co53 : CallOf Tryd.prog 53 := CallOf.mk' Tryd.func53 (by kernel_rfl) (by kernel_rfl)
theorem co54 : CallOf Tryd.prog 54 := CallOf.mk' Tryd.func54 (by kernel_rfl) (by kernel_rfl)
theorem co55 : CallOf Tryd.prog 55 := CallOf.mk' Tryd.func55 (by kernel_rfl) (by kernel_rfl)
theorem co56 : CallOf Tryd.prog 56 := CallOf.mk' Tryd.func56 (by kernel_rfl) (by kernel_rfl)
theorem co62 : CallOf Tryd.prog 62 := CallOf.mk' Tryd.func62 (by kernel_rfl) (by kernel_rfl)
theorem co63 : CallOf Tryd.prog 63 := CallOf.mk' Tryd.func63 (by kernel_rfl) (by kernel_rfl)
theorem co64 : CallOf Tryd.prog 64 := CallOf.mk' Tryd.func64 (by kernel_rfl) (by kernel_rfl)
theorem co65 : CallOf Tryd.prog 65 := CallOf.mk' Tryd.func65 (by kernel_rfl) (by kernel_rfl)
theorem co73 : CallOf Tryd.prog 73 := CallOf.mk' Tryd.func73 (by kernel_rfl) (by kernel_rfl)
theorem co81 : CallOf Tryd.prog 81 := CallOf.mk' Tryd.func81 (by kernel_rfl) (by kernel_rfl)
theorem el22 : ElemOf Tryd.prog 22 36 encSt 32 := ElemOf.mk' (z := (.agg #[.int .u8 0, .int .u8 0, .int .i64 0, .int .i64 0, .bool false])) Tryd.underlying22 (by kernel_rfl) rfl
theorem el43 : ElemOf Tryd.prog 43 22 Enc.sl 24 := ElemOf.mk' (z := (.slice none 0 0)) Tryd.underlying43 (by kernel_rfl) rfl
theorem el58 : ElemOf Tryd.prog 58 5 Enc.b 1 := ElemOf.mk' (z := (.int .u8 0)) Tryd.underlying58 (by kernel_rfl) rfl
theorem fa36_0 : FieldAt Tryd.prog 36 0 0 := fun _ _ => by kernel_rfl
theorem fa36_1 : FieldAt Tryd.prog 36 1 1 := fun _ _ => by kernel_rfl
theorem fa36_2 : FieldAt Tryd.prog 36 2 2 := fun _ _ => by kernel_rfl
theorem fa36_3 : FieldAt Tryd.prog 36 3 3 := fun _ _ => by kernel_rfl
theorem fa36_4 : FieldAt Tryd.prog 36 4 4 := fun _ _ => by kernel_rfl
theorem fa45_0 : FieldAt Tryd.prog 45 0 0 := fun _ _ => by kernel_rfl
theorem hmix : Tryd.prog.follows .mixedOrders = true := by kernel_rfl
theorem na3 : NotAgg Tryd.prog 3 := fun _ => by kernel_rfl
theorem na4 : NotAgg Tryd.prog 4 := fun _ => by kernel_rfl
theorem na5 : NotAgg Tryd.prog 5 := fun _ => by kernel_rfl
theorem na9 : NotAgg Tryd.prog 9 := fun _ => by kernel_rfl
theorem na22 : NotAgg Tryd.prog 22 := fun _ => by kernel_rfl
theorem na34 : NotAgg Tryd.prog 34 := fun _ => by kernel_rfl
theorem na43 : NotAgg Tryd.prog 43 := fun _ => by kernel_rfl
theorem na90 : NotAgg Tryd.prog 90 := fun _ => by kernel_rfl
theorem sz3 : SizeOf Tryd.prog 3 1 := fun _ => by kernel_rfl
theorem sz4 : SizeOf Tryd.prog 4 1 := fun _ => by kernel_rfl
theorem sz5 : SizeOf Tryd.prog 5 1 := fun _ => by kernel_rfl
theorem sz34 : SizeOf Tryd.prog 34 1 := fun _ => by kernel_rfl
theorem sz36 : SizeOf Tryd.prog 36 5 := fun _ => by kernel_rfl
theorem sz90 : SizeOf Tryd.prog 90 1 := fun _ => by kernel_rfl
theorem zv3 (w : World) : (zeroValue 3).run Tryd.prog w = .ok (.int .i64 0) w := by kernel_rfl
theorem zv9 (w : World) : (zeroValue 9).run Tryd.prog w = .ok (S []) w := by kernel_rfl
theorem zv36 (w : World) : (zeroValue 36).run Tryd.prog w = .ok (.agg #[(.int .u8 0), (.int .u8 0), (.int .i64 0), (.int .i64 0), (.bool false)]) w := by kernel_rfl
theorem zv90 (w : World) : (zeroValue 90).run Tryd.prog w = .ok .nilFunc w := by kernel_rfl
end Go.Proofs.YtbbnampdgefljaaDoor
