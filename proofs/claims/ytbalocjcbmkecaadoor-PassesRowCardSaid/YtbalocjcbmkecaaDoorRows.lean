/-
  NARROWER THAN 'FOR EVERY INPUT', by the rows' own cells (each row's printed sentence says how): OperationsBack: laid · OperationsNear: laid · OperationsLines: laid · OperationsProgram: laid · OperationsLimit: laid · PassesTwo: laid · PassesInOut: laid · PassesValid: laid · PassesRow: laid.
  DERIVED. THE GIVEN ROWS OF THIS SEAT. 9 by the template 'for every input the law returns true; each argument reads behind the call as it read before'; 0 by the template 'total and deterministic' (their statements: YtbalocjcbmkecaaDoorTotals.lean).
  GIVEN WITH THE SEED: the statements are not yours to turn. If you find one false, say at which input.
  Laid BY PROGRAM, IN A SANDBOX (cutbox-rows.mjs): the forced cells as the released guide's own fill.sh prints them over the translation a23ac05a39f40b68… (all of the seat's roots in one cut). By AI agents, Wed Nov 11 2026. No macro, syntax, notation, axiom, sorry.
-/
import Derived.Test.YtbalocjcbmkecaaDoorChecked
import GoSem.PinnedTables
import GoSem.Claim
import GoSem.ClaimJoined
import GoSem.ClaimMapViews
import Derived.JoinedTies
import Derived.KernelRfl
namespace Go.Proofs.YtbalocjcbmkecaaDoor
/- THE CELL 'sum', in the pinned program and in every row, IS THE sha256 OF THE DUMP (.gsa) THAT YtbalocjcbmkecaaDoorProg.lean LOADS. Nothing in Lean hashes anything: it is a label: what it is worth is what the hold of that sum in a sandbox is worth. -/
noncomputable def Tryd.pinned : Pinned := { name := "ytbalocjcbmkecaadoor", sum := "a23ac05a39f40b6890d4407beb165e9b5d74b7f92fcb214388a5a6a7befe9af0", checked := Tryd.checked }
namespace Rows
def none {H : Type} : Left H := { results := [], args := [] }

/- WHAT THE LISTED PACKAGE-LEVEL VARIABLES READ AS WHEN THE CALL BEGINS. Each datum BY PROGRAM (the guide's laid-datum.mjs) off the statement by which the dump's own 'gosem.cut.vars' lays the variable. In a bare row this is a premise. The card (YtbalocjcbmkecaaDoorCards.lean) ties it to the program's text. -/
def laid_math_bits_deBruijn32tab {H : Type} : DataW H := .agg [.lit (.int .u8 0), .lit (.int .u8 1), .lit (.int .u8 28), .lit (.int .u8 2), .lit (.int .u8 29), .lit (.int .u8 14), .lit (.int .u8 24), .lit (.int .u8 3), .lit (.int .u8 30), .lit (.int .u8 22), .lit (.int .u8 20), .lit (.int .u8 15), .lit (.int .u8 25), .lit (.int .u8 17), .lit (.int .u8 4), .lit (.int .u8 8), .lit (.int .u8 31), .lit (.int .u8 27), .lit (.int .u8 13), .lit (.int .u8 23), .lit (.int .u8 21), .lit (.int .u8 19), .lit (.int .u8 16), .lit (.int .u8 7), .lit (.int .u8 26), .lit (.int .u8 12), .lit (.int .u8 18), .lit (.int .u8 6), .lit (.int .u8 11), .lit (.int .u8 5), .lit (.int .u8 10), .lit (.int .u8 9)]
def laid_math_bits_deBruijn64tab {H : Type} : DataW H := .agg [.lit (.int .u8 0), .lit (.int .u8 1), .lit (.int .u8 56), .lit (.int .u8 2), .lit (.int .u8 57), .lit (.int .u8 49), .lit (.int .u8 28), .lit (.int .u8 3), .lit (.int .u8 61), .lit (.int .u8 58), .lit (.int .u8 42), .lit (.int .u8 50), .lit (.int .u8 38), .lit (.int .u8 29), .lit (.int .u8 17), .lit (.int .u8 4), .lit (.int .u8 62), .lit (.int .u8 47), .lit (.int .u8 59), .lit (.int .u8 36), .lit (.int .u8 45), .lit (.int .u8 43), .lit (.int .u8 51), .lit (.int .u8 22), .lit (.int .u8 53), .lit (.int .u8 39), .lit (.int .u8 33), .lit (.int .u8 30), .lit (.int .u8 24), .lit (.int .u8 18), .lit (.int .u8 12), .lit (.int .u8 5), .lit (.int .u8 63), .lit (.int .u8 55), .lit (.int .u8 48), .lit (.int .u8 27), .lit (.int .u8 60), .lit (.int .u8 41), .lit (.int .u8 37), .lit (.int .u8 16), .lit (.int .u8 46), .lit (.int .u8 35), .lit (.int .u8 44), .lit (.int .u8 21), .lit (.int .u8 52), .lit (.int .u8 32), .lit (.int .u8 23), .lit (.int .u8 11), .lit (.int .u8 54), .lit (.int .u8 26), .lit (.int .u8 40), .lit (.int .u8 15), .lit (.int .u8 34), .lit (.int .u8 20), .lit (.int .u8 31), .lit (.int .u8 10), .lit (.int .u8 25), .lit (.int .u8 14), .lit (.int .u8 19), .lit (.int .u8 9), .lit (.int .u8 13), .lit (.int .u8 8), .lit (.int .u8 7), .lit (.int .u8 6)]
def laid_internal_strconv_uint64pow10 {H : Type} : DataW H := .agg [.lit (.int .u64 1), .lit (.int .u64 10), .lit (.int .u64 100), .lit (.int .u64 1000), .lit (.int .u64 10000), .lit (.int .u64 100000), .lit (.int .u64 1000000), .lit (.int .u64 10000000), .lit (.int .u64 100000000), .lit (.int .u64 1000000000), .lit (.int .u64 10000000000), .lit (.int .u64 100000000000), .lit (.int .u64 1000000000000), .lit (.int .u64 10000000000000), .lit (.int .u64 100000000000000), .lit (.int .u64 1000000000000000), .lit (.int .u64 10000000000000000), .lit (.int .u64 100000000000000000), .lit (.int .u64 1000000000000000000), .lit (.int .u64 10000000000000000000)]
def laid_unicode_utf8_acceptRanges {H : Type} : DataW H := .agg [.agg [.lit (.int .u8 128), .lit (.int .u8 191)], .agg [.lit (.int .u8 160), .lit (.int .u8 191)], .agg [.lit (.int .u8 128), .lit (.int .u8 159)], .agg [.lit (.int .u8 144), .lit (.int .u8 191)], .agg [.lit (.int .u8 128), .lit (.int .u8 143)], .agg [.lit (.int .u8 0), .lit (.int .u8 0)], .agg [.lit (.int .u8 0), .lit (.int .u8 0)], .agg [.lit (.int .u8 0), .lit (.int .u8 0)], .agg [.lit (.int .u8 0), .lit (.int .u8 0)], .agg [.lit (.int .u8 0), .lit (.int .u8 0)], .agg [.lit (.int .u8 0), .lit (.int .u8 0)], .agg [.lit (.int .u8 0), .lit (.int .u8 0)], .agg [.lit (.int .u8 0), .lit (.int .u8 0)], .agg [.lit (.int .u8 0), .lit (.int .u8 0)], .agg [.lit (.int .u8 0), .lit (.int .u8 0)], .agg [.lit (.int .u8 0), .lit (.int .u8 0)]]
def laid_strconv_ErrRange {H : Type} : DataW H := .iface "*errors.errorString" (.ptr (.agg [.lit (.string [118, 97, 108, 117, 101, 32, 111, 117, 116, 32, 111, 102, 32, 114, 97, 110, 103, 101])]))
def laid_strconv_ErrSyntax {H : Type} : DataW H := .iface "*errors.errorString" (.ptr (.agg [.lit (.string [105, 110, 118, 97, 108, 105, 100, 32, 115, 121, 110, 116, 97, 120])]))
def laid_gansey_operations_words {H : Type} : DataW H := .agg [.lit (.string []), .lit (.string [105, 110]), .lit (.string [111, 117, 116]), .lit (.string [114, 97, 99, 107]), .lit (.string [107, 110, 105, 116]), .lit (.string [116, 117, 99, 107]), .lit (.string [109, 105, 115, 115]), .lit (.string [120, 102, 101, 114]), .lit (.string [100, 114, 111, 112])]
def laid_gansey_operations_dirs {H : Type} : DataW H := .agg [.lit (.string [108, 101, 102, 116]), .lit (.string [114, 105, 103, 104, 116])]
/-- One of Go's own tables, pinned by name: the form's constant. -/
def laid_unicode_utf8_first : DataW Unit := Go.Pinned.utf8First

/-- 'ganseylaw07.OperationsBack': WHATEVER THE INPUT: true; the input reads as it did. -/
def operationsBackSpec : ChangeSpec := { name := "operationsBack", fn := fun _ => fun
  | [d1, d2, d3] => { results := [.lit (.bool true)], args := [d1, d2, d3] }
  | _ => none }
def operationsBackRow : OpenClaim := { program := "ytbalocjcbmkecaadoor", sum := "a23ac05a39f40b6890d4407beb165e9b5d74b7f92fcb214388a5a6a7befe9af0", func := "gansey/ganseylaw07.OperationsBack", spec := "operationsBack", inPlace := ["internal/bytealg.CountString", "internal/bytealg.IndexByteString", "internal/bytealg.IndexString", "internal/abi.NoEscape", "internal/bytealg.MakeNoZero"], recurses := true, named := ["unicode/utf8.first", "unicode/utf8.acceptRanges", "internal/bytealg.MaxLen", "gansey/operations.words", "strconv.ErrSyntax", "strconv.ErrRange", "internal/strconv.uint64pow10", "math/bits.deBruijn32tab", "math/bits.deBruijn64tab", "gansey/operations.dirs"], apart := false, laid := [("math/bits.deBruijn32tab", laid_math_bits_deBruijn32tab), ("math/bits.deBruijn64tab", laid_math_bits_deBruijn64tab), ("internal/strconv.uint64pow10", laid_internal_strconv_uint64pow10), ("unicode/utf8.acceptRanges", laid_unicode_utf8_acceptRanges), ("strconv.ErrRange", laid_strconv_ErrRange), ("strconv.ErrSyntax", laid_strconv_ErrSyntax), ("gansey/operations.words", laid_gansey_operations_words), ("gansey/operations.dirs", laid_gansey_operations_dirs), ("unicode/utf8.first", laid_unicode_utf8_first)] }
def OperationsBackSaid : Prop := operationsBackRow.holds Tryd.pinned (OpenSpec.ofChange operationsBackSpec)

/-- ITS FALSE NEIGHBOUR: 'it returns false'. Refute it at one input. -/
def operationsBackWrong : ChangeSpec := { name := "operationsBack", fn := fun _ => fun
  | [d1, d2, d3] => { results := [.lit (.bool false)], args := [d1, d2, d3] }
  | _ => none }
def OperationsBackWrongFalsely : Prop := operationsBackRow.holds Tryd.pinned (OpenSpec.ofChange operationsBackWrong)

/-- 'ganseylaw07.OperationsNear': WHATEVER THE INPUT: true; the input reads as it did. -/
def operationsNearSpec : ChangeSpec := { name := "operationsNear", fn := fun _ => fun
  | [d1, d2, d3] => { results := [.lit (.bool true)], args := [d1, d2, d3] }
  | _ => none }
def operationsNearRow : OpenClaim := { program := "ytbalocjcbmkecaadoor", sum := "a23ac05a39f40b6890d4407beb165e9b5d74b7f92fcb214388a5a6a7befe9af0", func := "gansey/ganseylaw07.OperationsNear", spec := "operationsNear", inPlace := ["internal/bytealg.CountString", "internal/bytealg.IndexByteString", "internal/bytealg.IndexString", "internal/abi.NoEscape", "internal/bytealg.MakeNoZero"], recurses := true, named := ["unicode/utf8.first", "unicode/utf8.acceptRanges", "internal/bytealg.MaxLen", "gansey/operations.words", "strconv.ErrSyntax", "strconv.ErrRange", "internal/strconv.uint64pow10", "math/bits.deBruijn32tab", "math/bits.deBruijn64tab", "gansey/operations.dirs"], apart := false, laid := [("math/bits.deBruijn32tab", laid_math_bits_deBruijn32tab), ("math/bits.deBruijn64tab", laid_math_bits_deBruijn64tab), ("internal/strconv.uint64pow10", laid_internal_strconv_uint64pow10), ("unicode/utf8.acceptRanges", laid_unicode_utf8_acceptRanges), ("strconv.ErrRange", laid_strconv_ErrRange), ("strconv.ErrSyntax", laid_strconv_ErrSyntax), ("gansey/operations.words", laid_gansey_operations_words), ("gansey/operations.dirs", laid_gansey_operations_dirs), ("unicode/utf8.first", laid_unicode_utf8_first)] }
def OperationsNearSaid : Prop := operationsNearRow.holds Tryd.pinned (OpenSpec.ofChange operationsNearSpec)

/-- ITS FALSE NEIGHBOUR: 'it returns false'. Refute it at one input. -/
def operationsNearWrong : ChangeSpec := { name := "operationsNear", fn := fun _ => fun
  | [d1, d2, d3] => { results := [.lit (.bool false)], args := [d1, d2, d3] }
  | _ => none }
def OperationsNearWrongFalsely : Prop := operationsNearRow.holds Tryd.pinned (OpenSpec.ofChange operationsNearWrong)

/-- 'ganseylaw07.OperationsLines': WHATEVER THE INPUT: true; the input reads as it did. -/
def operationsLinesSpec : ChangeSpec := { name := "operationsLines", fn := fun _ => fun
  | [d1, d2, d3] => { results := [.lit (.bool true)], args := [d1, d2, d3] }
  | _ => none }
def operationsLinesRow : OpenClaim := { program := "ytbalocjcbmkecaadoor", sum := "a23ac05a39f40b6890d4407beb165e9b5d74b7f92fcb214388a5a6a7befe9af0", func := "gansey/ganseylaw07.OperationsLines", spec := "operationsLines", inPlace := ["internal/bytealg.CountString", "internal/bytealg.IndexByteString", "internal/bytealg.IndexString", "internal/abi.NoEscape", "internal/bytealg.MakeNoZero"], recurses := true, named := ["unicode/utf8.first", "unicode/utf8.acceptRanges", "internal/bytealg.MaxLen", "gansey/operations.words", "strconv.ErrSyntax", "strconv.ErrRange", "internal/strconv.uint64pow10", "math/bits.deBruijn32tab", "math/bits.deBruijn64tab", "gansey/operations.dirs"], apart := false, laid := [("math/bits.deBruijn32tab", laid_math_bits_deBruijn32tab), ("math/bits.deBruijn64tab", laid_math_bits_deBruijn64tab), ("internal/strconv.uint64pow10", laid_internal_strconv_uint64pow10), ("unicode/utf8.acceptRanges", laid_unicode_utf8_acceptRanges), ("strconv.ErrRange", laid_strconv_ErrRange), ("strconv.ErrSyntax", laid_strconv_ErrSyntax), ("gansey/operations.words", laid_gansey_operations_words), ("gansey/operations.dirs", laid_gansey_operations_dirs), ("unicode/utf8.first", laid_unicode_utf8_first)] }
def OperationsLinesSaid : Prop := operationsLinesRow.holds Tryd.pinned (OpenSpec.ofChange operationsLinesSpec)

/-- ITS FALSE NEIGHBOUR: 'it returns false'. Refute it at one input. -/
def operationsLinesWrong : ChangeSpec := { name := "operationsLines", fn := fun _ => fun
  | [d1, d2, d3] => { results := [.lit (.bool false)], args := [d1, d2, d3] }
  | _ => none }
def OperationsLinesWrongFalsely : Prop := operationsLinesRow.holds Tryd.pinned (OpenSpec.ofChange operationsLinesWrong)

/-- 'ganseylaw07.OperationsProgram': WHATEVER THE INPUT: true; the input reads as it did. -/
def operationsProgramSpec : ChangeSpec := { name := "operationsProgram", fn := fun _ => fun
  | [d1, d2, d3] => { results := [.lit (.bool true)], args := [d1, d2, d3] }
  | _ => none }
def operationsProgramRow : OpenClaim := { program := "ytbalocjcbmkecaadoor", sum := "a23ac05a39f40b6890d4407beb165e9b5d74b7f92fcb214388a5a6a7befe9af0", func := "gansey/ganseylaw07.OperationsProgram", spec := "operationsProgram", inPlace := ["internal/bytealg.CountString", "internal/bytealg.IndexByteString", "internal/bytealg.IndexString", "internal/abi.NoEscape", "internal/bytealg.MakeNoZero"], recurses := true, named := ["unicode/utf8.first", "unicode/utf8.acceptRanges", "internal/bytealg.MaxLen", "gansey/operations.words", "strconv.ErrSyntax", "strconv.ErrRange", "internal/strconv.uint64pow10", "math/bits.deBruijn32tab", "math/bits.deBruijn64tab", "gansey/operations.dirs"], apart := false, laid := [("math/bits.deBruijn32tab", laid_math_bits_deBruijn32tab), ("math/bits.deBruijn64tab", laid_math_bits_deBruijn64tab), ("internal/strconv.uint64pow10", laid_internal_strconv_uint64pow10), ("unicode/utf8.acceptRanges", laid_unicode_utf8_acceptRanges), ("strconv.ErrRange", laid_strconv_ErrRange), ("strconv.ErrSyntax", laid_strconv_ErrSyntax), ("gansey/operations.words", laid_gansey_operations_words), ("gansey/operations.dirs", laid_gansey_operations_dirs), ("unicode/utf8.first", laid_unicode_utf8_first)] }
def OperationsProgramSaid : Prop := operationsProgramRow.holds Tryd.pinned (OpenSpec.ofChange operationsProgramSpec)

/-- ITS FALSE NEIGHBOUR: 'it returns false'. Refute it at one input. -/
def operationsProgramWrong : ChangeSpec := { name := "operationsProgram", fn := fun _ => fun
  | [d1, d2, d3] => { results := [.lit (.bool false)], args := [d1, d2, d3] }
  | _ => none }
def OperationsProgramWrongFalsely : Prop := operationsProgramRow.holds Tryd.pinned (OpenSpec.ofChange operationsProgramWrong)

/-- 'ganseylaw07.OperationsLimit': WHATEVER THE INPUT: true; the input reads as it did. -/
def operationsLimitSpec : ChangeSpec := { name := "operationsLimit", fn := fun _ => fun
  | [d1, d2, d3] => { results := [.lit (.bool true)], args := [d1, d2, d3] }
  | _ => none }
def operationsLimitRow : OpenClaim := { program := "ytbalocjcbmkecaadoor", sum := "a23ac05a39f40b6890d4407beb165e9b5d74b7f92fcb214388a5a6a7befe9af0", func := "gansey/ganseylaw07.OperationsLimit", spec := "operationsLimit", inPlace := ["internal/bytealg.CountString", "internal/bytealg.IndexByteString", "internal/bytealg.IndexString", "internal/abi.NoEscape", "internal/bytealg.MakeNoZero"], recurses := true, named := ["unicode/utf8.first", "unicode/utf8.acceptRanges", "internal/bytealg.MaxLen", "gansey/operations.words", "strconv.ErrSyntax", "strconv.ErrRange", "internal/strconv.uint64pow10", "math/bits.deBruijn32tab", "math/bits.deBruijn64tab", "gansey/operations.dirs"], apart := false, laid := [("math/bits.deBruijn32tab", laid_math_bits_deBruijn32tab), ("math/bits.deBruijn64tab", laid_math_bits_deBruijn64tab), ("internal/strconv.uint64pow10", laid_internal_strconv_uint64pow10), ("unicode/utf8.acceptRanges", laid_unicode_utf8_acceptRanges), ("strconv.ErrRange", laid_strconv_ErrRange), ("strconv.ErrSyntax", laid_strconv_ErrSyntax), ("gansey/operations.words", laid_gansey_operations_words), ("gansey/operations.dirs", laid_gansey_operations_dirs), ("unicode/utf8.first", laid_unicode_utf8_first)] }
def OperationsLimitSaid : Prop := operationsLimitRow.holds Tryd.pinned (OpenSpec.ofChange operationsLimitSpec)

/-- ITS FALSE NEIGHBOUR: 'it returns false'. Refute it at one input. -/
def operationsLimitWrong : ChangeSpec := { name := "operationsLimit", fn := fun _ => fun
  | [d1, d2, d3] => { results := [.lit (.bool false)], args := [d1, d2, d3] }
  | _ => none }
def OperationsLimitWrongFalsely : Prop := operationsLimitRow.holds Tryd.pinned (OpenSpec.ofChange operationsLimitWrong)

/-- 'ganseylaw10.PassesTwo': WHATEVER THE INPUT: true; the input reads as it did. -/
def passesTwoSpec : ChangeSpec := { name := "passesTwo", fn := fun _ => fun
  | [d1, d2] => { results := [.lit (.bool true)], args := [d1, d2] }
  | _ => none }
def passesTwoRow : OpenClaim := { program := "ytbalocjcbmkecaadoor", sum := "a23ac05a39f40b6890d4407beb165e9b5d74b7f92fcb214388a5a6a7befe9af0", func := "gansey/ganseylaw10.PassesTwo", spec := "passesTwo", inPlace := ["internal/bytealg.CountString", "internal/bytealg.IndexByteString", "internal/bytealg.IndexString", "internal/abi.NoEscape", "internal/bytealg.MakeNoZero"], unfollowed := true, recurses := true, named := ["unicode/utf8.first", "unicode/utf8.acceptRanges", "internal/bytealg.MaxLen", "gansey/operations.words", "strconv.ErrSyntax", "strconv.ErrRange", "internal/strconv.uint64pow10", "math/bits.deBruijn32tab", "math/bits.deBruijn64tab", "gansey/operations.dirs"], apart := false, laid := [("math/bits.deBruijn32tab", laid_math_bits_deBruijn32tab), ("math/bits.deBruijn64tab", laid_math_bits_deBruijn64tab), ("internal/strconv.uint64pow10", laid_internal_strconv_uint64pow10), ("unicode/utf8.acceptRanges", laid_unicode_utf8_acceptRanges), ("strconv.ErrRange", laid_strconv_ErrRange), ("strconv.ErrSyntax", laid_strconv_ErrSyntax), ("gansey/operations.words", laid_gansey_operations_words), ("gansey/operations.dirs", laid_gansey_operations_dirs), ("unicode/utf8.first", laid_unicode_utf8_first)] }
def PassesTwoSaid : Prop := passesTwoRow.holds Tryd.pinned (OpenSpec.ofChange passesTwoSpec)

/-- ITS FALSE NEIGHBOUR: 'it returns false'. Refute it at one input. -/
def passesTwoWrong : ChangeSpec := { name := "passesTwo", fn := fun _ => fun
  | [d1, d2] => { results := [.lit (.bool false)], args := [d1, d2] }
  | _ => none }
def PassesTwoWrongFalsely : Prop := passesTwoRow.holds Tryd.pinned (OpenSpec.ofChange passesTwoWrong)

/-- 'ganseylaw10.PassesInOut': WHATEVER THE INPUT: true; the input reads as it did. -/
def passesInOutSpec : ChangeSpec := { name := "passesInOut", fn := fun _ => fun
  | [d1, d2] => { results := [.lit (.bool true)], args := [d1, d2] }
  | _ => none }
def passesInOutRow : OpenClaim := { program := "ytbalocjcbmkecaadoor", sum := "a23ac05a39f40b6890d4407beb165e9b5d74b7f92fcb214388a5a6a7befe9af0", func := "gansey/ganseylaw10.PassesInOut", spec := "passesInOut", inPlace := ["internal/bytealg.CountString", "internal/bytealg.IndexByteString", "internal/bytealg.IndexString", "internal/abi.NoEscape", "internal/bytealg.MakeNoZero"], unfollowed := true, recurses := true, named := ["unicode/utf8.first", "unicode/utf8.acceptRanges", "internal/bytealg.MaxLen", "gansey/operations.words", "strconv.ErrSyntax", "strconv.ErrRange", "internal/strconv.uint64pow10", "math/bits.deBruijn32tab", "math/bits.deBruijn64tab", "gansey/operations.dirs"], apart := false, laid := [("math/bits.deBruijn32tab", laid_math_bits_deBruijn32tab), ("math/bits.deBruijn64tab", laid_math_bits_deBruijn64tab), ("internal/strconv.uint64pow10", laid_internal_strconv_uint64pow10), ("unicode/utf8.acceptRanges", laid_unicode_utf8_acceptRanges), ("strconv.ErrRange", laid_strconv_ErrRange), ("strconv.ErrSyntax", laid_strconv_ErrSyntax), ("gansey/operations.words", laid_gansey_operations_words), ("gansey/operations.dirs", laid_gansey_operations_dirs), ("unicode/utf8.first", laid_unicode_utf8_first)] }
def PassesInOutSaid : Prop := passesInOutRow.holds Tryd.pinned (OpenSpec.ofChange passesInOutSpec)

/-- ITS FALSE NEIGHBOUR: 'it returns false'. Refute it at one input. -/
def passesInOutWrong : ChangeSpec := { name := "passesInOut", fn := fun _ => fun
  | [d1, d2] => { results := [.lit (.bool false)], args := [d1, d2] }
  | _ => none }
def PassesInOutWrongFalsely : Prop := passesInOutRow.holds Tryd.pinned (OpenSpec.ofChange passesInOutWrong)

/-- 'ganseylaw10.PassesValid': WHATEVER THE INPUT: true; the input reads as it did. -/
def passesValidSpec : ChangeSpec := { name := "passesValid", fn := fun _ => fun
  | [d1, d2, d3] => { results := [.lit (.bool true)], args := [d1, d2, d3] }
  | _ => none }
def passesValidRow : OpenClaim := { program := "ytbalocjcbmkecaadoor", sum := "a23ac05a39f40b6890d4407beb165e9b5d74b7f92fcb214388a5a6a7befe9af0", func := "gansey/ganseylaw10.PassesValid", spec := "passesValid", inPlace := ["internal/bytealg.CountString", "internal/bytealg.IndexByteString", "internal/bytealg.IndexString", "internal/abi.NoEscape", "internal/bytealg.MakeNoZero"], unfollowed := true, recurses := true, named := ["unicode/utf8.first", "unicode/utf8.acceptRanges", "internal/bytealg.MaxLen", "gansey/operations.words", "strconv.ErrSyntax", "strconv.ErrRange", "internal/strconv.uint64pow10", "math/bits.deBruijn32tab", "math/bits.deBruijn64tab", "gansey/operations.dirs"], apart := false, laid := [("math/bits.deBruijn32tab", laid_math_bits_deBruijn32tab), ("math/bits.deBruijn64tab", laid_math_bits_deBruijn64tab), ("internal/strconv.uint64pow10", laid_internal_strconv_uint64pow10), ("unicode/utf8.acceptRanges", laid_unicode_utf8_acceptRanges), ("strconv.ErrRange", laid_strconv_ErrRange), ("strconv.ErrSyntax", laid_strconv_ErrSyntax), ("gansey/operations.words", laid_gansey_operations_words), ("gansey/operations.dirs", laid_gansey_operations_dirs), ("unicode/utf8.first", laid_unicode_utf8_first)] }
def PassesValidSaid : Prop := passesValidRow.holds Tryd.pinned (OpenSpec.ofChange passesValidSpec)

/-- ITS FALSE NEIGHBOUR: 'it returns false'. Refute it at one input. -/
def passesValidWrong : ChangeSpec := { name := "passesValid", fn := fun _ => fun
  | [d1, d2, d3] => { results := [.lit (.bool false)], args := [d1, d2, d3] }
  | _ => none }
def PassesValidWrongFalsely : Prop := passesValidRow.holds Tryd.pinned (OpenSpec.ofChange passesValidWrong)

/-- 'ganseylaw10.PassesRow': WHATEVER THE INPUT: true; the input reads as it did. -/
def passesRowSpec : ChangeSpec := { name := "passesRow", fn := fun _ => fun
  | [d1, d2, d3] => { results := [.lit (.bool true)], args := [d1, d2, d3] }
  | _ => none }
def passesRowRow : OpenClaim := { program := "ytbalocjcbmkecaadoor", sum := "a23ac05a39f40b6890d4407beb165e9b5d74b7f92fcb214388a5a6a7befe9af0", func := "gansey/ganseylaw10.PassesRow", spec := "passesRow", inPlace := ["internal/bytealg.CountString", "internal/bytealg.IndexByteString", "internal/bytealg.IndexString", "internal/abi.NoEscape", "internal/bytealg.MakeNoZero"], unfollowed := true, recurses := true, named := ["unicode/utf8.first", "unicode/utf8.acceptRanges", "internal/bytealg.MaxLen", "gansey/operations.words", "strconv.ErrSyntax", "strconv.ErrRange", "internal/strconv.uint64pow10", "math/bits.deBruijn32tab", "math/bits.deBruijn64tab", "gansey/operations.dirs"], apart := false, laid := [("math/bits.deBruijn32tab", laid_math_bits_deBruijn32tab), ("math/bits.deBruijn64tab", laid_math_bits_deBruijn64tab), ("internal/strconv.uint64pow10", laid_internal_strconv_uint64pow10), ("unicode/utf8.acceptRanges", laid_unicode_utf8_acceptRanges), ("strconv.ErrRange", laid_strconv_ErrRange), ("strconv.ErrSyntax", laid_strconv_ErrSyntax), ("gansey/operations.words", laid_gansey_operations_words), ("gansey/operations.dirs", laid_gansey_operations_dirs), ("unicode/utf8.first", laid_unicode_utf8_first)] }
def PassesRowSaid : Prop := passesRowRow.holds Tryd.pinned (OpenSpec.ofChange passesRowSpec)

/-- ITS FALSE NEIGHBOUR: 'it returns false'. Refute it at one input. -/
def passesRowWrong : ChangeSpec := { name := "passesRow", fn := fun _ => fun
  | [d1, d2, d3] => { results := [.lit (.bool false)], args := [d1, d2, d3] }
  | _ => none }
def PassesRowWrongFalsely : Prop := passesRowRow.holds Tryd.pinned (OpenSpec.ofChange passesRowWrong)

/- THE SECOND FORM. 'bulk': how many values and letters a reading holds, each counted each time it is reached (what is shared counts as often as it is met; a slice's spare places count too). A statement '..UptoSaid' is the law's where the arguments, and the package variables that the reading takes, are together of bulk at most 1048576: NARROWER than '..Said'. Prove '..Said' where nothing that the law and all that it calls make is longer than what came in: it says more and counts as full. Else prove '..UptoSaid'. A law counts once. -/
mutual
def uptoBulk {H : Type} : DataW H → Nat
  | .lit (.string bytes) => bytes.length + 1
  | .lit _ => 1
  | .nil => 1
  | .ptr d => uptoBulk d + 1
  | .slice elems spare => uptoBulkAll elems + uptoBulkAll spare + 1
  | .agg parts => uptoBulkAll parts + 1
  | .iface _ d => uptoBulk d + 1
  | .map entries => uptoBulkEntries entries + 1
  | .held _ => 1
def uptoBulkAll {H : Type} : List (DataW H) → Nat
  | [] => 0
  | d :: r => uptoBulk d + uptoBulkAll r
def uptoBulkEntries {H : Type} : List (Lit × DataW H) → Nat
  | [] => 0
  | x :: r => uptoBulkEntry x + uptoBulkEntries r
def uptoBulkEntry {H : Type} : Lit × DataW H → Nat
  | (.string bytes, d) => bytes.length + uptoBulk d + 1
  | (_, d) => uptoBulk d + 1
 end
def uptoSmall : (H : Type) → List (DataW H) → Bool := fun _ ds => decide (uptoBulkAll ds ≤ 1048576)
def OpenSpec.upto (s : _root_.Go.ChangeSpec) : _root_.Go.OpenSpec := { _root_.Go.OpenSpec.ofChange s with cond := some uptoSmall }

/-- 'ganseylaw07.OperationsBack', WHERE WHAT IT READS IS OF BULK AT MOST 1048576: true; the input reads as it did. -/
def operationsBackUptoRow : OpenClaim := { program := "ytbalocjcbmkecaadoor", sum := "a23ac05a39f40b6890d4407beb165e9b5d74b7f92fcb214388a5a6a7befe9af0", func := "gansey/ganseylaw07.OperationsBack", spec := "operationsBack", inPlace := ["internal/bytealg.CountString", "internal/bytealg.IndexByteString", "internal/bytealg.IndexString", "internal/abi.NoEscape", "internal/bytealg.MakeNoZero"], recurses := true, named := ["unicode/utf8.first", "unicode/utf8.acceptRanges", "internal/bytealg.MaxLen", "gansey/operations.words", "strconv.ErrSyntax", "strconv.ErrRange", "internal/strconv.uint64pow10", "math/bits.deBruijn32tab", "math/bits.deBruijn64tab", "gansey/operations.dirs"], apart := false, laid := [("math/bits.deBruijn32tab", laid_math_bits_deBruijn32tab), ("math/bits.deBruijn64tab", laid_math_bits_deBruijn64tab), ("internal/strconv.uint64pow10", laid_internal_strconv_uint64pow10), ("unicode/utf8.acceptRanges", laid_unicode_utf8_acceptRanges), ("strconv.ErrRange", laid_strconv_ErrRange), ("strconv.ErrSyntax", laid_strconv_ErrSyntax), ("gansey/operations.words", laid_gansey_operations_words), ("gansey/operations.dirs", laid_gansey_operations_dirs), ("unicode/utf8.first", laid_unicode_utf8_first)], narrowed := true }
def OperationsBackUptoSaid : Prop := operationsBackUptoRow.holds Tryd.pinned (OpenSpec.upto operationsBackSpec)

/-- 'ganseylaw07.OperationsNear', WHERE WHAT IT READS IS OF BULK AT MOST 1048576: true; the input reads as it did. -/
def operationsNearUptoRow : OpenClaim := { program := "ytbalocjcbmkecaadoor", sum := "a23ac05a39f40b6890d4407beb165e9b5d74b7f92fcb214388a5a6a7befe9af0", func := "gansey/ganseylaw07.OperationsNear", spec := "operationsNear", inPlace := ["internal/bytealg.CountString", "internal/bytealg.IndexByteString", "internal/bytealg.IndexString", "internal/abi.NoEscape", "internal/bytealg.MakeNoZero"], recurses := true, named := ["unicode/utf8.first", "unicode/utf8.acceptRanges", "internal/bytealg.MaxLen", "gansey/operations.words", "strconv.ErrSyntax", "strconv.ErrRange", "internal/strconv.uint64pow10", "math/bits.deBruijn32tab", "math/bits.deBruijn64tab", "gansey/operations.dirs"], apart := false, laid := [("math/bits.deBruijn32tab", laid_math_bits_deBruijn32tab), ("math/bits.deBruijn64tab", laid_math_bits_deBruijn64tab), ("internal/strconv.uint64pow10", laid_internal_strconv_uint64pow10), ("unicode/utf8.acceptRanges", laid_unicode_utf8_acceptRanges), ("strconv.ErrRange", laid_strconv_ErrRange), ("strconv.ErrSyntax", laid_strconv_ErrSyntax), ("gansey/operations.words", laid_gansey_operations_words), ("gansey/operations.dirs", laid_gansey_operations_dirs), ("unicode/utf8.first", laid_unicode_utf8_first)], narrowed := true }
def OperationsNearUptoSaid : Prop := operationsNearUptoRow.holds Tryd.pinned (OpenSpec.upto operationsNearSpec)

/-- 'ganseylaw07.OperationsLines', WHERE WHAT IT READS IS OF BULK AT MOST 1048576: true; the input reads as it did. -/
def operationsLinesUptoRow : OpenClaim := { program := "ytbalocjcbmkecaadoor", sum := "a23ac05a39f40b6890d4407beb165e9b5d74b7f92fcb214388a5a6a7befe9af0", func := "gansey/ganseylaw07.OperationsLines", spec := "operationsLines", inPlace := ["internal/bytealg.CountString", "internal/bytealg.IndexByteString", "internal/bytealg.IndexString", "internal/abi.NoEscape", "internal/bytealg.MakeNoZero"], recurses := true, named := ["unicode/utf8.first", "unicode/utf8.acceptRanges", "internal/bytealg.MaxLen", "gansey/operations.words", "strconv.ErrSyntax", "strconv.ErrRange", "internal/strconv.uint64pow10", "math/bits.deBruijn32tab", "math/bits.deBruijn64tab", "gansey/operations.dirs"], apart := false, laid := [("math/bits.deBruijn32tab", laid_math_bits_deBruijn32tab), ("math/bits.deBruijn64tab", laid_math_bits_deBruijn64tab), ("internal/strconv.uint64pow10", laid_internal_strconv_uint64pow10), ("unicode/utf8.acceptRanges", laid_unicode_utf8_acceptRanges), ("strconv.ErrRange", laid_strconv_ErrRange), ("strconv.ErrSyntax", laid_strconv_ErrSyntax), ("gansey/operations.words", laid_gansey_operations_words), ("gansey/operations.dirs", laid_gansey_operations_dirs), ("unicode/utf8.first", laid_unicode_utf8_first)], narrowed := true }
def OperationsLinesUptoSaid : Prop := operationsLinesUptoRow.holds Tryd.pinned (OpenSpec.upto operationsLinesSpec)

/-- 'ganseylaw07.OperationsProgram', WHERE WHAT IT READS IS OF BULK AT MOST 1048576: true; the input reads as it did. -/
def operationsProgramUptoRow : OpenClaim := { program := "ytbalocjcbmkecaadoor", sum := "a23ac05a39f40b6890d4407beb165e9b5d74b7f92fcb214388a5a6a7befe9af0", func := "gansey/ganseylaw07.OperationsProgram", spec := "operationsProgram", inPlace := ["internal/bytealg.CountString", "internal/bytealg.IndexByteString", "internal/bytealg.IndexString", "internal/abi.NoEscape", "internal/bytealg.MakeNoZero"], recurses := true, named := ["unicode/utf8.first", "unicode/utf8.acceptRanges", "internal/bytealg.MaxLen", "gansey/operations.words", "strconv.ErrSyntax", "strconv.ErrRange", "internal/strconv.uint64pow10", "math/bits.deBruijn32tab", "math/bits.deBruijn64tab", "gansey/operations.dirs"], apart := false, laid := [("math/bits.deBruijn32tab", laid_math_bits_deBruijn32tab), ("math/bits.deBruijn64tab", laid_math_bits_deBruijn64tab), ("internal/strconv.uint64pow10", laid_internal_strconv_uint64pow10), ("unicode/utf8.acceptRanges", laid_unicode_utf8_acceptRanges), ("strconv.ErrRange", laid_strconv_ErrRange), ("strconv.ErrSyntax", laid_strconv_ErrSyntax), ("gansey/operations.words", laid_gansey_operations_words), ("gansey/operations.dirs", laid_gansey_operations_dirs), ("unicode/utf8.first", laid_unicode_utf8_first)], narrowed := true }
def OperationsProgramUptoSaid : Prop := operationsProgramUptoRow.holds Tryd.pinned (OpenSpec.upto operationsProgramSpec)

/-- 'ganseylaw07.OperationsLimit', WHERE WHAT IT READS IS OF BULK AT MOST 1048576: true; the input reads as it did. -/
def operationsLimitUptoRow : OpenClaim := { program := "ytbalocjcbmkecaadoor", sum := "a23ac05a39f40b6890d4407beb165e9b5d74b7f92fcb214388a5a6a7befe9af0", func := "gansey/ganseylaw07.OperationsLimit", spec := "operationsLimit", inPlace := ["internal/bytealg.CountString", "internal/bytealg.IndexByteString", "internal/bytealg.IndexString", "internal/abi.NoEscape", "internal/bytealg.MakeNoZero"], recurses := true, named := ["unicode/utf8.first", "unicode/utf8.acceptRanges", "internal/bytealg.MaxLen", "gansey/operations.words", "strconv.ErrSyntax", "strconv.ErrRange", "internal/strconv.uint64pow10", "math/bits.deBruijn32tab", "math/bits.deBruijn64tab", "gansey/operations.dirs"], apart := false, laid := [("math/bits.deBruijn32tab", laid_math_bits_deBruijn32tab), ("math/bits.deBruijn64tab", laid_math_bits_deBruijn64tab), ("internal/strconv.uint64pow10", laid_internal_strconv_uint64pow10), ("unicode/utf8.acceptRanges", laid_unicode_utf8_acceptRanges), ("strconv.ErrRange", laid_strconv_ErrRange), ("strconv.ErrSyntax", laid_strconv_ErrSyntax), ("gansey/operations.words", laid_gansey_operations_words), ("gansey/operations.dirs", laid_gansey_operations_dirs), ("unicode/utf8.first", laid_unicode_utf8_first)], narrowed := true }
def OperationsLimitUptoSaid : Prop := operationsLimitUptoRow.holds Tryd.pinned (OpenSpec.upto operationsLimitSpec)

/-- 'ganseylaw10.PassesTwo', WHERE WHAT IT READS IS OF BULK AT MOST 1048576: true; the input reads as it did. -/
def passesTwoUptoRow : OpenClaim := { program := "ytbalocjcbmkecaadoor", sum := "a23ac05a39f40b6890d4407beb165e9b5d74b7f92fcb214388a5a6a7befe9af0", func := "gansey/ganseylaw10.PassesTwo", spec := "passesTwo", inPlace := ["internal/bytealg.CountString", "internal/bytealg.IndexByteString", "internal/bytealg.IndexString", "internal/abi.NoEscape", "internal/bytealg.MakeNoZero"], unfollowed := true, recurses := true, named := ["unicode/utf8.first", "unicode/utf8.acceptRanges", "internal/bytealg.MaxLen", "gansey/operations.words", "strconv.ErrSyntax", "strconv.ErrRange", "internal/strconv.uint64pow10", "math/bits.deBruijn32tab", "math/bits.deBruijn64tab", "gansey/operations.dirs"], apart := false, laid := [("math/bits.deBruijn32tab", laid_math_bits_deBruijn32tab), ("math/bits.deBruijn64tab", laid_math_bits_deBruijn64tab), ("internal/strconv.uint64pow10", laid_internal_strconv_uint64pow10), ("unicode/utf8.acceptRanges", laid_unicode_utf8_acceptRanges), ("strconv.ErrRange", laid_strconv_ErrRange), ("strconv.ErrSyntax", laid_strconv_ErrSyntax), ("gansey/operations.words", laid_gansey_operations_words), ("gansey/operations.dirs", laid_gansey_operations_dirs), ("unicode/utf8.first", laid_unicode_utf8_first)], narrowed := true }
def PassesTwoUptoSaid : Prop := passesTwoUptoRow.holds Tryd.pinned (OpenSpec.upto passesTwoSpec)

/-- 'ganseylaw10.PassesInOut', WHERE WHAT IT READS IS OF BULK AT MOST 1048576: true; the input reads as it did. -/
def passesInOutUptoRow : OpenClaim := { program := "ytbalocjcbmkecaadoor", sum := "a23ac05a39f40b6890d4407beb165e9b5d74b7f92fcb214388a5a6a7befe9af0", func := "gansey/ganseylaw10.PassesInOut", spec := "passesInOut", inPlace := ["internal/bytealg.CountString", "internal/bytealg.IndexByteString", "internal/bytealg.IndexString", "internal/abi.NoEscape", "internal/bytealg.MakeNoZero"], unfollowed := true, recurses := true, named := ["unicode/utf8.first", "unicode/utf8.acceptRanges", "internal/bytealg.MaxLen", "gansey/operations.words", "strconv.ErrSyntax", "strconv.ErrRange", "internal/strconv.uint64pow10", "math/bits.deBruijn32tab", "math/bits.deBruijn64tab", "gansey/operations.dirs"], apart := false, laid := [("math/bits.deBruijn32tab", laid_math_bits_deBruijn32tab), ("math/bits.deBruijn64tab", laid_math_bits_deBruijn64tab), ("internal/strconv.uint64pow10", laid_internal_strconv_uint64pow10), ("unicode/utf8.acceptRanges", laid_unicode_utf8_acceptRanges), ("strconv.ErrRange", laid_strconv_ErrRange), ("strconv.ErrSyntax", laid_strconv_ErrSyntax), ("gansey/operations.words", laid_gansey_operations_words), ("gansey/operations.dirs", laid_gansey_operations_dirs), ("unicode/utf8.first", laid_unicode_utf8_first)], narrowed := true }
def PassesInOutUptoSaid : Prop := passesInOutUptoRow.holds Tryd.pinned (OpenSpec.upto passesInOutSpec)

/-- 'ganseylaw10.PassesValid', WHERE WHAT IT READS IS OF BULK AT MOST 1048576: true; the input reads as it did. -/
def passesValidUptoRow : OpenClaim := { program := "ytbalocjcbmkecaadoor", sum := "a23ac05a39f40b6890d4407beb165e9b5d74b7f92fcb214388a5a6a7befe9af0", func := "gansey/ganseylaw10.PassesValid", spec := "passesValid", inPlace := ["internal/bytealg.CountString", "internal/bytealg.IndexByteString", "internal/bytealg.IndexString", "internal/abi.NoEscape", "internal/bytealg.MakeNoZero"], unfollowed := true, recurses := true, named := ["unicode/utf8.first", "unicode/utf8.acceptRanges", "internal/bytealg.MaxLen", "gansey/operations.words", "strconv.ErrSyntax", "strconv.ErrRange", "internal/strconv.uint64pow10", "math/bits.deBruijn32tab", "math/bits.deBruijn64tab", "gansey/operations.dirs"], apart := false, laid := [("math/bits.deBruijn32tab", laid_math_bits_deBruijn32tab), ("math/bits.deBruijn64tab", laid_math_bits_deBruijn64tab), ("internal/strconv.uint64pow10", laid_internal_strconv_uint64pow10), ("unicode/utf8.acceptRanges", laid_unicode_utf8_acceptRanges), ("strconv.ErrRange", laid_strconv_ErrRange), ("strconv.ErrSyntax", laid_strconv_ErrSyntax), ("gansey/operations.words", laid_gansey_operations_words), ("gansey/operations.dirs", laid_gansey_operations_dirs), ("unicode/utf8.first", laid_unicode_utf8_first)], narrowed := true }
def PassesValidUptoSaid : Prop := passesValidUptoRow.holds Tryd.pinned (OpenSpec.upto passesValidSpec)

/-- 'ganseylaw10.PassesRow', WHERE WHAT IT READS IS OF BULK AT MOST 1048576: true; the input reads as it did. -/
def passesRowUptoRow : OpenClaim := { program := "ytbalocjcbmkecaadoor", sum := "a23ac05a39f40b6890d4407beb165e9b5d74b7f92fcb214388a5a6a7befe9af0", func := "gansey/ganseylaw10.PassesRow", spec := "passesRow", inPlace := ["internal/bytealg.CountString", "internal/bytealg.IndexByteString", "internal/bytealg.IndexString", "internal/abi.NoEscape", "internal/bytealg.MakeNoZero"], unfollowed := true, recurses := true, named := ["unicode/utf8.first", "unicode/utf8.acceptRanges", "internal/bytealg.MaxLen", "gansey/operations.words", "strconv.ErrSyntax", "strconv.ErrRange", "internal/strconv.uint64pow10", "math/bits.deBruijn32tab", "math/bits.deBruijn64tab", "gansey/operations.dirs"], apart := false, laid := [("math/bits.deBruijn32tab", laid_math_bits_deBruijn32tab), ("math/bits.deBruijn64tab", laid_math_bits_deBruijn64tab), ("internal/strconv.uint64pow10", laid_internal_strconv_uint64pow10), ("unicode/utf8.acceptRanges", laid_unicode_utf8_acceptRanges), ("strconv.ErrRange", laid_strconv_ErrRange), ("strconv.ErrSyntax", laid_strconv_ErrSyntax), ("gansey/operations.words", laid_gansey_operations_words), ("gansey/operations.dirs", laid_gansey_operations_dirs), ("unicode/utf8.first", laid_unicode_utf8_first)], narrowed := true }
def PassesRowUptoSaid : Prop := passesRowUptoRow.holds Tryd.pinned (OpenSpec.upto passesRowSpec)

end Rows
end Go.Proofs.YtbalocjcbmkecaaDoor
