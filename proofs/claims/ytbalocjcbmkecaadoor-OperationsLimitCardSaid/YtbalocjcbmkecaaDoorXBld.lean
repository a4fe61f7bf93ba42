/- A builder of strings of the call's own, with frames. Conditions: none. -/
import Derived.Test.YtbalocjcbmkecaaDoorXBuf
set_option linter.unusedVariables false
set_option linter.unusedSimpArgs false
namespace Go.Lw
open Go.RowKit
/-- The block b holds a builder whose text is l. -/
def Bld (T e b : Nat) (l : List UInt8) (w : World) : Prop := Lib.IsBuilder T e b b (Lib.byteCells l) w
theorem Bld.ext {T e b : Nat} {l : List UInt8} {w w' : World} (h : Bld T e b l w) (hf : Fr [] w w') : Bld T e b l w' := isB_fr h hf
theorem Bld.lt {T e b : Nat} {l : List UInt8} {w : World} (h : Bld T e b l w) : b < w.heap.size := h.elim Lib.BuilderAt.lt Lib.BuilderAt.lt
theorem Bld.new {T e b : Nat} {w : World} (h : Blk w b T [.pointer none, .slice none 0 0]) : Bld T e b [] w := .inl ⟨Nat.le_refl _, .slice none 0 0, h, ⟨rfl, .inl ⟨rfl, rfl⟩⟩, by simp [Value.ownBlock]⟩
theorem below_frS {w w' : World} {B : Nat} (h : Below B w w') : ∃ S : List Nat, (∀ k ∈ S, B ≤ k) ∧ Fr S w w' :=
  ⟨(List.range w.heap.size).filter (fun k => decide (B ≤ k)), fun k hk => by simpa using (List.mem_filter.1 hk).2, ⟨h.os, h.tape, h.output, h.size, fun k hk hn => h.block k (by
    rcases Nat.lt_or_ge k B with h' | h'
    · exact h'
    · exact absurd (List.mem_filter.2 ⟨List.mem_range.2 hk, by simpa using h'⟩) hn)⟩⟩
end Go.Lw
