/- Texts of the proof, joined. -/
import Derived.Shelf.Strconv.Atoi
import Derived.Shelf.Strconv.Itoa0
import Derived.Shelf.Strconv.Itoa1
import Derived.Shelf.LaysM
import Derived.Shelf.Strconv.Itoa2
import Derived.Shelf.Strconv.Itoa3
import Derived.Shelf.Strconv.AtoiErrFast
import Derived.Shelf.Strconv.ParseIntEmpty
import Derived.Shelf.Strconv.AtoiFail
import Derived.Shelf.Strconv.Clone
import Derived.Shelf.Strconv.SyntaxError
import Derived.Shelf.LaysC
import Derived.Shelf.Strconv.ToError
import Derived.Shelf.Strconv.AtoiErr
import Derived.Shelf.Strconv.ErrVar
import Derived.Shelf.Strconv.Lower
import Derived.Shelf.Strconv.ParseUint10
import Derived.Shelf.Strconv.ParseUint10Empty
import Derived.Shelf.Strconv.ParseUint10Any
import Derived.Shelf.Strconv.ParseInt10
import Derived.Shelf.Strconv.AtoiLong
import Derived.Shelf.Strconv.AtoiInnerAll
import Derived.Shelf.Strconv.RangeError
import Derived.Shelf.Strconv.ToErrorRange
import Derived.Shelf.Strconv.AtoiAll
import Derived.Shelf.Strconv.ErrVarAll
import Derived.Shelf.Strings.Search1
import Derived.Shelf.Strings.Search2
import Derived.Shelf.Strings.Search3
import Derived.Shelf.Strings.Cut
import Derived.Shelf.Strings.Count
import Derived.Shelf.Strings.Shaped
import Derived.Shelf.Strings.Split
import Derived.Shelf.Strings.SplitShaped
import Derived.Shelf.Unicode.DecodeSlow
import Derived.Test.YtgdlgjkjpbbniaaDoorProg
import Derived.Test.YtgdlgjkjpbbniaaDoorRows
import Derived.Lib.LaidTab
import Derived.LaidSub
import Derived.Test.YtgdlgjkjpbbniaaDoorCards
import Derived.Test.YtgdlgjkjpbbniaaDoorTie
import Derived.ChangeMaps5
import Derived.Test.YtgdlgjkjpbbniaaDoorX3
set_option linter.unusedVariables false
set_option linter.unusedSimpArgs false
namespace Go.Proofs
open Go.Shelf
def Tryd.lays171_ren : Go.Shelf.Ren := ⟨fun | 171 => 26 | 243 => 42 | 246 => 56 | 283 => 70 | 284 => 71 | 285 => 72 | 286 => 73 | 129 => 88 | 317 => 87 | 318 => 89 | 319 => 90 | 320 => 91 | 337 => 98 | 338 => 99 | n => n, fun | 3 => 3 | 9 => 9 | 2 => 2 | 4 => 4 | 171 => 124 | 0 => 0 | 53 => 125 | 37 => 22 | 5 => 5 | 173 => 128 | 212 => 144 | 51 => 145 | 20 => 20 | 213 => 146 | 46 => 141 | 232 => 167 | 233 => 168 | n => n, fun | 17 => 1 | 18 => 6 | 19 => 7 | n => n⟩
theorem Tryd.lays171 : Go.Proofs.Lays.n171 Tryd.prog Tryd.lays171_ren := {
  mixed := by kernel_rfl
  f129 := Tryd.func88.trans (congrArg some (by kernel_rfl))
  f171 := Tryd.func26.trans (congrArg some (by kernel_rfl))
  f243 := Tryd.func42.trans (congrArg some (by kernel_rfl))
  f246 := Tryd.func56.trans (congrArg some (by kernel_rfl))
  f283 := Tryd.func70.trans (congrArg some (by kernel_rfl))
  f284 := Tryd.func71.trans (congrArg some (by kernel_rfl))
  f285 := Tryd.func72.trans (congrArg some (by kernel_rfl))
  f286 := Tryd.func73.trans (congrArg some (by kernel_rfl))
  f317 := Tryd.func87.trans (congrArg some (by kernel_rfl))
  f318 := Tryd.func89.trans (congrArg some (by kernel_rfl))
  f319 := Tryd.func90.trans (congrArg some (by kernel_rfl))
  f320 := Tryd.func91.trans (congrArg some (by kernel_rfl))
  f337 := Tryd.func98.trans (congrArg some (by kernel_rfl))
  f338 := Tryd.func99.trans (congrArg some (by kernel_rfl))
  t0 := Tryd.underlying0
  a0 := Tryd.isAgg0
  z0 := Tryd.sizeOf0
  v0 := Tryd.zeroValue0
  t2 := Tryd.underlying2
  a2 := Tryd.isAgg2
  z2 := Tryd.sizeOf2
  v2 := Tryd.zeroValue2
  t3 := Tryd.underlying3
  a3 := Tryd.isAgg3
  z3 := Tryd.sizeOf3
  v3 := Tryd.zeroValue3
  t4 := Tryd.underlying4
  a4 := Tryd.isAgg4
  z4 := Tryd.sizeOf4
  v4 := Tryd.zeroValue4
  t5 := Tryd.underlying5
  a5 := Tryd.isAgg5
  z5 := Tryd.sizeOf5
  v5 := Tryd.zeroValue5
  t9 := Tryd.underlying9
  a9 := Tryd.isAgg9
  z9 := Tryd.sizeOf9
  v9 := Tryd.zeroValue9
  t20 := Tryd.underlying20
  a20 := Tryd.isAgg20
  z20 := Tryd.sizeOf20
  v20 := Tryd.zeroValue20
  t37 := Tryd.underlying22
  a37 := Tryd.isAgg22
  z37 := Tryd.sizeOf22
  v37 := Tryd.zeroValue22
  t46 := Tryd.underlying141
  a46 := Tryd.isAgg141
  z46 := Tryd.sizeOf141
  v46 := Tryd.zeroValue141
  t51 := Tryd.underlying145
  a51 := Tryd.isAgg145
  z51 := Tryd.sizeOf145
  v51 := Tryd.zeroValue145
  t53 := Tryd.underlying125
  a53 := Tryd.isAgg125
  z53 := Tryd.sizeOf125
  v53 := Tryd.zeroValue125
  t171 := Tryd.underlying124
  a171 := Tryd.isAgg124
  z171 := Tryd.sizeOf124
  v171 := Tryd.zeroValue124
  t173 := Tryd.underlying128
  a173 := Tryd.isAgg128
  z173 := Tryd.sizeOf128
  v173 := Tryd.zeroValue128
  t212 := Tryd.underlying144
  a212 := Tryd.isAgg144
  z212 := Tryd.sizeOf144
  v212 := Tryd.zeroValue144
  t213 := Tryd.underlying146
  a213 := Tryd.isAgg146
  z213 := Tryd.sizeOf146
  t232 := Tryd.underlying167
  a232 := Tryd.isAgg167
  z232 := Tryd.sizeOf167
  v232 := Tryd.zeroValue167
  t233 := Tryd.underlying168
  a233 := Tryd.isAgg168
  z233 := Tryd.sizeOf168
  v233 := Tryd.zeroValue168
  g17 := by kernel_rfl
  g18 := by kernel_rfl
  g19 := by kernel_rfl }
open Go.RowKit Go.Sort Go.Lib in
theorem Tryd.strconv_Itoa_small (i : Nat) (hi : i < 100) (w : World) :
    Calls Tryd.prog 26 #[.int .i64 i] w fun e w' => e = .returned (.string ⟨(Lib.decDigits i).toArray⟩) ∧ w' = w := Any.strconv_Itoa_small Tryd.lays171 i hi w
def Tryd.laysC172_ren : Go.Shelf.Ren := ⟨fun | 172 => 44 | 244 => 60 | 245 => 61 | 247 => 77 | 279 => 78 | 280 => 79 | 281 => 80 | 282 => 81 | 287 => 93 | 316 => 94 | 171 => 26 | 205 => 95 | 321 => 100 | 322 => 101 | 243 => 42 | 246 => 56 | 283 => 70 | 284 => 71 | 285 => 72 | 286 => 73 | 129 => 88 | 317 => 87 | 318 => 89 | 319 => 90 | 320 => 91 | 337 => 98 | 338 => 99 | n => n, fun | 9 => 9 | 3 => 3 | 75 => 101 | 76 => 102 | 4 => 4 | 5 => 5 | 167 => 134 | 37 => 22 | 0 => 0 | 85 => 135 | 2 => 2 | 168 => 137 | 53 => 125 | 175 => 148 | 46 => 141 | 210 => 152 | 127 => 163 | 145 => 166 | 143 => 164 | 21 => 21 | 171 => 124 | 173 => 128 | 212 => 144 | 51 => 145 | 20 => 20 | 213 => 146 | 232 => 167 | 233 => 168 | 80 => 169 | n => n, fun | 15 => 2 | 16 => 3 | 17 => 1 | 18 => 6 | 19 => 7 | n => n⟩
theorem Tryd.laysC172 : Go.Proofs.LaysC.n172 Tryd.prog Tryd.laysC172_ren := {
  mixed := by kernel_rfl
  f129 := Tryd.func88.trans (congrArg some (by kernel_rfl))
  f171 := Tryd.func26.trans (congrArg some (by kernel_rfl))
  f172 := Tryd.func44.trans (congrArg some (by kernel_rfl))
  f205 := Tryd.func95.trans (congrArg some (by kernel_rfl))
  f243 := Tryd.func42.trans (congrArg some (by kernel_rfl))
  f244 := Tryd.func60.trans (congrArg some (by kernel_rfl))
  f245 := Tryd.func61.trans (congrArg some (by kernel_rfl))
  f246 := Tryd.func56.trans (congrArg some (by kernel_rfl))
  f247 := Tryd.func77.trans (congrArg some (by kernel_rfl))
  f279 := Tryd.func78.trans (congrArg some (by kernel_rfl))
  f280 := Tryd.func79.trans (congrArg some (by kernel_rfl))
  f281 := Tryd.func80.trans (congrArg some (by kernel_rfl))
  f282 := Tryd.func81.trans (congrArg some (by kernel_rfl))
  f283 := Tryd.func70.trans (congrArg some (by kernel_rfl))
  f284 := Tryd.func71.trans (congrArg some (by kernel_rfl))
  f285 := Tryd.func72.trans (congrArg some (by kernel_rfl))
  f286 := Tryd.func73.trans (congrArg some (by kernel_rfl))
  f287 := Tryd.func93.trans (congrArg some (by kernel_rfl))
  f316 := Tryd.func94.trans (congrArg some (by kernel_rfl))
  f317 := Tryd.func87.trans (congrArg some (by kernel_rfl))
  f318 := Tryd.func89.trans (congrArg some (by kernel_rfl))
  f319 := Tryd.func90.trans (congrArg some (by kernel_rfl))
  f320 := Tryd.func91.trans (congrArg some (by kernel_rfl))
  f321 := Tryd.func100.trans (congrArg some (by kernel_rfl))
  f322 := Tryd.func101.trans (congrArg some (by kernel_rfl))
  f337 := Tryd.func98.trans (congrArg some (by kernel_rfl))
  f338 := Tryd.func99.trans (congrArg some (by kernel_rfl))
  t0 := Tryd.underlying0
  a0 := Tryd.isAgg0
  z0 := Tryd.sizeOf0
  v0 := Tryd.zeroValue0
  t2 := Tryd.underlying2
  a2 := Tryd.isAgg2
  z2 := Tryd.sizeOf2
  v2 := Tryd.zeroValue2
  t3 := Tryd.underlying3
  a3 := Tryd.isAgg3
  z3 := Tryd.sizeOf3
  v3 := Tryd.zeroValue3
  t4 := Tryd.underlying4
  a4 := Tryd.isAgg4
  z4 := Tryd.sizeOf4
  v4 := Tryd.zeroValue4
  t5 := Tryd.underlying5
  a5 := Tryd.isAgg5
  z5 := Tryd.sizeOf5
  v5 := Tryd.zeroValue5
  t9 := Tryd.underlying9
  a9 := Tryd.isAgg9
  z9 := Tryd.sizeOf9
  v9 := Tryd.zeroValue9
  t20 := Tryd.underlying20
  a20 := Tryd.isAgg20
  z20 := Tryd.sizeOf20
  v20 := Tryd.zeroValue20
  t21 := Tryd.underlying21
  a21 := Tryd.isAgg21
  z21 := Tryd.sizeOf21
  v21 := Tryd.zeroValue21
  t37 := Tryd.underlying22
  a37 := Tryd.isAgg22
  z37 := Tryd.sizeOf22
  v37 := Tryd.zeroValue22
  t46 := Tryd.underlying141
  a46 := Tryd.isAgg141
  z46 := Tryd.sizeOf141
  v46 := Tryd.zeroValue141
  t51 := Tryd.underlying145
  a51 := Tryd.isAgg145
  z51 := Tryd.sizeOf145
  v51 := Tryd.zeroValue145
  t53 := Tryd.underlying125
  a53 := Tryd.isAgg125
  z53 := Tryd.sizeOf125
  v53 := Tryd.zeroValue125
  t75 := Tryd.underlying101
  a75 := Tryd.isAgg101
  z75 := Tryd.sizeOf101
  v75 := Tryd.zeroValue101
  t76 := Tryd.underlying102
  a76 := Tryd.isAgg102
  z76 := Tryd.sizeOf102
  v76 := Tryd.zeroValue102
  t85 := Tryd.underlying135
  a85 := Tryd.isAgg135
  z85 := Tryd.sizeOf135
  v85 := Tryd.zeroValue135
  t127 := Tryd.underlying163
  a127 := Tryd.isAgg163
  z127 := Tryd.sizeOf163
  v127 := Tryd.zeroValue163
  t143 := Tryd.underlying164
  a143 := Tryd.isAgg164
  z143 := Tryd.sizeOf164
  v143 := Tryd.zeroValue164
  t145 := Tryd.underlying166
  a145 := Tryd.isAgg166
  z145 := Tryd.sizeOf166
  v145 := Tryd.zeroValue166
  t167 := Tryd.underlying134
  a167 := Tryd.isAgg134
  z167 := Tryd.sizeOf134
  v167 := Tryd.zeroValue134
  t168 := Tryd.underlying137
  a168 := Tryd.isAgg137
  z168 := Tryd.sizeOf137
  v168 := Tryd.zeroValue137
  t171 := Tryd.underlying124
  a171 := Tryd.isAgg124
  z171 := Tryd.sizeOf124
  v171 := Tryd.zeroValue124
  t173 := Tryd.underlying128
  a173 := Tryd.isAgg128
  z173 := Tryd.sizeOf128
  v173 := Tryd.zeroValue128
  t175 := Tryd.underlying148
  a175 := Tryd.isAgg148
  z175 := Tryd.sizeOf148
  v175 := Tryd.zeroValue148
  t210 := Tryd.underlying152
  a210 := Tryd.isAgg152
  z210 := Tryd.sizeOf152
  v210 := Tryd.zeroValue152
  t212 := Tryd.underlying144
  a212 := Tryd.isAgg144
  z212 := Tryd.sizeOf144
  v212 := Tryd.zeroValue144
  t213 := Tryd.underlying146
  a213 := Tryd.isAgg146
  z213 := Tryd.sizeOf146
  t232 := Tryd.underlying167
  a232 := Tryd.isAgg167
  z232 := Tryd.sizeOf167
  v232 := Tryd.zeroValue167
  t233 := Tryd.underlying168
  a233 := Tryd.isAgg168
  z233 := Tryd.sizeOf168
  v233 := Tryd.zeroValue168
  g15 := by kernel_rfl
  g16 := by kernel_rfl
  g17 := by kernel_rfl
  g18 := by kernel_rfl
  g19 := by kernel_rfl
  t80 := Tryd.underlying169
  a80 := Tryd.isAgg169
  z80 := Tryd.sizeOf169
  v80 := Tryd.zeroValue169
  i0 := by kernel_rfl
  i2 := by kernel_rfl
  i3 := by kernel_rfl
  i4 := by kernel_rfl
  i5 := by kernel_rfl
  i9 := by kernel_rfl
  i20 := by kernel_rfl
  i21 := by kernel_rfl
  i37 := by kernel_rfl
  i46 := by kernel_rfl
  i51 := by kernel_rfl
  i53 := by kernel_rfl
  i75 := by kernel_rfl
  i76 := by kernel_rfl
  i80 := by kernel_rfl
  i85 := by kernel_rfl
  i127 := by kernel_rfl
  i143 := by kernel_rfl
  i145 := by kernel_rfl
  i167 := by kernel_rfl
  i168 := by kernel_rfl
  i171 := by kernel_rfl
  i173 := by kernel_rfl
  i175 := by kernel_rfl
  i210 := by kernel_rfl
  i212 := by kernel_rfl
  i232 := by kernel_rfl
  i233 := by kernel_rfl
  m15 := by kernel_rfl
  m16 := by kernel_rfl
  m17 := by kernel_rfl
  m18 := by kernel_rfl
  m19 := by kernel_rfl
  c0 := by kernel_rfl
  c2 := by kernel_rfl
  c3 := by kernel_rfl
  c4 := by kernel_rfl
  c5 := by kernel_rfl
  c9 := by kernel_rfl
  c20 := by kernel_rfl
  c21 := by kernel_rfl
  c37 := by kernel_rfl
  c46 := by kernel_rfl
  c51 := by kernel_rfl
  c53 := by kernel_rfl
  c75 := by kernel_rfl
  c76 := by kernel_rfl
  c80 := by kernel_rfl
  c85 := by kernel_rfl
  c127 := by kernel_rfl
  c143 := by kernel_rfl
  c145 := by kernel_rfl
  c167 := by kernel_rfl
  c168 := by kernel_rfl
  c171 := by kernel_rfl
  c173 := by kernel_rfl
  c175 := by kernel_rfl
  c210 := by kernel_rfl
  c212 := by kernel_rfl
  c213 := by kernel_rfl
  c232 := by kernel_rfl
  c233 := by kernel_rfl }
open Go.RowKit in
theorem Tryd.strconv_Atoi_ok (s : ByteArray) (hmax : s.size ≤ 9223372036854775806) (v : Int) (h : Lib.atoiAll s.data.toList = .ok v) (w : World) :
    Calls Tryd.prog 44 #[.string s] w fun e w' => e = .returned (.tuple #[.int .i64 v, .nilIface]) ∧ (w' = w ∨ ∃ t, w' = Lib.bytesWorld w 5 t) := Any.strconv_Atoi_ok Tryd.laysC172 s hmax v h w
open Go.RowKit in
theorem Tryd.strconv_Atoi_syntax (s : ByteArray) (hlim : s.size ≤ 281474976710656) (h : Lib.atoiAll s.data.toList = Lib.atoiAll []) (ev : Value) (w : World) (hv : w.cell? ⟨2, 0, none⟩ = some ev) (hev : ev = .nilIface ∨ ∃ te pe, ev = .iface te pe) :
    Calls Tryd.prog 44 #[.string s] w fun e w' => ∃ N, e = .returned (.tuple #[.int .i64 (0), .iface 137 (.pointer (some ⟨N, 0, none⟩))]) ∧ w.heap.size ≤ N ∧ w'.heap[N]? = some (.cells #[.string ⟨#[65, 116, 111, 105]⟩, .string s, ev] 152 (0, 0)) ∧ Below w.heap.size w w' := Any.strconv_Atoi_syntax Tryd.laysC172 s hlim h ev w hv hev
open Go.RowKit in
theorem Tryd.strconv_Atoi_range (s : ByteArray) (hlim : s.size ≤ 281474976710656) (h : Lib.atoiAll s.data.toList = .range) (ev : Value) (w : World) (hv : w.cell? ⟨3, 0, none⟩ = some ev) (hev : ev = .nilIface ∨ ∃ te pe, ev = .iface te pe) :
    Calls Tryd.prog 44 #[.string s] w fun e w' => ∃ N, e = .returned (.tuple #[.int .i64 (Lib.atoiSat s.data.toList), .iface 137 (.pointer (some ⟨N, 0, none⟩))]) ∧ w.heap.size ≤ N ∧ w'.heap[N]? = some (.cells #[.string ⟨#[65, 116, 111, 105]⟩, .string s, ev] 152 (0, 0)) ∧ Below w.heap.size w w' := Any.strconv_Atoi_range Tryd.laysC172 s hlim h ev w hv hev
def Tryd.lays145_ren : Go.Shelf.Ren := ⟨fun | 145 => 29 | 220 => 45 | 219 => 62 | 217 => 82 | 225 => 83 | 224 => 84 | 267 => 85 | 266 => 96 | 314 => 97 | n => n, fun | 9 => 9 | 4 => 4 | 59 => 82 | 3 => 3 | 5 => 5 | 46 => 141 | 146 => 154 | 51 => 145 | n => n, fun | 1 => 0 | n => n⟩
theorem Tryd.lays145 : Go.Proofs.Lays.n145 Tryd.prog Tryd.lays145_ren := {
  mixed := by kernel_rfl
  f145 := Tryd.func29.trans (congrArg some (by kernel_rfl))
  f217 := Tryd.func82.trans (congrArg some (by kernel_rfl))
  f219 := Tryd.func62.trans (congrArg some (by kernel_rfl))
  f220 := Tryd.func45.trans (congrArg some (by kernel_rfl))
  f224 := Tryd.func84.trans (congrArg some (by kernel_rfl))
  f225 := Tryd.func83.trans (congrArg some (by kernel_rfl))
  f266 := Tryd.func96.trans (congrArg some (by kernel_rfl))
  f267 := Tryd.func85.trans (congrArg some (by kernel_rfl))
  f314 := Tryd.func97.trans (congrArg some (by kernel_rfl))
  t3 := Tryd.underlying3
  a3 := Tryd.isAgg3
  z3 := Tryd.sizeOf3
  v3 := Tryd.zeroValue3
  t4 := Tryd.underlying4
  a4 := Tryd.isAgg4
  z4 := Tryd.sizeOf4
  v4 := Tryd.zeroValue4
  t5 := Tryd.underlying5
  a5 := Tryd.isAgg5
  z5 := Tryd.sizeOf5
  v5 := Tryd.zeroValue5
  t9 := Tryd.underlying9
  a9 := Tryd.isAgg9
  z9 := Tryd.sizeOf9
  v9 := Tryd.zeroValue9
  t46 := Tryd.underlying141
  a46 := Tryd.isAgg141
  z46 := Tryd.sizeOf141
  v46 := Tryd.zeroValue141
  t51 := Tryd.underlying145
  a51 := Tryd.isAgg145
  z51 := Tryd.sizeOf145
  v51 := Tryd.zeroValue145
  t59 := Tryd.underlying82
  a59 := Tryd.isAgg82
  z59 := Tryd.sizeOf82
  v59 := Tryd.zeroValue82
  t146 := Tryd.underlying154
  a146 := Tryd.isAgg154
  z146 := Tryd.sizeOf154
  v146 := Tryd.zeroValue154
  g1 := by kernel_rfl }
open Go.RowKit Go.Lib in
theorem Tryd.strings_Cut (s sep : ByteArray) (m : Int) (w : World) (hs : s.size < 4294967281) (hm : w.cell? ⟨0, 0, none⟩ = some (.int .i64 m)) :
    Calls Tryd.prog 29 #[.string s, .string sep] w fun e w' => e = .returned (.tuple #[.string ⟨(Lib.cut s.data.toList sep.data.toList).1.toArray⟩, .string ⟨(Lib.cut s.data.toList sep.data.toList).2.1.toArray⟩, .bool (Lib.cut s.data.toList sep.data.toList).2.2]) ∧ ∃ n, w' = w.drewN n := Any.strings_Cut Tryd.lays145 s sep m w hs hm
def Tryd.lays146_ren : Go.Shelf.Ren := ⟨fun | 146 => 27 | 221 => 43 | 268 => 57 | 138 => 58 | 143 => 59 | 195 => 74 | 197 => 75 | 218 => 76 | 219 => 62 | 260 => 92 | 217 => 82 | 225 => 83 | 224 => 84 | 267 => 85 | 266 => 96 | 314 => 97 | n => n, fun | 9 => 9 | 31 => 79 | 3 => 3 | 4 => 4 | 0 => 0 | 105 => 131 | 21 => 21 | 5 => 5 | 46 => 141 | 119 => 157 | 139 => 160 | 138 => 159 | 146 => 154 | 51 => 145 | n => n, fun | 1 => 0 | 3 => 4 | 4 => 5 | n => n⟩
theorem Tryd.lays146 : Go.Proofs.Lays.n146 Tryd.prog Tryd.lays146_ren := {
  mixed := by kernel_rfl
  f138 := Tryd.func58.trans (congrArg some (by kernel_rfl))
  f143 := Tryd.func59.trans (congrArg some (by kernel_rfl))
  f146 := Tryd.func27.trans (congrArg some (by kernel_rfl))
  f195 := Tryd.func74.trans (congrArg some (by kernel_rfl))
  f197 := Tryd.func75.trans (congrArg some (by kernel_rfl))
  f217 := Tryd.func82.trans (congrArg some (by kernel_rfl))
  f218 := Tryd.func76.trans (congrArg some (by kernel_rfl))
  f219 := Tryd.func62.trans (congrArg some (by kernel_rfl))
  f221 := Tryd.func43.trans (congrArg some (by kernel_rfl))
  f224 := Tryd.func84.trans (congrArg some (by kernel_rfl))
  f225 := Tryd.func83.trans (congrArg some (by kernel_rfl))
  f260 := Tryd.func92.trans (congrArg some (by kernel_rfl))
  f266 := Tryd.func96.trans (congrArg some (by kernel_rfl))
  f267 := Tryd.func85.trans (congrArg some (by kernel_rfl))
  f268 := Tryd.func57.trans (congrArg some (by kernel_rfl))
  f314 := Tryd.func97.trans (congrArg some (by kernel_rfl))
  t0 := Tryd.underlying0
  a0 := Tryd.isAgg0
  z0 := Tryd.sizeOf0
  v0 := Tryd.zeroValue0
  t3 := Tryd.underlying3
  a3 := Tryd.isAgg3
  z3 := Tryd.sizeOf3
  v3 := Tryd.zeroValue3
  t4 := Tryd.underlying4
  a4 := Tryd.isAgg4
  z4 := Tryd.sizeOf4
  v4 := Tryd.zeroValue4
  t5 := Tryd.underlying5
  a5 := Tryd.isAgg5
  z5 := Tryd.sizeOf5
  v5 := Tryd.zeroValue5
  t9 := Tryd.underlying9
  a9 := Tryd.isAgg9
  z9 := Tryd.sizeOf9
  v9 := Tryd.zeroValue9
  t21 := Tryd.underlying21
  a21 := Tryd.isAgg21
  z21 := Tryd.sizeOf21
  v21 := Tryd.zeroValue21
  t31 := Tryd.underlying79
  a31 := Tryd.isAgg79
  z31 := Tryd.sizeOf79
  v31 := Tryd.zeroValue79
  t46 := Tryd.underlying141
  a46 := Tryd.isAgg141
  z46 := Tryd.sizeOf141
  v46 := Tryd.zeroValue141
  t51 := Tryd.underlying145
  a51 := Tryd.isAgg145
  z51 := Tryd.sizeOf145
  v51 := Tryd.zeroValue145
  t105 := Tryd.underlying131
  a105 := Tryd.isAgg131
  z105 := Tryd.sizeOf131
  v105 := Tryd.zeroValue131
  t119 := Tryd.underlying157
  a119 := Tryd.isAgg157
  z119 := Tryd.sizeOf157
  t138 := Tryd.underlying159
  a138 := Tryd.isAgg159
  z138 := Tryd.sizeOf159
  v138 := Tryd.zeroValue159
  t139 := Tryd.underlying160
  a139 := Tryd.isAgg160
  z139 := Tryd.sizeOf160
  v139 := Tryd.zeroValue160
  t146 := Tryd.underlying154
  a146 := Tryd.isAgg154
  z146 := Tryd.sizeOf154
  v146 := Tryd.zeroValue154
  g1 := by kernel_rfl
  g3 := by kernel_rfl
  g4 := by kernel_rfl }
open Go.RowKit Go.Lib in
theorem Tryd.strings_Split (s sep : ByteArray) (m : Int) (w : World) (hs : s.size < 4294967281) (hm : w.cell? ⟨0, 0, none⟩ = some (.int .i64 m)) (h1 : 1 ≤ sep.size) :
    Calls Tryd.prog 27 #[.string s, .string sep] w fun e w' =>
      e = .returned (.slice (some ⟨w.heap.size, 0, none⟩) (Lib.countB s sep + 1) (Lib.countB s sep + 1)) ∧ w' = w.alloc (.cells ((Lib.splitB sep 0 (Lib.countB s sep) s).map Value.string).toArray 9) := Any.strings_Split Tryd.lays146 (by kernel_rfl) s sep m w hs hm h1
end Go.Proofs
namespace Go.Proofs.YtgdlgjkjpbbniaaDoor
open Go.Lw Go.G21

/-- What the package-level variables hold. -/
structure Glob (w : World) : Prop where
  ml : IntAt 0 w
  es : ∃ te pe, w.cell? ⟨2, 0, none⟩ = some (.iface te pe)
  er : ∃ te pe, w.cell? ⟨3, 0, none⟩ = some (.iface te pe)
  sz : 8 ≤ w.heap.size
theorem Glob.fr {w w' : World} {S : List Nat} (h : Glob w) (hf : Fr S w w') (hS : ∀ k ∈ S, 8 ≤ k) : Glob w' := by
  have hn : ∀ g, g < 8 → g ∉ S := fun g hg e => by have := hS g e; omega
  exact ⟨h.ml.fr hf (hn _ (by decide)), let ⟨a, b, e⟩ := h.es; ⟨a, b, hf.cell e (hn _ (by decide))⟩, let ⟨a, b, e⟩ := h.er; ⟨a, b, hf.cell e (hn _ (by decide))⟩, Nat.le_trans h.sz hf.size⟩
theorem Glob.ext {w w' : World} (h : Glob w) (hf : Fr [] w w') : Glob w' := h.fr hf (by simp)
theorem itoa_ok (n : Int) (w0 : World) (h : 0 ≤ n ∧ n < 100) : Rets Tryd.prog 26 #[.int .i64 n] w0 fun v w' => v = S (dT n) ∧ w0 = w' := by
  obtain ⟨k, rfl⟩ := Int.eq_ofNat_of_zero_le h.1
  refine Calls.mono (Tryd.strconv_Itoa_small k (by omega) w0) ?_
  rintro e w' ⟨rfl, rfl⟩
  exact ⟨_, rfl, by rw [dec0_eq (by omega)]; rfl, rfl⟩
theorem bytes_fr (w : World) (t : ByteArray) : Fr [] w (Lib.bytesWorld w 5 t) := Fr.of_below (Lib.bytesWorld_below w 5 t)
theorem atoi_ok (l : List UInt8) (w0 : World) (hG : Glob w0) (hl : l.length ≤ 1000000) : Rets Tryd.prog 44 #[S l] w0 fun r w' => ∃ n e, ∃ b : Bool, r = .tuple #[.int .i64 n, e] ∧ (e = .nilIface ∧ b = false ∨ (∃ t p, e = .iface t p) ∧ b = true) ∧ (b = false → Lib.atoiAll l = .ok n) ∧ (b = true → ∀ v, Lib.atoiAll l ≠ .ok v) ∧ Fr [] w0 w' := by
  have hs : (⟨l.toArray⟩ : ByteArray).size = l.length := by simp [ByteArray.size]
  rcases h : Lib.atoiAll l with v | _ | _
  · refine Calls.mono (Tryd.strconv_Atoi_ok ⟨l.toArray⟩ (by omega) v (by simpa using h) w0) ?_
    rintro e w' ⟨rfl, hw⟩
    refine ⟨_, rfl, v, .nilIface, false, rfl, .inl ⟨rfl, rfl⟩, fun _ => rfl, (fun e => by cases e), ?_⟩
    rcases hw with rfl | ⟨t, rfl⟩
    · exact Fr.refl _ _
    · exact bytes_fr w0 t
  · obtain ⟨te, pe, he⟩ := hG.es
    refine Calls.mono (Tryd.strconv_Atoi_syntax ⟨l.toArray⟩ (by omega) (show Lib.atoiAll l = Lib.atoiAll [] from h) _ w0 he (.inr ⟨_, _, rfl⟩)) ?_
    rintro e w' ⟨N, rfl, _, _, hb⟩
    exact ⟨_, rfl, _, _, true, rfl, .inr ⟨⟨_, _, rfl⟩, rfl⟩, (fun e => by cases e), (fun _ v e => by cases e), Fr.of_below hb⟩
  · obtain ⟨te, pe, he⟩ := hG.er
    refine Calls.mono (Tryd.strconv_Atoi_range ⟨l.toArray⟩ (by omega) (by simpa using h) _ w0 he (.inr ⟨_, _, rfl⟩)) ?_
    rintro e w' ⟨N, rfl, _, _, hb⟩
    exact ⟨_, rfl, _, _, true, rfl, .inr ⟨⟨_, _, rfl⟩, rfl⟩, (fun e => by cases e), (fun _ v e => by cases e), Fr.of_below hb⟩
theorem split_ok (l sep : List UInt8) (w0 : World) (hG : Glob w0) (hl : l.length < 4294967281) (h1 : 1 ≤ sep.length) : Rets Tryd.prog 27 #[S l, S sep] w0 fun r w' => Lw.Own Enc.str 9 w0.heap.size w' r (Lib.split l sep) ∧ Fr [] w0 w' := by
  obtain ⟨k, hk⟩ := hG.ml
  have hs : (⟨l.toArray⟩ : ByteArray).size = l.length := by simp [ByteArray.size]
  have hs2 : (⟨sep.toArray⟩ : ByteArray).size = sep.length := by simp [ByteArray.size]
  refine Calls.mono (Tryd.strings_Split ⟨l.toArray⟩ ⟨sep.toArray⟩ k w0 (by omega) hk (by omega)) ?_
  rintro e w' ⟨rfl, rfl⟩
  have hd := Lib.splitB_data ⟨sep.toArray⟩ 0 (Lib.countB ⟨l.toArray⟩ ⟨sep.toArray⟩) ⟨l.toArray⟩
  have hc : Lib.countB ⟨l.toArray⟩ ⟨sep.toArray⟩ = Lib.count l sep := by simp [Lib.countB]
  have hn := Lib.splitB_all ⟨sep.toArray⟩ (by omega) 0 _ ⟨l.toArray⟩ rfl
  have hcl := Lib.countB_le ⟨sep.toArray⟩ (by omega) _ ⟨l.toArray⟩ (Nat.le_refl _)
  rw [hs] at hcl
  have he : Lib.split l sep = (Lib.splitB ⟨sep.toArray⟩ 0 (Lib.countB ⟨l.toArray⟩ ⟨sep.toArray⟩) ⟨l.toArray⟩).map (·.data.toList) := by rw [hd, hc]; rfl
  have hz : ∀ zs : List ByteArray, zs.map Value.string = (zs.map (·.data.toList)).flatMap Enc.str.enc := fun zs => by
    induction zs with
    | nil => rfl
    | cons z zs ih => rw [List.map_cons, List.map_cons, List.flatMap_cons, ← ih]; rfl
  refine ⟨_, rfl, .inr ⟨w0.heap.size, Lib.countB ⟨l.toArray⟩ ⟨sep.toArray⟩ + 1, _, by rw [he, List.length_map, hn], Nat.le_refl _, heap_alloc_new w0 _, by rw [he, List.length_map, hn]; exact Nat.le_refl _, by unfold maxLen; omega, ?_, ?_⟩, Fr.alloc [] w0 _⟩
  · rw [show Enc.str.sz = 1 from rfl, Nat.mul_one, List.size_toArray, List.length_map, hn]; exact Nat.le_refl _
  · rw [he, List.length_map, hn, show Enc.str.sz = 1 from rfl, Nat.mul_one, ← hz]
    exact List.take_of_length_le (by rw [List.length_map, hn]; exact Nat.le_refl _)
theorem scut_ok (l m : List UInt8) (w0 : World) (hG : Glob w0) (hl : l.length < 4294967281) : Rets Tryd.prog 29 #[S l, S m] w0 fun v w' => v = .tuple #[S (Lib.cut l m).1, S (Lib.cut l m).2.1, .bool (Lib.cut l m).2.2] ∧ Fr [] w0 w' := by
  obtain ⟨k, hk⟩ := hG.ml
  refine Calls.mono (Tryd.strings_Cut ⟨l.toArray⟩ ⟨m.toArray⟩ k w0 (by simpa [ByteArray.size] using hl) hk) ?_
  rintro e w' ⟨rfl, n, rfl⟩
  exact ⟨_, rfl, rfl, Fr.drewN _ _ _⟩
theorem numM_of {l : List UInt8} {most n : Int} {b : Bool} (hok : b = false → Lib.atoiAll l = .ok n) (hno : b = true → ∀ v, Lib.atoiAll l ≠ .ok v) : numM l most = if (b = true ∨ n < 1) ∨ most < n then 0 else n := by
  unfold numM
  cases b with
  | false =>
    rw [hok rfl]
    by_cases h : n < 1 ∨ most < n
    · rw [if_pos (h.elim (fun h => .inl (.inr h)) .inr)]; exact if_pos h
    · rw [if_neg (fun e => e.elim (fun e => e.elim (fun e => by cases e) (fun e => h (.inl e))) (fun e => h (.inr e)))]; exact if_neg h
  | true =>
    rw [if_pos (.inl (.inl rfl))]
    have := hno rfl
    split
    · rename_i v e; exact absurd e (this v)
    · rfl
end Go.Proofs.YtgdlgjkjpbbniaaDoor
namespace Go.Lw
theorem laid_at {P : Program} {W : World} {n : String} {d : DataW Unit} : ∀ {l : List (String × DataW Unit)} {ps : List MemPlace}, DataW.LaidVars P W l ps → (n, d) ∈ l →
    ∃ g t cs fuel p, P.globalNamed n = some g ∧ (P.globals[g]?).map (·.type) = some t ∧ W.var? P n = some cs ∧ DataW.trod (fun _ => ()) P W 0 (fun _ => true) false fuel t cs.toList = some (d, p)
  | [], _, _, hm => by simp at hm
  | (m, e) :: r, ps, h, hm => by
    obtain ⟨g, t, cs, fuel, p, q, e1, e2, e3, e4, hr, _⟩ := h
    rcases List.mem_cons.1 hm with e | hm
    · cases e; exact ⟨g, t, cs, fuel, p, e1, e2, e3, e4⟩
    · exact laid_at hr hm
theorem iface_of {H : Type} {enc : TypeId × Value → H} {P : Program} {w : World} {base : Nat} {sp : Nat → Bool} {held : Bool} {fuel : Nat} {t : TypeId} {ms} {cs : List Value} {nm : String} {d : DataW H} {p : List MemPlace}
    (ht : P.underlying t = some (.interface ms)) (h : DataW.trod enc P w base sp held fuel t cs = some (.iface nm d, p)) : ∃ u v, cs = [.iface u v] := by
  cases fuel with
  | zero => simp [DataW.trod] at h
  | succ fuel =>
    simp only [DataW.trod, ht] at h
    split at h <;> simp_all
theorem var_lt {P : Program} {W : World} {n : String} {g : Nat} {cs : Array Value} (hg : P.globalNamed n = some g) (h : W.var? P n = some cs) : g < W.heap.size := by
  unfold World.var? at h
  simp only [hg, Option.bind_some] at h
  rcases Nat.lt_or_ge g W.heap.size with h' | h'
  · exact h'
  · rw [Array.getElem?_eq_none h'] at h; simp at h
end Go.Lw
namespace Go.Proofs.YtgdlgjkjpbbniaaDoor
open Go.ChangeShapes Go.WideShapes Go.ChangeAt Go.RowKit Go.Lw

theorem own : ownKnob Tryd.prog.godebug = none := by kernel_rfl
theorem laidOut : laidOutB Tryd.prog = true := by kernel_rfl
/-- What the rows list. -/
def laidL : List (String × DataW Unit) := [("math/bits.deBruijn32tab", Rows.laid_math_bits_deBruijn32tab), ("math/bits.deBruijn64tab", Rows.laid_math_bits_deBruijn64tab), ("internal/strconv.uint64pow10", Rows.laid_internal_strconv_uint64pow10), ("unicode/utf8.acceptRanges", Rows.laid_unicode_utf8_acceptRanges), ("strconv.ErrRange", Rows.laid_strconv_ErrRange), ("strconv.ErrSyntax", Rows.laid_strconv_ErrSyntax), ("unicode/utf8.first", Rows.laid_unicode_utf8_first)]
theorem err_at {n nm : String} {d : DataW Unit} {W : World} {l : List (String × DataW Unit)} {ps : List MemPlace} {g : Nat} (hL : DataW.LaidVars Tryd.prog W l ps) (hm : (n, .iface nm d) ∈ l) (hg : Tryd.prog.globalNamed n = some g) (hty : (Tryd.prog.globals[g]?).map (·.type) = some 101) : ∃ te pe, W.cell? ⟨g, 0, none⟩ = some (.iface te pe) := by
  obtain ⟨g', t', cs, fuel, p, e1, e2, e3, e4⟩ := laid_at hL hm
  cases hg.symm.trans e1
  cases hty.symm.trans e2
  obtain ⟨u, v, hc⟩ := iface_of Tryd.underlying101 e4
  exact ⟨u, v, by rw [World.var?_cell hg e3 0, ← Array.getElem?_toList, hc]; rfl⟩
theorem glob_of {W : World} (h : laidMetH Tryd.prog laidL W) (hSh : W.ShapedOpen Tryd.prog) : Glob W := by
  have h' : laidMet Tryd.prog laidL W := h
  obtain ⟨ps, hL, _, _⟩ := h'
  refine ⟨(Go.Proofs.cell_of_shapedOpen_int (zero := #[.int .i64 0]) (t := 3) hSh (of_decide_eq_true (by kernel_rfl)) (by kernel_rfl) rfl (by kernel_rfl) (by kernel_rfl) Tryd.underlying3), ?_, ?_, ?_⟩
  · exact err_at (n := "strconv.ErrSyntax") hL (by unfold laidL; simp only [Rows.laid_strconv_ErrSyntax]; simp; exact ⟨rfl, rfl⟩) (by kernel_rfl) (by kernel_rfl)
  · exact err_at (n := "strconv.ErrRange") hL (by unfold laidL; simp only [Rows.laid_strconv_ErrRange]; simp; exact ⟨rfl, rfl⟩) (by kernel_rfl) (by kernel_rfl)
  · obtain ⟨g', t', cs, fuel, p, e1, e2, e3, e4⟩ := laid_at (n := "math/bits.deBruijn64tab") (d := Rows.laid_math_bits_deBruijn64tab) hL (by simp [laidL])
    have := var_lt (show Tryd.prog.globalNamed "math/bits.deBruijn64tab" = some 7 by kernel_rfl) e3
    omega
def plainL : List (String × DataW Unit) := laidL.filter fun p => match p.2 with | .iface _ _ => false | _ => true
noncomputable def witP (os : Os) : World := laidW Tryd.prog os plainL
noncomputable def layErr (w : World) (g : Nat) (s : List UInt8) : World := layW (w.alloc (.cells #[.string ⟨s.toArray⟩] 166)) g #[.iface 164 (.pointer (some ⟨w.heap.size, 0, none⟩))]
noncomputable def witW (os : Os) : World := layErr (layErr (witP os) 3 [118, 97, 108, 117, 101, 32, 111, 117, 116, 32, 111, 102, 32, 114, 97, 110, 103, 101]) 2 [105, 110, 118, 97, 108, 105, 100, 32, 115, 121, 110, 116, 97, 120]

end Go.Proofs.YtgdlgjkjpbbniaaDoor
namespace Go.Proofs.YtgdlgjkjpbbniaaDoor
open Go.Lw
def encTub : Enc (Int × SV) := ⟨fun p => [.int .i64 p.1, slv p.2], 2, fun _ => rfl, fun _ u h => by simp [slv] at h; rcases h with rfl | rfl <;> rfl, by decide⟩
theorem opTub_len {cs : List Value} (h : cs.length = 2) : ∃ c0 c1, cs = [c0, c1] := match cs, h with | [c0, c1], _ => ⟨c0, c1, rfl⟩
theorem opTub : Opens Tryd.prog 26 encTub (fun w y => SlR Enc.b (fun _ _ => True) w y.2) := by
  intro H enc w base sp held fuel cs x h
  obtain ⟨xs, n, _, _, hl, hlen, hf⟩ := DataW.trod_struct Tryd.underlying26 h
  rw [show Tryd.prog.cellsOf 26 = 2 by kernel_rfl] at hl
  obtain ⟨c0, c1, rfl⟩ := opTub_len hl
  have h0 : DataW.trod enc Tryd.prog w base sp held n 3 (([c0, c1].drop 0).take (Tryd.prog.cellsOf 3)) = xs[0]? := hf 0 _ rfl
  rw [show Tryd.prog.cellsOf 3 = 1 by kernel_rfl] at h0
  obtain ⟨y0, e0, r0⟩ := opens_field (cs := [c0]) h0 hlen (by decide) (opens_i64 Tryd.underlying3)
  have h1 : DataW.trod enc Tryd.prog w base sp held n 22 (([c0, c1].drop 1).take (Tryd.prog.cellsOf 22)) = xs[1]? := hf 1 _ rfl
  rw [show Tryd.prog.cellsOf 22 = 1 by kernel_rfl] at h1
  obtain ⟨y1, e1, r1⟩ := opens_field (cs := [c1]) h1 hlen (by decide) (opens_slice Tryd.underlying22 (by kernel_rfl) (opens_b Tryd.underlying5))
  cases e0
  cases e1
  exact ⟨(y0, y1), rfl, r1⟩
end Go.Proofs.YtgdlgjkjpbbniaaDoor
namespace Go.Proofs.YtgdlgjkjpbbniaaDoor
open Go.Lw Go.G21
theorem co44 : CallOf Tryd.prog 44 := CallOf.mk' Tryd.func44 (by kernel_rfl) (by kernel_rfl)
theorem number_ok (l : List UInt8) (most : Int) (w0 : World) (hG : Glob w0) (hl : l.length ≤ 1000000) : Rets Tryd.prog 28 #[S l, .int .i64 most] w0 fun v w' => v = .int .i64 (numM l most) ∧ Fr [] w0 w' := by
 have hGs := hG.sz
 refine we [(0, S l), (1, .int .i64 most)] Tryd.func28 rfl Tryd.ntmps28 rfl (.cons rfl (.cons rfl .nil)) ?_
 have hG0 := hG
 refine sr (asg rfl rfl (nn (sr (mv rfl rfl ?_))))
 refine cl (ev1 rfl) co44 (atoi_ok _ _ hG (by omega)) rfl ?_
 rintro _ w1 ⟨n, e, b, rfl, hb, hok, hno, q1⟩
 have z1 := q1.size
 refine mv rfl rfl (xt rfl rfl rfl (xt rfl rfl rfl (asg rfl rfl (asg rfl rfl (kpL [(1, _), (5, _), (6, _)] (.cons rfl (.cons rfl (.cons rfl .nil))) (nn (sq (sq ?_))))))))
 refine rbo (r := 22) (L' := [(5, _)]) ((((b = true) ∨ (n < 1)) ∨ (most < n))) (.cons rfl .nil) ?_ ?_
 · refine mv rfl rfl ?_
   refine s_neNil rfl Tryd.underlying101 hb rfl ?_
   refine mv rfl rfl ?_
   refine gs 14 rfl (fun g0 => ?_) (fun g0 => ?_)
   · exact gN rfl rfl rfl (gN rfl rfl rfl (pkt rfl rfl rfl rfl (mv rfl rfl (gN rfl rfl rfl (gN rfl rfl rfl (gN rfl rfl rfl (pkt rfl rfl rfl rfl (rbe rfl (by first | exact bt (by omega) | exact bf (by omega) | exact bi (by omega) | exact bn (by omega) | (simp_all; done) | (simp_all; omega)) (.cons rfl .nil)))))))))
   · refine gY rfl (mv rfl rfl (gY rfl (lt' rfl rfl rfl (pkf rfl rfl rfl rfl (mv rfl rfl ?_)))))
     refine gs 18 rfl (fun g1 => ?_) (fun g1 => ?_)
     · exact gN rfl rfl rfl (gN rfl rfl rfl (gN rfl rfl rfl (pkt rfl rfl rfl rfl (rbe rfl (by first | exact bt (by omega) | exact bf (by omega) | exact bi (by omega) | exact bn (by omega) | (simp_all; done) | (simp_all; omega)) (.cons rfl .nil)))))
     · exact gY rfl (mv rfl rfl (gY rfl (mv rfl rfl (gY rfl (gt' rfl rfl rfl (pkf rfl rfl rfl rfl (rbe rfl (by first | exact bt (by omega) | exact bf (by omega) | exact bi (by omega) | exact bn (by omega) | (simp_all; done) | (simp_all; omega)) (.cons rfl .nil))))))))
 · refine tn ?_
   refine cd rfl (fun c0 => ?_) (fun c0 => ?_)
   · refine sr (asg rfl rfl (nn (rt (tr (r1 Tryd.results28 rfl ?_)))))
     exact ⟨_, rfl, by rw [numM_of hok hno, if_pos c0], q1⟩
   · refine sk (tn (sr (mv rfl rfl (asg rfl rfl (nn (rt (r1 Tryd.results28 rfl ?_)))))))
     exact ⟨_, rfl, by rw [numM_of hok hno, if_neg c0]; rfl, q1⟩
end Go.Proofs.YtgdlgjkjpbbniaaDoor
namespace Go.Proofs.YtgdlgjkjpbbniaaDoor
open Go.Lw Go.G21
theorem co26 : CallOf Tryd.prog 26 := CallOf.mk' Tryd.func26 (by kernel_rfl) (by kernel_rfl)
theorem text_ok (wd : Int) (v : Value) (rs : List UInt8) (w0 : World) (hs : Sl Enc.b w0 v rs) : Rets Tryd.prog 13 #[.agg #[.int .i64 wd, v]] w0 fun r w' => r = S (if tubE wd rs = 0 then textT wd rs else []) ∧ Fr [] w0 w' := by
 obtain ⟨A, c, rfl, hcc, hM, hA⟩ := id hs
 clear hA
 unfold maxLen at hM
 refine we [(0, .agg #[.int .i64 wd, .slice A rs.length c])] Tryd.func13 rfl Tryd.ntmps13 rfl (.cons rfl .nil) ?_
 have hs0 := hs
 refine sr (bx rfl rfl rfl (fun g1 w1 hg1 hb1 q1 z1 => ?_))
 refine asg rfl rfl (nn (sc (sq (sr (s_loadBA rfl hb1 ag26 rfl ?_)))))
 replace hs := hs0.ext q1
 refine cl (ev1 rfl) co17 (tcheck_ok _ _ _ _ hs) rfl ?_
 rintro _ w2 ⟨rfl, q2⟩
 have z2 := q2.size
 refine ne' rfl rfl rfl (nn ?_)
 refine cd rfl (fun c0 => ?_) (fun c0 => ?_)
 · refine sr (asg rfl rfl (nn (rt (tr (gr' (r1 Tryd.results13 rfl ?_))))))
   exact ⟨_, rfl, by rw [if_neg c0]; rfl, (q1.next q2)⟩
 · have h0 : tubE wd rs = 0 := Classical.not_not.1 c0
   obtain ⟨hw1, hw16, hl1, hl31, hv⟩ := tub_of h0
   have hd0 := dT_le wd
   refine sk (tn (sr (fad rfl fa26_0 rfl ?_)))
   replace hb1 := hb1.ext q2
   refine s_loadB rfl hb1 rfl na3 rfl ?_
   refine cl (ev1 rfl) co26 (itoa_ok _ _ (by omega)) rfl ?_
   rintro _ _ ⟨rfl, rfl⟩
   refine s_adds rfl rfl (by first | (simp only [List.length_append, List.length_cons, List.length_nil]; omega) | omega | (simp; done) | (simp; omega)) rfl (asg rfl rfl (nn (sr (asg rfl rfl (nn (sq (lb (tn (sq (bl ?_))))))))))
   refine lpK (ι := Nat × List UInt8) [(1, _)] (fun p => [(4, .int .i64 (p.1 : Int)), (3, S p.2)]) (fun p w' => Fr [] w2 w' ∧ p.1 ≤ rs.length ∧ p.2.length ≤ 7 + 8 * p.1 ∧ p.2 ++ textR (rs.drop p.1) = textT wd rs) (fun p => rs.length - p.1) (0, [116, 117, 98, 101, 32] ++ dT wd) (.cons rfl (.cons rfl (.cons rfl .nil))) ⟨Fr.refl _ _, ⟨Nat.zero_le _, by simp only [List.length_append, List.length_cons, List.length_nil]; omega, rfl⟩⟩ ?_
   rintro ⟨i, acc⟩ w3 ⟨q3, ⟨hi, hal, hT⟩⟩
   simp only at hi hal hT
   have z3 := q3.size
   refine kpC [(1, _), (4, .int .i64 (i : Int)), (3, S acc)] (.cons rfl (.cons rfl (.cons rfl .nil))) ?_
   refine sq (sr (mv rfl rfl (fad rfl fa26_1 rfl ?_)))
   replace hb1 := hb1.ext q3
   refine s_loadB rfl hb1 rfl na22 rfl (lnS rfl Tryd.underlying22 rfl (lt' rfl rfl rfl (nn ?_)))
   refine cd rfl (fun c1 => ?_) (fun c1 => ?_)
   · have hy := hv _ (mem_getD (d := 0) (i := i) (by omega))
     have hd1 := dT_le (((rs.getD i 0)).toNat : Int)
     refine sk (tn (bl (sr (fad rfl fa26_1 rfl (s_loadB rfl hb1 rfl na22 rfl (mv rfl rfl ?_))))))
     replace hs := hs0.ext ((q1.next q2).next q3)
     refine s_idxL (p := i) ((0 : UInt8)) rfl hs rfl el22 (by omega) (by omega) (by omega) rfl (fun ad22 hc22 => ?_)
     refine s_loadC0 rfl (hc22 _ hs) na5 rfl (asg rfl rfl (kpL [(1, _), (3, _), (4, _), (5, _)] (.cons rfl (.cons rfl (.cons rfl (.cons rfl .nil)))) (nn (sr (mv rfl rfl (mv rfl rfl (s_conv rfl (us Tryd.underlying5) Tryd.underlying3 (wi6 (by omega)) rfl ?_)))))))
     refine cl (ev1 rfl) co26 (itoa_ok _ _ (by omega)) rfl ?_
     rintro _ _ ⟨rfl, rfl⟩
     refine s_adds rfl rfl (by first | (simp only [List.length_append, List.length_cons, List.length_nil]; omega) | omega | (simp; done) | (simp; omega)) rfl (s_adds rfl rfl (by first | (simp only [List.length_append, List.length_cons, List.length_nil]; omega) | omega | (simp; done) | (simp; omega)) rfl (asg rfl rfl (kpL [(1, _), (3, _), (4, _), (5, _)] (.cons rfl (.cons rfl (.cons rfl (.cons rfl .nil)))) (nn (sr (asg rfl rfl (nn (bl ?_))))))))
     refine lpK (ι := Nat) [(1, _), (3, _), (4, _), (5, _)] (fun k => [(6, .int .i64 (k : Int))]) (fun k w' => Fr [] w3 w' ∧ 1 ≤ k ∧ i + k ≤ rs.length ∧ ∀ j, i ≤ j → j < i + k → rs.getD j 0 = rs.getD i 0) (fun k => rs.length - k) 1 (.cons rfl (.cons rfl (.cons rfl (.cons rfl (.cons rfl .nil))))) ⟨Fr.refl _ _, ⟨Nat.le_refl _, by omega, fun j h1 h2 => by rw [show j = i by omega]⟩⟩ ?_
     rintro k w4 ⟨q4, ⟨hk1, hkl, hk⟩⟩
     have z4 := q4.size
     refine kpC [(1, _), (3, _), (4, _), (5, _), (6, _)] (.cons rfl (.cons rfl (.cons rfl (.cons rfl (.cons rfl .nil))))) ?_
     refine sq (bl (sq (sq ?_)))
     refine rbo (r := 49) (L' := [(1, _), (3, _), (4, _), (5, _), (6, _)]) (((((i : Int) + (k : Int)) < (rs.length : Int)) ∧ (((rs.getD (i + k) 0).toNat : Int) = ((rs.getD i 0).toNat : Int)))) (.cons rfl (.cons rfl (.cons rfl (.cons rfl (.cons rfl .nil))))) ?_ ?_
     · refine mv rfl rfl (mv rfl rfl (s_add rfl rfl (wi6 (by omega)) rfl (fad rfl fa26_1 rfl ?_)))
       replace hb1 := hb1.ext q4
       refine s_loadB rfl hb1 rfl na22 rfl (lnS rfl Tryd.underlying22 rfl (lt' rfl rfl rfl (mv rfl rfl ?_)))
       refine gs 39 rfl (fun g0 => ?_) (fun g0 => ?_)
       · refine gY rfl (fad rfl fa26_1 rfl (gY rfl (s_loadB rfl hb1 rfl na22 rfl (gY rfl (mv rfl rfl (gY rfl (mv rfl rfl (gY rfl (s_add rfl rfl (wi6 (by omega)) rfl (gY rfl ?_))))))))))
         replace hs := hs0.ext (((q1.next q2).next q3).next q4)
         refine s_idxL (p := (i + k)) ((0 : UInt8)) rfl hs rfl el22 (by omega) (by omega) (by omega) rfl (fun ad45 hc45 => ?_)
         exact gY rfl (s_loadC0 rfl (hc45 _ hs) na5 rfl (gY rfl (mv rfl rfl (gY rfl (eq' rfl rfl rfl (pkt rfl rfl rfl rfl (rbe rfl (by first | exact bt (by omega) | exact bf (by omega) | exact bi (by omega) | exact bn (by omega) | (simp_all; done) | (simp_all; omega)) (.cons rfl (.cons rfl (.cons rfl (.cons rfl (.cons rfl .nil))))))))))))
       · exact gN rfl rfl rfl (gN rfl rfl rfl (gN rfl rfl rfl (gN rfl rfl rfl (gN rfl rfl rfl (gN rfl rfl rfl (gN rfl rfl rfl (gN rfl rfl rfl (gN rfl rfl rfl (pkf rfl rfl rfl rfl (rbe rfl (by first | exact bt (by omega) | exact bf (by omega) | exact bi (by omega) | exact bn (by omega) | (simp_all; done) | (simp_all; omega)) (.cons rfl (.cons rfl (.cons rfl (.cons rfl (.cons rfl .nil)))))))))))))))
     · refine tn ?_
       refine cd rfl (fun c2 => ?_) (fun c2 => ?_)
       · refine ex (te (xh (tn (rg (mv rfl rfl (s_add rfl rfl (wi6 (by omega)) rfl (asg rfl rfl (nl ?_))))))))
         exact lpE (k + 1) (.cons rfl (.cons rfl (.cons rfl (.cons rfl (.cons rfl .nil))))) ⟨q4, ⟨by omega, by omega, fun j h1 h2 => by
             by_cases e : j < i + k
             · exact hk j h1 e
             · rw [show j = i + k by omega]; exact UInt8.toNat_inj.1 (by omega)⟩⟩ (by omega)
       · refine sk (tn (sq (sr (mv rfl rfl (gt' rfl rfl rfl (nn ?_))))))
         refine cd rfl (fun c3 => ?_) (fun c3 => ?_)
         · have hd2 := dT_le (k : Int)
           refine rg (mv rfl rfl (mv rfl rfl ?_))
           refine cl (ev1 rfl) co26 (itoa_ok _ _ (by omega)) rfl ?_
           rintro _ _ ⟨rfl, rfl⟩
           refine s_adds rfl rfl (by first | (simp only [List.length_append, List.length_cons, List.length_nil]; omega) | omega | (simp; done) | (simp; omega)) rfl (s_adds rfl rfl (by first | (simp only [List.length_append, List.length_cons, List.length_nil]; omega) | omega | (simp; done) | (simp; omega)) rfl (asg rfl rfl (kpL [(1, _), (3, _), (4, _), (6, _)] (.cons rfl (.cons rfl (.cons rfl (.cons rfl .nil)))) (nl (tn (sr (mv rfl rfl (mv rfl rfl (s_add rfl rfl (wi6 (by omega)) rfl (asg rfl rfl (nn ?_)))))))))))
           refine ex (xo rfl (te (te (xo rfl (xh ?_)))))
           exact lpE ((i + k, acc ++ (32 :: dT (((rs.getD i 0)).toNat : Int)) ++ (120 :: dT (k : Int)))) (.cons rfl (.cons rfl (.cons rfl .nil))) ⟨(q3.next q4), ⟨by simp only; omega, (by simp only [List.length_append, List.length_cons, List.length_nil]; omega), (by have hr := run_end (rs := rs) (i := i) (k := i + k) (by omega) (by omega) hk (by first | exact .inl (by omega) | exact .inr (fun e => c2 ⟨by omega, by rw [e]⟩) | (by_cases e_ : i + k < rs.length; exact .inr (fun e => c2 ⟨by omega, by rw [e]⟩); exact .inl (by omega))); rw [Nat.add_sub_cancel_left] at hr; unfold Go.G21.runT at hr; rw [if_pos (by omega)] at hr; rw [hr] at hT; simpa [dT] using hT)⟩⟩ (by simp only; omega)
         · refine sk (tn (sr (mv rfl rfl (mv rfl rfl (s_add rfl rfl (wi6 (by omega)) rfl (asg rfl rfl (nn (ex (xo rfl (te (te ?_)))))))))))
           refine xo rfl (xh ?_)
           exact lpE ((i + k, acc ++ (32 :: dT (((rs.getD i 0)).toNat : Int)))) (.cons rfl (.cons rfl (.cons rfl .nil))) ⟨(q3.next q4), ⟨by simp only; omega, (by simp only [List.length_append, List.length_cons, List.length_nil]; omega), (by have hr := run_end (rs := rs) (i := i) (k := i + k) (by omega) (by omega) hk (by first | exact .inl (by omega) | exact .inr (fun e => c2 ⟨by omega, by rw [e]⟩) | (by_cases e_ : i + k < rs.length; exact .inr (fun e => c2 ⟨by omega, by rw [e]⟩); exact .inl (by omega))); rw [Nat.add_sub_cancel_left] at hr; unfold Go.G21.runT at hr; rw [if_neg (by omega)] at hr; rw [hr] at hT; simpa [dT] using hT)⟩⟩ (by simp only; omega)
   · have hie : i = rs.length := by omega
     rw [hie, List.drop_length, textR_nil, List.append_nil] at hT
     refine ex (te (te (xh (tn (sr (mv rfl rfl (asg rfl rfl (nn (rt (gr' (r1 Tryd.results13 rfl ?_)))))))))))
     exact ⟨_, rfl, by rw [if_pos h0, ← hT], ((q1.next q2).next q3)⟩
end Go.Proofs.YtgdlgjkjpbbniaaDoor
namespace Go.Proofs.YtgdlgjkjpbbniaaDoor
open Go.Lw Go.G21

theorem reftext_ok (wd : Int) (v : Value) (rs : List UInt8) (w0 : World) (hs : Sl Enc.b w0 v rs) (h0 : tubE wd rs = 0) : Rets Tryd.prog 16 #[.agg #[.int .i64 wd, v]] w0 fun r w' => r = S (textT wd rs) ∧ Fr [] w0 w' := by
 obtain ⟨A, c, rfl, hcc, hM, hA⟩ := id hs
 clear hA
 unfold maxLen at hM
 obtain ⟨hw1, hw16, hl1, hl31, hv⟩ := tub_of h0
 have hd0 := dT_le wd
 refine we [(0, .agg #[.int .i64 wd, .slice A rs.length c])] Tryd.func16 rfl Tryd.ntmps16 rfl (.cons rfl .nil) ?_
 have hs0 := hs
 refine sr (bx rfl rfl rfl (fun g1 w1 hg1 hb1 q1 z1 => ?_))
 refine asg rfl rfl (nn (sr (fad rfl fa26_0 rfl (s_loadB rfl hb1 rfl na3 rfl ?_))))
 refine cl (ev1 rfl) co31 (decimal_ok _ _ _ (by omega) (Nat.lt_succ_self _)) rfl ?_
 rintro _ w2 ⟨rfl, q2⟩
 have z2 := q2.size
 refine s_adds rfl rfl (by first | (simp only [List.length_append, List.length_cons, List.length_nil]; omega) | omega | (simp; done) | (simp; omega)) rfl (asg rfl rfl (nn (sq (sr (asg rfl rfl (nn (bl ?_)))))))
 refine lpK (ι := Nat × List UInt8) [(1, _)] (fun p => [(4, .int .i64 (p.1 : Int)), (3, S p.2)]) (fun p w' => Fr [] w2 w' ∧ p.1 ≤ rs.length ∧ p.2.length ≤ 7 + 8 * p.1 ∧ p.2 ++ textR (rs.drop p.1) = textT wd rs) (fun p => rs.length - p.1) (0, [116, 117, 98, 101, 32] ++ dT wd) (.cons rfl (.cons rfl (.cons rfl .nil))) ⟨Fr.refl _ _, ⟨Nat.zero_le _, by simp only [List.length_append, List.length_cons, List.length_nil]; have := dT_le wd; omega, rfl⟩⟩ ?_
 rintro ⟨i, acc⟩ w3 ⟨q3, ⟨hi, hal, hT⟩⟩
 simp only at hi hal hT
 have z3 := q3.size
 refine kpC [(1, _), (4, .int .i64 (i : Int)), (3, S acc)] (.cons rfl (.cons rfl (.cons rfl .nil))) ?_
 refine sq (sr (mv rfl rfl (fad rfl fa26_1 rfl ?_)))
 replace hb1 := hb1.ext (q2.next q3)
 refine s_loadB rfl hb1 rfl na22 rfl (lnS rfl Tryd.underlying22 rfl (lt' rfl rfl rfl (nn ?_)))
 refine cd rfl (fun c0 => ?_) (fun c0 => ?_)
 · have hy := hv _ (mem_getD (d := 0) (i := i) (by omega))
   have hd1 := dT_le (((rs.getD i 0)).toNat : Int)
   refine sk (tn (bl (sr (mv rfl rfl (asg rfl rfl (nn (sq (bl ?_))))))))
   refine lpK (ι := Nat) [(1, _), (3, _), (4, _)] (fun k => [(5, .int .i64 (k : Int))]) (fun k w' => Fr [] w3 w' ∧ i ≤ k ∧ k ≤ rs.length ∧ ∀ j, i ≤ j → j < k → rs.getD j 0 = rs.getD i 0) (fun k => rs.length - k) i (.cons rfl (.cons rfl (.cons rfl (.cons rfl .nil)))) ⟨Fr.refl _ _, ⟨Nat.le_refl _, by omega, fun j h1 h2 => by omega⟩⟩ ?_
   rintro k w4 ⟨q4, ⟨hk1, hkl, hk⟩⟩
   have z4 := q4.size
   refine kpC [(1, _), (3, _), (4, _), (5, _)] (.cons rfl (.cons rfl (.cons rfl (.cons rfl .nil)))) ?_
   refine sq (sq ?_)
   replace hs := hs0.ext (((q1.next q2).next q3).next q4)
   replace hb1 := hb1.ext q4
   intro a h
   refine region_heldP none (fun wb w' => Fr [] wb w') hmix ?_; intro w5 hq
   have z5 := hq.size
   replace hs := hs.ext hq
   replace hb1 := hb1.ext hq
   have q5 := hq
   clear hq; have hC : Fr [] w5 w5 := Fr.refl _ _
   have hs_b := hs
   have hb1_b := hb1
   refine hd_move 0 (by kernel_rfl) (by kernel_rfl) (by kernel_rfl) hC h wn rfl rfl rfl ?_; clear h a; intro a h
   refine hd_fieldAddr 1 (by kernel_rfl) (by kernel_rfl) (by kernel_rfl) hC h wn rfl fa26_1 rfl rfl ?_; clear h a; intro a h
   refine hd_loadB 2 (by kernel_rfl) (by kernel_rfl) (by kernel_rfl) hC h wn rfl (fun _ hw => hb1_b.ext hw) rfl na22 rfl rfl ?_; clear h a; intro a h
   refine hd_lenS 3 (by kernel_rfl) (by kernel_rfl) (by kernel_rfl) hC h wn rfl Tryd.underlying22 rfl rfl ?_; clear h a; intro a h
   refine hd_lt 4 (by kernel_rfl) (by kernel_rfl) (by kernel_rfl) hC h wn rfl rfl rfl rfl ?_; clear h a; intro a h
   refine hd_move 5 (by kernel_rfl) (by kernel_rfl) (by kernel_rfl) hC h wn rfl rfl rfl ?_; clear h a; intro a h
   first | refine guard_dec (D := 21) h rfl ?_ ?_ | refine guard_ndec (D := 21) h rfl ?_ ?_ | refine guard_any (D := 21) h rfl ?_ ?_
   · clear h; intro g0 h
     refine hd_fieldAddr 6 (by kernel_rfl) (by kernel_rfl) (by kernel_rfl) hC h (wy rfl) rfl fa26_1 rfl rfl ?_; clear h a; intro a h
     refine hd_loadB 7 (by kernel_rfl) (by kernel_rfl) (by kernel_rfl) hC h (wy rfl) rfl (fun _ hw => hb1_b.ext hw) rfl na22 rfl rfl ?_; clear h a; intro a h
     refine hd_move 8 (by kernel_rfl) (by kernel_rfl) (by kernel_rfl) hC h (wy rfl) rfl rfl rfl ?_; clear h a; intro a h
     refine hd_idxL (p := k) ((0 : UInt8)) 9 (by kernel_rfl) (by kernel_rfl) (by kernel_rfl) hC h (wy rfl) rfl hs rfl el22 (by omega) (by omega) (by omega) rfl rfl ?_; clear h a; intro ad25 hc25 a h
     refine hd_loadC0 10 (by kernel_rfl) (by kernel_rfl) (by kernel_rfl) hC h (wy rfl) rfl (fun _ hw => hc25 _ (hs_b.ext hw)) na5 rfl rfl ?_; clear h a; intro a h
     refine hd_fieldAddr 11 (by kernel_rfl) (by kernel_rfl) (by kernel_rfl) hC h (wy rfl) rfl fa26_1 rfl rfl ?_; clear h a; intro a h
     refine hd_loadB 12 (by kernel_rfl) (by kernel_rfl) (by kernel_rfl) hC h (wy rfl) rfl (fun _ hw => hb1_b.ext hw) rfl na22 rfl rfl ?_; clear h a; intro a h
     refine hd_move 13 (by kernel_rfl) (by kernel_rfl) (by kernel_rfl) hC h (wy rfl) rfl rfl rfl ?_; clear h a; intro a h
     refine hd_idxL (p := i) ((0 : UInt8)) 14 (by kernel_rfl) (by kernel_rfl) (by kernel_rfl) hC h (wy rfl) rfl hs rfl el22 (by omega) (by omega) (by omega) rfl rfl ?_; clear h a; intro ad30 hc30 a h
     refine hd_loadC0 15 (by kernel_rfl) (by kernel_rfl) (by kernel_rfl) hC h (wy rfl) rfl (fun _ hw => hc30 _ (hs_b.ext hw)) na5 rfl rfl ?_; clear h a; intro a h
     refine hd_eq 16 (by kernel_rfl) (by kernel_rfl) (by kernel_rfl) hC h (wy rfl) rfl rfl rfl rfl ?_; clear h a; intro a h
     refine hd_one 17 (by kernel_rfl) rfl ?_
     refine st_pick_t h rfl rfl rfl rfl ?_; clear h a; intro a h
     refine hd_next hC ?_
     refine hd_end (by kernel_rfl) ?_
     clear hC hs_b hb1_b
     refine bk (h.sub (L' := [(1, _), (3, _), (4, _), (5, _), (33, _)]) (.cons rfl (.cons rfl (.cons rfl (.cons rfl (.cons rfl .nil)))))) ?_; clear h a
     refine tn ?_
     refine cd rfl (fun c1 => ?_) (fun c1 => ?_)
     · refine sk (tn (bl (rg (mv rfl rfl (s_add rfl rfl (wi6 (by omega)) rfl (asg rfl rfl (nl (bn' ?_))))))))
       exact lpE (k + 1) (.cons rfl (.cons rfl (.cons rfl (.cons rfl .nil)))) ⟨(q4.next q5), ⟨by omega, by omega, fun j h1 h2 => by
           by_cases e : j < k
           · exact hk j h1 e
           · rw [show j = k by omega]; exact UInt8.toNat_inj.1 (by omega)⟩⟩ (by omega)
     · refine ex (te (te (xh (tn (sr (mv rfl rfl (fad rfl fa26_1 rfl (s_loadB rfl hb1 rfl na22 rfl (mv rfl rfl (s_idxL (p := i) ((0 : UInt8)) rfl hs rfl el22 (by omega) (by omega) (by omega) rfl (fun ad40 hc40 => ?_)))))))))))
       refine s_loadC0 rfl (hc40 _ hs) na5 rfl (s_conv rfl (us Tryd.underlying5) Tryd.underlying3 (wi6 (by omega)) rfl ?_)
       refine cl (ev1 rfl) co31 (decimal_ok _ _ _ (by omega) (Nat.lt_succ_self _)) rfl ?_
       rintro _ w6 ⟨rfl, q6⟩
       have z6 := q6.size
       refine s_adds rfl rfl (by first | (simp only [List.length_append, List.length_cons, List.length_nil]; omega) | omega | (simp; done) | (simp; omega)) rfl (s_adds rfl rfl (by first | (simp only [List.length_append, List.length_cons, List.length_nil]; omega) | omega | (simp; done) | (simp; omega)) rfl (asg rfl rfl (kpL [(1, _), (3, _), (4, _), (5, _)] (.cons rfl (.cons rfl (.cons rfl (.cons rfl .nil)))) (nn (sq (sr (mv rfl rfl (mv rfl rfl (s_sub rfl rfl (wi6 (by omega)) rfl (gt' rfl rfl rfl (nn ?_)))))))))))
       have hend : k = rs.length ∨ rs.getD k 0 ≠ rs.getD i 0 := .inr (fun e => c1 (by rw [e]))
       have hik : i < k := by
         have : i ≠ k := fun e => c1 (by rw [e])
         omega
       refine cd rfl (fun c2 => ?_) (fun c2 => ?_)
       · have hd2 := dT_le ((k : Int) - (i : Int))
         refine rg (mv rfl rfl (mv rfl rfl (mv rfl rfl (s_sub rfl rfl (wi6 (by omega)) rfl ?_))))
         refine cl (ev1 rfl) co31 (decimal_ok _ _ _ (by omega) (Nat.lt_succ_self _)) rfl ?_
         rintro _ w7 ⟨rfl, q7⟩
         have z7 := q7.size
         refine s_adds rfl rfl (by first | (simp only [List.length_append, List.length_cons, List.length_nil]; omega) | omega | (simp; done) | (simp; omega)) rfl (s_adds rfl rfl (by first | (simp only [List.length_append, List.length_cons, List.length_nil]; omega) | omega | (simp; done) | (simp; omega)) rfl (asg rfl rfl (kpL [(1, _), (3, _), (5, _)] (.cons rfl (.cons rfl (.cons rfl .nil))) (nl (tn (rg (mv rfl rfl (asg rfl rfl (nl (bn' ?_))))))))))
         exact lpE ((k, acc ++ (32 :: dT (((rs.getD i 0)).toNat : Int)) ++ (120 :: dT ((k : Int) - (i : Int))))) (.cons rfl (.cons rfl (.cons rfl .nil))) ⟨((((q3.next q4).next q5).next q6).next q7), ⟨by simp only; omega, (by simp only [List.length_append, List.length_cons, List.length_nil]; omega), (by have hr := run_end (rs := rs) (i := i) (k := k) (by omega) (by omega) hk hend; unfold Go.G21.runT at hr; rw [if_pos (by omega)] at hr; rw [hr] at hT; simpa [dT, show ((k : Int) - (i : Int)).toNat = k - i by omega] using hT)⟩⟩ (by simp only; omega)
       · refine sk (tn (rg (mv rfl rfl (asg rfl rfl (nl (bn' ?_))))))
         exact lpE ((k, acc ++ (32 :: dT (((rs.getD i 0)).toNat : Int)))) (.cons rfl (.cons rfl (.cons rfl .nil))) ⟨(((q3.next q4).next q5).next q6), ⟨by simp only; omega, (by simp only [List.length_append, List.length_cons, List.length_nil]; omega), (by have hr := run_end (rs := rs) (i := i) (k := k) (by omega) (by omega) hk hend; unfold Go.G21.runT at hr; rw [if_neg (by omega)] at hr; rw [hr] at hT; simpa [dT, show ((k : Int) - (i : Int)).toNat = k - i by omega] using hT)⟩⟩ (by simp only; omega)
   · clear h; intro g0 h
     refine hd_gn 6 (by kernel_rfl) (by kernel_rfl) (by kernel_rfl) hC h rfl rfl rfl rfl ?_; clear h a; intro a h
     refine hd_gn 7 (by kernel_rfl) (by kernel_rfl) (by kernel_rfl) hC h rfl rfl rfl rfl ?_; clear h a; intro a h
     refine hd_gn 8 (by kernel_rfl) (by kernel_rfl) (by kernel_rfl) hC h rfl rfl rfl rfl ?_; clear h a; intro a h
     refine hd_gn 9 (by kernel_rfl) (by kernel_rfl) (by kernel_rfl) hC h rfl rfl rfl rfl ?_; clear h a; intro a h
     refine hd_gn 10 (by kernel_rfl) (by kernel_rfl) (by kernel_rfl) hC h rfl rfl rfl rfl ?_; clear h a; intro a h
     refine hd_gn 11 (by kernel_rfl) (by kernel_rfl) (by kernel_rfl) hC h rfl rfl rfl rfl ?_; clear h a; intro a h
     refine hd_gn 12 (by kernel_rfl) (by kernel_rfl) (by kernel_rfl) hC h rfl rfl rfl rfl ?_; clear h a; intro a h
     refine hd_gn 13 (by kernel_rfl) (by kernel_rfl) (by kernel_rfl) hC h rfl rfl rfl rfl ?_; clear h a; intro a h
     refine hd_gn 14 (by kernel_rfl) (by kernel_rfl) (by kernel_rfl) hC h rfl rfl rfl rfl ?_; clear h a; intro a h
     refine hd_gn 15 (by kernel_rfl) (by kernel_rfl) (by kernel_rfl) hC h rfl rfl rfl rfl ?_; clear h a; intro a h
     refine hd_gn 16 (by kernel_rfl) (by kernel_rfl) (by kernel_rfl) hC h rfl rfl rfl rfl ?_; clear h a; intro a h
     refine hd_one 17 (by kernel_rfl) rfl ?_
     refine st_pick_f h rfl rfl rfl rfl ?_; clear h a; intro a h
     refine hd_next hC ?_
     refine hd_end (by kernel_rfl) ?_
     clear hC hs_b hb1_b
     refine bk (h.sub (L' := [(1, _), (3, _), (4, _), (5, _), (33, _)]) (.cons rfl (.cons rfl (.cons rfl (.cons rfl (.cons rfl .nil)))))) ?_; clear h a
     refine tn (cf rfl (ex (te (te (xh (tn (sr (mv rfl rfl (fad rfl fa26_1 rfl (s_loadB rfl hb1 rfl na22 rfl (mv rfl rfl ?_)))))))))))
     refine s_idxL (p := i) ((0 : UInt8)) rfl hs rfl el22 (by omega) (by omega) (by omega) rfl (fun ad40 hc40 => ?_)
     refine s_loadC0 rfl (hc40 _ hs) na5 rfl (s_conv rfl (us Tryd.underlying5) Tryd.underlying3 (wi6 (by omega)) rfl ?_)
     refine cl (ev1 rfl) co31 (decimal_ok _ _ _ (by omega) (Nat.lt_succ_self _)) rfl ?_
     rintro _ w8 ⟨rfl, q8⟩
     have z8 := q8.size
     refine s_adds rfl rfl (by first | (simp only [List.length_append, List.length_cons, List.length_nil]; omega) | omega | (simp; done) | (simp; omega)) rfl (s_adds rfl rfl (by first | (simp only [List.length_append, List.length_cons, List.length_nil]; omega) | omega | (simp; done) | (simp; omega)) rfl (asg rfl rfl (kpL [(1, _), (3, _), (4, _), (5, _)] (.cons rfl (.cons rfl (.cons rfl (.cons rfl .nil)))) (nn (sq (sr (mv rfl rfl (mv rfl rfl (s_sub rfl rfl (wi6 (by omega)) rfl (gt' rfl rfl rfl (nn ?_)))))))))))
     have hend : k = rs.length ∨ rs.getD k 0 ≠ rs.getD i 0 := .inl (by omega)
     have hik : i < k := by omega
     refine cd rfl (fun c2 => ?_) (fun c2 => ?_)
     · have hd2 := dT_le ((k : Int) - (i : Int))
       refine rg (mv rfl rfl (mv rfl rfl (mv rfl rfl (s_sub rfl rfl (wi6 (by omega)) rfl ?_))))
       refine cl (ev1 rfl) co31 (decimal_ok _ _ _ (by omega) (Nat.lt_succ_self _)) rfl ?_
       rintro _ w9 ⟨rfl, q9⟩
       have z9 := q9.size
       refine s_adds rfl rfl (by first | (simp only [List.length_append, List.length_cons, List.length_nil]; omega) | omega | (simp; done) | (simp; omega)) rfl (s_adds rfl rfl (by first | (simp only [List.length_append, List.length_cons, List.length_nil]; omega) | omega | (simp; done) | (simp; omega)) rfl (asg rfl rfl (kpL [(1, _), (3, _), (5, _)] (.cons rfl (.cons rfl (.cons rfl .nil))) (nl (tn (rg (mv rfl rfl (asg rfl rfl (nl (bn' ?_))))))))))
       exact lpE ((k, acc ++ (32 :: dT (((rs.getD i 0)).toNat : Int)) ++ (120 :: dT ((k : Int) - (i : Int))))) (.cons rfl (.cons rfl (.cons rfl .nil))) ⟨((((q3.next q4).next q5).next q8).next q9), ⟨by simp only; omega, (by simp only [List.length_append, List.length_cons, List.length_nil]; omega), (by have hr := run_end (rs := rs) (i := i) (k := k) (by omega) (by omega) hk hend; unfold Go.G21.runT at hr; rw [if_pos (by omega)] at hr; rw [hr] at hT; simpa [dT, show ((k : Int) - (i : Int)).toNat = k - i by omega] using hT)⟩⟩ (by simp only; omega)
     · refine sk (tn (rg (mv rfl rfl (asg rfl rfl (nl (bn' ?_))))))
       exact lpE ((k, acc ++ (32 :: dT (((rs.getD i 0)).toNat : Int)))) (.cons rfl (.cons rfl (.cons rfl .nil))) ⟨(((q3.next q4).next q5).next q8), ⟨by simp only; omega, (by simp only [List.length_append, List.length_cons, List.length_nil]; omega), (by have hr := run_end (rs := rs) (i := i) (k := k) (by omega) (by omega) hk hend; unfold Go.G21.runT at hr; rw [if_neg (by omega)] at hr; rw [hr] at hT; simpa [dT, show ((k : Int) - (i : Int)).toNat = k - i by omega] using hT)⟩⟩ (by simp only; omega)
 · have hie : i = rs.length := by omega
   rw [hie, List.drop_length, textR_nil, List.append_nil] at hT
   refine ex (te (te (xh (tn (sr (mv rfl rfl (asg rfl rfl (nn (rt (r1 Tryd.results16 rfl ?_))))))))))
   exact ⟨_, rfl, by rw [← hT], ((q1.next q2).next q3)⟩
end Go.Proofs.YtgdlgjkjpbbniaaDoor
namespace Go.Proofs.YtgdlgjkjpbbniaaDoor
open Go.Lw Go.G21

/-- The tube with a text. -/
def parS (s : List UInt8) : Option (Int × List UInt8) :=
  if (Lib.split s [32]).length < 3 then none else
  if tubE (numM ((Lib.split s [32]).getD 1 []) 16) (guessR ((Lib.split s [32]).drop 2)) = 0 ∧ textT (numM ((Lib.split s [32]).getD 1 []) 16) (guessR ((Lib.split s [32]).drop 2)) = s then some (numM ((Lib.split s [32]).getD 1 []) 16, guessR ((Lib.split s [32]).drop 2)) else none
theorem pars_back {wd : Int} {rs : List UInt8} (h : tubE wd rs = 0) : parS (textT wd rs) = some (wd, rs) := by
  obtain ⟨h1, h2, h3⟩ := guess_text h
  unfold parS
  rw [if_neg (by omega), h1, h2, if_pos ⟨h, rfl⟩]
theorem pars_some {s : List UInt8} {t : Int × List UInt8} (h : parS s = some t) : tubE t.1 t.2 = 0 ∧ textT t.1 t.2 = s := by
  unfold parS at h
  split at h
  · cases h
  split at h
  · rename_i h2; cases h; exact h2
  · cases h
theorem addW_len (acc w : List UInt8) (h : acc.length ≤ 32) : (addW acc w).length ≤ 32 := by
  unfold addW
  rw [List.length_append, List.length_replicate]
  omega
theorem guess_len (ws : List (List UInt8)) : (guessR ws).length ≤ 32 := by
  have : ∀ (ws : List (List UInt8)) (acc : List UInt8), acc.length ≤ 32 → (ws.foldl addW acc).length ≤ 32 := by
    intro ws
    induction ws with
    | nil => exact fun acc h => h
    | cons w ws ih => exact fun acc h => ih _ (addW_len acc w h)
  exact this ws [] (by simp)
theorem guess_snoc (ws : List (List UInt8)) (w : List UInt8) : guessR (ws ++ [w]) = addW (guessR ws) w := by simp [guessR]
end Go.Proofs.YtgdlgjkjpbbniaaDoor
namespace Go.Proofs.YtgdlgjkjpbbniaaDoor
open Go.Lw Go.G21
theorem bo26 : BuildAt Tryd.prog 26 [(0, 1), (1, 1)] [(.int .i64 0), (.slice none 0 0)] := BuildAt.struct Tryd.underlying26 (fun _ => by kernel_rfl) (fun _ => by kernel_rfl)
theorem co13 : CallOf Tryd.prog 13 := CallOf.mk' Tryd.func13 (by kernel_rfl) (by kernel_rfl)
theorem co27 : CallOf Tryd.prog 27 := CallOf.mk' Tryd.func27 (by kernel_rfl) (by kernel_rfl)
theorem co28 : CallOf Tryd.prog 28 := CallOf.mk' Tryd.func28 (by kernel_rfl) (by kernel_rfl)
theorem co29 : CallOf Tryd.prog 29 := CallOf.mk' Tryd.func29 (by kernel_rfl) (by kernel_rfl)
theorem co30 : CallOf Tryd.prog 30 := CallOf.mk' Tryd.func30 (by kernel_rfl) (by kernel_rfl)
theorem el79 : ElemOf Tryd.prog 79 9 Enc.str 16 := ElemOf.mk' (z := (.string ⟨#[]⟩)) Tryd.underlying79 (by kernel_rfl) rfl
theorem na9 : NotAgg Tryd.prog 9 := fun _ => by kernel_rfl
theorem sz22 : SizeOf Tryd.prog 22 1 := fun _ => by kernel_rfl
theorem sz26 : SizeOf Tryd.prog 26 2 := fun _ => by kernel_rfl
theorem zv26 (w : World) : (zeroValue 26).run Tryd.prog w = .ok (.agg #[(.int .i64 0), (.slice none 0 0)]) w := by kernel_rfl
theorem cut_len2 (x m : List UInt8) : (Lib.cut x m).2.1.length ≤ x.length := by unfold Lib.cut; (repeat' split) <;> simp <;> omega
theorem bytc {n : Int} (h : 0 ≤ n ∧ n ≤ 255) : [Value.int .u8 n].map Value.cells = [UInt8.ofNat n.toNat].map (fun y => (Enc.b.enc y).toArray) := by
  have e : ((UInt8.ofNat n.toNat).toNat : Int) = n := by rw [UInt8.toNat_ofNat']; omega
  show [#[Value.int .u8 n]] = [#[Value.int .u8 ((UInt8.ofNat n.toNat).toNat : Int)]]
  rw [e]
theorem rep_snoc {α : Type} (l : List α) (k : Nat) (x : α) : (l ++ List.replicate k x) ++ [x] = l ++ List.replicate (k + 1) x := by
  rw [List.append_assoc]; congr 1
  exact (List.replicate_succ' (n := k) (a := x)).symm
theorem blks_cut {A : Option Addr} {b : Prop} [Decidable b] {q m c m' c' : Nat} : blks (.slice (if b then A else A.map (·.add q)) m' c') = blks (.slice A m c) := by
  cases A <;> split <;> simp [blks, block_add]
theorem guess_take (ws : List (List UInt8)) (i : Nat) (h : i < ws.length) : guessR (ws.take (i + 1)) = addW (guessR (ws.take i)) (ws.getD i []) := by
  rw [List.take_add_one, List.getElem?_eq_getElem h, List.getD, List.getElem?_eq_getElem h]
  exact guess_snoc _ _
theorem tx_some {c : Prop} [Decidable c] {t s : List UInt8} (h : ¬ ((if c then t else []) = [] ∨ (if c then t else []) ≠ s)) : c ∧ t = s := by
  by_cases hc : c
  · rw [if_pos hc] at h; exact ⟨hc, Classical.not_not.1 fun e => h (.inr e)⟩
  · rw [if_neg hc] at h; exact absurd (.inl rfl) h
theorem tx_none {c : Prop} [Decidable c] {t s : List UInt8} (ht : t ≠ []) (h : (if c then t else []) = [] ∨ (if c then t else []) ≠ s) : ¬ (c ∧ t = s) := fun ⟨h1, h2⟩ => by
  rw [if_pos h1] at h; exact h.elim ht fun e => e h2
theorem textT_ne (wd : Int) (rs : List UInt8) : textT wd rs ≠ [] := by simp [textT]
theorem clipb_ok (A : Option Addr) (m c : Nat) (w0 : World) (hc : m ≤ c) : Rets Tryd.prog 30 #[.slice A m c] w0 fun v w' => v = .slice A m m ∧ w0 = w' := by
 refine we [(0, .slice A m c)] Tryd.func30 rfl Tryd.ntmps30 rfl (.cons rfl .nil) ?_
 refine sr (asg rfl rfl (nn (sr (mv rfl rfl (mv rfl rfl (lnS rfl Tryd.underlying22 rfl (mv rfl rfl (lnS rfl Tryd.underlying22 rfl (s_sl_hm rfl rfl rfl el22 (by omega) (by omega) (by omega) nat_of nat_of rfl (asg rfl rfl (kpL [(2, _)] (.cons rfl .nil) ?_)))))))))))
 refine nn (rt (r1 Tryd.results30 rfl ?_))
 exact ⟨_, rfl, rfl, rfl⟩
set_option maxHeartbeats 1000000 in
theorem parse_ok (s : List UInt8) (w0 : World) (hG : Glob w0) (hl : s.length ≤ 1000000) : Rets Tryd.prog 15 #[S s] w0 fun r w' => ∃ (wd : Int) (A : Option Addr) (rs : List UInt8) (e : Int), r = .tuple #[.agg #[.int .i64 wd, .slice A rs.length rs.length], .int .i64 e] ∧ Sl Enc.b w' (.slice A rs.length rs.length) rs ∧ (e = 0 ∧ parS s = some (wd, rs) ∨ e = 4 ∧ wd = 0 ∧ rs = [] ∧ parS s = none) ∧ Fr [] w0 w' := by
 have hsl := fun i => split_len s [32] i
 have hs1 := split_len s [32] 1
 have hgl := fun k => guess_len (((Lib.split s [32]).drop 2).take k)
 have hGs := hG.sz
 refine we [(0, S s)] Tryd.func15 rfl Tryd.ntmps15 rfl (.cons rfl .nil) ?_
 have hG0 := hG
 refine sr (al zv26 rfl rfl (fun g2 w1 hg2 hb2 q1 z1 => ?_))
 refine asg rfl rfl (nn (sr (mv rfl rfl ?_)))
 replace hG := hG0.ext q1
 refine cl (ev2 rfl rfl) co27 (split_ok _ _ _ hG (by omega) (by decide)) rfl ?_
 rintro V14 w2 ⟨ho14, q2⟩
 have z2 := q2.size
 obtain ⟨A14, c14, rfl, hc14⟩ := ho14.sl.form
 have hb14 := fun k hk => (ho14.blk k hk).2
 have hl14 := ho14.sl.len_le
 unfold maxLen at hl14
 refine asg rfl rfl (nn (sq (sr (mv rfl rfl (lnS rfl Tryd.underlying79 rfl (lt' rfl rfl rfl (nn ?_)))))))
 refine cd rfl (fun c0 => ?_) (fun c0 => ?_)
 · refine sr (s_lit (cs := [_, _]) evs_nil bo26 pok_nil rfl rfl ?_)
   replace hb2 := hb2.ext q2
   refine s_storeBA (vs := [_, _]) rfl rfl hb2 (by rfl) (by first | (simp [Value.oneCell', S]; done) | exact Enc.one _ _) sz26 (fun w3 hb2 q3 z3 => ?_)
   refine asg rfl rfl (nn (rt (tr (rCT Tryd.results15 rfl hb2 ag26 rfl ?_))))
   exact ⟨_, rfl, 0, none, [], 4, rfl, Sl.nil _, .inr ⟨rfl, rfl, rfl, by unfold parS; rw [if_pos (by omega)]⟩, ((q1.next q2).step q3 (by first | (simp; done) | (simp; omega)))⟩
 · refine sk (tn (sr (mv rfl rfl (s_idxL (p := 1) (([] : List UInt8)) rfl ho14.sl rfl el79 (by omega) (by omega) rfl rfl (fun ad20 hc20 => ?_)))))
   refine s_loadC0 rfl (hc20 _ ho14.sl) na9 rfl ?_
   replace hG := hG0.ext (q1.next q2)
   refine cl (ev2 rfl rfl) co28 (number_ok _ _ _ hG (by omega)) rfl ?_
   rintro _ w4 ⟨rfl, q4⟩
   have z4 := q4.size
   refine s_lit (cs := [_, _]) (ev1 rfl) bo26 (pok_cons rfl rfl rfl pok_nil) rfl rfl ?_
   refine al zv26 rfl rfl (fun g5 w5 hg5 hb5 q5 z5 => ?_)
   refine s_storeBA (vs := [_, _]) rfl rfl hb5 (by rfl) (by first | (simp [Value.oneCell', S]; done) | exact Enc.one _ _) sz26 (fun w6 hb5 q6 z6 => ?_)
   refine kpL [(0, _), (2, _), (4, _), (5, _)] (.cons rfl (.cons rfl (.cons rfl (.cons rfl .nil)))) (nn (sq (sr (mv rfl rfl ?_))))
   replace ho14 := (ho14.ext (q4.next q5)).fr q6 (by intro k hk hb; simp at hk; subst hk; have := (ho14.blk _ hb); omega)
   replace hb2 := (hb2.ext ((q2.next q4).next q5)).fr q6 (by first | (simp; done) | (simp; omega) | (simp [blks]; done) | (simp [blks]; omega))
   refine s_sl_l (p := 2) rfl rfl el79 (by omega) (by omega) rfl rfl ?_
   have hw2 := ho14.sl.cutv (p := 2) (p' := (Lib.split s [32]).length) (by omega) (Nat.le_refl _)
   rw [List.take_length] at hw2
   have hw5 : g5 ∉ blks (.slice (if c14 = 2 then A14 else A14.map (·.add (2 * Enc.str.sz))) ((Lib.split s [32]).length - 2) (c14 - 2)) := fun hk => by
     rw [blks_cut (m := (Lib.split s [32]).length) (c := c14)] at hk
     have := hb14 _ hk; omega
   generalize (if c14 = 2 then A14 else A14.map (·.add (2 * Enc.str.sz))) = A25 at hw2 hw5 ⊢
   generalize c14 - 2 = c25 at hw2 hw5 ⊢
   rw [show (Lib.split s [32]).length - 2 = ((Lib.split s [32]).drop 2).length by simp] at hw2 hw5 ⊢
   have hw20 := hw2
   have hb20 := hb2
   have hMw := hw2.len_le
   unfold maxLen at hMw
   refine lnS rfl Tryd.underlying79 rfl (mv rfl rfl (nn (bl ?_)))
   refine lpK (ι := Nat) [(0, _), (2, _), (5, _), (25, _), (26, _)] (fun i => [(27, .int .i64 (i : Int))]) (fun i w' => Fr [g5] w6 w' ∧ i ≤ ((Lib.split s [32]).drop 2).length ∧ ∃ A c, Blk w' g5 26 [.int .i64 (numM ((Lib.split s [32]).getD 1 []) 16), .slice A ((guessR (((Lib.split s [32]).drop 2).take i))).length c] ∧ Lw.Own Enc.b 5 (g5 + 1) w' (.slice A ((guessR (((Lib.split s [32]).drop 2).take i))).length c) ((guessR (((Lib.split s [32]).drop 2).take i)))) (fun i => ((Lib.split s [32]).drop 2).length - i) 0 (.cons rfl (.cons rfl (.cons rfl (.cons rfl (.cons rfl (.cons rfl .nil)))))) ⟨(Fr.refl _ _), ⟨Nat.zero_le _, ⟨none, 0, hb5, Own.nil _⟩⟩⟩ ?_
   rintro i w7 ⟨q7, ⟨hi, ⟨A, c, hb5, ho⟩⟩⟩
   have z7 := q7.size
   have lt_hb5 := hb5.lt
   refine kpC [(0, _), (2, _), (5, _), (25, _), (26, _), (27, _)] (.cons rfl (.cons rfl (.cons rfl (.cons rfl (.cons rfl (.cons rfl .nil)))))) ?_
   refine sr (lt' rfl rfl rfl (nn (sq ?_)))
   refine cd rfl (fun c1 => ?_) (fun c1 => ?_)
   · have hsi : (((Lib.split s [32]).drop 2).getD i []).length ≤ s.length := by rw [List.getD, List.getElem?_drop]; exact hsl (2 + i)
     have hcl1 := cut_len (((Lib.split s [32]).drop 2).getD i []) [120]
     have hcl2 := cut_len2 (((Lib.split s [32]).drop 2).getD i []) [120]
     have hgi := hgl i
     have hnr := numM_rng (Lib.cut (((Lib.split s [32]).drop 2).getD i []) [120]).1 6 (by decide)
     refine sk (tn (sq (bl (sr ?_))))
     replace hw2 := hw20.fr ((Fr.refl [g5] _).step q7 (by first | (simp; done) | (simp; omega))) (fun k hk hb => by rw [List.mem_singleton] at hk; subst hk; exact hw5 hb)
     refine s_idxL (p := i) (([] : List UInt8)) rfl hw2 rfl el79 (by omega) (by omega) (by omega) rfl (fun ad29 hc29 => ?_)
     refine s_loadC0 rfl (hc29 _ hw2) na9 rfl (asg rfl rfl (nn (sr (mv rfl rfl ?_))))
     replace hG := hG0.ext (((((q1.next q2).next q4).next q5).step q6 (by first | (simp; done) | (simp; omega))).step q7 (by first | (simp; done) | (simp; omega)))
     refine cl (ev2 rfl rfl) co29 (scut_ok _ _ _ hG (by omega)) rfl ?_
     rintro _ w8 ⟨rfl, q8⟩
     have z8 := q8.size
     refine mv rfl rfl (xt rfl rfl rfl (xt rfl rfl rfl (xt rfl rfl rfl (asg rfl rfl (asg rfl rfl (asg rfl rfl (kpL [(0, _), (2, _), (5, _), (8, _), (9, _), (10, _), (25, _), (26, _), (27, _)] (.cons rfl (.cons rfl (.cons rfl (.cons rfl (.cons rfl (.cons rfl (.cons rfl (.cons rfl (.cons rfl .nil))))))))) (nn (sr (asg rfl rfl (nn ?_)))))))))))
     refine jn (ι := Unit) [(0, _), (2, _), (5, _), (8, _), (25, _), (26, _), (27, _)] (fun _j => [(11, .int .i64 (timesW (((Lib.split s [32]).drop 2).getD i [])))]) (fun _j w' => Fr [] w8 w') (.cons rfl (.cons rfl (.cons rfl (.cons rfl (.cons rfl (.cons rfl (.cons rfl .nil))))))) ?_ ?_
     · refine sr (mv rfl rfl (nn ?_))
       refine cd rfl (fun c2 => ?_) (fun c2 => ?_)
       · refine rg (mv rfl rfl ?_)
         replace hG := hG0.ext ((((((q1.next q2).next q4).next q5).step q6 (by first | (simp; done) | (simp; omega))).step q7 (by first | (simp; done) | (simp; omega))).next q8)
         refine cl (ev2 rfl rfl) co28 (number_ok _ _ _ hG (by omega)) rfl ?_
         rintro _ w9 ⟨rfl, q9⟩
         have z9 := q9.size
         refine asg rfl rfl (nl ?_)
         exact jE (()) (.cons rfl (.cons rfl (.cons rfl (.cons rfl (.cons rfl (.cons rfl (.cons rfl (.cons (congrArg (fun z => some (Value.int .i64 z)) (by first | (unfold timesW; rw [if_pos c2]) | (unfold timesW; rw [if_neg c2]))) .nil)))))))) q9
       · refine sk ?_
         exact jE (()) (.cons rfl (.cons rfl (.cons rfl (.cons rfl (.cons rfl (.cons rfl (.cons rfl (.cons (congrArg (fun z => some (Value.int .i64 z)) (by first | (unfold timesW; rw [if_pos c2]) | (unfold timesW; rw [if_neg c2]))) .nil)))))))) (Fr.refl _ _)
     · rintro _j w10 q10
       have z10 := q10.size
       refine kpC [(0, _), (2, _), (5, _), (8, _), (25, _), (26, _), (27, _), (11, _)] (.cons rfl (.cons rfl (.cons rfl (.cons rfl (.cons rfl (.cons rfl (.cons rfl (.cons rfl .nil)))))))) ?_
       refine sr (mv rfl rfl (fad rfl fa26_1 rfl ?_))
       replace hb5 := hb5.ext (q8.next q10)
       refine s_loadB rfl hb5 rfl na22 rfl (lnS rfl Tryd.underlying22 rfl (s_sub rfl rfl (wi6 (by omega)) rfl (s_min rfl rfl rfl (mv rfl rfl (kpL [(0, _), (2, _), (5, _), (8, _), (25, _), (26, _), (27, _), (45, _), (46, _)] (.cons rfl (.cons rfl (.cons rfl (.cons rfl (.cons rfl (.cons rfl (.cons rfl (.cons rfl (.cons rfl .nil))))))))) (nn (bl ?_)))))))
       replace ho := ho.ext (q8.next q10)
       refine lpK (ι := Nat) [(0, _), (2, _), (5, _), (8, _), (25, _), (26, _), (27, _), (45, _)] (fun j => [(46, .int .i64 (j : Int))]) (fun j w' => Fr [g5] w6 w' ∧ j ≤ (min (timesW (((Lib.split s [32]).drop 2).getD i [])) (32 - ((guessR (((Lib.split s [32]).drop 2).take i)).length : Int))).toNat ∧ ∃ A c, Blk w' g5 26 [.int .i64 (numM ((Lib.split s [32]).getD 1 []) 16), .slice A (((guessR (((Lib.split s [32]).drop 2).take i)) ++ List.replicate j (UInt8.ofNat (numM (Lib.cut (((Lib.split s [32]).drop 2).getD i []) [120]).1 6).toNat))).length c] ∧ Lw.Own Enc.b 5 (g5 + 1) w' (.slice A (((guessR (((Lib.split s [32]).drop 2).take i)) ++ List.replicate j (UInt8.ofNat (numM (Lib.cut (((Lib.split s [32]).drop 2).getD i []) [120]).1 6).toNat))).length c) (((guessR (((Lib.split s [32]).drop 2).take i)) ++ List.replicate j (UInt8.ofNat (numM (Lib.cut (((Lib.split s [32]).drop 2).getD i []) [120]).1 6).toNat)))) (fun j => (min (timesW (((Lib.split s [32]).drop 2).getD i [])) (32 - ((guessR (((Lib.split s [32]).drop 2).take i)).length : Int))).toNat - j) 0 (.cons rfl (.cons rfl (.cons rfl (.cons rfl (.cons rfl (.cons rfl (.cons rfl (.cons rfl (.cons rfl .nil))))))))) ⟨((((Fr.refl [g5] _).step q7 (by first | (simp; done) | (simp; omega))).next q8).next q10), ⟨Nat.zero_le _, ⟨_, _, by simpa using hb5, by simpa using ho⟩⟩⟩ ?_
       rintro j w11 ⟨q11, ⟨hj, ⟨A, c, hb5, ho⟩⟩⟩
       have z11 := q11.size
       have lt_hb5 := hb5.lt
       refine kpC [(0, _), (2, _), (5, _), (8, _), (25, _), (26, _), (27, _), (45, _), (46, _)] (.cons rfl (.cons rfl (.cons rfl (.cons rfl (.cons rfl (.cons rfl (.cons rfl (.cons rfl (.cons rfl .nil))))))))) ?_
       refine sr (lt' rfl rfl rfl (nn (sq ?_)))
       refine cd rfl (fun c3 => ?_) (fun c3 => ?_)
       · refine sk (tn (sq (bl ?_)))
         replace hG := hG0.ext (((((q1.next q2).next q4).next q5).step q6 (by first | (simp; done) | (simp; omega))).step q11 (by first | (simp; done) | (simp; omega)))
         intro a h
         refine region_heldP (some 8) (fun wb w' => Fr (blks (.slice A ((guessR (((Lib.split s [32]).drop 2).take i)) ++ List.replicate j (UInt8.ofNat (numM (Lib.cut (((Lib.split s [32]).drop 2).getD i []) [120]).1 6).toNat)).length c)) wb w') hmix ?_; intro w12 hq
         have z12 := hq.size
         replace hG := hG.ext hq
         replace hb5 := hb5.ext hq
         replace ho := ho.ext hq
         have q12 := hq
         clear hq; have hC : Fr (blks (.slice A ((guessR (((Lib.split s [32]).drop 2).take i)) ++ List.replicate j (UInt8.ofNat (numM (Lib.cut (((Lib.split s [32]).drop 2).getD i []) [120]).1 6).toNat)).length c)) w12 w12 := Fr.refl _ _
         have hG_b := hG
         have hb5_b := hb5
         have ho_b := ho
         refine hd_fieldAddr 0 (by kernel_rfl) (by kernel_rfl) (by kernel_rfl) hC h wn rfl fa26_1 rfl rfl ?_; clear h a; intro a h
         refine hd_loadB 1 (by kernel_rfl) (by kernel_rfl) (by kernel_rfl) hC h wn rfl (fun _ hw => hb5_b.fr hw (fun k_ => Own.neB ho_b hb5_b (by decide) k_)) rfl na22 rfl rfl ?_; clear h a; intro a h
         refine hd_move 2 (by kernel_rfl) (by kernel_rfl) (by kernel_rfl) hC h wn rfl rfl rfl ?_; clear h a; intro a h
         refine hd_one 3 (by kernel_rfl) rfl ?_
         refine st_call h (evs_cons rfl (evs_cons rfl evs_nil)) co28 (number_ok _ _ _ hG (by omega)) rfl ?_; clear h a; rintro _ w13 ⟨rfl, hq⟩ a h
         have z13 := hq.size
         replace hG := hG.ext hq
         replace hb5 := hb5.ext hq
         replace ho := ho.ext hq
         replace hC := hC.next hq
         have q13 := hq
         clear hq
         refine hd_next hC ?_
         refine hd_conv 4 (by kernel_rfl) (by kernel_rfl) (by kernel_rfl) hC h wn rfl (by rw [Tryd.underlying3]; rfl) Tryd.underlying5 (by first | exact IntWalk.u8_in _ (by omega) | rfl) rfl rfl ?_; clear h a; intro a h
         refine hd_one 5 (by kernel_rfl) rfl ?_
         refine st_bslice ([(UInt8.ofNat (numM (Lib.cut (((Lib.split s [32]).drop 2).getD i []) [120]).1 6).toNat)]) h (evs_cons rfl evs_nil) rfl (bytc (by omega)) rfl el22 (Nat.le_of_ble_eq_true rfl) rfl ?_; clear h a; intro g_53 w14 hg ho53 hq hz a h
         have hn__53 : g5 < g_53 := by have := hb5.lt; omega
         have z14 := hq.size
         replace hG := hG.ext hq
         replace hb5 := hb5.ext hq
         replace ho := ho.ext hq
         replace hC := hC.next hq
         have q14 := hq
         clear hq
         refine hd_next hC ?_
         refine hd_one 6 (by kernel_rfl) rfl ?_
         have hoo54 := ho
         refine st_append h rfl rfl ho ho53.sl el22 (by unfold maxLen; simp only [List.length_cons, List.length_nil, List.length_append, List.length_replicate]; omega) (by simp only [List.length_cons, List.length_nil, List.length_append, List.length_replicate]; omega) (by omega) rfl ?_; clear h a; intro v54 w15 ho hq hor54 a h
         rw [rep_snoc] at ho
         obtain ⟨A5, c5, rfl, hcA⟩ := ho.sl.form
         have z15 := hq.size
         replace hb5 := hb5.fr hq (fun hk => hoo54.neB hb5 (by decide) hk)
         replace hC := hC.step hq (fun k_ h_ _ => h_)
         have q15 := hq
         clear hq
         refine hd_next hC ?_
         refine hd_fieldAddr 7 (by kernel_rfl) (by kernel_rfl) (by kernel_rfl) hC h wn rfl fa26_1 rfl rfl ?_; clear h a; intro a h
         refine hd_one 8 (by kernel_rfl) rfl ?_
         refine st_storeB h rfl rfl hb5 rfl rfl rfl sz22 ?_; clear h a; intro w16 hbn hq hz a h
         have z16 := hq.size
         replace ho := ho.fr hq (by intro k hk hb; simp at hk; subst hk; have := (ho.blk _ hb).1; omega)
         have q16 := hq
         clear hb5 hq hz; have hb5 : Blk w16 g5 _ [_, _] := hbn; clear hbn
         refine hd_past (by kernel_rfl) ?_
         refine hd_end (by kernel_rfl) ?_
         clear hC hG_b hb5_b ho_b
         refine bk (h.sub (L' := [(0, _), (2, _), (5, _), (8, _), (25, _), (26, _), (27, _), (45, _), (46, _)]) (.cons rfl (.cons rfl (.cons rfl (.cons rfl (.cons rfl (.cons rfl (.cons rfl (.cons rfl (.cons rfl .nil)))))))))) ?_; clear h a
         refine bn' (tn (rg (s_add rfl rfl (wi6 (by omega)) rfl (mv rfl rfl (nl ?_)))))
         exact lpE (j + 1) (.cons rfl (.cons rfl (.cons rfl (.cons rfl (.cons rfl (.cons rfl (.cons rfl (.cons rfl (.cons rfl .nil))))))))) ⟨(((((((Fr.refl [g5] _).step q11 (by first | (simp; done) | (simp; omega))).next q12).next q13).next q14).step q15 (fun k hk hlt => absurd (hoo54.blk k hk).1 (by omega))).step q16 (by first | (simp; done) | (simp; omega))), ⟨by omega, ⟨A5, c5, hb5, ho⟩⟩⟩ (by omega)
       · obtain rfl : j = (min (timesW (((Lib.split s [32]).drop 2).getD i [])) (32 - ((guessR (((Lib.split s [32]).drop 2).take i)).length : Int))).toNat := by omega
         have hge := guess_take ((Lib.split s [32]).drop 2) i (by omega)
         unfold addW at hge
         rw [← hge] at hb5 ho
         refine ex (te (te (xh (bn' (tn (rg (s_add rfl rfl (wi6 (by omega)) rfl (mv rfl rfl (nl ?_)))))))))
         exact lpE (i + 1) (.cons rfl (.cons rfl (.cons rfl (.cons rfl (.cons rfl (.cons rfl .nil)))))) ⟨((Fr.refl [g5] _).step q11 (by first | (simp; done) | (simp; omega))), ⟨by omega, ⟨_, _, hb5, ho⟩⟩⟩ (by omega)
   · obtain rfl : i = ((Lib.split s [32]).drop 2).length := by omega
     rw [List.take_length] at hb5 ho
     have hcA : (guessR ((Lib.split s [32]).drop 2)).length ≤ c := by obtain ⟨A_, c_, e_, h_⟩ := ho.sl.form; simp only [Value.slice.injEq] at e_; omega
     refine ex (te (te (xh (tn (sq (sr (s_loadBA rfl hb5 ag26 rfl ?_)))))))
     refine cl (ev1 rfl) co13 (text_ok _ _ (guessR ((Lib.split s [32]).drop 2)) _ ho.sl) rfl ?_
     rintro _ w17 ⟨rfl, q17⟩
     have z17 := q17.size
     refine asg rfl rfl (kpL [(0, _), (2, _), (5, _), (12, _)] (.cons rfl (.cons rfl (.cons rfl (.cons rfl .nil)))) (nn (sq ?_)))
     refine rbo (r := 66) (L' := [(2, _), (5, _)]) ((((if tubE (numM ((Lib.split s [32]).getD 1 []) 16) (guessR ((Lib.split s [32]).drop 2)) = 0 then textT (numM ((Lib.split s [32]).getD 1 []) 16) (guessR ((Lib.split s [32]).drop 2)) else []) = []) ∨ ((if tubE (numM ((Lib.split s [32]).getD 1 []) 16) (guessR ((Lib.split s [32]).drop 2)) = 0 then textT (numM ((Lib.split s [32]).getD 1 []) 16) (guessR ((Lib.split s [32]).drop 2)) else []) ≠ s))) (.cons rfl (.cons rfl .nil)) ?_ ?_
     · refine mv rfl rfl (s_eqs rfl rfl rfl (mv rfl rfl ?_))
       refine gs 62 rfl (fun g0 => ?_) (fun g0 => ?_)
       · exact gN rfl rfl rfl (gN rfl rfl rfl (gN rfl rfl rfl (pkt rfl rfl rfl rfl (rbe rfl (by first | exact bt (by omega) | exact bf (by omega) | exact bi (by omega) | exact bn (by omega) | (simp_all; done) | (simp_all; omega)) (.cons rfl (.cons rfl .nil))))))
       · exact gY rfl (mv rfl rfl (gY rfl (mv rfl rfl (gY rfl (s_nes rfl rfl rfl (pkf rfl rfl rfl rfl (rbe rfl (by first | exact bt (by omega) | exact bf (by omega) | exact bi (by omega) | exact bn (by omega) | (simp_all; done) | (simp_all; omega)) (.cons rfl (.cons rfl .nil)))))))))
     · refine tn ?_
       refine cd rfl (fun c4 => ?_) (fun c4 => ?_)
       · refine sr (s_lit (cs := [_, _]) evs_nil bo26 pok_nil rfl rfl ?_)
         replace hb2 := hb20.fr (((Fr.refl [g5] _).step q7 (by first | (simp; done) | (simp; omega))).next q17) (by simp; omega)
         refine s_storeBA (vs := [_, _]) rfl rfl hb2 (by rfl) (by first | (simp [Value.oneCell', S]; done) | exact Enc.one _ _) sz26 (fun w18 hb2 q18 z18 => ?_)
         refine asg rfl rfl (nn (rt (tr (rCT Tryd.results15 rfl hb2 ag26 rfl ?_))))
         exact ⟨_, rfl, 0, none, [], 4, rfl, Sl.nil _, .inr ⟨rfl, rfl, rfl, by unfold parS; rw [if_neg (by omega), if_neg (tx_none (textT_ne _ _) c4)]⟩, (((((((q1.next q2).next q4).next q5).step q6 (by first | (simp; done) | (simp; omega))).step q7 (by first | (simp; done) | (simp; omega))).next q17).step q18 (by first | (simp; done) | (simp; omega)))⟩
       · refine sk (tn (sr (fad rfl fa26_1 rfl ?_)))
         replace hb5 := hb5.ext q17
         refine s_loadB rfl hb5 rfl na22 rfl ?_
         refine cl (ev1 rfl) co30 (clipb_ok _ _ _ _ hcA) rfl ?_
         rintro _ _ ⟨rfl, rfl⟩
         refine fad rfl fa26_1 rfl (s_storeB rfl rfl hb5 rfl rfl rfl sz22 (fun w19 hb5 q19 z19 => ?_))
         replace hb5 : Blk w19 g5 _ [_, _] := hb5
         refine nn (sr (s_loadBA rfl hb5 ag26 rfl ?_))
         replace hb2 := hb20.fr ((((Fr.refl [g5] _).step q7 (by first | (simp; done) | (simp; omega))).next q17).step q19 (by first | (simp; done) | (simp; omega))) (by simp; omega)
         refine s_storeBA (vs := [_, _]) rfl rfl hb2 (by rfl) (by first | (simp [Value.oneCell', S]; done) | exact Enc.one _ _) sz26 (fun w20 hb2 q20 z20 => ?_)
         refine asg rfl rfl (nn (rt (rCT Tryd.results15 rfl hb2 ag26 rfl ?_)))
         replace ho := ((ho.ext q17).fr q19 (by intro k hk hb; simp at hk; subst hk; have := (ho.blk _ hb).1; omega)).fr q20 (by intro k hk hb; simp at hk; subst hk; have := (ho.blk _ hb).1; omega)
         have hoc := ho.take rfl (Nat.le_refl _) (c' := (guessR ((Lib.split s [32]).drop 2)).length) hcA (Nat.le_refl _)
         rw [List.take_length] at hoc
         exact ⟨_, rfl, (numM ((Lib.split s [32]).getD 1 []) 16), _, (guessR ((Lib.split s [32]).drop 2)), 0, rfl, hoc.sl, .inl ⟨rfl, by unfold parS; rw [if_neg (by omega), if_pos (tx_some c4)]⟩, ((((((((q1.next q2).next q4).next q5).step q6 (by first | (simp; done) | (simp; omega))).step q7 (by first | (simp; done) | (simp; omega))).next q17).step q19 (by first | (simp; done) | (simp; omega))).step q20 (by first | (simp; done) | (simp; omega)))⟩
end Go.Proofs.YtgdlgjkjpbbniaaDoor
namespace Go.Proofs.YtgdlgjkjpbbniaaDoor
open Go.Lw Go.G21
end Go.Proofs.YtgdlgjkjpbbniaaDoor
namespace Go.Lw
/-- For whom an operation waits. -/
def bnds (ops : Array Oper) (i : Nat) : List Nat := match ops[i]? with
  | some o => (o.after.toList.filter (Region.binds .any)).map (·.on)
  | none => []
def combB (ops : Array Oper) (m : Nat) : Bool :=
  Nat.beq ops.size (m + 1) && (List.range (m + 1)).all (fun i => (bnds ops i).all (fun j => Nat.blt j i)) && (List.range m).all (fun j => (bnds ops m).contains j)
/-- How many have not come up. -/
def cntU (listed : Array Bool) : Nat → Nat
  | 0 => 0
  | k + 1 => cntU listed k + (if listed.getD k true = false then 1 else 0)
theorem getD_set {listed : Array Bool} {i j : Nat} (hi : i < listed.size) : (listed.setIfInBounds i true).getD j true = if j = i then true else listed.getD j true := by
  simp only [Array.getD_eq_getD_getElem?, Array.getElem?_setIfInBounds]
  by_cases e : i = j
  · subst e; simp [hi]
  · rw [if_neg e, if_neg (Ne.symm e)]
theorem cntU_set {listed : Array Bool} {i : Nat} (hi : i < listed.size) (h : listed.getD i true = false) : ∀ k, cntU (listed.setIfInBounds i true) k + (if i < k then 1 else 0) = cntU listed k
  | 0 => by simp [cntU]
  | k + 1 => by
    have ih := cntU_set hi h k
    simp only [cntU, getD_set hi]
    by_cases e : k = i
    · subst e
      rw [if_neg (by omega)] at ih
      rw [if_pos rfl, if_neg (by decide), if_pos h, if_pos (by omega)]; omega
    · rw [if_neg e]
      by_cases e2 : i < k
      · rw [if_pos e2] at ih
        have e3 : (if i < k + 1 then 1 else 0 : Nat) = 1 := if_pos (by omega)
        rw [e3]; omega
      · rw [if_neg e2] at ih
        have e3 : (if i < k + 1 then 1 else 0 : Nat) = 0 := if_neg (by omega)
        rw [e3]; omega
theorem cntU_pos {listed : Array Bool} : ∀ {k i : Nat}, i < k → listed.getD i true = false → 0 < cntU listed k
  | k + 1, i, hi, h => by
    simp only [cntU]
    by_cases e : i = k
    · subst e; rw [if_pos h]; omega
    · have := cntU_pos (k := k) (i := i) (by omega) h; omega
theorem ready_mem {ops : Array Oper} {listed : Array Bool} {i : Nat} (hi : i ∈ Region.ready .any ops listed) : i < ops.size ∧ listed.getD i true = false ∧ ∀ j ∈ bnds ops i, listed.getD j false = true := by
  unfold Region.ready at hi
  rw [List.mem_filter, List.mem_range] at hi
  obtain ⟨h1, h2⟩ := hi
  rw [Bool.and_eq_true] at h2
  refine ⟨h1, by simpa using h2.1, fun j hj => ?_⟩
  have h3 := h2.2
  unfold bnds at hj
  rw [Array.getElem?_eq_getElem h1] at h3 hj
  simp only [Option.map_some, Option.getD_some] at h3
  obtain ⟨e, he, rfl⟩ := List.mem_map.1 hj
  rw [List.mem_filter] at he
  have h4 := (Array.all_eq_true'.1 h3) e (by simpa using he.1)
  rw [he.2] at h4
  simpa using h4
theorem ready_of {ops : Array Oper} {listed : Array Bool} {i : Nat} (h1 : i < ops.size) (h2 : listed.getD i true = false) (h3 : ∀ j ∈ bnds ops i, listed.getD j false = true) : i ∈ Region.ready .any ops listed := by
  unfold Region.ready
  rw [List.mem_filter, List.mem_range]
  refine ⟨h1, ?_⟩
  rw [Bool.and_eq_true]
  refine ⟨by simpa using h2, ?_⟩
  unfold bnds at h3
  rw [Array.getElem?_eq_getElem h1] at h3 ⊢
  simp only [Option.map_some, Option.getD_some]
  refine Array.all_eq_true'.2 fun e he => ?_
  cases hb : Region.binds .any e
  · rfl
  · have := h3 e.on (List.mem_map.2 ⟨e, List.mem_filter.2 ⟨by simpa using he, hb⟩, rfl⟩)
    simpa using this
theorem hd_comeR {P : Program} {ops : Array Oper} {K R : Act → World → Prop} {i : Nat} {o : Oper} {a : Act} {w : World} (hix : ops[i]? = some o) (k : wpList P ops (NormEnd R) [o] a w) : wpOp P ops (NormEnd K) i R a w := by
  unfold wpOp
  rw [hix]
  unfold wpList at k
  simp only
  split
  · rename_i hw
    rw [if_pos hw] at k
    rcases k with k | ⟨_, _, _, k⟩
    · refine .inl (Oper.wp_mono (fun a w h => h) ?_)
      unfold Oper.wp at k ⊢
      generalize (execOp a.eval o).run P w = r at k ⊢
      cases r with
      | ok nx w' =>
        cases nx <;> simp only [Oper.upon] at k ⊢ <;> first
          | exact k
          | exact Calls.mono k (fun e w'' he => by cases e <;> first | exact he | exact he.elim | (obtain ⟨_, _, he⟩ := he; exact he.elim))
          | exact Rows.mono k (fun _ _ he => he)
      | halt x w' => cases x <;> simp only [Oper.upon] at k ⊢ <;> exact k.elim
    · exact k.elim
  · rename_i hw
    rw [if_neg hw] at k
    exact k
section
variable {P : Program} {ops : Array Oper} {K : Act → World → Prop} {m n : Nat} {ds : List Nat}
theorem getD_ft {listed : Array Bool} {j : Nat} (h : listed.getD j false = true) : listed.getD j true = true := by
  simp only [Array.getD_eq_getD_getElem?] at h ⊢
  cases e : listed[j]? with
  | none => rfl
  | some b => rw [e] at h; exact h
theorem getD_tf {listed : Array Bool} {j : Nat} (hj : j < listed.size) (h : listed.getD j true = true) : listed.getD j false = true := by
  simp only [Array.getD_eq_getD_getElem?, Array.getElem?_eq_getElem hj] at h ⊢; exact h
theorem comb (hB : combB ops m = true) (I : Act → World → Prop) (Po : Nat → Act → World → Prop)
    (hst : ∀ i, i < m → ∀ a w, I a w → (∀ j ∈ bnds ops i, Po j a w) → wpOp P ops (NormEnd K) i (fun a' w' => I a' w' ∧ Po i a' w' ∧ ∀ j, j < m → j ≠ i → Po j a w → Po j a' w') a w)
    (hlast : ∀ a w, I a w → (∀ j, j < m → Po j a w) → wpOp P ops (NormEnd K) m K a w) :
    ∀ (fu : Nat) (listed : Array Bool) (a : Act) (w : World), listed.size = m + 1 → cntU listed (m + 1) = fu → listed.getD m true = false → I a w → (∀ j, j < m → listed.getD j true = true → Po j a w) → wpAnyP none P ops (NormEnd K) (fun _ => True) fu listed a w := by
  unfold combB at hB
  simp only [Bool.and_eq_true, List.all_eq_true, List.mem_range] at hB
  obtain ⟨⟨hsz, hwf⟩, hal⟩ := hB
  replace hsz : ops.size = m + 1 := Nat.eq_of_beq_eq_true hsz
  replace hwf : ∀ i, i < m + 1 → ∀ j ∈ bnds ops i, j < i := fun i hi j hj => by simpa [Nat.blt_eq] using hwf i hi j hj
  replace hal : ∀ j, j < m → j ∈ bnds ops m := fun j hj => by simpa using hal j hj
  intro fu
  induction fu with
  | zero =>
    intro listed a w _ hc hm
    have := cntU_pos (listed := listed) (k := m + 1) (i := m) (by omega) hm
    omega
  | succ fu ih =>
    intro listed a w hls hc hm hI hPo
    refine ⟨fun hr => ?_, fun i hi => ?_⟩
    · exfalso
      have key : ∀ d i, m - i = d → i ≤ m → listed.getD i true = false → (∀ j, j < i → listed.getD j true = true) → False := fun d i _ hi h1 h2 => by
        have := ready_of (ops := ops) (listed := listed) (i := i) (by omega) h1 (fun j hj => getD_tf (by have := hwf i (by omega) j hj; omega) (h2 j (hwf i (by omega) j hj)))
        rw [hr] at this; cases this
      have least : ∀ k, k ≤ m → (∀ j, j < k → listed.getD j true = true) ∨ ∃ i, i < k ∧ listed.getD i true = false ∧ ∀ j, j < i → listed.getD j true = true := by
        intro k
        induction k with
        | zero => exact fun _ => .inl fun j hj => by omega
        | succ k ihk =>
          intro hk
          rcases ihk (by omega) with h | ⟨i, h1, h2, h3⟩
          · cases e : listed.getD k true
            · exact .inr ⟨k, by omega, e, h⟩
            · exact .inl fun j hj => by
                by_cases e2 : j = k
                · subst e2; exact e
                · exact h j (by omega)
          · exact .inr ⟨i, by omega, h2, h3⟩
      rcases least m (Nat.le_refl _) with h | ⟨i, h1, h2, h3⟩
      · exact key _ m rfl (Nat.le_refl _) hm h
      · exact key _ i rfl (by omega) h2 h3
    · obtain ⟨h1, h2, h3⟩ := ready_mem hi
      have hcs := cntU_set (listed := listed) (i := i) (by omega) h2 (m + 1)
      rw [if_pos (by omega)] at hcs
      by_cases e : i = m
      · subst e
        refine wpOp_mono (fun a' w' hk => ⟨sat_of trivial, P_done ?_ hk _⟩) (hlast a w hI fun j hj => hPo j hj (getD_ft (h3 j (hal j hj))))
        cases hr : Region.ready .any ops (listed.setIfInBounds i true) with
        | nil => rfl
        | cons x r =>
          exfalso
          have hx : x ∈ Region.ready .any ops (listed.setIfInBounds i true) := by rw [hr]; exact List.mem_cons_self
          obtain ⟨g1, g2, _⟩ := ready_mem hx
          rw [getD_set (by omega)] at g2
          split at g2
          · cases g2
          · have := getD_ft (h3 x (hal x (by omega)))
            rw [this] at g2; cases g2
      · refine wpOp_mono (fun a' w' hk => ⟨sat_of trivial, ih _ a' w' (by simpa using hls) (by omega) ?_ hk.1 fun j hj hl => ?_⟩) (hst i (by omega) a w hI fun j hj => hPo j (by have := hwf i (by omega) j hj; omega) (getD_ft (h3 j hj)))
        · rw [getD_set (by omega), if_neg (Ne.symm e)]; exact hm
        · by_cases e2 : j = i
          · subst e2; exact hk.2.1
          · rw [getD_set (by omega), if_neg e2] at hl
            exact hk.2.2 j hj e2 (hPo j hj hl)
/-- What the slots hold, as a list behind others. -/
def rdS (a : Act) (dl : List Nat) : List (Nat × Value) := dl.map fun t => (t, a.tmps.getD t undef)
theorem look_app : ∀ (L L' : List (Nat × Value)) (t : Nat), look (L ++ L') t = (look L t).or (look L' t)
  | [], L', t => by simp [look]
  | (s, v) :: r, L', t => by
    simp only [List.cons_append, look]
    cases Nat.beq s t
    · exact look_app r L' t
    · rfl
theorem look_rd (a : Act) : ∀ (dl : List Nat) (t : Nat) (v : Value), look (rdS a dl) t = some v → a.tmps.getD t undef = v
  | [], _, _, h => by cases h
  | s :: r, t, v, h => by
    simp only [rdS, List.map_cons, look] at h
    cases e : Nat.beq s t
    · rw [e] at h; exact look_rd a r t v h
    · rw [e] at h
      have e2 := Nat.eq_of_beq_eq_true e
      subst e2; exact Option.some.inj h
theorem look_in (a : Act) : ∀ (dl : List Nat) (t : Nat), t ∈ dl → look (rdS a dl) t = some (a.tmps.getD t undef)
  | s :: r, t, h => by
    simp only [rdS, List.map_cons, look]
    cases e : Nat.beq s t
    · rcases List.mem_cons.1 h with h2 | h2
      · subst h2; rw [Nat.beq_refl] at e; cases e
      · exact look_in a r t h2
    · have e2 := Nat.eq_of_beq_eq_true e
      subst e2; rfl
variable {a : Act} {L Lc Lo : List (Nat × Value)} {w w' : World}
theorem AgM.full (hc : AgM ds a n Lc) (dl : List Nat) (ho : AgM ds a n Lo) : AgM ds a n (Lc ++ (rdS a dl ++ Lo)) :=
  ⟨hc.dfr, hc.size, fun t v hv => by
    rw [look_app] at hv
    cases e : look Lc t with
    | some u => rw [e, Option.some_or] at hv; cases hv; exact hc.at_ t _ e
    | none =>
      rw [e, Option.none_or, look_app] at hv
      cases e2 : look (rdS a dl) t with
      | some u => rw [e2, Option.some_or] at hv; cases hv; exact look_rd a dl t _ e2
      | none => rw [e2, Option.none_or] at hv; exact ho.at_ t v hv⟩
theorem AgM.eqc {t : Nat} {v : Value} (h : AgM ds a n L) (e : a.tmps.getD t undef = v) : AgM ds a n ((t, v) :: L) :=
  ⟨h.dfr, h.size, fun s u hs => by
    simp only [look] at hs
    cases e2 : Nat.beq t s
    · rw [e2] at hs; exact h.at_ s u hs
    · rw [e2] at hs
      have e3 := Nat.eq_of_beq_eq_true e2
      subst e3; cases hs; exact e⟩
/-- The operations of a region that only make new things: what each leaves. dl: the slot that each writes. -/
theorem comb_region {id : Nat} {Q : Exit → Act → World → Prop} {l : List Oper} {dl : List Nat} (hm : P.follows .mixedOrders = true) (hB : combB l.toArray m = true) (hdl : dl.length = m) (hnd : dl.Nodup) (hLo' : (dl.all fun d => (look Lo d).isNone) = true)
    (h : AgM ds a n Lo) (Ok : Nat → Value → World → Prop) (hmono : ∀ j v w w', Fr [] w w' → Ok j v w → Ok j v w')
    (hst : ∀ i, i < m → ∀ a w', AgM ds a n Lo → Fr [] w w' → (∀ j, (bnds l.toArray i).contains j = true → Ok j (a.tmps.getD (dl.getD j 0) undef) w') →
      ∃ o Lc, l[i]? = some o ∧ AgM ds a n Lc ∧ (AgM ds a n (Lc ++ (rdS a dl ++ Lo)) → wpList P l.toArray (NormEnd fun a' w2 => ∃ v, AgM ds a' n ((dl.getD i 0, v) :: (Lc ++ (rdS a dl ++ Lo))) ∧ Fr [] w' w2 ∧ Ok i v w2) [o] a w'))
    (hlast : ∀ a w', AgM ds a n Lo → Fr [] w w' → (∀ j, j < m → Ok j (a.tmps.getD (dl.getD j 0) undef) w') → ∃ o, l[m]? = some o ∧ wpList P l.toArray (NormEnd (Q .normal)) [o] a w') :
    (Code.region id l.toArray true).wp P Q a w := by
  have hLo : ∀ d ∈ dl, look Lo d = none := fun d hd => by simpa using List.all_eq_true.1 hLo' d hd
  have hsz : l.length = m + 1 := by
    unfold combB at hB
    simp only [Bool.and_eq_true] at hB
    have := Nat.eq_of_beq_eq_true hB.1.1
    simpa using this
  have hinj : ∀ i j, i < m → j < m → j ≠ i → dl.getD j 0 ≠ dl.getD i 0 := fun i j hi hj hne e => by
    rw [List.getD, List.getD, List.getElem?_eq_getElem (by omega), List.getElem?_eq_getElem (by omega)] at e
    have e1 : dl[j]? = dl[i]? := by rw [List.getElem?_eq_getElem (by omega), List.getElem?_eq_getElem (by omega)]; exact congrArg some e
    exact hne ((List.getElem?_inj (i := j) (by omega) hnd).1 e1)
  have hmem : ∀ i, i < m → dl.getD i 0 ∈ dl := fun i hi => by
    rw [List.getD, List.getElem?_eq_getElem (by omega)]; exact List.getElem_mem _
  refine region_held (fun _ _ => True) hm fun w1 hf1 => ?_
  rw [hsz]
  refine comb hB (fun a w' => AgM ds a n Lo ∧ Fr [] w w') (fun j a w' => Ok j (a.tmps.getD (dl.getD j 0) undef) w') (fun i hi a w' hI hb => ?_) (fun a w' hI hall => ?_) _ _ _ _ (by simp) ?_ ?_ ⟨h, hf1⟩ (fun j hj hl => ?_)
  · obtain ⟨o, Lc, ho, hc, hk⟩ := hst i hi a w' hI.1 hI.2 (fun j hj => hb j (by simpa using hj))
    refine wpOp_mono ?_ (hd_comeR (i := i) (by simpa using ho) (hk (hc.full dl hI.1)))
    rintro a' w2 ⟨v, hag, hfr, hok⟩
    refine ⟨⟨⟨hag.dfr, hag.size, fun t u hu => ?_⟩, hI.2.next hfr⟩, ?_, fun j hj hne hp => ?_⟩
    · by_cases e : t ∈ dl
      · rw [hLo t e] at hu; cases hu
      · have hne : dl.getD i 0 ≠ t := fun e2 => e (e2 ▸ hmem i hi)
        refine hag.at_ t u ?_
        simp only [look]
        rw [show Nat.beq (dl.getD i 0) t = false from by cases e2 : Nat.beq (dl.getD i 0) t; rfl; exact absurd (Nat.eq_of_beq_eq_true e2) hne]
        rw [Bool.cond_false, look_app]
        cases e3 : look Lc t with
        | some u2 => rw [Option.some_or]; rw [← hc.at_ t _ e3, hI.1.at_ t _ hu]
        | none =>
          rw [Option.none_or, look_app]
          cases e4 : look (rdS a dl) t with
          | some u2 => rw [Option.some_or]; rw [← look_rd a dl t _ e4, hI.1.at_ t _ hu]
          | none => rw [Option.none_or]; exact hu
    · have := hag.at_ (dl.getD i 0) v (by simp [look])
      rw [this]; exact hok
    · have hne2 := hinj i j hi hj hne
      have := hag.at_ (dl.getD j 0) (a.tmps.getD (dl.getD j 0) undef) (by
        simp only [look]
        rw [show Nat.beq (dl.getD i 0) (dl.getD j 0) = false from by cases e2 : Nat.beq (dl.getD i 0) (dl.getD j 0); rfl; exact absurd (Nat.eq_of_beq_eq_true e2).symm hne2]
        rw [Bool.cond_false, look_app]
        cases e3 : look Lc (dl.getD j 0) with
        | some u2 => rw [Option.some_or, hc.at_ _ _ e3]
        | none => rw [Option.none_or, look_app, look_in a dl _ (hmem j hj), Option.some_or])
      rw [this]; exact hmono j _ _ _ hfr hp
  · obtain ⟨o, ho, hk⟩ := hlast a w' hI.1 hI.2 hall
    exact hd_comeR (i := m) (by simpa using ho) hk
  · have key : ∀ k, k ≤ m + 1 → cntU (Array.replicate (m + 1) false) k = k := by
      intro k
      induction k with
      | zero => exact fun _ => rfl
      | succ k ih =>
        intro hk
        rw [cntU, ih (by omega), if_pos]
        simp [Array.getD_eq_getD_getElem?, show k < m + 1 by omega]
    exact key _ (Nat.le_refl _)
  · simp [Array.getD_eq_getD_getElem?]
  · simp [Array.getD_eq_getD_getElem?, show j < m + 1 by omega] at hl
theorem comb_done {R : Act → World → Prop} (h : R a w) : wpList P ops (NormEnd R) [] a w := h
/-- What an operation leaves: kept where new things are made. -/
structure Sp where
  p : Value → World → Prop
  m : ∀ v w w', Fr [] w w' → p v w → p v w'
def spC (u : Value) : Sp := ⟨fun v _ => v = u, fun _ _ _ _ h => h⟩
def spAt (l : List Sp) (j : Nat) : Value → World → Prop := (l.getD j ⟨fun _ _ => True, fun _ _ _ _ _ => trivial⟩).p
theorem spAt_m (l : List Sp) (j : Nat) (v : Value) (w w' : World) (hf : Fr [] w w') (h : spAt l j v w) : spAt l j v w' := (l.getD j ⟨fun _ _ => True, fun _ _ _ _ _ => trivial⟩).m v w w' hf h
/-- A slice of the call's own, from block b on. -/
def spO {α : Type} (E : Enc α) (T b : Nat) (l : List α) : Sp := ⟨fun v w => ∃ g, v = .slice (some ⟨g, 0, none⟩) l.length l.length ∧ Own E T b w (.slice (some ⟨g, 0, none⟩) l.length l.length) l, fun _ _ _ hf ⟨g, e, h⟩ => ⟨g, e, h.ext hf⟩⟩
end
end Go.Lw
namespace Go.Proofs.YtgdlgjkjpbbniaaDoor
open Go.Lw Go.G21

theorem lpo_ext {τ : TyK} {b : Nat} {w w' : World} {q : LpQ} (h : LpO τ b w q) (hf : Fr [] w w') : LpO τ b w' q := h.tf hf OffT.nil OffT.nil
def spL (b : Nat) (l : Lp) : Sp := ⟨fun v w => ∃ q : LpQ, v = .agg (lpL q).toArray ∧ LpO τd b w q ∧ q.p = l, fun _ _ _ hf ⟨q, e, h, k⟩ => ⟨q, e, lpo_ext h hf, k⟩⟩
def spR (b n : Nat) (l : List Lp) : Sp := ⟨fun v w => ∃ (g : Nat) (ls : List LpQ), v = .slice (some ⟨g, 0, none⟩) n n ∧ Lw.Own encLp 68 b w (.slice (some ⟨g, 0, none⟩) n n) ls ∧ (∀ q ∈ ls, LpO τd b w q) ∧ ls.map LpQ.p = l, fun _ _ _ hf ⟨g, ls, e, h, k, j⟩ => ⟨g, ls, e, h.ext hf, fun q hq => lpo_ext (k q hq) hf, j⟩⟩
def spF (b : Nat) (l : List LId) : Sp := ⟨fun v w => ∃ gt gf, v = .agg ([.slice (some ⟨gt, 0, none⟩) 6 6, .slice none 0 0, .slice none 0 0, .slice (some ⟨gf, 0, none⟩) l.length l.length] : List Value).toArray ∧ Lw.Own encTq 42 b w (.slice (some ⟨gt, 0, none⟩) 6 6) (List.replicate 6 tq0) ∧ Lw.Own encId 61 b w (.slice (some ⟨gf, 0, none⟩) l.length l.length) l, fun _ _ _ hf ⟨g, k, e, h, j⟩ => ⟨g, k, e, h.ext hf, j.ext hf⟩⟩
def spA (b : Nat) : Sp := ⟨fun v w => ∃ g, v = .pointer (some ⟨g, 0, none⟩) ∧ Blk w g 33 [.slice none 0 0, .slice none 0 0, .slice none 0 0, .slice none 0 0] ∧ b ≤ g, fun _ _ _ hf ⟨g, e, h, k⟩ => ⟨g, e, h.ext hf, k⟩⟩
theorem tab1 {w : World} {u : SV} {ls : List LpQ} (h1 : Sl encLp w (slv u) ls) (h2 : LpsAt w ls) : TabAt w ((List.replicate 6 tq0).set 0 (u, ls)) := fun p hp => by
  rcases List.mem_or_eq_of_mem_set hp with hp | rfl
  · obtain rfl := List.eq_of_mem_replicate hp
    exact ⟨Sl.nil _, fun q hq => by cases hq⟩
  · exact ⟨h1, h2⟩
abbrev lp_ (b : Int) (nw : Bool) (th : List LId) (pa : List Pa) : Lp := ⟨b, nw, th, pa⟩
def rowA : List Lp := [lp_ 0 true [] [], lp_ 1 false [] [⟨⟨1, 0⟩, false, 0⟩], lp_ 0 false [⟨1, 1⟩, ⟨1, 0⟩] []]
def rowB : List Lp := [lp_ 0 true [] [], lp_ 1 false [] [⟨⟨1, 0⟩, false, 0⟩], lp_ 0 false [⟨1, 0⟩] [⟨⟨1, 1⟩, true, 1⟩], lp_ 1 false [⟨1, 1⟩] [⟨⟨1, 2⟩, false, 0⟩], lp_ 0 false [⟨1, 3⟩, ⟨1, 2⟩] []]
theorem tubA : tubF 1 [1] = ⟨[rowA, [], [], [], [], []], [], [], [⟨1, 2⟩]⟩ := by decide +kernel
theorem tubB : tubF 1 [1, 1] = ⟨[rowB, [], [], [], [], []], [], [], [⟨1, 4⟩]⟩ := by decide +kernel
theorem cntC : cntZ (tubT 3 [1, 1, 2]) = [12, 9, 0, 0, 0, 0] := by decide +kernel
theorem txtC : (if tubE 3 [1, 1, 2] = 0 then textT 3 [1, 1, 2] else []) = [116, 117, 98, 101, 32, 51, 32, 49, 120, 50, 32, 50] := by decide +kernel
theorem parC : parS [116, 117, 98, 101, 32, 51, 32, 49, 120, 49, 32, 50] = none := by decide +kernel
end Go.Proofs.YtgdlgjkjpbbniaaDoor
namespace Go.Proofs.YtgdlgjkjpbbniaaDoor
open Go.Lw Go.G21
theorem co8 : CallOf Tryd.prog 8 := CallOf.mk' Tryd.func8 (by kernel_rfl) (by kernel_rfl)
theorem co10 : CallOf Tryd.prog 10 := CallOf.mk' Tryd.func10 (by kernel_rfl) (by kernel_rfl)
theorem co11 : CallOf Tryd.prog 11 := CallOf.mk' Tryd.func11 (by kernel_rfl) (by kernel_rfl)
theorem co15 : CallOf Tryd.prog 15 := CallOf.mk' Tryd.func15 (by kernel_rfl) (by kernel_rfl)
theorem co25 : CallOf Tryd.prog 25 := CallOf.mk' Tryd.func25 (by kernel_rfl) (by kernel_rfl)
theorem el38 : ElemOf Tryd.prog 38 3 Enc.i64 8 := ElemOf.mk' (z := (.int .i64 0)) Tryd.underlying38 (by kernel_rfl) rfl
set_option maxHeartbeats 4000000 in
set_option maxRecDepth 10000 in
theorem lives_ok (w0 : World) (hG : Glob w0) : Rets Tryd.prog 12 #[] w0 fun r w' => r = .bool true ∧ Fr [] w0 w' := by
 have hGs := hG.sz
 refine we [] Tryd.func12 rfl Tryd.ntmps12 rfl .nil ?_
 have hG0 := hG
 refine sr (asg rfl rfl (nn (sr (s_bslice ([(1 : UInt8)]) (ev1 rfl) rfl rfl rfl el22 (Nat.le_of_ble_eq_true rfl) rfl (fun g12 w1 hg12 ho12 q1 z1 => ?_)))))
 refine s_lit (cs := [_, _]) (ev2 rfl rfl) bo26 (pok_cons rfl rfl rfl (pok_cons rfl rfl rfl pok_nil)) rfl rfl ?_
 refine cl (ev1 rfl) co8 (of_ok 1 _ [1] _ ho12.sl (by decide)) rfl ?_
 rintro _ w2 ⟨f1, rfl, hk1, hp1, q2⟩
 have z2 := q2.size
 have hf1 := hk1.at
 have hf10 := hf1
 refine mv rfl rfl (xt rfl rfl rfl (xt rfl rfl rfl (al zv33 rfl rfl (fun g1 w3 hg1 hb1 q3 z3 => ?_))))
 refine s_storeBA (vs := [_, _, _, _]) rfl rfl hb1 (by rfl) (by first | (simp [Value.oneCell', S]; done) | exact Enc.one _ _) sz33 (fun w4 hb1 q4 z4 => ?_)
 refine asg rfl rfl (kpL [(1, _), (2, _)] (.cons rfl (.cons rfl .nil)) (nn (sq ?_)))
 replace hG := hG0.ext (((q1.next q2).next q3).step q4 (by first | (simp; done) | (simp; omega)))
 intro a h
 replace h := h.sub (L' := [(1, _), (2, _)]) (.cons rfl (.cons rfl .nil))
 refine comb_region (dl := [17, 18, 19, 20, 3]) (m := 5) hmix (by kernel_rfl) rfl (by decide) rfl h (spAt [spO encTq 42 w4.heap.size (List.replicate 6 tq0), spC (.agg #[.int .u8 1, .int .i64 2]), spO encId 61 w4.heap.size [(⟨1, 2⟩ : LId)], spF w4.heap.size [(⟨1, 2⟩ : LId)], spA w4.heap.size]) (spAt_m _) ?_ ?_
 · intro i hi a w5 h hf hb
   have hz := hf.size
   match i, hi, hb with
   | 0, _, hb =>
     refine ⟨_, _, rfl, h, fun h => ?_⟩
     refine st_makeSlice (m := 6) (c := 6) (tq0) h rfl rfl el29 zv42 rfl (Nat.le_refl _) (by decide) (by decide) rfl ?_
     intro g w2 hg ho hq hz' a' h'
     exact comb_done ⟨_, h', hq, g, rfl, ho.low (by omega)⟩
   | 1, _, hb =>
     refine ⟨_, _, rfl, h, fun h => ?_⟩
     refine st_call h (evs_cons rfl evs_nil) co25 (one_ok _ _) rfl ?_
     rintro _ w2 ⟨rfl, hq⟩ a' h'
     exact comb_done ⟨_, h', hq, rfl⟩
   | 2, _, hb =>
     have e18 : a.tmps.getD 18 undef = (.agg #[.int .u8 1, .int .i64 2]) := hb 1 (by kernel_rfl)
     refine ⟨_, _, rfl, (h.eqc e18), fun h => ?_⟩
     refine st_bslice ([(⟨1, 2⟩ : LId)]) h (evs_cons rfl evs_nil) rfl rfl rfl el31 (Nat.le_of_ble_eq_true rfl) rfl ?_
     intro g w2 hg ho hq hz' a' h'
     exact comb_done ⟨_, h', hq, g, rfl, ho.low (by omega)⟩
   | 3, _, hb =>
     obtain ⟨g17, e17, ho17⟩ : ∃ g, a.tmps.getD 17 undef = .slice (some ⟨g, 0, none⟩) 6 6 ∧ Lw.Own encTq 42 w4.heap.size w5 (.slice (some ⟨g, 0, none⟩) 6 6) (List.replicate 6 tq0) := hb 0 (by kernel_rfl)
     obtain ⟨g19, e19, ho19⟩ : ∃ g, a.tmps.getD 19 undef = .slice (some ⟨g, 0, none⟩) 1 1 ∧ Lw.Own encId 61 w4.heap.size w5 (.slice (some ⟨g, 0, none⟩) 1 1) [(⟨1, 2⟩ : LId)] := hb 2 (by kernel_rfl)
     refine ⟨_, _, rfl, ((h.eqc e17).eqc e19), fun h => ?_⟩
     refine st_lit (cs := [_, _, _, _]) h (evs_cons rfl (evs_cons rfl evs_nil)) bo33 (pok_cons rfl rfl rfl (pok_cons rfl rfl rfl pok_nil)) rfl rfl ?_
     intro a' h'
     exact comb_done ⟨_, h', Fr.refl _ _, g17, g19, rfl, ho17, ho19⟩
   | 4, _, hb =>
     refine ⟨_, _, rfl, h, fun h => ?_⟩
     refine st_alloc h zv33 rfl rfl ?_
     intro w2 hb_ hq hz' a' h'
     exact comb_done ⟨_, h', hq, _, rfl, hb_, by omega⟩
   | n + 5, hi, _ => exact absurd hi (by omega)
 · intro a w6 h hf hall
   have z6 := hf.size
   have q6 := hf
   refine ⟨_, rfl, ?_⟩
   obtain ⟨g3, e3, hb3, hg3⟩ : ∃ g, a.tmps.getD 3 undef = .pointer (some ⟨g, 0, none⟩) ∧ Blk w6 g 33 [.slice none 0 0, .slice none 0 0, .slice none 0 0, .slice none 0 0] ∧ w4.heap.size ≤ g := hall 4 (by omega)
   obtain ⟨gT, gF, e20, hoT, hoF⟩ : ∃ gt gf, a.tmps.getD 20 undef = .agg ([.slice (some ⟨gt, 0, none⟩) 6 6, .slice none 0 0, .slice none 0 0, .slice (some ⟨gf, 0, none⟩) 1 1] : List Value).toArray ∧ Lw.Own encTq 42 w4.heap.size w6 (.slice (some ⟨gt, 0, none⟩) 6 6) (List.replicate 6 tq0) ∧ Lw.Own encId 61 w4.heap.size w6 (.slice (some ⟨gf, 0, none⟩) 1 1) [(⟨1, 2⟩ : LId)] := hall 3 (by omega)
   replace h := (h.eqc e3).eqc e20
   clear hall e3 e20
   refine st_storeBA (vs := [_, _, _, _]) h rfl rfl hb3 (by rfl) (by first | (simp [Value.oneCell', S]; done) | exact Enc.one _ _) sz33 ?_; clear h a; intro w7 hbn q7 z7 a h
   have hgT := hoT.blk gT (by simp [blks])
   have hgF := hoF.blk gF (by simp [blks])
   replace hoT := hoT.fr q7 (fun k hk hb => by rw [List.mem_singleton] at hk; subst hk; exact Own.neB hoT hb3 (by decide) hb)
   replace hoF := hoF.fr q7 (fun k hk hb => by rw [List.mem_singleton] at hk; subst hk; exact Own.neB hoF hb3 (by decide) hb)
   have hgTF : gT ≠ gF := fun e => by subst e; exact Own.neB hoT (show Blk _ gT 61 _ from (own_blk hoF gT (by simp [blks])).choose_spec) (by decide) (by simp [blks])
   have hg3z := hb3.lt
   have hgT3 : gT ≠ g3 := fun e => by subst e; exact Own.neB hoT hbn (by decide) (by simp [blks])
   clear hb3
   have hb3 := hbn
   clear hbn
   refine comb_done ?_
   refine bk (h.sub (L' := [(1, _), (2, _), (3, _)]) (.cons rfl (.cons rfl (.cons rfl .nil)))) ?_; clear h a
   refine tn (sq ?_)
   replace hG := hG0.ext (((((q1.next q2).next q3).step q4 (by first | (simp; done) | (simp; omega))).next q6).step q7 (by first | (simp; done) | (simp; omega)))
   replace ho12 := (((ho12.ext (q2.next q3)).fr q4 (by first | (simp; done) | (simp; omega) | (simp [blks]; done) | (simp [blks]; omega) | (intro k hk hb; simp at hk; subst hk; have := ho12.blk _ hb; omega))).ext q6).fr q7 (by first | (simp; done) | (simp; omega) | (simp [blks]; done) | (simp [blks]; omega) | (intro k hk hb; simp at hk; subst hk; have := ho12.blk _ hb; omega))
   replace hf1 := hf10.ext (((q3.step q4 (by first | (simp; done) | (simp; omega))).next q6).step q7 (by first | (simp; done) | (simp; omega)))
   replace hb1 := (hb1.ext q6).fr q7 (by first | (simp; done) | (simp; omega) | (simp [blks]; done) | (simp [blks]; omega))
   intro a h
   replace h := h.sub (L' := [(1, _), (2, _), (3, _)]) (.cons rfl (.cons rfl (.cons rfl .nil)))
   refine comb_region (dl := [21, 22, 23, 24, 25, 26, 27, 28, 29, 30, 31, 32, 33]) (m := 13) hmix (by kernel_rfl) rfl (by decide) rfl h (spAt [spC (.pointer (some ((⟨g3, 0, none⟩ : Addr).add 0))), spC (.slice (some ⟨gT, 0, none⟩) 6 6), spL w7.heap.size (lp_ 0 true [] []), spC (.agg #[.int .u8 1, .int .i64 0]), spC (.agg #[.int .u8 1, .int .i64 0, .bool false, .int .u8 0]), spO encPa 71 w7.heap.size [(⟨(⟨1, 0⟩ : LId), false, 0⟩ : Pa)], spL w7.heap.size (lp_ 1 false [] [(⟨(⟨1, 0⟩ : LId), false, 0⟩ : Pa)]), spC (.agg #[.int .u8 1, .int .i64 1]), spC (.agg #[.int .u8 1, .int .i64 0]), spO encId 61 w7.heap.size [(⟨1, 1⟩ : LId), (⟨1, 0⟩ : LId)], spL w7.heap.size (lp_ 0 false [(⟨1, 1⟩ : LId), (⟨1, 0⟩ : LId)] []), spR w7.heap.size 3 [(lp_ 0 true [] []), (lp_ 1 false [] [(⟨(⟨1, 0⟩ : LId), false, 0⟩ : Pa)]), (lp_ 0 false [(⟨1, 1⟩ : LId), (⟨1, 0⟩ : LId)] [])], spC (.pointer (some ((⟨gT, 0, none⟩ : Addr).add (0 * encTq.sz))))]) (spAt_m _) ?_ ?_
   · intro i hi a w8 h hf hb
     have hz := hf.size
     match i, hi, hb with
     | 0, _, hb =>
       refine ⟨_, _, rfl, h, fun h => ?_⟩
       refine st_fieldAddr h rfl fa33_0 rfl ?_
       intro a' h'
       exact comb_done ⟨_, h', Fr.refl _ _, rfl⟩
     | 1, _, hb =>
       have e21 : a.tmps.getD 21 undef = (.pointer (some ((⟨g3, 0, none⟩ : Addr).add 0))) := hb 0 (by kernel_rfl)
       refine ⟨_, _, rfl, (h.eqc e21), fun h => ?_⟩
       refine st_loadB h rfl (hb3.ext hf) rfl na29 rfl ?_
       intro a' h'
       exact comb_done ⟨_, h', Fr.refl _ _, rfl⟩
     | 2, _, hb =>
       refine ⟨_, _, rfl, h, fun h => ?_⟩
       refine st_lit (cs := [_, _, _, _]) h (evs_cons rfl evs_nil) bo68 (pok_cons rfl rfl rfl pok_nil) rfl rfl ?_
       intro a' h'
       exact comb_done ⟨_, h', Fr.refl _ _, ⟨0, true, sv0, sv0, [], []⟩, rfl, ⟨Own.nil _, Own.nil _⟩, rfl⟩
     | 3, _, hb =>
       refine ⟨_, _, rfl, h, fun h => ?_⟩
       refine st_call h (evs_cons rfl evs_nil) co25 (one_ok _ _) rfl ?_
       rintro _ w2 ⟨rfl, hq⟩ a' h'
       exact comb_done ⟨_, h', hq, rfl⟩
     | 4, _, hb =>
       have e24 : a.tmps.getD 24 undef = (.agg #[.int .u8 1, .int .i64 0]) := hb 3 (by kernel_rfl)
       refine ⟨_, _, rfl, (h.eqc e24), fun h => ?_⟩
       refine st_lit (cs := [_, _, _, _]) h (evs_cons rfl evs_nil) bo71 (pok_cons rfl rfl rfl pok_nil) rfl rfl ?_
       intro a' h'
       exact comb_done ⟨_, h', Fr.refl _ _, rfl⟩
     | 5, _, hb =>
       have e25 : a.tmps.getD 25 undef = (.agg #[.int .u8 1, .int .i64 0, .bool false, .int .u8 0]) := hb 4 (by kernel_rfl)
       refine ⟨_, _, rfl, (h.eqc e25), fun h => ?_⟩
       refine st_bslice ([(⟨(⟨1, 0⟩ : LId), false, 0⟩ : Pa)]) h (evs_cons rfl evs_nil) rfl rfl rfl el66 (Nat.le_of_ble_eq_true rfl) rfl ?_
       intro g w2 hg ho hq hz' a' h'
       exact comb_done ⟨_, h', hq, g, rfl, ho.low (by omega)⟩
     | 6, _, hb =>
       obtain ⟨g26, e26, ho26⟩ : ∃ g, a.tmps.getD 26 undef = .slice (some ⟨g, 0, none⟩) 1 1 ∧ Lw.Own encPa 71 w7.heap.size w8 (.slice (some ⟨g, 0, none⟩) 1 1) [(⟨(⟨1, 0⟩ : LId), false, 0⟩ : Pa)] := hb 5 (by kernel_rfl)
       refine ⟨_, _, rfl, (h.eqc e26), fun h => ?_⟩
       refine st_lit (cs := [_, _, _, _]) h (evs_cons rfl (evs_cons rfl evs_nil)) bo68 (pok_cons rfl rfl rfl (pok_cons rfl rfl rfl pok_nil)) rfl rfl ?_
       intro a' h'
       exact comb_done ⟨_, h', Fr.refl _ _, ⟨1, false, sv0, (some ⟨g26, 0, none⟩, 1, 1), [], [(⟨(⟨1, 0⟩ : LId), false, 0⟩ : Pa)]⟩, rfl, ⟨Own.nil _, ho26⟩, rfl⟩
     | 7, _, hb =>
       refine ⟨_, _, rfl, h, fun h => ?_⟩
       refine st_call h (evs_cons rfl evs_nil) co25 (one_ok _ _) rfl ?_
       rintro _ w2 ⟨rfl, hq⟩ a' h'
       exact comb_done ⟨_, h', hq, rfl⟩
     | 8, _, hb =>
       refine ⟨_, _, rfl, h, fun h => ?_⟩
       refine st_call h (evs_cons rfl evs_nil) co25 (one_ok _ _) rfl ?_
       rintro _ w2 ⟨rfl, hq⟩ a' h'
       exact comb_done ⟨_, h', hq, rfl⟩
     | 9, _, hb =>
       have e28 : a.tmps.getD 28 undef = (.agg #[.int .u8 1, .int .i64 1]) := hb 7 (by kernel_rfl)
       have e29 : a.tmps.getD 29 undef = (.agg #[.int .u8 1, .int .i64 0]) := hb 8 (by kernel_rfl)
       refine ⟨_, _, rfl, ((h.eqc e28).eqc e29), fun h => ?_⟩
       refine st_bslice ([(⟨1, 1⟩ : LId), (⟨1, 0⟩ : LId)]) h (evs_cons rfl (evs_cons rfl evs_nil)) rfl rfl rfl el31 (Nat.le_of_ble_eq_true rfl) rfl ?_
       intro g w2 hg ho hq hz' a' h'
       exact comb_done ⟨_, h', hq, g, rfl, ho.low (by omega)⟩
     | 10, _, hb =>
       obtain ⟨g30, e30, ho30⟩ : ∃ g, a.tmps.getD 30 undef = .slice (some ⟨g, 0, none⟩) 2 2 ∧ Lw.Own encId 61 w7.heap.size w8 (.slice (some ⟨g, 0, none⟩) 2 2) [(⟨1, 1⟩ : LId), (⟨1, 0⟩ : LId)] := hb 9 (by kernel_rfl)
       refine ⟨_, _, rfl, (h.eqc e30), fun h => ?_⟩
       refine st_lit (cs := [_, _, _, _]) h (evs_cons rfl evs_nil) bo68 (pok_cons rfl rfl rfl pok_nil) rfl rfl ?_
       intro a' h'
       exact comb_done ⟨_, h', Fr.refl _ _, ⟨0, false, (some ⟨g30, 0, none⟩, 2, 2), sv0, [(⟨1, 1⟩ : LId), (⟨1, 0⟩ : LId)], []⟩, rfl, ⟨ho30, Own.nil _⟩, rfl⟩
     | 11, _, hb =>
       obtain ⟨y23, e23, ho23, p23⟩ : ∃ q : LpQ, a.tmps.getD 23 undef = .agg (lpL q).toArray ∧ LpO τd w7.heap.size w8 q ∧ q.p = (lp_ 0 true [] []) := hb 2 (by kernel_rfl)
       obtain ⟨y27, e27, ho27, p27⟩ : ∃ q : LpQ, a.tmps.getD 27 undef = .agg (lpL q).toArray ∧ LpO τd w7.heap.size w8 q ∧ q.p = (lp_ 1 false [] [(⟨(⟨1, 0⟩ : LId), false, 0⟩ : Pa)]) := hb 6 (by kernel_rfl)
       obtain ⟨y31, e31, ho31, p31⟩ : ∃ q : LpQ, a.tmps.getD 31 undef = .agg (lpL q).toArray ∧ LpO τd w7.heap.size w8 q ∧ q.p = (lp_ 0 false [(⟨1, 1⟩ : LId), (⟨1, 0⟩ : LId)] []) := hb 10 (by kernel_rfl)
       refine ⟨_, _, rfl, (((h.eqc e23).eqc e27).eqc e31), fun h => ?_⟩
       refine st_bslice ([y23, y27, y31]) h (evs_cons rfl (evs_cons rfl (evs_cons rfl evs_nil))) rfl rfl rfl el42 (Nat.le_of_ble_eq_true rfl) rfl ?_
       intro g w2 hg ho hq hz' a' h'
       refine comb_done ⟨_, h', hq, g, [y23, y27, y31], rfl, ho.low (by omega), fun q hq_ => ?_, ?_⟩
       · simp only [List.mem_cons, List.not_mem_nil, or_false] at hq_
         rcases hq_ with rfl | rfl | rfl
         · exact lpo_ext ho23 hq
         · exact lpo_ext ho27 hq
         · exact lpo_ext ho31 hq
       · show [y23.p, y27.p, y31.p] = _; rw [p23, p27, p31]
     | 12, _, hb =>
       have e22 : a.tmps.getD 22 undef = (.slice (some ⟨gT, 0, none⟩) 6 6) := hb 1 (by kernel_rfl)
       refine ⟨_, _, rfl, (h.eqc e22), fun h => ?_⟩
       refine st_idxS (p := 0) (E := encTq) h rfl rfl el29 (by decide) (by decide) rfl rfl ?_
       intro a' h'
       exact comb_done ⟨_, h', Fr.refl _ _, rfl⟩
     | n + 13, hi, _ => exact absurd hi (by omega)
   · intro a w9 h hf hall
     have z9 := hf.size
     have q9 := hf
     refine ⟨_, rfl, ?_⟩
     have e33 : a.tmps.getD 33 undef = (.pointer (some ((⟨gT, 0, none⟩ : Addr).add (0 * encTq.sz)))) := hall 12 (by omega)
     obtain ⟨g32, ls, e32, ho32, hls, hlp⟩ : ∃ (g : Nat) (ls : List LpQ), a.tmps.getD 32 undef = .slice (some ⟨g, 0, none⟩) 3 3 ∧ Lw.Own encLp 68 w7.heap.size w9 (.slice (some ⟨g, 0, none⟩) 3 3) ls ∧ (∀ q ∈ ls, LpO τd w7.heap.size w9 q) ∧ ls.map LpQ.p = [(lp_ 0 true [] []), (lp_ 1 false [] [(⟨(⟨1, 0⟩ : LId), false, 0⟩ : Pa)]), (lp_ 0 false [(⟨1, 1⟩ : LId), (⟨1, 0⟩ : LId)] [])] := hall 11 (by omega)
     replace hoT := hoT.ext q9
     replace hb3 := hb3.ext q9
     replace hoF := hoF.ext q9
     replace h := (h.eqc e33).eqc e32
     clear hall e33 e32
     refine st_storeO (i := 0) (((some ⟨g32, 0, none⟩, 3, 3), ls) : TQ) h rfl rfl hoT (by simp) rfl sz42 ?_; clear h a; intro w10 ho_2 q10 z10 a h
     have hgR := ho32.blk g32 (by simp [blks])
     have hgT_ := (hoT.blk gT (by simp [blks])).2
     replace hb3 := hb3.fr q10 (by simp; omega)
     replace hoF := hoF.fr q10 (by intro k hk hb; simp [blks] at hk hb; omega)
     have hoTb := hoT
     clear hoT
     have hoT := ho_2
     clear ho_2
     try rw [List.set_set] at hoT
     have hRw : Lw.Own encLp 68 0 w10 (slv (some ⟨g32, 0, none⟩, 3, 3)) ls := (ho32.fr q10 (fun k hk hb => by rw [List.mem_singleton] at hk; subst hk; have := (ho32.blk _ hb).1; omega)).low (Nat.zero_le _)
     have hRl : ∀ q ∈ ls, LpO τd (gT + 1) w10 q := fun q hq => LpO.tf ⟨(hls q hq).1.low (by omega), (hls q hq).2.low (by omega)⟩ q10 (own_off (E := encTq) (v := .slice (some ⟨gT, 0, none⟩) 6 6) hoTb (by decide)) (own_off (E := encTq) (v := .slice (some ⟨gT, 0, none⟩) 6 6) hoTb (by decide))
     have hRq : Sl encLp w10 (slv (some ⟨g32, 0, none⟩, 3, 3)) ls ∧ LpsAt w10 ls := ⟨hRw.sl, fun q hq => (hRl q hq).at⟩
     have hRq0 := hRq
     refine comb_done ?_
     have hQA : FbAt w10 (⟨(some ⟨gT, 0, none⟩, 6, 6), sv0, sv0, (some ⟨gF, 0, none⟩, 1, 1), (List.replicate 6 tq0).set 0 ((some ⟨g32, 0, none⟩, 3, 3), ls), [], [], [⟨1, 2⟩]⟩ : FbQ) := ⟨hoT.sl, tab1 hRq.1 hRq.2, Sl.nil _, Sl.nil _, hoF.sl⟩
     have hQA0 := hQA
     have heA : f1.p = ((⟨(some ⟨gT, 0, none⟩, 6, 6), sv0, sv0, (some ⟨gF, 0, none⟩, 1, 1), (List.replicate 6 tq0).set 0 ((some ⟨g32, 0, none⟩, 3, 3), ls), [], [], [⟨1, 2⟩]⟩ : FbQ)).p := by rw [hp1, tubA]; show _ = Fb.mk [ls.map LpQ.p, [], [], [], [], []] [] [] [⟨1, 2⟩]; rw [hlp]; rfl
     refine bk (h.sub (L' := [(1, _), (2, _), (3, _)]) (.cons rfl (.cons rfl (.cons rfl .nil)))) ?_; clear h a
     refine tn (sq (sq ?_))
     refine rboF (r := 41) (L' := [(3, _)]) (((0 ≠ 0) ∨ (0 ≠ 0))) (.cons rfl .nil) ?_ ?_
     · refine mv rfl rfl (ne' rfl rfl rfl (mv rfl rfl ?_))
       refine gs 36 rfl (fun hh => absurd hh (by decide)) (fun g0 => ?_)
       refine gY rfl ?_
       replace hb1 := (hb1.ext q9).fr q10 (by first | (simp; done) | (simp; omega) | (simp [blks]; done) | (simp [blks]; omega))
       refine s_loadBA rfl hb1 ag33 rfl (gY rfl (s_loadBA rfl hb3 ag33 rfl (gY rfl ?_)))
       replace hf1 := hf10.ext (((((q3.step q4 (by first | (simp; done) | (simp; omega))).next q6).step q7 (by first | (simp; done) | (simp; omega))).next q9).step q10 (by first | (simp; done) | (simp; omega)))
       refine cl (ev2 rfl rfl) co11 (by have hfA := fabrics_ok _ _ _ hf1 hQA heA; exact hfA) rfl ?_
       rintro _ w11 ⟨rfl, q11⟩
       have z11 := q11.size
       exact gY rfl (ne' rfl rfl rfl (pkf rfl rfl rfl rfl (rbeF rfl (by first | exact bt (by omega) | exact bf (by omega) | exact bi (by omega) | exact bn (by omega) | (simp_all; done) | (simp_all; omega)) (.cons rfl .nil) q11)))
     · intro w12 q12; have z12 := q12.size
       refine tn ?_
       refine cd rfl (fun c0 => ?_) (fun c0 => ?_)
       · refine sr (asg rfl rfl (nn (rt (tr (r1 Tryd.results12 rfl ?_)))))
         exact absurd c0 (by decide)
       · refine sk (tn (sr (s_bslice ([(1 : UInt8), 1]) (ev2 rfl rfl) rfl rfl rfl el22 (Nat.le_of_ble_eq_true rfl) rfl (fun g43 w13 hg43 ho43 q13 z13 => ?_))))
         refine s_lit (cs := [_, _]) (ev2 rfl rfl) bo26 (pok_cons rfl rfl rfl (pok_cons rfl rfl rfl pok_nil)) rfl rfl ?_
         refine cl (ev1 rfl) co8 (of_ok 1 _ [1, 1] _ ho43.sl (by decide)) rfl ?_
         rintro _ w14 ⟨f2, rfl, hk2, hp2, q14⟩
         have z14 := q14.size
         have hf2 := hk2.at
         have hf20 := hf2
         refine mv rfl rfl (xt rfl rfl rfl (xt rfl rfl rfl (al zv33 rfl rfl (fun g4 w15 hg4 hb4 q15 z15 => ?_))))
         refine s_storeBA (vs := [_, _, _, _]) rfl rfl hb4 (by rfl) (by first | (simp [Value.oneCell', S]; done) | exact Enc.one _ _) sz33 (fun w16 hb4 q16 z16 => ?_)
         refine asg rfl rfl (kpL [(3, _), (4, _), (5, _)] (.cons rfl (.cons rfl (.cons rfl .nil))) (nn (sq ?_)))
         replace hG := hG0.ext ((((((((((((q1.next q2).next q3).step q4 (by first | (simp; done) | (simp; omega))).next q6).step q7 (by first | (simp; done) | (simp; omega))).next q9).step q10 (by first | (simp; done) | (simp; omega))).next q12).next q13).next q14).next q15).step q16 (by first | (simp; done) | (simp; omega)))
         replace ho12 := (((ho12.ext q9).fr q10 (by first | (simp; done) | (simp; omega) | (simp [blks]; done) | (simp [blks]; omega) | (intro k hk hb; simp at hk; subst hk; have := ho12.blk _ hb; omega))).ext (((q12.next q13).next q14).next q15)).fr q16 (by first | (simp; done) | (simp; omega) | (simp [blks]; done) | (simp [blks]; omega) | (intro k hk hb; simp at hk; subst hk; have := ho12.blk _ hb; omega))
         replace hf1 := hf10.ext ((((((((((q3.step q4 (by first | (simp; done) | (simp; omega))).next q6).step q7 (by first | (simp; done) | (simp; omega))).next q9).step q10 (by first | (simp; done) | (simp; omega))).next q12).next q13).next q14).next q15).step q16 (by first | (simp; done) | (simp; omega)))
         replace hb1 := (((hb1.ext q9).fr q10 (by first | (simp; done) | (simp; omega) | (simp [blks]; done) | (simp [blks]; omega))).ext (((q12.next q13).next q14).next q15)).fr q16 (by first | (simp; done) | (simp; omega) | (simp [blks]; done) | (simp [blks]; omega))
         replace hb3 := (hb3.ext (((q12.next q13).next q14).next q15)).fr q16 (by first | (simp; done) | (simp; omega) | (simp [blks]; done) | (simp [blks]; omega))
         replace hoT := (hoT.ext (((q12.next q13).next q14).next q15)).fr q16 (by intro k hk hb; simp [blks] at hk hb; omega)
         replace hoF := (hoF.ext (((q12.next q13).next q14).next q15)).fr q16 (by intro k hk hb; simp [blks] at hk hb; omega)
         replace hQA := hQA0.ext ((((q12.next q13).next q14).next q15).step q16 (by first | (simp; done) | (simp; omega)))
         replace ho43 := (ho43.ext (q14.next q15)).fr q16 (by first | (simp; done) | (simp; omega) | (simp [blks]; done) | (simp [blks]; omega) | (intro k hk hb; simp at hk; subst hk; have := ho43.blk _ hb; omega))
         replace hf2 := hf20.ext (q15.step q16 (by first | (simp; done) | (simp; omega)))
         intro a h
         replace h := h.sub (L' := [(3, _), (4, _), (5, _)]) (.cons rfl (.cons rfl (.cons rfl .nil)))
         refine comb_region (dl := [48, 49, 50, 51, 52, 53, 54, 55, 56, 57, 58, 59, 60, 61, 62, 63, 64, 65, 66, 67, 68, 69, 70, 71, 72]) (m := 25) hmix (by kernel_rfl) rfl (by decide) rfl h (spAt [spC (.pointer (some ((⟨g3, 0, none⟩ : Addr).add 0))), spC (.slice (some ⟨gT, 0, none⟩) 6 6), spL w16.heap.size (lp_ 0 true [] []), spC (.agg #[.int .u8 1, .int .i64 0]), spC (.agg #[.int .u8 1, .int .i64 0, .bool false, .int .u8 0]), spO encPa 71 w16.heap.size [(⟨(⟨1, 0⟩ : LId), false, 0⟩ : Pa)], spL w16.heap.size (lp_ 1 false [] [(⟨(⟨1, 0⟩ : LId), false, 0⟩ : Pa)]), spC (.agg #[.int .u8 1, .int .i64 0]), spO encId 61 w16.heap.size [(⟨1, 0⟩ : LId)], spC (.agg #[.int .u8 1, .int .i64 1]), spC (.agg #[.int .u8 1, .int .i64 1, .bool true, .int .u8 1]), spO encPa 71 w16.heap.size [(⟨(⟨1, 1⟩ : LId), true, 1⟩ : Pa)], spL w16.heap.size (lp_ 0 false [(⟨1, 0⟩ : LId)] [(⟨(⟨1, 1⟩ : LId), true, 1⟩ : Pa)]), spC (.agg #[.int .u8 1, .int .i64 1]), spO encId 61 w16.heap.size [(⟨1, 1⟩ : LId)], spC (.agg #[.int .u8 1, .int .i64 2]), spC (.agg #[.int .u8 1, .int .i64 2, .bool false, .int .u8 0]), spO encPa 71 w16.heap.size [(⟨(⟨1, 2⟩ : LId), false, 0⟩ : Pa)], spL w16.heap.size (lp_ 1 false [(⟨1, 1⟩ : LId)] [(⟨(⟨1, 2⟩ : LId), false, 0⟩ : Pa)]), spC (.agg #[.int .u8 1, .int .i64 3]), spC (.agg #[.int .u8 1, .int .i64 2]), spO encId 61 w16.heap.size [(⟨1, 3⟩ : LId), (⟨1, 2⟩ : LId)], spL w16.heap.size (lp_ 0 false [(⟨1, 3⟩ : LId), (⟨1, 2⟩ : LId)] []), spR w16.heap.size 5 [(lp_ 0 true [] []), (lp_ 1 false [] [(⟨(⟨1, 0⟩ : LId), false, 0⟩ : Pa)]), (lp_ 0 false [(⟨1, 0⟩ : LId)] [(⟨(⟨1, 1⟩ : LId), true, 1⟩ : Pa)]), (lp_ 1 false [(⟨1, 1⟩ : LId)] [(⟨(⟨1, 2⟩ : LId), false, 0⟩ : Pa)]), (lp_ 0 false [(⟨1, 3⟩ : LId), (⟨1, 2⟩ : LId)] [])], spC (.pointer (some ((⟨gT, 0, none⟩ : Addr).add (0 * encTq.sz))))]) (spAt_m _) ?_ ?_
         · intro i hi a w17 h hf hb
           have hz := hf.size
           match i, hi, hb with
           | 0, _, hb =>
             refine ⟨_, _, rfl, h, fun h => ?_⟩
             refine st_fieldAddr h rfl fa33_0 rfl ?_
             intro a' h'
             exact comb_done ⟨_, h', Fr.refl _ _, rfl⟩
           | 1, _, hb =>
             have e48 : a.tmps.getD 48 undef = (.pointer (some ((⟨g3, 0, none⟩ : Addr).add 0))) := hb 0 (by kernel_rfl)
             refine ⟨_, _, rfl, (h.eqc e48), fun h => ?_⟩
             refine st_loadB h rfl (hb3.ext hf) rfl na29 rfl ?_
             intro a' h'
             exact comb_done ⟨_, h', Fr.refl _ _, rfl⟩
           | 2, _, hb =>
             refine ⟨_, _, rfl, h, fun h => ?_⟩
             refine st_lit (cs := [_, _, _, _]) h (evs_cons rfl evs_nil) bo68 (pok_cons rfl rfl rfl pok_nil) rfl rfl ?_
             intro a' h'
             exact comb_done ⟨_, h', Fr.refl _ _, ⟨0, true, sv0, sv0, [], []⟩, rfl, ⟨Own.nil _, Own.nil _⟩, rfl⟩
           | 3, _, hb =>
             refine ⟨_, _, rfl, h, fun h => ?_⟩
             refine st_call h (evs_cons rfl evs_nil) co25 (one_ok _ _) rfl ?_
             rintro _ w2 ⟨rfl, hq⟩ a' h'
             exact comb_done ⟨_, h', hq, rfl⟩
           | 4, _, hb =>
             have e51 : a.tmps.getD 51 undef = (.agg #[.int .u8 1, .int .i64 0]) := hb 3 (by kernel_rfl)
             refine ⟨_, _, rfl, (h.eqc e51), fun h => ?_⟩
             refine st_lit (cs := [_, _, _, _]) h (evs_cons rfl evs_nil) bo71 (pok_cons rfl rfl rfl pok_nil) rfl rfl ?_
             intro a' h'
             exact comb_done ⟨_, h', Fr.refl _ _, rfl⟩
           | 5, _, hb =>
             have e52 : a.tmps.getD 52 undef = (.agg #[.int .u8 1, .int .i64 0, .bool false, .int .u8 0]) := hb 4 (by kernel_rfl)
             refine ⟨_, _, rfl, (h.eqc e52), fun h => ?_⟩
             refine st_bslice ([(⟨(⟨1, 0⟩ : LId), false, 0⟩ : Pa)]) h (evs_cons rfl evs_nil) rfl rfl rfl el66 (Nat.le_of_ble_eq_true rfl) rfl ?_
             intro g w2 hg ho hq hz' a' h'
             exact comb_done ⟨_, h', hq, g, rfl, ho.low (by omega)⟩
           | 6, _, hb =>
             obtain ⟨g53, e53, ho53⟩ : ∃ g, a.tmps.getD 53 undef = .slice (some ⟨g, 0, none⟩) 1 1 ∧ Lw.Own encPa 71 w16.heap.size w17 (.slice (some ⟨g, 0, none⟩) 1 1) [(⟨(⟨1, 0⟩ : LId), false, 0⟩ : Pa)] := hb 5 (by kernel_rfl)
             refine ⟨_, _, rfl, (h.eqc e53), fun h => ?_⟩
             refine st_lit (cs := [_, _, _, _]) h (evs_cons rfl (evs_cons rfl evs_nil)) bo68 (pok_cons rfl rfl rfl (pok_cons rfl rfl rfl pok_nil)) rfl rfl ?_
             intro a' h'
             exact comb_done ⟨_, h', Fr.refl _ _, ⟨1, false, sv0, (some ⟨g53, 0, none⟩, 1, 1), [], [(⟨(⟨1, 0⟩ : LId), false, 0⟩ : Pa)]⟩, rfl, ⟨Own.nil _, ho53⟩, rfl⟩
           | 7, _, hb =>
             refine ⟨_, _, rfl, h, fun h => ?_⟩
             refine st_call h (evs_cons rfl evs_nil) co25 (one_ok _ _) rfl ?_
             rintro _ w2 ⟨rfl, hq⟩ a' h'
             exact comb_done ⟨_, h', hq, rfl⟩
           | 8, _, hb =>
             have e55 : a.tmps.getD 55 undef = (.agg #[.int .u8 1, .int .i64 0]) := hb 7 (by kernel_rfl)
             refine ⟨_, _, rfl, (h.eqc e55), fun h => ?_⟩
             refine st_bslice ([(⟨1, 0⟩ : LId)]) h (evs_cons rfl evs_nil) rfl rfl rfl el31 (Nat.le_of_ble_eq_true rfl) rfl ?_
             intro g w2 hg ho hq hz' a' h'
             exact comb_done ⟨_, h', hq, g, rfl, ho.low (by omega)⟩
           | 9, _, hb =>
             refine ⟨_, _, rfl, h, fun h => ?_⟩
             refine st_call h (evs_cons rfl evs_nil) co25 (one_ok _ _) rfl ?_
             rintro _ w2 ⟨rfl, hq⟩ a' h'
             exact comb_done ⟨_, h', hq, rfl⟩
           | 10, _, hb =>
             have e57 : a.tmps.getD 57 undef = (.agg #[.int .u8 1, .int .i64 1]) := hb 9 (by kernel_rfl)
             refine ⟨_, _, rfl, (h.eqc e57), fun h => ?_⟩
             refine st_lit (cs := [_, _, _, _]) h (evs_cons rfl (evs_cons rfl (evs_cons rfl evs_nil))) bo71 (pok_cons rfl rfl rfl (pok_cons rfl rfl rfl (pok_cons rfl rfl rfl pok_nil))) rfl rfl ?_
             intro a' h'
             exact comb_done ⟨_, h', Fr.refl _ _, rfl⟩
           | 11, _, hb =>
             have e58 : a.tmps.getD 58 undef = (.agg #[.int .u8 1, .int .i64 1, .bool true, .int .u8 1]) := hb 10 (by kernel_rfl)
             refine ⟨_, _, rfl, (h.eqc e58), fun h => ?_⟩
             refine st_bslice ([(⟨(⟨1, 1⟩ : LId), true, 1⟩ : Pa)]) h (evs_cons rfl evs_nil) rfl rfl rfl el66 (Nat.le_of_ble_eq_true rfl) rfl ?_
             intro g w2 hg ho hq hz' a' h'
             exact comb_done ⟨_, h', hq, g, rfl, ho.low (by omega)⟩
           | 12, _, hb =>
             obtain ⟨g56, e56, ho56⟩ : ∃ g, a.tmps.getD 56 undef = .slice (some ⟨g, 0, none⟩) 1 1 ∧ Lw.Own encId 61 w16.heap.size w17 (.slice (some ⟨g, 0, none⟩) 1 1) [(⟨1, 0⟩ : LId)] := hb 8 (by kernel_rfl)
             obtain ⟨g59, e59, ho59⟩ : ∃ g, a.tmps.getD 59 undef = .slice (some ⟨g, 0, none⟩) 1 1 ∧ Lw.Own encPa 71 w16.heap.size w17 (.slice (some ⟨g, 0, none⟩) 1 1) [(⟨(⟨1, 1⟩ : LId), true, 1⟩ : Pa)] := hb 11 (by kernel_rfl)
             refine ⟨_, _, rfl, ((h.eqc e56).eqc e59), fun h => ?_⟩
             refine st_lit (cs := [_, _, _, _]) h (evs_cons rfl (evs_cons rfl evs_nil)) bo68 (pok_cons rfl rfl rfl (pok_cons rfl rfl rfl pok_nil)) rfl rfl ?_
             intro a' h'
             exact comb_done ⟨_, h', Fr.refl _ _, ⟨0, false, (some ⟨g56, 0, none⟩, 1, 1), (some ⟨g59, 0, none⟩, 1, 1), [(⟨1, 0⟩ : LId)], [(⟨(⟨1, 1⟩ : LId), true, 1⟩ : Pa)]⟩, rfl, ⟨ho56, ho59⟩, rfl⟩
           | 13, _, hb =>
             refine ⟨_, _, rfl, h, fun h => ?_⟩
             refine st_call h (evs_cons rfl evs_nil) co25 (one_ok _ _) rfl ?_
             rintro _ w2 ⟨rfl, hq⟩ a' h'
             exact comb_done ⟨_, h', hq, rfl⟩
           | 14, _, hb =>
             have e61 : a.tmps.getD 61 undef = (.agg #[.int .u8 1, .int .i64 1]) := hb 13 (by kernel_rfl)
             refine ⟨_, _, rfl, (h.eqc e61), fun h => ?_⟩
             refine st_bslice ([(⟨1, 1⟩ : LId)]) h (evs_cons rfl evs_nil) rfl rfl rfl el31 (Nat.le_of_ble_eq_true rfl) rfl ?_
             intro g w2 hg ho hq hz' a' h'
             exact comb_done ⟨_, h', hq, g, rfl, ho.low (by omega)⟩
           | 15, _, hb =>
             refine ⟨_, _, rfl, h, fun h => ?_⟩
             refine st_call h (evs_cons rfl evs_nil) co25 (one_ok _ _) rfl ?_
             rintro _ w2 ⟨rfl, hq⟩ a' h'
             exact comb_done ⟨_, h', hq, rfl⟩
           | 16, _, hb =>
             have e63 : a.tmps.getD 63 undef = (.agg #[.int .u8 1, .int .i64 2]) := hb 15 (by kernel_rfl)
             refine ⟨_, _, rfl, (h.eqc e63), fun h => ?_⟩
             refine st_lit (cs := [_, _, _, _]) h (evs_cons rfl evs_nil) bo71 (pok_cons rfl rfl rfl pok_nil) rfl rfl ?_
             intro a' h'
             exact comb_done ⟨_, h', Fr.refl _ _, rfl⟩
           | 17, _, hb =>
             have e64 : a.tmps.getD 64 undef = (.agg #[.int .u8 1, .int .i64 2, .bool false, .int .u8 0]) := hb 16 (by kernel_rfl)
             refine ⟨_, _, rfl, (h.eqc e64), fun h => ?_⟩
             refine st_bslice ([(⟨(⟨1, 2⟩ : LId), false, 0⟩ : Pa)]) h (evs_cons rfl evs_nil) rfl rfl rfl el66 (Nat.le_of_ble_eq_true rfl) rfl ?_
             intro g w2 hg ho hq hz' a' h'
             exact comb_done ⟨_, h', hq, g, rfl, ho.low (by omega)⟩
           | 18, _, hb =>
             obtain ⟨g62, e62, ho62⟩ : ∃ g, a.tmps.getD 62 undef = .slice (some ⟨g, 0, none⟩) 1 1 ∧ Lw.Own encId 61 w16.heap.size w17 (.slice (some ⟨g, 0, none⟩) 1 1) [(⟨1, 1⟩ : LId)] := hb 14 (by kernel_rfl)
             obtain ⟨g65, e65, ho65⟩ : ∃ g, a.tmps.getD 65 undef = .slice (some ⟨g, 0, none⟩) 1 1 ∧ Lw.Own encPa 71 w16.heap.size w17 (.slice (some ⟨g, 0, none⟩) 1 1) [(⟨(⟨1, 2⟩ : LId), false, 0⟩ : Pa)] := hb 17 (by kernel_rfl)
             refine ⟨_, _, rfl, ((h.eqc e62).eqc e65), fun h => ?_⟩
             refine st_lit (cs := [_, _, _, _]) h (evs_cons rfl (evs_cons rfl (evs_cons rfl evs_nil))) bo68 (pok_cons rfl rfl rfl (pok_cons rfl rfl rfl (pok_cons rfl rfl rfl pok_nil))) rfl rfl ?_
             intro a' h'
             exact comb_done ⟨_, h', Fr.refl _ _, ⟨1, false, (some ⟨g62, 0, none⟩, 1, 1), (some ⟨g65, 0, none⟩, 1, 1), [(⟨1, 1⟩ : LId)], [(⟨(⟨1, 2⟩ : LId), false, 0⟩ : Pa)]⟩, rfl, ⟨ho62, ho65⟩, rfl⟩
           | 19, _, hb =>
             refine ⟨_, _, rfl, h, fun h => ?_⟩
             refine st_call h (evs_cons rfl evs_nil) co25 (one_ok _ _) rfl ?_
             rintro _ w2 ⟨rfl, hq⟩ a' h'
             exact comb_done ⟨_, h', hq, rfl⟩
           | 20, _, hb =>
             refine ⟨_, _, rfl, h, fun h => ?_⟩
             refine st_call h (evs_cons rfl evs_nil) co25 (one_ok _ _) rfl ?_
             rintro _ w2 ⟨rfl, hq⟩ a' h'
             exact comb_done ⟨_, h', hq, rfl⟩
           | 21, _, hb =>
             have e67 : a.tmps.getD 67 undef = (.agg #[.int .u8 1, .int .i64 3]) := hb 19 (by kernel_rfl)
             have e68 : a.tmps.getD 68 undef = (.agg #[.int .u8 1, .int .i64 2]) := hb 20 (by kernel_rfl)
             refine ⟨_, _, rfl, ((h.eqc e67).eqc e68), fun h => ?_⟩
             refine st_bslice ([(⟨1, 3⟩ : LId), (⟨1, 2⟩ : LId)]) h (evs_cons rfl (evs_cons rfl evs_nil)) rfl rfl rfl el31 (Nat.le_of_ble_eq_true rfl) rfl ?_
             intro g w2 hg ho hq hz' a' h'
             exact comb_done ⟨_, h', hq, g, rfl, ho.low (by omega)⟩
           | 22, _, hb =>
             obtain ⟨g69, e69, ho69⟩ : ∃ g, a.tmps.getD 69 undef = .slice (some ⟨g, 0, none⟩) 2 2 ∧ Lw.Own encId 61 w16.heap.size w17 (.slice (some ⟨g, 0, none⟩) 2 2) [(⟨1, 3⟩ : LId), (⟨1, 2⟩ : LId)] := hb 21 (by kernel_rfl)
             refine ⟨_, _, rfl, (h.eqc e69), fun h => ?_⟩
             refine st_lit (cs := [_, _, _, _]) h (evs_cons rfl evs_nil) bo68 (pok_cons rfl rfl rfl pok_nil) rfl rfl ?_
             intro a' h'
             exact comb_done ⟨_, h', Fr.refl _ _, ⟨0, false, (some ⟨g69, 0, none⟩, 2, 2), sv0, [(⟨1, 3⟩ : LId), (⟨1, 2⟩ : LId)], []⟩, rfl, ⟨ho69, Own.nil _⟩, rfl⟩
           | 23, _, hb =>
             obtain ⟨y50, e50, ho50, p50⟩ : ∃ q : LpQ, a.tmps.getD 50 undef = .agg (lpL q).toArray ∧ LpO τd w16.heap.size w17 q ∧ q.p = (lp_ 0 true [] []) := hb 2 (by kernel_rfl)
             obtain ⟨y54, e54, ho54, p54⟩ : ∃ q : LpQ, a.tmps.getD 54 undef = .agg (lpL q).toArray ∧ LpO τd w16.heap.size w17 q ∧ q.p = (lp_ 1 false [] [(⟨(⟨1, 0⟩ : LId), false, 0⟩ : Pa)]) := hb 6 (by kernel_rfl)
             obtain ⟨y60, e60, ho60, p60⟩ : ∃ q : LpQ, a.tmps.getD 60 undef = .agg (lpL q).toArray ∧ LpO τd w16.heap.size w17 q ∧ q.p = (lp_ 0 false [(⟨1, 0⟩ : LId)] [(⟨(⟨1, 1⟩ : LId), true, 1⟩ : Pa)]) := hb 12 (by kernel_rfl)
             obtain ⟨y66, e66, ho66, p66⟩ : ∃ q : LpQ, a.tmps.getD 66 undef = .agg (lpL q).toArray ∧ LpO τd w16.heap.size w17 q ∧ q.p = (lp_ 1 false [(⟨1, 1⟩ : LId)] [(⟨(⟨1, 2⟩ : LId), false, 0⟩ : Pa)]) := hb 18 (by kernel_rfl)
             obtain ⟨y70, e70, ho70, p70⟩ : ∃ q : LpQ, a.tmps.getD 70 undef = .agg (lpL q).toArray ∧ LpO τd w16.heap.size w17 q ∧ q.p = (lp_ 0 false [(⟨1, 3⟩ : LId), (⟨1, 2⟩ : LId)] []) := hb 22 (by kernel_rfl)
             refine ⟨_, _, rfl, (((((h.eqc e50).eqc e54).eqc e60).eqc e66).eqc e70), fun h => ?_⟩
             refine st_bslice ([y50, y54, y60, y66, y70]) h (evs_cons rfl (evs_cons rfl (evs_cons rfl (evs_cons rfl (evs_cons rfl evs_nil))))) rfl rfl rfl el42 (Nat.le_of_ble_eq_true rfl) rfl ?_
             intro g w2 hg ho hq hz' a' h'
             refine comb_done ⟨_, h', hq, g, [y50, y54, y60, y66, y70], rfl, ho.low (by omega), fun q hq_ => ?_, ?_⟩
             · simp only [List.mem_cons, List.not_mem_nil, or_false] at hq_
               rcases hq_ with rfl | rfl | rfl | rfl | rfl
               · exact lpo_ext ho50 hq
               · exact lpo_ext ho54 hq
               · exact lpo_ext ho60 hq
               · exact lpo_ext ho66 hq
               · exact lpo_ext ho70 hq
             · show [y50.p, y54.p, y60.p, y66.p, y70.p] = _; rw [p50, p54, p60, p66, p70]
           | 24, _, hb =>
             have e49 : a.tmps.getD 49 undef = (.slice (some ⟨gT, 0, none⟩) 6 6) := hb 1 (by kernel_rfl)
             refine ⟨_, _, rfl, (h.eqc e49), fun h => ?_⟩
             refine st_idxS (p := 0) (E := encTq) h rfl rfl el29 (by decide) (by decide) rfl rfl ?_
             intro a' h'
             exact comb_done ⟨_, h', Fr.refl _ _, rfl⟩
           | n + 25, hi, _ => exact absurd hi (by omega)
         · intro a w18 h hf hall
           have z18 := hf.size
           have q18 := hf
           refine ⟨_, rfl, ?_⟩
           have e72 : a.tmps.getD 72 undef = (.pointer (some ((⟨gT, 0, none⟩ : Addr).add (0 * encTq.sz)))) := hall 24 (by omega)
           obtain ⟨g71, ls, e71, ho71, hls, hlp⟩ : ∃ (g : Nat) (ls : List LpQ), a.tmps.getD 71 undef = .slice (some ⟨g, 0, none⟩) 5 5 ∧ Lw.Own encLp 68 w16.heap.size w18 (.slice (some ⟨g, 0, none⟩) 5 5) ls ∧ (∀ q ∈ ls, LpO τd w16.heap.size w18 q) ∧ ls.map LpQ.p = [(lp_ 0 true [] []), (lp_ 1 false [] [(⟨(⟨1, 0⟩ : LId), false, 0⟩ : Pa)]), (lp_ 0 false [(⟨1, 0⟩ : LId)] [(⟨(⟨1, 1⟩ : LId), true, 1⟩ : Pa)]), (lp_ 1 false [(⟨1, 1⟩ : LId)] [(⟨(⟨1, 2⟩ : LId), false, 0⟩ : Pa)]), (lp_ 0 false [(⟨1, 3⟩ : LId), (⟨1, 2⟩ : LId)] [])] := hall 23 (by omega)
           replace hoT := hoT.ext q18
           replace hb3 := hb3.ext q18
           replace hoF := hoF.ext q18
           replace h := (h.eqc e72).eqc e71
           clear hall e72 e71
           refine st_storeO (i := 0) (((some ⟨g71, 0, none⟩, 5, 5), ls) : TQ) h rfl rfl hoT (by simp) rfl sz42 ?_; clear h a; intro w19 ho_2 q19 z19 a h
           have hgR := ho71.blk g71 (by simp [blks])
           have hgT_ := (hoT.blk gT (by simp [blks])).2
           replace hb3 := hb3.fr q19 (by simp; omega)
           replace hoF := hoF.fr q19 (by intro k hk hb; simp [blks] at hk hb; omega)
           have hoTb := hoT
           clear hoT
           have hoT := ho_2
           clear ho_2
           try rw [List.set_set] at hoT
           have hRw : Lw.Own encLp 68 0 w19 (slv (some ⟨g71, 0, none⟩, 5, 5)) ls := (ho71.fr q19 (fun k hk hb => by rw [List.mem_singleton] at hk; subst hk; have := (ho71.blk _ hb).1; omega)).low (Nat.zero_le _)
           have hRl : ∀ q ∈ ls, LpO τd (gT + 1) w19 q := fun q hq => LpO.tf ⟨(hls q hq).1.low (by omega), (hls q hq).2.low (by omega)⟩ q19 (own_off (E := encTq) (v := .slice (some ⟨gT, 0, none⟩) 6 6) hoTb (by decide)) (own_off (E := encTq) (v := .slice (some ⟨gT, 0, none⟩) 6 6) hoTb (by decide))
           have hRq : Sl encLp w19 (slv (some ⟨g71, 0, none⟩, 5, 5)) ls ∧ LpsAt w19 ls := ⟨hRw.sl, fun q hq => (hRl q hq).at⟩
           have hRq0 := hRq
           have hb3R := hb3
           refine comb_done ?_
           refine bk (h.sub (L' := [(3, _), (4, _), (5, _)]) (.cons rfl (.cons rfl (.cons rfl .nil)))) ?_; clear h a
           refine tn (sr ?_)
           refine cl (ev1 rfl) co25 (one_ok _ _) rfl ?_
           rintro _ w20 ⟨rfl, q20⟩
           have z20 := q20.size
           refine s_bslice ([(⟨1, 4⟩ : LId)]) (ev1 rfl) rfl rfl rfl el31 (Nat.le_of_ble_eq_true rfl) rfl (fun g74 w21 hg74 ho74 q21 z21 => ?_)
           refine fad rfl fa33_3 rfl ?_
           replace hb3 := hb3.ext (q20.next q21)
           refine s_storeB rfl rfl hb3 rfl rfl rfl sz31 (fun w22 hb3 q22 z22 => ?_)
           replace hb3 : Blk w22 g3 _ [_, _, _, _] := hb3
           replace hoT := (hoT.ext (q20.next q21)).fr q22 (by intro k hk hb; simp [blks] at hk hb; omega)
           replace ho74 := ho74.fr q22 (by first | (simp; done) | (simp; omega) | (simp [blks]; done) | (simp [blks]; omega) | (intro k hk hb; simp at hk; subst hk; have := ho74.blk _ hb; omega))
           have hf2C := hk2 [gT, g3] _ ((((((((Fr.refl [gT, g3] _).next q15).step q16 (by first | (simp; done) | (simp; omega))).next q18).step q19 (by first | (simp; done) | (simp; omega))).next q20).next q21).step q22 (by first | (simp; done) | (simp; omega))) (by intro k hk; simp only [List.mem_cons, List.not_mem_nil, or_false] at hk; rcases hk with rfl | rfl <;> omega)
           have hf2C0 := hf2C
           have hFR := ((((Fr.refl [g3] _).next q20).next q21).step q22 (by first | (simp; done) | (simp; omega)))
           have hoR := fun (T : Nat) (hT_ : 33 ≠ T) => OffT.one hb3R hT_
           have hQB : FbAt w22 (⟨(some ⟨gT, 0, none⟩, 6, 6), sv0, sv0, (some ⟨g74, 0, none⟩, 1, 1), (List.replicate 6 tq0).set 0 ((some ⟨g71, 0, none⟩, 5, 5), ls), [], [], [⟨1, 4⟩]⟩ : FbQ) := ⟨hoT.sl, tab1 (own_tf hRw hFR (hoR _ (by decide))).sl (fun q hq => (LpO.tf (hRl q hq) hFR (hoR _ (by decide)) (hoR _ (by decide))).at), Sl.nil _, Sl.nil _, ho74.sl⟩
           have hQB0 := hQB
           have heB : f2.p = ((⟨(some ⟨gT, 0, none⟩, 6, 6), sv0, sv0, (some ⟨g74, 0, none⟩, 1, 1), (List.replicate 6 tq0).set 0 ((some ⟨g71, 0, none⟩, 5, 5), ls), [], [], [⟨1, 4⟩]⟩ : FbQ)).p := by rw [hp2, tubB]; show _ = Fb.mk [ls.map LpQ.p, [], [], [], [], []] [] [] [⟨1, 4⟩]; rw [hlp]; rfl
           refine nn (sq (sq ?_))
           refine rboF (r := 83) (L' := []) (((0 ≠ 0) ∨ (0 ≠ 0))) .nil ?_ ?_
           · refine mv rfl rfl (ne' rfl rfl rfl (mv rfl rfl ?_))
             refine gs 78 rfl (fun hh => absurd hh (by decide)) (fun g1 => ?_)
             refine gY rfl ?_
             replace hb4 := (((hb4.ext q18).fr q19 (by first | (simp; done) | (simp; omega) | (simp [blks]; done) | (simp [blks]; omega))).ext (q20.next q21)).fr q22 (by first | (simp; done) | (simp; omega) | (simp [blks]; done) | (simp [blks]; omega))
             refine s_loadBA rfl hb4 ag33 rfl (gY rfl (s_loadBA rfl hb3 ag33 rfl (gY rfl ?_)))
             refine cl (ev2 rfl rfl) co11 (by have hfA := fabrics_ok _ _ _ hf2C hQB heB; exact hfA) rfl ?_
             rintro _ w23 ⟨rfl, q23⟩
             have z23 := q23.size
             exact gY rfl (ne' rfl rfl rfl (pkf rfl rfl rfl rfl (rbeF rfl (by first | exact bt (by omega) | exact bf (by omega) | exact bi (by omega) | exact bn (by omega) | (simp_all; done) | (simp_all; omega)) .nil q23)))
           · intro w24 q24; have z24 := q24.size
             refine tn ?_
             refine cd rfl (fun c1 => ?_) (fun c1 => ?_)
             · refine sr (asg rfl rfl (nn (rt (tr (r1 Tryd.results12 rfl ?_)))))
               exact absurd c1 (by decide)
             · refine sk (tn (sr (s_bslice ([(1 : UInt8), 1, 2]) (ev3 rfl rfl rfl) rfl rfl rfl el22 (Nat.le_of_ble_eq_true rfl) rfl (fun g84 w25 hg84 ho84 q25 z25 => ?_))))
               refine s_lit (cs := [_, _]) (ev2 rfl rfl) bo26 (pok_cons rfl rfl rfl (pok_cons rfl rfl rfl pok_nil)) rfl rfl ?_
               refine al zv26 rfl rfl (fun g6 w26 hg6 hb6 q26 z26 => ?_)
               refine s_storeBA (vs := [_, _]) rfl rfl hb6 (by rfl) (by first | (simp [Value.oneCell', S]; done) | exact Enc.one _ _) sz26 (fun w27 hb6 q27 z27 => ?_)
               refine nn (sr (s_loadBA rfl hb6 ag26 rfl ?_))
               replace ho84 := (ho84.ext q26).fr q27 (by first | (simp; done) | (simp; omega) | (simp [blks]; done) | (simp [blks]; omega) | (intro k hk hb; simp at hk; subst hk; have := ho84.blk _ hb; omega))
               refine cl (ev1 rfl) co10 (loops_ok 3 _ [1, 1, 2] _ ho84.sl (by decide)) rfl ?_
               rintro _ w28 ⟨AL, rfl, hsL, q28⟩
               have z28 := q28.size
               rw [cntC] at hsL
               obtain ⟨LC, hLC⟩ : ∃ l : List Int, l = [12, 9, 0, 0, 0, 0] := ⟨_, rfl⟩
               rw [← hLC] at hsL
               have hLl : LC.length = 6 := by rw [hLC]; rfl
               have hL0 : LC.getD 0 0 = 12 := by rw [hLC]; rfl
               have hL1 : LC.getD 1 0 = 9 := by rw [hLC]; rfl
               have hsL0 := hsL
               refine mv rfl rfl (xt rfl rfl rfl (xt rfl rfl rfl (asg rfl rfl (asg rfl rfl (nn (sr ?_))))))
               replace hG := hG0.ext ((((((((((((((((((((((q1.next q2).next q3).step q4 (by first | (simp; done) | (simp; omega))).next q6).step q7 (by first | (simp; done) | (simp; omega))).next q9).step q10 (by first | (simp; done) | (simp; omega))).next q12).next q13).next q14).next q15).step q16 (by first | (simp; done) | (simp; omega))).next q18).step q19 (by first | (simp; done) | (simp; omega))).next q20).next q21).step q22 (by first | (simp; done) | (simp; omega))).next q24).next q25).next q26).step q27 (by first | (simp; done) | (simp; omega))).next q28)
               refine cl (ev1 rfl) co15 (parse_ok _ _ hG (by simp)) rfl ?_
               rintro _ w29 ⟨wdP, AP, rsP, eP, rfl, hsP, hP, q29⟩
               have z29 := q29.size
               obtain rfl : eP = 4 := by
                 rcases hP with ⟨_, h⟩ | ⟨h, _⟩
                 · rw [parC] at h; cases h
                 · exact h
               refine mv rfl rfl (xt rfl rfl rfl (xt rfl rfl rfl (al zv26 rfl rfl (fun g9 w30 hg9 hb9 q30 z30 => ?_))))
               refine s_storeBA (vs := [_, _]) rfl rfl hb9 (by rfl) (by first | (simp [Value.oneCell', S]; done) | exact Enc.one _ _) sz26 (fun w31 hb9 q31 z31 => ?_)
               refine asg rfl rfl (nn (sq ?_))
               refine rboF (r := 0) (L' := []) (((((((0 = 0) ∧ ((6 : Int) = 6)) ∧ ((LC.getD 0 0 : Int) = 12)) ∧ ((LC.getD 1 0 : Int) = 9)) ∧ ((if tubE 3 [1, 1, 2] = 0 then textT 3 [1, 1, 2] else []) = [116, 117, 98, 101, 32, 51, 32, 49, 120, 50, 32, 50])) ∧ (4 = 4))) .nil ?_ ?_
               · refine mv rfl rfl (eq' rfl rfl rfl (mv rfl rfl ?_))
                 refine gs 97 rfl (fun g2 => ?_) (fun hh => absurd (by decide) hh)
                 refine gY rfl (mv rfl rfl (gY rfl (lnS rfl Tryd.underlying38 rfl (gY rfl (eq' rfl rfl rfl (pkt rfl rfl rfl rfl (mv rfl rfl ?_)))))))
                 refine gs 102 rfl (fun g3 => ?_) (fun hh => absurd (by rfl) hh)
                 refine gY rfl (mv rfl rfl (gY rfl ?_))
                 replace hsL := hsL0.ext ((q29.next q30).step q31 (by first | (simp; done) | (simp; omega)))
                 refine s_idxL (p := 0) ((0 : Int)) rfl hsL rfl el38 (by omega) (by omega) rfl rfl (fun ad104 hc104 => ?_)
                 refine gY rfl (s_loadC0 rfl (hc104 _ hsL) na3 rfl (gY rfl (eq' rfl rfl rfl (pkt rfl rfl rfl rfl (mv rfl rfl ?_)))))
                 refine gs 108 rfl (fun g4 => ?_) (fun hh => absurd (by exact hL0) hh)
                 refine gY rfl (mv rfl rfl (gY rfl (s_idxL (p := 1) ((0 : Int)) rfl hsL rfl el38 (by omega) (by omega) rfl rfl (fun ad110 hc110 => ?_))))
                 refine gY rfl (s_loadC0 rfl (hc110 _ hsL) na3 rfl (gY rfl (eq' rfl rfl rfl (pkt rfl rfl rfl rfl (mv rfl rfl ?_)))))
                 refine gs 114 rfl (fun g5 => ?_) (fun hh => absurd (by exact hL1) hh)
                 refine gY rfl ?_
                 replace hb6 := (hb6.ext ((q28.next q29).next q30)).fr q31 (by first | (simp; done) | (simp; omega) | (simp [blks]; done) | (simp [blks]; omega))
                 refine s_loadBA rfl hb6 ag26 rfl (gY rfl ?_)
                 replace ho84 := (ho84.ext ((q28.next q29).next q30)).fr q31 (by first | (simp; done) | (simp; omega) | (simp [blks]; done) | (simp [blks]; omega) | (intro k hk hb; simp at hk; subst hk; have := ho84.blk _ hb; omega))
                 refine cl (ev1 rfl) co13 (text_ok _ _ [1, 1, 2] _ ho84.sl) rfl ?_
                 rintro _ w32 ⟨rfl, q32⟩
                 have z32 := q32.size
                 refine gY rfl (s_eqs rfl rfl rfl (pkt rfl rfl rfl rfl (mv rfl rfl ?_)))
                 refine gs 119 rfl (fun g6 => ?_) (fun hh => absurd (by exact txtC) hh)
                 exact gY rfl (mv rfl rfl (gY rfl (eq' rfl rfl rfl (pkt rfl rfl rfl rfl (asg rfl rfl (rbeF rfl (by first | exact bt (by omega) | exact bf (by omega) | exact bi (by omega) | exact bn (by omega) | (simp_all; done) | (simp_all; omega)) .nil q32))))))
               · intro w33 q33; have z33 := q33.size
                 refine tn (rt (r1 Tryd.results12 rfl ?_))
                 exact ⟨_, rfl, congrArg Value.bool (decide_eq_true ⟨⟨⟨⟨⟨rfl, rfl⟩, hL0⟩, hL1⟩, txtC⟩, rfl⟩), ((((((((((((((((((((((((((q1.next q2).next q3).step q4 (by first | (simp; done) | (simp; omega))).next q6).step q7 (by first | (simp; done) | (simp; omega))).next q9).step q10 (by first | (simp; done) | (simp; omega))).next q12).next q13).next q14).next q15).step q16 (by first | (simp; done) | (simp; omega))).next q18).step q19 (by first | (simp; done) | (simp; omega))).next q20).next q21).step q22 (by first | (simp; done) | (simp; omega))).next q24).next q25).next q26).step q27 (by first | (simp; done) | (simp; omega))).next q28).next q29).next q30).step q31 (by first | (simp; done) | (simp; omega))).next q33)⟩
end Go.Proofs.YtgdlgjkjpbbniaaDoor
namespace Go.Proofs.YtgdlgjkjpbbniaaDoor
open Go.Lw Go.G21

end Go.Proofs.YtgdlgjkjpbbniaaDoor
namespace Go.Proofs.YtgdlgjkjpbbniaaDoor
open Go.Lw Go.G21
theorem co12 : CallOf Tryd.prog 12 := CallOf.mk' Tryd.func12 (by kernel_rfl) (by kernel_rfl)
theorem co14 : CallOf Tryd.prog 14 := CallOf.mk' Tryd.func14 (by kernel_rfl) (by kernel_rfl)
end Go.Proofs.YtgdlgjkjpbbniaaDoor
namespace Go.Proofs.YtgdlgjkjpbbniaaDoor
open Go.Lw Go.G21
theorem co16 : CallOf Tryd.prog 16 := CallOf.mk' Tryd.func16 (by kernel_rfl) (by kernel_rfl)
theorem run_flat : ∀ (l : List (UInt8 × Nat)), (∀ p ∈ l, p.2 < 100) → (l.flatMap fun p => Go.G21.runT p.1.toNat p.2).length ≤ 8 * l.length
  | [], _ => by simp
  | p :: l, h => by
    have h1 := run_flat l (fun q hq => h q (List.mem_cons_of_mem _ hq))
    have h2 := run_len (y := p.1.toNat) (n := p.2) (by have := p.1.toNat_lt; omega) (h p List.mem_cons_self)
    rw [List.flatMap_cons, List.length_append, List.length_cons]; omega
theorem rep_flat : ∀ (l : List (UInt8 × Nat)), (∀ p ∈ l, 1 ≤ p.2) → l.length ≤ (l.flatMap fun p => List.replicate p.2 p.1).length ∧ ∀ p ∈ l, p.2 ≤ (l.flatMap fun p => List.replicate p.2 p.1).length
  | [], _ => ⟨by simp, fun p hp => by cases hp⟩
  | p :: l, h => by
    obtain ⟨h1, h2⟩ := rep_flat l (fun q hq => h q (List.mem_cons_of_mem _ hq))
    have h3 := h p List.mem_cons_self
    rw [List.flatMap_cons, List.length_append, List.length_cons, List.length_replicate]
    refine ⟨by omega, fun q hq => ?_⟩
    rcases List.mem_cons.1 hq with rfl | hq
    · omega
    · have := h2 q hq; omega
theorem textT_len {wd : Int} {rs : List UInt8} (h : tubE wd rs = 0) : (textT wd rs).length ≤ 1000000 := by
  obtain ⟨h1, h2, h3, h4, _⟩ := tub_of h
  have hr := runs_mem rs
  have h5 := rep_flat (runs rs) (fun p hp => (hr.2 p hp).2)
  rw [hr.1] at h5
  have h6 := run_flat (runs rs) (fun p hp => by have := h5.2 p hp; omega)
  have h7 : (dec0 wd.toNat).length ≤ 2 := by unfold dec0; split <;> simp
  unfold textT textR
  simp only [List.length_append, List.length_cons, List.length_nil]
  omega
set_option maxHeartbeats 1000000 in
theorem law_text (wd : Int) (v : Value) (rs : List UInt8) (s : List UInt8) (w0 : World) (hG : Glob w0) (hs : Sl Enc.b w0 v rs) (hsl : s.length ≤ 9223372036854775807) : Rets Tryd.prog 4 #[.agg #[.int .i64 wd, v], S s] w0 fun r w' => r = .bool true ∧ Fr [] w0 w' := by
 obtain ⟨A, c, rfl, hcc, hM, hA⟩ := id hs
 clear hA
 unfold maxLen at hM
 have hGs := hG.sz
 refine we [(0, .agg #[.int .i64 wd, .slice A rs.length c]), (1, S s)] Tryd.func4 rfl Tryd.ntmps4 rfl (.cons rfl (.cons rfl .nil)) ?_
 have hs0 := hs
 have hG0 := hG
 refine sr (bx rfl rfl rfl (fun g2 w1 hg2 hb2 q1 z1 => ?_))
 refine asg rfl rfl (nn (sq (sq ?_)))
 refine rbo (r := 18) (L' := [(1, _), (2, _)]) (((40 < (rs.length : Int)) ∨ (100 < (s.length : Int)))) (.cons rfl (.cons rfl .nil)) ?_ ?_
 · refine fad rfl fa26_1 rfl (s_loadB rfl hb2 rfl na22 rfl (lnS rfl Tryd.underlying22 rfl (gt' rfl rfl rfl (mv rfl rfl ?_))))
   refine gs 14 rfl (fun g0 => ?_) (fun g0 => ?_)
   · exact gN rfl rfl rfl (gN rfl rfl rfl (gN rfl rfl rfl (pkt rfl rfl rfl rfl (rbe rfl (by first | exact bt (by omega) | exact bf (by omega) | exact bi (by omega) | exact bn (by omega) | (simp_all; done) | (simp_all; omega)) (.cons rfl (.cons rfl .nil))))))
   · exact gY rfl (mv rfl rfl (gY rfl (ln rfl Tryd.underlying9 rfl (gY rfl (gt' rfl rfl rfl (pkf rfl rfl rfl rfl (rbe rfl (by first | exact bt (by omega) | exact bf (by omega) | exact bi (by omega) | exact bn (by omega) | (simp_all; done) | (simp_all; omega)) (.cons rfl (.cons rfl .nil)))))))))
 · refine tn ?_
   refine cd rfl (fun c0 => ?_) (fun c0 => ?_)
   · refine sr (asg rfl rfl (nn (rt (tr (r1 Tryd.results4 rfl ?_)))))
     exact ⟨_, rfl, by first | rfl | exact congrArg Value.bool (decide_eq_true ⟨⟨⟨hE4, hW0⟩, by rw [hR0]; rfl⟩, trivial⟩) | exact congrArg Value.bool (decide_eq_true ⟨⟨hPt.1, hPt.2⟩, trivial⟩), q1⟩
   · refine sk (tn (sr (s_loadBA rfl hb2 ag26 rfl ?_)))
     replace hs := hs0.ext q1
     refine cl (ev1 rfl) co13 (text_ok _ _ _ _ hs) rfl ?_
     rintro _ w2 ⟨rfl, q2⟩
     have z2 := q2.size
     refine asg rfl rfl (nn (sq (sr ?_)))
     replace hb2 := hb2.ext q2
     refine s_loadBA rfl hb2 ag26 rfl ?_
     replace hs := hs0.ext (q1.next q2)
     refine cl (ev1 rfl) co14 (rerr_ok _ _ _ _ hs) rfl ?_
     rintro _ w3 ⟨rfl, q3⟩
     have z3 := q3.size
     refine ne' rfl rfl rfl (nn ?_)
     refine cd rfl (fun c1 => ?_) (fun c1 => ?_)
     · have hx : (if tubE wd rs = 0 then textT wd rs else []) = [] := if_neg c1
       refine sr (mv rfl rfl (s_nes rfl rfl rfl (nn ?_)))
       refine cd rfl (fun c2 => ?_) (fun c2 => ?_)
       · refine sr (asg rfl rfl (nn (rt (tr (r1 Tryd.results4 rfl ?_)))))
         exact absurd hx c2
       · refine sk (tn (sr (mv rfl rfl ?_)))
         replace hG := hG0.ext ((q1.next q2).next q3)
         refine cl (ev1 rfl) co15 (parse_ok _ _ hG (by omega)) rfl ?_
         rintro _ w4 ⟨wdP, AP, rsP, eP, rfl, hsP, hP2, q4⟩
         have z4 := q4.size
         have hsP0 := hsP
         refine mv rfl rfl (xt rfl rfl rfl (xt rfl rfl rfl (al zv26 rfl rfl (fun g8 w5 hg8 hb8 q5 z5 => ?_))))
         refine s_storeBA (vs := [_, _]) rfl rfl hb8 (by rfl) (by first | (simp [Value.oneCell', S]; done) | exact Enc.one _ _) sz26 (fun w6 hb8 q6 z6 => ?_)
         refine asg rfl rfl (kpL [(1, _), (8, _), (9, _)] (.cons rfl (.cons rfl (.cons rfl .nil))) (nn (sq (sr (mv rfl rfl (ne' rfl rfl rfl (nn ?_)))))))
         refine cd rfl (fun c4 => ?_) (fun c4 => ?_)
         · obtain ⟨hE4, hW0, hR0⟩ : eP = 4 ∧ wdP = 0 ∧ rsP = [] := by
             rcases hP2 with ⟨h1, _⟩ | ⟨h1, h2, h3, _⟩
             · exact absurd h1 c4
             · exact ⟨h1, h2, h3⟩
           refine sr (mv rfl rfl (eq' rfl rfl rfl (mv rfl rfl ?_)))
           refine gs 73 rfl (fun g1 => ?_) (fun hh => absurd (by exact hE4) hh)
           refine gY rfl (fad rfl fa26_0 rfl (gY rfl (s_loadB rfl hb8 rfl na3 rfl (gY rfl (eq' rfl rfl rfl (pkt rfl rfl rfl rfl (mv rfl rfl ?_)))))))
           refine gs 78 rfl (fun g2 => ?_) (fun hh => absurd (by exact hW0) hh)
           refine gY rfl (fad rfl fa26_1 rfl (gY rfl (s_loadB rfl hb8 rfl na22 rfl (gY rfl (lnS rfl Tryd.underlying22 rfl (gY rfl (eq' rfl rfl rfl (pkt rfl rfl rfl rfl (mv rfl rfl ?_)))))))))
           refine gs 84 rfl (fun g3 => ?_) (fun hh => absurd (by rw [hR0]; rfl) hh)
           refine gY rfl ?_
           replace hG := hG0.ext (((((q1.next q2).next q3).next q4).next q5).step q6 (by first | (simp; done) | (simp; omega)))
           refine cl evs_nil co12 (lives_ok _ hG) rfl ?_
           rintro _ w7 ⟨rfl, q7⟩
           have z7 := q7.size
           refine pkt rfl rfl rfl rfl (asg rfl rfl (kpL [(4, _)] (.cons rfl .nil) (nn (rt (tr (r1 Tryd.results4 rfl ?_))))))
           exact ⟨_, rfl, by first | rfl | exact congrArg Value.bool (decide_eq_true ⟨⟨⟨hE4, hW0⟩, by rw [hR0]; rfl⟩, trivial⟩) | exact congrArg Value.bool (decide_eq_true ⟨⟨hPt.1, hPt.2⟩, trivial⟩), ((((((q1.next q2).next q3).next q4).next q5).step q6 (by first | (simp; done) | (simp; omega))).next q7)⟩
         · have hPt : tubE wdP rsP = 0 ∧ textT wdP rsP = s := by
             rcases hP2 with ⟨_, h2⟩ | ⟨h1, _⟩
             · exact pars_some h2
             · exact absurd (by rw [h1]; decide) c4
           refine sk (tn (sr (s_loadBA rfl hb8 ag26 rfl ?_)))
           replace hsP := hsP0.ext (q5.step q6 (by first | (simp; done) | (simp; omega)))
           refine cl (ev1 rfl) co14 (rerr_ok _ _ rsP _ hsP) rfl ?_
           rintro _ w8 ⟨rfl, q8⟩
           have z8 := q8.size
           refine eq' rfl rfl rfl (mv rfl rfl ?_)
           refine gs 90 rfl (fun g4 => ?_) (fun hh => absurd (by exact hPt.1) hh)
           refine gY rfl ?_
           replace hb8 := hb8.ext q8
           refine s_loadBA rfl hb8 ag26 rfl (gY rfl ?_)
           replace hsP := hsP0.ext ((q5.step q6 (by first | (simp; done) | (simp; omega))).next q8)
           refine cl (ev1 rfl) co16 (reftext_ok _ _ rsP _ hsP hPt.1) rfl ?_
           rintro _ w9 ⟨rfl, q9⟩
           have z9 := q9.size
           refine gY rfl (mv rfl rfl (gY rfl (s_eqs rfl rfl rfl (pkt rfl rfl rfl rfl (mv rfl rfl ?_)))))
           refine gs 96 rfl (fun g5 => ?_) (fun hh => absurd (by exact hPt.2) hh)
           refine gY rfl ?_
           replace hG := hG0.ext (((((((q1.next q2).next q3).next q4).next q5).step q6 (by first | (simp; done) | (simp; omega))).next q8).next q9)
           refine cl evs_nil co12 (lives_ok _ hG) rfl ?_
           rintro _ w10 ⟨rfl, q10⟩
           have z10 := q10.size
           refine pkt rfl rfl rfl rfl (asg rfl rfl (kpL [(4, _)] (.cons rfl .nil) (nn (rt (r1 Tryd.results4 rfl ?_)))))
           exact ⟨_, rfl, by first | rfl | exact congrArg Value.bool (decide_eq_true ⟨⟨⟨hE4, hW0⟩, by rw [hR0]; rfl⟩, trivial⟩) | exact congrArg Value.bool (decide_eq_true ⟨⟨hPt.1, hPt.2⟩, trivial⟩), ((((((((q1.next q2).next q3).next q4).next q5).step q6 (by first | (simp; done) | (simp; omega))).next q8).next q9).next q10)⟩
     · have h0 : tubE wd rs = 0 := Classical.not_not.1 c1
       have hb0 : (if tubE wd rs = 0 then textT wd rs else []).length ≤ 1000000 := by rw [if_pos h0]; exact textT_len h0
       refine sr (mv rfl rfl ?_)
       replace hG := hG0.ext ((q1.next q2).next q3)
       refine cl (ev1 rfl) co15 (parse_ok _ _ hG hb0) rfl ?_
       rintro _ w11 ⟨wdB, AB, rsB, eB, rfl, hsb, hP1, q11⟩
       have z11 := q11.size
       obtain ⟨rfl, rfl, rfl⟩ : 0 = eB ∧ wd = wdB ∧ rs = rsB := by
         rcases hP1 with ⟨h1, h2⟩ | ⟨_, _, _, h2⟩
         · rw [if_pos h0, pars_back h0] at h2; cases h2; exact ⟨h1.symm, rfl, rfl⟩
         · rw [if_pos h0, pars_back h0] at h2; cases h2
       have hsb0 := hsb
       refine mv rfl rfl (xt rfl rfl rfl (xt rfl rfl rfl (al zv26 rfl rfl (fun g6 w12 hg6 hb6 q12 z12 => ?_))))
       refine s_storeBA (vs := [_, _]) rfl rfl hb6 (by rfl) (by first | (simp [Value.oneCell', S]; done) | exact Enc.one _ _) sz26 (fun w13 hb6 q13 z13 => ?_)
       refine asg rfl rfl (kpL [(1, _), (2, _), (5, _), (6, _), (7, _)] (.cons rfl (.cons rfl (.cons rfl (.cons rfl (.cons rfl .nil))))) (nn (sr (mv rfl rfl ?_))))
       replace hb2 := (hb2.ext ((q3.next q11).next q12)).fr q13 (by first | (simp; done) | (simp; omega) | (simp [blks]; done) | (simp [blks]; omega))
       refine s_loadBA rfl hb2 ag26 rfl ?_
       replace hs := hs0.ext (((((q1.next q2).next q3).next q11).next q12).step q13 (by first | (simp; done) | (simp; omega)))
       refine cl (ev1 rfl) co16 (reftext_ok _ _ _ _ hs h0) rfl ?_
       rintro _ w14 ⟨rfl, q14⟩
       have z14 := q14.size
       refine s_nes rfl rfl rfl (mv rfl rfl ?_)
       refine gs 35 rfl (fun hh => absurd hh (by exact fun e => e (if_pos h0))) (fun g6 => ?_)
       refine gY rfl (mv rfl rfl (gY rfl (ne' rfl rfl rfl (pkf rfl rfl rfl rfl (mv rfl rfl ?_)))))
       refine gs 39 rfl (fun hh => absurd hh (by exact fun e => e rfl)) (fun g7 => ?_)
       refine gY rfl (fad rfl fa26_0 rfl (gY rfl ?_))
       replace hb6 := hb6.ext q14
       refine s_loadB rfl hb6 rfl na3 rfl (gY rfl (fad rfl fa26_0 rfl (gY rfl ?_)))
       replace hb2 := hb2.ext q14
       refine s_loadB rfl hb2 rfl na3 rfl (gY rfl (ne' rfl rfl rfl (pkf rfl rfl rfl rfl (mv rfl rfl ?_))))
       refine gs 46 rfl (fun hh => absurd hh (by exact fun e => e rfl)) (fun g8 => ?_)
       refine gY rfl (fad rfl fa26_1 rfl (gY rfl (s_loadB rfl hb6 rfl na22 rfl (gY rfl ?_))))
       replace hsb := hsb0.ext ((q12.step q13 (by first | (simp; done) | (simp; omega))).next q14)
       refine s_b2s rfl hsb el22 Tryd.underlying5 Tryd.underlying9 rfl (gY rfl (fad rfl fa26_1 rfl (gY rfl (s_loadB rfl hb2 rfl na22 rfl (gY rfl ?_)))))
       replace hs := hs0.ext ((((((q1.next q2).next q3).next q11).next q12).step q13 (by first | (simp; done) | (simp; omega))).next q14)
       refine s_b2s rfl hs el22 Tryd.underlying5 Tryd.underlying9 rfl (gY rfl (s_nes rfl rfl rfl (pkf rfl rfl rfl rfl (mv rfl rfl ?_))))
       refine gs 55 rfl (fun hh => absurd hh (by exact fun e => e rfl)) (fun g9 => ?_)
       refine gY rfl (fad rfl fa26_1 rfl (gY rfl (s_loadB rfl hb6 rfl na22 rfl (gY rfl (s_capS rfl Tryd.underlying22 rfl (gY rfl (fad rfl fa26_1 rfl (gY rfl (s_loadB rfl hb6 rfl na22 rfl (gY rfl (lnS rfl Tryd.underlying22 rfl ?_)))))))))))
       refine gY rfl (ne' rfl rfl rfl (pkf rfl rfl rfl rfl (kpL [(1, _), (63, _)] (.cons rfl (.cons rfl .nil)) (nn ?_))))
       refine cd rfl (fun c3 => ?_) (fun c3 => ?_)
       · refine sr (asg rfl rfl (nn (rt (tr (r1 Tryd.results4 rfl ?_)))))
         exact absurd rfl c3
       · refine sk (tn (sr (mv rfl rfl ?_)))
         replace hG := hG0.ext ((((((q1.next q2).next q3).next q11).next q12).step q13 (by first | (simp; done) | (simp; omega))).next q14)
         refine cl (ev1 rfl) co15 (parse_ok _ _ hG (by omega)) rfl ?_
         rintro _ w15 ⟨wdP, AP, rsP, eP, rfl, hsP, hP2, q15⟩
         have z15 := q15.size
         have hsP0 := hsP
         refine mv rfl rfl (xt rfl rfl rfl (xt rfl rfl rfl (al zv26 rfl rfl (fun g8 w16 hg8 hb8 q16 z16 => ?_))))
         refine s_storeBA (vs := [_, _]) rfl rfl hb8 (by rfl) (by first | (simp [Value.oneCell', S]; done) | exact Enc.one _ _) sz26 (fun w17 hb8 q17 z17 => ?_)
         refine asg rfl rfl (kpL [(1, _), (8, _), (9, _)] (.cons rfl (.cons rfl (.cons rfl .nil))) (nn (sq (sr (mv rfl rfl (ne' rfl rfl rfl (nn ?_)))))))
         refine cd rfl (fun c4 => ?_) (fun c4 => ?_)
         · obtain ⟨hE4, hW0, hR0⟩ : eP = 4 ∧ wdP = 0 ∧ rsP = [] := by
             rcases hP2 with ⟨h1, _⟩ | ⟨h1, h2, h3, _⟩
             · exact absurd h1 c4
             · exact ⟨h1, h2, h3⟩
           refine sr (mv rfl rfl (eq' rfl rfl rfl (mv rfl rfl ?_)))
           refine gs 73 rfl (fun g10 => ?_) (fun hh => absurd (by exact hE4) hh)
           refine gY rfl (fad rfl fa26_0 rfl (gY rfl (s_loadB rfl hb8 rfl na3 rfl (gY rfl (eq' rfl rfl rfl (pkt rfl rfl rfl rfl (mv rfl rfl ?_)))))))
           refine gs 78 rfl (fun g11 => ?_) (fun hh => absurd (by exact hW0) hh)
           refine gY rfl (fad rfl fa26_1 rfl (gY rfl (s_loadB rfl hb8 rfl na22 rfl (gY rfl (lnS rfl Tryd.underlying22 rfl (gY rfl (eq' rfl rfl rfl (pkt rfl rfl rfl rfl (mv rfl rfl ?_)))))))))
           refine gs 84 rfl (fun g12 => ?_) (fun hh => absurd (by rw [hR0]; rfl) hh)
           refine gY rfl ?_
           replace hG := hG0.ext (((((((((q1.next q2).next q3).next q11).next q12).step q13 (by first | (simp; done) | (simp; omega))).next q14).next q15).next q16).step q17 (by first | (simp; done) | (simp; omega)))
           refine cl evs_nil co12 (lives_ok _ hG) rfl ?_
           rintro _ w18 ⟨rfl, q18⟩
           have z18 := q18.size
           refine pkt rfl rfl rfl rfl (asg rfl rfl (kpL [(4, _)] (.cons rfl .nil) (nn (rt (tr (r1 Tryd.results4 rfl ?_))))))
           exact ⟨_, rfl, by first | rfl | exact congrArg Value.bool (decide_eq_true ⟨⟨⟨hE4, hW0⟩, by rw [hR0]; rfl⟩, trivial⟩) | exact congrArg Value.bool (decide_eq_true ⟨⟨hPt.1, hPt.2⟩, trivial⟩), ((((((((((q1.next q2).next q3).next q11).next q12).step q13 (by first | (simp; done) | (simp; omega))).next q14).next q15).next q16).step q17 (by first | (simp; done) | (simp; omega))).next q18)⟩
         · have hPt : tubE wdP rsP = 0 ∧ textT wdP rsP = s := by
             rcases hP2 with ⟨_, h2⟩ | ⟨h1, _⟩
             · exact pars_some h2
             · exact absurd (by rw [h1]; decide) c4
           refine sk (tn (sr (s_loadBA rfl hb8 ag26 rfl ?_)))
           replace hsP := hsP0.ext (q16.step q17 (by first | (simp; done) | (simp; omega)))
           refine cl (ev1 rfl) co14 (rerr_ok _ _ rsP _ hsP) rfl ?_
           rintro _ w19 ⟨rfl, q19⟩
           have z19 := q19.size
           refine eq' rfl rfl rfl (mv rfl rfl ?_)
           refine gs 90 rfl (fun g13 => ?_) (fun hh => absurd (by exact hPt.1) hh)
           refine gY rfl ?_
           replace hb8 := hb8.ext q19
           refine s_loadBA rfl hb8 ag26 rfl (gY rfl ?_)
           replace hsP := hsP0.ext ((q16.step q17 (by first | (simp; done) | (simp; omega))).next q19)
           refine cl (ev1 rfl) co16 (reftext_ok _ _ rsP _ hsP hPt.1) rfl ?_
           rintro _ w20 ⟨rfl, q20⟩
           have z20 := q20.size
           refine gY rfl (mv rfl rfl (gY rfl (s_eqs rfl rfl rfl (pkt rfl rfl rfl rfl (mv rfl rfl ?_)))))
           refine gs 96 rfl (fun g14 => ?_) (fun hh => absurd (by exact hPt.2) hh)
           refine gY rfl ?_
           replace hG := hG0.ext (((((((((((q1.next q2).next q3).next q11).next q12).step q13 (by first | (simp; done) | (simp; omega))).next q14).next q15).next q16).step q17 (by first | (simp; done) | (simp; omega))).next q19).next q20)
           refine cl evs_nil co12 (lives_ok _ hG) rfl ?_
           rintro _ w21 ⟨rfl, q21⟩
           have z21 := q21.size
           refine pkt rfl rfl rfl rfl (asg rfl rfl (kpL [(4, _)] (.cons rfl .nil) (nn (rt (r1 Tryd.results4 rfl ?_)))))
           exact ⟨_, rfl, by first | rfl | exact congrArg Value.bool (decide_eq_true ⟨⟨⟨hE4, hW0⟩, by rw [hR0]; rfl⟩, trivial⟩) | exact congrArg Value.bool (decide_eq_true ⟨⟨hPt.1, hPt.2⟩, trivial⟩), ((((((((((((q1.next q2).next q3).next q11).next q12).step q13 (by first | (simp; done) | (simp; omega))).next q14).next q15).next q16).step q17 (by first | (simp; done) | (simp; omega))).next q19).next q20).next q21)⟩
end Go.Proofs.YtgdlgjkjpbbniaaDoor
