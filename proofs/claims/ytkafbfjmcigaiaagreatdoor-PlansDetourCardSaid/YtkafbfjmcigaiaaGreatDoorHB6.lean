/- Texts of the proof, joined. -/
import Derived.Shelf.Strings.Builder1
import Derived.Shelf.Strings.Builder2
import Derived.Shelf.Strings.OnBuilder
import Derived.Shelf.Small.Bits
import Derived.Shelf.Strconv.Atoi
import Derived.Shelf.Strconv.Itoa0
import Derived.Shelf.Strconv.Itoa1
import Derived.Shelf.LaysM
import Derived.Shelf.Strconv.Itoa2
import Derived.Shelf.Strconv.Itoa3
import Derived.Shelf.Strconv.AtoiErrFast
import Derived.Shelf.Strconv.ParseIntEmpty
import Derived.Shelf.Strconv.AtoiFail
import Derived.Shelf.Strconv.Clone
import Derived.Shelf.Strconv.SyntaxError
import Derived.Shelf.LaysC
import Derived.Shelf.Strconv.ToError
import Derived.Shelf.Strconv.AtoiErr
import Derived.Shelf.Strconv.ErrVar
import Derived.Shelf.Strconv.Lower
import Derived.Shelf.Strconv.ParseUint10
import Derived.Shelf.Strconv.ParseUint10Empty
import Derived.Shelf.Strconv.ParseUint10Any
import Derived.Shelf.Strconv.ParseInt10
import Derived.Shelf.Strconv.AtoiLong
import Derived.Shelf.Strconv.AtoiInnerAll
import Derived.Shelf.Strconv.RangeError
import Derived.Shelf.Strconv.ToErrorRange
import Derived.Shelf.Strconv.AtoiAll
import Derived.Shelf.Strconv.ErrVarAll
import Derived.Shelf.Strings.Search1
import Derived.Shelf.Strings.Search2
import Derived.Shelf.Strings.Search3
import Derived.Shelf.Strings.Count
import Derived.Shelf.Strings.Shaped
import Derived.Shelf.Strings.Split
import Derived.Shelf.Strings.SplitShaped
import Derived.Shelf.Unicode.DecodeSlow
import Derived.Ground.SlgnProg
import Derived.Shelf.SlicesE.Equal
import Derived.LaidSub
import Derived.Test.YtkafbfjmcigaiaaGreatDoorCards
import Derived.Test.YtkafbfjmcigaiaaGreatDoorTie
import Derived.ChangeMaps5
import Derived.Test.YtkafbfjmcigaiaaGreatDoorHB5
set_option linter.unusedVariables false
set_option linter.unusedSimpArgs false
set_option maxHeartbeats 4000000
namespace Go.Proofs.YtkafbfjmcigaiaaGreatDoor
open Go.Lw Go.G21 Go.G08 _root_.Go.Proofs.Tryz
abbrev stZ:StQ:=⟨0,⟨sv0,sv0,[],[]⟩,sv0,[],⟨sv0,sv0,sv0,sv0,[],[],[],[]⟩⟩
theorem j7c (base:Nat)(w:World):StO τd 122 base w stZ:=
 ⟨⟨⟨Own.nil w,λq D=>(by cases D)⟩,⟨Own.nil w,λq D=>(by cases D)⟩⟩,⟨Own.nil w,λi hi=>(by cases hi)⟩,⟨Own.nil w,λi hi=>(by cases hi),λi j hi=>(by cases hi),λi hi=>(by cases hi)⟩,Own.nil w,Own.nil w,Own.nil w,λk I=>(by cases I)⟩
end Go.Proofs.YtkafbfjmcigaiaaGreatDoor
namespace Go.Proofs
open Go.Shelf
def Tryz.lays156_ren:Go.Shelf.Ren:=⟨fun|156=>183|165=>208|166=>209|169=>210|240=>224|241=>225|276=>243|277=>244|n=>n,fun|31=>89|9=>9|3=>3|4=>4|0=>0|20=>20|72=>289|76=>283|70=>287|37=>22|75=>282|127=>302|164=>314|5=>5|80=>290|n=>n,fun|n=>n⟩
theorem Tryz.lays156:Go.Proofs.Lays.n156 Tryz.prog Tryz.lays156_ren:={
 mixed:=by kernel_rfl
 f156:=Tryz.func183.trans<|congrArg some kr
 f165:=Tryz.func208.trans<|congrArg some kr
 f166:=Tryz.func209.trans<|congrArg some kr
 f169:=Tryz.func210.trans<|congrArg some kr
 f240:=Tryz.func224.trans<|congrArg some kr
 f241:=Tryz.func225.trans<|congrArg some kr
 f276:=Tryz.func243.trans<|congrArg some kr
 f277:=Tryz.func244.trans<|congrArg some kr
 t0:=Tryz.underlying0
 a0:=Tryz.isAgg0
 z0:=Tryz.sizeOf0
 v0:=Tryz.zeroValue0
 t3:=Tryz.underlying3
 a3:=Tryz.isAgg3
 z3:=Tryz.sizeOf3
 v3:=Tryz.zeroValue3
 t4:=Tryz.underlying4
 a4:=Tryz.isAgg4
 z4:=Tryz.sizeOf4
 v4:=Tryz.zeroValue4
 t9:=Tryz.underlying9
 a9:=Tryz.isAgg9
 z9:=Tryz.sizeOf9
 v9:=Tryz.zeroValue9
 t20:=Tryz.underlying20
 a20:=Tryz.isAgg20
 z20:=Tryz.sizeOf20
 v20:=Tryz.zeroValue20
 t31:=Tryz.underlying89
 a31:=Tryz.isAgg89
 z31:=Tryz.sizeOf89
 v31:=Tryz.zeroValue89
 t37:=Tryz.underlying22
 a37:=Tryz.isAgg22
 z37:=Tryz.sizeOf22
 v37:=Tryz.zeroValue22
 t70:=Tryz.underlying287
 a70:=Tryz.isAgg287
 z70:=Tryz.sizeOf287
 v70:=Tryz.zeroValue287
 t72:=Tryz.underlying289
 a72:=Tryz.isAgg289
 z72:=Tryz.sizeOf289
 v72:=Tryz.zeroValue289
 t75:=Tryz.underlying282
 a75:=Tryz.isAgg282
 z75:=Tryz.sizeOf282
 v75:=Tryz.zeroValue282
 t76:=Tryz.underlying283
 a76:=Tryz.isAgg283
 z76:=Tryz.sizeOf283
 v76:=Tryz.zeroValue283
 t127:=Tryz.underlying302
 a127:=Tryz.isAgg302
 z127:=Tryz.sizeOf302
 v127:=Tryz.zeroValue302
 t164:=Tryz.underlying314
 a164:=Tryz.isAgg314
 z164:=Tryz.sizeOf314
 v164:=Tryz.zeroValue314 }
theorem Tryz.Builder_Extra_156:Builder.Extra Tryz.prog Tryz.lays156_ren:={
 sizeBuilder:=by kernel_rfl
 liesBuilder:=by kernel_rfl
 t5:=Tryz.underlying5
 a5:=Tryz.isAgg5
 z5:=Tryz.sizeOf5
 v5:=Tryz.zeroValue5
 infoByte:=by kernel_rfl
 cellsByte:=by kernel_rfl
 sizeByte:=by kernel_rfl
 neB5:=by decide }
open Go.RowKit in
theorem Tryz.strings_Join (bk o c:Nat)(xs:List ByteArray)(I:ByteArray)(w:World)(D:∀(j:Nat) x,xs[j]?=some x->w.cell? ⟨bk,o+j,none⟩=some (.string x))(a0:bk<w.heap.size)(hN:xs.length<=140737488355328)(O:xs.length<=c)(Z:(Lib.join (xs.map (·.data.toList)) I.data.toList).length<=140737488355328) :
 Calls Tryz.prog 183 #[.slice (some ⟨bk,o,none⟩) xs.length c,.string I] w λe w'=>e=.returned (.string ⟨(Lib.join (xs.map (·.data.toList)) I.data.toList).toArray⟩)/\Below w.heap.size w w':=Any.strings_Join Tryz.lays156 Tryz.Builder_Extra_156 bk o c xs I w D a0 hN O Z
def Tryz.laysM171_ren:Go.Shelf.Ren:=⟨fun|171=>181|243=>207|246=>223|283=>239|284=>240|285=>241|286=>242|129=>160|317=>250|318=>251|319=>252|320=>253|337=>256|338=>257|n=>n,fun|3=>3|9=>9|2=>2|4=>4|171=>310|0=>0|53=>247|37=>22|5=>5|173=>312|212=>329|51=>245|20=>20|213=>330|46=>193|232=>336|233=>337|n=>n,fun|17=>8|18=>9|19=>10|n=>n⟩
theorem Tryz.laysM171:Go.Proofs.LaysM.n171 Tryz.prog Tryz.laysM171_ren:={
 mixed:=by kernel_rfl
 f129:=Tryz.func160.trans<|congrArg some kr
 f171:=Tryz.func181.trans<|congrArg some kr
 f243:=Tryz.func207.trans<|congrArg some kr
 f246:=Tryz.func223.trans<|congrArg some kr
 f283:=Tryz.func239.trans<|congrArg some kr
 f284:=Tryz.func240.trans<|congrArg some kr
 f285:=Tryz.func241.trans<|congrArg some kr
 f286:=Tryz.func242.trans<|congrArg some kr
 f317:=Tryz.func250.trans<|congrArg some kr
 f318:=Tryz.func251.trans<|congrArg some kr
 f319:=Tryz.func252.trans<|congrArg some kr
 f320:=Tryz.func253.trans<|congrArg some kr
 f337:=Tryz.func256.trans<|congrArg some kr
 f338:=Tryz.func257.trans<|congrArg some kr
 t0:=Tryz.underlying0
 a0:=Tryz.isAgg0
 z0:=Tryz.sizeOf0
 v0:=Tryz.zeroValue0
 t2:=Tryz.underlying2
 a2:=Tryz.isAgg2
 z2:=Tryz.sizeOf2
 v2:=Tryz.zeroValue2
 t3:=Tryz.underlying3
 a3:=Tryz.isAgg3
 z3:=Tryz.sizeOf3
 v3:=Tryz.zeroValue3
 t4:=Tryz.underlying4
 a4:=Tryz.isAgg4
 z4:=Tryz.sizeOf4
 v4:=Tryz.zeroValue4
 t5:=Tryz.underlying5
 a5:=Tryz.isAgg5
 z5:=Tryz.sizeOf5
 v5:=Tryz.zeroValue5
 t9:=Tryz.underlying9
 a9:=Tryz.isAgg9
 z9:=Tryz.sizeOf9
 v9:=Tryz.zeroValue9
 t20:=Tryz.underlying20
 a20:=Tryz.isAgg20
 z20:=Tryz.sizeOf20
 v20:=Tryz.zeroValue20
 t37:=Tryz.underlying22
 a37:=Tryz.isAgg22
 z37:=Tryz.sizeOf22
 v37:=Tryz.zeroValue22
 t46:=Tryz.underlying193
 a46:=Tryz.isAgg193
 z46:=Tryz.sizeOf193
 v46:=Tryz.zeroValue193
 t51:=Tryz.underlying245
 a51:=Tryz.isAgg245
 z51:=Tryz.sizeOf245
 v51:=Tryz.zeroValue245
 t53:=Tryz.underlying247
 a53:=Tryz.isAgg247
 z53:=Tryz.sizeOf247
 v53:=Tryz.zeroValue247
 t171:=Tryz.underlying310
 a171:=Tryz.isAgg310
 z171:=Tryz.sizeOf310
 v171:=Tryz.zeroValue310
 t173:=Tryz.underlying312
 a173:=Tryz.isAgg312
 z173:=Tryz.sizeOf312
 v173:=Tryz.zeroValue312
 t212:=Tryz.underlying329
 a212:=Tryz.isAgg329
 z212:=Tryz.sizeOf329
 v212:=Tryz.zeroValue329
 t213:=Tryz.underlying330
 a213:=Tryz.isAgg330
 z213:=Tryz.sizeOf330
 t232:=Tryz.underlying336
 a232:=Tryz.isAgg336
 z232:=Tryz.sizeOf336
 v232:=Tryz.zeroValue336
 t233:=Tryz.underlying337
 a233:=Tryz.isAgg337
 z233:=Tryz.sizeOf337
 v233:=Tryz.zeroValue337
 g17:=by kernel_rfl
 g18:=by kernel_rfl
 g19:=by kernel_rfl
 i0:=by kernel_rfl
 i2:=by kernel_rfl
 i3:=by kernel_rfl
 i4:=by kernel_rfl
 i5:=by kernel_rfl
 i9:=by kernel_rfl
 i20:=by kernel_rfl
 i37:=by kernel_rfl
 i46:=by kernel_rfl
 i51:=by kernel_rfl
 i53:=by kernel_rfl
 i171:=by kernel_rfl
 i173:=by kernel_rfl
 i212:=by kernel_rfl
 i232:=by kernel_rfl
 i233:=by kernel_rfl
 m17:=by kernel_rfl
 m18:=by kernel_rfl
 m19:=by kernel_rfl }
open Go.RowKit Go.Sort Go.Lib in
theorem Tryz.strconv_Itoa (n:Int)(I:-9223372036854775808<=n)(h1:n<=9223372036854775807)(w:World)(D:Lib.TabIs Tryz.prog w "internal/strconv.uint64pow10" .u64 Lib.pow10Tab) :
 Calls Tryz.prog 181 #[.int .i64 n] w λe w'=>e=.returned (.string ⟨(Lib.itoa n).toArray⟩)/\∃k O,w'=grow (w.drewN k) O:=Any.strconv_Itoa Tryz.laysM171 n I h1 w D
def Tryz.laysC172_ren:Go.Shelf.Ren:=⟨fun|172=>203|244=>217|245=>218|247=>229|279=>230|280=>231|281=>232|282=>233|287=>245|316=>246|171=>181|205=>247|321=>254|322=>255|243=>207|246=>223|283=>239|284=>240|285=>241|286=>242|129=>160|317=>250|318=>251|319=>252|320=>253|337=>256|338=>257|n=>n,fun|9=>9|3=>3|75=>282|76=>283|4=>4|5=>5|167=>303|37=>22|0=>0|85=>304|2=>2|168=>306|53=>247|175=>316|46=>193|210=>320|127=>302|145=>335|143=>333|21=>21|171=>310|173=>312|212=>329|51=>245|20=>20|213=>330|232=>336|233=>337|80=>290|n=>n,fun|15=>4|16=>5|17=>8|18=>9|19=>10|n=>n⟩
theorem Tryz.laysC172:Go.Proofs.LaysC.n172 Tryz.prog Tryz.laysC172_ren:={
 mixed:=by kernel_rfl
 f129:=Tryz.func160.trans<|congrArg some kr
 f171:=Tryz.func181.trans<|congrArg some kr
 f172:=Tryz.func203.trans<|congrArg some kr
 f205:=Tryz.func247.trans<|congrArg some kr
 f243:=Tryz.func207.trans<|congrArg some kr
 f244:=Tryz.func217.trans<|congrArg some kr
 f245:=Tryz.func218.trans<|congrArg some kr
 f246:=Tryz.func223.trans<|congrArg some kr
 f247:=Tryz.func229.trans<|congrArg some kr
 f279:=Tryz.func230.trans<|congrArg some kr
 f280:=Tryz.func231.trans<|congrArg some kr
 f281:=Tryz.func232.trans<|congrArg some kr
 f282:=Tryz.func233.trans<|congrArg some kr
 f283:=Tryz.func239.trans<|congrArg some kr
 f284:=Tryz.func240.trans<|congrArg some kr
 f285:=Tryz.func241.trans<|congrArg some kr
 f286:=Tryz.func242.trans<|congrArg some kr
 f287:=Tryz.func245.trans<|congrArg some kr
 f316:=Tryz.func246.trans<|congrArg some kr
 f317:=Tryz.func250.trans<|congrArg some kr
 f318:=Tryz.func251.trans<|congrArg some kr
 f319:=Tryz.func252.trans<|congrArg some kr
 f320:=Tryz.func253.trans<|congrArg some kr
 f321:=Tryz.func254.trans<|congrArg some kr
 f322:=Tryz.func255.trans<|congrArg some kr
 f337:=Tryz.func256.trans<|congrArg some kr
 f338:=Tryz.func257.trans<|congrArg some kr
 t0:=Tryz.underlying0
 a0:=Tryz.isAgg0
 z0:=Tryz.sizeOf0
 v0:=Tryz.zeroValue0
 t2:=Tryz.underlying2
 a2:=Tryz.isAgg2
 z2:=Tryz.sizeOf2
 v2:=Tryz.zeroValue2
 t3:=Tryz.underlying3
 a3:=Tryz.isAgg3
 z3:=Tryz.sizeOf3
 v3:=Tryz.zeroValue3
 t4:=Tryz.underlying4
 a4:=Tryz.isAgg4
 z4:=Tryz.sizeOf4
 v4:=Tryz.zeroValue4
 t5:=Tryz.underlying5
 a5:=Tryz.isAgg5
 z5:=Tryz.sizeOf5
 v5:=Tryz.zeroValue5
 t9:=Tryz.underlying9
 a9:=Tryz.isAgg9
 z9:=Tryz.sizeOf9
 v9:=Tryz.zeroValue9
 t20:=Tryz.underlying20
 a20:=Tryz.isAgg20
 z20:=Tryz.sizeOf20
 v20:=Tryz.zeroValue20
 t21:=Tryz.underlying21
 a21:=Tryz.isAgg21
 z21:=Tryz.sizeOf21
 v21:=Tryz.zeroValue21
 t37:=Tryz.underlying22
 a37:=Tryz.isAgg22
 z37:=Tryz.sizeOf22
 v37:=Tryz.zeroValue22
 t46:=Tryz.underlying193
 a46:=Tryz.isAgg193
 z46:=Tryz.sizeOf193
 v46:=Tryz.zeroValue193
 t51:=Tryz.underlying245
 a51:=Tryz.isAgg245
 z51:=Tryz.sizeOf245
 v51:=Tryz.zeroValue245
 t53:=Tryz.underlying247
 a53:=Tryz.isAgg247
 z53:=Tryz.sizeOf247
 v53:=Tryz.zeroValue247
 t75:=Tryz.underlying282
 a75:=Tryz.isAgg282
 z75:=Tryz.sizeOf282
 v75:=Tryz.zeroValue282
 t76:=Tryz.underlying283
 a76:=Tryz.isAgg283
 z76:=Tryz.sizeOf283
 v76:=Tryz.zeroValue283
 t85:=Tryz.underlying304
 a85:=Tryz.isAgg304
 z85:=Tryz.sizeOf304
 v85:=Tryz.zeroValue304
 t127:=Tryz.underlying302
 a127:=Tryz.isAgg302
 z127:=Tryz.sizeOf302
 v127:=Tryz.zeroValue302
 t143:=Tryz.underlying333
 a143:=Tryz.isAgg333
 z143:=Tryz.sizeOf333
 v143:=Tryz.zeroValue333
 t145:=Tryz.underlying335
 a145:=Tryz.isAgg335
 z145:=Tryz.sizeOf335
 v145:=Tryz.zeroValue335
 t167:=Tryz.underlying303
 a167:=Tryz.isAgg303
 z167:=Tryz.sizeOf303
 v167:=Tryz.zeroValue303
 t168:=Tryz.underlying306
 a168:=Tryz.isAgg306
 z168:=Tryz.sizeOf306
 v168:=Tryz.zeroValue306
 t171:=Tryz.underlying310
 a171:=Tryz.isAgg310
 z171:=Tryz.sizeOf310
 v171:=Tryz.zeroValue310
 t173:=Tryz.underlying312
 a173:=Tryz.isAgg312
 z173:=Tryz.sizeOf312
 v173:=Tryz.zeroValue312
 t175:=Tryz.underlying316
 a175:=Tryz.isAgg316
 z175:=Tryz.sizeOf316
 v175:=Tryz.zeroValue316
 t210:=Tryz.underlying320
 a210:=Tryz.isAgg320
 z210:=Tryz.sizeOf320
 v210:=Tryz.zeroValue320
 t212:=Tryz.underlying329
 a212:=Tryz.isAgg329
 z212:=Tryz.sizeOf329
 v212:=Tryz.zeroValue329
 t213:=Tryz.underlying330
 a213:=Tryz.isAgg330
 z213:=Tryz.sizeOf330
 t232:=Tryz.underlying336
 a232:=Tryz.isAgg336
 z232:=Tryz.sizeOf336
 v232:=Tryz.zeroValue336
 t233:=Tryz.underlying337
 a233:=Tryz.isAgg337
 z233:=Tryz.sizeOf337
 v233:=Tryz.zeroValue337
 g15:=by kernel_rfl
 g16:=by kernel_rfl
 g17:=by kernel_rfl
 g18:=by kernel_rfl
 g19:=by kernel_rfl
 t80:=Tryz.underlying290
 a80:=Tryz.isAgg290
 z80:=Tryz.sizeOf290
 v80:=Tryz.zeroValue290
 i0:=by kernel_rfl
 i2:=by kernel_rfl
 i3:=by kernel_rfl
 i4:=by kernel_rfl
 i5:=by kernel_rfl
 i9:=by kernel_rfl
 i20:=by kernel_rfl
 i21:=by kernel_rfl
 i37:=by kernel_rfl
 i46:=by kernel_rfl
 i51:=by kernel_rfl
 i53:=by kernel_rfl
 i75:=by kernel_rfl
 i76:=by kernel_rfl
 i80:=by kernel_rfl
 i85:=by kernel_rfl
 i127:=by kernel_rfl
 i143:=by kernel_rfl
 i145:=by kernel_rfl
 i167:=by kernel_rfl
 i168:=by kernel_rfl
 i171:=by kernel_rfl
 i173:=by kernel_rfl
 i175:=by kernel_rfl
 i210:=by kernel_rfl
 i212:=by kernel_rfl
 i232:=by kernel_rfl
 i233:=by kernel_rfl
 m15:=by kernel_rfl
 m16:=by kernel_rfl
 m17:=by kernel_rfl
 m18:=by kernel_rfl
 m19:=by kernel_rfl
 c0:=by kernel_rfl
 c2:=by kernel_rfl
 c3:=by kernel_rfl
 c4:=by kernel_rfl
 c5:=by kernel_rfl
 c9:=by kernel_rfl
 c20:=by kernel_rfl
 c21:=by kernel_rfl
 c37:=by kernel_rfl
 c46:=by kernel_rfl
 c51:=by kernel_rfl
 c53:=by kernel_rfl
 c75:=by kernel_rfl
 c76:=by kernel_rfl
 c80:=by kernel_rfl
 c85:=by kernel_rfl
 c127:=by kernel_rfl
 c143:=by kernel_rfl
 c145:=by kernel_rfl
 c167:=by kernel_rfl
 c168:=by kernel_rfl
 c171:=by kernel_rfl
 c173:=by kernel_rfl
 c175:=by kernel_rfl
 c210:=by kernel_rfl
 c212:=by kernel_rfl
 c213:=by kernel_rfl
 c232:=by kernel_rfl
 c233:=by kernel_rfl }
open Go.RowKit in
theorem Tryz.strconv_Atoi_ok (s:ByteArray)(D:s.size<=9223372036854775806)(v:Int)(h:Lib.atoiAll s.data.toList=.ok v)(w:World) :
 Calls Tryz.prog 203 #[.string s] w λe w'=>e=.returned (.tuple #[.int .i64 v,.nilIface])/\(w'=w\/∃t,w'=Lib.bytesWorld w 5 t):=Any.strconv_Atoi_ok Tryz.laysC172 s D v h w
open Go.RowKit in
theorem Tryz.strconv_Atoi_syntax (s:ByteArray)(D:s.size<=281474976710656)(h:Lib.atoiAll s.data.toList=Lib.atoiAll [])(ev:Value)(w:World)(O:w.cell? ⟨4,0,none⟩=some ev)(I:ev=.nilIface\/∃te Z,ev=.iface te Z) :
 Calls Tryz.prog 203 #[.string s] w λe w'=>∃N,e=.returned (.tuple #[.int .i64 (0),.iface 306 (pta N)])/\w.heap.size<=N/\w'.heap[N]?=some (.cells #[.string ⟨#[65,116,111,105]⟩,.string s,ev] 320 (0,0))/\Below w.heap.size w w':=Any.strconv_Atoi_syntax Tryz.laysC172 s D h ev w O I
open Go.RowKit in
theorem Tryz.strconv_Atoi_range (s:ByteArray)(D:s.size<=281474976710656)(h:Lib.atoiAll s.data.toList=.range)(ev:Value)(w:World)(O:w.cell? ⟨5,0,none⟩=some ev)(I:ev=.nilIface\/∃te Z,ev=.iface te Z) :
 Calls Tryz.prog 203 #[.string s] w λe w'=>∃N,e=.returned (.tuple #[.int .i64 (Lib.atoiSat s.data.toList),.iface 306 (pta N)])/\w.heap.size<=N/\w'.heap[N]?=some (.cells #[.string ⟨#[65,116,111,105]⟩,.string s,ev] 320 (0,0))/\Below w.heap.size w w':=Any.strconv_Atoi_range Tryz.laysC172 s D h ev w O I
def Tryz.lays146_ren:Go.Shelf.Ren:=⟨fun|146=>131|221=>180|268=>204|138=>205|143=>206|195=>219|197=>220|218=>221|219=>222|260=>234|217=>235|225=>236|224=>237|267=>238|266=>248|314=>249|n=>n,fun|9=>9|31=>89|3=>3|4=>4|0=>0|105=>298|21=>21|5=>5|46=>193|119=>322|139=>325|138=>324|146=>326|51=>245|n=>n,fun|1=>3|3=>6|4=>7|n=>n⟩
theorem Tryz.lays146:Go.Proofs.Lays.n146 Tryz.prog Tryz.lays146_ren:={
 mixed:=by kernel_rfl
 f138:=Tryz.func205.trans<|congrArg some kr
 f143:=Tryz.func206.trans<|congrArg some kr
 f146:=Tryz.func131.trans<|congrArg some kr
 f195:=Tryz.func219.trans<|congrArg some kr
 f197:=Tryz.func220.trans<|congrArg some kr
 f217:=Tryz.func235.trans<|congrArg some kr
 f218:=Tryz.func221.trans<|congrArg some kr
 f219:=Tryz.func222.trans<|congrArg some kr
 f221:=Tryz.func180.trans<|congrArg some kr
 f224:=Tryz.func237.trans<|congrArg some kr
 f225:=Tryz.func236.trans<|congrArg some kr
 f260:=Tryz.func234.trans<|congrArg some kr
 f266:=Tryz.func248.trans<|congrArg some kr
 f267:=Tryz.func238.trans<|congrArg some kr
 f268:=Tryz.func204.trans<|congrArg some kr
 f314:=Tryz.func249.trans<|congrArg some kr
 t0:=Tryz.underlying0
 a0:=Tryz.isAgg0
 z0:=Tryz.sizeOf0
 v0:=Tryz.zeroValue0
 t3:=Tryz.underlying3
 a3:=Tryz.isAgg3
 z3:=Tryz.sizeOf3
 v3:=Tryz.zeroValue3
 t4:=Tryz.underlying4
 a4:=Tryz.isAgg4
 z4:=Tryz.sizeOf4
 v4:=Tryz.zeroValue4
 t5:=Tryz.underlying5
 a5:=Tryz.isAgg5
 z5:=Tryz.sizeOf5
 v5:=Tryz.zeroValue5
 t9:=Tryz.underlying9
 a9:=Tryz.isAgg9
 z9:=Tryz.sizeOf9
 v9:=Tryz.zeroValue9
 t21:=Tryz.underlying21
 a21:=Tryz.isAgg21
 z21:=Tryz.sizeOf21
 v21:=Tryz.zeroValue21
 t31:=Tryz.underlying89
 a31:=Tryz.isAgg89
 z31:=Tryz.sizeOf89
 v31:=Tryz.zeroValue89
 t46:=Tryz.underlying193
 a46:=Tryz.isAgg193
 z46:=Tryz.sizeOf193
 v46:=Tryz.zeroValue193
 t51:=Tryz.underlying245
 a51:=Tryz.isAgg245
 z51:=Tryz.sizeOf245
 v51:=Tryz.zeroValue245
 t105:=Tryz.underlying298
 a105:=Tryz.isAgg298
 z105:=Tryz.sizeOf298
 v105:=Tryz.zeroValue298
 t119:=Tryz.underlying322
 a119:=Tryz.isAgg322
 z119:=Tryz.sizeOf322
 t138:=Tryz.underlying324
 a138:=Tryz.isAgg324
 z138:=Tryz.sizeOf324
 v138:=Tryz.zeroValue324
 t139:=Tryz.underlying325
 a139:=Tryz.isAgg325
 z139:=Tryz.sizeOf325
 v139:=Tryz.zeroValue325
 t146:=Tryz.underlying326
 a146:=Tryz.isAgg326
 z146:=Tryz.sizeOf326
 v146:=Tryz.zeroValue326
 g1:=by kernel_rfl
 g3:=by kernel_rfl
 g4:=by kernel_rfl }
open Go.RowKit Go.Lib in
theorem Tryz.strings_Split (s D:ByteArray)(m:Int)(w:World)(O:s.size<4294967281)(I:w.cell? ⟨3,0,none⟩=some (.int .i64 m))(h1:1<=D.size) :
 Calls Tryz.prog 131 #[.string s,.string D] w λe w'=>
  e=.returned (.slice (saa w.heap.size) (Lib.countB s D+1)<|Lib.countB s D+1)/\w'=w.alloc (.cells ((Lib.splitB D 0 (Lib.countB s D) s).map Value.string).toArray 9):=Any.strings_Split Tryz.lays146 kr s D m w O I h1
end Go.Proofs
namespace Go.Proofs.YtkafbfjmcigaiaaGreatDoor
open Go.Lw _root_.Go.Proofs.Tryz
theorem k5n {w w':World}{D:String}{k:IntKind}{zs:List Int}{S:List Nat}(h:Lib.TabIs prog w D k zs)(hf:Fr S w w')(Z:∀g,prog.globalNamed D=some g->g∉S):Lib.TabIs prog w' D k zs:=by
 unfold Lib.TabIs World.var? at *
 cases hg:prog.globalNamed D with
 | none=>simp[hg]at h
 | some g=>
  simp only[hg,Option.bind_some]at h ⊢;have O:g<w.heap.size:=by
   rcases l121 g w.heap.size with I|I
   exact I;rw[l103 I]at h;simp at h
  rw[hf.block g O (Z g hg)];exact h
theorem gPow:prog.globalNamed "internal/strconv.uint64pow10" =some 8:=kr
structure Glob (w:World):Prop where
  wd:Cells w ⟨0,0,none⟩ (z9s.map S)
  dr:Cells w ⟨1,0,none⟩ (x7t.map S)
  ml:IntAt 3 w
  tab:Lib.TabIs prog w "internal/strconv.uint64pow10" .u64 Lib.pow10Tab
  es:∃te pe,w.cell? ⟨4,0,none⟩=some (.iface te pe)
  er:∃te pe,w.cell? ⟨5,0,none⟩=some (.iface te pe)
  sz:11<=w.heap.size
theorem Glob.fr {w w':World}{S:List Nat}(h:Glob w)(hf:Fr S w w')(O:∀k∈S,11<=k):Glob w':=by
 have D:∀g,g<11->g∉S:=λg I e=>by have:=O g e;omega
 exact⟨h.wd.fr hf<|D _ dd,h.dr.fr hf<|D _ dd,h.ml.fr hf<|D _ dd,k5n h.tab hf (λg I=>by rw[gPow]at I;cases I;exact D _ dd),let ⟨a,b,e⟩:=h.es;⟨a,b,hf.cell e<|D _ dd⟩,let ⟨a,b,e⟩:=h.er;⟨a,b,hf.cell e<|D _ dd⟩,l42 h.sz hf.size⟩
theorem Glob.ext {w w':World}(h:Glob w)(hf:Fr [] w w'):Glob w':=h.fr hf sp0
theorem j4z (w:World)(k:Nat)(l:Array Obj):Fr [] w (Sort.grow (w.drewN k) l):=
 (Fr.drewN [] w k).next ⟨rfl,rfl,rfl,by simp[Sort.grow],λk D _=>by simp only[Sort.grow];exact Array.getElem?_append_left D⟩
theorem x0x (n:Int)(w0:World)(hG:Glob w0)(h:-99<=n/\n<=99):Rets prog 181 #[.int .i64 n] w0 λv w'=>v=S (v0t n)/\Fr [] w0 w':=by
 refine Calls.mono (strconv_Itoa n oo oo w0 hG.tab) ?_;rintro e w' ⟨rfl,k,D,rfl⟩;exact⟨_,rfl,by rw[j8b h];rfl,j4z _ _ _⟩
theorem x1o (b p:Int)(w0:World)(hG:Glob w0):Rets prog 182 #[.agg #[.int .u8 b,.int .i64 p]] w0 λv w'=>v=S (u3t b p)/\Fr [] w0 w':=by
 have a0:=hG.sz;refine wf func182 U<|sr<|bx U<|λg1 w1 a1 D Z z1=>(asg U<|nn<|sq<|sr<|z0l U D z5k<|cl (ev1 U) u8u (z5m _ _ _) ?_);rintro _ w2 ⟨rfl,I⟩;refine ne' U<|nn<|cd U (λO=>?_)<|λO=>?_;refine sr<|asg U<|nn<|rt<|tr<|r1 U ?_;exact⟨_,rfl,by rw[u3t,if_pos O]<;>rfl,(Z.n1 I)⟩;have hr:=v3j.1<|l15.1 O;refine sk<|tn<|sq<|sr<|fad U z7e ?_;have D:=D.ext I;refine z0i U D U x9t<|eq' U<|nn<|cd U (λc1=>?_)<|λc1=>?_;refine sr<|fad U z7d<|z0i U D U na3 ?_;have hG:=hG.ext<|Z.n1 I;refine cl (ev1 U) cO (x0x _ _ hG oo) ?_;rintro _ w3 ⟨rfl,q3⟩;refine j2m U U (by have:=y6w p;simp;omega) U<|asg U<|kpL (ll1 2) U<|nn<|rt<|tr<|r1 U ?_;exact⟨_,rfl,by rw[u3t,if_neg O,if_pos c1]<;>rfl,(Z.n2 I q3)⟩;refine sk<|tn<|sr<|fad U z7d<|z0i U D U na3 ?_;have hG:=hG.ext<|Z.n1 I;refine cl (ev1 U) cO (x0x _ _ hG oo) ?_;rintro _ w4 ⟨rfl,q4⟩;refine j2m U U (by have:=y6w p;simp;omega) U<|asg U<|kpL (ll1 2) U<|nn<|rt<|r1 U ?_;exact⟨_,rfl,by rw[u3t,if_neg O,if_neg c1]<;>rfl,(Z.n2 I q4)⟩
theorem u8k (v:Value)(ys:List (List UInt8))(D:List UInt8)(base T:Nat)(w0:World)(I:Lw.Own Enc.str T base w0 v ys)(Z:ys≠[])(hl:(Lib.join ys D).length<=1000000)(a0:ys.length<=1000000):Rets prog 183 #[v,S D] w0 λr w'=>r=S (Lib.join ys D)/\Fr [] w0 w':=by
 rcases I with ⟨_,e⟩|⟨g,cap,cur,rfl,O,hg,h1,h2,h3,h4⟩
 exact absurd e Z;have hm:(ys.map<|λy=>(⟨y.toArray⟩:ByteArray)).map (·.data.toList)=ys:=by rw[l75];simp[l113]
 have I:Lw.Own Enc.str T base w0 (.slice (saa g) ys.length cap) ys:=.inr ⟨g,cap,cur,rfl,O,hg,h1,h2,h3,h4⟩;have hj:=strings_Join g 0 cap (ys.map<|λy=>(⟨y.toArray⟩:ByteArray)) ⟨D.toArray⟩ w0 (λj x hx=>by
  rw[l26,Option.map_eq_some_iff]at hx;obtain⟨y,hy,rfl⟩:=hx;obtain⟨A,c,e,_,_,hA⟩:=I.sl;cases e;obtain⟨ad,e1,hc⟩:=hA j y hy;cases e1;have:=hc 0 (S y) U;rw[z5r,z5r,Nat.add_zero,show Enc.str.sz=1 from U,Nat.mul_one]at this;exact this) ((l17.1 hg).1) so so (by rw[hm];simp;omega)
 rw[hm,l18]at hj;refine Calls.mono hj ?_;rintro e w' ⟨rfl,O⟩;exact⟨_,rfl,by simp[S],Fr.of_below O⟩
theorem u9e (w:World)(t:ByteArray):Fr [] w (Lib.bytesWorld w 5 t):=Fr.of_below<|Lib.bytesWorld_below w 5 t
theorem j6h (l:List UInt8)(w0:World)(hG:Glob w0)(hl:l.length<=1000000):Rets prog 203 #[S l] w0 λr w'=>∃n e,∃b:Bool,r=.tuple #[.int .i64 n,e]/\(e=.nilIface/\b=false\/(∃t p,e=.iface t p)/\b=true)/\j1d l=(if b=true then 0 else n)/\Fr [] w0 w':=by
 have hs:(⟨l.toArray⟩:ByteArray).size=l.length:=by simp[ByteArray.size]
 rcases h:Lib.atoiAll l with v|_|_
 refine Calls.mono (strconv_Atoi_ok ⟨l.toArray⟩ oo v (by simpa using h) w0) ?_;rintro e w' ⟨rfl,O⟩;refine⟨_,rfl,v,.nilIface,false,rfl,.inl ⟨rfl,rfl⟩,by simp[j1d,h],?_⟩;rcases O with rfl|⟨t,rfl⟩
 exact l12 _ _;exact u9e w0 t;obtain⟨te,Z,I⟩:=hG.es;refine Calls.mono (strconv_Atoi_syntax ⟨l.toArray⟩ oo (show Lib.atoiAll l=Lib.atoiAll [] from h) _ w0 I<|.inr ⟨_,_,rfl⟩) ?_;rintro e w' ⟨N,rfl,_,_,D⟩;exact⟨_,rfl,_,_,true,rfl,.inr ⟨⟨_,_,rfl⟩,rfl⟩,by simp[j1d,h],Fr.of_below D⟩;obtain⟨te,Z,I⟩:=hG.er;refine Calls.mono (strconv_Atoi_range ⟨l.toArray⟩ oo (by simpa using h) _ w0 I<|.inr ⟨_,_,rfl⟩) ?_;rintro e w' ⟨N,rfl,_,_,D⟩;exact⟨_,rfl,_,_,true,rfl,.inr ⟨⟨_,_,rfl⟩,rfl⟩,by simp[j1d,h],Fr.of_below D⟩
theorem u6n (l D:List UInt8)(w0:World)(hG:Glob w0)(hl:l.length<4294967281)(h1:1<=D.length):Rets prog 131 #[S l,S D] w0 λr w'=>Lw.Own Enc.str 9 w0.heap.size w' r (Lib.split l D)/\Fr [] w0 w':=by
 obtain⟨k,hk⟩:=hG.ml;have hs:(⟨l.toArray⟩:ByteArray).size=l.length:=by simp[ByteArray.size]
 have a0:(⟨D.toArray⟩:ByteArray).size=D.length:=by simp[ByteArray.size]
 refine Calls.mono (strings_Split ⟨l.toArray⟩ ⟨D.toArray⟩ k w0 oo hk oo) ?_;rintro e w' ⟨rfl,rfl⟩;have hd:=Lib.splitB_data ⟨D.toArray⟩ 0 (Lib.countB ⟨l.toArray⟩ ⟨D.toArray⟩) ⟨l.toArray⟩;have hc:Lib.countB ⟨l.toArray⟩ ⟨D.toArray⟩=Lib.count l D:=by simp[Lib.countB]
 have I:=Lib.splitB_all ⟨D.toArray⟩ oo 0 _ ⟨l.toArray⟩ U;have O:=Lib.countB_le ⟨D.toArray⟩ oo _ ⟨l.toArray⟩<|l20 _;rw[hs]at O;have Z:Lib.split l D=(Lib.splitB ⟨D.toArray⟩ 0 (Lib.countB ⟨l.toArray⟩ ⟨D.toArray⟩) ⟨l.toArray⟩).map (·.data.toList):=by rw[hd,hc];rfl
 have hz:∀zs:List ByteArray,zs.map Value.string=(zs.map (·.data.toList)).flatMap Enc.str.enc:=λzs=>by
  induction zs with
  | nil=>rfl
  | cons z zs ih=>rw[l28,l28,l37,<-ih];rfl
 refine⟨_,rfl,.inr ⟨w0.heap.size,Lib.countB ⟨l.toArray⟩ ⟨D.toArray⟩+1,_,by rw[Z,l18,I],l20 _,heap_alloc_new w0 _,by rw[Z,l18,I];exact l20 _,t40,?_,?_⟩,Fr.alloc [] w0 _⟩;rw[show Enc.str.sz=1 from U,Nat.mul_one,l137,l18,I];exact l20 _;rw[Z,l18,I,show Enc.str.sz=1 from U,Nat.mul_one,<-hz];exact l86 (by rw[l18,I];exact l20 _)
end Go.Proofs.YtkafbfjmcigaiaaGreatDoor
namespace Go.Lw
theorem y4w {P:Program}{W:World}{n:String}{d:DataW Unit}:∀ {l:List (String×DataW Unit)} {ps:List MemPlace},DataW.LaidVars P W l ps->(n,d)∈l->
    ∃g t cs D p,P.globalNamed n=some g/\(P.globals[g]?).map (·.type)=some t/\W.var? P n=some cs/\DataW.trod (λ_=>()) P W 0 (λ_=>true) false D t cs.toList=some (d,p)
  | [],_,_,I=>by simp at I
  | (m,e)::r,ps,h,I=>by
    obtain⟨g,t,cs,D,p,q,e1,e2,O,Z,hr,_⟩:=h
    rcases l57.1 I with e|I
    · cases e;exact⟨g,t,cs,D,p,e1,e2,O,Z⟩
    · exact y4w hr I
theorem x2w {H:Type}{enc:TypeId×Value->H}{P:Program}{w:World}{base:Nat}{sp:Nat->Bool}{O:Bool}{D:Nat}{t e:TypeId}{n:Nat}{cs:List Value}{zs:List (List UInt8)}{p:List MemPlace}
    (ht:P.underlying t=some (.array n e)) (he:P.underlying e=some .string) (hce:P.cellsOf e=1) (hct:P.cellsOf t=n)
    (h:DataW.trod enc P w base sp O D t cs=some (.agg<|zs.map λz=>.lit<|.string z,p)):cs=zs.map S:=by
  cases D with
  | zero=>simp[DataW.trod]at h
  | succ D=>
    simp only[DataW.trod,ht,hce,hct,Nat.mul_one]at h
    split at h
    · rename_i hl
      obtain⟨xs,hm,hx⟩:=Option.map_eq_some_iff.1 h
      have Z:xs.map (·.1)=zs.map λz=>(DataW.lit (.string z):DataW H):=by
        have:=congrArg Prod.fst hx
        simpa using this
      have a0:xs.length=n:=by simpa using Lib.mapM_length hm
      have a1:zs.length=n:=by
        have:=congrArg List.length Z
        simp at this
        omega
      apply l69
      intro i
      by_cases hi:i<n
      · obtain⟨b,hb,hf⟩:=Lib.mapM_at hm i i (by simp[hi])
        obtain⟨s,hc,h2,_⟩:=DataW.trod_string he hf
        have h1:cs[i]?=some (.string s):=by
          have:=congrArg (·[0]?) hc
          simpa[l53,l101] using this
        have h3:(xs.map (·.1))[i]?=some b.1:=by simp[hb]
        rw[Z,l26,Option.map_eq_some_iff]at h3
        obtain⟨z,hz,I⟩:=h3
        rw[h2]at I
        simp only[DataW.lit.injEq,Lit.string.injEq]at I
        rw[h1,l26,hz,I]
        simp[S]
      · rw[l32 oo,l32 so]
    · cases h
theorem u5x {H:Type}{enc:TypeId×Value->H}{P:Program}{w:World}{base:Nat}{sp:Nat->Bool}{I:Bool}{D:Nat}{t:TypeId}{ms}{cs:List Value}{nm:String}{d:DataW H}{p:List MemPlace}
    (ht:P.underlying t=some (.interface ms)) (h:DataW.trod enc P w base sp I D t cs=some (.iface nm d,p)):∃u v,cs=[.iface u v]:=by
  cases D with
  | zero=>simp[DataW.trod]at h
  | succ D=>
    simp only[DataW.trod,ht]at h
    split at h<;>simp_all
theorem k4z {P:Program}{W:World}{n:String}{g:Nat}{cs:Array Value}(I:P.globalNamed n=some g)(h:W.var? P n=some cs):g<W.heap.size:=by
 unfold World.var? at h;simp only[I,Option.bind_some]at h;rcases l121 g W.heap.size with D|D
 exact D;rw[l103 D]at h;simp at h
end Go.Lw
namespace Go.Proofs.YtkafbfjmcigaiaaGreatDoor
open Go.ChangeShapes Go.WideShapes Go.ChangeAt Go.RowKit Go.Lw
theorem own:ownKnob Tryz.prog.godebug=none:=kr
theorem j4l:laidOutB Tryz.prog=true:=kr
def y5p:List (String×DataW Unit):=[("math/bits.deBruijn32tab",Rows.laid_math_bits_deBruijn32tab),("math/bits.deBruijn64tab",Rows.laid_math_bits_deBruijn64tab),("internal/strconv.uint64pow10",Rows.laid_internal_strconv_uint64pow10),("unicode/utf8.acceptRanges",Rows.laid_unicode_utf8_acceptRanges),("strconv.ErrRange",Rows.laid_strconv_ErrRange),("strconv.ErrSyntax",Rows.laid_strconv_ErrSyntax),("gansey/orders.steps",Rows.laid_gansey_orders_steps),("gansey/operations.words",Rows.laid_gansey_operations_words),("gansey/operations.dirs",Rows.laid_gansey_operations_dirs),("unicode/utf8.first",Rows.laid_unicode_utf8_first)]
theorem v8p {n:String}{zs:List (List UInt8)}{W:World}{l:List (String×DataW Unit)}{ps:List MemPlace}{g t m:Nat}(hL:DataW.LaidVars Tryz.prog W l ps)(hm:(n,.agg<|zs.map λz=>.lit<|.string z)∈l)(ht:Tryz.prog.underlying t=some (.array m 9))(Z:Tryz.prog.globalNamed n=some g:=by kernel_rfl)(I:(Tryz.prog.globals[g]?).map (·.type)=some t:=by kernel_rfl)(D:Tryz.prog.cellsOf t=m:=by kernel_rfl):Cells W ⟨g,0,none⟩ (zs.map S):=by
 obtain⟨g',t',cs,O,p,e1,e2,e3,e4⟩:=y4w hL hm;cases Z.symm.trans e1;cases I.symm.trans e2;have hc:=x2w ht Tryz.underlying9 kr D e4;intro j u hu;rw[z5r,l72,World.var?_cell Z e3 j,<-l45,hc];exact hu
theorem j3t {n nm:String}{d:DataW Unit}{W:World}{l:List (String×DataW Unit)}{ps:List MemPlace}{g:Nat}(hL:DataW.LaidVars Tryz.prog W l ps)(hm:(n,.iface nm d)∈l)(O:Tryz.prog.globalNamed n=some g)(D:(Tryz.prog.globals[g]?).map (·.type)=some 282):∃te pe,W.cell? ⟨g,0,none⟩=some (.iface te pe):=by
 obtain⟨g',t',cs,I,p,e1,e2,Z,e4⟩:=y4w hL hm;cases O.symm.trans e1;cases D.symm.trans e2;obtain⟨u,v,hc⟩:=u5x Tryz.underlying282 e4;exact⟨u,v,by rw[World.var?_cell O Z 0,<-l45,hc];rfl⟩
theorem j8f {W:World}(h:laidMetH Tryz.prog y5p W)(Z:W.ShapedOpen Tryz.prog):Glob W:=by
 have h':laidMet Tryz.prog y5p W:=h;obtain⟨ps,D,_,_⟩:=h';refine⟨?_,?_,(Go.Proofs.cell_of_shapedOpen_int (zero:=#[.int .i64 0]) (t:=3) Z (of_decide_eq_true kr) kr U kr kr Tryz.underlying3),?_,?_,?_,?_⟩;exact v8p (zs:=z9s) (n:= "gansey/operations.words") (t:=257) (m:=9) D (by simp[y5p];rfl) Tryz.underlying257;exact v8p (zs:=x7t) (n:= "gansey/operations.dirs") (t:=263) (m:=2) D (by simp[y5p];rfl) Tryz.underlying263;obtain⟨g',t',cs,I,p,e1,e2,O,e4⟩:=y4w (n:= "internal/strconv.uint64pow10") (d:=Rows.laid_internal_strconv_uint64pow10) D (by simp[y5p]);cases gPow.symm.trans e1;cases (show (Tryz.prog.globals[8]?).map (·.type)=some 329 by kernel_rfl).symm.trans e2;unfold Lib.TabIs;rw[O];have:=Lib.cells_of_tab (zs:=Lib.pow10Tab) Tryz.underlying329 Tryz.underlying247 kr kr e4;rw[<-this];exact j3t (n:= "strconv.ErrSyntax") D (by unfold y5p;simp only[Rows.laid_strconv_ErrSyntax];simp;exact⟨rfl,rfl⟩) kr kr;exact j3t (n:= "strconv.ErrRange") D (by unfold y5p;simp only[Rows.laid_strconv_ErrRange];simp;exact⟨rfl,rfl⟩) kr kr;obtain⟨g',t',cs,I,p,e1,e2,O,e4⟩:=y4w (n:= "math/bits.deBruijn64tab") (d:=Rows.laid_math_bits_deBruijn64tab) D (by simp[y5p]);have:=k4z (show Tryz.prog.globalNamed "math/bits.deBruijn64tab" =some 10 by kernel_rfl) O;omega
theorem k6y {W:World}(h:laidMetH Tryz.prog y5p W):StT W:=by
 have h':laidMet Tryz.prog y5p W:=h;obtain⟨ps,hL,_,_⟩:=h';obtain⟨g',t',cs,D,p,e1,e2,O,Z⟩:=y4w (n:= "gansey/orders.steps") (d:=Rows.laid_gansey_orders_steps) hL (by simp[y5p]);have I:Tryz.prog.globalNamed "gansey/orders.steps" =some 2:=by kernel_rfl
 cases I.symm.trans e1;cases (show (Tryz.prog.globals[2]?).map (·.type)=some 267 by kernel_rfl).symm.trans e2;have hc:=Lib.cells_of_tab (zs:=[-1,1]) Tryz.underlying267 Tryz.underlying3 kr kr Z;constructor;intro j u hu;rw[z5r,l72,World.var?_cell I O j,<-l45,hc];exact hu
def k6h:List (String×DataW Unit):=y5p.filter λp=>match p.2 with|.iface _ _=>false|_=>true
noncomputable def witP (os:Os):World:=k9s Tryz.prog os k6h
theorem k3l {n:Int}(h:(Lit.int .u8 n).wf=true):0<=n/\n<=255:=by
 have D:IntKind.u8.min<=n/\n<=IntKind.u8.max:=by simpa[Lit.wf] using h
 exact D
noncomputable def j3l (w:World)(g:Nat)(s:List UInt8):World:=layW (w.alloc<|.cells #[.string ⟨s.toArray⟩] 335) g #[.iface 333 (.pointer<|some ⟨w.heap.size,0,none⟩)]
noncomputable def q0x (os:Os):World:=j3l (j3l (witP os) 5 [118,97,108,117,101,32,111,117,116,32,111,102,32,114,97,110,103,101]) 4 [105,110,118,97,108,105,100,32,115,121,110,116,97,120]
open Go.Lw
def encL:Enc (SV×SV):=⟨λp=>[slv p.1,slv p.2],2,λ_=>rfl,λ_ u h=>by simp [slv] at h;rcases h with rfl|rfl<;>rfl,dd⟩
theorem j9q {cs:List Value}(h:cs.length=2):∃D I,cs=[D,I]:=match cs,h with|[D,I],_=>⟨D,I,rfl⟩
theorem opL:x5i Tryz.prog 24 encL (λw y=>SlR Enc.b (λ_ _=>True) w y.1/\SlR Enc.b (λ_ _=>True) w y.2):=by
 intro H enc w base sp D a0 cs x h;obtain⟨xs,n,_,_,hl,I,hf⟩:=DataW.trod_struct Tryz.underlying24 h;rw[show Tryz.prog.cellsOf 24=2 by kernel_rfl]at hl;obtain⟨O,Z,rfl⟩:=j9q hl;have h0:DataW.trod enc Tryz.prog w base sp D n 22 (([O,Z].drop 0).take<|Tryz.prog.cellsOf 22)=xs[0]?:=hf 0 _ U;rw[show Tryz.prog.cellsOf 22=1 by kernel_rfl]at h0;obtain⟨y0,e0,r0⟩:=y7w (cs:=[O]) h0 I dd<|y7o Tryz.underlying22 kr<|u2w Tryz.underlying5;have h1:DataW.trod enc Tryz.prog w base sp D n 22 (([O,Z].drop 1).take<|Tryz.prog.cellsOf 22)=xs[1]?:=hf 1 _ U;rw[show Tryz.prog.cellsOf 22=1 by kernel_rfl]at h1;obtain⟨y1,e1,r1⟩:=y7w (cs:=[Z]) h1 I dd<|y7o Tryz.underlying22 kr<|u2w Tryz.underlying5;cases e0;cases e1;exact⟨(y0,y1),rfl,⟨r0,r1⟩⟩
open Go.Lw _root_.Go.Proofs.Tryz
theorem y5a:ElemOf prog 89 9 Enc.str 16:=ElemOf.mk' (z:=(.string ⟨#[]⟩)) underlying89 kr U
theorem na9:z2e prog 9:=λ_=>kr
theorem sz9:z1s prog 9 1:=λ_=>kr
theorem y3l (l:List UInt8)(w0:World)(hG:Glob w0)(hl:l.length<=1000000):Rets prog 177 #[S l] w0 λv w'=>v=.int .i64 (j1d l)/\Fr [] w0 w':=by
 have Z:=hG.sz;refine wf func177 U<|sr<|asg U<|nn<|sr<|mv U<|cl (ev1 U) cO (j6h _ _ hG oo) ?_;rintro _ w1 ⟨n,e,b,rfl,hb,I,O⟩;refine mv U<|xt U<|xt U<|asg U<|asg U<|kpL (ll2 3 4) U<|nn<|sq<|sr<|mv U<|j5p U underlying282 hb U<|nn<|cd U (λD=>?_)<|λD=>?_;exact sr<|asg U<|nn<|rt<|tr<|r1 U ⟨_,rfl,by simp[I,D],O⟩;exact sk<|tn<|sr<|mv U<|asg U<|nn<|rt<|r1 U ⟨_,rfl,by simp[I,D],O⟩
theorem j3a (l:List UInt8)(w0:World)(hG:Glob w0):Rets prog 178 #[S l] w0 λv w'=>v=.int .u8 (k2m l)/\Fr [] w0 w':=by
 have I:=hG.sz;refine wf func178 U<|sr<|asg U<|nn<|sq<|sr<|mv U<|y0k U U underlying263 sz9<|y2g U hG.dr U na9 U<|k3x U U U<|nn<|cd U (λD=>?_)<|λD=>?_;exact sr<|asg U<|nn<|rt<|tr<|r1 U ⟨_,rfl,by rw[k2m,if_pos D],(l12 _ _)⟩;exact sk<|tn<|sr<|asg U<|nn<|rt<|r1 U ⟨_,rfl,by rw[k2m,if_neg D],(l12 _ _)⟩
theorem j6r (o:MOp)(w0:World)(hG:Glob w0):Rets prog 132 #[opV o] w0 λv w'=>v=S (k6d o)/\Fr [] w0 w':=by
 have f3:=hG.sz;refine wf func132 U<|sr<|bx U<|λg1 w1 f4 I q1 z1=>(asg U<|nn<|sq<|sr<|z0l U I y3t<|cl (ev1 U) k5f (y3m o _) ?_);rintro _ w2 ⟨rfl,q2⟩;have z2:=q2.size;refine ne' U<|nn<|cd U (λc0=>?_)<|λc0=>?_;refine sr<|asg U<|nn<|rt<|tr<|r1 U ?_;exact⟨_,rfl,by rw[k6d,if_pos c0]<;>rfl,(q1.n1 q2)⟩;have hr:=u3d<|l15.1 c0;refine sk<|tn<|sr<|fad U z4t ?_;have I:=I.ext q2;refine z0i U I U na5<|z4c U (us underlying5) underlying3 (wi6 oo) ?_;have hG:=hG.ext<|q1.n1 q2;refine cl (ev1 U) cO (x0x _ _ hG oo) ?_;rintro _ w3 ⟨rfl,q3⟩;have z3:=q3.size;refine asg U<|nn<|sr<|fad U z8s ?_;have I:=I.ext q3;refine z0i U I U v7d<|y0k U U underlying257 sz9 ?_;have hG:=hG.ext q3;refine y2g U hG.wd (u4d oo) na9 U<|z1i ([z9f o.k]) (ev1 U) U y5a<|λO w4 e4 D q4 z4=>(asg U ?_);have D:=D.low (show w0.heap.size<=O by omega);refine nn<|jn (ι:=Value) [] (λv4=>[(4,v4)]) (λv4 w'=>Fr [O] w4 w'/\Lw.Own Enc.str 9 w0.heap.size w' v4 (z9f o.k::y5n o)) .nil ?_ ?_;refine sr<|fad U z8s ?_;have I:=I.ext q4;refine z0i U I U v7d<|nn<|bl<|sr<|eq' U<|asg U<|nn<|cd U (λc1=>?_)<|λc1=>?_;refine rg<|mv U<|mv U<|fad U z9o<|z0i U I U x4g<|y0k U U underlying263 sz9 ?_;have hG:=hG.ext q4;refine y2g U hG.dr (v3d oo) na9 U<|z1i ([v0t o.y,j5l o.d]) (ev2 U) U y5a<|λe9 w5 e5 b2 q5 z5=>?_;have D:=D.ext q5;refine z2l (base:=w0.heap.size) U D b2.sl y5a (λf6 w6 a1 q6 d5=>?_) (hM:=t58) (hb:=se);replace q6:Fr [O] _ _:=q6;have z6:=q6.size;exact asg U<|kpL (ll1 4) U<|nl<|bn'<|jE (_) U ⟨((l12 [O] _).z2 q5 q6),by first|(rw[y5n,if_pos c1];exact a1)|(exfalso;omega)⟩;refine sr<|eq' U<|asg U<|nn<|cd U (λc2=>?_)<|λc2=>?_;refine rg<|mv U<|mv U<|z1i ([v0t o.y]) (ev1 U) U y5a<|λf0 w7 e6 b3 q7 z7=>?_;have D:=D.ext q7;refine z2l (base:=w0.heap.size) U D b3.sl y5a (λf7 w8 a1 q8 d6=>?_) (hM:=t58) (hb:=se);replace q8:Fr [O] _ _:=q8;have z8:=q8.size;exact asg U<|kpL (ll1 4) U<|nl<|bn'<|jE (_) U ⟨((l12 [O] _).z2 q7 q8),by first|(rw[y5n,if_neg c1,if_pos c2];exact a1)|(exfalso;omega)⟩;refine sr<|eq' U<|asg U<|nn<|cd U (λc3=>?_)<|λc3=>?_;refine rg<|mv U<|fad U y4y<|z0i U I U na3 ?_;have hG:=hG.ext q4;refine cl (ev1 U) cO (x0x _ _ hG oo) ?_;rintro _ w9 ⟨rfl,q9⟩;have z9:=q9.size;refine z1i ([v0t o.r]) (ev1 U) U y5a<|λf1 g3 e7 b5 b8 h4=>?_;have D:=D.ext<|q9.n1 b8;refine z2l (base:=w0.heap.size) U D b5.sl y5a (λf8 g4 a1 a7 d7=>?_) (hM:=t58) (hb:=se);replace a7:Fr [O] _ _:=a7;have h5:=a7.size;exact asg U<|kpL (ll1 4) U<|nl<|bn'<|jE (_) U ⟨((l12 [O] _).z3 q9 b8 a7),by first|(rw[y5n,if_neg c1,if_neg c2,if_pos c3];exact a1)|(exfalso;omega)⟩;refine jn (ι:=Bool) (ll4 1 3 4 18) (λb4=>[(43,.bool b4)]) (λb4 w'=>Fr [] w4 w'/\b4=decide ((o.k=4\/o.k=5)\/o.k=6)) U ?_ ?_;refine sr<|eq' U<|asg U<|nn<|cd U (λc4=>?_)<|λc4=>?_;exact sk<|jE (_) U ⟨(l12 _ _),t59⟩;refine sr<|eq' U<|asg U<|nn<|cd U (λc5=>?_)<|λc5=>?_;exact sk<|jE (_) U ⟨(l12 _ _),t59⟩;exact rg<|eq' U<|asg U<|nl<|jE (_) U ⟨(l12 _ _),t59⟩;rintro b4 d1 ⟨a2,rfl⟩;have h6:=a2.size;refine kpC (ll5 1 3 4 18 43) U<|cd U (λc6=>?_)<|λc6=>?_;have hG:=hG.ext<|q4.n1 a2;have I:=I.ext a2;have D:=D.ext a2;intro a h;have a0:=l12 [O] d1;refine z3d (Fr [O]) z2s ?_;intro d3 Z;have h7:=Z.size;have hG:=hG.ext Z;have I:=I.ext Z;have D:=D.ext Z;have a0:=a0.next Z;have f5:=Z.size;clear Z;have hC:Fr [O] d3 d3:=l12 _ _;have a9:=hG;have a3:=I;have a6:=D;refine z0e 0 h U λa h=>z0c 1 h U z9o U λa h=>z0m 2 h U (λ_ hw=>a3.fr hw se) U x4g U λa h=>j5h 3 kr hC h wn U U underlying263 sz9 oo oo U U λa h=>u9l 4 kr hC h wn U (λ_ hw=>(a9.fr hw se).dr) (v3d oo) na9 U U λa h=>z0c 5 h U z5w U λa h=>z1f (vs:=[_,_]) 6 h U (λ_ hw=>(a3.fr hw se)) z5k U U λa h=>z0e 8 h U λa h=>z0d 7 U ?_;refine z0n h (z0a U z0f) cO (x1o _ _ _ hG) ?_;rintro _ g5 ⟨rfl,Z⟩ a h;have h8:=Z.size;have hG:=hG.ext Z;have I:=I.ext Z;have D:=D.ext Z;have a0:=a0.next Z;have hC:=hC.next Z;clear Z;refine z0b<|z0d 9 U<|z2p ([j5l o.d,u3t o.b o.p,v0t o.y]) h (z0a U<|z0a U<|z0a U z0f) U y5a λb1 g6 hg a5 Z hz a h=>?_;have d4:g1<b1:=by have:=I.lt;omega
 have h9:=Z.size;have hG:=hG.ext Z;have I:=I.ext Z;have D:=D.ext Z;have a0:=a0.next Z;have hC:=hC.next Z;clear Z;refine z0b<|z0d 10 U ?_;refine z5s (base:=w0.heap.size) h U U D a5.sl y5a U ?_ (hM:=t58) (hb:=se);intro f9 g7 a1 Z d9 a h;replace Z:Fr [O] _ _:=Z;have e3:=Z.size;have hG:=hG.fr Z t28;have I:=I.fr Z;have a0:=a0.sp Z;have hC:=hC.sp Z;have a5:=a5.fr Z t28;clear Z;refine z0b<|z0d 11 U<|z0o h U λa h=>?_;refine z0b<|z0q ?_;clear hC a9 a3 a6;have e3:=a0.size;exact xB (ll1 4) h U<|bn'<|jE (_) U ⟨((l12 [O] _).z2 a2 a0),by first|(rw[y5n,if_neg c1,if_neg c2,if_neg c3,if_pos c6];exact a1)|(exfalso;omega)⟩;refine jn (ι:=Bool) (ll2 1 4) (λb7=>[(58,.bool b7)]) (λb7 w'=>Fr [] d1 w'/\b7=decide (o.k=7\/o.k=8)) U ?_ ?_;refine sr<|eq' U<|asg U<|nn<|cd U (λc7=>?_)<|λc7=>?_;exact sk<|jE (_) U ⟨(l12 _ _),t59⟩;exact rg<|eq' U<|asg U<|nl<|jE (_) U ⟨(l12 _ _),t59⟩;rintro b7 g8 ⟨a4,rfl⟩;have i0:=a4.size;refine kpC (ll3 1 4 58) U<|cd U (λc8=>?_)<|λc8=>?_;refine rg<|mv U<|fad U z5w ?_;have I:=I.ext<|a2.n1 a4;refine z1u (vs:=[_,_]) U I z5k U ?_;have hG:=hG.ext<|q4.n2 a2 a4;refine cl (ev1 U) cO (x1o _ _ _ hG) ?_;rintro _ g9 ⟨rfl,b0⟩;have i1:=b0.size;refine z1i ([u3t o.b o.p]) (ev1 U) U y5a<|λf2 h0 e8 b6 b9 i2=>?_;have D:=D.ext<|a2.n3 a4 b0 b9;refine z2l (base:=w0.heap.size) U D b6.sl y5a (λg0 h1 a1 a8 e0=>?_) (hM:=t58) (hb:=se);replace a8:Fr [O] _ _:=a8;have i3:=a8.size;exact asg U<|kpL (ll1 4) U<|nl<|bn'<|jE (_) U ⟨((l12 [O] _).z5 a2 a4 b0 b9 a8),by first|(rw[y5n,if_neg c1,if_neg c2,if_neg c3,if_neg c6,if_pos c8];exact a1)|(exfalso;omega)⟩;exact sk<|bn'<|jE (_) U ⟨((l12 [O] _).n2 a2 a4),by first|(rw[y5n,if_neg c1,if_neg c2,if_neg c3,if_neg c6,if_neg c8];exact a1)|(exfalso;omega)⟩;rintro v4 h2 ⟨c9,a1⟩;have i4:=c9.size;refine kpC (ll1 4) U<|sr<|mv U<|cl (ev2 U) cO (u8k _ _ _ _ _ _ a1 sp0 (by have:=u9o o<|l15.1 c0;omega) (by have:=k6l o;simp;omega)) ?_;rintro _ h3 ⟨rfl,d0⟩;have i5:=d0.size;exact asg U<|nn<|rt<|r1 U ⟨_,rfl,by rw[k6d,if_neg c0],(q1.z5 q2 q3 q4 c9 d0)⟩
theorem y5c:ElemOf prog 22 5 Enc.b 1:=ElemOf.mk' (z:=(.int .u8 0)) underlying22 kr U
theorem k9m:z1s prog 46 1:=λ_=>kr
theorem x4p (l:List UInt8)(w0:World)(hG:Glob w0)(hl:l.length<=1000000):Rets prog 179 #[S l] w0 λv w'=>∃e,v=.tuple #[.agg #[.int .u8 (x8e l).1,.int .i64 (x8e l).2],e]/\Fr [] w0 w':=by
 have b7:=hG.sz;refine wf func179 U<|sr<|al x4f U<|λg2 w1 b9 I q1 z1=>(asg U<|nn<|sq<|sq<|rbo (r:=14) (L':=ll2 0 2) ((((l.length:Int)<2)\/(3<(l.length:Int)))) U ?_ ?_);refine mv U<|ln U underlying9 U<|lt' U<|mv U<|gs 10 U (λg0=>?_)<|λg0=>?_;exact gN U<|gN U<|gN U<|pkt U<|rbe U<|U;exact gY U<|mv U<|gY U<|ln U underlying9 U<|gY U<|gt' U<|pkf U<|rbe U<|U;refine tn<|cd U (λc0=>?_)<|λc0=>?_;refine sr<|z1r (cs:=[_,_]) z0f y8v z0r U<|z0j U I y2m (λw2 I q2 z2=>?_) (hl:=rfl);exact asg U<|nn<|rt<|tr<|rCT U U I z5k U ⟨_,rfl,_,by rw[show x8e l=(0,0) from by rw[x8e,if_pos c0]],(q1.z1 q2)⟩;refine sk<|tn<|sr<|z1r (cs:=[_,_]) z0f y8v z0r U<|al x4f U<|λg4 w3 c9 D q3 z3=>?_;refine z0j U D y2m (λw4 D q4 z4=>?_) (hl:=rfl);refine nn<|jn (ι:=Int) (ll3 0 2 4) (λb=>[]) (λb w'=>Fr [g4] w4 w'/\k1t l=some b/\(b=0\/b=1)/\Blk w' g4 48 [.int .u8 b,.int .i64 0]) U ?_ ?_;refine sr<|mv U<|u2v (p:=0) U U underlying9 oo oo U U<|λb4=>(nn<|bl<|sr<|eq' U<|asg U<|nn<|cd U (λc1=>?_)<|λc1=>?_);refine rg<|fad U z7e<|z3r U D U k9m<|λw5 D q5 z5=>?_;replace D:Blk w5 g4 _ [_,_]:=D;exact nl<|bn'<|jE (_) U ⟨((l12 [g4] _).z1 q5),⟨by rw[k1t,if_pos c1],oo,D⟩⟩;skip;refine sr<|eq' U<|asg U<|nn<|cd U (λc2=>?_)<|λc2=>?_;refine rg<|fad U z7e<|z3r U D U k9m<|λw6 D q6 z6=>?_;replace D:Blk w6 g4 _ [_,_]:=D;exact nl<|bn'<|jE (_) U ⟨((l12 [g4] _).z1 q6),⟨by rw[k1t,if_neg c1,if_pos c2],oo,D⟩⟩;refine sr<|z1r (cs:=[_,_]) z0f y8v z0r U ?_;have I:=(I.ext q3).fr q4;refine z0j U I y2m (λw7 I q7 z7=>?_) (hl:=rfl);exact asg U<|nn<|rt<|rb<|tr<|rCT U U I z5k U ⟨_,rfl,_,by rw[show x8e l=(0,0) from by rw[x8e,if_neg c0,show k1t l=none from by rw[k1t,if_neg c1,if_neg c2]]],(q1.z3 q3 q4 q7)⟩;rintro b w8 ⟨q8,⟨a3,b2,D⟩⟩;have a2:=D.lt;refine kpC (ll3 0 2 4) U ?_;have b8:(l.drop 1).length=l.length-1:=l39;refine sq<|sr<|mv U<|k3k (p:=1) U U underlying9 oo oo U U<|q1i U underlying9 underlying22 underlying5 (by unfold maxLen;simp;omega) U<|λb6 b5 w9 b3 a0 q9 z9=>?_;refine lnS U<|mv U<|nn<|bl ?_;have D:=D.ext q9;refine lpK (ι:=Nat) (ll5 0 2 4 28 29) (λi=>[(30,.int .i64 (i:Int))]) (λi w'=>Fr [g4] w9 w'/\i<=(l.drop 1).length/\((l.drop 1).take i).all u5e=true/\Blk w' g4 48 [.int .u8 b,.int .i64 (y8t<|(l.drop 1).take i)]) (λi=>(l.drop 1).length-i) 0 U ⟨l12 _ _,⟨oo,rfl,D⟩⟩ ?_;rintro i d1 ⟨Z,⟨hi,O,D⟩⟩;have a2:=D.lt;refine kpC (ll6 0 2 4 28 29 30) U<|sr<|lt' U<|nn<|sq<|cd U (λc3=>?_)<|λc3=>?_;have d0:=v2r<|(l.drop 1).getD i 0;refine sk<|tn<|sq<|bl<|sr ?_;have a0:=a0.fr Z t28;refine z1a (p:=i) (0) U a0 U y5c oo<|λb1 a4=>(z1c U (a4 _ a0) na5<|asg U<|nn<|sq<|sq<|rbo (r:=39) (L':=ll7 0 2 4 6 28 29 30) ((((((l.drop 1).getD i 0).toNat:Int)<48)\/(57<(((l.drop 1).getD i 0).toNat:Int)))) U ?_ ?_);refine mv U<|lt' U<|mv U<|gs 36 U (λg1=>?_)<|λg1=>?_;exact gN U<|gN U<|pkt U<|rbe U<|U;exact gY U<|mv U<|gY U<|gt' U<|pkf U<|rbe U<|U;refine tn<|cd U (λc4=>?_)<|λc4=>?_;refine sr<|z1r (cs:=[_,_]) z0f y8v z0r U ?_;have I:=((((I.ext q3).fr q4).fr q8).ext q9).fr Z;refine z0j U I y2m (λd3 I a6 d7=>?_) (hl:=rfl);exact asg U<|kpL (ll2 2 3) U<|nn<|rt<|tr<|rb<|tr<|tr<|rb<|tr<|rCT U U I z5k U ⟨_,rfl,_,by rw[show x8e l=(0,0) from by rw[x8e,if_neg c0,a3];simp only;rw[if_pos (j8o _ i oo oo)]],(q1.z6 q3 q4 q8 q9 Z a6)⟩;have a5:=x5j O so;refine sk<|tn<|rg<|fad U z7d<|z0i U D U na3<|x2e U U (wi6 oo)<|mv U<|z2i U (wi8 oo)<|z4c U (us underlying5) underlying3 (wi6 oo)<|ad6 U<|fad U z7d<|z3r U D U sz3<|λb0 D a7 d9=>?_;replace D:Blk b0 g4 _ [_,_]:=D;exact kpL (ll6 0 2 4 28 29 30) U<|nl<|bn'<|tn<|rg<|ad6 U<|mv U<|nl<|lpE (i+1) U ⟨((l12 [g4] _).z2 Z a7),⟨oo,u7m _ _ oo O oo,by rw[v5l _ _ oo];exact D⟩⟩ oo;obtain rfl:i=(l.drop 1).length:=by omega
 rw[l40]at O D;have a5:=x5j O oo;refine ex<|te<|te<|xh<|tn<|sq<|sr<|z0l U D z5k ?_;have hG:=((((hG.ext<|q1.n1 q3).fr q4 (by first|exact z9x hG oo|simp[z0v]<;>omega)).fr q8 (by first|exact z9x hG oo|simp[z0v]<;>omega)).ext q9).fr Z (by first|exact z9x hG oo|simp[z0v]<;>omega);refine cl (ev1 U) cO (x1o _ _ _ hG) ?_;rintro _ d4 ⟨rfl,a1⟩;refine mv U<|k4n U U U<|kpL (ll3 2 4 53) U<|nn<|cd U (λc5=>?_)<|λc5=>?_;refine sr<|z1r (cs:=[_,_]) z0f y8v z0r U ?_;have I:=(((((I.ext q3).fr q4).fr q8).ext q9).fr Z).ext a1;refine z0j U I y2m (λd5 I a8 e0=>?_) (hl:=rfl);exact asg U<|nn<|rt<|tr<|rCT U U I z5k U ⟨_,rfl,_,by rw[show x8e l=(0,0) from by rw[x8e,if_neg c0,a3];simp only;rw[if_neg (by rw[O];exact λe=>Bool.noConfusion e),if_pos c5]],((q1.z6 q3 q4 q8 q9 Z a1).z1 a8)⟩;refine sk<|tn<|sr ?_;have D:=D.ext a1;refine z0l U D z5k ?_;have I:=(((((I.ext q3).fr q4).fr q8).ext q9).fr Z).ext a1;refine z0j U I y2m (λd6 I a9 e3=>?_) (hl:=rfl);exact asg U<|nn<|rt<|rCT U U I z5k U ⟨_,rfl,_,by rw[show x8e l=(b,y8t<|l.drop 1) from by rw[x8e,if_neg c0,a3];simp only;rw[if_neg (by rw[O];exact λe=>Bool.noConfusion e),if_neg c5]],((q1.z6 q3 q4 q8 q9 Z a1).z1 a9)⟩
theorem k9r:z4f prog 257 9:=⟨λ_=>kr,λ_=>kr⟩
theorem x8f:BuildAt prog 50 [(0,1),(1,1),(2,2),(4,1),(5,1)] [(.int .u8 0),(.int .u8 0),(.int .u8 0),(.int .i64 0),(.int .u8 0),(.int .i64 0)]:=BuildAt.struct underlying50 (λ_=>kr)<|λ_=>kr
theorem sz5:z1s prog 5 1:=λ_=>kr
theorem sz44:z1s prog 44 1:=λ_=>kr
theorem fld0 (f:F4)(w:World):(Instr.field 232 (.agg (f4L f).toArray) 0).run prog w=.ok (.bool f.1) w:=kr
theorem fld1 (f:F4)(w:World):(Instr.field 232 (.agg (f4L f).toArray) 1).run prog w=.ok (.bool f.2.1) w:=kr
theorem u9s (v:Value)(ws:List (List UInt8))(w0:World)(hG:Glob w0)(hs:Sl Enc.str w0 v ws)(f2:1<=ws.length)(b1:∀i,(ws.getD i []).length<=1000000):Rets prog 130 #[v] w0 λr w'=>r=opV (z5b ws)/\Fr [] w0 w':=by
 obtain⟨A,c,rfl,hc,hM,hA⟩:=id hs;clear hA;have a0:=hs.blk (by intro e;simp[e]at f2);have h6:=hG.sz;refine wf func130 U<|sr<|al u5d U<|λg2 w1 h7 Z q1 z1=>?_;refine nn<|sr<|z1r (cs:=[_,_,_,_,_,_]) z0f x8f z0r U<|al u5d U<|λg3 w2 h8 I q2 z2=>?_;refine z0j U I v5u (λw3 I q3 z3=>?_) (hl:=rfl);refine nn<|sq<|sr ?_;have hG:=(hG.ext<|q1.n1 q2).fr q3 (by first|exact z9x hG oo|simp[z0v]<;>omega);refine z1q U hG.wd k9r<|mv U<|nn<|bl<|lpK (ι:=Nat) (ll4 0 2 3 7) (λi=>[(8,.int .i64 (i:Int))]) (λi w'=>Fr [g3] w3 w'/\i<=9/\Blk w' g3 50 [.int .u8 (y6v (ws.getD 0 []) i),.int .u8 0,.int .u8 0,.int .i64 0,.int .u8 0,.int .i64 0]) (λi=>9-i) 0 U ⟨l12 _ _,⟨oo,I⟩⟩ ?_;rintro i w4 ⟨q4,⟨hi,I⟩⟩;have b6:=I.lt;refine kpC (ll5 0 2 3 7 8) U<|sr<|lt' U<|nn<|sq<|cd U (λc0=>?_)<|λc0=>?_;refine sk<|tn<|sq<|bl<|sr<|mv U<|j3s U U underlying257 sz9 na9 (u9h oo) U<|asg U<|asg U<|nn<|sr<|mv U<|mv U ?_;have hs:=((hs.ext<|q1.n1 q2).fr q3 (by intro k hk hb;simp at hk;subst hk;have:=a0 _ hb;omega)).fr q4 (by intro k hk hb;simp at hk;subst hk;have:=a0 _ hb;omega);refine z1a (p:=0) ([]) U hs U y5a U<|λg8 c9=>(z1c U (c9 _ hs) na9<|k3x U U U<|nn<|cd U (λc1=>?_)<|λc1=>?_);refine rg<|mv U<|z4c U (us underlying3) underlying44 (wi8 oo)<|fad U z8s<|z3r U I U sz44<|λw5 I q5 z5=>?_;replace I:Blk w5 g3 _ [_,_,_,_,_,_]:=I;exact nl<|bn'<|tn<|rg<|ad6 U<|mv U<|nl<|lpE (i+1) U ⟨((l12 [g3] _).z2 q4 q5),⟨oo,by first|(rw[y6v,if_pos c1];exact I)|(rw[y6v,if_neg c1];exact I)⟩⟩ oo;exact sk<|bn'<|tn<|rg<|ad6 U<|mv U<|nl<|lpE (i+1) U ⟨((l12 [g3] _).z1 q4),⟨oo,by first|(rw[y6v,if_pos c1];exact I)|(rw[y6v,if_neg c1];exact I)⟩⟩ oo;obtain rfl:i=9:=by omega
 have h9:=x4x (ws.getD 0 []) 9;replace I:Blk w4 g3 50 [.int .u8 (x0y<|ws.getD 0 []),.int .u8 0,.int .u8 0,.int .i64 0,.int .u8 0,.int .i64 0]:=I;refine ex<|te<|te<|xh<|tn<|jn (ι:=Unit) (ll2 2 3) (λ_j=>[]) (λ_j w'=>Fr [g3] w4 w'/\Blk w' g3 50 [.int .u8 (z5b ws).k,.int .u8 (z5b ws).d,.int .u8 (z5b ws).b,.int .i64 (z5b ws).p,.int .u8 (z5b ws).y,.int .i64 (z5b ws).r]) U ?_ ?_;refine bl<|sq<|rbo (r:=21) (L':=ll3 0 2 3) ((((x0y<|ws.getD 0 [])=1)/\((ws.length:Int)=3))) U ?_ ?_;refine fad U z8s<|z0i U I U v7d<|eq' U<|mv U<|gs 25 U (λg0=>?_)<|λg0=>?_;exact gY U<|mv U<|gY U<|lnS U<|gY U<|eq' U<|pkt U<|asg U<|rbe U<|U;exact gN U<|gN U<|gN U<|pkf U<|asg U<|rbe U<|U;refine tn<|cd U (λc2=>?_)<|λc2=>?_;have hG:=hG.fr q4 (by first|exact z9x hG oo|simp[z0v]<;>omega);have hs:=((hs.ext<|q1.n1 q2).fr q3 (by intro k hk hb;simp at hk;subst hk;have:=a0 _ hb;omega)).fr q4 (by intro k hk hb;simp at hk;subst hk;have:=a0 _ hb;omega);have Z:=((Z.ext q2).fr q3).fr q4;intro a h;have a8:=l12 [g3] w4;refine z3d (Fr [g3]) z2s ?_;intro w6 O;have hG:=hG.ext O;have hs:=hs.ext O;have Z:=Z.ext O;have I:=I.ext O;have a8:=a8.next O;have b9:=O.size;clear O;have hC:Fr [g3] w6 w6:=l12 _ _;have a6:=hG;have a2:=hs;have a3:=Z;have a1:=I;refine z0e 0 h U λa h=>z1d (p:=1) ([]) 1 h U hs U y5a U ?_ (hp:=rfl);intro g9 d0 a h;refine z2h 2 h U (λ_ hw=>d0 _<|a2.fr hw (by intro k hk hb;simp at hk;subst hk;have:=a0 _ hb;omega)) na9 U λa h=>z0e 5 h U λa h=>z1d (p:=2) ([]) 6 h U hs U y5a U ?_ (hp:=rfl);intro h0 d1 a h;refine z2h 7 h U (λ_ hw=>d1 _<|a2.fr hw (by intro k hk hb;simp at hk;subst hk;have:=a0 _ hb;omega)) na9 U λa h=>z0d 3 U<|z0n h (z0a U z0f) cO (y3l _ _ hG<|b1 _) ?_;rintro _ w7 ⟨rfl,O⟩ a h;have hG:=hG.ext O;have hs:=hs.ext O;have Z:=Z.ext O;have I:=I.ext O;have a8:=a8.next O;have hC:=hC.next O;clear O;refine z0b<|x2r 4 hC h wn U (by rw[underlying3];rfl) underlying5 t23 U U λa h=>z0c 9 h U z4t U λa h=>z0d 8 U<|z0n h (z0a U z0f) cO (j3a _ _ hG) ?_;rintro _ w8 ⟨rfl,O⟩ a h;have hG:=hG.ext O;have hs:=hs.ext O;have Z:=Z.ext O;have I:=I.ext O;have a8:=a8.next O;have hC:=hC.next O;clear O;refine z0b<|z0d 10 U<|z8p h U U I U U U sz5 λw9 a7 O hz a h=>?_;have hG:=hG.fr O t28;have hs:=hs.fr O (by intro k hk hb;simp at hk;subst hk;have:=a0 _ hb;omega);have Z:=Z.fr O;have a8:=a8.sp O;have hC:=hC.sp O;clear I O hz;have I:Blk w9 g3 _ [_,_,_,_,_,_]:=a7;clear a7;refine z0b<|z0c 11 h U z9o U λa h=>z0d 12 U<|z8p h U U I U U U q0t λf7 a7 O hz a h=>?_;have hG:=hG.fr O t28;have hs:=hs.fr O (by intro k hk hb;simp at hk;subst hk;have:=a0 _ hb;omega);have Z:=Z.fr O;have a8:=a8.sp O;have hC:=hC.sp O;clear I O hz;have I:Blk f7 g3 _ [_,_,_,_,_,_]:=a7;clear a7;refine z0b<|z0q ?_;clear hC a6 a2 a3 a1;exact xB (ll2 2 3) h U<|bn'<|jE (()) U ⟨((l12 [g3] _).z1 a8),by rw[z5b,y7y,if_pos c2];exact I⟩;refine sq<|rbo (r:=41) (L':=ll3 0 2 3) ((((x0y<|ws.getD 0 [])=2)/\((ws.length:Int)=2))) U ?_ ?_;refine fad U z8s<|z0i U I U v7d<|eq' U<|mv U<|gs 45 U (λg1=>?_)<|λg1=>?_;exact gY U<|mv U<|gY U<|lnS U<|gY U<|eq' U<|pkt U<|asg U<|rbe U<|U;exact gN U<|gN U<|gN U<|pkf U<|asg U<|rbe U<|U;refine tn<|cd U (λc3=>?_)<|λc3=>?_;refine rg<|mv U ?_;have hs:=((hs.ext<|q1.n1 q2).fr q3 (by intro k hk hb;simp at hk;subst hk;have:=a0 _ hb;omega)).fr q4 (by intro k hk hb;simp at hk;subst hk;have:=a0 _ hb;omega);refine z1a (p:=1) ([]) U hs U y5a U<|λh1 d3=>(z1c U (d3 _ hs) na9 ?_);have hG:=hG.fr q4 (by first|exact z9x hG oo|simp[z0v]<;>omega);refine cl (ev1 U) cO (y3l _ _ hG<|b1 _) ?_;rintro _ i0 ⟨rfl,e3⟩;refine z4c U (us underlying3) underlying5 (IntKind.wrap_u8 _)<|fad U z4t ?_;have I:=I.ext e3;refine z3r U I U sz5<|λf8 I f3 j3=>?_;replace I:Blk f8 g3 _ [_,_,_,_,_,_]:=I;exact kpL (ll2 2 3) U<|nl<|bn'<|jE (()) U ⟨((l12 [g3] _).z2 e3 f3),by rw[z5b,y7y,if_neg c2,if_pos c3];exact I⟩;refine sq<|rbo (r:=56) (L':=ll3 0 2 3) ((((x0y<|ws.getD 0 [])=3)/\((ws.length:Int)=2))) U ?_ ?_;refine fad U z8s<|z0i U I U v7d<|eq' U<|mv U<|gs 60 U (λg2=>?_)<|λg2=>?_;exact gY U<|mv U<|gY U<|lnS U<|gY U<|eq' U<|pkt U<|asg U<|rbe U<|U;exact gN U<|gN U<|gN U<|pkf U<|asg U<|rbe U<|U;refine tn<|cd U (λc4=>?_)<|λc4=>?_;refine rg<|mv U ?_;have hs:=((hs.ext<|q1.n1 q2).fr q3 (by intro k hk hb;simp at hk;subst hk;have:=a0 _ hb;omega)).fr q4 (by intro k hk hb;simp at hk;subst hk;have:=a0 _ hb;omega);refine z1a (p:=1) ([]) U hs U y5a U<|λh2 d4=>(z1c U (d4 _ hs) na9 ?_);have hG:=hG.fr q4 (by first|exact z9x hG oo|simp[z0v]<;>omega);refine cl (ev1 U) cO (y3l _ _ hG<|b1 _) ?_;rintro _ i1 ⟨rfl,e4⟩;refine fad U y4y ?_;have I:=I.ext e4;refine z3r U I U sz3<|λf9 I f4 j4=>?_;replace I:Blk f9 g3 _ [_,_,_,_,_,_]:=I;exact kpL (ll2 2 3) U<|nl<|bn'<|jE (()) U ⟨((l12 [g3] _).z2 e4 f4),by rw[z5b,y7y,if_neg c2,if_neg c3,if_pos c4];exact I⟩;refine jn (ι:=Bool) (ll3 0 2 3) (λb5=>[(70,.bool b5)]) (λb5 w'=>Fr [] w4 w'/\b5=decide (fD (x0y<|ws.getD 0 [])=true/\(ws.length:Int)=4)) U ?_ ?_;have hG:=hG.fr q4 (by first|exact z9x hG oo|simp[z0v]<;>omega);have hs:=((hs.ext<|q1.n1 q2).fr q3 (by intro k hk hb;simp at hk;subst hk;have:=a0 _ hb;omega)).fr q4 (by intro k hk hb;simp at hk;subst hk;have:=a0 _ hb;omega);have Z:=((Z.ext q2).fr q3).fr q4;intro a h;have a9:=l12 [] w4;refine z3d (Fr []) z2s ?_;intro e7 O;have hG:=hG.ext O;have hs:=hs.ext O;have Z:=Z.ext O;have I:=I.ext O;have a9:=a9.next O;have b9:=O.size;clear O;have hC:Fr [] e7 e7:=l12 _ _;have a6:=hG;have a2:=hs;have a3:=Z;have a1:=I;refine z0c 1 h U z8s U λa h=>z0m 2 h U (fx a1.ext) U v7d U λa h=>z0d 0 U<|z0n h z0f cO (x1f _) ?_;rintro _ i2 ⟨gm,rfl,d9,e0,hm,O⟩ a h;have hG:=hG.ext O;have hs:=hs.ext O;have Z:=Z.ext O;have I:=I.ext O;have a9:=a9.next O;have hC:=hC.next O;clear O;refine z0b<|z0d 3 U<|y2p (V:=kV) (k:=(x0y<|ws.getD 0 [])) h U U hm y8w underlying234 x6j (z8r _) U λa h=>?_;refine z0b<|z0d 4 U<|v3g h U (λw=>fld0 _ w) U λa h=>?_;refine z0b<|z0e 5 h U λa h=>?_;refine gSp (D:=76) h U ?_ ?_;intro g3 h;refine z0e 6 h U ?_ (hG:=(wy U));intro a h;refine z8b 7 hC h (wy U) U underlying89 U λa h=>x5z 8 hC h (wy U) U λa h=>z0d 9 U<|z4z h U λa h=>?_;refine z0b<|z0d 10 U<|z0o h U λa h=>?_;refine z0b<|z0q ?_;clear hC a6 a2 a3 a1;exact xB (ll4 0 2 3 70) h U<|jE (_) U ⟨a9,by simp_all [fD]⟩;intro g3 h;refine z1n 6 h U U λa h=>z1n 7 h U U λa h=>z1n 8 h U U λa h=>z0d 9 U<|z2x h U λa h=>?_;refine z0b<|z0d 10 U<|z0o h U λa h=>?_;refine z0b<|z0q ?_;clear hC a6 a2 a3 a1;exact xB (ll4 0 2 3 70) h U<|jE (_) U ⟨a9,by simp_all [fD]⟩;rintro b5 e8 ⟨a5,rfl⟩;refine kpC (ll4 0 2 3 70) U<|cd U (λc5=>?_)<|λc5=>?_;refine sr<|mv U ?_;have hs:=(((hs.ext<|q1.n1 q2).fr q3 (by intro k hk hb;simp at hk;subst hk;have:=a0 _ hb;omega)).fr q4 (by intro k hk hb;simp at hk;subst hk;have:=a0 _ hb;omega)).ext a5;refine z1a (p:=2) ([]) U hs U y5a U<|λh3 d5=>(z1c U (d5 _ hs) na9 ?_);have hG:=(hG.fr q4 (by first|exact z9x hG oo|simp[z0v]<;>omega)).ext a5;refine cl (ev1 U) cO (x4p _ _ hG<|b1 _) ?_;rintro _ i3 ⟨e,rfl,b3⟩;refine mv U<|xt U<|xt U<|fad U z5w ?_;have I:=I.ext<|a5.n1 b3;refine z5o (cs':=[_,_,_,_,_,_]) U U I (by first|(simp[Value.oneCell',S];done)|exact Enc.one _ _) y2m U<|λg5 I b7 j5=>?_;refine kpL (ll3 0 2 3) U<|nn ?_;have hG:=(hG.ext b3).fr b7 (by first|exact z9x hG oo|simp[z0v]<;>omega);have hs:=(hs.ext b3).fr b7 (by intro k hk hb;simp at hk;subst hk;have:=a0 _ hb;omega);have Z:=((((Z.ext q2).fr q3).fr q4).ext<|a5.n1 b3).fr b7;intro a h;have a4:=l12 [g3] g5;refine z3d (Fr [g3]) z2s ?_;intro e9 O;have hG:=hG.ext O;have hs:=hs.ext O;have Z:=Z.ext O;have I:=I.ext O;have a4:=a4.next O;have b9:=O.size;clear O;have hC:Fr [g3] e9 e9:=l12 _ _;have a6:=hG;have a2:=hs;have a3:=Z;have a1:=I;refine z0e 0 h U λa h=>z1d (p:=1) ([]) 1 h U hs U y5a U ?_ (hp:=rfl);intro h4 d6 a h;refine z2h 2 h U (λ_ hw=>d6 _<|a2.fr hw (by intro k hk hb;simp at hk;subst hk;have:=a0 _ hb;omega)) na9 U λa h=>z0e 4 h U λa h=>z1d (p:=3) ([]) 5 h U hs U y5a U ?_ (hp:=rfl);intro h5 d7 a h;refine z2h 6 h U (λ_ hw=>d7 _<|a2.fr hw (by intro k hk hb;simp at hk;subst hk;have:=a0 _ hb;omega)) na9 U λa h=>z0d 3 U<|z0n h (z0a U z0f) cO (j3a _ _ hG) ?_;rintro _ i4 ⟨rfl,O⟩ a h;have hG:=hG.ext O;have hs:=hs.ext O;have Z:=Z.ext O;have I:=I.ext O;have a4:=a4.next O;have hC:=hC.next O;clear O;refine z0b<|z0c 9 h U z9o U λa h=>z0d 7 U<|z0n h (z0a U z0f) cO (y3l _ _ hG<|b1 _) ?_;rintro _ i5 ⟨rfl,O⟩ a h;have hG:=hG.ext O;have hs:=hs.ext O;have Z:=Z.ext O;have I:=I.ext O;have a4:=a4.next O;have hC:=hC.next O;clear O;refine z0b<|x2r 8 hC h wn U (by rw[underlying3];rfl) underlying5 t23 U U λa h=>z0d 10 U<|z8p h U U I U U U q0t λg6 a7 O hz a h=>?_;have hG:=hG.fr O t28;have hs:=hs.fr O (by intro k hk hb;simp at hk;subst hk;have:=a0 _ hb;omega);have Z:=Z.fr O;have a4:=a4.sp O;have hC:=hC.sp O;clear I O hz;have I:Blk g6 g3 _ [_,_,_,_,_,_]:=a7;clear a7;refine z0b<|z0c 11 h U z4t U λa h=>z0d 12 U<|z8p h U U I U U U sz5 λg7 a7 O hz a h=>?_;have hG:=hG.fr O t28;have hs:=hs.fr O (by intro k hk hb;simp at hk;subst hk;have:=a0 _ hb;omega);have Z:=Z.fr O;have a4:=a4.sp O;have hC:=hC.sp O;clear I O hz;have I:Blk g7 g3 _ [_,_,_,_,_,_]:=a7;clear a7;refine z0b<|z0q ?_;clear hC a6 a2 a3 a1;exact xB (ll2 2 3) h U<|bn'<|jE (()) U ⟨((l12 [g3] _).z4 a5 b3 b7 a4),by rw[z5b,y7y,if_neg c2,if_neg c3,if_neg c4,if_pos c5];exact I⟩;refine jn (ι:=Bool) (ll3 0 2 3) (λb4=>[(100,.bool b4)]) (λb4 w'=>Fr [] e8 w'/\b4=decide (fN (x0y<|ws.getD 0 [])=true/\(ws.length:Int)=2)) U ?_ ?_;have hG:=(hG.fr q4 (by first|exact z9x hG oo|simp[z0v]<;>omega)).ext a5;have hs:=(((hs.ext<|q1.n1 q2).fr q3 (by intro k hk hb;simp at hk;subst hk;have:=a0 _ hb;omega)).fr q4 (by intro k hk hb;simp at hk;subst hk;have:=a0 _ hb;omega)).ext a5;have Z:=(((Z.ext q2).fr q3).fr q4).ext a5;have I:=I.ext a5;intro a h;have b0:=l12 [] e8;refine z3d (Fr []) z2s ?_;intro f0 O;have hG:=hG.ext O;have hs:=hs.ext O;have Z:=Z.ext O;have I:=I.ext O;have b0:=b0.next O;have b9:=O.size;clear O;have hC:Fr [] f0 f0:=l12 _ _;have a6:=hG;have a2:=hs;have a3:=Z;have a1:=I;refine z0c 1 h U z8s U λa h=>z0m 2 h U (fx a1.ext) U v7d U λa h=>z0d 0 U<|z0n h z0f cO (x1f _) ?_;rintro _ i7 ⟨gm,rfl,d9,e0,hm,O⟩ a h;have hG:=hG.ext O;have hs:=hs.ext O;have Z:=Z.ext O;have I:=I.ext O;have b0:=b0.next O;have hC:=hC.next O;clear O;refine z0b<|z0d 3 U<|y2p (V:=kV) (k:=(x0y<|ws.getD 0 [])) h U U hm y8w underlying234 x6j (z8r _) U λa h=>?_;refine z0b<|z0d 4 U<|v3g h U (λw=>fld1 _ w) U λa h=>?_;refine z0b<|z0e 5 h U λa h=>?_;refine gSp (D:=106) h U ?_ ?_;intro g4 h;refine z0e 6 h U ?_ (hG:=(wy U));intro a h;refine z8b 7 hC h (wy U) U underlying89 U λa h=>x5z 8 hC h (wy U) U λa h=>z0d 9 U<|z4z h U λa h=>?_;refine z0b<|z0d 10 U<|z0o h U λa h=>?_;refine z0b<|z0q ?_;clear hC a6 a2 a3 a1;exact xB (ll4 0 2 3 100) h U<|jE (_) U ⟨b0,by simp_all [fN]⟩;intro g4 h;refine z1n 6 h U U λa h=>z1n 7 h U U λa h=>z1n 8 h U U λa h=>z0d 9 U<|z2x h U λa h=>?_;refine z0b<|z0d 10 U<|z0o h U λa h=>?_;refine z0b<|z0q ?_;clear hC a6 a2 a3 a1;exact xB (ll4 0 2 3 100) h U<|jE (_) U ⟨b0,by simp_all [fN]⟩;rintro b4 i8 ⟨b2,rfl⟩;refine kpC (ll4 0 2 3 100) U<|cd U (λc6=>?_)<|λc6=>?_;refine rg<|mv U ?_;have hs:=(((hs.ext<|q1.n1 q2).fr q3 (by intro k hk hb;simp at hk;subst hk;have:=a0 _ hb;omega)).fr q4 (by intro k hk hb;simp at hk;subst hk;have:=a0 _ hb;omega)).ext<|a5.n1 b2;refine z1a (p:=1) ([]) U hs U y5a U<|λf1 b8=>(z1c U (b8 _ hs) na9 ?_);have hG:=(hG.fr q4 (by first|exact z9x hG oo|simp[z0v]<;>omega)).ext<|a5.n1 b2;refine cl (ev1 U) cO (x4p _ _ hG<|b1 _) ?_;rintro _ i9 ⟨e,rfl,e5⟩;refine mv U<|xt U<|xt U<|fad U z5w ?_;have I:=I.ext<|a5.n2 b2 e5;refine z5o (cs':=[_,_,_,_,_,_]) U U I (by first|(simp[Value.oneCell',S];done)|exact Enc.one _ _) y2m U<|λj0 I f5 j6=>?_;exact kpL (ll2 2 3) U<|nl<|bn'<|jE (()) U ⟨((l12 [g3] _).z4 a5 b2 e5 f5),by rw[z5b,y7y,if_neg c2,if_neg c3,if_neg c4,if_neg c5,if_pos c6];exact I⟩;refine sk<|bn' ?_;have I:=I.ext<|a5.n1 b2;exact jE (()) U ⟨((l12 [g3] _).n2 a5 b2),by rw[z5b,y7y,if_neg c2,if_neg c3,if_neg c4,if_neg c5,if_neg c6];exact I⟩;rintro _j j1 ⟨e6,I⟩;have b6:=I.lt;refine kpC (ll2 2 3) U<|sr<|z0l U I y3t ?_;have Z:=(((Z.ext q2).fr q3).fr q4).fr e6;refine z0j U Z v5u (λj2 Z f6 j7=>?_) (hl:=rfl);exact nn<|rt<|rC U U Z y3t  ⟨_,rfl,rfl,(q1.z5 q2 q3 q4 e6 f6)⟩
theorem j0h (l:List UInt8)(w0:World)(hG:Glob w0)(hl:l.length<=1000000):Rets prog 78 #[S l] w0 λr w'=>∃o e,x0p l=(o,e)/\r=.tuple #[opV o,.int .i64 e]/\Fr [] w0 w':=by
 have a2:=hG.sz;refine wf func78 U<|sr<|al u5d U<|λg2 w1 a3 D q1 z1=>(asg U<|nn<|sr<|mv U ?_);have hG:=hG.ext q1;refine cl (ev2 U) cO (u6n _ _ _ hG oo dd) ?_;rintro v6 w2 ⟨a0,O⟩;have z2:=O.size;have hG:=hG.ext O;refine cl (ev1 U) cO (u9s _ _ _ hG a0.sl (v8y _ _)<|λi=>l42 (u0z _ _ i) hl) ?_;rintro _ w3 ⟨rfl,Z⟩;have z3:=Z.size;refine al u5d U<|λg4 w4 a4 I q4 z4=>(z0j U I v5u (λw5 I q5 z5=>?_) (hl:=rfl));refine nn<|sq<|sq<|u0i (r:=16) (L':=ll2 2 4) ((((z8v<|z5b<|Lib.split l [32])≠0)\/((k6d<|z5b<|Lib.split l [32])≠l))) U ?_ ?_;refine z0l U I y3t<|cl (ev1 U) k5f (y3m (z5b<|Lib.split l [32]) _) ?_;rintro _ w6 ⟨rfl,q6⟩;have z6:=q6.size;refine ne' U<|mv U<|gs 11 U (λg0=>?_)<|λg0=>?_;exact gN U<|gN U<|gN U<|gN U<|pkt U<|y3v U U q6;refine gY U ?_;have I:=I.ext q6;refine z0l U I y3t<|gY U ?_;have hG:=((hG.ext<|Z.n1 q4).fr q5 (by first|exact z9x hG oo|simp[z0v]<;>omega)).ext q6;refine cl (ev1 U) cO (j6r (z5b<|Lib.split l [32]) _ hG) ?_;rintro _ w7 ⟨rfl,q7⟩;have z7:=q7.size;exact gY U<|mv U<|gY U<|k4n U U U<|pkf U<|y3v U U<|q6.n1 q7;intro w8 q8;have z8:=q8.size;refine tn<|cd U (λc0=>?_)<|λc0=>?_;refine sr<|z1r (cs:=[_,_,_,_,_,_]) z0f x8f z0r U ?_;have D:=((D.ext<|O.n2 Z q4).fr q5).ext q8;refine z0j U D v5u (λw9 D q9 z9=>?_) (hl:=rfl);exact asg U<|nn<|rt<|tr<|rCT U U D y3t U ⟨_,rfl,op0,4,by rw[x0p,if_pos c0],rfl,(q1.z6 O Z q4 q5 q8 q9)⟩;refine sk<|tn<|sr ?_;have I:=I.ext q8;refine z0l U I y3t ?_;have D:=((D.ext<|O.n2 Z q4).fr q5).ext q8;refine z0j U D v5u (λa5 D a1 a6=>?_) (hl:=rfl);exact asg U<|nn<|rt<|rCT U U D y3t U ⟨_,rfl,(z5b<|Lib.split l [32]),0,by rw[x0p,if_neg c0],rfl,(q1.z6 O Z q4 q5 q8 a1)⟩
end Go.Proofs.YtkafbfjmcigaiaaGreatDoor
namespace Go.G08
open Go.Lw Go.G21
theorem y7k:∀l:Bed,z1x (z1x l)=z1x l
 | []=>rfl
 | s::l=>by
  by_cases h:z1x l=[]/\s=[]
  ·rw[show z1x (s::l)=[] from if_pos h];rfl
  rw[show z1x (s::l)=s::z1x l from if_neg h]
  show (if z1x (z1x l)=[]/\s=[] then [] else s::z1x (z1x l))=_
  rw[y7k l,if_neg h]
def TrB (B:Bd):Prop:=z1x B.f=B.f/\z1x B.b=B.b
theorem x3y (B:Bd)(b n:Int)(s:List LId):TrB (B.put b n s):=by
 unfold Bd.put y9a TrB;split<;>exact⟨y7k _,y7k _⟩
theorem k5r {p q:MSt}{y pl en:Int}(e:z8x p y pl en=.ok q):q.B=p.B:=by
 unfold z8x at e;split at e;cases e;cases e;rfl
theorem u2p {p q:MSt}{o:MOp}{D st:List LId}(e:y1m p o D st=.ok q):TrB q.B:=by
 unfold y1m at e;split at e;cases e;split at e;cases e;cases e;exact x3y ..
theorem u2s {p q:MSt}{d:Int}(e:z3l p d=.ok q):q.B=p.B:=by
 unfold z3l at e;split at e;cases e;split at e;cases e;cases e;rfl
theorem x8y:∀ {n:Nat} {p q:MSt} {r:Int},z3p n p r=.ok q->q.B=p.B
 | 0,p,q,r,e=>by cases e;rfl
 | n+1,p,q,r,e=>by
  unfold z3p at e
  split at e
  ·cases e;rfl
  split at e
  ·cases e
  rename_i I D
  exact(x8y e).trans<|u2s D
theorem k5d {p q:MSt}{o:MOp}(h:TrB p.B)(e:doM p o=.ok q):TrB q.B:=by
 have s:∀ {x:MSt},x.B=p.B->TrB x.B:=λD=>by rw[D];exact h
 unfold doM at e;split at e;cases e;unfold opM at e;split at e;unfold inM at e;split at e;cases e;cases e;exact s U;split at e;unfold x7f at e;split at e;cases e;cases e;exact s U;split at e;exact s<|x8y e;split at e;unfold y0f at e;split at e;cases e;split at e;cases e;exact u2p e;split at e;unfold z9w at e;split at e;cases e;split at e;cases e;split at e;cases e;exact u2p e;split at e;unfold y1x at e;split at e;cases e;exact s<|k5r e;split at e;unfold z5v at e;repeat (split at e;· cases e)
 cases e;exact x3y ..;unfold y2l at e;split at e;cases e;cases e;exact x3y ..
theorem k5y {p q:MSt}{o:MOp}(h:MInv p)(e:doM p o=.ok q):q.cr.length<=p.cr.length+5120:=by
 unfold doM at e;split at e;cases e;exact u1c h.B e
def nrm (p:MSt):MSt:=⟨p.rk,p.B,p.ys,p.tb,y5l p.cr,y3s p.fa⟩
theorem z2v {p:MSt}(h:MVal p):MVal (nrm p):=by
 have I:=z4i p.cr;have D:=z4n p.fa;refine⟨⟨h.inv.rk,h.inv.B,h.inv.ly,h.inv.lt,h.inv.yn,h.inv.has,?_,h.inv.all,λc O=>h.inv.cv c<|I.mem_iff.1 O⟩,h.yv,h.tab,λi hi=>?_,λi hi=>h.fa i<|D.mem_iff.1 hi,⟨λc O=>h.cr.has c<|I.mem_iff.1 O,?_⟩⟩;show p.B.flat.length+(y3s p.fa).length<=_;rw[D.length_eq];exact h.inv.cnt;show (p.B.flat++y3s p.fa++y2f p.tb).count i=1;rw[<-h.once i hi];simp only[l21];rw[D.count_eq];exact(I.map λc=>(c.a,c.b)).nodup_iff.2 h.cr.nd
structure StP (s:StQ) (p:MSt) (n:Nat):Prop where
  e:s.p=stM p
  v:MVal p
  t:TrB p.B
  c:p.cr.length<=n*5120
theorem StP.mono {s:StQ}{p:MSt}{n m:Nat}(h:StP s p n)(D:n<=m):StP s p m:=⟨h.e,h.v,h.t,l42 h.c<|l49 _ D⟩
theorem v1m (p:MSt):(nrm p).cr.length=p.cr.length:=(z4i p.cr).length_eq
theorem StP.do {s s':StQ}{p q:MSt}{o:MOp}{n:Nat}(h:StP s p n)(e:doM (nrm p) o=.ok q)(D:s'.p=stM q):StP s' q (n+1):=
 ⟨D,v1l (z2v h.v) e,k5d (p:=nrm p) h.t e,by have:=k5y (z2v h.v).inv e;have:=h.c;rw[v1m] at *;rw[l97];omega⟩
theorem StP.rkE {s:StQ}{p:MSt}{n:Nat}(h:StP s p n):s.rk=p.rk:=congrArg St.rk h.e
theorem StP.BE {s:StQ}{p:MSt}{n:Nat}(h:StP s p n):s.q.p=p.B:=congrArg St.B h.e
theorem StP.ysE {s:StQ}{p:MSt}{n:Nat}(h:StP s p n):s.ys.map YQ.p=p.ys:=congrArg St.ys h.e
theorem StP.tbE {s:StQ}{p:MSt}{n:Nat}(h:StP s p n):z2o s.fb.ts=p.tb:=congrArg (λx=>x.fb.t) h.e
theorem StP.csE {s:StQ}{p:MSt}{n:Nat}(h:StP s p n):s.fb.cs=y5l p.cr:=congrArg (λx=>x.fb.c) h.e
theorem StP.hsE {s:StQ}{p:MSt}{n:Nat}(h:StP s p n):s.fb.hs=(z2m p.B p.rk).map Hd.id:=congrArg (λx=>x.fb.h) h.e
theorem StP.fsE {s:StQ}{p:MSt}{n:Nat}(h:StP s p n):s.fb.fs=y3s p.fa:=congrArg (λx=>x.fb.f) h.e
theorem StP.ly {s:StQ}{p:MSt}{n:Nat}(h:StP s p n):s.ys.length=6:=by
 have:=congrArg List.length h.ysE;rw[l18]at this;rw[this];exact h.v.inv.ly
theorem StP.lt {s:StQ}{p:MSt}{n:Nat}(h:StP s p n):s.fb.ts.length=6:=by
 have:=congrArg List.length h.tbE;rw[z2o,l18]at this;rw[this];exact h.v.inv.lt
theorem StP.yE {s:StQ}{p:MSt}{n:Nat}(h:StP s p n){i:Nat}(hi:i<6):(s.ys.getD i yq0).p=p.ys.getD i yn0:=by
 rw[<-h.ysE,List.getD,List.getD,l26,l10 (by rw[h.ly];exact hi)];rfl
theorem StP.hl {s:StQ}{p:MSt}{n:Nat}(h:StP s p n):s.fb.hs.length<=320:=by
 rw[h.hsE,l18,(z8t _ _).length_eq,z9k];exact x1x h.v.inv.B
theorem StP.fl {s:StQ}{p:MSt}{n:Nat}(h:StP s p n):s.fb.fs.length<=2048:=by
 rw[h.fsE,(z4n _).length_eq];have:=h.v.inv.cnt;have:=h.v.inv.all;omega
theorem x9l:∀(T:Tb) (y:Nat),z3k T y<=z4x T
 | [],y=>l16 _
 | r::T,0=>Nat.le_add_right _ _
 | r::T,y+1=>l42 (x9l T y)<|Nat.le_add_left _ _
theorem StP.cn {s:StQ}{p:MSt}{n:Nat}(h:StP s p n):(s.fb.cs.map cxK).Nodup:=by
 rw[h.csE];exact((z4i p.cr).map _).nodup_iff.2 h.v.cr.nd
def StK (Us:List Nat)(w:World)(s:StQ):Prop:=∀(S:List Nat) (w':World),Fr S w w'->(∀k∈S,k<w.heap.size->∃T cs,Blk w k T cs/\T∉Us)->StAt w' s
theorem StK.at {D:List Nat}{w:World}{s:StQ}(h:StK D w s):StAt w s:=h [] w (l12 _ _) λk I=>by cases I
theorem StK.fr {D:List Nat}{w w':World}{s:StQ}{S:List Nat}(h:StK D w s)(hf:Fr S w w')(O:∀k∈S,k<w.heap.size->∃T cs,Blk w k T cs/\T∉D):StK D w' s:=λS2 w2 I hd=>h (S++S2) w2 (hf.trans I) λk hk hl=>by
 by_cases hm:k∈S
 ·exact O k hm hl
 obtain⟨T,cs,hb,Z⟩:=hd k ((l23.1 hk).resolve_left hm)<|l99 hl hf.size
 exact⟨T,cs,(hf.block k hl hm).symm.trans hb,Z⟩
theorem StK.ext {D:List Nat}{w w':World}{s:StQ}(h:StK D w s)(hf:Fr [] w w'):StK D w' s:=h.fr hf λk I=>by cases I
theorem StO.fr {τ:TyK}{I base:Nat}{w w':World}{s:StQ}{S:List Nat}(h:StO τ I base w s)(hf:Fr S w w')(hd:∀k∈S,k<w.heap.size->∃T cs,Blk w k T cs/\T∉[τ.S,τ.I,τ.Y,τ.P,τ.T,τ.L,I]):StO τ I base w' s:=by
 have D:Fr (S.filter λk=>decide (k<w.heap.size)) w w':=hf.weak λk Z hl=>l105.2 ⟨Z,by simpa using hl⟩;have o:∀T',T'∈[τ.S,τ.I,τ.Y,τ.P,τ.T,τ.L,I]->OffT w T' (S.filter λk=>decide (k<w.heap.size)):=λT' O k Z=>by
  obtain⟨a0,a1⟩:=l105.1 Z;obtain⟨T,cs,hb,hT⟩:=hd k a0 (by simpa using a1);exact⟨T,cs,hb,λe=>hT (e▸O)⟩
 exact⟨BdO.tf h.b D (o _ sp0)<|o _ sp0,h.y.tf D (o _ sp0)<|o _ sp0,h.t.tf D (o _ sp0) (o _ sp0) (o _ sp0)<|o _ sp0,z2d h.c D<|o _ sp0,z2d h.h D<|o _ sp0,z2d h.f D<|o _ sp0,h.sp⟩
theorem StO.k {τ:TyK}{D base:Nat}{w:World}{s:StQ}(h:StO τ D base w s):StK [τ.S,τ.I,τ.Y,τ.P,τ.T,τ.L,D] w s:=λ_ _ hf I=>(h.fr hf I).at
def q0v (p:MSt)(o:MOp):MSt:=match doM (nrm p) o with
  | .ok q=>q
  | .error _=>p
def sOf (l:List MOp)(i:Nat):MSt:=(l.take i).foldl q0v start
theorem u8n {l:List MOp}{i:Nat}(h:i<l.length):sOf l (i+1)=q0v (sOf l i) (l.getD i op0):=by
 unfold sOf;rw[l54,l10 h,List.getD,l10 h,l123];rfl
theorem j0f:TrB start.B:=⟨rfl,rfl⟩
end Go.G08
namespace Go.Proofs.YtkafbfjmcigaiaaGreatDoor
open Go.Lw Go.G21 Go.G08 _root_.Go.Proofs.Tryz
abbrev UK:List Nat:=[τd.S,τd.I,τd.Y,τd.P,τd.T,τd.L,122]
theorem j1q {s:StQ}{p:MSt}{n:Nat}(h:StP s p n)(hn:n<=10000):StSz s:=by
 have hB:BdOk s.q.p:=h.BE▸h.v.inv.B;have hc:=h.c;obtain⟨⟨h1,h2⟩,h3,h4⟩:=z3f hB;refine⟨h1,h2,h3,h4,h.ly,h.lt,λi=>?_,λt ht=>?_,l42 h.fl oo,?_,l42 h.hl oo⟩;by_cases hi:i<6;have:=(h.v.inv.yn i hi).1;rw[<-h.yE hi]at this;have D:=this.2;split at D;exact l42 D.2.1 oo;rw[D.2.2];omega;rw[List.getD,l32 (by rw[h.ly];omega)];exact l16 _;obtain⟨y,hy,rfl⟩:=l29 ht;have h6:=h.lt;have e:∀n,lpA p.tb y n=((s.fb.ts.getD y tq0).2.getD n lq0).p:=λn=>by rw[<-h.tbE];exact y4l ..
 have Z:z3k p.tb y=(s.fb.ts.getD y tq0).2.length:=by rw[<-h.tbE];exact z4g ..
 have O:s.fb.ts.getD y tq0=s.fb.ts[y]:=by rw[List.getD,l10 hy];rfl
 rw[O]at Z e;refine⟨by have:=x9l p.tb y;have:=h.v.inv.all;omega,λq hq=>?_⟩;obtain⟨k,hk,rfl⟩:=l29 hq;have I:=(h.v.tabV.ok.rts y oo k oo).1;rw[e,List.getD,l10 hk]at I;exact⟨l42 I.2.1.1 oo,l42 I.2.1.2 oo⟩;rw[h.csE,(z4i _).length_eq];omega
theorem u3g {s:StQ}{p:MSt}{n:Nat}(h:StP s p n):(⟨s.rk,⟨z1x<|plB s.q.fs,z1x<|plB s.q.bs⟩,s.ys.map YQ.p,z2o s.fb.ts,s.fb.cs,s.fb.fs⟩:MSt)=nrm p:=by
 have hf:plB s.q.fs=p.B.f:=congrArg Bd.f h.BE;have D:plB s.q.bs=p.B.b:=congrArg Bd.b h.BE;unfold nrm;rw[h.rkE,hf,D,h.t.1,h.t.2,h.ysE,h.tbE,h.csE,h.fsE]
theorem x3e {s:StQ}{p:MSt}{n:Nat}(w0:World)(I:StAt w0 s)(h:StP s p n):Rets prog 19 #[svv s] w0 λr w'=>r=.int .i64 0/\Fr [] w0 w':=
 k0t s w0 I (by rw[h.rkE];exact h.v.inv.rk) (h.BE▸h.v.inv.B) h.ly h.lt (λi hi=>by
  rw[h.yE hi]
  have:=h.v.inv.yn i hi
  refine⟨this.1,?_⟩
  have e:=h.yE hi
  have e2:(s.ys.getD i yq0).ct=(p.ys.getD i yn0).ct:=congrArg Yn.ct e
  rw[e2,this.2,<-h.tbE]
  exact congrArg _ (z4g ..)) (λw D=>u9j s.fb w D h.lt (h.tbE▸h.v.tabV) (by rw[h.tbE,h.csE];exact h.v.crs) (by rw[h.tbE,h.hsE,h.fsE];exact h.v.place)) (by rw[h.hsE,h.rkE,h.BE]) (l42 h.hl oo)
theorem v4i (s:StQ)(p:MSt)(n:Nat)(o:MOp)(w0:World)(hS:StAt w0 s)(hP:StP s p n)(hn:n<=1000)(b7:StT w0):Rets prog 10 #[svv s,opV o] w0 λr w'=>(∃s':StQ,r=.tuple #[svv s',.int .i64 (u8o<|doM (nrm p) o)]/\StO τd 122 w0.heap.size w' s'/\(∀q,doM (nrm p) o=.ok q->StP s' q (n+1))/\(u8o (doM (nrm p) o)≠0->s'=stZ)/\(u8o (doM (nrm p) o)=0->∃q,doM (nrm p) o=.ok q))/\Fr [] w0 w':=by
 have b6:=j1q hP oo;refine wf func10 U ?_;have a6:=hS;refine sr<|bx U<|λg2 w1 d5 O q1 z1=>(bx U<|λg3 w2 d6 Z q2 z2=>(al y5r U<|λg4 w3 d7 D q3 z3=>(asg U<|nn<|sq<|sr ?_)));have O:=O.ext<|q2.n1 q3;refine z0l U O z8i ?_;have hS:=a6.ext<|q1.n2 q2 q3;refine cl (ev1 U) cO (x3e _ hS hP) ?_;rintro _ w4 ⟨rfl,q4⟩;have z4:=q4.size;refine asg U<|nn<|sr<|mv U<|ne' U<|nn<|cd U (λc0=>?_)<|λc0=>?_;refine sr<|z1r (cs:=[_,_,_,_,_,_,_,_]) z0f v1x z0r U ?_;refine mv U ?_;have D:=D.ext q4;exact z0j (vs:=[_,_,_,_,_,_,_,_]) U D z9q<|λw5 D q5 z5=>(asg U<|kpL (ll2 4 5) U<|nn<|rt<|tr<|rCT U U D z8i U<|absurd U t13);refine sk<|tn<|sr ?_;have O:=O.ext q4;refine z0l U O z8i ?_;have hS:=a6.ext<|q1.n3 q2 q3 q4;have D:=D.ext q4;refine cl (z0a U z0f) cO (u2h s _ hS b6 hP.cn) ?_;rintro _ w6 ⟨ka,m,rfl,hM,b8⟩;have q6:=hM.fr.fr;have z6:=q6.size;have a1:=D;have b0:m.p=nrm p:=b8.trans<|u3g hP;have b4:MInv m.p:=by rw[b0];exact(z2v hP.v).inv
 have d1:=hM.c.lt;have d3:=hM;refine asg U<|nn<|sq<|sq ?_;intro a h;refine rgh (some 3) (Fr []) ?_;intro w7 q7 hC;have z7:=q7.size;have Z:=Z.ext<|q3.n3 q4 q6 q7;have hM:=hM.ext q7;have a0:=Z;have a4:=hM;refine z0e 0 h U λa h=>z0x 2 h U (fx a0.ext) y3t U λa h=>z0d 1 U<|z0n h z0f cO (v7u _) ?_;rintro _ w8 ⟨⟨gl,rfl,d9,hl⟩,q8⟩ a h;have z8:=q8.size;have Z:=Z.ext q8;have hM:=hM.ext q8;have hC:=hC.next q8;refine z0b<|z0d 3 U ?_;have d4:=hM.fr;refine z0n h (z0a U<|z0a U<|z0a U z0f) cO (j1o w4 { ka with wk:=w8 } m o gl _ hM.mark b4 (b7.ext<|q1.n3 q2 q3 q4) hl) λ_ w9 hR a h=>?_;obtain⟨rfl,a2,m1,a9⟩:=hR.split;have z9:=a2.kp.size;simp only at z9;have q9:=a2.fr;rw[b0]at a9 h;refine z1m<|z0d 4 U<|z0o h U λa h=>?_;refine z1m<|z0q ?_;clear hC a0 a4;refine xB (ll3 4 7 8) h U<|tn<|sr<|mv U<|ne' U<|nn<|cd U (λc1=>?_)<|λc1=>?_;have D:=a1.ext a2.fr;refine sr<|z1r (cs:=[_,_,_,_,_,_,_,_]) z0f v1x z0r U ?_;exact mv U<|z0j (vs:=[_,_,_,_,_,_,_,_]) U D z9q<|λe0 D c9 e4=>(asg U<|nn<|rt<|tr<|rCT U U D z8i U ⟨_,rfl,⟨stZ,rfl,j7c _ _,λq hq=>(by rw[y1d c1]at hq;cases hq),λ_=>rfl,λe=>absurd e c1⟩,(q1.z5 q2 q3 q4 q9 c9)⟩);obtain⟨b3,I⟩:=a9<|l15.1 c1;have a5:=z8m (z2v hP.v).inv I;have a8:m1.cr.length<=100000000:=by have x:=k5y (z2v hP.v).inv I;have y:=hP.c;rw[v1m]at x;exact l42 x oo
 refine sk<|tn<|sr<|mv U<|cl (z0a U z0f) cO (x6s w4 { ka with wk:=w8 } m1 _ b3 a5 a8) ?_;rintro _ e3 ⟨s',rfl,b5,b9,a3⟩;have e5:=a3.size;have D:=a1.ext a3;have a7:=D;refine z0j (vs:=[_,_,_,_,_,_,_,_]) U D z9q<|λd0 D b1 e6=>(asg U<|nn<|rt<|rCT U U D z8i U ?_);have b2:Fr [] _ d0:=(l12 _ _);exact⟨_,rfl,⟨s',by rw[I];rfl,((b5.off a7 dd b1).ext b2).low oo,λq hq=>(by rw[I]at hq;cases hq;exact hP.do I b9),λe=>absurd (by rw[I];rfl) e,λ_=>⟨_,I⟩⟩,(q1.z5 q2 q3 q4 a3 b1)⟩
end Go.Proofs.YtkafbfjmcigaiaaGreatDoor
namespace Go.G08
open Go.Lw Go.G21
structure Eqv (p q:MSt):Prop where
  rk:p.rk=q.rk
  B:p.B=q.B
  ys:p.ys=q.ys
  tb:p.tb=q.tb
  cr:p.cr.Perm q.cr
  fa:p.fa.Perm q.fa
  nd:(p.cr.map λc=>(c.a,c.b)).Nodup
theorem Eqv.refl {p:MSt}(h:(p.cr.map λc=>(c.a,c.b)).Nodup):Eqv p p:=⟨rfl,rfl,rfl,rfl,.refl _,.refl _,h⟩
theorem Eqv.trans {p q r:MSt}(h:Eqv p q)(D:Eqv q r):Eqv p r:=⟨h.rk.trans D.rk,h.B.trans D.B,h.ys.trans D.ys,h.tb.trans D.tb,h.cr.trans D.cr,h.fa.trans D.fa,h.nd⟩
theorem Eqv.symm {p q:MSt}(h:Eqv p q):Eqv q p:=⟨h.rk.symm,h.B.symm,h.ys.symm,h.tb.symm,h.cr.symm,h.fa.symm,(h.cr.map _).nodup_iff.1 h.nd⟩
theorem y4k {p:MSt}(h:MVal p):Eqv p (nrm p):=⟨rfl,rfl,rfl,rfl,(z4i _).symm,(z4n _).symm,h.cr.nd⟩
def j0q:MR->MR->Prop
  | .error e,.error e'=>e=e'
  | .ok p,.ok q=>Eqv p q
  | _,_=>False
theorem y0o {a b:LId}{c:Cx}:isC a b c=true↔(c.a,c.b)=(a,b):=by unfold isC;simp[Prod.ext_iff]
theorem y5v {a b:LId}:∀ {l:List Cx} {c:Cx},(l.map λc=>(c.a,c.b)).Nodup->c∈l->(c.a,c.b)=(a,b)->l.find? (isC a b)=some c
 | x::l,c,hn,D,hk=>by
  rw[l28,l115]at hn
  rw[List.find?_cons]
  rcases l57.1 D with rfl|D
  ·rw[y0o.2 hk]
  have:isC a b x=false:=by
   rw[<-Bool.not_eq_true,y0o]
   intro e
   exact hn.1 (e▸hk▸l55.2 ⟨c,D,rfl⟩)
  rw[this]
  exact y5v hn.2 D hk
theorem x7y {l l':List Cx}{a b:LId}(hp:l.Perm l')(hn:(l.map λc=>(c.a,c.b)).Nodup):z5l l a b=z5l l' a b:=by
 have I:=(hp.map λc=>(c.a,c.b)).nodup_iff.1 hn;unfold z5l;by_cases h:∃c∈l,(c.a,c.b)=(a,b);obtain⟨c,D,O⟩:=h;rw[y5v hn D O,y5v I (hp.mem_iff.1 D) O];have e:∀m:List Cx,(∀c∈m,c∈l)->m.find? (isC a b)=none:=λm Z=>List.find?_eq_none.2 λc D e=>h ⟨c,Z c D,y0o.1 e⟩;rw[e l (λ_ D=>D),e l' λ_ D=>hp.mem_iff.2 D]
theorem j0c {l l':List Cx}{f:Cx->Bool}(hp:l.Perm l'):l.any f=l'.any f:=by
 rw[Bool.eq_iff_iff,List.any_eq_true,List.any_eq_true];exact⟨λ⟨c,hc,h⟩=>⟨c,hp.mem_iff.1 hc,h⟩,λ⟨c,hc,h⟩=>⟨c,hp.mem_iff.2 hc,h⟩⟩
theorem u1a {l l':List Cx}{a b:LId}{n:Int}(hp:l.Perm l'):(y5o l a b n).Perm (y5o l' a b n):=by
 unfold y5o;rw[j0c hp];split;exact hp.map _;exact hp.append_right _
theorem k0b {l:List Cx}{a b:LId}{n:Int}(hn:(l.map λc=>(c.a,c.b)).Nodup):((y5o l a b n).map λc=>(c.a,c.b)).Nodup:=by
 by_cases h:l.any (isC a b)=true;rw[v3p h];exact hn;unfold y5o;rw[if_neg h,l31,l67];refine⟨hn,sp0,λx I y O e=>h ?_⟩;obtain⟨c,D,rfl⟩:=l55.1 I;obtain rfl:y=(a,b):=by simpa using O
 exact List.any_eq_true.2 ⟨c,D,y0o.2 e⟩
theorem j9n {l:List Cx}{a b:LId}(hn:(l.map λc=>(c.a,c.b)).Nodup):((x9a l a b).map λc=>(c.a,c.b)).Nodup:=hn.sublist<|List.Sublist.map _ List.filter_sublist
def CEqv:Except Int (List Cx)->Except Int (List Cx)->Prop
  | .error e,.error e'=>e=e'
  | .ok l,.ok l'=>l.Perm l'/\(l.map λc=>(c.a,c.b)).Nodup
  | _,_=>False
theorem u3w {l l':List Cx}{c:Cx}(hp:l.Perm l')(hn:(l.map λc=>(c.a,c.b)).Nodup):CEqv (y4i l c) (y4i l' c):=by
 rw[y4c,y4c,x7y hp hn];generalize z5l l' (z4j c).1 (z4j c).2+c.n=n;by_cases h1:n < -1048576\/1048576<n;rw[if_pos h1,if_pos h1];rfl;rw[if_neg h1,if_neg h1];by_cases h2:n=0;rw[if_pos h2,if_pos h2];exact⟨hp.filter _,j9n hn⟩;rw[if_neg h2,if_neg h2];exact⟨u1a hp,k0b hn⟩
theorem y9r:∀ {r l l':List Cx},l.Perm l'->(l.map λc=>(c.a,c.b)).Nodup->CEqv (z3s l r) (z3s l' r)
 | [],l,l',hp,hn=>⟨hp,hn⟩
 | c::r,l,l',hp,hn=>by
  have h:=u3w (c:=c) hp hn
  unfold z3s
  revert h
  cases y4i l c with
  | error e=>cases y4i l' c with
   | error e'=>exact λh=>h
   | ok m'=>exact λh=>h.elim
  | ok m=>cases y4i l' c with
   | error e'=>exact λh=>h.elim
   | ok m'=>exact λh=>y9r h.1 h.2
theorem x9u {p q:MSt}(D:p.B=q.B)(I:p.rk=q.rk)(d:Int)(y:Yn):z6g p d y=z6g q d y:=by unfold z6g;rw[D,I]
theorem y5i {p q:MSt}(D:p.B=q.B)(I:p.rk=q.rk)(d:Int):∀l,z3g p d l=z3g q d l
 | []=>rfl
 | y::l=>by unfold z3g;rw[x9u D I,y5i D I d l]
theorem x7k {p q:MSt}(h:Eqv p q)(d:Int):j0q (z3l p d) (z3l q d):=by
 unfold z3l;rw[y5i h.B h.rk,h.ys];cases z3g q d q.ys with
 | error e=>rfl
 | ok ys=>
  have D:=y9r (r:=z2g q.B q.rk d) h.cr h.nd;rw[<-h.B,<-h.rk]at D ⊢;revert D;dsimp only;cases z3s p.cr (z2g p.B p.rk d) with
  | error e=>cases z3s q.cr (z2g p.B p.rk d) with
   | error e'=>exact λh=>h
   | ok m'=>exact λh=>h.elim
  | ok m=>cases z3s q.cr (z2g p.B p.rk d) with
   | error e'=>exact λh=>h.elim
   | ok m'=>exact λD=>⟨rfl,rfl,rfl,h.tb,D.1,h.fa,D.2⟩
theorem x6h {r:Int}:∀ {n:Nat} {p q:MSt},Eqv p q->j0q (z3p n p r) (z3p n q r)
 | 0,p,q,h=>h
 | n+1,p,q,h=>by
  unfold z3p
  rw[h.rk]
  by_cases e:q.rk=r
  ·rw[if_pos e,if_pos e];exact h
  rw[if_neg e,if_neg e]
  have D:=x7k h (if r<q.rk then 0 else 1)
  revert D
  cases z3l p (if r<q.rk then 0 else 1) with
  | error e=>cases z3l q (if r<q.rk then 0 else 1) with
   | error e'=>exact λh=>h
   | ok m'=>exact λh=>h.elim
  | ok m=>cases z3l q (if r<q.rk then 0 else 1) with
   | error e'=>exact λh=>h.elim
   | ok m'=>exact λh=>x6h h
abbrev wth (p:MSt)(c:List Cx)(f:List LId):MSt:=⟨p.rk,p.B,p.ys,p.tb,c,f⟩
theorem Eqv.wth {p q:MSt}(h:Eqv p q):q=wth p q.cr q.fa:=by
 obtain⟨_,_,_,_,_,_⟩:=q;obtain⟨D,I,O,Z,_,_,_⟩:=h;simp only at D I O Z;subst D;subst I;subst O;subst Z;rfl
theorem x3p {p:MSt}{c:List Cx}{f:List LId}(h:Eqv p (wth p c f))(y:Int)(q:Yn):Eqv (p.setY y q) ((wth p c f).setY y q):=⟨rfl,rfl,rfl,rfl,h.cr,h.fa,h.nd⟩
theorem v1d {p:MSt}{c:List Cx}{f:List LId}(h:Eqv p (wth p c f))(y pl en:Int):j0q (z8x p y pl en) (z8x (wth p c f) y pl en):=by
 unfold z8x;by_cases e:goE (p.y y) pl (y1r p y en)≠0;rw[if_pos e,if_pos (show goE ((wth p c f).y y) pl (y1r (wth p c f) y en)≠0 from e)];rfl;rw[if_neg e,if_neg (show ¬goE ((wth p c f).y y) pl (y1r (wth p c f) y en)≠0 from e)];exact x3p h _ _
theorem v1q {p q:MSt}(h:Eqv p q)(o:MOp)(I st:List LId):j0q (y1m p o I st) (y1m q o I st):=by
 have D:=h.wth;generalize q.cr=c at D;generalize q.fa=f at D;subst D;unfold y1m;by_cases e:mkE (p.y o.y)≠0;rw[if_pos e,if_pos (show mkE ((G08.wth p c f).y o.y)≠0 from e)];rfl;rw[if_neg e,if_neg (show ¬mkE ((G08.wth p c f).y o.y)≠0 from e)];by_cases e2:2048<=z4x p.tb;rw[if_pos e2,if_pos e2];rfl;rw[if_neg e2,if_neg e2];exact⟨rfl,rfl,rfl,rfl,h.cr,h.fa,h.nd⟩
theorem q0k {m D:MSt}(h:Eqv m D)(o:MOp):j0q (if 4<=(m.B.at o.b o.p).length then .error 9 else y1m m o [] (m.B.at o.b o.p)) (if 4<=(D.B.at o.b o.p).length then .error 9 else y1m D o [] (D.B.at o.b o.p)):=by
 rw[<-h.B];by_cases e4:4<=(m.B.at o.b o.p).length;rw[if_pos e4,if_pos e4];rfl;rw[if_neg e4,if_neg e4];exact v1q h _ _ _
theorem k0k {p q:MSt}(h:Eqv p q)(o:MOp):j0q (opM p o) (opM q o):=by
 have D:=h.wth;generalize q.cr=c at D;generalize q.fa=f at D;subst D;unfold opM;by_cases k1:o.k=1;rw[if_pos k1,if_pos k1];unfold inM;by_cases e:enE (p.y o.y) o.d≠0;rw[if_pos e,if_pos (show enE ((G08.wth p c f).y o.y) o.d≠0 from e)];rfl;rw[if_neg e,if_neg (show ¬enE ((G08.wth p c f).y o.y) o.d≠0 from e)];exact x3p h _ _;rw[if_neg k1,if_neg k1];by_cases k2:o.k=2;rw[if_pos k2,if_pos k2];unfold x7f;by_cases e:lvE (p.y o.y)≠0;rw[if_pos e,if_pos (show lvE ((G08.wth p c f).y o.y)≠0 from e)];rfl;rw[if_neg e,if_neg (show ¬lvE ((G08.wth p c f).y o.y)≠0 from e)];exact x3p h _ _;rw[if_neg k2,if_neg k2];by_cases k3:o.k=3;rw[if_pos k3,if_pos k3];exact x6h h;rw[if_neg k3,if_neg k3];have I:=v1d h o.y (z7b p o)<|z2b o.b o.p p.rk;by_cases k4:o.k=4;rw[if_pos k4,if_pos k4];unfold y0f;by_cases e:z5z p o≠0;rw[if_pos e,if_pos (show z5z (G08.wth p c f) o≠0 from e)];rfl;rw[if_neg e,if_neg (show ¬z5z (G08.wth p c f) o≠0 from e)];show j0q (match z8x p o.y (z7b p o) (z2b o.b o.p p.rk) with|.error e=>.error e|.ok q=>y1m q o (q.B.at o.b o.p) []) (match z8x (G08.wth p c f) o.y (z7b p o) (z2b o.b o.p p.rk) with|.error e=>.error e|.ok q=>y1m q o (q.B.at o.b o.p) []);revert I;cases z8x p o.y (z7b p o) (z2b o.b o.p p.rk) with
 | error e=>cases z8x (G08.wth p c f) o.y (z7b p o) (z2b o.b o.p p.rk) with
  | error e'=>exact λh=>h
  | ok m'=>exact λh=>h.elim
 | ok m=>cases z8x (G08.wth p c f) o.y (z7b p o) (z2b o.b o.p p.rk) with
  | error e'=>exact λh=>h.elim
  | ok m'=>exact λh=>by dsimp only;rw[<-h.B];exact v1q h _ _ _
 rw[if_neg k4,if_neg k4];by_cases k5:o.k=5;rw[if_pos k5,if_pos k5];unfold z9w;by_cases e:z5z p o≠0;rw[if_pos e,if_pos (show z5z (G08.wth p c f) o≠0 from e)];rfl;rw[if_neg e,if_neg (show ¬z5z (G08.wth p c f) o≠0 from e)];show j0q (match z8x p o.y (z7b p o) (z2b o.b o.p p.rk) with|.error e=>.error e|.ok q=>if 4<=(q.B.at o.b o.p).length then .error 9 else y1m q o [] (q.B.at o.b o.p)) (match z8x (G08.wth p c f) o.y (z7b p o) (z2b o.b o.p p.rk) with|.error e=>.error e|.ok q=>if 4<=(q.B.at o.b o.p).length then .error 9 else y1m q o [] (q.B.at o.b o.p));revert I;cases z8x p o.y (z7b p o) (z2b o.b o.p p.rk) with
 | error e=>cases z8x (G08.wth p c f) o.y (z7b p o) (z2b o.b o.p p.rk) with
  | error e'=>exact λh=>h
  | ok m'=>exact λh=>h.elim
 | ok m=>cases z8x (G08.wth p c f) o.y (z7b p o) (z2b o.b o.p p.rk) with
  | error e'=>exact λh=>h.elim
  | ok m'=>exact λh=>q0k h o
 rw[if_neg k5,if_neg k5];by_cases k6:o.k=6;rw[if_pos k6,if_pos k6];unfold y1x;by_cases e:z5z p o≠0;rw[if_pos e,if_pos (show z5z (G08.wth p c f) o≠0 from e)];rfl;rw[if_neg e,if_neg (show ¬z5z (G08.wth p c f) o≠0 from e)];exact v1d h _ _ _;rw[if_neg k6,if_neg k6];by_cases k7:o.k=7;rw[if_pos k7,if_pos k7];unfold z5v;by_cases e1:p.B.at o.b o.p=[];rw[if_pos e1,if_pos e1];rfl;rw[if_neg e1,if_neg e1];by_cases e2:z3m (1-o.b) (z4l o.b o.p p.rk)≠0;rw[if_pos e2,if_pos e2];rfl;rw[if_neg e2,if_neg e2];by_cases e3:∃y∈p.ys,y.inn=true/\y.pl=y8x p o;rw[if_pos e3,if_pos (show ∃y∈(G08.wth p c f).ys,y.inn=true/\y.pl=y8x (G08.wth p c f) o from e3)];rfl;rw[if_neg e3,if_neg (show ¬ ∃y∈(G08.wth p c f).ys,y.inn=true/\y.pl=y8x (G08.wth p c f) o from e3)];by_cases e4:4<(p.B.at o.b o.p).length+(p.B.at (1-o.b)<|z4l o.b o.p p.rk).length;rw[if_pos e4,if_pos e4];rfl;rw[if_neg e4,if_neg e4];exact⟨rfl,rfl,rfl,rfl,h.cr,h.fa,h.nd⟩;rw[if_neg k7,if_neg k7];unfold y2l;by_cases e1:p.B.at o.b o.p=[];rw[if_pos e1,if_pos e1];rfl;rw[if_neg e1,if_neg e1];exact⟨rfl,rfl,rfl,rfl,h.cr,h.fa.append_right _,h.nd⟩
theorem j9u {p q:MSt}(h:Eqv p q)(o:MOp):j0q (doM p o) (doM q o):=by
 unfold doM;by_cases e:z8v o≠0;rw[if_pos e,if_pos e];rfl;rw[if_neg e,if_neg e];exact k0k h o
theorem u3f {p q r:MSt}{o:MOp}(h:Eqv p q)(e:doM p o=.ok r):∃r',doM q o=.ok r'/\Eqv r r':=by
 have:=j9u h o;rw[e]at this;cases k:doM q o with
 | error e'=>rw[k]at this;exact this.elim
 | ok r'=>rw[k]at this;exact⟨r',rfl,this⟩
end Go.G08
namespace Go.Proofs.YtkafbfjmcigaiaaGreatDoor
open Go.Lw Go.G21 Go.G08 _root_.Go.Proofs.Tryz
theorem stp0 (I D:Nat):StP (st0 I D) G08.start 0:=⟨q0f I D,y8i,j0f,l16 _⟩
def u5f (p:MSt)(l:List MOp):Int:=match z2u 0 p l with
  | .error (e,_)=>e
  | .ok _=>0
def v0z (p:MSt)(l:List MOp):Nat:=match z2u 0 p l with
  | .error (_,n)=>n
  | .ok _=>l.length
theorem x3w {p:MSt}{l:List MOp}{e:Int}{n:Nat}(h:z2u 0 p l=.error (e,n)):u5f p l=e/\v0z p l=n:=by unfold u5f v0z;rw[h];exact⟨rfl,rfl⟩
theorem y6k {p q:MSt}{l:List MOp}(h:z2u 0 p l=.ok q):u5f p l=0/\v0z p l=l.length:=by unfold u5f v0z;rw[h];exact⟨rfl,rfl⟩
theorem j2g:∀ {l:List MOp} {i:Nat} {p q:MSt},TrB p.B->z2u i p l=.ok q->TrB q.B
 | [],i,p,q,h,e=>by cases e;exact h
 | o::l,i,p,q,h,e=>by
  unfold z2u at e
  split at e
  ·cases e
  rename_i I D
  exact j2g (k5d h D) e
theorem v0c {s:StQ}{p:MSt}{n:Nat}(v:Value)(l:List MOp)(w0:World)(hS:StAt w0 s)(D:StP s p n)(hn:n+l.length<=1000)(hv:Sl z3c w0 v l)(Z:StT w0):Rets prog 8 #[svv s,v] w0 λr w'=>(∃s':StQ,r=.tuple #[svv s',.int .i64 (v0z (nrm p) l:Int),.int .i64 (u5f (nrm p) l)]/\StO τd 122 w0.heap.size w' s'/\(∀q,z2u 0 (nrm p) l=.ok q->StP s' q (n+l.length))/\(∀e i,z2u 0 (nrm p) l=.error (e,i)->s'=stZ))/\Fr [] w0 w':=
 Rets.mono (j5j s v l (nrm p) w0 hS (j1q D oo) D.cn (u3g D).symm (z2v D.v).inv hv Z oo (λw h=>x3e w h D) (λq e=>by
  have x:=x3m (z2v D.v).inv e
  have y:=D.c
  rw[v1m]at x
  omega)) (by
  rintro r w' ⟨h,hf⟩
  refine⟨?_,hf⟩
  cases e:z2u 0 (nrm p) l with
  | error x=>
   obtain⟨e1,i⟩:=x
   rw[e]at h
   obtain⟨I,O⟩:=x3w e
   exact⟨stZ,by rw[I,O];exact h,j7c _ _,λq hq=>(by cases hq),λ_ _ _=>rfl⟩
  | ok q=>
   rw[e]at h
   obtain⟨s',I,O,h3⟩:=h
   obtain⟨h4,h5⟩:=y6k e
   refine⟨s',by rw[h4,h5];exact I,O,λq' hq=>?_,λ_ _ hp=>(by cases hp)⟩
   cases hq
   refine⟨h3,x2c (z2v D.v) e,j2g (p:=nrm p) D.t e,?_⟩
   have x:=x3m (z2v D.v).inv e
   have y:=D.c
   rw[v1m]at x
   rw[l97];omega)
end Go.Proofs.YtkafbfjmcigaiaaGreatDoor
namespace Go.G26
open Go.Lw Go.G21 Go.G08
def y2h (l:List LId)(x:LId):Int:=if x∈l then (l.idxOf x:Int) else -1
abbrev St:=List LId×List Int
def x6a (o:List LId)(k:Nat):List LId:=(o.set (k-1)<|o.getD k id0).set k<|o.getD (k-1) id0
def y3o (st:St)(c:Cx):St:=
  if 0<y2h st.1 c.a+1/\y2h st.1 c.a+1<(st.1.length:Int) then (x6a st.1 (y2h st.1 c.a+1).toNat,st.2++[(y2h st.1 c.a+1)*c.n]) else st
def z3o (st:St)(cs:List Cx):St:=cs.foldl y3o st
def y9c (B:Bd)(d:Int):Nat->Int->St->St
  | 0,_,st=>st
  | n+1,r,st=>y9c B d n (r+stI d)<|z3o st<|z2g B r d
def z7v (B:Bd)(r ro:Int)(st:St):St:=y9c B (if ro<r then 0 else 1) (if ro<r then r-ro else ro-r).toNat r st
def z9f:MSt->St->List MOp->Option St
  | _,st,[]=>some st
  | p,st,o::l=>
    let st':=if o.k=3 then z7v p.B p.rk o.r st else st
    if 64<st'.2.length then none else match doM p o with
      | .error _=>none
      | .ok q=>z9f q st' l
def z3n (p:MSt):List LId:=(z2m p.B p.rk).map Hd.id
def y1h (p:MSt)(l:List MOp):Option (List Int):=if z2m p.B p.rk=[] then some [] else (z9f p (z3n p,[]) l).map Prod.snd
def isP (l:List MOp):Bool:=l.all λo=>decide ((o.k=3\/o.k=7)/\z8v o=0)
def z1w (p:MSt)(l:List MOp):Except Int (List Int×MSt):=
  if isP l=false then .error 1 else if 4096<l.length then .error 3 else if 8<p.B.flat.length then .error 3 else match z2u 0 p l with
    | .error x=>match y1h p (l.take x.2) with
      | none=>.error 3
      | some _=>.error x.1
    | .ok q=>match y1h p l with
      | none=>.error 3
      | some w=>.ok (w,q)
def knP (b n:Int):MOp:=⟨4,1,b,n,1,0⟩
def exO:List MOp:=[⟨1,0,0,0,1,0⟩,knP 0 10,knP 0 11,knP 0 12,⟨2,0,0,0,1,0⟩]
def xfP (b n:Int):MOp:=⟨7,0,b,n,0,0⟩
def rkP (r:Int):MOp:=⟨3,0,0,0,0,r⟩
theorem j0v (l:List LId)(x:LId):-1<=y2h l x/\y2h l x<l.length:=by
 unfold y2h;split;rename_i h;have:=List.idxOf_lt_length_of_mem h;omega;exact⟨oo,oo⟩
theorem j8g {l:List LId}{x:LId}{i:Nat}(hi:i<l.length)(D:l.getD i id0=x)(hn:∀j,j<i->l.getD j id0≠x):y2h l x=i:=by
 have O:x∈l:=by rw[<-D,List.getD,l10 hi];exact l106 hi
 unfold y2h;rw[if_pos O];have I:=List.idxOf_lt_length_of_mem O;have Z:l[l.idxOf x]=x:=List.getElem_idxOf I;have h3:¬l.idxOf x<i:=λh=>hn _ h (by rw[List.getD,l10 I];exact Z);have h4:¬i<l.idxOf x:=λh=>by
  have:=List.not_of_lt_findIdx (p:=(· == x)) (xs:=l) (i:=i) h;rw[List.getD,l10 hi,l59]at D;simp[D]at this
 omega
theorem k0d {l:List LId}{x:LId}(hn:∀j,j<l.length->l.getD j id0≠x):y2h l x = -1:=by
 unfold y2h;rw[if_neg];intro D;obtain⟨i,hi,rfl⟩:=l29 D;exact hn i hi (by rw[List.getD,l10 hi];rfl)
theorem u1l (st:St)(c:Cx):(y3o st c).1.length=st.1.length/\(y3o st c).2.length<=st.2.length+1:=by
 unfold y3o;split;simp[x6a];exact⟨rfl,Nat.le_succ _⟩
theorem y0v:∀(cs:List Cx) (st:St),(z3o st cs).1.length=st.1.length/\(z3o st cs).2.length<=st.2.length+cs.length
 | [],st=>⟨rfl,l20 _⟩
 | c::cs,st=>by
  obtain⟨D,O⟩:=u1l st c
  obtain⟨I,Z⟩:=y0v cs<|y3o st c
  exact⟨I.trans D,by show (z3o (y3o st c) cs).2.length<=_;rw[l34];omega⟩
theorem y9g {st:St}{cs:List Cx}{i:Nat}(h:i<cs.length):z3o st (cs.take<|i+1)=y3o (z3o st<|cs.take i) (cs.getD i cx0):=by
 unfold z3o;rw[l54,l10 h,l123,List.getD,l10 h];rfl
theorem u3q {st:St}{c:Cx}{k:Int}(I:k=y2h st.1 c.a+1)(h1:0<k)(D:k<st.1.length):y3o st c=(x6a st.1 k.toNat,st.2++[k*c.n]):=by
 subst I;unfold y3o;rw[if_pos ⟨h1,D⟩]
theorem u7d {st:St}{c:Cx}{k:Int}(D:k=y2h st.1 c.a+1)(h:¬(0<k/\k<st.1.length)):y3o st c=st:=by
 subst D;unfold y3o;rw[if_neg h]
theorem u8v (B:Bd)(r:Int)(st:St):z7v B r r st=st:=by unfold z7v;rw[if_neg (Int.lt_irrefl r),if_neg (Int.lt_irrefl r),Int.sub_self];rfl
theorem v6j {B:Bd}{r ro:Int}{st:St}(h:r≠ro):z7v B r ro st=z7v B (r+stI (if ro<r then 0 else 1)) ro (z3o st<|z2g B r (if ro<r then 0 else 1)):=by
 have w0:∀(d e r:Int) (st:St),y9c B d 0 r st=y9c B e 0 r st:=λ_ _ _ _=>rfl;by_cases c:ro<r;rw[if_pos c];unfold z7v;rw[if_pos c,if_pos c,show (r-ro).toNat=(r-1-ro).toNat+1 by omega];show y9c B 0 _ (r+stI 0) _=_;rw[show r+stI 0=r-1 from U];by_cases c2:ro<r-1;rw[if_pos c2,if_pos c2];rw[if_neg c2,if_neg c2,show (r-1-ro).toNat=0 by omega,show (ro-(r-1)).toNat=0 by omega];exact w0 _ _ _ _;rw[if_neg c];unfold z7v;rw[if_neg c,if_neg c,show (ro-r).toNat=(ro-(r+1)).toNat+1 by omega];show y9c B 1 _ (r+stI 1) _=_;rw[show r+stI 1=r+1 from U,if_neg oo,if_neg oo]
theorem x8b {B:Bd}(D:BdOk B)(d:Int):∀(n:Nat) (r:Int) (st:St),(y9c B d n r st).1.length=st.1.length/\(y9c B d n r st).2.length<=st.2.length+n*640
 | 0,r,st=>⟨rfl,by simp[y9c]⟩
 | n+1,r,st=>by
  obtain⟨I,Z⟩:=y0v (z2g B r d) st
  obtain⟨O,h4⟩:=x8b D d n (r+stI d)<|z3o st<|z2g B r d
  have:=y8q D r d
  exact⟨O.trans I,by show (y9c B d n (r+stI d)<|z3o st<|z2g B r d).2.length<=_;omega⟩
theorem x4t {B:Bd}(O:BdOk B){r ro:Int}(st:St)(h1:-4<=r/\r<=4)(Z:-4<=ro/\ro<=4):(z7v B r ro st).1.length=st.1.length/\(z7v B r ro st).2.length<=st.2.length+5120:=by
 unfold z7v;obtain⟨D,I⟩:=x8b O (if ro<r then 0 else 1) (if ro<r then r-ro else ro-r).toNat r st;refine⟨D,l42 I ?_⟩;have:(if ro<r then r-ro else ro-r).toNat<=8:=by split<;>omega
 omega
def opW (p:MSt)(o:MOp)(st:St):St:=if o.k=3 then z7v p.B p.rk o.r st else st
theorem v6g {p:MSt}{st:St}{o:MOp}{l:List MOp}(h:64<(opW p o st).2.length):z9f p st (o::l)=none:=by
 unfold opW at h;unfold z9f;simp only;rw[if_pos h]
theorem v6f {p q:MSt}{st:St}{o:MOp}{l:List MOp}(h:¬64<(opW p o st).2.length)(e:doM p o=.ok q):z9f p st (o::l)=z9f q (opW p o st) l:=by
 unfold opW at *
 conv=>lhs;unfold z9f
 simp only
 rw[if_neg h,e]
theorem y7j:∀ {l:List MOp} {i n:Nat} {p q:MSt},z2u i p l=.ok q->n<=l.length->∃m,z2u i p (l.take n)=.ok m/\z2u (i+n) m (l.drop n)=.ok q
 | l,i,0,p,q,h,_=>⟨p,by rw[l90];rfl,by simpa using h⟩
 | [],i,n+1,p,q,h,hn=>by simp at hn
 | o::l,i,n+1,p,q,h,hn=>by
  unfold z2u at h
  split at h
  ·cases h
  rename_i Z D
  obtain⟨m,I,O⟩:=y7j (n:=n) h (by simpa using hn)
  refine⟨m,?_,?_⟩
  ·rw[List.take_succ_cons];unfold z2u;rw[D];exact I
  rw[List.drop_succ_cons,show i+(n+1)=i+1+n by omega];exact O
theorem u6d {l:List MOp}{i n:Nat}{p q:MSt}(h:z2u i p (l.drop n)=.ok q)(hn:n<l.length):l.drop n=l.getD n op0::l.drop (n+1)/\∃m,doM p (l.getD n op0)=.ok m/\z2u (i+1) m (l.drop<|n+1)=.ok q:=by
 have e:l.drop n=l.getD n op0::l.drop (n+1):=by rw[List.getD,l10 hn];exact l33 hn
 refine⟨e,?_⟩;rw[e]at h;unfold z2u at h;split at h;cases h;rename_i m D;exact⟨m,D,h⟩
theorem u1d {l:List MOp}(h:isP l=true){i:Nat}(hi:i<l.length):((l.getD i op0).k=3\/(l.getD i op0).k=7)/\z8v (l.getD i op0)=0:=by
 have:=l129.1 h (l.getD i op0) (by rw[List.getD,l10 hi];exact l106 hi);exact of_decide_eq_true this
theorem j0j {l:List MOp}(h:isP l=true)(n:Nat):isP (l.take n)=true:=l129.2 λo D=>l129.1 h o<|l98 D
theorem v3c {l:List MOp}{i:Nat}(hi:i<l.length)(h:¬(((l.getD i op0).k=3\/(l.getD i op0).k=7)/\z8v (l.getD i op0)=0)):isP l=false:=by
 cases e:isP l with
 | false=>rfl
 | true=>exact absurd (u1d e hi) h
theorem x2f {l:List MOp}(h:∀j,j<l.length->((l.getD j op0).k=3\/(l.getD j op0).k=7)/\z8v (l.getD j op0)=0):isP l=true:=l129.2 λo I=>by
 obtain⟨j,D,rfl⟩:=l29 I
 have:=h j D
 rw[List.getD,l10 D]at this
 exact decide_eq_true this
theorem y6z:∀ {l:List MOp} {i:Nat} {p:MSt} {x:Int} {n:Nat},z2u i p l=.error (x,n)->i<=n/\n<i+l.length/\∃m,z2u i p (l.take<|n-i)=.ok m
 | [],i,p,x,n,h=>by cases h
 | o::l,i,p,x,n,h=>by
  unfold z2u at h
  split at h
  ·rename_i e O
   cases h
   refine⟨l20 _,sp0,p,by rw[l100,l90];rfl⟩
  rename_i p1 D
  obtain⟨Z,k2,m,I⟩:=y6z h
  refine⟨oo,by rw[l34];omega,m,?_⟩
  rw[show n-i=(n-(i+1))+1 by omega,List.take_succ_cons]
  unfold z2u;rw[D];exact I
end Go.G26
namespace Go.G26
open Go.Lw Go.G21 Go.G08
structure KpW (S:List Nat) (J:Nat) (w w':World):Prop where
  size:w.heap.size<=w'.heap.size
  block:∀k,k<w.heap.size->k∉S->(∀cs:List Value,¬Blk w k J cs)->w'.heap[k]?=w.heap[k]?
section
variable {S S':List Nat} {J T T' base g:Nat} {w w':World}
theorem KpW.refl (S:List Nat)(J:Nat)(w:World):KpW S J w w:=⟨l20 _,λ_ _ _ _=>rfl⟩
theorem KpW.trans {a b c:World}(h:KpW S J a b)(D:KpW S J b c):KpW S J a c:=
 ⟨l42 h.size D.size,λk Z O I=>by
  have e:=h.block k Z O I
  rw[<-e]
  exact D.block k (l99 Z h.size) O λcs hb=>I cs<|e.symm.trans hb⟩
theorem KpW.of (hf:Fr S' w w')(D:∀k∈S',k∈S\/∃cs:List Value,Blk w k J cs):KpW S J w w':=
 ⟨hf.size,λk hk Z I=>hf.block k hk λhm=>by
  rcases D k hm with e|⟨cs,O⟩
  ·exact Z e
  exact I cs O⟩
theorem KpW.fr (hf:Fr [] w w'):KpW S J w w':=KpW.of hf λk D=>by cases D
theorem KpW.one (hf:Fr [g] w w')(I:g∈S):KpW S J w w':=KpW.of hf λk D=>by rw[l11]at D;subst D;exact .inl I
theorem KpW.app {α:Type}{E:Enc α}{v:Value}{ys:List α}(hf:Fr (z0v v) w w')(h:Lw.Own E J base w v ys):KpW S J w w':=KpW.of hf λk D=>.inr<|y0r h k D
theorem KpW.blk {k:Nat}{cs:List Value}(h:KpW S J w w')(hb:Blk w k T cs)(Z:k∉S)(O:T≠J):Blk w' k T cs:=
 (h.block k hb.lt Z λD I=>O<|u0a hb I).trans hb
theorem KpW.own {α:Type}{E:Enc α}{v:Value}{ys:List α}(h:KpW S J w w')(ho:Lw.Own E T base w v ys)(Z:∀k∈z0v v,k∉S)(I:T≠J):Lw.Own E T base w' v ys:=by
 rcases ho with ⟨rfl,rfl⟩|⟨g,cap,cur,rfl,O,D,r⟩
 exact Own.nil _;exact .inr ⟨g,cap,cur,rfl,O,KpW.blk (cs:=cur.toList) h D (Z g t10) I,r⟩
end
structure TyP where
  S:Nat
  I:Nat
  F:Nat
  L:Nat
  J:Nat
structure TyP.Ok (τ:TyP):Prop where
  fs:τ.F≠τ.S
  fi:τ.F≠τ.I
  fl:τ.F≠τ.L
  fj:τ.F≠τ.J
  sl:τ.S≠τ.L
  si:τ.S≠τ.I
  sj:τ.S≠τ.J
  il:τ.I≠τ.L
  ij:τ.I≠τ.J
  lj:τ.L≠τ.J
structure WdA where
  gf:Nat
  go:Nat
  gl:Nat
  gO:Nat
def WdA.lt (a:WdA)(b:Nat):Prop:=a.gf<b/\a.go<b/\a.gl<b/\a.gO<b
abbrev WdA.OV (a:WdA)(n:Nat):Value:=.slice (some ⟨a.gO,0,none⟩) n n
structure WdM (τ:TyP) (tv:Value) (wS:World) (a:WdA) (w:World) (q:BdQ) (rk:Int) (st:St):Prop where
  f:Blk w a.gf τ.F (bdL q++[.int .i64 rk,tv])
  b:BdAt wS q\/∃b',a.lt b'/\BdO τ.S τ.I b' w q
  o:Blk w a.go τ.S [a.OV st.1.length]
  od:Lw.Own z1h τ.I wS.heap.size w (a.OV st.1.length) st.1
  l:∃v,Blk w a.gl τ.L [v]/\Lw.Own Enc.i64 τ.J wS.heap.size w v st.2
  fr:Fr [] wS w
  gs:wS.heap.size<=a.gf/\wS.heap.size<=a.go/\wS.heap.size<=a.gl
section
variable {τ:TyP} {tv:Value} {wS w w' w1:World} {a:WdA} {q q':BdQ} {rk:Int} {st:St}
theorem WdM.bat (h:WdM τ tv wS a w q rk st):BdAt w q:=by
 rcases h.b with D|⟨I,_,D⟩
 exact D.ext h.fr;exact D.at
theorem WdM.next (h:WdM τ tv wS a w q rk st)(hf:Fr [] w w'):WdM τ tv wS a w' q rk st:=by
 obtain⟨v,I,hl⟩:=h.l;exact⟨h.f.ext hf,h.b.imp id λ⟨D,hb,ho⟩=>⟨D,hb,ho.ext hf⟩,h.o.ext hf,h.od.ext hf,⟨v,I.ext hf,hl.ext hf⟩,h.fr.next hf,h.gs⟩
theorem WdM.ext (h:WdM τ tv wS a w q rk st)(hf:Fr [] w w'):WdM τ tv wS a w' q rk st:=h.next hf
theorem WdM.nO (h:WdM τ tv wS a w q rk st){k T:Nat}{cs:List Value}(hb:Blk w k T cs)(D:T≠τ.I):k≠a.gO:=λe=>
 Own.neB h.od hb (l51 D) (by simp[z0v,e])
theorem j1s {k k' T T':Nat}{cs cs':List Value}(hb:Blk w k T cs)(D:Blk w k' T' cs')(I:T≠T'):k≠k':=λe=>I<|u0a hb (by rw[e];exact D)
theorem WdM.lts (h:WdM τ tv wS a w q rk st):a.lt w.heap.size:=by
 obtain⟨v,D,hl⟩:=h.l;exact⟨h.f.lt,h.o.lt,D.lt,(h.od.blk a.gO t10).2⟩
theorem j2z {S:List Nat}{J D I b:Nat}{v:Value}{l:List IQ}(h:RwO D I b w v l)(hk:KpW S J w w')(hS:∀k∈S,k<b)(h1:D≠J)(h2:I≠J):RwO D I b w' v l:=
 ⟨hk.own h.1 (λk O Z=>by have:=hS k Z;have:=(h.1.blk k O).1;omega) h1,λp hp=>hk.own (h.2 p hp) (λk O Z=>by have:=hS k Z;have:=((h.2 p hp).blk k O).1;omega) h2⟩
theorem WdM.tell (h:WdM τ tv wS a w q rk st)(D:τ.Ok){o:List LId}{ls:List Int}{v:Value}(O:KpW [a.gO,a.gl] τ.J w w')(ho:Blk w' a.go τ.S [a.OV o.length])(hd:Lw.Own z1h τ.I wS.heap.size w' (a.OV o.length) o)(hl:Blk w' a.gl τ.L [v])(hv:Lw.Own Enc.i64 τ.J wS.heap.size w' v ls)(hf:Fr [] wS w'):WdM τ tv wS a w' q rk (o,ls):=by
 obtain⟨u,hu,_⟩:=h.l;refine⟨O.blk h.f ?_ D.fj,h.b.imp id λ⟨Z,hb,hq⟩=>⟨Z,hb,?_⟩,ho,hd,⟨v,hl,hv⟩,hf,h.gs⟩;intro I;simp only[l57,l128,or_false]at I;rcases I with e|e
 exact h.nO h.f D.fi e;exact j1s h.f hu D.fl e;obtain⟨_,_,h3,h4⟩:=hb;have hS:∀k∈[a.gO,a.gl],k<Z:=λk I=>by
  simp only[l57,l128,or_false]at I;rcases I with rfl|rfl<;>assumption
 exact⟨j2z hq.f O hS D.sj D.ij,j2z hq.b O hS D.sj D.ij⟩
theorem WdM.keep (h:WdM τ tv wS a w q rk st)(D:τ.Ok)(hf:Fr [a.gf] w w'):(Blk w' a.go τ.S [a.OV st.1.length]/\Lw.Own z1h τ.I wS.heap.size w' (a.OV st.1.length) st.1/\∃v,Blk w' a.gl τ.L [v]/\Lw.Own Enc.i64 τ.J wS.heap.size w' v st.2)/\Fr [] wS w':=by
 obtain⟨v,Z,hl⟩:=h.l;refine⟨⟨y5b h.o hf<|OffT.one h.f D.fs,z2d h.od hf<|OffT.one h.f D.fi,v,y5b Z hf<|OffT.one h.f D.fl,z2d hl hf<|OffT.one h.f D.fj⟩,h.fr.step hf λk I O=>?_⟩;rw[l11]at I;subst I;exact absurd h.gs.1 oo
theorem WdM.rack (h:WdM τ tv wS a w q rk st)(D:τ.Ok){r:Int}(hb:Blk w' a.gf τ.F (bdL q++[.int .i64 r,tv]))(hf:Fr [a.gf] w w'):WdM τ tv wS a w' q r st:=by
 obtain⟨⟨O,Z,h3⟩,h4⟩:=h.keep D hf;exact⟨hb,h.b.imp id λ⟨I,hb,hq⟩=>⟨I,hb,hq.tf hf (OffT.one h.f D.fs)<|OffT.one h.f D.fi⟩,O,Z,h3,h4,h.gs⟩
theorem WdM.put (h:WdM τ tv wS a w q rk st)(I:τ.Ok){b':Nat}(D:a.lt b')(hq:BdO τ.S τ.I b' w q')(hb:Blk w' a.gf τ.F (bdL q'++[.int .i64 rk,tv]))(hf:Fr [a.gf] w w'):WdM τ tv wS a w' q' rk st:=by
 obtain⟨⟨O,Z,h3⟩,h4⟩:=h.keep I hf;exact⟨hb,.inr ⟨b',D,hq.tf hf (OffT.one h.f I.fs)<|OffT.one h.f I.fi⟩,O,Z,h3,h4,h.gs⟩
end
end Go.G26
namespace Go.Proofs.YtkafbfjmcigaiaaGreatDoor
open Go.Lw Go.G21 Go.G08 Go.G26 _root_.Go.Proofs.Tryz
theorem k5o:z2e prog 58:=λ_=>kr
theorem sz58:z1s prog 58 1:=λ_=>kr
abbrev τp:TyP:=⟨32,54,146,58,3⟩
theorem τpk:τp.Ok:=⟨dd,dd,dd,dd,dd,dd,dd,dd,dd,dd⟩
abbrev tvW (a:WdA):Value:=.func (.func 74) #[] #[.pointer (some ⟨a.go,0,none⟩),.pointer (some ⟨a.gl,0,none⟩)]
theorem j3q (v:Value)(l:List LId)(x:LId)(w0:World)(hs:Sl z1h w0 v l)(hl:l.length<=100000):Rets prog 72 #[v,ivv x] w0 λr w'=>r=.int .i64 (y2h l x)/\Fr [] w0 w':=by
 obtain⟨A,k,rfl,hk⟩:=id hs.form;refine wf func72 U ?_;have a1:=hs;refine sr<|bx U<|λg3 w1 a3 D q1 z1=>(asg U<|nn<|sq<|sr<|mv U<|lnS U<|mv U<|nn<|bl<|lpK (ι:=Nat) (ll3 0 3 7) (λi=>[(8,.int .i64 (i:Int))]) (λi w'=>Fr [] w1 w'/\i<=l.length/\∀j,j<i->l.getD j id0≠x) (λi=>l.length-i) 0 U ⟨l12 _ _,⟨l16 _,λj h=>absurd h oo⟩⟩ ?_);rintro i w2 ⟨q2,⟨hi,hz⟩⟩;refine kpC (ll4 0 3 7 8) U<|sr<|lt' U<|nn<|sq<|cd U (λc0=>?_)<|λc0=>?_;refine sk<|tn<|sq<|bl<|sr<|mv U<|asg U<|nn<|sq ?_;have hs:=a1.ext<|q1.n1 q2;have D:=D.ext q2;intro a h;have O:=l12 [] w2;refine z3d (Fr []) z2s ?_;intro w3 hq;have hs:=hs.ext hq;have D:=D.ext hq;have O:=O.next hq;have a4:=hq.size;have hC:Fr [] w3 w3:=l12 _ _;have Z:=hs;have I:=D;refine z0x 0 h U (fx I.ext) z2y U λa h=>z0e 1 h U λa h=>z0e 2 h U λa h=>z1d (id0) 3 h U hs U z4m U ?_ (hp:=rfl);intro a2 a0 a h;refine z1z 4 h wn U (λ_ hw=>a0 _<|Z.ext hw) z2y U λa h=>k2k (V:=idV) (e:=_) (f:=_) 5 kr hC h wn U U k8w U U λa h=>z0q ?_;clear hC Z I;refine xB (ll6 0 3 5 7 8 16) h U<|tn<|cd U (λc1=>?_)<|λc1=>?_;refine sr<|mv U<|asg U<|kpL (ll1 4) U<|nn<|rt<|rb<|tr<|tr<|rb<|tr<|r1 U ?_;exact⟨_,rfl,congrArg (Value.int .i64) (j8g oo c1.symm hz).symm,(q1.n2 q2 O)⟩;refine sk<|bn'<|tn<|rg<|ad6 U<|mv U<|nl ?_;exact lpE (i+1) U ⟨(q2.n1 O),⟨oo,λj h=>by
  by_cases e:j=i;subst e;exact λhh=>c1 hh.symm;exact hz j oo⟩⟩ oo
 obtain rfl:i=l.length:=by omega
 refine ex<|te<|te<|xh<|tn<|sr<|asg U<|nn<|rt<|r1 U ?_;exact⟨_,rfl,congrArg (Value.int .i64) (k0d<|λj hj=>hz j oo).symm,(q1.n1 q2)⟩
theorem j6k (go gl gO base:Nat)(lv v:Value)(ord:List LId)(ls:List Int)(cs:List Cx)(wS w0:World)(hF:Fr [] wS w0)(g9:wS.heap.size<=go)(g8:wS.heap.size<=gl)(g3:wS.heap.size<=base)(I:Blk w0 go 32 [.slice (saa gO) ord.length ord.length])(ho:Lw.Own z1h 54 base w0 (.slice (saa gO) ord.length ord.length) ord)(O:Blk w0 gl 58 [lv])(hl:Lw.Own Enc.i64 3 base w0 lv ls)(Z:Lw.Own z6f 149 0 w0 v cs)(hn:ord.length<=1000)(h5:ls.length+cs.length<=1000000)(e9:∀c∈cs,-1<=c.n/\c.n<=1):Rets prog 74 #[v,pta go,pta gl] w0 λr w'=>r=.tuple #[]/\(∃u,Blk w' go 32 [.slice (saa gO) ord.length ord.length]/\Lw.Own z1h 54 base w' (.slice (saa gO) ord.length ord.length) (z3o (ord,ls) cs).1/\Blk w' gl 58 [u]/\Lw.Own Enc.i64 3 base w' u (z3o (ord,ls) cs).2)/\KpW [gO,gl] 3 w0 w'/\Fr [] wS w':=by
 obtain⟨A,c,rfl,g4⟩:=Z.sl.form;have h6:=hF.size;have b6:go≠gO:=λe=>Own.neB ho I dd (by simp[z0v,e]);have f8:gl≠gO:=λe=>Own.neB ho O dd (by simp[z0v,e]);have g1:go≠gl:=j1s I O dd;have f6:=(ho.blk gO t10).1;have f5:=(ho.blk gO t10).2;have f9:=I.lt;have f7:=O.lt;have a5:=Own.neB Z O dd;have a6:gO∉z0v (.slice A cs.length c):=λhk=>Own.neO Z ho dd gO hk t10;refine wf func74 U<|sr<|mv U<|lnS U<|mv U<|nn<|bl<|lpK (ι:=Nat×Value) (ll4 1 2 7 8) (λp=>[(9,.int .i64 (p.1:Int))]) (λp w'=>Fr [] wS w'/\p.1<=cs.length/\Blk w' go 32 [.slice (saa gO) ord.length ord.length]/\Lw.Own z1h 54 base w' (.slice (saa gO) ord.length ord.length) (z3o (ord,ls)<|cs.take p.1).1/\Blk w' gl 58 [p.2]/\Lw.Own Enc.i64 3 base w' p.2 (z3o (ord,ls)<|cs.take p.1).2/\(KpW [gO,gl] 3 w0 w'/\Lw.Own z6f 149 0 w' (.slice A cs.length c) cs)) (λp=>cs.length-p.1) (0,lv) U ⟨hF,⟨l16 _,I,ho,O,hl,KpW.refl _ _ _,Z⟩⟩ ?_;rintro⟨i,uI⟩ w1 ⟨q1,⟨f0,I,ho,O,hl,b9,Z⟩⟩;simp only at f0 I ho O hl Z;have z1:=q1.size;have e4:=I.lt;have e3:=O.lt;refine kpC [(1,_),(2,_),(7,_),(8,_),(9,.int .i64 (i:Int))] U ?_;have h4:=b9.size;have a7:=Own.neB hl O dd;have a8:gO∉z0v uI:=λhk=>Own.neO hl ho dd gO hk t10;refine sr<|lt' U<|nn<|sq<|cd U (λc0=>?_)<|λc0=>?_;have c9:i<cs.length:=by omega
 have g6:=e9 (cs.getD i cx0)<|z1b (d:=cx0) c9;obtain⟨e8,d6⟩:=y0v (cs.take i) (ord,ls);simp only at e8 d6;rw[List.length_take_of_le oo]at d6;have h0:=j0v (z3o (ord,ls)<|cs.take i).1 (cs.getD i cx0).a;have h3:-1000000<=((y2h (z3o (ord,ls)<|cs.take i).1 (cs.getD i cx0).a)+1)*(cs.getD i cx0).n/\((y2h (z3o (ord,ls)<|cs.take i).1 (cs.getD i cx0).a)+1)*(cs.getD i cx0).n<=1000000:=by
  rcases(show (cs.getD i cx0).n = -1\/(cs.getD i cx0).n=0\/(cs.getD i cx0).n=1 by omega) with e|e|e<;>rw[e]<;>omega
 refine sk<|tn<|sq<|bl<|sr<|z1a (cx0) U Z.sl U y3i z1j<|λf2 d7=>?_;refine z1q U (d7 _ Z.sl) x8g<|al j5s U<|λg5 w2 g7 a4 q2 z2=>?_;refine z0j (vs:=[_,_,_,_,_]) U a4 v7a (λw3 a4 q3 z3=>?_) (h1:=(by first|(simp[Value.oneCell',S];done)|exact Enc.one _ _|exact Enc.i64.one _));refine nn<|sr ?_;have I:=(I.ext q2).fr q3;refine z2a U I z6k<|fad U x1p<|z1u (vs:=[_,_]) U a4 z2y U ?_;have ho:=(ho.ext q2).fr q3 (by first|exact z9x ho oo|simp[z0v]<;>omega);refine cl (ev2 U) cO (j3q _ (z3o (ord,ls)<|cs.take i).1 (cs.getD i cx0).a _ ho.sl oo) ?_;rintro _ w4 ⟨rfl,q4⟩;have z4:=q4.size;refine ad6 U<|asg U<|nn<|sq<|rbo (r:=25) (L':=ll7 1 2 5 6 7 8 9) (((0<((y2h (z3o (ord,ls)<|cs.take i).1 (cs.getD i cx0).a)+1))/\(((y2h (z3o (ord,ls)<|cs.take i).1 (cs.getD i cx0).a)+1)<(ord.length:Int)))) U ?_ ?_;refine mv U<|gt' U<|mv U<|gs 20 U (λg0=>?_)<|λg0=>?_;refine gY U<|mv U<|gY U ?_;have I:=I.ext q4;exact z2a U I z6k<|gY U<|lnS U<|gY U<|lt' U<|pkt U<|rbe U<|U;exact gN U<|gN U<|gN U<|gN U<|pkf U<|rbe U<|U;refine tn<|cd U (λc1=>?_)<|λc1=>?_;obtain⟨k,hk⟩:∃k:Nat,(k:Int)=((y2h (z3o (ord,ls)<|cs.take i).1 (cs.getD i cx0).a)+1):=⟨(((y2h (z3o (ord,ls)<|cs.take i).1 (cs.getD i cx0).a)+1)).toNat,Int.toNat_of_nonneg oo⟩;have h2:1<=k/\k<ord.length:=by omega
 have b3:z3o (ord,ls) (cs.take<|i+1)=(((z3o (ord,ls)<|cs.take i).1.set (k-1)<|(z3o (ord,ls)<|cs.take i).1.getD k id0).set k<|(z3o (ord,ls)<|cs.take i).1.getD (k-1) id0,(z3o (ord,ls)<|cs.take i).2++[((y2h (z3o (ord,ls)<|cs.take i).1 (cs.getD i cx0).a)+1)*(cs.getD i cx0).n]):=by
  rw[y9g c9,u3q U oo oo,show (((y2h (z3o (ord,ls)<|cs.take i).1 (cs.getD i cx0).a)+1)).toNat=k by omega];rfl
 refine sq ?_;intro a h;refine rgh (some 17) (Fr [gO]) ?_;intro w5 q5 hC;have z5:=q5.size;have I:=I.ext<|q4.n1 q5;have ho:=ho.ext<|q4.n1 q5;have a3:=I;have d4:=ho;refine z7l 0 hC h wn U (λ_ hw=>a3.fr hw<|λk_=>b6<|l11.1 k_) z6k U U λa h=>z0e 1 h U λa h=>z3a 2 h U t12 U λa h=>z7l 3 hC h wn U (λ_ hw=>a3.fr hw<|λk_=>b6<|l11.1 k_) z6k U U λa h=>z0e 4 h U λa h=>z7l 5 hC h wn U (λ_ hw=>a3.fr hw<|λk_=>b6<|l11.1 k_) z6k U U λa h=>z0e 6 h U λa h=>z1d (p:=k) (id0) 7 h U ho.sl U z4m U λf3 d1 a h=>z7l 9 hC h wn U (λ_ hw=>a3.fr hw<|λk_=>b6<|l11.1 k_) z6k U U λa h=>z0e 10 h U λa h=>z3a 11 h U t12 U λa h=>z1d (p:=(k-1)) (id0) 12 h U ho.sl U z4m U λf4 d3 a h=>z1v 8 13 kr U ?_ ?_;refine z1o h U (d1 _ ho.sl) z2y U λa h=>z0b<|z0d 13 U<|z1o h U (d3 _ ho.sl) z2y U λa h=>?_;refine z0b<|z1l 14 kr hC (p:=(k-1)) h wn U z4m oo oo oo U U λa h=>z0d 15 U<|z0z (i:=(k-1)) (((z3o (ord,ls)<|cs.take i).1.getD k id0)) h U ho oo U y1b λw6 a1 q6 _hz a h=>?_;have z6:=q6.size;have I:=I.fr q6;have hC:=hC.sp q6;have ho:=a1;clear a1;refine z0b<|z1l 16 kr hC (p:=k) h wn U z4m oo oo oo U U λa h=>z0d 17 U<|z0z (i:=k) (((z3o (ord,ls)<|cs.take i).1.getD (k-1) id0)) h U ho t34 U y1b λw7 a1 q7 _hz a h=>?_;have z7:=q7.size;have I:=I.fr q7;have ho:=a1;clear a1;refine z1m<|z0q ?_;clear hC a3 d4;refine xB (ll7 1 2 5 6 7 8 9) h U<|tn<|rg ?_;have O:=((((O.ext q2).fr q3).ext<|q4.n1 q5).fr q6).fr q7;refine z2a U O k5o<|mv U<|fad U v0b ?_;have a4:=((a4.ext<|q4.n1 q5).fr q6).fr q7;refine z0i U a4 U na3<|x2e U U (wi6 oo)<|z1i ([((y2h (z3o (ord,ls)<|cs.take i).1 (cs.getD i cx0).a)+1)*(cs.getD i cx0).n]) (ev1 U) U y1e<|λe7 w8 e0 d0 q8 z8=>?_;have O:=O.ext q8;have I:=I.ext q8;have ho:=ho.ext q8;have Z:=(((((Z.ext q2).fr q3 (by intro k hk D;rw[l11.1 hk]at D;first|exact a5 D|exact a6 D|(have:=(Z.blk _ D).2;omega))).ext<|q4.n1 q5).fr q6 (by intro k hk D;rw[l11.1 hk]at D;first|exact a5 D|exact a6 D|(have:=(Z.blk _ D).2;omega))).fr q7 (by intro k hk D;rw[l11.1 hk]at D;first|exact a5 D|exact a6 D|(have:=(Z.blk _ D).2;omega))).ext q8;have hl:=(((((hl.ext q2).fr q3 (by intro k hk D;rw[l11.1 hk]at D;first|exact a8 D|exact a7 D|exact a2 D|(have:=(hl.blk _ D).2;omega))).ext<|q4.n1 q5).fr q6 (by intro k hk D;rw[l11.1 hk]at D;first|exact a8 D|exact a7 D|exact a2 D|(have:=(hl.blk _ D).2;omega))).fr q7 (by intro k hk D;rw[l11.1 hk]at D;first|exact a8 D|exact a7 D|exact a2 D|(have:=(hl.blk _ D).2;omega))).ext q8;have a0:=hl;refine z2l U hl d0.sl y1e<|λf1 w9 hl q9 d5=>?_;obtain⟨e5,e6,rfl,d9⟩:=hl.sl.form;have z9:=q9.size;have O:=O.fr q9<|λhk=>a0.neB O dd hk;have I:=I.fr q9<|λhk=>a0.neB I dd hk;have ho:=ho.fr q9<|λk_ b1 b2=>(Own.neO a0 ho dd) k_ b1 b2;have Z:=Z.fr q9<|λk_ b1 b2=>(Own.neO a0 Z dd) k_ b1 b2;have a2:=Own.neB hl O dd;refine z3i U O U sz58<|λh7 O b7 i3=>(kpL (ll5 1 2 7 8 9) U<|nl<|bn'<|tn<|rg<|ad6 U<|mv U<|nl ?_);have I:=I.fr b7;have ho:=ho.fr b7 (by first|exact z9x ho oo|simp[z0v]<;>omega);have hl:=hl.fr b7 (by intro k hk D;rw[l11.1 hk]at D;first|exact a8 D|exact a7 D|exact a2 D|(have:=(hl.blk _ D).2;omega));have Z:=Z.fr b7 (by intro k hk D;rw[l11.1 hk]at D;first|exact a5 D|exact a6 D|(have:=(Z.blk _ D).2;omega));exact lpE ((i+1,_)) U ⟨((((q1.z6 q2 q3 q4 q5 q6 q7).n1 q8).step q9<|λk hk c9=>absurd (a0.blk k hk).1 oo).z1 b7),⟨sm,I,by rw[b3];exact ho,O,by rw[b3];exact hl,b9.trans (KpW.trans (KpW.trans (KpW.trans (KpW.trans (KpW.trans (KpW.fr<|q2.z3 q3 q4 q5)<|KpW.one q6 sp0)<|KpW.one q7 sp0)<|KpW.fr q8)<|KpW.app q9 a0)<|KpW.one b7 sp0),Z⟩⟩ sm;refine z1o h U (d3 _ ho.sl) z2y U λa h=>z0b<|z0d 8 U<|z1o h U (d1 _ ho.sl) z2y U λa h=>?_;refine z0b<|z1l 14 kr hC (p:=(k-1)) h wn U z4m oo oo oo U U λa h=>z0d 15 U<|z0z (i:=(k-1)) (((z3o (ord,ls)<|cs.take i).1.getD k id0)) h U ho oo U y1b λh8 a1 a9 _hz a h=>?_;have i4:=a9.size;have I:=I.fr a9;have hC:=hC.sp a9;have ho:=a1;clear a1;refine z0b<|z1l 16 kr hC (p:=k) h wn U z4m oo oo oo U U λa h=>z0d 17 U<|z0z (i:=k) (((z3o (ord,ls)<|cs.take i).1.getD (k-1) id0)) h U ho t34 U y1b λh9 a1 b0 _hz a h=>?_;have i5:=b0.size;have I:=I.fr b0;have ho:=a1;clear a1;refine z1m<|z0q ?_;clear hC a3 d4;refine xB (ll7 1 2 5 6 7 8 9) h U<|tn<|rg ?_;have O:=((((O.ext q2).fr q3).ext<|q4.n1 q5).fr a9).fr b0;refine z2a U O k5o<|mv U<|fad U v0b ?_;have a4:=((a4.ext<|q4.n1 q5).fr a9).fr b0;refine z0i U a4 U na3<|x2e U U (wi6 oo)<|z1i ([((y2h (z3o (ord,ls)<|cs.take i).1 (cs.getD i cx0).a)+1)*(cs.getD i cx0).n]) (ev1 U) U y1e<|λe7 i0 e0 d0 b4 i7=>?_;have O:=O.ext b4;have I:=I.ext b4;have ho:=ho.ext b4;have Z:=(((((Z.ext q2).fr q3 (by intro k hk D;rw[l11.1 hk]at D;first|exact a5 D|exact a6 D|(have:=(Z.blk _ D).2;omega))).ext<|q4.n1 q5).fr a9 (by intro k hk D;rw[l11.1 hk]at D;first|exact a5 D|exact a6 D|(have:=(Z.blk _ D).2;omega))).fr b0 (by intro k hk D;rw[l11.1 hk]at D;first|exact a5 D|exact a6 D|(have:=(Z.blk _ D).2;omega))).ext b4;have hl:=(((((hl.ext q2).fr q3 (by intro k hk D;rw[l11.1 hk]at D;first|exact a8 D|exact a7 D|exact a2 D|(have:=(hl.blk _ D).2;omega))).ext<|q4.n1 q5).fr a9 (by intro k hk D;rw[l11.1 hk]at D;first|exact a8 D|exact a7 D|exact a2 D|(have:=(hl.blk _ D).2;omega))).fr b0 (by intro k hk D;rw[l11.1 hk]at D;first|exact a8 D|exact a7 D|exact a2 D|(have:=(hl.blk _ D).2;omega))).ext b4;have a0:=hl;refine z2l U hl d0.sl y1e<|λf1 i1 hl b5 d5=>?_;obtain⟨e5,e6,rfl,d9⟩:=hl.sl.form;have i8:=b5.size;have O:=O.fr b5<|λhk=>a0.neB O dd hk;have I:=I.fr b5<|λhk=>a0.neB I dd hk;have ho:=ho.fr b5<|λk_ b1 b2=>(Own.neO a0 ho dd) k_ b1 b2;have Z:=Z.fr b5<|λk_ b1 b2=>(Own.neO a0 Z dd) k_ b1 b2;have a2:=Own.neB hl O dd;refine z3i U O U sz58<|λi2 O b8 i9=>(kpL (ll5 1 2 7 8 9) U<|nl<|bn'<|tn<|rg<|ad6 U<|mv U<|nl ?_);have I:=I.fr b8;have ho:=ho.fr b8 (by first|exact z9x ho oo|simp[z0v]<;>omega);have hl:=hl.fr b8 (by intro k hk D;rw[l11.1 hk]at D;first|exact a8 D|exact a7 D|exact a2 D|(have:=(hl.blk _ D).2;omega));have Z:=Z.fr b8 (by intro k hk D;rw[l11.1 hk]at D;first|exact a5 D|exact a6 D|(have:=(Z.blk _ D).2;omega));exact lpE ((i+1,_)) U ⟨((((q1.z6 q2 q3 q4 q5 a9 b0).n1 b4).step b5<|λk hk c9=>absurd (a0.blk k hk).1 oo).z1 b8),⟨sm,I,by rw[b3];exact ho,O,by rw[b3];exact hl,b9.trans (KpW.trans (KpW.trans (KpW.trans (KpW.trans (KpW.trans (KpW.fr<|q2.z3 q3 q4 q5)<|KpW.one a9 sp0)<|KpW.one b0 sp0)<|KpW.fr b4)<|KpW.app b5 a0)<|KpW.one b8 sp0),Z⟩⟩ sm;have b3:z3o (ord,ls) (cs.take<|i+1)=(z3o (ord,ls)<|cs.take i):=by rw[y9g c9,u7d U oo]
 refine sk<|bn'<|tn<|rg<|ad6 U<|mv U<|nl ?_;have I:=I.ext q4;have ho:=ho.ext q4;have O:=((O.ext q2).fr q3).ext q4;have hl:=((hl.ext q2).fr q3 (by intro k hk D;rw[l11.1 hk]at D;first|exact a8 D|exact a7 D|exact a2 D|(have:=(hl.blk _ D).2;omega))).ext q4;have Z:=((Z.ext q2).fr q3 (by intro k hk D;rw[l11.1 hk]at D;first|exact a5 D|exact a6 D|(have:=(Z.blk _ D).2;omega))).ext q4;exact lpE ((i+1,_)) U ⟨(q1.z3 q2 q3 q4),⟨sm,I,by rw[b3];exact ho,O,by rw[b3];exact hl,b9.trans (KpW.fr<|q2.z2 q3 q4),Z⟩⟩ sm;obtain rfl:i=cs.length:=by omega
 rw[l40]at ho hl;exact ex<|te<|te<|xh<|r0n U  ⟨_,rfl,rfl,⟨_,I,ho,O,hl⟩,b9,q1⟩
theorem x3h:z1e prog 146 0 0:=λ_ _=>kr
theorem y2j:z1e prog 146 1 2:=λ_ _=>kr
theorem u1q:z1e prog 146 2 3:=λ_ _=>kr
theorem q1c:z2e prog 144:=λ_=>kr
theorem u7v (wS:World)(Z:WdA)(q:BdQ)(rk:Int)(st:G26.St)(ro:Int)(w0:World)(I:WdM τp (tvW Z) wS Z w0 q rk st)(hv:BdOk q.p)(a5:StT wS)(hr:-4<=rk/\rk<=4)(ht:-4<=ro/\ro<=4)(b3:st.1.length<=1000)(b4:st.2.length<=64):Rets prog 75 #[pta Z.gf,.int .i64 ro] w0 λr w'=>r=.tuple #[]/\WdM τp (tvW Z) wS Z w' q ro (z7v q.p rk ro st):=by
 refine wf func75 U ?_;have a1:=I;refine bl<|lpK (ι:=Nat) (ll2 0 1) (λn=>[]) (λn w'=>∃(D:Int) (O:G26.St),(z7v q.p rk ro st=z7v q.p D ro O/\(-4<=D/\D<=4)/\-(n:Int)<=ro-D/\ro-D<=n/\O.1.length=st.1.length/\O.2.length+640*n<=5184)/\WdM τp (tvW Z) wS Z w' q D O) (λn=>n) 8 U ⟨rk,st,⟨rfl,hr,oo,oo,rfl,oo⟩,I⟩ ?_;rintro n w1 ⟨D,O,⟨a4,a8,b0,b1,a9,b5⟩,I⟩;have a1:=I;refine kpC (ll2 0 1) U ?_;have hk:=I.f;refine sq<|sr<|mv U<|nlc U<|fad U y2j<|z0i U hk U na3<|mv U<|ne' U<|nn<|cd U (λc0=>?_)<|λc0=>?_;have a7:D≠ro:=c0;have b6:=(y0v (z2g q.p D (if ro<D then (0:Int) else 1)) O).2;have b7:=y8q hv D (if ro<D then (0:Int) else 1);have b8:-1<=stI (if ro<D then (0:Int) else 1)/\stI (if ro<D then (0:Int) else 1)<=1:=by unfold stI;split<;>simp
 refine sk<|tn<|bl<|sr<|asg U<|asg U<|nn<|jn (ι:=Unit) (ll2 0 1) (λ_j=>[(4,.int .u8 (if ro<D then (0:Int) else 1)),(5,.int .i64<|stI (if ro<D then (0:Int) else 1))]) (λ_j w'=>Fr [] w1 w') U ?_ ?_;refine sr<|mv U<|mv U<|nlc U<|fad U y2j<|z0i U hk U na3<|lt' U<|nn<|cd U (λc1=>?_)<|λc1=>?_;refine rg<|asg U<|asg U<|nl ?_;exact jE (()) (.c4 U U (congrArg (λz=>some<|Value.int .u8 z) (by first|exact(if_pos c1).symm|exact(if_neg c1).symm))<|congrArg (λz=>some<|Value.int .i64 z) (by first|(rw[show (if ro<D then (0:Int) else 1)=0 from if_pos c1];rfl)|(rw[show (if ro<D then (0:Int) else 1)=1 from if_neg c1];rfl)))<|l12 _ _;refine sk ?_;exact jE (()) (.c4 U U (congrArg (λz=>some<|Value.int .u8 z) (by first|exact(if_pos c1).symm|exact(if_neg c1).symm))<|congrArg (λz=>some<|Value.int .i64 z) (by first|(rw[show (if ro<D then (0:Int) else 1)=0 from if_pos c1];rfl)|(rw[show (if ro<D then (0:Int) else 1)=1 from if_neg c1];rfl)))<|l12 _ _;rintro _j w2 q2;refine kpC (ll4 0 1 4 5) U<|sq ?_;have I:=a1.ext q2;intro a h;refine rgh none (Fr []) ?_;intro w3 q3 hC;have I:=I.ext q3;have hk:=hk.ext<|q2.n1 q3;have a2:=I;have a0:=hk;refine z0e 0 h U λa h=>z0p 1 h U λa h=>z0c 2 h U x3h U λa h=>z1f (vs:=[_,_]) 3 h U (fx a0.ext) z4y U U λa h=>z0e 4 h U λa h=>z0p 5 h U λa h=>z0c 6 h U y2j U λa h=>z0m 7 h U (fx a0.ext) U na3 U λa h=>z0e 8 h U λa h=>z0d 9 U ?_;refine z0n h (z0a U<|z0a U<|z0a U z0f) cO (v9x q D (if ro<D then (0:Int) else 1) _ I.bat hv (a5.ext I.fr) a8 (by split<;>simp) t64) ?_;rintro _ w4 ⟨⟨gx,rfl,b2,hX⟩,q4⟩ a h;have I:=I.ext q4;have hk:=hk.ext q4;have hC:=hC.next q4;refine z0b<|z0e 10 h U λa h=>z0k 11 h U λa h=>z0k 12 h U λa h=>z0d 13 U<|z0o h U λa h=>?_;refine z0b<|z0d 14 U<|z0o h U λa h=>?_;refine z0b<|z0q ?_;clear hC a2 a0;refine xB (ll4 0 1 5 6) h U<|tn<|sr<|mv U<|nlc U<|fad U u1q<|z0i U hk U q1c<|mv U ?_;obtain⟨lv,a3,hl⟩:=I.l;refine clv (us:=[]) (ws:=[pta Z.go,pta Z.gl]) U (ev1 U) cO (j6k Z.go Z.gl Z.gO wS.heap.size lv _ O.1 O.2 (z2g q.p D (if ro<D then (0:Int) else 1)) wS _ I.fr I.gs.2.1 I.gs.2.2 (l20 _) I.o I.od a3 hl (hX.low<|l16 _) oo oo k4w) U t14 ?_;rintro _ w5 ⟨rfl,⟨b9,k1,k2,k3,k4⟩,kk,kf⟩;have hT:=(y0v (z2g q.p D (if ro<D then (0:Int) else 1)) O).1;have I:=I.tell τpk (o:=(z3o O<|z2g q.p D (if ro<D then (0:Int) else 1)).1) (ls:=(z3o O<|z2g q.p D (if ro<D then (0:Int) else 1)).2) kk (by rw[hT];exact k1) (by rw[hT];exact k2) k3 k4 kf;have a1:=I;have hk:=I.f;clear a3 hl k1 k2 k3 k4 kk;refine kpL (ll3 0 1 5) U<|nn<|rg<|mv U<|nlc U<|fad U y2j<|z0i U hk U na3<|mv U<|ad6 U<|nlc U<|fad U y2j<|z3r U hk U sz3<|λw6 a6 q6 z6=>?_;have I:=I.rack τpk (r:=D+stI (if ro<D then (0:Int) else 1)) a6 q6;have a1:=I;refine kpL (ll2 0 1) U<|nl<|bn' ?_;exact lpE ((n-1)) U ⟨D+stI (if ro<D then (0:Int) else 1),z3o O<|z2g q.p D (if ro<D then (0:Int) else 1),⟨by rw[a4,v6j a7],t64,t64,t64,hT.trans a9,oo⟩,I⟩ oo;refine ex<|te<|te<|xh<|r0n U  ?_;obtain rfl:D=ro:=by omega
 exact⟨_,rfl,rfl,by rw[a4,u8v];exact I⟩
theorem u6r (wS:World)(ka:WdA)(q:BdQ)(rk:Int)(st:G26.St)(b p:Int)(n m:Nat)(w0:World)(hW:WdM τp (tvW ka) wS ka w0 q rk st)(hv:BdOk q.p)(a9:p=(n:Int))(b1:z4l b p rk=(m:Int))(hn:z3m b p=0)(hm:z3m (1-b) (z4l b p rk)=0)(c9:(q.p.at b p)≠[])(h4:(q.p.at b p).length+(q.p.at (1-b)<|z4l b p rk).length<=4)(hr:-4<=rk/\rk<=4):Rets prog 76 #[pta ka.gf,.agg #[.int .u8 b,.int .i64 p]] w0 λr w'=>r=.tuple #[]/\∃q':BdQ,WdM τp (tvW ka) wS ka w' q' rk st/\q'.p=(q.p.put b p []).put (1-b) (z4l b p rk) (y1t q.p b p<|z4l b p rk):=by
 have e0:=z2t hn;have hk:=hW.f;have d9:=hk.lt;have b3:=hW.lts;refine wf func76 U ?_;have b4:=hW;refine sr<|bx U<|λg3 w1 d7 D q1 z1=>(nn<|sq ?_);intro a h;refine rgh none (Fr []) ?_;intro w2 q2 hC;have z2:=q2.size;have hk:=hk.ext<|q1.n1 q2;have D:=D.ext q2;have a0:=hk;have O:=D;refine z0c 0 h U z7d U λa h=>z0m 1 h U (fx O.ext) U na3 U λa h=>z0e 2 h U λa h=>z0p 3 h U λa h=>z0c 4 h U y2j U λa h=>z0m 5 h U (fx a0.ext) U na3 U λa h=>z3a 6 h U t12 U λa h=>z3j (cs:=[_,_]) 7 h (z0a U<|z0a U z0f) y8v (z0g U<|z0g U z0r) U U λa h=>z0d 8 U ?_;refine z0u h x4f U λw3 I q3 hz a h=>?_;obtain⟨a1,hg⟩:∃g,g=w2.heap.size:=⟨_,rfl⟩;rw[<-hg]at I h hz;have b9.gf_4:ka.gf<a1:=by have:=hk.lt;omega
 have d1:g3<a1:=by have:=D.lt;omega
 have z3:=q3.size;have hk:=hk.ext q3;have D:=D.ext q3;have hC:=hC.next q3;refine z0b<|z0d 9 U<|z0t h U I U y2m λw4 a3 q4 hz a h=>?_;have z4:=q4.size;have hk:=hk.fr q4;have D:=D.fr q4;have hC:=hC.sp q4;have I:Blk w4 a1 _ [_,_]:=a3;clear a3;refine z0b<|z0q ?_;clear hC a0 O;refine xB (ll3 0 3 4) h U<|tn<|jn (ι:=Unit) (ll3 0 3 4) (λu_=>[]) (λu_ w'=>Fr [a1] w4 w'/\Blk w' a1 48 [.int .u8 (1-b),.int .i64 (z4l b p rk)]) U ?_ ?_;refine sr<|fad U z7e<|z0i U D U x9t<|eq' U<|nn<|cd U (λc0=>?_)<|λc0=>?_;intro a h;refine rgh (some 8) (Fr [a1]) ?_;intro w5 q5 hC;have z5:=q5.size;have hk:=hk.ext q5;have D:=D.ext q5;have I:=I.ext q5;have a0:=hk;have O:=D;have a2:=I;refine z0c 0 h U z7d U λa h=>z0m 1 h U (λ_ hw=>O.fr hw (λk_=>by simp at k_;omega)) U na3 U λa h=>z0e 2 h U λa h=>z0p 3 h U λa h=>z0c 4 h U y2j U λa h=>z0m 5 h U (λ_ hw=>a0.fr hw (λk_=>by simp at k_;omega)) U na3 U λa h=>z6t 6 h U t12 U λa h=>z3j (cs:=[_,_]) 7 h (z0a U<|z0a U z0f) y8v (z0g U<|z0g U z0r) U U λa h=>z0d 8 U ?_;refine z0t h U I U y2m λw6 a3 q6 hz a h=>?_;have z6:=q6.size;have hk:=hk.fr q6;have D:=D.fr q6;have I:Blk w6 a1 _ [_,_]:=a3;clear a3;refine z1m<|z0q ?_;clear hC a0 O a2;exact xB (ll3 0 3 4) h U<|jE (()) U ⟨((l12 [a1] _).z2 q5 q6),by rw[show (1:Int)-b=0 by omega,show z4l b p rk=p+rk from if_pos c0];exact I⟩;exact sk<|jE (()) U ⟨(l12 _ _),by rw[show (1:Int)-b=1 by omega,show z4l b p rk=p-rk from if_neg c0];exact I⟩;rintro _u w7 ⟨q7,I⟩;have z7:=q7.size;have d0:=I.lt;refine kpC (ll3 0 3 4) U<|sq ?_;have hW:=b4.ext<|q1.z4 q2 q3 q4 q7;have hk:=hk.fr q7;have D:=D.fr q7;intro a h;refine rgh none (Fr []) ?_;intro w8 q8 hC;have z8:=q8.size;have hW:=hW.ext q8;have hk:=hk.ext q8;have D:=D.ext q8;have I:=I.ext q8;have b2:=hW;have a0:=hk;have O:=D;have a2:=I;refine z0e 0 h U λa h=>z0p 1 h U λa h=>z0c 2 h U x3h U λa h=>z1f (vs:=[_,_]) 3 h U (fx a0.ext) z4y U U λa h=>z0x 4 h U (fx O.ext) z5k U λa h=>z0x 5 h U (fx a2.ext) z5k U λa h=>z1v 6 10 kr U ?_ ?_;refine z0n h (z0a U<|z0a U<|z0a U z0f) cO (by have x:=x2s q b n m _ hW.bat hv (by rw[<-a9];exact hn) (by rw[<-b1];exact hm) (by rw[<-a9];exact c9);rw[<-a9,<-b1]at x;exact x) ?_;rintro _ w9 ⟨⟨q',rfl,b5⟩,q9⟩ a h;have z9:=q9.size;have hk:=hk.ext q9;have D:=D.ext q9;have I:=I.ext q9;have hC:=hC.next q9;rw[if_neg oo]at h;obtain⟨hQ,b8⟩:=b5 oo;refine z0b<|z0e 7 h U λa h=>z0k 8 h U λa h=>z0k 9 h U λa h=>z0d 10 U<|z0u h x9w U λe3 Z a5 hz a h=>?_;obtain⟨a4,hg⟩:∃g,g=w9.heap.size:=⟨_,rfl⟩;rw[<-hg]at Z h hz;have b9.gf_5:ka.gf<a4:=by have:=hk.lt;omega
 have b7:g3<a4:=by have:=D.lt;omega
 have b0:a1<a4:=by have:=I.lt;omega
 have e8:=a5.size;have hW:=hW.ext<|q9.n1 a5;have hk:=hk.ext a5;have D:=D.ext a5;have I:=I.ext a5;first|have hQ:=BdO.ext hQ a5|have hQ:=BdO.tf hQ a5 (OffT.one Z dd)<|OffT.one Z dd
 have hC:=hC.next a5;refine z0b<|z0d 11 U<|z0t h U Z U x1s λd5 a3 a6 hz a h=>?_;have e9:=a6.size;have hk:=hk.fr a6;have D:=D.fr a6;have I:=I.fr a6;first|have hQ:=BdO.ext hQ a6|have hQ:=BdO.tf hQ a6 (OffT.one Z dd)<|OffT.one Z dd
 have hC:=hC.sp a6;have Z:Blk d5 a4 _ [_,_]:=a3;clear a3;refine z0b<|z0d 12 U<|z0o h U λa h=>?_;refine z0b<|z0q ?_;clear hC b2 a0 O a2;refine xB (ll3 0 5 6) h U<|tn<|sr<|mv U<|eq' U<|nn<|cd U (λc1=>?_)<|λc1=>?_;refine rg<|mv U<|z0l U Z z4y<|nlc U<|fad U x3h ?_;have hW:=b4.ext<|((q1.z6 q2 q3 q4 q7 q8 q9).n1 a5).z1 a6;refine z5o (cs':=bdL q'++[.int .i64 rk,tvW ka]) U U hk t43 x1s U<|λe4 b6 d3 f0=>?_;have hW:=hW.put τpk b3 (hQ.low oo) b6 d3;exact kpL [] .nil<|nl<|r0n U  ⟨_,rfl,rfl,q',hW,b8⟩;exact absurd U c1;refine z0u h x9w U λe5 Z a8 hz a h=>?_;obtain⟨a4,hg⟩:∃g,g=w8.heap.size:=⟨_,rfl⟩;rw[<-hg]at Z h hz;have b9.gf_5:ka.gf<a4:=by have:=hk.lt;omega
 have b7:g3<a4:=by have:=D.lt;omega
 have b0:a1<a4:=by have:=I.lt;omega
 have f1:=a8.size;have hW:=hW.ext a8;have hC:=hC.next a8;refine z0b<|z0d 6 U<|z0n h (z0a U<|z0a U<|z0a U z0f) cO (by have x:=x2s q b n m _ hW.bat hv (by rw[<-a9];exact hn) (by rw[<-b1];exact hm) (by rw[<-a9];exact c9);rw[<-a9,<-b1]at x;exact x) ?_;rintro _ e6 ⟨⟨q',rfl,b5⟩,q14⟩ a h;have f2:=q14.size;have hW:=hW.ext q14;have hk:=hk.ext<|a8.n1 q14;have D:=D.ext<|a8.n1 q14;have I:=I.ext<|a8.n1 q14;have Z:=Z.ext q14;have hC:=hC.next q14;rw[if_neg oo]at h;obtain⟨hQ,b8⟩:=b5 oo;refine z0b<|z0e 7 h U λa h=>z0k 8 h U λa h=>z0k 9 h U λa h=>z0d 11 U<|z0t h U Z U x1s λd6 a3 a7 hz a h=>?_;have f3:=a7.size;have hk:=hk.fr a7;have D:=D.fr a7;have I:=I.fr a7;first|have hQ:=BdO.ext hQ a7|have hQ:=BdO.tf hQ a7 (OffT.one Z dd)<|OffT.one Z dd
 have hC:=hC.sp a7;have Z:Blk d6 a4 _ [_,_]:=a3;clear a3;refine z0b<|z0d 12 U<|z0o h U λa h=>?_;refine z0b<|z0q ?_;clear hC b2 a0 O a2;refine xB (ll3 0 5 6) h U<|tn<|sr<|mv U<|eq' U<|nn<|cd U (λc1=>?_)<|λc1=>?_;refine rg<|mv U<|z0l U Z z4y<|nlc U<|fad U x3h ?_;have hW:=b4.ext<|((q1.z6 q2 q3 q4 q7 q8 a8).n1 q14).z1 a7;refine z5o (cs':=bdL q'++[.int .i64 rk,tvW ka]) U U hk t43 x1s U<|λe7 b6 d4 f4=>?_;have hW:=hW.put τpk b3 (hQ.low oo) b6 d4;exact kpL [] .nil<|nl<|r0n U  ⟨_,rfl,rfl,q',hW,b8⟩;exact absurd U c1
end Go.Proofs.YtkafbfjmcigaiaaGreatDoor
namespace Go.G08
open Go.Lw Go.G21
end Go.G08
namespace Go.G08
open Go.Lw Go.G21
end Go.G08
namespace Go.G08
open Go.Lw Go.G21
end Go.G08
namespace Go.G08
open Go.Lw Go.G21
end Go.G08
namespace Go.G08
open Go.Lw Go.G21
end Go.G08
namespace Go.G09
open Go.Lw Go.G21 Go.G08
structure Hz where
  o:Int
  k:Int
  id:LId
deriving DecidableEq
def isMk (o:MOp):Prop:=o.k=4\/o.k=5
instance (o:MOp):Decidable (isMk o):=inferInstanceAs<|Decidable<|_\/_
def isYn (o:MOp):Prop:=o.k=1\/o.k=2\/o.k=6
instance (o:MOp):Decidable (isYn o):=inferInstanceAs<|Decidable<|_\/_
end Go.G09
namespace Go.G08
open Go.Lw Go.G21
def u5c (p:Pa):Pa:=⟨p.id,p.f,1-p.d⟩
theorem u9u {p:Pa}(h:z4w p.d):u1z p (u5c p):=by
 unfold z4w at h;exact⟨⟨h,by unfold z4w u5c;simp only;omega,by unfold u5c;simp only;omega⟩,rfl,rfl⟩
theorem j6i {p q:Pa}(h:u1z p q):p=u5c q:=by
 obtain⟨⟨D,Z,h3⟩,I,O⟩:=h;obtain⟨i,f,d⟩:=p;unfold z4w at D Z;simp only at D h3 I O;unfold u5c;rw[I,O,show d=1-q.d by omega]
theorem v6n {st:List Pa}{p:Pa}(h:y3x st)(hp:z4w p.d):z7r (z7r st p) (u5c p)=st:=by
 by_cases c:0<st.length/\u1z (st.getD (st.length-1) pa0) p;rw[show z7r st p=st.take (st.length-1) from if_pos c];obtain⟨c0,O⟩:=c;have D:=j6i O;have hl:(st.take<|st.length-1).length=st.length-1:=by rw[l27];omega
 unfold z7r;rw[hl,if_neg,<-D,List.getD,l10 oo,l59,List.take_append_getElem];rw[show st.length-1+1=st.length by omega,l40];rintro⟨Z,I⟩;rw[List.getD,l53,if_pos oo,<-List.getD,<-D]at I;exact(h (st.length-1) oo).2 Z I;rw[show z7r st p=st++[p] from if_neg c];unfold z7r;have e:(st++[p]).getD ((st++[p]).length-1) pa0=p:=by simp
 rw[if_pos ⟨sp0,by rw[e];exact u9u hp⟩];simp
theorem v7h (st l m:List Pa):z3x st (l++m)=z3x (z3x st l) m:=by unfold z3x;rw[l123]
def u5h (l:List Pa):List Pa:=(l.map u5c).reverse
theorem y9k:∀ {l st:List Pa},y3x st->v7e l->z3x (z3x st l) (u5h l)=st
 | [],st,_,_=>rfl
 | p::l,st,h,hv=>by
  have I:=x6u h<|hv p (l35 ..)
  have D:=y9k (l:=l) I λq O=>hv q<|l36 _ O
  unfold u5h at D ⊢
  rw[l28,List.reverse_cons,v7h,show z3x st (p::l)=z3x (z7r st p) l from U,D]
  exact v6n h (hv p (l35 ..)).2
theorem u6w {l:List Pa}(h:v7e l):v7e (u5h l):=λp O=>by
 obtain⟨q,Z,rfl⟩:=l55.1<|l120.1 O
 obtain⟨D,I⟩:=h q Z
 unfold z4w at I
 exact⟨D,by unfold z4w u5c;simp only;omega⟩
theorem j9i {y:Yn}{pl:Int}{l:List Pa}(h1:y0z y)(D:x2y pl)(I:v7e l)(O:y.inn=true)(Z:(z3x y.pe l).length<=4096):goE y pl l=0:=by
 unfold goE;rw[if_neg (by rw[j1v h1];simp),if_neg (not_not_intro D),if_neg (not_not_intro I),if_neg (by rw[O];simp),if_neg oo]
theorem k2d {y:Yn}{pl:Int}{l:List Pa}(h:goE y pl l=0):y0z y/\x2y pl/\v7e l/\y.inn=true/\(z3x y.pe l).length<=4096:=by
 unfold goE at h;split at h;contradiction;rename_i D;split at h;cases h;rename_i I;split at h;cases h;rename_i O;split at h;cases h;rename_i Z;split at h;cases h;rename_i h5;refine⟨l63 λe=>D (by rw[j6o e];decide),l15.1 I,l15.1 O,by simpa using Z,oo⟩
theorem k5u {y:Yn}(h:y0z y)(hi:y.inn=true):y3x y.pe/\y.pe.length<=4096/\x2y y.pl:=by
 have:=h.2;rw[if_pos hi]at this;exact⟨this.2.2,this.2.1,this.1⟩
theorem j7o {y:Yn}{pl:Int}{l:List Pa}(h:goE y pl l=0):goE (goS y pl l) y.pl (u5h l)=0/\goS (goS y pl l) y.pl (u5h l)=y:=by
 obtain⟨O,h2,D,I,h5⟩:=k2d h;obtain⟨Z,k2,k3⟩:=k5u O I;have e:z3x (goS y pl l).pe (u5h l)=y.pe:=y9k Z D;refine⟨j9i (k0p h) k3 (u6w D) I (by rw[e];exact k2),?_⟩;unfold goS at e ⊢;simp only at e ⊢;rw[e]
theorem y1z {d:Int}(h:d=0\/d=1):stI (1-d) = - stI d/\(stI d=1\/stI d = -1):=by
 rcases h with rfl|rfl<;>exact⟨rfl,dd⟩
theorem x9x {r:Int}{k:Nat}(I:k<40)(D:-4<=r/\r<=4):z2b 1 ((k:Int)+1) r=4*((k:Int)+1+r):=by
 unfold z2b;rw[if_neg (λe=>by rcases e with e|e;exact e<|y2i ⟨.inr U,oo,oo⟩;exact e D),if_neg dd]
theorem u6h {B:Bd}{r d x:Int}{k:Nat}(I:k<40)(Z:d=0\/d=1)(hr:-4<=r/\r<=4)(D:-4<=r+stI d/\r+stI d<=4):y3d B (r+stI d) (1-d) x k=(y3d B r d x k).map u5c:=by
 obtain⟨O,h2⟩:=y1z Z;unfold y3d;rw[x9x I hr,x9x I D,O];by_cases e:x≠4*((k:Int)+1+r)+stI d/\x≠4*((k:Int)+1+r)+3*stI d;rw[if_pos e,if_pos oo];rfl;rw[if_neg e,if_neg oo,l75];rfl
theorem v4j {B:Bd}{r d x:Int}(I:d=0\/d=1)(O:-4<=r/\r<=4)(D:-4<=r+stI d/\r+stI d<=4):∀ {i:Nat},i<=40->z7u B (r+stI d) (1-d) x i=(z7u B r d x i).map u5c
 | 0,_=>rfl
 | i+1,hi=>by
  have Z:=v4j (B:=B) (x:=x) I O D (i:=i) oo
  unfold z7u at Z ⊢
  rw[l66,l38,l38,l31,Z]
  simp only[l37,l107,l24]
  rw[u6h oo I O D]
theorem u5y {B:Bd}{r d x:Int}(O:BdOk B)(I:d=0\/d=1)(Z:-4<=r/\r<=4)(D:-4<=r+stI d/\r+stI d<=4):z4q B (r+stI d) (1-d) x=u5h (z4q B r d x):=by
 have h:=v4j (B:=B) (x:=x) I Z D O.lb;unfold z4q u5h;rw[h];rcases I with rfl|rfl
 rw[if_pos dd,if_neg dd];rw[if_neg dd,if_pos U,List.map_reverse,List.reverse_reverse]
theorem v4v {p q:MSt}{d:Int}(Z:BdOk p.B)(hd:d=0\/d=1)(hr:-4<=p.rk/\p.rk<=4)(I:-4<=p.rk+stI d/\p.rk+stI d<=4)(e1:q.B=p.B)(e2:q.rk=p.rk+stI d):∀ {l l':List Yn},z3g p d l=.ok l'->z3g q (1-d) l'=.ok l
 | [],l',h=>by cases h;rfl
 | y::l,l',h=>by
  unfold z3g at h
  split at h
  ·cases h
  rename_i y' D
  split at h
  ·cases h
  rename_i l1 hl
  cases h
  have ih:=v4v Z hd hr I e1 e2 hl
  have O:z6g q (1-d) y'=.ok y:=by
   unfold z6g at D ⊢
   rw[e1,e2]
   by_cases hi:y.inn=false
   ·rw[if_pos hi]at D;cases D;exact if_pos hi
   rw[if_neg hi]at D
   split at D
   ·cases D
   rename_i hg
   cases D
   obtain⟨g1,g2⟩:=j7o<|l15.1 hg
   rw[if_neg (show ¬(goS y y.pl<|z4q p.B p.rk d y.pl).inn=false from hi),u5y Z hd hr I]
   show (if goE (goS y y.pl<|z4q p.B p.rk d y.pl) y.pl (u5h<|z4q p.B p.rk d y.pl)≠0 then _ else Except.ok (goS (goS y y.pl<|z4q p.B p.rk d y.pl) y.pl<|u5h<|z4q p.B p.rk d y.pl))=_
   rw[if_neg (not_not_intro g1),g2]
  unfold z3g
  rw[O,ih]
def u8w (c:Cx):Cx:=⟨c.b,c.a,-c.n⟩
theorem j5m {B:Bd}{r d:Int}(D:d=0\/d=1)(k:Nat):v5x B (r+stI d) (1-d) k=(v5x B r d k).map u8w:=by
 unfold v5x;rw[List.map_flatMap,show y0d (r+stI d) (1-d) k=y0d r d k by rcases D with rfl|rfl<;>(simp[y0d,stI];try omega)];congr 1;funext x;rw[l75];congr 1;funext o;rcases D with rfl|rfl<;>rfl
theorem v2d {B:Bd}{r d:Int}(D:d=0\/d=1):z2g B (r+stI d) (1-d)=((z2g B r d).map u8w).reverse:=by
 have h:∀i,x2d B (r+stI d) (1-d) i=(x2d B r d i).map u8w:=λi=>by
  unfold x2d;rw[List.map_flatMap];congr 1;funext k;exact j5m D k
 unfold z2g;rw[h];rcases D with rfl|rfl
 rw[if_pos dd,if_neg dd];rw[if_neg dd,if_pos U,List.map_reverse,List.reverse_reverse]
theorem z6u {a b:LId}{c:Cx}{l:List Cx}:z5l (c::l) a b=if isC a b c=true then c.n else z5l l a b:=by
 unfold z5l;rw[List.find?_cons];split<;>rename_i h<;>rw[h]<;>rfl
theorem j4b {a b a' b':LId}{n:Int}(h:¬(a'=a/\b'=b)):isC a b ⟨a',b',n⟩=false:=by unfold isC;simpa using h
theorem v2x {a b a' b':LId}{n:Int}:∀l:List Cx,z5l (l++[⟨a',b',n⟩]) a b=if l.any (isC a b)=true then z5l l a b else if a'=a/\b'=b then n else 0
 | []=>by
  rw[l43,z6u]
  by_cases h:a'=a/\b'=b
  ·rw[if_pos (by unfold isC;simpa using h),if_neg sp0,if_pos h]
  rw[if_neg (by rw[j4b h];simp),if_neg sp0,if_neg h];rfl
 | c::l=>by
  rw[l48,z6u,z6u,List.any_cons,v2x l]
  cases isC a b c<;>simp
theorem y7u {a b:LId}:∀ {l:List Cx},¬l.any (isC a b)=true->z5l l a b=0
 | [],_=>rfl
 | c::l,h=>by
  rw[List.any_cons,Bool.or_eq_true,not_or]at h
  rw[z6u,if_neg h.1,y7u h.2]
theorem v1n {a b a' b':LId}{n:Int}:∀l:List Cx,z5l (l.map λc=>if isC a' b' c then ⟨a',b',n⟩ else c) a b=if a'=a/\b'=b then (if l.any (isC a b)=true then n else 0) else z5l l a b
 | []=>by simp[z5l]
 | c::l=>by
  have I:=v1n (a:=a) (b:=b) (a':=a') (b':=b') (n:=n) l
  rw[l28,z6u,I,z6u]
  by_cases e:a'=a/\b'=b
  ·obtain⟨rfl,rfl⟩:=e
   have e1:a'=a'/\b'=b':=⟨rfl,rfl⟩
   by_cases h:isC a' b' c=true
   ·rw[if_pos h,if_pos (by simp[isC]),if_pos e1,if_pos (by rw[List.any_cons,h];rfl)]
   rw[if_neg h,if_neg h,if_pos e1,if_pos e1]
   by_cases k:l.any (isC a' b')=true
   ·rw[if_pos k,if_pos (by rw[List.any_cons,k,Bool.or_true])]
   rw[if_neg k,if_neg (by rw[List.any_cons,Bool.or_eq_true];rintro(x|x);exact h x;exact k x)]
  rw[if_neg e,if_neg e]
  cases h:isC a' b' c
  ·simp
  rw[if_pos U,j4b e]
  have:isC a b c=false:=by
   rw[<-Bool.not_eq_true,y0o];rw[y0o]at h
   intro D;rw[h]at D;exact e (by simpa using D)
  rw[this,if_neg sp0,if_neg sp0]
theorem v3l {l:List Cx}{a b a' b':LId}{n:Int}:z5l (y5o l a' b' n) a b=if a'=a/\b'=b then n else z5l l a b:=by
 unfold y5o;by_cases h:l.any (isC a' b')=true;rw[if_pos h,v1n];by_cases e:a'=a/\b'=b;rw[if_pos e,if_pos e,if_pos (by rw[<-e.1,<-e.2];exact h)];rw[if_neg e,if_neg e];rw[if_neg h,v2x];by_cases e:a'=a/\b'=b;rw[if_pos e,if_neg (by rw[<-e.1,<-e.2];exact h),if_pos e];rw[if_neg e];split;rfl;rename_i D;rw[y7u D]
theorem x1n {a b a' b':LId}:∀l:List Cx,z5l (x9a l a' b') a b=if a'=a/\b'=b then 0 else z5l l a b
 | []=>by simp[z5l,x9a]
 | c::l=>by
  have D:=x1n (a:=a) (b:=b) (a':=a') (b':=b') l
  unfold x9a at D ⊢
  rw[l61,z6u]
  cases h:isC a' b' c
  ·simp only[Bool.not_false,if_true]
   rw[z6u,D]
   by_cases e:a'=a/\b'=b
   ·rw[if_pos e,if_pos e,if_neg (by rw[<-e.1,<-e.2,h];simp)]
   rw[if_neg e,if_neg e]
  simp only[Bool.not_true,Bool.false_eq_true,if_false]
  rw[D]
  by_cases e:a'=a/\b'=b
  ·rw[if_pos e,if_pos e]
  rw[if_neg e,if_neg e,if_neg]
  rw[y0o]at h ⊢
  intro I;rw[h]at I;exact e (by simpa using I)
theorem y2z {l l':List Cx}{c:Cx}(h:y4i l c=.ok l')(a b:LId):z5l l' a b=if z4j c=(a,b) then z5l l a b+c.n else z5l l a b:=by
 rw[y4c]at h;generalize z4j c=k at h ⊢;obtain⟨x,y⟩:=k;simp only at h;by_cases h1:z5l l x y+c.n < -1048576\/1048576<z5l l x y+c.n;rw[if_pos h1]at h;cases h;rw[if_neg h1]at h;by_cases e:x=a/\y=b;obtain⟨rfl,rfl⟩:=e;rw[if_pos U];by_cases h2:z5l l x y+c.n=0;rw[if_pos h2]at h;cases h;rw[x1n,if_pos ⟨rfl,rfl⟩];omega;rw[if_neg h2]at h;cases h;rw[v3l,if_pos ⟨rfl,rfl⟩];rw[if_neg (by simpa using e)];by_cases h2:z5l l x y+c.n=0;rw[if_pos h2]at h;cases h;rw[x1n,if_neg e];rw[if_neg h2]at h;cases h;rw[v3l,if_neg e]
theorem u0d {l:List Cx}{c:Cx}(h:-1048576<=z5l l (z4j c).1 (z4j c).2+c.n/\z5l l (z4j c).1 (z4j c).2+c.n<=1048576):∃l',y4i l c=.ok l':=by
 rw[y4c,if_neg oo];split<;>exact⟨_,rfl⟩
theorem y8h {a b:LId}(h:a≠b):(0<z6q a b↔¬0<z6q b a):=by
 constructor;intro D I;have:=x6x D;omega;intro D;have I:=v3m (l51 h) D;unfold z6q at I ⊢;(repeat' split at I)<;>(repeat' split)<;>omega
theorem j1e {c:Cx}(h:c.a≠c.b):z4j (u8w c)=z4j c:=by
 unfold z4j u8w;have:=y8h h;by_cases e:0<z6q c.a c.b;rw[if_pos e,if_neg (this.1 e)];rw[if_neg e,if_pos (l63 λk=>e<|this.2 k)]
theorem y1g {l r:List Cx}{c:Cx}:z3s l (c::r)=match y4i l c with|.error e=>.error e|.ok l'=>z3s l' r:=rfl
theorem x6v:∀ {x y l:List Cx},z3s l (x++y)=match z3s l x with|.error e=>.error e|.ok l'=>z3s l' y
 | [],y,l=>rfl
 | c::x,y,l=>by
  rw[l48,y1g,y1g]
  cases y4i l c with
  | error e=>rfl
  | ok l'=>exact x6v
theorem u1u:∀ {L l l':List Cx},k6t l->z3s l L=.ok l'->(∀c∈L,c.a≠c.b)->∃D,z3s l' (L.map u8w).reverse=.ok D/\∀a b,z5l D a b=z5l l a b
 | [],l,l',_,h,_=>by cases h;exact⟨_,rfl,λ_ _=>rfl⟩
 | c::L,l,l',hv,h,hne=>by
  unfold z3s at h
  split at h
  ·cases h
  rename_i l1 I
  obtain⟨D,h2,O⟩:=u1u (u4l hv I) h λx hx=>hne x<|l36 _ hx
  have hk:=j1e<|hne c (l35 ..)
  have hg:=y2z I (z4j c).1 (z4j c).2
  rw[if_pos U]at hg
  have hr:=v4n (a:=(z4j c).1) (b:=(z4j c).2) hv
  obtain⟨l3,Z⟩:=u0d (l:=D) (c:=u8w c) (by rw[hk,O,hg];show _<=_ + -c.n/\_ + -c.n<=_;omega)
  refine⟨l3,?_,λa b=>?_⟩
  ·rw[l28,List.reverse_cons,x6v,h2]
   show z3s D [u8w c]=_
   unfold z3s
   rw[Z];rfl
  rw[y2z Z,hk,O,y2z I]
  split
  ·show _+c.n + -c.n=_;omega
  rfl
theorem v1y {l:List Cx}{c:Cx}(hn:(l.map λc=>(c.a,c.b)).Nodup)(O:∀x∈l,x.n≠0):c∈l↔c.n≠0/\z5l l c.a c.b=c.n:=by
 constructor;intro h;refine⟨O c h,?_⟩;unfold z5l;rw[y5v hn h U];rfl;rintro⟨Z,D⟩;unfold z5l at D;cases e:l.find? (isC c.a c.b) with
 | none=>rw[e]at D;exact absurd D.symm Z
 | some x=>
  rw[e]at D;have I:=y0o.1<|List.find?_some e;have h4:=List.mem_of_find?_eq_some e;obtain⟨xa,xb,xn⟩:=x;obtain⟨ca,cb,cn⟩:=c;simp only[l94]at I;obtain⟨rfl,rfl⟩:=I;obtain rfl:xn=cn:=D;exact h4
theorem y5j {l:List Cx}(h:(l.map λc=>(c.a,c.b)).Nodup):l.Nodup:=List.Pairwise.of_map _ (λ_ _ h e=>h t15) h
theorem v7g {T T':Tb}{l l':List Cx}(h:CrsOk T l)(D:CrsOk T' l')(e:∀a b,z5l l' a b=z5l l a b):l'.Perm l:=by
 refine(List.perm_ext_iff_of_nodup (y5j D.nd)<|y5j h.nd).2 λc=>?_;rw[v1y h.nd λx I=>(h.has x I).2.2.2.2,v1y D.nd λx I=>(D.has x I).2.2.2.2,e]
theorem j5i {p q:MSt}{d:Int}(h:MVal p)(Z:d=0\/d=1)(I:-4<=p.rk+stI d/\p.rk+stI d<=4)(e:z3l p d=.ok q):∃p',z3l q (1-d)=.ok p'/\Eqv p p':=by
 have hq:=y0b h I e;have hr:=h.inv.rk;have hs:=y1z Z;have a0:(p.rk+stI d)+stI (1-d)=p.rk:=by omega
 have e0:=e;unfold z3l at e;split at e;cases e;rename_i ys a1;split at e;cases e;rename_i D O;cases e;have h1:=v4v (q:={ p with ys:=ys,cr:=D,rk:=p.rk+stI d }) h.inv.B Z hr I U U a1;obtain⟨l2,h2,h3⟩:=u1u h.inv.cv O λc hc=>(y7f h.inv.B.nd hc).2.2.1;rw[<-v2d Z]at h2;have h4:z3l { p with ys:=ys,cr:=D,rk:=p.rk+stI d } (1-d)=.ok { p with cr:=l2,rk:=p.rk+stI d+stI (1-d) }:=by
  unfold z3l;rw[h1];show (match z3s D (z2g p.B (p.rk+stI d)<|1-d) with|.error e=>(.error e:MR)|.ok D=>.ok { p with cr:=D,rk:=p.rk+stI d+stI (1-d) })=_;rw[h2]
 have h5:=(y0b hq (show -4<=p.rk+stI d+stI (1-d)/\p.rk+stI d+stI (1-d)<=4 by omega) h4).cr;exact⟨_,h4,a0.symm,rfl,rfl,rfl,(v7g h.cr h5 h3).symm,.refl _,h.cr.nd⟩
def itS:Nat->MSt->Int->MR
  | 0,p,_=>.ok p
  | n+1,p,d=>match z3l p d with
    | .error e=>.error e
    | .ok q=>itS n q d
theorem y8p {p q:MSt}{d:Int}(e:z3l p d=.ok q):q.rk=p.rk+stI d:=by
 unfold z3l at e;split at e;cases e;split at e;cases e;cases e;rfl
theorem x9s {r d:Int}(D:d=0\/d=1):∀ {k n:Nat} {p:MSt},k<=n->r=p.rk+k*stI d->z3p n p r=itS k p d
 | 0,0,p,_,_=>rfl
 | 0,n+1,p,_,h=>by unfold z3p;rw[if_pos (by simpa using h.symm)];rfl
 | k+1,n+1,p,hk,h=>by
  have O:=(y1z D).2
  have hm:((k+1:Nat):Int)*stI d=k*stI d+stI d:=by rw[Int.natCast_add,Int.add_mul];simp
  rw[hm]at h
  have a0:(k:Int)*stI d=k\/(k:Int)*stI d = -k:=by rcases O with e|e<;>rw[e]<;>simp
  have Z:(k:Int)*stI d=k↔(stI d=1\/k=0):=by rcases O with e|e<;>rw[e]<;>simp<;>omega
  unfold z3p itS
  rw[if_neg (by rcases O with e|e<;>rw[e]at h<;>simp at h<;>omega)]
  have I:(if r<p.rk then 0 else 1:Int)=d:=by
   rcases D with rfl|rfl
   ·have:stI 0 = -1:=rfl
    rw[this]at h;rw[if_pos (by simp at h;omega)]
   have:stI 1=1:=rfl
   rw[this]at h;rw[if_neg (by simp at h;omega)]
  rw[I]
  cases e:z3l p d with
  | error x=>rfl
  | ok q=>exact x9s D oo (by rw[y8p e];omega)
theorem v7j {d:Int}:∀ {k:Nat} {p:MSt},itS (k+1) p d=match itS k p d with|.error e=>.error e|.ok q=>z3l q d
 | 0,p=>by
  show (match z3l p d with|.error e=>(.error e:MR)|.ok q=>itS 0 q d)=z3l p d
  cases z3l p d<;>rfl
 | k+1,p=>by
  show (match z3l p d with|.error e=>(.error e:MR)|.ok q=>itS (k+1) q d)=match (match z3l p d with|.error e=>(.error e:MR)|.ok q=>itS k q d) with|.error e=>(.error e:MR)|.ok q=>z3l q d
  cases z3l p d with
  | error e=>rfl
  | ok q=>exact v7j
theorem k2u {d:Int}(O:d=0\/d=1):∀ {k:Nat} {p q:MSt},MVal p->(-4<=p.rk+k*stI d/\p.rk+k*stI d<=4)->itS k p d=.ok q->∃p',itS k q (1-d)=.ok p'/\Eqv p p'
 | 0,p,q,h,_,e=>by cases e;exact⟨_,rfl,Eqv.refl h.cr.nd⟩
 | k+1,p,q,h,hr,e=>by
  have hm:((k+1:Nat):Int)*stI d=k*stI d+stI d:=by rw[Int.natCast_add,Int.add_mul];simp
  rw[hm]at hr
  have hs:=(y1z O).2
  have h0:=h.inv.rk
  have D:-4<=p.rk+stI d/\p.rk+stI d<=4:=by
   rcases hs with e|e<;>rw[e]at hr ⊢<;>simp at hr<;>omega
  unfold itS at e
  split at e
  ·cases e
  rename_i p1 I
  obtain⟨Z,h2,h3⟩:=k2u O (y0b h D I) (by rw[y8p I];omega) e
  obtain⟨p2,h4,h5⟩:=j5i h O D I
  have h6:=x7k h3<|1-d
  rw[h4]at h6
  rw[v7j,h2]
  dsimp only
  revert h6
  cases z3l Z (1-d) with
  | error x=>exact λh=>h.elim
  | ok p3=>exact λh=>⟨_,rfl,h5.trans h⟩
theorem j6t {p q:MSt}{r:Int}(h:MVal p)(hr:-4<=r/\r<=4)(e:z3p 8 p r=.ok q):∃I,z3p 8 q p.rk=.ok I/\Eqv p I:=by
 have h0:=h.inv.rk;have O:∀d:Int,(d=0\/d=1)->∀k:Nat,k<=8->r=p.rk+k*stI d->∃I,z3p 8 q p.rk=.ok I/\Eqv p I:=λd hd k hk D=>by
  rw[x9s hd hk D]at e;obtain⟨I,h1,h2⟩:=k2u hd h (by rw[<-D];exact hr) e;have hq:q.rk=r:=by
   have Z:∀ {k:Nat} {p q:MSt},itS k p d=.ok q->q.rk=p.rk+k*stI d:=by
    intro k;induction k with
    | zero=>intro p q e;cases e;simp
    | succ k ih=>
     intro p q e;unfold itS at e;split at e;cases e;rename_i p1 h1;rw[ih e,y8p h1,Int.natCast_add,Int.add_mul];simp;omega
   rw[Z e,<-D]
  refine⟨I,?_,h2⟩;rw[<-h1];refine x9s (d:=1-d) oo hk ?_;rw[hq,(y1z hd).1,D,Int.mul_neg];omega
 by_cases c:p.rk<=r;exact O 1 (.inr U) (r-p.rk).toNat oo (by rw[show stI 1=1 from U];omega);exact O 0 (.inl U) (p.rk-r).toNat oo (by rw[show stI 0 = -1 from U];omega)
theorem u3y {p:MSt}{y:Int}{q:Yn}(h:(y-1).toNat<p.ys.length):(p.setY y q).y y=q:=by
 unfold MSt.setY MSt.y;simp only;rw[List.getD,l122 (by exact h)];rfl
theorem u3u {p q:MSt}{y pl en:Int}(e:z8x p y pl en=.ok q):goE (p.y y) pl (y1r p y en)=0/\q=p.setY y (goS (p.y y) pl<|y1r p y en):=by
 unfold z8x at e;split at e;cases e;rename_i h;cases e;exact⟨l15.1 h,rfl⟩
theorem j7d {p:MSt}{y pl en:Int}(h:goE (p.y y) pl (y1r p y en)=0):z8x p y pl en=.ok (p.setY y<|goS (p.y y) pl<|y1r p y en):=by
 unfold z8x;rw[if_neg (not_not_intro h)]
theorem x1l:∀ {l l':Bed},(∀i,l.getD i []=l'.getD i [])->z1x l=z1x l'
 | [],l',h=>(y6a l' λs I=>by
  obtain⟨i,hi,rfl⟩:=l29 I
  have:=h i
  rw[List.getD,List.getD,l10 hi]at this
  exact this.symm).symm
 | s::l,[],h=>y6a _ λt O=>by
  obtain⟨i,hi,rfl⟩:=l29 O
  have:=h i
  rw[List.getD,l10 hi]at this
  exact this
 | s::l,s'::l',h=>by
  have D:=h 0
  simp only[l76]at D
  have Z:=x1l (l:=l) (l':=l') λi=>by have:=h<|i+1;simpa only[l58] using this
  unfold z1x
  rw[Z,D]
theorem k4c {B C:Bd}(Z:TrB B)(hC:TrB C)(lB:BdOk B)(lC:BdOk C)(h:∀b n,z3m b n=0->B.at b n=C.at b n):B=C:=by
 have D:∀(l l':Bed),l.length<=40->l'.length<=40->(∀i:Nat,i<40->atB l ((i:Int)+1)=atB l' ((i:Int)+1))->∀i,l.getD i []=l'.getD i []:=λl l' h1 h2 h3 i=>by
  by_cases hi:i<40;have:=h3 i hi;unfold atB at this;rw[show ((i:Int)+1-1).toNat=i by omega]at this;exact this;rw[List.getD,List.getD,l32 oo,l32 oo]
 have e:∀b:Int,(b=0\/b=1)->∀i:Nat,i<40->B.at b ((i:Int)+1)=C.at b ((i:Int)+1):=λb hb i hi=>h _ _<|y2i ⟨hb,oo,oo⟩;obtain⟨f,b⟩:=B;obtain⟨O,I⟩:=C;have e1:=x1l<|D f O lB.lf lC.lf λi hi=>e 0 (.inl U) i hi;have e2:=x1l<|D b I lB.lb lC.lb λi hi=>e 1 (.inr U) i hi;have t1:z1x f=f:=Z.1;have t2:z1x b=b:=Z.2;have t3:z1x O=O:=hC.1;have t4:z1x I=I:=hC.2;rw[t1,t3]at e1;rw[t2,t4]at e2;rw[e1,e2]
theorem j8z {p a:MSt}{o o':MOp}(h:MInv p)(hT:TrB p.B)(hn:z3m o.b o.p=0)(Z:o'.b=1-o.b)(ep:o'.p=z4l o.b o.p p.rk)(h0:p.B.at o'.b o'.p=[])(e:z5v p o=.ok a):z5v a o'=.ok p:=by
 have hi:=x1h h hn e;unfold z5v at e;rw[<-Z,<-ep]at e;split at e;cases e;rename_i k1;split at e;cases e;rename_i O;split at e;cases e;rename_i k3;split at e;cases e;rename_i k4;have O:=l15.1 O;obtain⟨n1,n2⟩:=z2t hn;have hS:z7h p o=p.B.at o.b o.p:=by
  unfold z7h;rw[ep]at h0;rcases n1 with n1|n1
  rw[n1]at Z h0 ⊢;rw[if_neg dd,show p.B.at 1 (z4l 0 o.p p.rk)=[] by rw[<-h0,Z];rfl];rfl;rw[n1]at Z h0 ⊢;rw[if_pos U,show p.B.at 0 (z4l 1 o.p p.rk)=[] by rw[<-h0,Z];rfl,l24]
 rw[hS]at e;cases e;have a3:¬(o'.b=o.b/\o'.p=o.p):=λx=>by omega
 have D:z4l o'.b o'.p p.rk=o.p:=by
  rw[ep];unfold z4l;rw[Z];rcases n1 with n1|n1
  rw[n1];simp;rw[n1];simp
 have a0:1-o'.b=o.b:=by omega
 have a1:((p.B.put o.b o.p []).put o'.b o'.p<|p.B.at o.b o.p).at o'.b o'.p=p.B.at o.b o.p:=by rw[z5d _ O O,if_pos ⟨rfl,rfl⟩]
 have a2:((p.B.put o.b o.p []).put o'.b o'.p<|p.B.at o.b o.p).at o.b o.p=[]:=by
  rw[z5d _ O hn,if_neg (λx=>a3 ⟨x.1.symm,x.2.symm⟩),z5d _ hn hn,if_pos ⟨rfl,rfl⟩]
 have a5:z7h { p with B:=(p.B.put o.b o.p []).put o'.b o'.p (p.B.at o.b o.p) } o'=p.B.at o.b o.p:=by
  unfold z7h;rcases n1 with n1|n1
  rw[if_pos oo];rw[show (1:Int)=o'.b by omega];show (Bd.at _ o'.b o'.p)++(Bd.at _ 0<|z4l o'.b o'.p p.rk)=_;rw[D,a1,<-n1,a2,l24];rw[if_neg oo];rw[show (0:Int)=o'.b by omega];show (Bd.at _ 1<|z4l o'.b o'.p p.rk)++(Bd.at _ o'.b o'.p)=_;rw[D,a1,<-n1,a2];rfl
 have a4:y8x { p with B:=(p.B.put o.b o.p []).put o'.b o'.p (p.B.at o.b o.p) } o'=y8x p o:=by
  unfold y8x;show min (z2b o'.b o'.p p.rk) (z2b (1-o'.b) (z4l o'.b o'.p p.rk) p.rk)+1=_;rw[D,a0,Z,ep,Int.min_comm]
 have ex:z5v { p with B:=(p.B.put o.b o.p []).put o'.b o'.p (p.B.at o.b o.p) } o'=.ok { p with B:=(((p.B.put o.b o.p []).put o'.b o'.p<|p.B.at o.b o.p).put o'.b o'.p []).put o.b o.p (p.B.at o.b o.p) }:=by
  unfold z5v;rw[a5,a4];show (if Bd.at _ o'.b o'.p=[] then _ else if z3m (1-o'.b) (z4l o'.b o'.p p.rk)≠0 then _ else if _ then _ else if 4<(Bd.at _ o'.b o'.p).length+(Bd.at _ (1-o'.b)<|z4l o'.b o'.p p.rk).length then _ else _)=_;rw[D,a0,a1,a2,if_neg k1,if_neg (by rw[hn];simp),if_neg k3,if_neg (by rw[h0]at k4;simpa using k4)]
 rw[ex];have hB:(((p.B.put o.b o.p []).put o'.b o'.p<|p.B.at o.b o.p).put o'.b o'.p []).put o.b o.p (p.B.at o.b o.p)=p.B:=by
  refine k4c (x3y ..) hT (x1h hi O ex).B h.B λb n I=>?_;rw[z5d _ hn I,z5d _ O I,z5d _ O I,z5d _ hn I];by_cases c1:b=o.b/\n=o.p;rw[if_pos c1,c1.1,c1.2];rw[if_neg c1,if_neg c1];by_cases c2:b=o'.b/\n=o'.p;rw[if_pos c2,c2.1,c2.2,h0];rw[if_neg c2,if_neg c2]
 rw[hB]
structure PBd (p:MSt) (n:Nat):Prop where
  f:p.B.flat.length<=n
  e:∀k,(p.ys.getD k yn0).pe.length<=64*n
theorem v9g {B:Bd}{r d x:Int}(hB:BdOk B)(hd:d=0\/d=1)(hr:-4<=r/\r<=4):(z4q B r d x).length<=4:=by
 have D:=(y1z hd).2;have h4:∀k,(B.b.getD k []).length<=4:=λk=>by
  by_cases hk:k<B.b.length;rw[List.getD,l10 hk];exact hB.ss _<|l64 _<|l106 hk;rw[List.getD,l32 oo];simp
 have O:∀i,i<=40->(z7u B r d x i).length<=4/\(0<(z7u B r d x i).length->∃k:Nat,k<i/\(x=4*((k:Int)+1+r)+stI d\/x=4*((k:Int)+1+r)+3*stI d)):=by
  intro i;induction i with
  | zero=>intro _;exact⟨l16 _,λh=>absurd h (by simp[z7u])⟩
  | succ i ih=>
   intro hi;obtain⟨h1,Z⟩:=ih oo;have e:z7u B r d x (i+1)=z7u B r d x i++y3d B r d x i:=by
    unfold z7u;rw[l66,l38];simp
   rw[e,l13];unfold y3d;rw[x9x oo hr];by_cases c:x≠4*((i:Int)+1+r)+stI d/\x≠4*((i:Int)+1+r)+3*stI d;rw[if_pos c];refine⟨by simpa using h1,λh=>?_⟩;obtain⟨k,k1,I⟩:=Z (by simpa using h);exact⟨k,oo,I⟩;rw[if_neg c,l18];have h3:(z7u B r d x i).length=0:=l63 λh=>by
    obtain⟨k,k1,I⟩:=Z oo;rcases D with D|D<;>rw[D]at I c<;>omega
   exact⟨by have:=h4 i;omega,λ_=>⟨i,oo,oo⟩⟩
 have h5:=(O B.b.length hB.lb).1;unfold z4q;split;rw[l111];exact h5;exact h5
theorem x3s {B:Bd}{r a b:Int}:(btw (z2m B r) a b).length<=B.flat.length:=by
 have D:(z2m B r).length=B.flat.length:=by rw[(z8t _ _).length_eq,z9k]
 rw[<-D];unfold btw;split;rw[l18];exact List.length_filter_le _ _;rw[l111,l18];exact List.length_filter_le _ _
theorem x8o {p:MSt}{d:Int}(I:BdOk p.B)(O:d=0\/d=1)(Z:-4<=p.rk/\p.rk<=4):∀ {l l':List Yn},z3g p d l=.ok l'->∀k,(l'.getD k yn0).pe.length<=(l.getD k yn0).pe.length+4
 | [],l',h,k=>by cases h;simp
 | y::l,l',h,k=>by
  unfold z3g at h
  split at h
  ·cases h
  rename_i y' D
  split at h
  ·cases h
  rename_i l1 hl
  cases h
  cases k with
  | zero=>
   simp only[l76]
   unfold z6g at D
   split at D
   ·cases D;omega
   split at D
   ·cases D
   cases D
   have:=z5u (z4q p.B p.rk d y.pl) y.pe
   have:=v9g (x:=y.pl) I O Z
   show (z3x _ _).length<=_
   omega
  | succ k=>simpa only[l58] using x8o I O Z hl k
theorem v7i {r:Int}(I:-4<=r/\r<=4):∀ {n:Nat} {p q:MSt},MInv p->z3p n p r=.ok q->q.B=p.B/\∀k,(q.ys.getD k yn0).pe.length<=(p.ys.getD k yn0).pe.length+4*n
 | 0,p,q,_,e=>by cases e;exact⟨rfl,λ_=>oo⟩
 | n+1,p,q,hi,e=>by
  unfold z3p at e
  by_cases e0:p.rk=r
  ·rw[if_pos e0]at e;cases e;exact⟨rfl,λ_=>oo⟩
  rw[if_neg e0]at e
  have Z:=hi.rk
  have hd:(if r<p.rk then 0 else 1:Int)=0\/(if r<p.rk then 0 else 1:Int)=1:=by split<;>simp
  have O:-4<=p.rk+stI (if r<p.rk then 0 else 1)/\p.rk+stI (if r<p.rk then 0 else 1)<=4:=by
   unfold stI;split
   ·rw[if_pos U];omega
   rw[if_neg dd];omega
  split at e
  ·cases e
  rename_i p1 D
  obtain⟨h3,h4⟩:=v7i I (z7z hi O D).1 e
  refine⟨h3.trans<|u2s D,λk=>l42 (h4 k) ?_⟩
  unfold z3l at D
  split at D
  ·cases D
  rename_i ys a0
  split at D
  ·cases D
  cases D
  have:=x8o hi.B hd Z a0 k
  show (ys.getD k yn0).pe.length+_<=_
  omega
theorem v4t {ys:List Yn}{j:Nat}{q:Yn}{m:Nat}(h:∀k,(ys.getD k yn0).pe.length<=m)(D:q.pe.length<=m):∀k,((ys.set j q).getD k yn0).pe.length<=m:=λk=>by
 rw[List.getD,l114]
 split
 ·split
  ·exact D
  exact l16 _
 exact h k
theorem k7q {p q:MSt}{o:MOp}{n:Nat}(h:PBd p n)(hi:MInv p)(hn:n<=64)(e:doM p o=.ok q):PBd q (n+1):=by
 have he:∀k,(p.ys.getD k yn0).pe.length<=64*(n+1):=λk=>by have:=h.e k;omega
 have hf:=h.f;have D:∀ {pl en:Int} {r:MSt},z8x p o.y pl en=.ok r->r.B=p.B/\∀k,(r.ys.getD k yn0).pe.length<=64*(n+1):=λe=>by
  obtain⟨_,rfl⟩:=u3u e;refine⟨rfl,v4t he ?_⟩;have a1:=z5u (y1r p o.y ‹_›) (p.y o.y).pe;have a2:(y1r p o.y ‹_›).length<=p.B.flat.length:=x3s;have a3:=h.e (o.y-1).toNat;show (z3x _ _).length<=_;unfold MSt.y at a1 ⊢;omega
 have a0:∀ {r:MSt} {th st:List LId},z3m o.b o.p=0->r.B=p.B->(∀k,(r.ys.getD k yn0).pe.length<=64*(n+1))->(st=[]\/st=p.B.at o.b o.p)->y1m r o th st=.ok q->PBd q (n+1):=λI hB hr a5 e=>by
  unfold y1m at e;split at e;cases e;split at e;cases e;cases e;refine⟨?_,v4t hr<|l16 _⟩;have:=z6n p.B I (‹List LId›++[⟨o.y,(‹MSt›.y o.y).ct⟩]);show ((Bd.put _ _ _ _).flat).length<=_;rw[hB];rw[l13,l44]at this;rcases a5 with rfl|rfl
  simp only[l52]at this;omega;omega
 unfold doM at e;by_cases hc:z8v o≠0;rw[if_pos hc]at e;cases e;rw[if_neg hc]at e;obtain⟨hk,_,_,_,O,hr⟩:=z3u<|l15.1 hc;unfold opM at e;split at e;unfold inM at e;split at e;cases e;cases e;exact⟨Nat.le_succ_of_le hf,v4t he<|l16 _⟩;split at e;unfold x7f at e;split at e;cases e;cases e;exact⟨Nat.le_succ_of_le hf,v4t he<|l16 _⟩;split at e;rename_i k3;obtain⟨Z,h2⟩:=v7i (hr k3) hi e;exact⟨by rw[Z];omega,λk=>by have:=h2 k;have:=h.e k;omega⟩;split at e;rename_i k4;unfold y0f at e;split at e;cases e;split at e;cases e;rename_i r a4;obtain⟨Z,h2⟩:=D a4;exact a0 (O oo) Z h2 (.inl U) e;split at e;rename_i k5;unfold z9w at e;split at e;cases e;split at e;cases e;rename_i r a4;obtain⟨Z,h2⟩:=D a4;split at e;cases e;exact a0 (O oo) Z h2 (.inr (by rw[Z])) e;split at e;unfold y1x at e;split at e;cases e;obtain⟨Z,h2⟩:=D e;exact⟨by rw[Z];omega,h2⟩;split at e;rename_i k7;have I:=O oo;unfold z5v at e;split at e;cases e;split at e;cases e;rename_i k2;split at e;cases e;split at e;cases e;cases e;refine⟨?_,he⟩;have k2:=l15.1 k2;have a1:=z6n p.B I [];have a2:=z6n (p.B.put o.b o.p []) k2<|z7h p o;have a3:(z7h p o).length=(p.B.at o.b o.p).length+(p.B.at (1-o.b)<|z4l o.b o.p p.rk).length:=by
  obtain⟨n1,_⟩:=z2t I;unfold z7h;rcases n1 with n1|n1
  rw[n1,if_neg dd,l13,Nat.add_comm];rfl;rw[n1,if_pos U,l13];rfl
 rw[z5d _ I k2,if_neg (λx=>oo)]at a2;simp only[l52]at a1;show ((p.B.put o.b o.p []).put (1-o.b) (z4l o.b o.p p.rk)<|z7h p o).flat.length<=n+1;omega;rename_i k8;unfold y2l at e;split at e;cases e;cases e;refine⟨?_,he⟩;have a1:=z6n p.B (O oo) [];simp only[l52]at a1;show (p.B.put o.b o.p []).flat.length<=n+1;omega
theorem k2s {p:MSt}{n:Nat}(h:PBd p n):PBd (nrm p) n:=⟨h.f,h.e⟩
theorem k1x {l:List MOp}:∀ {i:Nat},i<=l.length->i<=60->PBd (sOf l i) i/\MVal (sOf l i)
 | 0,_,_=>⟨⟨by simp[sOf,start,Bd.flat],λk=>by
  have:start.ys.getD k yn0=yn0:=by simp only[start,List.getD,l62];split<;>rfl
  show (start.ys.getD k yn0).pe.length<=_
  rw[this];exact l16 _⟩,y8i⟩
 | i+1,hi,h60=>by
  obtain⟨D,I⟩:=k1x (l:=l) (i:=i) oo oo
  rw[u8n oo]
  unfold q0v
  cases e:doM (nrm<|sOf l i) (l.getD i op0) with
  | error x=>exact⟨⟨Nat.le_succ_of_le D.f,λk=>by have:=D.e k;show ((sOf l i).ys.getD k yn0).pe.length<=64*(i+1);omega⟩,I⟩
  | ok q=>exact⟨k7q (k2s D) (z2v I).inv oo e,v1l (z2v I) e⟩
theorem v2h {p q:MSt}{o:MOp}{D st:List LId}(e:y1m p o D st=.ok q):z4x q.tb<=z4x p.tb+1:=by
 unfold y1m at e;split at e;cases e;split at e;cases e;cases e;show z4x (p.tb.set (o.y-1).toNat<|p.row o.y++[_])<=_;by_cases hj:(o.y-1).toNat<p.tb.length;have:=y7e p.tb (o.y-1).toNat (p.row o.y++[⟨o.b,(p.y o.y).nw,D,(p.y o.y).pe⟩]) hj;rw[l13,l44,show (p.row o.y).length=z3k p.tb (o.y-1).toNat from U]at this;omega;rw[List.set_eq_of_length_le oo];omega
theorem x9z {p q:MSt}{y pl en:Int}(e:z8x p y pl en=.ok q):q.tb=p.tb:=by obtain⟨_,rfl⟩:=u3u e;rfl
theorem v1k {r:Int}:∀ {n:Nat} {p q:MSt},z3p n p r=.ok q->q.tb=p.tb
 | 0,p,q,e=>by cases e;rfl
 | n+1,p,q,e=>by
  unfold z3p at e
  split at e
  ·cases e;rfl
  split at e
  ·cases e
  rename_i I D
  refine(v1k e).trans ?_
  unfold z3l at D
  split at D
  ·cases D
  split at D
  ·cases D
  cases D;rfl
theorem j4c {p q:MSt}{o:MOp}(e:doM p o=.ok q):z4x q.tb<=z4x p.tb+1:=by
 have t:∀ {x:MSt},x.tb=p.tb->z4x x.tb<=z4x p.tb+1:=λh=>by rw[h];omega
 unfold doM at e;split at e;cases e;unfold opM at e;split at e;unfold inM at e;split at e;cases e;cases e;exact t U;split at e;unfold x7f at e;split at e;cases e;cases e;exact t U;split at e;exact t<|v1k e;split at e;unfold y0f at e;split at e;cases e;split at e;cases e;rename_i h;have:=v2h e;rw[x9z h]at this;exact this;split at e;unfold z9w at e;split at e;cases e;split at e;cases e;rename_i h;split at e;cases e;have:=v2h e;rw[x9z h]at this;exact this;split at e;unfold y1x at e;split at e;cases e;exact t<|x9z e;split at e;unfold z5v at e;repeat (split at e;· cases e)
 cases e;exact t U;unfold y2l at e;split at e;cases e;cases e;exact t U
end Go.G08
namespace Go.G09
open Go.Lw Go.G21 Go.G08
def k3 (l:List Hz):List Hz:=l.filter λh=>decide (h.k<=3)
def ctL (p:MSt):List Int:=p.ys.map Yn.ct
theorem v2i {p:MSt}{d:Int}:∀ {l l':List Yn},z3g p d l=.ok l'->l'.map Yn.ct=l.map Yn.ct
 | [],l',h=>by cases h;rfl
 | y::l,l',h=>by
  unfold z3g at h
  split at h
  ·cases h
  rename_i O D
  split at h
  ·cases h
  rename_i I hl
  cases h
  rw[l28,l28,v2i hl,(v2a D).2]
theorem u2y {r:Int}:∀ {n:Nat} {p q:MSt},z3p n p r=.ok q->ctL q=ctL p
 | 0,p,q,e=>by cases e;rfl
 | n+1,p,q,e=>by
  unfold z3p at e
  split at e
  ·cases e;rfl
  split at e
  ·cases e
  rename_i O D
  refine(u2y e).trans ?_
  unfold z3l at D
  split at D
  ·cases D
  rename_i ys I
  split at D
  ·cases D
  cases D;exact v2i I
theorem x7b {p q:MSt}{o:MOp}(e:doM p o=.ok q):z8v o=0/\opM p o=.ok q:=by
 unfold doM at e;split at e;cases e;rename_i h;exact⟨Decidable.not_not.1 h,e⟩
theorem j8l {p q:MSt}{o:MOp}(hr:-4<=p.rk/\p.rk<=4)(e:doM p o=.ok q)(I:o.k=3):q.rk=o.r/\q.B=p.B/\ctL q=ctL p:=by
 obtain⟨Z,e⟩:=x7b e;have h6:=(z3u Z).2.2.2.2.2 I;unfold opM at e;rw[if_neg oo,if_neg oo,if_pos I]at e;have D:∀ {k:Nat} {p q:MSt},(p.rk-o.r<=k/\o.r-p.rk<=k)->z3p k p o.r=.ok q->q.rk=o.r:=by
  intro k;induction k with
  | zero=>intro p q h e;cases e;omega
  | succ k ih=>
   intro p q h e;unfold z3p at e;by_cases e0:p.rk=o.r;rw[if_pos e0]at e;cases e;exact e0;rw[if_neg e0]at e;split at e;cases e;rename_i p1 O;refine ih ?_ e;rw[y8p O];unfold stI;split;rw[if_pos U];omega;rw[if_neg dd];omega
 exact⟨D (k:=8) oo e,x8y e,u2y e⟩
theorem u3o {p q:MSt}{o:MOp}(e:doM p o=.ok q)(hk:o.k=7):q.rk=p.rk/\ctL q=ctL p/\p.B.at o.b o.p≠[]/\z3m (1-o.b) (z4l o.b o.p p.rk)=0/\(p.B.at o.b o.p).length+(p.B.at (1-o.b)<|z4l o.b o.p p.rk).length<=4/\q.B=(p.B.put o.b o.p []).put (1-o.b) (z4l o.b o.p p.rk) (y1t p.B o.b o.p<|z4l o.b o.p p.rk):=by
 obtain⟨Z,e⟩:=x7b e;obtain⟨D,_,_⟩:=z2t<|(z3u Z).2.2.2.2.1 oo;unfold opM at e;rw[if_neg oo,if_neg oo,if_neg oo,if_neg oo,if_neg oo,if_neg oo,if_pos hk]at e;unfold z5v at e;split at e;cases e;rename_i I;split at e;cases e;rename_i O;split at e;cases e;split at e;cases e;rename_i h4;cases e;refine⟨rfl,rfl,I,Decidable.not_not.1 O,oo,?_⟩;show (p.B.put o.b o.p []).put _ _ (z7h p o)=_;congr 1;unfold z7h y1t;rcases D with D|D<;>rw[D]
 rw[if_neg dd,if_neg dd];rfl;rw[if_pos U,if_pos U];rfl
theorem x8z {p:MSt}{y a b e:Int}(h:z8x p y a b=.error e):e≠0:=by
 unfold z8x at h;split at h;rename_i D;cases h;exact D;cases h
theorem u2d {p:MSt}{o:MOp}{t s:List LId}{e:Int}(h:y1m p o t s=.error e):e≠0:=by
 unfold y1m at h;split at h;rename_i D;cases h;exact D;split at h;cases h;decide;cases h
theorem x5k {p:MSt}{d e:Int}:∀ {l:List Yn},z3g p d l=.error e->e≠0
 | [],h=>by cases h
 | y::l,h=>by
  unfold z3g at h;split at h
  ·rename_i e1 D
   cases h
   unfold z6g at D;split at D
   ·cases D
   split at D
   ·rename_i I;cases D;exact I
   cases D
  split at h
  ·rename_i e1 D
   cases h;exact x5k D
  cases h
theorem v1i {e:Int}:∀ {r l:List Cx},z3s l r=.error e->e≠0
 | [],l,h=>by cases h
 | c::r,l,h=>by
  unfold z3s at h;split at h
  ·rename_i e1 D
   cases h
   unfold y4i at D
   simp only at D
   generalize (if 0<z6q c.a c.b then (c.b,c.a) else (c.a,c.b))=k at D
   by_cases c1:z5l l k.1 k.2+c.n < -1048576\/1048576<z5l l k.1 k.2+c.n
   ·rw[if_pos c1]at D;cases D;decide
   rw[if_neg c1]at D;split at D<;>cases D
  exact v1i h
theorem v3h {r e:Int}:∀ {n:Nat} {p:MSt},z3p n p r=.error e->e≠0
 | 0,p,h=>by cases h
 | n+1,p,h=>by
  unfold z3p at h;split at h
  ·cases h
  split at h
  ·rename_i e1 D
   cases h
   unfold z3l at D;split at D
   ·rename_i e2 I;cases D;exact x5k I
   split at D
   ·rename_i e2 I;cases D;exact v1i I
   cases D
  exact v3h h
theorem q1t {p:MSt}{o:MOp}{e:Int}(h:doM p o=.error e):e≠0:=by
 unfold doM at h;split at h;rename_i D;cases h;exact D;unfold opM at h;split at h;unfold inM at h;split at h;rename_i D;cases h;exact D;cases h;split at h;unfold x7f at h;split at h;rename_i D;cases h;exact D;cases h;split at h;exact v3h h;split at h;unfold y0f at h;split at h;rename_i D;cases h;exact D;split at h;rename_i e1 I;cases h;exact x8z I;exact u2d h;split at h;unfold z9w at h;split at h;rename_i D;cases h;exact D;split at h;rename_i e1 I;cases h;exact x8z I;split at h;cases h;decide;exact u2d h;split at h;unfold y1x at h;split at h;rename_i D;cases h;exact D;exact x8z h;split at h;unfold z5v at h;split at h;cases h;decide;split at h;cases h;decide;split at h;cases h;decide;split at h;cases h;decide;cases h;unfold y2l at h;split at h;cases h;decide;cases h
theorem v3s {e:Int}{n:Nat}:∀ {l:List MOp} {i:Nat} {p:MSt},z2u i p l=.error (e,n)->e≠0
 | [],i,p,h=>by cases h
 | o::l,i,p,h=>by
  unfold z2u at h;split at h
  ·rename_i e1 D;cases h;exact q1t D
  exact v3s h
end Go.G09
namespace Go.Proofs.YtkafbfjmcigaiaaGreatDoor
open Go.Lw Go.G21 Go.G08 Go.G09 Go.G26 _root_.Go.Proofs.Tryz
theorem q1d:BuildAt prog 146 [(0,2),(2,1),(3,1)] [(.slice none 0 0),(.slice none 0 0),(.int .i64 0),.nilFunc]:=BuildAt.struct underlying146 (λ_=>kr)<|λ_=>kr
theorem q0m:z1s prog 144 1:=λ_=>kr
theorem q1k:z1s prog 146 4:=λ_=>kr
theorem zv58 (w:World):(zeroValue 58).run prog w=.ok (.slice none 0 0) w:=kr
theorem k9g (w:World):(zeroValue 146).run prog w=.ok (.agg #[(.slice none 0 0),(.slice none 0 0),(.int .i64 0),.nilFunc]) w:=kr
theorem u9b (A:Option Addr)(m c:Nat)(w0:World)(D:m<=c):Rets prog 77 #[.slice A m c] w0 λv w'=>v=.slice A m m/\w0=w':=by
 exact wf func77 U<|sr<|asg U<|nn<|sr<|mv U<|mv U<|lnS U<|mv U<|lnS U<|u4s U U U y1e oo oo oo z1j z1j U<|asg U<|kpL (ll1 2) U<|nn<|rt<|r1 U ⟨_,rfl,rfl,rfl⟩
theorem u5u {α:Type}{E:Enc α}{T base:Nat}{w:World}{A:Option Addr}{n c:Nat}{ys:List α}(h:Lw.Own E T base w (.slice A n c) ys):n=ys.length/\Lw.Own E T base w (.slice A n n) ys:=by
 rcases h with ⟨e,rfl⟩|⟨g,cap,cur,e,I,O,D,Z,h5,h6⟩
 cases e;exact⟨rfl,.inl ⟨rfl,rfl⟩⟩;cases e;exact⟨rfl,.inr ⟨g,ys.length,cur,rfl,I,O,l20 _,l42 D Z,l42 (l49 _ D) h5,h6⟩⟩
theorem j5v (s:StQ)(p q:MSt)(N:Nat)(v:Value)(l:List MOp)(w0:World)(hS:StAt w0 s)(hP:StP s p N)(hv:Sl z3c w0 v l)(g6:StT w0)(g5:isP l=true)(hr:z2u 0 (nrm p) l=.ok q)(l4:l.length<=4096)(h8:p.B.flat.length<=8):Rets prog 30 #[svv s,v] w0 λr w'=>(∃A ws e,r=.tuple #[.slice A ws.length ws.length,.int .i64 e]/\Lw.Own Enc.i64 3 w0.heap.size w' (.slice A ws.length ws.length) ws/\((y1h (nrm p) l=none/\e=3/\ws=[])\/(y1h (nrm p) l=some ws/\e=0)))/\Fr [] w0 w':=by
 obtain⟨A,c,rfl,l0⟩:=id hv.form;have g4:BdOk s.q.p:=hP.BE▸hP.v.inv.B;have i9:-4<=s.rk/\s.rk<=4:=by rw[hP.rkE];exact hP.v.inv.rk
 have d1:z2m (nrm p).B (nrm p).rk=z2m s.q.p s.rk:=by rw[hP.BE,hP.rkE];rfl
 have f1:(z2m s.q.p s.rk).length<=8:=by rw[(z8t _ _).length_eq,z9k,hP.BE];exact h8
 refine wf func30 U ?_;have d9:=hS;have j1:=hv;have e0:=g6;refine sr<|bx U<|λg2 w1 l1 a9 q1 z1=>(asg U<|asg U<|nn<|sr<|fad U z7f<|z1u (vs:=[_,_]) U a9 z4y U<|fad U y2s<|z0i U a9 U na3 ?_);have hS:=d9.ext q1;refine cl (ev2 U) cO (v1z s.q _ _ hS.b g4 i9) ?_;rintro _ w2 ⟨⟨g3,lh,n,c9,d0,l6,rfl,k4,hH⟩,q2⟩;have z2:=q2.size;have g9:=(hH.blk g3 t10).2;have l7:n<=8:=by rw[d0,c9];exact f1
 refine mv U<|xt U<|xt U<|asg U<|asg U<|kpL (ll4 1 2 6 7) U<|nn<|sq<|sq<|rbo (r:=29) (L':=ll4 1 2 6 7) (((0≠0)\/((n:Int)=0))) U ?_ ?_;refine mv U<|ne' U<|mv U<|gs 25 U (λg0=>?_)<|λg0=>?_;exact gN U<|gN U<|gN U<|pkt U<|rbe U<|U;exact gY U<|mv U<|gY U<|lnS U<|gY U<|eq' U<|pkf U<|rbe U<|U;refine tn<|cd U (λc0=>?_)<|λc0=>?_;have e7:z2m s.q.p s.rk=[]:=by rw[<-c9];exact l116.1 oo
 exact sr<|mv U<|asg U<|asg U<|kpL (ll2 4 5) U<|nn<|rt<|tr<|r2 U U U ⟨_,rfl,⟨none,[],0,rfl,Own.nil _,.inr ⟨by unfold y1h;rw[if_pos (d1.trans e7)],rfl⟩⟩,(q1.n1 q2)⟩;have e9:z2m s.q.p s.rk≠[]:=λe=>by rw[<-c9]at e;rw[e]at d0;exact absurd d0 (by first|(simp only[l52];omega)|(intro h_;simp at h_;omega))
 refine sk<|tn<|sr<|mv U<|lnS U<|z1g (m:=n) (c:=n) (id0) U z4m z9l U<|λO w3 k6 ho q3 z3=>(al k8r U<|λg8 w4 l2 a5 q4 z4=>(z3i U a5 U j1w<|λw5 a5 q5 z5=>(nn<|sq<|sr<|mv U<|lnS U<|mv U<|nn<|bl ?_)));have ho:=(ho.ext q4).fr q5 (by intro k hk hb;simp at hk;subst hk;have:=(ho.blk _ hb);omega);refine lpK (ι:=Nat×List LId) (ll5 1 2 8 34 35) (λp_=>[(36,.int .i64 (p_.1:Int))]) (λp_ w'=>Fr [O] w5 w'/\p_.1<=n/\p_.2.length=n/\Lw.Own z1h 54 w0.heap.size w' (.slice (saa O) n n) p_.2/\(∀j,j<p_.1->p_.2.getD j id0=(lh.getD j hd0).id)) (λp_=>n-p_.1) (0,List.replicate n id0) U ⟨l12 _ _,⟨l16 _,sp0,ho.low oo,λj hj=>absurd hj sp0⟩⟩ ?_;rintro⟨i,ps⟩ w6 ⟨q6,⟨h0,a3,ho,d5⟩⟩;simp only at h0 ho d5 a3;have z6:=q6.size;refine kpC [(1,_),(2,_),(8,_),(34,_),(35,_),(36,.int .i64 (i:Int))] U<|sr<|lt' U<|nn<|sq<|cd U (λc1=>?_)<|λc1=>?_;refine sk<|tn<|sq<|bl<|sr<|mv U ?_;have hH:=((hH.ext<|q3.n1 q4).fr q5 t11).fr q6 t11;refine z1a (hd0) U hH.sl U z4e z1j<|λj8 e3=>?_;refine z1q U (e3 _ hH.sl) z6e<|al u4p U<|λk8 w7 k0 b2 q7 z7=>?_;refine asg U<|z0j (vs:=[_,_,_,_,_]) U b2 z9e (λw8 b2 q8 z8=>?_) (h1:=t26);refine nn<|rg ?_;have a5:=((a5.fr q6).ext q7).fr q8;refine z2a U a5 z6k<|mv U<|fad U x9v<|z1u (vs:=[_,_]) U b2 z2y U ?_;have ho:=(ho.ext q7).fr q8 (by intro k hk hb;simp at hk;subst hk;have:=(ho.blk _ hb);omega);refine z6a (p:=i) (E:=z1h) U z4m<|z3t (i:=i) (((lh.getD i hd0).id)) U ho oo U y1b<|λw9 ho q9 z9=>(kpL (ll6 1 2 8 34 35 36) U<|nl<|bn'<|tn<|rg<|ad6 U<|mv U<|nl ?_);exact lpE ((i+1,ps.set i<|(lh.getD i hd0).id)) U ⟨((l12 [O] _).z4 q6 q7 q8 q9),⟨sm,by simp only[l19];exact a3,ho,λj hj=>by
  simp only at hj ⊢;rw[z1k oo];split;rename_i e;subst e;rfl;exact d5 j oo⟩⟩ sm
 obtain rfl:n=i:=by omega
 refine ex<|te<|te<|xh<|tn<|sr<|al zv58 U<|λI m1 k1 a7 b4 m8=>(nn<|sr<|fad U z7f ?_);have a9:=(((a9.ext<|q2.n2 q3 q4).fr q5).fr q6).ext b4;refine z1u (vs:=[_,_]) U a9 z4y U<|fad U y2s<|z0i U a9 U na3<|z1r (cs:=[_,_,_,_]) (ev2 U) q1d (z0g U<|z0g U z0r) U ?_;refine al k9g U<|λa0 m2 k2 a1 b5 m9=>?_;refine z0j (vs:=[_,_,_,_]) U a1 q1k (λm3 a1 b6 n7=>?_) (h1:=t26);refine kpL (ll4 1 8 11 12) U<|nn<|sr<|z5j z0f (ev2 U)<|fad U u1q<|z3r U a1 U q0m<|λf8 a1 b7 n8=>?_;replace a1:Blk f8 a0 _ [_,_,_,_]:=a1;have a5:=(((a5.fr q6).ext<|b4.n1 b5).fr b6).fr b7;have ho:=((ho.ext<|b4.n1 b5).fr b6 (by intro k hk hb;simp at hk;subst hk;have:=(ho.blk _ hb);omega)).fr b7 (by intro k hk hb;simp at hk;subst hk;have:=(ho.blk _ hb);omega);have a7:=((a7.ext b5).fr b6).fr b7;have i0:=u4o (a3.trans d0)<|λj hj=>d5 j oo;have hW:WdM τp (tvW (⟨a0,g8,I,O⟩:WdA)) w0 (⟨a0,g8,I,O⟩:WdA) f8 s.q s.rk (ps,[]):=⟨a1,.inl d9.b,by rw[show ((ps,([]:List Int)):G26.St).1.length=n from a3];exact a5,by rw[show ((ps,([]:List Int)):G26.St).1.length=n from a3];exact ho.low oo,⟨_,a7,Own.nil _⟩,((((q1.z6 q2 q3 q4 q5 q6 b4).n1 b5).z1 b6).z1 b7),sm,sm,sm⟩;have a8:=hW;refine nn<|sq<|sr<|mv U<|lnS U<|mv U<|nn<|bl<|lpK (ι:=Nat) (ll4 11 12 54 55) (λi=>[(56,.int .i64 (i:Int))]) (λi w'=>Fr [] w0 w'/\i<=l.length/\∃(pi:MSt) (D:G26.St) (qi:BdQ) (lv:Value),(z2u i pi (l.drop i)=.ok q/\MInv pi/\qi.p=pi.B/\z9f (nrm p) (z3n<|nrm p,[]) l=z9f pi D (l.drop i)/\D.1.length=n/\D.2.length<=64)/\WdM τp (tvW (⟨a0,g8,I,O⟩:WdA)) w0 (⟨a0,g8,I,O⟩:WdA) w' qi pi.rk D/\Blk w' I 58 [lv]/\Lw.Own Enc.i64 3 w0.heap.size w' lv D.2) (λi=>l.length-i) 0 U ⟨((((q1.z6 q2 q3 q4 q5 q6 b4).n1 b5).z1 b6).z1 b7),⟨l16 _,nrm p,(ps,[]),s.q,_,⟨by rw[List.drop_zero];exact hr,(z2v hP.v).inv,hP.BE,by rw[List.drop_zero,show z3n (nrm p)=ps from by unfold z3n;rw[d1,<-c9];exact i0.symm],a3,sp0⟩,(show s.rk=(nrm p).rk from hP.rkE)▸hW,a7,Own.nil _⟩⟩ ?_;rintro i m4 ⟨d6,⟨l3,pi,D,qi,lv,⟨i7,a2,a6,d3,f2,j0⟩,hW,Z,hl⟩⟩;have n9:=d6.size;have a8:=hW;have d4:=Z.lt;refine kpC (ll5 11 12 54 55 56) U<|sr<|lt' U<|nn<|sq<|cd U (λc2=>?_)<|λc2=>?_;have e8:i<l.length:=by omega
 obtain⟨hdr,m,b9,i8⟩:=u6d i7 e8;obtain⟨h6,h5⟩:=u1d g5 e8;have b8:=z3u h5;have h7:(opW pi (l.getD i op0) D).1.length=n:=by
  unfold opW;split;exact(x4t a2.B D a2.rk<|b8.2.2.2.2.2 t13).1.trans f2;exact f2
 have k7:(opW pi (l.getD i op0) D).2.length<=100000:=by
  unfold opW;split;have:=(x4t a2.B D a2.rk<|b8.2.2.2.2.2 t13).2;omega;omega
 refine sk<|tn<|sq<|bl<|sr ?_;have hv:=j1.ext d6;refine z1a (op0) U hv U y2n z1j<|λj9 e4=>?_;refine z1q U (e4 _ hv) y3t<|al u5d U<|λk9 m5 k5 a4 f4 o0=>?_;refine z0j (vs:=[_,_,_,_,_,_]) U a4 v5u (λm6 a4 f5 o1=>?_) (h1:=t26);refine nn<|jn (ι:=Unit) (ll5 11 12 54 55 56) (λu_=>[]) (λu_ w'=>Fr [] w0 w'/\∃(qn:BdQ) (b0:Option Addr) (b1:Nat),qn.p=m.B/\WdM τp (tvW (⟨a0,g8,I,O⟩:WdA)) w0 (⟨a0,g8,I,O⟩:WdA) w' qn m.rk (opW pi (l.getD i op0) D)/\Blk w' I 58 [.slice b0 (opW pi (l.getD i op0) D).2.length b1]/\Lw.Own Enc.i64 3 w0.heap.size w' (.slice b0 (opW pi (l.getD i op0) D).2.length b1) (opW pi (l.getD i op0) D).2) U ?_ ?_;refine sr<|fad U z8s<|z0i U a4 U v7d<|eq' U<|nn<|cd U (λc3=>?_)<|λc3=>?_;have h9:=b8.2.2.2.2.2 c3;obtain⟨i3,i4,-⟩:=j8l a2.rk b9 c3;refine rg<|fad U y4y<|z0i U a4 U na3 ?_;have hW:=a8.ext<|f4.z1 f5;refine cl (z0a U<|z0a U z0f) cO (u7v w0 (⟨a0,g8,I,O⟩:WdA) qi pi.rk D (l.getD i op0).r _ hW (a6▸a2.B) e0 a2.rk h9 oo j0) ?_;rintro _ f9 ⟨rfl,hW⟩;have f6:=hW.fr;have o2:=f6.size;replace hW:WdM τp (tvW (⟨a0,g8,I,O⟩:WdA)) w0 (⟨a0,g8,I,O⟩:WdA) f9 qi m.rk (opW pi (l.getD i op0) D):=by rw[i3,show opW pi (l.getD i op0) D=z7v qi.p pi.rk (l.getD i op0).r D from by rw[a6];exact if_pos c3];exact hW
 have b3:qi.p=m.B:=a6.trans i4.symm;have a8:=hW;obtain⟨lv,Z,hl⟩:=hW.l;obtain⟨b0,b1,rfl,e6⟩:=hl.sl.form;replace Z:Blk f9 I 58 [_]:=Z;exact nl<|jE (()) U ⟨f6,⟨_,_,_,b3,hW,Z,hl⟩⟩;have h2:(l.getD i op0).k=7:=h6.resolve_left c3;have f0:=b8.2.2.2.2.1 oo;have l8:=z2t f0;obtain⟨j2,l9,j3,f3,j4,j5⟩:=u3o b9 h2;have m0:=z2t f3;obtain⟨j7,i2⟩:∃n:Nat,(l.getD i op0).p=(n:Int):=⟨(l.getD i op0).p.toNat,oo⟩;obtain⟨j6,i1⟩:∃m:Nat,z4l (l.getD i op0).b (l.getD i op0).p pi.rk=(m:Int):=⟨(z4l (l.getD i op0).b (l.getD i op0).p pi.rk).toNat,oo⟩;refine rg<|fad U z5w<|z1u (vs:=[_,_]) U a4 z5k U ?_;have hW:=a8.ext<|f4.z1 f5;refine cl (z0a U<|z0a U z0f) cO (u6r w0 (⟨a0,g8,I,O⟩:WdA) qi pi.rk D (l.getD i op0).b (l.getD i op0).p j7 j6 _ hW (a6▸a2.B) i2 i1 f0 f3 (a6▸j3) (by rw[a6];exact j4) a2.rk) ?_;rintro _ g1 ⟨rfl,qn,hW,i5⟩;have f7:=hW.fr;have o3:=f7.size;replace hW:WdM τp (tvW (⟨a0,g8,I,O⟩:WdA)) w0 (⟨a0,g8,I,O⟩:WdA) g1 qn m.rk (opW pi (l.getD i op0) D):=by rw[j2,show opW pi (l.getD i op0) D=D from if_neg c3];exact hW
 have b3:qn.p=m.B:=by rw[i5,a6,j5]
 have a8:=hW;obtain⟨lv,Z,hl⟩:=hW.l;obtain⟨b0,b1,rfl,e6⟩:=hl.sl.form;replace Z:Blk g1 I 58 [_]:=Z;exact nl<|jE (()) U ⟨f7,⟨_,_,_,b3,hW,Z,hl⟩⟩;rintro _u m7 ⟨d7,⟨qn,b0,b1,b3,hW,Z,hl⟩⟩;have o4:=d7.size;have a8:=hW;have d4:=Z.lt;refine kpC (ll5 11 12 54 55 56) U<|sr<|z2a U Z k5o<|lnS U<|gt' U<|nn<|cd U (λc4=>?_)<|λc4=>?_;exact sr<|asg U<|asg U<|kpL (ll2 4 5) U<|nn<|rt<|rb<|tr<|tr<|rb<|tr<|r2 U U U ⟨_,rfl,⟨none,[],3,rfl,Own.nil _,.inl ⟨by unfold y1h;rw[if_neg (λe=>e9<|d1.symm.trans e),d3,hdr,v6g oo];rfl,rfl,rfl⟩⟩,d7⟩;have e5:¬64<(opW pi (l.getD i op0) D).2.length:=by omega
 exact sk<|bn'<|tn<|rg<|ad6 U<|mv U<|nl<|lpE ((i+1)) U ⟨d7,⟨oo,m,(opW pi (l.getD i op0) D),qn,_,⟨i8,z8m a2 b9,b3,by rw[d3,hdr,v6f e5 b9],h7,oo⟩,hW,Z,hl⟩⟩ oo;obtain rfl:i=l.length:=by omega
 rw[List.drop_length]at d3;refine ex<|te<|te<|xh<|tn<|sr<|z2a U Z k5o ?_;have h3:=hl;obtain⟨AL,cL,rfl,g7⟩:=hl.sl.form;refine cl (ev1 U) cO (u9b AL _ cL _ g7) ?_;rintro _ _ ⟨rfl,rfl⟩;refine asg U<|asg U<|kpL (ll2 4 5) U<|nn<|rt<|r2 U U U ?_;obtain⟨l5,h4⟩:=u5u h3;exact⟨_,rfl,⟨_,_,0,rfl,h4,.inr ⟨by unfold y1h;rw[if_neg (λe=>e9<|d1.symm.trans e),d3];rfl,rfl⟩⟩,d6⟩
end Go.Proofs.YtkafbfjmcigaiaaGreatDoor
namespace Go.Lw
section
variable {P:Program} {n:Nat} {L:List (Nat×Value)} {w:World} {v:Value} {a:Act} {g T:Nat} {cs:List Value}
theorem k7h {fn:Func}{R:Ending->World->Prop}{p pt q r:Nat}{u:Value}(h:Ag a n L)(hr:fn.results=#[.tmp q,.cell p pt,.tmp r])(hp:look L p=some (pta g))(hb:Blk w g T cs)(Z:z4f P pt cs.length)(hv:look L q=some v)(hu:look L r=some u)(k:R (.returned<|.tuple #[v,.agg cs.toArray,u]) w):bodyPost P fn R .ret a w:=
 bodyPost_ret (v:=.tuple #[v,.agg cs.toArray,u]) (by
  have D:=h.at_ p _ hp
  have I:=h.at_ q _ hv
  have O:=h.at_ r _ hu
  simp only[l47]at D I O
  simp[results,hr,D,I,O,asAddr,loadVar,Z.1 w,Z.2 w,run_loadCells_list w _ cs hb.cells]) h.dfr k
theorem k8q {fn:Func}{R:Ending->World->Prop}{p pt q r:Nat}{u:Value}(I:fn.results=#[.tmp q,.cell p pt,.tmp r])(hp:look L p=some (pta g))(hb:Blk w g T cs)(D:z4f P pt cs.length)(Z:look L q=some v)(O:look L r=some u)(k:R (.returned<|.tuple #[v,.agg cs.toArray,u]) w):EW (bodyPost P fn R) .ret n [] w L:=λ_ h=>k7h h I hp hb D Z O k
end
end Go.Lw
namespace Go.Proofs.YtkafbfjmcigaiaaGreatDoor
open Go.Lw Go.G21 Go.G08 Go.G09 Go.G26 _root_.Go.Proofs.Tryz
theorem k7g (v:Value)(l:List MOp)(w0:World)(hv:Sl z3c w0 v l)(a5:l.length<=1000000):Rets prog 28 #[v] w0 λr w'=>r=.bool (isP l)/\Fr [] w0 w':=by
 obtain⟨A,c,rfl,a3⟩:=id hv.form;refine wf func28 U ?_;have a1:=hv;refine sr<|asg U<|nn<|sq<|sr<|mv U<|lnS U<|mv U<|nn<|bl<|lpK (ι:=Nat) (ll2 5 6) (λi=>[(7,.int .i64 (i:Int))]) (λi w'=>Fr [] w0 w'/\i<=l.length/\∀j,j<i->((l.getD j op0).k=3\/(l.getD j op0).k=7)/\z8v (l.getD j op0)=0) (λi=>l.length-i) 0 U ⟨l12 _ _,⟨l16 _,λj h=>absurd h oo⟩⟩ ?_;rintro i w1 ⟨Z,⟨hi,O⟩⟩;have z1:=Z.size;refine kpC (ll3 5 6 7) U<|sr<|lt' U<|nn<|sq<|cd U (λc0=>?_)<|λc0=>?_;refine sk<|tn<|sq<|bl<|sr ?_;have hv:=a1.ext Z;refine z1a (op0) U hv U y2n z1j<|λa2 a0=>?_;refine z1q U (a0 _ hv) y3t<|al u5d U<|λg4 w2 a4 I q2 z2=>(z0j (vs:=[_,_,_,_,_,_]) U I v5u<|λw3 I q3 z3=>(nn<|sr<|fad U z8s<|z0i U I U v7d<|ne' U<|mv U<|gs 14 U (λg0=>?_)<|λg0=>?_));refine gY U<|fad U z8s<|gY U<|z0i U I U v7d<|gY U<|ne' U<|pkt U<|mv U<|gs 19 U (λg1=>?_)<|λg1=>?_;refine gN U<|gN U<|gN U<|pkt U<|kpL (ll4 5 6 7 23) U<|nn<|ct U<|sr<|asg U<|nn<|rt<|rb<|tr<|tr<|rb<|tr<|r1 U ?_;exact⟨_,rfl,by first|exact congrArg Value.bool (v3c (i:=i) oo (λh=>by obtain⟨D,h2⟩:=h;rcases D with D|D<;>simp_all)).symm|exact congrArg Value.bool (x2f<|λj hj=>O j oo).symm,(Z.z2 q2 q3)⟩;refine gY U<|z0l U I y3t<|gY U<|cl (ev1 U) k5f (y3m _ _) ?_;rintro _ w4 ⟨rfl,q4⟩;have z4:=q4.size;refine gY U<|ne' U<|pkf U<|kpL (ll4 5 6 7 23) U<|nn<|cd U (λc1=>?_)<|λc1=>?_;refine sr<|asg U<|nn<|rt<|rb<|tr<|tr<|rb<|tr<|r1 U ?_;exact⟨_,rfl,by first|exact congrArg Value.bool (v3c (i:=i) oo (λh=>by obtain⟨D,h2⟩:=h;rcases D with D|D<;>simp_all)).symm|exact congrArg Value.bool (x2f<|λj hj=>O j oo).symm,(Z.z3 q2 q3 q4)⟩;refine sk<|bn'<|tn<|rg<|ad6 U<|mv U<|nl ?_;exact lpE (i+1) U ⟨(Z.z3 q2 q3 q4),⟨oo,λj h=>by
  by_cases e:j=i;subst e;by_cases h3:(l.getD j op0).k=3<;>by_cases h7:(l.getD j op0).k=7<;>simp_all
  exact O j oo⟩⟩ oo
 refine gN U<|gN U<|gN U<|pkf U<|mv U<|gY U<|z0l U I y3t<|gY U<|cl (ev1 U) k5f (y3m _ _) ?_;rintro _ w5 ⟨rfl,q5⟩;have z5:=q5.size;refine gY U<|ne' U<|pkf U<|kpL (ll4 5 6 7 23) U<|nn<|cd U (λc1=>?_)<|λc1=>?_;refine sr<|asg U<|nn<|rt<|rb<|tr<|tr<|rb<|tr<|r1 U ?_;exact⟨_,rfl,by first|exact congrArg Value.bool (v3c (i:=i) oo (λh=>by obtain⟨D,h2⟩:=h;rcases D with D|D<;>simp_all)).symm|exact congrArg Value.bool (x2f<|λj hj=>O j oo).symm,(Z.z3 q2 q3 q5)⟩;refine sk<|bn'<|tn<|rg<|ad6 U<|mv U<|nl ?_;exact lpE (i+1) U ⟨(Z.z3 q2 q3 q5),⟨oo,λj h=>by
  by_cases e:j=i;subst e;by_cases h3:(l.getD j op0).k=3<;>by_cases h7:(l.getD j op0).k=7<;>simp_all
  exact O j oo⟩⟩ oo
 obtain rfl:i=l.length:=by omega
 refine ex<|te<|te<|xh<|tn<|sr<|asg U<|nn<|rt<|r1 U ?_;exact⟨_,rfl,by first|exact congrArg Value.bool (v3c (i:=i) oo (λh=>by obtain⟨D,h2⟩:=h;rcases D with D|D<;>simp_all)).symm|exact congrArg Value.bool (x2f<|λj hj=>O j oo).symm,Z⟩
theorem u7w (p:MSt)(l:List MOp):v0z p l<=l.length/\∃m,z2u 0 p (l.take<|v0z p l)=.ok m:=by
 unfold v0z;cases e:z2u 0 p l with
 | error x=>
  obtain⟨e1,n⟩:=x;obtain⟨I,O,m,D⟩:=y6z e;exact⟨sm,m,D⟩
 | ok q=>exact⟨l20 _,q,by simp only[l40];exact e⟩
theorem v4z {p:MSt}{l:List MOp}(h:u5f p l=0):v0z p l=l.length:=by
 cases e:z2u 0 p l with
 | error x=>exact absurd ((x3w e).1.symm.trans h)<|v3s e
 | ok q=>exact(y6k e).2
theorem u4y {p:MSt}{l:List MOp}(a0:isP l=true)(h4:l.length<=4096)(h8:p.B.flat.length<=8){ws:List Int}{D:Int}(I:(y1h p (l.take<|v0z p l)=none/\D=3/\ws=[])\/(y1h p (l.take<|v0z p l)=some ws/\D=0)) :
    ((if D=0 then u5f p l else D)≠0->z1w p l=.error (if D=0 then u5f p l else D))/\((if D=0 then u5f p l else D)=0->∃q,z2u 0 p l=.ok q/\z1w p l=.ok (ws,q)):=by
  have hb:z1w p l=(match z2u 0 p l with
    | .error x=>(match y1h p (l.take x.2) with
      | none=>.error 3
      | some _=>.error x.1)
    | .ok q=>(match y1h p l with
      | none=>.error 3
      | some w=>.ok (w,q))):=by
    unfold z1w
    rw[if_neg (by rw[a0];decide),if_neg oo,if_neg oo]
    all_goals cases z2u 0 p l
    all_goals first|rfl|(split<;>rfl)
  rw[hb]
  cases e:z2u 0 p l with
  | error x=>
    obtain⟨x1,n⟩:=x
    obtain⟨O,Z⟩:=x3w e
    have hx:=v3s e
    rw[Z]at I
    rw[O]
    simp only
    rcases I with ⟨h,rfl,rfl⟩|⟨h,rfl⟩
    · rw[h];exact⟨λ_=>rfl,λh=>by simp at h⟩
    · rw[h];exact⟨λ_=>rfl,λh=>absurd h hx⟩
  | ok q=>
    obtain⟨O,Z⟩:=y6k e
    rw[Z,l40]at I
    rw[O]
    simp only
    rcases I with ⟨h,rfl,rfl⟩|⟨h,rfl⟩
    · rw[h];exact⟨λ_=>rfl,λh=>by simp at h⟩
    · rw[h];exact⟨λh=>absurd U h,λ_=>⟨q,rfl,rfl⟩⟩
theorem v4q {p:MSt}{l:List MOp}(h:isP l=false):z1w p l=.error 1:=by unfold z1w;rw[if_pos h]
theorem v5n {p:MSt}{l:List MOp}(h:isP l=true)(I:l.length<=4096)(D:8<p.B.flat.length):z1w p l=.error 3:=by
 unfold z1w;rw[if_neg (by rw[h];decide),if_neg oo,if_pos D]
structure BrR (w':World) (p:MSt) (l:List MOp) (N base:Nat) (A:Option Addr) (ws:List Int) (s':StQ) (e:Int):Prop where
  o:Lw.Own Enc.i64 3 base w' (.slice A ws.length ws.length) ws
  k:StK UK w' s'
  er:∀x,z1w p l=.error x->e=x/\ws=[]/\s'=stZ
  ok:∀u q,z1w p l=.ok (u,q)->e=0/\ws=u/\StP s' q N
theorem BrR.no {w':World}{p:MSt}{l:List MOp}{N base:Nat}{x:Int}(h:z1w p l=.error x):BrR w' p l N base none [] stZ x:=
 ⟨Own.nil _,(j7c base w').k,λy I=>by rw[h]at I;cases I;exact⟨rfl,rfl,rfl⟩,λu q D=>by rw[h]at D;cases D⟩
theorem z5n (s:StQ)(p:MSt)(N:Nat)(v:Value)(l:List MOp)(w0:World)(hS:StAt w0 s)(hP:StP s p N)(hn:N+l.length<=1000)(hv:Sl z3c w0 v l)(a5:StT w0):Rets prog 12 #[svv s,v] w0 λr w'=>(∃A ws s' e,r=.tuple #[.slice A ws.length ws.length,svv s',.int .i64 e]/\BrR w' (nrm p) l (N+l.length) w0.heap.size A ws s' e)/\Fr [] w0 w':=by
 obtain⟨A,c,rfl,e6,b9,-⟩:=id hv;have a8:s.q.p=p.B:=hP.BE;have d3:BdOk s.q.p:=a8▸hP.v.inv.B;obtain⟨⟨hf,hb⟩,h4,d1⟩:=z3f d3;obtain⟨d6,mr,d5⟩:=u7w (nrm p) l;refine wf func12 U ?_;have a9:=hS;have b5:=hv;have b0:=a5;refine sr<|bx U<|λg2 w1 e7 I q1 z1=>(asg U<|al y5r U<|λg5 w2 e8 D q2 z2=>(asg U<|nn<|sq<|sr<|mv U ?_));have hv:=b5.ext<|q1.n1 q2;refine cl (ev1 U) cO (k7g _ l _ hv oo) ?_;rintro _ w3 ⟨rfl,q3⟩;have z3:=q3.size;refine nt' U<|nn<|cd U (λc0=>?_)<|λc0=>?_;refine sr<|z1r (cs:=[_,_,_,_,_,_,_,_]) z0f v1x z0r U ?_;refine asg U ?_;have D:=D.ext q3;exact z0j (vs:=[_,_,_,_,_,_,_,_]) U D z9q<|λw4 D q4 z4=>(asg U<|nn<|rt<|tr<|k8q U U D z8i U U ⟨_,rfl,⟨none,[],stZ,1,rfl,BrR.no<|v4q (by simpa using c0)⟩,(q1.z3 q2 q3 q4)⟩);have b2:isP l=true:=by simpa using c0
 refine sk<|tn<|sq<|sr<|mv U<|lnS U<|gt' U<|nn<|cd U (λc1=>?_)<|λc1=>?_;exfalso;omega;refine sk<|tn<|sq<|sr ?_;have I:=I.ext<|q2.n1 q3;refine z0l U I z8i ?_;have hS:=a9.ext<|q1.n2 q2 q3;refine cl (ev1 U) cO (x3e _ hS hP) ?_;rintro _ w5 ⟨rfl,q5⟩;have z5:=q5.size;refine asg U<|nn<|sr<|mv U<|ne' U<|nn<|cd U (λc2=>?_)<|λc2=>?_;exact absurd U c2;refine sk<|tn<|sq<|sr<|fad U z7f ?_;have I:=I.ext q5;refine z1u (vs:=[_,_]) U I z4y U ?_;have hS:=a9.ext<|q1.n3 q2 q3 q5;refine cl (ev1 U) cO (y3r s.q _ hS.b hf hb h4 d1) ?_;rintro _ w6 ⟨rfl,q6⟩;have z6:=q6.size;refine gt' U<|nn<|cd U (λc3=>?_)<|λc3=>?_;refine sr<|z1r (cs:=[_,_,_,_,_,_,_,_]) z0f v1x z0r U ?_;refine asg U ?_;have D:=D.ext<|q3.n2 q5 q6;exact z0j (vs:=[_,_,_,_,_,_,_,_]) U D z9q<|λw7 D q7 z7=>(asg U<|nn<|rt<|tr<|k8q U U D z8i U U ⟨_,rfl,⟨none,[],stZ,3,rfl,BrR.no<|v5n b2 oo (by show 8<p.B.flat.length;rw[<-a8];omega)⟩,(q1.z5 q2 q3 q5 q6 q7)⟩);refine sk<|tn<|sr ?_;have I:=I.ext q6;refine z0l U I z8i<|mv U ?_;have hS:=a9.ext<|q1.n4 q2 q3 q5 q6;have hv:=b5.ext<|q1.n4 q2 q3 q5 q6;have a5:=b0.ext<|q1.n4 q2 q3 q5 q6;refine cl (ev2 U) cO (v0c _ l _ hS hP hn hv a5) ?_;rintro _ w8 ⟨⟨s8,rfl,b6,d4,f0⟩,q8⟩;have z8:=q8.size;have a0:=b6.k;clear b6;refine mv U<|xt U<|xt U<|xt U<|al y5r U<|λg8 w9 e9 a2 q9 z9=>(z0j (vs:=[_,_,_,_,_,_,_,_]) U a2 z9q<|λe3 a2 Z f4=>(asg U<|asg U<|kpL (ll6 1 2 5 8 9 10) U<|nn<|jn (ι:=Unit) (ll4 2 5 8 10) (λ_j=>[(1,.slice A (v0z (nrm p) l) c)]) (λ_j w'=>Fr [] e3 w') U ?_ ?_));refine sr<|mv U<|ne' U<|nn<|cd U (λc4=>?_)<|λc4=>?_;refine rg<|mv U<|mv U<|v2p (p:=(v0z (nrm p) l)) U U y2n U<|asg U<|nl ?_;exact jE (()) (.c5 U U U U<|congrArg (λz=>some<|Value.slice A z c) (by first|rfl|exact(v4z<|l15.1 c4).symm))<|l12 _ _;refine sk ?_;exact jE (()) (.c5 U U U U<|congrArg (λz=>some<|Value.slice A z c) (by first|rfl|exact(v4z<|l15.1 c4).symm))<|l12 _ _;rintro _j f1 O;have f5:=O.size;refine kpC (ll5 2 5 8 10 1) U<|sr ?_;have I:=((I.ext<|q8.n1 q9).fr Z).ext O;refine z0l U I z8i<|mv U ?_;have hv:=b5.ext<|((q1.n6 q2 q3 q5 q6 q8 q9).z1 Z).n1 O;have d9:=hv.take U (m:=(v0z (nrm p) l)) d6 (B:=A) (c':=c) oo b9<|λ_=>rfl;have hS:=a9.ext<|((q1.n6 q2 q3 q5 q6 q8 q9).z1 Z).n1 O;have a5:=b0.ext<|((q1.n6 q2 q3 q5 q6 q8 q9).z1 Z).n1 O;refine cl (ev2 U) cO (j5v s p mr N _ (l.take<|v0z (nrm p) l) _ hS hP d9 a5 (j0j b2 _) d5 t19 (by rw[<-a8];omega)) ?_;rintro _ e4 ⟨⟨d0,ws,ew,rfl,a3,hw⟩,q12⟩;have f6:=q12.size;have b1:=u4y b2 oo (by show p.B.flat.length<=8;rw[<-a8];omega) hw;refine mv U<|xt U<|xt U<|asg U<|asg U<|kpL (ll5 5 8 10 11 12) U<|nn<|jn (ι:=Unit) (ll3 5 8 11) (λ_j=>[(12,.int .i64 (if ew=0 then (u5f (nrm p) l) else ew))]) (λ_j w'=>Fr [] e4 w') U ?_ ?_;refine sr<|mv U<|eq' U<|nn<|cd U (λc5=>?_)<|λc5=>?_;refine rg<|mv U<|asg U<|nl ?_;exact jE (()) (.c4 U U U<|congrArg (λz=>some<|Value.int .i64 z) (by first|exact(if_pos c5).symm|exact(if_neg c5).symm))<|l12 _ _;refine sk ?_;exact jE (()) (.c4 U U U<|congrArg (λz=>some<|Value.int .i64 z) (by first|exact(if_pos c5).symm|exact(if_neg c5).symm))<|l12 _ _;rintro _j f2 a1;have f7:=a1.size;refine kpC (ll4 5 8 11 12) U<|sq<|sr<|mv U<|ne' U<|nn<|cd U (λc6=>?_)<|λc6=>?_;refine sr<|z1r (cs:=[_,_,_,_,_,_,_,_]) z0f v1x z0r U ?_;refine mv U<|asg U ?_;have D:=((D.ext<|q3.n4 q5 q6 q8 q9).fr Z).ext<|O.n2 q12 a1;exact z0j (vs:=[_,_,_,_,_,_,_,_]) U D z9q<|λf3 D e0 f8=>(asg U<|kpL (ll3 4 5 6) U<|nn<|rt<|tr<|k8q U U D z8i U U ⟨_,rfl,⟨none,[],stZ,_,rfl,BrR.no<|b1.1 c6⟩,((((q1.n6 q2 q3 q5 q6 q8 q9).z1 Z).n1 O).z3 q12 a1 e0)⟩);refine sk<|tn<|sq ?_;have D:=((D.ext<|q3.n4 q5 q6 q8 q9).fr Z).ext<|O.n2 q12 a1;have a0:=((a0.ext q9).fr Z t30).ext<|O.n2 q12 a1;intro a h;refine rgh (some 3) (Fr [g5]) ?_;intro c9 a4 hC;have f9:=a4.size;have D:=D.ext a4;have a0:=a0.ext a4;have a2:=a2.ext<|O.n3 q12 a1 a4;have b4:=D;have b3:=a0;have a6:=a2;refine z0e 0 h U λa h=>z0x 1 h U (λ_ hw=>a6.fr hw (λk_=>by simp at k_;omega)) z8i U λa h=>z0d 2 U<|z0o h U λa h=>?_;refine z0b<|z0d 3 U<|z0t h U D U z9q λe5 b8 a7 hz a h=>?_;have g0:=a7.size;have a0:=a0.fr a7 t30;have a2:=a2.fr a7;have D:Blk e5 g5 _ [_,_,_,_,_,_,_,_]:=b8;clear b8;refine z1m<|z0d 4 U<|z0o h U λa h=>?_;refine z1m<|z0q ?_;clear hC b4 b3 a6;refine xB (ll3 4 5 6) h U<|tn<|rt<|k8q U U D z8i U U ?_;have a3:=(a3.ext<|a1.n1 a4).fr a7 (by first|exact z9x a3 oo|simp[z0v]<;>omega);obtain⟨qf,d7,b7⟩:=b1.2<|l15.1 c6;exact⟨_,rfl,⟨d0,ws,s8,0,rfl,a3.low oo,a0,(λx hx=>by rw[b7]at hx;cases hx),(λu q hq=>by rw[b7]at hq;cases hq;exact⟨rfl,rfl,d4 _ d7⟩)⟩,((((q1.n6 q2 q3 q5 q6 q8 q9).z1 Z).n1 O).z4 q12 a1 a4 a7)⟩
open Go.Lw Go.G21 Go.G08 _root_.Go.Proofs.Tryz
open Go.Lw Go.G21 Go.G08 Go.G09 Go.G26 _root_.Go.Proofs.Tryz
end Go.Proofs.YtkafbfjmcigaiaaGreatDoor
namespace Go.G26
open Go.Lw Go.G21 Go.G08
def bdS (at_:Nat):Int:=if at_ % 2=1 then 0 else 1
def opS (k d:Int)(at_:Nat):MOp:=⟨k,d,bdS at_,10+((at_ / 2:Nat):Int),1,0⟩
def u5g (at_ n:Nat)(p:Int):Prop:=(p % 8=((at_ / 2:Nat):Int)/\(p / 8 % 2=1↔at_ % 2=0))/\n<6
instance (at_ n:Nat) (p:Int):Decidable (u5g at_ n p):=by unfold u5g;infer_instance
def v0u (at_:Nat)(p:Int)(s:List MOp×Nat):List MOp×Nat:=if p / 16 % 2=1/\s.2+1<6 then (s.1++[opS 4 1 at_]++[opS 6 0 at_,opS 5 1 at_],s.2+2) else (s.1++[opS 4 1 at_],s.2+1)
def y9h (at_:Nat):List Int->List MOp×Nat->List MOp×Nat
  | [],s=>s
  | p::r,s=>if u5g at_ s.2 p then v0u at_ p s else y9h at_ r s
def z9j (xs:List Int):Nat->List MOp×Nat
  | 0=>([⟨1,0,0,0,1,0⟩],0)
  | n+1=>y9h n (xs.take 6)<|z9j xs n
def j0n (xs:List Int):List MOp:=(z9j xs 16).1++[⟨2,0,0,0,1,0⟩]
theorem z6n (D:Nat)(p:Int)(s:List MOp×Nat):(v0u D p s).1.length<=s.1.length+3/\(s.2<6->(v0u D p s).2<=6):=by
 unfold v0u;split;exact⟨sp0,λh=>by show s.2+2<=6;omega⟩;exact⟨sp0,λh=>by show s.2+1<=6;omega⟩
theorem v1v (D:Nat):∀(l:List Int) (s:List MOp×Nat),s.2<=6->(y9h D l s).1.length<=s.1.length+3/\(y9h D l s).2<=6
 | [],s,h=>⟨Nat.le_add_right _ _,h⟩
 | p::r,s,h=>by
  unfold y9h;split
  ·rename_i Z
   obtain⟨I,O⟩:=z6n D p s
   exact⟨I,O Z.2⟩
  exact v1v D r s h
theorem y6g (xs:List Int):∀n,(z9j xs n).1.length<=1+3*n/\(z9j xs n).2<=6
 | 0=>⟨by simp[z9j],by simp[z9j]⟩
 | n+1=>by
  obtain⟨O,D⟩:=y6g xs n
  obtain⟨Z,I⟩:=v1v n (xs.take 6) (z9j xs n) D
  exact⟨by show (y9h n (xs.take 6)<|z9j xs n).1.length<=_;omega,I⟩
theorem x0a {xs:List Int}{i:Nat}(h:i<xs.length)(D:i<6):(xs.take 6).drop i=xs.getD i 0::(xs.take 6).drop (i+1):=by
 have hl:i<(xs.take 6).length:=by rw[l27];omega
 rw[l33 hl,List.getElem_take,List.getD,l10 h];rfl
theorem u6m {D:Nat}{xs:List Int}{i:Nat}{s:List MOp×Nat}(h:i<xs.length)(I:i<6)(O:u5g D s.2 (xs.getD i 0)):y9h D ((xs.take 6).drop i) s=v0u D (xs.getD i 0) s:=by
 rw[x0a h I];exact if_pos O
theorem v8t {D:Nat}{xs:List Int}{i:Nat}{s:List MOp×Nat}(h:i<xs.length)(I:i<6)(O:¬u5g D s.2 (xs.getD i 0)):y9h D ((xs.take 6).drop i) s=y9h D ((xs.take 6).drop<|i+1) s:=by
 rw[x0a h I];exact if_neg O
theorem u6t {D:Nat}{xs:List Int}{i:Nat}{s:List MOp×Nat}(h:¬(i<xs.length/\i<6)):y9h D ((xs.take 6).drop i) s=s:=by
 rw[l102 t19];rfl
theorem k5x:j0n [0,1,2]=exO:=by decide +kernel
end Go.G26
namespace Go.Proofs.YtkafbfjmcigaiaaGreatDoor
open Go.Lw Go.G21 Go.G08 Go.G09 Go.G26 _root_.Go.Proofs.Tryz
theorem j2t:z1e prog 24 0 0:=λ_ _=>kr
theorem v5f:z2e prog 22:=λ_=>kr
theorem nrm0:nrm G08.start=G08.start:=by simp[nrm,G08.start,y5l,y3s]
theorem x0f (A:Option Addr)(c:Nat)(bs:List UInt8)(M:Option Addr)(nM cM:Nat)(w0:World)(hs:Sl Enc.b w0 (.slice A bs.length c) bs)(b2:StT w0):Rets prog 5 #[.agg #[.slice A bs.length c,.slice M nM cM]] w0 λr w'=>(∃s:StQ,r=(svv s)/\StK UK w' s/\∀q,z2u 0 G08.start (j0n<|bs.map λb=>(b.toNat:Int))=.ok q->StP s q 50)/\Fr [] w0 w':=by
 obtain⟨O,b6⟩:∃O:List Int,O=bs.map (λb=>(b.toNat:Int)):=⟨_,rfl⟩;rw[<-b6];have i5:O.length=bs.length:=by rw[b6,l18]
 have f7:=hs.len_le;unfold maxLen at f7;have f8:∀i,i<bs.length->O.getD i 0=((bs.getD i 0).toNat:Int):=λi h=>by rw[b6,List.getD,List.getD,l26,l10 h];rfl
 refine wf func5 U ?_;have f6:=hs;have d1:=b2;refine sr<|bx U<|λg1 w1 h7 a1 q1 z1=>(al y5r U<|λg2 w2 h8 a4 q2 z2=>?_);have a1:=a1.ext q2;obtain⟨bS,h6⟩:∃b:Nat,b=w2.heap.size:=⟨_,rfl⟩;have b0:=a1;have d4:=a4;refine nn<|sr<|z1r (cs:=[_,_,_,_,_,_]) (ev2 U) x8f (z0g U<|z0g U z0r) U ?_;refine z1i ([⟨1,0,0,0,1,0⟩]) (ev1 U) U y2n<|λh2 w3 g4 e0 q3 z3=>(asg U<|nn<|sr<|asg U<|nn<|sq<|sr<|asg U<|nn<|bl<|lpK (ι:=Nat×Value) (ll2 1 2) (λp_=>[(5,.int .i64 (p_.1:Int)),(3,p_.2),(4,.int .i64 ((z9j O p_.1).2:Int))]) (λp_ w'=>Fr [] w2 w'/\p_.1<=16/\Lw.Own z3c 50 bS w' p_.2 (z9j O p_.1).1) (λp_=>16-p_.1) (0,_) U ⟨q3,⟨l16 _,e0.low oo⟩⟩ ?_);rintro⟨n,vP⟩ w4 ⟨q4,⟨d9,Z⟩⟩;simp only at d9 Z;have z4:=q4.size;refine kpC [(1,_),(2,_),(5,.int .i64 (n:Int)),(3,vP),(4,.int .i64 ((z9j O n).2:Int))] U ?_;obtain⟨i2,i3⟩:=y6g O n;refine sq<|sr<|mv U<|lt' U<|nn<|cd U (λc0=>?_)<|λc0=>?_;refine sk<|tn<|sq<|bl<|sr<|mv U<|v6v U U (by first|exact IntWalk.i64_quo _ _ oo|rfl) U<|ad6 U<|z1r (cs:=[_,_]) (ev2 U) y8v (z0g U<|z0g U z0r) U ?_;refine al x4f U<|λg6 w5 h9 I q5 z5=>?_;refine z0j (vs:=[_,_]) U I y2m (λw6 I q6 z6=>?_) (h1:=t24);refine nn<|jn (ι:=Unit) (ll6 1 2 3 4 5 6) (λu_=>[]) (λu_ w'=>Fr [g6] w6 w'/\Blk w' g6 48 [.int .u8 (bdS n),.int .i64 (10+((n / 2:Nat):Int))]) U ?_ ?_;refine sr<|mv U<|y5q U t32<|eq' U<|nn<|cd U (λc1=>?_)<|λc1=>?_;refine rg<|fad U z7e<|z3r U I U k9m<|λw7 I q7 z7=>?_;replace I:Blk w7 g6 _ [_,_]:=I;exact nl<|jE (()) U ⟨((l12 [g6] _).z1 q7),by rw[show bdS n=0 from if_pos oo,show (10:Int)+((n / 2:Nat):Int)=10+(n:Int) / 2 by omega];exact I⟩;exact sk<|jE (()) U ⟨(l12 _ _),by rw[show bdS n=1 from if_neg oo,show (10:Int)+((n / 2:Nat):Int)=10+(n:Int) / 2 by omega];exact I⟩;rintro _u w8 ⟨q8,I⟩;have z8:=q8.size;have f0:=I.lt;refine kpC (ll6 1 2 3 4 5 6) U<|sr<|asg U<|nn<|bl<|lpK (ι:=Nat) (ll6 1 2 3 4 5 6) (λi=>[(7,.int .i64 (i:Int))]) (λi w'=>Fr [] w8 w'/\(i<=O.length/\i<=6)/\y9h n ((O.take 6).drop i) (z9j O n)=z9j O (n+1)) (λi=>6-i) 0 U ⟨l12 _ _,⟨⟨l16 _,l16 _⟩,by rw[List.drop_zero];rfl⟩⟩ ?_;rintro i w9 ⟨q9,⟨i1,b5⟩⟩;have z9:=q9.size;refine kpC (ll7 1 2 3 4 5 6 7) U<|sq<|sq<|rbo (r:=34) (L':=ll7 1 2 3 4 5 6 7) ((((i:Int)<(bs.length:Int))/\((i:Int)<6))) U ?_ ?_;refine mv U<|fad U j2t ?_;have a1:=b0.ext<|q4.z4 q5 q6 q8 q9;refine z0i U a1 U v5f<|lnS U<|lt' U<|mv U<|gs 31 U (λg0=>?_)<|λg0=>?_;exact gY U<|mv U<|gY U<|lt' U<|pkt U<|rbe U<|U;exact gN U<|gN U<|pkf U<|rbe U<|U;refine tn<|cd U (λc2=>?_)<|λc2=>?_;have i4:=f8 i oo;have i7:=(bs.getD i 0).toNat_lt;refine sk<|tn<|sq<|bl<|sr<|fad U j2t ?_;have a1:=b0.ext<|q4.z4 q5 q6 q8 q9;refine z0i U a1 U v5f<|mv U ?_;have hs:=f6.ext<|q1.z6 q2 q4 q5 q6 q8 q9;refine z1a (0) U hs U y5c z1j<|λf9 d5=>?_;refine z1c U (d5 _ hs) na5<|asg U<|kpL (ll8 1 2 3 4 5 6 7 8) U<|nn<|sq<|sq<|rbo (r:=61) (L':=ll8 1 2 3 4 5 6 7 8) (((((((bs.getD i 0).toNat:Int) % 8)≠((n:Int) / 2))\/(¬((((((bs.getD i 0).toNat:Int) / 8) % 2)=1)↔(((n:Int) % 2)=0))))\/(6<=((z9j O n).2:Int)))) U ?_ ?_;refine mv U<|y5q U t32<|z4c U (us underlying5) underlying3 (wi6 oo)<|mv U<|v6v U U (by first|exact IntWalk.i64_quo _ _ oo|rfl) U<|ne' U<|mv U<|gs 48 U (λg1=>?_)<|λg1=>?_;exact gN U<|gN U<|gN U<|gN U<|gN U<|gN U<|gN U<|gN U<|pkt U<|mv U<|gN U<|gN U<|pkt U<|rbe U<|U;refine gY U<|mv U<|gY U<|v6v U U t44 U<|gY U<|y5q U t32<|gY U<|eq' U<|gY U<|mv U<|gY U<|y5q U t32<|gY U<|eq' U<|gY U<|q1f U U underlying4 U<|pkf U<|mv U<|gs 58 U (λg2=>?_)<|λg2=>?_;exact gN U<|gN U<|pkt U<|rbe U<|U;exact gY U<|mv U<|gY U<|ge' U<|pkf U<|rbe U<|U;refine tn<|cd U (λc3=>?_)<|λc3=>?_;have d7:¬u5g n (z9j O n).2 (O.getD i 0):=by unfold u5g;omega
 exact ex<|te<|xh<|tn<|rg<|mv U<|ad6 U<|asg U<|nl<|lpE ((i+1)) U ⟨q9,⟨⟨oo,oo⟩,by rw[<-b5,v8t oo oo d7]⟩⟩ oo;have d6:u5g n (z9j O n).2 (O.getD i 0):=by unfold u5g;omega
 have d0:z9j O (n+1)=v0u n (O.getD i 0) (z9j O n):=by rw[<-b5,u6m oo oo d6]
 refine sk<|tn<|sr<|mv U ?_;have I:=I.ext q9;refine z0l U I z5k<|z1r (cs:=[_,_,_,_,_,_]) (ev4 U) x8f (z0g U<|z0g U<|z0g U<|z0g U z0r) U ?_;refine z1i ([opS 4 1 n]) (ev1 U) U y2n<|λh3 j2 g5 e3 a8 k4=>?_;have I:=I.ext a8;have Z:=(((Z.ext q5).fr q6 (by first|exact z9x Z oo|simp[z0v]<;>omega)).fr q8 (by first|exact z9x Z oo|simp[z0v]<;>omega)).ext<|q9.n1 a8;have a2:=Z;refine z2l U Z e3.sl y2n (λi9 j3 Z a9 f3=>?_) (hM:=t60) (hb:=t54);have k5:=a9.size;have I:=I.fr a9<|λhk=>a2.neB I dd hk;refine asg U<|kpL (ll7 1 2 3 4 5 6 8) U<|nn<|sr<|mv U<|ad6 U<|asg U<|nn<|sq<|sq<|rbo (r:=76) (L':=ll6 1 2 3 4 5 6) (((((((bs.getD i 0).toNat:Int) / 16) % 2)=1)/\((((z9j O n).2:Int)+1)<6))) U ?_ ?_;refine mv U<|v6v U U t44 U<|y5q U t32<|eq' U<|mv U<|gs 73 U (λg3=>?_)<|λg3=>?_;exact gY U<|mv U<|gY U<|lt' U<|pkt U<|rbe U<|U;exact gN U<|gN U<|pkf U<|rbe U<|U;refine tn<|cd U (λc4=>?_)<|λc4=>?_;have D:z9j O (n+1)=((z9j O n).1++[opS 4 1 n]++[opS 6 0 n,opS 5 1 n],(z9j O n).2+2):=by rw[d0];unfold v0u;rw[if_pos oo]
 refine sr<|mv U<|z0l U I z5k<|z1r (cs:=[_,_,_,_,_,_]) (ev4 U) x8f (z0g U<|z0g U<|z0g U<|z0g U z0r) U ?_;refine z0l U I z5k<|z1r (cs:=[_,_,_,_,_,_]) (ev4 U) x8f (z0g U<|z0g U<|z0g U<|z0g U z0r) U ?_;refine z1i ([opS 6 0 n,opS 5 1 n]) (ev2 U) U y2n<|λh4 j4 g7 e4 e7 k6=>?_;have Z:=Z.ext e7;have b4:=Z;refine z2l U Z e4.sl y2n (λj0 j5 Z e8 f4=>?_) (hM:=t60) (hb:=t54);have k7:=e8.size;refine asg U<|kpL (ll5 1 2 3 4 5) U<|nn<|rg<|mv U<|ad6 U<|asg U<|nl<|tn<|ex<|xo U<|te<|te<|xh<|bn'<|tn<|rg<|mv U<|ad6 U<|asg U<|nl ?_;exact lpE ((n+1,_)) (.c5 U U U U<|congrArg (λz=>some<|Value.int .i64 z) (by first|(rw[D];done)|(simp only;rw[D];done)|(rw[D];omega)|(rw[D];simp only;omega)|(simp only;rw[D];omega)|(simp only;rw[D];simp only;omega))) ⟨((((q4.z5 q5 q6 q8 q9 a8).step a9<|λk hk a5=>absurd (a2.blk k hk).1 oo).n1 e7).step e8<|λk hk a5=>absurd (b4.blk k hk).1 oo),⟨sm,by simp only;rw[D];exact Z⟩⟩ sm;have D:z9j O (n+1)=((z9j O n).1++[opS 4 1 n],(z9j O n).2+1):=by rw[d0];unfold v0u;rw[if_neg oo]
 refine sk<|tn<|ex<|xo U<|te<|te<|xh<|bn'<|tn<|rg<|mv U<|ad6 U<|asg U<|nl ?_;exact lpE ((n+1,_)) (.c5 U U U U<|congrArg (λz=>some<|Value.int .i64 z) (by first|(rw[D];done)|(simp only;rw[D];done)|(rw[D];omega)|(rw[D];simp only;omega)|(simp only;rw[D];omega)|(simp only;rw[D];simp only;omega))) ⟨((q4.z5 q5 q6 q8 q9 a8).step a9<|λk hk a5=>absurd (a2.blk k hk).1 oo),⟨sm,by simp only;rw[D];exact Z⟩⟩ sm;have D:z9j O (n+1)=(z9j O n):=by rw[<-b5,u6t oo]
 refine ex<|te<|te<|xh<|bn'<|tn<|rg<|mv U<|ad6 U<|asg U<|nl ?_;have Z:=(((Z.ext q5).fr q6 (by first|exact z9x Z oo|simp[z0v]<;>omega)).fr q8 (by first|exact z9x Z oo|simp[z0v]<;>omega)).ext q9;exact lpE ((n+1,_)) (.c5 U U U U<|congrArg (λz=>some<|Value.int .i64 z) (by first|(rw[D];done)|(simp only;rw[D];done)|(rw[D];omega)|(rw[D];simp only;omega)|(simp only;rw[D];omega)|(simp only;rw[D];simp only;omega))) ⟨(q4.z4 q5 q6 q8 q9),⟨sm,by simp only;rw[D];exact Z⟩⟩ sm;obtain rfl:n=16:=by omega
 refine ex<|te<|te<|xh<|tn<|sr<|cl z0f cO (v6u _) ?_;rintro _ j6 ⟨⟨gy,gt,rfl,c9⟩,q14⟩;have k8:=q14.size;have a3:=c9.k;clear c9;refine mv U<|z1r (cs:=[_,_,_,_,_,_]) (ev2 U) x8f (z0g U<|z0g U z0r) U ?_;refine z1i ([⟨2,0,0,0,1,0⟩]) (ev1 U) U y2n<|λh5 j7 g8 e5 a6 k9=>?_;have a3:=a3.ext a6;have Z:=Z.ext<|q14.n1 a6;have a0:=Z;refine z2l U Z e5.sl y2n (λj1 j8 Z a7 f5=>?_) (hM:=t60) (hb:=t54);have l0:=a7.size;have a3:=a3.fr a7 (λk_ f1 _=>by obtain⟨h0,f2⟩:=y0r a0 k_ f1;exact⟨_,_,f2,dd⟩);have e6:(j0n O).length=(z9j O 16).1.length+1:=by unfold j0n;rw[l13];rfl
 have b2:=d1.ext<|(q1.n4 q2 q4 q14 a6).step a7<|λk hk a5=>absurd (a0.blk k hk).1 oo;refine cl (ev2 U) cO (v0c _ (j0n O) _ a3.at (stp0 gy gt) (by rw[e6];omega) Z.sl b2) ?_;rintro _ j9 ⟨⟨s5,rfl,b9,d3,i8⟩,q17⟩;have l1:=q17.size;have b1:=b9.k;clear b9;refine mv U<|xt U<|xt U<|xt U<|al y5r U<|λg9 k0 i0 b3 b7 l2=>?_;refine z0j (vs:=[_,_,_,_,_,_,_,_]) U b3 z9q (λk1 b3 b8 l3=>?_) (h1:=t24);refine asg U<|asg U<|kpL (ll2 2 9) U<|nn<|sr<|z0l U b3 z8i ?_;have a4:=d4.ext<|((q4.n2 q14 a6).step a7<|λk hk a5=>absurd (a0.blk k hk).1 oo).z3 q17 b7 b8;refine z0j (vs:=[_,_,_,_,_,_,_,_]) U a4 z9q (λk2 a4 e9 l4=>?_) (h1:=t24);refine nn<|rt<|rC U U a4 z8i  ?_;have b1:=((b1.ext b7).fr b8 t30).fr e9 t30;exact⟨_,rfl,⟨s5,rfl,b1,λq hq=>by rw[nrm0]at d3;exact(d3 q hq).mono (by rw[e6];omega)⟩,(((q1.n4 q2 q4 q14 a6).step a7<|λk hk a5=>absurd (a0.blk k hk).1 oo).z4 q17 b7 b8 e9)⟩
end Go.Proofs.YtkafbfjmcigaiaaGreatDoor
namespace Go.G26
open Go.Lw Go.G21 Go.G08
def exP:List (List MOp):=[[xfP 0 10,rkP 1,rkP 0,xfP 1 10],[xfP 0 10,rkP 2,xfP 1 10,rkP 0],[xfP 0 10,rkP 3,xfP 1 10,rkP 0],[xfP 0 11,rkP (-1),xfP 1 11,rkP 0],[xfP 0 11,rkP (-1),rkP 0,xfP 1 11]]
def exW:List (List Int):=[[],[-1],[-1,-2],[1],[1,-1]]
def xa:LId:=⟨1,0⟩
def xb:LId:=⟨1,1⟩
def xc:LId:=⟨1,2⟩
def exH:List (List LId):=[[xa,xb,xc],[xb,xa,xc],[xb,xc,xa],[xb,xa,xc],[xa,xb,xc]]
def exA (p:MSt)(i:Nat):Bool:=match z1w (nrm p) (exP.getD i []) with
  | .error _=>false
  | .ok (w,q)=>decide (w=exW.getD i []/\z3n q=exH.getD i []/\(i=1->q.B.at 0 12=[xa,xc])/\(i=3->q.B.at 0 10=[xb,xa]))
def k1s (p:MSt)(l:List MOp):Int:=match z1w p l with
  | .error e=>e
  | .ok _=>0
def exB:Bool:=match z2u 0 G08.start exO with
  | .error _=>false
  | .ok p=>decide (z3n p=[xa,xb,xc]) && exA p 0 && exA p 1 && exA p 2 && exA p 3 && exA p 4 && decide (k1s (nrm p) [rkP 5]=1) && decide (k1s (nrm p) [xfP 0 13]=13)
theorem ex_b:exB=true:=by decide +kernel
theorem k7e:∃p,z2u 0 G08.start exO=.ok p/\z3n p=[xa,xb,xc]/\k1s (nrm p) [rkP 5]=1/\k1s (nrm p) [xfP 0 13]=13/\
    ∀i,i<5->∃q,z1w (nrm p) (exP.getD i [])=.ok (exW.getD i [],q)/\z3n q=exH.getD i []/\(i=1->q.B.at 0 12=[xa,xc])/\(i=3->q.B.at 0 10=[xb,xa]):=by
  have h:=ex_b
  unfold exB at h
  split at h
  · cases h
  · rename_i p Z
    simp only[l93,decide_eq_true_eq]at h
    obtain⟨⟨⟨⟨⟨⟨⟨D,h2⟩,h3⟩,h4⟩,h5⟩,h6⟩,I⟩,O⟩:=h
    refine⟨p,Z,D,I,O,λi hi=>?_⟩
    have k:exA p i=true:=by
      rcases(show i=0\/i=1\/i=2\/i=3\/i=4 by omega) with rfl|rfl|rfl|rfl|rfl<;>assumption
    unfold exA at k
    split at k
    · cases k
    · rename_i w q hq
      obtain⟨k1,k2,k3,k4⟩:=of_decide_eq_true k
      exact⟨q,by rw[hq,k1],k2,k3,k4⟩
def exT:List (List<|List UInt8):=[[[120,102,101,114,32,102,49,48],[114,97,99,107,32,49],[114,97,99,107,32,48],[120,102,101,114,32,98,49,48]],[[120,102,101,114,32,102,49,48],[114,97,99,107,32,50],[120,102,101,114,32,98,49,48],[114,97,99,107,32,48]],[[120,102,101,114,32,102,49,48],[114,97,99,107,32,51],[120,102,101,114,32,98,49,48],[114,97,99,107,32,48]],[[120,102,101,114,32,102,49,49],[114,97,99,107,32,45,49],[120,102,101,114,32,98,49,49],[114,97,99,107,32,48]],[[120,102,101,114,32,102,49,49],[114,97,99,107,32,45,49],[114,97,99,107,32,48],[120,102,101,114,32,98,49,49]]]
theorem k3g:∀i,i<5->(exT.getD i []).length=4/\(exP.getD i []).length=4/\∀k,k<4->x0p ((exT.getD i []).getD k [])=((exP.getD i []).getD k op0,0)/\((exT.getD i []).getD k []).length<=100:=by decide +kernel
theorem k2x:∀i,i<5->(exW.getD i []).length<=2:=dd
theorem j1u:x0p [120,102,101,114,32,102,49,51]=(xfP 0 13,0):=by decide +kernel
theorem y2q {p:MSt}{l:List MOp}{e:Int}(h:k1s p l=e)(D:e≠0):z1w p l=.error e:=by
 unfold k1s at h;split at h;rename_i x I;rw[I,h];exact absurd h.symm D
abbrev SQ (α:Type):=SV×List α
def encQ (α:Type):Enc (SQ α):=⟨λp=>[.slice p.1.1 p.1.2.1 p.1.2.2],1,λ_=>rfl,λ_ u h=>by simp at h;subst h;rfl,dd⟩
abbrev q1o:=encQ Int
abbrev q0c:=encQ<|List UInt8
abbrev sqi:SQ Int:=(sv0,[])
abbrev sqs:SQ (List UInt8):=(sv0,[])
def QAt {α:Type}(E:Enc α)(w:World)(l:List (SQ α)):Prop:=∀q∈l,Sl E w (slv q.1) q.2
theorem QAt.ext {α:Type}{E:Enc α}{w w':World}{l:List (SQ α)}(h:QAt E w l)(hf:Fr [] w w'):QAt E w' l:=λq D=>(h q D).ext hf
theorem QAt.get {α:Type}{E:Enc α}{w:World}{l:List (SQ α)}{d:SQ α}(h:QAt E w l){i:Nat}(hi:i<l.length):Sl E w (slv (l.getD i d).1) (l.getD i d).2:=h _<|z1b hi
theorem QAt.five {α:Type}{E:Enc α}{w:World}{a b c d e:SQ α}(h1:Sl E w (slv a.1) a.2)(I:Sl E w (slv b.1) b.2)(O:Sl E w (slv c.1) c.2)(Z:Sl E w (slv d.1) d.2)(h5:Sl E w (slv e.1) e.2):QAt E w [a,b,c,d,e]:=λq D=>by
 simp only[l57,l128,or_false]at D
 rcases D with rfl|rfl|rfl|rfl|rfl<;>assumption
end Go.G26
