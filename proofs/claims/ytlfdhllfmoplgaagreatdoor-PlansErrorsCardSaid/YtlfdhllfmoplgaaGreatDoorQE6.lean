/- Texts of the proof, joined. -/
import Derived.Shelf.Strings.Builder1
import Derived.Shelf.Strings.Builder2
import Derived.Shelf.Strings.OnBuilder
import Derived.Shelf.Small.Bits
import Derived.Shelf.Strconv.Atoi
import Derived.Shelf.Strconv.Itoa0
import Derived.Shelf.Strconv.Itoa1
import Derived.Shelf.LaysM
import Derived.Shelf.Strconv.Itoa2
import Derived.Shelf.Strconv.Itoa3
import Derived.Shelf.Strconv.AtoiErrFast
import Derived.Shelf.Strconv.ParseIntEmpty
import Derived.Shelf.Strconv.AtoiFail
import Derived.Shelf.Strconv.Clone
import Derived.Shelf.Strconv.SyntaxError
import Derived.Shelf.LaysC
import Derived.Shelf.Strconv.ToError
import Derived.Shelf.Strconv.AtoiErr
import Derived.Shelf.Strconv.ErrVar
import Derived.Shelf.Strconv.Lower
import Derived.Shelf.Strconv.ParseUint10
import Derived.Shelf.Strconv.ParseUint10Empty
import Derived.Shelf.Strconv.ParseUint10Any
import Derived.Shelf.Strconv.ParseInt10
import Derived.Shelf.Strconv.AtoiLong
import Derived.Shelf.Strconv.AtoiInnerAll
import Derived.Shelf.Strconv.RangeError
import Derived.Shelf.Strconv.ToErrorRange
import Derived.Shelf.Strconv.AtoiAll
import Derived.Shelf.Strconv.ErrVarAll
import Derived.Shelf.Strings.Search1
import Derived.Shelf.Strings.Search2
import Derived.Shelf.Strings.Search3
import Derived.Shelf.Strings.Count
import Derived.Shelf.Strings.Shaped
import Derived.Shelf.Strings.Split
import Derived.Shelf.Strings.SplitShaped
import Derived.Shelf.Unicode.DecodeSlow
import Derived.Ground.SlgnProg
import Derived.Shelf.SlicesE.Equal
import Derived.Test.YtlfdhllfmoplgaaGreatDoorProg
import Derived.Test.YtlfdhllfmoplgaaGreatDoorRows
import Derived.Lib.LaidTab
import Derived.LaidSub
import Derived.Test.YtlfdhllfmoplgaaGreatDoorCards
import Derived.Test.YtlfdhllfmoplgaaGreatDoorTie
import Derived.ChangeMaps5
import Derived.Test.YtlfdhllfmoplgaaGreatDoorQE5
set_option linter.unusedVariables false
set_option linter.unusedSimpArgs false
set_option maxHeartbeats 4000000
namespace Go.Proofs
open Go.Shelf
def Tryz.lays156_ren:Go.Shelf.Ren:=⟨fun|156=>194|165=>224|166=>225|169=>226|240=>240|241=>241|276=>259|277=>260|n=>n,fun|31=>88|9=>9|3=>3|4=>4|0=>0|20=>20|72=>304|76=>298|70=>302|37=>51|75=>297|127=>319|164=>330|5=>5|80=>305|n=>n,fun|n=>n⟩
theorem Tryz.lays156:Go.Proofs.Lays.n156 Tryz.prog Tryz.lays156_ren:={
 mixed:=by kernel_rfl
 f156:=Tryz.func194.trans (congrArg some kr)
 f165:=Tryz.func224.trans (congrArg some kr)
 f166:=Tryz.func225.trans (congrArg some kr)
 f169:=Tryz.func226.trans (congrArg some kr)
 f240:=Tryz.func240.trans (congrArg some kr)
 f241:=Tryz.func241.trans (congrArg some kr)
 f276:=Tryz.func259.trans (congrArg some kr)
 f277:=Tryz.func260.trans (congrArg some kr)
 t0:=Tryz.underlying0
 a0:=Tryz.isAgg0
 z0:=Tryz.sizeOf0
 v0:=Tryz.zeroValue0
 t3:=Tryz.underlying3
 a3:=Tryz.isAgg3
 z3:=Tryz.sizeOf3
 v3:=Tryz.zeroValue3
 t4:=Tryz.underlying4
 a4:=Tryz.isAgg4
 z4:=Tryz.sizeOf4
 v4:=Tryz.zeroValue4
 t9:=Tryz.underlying9
 a9:=Tryz.isAgg9
 z9:=Tryz.sizeOf9
 v9:=Tryz.zeroValue9
 t20:=Tryz.underlying20
 a20:=Tryz.isAgg20
 z20:=Tryz.sizeOf20
 v20:=Tryz.zeroValue20
 t31:=Tryz.underlying88
 a31:=Tryz.isAgg88
 z31:=Tryz.sizeOf88
 v31:=Tryz.zeroValue88
 t37:=Tryz.underlying51
 a37:=Tryz.isAgg51
 z37:=Tryz.sizeOf51
 v37:=Tryz.zeroValue51
 t70:=Tryz.underlying302
 a70:=Tryz.isAgg302
 z70:=Tryz.sizeOf302
 v70:=Tryz.zeroValue302
 t72:=Tryz.underlying304
 a72:=Tryz.isAgg304
 z72:=Tryz.sizeOf304
 v72:=Tryz.zeroValue304
 t75:=Tryz.underlying297
 a75:=Tryz.isAgg297
 z75:=Tryz.sizeOf297
 v75:=Tryz.zeroValue297
 t76:=Tryz.underlying298
 a76:=Tryz.isAgg298
 z76:=Tryz.sizeOf298
 v76:=Tryz.zeroValue298
 t127:=Tryz.underlying319
 a127:=Tryz.isAgg319
 z127:=Tryz.sizeOf319
 v127:=Tryz.zeroValue319
 t164:=Tryz.underlying330
 a164:=Tryz.isAgg330
 z164:=Tryz.sizeOf330
 v164:=Tryz.zeroValue330 }
theorem Tryz.Builder_Extra_156:Builder.Extra Tryz.prog Tryz.lays156_ren:={
 sizeBuilder:=by kernel_rfl
 liesBuilder:=by kernel_rfl
 t5:=Tryz.underlying5
 a5:=Tryz.isAgg5
 z5:=Tryz.sizeOf5
 v5:=Tryz.zeroValue5
 infoByte:=by kernel_rfl
 cellsByte:=by kernel_rfl
 sizeByte:=by kernel_rfl
 neB5:=by decide }
open Go.RowKit in
theorem Tryz.strings_Join (bk o c:Nat)(xs:List ByteArray)(I:ByteArray)(w:World)(D:∀(j:Nat) x,xs[j]?=some x->w.cell? ⟨bk,o+j,none⟩=some (.string x))(Z:bk<w.heap.size)(hN:xs.length<=140737488355328)(M:xs.length<=c)(O:(Lib.join (xs.map (·.data.toList)) I.data.toList).length<=140737488355328) :
 Calls Tryz.prog 194 #[.slice (some ⟨bk,o,none⟩) xs.length c,.string I] w λe w'=>e=.returned (.string ⟨(Lib.join (xs.map (·.data.toList)) I.data.toList).toArray⟩)/\Below w.heap.size w w':=Any.strings_Join Tryz.lays156 Tryz.Builder_Extra_156 bk o c xs I w D Z hN M O
def Tryz.laysM171_ren:Go.Shelf.Ren:=⟨fun|171=>192|243=>223|246=>239|283=>255|284=>256|285=>257|286=>258|129=>178|317=>266|318=>267|319=>268|320=>269|337=>272|338=>273|n=>n,fun|3=>3|9=>9|2=>2|4=>4|171=>326|0=>0|53=>264|37=>51|5=>5|173=>328|212=>345|51=>262|20=>20|213=>346|46=>219|232=>352|233=>353|n=>n,fun|17=>8|18=>9|19=>10|n=>n⟩
theorem Tryz.laysM171:Go.Proofs.LaysM.n171 Tryz.prog Tryz.laysM171_ren:={
 mixed:=by kernel_rfl
 f129:=Tryz.func178.trans (congrArg some kr)
 f171:=Tryz.func192.trans (congrArg some kr)
 f243:=Tryz.func223.trans (congrArg some kr)
 f246:=Tryz.func239.trans (congrArg some kr)
 f283:=Tryz.func255.trans (congrArg some kr)
 f284:=Tryz.func256.trans (congrArg some kr)
 f285:=Tryz.func257.trans (congrArg some kr)
 f286:=Tryz.func258.trans (congrArg some kr)
 f317:=Tryz.func266.trans (congrArg some kr)
 f318:=Tryz.func267.trans (congrArg some kr)
 f319:=Tryz.func268.trans (congrArg some kr)
 f320:=Tryz.func269.trans (congrArg some kr)
 f337:=Tryz.func272.trans (congrArg some kr)
 f338:=Tryz.func273.trans (congrArg some kr)
 t0:=Tryz.underlying0
 a0:=Tryz.isAgg0
 z0:=Tryz.sizeOf0
 v0:=Tryz.zeroValue0
 t2:=Tryz.underlying2
 a2:=Tryz.isAgg2
 z2:=Tryz.sizeOf2
 v2:=Tryz.zeroValue2
 t3:=Tryz.underlying3
 a3:=Tryz.isAgg3
 z3:=Tryz.sizeOf3
 v3:=Tryz.zeroValue3
 t4:=Tryz.underlying4
 a4:=Tryz.isAgg4
 z4:=Tryz.sizeOf4
 v4:=Tryz.zeroValue4
 t5:=Tryz.underlying5
 a5:=Tryz.isAgg5
 z5:=Tryz.sizeOf5
 v5:=Tryz.zeroValue5
 t9:=Tryz.underlying9
 a9:=Tryz.isAgg9
 z9:=Tryz.sizeOf9
 v9:=Tryz.zeroValue9
 t20:=Tryz.underlying20
 a20:=Tryz.isAgg20
 z20:=Tryz.sizeOf20
 v20:=Tryz.zeroValue20
 t37:=Tryz.underlying51
 a37:=Tryz.isAgg51
 z37:=Tryz.sizeOf51
 v37:=Tryz.zeroValue51
 t46:=Tryz.underlying219
 a46:=Tryz.isAgg219
 z46:=Tryz.sizeOf219
 v46:=Tryz.zeroValue219
 t51:=Tryz.underlying262
 a51:=Tryz.isAgg262
 z51:=Tryz.sizeOf262
 v51:=Tryz.zeroValue262
 t53:=Tryz.underlying264
 a53:=Tryz.isAgg264
 z53:=Tryz.sizeOf264
 v53:=Tryz.zeroValue264
 t171:=Tryz.underlying326
 a171:=Tryz.isAgg326
 z171:=Tryz.sizeOf326
 v171:=Tryz.zeroValue326
 t173:=Tryz.underlying328
 a173:=Tryz.isAgg328
 z173:=Tryz.sizeOf328
 v173:=Tryz.zeroValue328
 t212:=Tryz.underlying345
 a212:=Tryz.isAgg345
 z212:=Tryz.sizeOf345
 v212:=Tryz.zeroValue345
 t213:=Tryz.underlying346
 a213:=Tryz.isAgg346
 z213:=Tryz.sizeOf346
 t232:=Tryz.underlying352
 a232:=Tryz.isAgg352
 z232:=Tryz.sizeOf352
 v232:=Tryz.zeroValue352
 t233:=Tryz.underlying353
 a233:=Tryz.isAgg353
 z233:=Tryz.sizeOf353
 v233:=Tryz.zeroValue353
 g17:=by kernel_rfl
 g18:=by kernel_rfl
 g19:=by kernel_rfl
 i0:=by kernel_rfl
 i2:=by kernel_rfl
 i3:=by kernel_rfl
 i4:=by kernel_rfl
 i5:=by kernel_rfl
 i9:=by kernel_rfl
 i20:=by kernel_rfl
 i37:=by kernel_rfl
 i46:=by kernel_rfl
 i51:=by kernel_rfl
 i53:=by kernel_rfl
 i171:=by kernel_rfl
 i173:=by kernel_rfl
 i212:=by kernel_rfl
 i232:=by kernel_rfl
 i233:=by kernel_rfl
 m17:=by kernel_rfl
 m18:=by kernel_rfl
 m19:=by kernel_rfl }
open Go.RowKit Go.Sort Go.Lib in
theorem Tryz.strconv_Itoa (n:Int)(I:-9223372036854775808<=n)(h1:n<=9223372036854775807)(w:World)(D:Lib.TabIs Tryz.prog w "internal/strconv.uint64pow10" .u64 Lib.pow10Tab) :
 Calls Tryz.prog 192 #[.int .i64 n] w λe w'=>e=.returned (.string ⟨(Lib.itoa n).toArray⟩)/\∃k M,w'=grow (w.drewN k) M:=Any.strconv_Itoa Tryz.laysM171 n I h1 w D
def Tryz.laysC172_ren:Go.Shelf.Ren:=⟨fun|172=>219|244=>233|245=>234|247=>245|279=>246|280=>247|281=>248|282=>249|287=>261|316=>262|171=>192|205=>263|321=>270|322=>271|243=>223|246=>239|283=>255|284=>256|285=>257|286=>258|129=>178|317=>266|318=>267|319=>268|320=>269|337=>272|338=>273|n=>n,fun|9=>9|3=>3|75=>297|76=>298|4=>4|5=>5|167=>320|37=>51|0=>0|85=>321|2=>2|168=>323|53=>264|175=>332|46=>219|210=>336|127=>319|145=>351|143=>349|21=>21|171=>326|173=>328|212=>345|51=>262|20=>20|213=>346|232=>352|233=>353|80=>305|n=>n,fun|15=>4|16=>5|17=>8|18=>9|19=>10|n=>n⟩
theorem Tryz.laysC172:Go.Proofs.LaysC.n172 Tryz.prog Tryz.laysC172_ren:={
 mixed:=by kernel_rfl
 f129:=Tryz.func178.trans (congrArg some kr)
 f171:=Tryz.func192.trans (congrArg some kr)
 f172:=Tryz.func219.trans (congrArg some kr)
 f205:=Tryz.func263.trans (congrArg some kr)
 f243:=Tryz.func223.trans (congrArg some kr)
 f244:=Tryz.func233.trans (congrArg some kr)
 f245:=Tryz.func234.trans (congrArg some kr)
 f246:=Tryz.func239.trans (congrArg some kr)
 f247:=Tryz.func245.trans (congrArg some kr)
 f279:=Tryz.func246.trans (congrArg some kr)
 f280:=Tryz.func247.trans (congrArg some kr)
 f281:=Tryz.func248.trans (congrArg some kr)
 f282:=Tryz.func249.trans (congrArg some kr)
 f283:=Tryz.func255.trans (congrArg some kr)
 f284:=Tryz.func256.trans (congrArg some kr)
 f285:=Tryz.func257.trans (congrArg some kr)
 f286:=Tryz.func258.trans (congrArg some kr)
 f287:=Tryz.func261.trans (congrArg some kr)
 f316:=Tryz.func262.trans (congrArg some kr)
 f317:=Tryz.func266.trans (congrArg some kr)
 f318:=Tryz.func267.trans (congrArg some kr)
 f319:=Tryz.func268.trans (congrArg some kr)
 f320:=Tryz.func269.trans (congrArg some kr)
 f321:=Tryz.func270.trans (congrArg some kr)
 f322:=Tryz.func271.trans (congrArg some kr)
 f337:=Tryz.func272.trans (congrArg some kr)
 f338:=Tryz.func273.trans (congrArg some kr)
 t0:=Tryz.underlying0
 a0:=Tryz.isAgg0
 z0:=Tryz.sizeOf0
 v0:=Tryz.zeroValue0
 t2:=Tryz.underlying2
 a2:=Tryz.isAgg2
 z2:=Tryz.sizeOf2
 v2:=Tryz.zeroValue2
 t3:=Tryz.underlying3
 a3:=Tryz.isAgg3
 z3:=Tryz.sizeOf3
 v3:=Tryz.zeroValue3
 t4:=Tryz.underlying4
 a4:=Tryz.isAgg4
 z4:=Tryz.sizeOf4
 v4:=Tryz.zeroValue4
 t5:=Tryz.underlying5
 a5:=Tryz.isAgg5
 z5:=Tryz.sizeOf5
 v5:=Tryz.zeroValue5
 t9:=Tryz.underlying9
 a9:=Tryz.isAgg9
 z9:=Tryz.sizeOf9
 v9:=Tryz.zeroValue9
 t20:=Tryz.underlying20
 a20:=Tryz.isAgg20
 z20:=Tryz.sizeOf20
 v20:=Tryz.zeroValue20
 t21:=Tryz.underlying21
 a21:=Tryz.isAgg21
 z21:=Tryz.sizeOf21
 v21:=Tryz.zeroValue21
 t37:=Tryz.underlying51
 a37:=Tryz.isAgg51
 z37:=Tryz.sizeOf51
 v37:=Tryz.zeroValue51
 t46:=Tryz.underlying219
 a46:=Tryz.isAgg219
 z46:=Tryz.sizeOf219
 v46:=Tryz.zeroValue219
 t51:=Tryz.underlying262
 a51:=Tryz.isAgg262
 z51:=Tryz.sizeOf262
 v51:=Tryz.zeroValue262
 t53:=Tryz.underlying264
 a53:=Tryz.isAgg264
 z53:=Tryz.sizeOf264
 v53:=Tryz.zeroValue264
 t75:=Tryz.underlying297
 a75:=Tryz.isAgg297
 z75:=Tryz.sizeOf297
 v75:=Tryz.zeroValue297
 t76:=Tryz.underlying298
 a76:=Tryz.isAgg298
 z76:=Tryz.sizeOf298
 v76:=Tryz.zeroValue298
 t85:=Tryz.underlying321
 a85:=Tryz.isAgg321
 z85:=Tryz.sizeOf321
 v85:=Tryz.zeroValue321
 t127:=Tryz.underlying319
 a127:=Tryz.isAgg319
 z127:=Tryz.sizeOf319
 v127:=Tryz.zeroValue319
 t143:=Tryz.underlying349
 a143:=Tryz.isAgg349
 z143:=Tryz.sizeOf349
 v143:=Tryz.zeroValue349
 t145:=Tryz.underlying351
 a145:=Tryz.isAgg351
 z145:=Tryz.sizeOf351
 v145:=Tryz.zeroValue351
 t167:=Tryz.underlying320
 a167:=Tryz.isAgg320
 z167:=Tryz.sizeOf320
 v167:=Tryz.zeroValue320
 t168:=Tryz.underlying323
 a168:=Tryz.isAgg323
 z168:=Tryz.sizeOf323
 v168:=Tryz.zeroValue323
 t171:=Tryz.underlying326
 a171:=Tryz.isAgg326
 z171:=Tryz.sizeOf326
 v171:=Tryz.zeroValue326
 t173:=Tryz.underlying328
 a173:=Tryz.isAgg328
 z173:=Tryz.sizeOf328
 v173:=Tryz.zeroValue328
 t175:=Tryz.underlying332
 a175:=Tryz.isAgg332
 z175:=Tryz.sizeOf332
 v175:=Tryz.zeroValue332
 t210:=Tryz.underlying336
 a210:=Tryz.isAgg336
 z210:=Tryz.sizeOf336
 v210:=Tryz.zeroValue336
 t212:=Tryz.underlying345
 a212:=Tryz.isAgg345
 z212:=Tryz.sizeOf345
 v212:=Tryz.zeroValue345
 t213:=Tryz.underlying346
 a213:=Tryz.isAgg346
 z213:=Tryz.sizeOf346
 t232:=Tryz.underlying352
 a232:=Tryz.isAgg352
 z232:=Tryz.sizeOf352
 v232:=Tryz.zeroValue352
 t233:=Tryz.underlying353
 a233:=Tryz.isAgg353
 z233:=Tryz.sizeOf353
 v233:=Tryz.zeroValue353
 g15:=by kernel_rfl
 g16:=by kernel_rfl
 g17:=by kernel_rfl
 g18:=by kernel_rfl
 g19:=by kernel_rfl
 t80:=Tryz.underlying305
 a80:=Tryz.isAgg305
 z80:=Tryz.sizeOf305
 v80:=Tryz.zeroValue305
 i0:=by kernel_rfl
 i2:=by kernel_rfl
 i3:=by kernel_rfl
 i4:=by kernel_rfl
 i5:=by kernel_rfl
 i9:=by kernel_rfl
 i20:=by kernel_rfl
 i21:=by kernel_rfl
 i37:=by kernel_rfl
 i46:=by kernel_rfl
 i51:=by kernel_rfl
 i53:=by kernel_rfl
 i75:=by kernel_rfl
 i76:=by kernel_rfl
 i80:=by kernel_rfl
 i85:=by kernel_rfl
 i127:=by kernel_rfl
 i143:=by kernel_rfl
 i145:=by kernel_rfl
 i167:=by kernel_rfl
 i168:=by kernel_rfl
 i171:=by kernel_rfl
 i173:=by kernel_rfl
 i175:=by kernel_rfl
 i210:=by kernel_rfl
 i212:=by kernel_rfl
 i232:=by kernel_rfl
 i233:=by kernel_rfl
 m15:=by kernel_rfl
 m16:=by kernel_rfl
 m17:=by kernel_rfl
 m18:=by kernel_rfl
 m19:=by kernel_rfl
 c0:=by kernel_rfl
 c2:=by kernel_rfl
 c3:=by kernel_rfl
 c4:=by kernel_rfl
 c5:=by kernel_rfl
 c9:=by kernel_rfl
 c20:=by kernel_rfl
 c21:=by kernel_rfl
 c37:=by kernel_rfl
 c46:=by kernel_rfl
 c51:=by kernel_rfl
 c53:=by kernel_rfl
 c75:=by kernel_rfl
 c76:=by kernel_rfl
 c80:=by kernel_rfl
 c85:=by kernel_rfl
 c127:=by kernel_rfl
 c143:=by kernel_rfl
 c145:=by kernel_rfl
 c167:=by kernel_rfl
 c168:=by kernel_rfl
 c171:=by kernel_rfl
 c173:=by kernel_rfl
 c175:=by kernel_rfl
 c210:=by kernel_rfl
 c212:=by kernel_rfl
 c213:=by kernel_rfl
 c232:=by kernel_rfl
 c233:=by kernel_rfl }
open Go.RowKit in
theorem Tryz.strconv_Atoi_ok (s:ByteArray)(D:s.size<=9223372036854775806)(v:Int)(h:Lib.atoiAll s.data.toList=.ok v)(w:World) :
 Calls Tryz.prog 219 #[.string s] w λe w'=>e=.returned (.tuple #[.int .i64 v,.nilIface])/\(w'=w\/∃t,w'=Lib.bytesWorld w 5 t):=Any.strconv_Atoi_ok Tryz.laysC172 s D v h w
open Go.RowKit in
theorem Tryz.strconv_Atoi_syntax (s:ByteArray)(D:s.size<=281474976710656)(h:Lib.atoiAll s.data.toList=Lib.atoiAll [])(ev:Value)(w:World)(M:w.cell? ⟨4,0,none⟩=some ev)(I:ev=.nilIface\/∃te O,ev=.iface te O) :
 Calls Tryz.prog 219 #[.string s] w λe w'=>∃N,e=.returned (.tuple #[.int .i64 (0),.iface 323 (.pointer (some ⟨N,0,none⟩))])/\w.heap.size<=N/\w'.heap[N]?=some (.cells #[.string ⟨#[65,116,111,105]⟩,.string s,ev] 336 (0,0))/\Below w.heap.size w w':=Any.strconv_Atoi_syntax Tryz.laysC172 s D h ev w M I
open Go.RowKit in
theorem Tryz.strconv_Atoi_range (s:ByteArray)(D:s.size<=281474976710656)(h:Lib.atoiAll s.data.toList=.range)(ev:Value)(w:World)(M:w.cell? ⟨5,0,none⟩=some ev)(I:ev=.nilIface\/∃te O,ev=.iface te O) :
 Calls Tryz.prog 219 #[.string s] w λe w'=>∃N,e=.returned (.tuple #[.int .i64 (Lib.atoiSat s.data.toList),.iface 323 (.pointer (some ⟨N,0,none⟩))])/\w.heap.size<=N/\w'.heap[N]?=some (.cells #[.string ⟨#[65,116,111,105]⟩,.string s,ev] 336 (0,0))/\Below w.heap.size w w':=Any.strconv_Atoi_range Tryz.laysC172 s D h ev w M I
def Tryz.lays146_ren:Go.Shelf.Ren:=⟨fun|146=>141|221=>191|268=>220|138=>221|143=>222|195=>235|197=>236|218=>237|219=>238|260=>250|217=>251|225=>252|224=>253|267=>254|266=>264|314=>265|n=>n,fun|9=>9|31=>88|3=>3|4=>4|0=>0|105=>315|21=>21|5=>5|46=>219|119=>338|139=>341|138=>340|146=>342|51=>262|n=>n,fun|1=>3|3=>6|4=>7|n=>n⟩
theorem Tryz.lays146:Go.Proofs.Lays.n146 Tryz.prog Tryz.lays146_ren:={
 mixed:=by kernel_rfl
 f138:=Tryz.func221.trans (congrArg some kr)
 f143:=Tryz.func222.trans (congrArg some kr)
 f146:=Tryz.func141.trans (congrArg some kr)
 f195:=Tryz.func235.trans (congrArg some kr)
 f197:=Tryz.func236.trans (congrArg some kr)
 f217:=Tryz.func251.trans (congrArg some kr)
 f218:=Tryz.func237.trans (congrArg some kr)
 f219:=Tryz.func238.trans (congrArg some kr)
 f221:=Tryz.func191.trans (congrArg some kr)
 f224:=Tryz.func253.trans (congrArg some kr)
 f225:=Tryz.func252.trans (congrArg some kr)
 f260:=Tryz.func250.trans (congrArg some kr)
 f266:=Tryz.func264.trans (congrArg some kr)
 f267:=Tryz.func254.trans (congrArg some kr)
 f268:=Tryz.func220.trans (congrArg some kr)
 f314:=Tryz.func265.trans (congrArg some kr)
 t0:=Tryz.underlying0
 a0:=Tryz.isAgg0
 z0:=Tryz.sizeOf0
 v0:=Tryz.zeroValue0
 t3:=Tryz.underlying3
 a3:=Tryz.isAgg3
 z3:=Tryz.sizeOf3
 v3:=Tryz.zeroValue3
 t4:=Tryz.underlying4
 a4:=Tryz.isAgg4
 z4:=Tryz.sizeOf4
 v4:=Tryz.zeroValue4
 t5:=Tryz.underlying5
 a5:=Tryz.isAgg5
 z5:=Tryz.sizeOf5
 v5:=Tryz.zeroValue5
 t9:=Tryz.underlying9
 a9:=Tryz.isAgg9
 z9:=Tryz.sizeOf9
 v9:=Tryz.zeroValue9
 t21:=Tryz.underlying21
 a21:=Tryz.isAgg21
 z21:=Tryz.sizeOf21
 v21:=Tryz.zeroValue21
 t31:=Tryz.underlying88
 a31:=Tryz.isAgg88
 z31:=Tryz.sizeOf88
 v31:=Tryz.zeroValue88
 t46:=Tryz.underlying219
 a46:=Tryz.isAgg219
 z46:=Tryz.sizeOf219
 v46:=Tryz.zeroValue219
 t51:=Tryz.underlying262
 a51:=Tryz.isAgg262
 z51:=Tryz.sizeOf262
 v51:=Tryz.zeroValue262
 t105:=Tryz.underlying315
 a105:=Tryz.isAgg315
 z105:=Tryz.sizeOf315
 v105:=Tryz.zeroValue315
 t119:=Tryz.underlying338
 a119:=Tryz.isAgg338
 z119:=Tryz.sizeOf338
 t138:=Tryz.underlying340
 a138:=Tryz.isAgg340
 z138:=Tryz.sizeOf340
 v138:=Tryz.zeroValue340
 t139:=Tryz.underlying341
 a139:=Tryz.isAgg341
 z139:=Tryz.sizeOf341
 v139:=Tryz.zeroValue341
 t146:=Tryz.underlying342
 a146:=Tryz.isAgg342
 z146:=Tryz.sizeOf342
 v146:=Tryz.zeroValue342
 g1:=by kernel_rfl
 g3:=by kernel_rfl
 g4:=by kernel_rfl }
open Go.RowKit Go.Lib in
theorem Tryz.strings_Split (s D:ByteArray)(m:Int)(w:World)(M:s.size<4294967281)(I:w.cell? ⟨3,0,none⟩=some (.int .i64 m))(h1:1<=D.size) :
 Calls Tryz.prog 141 #[.string s,.string D] w λe w'=>
  e=.returned (.slice (some ⟨w.heap.size,0,none⟩) (Lib.countB s D+1) (Lib.countB s D+1))/\w'=w.alloc (.cells ((Lib.splitB D 0 (Lib.countB s D) s).map Value.string).toArray 9):=Any.strings_Split Tryz.lays146 kr s D m w M I h1
end Go.Proofs
namespace Go.Proofs.YtlfdhllfmoplgaaGreatDoor
open Go.Lw _root_.Go.Proofs.Tryz
theorem u7a {w w':World}{D:String}{k:IntKind}{zs:List Int}{S:List Nat}(h:Lib.TabIs prog w D k zs)(hf:Fr S w w')(O:∀g,prog.globalNamed D=some g->g∉S):Lib.TabIs prog w' D k zs:=by
 unfold Lib.TabIs World.var? at *
 cases hg:prog.globalNamed D with
 | none=>simp[hg]at h
 | some g=>
  simp only[hg,Option.bind_some]at h ⊢;have M:g<w.heap.size:=by
   rcases Nat.lt_or_ge g w.heap.size with I|I
   exact I;rw[Array.getElem?_eq_none I]at h;simp at h
  rw[hf.block g M (O g hg)];exact h
theorem gPow:prog.globalNamed "internal/strconv.uint64pow10" =some 8:=kr
structure Glob (w:World):Prop where
  wd:Cells w ⟨1,0,none⟩ (z8c.map S)
  dr:Cells w ⟨2,0,none⟩ (x1b.map S)
  ml:IntAt 3 w
  tab:Lib.TabIs prog w "internal/strconv.uint64pow10" .u64 Lib.pow10Tab
  es:∃te pe,w.cell? ⟨4,0,none⟩=some (.iface te pe)
  er:∃te pe,w.cell? ⟨5,0,none⟩=some (.iface te pe)
  sz:11<=w.heap.size
theorem Glob.fr {w w':World}{S:List Nat}(h:Glob w)(hf:Fr S w w')(M:∀k∈S,11<=k):Glob w':=by
 have D:∀g,g<11->g∉S:=λg I e=>by have:=M g e;omega
 exact⟨h.wd.fr hf (D _ dd),h.dr.fr hf (D _ dd),h.ml.fr hf (D _ dd),u7a h.tab hf (λg I=>by rw[gPow]at I;cases I;exact D _ dd),let ⟨a,b,e⟩:=h.es;⟨a,b,hf.cell e (D _ dd)⟩,let ⟨a,b,e⟩:=h.er;⟨a,b,hf.cell e (D _ dd)⟩,Nat.le_trans h.sz hf.size⟩
theorem Glob.ext {w w':World}(h:Glob w)(hf:Fr [] w w'):Glob w':=h.fr hf sp0
theorem u5y (w:World)(k:Nat)(l:Array Obj):Fr [] w (Sort.grow (w.drewN k) l):=
 (Fr.drewN [] w k).next ⟨rfl,rfl,rfl,by simp[Sort.grow],λk D _=>by simp only[Sort.grow];exact Array.getElem?_append_left D⟩
theorem y8t (n:Int)(w0:World)(hG:Glob w0)(h:-99<=n/\n<=99):Rets prog 192 #[.int .i64 n] w0 λv w'=>v=S (x3c n)/\Fr [] w0 w':=by
 refine Calls.mono (strconv_Itoa n oo oo w0 hG.tab) ?_;rintro e w' ⟨rfl,k,D,rfl⟩;exact⟨_,rfl,by rw[u4e h];rfl,u5y _ _ _⟩
theorem y7j (b p:Int)(w0:World)(hG:Glob w0):Rets prog 193 #[.agg #[.int .u8 b,.int .i64 p]] w0 λv w'=>v=S (v1o b p)/\Fr [] w0 w':=by
 have a0:=hG.sz;refine we [(0,.agg #[.int .u8 b,.int .i64 p])] func193 U ntmps193 U (.cons U .nil) (sr (bx U (λg1 w1 a1 D O z1=>(asg U (nn (sq (sr (z0m U D z5r (cl (ev1 U) v6a (z4t _ _ _) U ?_)))))))));rintro _ w2 ⟨rfl,I⟩;refine ne' U (nn (cd U (λM=>?_) (λM=>?_)));refine sr (asg U (nn (rt (tr (r1 results193 U ?_)))));exact⟨_,rfl,by rw[v1o,if_pos M]<;>rfl,(O.n1 I)⟩;have hr:=x6a.1 (Classical.not_not.1 M);refine sk (tn (sq (sr (fad U z5w ?_))));replace D:=D.ext I;refine z0i U D U x2g (eq' U (nn (cd U (λZ=>?_) (λZ=>?_))));refine sr (fad U z5v (z0i U D U na3 ?_));replace hG:=hG.ext (O.n1 I);refine cl (ev1 U) (mkC func192) (y8t _ _ hG oo) U ?_;rintro _ w3 ⟨rfl,q3⟩;refine u0a U U (by have:=y5j p;simp;omega) U (asg U (kpL [(2,_)] (.cons U .nil) (nn (rt (tr (r1 results193 U ?_))))));exact⟨_,rfl,by rw[v1o,if_neg M,if_pos Z]<;>rfl,(O.n2 I q3)⟩;refine sk (tn (sr (fad U z5v (z0i U D U na3 ?_))));replace hG:=hG.ext (O.n1 I);refine cl (ev1 U) (mkC func192) (y8t _ _ hG oo) U ?_;rintro _ w4 ⟨rfl,q4⟩;refine u0a U U (by have:=y5j p;simp;omega) U (asg U (kpL [(2,_)] (.cons U .nil) (nn (rt (r1 results193 U ?_)))));exact⟨_,rfl,by rw[v1o,if_neg M,if_neg Z]<;>rfl,(O.n2 I q4)⟩
theorem v9o (v:Value)(ys:List (List UInt8))(D:List UInt8)(base T:Nat)(w0:World)(I:Lw.Own Enc.str T base w0 v ys)(O:ys≠[])(hl:(Lib.join ys D).length<=1000000)(a0:ys.length<=1000000):Rets prog 194 #[v,S D] w0 λr w'=>r=S (Lib.join ys D)/\Fr [] w0 w':=by
 rcases I with ⟨_,e⟩|⟨g,cap,cur,rfl,M,Z,h1,h2,h3,h4⟩
 exact absurd e O;have hm:(ys.map (λy=>(⟨y.toArray⟩:ByteArray))).map (·.data.toList)=ys:=by rw[List.map_map];simp[Function.comp_def]
 have I:Lw.Own Enc.str T base w0 (.slice (some ⟨g,0,none⟩) ys.length cap) ys:=.inr ⟨g,cap,cur,rfl,M,Z,h1,h2,h3,h4⟩;have hj:=strings_Join g 0 cap (ys.map (λy=>(⟨y.toArray⟩:ByteArray))) ⟨D.toArray⟩ w0 (λj x hx=>by
  rw[List.getElem?_map,Option.map_eq_some_iff]at hx;obtain⟨y,hy,rfl⟩:=hx;obtain⟨A,c,e,_,_,hA⟩:=I.sl;cases e;obtain⟨ad,e1,hc⟩:=hA j y hy;cases e1;have:=hc 0 (S y) U;rw[z4q,z4q,Nat.add_zero,show Enc.str.sz=1 from U,Nat.mul_one]at this;exact this) ((Array.getElem?_eq_some_iff.1 Z).1) so so (by rw[hm];simp;omega)
 rw[hm,List.length_map]at hj;refine Calls.mono hj ?_;rintro e w' ⟨rfl,M⟩;exact⟨_,rfl,by simp[S],Fr.of_below M⟩
theorem v8c (w:World)(t:ByteArray):Fr [] w (Lib.bytesWorld w 5 t):=Fr.of_below (Lib.bytesWorld_below w 5 t)
theorem u1w (l:List UInt8)(w0:World)(hG:Glob w0)(hl:l.length<=1000000):Rets prog 219 #[S l] w0 λr w'=>∃n e,∃b:Bool,r=.tuple #[.int .i64 n,e]/\(e=.nilIface/\b=false\/(∃t p,e=.iface t p)/\b=true)/\v7m l=(if b=true then 0 else n)/\Fr [] w0 w':=by
 have Z:(⟨l.toArray⟩:ByteArray).size=l.length:=by simp[ByteArray.size]
 rcases h:Lib.atoiAll l with v|_|_
 refine Calls.mono (strconv_Atoi_ok ⟨l.toArray⟩ oo v (by simpa using h) w0) ?_;rintro e w' ⟨rfl,M⟩;refine⟨_,rfl,v,.nilIface,false,rfl,.inl ⟨rfl,rfl⟩,by simp[v7m,h],?_⟩;rcases M with rfl|⟨t,rfl⟩
 exact Fr.refl _ _;exact v8c w0 t;obtain⟨te,O,I⟩:=hG.es;refine Calls.mono (strconv_Atoi_syntax ⟨l.toArray⟩ oo (show Lib.atoiAll l=Lib.atoiAll [] from h) _ w0 I (.inr ⟨_,_,rfl⟩)) ?_;rintro e w' ⟨N,rfl,_,_,D⟩;exact⟨_,rfl,_,_,true,rfl,.inr ⟨⟨_,_,rfl⟩,rfl⟩,by simp[v7m,h],Fr.of_below D⟩;obtain⟨te,O,I⟩:=hG.er;refine Calls.mono (strconv_Atoi_range ⟨l.toArray⟩ oo (by simpa using h) _ w0 I (.inr ⟨_,_,rfl⟩)) ?_;rintro e w' ⟨N,rfl,_,_,D⟩;exact⟨_,rfl,_,_,true,rfl,.inr ⟨⟨_,_,rfl⟩,rfl⟩,by simp[v7m,h],Fr.of_below D⟩
theorem v8o (l D:List UInt8)(w0:World)(hG:Glob w0)(hl:l.length<4294967281)(h1:1<=D.length):Rets prog 141 #[S l,S D] w0 λr w'=>Lw.Own Enc.str 9 w0.heap.size w' r (Lib.split l D)/\Fr [] w0 w':=by
 obtain⟨k,hk⟩:=hG.ml;have hs:(⟨l.toArray⟩:ByteArray).size=l.length:=by simp[ByteArray.size]
 have a0:(⟨D.toArray⟩:ByteArray).size=D.length:=by simp[ByteArray.size]
 refine Calls.mono (strings_Split ⟨l.toArray⟩ ⟨D.toArray⟩ k w0 oo hk oo) ?_;rintro e w' ⟨rfl,rfl⟩;have hd:=Lib.splitB_data ⟨D.toArray⟩ 0 (Lib.countB ⟨l.toArray⟩ ⟨D.toArray⟩) ⟨l.toArray⟩;have Z:Lib.countB ⟨l.toArray⟩ ⟨D.toArray⟩=Lib.count l D:=by simp[Lib.countB]
 have I:=Lib.splitB_all ⟨D.toArray⟩ oo 0 _ ⟨l.toArray⟩ U;have M:=Lib.countB_le ⟨D.toArray⟩ oo _ ⟨l.toArray⟩ (Nat.le_refl _);rw[hs]at M;have O:Lib.split l D=(Lib.splitB ⟨D.toArray⟩ 0 (Lib.countB ⟨l.toArray⟩ ⟨D.toArray⟩) ⟨l.toArray⟩).map (·.data.toList):=by rw[hd,Z];rfl
 have hz:∀zs:List ByteArray,zs.map Value.string=(zs.map (·.data.toList)).flatMap Enc.str.enc:=λzs=>by
  induction zs with
  | nil=>rfl
  | cons z zs ih=>rw[List.map_cons,List.map_cons,List.flatMap_cons,<-ih];rfl
 refine⟨_,rfl,.inr ⟨w0.heap.size,Lib.countB ⟨l.toArray⟩ ⟨D.toArray⟩+1,_,by rw[O,List.length_map,I],Nat.le_refl _,heap_alloc_new w0 _,by rw[O,List.length_map,I];exact Nat.le_refl _,by unfold maxLen;omega,?_,?_⟩,Fr.alloc [] w0 _⟩;rw[show Enc.str.sz=1 from U,Nat.mul_one,List.size_toArray,List.length_map,I];exact Nat.le_refl _;rw[O,List.length_map,I,show Enc.str.sz=1 from U,Nat.mul_one,<-hz];exact List.take_of_length_le (by rw[List.length_map,I];exact Nat.le_refl _)
end Go.Proofs.YtlfdhllfmoplgaaGreatDoor
namespace Go.Lw
theorem y1s {P:Program}{W:World}{n:String}{d:DataW Unit}:∀ {l:List (String×DataW Unit)} {ps:List MemPlace},DataW.LaidVars P W l ps->(n,d)∈l->
    ∃g t cs D p,P.globalNamed n=some g/\(P.globals[g]?).map (·.type)=some t/\W.var? P n=some cs/\DataW.trod (λ_=>()) P W 0 (λ_=>true) false D t cs.toList=some (d,p)
  | [],_,_,I=>by simp at I
  | (m,e)::r,ps,h,I=>by
    obtain⟨g,t,cs,D,p,q,M,O,Z,e4,hr,_⟩:=h
    rcases List.mem_cons.1 I with e|I
    · cases e;exact⟨g,t,cs,D,p,M,O,Z,e4⟩
    · exact y1s hr I
theorem y7o {H:Type}{enc:TypeId×Value->H}{P:Program}{w:World}{base:Nat}{sp:Nat->Bool}{M:Bool}{D:Nat}{t e:TypeId}{n:Nat}{cs:List Value}{zs:List (List UInt8)}{p:List MemPlace}
    (ht:P.underlying t=some (.array n e)) (he:P.underlying e=some .string) (hce:P.cellsOf e=1) (hct:P.cellsOf t=n)
    (h:DataW.trod enc P w base sp M D t cs=some (.agg (zs.map λz=>.lit (.string z)),p)):cs=zs.map S:=by
  cases D with
  | zero=>simp[DataW.trod]at h
  | succ D=>
    simp only[DataW.trod,ht,hce,hct,Nat.mul_one]at h
    split at h
    · rename_i hl
      obtain⟨Z,hm,hx⟩:=Option.map_eq_some_iff.1 h
      have O:Z.map (·.1)=zs.map λz=>(DataW.lit (.string z):DataW H):=by
        have:=congrArg Prod.fst hx
        simpa using this
      have a0:Z.length=n:=by simpa using Lib.mapM_length hm
      have a1:zs.length=n:=by
        have:=congrArg List.length O
        simp at this
        omega
      apply List.ext_getElem?
      intro i
      by_cases hi:i<n
      · obtain⟨b,hb,hf⟩:=Lib.mapM_at hm i i (by simp[hi])
        obtain⟨s,hc,h2,_⟩:=DataW.trod_string he hf
        have h1:cs[i]?=some (.string s):=by
          have:=congrArg (·[0]?) hc
          simpa[List.getElem?_take,List.getElem?_drop] using this
        have h3:(Z.map (·.1))[i]?=some b.1:=by simp[hb]
        rw[O,List.getElem?_map,Option.map_eq_some_iff]at h3
        obtain⟨z,hz,I⟩:=h3
        rw[h2]at I
        simp only[DataW.lit.injEq,Lit.string.injEq]at I
        rw[h1,List.getElem?_map,hz,I]
        simp[S]
      · rw[List.getElem?_eq_none oo,List.getElem?_eq_none so]
    · cases h
theorem v8i {H:Type}{enc:TypeId×Value->H}{P:Program}{w:World}{base:Nat}{sp:Nat->Bool}{I:Bool}{D:Nat}{t:TypeId}{ms}{cs:List Value}{nm:String}{d:DataW H}{p:List MemPlace}
    (ht:P.underlying t=some (.interface ms)) (h:DataW.trod enc P w base sp I D t cs=some (.iface nm d,p)):∃u v,cs=[.iface u v]:=by
  cases D with
  | zero=>simp[DataW.trod]at h
  | succ D=>
    simp only[DataW.trod,ht]at h
    split at h<;>simp_all
theorem j0l {P:Program}{W:World}{n:String}{g:Nat}{cs:Array Value}(I:P.globalNamed n=some g)(h:W.var? P n=some cs):g<W.heap.size:=by
 unfold World.var? at h;simp only[I,Option.bind_some]at h;rcases Nat.lt_or_ge g W.heap.size with D|D
 exact D;rw[Array.getElem?_eq_none D]at h;simp at h
end Go.Lw
namespace Go.Proofs.YtlfdhllfmoplgaaGreatDoor
open Go.ChangeShapes Go.WideShapes Go.ChangeAt Go.RowKit Go.Lw
theorem own:ownKnob Tryz.prog.godebug=none:=kr
theorem u4s:laidOutB Tryz.prog=true:=kr
def y2z:List (String×DataW Unit):=[("math/bits.deBruijn32tab",Rows.laid_math_bits_deBruijn32tab),("math/bits.deBruijn64tab",Rows.laid_math_bits_deBruijn64tab),("internal/strconv.uint64pow10",Rows.laid_internal_strconv_uint64pow10),("unicode/utf8.acceptRanges",Rows.laid_unicode_utf8_acceptRanges),("strconv.ErrRange",Rows.laid_strconv_ErrRange),("strconv.ErrSyntax",Rows.laid_strconv_ErrSyntax),("gansey/orders.steps",Rows.laid_gansey_orders_steps),("gansey/operations.words",Rows.laid_gansey_operations_words),("gansey/operations.dirs",Rows.laid_gansey_operations_dirs),("unicode/utf8.first",Rows.laid_unicode_utf8_first)]
theorem v2c {n:String}{zs:List (List UInt8)}{W:World}{l:List (String×DataW Unit)}{ps:List MemPlace}{g t m:Nat}(hL:DataW.LaidVars Tryz.prog W l ps)(hm:(n,.agg (zs.map λz=>.lit (.string z)))∈l)(ht:Tryz.prog.underlying t=some (.array m 9))(O:Tryz.prog.globalNamed n=some g:=by kernel_rfl)(I:(Tryz.prog.globals[g]?).map (·.type)=some t:=by kernel_rfl)(D:Tryz.prog.cellsOf t=m:=by kernel_rfl):Cells W ⟨g,0,none⟩ (zs.map S):=by
 obtain⟨g',t',cs,M,p,Z,e2,e3,e4⟩:=y1s hL hm;cases O.symm.trans Z;cases I.symm.trans e2;have hc:=y7o ht Tryz.underlying9 kr D e4;intro j u hu;rw[z4q,Nat.zero_add,World.var?_cell O e3 j,<-Array.getElem?_toList,hc];exact hu
theorem u0p {n nm:String}{d:DataW Unit}{W:World}{l:List (String×DataW Unit)}{ps:List MemPlace}{g:Nat}(hL:DataW.LaidVars Tryz.prog W l ps)(hm:(n,.iface nm d)∈l)(M:Tryz.prog.globalNamed n=some g)(D:(Tryz.prog.globals[g]?).map (·.type)=some 297):∃te pe,W.cell? ⟨g,0,none⟩=some (.iface te pe):=by
 obtain⟨g',t',cs,I,p,O,Z,e3,e4⟩:=y1s hL hm;cases M.symm.trans O;cases D.symm.trans Z;obtain⟨u,v,hc⟩:=v8i Tryz.underlying297 e4;exact⟨u,v,by rw[World.var?_cell M e3 0,<-Array.getElem?_toList,hc];rfl⟩
theorem u4y {W:World}(h:laidMetH Tryz.prog y2z W)(O:W.ShapedOpen Tryz.prog):Glob W:=by
 have h':laidMet Tryz.prog y2z W:=h;obtain⟨ps,D,_,_⟩:=h';refine⟨?_,?_,(Go.Proofs.cell_of_shapedOpen_int (zero:=#[.int .i64 0]) (t:=3) O (of_decide_eq_true kr) kr U kr kr Tryz.underlying3),?_,?_,?_,?_⟩;exact v2c (zs:=z8c) (n:= "gansey/operations.words") (t:=271) (m:=9) D (by simp[y2z];rfl) Tryz.underlying271;exact v2c (zs:=x1b) (n:= "gansey/operations.dirs") (t:=277) (m:=2) D (by simp[y2z];rfl) Tryz.underlying277;obtain⟨g',t',cs,I,p,Z,e2,M,e4⟩:=y1s (n:= "internal/strconv.uint64pow10") (d:=Rows.laid_internal_strconv_uint64pow10) D (by simp[y2z]);cases gPow.symm.trans Z;cases (show (Tryz.prog.globals[8]?).map (·.type)=some 345 by kernel_rfl).symm.trans e2;unfold Lib.TabIs;rw[M];have:=Lib.cells_of_tab (zs:=Lib.pow10Tab) Tryz.underlying345 Tryz.underlying264 kr kr e4;rw[<-this];exact u0p (n:= "strconv.ErrSyntax") D (by unfold y2z;simp only[Rows.laid_strconv_ErrSyntax];simp;exact⟨rfl,rfl⟩) kr kr;exact u0p (n:= "strconv.ErrRange") D (by unfold y2z;simp only[Rows.laid_strconv_ErrRange];simp;exact⟨rfl,rfl⟩) kr kr;obtain⟨g',t',cs,I,p,Z,e2,M,e4⟩:=y1s (n:= "math/bits.deBruijn64tab") (d:=Rows.laid_math_bits_deBruijn64tab) D (by simp[y2z]);have:=j0l (show Tryz.prog.globalNamed "math/bits.deBruijn64tab" =some 10 by kernel_rfl) M;omega
theorem j1k {W:World}(h:laidMetH Tryz.prog y2z W):StT W:=by
 have h':laidMet Tryz.prog y2z W:=h;obtain⟨ps,hL,_,_⟩:=h';obtain⟨g',t',cs,D,p,M,O,Z,e4⟩:=y1s (n:= "gansey/orders.steps") (d:=Rows.laid_gansey_orders_steps) hL (by simp[y2z]);have I:Tryz.prog.globalNamed "gansey/orders.steps" =some 0:=by kernel_rfl
 cases I.symm.trans M;cases (show (Tryz.prog.globals[0]?).map (·.type)=some 226 by kernel_rfl).symm.trans O;have hc:=Lib.cells_of_tab (zs:=[-1,1]) Tryz.underlying226 Tryz.underlying3 kr kr e4;constructor;intro j u hu;rw[z4q,Nat.zero_add,World.var?_cell I Z j,<-Array.getElem?_toList,hc];exact hu
def u7p:List (String×DataW Unit):=y2z.filter λp=>match p.2 with|.iface _ _=>false|_=>true
noncomputable def witP (os:Os):World:=j3t Tryz.prog os u7p
theorem u8k {n:Int}(h:(Lit.int .u8 n).wf=true):0<=n/\n<=255:=by
 have D:IntKind.u8.min<=n/\n<=IntKind.u8.max:=by simpa[Lit.wf] using h
 exact D
noncomputable def u0l (w:World)(g:Nat)(s:List UInt8):World:=layW (w.alloc (.cells #[.string ⟨s.toArray⟩] 351)) g #[.iface 349 (.pointer (some ⟨w.heap.size,0,none⟩))]
noncomputable def j2j (os:Os):World:=u0l (u0l (witP os) 5 [118,97,108,117,101,32,111,117,116,32,111,102,32,114,97,110,103,101]) 4 [105,110,118,97,108,105,100,32,115,121,110,116,97,120]
open Go.Lw
open Go.Lw _root_.Go.Proofs.Tryz
theorem y2p:ElemOf prog 88 9 Enc.str 16:=ElemOf.mk' (z:=(.string ⟨#[]⟩)) underlying88 kr U
theorem na9:z1y prog 9:=λ_=>kr
theorem sz9:z1t prog 9 1:=λ_=>kr
theorem y0w (l:List UInt8)(w0:World)(hG:Glob w0)(hl:l.length<=1000000):Rets prog 188 #[S l] w0 λv w'=>v=.int .i64 (v7m l)/\Fr [] w0 w':=by
 have O:=hG.sz;refine we [(0,S l)] func188 U ntmps188 U (.cons U .nil) (sr (asg U (nn (sr (mv U (cl (ev1 U) (mkC func219) (u1w _ _ hG oo) U ?_))))));rintro _ w1 ⟨n,e,b,rfl,Z,I,M⟩;refine mv U (xt U (xt U (asg U (asg U (kpL [(3,_),(4,_)] (.c2 U U) (nn (sq (sr (mv U (u1p U underlying297 Z U (nn (cd U (λD=>?_) (λD=>?_)))))))))))));exact sr (asg U (nn (rt (tr (r1 results188 U ⟨_,rfl,by simp[I,D],M⟩)))));exact sk (tn (sr (mv U (asg U (nn (rt (r1 results188 U ⟨_,rfl,by simp[I,D],M⟩)))))))
theorem u1i (l:List UInt8)(w0:World)(hG:Glob w0):Rets prog 189 #[S l] w0 λv w'=>v=.int .u8 (j1l l)/\Fr [] w0 w':=by
 have I:=hG.sz;refine we [(0,S l)] func189 U ntmps189 U (.cons U .nil) (sr (asg U (nn (sq (sr (mv U (y2s U U underlying277 sz9 (y0d U hG.dr U na9 U (j0b U U U (nn (cd U (λD=>?_) (λD=>?_))))))))))));exact sr (asg U (nn (rt (tr (r1 results189 U ⟨_,rfl,by rw[j1l,if_pos D],(Fr.refl _ _)⟩)))));exact sk (tn (sr (asg U (nn (rt (r1 results189 U ⟨_,rfl,by rw[j1l,if_neg D],(Fr.refl _ _)⟩))))))
theorem u4q (o:MOp)(w0:World)(hG:Glob w0):Rets prog 142 #[opV o] w0 λv w'=>v=S (u9s o)/\Fr [] w0 w':=by
 have f0:=hG.sz;refine we [(0,opV o)] func142 U ntmps142 U (.cons U .nil) (sr (bx U (λg1 w1 f1 I q1 z1=>(asg U (nn (sq (sr (z0m U I y3q (cl (ev1 U) u9m (y0n o _) U ?_)))))))));rintro _ w2 ⟨rfl,q2⟩;have z2:=q2.size;refine ne' U (nn (cd U (λc0=>?_) (λc0=>?_)));refine sr (asg U (nn (rt (tr (r1 results142 U ?_)))));exact⟨_,rfl,by rw[u9s,if_pos c0]<;>rfl,(q1.n1 q2)⟩;have hr:=v2e (Classical.not_not.1 c0);refine sk (tn (sr (fad U z3q ?_)));replace I:=I.ext q2;refine z0i U I U na5 (z4m U (us underlying5) underlying3 (wi6 oo) ?_);replace hG:=hG.ext (q1.n1 q2);refine cl (ev1 U) (mkC func192) (y8t _ _ hG oo) U ?_;rintro _ w3 ⟨rfl,q3⟩;have z3:=q3.size;refine asg U (nn (sr (fad U z7d ?_)));replace I:=I.ext q3;refine z0i U I U x8m (y2s U U underlying271 sz9 ?_);replace hG:=hG.ext q3;refine y0d U hG.wd (v0t oo) na9 U (z1g ([z8u o.k]) (ev1 U) U y2p (λM w4 e1 D q4 z4=>(asg U ?_)));replace D:=D.low (show w0.heap.size<=M by omega);refine nn (jn (ι:=Value) [] (λv4=>[(4,v4)]) (λv4 w'=>Fr [M] w4 w'/\Lw.Own Enc.str 9 w0.heap.size w' v4 (z8u o.k::y3b o)) .nil ?_ ?_);refine sr (fad U z7d ?_);replace I:=I.ext q4;refine z0i U I U x8m (nn (bl (sr (eq' U (asg U (nn (cd U (λc1=>?_) (λc1=>?_))))))));refine rg (mv U (mv U (fad U z7y (z0i U I U y9j (y2s U U underlying277 sz9 ?_)))));replace hG:=hG.ext q4;refine y0d U hG.dr (x6f oo) na9 U (z1g ([x3c o.y,u2b o.d]) (ev2 U) U y2p (λe6 w5 e2 b1 q5 z5=>?_));replace D:=D.ext q5;refine z1z (base:=w0.heap.size) U D b1.sl y2p (λf3 w6 a0 q6 d4=>?_) (hM:=(by unfold maxLen;first|(simp;done)|(simp;omega))) (hb:=se);replace q6:Fr [M] _ _:=q6;have z6:=q6.size;exact asg U (kpL [(4,_)] (.cons U .nil) (nl (bn' (jE (_) (.cons U .nil) ⟨((Fr.refl [M] _).z2 q5 q6),by first|(rw[y3b,if_pos c1];exact a0)|(exfalso;omega)⟩))));refine sr (eq' U (asg U (nn (cd U (λc2=>?_) (λc2=>?_)))));refine rg (mv U (mv U (z1g ([x3c o.y]) (ev1 U) U y2p (λe7 w7 e3 b2 q7 z7=>?_))));replace D:=D.ext q7;refine z1z (base:=w0.heap.size) U D b2.sl y2p (λf4 w8 a0 q8 d5=>?_) (hM:=(by unfold maxLen;first|(simp;done)|(simp;omega))) (hb:=se);replace q8:Fr [M] _ _:=q8;have z8:=q8.size;exact asg U (kpL [(4,_)] (.cons U .nil) (nl (bn' (jE (_) (.cons U .nil) ⟨((Fr.refl [M] _).z2 q7 q8),by first|(rw[y3b,if_neg c1,if_pos c2];exact a0)|(exfalso;omega)⟩))));refine sr (eq' U (asg U (nn (cd U (λc3=>?_) (λc3=>?_)))));refine rg (mv U (fad U y2w (z0i U I U na3 ?_)));replace hG:=hG.ext q4;refine cl (ev1 U) (mkC func192) (y8t _ _ hG oo) U ?_;rintro _ w9 ⟨rfl,q9⟩;have z9:=q9.size;refine z1g ([x3c o.r]) (ev1 U) U y2p (λe8 f8 e4 b3 b6 h1=>?_);replace D:=D.ext (q9.n1 b6);refine z1z (base:=w0.heap.size) U D b3.sl y2p (λf5 f9 a0 a6 d6=>?_) (hM:=(by unfold maxLen;first|(simp;done)|(simp;omega))) (hb:=se);replace a6:Fr [M] _ _:=a6;have h2:=a6.size;exact asg U (kpL [(4,_)] (.cons U .nil) (nl (bn' (jE (_) (.cons U .nil) ⟨((Fr.refl [M] _).z3 q9 b6 a6),by first|(rw[y3b,if_neg c1,if_neg c2,if_pos c3];exact a0)|(exfalso;omega)⟩))));refine jn (ι:=Bool) [(1,_),(3,_),(4,_),(18,_)] (λb4=>[(43,.bool b4)]) (λb4 w'=>Fr [] w4 w'/\b4=decide ((o.k=4\/o.k=5)\/o.k=6)) (.c4 U U U U) ?_ ?_;refine sr (eq' U (asg U (nn (cd U (λc4=>?_) (λc4=>?_)))));exact sk (jE (_) (.c5 U U U U U) ⟨(Fr.refl _ _),by first|exact bi oo|exact bt oo|exact bf oo⟩);refine sr (eq' U (asg U (nn (cd U (λc5=>?_) (λc5=>?_)))));exact sk (jE (_) (.c5 U U U U U) ⟨(Fr.refl _ _),by first|exact bi oo|exact bt oo|exact bf oo⟩);exact rg (eq' U (asg U (nl (jE (_) (.c5 U U U U U) ⟨(Fr.refl _ _),by first|exact bi oo|exact bt oo|exact bf oo⟩))));rintro b4 d0 ⟨a1,rfl⟩;have h3:=a1.size;refine kpC [(1,_),(3,_),(4,_),(18,_),(43,_)] (.c5 U U U U U) (cd U (λc6=>?_) (λc6=>?_));replace hG:=hG.ext (q4.n1 a1);replace I:=I.ext a1;replace D:=D.ext a1;intro a h;have Z:=Fr.refl [M] d0;refine z2z (λwb w'=>Fr [M] wb w') z2o ?_;intro d1 O;have h4:=O.size;replace hG:=hG.ext O;replace I:=I.ext O;replace D:=D.ext O;replace Z:=Z.next O;have f2:=O.size;clear O;have hC:Fr [M] d1 d1:=Fr.refl _ _;have a8:=hG;have a2:=I;have a5:=D;refine z0e 0 h U λa h=>z0c 1 h U z7y U λa h=>z0l 2 h U (λ_ hw=>a2.fr hw se) U y9j U λa h=>u5d 3 kr kr kr hC h wn U U underlying277 sz9 oo oo U U λa h=>v9c 4 kr kr kr hC h wn U (λ_ hw=>(a8.fr hw se).dr) (x6f oo) na9 U U λa h=>z0c 5 h U z4r U λa h=>z1f (vs:=[_,_]) 6 h U (λ_ hw=>(a2.fr hw se)) z5r U U λa h=>z0e 8 h U λa h=>z0d 7 U ?_;refine z0n h (z0a U z0g) (mkC func193) (y7j _ _ _ hG) ?_;rintro _ g0 ⟨rfl,O⟩ a h;have h5:=O.size;replace hG:=hG.ext O;replace I:=I.ext O;replace D:=D.ext O;replace Z:=Z.next O;replace hC:=hC.next O;clear O;refine z0b (z0d 9 U (z2j ([u2b o.d,v1o o.b o.p,x3c o.y]) h (z0a U (z0a U (z0a U z0g))) U y2p λb0 g3 hg a4 O hz a h=>?_));have d3:g1<b0:=by have:=I.lt;omega
 have h6:=O.size;replace hG:=hG.ext O;replace I:=I.ext O;replace D:=D.ext O;replace Z:=Z.next O;replace hC:=hC.next O;clear O;refine z0b (z0d 10 U ?_);refine z7i (base:=w0.heap.size) h U U D a4.sl y2p U ?_ (hM:=(by unfold maxLen;first|(simp;done)|(simp;omega))) (hb:=se);clear h a;intro f6 g4 a0 O d7 a h;replace O:Fr [M] _ _:=O;have e0:=O.size;replace hG:=hG.fr O (by simp[z0v]<;>omega);replace I:=I.fr O;replace Z:=Z.sp O;replace hC:=hC.sp O;replace a4:=a4.fr O (by simp[z0v]<;>omega);clear O;refine z0b (z0d 11 U (z0t h U λa h=>?_));refine z0b (z0r ?_);clear hC a8 a2 a5;have e0:=Z.size;exact bk (h.sub (L':=[(4,_)]) (.cons U .nil)) (bn' (jE (_) (.cons U .nil) ⟨((Fr.refl [M] _).z2 a1 Z),by first|(rw[y3b,if_neg c1,if_neg c2,if_neg c3,if_pos c6];exact a0)|(exfalso;omega)⟩));refine jn (ι:=Bool) [(1,_),(4,_)] (λb7=>[(58,.bool b7)]) (λb7 w'=>Fr [] d0 w'/\b7=decide (o.k=7\/o.k=8)) (.c2 U U) ?_ ?_;refine sr (eq' U (asg U (nn (cd U (λc7=>?_) (λc7=>?_)))));exact sk (jE (_) (.c3 U U U) ⟨(Fr.refl _ _),by first|exact bi oo|exact bt oo|exact bf oo⟩);exact rg (eq' U (asg U (nl (jE (_) (.c3 U U U) ⟨(Fr.refl _ _),by first|exact bi oo|exact bt oo|exact bf oo⟩))));rintro b7 g5 ⟨a3,rfl⟩;have h7:=a3.size;refine kpC [(1,_),(4,_),(58,_)] (.c3 U U U) (cd U (λc8=>?_) (λc8=>?_));refine rg (mv U (fad U z4r ?_));replace I:=I.ext (a1.n1 a3);refine z1v (vs:=[_,_]) U I z5r U ?_;replace hG:=hG.ext (q4.n2 a1 a3);refine cl (ev1 U) (mkC func193) (y7j _ _ _ hG) U ?_;rintro _ g6 ⟨rfl,a9⟩;have h8:=a9.size;refine z1g ([v1o o.b o.p]) (ev1 U) U y2p (λe9 g7 e5 b5 b8 h9=>?_);replace D:=D.ext (a1.n3 a3 a9 b8);refine z1z (base:=w0.heap.size) U D b5.sl y2p (λf7 g8 a0 a7 d9=>?_) (hM:=(by unfold maxLen;first|(simp;done)|(simp;omega))) (hb:=se);replace a7:Fr [M] _ _:=a7;have i0:=a7.size;exact asg U (kpL [(4,_)] (.cons U .nil) (nl (bn' (jE (_) (.cons U .nil) ⟨((Fr.refl [M] _).z5 a1 a3 a9 b8 a7),by first|(rw[y3b,if_neg c1,if_neg c2,if_neg c3,if_neg c6,if_pos c8];exact a0)|(exfalso;omega)⟩))));exact sk (bn' (jE (_) (.cons U .nil) ⟨((Fr.refl [M] _).n2 a1 a3),by first|(rw[y3b,if_neg c1,if_neg c2,if_neg c3,if_neg c6,if_neg c8];exact a0)|(exfalso;omega)⟩));rintro v4 g9 ⟨b9,a0⟩;have i1:=b9.size;refine kpC [(4,_)] (.cons U .nil) (sr (mv U (cl (ev2 U) (mkC func194) (v9o _ _ _ _ _ _ a0 sp0 (by have:=v7h o (Classical.not_not.1 c0);omega) (by have:=u8y o;simp;omega)) U ?_)));rintro _ h0 ⟨rfl,c9⟩;have i2:=c9.size;exact asg U (nn (rt (r1 results142 U ⟨_,rfl,by rw[u9s,if_neg c0],(q1.z5 q2 q3 q4 b9 c9)⟩)))
theorem j1u:ElemOf prog 51 5 Enc.b 1:=ElemOf.mk' (z:=(.int .u8 0)) underlying51 kr U
theorem j2w:z1t prog 40 1:=λ_=>kr
theorem y9y (l:List UInt8)(w0:World)(hG:Glob w0)(hl:l.length<=1000000):Rets prog 190 #[S l] w0 λv w'=>∃e,v=.tuple #[.agg #[.int .u8 (x2b l).1,.int .i64 (x2b l).2],e]/\Fr [] w0 w':=by
 have b6:=hG.sz;refine we [(0,S l)] func190 U ntmps190 U (.cons U .nil) (sr (al v4k U (λg2 w1 b8 I q1 z1=>(asg U (nn (sq (sq (rbo (r:=14) (L':=[(0,_),(2,_)]) ((((l.length:Int)<2)\/(3<(l.length:Int)))) (.c2 U U) ?_ ?_))))))));refine mv U (ln U underlying9 U (lt' U (mv U (gs 10 U (λg0=>?_) (λg0=>?_)))));exact gN U (gN U (gN U (pkt U (rbe U (.c2 U U)))));exact gY U (mv U (gY U (ln U underlying9 U (gY U (gt' U (pkf U (rbe U (.c2 U U))))))));refine tn (cd U (λc0=>?_) (λc0=>?_));refine sr (z1s (cs:=[_,_]) z0g y4d z0q U (z0j U I y5s (λw2 I q2 z2=>?_) (hl:=rfl)));exact asg U (nn (rt (tr (rCT results190 U I z5r U ⟨_,rfl,_,by rw[show x2b l=(0,0) from by rw[x2b,if_pos c0]],(q1.z1 q2)⟩))));refine sk (tn (sr (z1s (cs:=[_,_]) z0g y4d z0q U (al v4k U (λg4 w3 b9 D q3 z3=>?_)))));refine z0j U D y5s (λw4 D q4 z4=>?_) (hl:=rfl);refine nn (jn (ι:=Int) [(0,_),(2,_),(4,_)] (λb=>[]) (λb w'=>Fr [g4] w4 w'/\u6x l=some b/\(b=0\/b=1)/\Blk w' g4 42 [.int .u8 b,.int .i64 0]) (.c3 U U U) ?_ ?_);refine sr (mv U (u1o (p:=0) U U underlying9 oo oo U U (λb3=>(nn (bl (sr (eq' U (asg U (nn (cd U (λc1=>?_) (λc1=>?_)))))))))));refine rg (fad U z5w (z3l U D U j2w (λw5 D q5 z5=>?_)));replace D:Blk w5 g4 _ [_,_]:=D;exact nl (bn' (jE (_) (.c3 U U U) ⟨((Fr.refl [g4] _).z1 q5),⟨by rw[u6x,if_pos c1],oo,D⟩⟩));skip;refine sr (eq' U (asg U (nn (cd U (λc2=>?_) (λc2=>?_)))));refine rg (fad U z5w (z3l U D U j2w (λw6 D q6 z6=>?_)));replace D:Blk w6 g4 _ [_,_]:=D;exact nl (bn' (jE (_) (.c3 U U U) ⟨((Fr.refl [g4] _).z1 q6),⟨by rw[u6x,if_neg c1,if_pos c2],oo,D⟩⟩));refine sr (z1s (cs:=[_,_]) z0g y4d z0q U ?_);replace I:=(I.ext q3).fr q4;refine z0j U I y5s (λw7 I q7 z7=>?_) (hl:=rfl);exact asg U (nn (rt (rb (tr (rCT results190 U I z5r U ⟨_,rfl,_,by rw[show x2b l=(0,0) from by rw[x2b,if_neg c0,show u6x l=none from by rw[u6x,if_neg c1,if_neg c2]]],(q1.z3 q3 q4 q7)⟩)))));rintro b w8 ⟨q8,⟨a2,b1,D⟩⟩;have a1:=D.lt;refine kpC [(0,_),(2,_),(4,_)] (.c3 U U U) ?_;have b7:(l.drop 1).length=l.length-1:=List.length_drop;refine sq (sr (mv U (u8g (p:=1) U U underlying9 oo oo U U (j2e U underlying9 underlying51 underlying5 (by unfold maxLen;simp;omega) U (λb5 b4 w9 b2 Z q9 z9=>?_)))));refine lnS U underlying51 (mv U (nn (bl ?_)));replace D:=D.ext q9;refine lpK (ι:=Nat) [(0,_),(2,_),(4,_),(28,_),(29,_)] (λi=>[(30,.int .i64 (i:Int))]) (λi w'=>Fr [g4] w9 w'/\i<=(l.drop 1).length/\((l.drop 1).take i).all v4n=true/\Blk w' g4 42 [.int .u8 b,.int .i64 (y5f ((l.drop 1).take i))]) (λi=>(l.drop 1).length-i) 0 (.c6 U U U U U U) ⟨Fr.refl _ _,⟨oo,rfl,D⟩⟩ ?_;rintro i d0 ⟨O,⟨hi,M,D⟩⟩;have a1:=D.lt;refine kpC [(0,_),(2,_),(4,_),(28,_),(29,_),(30,_)] (.c6 U U U U U U) (sr (lt' U (nn (sq (cd U (λc3=>?_) (λc3=>?_))))));have c9:=x6i ((l.drop 1).getD i 0);refine sk (tn (sq (bl (sr ?_))));replace Z:=Z.fr O (by simp[z0v]<;>omega);refine z1d (p:=i) (0) U Z U j1u oo (λb0 a3=>(z1k U (a3 _ Z) na5 (asg U (nn (sq (sq (rbo (r:=39) (L':=[(0,_),(2,_),(4,_),(6,_),(28,_),(29,_),(30,_)]) ((((((l.drop 1).getD i 0).toNat:Int)<48)\/(57<(((l.drop 1).getD i 0).toNat:Int)))) (.c7 U U U U U U U) ?_ ?_)))))));refine mv U (lt' U (mv U (gs 36 U (λg1=>?_) (λg1=>?_))));exact gN U (gN U (pkt U (rbe U (.c7 U U U U U U U))));exact gY U (mv U (gY U (gt' U (pkf U (rbe U (.c7 U U U U U U U))))));refine tn (cd U (λc4=>?_) (λc4=>?_));refine sr (z1s (cs:=[_,_]) z0g y4d z0q U ?_);replace I:=((((I.ext q3).fr q4).fr q8).ext q9).fr O;refine z0j U I y5s (λd1 I a5 d6=>?_) (hl:=rfl);exact asg U (kpL [(2,_),(3,_)] (.c2 U U) (nn (rt (tr (rb (tr (tr (rb (tr (rCT results190 U I z5r U ⟨_,rfl,_,by rw[show x2b l=(0,0) from by rw[x2b,if_neg c0,a2];simp only;rw[if_pos (u2y _ i oo oo)]],(q1.z6 q3 q4 q8 q9 O a5)⟩))))))))));have a4:=x0p M so;refine sk (tn (rg (fad U z5v (z0i U D U na3 (y4k U U (wi6 oo) (mv U (z2w U (wi8 oo) (z4m U (us underlying5) underlying3 (wi6 oo) (z0x U (wi6 oo) (fad U z5v (z3l U D U sz3 (λa9 D a6 d7=>?_))))))))))));replace D:Blk a9 g4 _ [_,_]:=D;exact kpL [(0,_),(2,_),(4,_),(28,_),(29,_),(30,_)] (.c6 U U U U U U) (nl (bn' (tn (rg (z0x U (wi6 oo) (mv U (nl (lpE (i+1) (.c6 U U U U U U) ⟨((Fr.refl [g4] _).z2 O a6),⟨oo,v8n _ _ oo M oo,by rw[x7z _ _ oo];exact D⟩⟩ oo))))))));obtain rfl:i=(l.drop 1).length:=by omega
 rw[List.take_length]at M D;have a4:=x0p M oo;refine ex (te (te (xh (tn (sq (sr (z0m U D z5r ?_)))))));replace hG:=((((hG.ext (q1.n1 q3)).fr q4 (by first|exact z8h hG oo|simp[z0v]<;>omega)).fr q8 (by first|exact z8h hG oo|simp[z0v]<;>omega)).ext q9).fr O (by first|exact z8h hG oo|simp[z0v]<;>omega);refine cl (ev1 U) (mkC func193) (y7j _ _ _ hG) U ?_;rintro _ d3 ⟨rfl,a0⟩;refine mv U (j1h U U U (kpL [(2,_),(4,_),(53,_)] (.c3 U U U) (nn (cd U (λc5=>?_) (λc5=>?_)))));refine sr (z1s (cs:=[_,_]) z0g y4d z0q U ?_);replace I:=(((((I.ext q3).fr q4).fr q8).ext q9).fr O).ext a0;refine z0j U I y5s (λd4 I a7 d9=>?_) (hl:=rfl);exact asg U (nn (rt (tr (rCT results190 U I z5r U ⟨_,rfl,_,by rw[show x2b l=(0,0) from by rw[x2b,if_neg c0,a2];simp only;rw[if_neg (by rw[M];exact λe=>Bool.noConfusion e),if_pos c5]],((q1.z6 q3 q4 q8 q9 O a0).z1 a7)⟩))));refine sk (tn (sr ?_));replace D:=D.ext a0;refine z0m U D z5r ?_;replace I:=(((((I.ext q3).fr q4).fr q8).ext q9).fr O).ext a0;refine z0j U I y5s (λd5 I a8 e0=>?_) (hl:=rfl);exact asg U (nn (rt (rCT results190 U I z5r U ⟨_,rfl,_,by rw[show x2b l=(b,y5f (l.drop 1)) from by rw[x2b,if_neg c0,a2];simp only;rw[if_neg (by rw[M];exact λe=>Bool.noConfusion e),if_neg c5]],((q1.z6 q3 q4 q8 q9 O a0).z1 a8)⟩)))
theorem j2x:z3p prog 271 9:=⟨λ_=>kr,λ_=>kr⟩
theorem x6s:BuildAt prog 44 [(0,1),(1,1),(2,2),(4,1),(5,1)] [(.int .u8 0),(.int .u8 0),(.int .u8 0),(.int .i64 0),(.int .u8 0),(.int .i64 0)]:=BuildAt.struct underlying44 (λ_=>kr) (λ_=>kr)
theorem sz5:z1t prog 5 1:=λ_=>kr
theorem sz38:z1t prog 38 1:=λ_=>kr
theorem fld0 (f:F4)(w:World):(Instr.field 177 (.agg (f4L f).toArray) 0).run prog w=.ok (.bool f.1) w:=kr
theorem fld1 (f:F4)(w:World):(Instr.field 177 (.agg (f4L f).toArray) 1).run prog w=.ok (.bool f.2.1) w:=kr
theorem v7o (v:Value)(ws:List (List UInt8))(w0:World)(hG:Glob w0)(hs:Sl Enc.str w0 v ws)(f0:1<=ws.length)(b1:∀i,(ws.getD i []).length<=1000000):Rets prog 140 #[v] w0 λr w'=>r=opV (z4b ws)/\Fr [] w0 w':=by
 obtain⟨A,c,rfl,hc,hM,hA⟩:=id hs;clear hA;have a0:=hs.blk (by intro e;simp[e]at f0);have h4:=hG.sz;refine we [(0,.slice A ws.length c)] func140 U ntmps140 U (.cons U .nil) (sr (al v9d U (λg2 w1 h5 O q1 z1=>?_)));refine nn (sr (z1s (cs:=[_,_,_,_,_,_]) z0g x6s z0q U (al v9d U (λg3 w2 h6 I q2 z2=>?_))));refine z0j U I v4o (λw3 I q3 z3=>?_) (hl:=rfl);refine nn (sq (sr ?_));replace hG:=(hG.ext (q1.n1 q2)).fr q3 (by first|exact z8h hG oo|simp[z0v]<;>omega);refine z1q U hG.wd j2x (mv U (nn (bl (lpK (ι:=Nat) [(0,_),(2,_),(3,_),(7,_)] (λi=>[(8,.int .i64 (i:Int))]) (λi w'=>Fr [g3] w3 w'/\i<=9/\Blk w' g3 44 [.int .u8 (y5g (ws.getD 0 []) i),.int .u8 0,.int .u8 0,.int .i64 0,.int .u8 0,.int .i64 0]) (λi=>9-i) 0 (.c5 U U U U U) ⟨Fr.refl _ _,⟨oo,I⟩⟩ ?_))));rintro i w4 ⟨q4,⟨hi,I⟩⟩;have b6:=I.lt;refine kpC [(0,_),(2,_),(3,_),(7,_),(8,_)] (.c5 U U U U U) (sr (lt' U (nn (sq (cd U (λc0=>?_) (λc0=>?_))))));refine sk (tn (sq (bl (sr (mv U (u0w U U underlying271 sz9 na9 (v6y oo) U (asg U (asg U (nn (sr (mv U (mv U ?_))))))))))));replace hs:=((hs.ext (q1.n1 q2)).fr q3 (by intro k Z hb;simp at Z;subst Z;have:=a0 _ hb;omega)).fr q4 (by intro k Z hb;simp at Z;subst Z;have:=a0 _ hb;omega);refine z1d (p:=0) ([]) U hs U y2p U (λg6 c9=>(z1k U (c9 _ hs) na9 (j0b U U U (nn (cd U (λc1=>?_) (λc1=>?_))))));refine rg (mv U (z4m U (us underlying3) underlying38 (wi8 oo) (fad U z7d (z3l U I U sz38 (λw5 I q5 z5=>?_)))));replace I:Blk w5 g3 _ [_,_,_,_,_,_]:=I;exact nl (bn' (tn (rg (z0x U (wi6 oo) (mv U (nl (lpE (i+1) (.c5 U U U U U) ⟨((Fr.refl [g3] _).z2 q4 q5),⟨oo,by first|(rw[y5g,if_pos c1];exact I)|(rw[y5g,if_neg c1];exact I)⟩⟩ oo)))))));exact sk (bn' (tn (rg (z0x U (wi6 oo) (mv U (nl (lpE (i+1) (.c5 U U U U U) ⟨((Fr.refl [g3] _).z1 q4),⟨oo,by first|(rw[y5g,if_pos c1];exact I)|(rw[y5g,if_neg c1];exact I)⟩⟩ oo)))))));obtain rfl:i=9:=by omega
 have h7:=x1h (ws.getD 0 []) 9;replace I:Blk w4 g3 44 [.int .u8 (y7n (ws.getD 0 [])),.int .u8 0,.int .u8 0,.int .i64 0,.int .u8 0,.int .i64 0]:=I;refine ex (te (te (xh (tn (jn (ι:=Unit) [(2,_),(3,_)] (λ_j=>[]) (λ_j w'=>Fr [g3] w4 w'/\Blk w' g3 44 [.int .u8 (z4b ws).k,.int .u8 (z4b ws).d,.int .u8 (z4b ws).b,.int .i64 (z4b ws).p,.int .u8 (z4b ws).y,.int .i64 (z4b ws).r]) (.c2 U U) ?_ ?_)))));refine bl (sq (rbo (r:=21) (L':=[(0,_),(2,_),(3,_)]) ((((y7n (ws.getD 0 []))=1)/\((ws.length:Int)=3))) (.c3 U U U) ?_ ?_));refine fad U z7d (z0i U I U x8m (eq' U (mv U (gs 25 U (λg0=>?_) (λg0=>?_)))));exact gY U (mv U (gY U (lnS U underlying88 (gY U (eq' U (pkt U (asg U (rbe U (.c3 U U U)))))))));exact gN U (gN U (gN U (pkf U (asg U (rbe U (.c3 U U U))))));refine tn (cd U (λc2=>?_) (λc2=>?_));replace hG:=hG.fr q4 (by first|exact z8h hG oo|simp[z0v]<;>omega);replace hs:=((hs.ext (q1.n1 q2)).fr q3 (by intro k Z hb;simp at Z;subst Z;have:=a0 _ hb;omega)).fr q4 (by intro k Z hb;simp at Z;subst Z;have:=a0 _ hb;omega);replace O:=((O.ext q2).fr q3).fr q4;intro a h;have a8:=Fr.refl [g3] w4;refine z2z (λwb w'=>Fr [g3] wb w') z2o ?_;intro w6 M;replace hG:=hG.ext M;replace hs:=hs.ext M;replace O:=O.ext M;replace I:=I.ext M;replace a8:=a8.next M;have b9:=M.size;clear M;have hC:Fr [g3] w6 w6:=Fr.refl _ _;have a6:=hG;have a2:=hs;have a3:=O;have a1:=I;refine z0e 0 h U λa h=>z1e (p:=1) ([]) 1 h U hs U y2p U ?_ (hp:=rfl);clear h a;intro g7 d0 a h;refine z2p 2 h wn U (λ_ hw=>d0 _ (a2.fr hw (by intro k Z hb;simp at Z;subst Z;have:=a0 _ hb;omega))) na9 U λa h=>z0e 5 h U λa h=>z1e (p:=2) ([]) 6 h U hs U y2p U ?_ (hp:=rfl);clear h a;intro g8 d1 a h;refine z2p 7 h wn U (λ_ hw=>d1 _ (a2.fr hw (by intro k Z hb;simp at Z;subst Z;have:=a0 _ hb;omega))) na9 U λa h=>z0d 3 U (z0n h (z0a U z0g) (mkC func188) (y0w _ _ hG (b1 _)) ?_);rintro _ w7 ⟨rfl,M⟩ a h;replace hG:=hG.ext M;replace hs:=hs.ext M;replace O:=O.ext M;replace I:=I.ext M;replace a8:=a8.next M;replace hC:=hC.next M;clear M;refine z0b (v3o 4 hC h wn U (by rw[underlying3];rfl) underlying5 (by first|exact IntWalk.u8_in _ oo|rfl) U U λa h=>z0c 9 h U z3q U λa h=>z0d 8 U (z0n h (z0a U z0g) (mkC func189) (u1i _ _ hG) ?_));rintro _ w8 ⟨rfl,M⟩ a h;replace hG:=hG.ext M;replace hs:=hs.ext M;replace O:=O.ext M;replace I:=I.ext M;replace a8:=a8.next M;replace hC:=hC.next M;clear M;refine z0b (z0d 10 U (z6v h U U I U U U sz5 λw9 a7 M hz a h=>?_));replace hG:=hG.fr M (by simp[z0v]<;>omega);replace hs:=hs.fr M (by intro k Z hb;simp at Z;subst Z;have:=a0 _ hb;omega);replace O:=O.fr M;replace a8:=a8.sp M;replace hC:=hC.sp M;clear I M hz;have I:Blk w9 g3 _ [_,_,_,_,_,_]:=a7;clear a7;refine z0b (z0c 11 h U z7y U λa h=>z0d 12 U (z6v h U U I U U U j1w λf5 a7 M hz a h=>?_));replace hG:=hG.fr M (by simp[z0v]<;>omega);replace hs:=hs.fr M (by intro k Z hb;simp at Z;subst Z;have:=a0 _ hb;omega);replace O:=O.fr M;replace a8:=a8.sp M;replace hC:=hC.sp M;clear I M hz;have I:Blk f5 g3 _ [_,_,_,_,_,_]:=a7;clear a7;refine z0b (z0r ?_);clear hC a6 a2 a3 a1;exact bk (h.sub (L':=[(2,_),(3,_)]) (.c2 U U)) (bn' (jE (()) (.c2 U U) ⟨((Fr.refl [g3] _).z1 a8),by rw[z4b,y5b,if_pos c2];exact I⟩));refine sq (rbo (r:=41) (L':=[(0,_),(2,_),(3,_)]) ((((y7n (ws.getD 0 []))=2)/\((ws.length:Int)=2))) (.c3 U U U) ?_ ?_);refine fad U z7d (z0i U I U x8m (eq' U (mv U (gs 45 U (λg1=>?_) (λg1=>?_)))));exact gY U (mv U (gY U (lnS U underlying88 (gY U (eq' U (pkt U (asg U (rbe U (.c3 U U U)))))))));exact gN U (gN U (gN U (pkf U (asg U (rbe U (.c3 U U U))))));refine tn (cd U (λc3=>?_) (λc3=>?_));refine rg (mv U ?_);replace hs:=((hs.ext (q1.n1 q2)).fr q3 (by intro k Z hb;simp at Z;subst Z;have:=a0 _ hb;omega)).fr q4 (by intro k Z hb;simp at Z;subst Z;have:=a0 _ hb;omega);refine z1d (p:=1) ([]) U hs U y2p U (λg9 d3=>(z1k U (d3 _ hs) na9 ?_));replace hG:=hG.fr q4 (by first|exact z8h hG oo|simp[z0v]<;>omega);refine cl (ev1 U) (mkC func188) (y0w _ _ hG (b1 _)) U ?_;rintro _ h8 ⟨rfl,e1⟩;refine z4m U (us underlying3) underlying5 (IntKind.wrap_u8 _) (fad U z3q ?_);replace I:=I.ext e1;refine z3l U I U sz5 (λf6 I f1 j1=>?_);replace I:Blk f6 g3 _ [_,_,_,_,_,_]:=I;exact kpL [(2,_),(3,_)] (.c2 U U) (nl (bn' (jE (()) (.c2 U U) ⟨((Fr.refl [g3] _).z2 e1 f1),by rw[z4b,y5b,if_neg c2,if_pos c3];exact I⟩)));refine sq (rbo (r:=56) (L':=[(0,_),(2,_),(3,_)]) ((((y7n (ws.getD 0 []))=3)/\((ws.length:Int)=2))) (.c3 U U U) ?_ ?_);refine fad U z7d (z0i U I U x8m (eq' U (mv U (gs 60 U (λg2=>?_) (λg2=>?_)))));exact gY U (mv U (gY U (lnS U underlying88 (gY U (eq' U (pkt U (asg U (rbe U (.c3 U U U)))))))));exact gN U (gN U (gN U (pkf U (asg U (rbe U (.c3 U U U))))));refine tn (cd U (λc4=>?_) (λc4=>?_));refine rg (mv U ?_);replace hs:=((hs.ext (q1.n1 q2)).fr q3 (by intro k Z hb;simp at Z;subst Z;have:=a0 _ hb;omega)).fr q4 (by intro k Z hb;simp at Z;subst Z;have:=a0 _ hb;omega);refine z1d (p:=1) ([]) U hs U y2p U (λh0 d4=>(z1k U (d4 _ hs) na9 ?_));replace hG:=hG.fr q4 (by first|exact z8h hG oo|simp[z0v]<;>omega);refine cl (ev1 U) (mkC func188) (y0w _ _ hG (b1 _)) U ?_;rintro _ h9 ⟨rfl,e2⟩;refine fad U y2w ?_;replace I:=I.ext e2;refine z3l U I U sz3 (λf7 I f2 j2=>?_);replace I:Blk f7 g3 _ [_,_,_,_,_,_]:=I;exact kpL [(2,_),(3,_)] (.c2 U U) (nl (bn' (jE (()) (.c2 U U) ⟨((Fr.refl [g3] _).z2 e2 f2),by rw[z4b,y5b,if_neg c2,if_neg c3,if_pos c4];exact I⟩)));refine jn (ι:=Bool) [(0,_),(2,_),(3,_)] (λb5=>[(70,.bool b5)]) (λb5 w'=>Fr [] w4 w'/\b5=decide (fD (y7n (ws.getD 0 []))=true/\(ws.length:Int)=4)) (.c3 U U U) ?_ ?_;replace hG:=hG.fr q4 (by first|exact z8h hG oo|simp[z0v]<;>omega);replace hs:=((hs.ext (q1.n1 q2)).fr q3 (by intro k Z hb;simp at Z;subst Z;have:=a0 _ hb;omega)).fr q4 (by intro k Z hb;simp at Z;subst Z;have:=a0 _ hb;omega);replace O:=((O.ext q2).fr q3).fr q4;intro a h;have a9:=Fr.refl [] w4;refine z2z (λwb w'=>Fr [] wb w') z2o ?_;intro e5 M;replace hG:=hG.ext M;replace hs:=hs.ext M;replace O:=O.ext M;replace I:=I.ext M;replace a9:=a9.next M;have b9:=M.size;clear M;have hC:Fr [] e5 e5:=Fr.refl _ _;have a6:=hG;have a2:=hs;have a3:=O;have a1:=I;refine z0c 1 h U z7d U λa h=>z0l 2 h U (λ_ hw=>a1.ext hw) U x8m U λa h=>z0d 0 U (z0n h z0g (mkC func100) (y8o _) ?_);rintro _ i0 ⟨gm,rfl,d9,e0,hm,M⟩ a h;replace hG:=hG.ext M;replace hs:=hs.ext M;replace O:=O.ext M;replace I:=I.ext M;replace a9:=a9.next M;replace hC:=hC.next M;clear M;refine z0b (z0d 3 U (y1h (V:=kV) (k:=(y7n (ws.getD 0 []))) h U U hm y5l underlying179 x0h (z6w _) U λa h=>?_));refine z0b (z0d 4 U (x4k h U (λw=>fld0 _ w) U λa h=>?_));refine z0b (z0e 5 h U λa h=>?_);refine gSp (D:=76) h U ?_ ?_;clear h;intro g3 h;refine z0e 6 h U ?_ (hG:=(wy U));clear h a;intro a h;refine z7s 7 hC h (wy U) U underlying88 U λa h=>x1u 8 hC h (wy U) U λa h=>z0d 9 U (z4a h U λa h=>?_);refine z0b (z0d 10 U (z0t h U λa h=>?_));refine z0b (z0r ?_);clear hC a6 a2 a3 a1;exact bk (h.sub (L':=[(0,_),(2,_),(3,_),(70,_)]) (.c4 U U U U)) (jE (_) (.c4 U U U U) ⟨a9,by simp_all [fD]⟩);clear h;intro g3 h;refine z1l 6 h U U λa h=>z1l 7 h U U λa h=>z1l 8 h U U λa h=>z0d 9 U (z2l h U λa h=>?_);refine z0b (z0d 10 U (z0t h U λa h=>?_));refine z0b (z0r ?_);clear hC a6 a2 a3 a1;exact bk (h.sub (L':=[(0,_),(2,_),(3,_),(70,_)]) (.c4 U U U U)) (jE (_) (.c4 U U U U) ⟨a9,by simp_all [fD]⟩);rintro b5 e6 ⟨a5,rfl⟩;refine kpC [(0,_),(2,_),(3,_),(70,_)] (.c4 U U U U) (cd U (λc5=>?_) (λc5=>?_));refine sr (mv U ?_);replace hs:=(((hs.ext (q1.n1 q2)).fr q3 (by intro k Z hb;simp at Z;subst Z;have:=a0 _ hb;omega)).fr q4 (by intro k Z hb;simp at Z;subst Z;have:=a0 _ hb;omega)).ext a5;refine z1d (p:=2) ([]) U hs U y2p U (λh1 d5=>(z1k U (d5 _ hs) na9 ?_));replace hG:=(hG.fr q4 (by first|exact z8h hG oo|simp[z0v]<;>omega)).ext a5;refine cl (ev1 U) (mkC func190) (y9y _ _ hG (b1 _)) U ?_;rintro _ i1 ⟨e,rfl,b3⟩;refine mv U (xt U (xt U (fad U z4r ?_)));replace I:=I.ext (a5.n1 b3);refine z4p (cs':=[_,_,_,_,_,_]) U U I (by first|(simp[Value.oneCell',S];done)|exact Enc.one _ _) y5s U (λf8 I b7 j3=>?_);refine kpL [(0,_),(2,_),(3,_)] (.c3 U U U) (nn ?_);replace hG:=(hG.ext b3).fr b7 (by first|exact z8h hG oo|simp[z0v]<;>omega);replace hs:=(hs.ext b3).fr b7 (by intro k Z hb;simp at Z;subst Z;have:=a0 _ hb;omega);replace O:=((((O.ext q2).fr q3).fr q4).ext (a5.n1 b3)).fr b7;intro a h;have a4:=Fr.refl [g3] f8;refine z2z (λwb w'=>Fr [g3] wb w') z2o ?_;intro e7 M;replace hG:=hG.ext M;replace hs:=hs.ext M;replace O:=O.ext M;replace I:=I.ext M;replace a4:=a4.next M;have b9:=M.size;clear M;have hC:Fr [g3] e7 e7:=Fr.refl _ _;have a6:=hG;have a2:=hs;have a3:=O;have a1:=I;refine z0e 0 h U λa h=>z1e (p:=1) ([]) 1 h U hs U y2p U ?_ (hp:=rfl);clear h a;intro h2 d6 a h;refine z2p 2 h wn U (λ_ hw=>d6 _ (a2.fr hw (by intro k Z hb;simp at Z;subst Z;have:=a0 _ hb;omega))) na9 U λa h=>z0e 4 h U λa h=>z1e (p:=3) ([]) 5 h U hs U y2p U ?_ (hp:=rfl);clear h a;intro h3 d7 a h;refine z2p 6 h wn U (λ_ hw=>d7 _ (a2.fr hw (by intro k Z hb;simp at Z;subst Z;have:=a0 _ hb;omega))) na9 U λa h=>z0d 3 U (z0n h (z0a U z0g) (mkC func189) (u1i _ _ hG) ?_);rintro _ i2 ⟨rfl,M⟩ a h;replace hG:=hG.ext M;replace hs:=hs.ext M;replace O:=O.ext M;replace I:=I.ext M;replace a4:=a4.next M;replace hC:=hC.next M;clear M;refine z0b (z0c 9 h U z7y U λa h=>z0d 7 U (z0n h (z0a U z0g) (mkC func188) (y0w _ _ hG (b1 _)) ?_));rintro _ i3 ⟨rfl,M⟩ a h;replace hG:=hG.ext M;replace hs:=hs.ext M;replace O:=O.ext M;replace I:=I.ext M;replace a4:=a4.next M;replace hC:=hC.next M;clear M;refine z0b (v3o 8 hC h wn U (by rw[underlying3];rfl) underlying5 (by first|exact IntWalk.u8_in _ oo|rfl) U U λa h=>z0d 10 U (z6v h U U I U U U j1w λf9 a7 M hz a h=>?_));replace hG:=hG.fr M (by simp[z0v]<;>omega);replace hs:=hs.fr M (by intro k Z hb;simp at Z;subst Z;have:=a0 _ hb;omega);replace O:=O.fr M;replace a4:=a4.sp M;replace hC:=hC.sp M;clear I M hz;have I:Blk f9 g3 _ [_,_,_,_,_,_]:=a7;clear a7;refine z0b (z0c 11 h U z3q U λa h=>z0d 12 U (z6v h U U I U U U sz5 λg5 a7 M hz a h=>?_));replace hG:=hG.fr M (by simp[z0v]<;>omega);replace hs:=hs.fr M (by intro k Z hb;simp at Z;subst Z;have:=a0 _ hb;omega);replace O:=O.fr M;replace a4:=a4.sp M;replace hC:=hC.sp M;clear I M hz;have I:Blk g5 g3 _ [_,_,_,_,_,_]:=a7;clear a7;refine z0b (z0r ?_);clear hC a6 a2 a3 a1;exact bk (h.sub (L':=[(2,_),(3,_)]) (.c2 U U)) (bn' (jE (()) (.c2 U U) ⟨((Fr.refl [g3] _).z4 a5 b3 b7 a4),by rw[z4b,y5b,if_neg c2,if_neg c3,if_neg c4,if_pos c5];exact I⟩));refine jn (ι:=Bool) [(0,_),(2,_),(3,_)] (λb4=>[(100,.bool b4)]) (λb4 w'=>Fr [] e6 w'/\b4=decide (fN (y7n (ws.getD 0 []))=true/\(ws.length:Int)=2)) (.c3 U U U) ?_ ?_;replace hG:=(hG.fr q4 (by first|exact z8h hG oo|simp[z0v]<;>omega)).ext a5;replace hs:=(((hs.ext (q1.n1 q2)).fr q3 (by intro k Z hb;simp at Z;subst Z;have:=a0 _ hb;omega)).fr q4 (by intro k Z hb;simp at Z;subst Z;have:=a0 _ hb;omega)).ext a5;replace O:=(((O.ext q2).fr q3).fr q4).ext a5;replace I:=I.ext a5;intro a h;have b0:=Fr.refl [] e6;refine z2z (λwb w'=>Fr [] wb w') z2o ?_;intro e8 M;replace hG:=hG.ext M;replace hs:=hs.ext M;replace O:=O.ext M;replace I:=I.ext M;replace b0:=b0.next M;have b9:=M.size;clear M;have hC:Fr [] e8 e8:=Fr.refl _ _;have a6:=hG;have a2:=hs;have a3:=O;have a1:=I;refine z0c 1 h U z7d U λa h=>z0l 2 h U (λ_ hw=>a1.ext hw) U x8m U λa h=>z0d 0 U (z0n h z0g (mkC func100) (y8o _) ?_);rintro _ i4 ⟨gm,rfl,d9,e0,hm,M⟩ a h;replace hG:=hG.ext M;replace hs:=hs.ext M;replace O:=O.ext M;replace I:=I.ext M;replace b0:=b0.next M;replace hC:=hC.next M;clear M;refine z0b (z0d 3 U (y1h (V:=kV) (k:=(y7n (ws.getD 0 []))) h U U hm y5l underlying179 x0h (z6w _) U λa h=>?_));refine z0b (z0d 4 U (x4k h U (λw=>fld1 _ w) U λa h=>?_));refine z0b (z0e 5 h U λa h=>?_);refine gSp (D:=106) h U ?_ ?_;clear h;intro g4 h;refine z0e 6 h U ?_ (hG:=(wy U));clear h a;intro a h;refine z7s 7 hC h (wy U) U underlying88 U λa h=>x1u 8 hC h (wy U) U λa h=>z0d 9 U (z4a h U λa h=>?_);refine z0b (z0d 10 U (z0t h U λa h=>?_));refine z0b (z0r ?_);clear hC a6 a2 a3 a1;exact bk (h.sub (L':=[(0,_),(2,_),(3,_),(100,_)]) (.c4 U U U U)) (jE (_) (.c4 U U U U) ⟨b0,by simp_all [fN]⟩);clear h;intro g4 h;refine z1l 6 h U U λa h=>z1l 7 h U U λa h=>z1l 8 h U U λa h=>z0d 9 U (z2l h U λa h=>?_);refine z0b (z0d 10 U (z0t h U λa h=>?_));refine z0b (z0r ?_);clear hC a6 a2 a3 a1;exact bk (h.sub (L':=[(0,_),(2,_),(3,_),(100,_)]) (.c4 U U U U)) (jE (_) (.c4 U U U U) ⟨b0,by simp_all [fN]⟩);rintro b4 i5 ⟨b2,rfl⟩;refine kpC [(0,_),(2,_),(3,_),(100,_)] (.c4 U U U U) (cd U (λc6=>?_) (λc6=>?_));refine rg (mv U ?_);replace hs:=(((hs.ext (q1.n1 q2)).fr q3 (by intro k Z hb;simp at Z;subst Z;have:=a0 _ hb;omega)).fr q4 (by intro k Z hb;simp at Z;subst Z;have:=a0 _ hb;omega)).ext (a5.n1 b2);refine z1d (p:=1) ([]) U hs U y2p U (λe9 b8=>(z1k U (b8 _ hs) na9 ?_));replace hG:=(hG.fr q4 (by first|exact z8h hG oo|simp[z0v]<;>omega)).ext (a5.n1 b2);refine cl (ev1 U) (mkC func190) (y9y _ _ hG (b1 _)) U ?_;rintro _ i7 ⟨e,rfl,e3⟩;refine mv U (xt U (xt U (fad U z4r ?_)));replace I:=I.ext (a5.n2 b2 e3);refine z4p (cs':=[_,_,_,_,_,_]) U U I (by first|(simp[Value.oneCell',S];done)|exact Enc.one _ _) y5s U (λi8 I f3 j4=>?_);exact kpL [(2,_),(3,_)] (.c2 U U) (nl (bn' (jE (()) (.c2 U U) ⟨((Fr.refl [g3] _).z4 a5 b2 e3 f3),by rw[z4b,y5b,if_neg c2,if_neg c3,if_neg c4,if_neg c5,if_pos c6];exact I⟩)));refine sk (bn' ?_);replace I:=I.ext (a5.n1 b2);exact jE (()) (.c2 U U) ⟨((Fr.refl [g3] _).n2 a5 b2),by rw[z4b,y5b,if_neg c2,if_neg c3,if_neg c4,if_neg c5,if_neg c6];exact I⟩;rintro _j i9 ⟨e4,I⟩;have b6:=I.lt;refine kpC [(2,_),(3,_)] (.c2 U U) (sr (z0m U I y3q ?_));replace O:=(((O.ext q2).fr q3).fr q4).fr e4;refine z0j U O v4o (λj0 O f4 j5=>?_) (hl:=rfl);exact nn (rt (rC results140 U O y3q  ⟨_,rfl,rfl,(q1.z5 q2 q3 q4 e4 f4)⟩))
theorem v8w (l:List UInt8)(w0:World)(hG:Glob w0)(hl:l.length<=1000000):Rets prog 81 #[S l] w0 λr w'=>∃o e,y6f l=(o,e)/\r=.tuple #[opV o,.int .i64 e]/\Fr [] w0 w':=by
 have a2:=hG.sz;refine we [(0,S l)] func81 U ntmps81 U (.cons U .nil) (sr (al v9d U (λg2 w1 a3 D q1 z1=>(asg U (nn (sr (mv U ?_)))))));replace hG:=hG.ext q1;refine cl (ev2 U) (mkC func141) (v8o _ _ _ hG oo dd) U ?_;rintro v6 w2 ⟨a0,M⟩;have z2:=M.size;replace hG:=hG.ext M;refine cl (ev1 U) (mkC func140) (v7o _ _ _ hG a0.sl (x9b _ _) (λi=>Nat.le_trans (v1w _ _ i) hl)) U ?_;rintro _ w3 ⟨rfl,O⟩;have z3:=O.size;refine al v9d U (λg4 w4 a4 I q4 z4=>(z0j U I v4o (λw5 I q5 z5=>?_) (hl:=rfl)));refine nn (sq (sq (v4l (r:=16) (L':=[(2,_),(4,_)]) ((((y5k (z4b (Lib.split l [32])))≠0)\/((u9s (z4b (Lib.split l [32])))≠l))) (.c2 U U) ?_ ?_)));refine z0m U I y3q (cl (ev1 U) u9m (y0n (z4b (Lib.split l [32])) _) U ?_);rintro _ w6 ⟨rfl,q6⟩;have z6:=q6.size;refine ne' U (mv U (gs 11 U (λg0=>?_) (λg0=>?_)));exact gN U (gN U (gN U (gN U (pkt U (y2n U (.c2 U U) q6)))));refine gY U ?_;replace I:=I.ext q6;refine z0m U I y3q (gY U ?_);replace hG:=((hG.ext (O.n1 q4)).fr q5 (by first|exact z8h hG oo|simp[z0v]<;>omega)).ext q6;refine cl (ev1 U) (mkC func142) (u4q (z4b (Lib.split l [32])) _ hG) U ?_;rintro _ w7 ⟨rfl,q7⟩;have z7:=q7.size;exact gY U (mv U (gY U (j1h U U U (pkf U (y2n U (.c2 U U) (q6.n1 q7))))));intro w8 Z;have z8:=Z.size;refine tn (cd U (λc0=>?_) (λc0=>?_));refine sr (z1s (cs:=[_,_,_,_,_,_]) z0g x6s z0q U ?_);replace D:=((D.ext (M.n2 O q4)).fr q5).ext Z;refine z0j U D v4o (λw9 D q9 z9=>?_) (hl:=rfl);exact asg U (nn (rt (tr (rCT results81 U D y3q U ⟨_,rfl,op0,4,by rw[y6f,if_pos c0],rfl,(q1.z6 M O q4 q5 Z q9)⟩))));refine sk (tn (sr ?_));replace I:=I.ext Z;refine z0m U I y3q ?_;replace D:=((D.ext (M.n2 O q4)).fr q5).ext Z;refine z0j U D v4o (λa5 D a1 a6=>?_) (hl:=rfl);exact asg U (nn (rt (rCT results81 U D y3q U ⟨_,rfl,(z4b (Lib.split l [32])),0,by rw[y6f,if_neg c0],rfl,(q1.z6 M O q4 q5 Z a1)⟩)))
end Go.Proofs.YtlfdhllfmoplgaaGreatDoor
namespace Go.G08
open Go.Lw Go.G21
theorem y4v:∀l:Bed,trimB (trimB l)=trimB l
 | []=>rfl
 | s::l=>by
  by_cases h:trimB l=[]/\s=[]
  ·rw[show trimB (s::l)=[] from if_pos h];rfl
  rw[show trimB (s::l)=s::trimB l from if_neg h]
  show (if trimB (trimB l)=[]/\s=[] then [] else s::trimB (trimB l))=_
  rw[y4v l,if_neg h]
def TrB (B:Bd):Prop:=trimB B.f=B.f/\trimB B.b=B.b
theorem x3w (B:Bd)(b n:Int)(s:List LId):TrB (B.put b n s):=by
 unfold Bd.put y5o TrB;split<;>exact⟨y4v _,y4v _⟩
theorem u8p {p q:MSt}{y D en:Int}(e:y6e p y D en=.ok q):q.B=p.B:=by
 unfold y6e at e;split at e;cases e;cases e;rfl
theorem v1p {p q:MSt}{o:MOp}{D st:List LId}(e:x1a p o D st=.ok q):TrB q.B:=by
 unfold x1a at e;split at e;cases e;split at e;cases e;cases e;exact x3w ..
theorem u2a {p q:MSt}{d:Int}(e:z9l p d=.ok q):q.B=p.B:=by
 unfold z9l at e;split at e;cases e;split at e;cases e;cases e;rfl
theorem x2w:∀ {n:Nat} {p q:MSt} {r:Int},z5t n p r=.ok q->q.B=p.B
 | 0,p,q,r,e=>by cases e;rfl
 | n+1,p,q,r,e=>by
  unfold z5t at e
  split at e
  ·cases e;rfl
  split at e
  ·cases e
  rename_i I D
  exact(x2w e).trans (u2a D)
theorem u8s {p q:MSt}{o:MOp}(h:TrB p.B)(e:doM p o=.ok q):TrB q.B:=by
 have s:∀ {x:MSt},x.B=p.B->TrB x.B:=λD=>by rw[D];exact h
 unfold doM at e;split at e;cases e;unfold opM at e;split at e;unfold inM at e;split at e;cases e;cases e;exact s U;split at e;unfold x8l at e;split at e;cases e;cases e;exact s U;split at e;exact s (x2w e);split at e;unfold y3a at e;split at e;cases e;split at e;cases e;exact v1p e;split at e;unfold y2d at e;split at e;cases e;split at e;cases e;split at e;cases e;exact v1p e;split at e;unfold y5u at e;split at e;cases e;exact s (u8p e);split at e;unfold z9k at e;repeat (split at e;· cases e)
 cases e;exact x3w ..;unfold y4r at e;split at e;cases e;cases e;exact x3w ..
theorem j3l {p q:MSt}{o:MOp}(h:MInv p)(e:doM p o=.ok q):q.cr.length<=p.cr.length+5120:=by
 unfold doM at e;split at e;cases e;exact v4h h.B e
def nrm (p:MSt):MSt:=⟨p.rk,p.B,p.ys,p.tb,y2t p.cr,y1g p.fa⟩
theorem z9x {p:MSt}(h:MVal p):MVal (nrm p):=by
 have I:=z3s p.cr;have D:=z4c p.fa;refine⟨⟨h.inv.rk,h.inv.B,h.inv.ly,h.inv.lt,h.inv.yn,h.inv.has,?_,h.inv.all,λc M=>h.inv.cv c (I.mem_iff.1 M)⟩,h.yv,h.tab,λi O=>?_,λi O=>h.fa i (D.mem_iff.1 O),⟨λc M=>h.cr.has c (I.mem_iff.1 M),?_⟩⟩;show p.B.flat.length+(y1g p.fa).length<=_;rw[D.length_eq];exact h.inv.cnt;show (p.B.flat++y1g p.fa++z9f p.tb).count i=1;rw[<-h.once i O];simp only[List.count_append];rw[D.count_eq];exact(I.map λc=>(c.a,c.b)).nodup_iff.2 h.cr.nd
structure StP (s:StQ) (p:MSt) (n:Nat):Prop where
  e:s.p=stM p
  v:MVal p
  t:TrB p.B
  c:p.cr.length<=n*5120
theorem StP.mono {s:StQ}{p:MSt}{n m:Nat}(h:StP s p n)(D:n<=m):StP s p m:=⟨h.e,h.v,h.t,Nat.le_trans h.c (Nat.mul_le_mul_right _ D)⟩
theorem v3u (p:MSt):(nrm p).cr.length=p.cr.length:=(z3s p.cr).length_eq
theorem StP.do {s s':StQ}{p q:MSt}{o:MOp}{n:Nat}(h:StP s p n)(e:doM (nrm p) o=.ok q)(D:s'.p=stM q):StP s' q (n+1):=
 ⟨D,u0n (z9x h.v) e,u8s (p:=nrm p) h.t e,by have:=j3l (z9x h.v).inv e;have:=h.c;rw[v3u] at *;rw[Nat.add_mul];omega⟩
theorem StP.rkE {s:StQ}{p:MSt}{n:Nat}(h:StP s p n):s.rk=p.rk:=congrArg St.rk h.e
theorem StP.BE {s:StQ}{p:MSt}{n:Nat}(h:StP s p n):s.q.p=p.B:=congrArg St.B h.e
theorem StP.ysE {s:StQ}{p:MSt}{n:Nat}(h:StP s p n):s.ys.map YQ.p=p.ys:=congrArg St.ys h.e
theorem StP.tbE {s:StQ}{p:MSt}{n:Nat}(h:StP s p n):z2g s.fb.ts=p.tb:=congrArg (λx=>x.fb.t) h.e
theorem StP.csE {s:StQ}{p:MSt}{n:Nat}(h:StP s p n):s.fb.cs=y2t p.cr:=congrArg (λx=>x.fb.c) h.e
theorem StP.hsE {s:StQ}{p:MSt}{n:Nat}(h:StP s p n):s.fb.hs=(z2t p.B p.rk).map Hd.id:=congrArg (λx=>x.fb.h) h.e
theorem StP.fsE {s:StQ}{p:MSt}{n:Nat}(h:StP s p n):s.fb.fs=y1g p.fa:=congrArg (λx=>x.fb.f) h.e
theorem StP.ly {s:StQ}{p:MSt}{n:Nat}(h:StP s p n):s.ys.length=6:=by
 have:=congrArg List.length h.ysE;rw[List.length_map]at this;rw[this];exact h.v.inv.ly
theorem StP.lt {s:StQ}{p:MSt}{n:Nat}(h:StP s p n):s.fb.ts.length=6:=by
 have:=congrArg List.length h.tbE;rw[z2g,List.length_map]at this;rw[this];exact h.v.inv.lt
theorem StP.yE {s:StQ}{p:MSt}{n:Nat}(h:StP s p n){i:Nat}(D:i<6):(s.ys.getD i yq0).p=p.ys.getD i yn0:=by
 rw[<-h.ysE,List.getD,List.getD,List.getElem?_map,List.getElem?_eq_getElem (by rw[h.ly];exact D)];rfl
theorem StP.hl {s:StQ}{p:MSt}{n:Nat}(h:StP s p n):s.fb.hs.length<=320:=by
 rw[h.hsE,List.length_map,(y2i _ _).length_eq,y0z];exact y3r h.v.inv.B
theorem StP.fl {s:StQ}{p:MSt}{n:Nat}(h:StP s p n):s.fb.fs.length<=2048:=by
 rw[h.fsE,(z4c _).length_eq];have:=h.v.inv.cnt;have:=h.v.inv.all;omega
theorem v2w:∀(T:Tb) (y:Nat),z3h T y<=z5p T
 | [],y=>Nat.zero_le _
 | r::T,0=>Nat.le_add_right _ _
 | r::T,y+1=>Nat.le_trans (v2w T y) (Nat.le_add_left _ _)
theorem StP.cn {s:StQ}{p:MSt}{n:Nat}(h:StP s p n):(s.fb.cs.map cxK).Nodup:=by
 rw[h.csE];exact((z3s p.cr).map _).nodup_iff.2 h.v.cr.nd
def StK (Us:List Nat)(w:World)(s:StQ):Prop:=∀(S:List Nat) (w':World),Fr S w w'->(∀k∈S,k<w.heap.size->∃T cs,Blk w k T cs/\T∉Us)->StAt w' s
theorem StK.at {D:List Nat}{w:World}{s:StQ}(h:StK D w s):StAt w s:=h [] w (Fr.refl _ _) λk I=>by cases I
theorem StK.fr {D:List Nat}{w w':World}{s:StQ}{S:List Nat}(h:StK D w s)(hf:Fr S w w')(M:∀k∈S,k<w.heap.size->∃T cs,Blk w k T cs/\T∉D):StK D w' s:=λS2 w2 I hd=>h (S++S2) w2 (hf.trans I) λk hk hl=>by
 by_cases hm:k∈S
 ·exact M k hm hl
 obtain⟨T,cs,Z,O⟩:=hd k ((List.mem_append.1 hk).resolve_left hm) (Nat.lt_of_lt_of_le hl hf.size)
 exact⟨T,cs,(hf.block k hl hm).symm.trans Z,O⟩
theorem StK.ext {D:List Nat}{w w':World}{s:StQ}(h:StK D w s)(hf:Fr [] w w'):StK D w' s:=h.fr hf λk I=>by cases I
theorem StO.fr {τ:TyK}{I base:Nat}{w w':World}{s:StQ}{S:List Nat}(h:StO τ I base w s)(hf:Fr S w w')(hd:∀k∈S,k<w.heap.size->∃T cs,Blk w k T cs/\T∉[τ.S,τ.I,τ.Y,τ.P,τ.T,τ.L,I]):StO τ I base w' s:=by
 have D:Fr (S.filter λk=>decide (k<w.heap.size)) w w':=hf.weak λk O hl=>List.mem_filter.2 ⟨O,by simpa using hl⟩;have o:∀T',T'∈[τ.S,τ.I,τ.Y,τ.P,τ.T,τ.L,I]->OffT w T' (S.filter λk=>decide (k<w.heap.size)):=λT' M k O=>by
  obtain⟨Z,a0⟩:=List.mem_filter.1 O;obtain⟨T,cs,hb,hT⟩:=hd k Z (by simpa using a0);exact⟨T,cs,hb,λe=>hT (e▸M)⟩
 exact⟨BdO.tf h.b D (o _ sp0) (o _ sp0),h.y.tf D (o _ sp0) (o _ sp0),h.t.tf D (o _ sp0) (o _ sp0) (o _ sp0) (o _ sp0),z1w h.c D (o _ sp0),z1w h.h D (o _ sp0),z1w h.f D (o _ sp0),h.sp⟩
theorem StO.k {τ:TyK}{D base:Nat}{w:World}{s:StQ}(h:StO τ D base w s):StK [τ.S,τ.I,τ.Y,τ.P,τ.T,τ.L,D] w s:=λ_ _ hf I=>(h.fr hf I).at
theorem v7r:TrB start.B:=⟨rfl,rfl⟩
end Go.G08
namespace Go.Proofs.YtlfdhllfmoplgaaGreatDoor
open Go.Lw Go.G21 Go.G08 _root_.Go.Proofs.Tryz
abbrev UK:List Nat:=[τd.S,τd.I,τd.Y,τd.P,τd.T,τd.L,147]
theorem u7j {s:StQ}{p:MSt}{n:Nat}(h:StP s p n)(hn:n<=10000):StSz s:=by
 have hB:BdOk s.q.p:=h.BE▸h.v.inv.B;have hc:=h.c;obtain⟨⟨Z,h2⟩,h3,h4⟩:=z3o hB;refine⟨Z,h2,h3,h4,h.ly,h.lt,λi=>?_,λt ht=>?_,Nat.le_trans h.fl oo,?_,Nat.le_trans h.hl oo⟩;by_cases hi:i<6;have:=(h.v.inv.yn i hi).1;rw[<-h.yE hi]at this;have D:=this.2;split at D;exact Nat.le_trans D.2.1 oo;rw[D.2.2];omega;rw[List.getD,List.getElem?_eq_none (by rw[h.ly];omega)];exact Nat.zero_le _;obtain⟨y,hy,rfl⟩:=List.getElem_of_mem ht;have h6:=h.lt;have e:∀n,lpA p.tb y n=((s.fb.ts.getD y tq0).2.getD n lq0).p:=λn=>by rw[<-h.tbE];exact y1p ..
 have O:z3h p.tb y=(s.fb.ts.getD y tq0).2.length:=by rw[<-h.tbE];exact z3k ..
 have M:s.fb.ts.getD y tq0=s.fb.ts[y]:=by rw[List.getD,List.getElem?_eq_getElem hy];rfl
 rw[M]at O e;refine⟨by have:=v2w p.tb y;have:=h.v.inv.all;omega,λq hq=>?_⟩;obtain⟨k,hk,rfl⟩:=List.getElem_of_mem hq;have I:=(h.v.tabV.ok.rts y oo k oo).1;rw[e,List.getD,List.getElem?_eq_getElem hk]at I;exact⟨Nat.le_trans I.2.1.1 oo,Nat.le_trans I.2.1.2 oo⟩;rw[h.csE,(z3s _).length_eq];omega
theorem u6n {s:StQ}{p:MSt}{n:Nat}(h:StP s p n):(⟨s.rk,⟨trimB (plB s.q.fs),trimB (plB s.q.bs)⟩,s.ys.map YQ.p,z2g s.fb.ts,s.fb.cs,s.fb.fs⟩:MSt)=nrm p:=by
 have hf:plB s.q.fs=p.B.f:=congrArg Bd.f h.BE;have D:plB s.q.bs=p.B.b:=congrArg Bd.b h.BE;unfold nrm;rw[h.rkE,hf,D,h.t.1,h.t.2,h.ysE,h.tbE,h.csE,h.fsE]
theorem x5k {s:StQ}{p:MSt}{n:Nat}(w0:World)(O:StAt w0 s)(h:StP s p n):Rets prog 23 #[.agg #[.int .i64 s.rk,.slice s.q.f.1 s.q.f.2.1 s.q.f.2.2,.slice s.q.b.1 s.q.b.2.1 s.q.b.2.2,.slice s.yv.1 s.yv.2.1 s.yv.2.2,.slice s.fb.t.1 s.fb.t.2.1 s.fb.t.2.2,.slice s.fb.c.1 s.fb.c.2.1 s.fb.c.2.2,.slice s.fb.h.1 s.fb.h.2.1 s.fb.h.2.2,.slice s.fb.f.1 s.fb.f.2.1 s.fb.f.2.2]] w0 λr w'=>r=.int .i64 0/\Fr [] w0 w':=
 u6f s w0 O (by rw[h.rkE];exact h.v.inv.rk) (h.BE▸h.v.inv.B) h.ly h.lt (λi D=>by
  rw[h.yE D]
  have:=h.v.inv.yn i D
  refine⟨this.1,?_⟩
  have e:=h.yE D
  have I:(s.ys.getD i yq0).ct=(p.ys.getD i yn0).ct:=congrArg Yn.ct e
  rw[I,this.2,<-h.tbE]
  exact congrArg _ (z3k ..)) (λw M=>v8r s.fb w M h.lt (h.tbE▸h.v.tabV) (by rw[h.tbE,h.csE];exact h.v.crs) (by rw[h.tbE,h.hsE,h.fsE];exact h.v.place)) (by rw[h.hsE,h.rkE,h.BE]) (Nat.le_trans h.hl oo)
end Go.Proofs.YtlfdhllfmoplgaaGreatDoor
namespace Go.G08
open Go.Lw Go.G21
end Go.G08
namespace Go.Proofs.YtlfdhllfmoplgaaGreatDoor
open Go.Lw Go.G21 Go.G08 _root_.Go.Proofs.Tryz
theorem stp0 (I D:Nat):StP (st0 I D) G08.start 0:=⟨j3j I D,x9m,v7r,Nat.zero_le _⟩
def v4j (p:MSt)(l:List MOp):Int:=match z4u 0 p l with
  | .error (e,_)=>e
  | .ok _=>0
def x3l (p:MSt)(l:List MOp):Nat:=match z4u 0 p l with
  | .error (_,n)=>n
  | .ok _=>l.length
theorem y8n {p:MSt}{l:List MOp}{e:Int}{n:Nat}(h:z4u 0 p l=.error (e,n)):v4j p l=e/\x3l p l=n:=by unfold v4j x3l;rw[h];exact⟨rfl,rfl⟩
theorem y3h {p q:MSt}{l:List MOp}(h:z4u 0 p l=.ok q):v4j p l=0/\x3l p l=l.length:=by unfold v4j x3l;rw[h];exact⟨rfl,rfl⟩
theorem u0o:∀ {l:List MOp} {i:Nat} {p q:MSt},TrB p.B->z4u i p l=.ok q->TrB q.B
 | [],i,p,q,h,e=>by cases e;exact h
 | o::l,i,p,q,h,e=>by
  unfold z4u at e
  split at e
  ·cases e
  rename_i I D
  exact u0o (u8s h D) e
theorem x2p {s:StQ}{p:MSt}{n:Nat}(v:Value)(l:List MOp)(w0:World)(hS:StAt w0 s)(D:StP s p n)(hn:n+l.length<=1000)(hv:Sl z3c w0 v l)(O:StT w0):Rets prog 7 #[.agg #[.int .i64 s.rk,.slice s.q.f.1 s.q.f.2.1 s.q.f.2.2,.slice s.q.b.1 s.q.b.2.1 s.q.b.2.2,.slice s.yv.1 s.yv.2.1 s.yv.2.2,.slice s.fb.t.1 s.fb.t.2.1 s.fb.t.2.2,.slice s.fb.c.1 s.fb.c.2.1 s.fb.c.2.2,.slice s.fb.h.1 s.fb.h.2.1 s.fb.h.2.2,.slice s.fb.f.1 s.fb.f.2.1 s.fb.f.2.2],v] w0 λr w'=>(∃s':StQ,r=.tuple #[.agg #[.int .i64 s'.rk,.slice s'.q.f.1 s'.q.f.2.1 s'.q.f.2.2,.slice s'.q.b.1 s'.q.b.2.1 s'.q.b.2.2,.slice s'.yv.1 s'.yv.2.1 s'.yv.2.2,.slice s'.fb.t.1 s'.fb.t.2.1 s'.fb.t.2.2,.slice s'.fb.c.1 s'.fb.c.2.1 s'.fb.c.2.2,.slice s'.fb.h.1 s'.fb.h.2.1 s'.fb.h.2.2,.slice s'.fb.f.1 s'.fb.f.2.1 s'.fb.f.2.2],.int .i64 (x3l (nrm p) l:Int),.int .i64 (v4j (nrm p) l)]/\StO τd 147 w0.heap.size w' s'/\(∀q,z4u 0 (nrm p) l=.ok q->StP s' q (n+l.length))/\(∀e i,z4u 0 (nrm p) l=.error (e,i)->s'=stZ))/\Fr [] w0 w':=
 Rets.mono (u6d s v l (nrm p) w0 hS (u7j D oo) D.cn (u6n D).symm (z9x D.v).inv hv O oo (λw h=>x5k w h D) (λq e=>by
  have x:=y8p (z9x D.v).inv e
  have y:=D.c
  rw[v3u]at x
  omega)) (by
  rintro r w' ⟨h,hf⟩
  refine⟨?_,hf⟩
  cases e:z4u 0 (nrm p) l with
  | error x=>
   obtain⟨e1,i⟩:=x
   rw[e]at h
   obtain⟨I,M⟩:=y8n e
   exact⟨stZ,by rw[I,M];exact h,u3s _ _,λq Z=>(by cases Z),λ_ _ _=>rfl⟩
  | ok q=>
   rw[e]at h
   obtain⟨s',I,M,h3⟩:=h
   obtain⟨h4,h5⟩:=y3h e
   refine⟨s',by rw[h4,h5];exact I,M,λq' Z=>?_,λ_ _ hp=>(by cases hp)⟩
   cases Z
   refine⟨h3,v1l (z9x D.v) e,u0o (p:=nrm p) D.t e,?_⟩
   have x:=y8p (z9x D.v).inv e
   have y:=D.c
   rw[v3u]at x
   rw[Nat.add_mul];omega)
end Go.Proofs.YtlfdhllfmoplgaaGreatDoor
namespace Go.G26
open Go.Lw Go.G21 Go.G08
def y3n (l:List LId)(x:LId):Int:=if x∈l then (l.idxOf x:Int) else -1
abbrev St:=List LId×List Int
def u3m (o:List LId)(k:Nat):List LId:=(o.set (k-1) (o.getD k id0)).set k (o.getD (k-1) id0)
def y4m (st:St)(c:Cx):St:=
  if 0<y3n st.1 c.a+1/\y3n st.1 c.a+1<(st.1.length:Int) then (u3m st.1 (y3n st.1 c.a+1).toNat,st.2++[(y3n st.1 c.a+1)*c.n]) else st
def z3j (st:St)(cs:List Cx):St:=cs.foldl y4m st
def y5p (B:Bd)(d:Int):Nat->Int->St->St
  | 0,_,st=>st
  | n+1,r,st=>y5p B d n (r+stI d) (z3j st (z3d B r d))
def z9v (B:Bd)(r ro:Int)(st:St):St:=y5p B (if ro<r then 0 else 1) (if ro<r then r-ro else ro-r).toNat r st
def z8u:MSt->St->List MOp->Option St
  | _,st,[]=>some st
  | p,st,o::l=>
    let st':=if o.k=3 then z9v p.B p.rk o.r st else st
    if 64<st'.2.length then none else match doM p o with
      | .error _=>none
      | .ok q=>z8u q st' l
def u0r (p:MSt):List LId:=(z2t p.B p.rk).map Hd.id
def y1w (p:MSt)(l:List MOp):Option (List Int):=if z2t p.B p.rk=[] then some [] else (z8u p (u0r p,[]) l).map Prod.snd
def isP (l:List MOp):Bool:=l.all λo=>decide ((o.k=3\/o.k=7)/\y5k o=0)
def z4l (p:MSt)(l:List MOp):Except Int (List Int×MSt):=
  if isP l=false then .error 1 else if 4096<l.length then .error 3 else if 8<p.B.flat.length then .error 3 else match z4u 0 p l with
    | .error x=>match y1w p (l.take x.2) with
      | none=>.error 3
      | some _=>.error x.1
    | .ok q=>match y1w p l with
      | none=>.error 3
      | some w=>.ok (w,q)
def knP (b n:Int):MOp:=⟨4,1,b,n,1,0⟩
def exO:List MOp:=[⟨1,0,0,0,1,0⟩,knP 0 10,knP 0 11,knP 0 12,⟨2,0,0,0,1,0⟩]
def xfP (b n:Int):MOp:=⟨7,0,b,n,0,0⟩
def rkP (r:Int):MOp:=⟨3,0,0,0,0,r⟩
theorem v6s (l:List LId)(x:LId):-1<=y3n l x/\y3n l x<l.length:=by
 unfold y3n;split;rename_i h;have:=List.idxOf_lt_length_of_mem h;omega;exact⟨oo,oo⟩
theorem u2o {l:List LId}{x:LId}{i:Nat}(D:i<l.length)(I:l.getD i id0=x)(hn:∀j,j<i->l.getD j id0≠x):y3n l x=i:=by
 have O:x∈l:=by rw[<-I,List.getD,List.getElem?_eq_getElem D];exact List.getElem_mem D
 unfold y3n;rw[if_pos O];have M:=List.idxOf_lt_length_of_mem O;have Z:l[l.idxOf x]=x:=List.getElem_idxOf M;have h3:¬l.idxOf x<i:=λh=>hn _ h (by rw[List.getD,List.getElem?_eq_getElem M];exact Z);have h4:¬i<l.idxOf x:=λh=>by
  have:=List.not_of_lt_findIdx (p:=(· == x)) (xs:=l) (i:=i) h;rw[List.getD,List.getElem?_eq_getElem D,Option.getD_some]at I;simp[I]at this
 omega
theorem u5u {l:List LId}{x:LId}(hn:∀j,j<l.length->l.getD j id0≠x):y3n l x = -1:=by
 unfold y3n;rw[if_neg];intro I;obtain⟨i,D,rfl⟩:=List.getElem_of_mem I;exact hn i D (by rw[List.getD,List.getElem?_eq_getElem D];rfl)
theorem v2j (st:St)(c:Cx):(y4m st c).1.length=st.1.length/\(y4m st c).2.length<=st.2.length+1:=by
 unfold y4m;split;simp[u3m];exact⟨rfl,Nat.le_succ _⟩
theorem z8x:∀(cs:List Cx) (st:St),(z3j st cs).1.length=st.1.length/\(z3j st cs).2.length<=st.2.length+cs.length
 | [],st=>⟨rfl,Nat.le_refl _⟩
 | c::cs,st=>by
  obtain⟨D,M⟩:=v2j st c
  obtain⟨I,O⟩:=z8x cs (y4m st c)
  exact⟨I.trans D,by show (z3j (y4m st c) cs).2.length<=_;rw[List.length_cons];omega⟩
theorem y6p {st:St}{cs:List Cx}{i:Nat}(h:i<cs.length):z3j st (cs.take (i+1))=y4m (z3j st (cs.take i)) (cs.getD i cx0):=by
 unfold z3j;rw[List.take_add_one,List.getElem?_eq_getElem h,List.foldl_append,List.getD,List.getElem?_eq_getElem h];rfl
theorem v1f {st:St}{c:Cx}{k:Int}(I:k=y3n st.1 c.a+1)(h1:0<k)(D:k<st.1.length):y4m st c=(u3m st.1 k.toNat,st.2++[k*c.n]):=by
 subst I;unfold y4m;rw[if_pos ⟨h1,D⟩]
theorem v9k {st:St}{c:Cx}{k:Int}(D:k=y3n st.1 c.a+1)(h:¬(0<k/\k<st.1.length)):y4m st c=st:=by
 subst D;unfold y4m;rw[if_neg h]
theorem v8t (B:Bd)(r:Int)(st:St):z9v B r r st=st:=by unfold z9v;rw[if_neg (Int.lt_irrefl r),if_neg (Int.lt_irrefl r),Int.sub_self];rfl
theorem x7s {B:Bd}{r ro:Int}{st:St}(h:r≠ro):z9v B r ro st=z9v B (r+stI (if ro<r then 0 else 1)) ro (z3j st (z3d B r (if ro<r then 0 else 1))):=by
 have w0:∀(d e r:Int) (st:St),y5p B d 0 r st=y5p B e 0 r st:=λ_ _ _ _=>rfl;by_cases c:ro<r;rw[if_pos c];unfold z9v;rw[if_pos c,if_pos c,show (r-ro).toNat=(r-1-ro).toNat+1 by omega];show y5p B 0 _ (r+stI 0) _=_;rw[show r+stI 0=r-1 from U];by_cases c2:ro<r-1;rw[if_pos c2,if_pos c2];rw[if_neg c2,if_neg c2,show (r-1-ro).toNat=0 by omega,show (ro-(r-1)).toNat=0 by omega];exact w0 _ _ _ _;rw[if_neg c];unfold z9v;rw[if_neg c,if_neg c,show (ro-r).toNat=(ro-(r+1)).toNat+1 by omega];show y5p B 1 _ (r+stI 1) _=_;rw[show r+stI 1=r+1 from U,if_neg oo,if_neg oo]
theorem y9m {B:Bd}(D:BdOk B)(d:Int):∀(n:Nat) (r:Int) (st:St),(y5p B d n r st).1.length=st.1.length/\(y5p B d n r st).2.length<=st.2.length+n*640
 | 0,r,st=>⟨rfl,by simp[y5p]⟩
 | n+1,r,st=>by
  obtain⟨I,O⟩:=z8x (z3d B r d) st
  obtain⟨M,Z⟩:=y9m D d n (r+stI d) (z3j st (z3d B r d))
  have:=y5c D r d
  exact⟨M.trans I,by show (y5p B d n (r+stI d) (z3j st (z3d B r d))).2.length<=_;omega⟩
theorem x1f {B:Bd}(M:BdOk B){r ro:Int}(st:St)(h1:-4<=r/\r<=4)(O:-4<=ro/\ro<=4):(z9v B r ro st).1.length=st.1.length/\(z9v B r ro st).2.length<=st.2.length+5120:=by
 unfold z9v;obtain⟨D,I⟩:=y9m M (if ro<r then 0 else 1) (if ro<r then r-ro else ro-r).toNat r st;refine⟨D,Nat.le_trans I ?_⟩;have:(if ro<r then r-ro else ro-r).toNat<=8:=by split<;>omega
 omega
def opW (p:MSt)(o:MOp)(st:St):St:=if o.k=3 then z9v p.B p.rk o.r st else st
theorem x8d {p:MSt}{st:St}{o:MOp}{l:List MOp}(h:64<(opW p o st).2.length):z8u p st (o::l)=none:=by
 unfold opW at h;unfold z8u;simp only;rw[if_pos h]
theorem x7i {p q:MSt}{st:St}{o:MOp}{l:List MOp}(h:¬64<(opW p o st).2.length)(e:doM p o=.ok q):z8u p st (o::l)=z8u q (opW p o st) l:=by
 unfold opW at *
 conv=>lhs;unfold z8u
 simp only
 rw[if_neg h,e]
theorem v5q {l:List MOp}{i n:Nat}{p q:MSt}(h:z4u i p (l.drop n)=.ok q)(hn:n<l.length):l.drop n=l.getD n op0::l.drop (n+1)/\∃m,doM p (l.getD n op0)=.ok m/\z4u (i+1) m (l.drop (n+1))=.ok q:=by
 have e:l.drop n=l.getD n op0::l.drop (n+1):=by rw[List.getD,List.getElem?_eq_getElem hn];exact List.drop_eq_getElem_cons hn
 refine⟨e,?_⟩;rw[e]at h;unfold z4u at h;split at h;cases h;rename_i m D;exact⟨m,D,h⟩
theorem x8v {l:List MOp}(h:isP l=true){i:Nat}(D:i<l.length):((l.getD i op0).k=3\/(l.getD i op0).k=7)/\y5k (l.getD i op0)=0:=by
 have:=List.all_eq_true.1 h (l.getD i op0) (by rw[List.getD,List.getElem?_eq_getElem D];exact List.getElem_mem D);exact of_decide_eq_true this
theorem v8u {l:List MOp}(h:isP l=true)(n:Nat):isP (l.take n)=true:=List.all_eq_true.2 λo D=>List.all_eq_true.1 h o (List.mem_of_mem_take D)
theorem x6u {l:List MOp}{i:Nat}(D:i<l.length)(h:¬(((l.getD i op0).k=3\/(l.getD i op0).k=7)/\y5k (l.getD i op0)=0)):isP l=false:=by
 cases e:isP l with
 | false=>rfl
 | true=>exact absurd (x8v e D) h
theorem y7x {l:List MOp}(h:∀j,j<l.length->((l.getD j op0).k=3\/(l.getD j op0).k=7)/\y5k (l.getD j op0)=0):isP l=true:=List.all_eq_true.2 λo I=>by
 obtain⟨j,D,rfl⟩:=List.getElem_of_mem I
 have:=h j D
 rw[List.getD,List.getElem?_eq_getElem D]at this
 exact decide_eq_true this
theorem y4g:∀ {l:List MOp} {i:Nat} {p:MSt} {x:Int} {n:Nat},z4u i p l=.error (x,n)->i<=n/\n<i+l.length/\∃m,z4u i p (l.take (n-i))=.ok m
 | [],i,p,x,n,h=>by cases h
 | o::l,i,p,x,n,h=>by
  unfold z4u at h
  split at h
  ·rename_i e M
   cases h
   refine⟨Nat.le_refl _,sp0,p,by rw[Nat.sub_self,List.take_zero];rfl⟩
  rename_i p1 D
  obtain⟨O,Z,m,I⟩:=y4g h
  refine⟨oo,by rw[List.length_cons];omega,m,?_⟩
  rw[show n-i=(n-(i+1))+1 by omega,List.take_succ_cons]
  unfold z4u;rw[D];exact I
end Go.G26
namespace Go.G26
open Go.Lw Go.G21 Go.G08
structure KpW (S:List Nat) (J:Nat) (w w':World):Prop where
  size:w.heap.size<=w'.heap.size
  block:∀k,k<w.heap.size->k∉S->(∀cs:List Value,¬Blk w k J cs)->w'.heap[k]?=w.heap[k]?
section
variable {S S':List Nat} {J T T' base g:Nat} {w w':World}
theorem KpW.refl (S:List Nat)(J:Nat)(w:World):KpW S J w w:=⟨Nat.le_refl _,λ_ _ _ _=>rfl⟩
theorem KpW.trans {a b c:World}(h:KpW S J a b)(D:KpW S J b c):KpW S J a c:=
 ⟨Nat.le_trans h.size D.size,λk O M I=>by
  have e:=h.block k O M I
  rw[<-e]
  exact D.block k (Nat.lt_of_lt_of_le O h.size) M λcs Z=>I cs (e.symm.trans Z)⟩
theorem KpW.of (hf:Fr S' w w')(D:∀k∈S',k∈S\/∃cs:List Value,Blk w k J cs):KpW S J w w':=
 ⟨hf.size,λk Z O I=>hf.block k Z λhm=>by
  rcases D k hm with e|⟨cs,M⟩
  ·exact O e
  exact I cs M⟩
theorem KpW.fr (hf:Fr [] w w'):KpW S J w w':=KpW.of hf λk D=>by cases D
theorem KpW.one (hf:Fr [g] w w')(I:g∈S):KpW S J w w':=KpW.of hf λk D=>by rw[List.mem_singleton]at D;subst D;exact .inl I
theorem KpW.app {α:Type}{E:Enc α}{v:Value}{ys:List α}(hf:Fr (z0v v) w w')(h:Lw.Own E J base w v ys):KpW S J w w':=KpW.of hf λk D=>.inr (z9b h k D)
theorem KpW.blk {k:Nat}{cs:List Value}(h:KpW S J w w')(hb:Blk w k T cs)(O:k∉S)(M:T≠J):Blk w' k T cs:=
 (h.block k hb.lt O λD I=>M (v3p hb I)).trans hb
theorem KpW.own {α:Type}{E:Enc α}{v:Value}{ys:List α}(h:KpW S J w w')(Z:Lw.Own E T base w v ys)(O:∀k∈z0v v,k∉S)(I:T≠J):Lw.Own E T base w' v ys:=by
 rcases Z with ⟨rfl,rfl⟩|⟨g,cap,cur,rfl,M,D,r⟩
 exact Own.nil _;exact .inr ⟨g,cap,cur,rfl,M,KpW.blk (cs:=cur.toList) h D (O g (by simp[z0v])) I,r⟩
end
structure TyP where
  S:Nat
  I:Nat
  F:Nat
  L:Nat
  J:Nat
structure TyP.Ok (τ:TyP):Prop where
  fs:τ.F≠τ.S
  fi:τ.F≠τ.I
  fl:τ.F≠τ.L
  fj:τ.F≠τ.J
  sl:τ.S≠τ.L
  si:τ.S≠τ.I
  sj:τ.S≠τ.J
  il:τ.I≠τ.L
  ij:τ.I≠τ.J
  lj:τ.L≠τ.J
structure WdA where
  gf:Nat
  go:Nat
  gl:Nat
  gO:Nat
def WdA.lt (a:WdA)(b:Nat):Prop:=a.gf<b/\a.go<b/\a.gl<b/\a.gO<b
abbrev WdA.OV (a:WdA)(n:Nat):Value:=.slice (some ⟨a.gO,0,none⟩) n n
structure WdM (τ:TyP) (tv:Value) (wS:World) (a:WdA) (w:World) (q:BdQ) (rk:Int) (st:St):Prop where
  f:Blk w a.gf τ.F (bdL q++[.int .i64 rk,tv])
  b:BdAt wS q\/∃b',a.lt b'/\BdO τ.S τ.I b' w q
  o:Blk w a.go τ.S [a.OV st.1.length]
  od:Lw.Own z1b τ.I wS.heap.size w (a.OV st.1.length) st.1
  l:∃v,Blk w a.gl τ.L [v]/\Lw.Own Enc.i64 τ.J wS.heap.size w v st.2
  fr:Fr [] wS w
  gs:wS.heap.size<=a.gf/\wS.heap.size<=a.go/\wS.heap.size<=a.gl
section
variable {τ:TyP} {tv:Value} {wS w w' w1:World} {a:WdA} {q q':BdQ} {rk:Int} {st:St}
theorem WdM.bat (h:WdM τ tv wS a w q rk st):BdAt w q:=by
 rcases h.b with D|⟨I,_,D⟩
 exact D.ext h.fr;exact D.at
theorem WdM.next (h:WdM τ tv wS a w q rk st)(hf:Fr [] w w'):WdM τ tv wS a w' q rk st:=by
 obtain⟨v,I,hl⟩:=h.l;exact⟨h.f.ext hf,h.b.imp id λ⟨D,hb,ho⟩=>⟨D,hb,ho.ext hf⟩,h.o.ext hf,h.od.ext hf,⟨v,I.ext hf,hl.ext hf⟩,h.fr.next hf,h.gs⟩
theorem WdM.ext (h:WdM τ tv wS a w q rk st)(hf:Fr [] w w'):WdM τ tv wS a w' q rk st:=h.next hf
theorem WdM.nO (h:WdM τ tv wS a w q rk st){k T:Nat}{cs:List Value}(hb:Blk w k T cs)(D:T≠τ.I):k≠a.gO:=λe=>
 Own.neB h.od hb (Ne.symm D) (by simp[z0v,e])
theorem u0i {k k' T T':Nat}{cs cs':List Value}(hb:Blk w k T cs)(D:Blk w k' T' cs')(I:T≠T'):k≠k':=λe=>I (v3p hb (by rw[e];exact D))
theorem WdM.lts (h:WdM τ tv wS a w q rk st):a.lt w.heap.size:=by
 obtain⟨v,D,hl⟩:=h.l;exact⟨h.f.lt,h.o.lt,D.lt,(h.od.blk a.gO (by simp[z0v])).2⟩
theorem u1a {S:List Nat}{J D I b:Nat}{v:Value}{l:List IQ}(h:RwO D I b w v l)(hk:KpW S J w w')(Z:∀k∈S,k<b)(h1:D≠J)(h2:I≠J):RwO D I b w' v l:=
 ⟨hk.own h.1 (λk M O=>by have:=Z k O;have:=(h.1.blk k M).1;omega) h1,λp hp=>hk.own (h.2 p hp) (λk M O=>by have:=Z k O;have:=((h.2 p hp).blk k M).1;omega) h2⟩
theorem WdM.tell (h:WdM τ tv wS a w q rk st)(D:τ.Ok){o:List LId}{ls:List Int}{v:Value}(M:KpW [a.gO,a.gl] τ.J w w')(ho:Blk w' a.go τ.S [a.OV o.length])(hd:Lw.Own z1b τ.I wS.heap.size w' (a.OV o.length) o)(hl:Blk w' a.gl τ.L [v])(hv:Lw.Own Enc.i64 τ.J wS.heap.size w' v ls)(hf:Fr [] wS w'):WdM τ tv wS a w' q rk (o,ls):=by
 obtain⟨u,hu,_⟩:=h.l;refine⟨M.blk h.f ?_ D.fj,h.b.imp id λ⟨O,hb,hq⟩=>⟨O,hb,?_⟩,ho,hd,⟨v,hl,hv⟩,hf,h.gs⟩;intro I;simp only[List.mem_cons,List.not_mem_nil,or_false]at I;rcases I with e|e
 exact h.nO h.f D.fi e;exact u0i h.f hu D.fl e;obtain⟨_,_,h3,h4⟩:=hb;have Z:∀k∈[a.gO,a.gl],k<O:=λk I=>by
  simp only[List.mem_cons,List.not_mem_nil,or_false]at I;rcases I with rfl|rfl<;>assumption
 exact⟨u1a hq.f M Z D.sj D.ij,u1a hq.b M Z D.sj D.ij⟩
theorem WdM.keep (h:WdM τ tv wS a w q rk st)(D:τ.Ok)(hf:Fr [a.gf] w w'):(Blk w' a.go τ.S [a.OV st.1.length]/\Lw.Own z1b τ.I wS.heap.size w' (a.OV st.1.length) st.1/\∃v,Blk w' a.gl τ.L [v]/\Lw.Own Enc.i64 τ.J wS.heap.size w' v st.2)/\Fr [] wS w':=by
 obtain⟨v,O,hl⟩:=h.l;refine⟨⟨y2o h.o hf (OffT.one h.f D.fs),z1w h.od hf (OffT.one h.f D.fi),v,y2o O hf (OffT.one h.f D.fl),z1w hl hf (OffT.one h.f D.fj)⟩,h.fr.step hf λk I M=>?_⟩;rw[List.mem_singleton]at I;subst I;exact absurd h.gs.1 oo
theorem WdM.rack (h:WdM τ tv wS a w q rk st)(D:τ.Ok){r:Int}(hb:Blk w' a.gf τ.F (bdL q++[.int .i64 r,tv]))(hf:Fr [a.gf] w w'):WdM τ tv wS a w' q r st:=by
 obtain⟨⟨M,O,Z⟩,h4⟩:=h.keep D hf;exact⟨hb,h.b.imp id λ⟨I,hb,hq⟩=>⟨I,hb,hq.tf hf (OffT.one h.f D.fs) (OffT.one h.f D.fi)⟩,M,O,Z,h4,h.gs⟩
theorem WdM.put (h:WdM τ tv wS a w q rk st)(M:τ.Ok){D:Nat}(I:a.lt D)(hq:BdO τ.S τ.I D w q')(hb:Blk w' a.gf τ.F (bdL q'++[.int .i64 rk,tv]))(hf:Fr [a.gf] w w'):WdM τ tv wS a w' q' rk st:=by
 obtain⟨⟨O,Z,h3⟩,h4⟩:=h.keep M hf;exact⟨hb,.inr ⟨D,I,hq.tf hf (OffT.one h.f M.fs) (OffT.one h.f M.fi)⟩,O,Z,h3,h4,h.gs⟩
end
end Go.G26
namespace Go.Proofs.YtlfdhllfmoplgaaGreatDoor
open Go.Lw Go.G21 Go.G08 Go.G26 _root_.Go.Proofs.Tryz
theorem u8v:z1y prog 22:=λ_=>kr
theorem sz22:z1t prog 22 1:=λ_=>kr
abbrev τp:TyP:=⟨30,64,134,22,3⟩
theorem τpk:τp.Ok:=⟨dd,dd,dd,dd,dd,dd,dd,dd,dd,dd⟩
abbrev tvW (a:WdA):Value:=.func (.func 57) #[] #[.pointer (some ⟨a.go,0,none⟩),.pointer (some ⟨a.gl,0,none⟩)]
theorem u9t (v:Value)(l:List LId)(x:LId)(w0:World)(Z:Sl z1b w0 v l)(hl:l.length<=100000):Rets prog 58 #[v,.agg #[.int .u8 x.y,.int .i64 x.n]] w0 λr w'=>r=.int .i64 (y3n l x)/\Fr [] w0 w':=by
 obtain⟨A,k,rfl,hk⟩:=id Z.form;refine we [(0,.slice A l.length k),(1,.agg #[.int .u8 x.y,.int .i64 x.n])] func58 U ntmps58 U (.c2 U U) ?_;have a1:=Z;refine sr (bx U (λg3 w1 a3 D q1 z1=>(asg U (nn (sq (sr (mv U (lnS U underlying30 (mv U (nn (bl (lpK (ι:=Nat) [(0,_),(3,_),(7,_)] (λi=>[(8,.int .i64 (i:Int))]) (λi w'=>Fr [] w1 w'/\i<=l.length/\∀j,j<i->l.getD j id0≠x) (λi=>l.length-i) 0 (.c4 U U U U) ⟨Fr.refl _ _,⟨Nat.zero_le _,λj h=>absurd h oo⟩⟩ ?_))))))))))));rintro i w2 ⟨q2,⟨hi,hz⟩⟩;have z2:=q2.size;refine kpC [(0,_),(3,_),(7,_),(8,_)] (.c4 U U U U) (sr (lt' U (nn (sq (cd U (λc0=>?_) (λc0=>?_))))));refine sk (tn (sq (bl (sr (mv U (asg U (nn (sq ?_))))))));replace Z:=a1.ext (q1.n1 q2);replace D:=D.ext q2;intro a h;have M:=Fr.refl [] w2;refine z2z (λwb w'=>Fr [] wb w') z2o ?_;intro w3 hq;have z3:=hq.size;replace Z:=Z.ext hq;replace D:=D.ext hq;replace M:=M.next hq;have a4:=hq.size;clear hq;have hC:Fr [] w3 w3:=Fr.refl _ _;have O:=Z;have I:=D;refine z0w 0 h U (λ_ hw=>I.ext hw) z2q U λa h=>z0e 1 h U λa h=>z0e 2 h U λa h=>z1e (id0) 3 h U Z U z3x U ?_ (hp:=rfl);clear h a;intro a2 a0 a h;refine z1x 4 h wn U (λ_ hw=>a0 _ (O.ext hw)) z2q U λa h=>u7f (V:=idV) (e:=_) (f:=_) 5 kr kr kr hC h wn U U j1s U U λa h=>z0r ?_;clear hC O I;have z3:=M.size;refine bk (h.sub (L':=[(0,_),(3,_),(5,_),(7,_),(8,_),(16,_)]) (.c6 U U U U U U)) (tn (cd U (λc1=>?_) (λc1=>?_)));refine sr (mv U (asg U (kpL [(4,_)] (.cons U .nil) (nn (rt (rb (tr (tr (rb (tr (r1 results58 U ?_)))))))))));exact⟨_,rfl,congrArg (Value.int .i64) (u2o oo c1.symm hz).symm,(q1.n2 q2 M)⟩;refine sk (bn' (tn (rg (z0x U (wi6 oo) (mv U (nl ?_))))));exact lpE (i+1) (.c4 U U U U) ⟨(q2.n1 M),⟨oo,λj h=>by
  by_cases e:j=i;subst e;exact λhh=>c1 hh.symm;exact hz j oo⟩⟩ oo
 obtain rfl:i=l.length:=by omega
 refine ex (te (te (xh (tn (sr (asg U (nn (rt (r1 results58 U ?_)))))))));exact⟨_,rfl,congrArg (Value.int .i64) (u5u (λj hj=>hz j oo)).symm,(q1.n1 q2)⟩
theorem u6j (go gl gO base:Nat)(lv v:Value)(ord:List LId)(ls:List Int)(cs:List Cx)(wS w0:World)(hF:Fr [] wS w0)(g7:wS.heap.size<=go)(g6:wS.heap.size<=gl)(f9:wS.heap.size<=base)(I:Blk w0 go 30 [.slice (some ⟨gO,0,none⟩) ord.length ord.length])(Z:Lw.Own z1b 64 base w0 (.slice (some ⟨gO,0,none⟩) ord.length ord.length) ord)(M:Blk w0 gl 22 [lv])(hl:Lw.Own Enc.i64 3 base w0 lv ls)(O:Lw.Own z4z 101 0 w0 v cs)(hn:ord.length<=1000)(h3:ls.length+cs.length<=1000000)(e7:∀c∈cs,-1<=c.n/\c.n<=1):Rets prog 57 #[v,.pointer (some ⟨go,0,none⟩),.pointer (some ⟨gl,0,none⟩)] w0 λr w'=>r=.tuple #[]/\(∃u,Blk w' go 30 [.slice (some ⟨gO,0,none⟩) ord.length ord.length]/\Lw.Own z1b 64 base w' (.slice (some ⟨gO,0,none⟩) ord.length ord.length) (z3j (ord,ls) cs).1/\Blk w' gl 22 [u]/\Lw.Own Enc.i64 3 base w' u (z3j (ord,ls) cs).2)/\KpW [gO,gl] 3 w0 w'/\Fr [] wS w':=by
 obtain⟨A,c,rfl,g1⟩:=O.sl.form;have h4:=hF.size;have b6:go≠gO:=λe=>Own.neB Z I dd (by simp[z0v,e]);have f6:gl≠gO:=λe=>Own.neB Z M dd (by simp[z0v,e]);have f8:go≠gl:=u0i I M dd;have f4:=(Z.blk gO (by simp[z0v])).1;have f3:=(Z.blk gO (by simp[z0v])).2;have f7:=I.lt;have f5:=M.lt;have a5:=Own.neB O M dd;have a6:gO∉z0v (.slice A cs.length c):=λhk=>Own.neO O Z dd gO hk (by simp[z0v]);refine we [(0,.slice A cs.length c),(1,.pointer (some ⟨go,0,none⟩)),(2,.pointer (some ⟨gl,0,none⟩))] func57 U ntmps57 U (.c3 U U U) (sr (mv U (lnS U underlying97 (mv U (nn (bl (lpK (ι:=Nat×Value) [(1,_),(2,_),(7,_),(8,_)] (λp=>[(9,.int .i64 (p.1:Int))]) (λp w'=>Fr [] wS w'/\p.1<=cs.length/\Blk w' go 30 [.slice (some ⟨gO,0,none⟩) ord.length ord.length]/\Lw.Own z1b 64 base w' (.slice (some ⟨gO,0,none⟩) ord.length ord.length) (z3j (ord,ls) (cs.take p.1)).1/\Blk w' gl 22 [p.2]/\Lw.Own Enc.i64 3 base w' p.2 (z3j (ord,ls) (cs.take p.1)).2/\(KpW [gO,gl] 3 w0 w'/\Lw.Own z4z 101 0 w' (.slice A cs.length c) cs)) (λp=>cs.length-p.1) (0,lv) (.c5 U U U U U) ⟨hF,⟨Nat.zero_le _,I,Z,M,hl,KpW.refl _ _ _,O⟩⟩ ?_)))))));rintro⟨i,uI⟩ w1 ⟨q1,⟨e8,I,Z,M,hl,b9,O⟩⟩;simp only at e8 I Z M hl O;have z1:=q1.size;have e2:=I.lt;have e1:=M.lt;refine kpC [(1,_),(2,_),(7,_),(8,_),(9,.int .i64 (i:Int))] (.c5 U U U U U) ?_;have h2:=b9.size;have a7:=Own.neB hl M dd;have a8:gO∉z0v uI:=λhk=>Own.neO hl Z dd gO hk (by simp[z0v]);refine sr (lt' U (nn (sq (cd U (λc0=>?_) (λc0=>?_)))));have c9:i<cs.length:=by omega
 have g3:=e7 (cs.getD i cx0) (z1a (d:=cx0) c9);obtain⟨e6,d6⟩:=z8x (cs.take i) (ord,ls);simp only at e6 d6;rw[List.length_take_of_le oo]at d6;have g8:=v6s (z3j (ord,ls) (cs.take i)).1 (cs.getD i cx0).a;have h0:-1000000<=((y3n (z3j (ord,ls) (cs.take i)).1 (cs.getD i cx0).a)+1)*(cs.getD i cx0).n/\((y3n (z3j (ord,ls) (cs.take i)).1 (cs.getD i cx0).a)+1)*(cs.getD i cx0).n<=1000000:=by
  rcases(show (cs.getD i cx0).n = -1\/(cs.getD i cx0).n=0\/(cs.getD i cx0).n=1 by omega) with e|e|e<;>rw[e]<;>omega
 refine sk (tn (sq (bl (sr (z1d (cx0) U O.sl U x6n z1j (λf0 d7=>?_))))));refine z1q U (d7 _ O.sl) x3q (al u6s U (λg5 w2 g4 a4 q2 z2=>?_));refine z0j (vs:=[_,_,_,_,_]) U a4 x7w (λw3 a4 q3 z3=>?_) (h1:=(by first|(simp[Value.oneCell',S];done)|exact Enc.one _ _|exact Enc.i64.one _));refine nn (sr ?_);replace I:=(I.ext q2).fr q3;refine z2r U I z6h (fad U y7q (z1v (vs:=[_,_]) U a4 z2q U ?_));replace Z:=(Z.ext q2).fr q3 (by first|exact z8h Z oo|simp[z0v]<;>omega);refine cl (ev2 U) (mkC func58) (u9t _ (z3j (ord,ls) (cs.take i)).1 (cs.getD i cx0).a _ Z.sl oo) U ?_;rintro _ w4 ⟨rfl,q4⟩;have z4:=q4.size;refine z0x U (wi6 oo) (asg U (nn (sq (rbo (r:=25) (L':=[(1,_),(2,_),(5,_),(6,_),(7,_),(8,_),(9,_)]) (((0<((y3n (z3j (ord,ls) (cs.take i)).1 (cs.getD i cx0).a)+1))/\(((y3n (z3j (ord,ls) (cs.take i)).1 (cs.getD i cx0).a)+1)<(ord.length:Int)))) (.c7 U U U U U U U) ?_ ?_))));refine mv U (gt' U (mv U (gs 20 U (λg0=>?_) (λg0=>?_))));refine gY U (mv U (gY U ?_));replace I:=I.ext q4;exact z2r U I z6h (gY U (lnS U underlying30 (gY U (lt' U (pkt U (rbe U (.c7 U U U U U U U)))))));exact gN U (gN U (gN U (gN U (pkf U (rbe U (.c7 U U U U U U U))))));refine tn (cd U (λc1=>?_) (λc1=>?_));obtain⟨k,hk⟩:∃k:Nat,(k:Int)=((y3n (z3j (ord,ls) (cs.take i)).1 (cs.getD i cx0).a)+1):=⟨(((y3n (z3j (ord,ls) (cs.take i)).1 (cs.getD i cx0).a)+1)).toNat,Int.toNat_of_nonneg oo⟩;have g9:1<=k/\k<ord.length:=by omega
 have b3:z3j (ord,ls) (cs.take (i+1))=(((z3j (ord,ls) (cs.take i)).1.set (k-1) ((z3j (ord,ls) (cs.take i)).1.getD k id0)).set k ((z3j (ord,ls) (cs.take i)).1.getD (k-1) id0),(z3j (ord,ls) (cs.take i)).2++[((y3n (z3j (ord,ls) (cs.take i)).1 (cs.getD i cx0).a)+1)*(cs.getD i cx0).n]):=by
  rw[y6p c9,v1f U oo oo,show (((y3n (z3j (ord,ls) (cs.take i)).1 (cs.getD i cx0).a)+1)).toNat=k by omega];rfl
 refine sq ?_;intro a h;refine z0h (some 17) (λwb w'=>Fr [gO] wb w') z2o ?_;intro w5 q5;have z5:=q5.size;replace I:=I.ext (q4.n1 q5);replace Z:=Z.ext (q4.n1 q5);have hC:Fr [gO] w5 w5:=Fr.refl _ _;have a3:=I;have d4:=Z;refine z6f 0 hC h wn U (λ_ hw=>a3.fr hw (λk_=>b6 (List.mem_singleton.1 k_))) z6h U U λa h=>z0e 1 h U λa h=>z2v 2 h U (by first|exact i6 oo|rfl) U λa h=>z6f 3 hC h wn U (λ_ hw=>a3.fr hw (λk_=>b6 (List.mem_singleton.1 k_))) z6h U U λa h=>z0e 4 h U λa h=>z6f 5 hC h wn U (λ_ hw=>a3.fr hw (λk_=>b6 (List.mem_singleton.1 k_))) z6h U U λa h=>z0e 6 h U λa h=>z1e (p:=k) (id0) 7 h U Z.sl U z3x U λf1 d1 a h=>z6f 9 hC h wn U (λ_ hw=>a3.fr hw (λk_=>b6 (List.mem_singleton.1 k_))) z6h U U λa h=>z0e 10 h U λa h=>z2v 11 h U (by first|exact i6 oo|rfl) U λa h=>z1e (p:=(k-1)) (id0) 12 h U Z.sl U z3x U λf2 d3 a h=>z1u 8 13 kr U ?_ ?_;refine z1p h U (d1 _ Z.sl) z2q U λa h=>z0b (z0d 13 U (z1p h U (d3 _ Z.sl) z2q U λa h=>?_));refine z0b (z1m 14 kr kr kr hC (p:=(k-1)) h wn U z3x oo oo oo U U λa h=>z0d 15 U (z0z (i:=(k-1)) (((z3j (ord,ls) (cs.take i)).1.getD k id0)) h U Z oo U z5y λw6 a1 q6 _hz a h=>?_));have z6:=q6.size;replace I:=I.fr q6;replace hC:=hC.sp q6;clear _hz Z;have Z:=a1;clear a1;refine z0b (z1m 16 kr kr kr hC (p:=k) h wn U z3x oo oo oo U U λa h=>z0d 17 U (z0z (i:=k) (((z3j (ord,ls) (cs.take i)).1.getD (k-1) id0)) h U Z (by rw[List.length_set];omega) U z5y λw7 a1 q7 _hz a h=>?_));have z7:=q7.size;replace I:=I.fr q7;clear _hz Z;have Z:=a1;clear a1;refine z1n (z0r ?_);clear hC a3 d4;refine bk (h.sub (L':=[(1,_),(2,_),(5,_),(6,_),(7,_),(8,_),(9,_)]) (.c7 U U U U U U U)) (tn (rg ?_));replace M:=((((M.ext q2).fr q3).ext (q4.n1 q5)).fr q6).fr q7;refine z2r U M u8v (mv U (fad U x3k ?_));replace a4:=((a4.ext (q4.n1 q5)).fr q6).fr q7;refine z0i U a4 U na3 (y4k U U (wi6 oo) (z1g ([((y3n (z3j (ord,ls) (cs.take i)).1 (cs.getD i cx0).a)+1)*(cs.getD i cx0).n]) (ev1 U) U z9t (λe5 w8 e0 d0 q8 z8=>?_)));replace M:=M.ext q8;replace I:=I.ext q8;replace Z:=Z.ext q8;replace O:=(((((O.ext q2).fr q3 (by intro k hk D;rw[List.mem_singleton.1 hk]at D;first|exact a5 D|exact a6 D|(have:=(O.blk _ D).2;omega))).ext (q4.n1 q5)).fr q6 (by intro k hk D;rw[List.mem_singleton.1 hk]at D;first|exact a5 D|exact a6 D|(have:=(O.blk _ D).2;omega))).fr q7 (by intro k hk D;rw[List.mem_singleton.1 hk]at D;first|exact a5 D|exact a6 D|(have:=(O.blk _ D).2;omega))).ext q8;replace hl:=(((((hl.ext q2).fr q3 (by intro k hk D;rw[List.mem_singleton.1 hk]at D;first|exact a8 D|exact a7 D|exact a2 D|(have:=(hl.blk _ D).2;omega))).ext (q4.n1 q5)).fr q6 (by intro k hk D;rw[List.mem_singleton.1 hk]at D;first|exact a8 D|exact a7 D|exact a2 D|(have:=(hl.blk _ D).2;omega))).fr q7 (by intro k hk D;rw[List.mem_singleton.1 hk]at D;first|exact a8 D|exact a7 D|exact a2 D|(have:=(hl.blk _ D).2;omega))).ext q8;have a0:=hl;refine z1z U hl d0.sl z9t (λe9 w9 hl q9 d5=>?_);obtain⟨e3,e4,rfl,d9⟩:=hl.sl.form;have z9:=q9.size;replace M:=M.fr q9 (λhk=>a0.neB M dd hk);replace I:=I.fr q9 (λhk=>a0.neB I dd hk);replace Z:=Z.fr q9 (λk_ b1 b2=>(Own.neO a0 Z dd) k_ b1 b2);replace O:=O.fr q9 (λk_ b1 b2=>(Own.neO a0 O dd) k_ b1 b2);have a2:=Own.neB hl M dd;refine z3u U U M U sz22 (λh5 M b7 i1=>(kpL [(1,_),(2,_),(7,_),(8,_),(9,_)] (.c5 U U U U U) (nl (bn' (tn (rg (z0x U (wi6 oo) (mv U (nl ?_)))))))));replace I:=I.fr b7;replace Z:=Z.fr b7 (by first|exact z8h Z oo|simp[z0v]<;>omega);replace hl:=hl.fr b7 (by intro k hk D;rw[List.mem_singleton.1 hk]at D;first|exact a8 D|exact a7 D|exact a2 D|(have:=(hl.blk _ D).2;omega));replace O:=O.fr b7 (by intro k hk D;rw[List.mem_singleton.1 hk]at D;first|exact a5 D|exact a6 D|(have:=(O.blk _ D).2;omega));exact lpE ((i+1,_)) (.c5 U U U U U) ⟨((((q1.z6 q2 q3 q4 q5 q6 q7).n1 q8).step q9 (λk hk c9=>absurd (a0.blk k hk).1 oo)).z1 b7),⟨sm,I,by rw[b3];exact Z,M,by rw[b3];exact hl,b9.trans (KpW.trans (KpW.trans (KpW.trans (KpW.trans (KpW.trans (KpW.fr (q2.z3 q3 q4 q5)) (KpW.one q6 sp0)) (KpW.one q7 sp0)) (KpW.fr q8)) (KpW.app q9 a0)) (KpW.one b7 sp0)),O⟩⟩ sm;refine z1p h U (d3 _ Z.sl) z2q U λa h=>z0b (z0d 8 U (z1p h U (d1 _ Z.sl) z2q U λa h=>?_));refine z0b (z1m 14 kr kr kr hC (p:=(k-1)) h wn U z3x oo oo oo U U λa h=>z0d 15 U (z0z (i:=(k-1)) (((z3j (ord,ls) (cs.take i)).1.getD k id0)) h U Z oo U z5y λh6 a1 a9 _hz a h=>?_));have i2:=a9.size;replace I:=I.fr a9;replace hC:=hC.sp a9;clear _hz Z;have Z:=a1;clear a1;refine z0b (z1m 16 kr kr kr hC (p:=k) h wn U z3x oo oo oo U U λa h=>z0d 17 U (z0z (i:=k) (((z3j (ord,ls) (cs.take i)).1.getD (k-1) id0)) h U Z (by rw[List.length_set];omega) U z5y λh7 a1 b0 _hz a h=>?_));have i3:=b0.size;replace I:=I.fr b0;clear _hz Z;have Z:=a1;clear a1;refine z1n (z0r ?_);clear hC a3 d4;refine bk (h.sub (L':=[(1,_),(2,_),(5,_),(6,_),(7,_),(8,_),(9,_)]) (.c7 U U U U U U U)) (tn (rg ?_));replace M:=((((M.ext q2).fr q3).ext (q4.n1 q5)).fr a9).fr b0;refine z2r U M u8v (mv U (fad U x3k ?_));replace a4:=((a4.ext (q4.n1 q5)).fr a9).fr b0;refine z0i U a4 U na3 (y4k U U (wi6 oo) (z1g ([((y3n (z3j (ord,ls) (cs.take i)).1 (cs.getD i cx0).a)+1)*(cs.getD i cx0).n]) (ev1 U) U z9t (λe5 h8 e0 d0 b4 i4=>?_)));replace M:=M.ext b4;replace I:=I.ext b4;replace Z:=Z.ext b4;replace O:=(((((O.ext q2).fr q3 (by intro k hk D;rw[List.mem_singleton.1 hk]at D;first|exact a5 D|exact a6 D|(have:=(O.blk _ D).2;omega))).ext (q4.n1 q5)).fr a9 (by intro k hk D;rw[List.mem_singleton.1 hk]at D;first|exact a5 D|exact a6 D|(have:=(O.blk _ D).2;omega))).fr b0 (by intro k hk D;rw[List.mem_singleton.1 hk]at D;first|exact a5 D|exact a6 D|(have:=(O.blk _ D).2;omega))).ext b4;replace hl:=(((((hl.ext q2).fr q3 (by intro k hk D;rw[List.mem_singleton.1 hk]at D;first|exact a8 D|exact a7 D|exact a2 D|(have:=(hl.blk _ D).2;omega))).ext (q4.n1 q5)).fr a9 (by intro k hk D;rw[List.mem_singleton.1 hk]at D;first|exact a8 D|exact a7 D|exact a2 D|(have:=(hl.blk _ D).2;omega))).fr b0 (by intro k hk D;rw[List.mem_singleton.1 hk]at D;first|exact a8 D|exact a7 D|exact a2 D|(have:=(hl.blk _ D).2;omega))).ext b4;have a0:=hl;refine z1z U hl d0.sl z9t (λe9 h9 hl b5 d5=>?_);obtain⟨e3,e4,rfl,d9⟩:=hl.sl.form;have i5:=b5.size;replace M:=M.fr b5 (λhk=>a0.neB M dd hk);replace I:=I.fr b5 (λhk=>a0.neB I dd hk);replace Z:=Z.fr b5 (λk_ b1 b2=>(Own.neO a0 Z dd) k_ b1 b2);replace O:=O.fr b5 (λk_ b1 b2=>(Own.neO a0 O dd) k_ b1 b2);have a2:=Own.neB hl M dd;refine z3u U U M U sz22 (λi0 M b8 i7=>(kpL [(1,_),(2,_),(7,_),(8,_),(9,_)] (.c5 U U U U U) (nl (bn' (tn (rg (z0x U (wi6 oo) (mv U (nl ?_)))))))));replace I:=I.fr b8;replace Z:=Z.fr b8 (by first|exact z8h Z oo|simp[z0v]<;>omega);replace hl:=hl.fr b8 (by intro k hk D;rw[List.mem_singleton.1 hk]at D;first|exact a8 D|exact a7 D|exact a2 D|(have:=(hl.blk _ D).2;omega));replace O:=O.fr b8 (by intro k hk D;rw[List.mem_singleton.1 hk]at D;first|exact a5 D|exact a6 D|(have:=(O.blk _ D).2;omega));exact lpE ((i+1,_)) (.c5 U U U U U) ⟨((((q1.z6 q2 q3 q4 q5 a9 b0).n1 b4).step b5 (λk hk c9=>absurd (a0.blk k hk).1 oo)).z1 b8),⟨sm,I,by rw[b3];exact Z,M,by rw[b3];exact hl,b9.trans (KpW.trans (KpW.trans (KpW.trans (KpW.trans (KpW.trans (KpW.fr (q2.z3 q3 q4 q5)) (KpW.one a9 sp0)) (KpW.one b0 sp0)) (KpW.fr b4)) (KpW.app b5 a0)) (KpW.one b8 sp0)),O⟩⟩ sm;have b3:z3j (ord,ls) (cs.take (i+1))=(z3j (ord,ls) (cs.take i)):=by rw[y6p c9,v9k U oo]
 refine sk (bn' (tn (rg (z0x U (wi6 oo) (mv U (nl ?_))))));replace I:=I.ext q4;replace Z:=Z.ext q4;replace M:=((M.ext q2).fr q3).ext q4;replace hl:=((hl.ext q2).fr q3 (by intro k hk D;rw[List.mem_singleton.1 hk]at D;first|exact a8 D|exact a7 D|exact a2 D|(have:=(hl.blk _ D).2;omega))).ext q4;replace O:=((O.ext q2).fr q3 (by intro k hk D;rw[List.mem_singleton.1 hk]at D;first|exact a5 D|exact a6 D|(have:=(O.blk _ D).2;omega))).ext q4;exact lpE ((i+1,_)) (.c5 U U U U U) ⟨(q1.z3 q2 q3 q4),⟨sm,I,by rw[b3];exact Z,M,by rw[b3];exact hl,b9.trans (KpW.fr (q2.z2 q3 q4)),O⟩⟩ sm;obtain rfl:i=cs.length:=by omega
 rw[List.take_length]at Z hl;exact ex (te (te (xh (r0n results57  ⟨_,rfl,rfl,⟨_,I,Z,M,hl⟩,b9,q1⟩))))
theorem y7y:z1c prog 134 0 0:=λ_ _=>kr
theorem z9y:z1c prog 134 1 2:=λ_ _=>kr
theorem x9s:z1c prog 134 2 3:=λ_ _=>kr
theorem j2a:z1y prog 132:=λ_=>kr
theorem v6u (wS:World)(O:WdA)(q:BdQ)(rk:Int)(st:G26.St)(ro:Int)(w0:World)(I:WdM τp (tvW O) wS O w0 q rk st)(hv:BdOk q.p)(a5:StT wS)(hr:-4<=rk/\rk<=4)(ht:-4<=ro/\ro<=4)(b3:st.1.length<=1000)(b4:st.2.length<=64):Rets prog 59 #[.pointer (some ⟨O.gf,0,none⟩),.int .i64 ro] w0 λr w'=>r=.tuple #[]/\WdM τp (tvW O) wS O w' q ro (z9v q.p rk ro st):=by
 refine we [(0,.pointer (some ⟨O.gf,0,none⟩)),(1,.int .i64 ro)] func59 U ntmps59 U (.c2 U U) ?_;have a1:=I;refine bl (lpK (ι:=Nat) [(0,_),(1,_)] (λn=>[]) (λn w'=>∃(D:Int) (M:G26.St),(z9v q.p rk ro st=z9v q.p D ro M/\(-4<=D/\D<=4)/\-(n:Int)<=ro-D/\ro-D<=n/\M.1.length=st.1.length/\M.2.length+640*n<=5184)/\WdM τp (tvW O) wS O w' q D M) (λn=>n) 8 (.c2 U U) ⟨rk,st,⟨rfl,hr,oo,oo,rfl,oo⟩,I⟩ ?_);rintro n w1 ⟨D,M,⟨a4,a8,b0,b1,a9,b5⟩,I⟩;have a1:=I;refine kpC [(0,_),(1,_)] (.c2 U U) ?_;have Z:=I.f;refine sq (sr (mv U (nlc U (fad U z9y (z0i U Z U na3 (mv U (ne' U (nn (cd U (λc0=>?_) (λc0=>?_))))))))));have a7:D≠ro:=c0;have b6:=(z8x (z3d q.p D (if ro<D then (0:Int) else 1)) M).2;have b7:=y5c hv D (if ro<D then (0:Int) else 1);have b8:-1<=stI (if ro<D then (0:Int) else 1)/\stI (if ro<D then (0:Int) else 1)<=1:=by unfold stI;split<;>simp
 refine sk (tn (bl (sr (asg U (asg U (nn (jn (ι:=Unit) [(0,_),(1,_)] (λ_j=>[(4,.int .u8 (if ro<D then (0:Int) else 1)),(5,.int .i64 (stI (if ro<D then (0:Int) else 1)))]) (λ_j w'=>Fr [] w1 w') (.c2 U U) ?_ ?_)))))));refine sr (mv U (mv U (nlc U (fad U z9y (z0i U Z U na3 (lt' U (nn (cd U (λc1=>?_) (λc1=>?_)))))))));refine rg (asg U (asg U (nl ?_)));exact jE (()) (.c4 U U (congrArg (λz=>some (Value.int .u8 z)) (by first|exact(if_pos c1).symm|exact(if_neg c1).symm)) (congrArg (λz=>some (Value.int .i64 z)) (by first|(rw[show (if ro<D then (0:Int) else 1)=0 from if_pos c1];rfl)|(rw[show (if ro<D then (0:Int) else 1)=1 from if_neg c1];rfl)))) (Fr.refl _ _);refine sk ?_;exact jE (()) (.c4 U U (congrArg (λz=>some (Value.int .u8 z)) (by first|exact(if_pos c1).symm|exact(if_neg c1).symm)) (congrArg (λz=>some (Value.int .i64 z)) (by first|(rw[show (if ro<D then (0:Int) else 1)=0 from if_pos c1];rfl)|(rw[show (if ro<D then (0:Int) else 1)=1 from if_neg c1];rfl)))) (Fr.refl _ _);rintro _j w2 q2;have z2:=q2.size;refine kpC [(0,_),(1,_),(4,_),(5,_)] (.c4 U U U U) (sq ?_);replace I:=a1.ext q2;intro a h;refine z0h none (λwb w'=>Fr [] wb w') z2o ?_;intro w3 q3;have z3:=q3.size;replace I:=I.ext q3;replace Z:=Z.ext (q2.n1 q3);have hC:Fr [] w3 w3:=Fr.refl _ _;have a2:=I;have a0:=Z;refine z0e 0 h U λa h=>z0o 1 h U λa h=>z0c 2 h U y7y U λa h=>z1f (vs:=[_,_]) 3 h U (λ_ hw=>(a0.ext hw)) z4x U U λa h=>z0e 4 h U λa h=>z0o 5 h U λa h=>z0c 6 h U z9y U λa h=>z0l 7 h U (λ_ hw=>a0.ext hw) U na3 U λa h=>z0e 8 h U λa h=>z0d 9 U ?_;refine z0n h (z0a U (z0a U (z0a U z0g))) (mkC func36) (v0i q D (if ro<D then (0:Int) else 1) _ I.bat hv (a5.ext I.fr) a8 (by split<;>simp) (by unfold stI;split<;>split at *<;>omega)) ?_;rintro _ w4 ⟨⟨gx,rfl,b2,hX⟩,q4⟩ a h;have z4:=q4.size;replace I:=I.ext q4;replace Z:=Z.ext q4;replace hC:=hC.next q4;refine z0b (z0e 10 h U λa h=>z0k 11 h U λa h=>z0k 12 h U λa h=>z0d 13 U (z0t h U λa h=>?_));refine z0b (z0d 14 U (z0t h U λa h=>?_));refine z0b (z0r ?_);clear hC a2 a0;refine bk (h.sub (L':=[(0,_),(1,_),(5,_),(6,_)]) (.c4 U U U U)) (tn (sr (mv U (nlc U (fad U x9s (z0i U Z U j2a (mv U ?_)))))));obtain⟨lv,a3,hl⟩:=I.l;refine clv (us:=[]) (ws:=[.pointer (some ⟨O.go,0,none⟩),.pointer (some ⟨O.gl,0,none⟩)]) U (ev1 U) (mkC func57) (u6j O.go O.gl O.gO wS.heap.size lv _ M.1 M.2 (z3d q.p D (if ro<D then (0:Int) else 1)) wS _ I.fr I.gs.2.1 I.gs.2.2 (Nat.le_refl _) I.o I.od a3 hl (hX.low (Nat.zero_le _)) oo oo u9f) U (by intro g e;cases e) ?_;rintro _ w5 ⟨rfl,⟨b9,k1,k2,k3,k4⟩,kk,kf⟩;have hT:=(z8x (z3d q.p D (if ro<D then (0:Int) else 1)) M).1;replace I:=I.tell τpk (o:=(z3j M (z3d q.p D (if ro<D then (0:Int) else 1))).1) (ls:=(z3j M (z3d q.p D (if ro<D then (0:Int) else 1))).2) kk (by rw[hT];exact k1) (by rw[hT];exact k2) k3 k4 kf;have a1:=I;have Z:=I.f;clear a3 hl k1 k2 k3 k4 kk;refine kpL [(0,_),(1,_),(5,_)] (.c3 U U U) (nn (rg (mv U (nlc U (fad U z9y (z0i U Z U na3 (mv U (z0x U (wi6 oo) (nlc U (fad U z9y (z3l U Z U sz3 (λw6 a6 q6 z6=>?_))))))))))));replace I:=I.rack τpk (r:=D+stI (if ro<D then (0:Int) else 1)) a6 q6;have a1:=I;refine kpL [(0,_),(1,_)] (.c2 U U) (nl (bn' ?_));exact lpE ((n-1)) (.c2 U U) ⟨D+stI (if ro<D then (0:Int) else 1),z3j M (z3d q.p D (if ro<D then (0:Int) else 1)),⟨by rw[a4,x7s a7],by unfold stI;split<;>split at *<;>omega,by unfold stI;split<;>split at *<;>omega,by unfold stI;split<;>split at *<;>omega,hT.trans a9,oo⟩,I⟩ oo;refine ex (te (te (xh (r0n results59  ?_))));obtain rfl:D=ro:=by omega
 exact⟨_,rfl,rfl,by rw[a4,v8t];exact I⟩
theorem v8h (wS:World)(ka:WdA)(q:BdQ)(rk:Int)(st:G26.St)(b p:Int)(n m:Nat)(w0:World)(hW:WdM τp (tvW ka) wS ka w0 q rk st)(hv:BdOk q.p)(a9:p=(n:Int))(b1:z5q b p rk=(m:Int))(hn:z4g b p=0)(hm:z4g (1-b) (z5q b p rk)=0)(c9:(q.p.at b p)≠[])(h4:(q.p.at b p).length+(q.p.at (1-b) (z5q b p rk)).length<=4)(hr:-4<=rk/\rk<=4):Rets prog 60 #[.pointer (some ⟨ka.gf,0,none⟩),.agg #[.int .u8 b,.int .i64 p]] w0 λr w'=>r=.tuple #[]/\∃q':BdQ,WdM τp (tvW ka) wS ka w' q' rk st/\q'.p=(q.p.put b p []).put (1-b) (z5q b p rk) (y0y q.p b p (z5q b p rk)):=by
 have e0:=z3a hn;have Z:=hW.f;have d9:=Z.lt;have b3:=hW.lts;refine we [(0,.pointer (some ⟨ka.gf,0,none⟩)),(1,.agg #[.int .u8 b,.int .i64 p])] func60 U ntmps60 U (.c2 U U) ?_;have b4:=hW;refine sr (bx U (λg3 w1 d7 D q1 z1=>(nn (sq ?_))));intro a h;refine z0h none (λwb w'=>Fr [] wb w') z2o ?_;intro w2 q2;have z2:=q2.size;replace Z:=Z.ext (q1.n1 q2);replace D:=D.ext q2;have hC:Fr [] w2 w2:=Fr.refl _ _;have a0:=Z;have M:=D;refine z0c 0 h U z5v U λa h=>z0l 1 h U (λ_ hw=>M.ext hw) U na3 U λa h=>z0e 2 h U λa h=>z0o 3 h U λa h=>z0c 4 h U z9y U λa h=>z0l 5 h U (λ_ hw=>a0.ext hw) U na3 U λa h=>z2v 6 h U (by first|exact i6 oo|rfl) U λa h=>z2u (cs:=[_,_]) 7 h (z0a U (z0a U z0g)) y4d (z0f U (z0f U z0q)) U U λa h=>z0d 8 U ?_;refine z0u h v4k U λw3 I q3 hz a h=>?_;obtain⟨a1,hg⟩:∃g,g=w2.heap.size:=⟨_,rfl⟩;rw[<-hg]at I h hz;have b9.gf_4:ka.gf<a1:=by have:=Z.lt;omega
 have d1:g3<a1:=by have:=D.lt;omega
 have z3:=q3.size;replace Z:=Z.ext q3;replace D:=D.ext q3;replace hC:=hC.next q3;refine z0b (z0d 9 U (z0p h U I U y5s λw4 a3 q4 hz a h=>?_));have z4:=q4.size;replace Z:=Z.fr q4;replace D:=D.fr q4;replace hC:=hC.sp q4;clear I hz;have I:Blk w4 a1 _ [_,_]:=a3;clear a3;refine z0b (z0r ?_);clear hC a0 M;refine bk (h.sub (L':=[(0,_),(3,_),(4,_)]) (.c3 U U U)) (tn (jn (ι:=Unit) [(0,_),(3,_),(4,_)] (λu_=>[]) (λu_ w'=>Fr [a1] w4 w'/\Blk w' a1 42 [.int .u8 (1-b),.int .i64 (z5q b p rk)]) (.c3 U U U) ?_ ?_));refine sr (fad U z5w (z0i U D U x2g (eq' U (nn (cd U (λc0=>?_) (λc0=>?_))))));intro a h;refine z0h (some 8) (λwb w'=>Fr [a1] wb w') z2o ?_;intro w5 q5;have z5:=q5.size;replace Z:=Z.ext q5;replace D:=D.ext q5;replace I:=I.ext q5;have hC:Fr [a1] w5 w5:=Fr.refl _ _;have a0:=Z;have M:=D;have a2:=I;refine z0c 0 h U z5v U λa h=>z0l 1 h U (λ_ hw=>M.fr hw (λk_=>by simp at k_;omega)) U na3 U λa h=>z0e 2 h U λa h=>z0o 3 h U λa h=>z0c 4 h U z9y U λa h=>z0l 5 h U (λ_ hw=>a0.fr hw (λk_=>by simp at k_;omega)) U na3 U λa h=>z5n 6 h U (by first|exact i6 oo|rfl) U λa h=>z2u (cs:=[_,_]) 7 h (z0a U (z0a U z0g)) y4d (z0f U (z0f U z0q)) U U λa h=>z0d 8 U ?_;refine z0p h U I U y5s λw6 a3 q6 hz a h=>?_;have z6:=q6.size;replace Z:=Z.fr q6;replace D:=D.fr q6;clear I hz;have I:Blk w6 a1 _ [_,_]:=a3;clear a3;refine z1n (z0r ?_);clear hC a0 M a2;exact bk (h.sub (L':=[(0,_),(3,_),(4,_)]) (.c3 U U U)) (jE (()) (.c3 U U U) ⟨((Fr.refl [a1] _).z2 q5 q6),by rw[show (1:Int)-b=0 by omega,show z5q b p rk=p+rk from if_pos c0];exact I⟩);exact sk (jE (()) (.c3 U U U) ⟨(Fr.refl _ _),by rw[show (1:Int)-b=1 by omega,show z5q b p rk=p-rk from if_neg c0];exact I⟩);rintro _u w7 ⟨q7,I⟩;have z7:=q7.size;have d0:=I.lt;refine kpC [(0,_),(3,_),(4,_)] (.c3 U U U) (sq ?_);replace hW:=b4.ext (q1.z4 q2 q3 q4 q7);replace Z:=Z.fr q7;replace D:=D.fr q7;intro a h;refine z0h none (λwb w'=>Fr [] wb w') z2o ?_;intro w8 q8;have z8:=q8.size;replace hW:=hW.ext q8;replace Z:=Z.ext q8;replace D:=D.ext q8;replace I:=I.ext q8;have hC:Fr [] w8 w8:=Fr.refl _ _;have b2:=hW;have a0:=Z;have M:=D;have a2:=I;refine z0e 0 h U λa h=>z0o 1 h U λa h=>z0c 2 h U y7y U λa h=>z1f (vs:=[_,_]) 3 h U (λ_ hw=>(a0.ext hw)) z4x U U λa h=>z0w 4 h U (λ_ hw=>M.ext hw) z5r U λa h=>z0w 5 h U (λ_ hw=>a2.ext hw) z5r U λa h=>z1u 6 10 kr U ?_ ?_;refine z0n h (z0a U (z0a U (z0a U z0g))) (mkC func124) (by have x:=y8v q b n m _ hW.bat hv (by rw[<-a9];exact hn) (by rw[<-b1];exact hm) (by rw[<-a9];exact c9);rw[<-a9,<-b1]at x;exact x) ?_;rintro _ w9 ⟨⟨q',rfl,b5⟩,q9⟩ a h;have z9:=q9.size;replace Z:=Z.ext q9;replace D:=D.ext q9;replace I:=I.ext q9;replace hC:=hC.next q9;rw[if_neg oo]at h;obtain⟨hQ,b8⟩:=b5 oo;refine z0b (z0e 7 h U λa h=>z0k 8 h U λa h=>z0k 9 h U λa h=>z0d 10 U (z0u h x2z U λe1 O a5 hz a h=>?_));obtain⟨a4,hg⟩:∃g,g=w9.heap.size:=⟨_,rfl⟩;rw[<-hg]at O h hz;have b9.gf_5:ka.gf<a4:=by have:=Z.lt;omega
 have b7:g3<a4:=by have:=D.lt;omega
 have b0:a1<a4:=by have:=I.lt;omega
 have e6:=a5.size;replace hW:=hW.ext (q9.n1 a5);replace Z:=Z.ext a5;replace D:=D.ext a5;replace I:=I.ext a5;first|replace hQ:=BdO.ext hQ a5|replace hQ:=BdO.tf hQ a5 (OffT.one O dd) (OffT.one O dd)
 replace hC:=hC.next a5;refine z0b (z0d 11 U (z0p h U O U y7s λd5 a3 a6 hz a h=>?_));have e7:=a6.size;replace Z:=Z.fr a6;replace D:=D.fr a6;replace I:=I.fr a6;first|replace hQ:=BdO.ext hQ a6|replace hQ:=BdO.tf hQ a6 (OffT.one O dd) (OffT.one O dd)
 replace hC:=hC.sp a6;clear O hz;have O:Blk d5 a4 _ [_,_]:=a3;clear a3;refine z0b (z0d 12 U (z0t h U λa h=>?_));refine z0b (z0r ?_);clear hC b2 a0 M a2;refine bk (h.sub (L':=[(0,_),(5,_),(6,_)]) (.c3 U U U)) (tn (sr (mv U (eq' U (nn (cd U (λc1=>?_) (λc1=>?_)))))));refine rg (mv U (z0m U O z4x (nlc U (fad U y7y ?_))));replace hW:=b4.ext (((q1.z6 q2 q3 q4 q7 q8 q9).n1 a5).z1 a6);refine z4p (cs':=bdL q'++[.int .i64 rk,tvW ka]) U U Z (by intro u hu;simp at hu;rcases hu with rfl|rfl<;>rfl) y7s U (λe2 b6 d3 e8=>?_);replace hW:=hW.put τpk b3 (hQ.low oo) b6 d3;exact kpL [] .nil (nl (r0n results60  ⟨_,rfl,rfl,q',hW,b8⟩));exact absurd U c1;refine z0u h x2z U λe3 O a8 hz a h=>?_;obtain⟨a4,hg⟩:∃g,g=w8.heap.size:=⟨_,rfl⟩;rw[<-hg]at O h hz;have b9.gf_5:ka.gf<a4:=by have:=Z.lt;omega
 have b7:g3<a4:=by have:=D.lt;omega
 have b0:a1<a4:=by have:=I.lt;omega
 have e9:=a8.size;replace hW:=hW.ext a8;replace hC:=hC.next a8;refine z0b (z0d 6 U (z0n h (z0a U (z0a U (z0a U z0g))) (mkC func124) (by have x:=y8v q b n m _ hW.bat hv (by rw[<-a9];exact hn) (by rw[<-b1];exact hm) (by rw[<-a9];exact c9);rw[<-a9,<-b1]at x;exact x) ?_));rintro _ e4 ⟨⟨q',rfl,b5⟩,q14⟩ a h;have f0:=q14.size;replace hW:=hW.ext q14;replace Z:=Z.ext (a8.n1 q14);replace D:=D.ext (a8.n1 q14);replace I:=I.ext (a8.n1 q14);replace O:=O.ext q14;replace hC:=hC.next q14;rw[if_neg oo]at h;obtain⟨hQ,b8⟩:=b5 oo;refine z0b (z0e 7 h U λa h=>z0k 8 h U λa h=>z0k 9 h U λa h=>z0d 11 U (z0p h U O U y7s λd6 a3 a7 hz a h=>?_));have f1:=a7.size;replace Z:=Z.fr a7;replace D:=D.fr a7;replace I:=I.fr a7;first|replace hQ:=BdO.ext hQ a7|replace hQ:=BdO.tf hQ a7 (OffT.one O dd) (OffT.one O dd)
 replace hC:=hC.sp a7;clear O hz;have O:Blk d6 a4 _ [_,_]:=a3;clear a3;refine z0b (z0d 12 U (z0t h U λa h=>?_));refine z0b (z0r ?_);clear hC b2 a0 M a2;refine bk (h.sub (L':=[(0,_),(5,_),(6,_)]) (.c3 U U U)) (tn (sr (mv U (eq' U (nn (cd U (λc1=>?_) (λc1=>?_)))))));refine rg (mv U (z0m U O z4x (nlc U (fad U y7y ?_))));replace hW:=b4.ext (((q1.z6 q2 q3 q4 q7 q8 a8).n1 q14).z1 a7);refine z4p (cs':=bdL q'++[.int .i64 rk,tvW ka]) U U Z (by intro u hu;simp at hu;rcases hu with rfl|rfl<;>rfl) y7s U (λe5 b6 d4 f2=>?_);replace hW:=hW.put τpk b3 (hQ.low oo) b6 d4;exact kpL [] .nil (nl (r0n results60  ⟨_,rfl,rfl,q',hW,b8⟩));exact absurd U c1
end Go.Proofs.YtlfdhllfmoplgaaGreatDoor
namespace Go.G08
open Go.Lw Go.G21
end Go.G08
namespace Go.G08
open Go.Lw Go.G21
end Go.G08
namespace Go.G08
open Go.Lw Go.G21
end Go.G08
namespace Go.G08
open Go.Lw Go.G21
end Go.G08
namespace Go.G08
open Go.Lw Go.G21
end Go.G08
namespace Go.G09
open Go.Lw Go.G21 Go.G08
structure Hz where
  o:Int
  k:Int
  id:LId
deriving DecidableEq
def isMk (o:MOp):Prop:=o.k=4\/o.k=5
instance (o:MOp):Decidable (isMk o):=inferInstanceAs (Decidable (_\/_))
def isYn (o:MOp):Prop:=o.k=1\/o.k=2\/o.k=6
instance (o:MOp):Decidable (isYn o):=inferInstanceAs (Decidable (_\/_))
end Go.G09
namespace Go.G08
open Go.Lw Go.G21
theorem u3k {p q:MSt}{d:Int}(e:z9l p d=.ok q):q.rk=p.rk+stI d:=by
 unfold z9l at e;split at e;cases e;split at e;cases e;cases e;rfl
end Go.G08
namespace Go.G09
open Go.Lw Go.G21 Go.G08
def k3 (l:List Hz):List Hz:=l.filter λh=>decide (h.k<=3)
def ctL (p:MSt):List Int:=p.ys.map Yn.ct
theorem x4g {p:MSt}{d:Int}:∀ {l l':List Yn},z4y p d l=.ok l'->l'.map Yn.ct=l.map Yn.ct
 | [],l',h=>by cases h;rfl
 | y::l,l',h=>by
  unfold z4y at h
  split at h
  ·cases h
  rename_i M D
  split at h
  ·cases h
  rename_i I hl
  cases h
  rw[List.map_cons,List.map_cons,x4g hl,(x6m D).2]
theorem v3g {r:Int}:∀ {n:Nat} {p q:MSt},z5t n p r=.ok q->ctL q=ctL p
 | 0,p,q,e=>by cases e;rfl
 | n+1,p,q,e=>by
  unfold z5t at e
  split at e
  ·cases e;rfl
  split at e
  ·cases e
  rename_i M D
  refine(v3g e).trans ?_
  unfold z9l at D
  split at D
  ·cases D
  rename_i ys I
  split at D
  ·cases D
  cases D;exact x4g I
theorem v9v {p q:MSt}{o:MOp}(e:doM p o=.ok q):y5k o=0/\opM p o=.ok q:=by
 unfold doM at e;split at e;cases e;rename_i h;exact⟨Decidable.not_not.1 h,e⟩
theorem u5h {p q:MSt}{o:MOp}(hr:-4<=p.rk/\p.rk<=4)(e:doM p o=.ok q)(I:o.k=3):q.rk=o.r/\q.B=p.B/\ctL q=ctL p:=by
 obtain⟨O,e⟩:=v9v e;have Z:=(z7c O).2.2.2.2.2 I;unfold opM at e;rw[if_neg oo,if_neg oo,if_pos I]at e;have D:∀ {k:Nat} {p q:MSt},(p.rk-o.r<=k/\o.r-p.rk<=k)->z5t k p o.r=.ok q->q.rk=o.r:=by
  intro k;induction k with
  | zero=>intro p q h e;cases e;omega
  | succ k ih=>
   intro p q h e;unfold z5t at e;by_cases e0:p.rk=o.r;rw[if_pos e0]at e;cases e;exact e0;rw[if_neg e0]at e;split at e;cases e;rename_i p1 M;refine ih ?_ e;rw[u3k M];unfold stI;split;rw[if_pos U];omega;rw[if_neg dd];omega
 exact⟨D (k:=8) oo e,x2w e,v3g e⟩
theorem u3c {p q:MSt}{o:MOp}(e:doM p o=.ok q)(Z:o.k=7):q.rk=p.rk/\ctL q=ctL p/\p.B.at o.b o.p≠[]/\z4g (1-o.b) (z5q o.b o.p p.rk)=0/\(p.B.at o.b o.p).length+(p.B.at (1-o.b) (z5q o.b o.p p.rk)).length<=4/\q.B=(p.B.put o.b o.p []).put (1-o.b) (z5q o.b o.p p.rk) (y0y p.B o.b o.p (z5q o.b o.p p.rk)):=by
 obtain⟨O,e⟩:=v9v e;obtain⟨D,_,_⟩:=z3a ((z7c O).2.2.2.2.1 oo);unfold opM at e;rw[if_neg oo,if_neg oo,if_neg oo,if_neg oo,if_neg oo,if_neg oo,if_pos Z]at e;unfold z9k at e;split at e;cases e;rename_i I;split at e;cases e;rename_i M;split at e;cases e;split at e;cases e;rename_i h4;cases e;refine⟨rfl,rfl,I,Decidable.not_not.1 M,oo,?_⟩;show (p.B.put o.b o.p []).put _ _ (z9m p o)=_;congr 1;unfold z9m y0y;rcases D with D|D<;>rw[D]
 rw[if_neg dd,if_neg dd];rfl;rw[if_pos U,if_pos U];rfl
theorem x3u {p:MSt}{y a b e:Int}(h:y6e p y a b=.error e):e≠0:=by
 unfold y6e at h;split at h;rename_i D;cases h;exact D;cases h
theorem v1y {p:MSt}{o:MOp}{t s:List LId}{e:Int}(h:x1a p o t s=.error e):e≠0:=by
 unfold x1a at h;split at h;rename_i D;cases h;exact D;split at h;cases h;decide;cases h
theorem x1p {p:MSt}{d e:Int}:∀ {l:List Yn},z4y p d l=.error e->e≠0
 | [],h=>by cases h
 | y::l,h=>by
  unfold z4y at h;split at h
  ·rename_i I D
   cases h
   unfold z8g at D;split at D
   ·cases D
   split at D
   ·rename_i M;cases D;exact M
   cases D
  split at h
  ·rename_i I D
   cases h;exact x1p D
  cases h
theorem x5n {e:Int}:∀ {r l:List Cx},z6a l r=.error e->e≠0
 | [],l,h=>by cases h
 | c::r,l,h=>by
  unfold z6a at h;split at h
  ·rename_i I D
   cases h
   unfold x0x at D
   simp only at D
   generalize (if 0<z6k c.a c.b then (c.b,c.a) else (c.a,c.b))=k at D
   by_cases c1:y5t l k.1 k.2+c.n < -1048576\/1048576<y5t l k.1 k.2+c.n
   ·rw[if_pos c1]at D;cases D;decide
   rw[if_neg c1]at D;split at D<;>cases D
  exact x5n h
theorem x4b {r e:Int}:∀ {n:Nat} {p:MSt},z5t n p r=.error e->e≠0
 | 0,p,h=>by cases h
 | n+1,p,h=>by
  unfold z5t at h;split at h
  ·cases h
  split at h
  ·rename_i O D
   cases h
   unfold z9l at D;split at D
   ·rename_i M I;cases D;exact x1p I
   split at D
   ·rename_i M I;cases D;exact x5n I
   cases D
  exact x4b h
theorem j2v {p:MSt}{o:MOp}{e:Int}(h:doM p o=.error e):e≠0:=by
 unfold doM at h;split at h;rename_i D;cases h;exact D;unfold opM at h;split at h;unfold inM at h;split at h;rename_i D;cases h;exact D;cases h;split at h;unfold x8l at h;split at h;rename_i D;cases h;exact D;cases h;split at h;exact x4b h;split at h;unfold y3a at h;split at h;rename_i D;cases h;exact D;split at h;rename_i M I;cases h;exact x3u I;exact v1y h;split at h;unfold y2d at h;split at h;rename_i D;cases h;exact D;split at h;rename_i M I;cases h;exact x3u I;split at h;cases h;decide;exact v1y h;split at h;unfold y5u at h;split at h;rename_i D;cases h;exact D;exact x3u h;split at h;unfold z9k at h;split at h;cases h;decide;split at h;cases h;decide;split at h;cases h;decide;split at h;cases h;decide;cases h;unfold y4r at h;split at h;cases h;decide;cases h
theorem x6j {e:Int}{n:Nat}:∀ {l:List MOp} {i:Nat} {p:MSt},z4u i p l=.error (e,n)->e≠0
 | [],i,p,h=>by cases h
 | o::l,i,p,h=>by
  unfold z4u at h;split at h
  ·rename_i I D;cases h;exact j2v D
  exact x6j h
end Go.G09
namespace Go.Proofs.YtlfdhllfmoplgaaGreatDoor
open Go.Lw Go.G21 Go.G08 Go.G09 Go.G26 _root_.Go.Proofs.Tryz
theorem j3u:BuildAt prog 134 [(0,2),(2,1),(3,1)] [(.slice none 0 0),(.slice none 0 0),(.int .i64 0),.nilFunc]:=BuildAt.struct underlying134 (λ_=>kr) (λ_=>kr)
theorem j2l:z1t prog 132 1:=λ_=>kr
theorem j2y:z1t prog 134 4:=λ_=>kr
theorem zv22 (w:World):(zeroValue 22).run prog w=.ok (.slice none 0 0) w:=kr
theorem j3n (w:World):(zeroValue 134).run prog w=.ok (.agg #[(.slice none 0 0),(.slice none 0 0),(.int .i64 0),.nilFunc]) w:=kr
theorem v5z (A:Option Addr)(m c:Nat)(w0:World)(D:m<=c):Rets prog 61 #[.slice A m c] w0 λv w'=>v=.slice A m m/\w0=w':=by
 exact we [(0,.slice A m c)] func61 U ntmps61 U (.cons U .nil) (sr (asg U (nn (sr (mv U (mv U (lnS U underlying22 (mv U (lnS U underlying22 (x8n U U U z9t oo oo oo z1j z1j U (asg U (kpL [(2,_)] (.cons U .nil) (nn (rt (r1 results61 U ⟨_,rfl,rfl,rfl⟩)))))))))))))))
theorem v6c {α:Type}{E:Enc α}{T base:Nat}{w:World}{A:Option Addr}{n c:Nat}{ys:List α}(h:Lw.Own E T base w (.slice A n c) ys):n=ys.length/\Lw.Own E T base w (.slice A n n) ys:=by
 rcases h with ⟨e,rfl⟩|⟨g,cap,cur,e,I,M,D,O,Z,h6⟩
 cases e;exact⟨rfl,.inl ⟨rfl,rfl⟩⟩;cases e;exact⟨rfl,.inr ⟨g,ys.length,cur,rfl,I,M,Nat.le_refl _,Nat.le_trans D O,Nat.le_trans (Nat.mul_le_mul_right _ D) Z,h6⟩⟩
theorem u3t (s:StQ)(p q:MSt)(N:Nat)(v:Value)(l:List MOp)(w0:World)(hS:StAt w0 s)(hP:StP s p N)(hv:Sl z3c w0 v l)(g4:StT w0)(g3:isP l=true)(hr:z4u 0 (nrm p) l=.ok q)(l2:l.length<=4096)(h8:p.B.flat.length<=8):Rets prog 25 #[.agg #[.int .i64 s.rk,.slice s.q.f.1 s.q.f.2.1 s.q.f.2.2,.slice s.q.b.1 s.q.b.2.1 s.q.b.2.2,.slice s.yv.1 s.yv.2.1 s.yv.2.2,.slice s.fb.t.1 s.fb.t.2.1 s.fb.t.2.2,.slice s.fb.c.1 s.fb.c.2.1 s.fb.c.2.2,.slice s.fb.h.1 s.fb.h.2.1 s.fb.h.2.2,.slice s.fb.f.1 s.fb.f.2.1 s.fb.f.2.2],v] w0 λr w'=>(∃A ws e,r=.tuple #[.slice A ws.length ws.length,.int .i64 e]/\Lw.Own Enc.i64 3 w0.heap.size w' (.slice A ws.length ws.length) ws/\((y1w (nrm p) l=none/\e=3/\ws=[])\/(y1w (nrm p) l=some ws/\e=0)))/\Fr [] w0 w':=by
 obtain⟨A,c,rfl,k8⟩:=id hv.form;have g1:BdOk s.q.p:=hP.BE▸hP.v.inv.B;have i7:-4<=s.rk/\s.rk<=4:=by rw[hP.rkE];exact hP.v.inv.rk
 have d0:z2t (nrm p).B (nrm p).rk=z2t s.q.p s.rk:=by rw[hP.BE,hP.rkE];rfl
 have e9:(z2t s.q.p s.rk).length<=8:=by rw[(y2i _ _).length_eq,y0z,hP.BE];exact h8
 refine we [(0,.agg #[.int .i64 s.rk,.slice s.q.f.1 s.q.f.2.1 s.q.f.2.2,.slice s.q.b.1 s.q.b.2.1 s.q.b.2.2,.slice s.yv.1 s.yv.2.1 s.yv.2.2,.slice s.fb.t.1 s.fb.t.2.1 s.fb.t.2.2,.slice s.fb.c.1 s.fb.c.2.1 s.fb.c.2.2,.slice s.fb.h.1 s.fb.h.2.1 s.fb.h.2.2,.slice s.fb.f.1 s.fb.f.2.1 s.fb.f.2.2]),(1,.slice A l.length c)] func25 U ntmps25 U (.c2 U U) ?_;have d7:=hS;have i9:=hv;have d9:=g4;refine sr (bx U (λg2 w1 k9 a8 q1 z1=>(asg U (asg U (nn (sr (fad U y0m (z1v (vs:=[_,_]) U a8 z4x U (fad U y6i (z0i U a8 U na3 ?_))))))))));replace hS:=d7.ext q1;refine cl (ev2 U) (mkC func56) (x6g s.q _ _ hS.b g1 i7) U ?_;rintro _ w2 ⟨⟨f9,lh,n,b9,c9,l4,rfl,k1,hH⟩,q2⟩;have z2:=q2.size;have g6:=(hH.blk f9 (by simp[z0v])).2;have l5:n<=8:=by rw[c9,b9];exact e9
 refine mv U (xt U (xt U (asg U (asg U (kpL [(1,_),(2,_),(6,_),(7,_)] (.c4 U U U U) (nn (sq (sq (rbo (r:=29) (L':=[(1,_),(2,_),(6,_),(7,_)]) (((0≠0)\/((n:Int)=0))) (.c4 U U U U) ?_ ?_)))))))));refine mv U (ne' U (mv U (gs 25 U (λg0=>?_) (λg0=>?_))));exact gN U (gN U (gN U (pkt U (rbe U (.c4 U U U U)))));exact gY U (mv U (gY U (lnS U underlying127 (gY U (eq' U (pkf U (rbe U (.c4 U U U U))))))));refine tn (cd U (λc0=>?_) (λc0=>?_));have e5:z2t s.q.p s.rk=[]:=by rw[<-b9];exact List.length_eq_zero_iff.1 oo
 exact sr (mv U (asg U (asg U (kpL [(4,_),(5,_)] (.c2 U U) (nn (rt (tr (r2 results25 U U ⟨_,rfl,⟨none,[],0,rfl,Own.nil _,.inr ⟨by unfold y1w;rw[if_pos (d0.trans e5)],rfl⟩⟩,(q1.n1 q2)⟩))))))));have e7:z2t s.q.p s.rk≠[]:=λe=>by rw[<-b9]at e;rw[e]at c9;exact absurd c9 (by first|(simp only[List.length_nil];omega)|(intro h_;simp at h_;omega))
 refine sk (tn (sr (mv U (lnS U underlying127 (z1h (m:=n) (c:=n) (id0) U z3x z7r U (λM w3 k4 ho q3 z3=>(al j1o U (λg8 w4 l0 a4 q4 z4=>(z3u U U a4 U u1e (λw5 a4 q5 z5=>(nn (sq (sr (mv U (lnS U underlying127 (mv U (nn (bl ?_))))))))))))))))));replace ho:=(ho.ext q4).fr q5 (by intro k hk hb;simp at hk;subst hk;have:=(ho.blk _ hb);omega);refine lpK (ι:=Nat×List LId) [(1,_),(2,_),(8,_),(34,_),(35,_)] (λp_=>[(36,.int .i64 (p_.1:Int))]) (λp_ w'=>Fr [M] w5 w'/\p_.1<=n/\p_.2.length=n/\Lw.Own z1b 64 w0.heap.size w' (.slice (some ⟨M,0,none⟩) n n) p_.2/\(∀j,j<p_.1->p_.2.getD j id0=(lh.getD j hd0).id)) (λp_=>n-p_.1) (0,List.replicate n id0) (.c6 U U U U U U) ⟨Fr.refl _ _,⟨Nat.zero_le _,sp0,ho.low oo,λj hj=>absurd hj sp0⟩⟩ ?_;rintro⟨i,ps⟩ w6 ⟨q6,⟨g7,a2,ho,d4⟩⟩;simp only at g7 ho d4 a2;have z6:=q6.size;refine kpC [(1,_),(2,_),(8,_),(34,_),(35,_),(36,.int .i64 (i:Int))] (.c6 U U U U U U) (sr (lt' U (nn (sq (cd U (λc1=>?_) (λc1=>?_))))));refine sk (tn (sq (bl (sr (mv U ?_)))));replace hH:=((hH.ext (q3.n1 q4)).fr q5 (by intro k hk hb;simp[z0v]at hk hb;omega)).fr q6 (by intro k hk hb;simp[z0v]at hk hb;omega);refine z1d (hd0) U hH.sl U z3i z1j (λj6 e0=>?_);refine z1q U (e0 _ hH.sl) z5d (al x8p U (λk6 w7 j8 b1 q7 z7=>?_));refine asg U (z0j (vs:=[_,_,_,_,_]) U b1 z7x (λw8 b1 q8 z8=>?_) (h1:=(by first|(simp[Value.oneCell',S];done)|exact z1b.one _)));refine nn (rg ?_);replace a4:=((a4.fr q6).ext q7).fr q8;refine z2r U a4 z6h (mv U (fad U x2k (z1v (vs:=[_,_]) U b1 z2q U ?_)));replace ho:=(ho.ext q7).fr q8 (by intro k hk hb;simp at hk;subst hk;have:=(ho.blk _ hb);omega);refine z8n (p:=i) (E:=z1b) U U z3x (z5k (i:=i) (((lh.getD i hd0).id)) U U ho oo U z5y (λw9 ho q9 z9=>(kpL [(1,_),(2,_),(8,_),(34,_),(35,_),(36,_)] (.c6 U U U U U U) (nl (bn' (tn (rg (z0x U (wi6 oo) (mv U (nl ?_))))))))));exact lpE ((i+1,ps.set i ((lh.getD i hd0).id))) (.c6 U U U U U U) ⟨((Fr.refl [M] _).z4 q6 q7 q8 q9),⟨sm,by simp only[List.length_set];exact a2,ho,λj hj=>by
  simp only at hj ⊢;rw[z1i oo];split;rename_i e;subst e;rfl;exact d4 j oo⟩⟩ sm
 obtain rfl:n=i:=by omega
 refine ex (te (te (xh (tn (sr (al zv22 U (λI l9 j9 a6 b3 m6=>(nn (sr (fad U y0m ?_))))))))));replace a8:=(((a8.ext (q2.n2 q3 q4)).fr q5).fr q6).ext b3;refine z1v (vs:=[_,_]) U a8 z4x U (fad U y6i (z0i U a8 U na3 (z1s (cs:=[_,_,_,_]) (ev2 U) j3u (z0f U (z0f U z0q)) U ?_)));refine al j3n U (λZ m0 k0 a0 b4 m7=>?_);refine z0j (vs:=[_,_,_,_]) U a0 j2y (λm1 a0 b5 m8=>?_) (h1:=(by first|(simp[Value.oneCell',S];done)|exact z1b.one _));refine kpL [(1,_),(8,_),(11,_),(12,_)] (.c4 U U U U) (nn (sr (z7e z0g (ev2 U) U (fad U x9s (z3l U a0 U j2l (λf6 a0 b6 m9=>?_))))));replace a0:Blk f6 Z _ [_,_,_,_]:=a0;replace a4:=(((a4.fr q6).ext (b3.n1 b4)).fr b5).fr b6;replace ho:=((ho.ext (b3.n1 b4)).fr b5 (by intro k hk hb;simp at hk;subst hk;have:=(ho.blk _ hb);omega)).fr b6 (by intro k hk hb;simp at hk;subst hk;have:=(ho.blk _ hb);omega);replace a6:=((a6.ext b4).fr b5).fr b6;have h7:=v0s (a2.trans c9) (λj hj=>d4 j oo);have hW:WdM τp (tvW (⟨Z,g8,I,M⟩:WdA)) w0 (⟨Z,g8,I,M⟩:WdA) f6 s.q s.rk (ps,[]):=⟨a0,.inl d7.b,by rw[show ((ps,([]:List Int)):G26.St).1.length=n from a2];exact a4,by rw[show ((ps,([]:List Int)):G26.St).1.length=n from a2];exact ho.low oo,⟨_,a6,Own.nil _⟩,((((q1.z6 q2 q3 q4 q5 q6 b3).n1 b4).z1 b5).z1 b6),sm,sm,sm⟩;have a7:=hW;refine nn (sq (sr (mv U (lnS U underlying45 (mv U (nn (bl (lpK (ι:=Nat) [(11,_),(12,_),(54,_),(55,_)] (λi=>[(56,.int .i64 (i:Int))]) (λi w'=>Fr [] w0 w'/\i<=l.length/\∃(pi:MSt) (D:G26.St) (qi:BdQ) (lv:Value),(z4u i pi (l.drop i)=.ok q/\MInv pi/\qi.p=pi.B/\z8u (nrm p) (u0r (nrm p),[]) l=z8u pi D (l.drop i)/\D.1.length=n/\D.2.length<=64)/\WdM τp (tvW (⟨Z,g8,I,M⟩:WdA)) w0 (⟨Z,g8,I,M⟩:WdA) w' qi pi.rk D/\Blk w' I 22 [lv]/\Lw.Own Enc.i64 3 w0.heap.size w' lv D.2) (λi=>l.length-i) 0 (.c5 U U U U U) ⟨((((q1.z6 q2 q3 q4 q5 q6 b3).n1 b4).z1 b5).z1 b6),⟨Nat.zero_le _,nrm p,(ps,[]),s.q,_,⟨by rw[List.drop_zero];exact hr,(z9x hP.v).inv,hP.BE,by rw[List.drop_zero,show u0r (nrm p)=ps from by unfold u0r;rw[d0,<-b9];exact h7.symm],a2,sp0⟩,(show s.rk=(nrm p).rk from hP.rkE)▸hW,a6,Own.nil _⟩⟩ ?_))))))));rintro i m2 ⟨d5,⟨l1,pi,D,qi,lv,⟨i4,a1,a5,d1,f0,i8⟩,hW,O,hl⟩⟩;have n7:=d5.size;have a7:=hW;have d3:=O.lt;refine kpC [(11,_),(12,_),(54,_),(55,_),(56,_)] (.c5 U U U U U) (sr (lt' U (nn (sq (cd U (λc2=>?_) (λc2=>?_))))));have e6:i<l.length:=by omega
 obtain⟨e4,m,b8,i5⟩:=v5q i4 e6;obtain⟨h4,h3⟩:=x8v g3 e6;have b7:=z7c h3;have h5:(opW pi (l.getD i op0) D).1.length=n:=by
  unfold opW;split;exact(x1f a1.B D a1.rk (b7.2.2.2.2.2 (by assumption))).1.trans f0;exact f0
 have k5:(opW pi (l.getD i op0) D).2.length<=100000:=by
  unfold opW;split;have:=(x1f a1.B D a1.rk (b7.2.2.2.2.2 (by assumption))).2;omega;omega
 refine sk (tn (sq (bl (sr ?_))));replace hv:=i9.ext d5;refine z1d (op0) U hv U y3m z1j (λj7 e1=>?_);refine z1q U (e1 _ hv) y3q (al v9d U (λk7 m3 k2 a3 f2 n8=>?_));refine z0j (vs:=[_,_,_,_,_,_]) U a3 v4o (λm4 a3 f3 n9=>?_) (h1:=(by first|(simp[Value.oneCell',S];done)|exact z1b.one _));refine nn (jn (ι:=Unit) [(11,_),(12,_),(54,_),(55,_),(56,_)] (λu_=>[]) (λu_ w'=>Fr [] w0 w'/\∃(qn:BdQ) (a9:Option Addr) (b0:Nat),qn.p=m.B/\WdM τp (tvW (⟨Z,g8,I,M⟩:WdA)) w0 (⟨Z,g8,I,M⟩:WdA) w' qn m.rk (opW pi (l.getD i op0) D)/\Blk w' I 22 [.slice a9 (opW pi (l.getD i op0) D).2.length b0]/\Lw.Own Enc.i64 3 w0.heap.size w' (.slice a9 (opW pi (l.getD i op0) D).2.length b0) (opW pi (l.getD i op0) D).2) (.c5 U U U U U) ?_ ?_);refine sr (fad U z7d (z0i U a3 U x8m (eq' U (nn (cd U (λc3=>?_) (λc3=>?_))))));have h6:=b7.2.2.2.2.2 c3;obtain⟨i1,i2,-⟩:=u5h a1.rk b8 c3;refine rg (fad U y2w (z0i U a3 U na3 ?_));replace hW:=a7.ext (f2.z1 f3);refine cl (z0a U (z0a U z0g)) (mkC func59) (v6u w0 (⟨Z,g8,I,M⟩:WdA) qi pi.rk D (l.getD i op0).r _ hW (a5▸a1.B) d9 a1.rk h6 oo i8) U ?_;rintro _ f7 ⟨rfl,hW⟩;have f4:=hW.fr;have o0:=f4.size;replace hW:WdM τp (tvW (⟨Z,g8,I,M⟩:WdA)) w0 (⟨Z,g8,I,M⟩:WdA) f7 qi m.rk (opW pi (l.getD i op0) D):=by rw[i1,show opW pi (l.getD i op0) D=z9v qi.p pi.rk (l.getD i op0).r D from by rw[a5];exact if_pos c3];exact hW
 have b2:qi.p=m.B:=a5.trans i2.symm;have a7:=hW;obtain⟨lv,O,hl⟩:=hW.l;obtain⟨a9,b0,rfl,e3⟩:=hl.sl.form;replace O:Blk f7 I 22 [_]:=O;exact nl (jE (()) (.c5 U U U U U) ⟨f4,⟨_,_,_,b2,hW,O,hl⟩⟩);have g9:(l.getD i op0).k=7:=h4.resolve_left c3;have e8:=b7.2.2.2.2.1 oo;have l6:=z3a e8;obtain⟨j0,l7,j1,f1,j2,j3⟩:=u3c b8 g9;have l8:=z3a f1;obtain⟨j5,i0⟩:∃n:Nat,(l.getD i op0).p=(n:Int):=⟨(l.getD i op0).p.toNat,oo⟩;obtain⟨j4,h9⟩:∃m:Nat,z5q (l.getD i op0).b (l.getD i op0).p pi.rk=(m:Int):=⟨(z5q (l.getD i op0).b (l.getD i op0).p pi.rk).toNat,oo⟩;refine rg (fad U z4r (z1v (vs:=[_,_]) U a3 z5r U ?_));replace hW:=a7.ext (f2.z1 f3);refine cl (z0a U (z0a U z0g)) (mkC func60) (v8h w0 (⟨Z,g8,I,M⟩:WdA) qi pi.rk D (l.getD i op0).b (l.getD i op0).p j5 j4 _ hW (a5▸a1.B) i0 h9 e8 f1 (a5▸j1) (by rw[a5];exact j2) a1.rk) U ?_;rintro _ f8 ⟨rfl,qn,hW,i3⟩;have f5:=hW.fr;have o1:=f5.size;replace hW:WdM τp (tvW (⟨Z,g8,I,M⟩:WdA)) w0 (⟨Z,g8,I,M⟩:WdA) f8 qn m.rk (opW pi (l.getD i op0) D):=by rw[j0,show opW pi (l.getD i op0) D=D from if_neg c3];exact hW
 have b2:qn.p=m.B:=by rw[i3,a5,j3]
 have a7:=hW;obtain⟨lv,O,hl⟩:=hW.l;obtain⟨a9,b0,rfl,e3⟩:=hl.sl.form;replace O:Blk f8 I 22 [_]:=O;exact nl (jE (()) (.c5 U U U U U) ⟨f5,⟨_,_,_,b2,hW,O,hl⟩⟩);rintro _u m5 ⟨d6,⟨qn,a9,b0,b2,hW,O,hl⟩⟩;have o2:=d6.size;have a7:=hW;have d3:=O.lt;refine kpC [(11,_),(12,_),(54,_),(55,_),(56,_)] (.c5 U U U U U) (sr (z2r U O u8v (lnS U underlying22 (gt' U (nn (cd U (λc4=>?_) (λc4=>?_)))))));exact sr (asg U (asg U (kpL [(4,_),(5,_)] (.c2 U U) (nn (rt (rb (tr (tr (rb (tr (r2 results25 U U ⟨_,rfl,⟨none,[],3,rfl,Own.nil _,.inl ⟨by unfold y1w;rw[if_neg (λe=>e7 (d0.symm.trans e)),d1,e4,x8d oo];rfl,rfl,rfl⟩⟩,d6⟩)))))))))));have e2:¬64<(opW pi (l.getD i op0) D).2.length:=by omega
 exact sk (bn' (tn (rg (z0x U (wi6 oo) (mv U (nl (lpE ((i+1)) (.c5 U U U U U) ⟨d6,⟨oo,m,(opW pi (l.getD i op0) D),qn,_,⟨i5,x6d a1 b8,b2,by rw[d1,e4,x7i e2 b8],h5,oo⟩,hW,O,hl⟩⟩ oo)))))));obtain rfl:i=l.length:=by omega
 rw[List.drop_length]at d1;refine ex (te (te (xh (tn (sr (z2r U O u8v ?_))))));have h0:=hl;obtain⟨AL,cL,rfl,g5⟩:=hl.sl.form;refine cl (ev1 U) (mkC func61) (v5z AL _ cL _ g5) U ?_;rintro _ _ ⟨rfl,rfl⟩;refine asg U (asg U (kpL [(4,_),(5,_)] (.c2 U U) (nn (rt (r2 results25 U U ?_)))));obtain⟨l3,h2⟩:=v6c h0;exact⟨_,rfl,⟨_,_,0,rfl,h2,.inr ⟨by unfold y1w;rw[if_neg (λe=>e7 (d0.symm.trans e)),d1];rfl,rfl⟩⟩,d5⟩
end Go.Proofs.YtlfdhllfmoplgaaGreatDoor
namespace Go.Lw
section
variable {P:Program} {n:Nat} {L:List (Nat×Value)} {w:World} {v:Value} {a:Act} {g T:Nat} {cs:List Value}
theorem u7v {fn:Func}{R:Ending->World->Prop}{p pt q r:Nat}{u:Value}(h:Ag a n L)(Z:fn.results=#[.tmp q,.cell p pt,.tmp r])(hp:look L p=some (.pointer (some ⟨g,0,none⟩)))(hb:Blk w g T cs)(O:z3p P pt cs.length)(hv:look L q=some v)(hu:look L r=some u)(k:R (.returned (.tuple #[v,.agg cs.toArray,u])) w):bodyPost P fn R .ret a w:=
 bodyPost_ret (v:=.tuple #[v,.agg cs.toArray,u]) (by
  have D:=h.at_ p _ hp
  have I:=h.at_ q _ hv
  have M:=h.at_ r _ hu
  simp only[Array.getD_eq_getD_getElem?]at D I M
  simp[results,Z,D,I,M,asAddr,loadVar,O.1 w,O.2 w,run_loadCells_list w _ cs hb.cells]) h.dfr k
theorem u9c {fn:Func}{R:Ending->World->Prop}{p pt q r:Nat}{u:Value}(I:fn.results=#[.tmp q,.cell p pt,.tmp r])(hp:look L p=some (.pointer (some ⟨g,0,none⟩)))(hb:Blk w g T cs)(D:z3p P pt cs.length)(O:look L q=some v)(M:look L r=some u)(k:R (.returned (.tuple #[v,.agg cs.toArray,u])) w):EW (bodyPost P fn R) .ret n [] w L:=λ_ h=>u7v h I hp hb D O M k
end
end Go.Lw
namespace Go.Proofs.YtlfdhllfmoplgaaGreatDoor
open Go.Lw Go.G21 Go.G08 Go.G09 Go.G26 _root_.Go.Proofs.Tryz
theorem u1n (v:Value)(l:List MOp)(w0:World)(Z:Sl z3c w0 v l)(a5:l.length<=1000000):Rets prog 19 #[v] w0 λr w'=>r=.bool (isP l)/\Fr [] w0 w':=by
 obtain⟨A,c,rfl,a3⟩:=id Z.form;refine we [(0,.slice A l.length c)] func19 U ntmps19 U (.cons U .nil) ?_;have a1:=Z;refine sr (asg U (nn (sq (sr (mv U (lnS U underlying45 (mv U (nn (bl (lpK (ι:=Nat) [(5,_),(6,_)] (λi=>[(7,.int .i64 (i:Int))]) (λi w'=>Fr [] w0 w'/\i<=l.length/\∀j,j<i->((l.getD j op0).k=3\/(l.getD j op0).k=7)/\y5k (l.getD j op0)=0) (λi=>l.length-i) 0 (.c3 U U U) ⟨Fr.refl _ _,⟨Nat.zero_le _,λj h=>absurd h oo⟩⟩ ?_))))))))));rintro i w1 ⟨O,⟨hi,M⟩⟩;have z1:=O.size;refine kpC [(5,_),(6,_),(7,_)] (.c3 U U U) (sr (lt' U (nn (sq (cd U (λc0=>?_) (λc0=>?_))))));refine sk (tn (sq (bl (sr ?_))));replace Z:=a1.ext O;refine z1d (op0) U Z U y3m z1j (λa2 a0=>?_);refine z1q U (a0 _ Z) y3q (al v9d U (λg4 w2 a4 I q2 z2=>(z0j (vs:=[_,_,_,_,_,_]) U I v4o (λw3 I q3 z3=>(nn (sr (fad U z7d (z0i U I U x8m (ne' U (mv U (gs 14 U (λg0=>?_) (λg0=>?_))))))))))));refine gY U (fad U z7d (gY U (z0i U I U x8m (gY U (ne' U (pkt U (mv U (gs 19 U (λg1=>?_) (λg1=>?_)))))))));refine gN U (gN U (gN U (pkt U (kpL [(5,_),(6,_),(7,_),(23,_)] (.c4 U U U U) (nn (ct U (sr (asg U (nn (rt (rb (tr (tr (rb (tr (r1 results19 U ?_))))))))))))))));exact⟨_,rfl,by first|exact congrArg Value.bool (x6u (i:=i) oo (λh=>by obtain⟨D,h2⟩:=h;rcases D with D|D<;>simp_all)).symm|exact congrArg Value.bool (y7x (λj hj=>M j oo)).symm,(O.z2 q2 q3)⟩;refine gY U (z0m U I y3q (gY U (cl (ev1 U) u9m (y0n _ _) U ?_)));rintro _ w4 ⟨rfl,q4⟩;have z4:=q4.size;refine gY U (ne' U (pkf U (kpL [(5,_),(6,_),(7,_),(23,_)] (.c4 U U U U) (nn (cd U (λc1=>?_) (λc1=>?_))))));refine sr (asg U (nn (rt (rb (tr (tr (rb (tr (r1 results19 U ?_)))))))));exact⟨_,rfl,by first|exact congrArg Value.bool (x6u (i:=i) oo (λh=>by obtain⟨D,h2⟩:=h;rcases D with D|D<;>simp_all)).symm|exact congrArg Value.bool (y7x (λj hj=>M j oo)).symm,(O.z3 q2 q3 q4)⟩;refine sk (bn' (tn (rg (z0x U (wi6 oo) (mv U (nl ?_))))));exact lpE (i+1) (.c3 U U U) ⟨(O.z3 q2 q3 q4),⟨oo,λj h=>by
  by_cases e:j=i;subst e;by_cases h3:(l.getD j op0).k=3<;>by_cases h7:(l.getD j op0).k=7<;>simp_all
  exact M j oo⟩⟩ oo
 refine gN U (gN U (gN U (pkf U (mv U (gY U (z0m U I y3q (gY U (cl (ev1 U) u9m (y0n _ _) U ?_))))))));rintro _ w5 ⟨rfl,q5⟩;have z5:=q5.size;refine gY U (ne' U (pkf U (kpL [(5,_),(6,_),(7,_),(23,_)] (.c4 U U U U) (nn (cd U (λc1=>?_) (λc1=>?_))))));refine sr (asg U (nn (rt (rb (tr (tr (rb (tr (r1 results19 U ?_)))))))));exact⟨_,rfl,by first|exact congrArg Value.bool (x6u (i:=i) oo (λh=>by obtain⟨D,h2⟩:=h;rcases D with D|D<;>simp_all)).symm|exact congrArg Value.bool (y7x (λj hj=>M j oo)).symm,(O.z3 q2 q3 q5)⟩;refine sk (bn' (tn (rg (z0x U (wi6 oo) (mv U (nl ?_))))));exact lpE (i+1) (.c3 U U U) ⟨(O.z3 q2 q3 q5),⟨oo,λj h=>by
  by_cases e:j=i;subst e;by_cases h3:(l.getD j op0).k=3<;>by_cases h7:(l.getD j op0).k=7<;>simp_all
  exact M j oo⟩⟩ oo
 obtain rfl:i=l.length:=by omega
 refine ex (te (te (xh (tn (sr (asg U (nn (rt (r1 results19 U ?_)))))))));exact⟨_,rfl,by first|exact congrArg Value.bool (x6u (i:=i) oo (λh=>by obtain⟨D,h2⟩:=h;rcases D with D|D<;>simp_all)).symm|exact congrArg Value.bool (y7x (λj hj=>M j oo)).symm,O⟩
theorem v7a (p:MSt)(l:List MOp):x3l p l<=l.length/\∃m,z4u 0 p (l.take (x3l p l))=.ok m:=by
 unfold x3l;cases e:z4u 0 p l with
 | error x=>
  obtain⟨I,n⟩:=x;obtain⟨M,O,m,D⟩:=y4g e;exact⟨sm,m,D⟩
 | ok q=>exact⟨Nat.le_refl _,q,by simp only[List.take_length];exact e⟩
theorem x4x {p:MSt}{l:List MOp}(h:v4j p l=0):x3l p l=l.length:=by
 cases e:z4u 0 p l with
 | error x=>exact absurd ((y8n e).1.symm.trans h) (x6j e)
 | ok q=>exact(y3h e).2
theorem x9t {p:MSt}{l:List MOp}(Z:isP l=true)(h4:l.length<=4096)(h8:p.B.flat.length<=8){ws:List Int}{D:Int}(I:(y1w p (l.take (x3l p l))=none/\D=3/\ws=[])\/(y1w p (l.take (x3l p l))=some ws/\D=0)) :
    ((if D=0 then v4j p l else D)≠0->z4l p l=.error (if D=0 then v4j p l else D))/\((if D=0 then v4j p l else D)=0->∃q,z4u 0 p l=.ok q/\z4l p l=.ok (ws,q)):=by
  have hb:z4l p l=(match z4u 0 p l with
    | .error x=>(match y1w p (l.take x.2) with
      | none=>.error 3
      | some _=>.error x.1)
    | .ok q=>(match y1w p l with
      | none=>.error 3
      | some w=>.ok (w,q))):=by
    unfold z4l
    rw[if_neg (by rw[Z];decide),if_neg oo,if_neg oo]
    all_goals cases z4u 0 p l
    all_goals first|rfl|(split<;>rfl)
  rw[hb]
  cases e:z4u 0 p l with
  | error x=>
    obtain⟨x1,n⟩:=x
    obtain⟨M,O⟩:=y8n e
    have hx:=x6j e
    rw[O]at I
    rw[M]
    simp only
    rcases I with ⟨h,rfl,rfl⟩|⟨h,rfl⟩
    · rw[h];exact⟨λ_=>rfl,λh=>by simp at h⟩
    · rw[h];exact⟨λ_=>rfl,λh=>absurd h hx⟩
  | ok q=>
    obtain⟨M,O⟩:=y3h e
    rw[O,List.take_length]at I
    rw[M]
    simp only
    rcases I with ⟨h,rfl,rfl⟩|⟨h,rfl⟩
    · rw[h];exact⟨λ_=>rfl,λh=>by simp at h⟩
    · rw[h];exact⟨λh=>absurd U h,λ_=>⟨q,rfl,rfl⟩⟩
theorem v8a {p:MSt}{l:List MOp}(h:isP l=false):z4l p l=.error 1:=by unfold z4l;rw[if_pos h]
theorem x7k {p:MSt}{l:List MOp}(h:isP l=true)(I:l.length<=4096)(D:8<p.B.flat.length):z4l p l=.error 3:=by
 unfold z4l;rw[if_neg (by rw[h];decide),if_neg oo,if_pos D]
structure BrR (w':World) (p:MSt) (l:List MOp) (N base:Nat) (A:Option Addr) (ws:List Int) (s':StQ) (e:Int):Prop where
  o:Lw.Own Enc.i64 3 base w' (.slice A ws.length ws.length) ws
  k:StK UK w' s'
  er:∀x,z4l p l=.error x->e=x/\ws=[]/\s'=stZ
  ok:∀u q,z4l p l=.ok (u,q)->e=0/\ws=u/\StP s' q N
theorem BrR.no {w':World}{p:MSt}{l:List MOp}{N base:Nat}{x:Int}(h:z4l p l=.error x):BrR w' p l N base none [] stZ x:=
 ⟨Own.nil _,(u3s base w').k,λy I=>by rw[h]at I;cases I;exact⟨rfl,rfl,rfl⟩,λu q D=>by rw[h]at D;cases D⟩
theorem z7v (s:StQ)(p:MSt)(N:Nat)(v:Value)(l:List MOp)(w0:World)(hS:StAt w0 s)(hP:StP s p N)(hn:N+l.length<=1000)(hv:Sl z3c w0 v l)(a5:StT w0):Rets prog 6 #[.agg #[.int .i64 s.rk,.slice s.q.f.1 s.q.f.2.1 s.q.f.2.2,.slice s.q.b.1 s.q.b.2.1 s.q.b.2.2,.slice s.yv.1 s.yv.2.1 s.yv.2.2,.slice s.fb.t.1 s.fb.t.2.1 s.fb.t.2.2,.slice s.fb.c.1 s.fb.c.2.1 s.fb.c.2.2,.slice s.fb.h.1 s.fb.h.2.1 s.fb.h.2.2,.slice s.fb.f.1 s.fb.f.2.1 s.fb.f.2.2],v] w0 λr w'=>(∃A ws s' e,r=.tuple #[.slice A ws.length ws.length,.agg #[.int .i64 s'.rk,.slice s'.q.f.1 s'.q.f.2.1 s'.q.f.2.2,.slice s'.q.b.1 s'.q.b.2.1 s'.q.b.2.2,.slice s'.yv.1 s'.yv.2.1 s'.yv.2.2,.slice s'.fb.t.1 s'.fb.t.2.1 s'.fb.t.2.2,.slice s'.fb.c.1 s'.fb.c.2.1 s'.fb.c.2.2,.slice s'.fb.h.1 s'.fb.h.2.1 s'.fb.h.2.2,.slice s'.fb.f.1 s'.fb.f.2.1 s'.fb.f.2.2],.int .i64 e]/\BrR w' (nrm p) l (N+l.length) w0.heap.size A ws s' e)/\Fr [] w0 w':=by
 obtain⟨A,c,rfl,e4,b9,-⟩:=id hv;have a8:s.q.p=p.B:=hP.BE;have d3:BdOk s.q.p:=a8▸hP.v.inv.B;obtain⟨⟨hf,hb⟩,h4,d1⟩:=z3o d3;obtain⟨d6,mr,d5⟩:=v7a (nrm p) l;refine we [(0,.agg #[.int .i64 s.rk,.slice s.q.f.1 s.q.f.2.1 s.q.f.2.2,.slice s.q.b.1 s.q.b.2.1 s.q.b.2.2,.slice s.yv.1 s.yv.2.1 s.yv.2.2,.slice s.fb.t.1 s.fb.t.2.1 s.fb.t.2.2,.slice s.fb.c.1 s.fb.c.2.1 s.fb.c.2.2,.slice s.fb.h.1 s.fb.h.2.1 s.fb.h.2.2,.slice s.fb.f.1 s.fb.f.2.1 s.fb.f.2.2]),(1,.slice A l.length c)] func6 U ntmps6 U (.c2 U U) ?_;have a9:=hS;have b5:=hv;have b0:=a5;refine sr (bx U (λg2 w1 e5 I q1 z1=>(asg U (al y9i U (λg5 w2 e6 D q2 z2=>(asg U (nn (sq (sr (mv U ?_))))))))));replace hv:=b5.ext (q1.n1 q2);refine cl (ev1 U) (mkC func19) (u1n _ l _ hv oo) U ?_;rintro _ w3 ⟨rfl,Z⟩;have z3:=Z.size;refine nt' U (nn (cd U (λc0=>?_) (λc0=>?_)));refine sr (z1s (cs:=[_,_,_,_,_,_,_,_]) z0g x4l z0q U ?_);refine asg U ?_;replace D:=D.ext Z;exact z0j (vs:=[_,_,_,_,_,_,_,_]) U D y1n (λw4 D q4 z4=>(asg U (nn (rt (tr (u9c results6 U D y1l U U ⟨_,rfl,⟨none,[],stZ,1,rfl,BrR.no (v8a (by simpa using c0))⟩,(q1.z3 q2 Z q4)⟩))))));have b2:isP l=true:=by simpa using c0
 refine sk (tn (sq (sr (mv U (lnS U underlying45 (gt' U (nn (cd U (λc1=>?_) (λc1=>?_)))))))));exfalso;omega;refine sk (tn (sq (sr ?_)));replace I:=I.ext (q2.n1 Z);refine z0m U I y1l ?_;replace hS:=a9.ext (q1.n2 q2 Z);refine cl (ev1 U) (mkC func23) (x5k _ hS hP) U ?_;rintro _ w5 ⟨rfl,q5⟩;have z5:=q5.size;refine asg U (nn (sr (mv U (ne' U (nn (cd U (λc2=>?_) (λc2=>?_)))))));exact absurd U c2;refine sk (tn (sq (sr (fad U y0m ?_))));replace I:=I.ext q5;refine z1v (vs:=[_,_]) U I z4x U ?_;replace hS:=a9.ext (q1.n3 q2 Z q5);refine cl (ev1 U) (mkC func24) (y4l s.q _ hS.b hf hb h4 d1) U ?_;rintro _ w6 ⟨rfl,q6⟩;have z6:=q6.size;refine gt' U (nn (cd U (λc3=>?_) (λc3=>?_)));refine sr (z1s (cs:=[_,_,_,_,_,_,_,_]) z0g x4l z0q U ?_);refine asg U ?_;replace D:=D.ext (Z.n2 q5 q6);exact z0j (vs:=[_,_,_,_,_,_,_,_]) U D y1n (λw7 D q7 z7=>(asg U (nn (rt (tr (u9c results6 U D y1l U U ⟨_,rfl,⟨none,[],stZ,3,rfl,BrR.no (x7k b2 oo (by show 8<p.B.flat.length;rw[<-a8];omega))⟩,(q1.z5 q2 Z q5 q6 q7)⟩))))));refine sk (tn (sr ?_));replace I:=I.ext q6;refine z0m U I y1l (mv U ?_);replace hS:=a9.ext (q1.n4 q2 Z q5 q6);replace hv:=b5.ext (q1.n4 q2 Z q5 q6);replace a5:=b0.ext (q1.n4 q2 Z q5 q6);refine cl (ev2 U) (mkC func7) (x2p _ l _ hS hP hn hv a5) U ?_;rintro _ w8 ⟨⟨s8,rfl,b6,d4,e8⟩,q8⟩;have z8:=q8.size;have a0:=b6.k;clear b6;refine mv U (xt U (xt U (xt U (al y9i U (λg8 w9 e7 a2 q9 z9=>(z0j (vs:=[_,_,_,_,_,_,_,_]) U a2 y1n (λe1 a2 O f2=>(asg U (asg U (kpL [(1,_),(2,_),(5,_),(8,_),(9,_),(10,_)] (.c6 U U U U U U) (nn (jn (ι:=Unit) [(2,_),(5,_),(8,_),(10,_)] (λ_j=>[(1,.slice A (x3l (nrm p) l) c)]) (λ_j w'=>Fr [] e1 w') (.c4 U U U U) ?_ ?_))))))))))));refine sr (mv U (ne' U (nn (cd U (λc4=>?_) (λc4=>?_)))));refine rg (mv U (mv U (v9w (p:=(x3l (nrm p) l)) U U y3m oo oo oo U (asg U (nl ?_)))));exact jE (()) (.c5 U U U U (congrArg (λz=>some (Value.slice A z c)) (by first|rfl|exact(x4x (Classical.not_not.1 c4)).symm))) (Fr.refl _ _);refine sk ?_;exact jE (()) (.c5 U U U U (congrArg (λz=>some (Value.slice A z c)) (by first|rfl|exact(x4x (Classical.not_not.1 c4)).symm))) (Fr.refl _ _);rintro _j e9 M;have f3:=M.size;refine kpC [(2,_),(5,_),(8,_),(10,_),(1,_)] (.c5 U U U U U) (sr ?_);replace I:=((I.ext (q8.n1 q9)).fr O).ext M;refine z0m U I y1l (mv U ?_);replace hv:=b5.ext (((q1.n6 q2 Z q5 q6 q8 q9).z1 O).n1 M);have d9:=hv.take U (m:=(x3l (nrm p) l)) d6 (B:=A) (c':=c) oo b9 (λ_=>rfl);replace hS:=a9.ext (((q1.n6 q2 Z q5 q6 q8 q9).z1 O).n1 M);replace a5:=b0.ext (((q1.n6 q2 Z q5 q6 q8 q9).z1 O).n1 M);refine cl (ev2 U) (mkC func25) (u3t s p mr N _ (l.take (x3l (nrm p) l)) _ hS hP d9 a5 (v8u b2 _) d5 (by rw[List.length_take];omega) (by rw[<-a8];omega)) U ?_;rintro _ e2 ⟨⟨d0,ws,ew,rfl,a3,hw⟩,q12⟩;have f4:=q12.size;have b1:=x9t b2 oo (by show p.B.flat.length<=8;rw[<-a8];omega) hw;refine mv U (xt U (xt U (asg U (asg U (kpL [(5,_),(8,_),(10,_),(11,_),(12,_)] (.c5 U U U U U) (nn (jn (ι:=Unit) [(5,_),(8,_),(11,_)] (λ_j=>[(12,.int .i64 (if ew=0 then (v4j (nrm p) l) else ew))]) (λ_j w'=>Fr [] e2 w') (.c3 U U U) ?_ ?_)))))));refine sr (mv U (eq' U (nn (cd U (λc5=>?_) (λc5=>?_)))));refine rg (mv U (asg U (nl ?_)));exact jE (()) (.c4 U U U (congrArg (λz=>some (Value.int .i64 z)) (by first|exact(if_pos c5).symm|exact(if_neg c5).symm))) (Fr.refl _ _);refine sk ?_;exact jE (()) (.c4 U U U (congrArg (λz=>some (Value.int .i64 z)) (by first|exact(if_pos c5).symm|exact(if_neg c5).symm))) (Fr.refl _ _);rintro _j f0 a1;have f5:=a1.size;refine kpC [(5,_),(8,_),(11,_),(12,_)] (.c4 U U U U) (sq (sr (mv U (ne' U (nn (cd U (λc6=>?_) (λc6=>?_)))))));refine sr (z1s (cs:=[_,_,_,_,_,_,_,_]) z0g x4l z0q U ?_);refine mv U (asg U ?_);replace D:=((D.ext (Z.n4 q5 q6 q8 q9)).fr O).ext (M.n2 q12 a1);exact z0j (vs:=[_,_,_,_,_,_,_,_]) U D y1n (λf1 D e0 f6=>(asg U (kpL [(4,_),(5,_),(6,_)] (.c3 U U U) (nn (rt (tr (u9c results6 U D y1l U U ⟨_,rfl,⟨none,[],stZ,_,rfl,BrR.no (b1.1 c6)⟩,((((q1.n6 q2 Z q5 q6 q8 q9).z1 O).n1 M).z3 q12 a1 e0)⟩)))))));refine sk (tn (sq ?_));replace D:=((D.ext (Z.n4 q5 q6 q8 q9)).fr O).ext (M.n2 q12 a1);replace a0:=((a0.ext q9).fr O (by intro k hk _;rw[List.mem_singleton]at hk;subst hk;exact⟨_,_,by assumption,dd⟩)).ext (M.n2 q12 a1);intro a h;refine z0h (some 3) (λwb w'=>Fr [g5] wb w') z2o ?_;intro c9 a4;have f7:=a4.size;replace D:=D.ext a4;replace a0:=a0.ext a4;replace a2:=a2.ext (M.n3 q12 a1 a4);have hC:Fr [g5] c9 c9:=Fr.refl _ _;have b4:=D;have b3:=a0;have a6:=a2;refine z0e 0 h U λa h=>z0w 1 h U (λ_ hw=>a6.fr hw (λk_=>by simp at k_;omega)) y1l U λa h=>z0d 2 U (z0t h U λa h=>?_);refine z0b (z0d 3 U (z0p h U D U y1n λe3 b8 a7 hz a h=>?_));have f8:=a7.size;replace a0:=a0.fr a7 (by intro k hk _;rw[List.mem_singleton]at hk;subst hk;exact⟨_,_,by assumption,dd⟩);replace a2:=a2.fr a7;clear D hz;have D:Blk e3 g5 _ [_,_,_,_,_,_,_,_]:=b8;clear b8;refine z1n (z0d 4 U (z0t h U λa h=>?_));refine z1n (z0r ?_);clear hC b4 b3 a6;refine bk (h.sub (L':=[(4,_),(5,_),(6,_)]) (.c3 U U U)) (tn (rt (u9c results6 U D y1l U U ?_)));replace a3:=(a3.ext (a1.n1 a4)).fr a7 (by first|exact z8h a3 oo|simp[z0v]<;>omega);obtain⟨qf,d7,b7⟩:=b1.2 (Classical.not_not.1 c6);exact⟨_,rfl,⟨d0,ws,s8,0,rfl,a3.low oo,a0,(λx hx=>by rw[b7]at hx;cases hx),(λu q hq=>by rw[b7]at hq;cases hq;exact⟨rfl,rfl,d4 _ d7⟩)⟩,((((q1.n6 q2 Z q5 q6 q8 q9).z1 O).n1 M).z4 q12 a1 a4 a7)⟩
open Go.Lw Go.G21 Go.G08 _root_.Go.Proofs.Tryz
theorem x7q (v:Value)(ts:List TQ)(w0:World)(I:Sl z3z w0 v ts)(D:TabAt w0 ts)(hl:ts.length≠6):Rets prog 156 #[v] w0 λr w'=>r=.tuple #[.slice none 0 0,.int .i64 5]/\Fr [] w0 w':=by
 obtain⟨A,c,rfl,a0,Z,O⟩:=id I;clear O;unfold maxLen at Z;have a2:=z5a D;refine we [(0,.slice A ts.length c)] func156 U ntmps156 U (.cons U .nil) ?_;have a3:=I;have a1:=D;refine sr (asg U (asg U (nn (sq (sr (mv U (lnS U underlying28 (ne' U (nn (cd U (λM=>?_) (λM=>?_)))))))))));exact sr (asg U (asg U (nn (rt (tr (r2 results156 U U ⟨_,rfl,rfl,(Fr.refl _ _)⟩))))));exfalso;omega
theorem v9h (v:Value)(ts:List TQ)(w0:World)(I:Sl z3z w0 v ts)(D:TabAt w0 ts)(hl:ts.length≠6):Rets prog 113 #[v] w0 λr w'=>r=.int .i64 5/\Fr [] w0 w':=by
 obtain⟨A,c,rfl,a0,Z,O⟩:=id I;clear O;unfold maxLen at Z;have a2:=z5a D;refine we [(0,.slice A ts.length c)] func113 U ntmps113 U (.cons U .nil) ?_;have a3:=I;have a1:=D;refine sr (asg U (nn (sr (mv U (cl (ev1 U) (mkC func156) (x7q _ _ _ I D hl) U ?_)))));rintro _ w1 ⟨rfl,M⟩;have z1:=M.size;exact mv U (xt U (xt U (asg U (asg U (kpL [(4,_)] (.cons U .nil) (nn (sr (mv U (asg U (nn (rt (r1 results113 U ⟨_,rfl,rfl,M⟩))))))))))))
theorem v5h (q:FbQ)(w0:World)(D:FbAt w0 q)(h6:q.ts.length≠6):Rets prog 52 #[.agg #[.slice q.t.1 q.t.2.1 q.t.2.2,.slice q.c.1 q.c.2.1 q.c.2.2,.slice q.h.1 q.h.2.1 q.h.2.2,.slice q.f.1 q.f.2.1 q.f.2.2]] w0 λr w'=>r=.int .i64 5/\Fr [] w0 w':=by
 refine we [(0,.agg #[.slice q.t.1 q.t.2.1 q.t.2.2,.slice q.c.1 q.c.2.1 q.c.2.2,.slice q.h.1 q.h.2.1 q.h.2.2,.slice q.f.1 q.f.2.1 q.f.2.2])] func52 U ntmps52 U (.cons U .nil) ?_;have I:=D;refine sr (bx U (λg1 w1 a0 M Z z1=>(asg U (nn (sq (sr (fad U y0p (z0i U M U x3j ?_))))))));replace D:=I.ext Z;refine cl (ev1 U) (mkC func113) (v9h _ _ _ D.t D.tt h6) U ?_;rintro _ w2 ⟨rfl,q2⟩;have z2:=q2.size;refine asg U (nn (sr (mv U (ne' U (nn (cd U (λO=>?_) (λO=>?_)))))));exact sr (mv U (asg U (nn (rt (tr (r1 results52 U ⟨_,rfl,rfl,(Z.n1 q2)⟩))))));exact absurd dd O
open Go.Lw Go.G21 Go.G08 Go.G09 Go.G26 _root_.Go.Proofs.Tryz
theorem bokZ:BdOk stZ.q.p:=x1g.B
theorem v6n (w0:World)(I:StAt w0 stZ):Rets prog 23 #[.agg #[.int .i64 stZ.rk,.slice stZ.q.f.1 stZ.q.f.2.1 stZ.q.f.2.2,.slice stZ.q.b.1 stZ.q.b.2.1 stZ.q.b.2.2,.slice stZ.yv.1 stZ.yv.2.1 stZ.yv.2.2,.slice stZ.fb.t.1 stZ.fb.t.2.1 stZ.fb.t.2.2,.slice stZ.fb.c.1 stZ.fb.c.2.1 stZ.fb.c.2.2,.slice stZ.fb.h.1 stZ.fb.h.2.1 stZ.fb.h.2.2,.slice stZ.fb.f.1 stZ.fb.f.2.1 stZ.fb.f.2.2]] w0 λr w'=>r=.int .i64 5/\Fr [] w0 w':=by
 have x:=x5r stZ 0 5 w0 I (λw h=>y4j stZ.q w h bokZ) (λ_=>bokZ) (λh=>absurd h dd) (λw D=>v5h stZ.fb w D dd) dd;have e:x8f stZ 0 5=5:=by unfold x8f;rw[if_neg dd,if_neg dd,if_pos dd]
 rwa [e]at x
theorem v3w (s:StQ)(e:Int)(w0:World)(O:StAt w0 s)(he:e≠0)(hC:∀w,StAt w s->Rets prog 23 #[.agg #[.int .i64 s.rk,.slice s.q.f.1 s.q.f.2.1 s.q.f.2.2,.slice s.q.b.1 s.q.b.2.1 s.q.b.2.2,.slice s.yv.1 s.yv.2.1 s.yv.2.2,.slice s.fb.t.1 s.fb.t.2.1 s.fb.t.2.2,.slice s.fb.c.1 s.fb.c.2.1 s.fb.c.2.2,.slice s.fb.h.1 s.fb.h.2.1 s.fb.h.2.2,.slice s.fb.f.1 s.fb.f.2.1 s.fb.f.2.2]] w λr w'=>r=.int .i64 e/\Fr [] w w'):Rets prog 6 #[.agg #[.int .i64 s.rk,.slice s.q.f.1 s.q.f.2.1 s.q.f.2.2,.slice s.q.b.1 s.q.b.2.1 s.q.b.2.2,.slice s.yv.1 s.yv.2.1 s.yv.2.2,.slice s.fb.t.1 s.fb.t.2.1 s.fb.t.2.2,.slice s.fb.c.1 s.fb.c.2.1 s.fb.c.2.2,.slice s.fb.h.1 s.fb.h.2.1 s.fb.h.2.2,.slice s.fb.f.1 s.fb.f.2.1 s.fb.f.2.2],.slice none 0 0] w0 λr w'=>r=.tuple #[.slice none 0 0,.agg #[.int .i64 stZ.rk,.slice stZ.q.f.1 stZ.q.f.2.1 stZ.q.f.2.2,.slice stZ.q.b.1 stZ.q.b.2.1 stZ.q.b.2.2,.slice stZ.yv.1 stZ.yv.2.1 stZ.yv.2.2,.slice stZ.fb.t.1 stZ.fb.t.2.1 stZ.fb.t.2.2,.slice stZ.fb.c.1 stZ.fb.c.2.1 stZ.fb.c.2.2,.slice stZ.fb.h.1 stZ.fb.h.2.1 stZ.fb.h.2.2,.slice stZ.fb.f.1 stZ.fb.f.2.1 stZ.fb.f.2.2],.int .i64 e]/\Fr [] w0 w':=by
 refine we [(0,.agg #[.int .i64 s.rk,.slice s.q.f.1 s.q.f.2.1 s.q.f.2.2,.slice s.q.b.1 s.q.b.2.1 s.q.b.2.2,.slice s.yv.1 s.yv.2.1 s.yv.2.2,.slice s.fb.t.1 s.fb.t.2.1 s.fb.t.2.2,.slice s.fb.c.1 s.fb.c.2.1 s.fb.c.2.2,.slice s.fb.h.1 s.fb.h.2.1 s.fb.h.2.2,.slice s.fb.f.1 s.fb.f.2.1 s.fb.f.2.2]),(1,.slice none 0 0)] func6 U ntmps6 U (.c2 U U) ?_;have Z:=O;refine sr (bx U (λg2 w1 a0 I q1 z1=>(asg U (al y9i U (λg5 w2 a1 D q2 z2=>(asg U (nn (sq (sr (mv U (cl (ev1 U) (mkC func19) (u1n _ [] _ (Sl.nil _) dd) U ?_)))))))))));rintro _ w3 ⟨rfl,M⟩;have z3:=M.size;refine nt' U (nn (cd U (λc0=>?_) (λc0=>?_)));exact absurd c0 dd;refine sk (tn (sq (sr (mv U (lnS U underlying45 (gt' U (nn (cd U (λc1=>?_) (λc1=>?_)))))))));exfalso;omega;refine sk (tn (sq (sr ?_)));replace I:=I.ext (q2.n1 M);refine z0m U I y1l ?_;replace O:=Z.ext (q1.n2 q2 M);refine cl (ev1 U) (mkC func23) (hC _ O) U ?_;rintro _ w4 ⟨rfl,q4⟩;have z4:=q4.size;refine asg U (nn (sr (mv U (ne' U (nn (cd U (λc2=>?_) (λc2=>?_)))))));refine sr (z1s (cs:=[_,_,_,_,_,_,_,_]) z0g x4l z0q U ?_);refine mv U (asg U ?_);replace D:=D.ext (M.n1 q4);exact z0j (vs:=[_,_,_,_,_,_,_,_]) U D y1n (λw5 D q5 z5=>(asg U (kpL [(4,_),(5,_),(6,_)] (.c3 U U U) (nn (rt (tr (u9c results6 U D y1l U U ⟨_,rfl,rfl,(q1.z4 q2 M q4 q5)⟩)))))));exact absurd (Classical.not_not.1 c2) he
end Go.Proofs.YtlfdhllfmoplgaaGreatDoor
namespace Go.G26
open Go.Lw Go.G21 Go.G08
def bdS (at_:Nat):Int:=if at_ % 2=1 then 0 else 1
def opS (k d:Int)(at_:Nat):MOp:=⟨k,d,bdS at_,10+((at_ / 2:Nat):Int),1,0⟩
def v6p (at_ n:Nat)(p:Int):Prop:=(p % 8=((at_ / 2:Nat):Int)/\(p / 8 % 2=1↔at_ % 2=0))/\n<6
instance (at_ n:Nat) (p:Int):Decidable (v6p at_ n p):=by unfold v6p;infer_instance
def u0g (at_:Nat)(p:Int)(s:List MOp×Nat):List MOp×Nat:=if p / 16 % 2=1/\s.2+1<6 then (s.1++[opS 4 1 at_]++[opS 6 0 at_,opS 5 1 at_],s.2+2) else (s.1++[opS 4 1 at_],s.2+1)
def v0z (at_:Nat):List Int->List MOp×Nat->List MOp×Nat
  | [],s=>s
  | p::r,s=>if v6p at_ s.2 p then u0g at_ p s else v0z at_ r s
def y1m (xs:List Int):Nat->List MOp×Nat
  | 0=>([⟨1,0,0,0,1,0⟩],0)
  | n+1=>v0z n (xs.take 6) (y1m xs n)
def u9u (xs:List Int):List MOp:=(y1m xs 16).1++[⟨2,0,0,0,1,0⟩]
theorem z9j (D:Nat)(p:Int)(s:List MOp×Nat):(u0g D p s).1.length<=s.1.length+3/\(s.2<6->(u0g D p s).2<=6):=by
 unfold u0g;split;exact⟨sp0,λh=>by show s.2+2<=6;omega⟩;exact⟨sp0,λh=>by show s.2+1<=6;omega⟩
theorem x5i (D:Nat):∀(l:List Int) (s:List MOp×Nat),s.2<=6->(v0z D l s).1.length<=s.1.length+3/\(v0z D l s).2<=6
 | [],s,h=>⟨Nat.le_add_right _ _,h⟩
 | p::r,s,h=>by
  unfold v0z;split
  ·rename_i O
   obtain⟨I,M⟩:=z9j D p s
   exact⟨I,M O.2⟩
  exact x5i D r s h
theorem x4i (xs:List Int):∀n,(y1m xs n).1.length<=1+3*n/\(y1m xs n).2<=6
 | 0=>⟨by simp[y1m],by simp[y1m]⟩
 | n+1=>by
  obtain⟨M,D⟩:=x4i xs n
  obtain⟨O,I⟩:=x5i n (xs.take 6) (y1m xs n) D
  exact⟨by show (v0z n (xs.take 6) (y1m xs n)).1.length<=_;omega,I⟩
theorem y5x {xs:List Int}{i:Nat}(h:i<xs.length)(D:i<6):(xs.take 6).drop i=xs.getD i 0::(xs.take 6).drop (i+1):=by
 have hl:i<(xs.take 6).length:=by rw[List.length_take];omega
 rw[List.drop_eq_getElem_cons hl,List.getElem_take,List.getD,List.getElem?_eq_getElem h];rfl
theorem v7y {D:Nat}{xs:List Int}{i:Nat}{s:List MOp×Nat}(h:i<xs.length)(I:i<6)(M:v6p D s.2 (xs.getD i 0)):v0z D ((xs.take 6).drop i) s=u0g D (xs.getD i 0) s:=by
 rw[y5x h I];exact if_pos M
theorem x9g {D:Nat}{xs:List Int}{i:Nat}{s:List MOp×Nat}(h:i<xs.length)(I:i<6)(M:¬v6p D s.2 (xs.getD i 0)):v0z D ((xs.take 6).drop i) s=v0z D ((xs.take 6).drop (i+1)) s:=by
 rw[y5x h I];exact if_neg M
theorem v5y {D:Nat}{xs:List Int}{i:Nat}{s:List MOp×Nat}(h:¬(i<xs.length/\i<6)):v0z D ((xs.take 6).drop i) s=s:=by
 rw[List.drop_eq_nil_of_le (by rw[List.length_take];omega)];rfl
theorem j0z:u9u [0,1,2]=exO:=by decide +kernel
end Go.G26
namespace Go.Proofs.YtlfdhllfmoplgaaGreatDoor
open Go.Lw Go.G21 Go.G08 Go.G09 Go.G26 _root_.Go.Proofs.Tryz
theorem u0f:z1c prog 53 0 0:=λ_ _=>kr
theorem na51:z1y prog 51:=λ_=>kr
theorem nrm0:nrm G08.start=G08.start:=by simp[nrm,G08.start,y2t,y1g]
theorem x7e (A:Option Addr)(c:Nat)(bs:List UInt8)(M:Option Addr)(nM cM:Nat)(w0:World)(hs:Sl Enc.b w0 (.slice A bs.length c) bs)(b2:StT w0):Rets prog 10 #[.agg #[.slice A bs.length c,.slice M nM cM]] w0 λr w'=>(∃s:StQ,r=.agg #[.int .i64 s.rk,.slice s.q.f.1 s.q.f.2.1 s.q.f.2.2,.slice s.q.b.1 s.q.b.2.1 s.q.b.2.2,.slice s.yv.1 s.yv.2.1 s.yv.2.2,.slice s.fb.t.1 s.fb.t.2.1 s.fb.t.2.2,.slice s.fb.c.1 s.fb.c.2.1 s.fb.c.2.2,.slice s.fb.h.1 s.fb.h.2.1 s.fb.h.2.2,.slice s.fb.f.1 s.fb.f.2.1 s.fb.f.2.2]/\StK UK w' s/\∀q,z4u 0 G08.start (u9u (bs.map λb=>(b.toNat:Int)))=.ok q->StP s q 50)/\Fr [] w0 w':=by
 obtain⟨O,b6⟩:∃O:List Int,O=bs.map (λb=>(b.toNat:Int)):=⟨_,rfl⟩;rw[<-b6];have i3:O.length=bs.length:=by rw[b6,List.length_map]
 have f5:=hs.len_le;unfold maxLen at f5;have f6:∀i,i<bs.length->O.getD i 0=((bs.getD i 0).toNat:Int):=λi h=>by rw[b6,List.getD,List.getD,List.getElem?_map,List.getElem?_eq_getElem h];rfl
 refine we [(0,.agg #[.slice A bs.length c,.slice M nM cM])] func10 U ntmps10 U (.cons U .nil) ?_;have f4:=hs;have d1:=b2;refine sr (bx U (λg1 w1 h5 a1 q1 z1=>(al y9i U (λg2 w2 h6 a4 q2 z2=>?_))));replace a1:=a1.ext q2;obtain⟨bS,h4⟩:∃b:Nat,b=w2.heap.size:=⟨_,rfl⟩;have b0:=a1;have d4:=a4;refine nn (sr (z1s (cs:=[_,_,_,_,_,_]) (ev2 U) x6s (z0f U (z0f U z0q)) U ?_));refine z1g ([⟨1,0,0,0,1,0⟩]) (ev1 U) U y3m (λg8 w3 f8 e0 q3 z3=>(asg U (nn (sr (asg U (nn (sq (sr (asg U (nn (bl (lpK (ι:=Nat×Value) [(1,_),(2,_)] (λp_=>[(5,.int .i64 (p_.1:Int)),(3,p_.2),(4,.int .i64 ((y1m O p_.1).2:Int))]) (λp_ w'=>Fr [] w2 w'/\p_.1<=16/\Lw.Own z3c 44 bS w' p_.2 (y1m O p_.1).1) (λp_=>16-p_.1) (0,_) (.c5 U U U U U) ⟨q3,⟨Nat.zero_le _,e0.low oo⟩⟩ ?_))))))))))));rintro⟨n,vP⟩ w4 ⟨q4,⟨d9,Z⟩⟩;simp only at d9 Z;have z4:=q4.size;refine kpC [(1,_),(2,_),(5,.int .i64 (n:Int)),(3,vP),(4,.int .i64 ((y1m O n).2:Int))] (.c5 U U U U U) ?_;obtain⟨i0,i1⟩:=x4i O n;refine sq (sr (mv U (lt' U (nn (cd U (λc0=>?_) (λc0=>?_))))));refine sk (tn (sq (bl (sr (mv U (v6m U U (by first|exact IntWalk.i64_quo _ _ oo|rfl) U (z0x U (wi6 oo) (z1s (cs:=[_,_]) (ev2 U) y4d (z0f U (z0f U z0q)) U ?_))))))));refine al v4k U (λg6 w5 h7 I q5 z5=>?_);refine z0j (vs:=[_,_]) U I y5s (λw6 I q6 z6=>?_) (h1:=(by first|(simp[Value.oneCell',S];done)|exact z3c.one _));refine nn (jn (ι:=Unit) [(1,_),(2,_),(3,_),(4,_),(5,_),(6,_)] (λu_=>[]) (λu_ w'=>Fr [g6] w6 w'/\Blk w' g6 42 [.int .u8 (bdS n),.int .i64 (10+((n / 2:Nat):Int))]) (.c6 U U U U U U) ?_ ?_);refine sr (mv U (y3c U (by first|exact IntWalk.rem_in _ _ oo|rfl) (eq' U (nn (cd U (λc1=>?_) (λc1=>?_))))));refine rg (fad U z5w (z3l U I U j2w (λw7 I q7 z7=>?_)));replace I:Blk w7 g6 _ [_,_]:=I;exact nl (jE (()) (.c6 U U U U U U) ⟨((Fr.refl [g6] _).z1 q7),by rw[show bdS n=0 from if_pos oo,show (10:Int)+((n / 2:Nat):Int)=10+(n:Int) / 2 by omega];exact I⟩);exact sk (jE (()) (.c6 U U U U U U) ⟨(Fr.refl _ _),by rw[show bdS n=1 from if_neg oo,show (10:Int)+((n / 2:Nat):Int)=10+(n:Int) / 2 by omega];exact I⟩);rintro _u w8 ⟨q8,I⟩;have z8:=q8.size;have e8:=I.lt;refine kpC [(1,_),(2,_),(3,_),(4,_),(5,_),(6,_)] (.c6 U U U U U U) (sr (asg U (nn (bl (lpK (ι:=Nat) [(1,_),(2,_),(3,_),(4,_),(5,_),(6,_)] (λi=>[(7,.int .i64 (i:Int))]) (λi w'=>Fr [] w8 w'/\(i<=O.length/\i<=6)/\v0z n ((O.take 6).drop i) (y1m O n)=y1m O (n+1)) (λi=>6-i) 0 (.c7 U U U U U U U) ⟨Fr.refl _ _,⟨⟨Nat.zero_le _,Nat.zero_le _⟩,by rw[List.drop_zero];rfl⟩⟩ ?_)))));rintro i w9 ⟨q9,⟨h9,b5⟩⟩;have z9:=q9.size;refine kpC [(1,_),(2,_),(3,_),(4,_),(5,_),(6,_),(7,_)] (.c7 U U U U U U U) (sq (sq (rbo (r:=34) (L':=[(1,_),(2,_),(3,_),(4,_),(5,_),(6,_),(7,_)]) ((((i:Int)<(bs.length:Int))/\((i:Int)<6))) (.c7 U U U U U U U) ?_ ?_)));refine mv U (fad U u0f ?_);replace a1:=b0.ext (q4.z4 q5 q6 q8 q9);refine z0i U a1 U na51 (lnS U underlying51 (lt' U (mv U (gs 31 U (λg0=>?_) (λg0=>?_)))));exact gY U (mv U (gY U (lt' U (pkt U (rbe U (.c7 U U U U U U U))))));exact gN U (gN U (pkf U (rbe U (.c7 U U U U U U U))));refine tn (cd U (λc2=>?_) (λc2=>?_));have i2:=f6 i oo;have i4:=(bs.getD i 0).toNat_lt;refine sk (tn (sq (bl (sr (fad U u0f ?_)))));replace a1:=b0.ext (q4.z4 q5 q6 q8 q9);refine z0i U a1 U na51 (mv U ?_);replace hs:=f4.ext (q1.z6 q2 q4 q5 q6 q8 q9);refine z1d (0) U hs U j1u z1j (λf7 d5=>?_);refine z1k U (d5 _ hs) na5 (asg U (kpL [(1,_),(2,_),(3,_),(4,_),(5,_),(6,_),(7,_),(8,_)] (.c8 U U U U U U U U) (nn (sq (sq (rbo (r:=61) (L':=[(1,_),(2,_),(3,_),(4,_),(5,_),(6,_),(7,_),(8,_)]) (((((((bs.getD i 0).toNat:Int) % 8)≠((n:Int) / 2))\/(¬((((((bs.getD i 0).toNat:Int) / 8) % 2)=1)↔(((n:Int) % 2)=0))))\/(6<=((y1m O n).2:Int)))) (.c8 U U U U U U U U) ?_ ?_))))));refine mv U (y3c U (by first|exact IntWalk.rem_in _ _ oo|rfl) (z4m U (us underlying5) underlying3 (wi6 oo) (mv U (v6m U U (by first|exact IntWalk.i64_quo _ _ oo|rfl) U (ne' U (mv U (gs 48 U (λg1=>?_) (λg1=>?_))))))));exact gN U (gN U (gN U (gN U (gN U (gN U (gN U (gN U (pkt U (mv U (gN U (gN U (pkt U (rbe U (.c8 U U U U U U U U))))))))))))));refine gY U (mv U (gY U (v6m U U (by first|exact IntWalk.u8_quo _ _ oo|rfl) U (gY U (y3c U (by first|exact IntWalk.rem_in _ _ oo|rfl) (gY U (eq' U (gY U (mv U (gY U (y3c U (by first|exact IntWalk.rem_in _ _ oo|rfl) (gY U (eq' U (gY U (j1z U U underlying4 U (pkf U (mv U (gs 58 U (λg2=>?_) (λg2=>?_)))))))))))))))))));exact gN U (gN U (pkt U (rbe U (.c8 U U U U U U U U))));exact gY U (mv U (gY U (ge' U U (pkf U (rbe U (.c8 U U U U U U U U))))));refine tn (cd U (λc3=>?_) (λc3=>?_));have d7:¬v6p n (y1m O n).2 (O.getD i 0):=by unfold v6p;omega
 exact ex (te (xh (tn (rg (mv U (z0x U (wi6 oo) (asg U (nl (lpE ((i+1)) (.c7 U U U U U U U) ⟨q9,⟨⟨oo,oo⟩,by rw[<-b5,x9g oo oo d7]⟩⟩ oo)))))))));have d6:v6p n (y1m O n).2 (O.getD i 0):=by unfold v6p;omega
 have d0:y1m O (n+1)=u0g n (O.getD i 0) (y1m O n):=by rw[<-b5,v7y oo oo d6]
 refine sk (tn (sr (mv U ?_)));replace I:=I.ext q9;refine z0m U I z5r (z1s (cs:=[_,_,_,_,_,_]) (ev4 U) x6s (z0f U (z0f U (z0f U (z0f U z0q)))) U ?_);refine z1g ([opS 4 1 n]) (ev1 U) U y3m (λh0 j0 f9 e1 a8 k1=>?_);replace I:=I.ext a8;replace Z:=(((Z.ext q5).fr q6 (by first|exact z8h Z oo|simp[z0v]<;>omega)).fr q8 (by first|exact z8h Z oo|simp[z0v]<;>omega)).ext (q9.n1 a8);have a2:=Z;refine z1z U Z e1.sl y3m (λi7 j1 Z a9 f1=>?_) (hM:=(by unfold maxLen;simp only[List.length_append,List.length_cons,List.length_nil];omega)) (hb:=(by simp only[List.length_append,List.length_cons,List.length_nil];omega));have k2:=a9.size;replace I:=I.fr a9 (λhk=>a2.neB I dd hk);refine asg U (kpL [(1,_),(2,_),(3,_),(4,_),(5,_),(6,_),(8,_)] (.c7 U U U U U U U) (nn (sr (mv U (z0x U (wi6 oo) (asg U (nn (sq (sq (rbo (r:=76) (L':=[(1,_),(2,_),(3,_),(4,_),(5,_),(6,_)]) (((((((bs.getD i 0).toNat:Int) / 16) % 2)=1)/\((((y1m O n).2:Int)+1)<6))) (.c6 U U U U U U) ?_ ?_))))))))));refine mv U (v6m U U (by first|exact IntWalk.u8_quo _ _ oo|rfl) U (y3c U (by first|exact IntWalk.rem_in _ _ oo|rfl) (eq' U (mv U (gs 73 U (λg3=>?_) (λg3=>?_))))));exact gY U (mv U (gY U (lt' U (pkt U (rbe U (.c6 U U U U U U))))));exact gN U (gN U (pkf U (rbe U (.c6 U U U U U U))));refine tn (cd U (λc4=>?_) (λc4=>?_));have D:y1m O (n+1)=((y1m O n).1++[opS 4 1 n]++[opS 6 0 n,opS 5 1 n],(y1m O n).2+2):=by rw[d0];unfold u0g;rw[if_pos oo]
 refine sr (mv U (z0m U I z5r (z1s (cs:=[_,_,_,_,_,_]) (ev4 U) x6s (z0f U (z0f U (z0f U (z0f U z0q)))) U ?_)));refine z0m U I z5r (z1s (cs:=[_,_,_,_,_,_]) (ev4 U) x6s (z0f U (z0f U (z0f U (z0f U z0q)))) U ?_);refine z1g ([opS 6 0 n,opS 5 1 n]) (ev2 U) U y3m (λh2 j2 g4 e2 e5 k4=>?_);replace Z:=Z.ext e5;have b4:=Z;refine z1z U Z e2.sl y3m (λi8 j3 Z e6 f2=>?_) (hM:=(by unfold maxLen;simp only[List.length_append,List.length_cons,List.length_nil];omega)) (hb:=(by simp only[List.length_append,List.length_cons,List.length_nil];omega));have k5:=e6.size;refine asg U (kpL [(1,_),(2,_),(3,_),(4,_),(5,_)] (.c5 U U U U U) (nn (rg (mv U (z0x U (wi6 oo) (asg U (nl (tn (ex (xo U (te (te (xh (bn' (tn (rg (mv U (z0x U (wi6 oo) (asg U (nl ?_))))))))))))))))))));exact lpE ((n+1,_)) (.c5 U U U U (congrArg (λz=>some (Value.int .i64 z)) (by first|(rw[D];done)|(simp only;rw[D];done)|(rw[D];omega)|(rw[D];simp only;omega)|(simp only;rw[D];omega)|(simp only;rw[D];simp only;omega)))) ⟨((((q4.z5 q5 q6 q8 q9 a8).step a9 (λk hk a5=>absurd (a2.blk k hk).1 oo)).n1 e5).step e6 (λk hk a5=>absurd (b4.blk k hk).1 oo)),⟨sm,by simp only;rw[D];exact Z⟩⟩ sm;have D:y1m O (n+1)=((y1m O n).1++[opS 4 1 n],(y1m O n).2+1):=by rw[d0];unfold u0g;rw[if_neg oo]
 refine sk (tn (ex (xo U (te (te (xh (bn' (tn (rg (mv U (z0x U (wi6 oo) (asg U (nl ?_)))))))))))));exact lpE ((n+1,_)) (.c5 U U U U (congrArg (λz=>some (Value.int .i64 z)) (by first|(rw[D];done)|(simp only;rw[D];done)|(rw[D];omega)|(rw[D];simp only;omega)|(simp only;rw[D];omega)|(simp only;rw[D];simp only;omega)))) ⟨((q4.z5 q5 q6 q8 q9 a8).step a9 (λk hk a5=>absurd (a2.blk k hk).1 oo)),⟨sm,by simp only;rw[D];exact Z⟩⟩ sm;have D:y1m O (n+1)=(y1m O n):=by rw[<-b5,v5y oo]
 refine ex (te (te (xh (bn' (tn (rg (mv U (z0x U (wi6 oo) (asg U (nl ?_))))))))));replace Z:=(((Z.ext q5).fr q6 (by first|exact z8h Z oo|simp[z0v]<;>omega)).fr q8 (by first|exact z8h Z oo|simp[z0v]<;>omega)).ext q9;exact lpE ((n+1,_)) (.c5 U U U U (congrArg (λz=>some (Value.int .i64 z)) (by first|(rw[D];done)|(simp only;rw[D];done)|(rw[D];omega)|(rw[D];simp only;omega)|(simp only;rw[D];omega)|(simp only;rw[D];simp only;omega)))) ⟨(q4.z4 q5 q6 q8 q9),⟨sm,by simp only;rw[D];exact Z⟩⟩ sm;obtain rfl:n=16:=by omega
 refine ex (te (te (xh (tn (sr (cl z0g (mkC func8) (y7a _) U ?_))))));rintro _ j4 ⟨⟨gy,gt,rfl,c9⟩,q14⟩;have k6:=q14.size;have a3:=c9.k;clear c9;refine mv U (z1s (cs:=[_,_,_,_,_,_]) (ev2 U) x6s (z0f U (z0f U z0q)) U ?_);refine z1g ([⟨2,0,0,0,1,0⟩]) (ev1 U) U y3m (λh3 j5 g5 e3 a6 k7=>?_);replace a3:=a3.ext a6;replace Z:=Z.ext (q14.n1 a6);have a0:=Z;refine z1z U Z e3.sl y3m (λi9 j6 Z a7 f3=>?_) (hM:=(by unfold maxLen;simp only[List.length_append,List.length_cons,List.length_nil];omega)) (hb:=(by simp only[List.length_append,List.length_cons,List.length_nil];omega));have k8:=a7.size;replace a3:=a3.fr a7 (λk_ e9 _=>by obtain⟨g7,f0⟩:=z9b a0 k_ e9;exact⟨_,_,f0,dd⟩);have e4:(u9u O).length=(y1m O 16).1.length+1:=by unfold u9u;rw[List.length_append];rfl
 replace b2:=d1.ext ((q1.n4 q2 q4 q14 a6).step a7 (λk hk a5=>absurd (a0.blk k hk).1 oo));refine cl (ev2 U) (mkC func7) (x2p _ (u9u O) _ a3.at (stp0 gy gt) (by rw[e4];omega) Z.sl b2) U ?_;rintro _ j7 ⟨⟨s5,rfl,b9,d3,i5⟩,q17⟩;have k9:=q17.size;have b1:=b9.k;clear b9;refine mv U (xt U (xt U (xt U (al y9i U (λg9 j8 h8 b3 b7 l0=>?_)))));refine z0j (vs:=[_,_,_,_,_,_,_,_]) U b3 y1n (λj9 b3 b8 l1=>?_) (h1:=(by first|(simp[Value.oneCell',S];done)|exact z3c.one _));refine asg U (asg U (kpL [(2,_),(9,_)] (.c2 U U) (nn (sr (z0m U b3 y1l ?_)))));replace a4:=d4.ext (((q4.n2 q14 a6).step a7 (λk hk a5=>absurd (a0.blk k hk).1 oo)).z3 q17 b7 b8);refine z0j (vs:=[_,_,_,_,_,_,_,_]) U a4 y1n (λk0 a4 e7 l2=>?_) (h1:=(by first|(simp[Value.oneCell',S];done)|exact z3c.one _));refine nn (rt (rC results10 U a4 y1l  ?_));replace b1:=((b1.ext b7).fr b8 (by intro k hk _;rw[List.mem_singleton]at hk;subst hk;exact⟨_,_,by assumption,dd⟩)).fr e7 (by intro k hk _;rw[List.mem_singleton]at hk;subst hk;exact⟨_,_,by assumption,dd⟩);exact⟨_,rfl,⟨s5,rfl,b1,λq hq=>by rw[nrm0]at d3;exact(d3 q hq).mono (by rw[e4];omega)⟩,(((q1.n4 q2 q4 q14 a6).step a7 (λk hk a5=>absurd (a0.blk k hk).1 oo)).z4 q17 b7 b8 e7)⟩
end Go.Proofs.YtlfdhllfmoplgaaGreatDoor
namespace Go.G26
open Go.Lw Go.G21 Go.G08
def exP:List (List MOp):=[[xfP 0 10,rkP 1,rkP 0,xfP 1 10],[xfP 0 10,rkP 2,xfP 1 10,rkP 0],[xfP 0 10,rkP 3,xfP 1 10,rkP 0],[xfP 0 11,rkP (-1),xfP 1 11,rkP 0],[xfP 0 11,rkP (-1),rkP 0,xfP 1 11]]
def exW:List (List Int):=[[],[-1],[-1,-2],[1],[1,-1]]
def xa:LId:=⟨1,0⟩
def xb:LId:=⟨1,1⟩
def xc:LId:=⟨1,2⟩
def exH:List (List LId):=[[xa,xb,xc],[xb,xa,xc],[xb,xc,xa],[xb,xa,xc],[xa,xb,xc]]
def exA (p:MSt)(i:Nat):Bool:=match z4l (nrm p) (exP.getD i []) with
  | .error _=>false
  | .ok (w,q)=>decide (w=exW.getD i []/\u0r q=exH.getD i []/\(i=1->q.B.at 0 12=[xa,xc])/\(i=3->q.B.at 0 10=[xb,xa]))
def u6u (p:MSt)(l:List MOp):Int:=match z4l p l with
  | .error e=>e
  | .ok _=>0
def exB:Bool:=match z4u 0 G08.start exO with
  | .error _=>false
  | .ok p=>decide (u0r p=[xa,xb,xc]) && exA p 0 && exA p 1 && exA p 2 && exA p 3 && exA p 4 && decide (u6u (nrm p) [rkP 5]=1) && decide (u6u (nrm p) [xfP 0 13]=13)
theorem ex_b:exB=true:=by decide +kernel
theorem u7t:∃p,z4u 0 G08.start exO=.ok p/\u0r p=[xa,xb,xc]/\u6u (nrm p) [rkP 5]=1/\u6u (nrm p) [xfP 0 13]=13/\
    ∀i,i<5->∃q,z4l (nrm p) (exP.getD i [])=.ok (exW.getD i [],q)/\u0r q=exH.getD i []/\(i=1->q.B.at 0 12=[xa,xc])/\(i=3->q.B.at 0 10=[xb,xa]):=by
  have h:=ex_b
  unfold exB at h
  split at h
  · cases h
  · rename_i p O
    simp only[Bool.and_eq_true,decide_eq_true_eq]at h
    obtain⟨⟨⟨⟨⟨⟨⟨D,h2⟩,h3⟩,h4⟩,h5⟩,h6⟩,I⟩,M⟩:=h
    refine⟨p,O,D,I,M,λi hi=>?_⟩
    have k:exA p i=true:=by
      rcases(show i=0\/i=1\/i=2\/i=3\/i=4 by omega) with rfl|rfl|rfl|rfl|rfl<;>assumption
    unfold exA at k
    split at k
    · cases k
    · rename_i w q Z
      obtain⟨k1,k2,k3,k4⟩:=of_decide_eq_true k
      exact⟨q,by rw[Z,k1],k2,k3,k4⟩
def exT:List (List (List UInt8)):=[[[120,102,101,114,32,102,49,48],[114,97,99,107,32,49],[114,97,99,107,32,48],[120,102,101,114,32,98,49,48]],[[120,102,101,114,32,102,49,48],[114,97,99,107,32,50],[120,102,101,114,32,98,49,48],[114,97,99,107,32,48]],[[120,102,101,114,32,102,49,48],[114,97,99,107,32,51],[120,102,101,114,32,98,49,48],[114,97,99,107,32,48]],[[120,102,101,114,32,102,49,49],[114,97,99,107,32,45,49],[120,102,101,114,32,98,49,49],[114,97,99,107,32,48]],[[120,102,101,114,32,102,49,49],[114,97,99,107,32,45,49],[114,97,99,107,32,48],[120,102,101,114,32,98,49,49]]]
theorem u9h:∀i,i<5->(exT.getD i []).length=4/\(exP.getD i []).length=4/\∀k,k<4->y6f ((exT.getD i []).getD k [])=((exP.getD i []).getD k op0,0)/\((exT.getD i []).getD k []).length<=100:=by decide +kernel
theorem u9p:∀i,i<5->(exW.getD i []).length<=2:=dd
theorem u0u:y6f [120,102,101,114,32,102,49,51]=(xfP 0 13,0):=by decide +kernel
theorem y0v {p:MSt}{l:List MOp}{e:Int}(h:u6u p l=e)(D:e≠0):z4l p l=.error e:=by
 unfold u6u at h;split at h;rename_i x I;rw[I,h];exact absurd h.symm D
abbrev SQ (α:Type):=SV×List α
def encQ (α:Type):Enc (SQ α):=⟨λp=>[.slice p.1.1 p.1.2.1 p.1.2.2],1,λ_=>rfl,λ_ u h=>by simp at h;subst h;rfl,dd⟩
abbrev j2b:=encQ Int
abbrev j2t:=encQ (List UInt8)
abbrev sqi:SQ Int:=(sv0,[])
abbrev sqs:SQ (List UInt8):=(sv0,[])
def QAt {α:Type}(E:Enc α)(w:World)(l:List (SQ α)):Prop:=∀q∈l,Sl E w (slv q.1) q.2
theorem QAt.ext {α:Type}{E:Enc α}{w w':World}{l:List (SQ α)}(h:QAt E w l)(hf:Fr [] w w'):QAt E w' l:=λq D=>(h q D).ext hf
theorem QAt.get {α:Type}{E:Enc α}{w:World}{l:List (SQ α)}{d:SQ α}(h:QAt E w l){i:Nat}(D:i<l.length):Sl E w (slv (l.getD i d).1) (l.getD i d).2:=h _ (z1a D)
theorem QAt.five {α:Type}{E:Enc α}{w:World}{a b c d e:SQ α}(h1:Sl E w (slv a.1) a.2)(I:Sl E w (slv b.1) b.2)(M:Sl E w (slv c.1) c.2)(O:Sl E w (slv d.1) d.2)(Z:Sl E w (slv e.1) e.2):QAt E w [a,b,c,d,e]:=λq D=>by
 simp only[List.mem_cons,List.not_mem_nil,or_false]at D
 rcases D with rfl|rfl|rfl|rfl|rfl<;>assumption
end Go.G26
namespace Go.Proofs.YtlfdhllfmoplgaaGreatDoor
open Go.Lw Go.G21 Go.G08 Go.G09 Go.G26 _root_.Go.Proofs.Tryz
theorem x2x (l:List UInt8)(o:MOp)(e:Int)(w0:World)(hG:Glob w0)(h:y6f l=(o,e))(hl:l.length<=1000):Rets prog 31 #[S l] w0 λr w'=>r=opV o/\Fr [] w0 w':=by
 have a0:=hG.sz;refine we [(0,S l)] func31 U ntmps31 U (.cons U .nil) ?_;have M:=hG;refine sr (al v9d U (λg2 w1 a1 D q1 z1=>(nn (sr (mv U ?_)))));replace hG:=M.ext q1;refine cl (ev1 U) (mkC func81) (v8w l _ hG oo) U ?_;rintro _ w2 ⟨o',e',O,rfl,Z⟩;have z2:=Z.size;cases O.symm.trans h;refine mv U (xt U (xt U (al v9d U (λg3 w3 a2 I q3 z3=>(z0j (vs:=[_,_,_,_,_,_]) U I v4o (λw4 I q4 z4=>(asg U (kpL [(2,_),(3,_)] (.c2 U U) (nn (sr (z0m U I y3q ?_)))))))))));replace D:=(D.ext (Z.n1 q3)).fr q4;exact z0j (vs:=[_,_,_,_,_,_]) U D v4o (λw5 D q5 z5=>(nn (rt (rC results31 U D y3q  ⟨_,rfl,rfl,(q1.z4 Z q3 q4 q5)⟩))))
theorem v2p (v1 v2:Value)(O l2:List Int)(w0:World)(h1:Sl Enc.i64 w0 v1 O)(Z:Sl Enc.i64 w0 v2 l2)(hl:O.length<=100000):Rets prog 14 #[v1,v2] w0 λr w'=>r=.bool (decide (O=l2))/\Fr [] w0 w':=by
 obtain⟨A1,k1,rfl,a6⟩:=id h1.form;obtain⟨A2,k2,rfl,a7⟩:=id Z.form;refine we [(0,.slice A1 O.length k1),(1,.slice A2 l2.length k2)] func14 U ntmps14 U (.c2 U U) ?_;have a2:=h1;have a3:=Z;refine sr (asg U (nn (sq (sr (mv U (lnS U underlying22 (mv U (lnS U underlying22 (ne' U (nn (cd U (λc0=>?_) (λc0=>?_))))))))))));refine sr (asg U (nn (rt (tr (r1 results14 U ?_)))));exact⟨_,rfl,congrArg Value.bool (decide_eq_false (λe=>c0 (by rw[e]))).symm,(Fr.refl _ _)⟩;refine sk (tn (sq (sr (asg U (nn (bl (lpK (ι:=Nat) [(0,_),(1,_)] (λi=>[(5,.int .i64 (i:Int))]) (λi w'=>Fr [] w0 w'/\i<=O.length/\∀j,j<i->O.getD j 0=l2.getD j 0) (λi=>O.length-i) 0 (.c3 U U U) ⟨Fr.refl _ _,⟨Nat.zero_le _,λj h=>absurd h oo⟩⟩ ?_)))))));rintro i w1 ⟨q1,⟨hi,hz⟩⟩;have z1:=q1.size;refine kpC [(0,_),(1,_),(5,_)] (.c3 U U U) (sq (sr (mv U (mv U (lnS U underlying22 (lt' U (nn (cd U (λc1=>?_) (λc1=>?_)))))))));refine sk (tn (sq (bl (sq ?_))));replace h1:=a2.ext q1;replace Z:=a3.ext q1;intro a h;have D:=Fr.refl [] w1;refine z2z (λwb w'=>Fr [] wb w') z2o ?_;intro w2 hq;have z2:=hq.size;replace h1:=h1.ext hq;replace Z:=Z.ext hq;replace D:=D.next hq;have a8:=hq.size;clear hq;have hC:Fr [] w2 w2:=Fr.refl _ _;have I:=h1;have M:=Z;refine z0e 0 h U λa h=>z0e 1 h U λa h=>z1e (0) 2 h U h1 U z9t U ?_ (hp:=rfl);clear h a;intro a4 a0 a h;refine z2p 3 h wn U (λ_ hw=>a0 _ (I.ext hw)) na3 U λa h=>z0e 4 h U λa h=>z0e 5 h U λa h=>z1e (0) 6 h U Z U z9t U ?_ (hp:=rfl);clear h a;intro a5 a1 a h;refine z2p 7 h wn U (λ_ hw=>a1 _ (M.ext hw)) na3 U λa h=>v9e 8 hC h wn U U U U λa h=>z0r ?_;clear hC I M;have z2:=D.size;refine bk (h.sub (L':=[(0,_),(1,_),(5,_),(25,_)]) (.c4 U U U U)) (tn (cd U (λc2=>?_) (λc2=>?_)));refine sr (asg U (nn (rt (rb (tr (tr (rb (tr (r1 results14 U ?_)))))))));exact⟨_,rfl,congrArg Value.bool (decide_eq_false (λe=>c2 (by rw[e]))).symm,(q1.n1 D)⟩;refine sk (bn' (tn (rg (mv U (z0x U (wi6 oo) (asg U (nl ?_)))))));exact lpE (i+1) (.c3 U U U) ⟨(q1.n1 D),⟨oo,λj h=>by
  by_cases e:j=i;subst e;exact Classical.not_not.1 c2;exact hz j oo⟩⟩ oo
 obtain rfl:i=O.length:=by omega
 refine ex (te (te (xh (tn (sr (asg U (nn (rt (r1 results14 U ?_)))))))));exact⟨_,rfl,congrArg Value.bool (decide_eq_true (x3n 0 oo (λj hj=>hz j oo))).symm,q1⟩
theorem z8z (v1 v2:Value)(O l2:List LId)(w0:World)(h1:Sl z1b w0 v1 O)(Z:Sl z1b w0 v2 l2)(hl:O.length<=100000):Rets prog 32 #[v1,v2] w0 λr w'=>r=.bool (decide (O=l2))/\Fr [] w0 w':=by
 obtain⟨A1,k1,rfl,a6⟩:=id h1.form;obtain⟨A2,k2,rfl,a7⟩:=id Z.form;refine we [(0,.slice A1 O.length k1),(1,.slice A2 l2.length k2)] func32 U ntmps32 U (.c2 U U) ?_;have a2:=h1;have a3:=Z;refine sr (asg U (nn (sq (sr (mv U (lnS U underlying30 (mv U (lnS U underlying30 (ne' U (nn (cd U (λc0=>?_) (λc0=>?_))))))))))));refine sr (asg U (nn (rt (tr (r1 results32 U ?_)))));exact⟨_,rfl,congrArg Value.bool (decide_eq_false (λe=>c0 (by rw[e]))).symm,(Fr.refl _ _)⟩;refine sk (tn (sq (sr (asg U (nn (bl (lpK (ι:=Nat) [(0,_),(1,_)] (λi=>[(5,.int .i64 (i:Int))]) (λi w'=>Fr [] w0 w'/\i<=O.length/\∀j,j<i->O.getD j id0=l2.getD j id0) (λi=>O.length-i) 0 (.c3 U U U) ⟨Fr.refl _ _,⟨Nat.zero_le _,λj h=>absurd h oo⟩⟩ ?_)))))));rintro i w1 ⟨q1,⟨hi,hz⟩⟩;have z1:=q1.size;refine kpC [(0,_),(1,_),(5,_)] (.c3 U U U) (sq (sr (mv U (mv U (lnS U underlying30 (lt' U (nn (cd U (λc1=>?_) (λc1=>?_)))))))));refine sk (tn (sq (bl (sq ?_))));replace h1:=a2.ext q1;replace Z:=a3.ext q1;intro a h;have D:=Fr.refl [] w1;refine z2z (λwb w'=>Fr [] wb w') z2o ?_;intro w2 hq;have z2:=hq.size;replace h1:=h1.ext hq;replace Z:=Z.ext hq;replace D:=D.next hq;have a8:=hq.size;clear hq;have hC:Fr [] w2 w2:=Fr.refl _ _;have I:=h1;have M:=Z;refine z0e 0 h U λa h=>z0e 1 h U λa h=>z1e (id0) 2 h U h1 U z3x U ?_ (hp:=rfl);clear h a;intro a4 a0 a h;refine z1x 3 h wn U (λ_ hw=>a0 _ (I.ext hw)) z2q U λa h=>z0e 4 h U λa h=>z0e 5 h U λa h=>z1e (id0) 6 h U Z U z3x U ?_ (hp:=rfl);clear h a;intro a5 a1 a h;refine z1x 7 h wn U (λ_ hw=>a1 _ (M.ext hw)) z2q U λa h=>u0v (V:=idV) (e:=_) (f:=_) 8 hC h wn U U j1s U U λa h=>z0r ?_;clear hC I M;have z2:=D.size;refine bk (h.sub (L':=[(0,_),(1,_),(5,_),(25,_)]) (.c4 U U U U)) (tn (cd U (λc2=>?_) (λc2=>?_)));refine sr (asg U (nn (rt (rb (tr (tr (rb (tr (r1 results32 U ?_)))))))));exact⟨_,rfl,congrArg Value.bool (decide_eq_false (λe=>c2 (by rw[e]))).symm,(q1.n1 D)⟩;refine sk (bn' (tn (rg (mv U (z0x U (wi6 oo) (asg U (nl ?_)))))));exact lpE (i+1) (.c3 U U U) ⟨(q1.n1 D),⟨oo,λj h=>by
  by_cases e:j=i;subst e;exact Classical.not_not.1 c2;exact hz j oo⟩⟩ oo
 obtain rfl:i=O.length:=by omega
 refine ex (te (te (xh (tn (sr (asg U (nn (rt (r1 results32 U ?_)))))))));exact⟨_,rfl,congrArg Value.bool (decide_eq_true (x3n id0 oo (λj hj=>hz j oo))).symm,q1⟩
end Go.Proofs.YtlfdhllfmoplgaaGreatDoor
