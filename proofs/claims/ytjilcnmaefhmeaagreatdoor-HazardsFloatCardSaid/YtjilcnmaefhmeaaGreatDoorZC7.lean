/- Texts of the proof, joined. -/
import Derived.Shelf.Strings.Builder1
import Derived.Shelf.Strings.Builder2
import Derived.Shelf.Strings.OnBuilder
import Derived.Shelf.Strings.Trim
import Derived.Shelf.Small.Utf8
import Derived.Shelf.Small.Bits
import Derived.Shelf.Small.Strs
import Derived.Shelf.Strconv.Atoi
import Derived.Shelf.Strconv.Itoa0
import Derived.Shelf.Strconv.Itoa1
import Derived.Shelf.LaysM
import Derived.Shelf.Strconv.Itoa2
import Derived.Shelf.Strconv.Itoa3
import Derived.Shelf.Strconv.AtoiErrFast
import Derived.Shelf.Strconv.ParseIntEmpty
import Derived.Shelf.Strconv.AtoiFail
import Derived.Shelf.Strconv.Clone
import Derived.Shelf.Strconv.SyntaxError
import Derived.Shelf.LaysC
import Derived.Shelf.Strconv.ToError
import Derived.Shelf.Strconv.AtoiErr
import Derived.Shelf.Strconv.ErrVar
import Derived.Shelf.Strconv.Lower
import Derived.Shelf.Strconv.ParseUint10
import Derived.Shelf.Strconv.ParseUint10Empty
import Derived.Shelf.Strconv.ParseUint10Any
import Derived.Shelf.Strconv.ParseInt10
import Derived.Shelf.Strconv.AtoiLong
import Derived.Shelf.Strconv.AtoiInnerAll
import Derived.Shelf.Strconv.RangeError
import Derived.Shelf.Strconv.ToErrorRange
import Derived.Shelf.Strconv.AtoiAll
import Derived.Shelf.Strconv.ErrVarAll
import Derived.Shelf.Strings.Search1
import Derived.Shelf.Strings.Search2
import Derived.Shelf.Strings.Search3
import Derived.Shelf.Strings.Cut
import Derived.Shelf.Strings.Count
import Derived.Shelf.Strings.Shaped
import Derived.Shelf.Strings.Split
import Derived.Shelf.Strings.SplitShaped
import Derived.Shelf.Strings.Runes
import Derived.Shelf.Strings.AsciiSet
import Derived.Shelf.Unicode.DecodeSlow
import Derived.Test.YtjilcnmaefhmeaaGreatDoorProg
import Derived.Test.YtjilcnmaefhmeaaGreatDoorRows
import Derived.Lib.ItoaLen
import Derived.Lib.LaidTab
import Derived.LaidSub
import Derived.Test.YtjilcnmaefhmeaaGreatDoorCards
import Derived.Test.YtjilcnmaefhmeaaGreatDoorTie
import Derived.ChangeMaps5
import Derived.OpenShut
import Derived.Test.YtjilcnmaefhmeaaGreatDoorZC6
set_option linter.unusedVariables false
set_option linter.unusedSimpArgs false
set_option maxHeartbeats 4000000
namespace Go.Proofs
open Go.Shelf
def Tryz.lays156_ren:Go.Shelf.Ren:=⟨fun|156=>78|165=>139|166=>77|169=>83|240=>138|241=>194|276=>193|277=>248|n=>n,fun|31=>84|9=>9|3=>3|4=>4|0=>0|20=>20|72=>162|76=>165|70=>160|37=>81|75=>164|127=>229|164=>283|5=>5|80=>173|n=>n,fun|n=>n⟩
theorem Tryz.lays156:Go.Proofs.Lays.n156 Tryz.prog Tryz.lays156_ren:={
 mixed:=by kernel_rfl
 f156:=Tryz.func78.trans (congrArg some (by kernel_rfl))
 f165:=Tryz.func139.trans (congrArg some (by kernel_rfl))
 f166:=Tryz.func77.trans (congrArg some (by kernel_rfl))
 f169:=Tryz.func83.trans (congrArg some (by kernel_rfl))
 f240:=Tryz.func138.trans (congrArg some (by kernel_rfl))
 f241:=Tryz.func194.trans (congrArg some (by kernel_rfl))
 f276:=Tryz.func193.trans (congrArg some (by kernel_rfl))
 f277:=Tryz.func248.trans (congrArg some (by kernel_rfl))
 t0:=Tryz.underlying0
 a0:=Tryz.isAgg0
 z0:=Tryz.sizeOf0
 v0:=Tryz.zeroValue0
 t3:=Tryz.underlying3
 a3:=Tryz.isAgg3
 z3:=Tryz.sizeOf3
 v3:=Tryz.zeroValue3
 t4:=Tryz.underlying4
 a4:=Tryz.isAgg4
 z4:=Tryz.sizeOf4
 v4:=Tryz.zeroValue4
 t9:=Tryz.underlying9
 a9:=Tryz.isAgg9
 z9:=Tryz.sizeOf9
 v9:=Tryz.zeroValue9
 t20:=Tryz.underlying20
 a20:=Tryz.isAgg20
 z20:=Tryz.sizeOf20
 v20:=Tryz.zeroValue20
 t31:=Tryz.underlying84
 a31:=Tryz.isAgg84
 z31:=Tryz.sizeOf84
 v31:=Tryz.zeroValue84
 t37:=Tryz.underlying81
 a37:=Tryz.isAgg81
 z37:=Tryz.sizeOf81
 v37:=Tryz.zeroValue81
 t70:=Tryz.underlying160
 a70:=Tryz.isAgg160
 z70:=Tryz.sizeOf160
 v70:=Tryz.zeroValue160
 t72:=Tryz.underlying162
 a72:=Tryz.isAgg162
 z72:=Tryz.sizeOf162
 v72:=Tryz.zeroValue162
 t75:=Tryz.underlying164
 a75:=Tryz.isAgg164
 z75:=Tryz.sizeOf164
 v75:=Tryz.zeroValue164
 t76:=Tryz.underlying165
 a76:=Tryz.isAgg165
 z76:=Tryz.sizeOf165
 v76:=Tryz.zeroValue165
 t127:=Tryz.underlying229
 a127:=Tryz.isAgg229
 z127:=Tryz.sizeOf229
 v127:=Tryz.zeroValue229
 t164:=Tryz.underlying283
 a164:=Tryz.isAgg283
 z164:=Tryz.sizeOf283
 v164:=Tryz.zeroValue283 }
theorem Tryz.Builder_Extra_156:Builder.Extra Tryz.prog Tryz.lays156_ren:={
 sizeBuilder:=by kernel_rfl
 liesBuilder:=by kernel_rfl
 t5:=Tryz.underlying5
 a5:=Tryz.isAgg5
 z5:=Tryz.sizeOf5
 v5:=Tryz.zeroValue5
 infoByte:=by kernel_rfl
 cellsByte:=by kernel_rfl
 sizeByte:=by kernel_rfl
 neB5:=by decide }
open Go.RowKit in
theorem Tryz.strings_Join (bk o c:Nat)(J:List ByteArray)(I:ByteArray)(w:World)(D:∀(j:Nat) x,J[j]?=some x->w.cell? ⟨bk,o+j,none⟩=some (.string x))(Z:bk<w.heap.size)(hN:J.length<=140737488355328)(M:J.length<=c)(O:(Lib.join (J.map (·.data.toList)) I.data.toList).length<=140737488355328) :
 Calls Tryz.prog 78 #[.slice (some ⟨bk,o,none⟩) J.length c,.string I] w λe w'=>e=.returned (.string ⟨(Lib.join (J.map (·.data.toList)) I.data.toList).toArray⟩)/\Below w.heap.size w w':=Any.strings_Join Tryz.lays156 Tryz.Builder_Extra_156 bk o c J I w D Z hN M O
def Tryz.lays160_ren:Go.Shelf.Ren:=⟨fun|160=>136|232=>185|231=>184|227=>186|234=>188|233=>187|236=>190|235=>189|228=>240|271=>243|151=>242|197=>241|120=>282|152=>281|260=>280|137=>293|119=>294|224=>278|225=>277|217=>276|266=>291|n=>n,fun|9=>9|4=>4|3=>3|5=>5|117=>277|116=>276|0=>0|124=>280|21=>21|105=>331|46=>217|119=>368|139=>371|138=>370|n=>n,fun|3=>6|4=>7|n=>n⟩
theorem Tryz.lays160:Go.Proofs.Lays.n160 Tryz.prog Tryz.lays160_ren:={
 mixed:=by kernel_rfl
 f119:=Tryz.func294.trans (congrArg some (by kernel_rfl))
 f120:=Tryz.func282.trans (congrArg some (by kernel_rfl))
 f137:=Tryz.func293.trans (congrArg some (by kernel_rfl))
 f151:=Tryz.func242.trans (congrArg some (by kernel_rfl))
 f152:=Tryz.func281.trans (congrArg some (by kernel_rfl))
 f160:=Tryz.func136.trans (congrArg some (by kernel_rfl))
 f197:=Tryz.func241.trans (congrArg some (by kernel_rfl))
 f217:=Tryz.func276.trans (congrArg some (by kernel_rfl))
 f224:=Tryz.func278.trans (congrArg some (by kernel_rfl))
 f225:=Tryz.func277.trans (congrArg some (by kernel_rfl))
 f227:=Tryz.func186.trans (congrArg some (by kernel_rfl))
 f228:=Tryz.func240.trans (congrArg some (by kernel_rfl))
 f231:=Tryz.func184.trans (congrArg some (by kernel_rfl))
 f232:=Tryz.func185.trans (congrArg some (by kernel_rfl))
 f233:=Tryz.func187.trans (congrArg some (by kernel_rfl))
 f234:=Tryz.func188.trans (congrArg some (by kernel_rfl))
 f235:=Tryz.func189.trans (congrArg some (by kernel_rfl))
 f236:=Tryz.func190.trans (congrArg some (by kernel_rfl))
 f260:=Tryz.func280.trans (congrArg some (by kernel_rfl))
 f266:=Tryz.func291.trans (congrArg some (by kernel_rfl))
 f271:=Tryz.func243.trans (congrArg some (by kernel_rfl))
 t0:=Tryz.underlying0
 a0:=Tryz.isAgg0
 z0:=Tryz.sizeOf0
 v0:=Tryz.zeroValue0
 t3:=Tryz.underlying3
 a3:=Tryz.isAgg3
 z3:=Tryz.sizeOf3
 v3:=Tryz.zeroValue3
 t4:=Tryz.underlying4
 a4:=Tryz.isAgg4
 z4:=Tryz.sizeOf4
 v4:=Tryz.zeroValue4
 t5:=Tryz.underlying5
 a5:=Tryz.isAgg5
 z5:=Tryz.sizeOf5
 v5:=Tryz.zeroValue5
 t9:=Tryz.underlying9
 a9:=Tryz.isAgg9
 z9:=Tryz.sizeOf9
 v9:=Tryz.zeroValue9
 t21:=Tryz.underlying21
 a21:=Tryz.isAgg21
 z21:=Tryz.sizeOf21
 v21:=Tryz.zeroValue21
 t46:=Tryz.underlying217
 a46:=Tryz.isAgg217
 z46:=Tryz.sizeOf217
 v46:=Tryz.zeroValue217
 t105:=Tryz.underlying331
 a105:=Tryz.isAgg331
 z105:=Tryz.sizeOf331
 v105:=Tryz.zeroValue331
 t116:=Tryz.underlying276
 a116:=Tryz.isAgg276
 z116:=Tryz.sizeOf276
 t117:=Tryz.underlying277
 a117:=Tryz.isAgg277
 z117:=Tryz.sizeOf277
 v117:=Tryz.zeroValue277
 t119:=Tryz.underlying368
 a119:=Tryz.isAgg368
 z119:=Tryz.sizeOf368
 t124:=Tryz.underlying280
 a124:=Tryz.isAgg280
 z124:=Tryz.sizeOf280
 v124:=Tryz.zeroValue280
 t138:=Tryz.underlying370
 a138:=Tryz.isAgg370
 z138:=Tryz.sizeOf370
 v138:=Tryz.zeroValue370
 t139:=Tryz.underlying371
 a139:=Tryz.isAgg371
 z139:=Tryz.sizeOf371
 v139:=Tryz.zeroValue371
 g3:=by kernel_rfl
 g4:=by kernel_rfl }
open Go.RowKit in
theorem Tryz.strings_Trim_one (s:ByteArray)(c:UInt8)(D:c.toNat<128)(w:World)(I:s.size<=9223372036854775807) :
 Calls Tryz.prog 136 #[.string s,.string ⟨#[c]⟩] w λe w'=>e=.returned (.string ⟨(Lib.trimB s.data.toList c).toArray⟩)/\(w'=w\/w'=w.drew):=Any.strings_Trim_one Tryz.lays160 s c D w I
def Tryz.laysM171_ren:Go.Shelf.Ren:=⟨fun|171=>71|243=>132|246=>181|283=>232|284=>233|285=>234|286=>235|129=>179|317=>270|318=>271|319=>272|320=>273|337=>289|338=>290|n=>n,fun|3=>3|9=>9|2=>2|4=>4|171=>325|0=>0|53=>270|37=>81|5=>5|173=>327|212=>360|51=>268|20=>20|213=>361|46=>217|232=>374|233=>375|n=>n,fun|17=>4|18=>8|19=>9|n=>n⟩
theorem Tryz.laysM171:Go.Proofs.LaysM.n171 Tryz.prog Tryz.laysM171_ren:={
 mixed:=by kernel_rfl
 f129:=Tryz.func179.trans (congrArg some (by kernel_rfl))
 f171:=Tryz.func71.trans (congrArg some (by kernel_rfl))
 f243:=Tryz.func132.trans (congrArg some (by kernel_rfl))
 f246:=Tryz.func181.trans (congrArg some (by kernel_rfl))
 f283:=Tryz.func232.trans (congrArg some (by kernel_rfl))
 f284:=Tryz.func233.trans (congrArg some (by kernel_rfl))
 f285:=Tryz.func234.trans (congrArg some (by kernel_rfl))
 f286:=Tryz.func235.trans (congrArg some (by kernel_rfl))
 f317:=Tryz.func270.trans (congrArg some (by kernel_rfl))
 f318:=Tryz.func271.trans (congrArg some (by kernel_rfl))
 f319:=Tryz.func272.trans (congrArg some (by kernel_rfl))
 f320:=Tryz.func273.trans (congrArg some (by kernel_rfl))
 f337:=Tryz.func289.trans (congrArg some (by kernel_rfl))
 f338:=Tryz.func290.trans (congrArg some (by kernel_rfl))
 t0:=Tryz.underlying0
 a0:=Tryz.isAgg0
 z0:=Tryz.sizeOf0
 v0:=Tryz.zeroValue0
 t2:=Tryz.underlying2
 a2:=Tryz.isAgg2
 z2:=Tryz.sizeOf2
 v2:=Tryz.zeroValue2
 t3:=Tryz.underlying3
 a3:=Tryz.isAgg3
 z3:=Tryz.sizeOf3
 v3:=Tryz.zeroValue3
 t4:=Tryz.underlying4
 a4:=Tryz.isAgg4
 z4:=Tryz.sizeOf4
 v4:=Tryz.zeroValue4
 t5:=Tryz.underlying5
 a5:=Tryz.isAgg5
 z5:=Tryz.sizeOf5
 v5:=Tryz.zeroValue5
 t9:=Tryz.underlying9
 a9:=Tryz.isAgg9
 z9:=Tryz.sizeOf9
 v9:=Tryz.zeroValue9
 t20:=Tryz.underlying20
 a20:=Tryz.isAgg20
 z20:=Tryz.sizeOf20
 v20:=Tryz.zeroValue20
 t37:=Tryz.underlying81
 a37:=Tryz.isAgg81
 z37:=Tryz.sizeOf81
 v37:=Tryz.zeroValue81
 t46:=Tryz.underlying217
 a46:=Tryz.isAgg217
 z46:=Tryz.sizeOf217
 v46:=Tryz.zeroValue217
 t51:=Tryz.underlying268
 a51:=Tryz.isAgg268
 z51:=Tryz.sizeOf268
 v51:=Tryz.zeroValue268
 t53:=Tryz.underlying270
 a53:=Tryz.isAgg270
 z53:=Tryz.sizeOf270
 v53:=Tryz.zeroValue270
 t171:=Tryz.underlying325
 a171:=Tryz.isAgg325
 z171:=Tryz.sizeOf325
 v171:=Tryz.zeroValue325
 t173:=Tryz.underlying327
 a173:=Tryz.isAgg327
 z173:=Tryz.sizeOf327
 v173:=Tryz.zeroValue327
 t212:=Tryz.underlying360
 a212:=Tryz.isAgg360
 z212:=Tryz.sizeOf360
 v212:=Tryz.zeroValue360
 t213:=Tryz.underlying361
 a213:=Tryz.isAgg361
 z213:=Tryz.sizeOf361
 t232:=Tryz.underlying374
 a232:=Tryz.isAgg374
 z232:=Tryz.sizeOf374
 v232:=Tryz.zeroValue374
 t233:=Tryz.underlying375
 a233:=Tryz.isAgg375
 z233:=Tryz.sizeOf375
 v233:=Tryz.zeroValue375
 g17:=by kernel_rfl
 g18:=by kernel_rfl
 g19:=by kernel_rfl
 i0:=by kernel_rfl
 i2:=by kernel_rfl
 i3:=by kernel_rfl
 i4:=by kernel_rfl
 i5:=by kernel_rfl
 i9:=by kernel_rfl
 i20:=by kernel_rfl
 i37:=by kernel_rfl
 i46:=by kernel_rfl
 i51:=by kernel_rfl
 i53:=by kernel_rfl
 i171:=by kernel_rfl
 i173:=by kernel_rfl
 i212:=by kernel_rfl
 i232:=by kernel_rfl
 i233:=by kernel_rfl
 m17:=by kernel_rfl
 m18:=by kernel_rfl
 m19:=by kernel_rfl }
open Go.RowKit Go.Sort Go.Lib in
theorem Tryz.strconv_Itoa (n:Int)(h0:-9223372036854775808<=n)(h1:n<=9223372036854775807)(w:World)(D:Lib.TabIs Tryz.prog w "internal/strconv.uint64pow10" .u64 Lib.pow10Tab) :
 Calls Tryz.prog 71 #[.int .i64 n] w λe w'=>e=.returned (.string ⟨(Lib.itoa n).toArray⟩)/\∃k I,w'=grow (w.drewN k) I:=Any.strconv_Itoa Tryz.laysM171 n h0 h1 w D
def Tryz.laysC172_ren:Go.Shelf.Ren:=⟨fun|172=>283|244=>295|245=>296|247=>298|279=>299|280=>300|281=>301|282=>302|287=>303|316=>304|171=>71|205=>305|321=>306|322=>307|243=>132|246=>181|283=>232|284=>233|285=>234|286=>235|129=>179|317=>270|318=>271|319=>272|320=>273|337=>289|338=>290|n=>n,fun|9=>9|3=>3|75=>164|76=>165|4=>4|5=>5|167=>376|37=>81|0=>0|85=>377|2=>2|168=>379|53=>270|175=>382|46=>217|210=>386|127=>229|145=>392|143=>390|21=>21|171=>325|173=>327|212=>360|51=>268|20=>20|213=>361|232=>374|233=>375|80=>173|n=>n,fun|15=>10|16=>11|17=>4|18=>8|19=>9|n=>n⟩
theorem Tryz.laysC172:Go.Proofs.LaysC.n172 Tryz.prog Tryz.laysC172_ren:={
 mixed:=by kernel_rfl
 f129:=Tryz.func179.trans (congrArg some (by kernel_rfl))
 f171:=Tryz.func71.trans (congrArg some (by kernel_rfl))
 f172:=Tryz.func283.trans (congrArg some (by kernel_rfl))
 f205:=Tryz.func305.trans (congrArg some (by kernel_rfl))
 f243:=Tryz.func132.trans (congrArg some (by kernel_rfl))
 f244:=Tryz.func295.trans (congrArg some (by kernel_rfl))
 f245:=Tryz.func296.trans (congrArg some (by kernel_rfl))
 f246:=Tryz.func181.trans (congrArg some (by kernel_rfl))
 f247:=Tryz.func298.trans (congrArg some (by kernel_rfl))
 f279:=Tryz.func299.trans (congrArg some (by kernel_rfl))
 f280:=Tryz.func300.trans (congrArg some (by kernel_rfl))
 f281:=Tryz.func301.trans (congrArg some (by kernel_rfl))
 f282:=Tryz.func302.trans (congrArg some (by kernel_rfl))
 f283:=Tryz.func232.trans (congrArg some (by kernel_rfl))
 f284:=Tryz.func233.trans (congrArg some (by kernel_rfl))
 f285:=Tryz.func234.trans (congrArg some (by kernel_rfl))
 f286:=Tryz.func235.trans (congrArg some (by kernel_rfl))
 f287:=Tryz.func303.trans (congrArg some (by kernel_rfl))
 f316:=Tryz.func304.trans (congrArg some (by kernel_rfl))
 f317:=Tryz.func270.trans (congrArg some (by kernel_rfl))
 f318:=Tryz.func271.trans (congrArg some (by kernel_rfl))
 f319:=Tryz.func272.trans (congrArg some (by kernel_rfl))
 f320:=Tryz.func273.trans (congrArg some (by kernel_rfl))
 f321:=Tryz.func306.trans (congrArg some (by kernel_rfl))
 f322:=Tryz.func307.trans (congrArg some (by kernel_rfl))
 f337:=Tryz.func289.trans (congrArg some (by kernel_rfl))
 f338:=Tryz.func290.trans (congrArg some (by kernel_rfl))
 t0:=Tryz.underlying0
 a0:=Tryz.isAgg0
 z0:=Tryz.sizeOf0
 v0:=Tryz.zeroValue0
 t2:=Tryz.underlying2
 a2:=Tryz.isAgg2
 z2:=Tryz.sizeOf2
 v2:=Tryz.zeroValue2
 t3:=Tryz.underlying3
 a3:=Tryz.isAgg3
 z3:=Tryz.sizeOf3
 v3:=Tryz.zeroValue3
 t4:=Tryz.underlying4
 a4:=Tryz.isAgg4
 z4:=Tryz.sizeOf4
 v4:=Tryz.zeroValue4
 t5:=Tryz.underlying5
 a5:=Tryz.isAgg5
 z5:=Tryz.sizeOf5
 v5:=Tryz.zeroValue5
 t9:=Tryz.underlying9
 a9:=Tryz.isAgg9
 z9:=Tryz.sizeOf9
 v9:=Tryz.zeroValue9
 t20:=Tryz.underlying20
 a20:=Tryz.isAgg20
 z20:=Tryz.sizeOf20
 v20:=Tryz.zeroValue20
 t21:=Tryz.underlying21
 a21:=Tryz.isAgg21
 z21:=Tryz.sizeOf21
 v21:=Tryz.zeroValue21
 t37:=Tryz.underlying81
 a37:=Tryz.isAgg81
 z37:=Tryz.sizeOf81
 v37:=Tryz.zeroValue81
 t46:=Tryz.underlying217
 a46:=Tryz.isAgg217
 z46:=Tryz.sizeOf217
 v46:=Tryz.zeroValue217
 t51:=Tryz.underlying268
 a51:=Tryz.isAgg268
 z51:=Tryz.sizeOf268
 v51:=Tryz.zeroValue268
 t53:=Tryz.underlying270
 a53:=Tryz.isAgg270
 z53:=Tryz.sizeOf270
 v53:=Tryz.zeroValue270
 t75:=Tryz.underlying164
 a75:=Tryz.isAgg164
 z75:=Tryz.sizeOf164
 v75:=Tryz.zeroValue164
 t76:=Tryz.underlying165
 a76:=Tryz.isAgg165
 z76:=Tryz.sizeOf165
 v76:=Tryz.zeroValue165
 t85:=Tryz.underlying377
 a85:=Tryz.isAgg377
 z85:=Tryz.sizeOf377
 v85:=Tryz.zeroValue377
 t127:=Tryz.underlying229
 a127:=Tryz.isAgg229
 z127:=Tryz.sizeOf229
 v127:=Tryz.zeroValue229
 t143:=Tryz.underlying390
 a143:=Tryz.isAgg390
 z143:=Tryz.sizeOf390
 v143:=Tryz.zeroValue390
 t145:=Tryz.underlying392
 a145:=Tryz.isAgg392
 z145:=Tryz.sizeOf392
 v145:=Tryz.zeroValue392
 t167:=Tryz.underlying376
 a167:=Tryz.isAgg376
 z167:=Tryz.sizeOf376
 v167:=Tryz.zeroValue376
 t168:=Tryz.underlying379
 a168:=Tryz.isAgg379
 z168:=Tryz.sizeOf379
 v168:=Tryz.zeroValue379
 t171:=Tryz.underlying325
 a171:=Tryz.isAgg325
 z171:=Tryz.sizeOf325
 v171:=Tryz.zeroValue325
 t173:=Tryz.underlying327
 a173:=Tryz.isAgg327
 z173:=Tryz.sizeOf327
 v173:=Tryz.zeroValue327
 t175:=Tryz.underlying382
 a175:=Tryz.isAgg382
 z175:=Tryz.sizeOf382
 v175:=Tryz.zeroValue382
 t210:=Tryz.underlying386
 a210:=Tryz.isAgg386
 z210:=Tryz.sizeOf386
 v210:=Tryz.zeroValue386
 t212:=Tryz.underlying360
 a212:=Tryz.isAgg360
 z212:=Tryz.sizeOf360
 v212:=Tryz.zeroValue360
 t213:=Tryz.underlying361
 a213:=Tryz.isAgg361
 z213:=Tryz.sizeOf361
 t232:=Tryz.underlying374
 a232:=Tryz.isAgg374
 z232:=Tryz.sizeOf374
 v232:=Tryz.zeroValue374
 t233:=Tryz.underlying375
 a233:=Tryz.isAgg375
 z233:=Tryz.sizeOf375
 v233:=Tryz.zeroValue375
 g15:=by kernel_rfl
 g16:=by kernel_rfl
 g17:=by kernel_rfl
 g18:=by kernel_rfl
 g19:=by kernel_rfl
 t80:=Tryz.underlying173
 a80:=Tryz.isAgg173
 z80:=Tryz.sizeOf173
 v80:=Tryz.zeroValue173
 i0:=by kernel_rfl
 i2:=by kernel_rfl
 i3:=by kernel_rfl
 i4:=by kernel_rfl
 i5:=by kernel_rfl
 i9:=by kernel_rfl
 i20:=by kernel_rfl
 i21:=by kernel_rfl
 i37:=by kernel_rfl
 i46:=by kernel_rfl
 i51:=by kernel_rfl
 i53:=by kernel_rfl
 i75:=by kernel_rfl
 i76:=by kernel_rfl
 i80:=by kernel_rfl
 i85:=by kernel_rfl
 i127:=by kernel_rfl
 i143:=by kernel_rfl
 i145:=by kernel_rfl
 i167:=by kernel_rfl
 i168:=by kernel_rfl
 i171:=by kernel_rfl
 i173:=by kernel_rfl
 i175:=by kernel_rfl
 i210:=by kernel_rfl
 i212:=by kernel_rfl
 i232:=by kernel_rfl
 i233:=by kernel_rfl
 m15:=by kernel_rfl
 m16:=by kernel_rfl
 m17:=by kernel_rfl
 m18:=by kernel_rfl
 m19:=by kernel_rfl
 c0:=by kernel_rfl
 c2:=by kernel_rfl
 c3:=by kernel_rfl
 c4:=by kernel_rfl
 c5:=by kernel_rfl
 c9:=by kernel_rfl
 c20:=by kernel_rfl
 c21:=by kernel_rfl
 c37:=by kernel_rfl
 c46:=by kernel_rfl
 c51:=by kernel_rfl
 c53:=by kernel_rfl
 c75:=by kernel_rfl
 c76:=by kernel_rfl
 c80:=by kernel_rfl
 c85:=by kernel_rfl
 c127:=by kernel_rfl
 c143:=by kernel_rfl
 c145:=by kernel_rfl
 c167:=by kernel_rfl
 c168:=by kernel_rfl
 c171:=by kernel_rfl
 c173:=by kernel_rfl
 c175:=by kernel_rfl
 c210:=by kernel_rfl
 c212:=by kernel_rfl
 c213:=by kernel_rfl
 c232:=by kernel_rfl
 c233:=by kernel_rfl }
open Go.RowKit in
theorem Tryz.strconv_Atoi_ok (s:ByteArray)(D:s.size<=9223372036854775806)(v:Int)(h:Lib.atoiAll s.data.toList=.ok v)(w:World) :
 Calls Tryz.prog 283 #[.string s] w λe w'=>e=.returned (.tuple #[.int .i64 v,.nilIface])/\(w'=w\/∃t,w'=Lib.bytesWorld w 5 t):=Any.strconv_Atoi_ok Tryz.laysC172 s D v h w
open Go.RowKit in
theorem Tryz.strconv_Atoi_syntax (s:ByteArray)(D:s.size<=281474976710656)(h:Lib.atoiAll s.data.toList=Lib.atoiAll [])(ev:Value)(w:World)(J:w.cell? ⟨10,0,none⟩=some ev)(I:ev=.nilIface\/∃te M,ev=.iface te M) :
 Calls Tryz.prog 283 #[.string s] w λe w'=>∃N,e=.returned (.tuple #[.int .i64 (0),.iface 379 (.pointer (some ⟨N,0,none⟩))])/\w.heap.size<=N/\w'.heap[N]?=some (.cells #[.string ⟨#[65,116,111,105]⟩,.string s,ev] 386 (0,0))/\Below w.heap.size w w':=Any.strconv_Atoi_syntax Tryz.laysC172 s D h ev w J I
open Go.RowKit in
theorem Tryz.strconv_Atoi_range (s:ByteArray)(D:s.size<=281474976710656)(h:Lib.atoiAll s.data.toList=.range)(ev:Value)(w:World)(J:w.cell? ⟨11,0,none⟩=some ev)(I:ev=.nilIface\/∃te M,ev=.iface te M) :
 Calls Tryz.prog 283 #[.string s] w λe w'=>∃N,e=.returned (.tuple #[.int .i64 (Lib.atoiSat s.data.toList),.iface 379 (.pointer (some ⟨N,0,none⟩))])/\w.heap.size<=N/\w'.heap[N]?=some (.cells #[.string ⟨#[65,116,111,105]⟩,.string s,ev] 386 (0,0))/\Below w.heap.size w w':=Any.strconv_Atoi_range Tryz.laysC172 s D h ev w J I
def Tryz.lays145_ren:Go.Shelf.Ren:=⟨fun|145=>135|220=>183|219=>239|217=>276|225=>277|224=>278|267=>279|266=>291|314=>292|n=>n,fun|9=>9|4=>4|59=>223|3=>3|5=>5|46=>217|146=>366|51=>268|n=>n,fun|1=>5|n=>n⟩
theorem Tryz.lays145:Go.Proofs.Lays.n145 Tryz.prog Tryz.lays145_ren:={
 mixed:=by kernel_rfl
 f145:=Tryz.func135.trans (congrArg some (by kernel_rfl))
 f217:=Tryz.func276.trans (congrArg some (by kernel_rfl))
 f219:=Tryz.func239.trans (congrArg some (by kernel_rfl))
 f220:=Tryz.func183.trans (congrArg some (by kernel_rfl))
 f224:=Tryz.func278.trans (congrArg some (by kernel_rfl))
 f225:=Tryz.func277.trans (congrArg some (by kernel_rfl))
 f266:=Tryz.func291.trans (congrArg some (by kernel_rfl))
 f267:=Tryz.func279.trans (congrArg some (by kernel_rfl))
 f314:=Tryz.func292.trans (congrArg some (by kernel_rfl))
 t3:=Tryz.underlying3
 a3:=Tryz.isAgg3
 z3:=Tryz.sizeOf3
 v3:=Tryz.zeroValue3
 t4:=Tryz.underlying4
 a4:=Tryz.isAgg4
 z4:=Tryz.sizeOf4
 v4:=Tryz.zeroValue4
 t5:=Tryz.underlying5
 a5:=Tryz.isAgg5
 z5:=Tryz.sizeOf5
 v5:=Tryz.zeroValue5
 t9:=Tryz.underlying9
 a9:=Tryz.isAgg9
 z9:=Tryz.sizeOf9
 v9:=Tryz.zeroValue9
 t46:=Tryz.underlying217
 a46:=Tryz.isAgg217
 z46:=Tryz.sizeOf217
 v46:=Tryz.zeroValue217
 t51:=Tryz.underlying268
 a51:=Tryz.isAgg268
 z51:=Tryz.sizeOf268
 v51:=Tryz.zeroValue268
 t59:=Tryz.underlying223
 a59:=Tryz.isAgg223
 z59:=Tryz.sizeOf223
 v59:=Tryz.zeroValue223
 t146:=Tryz.underlying366
 a146:=Tryz.isAgg366
 z146:=Tryz.sizeOf366
 v146:=Tryz.zeroValue366
 g1:=by kernel_rfl }
open Go.RowKit Go.Lib in
theorem Tryz.strings_Cut (s D:ByteArray)(m:Int)(w:World)(J:s.size<4294967281)(I:w.cell? ⟨5,0,none⟩=some (.int .i64 m)) :
 Calls Tryz.prog 135 #[.string s,.string D] w λe w'=>e=.returned (.tuple #[.string ⟨(Lib.cut s.data.toList D.data.toList).1.toArray⟩,.string ⟨(Lib.cut s.data.toList D.data.toList).2.1.toArray⟩,.bool (Lib.cut s.data.toList D.data.toList).2.2])/\∃n,w'=w.drewN n:=Any.strings_Cut Tryz.lays145 s D m w J I
def Tryz.lays146_ren:Go.Shelf.Ren:=⟨fun|146=>134|221=>182|268=>236|138=>237|143=>238|195=>274|197=>241|218=>275|219=>239|260=>280|217=>276|225=>277|224=>278|267=>279|266=>291|314=>292|n=>n,fun|9=>9|31=>84|3=>3|4=>4|0=>0|105=>331|21=>21|5=>5|46=>217|119=>368|139=>371|138=>370|146=>366|51=>268|n=>n,fun|1=>5|3=>6|4=>7|n=>n⟩
theorem Tryz.lays146:Go.Proofs.Lays.n146 Tryz.prog Tryz.lays146_ren:={
 mixed:=by kernel_rfl
 f138:=Tryz.func237.trans (congrArg some (by kernel_rfl))
 f143:=Tryz.func238.trans (congrArg some (by kernel_rfl))
 f146:=Tryz.func134.trans (congrArg some (by kernel_rfl))
 f195:=Tryz.func274.trans (congrArg some (by kernel_rfl))
 f197:=Tryz.func241.trans (congrArg some (by kernel_rfl))
 f217:=Tryz.func276.trans (congrArg some (by kernel_rfl))
 f218:=Tryz.func275.trans (congrArg some (by kernel_rfl))
 f219:=Tryz.func239.trans (congrArg some (by kernel_rfl))
 f221:=Tryz.func182.trans (congrArg some (by kernel_rfl))
 f224:=Tryz.func278.trans (congrArg some (by kernel_rfl))
 f225:=Tryz.func277.trans (congrArg some (by kernel_rfl))
 f260:=Tryz.func280.trans (congrArg some (by kernel_rfl))
 f266:=Tryz.func291.trans (congrArg some (by kernel_rfl))
 f267:=Tryz.func279.trans (congrArg some (by kernel_rfl))
 f268:=Tryz.func236.trans (congrArg some (by kernel_rfl))
 f314:=Tryz.func292.trans (congrArg some (by kernel_rfl))
 t0:=Tryz.underlying0
 a0:=Tryz.isAgg0
 z0:=Tryz.sizeOf0
 v0:=Tryz.zeroValue0
 t3:=Tryz.underlying3
 a3:=Tryz.isAgg3
 z3:=Tryz.sizeOf3
 v3:=Tryz.zeroValue3
 t4:=Tryz.underlying4
 a4:=Tryz.isAgg4
 z4:=Tryz.sizeOf4
 v4:=Tryz.zeroValue4
 t5:=Tryz.underlying5
 a5:=Tryz.isAgg5
 z5:=Tryz.sizeOf5
 v5:=Tryz.zeroValue5
 t9:=Tryz.underlying9
 a9:=Tryz.isAgg9
 z9:=Tryz.sizeOf9
 v9:=Tryz.zeroValue9
 t21:=Tryz.underlying21
 a21:=Tryz.isAgg21
 z21:=Tryz.sizeOf21
 v21:=Tryz.zeroValue21
 t31:=Tryz.underlying84
 a31:=Tryz.isAgg84
 z31:=Tryz.sizeOf84
 v31:=Tryz.zeroValue84
 t46:=Tryz.underlying217
 a46:=Tryz.isAgg217
 z46:=Tryz.sizeOf217
 v46:=Tryz.zeroValue217
 t51:=Tryz.underlying268
 a51:=Tryz.isAgg268
 z51:=Tryz.sizeOf268
 v51:=Tryz.zeroValue268
 t105:=Tryz.underlying331
 a105:=Tryz.isAgg331
 z105:=Tryz.sizeOf331
 v105:=Tryz.zeroValue331
 t119:=Tryz.underlying368
 a119:=Tryz.isAgg368
 z119:=Tryz.sizeOf368
 t138:=Tryz.underlying370
 a138:=Tryz.isAgg370
 z138:=Tryz.sizeOf370
 v138:=Tryz.zeroValue370
 t139:=Tryz.underlying371
 a139:=Tryz.isAgg371
 z139:=Tryz.sizeOf371
 v139:=Tryz.zeroValue371
 t146:=Tryz.underlying366
 a146:=Tryz.isAgg366
 z146:=Tryz.sizeOf366
 v146:=Tryz.zeroValue366
 g1:=by kernel_rfl
 g3:=by kernel_rfl
 g4:=by kernel_rfl }
open Go.RowKit Go.Lib in
theorem Tryz.strings_Split (s D:ByteArray)(m:Int)(w:World)(J:s.size<4294967281)(I:w.cell? ⟨5,0,none⟩=some (.int .i64 m))(h1:1<=D.size) :
 Calls Tryz.prog 134 #[.string s,.string D] w λe w'=>
  e=.returned (.slice (some ⟨w.heap.size,0,none⟩) (Lib.countB s D+1) (Lib.countB s D+1))/\w'=w.alloc (.cells ((Lib.splitB D 0 (Lib.countB s D) s).map Value.string).toArray 9):=Any.strings_Split Tryz.lays146 (by kernel_rfl) s D m w J I h1
end Go.Proofs
namespace Go.Proofs.YtjilcnmaefhmeaaGreatDoor
open Go.Lw _root_.Go.Proofs.Tryz
theorem u7a:CallOf prog 71:=mkC func71
theorem j5y {w w':World}{D:String}{k:IntKind}{zs:List Int}{S:List Nat}(h:Lib.TabIs prog w D k zs)(hf:Fr S w w')(M:∀g,prog.globalNamed D=some g->g∉S):Lib.TabIs prog w' D k zs:=by
 unfold Lib.TabIs World.var? at *
 cases hg:prog.globalNamed D with
 | none=>simp[hg]at h
 | some g=>
  simp only[hg,Option.bind_some]at h ⊢;have J:g<w.heap.size:=by
   rcases Nat.lt_or_ge g w.heap.size with I|I
   exact I;rw[Array.getElem?_eq_none I]at h;simp at h
  rw[hf.block g J (M g hg)];exact h
theorem gPow:prog.globalNamed "internal/strconv.uint64pow10" =some 4:=by kernel_rfl
structure Glob (w:World):Prop where
  wd:Cells w ⟨1,0,none⟩ (z8a.map S)
  dr:Cells w ⟨2,0,none⟩ (x2h.map S)
  ml:IntAt 5 w
  tab:Lib.TabIs prog w "internal/strconv.uint64pow10" .u64 Lib.pow10Tab
  es:∃te pe,w.cell? ⟨10,0,none⟩=some (.iface te pe)
  er:∃te pe,w.cell? ⟨11,0,none⟩=some (.iface te pe)
  sz:12<=w.heap.size
theorem Glob.fr {w w':World}{S:List Nat}(h:Glob w)(hf:Fr S w w')(J:∀k∈S,12<=k):Glob w':=by
 have D:∀g,g<12->g∉S:=λg I e=>by have:=J g e;omega
 exact⟨h.wd.fr hf (D _ (by decide)),h.dr.fr hf (D _ (by decide)),h.ml.fr hf (D _ (by decide)),j5y h.tab hf (λg I=>by rw[gPow]at I;cases I;exact D _ (by decide)),let ⟨a,b,e⟩:=h.es;⟨a,b,hf.cell e (D _ (by decide))⟩,let ⟨a,b,e⟩:=h.er;⟨a,b,hf.cell e (D _ (by decide))⟩,Nat.le_trans h.sz hf.size⟩
theorem Glob.ext {w w':World}(h:Glob w)(hf:Fr [] w w'):Glob w':=h.fr hf (by simp)
theorem v6t (w:World)(k:Nat)(l:Array Obj):Fr [] w (Sort.grow (w.drewN k) l):=
 (Fr.drewN [] w k).next ⟨rfl,rfl,rfl,by simp[Sort.grow],λk D _=>by simp only[Sort.grow];exact Array.getElem?_append_left D⟩
theorem y8z (n:Int)(w0:World)(hG:Glob w0)(h:-99<=n/\n<=99):Rets prog 71 #[.int .i64 n] w0 λv w'=>v=S (x4d n)/\Fr [] w0 w':=by
 refine Calls.mono (strconv_Itoa n (by omega) (by omega) w0 hG.tab) ?_;rintro e w' ⟨rfl,k,D,rfl⟩;exact⟨_,rfl,by rw[v7l h];rfl,v6t _ _ _⟩
theorem y8n (b p:Int)(w0:World)(hG:Glob w0):Rets prog 247 #[.agg #[.int .u8 b,.int .i64 p]] w0 λv w'=>v=S (v5x b p)/\Fr [] w0 w':=by
 have Z:=hG.sz;refine we [(0,.agg #[.int .u8 b,.int .i64 p])] func247 U ntmps247 U (.cons U .nil) (sr (bx U (λg1 w1 a0 D M z1=>(asg U (nn (sq (sr (z0n U D z4i (cl (ev1 U) u4a (z4o _ _ _) U ?_)))))))));rintro _ w2 ⟨rfl,I⟩;refine ne' U (nn (cd U (λJ=>?_) (λJ=>?_)));refine sr (asg U (nn (rt (tr (r1 results247 U ?_)))));exact⟨_,rfl,by rw[v5x,if_pos J]<;>rfl,(M.n1 I)⟩;have hr:=x9b.1 (Classical.not_not.1 J);refine sk (tn (sq (sr (fad U z6r ?_))));replace D:=D.ext I;refine z0i U D U x6u (eq' U (nn (cd U (λO=>?_) (λO=>?_))));refine sr (fad U z6p (z0i U D U na3 ?_));replace hG:=hG.ext (M.n1 I);refine cl (ev1 U) u7a (y8z _ _ hG (by omega)) U ?_;rintro _ w3 ⟨rfl,q3⟩;refine x6w U U (by have:=y4p p;simp;omega) (asg U (kpL [(2,_)] (.cons U .nil) (nn (rt (tr (r1 results247 U ?_))))));exact⟨_,rfl,by rw[v5x,if_neg J,if_pos O]<;>rfl,(M.n2 I q3)⟩;refine sk (tn (sr (fad U z6p (z0i U D U na3 ?_))));replace hG:=hG.ext (M.n1 I);refine cl (ev1 U) u7a (y8z _ _ hG (by omega)) U ?_;rintro _ w4 ⟨rfl,q4⟩;refine x6w U U (by have:=y4p p;simp;omega) (asg U (kpL [(2,_)] (.cons U .nil) (nn (rt (r1 results247 U ?_)))));exact⟨_,rfl,by rw[v5x,if_neg J,if_neg O]<;>rfl,(M.n2 I q4)⟩
theorem u3f (v:Value)(ys:List (List UInt8))(D:List UInt8)(base T:Nat)(w0:World)(I:Lw.Own Enc.str T base w0 v ys)(M:ys≠[])(hl:(Lib.join ys D).length<=1000000)(a0:ys.length<=1000000):Rets prog 78 #[v,S D] w0 λr w'=>r=S (Lib.join ys D)/\Fr [] w0 w':=by
 rcases I with ⟨_,e⟩|⟨g,cap,cur,rfl,J,O,h1,h2,h3,h4⟩
 exact absurd e M;have hm:(ys.map (λy=>(⟨y.toArray⟩:ByteArray))).map (·.data.toList)=ys:=by rw[List.map_map];simp[Function.comp_def]
 have I:Lw.Own Enc.str T base w0 (.slice (some ⟨g,0,none⟩) ys.length cap) ys:=.inr ⟨g,cap,cur,rfl,J,O,h1,h2,h3,h4⟩;have Z:=strings_Join g 0 cap (ys.map (λy=>(⟨y.toArray⟩:ByteArray))) ⟨D.toArray⟩ w0 (λj x hx=>by
  rw[List.getElem?_map,Option.map_eq_some_iff]at hx;obtain⟨y,hy,rfl⟩:=hx;obtain⟨A,c,e,_,_,hA⟩:=I.sl;cases e;obtain⟨ad,e1,hc⟩:=hA j y hy;cases e1;have:=hc 0 (S y) U;rw[z4m,z4m,Nat.add_zero,show Enc.str.sz=1 from U,Nat.mul_one]at this;exact this) ((Array.getElem?_eq_some_iff.1 O).1) (by simp;omega) (by simp;omega) (by rw[hm];simp;omega)
 rw[hm,List.length_map]at Z;refine Calls.mono Z ?_;rintro e w' ⟨rfl,J⟩;exact⟨_,rfl,by simp[S],Fr.of_below J⟩
theorem u3p (w:World)(t:ByteArray):Fr [] w (Lib.bytesWorld w 5 t):=Fr.of_below (Lib.bytesWorld_below w 5 t)
theorem u7d (l:List UInt8)(w0:World)(hG:Glob w0)(hl:l.length<=1000000):Rets prog 283 #[S l] w0 λr w'=>∃n e,∃b:Bool,r=.tuple #[.int .i64 n,e]/\(e=.nilIface/\b=false\/(∃t p,e=.iface t p)/\b=true)/\u3n l=(if b=true then 0 else n)/\Fr [] w0 w':=by
 have O:(⟨l.toArray⟩:ByteArray).size=l.length:=by simp[ByteArray.size]
 rcases h:Lib.atoiAll l with v|_|_
 refine Calls.mono (strconv_Atoi_ok ⟨l.toArray⟩ (by omega) v (by simpa using h) w0) ?_;rintro e w' ⟨rfl,J⟩;refine⟨_,rfl,v,.nilIface,false,rfl,.inl ⟨rfl,rfl⟩,by simp[u3n,h],?_⟩;rcases J with rfl|⟨t,rfl⟩
 exact Fr.refl _ _;exact u3p w0 t;obtain⟨te,M,I⟩:=hG.es;refine Calls.mono (strconv_Atoi_syntax ⟨l.toArray⟩ (by omega) (show Lib.atoiAll l=Lib.atoiAll [] from h) _ w0 I (.inr ⟨_,_,rfl⟩)) ?_;rintro e w' ⟨N,rfl,_,_,D⟩;exact⟨_,rfl,_,_,true,rfl,.inr ⟨⟨_,_,rfl⟩,rfl⟩,by simp[u3n,h],Fr.of_below D⟩;obtain⟨te,M,I⟩:=hG.er;refine Calls.mono (strconv_Atoi_range ⟨l.toArray⟩ (by omega) (by simpa using h) _ w0 I (.inr ⟨_,_,rfl⟩)) ?_;rintro e w' ⟨N,rfl,_,_,D⟩;exact⟨_,rfl,_,_,true,rfl,.inr ⟨⟨_,_,rfl⟩,rfl⟩,by simp[u3n,h],Fr.of_below D⟩
theorem x8y (l D:List UInt8)(w0:World)(hG:Glob w0)(hl:l.length<4294967281)(h1:1<=D.length):Rets prog 134 #[S l,S D] w0 λr w'=>Lw.Own Enc.str 9 w0.heap.size w' r (Lib.split l D)/\Fr [] w0 w':=by
 obtain⟨k,hk⟩:=hG.ml;have hs:(⟨l.toArray⟩:ByteArray).size=l.length:=by simp[ByteArray.size]
 have a0:(⟨D.toArray⟩:ByteArray).size=D.length:=by simp[ByteArray.size]
 refine Calls.mono (strings_Split ⟨l.toArray⟩ ⟨D.toArray⟩ k w0 (by omega) hk (by omega)) ?_;rintro e w' ⟨rfl,rfl⟩;have Z:=Lib.splitB_data ⟨D.toArray⟩ 0 (Lib.countB ⟨l.toArray⟩ ⟨D.toArray⟩) ⟨l.toArray⟩;have O:Lib.countB ⟨l.toArray⟩ ⟨D.toArray⟩=Lib.count l D:=by simp[Lib.countB]
 have I:=Lib.splitB_all ⟨D.toArray⟩ (by omega) 0 _ ⟨l.toArray⟩ U;have J:=Lib.countB_le ⟨D.toArray⟩ (by omega) _ ⟨l.toArray⟩ (Nat.le_refl _);rw[hs]at J;have M:Lib.split l D=(Lib.splitB ⟨D.toArray⟩ 0 (Lib.countB ⟨l.toArray⟩ ⟨D.toArray⟩) ⟨l.toArray⟩).map (·.data.toList):=by rw[Z,O];rfl
 have hz:∀zs:List ByteArray,zs.map Value.string=(zs.map (·.data.toList)).flatMap Enc.str.enc:=λzs=>by
  induction zs with
  | nil=>rfl
  | cons z zs ih=>rw[List.map_cons,List.map_cons,List.flatMap_cons,<-ih];rfl
 refine⟨_,rfl,.inr ⟨w0.heap.size,Lib.countB ⟨l.toArray⟩ ⟨D.toArray⟩+1,_,by rw[M,List.length_map,I],Nat.le_refl _,heap_alloc_new w0 _,by rw[M,List.length_map,I];exact Nat.le_refl _,by unfold maxLen;omega,?_,?_⟩,Fr.alloc [] w0 _⟩;rw[show Enc.str.sz=1 from U,Nat.mul_one,List.size_toArray,List.length_map,I];exact Nat.le_refl _;rw[M,List.length_map,I,show Enc.str.sz=1 from U,Nat.mul_one,<-hz];exact List.take_of_length_le (by rw[List.length_map,I];exact Nat.le_refl _)
theorem u9g (l:List UInt8)(w0:World)(hl:l.length<=1000000000):Rets prog 136 #[S l,S [32]] w0 λr w'=>r=S (Lib.trimB l 32)/\Fr [] w0 w':=by
 refine Calls.mono (strings_Trim_one ⟨l.toArray⟩ 32 (by decide) w0 (by simp[ByteArray.size];omega)) ?_;rintro e w' ⟨rfl,rfl|rfl⟩;exact⟨_,rfl,by simp[S],Fr.refl _ _⟩;exact⟨_,rfl,by simp[S],Fr.drew _ _⟩
theorem j0f (l m:List UInt8)(w0:World)(hG:Glob w0)(hl:l.length<4294967281):Rets prog 135 #[S l,S m] w0 λv w'=>v=.tuple #[S (Lib.cut l m).1,S (Lib.cut l m).2.1,.bool (Lib.cut l m).2.2]/\Fr [] w0 w':=by
 obtain⟨k,D⟩:=hG.ml;refine Calls.mono (strings_Cut ⟨l.toArray⟩ ⟨m.toArray⟩ k w0 (by simpa[ByteArray.size] using hl) D) ?_;rintro e w' ⟨rfl,n,rfl⟩;exact⟨_,rfl,rfl,Fr.drewN _ _ _⟩
theorem y6p:ElemOf prog 84 9 Enc.str 16:=ElemOf.mk' (z:=(.string ⟨#[]⟩)) underlying84 (by kernel_rfl) U
theorem na9:z2a prog 9:=λ_=>by kernel_rfl
theorem sz9:z1q prog 9 1:=λ_=>by kernel_rfl
theorem y1b (l:List UInt8)(w0:World)(hG:Glob w0)(hl:l.length<=1000000):Rets prog 244 #[S l] w0 λv w'=>v=.int .i64 (u3n l)/\Fr [] w0 w':=by
 have M:=hG.sz;refine we [(0,S l)] func244 U ntmps244 U (.cons U .nil) (sr (asg U (nn (sr (mv U U (cl (ev1 U) (mkC func283) (u7d _ _ hG (by omega)) U ?_))))));rintro _ w1 ⟨n,e,b,rfl,O,I,J⟩;refine mv U U (xt U (xt U (asg U (asg U (kpL [(3,_),(4,_)] (.c2 U U) (nn (sq (sr (mv U U (u7u U underlying164 O U (nn (cd U (λD=>?_) (λD=>?_)))))))))))));exact sr (asg U (nn (rt (tr (r1 results244 U ⟨_,rfl,by simp[I,D],J⟩)))));exact sk (tn (sr (mv U U (asg U (nn (rt (r1 results244 U ⟨_,rfl,by simp[I,D],J⟩)))))))
theorem u6a (l:List UInt8)(w0:World)(hG:Glob w0):Rets prog 245 #[S l] w0 λv w'=>v=.int .u8 (j4y l)/\Fr [] w0 w':=by
 have I:=hG.sz;refine we [(0,S l)] func245 U ntmps245 U (.cons U .nil) (sr (asg U (nn (sq (sr (mv U U (y1f U U underlying338 sz9 (z7w U hG.dr U na9 (v0c U (nn (cd U (λD=>?_) (λD=>?_))))))))))));exact sr (asg U (nn (rt (tr (r1 results245 U ⟨_,rfl,by rw[j4y,if_pos D],(Fr.refl _ _)⟩)))));exact sk (tn (sr (asg U (nn (rt (r1 results245 U ⟨_,rfl,by rw[j4y,if_neg D],(Fr.refl _ _)⟩))))))
theorem u8o (o:MOp)(w0:World)(hG:Glob w0):Rets prog 192 #[opV o] w0 λv w'=>v=S (j4w o)/\Fr [] w0 w':=by
 have f1:=hG.sz;refine we [(0,opV o)] func192 U ntmps192 U (.cons U .nil) (sr (bx U (λg1 w1 f2 I q1 z1=>(asg U (nn (sq (sr (z0n U I y5j (cl (ev1 U) (mkC func100) (y8q o _) U ?_)))))))));rintro _ w2 ⟨rfl,q2⟩;have z2:=q2.size;refine ne' U (nn (cd U (λc0=>?_) (λc0=>?_)));refine sr (asg U (nn (rt (tr (r1 results192 U ?_)))));exact⟨_,rfl,by rw[j4w,if_pos c0]<;>rfl,(q1.n1 q2)⟩;have hr:=v4w (Classical.not_not.1 c0);refine sk (tn (sr (fad U z3j ?_)));replace I:=I.ext q2;refine z0i U I U na5 (z5s U (us underlying5) underlying3 (wi6 (by omega)) ?_);replace hG:=hG.ext (q1.n1 q2);refine cl (ev1 U) u7a (y8z _ _ hG (by omega)) U ?_;rintro _ w3 ⟨rfl,q3⟩;have z3:=q3.size;refine asg U (nn (sr (fad U z6q ?_)));replace I:=I.ext q3;refine z0i U I U v0i (y1f U U underlying334 sz9 ?_);replace hG:=hG.ext q3;refine z7w U hG.wd (v3g (by omega)) na9 (z2w ([x4j o.k]) (ev1 U) U y6p (λJ w4 e2 D q4 z4=>(asg U ?_)));replace D:=D.low (show w0.heap.size<=J by omega);refine nn (jn (ι:=Value) [] (λv4=>[(4,v4)]) (λv4 w'=>Fr [J] w4 w'/\Lw.Own Enc.str 9 w0.heap.size w' v4 (x4j o.k::y3r o)) .nil ?_ ?_);refine sr (fad U z6q ?_);replace I:=I.ext q4;refine z0i U I U v0i (nn (bl (sr (eq' U (asg U (nn (cd U (λc1=>?_) (λc1=>?_))))))));refine rg (mv U U (mv U U (fad U z8b (z0i U I U x0r (y1f U U underlying338 sz9 ?_)))));replace hG:=hG.ext q4;refine z7w U hG.dr (x8k (by omega)) na9 (z2w ([x4d o.y,j1w o.d]) (ev2 U) U y6p (λe7 w5 e3 b0 q5 z5=>?_));replace D:=D.ext q5;refine z2n (base:=w0.heap.size) U D b0.sl y6p (λf4 w6 Z q6 d5=>?_) (hM:=(by unfold maxLen;first|(simp;done)|(simp;omega))) (hb:=(by simp<;>omega));replace q6:Fr [J] _ _:=q6;have z6:=q6.size;exact asg U (kpL [(4,_)] (.cons U .nil) (nl (bn' (jE (_) (.cons U .nil) ⟨((Fr.refl [J] _).z2 q5 q6),by first|(rw[y3r,if_pos c1];exact Z)|(exfalso;omega)⟩))));refine sr (eq' U (asg U (nn (cd U (λc2=>?_) (λc2=>?_)))));refine rg (mv U U (mv U U (z2w ([x4d o.y]) (ev1 U) U y6p (λe8 w7 e4 b3 q7 z7=>?_))));replace D:=D.ext q7;refine z2n (base:=w0.heap.size) U D b3.sl y6p (λf5 w8 Z q8 d6=>?_) (hM:=(by unfold maxLen;first|(simp;done)|(simp;omega))) (hb:=(by simp<;>omega));replace q8:Fr [J] _ _:=q8;have z8:=q8.size;exact asg U (kpL [(4,_)] (.cons U .nil) (nl (bn' (jE (_) (.cons U .nil) ⟨((Fr.refl [J] _).z2 q7 q8),by first|(rw[y3r,if_neg c1,if_pos c2];exact Z)|(exfalso;omega)⟩))));refine sr (eq' U (asg U (nn (cd U (λc3=>?_) (λc3=>?_)))));refine rg (mv U U (fad U y3g (z0i U I U na3 ?_)));replace hG:=hG.ext q4;refine cl (ev1 U) u7a (y8z _ _ hG (by omega)) U ?_;rintro _ w9 ⟨rfl,q9⟩;have z9:=q9.size;refine z2w ([x4d o.r]) (ev1 U) U y6p (λe9 f9 e5 b5 b8 h4=>?_);replace D:=D.ext (q9.n1 b8);refine z2n (base:=w0.heap.size) U D b5.sl y6p (λf6 g0 Z a5 d7=>?_) (hM:=(by unfold maxLen;first|(simp;done)|(simp;omega))) (hb:=(by simp<;>omega));replace a5:Fr [J] _ _:=a5;have h5:=a5.size;exact asg U (kpL [(4,_)] (.cons U .nil) (nl (bn' (jE (_) (.cons U .nil) ⟨((Fr.refl [J] _).z3 q9 b8 a5),by first|(rw[y3r,if_neg c1,if_neg c2,if_pos c3];exact Z)|(exfalso;omega)⟩))));refine jn (ι:=Bool) [(1,_),(3,_),(4,_),(18,_)] (λb4=>[(43,.bool b4)]) (λb4 w'=>Fr [] w4 w'/\b4=decide ((o.k=4\/o.k=5)\/o.k=6)) (.c4 U U U U) ?_ ?_;refine sr (eq' U (asg U (nn (cd U (λc4=>?_) (λc4=>?_)))));exact sk (jE (_) (.c5 U U U U U) ⟨(Fr.refl _ _),by first|exact bi (by omega)|exact bt (by omega)|exact bf (by omega)⟩);refine sr (eq' U (asg U (nn (cd U (λc5=>?_) (λc5=>?_)))));exact sk (jE (_) (.c5 U U U U U) ⟨(Fr.refl _ _),by first|exact bi (by omega)|exact bt (by omega)|exact bf (by omega)⟩);exact rg (eq' U (asg U (nl (jE (_) (.c5 U U U U U) ⟨(Fr.refl _ _),by first|exact bi (by omega)|exact bt (by omega)|exact bf (by omega)⟩))));rintro b4 d1 ⟨a0,rfl⟩;have h6:=a0.size;refine kpC [(1,_),(3,_),(4,_),(18,_),(43,_)] (.c5 U U U U U) (cd U (λc6=>?_) (λc6=>?_));replace hG:=hG.ext (q4.n1 a0);replace I:=I.ext a0;replace D:=D.ext a0;intro a h;have O:=Fr.refl [J] d1;refine z4h (λwb w'=>Fr [J] wb w') z2l ?_;intro d3 M;have h7:=M.size;replace hG:=hG.ext M;replace I:=I.ext M;replace D:=D.ext M;replace O:=O.next M;have f3:=M.size;clear M;have hC:Fr [J] d3 d3:=Fr.refl _ _;have a7:=hG;have a1:=I;have a4:=D;refine z0e 0 h U λa h=>z0c 1 h U z8b U λa h=>z0j 2 h U (λ_ hw=>a1.fr hw (by simp<;>omega)) U x0r U λa h=>y5r 3 hC h wn U U underlying338 sz9 U U λa h=>y3w 4 hC h wn U (λ_ hw=>(a7.fr hw (by simp<;>omega)).dr) (x8k (by omega)) na9 U U λa h=>z0c 5 h U z3h U λa h=>z1a (vs:=[_,_]) 6 h U (λ_ hw=>(a1.fr hw (by simp<;>omega))) z4i U U λa h=>z0e 8 h U λa h=>z0d 7 U ?_;refine z0o h (z0a U z0f) (mkC func247) (y8n _ _ _ hG) ?_;rintro _ g3 ⟨rfl,M⟩ a h;have h8:=M.size;replace hG:=hG.ext M;replace I:=I.ext M;replace D:=D.ext M;replace O:=O.next M;replace hC:=hC.next M;clear M;refine z0b (z0d 9 U (z2y ([j1w o.d,v5x o.b o.p,x4d o.y]) h (z0a U (z0a U (z0a U z0f))) U y6p λa9 g6 hg a3 M hz a h=>?_));have d4:g1<a9:=by have:=I.lt;omega
 have h9:=M.size;replace hG:=hG.ext M;replace I:=I.ext M;replace D:=D.ext M;replace O:=O.next M;replace hC:=hC.next M;clear M;refine z0b (z0d 10 U ?_);refine z5m (base:=w0.heap.size) h U U D a3.sl y6p U ?_ (hM:=(by unfold maxLen;first|(simp;done)|(simp;omega))) (hb:=(by simp<;>omega));clear h a;intro f7 g7 Z M d9 a h;replace M:Fr [J] _ _:=M;have e1:=M.size;replace hG:=hG.fr M (by simp[z0u]<;>omega);replace I:=I.fr M;replace O:=O.sp M;replace hC:=hC.sp M;replace a3:=a3.fr M (by simp[z0u]<;>omega);clear M;refine z0b (z0d 11 U (z0r h U λa h=>?_));refine z0b (z0q ?_);clear hC a7 a1 a4;have e1:=O.size;exact bk (h.sub (L':=[(4,_)]) (.cons U .nil)) (bn' (jE (_) (.cons U .nil) ⟨((Fr.refl [J] _).z2 a0 O),by first|(rw[y3r,if_neg c1,if_neg c2,if_neg c3,if_pos c6];exact Z)|(exfalso;omega)⟩));refine jn (ι:=Bool) [(1,_),(4,_)] (λb7=>[(58,.bool b7)]) (λb7 w'=>Fr [] d1 w'/\b7=decide (o.k=7\/o.k=8)) (.c2 U U) ?_ ?_;refine sr (eq' U (asg U (nn (cd U (λc7=>?_) (λc7=>?_)))));exact sk (jE (_) (.c3 U U U) ⟨(Fr.refl _ _),by first|exact bi (by omega)|exact bt (by omega)|exact bf (by omega)⟩);exact rg (eq' U (asg U (nl (jE (_) (.c3 U U U) ⟨(Fr.refl _ _),by first|exact bi (by omega)|exact bt (by omega)|exact bf (by omega)⟩))));rintro b7 g8 ⟨a2,rfl⟩;have i0:=a2.size;refine kpC [(1,_),(4,_),(58,_)] (.c3 U U U) (cd U (λc8=>?_) (λc8=>?_));refine rg (mv U U (fad U z3h ?_));replace I:=I.ext (a0.n1 a2);refine z1w (vs:=[_,_]) U I z4i U ?_;replace hG:=hG.ext (q4.n2 a0 a2);refine cl (ev1 U) (mkC func247) (y8n _ _ _ hG) U ?_;rintro _ g9 ⟨rfl,a8⟩;have i1:=a8.size;refine z2w ([v5x o.b o.p]) (ev1 U) U y6p (λf0 h0 e6 b6 b9 i2=>?_);replace D:=D.ext (a0.n3 a2 a8 b9);refine z2n (base:=w0.heap.size) U D b6.sl y6p (λf8 h1 Z a6 e0=>?_) (hM:=(by unfold maxLen;first|(simp;done)|(simp;omega))) (hb:=(by simp<;>omega));replace a6:Fr [J] _ _:=a6;have i3:=a6.size;exact asg U (kpL [(4,_)] (.cons U .nil) (nl (bn' (jE (_) (.cons U .nil) ⟨((Fr.refl [J] _).z5 a0 a2 a8 b9 a6),by first|(rw[y3r,if_neg c1,if_neg c2,if_neg c3,if_neg c6,if_pos c8];exact Z)|(exfalso;omega)⟩))));exact sk (bn' (jE (_) (.cons U .nil) ⟨((Fr.refl [J] _).n2 a0 a2),by first|(rw[y3r,if_neg c1,if_neg c2,if_neg c3,if_neg c6,if_neg c8];exact Z)|(exfalso;omega)⟩));rintro v4 h2 ⟨c9,Z⟩;have i4:=c9.size;refine kpC [(4,_)] (.cons U .nil) (sr (mv U U (cl (ev2 U) (mkC func78) (u3f _ _ _ _ _ _ Z (by simp) (by have:=u2i o (Classical.not_not.1 c0);omega) (by have:=j8j o;simp;omega)) U ?_)));rintro _ h3 ⟨rfl,d0⟩;have i5:=d0.size;exact asg U (nn (rt (r1 results192 U ⟨_,rfl,by rw[j4w,if_neg c0],(q1.z5 q2 q3 q4 c9 d0)⟩)))
theorem u8q:BuildAt prog 47 [(0,1),(1,1),(2,2),(4,1),(5,1)] [(.int .u8 0),(.int .u8 0),(.int .u8 0),(.int .i64 0),(.int .u8 0),(.int .i64 0)]:=BuildAt.struct underlying47 (λ_=>by kernel_rfl) (λ_=>by kernel_rfl)
theorem sz5:z1q prog 5 1:=λ_=>by kernel_rfl
theorem el81:ElemOf prog 81 5 Enc.b 1:=ElemOf.mk' (z:=(.int .u8 0)) underlying81 (by kernel_rfl) U
theorem sz43:z1q prog 43 1:=λ_=>by kernel_rfl
theorem x0v (l:List UInt8)(w0:World)(hG:Glob w0)(hl:l.length<=1000000):Rets prog 246 #[S l] w0 λv w'=>∃e,v=.tuple #[.agg #[.int .u8 (x4a l).1,.int .i64 (x4a l).2],e]/\Fr [] w0 w':=by
 have b7:=hG.sz;refine we [(0,S l)] func246 U ntmps246 U (.cons U .nil) (sr (al v5i U (λg2 w1 b9 I q1 z1=>(asg U (nn (sq (sq (rbo (r:=14) (L':=[(0,_),(2,_)]) ((((l.length:Int)<2)\/(3<(l.length:Int)))) (.c2 U U) ?_ ?_))))))));refine mv U U (ln U underlying9 U (lt' U (mv U U (gs 10 U (λg0=>?_) (λg0=>?_)))));exact gN U (gN U (gN U (pkt U (rbe U (.c2 U U)))));exact gY U (mv U U (gY U (ln U underlying9 U (gY U (gt' U (pkf U (rbe U (.c2 U U))))))));refine tn (cd U (λc0=>?_) (λc0=>?_));refine sr (z1x (cs:=[_,_]) z0f x0u z0s U (z0k U I y6s (λw2 I q2 z2=>?_) (hl:=rfl)));exact asg U (nn (rt (tr (rCT results246 U I z4i U ⟨_,rfl,_,by rw[show x4a l=(0,0) from by rw[x4a,if_pos c0]],(q1.z1 q2)⟩))));refine sk (tn (sr (z1x (cs:=[_,_]) z0f x0u z0s U (al v5i U (λg4 w3 c9 D q3 z3=>?_)))));refine z0k U D y6s (λw4 D q4 z4=>?_) (hl:=rfl);refine nn (jn (ι:=Int) [(0,_),(2,_),(4,_)] (λb=>[]) (λb w'=>Fr [g4] w4 w'/\j3e l=some b/\(b=0\/b=1)/\Blk w' g4 45 [.int .u8 b,.int .i64 0]) (.c3 U U U) ?_ ?_);refine sr (mv U U (j1m (p:=0) U U underlying9 (by omega) (by omega) U U (λb4=>(nn (bl (sr (eq' U (asg U (nn (cd U (λc1=>?_) (λc1=>?_)))))))))));refine rg (fad U z6r (z3o U D U sz43 (λw5 D q5 z5=>?_)));replace D:Blk w5 g4 _ [_,_]:=D;exact nl (bn' (jE (_) (.c3 U U U) ⟨((Fr.refl [g4] _).z1 q5),⟨by rw[j3e,if_pos c1],by omega,D⟩⟩));skip;refine sr (eq' U (asg U (nn (cd U (λc2=>?_) (λc2=>?_)))));refine rg (fad U z6r (z3o U D U sz43 (λw6 D q6 z6=>?_)));replace D:Blk w6 g4 _ [_,_]:=D;exact nl (bn' (jE (_) (.c3 U U U) ⟨((Fr.refl [g4] _).z1 q6),⟨by rw[j3e,if_neg c1,if_pos c2],by omega,D⟩⟩));refine sr (z1x (cs:=[_,_]) z0f x0u z0s U ?_);replace I:=(I.ext q3).fr q4;refine z0k U I y6s (λw7 I q7 z7=>?_) (hl:=rfl);exact asg U (nn (rt (rb (tr (rCT results246 U I z4i U ⟨_,rfl,_,by rw[show x4a l=(0,0) from by rw[x4a,if_neg c0,show j3e l=none from by rw[j3e,if_neg c1,if_neg c2]]],(q1.z3 q3 q4 q7)⟩)))));rintro b w8 ⟨q8,⟨a1,b0,D⟩⟩;have a0:=D.lt;refine kpC [(0,_),(2,_),(4,_)] (.c3 U U U) ?_;have b8:(l.drop 1).length=l.length-1:=List.length_drop;refine sq (sr (mv U U (j3r (p:=1) U U underlying9 (by omega) (by omega) U U (k0t U underlying9 underlying81 underlying5 (by unfold maxLen;simp;omega) U (λb6 b5 w9 b3 O q9 z9=>?_)))));refine lnS U underlying81 (mv U U (nn (bl ?_)));replace D:=D.ext q9;refine lpK (ι:=Nat) [(0,_),(2,_),(4,_),(28,_),(29,_)] (λi=>[(30,.int .i64 (i:Int))]) (λi w'=>Fr [g4] w9 w'/\i<=(l.drop 1).length/\((l.drop 1).take i).all v8y=true/\Blk w' g4 45 [.int .u8 b,.int .i64 (y5z ((l.drop 1).take i))]) (λi=>(l.drop 1).length-i) 0 (.c6 U U U U U U) ⟨Fr.refl _ _,⟨by omega,rfl,D⟩⟩ ?_;rintro i d1 ⟨M,⟨hi,J,D⟩⟩;have a0:=D.lt;refine kpC [(0,_),(2,_),(4,_),(28,_),(29,_),(30,_)] (.c6 U U U U U U) (sr (lt' U (nn (sq (cd U (λc3=>?_) (λc3=>?_))))));have d0:=x7u ((l.drop 1).getD i 0);refine sk (tn (sq (bl (sr ?_))));replace O:=O.fr M (by simp[z0u]<;>omega);refine z1c (p:=i) (0) U O U el81 (by omega) (λa9 a2=>(z1l U (a2 _ O) na5 (asg U (nn (sq (sq (rbo (r:=39) (L':=[(0,_),(2,_),(4,_),(6,_),(28,_),(29,_),(30,_)]) ((((((l.drop 1).getD i 0).toNat:Int)<48)\/(57<(((l.drop 1).getD i 0).toNat:Int)))) (.c7 U U U U U U U) ?_ ?_)))))));refine mv U U (lt' U (mv U U (gs 36 U (λg1=>?_) (λg1=>?_))));exact gN U (gN U (pkt U (rbe U (.c7 U U U U U U U))));exact gY U (mv U U (gY U (gt' U (pkf U (rbe U (.c7 U U U U U U U))))));refine tn (cd U (λc4=>?_) (λc4=>?_));refine sr (z1x (cs:=[_,_]) z0f x0u z0s U ?_);replace I:=((((I.ext q3).fr q4).fr q8).ext q9).fr M;refine z0k U I y6s (λd3 I a4 d7=>?_) (hl:=rfl);exact asg U (kpL [(2,_),(3,_)] (.c2 U U) (nn (rt (tr (rb (tr (tr (rb (tr (rCT results246 U I z4i U ⟨_,rfl,_,by rw[show x4a l=(0,0) from by rw[x4a,if_neg c0,a1];simp only;rw[if_pos (j0o _ i (by omega) (by omega))]],(q1.z6 q3 q4 q8 q9 M a4)⟩))))))))));have a3:=x1d J (by simp;omega);refine sk (tn (rg (fad U z6p (z0i U D U na3 (x6h U U (wi6 (by omega)) U (mv U U (z2r U (wi8 (by omega)) (z5s U (us underlying5) underlying3 (wi6 (by omega)) (z1b U (wi6 (by omega)) (fad U z6p (z3o U D U sz3 (λa8 D a5 d9=>?_))))))))))));replace D:Blk a8 g4 _ [_,_]:=D;exact kpL [(0,_),(2,_),(4,_),(28,_),(29,_),(30,_)] (.c6 U U U U U U) (nl (bn' (tn (rg (z1b U (wi6 (by omega)) (mv U U (nl (lpE (i+1) (.c6 U U U U U U) ⟨((Fr.refl [g4] _).z2 M a5),⟨by omega,u2w _ _ (by omega) J (by omega),by rw[v1j _ _ (by omega)];exact D⟩⟩ (by omega)))))))));obtain rfl:i=(l.drop 1).length:=by omega
 rw[List.take_length]at J D;have a3:=x1d J (by omega);refine ex (te (te (xh (tn (sq (sr (z0n U D z4i ?_)))))));replace hG:=((((hG.ext (q1.n1 q3)).fr q4 (by first|exact z8x hG (by omega)|simp[z0u]<;>omega)).fr q8 (by first|exact z8x hG (by omega)|simp[z0u]<;>omega)).ext q9).fr M (by first|exact z8x hG (by omega)|simp[z0u]<;>omega);refine cl (ev1 U) (mkC func247) (y8n _ _ _ hG) U ?_;rintro _ d4 ⟨rfl,Z⟩;refine mv U U (j3l U U U (kpL [(2,_),(4,_),(53,_)] (.c3 U U U) (nn (cd U (λc5=>?_) (λc5=>?_)))));refine sr (z1x (cs:=[_,_]) z0f x0u z0s U ?_);replace I:=(((((I.ext q3).fr q4).fr q8).ext q9).fr M).ext Z;refine z0k U I y6s (λd5 I a6 e0=>?_) (hl:=rfl);exact asg U (nn (rt (tr (rCT results246 U I z4i U ⟨_,rfl,_,by rw[show x4a l=(0,0) from by rw[x4a,if_neg c0,a1];simp only;rw[if_neg (by rw[J];exact λe=>Bool.noConfusion e),if_pos c5]],((q1.z6 q3 q4 q8 q9 M Z).z1 a6)⟩))));refine sk (tn (sr ?_));replace D:=D.ext Z;refine z0n U D z4i ?_;replace I:=(((((I.ext q3).fr q4).fr q8).ext q9).fr M).ext Z;refine z0k U I y6s (λd6 I a7 e1=>?_) (hl:=rfl);exact asg U (nn (rt (rCT results246 U I z4i U ⟨_,rfl,_,by rw[show x4a l=(b,y5z (l.drop 1)) from by rw[x4a,if_neg c0,a1];simp only;rw[if_neg (by rw[J];exact λe=>Bool.noConfusion e),if_neg c5]],((q1.z6 q3 q4 q8 q9 M Z).z1 a7)⟩)))
theorem j8w:z3p prog 334 9:=⟨λ_=>by kernel_rfl,λ_=>by kernel_rfl⟩
theorem sz41:z1q prog 41 1:=λ_=>by kernel_rfl
theorem fld0 (f:F4)(w:World):(Instr.field 301 (.agg (f4L f).toArray) 0).run prog w=.ok (.bool f.1) w:=by kernel_rfl
theorem fld1 (f:F4)(w:World):(Instr.field 301 (.agg (f4L f).toArray) 1).run prog w=.ok (.bool f.2.1) w:=by kernel_rfl
theorem v9n (v:Value)(ws:List (List UInt8))(w0:World)(hG:Glob w0)(Z:Sl Enc.str w0 v ws)(f2:1<=ws.length)(b3:∀i,(ws.getD i []).length<=1000000):Rets prog 191 #[v] w0 λr w'=>r=opV (z3z ws)/\Fr [] w0 w':=by
 obtain⟨A,c,rfl,hc,hM,hA⟩:=id Z;clear hA;have a0:=Z.blk (by intro e;simp[e]at f2);have h7:=hG.sz;refine we [(0,.slice A ws.length c)] func191 U ntmps191 U (.cons U .nil) (sr (al u5m U (λg2 w1 h8 M q1 z1=>?_)));refine nn (sr (z1x (cs:=[_,_,_,_,_,_]) z0f u8q z0s U (al u5m U (λg3 w2 h9 I q2 z2=>?_))));refine z0k U I u5r (λw3 I q3 z3=>?_) (hl:=rfl);refine nn (sq (sr ?_));replace hG:=(hG.ext (q1.n1 q2)).fr q3 (by first|exact z8x hG (by omega)|simp[z0u]<;>omega);refine z1k U hG.wd j8w (mv U U (nn (bl (lpK (ι:=Nat) [(0,_),(2,_),(3,_),(7,_)] (λi=>[(8,.int .i64 (i:Int))]) (λi w'=>Fr [g3] w3 w'/\i<=9/\Blk w' g3 47 [.int .u8 (y4q (ws.getD 0 []) i),.int .u8 0,.int .u8 0,.int .i64 0,.int .u8 0,.int .i64 0]) (λi=>9-i) 0 (.c5 U U U U U) ⟨Fr.refl _ _,⟨by omega,I⟩⟩ ?_))));rintro i w4 ⟨q4,⟨hi,I⟩⟩;have b8:=I.lt;refine kpC [(0,_),(2,_),(3,_),(7,_),(8,_)] (.c5 U U U U U) (sr (lt' U (nn (sq (cd U (λc0=>?_) (λc0=>?_))))));refine sk (tn (sq (bl (sr (mv U U (u5d U U underlying334 sz9 na9 (u2f (by omega)) U (asg U (asg U (nn (sr (mv U U (mv U U ?_))))))))))));replace Z:=((Z.ext (q1.n1 q2)).fr q3 (by intro k O hb;simp at O;subst O;have:=a0 _ hb;omega)).fr q4 (by intro k O hb;simp at O;subst O;have:=a0 _ hb;omega);refine z1c (p:=0) ([]) U Z U y6p U (λg9 d1=>(z1l U (d1 _ Z) na9 (v0c U (nn (cd U (λc1=>?_) (λc1=>?_))))));refine rg (mv U U (z5s U (us underlying3) underlying41 (wi8 (by omega)) (fad U z6q (z3o U I U sz41 (λw5 I q5 z5=>?_)))));replace I:Blk w5 g3 _ [_,_,_,_,_,_]:=I;exact nl (bn' (tn (rg (z1b U (wi6 (by omega)) (mv U U (nl (lpE (i+1) (.c5 U U U U U) ⟨((Fr.refl [g3] _).z2 q4 q5),⟨by omega,by first|(rw[y4q,if_pos c1];exact I)|(rw[y4q,if_neg c1];exact I)⟩⟩ (by omega))))))));exact sk (bn' (tn (rg (z1b U (wi6 (by omega)) (mv U U (nl (lpE (i+1) (.c5 U U U U U) ⟨((Fr.refl [g3] _).z1 q4),⟨by omega,by first|(rw[y4q,if_pos c1];exact I)|(rw[y4q,if_neg c1];exact I)⟩⟩ (by omega))))))));obtain rfl:i=9:=by omega
 have i0:=x3s (ws.getD 0 []) 9;replace I:Blk w4 g3 47 [.int .u8 (y8v (ws.getD 0 [])),.int .u8 0,.int .u8 0,.int .i64 0,.int .u8 0,.int .i64 0]:=I;refine ex (te (te (xh (tn (jn (ι:=Unit) [(2,_),(3,_)] (λ_j=>[]) (λ_j w'=>Fr [g3] w4 w'/\Blk w' g3 47 [.int .u8 (z3z ws).k,.int .u8 (z3z ws).d,.int .u8 (z3z ws).b,.int .i64 (z3z ws).p,.int .u8 (z3z ws).y,.int .i64 (z3z ws).r]) (.c2 U U) ?_ ?_)))));refine bl (sq (rbo (r:=21) (L':=[(0,_),(2,_),(3,_)]) ((((y8v (ws.getD 0 []))=1)/\((ws.length:Int)=3))) (.c3 U U U) ?_ ?_));refine fad U z6q (z0i U I U v0i (eq' U (mv U U (gs 25 U (λg0=>?_) (λg0=>?_)))));exact gY U (mv U U (gY U (lnS U underlying84 (gY U (eq' U (pkt U (asg U (rbe U (.c3 U U U)))))))));exact gN U (gN U (gN U (pkf U (asg U (rbe U (.c3 U U U))))));refine tn (cd U (λc2=>?_) (λc2=>?_));replace hG:=hG.fr q4 (by first|exact z8x hG (by omega)|simp[z0u]<;>omega);replace Z:=((Z.ext (q1.n1 q2)).fr q3 (by intro k O hb;simp at O;subst O;have:=a0 _ hb;omega)).fr q4 (by intro k O hb;simp at O;subst O;have:=a0 _ hb;omega);replace M:=((M.ext q2).fr q3).fr q4;intro a h;have a8:=Fr.refl [g3] w4;refine z4h (λwb w'=>Fr [g3] wb w') z2l ?_;intro w6 J;replace hG:=hG.ext J;replace Z:=Z.ext J;replace M:=M.ext J;replace I:=I.ext J;replace a8:=a8.next J;have d0:=J.size;clear J;have hC:Fr [g3] w6 w6:=Fr.refl _ _;have a6:=hG;have a2:=Z;have a3:=M;have a1:=I;refine z0e 0 h U λa h=>z1i (p:=1) ([]) 1 h U Z U y6p U ?_ (hp:=rfl);clear h a;intro h0 d3 a h;refine z2v 2 h wn U (λ_ hw=>d3 _ (a2.fr hw (by intro k O hb;simp at O;subst O;have:=a0 _ hb;omega))) na9 U λa h=>z0e 5 h U λa h=>z1i (p:=2) ([]) 6 h U Z U y6p U ?_ (hp:=rfl);clear h a;intro h1 d4 a h;refine z2v 7 h wn U (λ_ hw=>d4 _ (a2.fr hw (by intro k O hb;simp at O;subst O;have:=a0 _ hb;omega))) na9 U λa h=>z0d 3 U (z0o h (z0a U z0f) (mkC func244) (y1b _ _ hG (b3 _)) ?_);rintro _ w7 ⟨rfl,J⟩ a h;replace hG:=hG.ext J;replace Z:=Z.ext J;replace M:=M.ext J;replace I:=I.ext J;replace a8:=a8.next J;replace hC:=hC.next J;clear J;refine z0b (x6c 4 hC h wn U (by rw[underlying3];rfl) underlying5 (by first|exact IntWalk.u8_in _ (by omega)|rfl) U U λa h=>z0c 9 h U z3j U λa h=>z0d 8 U (z0o h (z0a U z0f) (mkC func245) (u6a _ _ hG) ?_));rintro _ w8 ⟨rfl,J⟩ a h;replace hG:=hG.ext J;replace Z:=Z.ext J;replace M:=M.ext J;replace I:=I.ext J;replace a8:=a8.next J;replace hC:=hC.next J;clear J;refine z0b (z0d 10 U (z5j h U U I U U U sz5 λw9 a7 J hz a h=>?_));replace hG:=hG.fr J (by simp[z0u]<;>omega);replace Z:=Z.fr J (by intro k O hb;simp at O;subst O;have:=a0 _ hb;omega);replace M:=M.fr J;replace a8:=a8.sp J;replace hC:=hC.sp J;clear I J hz;have I:Blk w9 g3 _ [_,_,_,_,_,_]:=a7;clear a7;refine z0b (z0c 11 h U z8b U λa h=>z0d 12 U (z5j h U U I U U U j9f λf7 a7 J hz a h=>?_));replace hG:=hG.fr J (by simp[z0u]<;>omega);replace Z:=Z.fr J (by intro k O hb;simp at O;subst O;have:=a0 _ hb;omega);replace M:=M.fr J;replace a8:=a8.sp J;replace hC:=hC.sp J;clear I J hz;have I:Blk f7 g3 _ [_,_,_,_,_,_]:=a7;clear a7;refine z0b (z0q ?_);clear hC a6 a2 a3 a1;exact bk (h.sub (L':=[(2,_),(3,_)]) (.c2 U U)) (bn' (jE (()) (.c2 U U) ⟨((Fr.refl [g3] _).z1 a8),by rw[z3z,y6h,if_pos c2];exact I⟩));refine sq (rbo (r:=41) (L':=[(0,_),(2,_),(3,_)]) ((((y8v (ws.getD 0 []))=2)/\((ws.length:Int)=2))) (.c3 U U U) ?_ ?_);refine fad U z6q (z0i U I U v0i (eq' U (mv U U (gs 45 U (λg1=>?_) (λg1=>?_)))));exact gY U (mv U U (gY U (lnS U underlying84 (gY U (eq' U (pkt U (asg U (rbe U (.c3 U U U)))))))));exact gN U (gN U (gN U (pkf U (asg U (rbe U (.c3 U U U))))));refine tn (cd U (λc3=>?_) (λc3=>?_));refine rg (mv U U ?_);replace Z:=((Z.ext (q1.n1 q2)).fr q3 (by intro k O hb;simp at O;subst O;have:=a0 _ hb;omega)).fr q4 (by intro k O hb;simp at O;subst O;have:=a0 _ hb;omega);refine z1c (p:=1) ([]) U Z U y6p U (λh2 d5=>(z1l U (d5 _ Z) na9 ?_));replace hG:=hG.fr q4 (by first|exact z8x hG (by omega)|simp[z0u]<;>omega);refine cl (ev1 U) (mkC func244) (y1b _ _ hG (b3 _)) U ?_;rintro _ i1 ⟨rfl,e3⟩;refine z5s U (us underlying3) underlying5 (IntKind.wrap_u8 _) (fad U z3j ?_);replace I:=I.ext e3;refine z3o U I U sz5 (λf8 I f3 j4=>?_);replace I:Blk f8 g3 _ [_,_,_,_,_,_]:=I;exact kpL [(2,_),(3,_)] (.c2 U U) (nl (bn' (jE (()) (.c2 U U) ⟨((Fr.refl [g3] _).z2 e3 f3),by rw[z3z,y6h,if_neg c2,if_pos c3];exact I⟩)));refine sq (rbo (r:=56) (L':=[(0,_),(2,_),(3,_)]) ((((y8v (ws.getD 0 []))=3)/\((ws.length:Int)=2))) (.c3 U U U) ?_ ?_);refine fad U z6q (z0i U I U v0i (eq' U (mv U U (gs 60 U (λg2=>?_) (λg2=>?_)))));exact gY U (mv U U (gY U (lnS U underlying84 (gY U (eq' U (pkt U (asg U (rbe U (.c3 U U U)))))))));exact gN U (gN U (gN U (pkf U (asg U (rbe U (.c3 U U U))))));refine tn (cd U (λc4=>?_) (λc4=>?_));refine rg (mv U U ?_);replace Z:=((Z.ext (q1.n1 q2)).fr q3 (by intro k O hb;simp at O;subst O;have:=a0 _ hb;omega)).fr q4 (by intro k O hb;simp at O;subst O;have:=a0 _ hb;omega);refine z1c (p:=1) ([]) U Z U y6p U (λh3 d6=>(z1l U (d6 _ Z) na9 ?_));replace hG:=hG.fr q4 (by first|exact z8x hG (by omega)|simp[z0u]<;>omega);refine cl (ev1 U) (mkC func244) (y1b _ _ hG (b3 _)) U ?_;rintro _ i2 ⟨rfl,e4⟩;refine fad U y3g ?_;replace I:=I.ext e4;refine z3o U I U sz3 (λf9 I f4 j5=>?_);replace I:Blk f9 g3 _ [_,_,_,_,_,_]:=I;exact kpL [(2,_),(3,_)] (.c2 U U) (nl (bn' (jE (()) (.c2 U U) ⟨((Fr.refl [g3] _).z2 e4 f4),by rw[z3z,y6h,if_neg c2,if_neg c3,if_pos c4];exact I⟩)));refine jn (ι:=Bool) [(0,_),(2,_),(3,_)] (λb7=>[(70,.bool b7)]) (λb7 w'=>Fr [] w4 w'/\b7=decide (fD (y8v (ws.getD 0 []))=true/\(ws.length:Int)=4)) (.c3 U U U) ?_ ?_;replace hG:=hG.fr q4 (by first|exact z8x hG (by omega)|simp[z0u]<;>omega);replace Z:=((Z.ext (q1.n1 q2)).fr q3 (by intro k O hb;simp at O;subst O;have:=a0 _ hb;omega)).fr q4 (by intro k O hb;simp at O;subst O;have:=a0 _ hb;omega);replace M:=((M.ext q2).fr q3).fr q4;intro a h;have a9:=Fr.refl [] w4;refine z4h (λwb w'=>Fr [] wb w') z2l ?_;intro e7 J;replace hG:=hG.ext J;replace Z:=Z.ext J;replace M:=M.ext J;replace I:=I.ext J;replace a9:=a9.next J;have d0:=J.size;clear J;have hC:Fr [] e7 e7:=Fr.refl _ _;have a6:=hG;have a2:=Z;have a3:=M;have a1:=I;refine z0c 1 h U z6q U λa h=>z0j 2 h U (λ_ hw=>a1.ext hw) U v0i U λa h=>z0d 0 U (z0o h z0f (mkC func202) (y9s _) ?_);rintro _ i3 ⟨gm,rfl,e1,e2,hm,J⟩ a h;replace hG:=hG.ext J;replace Z:=Z.ext J;replace M:=M.ext J;replace I:=I.ext J;replace a9:=a9.next J;replace hC:=hC.next J;clear J;refine z0b (z0d 3 U (z6f (V:=kV) (k:=(y8v (ws.getD 0 []))) h U U hm y6i underlying303 x2a (z7e _) U λa h=>?_));refine z0b (z0d 4 U (x9a h U (λw=>fld0 _ w) U λa h=>?_));refine z0b (z0e 5 h U λa h=>?_);refine gSp (D:=76) h U ?_ ?_;clear h;intro g3 h;refine z0e 6 h U ?_ (hG:=(wy U));clear h a;intro a h;refine z6e 7 h (wy U) U underlying84 U λa h=>u2x 8 hC h (wy U) U U U U λa h=>z0d 9 U (z5i h U λa h=>?_);refine z0b (z0d 10 U (z0r h U λa h=>?_));refine z0b (z0q ?_);clear hC a6 a2 a3 a1;exact bk (h.sub (L':=[(0,_),(2,_),(3,_),(70,_)]) (.c4 U U U U)) (jE (_) (.c4 U U U U) ⟨a9,by simp_all [fD]⟩);clear h;intro g3 h;refine z2k 6 h U U λa h=>z2k 7 h U U λa h=>z2k 8 h U U λa h=>z0d 9 U (z3x h U U λa h=>?_);refine z0b (z0d 10 U (z0r h U λa h=>?_));refine z0b (z0q ?_);clear hC a6 a2 a3 a1;exact bk (h.sub (L':=[(0,_),(2,_),(3,_),(70,_)]) (.c4 U U U U)) (jE (_) (.c4 U U U U) ⟨a9,by simp_all [fD]⟩);rintro b7 e8 ⟨a5,rfl⟩;refine kpC [(0,_),(2,_),(3,_),(70,_)] (.c4 U U U U) (cd U (λc5=>?_) (λc5=>?_));refine sr (mv U U ?_);replace Z:=(((Z.ext (q1.n1 q2)).fr q3 (by intro k O hb;simp at O;subst O;have:=a0 _ hb;omega)).fr q4 (by intro k O hb;simp at O;subst O;have:=a0 _ hb;omega)).ext a5;refine z1c (p:=2) ([]) U Z U y6p U (λh4 d7=>(z1l U (d7 _ Z) na9 ?_));replace hG:=(hG.fr q4 (by first|exact z8x hG (by omega)|simp[z0u]<;>omega)).ext a5;refine cl (ev1 U) (mkC func246) (x0v _ _ hG (b3 _)) U ?_;rintro _ i4 ⟨e,rfl,b5⟩;refine mv U U (xt U (xt U (fad U z3h ?_)));replace I:=I.ext (a5.n1 b5);refine z3l (cs':=[_,_,_,_,_,_]) U I (by first|(simp[Value.oneCell',S];done)|exact Enc.one _ _) y6s U (λg6 I b9 j6=>?_);refine kpL [(0,_),(2,_),(3,_)] (.c3 U U U) (nn ?_);replace hG:=(hG.ext b5).fr b9 (by first|exact z8x hG (by omega)|simp[z0u]<;>omega);replace Z:=(Z.ext b5).fr b9 (by intro k O hb;simp at O;subst O;have:=a0 _ hb;omega);replace M:=((((M.ext q2).fr q3).fr q4).ext (a5.n1 b5)).fr b9;intro a h;have a4:=Fr.refl [g3] g6;refine z4h (λwb w'=>Fr [g3] wb w') z2l ?_;intro e9 J;replace hG:=hG.ext J;replace Z:=Z.ext J;replace M:=M.ext J;replace I:=I.ext J;replace a4:=a4.next J;have d0:=J.size;clear J;have hC:Fr [g3] e9 e9:=Fr.refl _ _;have a6:=hG;have a2:=Z;have a3:=M;have a1:=I;refine z0e 0 h U λa h=>z1i (p:=1) ([]) 1 h U Z U y6p U ?_ (hp:=rfl);clear h a;intro h5 d9 a h;refine z2v 2 h wn U (λ_ hw=>d9 _ (a2.fr hw (by intro k O hb;simp at O;subst O;have:=a0 _ hb;omega))) na9 U λa h=>z0e 4 h U λa h=>z1i (p:=3) ([]) 5 h U Z U y6p U ?_ (hp:=rfl);clear h a;intro h6 e0 a h;refine z2v 6 h wn U (λ_ hw=>e0 _ (a2.fr hw (by intro k O hb;simp at O;subst O;have:=a0 _ hb;omega))) na9 U λa h=>z0d 3 U (z0o h (z0a U z0f) (mkC func245) (u6a _ _ hG) ?_);rintro _ i5 ⟨rfl,J⟩ a h;replace hG:=hG.ext J;replace Z:=Z.ext J;replace M:=M.ext J;replace I:=I.ext J;replace a4:=a4.next J;replace hC:=hC.next J;clear J;refine z0b (z0c 9 h U z8b U λa h=>z0d 7 U (z0o h (z0a U z0f) (mkC func244) (y1b _ _ hG (b3 _)) ?_));rintro _ i7 ⟨rfl,J⟩ a h;replace hG:=hG.ext J;replace Z:=Z.ext J;replace M:=M.ext J;replace I:=I.ext J;replace a4:=a4.next J;replace hC:=hC.next J;clear J;refine z0b (x6c 8 hC h wn U (by rw[underlying3];rfl) underlying5 (by first|exact IntWalk.u8_in _ (by omega)|rfl) U U λa h=>z0d 10 U (z5j h U U I U U U j9f λg7 a7 J hz a h=>?_));replace hG:=hG.fr J (by simp[z0u]<;>omega);replace Z:=Z.fr J (by intro k O hb;simp at O;subst O;have:=a0 _ hb;omega);replace M:=M.fr J;replace a4:=a4.sp J;replace hC:=hC.sp J;clear I J hz;have I:Blk g7 g3 _ [_,_,_,_,_,_]:=a7;clear a7;refine z0b (z0c 11 h U z3j U λa h=>z0d 12 U (z5j h U U I U U U sz5 λg8 a7 J hz a h=>?_));replace hG:=hG.fr J (by simp[z0u]<;>omega);replace Z:=Z.fr J (by intro k O hb;simp at O;subst O;have:=a0 _ hb;omega);replace M:=M.fr J;replace a4:=a4.sp J;replace hC:=hC.sp J;clear I J hz;have I:Blk g8 g3 _ [_,_,_,_,_,_]:=a7;clear a7;refine z0b (z0q ?_);clear hC a6 a2 a3 a1;exact bk (h.sub (L':=[(2,_),(3,_)]) (.c2 U U)) (bn' (jE (()) (.c2 U U) ⟨((Fr.refl [g3] _).z4 a5 b5 b9 a4),by rw[z3z,y6h,if_neg c2,if_neg c3,if_neg c4,if_pos c5];exact I⟩));refine jn (ι:=Bool) [(0,_),(2,_),(3,_)] (λb6=>[(100,.bool b6)]) (λb6 w'=>Fr [] e8 w'/\b6=decide (fN (y8v (ws.getD 0 []))=true/\(ws.length:Int)=2)) (.c3 U U U) ?_ ?_;replace hG:=(hG.fr q4 (by first|exact z8x hG (by omega)|simp[z0u]<;>omega)).ext a5;replace Z:=(((Z.ext (q1.n1 q2)).fr q3 (by intro k O hb;simp at O;subst O;have:=a0 _ hb;omega)).fr q4 (by intro k O hb;simp at O;subst O;have:=a0 _ hb;omega)).ext a5;replace M:=(((M.ext q2).fr q3).fr q4).ext a5;replace I:=I.ext a5;intro a h;have b0:=Fr.refl [] e8;refine z4h (λwb w'=>Fr [] wb w') z2l ?_;intro f0 J;replace hG:=hG.ext J;replace Z:=Z.ext J;replace M:=M.ext J;replace I:=I.ext J;replace b0:=b0.next J;have d0:=J.size;clear J;have hC:Fr [] f0 f0:=Fr.refl _ _;have a6:=hG;have a2:=Z;have a3:=M;have a1:=I;refine z0c 1 h U z6q U λa h=>z0j 2 h U (λ_ hw=>a1.ext hw) U v0i U λa h=>z0d 0 U (z0o h z0f (mkC func202) (y9s _) ?_);rintro _ i8 ⟨gm,rfl,e1,e2,hm,J⟩ a h;replace hG:=hG.ext J;replace Z:=Z.ext J;replace M:=M.ext J;replace I:=I.ext J;replace b0:=b0.next J;replace hC:=hC.next J;clear J;refine z0b (z0d 3 U (z6f (V:=kV) (k:=(y8v (ws.getD 0 []))) h U U hm y6i underlying303 x2a (z7e _) U λa h=>?_));refine z0b (z0d 4 U (x9a h U (λw=>fld1 _ w) U λa h=>?_));refine z0b (z0e 5 h U λa h=>?_);refine gSp (D:=106) h U ?_ ?_;clear h;intro g4 h;refine z0e 6 h U ?_ (hG:=(wy U));clear h a;intro a h;refine z6e 7 h (wy U) U underlying84 U λa h=>u2x 8 hC h (wy U) U U U U λa h=>z0d 9 U (z5i h U λa h=>?_);refine z0b (z0d 10 U (z0r h U λa h=>?_));refine z0b (z0q ?_);clear hC a6 a2 a3 a1;exact bk (h.sub (L':=[(0,_),(2,_),(3,_),(100,_)]) (.c4 U U U U)) (jE (_) (.c4 U U U U) ⟨b0,by simp_all [fN]⟩);clear h;intro g4 h;refine z2k 6 h U U λa h=>z2k 7 h U U λa h=>z2k 8 h U U λa h=>z0d 9 U (z3x h U U λa h=>?_);refine z0b (z0d 10 U (z0r h U λa h=>?_));refine z0b (z0q ?_);clear hC a6 a2 a3 a1;exact bk (h.sub (L':=[(0,_),(2,_),(3,_),(100,_)]) (.c4 U U U U)) (jE (_) (.c4 U U U U) ⟨b0,by simp_all [fN]⟩);rintro b6 i9 ⟨b4,rfl⟩;refine kpC [(0,_),(2,_),(3,_),(100,_)] (.c4 U U U U) (cd U (λc6=>?_) (λc6=>?_));refine rg (mv U U ?_);replace Z:=(((Z.ext (q1.n1 q2)).fr q3 (by intro k O hb;simp at O;subst O;have:=a0 _ hb;omega)).fr q4 (by intro k O hb;simp at O;subst O;have:=a0 _ hb;omega)).ext (a5.n1 b4);refine z1c (p:=1) ([]) U Z U y6p U (λf1 c9=>(z1l U (c9 _ Z) na9 ?_));replace hG:=(hG.fr q4 (by first|exact z8x hG (by omega)|simp[z0u]<;>omega)).ext (a5.n1 b4);refine cl (ev1 U) (mkC func246) (x0v _ _ hG (b3 _)) U ?_;rintro _ j0 ⟨e,rfl,e5⟩;refine mv U U (xt U (xt U (fad U z3h ?_)));replace I:=I.ext (a5.n2 b4 e5);refine z3l (cs':=[_,_,_,_,_,_]) U I (by first|(simp[Value.oneCell',S];done)|exact Enc.one _ _) y6s U (λj1 I f5 j7=>?_);exact kpL [(2,_),(3,_)] (.c2 U U) (nl (bn' (jE (()) (.c2 U U) ⟨((Fr.refl [g3] _).z4 a5 b4 e5 f5),by rw[z3z,y6h,if_neg c2,if_neg c3,if_neg c4,if_neg c5,if_pos c6];exact I⟩)));refine sk (bn' ?_);replace I:=I.ext (a5.n1 b4);exact jE (()) (.c2 U U) ⟨((Fr.refl [g3] _).n2 a5 b4),by rw[z3z,y6h,if_neg c2,if_neg c3,if_neg c4,if_neg c5,if_neg c6];exact I⟩;rintro _j j2 ⟨e6,I⟩;have b8:=I.lt;refine kpC [(2,_),(3,_)] (.c2 U U) (sr (z0n U I y5j ?_));replace M:=(((M.ext q2).fr q3).fr q4).fr e6;refine z0k U M u5r (λj3 M f6 j8=>?_) (hl:=rfl);exact nn (rt (rC results191 U M y5j  ⟨_,rfl,rfl,(q1.z5 q2 q3 q4 e6 f6)⟩))
theorem u1p (l:List UInt8)(w0:World)(hG:Glob w0)(hl:l.length<=1000000):Rets prog 137 #[S l] w0 λr w'=>∃o e,y5d l=(o,e)/\r=.tuple #[opV o,.int .i64 e]/\Fr [] w0 w':=by
 have a2:=hG.sz;refine we [(0,S l)] func137 U ntmps137 U (.cons U .nil) (sr (al u5m U (λg2 w1 a3 D q1 z1=>(asg U (nn (sr (mv U U ?_)))))));replace hG:=hG.ext q1;refine cl (ev2 U) (mkC func134) (x8y _ _ _ hG (by omega) (by decide)) U ?_;rintro v6 w2 ⟨a0,J⟩;have z2:=J.size;replace hG:=hG.ext J;refine cl (ev1 U) (mkC func191) (v9n _ _ _ hG a0.sl (v8k _ _) (λi=>Nat.le_trans (x1m _ _ i) hl)) U ?_;rintro _ w3 ⟨rfl,M⟩;have z3:=M.size;refine al u5m U (λg4 w4 a4 I Z z4=>(z0k U I u5r (λw5 I q5 z5=>?_) (hl:=rfl)));refine nn (sq (sq (x6a (r:=16) (L':=[(2,_),(4,_)]) ((((y0b (z3z (Lib.split l [32])))≠0)\/((j4w (z3z (Lib.split l [32])))≠l))) (.c2 U U) ?_ ?_)));refine z0n U I y5j (cl (ev1 U) (mkC func100) (y8q (z3z (Lib.split l [32])) _) U ?_);rintro _ w6 ⟨rfl,q6⟩;have z6:=q6.size;refine ne' U (mv U U (gs 11 U (λg0=>?_) (λg0=>?_)));exact gN U (gN U (gN U (gN U (pkt U (z8f U (.c2 U U) q6)))));refine gY U ?_;replace I:=I.ext q6;refine z0n U I y5j (gY U ?_);replace hG:=((hG.ext (M.n1 Z)).fr q5 (by first|exact z8x hG (by omega)|simp[z0u]<;>omega)).ext q6;refine cl (ev1 U) (mkC func192) (u8o (z3z (Lib.split l [32])) _ hG) U ?_;rintro _ w7 ⟨rfl,q7⟩;have z7:=q7.size;exact gY U (mv U U (gY U (j3l U U U (pkf U (z8f U (.c2 U U) (q6.n1 q7))))));intro w8 O;have z8:=O.size;refine tn (cd U (λc0=>?_) (λc0=>?_));refine sr (z1x (cs:=[_,_,_,_,_,_]) z0f u8q z0s U ?_);replace D:=((D.ext (J.n2 M Z)).fr q5).ext O;refine z0k U D u5r (λw9 D q9 z9=>?_) (hl:=rfl);exact asg U (nn (rt (tr (rCT results137 U D y5j U ⟨_,rfl,op0,4,by rw[y5d,if_pos c0],rfl,(q1.z6 J M Z q5 O q9)⟩))));refine sk (tn (sr ?_));replace I:=I.ext O;refine z0n U I y5j ?_;replace D:=((D.ext (J.n2 M Z)).fr q5).ext O;refine z0k U D u5r (λa5 D a1 a6=>?_) (hl:=rfl);exact asg U (nn (rt (rCT results137 U D y5j U ⟨_,rfl,(z3z (Lib.split l [32])),0,by rw[y5d,if_neg c0],rfl,(q1.z6 J M Z q5 O a1)⟩)))
theorem v1k (l:List UInt8)(w0:World)(hG:Glob w0)(hl:l.length<=1000000):Rets prog 75 #[S l] w0 λr w'=>∃A os n e,x5b l=(os,n,e)/\r=.tuple #[.slice A os.length os.length,.int .i64 n,.int .i64 e]/\Lw.Own y0r 47 w0.heap.size w' (.slice A os.length os.length) os/\Fr [] w0 w':=by
 have a0:=λi=>x1m l [10] i;have d0:=hG.sz;refine we [(0,S l)] func75 U ntmps75 U (.cons U .nil) (sr (asg U (asg U (asg U (nn (sr (asg U (nn (sq (sr (mv U U (cl (ev2 U) (mkC func134) (x8y _ _ _ hG (by omega) (by decide)) U ?_))))))))))));rintro d6 w1 ⟨D,q1⟩;have z1:=q1.size;obtain⟨b8,b9,rfl,b5⟩:=D.sl.form;have a7:=λk hk=>(D.blk k hk).2;have a8:=D.sl.len_le;unfold maxLen at a8;refine lnS U underlying84 (mv U U (nn (bl (lpK (ι:=Nat×List MOp×Option Addr×Nat) [(12,_),(13,_)] (λp=>[(5,.slice p.2.2.1 p.2.1.length p.2.2.2),(14,.int .i64 (p.1:Int))]) (λp w'=>Fr [] w1 w'/\p.1<=(Lib.split l [10]).length/\Lw.Own y0r 47 w1.heap.size w' (.slice p.2.2.1 p.2.1.length p.2.2.2) p.2.1/\v0o ((Lib.split l [10]).drop p.1) p.1 p.2.1=x5b l/\p.2.1.length<=4096) (λp=>(Lib.split l [10]).length-p.1) (0,[],none,0) (.c4 U U U U) ⟨Fr.refl _ _,⟨Nat.zero_le _,Own.nil _,rfl,by decide⟩⟩ ?_))));rintro⟨i,M,A5,c5⟩ w2 ⟨q2,⟨hi,J,I,a2⟩⟩;simp only at hi J I a2;have z2:=q2.size;refine kpC [(12,_),(13,_),(5,.slice A5 M.length c5),(14,.int .i64 (i:Int))] (.c4 U U U U) (sr (lt' U (nn (sq (cd U (λc0=>?_) (λc0=>?_))))));rw[v5s (Lib.split l [10]) i [] (by omega),v0o]at I;have d3:=a0 i;refine sk (tn (sq (bl (sr (mv U U ?_)))));replace D:=D.ext q2;refine z1c (p:=i) ([]) U D.sl U y6p (by omega) (λb4 a3=>(z1l U (a3 _ D.sl) na9 (asg U (asg U (nn (sr (mv U U ?_)))))));replace hG:=hG.ext (q1.n1 q2);refine cl (ev2 U) (mkC func135) (j0f _ _ _ hG (by have:=a0 i;omega)) U ?_;rintro _ w3 ⟨rfl,q3⟩;have z3:=q3.size;refine mv U U (xt U (xt U (xt U (asg U (kpL [(5,_),(6,_),(7,_),(12,_),(13,_),(14,_)] (.c6 U U U U U U) (nn (sr (mv U U (cl (ev2 U) (mkC func136) (u9g _ _ (by have:=a0 i;have:=v7o ((Lib.split l [10]).getD i []) [35];omega)) U ?_)))))))));rintro _ w4 ⟨rfl,q4⟩;have z4:=q4.size;refine asg U (nn (sq (sr (mv U U (v0c U (nn (cd U (λc1=>?_) (λc1=>?_))))))));rw[if_pos (show y9y ((Lib.split l [10]).getD i [])=[] from c1)]at I;refine ex (te (xh (tn (rg (z1b U (wi6 (by omega)) (mv U U (nl ?_)))))));replace J:=J.ext (q3.n1 q4);exact lpE ((i+1,M,A5,c5)) (.c4 U U U U) ⟨(q2.n2 q3 q4),⟨by omega,J,by simpa using I,a2⟩⟩ (by omega);rw[if_neg (show ¬y9y ((Lib.split l [10]).getD i [])=[] from c1)]at I;refine sk (tn (sr (mv U U ?_)));replace hG:=hG.ext (q3.n1 q4);refine cl (ev1 U) (mkC func137) (u1p _ _ hG (by have:=a0 i;have:=u0d ((Lib.split l [10]).getD i []);unfold y9y at this;omega)) U ?_;rintro _ w5 ⟨o,e,b0,rfl,q5⟩;have z5:=q5.size;rw[show y5d (y9y ((Lib.split l [10]).getD i []))=(o,e) from b0]at I;simp only at I;refine mv U U (xt U (xt U (al u5m U (λg8 w6 d4 a1 q6 z6=>(z0k U a1 u5r (λw7 a1 q7 z7=>?_) (hl:=rfl))))));refine asg U (kpL [(5,_),(6,_),(8,_),(9,_),(12,_),(13,_),(14,_)] (.c7 U U U U U U U) (nn (sq (sr (mv U U (ne' U (nn (cd U (λc2=>?_) (λc2=>?_)))))))));rw[if_pos c2]at I;exact sr (mv U U (z1b U (wi6 (by omega)) (mv U U (asg U (asg U (asg U (kpL [(2,_),(3,_),(4,_)] (.c3 U U U) (nn (rt (tr (rb (tr (tr (rb (tr (r3 results75 U U U ⟨_,rfl,none,[],_,_,I.symm,rfl,Own.nil _,(q1.z6 q2 q3 q4 q5 q6 q7)⟩))))))))))))))));rw[if_neg c2]at I;refine sk (tn (sq (sr (mv U U (lnS U underlying25 (eq' U (nn (cd U (λc3=>?_) (λc3=>?_)))))))));rw[if_pos c3]at I;exact sr (mv U U (z1b U (wi6 (by omega)) (asg U (asg U (asg U (kpL [(2,_),(3,_),(4,_)] (.c3 U U U) (nn (rt (tr (rb (tr (tr (rb (tr (r3 results75 U U U ⟨_,rfl,none,[],_,_,I.symm,rfl,Own.nil _,(q1.z6 q2 q3 q4 q5 q6 q7)⟩)))))))))))))));rw[if_neg c3]at I;refine sk (tn (rg (mv U U (z0n U a1 y5j (z2w ([o]) (ev1 U) U v8i (λc9 w8 b6 a4 q8 z8=>?_))))));replace hG:=((hG.ext (q5.n1 q6)).fr q7 (by first|exact z8x hG (by omega)|simp[z0u]<;>omega)).ext q8;replace D:=((D.ext (q3.n3 q4 q5 q6)).fr q7 (by first|exact z8x D (by omega)|simp[z0u]<;>omega)).ext q8;replace J:=((J.ext (q3.n3 q4 q5 q6)).fr q7 (by first|exact z8x J (by omega)|simp[z0u]<;>omega)).ext q8;have O:=J;refine z2n U J a4.sl v8i (λd7 w9 J q9 a9=>?_) (hM:=(by unfold maxLen;simp;omega)) (hb:=(by simp;omega));have z9:=q9.size;replace hG:=hG.fr q9 (λk hk=>by have:=(O.blk k hk).1;omega);replace D:=D.fr q9 (λk hk hb=>by have:=(O.blk k hk).1;have:=a7 k hb;omega);obtain⟨A7,c7,rfl,d1⟩:=J.sl.form;exact asg U (kpL [(5,_),(12,_),(13,_),(14,_)] (.c4 U U U U) (nl (bn' (tn (rg (z1b U (wi6 (by omega)) (mv U U (nl (lpE ((i+1,M++[o],A7,c7)) (.c4 U U U U) ⟨((q2.z6 q3 q4 q5 q6 q7 q8).step q9 (λk hk d5=>absurd (O.blk k hk).1 (by omega))),⟨by omega,J,by simpa using I,by simp;omega⟩⟩ (by omega))))))))));obtain rfl:i=(Lib.split l [10]).length:=by omega
 rw[List.drop_length,v0o]at I;refine ex (te (te (xh (tn (sr (mv U U (lnS U underlying25 (z1e (m:=M.length) (c:=M.length) op0 U v8i u5m U (λa6 d9 b7 Z a5 e1=>?_) (hmc:=(Nat.le_refl _))))))))));refine asg U (kpL [(5,_),(10,_)] (.c2 U U) (nn (sr (mv U U (mv U U ?_)))));replace J:=J.ext a5;refine z6i (zs:=List.replicate M.length op0) (by rw[List.length_replicate];rfl) U (by rw[List.length_replicate];exact Z) J.sl (by rw[List.length_replicate]) v8i (λe0 Z b3 e2=>?_);rw[List.length_replicate]at Z;exact nn (sr (mv U U (asg U (asg U (asg U (nn (rt (r3 results75 U U U ⟨_,rfl,some ⟨a6,0,none⟩,M,0,0,I.symm,rfl,Z.low (by omega),(q1.z3 q2 a5 b3)⟩))))))))
open Go.Lw Go.G21 Go.G08 _root_.Go.Proofs.Tryz
end Go.Proofs.YtjilcnmaefhmeaaGreatDoor
namespace Go.Lw
open Go.RowKit
end Go.Lw
namespace Go.Proofs.YtjilcnmaefhmeaaGreatDoor
open Go.Lw Go.G21 Go.G08 _root_.Go.Proofs.Tryz
def j4x (l:List MOp):Nat:=match z3n 0 G08.start l with
  | .error (_,n)=>n
  | .ok _=>l.length
theorem u6q (I D:Nat)(v:Value)(l:List MOp)(w0:World)(hS:StAt w0 (st0 I D))(hv:Sl y0r w0 v l)(J:StT w0)(M:l.length<=4096):Rets prog 13 #[.agg #[.int .i64 (st0 I D).rk,.slice (st0 I D).q.f.1 (st0 I D).q.f.2.1 (st0 I D).q.f.2.2,.slice (st0 I D).q.b.1 (st0 I D).q.b.2.1 (st0 I D).q.b.2.2,.slice (st0 I D).yv.1 (st0 I D).yv.2.1 (st0 I D).yv.2.2,.slice (st0 I D).fb.t.1 (st0 I D).fb.t.2.1 (st0 I D).fb.t.2.2,.slice (st0 I D).fb.c.1 (st0 I D).fb.c.2.1 (st0 I D).fb.c.2.2,.slice (st0 I D).fb.h.1 (st0 I D).fb.h.2.1 (st0 I D).fb.h.2.2,.slice (st0 I D).fb.f.1 (st0 I D).fb.f.2.1 (st0 I D).fb.f.2.2],v] w0 λr w'=>(∃s':StQ,r=.tuple #[.agg #[.int .i64 s'.rk,.slice s'.q.f.1 s'.q.f.2.1 s'.q.f.2.2,.slice s'.q.b.1 s'.q.b.2.1 s'.q.b.2.2,.slice s'.yv.1 s'.yv.2.1 s'.yv.2.2,.slice s'.fb.t.1 s'.fb.t.2.1 s'.fb.t.2.2,.slice s'.fb.c.1 s'.fb.c.2.1 s'.fb.c.2.2,.slice s'.fb.h.1 s'.fb.h.2.1 s'.fb.h.2.2,.slice s'.fb.f.1 s'.fb.f.2.1 s'.fb.f.2.2],.int .i64 (j4x l:Int),.int .i64 (v9d l)]/\StO τd 117 w0.heap.size w' s'/\∀p,z3n 0 G08.start l=.ok p->s'.p=stM p)/\Fr [] w0 w':=
 Rets.mono (j1v I D v l w0 hS hv J M) (by
  rintro r w' ⟨h,hf⟩
  refine⟨?_,hf⟩
  unfold v9d j4x
  cases e:z3n 0 G08.start l with
  | error x=>
   obtain⟨e1,n⟩:=x
   rw[e]at h
   exact⟨stZ,h,k0z _ _,λp hp=>by cases hp⟩
  | ok p=>
   rw[e]at h
   obtain⟨s',O,Z,h3⟩:=h
   exact⟨s',O,Z,λq hq=>by cases hq;exact h3⟩)
theorem x8i {l:List MOp}{p:MSt}(h:z3n 0 G08.start l=.ok p):v9d l=0/\j4x l=l.length:=by
 unfold v9d j4x;rw[h];exact⟨rfl,rfl⟩
open Go.Lw Go.G21 Go.G08 Go.G09 _root_.Go.Proofs.Tryz
theorem v8v (x y:Hz):orZ [z6a x.o y.o,z6a x.k y.k,z6k x.id y.id]=y0v x y:=by
 unfold y0v orZ orZ orZ orZ;(repeat' split)<;>first|rfl|omega|(rename_i h;exact(Decidable.not_not.1 h).symm)|simp_all
theorem j9h (x:Int)(W:World):Calls prog 130 #[.int .u8 x] W λe w'=>e=.returned (.bool false)/\w'=W:=by
 go_enter func130,ntmps130;go_wp2;go_ret;exact⟨by simp,rfl⟩
theorem j9o (x y:Int)(W:World):Calls prog 68 #[.int .u8 x,.int .u8 y] W λe w'=>e=.returned (.int .i64 (z6a x y))/\w'=W:=by
 go_enter func68,ntmps68
 go_wp2_with (go_at_call 130;refine(j9h _ _).mono ?_;rintro e w' ⟨rfl,D⟩;rw[D])
 all_goals (go_ret;refine⟨?_,rfl⟩;unfold z6a;(repeat' split)<;>first|rfl|(exfalso;omega))
theorem orD3 (b T:Nat)(x y z:Int)(W:World)(h0:W.heap[b]?=some (.cells #[.int .i64 x,.int .i64 y,.int .i64 z] T (0,0))):Calls prog 66 #[.slice (some ⟨b,0,none⟩) 3 3] W λe w'=>e=.returned (.int .i64 (orZ [x,y,z]))/\w'=W:=
 Calls.mono (j4u _ [x,y,z] W (Lw.Own.sl (E:=Enc.i64) (T:=T) (base:=b) (.inr ⟨b,3,_,rfl,Nat.le_refl _,h0,Nat.le_refl _,by decide,Nat.le_refl 3,rfl⟩)) (by simp)) (by rintro e w' ⟨r,rfl,rfl,h⟩;exact⟨rfl,h⟩)
abbrev hzVd (x:Hz):Value:=.agg #[.int .i64 x.o,.int .u8 x.k,.int .u8 x.id.y,.int .i64 x.id.n]
theorem j7f (x y:Hz)(W:World):Calls prog 65 #[hzVd x,hzVd y] W λe w'=>e=.returned (.int .i64 (y0v x y))/\DG W w':=by
 rw[<-v8v x y]
 go_enter func65,ntmps65
 go_wp2
 go_region_held3 (λw'=>w'.cell? ⟨W.heap.size,0,none⟩=some (.int .i64 x.o)/\w'.cell? ⟨W.heap.size,1,none⟩=some (.int .u8 x.k)/\w'.cell? ⟨W.heap.size,2,none⟩=some (.int .u8 x.id.y)/\w'.cell? ⟨W.heap.size,3,none⟩=some (.int .i64 x.id.n)/\w'.cell? ⟨W.heap.size+1,0,none⟩=some (.int .i64 y.o)/\w'.cell? ⟨W.heap.size+1,1,none⟩=some (.int .u8 y.k)/\w'.cell? ⟨W.heap.size+1,2,none⟩=some (.int .u8 y.id.y)/\w'.cell? ⟨W.heap.size+1,3,none⟩=some (.int .i64 y.id.n)) (first|go_keep|exact⟨D.cell (by simp[*]),D.cell (by simp[*]),D.cell (by simp[*]),D.cell (by simp[*]),D.cell (by simp[*]),D.cell (by simp[*]),D.cell (by simp[*]),D.cell (by simp[*])⟩)
  (first|(go_at_call 68;refine(j9o _ _ _).mono ?_;rintro e w' ⟨rfl,rfl⟩)|(go_at_call 67;refine(cmpD _ _ _).mono ?_;rintro e w' ⟨rfl,rfl⟩)|(go_at_call 69;refine(u0j ⟨_,_⟩ ⟨_,_⟩ _).mono ?_;rintro e w' ⟨rfl,D⟩)|(go_at_call 66;refine(orD3 _ 3 (z6a x.o y.o) (z6a x.k y.k) (z6k x.id y.id) _ (u4c _ _ _ (by simp))).mono ?_;rintro e w' ⟨rfl,rfl⟩)|(go_at_call 66;refine(orD3 _ 3 (z6a x.o y.o) (z6a x.k y.k) (z6k x.id y.id) _ (j4j _ _ _ (by simp))).mono ?_;rintro e w' ⟨rfl,rfl⟩))
 all_goals go_wp2
 all_goals go_ret
 all_goals refine⟨rfl,?_⟩
 all_goals repeat first|exact DG.refl _|refine DG.trans ?_ D|refine DG.drew ?_|refine DG.alloc ?_ _
open Go.Shelf Go.Sort
instance:Inhabited Hz:=⟨hz0⟩
theorem j7d {w0:World}{T base:Nat}{v:Value}{l:List Hz}(ho:Lw.Own y6g T base w0 v l)(hl:l.length<4611686018427387904):Rets prog 64 #[v,.func (.func 65) #[] #[]] w0 λr w'=>r=.tuple #[]/\Lw.Own y6g T base w' v (y7y l)/\Fr (z0u v) w0 w':=
 Rets.mono (y9x (E:=y6g) (f:=64) sortHz U isAgg75 sizeOf75 y0v swoH (enters_of func65 (by kernel_rfl) U) (λx y W=>j7f x y W) (u8b _) ho hl) (by
  rintro r w' ⟨rfl,l',J,M,D,I⟩
  rw[x5v J M]at D
  exact⟨rfl,D,I⟩)
open Go.Lw Go.G21 Go.G08 Go.G09 _root_.Go.Proofs.Tryz
theorem j9k:BuildAt prog 143 [(0,4),(4,1),(5,1),(6,2),(8,6),(14,6),(20,3),(23,1)] [(.slice none 0 0),(.slice none 0 0),(.slice none 0 0),(.slice none 0 0),(.map none),(.int .i64 0),(.slice none 0 0),(.slice none 0 0),(.int .i64 0),(.int .i64 0),(.int .i64 0),(.int .i64 0),(.int .i64 0),(.int .i64 0),(.int .i64 0),(.int .i64 0),(.int .i64 0),(.int .i64 0),(.int .i64 0),(.int .i64 0),(.map none),(.map none),(.map none),(.slice none 0 0)]:=BuildAt.struct underlying143 (λ_=>by kernel_rfl) (λ_=>by kernel_rfl)
theorem zv75 (w:World):(zeroValue 75).run prog w=.ok (.agg #[(.int .i64 0),(.int .u8 0),(.int .u8 0),(.int .i64 0)]) w:=by kernel_rfl
theorem u7g {l:List MOp}(h:v9d l=0):∃q,z3n 0 G08.start l=.ok q:=by
 unfold v9d at h;cases e:z3n 0 G08.start l with
 | ok q=>exact⟨q,rfl⟩
 | error x=>
  obtain⟨D,n⟩:=x;rw[e]at h;exact absurd h (u6c e)
theorem j9y {s:StQ}{q:MSt}(h:s.p=stM q)(I:MVal q):z1r s.fb.ts=q.tb/\s.fb.hs=(z2m q.B q.rk).map Hd.id/\s.fb.fs=z7g q.fa/\s.fb.ts.length=6:=by
 have D:z1r s.fb.ts=q.tb:=congrArg (λz=>z.fb.t) h;refine⟨D,congrArg (λz=>z.fb.h) h,congrArg (λz=>z.fb.f) h,?_⟩;rw[<-z9c,D];exact I.inv.lt
theorem u2o {q:MSt}(D:MVal q):(z7g q.fa).length<=2048:=by
 rw[(z5l q.fa).length_eq];have I:=D.inv.cnt;have J:=D.inv.all;omega
theorem u8i (v:Value)(l:List MOp)(w0:World)(hv:Sl y0r w0 v l)(hTS:StT w0)(hl4:l.length<=4096):Rets prog 20 #[v] w0 λr w'=>(∃x,r=.tuple #[x,.int .i64 (j4x l:Int),.int .i64 (v9d l)]/\(v9d l≠0->x=.slice none 0 0)/\∀q,z3n 0 G08.start l=.ok q->∃g n,x=.slice (some ⟨g,0,none⟩) n n/\Lw.Own y6g 75 w0.heap.size w' x (y7y (y6t l q)))/\Fr [] w0 w':=by
 obtain⟨A,c,rfl,hcc,hMl,hA⟩:=id hv;clear hA;unfold maxLen at hMl;refine we [(0,.slice A l.length c)] func20 U ntmps20 U (.cons U .nil) ?_;have hv0:=hv;have hTS0:=hTS;refine sr (asg U (asg U (asg U (nn (sr (cl z0f (mkC func14) (v2g _) U ?_))))));rintro _ w1 ⟨⟨gy,gt,rfl,hSt⟩,q1⟩;have z1:=q1.size;have hSt0:=hSt;refine mv U U ?_;replace hv:=hv0.ext q1;replace hTS:=hTS0.ext q1;refine cl (ev2 U) (mkC func13) (u6q gy gt _ l _ hSt hv hTS hl4) U ?_;rintro _ w2 ⟨⟨s,rfl,hO,hsp0⟩,q2⟩;have z2:=q2.size;have hO0:=hO;refine mv U U (xt U (xt U (xt U (al j8q U (λg5 w3 hg5 hb5 q3 z3=>?_)))));refine z0k (vs:=[_,_,_,_,_,_,_,_]) U hb5 v7u (λw4 hb5 q4 z4=>?_) (h1:=(by first|(simp[Value.oneCell',S];done)|exact z1f.one _|exact y0r.one _));refine asg U (asg U (kpL [(0,_),(5,_),(6,_),(7,_)] (.c4 U U U U) (nn (sq (sr (mv U U (ne' U (nn (cd U (λc0=>?_) (λc0=>?_))))))))));exact sr (mv U U (mv U U (asg U (asg U (asg U (kpL [(2,_),(3,_),(4,_)] (.c3 U U U) (nn (rt (tr (r3 results20 U U U ⟨_,rfl,⟨_,rfl,λ_=>rfl,λq hq=>absurd (x8i hq).1 c0⟩,(q1.z3 q2 q3 q4)⟩))))))))));replace hO:=hO0.ext (q3.z1 q4);replace hv:=hv0.ext (q1.z3 q2 q3 q4);obtain⟨qf,hqf⟩:=u7g (Classical.not_not.1 c0);have hsp:=hsp0 _ hqf;have hnr:=(x8i hqf).2;have hF0:Fr [] w0 w4:=(q1.z3 q2 q3 q4);have hO0:=hO;have hb50:=hb5;have hvS:=hv;have hvq:=x0l z8y hqf;obtain⟨htb,hhs,hfs,h6⟩:=j9y hsp hvq;have hfl:=u2o hvq;have hhl:=z1y hO0.at.f.h;have hhl2:s.fb.hs.length<=320:=by rw[hhs,List.length_map];exact x5u hvq.inv.B _
 refine sk (tn (sr (fad U y0a (z1w (vs:=[_,_,_,_]) U hb5 v8x U (z8n idV U (λg29 w5 hg29 hm q5 z5=>?_))))));rw[<-y9v]at hm;refine z1x (cs:=[_,_,_,_,_,_,_,_,_,_,_,_,_,_,_,_,_,_,_,_,_,_,_,_]) (ev2 U) j9k (z0g U (z0g U z0s)) U ?_;refine bx U (λg31 w6 hg31 hb31 q6 z6=>(asg U (kpL [(0,_),(5,_),(6,_),(8,_)] (.c4 U U U U) (nn (sq (sr (fad U y0a ?_)))))));replace hb5:=hb50.ext (q5.n1 q6);refine z1w (vs:=[_,_,_,_]) U hb5 v8x U ?_;replace hO:=hO0.ext (q5.n1 q6);refine cl (ev1 U) (mkC func60) (j1l s.fb _ hO.at.f h6 (by rw[htb,hfs];exact λi hi=>hvq.fa i ((z5l qf.fa).mem_iff.1 hi)) (by rw[hfs];omega)) U ?_;rintro _ w7 ⟨A34,n34,rfl,hU,q7⟩;have z7:=q7.size;rw[hfs,htb]at hU;have hn34:n34=((z7g qf.fa).filter λi=>!z4j qf.tb i).length:=by
  obtain⟨_,_,e_,_⟩:=hU.sl.form;injection e_ with e1 e2 e3
 have hn35:n34<=2048:=by rw[hn34];exact Nat.le_trans (List.length_filter_le _ _) hfl
 refine lnS U underlying27 (mv U U (nn (bl ?_)));replace hm:=hm.ext (q6.n1 q7);refine lpK (ι:=Nat) [(0,_),(5,_),(6,_),(8,_),(34,_),(35,_)] (λk=>[(36,.int .i64 (k:Int))]) (λk w'=>Fr [g29] w7 w'/\k<=n34/\MapF idV w' g29 (z6g (((z7g qf.fa).filter λi=>!z4j qf.tb i).take k))) (λk=>n34-k) 0 (.c7 U U U U U U U) ⟨Fr.refl _ _,⟨Nat.zero_le _,by rw[List.take_zero];exact hm⟩⟩ ?_;rintro k w8 ⟨q8,⟨hk,hm⟩⟩;have z8:=q8.size;refine kpC [(0,_),(5,_),(6,_),(8,_),(34,_),(35,_),(36,_)] (.c7 U U U U U U U) (sr (lt' U (nn (sq (cd U (λc1=>?_) (λc1=>?_))))));refine sk (tn (sq (bl (sr ?_))));replace hU:=hU.fr q8 (by intro k hk hb;simp at hk;have:=(hU.blk _ hb).1;omega);refine z1c (id0) U hU.sl U z4s z1g (λad38 hc38=>?_);refine z1k U (hc38 _ hU.sl) z2x (al y0k U (λg10 w9 hg10 hb10 q9 z9=>?_));refine z0k (vs:=[_,_]) U hb10 z9r (λw10 hb10 q10 z10=>?_) (h1:=(by first|(simp[Value.oneCell',S];done)|exact z1f.one _|exact y0r.one _));refine nn ?_;replace hb31:=(((hb31.ext q7).fr q8).ext q9).fr q10;replace hm:=(hm.ext q9).fr q10 (by simp;omega);intro a h;refine z0h (some 5) (λwb w'=>Fr [] wb w') z2l ?_;intro w11 q11;have z11:=q11.size;replace hb31:=hb31.ext q11;replace hm:=hm.ext q11;replace hb10:=hb10.ext q11;have hC:Fr [] w11 w11:=Fr.refl _ _;have hb31_b:=hb31;have hm_b:=hm;have hb10_b:=hb10;refine z0e 0 h U λa h=>z0l 1 h U λa h=>z0c 2 h U v7c U λa h=>z0j 3 h U (λ_ hw=>hb31_b.ext hw) U x6g U λa h=>z0v 4 h U (λ_ hw=>hb10_b.ext hw) z2x U λa h=>z0d 5 U (x2u (V:=idV) (k:=((z7g qf.fa).filter λi=>!z4j qf.tb i).getD k id0) h U U U hm z3y underlying135 λw12 hcN q12 _hz a h=>?_);rw[y4b]at hcN;clear hm;have hm:=hcN;clear hcN;have z12:=q12.size;replace hb31:=hb31.fr q12;replace hb10:=hb10.fr q12;clear _hz;refine z1m (z0q ?_);clear hC hb31_b hm_b hb10_b;exact bk (h.sub (L':=[(0,_),(5,_),(6,_),(8,_),(34,_),(35,_),(36,_)]) (.c7 U U U U U U U)) (bn' (tn (rg (z1b U (wi6 (by omega)) (mv U U (nl (lpE (k+1) (.c7 U U U U U U U) ⟨((Fr.refl [g29] _).z5 q8 q9 q10 q11 q12),⟨by omega,by rw[z1t id0 (by omega)];exact hm⟩⟩ (by omega))))))));replace hb31:=(hb31.ext q7).fr q8;replace hO:=hO0.ext (q5.z3 q6 q7 q8);rw[List.take_of_length_le (by omega)]at hm;have hW:WkM τw w4 ⟨g31,w8⟩ w8 (⟨s.fb,g29,0,⟨sv0,sv0,[],[]⟩,[0,0,0,0,0,0],[0,0,0,0,0,0],.map none,.map none,.map none,sv0⟩:WtQ) vw0 (z6g ((z7g qf.fa).filter λi=>!z4j qf.tb i)) []:=⟨hb31,⟨⟨Own.nil _,λp hp=>(by cases hp)⟩,⟨Own.nil _,λp hp=>(by cases hp)⟩⟩,hm,.inl ⟨rfl,λ_=>rfl⟩,.inl ⟨rfl,λ_=>rfl⟩,Own.nil _,hO0.at.f,(by show _<=g31;omega),rfl,rfl,(q5.z3 q6 q7 q8),KpM.refl _ _ _,⟨_,rfl⟩⟩;have hW0:=hW;refine ex (te (te (xh (tn (sq (sr (mv U U (lnS U underlying25 (mv U U (nn (bl (lpK (ι:=Nat) [(0,_),(5,_),(6,_),(8,_),(46,_),(47,_)] (λi=>[(48,.int .i64 (i:Int))]) (λi w'=>i<=l.length/\∃(p:MSt) (t:Wt) (u:WtQ) (fd:List Hz),RepI l qf ((z7g qf.fa).filter λi=>!z4j qf.tb i) i p t/\WkM τw w4 ⟨g31,w8⟩ w' u t.vw (z6g ((z7g qf.fa).filter λi=>!z4j qf.tb i)) fd/\fd.Perm t.fd/\u.q.p=p.B/\u.rk=p.rk/\u.ct=ctL p/\u.md=t.md/\u.fb=s.fb) (λi=>l.length-i) 0 (.c7 U U U U U U U) ⟨Nat.zero_le _,G08.start,wt0,(⟨s.fb,g29,0,⟨sv0,sv0,[],[]⟩,[0,0,0,0,0,0],[0,0,0,0,0,0],.map none,.map none,.map none,sv0⟩:WtQ),[],RepI.zero l qf _,hW,List.Perm.refl _,rfl,rfl,rfl,rfl,rfl⟩ ?_))))))))))));rintro i w13 ⟨hil,p,t,s1,fd,hrp,hW,hpf,he1,he2,he3,he4,he5⟩;have hW0:=hW;refine kpC [(0,_),(5,_),(6,_),(8,_),(46,_),(47,_),(48,_)] (.c7 U U U U U U U) ?_;have hv:=hvS.ext hW.fr;have hv0:=hv;have hfl1:=hpf.length_eq;have hfl2:=hrp.len;refine sr (lt' U (nn (sq (cd U (λc2=>?_) (λc2=>?_)))));have hlt:i<l.length:=by omega
 obtain⟨qn,hdo,hrq,hhs2,hnw⟩:=hrp.step hqf hlt;refine sk (tn (sq (bl (sr (mv U U (z1c (op0) U hv U v8i z1g (λad51 hc51=>?_)))))));refine z1k U (hc51 _ hv) y5j (al u5m U (λg12 w14 hg12 hb12 q14 z14=>?_));refine asg U (z0k (vs:=[_,_,_,_,_,_]) U hb12 u5r (λw15 hb12 q15 z15=>?_) (h1:=(by first|(simp[Value.oneCell',S];done)|exact z1f.one _|exact y0r.one _)));refine nn (sq (sq (rbo (r:=65) (L':=[(0,_),(5,_),(6,_),(8,_),(11,_),(12,_),(46,_),(47,_),(48,_)]) (((((l.getD i op0).k=1)\/((l.getD i op0).k=2))\/((l.getD i op0).k=6))) (.d8 U U U U U U U U (.cons U .nil)) ?_ ?_)));refine fad U z6q (z0i U hb12 U v0i (eq' U (mv U U (gs 56 U (λg0=>?_) (λg0=>?_)))));exact gN U (gN U (gN U (pkt U (mv U U (gN U (gN U (gN U (pkt U (rbe U (.d8 U U U U U U U U (.cons U .nil)))))))))));refine gY U (fad U z6q (gY U (z0i U hb12 U v0i (gY U (eq' U (pkf U (mv U U (gs 61 U (λg1=>?_) (λg1=>?_)))))))));exact gN U (gN U (gN U (pkt U (rbe U (.d8 U U U U U U U U (.cons U .nil))))));exact gY U (fad U z6q (gY U (z0i U hb12 U v0i (gY U (eq' U (pkf U (rbe U (.d8 U U U U U U U U (.cons U .nil)))))))));refine tn (cd U (λc3=>?_) (λc3=>?_));have hyn:v1z (l.getD i op0):=by unfold v1z;omega
 obtain⟨hy1,hy2,hy3⟩:=k0x hdo hyn;refine ex (te (xh (tn (rg (z1b U (wi6 (by omega)) (mv U U (nl ?_)))))));replace hW:=hW0.ext (q14.z1 q15);exact lpE ((i+1)) (.c7 U U U U U U U) ⟨by omega,qn,_,s1,fd,hrq,by rw[show (z8o qf.tb ((z7g qf.fa).filter λi=>!z4j qf.tb i) (i:Int) (l.getD i op0) p qn t)=t from if_pos hyn];exact hW,by rw[show (z8o qf.tb ((z7g qf.fa).filter λi=>!z4j qf.tb i) (i:Int) (l.getD i op0) p qn t)=t from if_pos hyn];exact hpf,he1.trans hy2.symm,he2.trans hy1.symm,he3.trans hy3.symm,by rw[show (z8o qf.tb ((z7g qf.fa).filter λi=>!z4j qf.tb i) (i:Int) (l.getD i op0) p qn t)=t from if_pos hyn];exact he4,he5⟩ (by omega);have hny:¬v1z (l.getD i op0):=by unfold v1z;omega
 have hst:z8o qf.tb ((z7g qf.fa).filter λi=>!z4j qf.tb i) (i:Int) (l.getD i op0) p qn t=j5r qf.tb (i:Int) qn (doH qf.tb ((z7g qf.fa).filter λi=>!z4j qf.tb i) (i:Int) (l.getD i op0) p t):=if_neg hny;refine sk (tn (sr (mv U U (mv U U (z0n U hb12 y5j ?_)))));replace hW:=hW0.ext (q14.z1 q15);have hWp:=hW.kp;refine cl (z0a U (z0a U (z0a U z0f))) (mkC func61) (j5e w4 (⟨g31,w15⟩:WA) s1 t.vw (z6g ((z7g qf.fa).filter λi=>!z4j qf.tb i)) fd (i:Int) (l.getD i op0) p qn ((z7g qf.fa).filter λi=>!z4j qf.tb i) _ hW.mark hrp.v.inv hrq.v.inv hdo (by unfold v1z;omega) he1 he2 he3 (by rw[he4];exact hrp.md) (by rw[he5];exact h6) (by rw[he5,htb];exact hnw) U (by omega)) U ?_;rintro _ w16 ⟨rfl,s2,hW1,hf1,hf2,hf3,hf4,hf5⟩;have hKp:=hW1.kp;simp only at hKp;have z16:=hKp.size;replace hW:=hW1.unmark hWp;clear hWp hW1;have hW0:=hW;refine kpL [(0,_),(5,_),(6,_),(8,_),(11,_),(46,_),(47,_),(48,_)] (.c8 U U U U U U U U) (nn (rg (mv U U (mv U U ?_))));have hWp:=hW.kp;refine cl (z0a U (z0a U z0f)) (mkC func62) (j1g w4 (⟨g31,w16⟩:WA) s2 t.vw (z6g ((z7g qf.fa).filter λi=>!z4j qf.tb i)) _ (i:Int) _ hW.mark (by rw[hf1];exact hrq.v.inv.B) (by rw[hf2];exact hrq.v.inv.rk) (by rw[hf5,he5];exact h6) (by rw[hf5,he5,htb,hf1];exact hhs2) hrp.vw (by have:=u4y (T:=z1r s1.fb.ts) (Us:=((z7g qf.fa).filter λi=>!z4j qf.tb i)) (op:=(i:Int)) (o:=l.getD i op0) (t:=⟨s1.md,t.vw,fd⟩) hrp.v.inv.B;have e9:(⟨s1.md,t.vw,fd⟩:Wt).fd=fd:=rfl;rw[e9]at this;omega)) U ?_;rintro _ w17 ⟨rfl,s3,fd3,hW1,hp3,hg1,hg2,hg3,hg4,hg5⟩;have hKp:=hW1.kp;simp only at hKp;have z17:=hKp.size;replace hW:=hW1.unmark hWp;clear hWp hW1;have hW0:=hW;rw[hf5,he5,htb,hf1,hf2]at hp3;rw[he5,htb]at hf4;have hpe:fd3.Perm (j5r qf.tb (i:Int) qn (doH qf.tb ((z7g qf.fa).filter λi=>!z4j qf.tb i) (i:Int) (l.getD i op0) p t)).fd:=by
  refine hp3.trans ?_;show List.Perm _ ((doH qf.tb ((z7g qf.fa).filter λi=>!z4j qf.tb i) (i:Int) (l.getD i op0) p t).fd++(v9c qf.tb (doH qf.tb ((z7g qf.fa).filter λi=>!z4j qf.tb i) (i:Int) (l.getD i op0) p t).vw _ _++v8z (doH qf.tb ((z7g qf.fa).filter λi=>!z4j qf.tb i) (i:Int) (l.getD i op0) p t).vw _ _));rw[j7l];exact(u0k (t:=⟨s1.md,t.vw,fd⟩) he4 hpf).append_right _
 exact nl (bn' (tn (rg (z1b U (wi6 (by omega)) (mv U U (nl (lpE ((i+1)) (.c7 U U U U U U U) ⟨by omega,qn,_,s3,fd3,hrq,by have x:=hW;rw[hf1,hf2]at x;rw[hst];exact x,by rw[hst];exact hpe,by rw[hg1];exact hf1,hg2.trans hf2,hg3.trans hf3,by rw[hst];exact hg4.trans (hf4.trans (j5z _ _ _ _ _ he4)),hg5.trans (hf5.trans he5)⟩ (by omega))))))));obtain rfl:i=l.length:=by omega
 replace hb5:=hb50.ext hW.fr;refine ex (te (te (xh (tn (sq (sr (fad U y0a (x2w U x8l U (z0i U hb5 U z8e (lnS U underlying27 (mv U U (kpL [(0,_),(6,_),(8,_),(76,_),(77,_),(78,_)] (.c6 U U U U U U) (nn (bl (lpK (ι:=Nat) [(0,_),(6,_),(8,_),(76,_),(77,_)] (λj=>[(78,.int .i64 (j:Int))]) (λj w'=>j<=s.fb.hs.length/\∃u:SV,WkM τw w4 ⟨g31,w8⟩ w' { s1 with fd:=u } t.vw (z6g ((z7g qf.fa).filter λi=>!z4j qf.tb i)) (fd++((s.fb.hs.take j).map λx=>(⟨(l.length:Int),5,x⟩:Hz)))) (λj=>s.fb.hs.length-j) 0 (.c6 U U U U U U) ⟨Nat.zero_le _,⟨s1.fd,by simpa using hW⟩⟩ ?_)))))))))))))));rintro j w18 ⟨hj,⟨u,hW⟩⟩;have hW0:=hW;refine kpC [(0,_),(6,_),(8,_),(76,_),(77,_),(78,_)] (.c6 U U U U U U) ?_;have hk:=hW.k;refine sr (lt' U (nn (sq (cd U (λc4=>?_) (λc4=>?_)))));have hlt:j<s.fb.hs.length:=by omega
 refine sk (tn (sq (bl (sr (z1c (id0) U (hO0.at.f.h.ext hW.fr) U z4s z1g (λad80 hc80=>?_))))));refine z1k U (hc80 _ (hO0.at.f.h.ext hW.fr)) z2x (al y0k U (λg14 w19 hg14 hb14 q19 z19=>?_));refine z0k (vs:=[_,_]) U hb14 z9r (λw20 hb14 q20 z20=>?_) (h1:=(by first|(simp[Value.oneCell',S];done)|exact z1f.one _|exact y0r.one _));refine nn (rg (mv U U (mv U U (lnS U underlying25 (z0n U hb14 z2x ?_)))));replace hW:=hW0.ext (q19.z1 q20);have hWp:=hW.kp;refine cl (z0a U (z0a U (z0a U (z0a U z0f)))) j5w (y6f w4 (⟨g31,w20⟩:WA) { s1 with fd:=u } t.vw (z6g ((z7g qf.fa).filter λi=>!z4j qf.tb i)) _ (l.length:Int) 5 (s.fb.hs.getD j id0) _ hW.mark (by simp only[List.length_append,List.length_map,List.length_take];omega)) U ?_;rintro _ w21 ⟨rfl,u2,hW1⟩;have hKp:=hW1.kp;simp only at hKp;have z21:=hKp.size;replace hW:=hW1.unmark hWp;clear hWp hW1;have hW0:=hW;exact kpL [(0,_),(6,_),(8,_),(76,_),(77,_),(78,_)] (.c6 U U U U U U) (nl (bn' (tn (rg (z1b U (wi6 (by omega)) (mv U U (nl (lpE (j+1) (.c6 U U U U U U) ⟨by omega,⟨u2,by rw[z1t id0 hlt,List.map_append,<-List.append_assoc];exact hW⟩⟩ (by omega)))))))));obtain rfl:j=s.fb.hs.length:=by omega
 refine ex (te (te (xh (tn (sr (mv U U (nlc U (fad U y4m (z0i U hk U j8l (cl (z0a U (z0a U z0f)) (mkC func64) (j7d hW.f (by simp only[List.length_append,List.length_map,List.length_take];omega)) U ?_))))))))));rintro _ w22 ⟨rfl,hfo,hqs⟩;have z22:=hqs.size;replace hW:=hW.srt τwk hfo hqs;have hW0:=hW;obtain⟨FDS,hFD⟩:∃x,x=y7y (fd++((s.fb.hs.take s.fb.hs.length).map λx=>(⟨(l.length:Int),5,x⟩:Hz))):=⟨_,rfl⟩;rw[<-hFD]at hW hW0;obtain⟨uA,un,uc⟩:=u;obtain rfl:un=FDS.length:=z1y hW.f.sl;have hk:=hW.k;have hfn2:FDS.length=(fd++((s.fb.hs.take s.fb.hs.length).map λx=>(⟨(l.length:Int),5,x⟩:Hz))).length:=by rw[hFD];exact(z8w _).length_eq
 rw[List.length_append,List.length_map,List.length_take]at hfn2;refine kpL [(6,_),(8,_)] (.c2 U U) (nn (sr (mv U U (nlc U (fad U y4m (z0i U hk U j8l (lnS U underlying68 (z1e (m:=FDS.length) (c:=FDS.length) (hz0) U j0z zv75 U (λg98 w23 hg98 ho q23 z23=>(asg U (kpL [(6,_),(8,_),(15,_)] (.c3 U U U) (nn (sr (mv U U (mv U U (nlc U (fad U y4m ?_)))))))))))))))));replace hk:=hk.ext q23;refine z0i U hk U j8l ?_;replace hW:=hW0.ext q23;refine z6i (zs:=List.replicate FDS.length hz0) (by rw[List.length_replicate];rfl) U (by rw[List.length_replicate];exact ho) hW.f.sl (by rw[List.length_replicate]) j0z (λw24 ho q24 z24=>?_);rw[List.length_replicate]at ho;refine kpL [(6,_),(15,_)] (.c2 U U) (nn (sr (mv U U (mv U U (asg U (asg U (asg U (nn (rt (r3 results20 U U U ?_))))))))));obtain⟨hpq,htq⟩:=hrp.done hqf U;have hzz:y7y (y6t l qf)=FDS:=by
  rw[hFD];refine v1s ?_;unfold y6t j2v;rw[List.take_length,hhs,List.map_map,<-u4s (j1i qf),<-htq];exact(hpf.symm).append_right _
 have hFZ:=(hF0.next hW0.fr).next (q23.z1 q24);have hz7:=hF0.size;have hz8:=hW0.fr.size;exact⟨_,rfl,⟨_,by rw[show v9d l=0 from Classical.not_not.1 c0];rfl,λe=>absurd (Classical.not_not.1 c0) e,λq hq=>by
  rw[hqf]at hq;cases hq;exact⟨g98,FDS.length,rfl,by rw[hzz];exact ho.low (by omega)⟩⟩,hFZ⟩
end Go.Proofs.YtjilcnmaefhmeaaGreatDoor
namespace Go.G09
open Go Go.Lw Go.G21 Go.G08
def wordsZ:List (List UInt8):=[[],[102,108,111,97,116],[115,116,114,101,116,99,104],[104,111,111,107],[117,110,100,111,110,101],[114,101,115,116]]
theorem v0y {k:Int}(h:1<=k/\k<=5):(wordsZ.map S)[k.toNat*1]?=some (S (v7i k)):=by
 have:k=1\/k=2\/k=3\/k=4\/k=5:=by omega
 rcases this with rfl|rfl|rfl|rfl|rfl<;>rfl
theorem x3g (k:Int):(v7i k).length<=7:=by
 unfold v7i;(repeat' split)<;>decide
theorem y2d {n:Int}(h:-9223372036854775808<=n/\n<=9223372036854775807):(Lib.itoa n).length<=21:=Lib.itoa_length_le n h.1 h.2
theorem v3n (h:Hz)(ho:h.o<=9223372036854775807):(hzT h).length<=80:=by
 unfold hzT;split;rename_i I;obtain⟨J,M,D⟩:=I;unfold z5t at D;have a:=y2d (n:=h.o) (by omega);have b:=y2d (n:=h.id.y) (by omega);have c:=y2d (n:=h.id.n) (by omega);have d:=x3g h.k;simp only[List.length_append,List.length_cons];omega;simp
theorem v2z {l:List Hz}{i:Nat}(D:i<l.length):x4f (l.take (i+1))=x4f (l.take i)++(hzT (l.getD i hz0)++[59]):=by
 unfold x4f;rw[z1t hz0 D,List.flatMap_append];simp
theorem u2c {l:List Hz}(ho:∀h∈l,h.o<=9223372036854775807):(x4f l).length<=81*l.length:=by
 induction l with
 | nil=>simp[x4f]
 | cons h l ih=>
  have J:=v3n h (ho h (List.mem_cons_self ..));have D:=ih λx I=>ho x (List.mem_cons_of_mem _ I);unfold x4f at D ⊢;rw[List.flatMap_cons,List.length_append,List.length_append,List.length_cons];simp only[List.length_cons,List.length_nil];omega
theorem u7b {l:List MOp}{q:MSt}(D:z3n 0 G08.start l=.ok q):(y7y (y6t l q)).length<=700*l.length+320:=by
 rw[(z8w _).length_eq];have I:∀i,i<=l.length->∃p t,RepI l q (j5p q) i p t:=λi=>by
  induction i with
  | zero=>exact λ_=>⟨_,_,RepI.zero l q _⟩
  | succ i ih=>
   intro hi;obtain⟨p,t,h⟩:=ih (by omega);obtain⟨p',_,M,_⟩:=h.step D (by omega);exact⟨_,_,M⟩
 obtain⟨p,t,h⟩:=I l.length (Nat.le_refl _);obtain⟨_,Z⟩:=h.done D U;have J:=h.len;rw[Z]at J;have O:=x5u (x0l z8y D).inv.B q.rk;unfold y6t j2v;rw[List.length_append,List.length_map];exact Nat.add_le_add J O
end Go.G09
namespace Go.Proofs.YtjilcnmaefhmeaaGreatDoor
open Go.Lw Go.G21 Go.G08 Go.G09 _root_.Go.Proofs.Tryz
theorem j6w:CallOf prog 20:=mkC func20
theorem u5b:z0y prog 75 0 0:=λ_ _=>by kernel_rfl
theorem x1i:z0y prog 75 1 1:=λ_ _=>by kernel_rfl
theorem v3e:z0y prog 75 2 2:=λ_ _=>by kernel_rfl
theorem j3p:z2a prog 71:=λ_=>by kernel_rfl
structure HzG (w:World):Prop where
  c:Cells w ⟨0,0,none⟩ (wordsZ.map S)
theorem HzG.ext {w w':World}(h:HzG w)(hf:Fr [] w w'):HzG w':=⟨h.c.fr hf (by simp)⟩
theorem x6m (n:Int)(w0:World)(hG:Glob w0)(h:-9223372036854775808<=n/\n<=9223372036854775807):Rets prog 71 #[.int .i64 n] w0 λv w'=>v=S (Lib.itoa n)/\Fr [] w0 w':=by
 refine Calls.mono (strconv_Itoa n (by omega) (by omega) w0 hG.tab) ?_;rintro e w' ⟨rfl,k,D,rfl⟩;exact⟨_,rfl,rfl,v6t _ _ _⟩
theorem u0q (z:Hz)(w0:World)(hG:Glob w0)(hZ:HzG w0)(ho:z.o<=9223372036854775807):Rets prog 24 #[.agg #[.int .i64 z.o,.int .u8 z.k,.int .u8 z.id.y,.int .i64 z.id.n]] w0 λr w'=>r=S (hzT z)/\Fr [] w0 w':=by
 have a7:=hG.sz;refine we [(0,.agg #[.int .i64 z.o,.int .u8 z.k,.int .u8 z.id.y,.int .i64 z.id.n])] func24 U ntmps24 U (.cons U .nil) ?_;have a1:=hG;have a2:=hZ;refine sr (bx U (λg1 w1 a8 I q1 z1=>(asg U (nn (sq (sq (x6a (r:=22) (L':=[(1,_)]) (((((z.o<0)\/(z.k<1))\/(5<z.k))\/(¬z5t z.id))) (.cons U .nil) ?_ ?_)))))));refine fad U u5b (z0i U I U na3 (lt' U (mv U U (gs 7 U (λg0=>?_) (λg0=>?_)))));exact gN U (gN U (gN U (pkt U (mv U U (gN U (gN U (gN U (pkt U (mv U U (gN U (gN U (gN U (gN U (pkt U (z8f U (.cons U .nil) (Fr.refl _ _))))))))))))))));refine gY U (fad U x1i (gY U (z0i U I U j3p (gY U (lt' U (pkf U (mv U U (gs 12 U (λg1=>?_) (λg1=>?_)))))))));exact gN U (gN U (gN U (pkt U (mv U U (gN U (gN U (gN U (gN U (pkt U (z8f U (.cons U .nil) (Fr.refl _ _)))))))))));refine gY U (fad U x1i (gY U (z0i U I U j3p (gY U (gt' U (pkf U (mv U U (gs 17 U (λg2=>?_) (λg2=>?_)))))))));exact gN U (gN U (gN U (gN U (pkt U (z8f U (.cons U .nil) (Fr.refl _ _))))));refine gY U (fad U v3e (gY U (z1w (vs:=[_,_]) U I z2x U (gY U (cl (ev1 U) (mkC func70) (y4k z.id _) U ?_)))));rintro _ w2 ⟨rfl,q2⟩;have z2:=q2.size;exact gY U (nt' U (pkf U (z8f U (.cons U .nil) q2)));intro w3 Z;have z3:=Z.size;refine tn (cd U (λc0=>?_) (λc0=>?_));exact sr (asg U (nn (rt (tr (r1 results24 U ⟨_,rfl,by rw[hzT,if_neg (λhh=>by obtain⟨ha,hb,hc⟩:=hh;unfold z5t at hc;unfold z5t at *;omega)];rfl,(q1.n1 Z)⟩)))));have a6:j8k z:=⟨by omega,by omega,by by_cases hh:z5t z.id;exact hh;exfalso;first|exact c0 (by simp[hh])|(simp_all)⟩;obtain⟨a3,a4,a0⟩:=a6;have a5:=a0;unfold z5t at a5;have a9:=y2d (n:=z.o) (by omega);have b0:=y2d (n:=z.id.y) (by omega);have b3:=y2d (n:=z.id.n) (by omega);have b4:=x3g z.k;refine sk (tn (sq ?_));replace hG:=a1.ext (q1.n1 Z);intro a h;refine z0h none (λwb w'=>Fr [] wb w') z2l ?_;intro w4 q4;have z4:=q4.size;replace hG:=hG.ext q4;replace I:=I.ext (Z.n1 q4);have hC:Fr [] w4 w4:=Fr.refl _ _;have J:=hG;have D:=I;refine z0c 0 h U v3e U λa h=>z5q 1 h U z5k U λa h=>z0j 2 h U (λ_ M=>D.ext M) U na5 U λa h=>x6c 3 hC h wn U (by rw[underlying5];rfl) underlying3 (by first|exact i6 (by omega)|rfl) U U λa h=>z0c 6 h U v3e U λa h=>z5q 7 h U z6b U λa h=>z0j 8 h U (λ_ M=>D.ext M) U na3 U λa h=>z0d 4 U (z0o h (z0a U z0f) u7a (x6m z.id.y _ hG (by omega)) ?_);rintro _ w5 ⟨rfl,q5⟩ a h;have z5:=q5.size;replace hG:=hG.ext q5;replace hC:=hC.next q5;refine z0b (y2a 5 h U λa h=>z0d 9 U (z0o h (z0a U z0f) u7a (x6m z.id.n _ hG (by omega)) ?_));rintro _ w6 ⟨rfl,q6⟩ a h;have z6:=q6.size;replace hC:=hC.next q6;refine z0b (y2a 10 h U λa h=>z0d 11 U (z0r h U λa h=>?_));refine z0b (z0q ?_);clear hC J D;refine bk (h.sub (L':=[(1,_),(3,_)]) (.c2 U U)) (tn (sq ?_));replace hZ:=a2.ext (q1.n4 Z q4 q5 q6);intro a h;refine z0h none (λwb w'=>Fr [] wb w') z2l ?_;intro w7 q7;have z7:=q7.size;replace hG:=hG.ext (q6.n1 q7);replace hZ:=hZ.ext q7;replace I:=I.ext (q5.n2 q6 q7);have hC:Fr [] w7 w7:=Fr.refl _ _;have J:=hG;have O:=hZ;have D:=I;refine z0c 0 h U u5b U λa h=>z0j 1 h U (λ_ M=>D.ext M) U na3 U λa h=>z0c 4 h U x1i U λa h=>z0j 5 h U (λ_ M=>D.ext M) U j3p U λa h=>y5r 6 hC h wn U U underlying153 sz9 U U λa h=>y3w 7 hC h wn U (λ_ M=>(O.ext M).c) (v0y (by omega)) na9 U U λa h=>z0e 10 h U λa h=>z0d 2 U (z0o h (z0a U z0f) u7a (x6m z.o _ hG (by omega)) ?_);rintro _ w8 ⟨rfl,q8⟩ a h;have z8:=q8.size;replace hC:=hC.next q8;refine z0b (y2a 3 h U λa h=>y2a 8 h U λa h=>y2a 9 h U λa h=>y2a 11 h U λa h=>z0d 12 U (z0r h U λa h=>?_));refine z0b (z0q ?_);clear hC J O D;exact bk (h.sub (L':=[(2,_)]) (.cons U .nil)) (tn (rt (r1 results24 U ⟨_,rfl,by rw[hzT,if_pos ⟨a3,a4,a0⟩];simp only[List.append_assoc,List.cons_append,List.nil_append],(q1.n6 Z q4 q5 q6 q7 q8)⟩)))
end Go.Proofs.YtjilcnmaefhmeaaGreatDoor
namespace Go.Lw
theorem y2v {P:Program}{W:World}{n:String}{d:DataW Unit}:∀ {l:List (String×DataW Unit)} {ps:List MemPlace},DataW.LaidVars P W l ps->(n,d)∈l->
    ∃g t cs D p,P.globalNamed n=some g/\(P.globals[g]?).map (·.type)=some t/\W.var? P n=some cs/\DataW.trod (λ_=>()) P W 0 (λ_=>true) false D t cs.toList=some (d,p)
  | [],_,_,I=>by simp at I
  | (m,e)::r,ps,h,I=>by
    obtain⟨g,t,cs,D,p,q,J,M,O,Z,hr,_⟩:=h
    rcases List.mem_cons.1 I with e|I
    · cases e;exact⟨g,t,cs,D,p,J,M,O,Z⟩
    · exact y2v hr I
theorem y8j {H:Type}{enc:TypeId×Value->H}{P:Program}{w:World}{base:Nat}{sp:Nat->Bool}{J:Bool}{D:Nat}{t e:TypeId}{n:Nat}{cs:List Value}{zs:List (List UInt8)}{p:List MemPlace}
    (ht:P.underlying t=some (.array n e)) (he:P.underlying e=some .string) (hce:P.cellsOf e=1) (hct:P.cellsOf t=n)
    (h:DataW.trod enc P w base sp J D t cs=some (.agg (zs.map λz=>.lit (.string z)),p)):cs=zs.map S:=by
  cases D with
  | zero=>simp[DataW.trod]at h
  | succ D=>
    simp only[DataW.trod,ht,hce,hct,Nat.mul_one]at h
    split at h
    · rename_i hl
      obtain⟨O,hm,hx⟩:=Option.map_eq_some_iff.1 h
      have M:O.map (·.1)=zs.map λz=>(DataW.lit (.string z):DataW H):=by
        have:=congrArg Prod.fst hx
        simpa using this
      have a0:O.length=n:=by simpa using Lib.mapM_length hm
      have a1:zs.length=n:=by
        have:=congrArg List.length M
        simp at this
        omega
      apply List.ext_getElem?
      intro i
      by_cases hi:i<n
      · obtain⟨b,hb,hf⟩:=Lib.mapM_at hm i i (by simp[hi])
        obtain⟨s,hc,h2,_⟩:=DataW.trod_string he hf
        have h1:cs[i]?=some (.string s):=by
          have:=congrArg (·[0]?) hc
          simpa[List.getElem?_take,List.getElem?_drop] using this
        have Z:(O.map (·.1))[i]?=some b.1:=by simp[hb]
        rw[M,List.getElem?_map,Option.map_eq_some_iff]at Z
        obtain⟨z,hz,I⟩:=Z
        rw[h2]at I
        simp only[DataW.lit.injEq,Lit.string.injEq]at I
        rw[h1,List.getElem?_map,hz,I]
        simp[S]
      · rw[List.getElem?_eq_none (by omega),List.getElem?_eq_none (by simp;omega)]
    · cases h
theorem v9r {H:Type}{enc:TypeId×Value->H}{P:Program}{w:World}{base:Nat}{sp:Nat->Bool}{I:Bool}{D:Nat}{t:TypeId}{ms}{cs:List Value}{nm:String}{d:DataW H}{p:List MemPlace}
    (ht:P.underlying t=some (.interface ms)) (h:DataW.trod enc P w base sp I D t cs=some (.iface nm d,p)):∃u v,cs=[.iface u v]:=by
  cases D with
  | zero=>simp[DataW.trod]at h
  | succ D=>
    simp only[DataW.trod,ht]at h
    split at h<;>simp_all
theorem j3j {P:Program}{W:World}{n:String}{g:Nat}{cs:Array Value}(I:P.globalNamed n=some g)(h:W.var? P n=some cs):g<W.heap.size:=by
 unfold World.var? at h;simp only[I,Option.bind_some]at h;rcases Nat.lt_or_ge g W.heap.size with D|D
 exact D;rw[Array.getElem?_eq_none D]at h;simp at h
end Go.Lw
namespace Go.Proofs.YtjilcnmaefhmeaaGreatDoor
open Go.ChangeShapes Go.WideShapes Go.ChangeAt Go.RowKit Go.Lw
theorem own:ownKnob Tryz.prog.godebug=none:=by kernel_rfl
theorem j1k:laidOutB Tryz.prog=true:=by kernel_rfl
def y0e:List (String×DataW Unit):=[("math/bits.deBruijn32tab",Rows.laid_math_bits_deBruijn32tab),("math/bits.deBruijn64tab",Rows.laid_math_bits_deBruijn64tab),("internal/strconv.uint64pow10",Rows.laid_internal_strconv_uint64pow10),("unicode/utf8.acceptRanges",Rows.laid_unicode_utf8_acceptRanges),("strconv.ErrRange",Rows.laid_strconv_ErrRange),("strconv.ErrSyntax",Rows.laid_strconv_ErrSyntax),("gansey/orders.steps",Rows.laid_gansey_orders_steps),("gansey/operations.words",Rows.laid_gansey_operations_words),("gansey/operations.dirs",Rows.laid_gansey_operations_dirs),("gansey/hazards.words",Rows.laid_gansey_hazards_words),("unicode/utf8.first",Rows.laid_unicode_utf8_first)]
theorem x5f {n:String}{zs:List (List UInt8)}{W:World}{l:List (String×DataW Unit)}{ps:List MemPlace}{g t m:Nat}(hL:DataW.LaidVars Tryz.prog W l ps)(hm:(n,.agg (zs.map λz=>.lit (.string z)))∈l)(ht:Tryz.prog.underlying t=some (.array m 9))(M:Tryz.prog.globalNamed n=some g:=by kernel_rfl)(I:(Tryz.prog.globals[g]?).map (·.type)=some t:=by kernel_rfl)(D:Tryz.prog.cellsOf t=m:=by kernel_rfl):Cells W ⟨g,0,none⟩ (zs.map S):=by
 obtain⟨g',t',cs,J,p,O,Z,e3,e4⟩:=y2v hL hm;cases M.symm.trans O;cases I.symm.trans Z;have hc:=y8j ht Tryz.underlying9 (by kernel_rfl) D e4;intro j u hu;rw[z4m,Nat.zero_add,World.var?_cell M e3 j,<-Array.getElem?_toList,hc];exact hu
theorem u6j {n nm:String}{d:DataW Unit}{W:World}{l:List (String×DataW Unit)}{ps:List MemPlace}{g:Nat}(hL:DataW.LaidVars Tryz.prog W l ps)(hm:(n,.iface nm d)∈l)(J:Tryz.prog.globalNamed n=some g)(D:(Tryz.prog.globals[g]?).map (·.type)=some 164):∃te pe,W.cell? ⟨g,0,none⟩=some (.iface te pe):=by
 obtain⟨g',t',cs,I,p,M,O,Z,e4⟩:=y2v hL hm;cases J.symm.trans M;cases D.symm.trans O;obtain⟨u,v,hc⟩:=v9r Tryz.underlying164 e4;exact⟨u,v,by rw[World.var?_cell J Z 0,<-Array.getElem?_toList,hc];rfl⟩
theorem j0d {W:World}(h:laidMetH Tryz.prog y0e W)(M:W.ShapedOpen Tryz.prog):Glob W:=by
 have h':laidMet Tryz.prog y0e W:=h;obtain⟨ps,D,_,_⟩:=h';refine⟨?_,?_,(Go.Proofs.cell_of_shapedOpen_int (zero:=#[.int .i64 0]) (t:=3) M (of_decide_eq_true (by kernel_rfl)) (by kernel_rfl) U (by kernel_rfl) (by kernel_rfl) Tryz.underlying3),?_,?_,?_,?_⟩;exact x5f (zs:=z8a) (n:= "gansey/operations.words") (t:=334) (m:=9) D (by simp[y0e];rfl) Tryz.underlying334;exact x5f (zs:=x2h) (n:= "gansey/operations.dirs") (t:=338) (m:=2) D (by simp[y0e];rfl) Tryz.underlying338;obtain⟨g',t',cs,I,p,O,Z,J,e4⟩:=y2v (n:= "internal/strconv.uint64pow10") (d:=Rows.laid_internal_strconv_uint64pow10) D (by simp[y0e]);cases gPow.symm.trans O;cases (show (Tryz.prog.globals[4]?).map (·.type)=some 360 by kernel_rfl).symm.trans Z;unfold Lib.TabIs;rw[J];have:=Lib.cells_of_tab (zs:=Lib.pow10Tab) Tryz.underlying360 Tryz.underlying270 (by kernel_rfl) (by kernel_rfl) e4;rw[<-this];exact u6j (n:= "strconv.ErrSyntax") D (by unfold y0e;simp only[Rows.laid_strconv_ErrSyntax];simp;exact⟨rfl,rfl⟩) (by kernel_rfl) (by kernel_rfl);exact u6j (n:= "strconv.ErrRange") D (by unfold y0e;simp only[Rows.laid_strconv_ErrRange];simp;exact⟨rfl,rfl⟩) (by kernel_rfl) (by kernel_rfl);obtain⟨g',t',cs,I,p,O,Z,J,e4⟩:=y2v (n:= "strconv.ErrRange") (d:=Rows.laid_strconv_ErrRange) D (by simp[y0e]);have:=j3j (show Tryz.prog.globalNamed "strconv.ErrRange" =some 11 by kernel_rfl) J;omega
theorem j4a {W:World}(h:laidMetH Tryz.prog y0e W):HzG W:=by
 have D:laidMet Tryz.prog y0e W:=h;obtain⟨ps,I,_,_⟩:=D;exact⟨x5f (zs:=Go.G09.wordsZ) (n:= "gansey/hazards.words") (t:=153) (m:=6) I (by simp[y0e];rfl) Tryz.underlying153⟩
theorem j7o {W:World}(h:laidMetH Tryz.prog y0e W):StT W:=by
 have h':laidMet Tryz.prog y0e W:=h;obtain⟨ps,hL,_,_⟩:=h';obtain⟨g',t',cs,D,p,J,M,O,Z⟩:=y2v (n:= "gansey/orders.steps") (d:=Rows.laid_gansey_orders_steps) hL (by simp[y0e]);have I:Tryz.prog.globalNamed "gansey/orders.steps" =some 3:=by kernel_rfl
 cases I.symm.trans J;cases (show (Tryz.prog.globals[3]?).map (·.type)=some 342 by kernel_rfl).symm.trans M;have hc:=Lib.cells_of_tab (zs:=[-1,1]) Tryz.underlying342 Tryz.underlying3 (by kernel_rfl) (by kernel_rfl) Z;constructor;intro j u hu;rw[z4m,Nat.zero_add,World.var?_cell I O j,<-Array.getElem?_toList,hc];exact hu
def j6g:List (String×DataW Unit):=y0e.filter λp=>match p.2 with|.iface _ _=>false|_=>true
noncomputable def witP (os:Os):World:=k0w Tryz.prog os j6g
theorem j7q {n:Int}(h:(Lit.int .u8 n).wf=true):0<=n/\n<=255:=by
 have D:IntKind.u8.min<=n/\n<=IntKind.u8.max:=by simpa[Lit.wf] using h
 exact D
noncomputable def u5q (w:World)(g:Nat)(s:List UInt8):World:=layW (w.alloc (.cells #[.string ⟨s.toArray⟩] 392)) g #[.iface 390 (.pointer (some ⟨w.heap.size,0,none⟩))]
noncomputable def k1d (os:Os):World:=u5q (u5q (witP os) 11 [118,97,108,117,101,32,111,117,116,32,111,102,32,114,97,110,103,101]) 10 [105,110,118,97,108,105,100,32,115,121,110,116,97,120]
end Go.Proofs.YtjilcnmaefhmeaaGreatDoor
namespace Go.Lw
open Go.RowKit
section
variable {P:Program} {t e:TypeId}
theorem j2q {H:Type}{enc:TypeId×Value->H}{w:World}{base M n:Nat}{r:Reach}{sp:Nat->Bool}{D:Bool}{v:Value}{d:DataW H}{ps:List MemPlace}{α:Type}{E:Enc α}{R:World->α->Prop}
    (hu:P.underlying t=some (.array n e)) (ho:v9m P t E R) (hv:Value.okWide P w r M t v) (hd:DataW.Trod enc P w base sp D t v d ps):∃y,v=.agg (E.enc y).toArray/\R w y:=by
  simp only[Value.okWide,hu]at hv
  obtain⟨cs,rfl,_⟩:=hv
  obtain⟨I,hf⟩:=hd
  obtain⟨y,O,Z⟩:=ho H enc w base sp D I _ _ hf
  refine⟨y,?_,Z⟩
  have J:cs.toList=E.enc y:=O
  rw[<-J]
end
end Go.Lw
namespace Go.Lw
open Go.RowKit
def Enc.two (k:IntKind):Enc (Int×Int):=⟨λp=>[.int k p.1,.int k p.2],2,λ_=>rfl,λ_ u h=>by simp at h;rcases h with rfl|rfl<;>rfl,by decide⟩
section
variable {P:Program} {t e:TypeId}
theorem v3w {k:IntKind}(hu:P.underlying t=some (.array 2 e))(ht:P.cellsOf t=2)(he:P.cellsOf e=1)(ho:P.underlying e=some (.int k)):v9m P t (Enc.two k) (λ_ p=>(k.min<=p.1/\p.1<=k.max)/\(k.min<=p.2/\p.2<=k.max)):=by
 intro H enc w base sp O I cs x h;obtain⟨xs,m,_,_,Z,D,hf⟩:=DataW.trod_array hu h;rw[ht]at Z;match cs,Z with
 | [c0,c1],_=>
  have J:=hf 0 (by decide);have M:=hf 1 (by decide);rw[he]at J M;obtain⟨y0,e0,r0⟩:=y4x (cs:=[c0]) J D (by decide) (x0z ho);obtain⟨y1,e1,r1⟩:=y4x (cs:=[c1]) M D (by decide) (x0z ho);cases e0;cases e1;exact⟨(y0,y1),rfl,r0,r1⟩
end
end Go.Lw
namespace Go.Proofs.YtjilcnmaefhmeaaGreatDoor
open Go.Lw
open Go.Lw Go.G21 Go.G08 Go.G09 _root_.Go.Proofs.Tryz
theorem ag75:z3p prog 75 4:=⟨λ_=>by kernel_rfl,λ_=>by kernel_rfl⟩
theorem x4m (v:Value)(l:List Hz)(w0:World)(M:Sl y6g w0 v l)(hG:Glob w0)(hZ:HzG w0)(ho:∀h∈l,h.o<=9223372036854775807)(hl:l.length<=10000000):Rets prog 21 #[v] w0 λr w'=>r=S (x4f l)/\Fr [] w0 w':=by
 obtain⟨A,c,rfl,a5,Z,hA⟩:=id M;clear hA;unfold maxLen at Z;have a4:=hG.sz;refine we [(0,.slice A l.length c)] func21 U ntmps21 U (.cons U .nil) ?_;have a1:=M;have O:=hG;have a0:=hZ;refine sr (asg U (nn (sr (asg U (nn (sq (sr (asg U (nn (bl (lpK (ι:=Nat) [(0,_)] (λi=>[(3,S (x4f (l.take i))),(4,.int .i64 (i:Int))]) (λi w'=>Fr [] w0 w'/\i<=l.length) (λi=>l.length-i) 0 (.c3 U U U) ⟨Fr.refl _ _,Nat.zero_le _⟩ ?_)))))))))));rintro i w1 ⟨D,a6⟩;have z1:=D.size;refine kpC [(0,_),(3,_),(4,_)] (.c3 U U U) ?_;have a2:=u2c (l:=l.take i) (λh hh=>ho h (List.mem_of_mem_take hh));rw[List.length_take]at a2;refine sq (sr (mv U U (mv U U (lnS U underlying68 (lt' U (nn (cd U (λc0=>?_) (λc0=>?_))))))));have J:i<l.length:=by omega
 have a7:=v3n (l.getD i hz0) (ho _ (z0z (d:=hz0) J));refine sk (tn (sq (bl (rg (mv U U (mv U U (mv U U ?_)))))));replace M:=a1.ext D;refine z1c (hz0) U M U j0z z1g (λa3 I=>?_);refine z1k U (I _ M) ag75 ?_;replace hG:=O.ext D;replace hZ:=a0.ext D;refine cl (ev1 U) (mkC func24) (u0q (l.getD i hz0) _ hG hZ (ho _ (z0z (by omega)))) U ?_;rintro _ w2 ⟨rfl,q2⟩;have z2:=q2.size;refine x6w U U (by simp only[List.length_append,List.length_cons,List.length_nil];omega) (x6w U U (by simp only[List.length_append,List.length_cons,List.length_nil];omega) (asg U (kpL [(0,_),(3,_),(4,_)] (.c3 U U U) (nl (bn' (tn (rg (mv U U (z1b U (wi6 (by omega)) (asg U (nl ?_)))))))))));exact lpE ((i+1)) (.c3 U (congrArg (λz=>some (S z)) (by rw[v2z (by omega)])) U) ⟨(D.n1 q2),by omega⟩ (by omega);obtain rfl:i=l.length:=by omega
 exact ex (te (te (xh (tn (sr (mv U U (asg U (nn (rt (r1 results21 U ⟨_,rfl,by rw[List.take_length],D⟩))))))))))
theorem u3y (x y:Int)(w0:World)(I:-1000000<=x/\x<=1000000)(J:-1000000<=y/\y<=1000000):Rets prog 22 #[.int .i64 x,.int .i64 y] w0 λr w'=>r=.int .i64 (apt x y)/\Fr [] w0 w':=by
 refine we [(0,.int .i64 x),(1,.int .i64 y)] func22 U ntmps22 U (.c2 U U) (sr (asg U (nn (sq (sr (mv U U (mv U U (lt' U (nn (cd U (λD=>?_) (λD=>?_)))))))))));exact sr (mv U U (mv U U (z2r U (wi6 (by omega)) (asg U (kpL [(4,_)] (.cons U .nil) (nn (rt (tr (r1 results22 U ⟨_,rfl,by unfold apt;congr 1;omega,(Fr.refl _ _)⟩)))))))));exact sk (tn (sr (mv U U (mv U U (z2r U (wi6 (by omega)) (asg U (kpL [(4,_)] (.cons U .nil) (nn (rt (r1 results22 U ⟨_,rfl,by unfold apt;congr 1;omega,(Fr.refl _ _)⟩))))))))))
theorem y3s (l:List UInt8)(D:List MOp)(n e:Int)(w0:World)(hG:Glob w0)(h:x5b l=(D,n,e))(hl:l.length<=1000000):Rets prog 59 #[S l] w0 λr w'=>(∃A,r=.slice A D.length D.length/\Lw.Own y0r 47 w0.heap.size w' r D)/\Fr [] w0 w':=by
 have Z:=hG.sz;refine we [(0,S l)] func59 U ntmps59 U (.cons U .nil) ?_;have O:=hG;refine sr (asg U (nn (sr (mv U U (cl (ev1 U) (mkC func75) (v1k l _ hG hl) U ?_)))));rintro _ w1 ⟨A,a0,n',e',J,rfl,I,M⟩;have z1:=M.size;cases J.symm.trans h;exact mv U U (xt U (xt U (xt U (asg U (asg U (asg U (kpL [(3,_)] (.cons U .nil) (nn (sr (mv U U (asg U (nn (rt (r1 results59 U ⟨_,rfl,⟨A,rfl,I.low (by omega)⟩,M⟩))))))))))))))
theorem x3m {v:Value}{l:List MOp}{w0:World}{q:MSt}{zs:List Hz}{n:Nat}(hv:Sl y0r w0 v l)(D:StT w0)(I:l.length<=4096)(M:z3n 0 G08.start l=.ok q)(hz:y7y (y6t l q)=zs)(hn:l.length=n):Rets prog 20 #[v] w0 λr w'=>(∃g,r=.tuple #[.slice (some ⟨g,0,none⟩) zs.length zs.length,.int .i64 (n:Int),.int .i64 0]/\Lw.Own y6g 75 w0.heap.size w' (.slice (some ⟨g,0,none⟩) zs.length zs.length) zs)/\Fr [] w0 w':=
 Rets.mono (u8i v l w0 hv D I) (by
  rintro r w' ⟨⟨x,rfl,h1,Z⟩,hf⟩
  obtain⟨g,m,rfl,J⟩:=Z _ M
  rw[hz]at J
  obtain rfl:m=zs.length:=by
   obtain⟨_,_,O,_⟩:=J.sl.form
   injection O with e1 e2 e3
  rw[(x8i M).1,(x8i M).2,hn]
  exact⟨⟨g,rfl,J⟩,hf⟩)
set_option maxRecDepth 10000 in
theorem x1w (w0:World)(hG:Glob w0)(D:StT w0)(hZ:HzG w0):Rets prog 19 #[] w0 λr w'=>r=.bool true/\Fr [] w0 w':=by
 have c0:=hG.sz;refine we [] func19 U ntmps19 U .nil ?_;have M:=hG;have J:=D;have a0:=hZ;refine sr (asg U (nn (sr (cl (ev1 U) (mkC func59) (y3s _ j3b 0 0 _ hG hprA (by decide)) U ?_))));rintro _ w1 ⟨⟨b0,rfl,a4⟩,q1⟩;have z1:=q1.size;replace D:=J.ext q1;refine cl (ev1 U) j6w (x3m a4.sl D (by decide) hrnA hhaA (n:=4) U) U ?_;rintro _ w2 ⟨⟨b6,rfl,a1⟩,q2⟩;have z2:=q2.size;refine mv U U (xt U (xt U (xt U (asg U (asg U (asg U (kpL [(1,_),(2,_),(3,_)] (.c3 U U U) (nn (sr ?_)))))))));replace hG:=M.ext (q1.n1 q2);refine cl (ev1 U) (mkC func59) (y3s _ j2z 0 0 _ hG hprB (by decide)) U ?_;rintro _ w3 ⟨⟨b3,rfl,a5⟩,q3⟩;have z3:=q3.size;replace D:=J.ext (q1.n2 q2 q3);refine cl (ev1 U) j6w (x3m a5.sl D (by decide) hrnB hhaB (n:=4) U) U ?_;rintro _ w4 ⟨⟨b7,rfl,a2⟩,q4⟩;have z4:=q4.size;refine mv U U (xt U (xt U (xt U (asg U (asg U (asg U (kpL [(1,_),(2,_),(3,_),(4,_),(6,_)] (.c5 U U U U U) (nn (sr ?_)))))))));replace hG:=M.ext (q1.n3 q2 q3 q4);refine cl (ev1 U) (mkC func59) (y3s _ j3f 0 0 _ hG hprC (by decide)) U ?_;rintro _ w5 ⟨⟨b4,rfl,a6⟩,q5⟩;have z5:=q5.size;replace D:=J.ext (q1.n4 q2 q3 q4 q5);refine cl (ev1 U) j6w (x3m a6.sl D (by decide) hrnC hhaC (n:=3) U) U ?_;rintro _ w6 ⟨⟨b8,rfl,a3⟩,q6⟩;have z6:=q6.size;refine mv U U (xt U (xt U (xt U (asg U (asg U (asg U (kpL [(1,_),(2,_),(3,_),(4,_),(6,_),(7,_),(9,_)] (.c7 U U U U U U U) (nn (sr ?_)))))))));replace hG:=M.ext (q1.n5 q2 q3 q4 q5 q6);refine cl (ev1 U) (mkC func59) (y3s _ j3d 0 0 _ hG hprD (by decide)) U ?_;rintro _ w7 ⟨⟨b5,rfl,a7⟩,q7⟩;have z7:=q7.size;replace D:=J.ext (q1.n6 q2 q3 q4 q5 q6 q7);refine cl (ev1 U) j6w (x3m a7.sl D (by decide) hrnD hhaD (n:=5) U) U ?_;rintro _ w8 ⟨⟨b9,rfl,c1⟩,q8⟩;have z8:=q8.size;refine mv U U (xt U (xt U (xt U (asg U (asg U (asg U (kpL [(1,_),(2,_),(3,_),(4,_),(6,_),(7,_),(9,_),(10,_),(12,_)] (.d8 U U U U U U U U (.cons U .nil)) (nn (sq (x6a (r:=0) (L':=[]) ((((((((((0=0)/\(0=0))/\(0=0))/\(0=0))/\(((4:Nat):Int)=4))/\((x4f j6k)=[50,32,102,108,111,97,116,32,49,46,49,59,50,32,115,116,114,101,116,99,104,32,49,46,49,59,52,32,114,101,115,116,32,49,46,48,59,52,32,114,101,115,116,32,49,46,49,59,52,32,114,101,115,116,32,49,46,50,59]))/\((x4f j6q)=[52,32,114,101,115,116,32,49,46,48,59,52,32,114,101,115,116,32,49,46,49,59,52,32,114,101,115,116,32,49,46,50,59]))/\((x4f j5i)=[50,32,117,110,100,111,110,101,32,49,46,48,59]))/\((k0m.length:Int)=0))) .nil ?_ ?_))))))))));refine mv U U (eq' U (mv U U (gs 39 U (λg0=>?_) (λI=>absurd (by rfl) I))));refine gY U (mv U U (gY U (eq' U (pkt U (mv U U (gs 43 U (λg1=>?_) (λI=>absurd (by rfl) I)))))));refine gY U (mv U U (gY U (eq' U (pkt U (mv U U (gs 47 U (λg2=>?_) (λI=>absurd (by rfl) I)))))));refine gY U (mv U U (gY U (eq' U (pkt U (mv U U (gs 51 U (λg3=>?_) (λI=>absurd (by rfl) I)))))));refine gY U (mv U U (gY U (eq' U (pkt U (mv U U (gs 55 U (λg4=>?_) (λI=>absurd (by rfl) I)))))));refine gY U (mv U U (gY U ?_));replace a1:=a1.ext (q3.n5 q4 q5 q6 q7 q8);replace hG:=M.ext ((q1.n6 q2 q3 q4 q5 q6 q7).n1 q8);replace hZ:=a0.ext ((q1.n6 q2 q3 q4 q5 q6 q7).n1 q8);refine cl (ev1 U) (mkC func21) (x4m _ j6k _ a1.sl hG hZ (by decide) (by decide)) U ?_;rintro _ w9 ⟨rfl,Z⟩;have z9:=Z.size;refine gY U (v0c U (pkt U (mv U U (gs 60 U (λg5=>?_) (λI=>absurd (by exact hhtA) I)))));refine gY U (mv U U (gY U ?_));replace a2:=a2.ext (q5.n4 q6 q7 q8 Z);replace hG:=M.ext (((q1.n6 q2 q3 q4 q5 q6 q7).n1 q8).n1 Z);replace hZ:=a0.ext (((q1.n6 q2 q3 q4 q5 q6 q7).n1 q8).n1 Z);refine cl (ev1 U) (mkC func21) (x4m _ j6q _ a2.sl hG hZ (by decide) (by decide)) U ?_;rintro _ c9 ⟨rfl,O⟩;have d3:=O.size;refine gY U (v0c U (pkt U (mv U U (gs 65 U (λg6=>?_) (λI=>absurd (by exact hhtB) I)))));refine gY U (mv U U (gY U ?_));replace a3:=a3.ext (q7.n3 q8 Z O);replace hG:=M.ext ((((q1.n6 q2 q3 q4 q5 q6 q7).n1 q8).n1 Z).n1 O);replace hZ:=a0.ext ((((q1.n6 q2 q3 q4 q5 q6 q7).n1 q8).n1 Z).n1 O);refine cl (ev1 U) (mkC func21) (x4m _ j5i _ a3.sl hG hZ (by decide) (by decide)) U ?_;rintro _ d0 ⟨rfl,a8⟩;have d4:=a8.size;refine gY U (v0c U (pkt U (mv U U (gs 70 U (λg7=>?_) (λI=>absurd (by exact hhtC) I)))));exact gY U (mv U U (gY U (lnS U underlying68 (gY U (eq' U (pkt U (asg U (z8f U .nil (Z.n2 O a8)))))))));intro d1 a9;have d5:=a9.size;refine tn (rt (r1 results19 U ?_));exact⟨_,rfl,congrArg Value.bool (decide_eq_true ⟨⟨⟨⟨⟨⟨⟨⟨rfl,rfl⟩,rfl⟩,rfl⟩,rfl⟩,hhtA⟩,hhtB⟩,hhtC⟩,rfl⟩),(((q1.n6 q2 q3 q4 q5 q6 q7).n1 q8).n1 a9)⟩
end Go.Proofs.YtjilcnmaefhmeaaGreatDoor
namespace Go.G09
open Go Go.Lw Go.G21 Go.G08
def czK (l:List Hz)(k:Int)(i:Nat):Nat:=((l.take i).filter λh=>decide (h.k=k)).length
theorem v9w {l:List Hz}{k:Int}{i:Nat}(D:i<l.length)(h:(l.getD i hz0).k=k):czK l k (i+1)=czK l k i+1:=by
 unfold czK;rw[z1t hz0 D,List.filter_append,List.filter_cons_of_pos (by simpa using h),List.filter_nil,List.length_append];rfl
theorem v9j {l:List Hz}{k:Int}{i:Nat}(D:i<l.length)(h:¬(l.getD i hz0).k=k):czK l k (i+1)=czK l k i:=by
 unfold czK;rw[z1t hz0 D,List.filter_append,List.filter_cons_of_neg (by simpa using h),List.filter_nil,List.append_nil]
theorem u4v (l:List Hz)(k:Int)(i:Nat):czK l k i<=i:=by
 unfold czK;refine Nat.le_trans (List.length_filter_le _ _) ?_;rw[List.length_take];omega
theorem j2l (l:List Hz)(k:Int):czK l k l.length=(l.filter λh=>decide (h.k=k)).length:=by
 unfold czK;rw[List.take_length]
theorem j3v {d b1 b2 p q:Int}{mid:Bool}(J:d=if q<p then 0 else 1)(hp:1<=p/\p<=40)(Z:1<=q/\q<=40)(M:p≠q)(h1:b1=0\/b1=1)(I:b2=0\/b2=1) :
    ∃P,z3n 0 G08.start (x8a 4 (1-d) d b1 p d b2 q mid)=.ok P/\∀k,k=1\/k=2->czK (y7y (y6t (x8a 4 (1-d) d b1 p d b2 q mid) P)) k (y7y (y6t (x8a 4 (1-d) d b1 p d b2 q mid) P)).length=if mid=false/\6<apt p q then 1 else 0:=by
  have D:d=0\/d=1:=by rw[J];split<;>simp
  have n1:z2t b1 p=0:=y8g ⟨h1,hp.1,hp.2⟩
  have n2:z2t b2 q=0:=y8g ⟨I,Z.1,Z.2⟩
  have s1:=(y2x n1 (r:=0) (by omega)).1
  have s2:=(y2x n2 (r:=0) (by omega)).1
  obtain⟨P,e1,e2⟩:=u9n (y:=4) (sd:=1-d) (dk:=d) (b1:=b1) (p:=p) (dt:=d) (b2:=b2) (q:=q) (by omega) (by omega) (by omega) n1 n2 (λe=>M e.2.symm) D mid (by
    unfold j3h u8a
    rcases D with rfl|rfl
    · have O:q<p:=Classical.byContradiction λh=>by rw[if_neg h]at J;omega
      rw[if_neg (by omega)]
      rcases h1 with rfl|rfl<;>rcases I with rfl|rfl<;>cases mid<;>simp only[s1,s2]<;>simp<;>omega
    · have O:¬q<p:=λh=>by rw[if_pos h]at J;omega
      rw[if_pos U]
      rcases h1 with rfl|rfl<;>rcases I with rfl|rfl<;>cases mid<;>simp only[s1,s2]<;>simp<;>omega)
  refine⟨P,e1,λk hk=>?_⟩
  rw[j2l,u7f hk e2]
  have e:u5o b1 p b2 q 0=decide (6<apt p q):=by
    unfold u5o
    rw[u5f n2 (by omega),u5f n1 (by omega),v9i]
    congr 2
    congr 1<;>split<;>omega
  rw[e]
  simp only[decide_eq_true_eq]
end Go.G09
namespace Go.Proofs.YtjilcnmaefhmeaaGreatDoor
open Go.Lw Go.G21 Go.G08 Go.G09 _root_.Go.Proofs.Tryz
theorem v1e (za zb pz qz:Int)(w0:World)(hG:Glob w0)(a3:StT w0)(hZ:HzG w0)(h1:0<=za/\za<=255)(h2:0<=zb/\zb<=255)(h3:0<=pz/\pz<=255)(h4:0<=qz/\qz<=255):Rets prog 5 #[.int .u8 za,.int .u8 zb,.agg #[.int .u8 pz,.int .u8 qz]] w0 λr w'=>r=.bool true/\Fr [] w0 w':=by
 obtain⟨d,hd⟩:∃d:Int,d=if (1+zb % 40)<(1+za % 40) then 0 else 1:=⟨_,rfl⟩
 have f8:d=0\/d=1:=by rw[hd];split<;>simp
 obtain⟨mid,M⟩:∃mid:Bool,mid=decide (qz % 4=0):=⟨_,rfl⟩;have f7:=hG.sz;refine we [(0,.int .u8 za),(1,.int .u8 zb),(2,.agg #[.int .u8 pz,.int .u8 qz])] func5 U ntmps5 U (.c3 U U U) ?_;have b9:=hG;have a8:=a3;have d0:=hZ;refine sr (bx U (λg5 w1 f9 a5 q1 z1=>(asg U (nn (sr (mv U U (v5p U U (by first|exact IntWalk.rem_in _ _ (by omega)|rfl) (z5s U (us underlying5) underlying3 (wi6 (by omega)) (z1b U (wi6 (by omega)) (mv U U (v5p U U (by first|exact IntWalk.rem_in _ _ (by omega)|rfl) (z5s U (us underlying5) underlying3 (wi6 (by omega)) (z1b U (wi6 (by omega)) (asg U (asg U (kpL [(5,_),(7,_),(8,_)] (.c3 U U U) (nn (sq ?_))))))))))))))))));intro a h;refine z0h none (λwb w'=>Fr [] wb w') z2l ?_;intro w2 q2;have z2:=q2.size;replace a5:=a5.ext q2;have hC:Fr [] w2 w2:=Fr.refl _ _;have a4:=a5;refine y5r 0 hC h wn U U underlying78 sz5 U U λa h=>z0j 1 h U (λ_ hw=>a4.ext hw) U na5 U λa h=>u6f 2 hC h wn U U (by first|exact IntWalk.rem_in _ _ (by omega)|rfl) U U λa h=>y5r 3 hC h wn U U underlying78 sz5 U U λa h=>z0j 4 h U (λ_ hw=>a4.ext hw) U na5 U λa h=>j4v 5 hC h wn U U (by omega) (by first|exact IntWalk.u8_quo _ _ (by omega)|rfl) U U λa h=>u6f 6 hC h wn U U (by first|exact IntWalk.rem_in _ _ (by omega)|rfl) U U λa h=>z0d 7 U (z0r h U λa h=>?_);refine z0b (z0d 8 U (z0r h U λa h=>?_));refine z0b (z0q ?_);clear hC a4;refine bk (h.sub (L':=[(5,_),(7,_),(8,_),(9,_),(10,_)]) (.c5 U U U U U)) (tn (sq (sr (mv U U (mv U U (eq' U (nn (cd U (λc0=>?_) (λc0=>?_)))))))));refine sr ?_;replace hG:=b9.ext (q1.n1 q2);replace a3:=a8.ext (q1.n1 q2);replace hZ:=d0.ext (q1.n1 q2);refine cl z0f (mkC func19) (x1w _ hG a3 hZ) U ?_;rintro _ w3 ⟨rfl,q3⟩;have z3:=q3.size;refine asg U (kpL [(6,_)] (.cons U .nil) (nn (rt (tr (r1 results5 U ?_)))));exact⟨_,rfl,by first|rfl|exact congrArg Value.bool (decide_eq_true (.inl ⟨⟨rfl,J⟩,a0⟩)),(q1.n2 q2 q3)⟩;refine sk (tn (sr (asg U (nn (jn (ι:=Unit) [(5,_),(7,_),(8,_),(9,_),(10,_)] (λ_j=>[(11,.int .u8 d)]) (λ_j w'=>Fr [] w2 w') (.c5 U U U U U) ?_ ?_)))));refine sr (mv U U (mv U U (lt' U (nn (cd U (λc1=>?_) (λc1=>?_))))));refine rg (asg U (nl ?_));exact jE (()) (.c6 U U U U U (congrArg (λz=>some (Value.int .u8 z)) (by rw[hd];first|rw[if_pos (by omega)]|rw[if_neg (by omega)]))) (Fr.refl _ _);refine sk ?_;exact jE (()) (.c6 U U U U U (congrArg (λz=>some (Value.int .u8 z)) (by rw[hd];first|rw[if_pos (by omega)]|rw[if_neg (by omega)]))) (Fr.refl _ _);rintro _j w4 q4;have z4:=q4.size;refine kpC [(5,_),(7,_),(8,_),(9,_),(10,_),(11,_)] (.c6 U U U U U U) (sr (asg U (nn (jn (ι:=Unit) [(5,_),(7,_),(8,_),(9,_),(10,_),(11,_)] (λ_j=>[(12,.int .u8 (1-d))]) (λ_j w'=>Fr [] w4 w') (.c6 U U U U U U) ?_ ?_))));refine sr (mv U U (eq' U (nn (cd U (λc2=>?_) (λc2=>?_)))));refine rg (asg U (nl ?_));exact jE (()) (.c7 U U U U U U (congrArg (λz=>some (Value.int .u8 z)) (by omega))) (Fr.refl _ _);refine sk ?_;exact jE (()) (.c7 U U U U U U (congrArg (λz=>some (Value.int .u8 z)) (by omega))) (Fr.refl _ _);rintro _j w5 q5;have z5:=q5.size;refine kpC [(5,_),(7,_),(8,_),(9,_),(10,_),(11,_),(12,_)] (.c7 U U U U U U U) (sr (mv U U (z1x (cs:=[_,_,_,_,_,_]) (ev3 U) u8q (z0g U (z0g U (z0g U z0s))) U ?_)));refine mv U U (mv U U (mv U U (z1x (cs:=[_,_]) (ev2 U) x0u (z0g U (z0g U z0s)) U ?_)));refine z1x (cs:=[_,_,_,_,_,_]) (ev4 U) u8q (z0g U (z0g U (z0g U (z0g U z0s)))) U ?_;refine z2w ([⟨1,1-d,0,0,4,0⟩,⟨4,d,(pz % 2),(1+za % 40),4,0⟩]) (ev2 U) U v8i (λf4 w6 f1 a1 q6 z6=>(asg U (kpL [(5,_),(7,_),(8,_),(10,_),(11,_),(12,_),(13,_)] (.c7 U U U U U U U) (nn (sr (y1f U U underlying78 sz5 ?_))))));replace a5:=a5.ext (q4.n2 q5 q6);refine z0i U a5 U na5 (v5p U U (by first|exact IntWalk.rem_in _ _ (by omega)|rfl) (eq' U (asg U (nn (jn (ι:=Value) [(7,_),(8,_),(10,_),(11,_),(14,_)] (λb4=>[(13,b4)]) (λb4 w'=>Fr [] w0 w'/\Lw.Own y0r 47 w0.heap.size w' b4 ([⟨1,1-d,0,0,4,0⟩,⟨4,d,(pz % 2),(1+za % 40),4,0⟩]++(if mid then [⟨2,0,0,0,4,0⟩,⟨1,1-d,0,0,4,0⟩] else []))) (.c5 U U U U U) ?_ ?_)))));refine sr (mv U U (nn (cd U (λc3=>?_) (λc3=>?_))));refine rg (mv U U (z1x (cs:=[_,_,_,_,_,_]) (ev2 U) u8q (z0g U (z0g U z0s)) U ?_));refine mv U U (z1x (cs:=[_,_,_,_,_,_]) (ev3 U) u8q (z0g U (z0g U (z0g U z0s))) U ?_);refine z2w ([⟨2,0,0,0,4,0⟩,⟨1,1-d,0,0,4,0⟩]) (ev2 U) U v8i (λf5 w7 f2 d5 q7 z7=>?_);replace a1:=a1.ext q7;have b6:=a1;refine z2n U a1 d5.sl v8i (λg7 w8 ho q8 e3=>?_);have z8:=q8.size;exact asg U (kpL [(7,_),(8,_),(10,_),(11,_),(13,_),(14,_)] (.c6 U U U U U U) (nl (jE (_) (.c6 U U U U U U) ⟨((q1.n5 q2 q4 q5 q6 q7).step q8 (λk hk D=>absurd (b6.blk k hk).1 (by omega))),(by rw[show mid=true from M.trans (decide_eq_true (by simpa using c3))];exact ho.low (by omega))⟩)));exact sk (jE (_) (.c6 U U U U U U) ⟨(q1.n4 q2 q4 q5 q6),(by rw[show mid=false from M.trans (decide_eq_false (by simpa using c3))];exact a1.low (by omega))⟩);rintro b4 w9 ⟨q9,ho⟩;have z9:=q9.size;refine kpC [(7,_),(8,_),(10,_),(11,_),(14,_),(13,_)] (.c6 U U U U U U) (sr (mv U U (mv U U (mv U U (mv U U (z1x (cs:=[_,_]) (ev2 U) x0u (z0g U (z0g U z0s)) U ?_))))));refine z1x (cs:=[_,_,_,_,_,_]) (ev4 U) u8q (z0g U (z0g U (z0g U (z0g U z0s)))) U ?_;refine z2w ([⟨5,d,(pz / 2 % 2),(1+zb % 40),4,0⟩]) (ev1 U) U v8i (λf6 g9 f3 d6 a6 i1=>?_);replace ho:=ho.ext a6;have I:=ho;refine z2n U ho d6.sl v8i (λg8 h0 ho a7 e4=>?_) (hM:=(by unfold maxLen;simp only[List.length_append,List.length_cons,List.length_nil];split<;>simp)) (hb:=(by simp only[List.length_append,List.length_cons,List.length_nil];split<;>simp));have i2:=a7.size;refine asg U (kpL [(7,_),(8,_),(13,_),(14,_)] (.c4 U U U U) (nn (sr (mv U U ?_))));obtain⟨Pq,c9,a9⟩:=j3v (b1:=(pz % 2)) (b2:=(pz / 2 % 2)) (mid:=mid) hd (by omega) (by omega) (by omega) (by omega) (by omega);obtain⟨ZA,b5⟩:∃Z,Z=y7y (y6t (x8a 4 (1-d) d (pz % 2) (1+za % 40) d (pz / 2 % 2) (1+zb % 40) mid) Pq):=⟨_,rfl⟩;rw[<-b5]at a9;have e1:=a9 1 (.inl U);have e2:=a9 2 (.inr U);have e5:=u7b c9;rw[<-b5]at e5;have hfl:(x8a 4 (1-d) d (pz % 2) (1+za % 40) d (pz / 2 % 2) (1+zb % 40) mid).length<=5:=by unfold x8a;cases mid<;>simp
 replace a3:=a8.ext ((q9.n1 a6).step a7 (λk hk D=>absurd (I.blk k hk).1 (by omega)));refine cl (ev1 U) j6w (x3m (l:=(x8a 4 (1-d) d (pz % 2) (1+za % 40) d (pz / 2 % 2) (1+zb % 40) mid)) (n:=(x8a 4 (1-d) d (pz % 2) (1+za % 40) d (pz / 2 % 2) (1+zb % 40) mid).length) (zs:=ZA) ho.sl a3 (by unfold x8a;cases mid<;>simp) c9 b5.symm U) U ?_;rintro _ e6 ⟨⟨gz,rfl,a2⟩,q12⟩;have i3:=q12.size;refine mv U U (xt U (xt U (xt U (asg U (asg U (asg U (kpL [(7,_),(8,_),(14,_),(15,_),(17,_)] (.c5 U U U U U) (nn (sr (asg U (asg U (nn (sq (sr (asg U (nn (bl (lpK (ι:=Nat) [(7,_),(8,_),(14,_),(15,_),(17,_)] (λi=>[(20,.int .i64 (i:Int)),(18,.int .i64 (czK ZA 1 i:Int)),(19,.int .i64 (czK ZA 2 i:Int))]) (λi w'=>Fr [] e6 w'/\i<=ZA.length) (λi=>ZA.length-i) 0 (.c8 U U U U U U U U) ⟨Fr.refl _ _,Nat.zero_le _⟩ ?_))))))))))))))))));rintro i e0 ⟨O,g6⟩;have i4:=O.size;refine kpC [(7,_),(8,_),(14,_),(15,_),(17,_),(20,_),(18,_),(19,_)] (.c8 U U U U U U U U) ?_;have e9:=u4v ZA 1 i;have f0:=u4v ZA 2 i;refine sq (sr (mv U U (mv U U (lnS U underlying68 (lt' U (nn (cd U (λc4=>?_) (λc4=>?_))))))));have D:i<ZA.length:=by omega
 refine sk (tn (sq (bl (jn (ι:=Unit) [(7,_),(8,_),(14,_),(15,_),(17,_),(19,_),(20,_)] (λ_j=>[(18,.int .i64 (czK ZA 1 (i+1):Int))]) (λ_j w'=>Fr [] e0 w') (.c7 U U U U U U U) ?_ ?_))));refine sr (mv U U (mv U U ?_));replace a2:=a2.ext O;refine z1c (hz0) U a2.sl U j0z z1g (λe7 d1=>?_);refine fad U x1i (z7w U (d1 _ a2.sl) U j3p (eq' U (kpL [(7,_),(8,_),(14,_),(15,_),(17,_),(18,_),(19,_),(20,_),(90,_)] (.d8 U U U U U U U U (.cons U .nil)) (nn (cd U (λc5=>?_) (λc5=>?_))))));refine rg (mv U U (z1b U (wi6 (by omega)) (asg U (nl ?_))));exact jE (()) (.c8 U U U U U U U (congrArg (λz=>some (Value.int .i64 z)) (by first|(rw[v9w D (by omega)];rfl)|rw[v9j D (by omega)]))) (Fr.refl _ _);refine sk ?_;exact jE (()) (.c8 U U U U U U U (congrArg (λz=>some (Value.int .i64 z)) (by first|(rw[v9w D (by omega)];rfl)|rw[v9j D (by omega)]))) (Fr.refl _ _);rintro _j h5 b3;have i5:=b3.size;refine kpC [(7,_),(8,_),(14,_),(15,_),(17,_),(19,_),(20,_),(18,_)] (.c8 U U U U U U U U) (sr (mv U U (mv U U ?_)));replace a2:=a2.ext (O.n1 b3);refine z1c (hz0) U a2.sl U j0z z1g (λe8 d3=>?_);refine fad U x1i (z7w U (d3 _ a2.sl) U j3p (eq' U (nn (cd U (λc6=>?_) (λc6=>?_)))));refine rg (mv U U (z1b U (wi6 (by omega)) (asg U (nl (bn' (tn (rg (mv U U (z1b U (wi6 (by omega)) (asg U (nl ?_)))))))))));exact lpE ((i+1)) (.c8 U U U U U U U (congrArg (λz=>some (Value.int .i64 z)) (by first|(rw[v9w D (by omega)];rfl)|rw[v9j D (by omega)]))) ⟨(O.n1 b3),by omega⟩ (by omega);refine sk (bn' (tn (rg (mv U U (z1b U (wi6 (by omega)) (asg U (nl ?_)))))));exact lpE ((i+1)) (.c8 U U U U U U U (congrArg (λz=>some (Value.int .i64 z)) (by first|(rw[v9w D (by omega)];rfl)|rw[v9j D (by omega)]))) ⟨(O.n1 b3),by omega⟩ (by omega);have d4:i=ZA.length:=by omega
 have J:(czK ZA 1 i:Int)=(if mid=false/\6<apt (1+za % 40) (1+zb % 40) then 1 else 0):=by rw[d4,e1];split<;>rfl
 have a0:(czK ZA 2 i:Int)=(if mid=false/\6<apt (1+za % 40) (1+zb % 40) then 1 else 0):=by rw[d4,e2];split<;>rfl
 refine ex (te (te (xh (tn (sr (asg U (nn (jn (ι:=Unit) [(17,_),(18,_),(19,_)] (λ_j=>[(21,.int .i64 (if mid=false/\6<apt (1+za % 40) (1+zb % 40) then 1 else 0))]) (λ_j w'=>Fr [] e0 w') (.c3 U U U) ?_ ?_))))))));refine sq (x6a (r:=108) (L':=[(17,_),(18,_),(19,_),(21,_)]) (((6<(apt (1+(za % 40)) (1+(zb % 40))))/\(¬((qz % 4)=0)))) (.c4 U U U U) ?_ ?_);refine mv U U (mv U U (cl (ev2 U) (mkC func22) (u3y _ _ _ (by omega) (by omega)) U ?_));rintro _ h6 ⟨rfl,b7⟩;have i7:=b7.size;refine gt' U (mv U U (gs 105 U (λg0=>?_) (λg0=>?_)));exact gY U (mv U U (gY U (nt' U (pkt U (z8f U (.c4 U U U U) b7)))));exact gN U (gN U (pkf U (z8f U (.c4 U U U U) b7)));intro h7 b8;have i8:=b8.size;refine tn (cd U (λc7=>?_) (λc7=>?_));refine rg (asg U (nl ?_));exact jE (()) (.c4 U U U (congrArg (λz=>some (Value.int .i64 z)) (by first|rw[if_pos ⟨by rw[M];exact decide_eq_false (by first|exact c7.2|simpa using c7.2),c7.1⟩]|rw[if_neg (λe=>c7 ⟨e.2,by have x:=M.symm.trans e.1;first|exact of_decide_eq_false x|simpa using x⟩)]))) b8;refine sk ?_;exact jE (()) (.c4 U U U (congrArg (λz=>some (Value.int .i64 z)) (by first|rw[if_pos ⟨by rw[M];exact decide_eq_false (by first|exact c7.2|simpa using c7.2),c7.1⟩]|rw[if_neg (λe=>c7 ⟨e.2,by have x:=M.symm.trans e.1;first|exact of_decide_eq_false x|simpa using x⟩)]))) b8;rintro _j h8 b0;have i9:=b0.size;refine kpC [(17,_),(18,_),(19,_),(21,_)] (.c4 U U U U) (sq (x6a (r:=6) (L':=[]) (((((0=0)/\((czK ZA 1 i:Int)=(if mid=false/\6<apt (1+za % 40) (1+zb % 40) then 1 else 0)))/\((czK ZA 2 i:Int)=(if mid=false/\6<apt (1+za % 40) (1+zb % 40) then 1 else 0)))\/False)) .nil ?_ ?_));refine mv U U (eq' U (mv U U (gs 111 U (λg1=>?_) (λhh=>absurd (by rfl) hh))));refine gY U (mv U U (gY U (mv U U (gY U (eq' U (pkt U (mv U U (gs 116 U (λg2=>?_) (λhh=>absurd (by first|exact J|exact⟨rfl,J⟩) hh)))))))));refine gY U (mv U U (gY U (mv U U (gY U (eq' U (pkt U (mv U U (gs 121 U (λg3=>?_) (λhh=>absurd (by first|exact a0|exact⟨J,a0⟩|exact⟨⟨rfl,J⟩,a0⟩) hh)))))))));refine gY U ?_;replace hG:=b9.ext (((q9.n1 a6).step a7 (λk hk D=>absurd (I.blk k hk).1 (by omega))).n3 q12 O b0);replace a3:=a8.ext (((q9.n1 a6).step a7 (λk hk D=>absurd (I.blk k hk).1 (by omega))).n3 q12 O b0);replace hZ:=d0.ext (((q9.n1 a6).step a7 (λk hk D=>absurd (I.blk k hk).1 (by omega))).n3 q12 O b0);refine cl z0f (mkC func19) (x1w _ hG a3 hZ) U ?_;rintro _ h9 ⟨rfl,d7⟩;have j0:=d7.size;exact pkt U (asg U (z8f U .nil d7));intro i0 d9;have j1:=d9.size;refine tn (rt (r1 results5 U ?_));exact⟨_,rfl,by first|rfl|exact congrArg Value.bool (decide_eq_true (.inl ⟨⟨rfl,J⟩,a0⟩)),(((q9.n1 a6).step a7 (λk hk D=>absurd (I.blk k hk).1 (by omega))).n4 q12 O b0 d9)⟩
end Go.Proofs.YtjilcnmaefhmeaaGreatDoor
