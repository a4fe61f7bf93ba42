/- Texts of the proof, joined. -/
import Derived.Test.YtpgdchkdlgkmgaaGreatDoorRows
import Derived.Shelf.SlSortCmp.WholeK
import Derived.Shelf.SlGeneric
import Derived.Ground.SlsfProg
import Derived.Test.YtpgdchkdlgkmgaaGreatDoorProg
import Derived.Shelf.Strings.Builder1
import Derived.Shelf.Strings.Builder2
import Derived.Shelf.Strings.OnBuilder
import Derived.Shelf.Strings.Trim
import Derived.Shelf.Small.Utf8
import Derived.Shelf.Small.Bits
import Derived.Shelf.Small.Strs
import Derived.Shelf.Strconv.Atoi
import Derived.Shelf.Strconv.Itoa0
import Derived.Shelf.Strconv.Itoa1
import Derived.Shelf.LaysM
import Derived.Shelf.Strconv.Itoa2
import Derived.Shelf.Strconv.Itoa3
import Derived.Shelf.Strconv.AtoiErrFast
import Derived.Shelf.Strconv.ParseIntEmpty
import Derived.Shelf.Strconv.AtoiFail
import Derived.Shelf.Strconv.Clone
import Derived.Shelf.Strconv.SyntaxError
import Derived.Shelf.LaysC
import Derived.Shelf.Strconv.ToError
import Derived.Shelf.Strconv.AtoiErr
import Derived.Shelf.Strconv.ErrVar
import Derived.Shelf.Strconv.Lower
import Derived.Shelf.Strconv.ParseUint10
import Derived.Shelf.Strconv.ParseUint10Empty
import Derived.Shelf.Strconv.ParseUint10Any
import Derived.Shelf.Strconv.ParseInt10
import Derived.Shelf.Strconv.AtoiLong
import Derived.Shelf.Strconv.AtoiInnerAll
import Derived.Shelf.Strconv.RangeError
import Derived.Shelf.Strconv.ToErrorRange
import Derived.Shelf.Strconv.AtoiAll
import Derived.Shelf.Strconv.ErrVarAll
import Derived.Shelf.Strings.Search1
import Derived.Shelf.Strings.Search2
import Derived.Shelf.Strings.Search3
import Derived.Shelf.Strings.Cut
import Derived.Shelf.Strings.Count
import Derived.Shelf.Strings.Shaped
import Derived.Shelf.Strings.Split
import Derived.Shelf.Strings.SplitShaped
import Derived.Shelf.Strings.Runes
import Derived.Shelf.Strings.AsciiSet
import Derived.Shelf.Unicode.DecodeSlow
import Derived.Lib.LaidTab
import Derived.LaidSub
import Derived.Test.YtpgdchkdlgkmgaaGreatDoorCards
import Derived.Test.YtpgdchkdlgkmgaaGreatDoorTie
import Derived.ChangeMaps5
import Derived.Test.YtpgdchkdlgkmgaaGreatDoorJC5
set_option linter.unusedVariables false
set_option linter.unusedSimpArgs false
namespace Go.Proofs.YtpgdchkdlgkmgaaGreatDoor
open Go.Lw Go.G21 Go.G08 _root_.Go.Proofs.Tryz
set_option maxHeartbeats 4000000 in
theorem j0m (x y:Cx)(W:World):Calls prog 73 #[j0g x,j0g y] W λe w'=>e=.returned (.int .i64 (x0o x y))/\DG W w':=by
 go_enter func73,ntmps73
 go_wp2_with (first|(go_at_call 74;refine(u7s ⟨_,_⟩ ⟨_,_⟩ _).mono ?_;rintro e w' ⟨rfl,D⟩;have M:w'.cell? ⟨W.heap.size,2,none⟩=some (.int .u8 x.b.y):=D.cell (by simp[j0g]);have c2:w'.cell? ⟨W.heap.size,3,none⟩=some (.int .i64 x.b.n):=D.cell (by simp[j0g]);have c3:w'.cell? ⟨W.heap.size+1,2,none⟩=some (.int .u8 y.b.y):=D.cell (by simp[j0g]);have c4:w'.cell? ⟨W.heap.size+1,3,none⟩=some (.int .i64 y.b.n):=D.cell (by simp[j0g]))|(go_at_call 74;refine(u7s ⟨_,_⟩ ⟨_,_⟩ _).mono ?_;rintro e J ⟨rfl,I⟩))
 all_goals go_ret
 ·rename_i h
  refine⟨?_,(((DG.refl _).alloc _).alloc _).trans D⟩
  show Ending.returned (Value.int .i64 (z6o x.a y.a))=_
  unfold x0o;rw[if_pos (by simpa using h)]
 rename_i h
 refine⟨?_,((((DG.refl _).alloc _).alloc _).trans D).trans I⟩
 show Ending.returned (Value.int .i64 (z6o x.b y.b))=_
 unfold x0o;rw[if_neg (by simpa using h)]
end Go.Proofs.YtpgdchkdlgkmgaaGreatDoor
namespace Go.Proofs
open Go.Shelf
def Tryz.sortCx_ren:Go.Shelf.Ren:=⟨fun|6=>72|15=>120|14=>119|28=>162|29=>163|20=>154|21=>155|22=>156|23=>157|24=>158|25=>159|26=>160|27=>161|46=>204|47=>205|48=>206|49=>207|50=>208|57=>234|n=>n,fun|22=>36|24=>109|25=>142|3=>3|39=>208|0=>0|53=>264|55=>266|4=>4|46=>257|45=>256|50=>261|5=>5|9=>9|66=>296|70=>300|76=>324|77=>325|n=>n,fun|n=>n⟩
theorem Tryz.sortCx:Go.Proofs.SlLaysF0.n6 Tryz.prog Tryz.sortCx_ren:={
 mixed:=by kernel_rfl
 f6:=⟨Tryz.f72.name,by decide,Tryz.func72.trans (congrArg some (by kernel_rfl))⟩
 f14:=⟨Tryz.f119.name,by decide,Tryz.func119.trans (congrArg some (by kernel_rfl))⟩
 f15:=Tryz.func120.trans (congrArg some (by kernel_rfl))
 f20:=⟨Tryz.f154.name,by decide,Tryz.func154.trans (congrArg some (by kernel_rfl))⟩
 f21:=⟨Tryz.f155.name,by decide,Tryz.func155.trans (congrArg some (by kernel_rfl))⟩
 f22:=⟨Tryz.f156.name,by decide,Tryz.func156.trans (congrArg some (by kernel_rfl))⟩
 f23:=⟨Tryz.f157.name,by decide,Tryz.func157.trans (congrArg some (by kernel_rfl))⟩
 f24:=⟨Tryz.f158.name,by decide,Tryz.func158.trans (congrArg some (by kernel_rfl))⟩
 f25:=⟨Tryz.f159.name,by decide,Tryz.func159.trans (congrArg some (by kernel_rfl))⟩
 f26:=⟨Tryz.f160.name,by decide,Tryz.func160.trans (congrArg some (by kernel_rfl))⟩
 f27:=⟨Tryz.f161.name,by decide,Tryz.func161.trans (congrArg some (by kernel_rfl))⟩
 f28:=Tryz.func162.trans (congrArg some (by kernel_rfl))
 f29:=Tryz.func163.trans (congrArg some (by kernel_rfl))
 f46:=⟨Tryz.f204.name,by decide,Tryz.func204.trans (congrArg some (by kernel_rfl))⟩
 f47:=Tryz.func205.trans (congrArg some (by kernel_rfl))
 f48:=Tryz.func206.trans (congrArg some (by kernel_rfl))
 f49:=⟨Tryz.f207.name,by decide,Tryz.func207.trans (congrArg some (by kernel_rfl))⟩
 f50:=⟨Tryz.f208.name,by decide,Tryz.func208.trans (congrArg some (by kernel_rfl))⟩
 f57:=⟨Tryz.f234.name,by decide,Tryz.func234.trans (congrArg some (by kernel_rfl))⟩
 t0:=Tryz.underlying0
 a0:=Tryz.isAgg0
 z0:=Tryz.sizeOf0
 v0:=Tryz.zeroValue0
 t3:=Tryz.underlying3
 a3:=Tryz.isAgg3
 z3:=Tryz.sizeOf3
 v3:=Tryz.zeroValue3
 t4:=Tryz.underlying4
 a4:=Tryz.isAgg4
 z4:=Tryz.sizeOf4
 v4:=Tryz.zeroValue4
 t5:=Tryz.underlying5
 a5:=Tryz.isAgg5
 z5:=Tryz.sizeOf5
 v5:=Tryz.zeroValue5
 t9:=Tryz.underlying9
 a9:=Tryz.isAgg9
 z9:=Tryz.sizeOf9
 v9:=Tryz.zeroValue9
 t22:=Tryz.underlying36
 a22:=Tryz.isAgg36
 z22:=Tryz.sizeOf36
 v22:=Tryz.zeroValue36
 t25:=Tryz.underlying142
 a25:=Tryz.isAgg142
 z25:=Tryz.sizeOf142
 v25:=Tryz.zeroValue142
 t39:=Tryz.underlying208
 a39:=Tryz.isAgg208
 z39:=Tryz.sizeOf208
 v39:=Tryz.zeroValue208
 t45:=Tryz.underlying256
 a45:=Tryz.isAgg256
 z45:=Tryz.sizeOf256
 v45:=Tryz.zeroValue256
 t46:=Tryz.underlying257
 a46:=Tryz.isAgg257
 z46:=Tryz.sizeOf257
 v46:=Tryz.zeroValue257
 t50:=Tryz.underlying261
 a50:=Tryz.isAgg261
 z50:=Tryz.sizeOf261
 v50:=Tryz.zeroValue261
 t53:=Tryz.underlying264
 a53:=Tryz.isAgg264
 z53:=Tryz.sizeOf264
 v53:=Tryz.zeroValue264
 t55:=Tryz.underlying266
 a55:=Tryz.isAgg266
 z55:=Tryz.sizeOf266
 v55:=Tryz.zeroValue266
 t66:=Tryz.underlying296
 a66:=Tryz.isAgg296
 z66:=Tryz.sizeOf296
 v66:=Tryz.zeroValue296
 t70:=Tryz.underlying300
 a70:=Tryz.isAgg300
 z70:=Tryz.sizeOf300
 v70:=Tryz.zeroValue300
 t76:=Tryz.underlying324
 a76:=Tryz.isAgg324
 z76:=Tryz.sizeOf324
 v76:=Tryz.zeroValue324
 t77:=Tryz.underlying325
 a77:=Tryz.isAgg325
 z77:=Tryz.sizeOf325
 v77:=Tryz.zeroValue325 }
def Tryz.sortId_ren:Go.Shelf.Ren:=⟨fun|6=>76|15=>120|14=>124|28=>162|29=>163|20=>166|21=>167|22=>168|23=>169|24=>170|25=>171|26=>172|27=>173|46=>209|47=>205|48=>206|49=>210|50=>211|57=>235|n=>n,fun|22=>37|24=>87|25=>141|3=>3|39=>208|0=>0|53=>264|55=>266|4=>4|46=>257|45=>256|50=>261|5=>5|9=>9|66=>296|70=>300|76=>324|77=>325|n=>n,fun|n=>n⟩
theorem Tryz.sortId:Go.Proofs.SlLaysF0.n6 Tryz.prog Tryz.sortId_ren:={
 mixed:=by kernel_rfl
 f6:=⟨Tryz.f76.name,by decide,Tryz.func76.trans (congrArg some (by kernel_rfl))⟩
 f14:=⟨Tryz.f124.name,by decide,Tryz.func124.trans (congrArg some (by kernel_rfl))⟩
 f15:=Tryz.func120.trans (congrArg some (by kernel_rfl))
 f20:=⟨Tryz.f166.name,by decide,Tryz.func166.trans (congrArg some (by kernel_rfl))⟩
 f21:=⟨Tryz.f167.name,by decide,Tryz.func167.trans (congrArg some (by kernel_rfl))⟩
 f22:=⟨Tryz.f168.name,by decide,Tryz.func168.trans (congrArg some (by kernel_rfl))⟩
 f23:=⟨Tryz.f169.name,by decide,Tryz.func169.trans (congrArg some (by kernel_rfl))⟩
 f24:=⟨Tryz.f170.name,by decide,Tryz.func170.trans (congrArg some (by kernel_rfl))⟩
 f25:=⟨Tryz.f171.name,by decide,Tryz.func171.trans (congrArg some (by kernel_rfl))⟩
 f26:=⟨Tryz.f172.name,by decide,Tryz.func172.trans (congrArg some (by kernel_rfl))⟩
 f27:=⟨Tryz.f173.name,by decide,Tryz.func173.trans (congrArg some (by kernel_rfl))⟩
 f28:=Tryz.func162.trans (congrArg some (by kernel_rfl))
 f29:=Tryz.func163.trans (congrArg some (by kernel_rfl))
 f46:=⟨Tryz.f209.name,by decide,Tryz.func209.trans (congrArg some (by kernel_rfl))⟩
 f47:=Tryz.func205.trans (congrArg some (by kernel_rfl))
 f48:=Tryz.func206.trans (congrArg some (by kernel_rfl))
 f49:=⟨Tryz.f210.name,by decide,Tryz.func210.trans (congrArg some (by kernel_rfl))⟩
 f50:=⟨Tryz.f211.name,by decide,Tryz.func211.trans (congrArg some (by kernel_rfl))⟩
 f57:=⟨Tryz.f235.name,by decide,Tryz.func235.trans (congrArg some (by kernel_rfl))⟩
 t0:=Tryz.underlying0
 a0:=Tryz.isAgg0
 z0:=Tryz.sizeOf0
 v0:=Tryz.zeroValue0
 t3:=Tryz.underlying3
 a3:=Tryz.isAgg3
 z3:=Tryz.sizeOf3
 v3:=Tryz.zeroValue3
 t4:=Tryz.underlying4
 a4:=Tryz.isAgg4
 z4:=Tryz.sizeOf4
 v4:=Tryz.zeroValue4
 t5:=Tryz.underlying5
 a5:=Tryz.isAgg5
 z5:=Tryz.sizeOf5
 v5:=Tryz.zeroValue5
 t9:=Tryz.underlying9
 a9:=Tryz.isAgg9
 z9:=Tryz.sizeOf9
 v9:=Tryz.zeroValue9
 t22:=Tryz.underlying37
 a22:=Tryz.isAgg37
 z22:=Tryz.sizeOf37
 v22:=Tryz.zeroValue37
 t25:=Tryz.underlying141
 a25:=Tryz.isAgg141
 z25:=Tryz.sizeOf141
 v25:=Tryz.zeroValue141
 t39:=Tryz.underlying208
 a39:=Tryz.isAgg208
 z39:=Tryz.sizeOf208
 v39:=Tryz.zeroValue208
 t45:=Tryz.underlying256
 a45:=Tryz.isAgg256
 z45:=Tryz.sizeOf256
 v45:=Tryz.zeroValue256
 t46:=Tryz.underlying257
 a46:=Tryz.isAgg257
 z46:=Tryz.sizeOf257
 v46:=Tryz.zeroValue257
 t50:=Tryz.underlying261
 a50:=Tryz.isAgg261
 z50:=Tryz.sizeOf261
 v50:=Tryz.zeroValue261
 t53:=Tryz.underlying264
 a53:=Tryz.isAgg264
 z53:=Tryz.sizeOf264
 v53:=Tryz.zeroValue264
 t55:=Tryz.underlying266
 a55:=Tryz.isAgg266
 z55:=Tryz.sizeOf266
 v55:=Tryz.zeroValue266
 t66:=Tryz.underlying296
 a66:=Tryz.isAgg296
 z66:=Tryz.sizeOf296
 v66:=Tryz.zeroValue296
 t70:=Tryz.underlying300
 a70:=Tryz.isAgg300
 z70:=Tryz.sizeOf300
 v70:=Tryz.zeroValue300
 t76:=Tryz.underlying324
 a76:=Tryz.isAgg324
 z76:=Tryz.sizeOf324
 v76:=Tryz.zeroValue324
 t77:=Tryz.underlying325
 a77:=Tryz.isAgg325
 z77:=Tryz.sizeOf325
 v77:=Tryz.zeroValue325 }
end Go.Proofs
namespace Go.Proofs.YtpgdchkdlgkmgaaGreatDoor
open Go.Lw Go.G21 Go.G08 _root_.Go.Proofs.Tryz
open Go.Shelf Go.Sort
theorem u5o (f:Value)(W:World):Calls prog 154 #[.slice none 0 0,.int .i64 0,.int .i64 0,f] W λe w'=>e=.returned (.tuple #[])/\Fr [] W w':=by
 go_enter func154,ntmps154
 go_wp2
 refine wp_loop_rounds 1 ?_
 simp only[rounds_succ]
 go_wp2
 all_goals first|go_end0|((try simp only[Exit.inBlock,Exit.then]);refine bodyPost_ret (results_none U _ _ _) U ?_)
 all_goals exact⟨rfl,Fr.refl _ _⟩
theorem u9i (f:Value)(W:World):Calls prog 119 #[.slice none 0 0,.int .i64 0,.int .i64 0,.int .i64 0,f] W λe w'=>e=.returned (.tuple #[])/\Fr [] W w':=by
 go_enter func119,ntmps119
 go_wp2
 refine wp_loop_rounds 1 ?_
 simp only[rounds_succ]
 go_wp2_with (go_at_call 154;refine(u5o _ _).mono ?_;rintro e w' ⟨rfl,D⟩)
 all_goals first|go_end0|((try simp only[Exit.inBlock,Exit.then]);refine bodyPost_ret (results_none U _ _ _) U ?_)
 all_goals exact⟨rfl,D⟩
theorem u4k (W:World):Calls prog 120 #[.int .u64 0] W λe w'=>e=.returned (.int .i64 0)/\w'=W:=
 Any.bits_Len (SlLaysF0.n15.bits (P:=prog) (ρ:=sortCx_ren) { sortCx with }) (0:Int) W (by omega) (by omega)
theorem u7j (f:Value)(W:World):Calls prog 72 #[.slice none 0 0,f] W λe w'=>e=.returned (.tuple #[])/\Fr [] W w':=by
 go_enter func72,ntmps72
 go_wp2_with (first|(go_at_call 120;refine(u4k _).mono ?_;rintro e w' ⟨rfl,rfl⟩)|(go_at_call 119;refine(u9i _ _).mono ?_;rintro e w' ⟨rfl,D⟩))
 all_goals go_end0
 all_goals exact⟨rfl,D⟩
theorem u8h (f:Value)(W:World):Calls prog 166 #[.slice none 0 0,.int .i64 0,.int .i64 0,f] W λe w'=>e=.returned (.tuple #[])/\Fr [] W w':=by
 go_enter func166,ntmps166
 go_wp2
 refine wp_loop_rounds 1 ?_
 simp only[rounds_succ]
 go_wp2
 all_goals first|go_end0|((try simp only[Exit.inBlock,Exit.then]);refine bodyPost_ret (results_none U _ _ _) U ?_)
 all_goals exact⟨rfl,Fr.refl _ _⟩
theorem u7d (f:Value)(W:World):Calls prog 124 #[.slice none 0 0,.int .i64 0,.int .i64 0,.int .i64 0,f] W λe w'=>e=.returned (.tuple #[])/\Fr [] W w':=by
 go_enter func124,ntmps124
 go_wp2
 refine wp_loop_rounds 1 ?_
 simp only[rounds_succ]
 go_wp2_with (go_at_call 166;refine(u8h _ _).mono ?_;rintro e w' ⟨rfl,D⟩)
 all_goals first|go_end0|((try simp only[Exit.inBlock,Exit.then]);refine bodyPost_ret (results_none U _ _ _) U ?_)
 all_goals exact⟨rfl,D⟩
theorem u8o (W:World):Calls prog 120 #[.int .u64 0] W λe w'=>e=.returned (.int .i64 0)/\w'=W:=
 Any.bits_Len (SlLaysF0.n15.bits (P:=prog) (ρ:=sortId_ren) { sortId with }) (0:Int) W (by omega) (by omega)
theorem u8v (f:Value)(W:World):Calls prog 76 #[.slice none 0 0,f] W λe w'=>e=.returned (.tuple #[])/\Fr [] W w':=by
 go_enter func76,ntmps76
 go_wp2_with (first|(go_at_call 120;refine(u8o _).mono ?_;rintro e w' ⟨rfl,rfl⟩)|(go_at_call 124;refine(u7d _ _).mono ?_;rintro e w' ⟨rfl,D⟩))
 all_goals go_end0
 all_goals exact⟨rfl,D⟩
instance:Inhabited Cx:=⟨cx0⟩
instance:Inhabited LId:=⟨id0⟩
theorem j5e {w0:World}{T base:Nat}{v:Value}{l:List Cx}(J:Lw.Own z4q T base w0 v l)(hl:l.length<4611686018427387904)(hn:(l.map λc=>(c.a,c.b)).Nodup):Rets prog 72 #[v,.func (.func 73) #[] #[]] w0 λr w'=>r=.tuple #[]/\Lw.Own z4q T base w' v (z9y l)/\Fr (z0v v) w0 w':=
 Rets.mono (x8g (E:=z4q) (f:=72) sortCx U isAgg109 sizeOf109 x0o swoX (enters_of func73 (by kernel_rfl) U) (λx y W=>j0m x y W) (u7j _) J hl) (by
  rintro r w' ⟨rfl,l',M,O,D,I⟩
  rw[x5l hn M O]at D
  exact⟨rfl,D,I⟩)
theorem j2a {w0:World}{T base:Nat}{v:Value}{l:List LId}(J:Lw.Own z1h T base w0 v l)(hl:l.length<4611686018427387904):Rets prog 76 #[v,.func (.func 74) #[] #[]] w0 λr w'=>r=.tuple #[]/\Lw.Own z1h T base w' v (z8q l)/\Fr (z0v v) w0 w':=
 Rets.mono (x8g (E:=z1h) (f:=76) sortId U isAgg87 sizeOf87 z6o swoI (enters_of func74 (by kernel_rfl) U) (λx y W=>u7s x y W) (u8v _) J hl) (by
  rintro r w' ⟨rfl,l',M,O,D,I⟩
  rw[v5u M O]at D
  exact⟨rfl,D,I⟩)
end Go.Proofs.YtpgdchkdlgkmgaaGreatDoor
namespace Go.Proofs.YtpgdchkdlgkmgaaGreatDoor
open Go.Lw Go.G21 Go.G08 _root_.Go.Proofs.Tryz
theorem u1r (q:BdQ)(r:Int)(w0:World)(M:BdAt w0 q)(D:BdOk q.p)(hr:-4<=r/\r<=4):Rets prog 102 #[.agg #[.slice q.f.1 q.f.2.1 q.f.2.2,.slice q.b.1 q.b.2.1 q.b.2.2],.int .i64 r] w0 λv w'=>(∃g l n,l=z2q q.p r/\n=l.length/\n<=320/\v=.tuple #[.slice (some ⟨g,0,none⟩) n n,.int .i64 0]/\w0.heap.size<=g/\Lw.Own z3o 183 w0.heap.size w' (.slice (some ⟨g,0,none⟩) n n) l)/\Fr [] w0 w':=
 Rets.mono (v6x q r w0 M D hr) (by
  rintro v w' ⟨⟨g,rfl,I,J⟩,h3⟩
  have hN:=y5k D
  have O:=y3g q.p r
  have Z:(z2q q.p r).length=(v7k q.p r).length:=z4e _
  exact⟨⟨g,_,_,rfl,rfl,by omega,rfl,I,J⟩,h3⟩)
theorem u9b {l:List Hd}{ps:List LId}(hl:ps.length=l.length)(h:∀j,j<l.length->ps.getD j id0=(l.getD j hd0).id):ps=l.map Hd.id:=by
 refine List.ext_getElem (by simp[hl]) λj I J=>?_;have D:j<l.length:=by omega
 have:=h j D;rw[List.getD,List.getD,List.getElem?_eq_getElem I,List.getElem?_eq_getElem D]at this;simpa using this
set_option maxHeartbeats 2000000 in
theorem y3u (q:BdQ)(r:Int)(w0:World)(hB:BdAt w0 q)(hv:BdOk q.p)(hr:-4<=r/\r<=4):Rets prog 47 #[.agg #[.slice q.f.1 q.f.2.1 q.f.2.2,.slice q.b.1 q.b.2.1 q.b.2.2],.int .i64 r] w0 λv w'=>(∃g n,n=(z2q q.p r).length/\v=.slice (some ⟨g,0,none⟩) n n/\w0.heap.size<=g/\Lw.Own z1h 87 w0.heap.size w' v ((z2q q.p r).map Hd.id))/\Fr [] w0 w':=by
 obtain⟨⟨hf,hb⟩,h4,b1⟩:=z3x hv;refine we [(0,.agg #[.slice q.f.1 q.f.2.1 q.f.2.2,.slice q.b.1 q.b.2.1 q.b.2.2]),(1,.int .i64 r)] func47 U ntmps47 U (.c2 U U) ?_;have a3:=hB;refine sr (bx U (λg2 w1 b2 a4 q1 z1=>(asg U (nn (sr (z0l U a4 z5q (mv U ?_)))))));replace hB:=a3.ext q1;refine cl (ev2 U) (mkC func102) (u1r q _ _ hB hv hr) U ?_;rintro _ w2 ⟨⟨a2,l,n,a6,a1,b4,rfl,a9,Z⟩,q2⟩;have z2:=q2.size;have a5:=(Z.blk a2 (by simp[z0v])).2;refine mv U (xt U (xt U (asg U (asg U (kpL [(5,_)] (.cons U .nil) (nn (sr (mv U (lnS U underlying179 (z1i (m:=n) (c:=n) (id0) U z5d y3h U (λJ w3 b0 I q3 z3=>(asg U (nn (sq (sr (mv U (lnS U underlying179 (mv U (nn (bl ?_))))))))))))))))))));refine lpK (ι:=Nat×List LId) [(7,_),(19,_),(20,_)] (λp=>[(21,.int .i64 (p.1:Int))]) (λp w'=>Fr [J] w3 w'/\p.1<=n/\p.2.length=n/\Lw.Own z1h 87 w0.heap.size w' (.slice (some ⟨J,0,none⟩) n n) p.2/\(∀j,j<p.1->p.2.getD j id0=(l.getD j hd0).id)) (λp=>n-p.1) (0,List.replicate n id0) (.c4 U U U U) ⟨Fr.refl _ _,⟨Nat.zero_le _,by simp,I.low (by omega),λj hj=>absurd hj (by simp)⟩⟩ ?_;rintro⟨i,ps⟩ w4 ⟨q4,⟨hi,D,I,O⟩⟩;simp only at hi I O D;have z4:=q4.size;refine kpC [(7,_),(19,_),(20,_),(21,.int .i64 (i:Int))] (.c4 U U U U) (sr (lt' U (nn (sq (cd U (λc0=>?_) (λc0=>?_))))));refine sk (tn (sq (bl (sr (mv U ?_)))));replace Z:=(Z.ext q3).fr q4 (by intro k hk hb;simp[z0v]at hk hb;omega);refine z0y (hd0) U Z.sl U z3i z1e (λa8 a0=>?_);refine z1k U (a0 _ Z.sl) z5k (al u1g U (λg9 w5 b3 M q5 z5=>(asg U (z0j (vs:=[_,_,_,_,_]) U M z8o (λw6 M q6 z6=>(nn (rg (mv U (mv U (fad U v1e (z1v (vs:=[_,_]) U M z3j U ?_)))))))))));replace I:=(I.ext q5).fr q6 (by intro k hk hb;simp at hk;subst hk;have:=(I.blk _ hb);omega);refine z7h (p:=i) (E:=z1h) U U z5d (z5c (i:=i) (((l.getD i hd0).id)) U U I (by omega) U y0b (λw7 I q7 z7=>(kpL [(7,_),(19,_),(20,_),(21,_)] (.c4 U U U U) (nl (bn' (tn (rg (z0w U (wi6 (by omega)) (mv U (nl ?_))))))))));exact lpE ((i+1,ps.set i ((l.getD i hd0).id))) (.c4 U U U U) ⟨((Fr.refl [J] _).z4 q4 q5 q6 q7),⟨by simp only;omega,by simp only[List.length_set];exact D,I,λj hj=>by
  simp only at hj ⊢;rw[z1j (by omega)];split;rename_i e;subst e;rfl;exact O j (by omega)⟩⟩ (by simp only;omega)
 obtain rfl:i=n:=by omega
 refine ex (te (te (xh (tn (sr (mv U (asg U (kpL [(4,_)] (.cons U .nil) (nn (rt (r1 results47 U ?_)))))))))));have a7:=u9b (D.trans a1) (λj hj=>O j (by omega));subst a6;subst a7;exact⟨_,rfl,⟨J,_,a1,rfl,by omega,I⟩,(q1.z3 q2 q3 q4)⟩
theorem z9t:z3s prog 41 8:=⟨λ_=>by kernel_rfl,λ_=>by kernel_rfl⟩
theorem j0w:BuildAt prog 39 [(0,1),(1,1),(2,1),(3,1)] [(.slice none 0 0),(.slice none 0 0),(.slice none 0 0),(.slice none 0 0)]:=BuildAt.struct underlying39 (λ_=>by kernel_rfl) (λ_=>by kernel_rfl)
theorem v0b:BuildAt prog 41 [(0,1),(1,2),(3,1),(4,4)] [(.int .i64 0),(.slice none 0 0),(.slice none 0 0),(.slice none 0 0),(.slice none 0 0),(.slice none 0 0),(.slice none 0 0),(.slice none 0 0)]:=BuildAt.struct underlying41 (λ_=>by kernel_rfl) (λ_=>by kernel_rfl)
theorem j6f:BuildAt prog 109 [(0,2),(2,2),(4,1)] [(.int .u8 0),(.int .i64 0),(.int .u8 0),(.int .i64 0),(.int .i64 0)]:=BuildAt.struct underlying109 (λ_=>by kernel_rfl) (λ_=>by kernel_rfl)
theorem v7m:z1r prog 39 4:=λ_=>by kernel_rfl
theorem y1d:z1r prog 41 8:=λ_=>by kernel_rfl
theorem v7g (w:World):(zeroValue 39).run prog w=.ok (.agg #[(.slice none 0 0),(.slice none 0 0),(.slice none 0 0),(.slice none 0 0)]) w:=by kernel_rfl
theorem x3c (w:World):(zeroValue 41).run prog w=.ok (.agg #[(.int .i64 0),(.slice none 0 0),(.slice none 0 0),(.slice none 0 0),(.slice none 0 0),(.slice none 0 0),(.slice none 0 0),(.slice none 0 0)]) w:=by kernel_rfl
set_option maxHeartbeats 4000000 in
theorem x2d (wS:World)(ka:MA)(m:MQ)(w0:World)(hM:MkM τd 137 wS ka w0 m)(hi:MInv m.p)(m9:m.cr.length<=100000000):Rets prog 28 #[.pointer (some ⟨ka.gk,0,none⟩)] w0 λr w'=>∃s:StQ,r=.agg #[.int .i64 s.rk,.slice s.q.f.1 s.q.f.2.1 s.q.f.2.2,.slice s.q.b.1 s.q.b.2.1 s.q.b.2.2,.slice s.yv.1 s.yv.2.1 s.yv.2.2,.slice s.fb.t.1 s.fb.t.2.1 s.fb.t.2.2,.slice s.fb.c.1 s.fb.c.2.1 s.fb.c.2.2,.slice s.fb.h.1 s.fb.h.2.1 s.fb.h.2.2,.slice s.fb.f.1 s.fb.f.2.1 s.fb.f.2.2]/\StO τd 109 wS.heap.size w' s/\s.p=stM m.p/\Fr [] wS w':=by
 have o2:=hM.fr.size;have D:=hM.k;have o0:=D.lt;have o1:=hM.ly;have f5:=hM.lt;have i1:=hM;have m5:=(hM.t.out.blk ka.gt (by simp[z0v])).2;have m4:=hM.c.lt;have i3:=λk D=>(hM.f.blk k D).2;have n7:(crM m.cr).length=m.cr.length:=List.length_map ..;have k8:∀j,(m.ts.getD j tq0).2.length<=2048:=λj=>Nat.le_trans (v2o m.ts j) hi.all;have hfl:m.fl.length<=2048:=by have x:=hi.cnt;have y:=hi.all;have z:m.p.fa=m.fl:=rfl;rw[z]at x;omega
 refine we [(0,.pointer (some ⟨ka.gk,0,none⟩))] func28 U ntmps28 U (.cons U .nil) ?_;have a2:=hM;refine sr (al x3c U (λg2 w1 n8 M q1 z1=>(nn (sr (mv U (nlc U (fad U y2l ?_)))))));replace D:=D.ext q1;refine z0g U D U v0c ?_;replace hM:=a2.ext q1;refine j2y U hM.c underlying135 U (z1i (m:=0) (c:=(crM m.cr).length) (cx0) U v7b v3b U (λm7 w2 m0 ho q2 z2=>(asg U (kpL [(0,_),(2,_),(3,_)] (.c3 U U U) (nn (sq (sr (mv U (nlc U (fad U y2l ?_))))))))));replace D:=D.ext q2;refine z0g U D U v0c ?_;replace hM:=a2.ext (q1.n1 q2);refine v9h U hM.c underlying135 U (λk0 w3 m1 a1 q3 z3=>(nn (bl ?_)));replace ho:=ho.ext q3;refine lpK (ι:=Value×List Cx×List Cx) [(0,_),(2,_),(19,_)] (λp=>[(3,p.1)]) (λp w'=>Fr [] w1 w'/\(p.2.1++p.2.2).Perm m.cr/\Lw.Own z4q 109 w1.heap.size w' p.1 p.2.1/\CrIt w' k0 ka.gc (crM m.cr) p.2.2 none) (λp=>p.2.2.length) (_,[],m.cr) (.c4 U U U U) ⟨(q2.n1 q3),⟨List.Perm.refl _,ho.low (by omega),a1⟩⟩ ?_;rintro⟨vP,a5,rem⟩ w4 ⟨q4,⟨f0,ho,a1⟩⟩;simp only at f0 ho a1;have z4:=q4.size;refine kpC [(0,_),(2,_),(19,_),(3,vP)] (.c4 U U U U) ?_;have f7:=a1.neO ho;have k3:=a1.lt;have k7:=f0.length_eq;rw[List.length_append]at k7;refine sr (u6y U a1 U (λl1 c l2 g3 w5 a1 q5 z5=>?_) (λg3=>?_));refine xt U (nn (sq (ct U ?_)));have i9:((a5++[c])++(l1++l2)).Perm m.cr:=by
  rw[g3]at f0;refine List.Perm.trans ?_ f0;rw[List.append_assoc];exact List.Perm.append_left _ (show (c::(l1++l2)).Perm (l1++c::l2) from List.perm_middle.symm)
 refine sk (tn (bl (sr (u1s U a1 U (xt U (xt U (al j3r U (λg4 w6 n9 f9 q6 z6=>(z0j (vs:=[_,_,_,_]) U f9 u9y (λw7 f9 q7 z7=>?_))))))))));refine asg U (nn (rg (mv U (y2v U U underlying138 y0b (z1v (vs:=[_,_]) U f9 z3j U (y2v U U underlying138 y0b (z1v (vs:=[_,_]) U f9 z3j U (mv U (z1t (cs:=[_,_,_,_,_]) (ev3 U) j6f (z0h U (z0h U (z0h U z0q))) U ?_)))))))));refine z2e ([c]) (ev1 U) U v7b (λm8 w8 m2 i7 q8 z8=>?_);replace a1:=((a1.ext q6).fr q7 (by intro k D;simp at D;subst D;exact⟨by omega,by omega⟩)).ext q8;replace ho:=(((ho.fr q5 (by intro k D I;simp at D;subst D;first|exact(f7 _ I).2 U|(have:=ho.blk _ I;omega))).ext q6).fr q7 (by intro k D I;simp at D;subst D;first|exact(f7 _ I).2 U|(have:=ho.blk _ I;omega))).ext q8;have f8:=ho;refine z2g U ho i7.sl v7b (by unfold maxLen;simp only[List.length_cons,List.length_nil];omega) (by simp only[List.length_cons,List.length_nil];omega) (λo3 w9 ho q9 k6=>?_);have z9:=q9.size;replace a1:=a1.fr q9 (a1.neO f8);refine asg U (kpL [(0,_),(2,_),(3,_),(19,_)] (.c4 U U U U) (nl (bn' ?_)));exact lpE ((_,a5++[c],l1++l2)) (.c4 U U U U) ⟨((q4.z4 q5 q6 q7 q8).step q9 (λk D f5=>absurd (f8.blk k D).1 (by omega))),⟨i9,ho,a1.no⟩⟩ (by simp only[g3,List.length_append,List.length_cons];omega);refine xt U (nn (sq (cf U ?_)));rw[g3,List.append_nil]at f0;have k5:(a5.map λc=>(c.a,c.b)).Nodup:=(f0.map _).nodup_iff.2 (by have x:=i1.c.nodup;rwa [y8w]at x);have g5:z9y a5=z9y m.cr:=x5l (by have x:=i1.c.nodup;rwa [y8w]at x) ((z2v a5).trans f0) (y3m a5);refine ex (te (te (xh (tn (sr (mv U ?_))))));have i8:=ho;replace M:=M.ext q4;refine cl (ev2 U) (mkC func72) (j5e ho (by omega) k5) U ?_;rintro _ k9 ⟨rfl,ho,h7⟩;replace M:=M.fr h7 (λD=>by have:=(i8.blk _ D).1;omega);have p8:=h7.size;replace hM:=a2.ext ((q1.n1 q4).step h7 (λk D f5=>absurd (i8.blk k D).1 (by omega)));have D:=hM.k;refine nn (sq (sr (mv U (nlc U (fad U y1k (z0g U D U y6m (lnS U underlying35 (mv U (nn (bl ?_))))))))));refine lpK (ι:=Nat×List TQ) [(0,_),(2,_),(3,_),(39,_),(40,_)] (λp=>[(41,.int .i64 (p.1:Int))]) (λp w'=>Fr [ka.gt] k9 w'/\p.1<=6/\(∀j,(p.2.getD j tq0).2=(m.ts.getD j tq0).2)/\MkM τd 137 wS ka w' { m with ts:=p.2 }) (λp=>6-p.1) (0,m.ts) (.c6 U U U U U U) ⟨Fr.refl _ _,⟨Nat.zero_le _,λ_=>rfl,hM⟩⟩ ?_;rintro⟨i,ts⟩ o4 ⟨g7,⟨k4,d9,hM⟩⟩;simp only at k4 d9 hM;have p9:=g7.size;have a2:=hM;refine kpC [(0,_),(2,_),(3,_),(39,_),(40,_),(41,.int .i64 (i:Int))] (.c6 U U U U U U) ?_;have D:=hM.k;have g6:ts.length=6:=hM.lt;have m6:=hM.lt;refine sr (lt' U (nn (sq (cd U (λc1=>?_) (λc1=>?_)))));refine sk (tn (sq (bl (sr (mv U (z0y (tq0) U hM.t.out.sl U y3d z1e (λl9 i2=>?_)))))));refine z1g U (i2 _ hM.t.out.sl) x0m (asg U (asg U (nn ?_)));intro a h;refine z0i (some 7) (λwb w'=>Fr [] wb w') z2r ?_;intro j1 g8;have q0:=g8.size;replace hM:=hM.ext g8;replace D:=D.ext g8;have hC:Fr [] j1 j1:=Fr.refl _ _;have b5:=hM;have J:=D;refine z0e 0 h U λa h=>z0o 1 h U λa h=>z0c 2 h U y1k U λa h=>z0k 3 h U (λ_ hw=>J.ext hw) U y6m U λa h=>z0e 4 h U λa h=>z0e 5 h U λa h=>z0d 6 U ?_;refine z0m h (z0a U z0f) (mkC func75) (v4l _ (ts.getD i tq0).2 _ (hM.t.ins i (by rw[hM.lt];omega)).sl (by rw[d9 i];have:=k8 i;omega)) ?_;rintro _ o5 ⟨i0,rfl,m3,hX,g9⟩ a h;have r4:=g9.size;replace hM:=hM.ext g9;replace hC:=hC.next g9;have i5:∀j,j<6->∀b∈z0v (slv (ts.getD j tq0).1),b∉z0v (slv (((some ⟨i0,0,none⟩,(ts.getD i tq0).2.length,(ts.getD i tq0).2.length)):SV)):=λj hj b I k1=>by have:=((a2.t.ins j (by rw[a2.lt];omega)).blk b I).2;simp[z0v,slv]at k1;omega
 refine z0b ?_;refine z0d 7 U ?_;refine y5o (p:=i) (i:=(i:Int)) (m:=6) (E:=z3l) h U U y3d (by omega) (by omega) (by omega) U λa h=>?_;refine z0b ?_;refine z0d 8 U ?_;refine z1b (i:=i) (((some ⟨i0,0,none⟩,(ts.getD i tq0).2.length,(ts.getD i tq0).2.length),(ts.getD i tq0).2):TQ) h U hM.t.out (by rw[hM.lt];omega) U j5i λo6 h3 h8 _hz a h=>?_;replace hM:=hM.tabh mtd (by omega) (hX.low (by omega)) i5 h3 h8;have a2:=hM;clear h3;have r5:=h8.size;clear _hz;refine z1p ?_;refine z0r ?_;clear hC b5 J;refine bk (h.sub (L':=[(0,_),(2,_),(3,_),(39,_),(40,_),(41,_)]) (.c6 U U U U U U)) (bn' (tn (rg (z0w U (wi6 (by omega)) (mv U (nl ?_))))));exact lpE ((i+1,_)) (.c6 U U U U U U) ⟨((Fr.refl [ka.gt] _).z4 g7 g8 g9 h8),⟨by simp only;omega,λj=>by
  simp only;rw[z1j (by omega)];split;rename_i e;subst e;exact d9 _;exact d9 j,hM⟩⟩ (by simp only;omega)
 obtain rfl:i=6:=by omega
 refine ex (te (te (xh (tn (sr (mv U (nlc U (fad U y2f (z0g U D U z4x ?_)))))))));replace ho:=ho.fr g7 (by intro k D I;simp at D;subst D;have:=ho.blk _ I;omega);replace M:=M.fr g7;refine cl (z0a U (z0a U z0f)) (mkC func76) (j2a hM.f (by show m.fl.length<_;omega)) U ?_;rintro _ o7 ⟨rfl,k2,g1⟩;have r6:=g1.size;replace hM:=hM.fallS mtd (by decide) k2 g1;have a2:=hM;have D:=hM.k;replace ho:=ho.fr g1 (λk D I=>by have:=i3 k D;have:=(ho.blk k I).1;omega);have g0:=λk D=>(ho.blk k D).2;replace M:=M.fr g1 (λD=>by have:=i3 _ D;omega);have f3:=M;refine kpL [(0,_),(2,_),(3,_)] (.c3 U U U) (nn (sq ?_));intro a h;refine z0i none (λwb w'=>Fr [] wb w') z2r ?_;intro h9 a9;have r7:=a9.size;replace hM:=hM.ext a9;replace D:=D.ext a9;replace ho:=ho.ext a9;have hC:Fr [] h9 h9:=Fr.refl _ _;have b5:=hM;have J:=D;have f4:=ho;refine z0e 0 h U λa h=>z0o 1 h U λa h=>z0c 2 h U y1k U λa h=>z0k 3 h U (λ_ hw=>J.ext hw) U y6m U λa h=>z0e 4 h U λa h=>z0e 6 h U λa h=>z0o 7 h U λa h=>z0c 8 h U z3e U λa h=>z1d (vs:=[_,_]) 9 h U (λ_ hw=>(J.ext hw)) z5q U U λa h=>z0e 10 h U λa h=>z0o 11 h U λa h=>?_;refine z0c 12 h U z3r U λa h=>z0k 13 h U (λ_ hw=>J.ext hw) U na3 U λa h=>z0e 15 h U λa h=>z0o 16 h U λa h=>z0c 17 h U y2f U λa h=>z0k 18 h U (λ_ hw=>J.ext hw) U z4x U λa h=>z2d 5 21 (by kernel_rfl) U ?_ ?_;refine z0m h (z0a U z0f) (mkC func77) (v3z _ (z9y a5) _ ho.sl (by rw[(z2v a5).length_eq];omega)) ?_;rintro _ l0 ⟨e7,rfl,i4,Z,b4⟩ a h;have r8:=b4.size;replace hM:=hM.ext b4;replace D:=D.ext b4;replace ho:=ho.ext b4;replace hC:=hC.next b4;have h5:=(Z.blk e7 (by simp[z0v])).2;refine z0b ?_;refine z2d 14 21 (by kernel_rfl) U ?_ ?_;refine z0m h (z0a U (z0a U z0f)) (mkC func47) (y3u m.q m.rk _ hM.b.at hi.B hi.rk) ?_;rintro _ l3 ⟨⟨a8,j0,h2,rfl,h0,hH⟩,q18⟩ a h;have r9:=q18.size;replace hM:=hM.ext q18;replace D:=D.ext q18;replace ho:=ho.ext q18;replace Z:=Z.ext q18;replace hC:=hC.next q18;have h1:=(hH.blk a8 (by simp[z0v])).2;refine z0b ?_;refine z2d 19 21 (by kernel_rfl) U ?_ ?_;refine z0m h (z0a U z0f) x2q (z3q _ (z8q m.fl) _ hM.f.sl (by rw[(z3f _).length_eq];omega)) ?_;rintro _ l4 ⟨a6,rfl,f6,a0,e0⟩ a h;have s1:=e0.size;replace D:=D.ext e0;replace hC:=hC.next e0;have e9:=(a0.blk a6 (by simp[z0v])).2;refine z0b ?_;refine z2y (cs:=[_,_,_,_]) 20 h (z0a U (z0a U (z0a U (z0a U z0f)))) j0w (z0h U (z0h U (z0h U (z0h U z0q)))) U U λa h=>z0d 21 U ?_;refine z1c h v7g U λo8 O b6 hz a h=>?_;obtain⟨b0,hg⟩:∃g,g=l4.heap.size:=⟨_,rfl⟩;rw[<-hg]at O h hz;have h6.gk_8:ka.gk<b0:=by have:=D.lt;omega
 have s2:=b6.size;replace D:=D.ext b6;replace ho:=ho.ext (e0.n1 b6);replace Z:=Z.ext (e0.n1 b6);replace hH:=hH.ext (e0.n1 b6);replace a0:=a0.ext b6;replace hC:=hC.next b6;refine z0b ?_;refine z0d 22 U ?_;refine z0u h U O U v7m λl5 a4 b7 hz a h=>?_;have s3:=b7.size;replace D:=D.fr b7;replace ho:=ho.fr b7 (by intro k D I;simp at D;subst D;have:=g0 _ I;omega);replace Z:=Z.fr b7 (by intro k D I;simp[z0v]at D I;omega);replace hH:=hH.fr b7 (by intro k D I;simp[z0v]at D I;omega);replace a0:=a0.fr b7 (by intro k D I;simp[z0v]at D I;omega);replace hC:=hC.sp b7;clear O hz;have O:Blk l5 b0 _ [_,_,_,_]:=a4;clear a4;refine z0b ?_;refine z0r ?_;clear hC b5 J f4;refine bk (h.sub (L':=[(0,_),(2,_),(8,_)]) (.c3 U U U)) (tn (sq ?_));replace M:=(M.ext (a9.n4 b4 q18 e0 b6)).fr b7;intro a h;refine z0i none (λwb w'=>Fr [g2] wb w') z2r ?_;intro j2 e1;have s4:=e1.size;replace D:=D.ext e1;replace M:=M.ext e1;replace O:=O.ext e1;have hC:Fr [g2] j2 j2:=Fr.refl _ _;have J:=D;have a7:=M;have a3:=O;refine z0e 0 h U λa h=>z0o 1 h U λa h=>z0c 2 h U z3r U λa h=>z0k 3 h U (λ_ hw=>J.fr hw (by simp<;>omega)) U na3 U λa h=>z0e 4 h U λa h=>z0o 5 h U λa h=>z0c 6 h U z3e U λa h=>z1d (vs:=[_,_]) 7 h U (λ_ hw=>(J.fr hw (by simp<;>omega))) z5q U U λa h=>z0e 8 h U λa h=>z0o 9 h U λa h=>z0c 10 h U z3a U λa h=>?_;refine z0k 11 h U (λ_ hw=>J.fr hw (by simp<;>omega)) U z9x U λa h=>z0z 12 h U (λ_ hw=>a3.fr hw (by simp<;>omega)) x3w U λa h=>z2y (cs:=[_,_,_,_,_,_,_,_]) 13 h (z0a U (z0a U (z0a U (z0a U z0f)))) v0b (z0h U (z0h U (z0h U (z0h U z0q)))) U U λa h=>z0d 14 U ?_;refine z0u h U M U y1d λj3 a4 b8 hz a h=>?_;have s5:=b8.size;replace D:=D.fr b8;replace O:=O.fr b8;replace hC:=hC.sp b8;clear M hz;have M:Blk j3 g2 _ [_,_,_,_,_,_,_,_]:=a4;clear a4;refine z0b ?_;refine z0r ?_;clear hC J a7 a3;refine bk (h.sub (L':=[(2,_)]) (.cons U .nil)) (tn (rt (rC results28 U M z9t  ?_)));replace Z:=(Z.ext e1).fr b8 (by intro k D I;simp[z0v]at D I;omega);replace hH:=(hH.ext e1).fr b8 (by intro k D I;simp[z0v]at D I;omega);replace a0:=(a0.ext e1).fr b8 (by intro k D I;simp[z0v]at D I;omega);have b1:=(a9.z6 b4 q18 e0 b6 b7 e1);have b2:Fr [] _ j3:=(Fr.refl _ _);have b3:=a2.ext b1;have hW:=(b3.toW.off (f3.ext b1) (by decide) b8).ext b2;have e8:=(b3.fr.fr.step b8 (by simp;omega)).next b2;have f1:z1w ts=z1w m.ts:=y4w (g6.trans f5.symm) (λj _=>by rw[d9 j]);exact⟨_,rfl,⟨m.rk,m.q,(some ⟨ka.gy,0,none⟩,6,ka.cy),m.ys,⟨(some ⟨ka.gt,0,none⟩,6,ka.ct),(some ⟨e7,0,none⟩,_,_),(some ⟨a8,0,none⟩,_,_),(some ⟨a6,0,none⟩,_,_),ts,z9y a5,_,z8q m.fl⟩⟩,rfl,⟨hW.b,hW.y,hW.t,Z.low (by omega),hH.low (by omega),a0.low (by omega),(λk D=>by
  have h4:k=a8:=by simpa[z0v,slv] using D
  refine⟨λq hq I=>?_,λt ht l hl I=>?_,λI=>?_⟩;rcases List.mem_append.1 hq with hq|hq
  have:=((a2.b.f.2 q hq).blk _ I).2;omega;have:=((a2.b.b.2 q hq).blk _ I).2;omega;obtain⟨i,hi,rfl⟩:=List.getElem_of_mem ht;have e:ts.getD i tq0=ts[i]:=by rw[List.getD,List.getElem?_eq_getElem hi];rfl
  rw[<-e]at hl;have:=((a2.t.lps i hi l hl).1.blk _ I).2;omega;have:k=a6:=by simpa[z0v,slv] using I
  omega)⟩,by show (⟨m.rk,m.q.p,m.ys.map YQ.p,⟨z1w ts,z9y a5,(z2q m.q.p m.rk).map Hd.id,z8q m.fl⟩⟩:St)=_;rw[f1,g5];rfl,e8⟩
 refine z1c h v7g U λo9 O b9 hz a h=>?_;obtain⟨b0,hg⟩:∃g,g=l3.heap.size:=⟨_,rfl⟩;rw[<-hg]at O h hz;have h6.gk_8:ka.gk<b0:=by have:=D.lt;omega
 have s6:=b9.size;replace hM:=hM.ext b9;replace hC:=hC.next b9;refine z0b ?_;refine z0d 19 U ?_;refine z0m h (z0a U z0f) x2q (z3q _ (z8q m.fl) _ hM.f.sl (by rw[(z3f _).length_eq];omega)) ?_;rintro _ p0 ⟨a6,rfl,f6,a0,c0⟩ a h;have s7:=c0.size;replace D:=D.ext (b9.n1 c0);replace ho:=ho.ext (b9.n1 c0);replace Z:=Z.ext (b9.n1 c0);replace hH:=hH.ext (b9.n1 c0);replace O:=O.ext c0;replace hC:=hC.next c0;have e9:=(a0.blk a6 (by simp[z0v])).2;refine z0b ?_;refine z2y (cs:=[_,_,_,_]) 20 h (z0a U (z0a U (z0a U (z0a U z0f)))) j0w (z0h U (z0h U (z0h U (z0h U z0q)))) U U λa h=>z0d 22 U ?_;refine z0u h U O U v7m λl6 a4 c9 hz a h=>?_;have s8:=c9.size;replace D:=D.fr c9;replace ho:=ho.fr c9 (by intro k D I;simp at D;subst D;have:=g0 _ I;omega);replace Z:=Z.fr c9 (by intro k D I;simp[z0v]at D I;omega);replace hH:=hH.fr c9 (by intro k D I;simp[z0v]at D I;omega);replace a0:=a0.fr c9 (by intro k D I;simp[z0v]at D I;omega);replace hC:=hC.sp c9;clear O hz;have O:Blk l6 b0 _ [_,_,_,_]:=a4;clear a4;refine z0b ?_;refine z0r ?_;clear hC b5 J f4;refine bk (h.sub (L':=[(0,_),(2,_),(8,_)]) (.c3 U U U)) (tn (sq ?_));replace M:=(M.ext (a9.n4 b4 q18 b9 c0)).fr c9;intro a h;refine z0i none (λwb w'=>Fr [g2] wb w') z2r ?_;intro j4 e2;have s9:=e2.size;replace D:=D.ext e2;replace M:=M.ext e2;replace O:=O.ext e2;have hC:Fr [g2] j4 j4:=Fr.refl _ _;have J:=D;have a7:=M;have a3:=O;refine z0e 0 h U λa h=>z0o 1 h U λa h=>z0c 2 h U z3r U λa h=>z0k 3 h U (λ_ hw=>J.fr hw (by simp<;>omega)) U na3 U λa h=>z0e 4 h U λa h=>z0o 5 h U λa h=>z0c 6 h U z3e U λa h=>z1d (vs:=[_,_]) 7 h U (λ_ hw=>(J.fr hw (by simp<;>omega))) z5q U U λa h=>z0e 8 h U λa h=>z0o 9 h U λa h=>z0c 10 h U z3a U λa h=>?_;refine z0k 11 h U (λ_ hw=>J.fr hw (by simp<;>omega)) U z9x U λa h=>z0z 12 h U (λ_ hw=>a3.fr hw (by simp<;>omega)) x3w U λa h=>z2y (cs:=[_,_,_,_,_,_,_,_]) 13 h (z0a U (z0a U (z0a U (z0a U z0f)))) v0b (z0h U (z0h U (z0h U (z0h U z0q)))) U U λa h=>z0d 14 U ?_;refine z0u h U M U y1d λj5 a4 d0 hz a h=>?_;have t8:=d0.size;replace D:=D.fr d0;replace O:=O.fr d0;replace hC:=hC.sp d0;clear M hz;have M:Blk j5 g2 _ [_,_,_,_,_,_,_,_]:=a4;clear a4;refine z0b ?_;refine z0r ?_;clear hC J a7 a3;refine bk (h.sub (L':=[(2,_)]) (.cons U .nil)) (tn (rt (rC results28 U M z9t  ?_)));replace Z:=(Z.ext e2).fr d0 (by intro k D I;simp[z0v]at D I;omega);replace hH:=(hH.ext e2).fr d0 (by intro k D I;simp[z0v]at D I;omega);replace a0:=(a0.ext e2).fr d0 (by intro k D I;simp[z0v]at D I;omega);have b1:=(a9.z6 b4 q18 b9 c0 c9 e2);have b2:Fr [] _ j5:=(Fr.refl _ _);have b3:=a2.ext b1;have hW:=(b3.toW.off (f3.ext b1) (by decide) d0).ext b2;have e8:=(b3.fr.fr.step d0 (by simp;omega)).next b2;have f1:z1w ts=z1w m.ts:=y4w (g6.trans f5.symm) (λj _=>by rw[d9 j]);exact⟨_,rfl,⟨m.rk,m.q,(some ⟨ka.gy,0,none⟩,6,ka.cy),m.ys,⟨(some ⟨ka.gt,0,none⟩,6,ka.ct),(some ⟨e7,0,none⟩,_,_),(some ⟨a8,0,none⟩,_,_),(some ⟨a6,0,none⟩,_,_),ts,z9y a5,_,z8q m.fl⟩⟩,rfl,⟨hW.b,hW.y,hW.t,Z.low (by omega),hH.low (by omega),a0.low (by omega),(λk D=>by
  have h4:k=a8:=by simpa[z0v,slv] using D
  refine⟨λq hq I=>?_,λt ht l hl I=>?_,λI=>?_⟩;rcases List.mem_append.1 hq with hq|hq
  have:=((a2.b.f.2 q hq).blk _ I).2;omega;have:=((a2.b.b.2 q hq).blk _ I).2;omega;obtain⟨i,hi,rfl⟩:=List.getElem_of_mem ht;have e:ts.getD i tq0=ts[i]:=by rw[List.getD,List.getElem?_eq_getElem hi];rfl
  rw[<-e]at hl;have:=((a2.t.lps i hi l hl).1.blk _ I).2;omega;have:k=a6:=by simpa[z0v,slv] using I
  omega)⟩,by show (⟨m.rk,m.q.p,m.ys.map YQ.p,⟨z1w ts,z9y a5,(z2q m.q.p m.rk).map Hd.id,z8q m.fl⟩⟩:St)=_;rw[f1,g5];rfl,e8⟩
 refine z1c h v7g U λp1 O e3 hz a h=>?_;obtain⟨b0,hg⟩:∃g,g=l0.heap.size:=⟨_,rfl⟩;rw[<-hg]at O h hz;have h6.gk_8:ka.gk<b0:=by have:=D.lt;omega
 have t9:=e3.size;replace hM:=hM.ext e3;replace hC:=hC.next e3;refine z0b ?_;refine z0d 14 U ?_;refine z0m h (z0a U (z0a U z0f)) (mkC func47) (y3u m.q m.rk _ hM.b.at hi.B hi.rk) ?_;rintro _ p2 ⟨⟨a8,j0,h2,rfl,h0,hH⟩,q30⟩ a h;have u0:=q30.size;replace hM:=hM.ext q30;replace hC:=hC.next q30;have h1:=(hH.blk a8 (by simp[z0v])).2;refine z0b ?_;refine z0d 19 U ?_;refine z0m h (z0a U z0f) x2q (z3q _ (z8q m.fl) _ hM.f.sl (by rw[(z3f _).length_eq];omega)) ?_;rintro _ p3 ⟨a6,rfl,f6,a0,d1⟩ a h;have u1:=d1.size;replace D:=D.ext (e3.n2 q30 d1);replace ho:=ho.ext (e3.n2 q30 d1);replace Z:=Z.ext (e3.n2 q30 d1);replace O:=O.ext (q30.n1 d1);replace hH:=hH.ext d1;replace hC:=hC.next d1;have e9:=(a0.blk a6 (by simp[z0v])).2;refine z0b ?_;refine z2y (cs:=[_,_,_,_]) 20 h (z0a U (z0a U (z0a U (z0a U z0f)))) j0w (z0h U (z0h U (z0h U (z0h U z0q)))) U U λa h=>z0d 22 U ?_;refine z0u h U O U v7m λl7 a4 d3 hz a h=>?_;have u2:=d3.size;replace D:=D.fr d3;replace ho:=ho.fr d3 (by intro k D I;simp at D;subst D;have:=g0 _ I;omega);replace Z:=Z.fr d3 (by intro k D I;simp[z0v]at D I;omega);replace hH:=hH.fr d3 (by intro k D I;simp[z0v]at D I;omega);replace a0:=a0.fr d3 (by intro k D I;simp[z0v]at D I;omega);replace hC:=hC.sp d3;clear O hz;have O:Blk l7 b0 _ [_,_,_,_]:=a4;clear a4;refine z0b ?_;refine z0r ?_;clear hC b5 J f4;refine bk (h.sub (L':=[(0,_),(2,_),(8,_)]) (.c3 U U U)) (tn (sq ?_));replace M:=(M.ext (a9.n4 b4 e3 q30 d1)).fr d3;intro a h;refine z0i none (λwb w'=>Fr [g2] wb w') z2r ?_;intro j6 e4;have u3:=e4.size;replace D:=D.ext e4;replace M:=M.ext e4;replace O:=O.ext e4;have hC:Fr [g2] j6 j6:=Fr.refl _ _;have J:=D;have a7:=M;have a3:=O;refine z0e 0 h U λa h=>z0o 1 h U λa h=>z0c 2 h U z3r U λa h=>z0k 3 h U (λ_ hw=>J.fr hw (by simp<;>omega)) U na3 U λa h=>z0e 4 h U λa h=>z0o 5 h U λa h=>z0c 6 h U z3e U λa h=>z1d (vs:=[_,_]) 7 h U (λ_ hw=>(J.fr hw (by simp<;>omega))) z5q U U λa h=>z0e 8 h U λa h=>z0o 9 h U λa h=>z0c 10 h U z3a U λa h=>?_;refine z0k 11 h U (λ_ hw=>J.fr hw (by simp<;>omega)) U z9x U λa h=>z0z 12 h U (λ_ hw=>a3.fr hw (by simp<;>omega)) x3w U λa h=>z2y (cs:=[_,_,_,_,_,_,_,_]) 13 h (z0a U (z0a U (z0a U (z0a U z0f)))) v0b (z0h U (z0h U (z0h U (z0h U z0q)))) U U λa h=>z0d 14 U ?_;refine z0u h U M U y1d λj7 a4 d4 hz a h=>?_;have u4:=d4.size;replace D:=D.fr d4;replace O:=O.fr d4;replace hC:=hC.sp d4;clear M hz;have M:Blk j7 g2 _ [_,_,_,_,_,_,_,_]:=a4;clear a4;refine z0b ?_;refine z0r ?_;clear hC J a7 a3;refine bk (h.sub (L':=[(2,_)]) (.cons U .nil)) (tn (rt (rC results28 U M z9t  ?_)));replace Z:=(Z.ext e4).fr d4 (by intro k D I;simp[z0v]at D I;omega);replace hH:=(hH.ext e4).fr d4 (by intro k D I;simp[z0v]at D I;omega);replace a0:=(a0.ext e4).fr d4 (by intro k D I;simp[z0v]at D I;omega);have b1:=(a9.z6 b4 e3 q30 d1 d3 e4);have b2:Fr [] _ j7:=(Fr.refl _ _);have b3:=a2.ext b1;have hW:=(b3.toW.off (f3.ext b1) (by decide) d4).ext b2;have e8:=(b3.fr.fr.step d4 (by simp;omega)).next b2;have f1:z1w ts=z1w m.ts:=y4w (g6.trans f5.symm) (λj _=>by rw[d9 j]);exact⟨_,rfl,⟨m.rk,m.q,(some ⟨ka.gy,0,none⟩,6,ka.cy),m.ys,⟨(some ⟨ka.gt,0,none⟩,6,ka.ct),(some ⟨e7,0,none⟩,_,_),(some ⟨a8,0,none⟩,_,_),(some ⟨a6,0,none⟩,_,_),ts,z9y a5,_,z8q m.fl⟩⟩,rfl,⟨hW.b,hW.y,hW.t,Z.low (by omega),hH.low (by omega),a0.low (by omega),(λk D=>by
  have h4:k=a8:=by simpa[z0v,slv] using D
  refine⟨λq hq I=>?_,λt ht l hl I=>?_,λI=>?_⟩;rcases List.mem_append.1 hq with hq|hq
  have:=((a2.b.f.2 q hq).blk _ I).2;omega;have:=((a2.b.b.2 q hq).blk _ I).2;omega;obtain⟨i,hi,rfl⟩:=List.getElem_of_mem ht;have e:ts.getD i tq0=ts[i]:=by rw[List.getD,List.getElem?_eq_getElem hi];rfl
  rw[<-e]at hl;have:=((a2.t.lps i hi l hl).1.blk _ I).2;omega;have:k=a6:=by simpa[z0v,slv] using I
  omega)⟩,by show (⟨m.rk,m.q.p,m.ys.map YQ.p,⟨z1w ts,z9y a5,(z2q m.q.p m.rk).map Hd.id,z8q m.fl⟩⟩:St)=_;rw[f1,g5];rfl,e8⟩
 refine z1c h v7g U λp4 O f2 hz a h=>?_;obtain⟨b0,hg⟩:∃g,g=h9.heap.size:=⟨_,rfl⟩;rw[<-hg]at O h hz;have h6.gk_8:ka.gk<b0:=by have:=D.lt;omega
 have u5:=f2.size;replace ho:=ho.ext f2;replace hC:=hC.next f2;refine z0b ?_;refine z0d 5 U ?_;refine z0m h (z0a U z0f) (mkC func77) (v3z _ (z9y a5) _ ho.sl (by rw[(z2v a5).length_eq];omega)) ?_;rintro _ p5 ⟨e7,rfl,i4,Z,e5⟩ a h;have u6:=e5.size;replace hM:=hM.ext (f2.n1 e5);replace hC:=hC.next e5;have h5:=(Z.blk e7 (by simp[z0v])).2;refine z0b ?_;refine z0d 14 U ?_;refine z0m h (z0a U (z0a U z0f)) (mkC func47) (y3u m.q m.rk _ hM.b.at hi.B hi.rk) ?_;rintro _ p6 ⟨⟨a8,j0,h2,rfl,h0,hH⟩,q37⟩ a h;have u7:=q37.size;replace hM:=hM.ext q37;replace hC:=hC.next q37;have h1:=(hH.blk a8 (by simp[z0v])).2;refine z0b ?_;refine z0d 19 U ?_;refine z0m h (z0a U z0f) x2q (z3q _ (z8q m.fl) _ hM.f.sl (by rw[(z3f _).length_eq];omega)) ?_;rintro _ p7 ⟨a6,rfl,f6,a0,d5⟩ a h;have u9:=d5.size;replace D:=D.ext (f2.n3 e5 q37 d5);replace ho:=ho.ext (e5.n2 q37 d5);replace O:=O.ext (e5.n2 q37 d5);replace Z:=Z.ext (q37.n1 d5);replace hH:=hH.ext d5;replace hC:=hC.next d5;have e9:=(a0.blk a6 (by simp[z0v])).2;refine z0b ?_;refine z2y (cs:=[_,_,_,_]) 20 h (z0a U (z0a U (z0a U (z0a U z0f)))) j0w (z0h U (z0h U (z0h U (z0h U z0q)))) U U λa h=>z0d 22 U ?_;refine z0u h U O U v7m λl8 a4 d6 hz a h=>?_;have v8:=d6.size;replace D:=D.fr d6;replace ho:=ho.fr d6 (by intro k D I;simp at D;subst D;have:=g0 _ I;omega);replace Z:=Z.fr d6 (by intro k D I;simp[z0v]at D I;omega);replace hH:=hH.fr d6 (by intro k D I;simp[z0v]at D I;omega);replace a0:=a0.fr d6 (by intro k D I;simp[z0v]at D I;omega);replace hC:=hC.sp d6;clear O hz;have O:Blk l8 b0 _ [_,_,_,_]:=a4;clear a4;refine z0b ?_;refine z0r ?_;clear hC b5 J f4;refine bk (h.sub (L':=[(0,_),(2,_),(8,_)]) (.c3 U U U)) (tn (sq ?_));replace M:=(M.ext (a9.n4 f2 e5 q37 d5)).fr d6;intro a h;refine z0i none (λwb w'=>Fr [g2] wb w') z2r ?_;intro j8 e6;have v9:=e6.size;replace D:=D.ext e6;replace M:=M.ext e6;replace O:=O.ext e6;have hC:Fr [g2] j8 j8:=Fr.refl _ _;have J:=D;have a7:=M;have a3:=O;refine z0e 0 h U λa h=>z0o 1 h U λa h=>z0c 2 h U z3r U λa h=>z0k 3 h U (λ_ hw=>J.fr hw (by simp<;>omega)) U na3 U λa h=>z0e 4 h U λa h=>z0o 5 h U λa h=>z0c 6 h U z3e U λa h=>z1d (vs:=[_,_]) 7 h U (λ_ hw=>(J.fr hw (by simp<;>omega))) z5q U U λa h=>z0e 8 h U λa h=>z0o 9 h U λa h=>z0c 10 h U z3a U λa h=>?_;refine z0k 11 h U (λ_ hw=>J.fr hw (by simp<;>omega)) U z9x U λa h=>z0z 12 h U (λ_ hw=>a3.fr hw (by simp<;>omega)) x3w U λa h=>z2y (cs:=[_,_,_,_,_,_,_,_]) 13 h (z0a U (z0a U (z0a U (z0a U z0f)))) v0b (z0h U (z0h U (z0h U (z0h U z0q)))) U U λa h=>z0d 14 U ?_;refine z0u h U M U y1d λj9 a4 d7 hz a h=>?_;have x0:=d7.size;replace D:=D.fr d7;replace O:=O.fr d7;replace hC:=hC.sp d7;clear M hz;have M:Blk j9 g2 _ [_,_,_,_,_,_,_,_]:=a4;clear a4;refine z0b ?_;refine z0r ?_;clear hC J a7 a3;refine bk (h.sub (L':=[(2,_)]) (.cons U .nil)) (tn (rt (rC results28 U M z9t  ?_)));replace Z:=(Z.ext e6).fr d7 (by intro k D I;simp[z0v]at D I;omega);replace hH:=(hH.ext e6).fr d7 (by intro k D I;simp[z0v]at D I;omega);replace a0:=(a0.ext e6).fr d7 (by intro k D I;simp[z0v]at D I;omega);have b1:=(a9.z6 f2 e5 q37 d5 d6 e6);have b2:Fr [] _ j9:=(Fr.refl _ _);have b3:=a2.ext b1;have hW:=(b3.toW.off (f3.ext b1) (by decide) d7).ext b2;have e8:=(b3.fr.fr.step d7 (by simp;omega)).next b2;have f1:z1w ts=z1w m.ts:=y4w (g6.trans f5.symm) (λj _=>by rw[d9 j]);exact⟨_,rfl,⟨m.rk,m.q,(some ⟨ka.gy,0,none⟩,6,ka.cy),m.ys,⟨(some ⟨ka.gt,0,none⟩,6,ka.ct),(some ⟨e7,0,none⟩,_,_),(some ⟨a8,0,none⟩,_,_),(some ⟨a6,0,none⟩,_,_),ts,z9y a5,_,z8q m.fl⟩⟩,rfl,⟨hW.b,hW.y,hW.t,Z.low (by omega),hH.low (by omega),a0.low (by omega),(λk D=>by
  have h4:k=a8:=by simpa[z0v,slv] using D
  refine⟨λq hq I=>?_,λt ht l hl I=>?_,λI=>?_⟩;rcases List.mem_append.1 hq with hq|hq
  have:=((a2.b.f.2 q hq).blk _ I).2;omega;have:=((a2.b.b.2 q hq).blk _ I).2;omega;obtain⟨i,hi,rfl⟩:=List.getElem_of_mem ht;have e:ts.getD i tq0=ts[i]:=by rw[List.getD,List.getElem?_eq_getElem hi];rfl
  rw[<-e]at hl;have:=((a2.t.lps i hi l hl).1.blk _ I).2;omega;have:k=a6:=by simpa[z0v,slv] using I
  omega)⟩,by show (⟨m.rk,m.q.p,m.ys.map YQ.p,⟨z1w ts,z9y a5,(z2q m.q.p m.rk).map Hd.id,z8q m.fl⟩⟩:St)=_;rw[f1,g5];rfl,e8⟩
theorem v6w (w0:World):Rets prog 78 #[] w0 λr w'=>(∃g,r=(.slice (some ⟨g,0,none⟩) 6 6)/\w0.heap.size<=g/\Lw.Own z3l 46 w0.heap.size w' (.slice (some ⟨g,0,none⟩) 6 6) (List.replicate 6 tq0))/\Fr [] w0 w':=by
 refine we [] func78 U ntmps78 U .nil (sr (asg U (nn (sr (z1i (m:=6) (c:=6) (tq0) U y3d zv46 U (λD w1 I J M z1=>(asg U (nn (rt (r1 results78 U ?_))))))))));exact⟨_,rfl,⟨D,rfl,by omega,J.low (by omega)⟩,M⟩
theorem x2j (w0:World):Rets prog 29 #[] w0 λr w'=>(∃g,r=.agg #[(.slice (some ⟨g,0,none⟩) 6 6),.slice none 0 0,.slice none 0 0,.slice none 0 0]/\w0.heap.size<=g/\Lw.Own z3l 46 w0.heap.size w' (.slice (some ⟨g,0,none⟩) 6 6) (List.replicate 6 tq0))/\Fr [] w0 w':=by
 refine we [] func29 U ntmps29 U .nil (sr (al v7g U (λg0 w1 Z D q1 z1=>(nn (sr (cl z0f (mkC func78) (v6w _) U ?_))))));rintro _ w2 ⟨⟨M,rfl,a0,I⟩,q2⟩;refine z1t (cs:=[_,_,_,_]) (ev1 U) j0w (z0h U z0q) U ?_;replace D:=D.ext q2;refine z0j U D v7m (λw3 D J z3=>?_) (hl:=rfl);refine nn (rt (rC results29 U D x3w  ?_));replace I:=I.fr J (by intro k hk O;simp[z0v]at hk O;omega);exact⟨_,rfl,⟨M,rfl,by omega,I.low (by omega)⟩,(q1.z2 q2 J)⟩
abbrev st0 (gy gt:Nat):StQ:=(⟨0,⟨sv0,sv0,[],[]⟩,(some ⟨gy,0,none⟩,6,6),List.replicate 6 yq0,⟨(some ⟨gt,0,none⟩,6,6),sv0,sv0,sv0,List.replicate 6 tq0,[],[],[]⟩⟩:StQ)
theorem j5a {w:World}{J I b:Nat}(hy:Lw.Own z2j 82 b w (.slice (some ⟨J,0,none⟩) 6 6) (List.replicate 6 yq0))(ht:Lw.Own z3l 46 b w (.slice (some ⟨I,0,none⟩) 6 6) (List.replicate 6 tq0)):StO τd 109 b w (st0 J I):=by
 have Z:∀i,(st0 J I).ys.getD i yq0=yq0:=λi=>by
  show (List.replicate 6 yq0).getD i yq0=yq0;rw[List.getD,List.getElem?_replicate];split<;>rfl
 have O:∀i,(st0 J I).fb.ts.getD i tq0=tq0:=λi=>by
  show (List.replicate 6 tq0).getD i tq0=tq0;rw[List.getD,List.getElem?_replicate];split<;>rfl
 refine⟨⟨⟨Own.nil w,λq D=>(by cases D)⟩,⟨Own.nil w,λq D=>(by cases D)⟩⟩,⟨hy,λi _=>?_⟩,⟨ht,λi _=>?_,λi j _ _ _ k M=>?_,λi _ q D=>?_⟩,Own.nil w,Own.nil w,Own.nil w,λk M=>(by cases M)⟩;rw[Z i];exact Own.nil w;rw[O i];exact Own.nil w;rw[O i]at M;cases M;rw[O i]at D;cases D
theorem j5z (M J:Nat):(st0 M J).p=G08.stM G08.start:=by
 have D:z9y []=[]:=by unfold z9y;simp
 have I:z8q []=[]:=by unfold z8q;simp
 show _=(⟨0,⟨[],[]⟩,List.replicate 6 yn0,⟨List.replicate 6 [],z9y [],(z2q ⟨[],[]⟩ 0).map Hd.id,z8q []⟩⟩:St);rw[D,I];rfl
theorem j4i (J I:Nat):StSz (st0 J I):=by
 refine⟨Nat.zero_le _,Nat.zero_le _,λq D=>(by cases D),λq D=>(by cases D),rfl,rfl,λi=>?_,λp M=>?_,Nat.zero_le _,Nat.zero_le _,Nat.zero_le _⟩;have e:(st0 J I).ys.getD i yq0=yq0:=by
  show (List.replicate 6 yq0).getD i yq0=yq0;rw[List.getD,List.getElem?_replicate];split<;>rfl
 rw[e];exact Nat.zero_le _;rw[List.eq_of_mem_replicate M];exact⟨Nat.zero_le _,λq D=>by cases D⟩
theorem y1y (w0:World):Rets prog 10 #[] w0 λr w'=>(∃J I,r=.agg #[.int .i64 (st0 J I).rk,.slice (st0 J I).q.f.1 (st0 J I).q.f.2.1 (st0 J I).q.f.2.2,.slice (st0 J I).q.b.1 (st0 J I).q.b.2.1 (st0 J I).q.b.2.2,.slice (st0 J I).yv.1 (st0 J I).yv.2.1 (st0 J I).yv.2.2,.slice (st0 J I).fb.t.1 (st0 J I).fb.t.2.1 (st0 J I).fb.t.2.2,.slice (st0 J I).fb.c.1 (st0 J I).fb.c.2.1 (st0 J I).fb.c.2.2,.slice (st0 J I).fb.h.1 (st0 J I).fb.h.2.1 (st0 J I).fb.h.2.2,.slice (st0 J I).fb.f.1 (st0 J I).fb.f.2.1 (st0 J I).fb.f.2.2]/\StO τd 109 w0.heap.size w' (st0 J I))/\Fr [] w0 w':=by
 refine we [] func10 U ntmps10 U .nil (sr (al x3c U (λg0 w1 a4 D q1 z1=>(nn (sq ?_)))));intro a h;refine z0i none (λwb w'=>Fr [g0] wb w') z2r ?_;intro w2 q2;have z2:=q2.size;replace D:=D.ext q2;have hC:Fr [g0] w2 w2:=Fr.refl _ _;have M:=D;refine z2d 0 1 (by kernel_rfl) U ?_ ?_;refine z8w (m:=6) (c:=6) (yq0) h U U z9u y1j U (by omega) (by omega) U λg1 w3 a0 hy q3 _hz a h=>?_;have z3:=q3.size;replace hC:=hC.next q3;have a3:=(hy.blk g1 (by simp[z0v])).2;refine z0b ?_;refine z0d 1 U ?_;refine z0m h z0f (mkC func29) (x2j _) ?_;rintro _ w4 ⟨⟨g2,rfl,a1,Z⟩,q4⟩ a h;have z4:=q4.size;replace D:=D.ext (q3.n1 q4);replace hy:=hy.ext q4;replace hC:=hC.next q4;have a2:=(Z.blk g2 (by simp[z0v])).2;refine z0b ?_;refine z2y (cs:=[_,_,_,_,_,_,_,_]) 2 h (z0a U (z0a U z0f)) v0b (z0h U (z0h U z0q)) U U λa h=>z0d 3 U ?_;refine z0u h U D U y1d λw5 O q5 hz a h=>?_;have z5:=q5.size;replace hy:=hy.fr q5 (by intro k hk hb;simp[z0v]at hk hb;omega);replace Z:=Z.fr q5 (by intro k hk hb;simp[z0v]at hk hb;omega);replace hC:=hC.sp q5;clear D hz;have D:Blk w5 g0 _ [_,_,_,_,_,_,_,_]:=O;clear O;refine z0b ?_;refine z0r ?_;clear hC M;refine bk (h.sub (L':=[(0,_)]) (.cons U .nil)) (tn (rt (rC results10 U D z9t  ?_)));exact⟨_,rfl,⟨g1,g2,rfl,j5a (hy.low (by omega)) (Z.low (by omega))⟩,(q1.z4 q2 q3 q4 q5)⟩;refine z0m h z0f (mkC func29) (x2j _) ?_;rintro _ w6 ⟨⟨g2,rfl,a1,Z⟩,q6⟩ a h;have z6:=q6.size;replace hC:=hC.next q6;have a2:=(Z.blk g2 (by simp[z0v])).2;refine z0b ?_;refine z0d 0 U ?_;refine z8w (m:=6) (c:=6) (yq0) h U U z9u y1j U (by omega) (by omega) U λg1 w7 a0 hy q7 _hz a h=>?_;have z7:=q7.size;replace D:=D.ext (q6.n1 q7);replace Z:=Z.ext q7;replace hC:=hC.next q7;have a3:=(hy.blk g1 (by simp[z0v])).2;refine z0b ?_;refine z2y (cs:=[_,_,_,_,_,_,_,_]) 2 h (z0a U (z0a U z0f)) v0b (z0h U (z0h U z0q)) U U λa h=>z0d 3 U ?_;refine z0u h U D U y1d λw8 O q8 hz a h=>?_;have z8:=q8.size;replace Z:=Z.fr q8 (by intro k hk hb;simp[z0v]at hk hb;omega);replace hy:=hy.fr q8 (by intro k hk hb;simp[z0v]at hk hb;omega);replace hC:=hC.sp q8;clear D hz;have D:Blk w8 g0 _ [_,_,_,_,_,_,_,_]:=O;clear O;refine z0b ?_;refine z0r ?_;clear hC M;refine bk (h.sub (L':=[(0,_)]) (.cons U .nil)) (tn (rt (rC results10 U D z9t  ?_)));exact⟨_,rfl,⟨g1,g2,rfl,j5a (hy.low (by omega)) (Z.low (by omega))⟩,(q1.z4 q2 q6 q7 q8)⟩
theorem y5q (w0:World):Rets prog 10 #[] w0 λr w'=>(∃I D,r=.agg #[.int .i64 (st0 I D).rk,.slice (st0 I D).q.f.1 (st0 I D).q.f.2.1 (st0 I D).q.f.2.2,.slice (st0 I D).q.b.1 (st0 I D).q.b.2.1 (st0 I D).q.b.2.2,.slice (st0 I D).yv.1 (st0 I D).yv.2.1 (st0 I D).yv.2.2,.slice (st0 I D).fb.t.1 (st0 I D).fb.t.2.1 (st0 I D).fb.t.2.2,.slice (st0 I D).fb.c.1 (st0 I D).fb.c.2.1 (st0 I D).fb.c.2.2,.slice (st0 I D).fb.h.1 (st0 I D).fb.h.2.1 (st0 I D).fb.h.2.2,.slice (st0 I D).fb.f.1 (st0 I D).fb.f.2.1 (st0 I D).fb.f.2.2]/\StAt w' (st0 I D))/\Fr [] w0 w':=
 Rets.mono (y1y w0) (by rintro r w' ⟨⟨I,D,h,J⟩,hf⟩;exact⟨⟨I,D,h,J.at⟩,hf⟩)
theorem x3y {α:Type}{D I:List α}(d:α)(hl:D.length=I.length)(h:∀j,j<D.length->D.getD j d=I.getD j d):D=I:=by
 refine List.ext_getElem hl λj J M=>?_;have:=h j J;rwa [List.getD,List.getD,List.getElem?_eq_getElem J,List.getElem?_eq_getElem M]at this
theorem y3y (v1 v2:Value)(M l2:List LId)(w0:World)(h1:Sl z1h w0 v1 M)(O:Sl z1h w0 v2 l2)(hl:M.length<=100000):Rets prog 46 #[v1,v2] w0 λr w'=>r=.bool (decide (M=l2))/\Fr [] w0 w':=by
 obtain⟨A1,k1,rfl,a5⟩:=id h1.form;obtain⟨A2,k2,rfl,a6⟩:=id O.form;refine we [(0,.slice A1 M.length k1),(1,.slice A2 l2.length k2)] func46 U ntmps46 U (.c2 U U) ?_;have a1:=h1;have a2:=O;refine sr (asg U (nn (sq (sr (mv U (lnS U underlying37 (mv U (lnS U underlying37 (ne' U (nn (cd U (λc0=>?_) (λc0=>?_))))))))))));refine sr (asg U (nn (rt (tr (r1 results46 U ?_)))));exact⟨_,rfl,congrArg Value.bool (decide_eq_false (λe=>c0 (by rw[e]))).symm,(Fr.refl _ _)⟩;refine sk (tn (sq (sr (mv U (lnS U underlying37 (mv U (nn (bl ?_))))))));refine lpK (ι:=Nat) [(0,_),(1,_),(12,_)] (λi=>[(13,.int .i64 (i:Int))]) (λi w'=>Fr [] w0 w'/\i<=M.length/\∀j,j<i->M.getD j id0=l2.getD j id0) (λi=>M.length-i) 0 (.c4 U U U U) ⟨Fr.refl _ _,⟨Nat.zero_le _,λj h=>absurd h (by omega)⟩⟩ ?_;rintro i w1 ⟨q1,⟨hi,hz⟩⟩;refine kpC [(0,_),(1,_),(12,_),(13,_)] (.c4 U U U U) (sr (lt' U (nn (sq (cd U (λc1=>?_) (λc1=>?_))))));refine sk (tn (sq (bl (sr (mv U (asg U (nn (sq ?_))))))));replace h1:=a1.ext q1;replace O:=a2.ext q1;intro a h;have D:=Fr.refl [] w1;refine z2t (λwb w'=>Fr [] wb w') z2r ?_;intro w2 hq;replace h1:=h1.ext hq;replace O:=O.ext hq;replace D:=D.next hq;have a7:=hq.size;clear hq;have hC:Fr [] w2 w2:=Fr.refl _ _;have I:=h1;have J:=O;refine z0e 0 h U λa h=>z0e 1 h U λa h=>z1f (id0) 2 h U h1 U z5d U ?_ (hp:=rfl);clear h a;intro a3 Z a h;refine z2c 3 h wn U (λ_ hw=>Z _ (I.ext hw)) z3j U λa h=>z0e 4 h U λa h=>z0e 5 h U λa h=>z1f (id0) 6 h U O U z5d U ?_ (hp:=rfl);clear h a;intro a4 a0 a h;refine z2c 7 h wn U (λ_ hw=>a0 _ (J.ext hw)) z3j U λa h=>v2t (V:=idV) (e:=_) (f:=_) 8 hC h wn U U eqId U U λa h=>z0r ?_;clear hC I J;refine bk (h.sub (L':=[(0,_),(1,_),(12,_),(13,_),(24,_)]) (.c5 U U U U U)) (tn (cd U (λc2=>?_) (λc2=>?_)));refine sr (asg U (nn (rt (rb (tr (tr (rb (tr (r1 results46 U ?_)))))))));exact⟨_,rfl,congrArg Value.bool (decide_eq_false (λe=>c2 (by rw[e]))).symm,(q1.n1 D)⟩;refine sk (bn' (tn (rg (z0w U (wi6 (by omega)) (mv U (nl ?_))))));exact lpE (i+1) (.c4 U U U U) ⟨(q1.n1 D),⟨by omega,λj h=>by
  by_cases e:j=i;subst e;exact Classical.not_not.1 c2;exact hz j (by omega)⟩⟩ (by omega)
 obtain rfl:i=M.length:=by omega
 refine ex (te (te (xh (tn (sr (asg U (nn (rt (r1 results46 U ?_)))))))));exact⟨_,rfl,congrArg Value.bool (decide_eq_true (x3y id0 (by omega) (λj hj=>hz j (by omega)))).symm,q1⟩
end Go.Proofs.YtpgdchkdlgkmgaaGreatDoor
namespace Go.Proofs.YtpgdchkdlgkmgaaGreatDoor
open Go.Lw Go.G21 Go.G08 _root_.Go.Proofs.Tryz
theorem j1m:CallOf prog 46:=mkC func46
open Classical in
noncomputable def y6c (s:StQ)(eb ef:Int):Int:=if ¬(-4<=s.rk/\s.rk<=4) then 11 else if eb≠0 then eb else if s.ys.length≠6 then 5 else if ∃i,i<6/\¬y0p (s.ys.getD i yq0).p then 1 else if ef≠0 then ef else if s.fb.hs≠(z2q s.q.p s.rk).map Hd.id then 6 else if ∃i,i<6/\(s.ys.getD i yq0).ct≠((s.fb.ts.getD i tq0).2.length:Int) then 6 else 0
set_option maxHeartbeats 2000000 in
theorem x7g (s:StQ)(eb ef:Int)(w0:World)(J:StAt w0 s)(b6:∀w,BdAt w s.q->Rets prog 43 #[.agg #[.slice s.q.f.1 s.q.f.2.1 s.q.f.2.2,.slice s.q.b.1 s.q.b.2.1 s.q.b.2.2]] w λr w'=>r=.int .i64 eb/\Fr [] w w')(hB:eb=0->BdOk s.q.p)(b3:ef=0->s.fb.ts.length=6)(b7:∀w,FbAt w s.fb->Rets prog 45 #[.agg #[.slice s.fb.t.1 s.fb.t.2.1 s.fb.t.2.2,.slice s.fb.c.1 s.fb.c.2.1 s.fb.c.2.2,.slice s.fb.h.1 s.fb.h.2.1 s.fb.h.2.2,.slice s.fb.f.1 s.fb.f.2.1 s.fb.f.2.2]] w λr w'=>r=.int .i64 ef/\Fr [] w w')(d1:s.fb.hs.length<=100000):Rets prog 16 #[.agg #[.int .i64 s.rk,.slice s.q.f.1 s.q.f.2.1 s.q.f.2.2,.slice s.q.b.1 s.q.b.2.1 s.q.b.2.2,.slice s.yv.1 s.yv.2.1 s.yv.2.2,.slice s.fb.t.1 s.fb.t.2.1 s.fb.t.2.2,.slice s.fb.c.1 s.fb.c.2.1 s.fb.c.2.2,.slice s.fb.h.1 s.fb.h.2.1 s.fb.h.2.2,.slice s.fb.f.1 s.fb.f.2.1 s.fb.f.2.2]] w0 λr w'=>r=.int .i64 (y6c s eb ef)/\Fr [] w0 w':=by
 have e8:=z1u J.y;have e7:=z1u J.f.t;refine we [(0,.agg #[.int .i64 s.rk,.slice s.q.f.1 s.q.f.2.1 s.q.f.2.2,.slice s.q.b.1 s.q.b.2.1 s.q.b.2.2,.slice s.yv.1 s.yv.2.1 s.yv.2.2,.slice s.fb.t.1 s.fb.t.2.1 s.fb.t.2.2,.slice s.fb.c.1 s.fb.c.2.1 s.fb.c.2.2,.slice s.fb.h.1 s.fb.h.2.1 s.fb.h.2.2,.slice s.fb.f.1 s.fb.f.2.1 s.fb.f.2.2])] func16 U ntmps16 U (.cons U .nil) ?_;have O:=J;refine sr (bx U (λg1 w1 e2 D q1 z1=>(asg U (nn (sq (sq ?_))))));refine rbo (r:=17) (L':=[(1,_)]) (((s.rk < -4)\/(4<s.rk))) (.cons U .nil) ?_ ?_;refine fad U y4z (z0g U D U na3 (lt' U (mv U (gs 13 U (λg0=>?_) (λg0=>?_)))));exact gN U (gN U (gN U (pkt U (rbe U (.cons U .nil)))));exact gY U (fad U y4z (gY U (z0g U D U na3 (gY U (gt' U (pkf U (rbe U (.cons U .nil))))))));refine tn (cd U (λc0=>?_) (λc0=>?_));refine sr (asg U (nn (rt (tr (r1 results16 U ?_)))));exact⟨_,rfl,by unfold y6c;rw[if_pos (by omega)],q1⟩;have hr:-4<=s.rk/\s.rk<=4:=by omega
 refine sk (tn (sq (sr (fad U y0o (z1v (vs:=[_,_]) U D z5q U ?_)))));replace J:=O.ext q1;refine cl (ev1 U) (mkC func43) (b6 _ J.b) U ?_;rintro _ w2 ⟨rfl,q2⟩;have z2:=q2.size;refine asg U (nn (sr (mv U (ne' U (nn (cd U (λc1=>?_) (λc1=>?_)))))));refine sr (mv U (asg U (nn (rt (tr (r1 results16 U ?_))))));exact⟨_,rfl,by unfold y6c;rw[if_neg (by omega),if_pos c1],(q1.n1 q2)⟩;have c9:eb=0:=by omega
 refine sk (tn (sq (sr (fad U z7o ?_))));replace D:=D.ext q2;refine z0g U D U z9x (lnS U underlying33 (ne' U (nn (cd U (λc2=>?_) (λc2=>?_)))));refine sr (asg U (nn (rt (tr (r1 results16 U ?_)))));exact⟨_,rfl,by unfold y6c;rw[if_neg (by omega),if_neg (by omega),if_pos (by omega)],(q1.n1 q2)⟩;have e6:s.ys.length=6:=by omega
 refine sk (tn (sq (sr (fad U z7o (z0g U D U z9x (lnS U underlying33 (mv U (nn (bl ?_)))))))));refine lpK (ι:=Nat) [(1,_),(29,_),(30,_)] (λi=>[(31,.int .i64 (i:Int))]) (λi w'=>Fr [] w2 w'/\i<=6/\∀k,k<i->y0p (s.ys.getD k yq0).p) (λi=>6-i) 0 (.c4 U U U U) ⟨Fr.refl _ _,⟨Nat.zero_le _,λk h=>absurd h (by omega)⟩⟩ ?_;rintro i w3 ⟨q3,⟨hi,a5⟩⟩;have z3:=q3.size;refine kpC [(1,_),(29,_),(30,_),(31,_)] (.c4 U U U U) (sr (lt' U (nn (sq (cd U (λc3=>?_) (λc3=>?_))))));refine sk (tn (sq (bl (sr ?_))));replace J:=O.ext (q1.n2 q2 q3);refine z0y (yq0) U J.y U z9u z1e (λd5 a9=>?_);refine z1k U (a9 _ J.y) z6d (al y1j U (λg5 w4 e3 a8 q4 z4=>?_));refine z0j (vs:=[_,_,_,_,_]) U a8 z6u (λw5 a8 q5 z5=>?_) (h1:=(by first|(simp[Value.oneCell',S];done)|exact z2j.one _));refine nn (sr (z0l U a8 z6d ?_));replace J:=O.ext (q1.z4 q2 q3 q4 q5);refine cl (ev1 U) j0l (z9c (s.ys.getD i yq0) _ (J.ya i)) U ?_;rintro _ w6 ⟨rfl,q6⟩;have z6:=q6.size;refine asg U (nn (sr (mv U (ne' U (nn (cd U (λc4=>?_) (λc4=>?_)))))));refine sr (mv U (asg U (kpL [(2,_)] (.cons U .nil) (nn (rt (rb (tr (tr (rb (tr (r1 results16 U ?_)))))))))));have b4:¬y0p (s.ys.getD i yq0).p:=λh=>c4 (j7c h);exact⟨_,rfl,by unfold y6c;rw[if_neg (by omega),if_neg (by omega),if_neg (by omega),if_pos ⟨i,by omega,b4⟩,j0i b4],(q1.z5 q2 q3 q4 q5 q6)⟩;refine sk (bn' (tn (rg (z0w U (wi6 (by omega)) (mv U (nl ?_))))));exact lpE (i+1) (.c4 U U U U) ⟨(q3.z3 q4 q5 q6),⟨by omega,λk h=>by
  by_cases e:k=i;subst e;exact Classical.byContradiction λh=>c4 (by rw[j0i h];decide);exact a5 k (by omega)⟩⟩ (by omega)
 obtain rfl:i=6:=by omega
 refine ex (te (te (xh (tn (sq (sr (fad U z4a ?_)))))));replace D:=D.ext q3;refine z1v (vs:=[_,_,_,_]) U D x3w U ?_;replace J:=O.ext (q1.n2 q2 q3);refine cl (ev1 U) (mkC func45) (b7 _ J.f) U ?_;rintro _ w7 ⟨rfl,q7⟩;have z7:=q7.size;refine asg U (kpL [(1,_),(7,_)] (.c2 U U) (nn (sr (mv U (ne' U (nn (cd U (λc5=>?_) (λc5=>?_))))))));refine sr (mv U (asg U (nn (rt (tr (r1 results16 U ?_))))));have Z:¬ ∃i,i<6/\¬y0p (s.ys.getD i yq0).p:=λ⟨k,hk,h⟩=>h (a5 k (by omega));exact⟨_,rfl,by unfold y6c;rw[if_neg (by omega),if_neg (by omega),if_neg (by omega),if_neg Z,if_pos c5],(q1.n3 q2 q3 q7)⟩;have d0:ef=0:=by omega
 have e5:=b3 d0;refine sk (tn (sq (sq ?_)));replace J:=O.ext (q1.n3 q2 q3 q7);intro a h;refine z0i none (λwb w'=>Fr [] wb w') z2r ?_;intro w8 q8;have z8:=q8.size;replace J:=J.ext q8;replace D:=D.ext (q7.n1 q8);have hC:Fr [] w8 w8:=Fr.refl _ _;have a1:=J;have I:=D;refine z0c 0 h U z4a U λa h=>z4h 1 h U z7n U λa h=>z0k 2 h U (λ_ hw=>I.ext hw) U z4x U λa h=>z0c 3 h U y0o U λa h=>z1d (vs:=[_,_]) 4 h U (λ_ hw=>(I.ext hw)) z5q U U λa h=>z0c 5 h U y4z U λa h=>z0k 6 h U (λ_ hw=>I.ext hw) U na3 U λa h=>z0d 7 U ?_;refine z0m h (z0a U (z0a U z0f)) (mkC func47) (y3u s.q s.rk _ J.b (hB c9) hr) ?_;rintro _ w9 ⟨⟨e1,e9,e0,rfl,d9,hH⟩,q9⟩ a h;have z9:=q9.size;replace J:=J.ext q9;replace hC:=hC.next q9;refine z0b ?_;refine z0d 8 U ?_;refine z0m h (z0a U (z0a U z0f)) j1m (y3y _ _ s.fb.hs ((z2q s.q.p s.rk).map Hd.id) _ J.f.h hH.sl d1) ?_;rintro _ d4 ⟨rfl,M⟩ a h;have f3:=M.size;replace J:=J.ext M;replace D:=D.ext (q9.n1 M);replace hH:=hH.ext M;replace hC:=hC.next M;refine z0b ?_;refine x6n 9 hC h wn U U U λa h=>z0r ?_;clear hC a1 I;refine bk (h.sub (L':=[(1,_),(56,_)]) (.c2 U U)) (tn (cd U (λc6=>?_) (λc6=>?_)));refine sr (asg U (nn (rt (tr (r1 results16 U ?_)))));have Z:¬ ∃i,i<6/\¬y0p (s.ys.getD i yq0).p:=λ⟨k,hk,h⟩=>h (a5 k (by omega));exact⟨_,rfl,by unfold y6c;rw[if_neg (by omega),if_neg (by omega),if_neg (by omega),if_neg Z,if_neg (by omega),if_pos c6],(q1.n6 q2 q3 q7 q8 q9 M)⟩;refine sk (tn (sq (sr (fad U z7o (z0g U D U z9x (lnS U underlying33 (mv U (nn (bl ?_)))))))));refine lpK (ι:=Nat) [(1,_),(58,_),(59,_)] (λi=>[(60,.int .i64 (i:Int))]) (λi w'=>Fr [] d4 w'/\i<=6/\∀k,k<i->(s.ys.getD k yq0).ct=((s.fb.ts.getD k tq0).2.length:Int)) (λi=>6-i) 0 (.c4 U U U U) ⟨Fr.refl _ _,⟨Nat.zero_le _,λk h=>absurd h (by omega)⟩⟩ ?_;rintro i f0 ⟨a0,⟨hi,b2⟩⟩;have f4:=a0.size;refine kpC [(1,_),(58,_),(59,_),(60,_)] (.c4 U U U U) (sr (lt' U (nn (sq (cd U (λc7=>?_) (λc7=>?_))))));refine sk (tn (sq (bl (sr (mv U ?_)))));replace J:=O.ext ((q1.n6 q2 q3 q7 q8 q9 M).n1 a0);refine z0y (yq0) U J.y U z9u z1e (λd6 b0=>?_);refine z1k U (b0 _ J.y) z6d (al y1j U (λg9 f1 e4 a3 a6 f5=>?_));refine asg U (z0j (vs:=[_,_,_,_,_]) U a3 z6u (λf2 a3 a7 f6=>?_) (h1:=(by first|(simp[Value.oneCell',S];done)|exact z2j.one _)));refine nn (sq ?_);replace J:=O.ext ((((q1.n6 q2 q3 q7 q8 q9 M).n1 a0).n1 a6).z1 a7);replace D:=(D.ext (a0.n1 a6)).fr a7;intro a h;refine z0i none (λwb w'=>Fr [] wb w') z2r ?_;intro b5 a2;have f7:=a2.size;replace J:=J.ext a2;replace D:=D.ext a2;replace a3:=a3.ext a2;have hC:Fr [] b5 b5:=Fr.refl _ _;have a1:=J;have I:=D;have a4:=a3;refine z0c 0 h U z6y U λa h=>z0k 1 h U (λ_ hw=>a4.ext hw) U na3 U λa h=>z0c 2 h U z4a U λa h=>z4h 3 h U z5u U λa h=>z0k 4 h U (λ_ hw=>I.ext hw) U y6m U λa h=>z0e 5 h U λa h=>z1f (tq0) 6 h U J.f.t U y3d U ?_ (hp:=rfl);clear h a;intro d7 b1 a h;refine z3c 7 h U (λ_ hw=>b1 _ (a1.f.t.ext hw)) x0m U λa h=>z8g 8 hC h wn U underlying46 U λa h=>j2b 9 hC h wn U U U U λa h=>z0r ?_;clear hC a1 I a4;refine bk (h.sub (L':=[(1,_),(58,_),(59,_),(60,_),(74,_)]) (.c5 U U U U U)) (tn (cd U (λc8=>?_) (λc8=>?_)));refine sr (asg U (nn (rt (rb (tr (tr (rb (tr (r1 results16 U ?_)))))))));have Z:¬ ∃i,i<6/\¬y0p (s.ys.getD i yq0).p:=λ⟨k,hk,h⟩=>h (a5 k (by omega));have b8:(s.ys.getD i yq0).ct≠((s.fb.ts.getD i tq0).2.length:Int):=by simp only[Int.toNat_natCast]at c8;have d3:=z1u (O.f.tt _ (z0t (d:=tq0) (i:=i) (by omega))).1;omega
 exact⟨_,rfl,by unfold y6c;rw[if_neg (by omega),if_neg (by omega),if_neg (by omega),if_neg Z,if_neg (by omega),if_neg c6,if_pos ⟨i,by omega,b8⟩],((((q1.n6 q2 q3 q7 q8 q9 M).n1 a0).n1 a6).z2 a7 a2)⟩;refine sk (bn' (tn (rg (z0w U (wi6 (by omega)) (mv U (nl ?_))))));exact lpE (i+1) (.c4 U U U U) ⟨(a0.z3 a6 a7 a2),⟨by omega,λk h=>by
  by_cases e:k=i;subst e;simp only[Int.toNat_natCast]at c8;have d3:=z1u (O.f.tt _ (z0t (d:=tq0) (i:=k) (by omega))).1;omega;exact b2 k (by omega)⟩⟩ (by omega)
 obtain rfl:i=6:=by omega
 refine ex (te (te (xh (tn (sr (asg U (nn (rt (r1 results16 U ?_)))))))));have Z:¬ ∃i,i<6/\¬y0p (s.ys.getD i yq0).p:=λ⟨k,hk,h⟩=>h (a5 k (by omega));have b9:¬ ∃i,i<6/\(s.ys.getD i yq0).ct≠((s.fb.ts.getD i tq0).2.length:Int):=λ⟨k,hk,h⟩=>h (b2 k (by omega));exact⟨_,rfl,by unfold y6c;rw[if_neg (by omega),if_neg (by omega),if_neg (by omega),if_neg Z,if_neg (by omega),if_neg c6,if_neg b9],((q1.n6 q2 q3 q7 q8 q9 M).n1 a0)⟩
theorem j3h {s:StQ}(M:-4<=s.rk/\s.rk<=4)(J:s.ys.length=6)(D:∀i,i<6->y0p (s.ys.getD i yq0).p/\(s.ys.getD i yq0).ct=((s.fb.ts.getD i tq0).2.length:Int))(I:s.fb.hs=(z2q s.q.p s.rk).map Hd.id):y6c s 0 0=0:=by
 unfold y6c;rw[if_neg (by omega),if_neg (by decide),if_neg (by omega),if_neg (λ⟨k,hk,h⟩=>h (D k hk).1),if_neg (by decide),if_neg (λh=>h I),if_neg (λ⟨k,hk,h⟩=>h (D k hk).2)]
theorem v2m (s:StQ)(w0:World)(hS:StAt w0 s)(hr:-4<=s.rk/\s.rk<=4)(Z:BdOk s.q.p)(M:s.ys.length=6)(J:s.fb.ts.length=6)(O:∀i,i<6->y0p (s.ys.getD i yq0).p/\(s.ys.getD i yq0).ct=((s.fb.ts.getD i tq0).2.length:Int))(D:∀w,FbAt w s.fb->Rets prog 45 #[.agg #[.slice s.fb.t.1 s.fb.t.2.1 s.fb.t.2.2,.slice s.fb.c.1 s.fb.c.2.1 s.fb.c.2.2,.slice s.fb.h.1 s.fb.h.2.1 s.fb.h.2.2,.slice s.fb.f.1 s.fb.f.2.1 s.fb.f.2.2]] w λr w'=>r=.int .i64 0/\Fr [] w w')(hh:s.fb.hs=(z2q s.q.p s.rk).map Hd.id)(I:s.fb.hs.length<=100000):Rets prog 16 #[.agg #[.int .i64 s.rk,.slice s.q.f.1 s.q.f.2.1 s.q.f.2.2,.slice s.q.b.1 s.q.b.2.1 s.q.b.2.2,.slice s.yv.1 s.yv.2.1 s.yv.2.2,.slice s.fb.t.1 s.fb.t.2.1 s.fb.t.2.2,.slice s.fb.c.1 s.fb.c.2.1 s.fb.c.2.2,.slice s.fb.h.1 s.fb.h.2.1 s.fb.h.2.2,.slice s.fb.f.1 s.fb.f.2.1 s.fb.f.2.2]] w0 λr w'=>r=.int .i64 0/\Fr [] w0 w':=by
 have x:=x7g s 0 0 w0 hS (λw h=>y1v s.q w h Z) (λ_=>Z) (λ_=>J) D I;rw[j3h hr M O hh]at x;exact x
end Go.Proofs.YtpgdchkdlgkmgaaGreatDoor
namespace Go.Proofs.YtpgdchkdlgkmgaaGreatDoor
open Go.Lw Go.G21 Go.G08 _root_.Go.Proofs.Tryz
theorem j0c:CallOf prog 16:=mkC func16
theorem j3n:ElemOf prog 29 28 z8c 40:=ElemOf.mk' (z:=(.agg #[.int .u8 0,.int .u8 0,.int .u8 0,.int .i64 0,.int .u8 0,.int .i64 0])) underlying29 (by kernel_rfl) U
theorem v8b:z1r prog 28 6:=λ_=>by kernel_rfl
theorem v9s (w:World):(zeroValue 28).run prog w=.ok (.agg #[(.int .u8 0),(.int .u8 0),(.int .u8 0),(.int .i64 0),(.int .u8 0),(.int .i64 0)]) w:=by kernel_rfl
theorem x6q {D p q:MSt}{o:MOp}:∀ {l:List MOp} {i:Nat},z6l i D l=.ok p->doM p o=.ok q->z6l i D (l++[o])=.ok q
 | [],i,h,h2=>by cases h;show z6l i D [o]=_;unfold z6l;rw[h2];rfl
 | x::l,i,h,h2=>by
  unfold z6l at h
  show z6l i D (x::(l++[o]))=_
  unfold z6l
  split at h
  ·cases h
  rename_i J I
  exact x6q h h2
theorem v3i {D p:MSt}{e:Int}{o:MOp}:∀ {l r:List MOp} {i:Nat},z6l i D l=.ok p->doM p o=.error e->z6l i D (l++o::r)=.error (e,i+l.length)
 | [],r,i,h,h2=>by cases h;show z6l i D (o::r)=_;unfold z6l;rw[h2];rfl
 | x::l,r,i,h,h2=>by
  unfold z6l at h
  show z6l i D (x::(l++o::r))=_
  unfold z6l
  split at h
  ·cases h
  rename_i J I
  have:=v3i (r:=r) h h2
  simp only[this,List.length_cons]
  congr 2;omega
set_option maxHeartbeats 2000000 in
theorem u4x (s:StQ)(v:Value)(l:List MOp)(p0:MSt)(w0:World)(hS:StAt w0 s)(d1:StSz s)(d5:(s.fb.cs.map cxK).Nodup)(b2:p0=(⟨s.rk,⟨trimB (plB s.q.fs),trimB (plB s.q.bs)⟩,s.ys.map YQ.p,z1w s.fb.ts,s.fb.cs,s.fb.fs⟩:MSt))(d6:MInv p0)(hv:Sl z8c w0 v l)(d3:StT w0)(f7:l.length<=4096)(b0:∀w,StAt w s->Rets prog 16 #[.agg #[.int .i64 s.rk,.slice s.q.f.1 s.q.f.2.1 s.q.f.2.2,.slice s.q.b.1 s.q.b.2.1 s.q.b.2.2,.slice s.yv.1 s.yv.2.1 s.yv.2.2,.slice s.fb.t.1 s.fb.t.2.1 s.fb.t.2.2,.slice s.fb.c.1 s.fb.c.2.1 s.fb.c.2.2,.slice s.fb.h.1 s.fb.h.2.1 s.fb.h.2.2,.slice s.fb.f.1 s.fb.f.2.1 s.fb.f.2.2]] w λr w'=>r=.int .i64 0/\Fr [] w w')(d4:∀p,z6l 0 p0 l=.ok p->p.cr.length<=100000000):Rets prog 9 #[.agg #[.int .i64 s.rk,.slice s.q.f.1 s.q.f.2.1 s.q.f.2.2,.slice s.q.b.1 s.q.b.2.1 s.q.b.2.2,.slice s.yv.1 s.yv.2.1 s.yv.2.2,.slice s.fb.t.1 s.fb.t.2.1 s.fb.t.2.2,.slice s.fb.c.1 s.fb.c.2.1 s.fb.c.2.2,.slice s.fb.h.1 s.fb.h.2.1 s.fb.h.2.2,.slice s.fb.f.1 s.fb.f.2.1 s.fb.f.2.2],v] w0 λr w'=>(match z6l 0 p0 l with|.error (e,n)=>r=.tuple #[.agg #[.int .i64 0,.slice none 0 0,.slice none 0 0,.slice none 0 0,.slice none 0 0,.slice none 0 0,.slice none 0 0,.slice none 0 0],.int .i64 (n:Int),.int .i64 e]|.ok p=>∃s':StQ,r=.tuple #[.agg #[.int .i64 s'.rk,.slice s'.q.f.1 s'.q.f.2.1 s'.q.f.2.2,.slice s'.q.b.1 s'.q.b.2.1 s'.q.b.2.2,.slice s'.yv.1 s'.yv.2.1 s'.yv.2.2,.slice s'.fb.t.1 s'.fb.t.2.1 s'.fb.t.2.2,.slice s'.fb.c.1 s'.fb.c.2.1 s'.fb.c.2.2,.slice s'.fb.h.1 s'.fb.h.2.1 s'.fb.h.2.2,.slice s'.fb.f.1 s'.fb.f.2.1 s'.fb.f.2.2],.int .i64 (l.length:Int),.int .i64 0]/\StO τd 109 w0.heap.size w' s'/\s'.p=stM p)/\Fr [] w0 w':=by
 obtain⟨A,c,rfl,f2,c9,hA⟩:=id hv;clear hA;unfold maxLen at c9;refine we [(0,.agg #[.int .i64 s.rk,.slice s.q.f.1 s.q.f.2.1 s.q.f.2.2,.slice s.q.b.1 s.q.b.2.1 s.q.b.2.2,.slice s.yv.1 s.yv.2.1 s.yv.2.2,.slice s.fb.t.1 s.fb.t.2.1 s.fb.t.2.2,.slice s.fb.c.1 s.fb.c.2.1 s.fb.c.2.2,.slice s.fb.h.1 s.fb.h.2.1 s.fb.h.2.2,.slice s.fb.f.1 s.fb.f.2.1 s.fb.f.2.2]),(1,.slice A l.length c)] func9 U ntmps9 U (.c2 U U) ?_;have a7:=hS;have e2:=hv;refine sr (bx U (λg2 w1 f3 I q1 z1=>(al x3c U (λg4 w2 f4 D q2 z2=>(asg U (asg U (nn (sq (sr (mv U (lnS U underlying29 (gt' U (nn (cd U (λc0=>?_) (λc0=>?_)))))))))))))));refine sr (z1t (cs:=[_,_,_,_,_,_,_,_]) z0f v0b z0q U ?_);refine z0j (vs:=[_,_,_,_,_,_,_,_]) U D y1d (λw3 D q3 z3=>(asg U (asg U (nn (rt (tr (j4b results9 U D z9t U U ?_)))))));exfalso;omega;refine sk (tn (sq (sr ?_)));replace I:=I.ext q2;refine z0l U I z9t ?_;replace hS:=a7.ext (q1.n1 q2);refine cl (ev1 U) j0c (b0 _ hS) U ?_;rintro _ w4 ⟨rfl,q4⟩;have z4:=q4.size;refine asg U (nn (sr (mv U (ne' U (nn (cd U (λc1=>?_) (λc1=>?_)))))));refine sr (z1t (cs:=[_,_,_,_,_,_,_,_]) z0f v0b z0q U ?_);refine mv U ?_;replace D:=D.ext q4;refine z0j (vs:=[_,_,_,_,_,_,_,_]) U D y1d (λw5 D q5 z5=>(asg U (asg U (kpL [(4,_),(5,_),(6,_)] (.c3 U U U) (nn (rt (tr (j4b results9 U D z9t U U ?_))))))));exact absurd U (by assumption);refine sk (tn (sr ?_));replace I:=I.ext q4;refine z0l U I z9t ?_;replace hS:=a7.ext (q1.n2 q2 q4);replace D:=D.ext q4;refine cl (z0a U z0f) (mkC func25) (v6y s _ hS d1 d5) U ?_;rintro _ w6 ⟨ka,m,rfl,J,b1⟩;have q6:=J.fr.fr;have z6:=q6.size;have a0:=D;have e9:=J.c.lt;have a1:=J;refine cl z0f (mkC func26) (v1h _) U ?_;rintro _ w7 ⟨⟨gl,rfl,f5,hl⟩,q7⟩;have z7:=q7.size;refine asg U (asg U (kpL [(1,_),(4,_),(8,_),(9,_)] (.c4 U U U U) (nn (sq (sr (mv U (lnS U underlying29 (mv U (nn (bl ?_))))))))));replace J:=a1.ext q7;refine lpK (ι:=Nat) [(1,_),(4,_),(8,_),(9,_),(26,_),(27,_)] (λi=>[(28,.int .i64 (i:Int))]) (λi w'=>Fr [] w4 w'/\i<=l.length/\∃m:MQ,MkM τd 137 w4 ka w' m/\z6l 0 p0 (l.take i)=.ok m.p/\MInv m.p/\MapF kV w' gl j3w) (λi=>l.length-i) 0 (.c7 U U U U U U U) ⟨(q6.n1 q7),⟨Nat.zero_le _,m,J,by rw[b1,<-b2];rfl,by rw[b1,<-b2];exact d6,hl⟩⟩ ?_;rintro i w8 ⟨q8,⟨f6,m,J,O,a2,hl⟩⟩;have z8:=q8.size;have a1:=J;refine kpC [(1,_),(4,_),(8,_),(9,_),(26,_),(27,_),(28,_)] (.c7 U U U U U U U) ?_;have f0:gl<w8.heap.size:=by obtain⟨_,_,_,b6,_⟩:=hl;exact(Array.getElem?_eq_some_iff.1 b6).1
 refine sr (lt' U (nn (sq (cd U (λc2=>?_) (λc2=>?_)))));have a4:i<l.length:=by omega
 refine sk (tn (sq (bl (sr (mv U ?_)))));replace hv:=e2.ext (q1.n3 q2 q4 q8);refine z0y (op0) U hv U j3n z1e (λe7 a9=>?_);refine z1k U (a9 _ hv) y6b (al v9s U (λf1 w9 e8 M q9 z9=>(asg U (z0j (vs:=[_,_,_,_,_,_]) U M v8b (λe4 M b3 g1=>(nn (sr (mv U (mv U (z0l U M y6b ?_))))))))));replace J:=a1.ext (q9.z1 b3);replace hl:=(hl.ext q9).fr b3 (by simp only[List.mem_singleton];omega);have b9:=J.fr;refine cl (z0a U (z0a U (z0a U z0f))) (mkC func27) (u2o w4 { ka with wk:=e4 } m (l.getD i op0) gl _ J.mark a2 (d3.ext (q1.n2 q2 q4)) hl) U ?_;intro _ f8 hR;obtain⟨rfl,Z,m1,d7⟩:=hR.split;have e6:=Z.kp.size;simp only at e6;have b4:=Z.fr;replace hl:=Z.kp.mapF hl (by simp only;omega);refine asg U (nn (sr (mv U (ne' U (nn (cd U (λc3=>?_) (λc3=>?_)))))));have D:=a0.ext Z.fr;refine sr (z1t (cs:=[_,_,_,_,_,_,_,_]) z0f v0b z0q U ?_);refine mv U (mv U (z0j (vs:=[_,_,_,_,_,_,_,_]) U D y1d (λf9 D e3 g3=>(asg U (asg U (kpL [(4,_),(5,_),(6,_)] (.c3 U U U) (nn (rt (rb (tr (tr (rb (tr (j4b results9 U D z9t U U ?_))))))))))))));have e0:z6l 0 p0 l=.error (u3b (doM m.p (l.getD i op0)),i):=by
  have x:=v3i (r:=l.drop (i+1)) O (z5x c3);have e:l.take i++l.getD i op0::l.drop (i+1)=l:=by
   rw[List.getD,List.getElem?_eq_getElem a4,Option.getD_some,<-List.drop_eq_getElem_cons a4,List.take_append_drop]
  rw[e,List.length_take,Nat.min_eq_left (by omega),Nat.zero_add]at x;exact x
 exact⟨_,rfl,by rw[e0],(q1.z4 q2 q4 b4 e3)⟩;obtain⟨b8,a3⟩:=d7 (Classical.not_not.1 c3);have a6:=b8.unmark b9;obtain⟨m2,d9⟩:∃m2,m2=m1:=⟨_,rfl⟩;rw[<-d9]at a6 a3;refine sk (bn' (tn (rg (z0w U (wi6 (by omega)) (mv U (nl ?_))))));exact lpE ((i+1)) (.c7 U U U U U U U) ⟨b4,⟨by omega,m2,a6,by rw[show l.take (i+1)=l.take i++[l.getD i op0] by rw[List.take_add_one,List.getD,List.getElem?_eq_getElem a4];rfl];exact x6q O a3,x7n a2 a3,hl⟩⟩ (by omega);obtain rfl:i=l.length:=by omega
 rw[List.take_length]at O;refine ex (te (te (xh (tn (sr (mv U (cl (z0a U z0f) (mkC func28) (x2d w4 ka m _ J a2 (d4 _ O)) U ?_)))))));rintro _ g0 ⟨s',rfl,d0,e1,a5⟩;have g5:=a5.size;have D:=a0.ext a5;have a8:=D;refine mv U (lnS U underlying29 (z0j (vs:=[_,_,_,_,_,_,_,_]) U D y1d (λe5 D b5 g6=>(asg U (asg U (kpL [(4,_),(5,_),(6,_)] (.c3 U U U) (nn (rt (j4b results9 U D z9t U U ?_)))))))));have b7:Fr [] _ e5:=(Fr.refl _ _);exact⟨_,rfl,by rw[O];exact⟨s',rfl,((d0.off a8 (by decide) b5).ext b7).low (by omega),e1⟩,(q1.z4 q2 q4 a5 b5)⟩
theorem y3r (y:Nat):z2o (z1w (List.replicate 6 tq0)) y=0:=by
 unfold z2o;show ((List.replicate 6 ([]:List Lp)).getD y []).length=0;rw[List.getD,List.getElem?_replicate];split<;>rfl
theorem u3q:TabV (z1w (List.replicate 6 tq0)):=by
 refine⟨⟨rfl,by decide,λy _ n D=>(by rw[y3r y]at D;omega),⟨λ_=>0,?_⟩⟩,λi=>?_⟩;exact⟨λy _ n D=>(by rw[y3r y]at D;omega),λy _ n m _ I=>(by rw[y3r y]at I;omega)⟩;have e:z7y (z1w (List.replicate 6 tq0))=[]:=by rfl
 rw[e];exact Nat.zero_le _
theorem u8c (I D:Nat)(w:World)(h:StAt w (st0 I D)):Rets prog 16 #[.agg #[.int .i64 (st0 I D).rk,.slice (st0 I D).q.f.1 (st0 I D).q.f.2.1 (st0 I D).q.f.2.2,.slice (st0 I D).q.b.1 (st0 I D).q.b.2.1 (st0 I D).q.b.2.2,.slice (st0 I D).yv.1 (st0 I D).yv.2.1 (st0 I D).yv.2.2,.slice (st0 I D).fb.t.1 (st0 I D).fb.t.2.1 (st0 I D).fb.t.2.2,.slice (st0 I D).fb.c.1 (st0 I D).fb.c.2.1 (st0 I D).fb.c.2.2,.slice (st0 I D).fb.h.1 (st0 I D).fb.h.2.1 (st0 I D).fb.h.2.2,.slice (st0 I D).fb.f.1 (st0 I D).fb.f.2.1 (st0 I D).fb.f.2.2]] w λr w'=>r=.int .i64 0/\Fr [] w w':=
 v2m (st0 I D) w h (by show (-4:Int)<=0/\(0:Int)<=4;omega) z8x.B U U (λi _=>by
  have M:(st0 I D).ys.getD i yq0=yq0:=by
   show (List.replicate 6 yq0).getD i yq0=yq0
   rw[List.getD,List.getElem?_replicate];split<;>rfl
  have O:(st0 I D).fb.ts.getD i tq0=tq0:=by
   show (List.replicate 6 tq0).getD i tq0=tq0
   rw[List.getD,List.getElem?_replicate];split<;>rfl
  rw[M,O];exact⟨by decide,rfl⟩) (λw Z=>y0z (st0 I D).fb w Z U u3q ⟨λi J=>absurd J (Nat.not_lt_zero i),λi _ J=>absurd J (Nat.not_lt_zero i)⟩ ⟨λi J=>(by cases J),λi _ J=>absurd J (Nat.not_lt_zero i),λy _ n hn=>(by rw[show z2o (z1w (st0 I D).fb.ts) y=0 from y3r y]at hn;omega),u3q.thr⟩) U (Nat.zero_le _)
theorem v0s (I D:Nat)(v:Value)(l:List MOp)(w0:World)(O:StAt w0 (st0 I D))(Z:Sl z8c w0 v l)(J:StT w0)(M:l.length<=4096):Rets prog 9 #[.agg #[.int .i64 (st0 I D).rk,.slice (st0 I D).q.f.1 (st0 I D).q.f.2.1 (st0 I D).q.f.2.2,.slice (st0 I D).q.b.1 (st0 I D).q.b.2.1 (st0 I D).q.b.2.2,.slice (st0 I D).yv.1 (st0 I D).yv.2.1 (st0 I D).yv.2.2,.slice (st0 I D).fb.t.1 (st0 I D).fb.t.2.1 (st0 I D).fb.t.2.2,.slice (st0 I D).fb.c.1 (st0 I D).fb.c.2.1 (st0 I D).fb.c.2.2,.slice (st0 I D).fb.h.1 (st0 I D).fb.h.2.1 (st0 I D).fb.h.2.2,.slice (st0 I D).fb.f.1 (st0 I D).fb.f.2.1 (st0 I D).fb.f.2.2],v] w0 λr w'=>(match z6l 0 G08.start l with|.error (e,n)=>r=.tuple #[.agg #[.int .i64 0,.slice none 0 0,.slice none 0 0,.slice none 0 0,.slice none 0 0,.slice none 0 0,.slice none 0 0,.slice none 0 0],.int .i64 (n:Int),.int .i64 e]|.ok p=>∃s':StQ,r=.tuple #[.agg #[.int .i64 s'.rk,.slice s'.q.f.1 s'.q.f.2.1 s'.q.f.2.2,.slice s'.q.b.1 s'.q.b.2.1 s'.q.b.2.2,.slice s'.yv.1 s'.yv.2.1 s'.yv.2.2,.slice s'.fb.t.1 s'.fb.t.2.1 s'.fb.t.2.2,.slice s'.fb.c.1 s'.fb.c.2.1 s'.fb.c.2.2,.slice s'.fb.h.1 s'.fb.h.2.1 s'.fb.h.2.2,.slice s'.fb.f.1 s'.fb.f.2.1 s'.fb.f.2.2],.int .i64 (l.length:Int),.int .i64 0]/\StO τd 109 w0.heap.size w' s'/\s'.p=stM p)/\Fr [] w0 w':=
 u4x (st0 I D) v l G08.start w0 O (j4i I D) List.nodup_nil U z8x Z J M (u8c I D) (λp e=>by
  have x:=x6v z8x e
  have y:(G08.start).cr.length=0:=rfl
  omega)
def u1p (l:List MOp):Int:=match z6l 0 G08.start l with
  | .error (e,_)=>e
  | .ok _=>0
abbrev stZ:StQ:=⟨0,⟨sv0,sv0,[],[]⟩,sv0,[],⟨sv0,sv0,sv0,sv0,[],[],[],[]⟩⟩
theorem u7y (base:Nat)(w:World):StO τd 109 base w stZ:=
 ⟨⟨⟨Own.nil w,λq I=>(by cases I)⟩,⟨Own.nil w,λq I=>(by cases I)⟩⟩,⟨Own.nil w,λi D=>(by cases D)⟩,⟨Own.nil w,λi D=>(by cases D),λi j D=>(by cases D),λi D=>(by cases D)⟩,Own.nil w,Own.nil w,Own.nil w,λk J=>(by cases J)⟩
theorem u5b (I D:Nat)(v:Value)(l:List MOp)(w0:World)(hS:StAt w0 (st0 I D))(hv:Sl z8c w0 v l)(J:StT w0)(M:l.length<=4096):Rets prog 9 #[.agg #[.int .i64 (st0 I D).rk,.slice (st0 I D).q.f.1 (st0 I D).q.f.2.1 (st0 I D).q.f.2.2,.slice (st0 I D).q.b.1 (st0 I D).q.b.2.1 (st0 I D).q.b.2.2,.slice (st0 I D).yv.1 (st0 I D).yv.2.1 (st0 I D).yv.2.2,.slice (st0 I D).fb.t.1 (st0 I D).fb.t.2.1 (st0 I D).fb.t.2.2,.slice (st0 I D).fb.c.1 (st0 I D).fb.c.2.1 (st0 I D).fb.c.2.2,.slice (st0 I D).fb.h.1 (st0 I D).fb.h.2.1 (st0 I D).fb.h.2.2,.slice (st0 I D).fb.f.1 (st0 I D).fb.f.2.1 (st0 I D).fb.f.2.2],v] w0 λr w'=>(∃(s':StQ) (n:Nat),r=.tuple #[.agg #[.int .i64 s'.rk,.slice s'.q.f.1 s'.q.f.2.1 s'.q.f.2.2,.slice s'.q.b.1 s'.q.b.2.1 s'.q.b.2.2,.slice s'.yv.1 s'.yv.2.1 s'.yv.2.2,.slice s'.fb.t.1 s'.fb.t.2.1 s'.fb.t.2.2,.slice s'.fb.c.1 s'.fb.c.2.1 s'.fb.c.2.2,.slice s'.fb.h.1 s'.fb.h.2.1 s'.fb.h.2.2,.slice s'.fb.f.1 s'.fb.f.2.1 s'.fb.f.2.2],.int .i64 (n:Int),.int .i64 (u1p l)]/\StO τd 109 w0.heap.size w' s'/\∀p,z6l 0 G08.start l=.ok p->s'.p=stM p)/\Fr [] w0 w':=
 Rets.mono (v0s I D v l w0 hS hv J M) (by
  rintro r w' ⟨h,hf⟩
  refine⟨?_,hf⟩
  unfold u1p
  cases e:z6l 0 G08.start l with
  | error x=>
   obtain⟨e1,n⟩:=x
   rw[e]at h
   exact⟨stZ,n,h,u7y _ _,λp hp=>by cases hp⟩
  | ok p=>
   rw[e]at h
   obtain⟨s',O,Z,h3⟩:=h
   exact⟨s',l.length,O,Z,λq hq=>by cases hq;exact h3⟩)
theorem j4e:CallOf prog 10:=mkC func10
theorem x6f (v:Value)(l:List MOp)(w0:World)(O:Sl z8c w0 v l)(a2:StT w0)(a3:l.length<=4096):Rets prog 14 #[v] w0 λr w'=>(∃s':StQ,r=.tuple #[.agg #[.slice s'.fb.t.1 s'.fb.t.2.1 s'.fb.t.2.2,.slice s'.fb.c.1 s'.fb.c.2.1 s'.fb.c.2.2,.slice s'.fb.h.1 s'.fb.h.2.1 s'.fb.h.2.2,.slice s'.fb.f.1 s'.fb.f.2.1 s'.fb.f.2.2],.int .i64 (u1p l)]/\StO τd 109 w0.heap.size w' s'/\∀p,z6l 0 G08.start l=.ok p->s'.p=stM p)/\Fr [] w0 w':=by
 obtain⟨A,c,rfl,a7,a0,hA⟩:=id O;clear hA;unfold maxLen at a0;refine we [(0,.slice A l.length c)] func14 U ntmps14 U (.cons U .nil) ?_;have a5:=O;refine sr (al v7g U (λg2 w1 a8 D q1 z1=>(asg U (nn (sr (cl z0f j4e (y5q _) U ?_))))));rintro _ w2 ⟨⟨gy,gt,rfl,hS⟩,q2⟩;have z2:=q2.size;have a6:=hS;refine mv U ?_;replace O:=a5.ext (q1.n1 q2);refine cl (ev2 U) (mkC func9) (u5b gy gt _ l _ hS O (a2.ext (q1.n1 q2)) a3) U ?_;rintro _ w3 ⟨⟨s',n,rfl,hO,a4⟩,q3⟩;have z3:=q3.size;replace D:=D.ext (q2.n1 q3);have M:=D;have a1:=hO;refine mv U (xt U (xt U (xt U (al x3c U (λg4 w4 a9 I q4 z4=>(z0j (vs:=[_,_,_,_,_,_,_,_]) U I y1d (λw5 I q5 z5=>(asg U (asg U (kpL [(2,_),(4,_),(6,_)] (.c3 U U U) (nn (sr (fad U z4a (z1v (vs:=[_,_,_,_]) U I x3w U (mv U ?_)))))))))))))));replace D:=(D.ext q4).fr q5;refine z0j (vs:=[_,_,_,_]) U D v7m (λw6 D q6 z6=>(asg U (nn (rt (rCT results14 U D x3w U ?_)))));have J:Fr [] _ _:=(q4.z1 q5);have Z:Fr [] _ w6:=(Fr.refl _ _);exact⟨_,rfl,⟨s',rfl,(((a1.ext J).off (M.ext J) (by decide) q6).ext Z).low (by omega),a4⟩,(q1.z5 q2 q3 q4 q5 q6)⟩
end Go.Proofs.YtpgdchkdlgkmgaaGreatDoor
namespace Go.Proofs
open Go.Shelf
def Tryz.lays169_ren:Go.Shelf.Ren:=⟨fun|169=>88|n=>n,fun|70=>149|9=>9|0=>0|72=>152|37=>150|127=>221|3=>3|5=>5|n=>n,fun|n=>n⟩
theorem Tryz.lays169:Go.Proofs.Lays.n169 Tryz.prog Tryz.lays169_ren:={
 mixed:=by kernel_rfl
 f169:=Tryz.func88.trans (congrArg some (by kernel_rfl))
 t0:=Tryz.underlying0
 a0:=Tryz.isAgg0
 z0:=Tryz.sizeOf0
 v0:=Tryz.zeroValue0
 t3:=Tryz.underlying3
 a3:=Tryz.isAgg3
 z3:=Tryz.sizeOf3
 v3:=Tryz.zeroValue3
 t9:=Tryz.underlying9
 a9:=Tryz.isAgg9
 z9:=Tryz.sizeOf9
 v9:=Tryz.zeroValue9
 t37:=Tryz.underlying150
 a37:=Tryz.isAgg150
 z37:=Tryz.sizeOf150
 v37:=Tryz.zeroValue150
 t70:=Tryz.underlying149
 a70:=Tryz.isAgg149
 z70:=Tryz.sizeOf149
 v70:=Tryz.zeroValue149
 t72:=Tryz.underlying152
 a72:=Tryz.isAgg152
 z72:=Tryz.sizeOf152
 v72:=Tryz.zeroValue152
 t127:=Tryz.underlying221
 a127:=Tryz.isAgg221
 z127:=Tryz.sizeOf221
 v127:=Tryz.zeroValue221 }
theorem Tryz.Builder_Extra_169:Builder.Extra Tryz.prog Tryz.lays169_ren:={
 sizeBuilder:=by kernel_rfl
 liesBuilder:=by kernel_rfl
 t5:=Tryz.underlying5
 a5:=Tryz.isAgg5
 z5:=Tryz.sizeOf5
 v5:=Tryz.zeroValue5
 infoByte:=by kernel_rfl
 cellsByte:=by kernel_rfl
 sizeByte:=by kernel_rfl
 neB5:=by decide }
open Go.RowKit in
theorem Tryz.Builder_String_any (B b:Nat)(l:List UInt8)(w:World)(h:Lib.IsBuilder 152 5 B b (Lib.byteCells l) w)(D:B<=w.heap.size) :
 Calls Tryz.prog 88 #[.pointer (some ⟨b,0,none⟩)] w λe w'=>e=.returned (.string ⟨l.toArray⟩)/\Below B w w':=Any.Builder_String_any Tryz.lays169 Tryz.Builder_Extra_169 B b l w h D
def Tryz.lays156_ren:Go.Shelf.Ren:=⟨fun|156=>82|165=>130|166=>81|169=>88|240=>129|241=>186|276=>185|277=>224|n=>n,fun|31=>153|9=>9|3=>3|4=>4|0=>0|20=>20|72=>152|76=>156|70=>149|37=>150|75=>155|127=>221|164=>283|5=>5|80=>165|n=>n,fun|n=>n⟩
theorem Tryz.lays156:Go.Proofs.Lays.n156 Tryz.prog Tryz.lays156_ren:={
 mixed:=by kernel_rfl
 f156:=Tryz.func82.trans (congrArg some (by kernel_rfl))
 f165:=Tryz.func130.trans (congrArg some (by kernel_rfl))
 f166:=Tryz.func81.trans (congrArg some (by kernel_rfl))
 f169:=Tryz.func88.trans (congrArg some (by kernel_rfl))
 f240:=Tryz.func129.trans (congrArg some (by kernel_rfl))
 f241:=Tryz.func186.trans (congrArg some (by kernel_rfl))
 f276:=Tryz.func185.trans (congrArg some (by kernel_rfl))
 f277:=Tryz.func224.trans (congrArg some (by kernel_rfl))
 t0:=Tryz.underlying0
 a0:=Tryz.isAgg0
 z0:=Tryz.sizeOf0
 v0:=Tryz.zeroValue0
 t3:=Tryz.underlying3
 a3:=Tryz.isAgg3
 z3:=Tryz.sizeOf3
 v3:=Tryz.zeroValue3
 t4:=Tryz.underlying4
 a4:=Tryz.isAgg4
 z4:=Tryz.sizeOf4
 v4:=Tryz.zeroValue4
 t9:=Tryz.underlying9
 a9:=Tryz.isAgg9
 z9:=Tryz.sizeOf9
 v9:=Tryz.zeroValue9
 t20:=Tryz.underlying20
 a20:=Tryz.isAgg20
 z20:=Tryz.sizeOf20
 v20:=Tryz.zeroValue20
 t31:=Tryz.underlying153
 a31:=Tryz.isAgg153
 z31:=Tryz.sizeOf153
 v31:=Tryz.zeroValue153
 t37:=Tryz.underlying150
 a37:=Tryz.isAgg150
 z37:=Tryz.sizeOf150
 v37:=Tryz.zeroValue150
 t70:=Tryz.underlying149
 a70:=Tryz.isAgg149
 z70:=Tryz.sizeOf149
 v70:=Tryz.zeroValue149
 t72:=Tryz.underlying152
 a72:=Tryz.isAgg152
 z72:=Tryz.sizeOf152
 v72:=Tryz.zeroValue152
 t75:=Tryz.underlying155
 a75:=Tryz.isAgg155
 z75:=Tryz.sizeOf155
 v75:=Tryz.zeroValue155
 t76:=Tryz.underlying156
 a76:=Tryz.isAgg156
 z76:=Tryz.sizeOf156
 v76:=Tryz.zeroValue156
 t127:=Tryz.underlying221
 a127:=Tryz.isAgg221
 z127:=Tryz.sizeOf221
 v127:=Tryz.zeroValue221
 t164:=Tryz.underlying283
 a164:=Tryz.isAgg283
 z164:=Tryz.sizeOf283
 v164:=Tryz.zeroValue283 }
theorem Tryz.Builder_Extra_156:Builder.Extra Tryz.prog Tryz.lays156_ren:={
 sizeBuilder:=by kernel_rfl
 liesBuilder:=by kernel_rfl
 t5:=Tryz.underlying5
 a5:=Tryz.isAgg5
 z5:=Tryz.sizeOf5
 v5:=Tryz.zeroValue5
 infoByte:=by kernel_rfl
 cellsByte:=by kernel_rfl
 sizeByte:=by kernel_rfl
 neB5:=by decide }
open Go.RowKit in
theorem Tryz.strings_Join (bk o c:Nat)(J:List ByteArray)(I:ByteArray)(w:World)(D:∀(j:Nat) x,J[j]?=some x->w.cell? ⟨bk,o+j,none⟩=some (.string x))(Z:bk<w.heap.size)(hN:J.length<=140737488355328)(M:J.length<=c)(O:(Lib.join (J.map (·.data.toList)) I.data.toList).length<=140737488355328) :
 Calls Tryz.prog 82 #[.slice (some ⟨bk,o,none⟩) J.length c,.string I] w λe w'=>e=.returned (.string ⟨(Lib.join (J.map (·.data.toList)) I.data.toList).toArray⟩)/\Below w.heap.size w w':=Any.strings_Join Tryz.lays156 Tryz.Builder_Extra_156 bk o c J I w D Z hN M O
def Tryz.lays160_ren:Go.Shelf.Ren:=⟨fun|160=>127|232=>177|231=>176|227=>178|234=>180|233=>179|236=>182|235=>181|228=>216|271=>219|151=>218|197=>217|120=>244|152=>243|260=>242|137=>255|119=>256|224=>240|225=>239|217=>238|266=>253|n=>n,fun|9=>9|4=>4|3=>3|5=>5|117=>277|116=>276|0=>0|124=>280|21=>21|105=>306|46=>208|119=>336|139=>339|138=>338|n=>n,fun|3=>5|4=>6|n=>n⟩
theorem Tryz.lays160:Go.Proofs.Lays.n160 Tryz.prog Tryz.lays160_ren:={
 mixed:=by kernel_rfl
 f119:=Tryz.func256.trans (congrArg some (by kernel_rfl))
 f120:=Tryz.func244.trans (congrArg some (by kernel_rfl))
 f137:=Tryz.func255.trans (congrArg some (by kernel_rfl))
 f151:=Tryz.func218.trans (congrArg some (by kernel_rfl))
 f152:=Tryz.func243.trans (congrArg some (by kernel_rfl))
 f160:=Tryz.func127.trans (congrArg some (by kernel_rfl))
 f197:=Tryz.func217.trans (congrArg some (by kernel_rfl))
 f217:=Tryz.func238.trans (congrArg some (by kernel_rfl))
 f224:=Tryz.func240.trans (congrArg some (by kernel_rfl))
 f225:=Tryz.func239.trans (congrArg some (by kernel_rfl))
 f227:=Tryz.func178.trans (congrArg some (by kernel_rfl))
 f228:=Tryz.func216.trans (congrArg some (by kernel_rfl))
 f231:=Tryz.func176.trans (congrArg some (by kernel_rfl))
 f232:=Tryz.func177.trans (congrArg some (by kernel_rfl))
 f233:=Tryz.func179.trans (congrArg some (by kernel_rfl))
 f234:=Tryz.func180.trans (congrArg some (by kernel_rfl))
 f235:=Tryz.func181.trans (congrArg some (by kernel_rfl))
 f236:=Tryz.func182.trans (congrArg some (by kernel_rfl))
 f260:=Tryz.func242.trans (congrArg some (by kernel_rfl))
 f266:=Tryz.func253.trans (congrArg some (by kernel_rfl))
 f271:=Tryz.func219.trans (congrArg some (by kernel_rfl))
 t0:=Tryz.underlying0
 a0:=Tryz.isAgg0
 z0:=Tryz.sizeOf0
 v0:=Tryz.zeroValue0
 t3:=Tryz.underlying3
 a3:=Tryz.isAgg3
 z3:=Tryz.sizeOf3
 v3:=Tryz.zeroValue3
 t4:=Tryz.underlying4
 a4:=Tryz.isAgg4
 z4:=Tryz.sizeOf4
 v4:=Tryz.zeroValue4
 t5:=Tryz.underlying5
 a5:=Tryz.isAgg5
 z5:=Tryz.sizeOf5
 v5:=Tryz.zeroValue5
 t9:=Tryz.underlying9
 a9:=Tryz.isAgg9
 z9:=Tryz.sizeOf9
 v9:=Tryz.zeroValue9
 t21:=Tryz.underlying21
 a21:=Tryz.isAgg21
 z21:=Tryz.sizeOf21
 v21:=Tryz.zeroValue21
 t46:=Tryz.underlying208
 a46:=Tryz.isAgg208
 z46:=Tryz.sizeOf208
 v46:=Tryz.zeroValue208
 t105:=Tryz.underlying306
 a105:=Tryz.isAgg306
 z105:=Tryz.sizeOf306
 v105:=Tryz.zeroValue306
 t116:=Tryz.underlying276
 a116:=Tryz.isAgg276
 z116:=Tryz.sizeOf276
 t117:=Tryz.underlying277
 a117:=Tryz.isAgg277
 z117:=Tryz.sizeOf277
 v117:=Tryz.zeroValue277
 t119:=Tryz.underlying336
 a119:=Tryz.isAgg336
 z119:=Tryz.sizeOf336
 t124:=Tryz.underlying280
 a124:=Tryz.isAgg280
 z124:=Tryz.sizeOf280
 v124:=Tryz.zeroValue280
 t138:=Tryz.underlying338
 a138:=Tryz.isAgg338
 z138:=Tryz.sizeOf338
 v138:=Tryz.zeroValue338
 t139:=Tryz.underlying339
 a139:=Tryz.isAgg339
 z139:=Tryz.sizeOf339
 v139:=Tryz.zeroValue339
 g3:=by kernel_rfl
 g4:=by kernel_rfl }
open Go.RowKit in
theorem Tryz.strings_Trim_one (s:ByteArray)(c:UInt8)(D:c.toNat<128)(w:World)(I:s.size<=9223372036854775807) :
 Calls Tryz.prog 127 #[.string s,.string ⟨#[c]⟩] w λe w'=>e=.returned (.string ⟨(Lib.trimB s.data.toList c).toArray⟩)/\(w'=w\/w'=w.drew):=Any.strings_Trim_one Tryz.lays160 s c D w I
def Tryz.laysM171_ren:Go.Shelf.Ren:=⟨fun|171=>86|243=>132|246=>187|283=>225|284=>226|285=>227|286=>228|129=>163|317=>246|318=>247|319=>248|320=>249|337=>259|338=>260|n=>n,fun|3=>3|9=>9|2=>2|4=>4|171=>316|0=>0|53=>266|37=>150|5=>5|173=>318|212=>332|51=>264|20=>20|213=>333|46=>208|232=>348|233=>349|n=>n,fun|17=>4|18=>7|19=>8|n=>n⟩
theorem Tryz.laysM171:Go.Proofs.LaysM.n171 Tryz.prog Tryz.laysM171_ren:={
 mixed:=by kernel_rfl
 f129:=Tryz.func163.trans (congrArg some (by kernel_rfl))
 f171:=Tryz.func86.trans (congrArg some (by kernel_rfl))
 f243:=Tryz.func132.trans (congrArg some (by kernel_rfl))
 f246:=Tryz.func187.trans (congrArg some (by kernel_rfl))
 f283:=Tryz.func225.trans (congrArg some (by kernel_rfl))
 f284:=Tryz.func226.trans (congrArg some (by kernel_rfl))
 f285:=Tryz.func227.trans (congrArg some (by kernel_rfl))
 f286:=Tryz.func228.trans (congrArg some (by kernel_rfl))
 f317:=Tryz.func246.trans (congrArg some (by kernel_rfl))
 f318:=Tryz.func247.trans (congrArg some (by kernel_rfl))
 f319:=Tryz.func248.trans (congrArg some (by kernel_rfl))
 f320:=Tryz.func249.trans (congrArg some (by kernel_rfl))
 f337:=Tryz.func259.trans (congrArg some (by kernel_rfl))
 f338:=Tryz.func260.trans (congrArg some (by kernel_rfl))
 t0:=Tryz.underlying0
 a0:=Tryz.isAgg0
 z0:=Tryz.sizeOf0
 v0:=Tryz.zeroValue0
 t2:=Tryz.underlying2
 a2:=Tryz.isAgg2
 z2:=Tryz.sizeOf2
 v2:=Tryz.zeroValue2
 t3:=Tryz.underlying3
 a3:=Tryz.isAgg3
 z3:=Tryz.sizeOf3
 v3:=Tryz.zeroValue3
 t4:=Tryz.underlying4
 a4:=Tryz.isAgg4
 z4:=Tryz.sizeOf4
 v4:=Tryz.zeroValue4
 t5:=Tryz.underlying5
 a5:=Tryz.isAgg5
 z5:=Tryz.sizeOf5
 v5:=Tryz.zeroValue5
 t9:=Tryz.underlying9
 a9:=Tryz.isAgg9
 z9:=Tryz.sizeOf9
 v9:=Tryz.zeroValue9
 t20:=Tryz.underlying20
 a20:=Tryz.isAgg20
 z20:=Tryz.sizeOf20
 v20:=Tryz.zeroValue20
 t37:=Tryz.underlying150
 a37:=Tryz.isAgg150
 z37:=Tryz.sizeOf150
 v37:=Tryz.zeroValue150
 t46:=Tryz.underlying208
 a46:=Tryz.isAgg208
 z46:=Tryz.sizeOf208
 v46:=Tryz.zeroValue208
 t51:=Tryz.underlying264
 a51:=Tryz.isAgg264
 z51:=Tryz.sizeOf264
 v51:=Tryz.zeroValue264
 t53:=Tryz.underlying266
 a53:=Tryz.isAgg266
 z53:=Tryz.sizeOf266
 v53:=Tryz.zeroValue266
 t171:=Tryz.underlying316
 a171:=Tryz.isAgg316
 z171:=Tryz.sizeOf316
 v171:=Tryz.zeroValue316
 t173:=Tryz.underlying318
 a173:=Tryz.isAgg318
 z173:=Tryz.sizeOf318
 v173:=Tryz.zeroValue318
 t212:=Tryz.underlying332
 a212:=Tryz.isAgg332
 z212:=Tryz.sizeOf332
 v212:=Tryz.zeroValue332
 t213:=Tryz.underlying333
 a213:=Tryz.isAgg333
 z213:=Tryz.sizeOf333
 t232:=Tryz.underlying348
 a232:=Tryz.isAgg348
 z232:=Tryz.sizeOf348
 v232:=Tryz.zeroValue348
 t233:=Tryz.underlying349
 a233:=Tryz.isAgg349
 z233:=Tryz.sizeOf349
 v233:=Tryz.zeroValue349
 g17:=by kernel_rfl
 g18:=by kernel_rfl
 g19:=by kernel_rfl
 i0:=by kernel_rfl
 i2:=by kernel_rfl
 i3:=by kernel_rfl
 i4:=by kernel_rfl
 i5:=by kernel_rfl
 i9:=by kernel_rfl
 i20:=by kernel_rfl
 i37:=by kernel_rfl
 i46:=by kernel_rfl
 i51:=by kernel_rfl
 i53:=by kernel_rfl
 i171:=by kernel_rfl
 i173:=by kernel_rfl
 i212:=by kernel_rfl
 i232:=by kernel_rfl
 i233:=by kernel_rfl
 m17:=by kernel_rfl
 m18:=by kernel_rfl
 m19:=by kernel_rfl }
open Go.RowKit Go.Sort Go.Lib in
theorem Tryz.strconv_Itoa (n:Int)(I:-9223372036854775808<=n)(h1:n<=9223372036854775807)(w:World)(D:Lib.TabIs Tryz.prog w "internal/strconv.uint64pow10" .u64 Lib.pow10Tab) :
 Calls Tryz.prog 86 #[.int .i64 n] w λe w'=>e=.returned (.string ⟨(Lib.itoa n).toArray⟩)/\∃k J,w'=grow (w.drewN k) J:=Any.strconv_Itoa Tryz.laysM171 n I h1 w D
def Tryz.laysC172_ren:Go.Shelf.Ren:=⟨fun|172=>245|244=>257|245=>258|247=>262|279=>263|280=>264|281=>265|282=>266|287=>267|316=>268|171=>86|205=>269|321=>270|322=>271|243=>132|246=>187|283=>225|284=>226|285=>227|286=>228|129=>163|317=>246|318=>247|319=>248|320=>249|337=>259|338=>260|n=>n,fun|9=>9|3=>3|75=>155|76=>156|4=>4|5=>5|167=>342|37=>150|0=>0|85=>343|2=>2|168=>345|53=>266|175=>350|46=>208|210=>354|127=>221|145=>360|143=>358|21=>21|171=>316|173=>318|212=>332|51=>264|20=>20|213=>333|232=>348|233=>349|80=>165|n=>n,fun|15=>9|16=>10|17=>4|18=>7|19=>8|n=>n⟩
theorem Tryz.laysC172:Go.Proofs.LaysC.n172 Tryz.prog Tryz.laysC172_ren:={
 mixed:=by kernel_rfl
 f129:=Tryz.func163.trans (congrArg some (by kernel_rfl))
 f171:=Tryz.func86.trans (congrArg some (by kernel_rfl))
 f172:=Tryz.func245.trans (congrArg some (by kernel_rfl))
 f205:=Tryz.func269.trans (congrArg some (by kernel_rfl))
 f243:=Tryz.func132.trans (congrArg some (by kernel_rfl))
 f244:=Tryz.func257.trans (congrArg some (by kernel_rfl))
 f245:=Tryz.func258.trans (congrArg some (by kernel_rfl))
 f246:=Tryz.func187.trans (congrArg some (by kernel_rfl))
 f247:=Tryz.func262.trans (congrArg some (by kernel_rfl))
 f279:=Tryz.func263.trans (congrArg some (by kernel_rfl))
 f280:=Tryz.func264.trans (congrArg some (by kernel_rfl))
 f281:=Tryz.func265.trans (congrArg some (by kernel_rfl))
 f282:=Tryz.func266.trans (congrArg some (by kernel_rfl))
 f283:=Tryz.func225.trans (congrArg some (by kernel_rfl))
 f284:=Tryz.func226.trans (congrArg some (by kernel_rfl))
 f285:=Tryz.func227.trans (congrArg some (by kernel_rfl))
 f286:=Tryz.func228.trans (congrArg some (by kernel_rfl))
 f287:=Tryz.func267.trans (congrArg some (by kernel_rfl))
 f316:=Tryz.func268.trans (congrArg some (by kernel_rfl))
 f317:=Tryz.func246.trans (congrArg some (by kernel_rfl))
 f318:=Tryz.func247.trans (congrArg some (by kernel_rfl))
 f319:=Tryz.func248.trans (congrArg some (by kernel_rfl))
 f320:=Tryz.func249.trans (congrArg some (by kernel_rfl))
 f321:=Tryz.func270.trans (congrArg some (by kernel_rfl))
 f322:=Tryz.func271.trans (congrArg some (by kernel_rfl))
 f337:=Tryz.func259.trans (congrArg some (by kernel_rfl))
 f338:=Tryz.func260.trans (congrArg some (by kernel_rfl))
 t0:=Tryz.underlying0
 a0:=Tryz.isAgg0
 z0:=Tryz.sizeOf0
 v0:=Tryz.zeroValue0
 t2:=Tryz.underlying2
 a2:=Tryz.isAgg2
 z2:=Tryz.sizeOf2
 v2:=Tryz.zeroValue2
 t3:=Tryz.underlying3
 a3:=Tryz.isAgg3
 z3:=Tryz.sizeOf3
 v3:=Tryz.zeroValue3
 t4:=Tryz.underlying4
 a4:=Tryz.isAgg4
 z4:=Tryz.sizeOf4
 v4:=Tryz.zeroValue4
 t5:=Tryz.underlying5
 a5:=Tryz.isAgg5
 z5:=Tryz.sizeOf5
 v5:=Tryz.zeroValue5
 t9:=Tryz.underlying9
 a9:=Tryz.isAgg9
 z9:=Tryz.sizeOf9
 v9:=Tryz.zeroValue9
 t20:=Tryz.underlying20
 a20:=Tryz.isAgg20
 z20:=Tryz.sizeOf20
 v20:=Tryz.zeroValue20
 t21:=Tryz.underlying21
 a21:=Tryz.isAgg21
 z21:=Tryz.sizeOf21
 v21:=Tryz.zeroValue21
 t37:=Tryz.underlying150
 a37:=Tryz.isAgg150
 z37:=Tryz.sizeOf150
 v37:=Tryz.zeroValue150
 t46:=Tryz.underlying208
 a46:=Tryz.isAgg208
 z46:=Tryz.sizeOf208
 v46:=Tryz.zeroValue208
 t51:=Tryz.underlying264
 a51:=Tryz.isAgg264
 z51:=Tryz.sizeOf264
 v51:=Tryz.zeroValue264
 t53:=Tryz.underlying266
 a53:=Tryz.isAgg266
 z53:=Tryz.sizeOf266
 v53:=Tryz.zeroValue266
 t75:=Tryz.underlying155
 a75:=Tryz.isAgg155
 z75:=Tryz.sizeOf155
 v75:=Tryz.zeroValue155
 t76:=Tryz.underlying156
 a76:=Tryz.isAgg156
 z76:=Tryz.sizeOf156
 v76:=Tryz.zeroValue156
 t85:=Tryz.underlying343
 a85:=Tryz.isAgg343
 z85:=Tryz.sizeOf343
 v85:=Tryz.zeroValue343
 t127:=Tryz.underlying221
 a127:=Tryz.isAgg221
 z127:=Tryz.sizeOf221
 v127:=Tryz.zeroValue221
 t143:=Tryz.underlying358
 a143:=Tryz.isAgg358
 z143:=Tryz.sizeOf358
 v143:=Tryz.zeroValue358
 t145:=Tryz.underlying360
 a145:=Tryz.isAgg360
 z145:=Tryz.sizeOf360
 v145:=Tryz.zeroValue360
 t167:=Tryz.underlying342
 a167:=Tryz.isAgg342
 z167:=Tryz.sizeOf342
 v167:=Tryz.zeroValue342
 t168:=Tryz.underlying345
 a168:=Tryz.isAgg345
 z168:=Tryz.sizeOf345
 v168:=Tryz.zeroValue345
 t171:=Tryz.underlying316
 a171:=Tryz.isAgg316
 z171:=Tryz.sizeOf316
 v171:=Tryz.zeroValue316
 t173:=Tryz.underlying318
 a173:=Tryz.isAgg318
 z173:=Tryz.sizeOf318
 v173:=Tryz.zeroValue318
 t175:=Tryz.underlying350
 a175:=Tryz.isAgg350
 z175:=Tryz.sizeOf350
 v175:=Tryz.zeroValue350
 t210:=Tryz.underlying354
 a210:=Tryz.isAgg354
 z210:=Tryz.sizeOf354
 v210:=Tryz.zeroValue354
 t212:=Tryz.underlying332
 a212:=Tryz.isAgg332
 z212:=Tryz.sizeOf332
 v212:=Tryz.zeroValue332
 t213:=Tryz.underlying333
 a213:=Tryz.isAgg333
 z213:=Tryz.sizeOf333
 t232:=Tryz.underlying348
 a232:=Tryz.isAgg348
 z232:=Tryz.sizeOf348
 v232:=Tryz.zeroValue348
 t233:=Tryz.underlying349
 a233:=Tryz.isAgg349
 z233:=Tryz.sizeOf349
 v233:=Tryz.zeroValue349
 g15:=by kernel_rfl
 g16:=by kernel_rfl
 g17:=by kernel_rfl
 g18:=by kernel_rfl
 g19:=by kernel_rfl
 t80:=Tryz.underlying165
 a80:=Tryz.isAgg165
 z80:=Tryz.sizeOf165
 v80:=Tryz.zeroValue165
 i0:=by kernel_rfl
 i2:=by kernel_rfl
 i3:=by kernel_rfl
 i4:=by kernel_rfl
 i5:=by kernel_rfl
 i9:=by kernel_rfl
 i20:=by kernel_rfl
 i21:=by kernel_rfl
 i37:=by kernel_rfl
 i46:=by kernel_rfl
 i51:=by kernel_rfl
 i53:=by kernel_rfl
 i75:=by kernel_rfl
 i76:=by kernel_rfl
 i80:=by kernel_rfl
 i85:=by kernel_rfl
 i127:=by kernel_rfl
 i143:=by kernel_rfl
 i145:=by kernel_rfl
 i167:=by kernel_rfl
 i168:=by kernel_rfl
 i171:=by kernel_rfl
 i173:=by kernel_rfl
 i175:=by kernel_rfl
 i210:=by kernel_rfl
 i212:=by kernel_rfl
 i232:=by kernel_rfl
 i233:=by kernel_rfl
 m15:=by kernel_rfl
 m16:=by kernel_rfl
 m17:=by kernel_rfl
 m18:=by kernel_rfl
 m19:=by kernel_rfl
 c0:=by kernel_rfl
 c2:=by kernel_rfl
 c3:=by kernel_rfl
 c4:=by kernel_rfl
 c5:=by kernel_rfl
 c9:=by kernel_rfl
 c20:=by kernel_rfl
 c21:=by kernel_rfl
 c37:=by kernel_rfl
 c46:=by kernel_rfl
 c51:=by kernel_rfl
 c53:=by kernel_rfl
 c75:=by kernel_rfl
 c76:=by kernel_rfl
 c80:=by kernel_rfl
 c85:=by kernel_rfl
 c127:=by kernel_rfl
 c143:=by kernel_rfl
 c145:=by kernel_rfl
 c167:=by kernel_rfl
 c168:=by kernel_rfl
 c171:=by kernel_rfl
 c173:=by kernel_rfl
 c175:=by kernel_rfl
 c210:=by kernel_rfl
 c212:=by kernel_rfl
 c213:=by kernel_rfl
 c232:=by kernel_rfl
 c233:=by kernel_rfl }
open Go.RowKit in
theorem Tryz.strconv_Atoi_ok (s:ByteArray)(D:s.size<=9223372036854775806)(v:Int)(h:Lib.atoiAll s.data.toList=.ok v)(w:World) :
 Calls Tryz.prog 245 #[.string s] w λe w'=>e=.returned (.tuple #[.int .i64 v,.nilIface])/\(w'=w\/∃t,w'=Lib.bytesWorld w 5 t):=Any.strconv_Atoi_ok Tryz.laysC172 s D v h w
open Go.RowKit in
theorem Tryz.strconv_Atoi_syntax (s:ByteArray)(D:s.size<=281474976710656)(h:Lib.atoiAll s.data.toList=Lib.atoiAll [])(ev:Value)(w:World)(J:w.cell? ⟨9,0,none⟩=some ev)(I:ev=.nilIface\/∃te M,ev=.iface te M) :
 Calls Tryz.prog 245 #[.string s] w λe w'=>∃N,e=.returned (.tuple #[.int .i64 (0),.iface 345 (.pointer (some ⟨N,0,none⟩))])/\w.heap.size<=N/\w'.heap[N]?=some (.cells #[.string ⟨#[65,116,111,105]⟩,.string s,ev] 354 (0,0))/\Below w.heap.size w w':=Any.strconv_Atoi_syntax Tryz.laysC172 s D h ev w J I
open Go.RowKit in
theorem Tryz.strconv_Atoi_range (s:ByteArray)(D:s.size<=281474976710656)(h:Lib.atoiAll s.data.toList=.range)(ev:Value)(w:World)(J:w.cell? ⟨10,0,none⟩=some ev)(I:ev=.nilIface\/∃te M,ev=.iface te M) :
 Calls Tryz.prog 245 #[.string s] w λe w'=>∃N,e=.returned (.tuple #[.int .i64 (Lib.atoiSat s.data.toList),.iface 345 (.pointer (some ⟨N,0,none⟩))])/\w.heap.size<=N/\w'.heap[N]?=some (.cells #[.string ⟨#[65,116,111,105]⟩,.string s,ev] 354 (0,0))/\Below w.heap.size w w':=Any.strconv_Atoi_range Tryz.laysC172 s D h ev w J I
def Tryz.lays145_ren:Go.Shelf.Ren:=⟨fun|145=>126|220=>175|219=>215|217=>238|225=>239|224=>240|267=>241|266=>253|314=>254|n=>n,fun|9=>9|4=>4|59=>214|3=>3|5=>5|46=>208|146=>334|51=>264|n=>n,fun|1=>3|n=>n⟩
theorem Tryz.lays145:Go.Proofs.Lays.n145 Tryz.prog Tryz.lays145_ren:={
 mixed:=by kernel_rfl
 f145:=Tryz.func126.trans (congrArg some (by kernel_rfl))
 f217:=Tryz.func238.trans (congrArg some (by kernel_rfl))
 f219:=Tryz.func215.trans (congrArg some (by kernel_rfl))
 f220:=Tryz.func175.trans (congrArg some (by kernel_rfl))
 f224:=Tryz.func240.trans (congrArg some (by kernel_rfl))
 f225:=Tryz.func239.trans (congrArg some (by kernel_rfl))
 f266:=Tryz.func253.trans (congrArg some (by kernel_rfl))
 f267:=Tryz.func241.trans (congrArg some (by kernel_rfl))
 f314:=Tryz.func254.trans (congrArg some (by kernel_rfl))
 t3:=Tryz.underlying3
 a3:=Tryz.isAgg3
 z3:=Tryz.sizeOf3
 v3:=Tryz.zeroValue3
 t4:=Tryz.underlying4
 a4:=Tryz.isAgg4
 z4:=Tryz.sizeOf4
 v4:=Tryz.zeroValue4
 t5:=Tryz.underlying5
 a5:=Tryz.isAgg5
 z5:=Tryz.sizeOf5
 v5:=Tryz.zeroValue5
 t9:=Tryz.underlying9
 a9:=Tryz.isAgg9
 z9:=Tryz.sizeOf9
 v9:=Tryz.zeroValue9
 t46:=Tryz.underlying208
 a46:=Tryz.isAgg208
 z46:=Tryz.sizeOf208
 v46:=Tryz.zeroValue208
 t51:=Tryz.underlying264
 a51:=Tryz.isAgg264
 z51:=Tryz.sizeOf264
 v51:=Tryz.zeroValue264
 t59:=Tryz.underlying214
 a59:=Tryz.isAgg214
 z59:=Tryz.sizeOf214
 v59:=Tryz.zeroValue214
 t146:=Tryz.underlying334
 a146:=Tryz.isAgg334
 z146:=Tryz.sizeOf334
 v146:=Tryz.zeroValue334
 g1:=by kernel_rfl }
open Go.RowKit Go.Lib in
theorem Tryz.strings_Cut (s D:ByteArray)(m:Int)(w:World)(J:s.size<4294967281)(I:w.cell? ⟨3,0,none⟩=some (.int .i64 m)) :
 Calls Tryz.prog 126 #[.string s,.string D] w λe w'=>e=.returned (.tuple #[.string ⟨(Lib.cut s.data.toList D.data.toList).1.toArray⟩,.string ⟨(Lib.cut s.data.toList D.data.toList).2.1.toArray⟩,.bool (Lib.cut s.data.toList D.data.toList).2.2])/\∃n,w'=w.drewN n:=Any.strings_Cut Tryz.lays145 s D m w J I
def Tryz.lays146_ren:Go.Shelf.Ren:=⟨fun|146=>125|221=>174|268=>212|138=>213|143=>214|195=>236|197=>217|218=>237|219=>215|260=>242|217=>238|225=>239|224=>240|267=>241|266=>253|314=>254|n=>n,fun|9=>9|31=>153|3=>3|4=>4|0=>0|105=>306|21=>21|5=>5|46=>208|119=>336|139=>339|138=>338|146=>334|51=>264|n=>n,fun|1=>3|3=>5|4=>6|n=>n⟩
theorem Tryz.lays146:Go.Proofs.Lays.n146 Tryz.prog Tryz.lays146_ren:={
 mixed:=by kernel_rfl
 f138:=Tryz.func213.trans (congrArg some (by kernel_rfl))
 f143:=Tryz.func214.trans (congrArg some (by kernel_rfl))
 f146:=Tryz.func125.trans (congrArg some (by kernel_rfl))
 f195:=Tryz.func236.trans (congrArg some (by kernel_rfl))
 f197:=Tryz.func217.trans (congrArg some (by kernel_rfl))
 f217:=Tryz.func238.trans (congrArg some (by kernel_rfl))
 f218:=Tryz.func237.trans (congrArg some (by kernel_rfl))
 f219:=Tryz.func215.trans (congrArg some (by kernel_rfl))
 f221:=Tryz.func174.trans (congrArg some (by kernel_rfl))
 f224:=Tryz.func240.trans (congrArg some (by kernel_rfl))
 f225:=Tryz.func239.trans (congrArg some (by kernel_rfl))
 f260:=Tryz.func242.trans (congrArg some (by kernel_rfl))
 f266:=Tryz.func253.trans (congrArg some (by kernel_rfl))
 f267:=Tryz.func241.trans (congrArg some (by kernel_rfl))
 f268:=Tryz.func212.trans (congrArg some (by kernel_rfl))
 f314:=Tryz.func254.trans (congrArg some (by kernel_rfl))
 t0:=Tryz.underlying0
 a0:=Tryz.isAgg0
 z0:=Tryz.sizeOf0
 v0:=Tryz.zeroValue0
 t3:=Tryz.underlying3
 a3:=Tryz.isAgg3
 z3:=Tryz.sizeOf3
 v3:=Tryz.zeroValue3
 t4:=Tryz.underlying4
 a4:=Tryz.isAgg4
 z4:=Tryz.sizeOf4
 v4:=Tryz.zeroValue4
 t5:=Tryz.underlying5
 a5:=Tryz.isAgg5
 z5:=Tryz.sizeOf5
 v5:=Tryz.zeroValue5
 t9:=Tryz.underlying9
 a9:=Tryz.isAgg9
 z9:=Tryz.sizeOf9
 v9:=Tryz.zeroValue9
 t21:=Tryz.underlying21
 a21:=Tryz.isAgg21
 z21:=Tryz.sizeOf21
 v21:=Tryz.zeroValue21
 t31:=Tryz.underlying153
 a31:=Tryz.isAgg153
 z31:=Tryz.sizeOf153
 v31:=Tryz.zeroValue153
 t46:=Tryz.underlying208
 a46:=Tryz.isAgg208
 z46:=Tryz.sizeOf208
 v46:=Tryz.zeroValue208
 t51:=Tryz.underlying264
 a51:=Tryz.isAgg264
 z51:=Tryz.sizeOf264
 v51:=Tryz.zeroValue264
 t105:=Tryz.underlying306
 a105:=Tryz.isAgg306
 z105:=Tryz.sizeOf306
 v105:=Tryz.zeroValue306
 t119:=Tryz.underlying336
 a119:=Tryz.isAgg336
 z119:=Tryz.sizeOf336
 t138:=Tryz.underlying338
 a138:=Tryz.isAgg338
 z138:=Tryz.sizeOf338
 v138:=Tryz.zeroValue338
 t139:=Tryz.underlying339
 a139:=Tryz.isAgg339
 z139:=Tryz.sizeOf339
 v139:=Tryz.zeroValue339
 t146:=Tryz.underlying334
 a146:=Tryz.isAgg334
 z146:=Tryz.sizeOf334
 v146:=Tryz.zeroValue334
 g1:=by kernel_rfl
 g3:=by kernel_rfl
 g4:=by kernel_rfl }
open Go.RowKit Go.Lib in
theorem Tryz.strings_Split (s D:ByteArray)(m:Int)(w:World)(J:s.size<4294967281)(I:w.cell? ⟨3,0,none⟩=some (.int .i64 m))(h1:1<=D.size) :
 Calls Tryz.prog 125 #[.string s,.string D] w λe w'=>
  e=.returned (.slice (some ⟨w.heap.size,0,none⟩) (Lib.countB s D+1) (Lib.countB s D+1))/\w'=w.alloc (.cells ((Lib.splitB D 0 (Lib.countB s D) s).map Value.string).toArray 9):=Any.strings_Split Tryz.lays146 (by kernel_rfl) s D m w J I h1
end Go.Proofs
namespace Go.Proofs.YtpgdchkdlgkmgaaGreatDoor
open Go.Lw _root_.Go.Proofs.Tryz
theorem u9k:CallOf prog 86:=mkC func86
theorem j0s {w w':World}{D:String}{k:IntKind}{zs:List Int}{S:List Nat}(h:Lib.TabIs prog w D k zs)(hf:Fr S w w')(M:∀g,prog.globalNamed D=some g->g∉S):Lib.TabIs prog w' D k zs:=by
 unfold Lib.TabIs World.var? at *
 cases hg:prog.globalNamed D with
 | none=>simp[hg]at h
 | some g=>
  simp only[hg,Option.bind_some]at h ⊢;have J:g<w.heap.size:=by
   rcases Nat.lt_or_ge g w.heap.size with I|I
   exact I;rw[Array.getElem?_eq_none I]at h;simp at h
  rw[hf.block g J (M g hg)];exact h
theorem gPow:prog.globalNamed "internal/strconv.uint64pow10" =some 4:=by kernel_rfl
structure Glob (w:World):Prop where
  wd:Cells w ⟨1,0,none⟩ (z8n.map S)
  dr:Cells w ⟨2,0,none⟩ (x2p.map S)
  ml:IntAt 3 w
  tab:Lib.TabIs prog w "internal/strconv.uint64pow10" .u64 Lib.pow10Tab
  es:∃te pe,w.cell? ⟨9,0,none⟩=some (.iface te pe)
  er:∃te pe,w.cell? ⟨10,0,none⟩=some (.iface te pe)
  sz:11<=w.heap.size
theorem Glob.fr {w w':World}{S:List Nat}(h:Glob w)(hf:Fr S w w')(J:∀k∈S,11<=k):Glob w':=by
 have D:∀g,g<11->g∉S:=λg I e=>by have:=J g e;omega
 exact⟨h.wd.fr hf (D _ (by decide)),h.dr.fr hf (D _ (by decide)),h.ml.fr hf (D _ (by decide)),j0s h.tab hf (λg I=>by rw[gPow]at I;cases I;exact D _ (by decide)),let ⟨a,b,e⟩:=h.es;⟨a,b,hf.cell e (D _ (by decide))⟩,let ⟨a,b,e⟩:=h.er;⟨a,b,hf.cell e (D _ (by decide))⟩,Nat.le_trans h.sz hf.size⟩
theorem Glob.ext {w w':World}(h:Glob w)(hf:Fr [] w w'):Glob w':=h.fr hf (by simp)
theorem v4j (w:World)(k:Nat)(l:Array Obj):Fr [] w (Sort.grow (w.drewN k) l):=
 (Fr.drewN [] w k).next ⟨rfl,rfl,rfl,by simp[Sort.grow],λk D _=>by simp only[Sort.grow];exact Array.getElem?_append_left D⟩
theorem y8v (n:Int)(w0:World)(hG:Glob w0)(h:-99<=n/\n<=99):Rets prog 86 #[.int .i64 n] w0 λv w'=>v=S (x5c n)/\Fr [] w0 w':=by
 refine Calls.mono (strconv_Itoa n (by omega) (by omega) w0 hG.tab) ?_;rintro e w' ⟨rfl,k,D,rfl⟩;exact⟨_,rfl,by rw[u4s h];rfl,v4j _ _ _⟩
theorem y8s (b p:Int)(w0:World)(hG:Glob w0):Rets prog 223 #[.agg #[.int .u8 b,.int .i64 p]] w0 λv w'=>v=S (v1k b p)/\Fr [] w0 w':=by
 have Z:=hG.sz;refine we [(0,.agg #[.int .u8 b,.int .i64 p])] func223 U ntmps223 U (.cons U .nil) (sr (bx U (λg1 w1 a0 D M z1=>(asg U (nn (sq (sr (z0l U D z5z (cl (ev1 U) u1h (z4r _ _ _) U ?_)))))))));rintro _ w2 ⟨rfl,I⟩;refine ne' U (nn (cd U (λJ=>?_) (λJ=>?_)));refine sr (asg U (nn (rt (tr (r1 results223 U ?_)))));exact⟨_,rfl,by rw[v1k,if_pos J]<;>rfl,(M.n1 I)⟩;have hr:=x7s.1 (Classical.not_not.1 J);refine sk (tn (sq (sr (fad U z6q ?_))));replace D:=D.ext I;refine z0g U D U x1a (eq' U (nn (cd U (λO=>?_) (λO=>?_))));refine sr (fad U z6t (z0g U D U na3 ?_));replace hG:=hG.ext (M.n1 I);refine cl (ev1 U) u9k (y8v _ _ hG (by omega)) U ?_;rintro _ w3 ⟨rfl,q3⟩;refine y6t U U (by have:=y5c p;simp;omega) U (asg U (kpL [(2,_)] (.cons U .nil) (nn (rt (tr (r1 results223 U ?_))))));exact⟨_,rfl,by rw[v1k,if_neg J,if_pos O]<;>rfl,(M.n2 I q3)⟩;refine sk (tn (sr (fad U z6t (z0g U D U na3 ?_))));replace hG:=hG.ext (M.n1 I);refine cl (ev1 U) u9k (y8v _ _ hG (by omega)) U ?_;rintro _ w4 ⟨rfl,q4⟩;refine y6t U U (by have:=y5c p;simp;omega) U (asg U (kpL [(2,_)] (.cons U .nil) (nn (rt (r1 results223 U ?_)))));exact⟨_,rfl,by rw[v1k,if_neg J,if_neg O]<;>rfl,(M.n2 I q4)⟩
theorem x7q (v:Value)(ys:List (List UInt8))(D:List UInt8)(base T:Nat)(w0:World)(I:Lw.Own Enc.str T base w0 v ys)(M:ys≠[])(hl:(Lib.join ys D).length<=1000000)(a0:ys.length<=1000000):Rets prog 82 #[v,S D] w0 λr w'=>r=S (Lib.join ys D)/\Fr [] w0 w':=by
 rcases I with ⟨_,e⟩|⟨g,cap,cur,rfl,J,O,h1,h2,h3,h4⟩
 exact absurd e M;have hm:(ys.map (λy=>(⟨y.toArray⟩:ByteArray))).map (·.data.toList)=ys:=by rw[List.map_map];simp[Function.comp_def]
 have I:Lw.Own Enc.str T base w0 (.slice (some ⟨g,0,none⟩) ys.length cap) ys:=.inr ⟨g,cap,cur,rfl,J,O,h1,h2,h3,h4⟩;have Z:=strings_Join g 0 cap (ys.map (λy=>(⟨y.toArray⟩:ByteArray))) ⟨D.toArray⟩ w0 (λj x hx=>by
  rw[List.getElem?_map,Option.map_eq_some_iff]at hx;obtain⟨y,hy,rfl⟩:=hx;obtain⟨A,c,e,_,_,hA⟩:=I.sl;cases e;obtain⟨ad,e1,hc⟩:=hA j y hy;cases e1;have:=hc 0 (S y) U;rw[z3p,z3p,Nat.add_zero,show Enc.str.sz=1 from U,Nat.mul_one]at this;exact this) ((Array.getElem?_eq_some_iff.1 O).1) (by simp;omega) (by simp;omega) (by rw[hm];simp;omega)
 rw[hm,List.length_map]at Z;refine Calls.mono Z ?_;rintro e w' ⟨rfl,J⟩;exact⟨_,rfl,by simp[S],Fr.of_below J⟩
theorem v7v (w:World)(t:ByteArray):Fr [] w (Lib.bytesWorld w 5 t):=Fr.of_below (Lib.bytesWorld_below w 5 t)
theorem u4p (l:List UInt8)(w0:World)(hG:Glob w0)(hl:l.length<=1000000):Rets prog 245 #[S l] w0 λr w'=>∃n e,∃b:Bool,r=.tuple #[.int .i64 n,e]/\(e=.nilIface/\b=false\/(∃t p,e=.iface t p)/\b=true)/\u2g l=(if b=true then 0 else n)/\Fr [] w0 w':=by
 have O:(⟨l.toArray⟩:ByteArray).size=l.length:=by simp[ByteArray.size]
 rcases h:Lib.atoiAll l with v|_|_
 refine Calls.mono (strconv_Atoi_ok ⟨l.toArray⟩ (by omega) v (by simpa using h) w0) ?_;rintro e w' ⟨rfl,J⟩;refine⟨_,rfl,v,.nilIface,false,rfl,.inl ⟨rfl,rfl⟩,by simp[u2g,h],?_⟩;rcases J with rfl|⟨t,rfl⟩
 exact Fr.refl _ _;exact v7v w0 t;obtain⟨te,M,I⟩:=hG.es;refine Calls.mono (strconv_Atoi_syntax ⟨l.toArray⟩ (by omega) (show Lib.atoiAll l=Lib.atoiAll [] from h) _ w0 I (.inr ⟨_,_,rfl⟩)) ?_;rintro e w' ⟨N,rfl,_,_,D⟩;exact⟨_,rfl,_,_,true,rfl,.inr ⟨⟨_,_,rfl⟩,rfl⟩,by simp[u2g,h],Fr.of_below D⟩;obtain⟨te,M,I⟩:=hG.er;refine Calls.mono (strconv_Atoi_range ⟨l.toArray⟩ (by omega) (by simpa using h) _ w0 I (.inr ⟨_,_,rfl⟩)) ?_;rintro e w' ⟨N,rfl,_,_,D⟩;exact⟨_,rfl,_,_,true,rfl,.inr ⟨⟨_,_,rfl⟩,rfl⟩,by simp[u2g,h],Fr.of_below D⟩
theorem x8d (l D:List UInt8)(w0:World)(hG:Glob w0)(hl:l.length<4294967281)(h1:1<=D.length):Rets prog 125 #[S l,S D] w0 λr w'=>Lw.Own Enc.str 9 w0.heap.size w' r (Lib.split l D)/\Fr [] w0 w':=by
 obtain⟨k,hk⟩:=hG.ml;have hs:(⟨l.toArray⟩:ByteArray).size=l.length:=by simp[ByteArray.size]
 have a0:(⟨D.toArray⟩:ByteArray).size=D.length:=by simp[ByteArray.size]
 refine Calls.mono (strings_Split ⟨l.toArray⟩ ⟨D.toArray⟩ k w0 (by omega) hk (by omega)) ?_;rintro e w' ⟨rfl,rfl⟩;have Z:=Lib.splitB_data ⟨D.toArray⟩ 0 (Lib.countB ⟨l.toArray⟩ ⟨D.toArray⟩) ⟨l.toArray⟩;have O:Lib.countB ⟨l.toArray⟩ ⟨D.toArray⟩=Lib.count l D:=by simp[Lib.countB]
 have I:=Lib.splitB_all ⟨D.toArray⟩ (by omega) 0 _ ⟨l.toArray⟩ U;have J:=Lib.countB_le ⟨D.toArray⟩ (by omega) _ ⟨l.toArray⟩ (Nat.le_refl _);rw[hs]at J;have M:Lib.split l D=(Lib.splitB ⟨D.toArray⟩ 0 (Lib.countB ⟨l.toArray⟩ ⟨D.toArray⟩) ⟨l.toArray⟩).map (·.data.toList):=by rw[Z,O];rfl
 have hz:∀zs:List ByteArray,zs.map Value.string=(zs.map (·.data.toList)).flatMap Enc.str.enc:=λzs=>by
  induction zs with
  | nil=>rfl
  | cons z zs ih=>rw[List.map_cons,List.map_cons,List.flatMap_cons,<-ih];rfl
 refine⟨_,rfl,.inr ⟨w0.heap.size,Lib.countB ⟨l.toArray⟩ ⟨D.toArray⟩+1,_,by rw[M,List.length_map,I],Nat.le_refl _,heap_alloc_new w0 _,by rw[M,List.length_map,I];exact Nat.le_refl _,by unfold maxLen;omega,?_,?_⟩,Fr.alloc [] w0 _⟩;rw[show Enc.str.sz=1 from U,Nat.mul_one,List.size_toArray,List.length_map,I];exact Nat.le_refl _;rw[M,List.length_map,I,show Enc.str.sz=1 from U,Nat.mul_one,<-hz];exact List.take_of_length_le (by rw[List.length_map,I];exact Nat.le_refl _)
theorem u6z (l:List UInt8)(w0:World)(hl:l.length<=1000000000):Rets prog 127 #[S l,S [32]] w0 λr w'=>r=S (Lib.trimB l 32)/\Fr [] w0 w':=by
 refine Calls.mono (strings_Trim_one ⟨l.toArray⟩ 32 (by decide) w0 (by simp[ByteArray.size];omega)) ?_;rintro e w' ⟨rfl,rfl|rfl⟩;exact⟨_,rfl,by simp[S],Fr.refl _ _⟩;exact⟨_,rfl,by simp[S],Fr.drew _ _⟩
theorem u8r (l m:List UInt8)(w0:World)(hG:Glob w0)(hl:l.length<4294967281):Rets prog 126 #[S l,S m] w0 λv w'=>v=.tuple #[S (Lib.cut l m).1,S (Lib.cut l m).2.1,.bool (Lib.cut l m).2.2]/\Fr [] w0 w':=by
 obtain⟨k,D⟩:=hG.ml;refine Calls.mono (strings_Cut ⟨l.toArray⟩ ⟨m.toArray⟩ k w0 (by simpa[ByteArray.size] using hl) D) ?_;rintro e w' ⟨rfl,n,rfl⟩;exact⟨_,rfl,rfl,Fr.drewN _ _ _⟩
end Go.Proofs.YtpgdchkdlgkmgaaGreatDoor
namespace Go.Lw
theorem y2g {P:Program}{W:World}{n:String}{d:DataW Unit}:∀ {l:List (String×DataW Unit)} {ps:List MemPlace},DataW.LaidVars P W l ps->(n,d)∈l->
    ∃g t cs D p,P.globalNamed n=some g/\(P.globals[g]?).map (·.type)=some t/\W.var? P n=some cs/\DataW.trod (λ_=>()) P W 0 (λ_=>true) false D t cs.toList=some (d,p)
  | [],_,_,I=>by simp at I
  | (m,e)::r,ps,h,I=>by
    obtain⟨g,t,cs,D,p,q,J,M,O,Z,hr,_⟩:=h
    rcases List.mem_cons.1 I with e|I
    · cases e;exact⟨g,t,cs,D,p,J,M,O,Z⟩
    · exact y2g hr I
theorem y9y {H:Type}{enc:TypeId×Value->H}{P:Program}{w:World}{base:Nat}{sp:Nat->Bool}{J:Bool}{D:Nat}{t e:TypeId}{n:Nat}{cs:List Value}{zs:List (List UInt8)}{p:List MemPlace}
    (ht:P.underlying t=some (.array n e)) (he:P.underlying e=some .string) (hce:P.cellsOf e=1) (hct:P.cellsOf t=n)
    (h:DataW.trod enc P w base sp J D t cs=some (.agg (zs.map λz=>.lit (.string z)),p)):cs=zs.map S:=by
  cases D with
  | zero=>simp[DataW.trod]at h
  | succ D=>
    simp only[DataW.trod,ht,hce,hct,Nat.mul_one]at h
    split at h
    · rename_i hl
      obtain⟨O,hm,hx⟩:=Option.map_eq_some_iff.1 h
      have M:O.map (·.1)=zs.map λz=>(DataW.lit (.string z):DataW H):=by
        have:=congrArg Prod.fst hx
        simpa using this
      have a0:O.length=n:=by simpa using Lib.mapM_length hm
      have a1:zs.length=n:=by
        have:=congrArg List.length M
        simp at this
        omega
      apply List.ext_getElem?
      intro i
      by_cases hi:i<n
      · obtain⟨b,hb,hf⟩:=Lib.mapM_at hm i i (by simp[hi])
        obtain⟨s,hc,h2,_⟩:=DataW.trod_string he hf
        have h1:cs[i]?=some (.string s):=by
          have:=congrArg (·[0]?) hc
          simpa[List.getElem?_take,List.getElem?_drop] using this
        have Z:(O.map (·.1))[i]?=some b.1:=by simp[hb]
        rw[M,List.getElem?_map,Option.map_eq_some_iff]at Z
        obtain⟨z,hz,I⟩:=Z
        rw[h2]at I
        simp only[DataW.lit.injEq,Lit.string.injEq]at I
        rw[h1,List.getElem?_map,hz,I]
        simp[S]
      · rw[List.getElem?_eq_none (by omega),List.getElem?_eq_none (by simp;omega)]
    · cases h
theorem u1d {H:Type}{enc:TypeId×Value->H}{P:Program}{w:World}{base:Nat}{sp:Nat->Bool}{I:Bool}{D:Nat}{t:TypeId}{ms}{cs:List Value}{nm:String}{d:DataW H}{p:List MemPlace}
    (ht:P.underlying t=some (.interface ms)) (h:DataW.trod enc P w base sp I D t cs=some (.iface nm d,p)):∃u v,cs=[.iface u v]:=by
  cases D with
  | zero=>simp[DataW.trod]at h
  | succ D=>
    simp only[DataW.trod,ht]at h
    split at h<;>simp_all
theorem j4m {P:Program}{W:World}{n:String}{g:Nat}{cs:Array Value}(I:P.globalNamed n=some g)(h:W.var? P n=some cs):g<W.heap.size:=by
 unfold World.var? at h;simp only[I,Option.bind_some]at h;rcases Nat.lt_or_ge g W.heap.size with D|D
 exact D;rw[Array.getElem?_eq_none D]at h;simp at h
end Go.Lw
namespace Go.Proofs.YtpgdchkdlgkmgaaGreatDoor
open Go.ChangeShapes Go.WideShapes Go.ChangeAt Go.RowKit Go.Lw
theorem own:ownKnob Tryz.prog.godebug=none:=by kernel_rfl
theorem u7m:laidOutB Tryz.prog=true:=by kernel_rfl
def y3c:List (String×DataW Unit):=[("math/bits.deBruijn32tab",Rows.laid_math_bits_deBruijn32tab),("math/bits.deBruijn64tab",Rows.laid_math_bits_deBruijn64tab),("internal/strconv.uint64pow10",Rows.laid_internal_strconv_uint64pow10),("unicode/utf8.acceptRanges",Rows.laid_unicode_utf8_acceptRanges),("strconv.ErrRange",Rows.laid_strconv_ErrRange),("strconv.ErrSyntax",Rows.laid_strconv_ErrSyntax),("gansey/orders.steps",Rows.laid_gansey_orders_steps),("gansey/operations.words",Rows.laid_gansey_operations_words),("gansey/operations.dirs",Rows.laid_gansey_operations_dirs),("unicode/utf8.first",Rows.laid_unicode_utf8_first)]
theorem v0r {n:String}{zs:List (List UInt8)}{W:World}{l:List (String×DataW Unit)}{ps:List MemPlace}{g t m:Nat}(hL:DataW.LaidVars Tryz.prog W l ps)(hm:(n,.agg (zs.map λz=>.lit (.string z)))∈l)(ht:Tryz.prog.underlying t=some (.array m 9))(M:Tryz.prog.globalNamed n=some g:=by kernel_rfl)(I:(Tryz.prog.globals[g]?).map (·.type)=some t:=by kernel_rfl)(D:Tryz.prog.cellsOf t=m:=by kernel_rfl):Cells W ⟨g,0,none⟩ (zs.map S):=by
 obtain⟨g',t',cs,J,p,O,Z,e3,e4⟩:=y2g hL hm;cases M.symm.trans O;cases I.symm.trans Z;have hc:=y9y ht Tryz.underlying9 (by kernel_rfl) D e4;intro j u hu;rw[z3p,Nat.zero_add,World.var?_cell M e3 j,<-Array.getElem?_toList,hc];exact hu
theorem u4b {n nm:String}{d:DataW Unit}{W:World}{l:List (String×DataW Unit)}{ps:List MemPlace}{g:Nat}(hL:DataW.LaidVars Tryz.prog W l ps)(hm:(n,.iface nm d)∈l)(J:Tryz.prog.globalNamed n=some g)(D:(Tryz.prog.globals[g]?).map (·.type)=some 155):∃te pe,W.cell? ⟨g,0,none⟩=some (.iface te pe):=by
 obtain⟨g',t',cs,I,p,M,O,Z,e4⟩:=y2g hL hm;cases J.symm.trans M;cases D.symm.trans O;obtain⟨u,v,hc⟩:=u1d Tryz.underlying155 e4;exact⟨u,v,by rw[World.var?_cell J Z 0,<-Array.getElem?_toList,hc];rfl⟩
theorem u6n {W:World}(h:laidMetH Tryz.prog y3c W)(M:W.ShapedOpen Tryz.prog):Glob W:=by
 have h':laidMet Tryz.prog y3c W:=h;obtain⟨ps,D,_,_⟩:=h';refine⟨?_,?_,(Go.Proofs.cell_of_shapedOpen_int (zero:=#[.int .i64 0]) (t:=3) M (of_decide_eq_true (by kernel_rfl)) (by kernel_rfl) U (by kernel_rfl) (by kernel_rfl) Tryz.underlying3),?_,?_,?_,?_⟩;exact v0r (zs:=z8n) (n:= "gansey/operations.words") (t:=309) (m:=9) D (by simp[y3c];rfl) Tryz.underlying309;exact v0r (zs:=x2p) (n:= "gansey/operations.dirs") (t:=313) (m:=2) D (by simp[y3c];rfl) Tryz.underlying313;obtain⟨g',t',cs,I,p,O,Z,J,e4⟩:=y2g (n:= "internal/strconv.uint64pow10") (d:=Rows.laid_internal_strconv_uint64pow10) D (by simp[y3c]);cases gPow.symm.trans O;cases (show (Tryz.prog.globals[4]?).map (·.type)=some 332 by kernel_rfl).symm.trans Z;unfold Lib.TabIs;rw[J];have:=Lib.cells_of_tab (zs:=Lib.pow10Tab) Tryz.underlying332 Tryz.underlying266 (by kernel_rfl) (by kernel_rfl) e4;rw[<-this];exact u4b (n:= "strconv.ErrSyntax") D (by unfold y3c;simp only[Rows.laid_strconv_ErrSyntax];simp;exact⟨rfl,rfl⟩) (by kernel_rfl) (by kernel_rfl);exact u4b (n:= "strconv.ErrRange") D (by unfold y3c;simp only[Rows.laid_strconv_ErrRange];simp;exact⟨rfl,rfl⟩) (by kernel_rfl) (by kernel_rfl);obtain⟨g',t',cs,I,p,O,Z,J,e4⟩:=y2g (n:= "strconv.ErrRange") (d:=Rows.laid_strconv_ErrRange) D (by simp[y3c]);have:=j4m (show Tryz.prog.globalNamed "strconv.ErrRange" =some 10 by kernel_rfl) J;omega
theorem j2o {W:World}(h:laidMetH Tryz.prog y3c W):StT W:=by
 have h':laidMet Tryz.prog y3c W:=h;obtain⟨ps,hL,_,_⟩:=h';obtain⟨g',t',cs,D,p,J,M,O,Z⟩:=y2g (n:= "gansey/orders.steps") (d:=Rows.laid_gansey_orders_steps) hL (by simp[y3c]);have I:Tryz.prog.globalNamed "gansey/orders.steps" =some 0:=by kernel_rfl
 cases I.symm.trans J;cases (show (Tryz.prog.globals[0]?).map (·.type)=some 290 by kernel_rfl).symm.trans M;have hc:=Lib.cells_of_tab (zs:=[-1,1]) Tryz.underlying290 Tryz.underlying3 (by kernel_rfl) (by kernel_rfl) Z;constructor;intro j u hu;rw[z3p,Nat.zero_add,World.var?_cell I O j,<-Array.getElem?_toList,hc];exact hu
def j1t:List (String×DataW Unit):=y3c.filter λp=>match p.2 with|.iface _ _=>false|_=>true
noncomputable def witP (os:Os):World:=j7l Tryz.prog os j1t
theorem j2x {n:Int}(h:(Lit.int .u8 n).wf=true):0<=n/\n<=255:=by
 have D:IntKind.u8.min<=n/\n<=IntKind.u8.max:=by simpa[Lit.wf] using h
 exact D
noncomputable def u2m (w:World)(g:Nat)(s:List UInt8):World:=layW (w.alloc (.cells #[.string ⟨s.toArray⟩] 360)) g #[.iface 358 (.pointer (some ⟨w.heap.size,0,none⟩))]
noncomputable def j6s (os:Os):World:=u2m (u2m (witP os) 10 [118,97,108,117,101,32,111,117,116,32,111,102,32,114,97,110,103,101]) 9 [105,110,118,97,108,105,100,32,115,121,110,116,97,120]
end Go.Proofs.YtpgdchkdlgkmgaaGreatDoor
namespace Go.Proofs.YtpgdchkdlgkmgaaGreatDoor
open Go.Lw
theorem u0t {cs:List Value}(h:cs.length=6):∃D I c2 c3 c4 c5,cs=[D,I,c2,c3,c4,c5]:=match cs,h with|[D,I,c2,c3,c4,c5],_=>⟨D,I,c2,c3,c4,c5,rfl⟩
theorem opOX:x5s Tryz.prog 76 v7n (λ_ s=>s.Bytes):=by
 intro H enc w base sp D Z cs x h;obtain⟨O,n,_,_,hl,I,hf⟩:=DataW.trod_struct Tryz.underlying76 h;rw[show Tryz.prog.cellsOf 76=6 by kernel_rfl]at hl;obtain⟨J,M,c2,c3,c4,c5,rfl⟩:=u0t hl;have h0:DataW.trod enc Tryz.prog w base sp D n 5 (([J,M,c2,c3,c4,c5].drop 0).take (Tryz.prog.cellsOf 5))=O[0]?:=hf 0 _ U;rw[show Tryz.prog.cellsOf 5=1 by kernel_rfl]at h0;obtain⟨y0,e0,r0⟩:=z4z (cs:=[J]) h0 I (by decide) (z9o Tryz.underlying5);have h1:DataW.trod enc Tryz.prog w base sp D n 5 (([J,M,c2,c3,c4,c5].drop 1).take (Tryz.prog.cellsOf 5))=O[1]?:=hf 1 _ U;rw[show Tryz.prog.cellsOf 5=1 by kernel_rfl]at h1;obtain⟨y1,e1,r1⟩:=z4z (cs:=[M]) h1 I (by decide) (z9o Tryz.underlying5);have h2:DataW.trod enc Tryz.prog w base sp D n 5 (([J,M,c2,c3,c4,c5].drop 2).take (Tryz.prog.cellsOf 5))=O[2]?:=hf 2 _ U;rw[show Tryz.prog.cellsOf 5=1 by kernel_rfl]at h2;obtain⟨y2,e2,r2⟩:=z4z (cs:=[c2]) h2 I (by decide) (z9o Tryz.underlying5);have h3:DataW.trod enc Tryz.prog w base sp D n 5 (([J,M,c2,c3,c4,c5].drop 3).take (Tryz.prog.cellsOf 5))=O[3]?:=hf 3 _ U;rw[show Tryz.prog.cellsOf 5=1 by kernel_rfl]at h3;obtain⟨y3,e3,r3⟩:=z4z (cs:=[c3]) h3 I (by decide) (z9o Tryz.underlying5);have h4:DataW.trod enc Tryz.prog w base sp D n 5 (([J,M,c2,c3,c4,c5].drop 4).take (Tryz.prog.cellsOf 5))=O[4]?:=hf 4 _ U;rw[show Tryz.prog.cellsOf 5=1 by kernel_rfl]at h4;obtain⟨y4,e4,r4⟩:=z4z (cs:=[c4]) h4 I (by decide) (z9o Tryz.underlying5);have h5:DataW.trod enc Tryz.prog w base sp D n 5 (([J,M,c2,c3,c4,c5].drop 5).take (Tryz.prog.cellsOf 5))=O[5]?:=hf 5 _ U;rw[show Tryz.prog.cellsOf 5=1 by kernel_rfl]at h5;obtain⟨y5,e5,r5⟩:=z4z (cs:=[c5]) h5 I (by decide) (z9o Tryz.underlying5);cases e0;cases e1;cases e2;cases e3;cases e4;cases e5;exact⟨⟨y0,y1,y2,y3,y4,y5⟩,rfl,⟨r0,r1,r2,r3,r4,r5⟩⟩
end Go.Proofs.YtpgdchkdlgkmgaaGreatDoor
namespace Go.Proofs.YtpgdchkdlgkmgaaGreatDoor
open Go.Lw _root_.Go.Proofs.Tryz
theorem z3v:ElemOf prog 153 9 Enc.str 16:=ElemOf.mk' (z:=(.string ⟨#[]⟩)) underlying153 (by kernel_rfl) U
theorem na9:z2a prog 9:=λ_=>by kernel_rfl
theorem sz9:z1r prog 9 1:=λ_=>by kernel_rfl
theorem y1e (l:List UInt8)(w0:World)(hG:Glob w0)(hl:l.length<=1000000):Rets prog 220 #[S l] w0 λv w'=>v=.int .i64 (u2g l)/\Fr [] w0 w':=by
 have M:=hG.sz;refine we [(0,S l)] func220 U ntmps220 U (.cons U .nil) (sr (asg U (nn (sr (mv U (cl (ev1 U) (mkC func245) (u4p _ _ hG (by omega)) U ?_))))));rintro _ w1 ⟨n,e,b,rfl,O,I,J⟩;refine mv U (xt U (xt U (asg U (asg U (kpL [(3,_),(4,_)] (.c2 U U) (nn (sq (sr (mv U (u6q U underlying155 O U (nn (cd U (λD=>?_) (λD=>?_)))))))))))));refine sr (asg U (nn (rt (tr (r1 results220 U ?_)))));exact⟨_,rfl,by simp[I,D],J⟩;refine sk (tn (sr (mv U (asg U (nn (rt (r1 results220 U ?_)))))));exact⟨_,rfl,by simp[I,D],J⟩
theorem u4g (l:List UInt8)(w0:World)(hG:Glob w0):Rets prog 221 #[S l] w0 λv w'=>v=.int .u8 (j4z l)/\Fr [] w0 w':=by
 have I:=hG.sz;refine we [(0,S l)] func221 U ntmps221 U (.cons U .nil) (sr (asg U (nn (sq (sr (mv U (y2v U U underlying313 sz9 (z6e U hG.dr U na9 (v8o U U U (nn (cd U (λD=>?_) (λD=>?_))))))))))));refine sr (asg U (nn (rt (tr (r1 results221 U ?_)))));exact⟨_,rfl,by rw[j4z,if_pos D],(Fr.refl _ _)⟩;refine sk (tn (sr (asg U (nn (rt (r1 results221 U ?_))))));exact⟨_,rfl,by rw[j4z,if_neg D],(Fr.refl _ _)⟩
theorem u6u (o:MOp)(w0:World)(hG:Glob w0):Rets prog 184 #[opV o] w0 λv w'=>v=S (j3k o)/\Fr [] w0 w':=by
 have e9:=hG.sz;refine we [(0,opV o)] func184 U ntmps184 U (.cons U .nil) (sr (bx U (λg1 w1 f0 I q1 z1=>(asg U (nn (sq (sr (z0l U I y6b (cl (ev1 U) (mkC func21) (x0g o _) U ?_)))))))));rintro _ w2 ⟨rfl,q2⟩;have z2:=q2.size;refine ne' U (nn (cd U (λc0=>?_) (λc0=>?_)));refine sr (asg U (nn (rt (tr (r1 results184 U ?_)))));exact⟨_,rfl,by rw[j3k,if_pos c0]<;>rfl,(q1.n1 q2)⟩;have hr:=v5f (Classical.not_not.1 c0);refine sk (tn (sr (fad U z3g ?_)));replace I:=I.ext q2;refine z0g U I U na5 (z4w U (us underlying5) underlying3 (wi6 (by omega)) ?_);replace hG:=hG.ext (q1.n1 q2);refine cl (ev1 U) u9k (y8v _ _ hG (by omega)) U ?_;rintro _ w3 ⟨rfl,q3⟩;have z3:=q3.size;refine asg U (nn (sr (fad U z9i ?_)));replace I:=I.ext q3;refine z0g U I U v7l (y2v U U underlying309 sz9 ?_);replace hG:=hG.ext q3;refine z6e U hG.wd (v0i (by omega)) na9 (z2e ([x5f o.k]) (ev1 U) U z3v (λJ w4 e0 D q4 z4=>(asg U ?_)));replace D:=D.low (show w0.heap.size<=J by omega);refine nn ?_;refine jn (ι:=Value) [] (λv4=>[(4,v4)]) (λv4 w'=>Fr [J] w4 w'/\Lw.Own Enc.str 9 w0.heap.size w' v4 (x5f o.k::y3e o)) .nil ?_ ?_;refine sr (fad U z9i ?_);replace I:=I.ext q4;refine z0g U I U v7l (nn (bl (sr (eq' U (asg U (nn (cd U (λc1=>?_) (λc1=>?_))))))));refine rg (mv U (mv U (fad U z6x (z0g U I U y9s (y2v U U underlying313 sz9 ?_)))));replace hG:=hG.ext q4;refine z6e U hG.dr (x7p (by omega)) na9 (z2e ([x5c o.y,u5n o.d]) (ev2 U) U z3v (λe5 w5 e1 b0 q5 z5=>?_));replace D:=D.ext q5;refine z2g (base:=w0.heap.size) U D b0.sl z3v (by unfold maxLen;first|(simp;done)|(simp;omega)) (by simp<;>omega) (λf2 w6 Z q6 d3=>?_);replace q6:Fr [J] _ _:=q6;have z6:=q6.size;refine asg U (kpL [(4,_)] (.cons U .nil) (nl (bn' ?_)));exact jE (_) (.cons U .nil) ⟨((Fr.refl [J] _).z2 q5 q6),by first|(rw[y3e,if_pos c1];exact Z)|(exfalso;omega)⟩;refine sr (eq' U (asg U (nn (cd U (λc2=>?_) (λc2=>?_)))));refine rg (mv U (mv U (z2e ([x5c o.y]) (ev1 U) U z3v (λe6 w7 e2 b1 q7 z7=>?_))));replace D:=D.ext q7;refine z2g (base:=w0.heap.size) U D b1.sl z3v (by unfold maxLen;first|(simp;done)|(simp;omega)) (by simp<;>omega) (λf3 w8 Z q8 d4=>?_);replace q8:Fr [J] _ _:=q8;have z8:=q8.size;refine asg U (kpL [(4,_)] (.cons U .nil) (nl (bn' ?_)));exact jE (_) (.cons U .nil) ⟨((Fr.refl [J] _).z2 q7 q8),by first|(rw[y3e,if_neg c1,if_pos c2];exact Z)|(exfalso;omega)⟩;refine sr (eq' U (asg U (nn (cd U (λc3=>?_) (λc3=>?_)))));refine rg (mv U (fad U y2x (z0g U I U na3 ?_)));replace hG:=hG.ext q4;refine cl (ev1 U) u9k (y8v _ _ hG (by omega)) U ?_;rintro _ w9 ⟨rfl,q9⟩;have z9:=q9.size;refine z2e ([x5c o.r]) (ev1 U) U z3v (λe7 f7 e3 b2 b5 h0=>?_);replace D:=D.ext (q9.n1 b5);refine z2g (base:=w0.heap.size) U D b2.sl z3v (by unfold maxLen;first|(simp;done)|(simp;omega)) (by simp<;>omega) (λf4 f8 Z a5 d5=>?_);replace a5:Fr [J] _ _:=a5;have h1:=a5.size;refine asg U (kpL [(4,_)] (.cons U .nil) (nl (bn' ?_)));exact jE (_) (.cons U .nil) ⟨((Fr.refl [J] _).z3 q9 b5 a5),by first|(rw[y3e,if_neg c1,if_neg c2,if_pos c3];exact Z)|(exfalso;omega)⟩;refine jn (ι:=Bool) [(1,_),(3,_),(4,_),(18,_)] (λb4=>[(43,.bool b4)]) (λb4 w'=>Fr [] w4 w'/\b4=decide ((o.k=4\/o.k=5)\/o.k=6)) (.c4 U U U U) ?_ ?_;refine sr (eq' U (asg U (nn (cd U (λc4=>?_) (λc4=>?_)))));refine sk ?_;exact jE (_) (.c5 U U U U U) ⟨(Fr.refl _ _),by first|exact bi (by omega)|exact bt (by omega)|exact bf (by omega)⟩;refine sr (eq' U (asg U (nn (cd U (λc5=>?_) (λc5=>?_)))));refine sk ?_;exact jE (_) (.c5 U U U U U) ⟨(Fr.refl _ _),by first|exact bi (by omega)|exact bt (by omega)|exact bf (by omega)⟩;refine rg (eq' U (asg U (nl ?_)));exact jE (_) (.c5 U U U U U) ⟨(Fr.refl _ _),by first|exact bi (by omega)|exact bt (by omega)|exact bf (by omega)⟩;rintro b4 c9 ⟨a0,rfl⟩;have h2:=a0.size;refine kpC [(1,_),(3,_),(4,_),(18,_),(43,_)] (.c5 U U U U U) (cd U (λc6=>?_) (λc6=>?_));replace hG:=hG.ext (q4.n1 a0);replace I:=I.ext a0;replace D:=D.ext a0;intro a h;have O:=Fr.refl [J] c9;refine z2t (λwb w'=>Fr [J] wb w') z2r ?_;intro d0 M;have h3:=M.size;replace hG:=hG.ext M;replace I:=I.ext M;replace D:=D.ext M;replace O:=O.next M;have f1:=M.size;clear M;have hC:Fr [J] d0 d0:=Fr.refl _ _;have a7:=hG;have a1:=I;have a4:=D;refine z0e 0 h U λa h=>z0c 1 h U z6x U λa h=>z0k 2 h U (λ_ hw=>a1.fr hw (by simp<;>omega)) U y9s U λa h=>u7q 3 (by kernel_rfl) (by kernel_rfl) (by kernel_rfl) hC h wn U U underlying313 sz9 (by omega) (by omega) U U λa h=>v8x 4 (by kernel_rfl) (by kernel_rfl) (by kernel_rfl) hC h wn U (λ_ hw=>(a7.fr hw (by simp<;>omega)).dr) (x7p (by omega)) na9 U U λa h=>z0c 5 h U z4j U λa h=>z1d (vs:=[_,_]) 6 h U (λ_ hw=>(a1.fr hw (by simp<;>omega))) z5z U U λa h=>z0e 8 h U λa h=>z0d 7 U ?_;refine z0m h (z0a U z0f) (mkC func223) (y8s _ _ _ hG) ?_;rintro _ f9 ⟨rfl,M⟩ a h;have h4:=M.size;replace hG:=hG.ext M;replace I:=I.ext M;replace D:=D.ext M;replace O:=O.next M;replace hC:=hC.next M;clear M;refine z0b ?_;refine z0d 9 U ?_;refine z2w ([u5n o.d,v1k o.b o.p,x5c o.y]) h (z0a U (z0a U (z0a U z0f))) U z3v λa9 g0 hg a3 M hz a h=>?_;have d1:g1<a9:=by have:=I.lt;omega
 have h5:=M.size;replace hG:=hG.ext M;replace I:=I.ext M;replace D:=D.ext M;replace O:=O.next M;replace hC:=hC.next M;clear M;refine z0b ?_;refine z0d 10 U ?_;refine z6f (base:=w0.heap.size) h U U D a3.sl z3v U ?_ (hM:=(by unfold maxLen;first|(simp;done)|(simp;omega))) (hb:=(by simp<;>omega));clear h a;intro f5 g3 Z M d6 a h;replace M:Fr [J] _ _:=M;have d9:=M.size;replace hG:=hG.fr M (by simp[z0v]<;>omega);replace I:=I.fr M;replace O:=O.sp M;replace hC:=hC.sp M;replace a3:=a3.fr M (by simp[z0v]<;>omega);clear M;refine z0b ?_;refine z0d 11 U ?_;refine z0s h U λa h=>?_;refine z0b ?_;refine z0r ?_;clear hC a7 a1 a4;have d9:=O.size;refine bk (h.sub (L':=[(4,_)]) (.cons U .nil)) (bn' ?_);exact jE (_) (.cons U .nil) ⟨((Fr.refl [J] _).z2 a0 O),by first|(rw[y3e,if_neg c1,if_neg c2,if_neg c3,if_pos c6];exact Z)|(exfalso;omega)⟩;refine jn (ι:=Bool) [(1,_),(4,_)] (λb7=>[(58,.bool b7)]) (λb7 w'=>Fr [] c9 w'/\b7=decide (o.k=7\/o.k=8)) (.c2 U U) ?_ ?_;refine sr (eq' U (asg U (nn (cd U (λc7=>?_) (λc7=>?_)))));refine sk ?_;exact jE (_) (.c3 U U U) ⟨(Fr.refl _ _),by first|exact bi (by omega)|exact bt (by omega)|exact bf (by omega)⟩;refine rg (eq' U (asg U (nl ?_)));exact jE (_) (.c3 U U U) ⟨(Fr.refl _ _),by first|exact bi (by omega)|exact bt (by omega)|exact bf (by omega)⟩;rintro b7 g4 ⟨a2,rfl⟩;have h6:=a2.size;refine kpC [(1,_),(4,_),(58,_)] (.c3 U U U) (cd U (λc8=>?_) (λc8=>?_));refine rg (mv U (fad U z4j ?_));replace I:=I.ext (a0.n1 a2);refine z1v (vs:=[_,_]) U I z5z U ?_;replace hG:=hG.ext (q4.n2 a0 a2);refine cl (ev1 U) (mkC func223) (y8s _ _ _ hG) U ?_;rintro _ g5 ⟨rfl,a8⟩;have h7:=a8.size;refine z2e ([v1k o.b o.p]) (ev1 U) U z3v (λe8 g6 e4 b3 b6 h8=>?_);replace D:=D.ext (a0.n3 a2 a8 b6);refine z2g (base:=w0.heap.size) U D b3.sl z3v (by unfold maxLen;first|(simp;done)|(simp;omega)) (by simp<;>omega) (λf6 g7 Z a6 d7=>?_);replace a6:Fr [J] _ _:=a6;have h9:=a6.size;refine asg U (kpL [(4,_)] (.cons U .nil) (nl (bn' ?_)));exact jE (_) (.cons U .nil) ⟨((Fr.refl [J] _).z5 a0 a2 a8 b6 a6),by first|(rw[y3e,if_neg c1,if_neg c2,if_neg c3,if_neg c6,if_pos c8];exact Z)|(exfalso;omega)⟩;refine sk (bn' ?_);exact jE (_) (.cons U .nil) ⟨((Fr.refl [J] _).n2 a0 a2),by first|(rw[y3e,if_neg c1,if_neg c2,if_neg c3,if_neg c6,if_neg c8];exact Z)|(exfalso;omega)⟩;rintro v4 g8 ⟨b8,Z⟩;have i0:=b8.size;refine kpC [(4,_)] (.cons U .nil) (sr (mv U ?_));refine cl (ev2 U) (mkC func82) (x7q _ _ _ _ _ _ Z (by simp) (by have:=v8a o (Classical.not_not.1 c0);omega) (by have:=j4r o;simp;omega)) U ?_;rintro _ g9 ⟨rfl,b9⟩;have i1:=b9.size;refine asg U (nn (rt (r1 results184 U ?_)));exact⟨_,rfl,by rw[j3k,if_neg c0],(q1.z5 q2 q3 q4 b8 b9)⟩
theorem j5q:BuildAt prog 28 [(0,1),(1,1),(2,2),(4,1),(5,1)] [(.int .u8 0),(.int .u8 0),(.int .u8 0),(.int .i64 0),(.int .u8 0),(.int .i64 0)]:=BuildAt.struct underlying28 (λ_=>by kernel_rfl) (λ_=>by kernel_rfl)
theorem j0x:z1a prog 76 0 0:=λ_ _=>by kernel_rfl
theorem u3h:z1a prog 76 1 1:=λ_ _=>by kernel_rfl
theorem j2k:z1a prog 76 2 2:=λ_ _=>by kernel_rfl
theorem j4n:z1a prog 76 3 3:=λ_ _=>by kernel_rfl
theorem v4g:z1a prog 76 4 4:=λ_ _=>by kernel_rfl
theorem j4s:z1a prog 76 5 5:=λ_ _=>by kernel_rfl
theorem sz5:z1r prog 5 1:=λ_=>by kernel_rfl
theorem j4f (x:MOp)(w0:World)(hx:x.Bytes):Rets prog 22 #[oxV x] w0 λv w'=>v=opV (ofO x)/\Fr [] w0 w':=by
 obtain⟨⟨_,_⟩,⟨_,_⟩,⟨_,_⟩,⟨_,_⟩,⟨_,_⟩,⟨_,_⟩⟩:=hx;refine we [(0,oxV x)] func22 U ntmps22 U (.cons U .nil) (sr (bx U (λg1 w1 d0 I q1 z1=>(al v9s U (λg2 w2 d1 J q2 z2=>(nn (sr (fad U j0x ?_))))))));replace I:=I.ext q2;refine z0g U I U na5 (y6d U U (by first|exact IntWalk.rem_in _ _ (by omega)|rfl) (z0w U (wi8 (by omega)) (z1t (cs:=[_,_,_,_,_,_]) (ev1 U) j5q (z0h U z0q) U (al v9s U (λg3 w3 d3 D q3 z3=>?_)))));refine z0j U D v8b (λw4 D q4 z4=>?_) (hl:=rfl);refine nn (sr (fad U j2k ?_));replace I:=(I.ext q3).fr q4;refine z0g U I U na5 (y6d U U (by first|exact IntWalk.rem_in _ _ (by omega)|rfl) (fad U j4n (z0g U I U na5 (y6d U U (by first|exact IntWalk.rem_in _ _ (by omega)|rfl) (z4w U (us underlying5) underlying3 (wi6 (by omega)) (z0w U (wi6 (by omega)) (z1t (cs:=[_,_]) (ev2 U) x0l (z0h U (z0h U z0q)) U (al v9b U (λg4 w5 d4 O q5 z5=>?_)))))))));refine z0j U O y6g (λw6 O q6 z6=>?_) (hl:=rfl);refine kpL [(1,_),(2,_),(3,_),(4,_)] (.c4 U U U U) (nn ?_);refine jn (ι:=Unit) [(2,_),(3,_)] (λ_j=>[]) (λ_j w'=>Fr [g3] w6 w'/\Blk w' g3 28 [.int .u8 (ofO x).k,.int .u8 (ofO x).d,.int .u8 (ofO x).b,.int .i64 (ofO x).p,.int .u8 (ofO x).y,.int .i64 (ofO x).r]) (.c2 U U) ?_ ?_;refine sr (fad U z9i ?_);replace D:=(D.ext q5).fr q6;refine z0g U D U v7l (nn (bl (sr (eq' U (asg U (nn (cd U (λc0=>?_) (λc0=>?_))))))));replace I:=(I.ext q5).fr q6;replace J:=(((J.ext q3).fr q4).ext q5).fr q6;intro a h;have a6:=Fr.refl [g3] w6;refine z2t (λwb w'=>Fr [g3] wb w') z2r ?_;intro w7 M;replace I:=I.ext M;replace J:=J.ext M;replace D:=D.ext M;replace O:=O.ext M;replace a6:=a6.next M;have b0:=M.size;clear M;have hC:Fr [g3] w7 w7:=Fr.refl _ _;have Z:=I;have a4:=J;have a5:=D;have a1:=O;refine z0c 0 h U u3h U λa h=>z0k 1 h U (λ_ hw=>Z.fr hw (by simp<;>omega)) U na5 U λa h=>x5u 2 hC h wn U U (by first|exact IntWalk.rem_in _ _ (by omega)|rfl) U U λa h=>z0c 3 h U v4g U λa h=>z0k 4 h U (λ_ hw=>Z.fr hw (by simp<;>omega)) U na5 U λa h=>x5u 5 hC h wn U U (by first|exact IntWalk.rem_in _ _ (by omega)|rfl) U U λa h=>z4y 6 h U (by first|exact IntWalk.u8_in _ (by omega)|rfl) U λa h=>z0c 7 h U z6x U λa h=>z0d 8 U ?_;refine z3d h U U D U U U j0u λw8 a0 M hz a h=>?_;replace I:=I.fr M;replace J:=J.fr M;replace O:=O.fr M;replace a6:=a6.sp M;replace hC:=hC.sp M;clear D M hz;have D:Blk w8 g3 _ [_,_,_,_,_,_]:=a0;clear a0;refine z0b ?_;refine z0c 9 h U z3g U λa h=>z0d 10 U ?_;refine z3d h U U D U U U sz5 λw9 a0 M hz a h=>?_;replace I:=I.fr M;replace J:=J.fr M;replace O:=O.fr M;replace a6:=a6.sp M;replace hC:=hC.sp M;clear D M hz;have D:Blk w9 g3 _ [_,_,_,_,_,_]:=a0;clear a0;refine z0b ?_;refine z0r ?_;clear hC Z a4 a5 a1;refine bk (h.sub (L':=[(2,_),(3,_)]) (.c2 U U)) (bn' ?_);exact jE (()) (.c2 U U) ⟨((Fr.refl [g3] _).z1 a6),by rw[ofO,ofK,if_pos c0];exact D⟩;refine sr (eq' U (asg U (nn (cd U (λc1=>?_) (λc1=>?_)))));refine rg (fad U v4g ?_);replace I:=(I.ext q5).fr q6;refine z0g U I U na5 (y6d U U (by first|exact IntWalk.rem_in _ _ (by omega)|rfl) (z0w U (wi8 (by omega)) (fad U z3g (z2x U D U sz5 (λb6 D b1 e0=>?_)))));replace D:Blk b6 g3 _ [_,_,_,_,_,_]:=D;refine kpL [(2,_),(3,_)] (.c2 U U) (nl (bn' ?_));exact jE (()) (.c2 U U) ⟨((Fr.refl [g3] _).z1 b1),by rw[ofO,ofK,if_neg c0,if_pos c1];exact D⟩;refine sr (eq' U (asg U (nn (cd U (λc2=>?_) (λc2=>?_)))));refine rg (fad U j4s ?_);replace I:=(I.ext q5).fr q6;refine z0g U I U na5 (y6d U U (by first|exact IntWalk.rem_in _ _ (by omega)|rfl) (z4w U (us underlying5) underlying3 (wi6 (by omega)) (z2u U (wi6 (by omega)) (fad U y2x (z2x U D U sz3 (λb7 D b2 e1=>?_))))));replace D:Blk b7 g3 _ [_,_,_,_,_,_]:=D;refine kpL [(2,_),(3,_)] (.c2 U U) (nl (bn' ?_));exact jE (()) (.c2 U U) ⟨((Fr.refl [g3] _).z1 b2),by rw[ofO,ofK,if_neg c0,if_neg c1,if_pos c2];exact D⟩;refine jn (ι:=Bool) [(1,_),(2,_),(3,_),(4,_)] (λb3=>[(58,.bool b3)]) (λb3 w'=>Fr [] w6 w'/\b3=decide ((1+x.k % 8)=7\/(1+x.k % 8)=8)) (.c4 U U U U) ?_ ?_;refine sr (eq' U (asg U (nn (cd U (λc3=>?_) (λc3=>?_)))));refine sk ?_;exact jE (_) (.c5 U U U U U) ⟨(Fr.refl _ _),by first|exact bi (by omega)|exact bt (by omega)|exact bf (by omega)⟩;refine rg (eq' U (asg U (nl ?_)));exact jE (_) (.c5 U U U U U) ⟨(Fr.refl _ _),by first|exact bi (by omega)|exact bt (by omega)|exact bf (by omega)⟩;rintro b3 b8 ⟨a3,rfl⟩;refine kpC [(1,_),(2,_),(3,_),(4,_),(58,_)] (.c5 U U U U U) (cd U (λc4=>?_) (λc4=>?_));refine rg ?_;replace O:=O.ext a3;refine z0l U O z5z (fad U z4j ?_);replace D:=D.ext a3;refine z4b (cs':=[_,_,_,_,_,_]) U U D (by first|(simp[Value.oneCell',S];done)|exact Enc.one _ _) y6g U (λd5 D b4 e2=>?_);refine nl (bn' ?_);exact jE (()) (.c2 U U) ⟨((Fr.refl [g3] _).z2 a3 b4),by rw[ofO,ofK,if_neg c0,if_neg c1,if_neg c2,if_pos c4];exact D⟩;replace I:=((I.ext q5).fr q6).ext a3;replace J:=((((J.ext q3).fr q4).ext q5).fr q6).ext a3;replace D:=D.ext a3;replace O:=O.ext a3;intro a h;have a2:=Fr.refl [g3] b8;refine z2t (λwb w'=>Fr [g3] wb w') z2r ?_;intro a8 M;replace I:=I.ext M;replace J:=J.ext M;replace D:=D.ext M;replace O:=O.ext M;replace a2:=a2.next M;have b0:=M.size;clear M;have hC:Fr [g3] a8 a8:=Fr.refl _ _;have Z:=I;have a4:=J;have a5:=D;have a1:=O;refine z0c 0 h U u3h U λa h=>z0k 1 h U (λ_ hw=>Z.fr hw (by simp<;>omega)) U na5 U λa h=>x5u 2 hC h wn U U (by first|exact IntWalk.rem_in _ _ (by omega)|rfl) U U λa h=>z0z 3 h U (λ_ hw=>a1.fr hw (by simp<;>omega)) z5z U λa h=>z0c 4 h U v4g U λa h=>z0k 5 h U (λ_ hw=>Z.fr hw (by simp<;>omega)) U na5 U λa h=>x5u 6 hC h wn U U (by first|exact IntWalk.rem_in _ _ (by omega)|rfl) U U λa h=>z4y 7 h U (by first|exact IntWalk.u8_in _ (by omega)|rfl) U λa h=>z0c 8 h U z6x U λa h=>z0d 9 U ?_;refine z3d h U U D U U U j0u λb9 a0 M hz a h=>?_;replace I:=I.fr M;replace J:=J.fr M;replace O:=O.fr M;replace a2:=a2.sp M;replace hC:=hC.sp M;clear D M hz;have D:Blk b9 g3 _ [_,_,_,_,_,_]:=a0;clear a0;refine z0b ?_;refine z0c 10 h U z4j U λa h=>z0d 11 U ?_;refine y7j (cs':=[_,_,_,_,_,_]) h U U D U (by first|(simp[Value.oneCell',S];done)|exact Enc.one _ _) y6g U λd6 a0 M hz a h=>?_;replace I:=I.fr M;replace J:=J.fr M;replace O:=O.fr M;replace a2:=a2.sp M;replace hC:=hC.sp M;clear D M hz;have D:=a0;clear a0;refine z0b ?_;refine z0c 12 h U z3g U λa h=>z0d 13 U ?_;refine z3d h U U D U U U sz5 λc9 a0 M hz a h=>?_;replace I:=I.fr M;replace J:=J.fr M;replace O:=O.fr M;replace a2:=a2.sp M;replace hC:=hC.sp M;clear D M hz;have D:Blk c9 g3 _ [_,_,_,_,_,_]:=a0;clear a0;refine z0b ?_;refine z0r ?_;clear hC Z a4 a5 a1;refine bk (h.sub (L':=[(2,_),(3,_)]) (.c2 U U)) (bn' ?_);exact jE (()) (.c2 U U) ⟨((Fr.refl [g3] _).z2 a3 a2),by rw[ofO,ofK,if_neg c0,if_neg c1,if_neg c2,if_neg c4];exact D⟩;rintro _j d7 ⟨a7,D⟩;have a9:=D.lt;refine kpC [(2,_),(3,_)] (.c2 U U) (sr (z0l U D y6b ?_));replace J:=((((J.ext q3).fr q4).ext q5).fr q6).fr a7;refine z0j U J v8b (λd9 J b5 e3=>?_) (hl:=rfl);refine nn (rt (rC results22 U J y6b  ?_));exact⟨_,rfl,rfl,((q1.z6 q2 q3 q4 q5 q6 a7).z1 b5)⟩
theorem j2d:ElemOf prog 150 5 Enc.b 1:=ElemOf.mk' (z:=(.int .u8 0)) underlying150 (by kernel_rfl) U
theorem sz22:z1r prog 22 1:=λ_=>by kernel_rfl
theorem x2v (l:List UInt8)(w0:World)(hG:Glob w0)(hl:l.length<=1000000):Rets prog 222 #[S l] w0 λv w'=>∃e,v=.tuple #[.agg #[.int .u8 (x3q l).1,.int .i64 (x3q l).2],e]/\Fr [] w0 w':=by
 have b5:=hG.sz;refine we [(0,S l)] func222 U ntmps222 U (.cons U .nil) (sr (al v9b U (λg2 w1 b7 I q1 z1=>(asg U (nn (sq (sq ?_)))))));refine rbo (r:=14) (L':=[(0,_),(2,_)]) ((((l.length:Int)<2)\/(3<(l.length:Int)))) (.c2 U U) ?_ ?_;refine mv U (ln U underlying9 U (lt' U (mv U (gs 10 U (λg0=>?_) (λg0=>?_)))));exact gN U (gN U (gN U (pkt U (rbe U (.c2 U U)))));exact gY U (mv U (gY U (ln U underlying9 U (gY U (gt' U (pkf U (rbe U (.c2 U U))))))));refine tn (cd U (λc0=>?_) (λc0=>?_));refine sr (z1t (cs:=[_,_]) z0f x0l z0q U (z0j U I y6g (λw2 I q2 z2=>?_) (hl:=rfl)));refine asg U (nn (rt (tr (rCT results222 U I z5z U ?_))));exact⟨_,rfl,_,by rw[show x3q l=(0,0) from by rw[x3q,if_pos c0]],(q1.z1 q2)⟩;refine sk (tn (sr (z1t (cs:=[_,_]) z0f x0l z0q U (al v9b U (λg4 w3 b8 D q3 z3=>?_)))));refine z0j U D y6g (λw4 D q4 z4=>?_) (hl:=rfl);refine nn ?_;refine jn (ι:=Int) [(0,_),(2,_),(4,_)] (λb=>[]) (λb w'=>Fr [g4] w4 w'/\j0d l=some b/\(b=0\/b=1)/\Blk w' g4 24 [.int .u8 b,.int .i64 0]) (.c3 U U U) ?_ ?_;refine sr (mv U (u8e (p:=0) U U underlying9 (by omega) (by omega) U U (λb2=>(nn (bl (sr (eq' U (asg U (nn (cd U (λc1=>?_) (λc1=>?_)))))))))));refine rg (fad U z6q (z2x U D U sz22 (λw5 D q5 z5=>?_)));replace D:Blk w5 g4 _ [_,_]:=D;refine nl (bn' ?_);exact jE (_) (.c3 U U U) ⟨((Fr.refl [g4] _).z1 q5),⟨by rw[j0d,if_pos c1],by omega,D⟩⟩;skip;refine sr (eq' U (asg U (nn (cd U (λc2=>?_) (λc2=>?_)))));refine rg (fad U z6q (z2x U D U sz22 (λw6 D q6 z6=>?_)));replace D:Blk w6 g4 _ [_,_]:=D;refine nl (bn' ?_);exact jE (_) (.c3 U U U) ⟨((Fr.refl [g4] _).z1 q6),⟨by rw[j0d,if_neg c1,if_pos c2],by omega,D⟩⟩;refine sr (z1t (cs:=[_,_]) z0f x0l z0q U ?_);replace I:=(I.ext q3).fr q4;refine z0j U I y6g (λw7 I q7 z7=>?_) (hl:=rfl);refine asg U (nn (rt (rb (tr (rCT results222 U I z5z U ?_)))));exact⟨_,rfl,_,by rw[show x3q l=(0,0) from by rw[x3q,if_neg c0,show j0d l=none from by rw[j0d,if_neg c1,if_neg c2]]],(q1.z3 q3 q4 q7)⟩;rintro b w8 ⟨q8,⟨a1,b0,D⟩⟩;have a0:=D.lt;refine kpC [(0,_),(2,_),(4,_)] (.c3 U U U) ?_;have b6:(l.drop 1).length=l.length-1:=List.length_drop;refine sq (sr (mv U (j2z (p:=1) U U underlying9 (by omega) (by omega) U U (j7o U underlying9 underlying150 underlying5 (by unfold maxLen;simp;omega) U (λb4 b3 w9 b1 O q9 z9=>?_)))));refine lnS U underlying150 (mv U (nn (bl ?_)));replace D:=D.ext q9;refine lpK (ι:=Nat) [(0,_),(2,_),(4,_),(28,_),(29,_)] (λi=>[(30,.int .i64 (i:Int))]) (λi w'=>Fr [g4] w9 w'/\i<=(l.drop 1).length/\((l.drop 1).take i).all v7e=true/\Blk w' g4 24 [.int .u8 b,.int .i64 (y5h ((l.drop 1).take i))]) (λi=>(l.drop 1).length-i) 0 (.c6 U U U U U U) ⟨Fr.refl _ _,⟨by omega,rfl,D⟩⟩ ?_;rintro i c9 ⟨M,⟨hi,J,D⟩⟩;have a0:=D.lt;refine kpC [(0,_),(2,_),(4,_),(28,_),(29,_),(30,_)] (.c6 U U U U U U) (sr (lt' U (nn (sq (cd U (λc3=>?_) (λc3=>?_))))));have b9:=x8o ((l.drop 1).getD i 0);refine sk (tn (sq (bl (sr ?_))));replace O:=O.fr M (by simp[z0v]<;>omega);refine z0y (p:=i) (0) U O U j2d (by omega) (λa9 a2=>(z1g U (a2 _ O) na5 (asg U (nn (sq (sq ?_))))));refine rbo (r:=39) (L':=[(0,_),(2,_),(4,_),(6,_),(28,_),(29,_),(30,_)]) ((((((l.drop 1).getD i 0).toNat:Int)<48)\/(57<(((l.drop 1).getD i 0).toNat:Int)))) (.c7 U U U U U U U) ?_ ?_;refine mv U (lt' U (mv U (gs 36 U (λg1=>?_) (λg1=>?_))));exact gN U (gN U (pkt U (rbe U (.c7 U U U U U U U))));exact gY U (mv U (gY U (gt' U (pkf U (rbe U (.c7 U U U U U U U))))));refine tn (cd U (λc4=>?_) (λc4=>?_));refine sr (z1t (cs:=[_,_]) z0f x0l z0q U ?_);replace I:=((((I.ext q3).fr q4).fr q8).ext q9).fr M;refine z0j U I y6g (λd0 I a4 d5=>?_) (hl:=rfl);refine asg U (kpL [(2,_),(3,_)] (.c2 U U) (nn (rt (tr (rb (tr (tr (rb (tr (rCT results222 U I z5z U ?_))))))))));exact⟨_,rfl,_,by rw[show x3q l=(0,0) from by rw[x3q,if_neg c0,a1];simp only;rw[if_pos (u4t _ i (by omega) (by omega))]],(q1.z6 q3 q4 q8 q9 M a4)⟩;have a3:=x0s J (by simp;omega);refine sk (tn (rg (fad U z6t (z0g U D U na3 (x5q U U (wi6 (by omega)) U (mv U (z2u U (wi8 (by omega)) (z4w U (us underlying5) underlying3 (wi6 (by omega)) (z0w U (wi6 (by omega)) (fad U z6t (z2x U D U sz3 (λa8 D a5 d6=>?_))))))))))));replace D:Blk a8 g4 _ [_,_]:=D;refine kpL [(0,_),(2,_),(4,_),(28,_),(29,_),(30,_)] (.c6 U U U U U U) (nl (bn' (tn (rg (z0w U (wi6 (by omega)) (mv U (nl ?_)))))));exact lpE (i+1) (.c6 U U U U U U) ⟨((Fr.refl [g4] _).z2 M a5),⟨by omega,u0w _ _ (by omega) J (by omega),by rw[v0e _ _ (by omega)];exact D⟩⟩ (by omega);obtain rfl:i=(l.drop 1).length:=by omega
 rw[List.take_length]at J D;have a3:=x0s J (by omega);refine ex (te (te (xh (tn (sq (sr (z0l U D z5z ?_)))))));replace hG:=((((hG.ext (q1.n1 q3)).fr q4 (by first|exact z8y hG (by omega)|simp[z0v]<;>omega)).fr q8 (by first|exact z8y hG (by omega)|simp[z0v]<;>omega)).ext q9).fr M (by first|exact z8y hG (by omega)|simp[z0v]<;>omega);refine cl (ev1 U) (mkC func223) (y8s _ _ _ hG) U ?_;rintro _ d1 ⟨rfl,Z⟩;refine mv U (u9u U U U (kpL [(2,_),(4,_),(53,_)] (.c3 U U U) (nn (cd U (λc5=>?_) (λc5=>?_)))));refine sr (z1t (cs:=[_,_]) z0f x0l z0q U ?_);replace I:=(((((I.ext q3).fr q4).fr q8).ext q9).fr M).ext Z;refine z0j U I y6g (λd3 I a6 d7=>?_) (hl:=rfl);refine asg U (nn (rt (tr (rCT results222 U I z5z U ?_))));exact⟨_,rfl,_,by rw[show x3q l=(0,0) from by rw[x3q,if_neg c0,a1];simp only;rw[if_neg (by rw[J];exact λe=>Bool.noConfusion e),if_pos c5]],((q1.z6 q3 q4 q8 q9 M Z).z1 a6)⟩;refine sk (tn (sr ?_));replace D:=D.ext Z;refine z0l U D z5z ?_;replace I:=(((((I.ext q3).fr q4).fr q8).ext q9).fr M).ext Z;refine z0j U I y6g (λd4 I a7 d9=>?_) (hl:=rfl);refine asg U (nn (rt (rCT results222 U I z5z U ?_)));exact⟨_,rfl,_,by rw[show x3q l=(b,y5h (l.drop 1)) from by rw[x3q,if_neg c0,a1];simp only;rw[if_neg (by rw[J];exact λe=>Bool.noConfusion e),if_neg c5]],((q1.z6 q3 q4 q8 q9 M Z).z1 a7)⟩
theorem j5y:z3s prog 309 9:=⟨λ_=>by kernel_rfl,λ_=>by kernel_rfl⟩
theorem sz25:z1r prog 25 1:=λ_=>by kernel_rfl
theorem fld0 (f:F4)(w:World):(Instr.field 188 (.agg (f4L f).toArray) 0).run prog w=.ok (.bool f.1) w:=by kernel_rfl
theorem fld1 (f:F4)(w:World):(Instr.field 188 (.agg (f4L f).toArray) 1).run prog w=.ok (.bool f.2.1) w:=by kernel_rfl
set_option maxHeartbeats 1000000 in
theorem u2c (v:Value)(ws:List (List UInt8))(w0:World)(hG:Glob w0)(Z:Sl Enc.str w0 v ws)(f0:1<=ws.length)(b1:∀i,(ws.getD i []).length<=1000000):Rets prog 183 #[v] w0 λr w'=>r=opV (z4d ws)/\Fr [] w0 w':=by
 obtain⟨A,c,rfl,hc,hM,hA⟩:=id Z;clear hA;have a0:=Z.blk (by intro e;simp[e]at f0);have h4:=hG.sz;refine we [(0,.slice A ws.length c)] func183 U ntmps183 U (.cons U .nil) (sr (al v9s U (λg2 w1 h5 M q1 z1=>?_)));refine nn (sr (z1t (cs:=[_,_,_,_,_,_]) z0f j5q z0q U (al v9s U (λg3 w2 h6 I q2 z2=>?_))));refine z0j U I v8b (λw3 I q3 z3=>?_) (hl:=rfl);refine nn (sq (sr ?_));replace hG:=(hG.ext (q1.n1 q2)).fr q3 (by first|exact z8y hG (by omega)|simp[z0v]<;>omega);refine z1k U hG.wd j5y (mv U (nn (bl ?_)));refine lpK (ι:=Nat) [(0,_),(2,_),(3,_),(7,_)] (λi=>[(8,.int .i64 (i:Int))]) (λi w'=>Fr [g3] w3 w'/\i<=9/\Blk w' g3 28 [.int .u8 (y5j (ws.getD 0 []) i),.int .u8 0,.int .u8 0,.int .i64 0,.int .u8 0,.int .i64 0]) (λi=>9-i) 0 (.c5 U U U U U) ⟨Fr.refl _ _,⟨by omega,I⟩⟩ ?_;rintro i w4 ⟨q4,⟨hi,I⟩⟩;have b6:=I.lt;refine kpC [(0,_),(2,_),(3,_),(7,_),(8,_)] (.c5 U U U U U) (sr (lt' U (nn (sq (cd U (λc0=>?_) (λc0=>?_))))));refine sk (tn (sq (bl (sr (mv U (u2q U U underlying309 sz9 na9 (v9c (by omega)) U (asg U (asg U (nn (sr (mv U (mv U ?_))))))))))));replace Z:=((Z.ext (q1.n1 q2)).fr q3 (by intro k O hb;simp at O;subst O;have:=a0 _ hb;omega)).fr q4 (by intro k O hb;simp at O;subst O;have:=a0 _ hb;omega);refine z0y (p:=0) ([]) U Z U z3v U (λg6 c9=>(z1g U (c9 _ Z) na9 (v8o U U U (nn (cd U (λc1=>?_) (λc1=>?_))))));refine rg (mv U (z4w U (us underlying3) underlying25 (wi8 (by omega)) (fad U z9i (z2x U I U sz25 (λw5 I q5 z5=>?_)))));replace I:Blk w5 g3 _ [_,_,_,_,_,_]:=I;refine nl (bn' (tn (rg (z0w U (wi6 (by omega)) (mv U (nl ?_))))));exact lpE (i+1) (.c5 U U U U U) ⟨((Fr.refl [g3] _).z2 q4 q5),⟨by omega,by first|(rw[y5j,if_pos c1];exact I)|(rw[y5j,if_neg c1];exact I)⟩⟩ (by omega);refine sk (bn' (tn (rg (z0w U (wi6 (by omega)) (mv U (nl ?_))))));exact lpE (i+1) (.c5 U U U U U) ⟨((Fr.refl [g3] _).z1 q4),⟨by omega,by first|(rw[y5j,if_pos c1];exact I)|(rw[y5j,if_neg c1];exact I)⟩⟩ (by omega);obtain rfl:i=9:=by omega
 have h7:=x2z (ws.getD 0 []) 9;replace I:Blk w4 g3 28 [.int .u8 (y8l (ws.getD 0 [])),.int .u8 0,.int .u8 0,.int .i64 0,.int .u8 0,.int .i64 0]:=I;refine ex (te (te (xh (tn ?_))));refine jn (ι:=Unit) [(2,_),(3,_)] (λ_j=>[]) (λ_j w'=>Fr [g3] w4 w'/\Blk w' g3 28 [.int .u8 (z4d ws).k,.int .u8 (z4d ws).d,.int .u8 (z4d ws).b,.int .i64 (z4d ws).p,.int .u8 (z4d ws).y,.int .i64 (z4d ws).r]) (.c2 U U) ?_ ?_;refine bl (sq ?_);refine rbo (r:=21) (L':=[(0,_),(2,_),(3,_)]) ((((y8l (ws.getD 0 []))=1)/\((ws.length:Int)=3))) (.c3 U U U) ?_ ?_;refine fad U z9i (z0g U I U v7l (eq' U (mv U (gs 25 U (λg0=>?_) (λg0=>?_)))));exact gY U (mv U (gY U (lnS U underlying153 (gY U (eq' U (pkt U (asg U (rbe U (.c3 U U U)))))))));exact gN U (gN U (gN U (pkf U (asg U (rbe U (.c3 U U U))))));refine tn (cd U (λc2=>?_) (λc2=>?_));replace hG:=hG.fr q4 (by first|exact z8y hG (by omega)|simp[z0v]<;>omega);replace Z:=((Z.ext (q1.n1 q2)).fr q3 (by intro k O hb;simp at O;subst O;have:=a0 _ hb;omega)).fr q4 (by intro k O hb;simp at O;subst O;have:=a0 _ hb;omega);replace M:=((M.ext q2).fr q3).fr q4;intro a h;have a8:=Fr.refl [g3] w4;refine z2t (λwb w'=>Fr [g3] wb w') z2r ?_;intro w6 J;replace hG:=hG.ext J;replace Z:=Z.ext J;replace M:=M.ext J;replace I:=I.ext J;replace a8:=a8.next J;have b9:=J.size;clear J;have hC:Fr [g3] w6 w6:=Fr.refl _ _;have a6:=hG;have a2:=Z;have a3:=M;have a1:=I;refine z0e 0 h U λa h=>z1f (p:=1) ([]) 1 h U Z U z3v U ?_ (hp:=rfl);clear h a;intro g7 d0 a h;refine z3c 2 h U (λ_ hw=>d0 _ (a2.fr hw (by intro k O hb;simp at O;subst O;have:=a0 _ hb;omega))) na9 U λa h=>z0e 5 h U λa h=>z1f (p:=2) ([]) 6 h U Z U z3v U ?_ (hp:=rfl);clear h a;intro g8 d1 a h;refine z3c 7 h U (λ_ hw=>d1 _ (a2.fr hw (by intro k O hb;simp at O;subst O;have:=a0 _ hb;omega))) na9 U λa h=>z0d 3 U ?_;refine z0m h (z0a U z0f) (mkC func220) (y1e _ _ hG (b1 _)) ?_;rintro _ w7 ⟨rfl,J⟩ a h;replace hG:=hG.ext J;replace Z:=Z.ext J;replace M:=M.ext J;replace I:=I.ext J;replace a8:=a8.next J;replace hC:=hC.next J;clear J;refine z0b ?_;refine x5a 4 hC h wn U (by rw[underlying3];rfl) underlying5 (by first|exact IntWalk.u8_in _ (by omega)|rfl) U U λa h=>z0c 9 h U z3g U λa h=>z0d 8 U ?_;refine z0m h (z0a U z0f) (mkC func221) (u4g _ _ hG) ?_;rintro _ w8 ⟨rfl,J⟩ a h;replace hG:=hG.ext J;replace Z:=Z.ext J;replace M:=M.ext J;replace I:=I.ext J;replace a8:=a8.next J;replace hC:=hC.next J;clear J;refine z0b ?_;refine z0d 10 U ?_;refine z3d h U U I U U U sz5 λw9 a7 J hz a h=>?_;replace hG:=hG.fr J (by simp[z0v]<;>omega);replace Z:=Z.fr J (by intro k O hb;simp at O;subst O;have:=a0 _ hb;omega);replace M:=M.fr J;replace a8:=a8.sp J;replace hC:=hC.sp J;clear I J hz;have I:Blk w9 g3 _ [_,_,_,_,_,_]:=a7;clear a7;refine z0b ?_;refine z0c 11 h U z6x U λa h=>z0d 12 U ?_;refine z3d h U U I U U U j0u λf5 a7 J hz a h=>?_;replace hG:=hG.fr J (by simp[z0v]<;>omega);replace Z:=Z.fr J (by intro k O hb;simp at O;subst O;have:=a0 _ hb;omega);replace M:=M.fr J;replace a8:=a8.sp J;replace hC:=hC.sp J;clear I J hz;have I:Blk f5 g3 _ [_,_,_,_,_,_]:=a7;clear a7;refine z0b ?_;refine z0r ?_;clear hC a6 a2 a3 a1;refine bk (h.sub (L':=[(2,_),(3,_)]) (.c2 U U)) (bn' ?_);exact jE (()) (.c2 U U) ⟨((Fr.refl [g3] _).z1 a8),by rw[z4d,y4l,if_pos c2];exact I⟩;refine sq ?_;refine rbo (r:=41) (L':=[(0,_),(2,_),(3,_)]) ((((y8l (ws.getD 0 []))=2)/\((ws.length:Int)=2))) (.c3 U U U) ?_ ?_;refine fad U z9i (z0g U I U v7l (eq' U (mv U (gs 45 U (λg1=>?_) (λg1=>?_)))));exact gY U (mv U (gY U (lnS U underlying153 (gY U (eq' U (pkt U (asg U (rbe U (.c3 U U U)))))))));exact gN U (gN U (gN U (pkf U (asg U (rbe U (.c3 U U U))))));refine tn (cd U (λc3=>?_) (λc3=>?_));refine rg (mv U ?_);replace Z:=((Z.ext (q1.n1 q2)).fr q3 (by intro k O hb;simp at O;subst O;have:=a0 _ hb;omega)).fr q4 (by intro k O hb;simp at O;subst O;have:=a0 _ hb;omega);refine z0y (p:=1) ([]) U Z U z3v U (λg9 d3=>(z1g U (d3 _ Z) na9 ?_));replace hG:=hG.fr q4 (by first|exact z8y hG (by omega)|simp[z0v]<;>omega);refine cl (ev1 U) (mkC func220) (y1e _ _ hG (b1 _)) U ?_;rintro _ h8 ⟨rfl,e1⟩;refine z4w U (us underlying3) underlying5 (IntKind.wrap_u8 _) (fad U z3g ?_);replace I:=I.ext e1;refine z2x U I U sz5 (λf6 I f1 j1=>?_);replace I:Blk f6 g3 _ [_,_,_,_,_,_]:=I;refine kpL [(2,_),(3,_)] (.c2 U U) (nl (bn' ?_));exact jE (()) (.c2 U U) ⟨((Fr.refl [g3] _).z2 e1 f1),by rw[z4d,y4l,if_neg c2,if_pos c3];exact I⟩;refine sq ?_;refine rbo (r:=56) (L':=[(0,_),(2,_),(3,_)]) ((((y8l (ws.getD 0 []))=3)/\((ws.length:Int)=2))) (.c3 U U U) ?_ ?_;refine fad U z9i (z0g U I U v7l (eq' U (mv U (gs 60 U (λg2=>?_) (λg2=>?_)))));exact gY U (mv U (gY U (lnS U underlying153 (gY U (eq' U (pkt U (asg U (rbe U (.c3 U U U)))))))));exact gN U (gN U (gN U (pkf U (asg U (rbe U (.c3 U U U))))));refine tn (cd U (λc4=>?_) (λc4=>?_));refine rg (mv U ?_);replace Z:=((Z.ext (q1.n1 q2)).fr q3 (by intro k O hb;simp at O;subst O;have:=a0 _ hb;omega)).fr q4 (by intro k O hb;simp at O;subst O;have:=a0 _ hb;omega);refine z0y (p:=1) ([]) U Z U z3v U (λh0 d4=>(z1g U (d4 _ Z) na9 ?_));replace hG:=hG.fr q4 (by first|exact z8y hG (by omega)|simp[z0v]<;>omega);refine cl (ev1 U) (mkC func220) (y1e _ _ hG (b1 _)) U ?_;rintro _ h9 ⟨rfl,e2⟩;refine fad U y2x ?_;replace I:=I.ext e2;refine z2x U I U sz3 (λf7 I f2 j2=>?_);replace I:Blk f7 g3 _ [_,_,_,_,_,_]:=I;refine kpL [(2,_),(3,_)] (.c2 U U) (nl (bn' ?_));exact jE (()) (.c2 U U) ⟨((Fr.refl [g3] _).z2 e2 f2),by rw[z4d,y4l,if_neg c2,if_neg c3,if_pos c4];exact I⟩;refine jn (ι:=Bool) [(0,_),(2,_),(3,_)] (λb5=>[(70,.bool b5)]) (λb5 w'=>Fr [] w4 w'/\b5=decide (fD (y8l (ws.getD 0 []))=true/\(ws.length:Int)=4)) (.c3 U U U) ?_ ?_;replace hG:=hG.fr q4 (by first|exact z8y hG (by omega)|simp[z0v]<;>omega);replace Z:=((Z.ext (q1.n1 q2)).fr q3 (by intro k O hb;simp at O;subst O;have:=a0 _ hb;omega)).fr q4 (by intro k O hb;simp at O;subst O;have:=a0 _ hb;omega);replace M:=((M.ext q2).fr q3).fr q4;intro a h;have a9:=Fr.refl [] w4;refine z2t (λwb w'=>Fr [] wb w') z2r ?_;intro e5 J;replace hG:=hG.ext J;replace Z:=Z.ext J;replace M:=M.ext J;replace I:=I.ext J;replace a9:=a9.next J;have b9:=J.size;clear J;have hC:Fr [] e5 e5:=Fr.refl _ _;have a6:=hG;have a2:=Z;have a3:=M;have a1:=I;refine z0c 1 h U z9i U λa h=>z0k 2 h U (λ_ hw=>a1.ext hw) U v7l U λa h=>z0d 0 U ?_;refine z0m h z0f (mkC func106) (x0b _) ?_;rintro _ i0 ⟨gm,rfl,d9,e0,hm,J⟩ a h;replace hG:=hG.ext J;replace Z:=Z.ext J;replace M:=M.ext J;replace I:=I.ext J;replace a9:=a9.next J;replace hC:=hC.next J;clear J;refine z0b ?_;refine z0d 3 U ?_;refine y1c (V:=kV) (k:=(y8l (ws.getD 0 []))) h U U hm y5z underlying190 x2x (z7j _) U λa h=>?_;refine z0b ?_;refine z0d 4 U ?_;refine x6m h U (λw=>fld0 _ w) U λa h=>?_;refine z0b ?_;refine z0e 5 h U λa h=>?_;refine gSp (D:=76) h U ?_ ?_;clear h;intro g3 h;refine z0e 6 h U ?_ (hG:=(wy U));clear h a;intro a h;refine z8g 7 hC h (wy U) U underlying153 U λa h=>v8j 8 hC h (wy U) U U U U λa h=>z0d 9 U ?_;refine z5n h U λa h=>?_;refine z0b ?_;refine z0d 10 U ?_;refine z0s h U λa h=>?_;refine z0b ?_;refine z0r ?_;clear hC a6 a2 a3 a1;refine bk (h.sub (L':=[(0,_),(2,_),(3,_),(70,_)]) (.c4 U U U U)) ?_;exact jE (_) (.c4 U U U U) ⟨a9,by simp_all [fD]⟩;clear h;intro g3 h;refine z2i 6 h U U λa h=>z2i 7 h U U λa h=>z2i 8 h U U λa h=>z0d 9 U ?_;refine z4m h U λa h=>?_;refine z0b ?_;refine z0d 10 U ?_;refine z0s h U λa h=>?_;refine z0b ?_;refine z0r ?_;clear hC a6 a2 a3 a1;refine bk (h.sub (L':=[(0,_),(2,_),(3,_),(70,_)]) (.c4 U U U U)) ?_;exact jE (_) (.c4 U U U U) ⟨a9,by simp_all [fD]⟩;rintro b5 e6 ⟨a5,rfl⟩;refine kpC [(0,_),(2,_),(3,_),(70,_)] (.c4 U U U U) (cd U (λc5=>?_) (λc5=>?_));refine sr (mv U ?_);replace Z:=(((Z.ext (q1.n1 q2)).fr q3 (by intro k O hb;simp at O;subst O;have:=a0 _ hb;omega)).fr q4 (by intro k O hb;simp at O;subst O;have:=a0 _ hb;omega)).ext a5;refine z0y (p:=2) ([]) U Z U z3v U (λh1 d5=>(z1g U (d5 _ Z) na9 ?_));replace hG:=(hG.fr q4 (by first|exact z8y hG (by omega)|simp[z0v]<;>omega)).ext a5;refine cl (ev1 U) (mkC func222) (x2v _ _ hG (b1 _)) U ?_;rintro _ i1 ⟨e,rfl,b3⟩;refine mv U (xt U (xt U (fad U z4j ?_)));replace I:=I.ext (a5.n1 b3);refine z4b (cs':=[_,_,_,_,_,_]) U U I (by first|(simp[Value.oneCell',S];done)|exact Enc.one _ _) y6g U (λf8 I b7 j3=>?_);refine kpL [(0,_),(2,_),(3,_)] (.c3 U U U) (nn ?_);replace hG:=(hG.ext b3).fr b7 (by first|exact z8y hG (by omega)|simp[z0v]<;>omega);replace Z:=(Z.ext b3).fr b7 (by intro k O hb;simp at O;subst O;have:=a0 _ hb;omega);replace M:=((((M.ext q2).fr q3).fr q4).ext (a5.n1 b3)).fr b7;intro a h;have a4:=Fr.refl [g3] f8;refine z2t (λwb w'=>Fr [g3] wb w') z2r ?_;intro e7 J;replace hG:=hG.ext J;replace Z:=Z.ext J;replace M:=M.ext J;replace I:=I.ext J;replace a4:=a4.next J;have b9:=J.size;clear J;have hC:Fr [g3] e7 e7:=Fr.refl _ _;have a6:=hG;have a2:=Z;have a3:=M;have a1:=I;refine z0e 0 h U λa h=>z1f (p:=1) ([]) 1 h U Z U z3v U ?_ (hp:=rfl);clear h a;intro h2 d6 a h;refine z3c 2 h U (λ_ hw=>d6 _ (a2.fr hw (by intro k O hb;simp at O;subst O;have:=a0 _ hb;omega))) na9 U λa h=>z0e 4 h U λa h=>z1f (p:=3) ([]) 5 h U Z U z3v U ?_ (hp:=rfl);clear h a;intro h3 d7 a h;refine z3c 6 h U (λ_ hw=>d7 _ (a2.fr hw (by intro k O hb;simp at O;subst O;have:=a0 _ hb;omega))) na9 U λa h=>z0d 3 U ?_;refine z0m h (z0a U z0f) (mkC func221) (u4g _ _ hG) ?_;rintro _ i2 ⟨rfl,J⟩ a h;replace hG:=hG.ext J;replace Z:=Z.ext J;replace M:=M.ext J;replace I:=I.ext J;replace a4:=a4.next J;replace hC:=hC.next J;clear J;refine z0b ?_;refine z0c 9 h U z6x U λa h=>z0d 7 U ?_;refine z0m h (z0a U z0f) (mkC func220) (y1e _ _ hG (b1 _)) ?_;rintro _ i3 ⟨rfl,J⟩ a h;replace hG:=hG.ext J;replace Z:=Z.ext J;replace M:=M.ext J;replace I:=I.ext J;replace a4:=a4.next J;replace hC:=hC.next J;clear J;refine z0b ?_;refine x5a 8 hC h wn U (by rw[underlying3];rfl) underlying5 (by first|exact IntWalk.u8_in _ (by omega)|rfl) U U λa h=>z0d 10 U ?_;refine z3d h U U I U U U j0u λf9 a7 J hz a h=>?_;replace hG:=hG.fr J (by simp[z0v]<;>omega);replace Z:=Z.fr J (by intro k O hb;simp at O;subst O;have:=a0 _ hb;omega);replace M:=M.fr J;replace a4:=a4.sp J;replace hC:=hC.sp J;clear I J hz;have I:Blk f9 g3 _ [_,_,_,_,_,_]:=a7;clear a7;refine z0b ?_;refine z0c 11 h U z3g U λa h=>z0d 12 U ?_;refine z3d h U U I U U U sz5 λg5 a7 J hz a h=>?_;replace hG:=hG.fr J (by simp[z0v]<;>omega);replace Z:=Z.fr J (by intro k O hb;simp at O;subst O;have:=a0 _ hb;omega);replace M:=M.fr J;replace a4:=a4.sp J;replace hC:=hC.sp J;clear I J hz;have I:Blk g5 g3 _ [_,_,_,_,_,_]:=a7;clear a7;refine z0b ?_;refine z0r ?_;clear hC a6 a2 a3 a1;refine bk (h.sub (L':=[(2,_),(3,_)]) (.c2 U U)) (bn' ?_);exact jE (()) (.c2 U U) ⟨((Fr.refl [g3] _).z4 a5 b3 b7 a4),by rw[z4d,y4l,if_neg c2,if_neg c3,if_neg c4,if_pos c5];exact I⟩;refine jn (ι:=Bool) [(0,_),(2,_),(3,_)] (λb4=>[(100,.bool b4)]) (λb4 w'=>Fr [] e6 w'/\b4=decide (fN (y8l (ws.getD 0 []))=true/\(ws.length:Int)=2)) (.c3 U U U) ?_ ?_;replace hG:=(hG.fr q4 (by first|exact z8y hG (by omega)|simp[z0v]<;>omega)).ext a5;replace Z:=(((Z.ext (q1.n1 q2)).fr q3 (by intro k O hb;simp at O;subst O;have:=a0 _ hb;omega)).fr q4 (by intro k O hb;simp at O;subst O;have:=a0 _ hb;omega)).ext a5;replace M:=(((M.ext q2).fr q3).fr q4).ext a5;replace I:=I.ext a5;intro a h;have b0:=Fr.refl [] e6;refine z2t (λwb w'=>Fr [] wb w') z2r ?_;intro e8 J;replace hG:=hG.ext J;replace Z:=Z.ext J;replace M:=M.ext J;replace I:=I.ext J;replace b0:=b0.next J;have b9:=J.size;clear J;have hC:Fr [] e8 e8:=Fr.refl _ _;have a6:=hG;have a2:=Z;have a3:=M;have a1:=I;refine z0c 1 h U z9i U λa h=>z0k 2 h U (λ_ hw=>a1.ext hw) U v7l U λa h=>z0d 0 U ?_;refine z0m h z0f (mkC func106) (x0b _) ?_;rintro _ i4 ⟨gm,rfl,d9,e0,hm,J⟩ a h;replace hG:=hG.ext J;replace Z:=Z.ext J;replace M:=M.ext J;replace I:=I.ext J;replace b0:=b0.next J;replace hC:=hC.next J;clear J;refine z0b ?_;refine z0d 3 U ?_;refine y1c (V:=kV) (k:=(y8l (ws.getD 0 []))) h U U hm y5z underlying190 x2x (z7j _) U λa h=>?_;refine z0b ?_;refine z0d 4 U ?_;refine x6m h U (λw=>fld1 _ w) U λa h=>?_;refine z0b ?_;refine z0e 5 h U λa h=>?_;refine gSp (D:=106) h U ?_ ?_;clear h;intro g4 h;refine z0e 6 h U ?_ (hG:=(wy U));clear h a;intro a h;refine z8g 7 hC h (wy U) U underlying153 U λa h=>v8j 8 hC h (wy U) U U U U λa h=>z0d 9 U ?_;refine z5n h U λa h=>?_;refine z0b ?_;refine z0d 10 U ?_;refine z0s h U λa h=>?_;refine z0b ?_;refine z0r ?_;clear hC a6 a2 a3 a1;refine bk (h.sub (L':=[(0,_),(2,_),(3,_),(100,_)]) (.c4 U U U U)) ?_;exact jE (_) (.c4 U U U U) ⟨b0,by simp_all [fN]⟩;clear h;intro g4 h;refine z2i 6 h U U λa h=>z2i 7 h U U λa h=>z2i 8 h U U λa h=>z0d 9 U ?_;refine z4m h U λa h=>?_;refine z0b ?_;refine z0d 10 U ?_;refine z0s h U λa h=>?_;refine z0b ?_;refine z0r ?_;clear hC a6 a2 a3 a1;refine bk (h.sub (L':=[(0,_),(2,_),(3,_),(100,_)]) (.c4 U U U U)) ?_;exact jE (_) (.c4 U U U U) ⟨b0,by simp_all [fN]⟩;rintro b4 i5 ⟨b2,rfl⟩;refine kpC [(0,_),(2,_),(3,_),(100,_)] (.c4 U U U U) (cd U (λc6=>?_) (λc6=>?_));refine rg (mv U ?_);replace Z:=(((Z.ext (q1.n1 q2)).fr q3 (by intro k O hb;simp at O;subst O;have:=a0 _ hb;omega)).fr q4 (by intro k O hb;simp at O;subst O;have:=a0 _ hb;omega)).ext (a5.n1 b2);refine z0y (p:=1) ([]) U Z U z3v U (λe9 b8=>(z1g U (b8 _ Z) na9 ?_));replace hG:=(hG.fr q4 (by first|exact z8y hG (by omega)|simp[z0v]<;>omega)).ext (a5.n1 b2);refine cl (ev1 U) (mkC func222) (x2v _ _ hG (b1 _)) U ?_;rintro _ i7 ⟨e,rfl,e3⟩;refine mv U (xt U (xt U (fad U z4j ?_)));replace I:=I.ext (a5.n2 b2 e3);refine z4b (cs':=[_,_,_,_,_,_]) U U I (by first|(simp[Value.oneCell',S];done)|exact Enc.one _ _) y6g U (λi8 I f3 j4=>?_);refine kpL [(2,_),(3,_)] (.c2 U U) (nl (bn' ?_));exact jE (()) (.c2 U U) ⟨((Fr.refl [g3] _).z4 a5 b2 e3 f3),by rw[z4d,y4l,if_neg c2,if_neg c3,if_neg c4,if_neg c5,if_pos c6];exact I⟩;refine sk (bn' ?_);replace I:=I.ext (a5.n1 b2);exact jE (()) (.c2 U U) ⟨((Fr.refl [g3] _).n2 a5 b2),by rw[z4d,y4l,if_neg c2,if_neg c3,if_neg c4,if_neg c5,if_neg c6];exact I⟩;rintro _j i9 ⟨e4,I⟩;have b6:=I.lt;refine kpC [(2,_),(3,_)] (.c2 U U) (sr (z0l U I y6b ?_));replace M:=(((M.ext q2).fr q3).fr q4).fr e4;refine z0j U M v8b (λj0 M f4 j5=>?_) (hl:=rfl);refine nn (rt (rC results183 U M y6b  ?_));exact⟨_,rfl,rfl,(q1.z5 q2 q3 q4 e4 f4)⟩
theorem v9l (l:List UInt8)(w0:World)(hG:Glob w0)(hl:l.length<=1000000):Rets prog 128 #[S l] w0 λr w'=>∃o e,y4p l=(o,e)/\r=.tuple #[opV o,.int .i64 e]/\Fr [] w0 w':=by
 have a2:=hG.sz;refine we [(0,S l)] func128 U ntmps128 U (.cons U .nil) (sr (al v9s U (λg2 w1 a3 D q1 z1=>(asg U (nn (sr (mv U ?_)))))));replace hG:=hG.ext q1;refine cl (ev2 U) (mkC func125) (x8d _ _ _ hG (by omega) (by decide)) U ?_;rintro v6 w2 ⟨a0,J⟩;have z2:=J.size;replace hG:=hG.ext J;refine cl (ev1 U) (mkC func183) (u2c _ _ _ hG a0.sl (v3w _ _) (λi=>Nat.le_trans (x2l _ _ i) hl)) U ?_;rintro _ w3 ⟨rfl,M⟩;have z3:=M.size;refine al v9s U (λg4 w4 a4 I Z z4=>(z0j U I v8b (λw5 I q5 z5=>?_) (hl:=rfl)));refine nn (sq (sq ?_));refine y9u (r:=16) (L':=[(2,_),(4,_)]) ((((x3d (z4d (Lib.split l [32])))≠0)\/((j3k (z4d (Lib.split l [32])))≠l))) (.c2 U U) ?_ ?_;refine z0l U I y6b (cl (ev1 U) (mkC func21) (x0g (z4d (Lib.split l [32])) _) U ?_);rintro _ w6 ⟨rfl,q6⟩;have z6:=q6.size;refine ne' U (mv U (gs 11 U (λg0=>?_) (λg0=>?_)));exact gN U (gN U (gN U (gN U (pkt U (z8e U (.c2 U U) q6)))));refine gY U ?_;replace I:=I.ext q6;refine z0l U I y6b (gY U ?_);replace hG:=((hG.ext (M.n1 Z)).fr q5 (by first|exact z8y hG (by omega)|simp[z0v]<;>omega)).ext q6;refine cl (ev1 U) (mkC func184) (u6u (z4d (Lib.split l [32])) _ hG) U ?_;rintro _ w7 ⟨rfl,q7⟩;have z7:=q7.size;exact gY U (mv U (gY U (u9u U U U (pkf U (z8e U (.c2 U U) (q6.n1 q7))))));intro w8 O;have z8:=O.size;refine tn (cd U (λc0=>?_) (λc0=>?_));refine sr (z1t (cs:=[_,_,_,_,_,_]) z0f j5q z0q U ?_);replace D:=((D.ext (J.n2 M Z)).fr q5).ext O;refine z0j U D v8b (λw9 D q9 z9=>?_) (hl:=rfl);refine asg U (nn (rt (tr (rCT results128 U D y6b U ?_))));exact⟨_,rfl,op0,4,by rw[y4p,if_pos c0],rfl,(q1.z6 J M Z q5 O q9)⟩;refine sk (tn (sr ?_));replace I:=I.ext O;refine z0l U I y6b ?_;replace D:=((D.ext (J.n2 M Z)).fr q5).ext O;refine z0j U D v8b (λa5 D a1 a6=>?_) (hl:=rfl);refine asg U (nn (rt (rCT results128 U D y6b U ?_)));exact⟨_,rfl,(z4d (Lib.split l [32])),0,by rw[y4p,if_neg c0],rfl,(q1.z6 J M Z q5 O a1)⟩
theorem x9q (l:List UInt8)(w0:World)(hG:Glob w0)(hl:l.length<=1000000):Rets prog 79 #[S l] w0 λr w'=>∃A os n e,y8q l=(os,n,e)/\r=.tuple #[.slice A os.length os.length,.int .i64 n,.int .i64 e]/\Lw.Own z8c 28 w0.heap.size w' (.slice A os.length os.length) os/\Fr [] w0 w':=by
 have a0:=λi=>x2l l [10] i;have b9:=hG.sz;refine we [(0,S l)] func79 U ntmps79 U (.cons U .nil) (sr (asg U (asg U (asg U (nn (sr (asg U (nn (sq (sr (mv U (cl (ev2 U) (mkC func125) (x8d _ _ _ hG (by omega) (by decide)) U ?_))))))))))));rintro d4 w1 ⟨D,q1⟩;have z1:=q1.size;obtain⟨b6,b7,rfl,b3⟩:=D.sl.form;have a7:=λk hk=>(D.blk k hk).2;have a8:=D.sl.len_le;unfold maxLen at a8;refine lnS U underlying153 (mv U (nn (bl ?_)));refine lpK (ι:=Nat×List MOp×Option Addr×Nat) [(12,_),(13,_)] (λp=>[(5,.slice p.2.2.1 p.2.1.length p.2.2.2),(14,.int .i64 (p.1:Int))]) (λp w'=>Fr [] w1 w'/\p.1<=(Lib.split l [10]).length/\Lw.Own z8c 28 w1.heap.size w' (.slice p.2.2.1 p.2.1.length p.2.2.2) p.2.1/\x8y ((Lib.split l [10]).drop p.1) p.1 p.2.1=y8q l/\p.2.1.length<=4096) (λp=>(Lib.split l [10]).length-p.1) (0,[],none,0) (.c4 U U U U) ⟨Fr.refl _ _,⟨Nat.zero_le _,Own.nil _,rfl,by decide⟩⟩ ?_;rintro⟨i,M,A5,c5⟩ w2 ⟨q2,⟨hi,J,I,a2⟩⟩;simp only at hi J I a2;have z2:=q2.size;refine kpC [(12,_),(13,_),(5,.slice A5 M.length c5),(14,.int .i64 (i:Int))] (.c4 U U U U) (sr (lt' U (nn (sq (cd U (λc0=>?_) (λc0=>?_))))));rw[v3g (Lib.split l [10]) i [] (by omega),x8y]at I;have d0:=a0 i;refine sk (tn (sq (bl (sr (mv U ?_)))));replace D:=D.ext q2;refine z0y (p:=i) ([]) U D.sl U z3v (by omega) (λb2 a3=>(z1g U (a3 _ D.sl) na9 (asg U (asg U (nn (sr (mv U ?_)))))));replace hG:=hG.ext (q1.n1 q2);refine cl (ev2 U) (mkC func126) (u8r _ _ _ hG (by have:=a0 i;omega)) U ?_;rintro _ w3 ⟨rfl,q3⟩;have z3:=q3.size;refine mv U (xt U (xt U (xt U (asg U (kpL [(5,_),(6,_),(7,_),(12,_),(13,_),(14,_)] (.c6 U U U U U U) (nn (sr (mv U ?_))))))));refine cl (ev2 U) (mkC func127) (u6z _ _ (by have:=a0 i;have:=v1f ((Lib.split l [10]).getD i []) [35];omega)) U ?_;rintro _ w4 ⟨rfl,q4⟩;have z4:=q4.size;refine asg U (nn (sq (sr (mv U (v8o U U U (nn (cd U (λc1=>?_) (λc1=>?_))))))));rw[if_pos (show y7y ((Lib.split l [10]).getD i [])=[] from c1)]at I;refine ex (te (xh (tn (rg (z0w U (wi6 (by omega)) (mv U (nl ?_)))))));replace J:=J.ext (q3.n1 q4);exact lpE ((i+1,M,A5,c5)) (.c4 U U U U) ⟨(q2.n2 q3 q4),⟨by omega,J,by simpa using I,a2⟩⟩ (by omega);rw[if_neg (show ¬y7y ((Lib.split l [10]).getD i [])=[] from c1)]at I;refine sk (tn (sr (mv U ?_)));replace hG:=hG.ext (q3.n1 q4);refine cl (ev1 U) (mkC func128) (v9l _ _ hG (by have:=a0 i;have:=u1e ((Lib.split l [10]).getD i []);unfold y7y at this;omega)) U ?_;rintro _ w5 ⟨o,e,b0,rfl,q5⟩;have z5:=q5.size;rw[show y4p (y7y ((Lib.split l [10]).getD i []))=(o,e) from b0]at I;simp only at I;refine mv U (xt U (xt U (al v9s U (λg8 w6 d1 a1 q6 z6=>(z0j U a1 v8b (λw7 a1 q7 z7=>?_) (hl:=rfl))))));refine asg U (kpL [(5,_),(6,_),(8,_),(9,_),(12,_),(13,_),(14,_)] (.c7 U U U U U U U) (nn (sq (sr (mv U (ne' U (nn (cd U (λc2=>?_) (λc2=>?_)))))))));rw[if_pos c2]at I;refine sr (mv U (z0w U (wi6 (by omega)) (mv U (asg U (asg U (asg U (kpL [(2,_),(3,_),(4,_)] (.c3 U U U) (nn (rt (tr (rb (tr (tr (rb (tr (r3 results79 U U U ?_))))))))))))))));exact⟨_,rfl,none,[],_,_,I.symm,rfl,Own.nil _,(q1.z6 q2 q3 q4 q5 q6 q7)⟩;rw[if_neg c2]at I;refine sk (tn (sq (sr (mv U (lnS U underlying29 (eq' U (nn (cd U (λc3=>?_) (λc3=>?_)))))))));rw[if_pos c3]at I;refine sr (mv U (z0w U (wi6 (by omega)) (asg U (asg U (asg U (kpL [(2,_),(3,_),(4,_)] (.c3 U U U) (nn (rt (tr (rb (tr (tr (rb (tr (r3 results79 U U U ?_)))))))))))))));exact⟨_,rfl,none,[],_,_,I.symm,rfl,Own.nil _,(q1.z6 q2 q3 q4 q5 q6 q7)⟩;rw[if_neg c3]at I;refine sk (tn (rg (mv U (z0l U a1 y6b (z2e ([o]) (ev1 U) U j3n (λb8 w8 b4 a4 q8 z8=>?_))))));replace hG:=((hG.ext (q5.n1 q6)).fr q7 (by first|exact z8y hG (by omega)|simp[z0v]<;>omega)).ext q8;replace D:=((D.ext (q3.n3 q4 q5 q6)).fr q7 (by first|exact z8y D (by omega)|simp[z0v]<;>omega)).ext q8;replace J:=((J.ext (q3.n3 q4 q5 q6)).fr q7 (by first|exact z8y J (by omega)|simp[z0v]<;>omega)).ext q8;have O:=J;refine z2g U J a4.sl j3n (by unfold maxLen;simp;omega) (by simp;omega) (λd5 w9 J q9 a9=>?_);have z9:=q9.size;replace hG:=hG.fr q9 (λk hk=>by have:=(O.blk k hk).1;omega);replace D:=D.fr q9 (λk hk hb=>by have:=(O.blk k hk).1;have:=a7 k hb;omega);obtain⟨A7,c7,rfl,c9⟩:=J.sl.form;refine asg U (kpL [(5,_),(12,_),(13,_),(14,_)] (.c4 U U U U) (nl (bn' (tn (rg (z0w U (wi6 (by omega)) (mv U (nl ?_))))))));exact lpE ((i+1,M++[o],A7,c7)) (.c4 U U U U) ⟨((q2.z6 q3 q4 q5 q6 q7 q8).step q9 (λk hk d3=>absurd (O.blk k hk).1 (by omega))),⟨by omega,J,by simpa using I,by simp;omega⟩⟩ (by omega);obtain rfl:i=(Lib.split l [10]).length:=by omega
 rw[List.drop_length,x8y]at I;refine ex (te (te (xh (tn (sr (mv U (lnS U underlying29 (z1i (m:=M.length) (c:=M.length) op0 U j3n v9s U (λa6 d6 b5 Z a5 d9=>?_) (hmc:=(Nat.le_refl _))))))))));refine asg U (kpL [(5,_),(10,_)] (.c2 U U) (nn (sr (mv U (mv U ?_)))));replace J:=J.ext a5;refine z7w (zs:=List.replicate M.length op0) (by rw[List.length_replicate];rfl) U (by rw[List.length_replicate];exact Z) J.sl (by rw[List.length_replicate]) j3n (λd7 Z b1 e0=>?_);rw[List.length_replicate]at Z;refine nn (sr (mv U (asg U (asg U (asg U (nn (rt (r3 results79 U U U ?_))))))));exact⟨_,rfl,some ⟨a6,0,none⟩,M,0,0,I.symm,rfl,Z.low (by omega),(q1.z3 q2 a5 b1)⟩
end Go.Proofs.YtpgdchkdlgkmgaaGreatDoor
namespace Go.G08
open Go.Lw Go.G21
def u2v:Nat->Nat->List UInt8
  | 0,_=>[]
  | f+1,u=>if u<10 then [UInt8.ofNat (48+u)] else u2v f (u / 10)++[UInt8.ofNat (48+u % 10)]
theorem v0k:∀f u,u<10 ^ (f+1)->Lib.decDigits u=u2v (f+1) u
 | f,u,h=>by
  rw[Lib.decDigits,u2v]
  by_cases k:u<10
  ·rw[dif_pos k,if_pos k]
  rw[dif_neg k,if_neg k]
  cases f with
  | zero=>omega
  | succ f=>rw[v0k f (u / 10) (by rw[Nat.pow_succ]at h;omega)]
theorem y9j:∀f u,(u2v f u).length<=f
 | 0,_=>by simp[u2v]
 | f+1,u=>by
  rw[u2v];split
  ·simp
  have:=y9j f (u / 10);simp;omega
def v4d (n:Int):List UInt8:=if n<0 then 45::u2v 8 n.natAbs else u2v 8 n.toNat
theorem u7c {n:Int}(h:-99999999<=n/\n<=99999999):Lib.itoa n=v4d n:=by
 unfold Lib.itoa v4d;split<;>rw[v0k 7 _ (by omega)]
theorem z9r (n:Int):(v4d n).length<=9:=by
 unfold v4d;split;have:=y9j 8 n.natAbs;simp;omega;have:=y9j 8 n.toNat;omega
def z7f (i:LId):List UInt8:=v4d i.y++[46]++v4d i.n
theorem y1i (i:LId):(z7f i).length<=19:=by
 unfold z7f;have D:=z9r i.y;have I:=z9r i.n;simp;omega
def z4l (wd:List UInt8)(l:List LId):List (List UInt8):=wd::l.map z7f
def y9l (p:Pa):List UInt8:=if p.f=true then (z7f p.id++(if p.d=1 then [62] else [60]))++[43] else z7f p.id++(if p.d=1 then [62] else [60])
def x0v:List UInt8:=[102,114,111,110,116]
def v2w:List UInt8:=[98,97,99,107]
def j6h:List UInt8:=[110,101,119]
def j5k:List UInt8:=[116,104,114,111,117,103,104]
def u8a:List UInt8:=[112,97,115,116]
def x6c:List UInt8:=[99,114,111,115,115]
def u1z:List UInt8:=[104,101,108,100]
def y2a:List UInt8:=[102,97,108,108,101,110]
def y5y (i:LId)(l:Lp):List (List UInt8):=[z7f i,if l.b=1 then v2w else x0v]++(if l.nw=true then [j6h] else [])
def y4k (i:LId)(l:Lp):List (List UInt8):=y5y i l++(if l.th=[] then [] else z4l j5k l.th)
def y6l (i:LId)(l:Lp):List (List UInt8):=y4k i l++(if l.pa=[] then [] else [u8a])
def y8j (i:LId)(l:Lp):List (List UInt8):=y6l i l++l.pa.map y9l
def y2o (ws:List (List UInt8)):List UInt8:=Lib.join ws [32]++[10]
def x3v (y:Nat):Nat->List Lp->List UInt8
  | _,[]=>[]
  | n,l::r=>y2o (y8j ⟨(y:Int)+1,(n:Int)⟩ l)++x3v y (n+1) r
def y9z:Nat->Tb->List UInt8
  | _,[]=>[]
  | y,r::T=>x3v y 0 r++y9z (y+1) T
def y5t:List Cx->List UInt8
  | []=>[]
  | c::l=>y2o [x6c,z7f c.a,z7f c.b,v4d c.n]++y5t l
def y5w (h:List LId):List UInt8:=if h=[] then [] else y2o (z4l u1z h)
def y5s (f:List LId):List UInt8:=if f=[] then [] else y2o (z4l y2a f)
def j0h (T:Tb)(c:List Cx)(h f:List LId):List UInt8:=y9z 0 T++(y5t c++(y5w h++y5s f))
theorem x9h {y n:Nat}{r:List Lp}(h:n<r.length):x3v y n (r.drop n)=y2o (y8j ⟨(y:Int)+1,(n:Int)⟩ (r.getD n lq0.p))++x3v y (n+1) (r.drop (n+1)):=by
 rw[List.drop_eq_getElem_cons h,x3v,List.getD,List.getElem?_eq_getElem h];rfl
theorem x8x {y:Nat}{T:Tb}(h:y<T.length):y9z y (T.drop y)=x3v y 0 (T.getD y [])++y9z (y+1) (T.drop (y+1)):=by
 rw[List.drop_eq_getElem_cons h,y9z,List.getD,List.getElem?_eq_getElem h];rfl
theorem x8u {i:Nat}{l:List Cx}(h:i<l.length):y5t (l.drop i)=y2o [x6c,z7f (l.getD i cx0).a,z7f (l.getD i cx0).b,v4d (l.getD i cx0).n]++y5t (l.drop (i+1)):=by
 rw[List.drop_eq_getElem_cons h,y5t,List.getD,List.getElem?_eq_getElem h];rfl
end Go.G08
namespace Go.G08
open Go.Lw Go.G21
def IdS (x:LId):Prop:=(-99999999<=x.y/\x.y<=99999999)/\(-99999999<=x.n/\x.n<=99999999)
theorem z6b (wd:List UInt8)(l:List LId):(z4l wd l).length=l.length+1:=by unfold z4l;simp
theorem x3x {wd:List UInt8}{l:List LId}{i:Nat}(h:i<l.length):z4l wd (l.take (i+1))=z4l wd (l.take i)++[z7f (l.getD i id0)]:=by
 unfold z4l;rw[z6i id0 h];simp
theorem u5e {x:LId}{l:Lp}(h:l.nw=true):y5y x l=[z7f x,if l.b=1 then v2w else x0v]++[j6h]:=by unfold y5y;rw[if_pos h]
theorem u5v {x:LId}{l:Lp}(h:¬l.nw=true):y5y x l=[z7f x,if l.b=1 then v2w else x0v]:=by unfold y5y;rw[if_neg h,List.append_nil]
theorem u5p {x:LId}{l:Lp}(h:0<l.th.length):y4k x l=y5y x l++z4l j5k l.th:=by
 unfold y4k;rw[if_neg];intro e;rw[e]at h;cases h
theorem u8u {x:LId}{l:Lp}(h:¬0<l.th.length):y4k x l=y5y x l:=by
 unfold y4k;rw[if_pos (List.length_eq_zero_iff.1 (by omega)),List.append_nil]
theorem u7i {x:LId}{l:Lp}(h:0<l.pa.length):y6l x l=y4k x l++[u8a]:=by
 unfold y6l;rw[if_neg];intro e;rw[e]at h;cases h
theorem u8b {x:LId}{l:Lp}(h:¬0<l.pa.length):y6l x l=y4k x l:=by
 unfold y6l;rw[if_pos (List.length_eq_zero_iff.1 (by omega)),List.append_nil]
theorem x1p (x:LId)(l:Lp):(y5y x l).length<=3:=by unfold y5y;(repeat' split)<;>simp
theorem x2y (x:LId)(l:Lp):(y4k x l).length<=4+l.th.length:=by
 have:=x1p x l;unfold y4k;split;simp;omega;rw[List.length_append,z6b];omega
theorem x3i (x:LId)(l:Lp):(y6l x l).length<=5+l.th.length:=by
 have:=x2y x l;unfold y6l;split;simp;omega;rw[List.length_append,List.length_singleton];omega
theorem v5z (x:LId)(l:Lp):(y8j x l).length<=5+l.th.length+l.pa.length:=by
 have:=x3i x l;unfold y8j;rw[List.length_append,List.length_map];omega
theorem v8m (x:LId)(l:Lp):y8j x l≠[]:=by
 intro e;have:=congrArg List.length e;unfold y8j y6l y4k y5y at this;simp at this
end Go.G08
namespace Go.G08
open Go.Lw Go.G21
theorem z8v:∀(T:Tb) (y:Nat),z2o T y<=z3t T
 | [],y=>by simp[z2o]
 | r::T,0=>by simp[z2o,z3t]
 | r::T,y+1=>by
  have:=z8v T y
  simp only[z2o,z3t,List.getD_cons_succ,List.map_cons,List.sum_cons]at this ⊢;omega
theorem z6r {T:Tb}(h:TabOk T){x:LId}(D:z3z T x):IdS x:=by
 obtain⟨I,J,M,O⟩:=D;have:=z8v T (x.y-1).toNat;have Z:=h.six;have hc:=h.cnt;exact⟨by omega,by omega⟩
theorem u8p {h:List LId}(k:0<h.length):y5w h=y2o (z4l u1z h):=by
 unfold y5w;rw[if_neg];intro e;rw[e]at k;cases k
theorem u4y {h:List LId}(k:¬0<h.length):y5w h=[]:=if_pos (List.length_eq_zero_iff.1 (by omega))
theorem v0v {h:List LId}(k:0<h.length):y5s h=y2o (z4l y2a h):=by
 unfold y5s;rw[if_neg];intro e;rw[e]at k;cases k
theorem v0q {h:List LId}(k:¬0<h.length):y5s h=[]:=if_pos (List.length_eq_zero_iff.1 (by omega))
def j6q (T:Tb):List LId:=(List.range 6).flatMap λy=>(List.range (z2o T y)).map λ(n:Nat)=>(⟨(y:Int)+1,(n:Int)⟩:LId)
theorem x1n:∀ {l m:List LId},l.Nodup->(∀x∈l,x∈m)->l.length<=m.length
 | [],_,_,_=>Nat.zero_le _
 | x::l,m,hn,hs=>by
  have I:=hs x (by simp)
  have D:=List.nodup_cons.1 hn
  have:=x1n (l:=l) (m:=m.erase x) D.2 (λy J=>(List.mem_erase_of_ne (λe=>D.1 (by rw[<-e];exact J))).2 (hs y (List.mem_cons_of_mem _ J)))
  rw[List.length_erase_of_mem I]at this
  have M:=List.length_pos_of_mem I
  rw[List.length_cons];omega
theorem y5r {T:Tb}(h:TabOk T){l:List LId}(I:∀x∈l,z3z T x)(hn:∀x,l.count x<=1):l.length<=100000:=by
 have M:∀x∈l,x∈j6q T:=λx O=>by
  obtain⟨y,n,Z,hn,rfl⟩:=y8c h.six (I x O);exact List.mem_flatMap.2 ⟨y,List.mem_range.2 Z,List.mem_map.2 ⟨n,List.mem_range.2 hn,rfl⟩⟩
 have D:l.Nodup:=List.nodup_iff_count.2 hn;have J:=x1n D M;have e:(j6q T).length=z2o T 0+(z2o T 1+(z2o T 2+(z2o T 3+(z2o T 4+z2o T 5)))):=by
  unfold j6q;rw[show List.range 6=[0,1,2,3,4,5] from U];simp
 have h0:=z8v T 0;have h1:=z8v T 1;have h2:=z8v T 2;have h3:=z8v T 3;have h4:=z8v T 4;have h5:=z8v T 5;have:=h.cnt;omega
end Go.G08
namespace Go.Proofs.YtpgdchkdlgkmgaaGreatDoor
open Go.Lw Go.G21 Go.G08 _root_.Go.Proofs.Tryz
theorem x4w (n:Int)(w0:World)(hG:Glob w0)(h:-99999999<=n/\n<=99999999):Rets prog 86 #[.int .i64 n] w0 λv w'=>v=S (v4d n)/\Fr [] w0 w':=by
 refine Calls.mono (strconv_Itoa n (by omega) (by omega) w0 hG.tab) ?_;rintro e w' ⟨rfl,k,D,rfl⟩;exact⟨_,rfl,by rw[u7c h];rfl,v4j _ _ _⟩
theorem y3x (x:LId)(w0:World)(hG:Glob w0)(M:IdS x):Rets prog 85 #[.agg #[.int .u8 x.y,.int .i64 x.n]] w0 λr w'=>r=S (z7f x)/\Fr [] w0 w':=by
 have a3:=M.1;have a4:=M.2;have a1:=hG.sz;refine we [(0,.agg #[.int .u8 x.y,.int .i64 x.n])] func85 U ntmps85 U (.cons U .nil) ?_;have a0:=hG;refine sr (bx U (λg1 w1 a2 I q1 z1=>(asg U (nn (sq ?_)))));replace hG:=a0.ext q1;intro a h;refine z0i none (λwb w'=>Fr [] wb w') z2r ?_;intro w2 q2;replace hG:=hG.ext q2;replace I:=I.ext q2;have hC:Fr [] w2 w2:=Fr.refl _ _;have J:=hG;have D:=I;refine z0c 0 h U z7s U λa h=>z0k 1 h U (λ_ hw=>D.ext hw) U na5 U λa h=>x5a 2 hC h wn U (by rw[underlying5];rfl) underlying3 (by first|exact i6 (by omega)|rfl) U U λa h=>z0c 5 h U z9f U λa h=>z0k 6 h U (λ_ hw=>D.ext hw) U na3 U λa h=>z0d 3 U ?_;refine z0m h (z0a U z0f) u9k (x4w x.y _ hG M.1) ?_;rintro _ w3 ⟨rfl,q3⟩ a h;replace hG:=hG.ext q3;replace hC:=hC.next q3;refine z0b ?_;refine v5p 4 hC h wn U U (by have O:=z9r x.y;have Z:=z9r x.n;simp;omega) U U λa h=>z0d 7 U ?_;refine z0m h (z0a U z0f) u9k (x4w x.n _ hG M.2) ?_;rintro _ w4 ⟨rfl,q4⟩ a h;replace hC:=hC.next q4;refine z0b ?_;refine v5p 8 hC h wn U U (by have O:=z9r x.y;have Z:=z9r x.n;simp;omega) U U λa h=>z0d 9 U ?_;refine z0s h U λa h=>?_;refine z0b ?_;refine z0r ?_;clear hC J D;refine bk (h.sub (L':=[(2,_)]) (.cons U .nil)) (tn (rt (r1 results85 U ?_)));exact⟨_,rfl,rfl,(q1.n3 q2 q3 q4)⟩
theorem j2w:CallOf prog 85:=mkC func85
theorem v5d:z1a prog 100 1 2:=λ_ _=>by kernel_rfl
theorem y3n (wd:List UInt8)(v:Value)(l:List LId)(w0:World)(hG:Glob w0)(Z:Sl z1h w0 v l)(hb:∀x∈l,IdS x)(hl:l.length<=100000):Rets prog 87 #[S wd,v] w0 λr w'=>Lw.Own Enc.str 9 w0.heap.size w' r (z4l wd l)/\Fr [] w0 w':=by
 obtain⟨A,c,rfl,a9,hM,hA⟩:=id Z;clear hA;unfold maxLen at hM;have a8:=hG.sz;refine we [(0,S wd),(1,.slice A l.length c)] func87 U ntmps87 U (.c2 U U) ?_;have a4:=Z;have a0:=hG;refine sr (asg U (nn (sr (mv U (z2e ([wd]) (ev1 U) U z3v (λg9 w1 b1 a2 q1 z1=>(asg U (nn (sq (sr (mv U (lnS U underlying37 (mv U (nn (bl ?_)))))))))))))));refine lpK (ι:=Nat×Value) [(10,_),(11,_)] (λp=>[(12,.int .i64 (p.1:Int)),(5,p.2)]) (λp w'=>Fr [] w0 w'/\p.1<=l.length/\Lw.Own Enc.str 9 w0.heap.size w' p.2 (z4l wd (l.take p.1))) (λp=>l.length-p.1) (0,_) (.c4 U U U U) ⟨q1,⟨Nat.zero_le _,by rw[List.take_zero];exact a2.low (by omega)⟩⟩ ?_;rintro⟨i,vP⟩ w2 ⟨q2,⟨a1,D⟩⟩;simp only at a1 D;have z2:=q2.size;refine kpC [(10,_),(11,_),(12,.int .i64 (i:Int)),(5,vP)] (.c4 U U U U) ?_;have b3:=z6b wd (l.take i);have b4:(l.take i).length<=i:=by rw[List.length_take];omega
 refine sr (lt' U (nn (sq (cd U (λc0=>?_) (λc0=>?_)))));refine sk (tn (sq (bl (sr ?_))));replace Z:=a4.ext q2;refine z0y (id0) U Z U z5d z1e (λa5 M=>?_);refine z1k U (M _ Z) z3j (al y3h U (λg7 w3 b0 I q3 z3=>?_));refine z0j (vs:=[_,_]) U I y0b (λw4 I q4 z4=>?_) (h1:=(by first|(simp[Value.oneCell',S];done)|exact z1h.one _));refine nn (rg (mv U (z0l U I z3j ?_)));replace hG:=a0.ext (q2.z2 q3 q4);refine cl (ev1 U) j2w (y3x (l.getD i id0) _ hG (hb _ (z0t (by omega)))) U ?_;rintro _ w5 ⟨rfl,q5⟩;have z5:=q5.size;refine z2e ([z7f (l.getD i id0)]) (ev1 U) U z3v (λa7 w6 a6 O q6 z6=>?_);replace D:=((D.ext q3).fr q4 (by first|exact z8y D (by omega)|simp[z0v]<;>omega)).ext (q5.n1 q6);have J:=D;refine z2g U D O.sl z3v (by unfold maxLen;first|(simp only[List.length_append,List.length_cons,List.length_nil];omega)|omega) (by first|(simp only[List.length_append,List.length_cons,List.length_nil];omega)|omega) (λb5 w7 D q7 a3=>?_);have z7:=q7.size;refine asg U (kpL [(5,_),(10,_),(11,_),(12,_)] (.c4 U U U U) (nl (bn' (tn (rg (z0w U (wi6 (by omega)) (mv U (nl ?_))))))));exact lpE ((i+1,_)) (.c4 U U U U) ⟨((q2.z4 q3 q4 q5 q6).step q7 (λk hk b2=>absurd (J.blk k hk).1 (by omega))),⟨by simp only;omega,by rw[x3x (by omega)];exact D⟩⟩ (by simp only;omega);obtain rfl:i=l.length:=by omega
 rw[List.take_length]at D;refine ex (te (te (xh (tn (sr (mv U (asg U (kpL [(4,_)] (.cons U .nil) (nn (rt (r1 results87 U ?_)))))))))));exact⟨_,rfl,D,q2⟩
theorem u7h (p:Pa)(w0:World)(hG:Glob w0)(hx:IdS p.id):Rets prog 131 #[.agg #[.int .u8 p.id.y,.int .i64 p.id.n,.bool p.f,.int .u8 p.d]] w0 λr w'=>r=S (y9l p)/\Fr [] w0 w':=by
 have a1:=hG.sz;refine we [(0,.agg #[.int .u8 p.id.y,.int .i64 p.id.n,.bool p.f,.int .u8 p.d])] func131 U ntmps131 U (.cons U .nil) ?_;have a0:=hG;refine sr (bx U (λg1 w1 a2 J O z1=>(asg U (nn (sr (fad U y8a (z1v (vs:=[_,_]) U J z3j U ?_)))))));replace hG:=a0.ext O;refine cl (ev1 U) j2w (y3x p.id _ hG hx) U ?_;rintro _ w2 ⟨rfl,Z⟩;refine asg U (nn (sq (sr (fad U z7e ?_))));replace J:=J.ext Z;refine z0g U J U y9s (eq' U (nn (cd U (λI=>?_) (λI=>?_))));refine rg (mv U (y6t U U (by have M:=y1i p.id;simp;omega) U (asg U (nl (tn (sq (sr (fad U v5d (z0g U J U na4 (nn ?_))))))))));refine cd U (λD=>?_) (λD=>?_);refine rg (mv U (y6t U U (by have M:=y1i p.id;simp;omega) U (asg U (nl (tn (sr (mv U (asg U (nn (rt (r1 results131 U ?_)))))))))));exact⟨_,rfl,by unfold y9l;first|rw[if_pos D,if_pos I]|rw[if_pos D,if_neg I]|rw[if_neg D,if_pos I]|rw[if_neg D,if_neg I],(O.n1 Z)⟩;refine sk (tn (sr (mv U (asg U (nn (rt (r1 results131 U ?_)))))));exact⟨_,rfl,by unfold y9l;first|rw[if_pos D,if_pos I]|rw[if_pos D,if_neg I]|rw[if_neg D,if_pos I]|rw[if_neg D,if_neg I],(O.n1 Z)⟩;refine rg (mv U (y6t U U (by have M:=y1i p.id;simp;omega) U (asg U (nl (tn (sq (sr (fad U v5d (z0g U J U na4 (nn ?_))))))))));refine cd U (λD=>?_) (λD=>?_);refine rg (mv U (y6t U U (by have M:=y1i p.id;simp;omega) U (asg U (nl (tn (sr (mv U (asg U (nn (rt (r1 results131 U ?_)))))))))));exact⟨_,rfl,by unfold y9l;first|rw[if_pos D,if_pos I]|rw[if_pos D,if_neg I]|rw[if_neg D,if_pos I]|rw[if_neg D,if_neg I],(O.n1 Z)⟩;refine sk (tn (sr (mv U (asg U (nn (rt (r1 results131 U ?_)))))));exact⟨_,rfl,by unfold y9l;first|rw[if_pos D,if_pos I]|rw[if_pos D,if_neg I]|rw[if_neg D,if_pos I]|rw[if_neg D,if_neg I],(O.n1 Z)⟩
set_option maxHeartbeats 1000000 in
theorem u6m (x:LId)(q:LpQ)(w0:World)(hG:Glob w0)(Z:LpAt w0 q)(hx:IdS x)(e2:∀y∈q.ths,IdS y)(e1:∀y∈q.pas,IdS y.id)(hl:q.ths.length<=100000/\q.pas.length<=100000):Rets prog 84 #[.agg #[.int .u8 x.y,.int .i64 x.n],.agg #[.int .u8 q.b,.bool q.nw,.slice q.th.1 q.th.2.1 q.th.2.2,.slice q.pa.1 q.pa.2.1 q.pa.2.2]] w0 λr w'=>Lw.Own Enc.str 9 w0.heap.size w' r (y8j x q.p)/\Fr [] w0 w':=by
 have g8:=z1u Z.1;have g9:=z1u Z.2;have g1:=x3i x q.p;have f2:=x2y x q.p;have f1:=x1p x q.p;have h2:q.p.th.length=q.ths.length:=rfl;have e0:=Z.2.len_le;unfold maxLen at e0;have g0:=hG.sz;refine we [(0,.agg #[.int .u8 x.y,.int .i64 x.n]),(1,.agg #[.int .u8 q.b,.bool q.nw,.slice q.th.1 q.th.2.1 q.th.2.2,.slice q.pa.1 q.pa.2.1 q.pa.2.2])] func84 U ntmps84 U (.c2 U U) ?_;have b7:=Z;have a5:=hG;refine sr (bx U (λg2 w1 g4 a0 q1 z1=>(bx U (λg3 w2 g5 I q2 z2=>(asg U ?_)))));replace a0:=a0.ext q2;have f0:=a0;have J:=I;refine nn (sr (z0l U a0 z3j ?_));replace hG:=a5.ext (q1.n1 q2);refine cl (ev1 U) j2w (y3x x _ hG hx) U ?_;rintro _ w3 ⟨rfl,q3⟩;have z3:=q3.size;refine z2e ([z7f x,x0v]) (ev2 U) U z3v (λd9 w4 f3 M q4 z4=>(asg U (nn ?_)));refine jn (ι:=Unit) [(3,_),(5,_)] (λ_j=>[]) (λ_j w'=>Fr [] w2 w'/\Lw.Own Enc.str 9 w2.heap.size w' (.slice (some ⟨d9,0,none⟩) 2 2) ([z7f x,if q.b=1 then v2w else x0v])) (.c2 U U) ?_ ?_;refine sr (fad U x2h ?_);replace I:=J.ext (q3.n1 q4);refine z0g U I U x1a (eq' U (nn (cd U (λc0=>?_) (λc0=>?_))));refine rg (mv U (z7h (p:=1) (E:=Enc.str) U U z3v (z5c (i:=1) (v2w) U U M (by simp) U sz9 (λw5 M q5 z5=>(nl ?_)))));exact jE (()) (.c2 U U) ⟨(q3.z2 q4 q5),by rw[if_pos c0];exact M.low (by omega)⟩;refine sk ?_;exact jE (()) (.c2 U U) ⟨(q3.n1 q4),by rw[if_neg c0];exact M.low (by omega)⟩;rintro _j w6 ⟨q6,D⟩;have z6:=q6.size;refine kpC [(3,_),(5,_)] (.c2 U U) ?_;refine jn (ι:=Value) [(3,_)] (λa2=>[(5,a2)]) (λa2 w'=>Fr [] w2 w'/\Lw.Own Enc.str 9 w2.heap.size w' a2 (y5y x q.p)) (.cons U .nil) ?_ ?_;refine sr (fad U x7b ?_);replace I:=J.ext q6;refine z0g U I U na4 (nn (cd U (λc1=>?_) (λc1=>?_)));refine rg (mv U (z2e ([j6h]) (ev1 U) U z3v (λf7 w7 f4 b9 q7 z7=>?_)));replace D:=D.ext q7;have a8:=D;refine z2g U D b9.sl z3v (by unfold maxLen;first|(simp only[List.length_append,List.length_cons,List.length_nil];omega)|omega) (by first|(simp only[List.length_append,List.length_cons,List.length_nil];omega)|omega) (λh4 w8 D q8 e5=>?_);have z8:=q8.size;refine asg U (nl ?_);exact jE (_) (.c2 U U) ⟨((q6.n1 q7).step q8 (λk hk a7=>absurd (a8.blk k hk).1 (by omega))),by rw[u5e c1];exact D⟩;refine sk ?_;exact jE (_) (.c2 U U) ⟨q6,by rw[u5v c1];exact D⟩;rintro a2 w9 ⟨q9,D⟩;have z9:=q9.size;refine kpC [(3,_),(5,_)] (.c2 U U) ?_;refine jn (ι:=Value) [(3,_)] (λa3=>[(5,a3)]) (λa3 w'=>Fr [] w2 w'/\Lw.Own Enc.str 9 w2.heap.size w' a3 (y4k x q.p)) (.cons U .nil) ?_ ?_;refine sr (fad U z6w ?_);replace I:=J.ext q9;refine z0g U I U z4x (lnS U underlying37 (gt' U (nn (cd U (λc2=>?_) (λc2=>?_)))));refine rg (mv U (fad U z6w (z0g U I U z4x ?_)));replace hG:=a5.ext (q1.n2 q2 q9);replace Z:=b7.ext (q1.n2 q2 q9);refine cl (ev2 U) (mkC func87) (y3n j5k _ q.ths _ hG Z.1 e2 hl.1) U ?_;rintro h5 h9 ⟨c9,b2⟩;have j2:=b2.size;have e4:=z6b j5k q.ths;replace D:=D.ext b2;have a9:=D;refine z2g U D c9.sl z3v (by unfold maxLen;first|(simp only[List.length_append,List.length_cons,List.length_nil];omega)|omega) (by first|(simp only[List.length_append,List.length_cons,List.length_nil];omega)|omega) (λh6 i0 D d3 e6=>?_);have j3:=d3.size;refine asg U (kpL [(3,_),(5,_)] (.c2 U U) (nl ?_));exact jE (_) (.c2 U U) ⟨((q9.n1 b2).step d3 (λk hk a7=>absurd (a9.blk k hk).1 (by omega))),by rw[u5p (show 0<q.ths.length by omega)];exact D⟩;refine sk ?_;exact jE (_) (.c2 U U) ⟨q9,by rw[u8u (show ¬0<q.ths.length by omega)];exact D⟩;rintro a3 i1 ⟨a1,D⟩;have j4:=a1.size;refine kpC [(3,_),(5,_)] (.c2 U U) ?_;refine jn (ι:=Value) [(3,_)] (λa4=>[(5,a4)]) (λa4 w'=>Fr [] w2 w'/\Lw.Own Enc.str 9 w2.heap.size w' a4 (y6l x q.p)) (.cons U .nil) ?_ ?_;refine sr (fad U z8m ?_);replace I:=J.ext a1;refine z0g U I U y3k (lnS U underlying54 (gt' U (nn (cd U (λc3=>?_) (λc3=>?_)))));refine rg (mv U (z2e ([u8a]) (ev1 U) U z3v (λf8 i2 f5 d0 d4 j5=>?_)));replace D:=D.ext d4;have b0:=D;refine z2g U D d0.sl z3v (by unfold maxLen;first|(simp only[List.length_append,List.length_cons,List.length_nil];omega)|omega) (by first|(simp only[List.length_append,List.length_cons,List.length_nil];omega)|omega) (λh7 i3 D d5 e7=>?_);have j6:=d5.size;refine asg U (nl ?_);exact jE (_) (.c2 U U) ⟨((a1.n1 d4).step d5 (λk hk a7=>absurd (b0.blk k hk).1 (by omega))),by rw[u7i (show 0<q.pas.length by omega)];exact D⟩;refine sk ?_;exact jE (_) (.c2 U U) ⟨a1,by rw[u8b (show ¬0<q.pas.length by omega)];exact D⟩;rintro a4 i4 ⟨b3,D⟩;have j7:=b3.size;refine kpC [(3,_),(5,_)] (.c2 U U) (sq (sr (fad U z8m ?_)));replace I:=J.ext b3;refine z0g U I U y3k (lnS U underlying54 (mv U (nn (bl ?_))));refine lpK (ι:=Nat×Value) [(38,_),(39,_)] (λp=>[(40,.int .i64 (p.1:Int)),(5,p.2)]) (λp w'=>Fr [] w2 w'/\p.1<=q.pas.length/\Lw.Own Enc.str 9 w2.heap.size w' p.2 (y6l x q.p++(q.pas.take p.1).map y9l)) (λp=>q.pas.length-p.1) (0,_) (.c4 U U U U) ⟨b3,⟨Nat.zero_le _,by rw[List.take_zero,List.map_nil,List.append_nil];exact D⟩⟩ ?_;rintro⟨i,vP⟩ i5 ⟨O,⟨e3,D⟩⟩;simp only at e3 D;have j8:=O.size;refine kpC [(38,_),(39,_),(40,.int .i64 (i:Int)),(5,vP)] (.c4 U U U U) ?_;have h3:(q.pas.take i).length<=i:=by rw[List.length_take];omega
 have h0:((q.pas.take i).map y9l).length=(q.pas.take i).length:=List.length_map ..;refine sr (lt' U (nn (sq (cd U (λc4=>?_) (λc4=>?_)))));refine sk (tn (sq (bl (sr ?_))));replace Z:=b7.ext (q1.n2 q2 O);refine z0y (pa0) U Z.2 U z9d z1e (λe9 b8=>?_);refine z1k U (b8 _ Z.2) z6j (al y6j U (λg7 i7 g6 a6 b4 j9=>?_));refine z0j (vs:=[_,_,_,_]) U a6 x0k (λi8 a6 b5 k0=>?_) (h1:=(by first|(simp[Value.oneCell',S];done)|exact z1s.one _));refine nn (rg (mv U (z0l U a6 z6j ?_)));replace hG:=a5.ext (q1.z4 q2 O b4 b5);refine cl (ev1 U) (mkC func131) (u7h (q.pas.getD i pa0) _ hG (e1 _ (z0t (by omega)))) U ?_;rintro _ i9 ⟨rfl,b6⟩;have k1:=b6.size;refine z2e ([y9l (q.pas.getD i pa0)]) (ev1 U) U z3v (λf9 j0 f6 d1 d6 k2=>?_);replace D:=((D.ext b4).fr b5 (by first|exact z8y D (by omega)|simp[z0v]<;>omega)).ext (b6.n1 d6);have b1:=D;refine z2g U D d1.sl z3v (by unfold maxLen;first|(simp only[List.length_append,List.length_cons,List.length_nil];omega)|omega) (by first|(simp only[List.length_append,List.length_cons,List.length_nil];omega)|omega) (λh8 j1 D d7 e8=>?_);have k3:=d7.size;refine asg U (kpL [(5,_),(38,_),(39,_),(40,_)] (.c4 U U U U) (nl (bn' (tn (rg (z0w U (wi6 (by omega)) (mv U (nl ?_))))))));exact lpE ((i+1,_)) (.c4 U U U U) ⟨((O.z4 b4 b5 b6 d6).step d7 (λk hk a7=>absurd (b1.blk k hk).1 (by omega))),⟨by simp only;omega,by rw[z6i pa0 (by omega),List.map_append,<-List.append_assoc];exact D⟩⟩ (by simp only;omega);obtain rfl:i=q.pas.length:=by omega
 rw[List.take_length]at D;refine ex (te (te (xh (tn (sr (mv U (asg U (kpL [(4,_)] (.cons U .nil) (nn (rt (r1 results84 U ?_)))))))))));exact⟨_,rfl,D.low (by omega),(q1.n2 q2 O)⟩
end Go.Proofs.YtpgdchkdlgkmgaaGreatDoor
namespace Go.Lw
open Go.RowKit
def Bld (T e b:Nat)(l:List UInt8)(w:World):Prop:=Lib.IsBuilder T e b b (Lib.byteCells l) w
theorem Bld.ext {T e b:Nat}{l:List UInt8}{w w':World}(h:Bld T e b l w)(hf:Fr [] w w'):Bld T e b l w':=j0o h hf
theorem Bld.lt {T e b:Nat}{l:List UInt8}{w:World}(h:Bld T e b l w):b<w.heap.size:=h.elim Lib.BuilderAt.lt Lib.BuilderAt.lt
theorem Bld.new {T e b:Nat}{w:World}(h:Blk w b T [.pointer none,.slice none 0 0]):Bld T e b [] w:=.inl ⟨Nat.le_refl _,.slice none 0 0,h,⟨rfl,.inl ⟨rfl,rfl⟩⟩,by simp[Value.ownBlock]⟩
theorem y5g {w w':World}{B:Nat}(h:Below B w w'):∃S:List Nat,(∀k∈S,B<=k)/\Fr S w w':=
 ⟨(List.range w.heap.size).filter (λk=>decide (B<=k)),λk I=>by simpa using (List.mem_filter.1 I).2,⟨h.os,h.tape,h.output,h.size,λk I J=>h.block k (by
  rcases Nat.lt_or_ge k B with D|D
  ·exact D
  exact absurd (List.mem_filter.2 ⟨List.mem_range.2 I,by simpa using D⟩) J)⟩⟩
end Go.Lw
namespace Go.Proofs.YtpgdchkdlgkmgaaGreatDoor
open Go.Lw Go.G21 Go.G08 _root_.Go.Proofs.Tryz
theorem x3t:z1a prog 152 0 0:=λ_ _=>by kernel_rfl
theorem x0a:z1a prog 152 1 1:=λ_ _=>by kernel_rfl
theorem j2f:z2a prog 149:=λ_=>by kernel_rfl
theorem j0j:z2a prog 150:=λ_=>by kernel_rfl
theorem j5w:z1r prog 149 1:=λ_=>by kernel_rfl
theorem j3l:z1r prog 150 1:=λ_=>by kernel_rfl
theorem j1c:∃j,prog.info? 152=some j/\j.size=2:=Option.map_eq_some_iff.1 (show (prog.info? 152).map (·.size)=some 2 by kernel_rfl)
theorem u3i:(prog.info? 5).map (λi=>(i.zero,i.size,i.bytes))=some (some (.int .u8 0),1,1):=by kernel_rfl
theorem j4y:liesAt prog prog.depth 152 (2 / prog.cellsOf 152) 0 152 1=true:=by kernel_rfl
theorem u2d (u:Value)(w:World):(callFunc 185 #[u]).run prog w=.ok (.value u) w:=by
 rw[run_callFunc_extern func185 (by kernel_rfl) (by kernel_rfl) (by kernel_rfl) (e:=Extern.AbiNoEscape.same) (by kernel_rfl),Lib.run_noEscape];rfl
theorem y2t (B b:Nat)(bs:List Value)(w0:World)(hI:Lib.IsBuilder 152 5 B b bs w0):Rets prog 129 #[.pointer (some ⟨b,0,none⟩)] w0 λv w'=>Lib.BuilderAt 152 5 B b (.pointer (some ⟨b,0,none⟩)) bs w'/\RowKit.Below B w0 w':=by
 obtain⟨po,a1,J⟩:∃po,(po=none\/po=some ⟨b,0,none⟩)/\Lib.BuilderAt 152 5 B b (.pointer po) bs w0:=hI.elim (λh=>⟨none,.inl U,h⟩) (λh=>⟨_,.inr U,h⟩);have Z:=J.shape;obtain⟨j,hj,a2⟩:=j1c;obtain⟨hB,v,M,I,O⟩:=J;have D:Blk w0 b 152 [.pointer po,v]:=M;refine enter [(0,.pointer (some ⟨b,0,none⟩))] func129 U ntmps129 U (.cons U .nil) ?_;intro a h;refine wp_seq (wp_region_lit ?_);refine tW h (mv U (nlc U (fad U x3t (z0g U D U j2f (u0q U underlying149 U (kL [(0,_),(6,_)] (.c2 U U) ?_))))));clear h a;intro a h;refine wpList_nil (z4c (cS h U (λc0=>?_) (λc0=>?_)));obtain rfl:po=none:=by cases po with|none=>rfl|some x=>cases c0
 refine wp_region_lit ?_;refine tW h (mv U (mv U (x9o U underlying149 underlying283 hj (by omega) Z Nat.zero_lt_two U (j1y U u2d U (x0u U underlying283 underlying149 hj Z j4y U (nlc U (fad U x3t ?_)))))));clear h a;intro a h;refine z3d h U U D U U U j5w λw1 a0 hq hz a h=>?_;replace h:Ag a 20 []:=h.sub .nil;refine wpList_nil (u6v h results129  ?_);exact⟨_,rfl,v3t hB a0 I hq O,z5b hq (by simpa using hB) (Nat.le_trans hB (Nat.le_of_lt D.lt))⟩;obtain rfl:po=some ⟨b,0,none⟩:=a1.resolve_left (λe=>by rw[e]at c0;cases c0);refine wp_seq (wp_region_lit ?_);refine tW h (mv U (nlc U (fad U x3t (z0g U D U j2f (mv U (v4w U U underlying149 hj U (kL [(19,_)] (.cons U .nil) ?_)))))));clear h a;intro a h;refine wpList_nil (z4c (y7o h U (wp_skip (u6v h results129  ?_))));exact⟨_,rfl,⟨hB,v,M,I,O⟩,RowKit.Below.refl _ _⟩
theorem j1i (b:Nat)(l s:List UInt8)(w0:World)(hI:Bld 152 5 b l w0)(hM:l.length+s.length<=16777216):Rets prog 81 #[.pointer (some ⟨b,0,none⟩),S s] w0 λv w'=>Bld 152 5 b (l++s) w'/\∃S,(∀k∈S,b<=k)/\Fr S w0 w':=by
 have a0:=hI;replace hI:Lib.IsBuilder 152 5 b b (Lib.byteCells l) w0:=a0;refine enter [(0,.pointer (some ⟨b,0,none⟩)),(1,S s)] func81 U ntmps81 U (.c2 U U) ?_;intro a h;refine wp_seq (wp_region_lit ?_);refine tW h (asg U (asg U (kL [(0,_),(1,_)] (.c2 U U) ?_)));clear h a;intro a h;refine wpList_nil (z4c (wp_seq (wp_region_lit (x4a h U U λa h=>?_))));refine z0m h (z0a U z0f) (mkC func129) (y2t _ _ _ _ hI) ?_;rintro _ w1 ⟨Z,a5⟩ a h;obtain⟨hB,v,a1,I,a4⟩:=Z;have M:Blk w1 b 152 [.pointer (some ⟨b,0,none⟩),v]:=a1;have a6:=M.lt;rw[Lib.byteCells_length]at I;replace h:Ag a 19 [(0,_),(1,_)]:=h.sub (.c2 U U);refine wpList_nil (z4c (wp_seq (wp_region_lit ?_)));refine tW h (mv U (mv U (nlc U (fad U x0a (z0g U M U j0j (mv U ?_))))));clear h a;intro a h;refine x2a h U U underlying150 underlying9 u3i I (by unfold maxLen;omega) (by omega) (by omega) U λv2 w2 D a3 a h=>?_;have O:=x7f a3;have J:=M.fr O (by simpa using a4);have a7:=O.size;refine tW h (nlc U (fad U x0a ?_));clear h a;intro a h;refine z3d h U U J U (y9h D).1 (y9h D).2 j3l λw3 a2 hq hz a h=>?_;replace h:Ag a 19 [(1,_)]:=h.sub (.cons U .nil);refine wpList_nil (z4c (wp_seq (wp_region_lit ?_)));refine tW h (mv U (ln U underlying9 U (asg U (asg U (kL [(4,_),(5,_)] (.c2 U U) ?_)))));clear h a;intro a h;refine wpList_nil (z4c (wp_ret (ret2 h results81 U U ?_)));exact⟨_,rfl,.inr (v3t hB a2 (v2g D) hq (Lib.ownBlock_ne D J (by decide))),y5g (a5.trans ((z5b O (u3u I) (by omega)).trans (z5b hq (by simp) (by omega))))⟩
theorem j1r (b:Nat)(l:List UInt8)(c:UInt8)(w0:World)(hI:Bld 152 5 b l w0)(hM:l.length+1<=16777216):Rets prog 83 #[.pointer (some ⟨b,0,none⟩),.int .u8 (c.toNat:Int)] w0 λv w'=>Bld 152 5 b (l++[c]) w'/\∃S,(∀k∈S,b<=k)/\Fr S w0 w':=by
 have a1:=hI;replace hI:Lib.IsBuilder 152 5 b b (Lib.byteCells l) w0:=a1;refine enter [(0,.pointer (some ⟨b,0,none⟩)),(1,.int .u8 (c.toNat:Int))] func83 U ntmps83 U (.c2 U U) ?_;intro a h;refine wp_seq (wp_region_lit ?_);refine tW h (asg U (kL [(0,_),(1,_)] (.c2 U U) ?_));clear h a;intro a h;refine wpList_nil (z4c (wp_seq (wp_region_lit (x4a h U U λa h=>?_))));refine z0m h (z0a U z0f) (mkC func129) (y2t _ _ _ _ hI) ?_;rintro _ w1 ⟨a0,a7⟩ a h;obtain⟨hB,v,a2,I,a5⟩:=a0;have J:Blk w1 b 152 [.pointer (some ⟨b,0,none⟩),v]:=a2;have a8:=J.lt;rw[Lib.byteCells_length]at I;replace h:Ag a 17 [(0,_),(1,_)]:=h.sub (.c2 U U);refine wpList_nil (z4c (wp_seq (wp_region_lit ?_)));refine tW h (mv U (mv U (nlc U (fad U x0a (z0g U J U j0j (mv U ?_))))));clear h a;intro a h;refine z2w [c] h (z0a U z0f) U j2d ?_ (hsm:=(by decide));clear h a;intro gV w2 hg a6 M b1 a h;replace I:=u3l I M (by simp);replace J:=J.ext M;have b0:=M.size;refine x2m h U U underlying150 u3i I U (v8h a6) (by simp[Lib.strCells,Value.oneCell']) (by unfold maxLen;omega) (by omega) (by omega) U λv2 w3 D a4 a h=>?_;have Z:=x7f a4;have O:=J.fr Z (by simpa using a5);have a9:=Z.size;refine tW h (nlc U (fad U x0a ?_));clear h a;intro a h;refine z3d h U U O U (y9h D).1 (y9h D).2 j3l λw4 a3 hq hz a h=>?_;replace h:Ag a 17 []:=h.sub .nil;refine wpList_nil (z4c (wp_seq (wp_region_lit (z0s h U λa h=>wpList_nil (z4c (wp_ret (ret1 h results83 U ?_)))))));exact⟨_,rfl,.inr (v3t hB a3 (v2g D) hq (Lib.ownBlock_ne D O (by decide))),y5g (a7.trans ((z5b M (by simp) (by omega)).trans ((z5b Z (u3u I) (by omega)).trans (z5b hq (by simp) (by omega)))))⟩
theorem x6b (b:Nat)(l:List UInt8)(w0:World)(D:Bld 152 5 b l w0):Rets prog 88 #[.pointer (some ⟨b,0,none⟩)] w0 λv w'=>v=S l/\∃S,(∀k∈S,b<=k)/\Fr S w0 w':=by
 refine Calls.mono (Builder_String_any b b l w0 D (Nat.le_of_lt D.lt)) ?_;rintro e w' ⟨rfl,I⟩;exact⟨_,rfl,rfl,y5g I⟩
theorem y4d (v:Value)(ys:List (List UInt8))(O base T:Nat)(cur:List UInt8)(w0:World)(hO:Lw.Own Enc.str T base w0 v ys)(D:Bld 152 5 O cur w0)(a1:ys≠[])(hl:cur.length+(y2o ys).length<=1000000)(hy:ys.length<=1000000):Rets prog 80 #[v,.pointer (some ⟨O,0,none⟩)] w0 λr w'=>Bld 152 5 O (cur++y2o ys) w'/\∃S,(∀k∈S,O<=k)/\Fr S w0 w':=by
 have a2:(y2o ys).length=(Lib.join ys [32]).length+1:=by unfold y2o;rw[List.length_append];rfl
 refine we [(0,v),(1,.pointer (some ⟨O,0,none⟩))] func80 U ntmps80 U (.c2 U U) ?_;have I:=D;refine sr (mv U (cl (ev2 U) (mkC func82) (x7q _ ys [32] base T _ hO a1 (by omega) hy) U ?_));rintro _ w1 ⟨rfl,q1⟩;replace D:=I.ext q1;refine cl (ev2 U) (mkC func81) (j1i _ _ _ _ D (by omega)) U ?_;rintro _ w2 ⟨D,J,Z,q2⟩;have I:=D;refine nn (rg ?_);refine cl (ev2 U) (mkC func83) (j1r _ _ 10 _ D (by simp only[List.length_append];omega)) U ?_;rintro _ w3 ⟨D,M,a0,q3⟩;have I:=D;refine nl (r0n results80  ?_);exact⟨_,rfl,by unfold y2o;rw[<-List.append_assoc];exact D,J++M,(λk hk=>(List.mem_append.1 hk).elim (Z k) (a0 k)),(((Fr.refl (J++M) w0).n1 q1).step q2 (λk hk _=>List.mem_append_left _ hk)).step q3 (λk hk _=>List.mem_append_right _ hk)⟩
theorem j4l:CallOf prog 80:=mkC func80
theorem j7d (w:World):(zeroValue 152).run prog w=.ok (.agg #[(.pointer none),(.slice none 0 0)]) w:=by kernel_rfl
set_option maxHeartbeats 2000000 in
theorem u1u (q:FbQ)(w0:World)(hF:FbAt w0 q)(hG:Glob w0)(h6:q.ts.length=6)(hv:TabV (z1w q.ts))(hc:CrsV (z1w q.ts) q.cs)(hp:PlaceV (z1w q.ts) q.hs q.fs)(e6:(j0h (z1w q.ts) q.cs q.hs q.fs).length<=1000000):Rets prog 31 #[.agg #[.slice q.t.1 q.t.2.1 q.t.2.2,.slice q.c.1 q.c.2.1 q.c.2.2,.slice q.h.1 q.h.2.1 q.h.2.2,.slice q.f.1 q.f.2.1 q.f.2.2]] w0 λr w'=>r=S (j0h (z1w q.ts) q.cs q.hs q.fs)/\Fr [] w0 w':=by
 have j8:=hF.len;have j7:=z6k q.ts;obtain⟨TX,e2⟩:∃x,x=j0h (z1w q.ts) q.cs q.hs q.fs:=⟨_,rfl⟩;rw[<-e2]at e6 ⊢;have I:[]++(y9z 0 ((z1w q.ts).drop 0)++(y5t q.cs++(y5w q.hs++y5s q.fs)))=TX:=e2.symm;have g6:=hF.c.len_le;have g9:=hF.h.len_le;have g7:=hF.f.len_le;unfold maxLen at g6 g9 g7;have j3:=hG.sz;refine we [(0,.agg #[.slice q.t.1 q.t.2.1 q.t.2.2,.slice q.c.1 q.c.2.1 q.c.2.2,.slice q.h.1 q.h.2.1 q.h.2.2,.slice q.f.1 q.f.2.1 q.f.2.2])] func31 U ntmps31 U (.cons U .nil) ?_;have a3:=hF;have b1:=hG;refine sr (bx U (λg1 w1 j4 a7 q1 z1=>(asg U (nn (sq (sr (z0l U a7 x3w ?_)))))));replace hF:=a3.ext q1;refine cl (ev1 U) (mkC func45) (y0z q _ hF h6 hv hc hp) U ?_;rintro _ w2 ⟨rfl,q2⟩;have z2:=q2.size;refine ne' U (nn (cd U (λc0=>?_) (λc0=>?_)));exact absurd U c0;refine sk (tn (sr (al j7d U (λg3 w3 j5 h0 q3 z3=>?_))));replace a7:=a7.ext (q2.n1 q3);have c9:=a7;have Z:=a7;have D:Bld 152 5 g3 [] w3:=Bld.new h0;have M:=D;refine nn (sr (z6c z0f (ev1 U) U (asg U (nn (sq (sr (fad U z5u (z0g U a7 U y6m (lnS U underlying35 (mv U (nn (bl ?_))))))))))));refine lpK (ι:=Nat×List UInt8) [(1,_),(3,_),(4,_),(16,_),(17,_)] (λp=>[(18,.int .i64 (p.1:Int))]) (λp w'=>Fr [g3] w3 w'/\p.1<=6/\Bld 152 5 g3 p.2 w'/\p.2++(y9z p.1 ((z1w q.ts).drop p.1)++(y5t q.cs++(y5w q.hs++y5s q.fs)))=TX) (λp=>6-p.1) (0,[]) (.c6 U U U U U U) ⟨(Fr.refl _ _),⟨Nat.zero_le _,D,I⟩⟩ ?_;rintro⟨y,cur⟩ w4 ⟨q4,⟨h7,D,I⟩⟩;simp only at h7 D I;have z4:=q4.size;have M:=D;refine kpC [(1,_),(3,_),(4,_),(16,_),(17,_),(18,.int .i64 (y:Int))] (.c6 U U U U U U) (sr (lt' U (nn (sq (cd U (λc1=>?_) (λc1=>?_))))));rw[x8x (by omega),List.append_assoc]at I;have j9:=z4o a3.tt y;have g5:=(a3.tt _ (z0t (d:=tq0) (i:=y) (by omega))).1.len_le;unfold maxLen at g5;refine sk (tn (sq (bl (sr (mv U ?_)))));replace hF:=a3.ext (q1.z3 q2 q3 q4);refine z0y (tq0) U hF.t U y3d z1e (λh9 e3=>?_);refine z1g U (e3 _ hF.t) x0m (asg U (asg U (nn (sr (mv U (lnS U underlying46 (mv U (nn (bl ?_)))))))));refine lpK (ι:=Nat×List UInt8) [(1,_),(3,_),(4,_),(5,_),(16,_),(17,_),(18,_),(23,_),(24,_)] (λp=>[(25,.int .i64 (p.1:Int))]) (λp w'=>Fr [g3] w3 w'/\p.1<=(q.ts.getD y tq0).2.length/\Bld 152 5 g3 p.2 w'/\p.2++(x3v y p.1 (((z1w q.ts).getD y []).drop p.1)++(y9z (y+1) ((z1w q.ts).drop (y+1))++(y5t q.cs++(y5w q.hs++y5s q.fs))))=TX) (λp=>(q.ts.getD y tq0).2.length-p.1) (0,cur) (.d8 U U U U U U U U (.c2 U U)) ⟨((Fr.refl [g3] _).z1 q4),⟨Nat.zero_le _,D,(by rw[List.drop_zero];exact I)⟩⟩ ?_;rintro⟨n,cur⟩ w5 ⟨q5,⟨h5,D,I⟩⟩;simp only at h5 D I;have z5:=q5.size;have M:=D;refine kpC [(1,_),(3,_),(4,_),(5,_),(16,_),(17,_),(18,_),(23,_),(24,_),(25,.int .i64 (n:Int))] (.d8 U U U U U U U U (.c2 U U)) (sr (lt' U (nn (sq (cd U (λc2=>?_) (λc2=>?_))))));have h3:z3z (z1w q.ts) (⟨(y:Int)+1,(n:Int)⟩:LId):=z8h (by omega) (by rw[z2n];omega);have b4:=(hv.ok.rts y (by omega) n (by rw[z2n];omega)).1;rw[z7d]at b4;have i2:((q.ts.getD y tq0).2.getD n lq0).ths.length<=4:=b4.2.1.1;have i3:((q.ts.getD y tq0).2.getD n lq0).pas.length<=4096:=b4.2.1.2;have i4:(y8j (⟨(y:Int)+1,(n:Int)⟩:LId) ((q.ts.getD y tq0).2.getD n lq0).p).length<=5+((q.ts.getD y tq0).2.getD n lq0).ths.length+((q.ts.getD y tq0).2.getD n lq0).pas.length:=v5z _ _;rw[x9h (by rw[y8g,List.length_map];omega),show ((z1w q.ts).getD y []).getD n lq0.p=((q.ts.getD y tq0).2.getD n lq0).p from z7d q.ts y n,List.append_assoc]at I;refine sk (tn (sq (bl (sr (mv U ?_)))));replace hF:=a3.ext (q1.z3 q2 q3 q5);refine z0y (lq0) U (hF.tt _ (z0t (d:=tq0) (i:=y) (by omega))).1 U x3r z1e (λi0 e4=>?_);refine z1k U (e4 _ (hF.tt _ (z0t (d:=tq0) (i:=y) (by omega))).1) x7r (al v7f U (λg8 w6 j6 b9 q6 z6=>?_));refine asg U (z0j (vs:=[_,_,_,_]) U b9 v9d (λw7 b9 q7 z7=>?_) (h1:=(by first|(simp[Value.oneCell',S];done)|exact z4k.one _|exact z4q.one _)));refine nn (rg (mv U (mv U (z0w U (wi6 (by omega)) (z4w U (us underlying3) underlying5 (wi8 (by omega)) (mv U (z1t (cs:=[_,_]) (ev2 U) u4j (z0h U (z0h U z0q)) U ?_)))))));refine z0l U b9 x7r ?_;replace hG:=b1.ext (q1.z5 q2 q3 q5 q6 q7);replace hF:=a3.ext (q1.z5 q2 q3 q5 q6 q7);refine cl (ev2 U) (mkC func84) (u6m (⟨(y:Int)+1,(n:Int)⟩:LId) ((q.ts.getD y tq0).2.getD n lq0) _ hG (z7u hF.tt (y:=y) (n:=n) (by omega) (by omega)) (z6r hv.ok h3) (λx hx=>z6r hv.ok (b4.2.2.1 _ (List.mem_append_left _ hx))) (λx hx=>z6r hv.ok (b4.2.2.1 _ (List.mem_append_right _ (List.mem_map_of_mem hx)))) ⟨by omega,by omega⟩) U ?_;rintro k0 w8 ⟨e8,q8⟩;have z8:=q8.size;replace D:=M.ext (q6.z2 q7 q8);refine clv (us:=[]) (ws:=[.pointer (some ⟨g3,0,none⟩)]) U (ev1 U) j4l (y4d _ (y8j (⟨(y:Int)+1,(n:Int)⟩:LId) ((q.ts.getD y tq0).2.getD n lq0).p) g3 _ _ cur _ e8 D (v8m _ _) (by have a4:=congrArg List.length I;simp only[List.length_append]at a4;omega) (by omega)) U (by intro g e;cases e) ?_;rintro j0 w9 ⟨D,i9,e1,q9⟩;have z9:=q9.size;have M:=D;refine kpL [(1,_),(3,_),(4,_),(5,_),(16,_),(17,_),(18,_),(23,_),(24,_),(25,_)] (.d8 U U U U U U U U (.c2 U U)) (nl (bn' (tn (rg (z0w U (wi6 (by omega)) (mv U (nl ?_)))))));exact lpE ((n+1,_)) (.d8 U U U U U U U U (.c2 U U)) ⟨(((Fr.refl [g3] _).z4 q5 q6 q7 q8).step q9 (λk hk a2=>by have:=e1 k hk;first|(exfalso;omega)|(simp;omega))),⟨by simp only;omega,D,(by simp only[List.append_assoc]at I ⊢;exact I)⟩⟩ (by simp only;omega);obtain rfl:n=(q.ts.getD y tq0).2.length:=by omega
 rw[List.drop_of_length_le (by rw[y8g,List.length_map];omega)]at I;replace I:cur++(y9z (y+1) ((z1w q.ts).drop (y+1))++(y5t q.cs++(y5w q.hs++y5s q.fs)))=TX:=I;refine ex (te (te (xh (bn' (tn (rg (z0w U (wi6 (by omega)) (mv U (kpL [(1,_),(3,_),(4,_),(16,_),(17,_),(18,_)] (.c6 U U U U U U) (nl ?_))))))))));exact lpE ((y+1,cur)) (.c6 U U U U U U) ⟨((Fr.refl [g3] _).z1 q5),⟨by simp only;omega,D,I⟩⟩ (by simp only;omega);obtain rfl:y=6:=by omega
 rw[List.drop_of_length_le (by omega)]at I;replace I:cur++(y5t q.cs++(y5w q.hs++y5s q.fs))=TX:=I;refine ex (te (te (xh (tn (sq (sr (fad U y2u ?_)))))));replace c9:=c9.fr q4;refine z0g U c9 U u2t (lnS U underlying36 (mv U (nn (bl ?_))));refine lpK (ι:=Nat×List UInt8) [(1,_),(3,_),(4,_),(42,_),(43,_)] (λp=>[(44,.int .i64 (p.1:Int))]) (λp w'=>Fr [g3] w3 w'/\p.1<=q.cs.length/\Bld 152 5 g3 p.2 w'/\p.2++(y5t (q.cs.drop p.1)++(y5w q.hs++y5s q.fs))=TX) (λp=>q.cs.length-p.1) (0,cur) (.c6 U U U U U U) ⟨((Fr.refl [g3] _).z1 q4),⟨Nat.zero_le _,D,(by rw[List.drop_zero];exact I)⟩⟩ ?_;rintro⟨i,cur⟩ k2 ⟨J,⟨h4,D,I⟩⟩;simp only at h4 D I;have m0:=J.size;have M:=D;refine kpC [(1,_),(3,_),(4,_),(42,_),(43,_),(44,.int .i64 (i:Int))] (.c6 U U U U U U) (sr (lt' U (nn (sq (cd U (λc3=>?_) (λc3=>?_))))));rw[x8u (by omega),List.append_assoc]at I;have d0:=hc.has i (by omega);refine sk (tn (sq (bl (sr ?_))));replace hF:=a3.ext (q1.z3 q2 q3 J);refine z0y (cx0) U hF.c U v7b z1e (λi1 e5=>?_);refine z1k U (e5 _ hF.c) x5m (al v3b U (λg4 k3 i5 O d1 m1=>?_));refine z0j (vs:=[_,_,_,_,_]) U O u9h (λk4 O d3 m2=>?_) (h1:=(by first|(simp[Value.oneCell',S];done)|exact z4k.one _|exact z4q.one _));refine nn ?_;replace hG:=b1.ext (q1.z5 q2 q3 J d1 d3);replace D:=M.ext (d1.z1 d3);intro a h;refine z0i (some 11) (λwb w'=>Fr [] wb w') z2r ?_;intro f8 b5;have m3:=b5.size;replace hG:=hG.ext b5;replace D:=D.ext b5;replace O:=O.ext b5;have hC:Fr [] f8 f8:=Fr.refl _ _;have d9:=hG;have d7:=D;have a0:=O;refine z0e 0 h U λa h=>z0c 1 h U y1q U λa h=>z1d (vs:=[_,_]) 2 h U (λ_ hw=>(a0.ext hw)) z3j U U λa h=>z0c 4 h U y2i U λa h=>z1d (vs:=[_,_]) 5 h U (λ_ hw=>(a0.ext hw)) z3j U U λa h=>z0c 7 h U y4i U λa h=>z0k 8 h U (λ_ hw=>a0.ext hw) U na3 U λa h=>z0d 3 U ?_;refine z0m h (z0a U z0f) j2w (y3x (q.cs.getD i cx0).a _ hG (z6r hv.ok d0.1)) ?_;rintro _ k5 ⟨rfl,a8⟩ a h;have m4:=a8.size;replace hG:=hG.ext a8;replace hC:=hC.next a8;refine z0b ?_;refine z0d 6 U ?_;refine z0m h (z0a U z0f) j2w (y3x (q.cs.getD i cx0).b _ hG (z6r hv.ok d0.2.1)) ?_;rintro _ k6 ⟨rfl,a9⟩ a h;have m5:=a9.size;replace hG:=hG.ext a9;replace hC:=hC.next a9;refine z0b ?_;refine z0d 9 U ?_;refine z0m h (z0a U z0f) u9k (x4w (q.cs.getD i cx0).n _ hG (by have:=d0.2.2.2.1;omega)) ?_;rintro _ k7 ⟨rfl,b6⟩ a h;have m6:=b6.size;replace O:=O.ext (a8.n2 a9 b6);replace hC:=hC.next b6;refine z0b ?_;refine z0d 10 U ?_;refine z2w ([x6c,z7f (q.cs.getD i cx0).a,z7f (q.cs.getD i cx0).b,v4d (q.cs.getD i cx0).n]) h (z0a U (z0a U (z0a U (z0a U z0f)))) U z3v λd6 k8 hg e9 b7 hz a h=>?_;have e7:g4<d6:=by have:=O.lt;omega
 have m7:=b7.size;replace D:=D.ext (a8.n3 a9 b6 b7);replace hC:=hC.next b7;refine z0b ?_;refine z0d 11 U ?_;refine z9s (us:=[]) (ws:=[.pointer (some ⟨g3,0,none⟩)]) h U (z0a U z0f) j4l (y4d _ ([x6c,z7f (q.cs.getD i cx0).a,z7f (q.cs.getD i cx0).b,v4d (q.cs.getD i cx0).n]) g3 _ _ cur _ e9 D (by simp) (by have a4:=congrArg List.length I;simp only[List.length_append]at a4;omega) (by simp)) U (by intro g e;cases e) ?_;rintro j1 k9 ⟨D,i7,e0,f1⟩ a h;have m8:=f1.size;refine z1p ?_;refine z0r ?_;clear hC d9 d7 a0;have M:=D;refine bk (h.sub (L':=[(1,_),(3,_),(4,_),(42,_),(43,_),(44,_)]) (.c6 U U U U U U)) (bn' (tn (rg (z0w U (wi6 (by omega)) (mv U (nl ?_))))));exact lpE ((i+1,_)) (.c6 U U U U U U) ⟨(((((Fr.refl [g3] _).z6 J d1 d3 b5 a8 a9).n1 b6).n1 b7).step f1 (λk hk a2=>by have:=e0 k hk;first|(exfalso;omega)|(simp;omega))),⟨by simp only;omega,D,(by simp only[List.append_assoc]at I ⊢;exact I)⟩⟩ (by simp only;omega);obtain rfl:i=q.cs.length:=by omega
 rw[List.drop_of_length_le (by omega)]at I;replace I:cur++(y5w q.hs++y5s q.fs)=TX:=I;refine ex (te (te (xh (tn (sq (sr (fad U z7n ?_)))))));replace Z:=Z.fr J;refine z0g U Z U z4x (lnS U underlying37 (gt' U (kpL [(1,_),(3,_),(4,_),(64,_)] (.c4 U U U U) (nn (cd U (λc4=>?_) (λc4=>?_))))));have h2:q.hs.length<=100000:=y5r hv.ok (λx hx=>hp.has x (List.mem_append_left _ hx)) (λx=>by have:=hp.le x;simp only[List.count_append]at this;omega);rw[u8p (by omega)]at I;refine rg (mv U (fad U z7n (z0g U Z U z4x ?_)));replace hG:=b1.ext (q1.z3 q2 q3 J);replace hF:=a3.ext (q1.z3 q2 q3 J);refine cl (ev2 U) (mkC func87) (y3n u1z _ q.hs _ hG hF.h (λx hx=>z6r hv.ok (hp.has x (List.mem_append_left _ hx))) h2) U ?_;rintro k1 l0 ⟨f0,a6⟩;have m9:=a6.size;replace Z:=Z.ext a6;replace D:=M.ext a6;refine clv (us:=[]) (ws:=[.pointer (some ⟨g3,0,none⟩)]) U (ev1 U) j4l (y4d _ (z4l u1z q.hs) g3 _ _ cur _ f0 D (by simp[z4l]) (by have a4:=congrArg List.length I;simp only[List.length_append]at a4;omega) (by rw[z6b];omega)) U (by intro g e;cases e) ?_;rintro j2 l1 ⟨D,i8,a5,b0⟩;replace Z:=Z.fr b0 (λhh=>absurd (a5 _ hh) (by omega));have n7:=b0.size;have M:=D;refine kpL [(1,_),(3,_),(4,_)] (.c3 U U U) (nl (tn (sq (sr (fad U z8r (z0g U Z U z4x (lnS U underlying37 (gt' U (nn (cd U (λc5=>?_) (λc5=>?_)))))))))));have hfl:q.fs.length<=100000:=y5r hv.ok (λx hx=>hp.has x (List.mem_append_right _ hx)) (λx=>by have:=hp.le x;simp only[List.count_append]at this;omega);rw[v0v (by omega)]at I;refine rg (mv U (fad U z8r (z0g U Z U z4x ?_)));replace hG:=b1.ext ((q1.z4 q2 q3 J a6).step b0 (λk hk a2=>by have:=a5 k hk;first|(exfalso;omega)|(simp;omega)));replace hF:=a3.ext ((q1.z4 q2 q3 J a6).step b0 (λk hk a2=>by have:=a5 k hk;first|(exfalso;omega)|(simp;omega)));refine cl (ev2 U) (mkC func87) (y3n y2a _ q.fs _ hG hF.f (λx hx=>z6r hv.ok (hp.has x (List.mem_append_right _ hx))) hfl) U ?_;rintro h8 l2 ⟨b3,d4⟩;have n8:=d4.size;replace D:=M.ext d4;refine clv (us:=[]) (ws:=[.pointer (some ⟨g3,0,none⟩)]) U (ev1 U) j4l (y4d _ (z4l y2a q.fs) g3 _ _ _ _ b3 D (by simp[z4l]) (by have a4:=congrArg List.length I;simp only[List.length_append]at a4 ⊢;omega) (by rw[z6b];omega)) U (by intro g e;cases e) ?_;rintro g0 l3 ⟨D,f9,b2,f2⟩;have n9:=f2.size;have M:=D;refine kpL [(3,_)] (.cons U .nil) (nl (tn (sr (cl (ev1 U) (mkC func88) (x6b _ _ _ D) U ?_))));rintro _ l4 ⟨rfl,b8,a1,f3⟩;have o0:=f3.size;refine asg U (nn (rt (r1 results31 U ?_)));exact⟨_,rfl,by rw[<-I]<;>simp only[List.append_assoc,List.append_nil],(((((q1.z4 q2 q3 J a6).step b0 (λk hk a2=>by have:=a5 k hk;first|(exfalso;omega)|(simp;omega))).n1 d4).step f2 (λk hk a2=>by have:=b2 k hk;first|(exfalso;omega)|(simp;omega))).step f3 (λk hk a2=>by have:=a1 k hk;first|(exfalso;omega)|(simp;omega)))⟩;rw[v0q (by omega)]at I;refine sk (tn (sr (cl (ev1 U) (mkC func88) (x6b _ _ _ D) U ?_)));rintro _ l5 ⟨rfl,b8,a1,f4⟩;have o1:=f4.size;refine asg U (nn (rt (r1 results31 U ?_)));exact⟨_,rfl,by rw[<-I]<;>simp only[List.append_assoc,List.append_nil],(((q1.z4 q2 q3 J a6).step b0 (λk hk a2=>by have:=a5 k hk;first|(exfalso;omega)|(simp;omega))).step f4 (λk hk a2=>by have:=a1 k hk;first|(exfalso;omega)|(simp;omega)))⟩;rw[u4y (by omega),List.nil_append]at I;refine sk (tn (sq (sr (fad U z8r (z0g U Z U z4x (lnS U underlying37 (gt' U (nn (cd U (λc5=>?_) (λc5=>?_))))))))));have hfl:q.fs.length<=100000:=y5r hv.ok (λx hx=>hp.has x (List.mem_append_right _ hx)) (λx=>by have:=hp.le x;simp only[List.count_append]at this;omega);rw[v0v (by omega)]at I;refine rg (mv U (fad U z8r (z0g U Z U z4x ?_)));replace hG:=b1.ext (q1.z3 q2 q3 J);replace hF:=a3.ext (q1.z3 q2 q3 J);refine cl (ev2 U) (mkC func87) (y3n y2a _ q.fs _ hG hF.f (λx hx=>z6r hv.ok (hp.has x (List.mem_append_right _ hx))) hfl) U ?_;rintro h8 l6 ⟨b3,d5⟩;have o2:=d5.size;replace D:=M.ext d5;refine clv (us:=[]) (ws:=[.pointer (some ⟨g3,0,none⟩)]) U (ev1 U) j4l (y4d _ (z4l y2a q.fs) g3 _ _ _ _ b3 D (by simp[z4l]) (by have a4:=congrArg List.length I;simp only[List.length_append]at a4 ⊢;omega) (by rw[z6b];omega)) U (by intro g e;cases e) ?_;rintro g0 l7 ⟨D,f9,b2,f5⟩;have o3:=f5.size;have M:=D;refine kpL [(3,_)] (.cons U .nil) (nl (tn (sr (cl (ev1 U) (mkC func88) (x6b _ _ _ D) U ?_))));rintro _ l8 ⟨rfl,b8,a1,f6⟩;have o4:=f6.size;refine asg U (nn (rt (r1 results31 U ?_)));exact⟨_,rfl,by rw[<-I]<;>simp only[List.append_assoc,List.append_nil],(((q1.z4 q2 q3 J d5).step f5 (λk hk a2=>by have:=b2 k hk;first|(exfalso;omega)|(simp;omega))).step f6 (λk hk a2=>by have:=a1 k hk;first|(exfalso;omega)|(simp;omega)))⟩;rw[v0q (by omega)]at I;refine sk (tn (sr (cl (ev1 U) (mkC func88) (x6b _ _ _ D) U ?_)));rintro _ l9 ⟨rfl,b8,a1,f7⟩;have o5:=f7.size;refine asg U (nn (rt (r1 results31 U ?_)));exact⟨_,rfl,by rw[<-I]<;>simp only[List.append_assoc,List.append_nil],((q1.z3 q2 q3 J).step f7 (λk hk a2=>by have:=a1 k hk;first|(exfalso;omega)|(simp;omega)))⟩
end Go.Proofs.YtpgdchkdlgkmgaaGreatDoor
namespace Go.G08
open Go.Lw Go.G21
def errN:Except (Int×Nat) MSt->Int×Nat
  | .error e=>e
  | .ok _=>(0,0)
theorem y2k {l:List Cx}(h:l.length<=1):z9y l=l:=by
 match l,h with
 | [],_=>exact List.perm_nil.1 (z2v [])
 | [c],_=>exact List.perm_singleton.1 (z2v [c])
theorem y7l {l:List LId}(h:l.length<=1):z8q l=l:=by
 match l,h with
 | [],_=>exact List.perm_nil.1 (z3f [])
 | [c],_=>exact List.perm_singleton.1 (z3f [c])
def okM:Except (Int×Nat) MSt->MSt
  | .ok p=>p
  | .error _=>start
def isOk:Except (Int×Nat) MSt->Bool
  | .ok _=>true
  | .error _=>false
theorem v3y {x:Except (Int×Nat) MSt}(h:isOk x=true):x=.ok (okM x):=by
 cases x with
 | ok p=>rfl
 | error e=>cases h
theorem u7t {x:Except (Int×Nat) MSt}(h:isOk x=false):x=.error (errN x):=by
 cases x with
 | ok p=>cases h
 | error e=>rfl
def j2c:List MOp:=[⟨1,0,0,0,1,0⟩,⟨4,1,0,1,1,0⟩,⟨4,1,0,2,1,0⟩,⟨4,0,0,2,1,0⟩,⟨4,0,0,1,1,0⟩]
theorem prgA:y8q [105,110,32,49,32,108,101,102,116,10,107,110,105,116,32,114,105,103,104,116,32,102,49,32,49,10,107,110,105,116,32,114,105,103,104,116,32,102,50,32,49,10,107,110,105,116,32,108,101,102,116,32,102,50,32,49,10,107,110,105,116,32,108,101,102,116,32,102,49,32,49]=(j2c,0,0):=by decide +kernel
def j3m:List MOp:=[⟨1,0,0,0,1,0⟩,⟨4,1,0,1,1,0⟩,⟨7,0,0,1,0,0⟩,⟨3,0,0,0,0,1⟩,⟨7,0,1,1,0,0⟩,⟨3,0,0,0,0,0⟩]
theorem prgB:y8q [105,110,32,49,32,108,101,102,116,10,107,110,105,116,32,114,105,103,104,116,32,102,49,32,49,10,120,102,101,114,32,102,49,10,114,97,99,107,32,49,10,120,102,101,114,32,98,49,10,114,97,99,107,32,48]=(j3m,0,0):=by decide +kernel
def j2p:List MOp:=[⟨1,0,0,0,1,0⟩,⟨4,1,0,1,1,0⟩,⟨4,1,0,2,1,0⟩,⟨6,1,0,40,1,0⟩,⟨7,0,0,1,0,0⟩,⟨3,0,0,0,0,1⟩,⟨3,0,0,0,0,2⟩,⟨7,0,1,1,0,0⟩]
theorem prgC:y8q [105,110,32,49,32,108,101,102,116,10,107,110,105,116,32,114,105,103,104,116,32,102,49,32,49,10,107,110,105,116,32,114,105,103,104,116,32,102,50,32,49,10,109,105,115,115,32,114,105,103,104,116,32,102,52,48,32,49,10,120,102,101,114,32,102,49,10,114,97,99,107,32,49,10,114,97,99,107,32,50,10,120,102,101,114,32,98,49]=(j2p,0,0):=by decide +kernel
def j5n:List MOp:=[⟨4,1,0,1,1,0⟩]
theorem prgD:y8q [107,110,105,116,32,114,105,103,104,116,32,102,49,32,49]=(j5n,0,0):=by decide +kernel
def j5o:List MOp:=[⟨7,0,0,1,0,0⟩]
theorem prgE:y8q [120,102,101,114,32,102,49]=(j5o,0,0):=by decide +kernel
def j5p:List MOp:=[⟨1,0,0,0,1,0⟩,⟨3,0,0,0,0,0⟩,⟨1,1,0,0,1,0⟩]
theorem prgF:y8q [105,110,32,49,32,108,101,102,116,10,114,97,99,107,32,48,10,105,110,32,49,32,114,105,103,104,116]=(j5p,0,0):=by decide +kernel
def msA:MSt:=okM (z6l 0 start j2c)
theorem rnA:z6l 0 start j2c=.ok msA:=v3y (by decide +kernel)
def msB:MSt:=okM (z6l 0 start j3m)
theorem rnB:z6l 0 start j3m=.ok msB:=v3y (by decide +kernel)
def msC:MSt:=okM (z6l 0 start j2p)
theorem rnC:z6l 0 start j2p=.ok msC:=v3y (by decide +kernel)
theorem rnD:z6l 0 start j5n=.error (12,0):=(u7t (by decide +kernel)).trans (congrArg Except.error (by decide +kernel))
theorem rnE:z6l 0 start j5o=.error (13,0):=(u7t (by decide +kernel)).trans (congrArg Except.error (by decide +kernel))
theorem rnF:z6l 0 start j5p=.error (12,2):=(u7t (by decide +kernel)).trans (congrArg Except.error (by decide +kernel))
theorem txA:j0h msA.tb (z9y msA.cr) ((z2q msA.B msA.rk).map Hd.id) (z8q msA.fa)=[49,46,48,32,102,114,111,110,116,32,110,101,119,10,49,46,49,32,102,114,111,110,116,10,49,46,50,32,102,114,111,110,116,32,116,104,114,111,117,103,104,32,49,46,49,10,49,46,51,32,102,114,111,110,116,32,116,104,114,111,117,103,104,32,49,46,48,10,104,101,108,100,32,49,46,51,32,49,46,50,10]:=by
 rw[y2k (by decide +kernel),y7l (by decide +kernel)];decide +kernel
theorem txC:j0h msC.tb (z9y msC.cr) ((z2q msC.B msC.rk).map Hd.id) (z8q msC.fa)=[49,46,48,32,102,114,111,110,116,32,110,101,119,10,49,46,49,32,102,114,111,110,116,10,99,114,111,115,115,32,49,46,48,32,49,46,49,32,45,49,10,104,101,108,100,32,49,46,49,32,49,46,48,10]:=by
 rw[y2k (by decide +kernel),y7l (by decide +kernel)];decide +kernel
theorem at2:(msB.B.atC 0 2).length=1:=by decide +kernel
theorem cr2:msB.cr=[]:=by decide +kernel
theorem pe2:(msB.ys.getD 0 yn0).pe=[⟨⟨1,0⟩,true,0⟩]:=by decide +kernel
theorem st2 {s:StQ}(h:s.p=stM msB):(s.ys.length=6/\s.fb.cs=[])/\(s.ys.getD 0 yq0).pes=[⟨⟨1,0⟩,true,0⟩]/\s.q.p=msB.B:=by
 have D:s.ys.map YQ.p=msB.ys:=congrArg St.ys h;have J:s.fb.cs=z9y msB.cr:=congrArg (λz=>z.fb.c) h;have M:s.q.p=msB.B:=congrArg St.B h;have I:=y4a z7t rnB;refine⟨⟨?_,?_⟩,?_,M⟩;have:=congrArg List.length D;rw[List.length_map,I.inv.ly]at this;exact this;rw[J,cr2];exact y2k (by simp);have e:=congrArg (λz=>(z.getD 0 yn0).pe) D;rw[show (s.ys.map YQ.p).getD 0 yn0=(s.ys.getD 0 yq0).p from x1b YQ.p s.ys 0 yq0 yn0 (by have:=congrArg List.length D;rw[List.length_map,I.inv.ly]at this;omega)]at e;rw[pe2]at e;exact e
end Go.G08
namespace Go.Proofs.YtpgdchkdlgkmgaaGreatDoor
open Go.Lw Go.G21 Go.G08 _root_.Go.Proofs.Tryz
def j0b (l:List MOp):Nat:=match z6l 0 G08.start l with
  | .error (_,n)=>n
  | .ok _=>l.length
theorem v6b (I D:Nat)(v:Value)(l:List MOp)(w0:World)(hS:StAt w0 (st0 I D))(hv:Sl z8c w0 v l)(J:StT w0)(M:l.length<=4096):Rets prog 9 #[.agg #[.int .i64 (st0 I D).rk,.slice (st0 I D).q.f.1 (st0 I D).q.f.2.1 (st0 I D).q.f.2.2,.slice (st0 I D).q.b.1 (st0 I D).q.b.2.1 (st0 I D).q.b.2.2,.slice (st0 I D).yv.1 (st0 I D).yv.2.1 (st0 I D).yv.2.2,.slice (st0 I D).fb.t.1 (st0 I D).fb.t.2.1 (st0 I D).fb.t.2.2,.slice (st0 I D).fb.c.1 (st0 I D).fb.c.2.1 (st0 I D).fb.c.2.2,.slice (st0 I D).fb.h.1 (st0 I D).fb.h.2.1 (st0 I D).fb.h.2.2,.slice (st0 I D).fb.f.1 (st0 I D).fb.f.2.1 (st0 I D).fb.f.2.2],v] w0 λr w'=>(∃s':StQ,r=.tuple #[.agg #[.int .i64 s'.rk,.slice s'.q.f.1 s'.q.f.2.1 s'.q.f.2.2,.slice s'.q.b.1 s'.q.b.2.1 s'.q.b.2.2,.slice s'.yv.1 s'.yv.2.1 s'.yv.2.2,.slice s'.fb.t.1 s'.fb.t.2.1 s'.fb.t.2.2,.slice s'.fb.c.1 s'.fb.c.2.1 s'.fb.c.2.2,.slice s'.fb.h.1 s'.fb.h.2.1 s'.fb.h.2.2,.slice s'.fb.f.1 s'.fb.f.2.1 s'.fb.f.2.2],.int .i64 (j0b l:Int),.int .i64 (u1p l)]/\StO τd 109 w0.heap.size w' s'/\∀p,z6l 0 G08.start l=.ok p->s'.p=stM p)/\Fr [] w0 w':=
 Rets.mono (v0s I D v l w0 hS hv J M) (by
  rintro r w' ⟨h,hf⟩
  refine⟨?_,hf⟩
  unfold u1p j0b
  cases e:z6l 0 G08.start l with
  | error x=>
   obtain⟨e1,n⟩:=x
   rw[e]at h
   exact⟨stZ,h,u7y _ _,λp hp=>by cases hp⟩
  | ok p=>
   rw[e]at h
   obtain⟨s',O,Z,h3⟩:=h
   exact⟨s',O,Z,λq hq=>by cases hq;exact h3⟩)
theorem v5m {l:List MOp}{p:MSt}(h:z6l 0 G08.start l=.ok p):u1p l=0/\j0b l=l.length:=by
 unfold u1p j0b;rw[h];exact⟨rfl,rfl⟩
theorem v1x {l:List MOp}{e:Int}{n:Nat}(h:z6l 0 G08.start l=.error (e,n)):u1p l=e/\j0b l=n:=by
 unfold u1p j0b;rw[h];exact⟨rfl,rfl⟩
theorem j2m {p:MSt}{n:Nat}(I D:Nat)(v:Value)(l:List MOp)(w0:World)(hS:StAt w0 (st0 I D))(hv:Sl z8c w0 v l)(J:StT w0)(M:l.length<=4096)(h:z6l 0 G08.start l=.ok p)(hn:l.length=n):Rets prog 9 #[.agg #[.int .i64 (st0 I D).rk,.slice (st0 I D).q.f.1 (st0 I D).q.f.2.1 (st0 I D).q.f.2.2,.slice (st0 I D).q.b.1 (st0 I D).q.b.2.1 (st0 I D).q.b.2.2,.slice (st0 I D).yv.1 (st0 I D).yv.2.1 (st0 I D).yv.2.2,.slice (st0 I D).fb.t.1 (st0 I D).fb.t.2.1 (st0 I D).fb.t.2.2,.slice (st0 I D).fb.c.1 (st0 I D).fb.c.2.1 (st0 I D).fb.c.2.2,.slice (st0 I D).fb.h.1 (st0 I D).fb.h.2.1 (st0 I D).fb.h.2.2,.slice (st0 I D).fb.f.1 (st0 I D).fb.f.2.1 (st0 I D).fb.f.2.2],v] w0 λr w'=>(∃s':StQ,r=.tuple #[.agg #[.int .i64 s'.rk,.slice s'.q.f.1 s'.q.f.2.1 s'.q.f.2.2,.slice s'.q.b.1 s'.q.b.2.1 s'.q.b.2.2,.slice s'.yv.1 s'.yv.2.1 s'.yv.2.2,.slice s'.fb.t.1 s'.fb.t.2.1 s'.fb.t.2.2,.slice s'.fb.c.1 s'.fb.c.2.1 s'.fb.c.2.2,.slice s'.fb.h.1 s'.fb.h.2.1 s'.fb.h.2.2,.slice s'.fb.f.1 s'.fb.f.2.1 s'.fb.f.2.2],.int .i64 (n:Int),.int .i64 0]/\StO τd 109 w0.heap.size w' s'/\s'.p=stM p)/\Fr [] w0 w':=
 Rets.mono (v6b I D v l w0 hS hv J M) (by
  rintro r w' ⟨⟨s',rfl,O,Z⟩,hf⟩
  rw[(v5m h).1,(v5m h).2,hn]
  exact⟨⟨s',rfl,O,Z p h⟩,hf⟩)
theorem j2n {e:Int}{n:Nat}(I D:Nat)(v:Value)(l:List MOp)(w0:World)(Z:StAt w0 (st0 I D))(hv:Sl z8c w0 v l)(J:StT w0)(M:l.length<=4096)(h:z6l 0 G08.start l=.error (e,n)):Rets prog 9 #[.agg #[.int .i64 (st0 I D).rk,.slice (st0 I D).q.f.1 (st0 I D).q.f.2.1 (st0 I D).q.f.2.2,.slice (st0 I D).q.b.1 (st0 I D).q.b.2.1 (st0 I D).q.b.2.2,.slice (st0 I D).yv.1 (st0 I D).yv.2.1 (st0 I D).yv.2.2,.slice (st0 I D).fb.t.1 (st0 I D).fb.t.2.1 (st0 I D).fb.t.2.2,.slice (st0 I D).fb.c.1 (st0 I D).fb.c.2.1 (st0 I D).fb.c.2.2,.slice (st0 I D).fb.h.1 (st0 I D).fb.h.2.1 (st0 I D).fb.h.2.2,.slice (st0 I D).fb.f.1 (st0 I D).fb.f.2.1 (st0 I D).fb.f.2.2],v] w0 λr w'=>(∃s':StQ,r=.tuple #[.agg #[.int .i64 s'.rk,.slice s'.q.f.1 s'.q.f.2.1 s'.q.f.2.2,.slice s'.q.b.1 s'.q.b.2.1 s'.q.b.2.2,.slice s'.yv.1 s'.yv.2.1 s'.yv.2.2,.slice s'.fb.t.1 s'.fb.t.2.1 s'.fb.t.2.2,.slice s'.fb.c.1 s'.fb.c.2.1 s'.fb.c.2.2,.slice s'.fb.h.1 s'.fb.h.2.1 s'.fb.h.2.2,.slice s'.fb.f.1 s'.fb.f.2.1 s'.fb.f.2.2],.int .i64 (n:Int),.int .i64 e]/\StO τd 109 w0.heap.size w' s')/\Fr [] w0 w':=
 Rets.mono (v6b I D v l w0 Z hv J M) (by
  rintro r w' ⟨⟨s',rfl,O,h2⟩,hf⟩
  rw[(v1x h).1,(v1x h).2]
  exact⟨⟨s',rfl,O⟩,hf⟩)
theorem v4q {p:MSt}(v:Value)(l:List MOp)(w0:World)(O:Sl z8c w0 v l)(D:StT w0)(I:l.length<=4096)(h:z6l 0 G08.start l=.ok p):Rets prog 14 #[v] w0 λr w'=>(∃s':StQ,r=.tuple #[.agg #[.slice s'.fb.t.1 s'.fb.t.2.1 s'.fb.t.2.2,.slice s'.fb.c.1 s'.fb.c.2.1 s'.fb.c.2.2,.slice s'.fb.h.1 s'.fb.h.2.1 s'.fb.h.2.2,.slice s'.fb.f.1 s'.fb.f.2.1 s'.fb.f.2.2],.int .i64 0]/\StO τd 109 w0.heap.size w' s'/\s'.p=stM p)/\Fr [] w0 w':=
 Rets.mono (x6f v l w0 O D I) (by
  rintro r w' ⟨⟨s',rfl,J,M⟩,hf⟩
  rw[(v5m h).1]
  exact⟨⟨s',rfl,J,M p h⟩,hf⟩)
theorem v3u {e:Int}{n:Nat}(v:Value)(l:List MOp)(w0:World)(M:Sl z8c w0 v l)(D:StT w0)(I:l.length<=4096)(h:z6l 0 G08.start l=.error (e,n)):Rets prog 14 #[v] w0 λr w'=>(∃s':StQ,r=.tuple #[.agg #[.slice s'.fb.t.1 s'.fb.t.2.1 s'.fb.t.2.2,.slice s'.fb.c.1 s'.fb.c.2.1 s'.fb.c.2.2,.slice s'.fb.h.1 s'.fb.h.2.1 s'.fb.h.2.2,.slice s'.fb.f.1 s'.fb.f.2.1 s'.fb.f.2.2],.int .i64 e]/\StO τd 109 w0.heap.size w' s')/\Fr [] w0 w':=
 Rets.mono (x6f v l w0 M D I) (by
  rintro r w' ⟨⟨s',rfl,J,O⟩,hf⟩
  rw[(v1x h).1]
  exact⟨⟨s',rfl,J⟩,hf⟩)
theorem v4m (q:FbQ)(p:MSt)(B:List UInt8)(w0:World)(hF:FbAt w0 q)(hG:Glob w0)(J:MVal p)(I:q.p=(stM p).fb)(hB:j0h p.tb (z9y p.cr) ((z2q p.B p.rk).map Hd.id) (z8q p.fa)=B)(hl:B.length<=1000000):Rets prog 31 #[.agg #[.slice q.t.1 q.t.2.1 q.t.2.2,.slice q.c.1 q.c.2.1 q.c.2.2,.slice q.h.1 q.h.2.1 q.h.2.2,.slice q.f.1 q.f.2.1 q.f.2.2]] w0 λr w'=>r=S B/\Fr [] w0 w':=by
 have D:z1w q.ts=p.tb:=congrArg Fb.t I;have M:q.cs=z9y p.cr:=congrArg Fb.c I;have O:q.hs=(z2q p.B p.rk).map Hd.id:=congrArg Fb.h I;have Z:q.fs=z8q p.fa:=congrArg Fb.f I;have h6:q.ts.length=6:=by rw[<-z6k,D];exact J.inv.lt
 have x:=u1u q w0 hF hG h6 (by rw[D];exact J.tabV) (by rw[D,M];exact J.crs) (by rw[D,O,Z];exact J.place) (by rw[D,M,O,Z,hB];exact hl);rw[D,M,O,Z,hB]at x;exact x
theorem y1t (l:List UInt8)(D:List MOp)(n e:Int)(w0:World)(hG:Glob w0)(h:y8q l=(D,n,e))(hl:l.length<=1000000):Rets prog 30 #[S l] w0 λr w'=>(∃A,r=.slice A D.length D.length/\Lw.Own z8c 28 w0.heap.size w' r D)/\Fr [] w0 w':=by
 have O:=hG.sz;refine we [(0,S l)] func30 U ntmps30 U (.cons U .nil) ?_;have M:=hG;refine sr (asg U (nn (sr (mv U (cl (ev1 U) (mkC func79) (x9q l _ hG hl) U ?_)))));rintro _ w1 ⟨A,Z,n',e',J,rfl,I,q1⟩;cases J.symm.trans h;refine mv U (xt U (xt U (xt U (asg U (asg U (asg U (kpL [(3,_)] (.cons U .nil) (nn (sr (mv U (asg U (nn (rt (r1 results30 U ?_))))))))))))));exact⟨_,rfl,⟨A,rfl,I.low (by omega)⟩,q1⟩
end Go.Proofs.YtpgdchkdlgkmgaaGreatDoor
