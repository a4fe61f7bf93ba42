/- Texts of the proof, joined. -/
import Derived.Test.YtlfdhllfmoplgaaGreatDoorRows
import Derived.Shelf.SlSortCmp.WholeK
import Derived.Shelf.SlGeneric
import Derived.Ground.SlsfProg
import Derived.Test.YtlfdhllfmoplgaaGreatDoorProg
import Derived.Shelf.Strings.Builder1
import Derived.Shelf.Strings.Builder2
import Derived.Shelf.Strings.OnBuilder
import Derived.Shelf.Small.Bits
import Derived.Shelf.Strconv.Atoi
import Derived.Shelf.Strconv.Itoa0
import Derived.Shelf.Strconv.Itoa1
import Derived.Shelf.LaysM
import Derived.Shelf.Strconv.Itoa2
import Derived.Shelf.Strconv.Itoa3
import Derived.Shelf.Strconv.AtoiErrFast
import Derived.Shelf.Strconv.ParseIntEmpty
import Derived.Shelf.Strconv.AtoiFail
import Derived.Shelf.Strconv.Clone
import Derived.Shelf.Strconv.SyntaxError
import Derived.Shelf.LaysC
import Derived.Shelf.Strconv.ToError
import Derived.Shelf.Strconv.AtoiErr
import Derived.Shelf.Strconv.ErrVar
import Derived.Shelf.Strconv.Lower
import Derived.Shelf.Strconv.ParseUint10
import Derived.Shelf.Strconv.ParseUint10Empty
import Derived.Shelf.Strconv.ParseUint10Any
import Derived.Shelf.Strconv.ParseInt10
import Derived.Shelf.Strconv.AtoiLong
import Derived.Shelf.Strconv.AtoiInnerAll
import Derived.Shelf.Strconv.RangeError
import Derived.Shelf.Strconv.ToErrorRange
import Derived.Shelf.Strconv.AtoiAll
import Derived.Shelf.Strconv.ErrVarAll
import Derived.Shelf.Strings.Search1
import Derived.Shelf.Strings.Search2
import Derived.Shelf.Strings.Search3
import Derived.Shelf.Strings.Count
import Derived.Shelf.Strings.Shaped
import Derived.Shelf.Strings.Split
import Derived.Shelf.Strings.SplitShaped
import Derived.Shelf.Unicode.DecodeSlow
import Derived.Ground.SlgnProg
import Derived.Shelf.SlicesE.Equal
import Derived.Lib.LaidTab
import Derived.LaidSub
import Derived.Test.YtlfdhllfmoplgaaGreatDoorCards
import Derived.Test.YtlfdhllfmoplgaaGreatDoorTie
import Derived.ChangeMaps5
import Derived.Test.YtlfdhllfmoplgaaGreatDoorRE5
set_option linter.unusedVariables false
set_option linter.unusedSimpArgs false
set_option maxHeartbeats 4000000
namespace Go.Proofs.YtlfdhllfmoplgaaGreatDoor
open Go.Lw Go.G21 Go.G08 _root_.Go.Proofs.Tryz
theorem k4h (v:Value)(l:List Int)(w0:World)(O:Sl Enc.i64 w0 v l)(hl:l.length<=1000):Rets prog 137 #[v] w0 λr w'=>r=.int .i64 (orZ l)/\w'=w0:=by
 obtain⟨A,c,rfl,a1,hM,hA⟩:=id O;clear hA;unfold maxLen at hM;refine we [(0,.slice A l.length c)] func137 U ntmps137 U (.cons U .nil) ?_;have Z:=O;refine sr<|asg U<|nn<|sr<|asg U<|nn<|sq<|sr<|mv U U<|lnS U underlying22<|mv U U<|nn<|bl<|lpK (ι:=Nat) (ll3 3 6 7) (λi=>[(8,.int .i64 (i:Int))]) (λi w'=>Fr [] w0 w'/\i<=l.length/\(∀j,j<i->l.getD j 0=0)/\w'=w0) (λi=>l.length-i) 0 (csu U) ⟨l12 _ _,⟨l17 _,⟨λj h=>absurd h oo,rfl⟩⟩⟩ ?_;rintro i w1 ⟨q1,⟨hi,⟨hz,D⟩⟩⟩;refine kpC (ll4 3 6 7 8) (csu U)<|sr<|lt' U<|nn<|sq<|cd U (λc0=>?_)<|λc0=>?_;refine sk<|tn<|sq<|bl<|sr ?_;have O:=Z.ext q1;refine z1b (0) U O U y0j z1j<|λa0 I=>?_;refine z1c U (I _ O) na3<|asg U<|nn<|sr<|mv U U<|mv U U<|ne' U<|nn<|cd U (λc1=>?_)<|λc1=>?_;refine sr<|mv U U<|asg U<|kpL (ll1 2) (csu U)<|nn<|rt<|rb<|tr<|tr<|rb<|tr<|r1 results137 U ?_;exact⟨_,rfl,congrArg (Value.int .i64) (v4w oo hz oo).symm,D⟩;refine sk<|bn'<|tn<|rg<|z0v U (wi6 oo)<|mv U U<|nl ?_;exact lpE (i+1) (csu U) ⟨q1,⟨oo,⟨λj h=>by
  by_cases e:j=i;subst e;omega;exact hz j oo,D⟩⟩⟩ oo
 obtain rfl:i=l.length:=by omega
 refine ex<|te<|te<|xh<|tn<|sr<|mv U U<|asg U<|kpL (ll1 2) (csu U)<|nn<|rt<|r1 results137 U ?_;exact⟨_,rfl,congrArg (Value.int .i64) (x0j hz).symm,D⟩
theorem nanD (x:Int)(W:World):Calls prog 161 #[.int .i64 x] W λe w'=>e=.returned (.bool false)/\w'=W:=by
 go_enter func161,ntmps161;go_wp2;go_ret;exact⟨sp0,rfl⟩
theorem k4o (x:Int)(W:World):Calls prog 179 #[.int .u8 x] W λe w'=>e=.returned (.bool false)/\w'=W:=by
 go_enter func179,ntmps179;go_wp2;go_ret;exact⟨sp0,rfl⟩
theorem cmpD (x y:Int)(W:World):Calls prog 122 #[.int .i64 x,.int .i64 y] W λe w'=>e=.returned (.int .i64<|y1c x y)/\w'=W:=by
 go_enter func122,ntmps122
 go_wp2_with (go_at_call 161;refine(nanD _ _).mono ?_;rintro e w' ⟨rfl,D⟩;rw[D])
 all_goals (go_ret;refine⟨?_,rfl⟩;unfold y1c;(repeat' split)<;>first|rfl|(exfalso;omega))
theorem k5i (x y:Int)(W:World):Calls prog 138 #[.int .u8 x,.int .u8 y] W λe w'=>e=.returned (.int .i64<|y1c x y)/\w'=W:=by
 go_enter func138,ntmps138
 go_wp2_with (go_at_call 179;refine(k4o _ _).mono ?_;rintro e w' ⟨rfl,D⟩;rw[D])
 all_goals (go_ret;refine⟨?_,rfl⟩;unfold y1c;(repeat' split)<;>first|rfl|(exfalso;omega))
theorem orD (b T:Nat)(x y:Int)(W:World)(D:W.heap[b]?=some (.cells #[.int .i64 x,.int .i64 y] T (0,0))):Calls prog 137 #[.slice (saa b) 2 2] W λe w'=>e=.returned (.int .i64<|orZ [x,y])/\w'=W:=
 Calls.mono (k4h _ _ W (j7d D) sp0) (by rintro e w' ⟨r,rfl,rfl,h⟩;exact⟨rfl,h⟩)
theorem j2p (x y:LId)(W:World):Calls prog 76 #[ivv x,ivv y] W λe w'=>e=.returned (.int .i64<|z6m x y)/\DG W w':=by
 rw[<-v0s x y]
 go_enter func76,ntmps76
 go_wp2
 go_region_held3 (λw'=>w'.cell? ⟨W.heap.size,0,none⟩=some (.int .u8 x.y)/\w'.cell? ⟨W.heap.size,1,none⟩=some (.int .i64 x.n)/\w'.cell? ⟨W.heap.size+1,0,none⟩=some (.int .u8 y.y)/\w'.cell? ⟨W.heap.size+1,1,none⟩=some (.int .i64 y.n)) (go_keep)
  (first|(go_at_call 138;refine(k5i _ _ _).mono ?_;rintro e w' ⟨rfl,rfl⟩)|(go_at_call 122;refine(cmpD _ _ _).mono ?_;rintro e w' ⟨rfl,rfl⟩)|(go_at_call 137;refine(orD _ 3 (y1c x.y y.y) (y1c x.n y.n) _<|j3q _ _ _ sp0).mono ?_;rintro e w' ⟨rfl,rfl⟩)|(go_at_call 137;refine(orD _ 3 (y1c x.y y.y) (y1c x.n y.n) _<|k5b _ _ _ sp0).mono ?_;rintro e w' ⟨rfl,rfl⟩))
 all_goals go_wp2
 all_goals go_ret
 all_goals refine⟨rfl,?_⟩
 all_goals repeat first|exact DG.refl _|refine DG.drew ?_|refine DG.alloc ?_ _
theorem k0y (x y:Cx)(W:World):Calls prog 75 #[j6t x,j6t y] W λe w'=>e=.returned (.int .i64<|x2b x y)/\DG W w':=by
 go_enter func75,ntmps75
 go_wp2_with (first|(go_at_call 76;refine(j2p ⟨_,_⟩ ⟨_,_⟩ _).mono ?_;rintro e w' ⟨rfl,D⟩;have Z:w'.cell? ⟨W.heap.size,2,none⟩=some (.int .u8 x.b.y):=D.cell (by simp[j6t]);have c2:w'.cell? ⟨W.heap.size,3,none⟩=some (.int .i64 x.b.n):=D.cell (by simp[j6t]);have c3:w'.cell? ⟨W.heap.size+1,2,none⟩=some (.int .u8 y.b.y):=D.cell (by simp[j6t]);have c4:w'.cell? ⟨W.heap.size+1,3,none⟩=some (.int .i64 y.b.n):=D.cell (by simp[j6t]))|(go_at_call 76;refine(j2p ⟨_,_⟩ ⟨_,_⟩ _).mono ?_;rintro e O ⟨rfl,I⟩))
 all_goals go_ret
 ·rename_i h
  refine⟨?_,(((DG.refl _).alloc _).alloc _).trans D⟩
  show Ending.returned (Value.int .i64<|z6m x.a y.a)=_
  unfold x2b;rw[if_pos (by simpa using h)]
 rename_i h
 refine⟨?_,((((DG.refl _).alloc _).alloc _).trans D).trans I⟩
 show Ending.returned (Value.int .i64<|z6m x.b y.b)=_
 unfold x2b;rw[if_neg (by simpa using h)]
end Go.Proofs.YtlfdhllfmoplgaaGreatDoor
namespace Go.Proofs
open Go.Shelf
def Tryz.sortCx_ren:Go.Shelf.Ren:=⟨fun|6=>74|15=>136|14=>135|28=>177|29=>178|20=>169|21=>170|22=>171|23=>172|24=>173|25=>174|26=>175|27=>176|46=>211|47=>212|48=>213|49=>214|50=>215|57=>231|n=>n,fun|22=>29|24=>147|25=>152|3=>3|39=>219|0=>0|53=>262|55=>264|4=>4|46=>255|45=>254|50=>259|5=>5|9=>9|66=>288|70=>292|76=>310|77=>311|n=>n,fun|n=>n⟩
theorem Tryz.sortCx:Go.Proofs.SlLaysF0.n6 Tryz.prog Tryz.sortCx_ren:={
 mixed:=by kernel_rfl
 f6:=⟨Tryz.f74.name,dd,Tryz.func74.trans<|congrArg some kr⟩
 f14:=⟨Tryz.f135.name,dd,Tryz.func135.trans<|congrArg some kr⟩
 f15:=Tryz.func136.trans<|congrArg some kr
 f20:=⟨Tryz.f169.name,dd,Tryz.func169.trans<|congrArg some kr⟩
 f21:=⟨Tryz.f170.name,dd,Tryz.func170.trans<|congrArg some kr⟩
 f22:=⟨Tryz.f171.name,dd,Tryz.func171.trans<|congrArg some kr⟩
 f23:=⟨Tryz.f172.name,dd,Tryz.func172.trans<|congrArg some kr⟩
 f24:=⟨Tryz.f173.name,dd,Tryz.func173.trans<|congrArg some kr⟩
 f25:=⟨Tryz.f174.name,dd,Tryz.func174.trans<|congrArg some kr⟩
 f26:=⟨Tryz.f175.name,dd,Tryz.func175.trans<|congrArg some kr⟩
 f27:=⟨Tryz.f176.name,dd,Tryz.func176.trans<|congrArg some kr⟩
 f28:=Tryz.func177.trans<|congrArg some kr
 f29:=Tryz.func178.trans<|congrArg some kr
 f46:=⟨Tryz.f211.name,dd,Tryz.func211.trans<|congrArg some kr⟩
 f47:=Tryz.func212.trans<|congrArg some kr
 f48:=Tryz.func213.trans<|congrArg some kr
 f49:=⟨Tryz.f214.name,dd,Tryz.func214.trans<|congrArg some kr⟩
 f50:=⟨Tryz.f215.name,dd,Tryz.func215.trans<|congrArg some kr⟩
 f57:=⟨Tryz.f231.name,dd,Tryz.func231.trans<|congrArg some kr⟩
 t0:=Tryz.underlying0
 a0:=Tryz.isAgg0
 z0:=Tryz.sizeOf0
 v0:=Tryz.zeroValue0
 t3:=Tryz.underlying3
 a3:=Tryz.isAgg3
 z3:=Tryz.sizeOf3
 v3:=Tryz.zeroValue3
 t4:=Tryz.underlying4
 a4:=Tryz.isAgg4
 z4:=Tryz.sizeOf4
 v4:=Tryz.zeroValue4
 t5:=Tryz.underlying5
 a5:=Tryz.isAgg5
 z5:=Tryz.sizeOf5
 v5:=Tryz.zeroValue5
 t9:=Tryz.underlying9
 a9:=Tryz.isAgg9
 z9:=Tryz.sizeOf9
 v9:=Tryz.zeroValue9
 t22:=Tryz.underlying29
 a22:=Tryz.isAgg29
 z22:=Tryz.sizeOf29
 v22:=Tryz.zeroValue29
 t25:=Tryz.underlying152
 a25:=Tryz.isAgg152
 z25:=Tryz.sizeOf152
 v25:=Tryz.zeroValue152
 t39:=Tryz.underlying219
 a39:=Tryz.isAgg219
 z39:=Tryz.sizeOf219
 v39:=Tryz.zeroValue219
 t45:=Tryz.underlying254
 a45:=Tryz.isAgg254
 z45:=Tryz.sizeOf254
 v45:=Tryz.zeroValue254
 t46:=Tryz.underlying255
 a46:=Tryz.isAgg255
 z46:=Tryz.sizeOf255
 v46:=Tryz.zeroValue255
 t50:=Tryz.underlying259
 a50:=Tryz.isAgg259
 z50:=Tryz.sizeOf259
 v50:=Tryz.zeroValue259
 t53:=Tryz.underlying262
 a53:=Tryz.isAgg262
 z53:=Tryz.sizeOf262
 v53:=Tryz.zeroValue262
 t55:=Tryz.underlying264
 a55:=Tryz.isAgg264
 z55:=Tryz.sizeOf264
 v55:=Tryz.zeroValue264
 t66:=Tryz.underlying288
 a66:=Tryz.isAgg288
 z66:=Tryz.sizeOf288
 v66:=Tryz.zeroValue288
 t70:=Tryz.underlying292
 a70:=Tryz.isAgg292
 z70:=Tryz.sizeOf292
 v70:=Tryz.zeroValue292
 t76:=Tryz.underlying310
 a76:=Tryz.isAgg310
 z76:=Tryz.sizeOf310
 v76:=Tryz.zeroValue310
 t77:=Tryz.underlying311
 a77:=Tryz.isAgg311
 z77:=Tryz.sizeOf311
 v77:=Tryz.zeroValue311 }
def Tryz.sortId_ren:Go.Shelf.Ren:=⟨fun|6=>78|15=>136|14=>139|28=>177|29=>178|20=>180|21=>181|22=>182|23=>183|24=>184|25=>185|26=>186|27=>187|46=>216|47=>212|48=>213|49=>217|50=>218|57=>232|n=>n,fun|22=>30|24=>64|25=>151|3=>3|39=>219|0=>0|53=>262|55=>264|4=>4|46=>255|45=>254|50=>259|5=>5|9=>9|66=>288|70=>292|76=>310|77=>311|n=>n,fun|n=>n⟩
theorem Tryz.sortId:Go.Proofs.SlLaysF0.n6 Tryz.prog Tryz.sortId_ren:={
 mixed:=by kernel_rfl
 f6:=⟨Tryz.f78.name,dd,Tryz.func78.trans<|congrArg some kr⟩
 f14:=⟨Tryz.f139.name,dd,Tryz.func139.trans<|congrArg some kr⟩
 f15:=Tryz.func136.trans<|congrArg some kr
 f20:=⟨Tryz.f180.name,dd,Tryz.func180.trans<|congrArg some kr⟩
 f21:=⟨Tryz.f181.name,dd,Tryz.func181.trans<|congrArg some kr⟩
 f22:=⟨Tryz.f182.name,dd,Tryz.func182.trans<|congrArg some kr⟩
 f23:=⟨Tryz.f183.name,dd,Tryz.func183.trans<|congrArg some kr⟩
 f24:=⟨Tryz.f184.name,dd,Tryz.func184.trans<|congrArg some kr⟩
 f25:=⟨Tryz.f185.name,dd,Tryz.func185.trans<|congrArg some kr⟩
 f26:=⟨Tryz.f186.name,dd,Tryz.func186.trans<|congrArg some kr⟩
 f27:=⟨Tryz.f187.name,dd,Tryz.func187.trans<|congrArg some kr⟩
 f28:=Tryz.func177.trans<|congrArg some kr
 f29:=Tryz.func178.trans<|congrArg some kr
 f46:=⟨Tryz.f216.name,dd,Tryz.func216.trans<|congrArg some kr⟩
 f47:=Tryz.func212.trans<|congrArg some kr
 f48:=Tryz.func213.trans<|congrArg some kr
 f49:=⟨Tryz.f217.name,dd,Tryz.func217.trans<|congrArg some kr⟩
 f50:=⟨Tryz.f218.name,dd,Tryz.func218.trans<|congrArg some kr⟩
 f57:=⟨Tryz.f232.name,dd,Tryz.func232.trans<|congrArg some kr⟩
 t0:=Tryz.underlying0
 a0:=Tryz.isAgg0
 z0:=Tryz.sizeOf0
 v0:=Tryz.zeroValue0
 t3:=Tryz.underlying3
 a3:=Tryz.isAgg3
 z3:=Tryz.sizeOf3
 v3:=Tryz.zeroValue3
 t4:=Tryz.underlying4
 a4:=Tryz.isAgg4
 z4:=Tryz.sizeOf4
 v4:=Tryz.zeroValue4
 t5:=Tryz.underlying5
 a5:=Tryz.isAgg5
 z5:=Tryz.sizeOf5
 v5:=Tryz.zeroValue5
 t9:=Tryz.underlying9
 a9:=Tryz.isAgg9
 z9:=Tryz.sizeOf9
 v9:=Tryz.zeroValue9
 t22:=Tryz.underlying30
 a22:=Tryz.isAgg30
 z22:=Tryz.sizeOf30
 v22:=Tryz.zeroValue30
 t25:=Tryz.underlying151
 a25:=Tryz.isAgg151
 z25:=Tryz.sizeOf151
 v25:=Tryz.zeroValue151
 t39:=Tryz.underlying219
 a39:=Tryz.isAgg219
 z39:=Tryz.sizeOf219
 v39:=Tryz.zeroValue219
 t45:=Tryz.underlying254
 a45:=Tryz.isAgg254
 z45:=Tryz.sizeOf254
 v45:=Tryz.zeroValue254
 t46:=Tryz.underlying255
 a46:=Tryz.isAgg255
 z46:=Tryz.sizeOf255
 v46:=Tryz.zeroValue255
 t50:=Tryz.underlying259
 a50:=Tryz.isAgg259
 z50:=Tryz.sizeOf259
 v50:=Tryz.zeroValue259
 t53:=Tryz.underlying262
 a53:=Tryz.isAgg262
 z53:=Tryz.sizeOf262
 v53:=Tryz.zeroValue262
 t55:=Tryz.underlying264
 a55:=Tryz.isAgg264
 z55:=Tryz.sizeOf264
 v55:=Tryz.zeroValue264
 t66:=Tryz.underlying288
 a66:=Tryz.isAgg288
 z66:=Tryz.sizeOf288
 v66:=Tryz.zeroValue288
 t70:=Tryz.underlying292
 a70:=Tryz.isAgg292
 z70:=Tryz.sizeOf292
 v70:=Tryz.zeroValue292
 t76:=Tryz.underlying310
 a76:=Tryz.isAgg310
 z76:=Tryz.sizeOf310
 v76:=Tryz.zeroValue310
 t77:=Tryz.underlying311
 a77:=Tryz.isAgg311
 z77:=Tryz.sizeOf311
 v77:=Tryz.zeroValue311 }
end Go.Proofs
namespace Go.Proofs.YtlfdhllfmoplgaaGreatDoor
open Go.Lw Go.G21 Go.G08 _root_.Go.Proofs.Tryz
open Go.Shelf Go.Sort
theorem j5g (f:Value)(W:World):Calls prog 169 #[.slice none 0 0,.int .i64 0,.int .i64 0,f] W λe w'=>e=.returned (.tuple #[])/\Fr [] W w':=by
 go_enter func169,ntmps169
 go_wp2
 refine wp_loop_rounds 1 ?_
 simp only[rounds_succ]
 go_wp2
 all_goals first|go_end0|((try simp only[Exit.inBlock,Exit.then]);refine bodyPost_ret (results_none U _ _ _) U ?_)
 all_goals exact⟨rfl,l12 _ _⟩
theorem j0e (f:Value)(W:World):Calls prog 135 #[.slice none 0 0,.int .i64 0,.int .i64 0,.int .i64 0,f] W λe w'=>e=.returned (.tuple #[])/\Fr [] W w':=by
 go_enter func135,ntmps135
 go_wp2
 refine wp_loop_rounds 1 ?_
 simp only[rounds_succ]
 go_wp2_with (go_at_call 169;refine(j5g _ _).mono ?_;rintro e w' ⟨rfl,D⟩)
 all_goals first|go_end0|((try simp only[Exit.inBlock,Exit.then]);refine bodyPost_ret (results_none U _ _ _) U ?_)
 all_goals exact⟨rfl,D⟩
theorem j2a (W:World):Calls prog 136 #[.int .u64 0] W λe w'=>e=.returned (.int .i64 0)/\w'=W:=
 Any.bits_Len (SlLaysF0.n15.bits (P:=prog) (ρ:=sortCx_ren) { sortCx with }) (0:Int) W oo oo
theorem j1a (f:Value)(W:World):Calls prog 74 #[.slice none 0 0,f] W λe w'=>e=.returned (.tuple #[])/\Fr [] W w':=by
 go_enter func74,ntmps74
 go_wp2_with (first|(go_at_call 136;refine(j2a _).mono ?_;rintro e w' ⟨rfl,rfl⟩)|(go_at_call 135;refine(j0e _ _).mono ?_;rintro e w' ⟨rfl,D⟩))
 all_goals go_end0
 all_goals exact⟨rfl,D⟩
theorem j3x (f:Value)(W:World):Calls prog 180 #[.slice none 0 0,.int .i64 0,.int .i64 0,f] W λe w'=>e=.returned (.tuple #[])/\Fr [] W w':=by
 go_enter func180,ntmps180
 go_wp2
 refine wp_loop_rounds 1 ?_
 simp only[rounds_succ]
 go_wp2
 all_goals first|go_end0|((try simp only[Exit.inBlock,Exit.then]);refine bodyPost_ret (results_none U _ _ _) U ?_)
 all_goals exact⟨rfl,l12 _ _⟩
theorem j1k (f:Value)(W:World):Calls prog 139 #[.slice none 0 0,.int .i64 0,.int .i64 0,.int .i64 0,f] W λe w'=>e=.returned (.tuple #[])/\Fr [] W w':=by
 go_enter func139,ntmps139
 go_wp2
 refine wp_loop_rounds 1 ?_
 simp only[rounds_succ]
 go_wp2_with (go_at_call 180;refine(j3x _ _).mono ?_;rintro e w' ⟨rfl,D⟩)
 all_goals first|go_end0|((try simp only[Exit.inBlock,Exit.then]);refine bodyPost_ret (results_none U _ _ _) U ?_)
 all_goals exact⟨rfl,D⟩
theorem j5d (W:World):Calls prog 136 #[.int .u64 0] W λe w'=>e=.returned (.int .i64 0)/\w'=W:=
 Any.bits_Len (SlLaysF0.n15.bits (P:=prog) (ρ:=sortId_ren) { sortId with }) (0:Int) W oo oo
theorem j3p (f:Value)(W:World):Calls prog 78 #[.slice none 0 0,f] W λe w'=>e=.returned (.tuple #[])/\Fr [] W w':=by
 go_enter func78,ntmps78
 go_wp2_with (first|(go_at_call 136;refine(j5d _).mono ?_;rintro e w' ⟨rfl,rfl⟩)|(go_at_call 139;refine(j1k _ _).mono ?_;rintro e w' ⟨rfl,D⟩))
 all_goals go_end0
 all_goals exact⟨rfl,D⟩
instance:Inhabited Cx:=⟨cx0⟩
instance:Inhabited LId:=⟨id0⟩
theorem j7g {w0:World}{T base:Nat}{v:Value}{l:List Cx}(ho:Lw.Own z5s T base w0 v l)(hl:l.length<4611686018427387904)(hn:(l.map λc=>(c.a,c.b)).Nodup):Rets prog 74 #[v,.func (.func 75) #[] #[]] w0 λr w'=>r=.tuple #[]/\Lw.Own z5s T base w' v (y4c l)/\Fr (z0u v) w0 w':=
 Rets.mono (v1k (E:=z5s) (f:=74) sortCx U isAgg147 sizeOf147 x2b swoX (enters_of func75 kr U) (λx y W=>k0y x y W) (j1a _) ho hl) (by
  rintro r w' ⟨rfl,l',O,Z,D,I⟩
  rw[x6g hn O Z]at D
  exact⟨rfl,D,I⟩)
theorem k0z {w0:World}{T base:Nat}{v:Value}{l:List LId}(ho:Lw.Own z1g T base w0 v l)(hl:l.length<4611686018427387904):Rets prog 78 #[v,.func (.func 76) #[] #[]] w0 λr w'=>r=.tuple #[]/\Lw.Own z1g T base w' v (y2g l)/\Fr (z0u v) w0 w':=
 Rets.mono (v1k (E:=z1g) (f:=78) sortId U isAgg64 sizeOf64 z6m swoI (enters_of func76 kr U) (λx y W=>j2p x y W) (j3p _) ho hl) (by
  rintro r w' ⟨rfl,l',O,Z,D,I⟩
  rw[v4e O Z]at D
  exact⟨rfl,D,I⟩)
open Go.Lw Go.G21 Go.G08 _root_.Go.Proofs.Tryz
theorem v0r (q:BdQ)(r:Int)(w0:World)(Z:BdAt w0 q)(D:BdOk q.p)(hr:-4<=r/\r<=4):Rets prog 56 #[bvv q,.int .i64 r] w0 λv w'=>(∃g l n,l=z2l q.p r/\n=l.length/\n<=320/\v=.tuple #[.slice (saa g) n n,.int .i64 0]/\w0.heap.size<=g/\Lw.Own z4g 131 w0.heap.size w' (.slice (saa g) n n) l)/\Fr [] w0 w':=
 Rets.mono (v5w q r w0 Z D hr) (by
  rintro v w' ⟨⟨g,rfl,I,O⟩,h3⟩
  have hN:=y5p D
  have a0:=z8o q.p r
  have a1:(z2l q.p r).length=(x8c q.p r).length:=z4s _
  exact⟨⟨g,_,_,rfl,rfl,oo,rfl,I,O⟩,h3⟩)
theorem v5c {l:List Hd}{ps:List LId}(hl:ps.length=l.length)(h:∀j,j<l.length->ps.getD j id0=(l.getD j hd0).id):ps=l.map Hd.id:=by
 refine l73 (by simp[hl]) λj I O=>?_;have D:j<l.length:=by omega
 have:=h j D;rw[List.getD,List.getD,l10 I,l10 D]at this;simpa using this
theorem y4w (q:BdQ)(r:Int)(w0:World)(hB:BdAt w0 q)(hv:BdOk q.p)(hr:-4<=r/\r<=4):Rets prog 54 #[bvv q,.int .i64 r] w0 λv w'=>(∃g n,n=(z2l q.p r).length/\v=.slice (saa g) n n/\w0.heap.size<=g/\Lw.Own z1g 64 w0.heap.size w' v ((z2l q.p r).map Hd.id))/\Fr [] w0 w':=by
 obtain⟨⟨hf,hb⟩,h4,b2⟩:=z3b hv;refine we [(0,bvv q),(1,.int .i64 r)] func54 U ntmps54 U (.c2 U U) ?_;have a4:=hB;refine sr<|bx U<|λg2 w1 b3 a5 q1 z1=>(asg U<|nn<|sr<|z0k U a5 z5a<|mv U U ?_);have hB:=a4.ext q1;refine cl (ev2 U) (mkC func56) (v0r q _ _ hB hv hr) U ?_;rintro _ w2 ⟨⟨a3,l,n,a7,a2,b5,rfl,b0,hH⟩,q2⟩;have z2:=q2.size;have a6:=(hH.blk a3 t10).2;refine mv U U<|xt U<|xt U<|asg U<|asg U<|kpL (ll1 5) (csu U)<|nn<|sr<|mv U U<|lnS U underlying127<|z1f (m:=n) (c:=n) (id0) U z4k z8q U<|λO w3 b1 I q3 z3=>(asg U<|nn<|sq<|sr<|mv U U<|lnS U underlying127<|mv U U<|nn<|bl<|lpK (ι:=Nat×List LId) (ll3 7 19 20) (λp=>[(21,.int .i64 (p.1:Int))]) (λp w'=>Fr [O] w3 w'/\p.1<=n/\p.2.length=n/\Lw.Own z1g 64 w0.heap.size w' (.slice (saa O) n n) p.2/\(∀j,j<p.1->p.2.getD j id0=(l.getD j hd0).id)) (λp=>n-p.1) (0,List.replicate n id0) (csu U) ⟨l12 _ _,⟨l17 _,sp0,I.low oo,λj hj=>absurd hj sp0⟩⟩ ?_);rintro⟨i,ps⟩ w4 ⟨q4,⟨hi,D,I,a0⟩⟩;simp only at hi I a0 D;have z4:=q4.size;refine kpC [(7,_),(19,_),(20,_),(21,.int .i64 (i:Int))] (csu U)<|sr<|lt' U<|nn<|sq<|cd U (λc0=>?_)<|λc0=>?_;refine sk<|tn<|sq<|bl<|sr<|mv U U ?_;have hH:=(hH.ext q3).fr q4 t11;refine z1b (hd0) U hH.sl U z3t z1j<|λa9 a1=>?_;refine z1q U (a1 _ hH.sl) z5y<|al v6g U<|λg9 w5 b4 Z q5 z5=>(asg U<|z0i (vs:=[_,_,_,_,_]) U Z z8u<|λw6 Z q6 z6=>(nn<|rg<|mv U U<|mv U U<|fad U x5w<|z1v (vs:=[_,_]) U Z z2z U ?_));have I:=(I.ext q5).fr q6 (by intro k hk hb;simp at hk;subst hk;have:=(I.blk _ hb);omega);refine z5p (p:=i) (E:=z1g) U z4k<|z3i (i:=i) (((l.getD i hd0).id)) U I oo U y0i<|λw7 I q7 z7=>(kpL (ll4 7 19 20 21) (csu U)<|nl<|bn'<|tn<|rg<|z0v U (wi6 oo)<|mv U U<|nl ?_);exact lpE ((i+1,ps.set i<|(l.getD i hd0).id)) (csu U) ⟨((l12 [O] _).z4 q4 q5 q6 q7),⟨sm,by simp only[l19];exact D,I,λj hj=>by
  simp only at hj ⊢;rw[z1k oo];split;rename_i e;subst e;rfl;exact a0 j oo⟩⟩ sm
 obtain rfl:i=n:=by omega
 refine ex<|te<|te<|xh<|tn<|sr<|mv U U<|asg U<|kpL (ll1 4) (csu U)<|nn<|rt<|r1 results54 U ?_;have a8:=v5c (D.trans a2)<|λj hj=>a0 j oo;subst a7;subst a8;exact⟨_,rfl,⟨O,_,a2,rfl,oo,I⟩,(q1.z3 q2 q3 q4)⟩
theorem z7r:z3y prog 34 8:=⟨λ_=>kr,λ_=>kr⟩
theorem j8y:BuildAt prog 32 [(0,1),(1,1),(2,1),(3,1)] [(.slice none 0 0),(.slice none 0 0),(.slice none 0 0),(.slice none 0 0)]:=BuildAt.struct underlying32 (λ_=>kr)<|λ_=>kr
theorem x9k:BuildAt prog 34 [(0,1),(1,2),(3,1),(4,4)] [(.int .i64 0),(.slice none 0 0),(.slice none 0 0),(.slice none 0 0),(.slice none 0 0),(.slice none 0 0),(.slice none 0 0),(.slice none 0 0)]:=BuildAt.struct underlying34 (λ_=>kr)<|λ_=>kr
theorem k4p:BuildAt prog 147 [(0,2),(2,2),(4,1)] [(.int .u8 0),(.int .i64 0),(.int .u8 0),(.int .i64 0),(.int .i64 0)]:=BuildAt.struct underlying147 (λ_=>kr)<|λ_=>kr
theorem j8z:z1r prog 32 4:=λ_=>kr
theorem z9m:z1r prog 34 8:=λ_=>kr
theorem j8h (w:World):(zeroValue 32).run prog w=.ok (.agg #[(.slice none 0 0),(.slice none 0 0),(.slice none 0 0),(.slice none 0 0)]) w:=kr
theorem y6l (w:World):(zeroValue 34).run prog w=.ok (.agg #[(.int .i64 0),(.slice none 0 0),(.slice none 0 0),(.slice none 0 0),(.slice none 0 0),(.slice none 0 0),(.slice none 0 0),(.slice none 0 0)]) w:=kr
theorem x3l (wS:World)(ka:MA)(m:MQ)(w0:World)(hM:MkM τd 145 wS ka w0 m)(hi:MInv m.p)(o1:m.cr.length<=100000000):Rets prog 29 #[pta ka.gk] w0 λr w'=>∃s:StQ,r=(svv s)/\StO τd 147 wS.heap.size w' s/\s.p=stM m.p/\Fr [] wS w':=by
 have o7:=hM.fr.size;have D:=hM.k;have o5:=D.lt;have o6:=hM.ly;have f9:=hM.lt;have i5:=hM;have n7:=(hM.t.out.blk ka.gt t10).2;have m9:=hM.c.lt;have i8:=λk D=>(hM.f.blk k D).2;have o2:(crM m.cr).length=m.cr.length:=l18 ..;have l5:∀j,(m.ts.getD j tq0).2.length<=2048:=λj=>l37 (u9r m.ts j) hi.all;have hfl:m.fl.length<=2048:=by have x:=hi.cnt;have y:=hi.all;have z:m.p.fa=m.fl:=rfl;rw[z]at x;omega
 refine we [(0,pta ka.gk)] func29 U ntmps29 U (.cons U .nil) ?_;have a4:=hM;refine sr<|al y6l U<|λg2 w1 o3 Z q1 z1=>(nn<|sr<|mv U U<|nlc U<|fad U y3f ?_);have D:=D.ext q1;refine z0j U D U v3k ?_;have hM:=a4.ext q1;refine k2w U hM.c underlying142 U<|z1f (m:=0) (c:=(crM m.cr).length) (cx0) U u7w u2s U<|λn9 w2 m5 ho q2 z2=>(asg U<|kpL (ll3 0 2 3) (csu U)<|nn<|sq<|sr<|mv U U<|nlc U<|fad U y3f ?_);have D:=D.ext q2;refine z0j U D U v3k ?_;have hM:=a4.ext<|q1.n1 q2;refine u3q U hM.c underlying142 U<|λk5 w3 m6 a3 q3 z3=>(nn<|bl ?_);have ho:=ho.ext q3;refine lpK (ι:=Value×List Cx×List Cx) (ll3 0 2 19) (λp=>[(3,p.1)]) (λp w'=>Fr [] w1 w'/\(p.2.1++p.2.2).Perm m.cr/\Lw.Own z5s 147 w1.heap.size w' p.1 p.2.1/\CrIt w' k5 ka.gc (crM m.cr) p.2.2 none) (λp=>p.2.2.length) (_,[],m.cr) (csu U) ⟨(q2.n1 q3),⟨List.Perm.refl _,ho.low oo,a3⟩⟩ ?_;rintro⟨vP,a7,rem⟩ w4 ⟨q4,⟨f4,ho,a3⟩⟩;simp only at f4 ho a3;have z4:=q4.size;refine kpC [(0,_),(2,_),(19,_),(3,vP)] (csu U) ?_;have g1:=a3.neO ho;have k8:=a3.lt;have l4:=f4.length_eq;rw[l13]at l4;refine sr<|j3t U a3 U (λl1 c l2 g8 w5 a3 q5 z5=>?_)<|λg8=>?_;refine xt U<|nn<|sq<|ct U ?_;have j3:((a7++[c])++(l1++l2)).Perm m.cr:=by
  rw[g8]at f4;refine List.Perm.trans ?_ f4;rw[l14];exact List.Perm.append_left _ (show (c::(l1++l2)).Perm (l1++c::l2) from List.perm_middle.symm)
 refine sk<|tn<|bl<|sr<|u6j U a3 U<|xt U<|xt U<|al k0f U<|λg4 w6 o4 g5 q6 z6=>(z0i (vs:=[_,_,_,_]) U g5 j1y<|λw7 g5 q7 z7=>?_);refine asg U<|nn<|rg<|mv U U<|z9y U U underlying148 y0i<|z1v (vs:=[_,_]) U g5 z2z U<|z9y U U underlying148 y0i<|z1v (vs:=[_,_]) U g5 z2z U<|mv U U<|z1u (cs:=[_,_,_,_,_]) (ev3 U) k4p (z0g U<|z0g U<|z0g U z0r) U ?_;refine z1i ([c]) (ev1 U) U u7w<|λo0 w8 m7 j1 q8 z8=>?_;have a3:=((a3.ext q6).fr q7 (by intro k D;simp at D;subst D;exact⟨oo,oo⟩)).ext q8;have ho:=(((ho.fr q5 (by intro k D I;simp at D;subst D;first|exact(g1 _ I).2 U|(have:=ho.blk _ I;omega))).ext q6).fr q7 (by intro k D I;simp at D;subst D;first|exact(g1 _ I).2 U|(have:=ho.blk _ I;omega))).ext q8;have g3:=ho;refine z2k U ho j1.sl u7w<|λo8 w9 ho q9 l3=>?_;have z9:=q9.size;have a3:=a3.fr q9<|a3.neO g3;exact asg U<|kpL (ll4 0 2 3 19) (csu U)<|nl<|bn'<|lpE ((_,a7++[c],l1++l2)) (csu U) ⟨((q4.z4 q5 q6 q7 q8).step q9<|λk D f9=>absurd (g3.blk k D).1 oo),⟨j3,ho,a3.no⟩⟩ (by simp only[g8,l13,l34];omega);refine xt U<|nn<|sq<|cf U ?_;rw[g8,l27]at f4;have l0:(a7.map λc=>(c.a,c.b)).Nodup:=(f4.map _).nodup_iff.2 (by have x:=i5.c.nodup;rwa [x0a]at x);have g9:y4c a7=y4c m.cr:=x6g (by have x:=i5.c.nodup;rwa [x0a]at x) ((z3q a7).trans f4)<|y4t a7;refine ex<|te<|te<|xh<|tn<|sr<|mv U U ?_;have j2:=ho;have Z:=Z.ext q4;refine cl (ev2 U) (mkC func74) (j7g ho oo l0) U ?_;rintro _ l6 ⟨rfl,ho,i1⟩;have Z:=Z.fr i1 (λD=>by have:=(j2.blk _ D).1;omega);have r7:=i1.size;have hM:=a4.ext<|(q1.n1 q4).step i1<|λk D f9=>absurd (j2.blk k D).1 oo;have D:=hM.k;refine nn<|sq<|sr<|mv U U<|nlc U<|fad U y3d<|z0j U D U v1c<|lnS U underlying28<|mv U U<|nn<|bl<|lpK (ι:=Nat×List TQ) (ll5 0 2 3 39 40) (λp=>[(41,.int .i64 (p.1:Int))]) (λp w'=>Fr [ka.gt] l6 w'/\p.1<=6/\(∀j,(p.2.getD j tq0).2=(m.ts.getD j tq0).2)/\MkM τd 145 wS ka w' { m with ts:=p.2 }) (λp=>6-p.1) (0,m.ts) (csu U) ⟨l12 _ _,⟨l17 _,λ_=>rfl,hM⟩⟩ ?_;rintro⟨i,ts⟩ o9 ⟨h1,⟨k9,e3,hM⟩⟩;simp only at k9 e3 hM;have r8:=h1.size;have a4:=hM;refine kpC [(0,_),(2,_),(3,_),(39,_),(40,_),(41,.int .i64 (i:Int))] (csu U) ?_;have D:=hM.k;have h0:ts.length=6:=hM.lt;have n8:=hM.lt;refine sr<|lt' U<|nn<|sq<|cd U (λc1=>?_)<|λc1=>?_;refine sk<|tn<|sq<|bl<|sr<|mv U U<|z1b (tq0) U hM.t.out.sl U x1r z1j<|λm4 i7=>?_;refine z1c U (i7 _ hM.t.out.sl) y2m<|asg U<|asg U<|nn ?_;intro a h;refine z0h (some 7) (λwb w'=>Fr [] wb w') z2r ?_;intro j5 h2;have r9:=h2.size;have hM:=hM.ext h2;have D:=D.ext h2;have hC:Fr [] j5 j5:=l12 _ _;have b7:=hM;have O:=D;refine z0e 0 h U λa h=>z0o 1 h U λa h=>z0c 2 h U y3d U λa h=>z0m 3 h U (λ_ hw=>O.ext hw) U v1c U λa h=>z0e 4 h U λa h=>z0e 5 h U λa h=>z0d 6 U<|z0n h (z0a U z0f) (mkC func77) (v8h _ (ts.getD i tq0).2 _ (hM.t.ins i (by rw[hM.lt];omega)).sl (by rw[e3 i];have:=l5 i;omega)) ?_;rintro _ p0 ⟨i4,rfl,m8,hX,h3⟩ a h;have s1:=h3.size;have hM:=hM.ext h3;have hC:=hC.next h3;have j0:∀j,j<6->∀b∈z0u (slv (ts.getD j tq0).1),b∉z0u (slv (((some ⟨i4,0,none⟩,(ts.getD i tq0).2.length,(ts.getD i tq0).2.length)):SV)):=λj hj b I k6=>by have:=((a4.t.ins j (by rw[a4.lt];omega)).blk b I).2;simp[z0u,slv]at k6;omega
 refine z0b<|z0d 7 U<|x0s (p:=i) (i:=(i:Int)) (m:=6) (E:=z4w) h U U x1r oo oo oo U λa h=>?_;refine z0b<|z0d 8 U<|z1a (i:=i) (((some ⟨i4,0,none⟩,(ts.getD i tq0).2.length,(ts.getD i tq0).2.length),(ts.getD i tq0).2):TQ) h U hM.t.out (by rw[hM.lt];omega) U j4l λp1 h7 i2 _hz a h=>?_;have hM:=hM.tabh mtd oo (hX.low oo) j0 h7 i2;have a4:=hM;clear h7;have s2:=i2.size;clear _hz;refine z1m<|z0p ?_;clear hC b7 O;refine bk (h.sub (L':=ll6 0 2 3 39 40 41)<|csu U)<|bn'<|tn<|rg<|z0v U (wi6 oo)<|mv U U<|nl ?_;exact lpE ((i+1,_)) (csu U) ⟨((l12 [ka.gt] _).z4 h1 h2 h3 i2),⟨sm,λj=>by
  simp only;rw[z1k oo];split;rename_i e;subst e;exact e3 _;exact e3 j,hM⟩⟩ sm
 obtain rfl:i=6:=by omega
 refine ex<|te<|te<|xh<|tn<|sr<|mv U U<|nlc U<|fad U y3q<|z0j U D U z6f ?_;have ho:=ho.fr h1 (by intro k D I;simp at D;subst D;have:=ho.blk _ I;omega);have Z:=Z.fr h1;refine cl (z0a U<|z0a U z0f) (mkC func78) (k0z hM.f (by show m.fl.length<_;omega)) U ?_;rintro _ p3 ⟨rfl,k7,g7⟩;have s3:=g7.size;have hM:=hM.fallS mtd dd k7 g7;have a4:=hM;have D:=hM.k;have ho:=ho.fr g7 (λk D I=>by have:=i8 k D;have:=(ho.blk k I).1;omega);have g6:=λk D=>(ho.blk k D).2;have Z:=Z.fr g7 (λD=>by have:=i8 _ D;omega);have f7:=Z;refine kpL (ll3 0 2 3) (csu U)<|nn<|sq ?_;intro a h;refine z0h none (λwb w'=>Fr [] wb w') z2r ?_;intro i3 b1;have s4:=b1.size;have hM:=hM.ext b1;have D:=D.ext b1;have ho:=ho.ext b1;have hC:Fr [] i3 i3:=l12 _ _;have b7:=hM;have O:=D;have f8:=ho;refine z0e 0 h U λa h=>z0o 1 h U λa h=>z0c 2 h U y3d U λa h=>z0m 3 h U (λ_ hw=>O.ext hw) U v1c U λa h=>z0e 4 h U λa h=>z0e 6 h U λa h=>z0o 7 h U λa h=>z0c 8 h U z3p U λa h=>z1h (vs:=[_,_]) 9 h U (λ_ hw=>(O.ext hw)) z5a U U λa h=>z0e 10 h U λa h=>z0o 11 h U λa h=>z0c 12 h U z4i U λa h=>z0m 13 h U (λ_ hw=>O.ext hw) U na3 U λa h=>z0e 15 h U λa h=>z0o 16 h U λa h=>z0c 17 h U y3q U λa h=>z0m 18 h U (λ_ hw=>O.ext hw) U z6f U λa h=>z1w 5 21 kr U ?_ ?_;refine z0n h (z0a U z0f) (mkC func79) (v7d _ (y4c a7) _ ho.sl (by rw[(z3q a7).length_eq];omega)) ?_;rintro _ l7 ⟨f1,rfl,i9,a1,b6⟩ a h;have s5:=b6.size;have hM:=hM.ext b6;have D:=D.ext b6;have ho:=ho.ext b6;have hC:=hC.next b6;have h9:=(a1.blk f1 t10).2;refine z0b<|z1w 14 21 kr U ?_ ?_;refine z0n h (z0a U<|z0a U z0f) (mkC func54) (y4w m.q m.rk _ hM.b.at hi.B hi.rk) ?_;rintro _ l8 ⟨⟨b0,j4,h6,rfl,h4,hH⟩,q18⟩ a h;have s6:=q18.size;have hM:=hM.ext q18;have D:=D.ext q18;have ho:=ho.ext q18;have a1:=a1.ext q18;have hC:=hC.next q18;have h5:=(hH.blk b0 t10).2;refine z0b<|z1w 19 21 kr U ?_ ?_;refine z0n h (z0a U z0f) x5c (z4f _ (y2g m.fl) _ hM.f.sl t62) ?_;rintro _ l9 ⟨a8,rfl,g0,a2,e4⟩ a h;have s7:=e4.size;have D:=D.ext e4;have hC:=hC.next e4;have f3:=(a2.blk a8 t10).2;refine z0b<|z3f (cs:=[_,_,_,_]) 20 h (z0a U<|z0a U<|z0a U<|z0a U z0f) j8y (z0g U<|z0g U<|z0g U<|z0g U z0r) U U λa h=>z0d 21 U ?_;refine z0w h j8h U λp4 a0 b8 hz a h=>?_;obtain⟨b2,hg⟩:∃g,g=l9.heap.size:=⟨_,rfl⟩;rw[<-hg]at a0 h hz;have i0.gk_8:ka.gk<b2:=by have:=D.lt;omega
 have s8:=b8.size;have D:=D.ext b8;have ho:=ho.ext<|e4.n1 b8;have a1:=a1.ext<|e4.n1 b8;have hH:=hH.ext<|e4.n1 b8;have a2:=a2.ext b8;have hC:=hC.next b8;refine z0b<|z0d 22 U<|z0t h U a0 U j8z λm0 a6 b9 hz a h=>?_;have s9:=b9.size;have D:=D.fr b9;have ho:=ho.fr b9 (by intro k D I;simp at D;subst D;have:=g6 _ I;omega);have a1:=a1.fr b9 t11;have hH:=hH.fr b9 t11;have a2:=a2.fr b9 t11;have hC:=hC.sp b9;have a0:Blk m0 b2 _ [_,_,_,_]:=a6;clear a6;refine z0b<|z0p ?_;clear hC b7 O f8;refine bk (h.sub (L':=ll3 0 2 8)<|csu U)<|tn<|sq ?_;have Z:=(Z.ext<|b1.n4 b6 q18 e4 b8).fr b9;intro a h;refine z0h none (λwb w'=>Fr [g2] wb w') z2r ?_;intro j6 e5;have t8:=e5.size;have D:=D.ext e5;have Z:=Z.ext e5;have a0:=a0.ext e5;have hC:Fr [g2] j6 j6:=l12 _ _;have O:=D;have a9:=Z;have a5:=a0;refine z0e 0 h U λa h=>z0o 1 h U λa h=>z0c 2 h U z4i U λa h=>z0m 3 h U (λ_ hw=>O.fr hw se) U na3 U λa h=>z0e 4 h U λa h=>z0o 5 h U λa h=>z0c 6 h U z3p U λa h=>z1h (vs:=[_,_]) 7 h U (λ_ hw=>(O.fr hw se)) z5a U U λa h=>z0e 8 h U λa h=>z0o 9 h U λa h=>z0c 10 h U z3r U λa h=>?_;refine z0m 11 h U (λ_ hw=>O.fr hw se) U y4s U λa h=>z0x 12 h U (λ_ hw=>a5.fr hw se) u8u U λa h=>z3f (cs:=[_,_,_,_,_,_,_,_]) 13 h (z0a U<|z0a U<|z0a U<|z0a U z0f) x9k (z0g U<|z0g U<|z0g U<|z0g U z0r) U U λa h=>z0d 14 U ?_;refine z0t h U Z U z9m λj7 a6 c0 hz a h=>?_;have t9:=c0.size;have D:=D.fr c0;have a0:=a0.fr c0;have hC:=hC.sp c0;have Z:Blk j7 g2 _ [_,_,_,_,_,_,_,_]:=a6;clear a6;refine z0b<|z0p ?_;clear hC O a9 a5;refine bk (h.sub (L':=ll1 2)<|csu U)<|tn<|rt<|rC results29 U Z z7r  ?_;have a1:=(a1.ext e5).fr c0 t11;have hH:=(hH.ext e5).fr c0 t11;have a2:=(a2.ext e5).fr c0 t11;have b3:=(b1.z6 b6 q18 e4 b8 b9 e5);have b4:Fr [] _ j7:=(l12 _ _);have b5:=a4.ext b3;have hW:=(b5.toW.off (f7.ext b3) dd c0).ext b4;have f2:=(b5.fr.fr.step c0 so).next b4;have f5:z2n ts=z2n m.ts:=y6d (h0.trans f9.symm) (λj _=>by rw[e3 j]);exact⟨_,rfl,⟨m.rk,m.q,(some ⟨ka.gy,0,none⟩,6,ka.cy),m.ys,⟨(some ⟨ka.gt,0,none⟩,6,ka.ct),(some ⟨f1,0,none⟩,_,_),(some ⟨b0,0,none⟩,_,_),(some ⟨a8,0,none⟩,_,_),ts,y4c a7,_,y2g m.fl⟩⟩,rfl,⟨hW.b,hW.y,hW.t,a1.low oo,hH.low oo,a2.low oo,(λk D=>by
  have h8:k=b0:=by simpa[z0u,slv] using D
  refine⟨λq hq I=>?_,λt ht l hl I=>?_,λI=>?_⟩;rcases l23.1 hq with hq|hq
  have:=((a4.b.f.2 q hq).blk _ I).2;omega;have:=((a4.b.b.2 q hq).blk _ I).2;omega;obtain⟨i,hi,rfl⟩:=l29 ht;have e:ts.getD i tq0=ts[i]:=by rw[List.getD,l10 hi];rfl
  rw[<-e]at hl;have:=((a4.t.lps i hi l hl).1.blk _ I).2;omega;have:k=a8:=by simpa[z0u,slv] using I
  omega)⟩,by show (⟨m.rk,m.q.p,m.ys.map YQ.p,⟨z2n ts,y4c a7,(z2l m.q.p m.rk).map Hd.id,y2g m.fl⟩⟩:St)=_;rw[f5,g9];rfl,f2⟩
 refine z0w h j8h U λp5 a0 c9 hz a h=>?_;obtain⟨b2,hg⟩:∃g,g=l8.heap.size:=⟨_,rfl⟩;rw[<-hg]at a0 h hz;have i0.gk_8:ka.gk<b2:=by have:=D.lt;omega
 have u0:=c9.size;have hM:=hM.ext c9;have hC:=hC.next c9;refine z0b<|z0d 19 U<|z0n h (z0a U z0f) x5c (z4f _ (y2g m.fl) _ hM.f.sl t62) ?_;rintro _ p6 ⟨a8,rfl,g0,a2,d0⟩ a h;have u1:=d0.size;have D:=D.ext<|c9.n1 d0;have ho:=ho.ext<|c9.n1 d0;have a1:=a1.ext<|c9.n1 d0;have hH:=hH.ext<|c9.n1 d0;have a0:=a0.ext d0;have hC:=hC.next d0;have f3:=(a2.blk a8 t10).2;refine z0b<|z3f (cs:=[_,_,_,_]) 20 h (z0a U<|z0a U<|z0a U<|z0a U z0f) j8y (z0g U<|z0g U<|z0g U<|z0g U z0r) U U λa h=>z0d 22 U ?_;refine z0t h U a0 U j8z λm1 a6 d1 hz a h=>?_;have u2:=d1.size;have D:=D.fr d1;have ho:=ho.fr d1 (by intro k D I;simp at D;subst D;have:=g6 _ I;omega);have a1:=a1.fr d1 t11;have hH:=hH.fr d1 t11;have a2:=a2.fr d1 t11;have hC:=hC.sp d1;have a0:Blk m1 b2 _ [_,_,_,_]:=a6;clear a6;refine z0b<|z0p ?_;clear hC b7 O f8;refine bk (h.sub (L':=ll3 0 2 8)<|csu U)<|tn<|sq ?_;have Z:=(Z.ext<|b1.n4 b6 q18 c9 d0).fr d1;intro a h;refine z0h none (λwb w'=>Fr [g2] wb w') z2r ?_;intro j8 e6;have u3:=e6.size;have D:=D.ext e6;have Z:=Z.ext e6;have a0:=a0.ext e6;have hC:Fr [g2] j8 j8:=l12 _ _;have O:=D;have a9:=Z;have a5:=a0;refine z0e 0 h U λa h=>z0o 1 h U λa h=>z0c 2 h U z4i U λa h=>z0m 3 h U (λ_ hw=>O.fr hw se) U na3 U λa h=>z0e 4 h U λa h=>z0o 5 h U λa h=>z0c 6 h U z3p U λa h=>z1h (vs:=[_,_]) 7 h U (λ_ hw=>(O.fr hw se)) z5a U U λa h=>z0e 8 h U λa h=>z0o 9 h U λa h=>z0c 10 h U z3r U λa h=>?_;refine z0m 11 h U (λ_ hw=>O.fr hw se) U y4s U λa h=>z0x 12 h U (λ_ hw=>a5.fr hw se) u8u U λa h=>z3f (cs:=[_,_,_,_,_,_,_,_]) 13 h (z0a U<|z0a U<|z0a U<|z0a U z0f) x9k (z0g U<|z0g U<|z0g U<|z0g U z0r) U U λa h=>z0d 14 U ?_;refine z0t h U Z U z9m λj9 a6 d3 hz a h=>?_;have u4:=d3.size;have D:=D.fr d3;have a0:=a0.fr d3;have hC:=hC.sp d3;have Z:Blk j9 g2 _ [_,_,_,_,_,_,_,_]:=a6;clear a6;refine z0b<|z0p ?_;clear hC O a9 a5;refine bk (h.sub (L':=ll1 2)<|csu U)<|tn<|rt<|rC results29 U Z z7r  ?_;have a1:=(a1.ext e6).fr d3 t11;have hH:=(hH.ext e6).fr d3 t11;have a2:=(a2.ext e6).fr d3 t11;have b3:=(b1.z6 b6 q18 c9 d0 d1 e6);have b4:Fr [] _ j9:=(l12 _ _);have b5:=a4.ext b3;have hW:=(b5.toW.off (f7.ext b3) dd d3).ext b4;have f2:=(b5.fr.fr.step d3 so).next b4;have f5:z2n ts=z2n m.ts:=y6d (h0.trans f9.symm) (λj _=>by rw[e3 j]);exact⟨_,rfl,⟨m.rk,m.q,(some ⟨ka.gy,0,none⟩,6,ka.cy),m.ys,⟨(some ⟨ka.gt,0,none⟩,6,ka.ct),(some ⟨f1,0,none⟩,_,_),(some ⟨b0,0,none⟩,_,_),(some ⟨a8,0,none⟩,_,_),ts,y4c a7,_,y2g m.fl⟩⟩,rfl,⟨hW.b,hW.y,hW.t,a1.low oo,hH.low oo,a2.low oo,(λk D=>by
  have h8:k=b0:=by simpa[z0u,slv] using D
  refine⟨λq hq I=>?_,λt ht l hl I=>?_,λI=>?_⟩;rcases l23.1 hq with hq|hq
  have:=((a4.b.f.2 q hq).blk _ I).2;omega;have:=((a4.b.b.2 q hq).blk _ I).2;omega;obtain⟨i,hi,rfl⟩:=l29 ht;have e:ts.getD i tq0=ts[i]:=by rw[List.getD,l10 hi];rfl
  rw[<-e]at hl;have:=((a4.t.lps i hi l hl).1.blk _ I).2;omega;have:k=a8:=by simpa[z0u,slv] using I
  omega)⟩,by show (⟨m.rk,m.q.p,m.ys.map YQ.p,⟨z2n ts,y4c a7,(z2l m.q.p m.rk).map Hd.id,y2g m.fl⟩⟩:St)=_;rw[f5,g9];rfl,f2⟩
 refine z0w h j8h U λp7 a0 e7 hz a h=>?_;obtain⟨b2,hg⟩:∃g,g=l7.heap.size:=⟨_,rfl⟩;rw[<-hg]at a0 h hz;have i0.gk_8:ka.gk<b2:=by have:=D.lt;omega
 have u5:=e7.size;have hM:=hM.ext e7;have hC:=hC.next e7;refine z0b<|z0d 14 U<|z0n h (z0a U<|z0a U z0f) (mkC func54) (y4w m.q m.rk _ hM.b.at hi.B hi.rk) ?_;rintro _ p8 ⟨⟨b0,j4,h6,rfl,h4,hH⟩,q30⟩ a h;have u6:=q30.size;have hM:=hM.ext q30;have hC:=hC.next q30;have h5:=(hH.blk b0 t10).2;refine z0b<|z0d 19 U<|z0n h (z0a U z0f) x5c (z4f _ (y2g m.fl) _ hM.f.sl t62) ?_;rintro _ p9 ⟨a8,rfl,g0,a2,d4⟩ a h;have u7:=d4.size;have D:=D.ext<|e7.n2 q30 d4;have ho:=ho.ext<|e7.n2 q30 d4;have a1:=a1.ext<|e7.n2 q30 d4;have a0:=a0.ext<|q30.n1 d4;have hH:=hH.ext d4;have hC:=hC.next d4;have f3:=(a2.blk a8 t10).2;refine z0b<|z3f (cs:=[_,_,_,_]) 20 h (z0a U<|z0a U<|z0a U<|z0a U z0f) j8y (z0g U<|z0g U<|z0g U<|z0g U z0r) U U λa h=>z0d 22 U ?_;refine z0t h U a0 U j8z λm2 a6 d5 hz a h=>?_;have u9:=d5.size;have D:=D.fr d5;have ho:=ho.fr d5 (by intro k D I;simp at D;subst D;have:=g6 _ I;omega);have a1:=a1.fr d5 t11;have hH:=hH.fr d5 t11;have a2:=a2.fr d5 t11;have hC:=hC.sp d5;have a0:Blk m2 b2 _ [_,_,_,_]:=a6;clear a6;refine z0b<|z0p ?_;clear hC b7 O f8;refine bk (h.sub (L':=ll3 0 2 8)<|csu U)<|tn<|sq ?_;have Z:=(Z.ext<|b1.n4 b6 e7 q30 d4).fr d5;intro a h;refine z0h none (λwb w'=>Fr [g2] wb w') z2r ?_;intro k0 e8;have v8:=e8.size;have D:=D.ext e8;have Z:=Z.ext e8;have a0:=a0.ext e8;have hC:Fr [g2] k0 k0:=l12 _ _;have O:=D;have a9:=Z;have a5:=a0;refine z0e 0 h U λa h=>z0o 1 h U λa h=>z0c 2 h U z4i U λa h=>z0m 3 h U (λ_ hw=>O.fr hw se) U na3 U λa h=>z0e 4 h U λa h=>z0o 5 h U λa h=>z0c 6 h U z3p U λa h=>z1h (vs:=[_,_]) 7 h U (λ_ hw=>(O.fr hw se)) z5a U U λa h=>z0e 8 h U λa h=>z0o 9 h U λa h=>z0c 10 h U z3r U λa h=>?_;refine z0m 11 h U (λ_ hw=>O.fr hw se) U y4s U λa h=>z0x 12 h U (λ_ hw=>a5.fr hw se) u8u U λa h=>z3f (cs:=[_,_,_,_,_,_,_,_]) 13 h (z0a U<|z0a U<|z0a U<|z0a U z0f) x9k (z0g U<|z0g U<|z0g U<|z0g U z0r) U U λa h=>z0d 14 U ?_;refine z0t h U Z U z9m λk1 a6 d6 hz a h=>?_;have v9:=d6.size;have D:=D.fr d6;have a0:=a0.fr d6;have hC:=hC.sp d6;have Z:Blk k1 g2 _ [_,_,_,_,_,_,_,_]:=a6;clear a6;refine z0b<|z0p ?_;clear hC O a9 a5;refine bk (h.sub (L':=ll1 2)<|csu U)<|tn<|rt<|rC results29 U Z z7r  ?_;have a1:=(a1.ext e8).fr d6 t11;have hH:=(hH.ext e8).fr d6 t11;have a2:=(a2.ext e8).fr d6 t11;have b3:=(b1.z6 b6 e7 q30 d4 d5 e8);have b4:Fr [] _ k1:=(l12 _ _);have b5:=a4.ext b3;have hW:=(b5.toW.off (f7.ext b3) dd d6).ext b4;have f2:=(b5.fr.fr.step d6 so).next b4;have f5:z2n ts=z2n m.ts:=y6d (h0.trans f9.symm) (λj _=>by rw[e3 j]);exact⟨_,rfl,⟨m.rk,m.q,(some ⟨ka.gy,0,none⟩,6,ka.cy),m.ys,⟨(some ⟨ka.gt,0,none⟩,6,ka.ct),(some ⟨f1,0,none⟩,_,_),(some ⟨b0,0,none⟩,_,_),(some ⟨a8,0,none⟩,_,_),ts,y4c a7,_,y2g m.fl⟩⟩,rfl,⟨hW.b,hW.y,hW.t,a1.low oo,hH.low oo,a2.low oo,(λk D=>by
  have h8:k=b0:=by simpa[z0u,slv] using D
  refine⟨λq hq I=>?_,λt ht l hl I=>?_,λI=>?_⟩;rcases l23.1 hq with hq|hq
  have:=((a4.b.f.2 q hq).blk _ I).2;omega;have:=((a4.b.b.2 q hq).blk _ I).2;omega;obtain⟨i,hi,rfl⟩:=l29 ht;have e:ts.getD i tq0=ts[i]:=by rw[List.getD,l10 hi];rfl
  rw[<-e]at hl;have:=((a4.t.lps i hi l hl).1.blk _ I).2;omega;have:k=a8:=by simpa[z0u,slv] using I
  omega)⟩,by show (⟨m.rk,m.q.p,m.ys.map YQ.p,⟨z2n ts,y4c a7,(z2l m.q.p m.rk).map Hd.id,y2g m.fl⟩⟩:St)=_;rw[f5,g9];rfl,f2⟩
 refine z0w h j8h U λq0 a0 f6 hz a h=>?_;obtain⟨b2,hg⟩:∃g,g=i3.heap.size:=⟨_,rfl⟩;rw[<-hg]at a0 h hz;have i0.gk_8:ka.gk<b2:=by have:=D.lt;omega
 have x0:=f6.size;have ho:=ho.ext f6;have hC:=hC.next f6;refine z0b<|z0d 5 U<|z0n h (z0a U z0f) (mkC func79) (v7d _ (y4c a7) _ ho.sl (by rw[(z3q a7).length_eq];omega)) ?_;rintro _ r4 ⟨f1,rfl,i9,a1,e9⟩ a h;have x1:=e9.size;have hM:=hM.ext<|f6.n1 e9;have hC:=hC.next e9;have h9:=(a1.blk f1 t10).2;refine z0b<|z0d 14 U<|z0n h (z0a U<|z0a U z0f) (mkC func54) (y4w m.q m.rk _ hM.b.at hi.B hi.rk) ?_;rintro _ r5 ⟨⟨b0,j4,h6,rfl,h4,hH⟩,q37⟩ a h;have x2:=q37.size;have hM:=hM.ext q37;have hC:=hC.next q37;have h5:=(hH.blk b0 t10).2;refine z0b<|z0d 19 U<|z0n h (z0a U z0f) x5c (z4f _ (y2g m.fl) _ hM.f.sl t62) ?_;rintro _ r6 ⟨a8,rfl,g0,a2,d7⟩ a h;have x3:=d7.size;have D:=D.ext<|f6.n3 e9 q37 d7;have ho:=ho.ext<|e9.n2 q37 d7;have a0:=a0.ext<|e9.n2 q37 d7;have a1:=a1.ext<|q37.n1 d7;have hH:=hH.ext d7;have hC:=hC.next d7;have f3:=(a2.blk a8 t10).2;refine z0b<|z3f (cs:=[_,_,_,_]) 20 h (z0a U<|z0a U<|z0a U<|z0a U z0f) j8y (z0g U<|z0g U<|z0g U<|z0g U z0r) U U λa h=>z0d 22 U ?_;refine z0t h U a0 U j8z λm3 a6 d9 hz a h=>?_;have x4:=d9.size;have D:=D.fr d9;have ho:=ho.fr d9 (by intro k D I;simp at D;subst D;have:=g6 _ I;omega);have a1:=a1.fr d9 t11;have hH:=hH.fr d9 t11;have a2:=a2.fr d9 t11;have hC:=hC.sp d9;have a0:Blk m3 b2 _ [_,_,_,_]:=a6;clear a6;refine z0b<|z0p ?_;clear hC b7 O f8;refine bk (h.sub (L':=ll3 0 2 8)<|csu U)<|tn<|sq ?_;have Z:=(Z.ext<|b1.n4 f6 e9 q37 d7).fr d9;intro a h;refine z0h none (λwb w'=>Fr [g2] wb w') z2r ?_;intro k2 f0;have x5:=f0.size;have D:=D.ext f0;have Z:=Z.ext f0;have a0:=a0.ext f0;have hC:Fr [g2] k2 k2:=l12 _ _;have O:=D;have a9:=Z;have a5:=a0;refine z0e 0 h U λa h=>z0o 1 h U λa h=>z0c 2 h U z4i U λa h=>z0m 3 h U (λ_ hw=>O.fr hw se) U na3 U λa h=>z0e 4 h U λa h=>z0o 5 h U λa h=>z0c 6 h U z3p U λa h=>z1h (vs:=[_,_]) 7 h U (λ_ hw=>(O.fr hw se)) z5a U U λa h=>z0e 8 h U λa h=>z0o 9 h U λa h=>z0c 10 h U z3r U λa h=>?_;refine z0m 11 h U (λ_ hw=>O.fr hw se) U y4s U λa h=>z0x 12 h U (λ_ hw=>a5.fr hw se) u8u U λa h=>z3f (cs:=[_,_,_,_,_,_,_,_]) 13 h (z0a U<|z0a U<|z0a U<|z0a U z0f) x9k (z0g U<|z0g U<|z0g U<|z0g U z0r) U U λa h=>z0d 14 U ?_;refine z0t h U Z U z9m λk4 a6 e0 hz a h=>?_;have x6:=e0.size;have D:=D.fr e0;have a0:=a0.fr e0;have hC:=hC.sp e0;have Z:Blk k4 g2 _ [_,_,_,_,_,_,_,_]:=a6;clear a6;refine z0b<|z0p ?_;clear hC O a9 a5;refine bk (h.sub (L':=ll1 2)<|csu U)<|tn<|rt<|rC results29 U Z z7r  ?_;have a1:=(a1.ext f0).fr e0 t11;have hH:=(hH.ext f0).fr e0 t11;have a2:=(a2.ext f0).fr e0 t11;have b3:=(b1.z6 f6 e9 q37 d7 d9 f0);have b4:Fr [] _ k4:=(l12 _ _);have b5:=a4.ext b3;have hW:=(b5.toW.off (f7.ext b3) dd e0).ext b4;have f2:=(b5.fr.fr.step e0 so).next b4;have f5:z2n ts=z2n m.ts:=y6d (h0.trans f9.symm) (λj _=>by rw[e3 j]);exact⟨_,rfl,⟨m.rk,m.q,(some ⟨ka.gy,0,none⟩,6,ka.cy),m.ys,⟨(some ⟨ka.gt,0,none⟩,6,ka.ct),(some ⟨f1,0,none⟩,_,_),(some ⟨b0,0,none⟩,_,_),(some ⟨a8,0,none⟩,_,_),ts,y4c a7,_,y2g m.fl⟩⟩,rfl,⟨hW.b,hW.y,hW.t,a1.low oo,hH.low oo,a2.low oo,(λk D=>by
  have h8:k=b0:=by simpa[z0u,slv] using D
  refine⟨λq hq I=>?_,λt ht l hl I=>?_,λI=>?_⟩;rcases l23.1 hq with hq|hq
  have:=((a4.b.f.2 q hq).blk _ I).2;omega;have:=((a4.b.b.2 q hq).blk _ I).2;omega;obtain⟨i,hi,rfl⟩:=l29 ht;have e:ts.getD i tq0=ts[i]:=by rw[List.getD,l10 hi];rfl
  rw[<-e]at hl;have:=((a4.t.lps i hi l hl).1.blk _ I).2;omega;have:k=a8:=by simpa[z0u,slv] using I
  omega)⟩,by show (⟨m.rk,m.q.p,m.ys.map YQ.p,⟨z2n ts,y4c a7,(z2l m.q.p m.rk).map Hd.id,y2g m.fl⟩⟩:St)=_;rw[f5,g9];rfl,f2⟩
theorem v5z (w0:World):Rets prog 80 #[] w0 λr w'=>(∃g,r=(.slice (saa g) 6 6)/\w0.heap.size<=g/\Lw.Own z4w 123 w0.heap.size w' (.slice (saa g) 6 6) (List.replicate 6 tq0))/\Fr [] w0 w':=by
 exact we [] func80 U ntmps80 U .nil<|sr<|asg U<|nn<|sr<|z1f (m:=6) (c:=6) (tq0) U x1r k0w U<|λD w1 I O Z z1=>(asg U<|nn<|rt<|r1 results80 U ⟨_,rfl,⟨D,rfl,oo,O.low oo⟩,Z⟩)
theorem x4t (w0:World):Rets prog 30 #[] w0 λr w'=>(∃g,r=.agg #[(.slice (saa g) 6 6),.slice none 0 0,.slice none 0 0,.slice none 0 0]/\w0.heap.size<=g/\Lw.Own z4w 123 w0.heap.size w' (.slice (saa g) 6 6) (List.replicate 6 tq0))/\Fr [] w0 w':=by
 refine we [] func30 U ntmps30 U .nil<|sr<|al j8h U<|λg0 w1 a0 D q1 z1=>(nn<|sr<|cl z0f (mkC func80) (v5z _) U ?_);rintro _ w2 ⟨⟨Z,rfl,a1,I⟩,q2⟩;refine z1u (cs:=[_,_,_,_]) (ev1 U) j8y (z0g U z0r) U ?_;have D:=D.ext q2;refine z0i U D j8z (λw3 D O z3=>?_) (hl:=rfl);refine nn<|rt<|rC results30 U D u8u  ?_;have I:=I.fr O t11;exact⟨_,rfl,⟨Z,rfl,oo,I.low oo⟩,(q1.z2 q2 O)⟩
abbrev st0 (gy gt:Nat):StQ:=(⟨0,⟨sv0,sv0,[],[]⟩,(some ⟨gy,0,none⟩,6,6),List.replicate 6 yq0,⟨(some ⟨gt,0,none⟩,6,6),sv0,sv0,sv0,List.replicate 6 tq0,[],[],[]⟩⟩:StQ)
theorem k0k {w:World}{O I b:Nat}(hy:Lw.Own z3l 104 b w (.slice (saa O) 6 6) (List.replicate 6 yq0))(ht:Lw.Own z4w 123 b w (.slice (saa I) 6 6) (List.replicate 6 tq0)):StO τd 147 b w (st0 O I):=by
 have ey:∀i,(st0 O I).ys.getD i yq0=yq0:=λi=>by
  show (List.replicate 6 yq0).getD i yq0=yq0;rw[List.getD,l65];split<;>rfl
 have et:∀i,(st0 O I).fb.ts.getD i tq0=tq0:=λi=>by
  show (List.replicate 6 tq0).getD i tq0=tq0;rw[List.getD,l65];split<;>rfl
 refine⟨⟨⟨Own.nil w,λq D=>(by cases D)⟩,⟨Own.nil w,λq D=>(by cases D)⟩⟩,⟨hy,λi _=>?_⟩,⟨ht,λi _=>?_,λi j _ _ _ k Z=>?_,λi _ q D=>?_⟩,Own.nil w,Own.nil w,Own.nil w,λk Z=>(by cases Z)⟩;rw[ey i];exact Own.nil w;rw[et i];exact Own.nil w;rw[et i]at Z;cases Z;rw[et i]at D;cases D
theorem k4a (I D:Nat):(st0 I D).p=G08.stM G08.start:=by
 have e1:y4c []=[]:=by unfold y4c;simp
 have e2:y2g []=[]:=by unfold y2g;simp
 show _=(⟨0,⟨[],[]⟩,List.replicate 6 yn0,⟨List.replicate 6 [],y4c [],(z2l ⟨[],[]⟩ 0).map Hd.id,y2g []⟩⟩:St);rw[e1,e2];rfl
theorem v3x (w0:World):Rets prog 8 #[] w0 λr w'=>(∃O I,r=(svv<|st0 O I)/\StO τd 147 w0.heap.size w' (st0 O I))/\Fr [] w0 w':=by
 refine we [] func8 U ntmps8 U .nil<|sr<|al y6l U<|λg0 w1 a5 D q1 z1=>(nn<|sq ?_);intro a h;refine z0h none (λwb w'=>Fr [g0] wb w') z2r ?_;intro w2 q2;have z2:=q2.size;have D:=D.ext q2;have hC:Fr [g0] w2 w2:=l12 _ _;have Z:=D;refine z1w 0 1 kr U ?_ ?_;refine z9r (m:=6) (c:=6) (yq0) h U U y5d z6g U oo oo U λg1 w3 a1 hy q3 _hz a h=>?_;have z3:=q3.size;have hC:=hC.next q3;have a4:=(hy.blk g1 t10).2;refine z0b<|z0d 1 U<|z0n h z0f (mkC func30) (x4t _) ?_;rintro _ w4 ⟨⟨g2,rfl,a2,ho⟩,q4⟩ a h;have z4:=q4.size;have D:=D.ext<|q3.n1 q4;have hy:=hy.ext q4;have hC:=hC.next q4;have a3:=(ho.blk g2 t10).2;refine z0b<|z3f (cs:=[_,_,_,_,_,_,_,_]) 2 h (z0a U<|z0a U z0f) x9k (z0g U<|z0g U z0r) U U λa h=>z0d 3 U ?_;refine z0t h U D U z9m λw5 a0 q5 hz a h=>?_;have z5:=q5.size;have hy:=hy.fr q5 t11;have ho:=ho.fr q5 t11;have hC:=hC.sp q5;have D:Blk w5 g0 _ [_,_,_,_,_,_,_,_]:=a0;clear a0;refine z0b<|z0p ?_;clear hC Z;exact bk (h.sub (L':=ll1 0)<|csu U)<|tn<|rt<|rC results8 U D z7r  ⟨_,rfl,⟨g1,g2,rfl,k0k (hy.low oo)<|ho.low oo⟩,(q1.z4 q2 q3 q4 q5)⟩;refine z0n h z0f (mkC func30) (x4t _) ?_;rintro _ w6 ⟨⟨g2,rfl,a2,ho⟩,q6⟩ a h;have z6:=q6.size;have hC:=hC.next q6;have a3:=(ho.blk g2 t10).2;refine z0b<|z0d 0 U<|z9r (m:=6) (c:=6) (yq0) h U U y5d z6g U oo oo U λg1 w7 a1 hy q7 _hz a h=>?_;have z7:=q7.size;have D:=D.ext<|q6.n1 q7;have ho:=ho.ext q7;have hC:=hC.next q7;have a4:=(hy.blk g1 t10).2;refine z0b<|z3f (cs:=[_,_,_,_,_,_,_,_]) 2 h (z0a U<|z0a U z0f) x9k (z0g U<|z0g U z0r) U U λa h=>z0d 3 U ?_;refine z0t h U D U z9m λw8 a0 q8 hz a h=>?_;have z8:=q8.size;have ho:=ho.fr q8 t11;have hy:=hy.fr q8 t11;have hC:=hC.sp q8;have D:Blk w8 g0 _ [_,_,_,_,_,_,_,_]:=a0;clear a0;refine z0b<|z0p ?_;clear hC Z;exact bk (h.sub (L':=ll1 0)<|csu U)<|tn<|rt<|rC results8 U D z7r  ⟨_,rfl,⟨g1,g2,rfl,k0k (hy.low oo)<|ho.low oo⟩,(q1.z4 q2 q6 q7 q8)⟩
theorem y5l {α:Type}{D I:List α}(d:α)(hl:D.length=I.length)(h:∀j,j<D.length->D.getD j d=I.getD j d):D=I:=by
 refine l73 hl λj O Z=>?_;have:=h j O;rwa [List.getD,List.getD,l10 O,l10 Z]at this
theorem v5q (v1 v2:Value)(Z l2:List LId)(w0:World)(h1:Sl z1g w0 v1 Z)(h2:Sl z1g w0 v2 l2)(hl:Z.length<=100000):Rets prog 53 #[v1,v2] w0 λr w'=>r=.bool (decide (Z=l2))/\Fr [] w0 w':=by
 obtain⟨A1,k1,rfl,a6⟩:=id h1.form;obtain⟨A2,k2,rfl,a7⟩:=id h2.form;refine we [(0,.slice A1 Z.length k1),(1,.slice A2 l2.length k2)] func53 U ntmps53 U (.c2 U U) ?_;have a2:=h1;have a3:=h2;refine sr<|asg U<|nn<|sq<|sr<|mv U U<|lnS U underlying30<|mv U U<|lnS U underlying30<|ne' U<|nn<|cd U (λc0=>?_)<|λc0=>?_;refine sr<|asg U<|nn<|rt<|tr<|r1 results53 U ?_;exact⟨_,rfl,congrArg Value.bool (decide_eq_false<|λe=>c0 t30).symm,(l12 _ _)⟩;refine sk<|tn<|sq<|sr<|mv U U<|lnS U underlying30<|mv U U<|nn<|bl<|lpK (ι:=Nat) (ll3 0 1 12) (λi=>[(13,.int .i64 (i:Int))]) (λi w'=>Fr [] w0 w'/\i<=Z.length/\∀j,j<i->Z.getD j id0=l2.getD j id0) (λi=>Z.length-i) 0 (csu U) ⟨l12 _ _,⟨l17 _,λj h=>absurd h oo⟩⟩ ?_;rintro i w1 ⟨q1,⟨hi,hz⟩⟩;refine kpC (ll4 0 1 12 13) (csu U)<|sr<|lt' U<|nn<|sq<|cd U (λc1=>?_)<|λc1=>?_;refine sk<|tn<|sq<|bl<|sr<|mv U U<|asg U<|nn<|sq ?_;have h1:=a2.ext q1;have h2:=a3.ext q1;intro a h;have D:=l12 [] w1;refine z2y (λwb w'=>Fr [] wb w') z2r ?_;intro w2 hq;have h1:=h1.ext hq;have h2:=h2.ext hq;have D:=D.next hq;have a8:=hq.size;have hC:Fr [] w2 w2:=l12 _ _;have I:=h1;have O:=h2;refine z0e 0 h U λa h=>z0e 1 h U λa h=>z1e (id0) 2 h U h1 U z4k U ?_ (hp:=rfl);intro a4 a0 a h;refine z2e 3 h wn U (λ_ hw=>a0 _<|I.ext hw) z2z U λa h=>z0e 4 h U λa h=>z0e 5 h U λa h=>z1e (id0) 6 h U h2 U z4k U ?_ (hp:=rfl);intro a5 a1 a h;refine z2e 7 h wn U (λ_ hw=>a1 _<|O.ext hw) z2z U λa h=>u9u (V:=idV) (e:=_) (f:=_) 8 hC h wn U U k3n U U λa h=>z0p ?_;clear hC I O;refine bk (h.sub (L':=ll5 0 1 12 13 24)<|csu U)<|tn<|cd U (λc2=>?_)<|λc2=>?_;refine sr<|asg U<|nn<|rt<|rb<|tr<|tr<|rb<|tr<|r1 results53 U ?_;exact⟨_,rfl,congrArg Value.bool (decide_eq_false<|λe=>c2 t30).symm,(q1.n1 D)⟩;refine sk<|bn'<|tn<|rg<|z0v U (wi6 oo)<|mv U U<|nl ?_;exact lpE (i+1) (csu U) ⟨(q1.n1 D),⟨oo,λj h=>by
  by_cases e:j=i;subst e;exact l16.1 c2;exact hz j oo⟩⟩ oo
 obtain rfl:i=Z.length:=by omega
 refine ex<|te<|te<|xh<|tn<|sr<|asg U<|nn<|rt<|r1 results53 U ?_;exact⟨_,rfl,congrArg Value.bool (decide_eq_true<|y5l id0 oo<|λj hj=>hz j oo).symm,q1⟩
open Go.Lw Go.G21 Go.G08 _root_.Go.Proofs.Tryz
open Classical in
noncomputable def v9q (s:StQ)(eb ef:Int):Int:=if ¬(-4<=s.rk/\s.rk<=4) then 11 else if eb≠0 then eb else if s.ys.length≠6 then 5 else if ∃i,i<6/\¬y1s (s.ys.getD i yq0).p then 1 else if ef≠0 then ef else if s.fb.hs≠(z2l s.q.p s.rk).map Hd.id then 6 else if ∃i,i<6/\(s.ys.getD i yq0).ct≠((s.fb.ts.getD i tq0).2.length:Int) then 6 else 0
theorem u2t (s:StQ)(eb ef:Int)(w0:World)(O:StAt w0 s)(b8:∀w,BdAt w s.q->Rets prog 50 #[bvv s.q] w λr w'=>r=.int .i64 eb/\Fr [] w w')(hB:eb=0->BdOk s.q.p)(b5:ef=0->s.fb.ts.length=6)(b9:∀w,FbAt w s.fb->Rets prog 52 #[fvv s.fb] w λr w'=>r=.int .i64 ef/\Fr [] w w')(d4:s.fb.hs.length<=100000):Rets prog 23 #[svv s] w0 λr w'=>r=.int .i64 (v9q s eb ef)/\Fr [] w0 w':=by
 have f2:=z2c O.y;have f1:=z2c O.f.t;refine we [(0,svv s)] func23 U ntmps23 U (.cons U .nil) ?_;have a0:=O;refine sr<|bx U<|λg1 w1 e6 D q1 z1=>(asg U<|nn<|sq<|sq<|rbo (r:=17) (L':=ll1 1) (((s.rk < -4)\/(4<s.rk))) (csu U) ?_ ?_);refine fad U y2i<|z0j U D U na3<|lt' U<|mv U U<|gs 13 U (λg0=>?_)<|λg0=>?_;exact gN U<|gN U<|gN U<|pkt U<|rbe U<|csu U;exact gY U<|fad U y2i<|gY U<|z0j U D U na3<|gY U<|gt' U<|pkf U<|rbe U<|csu U;refine tn<|cd U (λc0=>?_)<|λc0=>?_;exact sr<|asg U<|nn<|rt<|tr<|r1 results23 U ⟨_,rfl,by unfold v9q;rw[if_pos oo],q1⟩;have hr:-4<=s.rk/\s.rk<=4:=by omega
 refine sk<|tn<|sq<|sr<|fad U z7m<|z1v (vs:=[_,_]) U D z5a U ?_;have O:=a0.ext q1;refine cl (ev1 U) (mkC func50) (b8 _ O.b) U ?_;rintro _ w2 ⟨rfl,q2⟩;have z2:=q2.size;refine asg U<|nn<|sr<|mv U U<|ne' U<|nn<|cd U (λc1=>?_)<|λc1=>?_;exact sr<|mv U U<|asg U<|nn<|rt<|tr<|r1 results23 U ⟨_,rfl,by unfold v9q;rw[if_neg oo,if_pos c1],(q1.n1 q2)⟩;have d1:eb=0:=by omega
 refine sk<|tn<|sq<|sr<|fad U x3b ?_;have D:=D.ext q2;refine z0j U D U y4s<|lnS U underlying26<|ne' U<|nn<|cd U (λc2=>?_)<|λc2=>?_;exact sr<|asg U<|nn<|rt<|tr<|r1 results23 U ⟨_,rfl,by unfold v9q;rw[if_neg oo,if_neg oo,if_pos oo],(q1.n1 q2)⟩;have f0:s.ys.length=6:=by omega
 refine sk<|tn<|sq<|sr<|fad U x3b<|z0j U D U y4s<|lnS U underlying26<|mv U U<|nn<|bl<|lpK (ι:=Nat) (ll3 1 29 30) (λi=>[(31,.int .i64 (i:Int))]) (λi w'=>Fr [] w2 w'/\i<=6/\∀k,k<i->y1s (s.ys.getD k yq0).p) (λi=>6-i) 0 (csu U) ⟨l12 _ _,⟨l17 _,λk h=>absurd h oo⟩⟩ ?_;rintro i w3 ⟨q3,⟨hi,a7⟩⟩;have z3:=q3.size;refine kpC (ll4 1 29 30 31) (csu U)<|sr<|lt' U<|nn<|sq<|cd U (λc3=>?_)<|λc3=>?_;refine sk<|tn<|sq<|bl<|sr ?_;have O:=a0.ext<|q1.n2 q2 q3;refine z1b (yq0) U O.y U y5d z1j<|λd7 b1=>?_;refine z1q U (b1 _ O.y) z3k<|al z6g U<|λg5 w4 e7 b0 q4 z4=>?_;refine z0i (vs:=[_,_,_,_,_]) U b0 z3m (λw5 b0 q5 z5=>?_) (h1:=(by first|(simp[Value.oneCell',S];done)|exact z3l.one _));refine nn<|sr<|z0k U b0 z3k ?_;have O:=a0.ext<|q1.z4 q2 q3 q4 q5;refine cl (ev1 U) k2m (y0a (s.ys.getD i yq0) _<|O.ya i) U ?_;rintro _ w6 ⟨rfl,q6⟩;have z6:=q6.size;refine asg U<|nn<|sr<|mv U U<|ne' U<|nn<|cd U (λc4=>?_)<|λc4=>?_;refine sr<|mv U U<|asg U<|kpL (ll1 2) (csu U)<|nn<|rt<|rb<|tr<|tr<|rb<|tr<|r1 results23 U ?_;have b6:¬y1s (s.ys.getD i yq0).p:=λh=>c4<|u9g h;exact⟨_,rfl,by unfold v9q;rw[if_neg oo,if_neg oo,if_neg oo,if_pos ⟨i,oo,b6⟩,j6s b6],(q1.z5 q2 q3 q4 q5 q6)⟩;refine sk<|bn'<|tn<|rg<|z0v U (wi6 oo)<|mv U U<|nl ?_;exact lpE (i+1) (csu U) ⟨(q3.z3 q4 q5 q6),⟨oo,λk h=>by
  by_cases e:k=i;subst e;exact Classical.byContradiction λh=>c4 (by rw[j6s h];decide);exact a7 k oo⟩⟩ oo
 obtain rfl:i=6:=by omega
 refine ex<|te<|te<|xh<|tn<|sq<|sr<|fad U z6t ?_;have D:=D.ext q3;refine z1v (vs:=[_,_,_,_]) U D u8u U ?_;have O:=a0.ext<|q1.n2 q2 q3;refine cl (ev1 U) (mkC func52) (b9 _ O.f) U ?_;rintro _ w7 ⟨rfl,q7⟩;have z7:=q7.size;refine asg U<|kpL (ll2 1 7) (csu U)<|nn<|sr<|mv U U<|ne' U<|nn<|cd U (λc5=>?_)<|λc5=>?_;refine sr<|mv U U<|asg U<|nn<|rt<|tr<|r1 results23 U ?_;have a1:¬ ∃i,i<6/\¬y1s (s.ys.getD i yq0).p:=λ⟨k,hk,h⟩=>h<|a7 k oo;exact⟨_,rfl,by unfold v9q;rw[if_neg oo,if_neg oo,if_neg oo,if_neg a1,if_pos c5],(q1.n3 q2 q3 q7)⟩;have d3:ef=0:=by omega
 have e9:=b5 d3;refine sk<|tn<|sq<|sq ?_;have O:=a0.ext<|q1.n3 q2 q3 q7;intro a h;refine z0h none (λwb w'=>Fr [] wb w') z2r ?_;intro w8 q8;have z8:=q8.size;have O:=O.ext q8;have D:=D.ext<|q7.n1 q8;have hC:Fr [] w8 w8:=l12 _ _;have a3:=O;have I:=D;refine z0c 0 h U z6t U λa h=>z4y 1 h U z9f U λa h=>z0m 2 h U (λ_ hw=>I.ext hw) U z6f U λa h=>z0c 3 h U z7m U λa h=>z1h (vs:=[_,_]) 4 h U (λ_ hw=>(I.ext hw)) z5a U U λa h=>z0c 5 h U y2i U λa h=>z0m 6 h U (λ_ hw=>I.ext hw) U na3 U λa h=>z0d 7 U<|z0n h (z0a U<|z0a U z0f) (mkC func54) (y4w s.q s.rk _ O.b (hB d1) hr) ?_;rintro _ w9 ⟨⟨e5,f3,e4,rfl,e3,hH⟩,q9⟩ a h;have z9:=q9.size;have O:=O.ext q9;have hC:=hC.next q9;refine z0b<|z0d 8 U<|z0n h (z0a U<|z0a U z0f) (mkC func53) (v5q _ _ s.fb.hs ((z2l s.q.p s.rk).map Hd.id) _ O.f.h hH.sl d4) ?_;rintro _ d6 ⟨rfl,Z⟩ a h;have f7:=Z.size;have O:=O.ext Z;have D:=D.ext<|q9.n1 Z;have hH:=hH.ext Z;have hC:=hC.next Z;refine z0b<|y1e 9 hC h wn U U λa h=>z0p ?_;clear hC a3 I;refine bk (h.sub (L':=ll2 1 56)<|csu U)<|tn<|cd U (λc6=>?_)<|λc6=>?_;refine sr<|asg U<|nn<|rt<|tr<|r1 results23 U ?_;have a1:¬ ∃i,i<6/\¬y1s (s.ys.getD i yq0).p:=λ⟨k,hk,h⟩=>h<|a7 k oo;exact⟨_,rfl,by unfold v9q;rw[if_neg oo,if_neg oo,if_neg oo,if_neg a1,if_neg oo,if_pos c6],(q1.n6 q2 q3 q7 q8 q9 Z)⟩;refine sk<|tn<|sq<|sr<|fad U x3b<|z0j U D U y4s<|lnS U underlying26<|mv U U<|nn<|bl<|lpK (ι:=Nat) (ll3 1 58 59) (λi=>[(60,.int .i64 (i:Int))]) (λi w'=>Fr [] d6 w'/\i<=6/\∀k,k<i->(s.ys.getD k yq0).ct=((s.fb.ts.getD k tq0).2.length:Int)) (λi=>6-i) 0 (csu U) ⟨l12 _ _,⟨l17 _,λk h=>absurd h oo⟩⟩ ?_;rintro i f4 ⟨a2,⟨hi,b4⟩⟩;have f8:=a2.size;refine kpC (ll4 1 58 59 60) (csu U)<|sr<|lt' U<|nn<|sq<|cd U (λc7=>?_)<|λc7=>?_;refine sk<|tn<|sq<|bl<|sr<|mv U U ?_;have O:=a0.ext<|(q1.n6 q2 q3 q7 q8 q9 Z).n1 a2;refine z1b (yq0) U O.y U y5d z1j<|λd9 b2=>?_;refine z1q U (b2 _ O.y) z3k<|al z6g U<|λg9 f5 e8 a5 a8 f9=>?_;refine asg U<|z0i (vs:=[_,_,_,_,_]) U a5 z3m (λf6 a5 a9 g3=>?_) (h1:=(by first|(simp[Value.oneCell',S];done)|exact z3l.one _));refine nn<|sq ?_;have O:=a0.ext<|(((q1.n6 q2 q3 q7 q8 q9 Z).n1 a2).n1 a8).z1 a9;have D:=(D.ext<|a2.n1 a8).fr a9;intro a h;refine z0h none (λwb w'=>Fr [] wb w') z2r ?_;intro b7 a4;have g4:=a4.size;have O:=O.ext a4;have D:=D.ext a4;have a5:=a5.ext a4;have hC:Fr [] b7 b7:=l12 _ _;have a3:=O;have I:=D;have a6:=a5;refine z0c 0 h U z8p U λa h=>z0m 1 h U (λ_ hw=>a6.ext hw) U na3 U λa h=>z0c 2 h U z6t U λa h=>z4y 3 h U y4b U λa h=>z0m 4 h U (λ_ hw=>I.ext hw) U v1c U λa h=>z0e 5 h U λa h=>z1e (tq0) 6 h U O.f.t U x1r U ?_ (hp:=rfl);intro e0 b3 a h;refine z2g 7 h U (λ_ hw=>b3 _<|a3.f.t.ext hw) y2m U λa h=>z7v 8 hC h wn U underlying123 U λa h=>u0n 9 hC h wn U U U U λa h=>z0p ?_;clear hC a3 I a6;refine bk (h.sub (L':=ll5 1 58 59 60 74)<|csu U)<|tn<|cd U (λc8=>?_)<|λc8=>?_;refine sr<|asg U<|nn<|rt<|rb<|tr<|tr<|rb<|tr<|r1 results23 U ?_;have a1:¬ ∃i,i<6/\¬y1s (s.ys.getD i yq0).p:=λ⟨k,hk,h⟩=>h<|a7 k oo;have c9:(s.ys.getD i yq0).ct≠((s.fb.ts.getD i tq0).2.length:Int):=by simp only[l90]at c8;have d5:=z2c (a0.f.tt _<|z0z (d:=tq0) (i:=i) oo).1;omega
 exact⟨_,rfl,by unfold v9q;rw[if_neg oo,if_neg oo,if_neg oo,if_neg a1,if_neg oo,if_neg c6,if_pos ⟨i,oo,c9⟩],((((q1.n6 q2 q3 q7 q8 q9 Z).n1 a2).n1 a8).z2 a9 a4)⟩;refine sk<|bn'<|tn<|rg<|z0v U (wi6 oo)<|mv U U<|nl ?_;exact lpE (i+1) (csu U) ⟨(a2.z3 a8 a9 a4),⟨oo,λk h=>by
  by_cases e:k=i;subst e;simp only[l90]at c8;have d5:=z2c (a0.f.tt _<|z0z (d:=tq0) (i:=k) oo).1;omega;exact b4 k oo⟩⟩ oo
 obtain rfl:i=6:=by omega
 refine ex<|te<|te<|xh<|tn<|sr<|asg U<|nn<|rt<|r1 results23 U ?_;have a1:¬ ∃i,i<6/\¬y1s (s.ys.getD i yq0).p:=λ⟨k,hk,h⟩=>h<|a7 k oo;have d0:¬ ∃i,i<6/\(s.ys.getD i yq0).ct≠((s.fb.ts.getD i tq0).2.length:Int):=λ⟨k,hk,h⟩=>h<|b4 k oo;exact⟨_,rfl,by unfold v9q;rw[if_neg oo,if_neg oo,if_neg oo,if_neg a1,if_neg oo,if_neg c6,if_neg d0],((q1.n6 q2 q3 q7 q8 q9 Z).n1 a2)⟩
theorem j9x {s:StQ}(Z:-4<=s.rk/\s.rk<=4)(O:s.ys.length=6)(D:∀i,i<6->y1s (s.ys.getD i yq0).p/\(s.ys.getD i yq0).ct=((s.fb.ts.getD i tq0).2.length:Int))(I:s.fb.hs=(z2l s.q.p s.rk).map Hd.id):v9q s 0 0=0:=by
 unfold v9q;rw[if_neg oo,if_neg dd,if_neg oo,if_neg (λ⟨k,hk,h⟩=>h (D k hk).1),if_neg dd,if_neg (λh=>h I),if_neg (λ⟨k,hk,h⟩=>h (D k hk).2)]
theorem j3h (s:StQ)(w0:World)(hS:StAt w0 s)(hr:-4<=s.rk/\s.rk<=4)(hB:BdOk s.q.p)(Z:s.ys.length=6)(O:s.fb.ts.length=6)(a0:∀i,i<6->y1s (s.ys.getD i yq0).p/\(s.ys.getD i yq0).ct=((s.fb.ts.getD i tq0).2.length:Int))(D:∀w,FbAt w s.fb->Rets prog 52 #[fvv s.fb] w λr w'=>r=.int .i64 0/\Fr [] w w')(hh:s.fb.hs=(z2l s.q.p s.rk).map Hd.id)(I:s.fb.hs.length<=100000):Rets prog 23 #[svv s] w0 λr w'=>r=.int .i64 0/\Fr [] w0 w':=by
 have x:=u2t s 0 0 w0 hS (λw h=>x1z s.q w h hB) (λ_=>hB) (λ_=>O) D I;rw[j9x hr Z a0 hh]at x;exact x
open Go.Lw Go.G21 Go.G08 _root_.Go.Proofs.Tryz
theorem y0y:ElemOf prog 45 44 z3d 40:=ElemOf.mk' (z:=(.agg #[.int .u8 0,.int .u8 0,.int .u8 0,.int .i64 0,.int .u8 0,.int .i64 0])) underlying45 kr U
theorem v3b:z1r prog 44 6:=λ_=>kr
theorem u1r (w:World):(zeroValue 44).run prog w=.ok (.agg #[(.int .u8 0),(.int .u8 0),(.int .u8 0),(.int .i64 0),(.int .u8 0),(.int .i64 0)]) w:=kr
theorem y9n {D p q:MSt}{o:MOp}:∀ {l:List MOp} {i:Nat},z3u i D l=.ok p->doM p o=.ok q->z3u i D (l++[o])=.ok q
 | [],i,h,h2=>by cases h;show z3u i D [o]=_;unfold z3u;rw[h2];rfl
 | x::l,i,h,h2=>by
  unfold z3u at h
  show z3u i D (x::(l++[o]))=_
  unfold z3u
  split at h
  ·cases h
  rename_i q' I
  exact y9n h h2
theorem y6h {D p:MSt}{e:Int}{o:MOp}:∀ {l r:List MOp} {i:Nat},z3u i D l=.ok p->doM p o=.error e->z3u i D (l++o::r)=.error (e,i+l.length)
 | [],r,i,h,h2=>by cases h;show z3u i D (o::r)=_;unfold z3u;rw[h2];rfl
 | x::l,r,i,h,h2=>by
  unfold z3u at h
  show z3u i D (x::(l++o::r))=_
  unfold z3u
  split at h
  ·cases h
  rename_i q' I
  have:=y6h (r:=r) h h2
  simp only[this,l34]
  congr 2;omega
theorem j4q (s:StQ)(v:Value)(l:List MOp)(p0:MSt)(w0:World)(hS:StAt w0 s)(d4:StSz s)(d7:(s.fb.cs.map cxK).Nodup)(b4:p0=(⟨s.rk,⟨trimB<|plB s.q.fs,trimB<|plB s.q.bs⟩,s.ys.map YQ.p,z2n s.fb.ts,s.fb.cs,s.fb.fs⟩:MSt))(d9:MInv p0)(hv:Sl z3d w0 v l)(d5:StT w0)(g1:l.length<=4096)(b2:∀w,StAt w s->Rets prog 23 #[svv s] w λr w'=>r=.int .i64 0/\Fr [] w w')(d6:∀p,z3u 0 p0 l=.ok p->p.cr.length<=100000000):Rets prog 7 #[svv s,v] w0 λr w'=>(match z3u 0 p0 l with|.error (e,n)=>r=.tuple #[.agg #[.int .i64 0,.slice none 0 0,.slice none 0 0,.slice none 0 0,.slice none 0 0,.slice none 0 0,.slice none 0 0,.slice none 0 0],.int .i64 (n:Int),.int .i64 e]|.ok p=>∃s':StQ,r=.tuple #[svv s',.int .i64 (l.length:Int),.int .i64 0]/\StO τd 147 w0.heap.size w' s'/\s'.p=stM p)/\Fr [] w0 w':=by
 obtain⟨A,c,rfl,f6,d1,hA⟩:=id hv;clear hA;unfold maxLen at d1;refine we [(0,svv s),(1,.slice A l.length c)] func7 U ntmps7 U (.c2 U U) ?_;have a9:=hS;have e6:=hv;refine sr<|bx U<|λg2 w1 f7 I q1 z1=>(al y6l U<|λg4 w2 f8 D q2 z2=>(asg U<|asg U<|nn<|sq<|sr<|mv U U<|lnS U underlying45<|gt' U<|nn<|cd U (λc0=>?_)<|λc0=>?_));refine sr<|z1u (cs:=[_,_,_,_,_,_,_,_]) z0f x9k z0r U ?_;refine z0i (vs:=[_,_,_,_,_,_,_,_]) U D z9m<|λw3 D q3 z3=>(asg U<|asg U<|nn<|rt<|tr<|k3k results7 U D z7r U U ?_);exfalso;omega;refine sk<|tn<|sq<|sr ?_;have I:=I.ext q2;refine z0k U I z7r ?_;have hS:=a9.ext<|q1.n1 q2;refine cl (ev1 U) (mkC func23) (b2 _ hS) U ?_;rintro _ w4 ⟨rfl,q4⟩;have z4:=q4.size;refine asg U<|nn<|sr<|mv U U<|ne' U<|nn<|cd U (λc1=>?_)<|λc1=>?_;refine sr<|z1u (cs:=[_,_,_,_,_,_,_,_]) z0f x9k z0r U ?_;refine mv U U ?_;have D:=D.ext q4;exact z0i (vs:=[_,_,_,_,_,_,_,_]) U D z9m<|λw5 D q5 z5=>(asg U<|asg U<|kpL (ll3 4 5 6) (csu U)<|nn<|rt<|tr<|k3k results7 U D z7r U U<|absurd U t12);refine sk<|tn<|sr ?_;have I:=I.ext q4;refine z0k U I z7r ?_;have hS:=a9.ext<|q1.n2 q2 q4;have D:=D.ext q4;refine cl (z0a U z0f) (mkC func26) (v6m s _ hS d4 d7) U ?_;rintro _ w6 ⟨ka,m,rfl,O,b3⟩;have q6:=O.fr.fr;have z6:=q6.size;have a2:=D;have f3:=O.c.lt;have a3:=O;refine cl z0f (mkC func27) (v8p _) U ?_;rintro _ w7 ⟨⟨gl,rfl,f9,hl⟩,q7⟩;have z7:=q7.size;refine asg U<|asg U<|kpL (ll4 1 4 8 9) (csu U)<|nn<|sq<|sr<|mv U U<|lnS U underlying45<|mv U U<|nn<|bl ?_;have O:=a3.ext q7;refine lpK (ι:=Nat) (ll6 1 4 8 9 26 27) (λi=>[(28,.int .i64 (i:Int))]) (λi w'=>Fr [] w4 w'/\i<=l.length/\∃m:MQ,MkM τd 145 w4 ka w' m/\z3u 0 p0 (l.take i)=.ok m.p/\MInv m.p/\MapF kV w' gl k1l) (λi=>l.length-i) 0 (csu U) ⟨(q6.n1 q7),⟨l17 _,m,O,by rw[b3,<-b4];rfl,by rw[b3,<-b4];exact d9,hl⟩⟩ ?_;rintro i w8 ⟨q8,⟨g0,m,O,a0,a4,hl⟩⟩;have z8:=q8.size;have a3:=O;refine kpC (ll7 1 4 8 9 26 27 28) (csu U) ?_;have f4:gl<w8.heap.size:=by obtain⟨_,_,_,b8,_⟩:=hl;exact(l15.1 b8).1
 refine sr<|lt' U<|nn<|sq<|cd U (λc2=>?_)<|λc2=>?_;have a6:i<l.length:=by omega
 refine sk<|tn<|sq<|bl<|sr<|mv U U ?_;have hv:=e6.ext<|q1.n3 q2 q4 q8;refine z1b (op0) U hv U y0y z1j<|λf1 b1=>?_;refine z1q U (b1 _ hv) y2a<|al u1r U<|λf5 w9 f2 Z q9 z9=>(asg U<|z0i (vs:=[_,_,_,_,_,_]) U Z v3b<|λe8 Z b5 g7=>(nn<|sr<|mv U U<|mv U U<|z0k U Z y2a ?_));have O:=a3.ext<|q9.z1 b5;have hl:=(hl.ext q9).fr b5 (by simp only[l11];omega);have d0:=O.fr;refine cl (z0a U<|z0a U<|z0a U z0f) (mkC func28) (u7o w4 { ka with wk:=e8 } m (l.getD i op0) gl _ O.mark a4 (d5.ext<|q1.n2 q2 q4) hl) U ?_;intro _ g3 hR;obtain⟨rfl,a1,m1,e0⟩:=hR.split;have f0:=a1.kp.size;simp only at f0;have b6:=a1.fr;have hl:=a1.kp.mapF hl sm;refine asg U<|nn<|sr<|mv U U<|ne' U<|nn<|cd U (λc3=>?_)<|λc3=>?_;have D:=a2.ext a1.fr;refine sr<|z1u (cs:=[_,_,_,_,_,_,_,_]) z0f x9k z0r U ?_;refine mv U U<|mv U U<|z0i (vs:=[_,_,_,_,_,_,_,_]) U D z9m<|λg5 D e7 g8=>(asg U<|asg U<|kpL (ll3 4 5 6) (csu U)<|nn<|rt<|rb<|tr<|tr<|rb<|tr<|k3k results7 U D z7r U U ?_);have e4:z3u 0 p0 l=.error (u6r<|doM m.p<|l.getD i op0,i):=by
  have x:=y6h (r:=l.drop<|i+1) a0<|y0m c3;have e:l.take i++l.getD i op0::l.drop (i+1)=l:=by
   rw[List.getD,l10 a6,l63,<-l31 a6,l26]
  rw[e,l25,Nat.min_eq_left oo,l71]at x;exact x
 exact⟨_,rfl,by rw[e4],(q1.z4 q2 q4 b6 e7)⟩;obtain⟨c9,a5⟩:=e0<|l16.1 c3;have a8:=c9.unmark d0;obtain⟨m2,e3⟩:∃m2,m2=m1:=⟨_,rfl⟩;rw[<-e3]at a8 a5;exact sk<|bn'<|tn<|rg<|z0v U (wi6 oo)<|mv U U<|nl<|lpE ((i+1)) (csu U) ⟨b6,⟨oo,m2,a8,by rw[show l.take (i+1)=l.take i++[l.getD i op0] by rw[l53,List.getD,l10 a6];rfl];exact y9n a0 a5,z7l a4 a5,hl⟩⟩ oo;obtain rfl:i=l.length:=by omega
 rw[l39]at a0;refine ex<|te<|te<|xh<|tn<|sr<|mv U U<|cl (z0a U z0f) (mkC func29) (x3l w4 ka m _ O a4<|d6 _ a0) U ?_;rintro _ g6 ⟨s',rfl,d3,e5,a7⟩;have g9:=a7.size;have D:=a2.ext a7;have b0:=D;refine mv U U<|lnS U underlying45<|z0i (vs:=[_,_,_,_,_,_,_,_]) U D z9m<|λe9 D b7 h0=>(asg U<|asg U<|kpL (ll3 4 5 6) (csu U)<|nn<|rt<|k3k results7 U D z7r U U ?_);have b9:Fr [] _ e9:=(l12 _ _);exact⟨_,rfl,by rw[a0];exact⟨s',rfl,((d3.off b0 dd b7).ext b9).low oo,e5⟩,(q1.z4 q2 q4 a7 b7)⟩
abbrev stZ:StQ:=⟨0,⟨sv0,sv0,[],[]⟩,sv0,[],⟨sv0,sv0,sv0,sv0,[],[],[],[]⟩⟩
theorem j2k (base:Nat)(w:World):StO τd 147 base w stZ:=
 ⟨⟨⟨Own.nil w,λq D=>(by cases D)⟩,⟨Own.nil w,λq D=>(by cases D)⟩⟩,⟨Own.nil w,λi hi=>(by cases hi)⟩,⟨Own.nil w,λi hi=>(by cases hi),λi j hi=>(by cases hi),λi hi=>(by cases hi)⟩,Own.nil w,Own.nil w,Own.nil w,λk I=>(by cases I)⟩
end Go.Proofs.YtlfdhllfmoplgaaGreatDoor
namespace Go.Proofs
open Go.Shelf
def Tryz.lays156_ren:Go.Shelf.Ren:=⟨fun|156=>194|165=>224|166=>225|169=>226|240=>240|241=>241|276=>259|277=>260|n=>n,fun|31=>88|9=>9|3=>3|4=>4|0=>0|20=>20|72=>304|76=>298|70=>302|37=>51|75=>297|127=>319|164=>330|5=>5|80=>305|n=>n,fun|n=>n⟩
theorem Tryz.lays156:Go.Proofs.Lays.n156 Tryz.prog Tryz.lays156_ren:={
 mixed:=by kernel_rfl
 f156:=Tryz.func194.trans<|congrArg some kr
 f165:=Tryz.func224.trans<|congrArg some kr
 f166:=Tryz.func225.trans<|congrArg some kr
 f169:=Tryz.func226.trans<|congrArg some kr
 f240:=Tryz.func240.trans<|congrArg some kr
 f241:=Tryz.func241.trans<|congrArg some kr
 f276:=Tryz.func259.trans<|congrArg some kr
 f277:=Tryz.func260.trans<|congrArg some kr
 t0:=Tryz.underlying0
 a0:=Tryz.isAgg0
 z0:=Tryz.sizeOf0
 v0:=Tryz.zeroValue0
 t3:=Tryz.underlying3
 a3:=Tryz.isAgg3
 z3:=Tryz.sizeOf3
 v3:=Tryz.zeroValue3
 t4:=Tryz.underlying4
 a4:=Tryz.isAgg4
 z4:=Tryz.sizeOf4
 v4:=Tryz.zeroValue4
 t9:=Tryz.underlying9
 a9:=Tryz.isAgg9
 z9:=Tryz.sizeOf9
 v9:=Tryz.zeroValue9
 t20:=Tryz.underlying20
 a20:=Tryz.isAgg20
 z20:=Tryz.sizeOf20
 v20:=Tryz.zeroValue20
 t31:=Tryz.underlying88
 a31:=Tryz.isAgg88
 z31:=Tryz.sizeOf88
 v31:=Tryz.zeroValue88
 t37:=Tryz.underlying51
 a37:=Tryz.isAgg51
 z37:=Tryz.sizeOf51
 v37:=Tryz.zeroValue51
 t70:=Tryz.underlying302
 a70:=Tryz.isAgg302
 z70:=Tryz.sizeOf302
 v70:=Tryz.zeroValue302
 t72:=Tryz.underlying304
 a72:=Tryz.isAgg304
 z72:=Tryz.sizeOf304
 v72:=Tryz.zeroValue304
 t75:=Tryz.underlying297
 a75:=Tryz.isAgg297
 z75:=Tryz.sizeOf297
 v75:=Tryz.zeroValue297
 t76:=Tryz.underlying298
 a76:=Tryz.isAgg298
 z76:=Tryz.sizeOf298
 v76:=Tryz.zeroValue298
 t127:=Tryz.underlying319
 a127:=Tryz.isAgg319
 z127:=Tryz.sizeOf319
 v127:=Tryz.zeroValue319
 t164:=Tryz.underlying330
 a164:=Tryz.isAgg330
 z164:=Tryz.sizeOf330
 v164:=Tryz.zeroValue330 }
theorem Tryz.Builder_Extra_156:Builder.Extra Tryz.prog Tryz.lays156_ren:={
 sizeBuilder:=by kernel_rfl
 liesBuilder:=by kernel_rfl
 t5:=Tryz.underlying5
 a5:=Tryz.isAgg5
 z5:=Tryz.sizeOf5
 v5:=Tryz.zeroValue5
 infoByte:=by kernel_rfl
 cellsByte:=by kernel_rfl
 sizeByte:=by kernel_rfl
 neB5:=by decide }
open Go.RowKit in
theorem Tryz.strings_Join (bk o c:Nat)(xs:List ByteArray)(I:ByteArray)(w:World)(D:∀(j:Nat) x,xs[j]?=some x->w.cell? ⟨bk,o+j,none⟩=some (.string x))(a0:bk<w.heap.size)(hN:xs.length<=140737488355328)(O:xs.length<=c)(Z:(Lib.join (xs.map (·.data.toList)) I.data.toList).length<=140737488355328) :
 Calls Tryz.prog 194 #[.slice (some ⟨bk,o,none⟩) xs.length c,.string I] w λe w'=>e=.returned (.string ⟨(Lib.join (xs.map (·.data.toList)) I.data.toList).toArray⟩)/\Below w.heap.size w w':=Any.strings_Join Tryz.lays156 Tryz.Builder_Extra_156 bk o c xs I w D a0 hN O Z
def Tryz.laysM171_ren:Go.Shelf.Ren:=⟨fun|171=>192|243=>223|246=>239|283=>255|284=>256|285=>257|286=>258|129=>178|317=>266|318=>267|319=>268|320=>269|337=>272|338=>273|n=>n,fun|3=>3|9=>9|2=>2|4=>4|171=>326|0=>0|53=>264|37=>51|5=>5|173=>328|212=>345|51=>262|20=>20|213=>346|46=>219|232=>352|233=>353|n=>n,fun|17=>8|18=>9|19=>10|n=>n⟩
theorem Tryz.laysM171:Go.Proofs.LaysM.n171 Tryz.prog Tryz.laysM171_ren:={
 mixed:=by kernel_rfl
 f129:=Tryz.func178.trans<|congrArg some kr
 f171:=Tryz.func192.trans<|congrArg some kr
 f243:=Tryz.func223.trans<|congrArg some kr
 f246:=Tryz.func239.trans<|congrArg some kr
 f283:=Tryz.func255.trans<|congrArg some kr
 f284:=Tryz.func256.trans<|congrArg some kr
 f285:=Tryz.func257.trans<|congrArg some kr
 f286:=Tryz.func258.trans<|congrArg some kr
 f317:=Tryz.func266.trans<|congrArg some kr
 f318:=Tryz.func267.trans<|congrArg some kr
 f319:=Tryz.func268.trans<|congrArg some kr
 f320:=Tryz.func269.trans<|congrArg some kr
 f337:=Tryz.func272.trans<|congrArg some kr
 f338:=Tryz.func273.trans<|congrArg some kr
 t0:=Tryz.underlying0
 a0:=Tryz.isAgg0
 z0:=Tryz.sizeOf0
 v0:=Tryz.zeroValue0
 t2:=Tryz.underlying2
 a2:=Tryz.isAgg2
 z2:=Tryz.sizeOf2
 v2:=Tryz.zeroValue2
 t3:=Tryz.underlying3
 a3:=Tryz.isAgg3
 z3:=Tryz.sizeOf3
 v3:=Tryz.zeroValue3
 t4:=Tryz.underlying4
 a4:=Tryz.isAgg4
 z4:=Tryz.sizeOf4
 v4:=Tryz.zeroValue4
 t5:=Tryz.underlying5
 a5:=Tryz.isAgg5
 z5:=Tryz.sizeOf5
 v5:=Tryz.zeroValue5
 t9:=Tryz.underlying9
 a9:=Tryz.isAgg9
 z9:=Tryz.sizeOf9
 v9:=Tryz.zeroValue9
 t20:=Tryz.underlying20
 a20:=Tryz.isAgg20
 z20:=Tryz.sizeOf20
 v20:=Tryz.zeroValue20
 t37:=Tryz.underlying51
 a37:=Tryz.isAgg51
 z37:=Tryz.sizeOf51
 v37:=Tryz.zeroValue51
 t46:=Tryz.underlying219
 a46:=Tryz.isAgg219
 z46:=Tryz.sizeOf219
 v46:=Tryz.zeroValue219
 t51:=Tryz.underlying262
 a51:=Tryz.isAgg262
 z51:=Tryz.sizeOf262
 v51:=Tryz.zeroValue262
 t53:=Tryz.underlying264
 a53:=Tryz.isAgg264
 z53:=Tryz.sizeOf264
 v53:=Tryz.zeroValue264
 t171:=Tryz.underlying326
 a171:=Tryz.isAgg326
 z171:=Tryz.sizeOf326
 v171:=Tryz.zeroValue326
 t173:=Tryz.underlying328
 a173:=Tryz.isAgg328
 z173:=Tryz.sizeOf328
 v173:=Tryz.zeroValue328
 t212:=Tryz.underlying345
 a212:=Tryz.isAgg345
 z212:=Tryz.sizeOf345
 v212:=Tryz.zeroValue345
 t213:=Tryz.underlying346
 a213:=Tryz.isAgg346
 z213:=Tryz.sizeOf346
 t232:=Tryz.underlying352
 a232:=Tryz.isAgg352
 z232:=Tryz.sizeOf352
 v232:=Tryz.zeroValue352
 t233:=Tryz.underlying353
 a233:=Tryz.isAgg353
 z233:=Tryz.sizeOf353
 v233:=Tryz.zeroValue353
 g17:=by kernel_rfl
 g18:=by kernel_rfl
 g19:=by kernel_rfl
 i0:=by kernel_rfl
 i2:=by kernel_rfl
 i3:=by kernel_rfl
 i4:=by kernel_rfl
 i5:=by kernel_rfl
 i9:=by kernel_rfl
 i20:=by kernel_rfl
 i37:=by kernel_rfl
 i46:=by kernel_rfl
 i51:=by kernel_rfl
 i53:=by kernel_rfl
 i171:=by kernel_rfl
 i173:=by kernel_rfl
 i212:=by kernel_rfl
 i232:=by kernel_rfl
 i233:=by kernel_rfl
 m17:=by kernel_rfl
 m18:=by kernel_rfl
 m19:=by kernel_rfl }
open Go.RowKit Go.Sort Go.Lib in
theorem Tryz.strconv_Itoa (n:Int)(I:-9223372036854775808<=n)(h1:n<=9223372036854775807)(w:World)(D:Lib.TabIs Tryz.prog w "internal/strconv.uint64pow10" .u64 Lib.pow10Tab) :
 Calls Tryz.prog 192 #[.int .i64 n] w λe w'=>e=.returned (.string ⟨(Lib.itoa n).toArray⟩)/\∃k O,w'=grow (w.drewN k) O:=Any.strconv_Itoa Tryz.laysM171 n I h1 w D
def Tryz.laysC172_ren:Go.Shelf.Ren:=⟨fun|172=>219|244=>233|245=>234|247=>245|279=>246|280=>247|281=>248|282=>249|287=>261|316=>262|171=>192|205=>263|321=>270|322=>271|243=>223|246=>239|283=>255|284=>256|285=>257|286=>258|129=>178|317=>266|318=>267|319=>268|320=>269|337=>272|338=>273|n=>n,fun|9=>9|3=>3|75=>297|76=>298|4=>4|5=>5|167=>320|37=>51|0=>0|85=>321|2=>2|168=>323|53=>264|175=>332|46=>219|210=>336|127=>319|145=>351|143=>349|21=>21|171=>326|173=>328|212=>345|51=>262|20=>20|213=>346|232=>352|233=>353|80=>305|n=>n,fun|15=>4|16=>5|17=>8|18=>9|19=>10|n=>n⟩
theorem Tryz.laysC172:Go.Proofs.LaysC.n172 Tryz.prog Tryz.laysC172_ren:={
 mixed:=by kernel_rfl
 f129:=Tryz.func178.trans<|congrArg some kr
 f171:=Tryz.func192.trans<|congrArg some kr
 f172:=Tryz.func219.trans<|congrArg some kr
 f205:=Tryz.func263.trans<|congrArg some kr
 f243:=Tryz.func223.trans<|congrArg some kr
 f244:=Tryz.func233.trans<|congrArg some kr
 f245:=Tryz.func234.trans<|congrArg some kr
 f246:=Tryz.func239.trans<|congrArg some kr
 f247:=Tryz.func245.trans<|congrArg some kr
 f279:=Tryz.func246.trans<|congrArg some kr
 f280:=Tryz.func247.trans<|congrArg some kr
 f281:=Tryz.func248.trans<|congrArg some kr
 f282:=Tryz.func249.trans<|congrArg some kr
 f283:=Tryz.func255.trans<|congrArg some kr
 f284:=Tryz.func256.trans<|congrArg some kr
 f285:=Tryz.func257.trans<|congrArg some kr
 f286:=Tryz.func258.trans<|congrArg some kr
 f287:=Tryz.func261.trans<|congrArg some kr
 f316:=Tryz.func262.trans<|congrArg some kr
 f317:=Tryz.func266.trans<|congrArg some kr
 f318:=Tryz.func267.trans<|congrArg some kr
 f319:=Tryz.func268.trans<|congrArg some kr
 f320:=Tryz.func269.trans<|congrArg some kr
 f321:=Tryz.func270.trans<|congrArg some kr
 f322:=Tryz.func271.trans<|congrArg some kr
 f337:=Tryz.func272.trans<|congrArg some kr
 f338:=Tryz.func273.trans<|congrArg some kr
 t0:=Tryz.underlying0
 a0:=Tryz.isAgg0
 z0:=Tryz.sizeOf0
 v0:=Tryz.zeroValue0
 t2:=Tryz.underlying2
 a2:=Tryz.isAgg2
 z2:=Tryz.sizeOf2
 v2:=Tryz.zeroValue2
 t3:=Tryz.underlying3
 a3:=Tryz.isAgg3
 z3:=Tryz.sizeOf3
 v3:=Tryz.zeroValue3
 t4:=Tryz.underlying4
 a4:=Tryz.isAgg4
 z4:=Tryz.sizeOf4
 v4:=Tryz.zeroValue4
 t5:=Tryz.underlying5
 a5:=Tryz.isAgg5
 z5:=Tryz.sizeOf5
 v5:=Tryz.zeroValue5
 t9:=Tryz.underlying9
 a9:=Tryz.isAgg9
 z9:=Tryz.sizeOf9
 v9:=Tryz.zeroValue9
 t20:=Tryz.underlying20
 a20:=Tryz.isAgg20
 z20:=Tryz.sizeOf20
 v20:=Tryz.zeroValue20
 t21:=Tryz.underlying21
 a21:=Tryz.isAgg21
 z21:=Tryz.sizeOf21
 v21:=Tryz.zeroValue21
 t37:=Tryz.underlying51
 a37:=Tryz.isAgg51
 z37:=Tryz.sizeOf51
 v37:=Tryz.zeroValue51
 t46:=Tryz.underlying219
 a46:=Tryz.isAgg219
 z46:=Tryz.sizeOf219
 v46:=Tryz.zeroValue219
 t51:=Tryz.underlying262
 a51:=Tryz.isAgg262
 z51:=Tryz.sizeOf262
 v51:=Tryz.zeroValue262
 t53:=Tryz.underlying264
 a53:=Tryz.isAgg264
 z53:=Tryz.sizeOf264
 v53:=Tryz.zeroValue264
 t75:=Tryz.underlying297
 a75:=Tryz.isAgg297
 z75:=Tryz.sizeOf297
 v75:=Tryz.zeroValue297
 t76:=Tryz.underlying298
 a76:=Tryz.isAgg298
 z76:=Tryz.sizeOf298
 v76:=Tryz.zeroValue298
 t85:=Tryz.underlying321
 a85:=Tryz.isAgg321
 z85:=Tryz.sizeOf321
 v85:=Tryz.zeroValue321
 t127:=Tryz.underlying319
 a127:=Tryz.isAgg319
 z127:=Tryz.sizeOf319
 v127:=Tryz.zeroValue319
 t143:=Tryz.underlying349
 a143:=Tryz.isAgg349
 z143:=Tryz.sizeOf349
 v143:=Tryz.zeroValue349
 t145:=Tryz.underlying351
 a145:=Tryz.isAgg351
 z145:=Tryz.sizeOf351
 v145:=Tryz.zeroValue351
 t167:=Tryz.underlying320
 a167:=Tryz.isAgg320
 z167:=Tryz.sizeOf320
 v167:=Tryz.zeroValue320
 t168:=Tryz.underlying323
 a168:=Tryz.isAgg323
 z168:=Tryz.sizeOf323
 v168:=Tryz.zeroValue323
 t171:=Tryz.underlying326
 a171:=Tryz.isAgg326
 z171:=Tryz.sizeOf326
 v171:=Tryz.zeroValue326
 t173:=Tryz.underlying328
 a173:=Tryz.isAgg328
 z173:=Tryz.sizeOf328
 v173:=Tryz.zeroValue328
 t175:=Tryz.underlying332
 a175:=Tryz.isAgg332
 z175:=Tryz.sizeOf332
 v175:=Tryz.zeroValue332
 t210:=Tryz.underlying336
 a210:=Tryz.isAgg336
 z210:=Tryz.sizeOf336
 v210:=Tryz.zeroValue336
 t212:=Tryz.underlying345
 a212:=Tryz.isAgg345
 z212:=Tryz.sizeOf345
 v212:=Tryz.zeroValue345
 t213:=Tryz.underlying346
 a213:=Tryz.isAgg346
 z213:=Tryz.sizeOf346
 t232:=Tryz.underlying352
 a232:=Tryz.isAgg352
 z232:=Tryz.sizeOf352
 v232:=Tryz.zeroValue352
 t233:=Tryz.underlying353
 a233:=Tryz.isAgg353
 z233:=Tryz.sizeOf353
 v233:=Tryz.zeroValue353
 g15:=by kernel_rfl
 g16:=by kernel_rfl
 g17:=by kernel_rfl
 g18:=by kernel_rfl
 g19:=by kernel_rfl
 t80:=Tryz.underlying305
 a80:=Tryz.isAgg305
 z80:=Tryz.sizeOf305
 v80:=Tryz.zeroValue305
 i0:=by kernel_rfl
 i2:=by kernel_rfl
 i3:=by kernel_rfl
 i4:=by kernel_rfl
 i5:=by kernel_rfl
 i9:=by kernel_rfl
 i20:=by kernel_rfl
 i21:=by kernel_rfl
 i37:=by kernel_rfl
 i46:=by kernel_rfl
 i51:=by kernel_rfl
 i53:=by kernel_rfl
 i75:=by kernel_rfl
 i76:=by kernel_rfl
 i80:=by kernel_rfl
 i85:=by kernel_rfl
 i127:=by kernel_rfl
 i143:=by kernel_rfl
 i145:=by kernel_rfl
 i167:=by kernel_rfl
 i168:=by kernel_rfl
 i171:=by kernel_rfl
 i173:=by kernel_rfl
 i175:=by kernel_rfl
 i210:=by kernel_rfl
 i212:=by kernel_rfl
 i232:=by kernel_rfl
 i233:=by kernel_rfl
 m15:=by kernel_rfl
 m16:=by kernel_rfl
 m17:=by kernel_rfl
 m18:=by kernel_rfl
 m19:=by kernel_rfl
 c0:=by kernel_rfl
 c2:=by kernel_rfl
 c3:=by kernel_rfl
 c4:=by kernel_rfl
 c5:=by kernel_rfl
 c9:=by kernel_rfl
 c20:=by kernel_rfl
 c21:=by kernel_rfl
 c37:=by kernel_rfl
 c46:=by kernel_rfl
 c51:=by kernel_rfl
 c53:=by kernel_rfl
 c75:=by kernel_rfl
 c76:=by kernel_rfl
 c80:=by kernel_rfl
 c85:=by kernel_rfl
 c127:=by kernel_rfl
 c143:=by kernel_rfl
 c145:=by kernel_rfl
 c167:=by kernel_rfl
 c168:=by kernel_rfl
 c171:=by kernel_rfl
 c173:=by kernel_rfl
 c175:=by kernel_rfl
 c210:=by kernel_rfl
 c212:=by kernel_rfl
 c213:=by kernel_rfl
 c232:=by kernel_rfl
 c233:=by kernel_rfl }
open Go.RowKit in
theorem Tryz.strconv_Atoi_ok (s:ByteArray)(D:s.size<=9223372036854775806)(v:Int)(h:Lib.atoiAll s.data.toList=.ok v)(w:World) :
 Calls Tryz.prog 219 #[.string s] w λe w'=>e=.returned (.tuple #[.int .i64 v,.nilIface])/\(w'=w\/∃t,w'=Lib.bytesWorld w 5 t):=Any.strconv_Atoi_ok Tryz.laysC172 s D v h w
open Go.RowKit in
theorem Tryz.strconv_Atoi_syntax (s:ByteArray)(D:s.size<=281474976710656)(h:Lib.atoiAll s.data.toList=Lib.atoiAll [])(ev:Value)(w:World)(O:w.cell? ⟨4,0,none⟩=some ev)(I:ev=.nilIface\/∃te Z,ev=.iface te Z) :
 Calls Tryz.prog 219 #[.string s] w λe w'=>∃N,e=.returned (.tuple #[.int .i64 (0),.iface 323 (pta N)])/\w.heap.size<=N/\w'.heap[N]?=some (.cells #[.string ⟨#[65,116,111,105]⟩,.string s,ev] 336 (0,0))/\Below w.heap.size w w':=Any.strconv_Atoi_syntax Tryz.laysC172 s D h ev w O I
open Go.RowKit in
theorem Tryz.strconv_Atoi_range (s:ByteArray)(D:s.size<=281474976710656)(h:Lib.atoiAll s.data.toList=.range)(ev:Value)(w:World)(O:w.cell? ⟨5,0,none⟩=some ev)(I:ev=.nilIface\/∃te Z,ev=.iface te Z) :
 Calls Tryz.prog 219 #[.string s] w λe w'=>∃N,e=.returned (.tuple #[.int .i64 (Lib.atoiSat s.data.toList),.iface 323 (pta N)])/\w.heap.size<=N/\w'.heap[N]?=some (.cells #[.string ⟨#[65,116,111,105]⟩,.string s,ev] 336 (0,0))/\Below w.heap.size w w':=Any.strconv_Atoi_range Tryz.laysC172 s D h ev w O I
def Tryz.lays146_ren:Go.Shelf.Ren:=⟨fun|146=>141|221=>191|268=>220|138=>221|143=>222|195=>235|197=>236|218=>237|219=>238|260=>250|217=>251|225=>252|224=>253|267=>254|266=>264|314=>265|n=>n,fun|9=>9|31=>88|3=>3|4=>4|0=>0|105=>315|21=>21|5=>5|46=>219|119=>338|139=>341|138=>340|146=>342|51=>262|n=>n,fun|1=>3|3=>6|4=>7|n=>n⟩
theorem Tryz.lays146:Go.Proofs.Lays.n146 Tryz.prog Tryz.lays146_ren:={
 mixed:=by kernel_rfl
 f138:=Tryz.func221.trans<|congrArg some kr
 f143:=Tryz.func222.trans<|congrArg some kr
 f146:=Tryz.func141.trans<|congrArg some kr
 f195:=Tryz.func235.trans<|congrArg some kr
 f197:=Tryz.func236.trans<|congrArg some kr
 f217:=Tryz.func251.trans<|congrArg some kr
 f218:=Tryz.func237.trans<|congrArg some kr
 f219:=Tryz.func238.trans<|congrArg some kr
 f221:=Tryz.func191.trans<|congrArg some kr
 f224:=Tryz.func253.trans<|congrArg some kr
 f225:=Tryz.func252.trans<|congrArg some kr
 f260:=Tryz.func250.trans<|congrArg some kr
 f266:=Tryz.func264.trans<|congrArg some kr
 f267:=Tryz.func254.trans<|congrArg some kr
 f268:=Tryz.func220.trans<|congrArg some kr
 f314:=Tryz.func265.trans<|congrArg some kr
 t0:=Tryz.underlying0
 a0:=Tryz.isAgg0
 z0:=Tryz.sizeOf0
 v0:=Tryz.zeroValue0
 t3:=Tryz.underlying3
 a3:=Tryz.isAgg3
 z3:=Tryz.sizeOf3
 v3:=Tryz.zeroValue3
 t4:=Tryz.underlying4
 a4:=Tryz.isAgg4
 z4:=Tryz.sizeOf4
 v4:=Tryz.zeroValue4
 t5:=Tryz.underlying5
 a5:=Tryz.isAgg5
 z5:=Tryz.sizeOf5
 v5:=Tryz.zeroValue5
 t9:=Tryz.underlying9
 a9:=Tryz.isAgg9
 z9:=Tryz.sizeOf9
 v9:=Tryz.zeroValue9
 t21:=Tryz.underlying21
 a21:=Tryz.isAgg21
 z21:=Tryz.sizeOf21
 v21:=Tryz.zeroValue21
 t31:=Tryz.underlying88
 a31:=Tryz.isAgg88
 z31:=Tryz.sizeOf88
 v31:=Tryz.zeroValue88
 t46:=Tryz.underlying219
 a46:=Tryz.isAgg219
 z46:=Tryz.sizeOf219
 v46:=Tryz.zeroValue219
 t51:=Tryz.underlying262
 a51:=Tryz.isAgg262
 z51:=Tryz.sizeOf262
 v51:=Tryz.zeroValue262
 t105:=Tryz.underlying315
 a105:=Tryz.isAgg315
 z105:=Tryz.sizeOf315
 v105:=Tryz.zeroValue315
 t119:=Tryz.underlying338
 a119:=Tryz.isAgg338
 z119:=Tryz.sizeOf338
 t138:=Tryz.underlying340
 a138:=Tryz.isAgg340
 z138:=Tryz.sizeOf340
 v138:=Tryz.zeroValue340
 t139:=Tryz.underlying341
 a139:=Tryz.isAgg341
 z139:=Tryz.sizeOf341
 v139:=Tryz.zeroValue341
 t146:=Tryz.underlying342
 a146:=Tryz.isAgg342
 z146:=Tryz.sizeOf342
 v146:=Tryz.zeroValue342
 g1:=by kernel_rfl
 g3:=by kernel_rfl
 g4:=by kernel_rfl }
open Go.RowKit Go.Lib in
theorem Tryz.strings_Split (s D:ByteArray)(m:Int)(w:World)(O:s.size<4294967281)(I:w.cell? ⟨3,0,none⟩=some (.int .i64 m))(h1:1<=D.size) :
 Calls Tryz.prog 141 #[.string s,.string D] w λe w'=>
  e=.returned (.slice (saa w.heap.size) (Lib.countB s D+1)<|Lib.countB s D+1)/\w'=w.alloc (.cells ((Lib.splitB D 0 (Lib.countB s D) s).map Value.string).toArray 9):=Any.strings_Split Tryz.lays146 kr s D m w O I h1
end Go.Proofs
namespace Go.Proofs.YtlfdhllfmoplgaaGreatDoor
open Go.Lw _root_.Go.Proofs.Tryz
theorem j8s {w w':World}{D:String}{k:IntKind}{zs:List Int}{S:List Nat}(h:Lib.TabIs prog w D k zs)(hf:Fr S w w')(Z:∀g,prog.globalNamed D=some g->g∉S):Lib.TabIs prog w' D k zs:=by
 unfold Lib.TabIs World.var? at *
 cases hg:prog.globalNamed D with
 | none=>simp[hg]at h
 | some g=>
  simp only[hg,Option.bind_some]at h ⊢;have O:g<w.heap.size:=by
   rcases l110 g w.heap.size with I|I
   exact I;rw[l96 I]at h;simp at h
  rw[hf.block g O (Z g hg)];exact h
theorem gPow:prog.globalNamed "internal/strconv.uint64pow10" =some 8:=kr
structure Glob (w:World):Prop where
  wd:Cells w ⟨1,0,none⟩ (z9e.map S)
  dr:Cells w ⟨2,0,none⟩ (x2j.map S)
  ml:IntAt 3 w
  tab:Lib.TabIs prog w "internal/strconv.uint64pow10" .u64 Lib.pow10Tab
  es:∃te pe,w.cell? ⟨4,0,none⟩=some (.iface te pe)
  er:∃te pe,w.cell? ⟨5,0,none⟩=some (.iface te pe)
  sz:11<=w.heap.size
theorem Glob.fr {w w':World}{S:List Nat}(h:Glob w)(hf:Fr S w w')(O:∀k∈S,11<=k):Glob w':=by
 have D:∀g,g<11->g∉S:=λg I e=>by have:=O g e;omega
 exact⟨h.wd.fr hf<|D _ dd,h.dr.fr hf<|D _ dd,h.ml.fr hf<|D _ dd,j8s h.tab hf (λg I=>by rw[gPow]at I;cases I;exact D _ dd),let ⟨a,b,e⟩:=h.es;⟨a,b,hf.cell e<|D _ dd⟩,let ⟨a,b,e⟩:=h.er;⟨a,b,hf.cell e<|D _ dd⟩,l37 h.sz hf.size⟩
theorem Glob.ext {w w':World}(h:Glob w)(hf:Fr [] w w'):Glob w':=h.fr hf sp0
theorem j2m (w:World)(k:Nat)(l:Array Obj):Fr [] w (Sort.grow (w.drewN k) l):=
 (Fr.drewN [] w k).next ⟨rfl,rfl,rfl,by simp[Sort.grow],λk D _=>by simp only[Sort.grow];exact Array.getElem?_append_left D⟩
theorem x1s (n:Int)(w0:World)(hG:Glob w0)(h:-99<=n/\n<=99):Rets prog 192 #[.int .i64 n] w0 λv w'=>v=S (x7z n)/\Fr [] w0 w':=by
 refine Calls.mono (strconv_Itoa n oo oo w0 hG.tab) ?_;rintro e w' ⟨rfl,k,D,rfl⟩;exact⟨_,rfl,by rw[j1s h];rfl,j2m _ _ _⟩
theorem x0z (b p:Int)(w0:World)(hG:Glob w0):Rets prog 193 #[.agg #[.int .u8 b,.int .i64 p]] w0 λv w'=>v=S (v5k b p)/\Fr [] w0 w':=by
 have a0:=hG.sz;refine we [(0,.agg #[.int .u8 b,.int .i64 p])] func193 U ntmps193 U (.cons U .nil)<|sr<|bx U<|λg1 w1 a1 D Z z1=>(asg U<|nn<|sq<|sr<|z0k U D z5n<|cl (ev1 U) u2r (z5i _ _ _) U ?_);rintro _ w2 ⟨rfl,I⟩;refine ne' U<|nn<|cd U (λO=>?_)<|λO=>?_;refine sr<|asg U<|nn<|rt<|tr<|r1 results193 U ?_;exact⟨_,rfl,by rw[v5k,if_pos O]<;>rfl,(Z.n1 I)⟩;have hr:=v0p.1<|l16.1 O;refine sk<|tn<|sq<|sr<|fad U z6s ?_;have D:=D.ext I;refine z0j U D U x8d<|eq' U<|nn<|cd U (λc1=>?_)<|λc1=>?_;refine sr<|fad U z6r<|z0j U D U na3 ?_;have hG:=hG.ext<|Z.n1 I;refine cl (ev1 U) (mkC func192) (x1s _ _ hG oo) U ?_;rintro _ w3 ⟨rfl,q3⟩;refine u8y U U (by have:=y7g p;simp;omega) U<|asg U<|kpL (ll1 2) (csu U)<|nn<|rt<|tr<|r1 results193 U ?_;exact⟨_,rfl,by rw[v5k,if_neg O,if_pos c1]<;>rfl,(Z.n2 I q3)⟩;refine sk<|tn<|sr<|fad U z6r<|z0j U D U na3 ?_;have hG:=hG.ext<|Z.n1 I;refine cl (ev1 U) (mkC func192) (x1s _ _ hG oo) U ?_;rintro _ w4 ⟨rfl,q4⟩;refine u8y U U (by have:=y7g p;simp;omega) U<|asg U<|kpL (ll1 2) (csu U)<|nn<|rt<|r1 results193 U ?_;exact⟨_,rfl,by rw[v5k,if_neg O,if_neg c1]<;>rfl,(Z.n2 I q4)⟩
theorem u3m (v:Value)(ys:List (List UInt8))(D:List UInt8)(base T:Nat)(w0:World)(I:Lw.Own Enc.str T base w0 v ys)(Z:ys≠[])(hl:(Lib.join ys D).length<=1000000)(a0:ys.length<=1000000):Rets prog 194 #[v,S D] w0 λr w'=>r=S (Lib.join ys D)/\Fr [] w0 w':=by
 rcases I with ⟨_,e⟩|⟨g,cap,cur,rfl,O,hg,h1,h2,h3,h4⟩
 exact absurd e Z;have hm:(ys.map<|λy=>(⟨y.toArray⟩:ByteArray)).map (·.data.toList)=ys:=by rw[l80];simp[l103]
 have I:Lw.Own Enc.str T base w0 (.slice (saa g) ys.length cap) ys:=.inr ⟨g,cap,cur,rfl,O,hg,h1,h2,h3,h4⟩;have hj:=strings_Join g 0 cap (ys.map<|λy=>(⟨y.toArray⟩:ByteArray)) ⟨D.toArray⟩ w0 (λj x hx=>by
  rw[l24,Option.map_eq_some_iff]at hx;obtain⟨y,hy,rfl⟩:=hx;obtain⟨A,c,e,_,_,hA⟩:=I.sl;cases e;obtain⟨ad,e1,hc⟩:=hA j y hy;cases e1;have:=hc 0 (S y) U;rw[z5h,z5h,Nat.add_zero,show Enc.str.sz=1 from U,Nat.mul_one]at this;exact this) ((l15.1 hg).1) so so (by rw[hm];simp;omega)
 rw[hm,l18]at hj;refine Calls.mono hj ?_;rintro e w' ⟨rfl,O⟩;exact⟨_,rfl,by simp[S],Fr.of_below O⟩
theorem u4f (w:World)(t:ByteArray):Fr [] w (Lib.bytesWorld w 5 t):=Fr.of_below<|Lib.bytesWorld_below w 5 t
theorem j1t (l:List UInt8)(w0:World)(hG:Glob w0)(hl:l.length<=1000000):Rets prog 219 #[S l] w0 λr w'=>∃n e,∃b:Bool,r=.tuple #[.int .i64 n,e]/\(e=.nilIface/\b=false\/(∃t p,e=.iface t p)/\b=true)/\u5y l=(if b=true then 0 else n)/\Fr [] w0 w':=by
 have hs:(⟨l.toArray⟩:ByteArray).size=l.length:=by simp[ByteArray.size]
 rcases h:Lib.atoiAll l with v|_|_
 refine Calls.mono (strconv_Atoi_ok ⟨l.toArray⟩ oo v (by simpa using h) w0) ?_;rintro e w' ⟨rfl,O⟩;refine⟨_,rfl,v,.nilIface,false,rfl,.inl ⟨rfl,rfl⟩,by simp[u5y,h],?_⟩;rcases O with rfl|⟨t,rfl⟩
 exact l12 _ _;exact u4f w0 t;obtain⟨te,Z,I⟩:=hG.es;refine Calls.mono (strconv_Atoi_syntax ⟨l.toArray⟩ oo (show Lib.atoiAll l=Lib.atoiAll [] from h) _ w0 I<|.inr ⟨_,_,rfl⟩) ?_;rintro e w' ⟨N,rfl,_,_,D⟩;exact⟨_,rfl,_,_,true,rfl,.inr ⟨⟨_,_,rfl⟩,rfl⟩,by simp[u5y,h],Fr.of_below D⟩;obtain⟨te,Z,I⟩:=hG.er;refine Calls.mono (strconv_Atoi_range ⟨l.toArray⟩ oo (by simpa using h) _ w0 I<|.inr ⟨_,_,rfl⟩) ?_;rintro e w' ⟨N,rfl,_,_,D⟩;exact⟨_,rfl,_,_,true,rfl,.inr ⟨⟨_,_,rfl⟩,rfl⟩,by simp[u5y,h],Fr.of_below D⟩
theorem u1y (l D:List UInt8)(w0:World)(hG:Glob w0)(hl:l.length<4294967281)(h1:1<=D.length):Rets prog 141 #[S l,S D] w0 λr w'=>Lw.Own Enc.str 9 w0.heap.size w' r (Lib.split l D)/\Fr [] w0 w':=by
 obtain⟨k,hk⟩:=hG.ml;have hs:(⟨l.toArray⟩:ByteArray).size=l.length:=by simp[ByteArray.size]
 have a0:(⟨D.toArray⟩:ByteArray).size=D.length:=by simp[ByteArray.size]
 refine Calls.mono (strings_Split ⟨l.toArray⟩ ⟨D.toArray⟩ k w0 oo hk oo) ?_;rintro e w' ⟨rfl,rfl⟩;have hd:=Lib.splitB_data ⟨D.toArray⟩ 0 (Lib.countB ⟨l.toArray⟩ ⟨D.toArray⟩) ⟨l.toArray⟩;have hc:Lib.countB ⟨l.toArray⟩ ⟨D.toArray⟩=Lib.count l D:=by simp[Lib.countB]
 have I:=Lib.splitB_all ⟨D.toArray⟩ oo 0 _ ⟨l.toArray⟩ U;have O:=Lib.countB_le ⟨D.toArray⟩ oo _ ⟨l.toArray⟩<|l20 _;rw[hs]at O;have Z:Lib.split l D=(Lib.splitB ⟨D.toArray⟩ 0 (Lib.countB ⟨l.toArray⟩ ⟨D.toArray⟩) ⟨l.toArray⟩).map (·.data.toList):=by rw[hd,hc];rfl
 have hz:∀zs:List ByteArray,zs.map Value.string=(zs.map (·.data.toList)).flatMap Enc.str.enc:=λzs=>by
  induction zs with
  | nil=>rfl
  | cons z zs ih=>rw[l32,l32,l36,<-ih];rfl
 refine⟨_,rfl,.inr ⟨w0.heap.size,Lib.countB ⟨l.toArray⟩ ⟨D.toArray⟩+1,_,by rw[Z,l18,I],l20 _,heap_alloc_new w0 _,by rw[Z,l18,I];exact l20 _,t42,?_,?_⟩,Fr.alloc [] w0 _⟩;rw[show Enc.str.sz=1 from U,Nat.mul_one,l126,l18,I];exact l20 _;rw[Z,l18,I,show Enc.str.sz=1 from U,Nat.mul_one,<-hz];exact l82 (by rw[l18,I];exact l20 _)
end Go.Proofs.YtlfdhllfmoplgaaGreatDoor
namespace Go.Lw
theorem y3l {P:Program}{W:World}{n:String}{d:DataW Unit}:∀ {l:List (String×DataW Unit)} {ps:List MemPlace},DataW.LaidVars P W l ps->(n,d)∈l->
    ∃g t cs D p,P.globalNamed n=some g/\(P.globals[g]?).map (·.type)=some t/\W.var? P n=some cs/\DataW.trod (λ_=>()) P W 0 (λ_=>true) false D t cs.toList=some (d,p)
  | [],_,_,I=>by simp at I
  | (m,e)::r,ps,h,I=>by
    obtain⟨g,t,cs,D,p,q,e1,e2,O,Z,hr,_⟩:=h
    rcases l55.1 I with e|I
    · cases e;exact⟨g,t,cs,D,p,e1,e2,O,Z⟩
    · exact y3l hr I
theorem x1w {H:Type}{enc:TypeId×Value->H}{P:Program}{w:World}{base:Nat}{sp:Nat->Bool}{O:Bool}{D:Nat}{t e:TypeId}{n:Nat}{cs:List Value}{zs:List (List UInt8)}{p:List MemPlace}
    (ht:P.underlying t=some (.array n e)) (he:P.underlying e=some .string) (hce:P.cellsOf e=1) (hct:P.cellsOf t=n)
    (h:DataW.trod enc P w base sp O D t cs=some (.agg<|zs.map λz=>.lit<|.string z,p)):cs=zs.map S:=by
  cases D with
  | zero=>simp[DataW.trod]at h
  | succ D=>
    simp only[DataW.trod,ht,hce,hct,Nat.mul_one]at h
    split at h
    · rename_i hl
      obtain⟨xs,hm,hx⟩:=Option.map_eq_some_iff.1 h
      have Z:xs.map (·.1)=zs.map λz=>(DataW.lit (.string z):DataW H):=by
        have:=congrArg Prod.fst hx
        simpa using this
      have a0:xs.length=n:=by simpa using Lib.mapM_length hm
      have a1:zs.length=n:=by
        have:=congrArg List.length Z
        simp at this
        omega
      apply l59
      intro i
      by_cases hi:i<n
      · obtain⟨b,hb,hf⟩:=Lib.mapM_at hm i i (by simp[hi])
        obtain⟨s,hc,h2,_⟩:=DataW.trod_string he hf
        have h1:cs[i]?=some (.string s):=by
          have:=congrArg (·[0]?) hc
          simpa[l51,l94] using this
        have h3:(xs.map (·.1))[i]?=some b.1:=by simp[hb]
        rw[Z,l24,Option.map_eq_some_iff]at h3
        obtain⟨z,hz,I⟩:=h3
        rw[h2]at I
        simp only[DataW.lit.injEq,Lit.string.injEq]at I
        rw[h1,l24,hz,I]
        simp[S]
      · rw[l30 oo,l30 so]
    · cases h
theorem u4l {H:Type}{enc:TypeId×Value->H}{P:Program}{w:World}{base:Nat}{sp:Nat->Bool}{I:Bool}{D:Nat}{t:TypeId}{ms}{cs:List Value}{nm:String}{d:DataW H}{p:List MemPlace}
    (ht:P.underlying t=some (.interface ms)) (h:DataW.trod enc P w base sp I D t cs=some (.iface nm d,p)):∃u v,cs=[.iface u v]:=by
  cases D with
  | zero=>simp[DataW.trod]at h
  | succ D=>
    simp only[DataW.trod,ht]at h
    split at h<;>simp_all
theorem j9o {P:Program}{W:World}{n:String}{g:Nat}{cs:Array Value}(I:P.globalNamed n=some g)(h:W.var? P n=some cs):g<W.heap.size:=by
 unfold World.var? at h;simp only[I,Option.bind_some]at h;rcases l110 g W.heap.size with D|D
 exact D;rw[l96 D]at h;simp at h
end Go.Lw
namespace Go.Proofs.YtlfdhllfmoplgaaGreatDoor
open Go.ChangeShapes Go.WideShapes Go.ChangeAt Go.RowKit Go.Lw
theorem own:ownKnob Tryz.prog.godebug=none:=kr
theorem j4y:laidOutB Tryz.prog=true:=kr
def y4r:List (String×DataW Unit):=[("math/bits.deBruijn32tab",Rows.laid_math_bits_deBruijn32tab),("math/bits.deBruijn64tab",Rows.laid_math_bits_deBruijn64tab),("internal/strconv.uint64pow10",Rows.laid_internal_strconv_uint64pow10),("unicode/utf8.acceptRanges",Rows.laid_unicode_utf8_acceptRanges),("strconv.ErrRange",Rows.laid_strconv_ErrRange),("strconv.ErrSyntax",Rows.laid_strconv_ErrSyntax),("gansey/orders.steps",Rows.laid_gansey_orders_steps),("gansey/operations.words",Rows.laid_gansey_operations_words),("gansey/operations.dirs",Rows.laid_gansey_operations_dirs),("unicode/utf8.first",Rows.laid_unicode_utf8_first)]
theorem v9o {n:String}{zs:List (List UInt8)}{W:World}{l:List (String×DataW Unit)}{ps:List MemPlace}{g t m:Nat}(hL:DataW.LaidVars Tryz.prog W l ps)(hm:(n,.agg<|zs.map λz=>.lit<|.string z)∈l)(ht:Tryz.prog.underlying t=some (.array m 9))(Z:Tryz.prog.globalNamed n=some g:=by kernel_rfl)(I:(Tryz.prog.globals[g]?).map (·.type)=some t:=by kernel_rfl)(D:Tryz.prog.cellsOf t=m:=by kernel_rfl):Cells W ⟨g,0,none⟩ (zs.map S):=by
 obtain⟨g',t',cs,O,p,e1,e2,e3,e4⟩:=y3l hL hm;cases Z.symm.trans e1;cases I.symm.trans e2;have hc:=x1w ht Tryz.underlying9 kr D e4;intro j u hu;rw[z5h,l71,World.var?_cell Z e3 j,<-l42,hc];exact hu
theorem u7p {n nm:String}{d:DataW Unit}{W:World}{l:List (String×DataW Unit)}{ps:List MemPlace}{g:Nat}(hL:DataW.LaidVars Tryz.prog W l ps)(hm:(n,.iface nm d)∈l)(O:Tryz.prog.globalNamed n=some g)(D:(Tryz.prog.globals[g]?).map (·.type)=some 297):∃te pe,W.cell? ⟨g,0,none⟩=some (.iface te pe):=by
 obtain⟨g',t',cs,I,p,e1,e2,Z,e4⟩:=y3l hL hm;cases O.symm.trans e1;cases D.symm.trans e2;obtain⟨u,v,hc⟩:=u4l Tryz.underlying297 e4;exact⟨u,v,by rw[World.var?_cell O Z 0,<-l42,hc];rfl⟩
theorem j6f {W:World}(h:laidMetH Tryz.prog y4r W)(Z:W.ShapedOpen Tryz.prog):Glob W:=by
 have h':laidMet Tryz.prog y4r W:=h;obtain⟨ps,D,_,_⟩:=h';refine⟨?_,?_,(Go.Proofs.cell_of_shapedOpen_int (zero:=#[.int .i64 0]) (t:=3) Z (of_decide_eq_true kr) kr U kr kr Tryz.underlying3),?_,?_,?_,?_⟩;exact v9o (zs:=z9e) (n:= "gansey/operations.words") (t:=271) (m:=9) D (by simp[y4r];rfl) Tryz.underlying271;exact v9o (zs:=x2j) (n:= "gansey/operations.dirs") (t:=277) (m:=2) D (by simp[y4r];rfl) Tryz.underlying277;obtain⟨g',t',cs,I,p,e1,e2,O,e4⟩:=y3l (n:= "internal/strconv.uint64pow10") (d:=Rows.laid_internal_strconv_uint64pow10) D (by simp[y4r]);cases gPow.symm.trans e1;cases (show (Tryz.prog.globals[8]?).map (·.type)=some 345 by kernel_rfl).symm.trans e2;unfold Lib.TabIs;rw[O];have:=Lib.cells_of_tab (zs:=Lib.pow10Tab) Tryz.underlying345 Tryz.underlying264 kr kr e4;rw[<-this];exact u7p (n:= "strconv.ErrSyntax") D (by unfold y4r;simp only[Rows.laid_strconv_ErrSyntax];simp;exact⟨rfl,rfl⟩) kr kr;exact u7p (n:= "strconv.ErrRange") D (by unfold y4r;simp only[Rows.laid_strconv_ErrRange];simp;exact⟨rfl,rfl⟩) kr kr;obtain⟨g',t',cs,I,p,e1,e2,O,e4⟩:=y3l (n:= "math/bits.deBruijn64tab") (d:=Rows.laid_math_bits_deBruijn64tab) D (by simp[y4r]);have:=j9o (show Tryz.prog.globalNamed "math/bits.deBruijn64tab" =some 10 by kernel_rfl) O;omega
theorem j7k {W:World}(h:laidMetH Tryz.prog y4r W):StT W:=by
 have h':laidMet Tryz.prog y4r W:=h;obtain⟨ps,hL,_,_⟩:=h';obtain⟨g',t',cs,D,p,e1,e2,O,Z⟩:=y3l (n:= "gansey/orders.steps") (d:=Rows.laid_gansey_orders_steps) hL (by simp[y4r]);have I:Tryz.prog.globalNamed "gansey/orders.steps" =some 0:=by kernel_rfl
 cases I.symm.trans e1;cases (show (Tryz.prog.globals[0]?).map (·.type)=some 226 by kernel_rfl).symm.trans e2;have hc:=Lib.cells_of_tab (zs:=[-1,1]) Tryz.underlying226 Tryz.underlying3 kr kr Z;constructor;intro j u hu;rw[z5h,l71,World.var?_cell I O j,<-l42,hc];exact hu
def k2j:List (String×DataW Unit):=y4r.filter λp=>match p.2 with|.iface _ _=>false|_=>true
noncomputable def witP (os:Os):World:=k4w Tryz.prog os k2j
theorem k6a {n:Int}(h:(Lit.int .u8 n).wf=true):0<=n/\n<=255:=by
 have D:IntKind.u8.min<=n/\n<=IntKind.u8.max:=by simpa[Lit.wf] using h
 exact D
noncomputable def u7u (w:World)(g:Nat)(s:List UInt8):World:=layW (w.alloc<|.cells #[.string ⟨s.toArray⟩] 351) g #[.iface 349 (.pointer<|some ⟨w.heap.size,0,none⟩)]
noncomputable def k5y (os:Os):World:=u7u (u7u (witP os) 5 [118,97,108,117,101,32,111,117,116,32,111,102,32,114,97,110,103,101]) 4 [105,110,118,97,108,105,100,32,115,121,110,116,97,120]
open Go.Lw
def encL:Enc (SV×SV):=⟨λp=>[slv p.1,slv p.2],2,λ_=>rfl,λ_ u h=>by simp [slv] at h;rcases h with rfl|rfl<;>rfl,dd⟩
theorem j5h {cs:List Value}(h:cs.length=2):∃D I,cs=[D,I]:=match cs,h with|[D,I],_=>⟨D,I,rfl⟩
theorem opL:y6b Tryz.prog 53 encL (λw y=>SlR Enc.b (λ_ _=>True) w y.1/\SlR Enc.b (λ_ _=>True) w y.2):=by
 intro H enc w base sp D a0 cs x h;obtain⟨xs,n,_,_,hl,I,hf⟩:=DataW.trod_struct Tryz.underlying53 h;rw[show Tryz.prog.cellsOf 53=2 by kernel_rfl]at hl;obtain⟨O,Z,rfl⟩:=j5h hl;have h0:DataW.trod enc Tryz.prog w base sp D n 51 (([O,Z].drop 0).take<|Tryz.prog.cellsOf 51)=xs[0]?:=hf 0 _ U;rw[show Tryz.prog.cellsOf 51=1 by kernel_rfl]at h0;obtain⟨y0,e0,r0⟩:=z3w (cs:=[O]) h0 I dd<|y5q Tryz.underlying51 kr<|v7k Tryz.underlying5;have h1:DataW.trod enc Tryz.prog w base sp D n 51 (([O,Z].drop 1).take<|Tryz.prog.cellsOf 51)=xs[1]?:=hf 1 _ U;rw[show Tryz.prog.cellsOf 51=1 by kernel_rfl]at h1;obtain⟨y1,e1,r1⟩:=z3w (cs:=[Z]) h1 I dd<|y5q Tryz.underlying51 kr<|v7k Tryz.underlying5;cases e0;cases e1;exact⟨(y0,y1),rfl,⟨r0,r1⟩⟩
def k5d:Enc (Int×Int):=⟨λp=>[.int .u8 p.1,.int .i64 p.2],2,λ_=>rfl,λ_ u h=>by simp at h;rcases h with rfl|rfl<;>rfl,dd⟩
def _root_.Go.Lw.MOp.Rng (o:MOp):Prop:=(0<=o.k/\o.k<=255)/\(0<=o.d/\o.d<=255)/\(0<=o.b/\o.b<=255)/\(-9223372036854775808<=o.p/\o.p<=9223372036854775807)/\(0<=o.y/\o.y<=255)/\(-9223372036854775808<=o.r/\o.r<=9223372036854775807)
theorem u4y {cs:List Value}(h:cs.length=2):∃D I,cs=[D,I]:=match cs,h with|[D,I],_=>⟨D,I,rfl⟩
theorem opNd:y6b Tryz.prog 42 k5d (λ_ s=>(0<=s.1/\s.1<=255)/\(-9223372036854775808<=s.2/\s.2<=9223372036854775807)):=by
 intro H enc w base sp D a0 cs x h;obtain⟨xs,n,_,_,hl,I,hf⟩:=DataW.trod_struct Tryz.underlying42 h;rw[show Tryz.prog.cellsOf 42=2 by kernel_rfl]at hl;obtain⟨O,Z,rfl⟩:=u4y hl;have h0:DataW.trod enc Tryz.prog w base sp D n 40 (([O,Z].drop 0).take<|Tryz.prog.cellsOf 40)=xs[0]?:=hf 0 _ U;rw[show Tryz.prog.cellsOf 40=1 by kernel_rfl]at h0;obtain⟨y0,e0,r0⟩:=z3w (cs:=[O]) h0 I dd<|y2p Tryz.underlying40;have h1:DataW.trod enc Tryz.prog w base sp D n 3 (([O,Z].drop 1).take<|Tryz.prog.cellsOf 3)=xs[1]?:=hf 1 _ U;rw[show Tryz.prog.cellsOf 3=1 by kernel_rfl]at h1;obtain⟨y1,e1,r1⟩:=z3w (cs:=[Z]) h1 I dd<|x4v Tryz.underlying3;cases e0;cases e1;exact⟨(y0,y1),rfl,⟨r0,r1⟩⟩
theorem u2e {cs:List Value}(h:cs.length=6):∃D I c2 c3 c4 c5,cs=[D,I,c2,c3,c4,c5]:=match cs,h with|[D,I,c2,c3,c4,c5],_=>⟨D,I,c2,c3,c4,c5,rfl⟩
theorem opOp:y6b Tryz.prog 44 z3d (λ_ s=>s.Rng):=by
 intro H enc w base sp D a0 cs x h;obtain⟨xs,n,_,_,hl,I,hf⟩:=DataW.trod_struct Tryz.underlying44 h;rw[show Tryz.prog.cellsOf 44=6 by kernel_rfl]at hl;obtain⟨O,Z,c2,c3,c4,c5,rfl⟩:=u2e hl;have h0:DataW.trod enc Tryz.prog w base sp D n 38 (([O,Z,c2,c3,c4,c5].drop 0).take<|Tryz.prog.cellsOf 38)=xs[0]?:=hf 0 _ U;rw[show Tryz.prog.cellsOf 38=1 by kernel_rfl]at h0;obtain⟨y0,e0,r0⟩:=z3w (cs:=[O]) h0 I dd<|y2p Tryz.underlying38;have h1:DataW.trod enc Tryz.prog w base sp D n 39 (([O,Z,c2,c3,c4,c5].drop 1).take<|Tryz.prog.cellsOf 39)=xs[1]?:=hf 1 _ U;rw[show Tryz.prog.cellsOf 39=1 by kernel_rfl]at h1;obtain⟨y1,e1,r1⟩:=z3w (cs:=[Z]) h1 I dd<|y2p Tryz.underlying39;have h2:DataW.trod enc Tryz.prog w base sp D n 42 (([O,Z,c2,c3,c4,c5].drop 2).take<|Tryz.prog.cellsOf 42)=xs[2]?:=hf 2 _ U;rw[show Tryz.prog.cellsOf 42=2 by kernel_rfl]at h2;obtain⟨y2,e2,r2⟩:=z3w (cs:=[c2,c3]) h2 I dd opNd;have h3:DataW.trod enc Tryz.prog w base sp D n 5 (([O,Z,c2,c3,c4,c5].drop 4).take<|Tryz.prog.cellsOf 5)=xs[3]?:=hf 3 _ U;rw[show Tryz.prog.cellsOf 5=1 by kernel_rfl]at h3;obtain⟨y3,e3,r3⟩:=z3w (cs:=[c4]) h3 I dd<|y2p Tryz.underlying5;have h4:DataW.trod enc Tryz.prog w base sp D n 3 (([O,Z,c2,c3,c4,c5].drop 5).take<|Tryz.prog.cellsOf 3)=xs[4]?:=hf 4 _ U;rw[show Tryz.prog.cellsOf 3=1 by kernel_rfl]at h4;obtain⟨y4,e4,r4⟩:=z3w (cs:=[c5]) h4 I dd<|x4v Tryz.underlying3;cases e0;cases e1;cases e2;cases e3;cases e4;exact⟨⟨y0,y1,y2.1,y2.2,y3,y4⟩,rfl,⟨r0,r1,r2.1,r2.2,r3,r4⟩⟩
open Go.Lw _root_.Go.Proofs.Tryz
theorem y4a:ElemOf prog 88 9 Enc.str 16:=ElemOf.mk' (z:=(.string ⟨#[]⟩)) underlying88 kr U
theorem na9:z2d prog 9:=λ_=>kr
theorem sz9:z1r prog 9 1:=λ_=>kr
theorem y2q (l:List UInt8)(w0:World)(hG:Glob w0)(hl:l.length<=1000000):Rets prog 188 #[S l] w0 λv w'=>v=.int .i64 (u5y l)/\Fr [] w0 w':=by
 have Z:=hG.sz;refine we [(0,S l)] func188 U ntmps188 U (.cons U .nil)<|sr<|asg U<|nn<|sr<|mv U U<|cl (ev1 U) (mkC func219) (j1t _ _ hG oo) U ?_;rintro _ w1 ⟨n,e,b,rfl,hb,I,O⟩;refine mv U U<|xt U<|xt U<|asg U<|asg U<|kpL (ll2 3 4) (csu U)<|nn<|sq<|sr<|mv U U<|j0g U underlying297 hb U<|nn<|cd U (λD=>?_)<|λD=>?_;exact sr<|asg U<|nn<|rt<|tr<|r1 results188 U ⟨_,rfl,by simp[I,D],O⟩;exact sk<|tn<|sr<|mv U U<|asg U<|nn<|rt<|r1 results188 U ⟨_,rfl,by simp[I,D],O⟩
theorem u9i (l:List UInt8)(w0:World)(hG:Glob w0):Rets prog 189 #[S l] w0 λv w'=>v=.int .u8 (k2k l)/\Fr [] w0 w':=by
 have I:=hG.sz;refine we [(0,S l)] func189 U ntmps189 U (.cons U .nil)<|sr<|asg U<|nn<|sq<|sr<|mv U U<|z9y U U underlying277 sz9<|y1k U hG.dr U na9 U<|j9r U U U<|nn<|cd U (λD=>?_)<|λD=>?_;exact sr<|asg U<|nn<|rt<|tr<|r1 results189 U ⟨_,rfl,by rw[k2k,if_pos D],(l12 _ _)⟩;exact sk<|tn<|sr<|asg U<|nn<|rt<|r1 results189 U ⟨_,rfl,by rw[k2k,if_neg D],(l12 _ _)⟩
theorem j3a (o:MOp)(w0:World)(hG:Glob w0):Rets prog 142 #[opV o] w0 λv w'=>v=S (k0c o)/\Fr [] w0 w':=by
 have f3:=hG.sz;refine we [(0,opV o)] func142 U ntmps142 U (.cons U .nil)<|sr<|bx U<|λg1 w1 f4 I q1 z1=>(asg U<|nn<|sq<|sr<|z0k U I y2a<|cl (ev1 U) j6q (y0u o _) U ?_);rintro _ w2 ⟨rfl,q2⟩;have z2:=q2.size;refine ne' U<|nn<|cd U (λc0=>?_)<|λc0=>?_;refine sr<|asg U<|nn<|rt<|tr<|r1 results142 U ?_;exact⟨_,rfl,by rw[k0c,if_pos c0]<;>rfl,(q1.n1 q2)⟩;have hr:=v7o<|l16.1 c0;refine sk<|tn<|sr<|fad U z4j ?_;have I:=I.ext q2;refine z0j U I U na5<|z3v U (us underlying5) underlying3 (wi6 oo) ?_;have hG:=hG.ext<|q1.n1 q2;refine cl (ev1 U) (mkC func192) (x1s _ _ hG oo) U ?_;rintro _ w3 ⟨rfl,q3⟩;have z3:=q3.size;refine asg U<|nn<|sr<|fad U z7e ?_;have I:=I.ext q3;refine z0j U I U x9e<|z9y U U underlying271 sz9 ?_;have hG:=hG.ext q3;refine y1k U hG.wd (u1b oo) na9 U<|z1i ([z8n o.k]) (ev1 U) U y4a<|λO w4 e4 D q4 z4=>(asg U ?_);have D:=D.low (show w0.heap.size<=O by omega);refine nn<|jn (ι:=Value) [] (λv4=>[(4,v4)]) (λv4 w'=>Fr [O] w4 w'/\Lw.Own Enc.str 9 w0.heap.size w' v4 (z8n o.k::y4o o)) .nil ?_ ?_;refine sr<|fad U z7e ?_;have I:=I.ext q4;refine z0j U I U x9e<|nn<|bl<|sr<|eq' U<|asg U<|nn<|cd U (λc1=>?_)<|λc1=>?_;refine rg<|mv U U<|mv U U<|fad U z9g<|z0j U I U x2d<|z9y U U underlying277 sz9 ?_;have hG:=hG.ext q4;refine y1k U hG.dr (x8t oo) na9 U<|z1i ([x7z o.y,j4v o.d]) (ev2 U) U y4a<|λe9 w5 e5 b2 q5 z5=>?_;have D:=D.ext q5;refine z2k (base:=w0.heap.size) U D b2.sl y4a (λf6 w6 a1 q6 d5=>?_) (hM:=t57) (hb:=se);replace q6:Fr [O] _ _:=q6;have z6:=q6.size;exact asg U<|kpL (ll1 4) (csu U)<|nl<|bn'<|jE (_) (csu U) ⟨((l12 [O] _).z2 q5 q6),by first|(rw[y4o,if_pos c1];exact a1)|(exfalso;omega)⟩;refine sr<|eq' U<|asg U<|nn<|cd U (λc2=>?_)<|λc2=>?_;refine rg<|mv U U<|mv U U<|z1i ([x7z o.y]) (ev1 U) U y4a<|λf0 w7 e6 b3 q7 z7=>?_;have D:=D.ext q7;refine z2k (base:=w0.heap.size) U D b3.sl y4a (λf7 w8 a1 q8 d6=>?_) (hM:=t57) (hb:=se);replace q8:Fr [O] _ _:=q8;have z8:=q8.size;exact asg U<|kpL (ll1 4) (csu U)<|nl<|bn'<|jE (_) (csu U) ⟨((l12 [O] _).z2 q7 q8),by first|(rw[y4o,if_neg c1,if_pos c2];exact a1)|(exfalso;omega)⟩;refine sr<|eq' U<|asg U<|nn<|cd U (λc3=>?_)<|λc3=>?_;refine rg<|mv U U<|fad U y4e<|z0j U I U na3 ?_;have hG:=hG.ext q4;refine cl (ev1 U) (mkC func192) (x1s _ _ hG oo) U ?_;rintro _ w9 ⟨rfl,q9⟩;have z9:=q9.size;refine z1i ([x7z o.r]) (ev1 U) U y4a<|λf1 g3 e7 b5 b8 h4=>?_;have D:=D.ext<|q9.n1 b8;refine z2k (base:=w0.heap.size) U D b5.sl y4a (λf8 g4 a1 a7 d7=>?_) (hM:=t57) (hb:=se);replace a7:Fr [O] _ _:=a7;have h5:=a7.size;exact asg U<|kpL (ll1 4) (csu U)<|nl<|bn'<|jE (_) (csu U) ⟨((l12 [O] _).z3 q9 b8 a7),by first|(rw[y4o,if_neg c1,if_neg c2,if_pos c3];exact a1)|(exfalso;omega)⟩;refine jn (ι:=Bool) (ll4 1 3 4 18) (λb4=>[(43,.bool b4)]) (λb4 w'=>Fr [] w4 w'/\b4=decide ((o.k=4\/o.k=5)\/o.k=6)) (csu U) ?_ ?_;refine sr<|eq' U<|asg U<|nn<|cd U (λc4=>?_)<|λc4=>?_;exact sk<|jE (_) (csu U) ⟨(l12 _ _),t58⟩;refine sr<|eq' U<|asg U<|nn<|cd U (λc5=>?_)<|λc5=>?_;exact sk<|jE (_) (csu U) ⟨(l12 _ _),t58⟩;exact rg<|eq' U<|asg U<|nl<|jE (_) (csu U) ⟨(l12 _ _),t58⟩;rintro b4 d1 ⟨a2,rfl⟩;have h6:=a2.size;refine kpC (ll5 1 3 4 18 43) (csu U)<|cd U (λc6=>?_)<|λc6=>?_;have hG:=hG.ext<|q4.n1 a2;have I:=I.ext a2;have D:=D.ext a2;intro a h;have a0:=l12 [O] d1;refine z2y (λwb w'=>Fr [O] wb w') z2r ?_;intro d3 Z;have h7:=Z.size;have hG:=hG.ext Z;have I:=I.ext Z;have D:=D.ext Z;have a0:=a0.next Z;have f5:=Z.size;clear Z;have hC:Fr [O] d3 d3:=l12 _ _;have a9:=hG;have a3:=I;have a6:=D;refine z0e 0 h U λa h=>z0c 1 h U z9g U λa h=>z0m 2 h U (λ_ hw=>a3.fr hw se) U x2d U λa h=>j4e 3 kr kr kr hC h wn U U underlying277 sz9 oo oo U U λa h=>u2q 4 kr kr kr hC h wn U (λ_ hw=>(a9.fr hw se).dr) (x8t oo) na9 U U λa h=>z0c 5 h U z5k U λa h=>z1h (vs:=[_,_]) 6 h U (λ_ hw=>(a3.fr hw se)) z5n U U λa h=>z0e 8 h U λa h=>z0d 7 U ?_;refine z0n h (z0a U z0f) (mkC func193) (x0z _ _ _ hG) ?_;rintro _ g5 ⟨rfl,Z⟩ a h;have h8:=Z.size;have hG:=hG.ext Z;have I:=I.ext Z;have D:=D.ext Z;have a0:=a0.next Z;have hC:=hC.next Z;clear Z;refine z0b<|z0d 9 U<|z2b ([j4v o.d,v5k o.b o.p,x7z o.y]) h (z0a U<|z0a U<|z0a U z0f) U y4a λb1 g6 hg a5 Z hz a h=>?_;have d4:g1<b1:=by have:=I.lt;omega
 have h9:=Z.size;have hG:=hG.ext Z;have I:=I.ext Z;have D:=D.ext Z;have a0:=a0.next Z;have hC:=hC.next Z;clear Z;refine z0b<|z0d 10 U ?_;refine z4h (base:=w0.heap.size) h U U D a5.sl y4a se ?_ (hM:=t57);intro f9 g7 a1 Z d9 a h;replace Z:Fr [O] _ _:=Z;have e3:=Z.size;have hG:=hG.fr Z t26;have I:=I.fr Z;have a0:=a0.sp Z;have hC:=hC.sp Z;have a5:=a5.fr Z t26;clear Z;refine z0b<|z0d 11 U<|z0q h U λa h=>?_;refine z0b<|z0p ?_;clear hC a9 a3 a6;have e3:=a0.size;exact bk (h.sub (L':=ll1 4)<|csu U)<|bn'<|jE (_) (csu U) ⟨((l12 [O] _).z2 a2 a0),by first|(rw[y4o,if_neg c1,if_neg c2,if_neg c3,if_pos c6];exact a1)|(exfalso;omega)⟩;refine jn (ι:=Bool) (ll2 1 4) (λb7=>[(58,.bool b7)]) (λb7 w'=>Fr [] d1 w'/\b7=decide (o.k=7\/o.k=8)) (csu U) ?_ ?_;refine sr<|eq' U<|asg U<|nn<|cd U (λc7=>?_)<|λc7=>?_;exact sk<|jE (_) (csu U) ⟨(l12 _ _),t58⟩;exact rg<|eq' U<|asg U<|nl<|jE (_) (csu U) ⟨(l12 _ _),t58⟩;rintro b7 g8 ⟨a4,rfl⟩;have i0:=a4.size;refine kpC (ll3 1 4 58) (csu U)<|cd U (λc8=>?_)<|λc8=>?_;refine rg<|mv U U<|fad U z5k ?_;have I:=I.ext<|a2.n1 a4;refine z1v (vs:=[_,_]) U I z5n U ?_;have hG:=hG.ext<|q4.n2 a2 a4;refine cl (ev1 U) (mkC func193) (x0z _ _ _ hG) U ?_;rintro _ g9 ⟨rfl,b0⟩;have i1:=b0.size;refine z1i ([v5k o.b o.p]) (ev1 U) U y4a<|λf2 h0 e8 b6 b9 i2=>?_;have D:=D.ext<|a2.n3 a4 b0 b9;refine z2k (base:=w0.heap.size) U D b6.sl y4a (λg0 h1 a1 a8 e0=>?_) (hM:=t57) (hb:=se);replace a8:Fr [O] _ _:=a8;have i3:=a8.size;exact asg U<|kpL (ll1 4) (csu U)<|nl<|bn'<|jE (_) (csu U) ⟨((l12 [O] _).z5 a2 a4 b0 b9 a8),by first|(rw[y4o,if_neg c1,if_neg c2,if_neg c3,if_neg c6,if_pos c8];exact a1)|(exfalso;omega)⟩;exact sk<|bn'<|jE (_) (csu U) ⟨((l12 [O] _).n2 a2 a4),by first|(rw[y4o,if_neg c1,if_neg c2,if_neg c3,if_neg c6,if_neg c8];exact a1)|(exfalso;omega)⟩;rintro v4 h2 ⟨c9,a1⟩;have i4:=c9.size;refine kpC (ll1 4) (csu U)<|sr<|mv U U<|cl (ev2 U) (mkC func194) (u3m _ _ _ _ _ _ a1 sp0 (by have:=u7c o<|l16.1 c0;omega) (by have:=j9p o;simp;omega)) U ?_;rintro _ h3 ⟨rfl,d0⟩;have i5:=d0.size;exact asg U<|nn<|rt<|r1 results142 U ⟨_,rfl,by rw[k0c,if_neg c0],(q1.z5 q2 q3 q4 c9 d0)⟩
theorem y4i:ElemOf prog 51 5 Enc.b 1:=ElemOf.mk' (z:=(.int .u8 0)) underlying51 kr U
theorem k6g:z1r prog 40 1:=λ_=>kr
theorem x2g (l:List UInt8)(w0:World)(hG:Glob w0)(hl:l.length<=1000000):Rets prog 190 #[S l] w0 λv w'=>∃e,v=.tuple #[.agg #[.int .u8 (x5s l).1,.int .i64 (x5s l).2],e]/\Fr [] w0 w':=by
 have b7:=hG.sz;refine we [(0,S l)] func190 U ntmps190 U (.cons U .nil)<|sr<|al x9o U<|λg2 w1 b9 I q1 z1=>(asg U<|nn<|sq<|sq<|rbo (r:=14) (L':=ll2 0 2) ((((l.length:Int)<2)\/(3<(l.length:Int)))) (csu U) ?_ ?_);refine mv U U<|ln U underlying9 U<|lt' U<|mv U U<|gs 10 U (λg0=>?_)<|λg0=>?_;exact gN U<|gN U<|gN U<|pkt U<|rbe U<|csu U;exact gY U<|mv U U<|gY U<|ln U underlying9 U<|gY U<|gt' U<|pkf U<|rbe U<|csu U;refine tn<|cd U (λc0=>?_)<|λc0=>?_;refine sr<|z1u (cs:=[_,_]) z0f y7p z0r U<|z0i U I y4h (λw2 I q2 z2=>?_) (hl:=rfl);exact asg U<|nn<|rt<|tr<|rCT results190 U I z5n U ⟨_,rfl,_,by rw[show x5s l=(0,0) from by rw[x5s,if_pos c0]],(q1.z1 q2)⟩;refine sk<|tn<|sr<|z1u (cs:=[_,_]) z0f y7p z0r U<|al x9o U<|λg4 w3 c9 D q3 z3=>?_;refine z0i U D y4h (λw4 D q4 z4=>?_) (hl:=rfl);refine nn<|jn (ι:=Int) (ll3 0 2 4) (λb=>[]) (λb w'=>Fr [g4] w4 w'/\j6r l=some b/\(b=0\/b=1)/\Blk w' g4 42 [.int .u8 b,.int .i64 0]) (csu U) ?_ ?_;refine sr<|mv U U<|u0b (p:=0) U U underlying9 oo oo U U<|λb4=>(nn<|bl<|sr<|eq' U<|asg U<|nn<|cd U (λc1=>?_)<|λc1=>?_);refine rg<|fad U z6s<|z3j U D U k6g<|λw5 D q5 z5=>?_;replace D:Blk w5 g4 _ [_,_]:=D;exact nl<|bn'<|jE (_) (csu U) ⟨((l12 [g4] _).z1 q5),⟨by rw[j6r,if_pos c1],oo,D⟩⟩;skip;refine sr<|eq' U<|asg U<|nn<|cd U (λc2=>?_)<|λc2=>?_;refine rg<|fad U z6s<|z3j U D U k6g<|λw6 D q6 z6=>?_;replace D:Blk w6 g4 _ [_,_]:=D;exact nl<|bn'<|jE (_) (csu U) ⟨((l12 [g4] _).z1 q6),⟨by rw[j6r,if_neg c1,if_pos c2],oo,D⟩⟩;refine sr<|z1u (cs:=[_,_]) z0f y7p z0r U ?_;have I:=(I.ext q3).fr q4;refine z0i U I y4h (λw7 I q7 z7=>?_) (hl:=rfl);exact asg U<|nn<|rt<|rb<|tr<|rCT results190 U I z5n U ⟨_,rfl,_,by rw[show x5s l=(0,0) from by rw[x5s,if_neg c0,show j6r l=none from by rw[j6r,if_neg c1,if_neg c2]]],(q1.z3 q3 q4 q7)⟩;rintro b w8 ⟨q8,⟨a3,b2,D⟩⟩;have a2:=D.lt;refine kpC (ll3 0 2 4) (csu U) ?_;have b8:(l.drop 1).length=l.length-1:=l35;refine sq<|sr<|mv U U<|j9z (p:=1) U U underlying9 oo oo U U<|k6q U underlying9 underlying51 underlying5 (by unfold maxLen;simp;omega) U<|λb6 b5 w9 b3 a0 q9 z9=>?_;refine lnS U underlying51<|mv U U<|nn<|bl ?_;have D:=D.ext q9;refine lpK (ι:=Nat) (ll5 0 2 4 28 29) (λi=>[(30,.int .i64 (i:Int))]) (λi w'=>Fr [g4] w9 w'/\i<=(l.drop 1).length/\((l.drop 1).take i).all u1o=true/\Blk w' g4 42 [.int .u8 b,.int .i64 (y6j<|(l.drop 1).take i)]) (λi=>(l.drop 1).length-i) 0 (csu U) ⟨l12 _ _,⟨oo,rfl,D⟩⟩ ?_;rintro i d1 ⟨Z,⟨hi,O,D⟩⟩;have a2:=D.lt;refine kpC (ll6 0 2 4 28 29 30) (csu U)<|sr<|lt' U<|nn<|sq<|cd U (λc3=>?_)<|λc3=>?_;have d0:=x9m<|(l.drop 1).getD i 0;refine sk<|tn<|sq<|bl<|sr ?_;have a0:=a0.fr Z t26;refine z1b (p:=i) (0) U a0 U y4i oo<|λb1 a4=>(z1c U (a4 _ a0) na5<|asg U<|nn<|sq<|sq<|rbo (r:=39) (L':=ll7 0 2 4 6 28 29 30) ((((((l.drop 1).getD i 0).toNat:Int)<48)\/(57<(((l.drop 1).getD i 0).toNat:Int)))) (csu U) ?_ ?_);refine mv U U<|lt' U<|mv U U<|gs 36 U (λg1=>?_)<|λg1=>?_;exact gN U<|gN U<|pkt U<|rbe U<|csu U;exact gY U<|mv U U<|gY U<|gt' U<|pkf U<|rbe U<|csu U;refine tn<|cd U (λc4=>?_)<|λc4=>?_;refine sr<|z1u (cs:=[_,_]) z0f y7p z0r U ?_;have I:=((((I.ext q3).fr q4).fr q8).ext q9).fr Z;refine z0i U I y4h (λd3 I a6 d7=>?_) (hl:=rfl);exact asg U<|kpL (ll2 2 3) (csu U)<|nn<|rt<|tr<|rb<|tr<|tr<|rb<|tr<|rCT results190 U I z5n U ⟨_,rfl,_,by rw[show x5s l=(0,0) from by rw[x5s,if_neg c0,a3];simp only;rw[if_pos (j3m _ i oo oo)]],(q1.z6 q3 q4 q8 q9 Z a6)⟩;have a5:=x3n O so;refine sk<|tn<|rg<|fad U z6r<|z0j U D U na3<|y9m U U (wi6 oo)<|mv U U<|z2j U (wi8 oo)<|z3v U (us underlying5) underlying3 (wi6 oo)<|z0v U (wi6 oo)<|fad U z6r<|z3j U D U sz3<|λb0 D a7 d9=>?_;replace D:Blk b0 g4 _ [_,_]:=D;exact kpL (ll6 0 2 4 28 29 30) (csu U)<|nl<|bn'<|tn<|rg<|z0v U (wi6 oo)<|mv U U<|nl<|lpE (i+1) (csu U) ⟨((l12 [g4] _).z2 Z a7),⟨oo,u6m _ _ oo O oo,by rw[v2i _ _ oo];exact D⟩⟩ oo;obtain rfl:i=(l.drop 1).length:=by omega
 rw[l39]at O D;have a5:=x3n O oo;refine ex<|te<|te<|xh<|tn<|sq<|sr<|z0k U D z5n ?_;have hG:=((((hG.ext<|q1.n1 q3).fr q4 (by first|exact z9l hG oo|simp[z0u]<;>omega)).fr q8 (by first|exact z9l hG oo|simp[z0u]<;>omega)).ext q9).fr Z (by first|exact z9l hG oo|simp[z0u]<;>omega);refine cl (ev1 U) (mkC func193) (x0z _ _ _ hG) U ?_;rintro _ d4 ⟨rfl,a1⟩;refine mv U U<|j8e U U U<|kpL (ll3 2 4 53) (csu U)<|nn<|cd U (λc5=>?_)<|λc5=>?_;refine sr<|z1u (cs:=[_,_]) z0f y7p z0r U ?_;have I:=(((((I.ext q3).fr q4).fr q8).ext q9).fr Z).ext a1;refine z0i U I y4h (λd5 I a8 e0=>?_) (hl:=rfl);exact asg U<|nn<|rt<|tr<|rCT results190 U I z5n U ⟨_,rfl,_,by rw[show x5s l=(0,0) from by rw[x5s,if_neg c0,a3];simp only;rw[if_neg (by rw[O];exact λe=>Bool.noConfusion e),if_pos c5]],((q1.z6 q3 q4 q8 q9 Z a1).z1 a8)⟩;refine sk<|tn<|sr ?_;have D:=D.ext a1;refine z0k U D z5n ?_;have I:=(((((I.ext q3).fr q4).fr q8).ext q9).fr Z).ext a1;refine z0i U I y4h (λd6 I a9 e3=>?_) (hl:=rfl);exact asg U<|nn<|rt<|rCT results190 U I z5n U ⟨_,rfl,_,by rw[show x5s l=(b,y6j<|l.drop 1) from by rw[x5s,if_neg c0,a3];simp only;rw[if_neg (by rw[O];exact λe=>Bool.noConfusion e),if_neg c5]],((q1.z6 q3 q4 q8 q9 Z a1).z1 a9)⟩
theorem k3u:z3y prog 271 9:=⟨λ_=>kr,λ_=>kr⟩
theorem v5n:BuildAt prog 44 [(0,1),(1,1),(2,2),(4,1),(5,1)] [(.int .u8 0),(.int .u8 0),(.int .u8 0),(.int .i64 0),(.int .u8 0),(.int .i64 0)]:=BuildAt.struct underlying44 (λ_=>kr)<|λ_=>kr
theorem sz5:z1r prog 5 1:=λ_=>kr
theorem sz38:z1r prog 38 1:=λ_=>kr
theorem fld0 (f:F4)(w:World):(Instr.field 177 (.agg (f4L f).toArray) 0).run prog w=.ok (.bool f.1) w:=kr
theorem fld1 (f:F4)(w:World):(Instr.field 177 (.agg (f4L f).toArray) 1).run prog w=.ok (.bool f.2.1) w:=kr
theorem u2g (v:Value)(ws:List (List UInt8))(w0:World)(hG:Glob w0)(hs:Sl Enc.str w0 v ws)(f2:1<=ws.length)(b1:∀i,(ws.getD i []).length<=1000000):Rets prog 140 #[v] w0 λr w'=>r=opV (z4r ws)/\Fr [] w0 w':=by
 obtain⟨A,c,rfl,hc,hM,hA⟩:=id hs;clear hA;have a0:=hs.blk (by intro e;simp[e]at f2);have h6:=hG.sz;refine we [(0,.slice A ws.length c)] func140 U ntmps140 U (.cons U .nil)<|sr<|al u1r U<|λg2 w1 h7 Z q1 z1=>?_;refine nn<|sr<|z1u (cs:=[_,_,_,_,_,_]) z0f v5n z0r U<|al u1r U<|λg3 w2 h8 I q2 z2=>?_;refine z0i U I v3b (λw3 I q3 z3=>?_) (hl:=rfl);refine nn<|sq<|sr ?_;have hG:=(hG.ext<|q1.n1 q2).fr q3 (by first|exact z9l hG oo|simp[z0u]<;>omega);refine z1q U hG.wd k3u<|mv U U<|nn<|bl<|lpK (ι:=Nat) (ll4 0 2 3 7) (λi=>[(8,.int .i64 (i:Int))]) (λi w'=>Fr [g3] w3 w'/\i<=9/\Blk w' g3 44 [.int .u8 (y7i (ws.getD 0 []) i),.int .u8 0,.int .u8 0,.int .i64 0,.int .u8 0,.int .i64 0]) (λi=>9-i) 0 (csu U) ⟨l12 _ _,⟨oo,I⟩⟩ ?_;rintro i w4 ⟨q4,⟨hi,I⟩⟩;have b6:=I.lt;refine kpC (ll5 0 2 3 7 8) (csu U)<|sr<|lt' U<|nn<|sq<|cd U (λc0=>?_)<|λc0=>?_;refine sk<|tn<|sq<|bl<|sr<|mv U U<|u8s U U underlying271 sz9 na9 (u6z oo) U<|asg U<|asg U<|nn<|sr<|mv U U<|mv U U ?_;have hs:=((hs.ext<|q1.n1 q2).fr q3 (by intro k hk hb;simp at hk;subst hk;have:=a0 _ hb;omega)).fr q4 (by intro k hk hb;simp at hk;subst hk;have:=a0 _ hb;omega);refine z1b (p:=0) ([]) U hs U y4a U<|λg8 c9=>(z1c U (c9 _ hs) na9<|j9r U U U<|nn<|cd U (λc1=>?_)<|λc1=>?_);refine rg<|mv U U<|z3v U (us underlying3) underlying38 (wi8 oo)<|fad U z7e<|z3j U I U sz38<|λw5 I q5 z5=>?_;replace I:Blk w5 g3 _ [_,_,_,_,_,_]:=I;exact nl<|bn'<|tn<|rg<|z0v U (wi6 oo)<|mv U U<|nl<|lpE (i+1) (csu U) ⟨((l12 [g3] _).z2 q4 q5),⟨oo,by first|(rw[y7i,if_pos c1];exact I)|(rw[y7i,if_neg c1];exact I)⟩⟩ oo;exact sk<|bn'<|tn<|rg<|z0v U (wi6 oo)<|mv U U<|nl<|lpE (i+1) (csu U) ⟨((l12 [g3] _).z1 q4),⟨oo,by first|(rw[y7i,if_pos c1];exact I)|(rw[y7i,if_neg c1];exact I)⟩⟩ oo;obtain rfl:i=9:=by omega
 have h9:=x4f (ws.getD 0 []) 9;replace I:Blk w4 g3 44 [.int .u8 (y9v<|ws.getD 0 []),.int .u8 0,.int .u8 0,.int .i64 0,.int .u8 0,.int .i64 0]:=I;refine ex<|te<|te<|xh<|tn<|jn (ι:=Unit) (ll2 2 3) (λ_j=>[]) (λ_j w'=>Fr [g3] w4 w'/\Blk w' g3 44 [.int .u8 (z4r ws).k,.int .u8 (z4r ws).d,.int .u8 (z4r ws).b,.int .i64 (z4r ws).p,.int .u8 (z4r ws).y,.int .i64 (z4r ws).r]) (csu U) ?_ ?_;refine bl<|sq<|rbo (r:=21) (L':=ll3 0 2 3) ((((y9v<|ws.getD 0 [])=1)/\((ws.length:Int)=3))) (csu U) ?_ ?_;refine fad U z7e<|z0j U I U x9e<|eq' U<|mv U U<|gs 25 U (λg0=>?_)<|λg0=>?_;exact gY U<|mv U U<|gY U<|lnS U underlying88<|gY U<|eq' U<|pkt U<|asg U<|rbe U<|csu U;exact gN U<|gN U<|gN U<|pkf U<|asg U<|rbe U<|csu U;refine tn<|cd U (λc2=>?_)<|λc2=>?_;have hG:=hG.fr q4 (by first|exact z9l hG oo|simp[z0u]<;>omega);have hs:=((hs.ext<|q1.n1 q2).fr q3 (by intro k hk hb;simp at hk;subst hk;have:=a0 _ hb;omega)).fr q4 (by intro k hk hb;simp at hk;subst hk;have:=a0 _ hb;omega);have Z:=((Z.ext q2).fr q3).fr q4;intro a h;have a8:=l12 [g3] w4;refine z2y (λwb w'=>Fr [g3] wb w') z2r ?_;intro w6 O;have hG:=hG.ext O;have hs:=hs.ext O;have Z:=Z.ext O;have I:=I.ext O;have a8:=a8.next O;have b9:=O.size;clear O;have hC:Fr [g3] w6 w6:=l12 _ _;have a6:=hG;have a2:=hs;have a3:=Z;have a1:=I;refine z0e 0 h U λa h=>z1e (p:=1) ([]) 1 h U hs U y4a U ?_ (hp:=rfl);intro g9 d0 a h;refine z2g 2 h U (λ_ hw=>d0 _<|a2.fr hw (by intro k hk hb;simp at hk;subst hk;have:=a0 _ hb;omega)) na9 U λa h=>z0e 5 h U λa h=>z1e (p:=2) ([]) 6 h U hs U y4a U ?_ (hp:=rfl);intro h0 d1 a h;refine z2g 7 h U (λ_ hw=>d1 _<|a2.fr hw (by intro k hk hb;simp at hk;subst hk;have:=a0 _ hb;omega)) na9 U λa h=>z0d 3 U<|z0n h (z0a U z0f) (mkC func188) (y2q _ _ hG<|b1 _) ?_;rintro _ w7 ⟨rfl,O⟩ a h;have hG:=hG.ext O;have hs:=hs.ext O;have Z:=Z.ext O;have I:=I.ext O;have a8:=a8.next O;have hC:=hC.next O;clear O;refine z0b<|v4p 4 hC h wn U (by rw[underlying3];rfl) underlying5 t19 U U λa h=>z0c 9 h U z4j U λa h=>z0d 8 U<|z0n h (z0a U z0f) (mkC func189) (u9i _ _ hG) ?_;rintro _ w8 ⟨rfl,O⟩ a h;have hG:=hG.ext O;have hs:=hs.ext O;have Z:=Z.ext O;have I:=I.ext O;have a8:=a8.next O;have hC:=hC.next O;clear O;refine z0b<|z0d 10 U<|z8j h U U I U U U sz5 λw9 a7 O hz a h=>?_;have hG:=hG.fr O t26;have hs:=hs.fr O (by intro k hk hb;simp at hk;subst hk;have:=a0 _ hb;omega);have Z:=Z.fr O;have a8:=a8.sp O;have hC:=hC.sp O;clear I O hz;have I:Blk w9 g3 _ [_,_,_,_,_,_]:=a7;clear a7;refine z0b<|z0c 11 h U z9g U λa h=>z0d 12 U<|z8j h U U I U U U k6l λf7 a7 O hz a h=>?_;have hG:=hG.fr O t26;have hs:=hs.fr O (by intro k hk hb;simp at hk;subst hk;have:=a0 _ hb;omega);have Z:=Z.fr O;have a8:=a8.sp O;have hC:=hC.sp O;clear I O hz;have I:Blk f7 g3 _ [_,_,_,_,_,_]:=a7;clear a7;refine z0b<|z0p ?_;clear hC a6 a2 a3 a1;exact bk (h.sub (L':=ll2 2 3)<|csu U)<|bn'<|jE (()) (csu U) ⟨((l12 [g3] _).z1 a8),by rw[z4r,y6w,if_pos c2];exact I⟩;refine sq<|rbo (r:=41) (L':=ll3 0 2 3) ((((y9v<|ws.getD 0 [])=2)/\((ws.length:Int)=2))) (csu U) ?_ ?_;refine fad U z7e<|z0j U I U x9e<|eq' U<|mv U U<|gs 45 U (λg1=>?_)<|λg1=>?_;exact gY U<|mv U U<|gY U<|lnS U underlying88<|gY U<|eq' U<|pkt U<|asg U<|rbe U<|csu U;exact gN U<|gN U<|gN U<|pkf U<|asg U<|rbe U<|csu U;refine tn<|cd U (λc3=>?_)<|λc3=>?_;refine rg<|mv U U ?_;have hs:=((hs.ext<|q1.n1 q2).fr q3 (by intro k hk hb;simp at hk;subst hk;have:=a0 _ hb;omega)).fr q4 (by intro k hk hb;simp at hk;subst hk;have:=a0 _ hb;omega);refine z1b (p:=1) ([]) U hs U y4a U<|λh1 d3=>(z1c U (d3 _ hs) na9 ?_);have hG:=hG.fr q4 (by first|exact z9l hG oo|simp[z0u]<;>omega);refine cl (ev1 U) (mkC func188) (y2q _ _ hG<|b1 _) U ?_;rintro _ i0 ⟨rfl,e3⟩;refine z3v U (us underlying3) underlying5 (IntKind.wrap_u8 _)<|fad U z4j ?_;have I:=I.ext e3;refine z3j U I U sz5<|λf8 I f3 j3=>?_;replace I:Blk f8 g3 _ [_,_,_,_,_,_]:=I;exact kpL (ll2 2 3) (csu U)<|nl<|bn'<|jE (()) (csu U) ⟨((l12 [g3] _).z2 e3 f3),by rw[z4r,y6w,if_neg c2,if_pos c3];exact I⟩;refine sq<|rbo (r:=56) (L':=ll3 0 2 3) ((((y9v<|ws.getD 0 [])=3)/\((ws.length:Int)=2))) (csu U) ?_ ?_;refine fad U z7e<|z0j U I U x9e<|eq' U<|mv U U<|gs 60 U (λg2=>?_)<|λg2=>?_;exact gY U<|mv U U<|gY U<|lnS U underlying88<|gY U<|eq' U<|pkt U<|asg U<|rbe U<|csu U;exact gN U<|gN U<|gN U<|pkf U<|asg U<|rbe U<|csu U;refine tn<|cd U (λc4=>?_)<|λc4=>?_;refine rg<|mv U U ?_;have hs:=((hs.ext<|q1.n1 q2).fr q3 (by intro k hk hb;simp at hk;subst hk;have:=a0 _ hb;omega)).fr q4 (by intro k hk hb;simp at hk;subst hk;have:=a0 _ hb;omega);refine z1b (p:=1) ([]) U hs U y4a U<|λh2 d4=>(z1c U (d4 _ hs) na9 ?_);have hG:=hG.fr q4 (by first|exact z9l hG oo|simp[z0u]<;>omega);refine cl (ev1 U) (mkC func188) (y2q _ _ hG<|b1 _) U ?_;rintro _ i1 ⟨rfl,e4⟩;refine fad U y4e ?_;have I:=I.ext e4;refine z3j U I U sz3<|λf9 I f4 j4=>?_;replace I:Blk f9 g3 _ [_,_,_,_,_,_]:=I;exact kpL (ll2 2 3) (csu U)<|nl<|bn'<|jE (()) (csu U) ⟨((l12 [g3] _).z2 e4 f4),by rw[z4r,y6w,if_neg c2,if_neg c3,if_pos c4];exact I⟩;refine jn (ι:=Bool) (ll3 0 2 3) (λb5=>[(70,.bool b5)]) (λb5 w'=>Fr [] w4 w'/\b5=decide (fD (y9v<|ws.getD 0 [])=true/\(ws.length:Int)=4)) (csu U) ?_ ?_;have hG:=hG.fr q4 (by first|exact z9l hG oo|simp[z0u]<;>omega);have hs:=((hs.ext<|q1.n1 q2).fr q3 (by intro k hk hb;simp at hk;subst hk;have:=a0 _ hb;omega)).fr q4 (by intro k hk hb;simp at hk;subst hk;have:=a0 _ hb;omega);have Z:=((Z.ext q2).fr q3).fr q4;intro a h;have a9:=l12 [] w4;refine z2y (λwb w'=>Fr [] wb w') z2r ?_;intro e7 O;have hG:=hG.ext O;have hs:=hs.ext O;have Z:=Z.ext O;have I:=I.ext O;have a9:=a9.next O;have b9:=O.size;clear O;have hC:Fr [] e7 e7:=l12 _ _;have a6:=hG;have a2:=hs;have a3:=Z;have a1:=I;refine z0c 1 h U z7e U λa h=>z0m 2 h U (λ_ hw=>a1.ext hw) U x9e U λa h=>z0d 0 U<|z0n h z0f (mkC func100) (x1b _) ?_;rintro _ i2 ⟨gm,rfl,d9,e0,hm,O⟩ a h;have hG:=hG.ext O;have hs:=hs.ext O;have Z:=Z.ext O;have I:=I.ext O;have a9:=a9.next O;have hC:=hC.next O;clear O;refine z0b<|z0d 3 U<|y2u (V:=kV) (k:=(y9v<|ws.getD 0 [])) h U U hm y7q underlying179 x5k (z8d _) U λa h=>?_;refine z0b<|z0d 4 U<|v0y h U (λw=>fld0 _ w) U λa h=>?_;refine z0b<|z0e 5 h U λa h=>?_;refine gSp (D:=76) h U ?_ ?_;intro g3 h;refine z0e 6 h U ?_ (hG:=(wy U));intro a h;refine z7v 7 hC h (wy U) U underlying88 U λa h=>x4x 8 hC h (wy U) U λa h=>z0d 9 U<|z4q h U λa h=>?_;refine z0b<|z0d 10 U<|z0q h U λa h=>?_;refine z0b<|z0p ?_;clear hC a6 a2 a3 a1;exact bk (h.sub (L':=ll4 0 2 3 70)<|csu U)<|jE (_) (csu U) ⟨a9,by simp_all [fD]⟩;intro g3 h;refine z1n 6 h U U λa h=>z1n 7 h U U λa h=>z1n 8 h U U λa h=>z0d 9 U<|z2u h U λa h=>?_;refine z0b<|z0d 10 U<|z0q h U λa h=>?_;refine z0b<|z0p ?_;clear hC a6 a2 a3 a1;exact bk (h.sub (L':=ll4 0 2 3 70)<|csu U)<|jE (_) (csu U) ⟨a9,by simp_all [fD]⟩;rintro b5 e8 ⟨a5,rfl⟩;refine kpC (ll4 0 2 3 70) (csu U)<|cd U (λc5=>?_)<|λc5=>?_;refine sr<|mv U U ?_;have hs:=(((hs.ext<|q1.n1 q2).fr q3 (by intro k hk hb;simp at hk;subst hk;have:=a0 _ hb;omega)).fr q4 (by intro k hk hb;simp at hk;subst hk;have:=a0 _ hb;omega)).ext a5;refine z1b (p:=2) ([]) U hs U y4a U<|λh3 d5=>(z1c U (d5 _ hs) na9 ?_);have hG:=(hG.fr q4 (by first|exact z9l hG oo|simp[z0u]<;>omega)).ext a5;refine cl (ev1 U) (mkC func190) (x2g _ _ hG<|b1 _) U ?_;rintro _ i3 ⟨e,rfl,b3⟩;refine mv U U<|xt U<|xt U<|fad U z5k ?_;have I:=I.ext<|a5.n1 b3;refine z5j (cs':=[_,_,_,_,_,_]) U U I (by first|(simp[Value.oneCell',S];done)|exact Enc.one _ _) y4h U<|λg5 I b7 j5=>?_;refine kpL (ll3 0 2 3) (csu U)<|nn ?_;have hG:=(hG.ext b3).fr b7 (by first|exact z9l hG oo|simp[z0u]<;>omega);have hs:=(hs.ext b3).fr b7 (by intro k hk hb;simp at hk;subst hk;have:=a0 _ hb;omega);have Z:=((((Z.ext q2).fr q3).fr q4).ext<|a5.n1 b3).fr b7;intro a h;have a4:=l12 [g3] g5;refine z2y (λwb w'=>Fr [g3] wb w') z2r ?_;intro e9 O;have hG:=hG.ext O;have hs:=hs.ext O;have Z:=Z.ext O;have I:=I.ext O;have a4:=a4.next O;have b9:=O.size;clear O;have hC:Fr [g3] e9 e9:=l12 _ _;have a6:=hG;have a2:=hs;have a3:=Z;have a1:=I;refine z0e 0 h U λa h=>z1e (p:=1) ([]) 1 h U hs U y4a U ?_ (hp:=rfl);intro h4 d6 a h;refine z2g 2 h U (λ_ hw=>d6 _<|a2.fr hw (by intro k hk hb;simp at hk;subst hk;have:=a0 _ hb;omega)) na9 U λa h=>z0e 4 h U λa h=>z1e (p:=3) ([]) 5 h U hs U y4a U ?_ (hp:=rfl);intro h5 d7 a h;refine z2g 6 h U (λ_ hw=>d7 _<|a2.fr hw (by intro k hk hb;simp at hk;subst hk;have:=a0 _ hb;omega)) na9 U λa h=>z0d 3 U<|z0n h (z0a U z0f) (mkC func189) (u9i _ _ hG) ?_;rintro _ i4 ⟨rfl,O⟩ a h;have hG:=hG.ext O;have hs:=hs.ext O;have Z:=Z.ext O;have I:=I.ext O;have a4:=a4.next O;have hC:=hC.next O;clear O;refine z0b<|z0c 9 h U z9g U λa h=>z0d 7 U<|z0n h (z0a U z0f) (mkC func188) (y2q _ _ hG<|b1 _) ?_;rintro _ i5 ⟨rfl,O⟩ a h;have hG:=hG.ext O;have hs:=hs.ext O;have Z:=Z.ext O;have I:=I.ext O;have a4:=a4.next O;have hC:=hC.next O;clear O;refine z0b<|v4p 8 hC h wn U (by rw[underlying3];rfl) underlying5 t19 U U λa h=>z0d 10 U<|z8j h U U I U U U k6l λg6 a7 O hz a h=>?_;have hG:=hG.fr O t26;have hs:=hs.fr O (by intro k hk hb;simp at hk;subst hk;have:=a0 _ hb;omega);have Z:=Z.fr O;have a4:=a4.sp O;have hC:=hC.sp O;clear I O hz;have I:Blk g6 g3 _ [_,_,_,_,_,_]:=a7;clear a7;refine z0b<|z0c 11 h U z4j U λa h=>z0d 12 U<|z8j h U U I U U U sz5 λg7 a7 O hz a h=>?_;have hG:=hG.fr O t26;have hs:=hs.fr O (by intro k hk hb;simp at hk;subst hk;have:=a0 _ hb;omega);have Z:=Z.fr O;have a4:=a4.sp O;have hC:=hC.sp O;clear I O hz;have I:Blk g7 g3 _ [_,_,_,_,_,_]:=a7;clear a7;refine z0b<|z0p ?_;clear hC a6 a2 a3 a1;exact bk (h.sub (L':=ll2 2 3)<|csu U)<|bn'<|jE (()) (csu U) ⟨((l12 [g3] _).z4 a5 b3 b7 a4),by rw[z4r,y6w,if_neg c2,if_neg c3,if_neg c4,if_pos c5];exact I⟩;refine jn (ι:=Bool) (ll3 0 2 3) (λb4=>[(100,.bool b4)]) (λb4 w'=>Fr [] e8 w'/\b4=decide (fN (y9v<|ws.getD 0 [])=true/\(ws.length:Int)=2)) (csu U) ?_ ?_;have hG:=(hG.fr q4 (by first|exact z9l hG oo|simp[z0u]<;>omega)).ext a5;have hs:=(((hs.ext<|q1.n1 q2).fr q3 (by intro k hk hb;simp at hk;subst hk;have:=a0 _ hb;omega)).fr q4 (by intro k hk hb;simp at hk;subst hk;have:=a0 _ hb;omega)).ext a5;have Z:=(((Z.ext q2).fr q3).fr q4).ext a5;have I:=I.ext a5;intro a h;have b0:=l12 [] e8;refine z2y (λwb w'=>Fr [] wb w') z2r ?_;intro f0 O;have hG:=hG.ext O;have hs:=hs.ext O;have Z:=Z.ext O;have I:=I.ext O;have b0:=b0.next O;have b9:=O.size;clear O;have hC:Fr [] f0 f0:=l12 _ _;have a6:=hG;have a2:=hs;have a3:=Z;have a1:=I;refine z0c 1 h U z7e U λa h=>z0m 2 h U (λ_ hw=>a1.ext hw) U x9e U λa h=>z0d 0 U<|z0n h z0f (mkC func100) (x1b _) ?_;rintro _ i7 ⟨gm,rfl,d9,e0,hm,O⟩ a h;have hG:=hG.ext O;have hs:=hs.ext O;have Z:=Z.ext O;have I:=I.ext O;have b0:=b0.next O;have hC:=hC.next O;clear O;refine z0b<|z0d 3 U<|y2u (V:=kV) (k:=(y9v<|ws.getD 0 [])) h U U hm y7q underlying179 x5k (z8d _) U λa h=>?_;refine z0b<|z0d 4 U<|v0y h U (λw=>fld1 _ w) U λa h=>?_;refine z0b<|z0e 5 h U λa h=>?_;refine gSp (D:=106) h U ?_ ?_;intro g4 h;refine z0e 6 h U ?_ (hG:=(wy U));intro a h;refine z7v 7 hC h (wy U) U underlying88 U λa h=>x4x 8 hC h (wy U) U λa h=>z0d 9 U<|z4q h U λa h=>?_;refine z0b<|z0d 10 U<|z0q h U λa h=>?_;refine z0b<|z0p ?_;clear hC a6 a2 a3 a1;exact bk (h.sub (L':=ll4 0 2 3 100)<|csu U)<|jE (_) (csu U) ⟨b0,by simp_all [fN]⟩;intro g4 h;refine z1n 6 h U U λa h=>z1n 7 h U U λa h=>z1n 8 h U U λa h=>z0d 9 U<|z2u h U λa h=>?_;refine z0b<|z0d 10 U<|z0q h U λa h=>?_;refine z0b<|z0p ?_;clear hC a6 a2 a3 a1;exact bk (h.sub (L':=ll4 0 2 3 100)<|csu U)<|jE (_) (csu U) ⟨b0,by simp_all [fN]⟩;rintro b4 i8 ⟨b2,rfl⟩;refine kpC (ll4 0 2 3 100) (csu U)<|cd U (λc6=>?_)<|λc6=>?_;refine rg<|mv U U ?_;have hs:=(((hs.ext<|q1.n1 q2).fr q3 (by intro k hk hb;simp at hk;subst hk;have:=a0 _ hb;omega)).fr q4 (by intro k hk hb;simp at hk;subst hk;have:=a0 _ hb;omega)).ext<|a5.n1 b2;refine z1b (p:=1) ([]) U hs U y4a U<|λf1 b8=>(z1c U (b8 _ hs) na9 ?_);have hG:=(hG.fr q4 (by first|exact z9l hG oo|simp[z0u]<;>omega)).ext<|a5.n1 b2;refine cl (ev1 U) (mkC func190) (x2g _ _ hG<|b1 _) U ?_;rintro _ i9 ⟨e,rfl,e5⟩;refine mv U U<|xt U<|xt U<|fad U z5k ?_;have I:=I.ext<|a5.n2 b2 e5;refine z5j (cs':=[_,_,_,_,_,_]) U U I (by first|(simp[Value.oneCell',S];done)|exact Enc.one _ _) y4h U<|λj0 I f5 j6=>?_;exact kpL (ll2 2 3) (csu U)<|nl<|bn'<|jE (()) (csu U) ⟨((l12 [g3] _).z4 a5 b2 e5 f5),by rw[z4r,y6w,if_neg c2,if_neg c3,if_neg c4,if_neg c5,if_pos c6];exact I⟩;refine sk<|bn' ?_;have I:=I.ext<|a5.n1 b2;exact jE (()) (csu U) ⟨((l12 [g3] _).n2 a5 b2),by rw[z4r,y6w,if_neg c2,if_neg c3,if_neg c4,if_neg c5,if_neg c6];exact I⟩;rintro _j j1 ⟨e6,I⟩;have b6:=I.lt;refine kpC (ll2 2 3) (csu U)<|sr<|z0k U I y2a ?_;have Z:=(((Z.ext q2).fr q3).fr q4).fr e6;refine z0i U Z v3b (λj2 Z f6 j7=>?_) (hl:=rfl);exact nn<|rt<|rC results140 U Z y2a  ⟨_,rfl,rfl,(q1.z5 q2 q3 q4 e6 f6)⟩
theorem u5m (l:List UInt8)(w0:World)(hG:Glob w0)(hl:l.length<=1000000):Rets prog 81 #[S l] w0 λr w'=>∃o e,y8n l=(o,e)/\r=.tuple #[opV o,.int .i64 e]/\Fr [] w0 w':=by
 have a2:=hG.sz;refine we [(0,S l)] func81 U ntmps81 U (.cons U .nil)<|sr<|al u1r U<|λg2 w1 a3 D q1 z1=>(asg U<|nn<|sr<|mv U U ?_);have hG:=hG.ext q1;refine cl (ev2 U) (mkC func141) (u1y _ _ _ hG oo dd) U ?_;rintro v6 w2 ⟨a0,O⟩;have z2:=O.size;have hG:=hG.ext O;refine cl (ev1 U) (mkC func140) (u2g _ _ _ hG a0.sl (v9p _ _)<|λi=>l37 (v9v _ _ i) hl) U ?_;rintro _ w3 ⟨rfl,Z⟩;have z3:=Z.size;refine al u1r U<|λg4 w4 a4 I q4 z4=>(z0i U I v3b (λw5 I q5 z5=>?_) (hl:=rfl));refine nn<|sq<|sq<|v4b (r:=16) (L':=ll2 2 4) ((((z9i<|z4r<|Lib.split l [32])≠0)\/((k0c<|z4r<|Lib.split l [32])≠l))) (csu U) ?_ ?_;refine z0k U I y2a<|cl (ev1 U) j6q (y0u (z4r<|Lib.split l [32]) _) U ?_;rintro _ w6 ⟨rfl,q6⟩;have z6:=q6.size;refine ne' U<|mv U U<|gs 11 U (λg0=>?_)<|λg0=>?_;exact gN U<|gN U<|gN U<|gN U<|pkt U<|y1y U (csu U) q6;refine gY U ?_;have I:=I.ext q6;refine z0k U I y2a<|gY U ?_;have hG:=((hG.ext<|Z.n1 q4).fr q5 (by first|exact z9l hG oo|simp[z0u]<;>omega)).ext q6;refine cl (ev1 U) (mkC func142) (j3a (z4r<|Lib.split l [32]) _ hG) U ?_;rintro _ w7 ⟨rfl,q7⟩;have z7:=q7.size;exact gY U<|mv U U<|gY U<|j8e U U U<|pkf U<|y1y U (csu U)<|q6.n1 q7;intro w8 q8;have z8:=q8.size;refine tn<|cd U (λc0=>?_)<|λc0=>?_;refine sr<|z1u (cs:=[_,_,_,_,_,_]) z0f v5n z0r U ?_;have D:=((D.ext<|O.n2 Z q4).fr q5).ext q8;refine z0i U D v3b (λw9 D q9 z9=>?_) (hl:=rfl);exact asg U<|nn<|rt<|tr<|rCT results81 U D y2a U ⟨_,rfl,op0,4,by rw[y8n,if_pos c0],rfl,(q1.z6 O Z q4 q5 q8 q9)⟩;refine sk<|tn<|sr ?_;have I:=I.ext q8;refine z0k U I y2a ?_;have D:=((D.ext<|O.n2 Z q4).fr q5).ext q8;refine z0i U D v3b (λa5 D a1 a6=>?_) (hl:=rfl);exact asg U<|nn<|rt<|rCT results81 U D y2a U ⟨_,rfl,(z4r<|Lib.split l [32]),0,by rw[y8n,if_neg c0],rfl,(q1.z6 O Z q4 q5 q8 a1)⟩
end Go.Proofs.YtlfdhllfmoplgaaGreatDoor
namespace Go.G08
open Go.Lw Go.G21
theorem y5w:∀l:Bed,trimB (trimB l)=trimB l
 | []=>rfl
 | s::l=>by
  by_cases h:trimB l=[]/\s=[]
  ·rw[show trimB (s::l)=[] from if_pos h];rfl
  rw[show trimB (s::l)=s::trimB l from if_neg h]
  show (if trimB (trimB l)=[]/\s=[] then [] else s::trimB (trimB l))=_
  rw[y5w l,if_neg h]
def TrB (B:Bd):Prop:=trimB B.f=B.f/\trimB B.b=B.b
theorem x7d (B:Bd)(b n:Int)(s:List LId):TrB (B.put b n s):=by
 unfold Bd.put y7s TrB;split<;>exact⟨y5w _,y5w _⟩
theorem k1r {p q:MSt}{y pl en:Int}(e:z8v p y pl en=.ok q):q.B=p.B:=by
 unfold z8v at e;split at e;cases e;cases e;rfl
theorem u0h {p q:MSt}{o:MOp}{D st:List LId}(e:y1z p o D st=.ok q):TrB q.B:=by
 unfold y1z at e;split at e;cases e;split at e;cases e;cases e;exact x7d ..
theorem j0t {p q:MSt}{d:Int}(e:z5x p d=.ok q):q.B=p.B:=by
 unfold z5x at e;split at e;cases e;split at e;cases e;cases e;rfl
theorem x6p:∀ {n:Nat} {p q:MSt} {r:Int},z4l n p r=.ok q->q.B=p.B
 | 0,p,q,r,e=>by cases e;rfl
 | n+1,p,q,r,e=>by
  unfold z4l at e
  split at e
  ·cases e;rfl
  split at e
  ·cases e
  rename_i I D
  exact(x6p e).trans<|j0t D
theorem k2b {p q:MSt}{o:MOp}(h:TrB p.B)(e:doM p o=.ok q):TrB q.B:=by
 have s:∀ {x:MSt},x.B=p.B->TrB x.B:=λD=>by rw[D];exact h
 unfold doM at e;split at e;cases e;unfold opM at e;split at e;unfold inM at e;split at e;cases e;cases e;exact s U;split at e;unfold x6h at e;split at e;cases e;cases e;exact s U;split at e;exact s<|x6p e;split at e;unfold y1i at e;split at e;cases e;split at e;cases e;exact u0h e;split at e;unfold y0x at e;split at e;cases e;split at e;cases e;split at e;cases e;exact u0h e;split at e;unfold y3h at e;split at e;cases e;exact s<|k1r e;split at e;unfold z8i at e;repeat (split at e;· cases e)
 cases e;exact x7d ..;unfold y3p at e;split at e;cases e;cases e;exact x7d ..
theorem k1e {p q:MSt}{o:MOp}(h:MInv p)(e:doM p o=.ok q):q.cr.length<=p.cr.length+5120:=by
 unfold doM at e;split at e;cases e;exact v5d h.B e
def nrm (p:MSt):MSt:=⟨p.rk,p.B,p.ys,p.tb,y4c p.cr,y2g p.fa⟩
theorem z4x {p:MSt}(h:MVal p):MVal (nrm p):=by
 have I:=z3q p.cr;have D:=z4a p.fa;refine⟨⟨h.inv.rk,h.inv.B,h.inv.ly,h.inv.lt,h.inv.yn,h.inv.has,?_,h.inv.all,λc O=>h.inv.cv c<|I.mem_iff.1 O⟩,h.yv,h.tab,λi hi=>?_,λi hi=>h.fa i<|D.mem_iff.1 hi,⟨λc O=>h.cr.has c<|I.mem_iff.1 O,?_⟩⟩;show p.B.flat.length+(y2g p.fa).length<=_;rw[D.length_eq];exact h.inv.cnt;show (p.B.flat++y2g p.fa++y0p p.tb).count i=1;rw[<-h.once i hi];simp only[l21];rw[D.count_eq];exact(I.map λc=>(c.a,c.b)).nodup_iff.2 h.cr.nd
structure StP (s:StQ) (p:MSt) (n:Nat):Prop where
  e:s.p=stM p
  v:MVal p
  t:TrB p.B
  c:p.cr.length<=n*5120
theorem StP.mono {s:StQ}{p:MSt}{n m:Nat}(h:StP s p n)(D:n<=m):StP s p m:=⟨h.e,h.v,h.t,l37 h.c<|l48 _ D⟩
theorem x9t (p:MSt):(nrm p).cr.length=p.cr.length:=(z3q p.cr).length_eq
theorem StP.do {s s':StQ}{p q:MSt}{o:MOp}{n:Nat}(h:StP s p n)(e:doM (nrm p) o=.ok q)(D:s'.p=stM q):StP s' q (n+1):=
 ⟨D,u7y (z4x h.v) e,k2b (p:=nrm p) h.t e,by have:=k1e (z4x h.v).inv e;have:=h.c;rw[x9t] at *;rw[l91];omega⟩
theorem StP.rkE {s:StQ}{p:MSt}{n:Nat}(h:StP s p n):s.rk=p.rk:=congrArg St.rk h.e
theorem StP.BE {s:StQ}{p:MSt}{n:Nat}(h:StP s p n):s.q.p=p.B:=congrArg St.B h.e
theorem StP.ysE {s:StQ}{p:MSt}{n:Nat}(h:StP s p n):s.ys.map YQ.p=p.ys:=congrArg St.ys h.e
theorem StP.tbE {s:StQ}{p:MSt}{n:Nat}(h:StP s p n):z2n s.fb.ts=p.tb:=congrArg (λx=>x.fb.t) h.e
theorem StP.csE {s:StQ}{p:MSt}{n:Nat}(h:StP s p n):s.fb.cs=y4c p.cr:=congrArg (λx=>x.fb.c) h.e
theorem StP.hsE {s:StQ}{p:MSt}{n:Nat}(h:StP s p n):s.fb.hs=(z2l p.B p.rk).map Hd.id:=congrArg (λx=>x.fb.h) h.e
theorem StP.fsE {s:StQ}{p:MSt}{n:Nat}(h:StP s p n):s.fb.fs=y2g p.fa:=congrArg (λx=>x.fb.f) h.e
theorem StP.ly {s:StQ}{p:MSt}{n:Nat}(h:StP s p n):s.ys.length=6:=by
 have:=congrArg List.length h.ysE;rw[l18]at this;rw[this];exact h.v.inv.ly
theorem StP.lt {s:StQ}{p:MSt}{n:Nat}(h:StP s p n):s.fb.ts.length=6:=by
 have:=congrArg List.length h.tbE;rw[z2n,l18]at this;rw[this];exact h.v.inv.lt
theorem StP.yE {s:StQ}{p:MSt}{n:Nat}(h:StP s p n){i:Nat}(hi:i<6):(s.ys.getD i yq0).p=p.ys.getD i yn0:=by
 rw[<-h.ysE,List.getD,List.getD,l24,l10 (by rw[h.ly];exact hi)];rfl
theorem StP.hl {s:StQ}{p:MSt}{n:Nat}(h:StP s p n):s.fb.hs.length<=320:=by
 rw[h.hsE,l18,(z8g _ _).length_eq,z8o];exact y5p h.v.inv.B
theorem StP.fl {s:StQ}{p:MSt}{n:Nat}(h:StP s p n):s.fb.fs.length<=2048:=by
 rw[h.fsE,(z4a _).length_eq];have:=h.v.inv.cnt;have:=h.v.inv.all;omega
theorem x7e:∀(T:Tb) (y:Nat),z3e T y<=z4o T
 | [],y=>l17 _
 | r::T,0=>Nat.le_add_right _ _
 | r::T,y+1=>l37 (x7e T y)<|Nat.le_add_left _ _
theorem StP.cn {s:StQ}{p:MSt}{n:Nat}(h:StP s p n):(s.fb.cs.map cxK).Nodup:=by
 rw[h.csE];exact((z3q p.cr).map _).nodup_iff.2 h.v.cr.nd
def StK (Us:List Nat)(w:World)(s:StQ):Prop:=∀(S:List Nat) (w':World),Fr S w w'->(∀k∈S,k<w.heap.size->∃T cs,Blk w k T cs/\T∉Us)->StAt w' s
theorem StK.at {D:List Nat}{w:World}{s:StQ}(h:StK D w s):StAt w s:=h [] w (l12 _ _) λk I=>by cases I
theorem StK.fr {D:List Nat}{w w':World}{s:StQ}{S:List Nat}(h:StK D w s)(hf:Fr S w w')(O:∀k∈S,k<w.heap.size->∃T cs,Blk w k T cs/\T∉D):StK D w' s:=λS2 w2 I hd=>h (S++S2) w2 (hf.trans I) λk hk hl=>by
 by_cases hm:k∈S
 ·exact O k hm hl
 obtain⟨T,cs,hb,Z⟩:=hd k ((l23.1 hk).resolve_left hm)<|l77 hl hf.size
 exact⟨T,cs,(hf.block k hl hm).symm.trans hb,Z⟩
theorem StK.ext {D:List Nat}{w w':World}{s:StQ}(h:StK D w s)(hf:Fr [] w w'):StK D w' s:=h.fr hf λk I=>by cases I
theorem StO.fr {τ:TyK}{I base:Nat}{w w':World}{s:StQ}{S:List Nat}(h:StO τ I base w s)(hf:Fr S w w')(hd:∀k∈S,k<w.heap.size->∃T cs,Blk w k T cs/\T∉[τ.S,τ.I,τ.Y,τ.P,τ.T,τ.L,I]):StO τ I base w' s:=by
 have D:Fr (S.filter λk=>decide (k<w.heap.size)) w w':=hf.weak λk Z hl=>l99.2 ⟨Z,by simpa using hl⟩;have o:∀T',T'∈[τ.S,τ.I,τ.Y,τ.P,τ.T,τ.L,I]->OffT w T' (S.filter λk=>decide (k<w.heap.size)):=λT' O k Z=>by
  obtain⟨a0,a1⟩:=l99.1 Z;obtain⟨T,cs,hb,hT⟩:=hd k a0 (by simpa using a1);exact⟨T,cs,hb,λe=>hT (e▸O)⟩
 exact⟨BdO.tf h.b D (o _ sp0)<|o _ sp0,h.y.tf D (o _ sp0)<|o _ sp0,h.t.tf D (o _ sp0) (o _ sp0) (o _ sp0)<|o _ sp0,z2a h.c D<|o _ sp0,z2a h.h D<|o _ sp0,z2a h.f D<|o _ sp0,h.sp⟩
theorem StO.k {τ:TyK}{D base:Nat}{w:World}{s:StQ}(h:StO τ D base w s):StK [τ.S,τ.I,τ.Y,τ.P,τ.T,τ.L,D] w s:=λ_ _ hf I=>(h.fr hf I).at
theorem u5u:TrB start.B:=⟨rfl,rfl⟩
end Go.G08
namespace Go.Proofs.YtlfdhllfmoplgaaGreatDoor
open Go.Lw Go.G21 Go.G08 _root_.Go.Proofs.Tryz
abbrev UK:List Nat:=[τd.S,τd.I,τd.Y,τd.P,τd.T,τd.L,147]
theorem u9q {s:StQ}{p:MSt}{n:Nat}(h:StP s p n)(hn:n<=10000):StSz s:=by
 have hB:BdOk s.q.p:=h.BE▸h.v.inv.B;have hc:=h.c;obtain⟨⟨h1,h2⟩,h3,h4⟩:=z3b hB;refine⟨h1,h2,h3,h4,h.ly,h.lt,λi=>?_,λt ht=>?_,l37 h.fl oo,?_,l37 h.hl oo⟩;by_cases hi:i<6;have:=(h.v.inv.yn i hi).1;rw[<-h.yE hi]at this;have D:=this.2;split at D;exact l37 D.2.1 oo;rw[D.2.2];omega;rw[List.getD,l30 (by rw[h.ly];omega)];exact l17 _;obtain⟨y,hy,rfl⟩:=l29 ht;have h6:=h.lt;have e:∀n,lpA p.tb y n=((s.fb.ts.getD y tq0).2.getD n lq0).p:=λn=>by rw[<-h.tbE];exact y3n ..
 have Z:z3e p.tb y=(s.fb.ts.getD y tq0).2.length:=by rw[<-h.tbE];exact z3x ..
 have O:s.fb.ts.getD y tq0=s.fb.ts[y]:=by rw[List.getD,l10 hy];rfl
 rw[O]at Z e;refine⟨by have:=x7e p.tb y;have:=h.v.inv.all;omega,λq hq=>?_⟩;obtain⟨k,hk,rfl⟩:=l29 hq;have I:=(h.v.tabV.ok.rts y oo k oo).1;rw[e,List.getD,l10 hk]at I;exact⟨l37 I.2.1.1 oo,l37 I.2.1.2 oo⟩;rw[h.csE,(z3q _).length_eq];omega
theorem u0p {s:StQ}{p:MSt}{n:Nat}(h:StP s p n):(⟨s.rk,⟨trimB<|plB s.q.fs,trimB<|plB s.q.bs⟩,s.ys.map YQ.p,z2n s.fb.ts,s.fb.cs,s.fb.fs⟩:MSt)=nrm p:=by
 have hf:plB s.q.fs=p.B.f:=congrArg Bd.f h.BE;have D:plB s.q.bs=p.B.b:=congrArg Bd.b h.BE;unfold nrm;rw[h.rkE,hf,D,h.t.1,h.t.2,h.ysE,h.tbE,h.csE,h.fsE]
theorem x1y {s:StQ}{p:MSt}{n:Nat}(w0:World)(I:StAt w0 s)(h:StP s p n):Rets prog 23 #[svv s] w0 λr w'=>r=.int .i64 0/\Fr [] w0 w':=
 j3h s w0 I (by rw[h.rkE];exact h.v.inv.rk) (h.BE▸h.v.inv.B) h.ly h.lt (λi hi=>by
  rw[h.yE hi]
  have:=h.v.inv.yn i hi
  refine⟨this.1,?_⟩
  have e:=h.yE hi
  have e2:(s.ys.getD i yq0).ct=(p.ys.getD i yn0).ct:=congrArg Yn.ct e
  rw[e2,this.2,<-h.tbE]
  exact congrArg _ (z3x ..)) (λw D=>u4a s.fb w D h.lt (h.tbE▸h.v.tabV) (by rw[h.tbE,h.csE];exact h.v.crs) (by rw[h.tbE,h.hsE,h.fsE];exact h.v.place)) (by rw[h.hsE,h.rkE,h.BE]) (l37 h.hl oo)
theorem u4r (s:StQ)(p:MSt)(n:Nat)(o:MOp)(w0:World)(hS:StAt w0 s)(hP:StP s p n)(hn:n<=1000)(b7:StT w0):Rets prog 35 #[svv s,opV o] w0 λr w'=>(∃s':StQ,r=.tuple #[svv s',.int .i64 (u6r<|doM (nrm p) o)]/\StO τd 147 w0.heap.size w' s'/\(∀q,doM (nrm p) o=.ok q->StP s' q (n+1))/\(u6r (doM (nrm p) o)≠0->s'=stZ)/\(u6r (doM (nrm p) o)=0->∃q,doM (nrm p) o=.ok q))/\Fr [] w0 w':=by
 have b6:=u9q hP oo;refine we [(0,svv s),(1,opV o)] func35 U ntmps35 U (.c2 U U) ?_;have a6:=hS;refine sr<|bx U<|λg2 w1 d5 O q1 z1=>(bx U<|λg3 w2 d6 Z q2 z2=>(al y6l U<|λg4 w3 d7 D q3 z3=>(asg U<|nn<|sq<|sr ?_)));have O:=O.ext<|q2.n1 q3;refine z0k U O z7r ?_;have hS:=a6.ext<|q1.n2 q2 q3;refine cl (ev1 U) (mkC func23) (x1y _ hS hP) U ?_;rintro _ w4 ⟨rfl,q4⟩;have z4:=q4.size;refine asg U<|nn<|sr<|mv U U<|ne' U<|nn<|cd U (λc0=>?_)<|λc0=>?_;refine sr<|z1u (cs:=[_,_,_,_,_,_,_,_]) z0f x9k z0r U ?_;refine mv U U ?_;have D:=D.ext q4;exact z0i (vs:=[_,_,_,_,_,_,_,_]) U D z9m<|λw5 D q5 z5=>(asg U<|kpL (ll2 4 5) (csu U)<|nn<|rt<|tr<|rCT results35 U D z7r U<|absurd U t12);refine sk<|tn<|sr ?_;have O:=O.ext q4;refine z0k U O z7r ?_;have hS:=a6.ext<|q1.n3 q2 q3 q4;have D:=D.ext q4;refine cl (z0a U z0f) (mkC func26) (v6m s _ hS b6 hP.cn) U ?_;rintro _ w6 ⟨ka,m,rfl,hM,b8⟩;have q6:=hM.fr.fr;have z6:=q6.size;have a1:=D;have b0:m.p=nrm p:=b8.trans<|u0p hP;have b4:MInv m.p:=by rw[b0];exact(z4x hP.v).inv
 have d1:=hM.c.lt;have d3:=hM;refine asg U<|nn<|sq<|sq ?_;intro a h;refine z0h (some 3) (λwb w'=>Fr [] wb w') z2r ?_;intro w7 q7;have z7:=q7.size;have Z:=Z.ext<|q3.n3 q4 q6 q7;have hM:=hM.ext q7;have hC:Fr [] w7 w7:=l12 _ _;have a0:=Z;have a4:=hM;refine z0e 0 h U λa h=>z0x 2 h U (λ_ hw=>a0.ext hw) y2a U λa h=>z0d 1 U<|z0n h z0f (mkC func27) (v8p _) ?_;rintro _ w8 ⟨⟨gl,rfl,d9,hl⟩,q8⟩ a h;have z8:=q8.size;have Z:=Z.ext q8;have hM:=hM.ext q8;have hC:=hC.next q8;refine z0b<|z0d 3 U ?_;have d4:=hM.fr;refine z0n h (z0a U<|z0a U<|z0a U z0f) (mkC func28) (u7o w4 { ka with wk:=w8 } m o gl _ hM.mark b4 (b7.ext<|q1.n3 q2 q3 q4) hl) λ_ w9 hR a h=>?_;obtain⟨rfl,a2,m1,a9⟩:=hR.split;have z9:=a2.kp.size;simp only at z9;have q9:=a2.fr;rw[b0]at a9 h;refine z1m<|z0d 4 U<|z0q h U λa h=>?_;refine z1m<|z0p ?_;clear hC a0 a4;refine bk (h.sub (L':=ll3 4 7 8)<|csu U)<|tn<|sr<|mv U U<|ne' U<|nn<|cd U (λc1=>?_)<|λc1=>?_;have D:=a1.ext a2.fr;refine sr<|z1u (cs:=[_,_,_,_,_,_,_,_]) z0f x9k z0r U ?_;exact mv U U<|z0i (vs:=[_,_,_,_,_,_,_,_]) U D z9m<|λe0 D c9 e4=>(asg U<|nn<|rt<|tr<|rCT results35 U D z7r U ⟨_,rfl,⟨stZ,rfl,j2k _ _,λq hq=>(by rw[y0m c1]at hq;cases hq),λ_=>rfl,λe=>absurd e c1⟩,(q1.z5 q2 q3 q4 q9 c9)⟩);obtain⟨b3,I⟩:=a9<|l16.1 c1;have a5:=z7l (z4x hP.v).inv I;have a8:m1.cr.length<=100000000:=by have x:=k1e (z4x hP.v).inv I;have y:=hP.c;rw[x9t]at x;exact l37 x oo
 refine sk<|tn<|sr<|mv U U<|cl (z0a U z0f) (mkC func29) (x3l w4 { ka with wk:=w8 } m1 _ b3 a5 a8) U ?_;rintro _ e3 ⟨s',rfl,b5,b9,a3⟩;have e5:=a3.size;have D:=a1.ext a3;have a7:=D;refine z0i (vs:=[_,_,_,_,_,_,_,_]) U D z9m<|λd0 D b1 e6=>(asg U<|nn<|rt<|rCT results35 U D z7r U ?_);have b2:Fr [] _ d0:=(l12 _ _);exact⟨_,rfl,⟨s',by rw[I];rfl,((b5.off a7 dd b1).ext b2).low oo,λq hq=>(by rw[I]at hq;cases hq;exact hP.do I b9),λe=>absurd (by rw[I];rfl) e,λ_=>⟨_,I⟩⟩,(q1.z5 q2 q3 q4 a3 b1)⟩
end Go.Proofs.YtlfdhllfmoplgaaGreatDoor
namespace Go.G08
open Go.Lw Go.G21
structure Eqv (p q:MSt):Prop where
  rk:p.rk=q.rk
  B:p.B=q.B
  ys:p.ys=q.ys
  tb:p.tb=q.tb
  cr:p.cr.Perm q.cr
  fa:p.fa.Perm q.fa
  nd:(p.cr.map λc=>(c.a,c.b)).Nodup
theorem Eqv.refl {p:MSt}(h:(p.cr.map λc=>(c.a,c.b)).Nodup):Eqv p p:=⟨rfl,rfl,rfl,rfl,.refl _,.refl _,h⟩
theorem Eqv.trans {p q r:MSt}(h:Eqv p q)(D:Eqv q r):Eqv p r:=⟨h.rk.trans D.rk,h.B.trans D.B,h.ys.trans D.ys,h.tb.trans D.tb,h.cr.trans D.cr,h.fa.trans D.fa,h.nd⟩
theorem Eqv.symm {p q:MSt}(h:Eqv p q):Eqv q p:=⟨h.rk.symm,h.B.symm,h.ys.symm,h.tb.symm,h.cr.symm,h.fa.symm,(h.cr.map _).nodup_iff.1 h.nd⟩
theorem v8q {p:MSt}(h:MVal p):Eqv p (nrm p):=⟨rfl,rfl,rfl,rfl,(z3q _).symm,(z4a _).symm,h.cr.nd⟩
theorem Eqv.stM {p q:MSt}(h:Eqv p q):stM p=stM q:=by
 unfold G08.stM;rw[h.rk,h.B,h.ys,h.tb,x6g h.symm.nd ((z3q p.cr).trans h.cr) (y4t p.cr),v4e ((z4a p.fa).trans h.fa) (x0n p.fa)]
def u2u:MR->MR->Prop
  | .error e,.error e'=>e=e'
  | .ok p,.ok q=>Eqv p q
  | _,_=>False
theorem y1j {a b:LId}{c:Cx}:isC a b c=true↔(c.a,c.b)=(a,b):=by unfold isC;simp[Prod.ext_iff]
theorem y9h {a b:LId}:∀ {l:List Cx} {c:Cx},(l.map λc=>(c.a,c.b)).Nodup->c∈l->(c.a,c.b)=(a,b)->l.find? (isC a b)=some c
 | x::l,c,hn,D,hk=>by
  rw[l32,l104]at hn
  rw[List.find?_cons]
  rcases l55.1 D with rfl|D
  ·rw[y1j.2 hk]
  have:isC a b x=false:=by
   rw[<-Bool.not_eq_true,y1j]
   intro e
   exact hn.1 (e▸hk▸l54.2 ⟨c,D,rfl⟩)
  rw[this]
  exact y9h hn.2 D hk
theorem u1f {l l':List Cx}{a b:LId}(hp:l.Perm l')(hn:(l.map λc=>(c.a,c.b)).Nodup):z6w l a b=z6w l' a b:=by
 have I:=(hp.map λc=>(c.a,c.b)).nodup_iff.1 hn;unfold z6w;by_cases h:∃c∈l,(c.a,c.b)=(a,b);obtain⟨c,D,O⟩:=h;rw[y9h hn D O,y9h I (hp.mem_iff.1 D) O];have e:∀m:List Cx,(∀c∈m,c∈l)->m.find? (isC a b)=none:=λm Z=>List.find?_eq_none.2 λc D e=>h ⟨c,Z c D,y1j.1 e⟩;rw[e l (λ_ D=>D),e l' λ_ D=>hp.mem_iff.2 D]
theorem u6o {l l':List Cx}{f:Cx->Bool}(hp:l.Perm l'):l.any f=l'.any f:=by
 rw[Bool.eq_iff_iff,List.any_eq_true,List.any_eq_true];exact⟨λ⟨c,hc,h⟩=>⟨c,hp.mem_iff.1 hc,h⟩,λ⟨c,hc,h⟩=>⟨c,hp.mem_iff.2 hc,h⟩⟩
theorem v7t {l l':List Cx}{a b:LId}{n:Int}(hp:l.Perm l'):(y4p l a b n).Perm (y4p l' a b n):=by
 unfold y4p;rw[u6o hp];split;exact hp.map _;exact hp.append_right _
theorem j0w {l:List Cx}{a b:LId}{n:Int}(hn:(l.map λc=>(c.a,c.b)).Nodup):((y4p l a b n).map λc=>(c.a,c.b)).Nodup:=by
 by_cases h:l.any (isC a b)=true;rw[v1h h];exact hn;unfold y4p;rw[if_neg h,l33,l61];refine⟨hn,sp0,λx I y O e=>h ?_⟩;obtain⟨c,D,rfl⟩:=l54.1 I;obtain rfl:y=(a,b):=by simpa using O
 exact List.any_eq_true.2 ⟨c,D,y1j.2 e⟩
theorem j4b {l:List Cx}{a b:LId}(hn:(l.map λc=>(c.a,c.b)).Nodup):((x7u l a b).map λc=>(c.a,c.b)).Nodup:=hn.sublist<|List.Sublist.map _ List.filter_sublist
def CEqv:Except Int (List Cx)->Except Int (List Cx)->Prop
  | .error e,.error e'=>e=e'
  | .ok l,.ok l'=>l.Perm l'/\(l.map λc=>(c.a,c.b)).Nodup
  | _,_=>False
theorem u0v {l l':List Cx}{c:Cx}(hp:l.Perm l')(hn:(l.map λc=>(c.a,c.b)).Nodup):CEqv (y3z l c) (y3z l' c):=by
 rw[y7k,y7k,u1f hp hn];generalize z6w l' (z5d c).1 (z5d c).2+c.n=n;by_cases h1:n < -1048576\/1048576<n;rw[if_pos h1,if_pos h1];rfl;rw[if_neg h1,if_neg h1];by_cases h2:n=0;rw[if_pos h2,if_pos h2];exact⟨hp.filter _,j4b hn⟩;rw[if_neg h2,if_neg h2];exact⟨v7t hp,j0w hn⟩
theorem y8b:∀ {r l l':List Cx},l.Perm l'->(l.map λc=>(c.a,c.b)).Nodup->CEqv (z4e l r) (z4e l' r)
 | [],l,l',hp,hn=>⟨hp,hn⟩
 | c::r,l,l',hp,hn=>by
  have h:=u0v (c:=c) hp hn
  unfold z4e
  revert h
  cases y3z l c with
  | error e=>cases y3z l' c with
   | error e'=>exact λh=>h
   | ok m'=>exact λh=>h.elim
  | ok m=>cases y3z l' c with
   | error e'=>exact λh=>h.elim
   | ok m'=>exact λh=>y8b h.1 h.2
theorem x5t {p q:MSt}(D:p.B=q.B)(I:p.rk=q.rk)(d:Int)(y:Yn):z7i p d y=z7i q d y:=by unfold z7i;rw[D,I]
theorem y4n {p q:MSt}(D:p.B=q.B)(I:p.rk=q.rk)(d:Int):∀l,z4c p d l=z4c q d l
 | []=>rfl
 | y::l=>by unfold z4c;rw[x5t D I,y4n D I d l]
theorem v4o {p q:MSt}(h:Eqv p q)(d:Int):u2u (z5x p d) (z5x q d):=by
 unfold z5x;rw[y4n h.B h.rk,h.ys];cases z4c q d q.ys with
 | error e=>rfl
 | ok ys=>
  have D:=y8b (r:=z2o q.B q.rk d) h.cr h.nd;rw[<-h.B,<-h.rk]at D ⊢;revert D;dsimp only;cases z4e p.cr (z2o p.B p.rk d) with
  | error e=>cases z4e q.cr (z2o p.B p.rk d) with
   | error e'=>exact λh=>h
   | ok m'=>exact λh=>h.elim
  | ok m=>cases z4e q.cr (z2o p.B p.rk d) with
   | error e'=>exact λh=>h.elim
   | ok m'=>exact λD=>⟨rfl,rfl,rfl,h.tb,D.1,h.fa,D.2⟩
theorem x3s {r:Int}:∀ {n:Nat} {p q:MSt},Eqv p q->u2u (z4l n p r) (z4l n q r)
 | 0,p,q,h=>h
 | n+1,p,q,h=>by
  unfold z4l
  rw[h.rk]
  by_cases e:q.rk=r
  ·rw[if_pos e,if_pos e];exact h
  rw[if_neg e,if_neg e]
  have D:=v4o h (if r<q.rk then 0 else 1)
  revert D
  cases z5x p (if r<q.rk then 0 else 1) with
  | error e=>cases z5x q (if r<q.rk then 0 else 1) with
   | error e'=>exact λh=>h
   | ok m'=>exact λh=>h.elim
  | ok m=>cases z5x q (if r<q.rk then 0 else 1) with
   | error e'=>exact λh=>h.elim
   | ok m'=>exact λh=>x3s h
abbrev wth (p:MSt)(c:List Cx)(f:List LId):MSt:=⟨p.rk,p.B,p.ys,p.tb,c,f⟩
theorem Eqv.wth {p q:MSt}(h:Eqv p q):q=wth p q.cr q.fa:=by
 obtain⟨_,_,_,_,_,_⟩:=q;obtain⟨D,I,O,Z,_,_,_⟩:=h;simp only at D I O Z;subst D;subst I;subst O;subst Z;rfl
theorem y9o {p:MSt}{c:List Cx}{f:List LId}(h:Eqv p (wth p c f))(y:Int)(q:Yn):Eqv (p.setY y q) ((wth p c f).setY y q):=⟨rfl,rfl,rfl,rfl,h.cr,h.fa,h.nd⟩
theorem x9u {p:MSt}{c:List Cx}{f:List LId}(h:Eqv p (wth p c f))(y pl en:Int):u2u (z8v p y pl en) (z8v (wth p c f) y pl en):=by
 unfold z8v;by_cases e:goE (p.y y) pl (y2h p y en)≠0;rw[if_pos e,if_pos (show goE ((wth p c f).y y) pl (y2h (wth p c f) y en)≠0 from e)];rfl;rw[if_neg e,if_neg (show ¬goE ((wth p c f).y y) pl (y2h (wth p c f) y en)≠0 from e)];exact y9o h _ _
theorem x9h {p q:MSt}(h:Eqv p q)(o:MOp)(I st:List LId):u2u (y1z p o I st) (y1z q o I st):=by
 have D:=h.wth;generalize q.cr=c at D;generalize q.fa=f at D;subst D;unfold y1z;by_cases e:mkE (p.y o.y)≠0;rw[if_pos e,if_pos (show mkE ((G08.wth p c f).y o.y)≠0 from e)];rfl;rw[if_neg e,if_neg (show ¬mkE ((G08.wth p c f).y o.y)≠0 from e)];by_cases e2:2048<=z4o p.tb;rw[if_pos e2,if_pos e2];rfl;rw[if_neg e2,if_neg e2];exact⟨rfl,rfl,rfl,rfl,h.cr,h.fa,h.nd⟩
theorem k4e {m D:MSt}(h:Eqv m D)(o:MOp):u2u (if 4<=(m.B.at o.b o.p).length then .error 9 else y1z m o [] (m.B.at o.b o.p)) (if 4<=(D.B.at o.b o.p).length then .error 9 else y1z D o [] (D.B.at o.b o.p)):=by
 rw[<-h.B];by_cases e4:4<=(m.B.at o.b o.p).length;rw[if_pos e4,if_pos e4];rfl;rw[if_neg e4,if_neg e4];exact x9h h _ _ _
theorem j4u {p q:MSt}(h:Eqv p q)(o:MOp):u2u (opM p o) (opM q o):=by
 have D:=h.wth;generalize q.cr=c at D;generalize q.fa=f at D;subst D;unfold opM;by_cases k1:o.k=1;rw[if_pos k1,if_pos k1];unfold inM;by_cases e:enE (p.y o.y) o.d≠0;rw[if_pos e,if_pos (show enE ((G08.wth p c f).y o.y) o.d≠0 from e)];rfl;rw[if_neg e,if_neg (show ¬enE ((G08.wth p c f).y o.y) o.d≠0 from e)];exact y9o h _ _;rw[if_neg k1,if_neg k1];by_cases k2:o.k=2;rw[if_pos k2,if_pos k2];unfold x6h;by_cases e:lvE (p.y o.y)≠0;rw[if_pos e,if_pos (show lvE ((G08.wth p c f).y o.y)≠0 from e)];rfl;rw[if_neg e,if_neg (show ¬lvE ((G08.wth p c f).y o.y)≠0 from e)];exact y9o h _ _;rw[if_neg k2,if_neg k2];by_cases k3:o.k=3;rw[if_pos k3,if_pos k3];exact x3s h;rw[if_neg k3,if_neg k3];have I:=x9u h o.y (z6n p o)<|z2f o.b o.p p.rk;by_cases k4:o.k=4;rw[if_pos k4,if_pos k4];unfold y1i;by_cases e:z5o p o≠0;rw[if_pos e,if_pos (show z5o (G08.wth p c f) o≠0 from e)];rfl;rw[if_neg e,if_neg (show ¬z5o (G08.wth p c f) o≠0 from e)];show u2u (match z8v p o.y (z6n p o) (z2f o.b o.p p.rk) with|.error e=>.error e|.ok q=>y1z q o (q.B.at o.b o.p) []) (match z8v (G08.wth p c f) o.y (z6n p o) (z2f o.b o.p p.rk) with|.error e=>.error e|.ok q=>y1z q o (q.B.at o.b o.p) []);revert I;cases z8v p o.y (z6n p o) (z2f o.b o.p p.rk) with
 | error e=>cases z8v (G08.wth p c f) o.y (z6n p o) (z2f o.b o.p p.rk) with
  | error e'=>exact λh=>h
  | ok m'=>exact λh=>h.elim
 | ok m=>cases z8v (G08.wth p c f) o.y (z6n p o) (z2f o.b o.p p.rk) with
  | error e'=>exact λh=>h.elim
  | ok m'=>exact λh=>by dsimp only;rw[<-h.B];exact x9h h _ _ _
 rw[if_neg k4,if_neg k4];by_cases k5:o.k=5;rw[if_pos k5,if_pos k5];unfold y0x;by_cases e:z5o p o≠0;rw[if_pos e,if_pos (show z5o (G08.wth p c f) o≠0 from e)];rfl;rw[if_neg e,if_neg (show ¬z5o (G08.wth p c f) o≠0 from e)];show u2u (match z8v p o.y (z6n p o) (z2f o.b o.p p.rk) with|.error e=>.error e|.ok q=>if 4<=(q.B.at o.b o.p).length then .error 9 else y1z q o [] (q.B.at o.b o.p)) (match z8v (G08.wth p c f) o.y (z6n p o) (z2f o.b o.p p.rk) with|.error e=>.error e|.ok q=>if 4<=(q.B.at o.b o.p).length then .error 9 else y1z q o [] (q.B.at o.b o.p));revert I;cases z8v p o.y (z6n p o) (z2f o.b o.p p.rk) with
 | error e=>cases z8v (G08.wth p c f) o.y (z6n p o) (z2f o.b o.p p.rk) with
  | error e'=>exact λh=>h
  | ok m'=>exact λh=>h.elim
 | ok m=>cases z8v (G08.wth p c f) o.y (z6n p o) (z2f o.b o.p p.rk) with
  | error e'=>exact λh=>h.elim
  | ok m'=>exact λh=>k4e h o
 rw[if_neg k5,if_neg k5];by_cases k6:o.k=6;rw[if_pos k6,if_pos k6];unfold y3h;by_cases e:z5o p o≠0;rw[if_pos e,if_pos (show z5o (G08.wth p c f) o≠0 from e)];rfl;rw[if_neg e,if_neg (show ¬z5o (G08.wth p c f) o≠0 from e)];exact x9u h _ _ _;rw[if_neg k6,if_neg k6];by_cases k7:o.k=7;rw[if_pos k7,if_pos k7];unfold z8i;by_cases e1:p.B.at o.b o.p=[];rw[if_pos e1,if_pos e1];rfl;rw[if_neg e1,if_neg e1];by_cases e2:z4d (1-o.b) (z5q o.b o.p p.rk)≠0;rw[if_pos e2,if_pos e2];rfl;rw[if_neg e2,if_neg e2];by_cases e3:∃y∈p.ys,y.inn=true/\y.pl=x6s p o;rw[if_pos e3,if_pos (show ∃y∈(G08.wth p c f).ys,y.inn=true/\y.pl=x6s (G08.wth p c f) o from e3)];rfl;rw[if_neg e3,if_neg (show ¬ ∃y∈(G08.wth p c f).ys,y.inn=true/\y.pl=x6s (G08.wth p c f) o from e3)];by_cases e4:4<(p.B.at o.b o.p).length+(p.B.at (1-o.b)<|z5q o.b o.p p.rk).length;rw[if_pos e4,if_pos e4];rfl;rw[if_neg e4,if_neg e4];exact⟨rfl,rfl,rfl,rfl,h.cr,h.fa,h.nd⟩;rw[if_neg k7,if_neg k7];unfold y3p;by_cases e1:p.B.at o.b o.p=[];rw[if_pos e1,if_pos e1];rfl;rw[if_neg e1,if_neg e1];exact⟨rfl,rfl,rfl,rfl,h.cr,h.fa.append_right _,h.nd⟩
theorem j2v {p q:MSt}(h:Eqv p q)(o:MOp):u2u (doM p o) (doM q o):=by
 unfold doM;by_cases e:z9i o≠0;rw[if_pos e,if_pos e];rfl;rw[if_neg e,if_neg e];exact j4u h o
theorem k2q {p q r:MSt}{o:MOp}(h:Eqv p q)(e:doM p o=.ok r):∃r',doM q o=.ok r'/\Eqv r r':=by
 have:=j2v h o;rw[e]at this;cases k:doM q o with
 | error e'=>rw[k]at this;exact this.elim
 | ok r'=>rw[k]at this;exact⟨r',rfl,this⟩
end Go.G08
namespace Go.Proofs.YtlfdhllfmoplgaaGreatDoor
open Go.Lw Go.G21 Go.G08 _root_.Go.Proofs.Tryz
theorem stp0 (I D:Nat):StP (st0 I D) G08.start 0:=⟨k4a I D,v4v,u5u,l17 _⟩
def u1q (p:MSt)(l:List MOp):Int:=match z3u 0 p l with
  | .error (e,_)=>e
  | .ok _=>0
def x7g (p:MSt)(l:List MOp):Nat:=match z3u 0 p l with
  | .error (_,n)=>n
  | .ok _=>l.length
theorem y9y {p:MSt}{l:List MOp}{e:Int}{n:Nat}(h:z3u 0 p l=.error (e,n)):u1q p l=e/\x7g p l=n:=by unfold u1q x7g;rw[h];exact⟨rfl,rfl⟩
theorem x1v {p q:MSt}{l:List MOp}(h:z3u 0 p l=.ok q):u1q p l=0/\x7g p l=l.length:=by unfold u1q x7g;rw[h];exact⟨rfl,rfl⟩
theorem u8h:∀ {l:List MOp} {i:Nat} {p q:MSt},TrB p.B->z3u i p l=.ok q->TrB q.B
 | [],i,p,q,h,e=>by cases e;exact h
 | o::l,i,p,q,h,e=>by
  unfold z3u at e
  split at e
  ·cases e
  rename_i I D
  exact u8h (k2b h D) e
theorem v8u {s:StQ}{p:MSt}{n:Nat}(v:Value)(l:List MOp)(w0:World)(hS:StAt w0 s)(D:StP s p n)(hn:n+l.length<=1000)(hv:Sl z3d w0 v l)(Z:StT w0):Rets prog 7 #[svv s,v] w0 λr w'=>(∃s':StQ,r=.tuple #[svv s',.int .i64 (x7g (nrm p) l:Int),.int .i64 (u1q (nrm p) l)]/\StO τd 147 w0.heap.size w' s'/\(∀q,z3u 0 (nrm p) l=.ok q->StP s' q (n+l.length))/\(∀e i,z3u 0 (nrm p) l=.error (e,i)->s'=stZ))/\Fr [] w0 w':=
 Rets.mono (j4q s v l (nrm p) w0 hS (u9q D oo) D.cn (u0p D).symm (z4x D.v).inv hv Z oo (λw h=>x1y w h D) (λq e=>by
  have x:=x0c (z4x D.v).inv e
  have y:=D.c
  rw[x9t]at x
  omega)) (by
  rintro r w' ⟨h,hf⟩
  refine⟨?_,hf⟩
  cases e:z3u 0 (nrm p) l with
  | error x=>
   obtain⟨e1,i⟩:=x
   rw[e]at h
   obtain⟨I,O⟩:=y9y e
   exact⟨stZ,by rw[I,O];exact h,j2k _ _,λq hq=>(by cases hq),λ_ _ _=>rfl⟩
  | ok q=>
   rw[e]at h
   obtain⟨s',I,O,h3⟩:=h
   obtain⟨h4,h5⟩:=x1v e
   refine⟨s',by rw[h4,h5];exact I,O,λq' hq=>?_,λ_ _ hp=>(by cases hp)⟩
   cases hq
   refine⟨h3,v5s (z4x D.v) e,u8h (p:=nrm p) D.t e,?_⟩
   have x:=x0c (z4x D.v).inv e
   have y:=D.c
   rw[x9t]at x
   rw[l91];omega)
end Go.Proofs.YtlfdhllfmoplgaaGreatDoor
namespace Go.G26
open Go.Lw Go.G21 Go.G08
def y3c (l:List LId)(x:LId):Int:=if x∈l then (l.idxOf x:Int) else -1
abbrev St:=List LId×List Int
def x2p (o:List LId)(k:Nat):List LId:=(o.set (k-1)<|o.getD k id0).set k<|o.getD (k-1) id0
def y2v (st:St)(c:Cx):St:=
  if 0<y3c st.1 c.a+1/\y3c st.1 c.a+1<(st.1.length:Int) then (x2p st.1 (y3c st.1 c.a+1).toNat,st.2++[(y3c st.1 c.a+1)*c.n]) else st
def z3h (st:St)(cs:List Cx):St:=cs.foldl y2v st
def y7r (B:Bd)(d:Int):Nat->Int->St->St
  | 0,_,st=>st
  | n+1,r,st=>y7r B d n (r+stI d)<|z3h st<|z2o B r d
def z7j (B:Bd)(r ro:Int)(st:St):St:=y7r B (if ro<r then 0 else 1) (if ro<r then r-ro else ro-r).toNat r st
def z8n:MSt->St->List MOp->Option St
  | _,st,[]=>some st
  | p,st,o::l=>
    let st':=if o.k=3 then z7j p.B p.rk o.r st else st
    if 64<st'.2.length then none else match doM p o with
      | .error _=>none
      | .ok q=>z8n q st' l
def z4u (p:MSt):List LId:=(z2l p.B p.rk).map Hd.id
def y0v (p:MSt)(l:List MOp):Option (List Int):=if z2l p.B p.rk=[] then some [] else (z8n p (z4u p,[]) l).map Prod.snd
def isP (l:List MOp):Bool:=l.all λo=>decide ((o.k=3\/o.k=7)/\z9i o=0)
def z1t (p:MSt)(l:List MOp):Except Int (List Int×MSt):=
  if isP l=false then .error 1 else if 4096<l.length then .error 3 else if 8<p.B.flat.length then .error 3 else match z3u 0 p l with
    | .error x=>match y0v p (l.take x.2) with
      | none=>.error 3
      | some _=>.error x.1
    | .ok q=>match y0v p l with
      | none=>.error 3
      | some w=>.ok (w,q)
def knP (b n:Int):MOp:=⟨4,1,b,n,1,0⟩
def exO:List MOp:=[⟨1,0,0,0,1,0⟩,knP 0 10,knP 0 11,knP 0 12,⟨2,0,0,0,1,0⟩]
def xfP (b n:Int):MOp:=⟨7,0,b,n,0,0⟩
def rkP (r:Int):MOp:=⟨3,0,0,0,0,r⟩
theorem u5t (l:List LId)(x:LId):-1<=y3c l x/\y3c l x<l.length:=by
 unfold y3c;split;rename_i h;have:=List.idxOf_lt_length_of_mem h;omega;exact⟨oo,oo⟩
theorem j5i {l:List LId}{x:LId}{i:Nat}(hi:i<l.length)(D:l.getD i id0=x)(hn:∀j,j<i->l.getD j id0≠x):y3c l x=i:=by
 have O:x∈l:=by rw[<-D,List.getD,l10 hi];exact l109 hi
 unfold y3c;rw[if_pos O];have I:=List.idxOf_lt_length_of_mem O;have Z:l[l.idxOf x]=x:=List.getElem_idxOf I;have h3:¬l.idxOf x<i:=λh=>hn _ h (by rw[List.getD,l10 I];exact Z);have h4:¬i<l.idxOf x:=λh=>by
  have:=List.not_of_lt_findIdx (p:=(· == x)) (xs:=l) (i:=i) h;rw[List.getD,l10 hi,l63]at D;simp[D]at this
 omega
theorem j0a {l:List LId}{x:LId}(hn:∀j,j<l.length->l.getD j id0≠x):y3c l x = -1:=by
 unfold y3c;rw[if_neg];intro D;obtain⟨i,hi,rfl⟩:=l29 D;exact hn i hi (by rw[List.getD,l10 hi];rfl)
theorem v8w (st:St)(c:Cx):(y2v st c).1.length=st.1.length/\(y2v st c).2.length<=st.2.length+1:=by
 unfold y2v;split;simp[x2p];exact⟨rfl,Nat.le_succ _⟩
theorem y0f:∀(cs:List Cx) (st:St),(z3h st cs).1.length=st.1.length/\(z3h st cs).2.length<=st.2.length+cs.length
 | [],st=>⟨rfl,l20 _⟩
 | c::cs,st=>by
  obtain⟨D,O⟩:=v8w st c
  obtain⟨I,Z⟩:=y0f cs<|y2v st c
  exact⟨I.trans D,by show (z3h (y2v st c) cs).2.length<=_;rw[l34];omega⟩
theorem y8t {st:St}{cs:List Cx}{i:Nat}(h:i<cs.length):z3h st (cs.take<|i+1)=y2v (z3h st<|cs.take i) (cs.getD i cx0):=by
 unfold z3h;rw[l53,l10 h,List.foldl_append,List.getD,l10 h];rfl
theorem v7n {st:St}{c:Cx}{k:Int}(I:k=y3c st.1 c.a+1)(h1:0<k)(D:k<st.1.length):y2v st c=(x2p st.1 k.toNat,st.2++[k*c.n]):=by
 subst I;unfold y2v;rw[if_pos ⟨h1,D⟩]
theorem u5v {st:St}{c:Cx}{k:Int}(D:k=y3c st.1 c.a+1)(h:¬(0<k/\k<st.1.length)):y2v st c=st:=by
 subst D;unfold y2v;rw[if_neg h]
theorem u3u (B:Bd)(r:Int)(st:St):z7j B r r st=st:=by unfold z7j;rw[if_neg (Int.lt_irrefl r),if_neg (Int.lt_irrefl r),Int.sub_self];rfl
theorem v3f {B:Bd}{r ro:Int}{st:St}(h:r≠ro):z7j B r ro st=z7j B (r+stI (if ro<r then 0 else 1)) ro (z3h st<|z2o B r (if ro<r then 0 else 1)):=by
 have w0:∀(d e r:Int) (st:St),y7r B d 0 r st=y7r B e 0 r st:=λ_ _ _ _=>rfl;by_cases c:ro<r;rw[if_pos c];unfold z7j;rw[if_pos c,if_pos c,show (r-ro).toNat=(r-1-ro).toNat+1 by omega];show y7r B 0 _ (r+stI 0) _=_;rw[show r+stI 0=r-1 from U];by_cases c2:ro<r-1;rw[if_pos c2,if_pos c2];rw[if_neg c2,if_neg c2,show (r-1-ro).toNat=0 by omega,show (ro-(r-1)).toNat=0 by omega];exact w0 _ _ _ _;rw[if_neg c];unfold z7j;rw[if_neg c,if_neg c,show (ro-r).toNat=(ro-(r+1)).toNat+1 by omega];show y7r B 1 _ (r+stI 1) _=_;rw[show r+stI 1=r+1 from U,if_neg oo,if_neg oo]
theorem x5m {B:Bd}(D:BdOk B)(d:Int):∀(n:Nat) (r:Int) (st:St),(y7r B d n r st).1.length=st.1.length/\(y7r B d n r st).2.length<=st.2.length+n*640
 | 0,r,st=>⟨rfl,by simp[y7r]⟩
 | n+1,r,st=>by
  obtain⟨I,Z⟩:=y0f (z2o B r d) st
  obtain⟨O,h4⟩:=x5m D d n (r+stI d)<|z3h st<|z2o B r d
  have:=y7o D r d
  exact⟨O.trans I,by show (y7r B d n (r+stI d)<|z3h st<|z2o B r d).2.length<=_;omega⟩
theorem x5e {B:Bd}(O:BdOk B){r ro:Int}(st:St)(h1:-4<=r/\r<=4)(Z:-4<=ro/\ro<=4):(z7j B r ro st).1.length=st.1.length/\(z7j B r ro st).2.length<=st.2.length+5120:=by
 unfold z7j;obtain⟨D,I⟩:=x5m O (if ro<r then 0 else 1) (if ro<r then r-ro else ro-r).toNat r st;refine⟨D,l37 I ?_⟩;have:(if ro<r then r-ro else ro-r).toNat<=8:=by split<;>omega
 omega
def opW (p:MSt)(o:MOp)(st:St):St:=if o.k=3 then z7j p.B p.rk o.r st else st
theorem v2x {p:MSt}{st:St}{o:MOp}{l:List MOp}(h:64<(opW p o st).2.length):z8n p st (o::l)=none:=by
 unfold opW at h;unfold z8n;simp only;rw[if_pos h]
theorem v3p {p q:MSt}{st:St}{o:MOp}{l:List MOp}(h:¬64<(opW p o st).2.length)(e:doM p o=.ok q):z8n p st (o::l)=z8n q (opW p o st) l:=by
 unfold opW at *
 conv=>lhs;unfold z8n
 simp only
 rw[if_neg h,e]
theorem u4t {l:List MOp}{i n:Nat}{p q:MSt}(h:z3u i p (l.drop n)=.ok q)(hn:n<l.length):l.drop n=l.getD n op0::l.drop (n+1)/\∃m,doM p (l.getD n op0)=.ok m/\z3u (i+1) m (l.drop<|n+1)=.ok q:=by
 have e:l.drop n=l.getD n op0::l.drop (n+1):=by rw[List.getD,l10 hn];exact l31 hn
 refine⟨e,?_⟩;rw[e]at h;unfold z3u at h;split at h;cases h;rename_i m D;exact⟨m,D,h⟩
theorem x6f {l:List MOp}(h:isP l=true){i:Nat}(hi:i<l.length):((l.getD i op0).k=3\/(l.getD i op0).k=7)/\z9i (l.getD i op0)=0:=by
 have:=l89.1 h (l.getD i op0) (by rw[List.getD,l10 hi];exact l109 hi);exact of_decide_eq_true this
theorem x8n {l:List MOp}(h:isP l=true)(n:Nat):isP (l.take n)=true:=l89.2 λo D=>l89.1 h o<|l92 D
theorem v0u {l:List MOp}{i:Nat}(hi:i<l.length)(h:¬(((l.getD i op0).k=3\/(l.getD i op0).k=7)/\z9i (l.getD i op0)=0)):isP l=false:=by
 cases e:isP l with
 | false=>rfl
 | true=>exact absurd (x6f e hi) h
theorem y9g {l:List MOp}(h:∀j,j<l.length->((l.getD j op0).k=3\/(l.getD j op0).k=7)/\z9i (l.getD j op0)=0):isP l=true:=l89.2 λo I=>by
 obtain⟨j,D,rfl⟩:=l29 I
 have:=h j D
 rw[List.getD,l10 D]at this
 exact decide_eq_true this
theorem y7m:∀ {l:List MOp} {i:Nat} {p:MSt} {x:Int} {n:Nat},z3u i p l=.error (x,n)->i<=n/\n<i+l.length/\∃m,z3u i p (l.take<|n-i)=.ok m
 | [],i,p,x,n,h=>by cases h
 | o::l,i,p,x,n,h=>by
  unfold z3u at h
  split at h
  ·rename_i e O
   cases h
   refine⟨l20 _,sp0,p,by rw[l95,l98];rfl⟩
  rename_i p1 D
  obtain⟨Z,k2,m,I⟩:=y7m h
  refine⟨oo,by rw[l34];omega,m,?_⟩
  rw[show n-i=(n-(i+1))+1 by omega,List.take_succ_cons]
  unfold z3u;rw[D];exact I
end Go.G26
namespace Go.G26
open Go.Lw Go.G21 Go.G08
structure KpW (S:List Nat) (J:Nat) (w w':World):Prop where
  size:w.heap.size<=w'.heap.size
  block:∀k,k<w.heap.size->k∉S->(∀cs:List Value,¬Blk w k J cs)->w'.heap[k]?=w.heap[k]?
section
variable {S S':List Nat} {J T T' base g:Nat} {w w':World}
theorem KpW.refl (S:List Nat)(J:Nat)(w:World):KpW S J w w:=⟨l20 _,λ_ _ _ _=>rfl⟩
theorem KpW.trans {a b c:World}(h:KpW S J a b)(D:KpW S J b c):KpW S J a c:=
 ⟨l37 h.size D.size,λk Z O I=>by
  have e:=h.block k Z O I
  rw[<-e]
  exact D.block k (l77 Z h.size) O λcs hb=>I cs<|e.symm.trans hb⟩
theorem KpW.of (hf:Fr S' w w')(D:∀k∈S',k∈S\/∃cs:List Value,Blk w k J cs):KpW S J w w':=
 ⟨hf.size,λk hk Z I=>hf.block k hk λhm=>by
  rcases D k hm with e|⟨cs,O⟩
  ·exact Z e
  exact I cs O⟩
theorem KpW.fr (hf:Fr [] w w'):KpW S J w w':=KpW.of hf λk D=>by cases D
theorem KpW.one (hf:Fr [g] w w')(I:g∈S):KpW S J w w':=KpW.of hf λk D=>by rw[l11]at D;subst D;exact .inl I
theorem KpW.app {α:Type}{E:Enc α}{v:Value}{ys:List α}(hf:Fr (z0u v) w w')(h:Lw.Own E J base w v ys):KpW S J w w':=KpW.of hf λk D=>.inr<|z9z h k D
theorem KpW.blk {k:Nat}{cs:List Value}(h:KpW S J w w')(hb:Blk w k T cs)(Z:k∉S)(O:T≠J):Blk w' k T cs:=
 (h.block k hb.lt Z λD I=>O<|v6i hb I).trans hb
theorem KpW.own {α:Type}{E:Enc α}{v:Value}{ys:List α}(h:KpW S J w w')(ho:Lw.Own E T base w v ys)(Z:∀k∈z0u v,k∉S)(I:T≠J):Lw.Own E T base w' v ys:=by
 rcases ho with ⟨rfl,rfl⟩|⟨g,cap,cur,rfl,O,D,r⟩
 exact Own.nil _;exact .inr ⟨g,cap,cur,rfl,O,KpW.blk (cs:=cur.toList) h D (Z g t10) I,r⟩
end
structure TyP where
  S:Nat
  I:Nat
  F:Nat
  L:Nat
  J:Nat
structure TyP.Ok (τ:TyP):Prop where
  fs:τ.F≠τ.S
  fi:τ.F≠τ.I
  fl:τ.F≠τ.L
  fj:τ.F≠τ.J
  sl:τ.S≠τ.L
  si:τ.S≠τ.I
  sj:τ.S≠τ.J
  il:τ.I≠τ.L
  ij:τ.I≠τ.J
  lj:τ.L≠τ.J
structure WdA where
  gf:Nat
  go:Nat
  gl:Nat
  gO:Nat
def WdA.lt (a:WdA)(b:Nat):Prop:=a.gf<b/\a.go<b/\a.gl<b/\a.gO<b
abbrev WdA.OV (a:WdA)(n:Nat):Value:=.slice (some ⟨a.gO,0,none⟩) n n
structure WdM (τ:TyP) (tv:Value) (wS:World) (a:WdA) (w:World) (q:BdQ) (rk:Int) (st:St):Prop where
  f:Blk w a.gf τ.F (bdL q++[.int .i64 rk,tv])
  b:BdAt wS q\/∃b',a.lt b'/\BdO τ.S τ.I b' w q
  o:Blk w a.go τ.S [a.OV st.1.length]
  od:Lw.Own z1g τ.I wS.heap.size w (a.OV st.1.length) st.1
  l:∃v,Blk w a.gl τ.L [v]/\Lw.Own Enc.i64 τ.J wS.heap.size w v st.2
  fr:Fr [] wS w
  gs:wS.heap.size<=a.gf/\wS.heap.size<=a.go/\wS.heap.size<=a.gl
section
variable {τ:TyP} {tv:Value} {wS w w' w1:World} {a:WdA} {q q':BdQ} {rk:Int} {st:St}
theorem WdM.bat (h:WdM τ tv wS a w q rk st):BdAt w q:=by
 rcases h.b with D|⟨I,_,D⟩
 exact D.ext h.fr;exact D.at
theorem WdM.next (h:WdM τ tv wS a w q rk st)(hf:Fr [] w w'):WdM τ tv wS a w' q rk st:=by
 obtain⟨v,I,hl⟩:=h.l;exact⟨h.f.ext hf,h.b.imp id λ⟨D,hb,ho⟩=>⟨D,hb,ho.ext hf⟩,h.o.ext hf,h.od.ext hf,⟨v,I.ext hf,hl.ext hf⟩,h.fr.next hf,h.gs⟩
theorem WdM.ext (h:WdM τ tv wS a w q rk st)(hf:Fr [] w w'):WdM τ tv wS a w' q rk st:=h.next hf
theorem WdM.nO (h:WdM τ tv wS a w q rk st){k T:Nat}{cs:List Value}(hb:Blk w k T cs)(D:T≠τ.I):k≠a.gO:=λe=>
 Own.neB h.od hb (l50 D) (by simp[z0u,e])
theorem u8m {k k' T T':Nat}{cs cs':List Value}(hb:Blk w k T cs)(D:Blk w k' T' cs')(I:T≠T'):k≠k':=λe=>I<|v6i hb (by rw[e];exact D)
theorem WdM.lts (h:WdM τ tv wS a w q rk st):a.lt w.heap.size:=by
 obtain⟨v,D,hl⟩:=h.l;exact⟨h.f.lt,h.o.lt,D.lt,(h.od.blk a.gO t10).2⟩
theorem u9n {S:List Nat}{J D I b:Nat}{v:Value}{l:List IQ}(h:RwO D I b w v l)(hk:KpW S J w w')(hS:∀k∈S,k<b)(h1:D≠J)(h2:I≠J):RwO D I b w' v l:=
 ⟨hk.own h.1 (λk O Z=>by have:=hS k Z;have:=(h.1.blk k O).1;omega) h1,λp hp=>hk.own (h.2 p hp) (λk O Z=>by have:=hS k Z;have:=((h.2 p hp).blk k O).1;omega) h2⟩
theorem WdM.tell (h:WdM τ tv wS a w q rk st)(D:τ.Ok){o:List LId}{ls:List Int}{v:Value}(O:KpW [a.gO,a.gl] τ.J w w')(ho:Blk w' a.go τ.S [a.OV o.length])(hd:Lw.Own z1g τ.I wS.heap.size w' (a.OV o.length) o)(hl:Blk w' a.gl τ.L [v])(hv:Lw.Own Enc.i64 τ.J wS.heap.size w' v ls)(hf:Fr [] wS w'):WdM τ tv wS a w' q rk (o,ls):=by
 obtain⟨u,hu,_⟩:=h.l;refine⟨O.blk h.f ?_ D.fj,h.b.imp id λ⟨Z,hb,hq⟩=>⟨Z,hb,?_⟩,ho,hd,⟨v,hl,hv⟩,hf,h.gs⟩;intro I;simp only[l55,l120,or_false]at I;rcases I with e|e
 exact h.nO h.f D.fi e;exact u8m h.f hu D.fl e;obtain⟨_,_,h3,h4⟩:=hb;have hS:∀k∈[a.gO,a.gl],k<Z:=λk I=>by
  simp only[l55,l120,or_false]at I;rcases I with rfl|rfl<;>assumption
 exact⟨u9n hq.f O hS D.sj D.ij,u9n hq.b O hS D.sj D.ij⟩
theorem WdM.keep (h:WdM τ tv wS a w q rk st)(D:τ.Ok)(hf:Fr [a.gf] w w'):(Blk w' a.go τ.S [a.OV st.1.length]/\Lw.Own z1g τ.I wS.heap.size w' (a.OV st.1.length) st.1/\∃v,Blk w' a.gl τ.L [v]/\Lw.Own Enc.i64 τ.J wS.heap.size w' v st.2)/\Fr [] wS w':=by
 obtain⟨v,Z,hl⟩:=h.l;refine⟨⟨y4f h.o hf<|OffT.one h.f D.fs,z2a h.od hf<|OffT.one h.f D.fi,v,y4f Z hf<|OffT.one h.f D.fl,z2a hl hf<|OffT.one h.f D.fj⟩,h.fr.step hf λk I O=>?_⟩;rw[l11]at I;subst I;exact absurd h.gs.1 oo
theorem WdM.rack (h:WdM τ tv wS a w q rk st)(D:τ.Ok){r:Int}(hb:Blk w' a.gf τ.F (bdL q++[.int .i64 r,tv]))(hf:Fr [a.gf] w w'):WdM τ tv wS a w' q r st:=by
 obtain⟨⟨O,Z,h3⟩,h4⟩:=h.keep D hf;exact⟨hb,h.b.imp id λ⟨I,hb,hq⟩=>⟨I,hb,hq.tf hf (OffT.one h.f D.fs)<|OffT.one h.f D.fi⟩,O,Z,h3,h4,h.gs⟩
theorem WdM.put (h:WdM τ tv wS a w q rk st)(I:τ.Ok){b':Nat}(D:a.lt b')(hq:BdO τ.S τ.I b' w q')(hb:Blk w' a.gf τ.F (bdL q'++[.int .i64 rk,tv]))(hf:Fr [a.gf] w w'):WdM τ tv wS a w' q' rk st:=by
 obtain⟨⟨O,Z,h3⟩,h4⟩:=h.keep I hf;exact⟨hb,.inr ⟨b',D,hq.tf hf (OffT.one h.f I.fs)<|OffT.one h.f I.fi⟩,O,Z,h3,h4,h.gs⟩
end
end Go.G26
namespace Go.Proofs.YtlfdhllfmoplgaaGreatDoor
open Go.Lw Go.G21 Go.G08 Go.G26 _root_.Go.Proofs.Tryz
theorem k1u:z2d prog 22:=λ_=>kr
theorem sz22:z1r prog 22 1:=λ_=>kr
abbrev τp:TyP:=⟨30,64,134,22,3⟩
theorem τpk:τp.Ok:=⟨dd,dd,dd,dd,dd,dd,dd,dd,dd,dd⟩
abbrev tvW (a:WdA):Value:=.func (.func 57) #[] #[.pointer (some ⟨a.go,0,none⟩),.pointer (some ⟨a.gl,0,none⟩)]
theorem u8q (v:Value)(l:List LId)(x:LId)(w0:World)(hs:Sl z1g w0 v l)(hl:l.length<=100000):Rets prog 58 #[v,ivv x] w0 λr w'=>r=.int .i64 (y3c l x)/\Fr [] w0 w':=by
 obtain⟨A,k,rfl,hk⟩:=id hs.form;refine we [(0,.slice A l.length k),(1,ivv x)] func58 U ntmps58 U (.c2 U U) ?_;have a1:=hs;refine sr<|bx U<|λg3 w1 a3 D q1 z1=>(asg U<|nn<|sq<|sr<|mv U U<|lnS U underlying30<|mv U U<|nn<|bl<|lpK (ι:=Nat) (ll3 0 3 7) (λi=>[(8,.int .i64 (i:Int))]) (λi w'=>Fr [] w1 w'/\i<=l.length/\∀j,j<i->l.getD j id0≠x) (λi=>l.length-i) 0 (csu U) ⟨l12 _ _,⟨l17 _,λj h=>absurd h oo⟩⟩ ?_);rintro i w2 ⟨q2,⟨hi,hz⟩⟩;refine kpC (ll4 0 3 7 8) (csu U)<|sr<|lt' U<|nn<|sq<|cd U (λc0=>?_)<|λc0=>?_;refine sk<|tn<|sq<|bl<|sr<|mv U U<|asg U<|nn<|sq ?_;have hs:=a1.ext<|q1.n1 q2;have D:=D.ext q2;intro a h;have O:=l12 [] w2;refine z2y (λwb w'=>Fr [] wb w') z2r ?_;intro w3 hq;have hs:=hs.ext hq;have D:=D.ext hq;have O:=O.next hq;have a4:=hq.size;have hC:Fr [] w3 w3:=l12 _ _;have Z:=hs;have I:=D;refine z0x 0 h U (λ_ hw=>I.ext hw) z2z U λa h=>z0e 1 h U λa h=>z0e 2 h U λa h=>z1e (id0) 3 h U hs U z4k U ?_ (hp:=rfl);intro a2 a0 a h;refine z2e 4 h wn U (λ_ hw=>a0 _<|Z.ext hw) z2z U λa h=>j7b (V:=idV) (e:=_) (f:=_) 5 kr kr kr hC h wn U U k3n U U λa h=>z0p ?_;clear hC Z I;refine bk (h.sub (L':=ll6 0 3 5 7 8 16)<|csu U)<|tn<|cd U (λc1=>?_)<|λc1=>?_;refine sr<|mv U U<|asg U<|kpL (ll1 4) (csu U)<|nn<|rt<|rb<|tr<|tr<|rb<|tr<|r1 results58 U ?_;exact⟨_,rfl,congrArg (Value.int .i64) (j5i oo c1.symm hz).symm,(q1.n2 q2 O)⟩;refine sk<|bn'<|tn<|rg<|z0v U (wi6 oo)<|mv U U<|nl ?_;exact lpE (i+1) (csu U) ⟨(q2.n1 O),⟨oo,λj h=>by
  by_cases e:j=i;subst e;exact λhh=>c1 hh.symm;exact hz j oo⟩⟩ oo
 obtain rfl:i=l.length:=by omega
 refine ex<|te<|te<|xh<|tn<|sr<|asg U<|nn<|rt<|r1 results58 U ?_;exact⟨_,rfl,congrArg (Value.int .i64) (j0a<|λj hj=>hz j oo).symm,(q1.n1 q2)⟩
theorem j3s (go gl gO base:Nat)(lv v:Value)(ord:List LId)(ls:List Int)(cs:List Cx)(wS w0:World)(hF:Fr [] wS w0)(g9:wS.heap.size<=go)(g8:wS.heap.size<=gl)(g3:wS.heap.size<=base)(I:Blk w0 go 30 [.slice (saa gO) ord.length ord.length])(ho:Lw.Own z1g 64 base w0 (.slice (saa gO) ord.length ord.length) ord)(O:Blk w0 gl 22 [lv])(hl:Lw.Own Enc.i64 3 base w0 lv ls)(Z:Lw.Own z5s 101 0 w0 v cs)(hn:ord.length<=1000)(h5:ls.length+cs.length<=1000000)(e9:∀c∈cs,-1<=c.n/\c.n<=1):Rets prog 57 #[v,pta go,pta gl] w0 λr w'=>r=.tuple #[]/\(∃u,Blk w' go 30 [.slice (saa gO) ord.length ord.length]/\Lw.Own z1g 64 base w' (.slice (saa gO) ord.length ord.length) (z3h (ord,ls) cs).1/\Blk w' gl 22 [u]/\Lw.Own Enc.i64 3 base w' u (z3h (ord,ls) cs).2)/\KpW [gO,gl] 3 w0 w'/\Fr [] wS w':=by
 obtain⟨A,c,rfl,g4⟩:=Z.sl.form;have h6:=hF.size;have b6:go≠gO:=λe=>Own.neB ho I dd (by simp[z0u,e]);have f8:gl≠gO:=λe=>Own.neB ho O dd (by simp[z0u,e]);have g1:go≠gl:=u8m I O dd;have f6:=(ho.blk gO t10).1;have f5:=(ho.blk gO t10).2;have f9:=I.lt;have f7:=O.lt;have a5:=Own.neB Z O dd;have a6:gO∉z0u (.slice A cs.length c):=λhk=>Own.neO Z ho dd gO hk t10;refine we [(0,.slice A cs.length c),(1,pta go),(2,pta gl)] func57 U ntmps57 U (.c3 U U U)<|sr<|mv U U<|lnS U underlying97<|mv U U<|nn<|bl<|lpK (ι:=Nat×Value) (ll4 1 2 7 8) (λp=>[(9,.int .i64 (p.1:Int))]) (λp w'=>Fr [] wS w'/\p.1<=cs.length/\Blk w' go 30 [.slice (saa gO) ord.length ord.length]/\Lw.Own z1g 64 base w' (.slice (saa gO) ord.length ord.length) (z3h (ord,ls)<|cs.take p.1).1/\Blk w' gl 22 [p.2]/\Lw.Own Enc.i64 3 base w' p.2 (z3h (ord,ls)<|cs.take p.1).2/\(KpW [gO,gl] 3 w0 w'/\Lw.Own z5s 101 0 w' (.slice A cs.length c) cs)) (λp=>cs.length-p.1) (0,lv) (csu U) ⟨hF,⟨l17 _,I,ho,O,hl,KpW.refl _ _ _,Z⟩⟩ ?_;rintro⟨i,uI⟩ w1 ⟨q1,⟨f0,I,ho,O,hl,b9,Z⟩⟩;simp only at f0 I ho O hl Z;have z1:=q1.size;have e4:=I.lt;have e3:=O.lt;refine kpC [(1,_),(2,_),(7,_),(8,_),(9,.int .i64 (i:Int))] (csu U) ?_;have h4:=b9.size;have a7:=Own.neB hl O dd;have a8:gO∉z0u uI:=λhk=>Own.neO hl ho dd gO hk t10;refine sr<|lt' U<|nn<|sq<|cd U (λc0=>?_)<|λc0=>?_;have c9:i<cs.length:=by omega
 have g6:=e9 (cs.getD i cx0)<|z0z (d:=cx0) c9;obtain⟨e8,d6⟩:=y0f (cs.take i) (ord,ls);simp only at e8 d6;rw[List.length_take_of_le oo]at d6;have h0:=u5t (z3h (ord,ls)<|cs.take i).1 (cs.getD i cx0).a;have h3:-1000000<=((y3c (z3h (ord,ls)<|cs.take i).1 (cs.getD i cx0).a)+1)*(cs.getD i cx0).n/\((y3c (z3h (ord,ls)<|cs.take i).1 (cs.getD i cx0).a)+1)*(cs.getD i cx0).n<=1000000:=by
  rcases(show (cs.getD i cx0).n = -1\/(cs.getD i cx0).n=0\/(cs.getD i cx0).n=1 by omega) with e|e|e<;>rw[e]<;>omega
 refine sk<|tn<|sq<|bl<|sr<|z1b (cx0) U Z.sl U v1w z1j<|λf2 d7=>?_;refine z1q U (d7 _ Z.sl) x6e<|al j0x U<|λg5 w2 g7 a4 q2 z2=>?_;refine z0i (vs:=[_,_,_,_,_]) U a4 v3d (λw3 a4 q3 z3=>?_) (h1:=(by first|(simp[Value.oneCell',S];done)|exact Enc.one _ _|exact Enc.i64.one _));refine nn<|sr ?_;have I:=(I.ext q2).fr q3;refine z1x U I z6f<|fad U x0d<|z1v (vs:=[_,_]) U a4 z2z U ?_;have ho:=(ho.ext q2).fr q3 (by first|exact z9l ho oo|simp[z0u]<;>omega);refine cl (ev2 U) (mkC func58) (u8q _ (z3h (ord,ls)<|cs.take i).1 (cs.getD i cx0).a _ ho.sl oo) U ?_;rintro _ w4 ⟨rfl,q4⟩;have z4:=q4.size;refine z0v U (wi6 oo)<|asg U<|nn<|sq<|rbo (r:=25) (L':=ll7 1 2 5 6 7 8 9) (((0<((y3c (z3h (ord,ls)<|cs.take i).1 (cs.getD i cx0).a)+1))/\(((y3c (z3h (ord,ls)<|cs.take i).1 (cs.getD i cx0).a)+1)<(ord.length:Int)))) (csu U) ?_ ?_;refine mv U U<|gt' U<|mv U U<|gs 20 U (λg0=>?_)<|λg0=>?_;refine gY U<|mv U U<|gY U ?_;have I:=I.ext q4;exact z1x U I z6f<|gY U<|lnS U underlying30<|gY U<|lt' U<|pkt U<|rbe U<|csu U;exact gN U<|gN U<|gN U<|gN U<|pkf U<|rbe U<|csu U;refine tn<|cd U (λc1=>?_)<|λc1=>?_;obtain⟨k,hk⟩:∃k:Nat,(k:Int)=((y3c (z3h (ord,ls)<|cs.take i).1 (cs.getD i cx0).a)+1):=⟨(((y3c (z3h (ord,ls)<|cs.take i).1 (cs.getD i cx0).a)+1)).toNat,Int.toNat_of_nonneg oo⟩;have h2:1<=k/\k<ord.length:=by omega
 have b3:z3h (ord,ls) (cs.take<|i+1)=(((z3h (ord,ls)<|cs.take i).1.set (k-1)<|(z3h (ord,ls)<|cs.take i).1.getD k id0).set k<|(z3h (ord,ls)<|cs.take i).1.getD (k-1) id0,(z3h (ord,ls)<|cs.take i).2++[((y3c (z3h (ord,ls)<|cs.take i).1 (cs.getD i cx0).a)+1)*(cs.getD i cx0).n]):=by
  rw[y8t c9,v7n U oo oo,show (((y3c (z3h (ord,ls)<|cs.take i).1 (cs.getD i cx0).a)+1)).toNat=k by omega];rfl
 refine sq ?_;intro a h;refine z0h (some 17) (λwb w'=>Fr [gO] wb w') z2r ?_;intro w5 q5;have z5:=q5.size;have I:=I.ext<|q4.n1 q5;have ho:=ho.ext<|q4.n1 q5;have hC:Fr [gO] w5 w5:=l12 _ _;have a3:=I;have d4:=ho;refine z7g 0 hC h wn U (λ_ hw=>a3.fr hw<|λk_=>b6<|l11.1 k_) z6f U λa h=>z0e 1 h U λa h=>z2v 2 h U t13 U λa h=>z7g 3 hC h wn U (λ_ hw=>a3.fr hw<|λk_=>b6<|l11.1 k_) z6f U λa h=>z0e 4 h U λa h=>z7g 5 hC h wn U (λ_ hw=>a3.fr hw<|λk_=>b6<|l11.1 k_) z6f U λa h=>z0e 6 h U λa h=>z1e (p:=k) (id0) 7 h U ho.sl U z4k U λf3 d1 a h=>z7g 9 hC h wn U (λ_ hw=>a3.fr hw<|λk_=>b6<|l11.1 k_) z6f U λa h=>z0e 10 h U λa h=>z2v 11 h U t13 U λa h=>z1e (p:=(k-1)) (id0) 12 h U ho.sl U z4k U λf4 d3 a h=>z1w 8 13 kr U ?_ ?_;refine z1p h U (d1 _ ho.sl) z2z U λa h=>z0b<|z0d 13 U<|z1p h U (d3 _ ho.sl) z2z U λa h=>?_;refine z0b<|z1l 14 kr kr kr hC (p:=(k-1)) h wn U z4k oo oo oo U U λa h=>z0d 15 U<|z1a (i:=(k-1)) (((z3h (ord,ls)<|cs.take i).1.getD k id0)) h U ho oo U y0i λw6 a1 q6 _hz a h=>?_;have z6:=q6.size;have I:=I.fr q6;have hC:=hC.sp q6;have ho:=a1;clear a1;refine z0b<|z1l 16 kr kr kr hC (p:=k) h wn U z4k oo oo oo U U λa h=>z0d 17 U<|z1a (i:=k) (((z3h (ord,ls)<|cs.take i).1.getD (k-1) id0)) h U ho t29 U y0i λw7 a1 q7 _hz a h=>?_;have z7:=q7.size;have I:=I.fr q7;have ho:=a1;clear a1;refine z1m<|z0p ?_;clear hC a3 d4;refine bk (h.sub (L':=ll7 1 2 5 6 7 8 9)<|csu U)<|tn<|rg ?_;have O:=((((O.ext q2).fr q3).ext<|q4.n1 q5).fr q6).fr q7;refine z1x U O k1u<|mv U U<|fad U x8e ?_;have a4:=((a4.ext<|q4.n1 q5).fr q6).fr q7;refine z0j U a4 U na3<|y9m U U (wi6 oo)<|z1i ([((y3c (z3h (ord,ls)<|cs.take i).1 (cs.getD i cx0).a)+1)*(cs.getD i cx0).n]) (ev1 U) U y0j<|λe7 w8 e0 d0 q8 z8=>?_;have O:=O.ext q8;have I:=I.ext q8;have ho:=ho.ext q8;have Z:=(((((Z.ext q2).fr q3 (by intro k hk D;rw[l11.1 hk]at D;first|exact a5 D|exact a6 D|(have:=(Z.blk _ D).2;omega))).ext<|q4.n1 q5).fr q6 (by intro k hk D;rw[l11.1 hk]at D;first|exact a5 D|exact a6 D|(have:=(Z.blk _ D).2;omega))).fr q7 (by intro k hk D;rw[l11.1 hk]at D;first|exact a5 D|exact a6 D|(have:=(Z.blk _ D).2;omega))).ext q8;have hl:=(((((hl.ext q2).fr q3 (by intro k hk D;rw[l11.1 hk]at D;first|exact a8 D|exact a7 D|exact a2 D|(have:=(hl.blk _ D).2;omega))).ext<|q4.n1 q5).fr q6 (by intro k hk D;rw[l11.1 hk]at D;first|exact a8 D|exact a7 D|exact a2 D|(have:=(hl.blk _ D).2;omega))).fr q7 (by intro k hk D;rw[l11.1 hk]at D;first|exact a8 D|exact a7 D|exact a2 D|(have:=(hl.blk _ D).2;omega))).ext q8;have a0:=hl;refine z2k U hl d0.sl y0j<|λf1 w9 hl q9 d5=>?_;obtain⟨e5,e6,rfl,d9⟩:=hl.sl.form;have z9:=q9.size;have O:=O.fr q9<|λhk=>a0.neB O dd hk;have I:=I.fr q9<|λhk=>a0.neB I dd hk;have ho:=ho.fr q9<|λk_ b1 b2=>(Own.neO a0 ho dd) k_ b1 b2;have Z:=Z.fr q9<|λk_ b1 b2=>(Own.neO a0 Z dd) k_ b1 b2;have a2:=Own.neB hl O dd;refine z3g U O U sz22<|λh7 O b7 i3=>(kpL (ll5 1 2 7 8 9) (csu U)<|nl<|bn'<|tn<|rg<|z0v U (wi6 oo)<|mv U U<|nl ?_);have I:=I.fr b7;have ho:=ho.fr b7 (by first|exact z9l ho oo|simp[z0u]<;>omega);have hl:=hl.fr b7 (by intro k hk D;rw[l11.1 hk]at D;first|exact a8 D|exact a7 D|exact a2 D|(have:=(hl.blk _ D).2;omega));have Z:=Z.fr b7 (by intro k hk D;rw[l11.1 hk]at D;first|exact a5 D|exact a6 D|(have:=(Z.blk _ D).2;omega));exact lpE ((i+1,_)) (csu U) ⟨((((q1.z6 q2 q3 q4 q5 q6 q7).n1 q8).step q9<|λk hk c9=>absurd (a0.blk k hk).1 oo).z1 b7),⟨sm,I,by rw[b3];exact ho,O,by rw[b3];exact hl,b9.trans (KpW.trans (KpW.trans (KpW.trans (KpW.trans (KpW.trans (KpW.fr<|q2.z3 q3 q4 q5)<|KpW.one q6 sp0)<|KpW.one q7 sp0)<|KpW.fr q8)<|KpW.app q9 a0)<|KpW.one b7 sp0),Z⟩⟩ sm;refine z1p h U (d3 _ ho.sl) z2z U λa h=>z0b<|z0d 8 U<|z1p h U (d1 _ ho.sl) z2z U λa h=>?_;refine z0b<|z1l 14 kr kr kr hC (p:=(k-1)) h wn U z4k oo oo oo U U λa h=>z0d 15 U<|z1a (i:=(k-1)) (((z3h (ord,ls)<|cs.take i).1.getD k id0)) h U ho oo U y0i λh8 a1 a9 _hz a h=>?_;have i4:=a9.size;have I:=I.fr a9;have hC:=hC.sp a9;have ho:=a1;clear a1;refine z0b<|z1l 16 kr kr kr hC (p:=k) h wn U z4k oo oo oo U U λa h=>z0d 17 U<|z1a (i:=k) (((z3h (ord,ls)<|cs.take i).1.getD (k-1) id0)) h U ho t29 U y0i λh9 a1 b0 _hz a h=>?_;have i5:=b0.size;have I:=I.fr b0;have ho:=a1;clear a1;refine z1m<|z0p ?_;clear hC a3 d4;refine bk (h.sub (L':=ll7 1 2 5 6 7 8 9)<|csu U)<|tn<|rg ?_;have O:=((((O.ext q2).fr q3).ext<|q4.n1 q5).fr a9).fr b0;refine z1x U O k1u<|mv U U<|fad U x8e ?_;have a4:=((a4.ext<|q4.n1 q5).fr a9).fr b0;refine z0j U a4 U na3<|y9m U U (wi6 oo)<|z1i ([((y3c (z3h (ord,ls)<|cs.take i).1 (cs.getD i cx0).a)+1)*(cs.getD i cx0).n]) (ev1 U) U y0j<|λe7 i0 e0 d0 b4 i7=>?_;have O:=O.ext b4;have I:=I.ext b4;have ho:=ho.ext b4;have Z:=(((((Z.ext q2).fr q3 (by intro k hk D;rw[l11.1 hk]at D;first|exact a5 D|exact a6 D|(have:=(Z.blk _ D).2;omega))).ext<|q4.n1 q5).fr a9 (by intro k hk D;rw[l11.1 hk]at D;first|exact a5 D|exact a6 D|(have:=(Z.blk _ D).2;omega))).fr b0 (by intro k hk D;rw[l11.1 hk]at D;first|exact a5 D|exact a6 D|(have:=(Z.blk _ D).2;omega))).ext b4;have hl:=(((((hl.ext q2).fr q3 (by intro k hk D;rw[l11.1 hk]at D;first|exact a8 D|exact a7 D|exact a2 D|(have:=(hl.blk _ D).2;omega))).ext<|q4.n1 q5).fr a9 (by intro k hk D;rw[l11.1 hk]at D;first|exact a8 D|exact a7 D|exact a2 D|(have:=(hl.blk _ D).2;omega))).fr b0 (by intro k hk D;rw[l11.1 hk]at D;first|exact a8 D|exact a7 D|exact a2 D|(have:=(hl.blk _ D).2;omega))).ext b4;have a0:=hl;refine z2k U hl d0.sl y0j<|λf1 i1 hl b5 d5=>?_;obtain⟨e5,e6,rfl,d9⟩:=hl.sl.form;have i8:=b5.size;have O:=O.fr b5<|λhk=>a0.neB O dd hk;have I:=I.fr b5<|λhk=>a0.neB I dd hk;have ho:=ho.fr b5<|λk_ b1 b2=>(Own.neO a0 ho dd) k_ b1 b2;have Z:=Z.fr b5<|λk_ b1 b2=>(Own.neO a0 Z dd) k_ b1 b2;have a2:=Own.neB hl O dd;refine z3g U O U sz22<|λi2 O b8 i9=>(kpL (ll5 1 2 7 8 9) (csu U)<|nl<|bn'<|tn<|rg<|z0v U (wi6 oo)<|mv U U<|nl ?_);have I:=I.fr b8;have ho:=ho.fr b8 (by first|exact z9l ho oo|simp[z0u]<;>omega);have hl:=hl.fr b8 (by intro k hk D;rw[l11.1 hk]at D;first|exact a8 D|exact a7 D|exact a2 D|(have:=(hl.blk _ D).2;omega));have Z:=Z.fr b8 (by intro k hk D;rw[l11.1 hk]at D;first|exact a5 D|exact a6 D|(have:=(Z.blk _ D).2;omega));exact lpE ((i+1,_)) (csu U) ⟨((((q1.z6 q2 q3 q4 q5 a9 b0).n1 b4).step b5<|λk hk c9=>absurd (a0.blk k hk).1 oo).z1 b8),⟨sm,I,by rw[b3];exact ho,O,by rw[b3];exact hl,b9.trans (KpW.trans (KpW.trans (KpW.trans (KpW.trans (KpW.trans (KpW.fr<|q2.z3 q3 q4 q5)<|KpW.one a9 sp0)<|KpW.one b0 sp0)<|KpW.fr b4)<|KpW.app b5 a0)<|KpW.one b8 sp0),Z⟩⟩ sm;have b3:z3h (ord,ls) (cs.take<|i+1)=(z3h (ord,ls)<|cs.take i):=by rw[y8t c9,u5v U oo]
 refine sk<|bn'<|tn<|rg<|z0v U (wi6 oo)<|mv U U<|nl ?_;have I:=I.ext q4;have ho:=ho.ext q4;have O:=((O.ext q2).fr q3).ext q4;have hl:=((hl.ext q2).fr q3 (by intro k hk D;rw[l11.1 hk]at D;first|exact a8 D|exact a7 D|exact a2 D|(have:=(hl.blk _ D).2;omega))).ext q4;have Z:=((Z.ext q2).fr q3 (by intro k hk D;rw[l11.1 hk]at D;first|exact a5 D|exact a6 D|(have:=(Z.blk _ D).2;omega))).ext q4;exact lpE ((i+1,_)) (csu U) ⟨(q1.z3 q2 q3 q4),⟨sm,I,by rw[b3];exact ho,O,by rw[b3];exact hl,b9.trans (KpW.fr<|q2.z2 q3 q4),Z⟩⟩ sm;obtain rfl:i=cs.length:=by omega
 rw[l39]at ho hl;exact ex<|te<|te<|xh<|r0n results57  ⟨_,rfl,rfl,⟨_,I,ho,O,hl⟩,b9,q1⟩
theorem x1q:z1d prog 134 0 0:=λ_ _=>kr
theorem y1o:z1d prog 134 1 2:=λ_ _=>kr
theorem v6r:z1d prog 134 2 3:=λ_ _=>kr
theorem k4x:z2d prog 132:=λ_=>kr
theorem u2b (wS:World)(Z:WdA)(q:BdQ)(rk:Int)(st:G26.St)(ro:Int)(w0:World)(I:WdM τp (tvW Z) wS Z w0 q rk st)(hv:BdOk q.p)(a5:StT wS)(hr:-4<=rk/\rk<=4)(ht:-4<=ro/\ro<=4)(b3:st.1.length<=1000)(b4:st.2.length<=64):Rets prog 59 #[pta Z.gf,.int .i64 ro] w0 λr w'=>r=.tuple #[]/\WdM τp (tvW Z) wS Z w' q ro (z7j q.p rk ro st):=by
 refine we [(0,pta Z.gf),(1,.int .i64 ro)] func59 U ntmps59 U (.c2 U U) ?_;have a1:=I;refine bl<|lpK (ι:=Nat) (ll2 0 1) (λn=>[]) (λn w'=>∃(D:Int) (O:G26.St),(z7j q.p rk ro st=z7j q.p D ro O/\(-4<=D/\D<=4)/\-(n:Int)<=ro-D/\ro-D<=n/\O.1.length=st.1.length/\O.2.length+640*n<=5184)/\WdM τp (tvW Z) wS Z w' q D O) (λn=>n) 8 (csu U) ⟨rk,st,⟨rfl,hr,oo,oo,rfl,oo⟩,I⟩ ?_;rintro n w1 ⟨D,O,⟨a4,a8,b0,b1,a9,b5⟩,I⟩;have a1:=I;refine kpC (ll2 0 1) (csu U) ?_;have hk:=I.f;refine sq<|sr<|mv U U<|nlc U<|fad U y1o<|z0j U hk U na3<|mv U U<|ne' U<|nn<|cd U (λc0=>?_)<|λc0=>?_;have a7:D≠ro:=c0;have b6:=(y0f (z2o q.p D (if ro<D then (0:Int) else 1)) O).2;have b7:=y7o hv D (if ro<D then (0:Int) else 1);have b8:-1<=stI (if ro<D then (0:Int) else 1)/\stI (if ro<D then (0:Int) else 1)<=1:=by unfold stI;split<;>simp
 refine sk<|tn<|bl<|sr<|asg U<|asg U<|nn<|jn (ι:=Unit) (ll2 0 1) (λ_j=>[(4,.int .u8 (if ro<D then (0:Int) else 1)),(5,.int .i64<|stI (if ro<D then (0:Int) else 1))]) (λ_j w'=>Fr [] w1 w') (csu U) ?_ ?_;refine sr<|mv U U<|mv U U<|nlc U<|fad U y1o<|z0j U hk U na3<|lt' U<|nn<|cd U (λc1=>?_)<|λc1=>?_;refine rg<|asg U<|asg U<|nl ?_;exact jE (()) (.c4 U U (congrArg (λz=>some<|Value.int .u8 z) (by first|exact(if_pos c1).symm|exact(if_neg c1).symm))<|congrArg (λz=>some<|Value.int .i64 z) (by first|(rw[show (if ro<D then (0:Int) else 1)=0 from if_pos c1];rfl)|(rw[show (if ro<D then (0:Int) else 1)=1 from if_neg c1];rfl)))<|l12 _ _;refine sk ?_;exact jE (()) (.c4 U U (congrArg (λz=>some<|Value.int .u8 z) (by first|exact(if_pos c1).symm|exact(if_neg c1).symm))<|congrArg (λz=>some<|Value.int .i64 z) (by first|(rw[show (if ro<D then (0:Int) else 1)=0 from if_pos c1];rfl)|(rw[show (if ro<D then (0:Int) else 1)=1 from if_neg c1];rfl)))<|l12 _ _;rintro _j w2 q2;refine kpC (ll4 0 1 4 5) (csu U)<|sq ?_;have I:=a1.ext q2;intro a h;refine z0h none (λwb w'=>Fr [] wb w') z2r ?_;intro w3 q3;have I:=I.ext q3;have hk:=hk.ext<|q2.n1 q3;have hC:Fr [] w3 w3:=l12 _ _;have a2:=I;have a0:=hk;refine z0e 0 h U λa h=>z0o 1 h U λa h=>z0c 2 h U x1q U λa h=>z1h (vs:=[_,_]) 3 h U (λ_ hw=>(a0.ext hw)) z5a U U λa h=>z0e 4 h U λa h=>z0o 5 h U λa h=>z0c 6 h U y1o U λa h=>z0m 7 h U (λ_ hw=>a0.ext hw) U na3 U λa h=>z0e 8 h U λa h=>z0d 9 U ?_;refine z0n h (z0a U<|z0a U<|z0a U z0f) (mkC func36) (v9s q D (if ro<D then (0:Int) else 1) _ I.bat hv (a5.ext I.fr) a8 (by split<;>simp) t63) ?_;rintro _ w4 ⟨⟨gx,rfl,b2,hX⟩,q4⟩ a h;have I:=I.ext q4;have hk:=hk.ext q4;have hC:=hC.next q4;refine z0b<|z0e 10 h U λa h=>z0l 11 h U λa h=>z0l 12 h U λa h=>z0d 13 U<|z0q h U λa h=>?_;refine z0b<|z0d 14 U<|z0q h U λa h=>?_;refine z0b<|z0p ?_;clear hC a2 a0;refine bk (h.sub (L':=ll4 0 1 5 6)<|csu U)<|tn<|sr<|mv U U<|nlc U<|fad U v6r<|z0j U hk U k4x<|mv U U ?_;obtain⟨lv,a3,hl⟩:=I.l;refine clv (us:=[]) (ws:=[pta Z.go,pta Z.gl]) U (ev1 U) (mkC func57) (j3s Z.go Z.gl Z.gO wS.heap.size lv _ O.1 O.2 (z2o q.p D (if ro<D then (0:Int) else 1)) wS _ I.fr I.gs.2.1 I.gs.2.2 (l20 _) I.o I.od a3 hl (hX.low<|l17 _) oo oo k1j) U t14 ?_;rintro _ w5 ⟨rfl,⟨b9,k1,k2,k3,k4⟩,kk,kf⟩;have hT:=(y0f (z2o q.p D (if ro<D then (0:Int) else 1)) O).1;have I:=I.tell τpk (o:=(z3h O<|z2o q.p D (if ro<D then (0:Int) else 1)).1) (ls:=(z3h O<|z2o q.p D (if ro<D then (0:Int) else 1)).2) kk (by rw[hT];exact k1) (by rw[hT];exact k2) k3 k4 kf;have a1:=I;have hk:=I.f;clear a3 hl k1 k2 k3 k4 kk;refine kpL (ll3 0 1 5) (csu U)<|nn<|rg<|mv U U<|nlc U<|fad U y1o<|z0j U hk U na3<|mv U U<|z0v U (wi6 oo)<|nlc U<|fad U y1o<|z3j U hk U sz3<|λw6 a6 q6 z6=>?_;have I:=I.rack τpk (r:=D+stI (if ro<D then (0:Int) else 1)) a6 q6;have a1:=I;refine kpL (ll2 0 1) (csu U)<|nl<|bn' ?_;exact lpE ((n-1)) (csu U) ⟨D+stI (if ro<D then (0:Int) else 1),z3h O<|z2o q.p D (if ro<D then (0:Int) else 1),⟨by rw[a4,v3f a7],t63,t63,t63,hT.trans a9,oo⟩,I⟩ oo;refine ex<|te<|te<|xh<|r0n results59  ?_;obtain rfl:D=ro:=by omega
 exact⟨_,rfl,rfl,by rw[a4,u3u];exact I⟩
theorem u6q (wS:World)(ka:WdA)(q:BdQ)(rk:Int)(st:G26.St)(b p:Int)(n m:Nat)(w0:World)(hW:WdM τp (tvW ka) wS ka w0 q rk st)(hv:BdOk q.p)(a9:p=(n:Int))(b1:z5q b p rk=(m:Int))(hn:z4d b p=0)(hm:z4d (1-b) (z5q b p rk)=0)(c9:(q.p.at b p)≠[])(h4:(q.p.at b p).length+(q.p.at (1-b)<|z5q b p rk).length<=4)(hr:-4<=rk/\rk<=4):Rets prog 60 #[pta ka.gf,.agg #[.int .u8 b,.int .i64 p]] w0 λr w'=>r=.tuple #[]/\∃q':BdQ,WdM τp (tvW ka) wS ka w' q' rk st/\q'.p=(q.p.put b p []).put (1-b) (z5q b p rk) (y1w q.p b p<|z5q b p rk):=by
 have e0:=z2t hn;have hk:=hW.f;have d9:=hk.lt;have b3:=hW.lts;refine we [(0,pta ka.gf),(1,.agg #[.int .u8 b,.int .i64 p])] func60 U ntmps60 U (.c2 U U) ?_;have b4:=hW;refine sr<|bx U<|λg3 w1 d7 D q1 z1=>(nn<|sq ?_);intro a h;refine z0h none (λwb w'=>Fr [] wb w') z2r ?_;intro w2 q2;have z2:=q2.size;have hk:=hk.ext<|q1.n1 q2;have D:=D.ext q2;have hC:Fr [] w2 w2:=l12 _ _;have a0:=hk;have O:=D;refine z0c 0 h U z6r U λa h=>z0m 1 h U (λ_ hw=>O.ext hw) U na3 U λa h=>z0e 2 h U λa h=>z0o 3 h U λa h=>z0c 4 h U y1o U λa h=>z0m 5 h U (λ_ hw=>a0.ext hw) U na3 U λa h=>z2v 6 h U t13 U λa h=>z3f (cs:=[_,_]) 7 h (z0a U<|z0a U z0f) y7p (z0g U<|z0g U z0r) U U λa h=>z0d 8 U ?_;refine z0w h x9o U λw3 I q3 hz a h=>?_;obtain⟨a1,hg⟩:∃g,g=w2.heap.size:=⟨_,rfl⟩;rw[<-hg]at I h hz;have b9.gf_4:ka.gf<a1:=by have:=hk.lt;omega
 have d1:g3<a1:=by have:=D.lt;omega
 have z3:=q3.size;have hk:=hk.ext q3;have D:=D.ext q3;have hC:=hC.next q3;refine z0b<|z0d 9 U<|z0t h U I U y4h λw4 a3 q4 hz a h=>?_;have z4:=q4.size;have hk:=hk.fr q4;have D:=D.fr q4;have hC:=hC.sp q4;have I:Blk w4 a1 _ [_,_]:=a3;clear a3;refine z0b<|z0p ?_;clear hC a0 O;refine bk (h.sub (L':=ll3 0 3 4)<|csu U)<|tn<|jn (ι:=Unit) (ll3 0 3 4) (λu_=>[]) (λu_ w'=>Fr [a1] w4 w'/\Blk w' a1 42 [.int .u8 (1-b),.int .i64 (z5q b p rk)]) (csu U) ?_ ?_;refine sr<|fad U z6s<|z0j U D U x8d<|eq' U<|nn<|cd U (λc0=>?_)<|λc0=>?_;intro a h;refine z0h (some 8) (λwb w'=>Fr [a1] wb w') z2r ?_;intro w5 q5;have z5:=q5.size;have hk:=hk.ext q5;have D:=D.ext q5;have I:=I.ext q5;have hC:Fr [a1] w5 w5:=l12 _ _;have a0:=hk;have O:=D;have a2:=I;refine z0c 0 h U z6r U λa h=>z0m 1 h U (λ_ hw=>O.fr hw (λk_=>by simp at k_;omega)) U na3 U λa h=>z0e 2 h U λa h=>z0o 3 h U λa h=>z0c 4 h U y1o U λa h=>z0m 5 h U (λ_ hw=>a0.fr hw (λk_=>by simp at k_;omega)) U na3 U λa h=>z6h 6 h U t13 U λa h=>z3f (cs:=[_,_]) 7 h (z0a U<|z0a U z0f) y7p (z0g U<|z0g U z0r) U U λa h=>z0d 8 U ?_;refine z0t h U I U y4h λw6 a3 q6 hz a h=>?_;have z6:=q6.size;have hk:=hk.fr q6;have D:=D.fr q6;have I:Blk w6 a1 _ [_,_]:=a3;clear a3;refine z1m<|z0p ?_;clear hC a0 O a2;exact bk (h.sub (L':=ll3 0 3 4)<|csu U)<|jE (()) (csu U) ⟨((l12 [a1] _).z2 q5 q6),by rw[show (1:Int)-b=0 by omega,show z5q b p rk=p+rk from if_pos c0];exact I⟩;exact sk<|jE (()) (csu U) ⟨(l12 _ _),by rw[show (1:Int)-b=1 by omega,show z5q b p rk=p-rk from if_neg c0];exact I⟩;rintro _u w7 ⟨q7,I⟩;have z7:=q7.size;have d0:=I.lt;refine kpC (ll3 0 3 4) (csu U)<|sq ?_;have hW:=b4.ext<|q1.z4 q2 q3 q4 q7;have hk:=hk.fr q7;have D:=D.fr q7;intro a h;refine z0h none (λwb w'=>Fr [] wb w') z2r ?_;intro w8 q8;have z8:=q8.size;have hW:=hW.ext q8;have hk:=hk.ext q8;have D:=D.ext q8;have I:=I.ext q8;have hC:Fr [] w8 w8:=l12 _ _;have b2:=hW;have a0:=hk;have O:=D;have a2:=I;refine z0e 0 h U λa h=>z0o 1 h U λa h=>z0c 2 h U x1q U λa h=>z1h (vs:=[_,_]) 3 h U (λ_ hw=>(a0.ext hw)) z5a U U λa h=>z0x 4 h U (λ_ hw=>O.ext hw) z5n U λa h=>z0x 5 h U (λ_ hw=>a2.ext hw) z5n U λa h=>z1w 6 10 kr U ?_ ?_;refine z0n h (z0a U<|z0a U<|z0a U z0f) (mkC func124) (by have x:=x0i q b n m _ hW.bat hv (by rw[<-a9];exact hn) (by rw[<-b1];exact hm) (by rw[<-a9];exact c9);rw[<-a9,<-b1]at x;exact x) ?_;rintro _ w9 ⟨⟨q',rfl,b5⟩,q9⟩ a h;have z9:=q9.size;have hk:=hk.ext q9;have D:=D.ext q9;have I:=I.ext q9;have hC:=hC.next q9;rw[if_neg oo]at h;obtain⟨hQ,b8⟩:=b5 oo;refine z0b<|z0e 7 h U λa h=>z0l 8 h U λa h=>z0l 9 h U λa h=>z0d 10 U<|z0w h x5y U λe3 Z a5 hz a h=>?_;obtain⟨a4,hg⟩:∃g,g=w9.heap.size:=⟨_,rfl⟩;rw[<-hg]at Z h hz;have b9.gf_5:ka.gf<a4:=by have:=hk.lt;omega
 have b7:g3<a4:=by have:=D.lt;omega
 have b0:a1<a4:=by have:=I.lt;omega
 have e8:=a5.size;have hW:=hW.ext<|q9.n1 a5;have hk:=hk.ext a5;have D:=D.ext a5;have I:=I.ext a5;first|have hQ:=BdO.ext hQ a5|have hQ:=BdO.tf hQ a5 (OffT.one Z dd)<|OffT.one Z dd
 have hC:=hC.next a5;refine z0b<|z0d 11 U<|z0t h U Z U x1k λd5 a3 a6 hz a h=>?_;have e9:=a6.size;have hk:=hk.fr a6;have D:=D.fr a6;have I:=I.fr a6;first|have hQ:=BdO.ext hQ a6|have hQ:=BdO.tf hQ a6 (OffT.one Z dd)<|OffT.one Z dd
 have hC:=hC.sp a6;have Z:Blk d5 a4 _ [_,_]:=a3;clear a3;refine z0b<|z0d 12 U<|z0q h U λa h=>?_;refine z0b<|z0p ?_;clear hC b2 a0 O a2;refine bk (h.sub (L':=ll3 0 5 6)<|csu U)<|tn<|sr<|mv U U<|eq' U<|nn<|cd U (λc1=>?_)<|λc1=>?_;refine rg<|mv U U<|z0k U Z z5a<|nlc U<|fad U x1q ?_;have hW:=b4.ext<|((q1.z6 q2 q3 q4 q7 q8 q9).n1 a5).z1 a6;refine z5j (cs':=bdL q'++[.int .i64 rk,tvW ka]) U U hk t44 x1k U<|λe4 b6 d3 f0=>?_;have hW:=hW.put τpk b3 (hQ.low oo) b6 d3;exact kpL [] .nil<|nl<|r0n results60  ⟨_,rfl,rfl,q',hW,b8⟩;exact absurd U c1;refine z0w h x5y U λe5 Z a8 hz a h=>?_;obtain⟨a4,hg⟩:∃g,g=w8.heap.size:=⟨_,rfl⟩;rw[<-hg]at Z h hz;have b9.gf_5:ka.gf<a4:=by have:=hk.lt;omega
 have b7:g3<a4:=by have:=D.lt;omega
 have b0:a1<a4:=by have:=I.lt;omega
 have f1:=a8.size;have hW:=hW.ext a8;have hC:=hC.next a8;refine z0b<|z0d 6 U<|z0n h (z0a U<|z0a U<|z0a U z0f) (mkC func124) (by have x:=x0i q b n m _ hW.bat hv (by rw[<-a9];exact hn) (by rw[<-b1];exact hm) (by rw[<-a9];exact c9);rw[<-a9,<-b1]at x;exact x) ?_;rintro _ e6 ⟨⟨q',rfl,b5⟩,q14⟩ a h;have f2:=q14.size;have hW:=hW.ext q14;have hk:=hk.ext<|a8.n1 q14;have D:=D.ext<|a8.n1 q14;have I:=I.ext<|a8.n1 q14;have Z:=Z.ext q14;have hC:=hC.next q14;rw[if_neg oo]at h;obtain⟨hQ,b8⟩:=b5 oo;refine z0b<|z0e 7 h U λa h=>z0l 8 h U λa h=>z0l 9 h U λa h=>z0d 11 U<|z0t h U Z U x1k λd6 a3 a7 hz a h=>?_;have f3:=a7.size;have hk:=hk.fr a7;have D:=D.fr a7;have I:=I.fr a7;first|have hQ:=BdO.ext hQ a7|have hQ:=BdO.tf hQ a7 (OffT.one Z dd)<|OffT.one Z dd
 have hC:=hC.sp a7;have Z:Blk d6 a4 _ [_,_]:=a3;clear a3;refine z0b<|z0d 12 U<|z0q h U λa h=>?_;refine z0b<|z0p ?_;clear hC b2 a0 O a2;refine bk (h.sub (L':=ll3 0 5 6)<|csu U)<|tn<|sr<|mv U U<|eq' U<|nn<|cd U (λc1=>?_)<|λc1=>?_;refine rg<|mv U U<|z0k U Z z5a<|nlc U<|fad U x1q ?_;have hW:=b4.ext<|((q1.z6 q2 q3 q4 q7 q8 a8).n1 q14).z1 a7;refine z5j (cs':=bdL q'++[.int .i64 rk,tvW ka]) U U hk t44 x1k U<|λe7 b6 d4 f4=>?_;have hW:=hW.put τpk b3 (hQ.low oo) b6 d4;exact kpL [] .nil<|nl<|r0n results60  ⟨_,rfl,rfl,q',hW,b8⟩;exact absurd U c1
end Go.Proofs.YtlfdhllfmoplgaaGreatDoor
namespace Go.G08
open Go.Lw Go.G21
end Go.G08
namespace Go.G08
open Go.Lw Go.G21
end Go.G08
namespace Go.G08
open Go.Lw Go.G21
end Go.G08
namespace Go.G08
open Go.Lw Go.G21
end Go.G08
namespace Go.G08
open Go.Lw Go.G21
end Go.G08
namespace Go.G09
open Go.Lw Go.G21 Go.G08
structure Hz where
  o:Int
  k:Int
  id:LId
deriving DecidableEq
def isMk (o:MOp):Prop:=o.k=4\/o.k=5
instance (o:MOp):Decidable (isMk o):=inferInstanceAs<|Decidable<|_\/_
def isYn (o:MOp):Prop:=o.k=1\/o.k=2\/o.k=6
instance (o:MOp):Decidable (isYn o):=inferInstanceAs<|Decidable<|_\/_
end Go.G09
namespace Go.G08
open Go.Lw Go.G21
theorem k3y {y:Yn}{pl:Int}{l:List Pa}(h1:y1s y)(D:x5h pl)(I:u7z l)(O:y.inn=true)(Z:(z5f y.pe l).length<=4096):goE y pl l=0:=by
 unfold goE;rw[if_neg (by rw[u9g h1];simp),if_neg (not_not_intro D),if_neg (not_not_intro I),if_neg (by rw[O];simp),if_neg oo]
theorem z6l {a b:LId}{c:Cx}{l:List Cx}:z6w (c::l) a b=if isC a b c=true then c.n else z6w l a b:=by
 unfold z6w;rw[List.find?_cons];split<;>rename_i h<;>rw[h]<;>rfl
theorem u8w {a b a' b':LId}{n:Int}(h:¬(a'=a/\b'=b)):isC a b ⟨a',b',n⟩=false:=by unfold isC;simpa using h
theorem v1e {a b a' b':LId}{n:Int}:∀l:List Cx,z6w (l++[⟨a',b',n⟩]) a b=if l.any (isC a b)=true then z6w l a b else if a'=a/\b'=b then n else 0
 | []=>by
  rw[l46,z6l]
  by_cases h:a'=a/\b'=b
  ·rw[if_pos (by unfold isC;simpa using h),if_neg sp0,if_pos h]
  rw[if_neg (by rw[u8w h];simp),if_neg sp0,if_neg h];rfl
 | c::l=>by
  rw[l72,z6l,z6l,List.any_cons,v1e l]
  cases isC a b c<;>simp
theorem y7a {a b:LId}:∀ {l:List Cx},¬l.any (isC a b)=true->z6w l a b=0
 | [],_=>rfl
 | c::l,h=>by
  rw[List.any_cons,Bool.or_eq_true,not_or]at h
  rw[z6l,if_neg h.1,y7a h.2]
theorem v2c {a b a' b':LId}{n:Int}:∀l:List Cx,z6w (l.map λc=>if isC a' b' c then ⟨a',b',n⟩ else c) a b=if a'=a/\b'=b then (if l.any (isC a b)=true then n else 0) else z6w l a b
 | []=>by simp[z6w]
 | c::l=>by
  have I:=v2c (a:=a) (b:=b) (a':=a') (b':=b') (n:=n) l
  rw[l32,z6l,I,z6l]
  by_cases e:a'=a/\b'=b
  ·obtain⟨rfl,rfl⟩:=e
   have e1:a'=a'/\b'=b':=⟨rfl,rfl⟩
   by_cases h:isC a' b' c=true
   ·rw[if_pos h,if_pos (by simp[isC]),if_pos e1,if_pos (by rw[List.any_cons,h];rfl)]
   rw[if_neg h,if_neg h,if_pos e1,if_pos e1]
   by_cases k:l.any (isC a' b')=true
   ·rw[if_pos k,if_pos (by rw[List.any_cons,k,Bool.or_true])]
   rw[if_neg k,if_neg (by rw[List.any_cons,Bool.or_eq_true];rintro(x|x);exact h x;exact k x)]
  rw[if_neg e,if_neg e]
  cases h:isC a' b' c
  ·simp
  rw[if_pos U,u8w e]
  have:isC a b c=false:=by
   rw[<-Bool.not_eq_true,y1j];rw[y1j]at h
   intro D;rw[h]at D;exact e (by simpa using D)
  rw[this,if_neg sp0,if_neg sp0]
theorem v2d {l:List Cx}{a b a' b':LId}{n:Int}:z6w (y4p l a' b' n) a b=if a'=a/\b'=b then n else z6w l a b:=by
 unfold y4p;by_cases h:l.any (isC a' b')=true;rw[if_pos h,v2c];by_cases e:a'=a/\b'=b;rw[if_pos e,if_pos e,if_pos (by rw[<-e.1,<-e.2];exact h)];rw[if_neg e,if_neg e];rw[if_neg h,v1e];by_cases e:a'=a/\b'=b;rw[if_pos e,if_neg (by rw[<-e.1,<-e.2];exact h),if_pos e];rw[if_neg e];split;rfl;rename_i D;rw[y7a D]
theorem y9i {a b a' b':LId}:∀l:List Cx,z6w (x7u l a' b') a b=if a'=a/\b'=b then 0 else z6w l a b
 | []=>by simp[z6w,x7u]
 | c::l=>by
  have D:=y9i (a:=a) (b:=b) (a':=a') (b':=b') l
  unfold x7u at D ⊢
  rw[l57,z6l]
  cases h:isC a' b' c
  ·simp only[Bool.not_false,if_true]
   rw[z6l,D]
   by_cases e:a'=a/\b'=b
   ·rw[if_pos e,if_pos e,if_neg (by rw[<-e.1,<-e.2,h];simp)]
   rw[if_neg e,if_neg e]
  simp only[Bool.not_true,Bool.false_eq_true,if_false]
  rw[D]
  by_cases e:a'=a/\b'=b
  ·rw[if_pos e,if_pos e]
  rw[if_neg e,if_neg e,if_neg]
  rw[y1j]at h ⊢
  intro I;rw[h]at I;exact e (by simpa using I)
theorem u6g {l l':List Cx}{c:Cx}(h:y3z l c=.ok l')(a b:LId):z6w l' a b=if z5d c=(a,b) then z6w l a b+c.n else z6w l a b:=by
 rw[y7k]at h;generalize z5d c=k at h ⊢;obtain⟨x,y⟩:=k;simp only at h;by_cases h1:z6w l x y+c.n < -1048576\/1048576<z6w l x y+c.n;rw[if_pos h1]at h;cases h;rw[if_neg h1]at h;by_cases e:x=a/\y=b;obtain⟨rfl,rfl⟩:=e;rw[if_pos U];by_cases h2:z6w l x y+c.n=0;rw[if_pos h2]at h;cases h;rw[y9i,if_pos ⟨rfl,rfl⟩];omega;rw[if_neg h2]at h;cases h;rw[v2d,if_pos ⟨rfl,rfl⟩];rw[if_neg (by simpa using e)];by_cases h2:z6w l x y+c.n=0;rw[if_pos h2]at h;cases h;rw[y9i,if_neg e];rw[if_neg h2]at h;cases h;rw[v2d,if_neg e]
theorem x3d {a b:LId}(h:a≠b):(0<z6m a b↔¬0<z6m b a):=by
 constructor;intro D I;have:=x2l D;omega;intro D;have I:=x8s (l50 h) D;unfold z6m at I ⊢;(repeat' split at I)<;>(repeat' split)<;>omega
theorem v2h {l r:List Cx}{c:Cx}:z4e l (c::r)=match y3z l c with|.error e=>.error e|.ok l'=>z4e l' r:=rfl
theorem j2b {p q:MSt}{d:Int}(e:z5x p d=.ok q):q.rk=p.rk+stI d:=by
 unfold z5x at e;split at e;cases e;split at e;cases e;cases e;rfl
theorem v6k {p:MSt}{y:Int}{q:Yn}(h:(y-1).toNat<p.ys.length):(p.setY y q).y y=q:=by
 unfold MSt.setY MSt.y;simp only;rw[List.getD,l111 (by exact h)];rfl
theorem j6o {p q:MSt}{y pl en:Int}(e:z8v p y pl en=.ok q):goE (p.y y) pl (y2h p y en)=0/\q=p.setY y (goS (p.y y) pl<|y2h p y en):=by
 unfold z8v at e;split at e;cases e;rename_i h;cases e;exact⟨l16.1 h,rfl⟩
theorem j4d {p:MSt}{y pl en:Int}(h:goE (p.y y) pl (y2h p y en)=0):z8v p y pl en=.ok (p.setY y<|goS (p.y y) pl<|y2h p y en):=by
 unfold z8v;rw[if_neg (not_not_intro h)]
theorem v1o {B:Bd}{r a b:Int}:(btw (z2l B r) a b).length<=B.flat.length:=by
 have D:(z2l B r).length=B.flat.length:=by rw[(z8g _ _).length_eq,z8o]
 rw[<-D];unfold btw;split;rw[l18];exact List.length_filter_le _ _;rw[l85,l18];exact List.length_filter_le _ _
theorem v1d {p q:MSt}{o:MOp}{D st:List LId}(e:y1z p o D st=.ok q):z4o q.tb<=z4o p.tb+1:=by
 unfold y1z at e;split at e;cases e;split at e;cases e;cases e;show z4o (p.tb.set (o.y-1).toNat<|p.row o.y++[_])<=_;by_cases hj:(o.y-1).toNat<p.tb.length;have:=y6c p.tb (o.y-1).toNat (p.row o.y++[⟨o.b,(p.y o.y).nw,D,(p.y o.y).pe⟩]) hj;rw[l13,l47,show (p.row o.y).length=z3e p.tb (o.y-1).toNat from U]at this;omega;rw[List.set_eq_of_length_le oo];omega
theorem x8h {p q:MSt}{y pl en:Int}(e:z8v p y pl en=.ok q):q.tb=p.tb:=by obtain⟨_,rfl⟩:=j6o e;rfl
theorem x9y {r:Int}:∀ {n:Nat} {p q:MSt},z4l n p r=.ok q->q.tb=p.tb
 | 0,p,q,e=>by cases e;rfl
 | n+1,p,q,e=>by
  unfold z4l at e
  split at e
  ·cases e;rfl
  split at e
  ·cases e
  rename_i I D
  refine(x9y e).trans ?_
  unfold z5x at D
  split at D
  ·cases D
  split at D
  ·cases D
  cases D;rfl
theorem u7v {p q:MSt}{o:MOp}(e:doM p o=.ok q):z4o q.tb<=z4o p.tb+1:=by
 have t:∀ {x:MSt},x.tb=p.tb->z4o x.tb<=z4o p.tb+1:=λh=>by rw[h];omega
 unfold doM at e;split at e;cases e;unfold opM at e;split at e;unfold inM at e;split at e;cases e;cases e;exact t U;split at e;unfold x6h at e;split at e;cases e;cases e;exact t U;split at e;exact t<|x9y e;split at e;unfold y1i at e;split at e;cases e;split at e;cases e;rename_i h;have:=v1d e;rw[x8h h]at this;exact this;split at e;unfold y0x at e;split at e;cases e;split at e;cases e;rename_i h;split at e;cases e;have:=v1d e;rw[x8h h]at this;exact this;split at e;unfold y3h at e;split at e;cases e;exact t<|x8h e;split at e;unfold z8i at e;repeat (split at e;· cases e)
 cases e;exact t U;unfold y3p at e;split at e;cases e;cases e;exact t U
end Go.G08
namespace Go.G09
open Go.Lw Go.G21 Go.G08
def k3 (l:List Hz):List Hz:=l.filter λh=>decide (h.k<=3)
end Go.G09
