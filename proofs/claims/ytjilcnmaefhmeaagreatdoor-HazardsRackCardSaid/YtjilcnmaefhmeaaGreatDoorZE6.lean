/- Texts of the proof, joined. -/
import Derived.Shelf.SlSortCmp.WholeK
import Derived.Shelf.SlGeneric
import Derived.Ground.SlsfProg
import Derived.Test.YtjilcnmaefhmeaaGreatDoorProg
import Derived.Test.YtjilcnmaefhmeaaGreatDoorRows
import Derived.Test.YtjilcnmaefhmeaaGreatDoorZE5
set_option linter.unusedVariables false
set_option linter.unusedSimpArgs false
set_option maxHeartbeats 4000000
namespace Go.Proofs
open Go.Shelf
def Tryz.sortHz_ren:Go.Shelf.Ren:=⟨fun|6=>64|15=>128|14=>127|28=>178|29=>179|20=>170|21=>171|22=>172|23=>173|24=>174|25=>175|26=>176|27=>177|46=>227|47=>228|48=>229|49=>230|50=>231|57=>269|n=>n,fun|22=>68|24=>75|25=>89|3=>3|39=>217|0=>0|53=>268|55=>270|4=>4|46=>262|45=>261|50=>259|5=>5|9=>9|66=>319|70=>323|76=>356|77=>220|n=>n,fun|n=>n⟩
theorem Tryz.sortHz:Go.Proofs.SlLaysF0.n6 Tryz.prog Tryz.sortHz_ren:={
 mixed:=by kernel_rfl
 f6:=⟨Tryz.f64.name,dd,Tryz.func64.trans (congrArg some kr)⟩
 f14:=⟨Tryz.f127.name,dd,Tryz.func127.trans (congrArg some kr)⟩
 f15:=Tryz.func128.trans (congrArg some kr)
 f20:=⟨Tryz.f170.name,dd,Tryz.func170.trans (congrArg some kr)⟩
 f21:=⟨Tryz.f171.name,dd,Tryz.func171.trans (congrArg some kr)⟩
 f22:=⟨Tryz.f172.name,dd,Tryz.func172.trans (congrArg some kr)⟩
 f23:=⟨Tryz.f173.name,dd,Tryz.func173.trans (congrArg some kr)⟩
 f24:=⟨Tryz.f174.name,dd,Tryz.func174.trans (congrArg some kr)⟩
 f25:=⟨Tryz.f175.name,dd,Tryz.func175.trans (congrArg some kr)⟩
 f26:=⟨Tryz.f176.name,dd,Tryz.func176.trans (congrArg some kr)⟩
 f27:=⟨Tryz.f177.name,dd,Tryz.func177.trans (congrArg some kr)⟩
 f28:=Tryz.func178.trans (congrArg some kr)
 f29:=Tryz.func179.trans (congrArg some kr)
 f46:=⟨Tryz.f227.name,dd,Tryz.func227.trans (congrArg some kr)⟩
 f47:=Tryz.func228.trans (congrArg some kr)
 f48:=Tryz.func229.trans (congrArg some kr)
 f49:=⟨Tryz.f230.name,dd,Tryz.func230.trans (congrArg some kr)⟩
 f50:=⟨Tryz.f231.name,dd,Tryz.func231.trans (congrArg some kr)⟩
 f57:=⟨Tryz.f269.name,dd,Tryz.func269.trans (congrArg some kr)⟩
 t0:=Tryz.underlying0
 a0:=Tryz.isAgg0
 z0:=Tryz.sizeOf0
 v0:=Tryz.zeroValue0
 t3:=Tryz.underlying3
 a3:=Tryz.isAgg3
 z3:=Tryz.sizeOf3
 v3:=Tryz.zeroValue3
 t4:=Tryz.underlying4
 a4:=Tryz.isAgg4
 z4:=Tryz.sizeOf4
 v4:=Tryz.zeroValue4
 t5:=Tryz.underlying5
 a5:=Tryz.isAgg5
 z5:=Tryz.sizeOf5
 v5:=Tryz.zeroValue5
 t9:=Tryz.underlying9
 a9:=Tryz.isAgg9
 z9:=Tryz.sizeOf9
 v9:=Tryz.zeroValue9
 t22:=Tryz.underlying68
 a22:=Tryz.isAgg68
 z22:=Tryz.sizeOf68
 v22:=Tryz.zeroValue68
 t25:=Tryz.underlying89
 a25:=Tryz.isAgg89
 z25:=Tryz.sizeOf89
 v25:=Tryz.zeroValue89
 t39:=Tryz.underlying217
 a39:=Tryz.isAgg217
 z39:=Tryz.sizeOf217
 v39:=Tryz.zeroValue217
 t45:=Tryz.underlying261
 a45:=Tryz.isAgg261
 z45:=Tryz.sizeOf261
 v45:=Tryz.zeroValue261
 t46:=Tryz.underlying262
 a46:=Tryz.isAgg262
 z46:=Tryz.sizeOf262
 v46:=Tryz.zeroValue262
 t50:=Tryz.underlying259
 a50:=Tryz.isAgg259
 z50:=Tryz.sizeOf259
 v50:=Tryz.zeroValue259
 t53:=Tryz.underlying268
 a53:=Tryz.isAgg268
 z53:=Tryz.sizeOf268
 v53:=Tryz.zeroValue268
 t55:=Tryz.underlying270
 a55:=Tryz.isAgg270
 z55:=Tryz.sizeOf270
 v55:=Tryz.zeroValue270
 t66:=Tryz.underlying319
 a66:=Tryz.isAgg319
 z66:=Tryz.sizeOf319
 v66:=Tryz.zeroValue319
 t70:=Tryz.underlying323
 a70:=Tryz.isAgg323
 z70:=Tryz.sizeOf323
 v70:=Tryz.zeroValue323
 t76:=Tryz.underlying356
 a76:=Tryz.isAgg356
 z76:=Tryz.sizeOf356
 v76:=Tryz.zeroValue356
 t77:=Tryz.underlying220
 a77:=Tryz.isAgg220
 z77:=Tryz.sizeOf220
 v77:=Tryz.zeroValue220 }
def Tryz.sortCx_ren:Go.Shelf.Ren:=⟨fun|6=>101|15=>128|14=>153|28=>178|29=>179|20=>203|21=>204|22=>205|23=>206|24=>207|25=>208|26=>209|27=>210|46=>257|47=>228|48=>229|49=>258|50=>259|57=>284|n=>n,fun|22=>36|24=>117|25=>188|3=>3|39=>217|0=>0|53=>268|55=>270|4=>4|46=>262|45=>261|50=>259|5=>5|9=>9|66=>319|70=>323|76=>356|77=>220|n=>n,fun|n=>n⟩
theorem Tryz.sortCx:Go.Proofs.SlLaysF0.n6 Tryz.prog Tryz.sortCx_ren:={
 mixed:=by kernel_rfl
 f6:=⟨Tryz.f101.name,dd,Tryz.func101.trans (congrArg some kr)⟩
 f14:=⟨Tryz.f153.name,dd,Tryz.func153.trans (congrArg some kr)⟩
 f15:=Tryz.func128.trans (congrArg some kr)
 f20:=⟨Tryz.f203.name,dd,Tryz.func203.trans (congrArg some kr)⟩
 f21:=⟨Tryz.f204.name,dd,Tryz.func204.trans (congrArg some kr)⟩
 f22:=⟨Tryz.f205.name,dd,Tryz.func205.trans (congrArg some kr)⟩
 f23:=⟨Tryz.f206.name,dd,Tryz.func206.trans (congrArg some kr)⟩
 f24:=⟨Tryz.f207.name,dd,Tryz.func207.trans (congrArg some kr)⟩
 f25:=⟨Tryz.f208.name,dd,Tryz.func208.trans (congrArg some kr)⟩
 f26:=⟨Tryz.f209.name,dd,Tryz.func209.trans (congrArg some kr)⟩
 f27:=⟨Tryz.f210.name,dd,Tryz.func210.trans (congrArg some kr)⟩
 f28:=Tryz.func178.trans (congrArg some kr)
 f29:=Tryz.func179.trans (congrArg some kr)
 f46:=⟨Tryz.f257.name,dd,Tryz.func257.trans (congrArg some kr)⟩
 f47:=Tryz.func228.trans (congrArg some kr)
 f48:=Tryz.func229.trans (congrArg some kr)
 f49:=⟨Tryz.f258.name,dd,Tryz.func258.trans (congrArg some kr)⟩
 f50:=⟨Tryz.f259.name,dd,Tryz.func259.trans (congrArg some kr)⟩
 f57:=⟨Tryz.f284.name,dd,Tryz.func284.trans (congrArg some kr)⟩
 t0:=Tryz.underlying0
 a0:=Tryz.isAgg0
 z0:=Tryz.sizeOf0
 v0:=Tryz.zeroValue0
 t3:=Tryz.underlying3
 a3:=Tryz.isAgg3
 z3:=Tryz.sizeOf3
 v3:=Tryz.zeroValue3
 t4:=Tryz.underlying4
 a4:=Tryz.isAgg4
 z4:=Tryz.sizeOf4
 v4:=Tryz.zeroValue4
 t5:=Tryz.underlying5
 a5:=Tryz.isAgg5
 z5:=Tryz.sizeOf5
 v5:=Tryz.zeroValue5
 t9:=Tryz.underlying9
 a9:=Tryz.isAgg9
 z9:=Tryz.sizeOf9
 v9:=Tryz.zeroValue9
 t22:=Tryz.underlying36
 a22:=Tryz.isAgg36
 z22:=Tryz.sizeOf36
 v22:=Tryz.zeroValue36
 t25:=Tryz.underlying188
 a25:=Tryz.isAgg188
 z25:=Tryz.sizeOf188
 v25:=Tryz.zeroValue188
 t39:=Tryz.underlying217
 a39:=Tryz.isAgg217
 z39:=Tryz.sizeOf217
 v39:=Tryz.zeroValue217
 t45:=Tryz.underlying261
 a45:=Tryz.isAgg261
 z45:=Tryz.sizeOf261
 v45:=Tryz.zeroValue261
 t46:=Tryz.underlying262
 a46:=Tryz.isAgg262
 z46:=Tryz.sizeOf262
 v46:=Tryz.zeroValue262
 t50:=Tryz.underlying259
 a50:=Tryz.isAgg259
 z50:=Tryz.sizeOf259
 v50:=Tryz.zeroValue259
 t53:=Tryz.underlying268
 a53:=Tryz.isAgg268
 z53:=Tryz.sizeOf268
 v53:=Tryz.zeroValue268
 t55:=Tryz.underlying270
 a55:=Tryz.isAgg270
 z55:=Tryz.sizeOf270
 v55:=Tryz.zeroValue270
 t66:=Tryz.underlying319
 a66:=Tryz.isAgg319
 z66:=Tryz.sizeOf319
 v66:=Tryz.zeroValue319
 t70:=Tryz.underlying323
 a70:=Tryz.isAgg323
 z70:=Tryz.sizeOf323
 v70:=Tryz.zeroValue323
 t76:=Tryz.underlying356
 a76:=Tryz.isAgg356
 z76:=Tryz.sizeOf356
 v76:=Tryz.zeroValue356
 t77:=Tryz.underlying220
 a77:=Tryz.isAgg220
 z77:=Tryz.sizeOf220
 v77:=Tryz.zeroValue220 }
def Tryz.sortId_ren:Go.Shelf.Ren:=⟨fun|6=>104|15=>128|14=>154|28=>178|29=>179|20=>211|21=>212|22=>213|23=>214|24=>215|25=>216|26=>217|27=>218|46=>260|47=>228|48=>229|49=>261|50=>262|57=>285|n=>n,fun|22=>27|24=>73|25=>151|3=>3|39=>217|0=>0|53=>268|55=>270|4=>4|46=>262|45=>261|50=>259|5=>5|9=>9|66=>319|70=>323|76=>356|77=>220|n=>n,fun|n=>n⟩
theorem Tryz.sortId:Go.Proofs.SlLaysF0.n6 Tryz.prog Tryz.sortId_ren:={
 mixed:=by kernel_rfl
 f6:=⟨Tryz.f104.name,dd,Tryz.func104.trans (congrArg some kr)⟩
 f14:=⟨Tryz.f154.name,dd,Tryz.func154.trans (congrArg some kr)⟩
 f15:=Tryz.func128.trans (congrArg some kr)
 f20:=⟨Tryz.f211.name,dd,Tryz.func211.trans (congrArg some kr)⟩
 f21:=⟨Tryz.f212.name,dd,Tryz.func212.trans (congrArg some kr)⟩
 f22:=⟨Tryz.f213.name,dd,Tryz.func213.trans (congrArg some kr)⟩
 f23:=⟨Tryz.f214.name,dd,Tryz.func214.trans (congrArg some kr)⟩
 f24:=⟨Tryz.f215.name,dd,Tryz.func215.trans (congrArg some kr)⟩
 f25:=⟨Tryz.f216.name,dd,Tryz.func216.trans (congrArg some kr)⟩
 f26:=⟨Tryz.f217.name,dd,Tryz.func217.trans (congrArg some kr)⟩
 f27:=⟨Tryz.f218.name,dd,Tryz.func218.trans (congrArg some kr)⟩
 f28:=Tryz.func178.trans (congrArg some kr)
 f29:=Tryz.func179.trans (congrArg some kr)
 f46:=⟨Tryz.f260.name,dd,Tryz.func260.trans (congrArg some kr)⟩
 f47:=Tryz.func228.trans (congrArg some kr)
 f48:=Tryz.func229.trans (congrArg some kr)
 f49:=⟨Tryz.f261.name,dd,Tryz.func261.trans (congrArg some kr)⟩
 f50:=⟨Tryz.f262.name,dd,Tryz.func262.trans (congrArg some kr)⟩
 f57:=⟨Tryz.f285.name,dd,Tryz.func285.trans (congrArg some kr)⟩
 t0:=Tryz.underlying0
 a0:=Tryz.isAgg0
 z0:=Tryz.sizeOf0
 v0:=Tryz.zeroValue0
 t3:=Tryz.underlying3
 a3:=Tryz.isAgg3
 z3:=Tryz.sizeOf3
 v3:=Tryz.zeroValue3
 t4:=Tryz.underlying4
 a4:=Tryz.isAgg4
 z4:=Tryz.sizeOf4
 v4:=Tryz.zeroValue4
 t5:=Tryz.underlying5
 a5:=Tryz.isAgg5
 z5:=Tryz.sizeOf5
 v5:=Tryz.zeroValue5
 t9:=Tryz.underlying9
 a9:=Tryz.isAgg9
 z9:=Tryz.sizeOf9
 v9:=Tryz.zeroValue9
 t22:=Tryz.underlying27
 a22:=Tryz.isAgg27
 z22:=Tryz.sizeOf27
 v22:=Tryz.zeroValue27
 t25:=Tryz.underlying151
 a25:=Tryz.isAgg151
 z25:=Tryz.sizeOf151
 v25:=Tryz.zeroValue151
 t39:=Tryz.underlying217
 a39:=Tryz.isAgg217
 z39:=Tryz.sizeOf217
 v39:=Tryz.zeroValue217
 t45:=Tryz.underlying261
 a45:=Tryz.isAgg261
 z45:=Tryz.sizeOf261
 v45:=Tryz.zeroValue261
 t46:=Tryz.underlying262
 a46:=Tryz.isAgg262
 z46:=Tryz.sizeOf262
 v46:=Tryz.zeroValue262
 t50:=Tryz.underlying259
 a50:=Tryz.isAgg259
 z50:=Tryz.sizeOf259
 v50:=Tryz.zeroValue259
 t53:=Tryz.underlying268
 a53:=Tryz.isAgg268
 z53:=Tryz.sizeOf268
 v53:=Tryz.zeroValue268
 t55:=Tryz.underlying270
 a55:=Tryz.isAgg270
 z55:=Tryz.sizeOf270
 v55:=Tryz.zeroValue270
 t66:=Tryz.underlying319
 a66:=Tryz.isAgg319
 z66:=Tryz.sizeOf319
 v66:=Tryz.zeroValue319
 t70:=Tryz.underlying323
 a70:=Tryz.isAgg323
 z70:=Tryz.sizeOf323
 v70:=Tryz.zeroValue323
 t76:=Tryz.underlying356
 a76:=Tryz.isAgg356
 z76:=Tryz.sizeOf356
 v76:=Tryz.zeroValue356
 t77:=Tryz.underlying220
 a77:=Tryz.isAgg220
 z77:=Tryz.sizeOf220
 v77:=Tryz.zeroValue220 }
end Go.Proofs
namespace Go.Proofs.YtjilcnmaefhmeaaGreatDoor
open Go.Lw Go.G21 Go.G08 _root_.Go.Proofs.Tryz
open Go.Shelf Go.Sort
theorem j2v (f:Value)(W:World):Calls prog 203 #[.slice none 0 0,.int .i64 0,.int .i64 0,f] W λe w'=>e=.returned (.tuple #[])/\Fr [] W w':=by
 go_enter func203,ntmps203
 go_wp2
 refine wp_loop_rounds 1 ?_
 simp only[rounds_succ]
 go_wp2
 all_goals first|go_end0|((try simp only[Exit.inBlock,Exit.then]);refine bodyPost_ret (results_none U _ _ _) U ?_)
 all_goals exact⟨rfl,Fr.refl _ _⟩
theorem j2m (f:Value)(W:World):Calls prog 153 #[.slice none 0 0,.int .i64 0,.int .i64 0,.int .i64 0,f] W λe w'=>e=.returned (.tuple #[])/\Fr [] W w':=by
 go_enter func153,ntmps153
 go_wp2
 refine wp_loop_rounds 1 ?_
 simp only[rounds_succ]
 go_wp2_with (go_at_call 203;refine(j2v _ _).mono ?_;rintro e w' ⟨rfl,D⟩)
 all_goals first|go_end0|((try simp only[Exit.inBlock,Exit.then]);refine bodyPost_ret (results_none U _ _ _) U ?_)
 all_goals exact⟨rfl,D⟩
theorem j0k (W:World):Calls prog 128 #[.int .u64 0] W λe w'=>e=.returned (.int .i64 0)/\w'=W:=
 Any.bits_Len (SlLaysF0.n15.bits (P:=prog) (ρ:=sortCx_ren) { sortCx with }) (0:Int) W oo oo
theorem j0m (f:Value)(W:World):Calls prog 101 #[.slice none 0 0,f] W λe w'=>e=.returned (.tuple #[])/\Fr [] W w':=by
 go_enter func101,ntmps101
 go_wp2_with (first|(go_at_call 128;refine(j0k _).mono ?_;rintro e w' ⟨rfl,rfl⟩)|(go_at_call 153;refine(j2m _ _).mono ?_;rintro e w' ⟨rfl,D⟩))
 all_goals go_end0
 all_goals exact⟨rfl,D⟩
theorem j0t (f:Value)(W:World):Calls prog 211 #[.slice none 0 0,.int .i64 0,.int .i64 0,f] W λe w'=>e=.returned (.tuple #[])/\Fr [] W w':=by
 go_enter func211,ntmps211
 go_wp2
 refine wp_loop_rounds 1 ?_
 simp only[rounds_succ]
 go_wp2
 all_goals first|go_end0|((try simp only[Exit.inBlock,Exit.then]);refine bodyPost_ret (results_none U _ _ _) U ?_)
 all_goals exact⟨rfl,Fr.refl _ _⟩
theorem j4g (f:Value)(W:World):Calls prog 154 #[.slice none 0 0,.int .i64 0,.int .i64 0,.int .i64 0,f] W λe w'=>e=.returned (.tuple #[])/\Fr [] W w':=by
 go_enter func154,ntmps154
 go_wp2
 refine wp_loop_rounds 1 ?_
 simp only[rounds_succ]
 go_wp2_with (go_at_call 211;refine(j0t _ _).mono ?_;rintro e w' ⟨rfl,D⟩)
 all_goals first|go_end0|((try simp only[Exit.inBlock,Exit.then]);refine bodyPost_ret (results_none U _ _ _) U ?_)
 all_goals exact⟨rfl,D⟩
theorem j0d (W:World):Calls prog 128 #[.int .u64 0] W λe w'=>e=.returned (.int .i64 0)/\w'=W:=
 Any.bits_Len (SlLaysF0.n15.bits (P:=prog) (ρ:=sortId_ren) { sortId with }) (0:Int) W oo oo
theorem j3d (f:Value)(W:World):Calls prog 104 #[.slice none 0 0,f] W λe w'=>e=.returned (.tuple #[])/\Fr [] W w':=by
 go_enter func104,ntmps104
 go_wp2_with (first|(go_at_call 128;refine(j0d _).mono ?_;rintro e w' ⟨rfl,rfl⟩)|(go_at_call 154;refine(j4g _ _).mono ?_;rintro e w' ⟨rfl,D⟩))
 all_goals go_end0
 all_goals exact⟨rfl,D⟩
instance:Inhabited Cx:=⟨cx0⟩
instance:Inhabited LId:=⟨id0⟩
theorem k0l {w0:World}{T base:Nat}{v:Value}{l:List Cx}(ho:Lw.Own z5w T base w0 v l)(hl:l.length<4611686018427387904)(hn:(l.map λc=>(c.a,c.b)).Nodup):Rets prog 101 #[v,.func (.func 102) #[] #[]] w0 λr w'=>r=.tuple #[]/\Lw.Own z5w T base w' v (x3t l)/\Fr (z0u v) w0 w':=
 Rets.mono (y9g (E:=z5w) (f:=101) sortCx U isAgg117 sizeOf117 x6i swoX (enters_of func102 kr U) (λx y W=>j8r x y W) (j0m _) ho hl) (by
  rintro r w' ⟨rfl,l',J,M,D,I⟩
  rw[v9y hn J M]at D
  exact⟨rfl,D,I⟩)
theorem j6j {w0:World}{T base:Nat}{v:Value}{l:List LId}(ho:Lw.Own z1f T base w0 v l)(hl:l.length<4611686018427387904):Rets prog 104 #[v,.func (.func 69) #[] #[]] w0 λr w'=>r=.tuple #[]/\Lw.Own z1f T base w' v (z7w l)/\Fr (z0u v) w0 w':=
 Rets.mono (y9g (E:=z1f) (f:=104) sortId U isAgg73 sizeOf73 z6q swoI (enters_of func69 kr U) (λx y W=>u3p x y W) (j3d _) ho hl) (by
  rintro r w' ⟨rfl,l',J,M,D,I⟩
  rw[j1z J M]at D
  exact⟨rfl,D,I⟩)
theorem j0h (f:Value)(W:World):Calls prog 170 #[.slice none 0 0,.int .i64 0,.int .i64 0,f] W λe w'=>e=.returned (.tuple #[])/\Fr [] W w':=by
 go_enter func170,ntmps170
 go_wp2
 refine wp_loop_rounds 1 ?_
 simp only[rounds_succ]
 go_wp2
 all_goals first|go_end0|((try simp only[Exit.inBlock,Exit.then]);refine bodyPost_ret (results_none U _ _ _) U ?_)
 all_goals exact⟨rfl,Fr.refl _ _⟩
theorem j2t (f:Value)(W:World):Calls prog 127 #[.slice none 0 0,.int .i64 0,.int .i64 0,.int .i64 0,f] W λe w'=>e=.returned (.tuple #[])/\Fr [] W w':=by
 go_enter func127,ntmps127
 go_wp2
 refine wp_loop_rounds 1 ?_
 simp only[rounds_succ]
 go_wp2_with (go_at_call 170;refine(j0h _ _).mono ?_;rintro e w' ⟨rfl,D⟩)
 all_goals first|go_end0|((try simp only[Exit.inBlock,Exit.then]);refine bodyPost_ret (results_none U _ _ _) U ?_)
 all_goals exact⟨rfl,D⟩
theorem j3v (W:World):Calls prog 128 #[.int .u64 0] W λe w'=>e=.returned (.int .i64 0)/\w'=W:=
 Any.bits_Len (SlLaysF0.n15.bits (P:=prog) (ρ:=sortHz_ren) { sortHz with }) (0:Int) W oo oo
theorem j0c (f:Value)(W:World):Calls prog 64 #[.slice none 0 0,f] W λe w'=>e=.returned (.tuple #[])/\Fr [] W w':=by
 go_enter func64,ntmps64
 go_wp2_with (first|(go_at_call 128;refine(j3v _).mono ?_;rintro e w' ⟨rfl,rfl⟩)|(go_at_call 127;refine(j2t _ _).mono ?_;rintro e w' ⟨rfl,D⟩))
 all_goals go_end0
 all_goals exact⟨rfl,D⟩
open Go.Lw Go.G21 Go.G08 _root_.Go.Proofs.Tryz
theorem v0j (q:BdQ)(r:Int)(w0:World)(M:BdAt w0 q)(D:BdOk q.p)(hr:-4<=r/\r<=4):Rets prog 117 #[.agg #[.slice q.f.1 q.f.2.1 q.f.2.2,.slice q.b.1 q.b.2.1 q.b.2.2],.int .i64 r] w0 λv w'=>(∃g l n,l=z2n q.p r/\n=l.length/\n<=320/\v=.tuple #[.slice (some ⟨g,0,none⟩) n n,.int .i64 0]/\w0.heap.size<=g/\Lw.Own z3l 206 w0.heap.size w' (.slice (some ⟨g,0,none⟩) n n) l)/\Fr [] w0 w':=
 Rets.mono (v7z q r w0 M D hr) (by
  rintro v w' ⟨⟨g,rfl,I,J⟩,h3⟩
  have hN:=y2u D
  have O:=y4q q.p r
  have Z:(z2n q.p r).length=(v3e q.p r).length:=z4h _
  exact⟨⟨g,_,_,rfl,rfl,oo,rfl,I,J⟩,h3⟩)
theorem j2c {l:List Hd}{ps:List LId}(hl:ps.length=l.length)(h:∀j,j<l.length->ps.getD j id0=(l.getD j hd0).id):ps=l.map Hd.id:=by
 refine List.ext_getElem (by simp[hl]) λj I J=>?_;have D:j<l.length:=by omega
 have:=h j D;rw[List.getD,List.getD,List.getElem?_eq_getElem I,List.getElem?_eq_getElem D]at this;simpa using this
theorem y4w (q:BdQ)(r:Int)(w0:World)(hB:BdAt w0 q)(hv:BdOk q.p)(hr:-4<=r/\r<=4):Rets prog 52 #[.agg #[.slice q.f.1 q.f.2.1 q.f.2.2,.slice q.b.1 q.b.2.1 q.b.2.2],.int .i64 r] w0 λv w'=>(∃g n,n=(z2n q.p r).length/\v=.slice (some ⟨g,0,none⟩) n n/\w0.heap.size<=g/\Lw.Own z1f 73 w0.heap.size w' v ((z2n q.p r).map Hd.id))/\Fr [] w0 w':=by
 obtain⟨⟨hf,hb⟩,h4,b3⟩:=z3w hv;refine we [(0,.agg #[.slice q.f.1 q.f.2.1 q.f.2.2,.slice q.b.1 q.b.2.1 q.b.2.2]),(1,.int .i64 r)] func52 U ntmps52 U (.c2 U U) ?_;have a3:=hB;refine sr (bx U (λg2 w1 b4 a4 q1 z1=>(asg U (nn (sr (z0n U a4 z4w (mv U U ?_)))))));replace hB:=a3.ext q1;refine cl (ev2 U) (mkC func117) (v0j q _ _ hB hv hr) U ?_;rintro _ w2 ⟨⟨a2,l,n,a6,a1,b6,rfl,a9,Z⟩,q2⟩;have z2:=q2.size;have a5:=(Z.blk a2 (by simp[z0u])).2;refine mv U U (xt U (xt U (asg U (asg U (kpL [(5,_)] (.cons U .nil) (nn (sr (mv U U (lnS U underlying202 (z1e (m:=n) (c:=n) (id0) U z4x y0n U (λJ w3 b0 I q3 z3=>(asg U (nn (sq (sr (mv U U (lnS U underlying202 (mv U U (nn (bl (lpK (ι:=Nat×List LId) [(7,_),(19,_),(20,_)] (λp=>[(21,.int .i64 (p.1:Int))]) (λp w'=>Fr [J] w3 w'/\p.1<=n/\p.2.length=n/\Lw.Own z1f 73 w0.heap.size w' (.slice (some ⟨J,0,none⟩) n n) p.2/\(∀j,j<p.1->p.2.getD j id0=(l.getD j hd0).id)) (λp=>n-p.1) (0,List.replicate n id0) (.c4 U U U U) ⟨Fr.refl _ _,⟨Nat.zero_le _,sp0,I.low oo,λj hj=>absurd hj sp0⟩⟩ ?_)))))))))))))))))))));rintro⟨i,ps⟩ w4 ⟨q4,⟨hi,D,I,O⟩⟩;simp only at hi I O D;have z4:=q4.size;refine kpC [(7,_),(19,_),(20,_),(21,.int .i64 (i:Int))] (.c4 U U U U) (sr (lt' U (nn (sq (cd U (λc0=>?_) (λc0=>?_))))));refine sk (tn (sq (bl (sr (mv U U ?_)))));replace Z:=(Z.ext q3).fr q4 (by intro k hk hb;simp[z0u]at hk hb;omega);refine z1d (hd0) U Z.sl U z3g z1g (λa8 a0=>?_);refine z1l U (a0 _ Z.sl) z4z (al v6g U (λg9 w5 b5 M q5 z5=>(asg U (z0k (vs:=[_,_,_,_,_]) U M z8l (λw6 M q6 z6=>(nn (rg (mv U U (mv U U (fad U y9x (z1w (vs:=[_,_]) U M z2y U ?_)))))))))));replace I:=(I.ext q5).fr q6 (by intro k hk hb;simp at hk;subst hk;have:=(I.blk _ hb);omega);refine y0h (p:=i) (E:=z1f) U U z4x (z6b (i:=i) (((l.getD i hd0).id)) U U I oo U y0c (λw7 I q7 z7=>(kpL [(7,_),(19,_),(20,_),(21,_)] (.c4 U U U U) (nl (bn' (tn (rg (z1b U (wi6 oo) (mv U U (nl ?_))))))))));exact lpE ((i+1,ps.set i ((l.getD i hd0).id))) (.c4 U U U U) ⟨((Fr.refl [J] _).z4 q4 q5 q6 q7),⟨sm,by simp only[List.length_set];exact D,I,λj hj=>by
  simp only at hj ⊢;rw[z1j oo];split;rename_i e;subst e;rfl;exact O j oo⟩⟩ sm
 obtain rfl:i=n:=by omega
 refine ex (te (te (xh (tn (sr (mv U U (asg U (kpL [(4,_)] (.cons U .nil) (nn (rt (r1 results52 U ?_)))))))))));have a7:=j2c (D.trans a1) (λj hj=>O j oo);subst a6;subst a7;exact⟨_,rfl,⟨J,_,a1,rfl,oo,I⟩,(q1.z3 q2 q3 q4)⟩
theorem v3i:z3q prog 57 8:=⟨λ_=>kr,λ_=>kr⟩
theorem j9h:BuildAt prog 55 [(0,1),(1,1),(2,1),(3,1)] [(.slice none 0 0),(.slice none 0 0),(.slice none 0 0),(.slice none 0 0)]:=BuildAt.struct underlying55 (λ_=>kr) (λ_=>kr)
theorem u2m:BuildAt prog 57 [(0,1),(1,2),(3,1),(4,4)] [(.int .i64 0),(.slice none 0 0),(.slice none 0 0),(.slice none 0 0),(.slice none 0 0),(.slice none 0 0),(.slice none 0 0),(.slice none 0 0)]:=BuildAt.struct underlying57 (λ_=>kr) (λ_=>kr)
theorem k1s:BuildAt prog 117 [(0,2),(2,2),(4,1)] [(.int .u8 0),(.int .i64 0),(.int .u8 0),(.int .i64 0),(.int .i64 0)]:=BuildAt.struct underlying117 (λ_=>kr) (λ_=>kr)
theorem j9v:z1q prog 55 4:=λ_=>kr
theorem v7w:z1q prog 57 8:=λ_=>kr
theorem j8e (w:World):(zeroValue 55).run prog w=.ok (.agg #[(.slice none 0 0),(.slice none 0 0),(.slice none 0 0),(.slice none 0 0)]) w:=kr
theorem k0r (w:World):(zeroValue 57).run prog w=.ok (.agg #[(.int .i64 0),(.slice none 0 0),(.slice none 0 0),(.slice none 0 0),(.slice none 0 0),(.slice none 0 0),(.slice none 0 0),(.slice none 0 0)]) w:=kr
theorem v3s (wS:World)(ka:MA)(m:MQ)(w0:World)(hM:MkM τd 183 wS ka w0 m)(hi:MInv m.p)(o3:m.cr.length<=100000000):Rets prog 42 #[.pointer (some ⟨ka.gk,0,none⟩)] w0 λr w'=>∃s:StQ,r=.agg #[.int .i64 s.rk,.slice s.q.f.1 s.q.f.2.1 s.q.f.2.2,.slice s.q.b.1 s.q.b.2.1 s.q.b.2.2,.slice s.yv.1 s.yv.2.1 s.yv.2.2,.slice s.fb.t.1 s.fb.t.2.1 s.fb.t.2.2,.slice s.fb.c.1 s.fb.c.2.1 s.fb.c.2.2,.slice s.fb.h.1 s.fb.h.2.1 s.fb.h.2.2,.slice s.fb.f.1 s.fb.f.2.1 s.fb.f.2.2]/\StO τd 117 wS.heap.size w' s/\s.p=stM m.p/\Fr [] wS w':=by
 have o9:=hM.fr.size;have D:=hM.k;have o7:=D.lt;have o8:=hM.ly;have f7:=hM.lt;have i4:=hM;have n9:=(hM.t.out.blk ka.gt (by simp[z0u])).2;have n8:=hM.c.lt;have i7:=λk D=>(hM.f.blk k D).2;have o4:(crM m.cr).length=m.cr.length:=List.length_map ..;have l4:∀j,(m.ts.getD j tq0).2.length<=2048:=λj=>Nat.le_trans (u7y m.ts j) hi.all;have hfl:m.fl.length<=2048:=by have x:=hi.cnt;have y:=hi.all;have z:m.p.fa=m.fl:=rfl;rw[z]at x;omega
 refine we [(0,.pointer (some ⟨ka.gk,0,none⟩))] func42 U ntmps42 U (.cons U .nil) ?_;have a2:=hM;refine sr (al k0r U (λg2 w1 o5 M q1 z1=>(nn (sr (mv U U (nlc U (fad U y3b ?_)))))));replace D:=D.ext q1;refine z0i U D U v2s ?_;replace hM:=a2.ext q1;refine j8n U hM.c underlying181 U (z1e (m:=0) (c:=(crM m.cr).length) (cx0) U u7h u5h U (λo1 w2 m7 ho q2 z2=>(asg U (kpL [(0,_),(2,_),(3,_)] (.c3 U U U) (nn (sq (sr (mv U U (nlc U (fad U y3b ?_))))))))));replace D:=D.ext q2;refine z0i U D U v2s ?_;replace hM:=a2.ext (q1.n1 q2);refine u3a U hM.c underlying181 U (λk4 w3 m8 a1 q3 z3=>(nn (bl ?_)));replace ho:=ho.ext q3;refine lpK (ι:=Value×List Cx×List Cx) [(0,_),(2,_),(19,_)] (λp=>[(3,p.1)]) (λp w'=>Fr [] w1 w'/\(p.2.1++p.2.2).Perm m.cr/\Lw.Own z5w 117 w1.heap.size w' p.1 p.2.1/\CrIt w' k4 ka.gc (crM m.cr) p.2.2 none) (λp=>p.2.2.length) (_,[],m.cr) (.c4 U U U U) ⟨(q2.n1 q3),⟨List.Perm.refl _,ho.low oo,a1⟩⟩ ?_;rintro⟨vP,a5,rem⟩ w4 ⟨q4,⟨f2,ho,a1⟩⟩;simp only at f2 ho a1;have z4:=q4.size;refine kpC [(0,_),(2,_),(19,_),(3,vP)] (.c4 U U U U) ?_;have f9:=a1.neO ho;have k7:=a1.lt;have l3:=f2.length_eq;rw[List.length_append]at l3;refine sr (j1r U a1 U (λl1 c l2 g7 w5 a1 q5 z5=>?_) (λg7=>?_));refine xt U (nn (sq (ct U ?_)));have j2:((a5++[c])++(l1++l2)).Perm m.cr:=by
  rw[g7]at f2;refine List.Perm.trans ?_ f2;rw[List.append_assoc];exact List.Perm.append_left _ (show (c::(l1++l2)).Perm (l1++c::l2) from List.perm_middle.symm)
 refine sk (tn (bl (sr (u5m U a1 U (xt U (xt U (al j6k U (λg4 w6 o6 g1 q6 z6=>(z0k (vs:=[_,_,_,_]) U g1 u9b (λw7 g1 q7 z7=>?_))))))))));refine asg U (nn (rg (mv U U (y3z U U underlying184 y0c (z1w (vs:=[_,_]) U g1 z2y U (y3z U U underlying184 y0c (z1w (vs:=[_,_]) U g1 z2y U (mv U U (z1y (cs:=[_,_,_,_,_]) (ev3 U) k1s (z0g U (z0g U (z0g U z0s))) U ?_)))))))));refine z2t ([c]) (ev1 U) U u7h (λo2 w8 m9 j0 q8 z8=>?_);replace a1:=((a1.ext q6).fr q7 (by intro k D;simp at D;subst D;exact⟨oo,oo⟩)).ext q8;replace ho:=(((ho.fr q5 (by intro k D I;simp at D;subst D;first|exact(f9 _ I).2 U|(have:=ho.blk _ I;omega))).ext q6).fr q7 (by intro k D I;simp at D;subst D;first|exact(f9 _ I).2 U|(have:=ho.blk _ I;omega))).ext q8;have g0:=ho;refine z2l U ho j0.sl u7h (λp0 w9 ho q9 l0=>?_);have z9:=q9.size;replace a1:=a1.fr q9 (a1.neO g0);exact asg U (kpL [(0,_),(2,_),(3,_),(19,_)] (.c4 U U U U) (nl (bn' (lpE ((_,a5++[c],l1++l2)) (.c4 U U U U) ⟨((q4.z4 q5 q6 q7 q8).step q9 (λk D f7=>absurd (g0.blk k D).1 oo)),⟨j2,ho,a1.no⟩⟩ (by simp only[g7,List.length_append,List.length_cons];omega)))));refine xt U (nn (sq (cf U ?_)));rw[g7,List.append_nil]at f2;have k9:(a5.map λc=>(c.a,c.b)).Nodup:=(f2.map _).nodup_iff.2 (by have x:=i4.c.nodup;rwa [x1e]at x);have g8:x3t a5=x3t m.cr:=v9y (by have x:=i4.c.nodup;rwa [x1e]at x) ((z8x a5).trans f2) (x7t a5);refine ex (te (te (xh (tn (sr (mv U U ?_))))));have j1:=ho;replace M:=M.ext q4;refine cl (ev2 U) (mkC func101) (k0l ho oo k9) U ?_;rintro _ l5 ⟨rfl,ho,i0⟩;replace M:=M.fr i0 (λD=>by have:=(j1.blk _ D).1;omega);have r8:=i0.size;replace hM:=a2.ext ((q1.n1 q4).step i0 (λk D f7=>absurd (j1.blk k D).1 oo));have D:=hM.k;refine nn (sq (sr (mv U U (nlc U (fad U y3a (z0i U D U x4q (lnS U underlying53 (mv U U (nn (bl (lpK (ι:=Nat×List TQ) [(0,_),(2,_),(3,_),(39,_),(40,_)] (λp=>[(41,.int .i64 (p.1:Int))]) (λp w'=>Fr [ka.gt] l5 w'/\p.1<=6/\(∀j,(p.2.getD j tq0).2=(m.ts.getD j tq0).2)/\MkM τd 183 wS ka w' { m with ts:=p.2 }) (λp=>6-p.1) (0,m.ts) (.c6 U U U U U U) ⟨Fr.refl _ _,⟨Nat.zero_le _,λ_=>rfl,hM⟩⟩ ?_)))))))))));rintro⟨i,ts⟩ p1 ⟨h0,⟨k8,e1,hM⟩⟩;simp only at k8 e1 hM;have r9:=h0.size;have a2:=hM;refine kpC [(0,_),(2,_),(3,_),(39,_),(40,_),(41,.int .i64 (i:Int))] (.c6 U U U U U U) ?_;have D:=hM.k;have g9:ts.length=6:=hM.lt;have o0:=hM.lt;refine sr (lt' U (nn (sq (cd U (λc1=>?_) (λc1=>?_)))));refine sk (tn (sq (bl (sr (mv U U (z1d (tq0) U hM.t.out.sl U y6v z1g (λm6 i5=>?_)))))));refine z1k U (i5 _ hM.t.out.sl) x1q (asg U (asg U (nn ?_)));intro a h;refine z0h (some 7) (λwb w'=>Fr [] wb w') z2m ?_;intro j4 h1;have s2:=h1.size;replace hM:=hM.ext h1;replace D:=D.ext h1;have hC:Fr [] j4 j4:=Fr.refl _ _;have b7:=hM;have J:=D;refine z0e 0 h U λa h=>z0l 1 h U λa h=>z0c 2 h U y3a U λa h=>z0j 3 h U (λ_ hw=>J.ext hw) U x4q U λa h=>z0e 4 h U λa h=>z0e 5 h U λa h=>z0d 6 U (z0o h (z0a U z0f) (mkC func103) (v3o _ (ts.getD i tq0).2 _ (hM.t.ins i (by rw[hM.lt];omega)).sl (by rw[e1 i];have:=l4 i;omega)) ?_);rintro _ p2 ⟨i3,rfl,n7,hX,h2⟩ a h;have s3:=h2.size;replace hM:=hM.ext h2;replace hC:=hC.next h2;have i9:∀j,j<6->∀b∈z0u (slv (ts.getD j tq0).1),b∉z0u (slv (((some ⟨i3,0,none⟩,(ts.getD i tq0).2.length,(ts.getD i tq0).2.length)):SV)):=λj hj b I k5=>by have:=((a2.t.ins j (by rw[a2.lt];omega)).blk b I).2;simp[z0u,slv]at k5;omega
 refine z0b (z0d 7 U (y9r (p:=i) (i:=(i:Int)) (m:=6) (E:=z4b) h U U y6v oo oo oo U λa h=>?_));refine z0b (z0d 8 U (z1c (i:=i) (((some ⟨i3,0,none⟩,(ts.getD i tq0).2.length,(ts.getD i tq0).2.length),(ts.getD i tq0).2):TQ) h U hM.t.out (by rw[hM.lt];omega) U k1l λp3 h6 i1 _hz a h=>?_));replace hM:=hM.tabh mtd oo (hX.low oo) i9 h6 i1;have a2:=hM;clear h6;have s4:=i1.size;clear _hz;refine z1m (z0p ?_);clear hC b7 J;refine bk (h.sub (L':=[(0,_),(2,_),(3,_),(39,_),(40,_),(41,_)]) (.c6 U U U U U U)) (bn' (tn (rg (z1b U (wi6 oo) (mv U U (nl ?_))))));exact lpE ((i+1,_)) (.c6 U U U U U U) ⟨((Fr.refl [ka.gt] _).z4 h0 h1 h2 i1),⟨sm,λj=>by
  simp only;rw[z1j oo];split;rename_i e;subst e;exact e1 _;exact e1 j,hM⟩⟩ sm
 obtain rfl:i=6:=by omega
 refine ex (te (te (xh (tn (sr (mv U U (nlc U (fad U y3h (z0i U D U z8o ?_)))))))));replace ho:=ho.fr h0 (by intro k D I;simp at D;subst D;have:=ho.blk _ I;omega);replace M:=M.fr h0;refine cl (z0a U (z0a U z0f)) (mkC func104) (j6j hM.f (by show m.fl.length<_;omega)) U ?_;rintro _ p4 ⟨rfl,k6,g6⟩;have s5:=g6.size;replace hM:=hM.fallS mtd dd k6 g6;have a2:=hM;have D:=hM.k;replace ho:=ho.fr g6 (λk D I=>by have:=i7 k D;have:=(ho.blk k I).1;omega);have g3:=λk D=>(ho.blk k D).2;replace M:=M.fr g6 (λD=>by have:=i7 _ D;omega);have f5:=M;refine kpL [(0,_),(2,_),(3,_)] (.c3 U U U) (nn (sq ?_));intro a h;refine z0h none (λwb w'=>Fr [] wb w') z2m ?_;intro i2 a9;have s6:=a9.size;replace hM:=hM.ext a9;replace D:=D.ext a9;replace ho:=ho.ext a9;have hC:Fr [] i2 i2:=Fr.refl _ _;have b7:=hM;have J:=D;have f6:=ho;refine z0e 0 h U λa h=>z0l 1 h U λa h=>z0c 2 h U y3a U λa h=>z0j 3 h U (λ_ hw=>J.ext hw) U x4q U λa h=>z0e 4 h U λa h=>z0e 6 h U λa h=>z0l 7 h U λa h=>z0c 8 h U z3f U λa h=>z1a (vs:=[_,_]) 9 h U (λ_ hw=>(J.ext hw)) z4w U U λa h=>z0e 10 h U λa h=>z0l 11 h U λa h=>z0c 12 h U z3s U λa h=>z0j 13 h U (λ_ hw=>J.ext hw) U na3 U λa h=>z0e 15 h U λa h=>z0l 16 h U λa h=>z0c 17 h U y3h U λa h=>z0j 18 h U (λ_ hw=>J.ext hw) U z8o U λa h=>z1x 5 21 kr U ?_ ?_;refine z0o h (z0a U z0f) (mkC func105) (v7t _ (x3t a5) _ ho.sl (by rw[(z8x a5).length_eq];omega)) ?_;rintro _ l6 ⟨e9,rfl,i8,Z,b6⟩ a h;have s7:=b6.size;replace hM:=hM.ext b6;replace D:=D.ext b6;replace ho:=ho.ext b6;replace hC:=hC.next b6;have h8:=(Z.blk e9 (by simp[z0u])).2;refine z0b (z1x 14 21 kr U ?_ ?_);refine z0o h (z0a U (z0a U z0f)) (mkC func52) (y4w m.q m.rk _ hM.b.at hi.B hi.rk) ?_;rintro _ l7 ⟨⟨a8,j3,h5,rfl,h3,hH⟩,q18⟩ a h;have s8:=q18.size;replace hM:=hM.ext q18;replace D:=D.ext q18;replace ho:=ho.ext q18;replace Z:=Z.ext q18;replace hC:=hC.next q18;have h4:=(hH.blk a8 (by simp[z0u])).2;refine z0b (z1x 19 21 kr U ?_ ?_);refine z0o h (z0a U z0f) x1v (z3t _ (z7w m.fl) _ hM.f.sl (by rw[(z5n _).length_eq];omega)) ?_;rintro _ l8 ⟨a6,rfl,f8,a0,e2⟩ a h;have s9:=e2.size;replace D:=D.ext e2;replace hC:=hC.next e2;have f1:=(a0.blk a6 (by simp[z0u])).2;refine z0b (z2z (cs:=[_,_,_,_]) 20 h (z0a U (z0a U (z0a U (z0a U z0f)))) j9h (z0g U (z0g U (z0g U (z0g U z0s)))) U U λa h=>z0d 21 U ?_);refine z0w h j8e U λp5 O b8 hz a h=>?_;obtain⟨b0,hg⟩:∃g,g=l8.heap.size:=⟨_,rfl⟩;rw[<-hg]at O h hz;have h9.gk_8:ka.gk<b0:=by have:=D.lt;omega
 have t8:=b8.size;replace D:=D.ext b8;replace ho:=ho.ext (e2.n1 b8);replace Z:=Z.ext (e2.n1 b8);replace hH:=hH.ext (e2.n1 b8);replace a0:=a0.ext b8;replace hC:=hC.next b8;refine z0b (z0d 22 U (z0t h U O U j9v λl9 a4 b9 hz a h=>?_));have t9:=b9.size;replace D:=D.fr b9;replace ho:=ho.fr b9 (by intro k D I;simp at D;subst D;have:=g3 _ I;omega);replace Z:=Z.fr b9 (by intro k D I;simp[z0u]at D I;omega);replace hH:=hH.fr b9 (by intro k D I;simp[z0u]at D I;omega);replace a0:=a0.fr b9 (by intro k D I;simp[z0u]at D I;omega);replace hC:=hC.sp b9;clear O hz;have O:Blk l9 b0 _ [_,_,_,_]:=a4;clear a4;refine z0b (z0p ?_);clear hC b7 J f6;refine bk (h.sub (L':=[(0,_),(2,_),(8,_)]) (.c3 U U U)) (tn (sq ?_));replace M:=(M.ext (a9.n4 b6 q18 e2 b8)).fr b9;intro a h;refine z0h none (λwb w'=>Fr [g2] wb w') z2m ?_;intro j5 e3;have u0:=e3.size;replace D:=D.ext e3;replace M:=M.ext e3;replace O:=O.ext e3;have hC:Fr [g2] j5 j5:=Fr.refl _ _;have J:=D;have a7:=M;have a3:=O;refine z0e 0 h U λa h=>z0l 1 h U λa h=>z0c 2 h U z3s U λa h=>z0j 3 h U (λ_ hw=>J.fr hw se) U na3 U λa h=>z0e 4 h U λa h=>z0l 5 h U λa h=>z0c 6 h U z3f U λa h=>z1a (vs:=[_,_]) 7 h U (λ_ hw=>(J.fr hw se)) z4w U U λa h=>z0e 8 h U λa h=>z0l 9 h U λa h=>z0c 10 h U z3e U λa h=>?_;refine z0j 11 h U (λ_ hw=>J.fr hw se) U y4d U λa h=>z0v 12 h U (λ_ hw=>a3.fr hw se) u0r U λa h=>z2z (cs:=[_,_,_,_,_,_,_,_]) 13 h (z0a U (z0a U (z0a U (z0a U z0f)))) u2m (z0g U (z0g U (z0g U (z0g U z0s)))) U U λa h=>z0d 14 U ?_;refine z0t h U M U v7w λj6 a4 c0 hz a h=>?_;have u2:=c0.size;replace D:=D.fr c0;replace O:=O.fr c0;replace hC:=hC.sp c0;clear M hz;have M:Blk j6 g2 _ [_,_,_,_,_,_,_,_]:=a4;clear a4;refine z0b (z0p ?_);clear hC J a7 a3;refine bk (h.sub (L':=[(2,_)]) (.cons U .nil)) (tn (rt (rC results42 U M v3i  ?_)));replace Z:=(Z.ext e3).fr c0 (by intro k D I;simp[z0u]at D I;omega);replace hH:=(hH.ext e3).fr c0 (by intro k D I;simp[z0u]at D I;omega);replace a0:=(a0.ext e3).fr c0 (by intro k D I;simp[z0u]at D I;omega);have b3:=(a9.z6 b6 q18 e2 b8 b9 e3);have b4:Fr [] _ j6:=(Fr.refl _ _);have b5:=a2.ext b3;have hW:=(b5.toW.off (f5.ext b3) dd c0).ext b4;have f0:=(b5.fr.fr.step c0 so).next b4;have f3:z1r ts=z1r m.ts:=y5z (g9.trans f7.symm) (λj _=>by rw[e1 j]);exact⟨_,rfl,⟨m.rk,m.q,(some ⟨ka.gy,0,none⟩,6,ka.cy),m.ys,⟨(some ⟨ka.gt,0,none⟩,6,ka.ct),(some ⟨e9,0,none⟩,_,_),(some ⟨a8,0,none⟩,_,_),(some ⟨a6,0,none⟩,_,_),ts,x3t a5,_,z7w m.fl⟩⟩,rfl,⟨hW.b,hW.y,hW.t,Z.low oo,hH.low oo,a0.low oo,(λk D=>by
  have h7:k=a8:=by simpa[z0u,slv] using D
  refine⟨λq hq I=>?_,λt ht l hl I=>?_,λI=>?_⟩;rcases List.mem_append.1 hq with hq|hq
  have:=((a2.b.f.2 q hq).blk _ I).2;omega;have:=((a2.b.b.2 q hq).blk _ I).2;omega;obtain⟨i,hi,rfl⟩:=List.getElem_of_mem ht;have e:ts.getD i tq0=ts[i]:=by rw[List.getD,List.getElem?_eq_getElem hi];rfl
  rw[<-e]at hl;have:=((a2.t.lps i hi l hl).1.blk _ I).2;omega;have:k=a6:=by simpa[z0u,slv] using I
  omega)⟩,by show (⟨m.rk,m.q.p,m.ys.map YQ.p,⟨z1r ts,x3t a5,(z2n m.q.p m.rk).map Hd.id,z7w m.fl⟩⟩:St)=_;rw[f3,g8];rfl,f0⟩
 refine z0w h j8e U λp6 O c9 hz a h=>?_;obtain⟨b0,hg⟩:∃g,g=l7.heap.size:=⟨_,rfl⟩;rw[<-hg]at O h hz;have h9.gk_8:ka.gk<b0:=by have:=D.lt;omega
 have u3:=c9.size;replace hM:=hM.ext c9;replace hC:=hC.next c9;refine z0b (z0d 19 U (z0o h (z0a U z0f) x1v (z3t _ (z7w m.fl) _ hM.f.sl (by rw[(z5n _).length_eq];omega)) ?_));rintro _ p7 ⟨a6,rfl,f8,a0,d0⟩ a h;have u4:=d0.size;replace D:=D.ext (c9.n1 d0);replace ho:=ho.ext (c9.n1 d0);replace Z:=Z.ext (c9.n1 d0);replace hH:=hH.ext (c9.n1 d0);replace O:=O.ext d0;replace hC:=hC.next d0;have f1:=(a0.blk a6 (by simp[z0u])).2;refine z0b (z2z (cs:=[_,_,_,_]) 20 h (z0a U (z0a U (z0a U (z0a U z0f)))) j9h (z0g U (z0g U (z0g U (z0g U z0s)))) U U λa h=>z0d 22 U ?_);refine z0t h U O U j9v λm0 a4 d1 hz a h=>?_;have u5:=d1.size;replace D:=D.fr d1;replace ho:=ho.fr d1 (by intro k D I;simp at D;subst D;have:=g3 _ I;omega);replace Z:=Z.fr d1 (by intro k D I;simp[z0u]at D I;omega);replace hH:=hH.fr d1 (by intro k D I;simp[z0u]at D I;omega);replace a0:=a0.fr d1 (by intro k D I;simp[z0u]at D I;omega);replace hC:=hC.sp d1;clear O hz;have O:Blk m0 b0 _ [_,_,_,_]:=a4;clear a4;refine z0b (z0p ?_);clear hC b7 J f6;refine bk (h.sub (L':=[(0,_),(2,_),(8,_)]) (.c3 U U U)) (tn (sq ?_));replace M:=(M.ext (a9.n4 b6 q18 c9 d0)).fr d1;intro a h;refine z0h none (λwb w'=>Fr [g2] wb w') z2m ?_;intro j7 e4;have u6:=e4.size;replace D:=D.ext e4;replace M:=M.ext e4;replace O:=O.ext e4;have hC:Fr [g2] j7 j7:=Fr.refl _ _;have J:=D;have a7:=M;have a3:=O;refine z0e 0 h U λa h=>z0l 1 h U λa h=>z0c 2 h U z3s U λa h=>z0j 3 h U (λ_ hw=>J.fr hw se) U na3 U λa h=>z0e 4 h U λa h=>z0l 5 h U λa h=>z0c 6 h U z3f U λa h=>z1a (vs:=[_,_]) 7 h U (λ_ hw=>(J.fr hw se)) z4w U U λa h=>z0e 8 h U λa h=>z0l 9 h U λa h=>z0c 10 h U z3e U λa h=>?_;refine z0j 11 h U (λ_ hw=>J.fr hw se) U y4d U λa h=>z0v 12 h U (λ_ hw=>a3.fr hw se) u0r U λa h=>z2z (cs:=[_,_,_,_,_,_,_,_]) 13 h (z0a U (z0a U (z0a U (z0a U z0f)))) u2m (z0g U (z0g U (z0g U (z0g U z0s)))) U U λa h=>z0d 14 U ?_;refine z0t h U M U v7w λj8 a4 d3 hz a h=>?_;have u7:=d3.size;replace D:=D.fr d3;replace O:=O.fr d3;replace hC:=hC.sp d3;clear M hz;have M:Blk j8 g2 _ [_,_,_,_,_,_,_,_]:=a4;clear a4;refine z0b (z0p ?_);clear hC J a7 a3;refine bk (h.sub (L':=[(2,_)]) (.cons U .nil)) (tn (rt (rC results42 U M v3i  ?_)));replace Z:=(Z.ext e4).fr d3 (by intro k D I;simp[z0u]at D I;omega);replace hH:=(hH.ext e4).fr d3 (by intro k D I;simp[z0u]at D I;omega);replace a0:=(a0.ext e4).fr d3 (by intro k D I;simp[z0u]at D I;omega);have b3:=(a9.z6 b6 q18 c9 d0 d1 e4);have b4:Fr [] _ j8:=(Fr.refl _ _);have b5:=a2.ext b3;have hW:=(b5.toW.off (f5.ext b3) dd d3).ext b4;have f0:=(b5.fr.fr.step d3 so).next b4;have f3:z1r ts=z1r m.ts:=y5z (g9.trans f7.symm) (λj _=>by rw[e1 j]);exact⟨_,rfl,⟨m.rk,m.q,(some ⟨ka.gy,0,none⟩,6,ka.cy),m.ys,⟨(some ⟨ka.gt,0,none⟩,6,ka.ct),(some ⟨e9,0,none⟩,_,_),(some ⟨a8,0,none⟩,_,_),(some ⟨a6,0,none⟩,_,_),ts,x3t a5,_,z7w m.fl⟩⟩,rfl,⟨hW.b,hW.y,hW.t,Z.low oo,hH.low oo,a0.low oo,(λk D=>by
  have h7:k=a8:=by simpa[z0u,slv] using D
  refine⟨λq hq I=>?_,λt ht l hl I=>?_,λI=>?_⟩;rcases List.mem_append.1 hq with hq|hq
  have:=((a2.b.f.2 q hq).blk _ I).2;omega;have:=((a2.b.b.2 q hq).blk _ I).2;omega;obtain⟨i,hi,rfl⟩:=List.getElem_of_mem ht;have e:ts.getD i tq0=ts[i]:=by rw[List.getD,List.getElem?_eq_getElem hi];rfl
  rw[<-e]at hl;have:=((a2.t.lps i hi l hl).1.blk _ I).2;omega;have:k=a6:=by simpa[z0u,slv] using I
  omega)⟩,by show (⟨m.rk,m.q.p,m.ys.map YQ.p,⟨z1r ts,x3t a5,(z2n m.q.p m.rk).map Hd.id,z7w m.fl⟩⟩:St)=_;rw[f3,g8];rfl,f0⟩
 refine z0w h j8e U λp8 O e5 hz a h=>?_;obtain⟨b0,hg⟩:∃g,g=l6.heap.size:=⟨_,rfl⟩;rw[<-hg]at O h hz;have h9.gk_8:ka.gk<b0:=by have:=D.lt;omega
 have u9:=e5.size;replace hM:=hM.ext e5;replace hC:=hC.next e5;refine z0b (z0d 14 U (z0o h (z0a U (z0a U z0f)) (mkC func52) (y4w m.q m.rk _ hM.b.at hi.B hi.rk) ?_));rintro _ p9 ⟨⟨a8,j3,h5,rfl,h3,hH⟩,q30⟩ a h;have v8:=q30.size;replace hM:=hM.ext q30;replace hC:=hC.next q30;have h4:=(hH.blk a8 (by simp[z0u])).2;refine z0b (z0d 19 U (z0o h (z0a U z0f) x1v (z3t _ (z7w m.fl) _ hM.f.sl (by rw[(z5n _).length_eq];omega)) ?_));rintro _ q0 ⟨a6,rfl,f8,a0,d4⟩ a h;have v9:=d4.size;replace D:=D.ext (e5.n2 q30 d4);replace ho:=ho.ext (e5.n2 q30 d4);replace Z:=Z.ext (e5.n2 q30 d4);replace O:=O.ext (q30.n1 d4);replace hH:=hH.ext d4;replace hC:=hC.next d4;have f1:=(a0.blk a6 (by simp[z0u])).2;refine z0b (z2z (cs:=[_,_,_,_]) 20 h (z0a U (z0a U (z0a U (z0a U z0f)))) j9h (z0g U (z0g U (z0g U (z0g U z0s)))) U U λa h=>z0d 22 U ?_);refine z0t h U O U j9v λm4 a4 d5 hz a h=>?_;have x0:=d5.size;replace D:=D.fr d5;replace ho:=ho.fr d5 (by intro k D I;simp at D;subst D;have:=g3 _ I;omega);replace Z:=Z.fr d5 (by intro k D I;simp[z0u]at D I;omega);replace hH:=hH.fr d5 (by intro k D I;simp[z0u]at D I;omega);replace a0:=a0.fr d5 (by intro k D I;simp[z0u]at D I;omega);replace hC:=hC.sp d5;clear O hz;have O:Blk m4 b0 _ [_,_,_,_]:=a4;clear a4;refine z0b (z0p ?_);clear hC b7 J f6;refine bk (h.sub (L':=[(0,_),(2,_),(8,_)]) (.c3 U U U)) (tn (sq ?_));replace M:=(M.ext (a9.n4 b6 e5 q30 d4)).fr d5;intro a h;refine z0h none (λwb w'=>Fr [g2] wb w') z2m ?_;intro j9 e6;have x1:=e6.size;replace D:=D.ext e6;replace M:=M.ext e6;replace O:=O.ext e6;have hC:Fr [g2] j9 j9:=Fr.refl _ _;have J:=D;have a7:=M;have a3:=O;refine z0e 0 h U λa h=>z0l 1 h U λa h=>z0c 2 h U z3s U λa h=>z0j 3 h U (λ_ hw=>J.fr hw se) U na3 U λa h=>z0e 4 h U λa h=>z0l 5 h U λa h=>z0c 6 h U z3f U λa h=>z1a (vs:=[_,_]) 7 h U (λ_ hw=>(J.fr hw se)) z4w U U λa h=>z0e 8 h U λa h=>z0l 9 h U λa h=>z0c 10 h U z3e U λa h=>?_;refine z0j 11 h U (λ_ hw=>J.fr hw se) U y4d U λa h=>z0v 12 h U (λ_ hw=>a3.fr hw se) u0r U λa h=>z2z (cs:=[_,_,_,_,_,_,_,_]) 13 h (z0a U (z0a U (z0a U (z0a U z0f)))) u2m (z0g U (z0g U (z0g U (z0g U z0s)))) U U λa h=>z0d 14 U ?_;refine z0t h U M U v7w λk0 a4 d6 hz a h=>?_;have x2:=d6.size;replace D:=D.fr d6;replace O:=O.fr d6;replace hC:=hC.sp d6;clear M hz;have M:Blk k0 g2 _ [_,_,_,_,_,_,_,_]:=a4;clear a4;refine z0b (z0p ?_);clear hC J a7 a3;refine bk (h.sub (L':=[(2,_)]) (.cons U .nil)) (tn (rt (rC results42 U M v3i  ?_)));replace Z:=(Z.ext e6).fr d6 (by intro k D I;simp[z0u]at D I;omega);replace hH:=(hH.ext e6).fr d6 (by intro k D I;simp[z0u]at D I;omega);replace a0:=(a0.ext e6).fr d6 (by intro k D I;simp[z0u]at D I;omega);have b3:=(a9.z6 b6 e5 q30 d4 d5 e6);have b4:Fr [] _ k0:=(Fr.refl _ _);have b5:=a2.ext b3;have hW:=(b5.toW.off (f5.ext b3) dd d6).ext b4;have f0:=(b5.fr.fr.step d6 so).next b4;have f3:z1r ts=z1r m.ts:=y5z (g9.trans f7.symm) (λj _=>by rw[e1 j]);exact⟨_,rfl,⟨m.rk,m.q,(some ⟨ka.gy,0,none⟩,6,ka.cy),m.ys,⟨(some ⟨ka.gt,0,none⟩,6,ka.ct),(some ⟨e9,0,none⟩,_,_),(some ⟨a8,0,none⟩,_,_),(some ⟨a6,0,none⟩,_,_),ts,x3t a5,_,z7w m.fl⟩⟩,rfl,⟨hW.b,hW.y,hW.t,Z.low oo,hH.low oo,a0.low oo,(λk D=>by
  have h7:k=a8:=by simpa[z0u,slv] using D
  refine⟨λq hq I=>?_,λt ht l hl I=>?_,λI=>?_⟩;rcases List.mem_append.1 hq with hq|hq
  have:=((a2.b.f.2 q hq).blk _ I).2;omega;have:=((a2.b.b.2 q hq).blk _ I).2;omega;obtain⟨i,hi,rfl⟩:=List.getElem_of_mem ht;have e:ts.getD i tq0=ts[i]:=by rw[List.getD,List.getElem?_eq_getElem hi];rfl
  rw[<-e]at hl;have:=((a2.t.lps i hi l hl).1.blk _ I).2;omega;have:k=a6:=by simpa[z0u,slv] using I
  omega)⟩,by show (⟨m.rk,m.q.p,m.ys.map YQ.p,⟨z1r ts,x3t a5,(z2n m.q.p m.rk).map Hd.id,z7w m.fl⟩⟩:St)=_;rw[f3,g8];rfl,f0⟩
 refine z0w h j8e U λr4 O f4 hz a h=>?_;obtain⟨b0,hg⟩:∃g,g=i2.heap.size:=⟨_,rfl⟩;rw[<-hg]at O h hz;have h9.gk_8:ka.gk<b0:=by have:=D.lt;omega
 have x3:=f4.size;replace ho:=ho.ext f4;replace hC:=hC.next f4;refine z0b (z0d 5 U (z0o h (z0a U z0f) (mkC func105) (v7t _ (x3t a5) _ ho.sl (by rw[(z8x a5).length_eq];omega)) ?_));rintro _ r5 ⟨e9,rfl,i8,Z,e7⟩ a h;have x4:=e7.size;replace hM:=hM.ext (f4.n1 e7);replace hC:=hC.next e7;have h8:=(Z.blk e9 (by simp[z0u])).2;refine z0b (z0d 14 U (z0o h (z0a U (z0a U z0f)) (mkC func52) (y4w m.q m.rk _ hM.b.at hi.B hi.rk) ?_));rintro _ r6 ⟨⟨a8,j3,h5,rfl,h3,hH⟩,q37⟩ a h;have x5:=q37.size;replace hM:=hM.ext q37;replace hC:=hC.next q37;have h4:=(hH.blk a8 (by simp[z0u])).2;refine z0b (z0d 19 U (z0o h (z0a U z0f) x1v (z3t _ (z7w m.fl) _ hM.f.sl (by rw[(z5n _).length_eq];omega)) ?_));rintro _ r7 ⟨a6,rfl,f8,a0,d7⟩ a h;have x6:=d7.size;replace D:=D.ext (f4.n3 e7 q37 d7);replace ho:=ho.ext (e7.n2 q37 d7);replace O:=O.ext (e7.n2 q37 d7);replace Z:=Z.ext (q37.n1 d7);replace hH:=hH.ext d7;replace hC:=hC.next d7;have f1:=(a0.blk a6 (by simp[z0u])).2;refine z0b (z2z (cs:=[_,_,_,_]) 20 h (z0a U (z0a U (z0a U (z0a U z0f)))) j9h (z0g U (z0g U (z0g U (z0g U z0s)))) U U λa h=>z0d 22 U ?_);refine z0t h U O U j9v λm5 a4 d9 hz a h=>?_;have x7:=d9.size;replace D:=D.fr d9;replace ho:=ho.fr d9 (by intro k D I;simp at D;subst D;have:=g3 _ I;omega);replace Z:=Z.fr d9 (by intro k D I;simp[z0u]at D I;omega);replace hH:=hH.fr d9 (by intro k D I;simp[z0u]at D I;omega);replace a0:=a0.fr d9 (by intro k D I;simp[z0u]at D I;omega);replace hC:=hC.sp d9;clear O hz;have O:Blk m5 b0 _ [_,_,_,_]:=a4;clear a4;refine z0b (z0p ?_);clear hC b7 J f6;refine bk (h.sub (L':=[(0,_),(2,_),(8,_)]) (.c3 U U U)) (tn (sq ?_));replace M:=(M.ext (a9.n4 f4 e7 q37 d7)).fr d9;intro a h;refine z0h none (λwb w'=>Fr [g2] wb w') z2m ?_;intro k1 e8;have x8:=e8.size;replace D:=D.ext e8;replace M:=M.ext e8;replace O:=O.ext e8;have hC:Fr [g2] k1 k1:=Fr.refl _ _;have J:=D;have a7:=M;have a3:=O;refine z0e 0 h U λa h=>z0l 1 h U λa h=>z0c 2 h U z3s U λa h=>z0j 3 h U (λ_ hw=>J.fr hw se) U na3 U λa h=>z0e 4 h U λa h=>z0l 5 h U λa h=>z0c 6 h U z3f U λa h=>z1a (vs:=[_,_]) 7 h U (λ_ hw=>(J.fr hw se)) z4w U U λa h=>z0e 8 h U λa h=>z0l 9 h U λa h=>z0c 10 h U z3e U λa h=>?_;refine z0j 11 h U (λ_ hw=>J.fr hw se) U y4d U λa h=>z0v 12 h U (λ_ hw=>a3.fr hw se) u0r U λa h=>z2z (cs:=[_,_,_,_,_,_,_,_]) 13 h (z0a U (z0a U (z0a U (z0a U z0f)))) u2m (z0g U (z0g U (z0g U (z0g U z0s)))) U U λa h=>z0d 14 U ?_;refine z0t h U M U v7w λk2 a4 e0 hz a h=>?_;have x9:=e0.size;replace D:=D.fr e0;replace O:=O.fr e0;replace hC:=hC.sp e0;clear M hz;have M:Blk k2 g2 _ [_,_,_,_,_,_,_,_]:=a4;clear a4;refine z0b (z0p ?_);clear hC J a7 a3;refine bk (h.sub (L':=[(2,_)]) (.cons U .nil)) (tn (rt (rC results42 U M v3i  ?_)));replace Z:=(Z.ext e8).fr e0 (by intro k D I;simp[z0u]at D I;omega);replace hH:=(hH.ext e8).fr e0 (by intro k D I;simp[z0u]at D I;omega);replace a0:=(a0.ext e8).fr e0 (by intro k D I;simp[z0u]at D I;omega);have b3:=(a9.z6 f4 e7 q37 d7 d9 e8);have b4:Fr [] _ k2:=(Fr.refl _ _);have b5:=a2.ext b3;have hW:=(b5.toW.off (f5.ext b3) dd e0).ext b4;have f0:=(b5.fr.fr.step e0 so).next b4;have f3:z1r ts=z1r m.ts:=y5z (g9.trans f7.symm) (λj _=>by rw[e1 j]);exact⟨_,rfl,⟨m.rk,m.q,(some ⟨ka.gy,0,none⟩,6,ka.cy),m.ys,⟨(some ⟨ka.gt,0,none⟩,6,ka.ct),(some ⟨e9,0,none⟩,_,_),(some ⟨a8,0,none⟩,_,_),(some ⟨a6,0,none⟩,_,_),ts,x3t a5,_,z7w m.fl⟩⟩,rfl,⟨hW.b,hW.y,hW.t,Z.low oo,hH.low oo,a0.low oo,(λk D=>by
  have h7:k=a8:=by simpa[z0u,slv] using D
  refine⟨λq hq I=>?_,λt ht l hl I=>?_,λI=>?_⟩;rcases List.mem_append.1 hq with hq|hq
  have:=((a2.b.f.2 q hq).blk _ I).2;omega;have:=((a2.b.b.2 q hq).blk _ I).2;omega;obtain⟨i,hi,rfl⟩:=List.getElem_of_mem ht;have e:ts.getD i tq0=ts[i]:=by rw[List.getD,List.getElem?_eq_getElem hi];rfl
  rw[<-e]at hl;have:=((a2.t.lps i hi l hl).1.blk _ I).2;omega;have:k=a6:=by simpa[z0u,slv] using I
  omega)⟩,by show (⟨m.rk,m.q.p,m.ys.map YQ.p,⟨z1r ts,x3t a5,(z2n m.q.p m.rk).map Hd.id,z7w m.fl⟩⟩:St)=_;rw[f3,g8];rfl,f0⟩
theorem v6q (w0:World):Rets prog 106 #[] w0 λr w'=>(∃g,r=(.slice (some ⟨g,0,none⟩) 6 6)/\w0.heap.size<=g/\Lw.Own z4b 34 w0.heap.size w' (.slice (some ⟨g,0,none⟩) 6 6) (List.replicate 6 tq0))/\Fr [] w0 w':=by
 exact we [] func106 U ntmps106 U .nil (sr (asg U (nn (sr (z1e (m:=6) (c:=6) (tq0) U y6v zv34 U (λD w1 I J M z1=>(asg U (nn (rt (r1 results106 U ⟨_,rfl,⟨D,rfl,oo,J.low oo⟩,M⟩))))))))))
theorem x3o (w0:World):Rets prog 43 #[] w0 λr w'=>(∃g,r=.agg #[(.slice (some ⟨g,0,none⟩) 6 6),.slice none 0 0,.slice none 0 0,.slice none 0 0]/\w0.heap.size<=g/\Lw.Own z4b 34 w0.heap.size w' (.slice (some ⟨g,0,none⟩) 6 6) (List.replicate 6 tq0))/\Fr [] w0 w':=by
 refine we [] func43 U ntmps43 U .nil (sr (al j8e U (λg0 w1 Z D q1 z1=>(nn (sr (cl z0f (mkC func106) (v6q _) U ?_))))));rintro _ w2 ⟨⟨M,rfl,a0,I⟩,q2⟩;refine z1y (cs:=[_,_,_,_]) (ev1 U) j9h (z0g U z0s) U ?_;replace D:=D.ext q2;refine z0k U D j9v (λw3 D J z3=>?_) (hl:=rfl);refine nn (rt (rC results43 U D u0r  ?_));replace I:=I.fr J (by intro k hk O;simp[z0u]at hk O;omega);exact⟨_,rfl,⟨M,rfl,oo,I.low oo⟩,(q1.z2 q2 J)⟩
abbrev st0 (gy gt:Nat):StQ:=(⟨0,⟨sv0,sv0,[],[]⟩,(some ⟨gy,0,none⟩,6,6),List.replicate 6 yq0,⟨(some ⟨gt,0,none⟩,6,6),sv0,sv0,sv0,List.replicate 6 tq0,[],[],[]⟩⟩:StQ)
theorem j6i {w:World}{J I b:Nat}(hy:Lw.Own z3a 95 b w (.slice (some ⟨J,0,none⟩) 6 6) (List.replicate 6 yq0))(ht:Lw.Own z4b 34 b w (.slice (some ⟨I,0,none⟩) 6 6) (List.replicate 6 tq0)):StO τd 117 b w (st0 J I):=by
 have Z:∀i,(st0 J I).ys.getD i yq0=yq0:=λi=>by
  show (List.replicate 6 yq0).getD i yq0=yq0;rw[List.getD,List.getElem?_replicate];split<;>rfl
 have O:∀i,(st0 J I).fb.ts.getD i tq0=tq0:=λi=>by
  show (List.replicate 6 tq0).getD i tq0=tq0;rw[List.getD,List.getElem?_replicate];split<;>rfl
 refine⟨⟨⟨Own.nil w,λq D=>(by cases D)⟩,⟨Own.nil w,λq D=>(by cases D)⟩⟩,⟨hy,λi _=>?_⟩,⟨ht,λi _=>?_,λi j _ _ _ k M=>?_,λi _ q D=>?_⟩,Own.nil w,Own.nil w,Own.nil w,λk M=>(by cases M)⟩;rw[Z i];exact Own.nil w;rw[O i];exact Own.nil w;rw[O i]at M;cases M;rw[O i]at D;cases D
theorem j5o (J I:Nat):StSz (st0 J I):=by
 refine⟨Nat.zero_le _,Nat.zero_le _,λq D=>(by cases D),λq D=>(by cases D),rfl,rfl,λi=>?_,λp M=>?_,Nat.zero_le _,Nat.zero_le _,Nat.zero_le _⟩;have e:(st0 J I).ys.getD i yq0=yq0:=by
  show (List.replicate 6 yq0).getD i yq0=yq0;rw[List.getD,List.getElem?_replicate];split<;>rfl
 rw[e];exact Nat.zero_le _;rw[List.eq_of_mem_replicate M];exact⟨Nat.zero_le _,λq D=>by cases D⟩
theorem v2v (w0:World):Rets prog 14 #[] w0 λr w'=>(∃J I,r=.agg #[.int .i64 (st0 J I).rk,.slice (st0 J I).q.f.1 (st0 J I).q.f.2.1 (st0 J I).q.f.2.2,.slice (st0 J I).q.b.1 (st0 J I).q.b.2.1 (st0 J I).q.b.2.2,.slice (st0 J I).yv.1 (st0 J I).yv.2.1 (st0 J I).yv.2.2,.slice (st0 J I).fb.t.1 (st0 J I).fb.t.2.1 (st0 J I).fb.t.2.2,.slice (st0 J I).fb.c.1 (st0 J I).fb.c.2.1 (st0 J I).fb.c.2.2,.slice (st0 J I).fb.h.1 (st0 J I).fb.h.2.1 (st0 J I).fb.h.2.2,.slice (st0 J I).fb.f.1 (st0 J I).fb.f.2.1 (st0 J I).fb.f.2.2]/\StO τd 117 w0.heap.size w' (st0 J I))/\Fr [] w0 w':=by
 refine we [] func14 U ntmps14 U .nil (sr (al k0r U (λg0 w1 a4 D q1 z1=>(nn (sq ?_)))));intro a h;refine z0h none (λwb w'=>Fr [g0] wb w') z2m ?_;intro w2 q2;have z2:=q2.size;replace D:=D.ext q2;have hC:Fr [g0] w2 w2:=Fr.refl _ _;have M:=D;refine z1x 0 1 kr U ?_ ?_;refine z9l (m:=6) (c:=6) (yq0) h U U y4n y3y U oo oo U λg1 w3 a0 hy q3 _hz a h=>?_;have z3:=q3.size;replace hC:=hC.next q3;have a3:=(hy.blk g1 (by simp[z0u])).2;refine z0b (z0d 1 U (z0o h z0f (mkC func43) (x3o _) ?_));rintro _ w4 ⟨⟨g2,rfl,a1,Z⟩,q4⟩ a h;have z4:=q4.size;replace D:=D.ext (q3.n1 q4);replace hy:=hy.ext q4;replace hC:=hC.next q4;have a2:=(Z.blk g2 (by simp[z0u])).2;refine z0b (z2z (cs:=[_,_,_,_,_,_,_,_]) 2 h (z0a U (z0a U z0f)) u2m (z0g U (z0g U z0s)) U U λa h=>z0d 3 U ?_);refine z0t h U D U v7w λw5 O q5 hz a h=>?_;have z5:=q5.size;replace hy:=hy.fr q5 (by intro k hk hb;simp[z0u]at hk hb;omega);replace Z:=Z.fr q5 (by intro k hk hb;simp[z0u]at hk hb;omega);replace hC:=hC.sp q5;clear D hz;have D:Blk w5 g0 _ [_,_,_,_,_,_,_,_]:=O;clear O;refine z0b (z0p ?_);clear hC M;exact bk (h.sub (L':=[(0,_)]) (.cons U .nil)) (tn (rt (rC results14 U D v3i  ⟨_,rfl,⟨g1,g2,rfl,j6i (hy.low oo) (Z.low oo)⟩,(q1.z4 q2 q3 q4 q5)⟩)));refine z0o h z0f (mkC func43) (x3o _) ?_;rintro _ w6 ⟨⟨g2,rfl,a1,Z⟩,q6⟩ a h;have z6:=q6.size;replace hC:=hC.next q6;have a2:=(Z.blk g2 (by simp[z0u])).2;refine z0b (z0d 0 U (z9l (m:=6) (c:=6) (yq0) h U U y4n y3y U oo oo U λg1 w7 a0 hy q7 _hz a h=>?_));have z7:=q7.size;replace D:=D.ext (q6.n1 q7);replace Z:=Z.ext q7;replace hC:=hC.next q7;have a3:=(hy.blk g1 (by simp[z0u])).2;refine z0b (z2z (cs:=[_,_,_,_,_,_,_,_]) 2 h (z0a U (z0a U z0f)) u2m (z0g U (z0g U z0s)) U U λa h=>z0d 3 U ?_);refine z0t h U D U v7w λw8 O q8 hz a h=>?_;have z8:=q8.size;replace Z:=Z.fr q8 (by intro k hk hb;simp[z0u]at hk hb;omega);replace hy:=hy.fr q8 (by intro k hk hb;simp[z0u]at hk hb;omega);replace hC:=hC.sp q8;clear D hz;have D:Blk w8 g0 _ [_,_,_,_,_,_,_,_]:=O;clear O;refine z0b (z0p ?_);clear hC M;exact bk (h.sub (L':=[(0,_)]) (.cons U .nil)) (tn (rt (rC results14 U D v3i  ⟨_,rfl,⟨g1,g2,rfl,j6i (hy.low oo) (Z.low oo)⟩,(q1.z4 q2 q6 q7 q8)⟩)))
theorem v9o (w0:World):Rets prog 14 #[] w0 λr w'=>(∃I D,r=.agg #[.int .i64 (st0 I D).rk,.slice (st0 I D).q.f.1 (st0 I D).q.f.2.1 (st0 I D).q.f.2.2,.slice (st0 I D).q.b.1 (st0 I D).q.b.2.1 (st0 I D).q.b.2.2,.slice (st0 I D).yv.1 (st0 I D).yv.2.1 (st0 I D).yv.2.2,.slice (st0 I D).fb.t.1 (st0 I D).fb.t.2.1 (st0 I D).fb.t.2.2,.slice (st0 I D).fb.c.1 (st0 I D).fb.c.2.1 (st0 I D).fb.c.2.2,.slice (st0 I D).fb.h.1 (st0 I D).fb.h.2.1 (st0 I D).fb.h.2.2,.slice (st0 I D).fb.f.1 (st0 I D).fb.f.2.1 (st0 I D).fb.f.2.2]/\StAt w' (st0 I D))/\Fr [] w0 w':=
 Rets.mono (v2v w0) (by rintro r w' ⟨⟨I,D,h,J⟩,hf⟩;exact⟨⟨I,D,h,J.at⟩,hf⟩)
theorem j3c {α:Type}{D I:List α}(d:α)(hl:D.length=I.length)(h:∀j,j<D.length->D.getD j d=I.getD j d):D=I:=by
 refine List.ext_getElem hl λj J M=>?_;have:=h j J;rwa [List.getD,List.getD,List.getElem?_eq_getElem J,List.getElem?_eq_getElem M]at this
theorem j4f (v1 v2:Value)(M l2:List LId)(w0:World)(h1:Sl z1f w0 v1 M)(O:Sl z1f w0 v2 l2)(hl:M.length<=100000):Rets prog 51 #[v1,v2] w0 λr w'=>r=.bool (decide (M=l2))/\Fr [] w0 w':=by
 obtain⟨A1,k1,rfl,a5⟩:=id h1.form;obtain⟨A2,k2,rfl,a6⟩:=id O.form;refine we [(0,.slice A1 M.length k1),(1,.slice A2 l2.length k2)] func51 U ntmps51 U (.c2 U U) ?_;have a1:=h1;have a2:=O;refine sr (asg U (nn (sq (sr (mv U U (lnS U underlying27 (mv U U (lnS U underlying27 (ne' U (nn (cd U (λc0=>?_) (λc0=>?_))))))))))));refine sr (asg U (nn (rt (tr (r1 results51 U ?_)))));exact⟨_,rfl,congrArg Value.bool (decide_eq_false (λe=>c0 (by rw[e]))).symm,(Fr.refl _ _)⟩;refine sk (tn (sq (sr (mv U U (lnS U underlying27 (mv U U (nn (bl (lpK (ι:=Nat) [(0,_),(1,_),(12,_)] (λi=>[(13,.int .i64 (i:Int))]) (λi w'=>Fr [] w0 w'/\i<=M.length/\∀j,j<i->M.getD j id0=l2.getD j id0) (λi=>M.length-i) 0 (.c4 U U U U) ⟨Fr.refl _ _,⟨Nat.zero_le _,λj h=>absurd h oo⟩⟩ ?_)))))))));rintro i w1 ⟨q1,⟨hi,hz⟩⟩;refine kpC [(0,_),(1,_),(12,_),(13,_)] (.c4 U U U U) (sr (lt' U (nn (sq (cd U (λc1=>?_) (λc1=>?_))))));refine sk (tn (sq (bl (sr (mv U U (asg U (nn (sq ?_))))))));replace h1:=a1.ext q1;replace O:=a2.ext q1;intro a h;have D:=Fr.refl [] w1;refine z3v (λwb w'=>Fr [] wb w') z2m ?_;intro w2 hq;replace h1:=h1.ext hq;replace O:=O.ext hq;replace D:=D.next hq;have a7:=hq.size;clear hq;have hC:Fr [] w2 w2:=Fr.refl _ _;have I:=h1;have J:=O;refine z0e 0 h U λa h=>z0e 1 h U λa h=>z1i (id0) 2 h U h1 U z4x U ?_ (hp:=rfl);clear h a;intro a3 Z a h;refine z2q 3 h wn U (λ_ hw=>Z _ (I.ext hw)) z2y U λa h=>z0e 4 h U λa h=>z0e 5 h U λa h=>z1i (id0) 6 h U O U z4x U ?_ (hp:=rfl);clear h a;intro a4 a0 a h;refine z2q 7 h wn U (λ_ hw=>a0 _ (J.ext hw)) z2y U λa h=>j7j (V:=idV) (e:=_) (f:=_) 8 kr kr kr hC h wn U U eqId U U λa h=>z0p ?_;clear hC I J;refine bk (h.sub (L':=[(0,_),(1,_),(12,_),(13,_),(24,_)]) (.c5 U U U U U)) (tn (cd U (λc2=>?_) (λc2=>?_)));refine sr (asg U (nn (rt (rb (tr (tr (rb (tr (r1 results51 U ?_)))))))));exact⟨_,rfl,congrArg Value.bool (decide_eq_false (λe=>c2 (by rw[e]))).symm,(q1.n1 D)⟩;refine sk (bn' (tn (rg (z1b U (wi6 oo) (mv U U (nl ?_))))));exact lpE (i+1) (.c4 U U U U) ⟨(q1.n1 D),⟨oo,λj h=>by
  by_cases e:j=i;subst e;exact Classical.not_not.1 c2;exact hz j oo⟩⟩ oo
 obtain rfl:i=M.length:=by omega
 refine ex (te (te (xh (tn (sr (asg U (nn (rt (r1 results51 U ?_)))))))));exact⟨_,rfl,congrArg Value.bool (decide_eq_true (j3c id0 oo (λj hj=>hz j oo))).symm,q1⟩
open Go.Lw Go.G21 Go.G08 _root_.Go.Proofs.Tryz
open Classical in
noncomputable def v4u (s:StQ)(eb ef:Int):Int:=if ¬(-4<=s.rk/\s.rk<=4) then 11 else if eb≠0 then eb else if s.ys.length≠6 then 5 else if ∃i,i<6/\¬y0f (s.ys.getD i yq0).p then 1 else if ef≠0 then ef else if s.fb.hs≠(z2n s.q.p s.rk).map Hd.id then 6 else if ∃i,i<6/\(s.ys.getD i yq0).ct≠((s.fb.ts.getD i tq0).2.length:Int) then 6 else 0
theorem u1n (s:StQ)(eb ef:Int)(w0:World)(J:StAt w0 s)(b8:∀w,BdAt w s.q->Rets prog 48 #[.agg #[.slice s.q.f.1 s.q.f.2.1 s.q.f.2.2,.slice s.q.b.1 s.q.b.2.1 s.q.b.2.2]] w λr w'=>r=.int .i64 eb/\Fr [] w w')(hB:eb=0->BdOk s.q.p)(b5:ef=0->s.fb.ts.length=6)(b9:∀w,FbAt w s.fb->Rets prog 50 #[.agg #[.slice s.fb.t.1 s.fb.t.2.1 s.fb.t.2.2,.slice s.fb.c.1 s.fb.c.2.1 s.fb.c.2.2,.slice s.fb.h.1 s.fb.h.2.1 s.fb.h.2.2,.slice s.fb.f.1 s.fb.f.2.1 s.fb.f.2.2]] w λr w'=>r=.int .i64 ef/\Fr [] w w')(d4:s.fb.hs.length<=100000):Rets prog 17 #[.agg #[.int .i64 s.rk,.slice s.q.f.1 s.q.f.2.1 s.q.f.2.2,.slice s.q.b.1 s.q.b.2.1 s.q.b.2.2,.slice s.yv.1 s.yv.2.1 s.yv.2.2,.slice s.fb.t.1 s.fb.t.2.1 s.fb.t.2.2,.slice s.fb.c.1 s.fb.c.2.1 s.fb.c.2.2,.slice s.fb.h.1 s.fb.h.2.1 s.fb.h.2.2,.slice s.fb.f.1 s.fb.f.2.1 s.fb.f.2.2]] w0 λr w'=>r=.int .i64 (v4u s eb ef)/\Fr [] w0 w':=by
 have f0:=z1z J.y;have e9:=z1z J.f.t;refine we [(0,.agg #[.int .i64 s.rk,.slice s.q.f.1 s.q.f.2.1 s.q.f.2.2,.slice s.q.b.1 s.q.b.2.1 s.q.b.2.2,.slice s.yv.1 s.yv.2.1 s.yv.2.2,.slice s.fb.t.1 s.fb.t.2.1 s.fb.t.2.2,.slice s.fb.c.1 s.fb.c.2.1 s.fb.c.2.2,.slice s.fb.h.1 s.fb.h.2.1 s.fb.h.2.2,.slice s.fb.f.1 s.fb.f.2.1 s.fb.f.2.2])] func17 U ntmps17 U (.cons U .nil) ?_;have O:=J;refine sr (bx U (λg1 w1 e4 D q1 z1=>(asg U (nn (sq (sq (rbo (r:=17) (L':=[(1,_)]) (((s.rk < -4)\/(4<s.rk))) (.cons U .nil) ?_ ?_)))))));refine fad U x7l (z0i U D U na3 (lt' U (mv U U (gs 13 U (λg0=>?_) (λg0=>?_)))));exact gN U (gN U (gN U (pkt U (rbe U (.cons U .nil)))));exact gY U (fad U x7l (gY U (z0i U D U na3 (gY U (gt' U (pkf U (rbe U (.cons U .nil))))))));refine tn (cd U (λc0=>?_) (λc0=>?_));exact sr (asg U (nn (rt (tr (r1 results17 U ⟨_,rfl,by unfold v4u;rw[if_pos oo],q1⟩)))));have hr:-4<=s.rk/\s.rk<=4:=by omega
 refine sk (tn (sq (sr (fad U x7p (z1w (vs:=[_,_]) U D z4w U ?_)))));replace J:=O.ext q1;refine cl (ev1 U) (mkC func48) (b8 _ J.b) U ?_;rintro _ w2 ⟨rfl,q2⟩;have z2:=q2.size;refine asg U (nn (sr (mv U U (ne' U (nn (cd U (λc1=>?_) (λc1=>?_)))))));exact sr (mv U U (asg U (nn (rt (tr (r1 results17 U ⟨_,rfl,by unfold v4u;rw[if_neg oo,if_pos c1],(q1.n1 q2)⟩))))));have d1:eb=0:=by omega
 refine sk (tn (sq (sr (fad U x8v ?_))));replace D:=D.ext q2;refine z0i U D U y4d (lnS U underlying51 (ne' U (nn (cd U (λc2=>?_) (λc2=>?_)))));exact sr (asg U (nn (rt (tr (r1 results17 U ⟨_,rfl,by unfold v4u;rw[if_neg oo,if_neg oo,if_pos oo],(q1.n1 q2)⟩)))));have e8:s.ys.length=6:=by omega
 refine sk (tn (sq (sr (fad U x8v (z0i U D U y4d (lnS U underlying51 (mv U U (nn (bl (lpK (ι:=Nat) [(1,_),(29,_),(30,_)] (λi=>[(31,.int .i64 (i:Int))]) (λi w'=>Fr [] w2 w'/\i<=6/\∀k,k<i->y0f (s.ys.getD k yq0).p) (λi=>6-i) 0 (.c4 U U U U) ⟨Fr.refl _ _,⟨Nat.zero_le _,λk h=>absurd h oo⟩⟩ ?_))))))))));rintro i w3 ⟨q3,⟨hi,a5⟩⟩;have z3:=q3.size;refine kpC [(1,_),(29,_),(30,_),(31,_)] (.c4 U U U U) (sr (lt' U (nn (sq (cd U (λc3=>?_) (λc3=>?_))))));refine sk (tn (sq (bl (sr ?_))));replace J:=O.ext (q1.n2 q2 q3);refine z1d (yq0) U J.y U y4n z1g (λd7 a9=>?_);refine z1l U (a9 _ J.y) z7g (al y3y U (λg5 w4 e5 a8 q4 z4=>?_));refine z0k (vs:=[_,_,_,_,_]) U a8 z7i (λw5 a8 q5 z5=>?_) (h1:=(by first|(simp[Value.oneCell',S];done)|exact z3a.one _));refine nn (sr (z0n U a8 z7g ?_));replace J:=O.ext (q1.z4 q2 q3 q4 q5);refine cl (ev1 U) j9f (z8q (s.ys.getD i yq0) _ (J.ya i)) U ?_;rintro _ w6 ⟨rfl,q6⟩;have z6:=q6.size;refine asg U (nn (sr (mv U U (ne' U (nn (cd U (λc4=>?_) (λc4=>?_)))))));refine sr (mv U U (asg U (kpL [(2,_)] (.cons U .nil) (nn (rt (rb (tr (tr (rb (tr (r1 results17 U ?_)))))))))));have b6:¬y0f (s.ys.getD i yq0).p:=λh=>c4 (j2e h);exact⟨_,rfl,by unfold v4u;rw[if_neg oo,if_neg oo,if_neg oo,if_pos ⟨i,oo,b6⟩,j5a b6],(q1.z5 q2 q3 q4 q5 q6)⟩;refine sk (bn' (tn (rg (z1b U (wi6 oo) (mv U U (nl ?_))))));exact lpE (i+1) (.c4 U U U U) ⟨(q3.z3 q4 q5 q6),⟨oo,λk h=>by
  by_cases e:k=i;subst e;exact Classical.byContradiction λh=>c4 (by rw[j5a h];decide);exact a5 k oo⟩⟩ oo
 obtain rfl:i=6:=by omega
 refine ex (te (te (xh (tn (sq (sr (fad U y0k ?_)))))));replace D:=D.ext q3;refine z1w (vs:=[_,_,_,_]) U D u0r U ?_;replace J:=O.ext (q1.n2 q2 q3);refine cl (ev1 U) (mkC func50) (b9 _ J.f) U ?_;rintro _ w7 ⟨rfl,q7⟩;have z7:=q7.size;refine asg U (kpL [(1,_),(7,_)] (.c2 U U) (nn (sr (mv U U (ne' U (nn (cd U (λc5=>?_) (λc5=>?_))))))));refine sr (mv U U (asg U (nn (rt (tr (r1 results17 U ?_))))));have Z:¬ ∃i,i<6/\¬y0f (s.ys.getD i yq0).p:=λ⟨k,hk,h⟩=>h (a5 k oo);exact⟨_,rfl,by unfold v4u;rw[if_neg oo,if_neg oo,if_neg oo,if_neg Z,if_pos c5],(q1.n3 q2 q3 q7)⟩;have d3:ef=0:=by omega
 have e7:=b5 d3;refine sk (tn (sq (sq ?_)));replace J:=O.ext (q1.n3 q2 q3 q7);intro a h;refine z0h none (λwb w'=>Fr [] wb w') z2m ?_;intro w8 q8;have z8:=q8.size;replace J:=J.ext q8;replace D:=D.ext (q7.n1 q8);have hC:Fr [] w8 w8:=Fr.refl _ _;have a1:=J;have I:=D;refine z0c 0 h U y0k U λa h=>z5y 1 h U x7q U λa h=>z0j 2 h U (λ_ hw=>I.ext hw) U z8o U λa h=>z0c 3 h U x7p U λa h=>z1a (vs:=[_,_]) 4 h U (λ_ hw=>(I.ext hw)) z4w U U λa h=>z0c 5 h U x7l U λa h=>z0j 6 h U (λ_ hw=>I.ext hw) U na3 U λa h=>z0d 7 U (z0o h (z0a U (z0a U z0f)) (mkC func52) (y4w s.q s.rk _ J.b (hB d1) hr) ?_);rintro _ w9 ⟨⟨e3,f1,e2,rfl,e1,hH⟩,q9⟩ a h;have z9:=q9.size;replace J:=J.ext q9;replace hC:=hC.next q9;refine z0b (z0d 8 U (z0o h (z0a U (z0a U z0f)) (mkC func51) (j4f _ _ s.fb.hs ((z2n s.q.p s.rk).map Hd.id) _ J.f.h hH.sl d4) ?_));rintro _ d6 ⟨rfl,M⟩ a h;have f5:=M.size;replace J:=J.ext M;replace D:=D.ext (q9.n1 M);replace hH:=hH.ext M;replace hC:=hC.next M;refine z0b (x1m 9 hC h wn U U U λa h=>z0p ?_);clear hC a1 I;refine bk (h.sub (L':=[(1,_),(56,_)]) (.c2 U U)) (tn (cd U (λc6=>?_) (λc6=>?_)));refine sr (asg U (nn (rt (tr (r1 results17 U ?_)))));have Z:¬ ∃i,i<6/\¬y0f (s.ys.getD i yq0).p:=λ⟨k,hk,h⟩=>h (a5 k oo);exact⟨_,rfl,by unfold v4u;rw[if_neg oo,if_neg oo,if_neg oo,if_neg Z,if_neg oo,if_pos c6],(q1.n6 q2 q3 q7 q8 q9 M)⟩;refine sk (tn (sq (sr (fad U x8v (z0i U D U y4d (lnS U underlying51 (mv U U (nn (bl (lpK (ι:=Nat) [(1,_),(58,_),(59,_)] (λi=>[(60,.int .i64 (i:Int))]) (λi w'=>Fr [] d6 w'/\i<=6/\∀k,k<i->(s.ys.getD k yq0).ct=((s.fb.ts.getD k tq0).2.length:Int)) (λi=>6-i) 0 (.c4 U U U U) ⟨Fr.refl _ _,⟨Nat.zero_le _,λk h=>absurd h oo⟩⟩ ?_))))))))));rintro i f2 ⟨a0,⟨hi,b4⟩⟩;have f6:=a0.size;refine kpC [(1,_),(58,_),(59,_),(60,_)] (.c4 U U U U) (sr (lt' U (nn (sq (cd U (λc7=>?_) (λc7=>?_))))));refine sk (tn (sq (bl (sr (mv U U ?_)))));replace J:=O.ext ((q1.n6 q2 q3 q7 q8 q9 M).n1 a0);refine z1d (yq0) U J.y U y4n z1g (λd9 b0=>?_);refine z1l U (b0 _ J.y) z7g (al y3y U (λg9 f3 e6 a3 a6 f7=>?_));refine asg U (z0k (vs:=[_,_,_,_,_]) U a3 z7i (λf4 a3 a7 f8=>?_) (h1:=(by first|(simp[Value.oneCell',S];done)|exact z3a.one _)));refine nn (sq ?_);replace J:=O.ext ((((q1.n6 q2 q3 q7 q8 q9 M).n1 a0).n1 a6).z1 a7);replace D:=(D.ext (a0.n1 a6)).fr a7;intro a h;refine z0h none (λwb w'=>Fr [] wb w') z2m ?_;intro b7 a2;have f9:=a2.size;replace J:=J.ext a2;replace D:=D.ext a2;replace a3:=a3.ext a2;have hC:Fr [] b7 b7:=Fr.refl _ _;have a1:=J;have I:=D;have a4:=a3;refine z0c 0 h U y1q U λa h=>z0j 1 h U (λ_ hw=>a4.ext hw) U na3 U λa h=>z0c 2 h U y0k U λa h=>z5y 3 h U y0j U λa h=>z0j 4 h U (λ_ hw=>I.ext hw) U x4q U λa h=>z0e 5 h U λa h=>z1i (tq0) 6 h U J.f.t U y6v U ?_ (hp:=rfl);clear h a;intro e0 b3 a h;refine z2x 7 h wn U (λ_ hw=>b3 _ (a1.f.t.ext hw)) x1q U λa h=>z6p 8 h wn U underlying34 U λa h=>j4p 9 hC h wn U U U U λa h=>z0p ?_;clear hC a1 I a4;refine bk (h.sub (L':=[(1,_),(58,_),(59,_),(60,_),(74,_)]) (.c5 U U U U U)) (tn (cd U (λc8=>?_) (λc8=>?_)));refine sr (asg U (nn (rt (rb (tr (tr (rb (tr (r1 results17 U ?_)))))))));have Z:¬ ∃i,i<6/\¬y0f (s.ys.getD i yq0).p:=λ⟨k,hk,h⟩=>h (a5 k oo);have c9:(s.ys.getD i yq0).ct≠((s.fb.ts.getD i tq0).2.length:Int):=by simp only[Int.toNat_natCast]at c8;have d5:=z1z (O.f.tt _ (z0z (d:=tq0) (i:=i) oo)).1;omega
 exact⟨_,rfl,by unfold v4u;rw[if_neg oo,if_neg oo,if_neg oo,if_neg Z,if_neg oo,if_neg c6,if_pos ⟨i,oo,c9⟩],((((q1.n6 q2 q3 q7 q8 q9 M).n1 a0).n1 a6).z2 a7 a2)⟩;refine sk (bn' (tn (rg (z1b U (wi6 oo) (mv U U (nl ?_))))));exact lpE (i+1) (.c4 U U U U) ⟨(a0.z3 a6 a7 a2),⟨oo,λk h=>by
  by_cases e:k=i;subst e;simp only[Int.toNat_natCast]at c8;have d5:=z1z (O.f.tt _ (z0z (d:=tq0) (i:=k) oo)).1;omega;exact b4 k oo⟩⟩ oo
 obtain rfl:i=6:=by omega
 refine ex (te (te (xh (tn (sr (asg U (nn (rt (r1 results17 U ?_)))))))));have Z:¬ ∃i,i<6/\¬y0f (s.ys.getD i yq0).p:=λ⟨k,hk,h⟩=>h (a5 k oo);have d0:¬ ∃i,i<6/\(s.ys.getD i yq0).ct≠((s.fb.ts.getD i tq0).2.length:Int):=λ⟨k,hk,h⟩=>h (b4 k oo);exact⟨_,rfl,by unfold v4u;rw[if_neg oo,if_neg oo,if_neg oo,if_neg Z,if_neg oo,if_neg c6,if_neg d0],((q1.n6 q2 q3 q7 q8 q9 M).n1 a0)⟩
theorem j8h {s:StQ}(hr:-4<=s.rk/\s.rk<=4)(J:s.ys.length=6)(D:∀i,i<6->y0f (s.ys.getD i yq0).p/\(s.ys.getD i yq0).ct=((s.fb.ts.getD i tq0).2.length:Int))(I:s.fb.hs=(z2n s.q.p s.rk).map Hd.id):v4u s 0 0=0:=by
 unfold v4u;rw[if_neg oo,if_neg dd,if_neg oo,if_neg (λ⟨k,hk,h⟩=>h (D k hk).1),if_neg dd,if_neg (λh=>h I),if_neg (λ⟨k,hk,h⟩=>h (D k hk).2)]
theorem j2d (s:StQ)(w0:World)(hS:StAt w0 s)(hr:-4<=s.rk/\s.rk<=4)(Z:BdOk s.q.p)(M:s.ys.length=6)(J:s.fb.ts.length=6)(O:∀i,i<6->y0f (s.ys.getD i yq0).p/\(s.ys.getD i yq0).ct=((s.fb.ts.getD i tq0).2.length:Int))(D:∀w,FbAt w s.fb->Rets prog 50 #[.agg #[.slice s.fb.t.1 s.fb.t.2.1 s.fb.t.2.2,.slice s.fb.c.1 s.fb.c.2.1 s.fb.c.2.2,.slice s.fb.h.1 s.fb.h.2.1 s.fb.h.2.2,.slice s.fb.f.1 s.fb.f.2.1 s.fb.f.2.2]] w λr w'=>r=.int .i64 0/\Fr [] w w')(hh:s.fb.hs=(z2n s.q.p s.rk).map Hd.id)(I:s.fb.hs.length<=100000):Rets prog 17 #[.agg #[.int .i64 s.rk,.slice s.q.f.1 s.q.f.2.1 s.q.f.2.2,.slice s.q.b.1 s.q.b.2.1 s.q.b.2.2,.slice s.yv.1 s.yv.2.1 s.yv.2.2,.slice s.fb.t.1 s.fb.t.2.1 s.fb.t.2.2,.slice s.fb.c.1 s.fb.c.2.1 s.fb.c.2.2,.slice s.fb.h.1 s.fb.h.2.1 s.fb.h.2.2,.slice s.fb.f.1 s.fb.f.2.1 s.fb.f.2.2]] w0 λr w'=>r=.int .i64 0/\Fr [] w0 w':=by
 have x:=u1n s 0 0 w0 hS (λw h=>y9k s.q w h Z) (λ_=>Z) (λ_=>J) D I;rw[j8h hr M O hh]at x;exact x
end Go.Proofs.YtjilcnmaefhmeaaGreatDoor
namespace Go.G08
open Go.Lw Go.G21
def bd0:Bd:=⟨[],[]⟩
theorem v8o (b n:Int):bd0.at b n=[]:=by unfold Bd.at atB bd0;split<;>simp
end Go.G08
namespace Go.G08
open Go.Lw Go.G21
end Go.G08
namespace Go.G08
open Go.Lw Go.G21
end Go.G08
namespace Go.G08
open Go.Lw Go.G21
end Go.G08
namespace Go.G08
open Go.Lw Go.G21
def okM:Except (Int×Nat) MSt->MSt
  | .ok p=>p
  | .error _=>start
def isOk:Except (Int×Nat) MSt->Bool
  | .ok _=>true
  | .error _=>false
theorem x9h {x:Except (Int×Nat) MSt}(h:isOk x=true):x=.ok (okM x):=by
 cases x with
 | ok p=>rfl
 | error e=>cases h
end Go.G08
namespace Go.G09
open Go.Lw Go.G21 Go.G08
structure Hz where
  o:Int
  k:Int
  id:LId
deriving DecidableEq
def z8p (b n r:Int):Int:=z2h b n r / 4
def apt (a b:Int):Int:=max (a-b) (b-a)
structure Vw where
  l:List Hd
  r:Int
def vw0:Vw:=⟨[],0⟩
def vwB (B:Bd)(r:Int):Vw:=⟨z2n B r,r⟩
def Vw.pos (v:Vw)(i:LId):Option Int:=(v.l.find? λh=>decide (h.id=i)).map λh=>z8p h.b h.n v.r
def Vw.str (v:Vw)(i:LId):Bool:=match v.pos i,v.pos ⟨i.y,i.n-1⟩ with
  | some a,some b=>decide (6<apt a b)
  | _,_=>false
def Vw.on (v:Vw)(n:Int×Int):List LId:=(v.l.filter λh=>decide ((h.b,h.n)=n)).map Hd.id
def x4x {α:Type}[DecidableEq α]:List α->List α->List α
  | acc,[]=>acc
  | acc,x::l=>x4x (if x∈acc then acc else acc++[x]) l
def Vw.nds (v:Vw):List (Int×Int):=x4x [] (v.l.map λh=>(h.b,h.n))
def nwT (T:Tb)(i:LId):Bool:=((T.getD (i.y-1).toNat []).getD i.n.toNat ⟨0,false,[],[]⟩).nw
def v3g (T:Tb)(v u:Vw)(op:Int):List Hz:=((u.l.map Hd.id).filter λi=>!nwT T i && u.str i && !v.str i).map λi=>⟨op,2,i⟩
def v3f (v u:Vw)(op:Int):List Hz:=(u.nds.filter λn=>decide (3<(u.on n).length/\(v.on n).length<=3)).map λn=>⟨op,3,(u.on n).getLast?.getD id0⟩
structure Wt where
  md:List Int
  vw:Vw
  fd:List Hz
def wt0:Wt:=⟨List.replicate 6 0,vw0,[]⟩
def x4t (p:MSt)(o:MOp):LId:=⟨o.y,(p.y o.y).ct⟩
def v1x (T:Tb)(op:Int)(o:MOp)(p:MSt)(md:List Int):List Hz:=
  if nwT T (x4t p o)=false/\6<apt (z8p o.b o.p p.rk) (md.getD (o.y-1).toNat 0) then [⟨op,1,x4t p o⟩] else []
def u8b (Us:List LId)(op:Int)(o:MOp)(p:MSt):List Hz:=((p.B.at o.b o.p).filter λi=>decide (i∈Us)).map λi=>⟨op,4,i⟩
def y2j (o:MOp):Prop:=o.k=4\/o.k=5
instance (o:MOp):Decidable (y2j o):=inferInstanceAs (Decidable (_\/_))
def doH (T:Tb)(Us:List LId)(op:Int)(o:MOp)(p:MSt)(s:Wt):Wt:=
  if y2j o then { s with md:=s.md.set (o.y-1).toNat (z8p o.b o.p p.rk),fd:=s.fd++v1x T op o p s.md }
  else if o.k=8 then { s with fd:=s.fd++u8b Us op o p } else s
def j5j (T:Tb)(op:Int)(q:MSt)(s:Wt):Wt:=⟨s.md,vwB q.B q.rk,s.fd++(v3g T s.vw (vwB q.B q.rk) op++v3f s.vw (vwB q.B q.rk) op)⟩
def v2h (o:MOp):Prop:=o.k=1\/o.k=2\/o.k=6
instance (o:MOp):Decidable (v2h o):=inferInstanceAs (Decidable (_\/_))
def z6s (T:Tb)(Us:List LId)(op:Int)(o:MOp)(p q:MSt)(s:Wt):Wt:=if v2h o then s else j5j T op q (doH T Us op o p s)
def y1e (T:Tb)(Us:List LId):Nat->MSt->Wt->List MOp->Wt
  | _,_,s,[]=>s
  | i,p,s,o::l=>match doM p o with
    | .error _=>s
    | .ok q=>y1e T Us (i+1) q (z6s T Us i o p q s) l
def z4n (T:Tb)(i:LId):Bool:=decide (i.n+1=((T.getD (i.y-1).toNat []).length:Int)/\0<((T.getD (i.y-1).toNat []).getD i.n.toNat ⟨0,false,[],[]⟩).th.length)
def j0w (q:MSt):List LId:=q.fa.filter λi=>!z4n q.tb i
def j4o (n:Nat)(q:MSt):List Hz:=(z2n q.B q.rk).map λh=>⟨n,5,h.id⟩
def y7b (l:List MOp)(q:MSt):List Hz:=(y1e q.tb (j0w q) 0 G08.start wt0 l).fd++j4o l.length q
theorem u4w {b r:Int}{l:Bed}{i:Nat}{h:Hd}(D:h∈hds b r l i):∃k:Nat,k<i/\h.id∈l.getD k []/\h=⟨h.id,b,(k:Int)+1,z2h b ((k:Int)+1) r⟩:=by
 unfold hds at D;obtain⟨k,I,J⟩:=List.mem_flatMap.1 D;obtain⟨x,M,rfl⟩:=List.mem_map.1 J;exact⟨k,List.mem_range.1 I,M,rfl⟩
theorem y5p {B:Bd}(I:BdOk B){r:Int}{h:Hd}(M:h∈z2n B r):z2v h.b h.n=0/\h.id∈B.at h.b h.n/\h.s=z2h h.b h.n r:=by
 have D:=(z9w B r).mem_iff.1 M;unfold v3e at D;have hf:=I.lf;have O:=I.lb;rcases List.mem_append.1 D with D|D<;>obtain⟨k,Z,J,e⟩:=u4w D<;>rw[e]
 refine⟨y0t ⟨.inl U,sm,sm⟩,?_,rfl⟩;unfold Bd.at atB;rw[if_pos U];simpa using J;refine⟨y0t ⟨.inr U,sm,sm⟩,?_,rfl⟩;unfold Bd.at atB;rw[if_neg sp0];simpa using J
theorem u4e {B:Bd}{r b n:Int}{i:LId}(hn:z2v b n=0)(D:i∈B.at b n):(⟨i,b,n,z2h b n r⟩:Hd)∈z2n B r:=by
 obtain⟨O,Z,h2⟩:=z2o hn;refine(z9w B r).mem_iff.2 ?_;have I:∀(l:Bed) (c:Int),i∈atB l n->(⟨i,c,n,z2h c n r⟩:Hd)∈hds c r l l.length:=λl c J=>by
  unfold atB at J;have M:(n-1).toNat<l.length:=Classical.byContradiction λh=>by
   rw[List.getD,List.getElem?_eq_none oo]at J;cases J
  unfold hds;refine List.mem_flatMap.2 ⟨(n-1).toNat,List.mem_range.2 M,List.mem_map.2 ⟨i,J,?_⟩⟩;unfold hdS;rw[show (((n-1).toNat:Nat):Int)+1=n by omega]
 unfold v3e;unfold Bd.at at D;rcases O with rfl|rfl
 rw[if_pos U]at D;exact List.mem_append_left _ (I _ _ D);rw[if_neg dd]at D;exact List.mem_append_right _ (I _ _ D)
theorem j1n {B:Bd}(hB:BdOk B){b n b' D:Int}{i:LId}(hn:z2v b n=0)(I:z2v b' D=0)(h:i∈B.at b n)(M:i∈B.at b' D):b'=b/\D=n:=Classical.byContradiction λJ=>by
 have e:=z3d B hn [] i
 have O:=hB.nd.count (a:=i)
 have Z:i∈(B.put b n []).flat:=z4u (b:=b') (n:=D) (by rw[z8c _ hn I,if_neg J];exact M)
 have h3:=List.count_pos_iff.2 Z
 have h4:=List.count_pos_iff.2 h
 have h5:=List.count_pos_iff.2 (z4u h)
 rw[if_pos (z4u h)]at O
 simp at e
 omega
theorem x8o {B:Bd}(I:BdOk B){r b n:Int}{i:LId}(hn:z2v b n=0)(J:i∈B.at b n):(vwB B r).pos i=some (z8p b n r):=by
 unfold Vw.pos vwB;simp only;cases e:(z2n B r).find? λh=>decide (h.id=i) with
 | none=>
  have:=List.find?_eq_none.1 e _ (u4e (r:=r) hn J);simp at this
 | some h=>
  have h1:=List.find?_some e;have h2:=List.mem_of_find?_eq_some e;obtain⟨M,O,_⟩:=y5p I h2;have D:h.id=i:=by simpa using h1
  obtain⟨Z,e2⟩:=j1n I hn M J (D▸O);simp[Z,e2]
theorem x9g {B:Bd}{r:Int}{i:LId}(I:i∉B.flat):(vwB B r).pos i=none:=by
 unfold Vw.pos vwB;simp only;rw[List.find?_eq_none.2 λh D=>?_];rfl;simp only[decide_eq_true_eq];intro e;exact I (e▸(z8e B r).mem_iff.1 (List.mem_map_of_mem D))
theorem u8d (v:Vw)(n:Int×Int):(v.on n).length<=v.l.length:=by
 unfold Vw.on;rw[List.length_map];exact List.length_filter_le _ _
theorem x4b (B:Bd)(r:Int):(vwB B r).l.length=B.flat.length:=by
 have:=(z8e B r).length_eq;rw[List.length_map]at this;exact this
theorem x5t {v u:Vw}(h:u.l.length<=3)(op:Int):v3f v u op=[]:=by
 unfold v3f;rw[List.filter_eq_nil_iff.2 λn _=>?_];rfl;have:=u8d u n;simp only[decide_eq_true_eq];omega
def x2m (T:Tb)(v u:Vw)(i:LId):Bool:=!nwT T i && u.str i && !v.str i
theorem x5p (T:Tb)(v u:Vw)(op:Int):v3g T v u op=((u.l.map Hd.id).filter (x2m T v u)).map λi=>⟨op,2,i⟩:=rfl
theorem x1s {B:Bd}{r:Int}{x:LId}(D:(⟨x.y,x.n-1⟩:LId)∉B.flat):(vwB B r).str x=false:=by
 unfold Vw.str;rw[x9g D];split<;>simp_all
theorem v4z {T:Tb}{v:Vw}{B:Bd}{r op:Int}{x y:LId}(hf:B.flat.Perm [x,y])(O:(⟨x.y,x.n-1⟩:LId)∉B.flat) :
    v3g T v (vwB B r) op=if nwT T y=false/\(vwB B r).str y=true/\v.str y=false then [⟨op,2,y⟩] else []:=by
  have M:((vwB B r).l.map Hd.id).Perm [x,y]:=(z8e B r).trans hf
  have D:=M.filter (x2m T v (vwB B r))
  have I:x2m T v (vwB B r) x=false:=by unfold x2m;rw[x1s O];simp
  rw[List.filter_cons_of_neg (by rw[I];decide)]at D
  rw[x5p]
  by_cases c:nwT T y=false/\(vwB B r).str y=true/\v.str y=false
  · have J:x2m T v (vwB B r) y=true:=by unfold x2m;rw[c.1,c.2.1,c.2.2];rfl
    rw[List.filter_cons_of_pos J,List.filter_nil]at D
    rw[if_pos c,List.perm_singleton.1 D];rfl
  · have J:¬x2m T v (vwB B r) y=true:=λe=>c (by
      unfold x2m at e
      simp only[Bool.and_eq_true,Bool.not_eq_true']at e
      exact⟨e.1.1,e.1.2,e.2⟩)
    rw[List.filter_cons_of_neg J,List.filter_nil]at D
    rw[if_neg c,List.perm_nil.1 D];rfl
theorem u9t {T:Tb}{v:Vw}{B:Bd}{r op:Int}{x:LId}(hf:B.flat.Perm [x])(M:(⟨x.y,x.n-1⟩:LId)∉B.flat):v3g T v (vwB B r) op=[]:=by
 have J:((vwB B r).l.map Hd.id).Perm [x]:=(z8e B r).trans hf;have I:=J.filter (x2m T v (vwB B r));have D:x2m T v (vwB B r) x=false:=by unfold x2m;rw[x1s M];simp
 rw[List.filter_cons_of_neg (by rw[D];decide),List.filter_nil]at I;rw[x5p,List.perm_nil.1 I];rfl
end Go.G09
namespace Go.Lw
open Go
def MapV {κ:Type}[DecidableEq κ](V:κ->Value)(w:World)(v:Value)(f:κ->Option Value):Prop:=(v=.map none/\∀k,f k=none)\/∃g,v=.map (some g)/\MapF V w g f
section
variable {κ:Type} [DecidableEq κ] {V:κ->Value} {P:Program} {K:TypeId}
theorem MapV.ext {w w':World}{v:Value}{f:κ->Option Value}(h:MapV V w v f)(hf:Fr [] w w'):MapV V w' v f:=h.imp id λ⟨g,e,h⟩=>⟨g,e,h.ext hf⟩
theorem MapV.fr {w w':World}{v:Value}{f:κ->Option Value}{S:List Nat}(h:MapV V w v f)(hf:Fr S w w')(hn:∀g,v=.map (some g)->g∉S):MapV V w' v f:=h.imp id λ⟨g,e,h⟩=>⟨g,e,h.fr hf (hn g e)⟩
theorem MapV.nil {w:World}:MapV V w (.map none) λ_=>none:=.inl ⟨rfl,λ_=>rfl⟩
theorem MapF.v {w:World}{g:Nat}{f:κ->Option Value}(h:MapF V w g f):MapV V w (.map (some g)) f:=.inr ⟨g,rfl,h⟩
theorem x6d {w:World}{v:Value}{f:κ->Option Value}{t E:TypeId}{z:Value}(h:MapV V w v f)(D:KeyLaw P K V)(I:P.underlying t=some (.map K E))(J:(zeroValue E).run P w=.ok z w)(k:κ) :
    (Instr.lookup t v (V k) false).run P w=.ok ((f k).getD z) w:=by
  rcases h with ⟨rfl,h⟩|⟨g,rfl,h⟩
  · have e:=D.find k [] [] w U
    rw[h];simp at e;simp[Instr.lookup,run_underlying I,D.check,e,J]
  · exact y3k h D I J k
theorem x2b {w:World}{v:Value}{f:κ->Option Value}{t E:TypeId}{z:Value}(h:MapV V w v f)(D:KeyLaw P K V)(I:P.underlying t=some (.map K E))(J:(zeroValue E).run P w=.ok z w)(k:κ) :
    (Instr.lookup t v (V k) true).run P w=.ok (.tuple #[(f k).getD z,.bool (f k).isSome]) w:=by
  rcases h with ⟨rfl,h⟩|⟨g,rfl,h⟩
  · have e:=D.find k [] [] w U
    rw[h];simp at e;simp[Instr.lookup,run_underlying I,D.check,e,J]
  · exact y6t h D I J k
variable {a:Act} {n:Nat} {L:List (Nat×Value)} {ds:List Nat} {w:World} {Q:Exit->Act->World->Prop} {C:World->Prop} {Qa:Act->Prop} {ops:Array Oper} {rest:List Oper}
variable {d:Nat} {ty:TypeId} {pos:String} {after:Array Edge} {x y:Operand} {t E:TypeId} {f:κ->Option Value} {k:κ} {v zv mv:Value}
theorem v1t (h:AgM ds a n L)(M:ev L x=some mv)(O:ev L y=some (V k))(I:MapV V w mv f)(D:KeyLaw P K V)(J:P.underlying t=some (.map K E))(Z:∀w:World,(zeroValue E).run P w=.ok zv w) :
    (execOp a.eval ⟨some d,.lookup t x y false,ty,pos,after,none⟩).run P w=.ok (.value ((f k).getD zv)) w:=by
  simp[execOp,h.eval M,h.eval O,x6d I D J (Z w) k]
theorem v2x (h:AgM ds a n L)(O:ev L x=some mv)(Z:ev L y=some (V k))(I:MapV V w mv f)(D:KeyLaw P K V)(J:P.underlying t=some (.map K E))(hz:∀w:World,(zeroValue E).run P w=.ok zv w)(M:(f k).getD zv=v)(hn:Nat.blt d n=true)
    (q:∀a,AgM ds a n ((d,v)::L)->wpList P ops Q rest a w):wpList P ops Q (⟨some d,.lookup t x y false,ty,pos,after,none⟩::rest) a w:=
  z2a h U hn (by rw[<-M];exact v1t h O Z I D J hz) q
theorem v3w (O:ev L x=some mv)(Z:ev L y=some (V k))(I:MapV V w mv f)(D:KeyLaw P K V)(J:P.underlying t=some (.map K E))(hz:∀w:World,(zeroValue E).run P w=.ok zv w)(M:(f k).getD zv=v)(hn:Nat.blt d n=true)(q:WL P ops Q rest n ds w ((d,v)::L)):WL P ops Q (⟨some d,.lookup t x y false,ty,pos,after,none⟩::rest) n ds w L:=λa h=>v2x h O Z I D J hz M hn q
theorem x5b (h:AgM ds a n L)(M:ev L x=some mv)(O:ev L y=some (V k))(I:MapV V w mv f)(D:KeyLaw P K V)(J:P.underlying t=some (.map K E))(Z:∀w:World,(zeroValue E).run P w=.ok zv w) :
    (execOp a.eval ⟨some d,.lookup t x y true,ty,pos,after,none⟩).run P w=.ok (.value (.tuple #[(f k).getD zv,.bool (f k).isSome])) w:=by
  simp[execOp,h.eval M,h.eval O,x2b I D J (Z w) k]
theorem x5e {bo:Bool}(h:AgM ds a n L)(O:ev L x=some mv)(Z:ev L y=some (V k))(I:MapV V w mv f)(D:KeyLaw P K V)(J:P.underlying t=some (.map K E))(hz:∀w:World,(zeroValue E).run P w=.ok zv w)(M:(f k).getD zv=v)(hb:(f k).isSome=bo)(hn:Nat.blt d n=true)
    (q:∀a,AgM ds a n ((d,.tuple #[v,.bool bo])::L)->wpList P ops Q rest a w):wpList P ops Q (⟨some d,.lookup t x y true,ty,pos,after,none⟩::rest) a w:=
  z2a h U hn (by rw[<-M,<-hb];exact x5b h O Z I D J hz) q
theorem y8b {bo:Bool}(O:ev L x=some mv)(Z:ev L y=some (V k))(I:MapV V w mv f)(D:KeyLaw P K V)(J:P.underlying t=some (.map K E))(hz:∀w:World,(zeroValue E).run P w=.ok zv w)(M:(f k).getD zv=v)(hb:(f k).isSome=bo)(hn:Nat.blt d n=true)(q:WL P ops Q rest n ds w ((d,.tuple #[v,.bool bo])::L)):WL P ops Q (⟨some d,.lookup t x y true,ty,pos,after,none⟩::rest) n ds w L:=λa h=>x5e h O Z I D J hz M hb hn q
end
end Go.Lw
namespace Go.G09
open Go Go.Lw Go.G21 Go.G08
abbrev ndK (n:Int×Int):Value:=.agg #[.int .u8 n.1,.int .i64 n.2]
abbrev idK (i:LId):Value:=.agg #[.int .u8 i.y,.int .i64 i.n]
def ndH (h:Hd):Int×Int:=(h.b,h.n)
def atM (l:List Hd)(r:Int):List (LId×Value):=l.map λh=>(h.id,.int .i64 (z8p h.b h.n r))
def atF (v:Vw)(i:LId):Option Value:=(v.pos i).map λp=>.int .i64 p
def y5c (v:Vw)(n:Int×Int):Option Value:=(v.on n).getLast?.map idK
def y1k (v:Vw):List ((Int×Int)×Value):=v.nds.map λn=>(n,.int .i64 (v.on n).length)
theorem z9a {κ:Type}[DecidableEq κ]{α:Type}(K:α->κ)(V:α->Value)(k:κ):∀l:List α,z1h (l.map λh=>(K h,V h)) k=(l.find? λh=>decide (K h=k)).map V
 | []=>rfl
 | h::l=>by
  show (if k=K h then some (V h) else z1h (l.map λh=>(K h,V h)) k)=_
  rw[List.find?_cons,z9a K V k l]
  by_cases e:K h=k
  ·rw[if_pos e.symm,decide_eq_true e];rfl
  rw[if_neg (λx=>e x.symm),decide_eq_false e]
theorem k3h (l:List Hd)(r:Int):z1h (atM l r)=atF ⟨l,r⟩:=funext λi=>by
 unfold atM atF Vw.pos
 rw[z9a,Option.map_map]
 rfl
theorem u4q {l:List Hd}{r:Int}{i:Nat}(hn:(l.map Hd.id).Nodup)(I:i<l.length):z1u (atM (l.take i) r) (l.getD i hd0).id (.int .i64 (z8p (l.getD i hd0).b (l.getD i hd0).n r))=atM (l.take (i+1)) r:=by
 rw[z1s hd0 I];unfold atM;rw[List.map_append,z9i];rfl;intro J;rw[List.map_map]at J;obtain⟨h,M,e⟩:=List.mem_map.1 J;have D:((l.take (i+1)).map Hd.id).Nodup:=by rw[List.map_take];exact hn.sublist (List.take_sublist _ _)
 rw[z1s hd0 I,List.map_append,List.nodup_append]at D;exact D.2.2 _ (List.mem_map_of_mem M) _ (List.mem_singleton.2 U) e
theorem v5c (l:List Hd)(h:Hd)(r:Int)(n:Int×Int):(⟨l++[h],r⟩:Vw).on n=(⟨l,r⟩:Vw).on n++(if ndH h=n then [h.id] else []):=by
 unfold Vw.on;simp only;rw[List.filter_append,List.map_append];congr 1;rw[List.filter_cons];by_cases e:ndH h=n;rw[if_pos e,if_pos (by simpa[ndH] using e)];rfl;rw[if_neg e,if_neg (by simpa[ndH] using e)];rfl
theorem v1y {l:List Hd}{r:Int}{i:Nat}(D:i<l.length):(λk'=>if k'=ndH (l.getD i hd0) then some (idK (l.getD i hd0).id) else y5c ⟨l.take i,r⟩ k')=y5c ⟨l.take (i+1),r⟩:=funext λn=>by
 unfold y5c
 rw[z1s hd0 D,v5c]
 by_cases e:n=ndH (l.getD i hd0)
 ·rw[if_pos e,if_pos e.symm,List.getLast?_append];rfl
 rw[if_neg e,if_neg (λx=>e x.symm),List.append_nil]
theorem v0n {α:Type}[DecidableEq α](x:α):∀(l D:List α),x4x D (l++[x])=if x∈x4x D l then x4x D l else x4x D l++[x]
 | [],D=>rfl
 | y::l,D=>by
  show x4x (if y∈D then D else D++[y]) (l++[x])=_
  rw[v0n x l];rfl
theorem v3t {α:Type}[DecidableEq α]{x:α}:∀ {l D:List α},x∈x4x D l↔x∈D\/x∈l
 | [],D=>by show x∈D↔_;simp
 | y::l,D=>by
  show x∈x4x (if y∈D then D else D++[y]) l↔_
  rw[v3t]
  by_cases h:y∈D
  ·rw[if_pos h,List.mem_cons]
   constructor
   ·rintro(a|a);exact .inl a;exact .inr (.inr a)
   rintro(a|a|a);exact .inl a;exact .inl (a▸h);exact .inr a
  rw[if_neg h,List.mem_append,List.mem_singleton,List.mem_cons,or_assoc]
theorem x4j {α:Type}[DecidableEq α]:∀ {l D:List α},D.Nodup->(x4x D l).Nodup
 | [],D,h=>h
 | y::l,D,h=>by
  show (x4x (if y∈D then D else D++[y]) l).Nodup
  refine x4j ?_
  split
  ·exact h
  rename_i M
  exact List.nodup_append.2 ⟨h,List.pairwise_singleton _ y,λa I b J e=>M (by rw[List.mem_singleton.1 J]at e;exact e▸I)⟩
theorem y3w {κ:Type}[DecidableEq κ]{f g:κ->Value}{k:κ}:∀ {l:List κ},l.Nodup->k∈l->(∀x,x≠k->g x=f x)->z1u (l.map λn=>(n,f n)) k (g k)=l.map λn=>(n,g n)
 | [],_,h,_=>by cases h
 | x::l,hn,h,hg=>by
  obtain⟨J,M⟩:=List.nodup_cons.1 hn
  by_cases e:k=x
  ·subst e
   have I:∀y∈l,(y,f y)=(y,g y):=λy hy=>by rw[hg y (λe=>J (e▸hy))]
   unfold z1u
   simp only[List.map_cons,List.map_map]
   rw[List.findIdx?_cons,decide_eq_true U,if_pos U]
   show ((k,g k)::l.map λn=>(n,f n))=_
   rw[List.map_congr_left I]
  have D:=y3w (f:=f) (g:=g) M (by rcases List.mem_cons.1 h with a|a;exact absurd a e;exact a) hg
  have Z:g x=f x:=hg x (λa=>e a.symm)
  unfold z1u at D ⊢
  simp only[List.map_cons,List.map_map]at D ⊢
  rw[List.findIdx?_cons,decide_eq_false e,if_neg dd]
  have O:k∈l:=by rcases List.mem_cons.1 h with a|a;exact absurd a e;exact a
  cases c:List.findIdx? (λx=>decide (k=x)) (List.map (Prod.fst ∘ λn=>(n,f n)) l) with
  | none=>
   rw[List.findIdx?_eq_none_iff]at c
   have:=c k (List.mem_map.2 ⟨k,O,rfl⟩)
   simp at this
  | some i=>
   rw[c]at D
   simp only[Option.map_some]at D ⊢
   rw[List.modify_succ_cons,D,Z]
theorem j5u (v:Vw)(n:Int×Int):n∈v.nds↔0<(v.on n).length:=by
 unfold Vw.nds Vw.on;rw[v3t,List.length_map];simp only[List.not_mem_nil,false_or];rw[List.length_pos_iff_exists_mem];constructor;intro h;obtain⟨x,D,e⟩:=List.mem_map.1 h;exact⟨x,List.mem_filter.2 ⟨D,by simpa using e⟩⟩;rintro⟨x,D⟩;obtain⟨I,J⟩:=List.mem_filter.1 D;exact List.mem_map.2 ⟨x,I,by simpa using J⟩
theorem x3l (v:Vw)(n:Int×Int):(z1h (y1k v) n).getD (.int .i64 0)=.int .i64 (v.on n).length:=by
 unfold y1k;rw[z9a (λn=>n) (λn=>.int .i64 (v.on n).length)];by_cases h:n∈v.nds;cases c:v.nds.find? λh=>decide (h=n) with
 | none=>have:=List.find?_eq_none.1 c n h;simp at this
 | some x=>
  have:=List.find?_some c;have e:x=n:=by simpa using this
  rw[e];rfl
 rw[List.find?_eq_none.2 λx D=>by simp only[decide_eq_true_eq];exact λe=>h (e▸D)];have:(v.on n).length=0:=by rw[j5u]at h;omega
 rw[this];rfl
theorem y8f {l:List Hd}{r:Int}{i:Nat}(M:i<l.length):z1u (y1k ⟨l.take i,r⟩) (ndH (l.getD i hd0)) (.int .i64 (((⟨l.take i,r⟩:Vw).on (ndH (l.getD i hd0))).length+1))=y1k ⟨l.take (i+1),r⟩:=by
 have D:∀n,((⟨l.take (i+1),r⟩:Vw).on n).length=((⟨l.take i,r⟩:Vw).on n).length+if ndH (l.getD i hd0)=n then 1 else 0:=λn=>by
  rw[z1s hd0 M,v5c,List.length_append];split<;>rfl
 have O:(⟨l.take (i+1),r⟩:Vw).nds=if ndH (l.getD i hd0)∈(⟨l.take i,r⟩:Vw).nds then (⟨l.take i,r⟩:Vw).nds else (⟨l.take i,r⟩:Vw).nds++[ndH (l.getD i hd0)]:=by
  unfold Vw.nds;simp only;rw[z1s hd0 M,List.map_append];refine(v0n (ndH (l.getD i hd0)) ((l.take i).map ndH) []).trans ?_;by_cases h:ndH (l.getD i hd0)∈x4x [] ((l.take i).map ndH);rw[if_pos h,if_pos (show ndH (l.getD i hd0)∈x4x [] (List.map (λh=>(h.b,h.n)) (l.take i)) from h)];rfl;rw[if_neg h,if_neg (show ¬ndH (l.getD i hd0)∈x4x [] (List.map (λh=>(h.b,h.n)) (l.take i)) from h)];rfl
 have I:(⟨l.take i,r⟩:Vw).nds.Nodup:=x4j .nil;have Z:(.int .i64 (((⟨l.take i,r⟩:Vw).on (ndH (l.getD i hd0))).length+1):Value)=.int .i64 (((⟨l.take (i+1),r⟩:Vw).on (ndH (l.getD i hd0))).length):=by
  rw[D,if_pos U];rfl
 rw[Z];unfold y1k;rw[O];by_cases h:ndH (l.getD i hd0)∈(⟨l.take i,r⟩:Vw).nds;rw[if_pos h];exact y3w (f:=λn=>.int .i64 ((⟨l.take i,r⟩:Vw).on n).length) (g:=λn=>.int .i64 ((⟨l.take (i+1),r⟩:Vw).on n).length) I h λx J=>by
  show (Value.int .i64 _)=_;rw[D,if_neg (λe=>J e.symm)];rfl
 rw[if_neg h,z9i (by rw[List.map_map];simpa using h),List.map_append];congr 1;refine List.map_congr_left λx J=>?_;rw[D,if_neg (λe:ndH (l.getD i hd0)=x=>h (e▸J))];rfl
end Go.G09
namespace Go.Proofs.YtjilcnmaefhmeaaGreatDoor
open Go.Lw Go.G21 Go.G08 Go.G09 _root_.Go.Proofs.Tryz
theorem v6c (b p r:Int)(w0:World)(hn:z2v b p=0)(hr:-4<=r/\r<=4):Rets prog 166 #[.agg #[.int .u8 b,.int .i64 p],.int .i64 r] w0 λv w'=>v=.int .i64 (z8p b p r)/\Fr [] w0 w':=by
 have J:=z2o hn;refine we [(0,.agg #[.int .u8 b,.int .i64 p]),(1,.int .i64 r)] func166 U ntmps166 U (.c2 U U) (sr (bx U (λg2 w1 M D O z1=>(asg U (nn (sr (z0n U D z4k (mv U U (cl (ev2 U) x5q (y0q _ _ _ _ oo) U ?_)))))))));rintro _ w2 ⟨rfl,I⟩;have z2:=I.size;exact v4y (m:=2) (z:=z8p b p r) U U dd U U (asg U (kpL [(4,_)] (.cons U .nil) (nn (rt (r1 results166 U ⟨_,rfl,rfl,(O.n1 I)⟩)))))
theorem v7a (x y:Int)(w0:World)(D:-1000000<=x/\x<=1000000)(I:-1000000<=y/\y<=1000000):Rets prog 167 #[.int .i64 x,.int .i64 y] w0 λv w'=>v=.int .i64 (apt x y)/\Fr [] w0 w':=by
 exact we [(0,.int .i64 x),(1,.int .i64 y)] func167 U ntmps167 U (.c2 U U) (sr (asg U (nn (sr (mv U U (mv U U (z2p U (wi6 oo) (mv U U (mv U U (z2p U (wi6 oo) (j7y U U U (asg U (kpL [(4,_)] (.cons U .nil) (nn (rt (r1 results167 U ⟨_,rfl,rfl,(Fr.refl _ _)⟩))))))))))))))))
end Go.Proofs.YtjilcnmaefhmeaaGreatDoor
namespace Go.Lw
open Go Go.RowKit
def MapLE {κ:Type}[DecidableEq κ](V:κ->Value)(w:World)(g:Nat)(m:List (κ×Value))(k:κ)(st:Nat):Prop:=
  ∃(es:Array MapEntry) (c:Nat) (j:Nat),w.heap[g]?=some (.map es c)/\es.toList.map (λe=>(e.key,e.val))=m.map (λp=>(V p.1,p.2))/\(m.map (·.1)).Nodup/\(es.toList.map (·.born)).Nodup/\(∀e∈es.toList,e.born<c)/\(m.map (·.1)).findIdx? (λx=>decide (k=x))=some j/\(es.toList[j]?).map (·.born)=some st
section
variable {κ:Type} [DecidableEq κ] {V:κ->Value} {P:Program} {K:TypeId}
theorem MapLE.fr {w w':World}{g st:Nat}{m:List (κ×Value)}{k:κ}{S:List Nat}(h:MapLE V w g m k st)(hf:Fr S w w')(hn:g∉S):MapLE V w' g m k st:=by
 obtain⟨I,c,j,D,J⟩:=h;exact⟨I,c,j,(hf.block g (Array.getElem?_eq_some_iff.1 D).1 hn).trans D,J⟩
theorem MapLE.l {w:World}{g st:Nat}{m:List (κ×Value)}{k:κ}(h:MapLE V w g m k st):MapL V w g m:=let ⟨es,c,_,h1,h2,h3,h4,h5,_⟩:=h;⟨es,c,h1,h2,h3,h4,h5⟩
theorem x2a {m:List (κ×Value)}{k:κ}{z v:Value}(h:(m.map (·.1)).findIdx? (λx=>decide (k=x))=none):z1u (m++[(k,z)]) k v=z1u m k v:=by
 have I:((m++[(k,z)]).map (·.1)).findIdx? (λx=>decide (k=x))=some m.length:=by
  rw[List.map_append,List.findIdx?_append,h];simp
 unfold z1u;rw[h,I];simp only;apply List.ext_getElem?;intro i;rw[List.getElem?_modify];by_cases hi:i<m.length;have D:¬m.length=i:=by omega
 rw[List.getElem?_append_left hi,List.getElem?_append_left hi];simp[D];rw[List.getElem?_append_right oo,List.getElem?_append_right oo];by_cases e:m.length=i;subst e;simp;rw[List.getElem?_eq_none so,List.getElem?_eq_none so];rfl
theorem y9l {w:World}{g:Nat}{z:Value}{m:List (κ×Value)}{t E:TypeId}(h:MapL V w g m)(hk:KeyLaw P K V)(hu:P.underlying t=some (.map K E))(hz:∀w:World,(zeroValue E).run P w=.ok z w)(k:κ) :
    ∃w' st m',(Instr.mapEntry t (.map (some g)) (V k)).run P w=.ok (.tuple #[(z1h m k).getD z,.int .i64 (st:Nat)]) w'/\MapLE V w' g m' k st/\((∀v,z1u m' k v=z1u m k v)/\(z1h m' k).getD z=(z1h m k).getD z)/\Fr [g] w w'/\w'.heap.size=w.heap.size:=by
  obtain⟨I,c,h1,h2,a8,h4,h5⟩:=h
  have b0:=(Array.getElem?_eq_some_iff.1 h1).1
  have Z:I.toList.map (·.key)=(m.map (·.1)).map V:=by
    have:=congrArg (List.map Prod.fst) h2
    simpa[List.map_map,Function.comp_def] using this
  have J:=hk.find k I.toList (m.map (·.1)) w Z
  have a0:∀o,(setObj g o).run P w=.ok () { w with heap:=w.heap.setIfInBounds g o }:=by intro o;simp[setObj,Sem.run,h1]
  have a4:∀o,Fr [g] w { w with heap:=w.heap.setIfInBounds g o }:=λo=>⟨rfl,rfl,rfl,sp0,λi _ hn=>by
    simp only
    rw[Array.getElem?_setIfInBounds_ne (by intro e;subst e;simp at hn)]⟩
  have M:∀o,({ w with heap:=w.heap.setIfInBounds g o }:World).heap[g]?=some o:=by intro o;simp[b0]
  have a6:I.toList.length=m.length:=by have:=congrArg List.length h2;simpa using this
  have D:=z9r (V:=V) m k I.toList h2
  cases hf:(m.map (·.1)).findIdx? (λx=>decide (k=x)) with
  | none=>
    rw[hf]at J D
    simp only[Option.bind_none,Option.map_none]at D
    have e0:(z1h m k).getD z=z:=by rw[<-D];rfl
    refine⟨{ w with heap:=w.heap.setIfInBounds g (.map (I.push { key:=V k,val:=z,born:=c }) (c+1)) },c,m++[(k,z)],?_,⟨_,_,m.length,M (.map (I.push { key:=V k,val:=z,born:=c }) (c+1)),?_,?_,?_,?_,?_,?_⟩,⟨λv=>x2a hf,by rw[z9c m k k z hf,if_pos U,e0];rfl⟩,a4 _,sp0⟩
    · simp only[Instr.mapEntry,Sem.run_bind,run_underlying hu,Result.andThen_ok,z2g h1,hk.check,J,Option.bind_none,hz w,a0,Sem.run_pure,e0]
      rfl
    · simp[h2]
    · rw[List.map_append]
      refine List.nodup_append.2 ⟨a8,sp0,λa ha b hb e=>?_⟩
      have a9:b=k:=by simpa using hb
      have:=List.findIdx?_eq_none_iff.1 hf a ha
      simp[e,a9]at this
    · simp only[Array.toList_push,List.map_append,List.map_cons,List.map_nil]
      refine List.nodup_append.2 ⟨h4,sp0,λa ha b hb e=>?_⟩
      simp only[List.mem_singleton]at hb
      obtain⟨x,hx,rfl⟩:=List.mem_map.1 ha
      have:=h5 x hx;omega
    · intro e he
      simp only[Array.toList_push,List.mem_append,List.mem_singleton]at he
      rcases he with he|rfl
      · have:=h5 e he;omega
      · simp
    · rw[List.map_append,List.findIdx?_append,hf];simp
    · simp only[Array.toList_push]
      rw[<-a6,List.getElem?_append_right (Nat.le_refl _)];simp
  | some i=>
    have hi:i<m.length:=by
      have:=List.findIdx?_eq_some_iff_findIdx_eq.1 hf
      simpa using this.1
    have O:i<I.toList.length:=by omega
    have a5:V k=(I.toList[i]).key:=by
      have a7:=List.findIdx?_eq_some_iff_getElem.1 hf
      obtain⟨b4,hp,_⟩:=a7
      have b3:k=(m.map (·.1))[i]:=by simpa using hp
      have e1:(I.toList.map (·.key))[i]?=((m.map (·.1)).map V)[i]?:=by rw[Z]
      simp only[List.getElem?_map,List.getElem?_eq_getElem O,List.getElem?_eq_getElem hi,Option.map_some,Option.some.injEq]at e1
      rw[e1,b3];simp
    have a3:I[i]?=some I.toList[i]:=by rw[<-Array.getElem?_toList,List.getElem?_eq_getElem O]
    have a2:(Instr.keyThatStays (((I[i]?).map (·.key)).getD (V k)) (V k)).run P w=.ok (V k) w:=by
      rw[a3]
      simp only[Option.map_some,Option.getD_some,<-a5,Instr.keyThatStays,hk.bits,if_true,Sem.run_pure]
    have a1:I.modify i (λe=>{ e with key:=V k })=I:=by
      apply Array.ext'
      rw[Array.toList_modify]
      apply List.ext_getElem?
      intro j
      rw[List.getElem?_modify]
      by_cases hj:i=j
      · subst hj
        rw[List.getElem?_eq_getElem O]
        simp only[Option.map_eq_map,Option.map_some,if_pos,Option.some.injEq]
        rw[a5]
      · simp[hj]
    rw[hf]at J D
    simp only[Option.bind_some,List.getElem?_eq_getElem O,Option.map_some]at J D
    have e0:(z1h m k).getD z=I.toList[i].val:=by rw[<-D];rfl
    refine⟨{ w with heap:=w.heap.setIfInBounds g (.map I c) },I.toList[i].born,m,?_,⟨I,c,i,M _,h2,a8,h4,h5,hf,?_⟩,⟨λ_=>rfl,rfl⟩,a4 _,sp0⟩
    · simp only[Instr.mapEntry,Sem.run_bind,run_underlying hu,Result.andThen_ok,z2g h1,hk.check,J,a2,a0,a1,Sem.run_pure,e0]
      rw[a3];rfl
    · rw[List.getElem?_eq_getElem O];rfl
theorem y6u {w:World}{g st:Nat}{v:Value}{m:List (κ×Value)}{t:TypeId}{k:κ}(h:MapLE V w g m k st) :
    ∃w',(Instr.entryStore t (.map (some g)) (.int .i64 (st:Nat)) v).run P w=.ok () w'/\MapL V w' g (z1u m k v)/\Fr [g] w w'/\w'.heap.size=w.heap.size:=by
  obtain⟨I,c,j,h1,h2,a3,h4,h5,h6,h7⟩:=h
  have has:z1u m k v=m.modify j λp=>(p.1,v):=by unfold z1u;rw[h6]
  rw[has]
  have a2:=(Array.getElem?_eq_some_iff.1 h1).1
  have a0:∀o,(setObj g o).run P w=.ok () { w with heap:=w.heap.setIfInBounds g o }:=by intro o;simp[setObj,Sem.run,h1]
  have a1:∀o,Fr [g] w { w with heap:=w.heap.setIfInBounds g o }:=λo=>⟨rfl,rfl,rfl,sp0,λi _ hn=>by
    simp only
    rw[Array.getElem?_setIfInBounds_ne (by intro e;subst e;simp at hn)]⟩
  have J:∀o,({ w with heap:=w.heap.setIfInBounds g o }:World).heap[g]?=some o:=by intro o;simp[a2]
  have Z:I.findIdx? (λe=>((e.born:Nat):Int) == ((st:Nat):Int))=some j:=by
    have e:I.findIdx? (λe=>((e.born:Nat):Int) == ((st:Nat):Int))=I.toList.findIdx? (λe=>((e.born:Nat):Int) == ((st:Nat):Int)):=by cases I;simp
    rw[e];exact y8l h4 h7
  have hi:j<m.length:=by
    have:=List.findIdx?_eq_some_iff_findIdx_eq.1 h6
    simpa using this.1
  refine⟨{ w with heap:=w.heap.setIfInBounds g (.map (I.modify j λe=>{ e with val:=v }) c) },?_,⟨_,c,J _,?_,?_,?_,?_⟩,a1 _,sp0⟩
  · simp only[Instr.entryStore,Sem.run_bind,Result.andThen_ok,z2g h1,asInt,asIntOf,Sem.run_pure,Z,a0]
  · rw[Array.toList_modify]
    apply List.ext_getElem?
    intro i
    have D:=congrArg (·[i]?) h2
    simp only[List.getElem?_map]at D ⊢
    rw[List.getElem?_modify,List.getElem?_modify]
    by_cases hj:j=i
    · subst hj
      simp only[Option.map_eq_map,if_pos]
      cases M:I.toList[j]? with
      | none=>rw[M]at D;cases hm:m[j]? with
        | none=>rfl
        | some p=>rw[hm]at D;cases D
      | some e=>rw[M]at D;cases hm:m[j]? with
        | none=>rw[hm]at D;cases D
        | some p=>
          rw[hm]at D
          simp only[Option.map_some,Option.some.injEq,Prod.mk.injEq]at D ⊢
          first|exact⟨D.1,rfl⟩|exact⟨D.1,trivial⟩|simp[D.1]
    · simp only[Option.map_eq_map,if_neg hj];simpa using D
  · have e:(m.modify j λp=>(p.1,v)).map (·.1)=m.map (·.1):=by
      apply List.ext_getElem?
      intro i
      rw[List.getElem?_map,List.getElem?_map,List.getElem?_modify]
      split
      · cases m[i]?<;>rfl
      · simp
    rw[e];exact a3
  · rw[Array.toList_modify]
    have e:(I.toList.modify j λe=>{ e with val:=v }).map (·.born)=I.toList.map (·.born):=by
      apply List.ext_getElem?
      intro i
      rw[List.getElem?_map,List.getElem?_map,List.getElem?_modify]
      split
      · cases I.toList[i]?<;>rfl
      · simp
    rw[e];exact h4
  · intro e M
    rw[Array.toList_modify]at M
    obtain⟨i,O,rfl⟩:=List.getElem_of_mem M
    rw[List.length_modify]at O
    rw[List.getElem_modify]
    have:=h5 _ (List.getElem_mem O)
    split<;>exact this
variable {a:Act} {n:Nat} {L:List (Nat×Value)} {ds:List Nat} {w w':World} {Q:Exit->Act->World->Prop} {ops:Array Oper} {rest:List Oper}
variable {d:Nat} {ty:TypeId} {pos:String} {after:Array Edge} {x y z':Operand} {t E:TypeId} {g st:Nat} {m:List (κ×Value)} {k:κ} {v z:Value}
theorem y3v (h:AgM ds a n L)(hx:ev L x=some (.map (some g)))(hy:ev L y=some (V k))(hm:MapL V w g m)(Z:KeyLaw P K V)(hu:P.underlying t=some (.map K E))(hz:∀w:World,(zeroValue E).run P w=.ok z w)(hn:Nat.blt d n=true)
    (q:∀w' st D,MapLE V w' g D k st->((∀v,z1u D k v=z1u m k v)/\(z1h D k).getD z=(z1h m k).getD z)->Fr [g] w w'->w'.heap.size=w.heap.size->∀a,AgM ds a n ((d,.tuple #[(z1h m k).getD z,.int .i64 (st:Nat)])::L)->wpList P ops Q rest a w'):wpList P ops Q (⟨some d,.mapEntry t x y,ty,pos,after,none⟩::rest) a w:=by
  obtain⟨w',st,D,hr,I,J,M,O⟩:=y9l hm Z hu hz k
  exact z2a h U hn (w':=w') (by simp[execOp,h.eval hx,h.eval hy,hr]) (q w' st D I J M O)
theorem y0m {s:Operand}(h:AgM ds a n L)(hx:ev L x=some (.map (some g)))(Z:ev L s=some (.int .i64 (st:Nat)))(hy:ev L y=some v)(M:MapLE V w g m k st)
    (q:∀w',MapL V w' g (z1u m k v)->Fr [g] w w'->w'.heap.size=w.heap.size->∀a,AgM ds a n L->wpList P ops Q rest a w'):wpList P ops Q (⟨none,.entryStore t x s y,ty,pos,after,none⟩::rest) a w:=by
  obtain⟨w',O,D,I,J⟩:=y6u (P:=P) (t:=t) (v:=v) M
  exact z8h h U U (w':=w') (by simp[execOp,h.eval hx,h.eval Z,h.eval hy,O]) (q w' D I J)
theorem x5n (V:κ->Value)(h:AgM ds a n L)(hn:Nat.blt d n=true)
    (q:∀g w',g=w.heap.size->MapL V w' g []->Fr [] w w'->w'.heap.size=g+1->∀a,AgM ds a n ((d,.map (some g))::L)->wpList P ops Q rest a w'):wpList P ops Q (⟨some d,.makeMap t none,ty,pos,after,none⟩::rest) a w:=
  z2a h U hn (w':=w.alloc (.map #[] 0)) (by simp[execOp,Instr.makeMap]) (q _ _ U ⟨_,_,heap_alloc_new w _,sp0,sp0,sp0,sp0⟩ (Fr.alloc [] w _) sp0)
theorem y7h (V:κ->Value)(hn:Nat.blt d n=true)(q:∀g w',g=w.heap.size->MapL V w' g []->Fr [] w w'->w'.heap.size=g+1->WL P ops Q rest n ds w' ((d,.map (some g))::L)):WL P ops Q (⟨some d,.makeMap t none,ty,pos,after,none⟩::rest) n ds w L:=λa h=>x5n V h hn q
end
end Go.Lw
namespace Go.G09
open Go Go.Lw Go.G21 Go.G08
structure WtQ where
  fb:FbQ
  gu:Nat
  rk:Int
  q:BdQ
  ct:List Int
  md:List Int
  va:Value
  vl:Value
  vm:Value
  fd:SV
abbrev wtL (s:WtQ):List Value:=[.slice s.fb.t.1 s.fb.t.2.1 s.fb.t.2.2,.slice s.fb.c.1 s.fb.c.2.1 s.fb.c.2.2,.slice s.fb.h.1 s.fb.h.2.1 s.fb.h.2.2,.slice s.fb.f.1 s.fb.f.2.1 s.fb.f.2.2,.map (some s.gu),.int .i64 s.rk,
  .slice s.q.f.1 s.q.f.2.1 s.q.f.2.2,.slice s.q.b.1 s.q.b.2.1 s.q.b.2.2,
  .int .i64 (s.ct.getD 0 0),.int .i64 (s.ct.getD 1 0),.int .i64 (s.ct.getD 2 0),.int .i64 (s.ct.getD 3 0),.int .i64 (s.ct.getD 4 0),.int .i64 (s.ct.getD 5 0),
  .int .i64 (s.md.getD 0 0),.int .i64 (s.md.getD 1 0),.int .i64 (s.md.getD 2 0),.int .i64 (s.md.getD 3 0),.int .i64 (s.md.getD 4 0),.int .i64 (s.md.getD 5 0),
  s.va,s.vl,s.vm,.slice s.fd.1 s.fd.2.1 s.fd.2.2]
theorem y2f {y:Nat}(h:y<6):y=0\/y=1\/y=2\/y=3\/y=4\/y=5:=oo
theorem x7w {l:List Int}(h:l.length=6):∃a b c d e f,l=[a,b,c,d,e,f]:=by
 match l,h with
 | [a,b,c,d,e,f],_=>exact⟨a,b,c,d,e,f,rfl⟩
theorem j7c {s:WtQ}{y:Nat}(h:y<6):(wtL s)[8+y]?=some (.int .i64 (s.ct.getD y 0)):=by
 rcases y2f h with rfl|rfl|rfl|rfl|rfl|rfl<;>rfl
theorem k2n {s:WtQ}{y:Nat}(h:y<6):(wtL s)[14+y]?=some (.int .i64 (s.md.getD y 0)):=by
 rcases y2f h with rfl|rfl|rfl|rfl|rfl|rfl<;>rfl
theorem u1t {s:WtQ}{y:Nat}{v:Int}(hl:s.ct.length=6)(h:y<6):(wtL s).set (8+y) (.int .i64 v)=wtL { s with ct:=s.ct.set y v }:=by
 obtain⟨a,b,c,d,e,f,D⟩:=x7w hl;unfold wtL;simp only[D];rcases y2f h with rfl|rfl|rfl|rfl|rfl|rfl<;>rfl
theorem u4s {s:WtQ}{y:Nat}{v:Int}(hl:s.md.length=6)(h:y<6):(wtL s).set (14+y) (.int .i64 v)=wtL { s with md:=s.md.set y v }:=by
 obtain⟨a,b,c,d,e,f,D⟩:=x7w hl;unfold wtL;simp only[D];rcases y2f h with rfl|rfl|rfl|rfl|rfl|rfl<;>rfl
end Go.G09
namespace Go.G09
open Go.Lw Go.G21 Go.G08
def j5f (v u:Vw)(n:Int×Int):Bool:=decide (3<(u.on n).length/\(v.on n).length<=3)
theorem j2k (v u:Vw)(op:Int):v3f v u op=(u.nds.filter (j5f v u)).map λn=>⟨op,3,(u.on n).getLast?.getD id0⟩:=rfl
theorem u4p {T:Tb}{v u:Vw}{op:Int}{D:List LId}(h:D.Perm (u.l.map Hd.id)):((D.filter (x2m T v u)).map λi=>(⟨op,2,i⟩:Hz)).Perm (v3g T v u op):=by
 rw[x5p];exact(h.filter _).map _
theorem u1k {v u:Vw}{op:Int}{D:List (Int×Int)}(h:D.Perm u.nds):((D.filter (j5f v u)).map λn=>(⟨op,3,(u.on n).getLast?.getD id0⟩:Hz)).Perm (v3f v u op):=by
 rw[j2k];exact(h.filter _).map _
theorem z9t {α:Type}(P:α->Bool)(f:α->Hz)(l:List α)(x:α):((l++[x]).filter P).map f=(l.filter P).map f++if P x=true then [f x] else []:=by
 rw[List.filter_append,List.map_append];congr 1;rw[List.filter_cons];split<;>rfl
theorem v2p {fd a b a' b' fd':List Hz}(h:fd'.Perm fd)(h1:a'.Perm a)(D:b'.Perm b):((fd'++a')++b').Perm (fd++(a++b)):=by
 rw[List.append_assoc];exact h.append (h1.append D)
end Go.G09
namespace Go.Proofs.YtjilcnmaefhmeaaGreatDoor
open Go.Lw Go.G21 Go.G08 Go.G09 _root_.Go.Proofs.Tryz
theorem y9y:z0y prog 141 0 0:=λ_ _=>kr
theorem v8f {v:Vw}{i:LId}(hb:∀j p,v.pos j=some p->-1000<=p/\p<=1000):-1000<=(v.pos i).getD 0/\(v.pos i).getD 0<=1000:=by
 cases h:v.pos i with
 | none=>simp
 | some p=>exact hb i p h
theorem u0k (v:Vw)(i:LId):v.str i=((v.pos i).isSome && (v.pos ⟨i.y,i.n-1⟩).isSome && decide (6<apt ((v.pos i).getD 0) ((v.pos ⟨i.y,i.n-1⟩).getD 0))):=by
 unfold Vw.str;cases v.pos i<;>cases v.pos ⟨i.y,i.n-1⟩<;>rfl
theorem v4p (v:Vw)(va vl vm:Value)(i:LId)(w0:World)(I:MapV idV w0 va (atF v))(hb:∀j p,v.pos j=some p->-1000<=p/\p<=1000)(hi:-1000000<=i.n/\i.n<=1000000):Rets prog 126 #[.agg #[va,vl,vm],.agg #[.int .u8 i.y,.int .i64 i.n]] w0 λr w'=>r=.bool (v.str i)/\Fr [] w0 w':=by
 have a2:=v8f (i:=i) hb;have a3:=v8f (i:=⟨i.y,i.n-1⟩) hb;refine we [(0,.agg #[va,vl,vm]),(1,.agg #[.int .u8 i.y,.int .i64 i.n])] func126 U ntmps126 U (.c2 U U) ?_;have M:=I;refine sr (bx U (λg2 w1 a0 D Z z1=>(bx U (λg3 w2 a1 J O z2=>(asg U (nn (sr (fad U y9y ?_))))))));replace D:=D.ext O;refine z0i U D U v1h (z0n U J z2y ?_);replace I:=M.ext (Z.n1 O);refine y8b (k:=i) (f:=atF v) (v:=.int .i64 ((v.pos i).getD 0)) (bo:=(v.pos i).isSome) U U I z4a underlying137 zvI (by unfold atF;cases v.pos i<;>rfl) (by unfold atF;cases v.pos i<;>rfl) U ?_;refine mv U U (xt U (xt U (asg U (asg U (kpL [(2,_),(3,_),(5,_),(6,_)] (.c4 U U U U) (nn (sr (fad U y9y (z0i U D U v1h (fad U z5v (z0i U J U na5 (fad U z6g (z0i U J U na3 (z2p U (wi6 oo) (z1y (cs:=[_,_]) (ev2 U) j8c (z0g U (z0g U z0s)) U ?_)))))))))))))));refine y8b (k:=⟨i.y,i.n-1⟩) (f:=atF v) (v:=.int .i64 ((v.pos ⟨i.y,i.n-1⟩).getD 0)) (bo:=(v.pos ⟨i.y,i.n-1⟩).isSome) U U I z4a underlying137 zvI (by unfold atF;cases v.pos ⟨i.y,i.n-1⟩<;>rfl) (by unfold atF;cases v.pos ⟨i.y,i.n-1⟩<;>rfl) U ?_;refine mv U U (xt U (xt U (asg U (asg U (kpL [(5,_),(6,_),(7,_),(8,_)] (.c4 U U U U) (nn (sr (mv U U (mv U U (gs 29 U (λg0=>?_) (λg0=>?_)))))))))));refine gY U (mv U U (pkt U (mv U U (gs 32 U (λg1=>?_) (λg1=>?_)))));refine gY U (mv U U (gY U (mv U U (gY U (cl (ev2 U) (mkC func167) (v7a _ _ _ oo oo) U ?_)))));rintro _ w3 ⟨rfl,q3⟩;have z3:=q3.size;exact gY U (gt' U (pkt U (asg U (kpL [(4,_)] (.cons U .nil) (nn (rt (r1 results126 U ⟨_,rfl,by rw[u0k];simp_all,(Z.n2 O q3)⟩)))))));exact gN U (gN U (gN U (gN U (pkf U (asg U (kpL [(4,_)] (.cons U .nil) (nn (rt (r1 results126 U ⟨_,rfl,by rw[u0k];simp_all,(Z.n1 O)⟩)))))))));exact gN U (pkf U (mv U U (gN U (gN U (gN U (gN U (pkf U (asg U (kpL [(4,_)] (.cons U .nil) (nn (rt (r1 results126 U ⟨_,rfl,by rw[u0k];simp_all,(Z.n1 O)⟩))))))))))))
theorem j1j:z0y prog 143 0 0:=λ_ _=>kr
theorem u8y (ts:List TQ)(i:LId):nwT (z1r ts) i=((ts.getD (i.y-1).toNat tq0).2.getD i.n.toNat lq0).nw:=by
 have e:(z1r ts).getD (i.y-1).toNat []=(ts.getD (i.y-1).toNat tq0).2.map LpQ.p:=by
  unfold z1r;rw[List.getD,List.getD,List.getElem?_map];cases ts[(i.y-1).toNat]?<;>rfl
 unfold nwT;rw[e];generalize (ts.getD (i.y-1).toNat tq0).2=r;rw[List.getD,List.getD,List.getElem?_map];cases r[i.n.toNat]?<;>rfl
theorem v5l (gw:Nat)(s:WtQ)(i:LId)(w0:World)(I:Blk w0 gw 143 (wtL s))(J:FbAt w0 s.fb)(h6:s.fb.ts.length=6)(hi:z3r (z1r s.fb.ts) i):Rets prog 125 #[.pointer (some ⟨gw,0,none⟩),.agg #[.int .u8 i.y,.int .i64 i.n]] w0 λr w'=>r=.bool (nwT (z1r s.fb.ts) i)/\Fr [] w0 w':=by
 have a3:=z5b J.tt;have a8:=a3 (i.y-1).toNat;have a7:=z2b.1 hi;have b0:=I.lt;have a9:=z1z J.t;refine we [(0,.pointer (some ⟨gw,0,none⟩)),(1,.agg #[.int .u8 i.y,.int .i64 i.n])] func125 U ntmps125 U (.c2 U U) ?_;have a2:=J;refine sr (bx U (λg3 w1 a6 Z q1 z1=>(asg U (nn (sq ?_)))));replace J:=a2.ext q1;intro a h;refine z0h none (λwb w'=>Fr [] wb w') z2m ?_;intro w2 q2;have z2:=q2.size;replace I:=I.ext (q1.n1 q2);replace J:=J.ext q2;replace Z:=Z.ext q2;have hC:Fr [] w2 w2:=Fr.refl _ _;have O:=I;have M:=J;have D:=Z;refine z0e 0 h U λa h=>z0l 1 h U λa h=>z0c 2 h U j1j U λa h=>z5y 3 h U y0j U λa h=>z0j 4 h U (λ_ I=>O.ext I) U x4q U λa h=>z0c 5 h U z5v U λa h=>z0j 6 h U (λ_ I=>D.ext I) U na5 U λa h=>z2w 7 h wn U (by first|exact IntWalk.u8_in _ oo|rfl) U λa h=>z1i (tq0) 8 h U J.t U y6v U ?_ (hp:=rfl);clear h a;intro a4 a0 a h;refine z2x 9 h wn U (λ_ I=>a0 _ (M.t.ext I)) x1q U λa h=>z0c 10 h U z6g U λa h=>z0j 11 h U (λ_ I=>D.ext I) U na3 U λa h=>z1i (lq0) 12 h U (J.tt _ (z0z (d:=tq0) (i:=(i.y-1).toNat) oo)).1 U v2r U ?_ (hp:=rfl);clear h a;intro a5 a1 a h;refine z0c 13 h U v6h U λa h=>y4p 14 hC h wn U (λ_ I=>a1 _ ((J.tt _ (z0z (d:=tq0) (i:=(i.y-1).toNat) oo)).1.ext I)) U na4 U U λa h=>z0d 15 U (z0r h U λa h=>?_);refine z0b (z0p ?_);clear hC O M D;exact bk (h.sub (L':=[(4,_)]) (.cons U .nil)) (tn (rt (r1 results125 U ⟨_,rfl,by rw[u8y],(q1.n1 q2)⟩)))
end Go.Proofs.YtjilcnmaefhmeaaGreatDoor
namespace Go.G08
open Go.Lw Go.G21
theorem y7j {p q:MSt}{y D en:Int}(e:y2k p y D en=.ok q):q.B=p.B:=by
 unfold y2k at e;split at e;cases e;cases e;rfl
theorem v7e {p q:MSt}{d:Int}(e:z6e p d=.ok q):q.B=p.B:=by
 unfold z6e at e;split at e;cases e;split at e;cases e;cases e;rfl
theorem v8h:∀ {n:Nat} {p q:MSt} {r:Int},z3u n p r=.ok q->q.B=p.B
 | 0,p,q,r,e=>by cases e;rfl
 | n+1,p,q,r,e=>by
  unfold z3u at e
  split at e
  ·cases e;rfl
  split at e
  ·cases e
  rename_i I D
  exact(v8h e).trans (v7e D)
def StK (Us:List Nat)(w:World)(s:StQ):Prop:=∀(S:List Nat) (w':World),Fr S w w'->(∀k∈S,k<w.heap.size->∃T cs,Blk w k T cs/\T∉Us)->StAt w' s
theorem StK.at {Us:List Nat}{w:World}{s:StQ}(h:StK Us w s):StAt w s:=h [] w (Fr.refl _ _) λk D=>by cases D
theorem StK.fr {Us:List Nat}{w w':World}{s:StQ}{S:List Nat}(h:StK Us w s)(hf:Fr S w w')(J:∀k∈S,k<w.heap.size->∃T cs,Blk w k T cs/\T∉Us):StK Us w' s:=λS2 w2 I Z=>h (S++S2) w2 (hf.trans I) λk hk D=>by
 by_cases hm:k∈S
 ·exact J k hm D
 obtain⟨T,cs,O,M⟩:=Z k ((List.mem_append.1 hk).resolve_left hm) (Nat.lt_of_lt_of_le D hf.size)
 exact⟨T,cs,(hf.block k D hm).symm.trans O,M⟩
theorem StK.ext {Us:List Nat}{w w':World}{s:StQ}(h:StK Us w s)(hf:Fr [] w w'):StK Us w' s:=h.fr hf λk D=>by cases D
theorem StO.fr {τ:TyK}{I base:Nat}{w w':World}{s:StQ}{S:List Nat}(h:StO τ I base w s)(hf:Fr S w w')(hd:∀k∈S,k<w.heap.size->∃T cs,Blk w k T cs/\T∉[τ.S,τ.I,τ.Y,τ.P,τ.T,τ.L,I]):StO τ I base w' s:=by
 have D:Fr (S.filter λk=>decide (k<w.heap.size)) w w':=hf.weak λk M hl=>List.mem_filter.2 ⟨M,by simpa using hl⟩;have o:∀T',T'∈[τ.S,τ.I,τ.Y,τ.P,τ.T,τ.L,I]->OffT w T' (S.filter λk=>decide (k<w.heap.size)):=λT' J k M=>by
  obtain⟨O,Z⟩:=List.mem_filter.1 M;obtain⟨T,cs,hb,hT⟩:=hd k O (by simpa using Z);exact⟨T,cs,hb,λe=>hT (e▸J)⟩
 exact⟨BdO.tf h.b D (o _ sp0) (o _ sp0),h.y.tf D (o _ sp0) (o _ sp0),h.t.tf D (o _ sp0) (o _ sp0) (o _ sp0) (o _ sp0),z1v h.c D (o _ sp0),z1v h.h D (o _ sp0),z1v h.f D (o _ sp0),h.sp⟩
theorem StO.k {τ:TyK}{D base:Nat}{w:World}{s:StQ}(h:StO τ D base w s):StK [τ.S,τ.I,τ.Y,τ.P,τ.T,τ.L,D] w s:=λ_ _ hf I=>(h.fr hf I).at
theorem x6v {a b:LId}{c:Cx}:isC a b c=true↔(c.a,c.b)=(a,b):=by unfold isC;simp[Prod.ext_iff]
theorem j6o {y:Yn}{D:Int}{l:List Pa}(h1:y0f y)(I:x3q D)(J:u6b l)(M:y.inn=true)(O:(z4o y.pe l).length<=4096):goE y D l=0:=by
 unfold goE;rw[if_neg (by rw[j2e h1];simp),if_neg (not_not_intro I),if_neg (not_not_intro J),if_neg (by rw[M];simp),if_neg oo]
theorem k1j {y:Yn}(h:y0f y)(D:y.inn=true):y5q y.pe/\y.pe.length<=4096/\x3q y.pl:=by
 have:=h.2;rw[if_pos D]at this;exact⟨this.2.2,this.2.1,this.1⟩
theorem j0j {d:Int}(h:d=0\/d=1):stI (1-d) = - stI d/\(stI d=1\/stI d = -1):=by
 rcases h with rfl|rfl<;>exact⟨rfl,dd⟩
theorem u8q {r:Int}{k:Nat}(D:k<40)(hr:-4<=r/\r<=4):z2h 1 ((k:Int)+1) r=4*((k:Int)+1+r):=by
 unfold z2h;rw[if_neg (λe=>by rcases e with e|e;exact e (y0t ⟨.inr U,oo,oo⟩);exact e hr),if_neg dd]
theorem z5o {a b:LId}{c:Cx}{l:List Cx}:z6h (c::l) a b=if isC a b c=true then c.n else z6h l a b:=by
 unfold z6h;rw[List.find?_cons];split<;>rename_i h<;>rw[h]<;>rfl
theorem u7r {a b a' b':LId}{n:Int}(h:¬(a'=a/\b'=b)):isC a b ⟨a',b',n⟩=false:=by unfold isC;simpa using h
theorem x8q {a b a' b':LId}{n:Int}:∀l:List Cx,z6h (l++[⟨a',b',n⟩]) a b=if l.any (isC a b)=true then z6h l a b else if a'=a/\b'=b then n else 0
 | []=>by
  rw[List.nil_append,z5o]
  by_cases h:a'=a/\b'=b
  ·rw[if_pos (by unfold isC;simpa using h),if_neg sp0,if_pos h]
  rw[if_neg (by rw[u7r h];simp),if_neg sp0,if_neg h];rfl
 | c::l=>by
  rw[List.cons_append,z5o,z5o,List.any_cons,x8q l]
  cases isC a b c<;>simp
theorem x4k {a b:LId}:∀ {l:List Cx},¬l.any (isC a b)=true->z6h l a b=0
 | [],_=>rfl
 | c::l,h=>by
  rw[List.any_cons,Bool.or_eq_true,not_or]at h
  rw[z5o,if_neg h.1,x4k h.2]
theorem v0u {a b a' b':LId}{n:Int}:∀l:List Cx,z6h (l.map λc=>if isC a' b' c then ⟨a',b',n⟩ else c) a b=if a'=a/\b'=b then (if l.any (isC a b)=true then n else 0) else z6h l a b
 | []=>by simp[z6h]
 | c::l=>by
  have J:=v0u (a:=a) (b:=b) (a':=a') (b':=b') (n:=n) l
  rw[List.map_cons,z5o,J,z5o]
  by_cases e:a'=a/\b'=b
  ·obtain⟨rfl,rfl⟩:=e
   have D:a'=a'/\b'=b':=⟨rfl,rfl⟩
   by_cases h:isC a' b' c=true
   ·rw[if_pos h,if_pos (by simp[isC]),if_pos D,if_pos (by rw[List.any_cons,h];rfl)]
   rw[if_neg h,if_neg h,if_pos D,if_pos D]
   by_cases k:l.any (isC a' b')=true
   ·rw[if_pos k,if_pos (by rw[List.any_cons,k,Bool.or_true])]
   rw[if_neg k,if_neg (by rw[List.any_cons,Bool.or_eq_true];rintro(x|x);exact h x;exact k x)]
  rw[if_neg e,if_neg e]
  cases h:isC a' b' c
  ·simp
  rw[if_pos U,u7r e]
  have:isC a b c=false:=by
   rw[<-Bool.not_eq_true,x6v];rw[x6v]at h
   intro I;rw[h]at I;exact e (by simpa using I)
  rw[this,if_neg sp0,if_neg sp0]
theorem v1c {l:List Cx}{a b a' b':LId}{n:Int}:z6h (y7u l a' b' n) a b=if a'=a/\b'=b then n else z6h l a b:=by
 unfold y7u;by_cases h:l.any (isC a' b')=true;rw[if_pos h,v0u];by_cases e:a'=a/\b'=b;rw[if_pos e,if_pos e,if_pos (by rw[<-e.1,<-e.2];exact h)];rw[if_neg e,if_neg e];rw[if_neg h,x8q];by_cases e:a'=a/\b'=b;rw[if_pos e,if_neg (by rw[<-e.1,<-e.2];exact h),if_pos e];rw[if_neg e];split;rfl;rename_i D;rw[x4k D]
theorem y9w {a b a' b':LId}:∀l:List Cx,z6h (v0d l a' b') a b=if a'=a/\b'=b then 0 else z6h l a b
 | []=>by simp[z6h,v0d]
 | c::l=>by
  have D:=y9w (a:=a) (b:=b) (a':=a') (b':=b') l
  unfold v0d at D ⊢
  rw[List.filter_cons,z5o]
  cases h:isC a' b' c
  ·simp only[Bool.not_false,if_true]
   rw[z5o,D]
   by_cases e:a'=a/\b'=b
   ·rw[if_pos e,if_pos e,if_neg (by rw[<-e.1,<-e.2,h];simp)]
   rw[if_neg e,if_neg e]
  simp only[Bool.not_true,Bool.false_eq_true,if_false]
  rw[D]
  by_cases e:a'=a/\b'=b
  ·rw[if_pos e,if_pos e]
  rw[if_neg e,if_neg e,if_neg]
  rw[x6v]at h ⊢
  intro I;rw[h]at I;exact e (by simpa using I)
theorem u2d {l l':List Cx}{c:Cx}(h:y8m l c=.ok l')(a b:LId):z6h l' a b=if z4p c=(a,b) then z6h l a b+c.n else z6h l a b:=by
 rw[y9m]at h;generalize z4p c=k at h ⊢;obtain⟨x,y⟩:=k;simp only at h;by_cases h1:z6h l x y+c.n < -1048576\/1048576<z6h l x y+c.n;rw[if_pos h1]at h;cases h;rw[if_neg h1]at h;by_cases e:x=a/\y=b;obtain⟨rfl,rfl⟩:=e;rw[if_pos U];by_cases h2:z6h l x y+c.n=0;rw[if_pos h2]at h;cases h;rw[y9w,if_pos ⟨rfl,rfl⟩];omega;rw[if_neg h2]at h;cases h;rw[v1c,if_pos ⟨rfl,rfl⟩];rw[if_neg (by simpa using e)];by_cases h2:z6h l x y+c.n=0;rw[if_pos h2]at h;cases h;rw[y9w,if_neg e];rw[if_neg h2]at h;cases h;rw[v1c,if_neg e]
theorem j4y {l:List Cx}{c:Cx}(h:-1048576<=z6h l (z4p c).1 (z4p c).2+c.n/\z6h l (z4p c).1 (z4p c).2+c.n<=1048576):∃l',y8m l c=.ok l':=by
 rw[y9m,if_neg oo];split<;>exact⟨_,rfl⟩
theorem v2u {l r:List Cx}{c:Cx}:z5f l (c::r)=match y8m l c with|.error e=>.error e|.ok l'=>z5f l' r:=rfl
theorem u0a {p q:MSt}{d:Int}(e:z6e p d=.ok q):q.rk=p.rk+stI d:=by
 unfold z6e at e;split at e;cases e;split at e;cases e;cases e;rfl
theorem v0c {p:MSt}{y:Int}{q:Yn}(h:(y-1).toNat<p.ys.length):(p.setY y q).y y=q:=by
 unfold MSt.setY MSt.y;simp only;rw[List.getD,List.getElem?_set_self (by exact h)];rfl
theorem y3j {p q:MSt}{y D en:Int}(e:y2k p y D en=.ok q):goE (p.y y) D (y6x p y en)=0/\q=p.setY y (goS (p.y y) D (y6x p y en)):=by
 unfold y2k at e;split at e;cases e;rename_i h;cases e;exact⟨Classical.not_not.1 h,rfl⟩
theorem j1v {p:MSt}{y D en:Int}(h:goE (p.y y) D (y6x p y en)=0):y2k p y D en=.ok (p.setY y (goS (p.y y) D (y6x p y en))):=by
 unfold y2k;rw[if_neg (not_not_intro h)]
theorem v5g {B:Bd}{r d x:Int}(Z:BdOk B)(hd:d=0\/d=1)(hr:-4<=r/\r<=4):(z5e B r d x).length<=4:=by
 have D:=(j0j hd).2;have h4:∀k,(B.b.getD k []).length<=4:=λk=>by
  by_cases hk:k<B.b.length;rw[List.getD,List.getElem?_eq_getElem hk];exact Z.ss _ (List.mem_append_right _ (List.getElem_mem hk));rw[List.getD,List.getElem?_eq_none oo];simp
 have J:∀i,i<=40->(z8f B r d x i).length<=4/\(0<(z8f B r d x i).length->∃k:Nat,k<i/\(x=4*((k:Int)+1+r)+stI d\/x=4*((k:Int)+1+r)+3*stI d)):=by
  intro i;induction i with
  | zero=>intro _;exact⟨Nat.zero_le _,λh=>absurd h (by simp[z8f])⟩
  | succ i ih=>
   intro hi;obtain⟨h1,M⟩:=ih oo;have e:z8f B r d x (i+1)=z8f B r d x i++y5g B r d x i:=by
    unfold z8f;rw[List.range_succ,List.flatMap_append];simp
   rw[e,List.length_append];unfold y5g;rw[u8q oo hr];by_cases c:x≠4*((i:Int)+1+r)+stI d/\x≠4*((i:Int)+1+r)+3*stI d;rw[if_pos c];refine⟨by simpa using h1,λh=>?_⟩;obtain⟨k,k1,I⟩:=M (by simpa using h);exact⟨k,oo,I⟩;rw[if_neg c,List.length_map];have h3:(z8f B r d x i).length=0:=Classical.byContradiction λh=>by
    obtain⟨k,k1,I⟩:=M oo;rcases D with D|D<;>rw[D]at I c<;>omega
   exact⟨by have:=h4 i;omega,λ_=>⟨i,oo,oo⟩⟩
 have O:=(J B.b.length Z.lb).1;unfold z5e;split;rw[List.length_reverse];exact O;exact O
theorem u5g {B:Bd}{r a b:Int}:(btw (z2n B r) a b).length<=B.flat.length:=by
 have b1:(z2n B r).length=B.flat.length:=by rw[(z9w _ _).length_eq,y4q]
 rw[<-b1];unfold btw;split;rw[List.length_map];exact List.length_filter_le _ _;rw[List.length_reverse,List.length_map];exact List.length_filter_le _ _
theorem x5a {p:MSt}{d:Int}(I:BdOk p.B)(J:d=0\/d=1)(hr:-4<=p.rk/\p.rk<=4):∀ {l l':List Yn},z3y p d l=.ok l'->∀k,(l'.getD k yn0).pe.length<=(l.getD k yn0).pe.length+4
 | [],l',h,k=>by cases h;simp
 | y::l,l',h,k=>by
  unfold z3y at h
  split at h
  ·cases h
  rename_i Z D
  split at h
  ·cases h
  rename_i O M
  cases h
  cases k with
  | zero=>
   simp only[List.getD_cons_zero]
   unfold z7a at D
   split at D
   ·cases D;omega
   split at D
   ·cases D
   cases D
   have:=z6i (z5e p.B p.rk d y.pl) y.pe
   have:=v5g (x:=y.pl) I J hr
   show (z4o _ _).length<=_
   omega
  | succ k=>simpa only[List.getD_cons_succ] using x5a I J hr M k
theorem u8c {r:Int}(I:-4<=r/\r<=4):∀ {n:Nat} {p q:MSt},MInv p->z3u n p r=.ok q->q.B=p.B/\∀k,(q.ys.getD k yn0).pe.length<=(p.ys.getD k yn0).pe.length+4*n
 | 0,p,q,_,e=>by cases e;exact⟨rfl,λ_=>oo⟩
 | n+1,p,q,hi,e=>by
  unfold z3u at e
  by_cases e0:p.rk=r
  ·rw[if_pos e0]at e;cases e;exact⟨rfl,λ_=>oo⟩
  rw[if_neg e0]at e
  have M:=hi.rk
  have hd:(if r<p.rk then 0 else 1:Int)=0\/(if r<p.rk then 0 else 1:Int)=1:=by split<;>simp
  have J:-4<=p.rk+stI (if r<p.rk then 0 else 1)/\p.rk+stI (if r<p.rk then 0 else 1)<=4:=by
   unfold stI;split
   ·rw[if_pos U];omega
   rw[if_neg dd];omega
  split at e
  ·cases e
  rename_i p1 D
  obtain⟨Z,h4⟩:=u8c I (y4h hi J D).1 e
  refine⟨Z.trans (v7e D),λk=>Nat.le_trans (h4 k) ?_⟩
  unfold z6e at D
  split at D
  ·cases D
  rename_i ys O
  split at D
  ·cases D
  cases D
  have:=x5a hi.B hd M O k
  show (ys.getD k yn0).pe.length+_<=_
  omega
end Go.G08
namespace Go.Lw
theorem v5b {c:UInt8}:∀ {l:List UInt8},c∉l->Lib.index l [c] = -1
 | [],_=>by simp[Lib.index]
 | b::l,h=>by
  have D:¬c=b:=λe=>h (by rw[e];simp)
  have I:c∉l:=λe=>h (by simp[e])
  rw[Lib.index,v5b I]
  simp[List.isPrefixOf,D]
theorem u6v {c:UInt8}(y:List UInt8):∀ {x:List UInt8},c∉x->Lib.index (x++c::y) [c]=x.length
 | [],_=>by simp[Lib.index,List.isPrefixOf]
 | b::x,h=>by
  have D:¬c=b:=λe=>h (by rw[e];simp)
  have I:c∉x:=λe=>h (by simp[e])
  rw[List.cons_append,Lib.index,u6v y I]
  simp only[List.isPrefixOf,beq_eq_false_iff_ne.2 D,Bool.false_and,Bool.false_eq_true,if_false]
  rw[if_neg se];simp
theorem cnt {c:UInt8}:∀(f:Nat) (s:List UInt8),s.length<f->Lib.countFrom [c] f s=s.count c
 | 0,s,h=>by omega
 | f+1,s,h=>by
  rw[Lib.countFrom]
  by_cases hm:c∈s
  ·obtain⟨x,y,rfl,D⟩:=List.eq_append_cons_of_mem hm
   rw[u6v y D,if_neg se]
   have e:(x++c::y).drop ((x.length:Int).toNat + [c].length)=y:=by
    rw[Int.toNat_natCast,show x++c::y=(x++[c])++y by simp,show x.length + [c].length=(x++[c]).length by simp,List.drop_left]
   rw[e,cnt f y (by simp at h;omega)]
   simp[List.count_eq_zero.2 D];omega
  rw[v5b hm,if_pos dd,List.count_eq_zero.2 hm]
end Go.Lw
namespace Go.G08
open Go.Lw Go.G21
theorem y7e {p:MSt}{o:MOp}(h:z9v o=0):doM p o=opM p o:=by unfold doM;rw[if_neg (by rw[h];simp)]
end Go.G08
namespace Go.G09
open Go.Lw Go.G21 Go.G08
def CrB (l:List Cx)(n:Int):Prop:=∀a b,-n<=z6h l a b/\z6h l a b<=n
theorem CrB.mono {l:List Cx}{n m:Int}(h:CrB l n)(D:n<=m):CrB l m:=λa b=>⟨by have:=(h a b).1;omega,by have:=(h a b).2;omega⟩
theorem x2z:∀ {r l:List Cx} {n:Int},CrB l n->(∀c∈r,c.n=1\/c.n = -1)->n+r.length<=1048576->∃l',z5f l r=.ok l'/\CrB l' (n+r.length)
 | [],l,n,h,_,_=>⟨l,rfl,h.mono sp0⟩
 | c::r,l,n,h,hr,hn=>by
  have h1:=hr c (List.mem_cons_self ..)
  have Z:((c::r).length:Int)=r.length+1:=by simp
  rw[Z]at hn ⊢
  have hk:=h (z4p c).1 (z4p c).2
  obtain⟨l1,D⟩:=j4y (l:=l) (c:=c) oo
  have M:CrB l1 (n+1):=λa b=>by
   rw[u2d D]
   have:=h a b
   split<;>omega
  obtain⟨l2,I,J⟩:=x2z M (λc O=>hr c (List.mem_cons_of_mem _ O)) oo
  exact⟨l2,by rw[v2u,D];exact I,J.mono oo⟩
theorem u9p {B:Bd}{r d x:Int}(M:BdOk B)(O:d=0\/d=1):u6b (z5e B r d x):=λq D=>by
 refine⟨M.nm _ (x2s D),?_⟩
 have I:q∈z8f B r d x B.b.length:=by
  unfold z5e at D
  split at D
  ·exact List.mem_reverse.1 D
  exact D
 unfold z8f at I
 obtain⟨k,_,J⟩:=List.mem_flatMap.1 I
 unfold y5g at J
 split at J
 ·cases J
 obtain⟨y,_,rfl⟩:=List.mem_map.1 J
 show z5t (1-d)
 unfold z5t;omega
theorem y7y {p:MSt}{d:Int}(J:BdOk p.B)(M:d=0\/d=1)(hr:-4<=p.rk/\p.rk<=4):∀ {l:List Yn},(∀y∈l,y0f y/\y.pe.length+4<=4096)->∃l',z3y p d l=.ok l'
 | [],_=>⟨_,rfl⟩
 | y::l,h=>by
  obtain⟨l1,Z⟩:=y7y J M hr (l:=l) λy I=>h y (List.mem_cons_of_mem _ I)
  obtain⟨I,hl⟩:=h y (List.mem_cons_self ..)
  have:∃O,z7a p d y=.ok O:=by
   unfold z7a
   split
   ·exact⟨_,rfl⟩
   rename_i hi
   have D:y.inn=true:=by simpa using hi
   have h4:=v5g (x:=y.pl) J M hr
   have h5:=z6i (z5e p.B p.rk d y.pl) y.pe
   rw[if_neg (by rw[j6o I (k1j I D).2.2 (u9p J M) D oo];decide)]
   exact⟨_,rfl⟩
  obtain⟨O,h2⟩:=this
  exact⟨O::l1,by unfold z3y;rw[h2];simp only;rw[Z]⟩
theorem v7g {p:MSt}{d n:Int}(h:MVal p)(hd:d=0\/d=1)(M:∀k,(p.ys.getD k yn0).pe.length+4<=4096)(hc:CrB p.cr n)(hn:n+640<=1048576):∃q,z6e p d=.ok q/\CrB q.cr (n+640):=by
 have D:=h.inv;obtain⟨l1,Z⟩:=y7y D.B hd D.rk (l:=p.ys) λy hy=>by
  obtain⟨k,O,rfl⟩:=List.getElem_of_mem hy;have e:p.ys.getD k yn0=p.ys[k]:=by rw[List.getD,List.getElem?_eq_getElem O];rfl
  have:=M k;have I:=(D.yn k (by rw[<-D.ly];exact O)).1;rw[e]at this I;exact⟨I,this⟩
 have hl:=y1z D.B p.rk d;have a0:=D.B.lb;obtain⟨l2,I,h3⟩:=x2z hc (λc J=>(x3y D.B.nd J).2.2.2) (r:=z4c p.B p.rk d) oo;exact⟨{ p with ys:=l1,cr:=l2,rk:=p.rk+stI d },by unfold z6e;rw[Z];simp only;rw[I],CrB.mono (m:=n+640) h3 oo⟩
theorem x3z {r:Int}(hr:-4<=r/\r<=4):∀ {k:Nat} {p:MSt} {n:Int},MVal p->(∀j,(p.ys.getD j yn0).pe.length+4*k<=4096)->CrB p.cr n->n+640*k<=1048576->∃q,z3u k p r=.ok q/\CrB q.cr (n+640*k)
 | 0,p,n,_,_,hc,_=>⟨p,rfl,hc.mono sp0⟩
 | k+1,p,n,h,hpe,hc,hn=>by
  unfold z3u
  by_cases e0:p.rk=r
  ·rw[if_pos e0];exact⟨p,rfl,hc.mono oo⟩
  rw[if_neg e0]
  have O:=h.inv.rk
  have hd:(if r<p.rk then 0 else 1:Int)=0\/(if r<p.rk then 0 else 1:Int)=1:=by split<;>simp
  have M:-4<=p.rk+stI (if r<p.rk then 0 else 1)/\p.rk+stI (if r<p.rk then 0 else 1)<=4:=by
   unfold stI;split
   ·rw[if_pos U];omega
   rw[if_neg dd];omega
  obtain⟨q,I,h2⟩:=v7g h hd (λj=>by have:=hpe j;omega) hc oo
  have D:=I
  unfold z6e at D
  split at D
  ·cases D
  rename_i ys Z
  split at D
  ·cases D
  have hm:=x5a h.inv.B hd O Z
  have J:q.ys=ys:=by cases D;rfl
  obtain⟨q2,h3,h4⟩:=x3z (k:=k) hr (x3w h M I) (λj=>by rw[J];have:=hm j;have:=hpe j;omega) h2 oo
  rw[I]
  exact⟨q2,h3,h4.mono oo⟩
theorem v9m {r:Int}:∀ {k:Nat} {p q:MSt},(p.rk-r<=k/\r-p.rk<=k)->z3u k p r=.ok q->q.rk=r
 | 0,p,q,h,e=>by cases e;omega
 | k+1,p,q,h,e=>by
  unfold z3u at e
  by_cases e0:p.rk=r
  ·rw[if_pos e0]at e;cases e;exact e0
  rw[if_neg e0]at e
  split at e
  ·cases e
  rename_i I D
  refine v9m ?_ e
  rw[u0a D]
  unfold stI
  split
  ·rw[if_pos U];omega
  rw[if_neg dd];omega
theorem y3m {b n r:Int}(hn:z2v b n=0)(hr:-4<=r/\r<=4:=by omega):(z2h b n r=if b=0 then 4*n+2 else 4*(n+r))/\-12<=z2h b n r/\z2h b n r<=176/\z2h b n r % 2=0:=by
 obtain⟨J,D,I⟩:=z2o hn;have e:z2h b n r=if b=0 then 4*n+2 else 4*(n+r):=by
  unfold z2h;rw[if_neg (by rintro(h|h);exact h hn;exact h hr)]
 refine⟨e,?_⟩;rw[e];split<;>omega
theorem x1a {p:MSt}{o:MOp}(hn:z2v o.b o.p=0)(hr:-4<=p.rk/\p.rk<=4):x3q (y4l p o):=by
 obtain⟨_,D,I,J⟩:=y3m hn (hr:=hr);unfold y4l x3q;split<;>refine⟨?_,oo,oo⟩<;>intro e<;>have:=Int.dvd_of_tmod_eq_zero e<;>omega
theorem k3j {B:Bd}(I:BdOk B){r f t:Int}:u6b (btw (z2n B r) f t):=λq D=>by
 refine⟨I.nm _ (v8z D),?_⟩
 unfold btw at D
 split at D
 ·obtain⟨h,_,rfl⟩:=List.mem_map.1 D;exact .inr U
 obtain⟨h,_,rfl⟩:=List.mem_map.1 (List.mem_reverse.1 D);exact .inl U
theorem x0d {p:MSt}{y J en:Int}(h:MInv p)(hy:1<=y/\y<=6)(I:x3q J)(D:(p.y y).inn=true)(M:(p.y y).pe.length+p.B.flat.length<=4096) :
    y2k p y J en=.ok (p.setY y (goS (p.y y) J (y6x p y en))):=by
  refine j1v (j6o (h.yn (y-1).toNat oo).1 I (k3j h.B) D ?_)
  have O:=z6i (y6x p y en) (p.y y).pe
  have Z:(y6x p y en).length<=p.B.flat.length:=u5g
  omega
structure Mk (p q:MSt) (o:MOp) (st:List LId):Prop where
  rk:q.rk=p.rk
  B:q.B=p.B.put o.b o.p (st++[⟨o.y,(p.y o.y).ct⟩])
  tb:∃th pe,q.tb=p.tb.set (o.y-1).toNat (p.row o.y++[⟨o.b,(p.y o.y).nw,th,pe⟩])
  ys:q.ys=p.ys.set (o.y-1).toNat ⟨true,y4l p o,(p.y o.y).ct+1,false,[]⟩
  cr:q.cr=p.cr
  fa:q.fa=p.fa
theorem u8a {p:MSt}(h:MInv p){o:MOp}(O:1<=o.y/\o.y<=6)(hn:z2v o.b o.p=0)(D:(p.y o.y).inn=true)(a1:(p.y o.y).ct<2048)(a0:z4f p.tb<2048)(M:(p.y o.y).pe.length+p.B.flat.length<=4096)(Z st:List LId) :
    ∃q,y5m (p.setY o.y (goS (p.y o.y) (y4l p o) (y6x p o.y (z2h o.b o.p p.rk)))) o Z st=.ok q/\Mk p q o st:=by
  have hl:(o.y-1).toNat<p.ys.length:=by rw[h.ly];omega
  have hc:=x0d (en:=z2h o.b o.p p.rk) h O (x1a hn h.rk) D M
  have hi:=(y0z h O hc).1
  have I:(p.setY o.y (goS (p.y o.y) (y4l p o) (y6x p o.y (z2h o.b o.p p.rk)))).y o.y=goS (p.y o.y) (y4l p o) (y6x p o.y (z2h o.b o.p p.rk)):=v0c hl
  have J:y0f ((p.setY o.y (goS (p.y o.y) (y4l p o) (y6x p o.y (z2h o.b o.p p.rk)))).y o.y):=(hi.yn (o.y-1).toNat oo).1
  have hm:mkE (goS (p.y o.y) (y4l p o) (y6x p o.y (z2h o.b o.p p.rk)))=0:=by
    unfold mkE
    rw[<-I,if_neg (by rw[j2e J];decide),I]
    rw[if_neg (by show ¬(p.y o.y).inn=false;rw[D];decide),if_neg (by show ¬(p.y o.y).ct=2048;omega)]
  unfold y5m
  rw[I,if_neg (by rw[hm];decide),if_neg (by show ¬2048<=z4f p.tb;omega)]
  refine⟨_,rfl,rfl,rfl,⟨Z,_,rfl⟩,?_,rfl,rfl⟩
  show (p.ys.set _ _).set _ _=_
  rw[List.set_set]
  rfl
theorem u0j {p:MSt}(h:MInv p){o:MOp}(O:z9v o=0)(hk:o.k=4)(hb:z7j p o=0)(D:(p.y o.y).inn=true)(M:(p.y o.y).ct<2048)(J:z4f p.tb<2048)(I:(p.y o.y).pe.length+p.B.flat.length<=4096) :
    ∃q,doM p o=.ok q/\Mk p q o []:=by
  obtain⟨_,_,f3,_,f5,_⟩:=z3j O
  have hy:=f3 oo;have Z:=f5 oo
  rw[y7e O]
  unfold opM
  rw[if_neg oo,if_neg oo,if_neg oo,if_pos hk]
  unfold y0x
  rw[if_neg (by rw[hb];decide),x0d h hy (x1a Z h.rk) D I]
  exact u8a h hy Z D M J I _ _
theorem v8u {p:MSt}(h:MInv p){o:MOp}(O:z9v o=0)(hk:o.k=5)(hb:z7j p o=0)(D:(p.y o.y).inn=true)(M:(p.y o.y).ct<2048)(J:z4f p.tb<2048)(I:(p.y o.y).pe.length+p.B.flat.length<=4096)(a0:(p.B.at o.b o.p).length<4) :
    ∃q,doM p o=.ok q/\Mk p q o (p.B.at o.b o.p):=by
  obtain⟨_,_,f3,_,f5,_⟩:=z3j O
  have hy:=f3 oo;have Z:=f5 oo
  rw[y7e O]
  unfold opM
  rw[if_neg oo,if_neg oo,if_neg oo,if_neg oo,if_pos hk]
  unfold y0d
  rw[if_neg (by rw[hb];decide),x0d h hy (x1a Z h.rk) D I]
  simp only
  rw[if_neg (by show ¬4<=(p.B.at o.b o.p).length;omega)]
  exact u8a h hy Z D M J I _ _
theorem j0l {p:MSt}(h:MInv p){o:MOp}(J:z9v o=0)(M:o.k=1)(D:(p.y o.y).inn=false):doM p o=.ok (p.setY o.y (enS (p.y o.y) o.d)):=by
 obtain⟨_,O,Z,_,_,_⟩:=z3j J;have hy:=Z oo;rw[y7e J];unfold opM inM;have he:enE (p.y o.y) o.d=0:=by
  have I:y0f (p.y o.y):=(h.yn (o.y-1).toNat oo).1;unfold enE;rw[if_neg (by rw[j2e I];decide),if_neg (λx=>x (O M)),if_neg (by rw[D];decide)]
 rw[if_pos M,if_neg (by rw[he];decide)]
theorem u1y {p:MSt}(h:MInv p){o:MOp}(J:z9v o=0)(Z:o.k=2)(D:(p.y o.y).inn=true):doM p o=.ok (p.setY o.y (lvS (p.y o.y))):=by
 obtain⟨_,_,M,_,_,_⟩:=z3j J;have hy:=M oo;rw[y7e J];unfold opM x6s;have O:lvE (p.y o.y)=0:=by
  have I:y0f (p.y o.y):=(h.yn (o.y-1).toNat oo).1;unfold lvE;rw[if_neg (by rw[j2e I];decide),if_neg (by rw[D];decide)]
 rw[if_neg oo,if_pos Z,if_neg (by rw[O];decide)]
theorem v9n {p:MSt}{o:MOp}{n:Int}(h:MVal p)(M:z9v o=0)(O:o.k=3)(J:∀j,(p.ys.getD j yn0).pe.length+32<=4096)(I:CrB p.cr n)(hn:n+5120<=1048576) :
    ∃q,doM p o=.ok q/\q.rk=o.r/\q.B=p.B/\(∀j,(q.ys.getD j yn0).pe.length<=(p.ys.getD j yn0).pe.length+32)/\CrB q.cr (n+5120):=by
  obtain⟨_,_,_,_,_,f6⟩:=z3j M
  have Z:=f6 O
  have a0:=h.inv.rk
  obtain⟨q,D,h2⟩:=x3z (r:=o.r) Z (k:=8) h (λj=>by have:=J j;omega) I oo
  obtain⟨h3,h4⟩:=u8c Z h.inv D
  refine⟨q,?_,v9m oo D,h3,λj=>by have:=h4 j;omega,h2.mono oo⟩
  rw[y7e M]
  unfold opM
  rw[if_neg oo,if_neg oo,if_pos O]
  exact D
end Go.G09
namespace Go.G08
open Go.Lw Go.G21
theorem x9b {p q:MSt}{o:MOp}{D st:List LId}(e:y5m p o D st=.ok q):z4f q.tb<=z4f p.tb+1:=by
 unfold y5m at e;split at e;cases e;split at e;cases e;cases e;show z4f (p.tb.set (o.y-1).toNat (p.row o.y++[_]))<=_;by_cases hj:(o.y-1).toNat<p.tb.length;have:=y3e p.tb (o.y-1).toNat (p.row o.y++[⟨o.b,(p.y o.y).nw,D,(p.y o.y).pe⟩]) hj;rw[List.length_append,List.length_singleton,show (p.row o.y).length=z3b p.tb (o.y-1).toNat from U]at this;omega;rw[List.set_eq_of_length_le oo];omega
theorem y2w {p q:MSt}{y D en:Int}(e:y2k p y D en=.ok q):q.tb=p.tb:=by obtain⟨_,rfl⟩:=y3j e;rfl
theorem y9h {r:Int}:∀ {n:Nat} {p q:MSt},z3u n p r=.ok q->q.tb=p.tb
 | 0,p,q,e=>by cases e;rfl
 | n+1,p,q,e=>by
  unfold z3u at e
  split at e
  ·cases e;rfl
  split at e
  ·cases e
  rename_i I D
  refine(y9h e).trans ?_
  unfold z6e at D
  split at D
  ·cases D
  split at D
  ·cases D
  cases D;rfl
theorem k0n {p q:MSt}{o:MOp}(e:doM p o=.ok q):z4f q.tb<=z4f p.tb+1:=by
 have t:∀ {x:MSt},x.tb=p.tb->z4f x.tb<=z4f p.tb+1:=λh=>by rw[h];omega
 unfold doM at e;split at e;cases e;unfold opM at e;split at e;unfold inM at e;split at e;cases e;cases e;exact t U;split at e;unfold x6s at e;split at e;cases e;cases e;exact t U;split at e;exact t (y9h e);split at e;unfold y0x at e;split at e;cases e;split at e;cases e;rename_i h;have:=x9b e;rw[y2w h]at this;exact this;split at e;unfold y0d at e;split at e;cases e;split at e;cases e;rename_i h;split at e;cases e;have:=x9b e;rw[y2w h]at this;exact this;split at e;unfold y4b at e;split at e;cases e;exact t (y2w e);split at e;unfold z9d at e;repeat (split at e;· cases e)
 cases e;exact t U;unfold y2v at e;split at e;cases e;cases e;exact t U
end Go.G08
namespace Go.G09
open Go.Lw Go.G21 Go.G08
theorem x2o {o:MOp}{f:F4}(D:z5s o.k=some f)(h1:¬pl1 f o)(I:¬pl2 f o)(J:¬pl3 f o)(M:pl4 f o)(hr:-4<=o.r/\o.r<=4):z9v o=0:=by
 unfold z9v;rw[if_neg,if_neg oo];exact not_not_intro ⟨by rw[D];rfl,by rw[D];exact⟨h1,I,J,M⟩⟩
theorem j8a {d y:Int}(D:d=0\/d=1)(I:1<=y/\y<=6):z9v ⟨1,d,0,0,y,0⟩=0:=
 x2o (f:=(true,false,true,false)) (by show z5s 1=_;decide) so sp0 so (.inr U) sp0
theorem j2g {y:Int}(D:1<=y/\y<=6):z9v ⟨2,0,0,0,y,0⟩=0:=
 x2o (f:=(false,false,true,false)) (by show z5s 2=_;decide) sp0 sp0 so (.inr U) sp0
theorem v0z {r:Int}(hr:-4<=r/\r<=4):z9v ⟨3,0,0,0,0,r⟩=0:=
 x2o (f:=(false,false,false,true)) (by show z5s 3=_;decide) sp0 sp0 sp0 (.inl U) hr
theorem j8b {k d b p y:Int}(D:k=4\/k=5)(I:d=0\/d=1)(hn:z2v b p=0)(J:1<=y/\y<=6):z9v ⟨k,d,b,p,y,0⟩=0:=
 x2o (f:=(true,true,true,false)) (by rcases D with rfl|rfl;exact(show z5s 4=_ by decide);exact(show z5s 5=_ by decide)) so (by simp[hn]) so (.inr U) sp0
theorem x8f {B:Bd}{b n:Int}(hn:z2v b n=0)(D:B.at b n=[])(s:List LId):(B.put b n s).flat.Perm (B.flat++s):=List.perm_iff_count.2 λi=>by
 have:=z3d B hn s i
 rw[D]at this
 rw[List.count_append]
 simpa using this
theorem u9z (y:Int):G08.start.y y=yn0:=by
 show (List.replicate 6 yn0).getD _ yn0=yn0;rw[List.getD,List.getElem?_replicate];split<;>rfl
theorem v5j (y:Int):G08.start.row y=[]:=by
 show (List.replicate 6 ([]:List Lp)).getD _ []=[];rw[List.getD,List.getElem?_replicate];split<;>rfl
def bd1 (b1 p y:Int):Bd:=(⟨[],[]⟩:Bd).put b1 p [⟨y,0⟩]
def bd2 (b1 p b2 q y:Int):Bd:=(bd1 b1 p y).put b2 q [⟨y,1⟩]
theorem z9s {b1 p y:Int}(h:z2v b1 p=0):(bd1 b1 p y).flat.Perm [⟨y,0⟩]:=x8f h (v8o b1 p) _
theorem u7l {b1 p b2 q y:Int}(h:z2v b1 p=0)(I:z2v b2 q=0)(D:¬(b2=b1/\q=p)):(bd1 b1 p y).at b2 q=[]:=by
 unfold bd1;rw[z8c _ h I,if_neg D];exact v8o b2 q
theorem x0g {b1 p b2 q y:Int}(h:z2v b1 p=0)(I:z2v b2 q=0)(D:¬(b2=b1/\q=p)):(bd2 b1 p b2 q y).flat.Perm [⟨y,0⟩,⟨y,1⟩]:=
 (x8f I (u7l h I D) _).trans ((z9s h).append_right _)
theorem u9s {b1 p b2 q y:Int}(h:z2v b1 p=0)(I:z2v b2 q=0)(D:¬(b2=b1/\q=p)):(⟨y,0⟩:LId)∈(bd2 b1 p b2 q y).at b1 p:=by
 unfold bd2 bd1;rw[z8c _ I h,if_neg (λe=>D ⟨e.1.symm,e.2.symm⟩),z8c _ h h,if_pos ⟨rfl,rfl⟩];exact List.mem_singleton.2 U
theorem j3s {b1 p b2 q y:Int}(D:z2v b2 q=0):(⟨y,1⟩:LId)∈(bd2 b1 p b2 q y).at b2 q:=by
 unfold bd2;rw[z8c _ D D,if_pos ⟨rfl,rfl⟩];exact List.mem_singleton.2 U
structure L12 (p:MSt) (y:Int) (z:Yn) (B:Bd) (rows:List Bool) (N:Nat):Prop where
  v:MVal p
  rk:p.rk=0
  Be:p.B=B
  ye:p.y y=z
  pe:∀j,(p.ys.getD j yn0).pe=[]
  row:(p.row y).map Lp.nw=rows
  cnt:z4f p.tb<=N
  cr:p.cr=[]
  fa:p.fa=[]
theorem j3n (y:Int):L12 G08.start y yn0 ⟨[],[]⟩ [] 0:=⟨z8t,rfl,rfl,u9z y,λj=>by
 have:G08.start.ys.getD j yn0=yn0:=by
  show (List.replicate 6 yn0).getD j yn0=yn0
  rw[List.getD,List.getElem?_replicate];split<;>rfl
 rw[this];rfl,by rw[v5j];rfl,Nat.le_refl 0,rfl,rfl⟩
section
variable {p:MSt} {y:Int} {z:Yn} {B:Bd} {rows:List Bool} {N:Nat}
theorem L12.yl (h:L12 p y z B rows N)(D:1<=y/\y<=6):(y-1).toNat<p.ys.length:=by rw[h.v.inv.ly];omega
theorem v5d {l:List Yn}{k:Nat}{x:Yn}(hl:∀j,(l.getD j yn0).pe=[])(D:x.pe=[])(j:Nat):((l.set k x).getD j yn0).pe=[]:=by
 rw[List.getD,List.getElem?_set];split;split;exact D;rfl;exact hl j
theorem in_l (h:L12 p y z B rows N){d:Int}(J:d=0\/d=1)(D:1<=y/\y<=6)(M:z.inn=false):∃q,doM p ⟨1,d,0,0,y,0⟩=.ok q/\L12 q y (enS z d) B rows (N+1):=by
 have I:=j8a J D;have e:=j0l (p:=p) h.v.inv I U (by show (p.y y).inn=false;rw[h.ye];exact M);refine⟨_,e,y5i h.v e,h.rk,h.Be,?_,λj=>v5d h.pe U j,h.row,Nat.le_succ_of_le h.cnt,h.cr,h.fa⟩;show (p.setY y (enS (p.y y) d)).y y=_;rw[v0c (h.yl D),h.ye]
theorem k1x (h:L12 p y z B rows N)(D:1<=y/\y<=6)(J:z.inn=true):∃q,doM p ⟨2,0,0,0,y,0⟩=.ok q/\L12 q y (lvS z) B rows (N+1):=by
 have I:=j2g D;have e:=u1y (p:=p) h.v.inv I U (by show (p.y y).inn=true;rw[h.ye];exact J);refine⟨_,e,y5i h.v e,h.rk,h.Be,?_,λj=>v5d h.pe U j,h.row,Nat.le_succ_of_le h.cnt,h.cr,h.fa⟩;show (p.setY y (lvS (p.y y))).y y=_;rw[v0c (h.yl D),h.ye]
def j0u (d b n:Int):Int:=if d=1 then z2h b n 0+1 else z2h b n 0-1
theorem mk_l (h:L12 p y z B rows N){k d b n:Int}(hk:k=4\/k=5)(hd:d=0\/d=1)(hn:z2v b n=0)(hy:1<=y/\y<=6)(hz:z.inn=true)(hp:if d=1 then z.pl<=z2h b n 0 else z2h b n 0<=z.pl)(h0:B.at b n=[])(O:z.ct<2048)(hN:N<2000)(hf:B.flat.length<=10) :
    ∃q,doM p ⟨k,d,b,n,y,0⟩=.ok q/\L12 q y ⟨true,j0u d b n,z.ct+1,false,[]⟩ (B.put b n [⟨y,z.ct⟩]) (rows++[z.nw]) (N+1):=by
  have hc:=j8b hk hd hn hy
  have hb:z7j p ⟨k,d,b,n,y,0⟩=0:=by
    unfold z7j
    rw[if_neg (by show ¬(p.y y).inn=false;rw[h.ye,hz];decide)]
    show (if d=1 then (if z2h b n p.rk<(p.y y).pl then 12 else 0) else if (p.y y).pl<z2h b n p.rk then 12 else 0:Int)=0
    rw[h.rk,h.ye]
    split
    · rename_i e;rw[if_pos e]at hp;rw[if_neg oo]
    · rename_i e;rw[if_neg e]at hp;rw[if_neg oo]
  have J:(p.y y).inn=true:=by rw[h.ye];exact hz
  have D:(p.y y).ct<2048:=by rw[h.ye];exact O
  have M:(p.y y).pe.length+p.B.flat.length<=4096:=by
    have:=h.pe (y-1).toNat
    rw[show (p.y y).pe=[] from this,h.Be];simp;omega
  have I:z4f p.tb<2048:=by have:=h.cnt;omega
  have a0:∃q,doM p ⟨k,d,b,n,y,0⟩=.ok q/\Mk p q ⟨k,d,b,n,y,0⟩ []:=by
    rcases hk with rfl|rfl
    · exact u0j h.v.inv hc U hb J D I M
    · obtain⟨q,e,m⟩:=v8u h.v.inv hc U hb J D I M (by show (p.B.at b n).length<4;rw[h.Be,h0];decide)
      have m':Mk p q ⟨5,d,b,n,y,0⟩ (p.B.at b n):=m
      rw[h.Be,h0]at m'
      exact⟨q,e,m'⟩
  obtain⟨q,e,m⟩:=a0
  have hl:=h.yl hy
  obtain⟨th,pe,Z⟩:=m.tb
  refine⟨q,e,y5i h.v e,m.rk.trans h.rk,?_,?_,λj=>?_,?_,Nat.le_trans (k0n e) (Nat.succ_le_succ h.cnt),m.cr.trans h.cr,m.fa.trans h.fa⟩
  · rw[m.B,h.Be,h.ye];rfl
  · show q.ys.getD (y-1).toNat yn0=_
    rw[m.ys,h.ye]
    show (p.ys.set (y-1).toNat _).getD (y-1).toNat yn0=_
    rw[List.getD,List.getElem?_set,if_pos U,if_pos hl]
    show (⟨true,y4l p ⟨k,d,b,n,y,0⟩,z.ct+1,false,[]⟩:Yn)=_
    rw[show y4l p ⟨k,d,b,n,y,0⟩=j0u d b n from by unfold y4l j0u;rw[h.rk]]
  · rw[m.ys];exact v5d h.pe U j
  · show (q.tb.getD (y-1).toNat []).map Lp.nw=_
    rw[Z]
    show ((p.tb.set (y-1).toNat _).getD (y-1).toNat []).map Lp.nw=_
    rw[List.getD,List.getElem?_set,if_pos U,if_pos (by rw[h.v.inv.lt];omega)]
    show (p.row y++[_]).map Lp.nw=_
    rw[List.map_append,h.row,h.ye]
    rfl
theorem L12.nw (h:L12 p y z B rows N){n:Nat}(hn:n<rows.length):nwT p.tb ⟨y,n⟩=rows.getD n false:=by
 unfold nwT;show ((p.row y).getD (n:Int).toNat _).nw=_;rw[<-h.row];rw[<-h.row,List.length_map]at hn;rw[Int.toNat_natCast,List.getD,List.getD,List.getElem?_map,List.getElem?_eq_getElem hn];rfl
end
end Go.G09
namespace Go.G09
open Go.Lw Go.G21 Go.G08
theorem z7z {p q:MSt}{o:MOp}{l:List MOp}{i:Nat}(e:doM p o=.ok q):z3n i p (o::l)=z3n (i+1) q l:=by rw[z3n,e]
theorem z7y {T:Tb}{Us:List LId}{p q:MSt}{o:MOp}{l:List MOp}{i:Nat}{s:Wt}(e:doM p o=.ok q):y1e T Us i p s (o::l)=y1e T Us (i+1) q (z6s T Us i o p q s) l:=by rw[y1e,e]
theorem x1d {T:Tb}{Us:List LId}{p q:MSt}{o:MOp}{op:Int}{s:Wt}(h:v2h o):z6s T Us op o p q s=s:=if_pos h
theorem v1e {T:Tb}{Us:List LId}{p q:MSt}{o:MOp}{op:Int}{s:Wt}(h:y2j o):z6s T Us op o p q s=⟨s.md.set (o.y-1).toNat (z8p o.b o.p p.rk),vwB q.B q.rk,(s.fd++v1x T op o p s.md)++(v3g T s.vw (vwB q.B q.rk) op++v3f s.vw (vwB q.B q.rk) op)⟩:=by
 unfold z6s;rw[if_neg (by unfold v2h;rcases h with h|h<;>omega)];unfold doH;rw[if_pos h];rfl
theorem u3g (a b:Int):apt a b=apt b a:=by unfold apt;omega
theorem u8e {b n r:Int}(hn:z2v b n=0)(hr:-4<=r/\r<=4):z8p b n r=if b=0 then n else n+r:=by
 unfold z8p;rw[(y3m hn (hr:=hr)).1];split<;>omega
def j3g (y sd dk b1 p dt b2 q:Int)(mid:Bool):List MOp:=⟨1,sd,0,0,y,0⟩::⟨4,dk,b1,p,y,0⟩::((if mid then [⟨2,0,0,0,y,0⟩,⟨1,sd,0,0,y,0⟩] else [])++[⟨5,dt,b2,q,y,0⟩])
def u0y (mid:Bool):Nat:=if mid then 4 else 2
def j5l (sd dk b1 p:Int)(mid:Bool):Int:=if mid then (if sd=1 then 179 else -13) else j0u dk b1 p
def y0s (b1 p b2 q r:Int):Bool:=decide (6<apt (z8p b2 q r) (z8p b1 p r))
def v3h (y b1 p b2 q:Int)(mid:Bool):List Hz:=if mid=false/\y0s b1 p b2 q 0=true then [⟨u0y mid,1,⟨y,1⟩⟩,⟨u0y mid,2,⟨y,1⟩⟩] else []
section
variable {y sd dk b1 p dt b2 q:Int}
theorem v4w (h1:z2v b1 p=0)(D:z2v b2 q=0)(I:¬(b2=b1/\q=p)){P:MSt}(O:MVal P)(J:P.B=bd2 b1 p b2 q y)(r:Int):(vwB P.B r).str ⟨y,1⟩=y0s b1 p b2 q r:=by
 have M:=O.inv.B;unfold Vw.str;rw[x8o M D (by rw[J];exact j3s D),show (⟨(⟨y,1⟩:LId).y,(⟨y,1⟩:LId).n-1⟩:LId)=⟨y,0⟩ from U,x8o M h1 (by rw[J];exact u9s h1 D I)];rfl
theorem j4d (hy:1<=y/\y<=6)(Z:sd=0\/sd=1)(b0:dk=1-sd)(h1:z2v b1 p=0)(h2:z2v b2 q=0)(O:¬(b2=b1/\q=p))(a3:dt=0\/dt=1)(mid:Bool)
    (hpl:if dt=1 then j5l sd dk b1 p mid<=z2h b2 q 0 else z2h b2 q 0<=j5l sd dk b1 p mid) :
    ∃(P:MSt) (z:Yn),L12 P y z (bd2 b1 p b2 q y) [true,mid] 5/\(∀l,z3n 0 G08.start (j3g y sd dk b1 p dt b2 q mid++l)=z3n (u0y mid+1) P l)/\
      ∀(T:Tb) (Us:List LId),nwT T ⟨y,0⟩=true->nwT T ⟨y,1⟩=mid->∃md,∀l,y1e T Us 0 G08.start wt0 (j3g y sd dk b1 p dt b2 q mid++l)=y1e T Us (u0y mid+1) P ⟨md,vwB P.B 0,v3h y b1 p b2 q mid⟩ l:=by
  obtain⟨p1,e1,l1⟩:=in_l (j3n y) Z hy U
  have b3:=y3m h1 (r:=0)
  have b4:=y3m h2 (r:=0)
  obtain⟨M,e2,l2⟩:=mk_l l1 (k:=4) (d:=dk) (.inl U) oo h1 hy U (by
    show if dk=1 then (if sd=1 then 179 else -13:Int)<=z2h b1 p 0 else z2h b1 p 0<=(if sd=1 then 179 else -13:Int)
    rcases Z with e|e
    · rw[if_pos oo,if_neg oo];omega
    · rw[if_neg oo,if_pos e];omega) (v8o b1 p) (by show (0:Int)<2048;decide) dd dd
  have J:L12 M y ⟨true,j0u dk b1 p,1,false,[]⟩ (bd1 b1 p y) [true] 2:=l2
  have a0:∃I N,L12 I y ⟨true,j5l sd dk b1 p mid,1,mid,[]⟩ (bd1 b1 p y) [true] N/\N<=4/\(∀l,z3n 2 M ((if mid then [⟨2,0,0,0,y,0⟩,⟨1,sd,0,0,y,0⟩] else [])++l)=z3n (u0y mid) I l)/\∀T Us s l,y1e T Us 2 M s ((if mid then [⟨2,0,0,0,y,0⟩,⟨1,sd,0,0,y,0⟩] else [])++l)=y1e T Us (u0y mid) I s l:=by
    cases mid with
    | false=>exact⟨M,2,J,dd,λl=>rfl,λT Us s l=>rfl⟩
    | true=>
      obtain⟨p3,e3,l3⟩:=k1x J hy U
      obtain⟨p4,e4,l4⟩:=in_l l3 Z hy U
      refine⟨p4,4,l4,dd,λl=>?_,λT Us s l=>?_⟩
      · show z3n 2 M (_::_::l)=_
        rw[z7z e3,z7z e4];rfl
      · show y1e T Us 2 M s (_::_::l)=_
        rw[z7y e3,x1d (.inr (.inl U)),z7y e4,x1d (.inl U)];rfl
  obtain⟨I,N,lm,hN,em,eh⟩:=a0
  obtain⟨P,e5,l5⟩:=mk_l lm (k:=5) (d:=dt) (.inr U) a3 h2 hy U hpl (u7l h1 h2 O) (by show (1:Int)<2048;decide) oo (by rw[(z9s h1).length_eq];show 1<=10;decide)
  have D:L12 P y ⟨true,j0u dt b2 q,1+1,false,[]⟩ (bd2 b1 p b2 q y) [true,mid] (N+1):=l5
  refine⟨P,_,⟨D.v,D.rk,D.Be,D.ye,D.pe,D.row,Nat.le_trans D.cnt oo,D.cr,D.fa⟩,λl=>?_,λT Us t0 t1=>?_⟩
  · show z3n 0 _ (_::_::((_++_)++l))=_
    rw[z7z e1,z7z e2,List.append_assoc,em]
    show z3n _ I (_::l)=_
    rw[z7z e5]
  · have a8:(y-1).toNat<6:=by omega
    have a2:M.B=bd1 b1 p y:=J.Be
    have a1:(List.set wt0.md (y-1).toNat (z8p b1 p 0)).getD (y-1).toNat 0=z8p b1 p 0:=by
      rw[List.getD,List.getElem?_set,if_pos U,if_pos (by show _<6;exact a8)];rfl
    have a9:=D.v.inv.B
    have hfl:=x0g (y:=y) h1 h2 O
    have a5:(⟨(⟨y,0⟩:LId).y,(⟨y,0⟩:LId).n-1⟩:LId)∉(bd2 b1 p b2 q y).flat:=λhm=>by
      have:=hfl.mem_iff.1 hm;simp at this
    have a6:(⟨(⟨y,0⟩:LId).y,(⟨y,0⟩:LId).n-1⟩:LId)∉(bd1 b1 p y).flat:=λhm=>by
      have:=(z9s h1).mem_iff.1 hm;simp at this
    have hs:z6s T Us 1 ⟨4,dk,b1,p,y,0⟩ p1 M wt0=⟨wt0.md.set (y-1).toNat (z8p b1 p 0),vwB (bd1 b1 p y) 0,[]⟩:=by
      have hf:v1x T 1 ⟨4,dk,b1,p,y,0⟩ p1 wt0.md=[]:=if_neg λh=>by
        have:=h.1
        rw[show x4t p1 ⟨4,dk,b1,p,y,0⟩=⟨y,0⟩ from by unfold x4t;rw[l1.ye];rfl,t0]at this
        cases this
      rw[v1e (.inl U),hf,J.rk,a2,u9t (x:=⟨y,0⟩) (z9s h1) a6,x5t (by rw[x4b,(z9s h1).length_eq];show 1<=3;decide)]
      show (⟨List.set _ (y-1).toNat (z8p b1 p p1.rk),_,_⟩:Wt)=_
      rw[l1.rk];rfl
    refine⟨(wt0.md.set (y-1).toNat (z8p b1 p 0)).set (y-1).toNat (z8p b2 q 0),λl=>?_⟩
    show y1e T Us 0 _ wt0 (_::_::((_++_)++l))=_
    rw[z7y e1,x1d (.inl U),z7y e2]
    rw[show ((0+1:Nat):Int)=1 from U,hs,List.append_assoc,eh]
    show y1e T Us _ I _ (_::l)=_
    rw[z7y e5]
    congr 1
    have a4:x4t I ⟨5,dt,b2,q,y,0⟩=⟨y,1⟩:=by unfold x4t;rw[lm.ye]
    have hf:v1x T ((u0y mid:Nat):Int) ⟨5,dt,b2,q,y,0⟩ I (wt0.md.set (y-1).toNat (z8p b1 p 0))=if mid=false/\y0s b1 p b2 q 0=true then [⟨u0y mid,1,⟨y,1⟩⟩] else []:=by
      unfold v1x
      rw[a4,t1]
      show (if mid=false/\6<apt (z8p b2 q I.rk) (List.getD _ (y-1).toNat 0) then _ else _)=_
      rw[a1,lm.rk]
      unfold y0s
      simp only[decide_eq_true_eq]
    have hS:=v4w (y:=y) h1 h2 O D.v D.Be 0
    have a7:(vwB (bd1 b1 p y) 0).str ⟨y,1⟩=false:=by
      unfold Vw.str
      rw[x9g (λhm=>by have:=(z9s h1).mem_iff.1 hm;simp at this)]
    rw[D.Be]at hS
    rw[v1e (.inr U),hf,D.rk,D.Be,v4z (x:=⟨y,0⟩) (y:=⟨y,1⟩) hfl a5,x5t (by rw[x4b,hfl.length_eq];show 2<=3;decide),t1,hS,a7]
    show (⟨List.set _ (y-1).toNat (z8p b2 q I.rk),_,_⟩:Wt)=_
    rw[lm.rk]
    unfold v3h
    by_cases c:mid=false/\y0s b1 p b2 q 0=true
    · rw[if_pos c,if_pos ⟨c.1,c.2,rfl⟩,if_pos c];rfl
    · rw[if_neg c,if_neg (λh=>c ⟨h.1,h.2.1⟩),if_neg c];rfl
end
end Go.G09
namespace Go.G09
open Go.Lw Go.G21 Go.G08
theorem u1c {p q:MSt}{d:Int}(e:z6e p d=.ok q):q.tb=p.tb/\q.fa=p.fa:=by
 unfold z6e at e;split at e;cases e;split at e;cases e;cases e;exact⟨rfl,rfl⟩
theorem x9i:∀ {n:Nat} {p q:MSt} {r:Int},z3u n p r=.ok q->q.tb=p.tb/\q.fa=p.fa
 | 0,p,q,r,e=>by cases e;exact⟨rfl,rfl⟩
 | n+1,p,q,r,e=>by
  unfold z3u at e
  split at e
  ·cases e;exact⟨rfl,rfl⟩
  split at e
  ·cases e
  rename_i I D
  obtain⟨a,b⟩:=x9i e
  obtain⟨c,d⟩:=u1c D
  exact⟨a.trans c,b.trans d⟩
theorem u5b {p q:MSt}{r:Int}(hr:-4<=r/\r<=4)(e:doM p ⟨3,0,0,0,0,r⟩=.ok q):q.tb=p.tb/\q.fa=p.fa:=by
 rw[y7e (v0z hr)]at e;exact x9i (n:=8) (r:=r) e
def v3d (r:Int):MOp:=⟨3,0,0,0,0,r⟩
def v2z (y b1 p b2 q:Int):Nat->Int->List Int->List Hz
  | _,_,[]=>[]
  | i,r,s::l=>(if y0s b1 p b2 q s=true/\y0s b1 p b2 q r=false then [⟨i,2,⟨y,1⟩⟩] else [])++v2z y b1 p b2 q (i+1) s l
section
variable {y sd dk b1 p dt b2 q:Int}
theorem v3q (h1:z2v b1 p=0)(h2:z2v b2 q=0)(D:¬(b2=b1/\q=p)):∀ {rs:List Int} {P:MSt} {i:Nat} {N:Nat},(∀r∈rs,-4<=r/\r<=4)->MVal P->P.B=bd2 b1 p b2 q y->(∀j,(P.ys.getD j yn0).pe.length<=32*N)->CrB P.cr (5120*N)->N+rs.length<=100->
    ∃Q,z3n i P (rs.map v3d)=.ok Q/\MVal Q/\Q.B=bd2 b1 p b2 q y/\Q.tb=P.tb/\Q.fa=P.fa/\
      ∀(T:Tb) (Us:List LId) I fd,nwT T ⟨y,1⟩=false->(y1e T Us i P ⟨I,vwB P.B P.rk,fd⟩ (rs.map v3d)).fd=fd++v2z y b1 p b2 q i P.rk rs
  | [],P,i,N,_,hv,hB,_,_,_=>⟨P,rfl,hv,hB,rfl,rfl,λT Us I fd _=>by show fd=fd++[];rw[List.append_nil]⟩
  | r::rs,P,i,N,hr,hv,hB,hpe,hcr,hN=>by
    have O:=hr r (List.mem_cons_self ..)
    have hl:(r::rs).length=rs.length+1:=rfl
    obtain⟨J,e1,k1,k2,k3,k4⟩:=v9n (o:=⟨3,0,0,0,0,r⟩) (n:=5120*(N:Int)) hv (v0z O) U (λj=>by have:=hpe j;omega) hcr oo
    have Z:=y5i hv e1
    have a0:J.rk=r:=k1
    obtain⟨t1,t2⟩:=u5b O e1
    obtain⟨Q,e2,q1,q2,q3,q4,q5⟩:=v3q h1 h2 D (rs:=rs) (P:=J) (i:=i+1) (N:=N+1) (λr a3=>hr r (List.mem_cons_of_mem _ a3)) Z (k2.trans hB) (λj=>by have:=hpe j;have:=k3 j;omega) (k4.mono oo) oo
    refine⟨Q,?_,q1,q2,q3.trans t1,q4.trans t2,λT Us I fd hT=>?_⟩
    · show z3n i P (⟨3,0,0,0,0,r⟩::rs.map v3d)=_
      rw[z7z e1];exact e2
    · show (y1e T Us i P _ (⟨3,0,0,0,0,r⟩::rs.map v3d)).fd=_
      rw[z7y e1]
      have hfl:=x0g (y:=y) h1 h2 D
      have a2:(⟨(⟨y,0⟩:LId).y,(⟨y,0⟩:LId).n-1⟩:LId)∉P.B.flat:=λhm=>by
        rw[hB]at hm
        have:=hfl.mem_iff.1 hm;simp at this
      have a4:z6s T Us ((i:Nat):Int) ⟨3,0,0,0,0,r⟩ P J ⟨I,vwB P.B P.rk,fd⟩=⟨I,vwB J.B J.rk,fd++(if y0s b1 p b2 q r=true/\y0s b1 p b2 q P.rk=false then [⟨i,2,⟨y,1⟩⟩] else [])⟩:=by
        unfold z6s
        rw[if_neg (by unfold v2h;simp)]
        unfold doH
        rw[if_neg (by unfold y2j;simp),if_neg (by show ¬(3:Int)=8;decide)]
        unfold j5j
        have a1:=v4w (y:=y) h1 h2 D hv hB P.rk
        have M:=v4w (y:=y) h1 h2 D Z (k2.trans hB) r
        rw[k2]at M
        rw[a0,k2,v4z (x:=⟨y,0⟩) (y:=⟨y,1⟩) (hB▸hfl) a2,x5t (by rw[x4b,hB,hfl.length_eq];show 2<=3;decide),hT,M]
        show (⟨I,_,fd++((if false=false/\y0s b1 p b2 q r=true/\(vwB P.B P.rk).str ⟨y,1⟩=false then _ else _)++_)⟩:Wt)=_
        rw[a1]
        simp
      rw[a4,q5 T Us I _ hT,a0]
      show _=fd++(_++_)
      rw[List.append_assoc]
theorem u9v (hy:1<=y/\y<=6)(Z:sd=0\/sd=1)(J:dk=1-sd)(h1:z2v b1 p=0)(h2:z2v b2 q=0)(I:¬(b2=b1/\q=p))(M:dt=0\/dt=1)
    (hpl:if dt=1 then j5l sd dk b1 p false<=z2h b2 q 0 else z2h b2 q 0<=j5l sd dk b1 p false) {rs:List Int} (O:∀r∈rs,-4<=r/\r<=4) (hl:rs.length<=90) :
    ∃Q,z3n 0 G08.start (j3g y sd dk b1 p dt b2 q false++rs.map v3d)=.ok Q/\Q.B=bd2 b1 p b2 q y/\MVal Q/\y7b (j3g y sd dk b1 p dt b2 q false++rs.map v3d) Q=(v3h y b1 p b2 q false++v2z y b1 p b2 q 3 0 rs)++j4o (3+rs.length) Q:=by
  obtain⟨P,z,D,e,hh⟩:=j4d hy Z J h1 h2 I M false hpl
  obtain⟨Q,e2,q1,q2,q3,q4,q5⟩:=v3q (i:=3) (N:=0) h1 h2 I O D.v D.Be (λj=>by rw[D.pe j];simp) (λa b=>by rw[D.cr];rw[show z6h [] a b=0 from U];exact⟨sp0,sp0⟩) oo
  refine⟨Q,(e _).trans e2,q2,q1,?_⟩
  obtain⟨md,O⟩:=hh Q.tb (j0w Q) (by rw[q3];exact D.nw (n:=0) (Nat.zero_lt_succ _)) (by rw[q3];exact D.nw (n:=1) (Nat.lt_succ_self _))
  unfold y7b
  rw[O]
  have:=q5 Q.tb (j0w Q) md (v3h y b1 p b2 q false) (by rw[q3];exact D.nw (n:=1) (Nat.lt_succ_self _))
  rw[D.rk]at this
  rw[show (u0y false+1)=3 from U,this,List.length_append,List.length_map]
  rfl
end
end Go.G09
namespace Go.G09
open Go.Lw Go.G21 Go.G08
def PfT (T0 T:Tb):Prop:=∀y,T0.getD y [] <+: T.getD y []
theorem PfT.refl (T:Tb):PfT T T:=λ_=>List.prefix_refl _
theorem PfT.trans {A B C:Tb}(h:PfT A B)(D:PfT B C):PfT A C:=λy=>(h y).trans (D y)
theorem j8v (T:Tb)(j:Nat)(l:Lp):PfT T (T.set j (T.getD j []++[l])):=λy=>by
 by_cases hj:j=y
 ·subst hj
  by_cases hl:j<T.length
  ·rw[show (T.set j (T.getD j []++[l])).getD j []=T.getD j []++[l] by rw[List.getD,List.getElem?_set,if_pos U,if_pos hl];rfl]
   exact List.prefix_append _ _
  rw[List.set_eq_of_length_le oo];exact List.prefix_refl _
 rw[show (T.set j (T.getD j []++[l])).getD y []=T.getD y [] by rw[List.getD,List.getElem?_set,if_neg hj];rfl]
 exact List.prefix_refl _
theorem v7f {p q:MSt}{o:MOp}{D st:List LId}(e:y5m p o D st=.ok q):PfT p.tb q.tb/\q.B=p.B.put o.b o.p (st++[⟨o.y,(p.y o.y).ct⟩]):=by
 unfold y5m at e;split at e;cases e;split at e;cases e;cases e;exact⟨j8v _ _ _,rfl⟩
theorem y3d {p q:MSt}{y D en:Int}(e:y2k p y D en=.ok q):(q.y y).ct=(p.y y).ct:=by
 obtain⟨_,rfl⟩:=y3j e;by_cases h:(y-1).toNat<p.ys.length;rw[v0c h];rfl;show ((p.ys.set _ _).getD _ yn0).ct=_;rw[List.set_eq_of_length_le oo];rfl
theorem j6l {p q:MSt}{o:MOp}(e:doM p o=.ok q):PfT p.tb q.tb/\(y2j o->∃st,q.B=p.B.put o.b o.p (st++[x4t p o])):=by
 have t:∀ {x:MSt},x.tb=p.tb->¬y2j o->PfT p.tb x.tb/\(y2j o->∃st,x.B=p.B.put o.b o.p (st++[x4t p o])):=λh I=>⟨by rw[h];exact PfT.refl _,λh=>absurd h I⟩;unfold doM at e;split at e;cases e;unfold opM at e;split at e;rename_i D;unfold inM at e;split at e;cases e;cases e;exact t U (by unfold y2j;omega);split at e;rename_i D;unfold x6s at e;split at e;cases e;cases e;exact t U (by unfold y2j;omega);split at e;rename_i D;exact t (y9h e) (by unfold y2j;omega);split at e;unfold y0x at e;split at e;cases e;split at e;cases e;rename_i h;obtain⟨a,b⟩:=v7f e;rw[y2w h]at a;rw[y3d h,y7j h]at b;exact⟨a,λ_=>⟨_,b⟩⟩;split at e;unfold y0d at e;split at e;cases e;split at e;cases e;rename_i h;split at e;cases e;obtain⟨a,b⟩:=v7f e;rw[y2w h]at a;rw[y3d h,y7j h]at b;exact⟨a,λ_=>⟨_,b⟩⟩;split at e;rename_i D;unfold y4b at e;split at e;cases e;exact t (y2w e) (by unfold y2j;omega);split at e;rename_i D;unfold z9d at e;repeat (split at e;· cases e)
 cases e;exact t U (by unfold y2j;omega);rename_i J M O Z h5 h6 h7;unfold y2v at e;split at e;cases e;cases e;exact t U (by unfold y2j;omega)
theorem u7d:∀ {l:List MOp} {i:Nat} {p q:MSt},z3n i p l=.ok q->PfT p.tb q.tb
 | [],i,p,q,e=>by cases e;exact PfT.refl _
 | o::l,i,p,q,e=>by
  rw[z3n]at e
  split at e
  ·cases e
  rename_i h;exact(j6l h).1.trans (u7d e)
theorem j9b {p q:MSt}{o:MOp}(h:MVal p)(e:doM p o=.ok q)(D:y2j o):z3r q.tb (x4t p o):=by
 obtain⟨st,J⟩:=(j6l e).2 D;have O:=y5i h e;have M:z9v o=0:=Classical.byContradiction λx=>by unfold doM at e;rw[if_pos x]at e;cases e
 have I:=(z3j M).2.2.2.2.1 (by rcases D with h|h<;>omega);refine O.inv.has _ (z4u (b:=o.b) (n:=o.p) ?_);rw[J,z8c _ I I,if_pos ⟨rfl,rfl⟩];exact List.mem_append_right _ (List.mem_singleton.2 U)
theorem y9d {I:List MOp}:∀ {D:List MOp} {i:Nat} {p:MSt},z3n i p (D++I)=match z3n i p D with|.error e=>.error e|.ok q=>z3n (i+D.length) q I
 | [],i,p=>rfl
 | o::D,i,p=>by
  show z3n i p (o::(D++I))=_
  rw[z3n,z3n]
  cases doM p o with
  | error e=>rfl
  | ok q=>
   simp only
   rw[y9d,List.length_cons,show i+1+D.length=i+(D.length+1) by omega]
theorem x7n {T:Tb}{Us:List LId}{I:List MOp}:∀ {D:List MOp} {i:Nat} {p q:MSt} {s:Wt},z3n i p D=.ok q->y1e T Us i p s (D++I)=y1e T Us (i+D.length) q (y1e T Us i p s D) I
 | [],i,p,q,s,e=>by cases e;rfl
 | o::D,i,p,q,s,e=>by
  rw[z3n]at e
  show y1e T Us i p s (o::(D++I))=_
  rw[y1e,y1e]
  split at e
  ·cases e
  rename_i M J
  rw[J]
  simp only
  rw[x7n e,List.length_cons,show i+1+D.length=i+(D.length+1) by omega]
def k3 (l:List Hz):List Hz:=l.filter λh=>decide (h.k<=3)
theorem x8g {T:Tb}{Us:List LId}:∀ {l:List MOp} {i:Nat} {p:MSt} {s:Wt},∃x,(y1e T Us i p s l).fd=s.fd++x/\∀h∈x,(i:Int)<=h.o/\h.o<i+l.length
 | [],i,p,s=>⟨[],by show s.fd=_;simp,λh D=>by cases D⟩
 | o::l,i,p,s=>by
  rw[y1e]
  cases e1:doM p o with
  | error x=>exact⟨[],by show s.fd=_;simp,λh D=>by cases D⟩
  | ok p1=>
   simp only
   obtain⟨x,O,Z⟩:=x8g (T:=T) (Us:=Us) (l:=l) (i:=i+1) (p:=p1) (s:=z6s T Us i o p p1 s)
   have M:∃z,(z6s T Us i o p p1 s).fd=s.fd++z/\∀h∈z,h.o=(i:Int):=by
    have I:∃z,(doH T Us i o p s).fd=s.fd++z/\∀h∈z,h.o=(i:Int):=by
     unfold doH
     split
     ·refine⟨_,rfl,λh D=>?_⟩
      unfold v1x at D
      split at D
      ·rw[List.mem_singleton.1 D]
      cases D
     split
     ·refine⟨_,rfl,λh D=>?_⟩
      unfold u8b at D
      obtain⟨j,_,rfl⟩:=List.mem_map.1 D;rfl
     exact⟨[],sp0,λh D=>by cases D⟩
    obtain⟨z,I,J⟩:=I
    unfold z6s
    split
    ·exact⟨[],sp0,λh D=>by cases D⟩
    refine⟨z++(v3g T (doH T Us i o p s).vw (vwB p1.B p1.rk) i++v3f (doH T Us i o p s).vw (vwB p1.B p1.rk) i),?_,λh D=>?_⟩
    ·show (doH T Us i o p s).fd++_=_
     rw[I,List.append_assoc]
    rcases List.mem_append.1 D with D|D
    ·exact J h D
    rcases List.mem_append.1 D with D|D
    ·unfold v3g at D;obtain⟨j,_,rfl⟩:=List.mem_map.1 D;rfl
    unfold v3f at D;obtain⟨j,_,rfl⟩:=List.mem_map.1 D;rfl
   obtain⟨z,I,J⟩:=M
   refine⟨z++x,by rw[O,I,List.append_assoc],λh D=>?_⟩
   rw[List.length_cons]
   rcases List.mem_append.1 D with D|D
   ·have:=J h D;omega
   have:=Z h D;omega
end Go.G09
namespace Go.G09
open Go.Lw Go.G21 Go.G08 Go.Proofs Go.Sort
def hzL (h:Hz):List Value:=[.int .i64 h.o,.int .u8 h.k,.int .u8 h.id.y,.int .i64 h.id.n]
def y3f:Enc Hz:=⟨hzL,4,λ_=>rfl,λ_ u h=>by simp [hzL] at h;rcases h with rfl|rfl|rfl|rfl<;>rfl,dd⟩
def hz0:Hz:=⟨0,0,id0⟩
def y0v (a b:Hz):Int:=if z6c a.o b.o≠0 then z6c a.o b.o else if z6c a.k b.k≠0 then z6c a.k b.k else z6q a.id b.id
theorem z6f {x y:Int}:z6c x y<0↔x<y:=by unfold z6c;split<;>(try split)<;>omega
theorem v0q {x y:Int}:z6c x y=0↔x=y:=by unfold z6c;split<;>(try split)<;>omega
theorem z4i {a b:Hz}:y0v a b<0↔a.o<b.o\/a.o=b.o/\(a.k<b.k\/a.k=b.k/\(a.id.y<b.id.y\/a.id.y=b.id.y/\a.id.n<b.id.n)):=by
 unfold y0v;split;rename_i h;rw[z6f];rw[Ne,v0q]at h;omega;rename_i h;rw[Decidable.not_not,v0q]at h;split;rename_i D;rw[z6f];rw[Ne,v0q]at D;omega;rename_i D;rw[Decidable.not_not,v0q]at D;rw[z7d];omega
theorem swoH:SWO (ltOf y0v):=by
 constructor;intro x;simp only[ltOf,decide_eq_false_iff_not,z4i];omega;intro x y z;simp only[ltOf,decide_eq_true_eq,z4i];omega;intro x y z;simp only[ltOf,decide_eq_false_iff_not,z4i];omega
def y7d (l:List Hz):List Hz:=l.mergeSort λa b=>decide (¬y0v b a<0)
theorem z9n (l:List Hz):(y7d l).Perm l:=List.mergeSort_perm ..
theorem v0o (l:List Hz):(y7d l).Pairwise λa b=>¬y0v b a<0:=
 (List.pairwise_mergeSort (le:=λa b=>decide (¬y0v b a<0)) (λa b c=>by simp only[decide_eq_true_eq,z4i];omega) (λa b=>by simp only[Bool.or_eq_true,decide_eq_true_eq,z4i];omega) l).imp sp0
theorem x7c {l l':List Hz}(hp:l'.Perm l)(J:l'.Pairwise λa b=>¬y0v b a<0):l'=y7d l:=by
 refine List.Perm.eq_of_pairwise (λa b _ _ D I=>?_) J (v0o l) (hp.trans (z9n l).symm);rw[z4i]at D I;obtain⟨_,_,⟨_,_⟩⟩:=a;obtain⟨_,_,⟨_,_⟩⟩:=b;simp only at D I;rw[Hz.mk.injEq,LId.mk.injEq];omega
theorem y7w {l l':List Hz}(h:l.Perm l'):y7d l=y7d l':=x7c ((z9n l).trans h) (v0o l)
theorem z9k {l:List Hz}(h:l.Pairwise λa b=>y0v a b<0):y7d l=l:=(x7c (List.Perm.refl l) (h.imp λh=>by rw[z4i]at h ⊢;omega)).symm
section
variable {y b1 p b2 q:Int}
theorem x9n:∀ {rs:List Int} {i:Nat} {r:Int},(∀h∈v2z y b1 p b2 q i r rs,(i:Int)<=h.o/\h.o<i+rs.length)/\(v2z y b1 p b2 q i r rs).Pairwise λa b=>y0v a b<0
 | [],i,r=>⟨λh D=>(by cases D),.nil⟩
 | s::rs,i,r=>by
  obtain⟨I,J⟩:=x9n (rs:=rs) (i:=i+1) (r:=s)
  have M:((s::rs).length:Int)=rs.length+1:=by simp
  unfold v2z
  by_cases c:y0s b1 p b2 q s=true/\y0s b1 p b2 q r=false
  ·rw[if_pos c]
   refine⟨λh D=>?_,?_⟩
   ·rw[M]
    rcases List.mem_append.1 D with D|D
    ·rw[List.mem_singleton.1 D];simp only;omega
    have:=I h D;omega
   refine List.pairwise_append.2 ⟨List.pairwise_singleton _ _,J,λa O b Z=>?_⟩
   rw[List.mem_singleton.1 O,z4i]
   have:=I b Z
   left;simp only;omega
  rw[if_neg c]
  refine⟨λh D=>?_,J⟩
  rw[M]
  have:=I h D;omega
theorem j2y {Q:MSt}{rs:List Int}(hf:Q.B.flat.Perm [⟨y,0⟩,⟨y,1⟩]):y7d ((v3h y b1 p b2 q false++v2z y b1 p b2 q 3 0 rs)++j4o (3+rs.length) Q)=(v3h y b1 p b2 q false++v2z y b1 p b2 q 3 0 rs)++[⟨((3+rs.length:Nat):Int),5,⟨y,0⟩⟩,⟨((3+rs.length:Nat):Int),5,⟨y,1⟩⟩]:=by
 have hp:(j4o (3+rs.length) Q).Perm [⟨((3+rs.length:Nat):Int),5,⟨y,0⟩⟩,⟨((3+rs.length:Nat):Int),5,⟨y,1⟩⟩]:=by
  have M:=((z8e Q.B Q.rk).trans hf).map λi=>(⟨((3+rs.length:Nat):Int),5,i⟩:Hz);rw[List.map_map]at M;exact M
 rw[y7w (List.Perm.append_left _ hp)];refine z9k ?_;obtain⟨M,Z⟩:=x9n (y:=y) (b1:=b1) (p:=p) (b2:=b2) (q:=q) (rs:=rs) (i:=3) (r:=0);have O:∀h∈v3h y b1 p b2 q false,h.o=2:=λh J=>by
  unfold v3h at J;split at J;rcases List.mem_cons.1 J with e|J
  rw[e];rfl;rw[List.mem_singleton.1 J];rfl;cases J
 refine List.pairwise_append.2 ⟨List.pairwise_append.2 ⟨?_,Z,λa I b D=>?_⟩,?_,λa I b D=>?_⟩;unfold v3h;split;refine List.pairwise_cons.2 ⟨λb D=>?_,List.pairwise_singleton _ _⟩;rw[List.mem_singleton.1 D,z4i];right;exact⟨rfl,.inl (by show (1:Int)<2;decide)⟩;exact .nil;rw[z4i];have:=O a I;have:=M b D;left;omega;refine List.pairwise_cons.2 ⟨λb D=>?_,List.pairwise_singleton _ _⟩;rw[List.mem_singleton.1 D,z4i];right;exact⟨rfl,.inr ⟨rfl,.inr ⟨rfl,by show (0:Int)<1;decide⟩⟩⟩;have a0:b.o=((3+rs.length:Nat):Int):=by
  rcases List.mem_cons.1 D with e|D
  rw[e];rw[List.mem_singleton.1 D]
 rw[z4i];left;rcases List.mem_append.1 I with I|I
 have:=O a I;omega;have:=M a I;omega
end
end Go.G09
namespace Go.G09
open Go.Lw Go.G21 Go.G08
def ctL (p:MSt):List Int:=p.ys.map Yn.ct
theorem x6j {p:MSt}{y:Int}{z:Yn}(h:z.ct=(p.y y).ct):ctL (p.setY y z)=ctL p:=by
 unfold ctL MSt.setY;simp only;rw[List.map_set,h];by_cases hl:(y-1).toNat<p.ys.length;refine List.ext_getElem? λi=>?_;rw[List.getElem?_set];by_cases e:(y-1).toNat=i;subst e;rw[if_pos U,if_pos (by rw[List.length_map];exact hl),List.getElem?_map,List.getElem?_eq_getElem hl];show some (p.ys.getD _ yn0).ct=_;rw[List.getD,List.getElem?_eq_getElem hl];rfl;rw[if_neg e];rw[List.set_eq_of_length_le (by rw[List.length_map];omega)]
theorem x0a {p q:MSt}{y D en:Int}(e:y2k p y D en=.ok q):ctL q=ctL p:=by
 obtain⟨_,rfl⟩:=y3j e;exact x6j U
theorem x7v {p:MSt}{d:Int}:∀ {l l':List Yn},z3y p d l=.ok l'->l'.map Yn.ct=l.map Yn.ct
 | [],l',h=>by cases h;rfl
 | y::l,l',h=>by
  unfold z3y at h
  split at h
  ·cases h
  rename_i M I
  split at h
  ·cases h
  rename_i J D
  cases h
  rw[List.map_cons,List.map_cons,x7v D,(v0v I).2]
theorem v8j {r:Int}:∀ {n:Nat} {p q:MSt},z3u n p r=.ok q->ctL q=ctL p
 | 0,p,q,e=>by cases e;rfl
 | n+1,p,q,e=>by
  unfold z3u at e
  split at e
  ·cases e;rfl
  split at e
  ·cases e
  rename_i J D
  refine(v8j e).trans ?_
  unfold z6e at D
  split at D
  ·cases D
  rename_i ys I
  split at D
  ·cases D
  cases D;exact x7v I
theorem v3z {p q:MSt}{o:MOp}{D st:List LId}(e:y5m p o D st=.ok q):q.rk=p.rk/\q.B=p.B.put o.b o.p (st++[⟨o.y,(p.y o.y).ct⟩])/\ctL q=(ctL p).set (o.y-1).toNat ((p.y o.y).ct+1):=by
 unfold y5m at e;split at e;cases e;split at e;cases e;cases e;refine⟨rfl,rfl,?_⟩;unfold ctL;show (p.ys.set _ _).map Yn.ct=_;rw[List.map_set];rfl
theorem y7x {p q:MSt}{o:MOp}(e:doM p o=.ok q):z9v o=0/\opM p o=.ok q:=by
 unfold doM at e;split at e;cases e;rename_i h;exact⟨Decidable.not_not.1 h,e⟩
theorem j9s {p q:MSt}{o:MOp}(e:doM p o=.ok q)(O:y2j o):q.rk=p.rk/\q.B=p.B.put o.b o.p ((if o.k=4 then [] else p.B.at o.b o.p)++[x4t p o])/\ctL q=(ctL p).set (o.y-1).toNat ((p.y o.y).ct+1)/\(o.k=5->(p.B.at o.b o.p).length<4):=by
 obtain⟨_,e⟩:=y7x e;unfold opM at e;rcases O with J|J
 rw[if_neg oo,if_neg oo,if_neg oo,if_pos J]at e;unfold y0x at e;split at e;cases e;split at e;cases e;rename_i Z D;obtain⟨a,b,c⟩:=v3z e;obtain⟨_,I⟩:=y3j D;rw[y7j D,y3d D]at b;rw[x0a D,y3d D]at c;refine⟨by rw[a,I];rfl,by rw[if_pos J];exact b,c,oo⟩;rw[if_neg oo,if_neg oo,if_neg oo,if_neg oo,if_pos J]at e;unfold y0d at e;split at e;cases e;split at e;cases e;rename_i Z D;split at e;cases e;rename_i M;obtain⟨a,b,c⟩:=v3z e;obtain⟨_,I⟩:=y3j D;rw[y7j D]at M;rw[y7j D,y3d D]at b;rw[x0a D,y3d D]at c;exact⟨by rw[a,I];rfl,by rw[if_neg oo];exact b,c,λ_=>oo⟩
theorem k1g {p q:MSt}{o:MOp}(e:doM p o=.ok q)(J:v2h o):q.rk=p.rk/\q.B=p.B/\ctL q=ctL p:=by
 obtain⟨_,e⟩:=y7x e;unfold opM at e;rcases J with D|D|D
 rw[if_pos D]at e;unfold inM at e;split at e;cases e;cases e;exact⟨rfl,rfl,x6j U⟩;rw[if_neg oo,if_pos D]at e;unfold x6s at e;split at e;cases e;cases e;exact⟨rfl,rfl,x6j U⟩;rw[if_neg oo,if_neg oo,if_neg oo,if_neg oo,if_neg oo,if_pos D]at e;unfold y4b at e;split at e;cases e;obtain⟨_,I⟩:=y3j e;exact⟨by rw[I];rfl,y7j e,x0a e⟩
theorem j1q {p q:MSt}{o:MOp}(hr:-4<=p.rk/\p.rk<=4)(e:doM p o=.ok q)(I:o.k=3):q.rk=o.r/\q.B=p.B/\ctL q=ctL p:=by
 obtain⟨M,e⟩:=y7x e;have O:=(z3j M).2.2.2.2.2 I;unfold opM at e;rw[if_neg oo,if_neg oo,if_pos I]at e;have D:∀ {k:Nat} {p q:MSt},(p.rk-o.r<=k/\o.r-p.rk<=k)->z3u k p o.r=.ok q->q.rk=o.r:=by
  intro k;induction k with
  | zero=>intro p q h e;cases e;omega
  | succ k ih=>
   intro p q h e;unfold z3u at e;by_cases e0:p.rk=o.r;rw[if_pos e0]at e;cases e;exact e0;rw[if_neg e0]at e;split at e;cases e;rename_i Z J;refine ih ?_ e;rw[u0a J];unfold stI;split;rw[if_pos U];omega;rw[if_neg dd];omega
 exact⟨D (k:=8) oo e,v8h e,v8j e⟩
theorem j3t {p q:MSt}{o:MOp}(e:doM p o=.ok q)(O:o.k=7):q.rk=p.rk/\ctL q=ctL p/\p.B.at o.b o.p≠[]/\z2v (1-o.b) (z6r o.b o.p p.rk)=0/\(p.B.at o.b o.p).length+(p.B.at (1-o.b) (z6r o.b o.p p.rk)).length<=4/\q.B=(p.B.put o.b o.p []).put (1-o.b) (z6r o.b o.p p.rk) (y2y p.B o.b o.p (z6r o.b o.p p.rk)):=by
 obtain⟨M,e⟩:=y7x e;obtain⟨D,_,_⟩:=z2o ((z3j M).2.2.2.2.1 oo);unfold opM at e;rw[if_neg oo,if_neg oo,if_neg oo,if_neg oo,if_neg oo,if_neg oo,if_pos O]at e;unfold z9d at e;split at e;cases e;rename_i I;split at e;cases e;rename_i J;split at e;cases e;split at e;cases e;rename_i Z;cases e;refine⟨rfl,rfl,I,Decidable.not_not.1 J,oo,?_⟩;show (p.B.put o.b o.p []).put _ _ (z9y p o)=_;congr 1;unfold z9y y2y;rcases D with D|D<;>rw[D]
 rw[if_neg dd,if_neg dd];rfl;rw[if_pos U,if_pos U];rfl
theorem u9n {p q:MSt}{o:MOp}(e:doM p o=.ok q)(D:o.k=8):q.rk=p.rk/\ctL q=ctL p/\q.B=p.B.put o.b o.p []:=by
 obtain⟨_,e⟩:=y7x e;unfold opM at e;rw[if_neg oo,if_neg oo,if_neg oo,if_neg oo,if_neg oo,if_neg oo,if_neg oo]at e;unfold y2v at e;split at e;cases e;cases e;exact⟨rfl,rfl,rfl⟩
theorem x5o {B:Bd}{b n:Int}{l:List LId}(hn:z2v b n=0)(h:BdOk (B.put b n l))(i:LId):B.flat.count i+l.count i<=(B.at b n).count i+1:=by
 have I:=z3d B hn l i;have D:=h.nd.count (a:=i);split at D<;>omega
end Go.G09
namespace Go.Lw
section
variable {P:Program} {a:Act} {n:Nat} {L:List (Nat×Value)} {ds:List Nat} {w:World} {Q:Exit->Act->World->Prop} {C:World->Prop} {ops:Array Oper} {rest:List Oper} {d:Nat} {ty:TypeId} {pos:String} {after:Array Edge} {x y:Operand} {t T:TypeId} {k:IntKind} {i:Int}
theorem j4x {ad:Addr}{N o1 p:Nat}(h:AgM ds a n L)(M:ev L x=some (.pointer (some (ad.add o1))))(O:ev L y=some (.int k i))(J:P.underlying t=some (.array N T))(I:z1q P T 1)(D:0<=i)(h1:i<N)(hp:i.toNat=p)(hn:Nat.blt d n=true)
    (q:∀a,AgM ds a n ((d,.pointer (some (ad.add (o1+p))))::L)->wpList P ops Q rest a w):wpList P ops Q (⟨some d,.indexAddr t x y,ty,pos,after,none⟩::rest) a w:=
  v9v h M O J I D h1 hn (by rw[z7f,hp,Nat.mul_one];exact q)
theorem u6n {ad:Addr}{N o1 p:Nat}(M:ev L x=some (.pointer (some (ad.add o1))))(O:ev L y=some (.int k i))(J:P.underlying t=some (.array N T))(I:z1q P T 1)(D:0<=i)(h1:i<N)(hp:i.toNat=p)(hn:Nat.blt d n=true)
 (q:WL P ops Q rest n ds w ((d,.pointer (some (ad.add (o1+p))))::L)):WL P ops Q (⟨some d,.indexAddr t x y,ty,pos,after,none⟩::rest) n ds w L:=λa h=>j4x h M O J I D h1 hp hn q
theorem x5h {G:Option (Nat×Bool)}{K:Act->World->Prop}{fu:Nat}{listed:Array Bool}{pq:Option Nat}{ad:Addr}{N o1 p:Nat}(D:Nat)(hC:C w)(h:AgM ds a n L)(hG:Wd ops n L G)(Z:ev L x=some (.pointer (some (ad.add o1))))(hy:ev L y=some (.int k i))(O:P.underlying t=some (.array N T))(M:z1q P T 1)(I:ops[D]?=some ⟨some d,.indexAddr t x y,ty,pos,after,G⟩)(hn:Nat.blt d n=true)(q:∀a,AgM ds a n ((d,.pointer (some (ad.add (o1+p))))::L)->z0x pq P ops (z0q K) C fu (listed.setIfInBounds D true) a w)(hsel:Region.noSelect ops=true:=by kernel_rfl)(hfr:Fre pq ops listed D=true:=by kernel_rfl)(hre:(Region.ready .any ops listed).contains D=true:=by kernel_rfl)(J:0<=i:=by omega)(h1:i<N:=by omega)(hp:i.toNat=p:=by omega):z0x pq P ops (z0q K) C (fu+1) listed a w:=
  x7i D hsel hfr hre hC h hG Z hy O M J h1 I hn (by rw[z7f,hp,Nat.mul_one];exact q)
end
end Go.Lw
namespace Go.Lw
theorem v8d {α κ:Type}{F:α->κ×Value}{l:List α}{r1 r2:List (κ×Value)}{p:κ×Value}(h:l.map F=r1++p::r2):∃D c I,l=D++c::I/\r1=D.map F/\p=F c/\r2=I.map F:=by
 obtain⟨D,l',rfl,J,M⟩:=List.map_eq_append_iff.1 h;obtain⟨c,I,rfl,O,Z⟩:=List.map_eq_cons_iff.1 M;exact⟨D,c,I,rfl,J.symm,O.symm,Z.symm⟩
section
variable {α κ:Type} [DecidableEq κ] {V:κ->Value} {P:Program} {ops:Array Oper} {Q:Exit->Act->World->Prop} {rest:List Oper} {n:Nat} {ds:List Nat} {L:List (Nat×Value)} {w:World} {d:Nat} {x:Operand} {t g gi ty:Nat} {pos:String} {after:Array Edge} {em:List (κ×Value)} {rem:List α} {F:α->κ×Value}
def FIt (V:κ->Value)(F:α->κ×Value)(w:World)(gi g:Nat)(em:List (κ×Value))(rem:List α)(cur:Option α):Prop:=MapIt V w gi g em (rem.map F) (cur.map F)
theorem FIt.fr {w':World}{S:List Nat}{cur:Option α}(h:FIt V F w gi g em rem cur)(hf:Fr S w w')(hn:∀k∈S,k≠g/\k≠gi):FIt V F w' gi g em rem cur:=MapIt.fr h hf (λe=>(hn g e).1 U) (λe=>(hn gi e).2 U)
theorem FIt.ext {w':World}{cur:Option α}(h:FIt V F w gi g em rem cur)(hf:Fr [] w w'):FIt V F w' gi g em rem cur:=h.fr hf sp0
theorem FIt.no {cur:Option α}(h:FIt V F w gi g em rem cur):FIt V F w gi g em rem none:=MapIt.no h
theorem FIt.lt {cur:Option α}(h:FIt V F w gi g em rem cur):gi<w.heap.size:=MapIt.lt h
theorem x7y {K E:Nat}{l:List α}(F:α->κ×Value)(D:em=l.map F)(M:ev L x=some (.map (some g)))(I:MapL V w g em)(J:P.underlying t=some (.map K E))(hn:Nat.blt d n=true)
    (q:∀gi w',gi=w.heap.size->FIt V F w' gi g em l none->Fr [] w w'->w'.heap.size=gi+1->WL P ops Q rest n ds w' ((d,.pointer (some ⟨gi,0,none⟩))::L)):WL P ops Q (⟨some d,.range t x,ty,pos,after,none⟩::rest) n ds w L:=by
  subst D
  exact x8u M I J hn q
theorem v6o {cur:Option α}(Z:ev L x=some (.pointer (some ⟨gi,0,none⟩)))(O:FIt V F w gi g em rem cur)(hn:Nat.blt d n=true)
    (qt:∀D c I,rem=D++c::I->∀w',FIt V F w' gi g em (D++I) (some c)->Fr [gi] w w'->w'.heap.size=w.heap.size->WL P ops Q rest n ds w' ((d,.tuple #[.bool true,V (F c).1,(F c).2])::L))
    (qf:rem=[]->WL P ops Q rest n ds w ((d,.tuple #[.bool false])::L)):WL P ops Q (⟨some d,.next x false,ty,pos,after,none⟩::rest) n ds w L:=
  v4x Z O hn (λr1 p r2 J w' M hf hz=>by
    obtain⟨D,c,I,rfl,rfl,rfl,rfl⟩:=v8d J
    exact qt D c I U w' (by unfold FIt;rw[List.map_append];exact M) hf hz) (λJ=>qf (List.map_eq_nil_iff.1 J))
theorem v0k {c:α}(I:ev L x=some (.pointer (some ⟨gi,0,none⟩)))(D:FIt V F w gi g em rem (some c))(hn:Nat.blt d n=true)
 (q:WL P ops Q rest n ds w ((d,.tuple #[V (F c).1,(F c).2])::L)):WL P ops Q (⟨some d,.entry x,ty,pos,after,none⟩::rest) n ds w L:=x8a (p:=F c) I D hn q
theorem MapIt.mapIter {rem:List (κ×Value)}{cur:Option (κ×Value)}(h:MapIt V w gi g em rem cur):(∃D c,w.heap[g]?=some (.map D c))/\∃a b c d,w.heap[gi]?=some (.mapIter a b c d):=by
 obtain⟨D,c,I,J,_,_,_,M,_⟩:=h;exact⟨⟨D,c,J⟩,⟨_,_,_,_,M⟩⟩
theorem FIt.keep {w':World}{cur:Option α}(h:FIt V F w gi g em rem cur)(h1:w'.heap[g]?=w.heap[g]?)(J:w'.heap[gi]?=w.heap[gi]?):FIt V F w' gi g em rem cur:=by
 obtain⟨I,c,D,M,O,k3,Z,k5,k6,k7⟩:=h;exact⟨I,c,D,h1.trans M,O,k3,Z,J.trans k5,k6,k7⟩
end
end Go.Lw
namespace Go.G09
open Go Go.Lw Go.G21 Go.G08
structure TyW where
  W:Nat
  H:Nat
  S:Nat
  I:Nat
structure TyW.Ok (τ:TyW):Prop where
  wh:τ.W≠τ.H
  ws:τ.W≠τ.S
  wi:τ.W≠τ.I
  hs:τ.H≠τ.S
  hi:τ.H≠τ.I
structure WA where
  gw:Nat
  wk:World
structure WkM (τ:TyW) (wS:World) (a:WA) (w:World) (s:WtQ) (v:Vw) (Us:LId->Option Value) (fd:List Hz):Prop where
  k:Blk w a.gw τ.W (wtL s)
  b:BdO τ.S τ.I wS.heap.size w s.q
  u:MapF idK w s.gu Us
  va:MapV idK w s.va (atF v)
  vm:MapV ndK w s.vm (z1h (y1k v))
  f:Lw.Own y3f τ.H wS.heap.size w (slv s.fd) fd
  F:FbAt wS s.fb
  gw:wS.heap.size<=a.gw
  c6:s.ct.length=6
  m6:s.md.length=6
  fr:Fr [] wS w
  kp:KpM [τ.W,τ.H] a.gw a.wk w
  ol:∃g,s.vl=.map g
section
variable {τ:TyW} {wS w w' w2:World} {a:WA} {s s':WtQ} {v v':Vw} {Us:LId->Option Value} {fd fd':List Hz} {u:SV}
theorem x0y (b n r:Int):-100<=z8p b n r/\z8p b n r<=100:=by have:=y1y b n r;unfold z8p;omega
theorem y3i {κ:Type}[DecidableEq κ]{V:κ->Value}{g:Nat}{f:κ->Option Value}{S:List Nat}(h:MapF V w g f)(hf:Fr S w w')(I:∀k∈S,∃(T:Nat) (cs:List Value),Blk w k T cs):MapF V w' g f:=h.fr hf λJ=>by
 obtain⟨T',cs,D⟩:=I g J
 exact h.ne_blk D U
theorem z7c {κ:Type}[DecidableEq κ]{V:κ->Value}{x:Value}{f:κ->Option Value}{S:List Nat}(h:MapV V w x f)(hf:Fr S w w')(D:∀k∈S,∃(T:Nat) (cs:List Value),Blk w k T cs):MapV V w' x f:=h.imp id λ⟨g,e,h⟩=>⟨g,e,y3i h hf D⟩
theorem WkM.ext (h:WkM τ wS a w s v Us fd)(hf:Fr [] w w'):WkM τ wS a w' s v Us fd:=
 ⟨h.k.ext hf,h.b.ext hf,h.u.ext hf,h.va.ext hf,h.vm.ext hf,h.f.ext hf,h.F,h.gw,h.c6,h.m6,h.fr.next hf,h.kp.trans (KpM.of hf sp0),h.ol⟩
theorem WkM.mark (h:WkM τ wS a w s v Us fd):WkM τ wS { a with wk:=w } w s v Us fd:=⟨h.k,h.b,h.u,h.va,h.vm,h.f,h.F,h.gw,h.c6,h.m6,h.fr,KpM.refl _ _ _,h.ol⟩
theorem WkM.unmark (h:WkM τ wS { a with wk:=w } w' s v Us fd)(D:KpM [τ.W,τ.H] a.gw a.wk w):WkM τ wS a w' s v Us fd:=⟨h.k,h.b,h.u,h.va,h.vm,h.f,h.F,h.gw,h.c6,h.m6,h.fr,D.trans h.kp,h.ol⟩
theorem WkM.fb (h:WkM τ wS a w s v Us fd):FbAt w s.fb:=h.F.ext h.fr
theorem WkM.one (h:WkM τ wS a w s v Us fd):∀u∈[s.va,s.vl,s.vm],u.oneCell'=true:=λu D=>by
 obtain⟨g,I⟩:=h.ol
 have f:∀ {κ:Type} [DecidableEq κ] {V:κ->Value} {x:Value} {q:κ->Option Value},MapV V w x q->x.oneCell'=true:=λh=>by
  rcases h with ⟨rfl,_⟩|⟨g,rfl,_⟩<;>rfl
 simp only[List.mem_cons,List.not_mem_nil,or_false]at D
 rcases D with rfl|rfl|rfl
 ·exact f h.va
 ·rw[I];rfl
 exact f h.vm
theorem WkM.put (h:WkM τ wS a w s v Us fd)(M:τ.Ok)(D:Blk w' a.gw τ.W (wtL s'))(hf:Fr [a.gw] w w')(hb:BdO τ.S τ.I wS.heap.size w s'.q)(I:MapV idK w s'.va (atF v'))(J:MapV ndK w s'.vm (z1h (y1k v')))
    (e1:s'.gu=s.gu) (e2:s'.fb=s.fb) (e3:s'.fd=s.fd) (c6:s'.ct.length=6) (m6:s'.md.length=6) (hol:∃g,s'.vl=.map g):WkM τ wS a w' s' v' Us fd:=by
  have o:∀T,τ.W≠T->OffT w T [a.gw]:=λT Z=>OffT.one h.k Z
  have O:∀k∈[a.gw],∃(T:Nat) (cs:List Value),Blk w k T cs:=λk D=>by rw[List.mem_singleton]at D;subst D;exact⟨_,_,h.k⟩
  refine⟨D,BdO.tf hb hf (o _ M.ws) (o _ M.wi),?_,z7c I hf O,z7c J hf O,?_,by rw[e2];exact h.F,h.gw,c6,m6,h.fr.step hf λk D a0=>?_,h.kp.trans (KpM.of hf (x8y h.k sp0)),hol⟩
  · rw[e1];exact y3i h.u hf O
  · rw[e3];exact z1v h.f hf (o _ M.wh)
  · rw[List.mem_singleton]at D;have:=h.gw;omega
theorem WkM.add (h:WkM τ wS a w s v Us fd)(O:τ.Ok)(h1:Lw.Own y3f τ.H wS.heap.size w' (slv u) fd')(I:Fr (z0u (slv s.fd)) w w')(D:Blk w2 a.gw τ.W (wtL { s with fd:=u }))(J:Fr [a.gw] w' w2):WkM τ wS a w2 { s with fd:=u } v Us fd':=by
 have o1:∀T,τ.H≠T->OffT w T (z0u (slv s.fd)):=λT Z=>z5c h.f Z;have ob:∀k∈z0u (slv s.fd),∃(T:Nat) (cs:List Value),Blk w k T cs:=λk D=>⟨_,z4v h.f k D⟩;have k1:=y2d h.k I (o1 _ (Ne.symm O.wh));have hw:WkM τ wS a w2 { s with fd:=u } v Us fd':=by
  have o2:∀T,τ.W≠T->OffT w' T [a.gw]:=λT Z=>OffT.one k1 Z;have M:∀k∈[a.gw],∃(T:Nat) (cs:List Value),Blk w' k T cs:=λk D=>by rw[List.mem_singleton]at D;subst D;exact⟨_,_,k1⟩
  refine⟨D,BdO.tf (BdO.tf h.b I (o1 _ O.hs) (o1 _ O.hi)) J (o2 _ O.ws) (o2 _ O.wi),y3i (y3i h.u I ob) J M,z7c (z7c h.va I ob) J M,z7c (z7c h.vm I ob) J M,z1v h1 J (o2 _ O.wh),h.F,h.gw,h.c6,h.m6,(h.fr.step I λk D a0=>?_).step J λk D a0=>?_,(h.kp.trans (KpM.of I λk D=>?_)).trans (KpM.of J (x8y k1 sp0)),h.ol⟩;have:=(h.f.blk k D).1;omega;rw[List.mem_singleton]at D;have:=h.gw;omega;exact .inr ⟨τ.H,(z4v h.f k D).choose,(z4v h.f k D).choose_spec,sp0⟩
 exact hw
theorem KpM.fit {α κ:Type}[DecidableEq κ]{V:κ->Value}{F:α->κ×Value}{O:List Nat}{D gi g:Nat}{em:List (κ×Value)}{rem:List α}{cur:Option α}(h:KpM O D w w')(J:FIt V F w gi g em rem cur)(h1:g≠D)(h2:gi≠D):FIt V F w' gi g em rem cur:=by
 obtain⟨⟨es,c,M⟩,⟨a1,a2,a3,a4,Z⟩⟩:=MapIt.mapIter J;refine J.keep (h.block g (Array.getElem?_eq_some_iff.1 M).1 h1 λT cs I=>?_) (h.block gi J.lt h2 λT cs I=>?_);exact absurd ((show w.heap[g]?=some (.cells cs.toArray T (0,0)) from I).symm.trans M) sp0;exact absurd ((show w.heap[gi]?=some (.cells cs.toArray T (0,0)) from I).symm.trans Z) sp0
theorem _root_.Go.G08.KpM.next {D:List Nat}{g:Nat}{w w' w2:World}(h:KpM D g w w')(hf:Fr [] w' w2):KpM D g w w2:=h.trans (KpM.of hf sp0)
theorem WkM.kpB {T k:Nat}{cs:List Value}(h:WkM τ wS a w s v Us fd)(h1:KpM [τ.W,τ.H] a.gw w w')(hb:Blk w k T cs)(D:T≠τ.W)(I:T≠τ.H):Blk w' k T cs:=
 h1.blk hb (λe=>by subst e;exact D (v9t hb h.k)) (by simp only[List.mem_cons,List.not_mem_nil,or_false,not_or];exact⟨D,I⟩)
theorem WkM.kpO {α:Type}{E:Enc α}{T base:Nat}{x:Value}{ys:List α}(h:WkM τ wS a w s v Us fd)(h1:KpM [τ.W,τ.H] a.gw w w')(ho:Lw.Own E T base w x ys)(D:T≠τ.W)(I:T≠τ.H):Lw.Own E T base w' x ys:=
 KpM.own h1 ho (λk M e=>by subst e;obtain⟨cs,J⟩:=z4v ho _ M;exact D (v9t J h.k)) (by simp only[List.mem_cons,List.not_mem_nil,or_false,not_or];exact⟨D,I⟩)
theorem _root_.Go.G08.KpM.weak {I D:List Nat}{g:Nat}(h:KpM I g w w')(hs:∀T∈I,T∈D):KpM D g w w':=⟨h.size,λk hk O J=>h.block k hk O λT cs M Z=>J T cs M (hs T Z)⟩
theorem _root_.Go.G08.KpM.step {D:List Nat}{g:Nat}{S:List Nat}(h:KpM D g w w')(hf:Fr S w' w2)(I:∀k∈S,k=g\/∃(T:Nat) (cs:List Value),Blk w' k T cs/\T∈D):KpM D g w w2:=h.trans (KpM.of hf I)
theorem WkM.off {a0:WA}{w0:World}{s0:WtQ}{v0:Vw}{U0:LId->Option Value}{a1:List Hz}{S:List Nat}(h:WkM τ wS a w s v Us fd)(hτ:τ.Ok)(h0:WkM τ wS a0 w0 s0 v0 U0 a1)(e:s.q=s0.q)(hz:a.wk.heap.size<=w0.heap.size)(hf:Fr S w w')(O:∀k∈S,w0.heap.size<=k/\∃cs,Blk w k τ.I cs):WkM τ wS a w' s v Us fd:=by
 have ob:∀k∈S,∃(T:Nat) (cs:List Value),Blk w k T cs:=λk D=>⟨_,(O k D).2⟩;have oI:∀T,τ.I≠T->OffT w T S:=λT hT k D=>⟨τ.I,(O k D).2.choose,(O k D).2.choose_spec,hT⟩;have I:∀ {α:Type} {E:Enc α} {T b:Nat} {x:Value} {ys:List α},Lw.Own E T b w0 x ys->∀k∈S,k∉z0u x:=λho k D M=>by
  have:=(ho.blk k M).2;have:=(O k D).1;omega
 have M:=h.b;have J:=h0.b;rw[e]at M;refine⟨y2d h.k hf (oI _ (Ne.symm hτ.wi)),?_,y3i h.u hf ob,z7c h.va hf ob,z7c h.vm hf ob,z1v h.f hf (oI _ (Ne.symm hτ.hi)),h.F,h.gw,h.c6,h.m6,h.fr.step hf λk D a2=>?_,⟨Nat.le_trans h.kp.size hf.size,λk D hg hT=>?_⟩,h.ol⟩;rw[e];exact⟨⟨M.f.1.fr hf (I J.f.1),λp Z=>(M.f.2 p Z).fr hf (I (J.f.2 p Z))⟩,⟨M.b.1.fr hf (I J.b.1),λp Z=>(M.b.2 p Z).fr hf (I (J.b.2 p Z))⟩⟩;have:=(O k D).1;have:=h0.fr.size;omega;rw[<-h.kp.block k D hg hT];exact hf.block k (Nat.lt_of_lt_of_le D h.kp.size) λhm=>by have:=(O k hm).1;omega
theorem v0a {T:Tb}{D:List LId}{op:Int}{o:MOp}{p:MSt}{t:Wt}(I:y2j o):doH T D op o p t={ t with md:=t.md.set (o.y-1).toNat (z8p o.b o.p p.rk),fd:=t.fd++v1x T op o p t.md }:=if_pos I
theorem x9q {T:Tb}{D:List LId}{op:Int}{o:MOp}{p:MSt}{t:Wt}(I:o.k=8):doH T D op o p t={ t with fd:=t.fd++u8b D op o p }:=by
 unfold doH;rw[if_neg (by unfold y2j;omega),if_pos I]
theorem y8c {T:Tb}{D:List LId}{op:Int}{o:MOp}{p:MSt}{t:Wt}(h1:¬y2j o)(I:o.k≠8):doH T D op o p t=t:=by
 unfold doH;rw[if_neg h1,if_neg I]
theorem v0i {B:Bd}{b n:Int}{l:List LId}(hn:z2v b n=0):(B.put b n l).at b n=l:=by rw[z8c _ hn hn,if_pos ⟨rfl,rfl⟩]
theorem u7u {B:Bd}{b n:Int}{l:List LId}(hn:z2v b n=0)(h:BdOk (B.put b n l)):∀i∈l,z5d i:=λi D=>h.nm i (z4u (b:=b) (n:=n) (by rw[v0i hn];exact D))
theorem y6q {B:Bd}{b n:Int}{l:List LId}(hn:z2v b n=0)(h:BdOk (B.put b n l)):l.length<=4:=by
 have:=y0l h b n;rwa [v0i hn]at this
theorem u6j (p:MSt)(y:Int):(ctL p).getD (y-1).toNat 0=(p.y y).ct:=by
 unfold ctL MSt.y;rw[List.getD,List.getD,List.getElem?_map];cases p.ys[(y-1).toNat]?<;>rfl
theorem u6w {p:MSt}(h:MInv p){y:Int}(O:1<=y/\y<=6):0<=(p.y y).ct/\(p.y y).ct<=2048:=by
 have D:=(h.yn (y-1).toNat oo).2;have I:(p.y y).ct=z3b p.tb (y-1).toNat:=D;have J:=y3e p.tb (y-1).toNat [] (by rw[h.lt];omega);have M:=h.all;rw[List.length_nil]at J;rw[I];omega
theorem k1v {o:MOp}(h:z9v o=0):-1000<=o.p/\o.p<=1000:=by
 obtain⟨⟨_,_,D,_,_⟩,_,_⟩:=u7i h;generalize (z5s o.k).getD f40=f at D;unfold pl2 at D;cases hf:f.2.1<;>rw[hf]at D
 have:o.b=0/\o.p=0:=by simpa using D
 omega;have:z2v o.b o.p=0:=by simpa using D
 have:=z2o this;omega
theorem WkM.ne (h:WkM τ wS a w s v Us fd){κ:Type}[DecidableEq κ]{V:κ->Value}{g:Nat}{m:List (κ×Value)}(D:MapL V w g m):g≠a.gw:=D.f.ne_blk h.k
theorem FIt.ne {α κ:Type}[DecidableEq κ]{V:κ->Value}{F:α->κ×Value}{gi g:Nat}{em:List (κ×Value)}{rem:List α}{cur:Option α}(M:FIt V F w gi g em rem cur)(h:WkM τ wS a w s v Us fd):g≠a.gw/\gi≠a.gw:=by
 obtain⟨⟨es,c,D⟩,⟨O,Z,a3,a4,I⟩⟩:=MapIt.mapIter M;have J:w.heap[a.gw]?=some (.cells (wtL s).toArray τ.W (0,0)):=h.k;exact⟨λe=>(by rw[e,J]at D;cases D),λe=>(by rw[e,J]at I;cases I)⟩
theorem v5m {α:Type}[DecidableEq α]:∀(l D:List α),(x4x D l).length<=D.length+l.length
 | [],D=>Nat.le_refl _
 | x::l,D=>by
  show (x4x (if x∈D then D else D++[x]) l).length<=_
  refine Nat.le_trans (v5m l _) ?_
  split<;>simp<;>omega
theorem v9g (u:Vw):u.nds.length<=u.l.length:=by
 have:=v5m (u.l.map λh=>(h.b,h.n)) [];rw[List.length_map]at this;simpa[Vw.nds] using this
theorem WkM.srt (h:WkM τ wS a w s v Us fd)(J:τ.Ok)(h1:Lw.Own y3f τ.H wS.heap.size w' (slv s.fd) fd')(D:Fr (z0u (slv s.fd)) w w'):WkM τ wS a w' s v Us fd':=by
 have M:∀T,τ.H≠T->OffT w T (z0u (slv s.fd)):=λT Z=>z5c h.f Z;have O:∀k∈z0u (slv s.fd),∃(T:Nat) (cs:List Value),Blk w k T cs:=λk I=>⟨_,z4v h.f k I⟩;refine⟨y2d h.k D (M _ (Ne.symm J.wh)),BdO.tf h.b D (M _ J.hs) (M _ J.hi),y3i h.u D O,z7c h.va D O,z7c h.vm D O,h1,h.F,h.gw,h.c6,h.m6,h.fr.step D λk I a0=>?_,h.kp.trans (KpM.of D λk I=>.inr ⟨τ.H,(z4v h.f k I).choose,(z4v h.f k I).choose_spec,sp0⟩),h.ol⟩;have:=(h.f.blk k I).1;omega
def IterAt (w:World)(gi:Nat):Prop:=∃a b c d,w.heap[gi]?=some (.mapIter a b c d)
theorem _root_.Go.Lw.FIt.at {α κ:Type}[DecidableEq κ]{V:κ->Value}{F:α->κ×Value}{gi g:Nat}{em:List (κ×Value)}{rem:List α}{cur:Option α}(D:FIt V F w gi g em rem cur):IterAt w gi:=(MapIt.mapIter D).2
theorem x1u {α:Type}{E:Enc α}{T b gi:Nat}{x:Value}{ys:List α}(ho:Lw.Own E T b w x ys)(O:IterAt w gi)(hf:Fr [gi] w w'):Lw.Own E T b w' x ys:=ho.fr hf λk I M=>by
 obtain⟨cs,D⟩:=z4v ho _ M
 rw[List.mem_singleton]at I
 rw[I]at D
 obtain⟨Z,a2,a3,a4,J⟩:=O
 exact absurd ((show w.heap[gi]?=some (.cells cs.toArray T (0,0)) from D).symm.trans J) sp0
theorem v3u {T k gi:Nat}{cs:List Value}(hb:Blk w k T cs)(J:IterAt w gi)(hf:Fr [gi] w w'):Blk w' k T cs:=hb.fr hf λD=>by
 rw[List.mem_singleton]at D
 rw[D]at hb
 obtain⟨M,O,Z,a4,I⟩:=J
 exact absurd ((show w.heap[gi]?=some (.cells cs.toArray T (0,0)) from hb).symm.trans I) sp0
theorem y8t {κ:Type}[DecidableEq κ]{V:κ->Value}{g gi:Nat}{f:κ->Option Value}(h:MapF V w g f)(M:IterAt w gi)(hf:Fr [gi] w w'):MapF V w' g f:=h.fr hf λD=>by
 rw[List.mem_singleton]at D;subst D
 obtain⟨O,Z,a3,a4,J⟩:=M
 obtain⟨es,c,m,I,_⟩:=h
 exact absurd (I.symm.trans J) sp0
theorem v7r {κ:Type}[DecidableEq κ]{V:κ->Value}{g gi:Nat}{m:List (κ×Value)}(h:MapL V w g m)(M:IterAt w gi)(hf:Fr [gi] w w'):MapL V w' g m:=h.fr hf λD=>by
 rw[List.mem_singleton]at D;subst D
 obtain⟨O,Z,a3,a4,J⟩:=M
 obtain⟨es,c,I,_⟩:=h
 exact absurd (I.symm.trans J) sp0
theorem WkM.it {gi:Nat}(h:WkM τ wS a w s v Us fd)(D:IterAt w gi)(hf:Fr [gi] w w')(hz:a.wk.heap.size<=gi)(a0:wS.heap.size<=gi):WkM τ wS a w' s v Us fd:=by
 refine⟨v3u h.k D hf,⟨⟨x1u h.b.f.1 D hf,λp J=>x1u (h.b.f.2 p J) D hf⟩,⟨x1u h.b.b.1 D hf,λp J=>x1u (h.b.b.2 p J) D hf⟩⟩,y8t h.u D hf,h.va.imp id λ⟨g,e,h⟩=>⟨g,e,y8t h D hf⟩,h.vm.imp id λ⟨g,e,h⟩=>⟨g,e,y8t h D hf⟩,x1u h.f D hf,h.F,h.gw,h.c6,h.m6,h.fr.step hf λk I Z=>?_,⟨Nat.le_trans h.kp.size hf.size,λk I O M=>?_⟩,h.ol⟩;rw[List.mem_singleton]at I;omega;rw[<-h.kp.block k I O M];exact hf.block k (Nat.lt_of_lt_of_le I h.kp.size) λhm=>by rw[List.mem_singleton]at hm;omega
abbrev atE (r:Int):Hd->LId×Value:=λh=>(h.id,.int .i64 (z8p h.b h.n r))
abbrev mnE (u:Vw):Int×Int->(Int×Int)×Value:=λn=>(n,.int .i64 (u.on n).length)
structure CmV (τV:Nat) (w:World) (g4 g5 m1 m2 m3:Nat) (s:WtQ) (u:Vw):Prop where
  b:Blk w g4 τV [s.va,s.vl,s.vm]
  h:Blk w g5 τV [.map (some m1),.map (some m2),.map (some m3)]
  a:MapL idK w m1 (atM u.l u.r)
  l:MapF ndK w m2 (y5c u)
  m:MapL ndK w m3 (y1k u)
section
variable {τV g4 g5 m1 m2 m3:Nat} {s1:WtQ} {u1:Vw}
theorem CmV.ext (h:CmV τV w g4 g5 m1 m2 m3 s1 u1)(hf:Fr [] w w'):CmV τV w' g4 g5 m1 m2 m3 s1 u1:=⟨h.b.ext hf,h.h.ext hf,h.a.ext hf,h.l.ext hf,h.m.ext hf⟩
theorem CmV.it {gi:Nat}(h:CmV τV w g4 g5 m1 m2 m3 s1 u1)(D:IterAt w gi)(hf:Fr [gi] w w'):CmV τV w' g4 g5 m1 m2 m3 s1 u1:=⟨v3u h.b D hf,v3u h.h D hf,v7r h.a D hf,y8t h.l D hf,v7r h.m D hf⟩
theorem CmV.kp (h:CmV τV w g4 g5 m1 m2 m3 s1 u1)(D:WkM τ wS a w s v Us fd)(I:KpM [τ.W,τ.H] a.gw w w')(h1:τV≠τ.W)(J:τV≠τ.H):CmV τV w' g4 g5 m1 m2 m3 s1 u1:=
 ⟨D.kpB I h.b h1 J,D.kpB I h.h h1 J,I.map h.a (h.a.f.ne_blk D.k),I.mapF h.l (h.l.ne_blk D.k),I.map h.m (h.m.f.ne_blk D.k)⟩
theorem CmV.va (h:CmV τV w g4 g5 m1 m2 m3 s1 u1):MapV idK w (.map (some m1)) (atF u1):=by
 have x:=h.a.f;rw[k3h]at x;exact x.v
theorem CmV.vm (h:CmV τV w g4 g5 m1 m2 m3 s1 u1):MapV ndK w (.map (some m3)) (z1h (y1k u1)):=h.m.f.v
end
theorem u7p {B:Bd}{r:Int}:∀(j:LId) (p:Int),(vwB B r).pos j=some p->-1000<=p/\p<=1000:=λj p h=>by
 unfold Vw.pos at h
 obtain⟨x,_,rfl⟩:=Option.map_eq_some_iff.1 h
 have:=x0y x.b x.n (vwB B r).r
 omega
theorem u2q (u:Vw)(n:Int×Int):(y5c u n).getD (.agg #[.int .u8 0,.int .i64 0])=idK ((u.on n).getLast?.getD id0):=by
 unfold y5c;cases (u.on n).getLast?<;>rfl
end
end Go.G09
namespace Go.Proofs.YtjilcnmaefhmeaaGreatDoor
open Go.Lw Go.G21 Go.G08 Go.G09 _root_.Go.Proofs.Tryz
theorem bo75:BuildAt prog 75 [(0,1),(1,1),(2,2)] [(.int .i64 0),(.int .u8 0),(.int .u8 0),(.int .i64 0)]:=BuildAt.struct underlying75 (λ_=>kr) (λ_=>kr)
theorem k0k:ElemOf prog 68 75 y3f 32:=ElemOf.mk' (z:=(.agg #[.int .i64 0,.int .u8 0,.int .u8 0,.int .i64 0])) underlying68 kr U
theorem y5n:z0y prog 143 7 23:=λ_ _=>kr
theorem k0v:z2c prog 68:=λ_=>kr
theorem sz68:z1q prog 68 1:=λ_=>kr
abbrev τw:TyW:=⟨143,75,27,73⟩
theorem τwk:τw.Ok:=⟨dd,dd,dd,dd,dd⟩
theorem y6d (wS:World)(ka:WA)(s:WtQ)(v:Vw)(Us:LId->Option Value)(fd:List Hz)(op kd:Int)(i:LId)(w0:World)(Z:WkM τw wS ka w0 s v Us fd)(hfl:fd.length<=100000000):Rets prog 63 #[.pointer (some ⟨ka.gw,0,none⟩),.int .i64 op,.int .u8 kd,.agg #[.int .u8 i.y,.int .i64 i.n]] w0 λr w'=>r=.tuple #[]/\∃u:SV,WkM τw wS ka w' { s with fd:=u } v Us (fd++[(⟨op,kd,i⟩:Hz)]):=by
 have c1:=Z.fr.size;have J:=Z.k;have b9:=J.lt;have M:Lw.Own y3f 75 wS.heap.size w0 (slv s.fd) fd:=Z.f;have b7:s.fd.2.1=fd.length:=z1z M.sl;refine we [(0,.pointer (some ⟨ka.gw,0,none⟩)),(1,.int .i64 op),(2,.int .u8 kd),(3,.agg #[.int .u8 i.y,.int .i64 i.n])] func63 U ntmps63 U (.c4 U U U U) ?_;have b0:=Z;refine sr (bx U (λg7 w1 b8 D q1 z1=>(nn ?_)));replace Z:=b0.ext q1;intro a h;refine z0h (some 13) (λwb w'=>Fr (z0u (slv s.fd)) wb w') z2m ?_;intro w2 q2;have z2:=q2.size;replace Z:=Z.ext q2;replace J:=J.ext (q1.n1 q2);replace M:=M.ext (q1.n1 q2);replace D:=D.ext q2;have hC:Fr (z0u (slv s.fd)) w2 w2:=Fr.refl _ _;have a4:=Z;have a0:=J;have O:=M;have I:=D;refine z0e 0 h U λa h=>z0e 1 h U λa h=>z0l 2 h U λa h=>z0c 3 h U y5n U λa h=>z0j 4 h U (λ_ hw=>a0.fr hw (λk_=>Own.neB O a0 dd k_)) U k0v U λa h=>z0e 5 h U λa h=>z0e 6 h U λa h=>z0v 7 h U (λ_ hw=>I.fr hw (λk_=>Own.neB O I dd k_)) z2y U λa h=>z2z (cs:=[_,_,_,_]) 8 h (z0a U (z0a U (z0a U z0f))) bo75 (z0g U (z0g U (z0g U z0s))) U U λa h=>z0d 9 U ?_;refine z2s ([⟨op,kd,i⟩]) h (z0a U z0f) U k0k λa2 w3 hg a6 q3 hz a h=>?_;have c0.gw_17:ka.gw<a2:=by have:=J.lt;omega
 have a7:g7<a2:=by have:=D.lt;omega
 have z3:=q3.size;replace Z:=Z.ext q3;replace J:=J.ext q3;replace M:=M.ext q3;replace D:=D.ext q3;replace hC:=hC.next q3;refine z0b (z0d 10 U ?_);have a1:=M;refine z5m h U U M a6.sl k0k U λc9 w4 M q4 b4 a h=>?_;have b5:=q4;obtain⟨a8,a9,rfl,b6⟩:=M.sl.form;have z4:=q4.size;replace J:=J.fr q4 (λa3=>a1.neB J dd a3);replace D:=D.fr q4 (λa3=>a1.neB D dd a3);replace hC:=hC.step q4 (λk J _=>J);refine z0b (z0l 11 h U λa h=>z0c 12 h U y5n U λa h=>z0d 13 U (z5r h U U J U U U sz68 λw5 a5 hq _hz a h=>?_));have b3:=Z.add τwk (u:=(a8,(fd++[(⟨op,kd,i⟩:Hz)]).length,a9)) M b5 a5 hq;clear a5 hq;refine z1m (z0p ?_);clear hC a4 a0 O I;exact bk (h.sub (L':=[]) .nil) (r0n results63  ⟨_,rfl,rfl,_,b3⟩)
theorem z9h:z0y prog 143 3 6:=λ_ _=>kr
theorem x5m (wS:World)(ka:WA)(s:WtQ)(v:Vw)(Us:LId->Option Value)(fd:List Hz)(b:Int)(n:Nat)(vl:Value)(l:List LId)(w0:World)(I:WkM τw wS ka w0 s v Us fd)(hs:Sl z1f w0 vl l)(hv:BdOk s.q.p)(hn:z2v b (n:Int)=0)(b0:l.length<=4)(b3:∀i∈l,z5d i)(hd:∀i,s.q.p.flat.count i+l.count i<=(s.q.p.at b (n:Int)).count i+1):Rets prog 120 #[.pointer (some ⟨ka.gw,0,none⟩),.agg #[.int .u8 b,.int .i64 (n:Int)],vl] w0 λr w'=>r=.tuple #[]/\∃q':BdQ,WkM τw wS ka w' { s with q:=q' } v Us fd/\q'.p=s.q.p.put b (n:Int) l:=by
 have c1:=I.fr.size;have M:=I.k;have b9:=M.lt;obtain⟨A,c,rfl,b7⟩:=id hs.form;refine we [(0,.pointer (some ⟨ka.gw,0,none⟩)),(1,.agg #[.int .u8 b,.int .i64 (n:Int)]),(2,.slice A l.length c)] func120 U ntmps120 U (.c3 U U U) ?_;have a5:=I;have b5:=hs;refine sr (bx U (λg4 w1 b8 J q1 z1=>(nn (sq ?_))));replace I:=a5.ext q1;replace hs:=b5.ext q1;intro a h;refine z0h none (λwb w'=>Fr [] wb w') z2m ?_;intro w2 q2;have z2:=q2.size;replace I:=I.ext q2;replace M:=M.ext (q1.n1 q2);replace hs:=hs.ext q2;replace J:=J.ext q2;have hC:Fr [] w2 w2:=Fr.refl _ _;have a3:=I;have a2:=M;have a4:=hs;have a0:=J;refine z0e 0 h U λa h=>z0l 1 h U λa h=>z0c 2 h U z9h U λa h=>z1a (vs:=[_,_]) 3 h U (λ_ hw=>(a2.ext hw)) z4w U U λa h=>z0v 4 h U (λ_ hw=>a0.ext hw) z4k U λa h=>z0e 5 h U λa h=>z1x 6 10 kr U ?_ ?_;refine z0o h (z0a U (z0a U (z0a U z0f))) x5z (y4y s.q b n _ l _ I.b.at hs hv hn b0 b3 hd) ?_;rintro _ w3 ⟨⟨q',rfl,Z,a9⟩,q3⟩ a h;have z3:=q3.size;replace M:=M.ext q3;replace J:=J.ext q3;replace hC:=hC.next q3;refine z0b (z0e 7 h U λa h=>z0m 8 h U λa h=>z0m 9 h U λa h=>z0d 10 U (z0w h x2v U λw4 D q4 hz a h=>?_));obtain⟨O,hg⟩:∃g,g=w3.heap.size:=⟨_,rfl⟩;rw[<-hg]at D h hz;have b4.gw_6:ka.gw<O:=by have:=M.lt;omega
 have a8:g4<O:=by have:=J.lt;omega
 have z4:=q4.size;replace I:=I.ext (q3.n1 q4);replace M:=M.ext q4;replace hs:=hs.ext (q3.n1 q4);replace J:=J.ext q4;first|replace Z:=BdO.ext Z q4|replace Z:=BdO.tf Z q4 (OffT.one D dd) (OffT.one D dd)
 replace hC:=hC.next q4;refine z0b (z0d 11 U (z0t h U D U y6h λw5 a1 q5 hz a h=>?_));have z5:=q5.size;replace M:=M.fr q5;replace J:=J.fr q5;first|replace Z:=BdO.ext Z q5|replace Z:=BdO.tf Z q5 (OffT.one D dd) (OffT.one D dd)
 replace hC:=hC.sp q5;clear D hz;have D:Blk w5 O _ [_,_]:=a1;clear a1;refine z0b (z0d 12 U (z0r h U λa h=>?_));refine z0b (z0p ?_);clear hC a3 a2 a4 a0;refine bk (h.sub (L':=[(0,_),(6,_),(7,_)]) (.c3 U U U)) (tn (sr (mv U U (eq' U (nn (cd U (λc0=>?_) (λc0=>?_)))))));refine rg (mv U U (z0n U D z4w (nlc U (fad U z9h ?_))));replace I:=a5.ext (q1.z4 q2 q3 q4 q5);refine z3m (cs':=wtL { s with q:=q' }) U I.k (by intro u hu;simp at hu;rcases hu with rfl|rfl<;>rfl) y6h U (λw6 a7 q6 z6=>?_);have a6:=I.put τwk (s':={ s with q:=q' }) a7 q6 (Z.low oo) I.va I.vm U U U I.c6 I.m6 I.ol;exact kpL [] .nil (nl (r0n results120  ⟨_,rfl,rfl,q',a6,a9⟩));exact absurd U c0;refine z0w h x2v U λw7 D q7 hz a h=>?_;obtain⟨O,hg⟩:∃g,g=w2.heap.size:=⟨_,rfl⟩;rw[<-hg]at D h hz;have b4.gw_6:ka.gw<O:=by have:=M.lt;omega
 have a8:g4<O:=by have:=J.lt;omega
 have z7:=q7.size;replace I:=I.ext q7;replace hs:=hs.ext q7;replace hC:=hC.next q7;refine z0b (z0d 6 U (z0o h (z0a U (z0a U (z0a U z0f))) x5z (y4y s.q b n _ l _ I.b.at hs hv hn b0 b3 hd) ?_));rintro _ w8 ⟨⟨q',rfl,Z,a9⟩,q8⟩ a h;have z8:=q8.size;replace I:=I.ext q8;replace M:=M.ext (q7.n1 q8);replace hs:=hs.ext q8;replace J:=J.ext (q7.n1 q8);replace D:=D.ext q8;replace hC:=hC.next q8;refine z0b (z0e 7 h U λa h=>z0m 8 h U λa h=>z0m 9 h U λa h=>z0d 11 U (z0t h U D U y6h λw9 a1 q9 hz a h=>?_));have z9:=q9.size;replace M:=M.fr q9;replace J:=J.fr q9;first|replace Z:=BdO.ext Z q9|replace Z:=BdO.tf Z q9 (OffT.one D dd) (OffT.one D dd)
 replace hC:=hC.sp q9;clear D hz;have D:Blk w9 O _ [_,_]:=a1;clear a1;refine z0b (z0d 12 U (z0r h U λa h=>?_));refine z0b (z0p ?_);clear hC a3 a2 a4 a0;refine bk (h.sub (L':=[(0,_),(6,_),(7,_)]) (.c3 U U U)) (tn (sr (mv U U (eq' U (nn (cd U (λc0=>?_) (λc0=>?_)))))));refine rg (mv U U (z0n U D z4w (nlc U (fad U z9h ?_))));replace I:=a5.ext (q1.z4 q2 q7 q8 q9);refine z3m (cs':=wtL { s with q:=q' }) U I.k (by intro u hu;simp at hu;rcases hu with rfl|rfl<;>rfl) y6h U (λc9 a7 b6 d0=>?_);have a6:=I.put τwk (s':={ s with q:=q' }) a7 b6 (Z.low oo) I.va I.vm U U U I.c6 I.m6 I.ol;exact kpL [] .nil (nl (r0n results120  ⟨_,rfl,rfl,q',a6,a9⟩));exact absurd U c0
theorem j6h:CallOf prog 63:=mkC func63
theorem y9a:z0y prog 143 2 5:=λ_ _=>kr
theorem x5j:z0y prog 143 4 8:=λ_ _=>kr
theorem v6n:z0y prog 143 5 14:=λ_ _=>kr
theorem v0r (wS:World)(ka:WA)(s:WtQ)(v:Vw)(Us:LId->Option Value)(fd:List Hz)(op:Int)(o:MOp)(j:Nat)(w0:World)(D:WkM τw wS ka w0 s v Us fd)(hj:o.y=(j:Int)+1)(d9:j<6)(hn:z2v o.b o.p=0)(hr:-4<=s.rk/\s.rk<=4)(hfl:fd.length<=100000000)(h6:s.fb.ts.length=6)(d0:z3r (z1r s.fb.ts) (⟨o.y,(s.ct.getD j 0)⟩:LId))(d5:0<=(s.ct.getD j 0)/\(s.ct.getD j 0)<=1000000)(e1:-1000<=(s.md.getD j 0)/\(s.md.getD j 0)<=1000):Rets prog 121 #[.pointer (some ⟨ka.gw,0,none⟩),.int .i64 op,opV o] w0 λr w'=>r=.agg #[.int .u8 o.y,.int .i64 (s.ct.getD j 0)]/\∃u:SV,WkM τw wS ka w' { s with ct:=s.ct.set j ((s.ct.getD j 0)+1),md:=s.md.set j (z8p o.b o.p s.rk),fd:=u } v Us (fd++(if nwT (z1r s.fb.ts) (⟨o.y,(s.ct.getD j 0)⟩:LId)=false/\6<apt (z8p o.b o.p s.rk) (s.md.getD j 0) then [⟨op,1,(⟨o.y,(s.ct.getD j 0)⟩:LId)⟩] else [])):=by
 have e5:=D.fr.size;have O:=D.k;have e0:=O.lt;have e3:=z2o hn;have e4:=x0y o.b o.p s.rk;have a9:=D;refine we [(0,.pointer (some ⟨ka.gw,0,none⟩)),(1,.int .i64 op),(2,opV o)] func121 U ntmps121 U (.c3 U U U) ?_;have a1:=D;refine sr (bx U (λg5 w1 d6 M q1 z1=>(al y0n U (λg6 w2 d7 J q2 z2=>(nn (sr (fad U z3i ?_)))))));replace M:=M.ext q2;refine z0i U M U na5 (z2p U (wi8 oo) (asg U (nn (sq ?_))));replace D:=a1.ext (q1.n1 q2);intro a h;refine z0h none (λwb w'=>Fr [] wb w') z2m ?_;intro w3 q3;have z3:=q3.size;replace D:=D.ext q3;replace O:=O.ext (q1.n2 q2 q3);replace M:=M.ext q3;have hC:Fr [] w3 w3:=Fr.refl _ _;have a5:=D;have Z:=O;have a0:=M;refine z0c 0 h U z3i U λa h=>z0j 1 h U (λ_ hw=>a0.ext hw) U na5 U λa h=>z0e 2 h U λa h=>z0e 3 h U λa h=>z0l 4 h U λa h=>z0c 5 h U x5j U λa h=>x5h (o1:=8) (p:=j) 6 hC h wn U U underlying136 sz3 U U λa h=>z0j 7 h U (λ_ hw=>Z.ext hw) (show (wtL s)[8+j]?=some (.int .i64 (s.ct.getD j 0)) from j7c (s:=s) oo) na3 U λa h=>z2z (cs:=[_,_]) 8 h (z0a U (z0a U z0f)) j8c (z0g U (z0g U z0s)) U U λa h=>z0d 9 U ?_;refine z0w h y0n U λw4 I q4 hz a h=>?_;obtain⟨a7,hg⟩:∃g,g=w3.heap.size:=⟨_,rfl⟩;rw[<-hg]at I h hz;have e2.gw_8:ka.gw<a7:=by have:=O.lt;omega
 have d1:g5<a7:=by have:=M.lt;omega
 have z4:=q4.size;replace D:=D.ext q4;replace O:=O.ext q4;replace M:=M.ext q4;replace hC:=hC.next q4;refine z0b (z0d 10 U (z0t h U I U y0c λw5 b8 q5 hz a h=>?_));have z5:=q5.size;replace O:=O.fr q5;replace M:=M.fr q5;replace hC:=hC.sp q5;clear I hz;have I:Blk w5 a7 _ [_,_]:=b8;clear b8;refine z0b (z0p ?_);clear hC a5 Z a0;refine bk (h.sub (L':=[(0,_),(1,_),(5,_),(6,_),(7,_),(8,_)]) (.c6 U U U U U U)) (tn (sq ?_));intro a h;refine z0h none (λwb w'=>Fr [] wb w') z2m ?_;intro w6 q6;have z6:=q6.size;replace O:=O.ext q6;replace M:=M.ext q6;have hC:Fr [] w6 w6:=Fr.refl _ _;have Z:=O;have a0:=M;refine z0c 0 h U z3h U λa h=>z1a (vs:=[_,_]) 1 h U (λ_ hw=>(a0.ext hw)) z4k U U λa h=>z0e 2 h U λa h=>z0l 3 h U λa h=>z0c 4 h U y9a U λa h=>z0j 5 h U (λ_ hw=>Z.ext hw) U na3 U λa h=>z0d 6 U (z0o h (z0a U (z0a U z0f)) (mkC func166) (v6c _ _ _ _ (by assumption) oo) ?_);rintro _ w7 ⟨rfl,q7⟩ a h;have z7:=q7.size;replace O:=O.ext q7;replace M:=M.ext q7;replace hC:=hC.next q7;refine z0b (z0d 7 U (z0r h U λa h=>?_));refine z0b (z0p ?_);clear hC Z a0;refine bk (h.sub (L':=[(0,_),(1,_),(6,_),(7,_),(8,_),(9,_)]) (.c6 U U U U U U)) (tn (jn (ι:=SV) [(0,_),(6,_),(7,_),(8,_),(9,_)] (λp=>[]) (λp w'=>WkM τw wS ka w' { s with fd:=p } v Us (fd++(if nwT (z1r s.fb.ts) (⟨o.y,(s.ct.getD j 0)⟩:LId)=false/\6<apt (z8p o.b o.p s.rk) (s.md.getD j 0) then [⟨op,1,(⟨o.y,(s.ct.getD j 0)⟩:LId)⟩] else []))/\Blk w' a7 73 [.int .u8 o.y,.int .i64 (s.ct.getD j 0)]/\Blk w' g6 73 [.int .u8 0,.int .i64 0]) (.c5 U U U U U) ?_ ?_));refine jn (ι:=Unit) [(0,_),(1,_),(6,_),(7,_),(8,_),(9,_)] (λ_j=>[(43,.bool (decide (nwT (z1r s.fb.ts) (⟨o.y,(s.ct.getD j 0)⟩:LId)=false/\6<apt (z8p o.b o.p s.rk) (s.md.getD j 0))))]) (λ_j w'=>Fr [] w7 w') (.c6 U U U U U U) ?_ ?_;refine rg (mv U U ?_);replace I:=I.ext (q6.n1 q7);refine z0n U I z2y ?_;replace D:=a1.ext (q1.z6 q2 q3 q4 q5 q6 q7);refine cl (ev2 U) (mkC func125) (v5l ka.gw s (⟨o.y,(s.ct.getD j 0)⟩:LId) _ O D.fb h6 d0) U ?_;rintro _ w8 ⟨rfl,q8⟩;have z8:=q8.size;refine nt' U (mv U U (gs 33 U (λg0=>?_) (λg0=>?_)));refine gY U (mv U U (gY U (mv U U (gY U (mv U U (gY U (nlc U (gY U (fad U v6n (gY U (u6n (o1:=14) (p:=j) U U underlying136 sz3 oo oo oo U (gY U ?_))))))))))));replace O:=O.ext q8;refine z0i U O (show (wtL s)[14+j]?=some (.int .i64 (s.md.getD j 0)) from k2n (s:=s) oo) na3 (gY U (cl (ev2 U) (mkC func167) (v7a _ _ _ oo oo) U ?_));rintro _ w9 ⟨rfl,q9⟩;have z9:=q9.size;refine gY U (gt' U (pkt U (kpL [(0,_),(1,_),(6,_),(7,_),(8,_),(9,_),(43,_)] (.c7 U U U U U U U) (nl ?_))));exact jE (()) (.c7 U U U U U U (congrArg (λb=>some (Value.bool b)) (by first|exact decide_eq_decide.2 ⟨λe=>⟨by simpa using g0,e⟩,λe=>e.2⟩|exact(decide_eq_false (λe=>g0 (by simpa using e.1))).symm))) (q8.n1 q9);refine gN U (gN U (gN U (gN U (gN U (gN U (gN U (gN U (gN U (pkf U (kpL [(0,_),(1,_),(6,_),(7,_),(8,_),(9,_),(43,_)] (.c7 U U U U U U U) (nl ?_)))))))))));exact jE (()) (.c7 U U U U U U (congrArg (λb=>some (Value.bool b)) (by first|exact decide_eq_decide.2 ⟨λe=>⟨by simpa using g0,e⟩,λe=>e.2⟩|exact(decide_eq_false (λe=>g0 (by simpa using e.1))).symm))) q8;rintro _j d4 a2;have f1:=a2.size;refine kpC [(0,_),(1,_),(6,_),(7,_),(8,_),(9,_),(43,_)] (.c7 U U U U U U U) (cd U (λc0=>?_) (λc0=>?_));refine rg (mv U U (mv U U ?_));replace I:=I.ext (q6.n2 q7 a2);refine z0n U I z2y ?_;replace D:=a1.ext ((q1.z6 q2 q3 q4 q5 q6 q7).n1 a2);replace J:=((J.ext (q3.n1 q4)).fr q5).ext (q6.n2 q7 a2);replace M:=M.ext a2;have b6:=D.kp;refine cl (z0a U (z0a U (z0a U (z0a U z0f)))) j6h (y6d wS { ka with wk:=d4 } s v Us fd op 1 (⟨o.y,(s.ct.getD j 0)⟩:LId) _ D.mark hfl) U ?_;rintro _ e6 ⟨rfl,u,b0⟩;have a4:=b0.kp;simp only at a4;have f2:=a4.size;replace I:=D.kpB a4 I dd dd;replace J:=D.kpB a4 J dd dd;replace M:=D.kpB a4 M dd dd;replace D:=b0.unmark b6;clear b6 b0;have a1:=D;have O:=D.k;exact kpL [(0,_),(6,_),(7,_),(8,_),(9,_)] (.c5 U U U U U) (nl (jE (_) (.c5 U U U U U) ⟨by rw[if_pos c0];exact D,I,J⟩));refine sk ?_;replace D:=a1.ext ((q1.z6 q2 q3 q4 q5 q6 q7).n1 a2);replace I:=I.ext (q6.n2 q7 a2);replace J:=((J.ext (q3.n1 q4)).fr q5).ext (q6.n2 q7 a2);exact jE (_) (.c5 U U U U U) ⟨by rw[if_neg c0,List.append_nil];exact D,I,J⟩;rintro u e7 ⟨D,I,J⟩;have a1:=D;have c9:=I.lt;have c1:=J.lt;refine kpC [(0,_),(6,_),(7,_),(8,_),(9,_)] (.c5 U U U U U) ?_;have O:=D.k;refine sq ?_;intro a h;refine z0h (some 10) (λwb w'=>Fr [] wb w') z2m ?_;intro b9 a6;have f3:=a6.size;replace D:=D.ext a6;replace I:=I.ext a6;replace J:=J.ext a6;replace O:=O.ext a6;have hC:Fr [] b9 b9:=Fr.refl _ _;have a5:=D;have b4:=I;have b3:=J;have Z:=O;refine z0e 0 h U λa h=>z0e 1 h U λa h=>z0l 2 h U λa h=>z0c 3 h U x5j U λa h=>x5h (o1:=8) (p:=j) 4 hC h wn U U underlying136 sz3 U U λa h=>z0j 5 h U (λ_ hw=>Z.ext hw) (show (wtL { s with fd:=u })[8+j]?=some (.int .i64 (s.ct.getD j 0)) from j7c (s:={ s with fd:=u }) oo) na3 U λa h=>z4m 6 h U (by first|exact i6 oo|rfl) U λa h=>z0l 7 h U λa h=>z0c 8 h U x5j U λa h=>x5h (o1:=8) (p:=j) 9 hC h wn U U underlying136 sz3 U U λa h=>z0d 10 U (z5r h U U O (by rw[Nat.blt_eq];simp only[List.length_cons,List.length_nil];omega) U U sz3 λe8 a3 a8 _hz a h=>?_);rw[u1t (s:={ s with fd:=u }) (by have x6:=D.c6;have y6:=D.m6;(try simp only[List.length_set]at x6 y6);(try simp only[List.length_set]);first|exact x6|exact y6) oo]at a3;replace D:=D.put τwk (s':={ s with ct:=s.ct.set j ((s.ct.getD j 0)+1),fd:=u }) a3 a8 D.b D.va D.vm U U U (by have x6:=D.c6;have y6:=D.m6;(try simp only[List.length_set]at x6 y6);(try simp only[List.length_set]);first|exact x6|exact y6) (by have x6:=D.c6;have y6:=D.m6;(try simp only[List.length_set]at x6 y6);(try simp only[List.length_set]);first|exact x6|exact y6) D.ol;have f4:=a8.size;replace I:=I.fr a8;replace J:=J.fr a8;clear _hz;have a1:=D;replace O:=D.k;clear a3;refine z1m (z0p ?_);clear hC a5 b4 b3 Z;refine bk (h.sub (L':=[(0,_),(6,_),(7,_),(8,_),(9,_)]) (.c5 U U U U U)) (tn (sr (mv U U (mv U U (mv U U (nlc U (fad U v6n (u6n (o1:=14) (p:=j) U U underlying136 sz3 oo oo oo U (z3p U O U sz3 (λe9 a3 b5 f5=>?_) (ho:=(by rw[Nat.blt_eq];simp only[List.length_cons,List.length_nil];omega)))))))))));rw[u4s (s:={ s with ct:=s.ct.set j ((s.ct.getD j 0)+1),fd:=u }) (by have x6:=D.c6;have y6:=D.m6;(try simp only[List.length_set]at x6 y6);(try simp only[List.length_set]);first|exact x6|exact y6) oo]at a3;replace D:=D.put τwk (s':={ s with ct:=s.ct.set j ((s.ct.getD j 0)+1),md:=s.md.set j (z8p o.b o.p s.rk),fd:=u }) a3 b5 D.b D.va D.vm U U U (by have x6:=D.c6;have y6:=D.m6;(try simp only[List.length_set]at x6 y6);(try simp only[List.length_set]);first|exact x6|exact y6) (by have x6:=D.c6;have y6:=D.m6;(try simp only[List.length_set]at x6 y6);(try simp only[List.length_set]);first|exact x6|exact y6) D.ol;have a1:=D;replace O:=D.k;clear a3;refine kpL [(6,_),(8,_)] (.c2 U U) (nn (sr ?_));replace I:=I.fr b5;refine z0n U I z2y ?_;replace J:=J.fr b5;refine z0k (vs:=[_,_]) U J y0c (λf0 b7 d3 f6=>?_);replace D:=D.off τwk a9 U a9.kp.size d3 (λk O=>⟨by simp at O;omega,by simp at O;subst O;exact⟨_,J⟩⟩);have a1:=D;replace J:=b7;exact nn (rt (rC results121 U J z2y  ⟨_,rfl,rfl,_,D⟩))
theorem v8e:z0y prog 143 1 4:=λ_ _=>kr
theorem j6v (wS:World)(ka:WA)(s:WtQ)(v:Vw)(Us:LId->Option Value)(fd:List Hz)(op:Int)(o:MOp)(p q:MSt)(Ul:List LId)(w0:World)(I:WkM τw wS ka w0 s v Us fd)(hp:MInv p)(h8:MInv q)(he:doM p o=.ok q)(l0:¬v2h o)(hB:s.q.p=p.B)(hr:s.rk=p.rk)(hc:s.ct=ctL p)(j2:∀j,j<6->-1000<=s.md.getD j 0/\s.md.getD j 0<=1000)(h6:s.fb.ts.length=6)(j0:y2j o->z3r (z1r s.fb.ts) (x4t p o))(hU:Us=z6l Ul)(hfl:fd.length<=90000000):Rets prog 61 #[.pointer (some ⟨ka.gw,0,none⟩),.int .i64 op,opV o] w0 λr w'=>r=.tuple #[]/\∃s':WtQ,WkM τw wS ka w' s' v Us (doH (z1r s.fb.ts) Ul op o p ⟨s.md,v,fd⟩).fd/\(s'.q.p=q.B/\s'.rk=q.rk/\s'.ct=ctL q/\s'.md=(doH (z1r s.fb.ts) Ul op o p ⟨s.md,v,fd⟩).md/\s'.fb=s.fb):=by
 have o7:=I.fr.size;have Z:=I.k;have o3:=Z.lt;have i9:=y7x he;have d6:=z3j i9.1;have o0:=k1v i9.1;have hv:BdOk s.q.p:=by rw[hB];exact hp.B
 obtain⟨⟨hf,hb⟩,h4,k6⟩:=z3w hv;have f4:=hp.rk;rw[<-hr]at f4;have n9:(s.q.p.atC o.b o.p).length<=4:=by
  unfold Bd.atC;split;exact y0l hv _ _;simp
 have g1:=I;refine we [(0,.pointer (some ⟨ka.gw,0,none⟩)),(1,.int .i64 op),(2,opV o)] func61 U ntmps61 U (.c3 U U U) ?_;have c9:=I;refine sr (bx U (λg5 w1 o1 D q1 z1=>(nn (sq ?_))));replace I:=c9.ext q1;intro a h;refine z0h none (λwb w'=>Fr [] wb w') z2m ?_;intro w2 q2;have z2:=q2.size;replace I:=I.ext q2;replace Z:=Z.ext (q1.n1 q2);replace D:=D.ext q2;have hC:Fr [] w2 w2:=Fr.refl _ _;have a0:=I;have a1:=Z;have J:=D;refine z0e 0 h U λa h=>z0l 1 h U λa h=>z0c 2 h U z9h U λa h=>z1a (vs:=[_,_]) 3 h U (λ_ hw=>(a1.ext hw)) z4w U U λa h=>z0c 4 h U z3h U λa h=>z1a (vs:=[_,_]) 5 h U (λ_ hw=>(J.ext hw)) z4k U U λa h=>z0d 6 U (z0o h (z0a U (z0a U z0f)) u6f (x2k s.q o.b o.p _ I.b.at oo hf hb h4 k6) ?_);rintro _ w3 ⟨O,hq⟩ a h;have z3:=hq.size;replace I:=I.ext hq;replace Z:=Z.ext hq;replace D:=D.ext hq;replace hC:=hC.next hq;have q3:=hq;obtain⟨k4,k5,rfl,m6⟩:=O.sl.form;refine z0b (z0d 7 U (z0r h U λa h=>?_));refine z0b (z0p ?_);clear hC a0 a1 J;refine bk (h.sub (L':=[(0,_),(1,_),(5,_),(6,_)]) (.c4 U U U U)) (tn (sr (fad U z6y (z0i U D U v1s (nn (bl (sr (eq' U (asg U (nn (cd U (λc0=>?_) (λc0=>?_))))))))))));refine rg (mv U U (fad U y3o (z0i U D U na3 (nlc U (fad U y9a (z3p U Z U sz3 (λw4 f2 q4 z4=>?_)))))));have a8:=I.put τwk (s':={ s with rk:=o.r }) f2 q4 I.b I.va I.vm U U U I.c6 I.m6 I.ol;refine kpL [] .nil (nl (bn' (r0n results61  ?_)));obtain⟨e1,e2,e3⟩:=j1q hp.rk he c0;exact⟨_,rfl,rfl,_,by rw[y8c (by unfold y2j;omega) oo];exact a8,by rw[y8c (by unfold y2j;omega) oo];exact⟨hB.trans e2.symm,e1.symm,hc.trans e3.symm,rfl,rfl⟩⟩;refine sr (eq' U (asg U (nn (cd U (λc1=>?_) (λc1=>?_)))));have b6:y2j o:=.inl c1;have i0:=d6.2.2.1 oo;obtain⟨j,hj⟩:∃j:Nat,o.y=(j:Int)+1:=⟨(o.y-1).toNat,oo⟩;have b5:(o.y-1).toNat=j:=by omega
 have hn:=d6.2.2.2.2.1 oo;have h3:=z2o hn;have d7:s.ct.getD j 0=(p.y o.y).ct:=by rw[hc,<-b5];exact u6j p o.y
 have g3:=u6w hp i0;rw[<-d7]at g3;obtain⟨n,a4⟩:∃n:Nat,o.p=(n:Int):=⟨o.p.toNat,oo⟩;obtain⟨g8,f3,g9,k9⟩:=j9s he b6;have b7:x4t p o=(⟨o.y,(s.ct.getD j 0)⟩:LId):=by unfold x4t;rw[d7]
 have d0:=j0 b6;rw[b7]at d0;have a7:=h8.B;rw[f3,b7,<-hB,if_pos c1,List.nil_append]at a7;intro a h;refine z0h (some 8) (λwb w'=>KpM [143,75,73] ka.gw wb w') z2m ?_;intro w5 q5;have z5:=q5.size;replace I:=I.ext q5;replace D:=D.ext q5;have hC:KpM [143,75,73] ka.gw w5 w5:=KpM.refl _ _ _;have a0:=I;have J:=D;refine z0e 0 h U λa h=>z0c 1 h U z3h U λa h=>z1a (vs:=[_,_]) 2 h U (λ_ hw=>(KpM.blk hw J oo dd)) z4k U U λa h=>z0e 3 h U λa h=>z0e 4 h U λa h=>z0v 5 h U (λ_ hw=>KpM.blk hw J oo dd) y6p U λa h=>z0d 6 U ?_;have a9:=I.kp;refine z0o h (z0a U (z0a U (z0a U z0f))) (mkC func121) (v0r wS { ka with wk:=w5 } s v Us fd op o j _ I.mark hj oo hn f4 oo h6 d0 oo (j2 j oo)) ?_;rintro _ w6 ⟨rfl,u,a5⟩ a h;have a3:=a5.kp;simp only at a3;have z6:=a3.size;replace hC:=hC.trans (a3.weak sp0);replace D:=I.kpB a3 D dd dd;replace I:=a5.unmark a9;clear a9 a5;refine z0b (z0d 7 U (z2s ([(⟨o.y,(s.ct.getD j 0)⟩:LId)]) h (z0a U z0f) U z4x λi4 w7 hg j3 q7 hz a h=>?_));have j9:g5<i4:=by have:=D.lt;omega
 have z7:=q7.size;replace I:=I.ext q7;replace hC:=hC.next q7;refine z0b (z0d 8 U (z0o h (z0a U (z0a U (z0a U z0f))) (mkC func120) (by have x:=x5m wS ka { s with ct:=s.ct.set j ((s.ct.getD j 0)+1),md:=s.md.set j (z8p o.b o.p s.rk),fd:=u } v Us _ o.b n _ [(⟨o.y,(s.ct.getD j 0)⟩:LId)] _ I j3.sl hv (by rw[<-a4];exact hn) (y6q hn a7) (u7u hn a7) (by rw[<-a4];exact x5o hn a7);rw[<-a4]at x;exact x) ?_));rintro _ w8 ⟨rfl,q',a8,b8⟩ a h;refine z1m (z0p ?_);clear hC a0 J;refine bk (h.sub (L':=[]) .nil) (bn' (r0n results61  ?_));have h5:(fd++(if nwT (z1r s.fb.ts) (⟨o.y,(s.ct.getD j 0)⟩:LId)=false/\6<apt (z8p o.b o.p s.rk) (s.md.getD j 0) then [⟨op,1,(⟨o.y,(s.ct.getD j 0)⟩:LId)⟩] else []))=fd++v1x (z1r s.fb.ts) op o p s.md:=by unfold v1x;rw[b7,<-hr,b5]
 exact⟨_,rfl,rfl,_,by rw[v0a b6];rw[h5]at a8;exact a8,by rw[v0a b6];exact⟨by rw[f3,b8,<-hB,b7];exact congrArg _ (by rw[if_pos c1];rfl),hr.trans g8.symm,by rw[g9,<-hc,<-d7,b5],by rw[b5,<-hr],rfl⟩⟩;refine sr (eq' U (asg U (nn (cd U (λc2=>?_) (λc2=>?_)))));have b6:y2j o:=.inr c2;have i0:=d6.2.2.1 oo;obtain⟨j,hj⟩:∃j:Nat,o.y=(j:Int)+1:=⟨(o.y-1).toNat,oo⟩;have b5:(o.y-1).toNat=j:=by omega
 have hn:=d6.2.2.2.2.1 oo;have h3:=z2o hn;have d7:s.ct.getD j 0=(p.y o.y).ct:=by rw[hc,<-b5];exact u6j p o.y
 have g3:=u6w hp i0;rw[<-d7]at g3;obtain⟨n,a4⟩:∃n:Nat,o.p=(n:Int):=⟨o.p.toNat,oo⟩;obtain⟨g8,f3,g9,k9⟩:=j9s he b6;have b7:x4t p o=(⟨o.y,(s.ct.getD j 0)⟩:LId):=by unfold x4t;rw[d7]
 have d0:=j0 b6;rw[b7]at d0;have a7:=h8.B;rw[f3,b7,<-hB,if_neg c1]at a7;rw[<-y1n hn]at a7;intro a h;refine z0h (some 10) (λwb w'=>KpM [143,75,73] ka.gw wb w') z2m ?_;intro w9 q9;have z9:=q9.size;replace I:=I.ext q9;replace D:=D.ext q9;replace O:=O.ext q9;have hC:KpM [143,75,73] ka.gw w9 w9:=KpM.refl _ _ _;have a0:=I;have J:=D;have h7:=O;refine z0e 0 h U λa h=>z0c 1 h U z3h U λa h=>z1a (vs:=[_,_]) 2 h U (λ_ hw=>(KpM.blk hw J oo dd)) z4k U U λa h=>z0e 3 h U λa h=>z0e 4 h U λa h=>z0e 5 h U λa h=>z0v 6 h U (λ_ hw=>KpM.blk hw J oo dd) y6p U λa h=>z0d 7 U ?_;have a9:=I.kp;refine z0o h (z0a U (z0a U (z0a U z0f))) (mkC func121) (v0r wS { ka with wk:=w9 } s v Us fd op o j _ I.mark hj oo hn f4 oo h6 d0 oo (j2 j oo)) ?_;rintro _ o9 ⟨rfl,u,a5⟩ a h;have a3:=a5.kp;simp only at a3;have r7:=a3.size;replace hC:=hC.trans (a3.weak sp0);replace D:=I.kpB a3 D dd dd;replace O:=I.kpO a3 O dd dd;replace I:=a5.unmark a9;clear a9 a5;refine z0b (z0d 8 U (z2s ([(⟨o.y,(s.ct.getD j 0)⟩:LId)]) h (z0a U z0f) U z4x λi5 p0 hg j4 g0 hz a h=>?_));have k0:g5<i5:=by have:=D.lt;omega
 have r8:=g0.size;replace I:=I.ext g0;replace O:=O.ext g0;replace hC:=hC.next g0;refine z0b (z0d 9 U ?_);have e0:=O;refine z5m h U U O j4.sl z4x U λo8 p1 O hq l1 a h=>?_;have r9:=hq.size;replace I:=I.off τwk g1 U g1.kp.size hq (λk Z=>⟨Nat.le_trans oo (e0.blk k Z).1,z4v e0 k Z⟩);replace hC:=hC.step hq (y6f e0 sp0);obtain⟨m9,n7,rfl,m7⟩:=O.sl.form;clear hq;refine z0b (z0d 10 U (z0o h (z0a U (z0a U (z0a U z0f))) (mkC func120) (by have x:=x5m wS ka { s with ct:=s.ct.set j ((s.ct.getD j 0)+1),md:=s.md.set j (z8p o.b o.p s.rk),fd:=u } v Us _ o.b n _ ((s.q.p.atC o.b o.p)++[(⟨o.y,(s.ct.getD j 0)⟩:LId)]) _ I O.sl hv (by rw[<-a4];exact hn) (y6q hn a7) (u7u hn a7) (by rw[<-a4];exact x5o hn a7);rw[<-a4]at x;exact x) ?_));rintro _ p2 ⟨rfl,q',a8,b8⟩ a h;refine z1m (z0p ?_);clear hC a0 J h7;refine bk (h.sub (L':=[]) .nil) (bn' (r0n results61  ?_));have h5:(fd++(if nwT (z1r s.fb.ts) (⟨o.y,(s.ct.getD j 0)⟩:LId)=false/\6<apt (z8p o.b o.p s.rk) (s.md.getD j 0) then [⟨op,1,(⟨o.y,(s.ct.getD j 0)⟩:LId)⟩] else []))=fd++v1x (z1r s.fb.ts) op o p s.md:=by unfold v1x;rw[b7,<-hr,b5]
 exact⟨_,rfl,rfl,_,by rw[v0a b6];rw[h5]at a8;exact a8,by rw[v0a b6];exact⟨by rw[f3,b8,<-hB,b7];exact congrArg _ (by rw[if_neg c1,y1n hn]),hr.trans g8.symm,by rw[g9,<-hc,<-d7,b5],by rw[b5,<-hr],rfl⟩⟩;refine sr (eq' U (asg U (nn (cd U (λc3=>?_) (λc3=>?_)))));have hn:=d6.2.2.2.2.1 oo;have h3:=z2o hn;obtain⟨j6,j7,h9,e7,l2,j8⟩:=j3t he c3;rw[<-hB]at h9;rw[<-hB,<-hr]at l2;rw[<-hr]at e7;have o5:=z2o e7;obtain⟨n,a4⟩:∃n:Nat,o.p=(n:Int):=⟨o.p.toNat,oo⟩;obtain⟨m,f9⟩:∃m:Nat,z6r o.b o.p s.rk=(m:Int):=⟨(z6r o.b o.p s.rk).toNat,oo⟩;refine jn (ι:=Nat) [(0,_),(5,_)] (λz_=>[(7,.pointer (some ⟨z_,0,none⟩))]) (λz_ w'=>Fr [] w3 w'/\w3.heap.size<=z_/\Blk w' z_ 45 [.int .u8 (1-o.b),.int .i64 (z6r o.b o.p s.rk)]) (.c2 U U) ?_ ?_;intro a h;refine z0h none (λwb w'=>Fr [] wb w') z2m ?_;intro i1 e8;have s2:=e8.size;replace I:=I.ext e8;replace Z:=Z.ext e8;replace D:=D.ext e8;have hC:Fr [] i1 i1:=Fr.refl _ _;have a0:=I;have a1:=Z;have J:=D;refine z0c 0 h U z3h U λa h=>z1a (vs:=[_,_]) 1 h U (λ_ hw=>(J.ext hw)) z4k U U λa h=>z0e 2 h U λa h=>z0l 3 h U λa h=>z0c 4 h U y9a U λa h=>z0j 5 h U (λ_ hw=>a1.ext hw) U na3 U λa h=>z1x 6 10 kr U ?_ ?_;refine z0o h (z0a U (z0a U z0f)) (mkC func122) (x0c o.b o.p s.rk _ hn f4) ?_;rintro _ l5 ⟨⟨bn,pn,rfl,a6⟩,q15⟩ a h;have s3:=q15.size;replace Z:=Z.ext q15;replace D:=D.ext q15;replace hC:=hC.next q15;obtain⟨rfl,rfl⟩:=a6 e7;refine z0b (z0e 7 h U λa h=>z0m 8 h U λa h=>z0m 9 h U λa h=>z0d 10 U (z0w h v1n U λp3 M f5 hz a h=>?_));obtain⟨b3,hg⟩:∃g,g=l5.heap.size:=⟨_,rfl⟩;rw[<-hg]at M h hz;have h0.gw_7:ka.gw<b3:=by have:=Z.lt;omega
 have h2:g5<b3:=by have:=D.lt;omega
 have s4:=f5.size;replace Z:=Z.ext f5;replace D:=D.ext f5;replace hC:=hC.next f5;refine z0b (z0d 11 U (z0t h U M U y6l ?_ (h1:=(by first|(simp[Value.oneCell',S];done)|exact z1f.one _))));clear h a;intro l6 a6 f6 hz a h;have s5:=f6.size;replace Z:=Z.fr f6;replace D:=D.fr f6;replace hC:=hC.sp f6;clear M hz;have M:Blk l6 b3 _ [_,_]:=a6;clear a6;refine z0b (z0d 12 U (z0r h U λa h=>?_));refine z0b (z0p ?_);clear hC a0 a1 J;exact bk (h.sub (L':=[(0,_),(5,_),(7,_)]) (.c3 U U U)) (jE (b3) (.c3 U U U) ⟨(e8.z3 q15 f5 f6),⟨oo,M⟩⟩);refine z0w h v1n U λp4 M f7 hz a h=>?_;obtain⟨b3,hg⟩:∃g,g=i1.heap.size:=⟨_,rfl⟩;rw[<-hg]at M h hz;have h0.gw_7:ka.gw<b3:=by have:=Z.lt;omega
 have h2:g5<b3:=by have:=D.lt;omega
 have s6:=f7.size;replace hC:=hC.next f7;refine z0b (z0d 6 U (z0o h (z0a U (z0a U z0f)) (mkC func122) (x0c o.b o.p s.rk _ hn f4) ?_));rintro _ p5 ⟨⟨bn,pn,rfl,a6⟩,q19⟩ a h;have s7:=q19.size;replace Z:=Z.ext (f7.n1 q19);replace D:=D.ext (f7.n1 q19);replace M:=M.ext q19;replace hC:=hC.next q19;obtain⟨rfl,rfl⟩:=a6 e7;refine z0b (z0e 7 h U λa h=>z0m 8 h U λa h=>z0m 9 h U λa h=>z0d 11 U (z0t h U M U y6l ?_ (h1:=(by first|(simp[Value.oneCell',S];done)|exact z1f.one _))));clear h a;intro l7 a6 f8 hz a h;have s8:=f8.size;replace Z:=Z.fr f8;replace D:=D.fr f8;replace hC:=hC.sp f8;clear M hz;have M:Blk l7 b3 _ [_,_]:=a6;clear a6;refine z0b (z0d 12 U (z0r h U λa h=>?_));refine z0b (z0p ?_);clear hC a0 a1 J;exact bk (h.sub (L':=[(0,_),(5,_),(7,_)]) (.c3 U U U)) (jE (b3) (.c3 U U U) ⟨(e8.z3 f7 q19 f8),⟨oo,M⟩⟩);rintro g7 p6 ⟨e9,⟨o6,M⟩⟩;have s9:=e9.size;have k2:=M.lt;refine kpC [(0,_),(5,_),(7,.pointer (some ⟨g7,0,none⟩))] (.c3 U U U) (sq ?_);replace I:=c9.ext (q1.n3 q2 q3 e9);intro a h;refine z0h none (λwb w'=>Fr [] wb w') z2m ?_;intro i2 e4;have t8:=e4.size;replace I:=I.ext e4;replace Z:=Z.ext (e9.n1 e4);replace D:=D.ext (e9.n1 e4);replace M:=M.ext e4;have hC:Fr [] i2 i2:=Fr.refl _ _;have a0:=I;have a1:=Z;have J:=D;have d5:=M;refine z0e 0 h U λa h=>z0l 1 h U λa h=>z0c 2 h U z9h U λa h=>z1a (vs:=[_,_]) 3 h U (λ_ hw=>(a1.ext hw)) z4w U U λa h=>z0c 4 h U z3h U λa h=>z1a (vs:=[_,_]) 5 h U (λ_ hw=>(J.ext hw)) z4k U U λa h=>z0v 6 h U (λ_ hw=>d5.ext hw) z4k U λa h=>z1x 7 11 kr U ?_ ?_;refine z0o h (z0a U (z0a U (z0a U z0f))) (mkC func123) (by have x:=y9q s.q o.b n m _ I.b.at hv (by rw[<-a4];exact hn) (by rw[<-f9];exact e7) (by rw[<-a4];exact h9);rw[<-a4,<-f9]at x;exact x) ?_;rintro _ l8 ⟨⟨q',rfl,g6⟩,q23⟩ a h;have t9:=q23.size;replace Z:=Z.ext q23;replace D:=D.ext q23;replace M:=M.ext q23;replace hC:=hC.next q23;rw[if_neg oo]at h;obtain⟨hQ,b8⟩:=g6 oo;refine z0b (z0e 8 h U λa h=>z0m 9 h U λa h=>z0m 10 h U λa h=>z0d 11 U (z0w h x2v U λp7 a2 b9 hz a h=>?_));obtain⟨b4,hg⟩:∃g,g=l8.heap.size:=⟨_,rfl⟩;rw[<-hg]at a2 h hz;have h0.gw_9:ka.gw<b4:=by have:=Z.lt;omega
 have d9:g5<b4:=by have:=D.lt;omega
 have d9:g7<b4:=by have:=M.lt;omega
 have u0:=b9.size;replace I:=I.ext (q23.n1 b9);replace Z:=Z.ext b9;replace D:=D.ext b9;replace M:=M.ext b9;first|replace hQ:=BdO.ext hQ b9|replace hQ:=BdO.tf hQ b9 (OffT.one a2 dd) (OffT.one a2 dd)
 replace hC:=hC.next b9;refine z0b (z0d 12 U (z0t h U a2 U y6h ?_ (h1:=(by first|(simp[Value.oneCell',S];done)|exact z1f.one _))));clear h a;intro l9 a6 d1 hz a h;have u3:=d1.size;replace Z:=Z.fr d1;replace D:=D.fr d1;replace M:=M.fr d1;first|replace hQ:=BdO.ext hQ d1|replace hQ:=BdO.tf hQ d1 (OffT.one a2 dd) (OffT.one a2 dd)
 replace hC:=hC.sp d1;clear a2 hz;have a2:Blk l9 b4 _ [_,_]:=a6;clear a6;refine z0b (z0d 13 U (z0r h U λa h=>?_));refine z0b (z0p ?_);clear hC a0 a1 J d5;refine bk (h.sub (L':=[(0,_),(9,_),(10,_)]) (.c3 U U U)) (tn (sr (mv U U (eq' U (nn (cd U (λc4=>?_) (λc4=>?_)))))));refine rg (mv U U (z0n U a2 z4w (nlc U (fad U z9h ?_))));replace I:=c9.ext ((q1.n6 q2 q3 e9 e4 q23 b9).z1 d1);refine z3m (cs':=wtL { s with q:=q' }) U I.k (by intro u hu;simp at hu;rcases hu with rfl|rfl<;>rfl) y6h U (λp8 f2 l3 u4=>?_);have a8:=I.put τwk (s':={ s with q:=q' }) f2 l3 (hQ.low oo) I.va I.vm U U U I.c6 I.m6 I.ol;exact kpL [] .nil (nl (bn' (r0n results61  ⟨_,rfl,rfl,_,by rw[y8c (by unfold y2j;omega) oo];exact a8,by rw[y8c (by unfold y2j;omega) oo];exact⟨by rw[b8,j8,<-hB,<-hr],hr.trans j6.symm,hc.trans j7.symm,rfl,rfl⟩⟩)));exact absurd U c4;refine z0w h x2v U λp9 a2 e5 hz a h=>?_;obtain⟨b4,hg⟩:∃g,g=i2.heap.size:=⟨_,rfl⟩;rw[<-hg]at a2 h hz;have h0.gw_9:ka.gw<b4:=by have:=Z.lt;omega
 have d9:g5<b4:=by have:=D.lt;omega
 have d9:g7<b4:=by have:=M.lt;omega
 have u5:=e5.size;replace I:=I.ext e5;replace hC:=hC.next e5;refine z0b (z0d 7 U (z0o h (z0a U (z0a U (z0a U z0f))) (mkC func123) (by have x:=y9q s.q o.b n m _ I.b.at hv (by rw[<-a4];exact hn) (by rw[<-f9];exact e7) (by rw[<-a4];exact h9);rw[<-a4,<-f9]at x;exact x) ?_));rintro _ q0 ⟨⟨q',rfl,g6⟩,q28⟩ a h;have u6:=q28.size;replace I:=I.ext q28;replace Z:=Z.ext (e5.n1 q28);replace D:=D.ext (e5.n1 q28);replace M:=M.ext (e5.n1 q28);replace a2:=a2.ext q28;replace hC:=hC.next q28;rw[if_neg oo]at h;obtain⟨hQ,b8⟩:=g6 oo;refine z0b (z0e 8 h U λa h=>z0m 9 h U λa h=>z0m 10 h U λa h=>z0d 12 U (z0t h U a2 U y6h ?_ (h1:=(by first|(simp[Value.oneCell',S];done)|exact z1f.one _))));clear h a;intro m0 a6 d3 hz a h;have u7:=d3.size;replace Z:=Z.fr d3;replace D:=D.fr d3;replace M:=M.fr d3;first|replace hQ:=BdO.ext hQ d3|replace hQ:=BdO.tf hQ d3 (OffT.one a2 dd) (OffT.one a2 dd)
 replace hC:=hC.sp d3;clear a2 hz;have a2:Blk m0 b4 _ [_,_]:=a6;clear a6;refine z0b (z0d 13 U (z0r h U λa h=>?_));refine z0b (z0p ?_);clear hC a0 a1 J d5;refine bk (h.sub (L':=[(0,_),(9,_),(10,_)]) (.c3 U U U)) (tn (sr (mv U U (eq' U (nn (cd U (λc4=>?_) (λc4=>?_)))))));refine rg (mv U U (z0n U a2 z4w (nlc U (fad U z9h ?_))));replace I:=c9.ext ((q1.n6 q2 q3 e9 e4 e5 q28).z1 d3);refine z3m (cs':=wtL { s with q:=q' }) U I.k (by intro u hu;simp at hu;rcases hu with rfl|rfl<;>rfl) y6h U (λq6 f2 l4 u9=>?_);have a8:=I.put τwk (s':={ s with q:=q' }) f2 l4 (hQ.low oo) I.va I.vm U U U I.c6 I.m6 I.ol;exact kpL [] .nil (nl (bn' (r0n results61  ⟨_,rfl,rfl,_,by rw[y8c (by unfold y2j;omega) oo];exact a8,by rw[y8c (by unfold y2j;omega) oo];exact⟨by rw[b8,j8,<-hB,<-hr],hr.trans j6.symm,hc.trans j7.symm,rfl,rfl⟩⟩)));exact absurd U c4;refine sr (eq' U (asg U (nn (cd U (λc5=>?_) (λc5=>?_)))));have hn:=d6.2.2.2.2.1 oo;have h3:=z2o hn;obtain⟨k7,k8,i8⟩:=u9n he c5;obtain⟨n,a4⟩:∃n:Nat,o.p=(n:Int):=⟨o.p.toNat,oo⟩;have a7:=h8.B;rw[i8,<-hB]at a7;have j5:u8b Ul op o p=((((s.q.p.atC o.b o.p).filter λx=>decide (x∈Ul))).map λx=>(⟨op,4,x⟩:Hz)):=by unfold u8b;rw[<-hB,y1n hn]
 refine sq (sr (mv U U (lnS U underlying27 (mv U U (nn (bl (lpK (ι:=Nat) [(0,_),(1,_),(5,_),(84,_),(85,_)] (λi=>[(86,.int .i64 (i:Int))]) (λi w'=>i<=(s.q.p.atC o.b o.p).length/\∃u:SV,WkM τw wS ka w' { s with fd:=u } v Us (fd++((((s.q.p.atC o.b o.p).take i).filter λx=>decide (x∈Ul)).map λx=>(⟨op,4,x⟩:Hz)))/\Lw.Own z1f 73 w0.heap.size w' (.slice k4 (s.q.p.atC o.b o.p).length k5) (s.q.p.atC o.b o.p)/\Blk w' g5 47 [.int .u8 o.k,.int .u8 o.d,.int .u8 o.b,.int .i64 o.p,.int .u8 o.y,.int .i64 o.r]) (λi=>(s.q.p.atC o.b o.p).length-i) 0 (.c6 U U U U U U) ⟨Nat.zero_le _,⟨s.fd,by simpa using I,O.low oo,D⟩⟩ ?_)))))));rintro i m4 ⟨hi,⟨u,I,O,D⟩⟩;have c9:=I;have k1:=D.lt;refine kpC [(0,_),(1,_),(5,_),(84,_),(85,_),(86,_)] (.c6 U U U U U U) ?_;have Z:=I.k;have o4:(((s.q.p.atC o.b o.p).take i).filter λx=>decide (x∈Ul)).length<=4:=Nat.le_trans (List.length_filter_le _ _) (by rw[List.length_take];omega);refine sr (lt' U (nn (sq (cd U (λc6=>?_) (λc6=>?_)))));have j1:i<(s.q.p.atC o.b o.p).length:=by omega
 refine sk (tn (sq (bl (sr (z1d (id0) U O.sl U z4x z1g (λm5 i7=>?_))))));refine z1l U (i7 _ O.sl) z2y (al y0n U (λn8 q8 m8 b0 f0 v8=>?_));refine z0k (vs:=[_,_]) U b0 y0c (λr4 b0 f1 v9=>?_) (h1:=(by first|(simp[Value.oneCell',S];done)|exact z1f.one _));refine nn (sq ?_);replace I:=c9.ext (f0.z1 f1);replace Z:=(Z.ext f0).fr f1;intro a h;refine z0h none (λwb w'=>Fr [] wb w') z2m ?_;intro i3 d4;have x0:=d4.size;replace I:=I.ext d4;replace Z:=Z.ext d4;replace b0:=b0.ext d4;have hC:Fr [] i3 i3:=Fr.refl _ _;have a0:=I;have a1:=Z;have e6:=b0;refine z0e 0 h U λa h=>z0l 1 h U λa h=>z0c 2 h U v8e U λa h=>z0j 3 h U (λ_ hw=>a1.ext hw) U x6g U λa h=>z0v 4 h U (λ_ hw=>e6.ext hw) z2y U λa h=>z0d 5 U (z6j (V:=idV) (k:=(s.q.p.atC o.b o.p).getD i id0) (f:=Us) (v:=.bool (decide ((s.q.p.atC o.b o.p).getD i id0∈Ul))) h U U I.u z4a underlying135 zv4 (by rw[hU];exact x1g _ _) U λa h=>?_);refine z0b (z0p ?_);clear hC a0 a1 e6;refine bk (h.sub (L':=[(0,_),(1,_),(5,_),(12,_),(84,_),(85,_),(86,_),(95,_)]) (.c8 U U U U U U U U)) (tn (cd U (λc7=>?_) (λc7=>?_)));refine rg (mv U U (mv U U (z0n U b0 z2y ?_)));replace O:=((O.ext f0).fr f1 (by first|exact z8w O oo|simp[z0u]<;>omega)).ext d4;replace D:=((D.ext f0).fr f1).ext d4;have a9:=I.kp;refine cl (z0a U (z0a U (z0a U (z0a U z0f)))) j6h (y6d wS { ka with wk:=i3 } { s with fd:=u } v Us _ op 4 ((s.q.p.atC o.b o.p).getD i id0) _ I.mark (by simp only[List.length_append,List.length_map];omega)) U ?_;rintro _ r5 ⟨rfl,u2,a5⟩;have a3:=a5.kp;simp only at a3;have x1:=a3.size;replace O:=I.kpO a3 O dd dd;replace D:=I.kpB a3 D dd dd;replace I:=a5.unmark a9;clear a9 a5;have c9:=I;have Z:=I.k;exact kpL [(0,_),(1,_),(5,_),(84,_),(85,_),(86,_)] (.c6 U U U U U U) (nl (bn' (tn (rg (z1b U (wi6 oo) (mv U U (nl (lpE (i+1) (.c6 U U U U U U) ⟨oo,⟨u2,by rw[z1s id0 j1,z9t,if_pos (by simpa using c7),<-List.append_assoc];exact I,O,D⟩⟩ oo))))))));refine sk (bn' (tn (rg (z1b U (wi6 oo) (mv U U (nl ?_))))));replace O:=((O.ext f0).fr f1 (by first|exact z8w O oo|simp[z0u]<;>omega)).ext d4;replace D:=((D.ext f0).fr f1).ext d4;exact lpE (i+1) (.c6 U U U U U U) ⟨oo,⟨u,by rw[z1s id0 j1,z9t,if_neg (by simpa using c7),List.append_nil];exact I,O,D⟩⟩ oo;obtain rfl:i=(s.q.p.atC o.b o.p).length:=by omega
 refine ex (te (te (xh (tn (rg (mv U U (fad U z3h (z1w (vs:=[_,_]) U D z4k U ?_))))))));have a9:=I.kp;refine cl (z0a U (z0a U (z0a U z0f))) (mkC func120) (by have x:=x5m wS { ka with wk:=m4 } { s with fd:=u } v Us _ o.b n _ [] _ I.mark (Sl.nil _) hv (by rw[<-a4];exact hn) sp0 sp0 (by rw[<-a4];exact x5o hn a7);rw[<-a4]at x;exact x) U ?_;rintro _ r6 ⟨rfl,q',a5,b8⟩;have a3:=a5.kp;simp only at a3;have x2:=a3.size;replace I:=a5.unmark a9;clear a9 a5;have c9:=I;refine kpL [] .nil (nl (bn' (r0n results61  ?_)));rw[List.take_length]at I;exact⟨_,rfl,rfl,_,by rw[x9q c5];rw[<-j5]at I;exact I,by rw[x9q c5];exact⟨by rw[b8,i8,<-hB],hr.trans k7.symm,hc.trans k8.symm,rfl,rfl⟩⟩;refine sk (bn' (r0n results61  ?_));exfalso;have o2:=d6.1;unfold v2h at l0;omega
end Go.Proofs.YtjilcnmaefhmeaaGreatDoor
