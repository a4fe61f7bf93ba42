/- Texts of the proof, joined. -/
import Derived.Shelf.Strings.Builder1
import Derived.Shelf.Strings.Builder2
import Derived.Shelf.Strings.OnBuilder
import Derived.Shelf.Small.Bits
import Derived.Shelf.Strconv.Itoa0
import Derived.Shelf.Strconv.Itoa1
import Derived.Shelf.LaysM
import Derived.Shelf.Strconv.Itoa2
import Derived.Shelf.Strconv.Itoa3
import Derived.Ground.SlgnProg
import Derived.Shelf.SlicesE.Equal
import Derived.Test.YtagnnbcnnmacmaaGreatDoorProg
import Derived.Test.YtagnnbcnnmacmaaGreatDoorRows
import Derived.Lib.LaidTab
import Derived.LaidSub
import Derived.Test.YtagnnbcnnmacmaaGreatDoorCards
import Derived.Test.YtagnnbcnnmacmaaGreatDoorTie
import Derived.ChangeMaps5
import Derived.OpenShut
import Derived.Test.YtagnnbcnnmacmaaGreatDoorEA5
set_option linter.unusedVariables false
set_option linter.unusedSimpArgs false
set_option maxHeartbeats 4000000
namespace Go.Proofs
open Go.Shelf
def Tryz.lays156_ren:Go.Shelf.Ren:=⟨fun|156=>117|165=>160|166=>161|169=>162|240=>203|241=>204|276=>232|277=>233|n=>n,fun|31=>182|9=>9|3=>3|4=>4|0=>0|20=>20|72=>237|76=>240|70=>235|37=>66|75=>239|127=>295|164=>316|5=>5|80=>242|n=>n,fun|n=>n⟩
theorem Tryz.lays156:Go.Proofs.Lays.n156 Tryz.prog Tryz.lays156_ren:={
 mixed:=by kernel_rfl
 f156:=Tryz.func117.trans (congrArg some kr0)
 f165:=Tryz.func160.trans (congrArg some kr0)
 f166:=Tryz.func161.trans (congrArg some kr0)
 f169:=Tryz.func162.trans (congrArg some kr0)
 f240:=Tryz.func203.trans (congrArg some kr0)
 f241:=Tryz.func204.trans (congrArg some kr0)
 f276:=Tryz.func232.trans (congrArg some kr0)
 f277:=Tryz.func233.trans (congrArg some kr0)
 t0:=Tryz.underlying0
 a0:=Tryz.isAgg0
 z0:=Tryz.sizeOf0
 v0:=Tryz.zeroValue0
 t3:=Tryz.underlying3
 a3:=Tryz.isAgg3
 z3:=Tryz.sizeOf3
 v3:=Tryz.zeroValue3
 t4:=Tryz.underlying4
 a4:=Tryz.isAgg4
 z4:=Tryz.sizeOf4
 v4:=Tryz.zeroValue4
 t9:=Tryz.underlying9
 a9:=Tryz.isAgg9
 z9:=Tryz.sizeOf9
 v9:=Tryz.zeroValue9
 t20:=Tryz.underlying20
 a20:=Tryz.isAgg20
 z20:=Tryz.sizeOf20
 v20:=Tryz.zeroValue20
 t31:=Tryz.underlying182
 a31:=Tryz.isAgg182
 z31:=Tryz.sizeOf182
 v31:=Tryz.zeroValue182
 t37:=Tryz.underlying66
 a37:=Tryz.isAgg66
 z37:=Tryz.sizeOf66
 v37:=Tryz.zeroValue66
 t70:=Tryz.underlying235
 a70:=Tryz.isAgg235
 z70:=Tryz.sizeOf235
 v70:=Tryz.zeroValue235
 t72:=Tryz.underlying237
 a72:=Tryz.isAgg237
 z72:=Tryz.sizeOf237
 v72:=Tryz.zeroValue237
 t75:=Tryz.underlying239
 a75:=Tryz.isAgg239
 z75:=Tryz.sizeOf239
 v75:=Tryz.zeroValue239
 t76:=Tryz.underlying240
 a76:=Tryz.isAgg240
 z76:=Tryz.sizeOf240
 v76:=Tryz.zeroValue240
 t127:=Tryz.underlying295
 a127:=Tryz.isAgg295
 z127:=Tryz.sizeOf295
 v127:=Tryz.zeroValue295
 t164:=Tryz.underlying316
 a164:=Tryz.isAgg316
 z164:=Tryz.sizeOf316
 v164:=Tryz.zeroValue316 }
theorem Tryz.Builder_Extra_156:Builder.Extra Tryz.prog Tryz.lays156_ren:={
 sizeBuilder:=by kernel_rfl
 liesBuilder:=by kernel_rfl
 t5:=Tryz.underlying5
 a5:=Tryz.isAgg5
 z5:=Tryz.sizeOf5
 v5:=Tryz.zeroValue5
 infoByte:=by kernel_rfl
 cellsByte:=by kernel_rfl
 sizeByte:=by kernel_rfl
 neB5:=by decide }
open Go.RowKit in
theorem Tryz.strings_Join (bk o c:Nat)(xs:List ByteArray)(I:ByteArray)(w:World)(D:∀(j:Nat) x,xs[j]?=some x->w.cell? ⟨bk,o+j,none⟩=some (.string x))(a0:bk<w.heap.size)(hN:xs.length<=140737488355328)(O:xs.length<=c)(Z:(Lib.join (xs.map (·.data.toList)) I.data.toList).length<=140737488355328) :
 Calls Tryz.prog 117 #[.slice (some ⟨bk,o,none⟩) xs.length c,.string I] w λe w'=>e=.returned (.string ⟨(Lib.join (xs.map (·.data.toList)) I.data.toList).toArray⟩)/\Below w.heap.size w w':=Any.strings_Join Tryz.lays156 Tryz.Builder_Extra_156 bk o c xs I w D a0 hN O Z
def Tryz.laysM171_ren:Go.Shelf.Ren:=⟨fun|171=>115|243=>159|246=>202|283=>228|284=>229|285=>230|286=>231|129=>191|317=>241|318=>242|319=>243|320=>244|337=>248|338=>249|n=>n,fun|3=>3|9=>9|2=>2|4=>4|171=>312|0=>0|53=>284|37=>66|5=>5|173=>314|212=>327|51=>282|20=>20|213=>328|46=>220|232=>329|233=>330|n=>n,fun|17=>3|18=>5|19=>6|n=>n⟩
theorem Tryz.laysM171:Go.Proofs.LaysM.n171 Tryz.prog Tryz.laysM171_ren:={
 mixed:=by kernel_rfl
 f129:=Tryz.func191.trans (congrArg some kr0)
 f171:=Tryz.func115.trans (congrArg some kr0)
 f243:=Tryz.func159.trans (congrArg some kr0)
 f246:=Tryz.func202.trans (congrArg some kr0)
 f283:=Tryz.func228.trans (congrArg some kr0)
 f284:=Tryz.func229.trans (congrArg some kr0)
 f285:=Tryz.func230.trans (congrArg some kr0)
 f286:=Tryz.func231.trans (congrArg some kr0)
 f317:=Tryz.func241.trans (congrArg some kr0)
 f318:=Tryz.func242.trans (congrArg some kr0)
 f319:=Tryz.func243.trans (congrArg some kr0)
 f320:=Tryz.func244.trans (congrArg some kr0)
 f337:=Tryz.func248.trans (congrArg some kr0)
 f338:=Tryz.func249.trans (congrArg some kr0)
 t0:=Tryz.underlying0
 a0:=Tryz.isAgg0
 z0:=Tryz.sizeOf0
 v0:=Tryz.zeroValue0
 t2:=Tryz.underlying2
 a2:=Tryz.isAgg2
 z2:=Tryz.sizeOf2
 v2:=Tryz.zeroValue2
 t3:=Tryz.underlying3
 a3:=Tryz.isAgg3
 z3:=Tryz.sizeOf3
 v3:=Tryz.zeroValue3
 t4:=Tryz.underlying4
 a4:=Tryz.isAgg4
 z4:=Tryz.sizeOf4
 v4:=Tryz.zeroValue4
 t5:=Tryz.underlying5
 a5:=Tryz.isAgg5
 z5:=Tryz.sizeOf5
 v5:=Tryz.zeroValue5
 t9:=Tryz.underlying9
 a9:=Tryz.isAgg9
 z9:=Tryz.sizeOf9
 v9:=Tryz.zeroValue9
 t20:=Tryz.underlying20
 a20:=Tryz.isAgg20
 z20:=Tryz.sizeOf20
 v20:=Tryz.zeroValue20
 t37:=Tryz.underlying66
 a37:=Tryz.isAgg66
 z37:=Tryz.sizeOf66
 v37:=Tryz.zeroValue66
 t46:=Tryz.underlying220
 a46:=Tryz.isAgg220
 z46:=Tryz.sizeOf220
 v46:=Tryz.zeroValue220
 t51:=Tryz.underlying282
 a51:=Tryz.isAgg282
 z51:=Tryz.sizeOf282
 v51:=Tryz.zeroValue282
 t53:=Tryz.underlying284
 a53:=Tryz.isAgg284
 z53:=Tryz.sizeOf284
 v53:=Tryz.zeroValue284
 t171:=Tryz.underlying312
 a171:=Tryz.isAgg312
 z171:=Tryz.sizeOf312
 v171:=Tryz.zeroValue312
 t173:=Tryz.underlying314
 a173:=Tryz.isAgg314
 z173:=Tryz.sizeOf314
 v173:=Tryz.zeroValue314
 t212:=Tryz.underlying327
 a212:=Tryz.isAgg327
 z212:=Tryz.sizeOf327
 v212:=Tryz.zeroValue327
 t213:=Tryz.underlying328
 a213:=Tryz.isAgg328
 z213:=Tryz.sizeOf328
 t232:=Tryz.underlying329
 a232:=Tryz.isAgg329
 z232:=Tryz.sizeOf329
 v232:=Tryz.zeroValue329
 t233:=Tryz.underlying330
 a233:=Tryz.isAgg330
 z233:=Tryz.sizeOf330
 v233:=Tryz.zeroValue330
 g17:=by kernel_rfl
 g18:=by kernel_rfl
 g19:=by kernel_rfl
 i0:=by kernel_rfl
 i2:=by kernel_rfl
 i3:=by kernel_rfl
 i4:=by kernel_rfl
 i5:=by kernel_rfl
 i9:=by kernel_rfl
 i20:=by kernel_rfl
 i37:=by kernel_rfl
 i46:=by kernel_rfl
 i51:=by kernel_rfl
 i53:=by kernel_rfl
 i171:=by kernel_rfl
 i173:=by kernel_rfl
 i212:=by kernel_rfl
 i232:=by kernel_rfl
 i233:=by kernel_rfl
 m17:=by kernel_rfl
 m18:=by kernel_rfl
 m19:=by kernel_rfl }
open Go.RowKit Go.Sort Go.Lib in
theorem Tryz.strconv_Itoa (n:Int)(I:-9223372036854775808<=n)(h1:n<=9223372036854775807)(w:World)(D:Lib.TabIs Tryz.prog w "internal/strconv.uint64pow10" .u64 Lib.pow10Tab) :
 Calls Tryz.prog 115 #[.int .i64 n] w λe w'=>e=.returned (.string ⟨(Lib.itoa n).toArray⟩)/\∃k O,w'=grow (w.drewN k) O:=Any.strconv_Itoa Tryz.laysM171 n I h1 w D
end Go.Proofs
namespace Go.Proofs.YtagnnbcnnmacmaaGreatDoor
open Go.Lw _root_.Go.Proofs.Tryz
theorem k0e {w w':World}{D:String}{k:IntKind}{zs:List Int}{S:List Nat}(h:Lib.TabIs prog w D k zs)(hf:Fr S w w')(Z:∀g,prog.globalNamed D=some g->g∉S):Lib.TabIs prog w' D k zs:=by
 unfold Lib.TabIs World.var? at *
 cases hg:prog.globalNamed D with
 | none=>simp[hg]at h
 | some g=>
  simp only[hg,Option.bind_some]at h ⊢;have O:g<w.heap.size:=by
   rcases Nat.lt_or_ge g w.heap.size with I|I
   exact I;rw[Array.getElem?_eq_none I]at h;simp at h
  rw[hf.block g O (Z g hg)];exact h
theorem gPow:prog.globalNamed "internal/strconv.uint64pow10" =some 3:=kr0
structure Glob (w:World):Prop where
  wd:Cells w ⟨0,0,none⟩ (y4u.map S)
  dr:Cells w ⟨1,0,none⟩ (x3s.map S)
  ml:IntAt 4 w
  tab:Lib.TabIs prog w "internal/strconv.uint64pow10" .u64 Lib.pow10Tab
  sz:7<=w.heap.size
theorem Glob.fr {w w':World}{S:List Nat}(h:Glob w)(hf:Fr S w w')(O:∀k∈S,7<=k):Glob w':=by
 have D:∀g,g<7->g∉S:=λg I e=>by have:=O g e;omega
 exact⟨h.wd.fr hf (D _ dd),h.dr.fr hf (D _ dd),h.ml.fr hf (D _ dd),k0e h.tab hf (λg I=>by rw[gPow]at I;cases I;exact D _ dd),Nat.le_trans h.sz hf.size⟩
theorem Glob.ext {w w':World}(h:Glob w)(hf:Fr [] w w'):Glob w':=h.fr hf sp0
theorem j1g (w:World)(k:Nat)(l:Array Obj):Fr [] w (Sort.grow (w.drewN k) l):=
 (Fr.drewN [] w k).next ⟨rfl,rfl,rfl,by simp[Sort.grow],λk D _=>by simp only[Sort.grow];exact Array.getElem?_append_left D⟩
theorem x0w (n:Int)(w0:World)(hG:Glob w0)(h:-99<=n/\n<=99):Rets prog 115 #[.int .i64 n] w0 λv w'=>v=S (x8c n)/\Fr [] w0 w':=by
 refine Calls.mono (strconv_Itoa n oo oo w0 hG.tab) ?_;rintro e w' ⟨rfl,k,D,rfl⟩;exact⟨_,rfl,by rw[j4p h];rfl,j1g _ _ _⟩
theorem x9t (b p:Int)(w0:World)(hG:Glob w0):Rets prog 116 #[.agg #[.int .u8 b,.int .i64 p]] w0 λv w'=>v=S (u2q b p)/\Fr [] w0 w':=by
 have a0:=hG.sz;refine we [(0,.agg #[.int .u8 b,.int .i64 p])] func116 U ntmps116 U (.cons U .nil) (sr (bx U (λg1 w1 a1 D Z z1=>(asg U (nn (sq (sr (z0m U D z8c (cl (ev1 U) u5t (z5i _ _ _) U ?_)))))))));rintro _ w2 ⟨rfl,I⟩;refine ne' U (nn (cd U (λO=>?_) (λO=>?_)));refine sr (asg U (nn (rt (tr (r1 results116 U ?_)))));exact⟨_,rfl,by rw[u2q,if_pos O]<;>rfl,(Z.n1 I)⟩;have hr:=v1k.1 (Classical.not_not.1 O);refine sk (tn (sq (sr (fad U z9i ?_))));replace D:=D.ext I;refine z0i U D U v0a (eq' U (nn (cd U (λc1=>?_) (λc1=>?_))));refine sr (fad U z9j (z0i U D U na3 ?_));replace hG:=hG.ext (Z.n1 I);refine cl (ev1 U) (mkC func115) (x0w _ _ hG oo) U ?_;rintro _ w3 ⟨rfl,q3⟩;refine x5h U U (by have:=y6m p;simp;omega) U (asg U (kpL [(2,_)] (.cons U .nil) (nn (rt (tr (r1 results116 U ?_))))));exact⟨_,rfl,by rw[u2q,if_neg O,if_pos c1]<;>rfl,(Z.n2 I q3)⟩;refine sk (tn (sr (fad U z9j (z0i U D U na3 ?_))));replace hG:=hG.ext (Z.n1 I);refine cl (ev1 U) (mkC func115) (x0w _ _ hG oo) U ?_;rintro _ w4 ⟨rfl,q4⟩;refine x5h U U (by have:=y6m p;simp;omega) U (asg U (kpL [(2,_)] (.cons U .nil) (nn (rt (r1 results116 U ?_)))));exact⟨_,rfl,by rw[u2q,if_neg O,if_neg c1]<;>rfl,(Z.n2 I q4)⟩
theorem u3o (v:Value)(ys:List (List UInt8))(D:List UInt8)(base T:Nat)(w0:World)(I:Lw.Own Enc.str T base w0 v ys)(Z:ys≠[])(hl:(Lib.join ys D).length<=1000000)(a0:ys.length<=1000000):Rets prog 117 #[v,S D] w0 λr w'=>r=S (Lib.join ys D)/\Fr [] w0 w':=by
 rcases I with ⟨_,e⟩|⟨g,cap,cur,rfl,O,hg,h1,h2,h3,h4⟩
 exact absurd e Z;have hm:(ys.map (λy=>(⟨y.toArray⟩:ByteArray))).map (·.data.toList)=ys:=by rw[List.map_map];simp[Function.comp_def]
 have I:Lw.Own Enc.str T base w0 (.slice (some ⟨g,0,none⟩) ys.length cap) ys:=.inr ⟨g,cap,cur,rfl,O,hg,h1,h2,h3,h4⟩;have hj:=strings_Join g 0 cap (ys.map (λy=>(⟨y.toArray⟩:ByteArray))) ⟨D.toArray⟩ w0 (λj x hx=>by
  rw[List.getElem?_map,Option.map_eq_some_iff]at hx;obtain⟨y,hy,rfl⟩:=hx;obtain⟨A,c,e,_,_,hA⟩:=I.sl;cases e;obtain⟨ad,e1,hc⟩:=hA j y hy;cases e1;have:=hc 0 (S y) U;rw[z6o,z6o,Nat.add_zero,show Enc.str.sz=1 from U,Nat.mul_one]at this;exact this) ((Array.getElem?_eq_some_iff.1 hg).1) so so (by rw[hm];simp;omega)
 rw[hm,List.length_map]at hj;refine Calls.mono hj ?_;rintro e w' ⟨rfl,O⟩;exact⟨_,rfl,by simp[S],Fr.of_below O⟩
end Go.Proofs.YtagnnbcnnmacmaaGreatDoor
namespace Go.Lw
theorem y7f {P:Program}{W:World}{n:String}{d:DataW Unit}:∀ {l:List (String×DataW Unit)} {ps:List MemPlace},DataW.LaidVars P W l ps->(n,d)∈l->
    ∃g t cs D p,P.globalNamed n=some g/\(P.globals[g]?).map (·.type)=some t/\W.var? P n=some cs/\DataW.trod (λ_=>()) P W 0 (λ_=>true) false D t cs.toList=some (d,p)
  | [],_,_,I=>by simp at I
  | (m,e)::r,ps,h,I=>by
    obtain⟨g,t,cs,D,p,q,O,Z,e3,e4,hr,_⟩:=h
    rcases List.mem_cons.1 I with e|I
    · cases e;exact⟨g,t,cs,D,p,O,Z,e3,e4⟩
    · exact y7f hr I
theorem x3i {H:Type}{enc:TypeId×Value->H}{P:Program}{w:World}{base:Nat}{sp:Nat->Bool}{O:Bool}{D:Nat}{t e:TypeId}{n:Nat}{cs:List Value}{zs:List (List UInt8)}{p:List MemPlace}
    (ht:P.underlying t=some (.array n e)) (he:P.underlying e=some .string) (hce:P.cellsOf e=1) (hct:P.cellsOf t=n)
    (h:DataW.trod enc P w base sp O D t cs=some (.agg (zs.map λz=>.lit (.string z)),p)):cs=zs.map S:=by
  cases D with
  | zero=>simp[DataW.trod]at h
  | succ D=>
    simp only[DataW.trod,ht,hce,hct,Nat.mul_one]at h
    split at h
    · rename_i hl
      obtain⟨xs,hm,hx⟩:=Option.map_eq_some_iff.1 h
      have Z:xs.map (·.1)=zs.map λz=>(DataW.lit (.string z):DataW H):=by
        have:=congrArg Prod.fst hx
        simpa using this
      have a0:xs.length=n:=by simpa using Lib.mapM_length hm
      have a1:zs.length=n:=by
        have:=congrArg List.length Z
        simp at this
        omega
      apply List.ext_getElem?
      intro i
      by_cases hi:i<n
      · obtain⟨b,hb,hf⟩:=Lib.mapM_at hm i i (by simp[hi])
        obtain⟨s,hc,h2,_⟩:=DataW.trod_string he hf
        have h1:cs[i]?=some (.string s):=by
          have:=congrArg (·[0]?) hc
          simpa[List.getElem?_take,List.getElem?_drop] using this
        have h3:(xs.map (·.1))[i]?=some b.1:=by simp[hb]
        rw[Z,List.getElem?_map,Option.map_eq_some_iff]at h3
        obtain⟨z,hz,I⟩:=h3
        rw[h2]at I
        simp only[DataW.lit.injEq,Lit.string.injEq]at I
        rw[h1,List.getElem?_map,hz,I]
        simp[S]
      · rw[List.getElem?_eq_none oo,List.getElem?_eq_none so]
    · cases h
theorem j7d {P:Program}{W:World}{n:String}{g:Nat}{cs:Array Value}(I:P.globalNamed n=some g)(h:W.var? P n=some cs):g<W.heap.size:=by
 unfold World.var? at h;simp only[I,Option.bind_some]at h;rcases Nat.lt_or_ge g W.heap.size with D|D
 exact D;rw[Array.getElem?_eq_none D]at h;simp at h
end Go.Lw
namespace Go.Proofs.YtagnnbcnnmacmaaGreatDoor
open Go.ChangeShapes Go.WideShapes Go.ChangeAt Go.RowKit Go.Lw
theorem own:ownKnob Tryz.prog.godebug=none:=kr0
theorem j3g:laidOutB Tryz.prog=true:=kr0
def y8m:List (String×DataW Unit):=[("math/bits.deBruijn32tab",Rows.laid_math_bits_deBruijn32tab),("math/bits.deBruijn64tab",Rows.laid_math_bits_deBruijn64tab),("internal/strconv.uint64pow10",Rows.laid_internal_strconv_uint64pow10),("gansey/orders.steps",Rows.laid_gansey_orders_steps),("gansey/operations.words",Rows.laid_gansey_operations_words),("gansey/operations.dirs",Rows.laid_gansey_operations_dirs)]
theorem v5q {n:String}{zs:List (List UInt8)}{W:World}{l:List (String×DataW Unit)}{ps:List MemPlace}{g t m:Nat}(hL:DataW.LaidVars Tryz.prog W l ps)(hm:(n,.agg (zs.map λz=>.lit (.string z)))∈l)(ht:Tryz.prog.underlying t=some (.array m 9))(Z:Tryz.prog.globalNamed n=some g:=by kernel_rfl)(I:(Tryz.prog.globals[g]?).map (·.type)=some t:=by kernel_rfl)(D:Tryz.prog.cellsOf t=m:=by kernel_rfl):Cells W ⟨g,0,none⟩ (zs.map S):=by
 obtain⟨g',t',cs,O,p,e1,e2,e3,e4⟩:=y7f hL hm;cases Z.symm.trans e1;cases I.symm.trans e2;have hc:=x3i ht Tryz.underlying9 kr0 D e4;intro j u hu;rw[z6o,Nat.zero_add,World.var?_cell Z e3 j,<-Array.getElem?_toList,hc];exact hu
theorem j4d {W:World}(h:laidMetH Tryz.prog y8m W)(Z:W.ShapedOpen Tryz.prog):Glob W:=by
 have h':laidMet Tryz.prog y8m W:=h;obtain⟨ps,I,_,_⟩:=h';refine⟨?_,?_,(Go.Proofs.cell_of_shapedOpen_int (zero:=#[.int .i64 0]) (t:=3) Z (of_decide_eq_true kr0) kr0 U kr0 kr0 Tryz.underlying3),?_,?_⟩;exact v5q (zs:=y4u) (n:= "gansey/operations.words") (t:=181) (m:=9) I (by simp[y8m];rfl) Tryz.underlying181;exact v5q (zs:=x3s) (n:= "gansey/operations.dirs") (t:=183) (m:=2) I (by simp[y8m];rfl) Tryz.underlying183;obtain⟨g',t',cs,D,p,e1,e2,O,e4⟩:=y7f (n:= "internal/strconv.uint64pow10") (d:=Rows.laid_internal_strconv_uint64pow10) I (by simp[y8m]);cases gPow.symm.trans e1;cases (show (Tryz.prog.globals[3]?).map (·.type)=some 327 by kernel_rfl).symm.trans e2;unfold Lib.TabIs;rw[O];have:=Lib.cells_of_tab (zs:=Lib.pow10Tab) Tryz.underlying327 Tryz.underlying284 kr0 kr0 e4;rw[<-this];obtain⟨g',t',cs,D,p,e1,e2,O,e4⟩:=y7f (n:= "math/bits.deBruijn64tab") (d:=Rows.laid_math_bits_deBruijn64tab) I (by simp[y8m]);have:=j7d (show Tryz.prog.globalNamed "math/bits.deBruijn64tab" =some 6 by kernel_rfl) O;omega
theorem k0c {W:World}(h:laidMetH Tryz.prog y8m W):StT W:=by
 have h':laidMet Tryz.prog y8m W:=h;obtain⟨ps,hL,_,_⟩:=h';obtain⟨g',t',cs,D,p,O,Z,e3,e4⟩:=y7f (n:= "gansey/orders.steps") (d:=Rows.laid_gansey_orders_steps) hL (by simp[y8m]);have I:Tryz.prog.globalNamed "gansey/orders.steps" =some 2:=by kernel_rfl
 cases I.symm.trans O;cases (show (Tryz.prog.globals[2]?).map (·.type)=some 299 by kernel_rfl).symm.trans Z;have hc:=Lib.cells_of_tab (zs:=[-1,1]) Tryz.underlying299 Tryz.underlying3 kr0 kr0 e4;constructor;intro j u hu;rw[z6o,Nat.zero_add,World.var?_cell I e3 j,<-Array.getElem?_toList,hc];exact hu
def k0s:List (String×DataW Unit):=y8m.filter λp=>match p.2 with|.iface _ _=>false|_=>true
noncomputable def witP (os:Os):World:=k5e Tryz.prog os k0s
noncomputable def k2y (os:Os):World:=witP os
end Go.Proofs.YtagnnbcnnmacmaaGreatDoor
namespace Go.Lw
open Go.RowKit
def Enc.tri (k:IntKind):Enc (Int×Int×Int):=⟨λp=>[.int k p.1,.int k p.2.1,.int k p.2.2],3,λ_=>rfl,λ_ u h=>by simp at h;rcases h with rfl|rfl|rfl<;>rfl,dd⟩
section
variable {P:Program} {t e:TypeId}
theorem v9f {k:IntKind}(hu:P.underlying t=some (.array 3 e))(ht:P.cellsOf t=3)(he:P.cellsOf e=1)(I:P.underlying e=some (.int k)):x3k P t (Enc.tri k) (λ_ p=>(k.min<=p.1/\p.1<=k.max)/\(k.min<=p.2.1/\p.2.1<=k.max)/\(k.min<=p.2.2/\p.2.2<=k.max)):=by
 intro H enc w base sp a0 O cs x h;obtain⟨xs,m,_,_,hl,D,hf⟩:=DataW.trod_array hu h;rw[ht]at hl;match cs,hl with
 | [c0,c1,c2],_=>
  have Z:=hf 0 dd;have h1:=hf 1 dd;have h2:=hf 2 dd;rw[he]at Z h1 h2;obtain⟨y0,e0,r0⟩:=z4j (cs:=[c0]) Z D dd (y3j I);obtain⟨y1,e1,r1⟩:=z4j (cs:=[c1]) h1 D dd (y3j I);obtain⟨y2,e2,r2⟩:=z4j (cs:=[c2]) h2 D dd (y3j I);cases e0;cases e1;cases e2;exact⟨(y0,y1,y2),rfl,r0,r1,r2⟩
end
end Go.Lw
namespace Go.Proofs.YtagnnbcnnmacmaaGreatDoor
open Go.Lw
def encX:Enc ((Option Addr×Nat×Nat)×Int×Int×Int×Bool):=⟨λp=>[.slice p.1.1 p.1.2.1 p.1.2.2,.int .u8 p.2.1,.int .u8 p.2.2.1,.int .u8 p.2.2.2.1,.bool p.2.2.2.2],5,λ_=>rfl,λ_ u h=>by simp at h;rcases h with rfl|rfl|rfl|rfl|rfl<;>rfl,dd⟩
theorem j1o {cs:List Value}(h:cs.length=5):∃D I c2 c3 c4,cs=[D,I,c2,c3,c4]:=match cs,h with|[D,I,c2,c3,c4],_=>⟨D,I,c2,c3,c4,rfl⟩
theorem opX:x3k Tryz.prog 25 encX (λw s=>SlR (Enc.tri .u8) (λ_ p=>(IntKind.u8.min<=p.1/\p.1<=IntKind.u8.max)/\(IntKind.u8.min<=p.2.1/\p.2.1<=IntKind.u8.max)/\(IntKind.u8.min<=p.2.2/\p.2.2<=IntKind.u8.max)) w s.1/\(0<=s.2.1/\s.2.1<=255)/\(0<=s.2.2.1/\s.2.2.1<=255)/\(0<=s.2.2.2.1/\s.2.2.2.1<=255)):=by
 intro H enc w base sp D a0 cs x h;obtain⟨xs,n,_,_,hl,I,hf⟩:=DataW.trod_struct Tryz.underlying25 h;rw[show Tryz.prog.cellsOf 25=5 by kernel_rfl]at hl;obtain⟨O,Z,c2,c3,c4,rfl⟩:=j1o hl;have h0:DataW.trod enc Tryz.prog w base sp D n 23 (([O,Z,c2,c3,c4].drop 0).take (Tryz.prog.cellsOf 23))=xs[0]?:=hf 0 _ U;rw[show Tryz.prog.cellsOf 23=1 by kernel_rfl]at h0;obtain⟨y0,e0,r0⟩:=z4j (cs:=[O]) h0 I dd (x7b Tryz.underlying23 kr0 (v9f (k:=.u8) Tryz.underlying132 kr0 kr0 Tryz.underlying5));have h1:DataW.trod enc Tryz.prog w base sp D n 5 (([O,Z,c2,c3,c4].drop 1).take (Tryz.prog.cellsOf 5))=xs[1]?:=hf 1 _ U;rw[show Tryz.prog.cellsOf 5=1 by kernel_rfl]at h1;obtain⟨y1,e1,r1⟩:=z4j (cs:=[Z]) h1 I dd (x1o Tryz.underlying5);have h2:DataW.trod enc Tryz.prog w base sp D n 5 (([O,Z,c2,c3,c4].drop 2).take (Tryz.prog.cellsOf 5))=xs[2]?:=hf 2 _ U;rw[show Tryz.prog.cellsOf 5=1 by kernel_rfl]at h2;obtain⟨y2,e2,r2⟩:=z4j (cs:=[c2]) h2 I dd (x1o Tryz.underlying5);have h3:DataW.trod enc Tryz.prog w base sp D n 5 (([O,Z,c2,c3,c4].drop 3).take (Tryz.prog.cellsOf 5))=xs[3]?:=hf 3 _ U;rw[show Tryz.prog.cellsOf 5=1 by kernel_rfl]at h3;obtain⟨y3,e3,r3⟩:=z4j (cs:=[c3]) h3 I dd (x1o Tryz.underlying5);have h4:DataW.trod enc Tryz.prog w base sp D n 4 (([O,Z,c2,c3,c4].drop 4).take (Tryz.prog.cellsOf 4))=xs[4]?:=hf 4 _ U;rw[show Tryz.prog.cellsOf 4=1 by kernel_rfl]at h4;obtain⟨y4,e4,r4⟩:=z4j (cs:=[c4]) h4 I dd (v3n Tryz.underlying4);cases e0;cases e1;cases e2;cases e3;cases e4;exact⟨(y0,y1,y2,y3,y4),rfl,⟨r0,r1,r2,r3⟩⟩
open Go.Lw _root_.Go.Proofs.Tryz
theorem y8g:ElemOf prog 182 9 Enc.str 16:=ElemOf.mk' (z:=(.string ⟨#[]⟩)) underlying182 kr0 U
theorem na9:z2a prog 9:=λ_=>kr0
theorem sz9:z1r prog 9 1:=λ_=>kr0
theorem u1w (o:MOp)(w0:World)(hG:Glob w0):Rets prog 65 #[opV o] w0 λv w'=>v=S (j6c o)/\Fr [] w0 w':=by
 have f1:=hG.sz;refine we [(0,opV o)] func65 U ntmps65 U (.cons U .nil) (sr (bx U (λg1 w1 f2 I q1 z1=>(asg U (nn (sq (sr (z0m U I v4e (cl (ev1 U) (mkC func90) (v2q o _) U ?_)))))))));rintro _ w2 ⟨rfl,q2⟩;have z2:=q2.size;refine ne' U (nn (cd U (λc0=>?_) (λc0=>?_)));refine sr (asg U (nn (rt (tr (r1 results65 U ?_)))));exact⟨_,rfl,by rw[j6c,if_pos c0]<;>rfl,(q1.n1 q2)⟩;have hr:=v8z (Classical.not_not.1 c0);refine sk (tn (sr (fad U z5f ?_)));replace I:=I.ext q2;refine z0i U I U na5 (z6s U (us underlying5) underlying3 (wi6 oo) ?_);replace hG:=hG.ext (q1.n1 q2);refine cl (ev1 U) (mkC func115) (x0w _ _ hG oo) U ?_;rintro _ w3 ⟨rfl,q3⟩;have z3:=q3.size;refine asg U (nn (sr (fad U v1u ?_)));replace I:=I.ext q3;refine z0i U I U k2k (y1f U U underlying181 sz9 ?_);replace hG:=hG.ext q3;refine z9b U hG.wd (u2h oo) na9 (z1w ([x1p o.k]) (ev1 U) U y8g (λO w4 e2 D q4 z4=>(asg U ?_)));replace D:=D.low (show w0.heap.size<=O by omega);refine nn (jn (ι:=Value) [] (λv4=>[(4,v4)]) (λv4 w'=>Fr [O] w4 w'/\Lw.Own Enc.str 9 w0.heap.size w' v4 (x1p o.k::y5f o)) .nil ?_ ?_);refine sr (fad U v1u ?_);replace I:=I.ext q4;refine z0i U I U k2k (nn (bl (sr (eq' U (asg U (nn (cd U (λc1=>?_) (λc1=>?_))))))));refine rg (mv U (mv U (fad U y1i (z0i U I U x3n (y1f U U underlying183 sz9 ?_)))));replace hG:=hG.ext q4;refine z9b U hG.dr (v0o oo) na9 (z1w ([x8c o.y,j0r o.d]) (ev2 U) U y8g (λe7 w5 e3 b2 q5 z5=>?_));replace D:=D.ext q5;refine z1x (base:=w0.heap.size) U D b2.sl y8g (λf4 w6 a1 q6 d5=>?_) (hM:=(by unfold maxLen;first|(simp;done)|(simp;omega))) (hb:=se);replace q6:Fr [O] _ _:=q6;have z6:=q6.size;exact asg U (kpL [(4,_)] (.cons U .nil) (nl (bn' (jE (_) (.cons U .nil) ⟨((Fr.refl [O] _).z2 q5 q6),by first|(rw[y5f,if_pos c1];exact a1)|(exfalso;omega)⟩))));refine sr (eq' U (asg U (nn (cd U (λc2=>?_) (λc2=>?_)))));refine rg (mv U (mv U (z1w ([x8c o.y]) (ev1 U) U y8g (λe8 w7 e4 b3 q7 z7=>?_))));replace D:=D.ext q7;refine z1x (base:=w0.heap.size) U D b3.sl y8g (λf5 w8 a1 q8 d6=>?_) (hM:=(by unfold maxLen;first|(simp;done)|(simp;omega))) (hb:=se);replace q8:Fr [O] _ _:=q8;have z8:=q8.size;exact asg U (kpL [(4,_)] (.cons U .nil) (nl (bn' (jE (_) (.cons U .nil) ⟨((Fr.refl [O] _).z2 q7 q8),by first|(rw[y5f,if_neg c1,if_pos c2];exact a1)|(exfalso;omega)⟩))));refine sr (eq' U (asg U (nn (cd U (λc3=>?_) (λc3=>?_)))));refine rg (mv U (fad U y9l (z0i U I U na3 ?_)));replace hG:=hG.ext q4;refine cl (ev1 U) (mkC func115) (x0w _ _ hG oo) U ?_;rintro _ w9 ⟨rfl,q9⟩;have z9:=q9.size;refine z1w ([x8c o.r]) (ev1 U) U y8g (λe9 f9 e5 b5 b8 h2=>?_);replace D:=D.ext (q9.n1 b8);refine z1x (base:=w0.heap.size) U D b5.sl y8g (λf6 g0 a1 a7 d7=>?_) (hM:=(by unfold maxLen;first|(simp;done)|(simp;omega))) (hb:=se);replace a7:Fr [O] _ _:=a7;have h3:=a7.size;exact asg U (kpL [(4,_)] (.cons U .nil) (nl (bn' (jE (_) (.cons U .nil) ⟨((Fr.refl [O] _).z3 q9 b8 a7),by first|(rw[y5f,if_neg c1,if_neg c2,if_pos c3];exact a1)|(exfalso;omega)⟩))));refine jn (ι:=Bool) [(1,_),(3,_),(4,_),(18,_)] (λb4=>[(43,.bool b4)]) (λb4 w'=>Fr [] w4 w'/\b4=decide ((o.k=4\/o.k=5)\/o.k=6)) (.c4 U U U U) ?_ ?_;refine sr (eq' U (asg U (nn (cd U (λc4=>?_) (λc4=>?_)))));exact sk (jE (_) (.c5 U U U U U) ⟨(Fr.refl _ _),by first|exact bi oo|exact bt oo|exact bf oo⟩);refine sr (eq' U (asg U (nn (cd U (λc5=>?_) (λc5=>?_)))));exact sk (jE (_) (.c5 U U U U U) ⟨(Fr.refl _ _),by first|exact bi oo|exact bt oo|exact bf oo⟩);exact rg (eq' U (asg U (nl (jE (_) (.c5 U U U U U) ⟨(Fr.refl _ _),by first|exact bi oo|exact bt oo|exact bf oo⟩))));rintro b4 d1 ⟨a2,rfl⟩;have h4:=a2.size;refine kpC [(1,_),(3,_),(4,_),(18,_),(43,_)] (.c5 U U U U U) (cd U (λc6=>?_) (λc6=>?_));replace hG:=hG.ext (q4.n1 a2);replace I:=I.ext a2;replace D:=D.ext a2;intro a h;have a0:=Fr.refl [O] d1;refine z3j (λwb w'=>Fr [O] wb w') z2y ?_;intro d3 Z;have h5:=Z.size;replace hG:=hG.ext Z;replace I:=I.ext Z;replace D:=D.ext Z;replace a0:=a0.next Z;have f3:=Z.size;clear Z;have hC:Fr [O] d3 d3:=Fr.refl _ _;have a9:=hG;have a3:=I;have a6:=D;refine z0d 0 h U λa h=>z0c 1 h U y1i U λa h=>z0j 2 h U (λ_ hw=>a3.fr hw se) U x3n U λa h=>j1k 3 kr0 hC h wn U U underlying183 sz9 oo oo U U λa h=>u4v 4 kr0 hC h wn U (λ_ hw=>(a9.fr hw se).dr) (v0o oo) na9 U U λa h=>z0c 5 h U z6r U λa h=>z1d (vs:=[_,_]) 6 h U (λ_ hw=>(a3.fr hw se)) z8c U U λa h=>z0d 8 h U λa h=>z0e 7 U ?_;refine z0n h (z0a U z0g) (mkC func116) (x9t _ _ _ hG) ?_;rintro _ g3 ⟨rfl,Z⟩ a h;have h6:=Z.size;replace hG:=hG.ext Z;replace I:=I.ext Z;replace D:=D.ext Z;replace a0:=a0.next Z;replace hC:=hC.next Z;clear Z;refine z0b (z0e 9 U (z2i ([j0r o.d,u2q o.b o.p,x8c o.y]) h (z0a U (z0a U (z0a U z0g))) U y8g λb1 g4 hg a5 Z hz a h=>?_));have d4:g1<b1:=by have:=I.lt;omega
 have h7:=Z.size;replace hG:=hG.ext Z;replace I:=I.ext Z;replace D:=D.ext Z;replace a0:=a0.next Z;replace hC:=hC.next Z;clear Z;refine z0b (z0e 10 U ?_);refine z3g (base:=w0.heap.size) h U D a5.sl y8g (by unfold maxLen;first|(simp;done)|(simp;omega)) se λf7 g5 a1 Z d9 a h=>?_;replace Z:Fr [O] _ _:=Z;have e1:=Z.size;replace hG:=hG.fr Z (by simp[z0u]<;>omega);replace I:=I.fr Z;replace a0:=a0.sp Z;replace hC:=hC.sp Z;replace a5:=a5.fr Z (by simp[z0u]<;>omega);clear Z;refine z0b (z0e 11 U (z0s h U λa h=>?_));refine z0b (z0r ?_);clear hC a9 a3 a6;have e1:=a0.size;exact bk (h.sub (L':=[(4,_)]) (.cons U .nil)) (bn' (jE (_) (.cons U .nil) ⟨((Fr.refl [O] _).z2 a2 a0),by first|(rw[y5f,if_neg c1,if_neg c2,if_neg c3,if_pos c6];exact a1)|(exfalso;omega)⟩));refine jn (ι:=Bool) [(1,_),(4,_)] (λb7=>[(58,.bool b7)]) (λb7 w'=>Fr [] d1 w'/\b7=decide (o.k=7\/o.k=8)) (.c2 U U) ?_ ?_;refine sr (eq' U (asg U (nn (cd U (λc7=>?_) (λc7=>?_)))));exact sk (jE (_) (.c3 U U U) ⟨(Fr.refl _ _),by first|exact bi oo|exact bt oo|exact bf oo⟩);exact rg (eq' U (asg U (nl (jE (_) (.c3 U U U) ⟨(Fr.refl _ _),by first|exact bi oo|exact bt oo|exact bf oo⟩))));rintro b7 g6 ⟨a4,rfl⟩;have h8:=a4.size;refine kpC [(1,_),(4,_),(58,_)] (.c3 U U U) (cd U (λc8=>?_) (λc8=>?_));refine rg (mv U (fad U z6r ?_));replace I:=I.ext (a2.n1 a4);refine z2r (vs:=[_,_]) U I z8c U ?_;replace hG:=hG.ext (q4.n2 a2 a4);refine cl (ev1 U) (mkC func116) (x9t _ _ _ hG) U ?_;rintro _ g7 ⟨rfl,b0⟩;have h9:=b0.size;refine z1w ([u2q o.b o.p]) (ev1 U) U y8g (λf0 g8 e6 b6 b9 i0=>?_);replace D:=D.ext (a2.n3 a4 b0 b9);refine z1x (base:=w0.heap.size) U D b6.sl y8g (λf8 g9 a1 a8 e0=>?_) (hM:=(by unfold maxLen;first|(simp;done)|(simp;omega))) (hb:=se);replace a8:Fr [O] _ _:=a8;have i1:=a8.size;exact asg U (kpL [(4,_)] (.cons U .nil) (nl (bn' (jE (_) (.cons U .nil) ⟨((Fr.refl [O] _).z5 a2 a4 b0 b9 a8),by first|(rw[y5f,if_neg c1,if_neg c2,if_neg c3,if_neg c6,if_pos c8];exact a1)|(exfalso;omega)⟩))));exact sk (bn' (jE (_) (.cons U .nil) ⟨((Fr.refl [O] _).n2 a2 a4),by first|(rw[y5f,if_neg c1,if_neg c2,if_neg c3,if_neg c6,if_neg c8];exact a1)|(exfalso;omega)⟩));rintro v4 h0 ⟨c9,a1⟩;have i2:=c9.size;refine kpC [(4,_)] (.cons U .nil) (sr (mv U (cl (ev2 U) (mkC func117) (u3o _ _ _ _ _ _ a1 sp0 (by have:=v2w o (Classical.not_not.1 c0);omega) (by have:=j7u o;simp;omega)) U ?_)));rintro _ h1 ⟨rfl,d0⟩;have i3:=d0.size;exact asg U (nn (rt (r1 results65 U ⟨_,rfl,by rw[j6c,if_neg c0],(q1.z5 q2 q3 q4 c9 d0)⟩)))
end Go.Proofs.YtagnnbcnnmacmaaGreatDoor
namespace Go.G08
open Go.Lw Go.G21
theorem y7y:∀l:Bed,z2v (z2v l)=z2v l
 | []=>rfl
 | s::l=>by
  by_cases h:z2v l=[]/\s=[]
  ·rw[show z2v (s::l)=[] from if_pos h];rfl
  rw[show z2v (s::l)=s::z2v l from if_neg h]
  show (if z2v (z2v l)=[]/\s=[] then [] else s::z2v (z2v l))=_
  rw[y7y l,if_neg h]
def TrB (B:Bd):Prop:=z2v B.f=B.f/\z2v B.b=B.b
theorem x8h (B:Bd)(b n:Int)(s:List LId):TrB (B.put b n s):=by
 unfold Bd.put y8l TrB;split<;>exact⟨y7y _,y7y _⟩
theorem j8n {p q:MSt}{y pl en:Int}(e:y5y p y pl en=.ok q):q.B=p.B:=by
 unfold y5y at e;split at e;cases e;cases e;rfl
theorem v6i {p q:MSt}{o:MOp}{D st:List LId}(e:x2r p o D st=.ok q):TrB q.B:=by
 unfold x2r at e;split at e;cases e;split at e;cases e;cases e;exact x8h ..
theorem j4r {p q:MSt}{d:Int}(e:z9l p d=.ok q):q.B=p.B:=by
 unfold z9l at e;split at e;cases e;split at e;cases e;cases e;rfl
theorem v5e:∀ {n:Nat} {p q:MSt} {r:Int},z6m n p r=.ok q->q.B=p.B
 | 0,p,q,r,e=>by cases e;rfl
 | n+1,p,q,r,e=>by
  unfold z6m at e
  split at e
  ·cases e;rfl
  split at e
  ·cases e
  rename_i I D
  exact(v5e e).trans (j4r D)
theorem k3p {p q:MSt}{o:MOp}(h:TrB p.B)(e:doM p o=.ok q):TrB q.B:=by
 have s:∀ {x:MSt},x.B=p.B->TrB x.B:=λD=>by rw[D];exact h
 unfold doM at e;split at e;cases e;unfold opM at e;split at e;unfold inM at e;split at e;cases e;cases e;exact s U;split at e;unfold v3m at e;split at e;cases e;cases e;exact s U;split at e;exact s (v5e e);split at e;unfold y4c at e;split at e;cases e;split at e;cases e;exact v6i e;split at e;unfold y2s at e;split at e;cases e;split at e;cases e;split at e;cases e;exact v6i e;split at e;unfold y6i at e;split at e;cases e;exact s (j8n e);split at e;unfold z9c at e;repeat (split at e;· cases e)
 cases e;exact x8h ..;unfold y6f at e;split at e;cases e;cases e;exact x8h ..
def nrm (p:MSt):MSt:=⟨p.rk,p.B,p.ys,p.tb,y2k p.cr,y2b p.fa⟩
theorem x2f {p:MSt}(h:MVal p):MVal (nrm p):=by
 have I:=z3i p.cr;have D:=z4t p.fa;refine⟨⟨h.inv.rk,h.inv.B,h.inv.ly,h.inv.lt,h.inv.yn,h.inv.has,?_,h.inv.all,λc O=>h.inv.cv c (I.mem_iff.1 O)⟩,h.yv,h.tab,λi Z=>?_,λi Z=>h.fa i (D.mem_iff.1 Z),⟨λc O=>h.cr.has c (I.mem_iff.1 O),?_⟩⟩;show p.B.flat.length+(y2b p.fa).length<=_;rw[D.length_eq];exact h.inv.cnt;show (p.B.flat++y2b p.fa++y1r p.tb).count i=1;rw[<-h.once i Z];simp only[List.count_append];rw[D.count_eq];exact(I.map λc=>(c.a,c.b)).nodup_iff.2 h.cr.nd
structure StP (s:StQ) (p:MSt) (n:Nat):Prop where
  e:s.p=stM p
  v:MVal p
  t:TrB p.B
  c:p.cr.length<=n*5120
theorem StP.mono {s:StQ}{p:MSt}{n m:Nat}(h:StP s p n)(D:n<=m):StP s p m:=⟨h.e,h.v,h.t,Nat.le_trans h.c (Nat.mul_le_mul_right _ D)⟩
theorem u8b (p:MSt):(nrm p).cr.length=p.cr.length:=(z3i p.cr).length_eq
theorem StP.rkE {s:StQ}{p:MSt}{n:Nat}(h:StP s p n):s.rk=p.rk:=congrArg St.rk h.e
theorem StP.BE {s:StQ}{p:MSt}{n:Nat}(h:StP s p n):s.q.p=p.B:=congrArg St.B h.e
theorem StP.ysE {s:StQ}{p:MSt}{n:Nat}(h:StP s p n):s.ys.map YQ.p=p.ys:=congrArg St.ys h.e
theorem StP.tbE {s:StQ}{p:MSt}{n:Nat}(h:StP s p n):z2o s.fb.ts=p.tb:=congrArg (λx=>x.fb.t) h.e
theorem StP.csE {s:StQ}{p:MSt}{n:Nat}(h:StP s p n):s.fb.cs=y2k p.cr:=congrArg (λx=>x.fb.c) h.e
theorem StP.hsE {s:StQ}{p:MSt}{n:Nat}(h:StP s p n):s.fb.hs=(z3h p.B p.rk).map Hd.id:=congrArg (λx=>x.fb.h) h.e
theorem StP.fsE {s:StQ}{p:MSt}{n:Nat}(h:StP s p n):s.fb.fs=y2b p.fa:=congrArg (λx=>x.fb.f) h.e
theorem StP.ly {s:StQ}{p:MSt}{n:Nat}(h:StP s p n):s.ys.length=6:=by
 have:=congrArg List.length h.ysE;rw[List.length_map]at this;rw[this];exact h.v.inv.ly
theorem StP.lt {s:StQ}{p:MSt}{n:Nat}(h:StP s p n):s.fb.ts.length=6:=by
 have:=congrArg List.length h.tbE;rw[z2o,List.length_map]at this;rw[this];exact h.v.inv.lt
theorem StP.yE {s:StQ}{p:MSt}{n:Nat}(h:StP s p n){i:Nat}(D:i<6):(s.ys.getD i yq0).p=p.ys.getD i yn0:=by
 rw[<-h.ysE,List.getD,List.getD,List.getElem?_map,List.getElem?_eq_getElem (by rw[h.ly];exact D)];rfl
theorem StP.hl {s:StQ}{p:MSt}{n:Nat}(h:StP s p n):s.fb.hs.length<=320:=by
 rw[h.hsE,List.length_map,(y3t _ _).length_eq,y2u];exact x2n h.v.inv.B
theorem StP.fl {s:StQ}{p:MSt}{n:Nat}(h:StP s p n):s.fb.fs.length<=2048:=by
 rw[h.fsE,(z4t _).length_eq];have:=h.v.inv.cnt;have:=h.v.inv.all;omega
theorem x7d:∀(T:Tb) (y:Nat),z3w T y<=z4r T
 | [],y=>Nat.zero_le _
 | r::T,0=>Nat.le_add_right _ _
 | r::T,y+1=>Nat.le_trans (x7d T y) (Nat.le_add_left _ _)
theorem StP.cn {s:StQ}{p:MSt}{n:Nat}(h:StP s p n):(s.fb.cs.map cxK).Nodup:=by
 rw[h.csE];exact((z3i p.cr).map _).nodup_iff.2 h.v.cr.nd
def StK (Us:List Nat)(w:World)(s:StQ):Prop:=∀(S:List Nat) (w':World),Fr S w w'->(∀k∈S,k<w.heap.size->∃T cs,Blk w k T cs/\T∉Us)->StAt w' s
theorem StK.at {D:List Nat}{w:World}{s:StQ}(h:StK D w s):StAt w s:=h [] w (Fr.refl _ _) λk I=>by cases I
theorem StK.fr {D:List Nat}{w w':World}{s:StQ}{S:List Nat}(h:StK D w s)(hf:Fr S w w')(O:∀k∈S,k<w.heap.size->∃T cs,Blk w k T cs/\T∉D):StK D w' s:=λS2 w2 I hd=>h (S++S2) w2 (hf.trans I) λk hk hl=>by
 by_cases hm:k∈S
 ·exact O k hm hl
 obtain⟨T,cs,hb,Z⟩:=hd k ((List.mem_append.1 hk).resolve_left hm) (Nat.lt_of_lt_of_le hl hf.size)
 exact⟨T,cs,(hf.block k hl hm).symm.trans hb,Z⟩
theorem StK.ext {D:List Nat}{w w':World}{s:StQ}(h:StK D w s)(hf:Fr [] w w'):StK D w' s:=h.fr hf λk I=>by cases I
theorem StO.fr {τ:TyK}{I base:Nat}{w w':World}{s:StQ}{S:List Nat}(h:StO τ I base w s)(hf:Fr S w w')(hd:∀k∈S,k<w.heap.size->∃T cs,Blk w k T cs/\T∉[τ.S,τ.I,τ.Y,τ.P,τ.T,τ.L,I]):StO τ I base w' s:=by
 have D:Fr (S.filter λk=>decide (k<w.heap.size)) w w':=hf.weak λk Z hl=>List.mem_filter.2 ⟨Z,by simpa using hl⟩;have o:∀T',T'∈[τ.S,τ.I,τ.Y,τ.P,τ.T,τ.L,I]->OffT w T' (S.filter λk=>decide (k<w.heap.size)):=λT' O k Z=>by
  obtain⟨a0,a1⟩:=List.mem_filter.1 Z;obtain⟨T,cs,hb,hT⟩:=hd k a0 (by simpa using a1);exact⟨T,cs,hb,λe=>hT (e▸O)⟩
 exact⟨BdO.tf h.b D (o _ sp0) (o _ sp0),h.y.tf D (o _ sp0) (o _ sp0),h.t.tf D (o _ sp0) (o _ sp0) (o _ sp0) (o _ sp0),z2b h.c D (o _ sp0),z2b h.h D (o _ sp0),z2b h.f D (o _ sp0),h.sp⟩
theorem StO.k {τ:TyK}{D base:Nat}{w:World}{s:StQ}(h:StO τ D base w s):StK [τ.S,τ.I,τ.Y,τ.P,τ.T,τ.L,D] w s:=λ_ _ hf I=>(h.fr hf I).at
theorem u3y:TrB start.B:=⟨rfl,rfl⟩
end Go.G08
namespace Go.Proofs.YtagnnbcnnmacmaaGreatDoor
open Go.Lw Go.G21 Go.G08 _root_.Go.Proofs.Tryz
abbrev UK:List Nat:=[τd.S,τd.I,τd.Y,τd.P,τd.T,τd.L,100]
theorem j8o {s:StQ}{p:MSt}{n:Nat}(h:StP s p n)(hn:n<=10000):StSz s:=by
 have hB:BdOk s.q.p:=h.BE▸h.v.inv.B;have hc:=h.c;obtain⟨⟨h1,h2⟩,h3,h4⟩:=z4b hB;refine⟨h1,h2,h3,h4,h.ly,h.lt,λi=>?_,λt ht=>?_,Nat.le_trans h.fl oo,?_,Nat.le_trans h.hl oo⟩;by_cases hi:i<6;have:=(h.v.inv.yn i hi).1;rw[<-h.yE hi]at this;have D:=this.2;split at D;exact Nat.le_trans D.2.1 oo;rw[D.2.2];omega;rw[List.getD,List.getElem?_eq_none (by rw[h.ly];omega)];exact Nat.zero_le _;obtain⟨y,hy,rfl⟩:=List.getElem_of_mem ht;have h6:=h.lt;have e:∀n,lpA p.tb y n=((s.fb.ts.getD y tq0).2.getD n lq0).p:=λn=>by rw[<-h.tbE];exact y3q ..
 have Z:z3w p.tb y=(s.fb.ts.getD y tq0).2.length:=by rw[<-h.tbE];exact z4a ..
 have O:s.fb.ts.getD y tq0=s.fb.ts[y]:=by rw[List.getD,List.getElem?_eq_getElem hy];rfl
 rw[O]at Z e;refine⟨by have:=x7d p.tb y;have:=h.v.inv.all;omega,λq hq=>?_⟩;obtain⟨k,hk,rfl⟩:=List.getElem_of_mem hq;have I:=(h.v.tabV.ok.rts y oo k oo).1;rw[e,List.getD,List.getElem?_eq_getElem hk]at I;exact⟨Nat.le_trans I.2.1.1 oo,Nat.le_trans I.2.1.2 oo⟩;rw[h.csE,(z3i _).length_eq];omega
theorem j3x {s:StQ}{p:MSt}{n:Nat}(h:StP s p n):(⟨s.rk,⟨z2v (plB s.q.fs),z2v (plB s.q.bs)⟩,s.ys.map YQ.p,z2o s.fb.ts,s.fb.cs,s.fb.fs⟩:MSt)=nrm p:=by
 have hf:plB s.q.fs=p.B.f:=congrArg Bd.f h.BE;have D:plB s.q.bs=p.B.b:=congrArg Bd.b h.BE;unfold nrm;rw[h.rkE,hf,D,h.t.1,h.t.2,h.ysE,h.tbE,h.csE,h.fsE]
theorem u5j {s:StQ}{p:MSt}{n:Nat}(w0:World)(Z:StAt w0 s)(h:StP s p n):Rets prog 34 #[.agg #[.int .i64 s.rk,.slice s.q.f.1 s.q.f.2.1 s.q.f.2.2,.slice s.q.b.1 s.q.b.2.1 s.q.b.2.2,.slice s.yv.1 s.yv.2.1 s.yv.2.2,.slice s.fb.t.1 s.fb.t.2.1 s.fb.t.2.2,.slice s.fb.c.1 s.fb.c.2.1 s.fb.c.2.2,.slice s.fb.h.1 s.fb.h.2.1 s.fb.h.2.2,.slice s.fb.f.1 s.fb.f.2.1 s.fb.f.2.2]] w0 λr w'=>r=.int .i64 0/\Fr [] w0 w':=
 j2f s w0 Z (by rw[h.rkE];exact h.v.inv.rk) (h.BE▸h.v.inv.B) h.ly h.lt (λi D=>by
  rw[h.yE D]
  have:=h.v.inv.yn i D
  refine⟨this.1,?_⟩
  have e:=h.yE D
  have I:(s.ys.getD i yq0).ct=(p.ys.getD i yn0).ct:=congrArg Yn.ct e
  rw[I,this.2,<-h.tbE]
  exact congrArg _ (z4a ..)) (λw O=>u3j s.fb w O h.lt (h.tbE▸h.v.tabV) (by rw[h.tbE,h.csE];exact h.v.crs) (by rw[h.tbE,h.hsE,h.fsE];exact h.v.place)) (by rw[h.hsE,h.rkE,h.BE]) (Nat.le_trans h.hl oo)
end Go.Proofs.YtagnnbcnnmacmaaGreatDoor
namespace Go.G08
open Go.Lw Go.G21
theorem y1p {a b:LId}{c:Cx}:isC a b c=true↔(c.a,c.b)=(a,b):=by unfold isC;simp[Prod.ext_iff]
theorem y5m {a b:LId}:∀ {l:List Cx} {c:Cx},(l.map λc=>(c.a,c.b)).Nodup->c∈l->(c.a,c.b)=(a,b)->l.find? (isC a b)=some c
 | x::l,c,hn,D,hk=>by
  rw[List.map_cons,List.nodup_cons]at hn
  rw[List.find?_cons]
  rcases List.mem_cons.1 D with rfl|D
  ·rw[y1p.2 hk]
  have:isC a b x=false:=by
   rw[<-Bool.not_eq_true,y1p]
   intro e
   exact hn.1 (e▸hk▸List.mem_map.2 ⟨c,D,rfl⟩)
  rw[this]
  exact y5m hn.2 D hk
theorem v7q {l l':List Cx}{a b:LId}(hp:l.Perm l')(hn:(l.map λc=>(c.a,c.b)).Nodup):z5n l a b=z5n l' a b:=by
 have I:=(hp.map λc=>(c.a,c.b)).nodup_iff.1 hn;unfold z5n;by_cases h:∃c∈l,(c.a,c.b)=(a,b);obtain⟨c,D,O⟩:=h;rw[y5m hn D O,y5m I (hp.mem_iff.1 D) O];have e:∀m:List Cx,(∀c∈m,c∈l)->m.find? (isC a b)=none:=λm Z=>List.find?_eq_none.2 λc D e=>h ⟨c,Z c D,y1p.1 e⟩;rw[e l (λ_ D=>D),e l' λ_ D=>hp.mem_iff.2 D]
end Go.G08
namespace Go.Proofs.YtagnnbcnnmacmaaGreatDoor
open Go.Lw Go.G21 Go.G08 _root_.Go.Proofs.Tryz
theorem stp0 (I D:Nat):StP (st0 I D) G08.start 0:=⟨k2p I D,x4c,u3y,Nat.zero_le _⟩
def k2c (p:MSt)(l:List MOp):Int:=match z8b 0 p l with
  | .error (e,_)=>e
  | .ok _=>0
def k1i (p:MSt)(l:List MOp):Nat:=match z8b 0 p l with
  | .error (_,n)=>n
  | .ok _=>l.length
theorem u6i {p:MSt}{l:List MOp}{e:Int}{n:Nat}(h:z8b 0 p l=.error (e,n)):k2c p l=e/\k1i p l=n:=by unfold k2c k1i;rw[h];exact⟨rfl,rfl⟩
theorem v0l {p q:MSt}{l:List MOp}(h:z8b 0 p l=.ok q):k2c p l=0/\k1i p l=l.length:=by unfold k2c k1i;rw[h];exact⟨rfl,rfl⟩
theorem u8a:∀ {l:List MOp} {i:Nat} {p q:MSt},TrB p.B->z8b i p l=.ok q->TrB q.B
 | [],i,p,q,h,e=>by cases e;exact h
 | o::l,i,p,q,h,e=>by
  unfold z8b at e
  split at e
  ·cases e
  rename_i I D
  exact u8a (k3p h D) e
theorem v8i {s:StQ}{p:MSt}{n:Nat}(v:Value)(l:List MOp)(w0:World)(hS:StAt w0 s)(D:StP s p n)(hn:n+l.length<=1000)(hv:Sl y0v w0 v l)(Z:StT w0):Rets prog 11 #[.agg #[.int .i64 s.rk,.slice s.q.f.1 s.q.f.2.1 s.q.f.2.2,.slice s.q.b.1 s.q.b.2.1 s.q.b.2.2,.slice s.yv.1 s.yv.2.1 s.yv.2.2,.slice s.fb.t.1 s.fb.t.2.1 s.fb.t.2.2,.slice s.fb.c.1 s.fb.c.2.1 s.fb.c.2.2,.slice s.fb.h.1 s.fb.h.2.1 s.fb.h.2.2,.slice s.fb.f.1 s.fb.f.2.1 s.fb.f.2.2],v] w0 λr w'=>(∃s':StQ,r=.tuple #[.agg #[.int .i64 s'.rk,.slice s'.q.f.1 s'.q.f.2.1 s'.q.f.2.2,.slice s'.q.b.1 s'.q.b.2.1 s'.q.b.2.2,.slice s'.yv.1 s'.yv.2.1 s'.yv.2.2,.slice s'.fb.t.1 s'.fb.t.2.1 s'.fb.t.2.2,.slice s'.fb.c.1 s'.fb.c.2.1 s'.fb.c.2.2,.slice s'.fb.h.1 s'.fb.h.2.1 s'.fb.h.2.2,.slice s'.fb.f.1 s'.fb.f.2.1 s'.fb.f.2.2],.int .i64 (k1i (nrm p) l:Int),.int .i64 (k2c (nrm p) l)]/\StO τd 100 w0.heap.size w' s'/\(∀q,z8b 0 (nrm p) l=.ok q->StP s' q (n+l.length))/\(∀e i,z8b 0 (nrm p) l=.error (e,i)->s'=stZ))/\Fr [] w0 w':=
 Rets.mono (j3y s v l (nrm p) w0 hS (j8o D oo) D.cn (j3x D).symm (x2f D.v).inv hv Z oo (λw h=>u5j w h D) (λq e=>by
  have x:=x3a (x2f D.v).inv e
  have y:=D.c
  rw[u8b]at x
  omega)) (by
  rintro r w' ⟨h,hf⟩
  refine⟨?_,hf⟩
  cases e:z8b 0 (nrm p) l with
  | error x=>
   obtain⟨e1,i⟩:=x
   rw[e]at h
   obtain⟨I,O⟩:=u6i e
   exact⟨stZ,by rw[I,O];exact h,k3y _ _,λq hq=>(by cases hq),λ_ _ _=>rfl⟩
  | ok q=>
   rw[e]at h
   obtain⟨s',I,O,h3⟩:=h
   obtain⟨h4,h5⟩:=v0l e
   refine⟨s',by rw[h4,h5];exact I,O,λq' hq=>?_,λ_ _ hp=>(by cases hp)⟩
   cases hq
   refine⟨h3,x0v (x2f D.v) e,u8a (p:=nrm p) D.t e,?_⟩
   have x:=x3a (x2f D.v).inv e
   have y:=D.c
   rw[u8b]at x
   rw[Nat.add_mul];omega)
end Go.Proofs.YtagnnbcnnmacmaaGreatDoor
namespace Go.Lw
open Go.RowKit
def y0a (r:Int):MOp:=⟨3,0,0,0,0,r⟩
def z6a (b p:Int):MOp:=⟨7,0,b,p,0,0⟩
abbrev PS:=List MOp×Int
def turnS (s:PS)(r:Int):PS:=if s.2≠r then (s.1++[y0a r],r) else s
def z8j (s:PS)(b:Int)(l:List Int)(r:Int):PS:=(s.1++l.map (λk=>z6a b (k-r)),s.2)
def byS (d:Int):Int:=max (-8) (min 8 d)
def rS (s:PS)(l:List Int)(d:Int):Int:=max (max (max (-4) (-4-byS d)) (l.getD (l.length-1) 0-40)) (min (min (min 4 (4-byS d)) (l.getD 0 0-1)) s.2)
def y2t (s:PS)(l:List Int)(d:Int):PS:=z8j (turnS (z8j (turnS s (rS s l d)) 0 l 0) (rS s l d+byS d)) 1 l (rS s l d)
def moveF:Nat->PS->List Int->Int->PS
  | 0,s,_,_=>s
  | f+1,s,l,d=>if d=0 then s else moveF f (y2t s l d) (l.map (·+byS d)) (d-byS d)
def y8r (s:PS)(l:List Int)(d:Int):PS:=moveF d.natAbs s l d
theorem y0o (s:PS)(r:Int):(turnS s r).1.length<=s.1.length+1:=by unfold turnS;split<;>simp
theorem y3e (s:PS)(b:Int)(l:List Int)(r:Int):(z8j s b l r).1.length=s.1.length+l.length:=by simp[z8j]
theorem x3f (s:PS)(l:List Int)(d:Int):(y2t s l d).1.length<=s.1.length+(2+2*l.length):=by
 unfold y2t;rw[y3e];have D:=y0o (z8j (turnS s (rS s l d)) 0 l 0) (rS s l d+byS d);rw[y3e]at D;have I:=y0o s (rS s l d);omega
theorem x5s:∀(f:Nat) (s:PS) (l:List Int) (d:Int),(moveF f s l d).1.length<=s.1.length+f*(2+2*l.length)
 | 0,s,l,d=>by simp[moveF]
 | f+1,s,l,d=>by
  unfold moveF
  split
  ·omega
  have D:=x5s f (y2t s l d) (l.map (·+byS d)) (d-byS d)
  have I:=x3f s l d
  rw[List.length_map]at D
  rw[Nat.succ_mul];omega
theorem j7c {d:Int}(h:d≠0):(d-byS d).natAbs<d.natAbs:=by unfold byS;omega
theorem z1s (l:List Int)(i:Nat)(h:i<l.length):l.take (i+1)=l.take i++[l.getD i 0]:=by
 rw[List.take_add_one,List.getElem?_eq_getElem h,Option.toList,getD_at l i h 0]
theorem y8b (s:PS)(r:Int):(turnS s r).2=r:=by
 unfold turnS;split;rfl;rename_i h;simpa using h
theorem y7r (s:PS)(l:List Int)(d:Int):(y2t s l d).2=rS s l d+byS d:=by
 unfold y2t z8j;exact y8b _ _
def Pl (TP TO base:Nat)(w:World)(g:Nat)(K:Nat->Prop)(s:PS):Prop:=
  ∃v,Blk w g TP [v,.int .i64 s.2]/\Lw.Own y0v TO base w v s.1/\g∉z0u v/\¬K g/\∀k∈z0u v,¬K k
section
variable {TP TO base g:Nat} {w w':World} {K K':Nat->Prop} {s:PS} {S:List Nat}
theorem Pl.lt (h:Pl TP TO base w g K s):g<w.heap.size:=let ⟨_,hb,_⟩:=h;hb.lt
theorem Pl.fr (h:Pl TP TO base w g K s)(hf:Fr S w w')(O:∀k∈S,K k):Pl TP TO base w' g K s:=by
 obtain⟨v,Z,h2,h3,D,I⟩:=h;exact⟨v,Z.fr hf (λe=>D (O _ e)),h2.fr hf (λk hk hb=>I k hb (O k hk)),h3,D,I⟩
theorem Pl.ext (h:Pl TP TO base w g K s)(hf:Fr [] w w'):Pl TP TO base w' g K s:=h.fr hf sp0
theorem Pl.turn {n0:Nat}(h:Pl TP TO base w g K s)(D:Turn n0 w w'):Pl TP TO base w' g K s:=by
 obtain⟨v,I,O,Z,h4,h5⟩:=h;exact⟨v,I.turn D,O.turn D,Z,h4,h5⟩
theorem Pl.setK (h:Pl TP TO base w g K s)(O:∀k,k<w.heap.size->K' k->K k):Pl TP TO base w g K' s:=by
 obtain⟨v,D,I,h3,h4,h5⟩:=h;exact⟨v,D,I,h3,λe=>h4 (O _ D.lt e),λk Z e=>h5 k Z (O k (I.blk k Z).2 e)⟩
theorem Pl.addNon (h:Pl TP TO base w g K s):Pl TP TO base w g (λk=>K k\/z9e w k) s:=by
 obtain⟨v,Z,h2,h3,h4,h5⟩:=h;refine⟨v,Z,h2,h3,?_,?_⟩;rintro(e|⟨o,D,O⟩);exact h4 e;rw[show w.heap[g]?=_ from Z]at D;cases D;cases O;rintro k I (e|⟨o,D,O⟩);exact h5 k I e;rcases h2 with ⟨rfl,_⟩|⟨g',cap,cur,rfl,_,hg,_⟩
 cases I;simp[z0u]at I;subst I;rw[hg]at D;cases D;cases O
end
def Asc (l:List Int):Prop:=∀i,i<l.length->1<=l.getD i 0/\l.getD i 0<=40/\(0<i->l.getD (i-1) 0<l.getD i 0)
instance (l:List Int):Decidable (Asc l):=by unfold Asc;infer_instance
theorem Asc.mono {l:List Int}(h:Asc l):∀j i,i<j->j<l.length->l.getD i 0+(j-i)<=l.getD j 0:=by
 intro j;induction j with
 | zero=>intro i I;omega
 | succ j ih=>
  intro i I O;have D:=(h (j+1) O).2.2 oo;simp only[Nat.add_sub_cancel]at D;rcases Nat.lt_or_ge i j with e|e
  have:=ih i e oo;omega;obtain rfl:i=j:=by omega
  omega
theorem Asc.len {l:List Int}(h:Asc l):l.length<=40:=by
 rcases Nat.eq_zero_or_pos l.length with e|e
 omega;rcases Nat.lt_or_ge 1 l.length with D|D
 have:=h.mono (l.length-1) 0 oo oo;have I:=h 0 e;have O:=h (l.length-1) oo;omega;omega
theorem FrK.fr {K:Nat->Prop}{S:List Nat}{x y z:World}(h:FrK K x y)(D:Fr S y z)(I:∀k∈S,k<x.heap.size->¬K k):FrK K x z:=h.step D I
theorem FrK.ext {K:Nat->Prop}{x y z:World}(h:FrK K x y)(D:Fr [] y z):FrK K x z:=h.next D
theorem FrK.exS {K:Nat->Prop}{x y:World}(h:FrK K x y):∃S:List Nat,(∀k∈S,¬K k)/\Fr S x y:=by
 classical exact⟨(List.range x.heap.size).filter (λk=>decide (¬K k)),λk D=>by simpa using (List.mem_filter.1 D).2,h.toFr (λk D I=>Classical.byContradiction λe=>I (List.mem_filter.2 ⟨List.mem_range.2 D,by simpa using e⟩))⟩
def dif (from_ to_:List Int):List Int:=to_.zipWith (· - ·) from_
def y2a (by_:List Int)(i:Nat):Nat:=i+1+((by_.drop (i+1)).takeWhile (λz=>decide (z=by_.getD i 0))).length
def z2q (by_:List Int):Nat->Nat->List Nat
  | 0,_=>[]
  | f+1,i=>if i<by_.length then i::z2q by_ f (y2a by_ i) else []
def z1l (by_:List Int):List Nat:=z2q by_ by_.length 0
def upS (l by_:List Int)(s:PS)(i:Nat):PS:=if 0<by_.getD i 0 then y8r s ((l.take (y2a by_ i)).drop i) (by_.getD i 0) else s
def y0z (l by_:List Int)(s:PS)(i:Nat):PS:=if by_.getD i 0<0 then y8r s ((l.take (y2a by_ i)).drop i) (by_.getD i 0) else s
def z8k (from_ to_:List Int):List MOp:=
  (turnS ((z1l (dif from_ to_)).foldl (y0z from_ (dif from_ to_)) ((z1l (dif from_ to_)).reverse.foldl (upS from_ (dif from_ to_)) ([],0))) 0).1
end Go.Lw
namespace Go.Proofs.YtagnnbcnnmacmaaGreatDoor
open Go.Lw _root_.Go.Proofs.Tryz
theorem u2t:BuildAt prog 88 [(0,1),(1,1),(2,2),(4,1),(5,1)] [(.int .u8 0),(.int .u8 0),(.int .u8 0),(.int .i64 0),(.int .u8 0),(.int .i64 0)]:=BuildAt.struct underlying88 (λ_=>kr0) (λ_=>kr0)
theorem x7x:z0y prog 137 0 0:=λ_ _=>kr0
theorem x8o:z0y prog 137 1 1:=λ_ _=>kr0
theorem j6e:z2a prog 30:=λ_=>kr0
theorem k1m:z1r prog 30 1:=λ_=>kr0
theorem u2g (g:Nat)(K:Nat->Prop)(s:PS)(base:Nat)(x:Value)(zs:List MOp)(w0:World)(hp:Pl 137 88 base w0 g K s)(hx:Sl y0v w0 x zs)(hK:∀k,K k->k<w0.heap.size)(hbase:base<=w0.heap.size)(hl:s.1.length+zs.length<=1000000000):Rets prog 120 #[.pointer (some ⟨g,0,none⟩),x] w0 λ_ w'=>Pl 137 88 base w' g K (s.1++zs,s.2)/\FrK K w0 w':=by
 have a8:=hp;obtain⟨v,Z,ho,a1,a3,O⟩:=hp;refine enter [(0,.pointer (some ⟨g,0,none⟩)),(1,x)] func120 U ntmps120 U (.c2 U U) ?_;intro a h;refine wp_region_lit (tW h (mv U (mv U (nlc U (fad U x7x (z0i U Z U j6e (mv U ?_)))))));clear h a;intro a h;refine z3g h U ho hx y8q (by unfold maxLen;omega) oo ?_ (hbase:=hbase);clear h a;intro v1 w1 I hq a2 a h;obtain⟨A1,c1,rfl,_⟩:=I.sl.form;replace Z:=Z.fr hq a1;have a0:FrK K w0 w1:=hq.toK.weak (λk _ D e=>O k e D);have a9:=a8.lt;have a5:g∉z0u (Value.slice A1 (s.1++zs).length c1):=by
  rcases a2 with e|e|e
  rw[e];exact a1;rw[e];exact a1;rw[e];simp;omega
 have a6:∀k∈z0u (Value.slice A1 (s.1++zs).length c1),¬K k:=by
  rcases a2 with e|e|e
  rw[e];exact O;rw[e];exact O;rw[e];intro k D a7;simp at D;have:=hK k a7;omega
 clear hq a2;refine tW h (nlc U (fad U x7x ?_));clear h a;intro a h;refine y2g h U U Z U U U k1m λw2 a4 hq hz a h=>?_;replace I:=I.fr hq (by intro k D;simp at D;subst D;exact a5);replace a0:=a0.step hq (by intro k D _;simp at D;subst D;exact a3);clear Z hq hz;have Z:Blk w2 g _ [_,_]:=a4;clear a4;replace h:Ag a 13 []:=h.sub .nil;exact wpList_nil (u0w h results120  ⟨_,rfl,⟨_,Z,I,a5,a3,a6⟩,a0⟩)
theorem u7c (g:Nat)(K:Nat->Prop)(s:PS)(base:Nat)(r:Int)(w0:World)(hp:Pl 137 88 base w0 g K s)(hK:∀k,K k->k<w0.heap.size)(hbase:base<=w0.heap.size)(hl:s.1.length<1000000000):Rets prog 72 #[.pointer (some ⟨g,0,none⟩),.int .i64 r] w0 λ_ w'=>Pl 137 88 base w' g K (turnS s r)/\FrK K w0 w':=by
 have a7:=hp;obtain⟨v,I,_⟩:=a7;refine enter [(0,.pointer (some ⟨g,0,none⟩)),(1,.int .i64 r)] func72 U ntmps72 U (.c2 U U) ?_;have hf:=Fr.refl [] w0;intro a h;refine wp_seq (wp_region_lit (tW h (mv U (nlc U (fad U x8o (z0i U I U na3 (mv U (ne' U (kL [(0,_),(1,_),(9,_)] (.c3 U U U) ?_)))))))));clear h a;intro a h;refine wpList_nil (z3f (cS h U (λc0=>?_) (λc0=>?_)));refine wp_seq (wp_region_lit (tW h (mv U (mv U (z1z (cs:=[_,_,_,_,_,_]) (z0a U (z0a U z0g)) u2t (z0f U (z0f U z0t)) U ?_)))));clear h a;intro a h;refine z2i ([y0a r]) h (z0a U z0g) U y8q λO w1 hg a4 Z hz a h=>?_;have a5:g<O:=by have:=I.lt;omega
 have a8:w0.heap.size<=O:=by have:=hf.size;omega
 replace hf:=hf.next Z;replace I:=I.ext Z;replace hp:=hp.ext Z;clear Z hz hg;refine z0n h (z0a U (z0a U z0g)) (mkC func120) (u2g g K s base _ _ _ hp a4.sl (λk hk=>Nat.lt_of_lt_of_le (hK k hk) hf.size) (Nat.le_trans hbase hf.size) so) ?_;rintro _ w2 ⟨hp,D⟩ a h;replace D:FrK K w0 w2:=(hf.toK.weak (λ_ _ _=>sp0)).trans D (λ_ _ h=>h);clear hf I;obtain⟨v2,I,a0,a3,a1,a6⟩:=hp;replace h:Ag a 19 [(0,_),(1,_)]:=h.sub (.c2 U U);refine wpList_nil (z3f (wp_region_lit (tW h (mv U (mv U (nlc U (fad U x8o ?_)))))));clear h a;intro a h;refine y2g h U U I U U U sz3 λw3 a2 Z hz a h=>?_;replace a0:=a0.fr Z (by intro k hk;simp at hk;subst hk;exact a3);replace D:=D.step Z (by intro k hk _;simp at hk;subst hk;exact a1);clear I Z hz;have I:Blk w3 g _ [_,_]:=a2;clear a2;replace h:Ag a 19 []:=h.sub .nil;exact wpList_nil (u0w h results72  ⟨_,rfl,⟨_,by unfold turnS;rw[if_pos c0];exact I,by unfold turnS;rw[if_pos c0];exact a0,a3,a1,a6⟩,D⟩);exact wp_skip (u0w h results72  ⟨_,rfl,by unfold turnS;rw[if_neg c0];exact hp,hf.toK.weak (λ_ _ _=>sp0)⟩)
theorem u4b (g:Nat)(K:Nat->Prop)(s:PS)(base:Nat)(b:Int)(x:Value)(xs:List Int)(r:Int)(w0:World)(hp:Pl 137 88 base w0 g K s)(I:Sl Enc.i64 w0 x xs)(a1:∀k∈z0u x,K k)(hK:∀k,K k->k<w0.heap.size)(hbase:base<=w0.heap.size)(hl:s.1.length+xs.length<1000000000)(hb:∀i,i<xs.length->-1000000<=xs.getD i 0/\xs.getD i 0<=1000000)(hr:-1000000<=r/\r<=1000000):Rets prog 118 #[.pointer (some ⟨g,0,none⟩),.int .u8 b,x,.int .i64 r] w0 λ_ w'=>Pl 137 88 base w' g K (z8j s b xs r)/\FrK K w0 w':=by
 obtain⟨A,c,rfl,hc,hM,hA⟩:=id I;have D:=FrK.refl K w0;refine enter [(0,.pointer (some ⟨g,0,none⟩)),(1,.int .u8 b),(2,.slice A xs.length c),(3,.int .i64 r)] func118 U ntmps118 U (.c4 U U U U) ?_;intro a h;refine wp_seq (wp_region_lit (tW h (mv U (lnS U underlying26 (mv U (kL [(0,_),(1,_),(3,_),(10,_),(11,_),(12,_)] (.c6 U U U U U U) ?_))))));clear h a;intro a h;refine wpList_nil (z3f (wp_block (loop (ι:=Nat) (λi=>[(0,.pointer (some ⟨g,0,none⟩)),(1,.int .u8 b),(3,.int .i64 r),(10,.slice A xs.length c),(11,.int .i64 (xs.length:Int)),(12,.int .i64 (i:Int))]) (λi w'=>i<=xs.length/\Pl 137 88 base w' g K (s.1++(xs.take i).map (λk=>z6a b (k-r)),s.2)/\Sl Enc.i64 w' (.slice A xs.length c) xs/\FrK K w0 w') (λi=>xs.length-i) 0 (h.sub (.c6 U U U U U U)) ⟨oo,by simpa using hp,I,D⟩ ?_)));clear h a hp I D;rintro i w1 a h ⟨hi,hp,I,D⟩;refine wp_seq (wp_region_lit (j8t h U U U λa h=>wpList_nil (z3f (wp_seq (cS h U (λc0=>?_) (λc0=>?_))))));have a4:=hb i oo;refine wp_skip (z3f (tC h (kQ (kB (kQ ?_)))));clear h a;intro a h;refine wp_region_lit (u1b (p:=i) (0) h U I U z3b oo oo oo U λa2 Z a h=>?_);refine tW h (z1a U (Z _ I) na3 (asg U (kL [(0,_),(1,_),(3,_),(9,_),(10,_),(11,_),(12,_)] (.c7 U U U U U U U) ?_)));clear h a;intro a h;refine wpList_nil (z3f (wp_region_lit (tW h (mv U (mv U (mv U (mv U (z1u U (by first|exact i6 oo|rfl) (z1z (cs:=[_,_]) (z0a U (z0a U z0g)) x8q (z0f U (z0f U z0t)) U (z1z (cs:=[_,_,_,_,_,_]) (z0a U (z0a U z0g)) u2t (z0f U (z0f U z0t)) U ?_))))))))));clear h a;intro a h;refine z2i ([z6a b (xs.getD i 0-r)]) h (z0a U z0g) U y8q λa3 w2 hg a0 hq hz a h=>?_;replace hp:=hp.ext hq;replace I:=I.ext hq;replace D:=D.next hq;clear hq hz hg;refine z0n h (z0a U (z0a U z0g)) (mkC func120) (u2g g K _ base _ _ _ hp a0.sl (λk hk=>Nat.lt_of_lt_of_le (hK k hk) D.size) (Nat.le_trans hbase D.size) so) ?_;rintro _ w3 ⟨hp,O⟩ a h;replace I:=I.frK O a1;replace D:=D.trans O (λ_ _ h=>h);clear O;replace h:Ag a 26 [(0,_),(1,_),(3,_),(10,_),(11,_),(12,_)]:=h.sub (.c6 U U U U U U);refine wpList_nil (u7l (z3f (wp_region_lit (tW h (z0q U (by first|exact i6 oo|rfl) (mv U (kL [(0,_),(1,_),(3,_),(10,_),(11,_),(12,_)] (.c6 U U U U U U) ?_)))))));clear h a;intro a h;exact wpList_nil (z3f ⟨i+1,h.sub (.c6 U U U U U U),⟨oo,by rw[z1s xs i oo,List.map_append,<-List.append_assoc];exact hp,I,D⟩,oo⟩);obtain rfl:i=xs.length:=by omega
 rw[List.take_length]at hp;exact wp_exit (x4y (x4y (x4q (u0w h results118  ⟨_,rfl,hp,D⟩))))
theorem z7a (x:Value)(xs:List Int)(w0:World)(D:Sl Enc.i64 w0 x xs)(hl:xs.length<=1000000000):Rets prog 66 #[x] w0 λv w'=>Lw.Own Enc.i64 3 w0.heap.size w' v xs/\Fr [] w0 w':=by
 obtain⟨A,c,rfl,hc,hM,hA⟩:=id D;refine enter [(0,.slice A xs.length c)] func66 U ntmps66 U (.cons U .nil) ?_;have hf:=Fr.refl [] w0;intro a h;refine wp_seq (wp_region_lit (tW h (asg U (kL [(0,_)] (.cons U .nil) ?_))));clear h a;intro a h;refine wpList_nil (z3f (tC h (kQ (kQ ?_))));clear h a;intro a h;refine wp_region_lit (tW h (mv U (j1p U underlying26 U (kL [(0,_),(4,_)] (.c2 U U) ?_))));clear h a;intro a h;refine wpList_nil (z3f (cS h U (λc0=>?_) (λc0=>?_)));obtain rfl:xs=[]:=by
  cases xs with
  | nil=>rfl
  | cons y ys=>obtain⟨ad,e,_⟩:=hA 0 y U;rw[e]at c0;simp at c0
 refine wp_seq (wp_region_lit (tW h (asg U (kL [(2,_)] (.cons U .nil) ?_))));clear h a;intro a h;exact wpList_nil (z3f (wp_ret (u6w (k2l h results66 U ⟨_,rfl,Own.nil _,hf⟩))));refine wp_skip (z3f (wp_seq (wp_region_lit (z2i (([]:List Int)) h z0g U z3b λa0 w1 hg O I hz a h=>?_))));have a1:w0.heap.size<=a0:=by have:=hf.size;omega
 replace hf:=hf.next I;replace D:=D.ext I;clear I hz hg;refine v6u h U U λa h=>z3g (base:=w0.heap.size) h U (O.low a1) D z3b (by unfold maxLen;simp;omega) so ?_ (hbase:=hf.size);clear h a;intro v7 w2 Z I a2 a h;rw[List.nil_append]at Z;replace hf:=hf.step I (by intro k hk;simp[z0u]at hk;omega);clear I a2 O;refine tW h (asg U (kL [(2,_)] (.cons U .nil) ?_));clear h a;intro a h;exact wpList_nil (z3f (wp_ret (k2l h results66 U ⟨_,rfl,Z,hf⟩)))
theorem v0m (A:Option Addr)(m c:Nat)(w0:World)(D:m<=c):Rets prog 32 #[.slice A m c] w0 λv w'=>v=.slice A m m/\w0=w':=by
 refine enter [(0,.slice A m c)] func32 U ntmps32 U (.cons U .nil) ?_;intro a h;refine wp_seq (wp_region_lit (tW h (asg U (kL [(0,_)] (.cons U .nil) ?_))));clear h a;intro a h;refine wpList_nil (z3f (wp_seq (wp_region_lit (tW h (mv U (mv U (lnS U underlying30 (mv U (lnS U underlying30 (v7e U U U y8q U U U (asg U (kL [(2,_)] (.cons U .nil) ?_))))))))))));clear h a;intro a h;exact wpList_nil (z3f (wp_ret (k2l h results32 U ⟨_,rfl,rfl,rfl⟩)))
theorem v6t (g:Nat)(K:Nat->Prop)(s:PS)(base:Nat)(r:Int)(w0:World)(hp:Pl 137 88 base w0 g K s)(D:∀k,K k->k<w0.heap.size)(hbase:base<=w0.heap.size)(hl:s.1.length<1000000000):Rets prog 72 #[.pointer (some ⟨g,0,none⟩),.int .i64 r] w0 λ_ w'=>Pl 137 88 base w' g K (turnS s r)/\∃S:List Nat,(∀k∈S,¬K k)/\Fr S w0 w':=
 (u7c g K s base r w0 hp D hbase hl).mono λ_ _ h=>⟨h.1,h.2.exS⟩
theorem u1g (g:Nat)(K:Nat->Prop)(s:PS)(base:Nat)(b:Int)(x:Value)(xs:List Int)(r:Int)(w0:World)(hp:Pl 137 88 base w0 g K s)(I:Sl Enc.i64 w0 x xs)(D:∀k∈z0u x,K k)(O:∀k,K k->k<w0.heap.size)(hbase:base<=w0.heap.size)(hl:s.1.length+xs.length<1000000000)(hb:∀i,i<xs.length->-1000000<=xs.getD i 0/\xs.getD i 0<=1000000)(Z:-1000000<=r/\r<=1000000):Rets prog 118 #[.pointer (some ⟨g,0,none⟩),.int .u8 b,x,.int .i64 r] w0 λ_ w'=>Pl 137 88 base w' g K (z8j s b xs r)/\∃S:List Nat,(∀k∈S,¬K k)/\Fr S w0 w':=
 (u4b g K s base b x xs r w0 hp I D O hbase hl hb Z).mono λ_ _ h=>⟨h.1,h.2.exS⟩
theorem j4e:CallOf prog 66:=mkC func66
theorem j9k (l:List Int)(c:Int)(j:Nat)(D:j<l.length):((l.take j).map (·+c)++l.drop j).set j (l.getD j 0+c)=(l.take (j+1)).map (·+c)++l.drop (j+1):=by
 have e:(((l.take j).map (·+c)).length)=j:=by simp;omega
 rw[List.set_append_right _ _ oo,e,Nat.sub_self,z1s l j D,List.map_append,List.append_assoc];congr 1;rw[List.drop_eq_getElem_cons D,List.set_cons_zero];simp
theorem k1b (l:List Int)(c:Int)(j:Nat)(D:j<l.length):((l.take j).map (·+c)++l.drop j).getD j 0=l.getD j 0:=by
 have e:(((l.take j).map (·+c)).length)=j:=by simp;omega
 rw[List.getD,List.getElem?_append_right oo,e,Nat.sub_self,List.getElem?_drop,Nat.add_zero];rfl
theorem x5e (l:List Int)(c:Int)(i:Nat)(D:i<l.length):(l.map (·+c)).getD i 0=l.getD i 0+c:=by simp[List.getD,D]
theorem x9v (g:Nat)(K:Nat->Prop)(s0:PS)(base:Nat)(x:Value)(xs:List Int)(d0:Int)(w0:World)(hp:Pl 137 88 base w0 g K s0)(e1:Sl Enc.i64 w0 x xs)(b8:xs≠[])(hK:∀k,K k->k<w0.heap.size)(hbase:base<=w0.heap.size)(hb:∀i,i<xs.length->-100<=xs.getD i 0/\xs.getD i 0<=100)(f2:xs.length<=40)(hd0:-40<=d0/\d0<=40)(hr:-1000<=s0.2/\s0.2<=1000)(hl:s0.1.length<900000000):Rets prog 69 #[.pointer (some ⟨g,0,none⟩),x,.int .i64 d0] w0 λ_ w'=>Pl 137 88 base w' g K (y8r s0 xs d0)/\∃S:List Nat,(∀k∈S,¬K k)/\Fr S w0 w':=by
 have D:=FrK.refl K w0;have d6:∀Z,w0.heap.size<=Z->Pl 137 88 base w0 g (λk=>K k\/k=Z) s0:=λZ hg=>hp.setK (λk b7 I=>I.resolve_right (λe=>oo));refine we [(0,.pointer (some ⟨g,0,none⟩)),(1,x),(2,.int .i64 d0)] func69 U ntmps69 U (.c3 U U U) (sr (mv U (cl (ev1 U) j4e (z7a _ _ _ e1 oo) U ?_)));rintro _ w1 ⟨O,q1⟩;have z1:=q1.size;rcases O with ⟨_,e⟩|⟨Z,cA,cur,rfl,b2,rA⟩
 exact absurd e b8;have O:Lw.Own Enc.i64 3 w0.heap.size w1 (.slice (some ⟨Z,0,none⟩) xs.length cA) xs:=.inr ⟨Z,cA,cur,rfl,b2,rA⟩;clear rA;refine asg U (nn (bl ?_));replace D:=D.ext q1;refine lpK (ι:=PS×List Int×Int×Nat) [(0,_)] (λq=>[(1,(.slice (some ⟨Z,0,none⟩) q.2.1.length cA)),(2,.int .i64 q.2.2.1)]) (λq w'=>Pl 137 88 base w' g (λk=>K k\/k=Z) q.1/\Lw.Own Enc.i64 3 w0.heap.size w' (.slice (some ⟨Z,0,none⟩) q.2.1.length cA) q.2.1/\FrK K w0 w'/\q.2.1.length=xs.length/\q.2.2.1.natAbs<=q.2.2.2/\q.2.2.2<=40/\moveF q.2.2.2 q.1 q.2.1 q.2.2.1=y8r s0 xs d0/\q.1.1.length+q.2.2.2*(2+2*xs.length)<=s0.1.length+40*(2+2*xs.length)/\(-1000<=q.1.2/\q.1.2<=1000)/\(∀i,i<q.2.1.length->(q.2.1.getD i 0).natAbs+q.2.2.1.natAbs<=500)) (λq=>q.2.2.1.natAbs) (s0,xs,d0,d0.natAbs) (.c3 U U U) ⟨(d6 Z b2).ext q1,O,D,rfl,Nat.le_refl _,sm,rfl,by simp only;have:=Nat.mul_le_mul_right (2+2*xs.length) (show d0.natAbs<=40 by omega);omega,hr,λi hi=>by have:=hb i hi;simp only;omega⟩ ?_;rintro⟨s,l,d,f⟩ w2 ⟨hp,O,D,a2,d4,b0,a1,b5,d9,a0⟩;simp only at hp O D a2 d4 b0 a1 b5 d9 a0;refine kpC [(0,_),(1,(.slice (some ⟨Z,0,none⟩) l.length cA)),(2,.int .i64 d)] (.c3 U U U) ?_;have f0:0<l.length:=by have:=List.length_pos_iff.2 b8;omega
 refine sq (sr (mv U (ne' U (nn (cd U (λc0=>?_) (λc0=>?_))))));obtain⟨f,rfl⟩:∃f',f=f'+1:=⟨f-1,oo⟩;rw[moveF,if_neg (by simpa using c0)]at a1;have b7:=j7c (d:=d) (by simpa using c0);have e9:byS d=max (-8) (min 8 d):=rfl;have d7:rS s l d=max (max (max (-4) (-4-byS d)) (l.getD (l.length-1) 0-40)) (min (min (min 4 (4-byS d)) (l.getD 0 0-1)) s.2):=rfl;have e6:=a0 0 oo;have e7:=a0 (l.length-1) oo;have f3:=y0o s (rS s l d);have e0:=y0o (z8j (turnS s (rS s l d)) 0 l 0) (rS s l d+byS d);rw[y3e]at e0;have d1:=x3f s l d;have b3:∀i,i<l.length->-1000000<=l.getD i 0/\l.getD i 0<=1000000:=λi hi=>by have:=a0 i hi;omega
 rw[Nat.succ_mul]at b5;have b9:-1000000<=rS s l d/\rS s l d<=1000000:=by omega
 refine sk (tn (bl (sr (mv U (u2z U U U (u0m U U U (asg U (nn (sr (mv U (z1u U (wi6 oo) (mv U (mv U (lnS U underlying26 (z1u U (wi6 oo) (z0x (p:=l.length-1) (0) U O.sl U z3b oo (λe2 a7=>(z1a U (a7 _ O.sl) na3 (z1u U (wi6 oo) (j8s U U U U (asg U (kpL [(0,_),(1,_),(2,_),(6,_),(7,_)] (.c5 U U U U U) (nn (sr (mv U (z1u U (wi6 oo) (mv U (z0x (p:=0) (0) U O.sl U z3b U (λe3 a8=>(z1a U (a8 _ O.sl) na3 (z1u U (wi6 oo) (k0v U U U U (asg U (kpL [(0,_),(1,_),(2,_),(6,_),(7,_),(8,_)] (.c6 U U U U U U) (nn (sr (mv U (mv U (mv U (nlc U (fad U x8o ?_)))))))))))))))))))))))))))))))))))))))));obtain⟨v5,d3,_⟩:=id hp;refine z0i U d3 U na3 (u2z U U U (u0m U U U (asg U (kpL [(0,_),(1,_),(2,_),(6,_),(9,_)] (.c5 U U U U U) (nn (sr (mv U (mv U (cl (ev2 U) (mkC func72) (v6t g (λk=>K k\/k=Z) s base _ _ hp (λk I=>by rcases I with I|rfl;exact Nat.lt_of_lt_of_le (hK k I) D.size;exact(O.blk _ (by simp[z0u])).2) (Nat.le_trans hbase D.size) oo) U ?_)))))))));rintro _ w3 ⟨hp,Sx,a3,q3⟩;replace O:=O.fr q3 (λk I e=>a3 k I (by simp[z0u]at e;exact .inr e));replace D:=D.fr q3 (λk I _ e=>a3 k I (.inl e));have z3:=q3.size;refine nn (sr (mv U (mv U (cl (ev4 U) (mkC func118) (u1g g (λk=>K k\/k=Z) (turnS s (rS s l d)) base 0 _ l 0 _ hp O.sl (λk I=>by simp[z0u]at I;exact .inr I) (λk I=>by rcases I with I|rfl;exact Nat.lt_of_lt_of_le (hK k I) D.size;exact(O.blk _ (by simp[z0u])).2) (Nat.le_trans hbase D.size) oo b3 oo) U ?_))));rintro _ w4 ⟨hp,Sx,a4,q4⟩;replace O:=O.fr q4 (λk I e=>a4 k I (by simp[z0u]at e;exact .inr e));replace D:=D.fr q4 (λk I _ e=>a4 k I (.inl e));have z4:=q4.size;refine nn (sr (mv U (mv U (mv U (z0q U (wi6 oo) (cl (ev2 U) (mkC func72) (v6t g (λk=>K k\/k=Z) _ base _ _ hp (λk I=>by rcases I with I|rfl;exact Nat.lt_of_lt_of_le (hK k I) D.size;exact(O.blk _ (by simp[z0u])).2) (Nat.le_trans hbase D.size) (by rw[y3e];omega)) U ?_))))));rintro _ w5 ⟨hp,Sx,a5,q5⟩;replace O:=O.fr q5 (λk I e=>a5 k I (by simp[z0u]at e;exact .inr e));replace D:=D.fr q5 (λk I _ e=>a5 k I (.inl e));have z5:=q5.size;refine nn (sr (mv U (mv U (mv U (cl (ev4 U) (mkC func118) (u1g g (λk=>K k\/k=Z) (turnS (z8j (turnS s (rS s l d)) 0 l 0) (rS s l d+byS d)) base 1 _ l (rS s l d) _ hp O.sl (λk I=>by simp[z0u]at I;exact .inr I) (λk I=>by rcases I with I|rfl;exact Nat.lt_of_lt_of_le (hK k I) D.size;exact(O.blk _ (by simp[z0u])).2) (Nat.le_trans hbase D.size) oo b3 b9) U ?_)))));rintro _ w6 ⟨hp,Sx,a6,q6⟩;replace O:=O.fr q6 (λk I e=>a6 k I (by simp[z0u]at e;exact .inr e));replace D:=D.fr q6 (λk I _ e=>a6 k I (.inl e));have z6:=q6.size;refine nn (sq (sr (mv U (lnS U underlying26 (mv U (nn (bl (lpK (ι:=Nat) [(0,_),(1,_),(2,_),(6,_),(59,_)] (λj=>[(60,.int .i64 (j:Int))]) (λj w'=>Fr [Z] w6 w'/\j<=l.length/\Lw.Own Enc.i64 3 w0.heap.size w' (.slice (some ⟨Z,0,none⟩) l.length cA) ((l.take j).map (·+byS d)++l.drop j)) (λj=>l.length-j) 0 (.c6 U U U U U U) ⟨Fr.refl _ _,⟨oo,by simpa using O⟩⟩ ?_))))))));rintro j w7 ⟨q7,⟨hj,O⟩⟩;have z7:=q7.size;refine kpC [(0,_),(1,_),(2,_),(6,_),(59,_),(60,_)] (.c6 U U U U U U) (sr (lt' U (nn (sq (cd U (λc1=>?_) (λc1=>?_))))));have e8:=a0 j oo;have f1:((l.take j).map (·+byS d)++l.drop j).length=l.length:=by simp;omega
 have d5:=k1b l (byS d) j oo;refine sk (tn (sq (bl (sr (mv U (asg U (nn (rg (mv U (mv U (z0x (p:=j) (0) U O.sl U z3b oo (λe4 a9=>(z1a U (a9 _ O.sl) na3 (mv U (z0q U (wi6 oo) (v4z (p:=j) (l.getD j 0+byS d) U O U U (by intro e;cases e) z3b sz3 (by rw[d5];rfl) so U U (λw8 O q8 z8=>?_)))))))))))))))));rw[j9k l (byS d) j oo]at O;replace q8:Fr [Z] _ _:=q8;exact kpL [(0,_),(1,_),(2,_),(6,_),(59,_),(60,_)] (.c6 U U U U U U) (nl (bn' (tn (rg (z0q U (wi6 oo) (mv U (nl (lpE (j+1) (.c6 U U U U U U) ⟨((Fr.refl [Z] _).z2 q7 q8),⟨oo,O⟩⟩ oo))))))));obtain rfl:j=l.length:=by omega
 rw[List.take_length,List.drop_length,List.append_nil]at O;have c9:-1000<=(y2t s l d).2/\(y2t s l d).2<=1000:=by rw[y7r];omega
 have b6:(y2t s l d).1.length+f*(2+2*xs.length)<=s0.1.length+40*(2+2*xs.length):=by rw[a2]at d1;omega
 have b4:∀i,i<(l.map (·+byS d)).length->((l.map (·+byS d)).getD i 0).natAbs+(d-byS d).natAbs<=500:=λi hi=>by rw[List.length_map]at hi;rw[x5e l _ i hi];have:=a0 i hi;clear d7 b9 d1;omega
 refine ex (te (te (xh (tn (rg (mv U (mv U (z1u U (wi6 oo) (asg U (kpL [(0,_),(1,_),(2,_)] (.c3 U U U) (nl (bn' ?_))))))))))));replace hp:=hp.fr q7 (by intro k I;simp at I;exact .inr I);replace D:=D.fr q7 (by intro k I b7 e5;simp at I;subst I;omega);exact lpE ((y2t s l d,l.map (·+byS d),d-byS d,f)) (.c3 U (congrArg (λz=>some (Value.slice (some ⟨Z,0,none⟩) z cA)) (List.length_map ..).symm) U) ⟨hp,by simp only[List.length_map];exact O,D,by simp only[List.length_map];exact a2,sm,sm,a1,b6,c9,b4⟩ sm;obtain rfl:d=0:=by simpa using c0
 have b1:moveF f s l 0=s:=by cases f with
  | zero=>rfl
  | succ f=>rw[moveF,if_pos U]
 rw[b1]at a1;subst a1;exact ex (te (te (xh (r0n results69  ⟨_,rfl,hp.setK (λk _ I=>.inl I),D.exS⟩))))
end Go.Proofs.YtagnnbcnnmacmaaGreatDoor
namespace Go.Lw
def z4f (l:List Int)(i:Nat)(xs:List Int):List Int:=l.take i++xs++l.drop (i+xs.length)
theorem y0r (l:List Int)(i:Nat):z4f l i []=l:=by simp[z4f]
theorem z4p {l:List Int}{i:Nat}{xs:List Int}(h:i+xs.length<=l.length):(z4f l i xs).length=l.length:=by
 simp only[z4f,List.length_append,List.length_take,List.length_drop];omega
theorem x4k {l:List Int}{i:Nat}{xs:List Int}(v:Int)(h:i+xs.length<l.length):(z4f l i xs).set (i+xs.length) v=z4f l i (xs++[v]):=by
 have e:(l.take i++xs).length=i+xs.length:=by simp only[List.length_append,List.length_take];omega
 unfold z4f;rw[List.set_append_right _ _ oo,e,Nat.sub_self,List.drop_eq_getElem_cons h,List.set_cons_zero,List.length_append,List.length_singleton];simp[Nat.add_assoc]
theorem u0p {l:List Int}{i:Nat}{xs:List Int}(v:Int)(h:i+1+xs.length<=l.length):(z4f l (i+1) xs).set i v=z4f l i (v::xs):=by
 have D:i<l.length:=by omega
 unfold z4f;rw[List.append_assoc,List.set_append_left _ _ so,List.take_add_one,List.getElem?_eq_getElem D,Option.toList,List.set_append_right _ _ so];simp only[List.length_take,Nat.min_eq_left (Nat.le_of_lt D),Nat.sub_self,List.set_cons_zero,List.append_assoc,List.length_cons];rw[show i+1+xs.length=i+(xs.length+1) by omega];rfl
def z7t:Int->List Int->List Int
  | _,[]=>[]
  | F,k::ks=>max k F::z7t (max k F+1) ks
def z6c:Int->List Int->Int
  | F,[]=>F
  | F,k::ks=>z6c (max k F+1) ks
theorem x0k:∀(l:List Int) (F k:Int),z7t F (l++[k])=z7t F l++[max k (z6c F l)]
 | [],_,_=>rfl
 | z::l,F,k=>by rw[List.cons_append,z7t,z7t,z6c,x0k l];rfl
theorem y9s:∀(l:List Int) (F k:Int),z6c F (l++[k])=max k (z6c F l)+1
 | [],_,_=>rfl
 | z::l,F,k=>by rw[List.cons_append,z6c,z6c,y9s l]
theorem y7o:∀(l:List Int) (F:Int),(z7t F l).length=l.length
 | [],_=>rfl
 | z::l,F=>by rw[z7t,List.length_cons,List.length_cons,y7o l]
def z7r:Int->List Int->List Int
  | _,[]=>[]
  | F,k::ks=>min k F::z7r (min k F-1) ks
def z6f:Int->List Int->Int
  | F,[]=>F
  | F,k::ks=>z6f (min k F-1) ks
theorem x0f:∀(l:List Int) (F k:Int),z7r F (l++[k])=z7r F l++[min k (z6f F l)]
 | [],_,_=>rfl
 | z::l,F,k=>by rw[List.cons_append,z7r,z7r,z6f,x0f l];rfl
theorem y9r:∀(l:List Int) (F k:Int),z6f F (l++[k])=min k (z6f F l)-1
 | [],_,_=>rfl
 | z::l,F,k=>by rw[List.cons_append,z6f,z6f,y9r l]
theorem y8e:∀(l:List Int) (F:Int),(z7r F l).length=l.length
 | [],_=>rfl
 | z::l,F=>by rw[z7r,List.length_cons,List.length_cons,y8e l]
def run (p:Int)(n:Nat):List Int:=(List.range n).map (λj:Nat=>p+(j:Int))
theorem z3y (p:Int)(n:Nat):(run p n).length=n:=by simp[run]
theorem u3l (p:Int)(n:Nat):run p (n+1)=run p n++[p+(n:Int)]:=by simp[run,List.range_succ]
theorem x8d {p:Int}{n j:Nat}(h:j<n):(run p n).getD j 0=p+(j:Int):=by simp[run,h]
theorem u7y (p:Int->Bool):∀(l:List Int) (n:Nat),n<=l.length->(∀j,j<n->p (l.getD j 0)=true)->(n=l.length\/p (l.getD n 0)=false)->(l.takeWhile p).length=n
 | [],n,h,_,_=>by simp at h;subst h;rfl
 | z::l,0,_,_,h=>by
  rcases h with h|h
  ·simp at h
  rw[List.takeWhile_cons_of_neg (by simpa using h)];rfl
 | z::l,n+1,h1,h2,D=>by
  have I:=h2 0 oo
  rw[List.takeWhile_cons_of_pos (by simpa using I),List.length_cons,u7y p l n (by simpa using h1) (λj O=>by simpa using h2 (j+1) oo) (by rcases D with D|D;exact .inl (by simpa using D);exact .inr (by simpa using D))]
theorem u9p {D:List Int}{i e:Nat}(h1:i<e)(h2:e<=D.length)(Z:∀j,i<j->j<e->D.getD j 0=D.getD i 0)(I:e=D.length\/D.getD e 0≠D.getD i 0):y2a D i=e:=by
 unfold y2a;have O:∀j,(D.drop (i+1)).getD j 0=D.getD (i+1+j) 0:=λj=>by simp[List.getD]
 rw[u7y _ _ (e-(i+1)) (by rw[List.length_drop];omega) (λj hj=>by rw[O];exact decide_eq_true (Z _ oo oo)) (by
  rw[O,List.length_drop,show i+1+(e-(i+1))=e by omega];rcases I with I|I
  exact .inl oo;exact .inr (decide_eq_false I))]
 omega
theorem x4l:∀(l r:List Int) (F:Int),z6c F (l++r)=z6c (z6c F l) r
 | [],_,_=>rfl
 | z::l,r,F=>by rw[List.cons_append,z6c,z6c,x4l l]
theorem y0k:∀(l:List Int) (F:Int),F<=z6c F l
 | [],_=>Int.le_refl _
 | z::l,F=>by rw[z6c];have:=y0k l (max z F+1);omega
theorem x3p:∀(l r:List Int) (F:Int),z6f F (l++r)=z6f (z6f F l) r
 | [],_,_=>rfl
 | z::l,r,F=>by rw[List.cons_append,z6f,z6f,x3p l]
theorem y0t:∀(l:List Int) (F:Int),z6f F l<=F
 | [],_=>Int.le_refl _
 | z::l,F=>by rw[z6f];have:=y0t l (min z F-1);omega
def frR (l:List Int)(F:Int)(s m:Nat):Int:=z6c F ((l.drop s).take m)
theorem x0r {l:List Int}{F:Int}{s m:Nat}(h:s+m<l.length):frR l F s (m+1)=max (l.getD (s+m) 0) (frR l F s m)+1:=by
 have e:(l.drop s).getD m 0=l.getD (s+m) 0:=by simp[List.getD]
 unfold frR;rw[z1s _ _ (by rw[List.length_drop];omega),y9s,e]
theorem k1u (l:List Int)(F:Int)(s m:Nat):frR l F s m<=z6c F (l.drop s):=by
 unfold frR;have h:=x4l ((l.drop s).take m) ((l.drop s).drop m) F;rw[List.take_append_drop]at h;rw[h];exact y0k _ _
theorem v8p {l:List Int}{F:Int}{s m:Nat}(h:s+m=l.length):frR l F s m=z6c F (l.drop s):=by
 unfold frR;rw[List.take_of_length_le (by rw[List.length_drop];omega)]
def frL (l:List Int)(F:Int)(i m:Nat):Int:=z6f F ((l.take i).reverse.take m)
theorem x1d {l:List Int}{F:Int}{i m:Nat}(h:i<=l.length)(D:m<i):frL l F i (m+1)=min (l.getD (i-1-m) 0) (frL l F i m)-1:=by
 have e:(l.take i).reverse.getD m 0=l.getD (i-1-m) 0:=by
  rw[List.getD,List.getElem?_reverse (by rw[List.length_take];omega),List.length_take,Nat.min_eq_left h,List.getElem?_take,if_pos oo];rfl
 unfold frL;rw[z1s _ _ (by rw[List.length_reverse,List.length_take];omega),y9r,e]
theorem j7b (l:List Int)(F:Int)(i m:Nat):z6f F (l.take i).reverse<=frL l F i m:=by
 unfold frL;have h:=x3p ((l.take i).reverse.take m) ((l.take i).reverse.drop m) F;rw[List.take_append_drop]at h;rw[h];exact y0t _ _
theorem v9r {l:List Int}{F:Int}{i:Nat}(h:i<=l.length):frL l F i i=z6f F (l.take i).reverse:=by
 unfold frL;rw[List.take_of_length_le (by rw[List.length_reverse,List.length_take];omega)]
def y3n (l:List Int)(i a b:Nat)(front:Bool):Prop:=if front then 0<=z6f (l.getD (i+a+b-1) 0-a-2*b) (l.take i).reverse else z6c (l.getD i 0+2*a+b) (l.drop (i+a+b))<=41
instance (l:List Int) (i a b:Nat) (front:Bool):Decidable (y3n l i a b front):=by unfold y3n;infer_instance
theorem y7m (l:List Int)(s m:Nat):(l.drop s).getD m 0=l.getD (s+m) 0:=by simp[List.getD]
theorem y3f {l:List Int}{i m:Nat}(h:i<=l.length)(D:m<i):(l.take i).reverse.getD m 0=l.getD (i-1-m) 0:=by
 rw[List.getD,List.getElem?_reverse (by rw[List.length_take];omega),List.length_take,Nat.min_eq_left h,List.getElem?_take,if_pos oo];rfl
def y1h (l:List Int)(F:Int)(s m:Nat):List Int:=z7t F ((l.drop s).take m)
def y3d (l:List Int)(F:Int)(i m:Nat):List Int:=(z7r F ((l.take i).reverse.take m)).reverse
theorem y9e {l:List Int}{F:Int}{s m:Nat}(h:s+m<=l.length):(y1h l F s m).length=m:=by
 unfold y1h;rw[y7o,List.length_take,List.length_drop];omega
theorem y9a {l:List Int}{F:Int}{i m:Nat}(h:i<=l.length)(D:m<=i):(y3d l F i m).length=m:=by
 unfold y3d;rw[List.length_reverse,y8e,List.length_take,List.length_reverse,List.length_take];omega
theorem x7k {l:List Int}{F:Int}{s m:Nat}(h:s+m<l.length):y1h l F s (m+1)=y1h l F s m++[max (l.getD (s+m) 0) (frR l F s m)]:=by
 unfold y1h frR;rw[z1s _ _ (by rw[List.length_drop];omega),x0k,y7m]
theorem x8k {l:List Int}{F:Int}{i m:Nat}(h:i<=l.length)(D:m<i):y3d l F i (m+1)=min (l.getD (i-1-m) 0) (frL l F i m)::y3d l F i m:=by
 unfold y3d frL;rw[z1s _ _ (by rw[List.length_reverse,List.length_take];omega),x0f,y3f h D,List.reverse_append];rfl
def z1q (l:List Int)(i a b:Nat)(front:Bool):Int:=if front then l.getD (i+a+b-1) 0-a-2*b else l.getD i 0+2*a+b
def z8w (l:List Int)(i a b:Nat)(front:Bool)(m:Nat):List Int:=
  if front then z4f (z4f l i (run (l.getD (i+a+b-1) 0-a-b+1) (a+b))) (i-m) (y3d l (z1q l i a b front) i m) else z4f (z4f l i (run (l.getD i 0) (a+b))) (i+a+b) (y1h l (z1q l i a b front) (i+a+b) m)
def z2z (l:List Int)(i a b:Nat)(front:Bool):List Int:=z8w l i a b front (if front then i else l.length-(i+a+b))
def x7a (l:List Int)(i a b:Nat)(front:Bool):List Int:=if front then ((z2z l i a b front).take (i+a+b)).drop (i+a) else ((z2z l i a b front).take (i+a)).drop i
def byC (a b:Nat)(front:Bool):Int:=if front then 0-((a:Int)+b) else (a:Int)+b
def behP (l:List Int)(i a b:Nat)(front:Bool):Int:=if front then l.getD (i+a+b-1) 0-a-2*b+1 else l.getD i 0+a
def x9g (l:List Int)(i a b:Nat)(front:Bool):List Int:=z4f (z2z l i a b front) i (run (behP l i a b front) (a+b))
theorem y6t {l:List Int}{i a b m:Nat}{front:Bool}(h:i+a+b<=l.length)(D:m<=if front then i else l.length-(i+a+b)):(z8w l i a b front m).length=l.length:=by
 unfold z8w;cases front;have e:(z4f l i (run (l.getD i 0) (a+b))).length=l.length:=z4p (by rw[z3y];omega);simp only[Bool.false_eq_true,if_false]at D ⊢;rw[z4p (by rw[y9e oo,e];omega),e];have e:(z4f l i (run (l.getD (i+a+b-1) 0-a-b+1) (a+b))).length=l.length:=z4p (by rw[z3y];omega);simp only[if_true]at D ⊢;rw[z4p (by rw[y9a oo D,e];omega),e]
theorem z4l {l:List Int}{i a b:Nat}{front:Bool}(h:i+a+b<=l.length):(z2z l i a b front).length=l.length:=y6t h (Nat.le_refl _)
theorem v7k {l:List Int}{i a b m:Nat}(h:i+a+b+m<l.length):(z8w l i a b false m).set (i+a+b+m) (max (l.getD (i+a+b+m) 0) (frR l (z1q l i a b false) (i+a+b) m))=z8w l i a b false (m+1):=by
 have e:(z4f l i (run (l.getD i 0) (a+b))).length=l.length:=z4p (by rw[z3y];omega);unfold z8w;simp only[Bool.false_eq_true,if_false];have D:=y9e (l:=l) (F:=z1q l i a b false) (s:=i+a+b) (m:=m) oo;have:=x4k (l:=z4f l i (run (l.getD i 0) (a+b))) (i:=i+a+b) (xs:=y1h l (z1q l i a b false) (i+a+b) m) (max (l.getD (i+a+b+m) 0) (frR l (z1q l i a b false) (i+a+b) m)) (by rw[e];omega);rw[D]at this;rw[this,x7k oo]
theorem v5o {l:List Int}{i a b m:Nat}(h:i+a+b<=l.length)(I:m<i):(z8w l i a b true m).set (i-1-m) (min (l.getD (i-1-m) 0) (frL l (z1q l i a b true) i m))=z8w l i a b true (m+1):=by
 have e:(z4f l i (run (l.getD (i+a+b-1) 0-a-b+1) (a+b))).length=l.length:=z4p (by rw[z3y];omega);unfold z8w;simp only[if_true];have D:=y9a (l:=l) (F:=z1q l i a b true) (i:=i) (m:=m) oo oo;rw[show i-m=i-1-m+1 by omega,u0p _ (by rw[e,D];omega),x8k oo I,show i-(m+1)=i-1-m by omega]
theorem y2x {l:List Int}{i a b:Nat}{front:Bool}(h:i+a+b<=l.length):(x9g l i a b front).length=l.length:=by
 unfold x9g;rw[z4p (by rw[z3y,z4l h];omega),z4l h]
theorem x1k {l:List Int}{i j:Nat}{p v:Int}(D:v=p+(j:Int))(h:i+j<l.length):(z4f l i (run p j)).set (i+j) v=z4f l i (run p (j+1)):=by
 have:=x4k (l:=l) (i:=i) (xs:=run p j) v (by rw[z3y];omega);rw[z3y]at this;rw[this,u3l,D]
theorem x8l {l:List Int}{i a b:Nat}(h:i+a+b<=l.length):z8w l i a b false 0=z4f l i (run (l.getD i 0) (a+b)):=by
 unfold z8w;simp only[Bool.false_eq_true,if_false];rw[show y1h l (z1q l i a b false) (i+a+b) 0=[] from U,y0r]
theorem x9p {l:List Int}{i a b:Nat}(h:i+a+b<=l.length):z8w l i a b true 0=z4f l i (run (l.getD (i+a+b-1) 0-a-b+1) (a+b)):=by
 unfold z8w;simp only[if_true];rw[show y3d l (z1q l i a b true) i 0=[] from U,y0r]
theorem v0x:∀(l:List Int) (F B:Int),(∀z∈l,z<=B)->z6c F l<=max F B+l.length
 | [],F,B,_=>by simp[z6c];omega
 | z::l,F,B,h=>by
  have I:=v0x l (max z F+1) B (λy D=>h y (List.mem_cons_of_mem _ D))
  have O:=h z List.mem_cons_self
  rw[z6c,List.length_cons];omega
theorem x9r:∀(l:List Int) (F B:Int),(∀z∈l,B<=z)->min F B-l.length<=z6f F l
 | [],F,B,_=>by simp[z6f];omega
 | z::l,F,B,h=>by
  have I:=x9r l (min z F-1) B (λy D=>h y (List.mem_cons_of_mem _ D))
  have O:=h z List.mem_cons_self
  rw[z6f,List.length_cons];omega
theorem Asc.mem {l:List Int}(h:Asc l){z:Int}(I:z∈l):1<=z/\z<=40:=by
 obtain⟨i,D,rfl⟩:=List.getElem_of_mem I;have:=h i D;rw[getD_at l i D 0];omega
theorem k0q {l:List Int}{i a b m:Nat}(D:Asc l)(I:1<=a/\1<=b/\a+b<=4)(O:i+a+b<=l.length)(hm:i+a+b+m<=l.length):-1000<=frR l (z1q l i a b false) (i+a+b) m/\frR l (z1q l i a b false) (i+a+b) m<=1000:=by
 have Z:=D i oo;have h4:=D.len;have h2:=v0x ((l.drop (i+a+b)).take m) (z1q l i a b false) 40 (λz I=>(D.mem (List.mem_of_mem_drop (List.mem_of_mem_take I))).2);have h3:=y0k ((l.drop (i+a+b)).take m) (z1q l i a b false);have h5:((l.drop (i+a+b)).take m).length<=40:=by rw[List.length_take,List.length_drop];omega
 have h6:z1q l i a b false=l.getD i 0+2*a+b:=rfl;unfold frR;omega
theorem j8x {l:List Int}{i a b m:Nat}(D:Asc l)(I:1<=a/\1<=b/\a+b<=4)(O:i+a+b<=l.length)(hm:m<=i):-1000<=frL l (z1q l i a b true) i m/\frL l (z1q l i a b true) i m<=1000:=by
 have Z:=D (i+a+b-1) oo;have h4:=D.len;have h2:=x9r ((l.take i).reverse.take m) (z1q l i a b true) 1 (λz I=>(D.mem (List.mem_of_mem_take (List.mem_reverse.1 (List.mem_of_mem_take I)))).1);have h3:=y0t ((l.take i).reverse.take m) (z1q l i a b true);have h5:((l.take i).reverse.take m).length<=40:=by rw[List.length_take,List.length_reverse,List.length_take];omega
 have h6:z1q l i a b true=l.getD (i+a+b-1) 0-a-2*b:=rfl;unfold frL;omega
theorem v7l {l:List Int}{i a b:Nat}(D:i+a+b<=l.length):frR l (z1q l i a b false) (i+a+b) (l.length-(i+a+b))-1<=40↔y3n l i a b false:=by
 rw[v8p oo];unfold y3n z1q;simp only[Bool.false_eq_true,if_false];omega
theorem u0n {l:List Int}{i a b:Nat}(D:i+a+b<=l.length):1<=frL l (z1q l i a b true) i i+1↔y3n l i a b true:=by
 rw[v9r oo];unfold y3n z1q;simp only[if_true];omega
end Go.Lw
namespace Go.Lw
open Go.RowKit
theorem k5g {s:PS}{l:List Int}{d:Int}(D:-1000<=s.2/\s.2<=1000)(hl:l.getD (l.length-1) 0<=500):-1000<=rS s l d+byS d/\rS s l d+byS d<=1000:=by unfold rS byS;omega
theorem x0a:∀(f:Nat) (s:PS) (l:List Int) (d:Int),-1000<=s.2/\s.2<=1000->l.getD (l.length-1) 0+(d.natAbs:Int)<=500->-1000<=(moveF f s l d).2/\(moveF f s l d).2<=1000
 | 0,s,l,d,h,_=>h
 | f+1,s,l,d,h,hl=>by
  unfold moveF
  split
  ·exact h
  refine x0a f _ _ _ (by rw[y7r];exact k5g h oo) ?_
  rw[List.length_map]
  have I:((d-byS d).natAbs:Int)+byS d<=(d.natAbs:Int):=by unfold byS;omega
  have O:((d-byS d).natAbs:Int)<=(d.natAbs:Int):=by unfold byS;omega
  rcases Nat.eq_zero_or_pos l.length with e|e
  ·have:l=[]:=List.eq_nil_of_length_eq_zero e
   subst this
   simp at hl ⊢;omega
  have D:(l.map (·+byS d)).getD (l.length-1) 0=l.getD (l.length-1) 0+byS d:=by simp[List.getD,show l.length-1<l.length by omega]
  rw[D];omega
theorem z8t {b:List Int}{i:Nat}(h:i<b.length):i<y2a b i/\y2a b i<=b.length:=by
 unfold y2a;have:((b.drop (i+1)).takeWhile (λz=>decide (z=b.getD i 0))).length<=(b.drop (i+1)).length:=(List.takeWhile_prefix _).length_le;rw[List.length_drop]at this;omega
theorem y4w (b:List Int):∀(f D i:Nat),b.length-i<=f->b.length-i<=D->z2q b f i=z2q b D i
 | 0,0,i,_,_=>rfl
 | 0,D+1,i,h,_=>by
  unfold z2q;rw[if_neg oo]
 | f+1,0,i,_,h=>by
  unfold z2q;rw[if_neg oo]
 | f+1,D+1,i,h,h'=>by
  unfold z2q
  split
  ·rename_i I
   have:=z8t I
   rw[y4w b f D (y2a b i) oo oo]
  rfl
theorem x8g {b:List Int}{i:Nat}(h:i<b.length):z2q b b.length i=i::z2q b b.length (y2a b i):=by
 have e:z2q b b.length i=z2q b (b.length+1) i:=y4w b _ _ i oo oo;rw[e];rw[z2q,if_pos h]
theorem v3s {b:List Int}{i:Nat}(h:b.length<=i):z2q b b.length i=[]:=by
 cases hb:b.length with
 | zero=>rfl
 | succ n=>unfold z2q;rw[if_neg oo]
theorem y6n (b:List Int):∀(f i k:Nat),k∈z2q b f i->k<b.length
 | 0,_,_,h=>by cases h
 | f+1,i,k,h=>by
  unfold z2q at h
  split at h
  ·rcases List.mem_cons.1 h with rfl|h
   ·assumption
   exact y6n b f _ k h
  cases h
theorem y8d (b:List Int):∀(f i:Nat),(z2q b f i).length<=f
 | 0,_=>by simp[z2q]
 | f+1,i=>by
  unfold z2q
  split
  ·have:=y8d b f (y2a b i);simp;omega
  simp
def okP (n:Nat)(s:PS):Prop:=(-1000<=s.2/\s.2<=1000)/\s.1.length<=4000*n
theorem okP.mono {n m:Nat}{s:PS}(h:okP n s)(D:n<=m):okP m s:=⟨h.1,by have:=h.2;omega⟩
theorem x2s {l:List Int}{i e j:Nat}(D:e<=l.length)(I:j<e-i):((l.take e).drop i).getD j 0=l.getD (i+j) 0:=by
 rw[y7m,List.getD,List.getElem?_take,if_pos oo];rfl
theorem v9u {n:Nat}{s:PS}{l:List Int}{i e:Nat}{d:Int}(h:okP n s)(hl:Asc l)(I:e<=l.length)(hd:-40<=d/\d<=40):okP (n+1) (y8r s ((l.take e).drop i) d):=by
 have h4:=hl.len;have D:((l.take e).drop i).length=e-i:=by rw[List.length_drop,List.length_take];omega
 refine⟨x0a _ _ _ _ h.1 ?_,?_⟩;rw[D];rcases Nat.lt_or_ge i e with O|O
 rw[x2s I oo];have:=hl (i+(e-i-1)) oo;omega;rw[show (l.take e).drop i=[] from List.drop_eq_nil_of_le (by rw[List.length_take];omega)];simp;omega;have:=x5s d.natAbs s ((l.take e).drop i) d;have Z:=h.2;rw[D]at this;have h5:d.natAbs*(2+2*(e-i))<=40*(2+2*40):=Nat.mul_le_mul oo oo;unfold y8r;omega
theorem z5c {xs ys:List Int}(h:ys.length=xs.length):(dif xs ys).length=xs.length:=by simp[dif,h]
theorem z7o {xs ys:List Int}{i:Nat}(h:ys.length=xs.length)(D:i<xs.length):(dif xs ys).getD i 0=ys.getD i 0-xs.getD i 0:=by
 simp[dif,List.getD,List.getElem?_zipWith,D,h]
theorem x0h {xs ys:List Int}{i:Nat}(I:Asc xs)(O:Asc ys)(h:ys.length=xs.length)(D:i<xs.length):-40<=(dif xs ys).getD i 0/\(dif xs ys).getD i 0<=40:=by
 rw[z7o h D];have:=I i D;have:=O i oo;omega
section
variable {xs ys:List Int} {n:Nat} {s:PS}
theorem k4t {i:Nat}(h:okP n s)(I:Asc xs)(O:Asc ys)(hl:ys.length=xs.length)(D:i<xs.length):okP (n+1) (upS xs (dif xs ys) s i):=by
 unfold upS;split;exact v9u h I (by have:=(z8t (b:=dif xs ys) (i:=i) (by rw[z5c hl];exact D)).2;rw[z5c hl]at this;exact this) (x0h I O hl D);exact h.mono oo
theorem j3n {i:Nat}(h:okP n s)(I:Asc xs)(O:Asc ys)(hl:ys.length=xs.length)(D:i<xs.length):okP (n+1) (y0z xs (dif xs ys) s i):=by
 unfold y0z;split;exact v9u h I (by have:=(z8t (b:=dif xs ys) (i:=i) (by rw[z5c hl];exact D)).2;rw[z5c hl]at this;exact this) (x0h I O hl D);exact h.mono oo
theorem u1h (I:Asc xs)(O:Asc ys)(hl:ys.length=xs.length):∀(D:List Nat) (n:Nat) (s:PS),(∀k∈D,k<xs.length)->okP n s->okP (n+D.length) (D.foldl (upS xs (dif xs ys)) s)
 | [],n,s,_,h=>h
 | k::D,n,s,hk,h=>by
  have:=u1h I O hl D (n+1) _ (λj Z=>hk j (List.mem_cons_of_mem _ Z)) (k4t h I O hl (hk k List.mem_cons_self))
  rw[List.foldl_cons];exact this.mono (by rw[List.length_cons];omega)
theorem v2y (I:Asc xs)(O:Asc ys)(hl:ys.length=xs.length):∀(D:List Nat) (n:Nat) (s:PS),(∀k∈D,k<xs.length)->okP n s->okP (n+D.length) (D.foldl (y0z xs (dif xs ys)) s)
 | [],n,s,_,h=>h
 | k::D,n,s,hk,h=>by
  have:=v2y I O hl D (n+1) _ (λj Z=>hk j (List.mem_cons_of_mem _ Z)) (j3n h I O hl (hk k List.mem_cons_self))
  rw[List.foldl_cons];exact this.mono (by rw[List.length_cons];omega)
end
def stI (xs ys:List Int):List Int:=(z1l (dif xs ys)).map (λk:Nat=>(k:Int))
theorem j5i (xs ys:List Int):(stI xs ys).length=(z1l (dif xs ys)).length:=by simp[stI]
theorem v9b {xs ys:List Int}(hl:ys.length=xs.length):(z1l (dif xs ys)).length<=xs.length:=by
 have:=y8d (dif xs ys) (dif xs ys).length 0;rw[z5c hl]at this;unfold z1l;rw[z5c hl];exact this
theorem x6p {xs ys:List Int}(hl:ys.length=xs.length){k:Nat}(h:k∈z1l (dif xs ys)):k<xs.length:=by
 have:=y6n _ _ _ _ h;rw[z5c hl]at this;exact this
theorem v8s {xs ys:List Int}{j:Nat}(h:j<(z1l (dif xs ys)).length):(stI xs ys).getD j 0=(((z1l (dif xs ys)).getD j 0:Nat):Int):=by simp[stI,List.getD,h]
theorem x3c {xs ys:List Int}(hl:ys.length=xs.length){j:Nat}(h:j<(z1l (dif xs ys)).length):(z1l (dif xs ys)).getD j 0<xs.length:=by
 rw[List.getD,List.getElem?_eq_getElem h];exact x6p hl (List.getElem_mem _)
theorem v4v (l:List Nat):((List.range l.length).reverse.map (λj=>l.getD j 0))=l.reverse:=by
 rw[List.map_reverse];congr 1;refine List.ext_getElem sp0 (λi I D=>?_);simp[List.getD,D]
def upP (xs ys:List Int)(pre:List Nat):PS:=(pre.map (λj=>(z1l (dif xs ys)).getD j 0)).foldl (upS xs (dif xs ys)) ([],0)
theorem v0f (xs ys:List Int)(D:List Nat)(j:Nat):upP xs ys (D++[j])=upS xs (dif xs ys) (upP xs ys D) ((z1l (dif xs ys)).getD j 0):=by simp[upP]
theorem u9v (xs ys:List Int):upP xs ys (List.range (z1l (dif xs ys)).length).reverse=(z1l (dif xs ys)).reverse.foldl (upS xs (dif xs ys)) ([],0):=by unfold upP;rw[v4v]
theorem j9o {xs ys:List Int}(Z:Asc xs)(hy:Asc ys)(hl:ys.length=xs.length)(D:List Nat)(hp:∀j∈D,j<(z1l (dif xs ys)).length):okP D.length (upP xs ys D):=by
 have:=u1h Z hy hl (D.map (λj=>(z1l (dif xs ys)).getD j 0)) 0 ([],0) (λk O=>by obtain⟨j,I,rfl⟩:=List.mem_map.1 O;exact x3c hl (hp j I)) ⟨⟨dd,dd⟩,sp0⟩;rw[List.length_map,Nat.zero_add]at this;exact this
def x6b (xs ys:List Int)(m:Nat):PS:=((z1l (dif xs ys)).take m).foldl (y0z xs (dif xs ys)) ((z1l (dif xs ys)).reverse.foldl (upS xs (dif xs ys)) ([],0))
theorem y9w {xs ys:List Int}{m:Nat}(h:m<(z1l (dif xs ys)).length):x6b xs ys (m+1)=y0z xs (dif xs ys) (x6b xs ys m) ((z1l (dif xs ys)).getD m 0):=by
 unfold x6b;rw[List.take_add_one,List.getElem?_eq_getElem h,Option.toList,List.foldl_append,List.getD,List.getElem?_eq_getElem h];rfl
theorem x3g {xs ys:List Int}(I:Asc xs)(O:Asc ys)(hl:ys.length=xs.length)(m:Nat):okP 80 (x6b xs ys m):=by
 have h4:=I.len;have h0:=v9b (xs:=xs) (ys:=ys) hl;have Z:=u1h I O hl (z1l (dif xs ys)).reverse 0 ([],0) (λk D=>x6p hl (List.mem_reverse.1 D)) ⟨⟨dd,dd⟩,sp0⟩;have h2:=v2y I O hl ((z1l (dif xs ys)).take m) _ _ (λk D=>x6p hl (List.mem_of_mem_take D)) Z;refine h2.mono ?_;rw[List.length_reverse,List.length_take];omega
theorem x9w (xs ys:List Int):z8k xs ys=(turnS (x6b xs ys (z1l (dif xs ys)).length) 0).1:=by
 unfold z8k x6b;rw[List.take_length]
end Go.Lw
namespace Go.Lw
open Go.RowKit
theorem y0c {l xs:List Int}{i j:Nat}(h:i+xs.length<=l.length):(z4f l i xs).getD j 0=if i<=j/\j<i+xs.length then xs.getD (j-i) 0 else l.getD j 0:=by
 unfold z4f;simp only[List.getD];rcases Nat.lt_or_ge j i with D|D
 rw[if_neg oo,List.append_assoc,List.getElem?_append_left (by rw[List.length_take];omega),List.getElem?_take,if_pos D];rcases Nat.lt_or_ge j (i+xs.length) with I|I
 rw[if_pos ⟨D,I⟩,List.append_assoc,List.getElem?_append_right (by rw[List.length_take];omega),List.length_take,Nat.min_eq_left oo,List.getElem?_append_left oo];rw[if_neg oo,List.getElem?_append_right (by rw[List.length_append,List.length_take];omega),List.length_append,List.length_take,Nat.min_eq_left oo,List.getElem?_drop];congr 2;omega
theorem x1s:∀(D:List Int) (F:Int) (j:Nat),j<D.length->F<=(z7t F D).getD j 0/\D.getD j 0<=(z7t F D).getD j 0/\(z7t F D).getD j 0+1<=z6c F D/\(0<j->(z7t F D).getD (j-1) 0<(z7t F D).getD j 0)
 | [],_,_,h=>by simp at h
 | k::D,F,0,_=>by
  have Z:=y0k D (max k F+1)
  refine⟨?_,?_,?_,λh=>absurd h oo⟩<;>simp only[z7t,z6c,List.getD_cons_zero]<;>omega
 | k::D,F,j+1,h=>by
  have I:j<D.length:=by simpa using h
  have O:=x1s D (max k F+1) j I
  refine⟨?_,?_,?_,λ_=>?_⟩
  ·simp only[z7t,List.getD_cons_succ];omega
  ·simp only[z7t,List.getD_cons_succ];omega
  ·simp only[z7t,z6c,List.getD_cons_succ];omega
  simp only[z7t,Nat.add_sub_cancel,List.getD_cons_succ]
  cases j with
  | zero=>simp only[List.getD_cons_zero];omega
  | succ j=>simp only[List.getD_cons_succ];have:=O.2.2.2 oo;simpa using this
theorem x3j:∀(D:List Int) (F:Int) (j:Nat),j<D.length->(z7r F D).getD j 0<=F/\(z7r F D).getD j 0<=D.getD j 0/\z6f F D+1<=(z7r F D).getD j 0/\(0<j->(z7r F D).getD j 0<(z7r F D).getD (j-1) 0)
 | [],_,_,h=>by simp at h
 | k::D,F,0,_=>by
  have Z:=y0t D (min k F-1)
  refine⟨?_,?_,?_,λh=>absurd h oo⟩<;>simp only[z7r,z6f,List.getD_cons_zero]<;>omega
 | k::D,F,j+1,h=>by
  have I:j<D.length:=by simpa using h
  have O:=x3j D (min k F-1) j I
  refine⟨?_,?_,?_,λ_=>?_⟩
  ·simp only[z7r,List.getD_cons_succ];omega
  ·simp only[z7r,List.getD_cons_succ];omega
  ·simp only[z7r,z6f,List.getD_cons_succ];omega
  simp only[z7r,Nat.add_sub_cancel,List.getD_cons_succ]
  cases j with
  | zero=>simp only[List.getD_cons_zero];omega
  | succ j=>simp only[List.getD_cons_succ];have:=O.2.2.2 oo;simpa using this
theorem u4x {l:List Int}{j:Nat}(h:j<l.length):l.reverse.getD j 0=l.getD (l.length-1-j) 0:=by
 rw[List.getD,List.getElem?_reverse h];rfl
theorem y8t {l:List Int}{i a b:Nat}(O:i+a+b<=l.length)(j:Nat)(hj:j<l.length):(z2z l i a b false).getD j 0=if j<i then l.getD j 0 else if j<i+a+b then l.getD i 0+((j-i:Nat):Int) else (z7t (z1q l i a b false) (l.drop (i+a+b))).getD (j-(i+a+b)) 0:=by
 have e:(z4f l i (run (l.getD i 0) (a+b))).length=l.length:=z4p (by rw[z3y];omega);have Z:y1h l (z1q l i a b false) (i+a+b) (l.length-(i+a+b))=z7t (z1q l i a b false) (l.drop (i+a+b)):=by
  unfold y1h;rw[List.take_of_length_le (by rw[List.length_drop];omega)]
 have D:(z7t (z1q l i a b false) (l.drop (i+a+b))).length=l.length-(i+a+b):=by rw[y7o,List.length_drop]
 unfold z2z z8w;simp only[Bool.false_eq_true,if_false,Z];rw[y0c (by rw[D,e];omega),D];rcases Nat.lt_or_ge j (i+a+b) with h|h
 rw[if_neg oo,y0c (by rw[z3y];omega),z3y];rcases Nat.lt_or_ge j i with I|I
 rw[if_neg oo,if_pos I];rw[if_pos oo,if_neg oo,if_pos h,x8d oo];rw[if_pos oo,if_neg oo,if_neg oo]
theorem y9v {l:List Int}{i a b:Nat}(O:i+a+b<=l.length)(j:Nat)(hj:j<l.length):(z2z l i a b true).getD j 0=if j<i then (z7r (z1q l i a b true) (l.take i).reverse).getD (i-1-j) 0 else if j<i+a+b then l.getD (i+a+b-1) 0-a-b+1+((j-i:Nat):Int) else l.getD j 0:=by
 have e:(z4f l i (run (l.getD (i+a+b-1) 0-a-b+1) (a+b))).length=l.length:=z4p (by rw[z3y];omega);have Z:y3d l (z1q l i a b true) i i=(z7r (z1q l i a b true) (l.take i).reverse).reverse:=by
  unfold y3d;rw[List.take_of_length_le (by rw[List.length_reverse,List.length_take];omega)]
 have D:(z7r (z1q l i a b true) (l.take i).reverse).length=i:=by rw[y8e,List.length_reverse,List.length_take];omega
 unfold z2z z8w;simp only[if_true,Z,Nat.sub_self];rw[y0c (by rw[List.length_reverse,D,e];omega),List.length_reverse,D];rcases Nat.lt_or_ge j i with h|h
 rw[if_pos oo,if_pos h,Nat.sub_zero,u4x oo,D];rw[if_neg oo,if_neg oo,y0c (by rw[z3y];omega),z3y];rcases Nat.lt_or_ge j (i+a+b) with I|I
 rw[if_pos oo,if_pos I,x8d oo];rw[if_neg oo,if_neg oo]
theorem v6o {l:List Int}{i a b:Nat}{front:Bool}(D:i+a+b<=l.length)(j:Nat):(x9g l i a b front).getD j 0=if i<=j/\j<i+a+b then behP l i a b front+((j-i:Nat):Int) else (z2z l i a b front).getD j 0:=by
 unfold x9g;rw[y0c (by rw[z3y,z4l D];omega),z3y,Nat.add_assoc];split;rw[x8d oo];rfl
theorem x1w {l:List Int}{i a b:Nat}{front:Bool}(hl:Asc l)(hz:1<=a/\1<=b/\a+b<=4)(D:i+a+b<=l.length)(hf:y3n l i a b front):Asc (z2z l i a b front)/\Asc (x9g l i a b front):=by
 have a4:=z4l (front:=front) D;have a3:=y2x (front:=front) D;have h4:=hl.len;cases front;have a5:z6c (z1q l i a b false) (l.drop (i+a+b))<=41:=by simpa[y3n,z1q] using hf
 have hF:z1q l i a b false=l.getD i 0+2*a+b:=rfl;have a9:=y0k (l.drop (i+a+b)) (z1q l i a b false);have a6:=hl i oo;have kr:∀j,i+a+b<=j->j<l.length->_:=λj h1 h2=>x1s (l.drop (i+a+b)) (z1q l i a b false) (j-(i+a+b)) (by rw[List.length_drop];omega);have O:∀(q:Int) (f:Nat->Int),(∀j,j<l.length->f j=if i<=j/\j<i+a+b then q+((j-i:Nat):Int) else (z2z l i a b false).getD j 0)->l.getD i 0<=q->q+(a:Int)+b<=z1q l i a b false->∀j,j<l.length->1<=f j/\f j<=40/\(0<j->f (j-1)<f j):=by
  intro q f a0 a7 a8 j I;have e1:=a0 j I;have Z:=a0 (j-1) oo;rw[y8t D j I]at e1;rw[y8t D (j-1) oo]at Z;have a1:=hl j I;rcases Nat.lt_or_ge j i with h1|h1
  rw[if_neg oo,if_pos h1]at e1;rw[if_neg oo,if_pos oo]at Z;refine⟨oo,oo,λh=>?_⟩;have:=a1.2.2 h;omega;rcases Nat.lt_or_ge j (i+a+b) with h2|h2
  rw[if_pos oo]at e1;refine⟨oo,oo,λh=>?_⟩;rcases Nat.lt_or_ge (j-1) i with h3|h3
  rw[if_neg oo,if_pos h3]at Z;have a2:j=i:=by omega
  subst a2;have:=a1.2.2 h;omega;rw[if_pos oo]at Z;omega;have k1:=kr j h2 I;rw[y7m,show i+a+b+(j-(i+a+b))=j by omega]at k1;rw[if_neg oo,if_neg oo,if_neg oo]at e1;refine⟨oo,oo,λh=>?_⟩;rcases Nat.lt_or_ge (j-1) (i+a+b) with h3|h3
  rw[if_pos oo]at Z;omega;rw[if_neg oo,if_neg oo,if_neg oo]at Z;have:=k1.2.2.2 oo;rw[show j-(i+a+b)-1=j-1-(i+a+b) by omega]at this;omega
 refine⟨λj I=>?_,λj I=>?_⟩;rw[a4]at I;refine O (l.getD i 0) (λj=>(z2z l i a b false).getD j 0) (λk hk=>?_) (Int.le_refl _) oo j I;split;rename_i h;rw[y8t D k hk,if_neg oo,if_pos oo];rfl;rw[a3]at I;exact O (behP l i a b false) (λj=>(x9g l i a b false).getD j 0) (λk hk=>v6o D k) (by simp only[behP,Bool.false_eq_true,if_false];omega) (by simp only[behP,Bool.false_eq_true,if_false];omega) j I;have a5:0<=z6f (z1q l i a b true) (l.take i).reverse:=by simpa[y3n,z1q] using hf
 have hF:z1q l i a b true=l.getD (i+a+b-1) 0-a-2*b:=rfl;have b0:=y0t (l.take i).reverse (z1q l i a b true);have a6:=hl (i+a+b-1) oo;have kr:∀j,j<i->_:=λj h1=>x3j (l.take i).reverse (z1q l i a b true) (i-1-j) (by rw[List.length_reverse,List.length_take];omega);have O:∀(q:Int) (f:Nat->Int),(∀j,j<l.length->f j=if i<=j/\j<i+a+b then q+((j-i:Nat):Int) else (z2z l i a b true).getD j 0)->q+(a:Int)+b-1<=l.getD (i+a+b-1) 0->z1q l i a b true<q->∀j,j<l.length->1<=f j/\f j<=40/\(0<j->f (j-1)<f j):=by
  intro q f a0 a7 a8 j I;have e1:=a0 j I;have Z:=a0 (j-1) oo;rw[y9v D j I]at e1;rw[y9v D (j-1) oo]at Z;have a1:=hl j I;rcases Nat.lt_or_ge j i with h1|h1
  have k1:=kr j h1;have kk:(l.take i).reverse.getD (i-1-j) 0=l.getD j 0:=by rw[y3f oo oo];congr 1;omega
  rw[kk]at k1;rw[if_neg oo,if_pos h1]at e1;rw[if_neg oo,if_pos oo]at Z;refine⟨oo,oo,λh=>?_⟩;have k2:=(kr (j-1) oo).2.2.2 oo;rw[show i-1-(j-1)-1=i-1-j by omega]at k2;omega;rcases Nat.lt_or_ge j (i+a+b) with h2|h2
  rw[if_pos oo]at e1;refine⟨oo,oo,λh=>?_⟩;rcases Nat.lt_or_ge (j-1) i with h3|h3
  have k1:=kr (j-1) h3;rw[if_neg oo,if_pos h3]at Z;omega;rw[if_pos oo]at Z;omega;rw[if_neg oo,if_neg oo,if_neg oo]at e1;refine⟨oo,oo,λh=>?_⟩;rcases Nat.lt_or_ge (j-1) (i+a+b) with h3|h3
  rw[if_pos oo]at Z;have a2:j=i+a+b:=by omega
  subst a2;have:=a1.2.2 h;omega;rw[if_neg oo,if_neg oo,if_neg oo]at Z;have:=a1.2.2 h;omega
 refine⟨λj I=>?_,λj I=>?_⟩;rw[a4]at I;refine O (l.getD (i+a+b-1) 0-a-b+1) (λj=>(z2z l i a b true).getD j 0) (λk hk=>?_) oo oo j I;split;rename_i h;rw[y9v D k hk,if_neg oo,if_pos oo];rfl;rw[a3]at I;exact O (behP l i a b true) (λj=>(x9g l i a b true).getD j 0) (λk hk=>v6o D k) (by simp only[behP,if_true];omega) (by simp only[behP,if_true];omega) j I
def y7c (a b:Int):Prop:=1<=a/\1<=b/\a<=4/\b<=4/\a+b<=4
instance (a b:Int):Decidable (y7c a b):=by unfold y7c;infer_instance
def x3m (l:List Int)(i a b:Int)(front:Bool):Int:=if ¬Asc l then 1 else if ¬y7c a b then 1 else if i<0\/(l.length:Int)-a-b<i then 5 else if y3n l i.toNat a.toNat b.toNat front then 0 else 15
def z7s (b:Int)(l:List Int):List MOp:=l.map (λk=>z6a b k)
theorem v3u (b:Int){l:List Int}{i:Nat}(h:i<l.length):z7s b (l.take (i+1))=z7s b (l.take i)++[z6a b (l.getD i 0)]:=by
 unfold z7s;rw[z1s l i h,List.map_append];rfl
def y2z (l:List Int)(i a b:Nat)(front:Bool):List MOp:=z8k l (z2z l i a b front)++z7s 0 (x7a l i a b front)++[y0a (byC a b front)]++z7s 1 (x7a l i a b front)++[y0a 0]++z8k (x9g l i a b front) l
def z5d (l:List Int)(i a b:Int)(front:Bool):List MOp:=if x3m l i a b front=0 then y2z l i.toNat a.toNat b.toNat front else []
theorem x4t {xs ys:List Int}(D:Asc xs)(I:Asc ys)(hl:ys.length=xs.length):(z8k xs ys).length<=400000:=by
 rw[x9w];have O:=y0o (x6b xs ys (z1l (dif xs ys)).length) 0;have Z:=(x3g D I hl (z1l (dif xs ys)).length).2;omega
theorem j5d {l:List Int}{i a b:Nat}{front:Bool}(hl:l.length<=40)(D:i+a+b<=l.length):(x7a l i a b front).length<=40:=by
 have:=z4l (front:=front) D;unfold x7a;split<;>(rw[List.length_drop,List.length_take];omega)
end Go.Lw
namespace Go.Proofs.YtagnnbcnnmacmaaGreatDoor
open Go.Lw _root_.Go.Proofs.Tryz
theorem v0n (v:Value)(xs:List Int)(w0:World)(O:Sl Enc.i64 w0 v xs):Rets prog 26 #[v] w0 λr w'=>r=.int .i64 (if Asc xs then 0 else 1)/\Fr [] w0 w':=by
 obtain⟨A,c,rfl,a5,hM,hA⟩:=id O;clear hA;unfold maxLen at hM;refine we [(0,.slice A xs.length c)] func26 U ntmps26 U (.cons U .nil) ?_;have a2:=O;refine sr (asg U (nn (sq (sr (mv U (lnS U underlying26 (mv U (nn (bl (lpK (ι:=Nat) [(0,_),(5,_),(6,_)] (λi=>[(7,.int .i64 (i:Int))]) (λi w'=>Fr [] w0 w'/\i<=xs.length/\∀j,j<i->1<=xs.getD j 0/\xs.getD j 0<=40/\(0<j->xs.getD (j-1) 0<xs.getD j 0)) (λi=>xs.length-i) 0 (.c4 U U U U) ⟨Fr.refl _ _,⟨Nat.zero_le _,λj I=>absurd I (Nat.not_lt_zero j)⟩⟩ ?_))))))))));rintro i w1 ⟨D,⟨hi,Z⟩⟩;have z1:=D.size;refine kpC [(0,_),(5,_),(6,_),(7,_)] (.c4 U U U U) (sr (lt' U (nn (sq (cd U (λc0=>?_) (λc0=>?_))))));refine sk (tn (sq (bl (sr (mv U ?_)))));replace O:=a2.ext D;refine z0x (p:=i) (0) U O U z3b oo (λa3 a0=>(z1a U (a0 _ O) na3 (asg U (asg U (nn (sr (mv U (lt' U (mv U (gs 14 U (λg0=>?_) (λg0=>?_)))))))))));exact gN U (gN U (pkt U (mv U (gN U (gN U (gN U (gS U (gS U (gS U (gS U (gS U (gS U (gS U (gN U (pkt U (kpL [(0,_),(5,_),(6,_),(7,_),(30,_)] (.c5 U U U U U) (nn (ct U (sr (asg U (nn (rt (rb (tr (tr (rb (tr (r1 results26 U ⟨_,rfl,by first|rw[if_neg (show ¬Asc xs from λh=>by have:=h i oo;omega)]|rw[if_pos (show Asc xs from λj I=>Z j oo)],D⟩))))))))))))))))))))))))))));refine gY U (mv U (gY U (gt' U (pkf U (mv U (gs 18 U (λg1=>?_) (λg1=>?_)))))));exact gN U (gN U (gN U (gS U (gS U (gS U (gS U (gS U (gS U (gS U (gN U (pkt U (kpL [(0,_),(5,_),(6,_),(7,_),(30,_)] (.c5 U U U U U) (nn (ct U (sr (asg U (nn (rt (rb (tr (tr (rb (tr (r1 results26 U ⟨_,rfl,by first|rw[if_neg (show ¬Asc xs from λh=>by have:=h i oo;omega)]|rw[if_pos (show Asc xs from λj I=>Z j oo)],D⟩))))))))))))))))))))))));refine gY U (mv U (gY U (gt' U (gY U (mv U (gs 21 U (λg2=>?_) (λg2=>?_)))))));refine gY U (mv U (gY U (mv U (gY U (z1u U (wi6 oo) (gY U (z0x (p:=(i-1)) (0) U O U z3b oo (λa4 a1=>(gY U (z1a U (a1 _ O) na3 (gY U (mv U (gY U (ge' U (gY U (pkt U (pkf U (kpL [(0,_),(5,_),(6,_),(7,_),(30,_)] (.c5 U U U U U) (nn (cd U (λc1=>?_) (λc1=>?_)))))))))))))))))))));exact sr (asg U (nn (rt (rb (tr (tr (rb (tr (r1 results26 U ⟨_,rfl,by first|rw[if_neg (show ¬Asc xs from λh=>by have:=h i oo;omega)]|rw[if_pos (show Asc xs from λj I=>Z j oo)],D⟩)))))))));refine sk (bn' (tn (rg (z0q U (wi6 oo) (mv U (nl ?_))))));exact lpE (i+1) (.c4 U U U U) ⟨D,⟨oo,λj I=>by
  rcases Nat.lt_or_ge j i with h|h
  exact Z j h;have e:j=i:=by omega
  subst e;exact⟨oo,oo,λ_=>oo⟩⟩⟩ oo
 refine gN U (gN U (gN U (gN U (gN U (gN U (gN U (gY U (pkf U (pkf U (kpL [(0,_),(5,_),(6,_),(7,_),(30,_)] (.c5 U U U U U) (nn (cf U (sk (bn' (tn (rg (z0q U (wi6 oo) (mv U (nl ?_)))))))))))))))))));exact lpE (i+1) (.c4 U U U U) ⟨D,⟨oo,λj I=>by
  rcases Nat.lt_or_ge j i with h|h
  exact Z j h;have e:j=i:=by omega
  subst e;exact⟨oo,oo,λ_=>oo⟩⟩⟩ oo
 exact ex (te (te (xh (tn (sr (asg U (nn (rt (r1 results26 U ⟨_,rfl,by first|rw[if_neg (show ¬Asc xs from λh=>by have:=h i oo;omega)]|rw[if_pos (show Asc xs from λj I=>Z j oo)],D⟩)))))))))
theorem v2o (a b:Int)(w0:World):Rets prog 27 #[.int .i64 a,.int .i64 b] w0 λr w'=>r=.int .i64 (if y7c a b then 0 else 1)/\Fr [] w0 w':=by
 refine we [(0,.int .i64 a),(1,.int .i64 b)] func27 U ntmps27 U (.c2 U U) (sr (asg U (nn (sq (sq (rbo (r:=24) (L':=[]) ((((((a<1)\/(b<1))\/(4<a))\/(4<b))\/(4<(a+b)))) .nil ?_ ?_))))));refine mv U (lt' U (mv U (gs 7 U (λI=>?_) (λI=>?_))));exact gN U (gN U (pkt U (mv U (gN U (gN U (pkt U (mv U (gN U (gN U (pkt U (mv U (gN U (gN U (gN U (gN U (pkt U (rbe U .nil)))))))))))))))));refine gY U (mv U (gY U (lt' U (pkf U (mv U (gs 11 U (λO=>?_) (λO=>?_)))))));exact gN U (gN U (pkt U (mv U (gN U (gN U (pkt U (mv U (gN U (gN U (gN U (gN U (pkt U (rbe U .nil)))))))))))));refine gY U (mv U (gY U (gt' U (pkf U (mv U (gs 15 U (λg2=>?_) (λg2=>?_)))))));exact gN U (gN U (pkt U (mv U (gN U (gN U (gN U (gN U (pkt U (rbe U .nil)))))))));refine gY U (mv U (gY U (gt' U (pkf U (mv U (gs 19 U (λZ=>?_) (λZ=>?_)))))));exact gN U (gN U (gN U (gN U (pkt U (rbe U .nil)))));exact gY U (mv U (gY U (mv U (gY U (z0q U (wi6 oo) (gY U (gt' U (pkf U (rbe U .nil)))))))));refine tn (cd U (λD=>?_) (λD=>?_));exact sr (asg U (nn (rt (tr (r1 results27 U ⟨_,rfl,by rw[if_neg (λh=>by unfold y7c at h;omega)],(Fr.refl _ _)⟩)))));exact sk (tn (sr (asg U (nn (rt (r1 results27 U ⟨_,rfl,by rw[if_pos (show y7c a b by unfold y7c;omega)],(Fr.refl _ _)⟩))))))
theorem u2y (k F:Int)(D:Nat)(w0:World)(hb:Blk w0 D 3 [.int .i64 F])(Z:-1000000<=k/\k<=1000000)(O:-1000000<=F/\F<=1000000):Rets prog 67 #[.int .i64 k,.pointer (some ⟨D,0,none⟩)] w0 λr w'=>r=.int .i64 (max k F)/\Blk w' D 3 [.int .i64 (max k F+1)]/\Fr [D] w0 w':=by
 exact we [(0,.int .i64 k),(1,.pointer (some ⟨D,0,none⟩))] func67 U ntmps67 U (.c2 U U) (sr (asg U (nn (sr (mv U (z2j U hb na3 (u0m U U U (asg U (nn (sr (mv U (z0q U (wi6 oo) (z2u U hb U sz3 (λw1 hb I z1=>(nn (sr (mv U (asg U (nn (rt (r1 results67 U ⟨_,rfl,rfl,hb,((Fr.refl [D] _).z1 I)⟩)))))))))))))))))))))
theorem u2u (k F:Int)(D:Nat)(w0:World)(hb:Blk w0 D 3 [.int .i64 F])(Z:-1000000<=k/\k<=1000000)(O:-1000000<=F/\F<=1000000):Rets prog 68 #[.int .i64 k,.pointer (some ⟨D,0,none⟩)] w0 λr w'=>r=.int .i64 (min k F)/\Blk w' D 3 [.int .i64 (min k F-1)]/\Fr [D] w0 w':=by
 exact we [(0,.int .i64 k),(1,.pointer (some ⟨D,0,none⟩))] func68 U ntmps68 U (.c2 U U) (sr (asg U (nn (sr (mv U (z2j U hb na3 (u2z U U U (asg U (nn (sr (mv U (z1u U (wi6 oo) (z2u U hb U sz3 (λw1 hb I z1=>(nn (sr (mv U (asg U (nn (rt (r1 results68 U ⟨_,rfl,rfl,hb,((Fr.refl [D] _).z1 I)⟩)))))))))))))))))))))
theorem y3m:z2a prog 26:=λ_=>kr0
theorem u1l (i:Nat)(gT gB:Nat)(A1 A2:Option Addr)(c1 c2:Nat)(bs:List Int)(w0:World)(Z:Blk w0 gT 26 [.slice A1 bs.length c1])(I:Blk w0 gB 26 [.slice A2 bs.length c2])(hs:Sl Enc.i64 w0 (.slice A2 bs.length c2) bs)(hi:i<bs.length):Rets prog 70 #[.int .i64 (i:Int),.pointer (some ⟨gT,0,none⟩),.pointer (some ⟨gB,0,none⟩)] w0 λr w'=>r=.int .i64 (y2a bs i:Int)/\Fr [] w0 w':=by
 have hM:=hs.len_le;unfold maxLen at hM;refine we [(0,.int .i64 (i:Int)),(1,.pointer (some ⟨gT,0,none⟩)),(2,.pointer (some ⟨gB,0,none⟩))] func70 U ntmps70 U (.c3 U U U) (sr (asg U (nn (sr (mv U (z0q U (wi6 oo) (asg U (nn (sq (bl (lpK (ι:=Nat) [(0,_),(1,_),(2,_)] (λe=>[(5,.int .i64 (e:Int))]) (λe w'=>Fr [] w0 w'/\i<e/\e<=bs.length/\∀j,i<j->j<e->bs.getD j 0=bs.getD i 0) (λe=>bs.length-e) (i+1) (.c4 U U U U) ⟨Fr.refl _ _,⟨oo,oo,λj h1 h2=>oo⟩⟩ ?_)))))))))));rintro e w1 ⟨q1,⟨a3,a4,a0⟩⟩;have z1:=q1.size;refine kpC [(0,_),(1,_),(2,_),(5,_)] (.c4 U U U U) (sq (sq ?_));replace Z:=Z.ext q1;replace I:=I.ext q1;replace hs:=hs.ext q1;intro a h;refine z7m z2y kr0 (z3c h U λa h=>y6j h U (λ_ O=>Z.ext O) y3m U λa h=>y6v h U underlying26 U λa h=>j3k h U U U λa h=>z3c h U λa h=>?_);refine gSp (D:=12) h U ?_ ?_;clear h;intro g0 h;refine z1y h U U U U (y6j h U (λ_ O=>I.ext O) y3m U λa h=>z1y h U U U U (z3c h U λa h=>z1y h U U U U (y4g (p:=e) (0) h U hs U z3b oo oo oo U λa5 a1 a h=>?_)));refine z1y h U U U U (z8f h U (λ_ O=>a1 _ (hs.ext O)) na3 U λa h=>z1y h U U U U (y6j h U (λ_ O=>I.ext O) y3m U λa h=>z1y h U U U U (z3c h U λa h=>?_)));refine z1y h U U U U (y4g (p:=i) (0) h U hs U z3b oo oo oo U λa6 a2 a h=>z1y h U U U U (z8f h U (λ_ O=>a2 _ (hs.ext O)) na3 U λa h=>z1y h U U U U (k4g h U U U λa h=>?_)));refine z7h h U λa h=>wpQuiet_nil ?_;intro w2 q2;have z2:=q2.size;refine bk (h.sub (L':=[(0,_),(1,_),(2,_),(5,_),(22,_)]) (.c5 U U U U U)) (tn (cd U (λc0=>?_) (λc0=>?_)));refine sk (tn (bl (rg (mv U (z0q U (wi6 oo) (asg U (nl (bn' ?_))))))));exact lpE (e+1) (.c4 U U U U) ⟨(q1.n1 q2),⟨oo,oo,λj h1 h2=>by
  rcases Nat.lt_or_ge j e with h|h
  exact a0 j h1 h;have e':j=e:=by omega
  subst e';omega⟩⟩ oo
 exact ex (te (te (xh (tn (sr (mv U (asg U (kpL [(4,_)] (.cons U .nil) (nn (rt (r1 results70 U ⟨_,rfl,by rw[u9p a3 a4 a0 oo],(q1.n1 q2)⟩)))))))))));clear h;intro g0 h;refine z1k h U U U U λa h=>z1k h U U U U λa h=>z1k h U U U U λa h=>z1k h U U U U λa h=>z1k h U U U U λa h=>z1k h U U U U λa h=>z1k h U U U U λa h=>z1k h U U U U λa h=>z1k h U U U U λa h=>z3v h U λa h=>wpQuiet_nil ?_;intro w3 q3;have z3:=q3.size;exact bk (h.sub (L':=[(0,_),(1,_),(2,_),(5,_),(22,_)]) (.c5 U U U U U)) (tn (cf U (ex (te (te (xh (tn (sr (mv U (asg U (kpL [(4,_)] (.cons U .nil) (nn (rt (r1 results70 U ⟨_,rfl,by rw[u9p a3 a4 a0 oo],(q1.n1 q3)⟩))))))))))))))
def u4u (os:List MOp):Nat->List UInt8
  | 0=>[]
  | n+1=>u4u os n++(if 0<n then [59,32] else [])++j6c (os.getD n op0)
def k5h (os:List MOp):List UInt8:=u4u os os.length
theorem v0u (D:List MOp):∀n,(u4u D n).length<=32*n
 | 0=>by simp[u4u]
 | n+1=>by
  have I:=v0u D n
  have O:=x2h (D.getD n op0)
  have Z:(if 0<n then [59,32] else ([]:List UInt8)).length<=2:=by split<;>simp
  simp only[u4u,List.length_append];omega
theorem x4g (v:Value)(D:List MOp)(w0:World)(hG:Glob w0)(O:Sl y0v w0 v D)(hl:D.length<=10000000):Rets prog 24 #[v] w0 λr w'=>r=S (k5h D)/\Fr [] w0 w':=by
 obtain⟨A,c,rfl,a4,hM,hA⟩:=id O;clear hA;have a3:=hG.sz;refine we [(0,.slice A D.length c)] func24 U ntmps24 U (.cons U .nil) ?_;have a2:=O;have a1:=hG;refine sr (asg U (nn (sr (asg U (nn (sq (sr (asg U (nn (bl (lpK (ι:=Nat) [(0,_)] (λi=>[(3,S (u4u D i)),(4,.int .i64 (i:Int))]) (λi w'=>Fr [] w0 w'/\i<=D.length) (λi=>D.length-i) 0 (.c3 U U U) ⟨Fr.refl _ _,Nat.zero_le _⟩ ?_)))))))))));rintro i w1 ⟨Z,hi⟩;have z1:=Z.size;refine kpC [(0,_),(3,_),(4,_)] (.c3 U U U) ?_;have hfl:=v0u D i;refine sq (sr (mv U (mv U (lnS U underlying30 (lt' U (nn (cd U (λc0=>?_) (λc0=>?_))))))));refine sk (tn (sq (bl (sq (sr (mv U (gt' U (nn (cd U (λc1=>?_) (λc1=>?_))))))))));refine rg (mv U (x5h U U (by have:=x2h (D.getD i op0);first|omega|(simp only[List.length_append,List.length_cons,List.length_nil];omega)) U (asg U (nl (tn (rg (mv U (mv U (mv U ?_)))))))));replace O:=a2.ext Z;refine z0x (p:=i) (op0) U O U y8q oo (λa0 I=>(z1t U (I _ O) v4e ?_));replace hG:=a1.ext Z;refine cl (ev1 U) (mkC func65) (u1w (D.getD i op0) _ hG) U ?_;rintro _ w2 ⟨rfl,q2⟩;have z2:=q2.size;refine x5h U U (by have:=x2h (D.getD i op0);first|omega|(simp only[List.length_append,List.length_cons,List.length_nil];omega)) U (asg U (kpL [(0,_),(3,_),(4,_)] (.c3 U U U) (nl (bn' (tn (rg (mv U (z0q U (wi6 oo) (asg U (nl ?_))))))))));exact lpE (i+1) (.c3 U (congrArg (λz=>some (S z)) (by simp only[u4u];first|rw[if_pos oo]|rw[if_neg oo,List.append_nil])) U) ⟨(Z.n1 q2),oo⟩ oo;refine sk (tn (rg (mv U (mv U (mv U ?_)))));replace O:=a2.ext Z;refine z0x (p:=i) (op0) U O U y8q oo (λa0 I=>(z1t U (I _ O) v4e ?_));replace hG:=a1.ext Z;refine cl (ev1 U) (mkC func65) (u1w (D.getD i op0) _ hG) U ?_;rintro _ w3 ⟨rfl,q3⟩;have z3:=q3.size;refine x5h U U (by have:=x2h (D.getD i op0);first|omega|(simp only[List.length_append,List.length_cons,List.length_nil];omega)) U (asg U (kpL [(0,_),(3,_),(4,_)] (.c3 U U U) (nl (bn' (tn (rg (mv U (z0q U (wi6 oo) (asg U (nl ?_))))))))));exact lpE (i+1) (.c3 U (congrArg (λz=>some (S z)) (by simp only[u4u];first|rw[if_pos oo]|rw[if_neg oo,List.append_nil])) U) ⟨(Z.n1 q3),oo⟩ oo;obtain rfl:i=D.length:=by omega
 exact ex (te (te (xh (tn (sr (mv U (asg U (nn (rt (r1 results24 U ⟨_,rfl,rfl,Z⟩))))))))))
theorem v6q (v u:Value)(xs ys:List Int)(w0:World)(hs:Sl Enc.i64 w0 v xs)(ht:Sl Enc.i64 w0 u ys):Rets prog 25 #[v,u] w0 λr w'=>r=.bool (decide (xs=ys))/\Fr [] w0 w':=by
 obtain⟨A,c,rfl,a9,hM,hA⟩:=id hs;obtain⟨A1,a1,rfl,a8,a3,a2⟩:=id ht;clear hA a2;unfold maxLen at hM a3;refine we [(0,.slice A xs.length c),(1,.slice A1 ys.length a1)] func25 U ntmps25 U (.c2 U U) ?_;have a4:=hs;have a5:=ht;refine sr (asg U (nn (sq (sr (mv U (lnS U underlying26 (mv U (lnS U underlying26 (ne' U (nn (cd U (λc0=>?_) (λc0=>?_))))))))))));refine sr (asg U (nn (rt (tr (r1 results25 U ?_)))));exact⟨_,rfl,by first|rw[decide_eq_false (λh=>by have:=congrArg List.length h;omega)]|rw[decide_eq_false (λh=>c2 (by rw[h]))]|rw[decide_eq_true (show xs=ys from List.ext_getElem oo (λj I O=>by rw[Go.Lw.getD_at xs j I 0,Go.Lw.getD_at ys j O 0];exact he j oo))],(Fr.refl _ _)⟩;refine sk (tn (sq (sr (asg U (nn (bl (lpK (ι:=Nat) [(0,_),(1,_)] (λi=>[(5,.int .i64 (i:Int))]) (λi w'=>Fr [] w0 w'/\i<=xs.length/\∀j,j<i->xs.getD j 0=ys.getD j 0) (λi=>xs.length-i) 0 (.c3 U U U) ⟨Fr.refl _ _,⟨Nat.zero_le _,λj hj=>absurd hj (Nat.not_lt_zero j)⟩⟩ ?_)))))));rintro i w1 ⟨D,⟨hi,he⟩⟩;have z1:=D.size;refine kpC [(0,_),(1,_),(5,_)] (.c3 U U U) (sq (sr (mv U (mv U (lnS U underlying26 (lt' U (nn (cd U (λc1=>?_) (λc1=>?_)))))))));refine sk (tn (sq (bl (sq ?_))));replace hs:=a4.ext D;replace ht:=a5.ext D;intro a h;refine z7m z2y kr0 (z3c h U λa h=>z3c h U λa h=>y4g (p:=i) (0) h U hs U z3b oo oo oo U λa6 Z a h=>z8f h U (λ_ hw=>Z _ (hs.ext hw)) na3 U λa h=>z3c h U λa h=>?_);refine z3c h U λa h=>y4g (p:=i) (0) h U ht U z3b oo oo oo U λa7 a0 a h=>z8f h U (λ_ hw=>a0 _ (ht.ext hw)) na3 U λa h=>k3l h U U U λa h=>wpQuiet_nil ?_;intro w2 q2;have z2:=q2.size;refine bk (h.sub (L':=[(0,_),(1,_),(5,_),(25,_)]) (.c4 U U U U)) (tn (cd U (λc2=>?_) (λc2=>?_)));refine sr (asg U (nn (rt (rb (tr (tr (rb (tr (r1 results25 U ?_)))))))));exact⟨_,rfl,by first|rw[decide_eq_false (λh=>by have:=congrArg List.length h;omega)]|rw[decide_eq_false (λh=>c2 (by rw[h]))]|rw[decide_eq_true (show xs=ys from List.ext_getElem oo (λj I O=>by rw[Go.Lw.getD_at xs j I 0,Go.Lw.getD_at ys j O 0];exact he j oo))],(D.n1 q2)⟩;refine sk (bn' (tn (rg (mv U (z0q U (wi6 oo) (asg U (nl ?_)))))));exact lpE (i+1) (.c3 U U U) ⟨(D.n1 q2),⟨oo,λj hj=>by
  rcases Nat.lt_or_ge j i with h|h
  exact he j h;have e':j=i:=by omega
  subst e';omega⟩⟩ oo
 refine ex (te (te (xh (tn (sr (asg U (nn (rt (r1 results25 U ?_)))))))));exact⟨_,rfl,by first|rw[decide_eq_false (λh=>by have:=congrArg List.length h;omega)]|rw[decide_eq_false (λh=>c2 (by rw[h]))]|rw[decide_eq_true (show xs=ys from List.ext_getElem oo (λj I O=>by rw[Go.Lw.getD_at xs j I 0,Go.Lw.getD_at ys j O 0];exact he j oo))],D⟩
theorem y5b {l:List Int}{i a b:Nat}:y3n l i a b true↔0<=z6f (l.getD (i+a+b-1) 0-(a:Int)-2*(b:Int)) (l.take i).reverse:=by simp[y3n]
theorem y5d {l:List Int}{i a b:Nat}:y3n l i a b false↔z6c (l.getD i 0+2*(a:Int)+(b:Int)) (l.drop (i+a+b))<=41:=by simp[y3n]
theorem v5j (v:Value)(l:List Int)(i a b:Nat)(fr:Bool)(w0:World)(D:Sl Enc.i64 w0 v l)(ha:Asc l)(hz:1<=a/\1<=b/\a+b<=4)(b5:i+a+b<=l.length):Rets prog 9 #[v,.int .i64 (i:Int),.int .i64 (a:Int),.int .i64 (b:Int),.bool fr] w0 λr w'=>r=.bool (decide (y3n l i a b fr))/\Fr [] w0 w':=by
 obtain⟨A,c,rfl,b4,hM,hA⟩:=id D;clear hA;have b6:=ha.len;have b2:=ha i oo;have b3:=ha (i+a+b-1) oo;refine we [(0,.slice A l.length c),(1,.int .i64 (i:Int)),(2,.int .i64 (a:Int)),(3,.int .i64 (b:Int)),(4,.bool fr)] func9 U ntmps9 U (.c5 U U U U U) ?_;have a4:=D;refine sr (asg U (nn (sq (sr (mv U (nn (cd U (λc0=>?_) (λc0=>?_))))))));subst c0;have a7:=y0t (l.take i).reverse (l.getD (i+a+b-1) 0-(a:Int)-2*(b:Int));refine sr (mv U (mv U (mv U (z0q U (wi6 oo) (mv U (z0q U (wi6 oo) (z1u U (wi6 oo) (z0x (p:=(i+a+b-1)) (0) U D U z3b oo (λa8 a0=>(z1a U (a0 _ D) na3 (mv U (z1u U (wi6 oo) (mv U (y4m U (wi6 oo) (z1u U (wi6 oo) (asg U (kpL [(0,_),(1,_),(11,_)] (.c3 U U U) (nn (sq (sr (mv U (z0q U (wi6 oo) (lt' U (nn (cd U (λc1=>?_) (λc1=>?_))))))))))))))))))))))))));exact sr (asg U (nn (rt (tr (tr (r1 results9 U ⟨_,rfl,by first|rw[decide_eq_true (y5b.2 oo)]|rw[decide_eq_true (y5d.2 oo)]|rw[decide_eq_false (λh=>by have:=y5b.1 h;omega)]|rw[decide_eq_false (λh=>by have:=y5d.1 h;omega)],(Fr.refl _ _)⟩))))));refine sk (tn (sq (sr (mv U (z1u U (wi6 oo) (asg U (nn (bl (lpK (ι:=Nat×Int×Int) [(0,_)] (λp=>[(11,.int .i64 p.2.1),(12,.int .i64 p.2.2)]) (λp w'=>Fr [] w0 w'/\p.1<=i/\p.2.1=frL l (l.getD (i+a+b-1) 0-(a:Int)-2*(b:Int)) i p.1/\p.2.2=(i:Int)-1-p.1/\0<=p.2.1/\p.2.1<=1000) (λp=>i-p.1) (0,(l.getD (i+a+b-1) 0-(a:Int)-2*(b:Int)),(i:Int)-1) (.c3 U U U) ⟨Fr.refl _ _,⟨Nat.zero_le _,rfl,sm,sm,sm⟩⟩ ?_)))))))));rintro⟨m,L,k⟩ w1 ⟨q1,⟨hm,hL,hk,I,O⟩⟩;simp only at hm hL hk I O;have z1:=q1.size;refine kpC [(0,_),(11,.int .i64 L),(12,.int .i64 k)] (.c3 U U U) (sq (sr (mv U (ge' U (nn (cd U (λc2=>?_) (λc2=>?_)))))));have Z:=x1d (l:=l) (F:=(l.getD (i+a+b-1) 0-(a:Int)-2*(b:Int))) (i:=i) (m:=m) oo oo;rw[<-show k.toNat=i-1-m by omega]at Z;have a5:=ha k.toNat oo;have a6:=j7b l (l.getD (i+a+b-1) 0-(a:Int)-2*(b:Int)) i (m+1);refine sk (tn (sq (bl (sr (mv U (mv U (mv U ?_)))))));replace D:=a4.ext q1;refine z0x (p:=k.toNat) (0) U D U z3b oo (λa9 a1=>(z1a U (a1 _ D) na3 (u2z U U U (asg U (kpL [(0,_),(11,_),(12,_)] (.c3 U U U) (nn (sq (sr (mv U (lt' U (nn (cd U (λc3=>?_) (λc3=>?_)))))))))))));exact sr (asg U (nn (rt (tr (rb (tr (tr (rb (tr (tr (r1 results9 U ⟨_,rfl,by first|rw[decide_eq_true (y5b.2 oo)]|rw[decide_eq_true (y5d.2 oo)]|rw[decide_eq_false (λh=>by have:=y5b.1 h;omega)]|rw[decide_eq_false (λh=>by have:=y5d.1 h;omega)],q1⟩)))))))))));exact sk (tn (rg (mv U (z1u U (wi6 oo) (asg U (nl (bn' (tn (rg (mv U (z1u U (wi6 oo) (asg U (nl (lpE ((m+1,min L (l.getD k.toNat 0)-1,k-1)) (.c3 U U U) ⟨q1,⟨sm,sm,sm,sm,sm⟩⟩ sm))))))))))))));obtain rfl:m=i:=by omega
 rw[v9r oo]at hL;exact ex (te (te (xh (tn (sr (asg U (nn (rt (tr (r1 results9 U ⟨_,rfl,by first|rw[decide_eq_true (y5b.2 oo)]|rw[decide_eq_true (y5d.2 oo)]|rw[decide_eq_false (λh=>by have:=y5b.1 h;omega)]|rw[decide_eq_false (λh=>by have:=y5d.1 h;omega)],q1⟩))))))))));obtain rfl:fr=false:=by simpa using c0
 have a7:=y0k (l.drop (i+a+b)) (l.getD i 0+2*(a:Int)+(b:Int));refine sk (tn (sr (mv U (mv U (z0x (p:=i) (0) U D U z3b oo (λb0 a2=>(z1a U (a2 _ D) na3 (mv U (y4m U (wi6 oo) (z0q U (wi6 oo) (mv U (z0q U (wi6 oo) (asg U (kpL [(0,_),(1,_),(2,_),(3,_),(13,_)] (.c5 U U U U U) (nn (sq (sr (mv U (z1u U (wi6 oo) (gt' U (nn (cd U (λc4=>?_) (λc4=>?_)))))))))))))))))))))));exact sr (asg U (kpL [(10,_)] (.cons U .nil) (nn (rt (tr (r1 results9 U ⟨_,rfl,by first|rw[decide_eq_true (y5b.2 oo)]|rw[decide_eq_true (y5d.2 oo)]|rw[decide_eq_false (λh=>by have:=y5b.1 h;omega)]|rw[decide_eq_false (λh=>by have:=y5d.1 h;omega)],(Fr.refl _ _)⟩))))));refine sk (tn (sq (sr (mv U (mv U (z0q U (wi6 oo) (mv U (z0q U (wi6 oo) (asg U (kpL [(0,_),(13,_),(14,_)] (.c3 U U U) (nn (bl (lpK (ι:=Nat×Int×Int) [(0,_)] (λp=>[(13,.int .i64 p.2.1),(14,.int .i64 p.2.2)]) (λp w'=>Fr [] w0 w'/\i+a+b+p.1<=l.length/\p.2.1=frR l (l.getD i 0+2*(a:Int)+(b:Int)) (i+a+b) p.1/\p.2.2=(i:Int)+a+b+p.1/\p.2.1<=41/\-1000<=p.2.1) (λp=>l.length-p.1) (0,(l.getD i 0+2*(a:Int)+(b:Int)),(i:Int)+(a:Int)+(b:Int)) (.c3 U U U) ⟨Fr.refl _ _,⟨sm,rfl,sm,sm,sm⟩⟩ ?_)))))))))))));rintro⟨m,L,k⟩ w2 ⟨q2,⟨hm,hL,hk,I,O⟩⟩;simp only at hm hL hk I O;have z2:=q2.size;refine kpC [(0,_),(13,.int .i64 L),(14,.int .i64 k)] (.c3 U U U) (sq (sr (mv U (mv U (lnS U underlying26 (lt' U (nn (cd U (λc5=>?_) (λc5=>?_)))))))));have Z:=x0r (l:=l) (F:=(l.getD i 0+2*(a:Int)+(b:Int))) (s:=i+a+b) (m:=m) oo;rw[<-show k.toNat=i+a+b+m by omega]at Z;have a5:=ha k.toNat oo;have a6:=k1u l (l.getD i 0+2*(a:Int)+(b:Int)) (i+a+b) (m+1);refine sk (tn (sq (bl (sr (mv U (mv U (mv U ?_)))))));replace D:=a4.ext q2;refine z0x (p:=k.toNat) (0) U D U z3b oo (λb1 a3=>(z1a U (a3 _ D) na3 (u0m U U U (asg U (kpL [(0,_),(13,_),(14,_)] (.c3 U U U) (nn (sq (sr (mv U (gt' U (nn (cd U (λc6=>?_) (λc6=>?_)))))))))))));exact sr (asg U (nn (rt (tr (rb (tr (tr (rb (tr (r1 results9 U ⟨_,rfl,by first|rw[decide_eq_true (y5b.2 oo)]|rw[decide_eq_true (y5d.2 oo)]|rw[decide_eq_false (λh=>by have:=y5b.1 h;omega)]|rw[decide_eq_false (λh=>by have:=y5d.1 h;omega)],q2⟩))))))))));exact sk (tn (rg (mv U (z0q U (wi6 oo) (asg U (nl (bn' (tn (rg (mv U (z0q U (wi6 oo) (asg U (nl (lpE ((m+1,max L (l.getD k.toNat 0)+1,k+1)) (.c3 U U U) ⟨q2,⟨sm,sm,sm,sm,sm⟩⟩ sm))))))))))))));rw[v8p oo]at hL;exact ex (te (te (xh (tn (sr (asg U (nn (rt (r1 results9 U ⟨_,rfl,by first|rw[decide_eq_true (y5b.2 oo)]|rw[decide_eq_true (y5d.2 oo)]|rw[decide_eq_false (λh=>by have:=y5b.1 h;omega)]|rw[decide_eq_false (λh=>by have:=y5d.1 h;omega)],q2⟩)))))))))
theorem v1g (l:List Int)(i:Nat)(h:i<l.length):(l.take (i+1)).sum=(l.take i).sum+l.getD i 0:=by
 rw[z1s l i h,List.sum_append];simp
theorem u8f {l:List Int}(hb:∀i,i<l.length->0<=l.getD i 0/\l.getD i 0<=1000):∀i,i<=l.length->0<=(l.take i).sum/\(l.take i).sum<=1000*(i:Int)
 | 0,_=>by simp
 | i+1,h=>by
  have D:=u8f hb i oo
  have I:=hb i oo
  rw[v1g l i oo];omega
theorem x7p (v:Value)(l:List Int)(w0:World)(I:Sl Enc.i64 w0 v l)(hb:∀i,i<l.length->0<=l.getD i 0/\l.getD i 0<=1000)(hl:l.length<=1000):Rets prog 53 #[v] w0 λr w'=>r=.int .i64 l.sum/\Fr [] w0 w':=by
 obtain⟨A,c,rfl,a2,hM,hA⟩:=id I;clear hA;refine we [(0,.slice A l.length c)] func53 U ntmps53 U (.cons U .nil) ?_;have Z:=I;refine sr (asg U (nn (sr (asg U (nn (sq (sr (mv U (lnS U underlying26 (mv U (nn (bl (lpK (ι:=Nat) [(6,_),(7,_)] (λi=>[(3,.int .i64 (l.take i).sum),(8,.int .i64 (i:Int))]) (λi w'=>Fr [] w0 w'/\i<=l.length) (λi=>l.length-i) 0 (.c4 U U U U) ⟨Fr.refl _ _,Nat.zero_le _⟩ ?_)))))))))))));rintro i w1 ⟨O,hi⟩;have z1:=O.size;refine kpC [(6,_),(7,_),(3,_),(8,_)] (.c4 U U U U) ?_;have a3:=u8f hb i hi;refine sr (lt' U (nn (sq (cd U (λc0=>?_) (λc0=>?_)))));have a1:=hb i oo;refine sk (tn (sq (bl (sr ?_))));replace I:=Z.ext O;refine z0x (p:=i) (0) U I U z3b oo (λa0 D=>(z1a U (D _ I) na3 (asg U (nn (rg (mv U (mv U (z0q U (wi6 oo) (asg U (nl (bn' (tn (rg (z0q U (wi6 oo) (mv U (nl ?_))))))))))))))));exact lpE (i+1) (.c4 U U (congrArg (λz=>some (Value.int .i64 z)) (v1g l i oo).symm) U) ⟨O,oo⟩ oo;obtain rfl:i=l.length:=by omega
 exact ex (te (te (xh (tn (sr (mv U (asg U (kpL [(2,_)] (.cons U .nil) (nn (rt (r1 results53 U ⟨_,rfl,by rw[List.take_length],O⟩)))))))))))
theorem k2j:z4i prog 79 4:=⟨λ_=>kr0,λ_=>kr0⟩
theorem bo79:BuildAt prog 79 [(0,1),(1,1),(2,1),(3,1)] [(.slice none 0 0),(.slice none 0 0),(.int .i64 0),(.slice none 0 0)]:=BuildAt.struct underlying79 (λ_=>kr0) (λ_=>kr0)
theorem y2m:z0y prog 79 0 0:=λ_ _=>kr0
theorem u0t:z0y prog 79 1 1:=λ_ _=>kr0
theorem x4j:z0y prog 79 3 3:=λ_ _=>kr0
theorem v5f:z1r prog 26 1:=λ_=>kr0
theorem k0p:z1r prog 79 4:=λ_=>kr0
theorem j7p (w:World):(zeroValue 79).run prog w=.ok (.agg #[(.slice none 0 0),(.slice none 0 0),(.int .i64 0),(.slice none 0 0)]) w:=kr0
theorem u3x {l:List Int}{i a b:Nat}:((z2z l i a b true).take (i+a+b)).drop (i+a)=x7a l i a b true:=rfl
theorem u7g {l:List Int}{i a b:Nat}:((z2z l i a b false).take (i+a)).drop i=x7a l i a b false:=rfl
theorem v3j (v:Value)(l:List Int)(i O b:Nat)(w0:World)(hs:Sl Enc.i64 w0 v l)(ha:Asc l)(hz:1<=O/\1<=b/\O+b<=4)(b3:i+O+b<=l.length):Rets prog 28 #[v,.int .i64 (i:Int),.int .i64 (O:Int),.int .i64 (b:Int)] w0 λr w'=>∃vr va vb,r=.tuple #[.agg #[vr,va,.int .i64 (byC O b false),vb],.bool (decide (y3n l i O b false))]/\Lw.Own Enc.i64 3 w0.heap.size w' vr (z2z l i O b false)/\Lw.Own Enc.i64 3 w0.heap.size w' va (x7a l i O b false)/\Lw.Own Enc.i64 3 w0.heap.size w' vb (x9g l i O b false)/\Fr [] w0 w':=by
 obtain⟨A,c,rfl,g9,hM,hA⟩:=id hs;clear hA;have h2:=ha.len;have g4:=ha i oo;have g5:=ha (i+O+b-1) oo;have d5:l≠[]:=λe=>by have:=congrArg List.length e;simp only[List.length_nil]at this;omega
 have b8:=hs.blk d5;have g3:(z1q l i O b false)=l.getD i 0+2*(O:Int)+(b:Int):=rfl;refine we [(0,.slice A l.length c),(1,.int .i64 (i:Int)),(2,.int .i64 (O:Int)),(3,.int .i64 (b:Int))] func28 U ntmps28 U (.c4 U U U U) ?_;have e1:=hs;refine sr (al j7p U (λg8 w1 h0 a5 q1 z1=>(asg U (nn (sr (mv U (mv U ?_)))))));replace hs:=e1.ext q1;refine z0x (p:=i) (0) U hs U z3b oo (λf5 d1=>(z1a U (d1 _ hs) na3 (asg U (nn (sr (mv U (cl (ev1 U) j4e (z7a _ _ _ hs oo) U ?_)))))));rintro _ w2 ⟨Z,q2⟩;have z2:=q2.size;rcases Z with ⟨_,e⟩|⟨gR,cR,cur,rfl,h1,rA⟩
 exact absurd e d5;have Z:Lw.Own Enc.i64 3 w0.heap.size w2 (.slice (some ⟨gR,0,none⟩) l.length cR) (l):=.inr ⟨gR,cR,cur,rfl,oo,rA⟩;have g7:=rA.2.1;clear rA;have g0:=(Z.blk gR (by simp[z0u])).2;refine mv U (mv U (z0q U (wi6 oo) (z1z (cs:=[_,_,_,_]) (ev2 U) bo79 (z0f U (z0f U z0t)) U (al j7p U (λc9 w3 f7 D q3 z3=>?_)))));refine z0k U D k0p (λw4 D q4 z4=>?_) (hl:=rfl);refine kpL [(0,_),(1,_),(2,_),(3,_),(8,_),(10,_),(11,_)] (.c7 U U U U U U U) (nn (sq (sr (mv U (mv U (z0q U (wi6 oo) (mv U (nn (bl ?_)))))))));replace Z:=(Z.ext q3).fr q4 (by first|exact z9q Z oo|simp[z0u]<;>omega);refine lpK (ι:=Nat) [(0,_),(1,_),(2,_),(3,_),(8,_),(10,_),(11,_),(29,_)] (λj=>[(30,.int .i64 (j:Int))]) (λj w'=>Fr [gR] w4 w'/\j<=O+b/\Lw.Own Enc.i64 3 w0.heap.size w' (.slice (some ⟨gR,0,none⟩) l.length cR) (z4f l i (run (l.getD i 0) j))) (λj=>O+b-j) 0 (.d8 U U U U U U U U (.cons U .nil)) ⟨Fr.refl _ _,⟨Nat.zero_le _,by rw[show run (l.getD i 0) 0=[] from U,y0r];exact Z⟩⟩ ?_;rintro j w5 ⟨q5,⟨hj,Z⟩⟩;have z5:=q5.size;refine kpC [(0,_),(1,_),(2,_),(3,_),(8,_),(10,_),(11,_),(29,_),(30,_)] (.d8 U U U U U U U U (.cons U .nil)) ?_;have hfl:(z4f l i (run (l.getD i 0) j)).length=l.length:=z4p (by rw[z3y];omega);refine sr (lt' U (nn (sq (cd U (λc0=>?_) (λc0=>?_)))));refine sk (tn (sq (bl (sr (mv U (asg U (nn (rg (fad U y2m ?_)))))))));replace D:=D.fr q5;refine z0i U D U y3m (mv U (mv U (z0q U (wi6 oo) (mv U (mv U (z0q U (wi6 oo) (v4z (p:=i+j) (_) U Z U U (by intro e;cases e) z3b sz3 U (by rw[hfl];omega) U U (λw6 Z q6 z6=>?_))))))));rw[x1k oo oo]at Z;replace q6:Fr [gR] _ _:=q6;exact kpL [(0,_),(1,_),(2,_),(3,_),(8,_),(10,_),(11,_),(29,_),(30,_)] (.d8 U U U U U U U U (.cons U .nil)) (nl (bn' (tn (rg (z0q U (wi6 oo) (mv U (nl (lpE (j+1) (.d8 U U U U U U U U (.cons U .nil)) ⟨((Fr.refl [gR] _).z2 q5 q6),⟨oo,Z⟩⟩ oo))))))));obtain rfl:j=O+b:=by omega
 refine ex (te (te (xh (tn (sr (mv U (mv U (y4m U (wi6 oo) (z0q U (wi6 oo) (mv U (z0q U (wi6 oo) (al zv3 U (λa7 w7 f8 I q7 z7=>(z2u U I U sz3 (λw8 I q8 z8=>(kpL [(0,_),(1,_),(2,_),(3,_),(8,_),(10,_),(11,_),(13,_)] (.c8 U U U U U U U U) (nn (sr (z4q z0g (ev1 U) (asg U (nn (sq (sr (mv U (mv U (z0q U (wi6 oo) (mv U (z0q U (wi6 oo) (asg U (nn (bl ?_)))))))))))))))))))))))))))))));replace Z:=(Z.ext q7).fr q8 (by first|exact z9q Z oo|simp[z0u]<;>omega);refine lpK (ι:=Nat×Int) [(0,_),(1,_),(2,_),(3,_),(8,_),(10,_),(11,_),(13,_),(14,_)] (λp=>[(15,.int .i64 p.2)]) (λp w'=>Fr [gR,a7] w8 w'/\p.1<=l.length-(i+O+b)/\p.2=(i:Int)+O+b+p.1/\Lw.Own Enc.i64 3 w0.heap.size w' (.slice (some ⟨gR,0,none⟩) l.length cR) (z8w l i O b false p.1)/\Blk w' a7 3 [.int .i64 (frR l (z1q l i O b false) (i+O+b) p.1)]) (λp=>l.length-p.1) (0,(i:Int)+(O:Int)+(b:Int)) (.d8 U U U U U U U U (.c2 U U)) ⟨Fr.refl _ _,⟨Nat.zero_le _,sm,by rw[x8l oo];exact Z,I⟩⟩ ?_;rintro⟨m,k⟩ w9 ⟨q9,⟨hm,hk,Z,I⟩⟩;simp only at hm hk Z I;have z9:=q9.size;have e2:=I.lt;refine kpC [(0,_),(1,_),(2,_),(3,_),(8,_),(10,_),(11,_),(13,_),(14,_),(15,.int .i64 k)] (.d8 U U U U U U U U (.c2 U U)) ?_;have hfl:(z8w l i O b false m).length=l.length:=y6t b3 hm;refine sq (sr (mv U (mv U (lnS U underlying26 (lt' U (nn (cd U (λc1=>?_) (λc1=>?_))))))));have g6:=ha (i+O+b+m) oo;have h3:=x0r (l:=l) (F:=(z1q l i O b false)) (s:=i+O+b) (m:=m) oo;have e6:=k0q ha (m:=m) hz b3 oo;refine sk (tn (sq (bl ?_)));replace hs:=e1.ext ((q1.z6 q2 q3 q4 q5 q7 q8).z1 q9);replace D:=(((D.fr q5).ext q7).fr q8).fr q9;intro a h;have a3:=Fr.refl [gR,a7] w9;refine z3j (λwb w'=>Fr [gR,a7] wb w') z2y ?_;intro e3 hq;have h8:=hq.size;replace hs:=hs.ext hq;replace D:=D.ext hq;replace Z:=Z.ext hq;replace I:=I.ext hq;replace a3:=a3.next hq;have e8:=hq.size;clear hq;have hC:Fr [gR,a7] e3 e3:=Fr.refl _ _;have b6:=hs;have a1:=D;have e0:=Z;have a4:=I;refine z0c 0 h U y2m U λa h=>z0j 1 h U (λ_ hw=>a1.fr hw se) U y3m U λa h=>z0d 2 h U λa h=>z0d 3 h U λa h=>z0d 4 h U λa h=>z0d 5 h U λa h=>z1e (p:=(i+O+b+m)) (0) 6 h U hs U z3b U λf6 d3 a h=>z2h 7 h U (λ_ hw=>d3 _ (b6.fr hw (by intro k hk hb;simp at hk;have:=b8 k hb;omega))) na3 U λa h=>z0e 8 U ?_;refine z4y (us:=[]) (ws:=[.pointer (some ⟨a7,0,none⟩)]) h U (z0a U z0g) (mkC func67) (u2y (l.getD (i+O+b+m) 0) _ a7 _ I oo oo) (by intro g e;cases e) ?_;rintro _ h4 ⟨rfl,I,hq⟩ a h;have h9:=hq.size;replace hs:=hs.fr hq (by intro k hk hb;simp at hk;have:=b8 k hb;omega);replace D:=D.fr hq;replace Z:=Z.fr hq (by simp[z0u]<;>omega);replace a3:=a3.sp hq;replace hC:=hC.sp hq;clear hq;refine z0b (z1o 9 kr0 hC h wn U z3b oo oo (show _=(i+O+b+m) by omega) U U λa h=>z0e 10 U (z1c (i:=(i+O+b+m)) (_) h U Z (by rw[hfl];omega) U sz3 λh5 d9 hq hz a h=>?_));have f3:=hq.size;replace hs:=hs.fr hq (by intro k hk hb;simp at hk;have:=b8 k hb;omega);replace D:=D.fr hq;replace I:=I.fr hq;replace a3:=a3.sp hq;replace hC:=hC.sp hq;clear Z hq hz;have Z:=d9;clear d9;rw[v7k oo]at Z;refine z0b (z0r ?_);clear hC b6 a1 e0 a4;have f3:=a3.size;exact bk (h.sub (L':=[(0,_),(1,_),(2,_),(3,_),(8,_),(10,_),(11,_),(13,_),(14,_),(15,_)]) (.d8 U U U U U U U U (.c2 U U))) (bn' (tn (rg (mv U (z0q U (wi6 oo) (asg U (nl (lpE ((m+1,k+1)) (.d8 U U U U U U U U (.c2 U U)) ⟨((Fr.refl [gR,a7] _).z2 q9 a3),⟨sm,sm,Z,by rw[x0r oo];exact I⟩⟩ sm))))))));obtain rfl:l.length-(i+O+b)=m:=by omega
 have d4:=v7l (l:=l) (i:=i) (b:=b) b3;have d7:Lw.Own Enc.i64 3 w0.heap.size w9 (.slice (some ⟨gR,0,none⟩) l.length cR) (z2z l i O b false):=Z;clear Z;have Z:=d7;clear d7;have hfl:(z2z l i O b false).length=l.length:=z4l b3;have d6:z2z l i O b false≠[]:=λe=>by rw[e]at hfl;simp at hfl;omega
 have e6:=k0q ha (m:=l.length-(i+O+b)) hz b3 oo;refine ex (te (te (xh (tn (sr (fad U y2m ?_))))));replace D:=(((D.fr q5).ext q7).fr q8).fr q9;refine z0i U D U y3m (mv U (mv U (mv U (z0q U (wi6 oo) (v9x (p:=i) (p':=(i+O)) U U U z3b oo oo oo oo oo U (cl (ev1 U) j4e (z7a _ _ _ (Z.sl.cutv (p:=i) (p':=i+O) oo (by rw[hfl];omega)) so) U ?_))))));rintro vA h6 ⟨a8,b0⟩;have i0:=b0.size;have b5:=a8.blk;obtain⟨AA,g1,rfl,_⟩:=a8.sl.form;refine fad U u0t ?_;replace D:=D.ext b0;refine z5w U U D U v5f (λe9 D b4 i1=>?_);replace D:Blk e9 c9 _ [_,_,_,_]:=D;refine kpL [(1,_),(2,_),(3,_),(8,_),(10,_),(11,_),(13,_)] (.c7 U U U U U U U) (nn (sr (fad U y2m (z0i U D U y3m ?_))));replace Z:=(Z.ext b0).fr b4 (by first|exact z9q Z oo|simp[z0u]<;>omega);refine cl (ev1 U) j4e (z7a _ _ _ Z.sl (by rw[hfl];omega)) U ?_;rintro _ f0 ⟨a0,a9⟩;have i2:=a9.size;replace a8:=(a8.fr b4 (by intro k hk hb;simp at hk;subst hk;have:=b5 _ hb;omega)).ext a9;rw[u7g]at a8;rcases a0 with ⟨_,e⟩|⟨gB,cB,cur,e,e7,rA⟩
 exact absurd e d6;rw[hfl]at e;subst e;have a0:Lw.Own Enc.i64 3 w0.heap.size f0 (.slice (some ⟨gB,0,none⟩) l.length cB) (z2z l i O b false):=.inr ⟨gB,cB,cur,by rw[hfl],Nat.le_trans oo e7,rA⟩;clear rA;have f9:=(a0.blk gB (by simp[z0u])).2;refine fad U x4j ?_;replace D:=D.ext a9;refine z5w U U D U v5f (λe4 D b1 i3=>?_);replace D:Blk e4 c9 _ [_,_,_,_]:=D;refine nn (sq (sr (mv U (mv U (z0q U (wi6 oo) (mv U (nn (bl ?_))))))));replace a0:=a0.fr b1 (by first|exact z9q a0 oo|simp[z0u]<;>omega);refine lpK (ι:=Nat) [(1,_),(2,_),(8,_),(10,_),(11,_),(13,_),(86,_)] (λj=>[(87,.int .i64 (j:Int))]) (λj w'=>Fr [gB] e4 w'/\j<=O+b/\Lw.Own Enc.i64 3 w0.heap.size w' (.slice (some ⟨gB,0,none⟩) l.length cB) (z4f (z2z l i O b false) i (run (behP l i O b false) j))) (λj=>O+b-j) 0 (.c8 U U U U U U U U) ⟨Fr.refl _ _,⟨Nat.zero_le _,by rw[show run (behP l i O b false) 0=[] from U,y0r];exact a0⟩⟩ ?_;rintro j f1 ⟨a6,⟨hj,a0⟩⟩;have i4:=a6.size;refine kpC [(1,_),(2,_),(8,_),(10,_),(11,_),(13,_),(86,_),(87,_)] (.c8 U U U U U U U U) ?_;have b2:=hfl;have hfl:(z4f (z2z l i O b false) i (run (behP l i O b false) j)).length=l.length:=by rw[z4p (by rw[z3y,b2];omega),b2]
 refine sr (lt' U (nn (sq (cd U (λc2=>?_) (λc2=>?_)))));refine sk (tn (sq (bl (sr (mv U (asg U (nn (rg (fad U x4j ?_)))))))));replace D:=D.fr a6;refine z0i U D U y3m (mv U (mv U (z0q U (wi6 oo) (mv U (mv U (z0q U (wi6 oo) (mv U (z0q U (wi6 oo) (v4z (p:=i+j) (_) U a0 U U (by intro e;cases e) z3b sz3 U (by rw[hfl];omega) U U (λh7 a0 b9 i5=>?_))))))))));rw[x1k (by simp only[behP,Bool.false_eq_true,if_false]<;>omega) (by rw[b2];omega)]at a0;replace b9:Fr [gB] _ _:=b9;exact kpL [(1,_),(2,_),(8,_),(10,_),(11,_),(13,_),(86,_),(87,_)] (.c8 U U U U U U U U) (nl (bn' (tn (rg (z0q U (wi6 oo) (mv U (nl (lpE (j+1) (.c8 U U U U U U U U) ⟨((Fr.refl [gB] _).z2 a6 b9),⟨oo,a0⟩⟩ oo))))))));obtain rfl:j=O+b:=by omega
 refine ex (te (te (xh (tn (sq ?_)))));replace a5:=((((((((((a5.ext (q2.n1 q3)).fr q4).fr q5).ext q7).fr q8).fr q9).ext b0).fr b4).ext a9).fr b1).fr a6;replace D:=D.fr a6;replace I:=((((I.ext b0).fr b4).ext a9).fr b1).fr a6;intro a h;have a2:=Fr.refl [g8] f1;refine z3j (λwb w'=>Fr [g8] wb w') z2y ?_;intro e5 hq;have i7:=hq.size;replace a5:=a5.ext hq;replace D:=D.ext hq;replace I:=I.ext hq;replace a2:=a2.next hq;have e8:=hq.size;clear hq;have hC:Fr [g8] e5 e5:=Fr.refl _ _;have b7:=a5;have a1:=D;have a4:=I;refine z0z 0 h U (λ_ hw=>a1.fr hw se) k2j U λa h=>z3u 1 h U (λ_ hw=>a4.fr hw se) na3 U λa h=>z3e 2 h U (by first|exact i6 oo|rfl) U λa h=>k4z 3 kr0 hC h wn U U U U λa h=>z0e 4 U ?_;refine z0v h U a5 U k0p λf2 d0 hq hz a h=>?_;have f4:=hq.size;replace D:=D.fr hq;replace I:=I.fr hq;replace a2:=a2.sp hq;replace hC:=hC.sp hq;clear a5 hq hz;have a5:Blk f2 g8 _ [_,_,_,_]:=d0;clear d0;refine z0b (z0e 5 U (z0s h U λa h=>?_));refine z0b (z0r ?_);clear hC b7 a1 a4;have f4:=a2.size;refine bk (h.sub (L':=[(8,_),(9,_)]) (.c2 U U)) (tn (rt (rCT results28 U a5 k2j U ?_)));replace Z:=(((Z.ext a9).fr b1 (by first|exact z9q Z oo|simp[z0u]<;>omega)).fr a6 (by first|exact z9q Z oo|simp[z0u]<;>omega)).fr a2 (by first|exact z9q Z oo|simp[z0u]<;>omega);replace a8:=((a8.fr b1 (by intro k hk hb;simp at hk;subst hk;have:=b5 _ hb;omega)).fr a6 (by intro k hk hb;simp at hk;subst hk;have:=b5 _ hb;omega)).fr a2 (by intro k hk hb;simp at hk;subst hk;have:=b5 _ hb;omega);replace a0:=a0.fr a2 (by first|exact z9q a0 oo|simp[z0u]<;>omega);exact⟨_,rfl,_,_,_,by rw[decide_eq_decide.2 d4];rfl,Z,a8.low oo,a0,((((q1.z6 q2 q3 q4 q5 q7 q8).z1 q9).n1 b0).z5 b4 a9 b1 a6 a2)⟩
theorem v8b (v:Value)(l:List Int)(i O b:Nat)(w0:World)(hs:Sl Enc.i64 w0 v l)(ha:Asc l)(hz:1<=O/\1<=b/\O+b<=4)(b0:i+O+b<=l.length):Rets prog 29 #[v,.int .i64 (i:Int),.int .i64 (O:Int),.int .i64 (b:Int)] w0 λr w'=>∃vr va vb,r=.tuple #[.agg #[vr,va,.int .i64 (byC O b true),vb],.bool (decide (y3n l i O b true))]/\Lw.Own Enc.i64 3 w0.heap.size w' vr (z2z l i O b true)/\Lw.Own Enc.i64 3 w0.heap.size w' va (x7a l i O b true)/\Lw.Own Enc.i64 3 w0.heap.size w' vb (x9g l i O b true)/\Fr [] w0 w':=by
 obtain⟨A,c,rfl,g9,hM,hA⟩:=id hs;clear hA;have h2:=ha.len;have g4:=ha i oo;have g5:=ha (i+O+b-1) oo;have d5:l≠[]:=λe=>by have:=congrArg List.length e;simp only[List.length_nil]at this;omega
 have b8:=hs.blk d5;have g3:(z1q l i O b true)=l.getD (i+O+b-1) 0-(O:Int)-2*(b:Int):=rfl;refine we [(0,.slice A l.length c),(1,.int .i64 (i:Int)),(2,.int .i64 (O:Int)),(3,.int .i64 (b:Int))] func29 U ntmps29 U (.c4 U U U U) ?_;have e1:=hs;refine sr (al j7p U (λg8 w1 h0 a5 q1 z1=>(asg U (nn (sr (mv U (mv U (mv U (z0q U (wi6 oo) (mv U (z0q U (wi6 oo) (z1u U (wi6 oo) ?_))))))))))));replace hs:=e1.ext q1;refine z0x (p:=(i+O+b-1)) (0) U hs U z3b oo (λf5 d1=>(z1a U (d1 _ hs) na3 (asg U (kpL [(0,_),(1,_),(2,_),(3,_),(8,_),(10,_)] (.c6 U U U U U U) (nn (sr (mv U (cl (ev1 U) j4e (z7a _ _ _ hs oo) U ?_))))))));rintro _ w2 ⟨Z,q2⟩;have z2:=q2.size;rcases Z with ⟨_,e⟩|⟨gR,cR,cur,rfl,h1,rA⟩
 exact absurd e d5;have Z:Lw.Own Enc.i64 3 w0.heap.size w2 (.slice (some ⟨gR,0,none⟩) l.length cR) (l):=.inr ⟨gR,cR,cur,rfl,oo,rA⟩;have g7:=rA.2.1;clear rA;have g0:=(Z.blk gR (by simp[z0u])).2;refine mv U (mv U (z0q U (wi6 oo) (k5t U (wi6 oo) U (z1z (cs:=[_,_,_,_]) (ev2 U) bo79 (z0f U (z0f U z0t)) U (al j7p U (λc9 w3 f7 D q3 z3=>?_))))));refine z0k U D k0p (λw4 D q4 z4=>?_) (hl:=rfl);refine kpL [(0,_),(1,_),(2,_),(3,_),(8,_),(10,_),(11,_)] (.c7 U U U U U U U) (nn (sq (sr (mv U (mv U (z0q U (wi6 oo) (mv U (nn (bl ?_)))))))));replace Z:=(Z.ext q3).fr q4 (by first|exact z9q Z oo|simp[z0u]<;>omega);refine lpK (ι:=Nat) [(0,_),(1,_),(2,_),(3,_),(8,_),(10,_),(11,_),(35,_)] (λj=>[(36,.int .i64 (j:Int))]) (λj w'=>Fr [gR] w4 w'/\j<=O+b/\Lw.Own Enc.i64 3 w0.heap.size w' (.slice (some ⟨gR,0,none⟩) l.length cR) (z4f l i (run (l.getD (i+O+b-1) 0-(O:Int)-(b:Int)+1) j))) (λj=>O+b-j) 0 (.d8 U U U U U U U U (.cons U .nil)) ⟨Fr.refl _ _,⟨Nat.zero_le _,by rw[show run (l.getD (i+O+b-1) 0-(O:Int)-(b:Int)+1) 0=[] from U,y0r];exact Z⟩⟩ ?_;rintro j w5 ⟨q5,⟨hj,Z⟩⟩;have z5:=q5.size;refine kpC [(0,_),(1,_),(2,_),(3,_),(8,_),(10,_),(11,_),(35,_),(36,_)] (.d8 U U U U U U U U (.cons U .nil)) ?_;have hfl:(z4f l i (run (l.getD (i+O+b-1) 0-(O:Int)-(b:Int)+1) j)).length=l.length:=z4p (by rw[z3y];omega);refine sr (lt' U (nn (sq (cd U (λc0=>?_) (λc0=>?_)))));refine sk (tn (sq (bl (sr (mv U (asg U (nn (rg (fad U y2m ?_)))))))));replace D:=D.fr q5;refine z0i U D U y3m (mv U (mv U (z0q U (wi6 oo) (mv U (mv U (z1u U (wi6 oo) (mv U (z1u U (wi6 oo) (z0q U (wi6 oo) (mv U (z0q U (wi6 oo) (v4z (p:=i+j) (_) U Z U U (by intro e;cases e) z3b sz3 U (by rw[hfl];omega) U U (λw6 Z q6 z6=>?_)))))))))))));rw[x1k oo oo]at Z;replace q6:Fr [gR] _ _:=q6;exact kpL [(0,_),(1,_),(2,_),(3,_),(8,_),(10,_),(11,_),(35,_),(36,_)] (.d8 U U U U U U U U (.cons U .nil)) (nl (bn' (tn (rg (z0q U (wi6 oo) (mv U (nl (lpE (j+1) (.d8 U U U U U U U U (.cons U .nil)) ⟨((Fr.refl [gR] _).z2 q5 q6),⟨oo,Z⟩⟩ oo))))))));obtain rfl:j=O+b:=by omega
 refine ex (te (te (xh (tn (sr (mv U (mv U (z1u U (wi6 oo) (mv U (y4m U (wi6 oo) (z1u U (wi6 oo) (al zv3 U (λa7 w7 f8 I q7 z7=>(z2u U I U sz3 (λw8 I q8 z8=>(kpL [(0,_),(1,_),(2,_),(3,_),(8,_),(10,_),(11,_),(13,_)] (.c8 U U U U U U U U) (nn (sr (z4q z0g (ev1 U) (asg U (nn (sq (sr (mv U (z1u U (wi6 oo) (asg U (nn (bl ?_))))))))))))))))))))))))))));replace Z:=(Z.ext q7).fr q8 (by first|exact z9q Z oo|simp[z0u]<;>omega);refine lpK (ι:=Nat×Int) [(0,_),(1,_),(2,_),(3,_),(8,_),(10,_),(11,_),(13,_),(14,_)] (λp=>[(15,.int .i64 p.2)]) (λp w'=>Fr [gR,a7] w8 w'/\p.1<=i/\p.2=(i:Int)-1-p.1/\Lw.Own Enc.i64 3 w0.heap.size w' (.slice (some ⟨gR,0,none⟩) l.length cR) (z8w l i O b true p.1)/\Blk w' a7 3 [.int .i64 (frL l (z1q l i O b true) i p.1)]) (λp=>l.length-p.1) (0,(i:Int)-1) (.d8 U U U U U U U U (.c2 U U)) ⟨Fr.refl _ _,⟨Nat.zero_le _,sm,by rw[x9p oo];exact Z,I⟩⟩ ?_;rintro⟨m,k⟩ w9 ⟨q9,⟨hm,hk,Z,I⟩⟩;simp only at hm hk Z I;have z9:=q9.size;have e2:=I.lt;refine kpC [(0,_),(1,_),(2,_),(3,_),(8,_),(10,_),(11,_),(13,_),(14,_),(15,.int .i64 k)] (.d8 U U U U U U U U (.c2 U U)) ?_;have hfl:(z8w l i O b true m).length=l.length:=y6t b0 hm;refine sq (sr (mv U (ge' U (nn (cd U (λc1=>?_) (λc1=>?_))))));have g6:=ha (i-1-m) oo;have h3:=x1d (l:=l) (F:=(z1q l i O b true)) (i:=i) (m:=m) oo oo;have e6:=j8x ha (m:=m) hz b0 oo;refine sk (tn (sq (bl ?_)));replace hs:=e1.ext ((q1.z6 q2 q3 q4 q5 q7 q8).z1 q9);replace D:=(((D.fr q5).ext q7).fr q8).fr q9;intro a h;have a3:=Fr.refl [gR,a7] w9;refine z3j (λwb w'=>Fr [gR,a7] wb w') z2y ?_;intro e3 hq;have h8:=hq.size;replace hs:=hs.ext hq;replace D:=D.ext hq;replace Z:=Z.ext hq;replace I:=I.ext hq;replace a3:=a3.next hq;have e8:=hq.size;clear hq;have hC:Fr [gR,a7] e3 e3:=Fr.refl _ _;have b6:=hs;have a1:=D;have e0:=Z;have a4:=I;refine z0c 0 h U y2m U λa h=>z0j 1 h U (λ_ hw=>a1.fr hw se) U y3m U λa h=>z0d 2 h U λa h=>z0d 3 h U λa h=>z0d 4 h U λa h=>z0d 5 h U λa h=>z1e (p:=(i-1-m)) (0) 6 h U hs U z3b U λf6 d3 a h=>z2h 7 h U (λ_ hw=>d3 _ (b6.fr hw (by intro k hk hb;simp at hk;have:=b8 k hb;omega))) na3 U λa h=>z0e 8 U ?_;refine z4y (us:=[]) (ws:=[.pointer (some ⟨a7,0,none⟩)]) h U (z0a U z0g) (mkC func68) (u2u (l.getD (i-1-m) 0) _ a7 _ I oo oo) (by intro g e;cases e) ?_;rintro _ h4 ⟨rfl,I,hq⟩ a h;have h9:=hq.size;replace hs:=hs.fr hq (by intro k hk hb;simp at hk;have:=b8 k hb;omega);replace D:=D.fr hq;replace Z:=Z.fr hq (by simp[z0u]<;>omega);replace a3:=a3.sp hq;replace hC:=hC.sp hq;clear hq;refine z0b (z1o 9 kr0 hC h wn U z3b oo oo (show _=(i-1-m) by omega) U U λa h=>z0e 10 U (z1c (i:=(i-1-m)) (_) h U Z (by rw[hfl];omega) U sz3 λh5 d9 hq hz a h=>?_));have f3:=hq.size;replace hs:=hs.fr hq (by intro k hk hb;simp at hk;have:=b8 k hb;omega);replace D:=D.fr hq;replace I:=I.fr hq;replace a3:=a3.sp hq;replace hC:=hC.sp hq;clear Z hq hz;have Z:=d9;clear d9;rw[v5o b0 oo]at Z;refine z0b (z0r ?_);clear hC b6 a1 e0 a4;have f3:=a3.size;exact bk (h.sub (L':=[(0,_),(1,_),(2,_),(3,_),(8,_),(10,_),(11,_),(13,_),(14,_),(15,_)]) (.d8 U U U U U U U U (.c2 U U))) (bn' (tn (rg (mv U (z1u U (wi6 oo) (asg U (nl (lpE ((m+1,k-1)) (.d8 U U U U U U U U (.c2 U U)) ⟨((Fr.refl [gR,a7] _).z2 q9 a3),⟨sm,sm,Z,by rw[x1d oo oo];exact I⟩⟩ sm))))))));obtain rfl:i=m:=by omega
 have d4:=u0n (l:=l) (i:=i) (b:=b) b0;have d7:Lw.Own Enc.i64 3 w0.heap.size w9 (.slice (some ⟨gR,0,none⟩) l.length cR) (z2z l i O b true):=Z;clear Z;have Z:=d7;clear d7;have hfl:(z2z l i O b true).length=l.length:=z4l b0;have d6:z2z l i O b true≠[]:=λe=>by rw[e]at hfl;simp at hfl;omega
 have e6:=j8x ha (m:=i) hz b0 oo;refine ex (te (te (xh (tn (sr (fad U y2m ?_))))));replace D:=(((D.fr q5).ext q7).fr q8).fr q9;refine z0i U D U y3m (mv U (mv U (z0q U (wi6 oo) (mv U (mv U (z0q U (wi6 oo) (mv U (z0q U (wi6 oo) (v9x (p:=(i+O)) (p':=(i+O+b)) U U U z3b oo oo oo oo oo U (cl (ev1 U) j4e (z7a _ _ _ (Z.sl.cutv (p:=i+O) (p':=i+O+b) oo (by rw[hfl];omega)) so) U ?_))))))))));rintro vA h6 ⟨a8,b1⟩;have i0:=b1.size;have b5:=a8.blk;obtain⟨AA,g1,rfl,_⟩:=a8.sl.form;refine fad U u0t ?_;replace D:=D.ext b1;refine z5w U U D U v5f (λe9 D b4 i1=>?_);replace D:Blk e9 c9 _ [_,_,_,_]:=D;refine kpL [(1,_),(2,_),(3,_),(8,_),(10,_),(11,_),(13,_)] (.c7 U U U U U U U) (nn (sr (fad U y2m (z0i U D U y3m ?_))));replace Z:=(Z.ext b1).fr b4 (by first|exact z9q Z oo|simp[z0u]<;>omega);refine cl (ev1 U) j4e (z7a _ _ _ Z.sl (by rw[hfl];omega)) U ?_;rintro _ f0 ⟨a0,a9⟩;have i2:=a9.size;replace a8:=(a8.fr b4 (by intro k hk hb;simp at hk;subst hk;have:=b5 _ hb;omega)).ext a9;rw[u3x]at a8;rcases a0 with ⟨_,e⟩|⟨gB,cB,cur,e,e7,rA⟩
 exact absurd e d6;rw[hfl]at e;subst e;have a0:Lw.Own Enc.i64 3 w0.heap.size f0 (.slice (some ⟨gB,0,none⟩) l.length cB) (z2z l i O b true):=.inr ⟨gB,cB,cur,by rw[hfl],Nat.le_trans oo e7,rA⟩;clear rA;have f9:=(a0.blk gB (by simp[z0u])).2;refine fad U x4j ?_;replace D:=D.ext a9;refine z5w U U D U v5f (λe4 D b2 i3=>?_);replace D:Blk e4 c9 _ [_,_,_,_]:=D;refine nn (sq (sr (mv U (mv U (z0q U (wi6 oo) (mv U (nn (bl ?_))))))));replace a0:=a0.fr b2 (by first|exact z9q a0 oo|simp[z0u]<;>omega);refine lpK (ι:=Nat) [(1,_),(2,_),(3,_),(8,_),(10,_),(11,_),(13,_),(96,_)] (λj=>[(97,.int .i64 (j:Int))]) (λj w'=>Fr [gB] e4 w'/\j<=O+b/\Lw.Own Enc.i64 3 w0.heap.size w' (.slice (some ⟨gB,0,none⟩) l.length cB) (z4f (z2z l i O b true) i (run (behP l i O b true) j))) (λj=>O+b-j) 0 (.d8 U U U U U U U U (.cons U .nil)) ⟨Fr.refl _ _,⟨Nat.zero_le _,by rw[show run (behP l i O b true) 0=[] from U,y0r];exact a0⟩⟩ ?_;rintro j f1 ⟨a6,⟨hj,a0⟩⟩;have i4:=a6.size;refine kpC [(1,_),(2,_),(3,_),(8,_),(10,_),(11,_),(13,_),(96,_),(97,_)] (.d8 U U U U U U U U (.cons U .nil)) ?_;have b3:=hfl;have hfl:(z4f (z2z l i O b true) i (run (behP l i O b true) j)).length=l.length:=by rw[z4p (by rw[z3y,b3];omega),b3]
 refine sr (lt' U (nn (sq (cd U (λc2=>?_) (λc2=>?_)))));refine sk (tn (sq (bl (sr (mv U (asg U (nn (rg (fad U x4j ?_)))))))));replace D:=D.fr a6;refine z0i U D U y3m (mv U (mv U (z0q U (wi6 oo) (mv U (mv U (z1u U (wi6 oo) (mv U (y4m U (wi6 oo) (z1u U (wi6 oo) (z0q U (wi6 oo) (mv U (z0q U (wi6 oo) (v4z (p:=i+j) (_) U a0 U U (by intro e;cases e) z3b sz3 U (by rw[hfl];omega) U U (λh7 a0 b9 i5=>?_))))))))))))));rw[x1k (by simp only[behP,if_true]<;>omega) (by rw[b3];omega)]at a0;replace b9:Fr [gB] _ _:=b9;exact kpL [(1,_),(2,_),(3,_),(8,_),(10,_),(11,_),(13,_),(96,_),(97,_)] (.d8 U U U U U U U U (.cons U .nil)) (nl (bn' (tn (rg (z0q U (wi6 oo) (mv U (nl (lpE (j+1) (.d8 U U U U U U U U (.cons U .nil)) ⟨((Fr.refl [gB] _).z2 a6 b9),⟨oo,a0⟩⟩ oo))))))));obtain rfl:j=O+b:=by omega
 refine ex (te (te (xh (tn (sq ?_)))));replace a5:=((((((((((a5.ext (q2.n1 q3)).fr q4).fr q5).ext q7).fr q8).fr q9).ext b1).fr b4).ext a9).fr b2).fr a6;replace D:=D.fr a6;replace I:=((((I.ext b1).fr b4).ext a9).fr b2).fr a6;intro a h;have a2:=Fr.refl [g8] f1;refine z3j (λwb w'=>Fr [g8] wb w') z2y ?_;intro e5 hq;have i7:=hq.size;replace a5:=a5.ext hq;replace D:=D.ext hq;replace I:=I.ext hq;replace a2:=a2.next hq;have e8:=hq.size;clear hq;have hC:Fr [g8] e5 e5:=Fr.refl _ _;have b7:=a5;have a1:=D;have a4:=I;refine z0z 0 h U (λ_ hw=>a1.fr hw se) k2j U λa h=>z3u 1 h U (λ_ hw=>a4.fr hw se) na3 U λa h=>z4d 2 h U (by first|exact i6 oo|rfl) U λa h=>v8q 3 hC h wn U U U U λa h=>z0e 4 U ?_;refine z0v h U a5 U k0p λf2 d0 hq hz a h=>?_;have f4:=hq.size;replace D:=D.fr hq;replace I:=I.fr hq;replace a2:=a2.sp hq;replace hC:=hC.sp hq;clear a5 hq hz;have a5:Blk f2 g8 _ [_,_,_,_]:=d0;clear d0;refine z0b (z0e 5 U (z0s h U λa h=>?_));refine z0b (z0r ?_);clear hC b7 a1 a4;have f4:=a2.size;refine bk (h.sub (L':=[(8,_),(9,_)]) (.c2 U U)) (tn (rt (rCT results29 U a5 k2j U ?_)));replace Z:=(((Z.ext a9).fr b2 (by first|exact z9q Z oo|simp[z0u]<;>omega)).fr a6 (by first|exact z9q Z oo|simp[z0u]<;>omega)).fr a2 (by first|exact z9q Z oo|simp[z0u]<;>omega);replace a8:=((a8.fr b2 (by intro k hk hb;simp at hk;subst hk;have:=b5 _ hb;omega)).fr a6 (by intro k hk hb;simp at hk;subst hk;have:=b5 _ hb;omega)).fr a2 (by intro k hk hb;simp at hk;subst hk;have:=b5 _ hb;omega);replace a0:=a0.fr a2 (by first|exact z9q a0 oo|simp[z0u]<;>omega);exact⟨_,rfl,_,_,_,by rw[decide_eq_decide.2 d4];rfl,Z,a8.low oo,a0,((((q1.z6 q2 q3 q4 q5 q7 q8).z1 q9).n1 b1).z5 b4 a9 b2 a6 a2)⟩
theorem j5s (v:Value)(w0:World)(Z:v.cells=#[v]):Rets prog 71 #[v] w0 λr w'=>∃g,r=.func (.func 119) #[] #[.pointer (some ⟨g,0,none⟩)]/\w0.heap.size<=g/\Blk w' g 26 [v]/\Fr [] w0 w':=by
 exact we [(0,v)] func71 U ntmps71 U (.cons U .nil) (sr (bx (pi3 U Z U) (λI w1 O D q1 z1=>(asg U (nn (sr (z4q z0g (ev1 U) (asg U (nn (rt (r1 results71 U ⟨_,rfl,I,rfl,oo,D,q1⟩)))))))))))
abbrev Ix (l:List Int):={j:Nat // j<l.length}
def ixE {l:List Int}(x:Ix l):Array Value:=#[.int .i64 (x.1:Int),.int .i64 (l.getD x.1 0)]
theorem u4n (N gD:Nat)(A:Option Addr)(c:Nat)(l:List Int)(wS:World)(b3:Blk wS gD 26 [.slice A l.length c])(b1:Sl Enc.i64 wS (.slice A l.length c) l):SeqStopsK (Fo none) N prog 119 #[.pointer (some ⟨gD,0,none⟩)] ixE (KeepT [] (gD::slB l.length (.slice A l.length c))) (λxs:List (Ix l)=>xs.map Subtype.val=(List.range l.length).reverse) (λ_=>True) (l.length+1) wS:=by
 intro ly J Jx w0 a7 hA b9 b7 a0;have hM:=b1.len_le;unfold maxLen at hM;obtain⟨B0,a3⟩:∃B0,B0=w0.heap.size:=⟨_,rfl⟩;rw[<-a3]at hA;clear a3;have hF:Fr [] wS w0:=Fr.of_below' a7 (Nat.le_refl _);have D:=b3.ext hF;have Z:=b1.ext hF;have O:JAt J B0 [] w0:=⟨a0,hA⟩;refine weI [(0,.func (.yield ly) #[] #[]),(1,.pointer (some ⟨gD,0,none⟩))] func119 U ntmps119 U (.c2 U U) ?_;have a1:=D;have b0:=Z;have a0:=O;refine isq (irg U (z2j U D y3m (lnS U underlying26 (z1u U (wi6 oo) (asg U (inl (itn (ibl (v3e (ι:=Nat×List (Ix l)) [(0,_),(1,_)] (λp=>[(3,.int .i64 ((p.1:Int)-1))]) (λp w'=>p.1<=l.length/\p.2.map Subtype.val++(List.range p.1).reverse=(List.range l.length).reverse/\JAt J B0 p.2 w'/\Blk w' gD 26 [.slice A l.length c]/\Sl Enc.i64 w' (.slice A l.length c) l) (λp=>p.1) (l.length,[]) (.c3 U U U) ⟨Nat.le_refl _,rfl,O,D,Z⟩ ?_)))))))));rintro⟨m,a2⟩ w1 ⟨hm,I,O,D,Z⟩;simp only at hm I O;have a0:=O;have a1:=D;have b0:=Z;refine y7v [(0,_),(1,_),(3,.int .i64 ((m:Int)-1))] (.c3 U U U) (isq (isq (irg U (mv U (ge' U (inl (itn (icd U (λc0=>?_) (λc0=>?_)))))))));obtain⟨k,rfl⟩:∃k,m=k+1:=⟨m-1,oo⟩;rw[List.range_succ,List.reverse_append]at I;have a9:k<l.length:=by omega
 have b5:a2.length<l.length+1:=by have h1:=congrArg List.length I;simp at h1;omega
 refine isk (itn (isq (ibl (isq (iry 6 U U U (by intro g e;cases e) (mv U (mv U (z2j U D y3m (mv U (z0x (p:=k) (0) U Z U z3b oo (λb8 a8=>?_)))))))))));refine z1a U (a8 _ Z) na3 ?_;have a6:=D;have b6:=Z;refine yld U (ev2 U) (yat (x:=⟨k,a9⟩) b7 O b5 (by first|(simp[ixE];done)|(simp[ixE];omega))) U ?_;rintro _ w2 (⟨rfl,b2,a5⟩|⟨rfl,a4⟩);have D:=a6.keep a5.1 List.mem_cons_self;have Z:=b6.keep a5.1 (λb4 k hk=>List.mem_cons_of_mem _ (v5s b4 k hk));have O:JAt J B0 _ w2:=⟨b2,hA⟩;have a0:=O;have a1:=D;have b0:=Z;refine nt' U (kpL [(0,_),(1,_),(3,_),(18,_)] (.c4 U U U U) (inl (itn (icf U (isk (bn' (itn (irg U (mv U (z1u U (wi6 oo) (asg U (inl ?_))))))))))));exact x5z ((k,a2++[⟨k,a9⟩])) (.c3 U U (congrArg (λz=>some (Value.int .i64 z)) (show (((k+1:Nat):Int)-1)-1=(k:Int)-1 by omega))) ⟨sm,by simpa using I,O,D,Z⟩ oo;skip;exact nt' U (kpL [(0,_),(1,_),(3,_),(18,_)] (.c4 U U U U) (inl (itn (ict U (irt (rb (tr (tr (rb (r0 results119  (⟨⟨_,rfl⟩,.inr ⟨_,trivial,a4⟩⟩)))))))))));obtain rfl:m=0:=by omega
 exact iex (te (te (xh (r0n results119  (⟨⟨_,rfl⟩,.inl ⟨a2,by simpa using I,O.1⟩⟩)))))
theorem j0w:z2a prog 135:=λ_=>kr0
theorem k4h:z1r prog 135 1:=λ_=>kr0
theorem k5d (w:World):(zeroValue 26).run prog w=.ok (.slice none 0 0) w:=kr0
theorem k5k (w:World):(zeroValue 135).run prog w=.ok .nilFunc w:=kr0
theorem k4y (w:World):(zeroValue 137).run prog w=.ok (.agg #[(.slice none 0 0),(.int .i64 0)]) w:=kr0
theorem x3w (v u:Value)(xs ys:List Int)(w0:World)(hs:Sl Enc.i64 w0 v xs)(ht:Sl Enc.i64 w0 u ys)(hx:Asc xs)(hy:Asc ys)(hl:ys.length=xs.length):Rets prog 30 #[v,u] w0 λr w'=>∃A,r=.tuple #[.slice A (z8k xs ys).length (z8k xs ys).length,.int .i64 0]/\Lw.Own y0v 88 w0.heap.size w' (.slice A (z8k xs ys).length (z8k xs ys).length) (z8k xs ys)/\Fr [] w0 w':=by
 obtain⟨A,c,rfl,A5,hM,hA⟩:=id hs;obtain⟨A1,t8,rfl,y5,u0,t9⟩:=id ht;clear hA t9;unfold maxLen at hM u0;have B1:=hx.len;have k9:=z5c hl;have B6:=v9b hl;refine weM [(0,.slice A xs.length c),(1,.slice A1 ys.length t8)] func30 U ntmps30 U (.c2 U U) ?_;have u4:=hs;have l2:=ht;refine isq (irg U (asg U (asg U (inl (itn (isq (isq (irg U (mv U (cl (ev1 U) (mkC func26) (v0n _ xs _ hs) U ?_))))))))));rintro _ w1 ⟨rfl,q1⟩;have z1:=q1.size;refine asg U (inl (itn (isq (irg U (mv U (ne' U (inl (itn (icd U (λc0=>?_) (λc0=>?_))))))))));rw[if_pos hx]at c0;exact absurd U c0;refine isk (itn (isq (isq (irg U (mv U (lnS U underlying26 (mv U (lnS U underlying26 (ne' U (kpL [(0,_),(1,_),(30,_)] (.c3 U U U) (inl (itn (icd U (λc1=>?_) (λc1=>?_))))))))))))));exact absurd oo c1;refine isk (itn (isq (isq (irg U (mv U (lnS U underlying26 (mv U (inl (itn (ibl (v3e (ι:=Nat) [(0,_),(1,_),(31,_),(32,_)] (λi=>[(33,.int .i64 (i:Int))]) (λi w'=>Fr [] w1 w'/\i<=ys.length) (λi=>ys.length-i) 0 (.c5 U U U U U) ⟨Fr.refl _ _,Nat.zero_le _⟩ ?_)))))))))));rintro i w2 ⟨q2,hi⟩;have z2:=q2.size;refine y7v [(0,_),(1,_),(31,_),(32,_),(33,_)] (.c5 U U U U U) (isq (irg U (lt' U (inl (itn (isq (icd U (λc2=>?_) (λc2=>?_))))))));have k1:=hy i oo;refine isk (itn (isq (ibl (isq (irg U (mv U ?_))))));replace ht:=l2.ext (q1.n1 q2);refine z0x (p:=i) (0) U ht U z3b oo (λx6 o5=>(z1a U (o5 _ ht) na3 (asg U (asg U (inl (itn (isq (irbo (r:=56) (L':=[(0,_),(1,_),(31,_),(32,_),(33,_)]) (False) (.c5 U U U U U) ?_ ?_))))))));refine mv U (lt' U (mv U (gs 40 U (λg0=>?_) (λg0=>?_))));exact gN U (gN U (pkt U (mv U (gN U (gN U (gN U (gS U (gS U (gS U (gS U (gS U (gS U (gS U (gN U (pkt U (rbe U (.c5 U U U U U) (hb:=(by first|exact bf oo|exact bi ⟨λhh=>by have:=k1.2.2 oo;omega,False.elim⟩|(simp_all;done)|(simp_all;omega)))))))))))))))))));refine gY U (mv U (gY U (gt' U (pkf U (mv U (gs 44 U (λg1=>?_) (λg1=>?_)))))));exact gN U (gN U (gN U (gS U (gS U (gS U (gS U (gS U (gS U (gS U (gN U (pkt U (rbe U (.c5 U U U U U) (hb:=(by first|exact bf oo|exact bi ⟨λhh=>by have:=k1.2.2 oo;omega,False.elim⟩|(simp_all;done)|(simp_all;omega)))))))))))))));refine gY U (mv U (gY U (gt' U (gY U (mv U (gs 47 U (λg2=>?_) (λg2=>?_)))))));refine gY U (mv U (gY U (mv U (gY U (z1u U (wi6 oo) (gY U (z0x (p:=(i-1)) (0) U ht U z3b oo (λx7 o6=>?_))))))));exact gY U (z1a U (o6 _ ht) na3 (gY U (mv U (gY U (gt' U (gY U (pkt U (pkf U (rbe U (.c5 U U U U U) (hb:=(by first|exact bf oo|exact bi ⟨λhh=>by have:=k1.2.2 oo;omega,False.elim⟩|(simp_all;done)|(simp_all;omega))))))))))));exact gN U (gN U (gN U (gN U (gN U (gN U (gN U (gY U (pkf U (pkf U (rbe U (.c5 U U U U U) (hb:=(by first|exact bf oo|exact bi ⟨λhh=>by have:=k1.2.2 oo;omega,False.elim⟩|(simp_all;done)|(simp_all;omega)))))))))))));refine itn (icd U (λc3=>?_) (λc3=>?_));exact c3.elim;exact isk (bn' (itn (irg U (z0q U (wi6 oo) (mv U (inl (x5z (i+1) (.c5 U U U U U) ⟨q2,oo⟩ oo)))))));refine iex (te (te (xh (itn (isq (irg U (al k4y U (λg9 w3 A6 a2 q3 z3=>(inl (itn (isq (irg U (al k5d U (λb2 w4 y6 O q4 z4=>(al k5d U (λb3 w5 y7 Z q5 z5=>(inl (itn (isq (isq (irg U (mv U (lnS U underlying26 (mv U (inl (itn (ibl ?_)))))))))))))))))))))))))));obtain⟨N1,A3⟩:∃N1,N1=w5.heap.size:=⟨_,rfl⟩;replace O:=O.ext q5;refine v3e (ι:=Nat) [(0,_),(1,_),(9,_),(10,_),(11,_),(58,_),(59,_)] (λi=>[(60,.int .i64 (i:Int))]) (λi w'=>Fr [b2,b3] w5 w'/\i<=xs.length/\∃vA vB,Blk w' b2 26 [vA]/\Blk w' b3 26 [vB]/\Lw.Own Enc.i64 3 N1 w' vA (xs.take i)/\Lw.Own Enc.i64 3 N1 w' vB ((dif xs ys).take i)/\(∀k∈z0u vA,k∉z0u vB)) (λi=>xs.length-i) 0 (.c8 U U U U U U U U) ⟨Fr.refl _ _,⟨Nat.zero_le _,_,_,O,Z,Own.nil _,Own.nil _,by simp[z0u]⟩⟩ ?_;rintro i w6 ⟨q6,⟨hi,vA,vB,O,Z,a1,a0,e4⟩⟩;have z6:=q6.size;have p6:=O.lt;have p7:=Z.lt;refine y7v [(0,_),(1,_),(9,_),(10,_),(11,_),(58,_),(59,_),(60,_)] (.c8 U U U U U U U U) ?_;have m3:∀k∈z0u vA,k<w6.heap.size:=λk I=>(a1.blk k I).2;have j6:∀k∈z0u vA,N1<=k:=λk I=>(a1.blk k I).1;have j7:∀k∈z0u vB,N1<=k:=λk I=>(a0.blk k I).1;refine isq (irg U (lt' U (inl (itn (isq (icd U (λc4=>?_) (λc4=>?_)))))));have B9:=hx i oo;have k1:=hy i oo;have d9:=l2.blk (λe=>by have:=congrArg List.length e;simp only[List.length_nil]at this;omega);refine isk (itn (isq (ibl (isq (irg U (mv U ?_))))));replace hs:=u4.ext (q1.z5 q2 q3 q4 q5 q6);refine z0x (p:=i) (0) U hs U z3b oo (λx8 o7=>(z1a U (o7 _ hs) na3 (asg U (asg U (inl (itn (isq (ijn (ι:=Unit) [(0,_),(1,_),(9,_),(10,_),(11,_),(12,_),(13,_),(58,_),(59,_),(60,_)] (λ_j=>[(81,.bool false)]) (λ_j w'=>Fr [] w6 w') (.d8 U U U U U U U U (.c2 U U)) ?_ ?_))))))));replace ht:=l2.ext (q1.z5 q2 q3 q4 q5 q6);intro a h;have f2:=Fr.refl [] w6;refine v7w (λwb w'=>Fr [] wb w') U z2y ?_;intro w7 hq;have z7:=hq.size;replace hs:=hs.ext hq;replace ht:=ht.ext hq;replace f2:=f2.next hq;have B7:=hq.size;clear hq;have hC:Fr [] w7 w7:=Fr.refl _ _;have l4:=hs;have d4:=ht;refine z0d 0 h U λa h=>z4d 1 h U (by first|exact i6 oo|rfl) U λa h=>z0d 2 h U λa h=>z7q 3 hC h wn U underlying26 U λa h=>x9m 4 hC h wn U U λa h=>z0d 5 h U λa h=>gSp (D:=70) h U ?_ ?_;clear h;intro g3 h;refine z0d 6 h U ?_ (hG:=(wy U));clear h a;intro a h;refine z0d 7 h U ?_ (hG:=(wy U));clear h a;intro a h;refine z1e (p:=i) (0) 8 h U ht U z3b U ?_ (hG:=(wy U));clear h a;intro x9 o9 a h;refine z2h 9 h U (λ_ hw=>o9 _ (d4.ext hw)) na3 U ?_ (hG:=(wy U));clear h a;intro a h;refine z0d 10 h U ?_ (hG:=(wy U));clear h a;intro a h;refine z0d 11 h U ?_ (hG:=(wy U));clear h a;intro a h;refine z4d 12 h U (by first|exact i6 oo|rfl) U ?_ (hG:=(wy U));clear h a;intro a h;refine z1e (p:=(i+1)) (0) 13 h U ht U z3b U ?_ (hG:=(wy U));clear h a;intro y0 p0 a h;refine z2h 14 h U (λ_ hw=>p0 _ (d4.ext hw)) na3 U ?_ (hG:=(wy U));clear h a;intro a h;refine v4y 15 hC h (wy U) U U U U λa h=>z0e 16 U (z5k h U λa h=>?_);refine z0b (z0r ?_);clear hC l4 d4;have z7:=f2.size;refine bk (h.sub (L':=[(0,_),(1,_),(9,_),(10,_),(11,_),(12,_),(13,_),(58,_),(59,_),(60,_),(81,_)]) (.d8 U U U U U U U U (.c3 U U U))) ?_;exact ijE (()) (.d8 U U U U U U U U (.c3 U U (congrArg (λz=>some (Value.bool z)) (by first|rfl|exact decide_eq_false (by have:=(hy (i+1) oo).2.2 oo;simp only[Nat.add_sub_cancel]at this;omega))))) f2;clear h;intro g3 h;refine z2p 6 h U U λa h=>z2p 7 h U U λa h=>z2p 8 h U U λa h=>z2p 9 h U U λa h=>z2p 10 h U U λa h=>z2p 11 h U U λa h=>z2p 12 h U U λa h=>z2p 13 h U U λa h=>z2p 14 h U U λa h=>z2p 15 h U U λa h=>z0e 16 U (z6i h U λa h=>?_);refine z0b (z0r ?_);clear hC l4 d4;have z7:=f2.size;refine bk (h.sub (L':=[(0,_),(1,_),(9,_),(10,_),(11,_),(12,_),(13,_),(58,_),(59,_),(60,_),(81,_)]) (.d8 U U U U U U U U (.c3 U U U))) ?_;exact ijE (()) (.d8 U U U U U U U U (.c3 U U (congrArg (λz=>some (Value.bool z)) (by first|rfl|exact decide_eq_false (by have:=(hy (i+1) oo).2.2 oo;simp only[Nat.add_sub_cancel]at this;omega))))) f2;rintro _j w8 q8;have z8:=q8.size;refine y7v [(0,_),(1,_),(9,_),(10,_),(11,_),(12,_),(13,_),(58,_),(59,_),(60,_),(81,_)] (.d8 U U U U U U U U (.c3 U U U)) (icd U (λc5=>?_) (λc5=>?_));cases c5;refine isk (itn ?_);replace ht:=l2.ext (q1.z6 q2 q3 q4 q5 q6 q8);replace a2:=((a2.ext (q4.n1 q5)).fr q6).ext q8;intro a h;refine y0n (some 13) (λwb w'=>Fr (z0u vA++z0u vB) wb w') U z2y ?_;intro w9 q9;have z9:=q9.size;replace ht:=ht.ext q9;replace a2:=a2.ext q9;replace O:=O.ext (q8.n1 q9);replace Z:=Z.ext (q8.n1 q9);replace a1:=a1.ext (q8.n1 q9);replace a0:=a0.ext (q8.n1 q9);have hC:Fr (z0u vA++z0u vB) w9 w9:=Fr.refl _ _;have d4:=ht;have h7:=a2;have a5:=O;have a6:=Z;have b8:=a1;have b4:=a0;refine z3u 0 h U (λ_ hw=>a5.fr hw (λe=>by rcases List.mem_append.1 e with e|e;have:=j6 _ e;omega;have:=j7 _ e;omega)) y3m U λa h=>z0d 1 h U λa h=>z3u 4 h U (λ_ hw=>a6.fr hw (λe=>by rcases List.mem_append.1 e with e|e;have:=j6 _ e;omega;have:=j7 _ e;omega)) y3m U λa h=>z0d 5 h U λa h=>z0d 6 h U λa h=>z1e (p:=i) (0) 7 h U ht U z3b U λs4 l5 a h=>z2h 8 h U (λ_ hw=>l5 _ (d4.fr hw (λk I hb=>by have h1:=d9 k hb;rcases List.mem_append.1 I with e|e;have:=j6 _ e;omega;have:=j7 _ e;omega))) na3 U λa h=>z0d 9 h U λa h=>z3e 10 h U (by first|exact i6 oo|rfl) U λa h=>z2n 2 11 kr0 U ?_ ?_;refine z2i ([xs.getD i 0]) h (z0a U z0g) U z3b λe0 C1 hg f1 e5 hz a h=>?_;have l1:g9<e0:=by have:=a2.lt;omega
 have j8:b2<e0:=by have:=O.lt;omega
 have j9:b3<e0:=by have:=Z.lt;omega
 have E4:=e5.size;replace ht:=ht.ext e5;replace a2:=a2.ext e5;replace O:=O.ext e5;replace Z:=Z.ext e5;replace a1:=a1.ext e5;replace a0:=a0.ext e5;replace hC:=hC.next e5;refine z0b (z2n 3 11 kr0 U ?_ ?_);have a4:=a1;refine z3g h U a1 f1.sl z3b (by unfold maxLen;simp only[List.length_take,List.length_cons,List.length_nil];omega) (by simp only[List.length_take,List.length_cons,List.length_nil];omega) λk4 C2 a1 g8 b7 a h=>?_;have b5:∀k∈z0u k4,k∉z0u vB:=by
  rcases b7 with e|e|e
  rw[e];exact e4;rw[e];exact e4;rw[e];intro k I hb;simp at I;have:=(a0.blk k hb).2;omega
 clear b7;obtain⟨A7,c7,rfl,o8⟩:=a1.sl.form;have E5:=g8.size;replace ht:=ht.fr g8 (λk I hb=>by have:=d9 k hb;have:=(a4.blk k I).1;omega);replace a2:=a2.fr g8 (λI=>by have:=(a4.blk _ I).1;omega);replace O:=O.fr g8 (λI=>by have:=(a4.blk _ I).1;omega);replace Z:=Z.fr g8 (λI=>by have:=(a4.blk _ I).1;omega);replace a0:=a0.fr g8 (λk I hb=>e4 k I hb);replace hC:=hC.step g8 (λk I _=>by simp[I]);refine z0b (z0e 11 U (z2i ([ys.getD i 0-xs.getD i 0]) h (z0a U z0g) U z3b λa8 C3 hg a9 f4 hz a h=>?_));have g6:g9<a8:=by have:=a2.lt;omega
 have e9:b2<a8:=by have:=O.lt;omega
 have f0:b3<a8:=by have:=Z.lt;omega
 have E6:=f4.size;replace ht:=ht.ext f4;replace a2:=a2.ext f4;replace O:=O.ext f4;replace Z:=Z.ext f4;replace a0:=a0.ext f4;replace a1:=a1.ext f4;replace hC:=hC.next f4;refine z0b (z0e 12 U ?_);have a3:=a0;refine z3g h U a0 a9.sl z3b (by unfold maxLen;simp only[List.length_take,List.length_cons,List.length_nil];omega) (by simp only[List.length_take,List.length_cons,List.length_nil];omega) λh6 C4 a0 h0 b1 a h=>?_;have g5:∀k∈z0u (Value.slice A7 (xs.take i++[xs.getD i 0]).length c7),k∉z0u h6:=by
  rcases b1 with e|e|e
  rw[e];exact b5;rw[e];exact b5;rw[e];intro k I hb;simp at hb;have:=(a1.blk k I).2;omega
 clear b1;obtain⟨A8,c8,rfl,p1⟩:=a0.sl.form;have E7:=h0.size;replace ht:=ht.fr h0 (λk I hb=>by have:=d9 k hb;have:=(a3.blk k I).1;omega);replace a2:=a2.fr h0 (λI=>by have:=(a3.blk _ I).1;omega);replace O:=O.fr h0 (λI=>by have:=(a3.blk _ I).1;omega);replace Z:=Z.fr h0 (λI=>by have:=(a3.blk _ I).1;omega);replace a1:=a1.fr h0 (λk I hb=>b5 k hb I);replace hC:=hC.step h0 (λk I _=>by simp[I]);refine z0b (z0e 13 U (z5e h U U O U U v5f λu7 b6 h9 hz a h=>?_));have E8:=h9.size;replace ht:=ht.fr h9 (by intro k I hb;simp at I;have:=d9 k hb;omega);replace a2:=a2.fr h9;replace Z:=Z.fr h9;replace a1:=a1.fr h9 (by intro k I hb;simp at I;subst I;have:=a1.blk _ hb;omega);replace a0:=a0.fr h9 (by intro k I hb;simp at I;subst I;have:=a0.blk _ hb;omega);clear O hz;have O:Blk u7 b2 _ [_]:=b6;clear b6;refine z1h (z0e 14 U (z5e h U U Z U U v5f λu9 b6 i0 hz a h=>?_));have E9:=i0.size;replace ht:=ht.fr i0 (by intro k I hb;simp at I;have:=d9 k hb;omega);replace a2:=a2.fr i0;replace O:=O.fr i0;replace a1:=a1.fr i0 (by intro k I hb;simp at I;subst I;have:=a1.blk _ hb;omega);replace a0:=a0.fr i0 (by intro k I hb;simp at I;subst I;have:=a0.blk _ hb;omega);clear Z hz;have Z:Blk u9 b3 _ [_]:=b6;clear b6;refine z1h (z0r ?_);clear hC d4 h7 a5 a6 b8 b4;exact bk (h.sub (L':=[(0,_),(1,_),(9,_),(10,_),(11,_),(58,_),(59,_),(60,_)]) (.c8 U U U U U U U U)) (bn' (itn (irg U (z0q U (wi6 oo) (mv U (inl (x5z (i+1) (.c8 U U U U U U U U) ⟨(((((((Fr.refl [b2,b3] _).z4 q6 q8 q9 e5).step g8 (λk I d0=>absurd (a4.blk k I).1 oo)).n1 f4).step h0 (λk I d0=>absurd (a3.blk k I).1 oo)).sp h9).sp i0),⟨oo,_,_,O,Z,by rw[z1s xs i oo];exact a1,by rw[z1s (dif xs ys) i oo,z7o hl oo];exact a0,g5⟩⟩ oo)))))));refine z2i ([ys.getD i 0-xs.getD i 0]) h (z0a U z0g) U z3b λa8 C5 hg a9 e6 hz a h=>?_;have g6:g9<a8:=by have:=a2.lt;omega
 have e9:b2<a8:=by have:=O.lt;omega
 have f0:b3<a8:=by have:=Z.lt;omega
 have F0:=e6.size;replace ht:=ht.ext e6;replace a2:=a2.ext e6;replace O:=O.ext e6;replace Z:=Z.ext e6;replace a1:=a1.ext e6;replace a0:=a0.ext e6;replace f1:=f1.ext e6;replace hC:=hC.next e6;refine z0b (z0e 3 U ?_);have a4:=a1;refine z3g h U a1 f1.sl z3b (by unfold maxLen;simp only[List.length_take,List.length_cons,List.length_nil];omega) (by simp only[List.length_take,List.length_cons,List.length_nil];omega) λk4 C6 a1 f5 b7 a h=>?_;have b5:∀k∈z0u k4,k∉z0u vB:=by
  rcases b7 with e|e|e
  rw[e];exact e4;rw[e];exact e4;rw[e];intro k I hb;simp at I;have:=(a0.blk k hb).2;omega
 clear b7;obtain⟨A7,c7,rfl,o8⟩:=a1.sl.form;have F1:=f5.size;replace ht:=ht.fr f5 (λk I hb=>by have:=d9 k hb;have:=(a4.blk k I).1;omega);replace a2:=a2.fr f5 (λI=>by have:=(a4.blk _ I).1;omega);replace O:=O.fr f5 (λI=>by have:=(a4.blk _ I).1;omega);replace Z:=Z.fr f5 (λI=>by have:=(a4.blk _ I).1;omega);replace a0:=a0.fr f5 (λk I hb=>e4 k I hb);replace a9:=a9.fr f5 (λk I hb=>by simp[z0u]at hb;subst hb;have:=m3 _ I;omega);replace hC:=hC.step f5 (λk I _=>by simp[I]);refine z0b (z0e 12 U ?_);have a3:=a0;refine z3g h U a0 a9.sl z3b (by unfold maxLen;simp only[List.length_take,List.length_cons,List.length_nil];omega) (by simp only[List.length_take,List.length_cons,List.length_nil];omega) λh6 C7 a0 h3 b1 a h=>?_;have g5:∀k∈z0u (Value.slice A7 (xs.take i++[xs.getD i 0]).length c7),k∉z0u h6:=by
  rcases b1 with e|e|e
  rw[e];exact b5;rw[e];exact b5;rw[e];intro k I hb;simp at hb;have:=(a1.blk k I).2;omega
 clear b1;obtain⟨A8,c8,rfl,p1⟩:=a0.sl.form;have F2:=h3.size;replace ht:=ht.fr h3 (λk I hb=>by have:=d9 k hb;have:=(a3.blk k I).1;omega);replace a2:=a2.fr h3 (λI=>by have:=(a3.blk _ I).1;omega);replace O:=O.fr h3 (λI=>by have:=(a3.blk _ I).1;omega);replace Z:=Z.fr h3 (λI=>by have:=(a3.blk _ I).1;omega);replace a1:=a1.fr h3 (λk I hb=>b5 k hb I);replace hC:=hC.step h3 (λk I _=>by simp[I]);refine z0b (z0e 13 U (z5e h U U O U U v5f λv8 b6 i1 hz a h=>?_));have F3:=i1.size;replace ht:=ht.fr i1 (by intro k I hb;simp at I;have:=d9 k hb;omega);replace a2:=a2.fr i1;replace Z:=Z.fr i1;replace a1:=a1.fr i1 (by intro k I hb;simp at I;subst I;have:=a1.blk _ hb;omega);replace a0:=a0.fr i1 (by intro k I hb;simp at I;subst I;have:=a0.blk _ hb;omega);clear O hz;have O:Blk v8 b2 _ [_]:=b6;clear b6;refine z1h (z0e 14 U (z5e h U U Z U U v5f λx0 b6 i2 hz a h=>?_));have F5:=i2.size;replace ht:=ht.fr i2 (by intro k I hb;simp at I;have:=d9 k hb;omega);replace a2:=a2.fr i2;replace O:=O.fr i2;replace a1:=a1.fr i2 (by intro k I hb;simp at I;subst I;have:=a1.blk _ hb;omega);replace a0:=a0.fr i2 (by intro k I hb;simp at I;subst I;have:=a0.blk _ hb;omega);clear Z hz;have Z:Blk x0 b3 _ [_]:=b6;clear b6;refine z1h (z0r ?_);clear hC d4 h7 a5 a6 b8 b4;exact bk (h.sub (L':=[(0,_),(1,_),(9,_),(10,_),(11,_),(58,_),(59,_),(60,_)]) (.c8 U U U U U U U U)) (bn' (itn (irg U (z0q U (wi6 oo) (mv U (inl (x5z (i+1) (.c8 U U U U U U U U) ⟨((((((Fr.refl [b2,b3] _).z5 q6 q8 q9 e5 e6).step f5 (λk I d0=>absurd (a4.blk k I).1 oo)).step h3 (λk I d0=>absurd (a3.blk k I).1 oo)).sp i1).sp i2),⟨oo,_,_,O,Z,by rw[z1s xs i oo];exact a1,by rw[z1s (dif xs ys) i oo,z7o hl oo];exact a0,g5⟩⟩ oo)))))));refine z2i ([ys.getD i 0-xs.getD i 0]) h (z0a U z0g) U z3b λa8 C8 hg a9 f6 hz a h=>?_;have g6:g9<a8:=by have:=a2.lt;omega
 have e9:b2<a8:=by have:=O.lt;omega
 have f0:b3<a8:=by have:=Z.lt;omega
 have F6:=f6.size;replace a2:=a2.ext f6;replace O:=O.ext f6;replace Z:=Z.ext f6;replace hC:=hC.next f6;refine z0b (z0e 2 U (z2i ([xs.getD i 0]) h (z0a U z0g) U z3b λe0 C9 hg f1 e7 hz a h=>?_));have l1:g9<e0:=by have:=a2.lt;omega
 have j8:b2<e0:=by have:=O.lt;omega
 have j9:b3<e0:=by have:=Z.lt;omega
 have F7:=e7.size;replace ht:=ht.ext (f6.n1 e7);replace a2:=a2.ext e7;replace O:=O.ext e7;replace Z:=Z.ext e7;replace a1:=a1.ext (f6.n1 e7);replace a0:=a0.ext (f6.n1 e7);replace a9:=a9.ext e7;replace hC:=hC.next e7;refine z0b (z0e 3 U ?_);have a4:=a1;refine z3g h U a1 f1.sl z3b (by unfold maxLen;simp only[List.length_take,List.length_cons,List.length_nil];omega) (by simp only[List.length_take,List.length_cons,List.length_nil];omega) λk4 D0 a1 f7 b7 a h=>?_;have b5:∀k∈z0u k4,k∉z0u vB:=by
  rcases b7 with e|e|e
  rw[e];exact e4;rw[e];exact e4;rw[e];intro k I hb;simp at I;have:=(a0.blk k hb).2;omega
 clear b7;obtain⟨A7,c7,rfl,o8⟩:=a1.sl.form;have F8:=f7.size;replace ht:=ht.fr f7 (λk I hb=>by have:=d9 k hb;have:=(a4.blk k I).1;omega);replace a2:=a2.fr f7 (λI=>by have:=(a4.blk _ I).1;omega);replace O:=O.fr f7 (λI=>by have:=(a4.blk _ I).1;omega);replace Z:=Z.fr f7 (λI=>by have:=(a4.blk _ I).1;omega);replace a0:=a0.fr f7 (λk I hb=>e4 k I hb);replace a9:=a9.fr f7 (λk I hb=>by simp[z0u]at hb;subst hb;have:=m3 _ I;omega);replace hC:=hC.step f7 (λk I _=>by simp[I]);refine z0b (z0e 12 U ?_);have a3:=a0;refine z3g h U a0 a9.sl z3b (by unfold maxLen;simp only[List.length_take,List.length_cons,List.length_nil];omega) (by simp only[List.length_take,List.length_cons,List.length_nil];omega) λh6 D2 a0 h4 b1 a h=>?_;have g5:∀k∈z0u (Value.slice A7 (xs.take i++[xs.getD i 0]).length c7),k∉z0u h6:=by
  rcases b1 with e|e|e
  rw[e];exact b5;rw[e];exact b5;rw[e];intro k I hb;simp at hb;have:=(a1.blk k I).2;omega
 clear b1;obtain⟨A8,c8,rfl,p1⟩:=a0.sl.form;have F9:=h4.size;replace ht:=ht.fr h4 (λk I hb=>by have:=d9 k hb;have:=(a3.blk k I).1;omega);replace a2:=a2.fr h4 (λI=>by have:=(a3.blk _ I).1;omega);replace O:=O.fr h4 (λI=>by have:=(a3.blk _ I).1;omega);replace Z:=Z.fr h4 (λI=>by have:=(a3.blk _ I).1;omega);replace a1:=a1.fr h4 (λk I hb=>b5 k hb I);replace hC:=hC.step h4 (λk I _=>by simp[I]);refine z0b (z0e 13 U (z5e h U U O U U v5f λx1 b6 i3 hz a h=>?_));have G0:=i3.size;replace ht:=ht.fr i3 (by intro k I hb;simp at I;have:=d9 k hb;omega);replace a2:=a2.fr i3;replace Z:=Z.fr i3;replace a1:=a1.fr i3 (by intro k I hb;simp at I;subst I;have:=a1.blk _ hb;omega);replace a0:=a0.fr i3 (by intro k I hb;simp at I;subst I;have:=a0.blk _ hb;omega);clear O hz;have O:Blk x1 b2 _ [_]:=b6;clear b6;refine z1h (z0e 14 U (z5e h U U Z U U v5f λx2 b6 i4 hz a h=>?_));have G1:=i4.size;replace ht:=ht.fr i4 (by intro k I hb;simp at I;have:=d9 k hb;omega);replace a2:=a2.fr i4;replace O:=O.fr i4;replace a1:=a1.fr i4 (by intro k I hb;simp at I;subst I;have:=a1.blk _ hb;omega);replace a0:=a0.fr i4 (by intro k I hb;simp at I;subst I;have:=a0.blk _ hb;omega);clear Z hz;have Z:Blk x2 b3 _ [_]:=b6;clear b6;refine z1h (z0r ?_);clear hC d4 h7 a5 a6 b8 b4;exact bk (h.sub (L':=[(0,_),(1,_),(9,_),(10,_),(11,_),(58,_),(59,_),(60,_)]) (.c8 U U U U U U U U)) (bn' (itn (irg U (z0q U (wi6 oo) (mv U (inl (x5z (i+1) (.c8 U U U U U U U U) ⟨((((((Fr.refl [b2,b3] _).z5 q6 q8 q9 f6 e7).step f7 (λk I d0=>absurd (a4.blk k I).1 oo)).step h4 (λk I d0=>absurd (a3.blk k I).1 oo)).sp i3).sp i4),⟨oo,_,_,O,Z,by rw[z1s xs i oo];exact a1,by rw[z1s (dif xs ys) i oo,z7o hl oo];exact a0,g5⟩⟩ oo)))))));obtain rfl:i=xs.length:=by omega
 rw[List.take_length]at a1;rw[<-k9,List.take_length]at a0;obtain⟨m9,n8,rfl,y2⟩:=a1.sl.form;obtain⟨n7,n9,rfl,y3⟩:=a0.sl.form;rw[<-k9]at O a1 e4;have m4:∀k∈z0u (Value.slice m9 (dif xs ys).length n8),N1<=k:=λk I=>(a1.blk k I).1;have l0:∀k∈z0u (Value.slice n7 (dif xs ys).length n9),N1<=k:=λk I=>(a0.blk k I).1;have o0:=a1.sl.len_le;have o1:=a0.sl.len_le;unfold maxLen at o0 o1;refine iex (te (te (xh (itn (isq (irg U (z4q z0g (ev2 U) (al k5k U (λA0 D3 y8 a7 j0 G2=>(z2u U a7 U k4h (λr7 a7 j1 G3=>(kpL [(9,_),(10,_),(11,_),(14,_)] (.c4 U U U U) (inl (itn (isq (irg U (asg U (inl (itn (isq (isq (irg U (asg U (inl (itn (ibl ?_))))))))))))))))))))))))));replace O:=(O.ext j0).fr j1;replace Z:=(Z.ext j0).fr j1;replace a1:=(a1.ext j0).fr j1 (by intro k I hb;simp at I;subst I;have:=a1.blk _ hb;omega);replace a0:=(a0.ext j0).fr j1 (by intro k I hb;simp at I;subst I;have:=a0.blk _ hb;omega);replace a2:=(((a2.ext (q4.n1 q5)).fr q6).ext j0).fr j1;obtain⟨N2,A4⟩:∃N2,N2=r7.heap.size:=⟨_,rfl⟩;have d6:=O;have e1:=Z;have e3:=a7;have i5:=a1;have g7:=a0;have o3:=a2;refine v3e (ι:=Nat×List Nat×Value) [(9,_),(10,_),(11,_),(14,_)] (λp=>[(15,p.2.2),(16,.int .i64 (p.1:Int))]) (λp w'=>Fr [] r7 w'/\p.1<=xs.length/\p.2.1++z2q (dif xs ys) (dif xs ys).length p.1=z1l (dif xs ys)/\Lw.Own Enc.i64 3 N2 w' p.2.2 (p.2.1.map (λk:Nat=>(k:Int)))) (λp=>xs.length-p.1) (0,[],.slice none 0 0) (.c6 U U U U U U) ⟨Fr.refl _ _,⟨Nat.zero_le _,rfl,Own.nil _⟩⟩ ?_;rintro⟨i,k2,r5⟩ x3 ⟨d5,⟨hi,i7,b0⟩⟩;simp only at hi i7 b0;have G4:=d5.size;refine y7v [(9,_),(10,_),(11,_),(14,_),(15,r5),(16,.int .i64 (i:Int))] (.c6 U U U U U U) (isq (isq (irg U (mv U ?_))));replace O:=d6.fr ((Fr.refl [g9] _).n1 d5) se;refine z2j U O y3m (lnS U underlying26 (lt' U (inl (itn (icd U (λc6=>?_) (λc6=>?_))))));have u6:=x8g (b:=dif xs ys) (i:=i) oo;rw[u6]at i7;have l3:=z8t (b:=dif xs ys) (i:=i) oo;have B5:k2.length<41:=by have h1:=congrArg List.length i7;simp only[List.length_append,List.length_cons]at h1;omega
 refine isk (itn (isq (ibl (irg U (mv U (mv U (z1w ([(i:Int)]) (ev1 U) U z3b (λy1 D4 u1 m5 j2 G5=>?_))))))));replace b0:=b0.ext j2;have d3:=b0;refine z1x U b0 m5.sl z3b (λr4 D5 b0 j3 s2=>?_) (hM:=(by unfold maxLen;simp only[List.length_map,List.length_cons,List.length_nil];omega)) (hb:=(by simp only[List.length_map,List.length_cons,List.length_nil];omega));have G6:=j3.size;refine asg U (inl (bn' (itn (irg U ?_))));replace a7:=e3.ext ((d5.n1 j2).step j3 (λk I d0=>absurd (d3.blk k I).1 oo));refine z2j U a7 j0w (mv U ?_);replace O:=d6.fr (((Fr.refl [g9] _).n2 d5 j2).step j3 (λk I d0=>absurd (d3.blk k I).1 oo)) se;replace Z:=e1.fr (((Fr.refl [g9] _).n2 d5 j2).step j3 (λk I d0=>absurd (d3.blk k I).1 oo)) se;replace a0:=g7.fr (((Fr.refl [g9] _).n2 d5 j2).step j3 (λk I d0=>absurd (d3.blk k I).1 oo)) (by intro k I hb;simp at I;subst I;have:=l0 _ hb;omega);refine clv (us:=[]) (ws:=[.pointer (some ⟨b2,0,none⟩),.pointer (some ⟨b3,0,none⟩)]) U (ev1 U) (mkC func70) (u1l i b2 b3 _ _ _ _ (dif xs ys) _ O Z a0.sl oo) U (by intro g e;cases e) ?_;rintro _ D6 ⟨rfl,m6⟩;have G7:=m6.size;refine asg U (inl ?_);replace b0:=b0.ext m6;exact x5z ((y2a (dif xs ys) i,k2++[i],r4)) (.c6 U U U U U U) ⟨(((d5.n1 j2).step j3 (λk I d0=>absurd (d3.blk k I).1 oo)).n1 m6),⟨sm,by simpa using i7,by simpa using b0⟩⟩ sm;rw[v3s oo,List.append_nil]at i7;rw[i7]at b0;replace b0:Lw.Own Enc.i64 3 N2 x3 r5 (stI xs ys):=b0;obtain⟨k6,k7,rfl,y4⟩:=b0.sl.form;have o2:=b0.sl.len_le;unfold maxLen at o2;have u5:=j5i xs ys;refine iex (te (te (xh (itn (isq (isq (irg U (mv U (cl (ev1 U) (mkC func71) (j5s _ _ U) U ?_)))))))));rintro _ k5 ⟨gD,rfl,B0,o4,f8⟩;have G8:=f8.size;refine inl (itn (ibl ?_));replace a2:=o3.ext (d5.n1 f8);replace a1:=i5.fr ((Fr.refl [g9] _).n2 d5 f8) (by intro k I hb;simp at I;subst I;have:=m4 _ hb;omega);replace a0:=g7.fr ((Fr.refl [g9] _).n2 d5 f8) (by intro k I hb;simp at I;subst I;have:=l0 _ hb;omega);replace b0:=b0.ext f8;replace a7:=e3.ext (d5.n1 f8);replace O:=d6.fr ((Fr.refl [g9] _).n2 d5 f8) se;replace Z:=e1.fr ((Fr.refl [g9] _).n2 d5 f8) se;obtain⟨N,hN⟩:∃N,N=k5.heap.size:=⟨_,rfl⟩;have hp:Pl 137 88 w0.heap.size k5 g9 (λk=>k<N/\k≠g9) (([],0)):=⟨_,a2,Own.nil _,by simp[z0u],λh=>h.2 U,by simp[z0u]⟩;have m3:∀k∈z0u (Value.slice m9 (dif xs ys).length n8),k<N:=λk I=>by have:=(a1.blk k I).2;omega
 have B3:∀k∈z0u (Value.slice n7 (dif xs ys).length n9),k<N:=λk I=>by have:=(a0.blk k I).2;omega
 have u3:∀k∈z0u (Value.slice k6 (stI xs ys).length k7),k<N:=λk I=>by have:=(b0.blk k I).2;omega
 have p4:∀k∈z0u (Value.slice k6 (stI xs ys).length k7),N2<=k:=λk I=>(b0.blk k I).1;have k8:∀b∈gD::slB (stI xs ys).length (Value.slice k6 (stI xs ys).length k7),b<N/\b≠g9:=by
  intro b hb;rcases List.mem_cons.1 hb with rfl|hb
  have:=o4.lt;omega;unfold slB at hb;split at hb;cases hb;have:=u3 b hb;have:=p4 b hb;omega
 have y9:=a7.lt;have B2:=a2.lt;have d6:=O;have e1:=Z;have e3:=a7;have i5:=a1;have g7:=a0;have p5:=b0;refine k4r (α:=Ix (stI xs ys)) U (mkC func119) dd (u4n 8 gD k6 k7 (stI xs ys) k5 o4 b0.sl) (λb hb=>by have:=k8 b hb;omega) (λ_=>rfl) (λx=>[(124,.int .i64 ((stI xs ys).getD x.1 0)),(123,.int .i64 (x.1:Int))]) (λx=>by simp[ixE]) (λ_=>rfl) (λ(s:List (Ix (stI xs ys))) (W:World)=>Fr [g9] k5 W/\Pl 137 88 w0.heap.size W g9 (λk=>k<N/\k≠g9) (upP xs ys (s.map Subtype.val))) (λs W W' ht h=>⟨h.1.turn ht (Nat.le_refl _),h.2.turn ht⟩) ⟨Fr.refl _ _,hp⟩ (λx=>[(18,.int .i64 ((((z1l (dif xs ys)).getD x.1 0):Nat):Int))]) [(9,_),(10,_),(11,_),(14,_),(15,_)] (.c5 U U U U U) ?_ ?_ ?_;rintro lN k2 x D7 ⟨C0,hp⟩;refine y7v [(123,.int .i64 (x.1:Int)),(124,.int .i64 ((stI xs ys).getD x.1 0)),(9,_),(10,_),(11,_),(14,_),(15,_)] (.c7 U U U U U U U) (irg U (asg U (inl ?_)));exact asU (.c6 (by exact congrArg (λz=>some (Value.int .i64 z)) (v8s (by have:=x.2;omega))) U U U U U);rintro lN k2 x r8 B4 ⟨h5,hp⟩ d0;have G9:=h5.size;have B8:=x.2;have i9:=j9o hx hy hl (k2.map Subtype.val) (λj hj=>by obtain⟨x',_,rfl⟩:=List.mem_map.1 hj;have:=x'.2;omega);rw[List.length_map]at i9;have m2:=x3c hl (j:=x.1) oo;have l3:=z8t (b:=dif xs ys) (i:=((z1l (dif xs ys)).getD x.1 0)) oo;rw[k9]at l3;have m1:=x0h hx hy hl m2;have d7:Pl 137 88 w0.heap.size r8 g9 (λk=>(k<N/\k≠g9)\/z9e r8 k) _:=hp.addNon;refine ibl (isq (irg U ?_));replace Z:=e1.fr ((Fr.refl [g9] _).z1 h5) se;refine z2j U Z y3m (mv U ?_);replace a0:=g7.fr ((Fr.refl [g9] _).z1 h5) (by intro k I hb;simp at I;subst I;have:=l0 _ hb;omega);refine z0x (p:=((z1l (dif xs ys)).getD x.1 0)) (0) U a0.sl U z3b oo (λs5 l6=>(z1a U (l6 _ a0.sl) na3 (gt' U (inl (itn (icd U (λc7=>?_) (λc7=>?_)))))));replace O:=d6.fr ((Fr.refl [g9] _).z1 h5) se;replace a1:=i5.fr ((Fr.refl [g9] _).z1 h5) (by intro k I hb;simp at I;subst I;have:=m4 _ hb;omega);replace a7:=e3.fr ((Fr.refl [g9] _).z1 h5) se;intro a h;refine y0n (some 10) (λwb w'=>Fr [] wb w') U z2y ?_;intro r9 f9;have H0:=f9.size;replace O:=O.ext f9;replace Z:=Z.ext f9;replace a1:=a1.ext f9;replace a0:=a0.ext f9;replace a7:=a7.ext f9;replace d7:=d7.ext f9;have hC:Fr [] r9 r9:=Fr.refl _ _;have a5:=O;have a6:=Z;have b8:=a1;have b4:=a0;have b9:=a7;have h8:=d7;refine z3u 0 h U (λ_ hw=>a5.ext hw) y3m U λa h=>z0d 1 h U λa h=>z3u 2 h U (λ_ hw=>b9.ext hw) j0w U λa h=>z0d 3 h U λa h=>z3u 6 h U (λ_ hw=>a6.ext hw) y3m U λa h=>z0d 7 h U λa h=>z1e (p:=((z1l (dif xs ys)).getD x.1 0)) (0) 8 h U a0.sl U z3b U λs6 l7 a h=>z2h 9 h U (λ_ hw=>l7 _ (b4.sl.ext hw)) na3 U λa h=>z0e 4 U (z4y (us:=[]) (ws:=[.pointer (some ⟨b2,0,none⟩),.pointer (some ⟨b3,0,none⟩)]) h U (z0a U z0g) (mkC func70) (u1l ((z1l (dif xs ys)).getD x.1 0) b2 b3 _ _ _ _ (dif xs ys) _ O Z a0.sl oo) (by intro g e;cases e) ?_);rintro _ D8 ⟨rfl,j4⟩ a h;have H1:=j4.size;replace a1:=a1.ext j4;replace d7:=d7.ext j4;replace hC:=hC.next j4;refine z0b (y5j (p:=((z1l (dif xs ys)).getD x.1 0)) (p':=(y2a (dif xs ys) ((z1l (dif xs ys)).getD x.1 0))) 5 hC h wn U U U z3b U U λa h=>z0e 10 U ?_);refine z0n h (z0a U (z0a U (z0a U z0g))) (mkC func69) (x9v g9 _ _ w0.heap.size _ _ _ _ d7 (a1.sl.cutv (p:=((z1l (dif xs ys)).getD x.1 0)) (p':=y2a (dif xs ys) ((z1l (dif xs ys)).getD x.1 0)) oo oo) (λe=>by have:=congrArg List.length e;simp only[List.length_drop,List.length_take,List.length_nil]at this;omega) (λk I=>by rcases I with I|⟨o,ho,_⟩;exact Nat.lt_of_lt_of_le I.1 oo;exact Nat.lt_of_lt_of_le (Array.getElem?_eq_some_iff.1 ho).1 oo) oo (λj hj=>by simp only[List.length_drop,List.length_take]at hj;rw[x2s oo oo];have:=hx (((z1l (dif xs ys)).getD x.1 0)+j) oo;omega) (by simp only[List.length_drop,List.length_take];omega) m1 i9.1 (by have:=i9.2;omega)) ?_;rintro _ x4 ⟨k0,Sx,f3,hq⟩ a h;have H2:=hq.size;have p8:=hq;skip;refine z1h (z0r ?_);clear hC a5 a6 b8 b4 b9 h8;have hp:Pl 137 88 w0.heap.size x4 g9 (λk=>k<N/\k≠g9) _:=k0.setK (λk _ I=>.inl I);exact bk (h.sub (L':=[]) .nil) (bn' (rndU (S:=Sx) ((((Fr.refl Sx _).n1 f9).n1 j4).step p8 (λk I _=>I)) (λk I e=>f3 k I (.inr e)) (λb hb=>by have:=k8 b hb;omega) (λb hb e=>f3 b e (.inl (k8 b hb))) ⟨(((Fr.refl [g9] _).z3 h5 f9 j4).step p8 (λk I d0=>Classical.byContradiction λe=>f3 k I (.inl ⟨oo,λe2=>by first|omega|exact e (by simp[e2])⟩))),by rw[List.map_append,List.map_cons,List.map_nil,v0f,upS,if_pos c7];exact hp⟩));exact isk (bn' (rndU (S:=[]) (Fr.refl _ _) sp0 (λb hb=>by have:=k8 b hb;omega) sp0 ⟨((Fr.refl [g9] _).z1 h5),by rw[List.map_append,List.map_cons,List.map_nil,v0f,upS,if_neg c7];exact hp⟩));rintro D1 E3 D9 A2 hS ⟨p9,hp⟩ d1;have H3:=p9.size;have z0:=d1;have s3:=d1.lt;rw[hS,u5,u9v]at hp;refine bn' (itn (isq (isq (irg U (mv U (lnS U underlying26 (mv U (inl (itn (ibl (v3e (ι:=Nat) [(9,_),(10,_),(11,_),(14,_),(141,_),(142,_)] (λm=>[(143,.int .i64 (m:Int))]) (λm w'=>Fr [g9] k5 w'/\m<=(z1l (dif xs ys)).length/\Pl 137 88 w0.heap.size w' g9 (λk=>k<N/\k≠g9) (x6b xs ys m)/\DefAt D1 w') (λm=>(z1l (dif xs ys)).length-m) 0 (.c7 U U U U U U U) ⟨((Fr.refl [g9] _).z1 p9),⟨Nat.zero_le _,hp,d1⟩⟩ ?_)))))))))));rintro m m8 ⟨e8,⟨hm,hp,d1⟩⟩;have H4:=e8.size;refine y7v [(9,_),(10,_),(11,_),(14,_),(141,_),(142,_),(143,_)] (.c7 U U U U U U U) ?_;have p3:=d1;refine isq (irg U (lt' U (inl (itn (isq (icd U (λc8=>?_) (λc8=>?_)))))));have i9:=x3g hx hy hl m;have u2:=v8s (xs:=xs) (ys:=ys) (j:=m) oo;have m2:=x3c hl (j:=m) oo;have l3:=z8t (b:=dif xs ys) (i:=((z1l (dif xs ys)).getD m 0)) oo;rw[k9]at l3;have m1:=x0h hx hy hl m2;have d7:Pl 137 88 w0.heap.size m8 g9 (λk=>(k<N/\k≠g9)\/z9e m8 k) _:=hp.addNon;refine isk (itn (isq (ibl (isq (irg U ?_)))));replace b0:=p5.fr ((Fr.refl [g9] _).z1 e8) (by intro k I hb;simp at I;subst I;have:=p4 _ hb;omega);refine z0x (p:=m) (0) U b0.sl U z3b oo (λs7 l8=>(z1a U (l8 _ b0.sl) na3 (asg U ?_)));rw[u2];refine inl (itn (isq (irg U ?_)));replace Z:=e1.fr ((Fr.refl [g9] _).z1 e8) se;refine z2j U Z y3m (mv U ?_);replace a0:=g7.fr ((Fr.refl [g9] _).z1 e8) (by intro k I hb;simp at I;subst I;have:=l0 _ hb;omega);refine z0x (p:=((z1l (dif xs ys)).getD m 0)) (0) U a0.sl U z3b oo (λs8 l9=>(z1a U (l9 _ a0.sl) na3 (lt' U (inl (itn (icd U (λc9=>?_) (λc9=>?_)))))));replace O:=d6.fr ((Fr.refl [g9] _).z1 e8) se;replace a1:=i5.fr ((Fr.refl [g9] _).z1 e8) (by intro k I hb;simp at I;subst I;have:=m4 _ hb;omega);replace a7:=e3.fr ((Fr.refl [g9] _).z1 e8) se;intro a h;refine y0n (some 10) (λwb w'=>Fr [] wb w') U z2y ?_;intro s1 g4;have H5:=g4.size;replace O:=O.ext g4;replace Z:=Z.ext g4;replace a1:=a1.ext g4;replace a0:=a0.ext g4;replace a7:=a7.ext g4;replace d7:=d7.ext g4;have hC:Fr [] s1 s1:=Fr.refl _ _;have a5:=O;have a6:=Z;have b8:=a1;have b4:=a0;have b9:=a7;have h8:=d7;refine z3u 0 h U (λ_ hw=>a5.ext hw) y3m U λa h=>z0d 1 h U λa h=>z3u 2 h U (λ_ hw=>b9.ext hw) j0w U λa h=>z0d 3 h U λa h=>z3u 6 h U (λ_ hw=>a6.ext hw) y3m U λa h=>z0d 7 h U λa h=>z1e (p:=((z1l (dif xs ys)).getD m 0)) (0) 8 h U a0.sl U z3b U λs9 m0 a h=>z2h 9 h U (λ_ hw=>m0 _ (b4.sl.ext hw)) na3 U λa h=>z0e 4 U (z4y (us:=[]) (ws:=[.pointer (some ⟨b2,0,none⟩),.pointer (some ⟨b3,0,none⟩)]) h U (z0a U z0g) (mkC func70) (u1l ((z1l (dif xs ys)).getD m 0) b2 b3 _ _ _ _ (dif xs ys) _ O Z a0.sl oo) (by intro g e;cases e) ?_);rintro _ E0 ⟨rfl,j5⟩ a h;have H6:=j5.size;replace a1:=a1.ext j5;replace d7:=d7.ext j5;replace hC:=hC.next j5;refine z0b (y5j (p:=((z1l (dif xs ys)).getD m 0)) (p':=(y2a (dif xs ys) ((z1l (dif xs ys)).getD m 0))) 5 hC h wn U U U z3b U U λa h=>z0e 10 U ?_);refine z0n h (z0a U (z0a U (z0a U z0g))) (mkC func69) (x9v g9 _ _ w0.heap.size _ _ _ _ d7 (a1.sl.cutv (p:=((z1l (dif xs ys)).getD m 0)) (p':=y2a (dif xs ys) ((z1l (dif xs ys)).getD m 0)) oo oo) (λe=>by have:=congrArg List.length e;simp only[List.length_drop,List.length_take,List.length_nil]at this;omega) (λk I=>by rcases I with I|⟨o,ho,_⟩;exact Nat.lt_of_lt_of_le I.1 oo;exact Nat.lt_of_lt_of_le (Array.getElem?_eq_some_iff.1 ho).1 oo) oo (λj hj=>by simp only[List.length_drop,List.length_take]at hj;rw[x2s oo oo];have:=hx (((z1l (dif xs ys)).getD m 0)+j) oo;omega) (by simp only[List.length_drop,List.length_take];omega) m1 i9.1 (by have:=i9.2;omega)) ?_;rintro _ x5 ⟨k0,Sx,f3,hq⟩ a h;have H7:=hq.size;have q0:=hq;skip;refine z1h (z0r ?_);clear hC a5 a6 b8 b4 b9 h8;have hp:Pl 137 88 w0.heap.size x5 g9 (λk=>k<N/\k≠g9) _:=k0.setK (λk _ I=>.inl I);refine bk (h.sub (L':=[(9,_),(10,_),(11,_),(14,_),(141,_),(142,_),(143,_)]) (.c7 U U U U U U U)) (bn' (itn (irg U (z0q U (wi6 oo) (mv U (inl ?_))))));replace d1:=(d1.ext (g4.n1 j5)).fr q0 (λe=>f3 _ e (.inr ⟨_,p3,rfl⟩));exact x5z (m+1) (.c7 U U U U U U U) ⟨(((Fr.refl [g9] _).z3 e8 g4 j5).step q0 (λk I d0=>Classical.byContradiction λe=>f3 k I (.inl ⟨oo,λe2=>by first|omega|exact e (by simp[e2])⟩))),⟨oo,by rw[y9w oo,y0z,if_pos c9];exact hp,d1⟩⟩ oo;exact isk (bn' (itn (irg U (z0q U (wi6 oo) (mv U (inl (x5z (m+1) (.c7 U U U U U U U) ⟨((Fr.refl [g9] _).z1 e8),⟨oo,by rw[y9w oo,y0z,if_neg c9];exact hp,d1⟩⟩ oo)))))));obtain rfl:m=(z1l (dif xs ys)).length:=by omega
 refine iex (te (te (xh (itn (isq (irg U (cl (ev2 U) (mkC func72) (v6t g9 (λk=>(k<N/\k≠g9)\/z9e m8 k) _ w0.heap.size 0 _ hp.addNon (λk I=>by rcases I with I|⟨o,ho,_⟩;exact Nat.lt_of_lt_of_le I.1 oo;exact(Array.getElem?_eq_some_iff.1 ho).1) oo (by have:=(x3g hx hy hl (z1l (dif xs ys)).length).2;omega)) U ?_)))))));rintro _ E1 ⟨k0,Sx,f3,m7⟩;replace d1:=d1.fr m7 (λe=>f3 _ e (.inr ⟨_,d1,rfl⟩));have H8:=m7.size;obtain⟨v9,a2,i8,_⟩:=k0;rw[<-x9w]at i8;obtain⟨A9,c9,rfl,p2⟩:=i8.sl.form;refine kpL [(9,_)] (.cons U .nil) (inl (itn (isq (irg U (fad U x7x (z0i U a2 U j6e (cl (ev1 U) (mkC func32) (v0m _ _ _ _ p2) U ?_)))))));rintro _ _ ⟨rfl,rfl⟩;refine asg U (asg U (inl (itn (irt (rM2 results30 U U (x6h d1) sp0 ?_)))));intro E2 q7;replace i8:=i8.fr q7 (by intro k I hb;simp at I;subst I;obtain⟨o,h1,h2⟩:=i8.isC _ hb;rw[show _=some (Obj.deferred (some [])) from d1]at h1;cases h1;cases h2);exact⟨_,rfl,A9,rfl,by have:=i8.take U (Nat.le_refl _) p2 (Nat.le_refl _);rwa [List.take_length]at this,((((((q1.z6 q2 q3 q4 q5 q6 j0).z1 j1).n1 d5).z2 f8 e8).step m7 (λk I d0=>Classical.byContradiction λe=>f3 k I (.inl ⟨oo,λe2=>by first|omega|exact e (by simp[e2])⟩))).sp q7)⟩
theorem v3c (b a8:Int)(gX gO N:Nat)(vr va vb vO:Value)(l:List Int)(os:List MOp)(w0:World)(b0:Blk w0 gX 79 [vr,va,.int .i64 a8,vb])(hs:Sl Enc.i64 w0 va l)(D:Blk w0 gO 30 [vO])(I:Lw.Own y0v 88 N w0 vO os)(hN:N<=w0.heap.size)(hA:∀k∈z0u va,k<w0.heap.size/\k≠gO/\k∉z0u vO)(hl:os.length+l.length<=1000000):Rets prog 31 #[.int .u8 b,.pointer (some ⟨gX,0,none⟩),.pointer (some ⟨gO,0,none⟩)] w0 λ_ w'=>∃v',Blk w' gO 30 [v']/\Lw.Own y0v 88 N w' v' (os++z7s b l)/\(∀k∈z0u v',k∈z0u vO\/w0.heap.size<=k)/\Fr (gO::z0u vO) w0 w':=by
 obtain⟨A,c,rfl,b8,hM,a9⟩:=id hs;clear a9;have a4:∀k∈z0u vO,k∈z0u vO\/w0.heap.size<=k:=λk Z=>.inl Z;refine we [(0,.int .u8 b),(1,.pointer (some ⟨gX,0,none⟩)),(2,.pointer (some ⟨gO,0,none⟩))] func31 U ntmps31 U (.c3 U U U) ?_;have b2:=hs;refine sr (fad U u0t (z0i U b0 U y3m (lnS U underlying26 (mv U (nn (bl (lpK (ι:=Nat×Value) [(0,_),(2,_),(7,_),(8,_)] (λp=>[(9,.int .i64 (p.1:Int))]) (λp w'=>p.1<=l.length/\Blk w' gO 30 [p.2]/\Lw.Own y0v 88 N w' p.2 (os++z7s b (l.take p.1))/\(∀k∈z0u p.2,k∈z0u vO\/w0.heap.size<=k)/\Fr (gO::z0u vO) w0 w') (λp=>l.length-p.1) (0,vO) (.c5 U U U U U) ⟨Nat.zero_le _,D,by rw[List.take_zero,show z7s b []=[] from U,List.append_nil];exact I,a4,Fr.refl _ _⟩ ?_)))))));rintro⟨i,v1⟩ w1 ⟨hi,D,I,O,hf⟩;simp only at hi D I O;have a7:=D.lt;refine kpC [(0,_),(2,_),(7,_),(8,_),(9,.int .i64 (i:Int))] (.c5 U U U U U) ?_;have c1:=hf.size;replace hs:=b2.fr hf (λk Z hb=>by have h:=hA k hb;rcases List.mem_cons.1 Z with e|e;omega;exact h.2.2 e);refine sr (lt' U (nn (sq (cd U (λc0=>?_) (λc0=>?_)))));refine sk (tn (sq (bl (sr (z0x (p:=i) (0) U hs U z3b oo (λb3 a2=>?_))))));refine z1a U (a2 _ hs) na3 (asg U (nn (rg (z2j U D j6e (mv U (mv U (z1z (cs:=[_,_]) (ev2 U) x8q (z0f U (z0f U z0t)) U (z1z (cs:=[_,_,_,_,_,_]) (ev2 U) u2t (z0f U (z0f U z0t)) U (z1w ([z6a b (l.getD i 0)]) (ev1 U) U y8q (λb7 w2 b4 a3 q2 z2=>?_))))))))));replace D:=D.ext q2;replace hs:=hs.ext q2;replace I:=I.ext q2;have a0:=I;refine z1x U I a3.sl y8q (λa6 w3 I q3 a1=>?_) (hM:=(by unfold maxLen;simp only[List.length_append,List.length_cons,List.length_nil,z7s,List.length_map,List.length_take];omega)) (hb:=(by simp only[List.length_append,List.length_cons,List.length_nil,z7s,List.length_map,List.length_take];omega));have z3:=q3.size;replace D:=D.fr q3 (a0.neB D dd);replace hs:=hs.fr q3 (λk Z hb=>by have h:=hA k hb;rcases O k Z with e|e;exact h.2.2 e;omega);have a5:∀k∈z0u a6,k∈z0u vO\/w0.heap.size<=k:=by
  rcases a1 with e|e|e
  rw[e];exact O;rw[e];exact O;rw[e];intro k Z;simp at Z;right;omega
 have b1:gO∉z0u a6:=I.neB D dd;obtain⟨b5,b6,rfl,_⟩:=I.sl.form;refine z2u U D U k1m (λw4 D q4 z4=>(kpL [(0,_),(2,_),(7,_),(8,_),(9,_)] (.c5 U U U U U) (nl (bn' (tn (rg (z0q U (wi6 oo) (mv U (nl ?_)))))))));replace I:=I.fr q4 (by intro k Z hb;simp at Z;subst Z;exact b1 hb);exact lpE ((i+1,_)) (.c5 U U U U U) ⟨sm,D,by rw[v3u b oo,<-List.append_assoc];exact I,a5,(((hf.n1 q2).step q3 (λk Z b9=>(O k Z).elim (λh=>List.mem_cons_of_mem _ h) (λh=>oo))).step q4 sp0)⟩ sm;obtain rfl:i=l.length:=by omega
 rw[List.take_length]at I;exact ex (te (te (xh (r0n results31  ⟨_,rfl,v1,D,I,O,hf⟩))))
theorem k0u:z0y prog 79 2 2:=λ_ _=>kr0
theorem zv30 (w:World):(zeroValue 30).run prog w=.ok (.slice none 0 0) w:=kr0
theorem coCh (front:Bool):CallOf prog (if front=true then 29 else 28):=by
 cases front;exact(mkC func28);exact(mkC func29)
theorem u1t (v:Value)(l:List Int)(i a b:Nat)(front:Bool)(w0:World)(O:Sl Enc.i64 w0 v l)(I:Asc l)(Z:1<=a/\1<=b/\a+b<=4)(D:i+a+b<=l.length):Rets prog (if front=true then 29 else 28) #[v,.int .i64 (i:Int),.int .i64 (a:Int),.int .i64 (b:Int)] w0 λr w'=>∃vr va vb,r=.tuple #[.agg #[vr,va,.int .i64 (byC a b front),vb],.bool (decide (y3n l i a b front))]/\Lw.Own Enc.i64 3 w0.heap.size w' vr (z2z l i a b front)/\Lw.Own Enc.i64 3 w0.heap.size w' va (x7a l i a b front)/\Lw.Own Enc.i64 3 w0.heap.size w' vb (x9g l i a b front)/\Fr [] w0 w':=by
 cases front;exact v3j v l i a b w0 O I Z D;exact v8b v l i a b w0 O I Z D
theorem y0m {l:List Int}{i a b:Int}{front:Bool}(h:x3m l i a b front≠0):z5d l i a b front=[]:=if_neg h
theorem j9z {l:List Int}{i a b:Int}{front:Bool}(h:¬Asc l):x3m l i a b front=1:=if_pos h
theorem k1k {l:List Int}{i a b:Int}{front:Bool}(h:Asc l)(D:¬y7c a b):x3m l i a b front=1:=by rw[x3m,if_neg (λe=>e h),if_pos D]
theorem k1x {l:List Int}{i a b:Int}{front:Bool}(h:Asc l)(D:y7c a b)(I:i<0\/(l.length:Int)-a-b<i):x3m l i a b front=5:=by rw[x3m,if_neg (λe=>e h),if_neg (λe=>e D),if_pos I]
theorem j6r {l:List Int}{i a b:Int}{front:Bool}(h:Asc l)(D:y7c a b)(I:¬(i<0\/(l.length:Int)-a-b<i))(O:¬y3n l i.toNat a.toNat b.toNat front):x3m l i a b front=15:=by rw[x3m,if_neg (λe=>e h),if_neg (λe=>e D),if_neg I,if_neg O]
theorem j7x {l:List Int}{i a b:Int}{front:Bool}(h:Asc l)(D:y7c a b)(I:¬(i<0\/(l.length:Int)-a-b<i))(O:y3n l i.toNat a.toNat b.toNat front):x3m l i a b front=0:=by rw[x3m,if_neg (λe=>e h),if_neg (λe=>e D),if_neg I,if_pos O]
theorem y5n (v:Value)(l:List Int)(i a b:Int)(front:Bool)(w0:World)(hs:Sl Enc.i64 w0 v l):Rets prog 8 #[v,.int .i64 i,.int .i64 a,.int .i64 b,.bool front] w0 λr w'=>∃A,r=.tuple #[.slice A (z5d l i a b front).length (z5d l i a b front).length,.int .i64 (x3m l i a b front)]/\Lw.Own y0v 88 w0.heap.size w' (.slice A (z5d l i a b front).length (z5d l i a b front).length) (z5d l i a b front)/\Fr [] w0 w':=by
 obtain⟨A,c,rfl,h7,hM,hA⟩:=id hs;clear hA;unfold maxLen at hM;refine we [(0,.slice A l.length c),(1,.int .i64 i),(2,.int .i64 a),(3,.int .i64 b),(4,.bool front)] func8 U ntmps8 U (.c5 U U U U U) ?_;have d6:=hs;refine sr (asg U (asg U (nn (sq (sr (mv U (cl (ev1 U) (mkC func26) (v0n _ l _ hs) U ?_)))))));rintro _ w1 ⟨rfl,q1⟩;have z1:=q1.size;refine asg U (nn (sr (mv U (ne' U (nn (cd U (λc0=>?_) (λc0=>?_)))))));have b9:¬Asc l:=λh=>c0 (if_pos h);have hE:=j9z (i:=i) (a:=a) (b:=b) (front:=front) b9;have hS:z5d l i a b front=[]:=y0m (by rw[hE];decide);exact sr (mv U (asg U (asg U (kpL [(10,_),(11,_)] (.c2 U U) (nn (rt (tr (r2 results8 U U ⟨_,rfl,none,by rw[hE,hS];first|rfl|(rw[if_neg b9];rfl)|(rw[if_neg c9];rfl),by rw[hS];exact Own.nil _,q1⟩))))))));have a1:Asc l:=by
  by_cases h:Asc l;exact h;exact absurd (by rw[if_neg h];decide) c0
 have e9:=a1.len;refine sk (tn (sq (sr (mv U (mv U (cl (ev2 U) (mkC func27) (v2o a b _) U ?_))))));rintro _ w2 ⟨rfl,q2⟩;have z2:=q2.size;refine asg U (nn (sr (mv U (ne' U (nn (cd U (λc1=>?_) (λc1=>?_)))))));have c9:¬y7c a b:=λh=>c1 (if_pos h);have hE:=k1k (i:=i) (front:=front) a1 c9;have hS:z5d l i a b front=[]:=y0m (by rw[hE];decide);exact sr (mv U (asg U (asg U (kpL [(10,_),(11,_)] (.c2 U U) (nn (rt (tr (r2 results8 U U ⟨_,rfl,none,by rw[hE,hS];first|rfl|(rw[if_neg b9];rfl)|(rw[if_neg c9];rfl),by rw[hS];exact Own.nil _,(q1.n1 q2)⟩))))))));have d7:y7c a b:=by
  by_cases h:y7c a b;exact h;exact absurd (by rw[if_neg h];decide) c1
 obtain⟨i1,i2,i3,i4,i5⟩:=id d7;refine sk (tn (sq (sq (rbo (r:=43) (L':=[(0,_),(1,_),(2,_),(3,_),(4,_)]) (((i<0)\/((((l.length:Int)-a)-b)<i))) (.c5 U U U U U) ?_ ?_))));refine mv U (lt' U (mv U (gs 34 U (λg0=>?_) (λg0=>?_))));exact gN U (gN U (gN U (gN U (gN U (gN U (gN U (gN U (pkt U (rbe U (.c5 U U U U U))))))))));exact gY U (mv U (gY U (mv U (gY U (lnS U underlying26 (gY U (mv U (gY U (z1u U (wi6 oo) (gY U (mv U (gY U (z1u U (wi6 oo) (gY U (gt' U (pkf U (rbe U (.c5 U U U U U))))))))))))))))));refine tn (cd U (λc2=>?_) (λc2=>?_));have hE:=k1x (front:=front) a1 d7 c2;have hS:z5d l i a b front=[]:=y0m (by rw[hE];decide);exact sr (asg U (asg U (kpL [(10,_),(11,_)] (.c2 U U) (nn (rt (tr (r2 results8 U U ⟨_,rfl,none,by rw[hE,hS];first|rfl|(rw[if_neg b9];rfl)|(rw[if_neg c9];rfl),by rw[hS];exact Own.nil _,(q1.n1 q2)⟩)))))));obtain⟨i',rfl⟩:=Int.eq_ofNat_of_zero_le (show 0<=i by omega);obtain⟨a',rfl⟩:=Int.eq_ofNat_of_zero_le (show 0<=a by omega);obtain⟨b',rfl⟩:=Int.eq_ofNat_of_zero_le (show 0<=b by omega);have hz:1<=a'/\1<=b'/\a'+b'<=4:=by omega
 have b1:i'+a'+b'<=l.length:=by omega
 refine sk (tn (sr (asg U (nn (jn (ι:=Unit) [(0,_),(1,_),(2,_),(3,_)] (λ_j=>[(14,.func (.func (if front=true then 29 else 28)) #[] #[])]) (λ_j w'=>Fr [] w2 w') (.c4 U U U U) ?_ ?_)))));refine sr (mv U (nn (cd U (λc3=>?_) (λc3=>?_))));exact rg (asg U (nl (jE (()) (.c5 U U U U (by first|(rw[if_pos c3];rfl)|(rw[if_neg c3];rfl))) (Fr.refl _ _))));exact sk (jE (()) (.c5 U U U U (by first|(rw[if_pos c3];rfl)|(rw[if_neg c3];rfl))) (Fr.refl _ _));rintro _j w3 q3;have z3:=q3.size;refine kpC [(0,_),(1,_),(2,_),(3,_),(14,_)] (.c5 U U U U U) (sr (mv U (mv U (mv U (mv U (mv U ?_))))));replace hs:=d6.ext (q1.n2 q2 q3);refine clv (us:=[]) (ws:=[]) U (ev4 U) (coCh front) (u1t _ l i' a' b' front _ hs a1 hz b1) U (by intro g e;cases e) ?_;rintro _ w4 ⟨vr,va,vb,rfl,d0,a5,b2,q4⟩;have z4:=q4.size;obtain⟨AR,cR,rfl,_⟩:=d0.sl.form;obtain⟨AA,cA,rfl,_⟩:=a5.sl.form;obtain⟨AB,cB,rfl,_⟩:=b2.sl.form;refine mv U (xt U (xt U (al j7p U (λd4 w5 f8 a0 q5 z5=>(z0k U a0 k0p (λw6 a0 q6 z6=>?_) (hl:=rfl))))));refine asg U (kpL [(0,_),(15,_),(16,_)] (.c3 U U U) (nn (sq (sr (mv U (nt' U (nn (cd U (λc4=>?_) (λc4=>?_)))))))));have hE:=j6r (front:=front) a1 d7 c2 (by simpa using c4);have hS:z5d l (i':Int) (a':Int) (b':Int) front=[]:=y0m (by rw[hE];decide);exact sr (asg U (asg U (nn (rt (tr (r2 results8 U U ⟨_,rfl,none,by rw[hE,hS];first|rfl|(rw[if_neg b9];rfl)|(rw[if_neg c9];rfl),by rw[hS];exact Own.nil _,(q1.z5 q2 q3 q4 q5 q6)⟩))))));have e1:y3n l i' a' b' front:=Classical.not_not.1 c4;have d5:=x1w a1 hz b1 e1;have hE:=j7x (front:=front) a1 d7 c2 (by simpa using e1);have hS:z5d l (i':Int) (a':Int) (b':Int) front=y2z l i' a' b' front:=if_pos hE;have h8:=j5d (front:=front) e9 b1;have g4:=x4t a1 d5.1 (z4l b1);have g5:=x4t d5.2 a1 (by rw[y2x b1]);refine sk (tn (sr (mv U (fad U y2m (z0i U a0 U y3m ?_)))));replace a5:=(a5.ext q5).fr q6 (by first|exact z9q a5 oo|simp[z0u]<;>omega);replace hs:=d6.ext (q1.z5 q2 q3 q4 q5 q6);replace b2:=(b2.ext q5).fr q6 (by first|exact z9q b2 oo|simp[z0u]<;>omega);obtain⟨N,hN⟩:∃N,N=w6.heap.size:=⟨_,rfl⟩;have b5:∀k∈z0u (Value.slice AA (x7a l i' a' b' front).length cA),k<N:=λk O=>by have:=(a5.blk k O).2;omega
 have d6:=hs;have a7:=a0;have e2:=a5;have e6:=b2;replace d0:=(d0.ext q5).fr q6 (by first|exact z9q d0 oo|simp[z0u]<;>omega);refine cl (ev2 U) (mkC func30) (x3w _ _ l (z2z l i' a' b' front) _ hs d0.sl a1 d5.1 (z4l b1)) U ?_;rintro _ w7 ⟨g8,rfl,I,q7⟩;have z7:=q7.size;rw[<-hN]at I;have b8:w0.heap.size<=N:=by omega
 clear b8;refine mv U (xt U (xt U (al zv30 U (λb4 w8 f9 D q8 z8=>(z2u U D U k1m (λw9 D q9 z9=>(asg U (kpL [(0,_),(15,_),(17,_),(18,_)] (.c4 U U U U) (nn (sq (sr (mv U (ne' U (nn (cd U (λc5=>?_) (λc5=>?_))))))))))))))));exact absurd U c5;refine sk (tn (sr (z4q z0g (ev2 U) (asg U (nn (sr (mv U ?_)))))));replace I:=(I.ext q8).fr q9 (by first|exact z9q I oo|simp[z0u]<;>omega);have a3:=I;replace a0:=a7.ext (q7.z2 q8 q9);replace a5:=e2.ext (q7.z2 q8 q9);refine clv (us:=[]) (ws:=[.pointer (some ⟨d4,0,none⟩),.pointer (some ⟨b4,0,none⟩)]) U (ev1 U) (mkC func31) (v3c 0 (byC a' b' front) d4 b4 N _ _ _ _ (x7a l i' a' b' front) _ _ a0 a5.sl D a3 oo (λk O=>⟨by have:=b5 k O;omega,by have:=b5 k O;omega,λhb=>by have:=b5 k O;have:=(a3.blk k hb).1;omega⟩) (by first|omega|(simp only[List.length_append,List.length_cons,List.length_nil,z7s,List.length_map];omega))) U (by intro g e;cases e) ?_;rintro f4 j0 ⟨i8,D,I,h9,a8⟩;have k0:=a8.size;have g6:=I.neB D dd;refine nn (sr (z2j U D j6e (fad U k0u ?_)));replace a0:=a7.ext ((q7.z2 q8 q9).step a8 (λk O Z=>by exfalso;rcases List.mem_cons.1 O with e|e;omega;have:=(a3.blk k e).1;omega));refine z0i U a0 U na3 (z1z (cs:=[_,_,_,_,_,_]) (ev2 U) u2t (z0f U (z0f U z0t)) U (z1w ([y0a (byC a' b' front)]) (ev1 U) U y8q (λh5 j1 g1 e4 a9 k1=>?_)));replace D:=D.ext a9;replace I:=I.ext a9;have a2:=I;refine z1x U I e4.sl y8q (λf6 j2 I b0 f1=>?_) (hM:=(by unfold maxLen;simp only[List.length_append,List.length_cons,List.length_nil,z7s,List.length_map];omega)) (hb:=(by simp only[List.length_append,List.length_cons,List.length_nil,z7s,List.length_map];omega));have k2:=b0.size;replace D:=D.fr b0 (a2.neB D dd);have b8:b4∉z0u f6:=I.neB D dd;obtain⟨h0,h2,rfl,_⟩:=I.sl.form;refine z2u U D U k1m (λj3 D b3 k4=>(kpL [(0,_),(15,_),(17,_),(19,_)] (.c4 U U U U) (nn (sr (mv U ?_)))));replace I:=I.fr b3 (by intro k O hb;simp at O;subst O;exact b8 hb);have a6:=I;replace a0:=a7.ext (((((q7.z2 q8 q9).step a8 (λk O Z=>by exfalso;rcases List.mem_cons.1 O with e|e;omega;have:=(a3.blk k e).1;omega)).n1 a9).step b0 (λk O Z=>absurd (a2.blk k O).1 oo)).sp b3);replace a5:=e2.ext (((((q7.z2 q8 q9).step a8 (λk O Z=>by exfalso;rcases List.mem_cons.1 O with e|e;omega;have:=(a3.blk k e).1;omega)).n1 a9).step b0 (λk O Z=>absurd (a2.blk k O).1 oo)).sp b3);refine clv (us:=[]) (ws:=[.pointer (some ⟨d4,0,none⟩),.pointer (some ⟨b4,0,none⟩)]) U (ev1 U) (mkC func31) (v3c 1 (byC a' b' front) d4 b4 N _ _ _ _ (x7a l i' a' b' front) _ _ a0 a5.sl D a6 oo (λk O=>⟨by have:=b5 k O;omega,by have:=b5 k O;omega,λhb=>by have:=b5 k O;have:=(a6.blk k hb).1;omega⟩) (by first|omega|(simp only[List.length_append,List.length_cons,List.length_nil,z7s,List.length_map];omega))) U (by intro g e;cases e) ?_;rintro f5 j4 ⟨i9,D,I,i0,d1⟩;have k5:=d1.size;have g7:=I.neB D dd;refine nn (sr (z2j U D j6e (z1z (cs:=[_,_,_,_,_,_]) (ev1 U) u2t (z0f U z0t) U (z1w ([y0a 0]) (ev1 U) U y8q (λh6 j5 g3 e5 b6 k6=>?_)))));replace D:=D.ext b6;replace I:=I.ext b6;have a4:=I;refine z1x U I e5.sl y8q (λf7 j6 I b7 f2=>?_) (hM:=(by unfold maxLen;simp only[List.length_append,List.length_cons,List.length_nil,z7s,List.length_map];omega)) (hb:=(by simp only[List.length_append,List.length_cons,List.length_nil,z7s,List.length_map];omega));have k7:=b7.size;replace D:=D.fr b7 (a4.neB D dd);have b8:b4∉z0u f7:=I.neB D dd;obtain⟨h1,h3,rfl,_⟩:=I.sl.form;refine z2u U D U k1m (λj7 D d3 k8=>(nn (sr (fad U x4j ?_))));replace a0:=a7.ext (((((((((q7.z2 q8 q9).step a8 (λk O Z=>by exfalso;rcases List.mem_cons.1 O with e|e;omega;have:=(a3.blk k e).1;omega)).n1 a9).step b0 (λk O Z=>absurd (a2.blk k O).1 oo)).sp b3).step d1 (λk O Z=>by exfalso;rcases List.mem_cons.1 O with e|e;omega;have:=(a6.blk k e).1;omega)).next b6).step b7 (λk O Z=>absurd (a4.blk k O).1 oo)).sp d3);refine z0i U a0 U y3m (mv U ?_);replace b2:=e6.ext (((((((((q7.z2 q8 q9).step a8 (λk O Z=>by exfalso;rcases List.mem_cons.1 O with e|e;omega;have:=(a3.blk k e).1;omega)).n1 a9).step b0 (λk O Z=>absurd (a2.blk k O).1 oo)).sp b3).step d1 (λk O Z=>by exfalso;rcases List.mem_cons.1 O with e|e;omega;have:=(a6.blk k e).1;omega)).next b6).step b7 (λk O Z=>absurd (a4.blk k O).1 oo)).sp d3);replace hs:=d6.ext (((((((((q7.z2 q8 q9).step a8 (λk O Z=>by exfalso;rcases List.mem_cons.1 O with e|e;omega;have:=(a3.blk k e).1;omega)).n1 a9).step b0 (λk O Z=>absurd (a2.blk k O).1 oo)).sp b3).step d1 (λk O Z=>by exfalso;rcases List.mem_cons.1 O with e|e;omega;have:=(a6.blk k e).1;omega)).next b6).step b7 (λk O Z=>absurd (a4.blk k O).1 oo)).sp d3);refine cl (ev2 U) (mkC func30) (x3w _ _ (x9g l i' a' b' front) l _ b2.sl hs d5.2 a1 (by rw[y2x b1])) U ?_;rintro _ j8 ⟨g9,rfl,f0,d9⟩;have k9:=d9.size;refine mv U (xt U (xt U (asg U (asg U (kpL [(17,_),(18,_),(20,_)] (.c3 U U U) (nn (sq (sr (mv U (ne' U (nn (cd U (λc6=>?_) (λc6=>?_)))))))))))));exact absurd U c6;refine sk (tn (sr ?_));replace D:=D.ext d9;refine z2j U D j6e (mv U ?_);replace I:=(I.fr d3 (by intro k O hb;simp at O;subst O;exact b8 hb)).ext d9;have e3:=I;refine z1x U I f0.sl y8q (λi7 j9 I e7 f3=>?_) (hM:=(by unfold maxLen;simp only[List.length_append,List.length_cons,List.length_nil,z7s,List.length_map];omega)) (hb:=(by simp only[List.length_append,List.length_cons,List.length_nil,z7s,List.length_map];omega));have l0:=e7.size;obtain⟨e8,h4,rfl,e0⟩:=I.sl.form;refine cl (ev1 U) (mkC func32) (v0m _ _ _ _ e0) U ?_;rintro _ _ ⟨rfl,rfl⟩;exact asg U (asg U (kpL [(10,_),(11,_)] (.c2 U U) (nn (rt (r2 results8 U U ⟨_,rfl,e8,by rw[hE,hS];rfl,by rw[hS];have:=(I.take U (Nat.le_refl _) e0 (Nat.le_refl _)).low (b':=w0.heap.size) oo;rw[List.take_length]at this;exact this,(((((((((((((q1.z6 q2 q3 q4 q5 q6 q7).n1 q8).z1 q9).step a8 (λk O Z=>by exfalso;rcases List.mem_cons.1 O with e|e;omega;have:=(a3.blk k e).1;omega)).next a9).step b0 (λk O Z=>absurd (a2.blk k O).1 oo)).sp b3).step d1 (λk O Z=>by exfalso;rcases List.mem_cons.1 O with e|e;omega;have:=(a6.blk k e).1;omega)).next b6).step b7 (λk O Z=>absurd (a4.blk k O).1 oo)).sp d3).next d9).step e7 (λk O Z=>absurd (e3.blk k O).1 oo))⟩)))))
end Go.Proofs.YtagnnbcnnmacmaaGreatDoor
namespace Go.Lw
open Go.RowKit
def u8l (B:Nat)(sg:Int)(x R:Nat):List Int:=(List.range R).map (λr:Nat=>sg*((B:Int)+(x:Int)+(r:Int)))
def x9q (B L R:Nat)(sg:Int):Nat->List Int
  | 0=>[]
  | m+1=>x9q B L R sg m++u8l B sg (L-m) R
theorem x1y (B:Nat)(D:Int)(x R:Nat):(u8l B D x R).length=R:=by simp[u8l]
theorem v5p (B:Nat)(D:Int)(x r:Nat):u8l B D x (r+1)=u8l B D x r++[D*((B:Int)+(x:Int)+(r:Int))]:=by simp[u8l,List.range_succ]
theorem x4f (B L R:Nat)(D:Int):∀m,(x9q B L R D m).length=m*R
 | 0=>by simp[x9q]
 | m+1=>by rw[x9q,List.length_append,x4f B L R D m,x1y,Nat.succ_mul]
def z6n (l:List Int):Prop:=∀j,j<l.length->1<=l.getD j 0/\l.getD j 0<=4
instance (l:List Int):Decidable (z6n l):=by unfold z6n;infer_instance
def u2s (l:List Int)(i a b:Int):Int:=if ¬z6n l then 1 else if ¬y7c a b then 1 else if i<0\/(l.length:Int)-a-b<i then 5 else 0
def v9c (l:List Int)(i a b:Nat)(front:Bool):List Int:=
  x9q (l.take i).sum.toNat ((l.take (i+a)).drop i).sum.toNat ((l.take (i+a+b)).drop (i+a)).sum.toNat (if front=true then 1 else -1) ((l.take (i+a)).drop i).sum.toNat
def x9i (l:List Int)(i a b:Int)(front:Bool):List Int:=if u2s l i a b=0 then v9c l i.toNat a.toNat b.toNat front else []
theorem y8a {l:List Int}{i a b:Int}{front:Bool}(h:u2s l i a b≠0):x9i l i a b front=[]:=if_neg h
theorem k1y {l:List Int}{i a b:Int}(h:¬z6n l):u2s l i a b=1:=if_pos h
theorem j9h {l:List Int}{i a b:Int}(h:z6n l)(D:¬y7c a b):u2s l i a b=1:=by rw[u2s,if_neg (λe=>e h),if_pos D]
theorem j7q {l:List Int}{i a b:Int}(h:z6n l)(D:y7c a b)(I:i<0\/(l.length:Int)-a-b<i):u2s l i a b=5:=by rw[u2s,if_neg (λe=>e h),if_neg (λe=>e D),if_pos I]
theorem k0t {l:List Int}{i a b:Int}(h:z6n l)(D:y7c a b)(I:¬(i<0\/(l.length:Int)-a-b<i)):u2s l i a b=0:=by rw[u2s,if_neg (λe=>e h),if_neg (λe=>e D),if_neg I]
theorem v7m:∀(l:List Int),(∀z∈l,1<=z/\z<=4)->0<=l.sum/\l.sum<=4*(l.length:Int)
 | [],_=>by simp
 | z::l,h=>by
  have I:=v7m l (λy D=>h y (List.mem_cons_of_mem _ D))
  have O:=h z List.mem_cons_self
  rw[List.sum_cons,List.length_cons];omega
theorem x3x {l:List Int}(h:z6n l){z:Int}(I:z∈l):1<=z/\z<=4:=by
 obtain⟨i,D,rfl⟩:=List.getElem_of_mem I;rw[getD_at l i D 0];exact h i D
theorem x9k {l l':List Int}(h:z6n l)(D:∀z∈l',z∈l)(hl:l'.length<=100):∃n:Nat,l'.sum=(n:Int)/\n<=400/\n=l'.sum.toNat:=by
 have:=v7m l' (λz I=>x3x h (D z I));exact⟨l'.sum.toNat,oo,oo,rfl⟩
theorem x1a {l l':List Int}(h:z6n l)(I:∀z∈l',z∈l):∀j,j<l'.length->0<=l'.getD j 0/\l'.getD j 0<=1000:=λj D=>by
 have:=x3x h (I (l'.getD j 0) (by rw[<-getD_at l' j D 0];exact List.getElem_mem _))
 omega
end Go.Lw
namespace Go.Proofs.YtagnnbcnnmacmaaGreatDoor
open Go.Lw _root_.Go.Proofs.Tryz
theorem u5c (v:Value)(l:List Int)(i a b:Int)(front:Bool)(w0:World)(hs:Sl Enc.i64 w0 v l)(hl:l.length<=100):Rets prog 18 #[v,.int .i64 i,.int .i64 a,.int .i64 b,.bool front] w0 λr w'=>∃vw,r=.tuple #[vw,.int .i64 (u2s l i a b)]/\Lw.Own Enc.i64 3 w0.heap.size w' vw (x9i l i a b front)/\Fr [] w0 w':=by
 obtain⟨A,c,rfl,e5,hM,hA⟩:=id hs;clear hA;refine we [(0,.slice A l.length c),(1,.int .i64 i),(2,.int .i64 a),(3,.int .i64 b),(4,.bool front)] func18 U ntmps18 U (.c5 U U U U U) ?_;have a9:=hs;refine sr (asg U (asg U (nn (sq (sr (mv U (lnS U underlying26 (mv U (nn (bl (lpK (ι:=Nat) [(0,_),(1,_),(2,_),(3,_),(4,_),(23,_),(24,_)] (λi_=>[(25,.int .i64 (i_:Int))]) (λi_ w'=>Fr [] w0 w'/\i_<=l.length/\∀j,j<i_->1<=l.getD j 0/\l.getD j 0<=4) (λi_=>l.length-i_) 0 (.c8 U U U U U U U U) ⟨Fr.refl _ _,⟨Nat.zero_le _,λj hj=>absurd hj (Nat.not_lt_zero j)⟩⟩ ?_)))))))))));rintro i_ w1 ⟨q1,⟨e6,a4⟩⟩;have z1:=q1.size;refine kpC [(0,_),(1,_),(2,_),(3,_),(4,_),(23,_),(24,_),(25,_)] (.c8 U U U U U U U U) (sr (lt' U (nn (sq (cd U (λc0=>?_) (λc0=>?_))))));refine sk (tn (sq (bl (sr ?_))));replace hs:=a9.ext q1;refine z0x (p:=i_) (0) U hs U z3b oo (λd7 a8=>(z1a U (a8 _ hs) na3 (asg U (nn (sq (rbo (r:=34) (L':=[(0,_),(1,_),(2,_),(3,_),(4,_),(23,_),(24,_),(25,_)]) ((((l.getD i_ 0)<1)\/(4<(l.getD i_ 0)))) (.c8 U U U U U U U U) ?_ ?_))))));refine mv U (lt' U (mv U (gs 31 U (λg0=>?_) (λg0=>?_))));exact gN U (gN U (pkt U (rbe U (.c8 U U U U U U U U))));exact gY U (mv U (gY U (gt' U (pkf U (rbe U (.c8 U U U U U U U U))))));refine tn (cd U (λc1=>?_) (λc1=>?_));have d6:¬z6n l:=λh=>by have:=h i_ oo;omega
 have hE:=k1y (i:=i) (a:=a) (b:=b) d6;have hS:x9i l i a b front=[]:=y8a (by rw[hE];decide);refine sr (asg U (asg U (kpL [(10,_),(11,_)] (.c2 U U) (nn (rt (rb (tr (tr (rb (tr (r2 results18 U U ?_)))))))))));exact(by exact⟨_,rfl,.slice none 0 0,by first|(rw[hE];done)|(rw[hE,if_neg a1]),by rw[hS];exact Own.nil _,q1⟩);refine sk (bn' (tn (rg (z0q U (wi6 oo) (mv U (nl ?_))))));exact lpE (i_+1) (.c8 U U U U U U U U) ⟨q1,⟨oo,λj hj=>by
  rcases Nat.lt_or_ge j i_ with h|h
  exact a4 j h;have e:j=i_:=by omega
  subst e;omega⟩⟩ oo
 obtain rfl:i_=l.length:=by omega
 have a0:z6n l:=a4;refine ex (te (te (xh (tn (sq (sr (mv U (mv U (cl (ev2 U) (mkC func27) (v2o a b _) U ?_)))))))));rintro _ w2 ⟨rfl,q2⟩;have z2:=q2.size;refine asg U (kpL [(0,_),(1,_),(2,_),(3,_),(4,_),(14,_)] (.c6 U U U U U U) (nn (sr (mv U (ne' U (nn (cd U (λc2=>?_) (λc2=>?_))))))));have a1:¬y7c a b:=λh=>c2 (if_pos h);have hE:=j9h (i:=i) a0 a1;have hS:x9i l i a b front=[]:=y8a (by rw[hE];decide);refine sr (mv U (asg U (asg U (kpL [(10,_),(11,_)] (.c2 U U) (nn (rt (tr (r2 results18 U U ?_))))))));exact(by exact⟨_,rfl,.slice none 0 0,by first|(rw[hE];done)|(rw[hE,if_neg a1]),by rw[hS];exact Own.nil _,(q1.n1 q2)⟩);have a3:y7c a b:=by
  by_cases h:y7c a b;exact h;exact absurd (by rw[if_neg h];decide) c2
 obtain⟨e9,f0,f1,f2,f3⟩:=id a3;refine sk (tn (sq (sq (rbo (r:=53) (L':=[(0,_),(1,_),(2,_),(3,_),(4,_)]) (((i<0)\/((((l.length:Int)-a)-b)<i))) (.c5 U U U U U) ?_ ?_))));refine mv U (lt' U (mv U (gs 44 U (λg1=>?_) (λg1=>?_))));exact gN U (gN U (gN U (gN U (gN U (gN U (gN U (gN U (pkt U (rbe U (.c5 U U U U U))))))))));exact gY U (mv U (gY U (mv U (gY U (lnS U underlying26 (gY U (mv U (gY U (z1u U (wi6 oo) (gY U (mv U (gY U (z1u U (wi6 oo) (gY U (gt' U (pkf U (rbe U (.c5 U U U U U))))))))))))))))));refine tn (cd U (λc3=>?_) (λc3=>?_));have hE:=j7q a0 a3 c3;have hS:x9i l i a b front=[]:=y8a (by rw[hE];decide);refine sr (asg U (asg U (kpL [(10,_),(11,_)] (.c2 U U) (nn (rt (tr (r2 results18 U U ?_)))))));exact(by exact⟨_,rfl,.slice none 0 0,by first|(rw[hE];done)|(rw[hE,if_neg a1]),by rw[hS];exact Own.nil _,(q1.n1 q2)⟩);obtain⟨O,rfl⟩:=Int.eq_ofNat_of_zero_le (show 0<=i by omega);obtain⟨a',rfl⟩:=Int.eq_ofNat_of_zero_le (show 0<=a by omega);obtain⟨b',rfl⟩:=Int.eq_ofNat_of_zero_le (show 0<=b by omega);have hE:=k0t a0 a3 c3;have hS:x9i l (O:Int) (a':Int) (b':Int) front=v9c l O a' b' front:=if_pos hE;obtain⟨B0,b7,e3,b8⟩:=x9k a0 (l':=(l.take O)) (λz hz=>List.mem_of_mem_take hz) (by rw[List.length_take];omega);obtain⟨L,b9,c9,d0⟩:=x9k a0 (l':=((l.take (O+a')).drop O)) (λz hz=>List.mem_of_mem_take (List.mem_of_mem_drop hz)) (by rw[List.length_drop,List.length_take];omega);obtain⟨R,d1,d3,d4⟩:=x9k a0 (l':=((l.take (O+a'+b')).drop (O+a'))) (λz hz=>List.mem_of_mem_take (List.mem_of_mem_drop hz)) (by rw[List.length_drop,List.length_take];omega);have e4:L*R<=400*400:=Nat.mul_le_mul c9 d3;have e0:(L:Int)*(R:Int)<=160000:=by rw[<-Int.natCast_mul];omega
 have e1:0<=(L:Int)*(R:Int):=by rw[<-Int.natCast_mul];omega
 refine sk (tn (sr (asg U (nn (jn (ι:=Unit) [(4,_)] (λ_j=>[(16,.int .i64 (B0:Int)),(17,.int .i64 (L:Int)),(18,.int .i64 (R:Int))]) (λ_j w'=>Fr [] w2 w') (.cons U .nil) ?_ ?_)))));replace hs:=a9.ext (q1.n1 q2);intro a h;have I:=Fr.refl [] w2;refine z3j (λwb w'=>Fr [] wb w') z2y ?_;intro w3 Z;have z3:=Z.size;replace hs:=hs.ext Z;replace I:=I.next Z;have a3:=Z.size;clear Z;have hC:Fr [] w3 w3:=Fr.refl _ _;have b0:=hs;refine z0d 0 h U λa h=>z0d 1 h U λa h=>z0d 2 h U λa h=>j4l (p:=O) 3 kr0 hC h wn U U z3b oo oo oo U U λa h=>z0d 5 h U λa h=>z0d 6 h U λa h=>z0d 7 h U λa h=>z0d 8 h U λa h=>z0d 9 h U λa h=>z4d 10 h U (by first|exact i6 oo|rfl) U λa h=>y5j (p:=O) (p':=(O+a')) 11 hC h wn U U U z3b U U λa h=>z0d 13 h U λa h=>z0d 14 h U λa h=>z0d 15 h U λa h=>z0d 16 h U λa h=>z4d 17 h U (by first|exact i6 oo|rfl) U λa h=>z0d 18 h U λa h=>z0d 19 h U λa h=>z4d 20 h U (by first|exact i6 oo|rfl) U λa h=>z0d 21 h U λa h=>z4d 22 h U (by first|exact i6 oo|rfl) U λa h=>y5j (p:=(O+a')) (p':=(O+a'+b')) 23 hC h wn U U U z3b U U λa h=>z0e 4 U (z4y (us:=[]) (ws:=[]) h U (z0a U z0g) (mkC func53) (x7p _ (l.take O) _ (by have:=hs.take U (m:=O) (B:=A) (c':=c) oo oo hM (λ_=>rfl);rwa [show (Value.slice A O c)=.slice A O c from U]) (x1a a0 (λz hz=>List.mem_of_mem_take hz)) (by simp only[List.length_take,List.length_drop];omega)) (by intro g e;cases e) ?_);rintro _ w4 ⟨rfl,Z⟩ a h;have z4:=Z.size;replace hs:=hs.ext Z;replace I:=I.next Z;replace hC:=hC.next Z;clear Z;refine z0b (z0e 12 U (z4y (us:=[]) (ws:=[]) h U (z0a U z0g) (mkC func53) (x7p _ ((l.take (O+a')).drop O) _ (hs.cutv (p:=O) (p':=O+a') oo oo) (x1a a0 (λz hz=>List.mem_of_mem_take (List.mem_of_mem_drop hz))) (by simp only[List.length_take,List.length_drop];omega)) (by intro g e;cases e) ?_));rintro _ w5 ⟨rfl,Z⟩ a h;have z5:=Z.size;replace hs:=hs.ext Z;replace I:=I.next Z;replace hC:=hC.next Z;clear Z;refine z0b (z0e 24 U (z4y (us:=[]) (ws:=[]) h U (z0a U z0g) (mkC func53) (x7p _ ((l.take (O+a'+b')).drop (O+a')) _ (hs.cutv (p:=O+a') (p':=O+a'+b') oo oo) (x1a a0 (λz hz=>List.mem_of_mem_take (List.mem_of_mem_drop hz))) (by simp only[List.length_take,List.length_drop];omega)) (by intro g e;cases e) ?_));rintro _ w6 ⟨rfl,Z⟩ a h;have z6:=Z.size;replace hs:=hs.ext Z;replace I:=I.next Z;replace hC:=hC.next Z;clear Z;refine z0b (z0e 25 U (z0s h U λa h=>?_));refine z0b (z0e 26 U (z0s h U λa h=>?_));refine z0b (z0e 27 U (z0s h U λa h=>?_));refine z0b (z0r ?_);clear hC b0;have z6:=I.size;refine bk (h.sub (L':=[(4,_),(16,_),(17,_),(18,_)]) (.c4 U U U U)) ?_;exact jE (()) (.c4 U (congrArg (λz=>some (Value.int .i64 z)) b7) (congrArg (λz=>some (Value.int .i64 z)) b9) (congrArg (λz=>some (Value.int .i64 z)) d1)) I;rintro _j w7 q7;have z7:=q7.size;refine kpC [(4,_),(16,_),(17,_),(18,_)] (.c4 U U U U) (sr (asg U (nn (jn (ι:=Unit) [(16,_),(17,_),(18,_)] (λ_j=>[(19,.int .i64 (if front=true then (1:Int) else -1))]) (λ_j w'=>Fr [] w7 w') (.c3 U U U) ?_ ?_))));refine sr (mv U (nn (cd U (λc4=>?_) (λc4=>?_))));refine rg (asg U (nl ?_));exact jE (()) (.c4 U U U (congrArg (λz=>some (Value.int .i64 z)) (by first|(rw[if_pos c4])|(rw[if_neg c4])))) (Fr.refl _ _);refine sk ?_;exact jE (()) (.c4 U U U (congrArg (λz=>some (Value.int .i64 z)) (by first|(rw[if_pos c4])|(rw[if_neg c4])))) (Fr.refl _ _);rintro _j w8 q8;have z8:=q8.size;refine kpC [(16,_),(17,_),(18,_),(19,_)] (.c4 U U U U) (sr (mv U (mv U (y4m U (wi6 oo) (z1g (m:=0) (c:=L*R) (0:Int) U z3b zv3 U (λb6 w9 e2 D q9 z9=>?_) (hmc:=(Nat.zero_le _)))))));replace D:=D.low (b':=w0.heap.size) oo;refine asg U (nn (sq (sr (mv U (asg U (nn (bl ?_)))))));refine lpK (ι:=Nat×Value) [(16,_),(18,_),(19,_)] (λp=>[(20,p.2),(21,.int .i64 ((L:Int)-(p.1:Int)))]) (λp w'=>Fr [] w0 w'/\p.1<=L/\Lw.Own Enc.i64 3 w0.heap.size w' p.2 (x9q B0 L R (if front=true then (1:Int) else -1) p.1)) (λp=>L-p.1) (0,.slice (some ⟨b6,0,none⟩) 0 (L*R)) (.c5 U U U U (congrArg (λz=>some (Value.int .i64 z)) sp0)) ⟨(q1.n4 q2 q7 q8 q9),⟨Nat.zero_le _,D⟩⟩ ?_;rintro⟨m,vW⟩ f4 ⟨a6,⟨hm,D⟩⟩;simp only at hm D;have f8:=a6.size;refine kpC [(16,_),(18,_),(19,_),(20,vW),(21,.int .i64 ((L:Int)-(m:Int)))] (.c5 U U U U U) (sq (sr (mv U (ge' U (nn (cd U (λc5=>?_) (λc5=>?_)))))));refine sk (tn (sq (bl (sr (mv U (mv U (nn (bl (lpK (ι:=Nat×Value) [(16,_),(18,_),(19,_),(21,_),(89,_)] (λp=>[(20,p.2),(90,.int .i64 (p.1:Int))]) (λp w'=>Fr [] w0 w'/\p.1<=R/\Lw.Own Enc.i64 3 w0.heap.size w' p.2 ((x9q B0 L R (if front=true then (1:Int) else -1) m)++u8l B0 (if front=true then (1:Int) else -1) (L-m) p.1)) (λp=>R-p.1) (0,vW) (.c7 U U U U U U U) ⟨a6,⟨Nat.zero_le _,by rw[show u8l B0 (if front=true then (1:Int) else -1) (L-m) 0=[] from U,List.append_nil];exact D⟩⟩ ?_)))))))));rintro⟨r,vW⟩ f5 ⟨a7,⟨hr,D⟩⟩;simp only at hr D;have f9:=a7.size;refine kpC [(16,_),(18,_),(19,_),(21,_),(89,_),(20,vW),(90,.int .i64 (r:Int))] (.c7 U U U U U U U) ?_;have b1:=x4f B0 L R (if front=true then (1:Int) else -1) m;have e8:m*R<=L*R:=Nat.mul_le_mul_right _ hm;refine sr (lt' U (nn (sq (cd U (λc6=>?_) (λc6=>?_)))));refine sk (tn (sq (bl (sr (mv U (asg U (nn (rg (mv U (mv U (mv U ?_)))))))))));refine mv U (z0q U (wi6 oo) (mv U (z0q U (wi6 oo) (y4m U (wi6 (by split<;>omega)) (z1w ([(if front=true then (1:Int) else -1)*((B0:Int)+((L:Int)-(m:Int))+(r:Int))]) (ev1 U) U z3b (λd9 f6 d5 a5 b2 g3=>?_))))));replace D:=D.ext b2;have a2:=D;refine z1x U D a5.sl z3b (λb4 f7 D b3 b5=>?_) (hM:=(by unfold maxLen;simp only[List.length_append,List.length_cons,List.length_nil,x1y,b1];omega)) (hb:=(by simp only[List.length_append,List.length_cons,List.length_nil,x1y,b1];omega));have g4:=b3.size;rw[show ((B0:Int)+((L:Int)-(m:Int))+(r:Int))=((B0:Int)+((L-m:Nat):Int)+(r:Int)) by omega]at D;exact asg U (kpL [(16,_),(18,_),(19,_),(20,_),(21,_),(89,_),(90,_)] (.c7 U U U U U U U) (nl (bn' (tn (rg (z0q U (wi6 oo) (mv U (nl (lpE ((r+1,b4)) (.c7 U U U U U U U) ⟨((a7.n1 b2).step b3 (λk hk e7=>absurd (a2.blk k hk).1 oo)),⟨sm,by rw[v5p,<-List.append_assoc];exact D⟩⟩ sm)))))))));obtain rfl:r=R:=by omega
 refine ex (te (te (xh (bn' (tn (rg (mv U (z1u U (wi6 oo) (asg U (nl ?_))))))))));exact lpE ((m+1,vW)) (.c5 U U U U (congrArg (λz=>some (Value.int .i64 z)) (show ((L:Int)-(m:Int))-1=(L:Int)-((m+1:Nat):Int) by omega))) ⟨a7,⟨sm,D⟩⟩ sm;obtain rfl:m=L:=by omega
 exact ex (te (te (xh (tn (sr (mv U (asg U (asg U (kpL [(10,_),(11,_)] (.c2 U U) (nn (rt (r2 results18 U U ⟨_,rfl,vW,by rw[hE],by rw[hS];unfold v9c;rw[<-b8,<-d0,<-d4];exact D,a6⟩))))))))))))
end Go.Proofs.YtagnnbcnnmacmaaGreatDoor
