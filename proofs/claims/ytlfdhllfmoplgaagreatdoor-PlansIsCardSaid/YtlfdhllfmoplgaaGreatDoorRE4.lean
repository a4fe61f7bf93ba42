/- Texts of the proof, joined. -/
import Derived.Test.YtlfdhllfmoplgaaGreatDoorRows
import Derived.Maps.RangeRun
import Derived.Test.YtlfdhllfmoplgaaGreatDoorRE3
set_option linter.unusedVariables false
set_option linter.unusedSimpArgs false
set_option maxHeartbeats 4000000
namespace Go.Proofs.YtlfdhllfmoplgaaGreatDoor
open Go.Lw Go.G21 Go.G08 _root_.Go.Proofs.Tryz
theorem x6e:z3y prog 101 5:=⟨λ_=>kr,λ_=>kr⟩
theorem v1w:ElemOf prog 97 101 z5s 40:=ElemOf.mk' (z:=(.agg #[.int .u8 0,.int .i64 0,.int .u8 0,.int .i64 0,.int .i64 0])) underlying97 kr U
theorem v3d:z1r prog 101 5:=λ_=>kr
theorem j0x (w:World):(zeroValue 101).run prog w=.ok (.agg #[(.int .u8 0),(.int .i64 0),(.int .u8 0),(.int .i64 0),(.int .i64 0)]) w:=kr
theorem v6g (w:World):(zeroValue 131).run prog w=.ok (.agg #[(.int .u8 0),(.int .i64 0),(.int .u8 0),(.int .i64 0),(.int .i64 0)]) w:=kr
theorem u4n (g c base:Nat)(l:List Hd)(w0:World)(ho:Lw.Own z4g 131 base w0 (.slice (saa g) l.length c) l)(hl:l.length<=1000000):Rets prog 120 #[.slice (saa g) l.length c,.func (.func 121) #[] #[]] w0 λr w'=>r=.tuple #[]/\Lw.Own z4g 131 base w' (.slice (saa g) l.length c) (z5r l)/\Fr [g] w0 w':=by
 refine we [(0,.slice (saa g) l.length c),(1,.func (.func 121) #[] #[])] func120 U ntmps120 U (.c2 U U)<|rg<|mv U U<|mv U U<|lnS U underlying127<|mv U U<|cl (ev3 U) (mkC func160) (j2x g c base l _ ho hl) U ?_;rintro _ w1 ⟨rfl,ho,D⟩;exact kpL [] .nil<|nl<|r0n results120  ⟨_,rfl,rfl,ho,((l12 [g] _).z1 D)⟩
theorem v2q (v:Value)(l:List Hd)(w0:World)(I:Sl z4g w0 v l)(hl:l.length<=100000):Rets prog 123 #[v] w0 λr w'=>∃g,r=.slice (saa g) l.length l.length/\w0.heap.size<=g/\Lw.Own z4g 131 w0.heap.size w' r l/\Fr [] w0 w':=by
 obtain⟨A,c,rfl,a0,hM,hA⟩:=id I;clear hA;unfold maxLen at hM;refine we [(0,.slice A l.length c)] func123 U ntmps123 U (.cons U .nil) ?_;have O:=I;refine sr<|asg U<|nn<|sr<|mv U U<|lnS U underlying127<|z1f (m:=l.length) (c:=l.length) (hd0) U z3t v6g U<|λg6 w1 a1 D Z z1=>(asg U<|nn<|sr<|mv U U<|mv U U ?_);have I:=O.ext Z;refine z9d (zs:=List.replicate l.length hd0) t34 U (by rw[l22];exact D) I t35 z3t<|λw2 D q2 z2=>?_;rw[l22]at D;exact nn<|sr<|mv U U<|asg U<|nn<|rt<|r1 results123 U ⟨_,rfl,g6,rfl,oo,D.low oo,(Z.z1 q2)⟩
theorem u4k (g c base:Nat)(ys:List LId)(w0:World)(ho:Lw.Own z1g 64 base w0 (.slice (saa g) ys.length c) ys)(hl:ys.length<=1000000):Rets prog 86 #[.slice (saa g) ys.length c] w0 λr w'=>Lw.Own z1g 64 base w' (.slice (saa g) ys.length c) ys.reverse/\Fr [g] w0 w':=by
 refine we [(0,.slice (saa g) ys.length c)] func86 U ntmps86 U (.cons U .nil)<|sr<|mv U U<|lnS U underlying30<|z2j U (wi6 oo)<|asg U<|asg U<|nn<|bl ?_;refine lpK (ι:=Nat) (ll1 0) (λk=>[(2,.int .i64 (k:Int)),(3,.int .i64<|(ys.length:Int)-1-(k:Int))]) (λk w'=>Fr [g] w0 w'/\k<=ys.length/\∃zs,j1r id0 ys zs k/\Lw.Own z1g 64 base w' (.slice (saa g) ys.length c) zs) (λk=>ys.length-k) 0 (.c3 U U<|congrArg (λz=>some<|Value.int .i64 z) oo) ⟨l12 _ _,⟨l17 _,_,v8t _ _,ho⟩⟩ ?_;rintro k w1 ⟨q1,⟨hk,zs,hR,ho⟩⟩;refine kpC (ll3 0 2 3) (csu U)<|sq<|sr<|mv U U<|mv U U<|lt' U<|nn<|cd U (λc0=>?_)<|λc0=>?_;obtain⟨a3,-⟩:=id hR;have a0:k<ys.length-1-k:=by omega
 refine sk<|tn<|sq<|bl ?_;intro a h;refine z0h (some 15) (λwb w'=>Fr [g] wb w') z2r ?_;intro w2 q2;have ho:=ho.ext q2;have hC:Fr [g] w2 w2:=l12 _ _;have Z:=ho;refine z0e 0 h U λa h=>z0e 1 h U λa h=>z0e 2 h U λa h=>z0e 3 h U λa h=>z0e 4 h U λa h=>z0e 5 h U λa h=>z1e (p:=(ys.length-1-k)) (id0) 6 h U ho.sl U z4k U λa1 I a h=>z0e 8 h U λa h=>z0e 9 h U λa h=>z1e (p:=k) (id0) 10 h U ho.sl U z4k U λa2 O a h=>z1w 7 11 kr U ?_ ?_;refine z1p h U (I _ ho.sl) z2z U λa h=>z0b<|z0d 11 U<|z1p h U (O _ ho.sl) z2z U λa h=>?_;refine z0b<|z1l 12 kr kr kr hC (p:=k) h wn U z4k oo oo oo U U λa h=>z0d 13 U<|z1a (i:=k) (zs.getD (ys.length-1-k) id0) h U ho oo U y0i λw3 D q3 _hz a h=>?_;have hC:=hC.sp q3;have ho:=D;clear D;refine z0b<|z1l 14 kr kr kr hC (p:=(ys.length-1-k)) h wn U z4k oo oo oo U U λa h=>z0d 15 U<|z1a (i:=(ys.length-1-k)) (zs.getD k id0) h U ho t29 U y0i λw4 D q4 _hz a h=>?_;have ho:=D;clear D;refine z1m<|z0p ?_;clear hC Z;refine bk (h.sub (L':=ll3 0 2 3)<|csu U)<|bn'<|tn<|rg<|mv U U<|z0v U (wi6 oo)<|mv U U<|z2j U (wi6 oo)<|asg U<|asg U<|nl ?_;exact lpE (k+1) (.c3 U U<|congrArg (λz=>some<|Value.int .i64 z) oo) ⟨((l12 [g] _).z4 q1 q2 q3 q4),⟨oo,_,z8e a0 hR,ho⟩⟩ oo;refine z1p h U (O _ ho.sl) z2z U λa h=>z0b<|z0d 7 U<|z1p h U (I _ ho.sl) z2z U λa h=>?_;refine z0b<|z1l 12 kr kr kr hC (p:=k) h wn U z4k oo oo oo U U λa h=>z0d 13 U<|z1a (i:=k) (zs.getD (ys.length-1-k) id0) h U ho oo U y0i λw5 D q5 _hz a h=>?_;have hC:=hC.sp q5;have ho:=D;clear D;refine z0b<|z1l 14 kr kr kr hC (p:=(ys.length-1-k)) h wn U z4k oo oo oo U U λa h=>z0d 15 U<|z1a (i:=(ys.length-1-k)) (zs.getD k id0) h U ho t29 U y0i λw6 D q6 _hz a h=>?_;have ho:=D;clear D;refine z1m<|z0p ?_;clear hC Z;refine bk (h.sub (L':=ll3 0 2 3)<|csu U)<|bn'<|tn<|rg<|mv U U<|z0v U (wi6 oo)<|mv U U<|z2j U (wi6 oo)<|asg U<|asg U<|nl ?_;exact lpE (k+1) (.c3 U U<|congrArg (λz=>some<|Value.int .i64 z) oo) ⟨((l12 [g] _).z4 q1 q2 q5 q6),⟨oo,_,z8e a0 hR,ho⟩⟩ oo;refine ex<|te<|te<|xh<|r0n results86  ?_;exact⟨_,rfl,by rw[<-x0r oo hR];exact ho,(q1.weak se)⟩
theorem j0s (w0:World):Rets prog 86 #[.slice none 0 0] w0 λr w'=>Fr [] w0 w':=by
 refine we [(0,.slice none 0 0)] func86 U ntmps86 U (.cons U .nil)<|sr<|mv U U<|lnS U underlying30<|z2j U (wi6 oo)<|asg U<|asg U<|nn<|bl<|lpK (ι:=Unit) (ll3 0 2 3) (λ_u=>[]) (λ_u w'=>Fr [] w0 w'/\True) (λ_u=>0) () (csu U) ⟨l12 _ _,trivial⟩ ?_;rintro _u w1 ⟨I,-⟩;refine kpC (ll3 0 2 3) (csu U)<|sq<|sr<|mv U U<|mv U U<|lt' U<|nn<|cd U (λD=>?_)<|λD=>?_;exfalso;omega;exact ex<|te<|te<|xh<|r0n results86  ⟨_,rfl,I⟩
theorem u0o (base:Nat)(v:Value)(ys:List LId)(w0:World)(ho:Lw.Own z1g 64 base w0 v ys)(hl:ys.length<=1000000):Rets prog 86 #[v] w0 λr w'=>Lw.Own z1g 64 base w' v ys.reverse/\Fr (z0u v) w0 w':=by
 rcases id ho with ⟨rfl,rfl⟩|⟨g,cap,cur,rfl,_⟩
 refine Rets.mono (j0s w0) ?_;intro r w' hf;exact⟨Own.nil _,hf⟩;exact u4k g cap base ys w0 ho hl
theorem u5s (g c base:Nat)(ys:List Pa)(w0:World)(ho:Lw.Own z2i 107 base w0 (.slice (saa g) ys.length c) ys)(hl:ys.length<=1000000):Rets prog 207 #[.slice (saa g) ys.length c] w0 λr w'=>Lw.Own z2i 107 base w' (.slice (saa g) ys.length c) ys.reverse/\Fr [g] w0 w':=by
 refine we [(0,.slice (saa g) ys.length c)] func207 U ntmps207 U (.cons U .nil)<|sr<|mv U U<|lnS U underlying102<|z2j U (wi6 oo)<|asg U<|asg U<|nn<|bl ?_;refine lpK (ι:=Nat) (ll1 0) (λk=>[(2,.int .i64 (k:Int)),(3,.int .i64<|(ys.length:Int)-1-(k:Int))]) (λk w'=>Fr [g] w0 w'/\k<=ys.length/\∃zs,j1r pa0 ys zs k/\Lw.Own z2i 107 base w' (.slice (saa g) ys.length c) zs) (λk=>ys.length-k) 0 (.c3 U U<|congrArg (λz=>some<|Value.int .i64 z) oo) ⟨l12 _ _,⟨l17 _,_,v8t _ _,ho⟩⟩ ?_;rintro k w1 ⟨q1,⟨hk,zs,hR,ho⟩⟩;refine kpC (ll3 0 2 3) (csu U)<|sq<|sr<|mv U U<|mv U U<|lt' U<|nn<|cd U (λc0=>?_)<|λc0=>?_;obtain⟨a3,-⟩:=id hR;have a0:k<ys.length-1-k:=by omega
 refine sk<|tn<|sq<|bl ?_;intro a h;refine z0h (some 15) (λwb w'=>Fr [g] wb w') z2r ?_;intro w2 q2;have ho:=ho.ext q2;have hC:Fr [g] w2 w2:=l12 _ _;have Z:=ho;refine z0e 0 h U λa h=>z0e 1 h U λa h=>z0e 2 h U λa h=>z0e 3 h U λa h=>z0e 4 h U λa h=>z0e 5 h U λa h=>z1e (p:=(ys.length-1-k)) (pa0) 6 h U ho.sl U z4v U λa1 I a h=>z0e 8 h U λa h=>z0e 9 h U λa h=>z1e (p:=k) (pa0) 10 h U ho.sl U z4v U λa2 O a h=>z1w 7 11 kr U ?_ ?_;refine z1p h U (I _ ho.sl) z9k U λa h=>z0b<|z0d 11 U<|z1p h U (O _ ho.sl) z9k U λa h=>?_;refine z0b<|z1l 12 kr kr kr hC (p:=k) h wn U z4v oo oo oo U U λa h=>z0d 13 U<|z1a (i:=k) (zs.getD (ys.length-1-k) pa0) h U ho oo U x2q λw3 D q3 _hz a h=>?_;have hC:=hC.sp q3;have ho:=D;clear D;refine z0b<|z1l 14 kr kr kr hC (p:=(ys.length-1-k)) h wn U z4v oo oo oo U U λa h=>z0d 15 U<|z1a (i:=(ys.length-1-k)) (zs.getD k pa0) h U ho t29 U x2q λw4 D q4 _hz a h=>?_;have ho:=D;clear D;refine z1m<|z0p ?_;clear hC Z;refine bk (h.sub (L':=ll3 0 2 3)<|csu U)<|bn'<|tn<|rg<|mv U U<|z0v U (wi6 oo)<|mv U U<|z2j U (wi6 oo)<|asg U<|asg U<|nl ?_;exact lpE (k+1) (.c3 U U<|congrArg (λz=>some<|Value.int .i64 z) oo) ⟨((l12 [g] _).z4 q1 q2 q3 q4),⟨oo,_,z8e a0 hR,ho⟩⟩ oo;refine z1p h U (O _ ho.sl) z9k U λa h=>z0b<|z0d 7 U<|z1p h U (I _ ho.sl) z9k U λa h=>?_;refine z0b<|z1l 12 kr kr kr hC (p:=k) h wn U z4v oo oo oo U U λa h=>z0d 13 U<|z1a (i:=k) (zs.getD (ys.length-1-k) pa0) h U ho oo U x2q λw5 D q5 _hz a h=>?_;have hC:=hC.sp q5;have ho:=D;clear D;refine z0b<|z1l 14 kr kr kr hC (p:=(ys.length-1-k)) h wn U z4v oo oo oo U U λa h=>z0d 15 U<|z1a (i:=(ys.length-1-k)) (zs.getD k pa0) h U ho t29 U x2q λw6 D q6 _hz a h=>?_;have ho:=D;clear D;refine z1m<|z0p ?_;clear hC Z;refine bk (h.sub (L':=ll3 0 2 3)<|csu U)<|bn'<|tn<|rg<|mv U U<|z0v U (wi6 oo)<|mv U U<|z2j U (wi6 oo)<|asg U<|asg U<|nl ?_;exact lpE (k+1) (.c3 U U<|congrArg (λz=>some<|Value.int .i64 z) oo) ⟨((l12 [g] _).z4 q1 q2 q5 q6),⟨oo,_,z8e a0 hR,ho⟩⟩ oo;refine ex<|te<|te<|xh<|r0n results207  ?_;exact⟨_,rfl,by rw[<-x0r oo hR];exact ho,(q1.weak se)⟩
theorem u9w (w0:World):Rets prog 207 #[.slice none 0 0] w0 λr w'=>Fr [] w0 w':=by
 refine we [(0,.slice none 0 0)] func207 U ntmps207 U (.cons U .nil)<|sr<|mv U U<|lnS U underlying102<|z2j U (wi6 oo)<|asg U<|asg U<|nn<|bl<|lpK (ι:=Unit) (ll3 0 2 3) (λ_u=>[]) (λ_u w'=>Fr [] w0 w'/\True) (λ_u=>0) () (csu U) ⟨l12 _ _,trivial⟩ ?_;rintro _u w1 ⟨I,-⟩;refine kpC (ll3 0 2 3) (csu U)<|sq<|sr<|mv U U<|mv U U<|lt' U<|nn<|cd U (λD=>?_)<|λD=>?_;exfalso;omega;exact ex<|te<|te<|xh<|r0n results207  ⟨_,rfl,I⟩
theorem x2e (base:Nat)(v:Value)(ys:List Pa)(w0:World)(ho:Lw.Own z2i 107 base w0 v ys)(hl:ys.length<=1000000):Rets prog 207 #[v] w0 λr w'=>Lw.Own z2i 107 base w' v ys.reverse/\Fr (z0u v) w0 w':=by
 rcases id ho with ⟨rfl,rfl⟩|⟨g,cap,cur,rfl,_⟩
 refine Rets.mono (u9w w0) ?_;intro r w' hf;exact⟨Own.nil _,hf⟩;exact u5s g cap base ys w0 ho hl
theorem u6a (g c base:Nat)(ys:List Cx)(w0:World)(ho:Lw.Own z5s 101 base w0 (.slice (saa g) ys.length c) ys)(hl:ys.length<=1000000):Rets prog 87 #[.slice (saa g) ys.length c] w0 λr w'=>Lw.Own z5s 101 base w' (.slice (saa g) ys.length c) ys.reverse/\Fr [g] w0 w':=by
 refine we [(0,.slice (saa g) ys.length c)] func87 U ntmps87 U (.cons U .nil)<|sr<|mv U U<|lnS U underlying97<|z2j U (wi6 oo)<|asg U<|asg U<|nn<|bl ?_;refine lpK (ι:=Nat) (ll1 0) (λk=>[(2,.int .i64 (k:Int)),(3,.int .i64<|(ys.length:Int)-1-(k:Int))]) (λk w'=>Fr [g] w0 w'/\k<=ys.length/\∃zs,j1r cx0 ys zs k/\Lw.Own z5s 101 base w' (.slice (saa g) ys.length c) zs) (λk=>ys.length-k) 0 (.c3 U U<|congrArg (λz=>some<|Value.int .i64 z) oo) ⟨l12 _ _,⟨l17 _,_,v8t _ _,ho⟩⟩ ?_;rintro k w1 ⟨q1,⟨hk,zs,hR,ho⟩⟩;refine kpC (ll3 0 2 3) (csu U)<|sq<|sr<|mv U U<|mv U U<|lt' U<|nn<|cd U (λc0=>?_)<|λc0=>?_;obtain⟨a3,-⟩:=id hR;have a0:k<ys.length-1-k:=by omega
 refine sk<|tn<|sq<|bl ?_;intro a h;refine z0h (some 15) (λwb w'=>Fr [g] wb w') z2r ?_;intro w2 q2;have ho:=ho.ext q2;have hC:Fr [g] w2 w2:=l12 _ _;have Z:=ho;refine z0e 0 h U λa h=>z0e 1 h U λa h=>z0e 2 h U λa h=>z0e 3 h U λa h=>z0e 4 h U λa h=>z0e 5 h U λa h=>z1e (p:=(ys.length-1-k)) (cx0) 6 h U ho.sl U v1w U λa1 I a h=>z0e 8 h U λa h=>z0e 9 h U λa h=>z1e (p:=k) (cx0) 10 h U ho.sl U v1w U λa2 O a h=>z1w 7 11 kr U ?_ ?_;refine z1p h U (I _ ho.sl) x6e U λa h=>z0b<|z0d 11 U<|z1p h U (O _ ho.sl) x6e U λa h=>?_;refine z0b<|z1l 12 kr kr kr hC (p:=k) h wn U v1w oo oo oo U U λa h=>z0d 13 U<|z1a (i:=k) (zs.getD (ys.length-1-k) cx0) h U ho oo U v3d λw3 D q3 _hz a h=>?_;have hC:=hC.sp q3;have ho:=D;clear D;refine z0b<|z1l 14 kr kr kr hC (p:=(ys.length-1-k)) h wn U v1w oo oo oo U U λa h=>z0d 15 U<|z1a (i:=(ys.length-1-k)) (zs.getD k cx0) h U ho t29 U v3d λw4 D q4 _hz a h=>?_;have ho:=D;clear D;refine z1m<|z0p ?_;clear hC Z;refine bk (h.sub (L':=ll3 0 2 3)<|csu U)<|bn'<|tn<|rg<|mv U U<|z0v U (wi6 oo)<|mv U U<|z2j U (wi6 oo)<|asg U<|asg U<|nl ?_;exact lpE (k+1) (.c3 U U<|congrArg (λz=>some<|Value.int .i64 z) oo) ⟨((l12 [g] _).z4 q1 q2 q3 q4),⟨oo,_,z8e a0 hR,ho⟩⟩ oo;refine z1p h U (O _ ho.sl) x6e U λa h=>z0b<|z0d 7 U<|z1p h U (I _ ho.sl) x6e U λa h=>?_;refine z0b<|z1l 12 kr kr kr hC (p:=k) h wn U v1w oo oo oo U U λa h=>z0d 13 U<|z1a (i:=k) (zs.getD (ys.length-1-k) cx0) h U ho oo U v3d λw5 D q5 _hz a h=>?_;have hC:=hC.sp q5;have ho:=D;clear D;refine z0b<|z1l 14 kr kr kr hC (p:=(ys.length-1-k)) h wn U v1w oo oo oo U U λa h=>z0d 15 U<|z1a (i:=(ys.length-1-k)) (zs.getD k cx0) h U ho t29 U v3d λw6 D q6 _hz a h=>?_;have ho:=D;clear D;refine z1m<|z0p ?_;clear hC Z;refine bk (h.sub (L':=ll3 0 2 3)<|csu U)<|bn'<|tn<|rg<|mv U U<|z0v U (wi6 oo)<|mv U U<|z2j U (wi6 oo)<|asg U<|asg U<|nl ?_;exact lpE (k+1) (.c3 U U<|congrArg (λz=>some<|Value.int .i64 z) oo) ⟨((l12 [g] _).z4 q1 q2 q5 q6),⟨oo,_,z8e a0 hR,ho⟩⟩ oo;refine ex<|te<|te<|xh<|r0n results87  ?_;exact⟨_,rfl,by rw[<-x0r oo hR];exact ho,(q1.weak se)⟩
theorem j4m (w0:World):Rets prog 87 #[.slice none 0 0] w0 λr w'=>Fr [] w0 w':=by
 refine we [(0,.slice none 0 0)] func87 U ntmps87 U (.cons U .nil)<|sr<|mv U U<|lnS U underlying97<|z2j U (wi6 oo)<|asg U<|asg U<|nn<|bl<|lpK (ι:=Unit) (ll3 0 2 3) (λ_u=>[]) (λ_u w'=>Fr [] w0 w'/\True) (λ_u=>0) () (csu U) ⟨l12 _ _,trivial⟩ ?_;rintro _u w1 ⟨I,-⟩;refine kpC (ll3 0 2 3) (csu U)<|sq<|sr<|mv U U<|mv U U<|lt' U<|nn<|cd U (λD=>?_)<|λD=>?_;exfalso;omega;exact ex<|te<|te<|xh<|r0n results87  ⟨_,rfl,I⟩
theorem u0s (base:Nat)(v:Value)(ys:List Cx)(w0:World)(ho:Lw.Own z5s 101 base w0 v ys)(hl:ys.length<=1000000):Rets prog 87 #[v] w0 λr w'=>Lw.Own z5s 101 base w' v ys.reverse/\Fr (z0u v) w0 w':=by
 rcases id ho with ⟨rfl,rfl⟩|⟨g,cap,cur,rfl,_⟩
 refine Rets.mono (j4m w0) ?_;intro r w' hf;exact⟨Own.nil _,hf⟩;exact u6a g cap base ys w0 ho hl
theorem y6v (v:Value)(l:List Pa)(w0:World)(I:Sl z2i w0 v l)(hl:l.length<=100000):Rets prog 208 #[v] w0 λr w'=>∃g,r=.slice (saa g) l.length l.length/\w0.heap.size<=g/\Lw.Own z2i 107 w0.heap.size w' r l/\Fr [] w0 w':=by
 obtain⟨A,c,rfl,a0,hM,hA⟩:=id I;clear hA;unfold maxLen at hM;refine we [(0,.slice A l.length c)] func208 U ntmps208 U (.cons U .nil) ?_;have O:=I;refine sr<|asg U<|nn<|sr<|mv U U<|lnS U underlying102<|z1f (m:=l.length) (c:=l.length) (pa0) U z4v x1c U<|λg6 w1 a1 D Z z1=>(asg U<|nn<|sr<|mv U U<|mv U U ?_);have I:=O.ext Z;refine z9d (zs:=List.replicate l.length pa0) t34 U (by rw[l22];exact D) I t35 z4v<|λw2 D q2 z2=>?_;rw[l22]at D;exact nn<|sr<|mv U U<|asg U<|nn<|rt<|r1 results208 U ⟨_,rfl,g6,rfl,oo,D.low oo,(Z.z1 q2)⟩
theorem x8f (v:Value)(l:List Cx)(w0:World)(I:Sl z5s w0 v l)(hl:l.length<=100000):Rets prog 88 #[v] w0 λr w'=>∃g,r=.slice (saa g) l.length l.length/\w0.heap.size<=g/\Lw.Own z5s 101 w0.heap.size w' r l/\Fr [] w0 w':=by
 obtain⟨A,c,rfl,a0,hM,hA⟩:=id I;clear hA;unfold maxLen at hM;refine we [(0,.slice A l.length c)] func88 U ntmps88 U (.cons U .nil) ?_;have O:=I;refine sr<|asg U<|nn<|sr<|mv U U<|lnS U underlying97<|z1f (m:=l.length) (c:=l.length) (cx0) U v1w j0x U<|λg6 w1 a1 D Z z1=>(asg U<|nn<|sr<|mv U U<|mv U U ?_);have I:=O.ext Z;refine z9d (zs:=List.replicate l.length cx0) t34 U (by rw[l22];exact D) I t35 v1w<|λw2 D q2 z2=>?_;rw[l22]at D;exact nn<|sr<|mv U U<|asg U<|nn<|rt<|r1 results88 U ⟨_,rfl,g6,rfl,oo,D.low oo,(Z.z1 q2)⟩
theorem k5k:BuildAt prog 131 [(0,2),(2,2),(4,1)] [(.int .u8 0),(.int .i64 0),(.int .u8 0),(.int .i64 0),(.int .i64 0)]:=BuildAt.struct underlying131 (λ_=>kr)<|λ_=>kr
theorem v2y:CallOf prog 119:=mkC func119
theorem j6h:z2d prog 127:=λ_=>kr
theorem j7x:z1r prog 127 1:=λ_=>kr
theorem v4r (gr gk base:Nat)(b r:Int)(v u:Value)(l:List IQ)(a4:List Hd)(wS w0:World)(hF:Fr [] wS w0)(hs:Sl z6q wS v l)(hk:IqAt wS l)(a6:Blk wS gk 3 [.int .i64 r])(f3:wS.heap.size<=gr)(e8:wS.heap.size<=base)(e9:base<=w0.heap.size)(D:Blk w0 gr 127 [u])(ho:Lw.Own z4g 131 base w0 u a4)(hb:b=0\/b=1)(hl:l.length<=40)(h4:z9j l)(ha:a4.length<=1000)(hu:IsB u):Rets prog 118 #[.int .u8 b,v,pta gr,pta gk] w0 λr' w'=>r'=.tuple #[]/\(∃u',Blk w' gr 127 [u']/\Lw.Own z4g 131 base w' u' (a4++hds b r (plB l) l.length)/\IsB u')/\w0.heap.size<=w'.heap.size/\Fr [] wS w':=by
 obtain⟨A,c,rfl,f0,hM,hA⟩:=id hs;clear hA;unfold maxLen at hM;have f7:=hF.size;have e5:=D.lt;refine we [(0,.int .u8 b),(1,.slice A l.length c),(2,pta gr),(3,pta gk)] func118 U ntmps118 U (.c4 U U U U) ?_;have d0:=hs;have b3:=hk;have b2:=a6;refine sr<|mv U U<|lnS U underlying23<|mv U U<|nn<|bl<|lpK (ι:=Nat×Value) (ll5 0 2 3 11 12) (λp=>[(13,.int .i64 (p.1:Int))]) (λp w'=>Fr [] wS w'/\(p.1<=l.length/\w0.heap.size<=w'.heap.size/\IsB p.2)/\Blk w' gr 127 [p.2]/\Lw.Own z4g 131 base w' p.2 (a4++hds b r (plB l) p.1)) (λp=>l.length-p.1) (0,u) (csu U) ⟨hF,⟨⟨l17 _,oo,hu⟩,D,by simpa[hds] using ho⟩⟩ ?_;rintro⟨i,uI⟩ w1 ⟨q1,⟨hi,D,ho⟩⟩;simp only at hi D ho;have z1:=q1.size;have a9:=D.lt;refine kpC [(0,_),(2,_),(3,_),(11,_),(12,_),(13,.int .i64 (i:Int))] (csu U) ?_;have f1:=x7f b r l h4 i;have f5:=z3n h4 i;have f6:=z2c<|z1y b3 i;have b4:=b2.lt;refine sr<|lt' U<|nn<|sq<|cd U (λc0=>?_)<|λc0=>?_;refine sk<|tn<|sq<|bl<|sr<|mv U U ?_;have hs:=d0.ext q1;refine z1b (iq0) U hs U y3e z1j<|λd9 b6=>?_;refine z1c U (b6 _ hs) z6f<|asg U<|asg U<|nn<|sr<|mv U U<|mv U U<|z0v U (wi6 oo)<|z1u (cs:=[_,_]) (ev2 U) y7p (z0g U<|z0g U z0r) U ?_;refine al x9o U<|λg8 w2 f2 I q2 z2=>?_;refine z0i (vs:=[_,_]) U I y4h (λw3 I q3 z3=>?_) (h1:=t23);refine nn<|sr<|mv U U<|lnS U underlying30<|mv U U<|nn<|bl ?_;have D:=(D.ext q2).fr q3;have ho:=(ho.ext q2).fr q3 (by first|(intro k hk hb;rw[l11.1 hk]at hb;first|exact ho.neB D dd hb|(have:=(ho.blk _ hb).2;omega))|(simp;done));refine lpK (ι:=Nat×Value) (ll9 0 2 3 8 11 12 13 22 23) (λp=>[(24,.int .i64 (p.1:Int))]) (λp w'=>Fr [] wS w'/\(p.1<=(l.getD i iq0).2.length/\w0.heap.size<=w'.heap.size/\Blk w' g8 42 [.int .u8 b,.int .i64 ((i:Int)+1)]/\IsB p.2)/\Blk w' gr 127 [p.2]/\Lw.Own z4g 131 base w' p.2 ((a4++hds b r (plB l) i)++((l.getD i iq0).2.take p.1).map (hdS b r i))) (λp=>(l.getD i iq0).2.length-p.1) (0,uI) (csu U) ⟨(q1.z2 q2 q3),⟨⟨l17 _,oo,I,hi.2.2⟩,D,by simpa using ho⟩⟩ ?_;rintro⟨j,uJ⟩ w4 ⟨q4,⟨⟨hj,f8,I,d6⟩,D,ho⟩⟩;simp only at hj D ho;have z4:=q4.size;have a9:=D.lt;have d3:=I.lt;refine kpC [(0,_),(2,_),(3,_),(8,_),(11,_),(12,_),(13,_),(22,_),(23,_),(24,.int .i64 (j:Int))] (csu U)<|sr<|lt' U<|nn<|sq<|cd U (λc1=>?_)<|λc1=>?_;refine sk<|tn<|sq<|bl<|sr ?_;have hk:=b3.ext q4;refine z1b (id0) U (z1y hk i) U z4k z1j<|λe0 b7=>?_;refine z1q U (b7 _<|z1y hk i) z2z<|al z8q U<|λd4 w5 e4 O q5 z5=>?_;refine z0i (vs:=[_,_]) U O y0i (λw6 O q6 z6=>?_) (h1:=t23);refine nn ?_;have hs:=d0.ext<|q4.z2 q5 q6;have hk:=b3.ext<|q4.z2 q5 q6;have a6:=b2.ext<|q4.z2 q5 q6;have D:=(D.ext q5).fr q6;have ho:=(ho.ext q5).fr q6 (by first|(intro k hk hb;rw[l11.1 hk]at hb;first|exact ho.neB D dd hb|(have:=(ho.blk _ hb).2;omega))|(simp;done));have I:=(I.ext q5).fr q6;intro a h;refine z0h (some 8) (λwb w'=>Fr (z0u uJ) wb w') z2r ?_;intro w7 q7;have z7:=q7.size;have hs:=hs.ext q7;have hk:=hk.ext q7;have a6:=a6.ext q7;have D:=D.ext q7;have ho:=ho.ext q7;have I:=I.ext q7;have O:=O.ext q7;have hC:Fr (z0u uJ) w7 w7:=l12 _ _;have d1:=hs;have b8:=hk;have a7:=a6;have a2:=D;have a0:=ho;have Z:=I;have a1:=O;refine z7g 0 hC h wn U (λ_ hw=>a2.fr hw<|λk_=>Own.neB a0 a2 dd k_) j6h U λa h=>z0x 1 h U (λ_ hw=>a1.fr hw<|λk_=>Own.neB a0 a1 dd k_) z2z U λa h=>z0x 2 h U (λ_ hw=>Z.fr hw<|λk_=>Own.neB a0 Z dd k_) z5n U λa h=>z0x 3 h U (λ_ hw=>Z.fr hw<|λk_=>Own.neB a0 Z dd k_) z5n U λa h=>z7g 4 hC h wn U (λ_ hw=>a7.fr hw (λk_=>by have:=(a0.blk _ k_).1;have:=b4;omega)) na3 U λa h=>z0d 5 U<|z0n h (z0a U<|z0a U z0f) v2y (y3w _ _ _ _ oo) ?_;rintro _ w8 ⟨rfl,q8⟩ a h;have z8:=q8.size;have D:=D.ext q8;have I:=I.ext q8;have O:=O.ext q8;have hC:=hC.next q8;refine z0b<|z3f (cs:=[_,_,_,_,_]) 6 h (z0a U<|z0a U<|z0a U z0f) k5k (z0g U<|z0g U<|z0g U z0r) U U λa h=>z0d 7 U ?_;refine z2b ([(hdS b r i<|(l.getD i iq0).2.getD j id0)]) h (z0a U z0f) U z3t λa5 w9 hg c9 q9 hz a h=>?_;have a8:gr<a5:=by have:=D.lt;omega
 have a8:g8<a5:=by have:=I.lt;omega
 have b9:d4<a5:=by have:=O.lt;omega
 have z9:=q9.size;have hk:=hk.ext<|q8.n1 q9;have D:=D.ext q9;have ho:=ho.ext<|q8.n1 q9;have I:=I.ext q9;have hC:=hC.next q9;refine z0b<|z0d 8 U ?_;have a3:=ho;refine z4h h U U ho c9.sl z3t t60 ?_ (hM:=t61);intro f9 g0 ho b0 d5 a h;obtain⟨e6,e7,rfl,e3⟩:=ho.sl.form;have g1:=b0.size;have D:=D.fr b0<|λhk=>a3.neB D dd hk;have I:=I.fr b0<|λhk=>a3.neB I dd hk;refine z1m<|z0d 9 U<|y7z h U U D U U j7x λd7 b5 b1 hz a h=>?_;have g3:=b1.size;have I:=I.fr b1;have ho:=ho.fr b1 (by first|(intro k hk hb;rw[l11.1 hk]at hb;first|exact ho.neB D dd hb|(have:=(ho.blk _ hb).2;omega))|(simp;done));have D:Blk d7 gr _ [_]:=b5;clear b5;refine z1m<|z0p ?_;clear hC d1 b8 a7 a2 a0 Z a1;exact bk (h.sub (L':=ll10 0 2 3 8 11 12 13 22 23 24)<|csu U)<|bn'<|tn<|rg<|z0v U (wi6 oo)<|mv U U<|nl<|lpE ((j+1,_)) (csu U) ⟨(((q4.z5 q5 q6 q7 q8 q9).step b0<|λk hk f4=>absurd (a3.blk k hk).1 oo).z1 b1),⟨⟨sm,oo,I,j0d ho sp0⟩,D,by rw[y4z (hdS b r i) id0 oo,<-l14];exact ho⟩⟩ sm;obtain rfl:j=(l.getD i iq0).2.length:=by omega
 rw[l39]at ho;exact ex<|te<|te<|xh<|bn'<|tn<|rg<|z0v U (wi6 oo)<|mv U U<|kpL (ll6 0 2 3 11 12 13) (csu U)<|nl<|lpE ((i+1,_)) (csu U) ⟨q4,⟨⟨sm,oo,d6⟩,D,by rw[y9r,z4b,<-l14];exact ho⟩⟩ sm;obtain rfl:i=l.length:=by omega
 exact ex<|te<|te<|xh<|r0n results118  ⟨_,rfl,rfl,⟨_,D,ho,hi.2.2⟩,oo,q1⟩
theorem k6r (w:World):(zeroValue 127).run prog w=.ok (.slice none 0 0) w:=kr
theorem v5w (q:BdQ)(r:Int)(w0:World)(hB:BdAt w0 q)(hv:BdOk q.p)(hr:-4<=r/\r<=4):Rets prog 56 #[bvv q,.int .i64 r] w0 λv w'=>(∃g,v=.tuple #[.slice (saa g) (z2l q.p r).length (z2l q.p r).length,.int .i64 0]/\w0.heap.size<=g/\Lw.Own z4g 131 w0.heap.size w' (.slice (saa g) (z2l q.p r).length (z2l q.p r).length) (z2l q.p r))/\Fr [] w0 w':=by
 obtain⟨⟨hf,hb⟩,h4,a6⟩:=z3b hv;have hN:=y5p hv;have b8:=z8o q.p r;have d0:(z2l q.p r).length=(x8c q.p r).length:=z4s _;refine we [(0,bvv q),(1,.int .i64 r)] func56 U ntmps56 U (.c2 U U) ?_;have a4:=hB;refine sr<|bx U<|λg2 w1 b9 D q1 z1=>(bx U<|λg3 w2 c1 a1 q2 z2=>(asg U<|asg U<|nn<|sq<|sr ?_));have D:=D.ext q2;refine z0k U D z5a<|z1x U a1 na3 ?_;have hB:=a4.ext<|q1.n1 q2;refine cl (ev2 U) (mkC func117) (x3o q _ _ hB hv oo) U ?_;rintro _ w3 ⟨rfl,q3⟩;have z3:=q3.size;have a1:=a1.ext q3;have D:=D.ext q3;have a0:BdAt w3 q:=a4.ext<|q1.n2 q2 q3;have Z:=a1;have b7:=Z.lt;have a8:=D;refine asg U<|nn<|sr<|mv U U<|ne' U<|nn<|cd U (λc0=>?_)<|λc0=>?_;exact absurd U c0;refine sk<|tn<|sr<|z0k U D z5a ?_;have hB:=a4.ext<|q1.n2 q2 q3;refine cl (ev1 U) j9u (z9u q _ hB hf hb h4 a6) U ?_;rintro _ w4 ⟨rfl,q4⟩;have z4:=q4.size;refine z1f (m:=0) (c:=q.p.flat.length) (hd0) U z3t v6g U<|λa2 w5 b3 O q5 z5=>(al k6r U<|λg7 w6 c9 I q6 z6=>(z3g U I U j7x<|λw7 I q7 z7=>(nn<|sr<|z5b z0f (ev2 U)<|asg U<|nn<|sr<|mv U U<|fad U y4k ?_)));have D:=(D.ext<|q4.n2 q5 q6).fr q7;refine z0j U D U x2c ?_;have O:=(O.ext q6).fr q7 (by first|(intro k hk hb;rw[l11.1 hk]at hb;first|exact O.neB I dd hb|(have:=(O.blk _ hb).2;omega))|(simp;done));refine clv (us:=[]) (ws:=[pta g7,pta g3]) U (ev2 U) (mkC func118) (v4r g7 g3 a2 0 r _ _ q.fs [] w3 _ (q4.z3 q5 q6 q7) a0.f a0.fi Z oo oo oo I O dd oo h4 (by first|(simp;done)|(have:=x7f 0 r q.fs h4 q.fs.length;simp;omega)) ⟨_,_,_,rfl⟩) U t14 ?_;rintro _ w8 ⟨rfl,⟨d1,I,O,a9⟩,hz22,q8⟩;have z8:=q8.size;refine nn<|sr<|mv U U<|fad U y1d ?_;have D:=a8.ext q8;refine z0j U D U x2c<|clv (us:=[]) (ws:=[pta g7,pta g3]) U (ev2 U) (mkC func118) (v4r g7 g3 a2 1 r _ _ q.bs ([]++hds 0 r (plB q.fs) q.fs.length) w3 _ q8 a0.b a0.bi Z oo oo oo I O dd oo a6 (by first|(simp;done)|(have:=x7f 0 r q.fs h4 q.fs.length;simp;omega)) a9) U t14 ?_;rintro _ w9 ⟨rfl,⟨d3,I,O,b0⟩,hz26,q9⟩;have z9:=q9.size;rw[l46,show hds 0 r (plB q.fs) q.fs.length++hds 1 r (plB q.bs) q.bs.length=x8c q.p r by unfold x8c;simp only[l18]]at O;obtain⟨a3,b5,rfl⟩:=u7b b0 O;have b6:=(O.blk a3 t10).1;have a7:g7∉[a3]:=λhk=>(O.neB I dd) (by simpa[z0u] using hk);refine kpL (ll1 7) (csu U)<|nn<|sr<|z1x U I j6h<|cl (ev2 U) (mkC func120) (u4n a3 _ a2 (x8c q.p r) _ O oo) U ?_;rintro _ d4 ⟨rfl,O,a5⟩;have d6:=a5.size;refine nn<|sr ?_;have I:=I.fr a5 (by first|exact a7|(simp;omega));refine z1x U I j6h<|cl (ev1 U) (mkC func123) (v2q _ (z2l q.p r) _ (by unfold z2l;exact O.sl) oo) U ?_;rintro _ d5 ⟨b2,rfl,b4,hX,b1⟩;have d7:=b1.size;exact asg U<|asg U<|nn<|rt<|r2 results56 U U ⟨_,rfl,⟨b2,rfl,oo,hX.low oo⟩,(q1.z5 q2 q3 q9 a5 b1)⟩
end Go.Proofs.YtlfdhllfmoplgaaGreatDoor
namespace Go.G08
open Go.Lw Go.G21
def btL (fr to:Int):Int:=if fr<to then fr else to
def btH (fr to:Int):Int:=if fr<to then to else fr
def btD (fr to:Int):Int:=if fr<to then 1 else 0
def btA (l:List Hd)(fr to:Int)(k:Nat):List Pa:=((l.take k).filter λh=>decide (btL fr to<h.s/\h.s<btH fr to)).map λh=>⟨h.id,decide (h.b=1),btD fr to⟩
theorem k5x {l:List Hd}{fr D:Int}{k:Nat}(I:k<l.length)(h:btL fr D<(l.getD k hd0).s/\(l.getD k hd0).s<btH fr D):btA l fr D (k+1)=btA l fr D k++[⟨(l.getD k hd0).id,decide ((l.getD k hd0).b=1),btD fr D⟩]:=by
 unfold btA;rw[z5l hd0 I,List.filter_append,l33,l57,if_pos (decide_eq_true h)];rfl
theorem k5f {l:List Hd}{fr D:Int}{k:Nat}(I:k<l.length)(h:¬(btL fr D<(l.getD k hd0).s/\(l.getD k hd0).s<btH fr D)):btA l fr D (k+1)=btA l fr D k:=by
 unfold btA;rw[z5l hd0 I,List.filter_append,l57,if_neg (by simpa using h)];simp
theorem x7i (l:List Hd)(fr D:Int)(k:Nat):(btA l fr D k).length<=l.length:=by
 unfold btA;rw[l18];refine l37 (List.length_filter_le _ _) ?_;rw[l25];omega
theorem j7p {l:List Hd}{fr D:Int}(h:¬btD fr D=0):btw l fr D=btA l fr D l.length:=by
 unfold btD at h;by_cases c:fr<D;unfold btw btA btL btH btD;rw[l39];simp only[if_pos c];rw[if_neg c]at h;exact absurd U h
theorem j9l {l:List Hd}{fr D:Int}(h:btD fr D=0):btw l fr D=(btA l fr D l.length).reverse:=by
 unfold btD at h;by_cases c:fr<D;rw[if_pos c]at h;exact absurd h dd;unfold btw btA btL btH btD;rw[l39];simp only[if_neg c]
theorem v6p (l:List Hd)(fr D:Int):(btw l fr D).length<=l.length:=by
 by_cases h:btD fr D=0;rw[j9l h,l85];exact x7i l fr D _;rw[j7p h];exact x7i l fr D _
end Go.G08
namespace Go.Proofs.YtlfdhllfmoplgaaGreatDoor
open Go.Lw Go.G21 Go.G08 _root_.Go.Proofs.Tryz
theorem j8k:BuildAt prog 107 [(0,2),(2,1),(3,1)] [(.int .u8 0),(.int .i64 0),(.bool false),(.int .u8 0)]:=BuildAt.struct underlying107 (λ_=>kr)<|λ_=>kr
theorem x5w:z1d prog 131 0 0:=λ_ _=>kr
theorem j5q:z1d prog 131 1 2:=λ_ _=>kr
theorem u9t (v:Value)(l:List Hd)(fr D:Int)(w0:World)(hs:Sl z4g w0 v l)(hl:l.length<=1000):Rets prog 166 #[v,.int .i64 fr,.int .i64 D] w0 λr w'=>(∃g,r=.slice (saa g) (btw l fr D).length (btw l fr D).length/\w0.heap.size<=g/\Lw.Own z2i 107 w0.heap.size w' r (btw l fr D))/\Fr [] w0 w':=by
 obtain⟨A,c,rfl,b6,hM,hA⟩:=id hs;clear hA;unfold maxLen at hM;refine we [(0,.slice A l.length c),(1,.int .i64 fr),(2,.int .i64 D)] func166 U ntmps166 U (.c3 U U U) ?_;have a7:=hs;refine sr<|asg U<|nn<|sr<|mv U U<|mv U U<|asg U<|asg U<|asg U<|nn<|jn (ι:=Unit) (ll1 0) (λ_j=>[(7,.int .i64<|btL fr D),(8,.int .i64<|btH fr D),(9,.int .u8<|btD fr D)]) (λ_j w'=>Fr [] w0 w') (csu U) ?_ ?_;refine sr<|mv U U<|mv U U<|gt' U<|nn<|cd U (λZ=>?_)<|λZ=>?_;exact rg<|mv U U<|mv U U<|asg U<|asg U<|asg U<|nl<|jE (()) (.c4 U (by first|(rw[show btL fr D=_ from if_pos Z];rfl)|(rw[show btL fr D=_ from if_neg Z];rfl)) (by first|(rw[show btH fr D=_ from if_pos Z];rfl)|(rw[show btH fr D=_ from if_neg Z];rfl)) (by first|(rw[show btD fr D=_ from if_pos Z];rfl)|(rw[show btD fr D=_ from if_neg Z];rfl)))<|l12 _ _;exact sk<|jE (()) (.c4 U (by first|(rw[show btL fr D=_ from if_pos Z];rfl)|(rw[show btL fr D=_ from if_neg Z];rfl)) (by first|(rw[show btH fr D=_ from if_pos Z];rfl)|(rw[show btH fr D=_ from if_neg Z];rfl)) (by first|(rw[show btD fr D=_ from if_pos Z];rfl)|(rw[show btD fr D=_ from if_neg Z];rfl)))<|l12 _ _;rintro _j w1 q1;have z1:=q1.size;refine kpC (ll4 0 7 8 9) (csu U)<|sr<|asg U<|nn<|sq<|sr<|mv U U<|lnS U underlying127<|mv U U<|nn<|bl<|lpK (ι:=Nat×Value) (ll5 7 8 9 20 21) (λp=>[(22,.int .i64 (p.1:Int)),(10,p.2)]) (λp w'=>Fr [] w0 w'/\p.1<=l.length/\Lw.Own z2i 107 w0.heap.size w' p.2 (btA l fr D p.1)) (λp=>l.length-p.1) (0,_) (csu U) ⟨q1,⟨l17 _,Own.nil _⟩⟩ ?_;rintro⟨k,vP⟩ w2 ⟨q2,⟨hk,O⟩⟩;simp only at hk O;have z2:=q2.size;refine kpC [(7,_),(8,_),(9,_),(20,_),(21,_),(22,.int .i64 (k:Int)),(10,vP)] (csu U) ?_;have b4:=x7i l fr D k;refine sr<|lt' U<|nn<|sq<|cd U (λc1=>?_)<|λc1=>?_;refine sk<|tn<|sq<|bl<|sr ?_;have hs:=a7.ext q2;refine z1b (hd0) U hs U z3t z1j<|λa8 a1=>?_;refine z1q U (a1 _ hs) z5y<|al v6g U<|λb2 w3 a9 I q3 z3=>?_;refine z0i (vs:=[_,_,_,_,_]) U I z8u (λw4 I q4 z4=>?_) (h1:=(by first|(simp[Value.oneCell',S];done)|exact z4g.one _));refine nn<|sq<|rbo (r:=35) (L':=ll8 7 8 9 10 12 20 21 22) ((((btL fr D)<(l.getD k hd0).s)/\((l.getD k hd0).s<(btH fr D)))) (csu U) ?_ ?_;refine fad U x1p<|z0j U I U na3<|mv U U<|gt' U<|mv U U<|gs 30 U (λg0=>?_)<|λg0=>?_;exact gY U<|fad U x1p<|gY U<|z0j U I U na3<|gY U<|mv U U<|gY U<|lt' U<|pkt U<|rbe U<|csu U;exact gN U<|gN U<|gN U<|gN U<|pkf U<|rbe U<|csu U;refine tn<|cd U (λc2=>?_)<|λc2=>?_;refine rg<|mv U U<|fad U x5w<|z1v (vs:=[_,_]) U I z2z U<|fad U j5q<|y6p U z6s U<|z0j U I U x8d<|eq' U<|mv U U<|z1u (cs:=[_,_,_,_]) (ev3 U) j8k (z0g U<|z0g U<|z0g U z0r) U ?_;refine z1i ([(⟨(l.getD k hd0).id,decide ((l.getD k hd0).b=1),btD fr D⟩:Pa)]) (ev1 U) U z4v<|λb3 w5 b0 a2 q5 z5=>?_;have O:=((O.ext q3).fr q4 (by first|exact z9l O oo|simp[z0u]<;>omega)).ext q5;have a0:=O;refine z2k U O a2.sl z4v<|λb7 w6 O q6 a6=>?_;have z6:=q6.size;exact asg U<|kpL (ll7 7 8 9 10 20 21 22) (csu U)<|nl<|bn'<|tn<|rg<|z0v U (wi6 oo)<|mv U U<|nl<|lpE ((k+1,_)) (csu U) ⟨((q2.z3 q3 q4 q5).step q6<|λk hk a4=>absurd (a0.blk k hk).1 oo),⟨sm,by rw[k5x oo c2];exact O⟩⟩ sm;refine sk<|bn'<|tn<|rg<|z0v U (wi6 oo)<|mv U U<|nl ?_;have O:=(O.ext q3).fr q4 (by first|exact z9l O oo|simp[z0u]<;>omega);exact lpE ((k+1,_)) (csu U) ⟨(q2.z2 q3 q4),⟨sm,by rw[k5f oo c2];exact O⟩⟩ sm;obtain rfl:k=l.length:=by omega
 have b5:=v6p l fr D;refine ex<|te<|te<|xh<|tn<|jn (ι:=Unit) (ll1 10) (λ_j=>[]) (λ_j w'=>Fr [] w0 w'/\Lw.Own z2i 107 w0.heap.size w' vP (btw l fr D)) (csu U) ?_ ?_;refine sr<|mv U U<|eq' U<|kpL (ll2 10 49) (csu U)<|nn<|cd U (λc3=>?_)<|λc3=>?_;refine rg<|mv U U ?_;have a5:=O;refine cl (ev1 U) (mkC func207) (x2e w0.heap.size _ _ _ O oo) U ?_;rintro _ w7 ⟨O,q7⟩;have z7:=q7.size;exact nl<|jE (()) (csu U) ⟨(q2.step q7<|λk hk a4=>absurd (a5.blk k hk).1 oo),(by rw[j9l c3];exact O)⟩;exact sk<|jE (()) (csu U) ⟨q2,(by rw[j7p c3];exact O)⟩;rintro _j w8 ⟨q8,O⟩;have z8:=q8.size;refine kpC (ll1 10) (csu U)<|sr<|mv U U<|cl (ev1 U) (mkC func208) (y6v _ (btw l fr D) _ O.sl oo) U ?_;rintro _ w9 ⟨a3,rfl,b1,hX,q9⟩;have z9:=q9.size;exact asg U<|nn<|rt<|r1 results166 U ⟨_,rfl,⟨a3,rfl,oo,hX.low oo⟩,(q8.n1 q9)⟩
end Go.Proofs.YtlfdhllfmoplgaaGreatDoor
namespace Go.G08
open Go.Lw Go.G21
theorem Own.neO {α β:Type}{E:Enc α}{O:Enc β}{T T' b b':Nat}{w:World}{v I:Value}{ys:List α}{zs:List β}(h:Lw.Own E T b w v ys)(Z:Lw.Own O T' b' w I zs)(hT:T≠T'):∀k∈z0u v,k∉z0u I:=by
 intro k D;rcases h with ⟨rfl,rfl⟩|⟨g,cap,cur,rfl,_,hg,_⟩
 cases D;obtain rfl:k=g:=by simpa[z0u] using D
 exact Z.neB hg<|l50 hT
theorem v5m (B:Bd)(r d:Int)(i:Nat):x5r B r d (i+1)=x5r B r d i++u1p B r d i:=by unfold x5r;rw[l70,l41];simp
theorem y8f (B:Bd)(r d p:Int)(i:Nat):y4q B r d p (i+1)=y4q B r d p i++x0e B r d p i:=by unfold y4q;rw[l70,l41];simp
theorem v8k {α β:Type}(f:α->List β){l:List α}{j:Nat}(d:α)(h:j<l.length):(l.take<|j+1).flatMap f=(l.take j).flatMap f++f (l.getD j d):=by
 rw[z5l d h,l41];simp
theorem v6z {B:Bd}(h:BdOk B)(k:Nat):(B.b.getD k []).length<=4:=by
 have:=y7j h 1<|(k:Int)+1;unfold Bd.at atB at this;rwa [if_neg dd,show ((k:Int)+1-1).toNat=k by omega]at this
theorem x7a {B:Bd}(h:BdOk B)(b n:Int):(B.atC b n).length<=4:=by
 unfold Bd.atC;split;exact y7j h b n;simp
theorem flat_len {α β:Type}(f:α->List β)(m:Nat)(hf:∀x,(f x).length<=m):∀l:List α,(l.flatMap f).length<=m*l.length
 | []=>by simp
 | x::l=>by have:=flat_len f m hf l;have:=hf x;rw[l36,l13,l34];rw[Nat.mul_succ];omega
theorem u6n {B:Bd}(h:BdOk B)(r d:Int)(k:Nat):(u1p B r d k).length<=16:=by
 unfold u1p;have D:=flat_len (λx=>(B.atC 0<|y1f r d k).reverse.map<|x6a d x) 4 (λx=>by rw[l18,l85];exact x7a h _ _)<|B.b.getD k [];have:=v6z h k;omega
theorem v0b {B:Bd}(h:BdOk B)(r d:Int)(i:Nat):(x5r B r d i).length<=16*i:=by
 have:=flat_len (u1p B r d) 16 (u6n h r d)<|List.range i;rw[List.length_range]at this;exact this
theorem v4y {B:Bd}(h:BdOk B)(r d p:Int)(k:Nat):(x0e B r d p k).length<=4:=by
 unfold x0e;split;simp;rw[l18];exact v6z h k
theorem x3p {B:Bd}(h:BdOk B)(r d p:Int)(i:Nat):(y4q B r d p i).length<=4*i:=by
 have:=flat_len (x0e B r d p) 4 (v4y h r d p)<|List.range i;rw[List.length_range]at this;exact this
theorem x4y {B:Bd}(h:BdOk B)(r d p:Int):(z7h B r d p).length<=4*B.b.length:=by
 have:=x3p h r d p B.b.length;unfold z7h;split;rw[l85];exact this;exact this
theorem y5o {B:Bd}(h:BdOk B)(r d:Int):(z2o B r d).length<=16*B.b.length:=by
 have:=v0b h r d B.b.length;unfold z2o;split;rw[l85];exact this;exact this
end Go.G08
namespace Go.Proofs.YtlfdhllfmoplgaaGreatDoor
open Go.Lw Go.G21 Go.G08 _root_.Go.Proofs.Tryz
theorem u6f (q:BdQ)(r d pl:Int)(w0:World)(Z:BdAt w0 q)(hv:BdOk q.p)(hT:StT w0)(hr:-4<=r/\r<=4)(hd:d=0\/d=1)(d7:-4<=r+stI d/\r+stI d<=4)(hp:¬Int.tmod pl 2=0)(d5:-9223372036854775808<=pl/\pl<=9223372036854775807):Rets prog 163 #[bvv q,.int .i64 r,.int .u8 d,.int .i64 pl] w0 λv w'=>(∃g,v=.tuple #[.slice (saa g) (z7h q.p r d pl).length (z7h q.p r d pl).length,.int .i64 0]/\w0.heap.size<=g/\Lw.Own z2i 107 w0.heap.size w' (.slice (saa g) (z7h q.p r d pl).length (z7h q.p r d pl).length) (z7h q.p r d pl))/\Fr [] w0 w':=by
 obtain⟨⟨hf,hb⟩,h4,b1⟩:=z3b hv;have b3:=x4y hv r d pl;rw[l18]at b3;refine we [(0,bvv q),(1,.int .i64 r),(2,.int .u8 d),(3,.int .i64 pl)] func163 U ntmps163 U (.c4 U U U U) ?_;have I:=Z;have a2:=hT;refine sr<|bx U<|λg4 w1 d4 a0 q1 z1=>(asg U<|asg U<|nn<|sq<|sr<|z0k U a0 z5a<|mv U U<|mv U U ?_);have Z:=I.ext q1;have hT:=a2.ext q1;refine cl (ev3 U) (mkC func85) (x2y q _ _ _ Z hv hT oo hd oo) U ?_;rintro _ w2 ⟨rfl,q2⟩;have z2:=q2.size;refine asg U<|nn<|sr<|mv U U<|ne' U<|nn<|cd U (λc0=>?_)<|λc0=>?_;exact absurd U c0;refine sk<|tn<|sq<|sr<|mv U U<|y7v U U t38<|eq' U<|nn<|cd U (λc1=>?_)<|λc1=>?_;exact absurd c1 hp;refine sk<|tn<|sr<|asg U<|nn<|jn (ι:=Unit) (ll4 1 2 3 4) (λ_j=>[(11,.int .u8<|1-d)]) (λ_j w'=>Fr [] w2 w') (csu U) ?_ ?_;refine sr<|mv U U<|eq' U<|nn<|cd U (λc2=>?_)<|λc2=>?_;refine rg<|asg U<|nl ?_;exact jE (()) (.c5 U U U U<|congrArg (λz=>some<|Value.int .u8 z) oo)<|l12 _ _;refine sk ?_;exact jE (()) (.c5 U U U U<|congrArg (λz=>some<|Value.int .u8 z) oo)<|l12 _ _;rintro _j w3 q3;have z3:=q3.size;refine kpC (ll5 1 2 3 4 11) (csu U)<|sr<|asg U<|nn<|sq<|sr<|fad U y1d ?_;have a0:=a0.ext<|q2.n1 q3;refine z0j U a0 U x2c<|lnS U underlying23<|mv U U<|nn<|bl<|lpK (ι:=Nat×Value) (ll6 1 2 3 11 31 32) (λp=>[(33,.int .i64 (p.1:Int)),(12,p.2)]) (λp w'=>Fr [] w0 w'/\p.1<=q.bs.length/\Lw.Own z2i 107 w0.heap.size w' p.2 (y4q q.p r d pl p.1)) (λp=>q.bs.length-p.1) (0,_) (csu U) ⟨(q1.n2 q2 q3),⟨l17 _,Own.nil _⟩⟩ ?_;rintro⟨i,uI⟩ w4 ⟨q4,⟨hi,D⟩⟩;simp only at hi D;have z4:=q4.size;refine kpC [(1,_),(2,_),(3,_),(11,_),(31,_),(32,_),(33,.int .i64 (i:Int)),(12,uI)] (csu U) ?_;have d6:=z2c I.b;have d3:=x3p hv r d pl i;have d9:=z3n b1 i;have e0:=z2c<|z1y I.bi i;have e3:-300<=z2f 1 ((i:Int)+1) r/\z2f 1 ((i:Int)+1) r<=300:=by
  unfold z2f;split;omega;split<;>omega
 have e4:stI d = -1\/stI d=1:=by unfold stI;split<;>simp
 refine sr<|lt' U<|nn<|sq<|cd U (λc3=>?_)<|λc3=>?_;refine sk<|tn<|sq<|bl<|sr<|mv U U ?_;have Z:=I.ext q4;refine z1b (iq0) U Z.b U y3e z1j<|λb6 a3=>?_;refine z1c U (a3 _ Z.b) z6f<|asg U<|asg U<|nn<|sr<|mv U U<|z0v U (wi6 oo)<|z1u (cs:=[_,_]) (ev2 U) y7p (z0g U<|z0g U z0r) U ?_;refine mv U U<|cl (ev2 U) v2y (y3w _ _ _ _ oo) U ?_;rintro _ w5 ⟨rfl,q5⟩;have z5:=q5.size;refine asg U<|kpL (ll10 1 2 3 11 12 14 15 31 32 33) (csu U)<|nn<|sq<|sq<|rbo (r:=59) (L':=ll9 1 2 3 11 12 14 31 32 33) (((pl≠((z2f 1 ((i:Int)+1) r)+(stI d)))/\(pl≠((z2f 1 ((i:Int)+1) r)+(3*(stI d)))))) (csu U) ?_ ?_;refine mv U U<|mv U U<|mv U U<|z9y U U underlying226 sz3 ?_;have hT:=a2.ext<|q4.n1 q5;refine y1k U hT.c (y6g hd) na3 U<|z0v U (wi6 oo)<|ne' U<|mv U U<|gs 50 U (λg0=>?_)<|λg0=>?_;exact gY U<|mv U U<|gY U<|mv U U<|gY U<|mv U U<|gY U<|z9y U U underlying226 sz3<|gY U<|y1k U hT.c (y6g hd) na3 U<|gY U<|y9m U U (wi6 oo)<|gY U<|z0v U (wi6 oo)<|gY U<|ne' U<|pkt U<|rbe U<|csu U;exact gN U<|gN U<|gN U<|gN U<|gN U<|gN U<|gN U<|gN U<|pkf U<|rbe U<|csu U;refine tn<|cd U (λc4=>?_)<|λc4=>?_;refine ex<|te<|xh<|tn<|rg<|z0v U (wi6 oo)<|mv U U<|nl ?_;have D:=D.ext q5;exact lpE ((i+1,_)) (csu U) ⟨(q4.n1 q5),⟨sm,by rw[y8f,show x0e q.p r d pl i=[] from if_pos c4,l27];exact D⟩⟩ sm;refine sk<|tn<|sr<|mv U U<|lnS U underlying30<|mv U U<|nn<|bl ?_;have D:=D.ext q5;refine lpK (ι:=Nat×Value) (ll9 1 2 3 11 31 32 33 60 61) (λp=>[(62,.int .i64 (p.1:Int)),(12,p.2)]) (λp w'=>Fr [] w0 w'/\p.1<=(q.bs.getD i iq0).2.length/\Lw.Own z2i 107 w0.heap.size w' p.2 ((y4q q.p r d pl i)++((q.bs.getD i iq0).2.take p.1).map (λx=>(⟨x,true,1-d⟩:Pa)))) (λp=>(q.bs.getD i iq0).2.length-p.1) (0,uI) (csu U) ⟨(q4.n1 q5),⟨l17 _,by simpa using D⟩⟩ ?_;rintro⟨j,uJ⟩ w6 ⟨q6,⟨hj,D⟩⟩;simp only at hj D;have z6:=q6.size;refine kpC [(1,_),(2,_),(3,_),(11,_),(31,_),(32,_),(33,_),(60,_),(61,_),(62,.int .i64 (j:Int)),(12,uJ)] (csu U)<|sr<|lt' U<|nn<|sq<|cd U (λc5=>?_)<|λc5=>?_;refine sk<|tn<|sq<|bl<|sr ?_;have Z:=I.ext q6;refine z1b (id0) U (z1y Z.bi i) U z4k z1j<|λb7 a4=>?_;refine z1q U (a4 _<|z1y Z.bi i) z2z<|al z8q U<|λd0 w7 b8 O q7 z7=>?_;refine z0i (vs:=[_,_]) U O y0i (λw8 O q8 z8=>?_) (h1:=t23);refine nn<|rg<|mv U U<|z0k U O z2z<|mv U U<|z1u (cs:=[_,_,_,_]) (ev3 U) j8k (z0g U<|z0g U<|z0g U z0r) U ?_;refine z1i ([(⟨((q.bs.getD i iq0).2.getD j id0),true,1-d⟩:Pa)]) (ev1 U) U z4v<|λd1 w9 b9 a5 q9 z9=>?_;have D:=((D.ext q7).fr q8 (by first|exact z9l D oo|simp[z0u]<;>omega)).ext q9;have a1:=D;refine z2k U D a5.sl z4v (λe5 e6 D a6 b5=>?_) (hM:=t61) (hb:=t60);have f0:=a6.size;exact asg U<|kpL (ll11 1 2 3 11 12 31 32 33 60 61 62) (csu U)<|nl<|bn'<|tn<|rg<|z0v U (wi6 oo)<|mv U U<|nl<|lpE ((j+1,_)) (csu U) ⟨((q6.z3 q7 q8 q9).step a6<|λk hk b2=>absurd (a1.blk k hk).1 oo),⟨sm,by rw[y4z (λx=>(⟨x,true,1-d⟩:Pa)) id0 oo,<-l14];exact D⟩⟩ sm;obtain rfl:j=(q.bs.getD i iq0).2.length:=by omega
 rw[l39]at D;exact ex<|te<|te<|xh<|bn'<|tn<|rg<|z0v U (wi6 oo)<|mv U U<|nl<|lpE ((i+1,_)) (csu U) ⟨q6,⟨sm,by rw[y8f,show x0e q.p r d pl i=_ from if_neg c4,z4b];exact D⟩⟩ sm;obtain rfl:i=q.bs.length:=by omega
 refine ex<|te<|te<|xh<|tn<|jn (ι:=Unit) (ll1 12) (λ_j=>[]) (λ_j w'=>Fr [] w0 w'/\Lw.Own z2i 107 w0.heap.size w' uI (z7h q.p r d pl)) (csu U) ?_ ?_;refine sr<|mv U U<|eq' U<|kpL (ll2 12 75) (csu U)<|nn<|cd U (λc6=>?_)<|λc6=>?_;refine rg<|mv U U ?_;have b4:=D;refine cl (ev1 U) (mkC func207) (x2e w0.heap.size _ _ _ D oo) U ?_;rintro _ e7 ⟨D,a7⟩;have f1:=a7.size;exact nl<|jE (()) (csu U) ⟨(q4.step a7<|λk hk b2=>absurd (b4.blk k hk).1 oo),(by rw[show z7h q.p r d pl=_ from if_pos oo,l18];exact D)⟩;exact sk<|jE (()) (csu U) ⟨q4,(by rw[show z7h q.p r d pl=_ from if_neg oo,l18];exact D)⟩;rintro _j e8 ⟨a8,D⟩;have f2:=a8.size;refine kpC (ll1 12) (csu U)<|sr<|mv U U<|cl (ev1 U) (mkC func208) (y6v _ (z7h q.p r d pl) _ D.sl oo) U ?_;rintro _ e9 ⟨b0,rfl,c9,hX,a9⟩;have f3:=a9.size;exact asg U<|asg U<|nn<|rt<|r2 results163 U U ⟨_,rfl,⟨b0,rfl,oo,hX.low oo⟩,(a8.n1 a9)⟩
theorem j9w:BuildAt prog 101 [(0,2),(2,2),(4,1)] [(.int .u8 0),(.int .i64 0),(.int .u8 0),(.int .i64 0),(.int .i64 0)]:=BuildAt.struct underlying101 (λ_=>kr)<|λ_=>kr
theorem v9s (q:BdQ)(r d:Int)(w0:World)(hB:BdAt w0 q)(hv:BdOk q.p)(hT:StT w0)(hr:-4<=r/\r<=4)(hd:d=0\/d=1)(g5:-4<=r+stI d/\r+stI d<=4):Rets prog 36 #[bvv q,.int .i64 r,.int .u8 d] w0 λv w'=>(∃g,v=.tuple #[.slice (saa g) (z2o q.p r d).length (z2o q.p r d).length,.int .i64 0]/\w0.heap.size<=g/\Lw.Own z5s 101 w0.heap.size w' (.slice (saa g) (z2o q.p r d).length (z2o q.p r d).length) (z2o q.p r d))/\Fr [] w0 w':=by
 obtain⟨⟨hf,hb⟩,h4,b5⟩:=z3b hv;have g4:=z2c hB.b;have e4:=y5o hv r d;rw[l18]at e4;refine we [(0,bvv q),(1,.int .i64 r),(2,.int .u8 d)] func36 U ntmps36 U (.c3 U U U) ?_;have a5:=hB;have d9:=hT;refine sr<|bx U<|λg3 w1 g1 a1 q1 z1=>(asg U<|asg U<|nn<|sq<|sr<|z0k U a1 z5a<|mv U U<|mv U U ?_);have hB:=a5.ext q1;have hT:=d9.ext q1;refine cl (ev3 U) (mkC func85) (x2y q _ _ _ hB hv hT oo hd oo) U ?_;rintro _ w2 ⟨rfl,q2⟩;have z2:=q2.size;have a1:=a1.ext q2;have b6:=a1;refine asg U<|nn<|sr<|mv U U<|ne' U<|nn<|cd U (λc0=>?_)<|λc0=>?_;exact absurd U c0;refine sk<|tn<|sr<|asg U<|nn<|sq<|sr<|fad U y1d<|z0j U a1 U x2c<|lnS U underlying23<|mv U U<|nn<|bl<|lpK (ι:=Nat×Value) (ll5 1 2 3 26 27) (λp=>[(28,.int .i64 (p.1:Int)),(9,p.2)]) (λp w'=>Fr [] w2 w'/\p.1<=q.bs.length/\Lw.Own z5s 101 w2.heap.size w' p.2 (x5r q.p r d p.1)) (λp=>q.bs.length-p.1) (0,_) (csu U) ⟨(l12 _ _),⟨l17 _,Own.nil _⟩⟩ ?_;rintro⟨i,uI⟩ w3 ⟨q3,⟨hi,I⟩⟩;simp only at hi I;have z3:=q3.size;refine kpC [(1,_),(2,_),(3,_),(26,_),(27,_),(28,.int .i64 (i:Int)),(9,uI)] (csu U) ?_;have f9:=v0b hv r d i;have g6:=z3n b5 i;have g7:=z2c<|z1y a5.bi i;have g0:-10<=y1f r d i/\y1f r d i<=50:=by unfold y1f;split<;>omega
 have e0:((q.p.atC 0<|y1f r d i).reverse).length<=4:=by rw[l85];exact x7a hv _ _
 refine sr<|lt' U<|nn<|sq<|cd U (λc1=>?_)<|λc1=>?_;refine sk<|tn<|sq<|bl<|sr<|mv U U ?_;have hB:=a5.ext<|q1.n2 q2 q3;refine z1b (iq0) U hB.b U y3e z1j<|λe7 b7=>?_;refine z1c U (b7 _ hB.b) z6f<|asg U<|asg U<|nn<|sr<|mv U U<|z0v U (wi6 oo)<|mv U U<|z0v U (wi6 oo)<|asg U<|nn<|jn (ι:=Unit) (ll8 1 2 3 9 11 26 27 28) (λ_j=>[(12,.int .i64<|y1f r d i)]) (λ_j w'=>Fr [] w2 w'/\Lw.Own z5s 101 w2.heap.size w' uI (x5r q.p r d i)) (csu U) ?_ ?_;refine sr<|mv U U<|eq' U<|nn<|cd U (λc2=>?_)<|λc2=>?_;exact rg<|mv U U<|z2j U (wi6 oo)<|asg U<|nl<|jE (()) (.d8 U U U U U U U U<|.cons (by first|(rw[show y1f r d i=_ from if_pos c2];rfl)|(rw[show y1f r d i=_ from if_neg c2];rfl)) .nil) ⟨q3,I⟩;exact sk<|jE (()) (.d8 U U U U U U U U<|.cons (by first|(rw[show y1f r d i=_ from if_pos c2];rfl)|(rw[show y1f r d i=_ from if_neg c2];rfl)) .nil) ⟨q3,I⟩;rintro _j w4 ⟨q4,I⟩;have z4:=q4.size;refine kpC (ll9 1 2 3 9 11 26 27 28 12) (csu U)<|sr ?_;have a1:=b6.ext q4;refine z0k U a1 z5a<|mv U U<|z1u (cs:=[_,_]) (ev2 U) y7p (z0g U<|z0g U z0r) U ?_;have hB:=a5.ext<|q1.n2 q2 q4;refine cl (ev2 U) v6v (y6u q 0 (y1f r d i) _ hB oo hf hb h4 b5) U ?_;rintro g8 w5 ⟨O,q5⟩;have O:=O.low (show w2.heap.size<=_ by omega);have z5:=q5.size;refine asg U<|nn<|sr<|mv U U ?_;have a6:=O;have I:=I.ext q5;refine cl (ev1 U) (mkC func86) (u0o w2.heap.size _ _ _ O (by have:=x7a hv 0<|y1f r d i;omega)) U ?_;rintro _ w6 ⟨O,q6⟩;have I:=I.fr q6<|Own.neO a6 I dd;have z6:=q6.size;obtain⟨b3,b4,rfl,f0⟩:=O.sl.form;refine nn<|sr<|mv U U<|lnS U underlying30<|mv U U<|nn<|bl<|lpK (ι:=Nat×Value) (ll9 1 2 3 13 26 27 28 47 48) (λp=>[(49,.int .i64 (p.1:Int)),(9,p.2)]) (λp w'=>Fr [] w2 w'/\p.1<=(q.bs.getD i iq0).2.length/\Lw.Own z5s 101 w2.heap.size w' p.2 ((x5r q.p r d i)++((q.bs.getD i iq0).2.take p.1).flatMap (λx=>((q.p.atC 0<|y1f r d i).reverse).map<|x6a d x))/\Lw.Own z1g 64 w2.heap.size w' (.slice b3 ((q.p.atC 0<|y1f r d i).reverse).length b4) ((q.p.atC 0<|y1f r d i).reverse)) (λp=>(q.bs.getD i iq0).2.length-p.1) (0,_) (csu U) ⟨((q4.n1 q5).step q6<|λk hk b2=>absurd (a6.blk k hk).1 oo),⟨l17 _,by simpa using I,O⟩⟩ ?_;rintro⟨j,uJ⟩ w7 ⟨q7,⟨hj,I,O⟩⟩;simp only at hj I;have z7:=q7.size;refine kpC [(1,_),(2,_),(3,_),(13,_),(26,_),(27,_),(28,_),(47,_),(48,_),(49,.int .i64 (j:Int)),(9,uJ)] (csu U) ?_;have e3:=flat_len (λx=>((q.p.atC 0<|y1f r d i).reverse).map<|x6a d x) 4 (λx=>by rw[l18];exact e0)<|(q.bs.getD i iq0).2.take j;rw[l25]at e3;refine sr<|lt' U<|nn<|sq<|cd U (λc3=>?_)<|λc3=>?_;refine sk<|tn<|sq<|bl<|sr ?_;have hB:=a5.ext<|q1.n2 q2 q7;refine z1b (id0) U (z1y hB.bi i) U z4k z1j<|λe8 b8=>?_;refine z1q U (b8 _<|z1y hB.bi i) z2z<|al z8q U<|λd6 w8 f1 D q8 z8=>?_;refine z0i (vs:=[_,_]) U D y0i (λw9 D q9 z9=>?_) (h1:=t23);refine nn<|sr<|mv U U<|lnS U underlying30<|mv U U<|nn<|bl ?_;have I:=(I.ext q8).fr q9 (by first|exact z9l I oo|simp[z0u]<;>omega);have O:=(O.ext q8).fr q9 (by first|exact z9l O oo|simp[z0u]<;>omega);refine lpK (ι:=Nat×Value) [(1,_),(2,_),(3,_),(13,_),(15,_),(26,_),(27,_),(28,_),(47,_),(48,_),(49,_),(53,_),(54,_)] (λp=>[(55,.int .i64 (p.1:Int)),(9,p.2)]) (λp w'=>Fr [] w2 w'/\p.1<=((q.p.atC 0<|y1f r d i).reverse).length/\Lw.Own z5s 101 w2.heap.size w' p.2 (((x5r q.p r d i)++((q.bs.getD i iq0).2.take j).flatMap (λx=>((q.p.atC 0<|y1f r d i).reverse).map<|x6a d x))++(((q.p.atC 0<|y1f r d i).reverse).take p.1).map (x6a d<|(q.bs.getD i iq0).2.getD j id0))/\Lw.Own z1g 64 w2.heap.size w' (.slice b3 ((q.p.atC 0<|y1f r d i).reverse).length b4) ((q.p.atC 0<|y1f r d i).reverse)/\Blk w' d6 64 (z1g.enc<|(q.bs.getD i iq0).2.getD j id0)) (λp=>((q.p.atC 0<|y1f r d i).reverse).length-p.1) (0,_) (csu U) ⟨(q7.z2 q8 q9),⟨l17 _,by simpa using I,O,D⟩⟩ ?_;rintro⟨k,uK⟩ h2 ⟨a7,⟨hk,I,O,D⟩⟩;simp only at hk I;have i3:=a7.size;have d1:=D.lt;refine kpC [(1,_),(2,_),(3,_),(13,_),(15,_),(26,_),(27,_),(28,_),(47,_),(48,_),(49,_),(53,_),(54,_),(55,.int .i64 (k:Int)),(9,uK)] (csu U)<|sr<|lt' U<|nn<|sq<|cd U (λc4=>?_)<|λc4=>?_;refine sk<|tn<|sq<|bl<|sr<|z1b (id0) U O.sl U z4k z1j<|λe9 b9=>?_;refine z1q U (b9 _ O.sl) z2z<|al z8q U<|λf6 h3 f2 a4 Z i4=>?_;refine z0i (vs:=[_,_]) U a4 y0i (λh5 a4 a0 i5=>?_) (h1:=t23);refine nn<|sr<|mv U U<|eq' U<|nn<|cd U (λc5=>?_)<|λc5=>?_;refine rg<|mv U U<|z0k U a4 z2z ?_;have D:=(D.ext Z).fr a0;refine z0k U D z2z<|z1u (cs:=[_,_,_,_,_]) (ev3 U) j9w (z0g U<|z0g U<|z0g U z0r) U ?_;refine z1i ([(⟨(((q.p.atC 0<|y1f r d i).reverse).getD k id0),((q.bs.getD i iq0).2.getD j id0),1⟩:Cx)]) (ev1 U) U v1w<|λf7 h6 f3 c9 a8 i7=>?_;have O:=((O.ext Z).fr a0 (by first|exact z9l O oo|simp[z0u]<;>omega)).ext a8;have D:=D.ext a8;have I:=((I.ext Z).fr a0 (by first|exact z9l I oo|simp[z0u]<;>omega)).ext a8;have a2:=I;refine z2k U I c9.sl v1w (λg9 h7 I a9 e5=>?_) (hM:=t61) (hb:=t60);have i8:=a9.size;have O:=O.fr a9 ((Own.neO a2 O dd));have D:=D.fr a9<|λhk=>a2.neB D dd hk;exact asg U<|kpL [(1,_),(2,_),(3,_),(9,_),(13,_),(15,_),(26,_),(27,_),(28,_),(47,_),(48,_),(49,_),(53,_),(54,_),(55,_)] (csu U)<|nl<|bn'<|tn<|rg<|z0v U (wi6 oo)<|mv U U<|nl<|lpE ((k+1,_)) (csu U) ⟨((a7.z3 Z a0 a8).step a9<|λk hk b2=>absurd (a2.blk k hk).1 oo),⟨sm,by rw[y4z (x6a d<|(q.bs.getD i iq0).2.getD j id0) id0 oo,<-l14,show x6a d ((q.bs.getD i iq0).2.getD j id0) (((q.p.atC 0<|y1f r d i).reverse).getD k id0)=_ from if_pos c5];exact I,O,D⟩⟩ sm;refine rg<|mv U U ?_;have D:=(D.ext Z).fr a0;refine z0k U D z2z<|z0k U a4 z2z<|z1u (cs:=[_,_,_,_,_]) (ev3 U) j9w (z0g U<|z0g U<|z0g U z0r) U ?_;refine z1i ([(⟨((q.bs.getD i iq0).2.getD j id0),(((q.p.atC 0<|y1f r d i).reverse).getD k id0),-1⟩:Cx)]) (ev1 U) U v1w<|λf8 h8 f4 d0 b0 i9=>?_;have O:=((O.ext Z).fr a0 (by first|exact z9l O oo|simp[z0u]<;>omega)).ext b0;have D:=D.ext b0;have I:=((I.ext Z).fr a0 (by first|exact z9l I oo|simp[z0u]<;>omega)).ext b0;have a3:=I;refine z2k U I d0.sl v1w (λh0 h9 I b1 e6=>?_) (hM:=t61) (hb:=t60);have j0:=b1.size;have O:=O.fr b1 ((Own.neO a3 O dd));have D:=D.fr b1<|λhk=>a3.neB D dd hk;exact asg U<|kpL [(1,_),(2,_),(3,_),(9,_),(13,_),(15,_),(26,_),(27,_),(28,_),(47,_),(48,_),(49,_),(53,_),(54,_),(55,_)] (csu U)<|nl<|bn'<|tn<|rg<|z0v U (wi6 oo)<|mv U U<|nl<|lpE ((k+1,_)) (csu U) ⟨((a7.z3 Z a0 b0).step b1<|λk hk b2=>absurd (a3.blk k hk).1 oo),⟨sm,by rw[y4z (x6a d<|(q.bs.getD i iq0).2.getD j id0) id0 oo,<-l14,show x6a d ((q.bs.getD i iq0).2.getD j id0) (((q.p.atC 0<|y1f r d i).reverse).getD k id0)=_ from if_neg c5];exact I,O,D⟩⟩ sm;obtain rfl:k=((q.p.atC 0<|y1f r d i).reverse).length:=by omega
 rw[l39]at I;exact ex<|te<|te<|xh<|bn'<|tn<|rg<|z0v U (wi6 oo)<|mv U U<|kpL (ll11 1 2 3 9 13 26 27 28 47 48 49) (csu U)<|nl<|lpE ((j+1,_)) (csu U) ⟨a7,⟨sm,by rw[v8k (λx=>((q.p.atC 0<|y1f r d i).reverse).map<|x6a d x) id0 oo,<-l14];exact I,O⟩⟩ sm;obtain rfl:j=(q.bs.getD i iq0).2.length:=by omega
 rw[l39]at I;exact ex<|te<|te<|xh<|bn'<|tn<|rg<|z0v U (wi6 oo)<|mv U U<|kpL (ll7 1 2 3 9 26 27 28) (csu U)<|nl<|lpE ((i+1,_)) (csu U) ⟨q7,⟨sm,by rw[v5m,show u1p q.p r d i=(q.bs.getD i iq0).2.flatMap (λx=>((q.p.atC 0<|y1f r d i).reverse).map<|x6a d x) from by unfold u1p;rw[z4b]];exact I⟩⟩ sm;obtain rfl:i=q.bs.length:=by omega
 refine ex<|te<|te<|xh<|tn<|jn (ι:=Unit) (ll1 9) (λ_j=>[]) (λ_j w'=>Fr [] w0 w'/\Lw.Own z5s 101 w0.heap.size w' uI (z2o q.p r d)) (csu U) ?_ ?_;refine sr<|mv U U<|eq' U<|kpL (ll2 9 77) (csu U)<|nn<|cd U (λc6=>?_)<|λc6=>?_;refine rg<|mv U U ?_;have a6:=I;refine cl (ev1 U) (mkC func87) (u0s w2.heap.size _ _ _ I oo) U ?_;rintro _ i0 ⟨I,d3⟩;have j1:=d3.size;exact nl<|jE (()) (csu U) ⟨((q1.n2 q2 q3).step d3<|λk hk b2=>absurd (a6.blk k hk).1 oo),(by rw[show z2o q.p r d=_ from if_pos oo,l18];exact I.low oo)⟩;exact sk<|jE (()) (csu U) ⟨(q1.n2 q2 q3),(by rw[show z2o q.p r d=_ from if_neg oo,l18];exact I.low oo)⟩;rintro _j i1 ⟨d4,I⟩;have j2:=d4.size;refine kpC (ll1 9) (csu U)<|sr<|mv U U<|cl (ev1 U) (mkC func88) (x8f _ (z2o q.p r d) _ I.sl oo) U ?_;rintro _ i2 ⟨d7,rfl,f5,hY,d5⟩;have j3:=d5.size;exact asg U<|asg U<|nn<|rt<|r2 results36 U U ⟨_,rfl,⟨d7,rfl,oo,hY.low oo⟩,(d4.n1 d5)⟩
end Go.Proofs.YtlfdhllfmoplgaaGreatDoor
namespace Go.G08
open Go.Lw Go.G21
def orZ:List Int->Int
  | []=>0
  | x::l=>if x≠0 then x else orZ l
theorem v4w:∀ {l:List Int} {i:Nat},i<l.length->(∀j,j<i->l.getD j 0=0)->l.getD i 0≠0->orZ l=l.getD i 0
 | x::l,0,_,_,h=>by simp only[l84]at h ⊢;exact if_pos h
 | x::l,i+1,hi,hj,h=>by
  have D:=hj 0 oo
  simp only[l84]at D
  rw[show orZ (x::l)=if x≠0 then x else orZ l from U,if_neg oo]
  simp only[l62]at h ⊢
  exact v4w (by simpa using hi) (λj hl=>by have:=hj (j+1) oo;simpa only[l62] using this) h
theorem x0j:∀ {l:List Int},(∀j,j<l.length->l.getD j 0=0)->orZ l=0
 | [],_=>rfl
 | x::l,hj=>by
  have D:=hj 0 sp0
  simp only[l84]at D
  rw[show orZ (x::l)=if x≠0 then x else orZ l from U,if_neg oo]
  exact x0j (λj hl=>by have:=hj (j+1) (by simpa using hl);simpa only[l62] using this)
theorem v0s (a b:LId):orZ [y1c a.y b.y,y1c a.n b.n]=z6m a b:=by
 unfold orZ orZ orZ y1c z6m
 repeat' split
 all_goals first|rfl|omega
end Go.G08
namespace Go.Lw
open Go.RowKit
def MapL {κ:Type}[DecidableEq κ](V:κ->Value)(w:World)(g:Nat)(m:List (κ×Value)):Prop:=
  ∃(es:Array MapEntry) (c:Nat),w.heap[g]?=some (.map es c)/\es.toList.map (λe=>(e.key,e.val))=m.map (λp=>(V p.1,p.2))/\(m.map (·.1)).Nodup/\(es.toList.map (·.born)).Nodup/\∀e∈es.toList,e.born<c
def z6c {κ:Type}[DecidableEq κ](m:List (κ×Value))(k:κ):List (κ×Value):=
  match (m.map (·.1)).findIdx? (λx=>decide (k=x)) with
  | some i=>m.eraseIdx i
  | none=>m
def MapIt {κ:Type}[DecidableEq κ](V:κ->Value)(w:World)(gi g:Nat)(m rem:List (κ×Value))(cur:Option (κ×Value)):Prop:=
  ∃(es:Array MapEntry) (c:Nat) (seen:Array Nat),w.heap[g]?=some (.map es c)/\es.toList.map (λe=>(e.key,e.val))=m.map (λp=>(V p.1,p.2))/\(es.toList.map (·.born)).Nodup/\(∀e∈es.toList,e.born<c)/\
    w.heap[gi]?=some (.mapIter (some g) c seen c)/\(leftOf es seen).toList.map (λe=>(e.key,e.val))=rem.map (λp=>(V p.1,p.2))/\∀p,cur=some p->∃e∈es.toList,∃s':Array Nat,seen=s'.push e.born/\e.key=V p.1/\e.val=p.2
theorem j8v {P:Program}{ops:Array Oper}{Q:Exit->Act->World->Prop}{o:Oper}{rest:List Oper}{a:Act}{n:Nat}{ds:List Nat}{L:List (Nat×Value)}{w w':World}{v:Value}(h:AgM ds a n L)(O:o.guard=none)(I:o.dst=none)(Z:(execOp a.eval o).run P w=.ok (.value v) w')
    (k:∀a,AgM ds a n L->wpList P ops Q rest a w'):wpList P ops Q (o::rest) a w:=
  wpList_plain O λK D=>by
    unfold Oper.wp
    rw[Z]
    show K (a.put o.dst v) w'
    rw[I]
    exact D _ _<|k _ h
theorem y7w {D:Type}(m:List (D×Value))(i:Nat)(v:Value):(m.modify i λp=>(p.1,v)).map (·.1)=m.map (·.1):=by
 apply l59;intro j;simp only[l24,l106];by_cases h:i=j;subst h;cases m[i]?<;>simp
 simp[h]
theorem y2d {α β:Type}(f:α->β)(i:Nat)(l:List α):(l.eraseIdx i).map f=(l.map f).eraseIdx i:=by
 apply l59;intro j;simp only[l24,List.getElem?_eraseIdx];split<;>rfl
section
variable {κ:Type} [DecidableEq κ] {V:κ->Value} {P:Program} {K:TypeId} {w w':World} {g:Nat} {m:List (κ×Value)} {S:List Nat}
theorem MapL.fr (h:MapL V w g m)(hf:Fr S w w')(hn:g∉S:=by simp[z0u]<;>omega):MapL V w' g m:=by
 obtain⟨I,c,D,O⟩:=h;exact⟨I,c,(hf.block g (l15.1 D).1 hn).trans D,O⟩
theorem MapL.ext (h:MapL V w g m)(hf:Fr [] w w'):MapL V w' g m:=h.fr hf sp0
theorem MapL.f (h:MapL V w g m):MapF V w g (z2s m):=let ⟨es,c,h1,h2,_⟩:=h;⟨es,c,m,h1,h2,λ_=>rfl⟩
theorem MapL.lt (h:MapL V w g m):g<w.heap.size:=h.f.lt
theorem MapL.nodup (h:MapL V w g m):(m.map (·.1)).Nodup:=let ⟨_,_,_,_,h,_⟩:=h;h
theorem v4q {k:κ}(h:(m.map (·.1)).findIdx? (λx=>decide (k=x))=none):k∉m.map (·.1):=λD=>by
 rw[List.findIdx?_eq_none_iff]at h
 have:=h k D
 simp at this
theorem y7t {t E:TypeId}(h:MapL V w g m)(hk:KeyLaw P K V)(hu:P.underlying t=some (.map K E))(k:κ)(v:Value) :
    ∃w',(Instr.mapUpdate t (.map<|some g) (V k) v).run P w=.ok () w'/\MapL V w' g (z4m m k v)/\Fr [g] w w'/\w'.heap.size=w.heap.size:=by
  obtain⟨D,c,h1,h2,a9,a6,a3⟩:=h
  have b1:=(l15.1 h1).1
  have a0:D.toList.map (·.key)=(m.map (·.1)).map V:=by
    have:=congrArg (List.map Prod.fst) h2
    simpa[l80,l103] using this
  have O:=hk.find k D.toList (m.map (·.1)) w a0
  have a2:∀o,(setObj g o).run P w=.ok () { w with heap:=w.heap.setIfInBounds g o }:=by intro o;simp[setObj,Sem.run,h1]
  have a7:∀o,Fr [g] w { w with heap:=w.heap.setIfInBounds g o }:=λo=>⟨rfl,rfl,rfl,sp0,λi _ hn=>by
    simp only
    rw[l74 (by intro e;subst e;simp at hn)]⟩
  have Z:∀o,({ w with heap:=w.heap.setIfInBounds g o }:World).heap[g]?=some o:=by intro o;simp[b1]
  have b3:D.toList.length=m.length:=by have:=congrArg List.length h2;simpa using this
  cases hf:(m.map (·.1)).findIdx? (λx=>decide (k=x)) with
  | none=>
    have ea:z4m m k v=m++[(k,v)]:=by unfold z4m;rw[hf]
    rw[ea]
    refine⟨_,?_,⟨_,_,Z<|.map (D.push { key:=V k,val:=v,born:=c })<|c+1,?_,?_,?_,?_⟩,a7 _,sp0⟩
    · rw[hf]at O
      simp only[Instr.mapUpdate,Sem.run_bind,run_underlying hu,Result.andThen_ok,z2x h1,hk.check,O,Option.bind_none,a2]
    · simp[h2]
    · rw[l33]
      exact l61.2 ⟨a9,sp0,λx hx y hy=>by
        simp at hy;subst hy;intro e;subst e;exact v4q hf hx⟩
    · rw[Array.toList_push,l33]
      exact l61.2 ⟨a6,sp0,λx hx y hy=>by
        simp at hy;subst hy
        obtain⟨e,he,rfl⟩:=l54.1 hx
        have:=a3 e he;omega⟩
    · intro e he
      rw[Array.toList_push]at he
      rcases l23.1 he with h|h
      · have:=a3 e h;omega
      · simp at h;subst h;exact Nat.lt_succ_self _
  | some i=>
    have hi:i<m.length:=by
      have:=l75.1 hf
      simpa using this.1
    have a1:i<D.toList.length:=by omega
    have a8:V k=(D.toList[i]).key:=by
      have b0:=List.findIdx?_eq_some_iff_getElem.1 hf
      obtain⟨b4,hp,_⟩:=b0
      have b2:k=(m.map (·.1))[i]:=by simpa using hp
      have e1:(D.toList.map (·.key))[i]?=((m.map (·.1)).map V)[i]?:=by rw[a0]
      simp only[l24,l10 a1,l10 hi,l58,l67]at e1
      rw[e1,b2];simp
    have ea:z4m m k v=m.modify i λp=>(p.1,v):=by unfold z4m;rw[hf]
    rw[ea]
    have I:(D.modify i λe=>{ e with key:=V k,val:=v }).toList.map (·.born)=D.toList.map (·.born):=by
      apply l59
      intro j
      simp only[l24]
      rw[l42,Array.getElem?_modify,l42]
      by_cases hj:i=j
      · subst hj;simp only[if_true];cases D[i]?<;>rfl
      · simp only[hj,if_false]
    refine⟨_,?_,⟨_,_,Z<|.map (D.modify i λe=>{ e with key:=V k,val:=v }) c,?_,by rw[y7w m];exact a9,by rw[I];exact a6,?_⟩,a7 _,sp0⟩
    · rw[hf]at O
      have a4:D[i]?=some D.toList[i]:=by rw[<-l42,l10 a1]
      simp only[Option.bind_some,l10 a1,l58]at O
      have a5:(Instr.keyThatStays (((D[i]?).map (·.key)).getD<|V k)<|V k).run P w=.ok (V k) w:=by
        rw[a4]
        simp only[l58,l63,<-a8,Instr.keyThatStays,hk.bits,if_true,Sem.run_pure]
      simp only[Instr.mapUpdate,Sem.run_bind,run_underlying hu,Result.andThen_ok,z2x h1,hk.check,O,a5,a2]
    · apply l59
      intro j
      have e2:=congrArg (·[j]?) h2
      simp only[l24]at e2 ⊢
      rw[l42,Array.getElem?_modify,l106]
      rw[l42]at e2
      by_cases hj:i=j
      · subst hj
        have e3:=l10 hi
        have a4:D[i]?=some D.toList[i]:=by rw[<-l42,l10 a1]
        rw[a4,e3]at e2 ⊢
        simp only[l58,l67,l102]at e2
        simp only[if_true,l58]
        rw[a8,e2.1];rfl
      · simp only[hj,if_false]
        rw[e2];simp
    · intro e he
      have:e.born∈D.toList.map (·.born):=by rw[<-I];exact l86 he
      obtain⟨x,hx,hb⟩:=l54.1 this
      rw[<-hb];exact a3 x hx
theorem x7b {t E:TypeId}{ty:TypeId}(h:MapL V w g m)(hk:KeyLaw P K V)(hu:P.underlying t=some (.map K E))(k:κ) :
    ∃w',(Builtin.delete_ #[t,K] ty #[.map (some g),V k]).run P w=.ok (.tuple #[]) w'/\MapL V w' g (z6c m k)/\Fr [g] w w'/\w'.heap.size=w.heap.size:=by
  obtain⟨O,c,h1,h2,a5,a2,a1⟩:=h
  have a6:=(l15.1 h1).1
  have a0:O.toList.map (·.key)=(m.map (·.1)).map V:=by
    have:=congrArg (List.map Prod.fst) h2
    simpa[l80,l103] using this
  have D:=hk.find k O.toList (m.map (·.1)) w a0
  have Z:∀o,(setObj g o).run P w=.ok () { w with heap:=w.heap.setIfInBounds g o }:=by intro o;simp[setObj,Sem.run,h1]
  have a3:∀o,Fr [g] w { w with heap:=w.heap.setIfInBounds g o }:=λo=>⟨rfl,rfl,rfl,sp0,λi _ hn=>by
    simp only
    rw[l74 (by intro e;subst e;simp at hn)]⟩
  have I:∀o,({ w with heap:=w.heap.setIfInBounds g o }:World).heap[g]?=some o:=by intro o;simp[a6]
  have a7:O.toList.length=m.length:=by have:=congrArg List.length h2;simpa using this
  cases hf:(m.map (·.1)).findIdx? (λx=>decide (k=x)) with
  | none=>
    have ea:z6c m k=m:=by unfold z6c;rw[hf]
    rw[ea]
    refine⟨_,?_,⟨_,_,I<|.map O c,h2,a5,a2,a1⟩,a3 _,sp0⟩
    rw[hf]at D
    simp[Builtin.delete_,run_underlying hu,z2x h1,hk.check,D,Z]
  | some i=>
    have ea:z6c m k=m.eraseIdx i:=by unfold z6c;rw[hf]
    rw[ea]
    have hi:i<m.length:=by
      have:=l75.1 hf
      simpa using this.1
    have a4:i<O.toList.length:=by omega
    have el:(O.eraseIdxIfInBounds i).toList=O.toList.eraseIdx i:=by
      unfold Array.eraseIdxIfInBounds
      rw[dif_pos (by simpa using a4),Array.toList_eraseIdx]
    refine⟨_,?_,⟨_,_,I<|.map (O.eraseIdxIfInBounds i) c,?_,?_,?_,?_⟩,a3 _,sp0⟩
    · rw[hf]at D
      simp only[Option.bind_some,l10 a4,l58]at D
      simp[Builtin.delete_,run_underlying hu,z2x h1,hk.check,D,Z]
    · rw[el,y2d,y2d,h2]
    · rw[y2d];exact List.Nodup.sublist (List.eraseIdx_sublist _ _) a5
    · rw[el,y2d];exact List.Nodup.sublist (List.eraseIdx_sublist _ _) a2
    · intro e he
      rw[el]at he
      exact a1 e<|(List.eraseIdx_sublist _ _).mem he
variable {a:Act} {n:Nat} {L:List (Nat×Value)} {ds:List Nat} {Q:Exit->Act->World->Prop} {C:World->Prop} {Qa:Act->Prop} {ops:Array Oper} {rest:List Oper}
variable {d:Nat} {ty:TypeId} {pos:String} {after:Array Edge} {x y z:Operand} {t E:TypeId} {k:κ} {v zv:Value}
theorem y7y (h:AgM ds a n L)(hx:ev L x=some (.map<|some g))(hy:ev L y=some (V k))(hz:ev L z=some v)(hm:MapL V w g m)(Z:KeyLaw P K V)(hu:P.underlying t=some (.map K E))
    (q:∀w',MapL V w' g (z4m m k v)->Fr [g] w w'->w'.heap.size=w.heap.size->∀a,AgM ds a n L->wpList P ops Q rest a w'):wpList P ops Q (⟨none,.mapUpdate t x y z,ty,pos,after,none⟩::rest) a w:=by
  obtain⟨w',hr,D,I,O⟩:=y7t hm Z hu k v
  exact z9o h U U (w':=w') (by simp[execOp,h.eval hx,h.eval hy,h.eval hz,hr])<|q w' D I O
theorem j2w {O:TypeId}(h:AgM ds a n L)(hx:ev L x=some (.map<|some g))(hy:ev L y=some (V k))(hm:MapL V w g m)(hk:KeyLaw P K V)(hu:P.underlying t=some (.map K E))(he:O=K)
    (q:∀w',MapL V w' g (z6c m k)->Fr [g] w w'->w'.heap.size=w.heap.size->∀a,AgM ds a n L->wpList P ops Q rest a w'):wpList P ops Q (⟨none,.call ⟨.builtin .delete,#[x,y],#[t,O]⟩,ty,pos,after,none⟩::rest) a w:=by
  subst he
  obtain⟨w',hr,Z,h2,h3⟩:=x7b (ty:=ty) hm hk hu k
  refine j8v h U U (w':=w') (v:=.tuple #[]) ?_<|q w' Z h2 h3
  have D:=h.eval hx
  have I:=h.eval hy
  rw[z2p];unfold builtin
  simp[D,I,hr]
theorem MapIt.fr {gi:Nat}{rem:List (κ×Value)}{cur:Option (κ×Value)}(h:MapIt V w gi g m rem cur)(hf:Fr S w w')(h1:g∉S)(h2:gi∉S):MapIt V w' gi g m rem cur:=by
 obtain⟨Z,c,D,I,k2,k3,k4,O,k6⟩:=h;exact⟨Z,c,D,(hf.block g (l15.1 I).1 h1).trans I,k2,k3,k4,(hf.block gi (l15.1 O).1 h2).trans O,k6⟩
theorem MapIt.ext {gi:Nat}{rem:List (κ×Value)}{cur:Option (κ×Value)}(h:MapIt V w gi g m rem cur)(hf:Fr [] w w'):MapIt V w' gi g m rem cur:=h.fr hf sp0 sp0
theorem MapIt.lt {gi:Nat}{rem:List (κ×Value)}{cur:Option (κ×Value)}(h:MapIt V w gi g m rem cur):gi<w.heap.size:=let ⟨_,_,_,_,_,_,_,k5,_⟩:=h;(l15.1 k5).1
theorem MapIt.ne {gi:Nat}{rem:List (κ×Value)}{cur:Option (κ×Value)}(h:MapIt V w gi g m rem cur):g≠gi:=λe=>by
 obtain⟨Z,c,I,O,_,_,_,D,_⟩:=h
 rw[<-e,O]at D;cases D
theorem u1e {I:Array MapEntry}{D:Array Nat}{e:MapEntry}{O Z:List MapEntry}(hn:(I.toList.map (·.born)).Nodup)(h:(leftOf I D).toList=O++e::Z):(leftOf I<|D.push e.born).toList=O++Z:=by
 have h2:(leftOf I<|D.push e.born).toList=(leftOf I D).toList.filter λx=>decide (x.born≠e.born):=by
  unfold leftOf;rw[Array.toList_filter,Array.toList_filter,List.filter_filter];congr 1;funext x;by_cases c1:x.born=e.born;simp[c1];by_cases c2:x.born∈D;simp[c1,c2];simp[c1,c2]
 have hs:((leftOf I D).toList.map (·.born)).Nodup:=by
  refine List.Nodup.sublist (List.Sublist.map _ ?_) hn;unfold leftOf;rw[Array.toList_filter];exact List.filter_sublist
 rw[h]at h2 hs;rw[h2,List.filter_append,l57];rw[l33,l32]at hs;obtain⟨n1,n2,n3⟩:=l61.1 hs;have n4:=l104.1 n2;have f1:O.filter (λx=>decide (x.born≠e.born))=O:=List.filter_eq_self.2 λx hx=>by
  simpa using n3 _ (l86 hx) e.born (l43 ..)
 have f2:Z.filter (λx=>decide (x.born≠e.born))=Z:=List.filter_eq_self.2 λx hx=>by
  have:x.born≠e.born:=λk=>n4.1 (by rw[<-k];exact l86 hx);simpa using this
 rw[f1,f2];simp
theorem u5k (hx:ev L x=some (.map<|some g))(hm:MapL V w g m)(hu:P.underlying t=some (.map K E))(hn:lbt d n)
    (q:∀gi w',gi=w.heap.size->MapIt V w' gi g m m none->Fr [] w w'->w'.heap.size=gi+1->WL P ops Q rest n ds w' ((d,pta gi)::L)):WL P ops Q (⟨some d,.range t x,ty,pos,after,none⟩::rest) n ds w L:=λa h=>by
  obtain⟨I,c,O,h2,h3,h4,h5⟩:=hm
  have D:=(l15.1 O).1
  refine z1z h U hn (w':=w.alloc<|.mapIter (some g) c #[] c) (v:=(pta w.heap.size)) ?_<|q _ _ U ⟨I,c,#[],?_,h2,h4,h5,heap_alloc_new w _,?_,λp hp=>by cases hp⟩ (Fr.alloc [] w _) sp0 
  · have Z:=h.eval hx
    simp only[execOp,Z,Sem.run_bind,run_range_map w t K E g I c hu O,Result.andThen_ok,Sem.run_pure]
  · first|exact(heap_alloc_old w _ D).trans O|exact(heap_alloc_old w _ _ D).trans O
  · rw[<-h2]
    have:(leftOf I #[]).toList=I.toList:=by unfold leftOf;rw[Array.toList_filter];simp
    rw[this]
theorem j6g {gi:Nat}{rem:List (κ×Value)}{cur:Option (κ×Value)}(hx:ev L x=some (pta gi))(hi:MapIt V w gi g m rem cur)(hn:lbt d n)
    (qt:∀(r1:List (κ×Value)) (p:κ×Value) (r2:List (κ×Value)),rem=r1++p::r2->∀w',MapIt V w' gi g m (r1++r2) (some p)->Fr [gi] w w'->w'.heap.size=w.heap.size->WL P ops Q rest n ds w' ((d,.tuple #[.bool true,V p.1,p.2])::L))
    (qf:rem=[]->WL P ops Q rest n ds w ((d,.tuple #[.bool false])::L)):WL P ops Q (⟨some d,.next x false,ty,pos,after,none⟩::rest) n ds w L:=λa h=>by
  have a5:=hi.ne
  obtain⟨I,c,D,h1,h2,h3,h4,h5,h6,h7⟩:=hi
  have a4:=(l15.1 h5).1
  have a1:=h.eval hx
  rcases run_next_at (P:=P) w ty gi g c c D I c h5 h1 h4 (l20 _) with ⟨e0,hr⟩|⟨e,he,w1,hw,hr⟩
  · refine z1z h U hn (w':=w) (v:=.tuple #[.bool false]) (by simp only[execOp,a1,Sem.run_bind,hr,Result.andThen_ok,Sem.run_pure]) (qf ?_)
    have:(leftOf I D).toList=[]:=l105.1 (by rw[l113];exact e0)
    rw[this]at h6
    exact List.map_eq_nil_iff.1 h6.symm
  · obtain⟨l1,l2,hl⟩:=List.append_of_mem he
    rw[hl,l33,l32]at h6
    obtain⟨r1,r',a7,e1,e2⟩:=List.map_eq_append_iff.1 h6.symm
    obtain⟨p,r2,a8,e3,e4⟩:=List.map_eq_cons_iff.1 e2
    obtain⟨ek,O⟩:=Prod.mk.inj e3
    have a2:e∈I.toList:=by
      have:e∈(leftOf I D).toList:=he
      unfold leftOf at this;rw[Array.toList_filter]at this;exact(l99.1 this).1
    have a3:Fr [] w w1:=by rcases hw with rfl|rfl;exact l12 _ _;exact Fr.drew _ _
    have a0:w1.heap.size=w.heap.size:=by rcases hw with rfl|rfl<;>rfl
    have Z:Fr [gi] w (ChangeMaps.setBlock w1 gi<|.mapIter (some g) c (D.push e.born) c):=
      (a3.weak sp0).step (S':=[gi]) ⟨rfl,rfl,rfl,by simp[ChangeMaps.setBlock],λk _ hk=>by
        simp only[ChangeMaps.setBlock]
        rw[l74 (by intro e;subst e;simp at hk)]⟩ (by intro k hk _;exact hk)
    refine z1z h U hn (w':=ChangeMaps.setBlock w1 gi<|.mapIter (some g) c (D.push e.born) c) (v:=.tuple #[.bool true,e.key,e.val]) (by simp only[execOp,a1,Sem.run_bind,hr,Result.andThen_ok,Sem.run_pure]) ?_
    rw[<-ek,<-O]
    refine qt r1 p r2 (by rw[a7,a8]) _ ⟨I,c,D.push e.born,?_,h2,h3,h4,?_,?_,λp' a6=>?_⟩ Z (by simp[ChangeMaps.setBlock,a0])
    · exact(Z.block g (l15.1 h1).1 (by simpa using a5)).trans h1
    · simp[ChangeMaps.setBlock,a0,a4]
    · rw[u1e h3 hl,l33,l33,<-e1,<-e4]
    · cases a6
      exact⟨e,a2,D,rfl,ek.symm,O.symm⟩
theorem u2k {gi:Nat}{rem:List (κ×Value)}{p:κ×Value}(hx:ev L x=some (pta gi))(hi:MapIt V w gi g m rem (some p))(hn:lbt d n)
    (q:WL P ops Q rest n ds w ((d,.tuple #[V p.1,p.2])::L)):WL P ops Q (⟨some d,.entry x,ty,pos,after,none⟩::rest) n ds w L:=λa h=>by
  obtain⟨es,c,O,h1,h2,h3,h4,h5,h6,h7⟩:=hi
  obtain⟨e,he,s',rfl,Z,D⟩:=h7 p U
  have I:=h.eval hx
  refine z1z h U hn (w':=w) (v:=.tuple #[V p.1,p.2]) ?_ q
  rw[<-Z,<-D]
  simp only[execOp,I,Sem.run_bind,run_entry_at (P:=P) w gi g c s' es c e h5 h1 he h3,Result.andThen_ok,Sem.run_pure]
end
end Go.Lw
namespace Go.G08
open Go.Lw Go.G21
section
variable {κ:Type} [DecidableEq κ] {V:κ->Value} {w w':World} {g:Nat} {m:List (κ×Value)} {S:List Nat}
theorem _root_.Go.Lw.MapL.tf {T:Nat}(h:MapL V w g m)(hf:Fr S w w')(I:OffT w T S):MapL V w' g m:=h.fr hf λO=>by
 obtain⟨T',cs,D,_⟩:=I g O
 exact h.f.ne_blk D U
end
theorem BdO.tf {D I base:Nat}{w w':World}{q:BdQ}{S:List Nat}(h:BdO D I base w q)(hf:Fr S w w')(hS:OffT w D S)(Z:OffT w I S):BdO D I base w' q:=
 ⟨⟨z2a h.f.1 hf hS,λp O=>z2a (h.f.2 p O) hf Z⟩,⟨z2a h.b.1 hf hS,λp O=>z2a (h.b.2 p O) hf Z⟩⟩
structure KpM (Ts:List Nat) (g:Nat) (w w':World):Prop where
  size:w.heap.size<=w'.heap.size
  block:∀k,k<w.heap.size->k≠g->(∀(T:Nat) (cs:List Value),Blk w k T cs->T∉Ts)->w'.heap[k]?=w.heap[k]?
theorem KpM.refl (D:List Nat)(g:Nat)(w:World):KpM D g w w:=⟨l20 _,λ_ _ _ _=>rfl⟩
theorem KpM.trans {D:List Nat}{g:Nat}{a b c:World}(h:KpM D g a b)(I:KpM D g b c):KpM D g a c:=
 ⟨l37 h.size I.size,λk hk Z O=>by
  have e:=h.block k hk Z O
  rw[<-e]
  exact I.block k (l77 hk h.size) Z λT cs hb=>O T cs<|e.symm.trans hb⟩
theorem KpM.of {D:List Nat}{g:Nat}{w w':World}{S:List Nat}(hf:Fr S w w')(I:∀k∈S,k=g\/∃(T:Nat) (cs:List Value),Blk w k T cs/\T∈D):KpM D g w w':=
 ⟨hf.size,λk hk hg O=>hf.block k hk λhm=>by
  rcases I k hm with e|⟨T,cs,Z,hi⟩
  ·exact hg e
  exact O T cs Z hi⟩
theorem v6i {w:World}{k T T':Nat}{cs cs':List Value}(h:Blk w k T cs)(D:Blk w k T' cs'):T=T':=by
 have e:=(show w.heap[k]?=some (.cells cs.toArray T (0,0)) from h).symm.trans (show w.heap[k]?=some (.cells cs'.toArray T' (0,0)) from D);simp only[l67,Obj.cells.injEq]at e;exact e.2.1
theorem KpM.blk {D:List Nat}{g:Nat}{w w':World}(h:KpM D g w w'){k T:Nat}{cs:List Value}(hb:Blk w k T cs)(hg:k≠g)(Z:T∉D):Blk w' k T cs:=
 (h.block k hb.lt hg λT' I O=>by rw[<-v6i hb O];exact Z).trans hb
theorem KpM.map {κ:Type}[DecidableEq κ]{V:κ->Value}{em:List (κ×Value)}{I:List Nat}{g k:Nat}{w w':World}(h:KpM I g w w')(hb:MapL V w k em)(hg:k≠g):MapL V w' k em:=by
 obtain⟨O,c,D,Z⟩:=hb;refine⟨O,c,(h.block k (l15.1 D).1 hg λT cs hb=>?_).trans D,Z⟩;have e:=(show w.heap[k]?=some (.cells cs.toArray T (0,0)) from hb).symm.trans D;cases e
theorem KpM.mapF {κ:Type}[DecidableEq κ]{V:κ->Value}{f:κ->Option Value}{I:List Nat}{g k:Nat}{w w':World}(h:KpM I g w w')(hb:MapF V w k f)(hg:k≠g):MapF V w' k f:=by
 obtain⟨O,c,m,D,Z⟩:=hb;refine⟨O,c,m,(h.block k (l15.1 D).1 hg λT cs hb=>?_).trans D,Z⟩;have e:=(show w.heap[k]?=some (.cells cs.toArray T (0,0)) from hb).symm.trans D;cases e
theorem y8d {α:Type}{E:Enc α}{T base g:Nat}{w:World}{v:Value}{ys:List α}{D:List Nat}(h:Lw.Own E T base w v ys)(I:T∈D):∀k∈z0u v,k=g\/∃(T:Nat) (cs:List Value),Blk w k T cs/\T∈D:=λk Z=>by
 obtain⟨cs,O⟩:=z9z h k Z
 exact .inr ⟨T,cs,O,I⟩
theorem u7r {g k T:Nat}{w:World}{cs:List Value}{D:List Nat}(h:Blk w k T cs)(O:T∈D):∀k'∈[k],k'=g\/∃(T:Nat) (cs:List Value),Blk w k' T cs/\T∈D:=λk' I=>by
 rw[l11]at I;subst I
 exact .inr ⟨T,cs,h,O⟩
structure MA where
  gk:Nat
  gy:Nat
  cy:Nat
  gt:Nat
  ct:Nat
  gc:Nat
  wk:World
abbrev MA.YV (a:MA):Value:=.slice (some ⟨a.gy,0,none⟩) 6 a.cy
abbrev MA.TV (a:MA):Value:=.slice (some ⟨a.gt,0,none⟩) 6 a.ct
structure MQ where
  rk:Int
  q:BdQ
  ys:List YQ
  ts:List TQ
  cr:List Cx
  fa:SV
  fl:List LId
abbrev MQ.p (m:MQ):MSt:=⟨m.rk,m.q.p,m.ys.map YQ.p,z2n m.ts,m.cr,m.fl⟩
abbrev u7n (a:MA)(m:MQ):List Value:=[.int .i64 m.rk,.slice m.q.f.1 m.q.f.2.1 m.q.f.2.2,.slice m.q.b.1 m.q.b.2.1 m.q.b.2.2,a.YV,a.TV,.map (some a.gc),.slice m.fa.1 m.fa.2.1 m.fa.2.2]
def crK (p:LId×LId):Value:=.agg #[.int .u8 p.1.y,.int .i64 p.1.n,.int .u8 p.2.y,.int .i64 p.2.n]
def crM (l:List Cx):List ((LId×LId)×Value):=l.map λc=>((c.a,c.b),.int .i64 c.n)
structure MtOk (τ:TyK) (Mt:Nat):Prop where
  o:τ.Ok
  y:Mt≠τ.Y
  t:Mt≠τ.T
  l:Mt≠τ.L
  i:Mt≠τ.I
  p:Mt≠τ.P
  s:Mt≠τ.S
abbrev u1n (τ:TyK)(Mt:Nat):List Nat:=[Mt,τ.Y,τ.T,τ.L,τ.I]
structure FrM (τ:TyK) (Mt:Nat) (wS:World) (a:MA) (w:World):Prop where
  fr:Fr [] wS w
  kp:KpM (u1n τ Mt) a.gc a.wk w
theorem FrM.size {τ:TyK}{Mt:Nat}{wS w:World}{a:MA}(h:FrM τ Mt wS a w):wS.heap.size<=w.heap.size:=h.fr.size
theorem FrM.next {τ:TyK}{Mt:Nat}{wS w w':World}{a:MA}(h:FrM τ Mt wS a w)(hf:Fr [] w w'):FrM τ Mt wS a w':=⟨h.fr.next hf,h.kp.trans<|KpM.of hf sp0⟩
theorem FrM.step {τ:TyK}{Mt:Nat}{wS w w':World}{a:MA}{S:List Nat}(h:FrM τ Mt wS a w)(hf:Fr S w w')(I:∀k∈S,k=a.gc\/∃(T:Nat) (cs:List Value),Blk w k T cs/\T∈u1n τ Mt)(D:∀k∈S,k<wS.heap.size->k∈([]:List Nat)):FrM τ Mt wS a w':=⟨h.fr.step hf D,h.kp.trans<|KpM.of hf I⟩
structure MkM (τ:TyK) (Mt:Nat) (wS:World) (a:MA) (w:World) (m:MQ):Prop where
  k:Blk w a.gk Mt (u7n a m)
  b:BdO τ.S τ.I wS.heap.size w m.q
  y:YsO τ wS.heap.size w a.YV m.ys
  t:TbO τ wS.heap.size w a.TV m.ts
  c:MapL crK w a.gc (crM m.cr)
  f:Lw.Own z1g τ.I wS.heap.size w (slv m.fa) m.fl
  fb:∀s∈m.q.fs++m.q.bs,∀k∈z0u (slv s.1),k∉z0u (slv m.fa)
  ft:∀i,i<6->∀q∈(m.ts.getD i tq0).2,∀k∈z0u (slv q.th),k∉z0u (slv m.fa)
  ly:m.ys.length=6
  lt:m.ts.length=6
  gk:wS.heap.size<=a.gk
  gc:wS.heap.size<=a.gc
  fr:FrM τ Mt wS a w
def MRet (τ:TyK)(Mt:Nat)(wS:World)(a:MA)(x:MR)(r:Value)(w':World):Prop:=
  FrM τ Mt wS a w'/\match x with
    | .error e=>r=.int .i64 e/\e≠0
    | .ok p=>r=.int .i64 0/\∃m,MkM τ Mt wS a w' m/\m.p=p
section
variable {τ:TyK} {Mt:Nat} {wS w w':World} {a:MA} {m:MQ} {j:Nat} {y:YQ}
theorem MRet.err {x:MR}{e:Int}{w':World}(I:x=.error e)(D:e≠0)(hf:FrM τ Mt wS a w'):MRet τ Mt wS a x (.int .i64 e) w':=by subst I;exact⟨hf,rfl,D⟩
theorem MRet.ok {x:MR}{m:MQ}{w':World}(D:x=.ok m.p)(h:MkM τ Mt wS a w' m):MRet τ Mt wS a x (.int .i64 0) w':=by subst D;exact⟨h.fr,rfl,m,h,rfl⟩
theorem MkM.ext (h:MkM τ Mt wS a w m)(hf:Fr [] w w'):MkM τ Mt wS a w' m:=
 ⟨h.k.ext hf,h.b.ext hf,h.y.ext hf,h.t.ext hf,h.c.fr hf sp0,h.f.ext hf,h.fb,h.ft,h.ly,h.lt,h.gk,h.gc,h.fr.next hf⟩
theorem MkM.yarn (h:MkM τ Mt wS a w m)(D:MtOk τ Mt)(O:j<6)(ho:Lw.Own z3l τ.Y wS.heap.size w' a.YV (m.ys.set j y))(hf:Fr [a.gy] w w')(hp:Lw.Own z2i τ.P wS.heap.size w (slv y.pe) y.pes):MkM τ Mt wS a w' { m with ys:=m.ys.set j y }:=by
 have o:∀T,T≠τ.Y->OffT w T [a.gy]:=λT I=>z7c h.y.out<|l50 I;refine⟨y4f h.k hf<|o _ D.y,BdO.tf h.b hf (o _<|l50 D.o.ys)<|o _<|l50 D.o.yi,h.y.put (by rw[h.ly];exact O) D.o ho hf hp,h.t.tf hf (o _<|l50 D.o.yt) (o _<|l50 D.o.yl) (o _<|l50 D.o.yi)<|o _<|l50 D.o.yp,h.c.tf hf<|o _ D.y,z2a h.f hf<|o _<|l50 D.o.yi,h.fb,h.ft,by rw[l19];exact h.ly,h.lt,h.gk,h.gc,h.fr.step hf (y8d h.y.out t43) λk Z a0=>?_⟩;have:=(h.y.out.blk k Z).1;omega
theorem MkM.beds {q:BdQ}{r:Int}(h:MkM τ Mt wS a w m)(D:MtOk τ Mt)(hq:BdO τ.S τ.I wS.heap.size w q)(O:Blk w' a.gk Mt (u7n a { m with q:=q,rk:=r }))(hf:Fr [a.gk] w w')(I:∀s∈q.fs++q.bs,∀k∈z0u (slv s.1),k∉z0u (slv m.fa)):MkM τ Mt wS a w' { m with q:=q,rk:=r }:=by
 have o:∀T,T≠Mt->OffT w T [a.gk]:=λT Z=>OffT.one h.k<|l50 Z;refine⟨O,BdO.tf hq hf (o _<|l50 D.s)<|o _<|l50 D.i,h.y.tf hf (o _<|l50 D.y)<|o _<|l50 D.p,h.t.tf hf (o _<|l50 D.t) (o _<|l50 D.l) (o _<|l50 D.i)<|o _<|l50 D.p,h.c.tf hf<|o _<|l50 D.y,z2a h.f hf<|o _<|l50 D.i,I,h.ft,h.ly,h.lt,h.gk,h.gc,h.fr.step hf (u7r h.k t43) λk O a0=>?_⟩;rw[l11]at O;have:=h.gk;omega
theorem x3m {Z I:Nat}{q:BdQ}{v:Value}{ys:List LId}{T base b:Nat}(O:BdO Z I b w' q)(hv:Lw.Own z1g T base w v ys)(hb:w.heap.size<=b):∀s∈q.fs++q.bs,∀k∈z0u (slv s.1),k∉z0u v:=λs hs k D hb=>by
 have:=(hv.blk k hb).2
 rcases l23.1 hs with e|e
 ·have:=((O.f.2 s e).blk k D).1;omega
 have:=((O.b.2 s e).blk k D).1;omega
theorem MkM.fall {w2:World}{u:SV}{l:List LId}(h:MkM τ Mt wS a w m)(D:MtOk τ Mt)(a0:τ.I≠τ.P)(h1:Lw.Own z1g τ.I wS.heap.size w' (slv u) l)(I:Fr (z0u<|slv m.fa) w w')(hx:∀k∈z0u (slv u),k∈z0u (slv m.fa)\/w.heap.size<=k)
    (O:Blk w2 a.gk Mt (u7n a { m with fa:=u,fl:=l })) (f2:Fr [a.gk] w' w2):MkM τ Mt wS a w2 { m with fa:=u,fl:=l }:=by
  have o1:∀T,T≠τ.I->OffT w T (z0u<|slv m.fa):=λT hT=>z7c h.f<|l50 hT
  have k1:=y4f h.k I<|o1 _ D.i
  have Z:∀T,T≠Mt->OffT w' T [a.gk]:=λT hT=>OffT.one k1<|l50 hT
  have dx:∀ {v:Value} {xs:List LId},Lw.Own z1g τ.I wS.heap.size w v xs->(∀k∈z0u v,k∉z0u (slv m.fa))->∀k∈z0u v,k∉z0u (slv u):=λho hd k O hb=>by
    rcases hx k hb with e|e
    · exact hd k O e
    · have:=(ho.blk k O).2;omega
  have fi:∀ {v:Value} {xs:List LId},Lw.Own z1g τ.I wS.heap.size w v xs->(∀k∈z0u v,k∉z0u (slv m.fa))->Lw.Own z1g τ.I wS.heap.size w2 v xs:=λho hd=>z2a (ho.fr I λk O hb=>hd k hb O) f2<|Z _<|l50 D.i
  have a2:∀s∈m.q.fs,Lw.Own z1g τ.I wS.heap.size w2 (slv s.1) s.2:=λs hs=>fi (h.b.f.2 s hs)<|h.fb s<|l23.2<|.inl hs
  have a1:∀s∈m.q.bs,Lw.Own z1g τ.I wS.heap.size w2 (slv s.1) s.2:=λs hs=>fi (h.b.b.2 s hs)<|h.fb s<|l23.2<|.inr hs
  refine⟨O,⟨⟨z2a (z2a h.b.f.1 I<|o1 _ D.o.si) f2<|Z _<|l50 D.s,a2⟩,⟨z2a (z2a h.b.b.1 I<|o1 _ D.o.si) f2<|Z _<|l50 D.s,a1⟩⟩,
    (h.y.tf I (o1 _ D.o.yi)<|o1 _<|l50 a0).tf f2 (Z _<|l50 D.y)<|Z _<|l50 D.p,
    ⟨z2a (z2a h.t.out I<|o1 _ D.o.ti) f2<|Z _<|l50 D.t,λi hi=>z2a (z2a (h.t.ins i hi) I<|o1 _ D.o.li) f2<|Z _<|l50 D.l,h.t.off,λi hi q hq=>⟨fi (h.t.lps i hi q hq).1<|h.ft i (by rw[<-h.lt];exact hi) q hq,z2a (z2a (h.t.lps i hi q hq).2 I<|o1 _<|l50 a0) f2<|Z _<|l50 D.p⟩⟩,
    (h.c.tf I<|o1 _ D.i).tf f2<|Z _<|l50 D.y,z2a h1 f2<|Z _<|l50 D.i,λs hs=>?_,λi hi q hq=>dx (h.t.lps i (by rw[h.lt];exact hi) q hq).1<|h.ft i hi q hq,h.ly,h.lt,h.gk,h.gc,(h.fr.step I (y8d h.f t43) λk O a3=>?_).step f2 (u7r k1 t43) λk O a3=>?_⟩
  · rcases l23.1 hs with e|e
    · exact dx (h.b.f.2 s e)<|h.fb s hs
    · exact dx (h.b.b.2 s e)<|h.fb s hs
  · have:=(h.f.blk k O).1;omega
  · rw[l11]at O;have:=h.gk;omega
theorem MkM.mark (h:MkM τ Mt wS a w m):MkM τ Mt wS { a with wk:=w } w m:=⟨h.k,h.b,h.y,h.t,h.c,h.f,h.fb,h.ft,h.ly,h.lt,h.gk,h.gc,⟨h.fr.fr,KpM.refl _ _ _⟩⟩
theorem MkM.unmark (h:MkM τ Mt wS { a with wk:=w } w' m)(D:FrM τ Mt wS a w):MkM τ Mt wS a w' m:=⟨h.k,h.b,h.y,h.t,h.c,h.f,h.fb,h.ft,h.ly,h.lt,h.gk,h.gc,⟨h.fr.fr,D.kp.trans h.fr.kp⟩⟩
def u6r (x:MR):Int:=match x with
  | .error e=>e
  | .ok _=>0
theorem MRet.split {x:MR}{r:Value}(h:MRet τ Mt wS a x r w'):r=.int .i64 (u6r x)/\FrM τ Mt wS a w'/\∃O,u6r x=0->MkM τ Mt wS a w' O/\x=.ok O.p:=by
 obtain⟨I,D⟩:=h;cases x with
 | error e=>exact⟨D.1,I,⟨0,⟨sv0,sv0,[],[]⟩,[],[],[],sv0,[]⟩,λZ=>absurd Z D.2⟩
 | ok p=>exact⟨D.1,I,D.2.choose,λ_=>⟨D.2.choose_spec.1,congrArg Except.ok D.2.choose_spec.2.symm⟩⟩
theorem y0m {x:MR}(h:u6r x≠0):x=.error (u6r x):=by cases x with
 | error e=>rfl
 | ok p=>exact absurd U h
theorem y6z (b n r:Int):-400<=z2f b n r/\z2f b n r<=400:=by
 unfold z2f;split;omega;rename_i h;have D:z4d b n=0:=l16.1 λe=>h<|.inl e;have I:-4<=r/\r<=4:=l16.1 λe=>h<|.inr e;have:=z2t D;split<;>omega
def OwnIf {α:Type}(c:Prop)(E:Enc α)(T base:Nat)(w:World)(v:Value)(ys:List α):Prop:=c->Lw.Own E T base w v ys
theorem OwnIf.fr {α:Type}{c:Prop}{E:Enc α}{T base:Nat}{w w':World}{v:Value}{ys:List α}{S:List Nat}(h:OwnIf c E T base w v ys)(hf:Fr S w w')(hn:c->∀k∈S,k∉z0u v:=by simp[z0u]<;>omega):OwnIf c E T base w' v ys:=λD=>(h D).fr hf<|hn D
theorem OwnIf.ext {α:Type}{c:Prop}{E:Enc α}{T base:Nat}{w w':World}{v:Value}{ys:List α}(h:OwnIf c E T base w v ys)(hf:Fr [] w w'):OwnIf c E T base w' v ys:=λD=>(h D).ext hf
theorem k1i (m:MQ)(y:Int):m.p.y y=(m.ys.getD (y-1).toNat yq0).p:=by
 unfold MSt.y;rw[List.getD,List.getD,l24];cases m.ys[(y-1).toNat]?<;>rfl
theorem y1n {y:Int}(m:MQ)(q:YQ)(D:(y-1).toNat=j):{ m with ys:=m.ys.set j q }.p=m.p.setY y q.p:=by
 subst D;unfold MSt.setY MQ.p;simp only[l124]
end
end Go.G08
namespace Go.Proofs.YtlfdhllfmoplgaaGreatDoor
open Go.Lw Go.G21 Go.G08 _root_.Go.Proofs.Tryz
theorem x2v (q:YQ)(w0:World)(hp:Sl z2i w0 (slv q.pe) q.pes):Rets prog 128 #[yvv q] w0 λr w'=>∃q':YQ,r=.tuple #[yvv q',.int .i64 (lvE q.p)]/\(lvE q.p=0->q'=⟨false,0,q.ct,false,sv0,[]⟩)/\Fr [] w0 w':=by
 have a4:=z2c hp;have a1:=hp.len_le;unfold maxLen at a1;refine we [(0,yvv q)] func128 U ntmps128 U (.cons U .nil) ?_;have a0:=hp;refine sr<|bx U<|λg1 w1 a2 I q1 z1=>(al z6g U<|λg2 w2 a3 D q2 z2=>(asg U<|nn<|sq<|sr ?_));have I:=I.ext q2;refine z0k U I z3k ?_;have hp:=a0.ext<|q1.n1 q2;refine cl (ev1 U) k2m (y0a q _ hp) U ?_;rintro _ w3 ⟨rfl,Z⟩;refine asg U<|nn<|sr<|mv U U<|ne' U<|nn<|cd U (λc0=>?_)<|λc0=>?_;refine sr<|z1u (cs:=[_,_,_,_,_]) z0f y0e z0r U ?_;refine mv U U ?_;have D:=D.ext Z;refine z0i (vs:=[_,_,_,_,_]) U D z3m<|λw4 D q4 z4=>(asg U<|nn<|rt<|tr<|rCT results128 U D z3k U ?_);have O:lvE q.p=ynE q.p:=by unfold lvE;rw[if_pos c0]
 exact⟨_,rfl,yq0,by rw[O];rfl,(λh=>absurd h (by rw[O];exact c0)),(q1.z3 q2 Z q4)⟩;refine sk<|tn<|sq<|sr<|fad U z8z ?_;have I:=I.ext Z;refine z0j U I U na4<|nt' U<|nn<|cd U (λc1=>?_)<|λc1=>?_;refine sr<|z1u (cs:=[_,_,_,_,_]) z0f y0e z0r U ?_;have D:=D.ext Z;refine z0i (vs:=[_,_,_,_,_]) U D z3m<|λw5 D q5 z5=>(asg U<|nn<|rt<|tr<|rCT results128 U D z3k U ?_);have O:lvE q.p=12:=by unfold lvE;rw[if_neg c0,if_pos (by simpa using c1)]
 exact⟨_,rfl,yq0,by rw[O];rfl,(λh=>absurd h (by rw[O];decide)),(q1.z3 q2 Z q5)⟩;refine sk<|tn<|sr<|fad U z8p<|z0j U I U na3<|z1u (cs:=[_,_,_,_,_]) (ev1 U) y0e (z0g U z0r) U ?_;have D:=D.ext Z;refine z0i (vs:=[_,_,_,_,_]) U D z3m<|λw6 D q6 z6=>(asg U<|nn<|rt<|rCT results128 U D z3k U ?_);have O:lvE q.p=0:=by unfold lvE;rw[if_neg c0,if_neg (by simpa using c1)]
 exact⟨_,rfl,⟨false,0,q.ct,false,sv0,[]⟩,by rw[O];rfl,(λ_=>rfl),(q1.z3 q2 Z q6)⟩
theorem j8w (v:Value)(l:List Int)(w0:World)(I:Sl Enc.i64 w0 v l)(hl:l.length<=1000):Rets prog 137 #[v] w0 λr w'=>r=.int .i64 (orZ l)/\Fr [] w0 w':=by
 obtain⟨A,c,rfl,a1,hM,hA⟩:=id I;clear hA;unfold maxLen at hM;refine we [(0,.slice A l.length c)] func137 U ntmps137 U (.cons U .nil) ?_;have Z:=I;refine sr<|asg U<|nn<|sr<|asg U<|nn<|sq<|sr<|mv U U<|lnS U underlying22<|mv U U<|nn<|bl<|lpK (ι:=Nat) (ll3 3 6 7) (λi=>[(8,.int .i64 (i:Int))]) (λi w'=>Fr [] w0 w'/\i<=l.length/\∀j,j<i->l.getD j 0=0) (λi=>l.length-i) 0 (csu U) ⟨l12 _ _,⟨l17 _,λj h=>absurd h oo⟩⟩ ?_;rintro i w1 ⟨O,⟨hi,hz⟩⟩;refine kpC (ll4 3 6 7 8) (csu U)<|sr<|lt' U<|nn<|sq<|cd U (λc0=>?_)<|λc0=>?_;refine sk<|tn<|sq<|bl<|sr ?_;have I:=Z.ext O;refine z1b (0) U I U y0j z1j<|λa0 D=>?_;refine z1c U (D _ I) na3<|asg U<|nn<|sr<|mv U U<|mv U U<|ne' U<|nn<|cd U (λc1=>?_)<|λc1=>?_;refine sr<|mv U U<|asg U<|kpL (ll1 2) (csu U)<|nn<|rt<|rb<|tr<|tr<|rb<|tr<|r1 results137 U ?_;exact⟨_,rfl,congrArg (Value.int .i64) (v4w oo hz oo).symm,O⟩;refine sk<|bn'<|tn<|rg<|z0v U (wi6 oo)<|mv U U<|nl ?_;exact lpE (i+1) (csu U) ⟨O,⟨oo,λj h=>by
  by_cases e:j=i;subst e;omega;exact hz j oo⟩⟩ oo
 obtain rfl:i=l.length:=by omega
 refine ex<|te<|te<|xh<|tn<|sr<|mv U U<|asg U<|kpL (ll1 2) (csu U)<|nn<|rt<|r1 results137 U ?_;exact⟨_,rfl,congrArg (Value.int .i64) (x0j hz).symm,O⟩
theorem y2k (x1 x2:LId)(w0:World):Rets prog 76 #[ivv x1,ivv x2] w0 λr w'=>r=.int .i64 (z6m x1 x2)/\Fr [] w0 w':=by
 refine we [(0,ivv x1),(1,ivv x2)] func76 U ntmps76 U (.c2 U U)<|sr<|bx U<|λg2 w1 a3 O q1 z1=>(bx U<|λg3 w2 a4 Z q2 z2=>(asg U<|nn<|sq ?_));intro a h;refine z0h none (λwb w'=>Fr [] wb w') z2r ?_;intro w3 q3;have O:=O.ext<|q2.n1 q3;have Z:=Z.ext q3;have hC:Fr [] w3 w3:=l12 _ _;have D:=O;have I:=Z;refine z0c 0 h U z9b U λa h=>z0m 1 h U (λ_ hw=>D.ext hw) U na5 U λa h=>z0c 2 h U z9b U λa h=>z0m 3 h U (λ_ hw=>I.ext hw) U na5 U λa h=>z0c 5 h U y1b U λa h=>z0m 6 h U (λ_ hw=>D.ext hw) U na3 U λa h=>z0c 7 h U y1b U λa h=>z0m 8 h U (λ_ hw=>I.ext hw) U na3 U λa h=>z0d 4 U<|z0n h (z0a U<|z0a U z0f) (mkC func138) (j7r _ _ _) ?_;rintro _ w4 ⟨rfl,q4⟩ a h;have hC:=hC.next q4;refine z0b<|z0d 9 U<|z0n h (z0a U<|z0a U z0f) (mkC func122) (v7y _ _ _) ?_;rintro _ w5 ⟨rfl,q5⟩ a h;have O:=O.ext<|q4.n1 q5;have Z:=Z.ext<|q4.n1 q5;have hC:=hC.next q5;refine z0b<|z0d 10 U<|z2b ([y1c x1.y x2.y,y1c x1.n x2.n]) h (z0a U<|z0a U z0f) U y0j λa1 w6 hg a2 q6 hz a h=>?_;have a0:g2<a1:=by have:=O.lt;omega
 have a0:g3<a1:=by have:=Z.lt;omega
 have hC:=hC.next q6;refine z0b<|z0d 11 U<|z0n h (z0a U z0f) (mkC func137) (j8w _ [y1c x1.y x2.y,y1c x1.n x2.n] _ a2.sl sp0) ?_;rintro _ w7 ⟨rfl,q7⟩ a h;have hC:=hC.next q7;refine z0b<|z0d 12 U<|z0q h U λa h=>?_;refine z0b<|z0p ?_;clear hC D I;refine bk (h.sub (L':=ll1 4)<|csu U)<|tn<|rt<|r1 results76 U ?_;exact⟨_,rfl,congrArg (Value.int .i64)<|v0s x1 x2,(q1.n6 q2 q3 q4 q5 q6 q7)⟩
theorem y5d:ElemOf prog 26 104 z3l 56:=ElemOf.mk' (z:=(.agg #[.bool false,.int .i64 0,.int .i64 0,.bool false,.slice none 0 0])) underlying26 kr U
theorem z3r:z1d prog 145 2 3:=λ_ _=>kr
theorem y4s:z2d prog 26:=λ_=>kr
abbrev τd:TyK:=⟨104,123,155,64,107,30,32⟩
theorem τd_ok:τd.Ok:=by constructor<;>decide
theorem mtd:MtOk τd 145:=⟨τd_ok,dd,dd,dd,dd,dd,dd⟩
theorem k2a (wS:World)(ka:MA)(m:MQ)(o:MOp)(w0:World)(hM:MkM τd 145 wS ka w0 m)(hy:1<=o.y/\o.y<=6):Rets prog 66 #[pta ka.gk,opV o] w0 λr w'=>MRet τd 145 wS ka (inM m.p o) r w':=by
 have d3:=hM.fr.size;have hk:=hM.k;have c1:=hk.lt;have d0:=hM.ly;have c9:=hM.lt;have b8:=(hM.y.out.blk ka.gy t10).2;obtain⟨j,hj,d1⟩:∃j:Nat,j<6/\o.y=(j:Int)+1:=⟨(o.y-1).toNat,oo,oo⟩;have b1:(o.y-1).toNat=j:=by omega
 have a9:m.p.y o.y=(m.ys.getD j yq0).p:=by rw[k1i,b1]
 refine we [(0,pta ka.gk),(1,opV o)] func66 U ntmps66 U (.c2 U U) ?_;have a4:=hM;refine sr<|bx U<|λg3 w1 b9 D q1 z1=>(asg U<|nn<|sq ?_);have hM:=a4.ext q1;intro a h;refine z0h none (λwb w'=>Fr [] wb w') z2r ?_;intro w2 q2;have z2:=q2.size;have hM:=hM.ext q2;have hk:=hk.ext<|q1.n1 q2;have D:=D.ext q2;have hC:Fr [] w2 w2:=l12 _ _;have a0:=hM;have Z:=hk;have I:=D;refine z0e 0 h U λa h=>z0o 1 h U λa h=>z0c 2 h U z3r U λa h=>z0m 3 h U (λ_ hw=>Z.ext hw) U y4s U λa h=>z0c 4 h U z4j U λa h=>z0m 5 h U (λ_ hw=>I.ext hw) U na5 U λa h=>z2v 6 h U t19 U λa h=>z1e (p:=j) (yq0) 7 h U hM.y.out.sl U y5d U λb7 b3 a h=>z2e (cs:=z3l.enc<|m.ys.getD j yq0) 8 h wn U (λ_ hw=>b3 _ (a0.ext hw).y.out.sl) z3k U λa h=>z0c 9 h U z9g U λa h=>z0m 10 h U (λ_ hw=>I.ext hw) U x2d U λa h=>?_;refine z1w 11 15 kr U ?_ ?_;refine z0n h (z0a U<|z0a U z0f) (mkC func127) (x2m (m.ys.getD j yq0) o.d _ (hM.y.ins j oo).sl) ?_;rintro _ w3 ⟨qn,rfl,a7,q3⟩ a h;have z3:=q3.size;have hk:=hk.ext q3;have D:=D.ext q3;have hC:=hC.next q3;refine z0b<|z0e 12 h U λa h=>z0l 13 h U λa h=>z0l 14 h U λa h=>z0d 15 U<|z0w h z6g U λw4 O q4 hz a h=>?_;obtain⟨a3,hg⟩:∃g,g=w3.heap.size:=⟨_,rfl⟩;rw[<-hg]at O h hz;have b5.gk_5:ka.gk<a3:=by have:=hk.lt;omega
 have b2:g3<a3:=by have:=D.lt;omega
 have z4:=q4.size;have hM:=hM.ext<|q3.n1 q4;have hk:=hk.ext q4;have D:=D.ext q4;have hC:=hC.next q4;refine z0b<|z0d 16 U<|z0t h U O U z3m ?_ (h1:=(by first|(simp[Value.oneCell',S];done)|exact z3l.one<|m.ys.getD j yq0));intro w5 a6 q5 hz a h;have z5:=q5.size;have hk:=hk.fr q5;have D:=D.fr q5;have hC:=hC.sp q5;have O:Blk w5 a3 _ [_,_,_,_,_]:=a6;clear a6;refine z0b<|z0d 17 U<|z0q h U λa h=>?_;refine z0b<|z0p ?_;clear hC a0 Z I;refine bk (h.sub (L':=ll4 0 3 5 6)<|csu U)<|tn<|sq<|sr<|mv U U<|eq' U<|nn<|cd U (λc0=>?_)<|λc0=>?_;obtain rfl:=a7 c0;have hM:=a4.ext<|q1.z4 q2 q3 q4 q5;intro a h;refine z0h (some 9) (λwb w'=>Fr [] wb w') z2r ?_;intro w6 q6;have z6:=q6.size;have hM:=hM.ext q6;have hk:=hk.ext q6;have D:=D.ext q6;have O:=O.ext q6;have hC:Fr [] w6 w6:=l12 _ _;have a0:=hM;have Z:=hk;have I:=D;have a1:=O;refine z0e 0 h U λa h=>z0o 1 h U λa h=>z0c 2 h U z3r U λa h=>z0m 3 h U (λ_ hw=>Z.ext hw) U y4s U λa h=>z0c 4 h U z4j U λa h=>z0m 5 h U (λ_ hw=>I.ext hw) U na5 U λa h=>z2v 6 h U t19 U λa h=>z0x 7 h U (λ_ hw=>a1.ext hw) z3k U λa h=>z1l 8 kr kr kr hC (p:=j) h wn U y5d oo oo oo U U λa h=>z0d 9 U<|z1a (i:=j) (⟨true,if o.d=1 then 179 else -13,(m.ys.getD j yq0).ct,true,sv0,[]⟩:YQ) h U hM.y.out (by rw[hM.ly];exact hj) U z3m λw7 a2 q7 _hz a h=>?_;have hM:=hM.yarn mtd hj a2 q7<|Own.nil _;have a4:=hM;clear a2;have z7:=q7.size;have D:=D.fr q7;have O:=O.fr q7;have hk:=hM.k;clear _hz;refine z1m<|z0p ?_;clear hC a0 Z I a1;refine bk (h.sub (L':=ll1 6)<|csu U)<|tn<|sr<|mv U U<|asg U<|nn<|rt<|r1 results66 U ?_;exact⟨_,rfl,by rw[c0];exact MRet.ok (by unfold inM;rw[a9,if_neg (λe=>e c0)];exact congrArg Except.ok (y1n m (⟨true,if o.d=1 then 179 else -13,(m.ys.getD j yq0).ct,true,sv0,[]⟩:YQ) b1).symm) hM⟩;refine sk<|tn<|sr<|mv U U<|asg U<|kpL (ll1 4) (csu U)<|nn<|rt<|r1 results66 U ?_;have hM:=a4.ext<|q1.z4 q2 q3 q4 q5;exact⟨_,rfl,MRet.err (by unfold inM;rw[a9,if_pos c0]) c0 hM.fr⟩;refine z0w h z6g U λw8 O q8 hz a h=>?_;obtain⟨a3,hg⟩:∃g,g=w2.heap.size:=⟨_,rfl⟩;rw[<-hg]at O h hz;have b5.gk_5:ka.gk<a3:=by have:=hk.lt;omega
 have b2:g3<a3:=by have:=D.lt;omega
 have z8:=q8.size;have hM:=hM.ext q8;have hC:=hC.next q8;refine z0b<|z0d 11 U<|z0n h (z0a U<|z0a U z0f) (mkC func127) (x2m (m.ys.getD j yq0) o.d _ (hM.y.ins j oo).sl) ?_;rintro _ w9 ⟨qn,rfl,a7,q9⟩ a h;have z9:=q9.size;have hM:=hM.ext q9;have hk:=hk.ext<|q8.n1 q9;have D:=D.ext<|q8.n1 q9;have O:=O.ext q9;have hC:=hC.next q9;refine z0b<|z0e 12 h U λa h=>z0l 13 h U λa h=>z0l 14 h U λa h=>z0d 16 U<|z0t h U O U z3m ?_ (h1:=(by first|(simp[Value.oneCell',S];done)|exact z3l.one<|m.ys.getD j yq0));intro b6 a6 a5 hz a h;have d5:=a5.size;have hk:=hk.fr a5;have D:=D.fr a5;have hC:=hC.sp a5;have O:Blk b6 a3 _ [_,_,_,_,_]:=a6;clear a6;refine z0b<|z0d 17 U<|z0q h U λa h=>?_;refine z0b<|z0p ?_;clear hC a0 Z I;refine bk (h.sub (L':=ll4 0 3 5 6)<|csu U)<|tn<|sq<|sr<|mv U U<|eq' U<|nn<|cd U (λc0=>?_)<|λc0=>?_;obtain rfl:=a7 c0;have hM:=a4.ext<|q1.z4 q2 q8 q9 a5;intro a h;refine z0h (some 9) (λwb w'=>Fr [] wb w') z2r ?_;intro b4 a8;have d6:=a8.size;have hM:=hM.ext a8;have hk:=hk.ext a8;have D:=D.ext a8;have O:=O.ext a8;have hC:Fr [] b4 b4:=l12 _ _;have a0:=hM;have Z:=hk;have I:=D;have a1:=O;refine z0e 0 h U λa h=>z0o 1 h U λa h=>z0c 2 h U z3r U λa h=>z0m 3 h U (λ_ hw=>Z.ext hw) U y4s U λa h=>z0c 4 h U z4j U λa h=>z0m 5 h U (λ_ hw=>I.ext hw) U na5 U λa h=>z2v 6 h U t19 U λa h=>z0x 7 h U (λ_ hw=>a1.ext hw) z3k U λa h=>z1l 8 kr kr kr hC (p:=j) h wn U y5d oo oo oo U U λa h=>z0d 9 U<|z1a (i:=j) (⟨true,if o.d=1 then 179 else -13,(m.ys.getD j yq0).ct,true,sv0,[]⟩:YQ) h U hM.y.out (by rw[hM.ly];exact hj) U z3m λd4 a2 b0 _hz a h=>?_;have hM:=hM.yarn mtd hj a2 b0<|Own.nil _;have a4:=hM;clear a2;have d7:=b0.size;have D:=D.fr b0;have O:=O.fr b0;have hk:=hM.k;clear _hz;refine z1m<|z0p ?_;clear hC a0 Z I a1;refine bk (h.sub (L':=ll1 6)<|csu U)<|tn<|sr<|mv U U<|asg U<|nn<|rt<|r1 results66 U ?_;exact⟨_,rfl,by rw[c0];exact MRet.ok (by unfold inM;rw[a9,if_neg (λe=>e c0)];exact congrArg Except.ok (y1n m (⟨true,if o.d=1 then 179 else -13,(m.ys.getD j yq0).ct,true,sv0,[]⟩:YQ) b1).symm) hM⟩;refine sk<|tn<|sr<|mv U U<|asg U<|kpL (ll1 4) (csu U)<|nn<|rt<|r1 results66 U ?_;have hM:=a4.ext<|q1.z4 q2 q8 q9 a5;exact⟨_,rfl,MRet.err (by unfold inM;rw[a9,if_pos c0]) c0 hM.fr⟩
theorem j1j (wS:World)(ka:MA)(m:MQ)(o:MOp)(w0:World)(hM:MkM τd 145 wS ka w0 m)(hy:1<=o.y/\o.y<=6):Rets prog 67 #[pta ka.gk,opV o] w0 λr w'=>MRet τd 145 wS ka (x6h m.p o) r w':=by
 have d3:=hM.fr.size;have hk:=hM.k;have c1:=hk.lt;have d0:=hM.ly;have c9:=hM.lt;have b8:=(hM.y.out.blk ka.gy t10).2;obtain⟨j,hj,d1⟩:∃j:Nat,j<6/\o.y=(j:Int)+1:=⟨(o.y-1).toNat,oo,oo⟩;have b1:(o.y-1).toNat=j:=by omega
 have a9:m.p.y o.y=(m.ys.getD j yq0).p:=by rw[k1i,b1]
 refine we [(0,pta ka.gk),(1,opV o)] func67 U ntmps67 U (.c2 U U) ?_;have a4:=hM;refine sr<|bx U<|λg3 w1 b9 D q1 z1=>(asg U<|nn<|sq ?_);have hM:=a4.ext q1;intro a h;refine z0h none (λwb w'=>Fr [] wb w') z2r ?_;intro w2 q2;have z2:=q2.size;have hM:=hM.ext q2;have hk:=hk.ext<|q1.n1 q2;have D:=D.ext q2;have hC:Fr [] w2 w2:=l12 _ _;have a0:=hM;have Z:=hk;have O:=D;refine z0e 0 h U λa h=>z0o 1 h U λa h=>z0c 2 h U z3r U λa h=>z0m 3 h U (λ_ hw=>Z.ext hw) U y4s U λa h=>z0c 4 h U z4j U λa h=>z0m 5 h U (λ_ hw=>O.ext hw) U na5 U λa h=>z2v 6 h U t19 U λa h=>z1e (p:=j) (yq0) 7 h U hM.y.out.sl U y5d U λb7 b3 a h=>z2e (cs:=z3l.enc<|m.ys.getD j yq0) 8 h wn U (λ_ hw=>b3 _ (a0.ext hw).y.out.sl) z3k U λa h=>z1w 9 13 kr U ?_ ?_;refine z0n h (z0a U z0f) (mkC func128) (x2v (m.ys.getD j yq0) _ (hM.y.ins j oo).sl) ?_;rintro _ w3 ⟨qn,rfl,a7,q3⟩ a h;have z3:=q3.size;have hk:=hk.ext q3;have D:=D.ext q3;have hC:=hC.next q3;refine z0b<|z0e 10 h U λa h=>z0l 11 h U λa h=>z0l 12 h U λa h=>z0d 13 U<|z0w h z6g U λw4 I q4 hz a h=>?_;obtain⟨a3,hg⟩:∃g,g=w3.heap.size:=⟨_,rfl⟩;rw[<-hg]at I h hz;have b5.gk_5:ka.gk<a3:=by have:=hk.lt;omega
 have b2:g3<a3:=by have:=D.lt;omega
 have z4:=q4.size;have hM:=hM.ext<|q3.n1 q4;have hk:=hk.ext q4;have D:=D.ext q4;have hC:=hC.next q4;refine z0b<|z0d 14 U<|z0t h U I U z3m ?_ (h1:=(by first|(simp[Value.oneCell',S];done)|exact z3l.one<|m.ys.getD j yq0));intro w5 a6 q5 hz a h;have z5:=q5.size;have hk:=hk.fr q5;have D:=D.fr q5;have hC:=hC.sp q5;have I:Blk w5 a3 _ [_,_,_,_,_]:=a6;clear a6;refine z0b<|z0d 15 U<|z0q h U λa h=>?_;refine z0b<|z0p ?_;clear hC a0 Z O;refine bk (h.sub (L':=ll4 0 3 5 6)<|csu U)<|tn<|sq<|sr<|mv U U<|eq' U<|nn<|cd U (λc0=>?_)<|λc0=>?_;obtain rfl:=a7 c0;have hM:=a4.ext<|q1.z4 q2 q3 q4 q5;intro a h;refine z0h (some 9) (λwb w'=>Fr [] wb w') z2r ?_;intro w6 q6;have z6:=q6.size;have hM:=hM.ext q6;have hk:=hk.ext q6;have D:=D.ext q6;have I:=I.ext q6;have hC:Fr [] w6 w6:=l12 _ _;have a0:=hM;have Z:=hk;have O:=D;have a1:=I;refine z0e 0 h U λa h=>z0o 1 h U λa h=>z0c 2 h U z3r U λa h=>z0m 3 h U (λ_ hw=>Z.ext hw) U y4s U λa h=>z0c 4 h U z4j U λa h=>z0m 5 h U (λ_ hw=>O.ext hw) U na5 U λa h=>z2v 6 h U t19 U λa h=>z0x 7 h U (λ_ hw=>a1.ext hw) z3k U λa h=>z1l 8 kr kr kr hC (p:=j) h wn U y5d oo oo oo U U λa h=>z0d 9 U<|z1a (i:=j) (⟨false,0,(m.ys.getD j yq0).ct,false,sv0,[]⟩:YQ) h U hM.y.out (by rw[hM.ly];exact hj) U z3m λw7 a2 q7 _hz a h=>?_;have hM:=hM.yarn mtd hj a2 q7<|Own.nil _;have a4:=hM;clear a2;have z7:=q7.size;have D:=D.fr q7;have I:=I.fr q7;have hk:=hM.k;clear _hz;refine z1m<|z0p ?_;clear hC a0 Z O a1;refine bk (h.sub (L':=ll1 6)<|csu U)<|tn<|sr<|mv U U<|asg U<|nn<|rt<|r1 results67 U ?_;exact⟨_,rfl,by rw[c0];exact MRet.ok (by unfold x6h;rw[a9,if_neg (λe=>e c0)];exact congrArg Except.ok (y1n m (⟨false,0,(m.ys.getD j yq0).ct,false,sv0,[]⟩:YQ) b1).symm) hM⟩;refine sk<|tn<|sr<|mv U U<|asg U<|kpL (ll1 4) (csu U)<|nn<|rt<|r1 results67 U ?_;have hM:=a4.ext<|q1.z4 q2 q3 q4 q5;exact⟨_,rfl,MRet.err (by unfold x6h;rw[a9,if_pos c0]) c0 hM.fr⟩;refine z0w h z6g U λw8 I q8 hz a h=>?_;obtain⟨a3,hg⟩:∃g,g=w2.heap.size:=⟨_,rfl⟩;rw[<-hg]at I h hz;have b5.gk_5:ka.gk<a3:=by have:=hk.lt;omega
 have b2:g3<a3:=by have:=D.lt;omega
 have z8:=q8.size;have hM:=hM.ext q8;have hC:=hC.next q8;refine z0b<|z0d 9 U<|z0n h (z0a U z0f) (mkC func128) (x2v (m.ys.getD j yq0) _ (hM.y.ins j oo).sl) ?_;rintro _ w9 ⟨qn,rfl,a7,q9⟩ a h;have z9:=q9.size;have hM:=hM.ext q9;have hk:=hk.ext<|q8.n1 q9;have D:=D.ext<|q8.n1 q9;have I:=I.ext q9;have hC:=hC.next q9;refine z0b<|z0e 10 h U λa h=>z0l 11 h U λa h=>z0l 12 h U λa h=>z0d 14 U<|z0t h U I U z3m ?_ (h1:=(by first|(simp[Value.oneCell',S];done)|exact z3l.one<|m.ys.getD j yq0));intro b6 a6 a5 hz a h;have d5:=a5.size;have hk:=hk.fr a5;have D:=D.fr a5;have hC:=hC.sp a5;have I:Blk b6 a3 _ [_,_,_,_,_]:=a6;clear a6;refine z0b<|z0d 15 U<|z0q h U λa h=>?_;refine z0b<|z0p ?_;clear hC a0 Z O;refine bk (h.sub (L':=ll4 0 3 5 6)<|csu U)<|tn<|sq<|sr<|mv U U<|eq' U<|nn<|cd U (λc0=>?_)<|λc0=>?_;obtain rfl:=a7 c0;have hM:=a4.ext<|q1.z4 q2 q8 q9 a5;intro a h;refine z0h (some 9) (λwb w'=>Fr [] wb w') z2r ?_;intro b4 a8;have d6:=a8.size;have hM:=hM.ext a8;have hk:=hk.ext a8;have D:=D.ext a8;have I:=I.ext a8;have hC:Fr [] b4 b4:=l12 _ _;have a0:=hM;have Z:=hk;have O:=D;have a1:=I;refine z0e 0 h U λa h=>z0o 1 h U λa h=>z0c 2 h U z3r U λa h=>z0m 3 h U (λ_ hw=>Z.ext hw) U y4s U λa h=>z0c 4 h U z4j U λa h=>z0m 5 h U (λ_ hw=>O.ext hw) U na5 U λa h=>z2v 6 h U t19 U λa h=>z0x 7 h U (λ_ hw=>a1.ext hw) z3k U λa h=>z1l 8 kr kr kr hC (p:=j) h wn U y5d oo oo oo U U λa h=>z0d 9 U<|z1a (i:=j) (⟨false,0,(m.ys.getD j yq0).ct,false,sv0,[]⟩:YQ) h U hM.y.out (by rw[hM.ly];exact hj) U z3m λd4 a2 b0 _hz a h=>?_;have hM:=hM.yarn mtd hj a2 b0<|Own.nil _;have a4:=hM;clear a2;have d7:=b0.size;have D:=D.fr b0;have I:=I.fr b0;have hk:=hM.k;clear _hz;refine z1m<|z0p ?_;clear hC a0 Z O a1;refine bk (h.sub (L':=ll1 6)<|csu U)<|tn<|sr<|mv U U<|asg U<|nn<|rt<|r1 results67 U ?_;exact⟨_,rfl,by rw[c0];exact MRet.ok (by unfold x6h;rw[a9,if_neg (λe=>e c0)];exact congrArg Except.ok (y1n m (⟨false,0,(m.ys.getD j yq0).ct,false,sv0,[]⟩:YQ) b1).symm) hM⟩;refine sk<|tn<|sr<|mv U U<|asg U<|kpL (ll1 4) (csu U)<|nn<|rt<|r1 results67 U ?_;have hM:=a4.ext<|q1.z4 q2 q8 q9 a5;exact⟨_,rfl,MRet.err (by unfold x6h;rw[a9,if_pos c0]) c0 hM.fr⟩
theorem z4i:z1d prog 145 0 0:=λ_ _=>kr
theorem x6r (wS:World)(ka:MA)(m:MQ)(o:MOp)(w0:World)(hM:MkM τd 145 wS ka w0 m)(hi:MInv m.p)(hy:1<=o.y/\o.y<=6)(hn:z4d o.b o.p=0):Rets prog 130 #[pta ka.gk,opV o] w0 λr w'=>r=.tuple #[.int .i64 (if z5o m.p o=0 then z6n m.p o else 0),.int .i64 (if z5o m.p o=0 then (z2f o.b o.p m.rk) else 0),.int .i64 (z5o m.p o)]/\Fr [] w0 w':=by
 have b8:=hM.fr.size;have hk:=hM.k;have b2:=hk.lt;have b4:=hM.ly;have b3:=hM.lt;have b0:=(hM.y.out.blk ka.gy t10).2;obtain⟨j,hj,b6⟩:∃j:Nat,j<6/\o.y=(j:Int)+1:=⟨(o.y-1).toNat,oo,oo⟩;have a7:(o.y-1).toNat=j:=by omega
 have O:m.p.y o.y=(m.ys.getD j yq0).p:=by rw[k1i,a7]
 have b7:=y6z o.b o.p m.rk;have b5:=z2t hn;refine we [(0,pta ka.gk),(1,opV o)] func130 U ntmps130 U (.c2 U U) ?_;have a6:=hM;refine sr<|bx U<|λg3 w1 b1 D q1 z1=>(asg U<|asg U<|asg U<|nn<|sq ?_);have hM:=a6.ext q1;intro a h;refine z0h none (λwb w'=>Fr [] wb w') z2r ?_;intro w2 q2;have z2:=q2.size;have hM:=hM.ext q2;have hk:=hk.ext<|q1.n1 q2;have D:=D.ext q2;have hC:Fr [] w2 w2:=l12 _ _;have a2:=hM;have a1:=hk;have Z:=D;refine z0e 0 h U λa h=>z0o 1 h U λa h=>z0c 2 h U z3r U λa h=>z0m 3 h U (λ_ hw=>a1.ext hw) U y4s U λa h=>z0c 4 h U z4j U λa h=>z0m 5 h U (λ_ hw=>Z.ext hw) U na5 U λa h=>z2v 6 h U t19 U λa h=>z1e (p:=j) (yq0) 7 h U hM.y.out.sl U y5d U λa9 a5 a h=>z2e (cs:=z3l.enc<|m.ys.getD j yq0) 8 h wn U (λ_ hw=>a5 _ (a2.ext hw).y.out.sl) z3k U λa h=>z0c 9 h U z5k U λa h=>z1h (vs:=[_,_]) 10 h U (λ_ hw=>(Z.ext hw)) z5n U U λa h=>?_;refine z0e 11 h U λa h=>z0o 12 h U λa h=>z0c 13 h U z4i U λa h=>z0m 14 h U (λ_ hw=>a1.ext hw) U na3 U λa h=>z1w 15 16 kr U ?_ ?_;refine z0n h (z0a U<|z0a U z0f) v2y (y3w _ _ _ _ (by have:=hi.rk;omega)) ?_;rintro _ w3 ⟨rfl,q3⟩ a h;have z3:=q3.size;have hk:=hk.ext q3;have D:=D.ext q3;have hC:=hC.next q3;refine z0b<|z0d 16 U<|z0w h z6g U λw4 I q4 hz a h=>?_;obtain⟨a0,hg⟩:∃g,g=w3.heap.size:=⟨_,rfl⟩;rw[<-hg]at I h hz;have a8.gk_7:ka.gk<a0:=by have:=hk.lt;omega
 have a4:g3<a0:=by have:=D.lt;omega
 have z4:=q4.size;have hM:=hM.ext<|q3.n1 q4;have hk:=hk.ext q4;have D:=D.ext q4;have hC:=hC.next q4;refine z0b<|z0d 17 U<|z0t h U I U z3m ?_ (h1:=(by first|(simp[Value.oneCell',S];done)|exact z3l.one<|m.ys.getD j yq0));intro w5 a3 q5 hz a h;have z5:=q5.size;have hk:=hk.fr q5;have D:=D.fr q5;have hC:=hC.sp q5;have I:Blk w5 a0 _ [_,_,_,_,_]:=a3;clear a3;refine z0b<|z0d 18 U<|z0q h U λa h=>?_;refine z0b<|z0p ?_;clear hC a2 a1 Z;refine bk (h.sub (L':=ll3 3 5 7)<|csu U)<|tn<|sq<|sr<|fad U z8z<|z0j U I U na4<|nt' U<|nn<|cd U (λc0=>?_)<|λc0=>?_;refine sr<|asg U<|asg U<|asg U<|nn<|rt<|tr<|r3 results130 U U U ?_;have he:z5o m.p o=12:=by unfold z5o;rw[O,if_pos (by simpa using c0)]
 exact⟨_,rfl,by rw[he];rfl,(q1.z4 q2 q3 q4 q5)⟩;refine sk<|tn<|sq<|sr<|fad U z9g<|z0j U D U x2d<|eq' U<|nn<|cd U (λc1=>?_)<|λc1=>?_;refine sq<|sr<|fad U z5v<|z0j U I U na3<|mv U U<|gt' U<|nn<|cd U (λc2=>?_)<|λc2=>?_;refine sr<|asg U<|asg U<|asg U<|nn<|rt<|tr<|tr<|r3 results130 U U U ?_;have he:z5o m.p o=12:=by unfold z5o;rw[O,if_neg (by simpa using c0),if_pos c1,if_pos c2]
 exact⟨_,rfl,by rw[he];rfl,(q1.z4 q2 q3 q4 q5)⟩;refine sk<|tn<|sr<|mv U U<|z0v U (wi6 oo)<|mv U U<|asg U<|asg U<|asg U<|nn<|rt<|tr<|r3 results130 U U U ?_;have he:z5o m.p o=0:=by unfold z5o;rw[O,if_neg (by simpa using c0),if_pos c1,if_neg c2]
 exact⟨_,rfl,by rw[he];rw[if_pos U,if_pos U,z6n,if_pos c1],(q1.z4 q2 q3 q4 q5)⟩;refine sk<|tn<|sq<|sr<|fad U z5v<|z0j U I U na3<|mv U U<|lt' U<|nn<|cd U (λc3=>?_)<|λc3=>?_;refine sr<|asg U<|asg U<|asg U<|nn<|rt<|tr<|r3 results130 U U U ?_;have he:z5o m.p o=12:=by unfold z5o;rw[O,if_neg (by simpa using c0),if_neg c1,if_pos c3]
 exact⟨_,rfl,by rw[he];rfl,(q1.z4 q2 q3 q4 q5)⟩;refine sk<|tn<|sr<|mv U U<|z2j U (wi6 oo)<|mv U U<|asg U<|asg U<|asg U<|nn<|rt<|r3 results130 U U U ?_;have he:z5o m.p o=0:=by unfold z5o;rw[O,if_neg (by simpa using c0),if_neg c1,if_neg c3]
 exact⟨_,rfl,by rw[he];rw[if_pos U,if_pos U,z6n,if_neg c1],(q1.z4 q2 q3 q4 q5)⟩;refine z0w h z6g U λw6 I q6 hz a h=>?_;obtain⟨a0,hg⟩:∃g,g=w2.heap.size:=⟨_,rfl⟩;rw[<-hg]at I h hz;have a8.gk_7:ka.gk<a0:=by have:=hk.lt;omega
 have a4:g3<a0:=by have:=D.lt;omega
 have z6:=q6.size;have hC:=hC.next q6;refine z0b<|z0d 15 U<|z0n h (z0a U<|z0a U z0f) v2y (y3w _ _ _ _ (by have:=hi.rk;omega)) ?_;rintro _ w7 ⟨rfl,q7⟩ a h;have z7:=q7.size;have hM:=hM.ext<|q6.n1 q7;have hk:=hk.ext<|q6.n1 q7;have D:=D.ext<|q6.n1 q7;have I:=I.ext q7;have hC:=hC.next q7;refine z0b<|z0d 17 U<|z0t h U I U z3m ?_ (h1:=(by first|(simp[Value.oneCell',S];done)|exact z3l.one<|m.ys.getD j yq0));intro w8 a3 q8 hz a h;have z8:=q8.size;have hk:=hk.fr q8;have D:=D.fr q8;have hC:=hC.sp q8;have I:Blk w8 a0 _ [_,_,_,_,_]:=a3;clear a3;refine z0b<|z0d 18 U<|z0q h U λa h=>?_;refine z0b<|z0p ?_;clear hC a2 a1 Z;refine bk (h.sub (L':=ll3 3 5 7)<|csu U)<|tn<|sq<|sr<|fad U z8z<|z0j U I U na4<|nt' U<|nn<|cd U (λc0=>?_)<|λc0=>?_;refine sr<|asg U<|asg U<|asg U<|nn<|rt<|tr<|r3 results130 U U U ?_;have he:z5o m.p o=12:=by unfold z5o;rw[O,if_pos (by simpa using c0)]
 exact⟨_,rfl,by rw[he];rfl,(q1.z4 q2 q6 q7 q8)⟩;refine sk<|tn<|sq<|sr<|fad U z9g<|z0j U D U x2d<|eq' U<|nn<|cd U (λc1=>?_)<|λc1=>?_;refine sq<|sr<|fad U z5v<|z0j U I U na3<|mv U U<|gt' U<|nn<|cd U (λc2=>?_)<|λc2=>?_;refine sr<|asg U<|asg U<|asg U<|nn<|rt<|tr<|tr<|r3 results130 U U U ?_;have he:z5o m.p o=12:=by unfold z5o;rw[O,if_neg (by simpa using c0),if_pos c1,if_pos c2]
 exact⟨_,rfl,by rw[he];rfl,(q1.z4 q2 q6 q7 q8)⟩;refine sk<|tn<|sr<|mv U U<|z0v U (wi6 oo)<|mv U U<|asg U<|asg U<|asg U<|nn<|rt<|tr<|r3 results130 U U U ?_;have he:z5o m.p o=0:=by unfold z5o;rw[O,if_neg (by simpa using c0),if_pos c1,if_neg c2]
 exact⟨_,rfl,by rw[he];rw[if_pos U,if_pos U,z6n,if_pos c1],(q1.z4 q2 q6 q7 q8)⟩;refine sk<|tn<|sq<|sr<|fad U z5v<|z0j U I U na3<|mv U U<|lt' U<|nn<|cd U (λc3=>?_)<|λc3=>?_;refine sr<|asg U<|asg U<|asg U<|nn<|rt<|tr<|r3 results130 U U U ?_;have he:z5o m.p o=12:=by unfold z5o;rw[O,if_neg (by simpa using c0),if_neg c1,if_pos c3]
 exact⟨_,rfl,by rw[he];rfl,(q1.z4 q2 q6 q7 q8)⟩;refine sk<|tn<|sr<|mv U U<|z2j U (wi6 oo)<|mv U U<|asg U<|asg U<|asg U<|nn<|rt<|r3 results130 U U U ?_;have he:z5o m.p o=0:=by unfold z5o;rw[O,if_neg (by simpa using c0),if_neg c1,if_neg c3]
 exact⟨_,rfl,by rw[he];rw[if_pos U,if_pos U,z6n,if_neg c1],(q1.z4 q2 q6 q7 q8)⟩
theorem z3p:z1d prog 145 1 1:=λ_ _=>kr
theorem x7y (wS:World)(ka:MA)(m:MQ)(yy pl en:Int)(w0:World)(hM:MkM τd 145 wS ka w0 m)(hi:MInv m.p)(hy:1<=yy/\yy<=6):Rets prog 131 #[pta ka.gk,.int .u8 yy,.int .i64 pl,.int .i64 en] w0 λr w'=>MRet τd 145 wS ka (z8v m.p yy pl en) r w':=by
 have g7:=hM.fr.size;have O:=hM.k;have g3:=O.lt;have g5:=hM.ly;have g4:=hM.lt;have f7:=(hM.y.out.blk ka.gy t10).2;obtain⟨j,hj,g6⟩:∃j:Nat,j<6/\yy=(j:Int)+1:=⟨(yy-1).toNat,oo,oo⟩;have e3:(yy-1).toNat=j:=by omega
 have c9:m.p.y yy=(m.ys.getD j yq0).p:=by rw[k1i,e3]
 have f9:=v6p (z2l m.q.p m.rk) (m.ys.getD j yq0).pl en;have hN:=y5p hi.B;have g1:(z2l m.q.p m.rk).length<=320:=by unfold z2l;rw[z4s,z8o];exact hN
 refine we [(0,pta ka.gk),(1,.int .u8 yy),(2,.int .i64 pl),(3,.int .i64 en)] func131 U ntmps131 U (.c4 U U U U) ?_;have a9:=hM;refine sr<|asg U<|nn<|sq ?_;intro a h;refine z0h none (λwb w'=>Fr [] wb w') z2r ?_;intro w1 q1;have z1:=q1.size;have hM:=hM.ext q1;have O:=O.ext q1;have hC:Fr [] w1 w1:=l12 _ _;have a4:=hM;have a1:=O;refine z0e 0 h U λa h=>z0o 1 h U λa h=>z0c 2 h U z3p U λa h=>z1h (vs:=[_,_]) 3 h U (λ_ hw=>(a1.ext hw)) z5a U U λa h=>z0e 4 h U λa h=>z0o 5 h U λa h=>z0c 6 h U z4i U λa h=>z0m 7 h U (λ_ hw=>a1.ext hw) U na3 U λa h=>z0d 8 U<|z0n h (z0a U<|z0a U z0f) (mkC func56) (v5w m.q m.rk _ hM.b.at hi.B hi.rk) ?_;rintro _ w2 ⟨⟨g9,rfl,g0,hL⟩,hq⟩ a h;have z2:=hq.size;have hM:=hM.ext hq;have O:=O.ext hq;have hC:=hC.next hq;have q2:=hq;have f8:=(hL.blk g9 t10).2;refine z0b<|z0e 9 h U λa h=>z0l 10 h U λa h=>z0l 11 h U λa h=>z0d 12 U<|z0q h U λa h=>?_;refine z0b<|z0d 13 U<|z0q h U λa h=>?_;refine z0b<|z0p ?_;clear hC a4 a1;refine bk (h.sub (L':=ll6 0 1 2 3 9 10)<|csu U)<|tn<|sq<|sr<|mv U U<|ne' U<|nn<|cd U (λc0=>?_)<|λc0=>?_;exact absurd U c0;refine sk<|tn<|sr<|mv U U<|nlc U<|fad U z3r<|z0j U O U y4s<|mv U U<|z2j U (wi8 oo)<|z1b (p:=j) (yq0) U hM.y.out.sl U y5d oo<|λf5 e6=>(z1q U (e6 _ hM.y.out.sl) z3k<|al z6g U<|λe4 w3 f6 D q3 z3=>?_);refine z0i (vs:=[_,_,_,_,_]) U D z3m (λw4 D q4 z4=>?_) (h1:=(by first|(simp[Value.oneCell',S];done)|exact z3l.one<|m.ys.getD j yq0));refine kpL (ll6 0 1 2 3 9 11) (csu U)<|nn<|sq ?_;have hM:=a9.ext<|q1.z3 q2 q3 q4;have O:=(O.ext q3).fr q4;have hL:=(hL.ext q3).fr q4 (by first|exact z9l hL oo|simp[z0u]<;>omega);intro a h;refine z0h none (λwb w'=>Fr [] wb w') z2r ?_;intro w5 q5;have z5:=q5.size;have hM:=hM.ext q5;have O:=O.ext q5;have hL:=hL.ext q5;have D:=D.ext q5;have hC:Fr [] w5 w5:=l12 _ _;have a4:=hM;have a1:=O;have d6:=hL;have a0:=D;refine z0x 0 h U (λ_ hw=>a0.ext hw) z3k U λa h=>z0e 1 h U λa h=>z0e 2 h U λa h=>z0c 3 h U z5v U λa h=>z0m 4 h U (λ_ hw=>a0.ext hw) U na3 U λa h=>z0e 5 h U λa h=>z1w 6 11 kr U ?_ ?_;refine z0n h (z0a U<|z0a U<|z0a U z0f) (mkC func166) (u9t _ (z2l m.q.p m.rk) (m.ys.getD j yq0).pl en _ hL.sl oo) ?_;rintro _ w6 ⟨⟨e5,rfl,e7,hW⟩,q6⟩ a h;have z6:=q6.size;have hM:=hM.ext q6;have O:=O.ext q6;have hL:=hL.ext q6;have D:=D.ext q6;have hC:=hC.next q6;have f2:=(hW.blk e5 t10).2;refine z0b<|z1w 7 11 kr U ?_ ?_;refine z0n h (z0a U<|z0a U<|z0a U z0f) (mkC func164) (x8u (m.ys.getD j yq0) pl _ (btw (z2l m.q.p m.rk) (m.ys.getD j yq0).pl en) _ (hM.y.ins j oo).sl hW.sl (λk O=>(hW.blk k O).2) oo) ?_;rintro _ w7 ⟨qn,rfl,b7,q7⟩ a h;have z7:=q7.size;have O:=O.ext q7;have D:=D.ext q7;have hC:=hC.next q7;have Z:OwnIf ((goE (m.ys.getD j yq0).p pl<|btw (z2l m.q.p m.rk) (m.ys.getD j yq0).pl en)=0) z2i 107 _ _ (slv qn.pe) qn.pes:=λhc=>(b7 hc).2;have b5:=λhc k O=>((Z hc).blk k O).2;refine z0b<|z0e 8 h U λa h=>z0l 9 h U λa h=>z0l 10 h U λa h=>z0d 11 U<|z0w h z6g U λw8 I q8 hz a h=>?_;obtain⟨a3,hg⟩:∃g,g=w7.heap.size:=⟨_,rfl⟩;rw[<-hg]at I h hz;have e8.gk_12:ka.gk<a3:=by have:=O.lt;omega
 have b8:e4<a3:=by have:=D.lt;omega
 have z8:=q8.size;have hM:=hM.ext<|q7.n1 q8;have O:=O.ext q8;have hL:=hL.ext<|q7.n1 q8;have D:=D.ext q8;have hW:=hW.ext<|q7.n1 q8;have Z:=Z.ext q8;have hC:=hC.next q8;refine z0b<|z0d 12 U<|z0t h U I U z3m ?_ (h1:=(by first|(simp[Value.oneCell',S];done)|exact z3l.one<|m.ys.getD j yq0));intro w9 b6 q9 hz a h;have z9:=q9.size;have O:=O.fr q9;have hL:=hL.fr q9 t26;have D:=D.fr q9;have hW:=hW.fr q9 t26;have Z:=Z.fr q9 (by intro a6 k O a5;simp at O;subst O;have d4:=b5 a6 _ a5;have d5:=(Z a6).blk _ a5;omega);have hC:=hC.sp q9;have I:Blk w9 a3 _ [_,_,_,_,_]:=b6;clear b6;refine z0b<|z0d 13 U<|z0q h U λa h=>?_;refine z0b<|z0p ?_;clear hC a4 a1 d6 a0;refine bk (h.sub (L':=ll4 0 1 10 12)<|csu U)<|tn<|sq<|sr<|mv U U<|eq' U<|nn<|cd U (λc1=>?_)<|λc1=>?_;have hM:=a9.ext<|((q1.z6 q2 q3 q4 q5 q6 q7).n1 q8).z1 q9;intro a h;refine z0h (some 8) (λwb w'=>Fr [] wb w') z2r ?_;intro e9 d0;have h8:=d0.size;have hM:=hM.ext d0;have O:=O.ext d0;have D:=D.ext d0;have Z:=Z.ext d0;have I:=I.ext d0;have hC:Fr [] e9 e9:=l12 _ _;have a4:=hM;have a1:=O;have a0:=D;have a8:=Z;have a2:=I;refine z0e 0 h U λa h=>z0o 1 h U λa h=>z0c 2 h U z3r U λa h=>z0m 3 h U (λ_ hw=>a1.ext hw) U y4s U λa h=>z0e 4 h U λa h=>z2v 5 h U t19 U λa h=>z0x 6 h U (λ_ hw=>a2.ext hw) z3k U λa h=>z1l 7 kr kr kr hC (p:=j) h wn U y5d oo oo oo U U λa h=>z0d 8 U<|z1a (i:=j) (qn:YQ) h U hM.y.out (by rw[hM.ly];exact hj) U z3m λg8 a7 d7 _hz a h=>?_;have hM:=hM.yarn mtd hj a7 d7<|(Z c1).low oo;have a9:=hM;clear a7;have h9:=d7.size;have D:=D.fr d7;have Z:=Z.fr d7 (by intro a6 k O a5;simp at O;subst O;have d4:=b5 a6 _ a5;have d5:=(Z a6).blk _ a5;omega);have I:=I.fr d7;have O:=hM.k;clear _hz;refine z1m<|z0p ?_;clear hC a4 a1 a0 a8 a2;refine bk (h.sub (L':=ll1 10)<|csu U)<|tn<|sr<|mv U U<|asg U<|nn<|rt<|r1 results131 U ?_;exact⟨_,rfl,by rw[c1];exact MRet.ok (by unfold z8v y2h;rw[c9,if_neg (λe=>e c1)];exact congrArg Except.ok (by rw[y1n m qn e3,(b7 c1).1])) hM⟩;refine sk<|tn<|sr<|mv U U<|asg U<|kpL (ll1 8) (csu U)<|nn<|rt<|r1 results131 U ?_;have hM:=a9.ext<|((q1.z6 q2 q3 q4 q5 q6 q7).n1 q8).z1 q9;exact⟨_,rfl,MRet.err (by unfold z8v y2h;rw[c9,if_pos c1]) c1 hM.fr⟩;refine z0w h z6g U λh0 I b2 hz a h=>?_;obtain⟨a3,hg⟩:∃g,g=w6.heap.size:=⟨_,rfl⟩;rw[<-hg]at I h hz;have e8.gk_12:ka.gk<a3:=by have:=O.lt;omega
 have b8:e4<a3:=by have:=D.lt;omega
 have i0:=b2.size;have hM:=hM.ext b2;have O:=O.ext b2;have hW:=hW.ext b2;have hC:=hC.next b2;refine z0b<|z0d 7 U<|z0n h (z0a U<|z0a U<|z0a U z0f) (mkC func164) (x8u (m.ys.getD j yq0) pl _ (btw (z2l m.q.p m.rk) (m.ys.getD j yq0).pl en) _ (hM.y.ins j oo).sl hW.sl (λk O=>(hW.blk k O).2) oo) ?_;rintro _ h2 ⟨qn,rfl,b7,b0⟩ a h;have i1:=b0.size;have hM:=hM.ext b0;have O:=O.ext b0;have hL:=hL.ext<|b2.n1 b0;have D:=D.ext<|b2.n1 b0;have hW:=hW.ext b0;have I:=I.ext b0;have hC:=hC.next b0;have Z:OwnIf ((goE (m.ys.getD j yq0).p pl<|btw (z2l m.q.p m.rk) (m.ys.getD j yq0).pl en)=0) z2i 107 _ _ (slv qn.pe) qn.pes:=λhc=>(b7 hc).2;have b5:=λhc k O=>((Z hc).blk k O).2;refine z0b<|z0e 8 h U λa h=>z0l 9 h U λa h=>z0l 10 h U λa h=>z0d 12 U<|z0t h U I U z3m ?_ (h1:=(by first|(simp[Value.oneCell',S];done)|exact z3l.one<|m.ys.getD j yq0));intro f3 b6 b3 hz a h;have i2:=b3.size;have O:=O.fr b3;have hL:=hL.fr b3 t26;have D:=D.fr b3;have hW:=hW.fr b3 t26;have Z:=Z.fr b3 (by intro a6 k O a5;simp at O;subst O;have d4:=b5 a6 _ a5;have d5:=(Z a6).blk _ a5;omega);have hC:=hC.sp b3;have I:Blk f3 a3 _ [_,_,_,_,_]:=b6;clear b6;refine z0b<|z0d 13 U<|z0q h U λa h=>?_;refine z0b<|z0p ?_;clear hC a4 a1 d6 a0;refine bk (h.sub (L':=ll4 0 1 10 12)<|csu U)<|tn<|sq<|sr<|mv U U<|eq' U<|nn<|cd U (λc1=>?_)<|λc1=>?_;have hM:=a9.ext<|((q1.z6 q2 q3 q4 q5 q6 b2).n1 b0).z1 b3;intro a h;refine z0h (some 8) (λwb w'=>Fr [] wb w') z2r ?_;intro f0 d1;have i3:=d1.size;have hM:=hM.ext d1;have O:=O.ext d1;have D:=D.ext d1;have I:=I.ext d1;have Z:=Z.ext d1;have hC:Fr [] f0 f0:=l12 _ _;have a4:=hM;have a1:=O;have a0:=D;have a2:=I;have a8:=Z;refine z0e 0 h U λa h=>z0o 1 h U λa h=>z0c 2 h U z3r U λa h=>z0m 3 h U (λ_ hw=>a1.ext hw) U y4s U λa h=>z0e 4 h U λa h=>z2v 5 h U t19 U λa h=>z0x 6 h U (λ_ hw=>a2.ext hw) z3k U λa h=>z1l 7 kr kr kr hC (p:=j) h wn U y5d oo oo oo U U λa h=>z0d 8 U<|z1a (i:=j) (qn:YQ) h U hM.y.out (by rw[hM.ly];exact hj) U z3m λh3 a7 d9 _hz a h=>?_;have hM:=hM.yarn mtd hj a7 d9<|(Z c1).low oo;have a9:=hM;clear a7;have i4:=d9.size;have D:=D.fr d9;have I:=I.fr d9;have Z:=Z.fr d9 (by intro a6 k O a5;simp at O;subst O;have d4:=b5 a6 _ a5;have d5:=(Z a6).blk _ a5;omega);have O:=hM.k;clear _hz;refine z1m<|z0p ?_;clear hC a4 a1 a0 a2 a8;refine bk (h.sub (L':=ll1 10)<|csu U)<|tn<|sr<|mv U U<|asg U<|nn<|rt<|r1 results131 U ?_;exact⟨_,rfl,by rw[c1];exact MRet.ok (by unfold z8v y2h;rw[c9,if_neg (λe=>e c1)];exact congrArg Except.ok (by rw[y1n m qn e3,(b7 c1).1])) hM⟩;refine sk<|tn<|sr<|mv U U<|asg U<|kpL (ll1 8) (csu U)<|nn<|rt<|r1 results131 U ?_;have hM:=a9.ext<|((q1.z6 q2 q3 q4 q5 q6 b2).n1 b0).z1 b3;exact⟨_,rfl,MRet.err (by unfold z8v y2h;rw[c9,if_pos c1]) c1 hM.fr⟩;refine z0w h z6g U λh4 I b9 hz a h=>?_;obtain⟨a3,hg⟩:∃g,g=w5.heap.size:=⟨_,rfl⟩;rw[<-hg]at I h hz;have e8.gk_12:ka.gk<a3:=by have:=O.lt;omega
 have b8:e4<a3:=by have:=D.lt;omega
 have i5:=b9.size;have hL:=hL.ext b9;have hC:=hC.next b9;refine z0b<|z0d 6 U<|z0n h (z0a U<|z0a U<|z0a U z0f) (mkC func166) (u9t _ (z2l m.q.p m.rk) (m.ys.getD j yq0).pl en _ hL.sl oo) ?_;rintro _ h5 ⟨⟨e5,rfl,e7,hW⟩,q18⟩ a h;have i7:=q18.size;have hM:=hM.ext<|b9.n1 q18;have O:=O.ext<|b9.n1 q18;have hC:=hC.next q18;have f2:=(hW.blk e5 t10).2;refine z0b<|z0d 7 U<|z0n h (z0a U<|z0a U<|z0a U z0f) (mkC func164) (x8u (m.ys.getD j yq0) pl _ (btw (z2l m.q.p m.rk) (m.ys.getD j yq0).pl en) _ (hM.y.ins j oo).sl hW.sl (λk O=>(hW.blk k O).2) oo) ?_;rintro _ h6 ⟨qn,rfl,b7,b1⟩ a h;have i8:=b1.size;have hM:=hM.ext b1;have O:=O.ext b1;have hL:=hL.ext<|q18.n1 b1;have D:=D.ext<|b9.n2 q18 b1;have I:=I.ext<|q18.n1 b1;have hW:=hW.ext b1;have hC:=hC.next b1;have Z:OwnIf ((goE (m.ys.getD j yq0).p pl<|btw (z2l m.q.p m.rk) (m.ys.getD j yq0).pl en)=0) z2i 107 _ _ (slv qn.pe) qn.pes:=λhc=>(b7 hc).2;have b5:=λhc k O=>((Z hc).blk k O).2;refine z0b<|z0e 8 h U λa h=>z0l 9 h U λa h=>z0l 10 h U λa h=>z0d 12 U<|z0t h U I U z3m ?_ (h1:=(by first|(simp[Value.oneCell',S];done)|exact z3l.one<|m.ys.getD j yq0));intro f4 b6 b4 hz a h;have i9:=b4.size;have O:=O.fr b4;have hL:=hL.fr b4 t26;have D:=D.fr b4;have hW:=hW.fr b4 t26;have Z:=Z.fr b4 (by intro a6 k O a5;simp at O;subst O;have d4:=b5 a6 _ a5;have d5:=(Z a6).blk _ a5;omega);have hC:=hC.sp b4;have I:Blk f4 a3 _ [_,_,_,_,_]:=b6;clear b6;refine z0b<|z0d 13 U<|z0q h U λa h=>?_;refine z0b<|z0p ?_;clear hC a4 a1 d6 a0;refine bk (h.sub (L':=ll4 0 1 10 12)<|csu U)<|tn<|sq<|sr<|mv U U<|eq' U<|nn<|cd U (λc1=>?_)<|λc1=>?_;have hM:=a9.ext<|((q1.z6 q2 q3 q4 q5 b9 q18).n1 b1).z1 b4;intro a h;refine z0h (some 8) (λwb w'=>Fr [] wb w') z2r ?_;intro f1 d3;have j0:=d3.size;have hM:=hM.ext d3;have O:=O.ext d3;have D:=D.ext d3;have I:=I.ext d3;have Z:=Z.ext d3;have hC:Fr [] f1 f1:=l12 _ _;have a4:=hM;have a1:=O;have a0:=D;have a2:=I;have a8:=Z;refine z0e 0 h U λa h=>z0o 1 h U λa h=>z0c 2 h U z3r U λa h=>z0m 3 h U (λ_ hw=>a1.ext hw) U y4s U λa h=>z0e 4 h U λa h=>z2v 5 h U t19 U λa h=>z0x 6 h U (λ_ hw=>a2.ext hw) z3k U λa h=>z1l 7 kr kr kr hC (p:=j) h wn U y5d oo oo oo U U λa h=>z0d 8 U<|z1a (i:=j) (qn:YQ) h U hM.y.out (by rw[hM.ly];exact hj) U z3m λh7 a7 e0 _hz a h=>?_;have hM:=hM.yarn mtd hj a7 e0<|(Z c1).low oo;have a9:=hM;clear a7;have j1:=e0.size;have D:=D.fr e0;have I:=I.fr e0;have Z:=Z.fr e0 (by intro a6 k O a5;simp at O;subst O;have d4:=b5 a6 _ a5;have d5:=(Z a6).blk _ a5;omega);have O:=hM.k;clear _hz;refine z1m<|z0p ?_;clear hC a4 a1 a0 a2 a8;refine bk (h.sub (L':=ll1 10)<|csu U)<|tn<|sr<|mv U U<|asg U<|nn<|rt<|r1 results131 U ?_;exact⟨_,rfl,by rw[c1];exact MRet.ok (by unfold z8v y2h;rw[c9,if_neg (λe=>e c1)];exact congrArg Except.ok (by rw[y1n m qn e3,(b7 c1).1])) hM⟩;refine sk<|tn<|sr<|mv U U<|asg U<|kpL (ll1 8) (csu U)<|nn<|rt<|r1 results131 U ?_;have hM:=a9.ext<|((q1.z6 q2 q3 q4 q5 b9 q18).n1 b1).z1 b4;exact⟨_,rfl,MRet.err (by unfold z8v y2h;rw[c9,if_pos c1]) c1 hM.fr⟩
theorem j0m (wS:World)(O:MA)(m:MQ)(o:MOp)(w0:World)(hM:MkM τd 145 wS O w0 m)(hi:MInv m.p)(hy:1<=o.y/\o.y<=6)(hn:z4d o.b o.p=0):Rets prog 71 #[pta O.gk,opV o] w0 λr w'=>MRet τd 145 wS O (y3h m.p o) r w':=by
 refine we [(0,pta O.gk),(1,opV o)] func71 U ntmps71 U (.c2 U U) ?_;have I:=hM;refine sr<|bx U<|λg3 w1 a1 D q1 z1=>(asg U<|nn<|sr<|mv U U<|z0k U D y2a ?_);have hM:=I.ext q1;refine cl (ev2 U) (mkC func130) (x6r wS O m o _ hM hi hy hn) U ?_;rintro _ w2 ⟨rfl,q2⟩;refine mv U U<|xt U<|xt U<|xt U<|asg U<|asg U<|asg U<|kpL (ll4 0 3 5 7) (csu U)<|nn<|sq<|sr<|mv U U<|ne' U<|nn<|cd U (λZ=>?_)<|λZ=>?_;refine sr<|mv U U<|asg U<|kpL (ll1 4) (csu U)<|nn<|rt<|tr<|r1 results71 U ?_;have hM:=I.ext<|q1.n1 q2;exact⟨_,rfl,MRet.err (by unfold y3h;rw[if_pos Z]) Z hM.fr⟩;refine sk<|tn<|sr<|mv U U<|fad U z4j ?_;have D:=D.ext q2;refine z0j U D U na5<|mv U U<|mv U U ?_;have hM:=I.ext<|q1.n1 q2;refine cl (z0a U<|z0a U<|z0a U<|z0a U z0f) (mkC func131) (x7y wS O m o.y (if z5o m.p o=0 then z6n m.p o else 0) (if z5o m.p o=0 then z6n m.p o else 0) _ hM hi hy) U ?_;rintro a2 w3 hR;refine asg U<|kpL (ll1 4) (csu U)<|nn<|rt<|r1 results71 U ?_;have a0:z5o m.p o=0:=l16.1 Z;rw[if_pos a0]at hR;exact⟨_,rfl,by rw[show y3h m.p o=_ from if_neg Z];exact hR⟩
theorem v5i:CallOf prog 134:=mkC func134
theorem y3q:z1d prog 145 5 6:=λ_ _=>kr
theorem j2z (wS:World)(ka:MA)(m:MQ)(o:MOp)(w0:World)(hM:MkM τd 145 wS ka w0 m)(hi:MInv m.p)(hn:z4d o.b o.p=0):Rets prog 73 #[pta ka.gk,opV o] w0 λr w'=>MRet τd 145 wS ka (y3p m.p o) r w':=by
 have f9:=hM.fr.size;have D:=hM.k;have f5:=D.lt;have f7:=hM.ly;have f6:=hM.lt;have e9:=(hM.y.out.blk ka.gy t10).2;have f8:=z2t hn;obtain⟨n,b7⟩:∃n:Nat,o.p=(n:Int):=⟨o.p.toNat,oo⟩;obtain⟨⟨hf,hb⟩,h4,e0⟩:=z3b hi.B;have hfl:m.q.p.flat.length+m.fl.length<=z4o (z2n m.ts):=hi.cnt;have f3:z4o (z2n m.ts)<=2048:=hi.all;have hv:BdOk m.q.p:=hi.B;have f2:=y7j hv o.b o.p;refine we [(0,pta ka.gk),(1,opV o)] func73 U ntmps73 U (.c2 U U) ?_;have a6:=hM;refine sr<|bx U<|λg3 w1 f4 O q1 z1=>(asg U<|nn<|sq ?_);have hM:=a6.ext q1;intro a h;refine z0h none (λwb w'=>Fr [] wb w') z2r ?_;intro w2 q2;have z2:=q2.size;have hM:=hM.ext q2;have D:=D.ext<|q1.n1 q2;have O:=O.ext q2;have hC:Fr [] w2 w2:=l12 _ _;have b0:=hM;have a2:=D;have a0:=O;refine z0e 0 h U λa h=>z0o 1 h U λa h=>z0c 2 h U z3p U λa h=>z1h (vs:=[_,_]) 3 h U (λ_ hw=>(a2.ext hw)) z5a U U λa h=>z0c 4 h U z5k U λa h=>z1h (vs:=[_,_]) 5 h U (λ_ hw=>(a0.ext hw)) z5n U U λa h=>z0d 6 U<|z0n h (z0a U<|z0a U z0f) v6v (y6u m.q o.b o.p _ hM.b.at oo hf hb h4 e0) ?_;rintro g0 w3 ⟨I,hq⟩ a h;have z3:=hq.size;have hM:=hM.ext hq;have D:=D.ext hq;have O:=O.ext hq;have hC:=hC.next hq;have q3:=hq;rw[y1g hn]at I;obtain⟨f0,f1,rfl,e8⟩:=I.sl.form;have b6:=λk hb=>(I.blk k hb).2;refine z0b<|z0d 7 U<|z0q h U λa h=>?_;refine z0b<|z0p ?_;clear hC b0 a2 a0;refine bk (h.sub (L':=ll3 0 3 5)<|csu U)<|tn<|sq<|sr<|mv U U<|lnS U underlying30<|eq' U<|nn<|cd U (λc0=>?_)<|λc0=>?_;exact sr<|asg U<|nn<|rt<|tr<|r1 results73 U ⟨_,rfl,MRet.err (if_pos<|l105.1 (show (m.q.p.at o.b o.p).length=0 by omega)) dd hM.fr⟩;refine sk<|tn<|sq ?_;intro a h;refine z0h none (λwb w'=>Fr [] wb w') z2r ?_;intro w4 q4;have z4:=q4.size;have hM:=hM.ext q4;have D:=D.ext q4;have O:=O.ext q4;have I:=I.ext q4;have hC:Fr [] w4 w4:=l12 _ _;have b0:=hM;have a2:=D;have a0:=O;have b4:=I;refine z0e 0 h U λa h=>z0o 1 h U λa h=>z0c 2 h U z3p U λa h=>z1h (vs:=[_,_]) 3 h U (λ_ hw=>(a2.ext hw)) z5a U U λa h=>z0c 4 h U z5k U λa h=>z1h (vs:=[_,_]) 5 h U (λ_ hw=>(a0.ext hw)) z5n U U λa h=>z1w 6 10 kr U ?_ ?_;refine z0n h (z0a U<|z0a U<|z0a U z0f) v5i (by have x:=x5n m.q o.b n (.slice none 0 0) [] _ hM.b.at (Sl.nil _) hv (by rw[<-b7];exact hn) sp0 sp0 (λi=>by have:=l81.1 hv.nd i;simp only[l125];omega);rw[<-b7]at x;exact x) ?_;rintro _ w5 ⟨⟨q',rfl,hQ,d4⟩,q5⟩ a h;have z5:=q5.size;have D:=D.ext q5;have O:=O.ext q5;have hC:=hC.next q5;have d0:=x3m hQ a6.f oo;refine z0b<|z0e 7 h U λa h=>z0l 8 h U λa h=>z0l 9 h U λa h=>z0d 10 U<|z0w h x5y U λw6 Z q6 hz a h=>?_;obtain⟨a5,hg⟩:∃g,g=w5.heap.size:=⟨_,rfl⟩;rw[<-hg]at Z h hz;have e3.gk_6:ka.gk<a5:=by have:=D.lt;omega
 have d3:g3<a5:=by have:=O.lt;omega
 have z6:=q6.size;have hM:=hM.ext<|q5.n1 q6;have D:=D.ext q6;have O:=O.ext q6;have I:=I.ext<|q5.n1 q6;first|have hQ:=BdO.ext hQ q6|have hQ:=BdO.tf hQ q6 (OffT.one Z dd)<|OffT.one Z dd
 have hC:=hC.next q6;refine z0b<|z0d 11 U<|z0t h U Z U x1k λw7 b3 q7 hz a h=>?_;have z7:=q7.size;have D:=D.fr q7;have O:=O.fr q7;have I:=I.fr q7 (by intro k D a1;simp at D;subst D;have:=b6 _ a1;have b8:=(I.blk _ a1).1;omega);first|have hQ:=BdO.ext hQ q7|have hQ:=BdO.tf hQ q7 (OffT.one Z dd)<|OffT.one Z dd
 have hC:=hC.sp q7;have Z:Blk w7 a5 _ [_,_]:=b3;clear b3;refine z0b<|z0d 12 U<|z0q h U λa h=>?_;refine z0b<|z0p ?_;clear hC b0 a2 a0 b4;refine bk (h.sub (L':=ll4 0 5 6 7)<|csu U)<|tn<|sq<|sr<|mv U U<|ne' U<|nn<|cd U (λc1=>?_)<|λc1=>?_;exact absurd U c1;refine sk<|tn<|sr<|mv U U<|z0k U Z z5a<|nlc U<|fad U z3p ?_;have hM:=a6.ext<|q1.z6 q2 q3 q4 q5 q6 q7;refine z5j (cs':=u7n ka { m with q:=q' }) U U hM.k t44 x1k U<|λw8 a3 q8 z8=>?_;have hM:=hM.beds mtd (hQ.low oo) a3 q8 d0;have D:=hM.k;have a6:=hM;have c9:=hM;have hF:Lw.Own z1g 64 wS.heap.size _ (slv m.fa) m.fl:=hM.f;clear a3;refine kpL (ll2 0 5) (csu U)<|nn<|sr<|mv U U<|mv U U<|nlc U<|fad U y3q<|z0j U D U z6f<|mv U U ?_;have I:=I.fr q8 (by intro k D a1;simp at D;subst D;have:=b6 _ a1;have b8:=(I.blk _ a1).1;omega);have a7:=hF;refine z2k U hF I.sl z4k (λe6 w9 hF q9 a8=>?_) (hM:=t42) (hb:=oo);have d6:=q9;obtain⟨b1,b2,rfl,d7⟩:=hF.sl.form;have b5:∀k∈z0u (.slice b1 (m.fl++(m.q.p.at o.b o.p)).length b2),k∈z0u (slv m.fa)\/_<=k:=λk D=>by
  rcases a8 with e|e|e
  exact .inl (congrArg z0u e▸D);exact .inl (e▸D);rw[e,l11]at D;exact .inr<|Nat.le_of_eq D.symm
 have z9:=q9.size;have D:=D.fr q9<|λd1=>a7.neB D dd d1;refine nlc U<|fad U y3q<|z3j U D U u9s<|λg1 a3 e4 g9=>?_;have b9:=c9.fall mtd dd (u:=(b1,(m.fl++(m.q.p.at o.b o.p)).length,b2)) hF d6 b5 a3 e4;refine kpL [] .nil<|nn<|sr<|asg U<|nn<|rt<|r1 results73 U ?_;exact⟨_,rfl,MRet.ok (by rw[show y3p m.p o=_ from if_neg<|λe=>c0 (by rw[show (m.q.p.at o.b o.p)=[] from e];rfl)];exact congrArg Except.ok (by unfold MQ.p;simp only[d4])) b9⟩;refine z0w h x5y U λg4 Z a9 hz a h=>?_;obtain⟨a5,hg⟩:∃g,g=w4.heap.size:=⟨_,rfl⟩;rw[<-hg]at Z h hz;have e3.gk_6:ka.gk<a5:=by have:=D.lt;omega
 have d3:g3<a5:=by have:=O.lt;omega
 have h0:=a9.size;have hM:=hM.ext a9;have hC:=hC.next a9;refine z0b<|z0d 6 U<|z0n h (z0a U<|z0a U<|z0a U z0f) v5i (by have x:=x5n m.q o.b n (.slice none 0 0) [] _ hM.b.at (Sl.nil _) hv (by rw[<-b7];exact hn) sp0 sp0 (λi=>by have:=l81.1 hv.nd i;simp only[l125];omega);rw[<-b7]at x;exact x) ?_;rintro _ g5 ⟨⟨q',rfl,hQ,d4⟩,q12⟩ a h;have h1:=q12.size;have hM:=hM.ext q12;have D:=D.ext<|a9.n1 q12;have O:=O.ext<|a9.n1 q12;have I:=I.ext<|a9.n1 q12;have Z:=Z.ext q12;have hC:=hC.next q12;have d0:=x3m hQ a6.f oo;refine z0b<|z0e 7 h U λa h=>z0l 8 h U λa h=>z0l 9 h U λa h=>z0d 11 U<|z0t h U Z U x1k λe7 b3 a4 hz a h=>?_;have h2:=a4.size;have D:=D.fr a4;have O:=O.fr a4;have I:=I.fr a4 (by intro k D a1;simp at D;subst D;have:=b6 _ a1;have b8:=(I.blk _ a1).1;omega);first|have hQ:=BdO.ext hQ a4|have hQ:=BdO.tf hQ a4 (OffT.one Z dd)<|OffT.one Z dd
 have hC:=hC.sp a4;have Z:Blk e7 a5 _ [_,_]:=b3;clear b3;refine z0b<|z0d 12 U<|z0q h U λa h=>?_;refine z0b<|z0p ?_;clear hC b0 a2 a0 b4;refine bk (h.sub (L':=ll4 0 5 6 7)<|csu U)<|tn<|sq<|sr<|mv U U<|ne' U<|nn<|cd U (λc1=>?_)<|λc1=>?_;exact absurd U c1;refine sk<|tn<|sr<|mv U U<|z0k U Z z5a<|nlc U<|fad U z3p ?_;have hM:=a6.ext<|q1.z6 q2 q3 q4 a9 q12 a4;refine z5j (cs':=u7n ka { m with q:=q' }) U U hM.k t44 x1k U<|λg6 a3 d9 h3=>?_;have hM:=hM.beds mtd (hQ.low oo) a3 d9 d0;have D:=hM.k;have a6:=hM;have c9:=hM;have hF:Lw.Own z1g 64 wS.heap.size _ (slv m.fa) m.fl:=hM.f;clear a3;refine kpL (ll2 0 5) (csu U)<|nn<|sr<|mv U U<|mv U U<|nlc U<|fad U y3q<|z0j U D U z6f<|mv U U ?_;have I:=I.fr d9 (by intro k D a1;simp at D;subst D;have:=b6 _ a1;have b8:=(I.blk _ a1).1;omega);have a7:=hF;refine z2k U hF I.sl z4k (λe6 g7 hF d5 a8=>?_) (hM:=t42) (hb:=oo);have d6:=d5;obtain⟨b1,b2,rfl,d7⟩:=hF.sl.form;have b5:∀k∈z0u (.slice b1 (m.fl++(m.q.p.at o.b o.p)).length b2),k∈z0u (slv m.fa)\/_<=k:=λk D=>by
  rcases a8 with e|e|e
  exact .inl (congrArg z0u e▸D);exact .inl (e▸D);rw[e,l11]at D;exact .inr<|Nat.le_of_eq D.symm
 have h5:=d5.size;have D:=D.fr d5<|λd1=>a7.neB D dd d1;refine nlc U<|fad U y3q<|z3j U D U u9s<|λg8 a3 e5 h6=>?_;have b9:=c9.fall mtd dd (u:=(b1,(m.fl++(m.q.p.at o.b o.p)).length,b2)) hF d6 b5 a3 e5;refine kpL [] .nil<|nn<|sr<|asg U<|nn<|rt<|r1 results73 U ?_;exact⟨_,rfl,MRet.ok (by rw[show y3p m.p o=_ from if_neg<|λe=>c0 (by rw[show (m.q.p.at o.b o.p)=[] from e];rfl)];exact congrArg Except.ok (by unfold MQ.p;simp only[d4])) b9⟩
theorem u0f (b p r:Int)(w0:World)(hn:z4d b p=0)(hr:-4<=r/\r<=4):Rets prog 133 #[.agg #[.int .u8 b,.int .i64 p],.int .i64 r] w0 λv w'=>(∃b' p':Int,v=.tuple #[.agg #[.int .u8 b',.int .i64 p'],.int .i64 (if z4d (1-b) (z5q b p r)≠0 then 11 else 0)]/\(z4d (1-b) (z5q b p r)=0->b'=1-b/\p'=z5q b p r))/\Fr [] w0 w':=by
 have a4:=z2t hn;refine we [(0,.agg #[.int .u8 b,.int .i64 p]),(1,.int .i64 r)] func133 U ntmps133 U (.c2 U U)<|sr<|bx U<|λg2 w1 a5 O q1 z1=>(al x9o U<|λg4 w2 a6 D q2 z2=>(asg U<|nn<|sq<|sr ?_));have O:=O.ext q2;refine z0k U O z5n<|cl (ev1 U) u2r (z5i _ _ _) U ?_;rintro _ w3 ⟨rfl,q3⟩;have z3:=q3.size;refine ne' U<|nn<|cd U (λc0=>?_)<|λc0=>?_;refine sr<|z1u (cs:=[_,_]) z0f y7p z0r U ?_;have D:=D.ext q3;exact z0i (vs:=[_,_]) U D y4h<|λw4 D q4 z4=>(asg U<|nn<|rt<|tr<|rCT results133 U D z5n U<|absurd hn c0);refine sk<|tn<|sq<|sr<|mv U U<|cl (ev1 U) (mkC func159) (x4e _ _) U ?_;rintro _ w5 ⟨rfl,q5⟩;have z5:=q5.size;refine nt' U<|nn<|cd U (λc1=>?_)<|λc1=>?_;refine sr<|z1u (cs:=[_,_]) z0f y7p z0r U ?_;have D:=D.ext<|q3.n1 q5;exact z0i (vs:=[_,_]) U D y4h<|λw6 D q6 z6=>(asg U<|nn<|rt<|tr<|rCT results133 U D z5n U<|absurd hr c1);refine sk<|tn<|sr<|fad U z6r ?_;have O:=O.ext<|q3.n1 q5;refine z0j U O U na3<|mv U U<|z2j U (wi6 oo)<|z1u (cs:=[_,_]) (ev2 U) y7p (z0g U<|z0g U z0r) U ?_;refine al x9o U<|λg6 w7 a7 I q7 z7=>(z0i (vs:=[_,_]) U I y4h<|λw8 I q8 z8=>(kpL (ll4 1 2 4 6) (csu U)<|nn<|jn (ι:=Unit) (ll2 4 6) (λ_j=>[]) (λ_j w'=>Fr [g6] w8 w'/\Blk w' g6 42 [.int .u8 (1-b),.int .i64 (z5q b p r)]) (csu U) ?_ ?_));refine sr<|fad U z6s ?_;have O:=(O.ext q7).fr q8;refine z0j U O U x8d<|eq' U<|nn<|cd U (λc2=>?_)<|λc2=>?_;refine rg<|fad U z6r<|z0j U O U na3<|mv U U<|z0v U (wi6 oo)<|z1u (cs:=[_,_]) (ev2 U) y7p (z0g U<|z0g U z0r) U ?_;exact z0i (vs:=[_,_]) U I y4h<|λw9 I q9 z9=>(kpL (ll2 4 6) (csu U)<|nl<|jE (()) (csu U) ⟨((l12 [g6] _).z1 q9),(by rw[show z5q b p r=p+r from if_pos c2,show 1-b=0 by omega];exact I)⟩);exact sk<|jE (()) (csu U) ⟨(l12 _ _),(by rw[show z5q b p r=p-r from if_neg c2,show 1-b=1 by omega];exact I)⟩;rintro _j a8 ⟨a0,I⟩;have b2:=a0.size;have a1:=I.lt;refine kpC (ll2 4 6) (csu U)<|sq<|sr<|z0k U I z5n<|cl (ev1 U) u2r (z5i _ _ _) U ?_;rintro _ a9 ⟨rfl,Z⟩;have b3:=Z.size;refine ne' U<|nn<|cd U (λc3=>?_)<|λc3=>?_;refine sr<|z1u (cs:=[_,_]) z0f y7p z0r U ?_;have D:=(((D.ext<|q3.n2 q5 q7).fr q8).fr a0).ext Z;exact z0i (vs:=[_,_]) U D y4h<|λb0 D a2 b4=>(asg U<|nn<|rt<|tr<|rCT results133 U D z5n U ⟨_,rfl,⟨0,0,by rw[if_pos c3],λe=>absurd e c3⟩,(((q1.z6 q2 q3 q5 q7 q8 a0).n1 Z).z1 a2)⟩);refine sk<|tn<|sr ?_;have I:=I.ext Z;refine z0k U I z5n ?_;have D:=(((D.ext<|q3.n2 q5 q7).fr q8).fr a0).ext Z;exact z0i (vs:=[_,_]) U D y4h<|λb1 D a3 b5=>(asg U<|nn<|rt<|rCT results133 U D z5n U ⟨_,rfl,⟨_,_,by rw[if_neg c3],λ_=>⟨rfl,rfl⟩⟩,(((q1.z6 q2 q3 q5 q7 q8 a0).n1 Z).z1 a3)⟩)
def BdOIf (c:Prop)(Sτ I base:Nat)(w:World)(q:BdQ):Prop:=c->BdO Sτ I base w q
theorem BdOIf.ext {c:Prop}{D I base:Nat}{w w':World}{q:BdQ}(h:BdOIf c D I base w q)(hf:Fr [] w w'):BdOIf c D I base w' q:=λO=>(h O).ext hf
theorem BdOIf.tf {c:Prop}{D I base:Nat}{w w':World}{q:BdQ}{S:List Nat}(h:BdOIf c D I base w q)(hf:Fr S w w')(Z:OffT w D S)(O:OffT w I S):BdOIf c D I base w' q:=λhc=>BdO.tf (h hc) hf Z O
theorem x2f {p:MSt}{o:MOp}(h:o.b=0\/o.b=1):y1w p.B o.b o.p (z5q o.b o.p p.rk)=y0z p o:=by
 unfold y1w y0z;rcases h with e|e<;>rw[e]<;>rfl
theorem j2d (wS:World)(ka:MA)(m:MQ)(o:MOp)(w0:World)(hM:MkM τd 145 wS ka w0 m)(hi:MInv m.p)(hn:z4d o.b o.p=0):Rets prog 72 #[pta ka.gk,opV o] w0 λr w'=>MRet τd 145 wS ka (z8i m.p o) r w':=by
 have i9:=hM.fr.size;have hk:=hM.k;have i3:=hk.lt;have i5:=hM.ly;have i4:=hM.lt;have h6:=(hM.y.out.blk ka.gy t10).2;have e8:=z2t hn;obtain⟨n,d4⟩:∃n:Nat,o.p=(n:Int):=⟨o.p.toNat,oo⟩;obtain⟨⟨hf,hb⟩,h4,f4⟩:=z3b hi.B;have hv:BdOk m.q.p:=hi.B;have i0:=y7j hv o.b o.p;have e9:-4<=m.rk/\m.rk<=4:=hi.rk;have i7:=y6z o.b o.p m.rk;have i8:=y6z (1-o.b) (z5q o.b o.p m.rk) m.rk;refine we [(0,pta ka.gk),(1,opV o)] func72 U ntmps72 U (.c2 U U) ?_;have a3:=hM;refine sr<|bx U<|λg3 w1 i1 D q1 z1=>(asg U<|nn<|sq<|sq ?_);have hM:=a3.ext q1;intro a h;refine z0h none (λwb w'=>Fr [] wb w') z2r ?_;intro w2 q2;have z2:=q2.size;have hM:=hM.ext q2;have hk:=hk.ext<|q1.n1 q2;have D:=D.ext q2;have hC:Fr [] w2 w2:=l12 _ _;have a4:=hM;have a0:=hk;have Z:=D;refine z0e 0 h U λa h=>z0o 1 h U λa h=>z0c 2 h U z3p U λa h=>z1h (vs:=[_,_]) 3 h U (λ_ hw=>(a0.ext hw)) z5a U U λa h=>z0c 4 h U z5k U λa h=>z1h (vs:=[_,_]) 5 h U (λ_ hw=>(Z.ext hw)) z5n U U λa h=>z0d 6 U<|z0n h (z0a U<|z0a U z0f) v6v (y6u m.q o.b o.p _ hM.b.at oo hf hb h4 f4) ?_;rintro j0 w3 ⟨e0,hq⟩ a h;have z3:=hq.size;have hM:=hM.ext hq;have hk:=hk.ext hq;have D:=D.ext hq;have hC:=hC.next hq;have q3:=hq;rw[y1g hn]at e0;obtain⟨h8,h9,rfl,h5⟩:=e0.sl.form;refine z0b<|z7v 7 hC h wn U underlying30 U λa h=>x4x 8 hC h wn U λa h=>z0p ?_;clear hC a4 a0 Z;refine bk (h.sub (L':=ll3 0 3 19)<|csu U)<|tn<|cd U (λc0=>?_)<|λc0=>?_;exact sr<|asg U<|nn<|rt<|tr<|r1 results72 U ⟨_,rfl,MRet.err (if_pos<|l105.1 (show (m.q.p.at o.b o.p).length=0 by omega)) dd hM.fr⟩;have c9:(m.q.p.at o.b o.p)≠[]:=λe=>c0 (by rw[e];rfl);refine sk<|tn<|jn (ι:=Nat×Int×Int) (ll2 0 3) (λz_=>[(5,pta z_.1),(6,.int .i64 (if z4d (1-o.b) (z5q o.b o.p m.rk)≠0 then 11 else 0))]) (λz_ w'=>Fr [] w3 w'/\(w3.heap.size<=z_.1/\Blk w' z_.1 42 [.int .u8 z_.2.1,.int .i64 z_.2.2])/\(z4d (1-o.b) (z5q o.b o.p m.rk)=0->z_.2.1=1-o.b/\z_.2.2=z5q o.b o.p m.rk)) (csu U) ?_ ?_;intro a h;refine z0h none (λwb w'=>Fr [] wb w') z2r ?_;intro w4 q4;have z4:=q4.size;have hM:=hM.ext q4;have hk:=hk.ext q4;have D:=D.ext q4;have hC:Fr [] w4 w4:=l12 _ _;have a4:=hM;have a0:=hk;have Z:=D;refine z0c 0 h U z5k U λa h=>z1h (vs:=[_,_]) 1 h U (λ_ hw=>(Z.ext hw)) z5n U U λa h=>z0e 2 h U λa h=>z0o 3 h U λa h=>z0c 4 h U z4i U λa h=>z0m 5 h U (λ_ hw=>a0.ext hw) U na3 U λa h=>z1w 6 10 kr U ?_ ?_;refine z0n h (z0a U<|z0a U z0f) (mkC func133) (u0f o.b o.p m.rk _ hn e9) ?_;rintro _ w5 ⟨⟨bn,pn,rfl,a1⟩,q5⟩ a h;have z5:=q5.size;have hk:=hk.ext q5;have D:=D.ext q5;have hC:=hC.next q5;refine z0b<|z0e 7 h U λa h=>z0l 8 h U λa h=>z0l 9 h U λa h=>z0d 10 U<|z0w h x9o U λw6 I q6 hz a h=>?_;obtain⟨b3,hg⟩:∃g,g=w5.heap.size:=⟨_,rfl⟩;rw[<-hg]at I h hz;have e3.gk_5:ka.gk<b3:=by have:=hk.lt;omega
 have e4:g3<b3:=by have:=D.lt;omega
 have z6:=q6.size;have hk:=hk.ext q6;have D:=D.ext q6;have hC:=hC.next q6;refine z0b<|z0d 11 U<|z0t h U I U y4h ?_ (h1:=(by first|(simp[Value.oneCell',S];done)|exact z3l.one<|m.ys.getD i yq0));intro w7 a1 q7 hz a h;have z7:=q7.size;have hk:=hk.fr q7;have D:=D.fr q7;have hC:=hC.sp q7;have I:Blk w7 b3 _ [_,_]:=a1;clear a1;refine z0b<|z0d 12 U<|z0q h U λa h=>?_;refine z0b<|z0p ?_;clear hC a4 a0 Z;exact bk (h.sub (L':=ll4 0 3 5 6)<|csu U)<|jE ((b3,bn,pn)) (csu U) ⟨(q4.z3 q5 q6 q7),⟨⟨sm,I⟩,a1⟩⟩;refine z0w h x9o U λw8 I q8 hz a h=>?_;obtain⟨b3,hg⟩:∃g,g=w4.heap.size:=⟨_,rfl⟩;rw[<-hg]at I h hz;have e3.gk_5:ka.gk<b3:=by have:=hk.lt;omega
 have e4:g3<b3:=by have:=D.lt;omega
 have z8:=q8.size;have hC:=hC.next q8;refine z0b<|z0d 6 U<|z0n h (z0a U<|z0a U z0f) (mkC func133) (u0f o.b o.p m.rk _ hn e9) ?_;rintro _ w9 ⟨⟨bn,pn,rfl,a1⟩,q9⟩ a h;have z9:=q9.size;have hk:=hk.ext<|q8.n1 q9;have D:=D.ext<|q8.n1 q9;have I:=I.ext q9;have hC:=hC.next q9;refine z0b<|z0e 7 h U λa h=>z0l 8 h U λa h=>z0l 9 h U λa h=>z0d 11 U<|z0t h U I U y4h ?_ (h1:=(by first|(simp[Value.oneCell',S];done)|exact z3l.one<|m.ys.getD i yq0));intro g4 a1 d7 hz a h;have k1:=d7.size;have hk:=hk.fr d7;have D:=D.fr d7;have hC:=hC.sp d7;have I:Blk g4 b3 _ [_,_]:=a1;clear a1;refine z0b<|z0d 12 U<|z0q h U λa h=>?_;refine z0b<|z0p ?_;clear hC a4 a0 Z;exact bk (h.sub (L':=ll4 0 3 5 6)<|csu U)<|jE ((b3,bn,pn)) (csu U) ⟨(q4.z3 q8 q9 d7),⟨⟨sm,I⟩,a1⟩⟩;rintro⟨g5,bn,pn⟩ j1 ⟨a9,⟨⟨f8,I⟩,a1⟩⟩;have k2:=a9.size;have f3:=I.lt;simp only at f8 I a1;refine kpC [(0,_),(3,_),(5,pta g5),(6,_)] (csu U)<|sq<|sr<|mv U U<|ne' U<|nn<|cd U (λc1=>?_)<|λc1=>?_;refine sr<|mv U U<|asg U<|kpL (ll1 4) (csu U)<|nn<|rt<|tr<|r1 results72 U ?_;have hM:=a3.ext<|q1.n3 q2 q3 a9;have a8:z4d (1-o.b) (z5q o.b o.p m.rk)≠0:=λe=>c1 (by rw[if_neg (λh=>h e)]);exact⟨_,rfl,by rw[if_pos a8];exact MRet.err (by rw[z8i,if_neg c9,if_pos a8]) dd hM.fr⟩;have a8:z4d (1-o.b) (z5q o.b o.p m.rk)=0:=l16.1 λe=>c1 (by rw[if_pos e];decide);obtain⟨rfl,rfl⟩:=a1 a8;have h7:=z2t a8;obtain⟨n2,d3⟩:∃n2:Nat,z5q o.b o.p m.rk=(n2:Int):=⟨(z5q o.b o.p m.rk).toNat,oo⟩;refine sk<|tn<|sq ?_;have hM:=a3.ext<|q1.n3 q2 q3 a9;intro a h;refine z0h none (λwb w'=>Fr [] wb w') z2r ?_;intro f2 b0;have k4:=b0.size;have hM:=hM.ext b0;have hk:=hk.ext<|a9.n1 b0;have D:=D.ext<|a9.n1 b0;have I:=I.ext b0;have hC:Fr [] f2 f2:=l12 _ _;have a4:=hM;have a0:=hk;have Z:=D;have a5:=I;refine z0c 0 h U z5k U λa h=>z1h (vs:=[_,_]) 1 h U (λ_ hw=>(Z.ext hw)) z5n U U λa h=>z0e 2 h U λa h=>z0o 3 h U λa h=>z0c 4 h U z4i U λa h=>z0m 5 h U (λ_ hw=>a0.ext hw) U na3 U λa h=>z0x 7 h U (λ_ hw=>a5.ext hw) z5n U λa h=>z0e 8 h U λa h=>z0o 9 h U λa h=>z0c 10 h U z4i U λa h=>z0m 11 h U (λ_ hw=>a0.ext hw) U na3 U λa h=>z0d 6 U<|z0n h (z0a U<|z0a U z0f) v2y (y3w _ _ _ _ oo) ?_;rintro _ j2 ⟨rfl,a6⟩ a h;have k5:=a6.size;have hC:=hC.next a6;refine z0b<|z0d 12 U<|z0n h (z0a U<|z0a U z0f) v2y (y3w _ _ _ _ oo) ?_;rintro _ g6 ⟨rfl,a7⟩ a h;have k6:=a7.size;have hM:=hM.ext<|a6.n1 a7;have hk:=hk.ext<|a6.n1 a7;have D:=D.ext<|a6.n1 a7;have I:=I.ext<|a6.n1 a7;have hC:=hC.next a7;refine z0b<|j7t 13 kr kr kr hC h wn U U U U λa h=>z6h 14 h U t13 U λa h=>z0d 15 U<|z0q h U λa h=>?_;refine z0b<|z0p ?_;clear hC a4 a0 Z a5;refine bk (h.sub (L':=ll4 0 3 5 7)<|csu U)<|tn<|sq<|sr<|mv U U<|nlc U<|fad U z3r<|z0j U hk U y4s<|lnS U underlying26<|mv U U<|nn<|bl<|lpK (ι:=Nat) (ll6 0 3 5 7 51 52) (λi=>[(53,.int .i64 (i:Int))]) (λi w'=>Fr [] g6 w'/\i<=6/\∀k,k<i->¬((m.ys.getD k yq0).inn=true/\(m.ys.getD k yq0).pl=(x6s m.p o))) (λi=>6-i) 0 (csu U) ⟨l12 _ _,⟨l17 _,λj h=>absurd h oo⟩⟩ ?_;rintro i j3 ⟨b1,⟨hi,hz⟩⟩;have k7:=b1.size;refine kpC (ll7 0 3 5 7 51 52 53) (csu U)<|sr<|lt' U<|nn<|sq<|cd U (λc2=>?_)<|λc2=>?_;refine sk<|tn<|sq<|bl<|sr ?_;have hM:=a3.ext<|(q1.n6 q2 q3 a9 b0 a6 a7).n1 b1;refine z1b (yq0) U hM.y.out.sl U y5d z1j<|λh3 e7=>?_;refine z1q U (e7 _ hM.y.out.sl) z3k<|al z6g U<|λg9 j4 i2 d9 f0 k8=>?_;refine z0i (vs:=[_,_,_,_,_]) U d9 z3m (λj5 d9 f1 k9=>?_) (h1:=(by first|(simp[Value.oneCell',S];done)|exact z3l.one<|m.ys.getD i yq0));refine nn<|sq<|rbo (r:=64) (L':=ll7 0 3 5 7 51 52 53) (((m.ys.getD i yq0).inn=true/\((m.ys.getD i yq0).pl=((min (z2f o.b o.p m.rk)<|z2f (1-o.b) (z5q o.b o.p m.rk) m.rk)+1)))) (csu U) ?_ ?_;refine fad U z8z<|z0j U d9 U na4<|mv U U<|gs 59 U (λg0=>?_)<|λg0=>?_;exact gY U<|fad U z5v<|gY U<|z0j U d9 U na3<|gY U<|mv U U<|gY U<|eq' U<|pkt U<|rbe U<|csu U;exact gN U<|gN U<|gN U<|gN U<|pkf U<|rbe U<|csu U;refine tn<|cd U (λc3=>?_)<|λc3=>?_;refine sr<|asg U<|kpL (ll1 4) (csu U)<|nn<|rt<|rb<|tr<|tr<|rb<|tr<|r1 results72 U ?_;have hM:=a3.ext<|(((q1.n6 q2 q3 a9 b0 a6 a7).n1 b1).n1 f0).z1 f1;exact⟨_,rfl,MRet.err (by rw[z8i,if_neg c9,if_neg (λh=>h a8),if_pos (⟨_,l54.2 ⟨m.ys.getD i yq0,z0z oo,rfl⟩,c3⟩:∃y∈m.p.ys,y.inn=true/\y.pl=x6s m.p o)]) dd hM.fr⟩;refine sk<|bn'<|tn<|rg<|z0v U (wi6 oo)<|mv U U<|nl ?_;exact lpE (i+1) (csu U) ⟨(b1.z2 f0 f1),⟨oo,λk h=>by
  by_cases e:k=i;subst e;exact c3;exact hz k oo⟩⟩ oo
 have b6:¬ ∃y∈m.p.ys,y.inn=true/\y.pl=x6s m.p o:=by
  rintro⟨y,hy,h1,h2⟩;obtain⟨z,f7,rfl⟩:=l54.1 hy;obtain⟨k,f6,rfl⟩:=l29 f7;refine hz k oo ?_;rw[List.getD,l10 f6];exact⟨h1,h2⟩
 refine ex<|te<|te<|xh<|tn<|sq ?_;have hM:=a3.ext<|(q1.n6 q2 q3 a9 b0 a6 a7).n1 b1;intro a h;refine z0h none (λwb w'=>Fr [] wb w') z2r ?_;intro e6 b7;have l0:=b7.size;have hM:=hM.ext b7;have hk:=hk.ext<|b1.n1 b7;have D:=D.ext<|b1.n1 b7;have I:=I.ext<|b1.n1 b7;have hC:Fr [] e6 e6:=l12 _ _;have a4:=hM;have a0:=hk;have Z:=D;have a5:=I;refine z0e 0 h U λa h=>z0o 1 h U λa h=>z0c 2 h U z3p U λa h=>z1h (vs:=[_,_]) 3 h U (λ_ hw=>(a0.ext hw)) z5a U U λa h=>z0c 4 h U z5k U λa h=>z1h (vs:=[_,_]) 5 h U (λ_ hw=>(Z.ext hw)) z5n U U λa h=>z0x 6 h U (λ_ hw=>a5.ext hw) z5n U λa h=>z1w 7 11 kr U ?_ ?_;refine z0n h (z0a U<|z0a U<|z0a U z0f) (mkC func124) (by have x:=x0i m.q o.b n n2 _ hM.b.at hv (by rw[<-d4];exact hn) (by rw[<-d3];exact a8) (by rw[<-d4];exact c9);rw[<-d4,<-d3]at x;exact x) ?_;rintro _ g7 ⟨⟨q',rfl,d5⟩,q19⟩ a h;have l1:=q19.size;have hk:=hk.ext q19;have D:=D.ext q19;have I:=I.ext q19;have hC:=hC.next q19;have hQ:BdOIf (¬4<(m.q.p.at o.b o.p).length+(m.q.p.at (1-o.b)<|z5q o.b o.p m.rk).length) 30 64 _ _ q':=λhc=>(d5 hc).1;have e5:=λhc=>(d5 hc).2;have d1:=λhc=>x3m (hQ hc) a3.f oo;refine z0b<|z0e 8 h U λa h=>z0l 9 h U λa h=>z0l 10 h U λa h=>z0d 11 U<|z0w h x5y U λj6 O b2 hz a h=>?_;obtain⟨a2,hg⟩:∃g,g=g7.heap.size:=⟨_,rfl⟩;rw[<-hg]at O h hz;have e3.gk_10:ka.gk<a2:=by have:=hk.lt;omega
 have b4:g3<a2:=by have:=D.lt;omega
 have b4:g5<a2:=by have:=I.lt;omega
 have l2:=b2.size;have hM:=hM.ext<|q19.n1 b2;have hk:=hk.ext b2;have D:=D.ext b2;have I:=I.ext b2;first|have hQ:=BdOIf.ext hQ b2|have hQ:=BdOIf.tf hQ b2 (OffT.one O dd)<|OffT.one O dd
 have hC:=hC.next b2;refine z0b<|z0d 12 U<|z0t h U O U x1k ?_ (h1:=(by first|(simp[Value.oneCell',S];done)|exact z3l.one<|m.ys.getD i yq0));intro g8 a1 b8 hz a h;have l3:=b8.size;have hk:=hk.fr b8;have D:=D.fr b8;have I:=I.fr b8;first|have hQ:=BdOIf.ext hQ b8|have hQ:=BdOIf.tf hQ b8 (OffT.one O dd)<|OffT.one O dd
 have hC:=hC.sp b8;have O:Blk g8 a2 _ [_,_]:=a1;clear a1;refine z0b<|z0d 13 U<|z0q h U λa h=>?_;refine z0b<|z0p ?_;clear hC a4 a0 Z a5;refine bk (h.sub (L':=ll3 0 6 10)<|csu U)<|tn<|sq<|sr<|mv U U<|eq' U<|nn<|cd U (λc4=>?_)<|λc4=>?_;have b5:¬4<(m.q.p.at o.b o.p).length+(m.q.p.at (1-o.b)<|z5q o.b o.p m.rk).length:=λe=>by rw[if_pos e]at c4;exact absurd c4 dd
 have hQ:=hQ b5;have d1:=d1 b5;refine rg<|mv U U<|z0k U O z5a<|nlc U<|fad U z3p ?_;have hM:=a3.ext<|(((q1.n6 q2 q3 a9 b0 a6 a7).n1 b1).n1 b7).z3 q19 b2 b8;refine z5j (cs':=u7n ka { m with q:=q' }) U U hM.k t44 x1k U<|λj7 d6 f9 l4=>?_;have hM:=hM.beds mtd (hQ.low oo) d6 f9 d1;have hk:=hM.k;have a3:=hM;have f5:=hM;have hF:Lw.Own z1g 64 wS.heap.size _ (slv m.fa) m.fl:=hM.f;clear d6;refine kpL (ll1 6) (csu U)<|nl<|tn<|sr<|mv U U<|asg U<|nn<|rt<|r1 results72 U ?_;exact⟨_,rfl,by rw[c4];exact MRet.ok (by rw[z8i,if_neg c9,if_neg (λh=>h a8),if_neg b6,if_neg b5];exact congrArg Except.ok (by have hj:y1w m.q.p o.b o.p (z5q o.b o.p m.rk)=y0z m.p o:=x2f (p:=m.p) e8.1;unfold MQ.p;simp only[e5 b5];rw[hj])) hM⟩;refine sk<|tn<|sr<|mv U U<|asg U<|nn<|rt<|r1 results72 U ?_;have hM:=a3.ext<|(((q1.n6 q2 q3 a9 b0 a6 a7).n1 b1).n1 b7).z3 q19 b2 b8;exact⟨_,rfl,MRet.err (by rw[z8i,if_neg c9,if_neg (λh=>h a8),if_neg b6,if_pos (l16.1 λe=>c4<|if_neg e)];rw[if_pos (l16.1 λe=>c4<|if_neg e)]) c4 hM.fr⟩;refine z0w h x5y U λj8 O d0 hz a h=>?_;obtain⟨a2,hg⟩:∃g,g=e6.heap.size:=⟨_,rfl⟩;rw[<-hg]at O h hz;have e3.gk_10:ka.gk<a2:=by have:=hk.lt;omega
 have b4:g3<a2:=by have:=D.lt;omega
 have b4:g5<a2:=by have:=I.lt;omega
 have l5:=d0.size;have hM:=hM.ext d0;have hC:=hC.next d0;refine z0b<|z0d 7 U<|z0n h (z0a U<|z0a U<|z0a U z0f) (mkC func124) (by have x:=x0i m.q o.b n n2 _ hM.b.at hv (by rw[<-d4];exact hn) (by rw[<-d3];exact a8) (by rw[<-d4];exact c9);rw[<-d4,<-d3]at x;exact x) ?_;rintro _ j9 ⟨⟨q',rfl,d5⟩,q24⟩ a h;have l6:=q24.size;have hM:=hM.ext q24;have hk:=hk.ext<|d0.n1 q24;have D:=D.ext<|d0.n1 q24;have I:=I.ext<|d0.n1 q24;have O:=O.ext q24;have hC:=hC.next q24;have hQ:BdOIf (¬4<(m.q.p.at o.b o.p).length+(m.q.p.at (1-o.b)<|z5q o.b o.p m.rk).length) 30 64 _ _ q':=λhc=>(d5 hc).1;have e5:=λhc=>(d5 hc).2;have d1:=λhc=>x3m (hQ hc) a3.f oo;refine z0b<|z0e 8 h U λa h=>z0l 9 h U λa h=>z0l 10 h U λa h=>z0d 12 U<|z0t h U O U x1k ?_ (h1:=(by first|(simp[Value.oneCell',S];done)|exact z3l.one<|m.ys.getD i yq0));intro h0 a1 b9 hz a h;have l7:=b9.size;have hk:=hk.fr b9;have D:=D.fr b9;have I:=I.fr b9;first|have hQ:=BdOIf.ext hQ b9|have hQ:=BdOIf.tf hQ b9 (OffT.one O dd)<|OffT.one O dd
 have hC:=hC.sp b9;have O:Blk h0 a2 _ [_,_]:=a1;clear a1;refine z0b<|z0d 13 U<|z0q h U λa h=>?_;refine z0b<|z0p ?_;clear hC a4 a0 Z a5;refine bk (h.sub (L':=ll3 0 6 10)<|csu U)<|tn<|sq<|sr<|mv U U<|eq' U<|nn<|cd U (λc4=>?_)<|λc4=>?_;have b5:¬4<(m.q.p.at o.b o.p).length+(m.q.p.at (1-o.b)<|z5q o.b o.p m.rk).length:=λe=>by rw[if_pos e]at c4;exact absurd c4 dd
 have hQ:=hQ b5;have d1:=d1 b5;refine rg<|mv U U<|z0k U O z5a<|nlc U<|fad U z3p ?_;have hM:=a3.ext<|(((q1.n6 q2 q3 a9 b0 a6 a7).n1 b1).n1 b7).z3 d0 q24 b9;refine z5j (cs':=u7n ka { m with q:=q' }) U U hM.k t44 x1k U<|λk0 d6 g1 l8=>?_;have hM:=hM.beds mtd (hQ.low oo) d6 g1 d1;have hk:=hM.k;have a3:=hM;have f5:=hM;have hF:Lw.Own z1g 64 wS.heap.size _ (slv m.fa) m.fl:=hM.f;clear d6;refine kpL (ll1 6) (csu U)<|nl<|tn<|sr<|mv U U<|asg U<|nn<|rt<|r1 results72 U ?_;exact⟨_,rfl,by rw[c4];exact MRet.ok (by rw[z8i,if_neg c9,if_neg (λh=>h a8),if_neg b6,if_neg b5];exact congrArg Except.ok (by have hj:y1w m.q.p o.b o.p (z5q o.b o.p m.rk)=y0z m.p o:=x2f (p:=m.p) e8.1;unfold MQ.p;simp only[e5 b5];rw[hj])) hM⟩;refine sk<|tn<|sr<|mv U U<|asg U<|nn<|rt<|r1 results72 U ?_;have hM:=a3.ext<|(((q1.n6 q2 q3 a9 b0 a6 a7).n1 b1).n1 b7).z3 d0 q24 b9;exact⟨_,rfl,MRet.err (by rw[z8i,if_neg c9,if_neg (λh=>h a8),if_neg b6,if_pos (l16.1 λe=>c4<|if_neg e)];rw[if_pos (l16.1 λe=>c4<|if_neg e)]) c4 hM.fr⟩
end Go.Proofs.YtlfdhllfmoplgaaGreatDoor
namespace Go.G08
open Go.Lw Go.G21
theorem y9x {p:MSt}{y:Int}{q:Yn}(h:MInv p)(Z:1<=y/\y<=6)(O:y1s q)(I:q.ct=(p.y y).ct):MInv (p.setY y q):=by
 have hl:(y-1).toNat<p.ys.length:=by rw[h.ly];omega
 refine⟨h.rk,h.B,by show (p.ys.set _ q).length=6;rw[l19];exact h.ly,h.lt,λk D=>?_,h.has,h.cnt,h.all,h.cv⟩;show y1s ((p.ys.set (y-1).toNat q).getD k yn0)/\((p.ys.set (y-1).toNat q).getD k yn0).ct=z3e p.tb k;rw[z1k hl];split;rename_i e;refine⟨O,I.trans ?_⟩;have:=(h.yn k D).2;rw[<-e]at this ⊢;exact this;exact h.yn k D
theorem v5h {st:List Pa}{p:Pa}(h:y7u st)(hp:y2c p):y7u (y1p st p):=by
 unfold y1p;split;intro i hi;rw[l25]at hi;have e:∀k,k<st.length-1->(st.take<|st.length-1).getD k pa0=st.getD k pa0:=λk Z=>by
  rw[List.getD,l51,if_pos Z,List.getD]
 obtain⟨I,O⟩:=h i oo;refine⟨by rw[e i oo];exact I,λD=>?_⟩;rw[e i oo,e (i-1) oo];exact O D;rename_i hc;intro i hi;rw[l13,l47]at hi;have e:∀k,k<st.length->(st++[p]).getD k pa0=st.getD k pa0:=λk Z=>by
  rw[List.getD,l44 Z,List.getD]
 by_cases hl:i<st.length;obtain⟨I,O⟩:=h i hl;refine⟨by rw[e i hl];exact I,λD=>?_⟩;rw[e i hl,e (i-1) oo];exact O D;obtain rfl:i=st.length:=by omega
 have ep:(st++[p]).getD st.length pa0=p:=by simp[List.getD]
 refine⟨by rw[ep];exact hp,λD=>?_⟩;rw[ep,e (st.length-1) oo];exact λhh=>hc ⟨D,hh⟩
theorem x4p:∀ {l st:List Pa},y7u st->u7z l->y7u (z5f st l)
 | [],_,h,_=>h
 | p::l,st,h,hv=>x4p (l:=l) (v5h h<|hv p sp0)<|λq D=>hv q<|l38 _ D
theorem k2e {y:Yn}{pl:Int}{l:List Pa}(h:goE y pl l=0):y1s (goS y pl l):=by
 unfold goE at h;split at h;exact absurd h t12;rename_i D;have D:=v7b<|l16.1 D;split at h;omega;rename_i O;split at h;omega;rename_i Z;split at h;omega;rename_i hi;have hi:y.inn=true:=by simpa using hi
 split at h;omega;have I:=D.2;rw[if_pos hi]at I;refine⟨D.1,?_⟩;show if y.inn=true then _ else _
 rw[if_pos hi];exact⟨l16.1 O,by show (z5f y.pe l).length<=4096;omega,x4p I.2.2 (l16.1 Z)⟩
theorem y0r (B:Bd){b n:Int}(h:z4d b n=0)(s:List LId):(B.put b n s).flat.length+(B.at b n).length=B.flat.length+s.length:=by
 have:=(List.perm_iff_count.2 (λi=>by rw[l21,l21];exact z5c B h s i):((B.put b n s).flat++B.at b n).Perm (B.flat++s)).length_eq;simpa using this
theorem u9m {B:Bd}(h:BdOk B){b n:Int}(hn:z4d b n=0):BdOk (B.put b n []):=h.put hn sp0 sp0 λi=>by
 have:=l81.1 h.nd i
 simp only[l125];omega
theorem u4g {p q:MSt}{o:MOp}(h:MInv p)(hn:z4d o.b o.p=0)(e:y3p p o=.ok q):MInv q:=by
 unfold y3p at e;split at e;cases e;cases e;refine⟨h.rk,u9m h.B hn,h.ly,h.lt,h.yn,λi hi=>?_,?_,h.all,h.cv⟩;rcases y2w hn hi with k|k
 cases k;exact h.has i k;have D:=y0r p.B hn [];have I:=h.cnt;show (p.B.put o.b o.p []).flat.length+(p.fa++p.B.at o.b o.p).length<=z4o p.tb;rw[l13];simp only[l64]at D;omega
theorem y5j {p:MSt}{o:MOp}(h:o.b=0\/o.b=1)(i:LId):(y0z p o).count i=(p.B.at o.b o.p).count i+(p.B.at (1-o.b)<|z5q o.b o.p p.rk).count i:=by
 unfold y0z;rcases h with e|e
 rw[e,if_neg dd,l21,show (1:Int)-0=1 from U];omega;rw[e,if_pos U,l21,show (1:Int)-1=0 from U]
theorem u3e {p q:MSt}{o:MOp}(h:MInv p)(hn:z4d o.b o.p=0)(e:z8i p o=.ok q):MInv q:=by
 unfold z8i at e;split at e;cases e;split at e;cases e;rename_i D;have D:=l16.1 D;split at e;cases e;split at e;cases e;rename_i h4;cases e;have hb:=(z2t hn).1;have hc:=y5j (p:=p) (o:=o) hb;have a0:(y0z p o).length=(p.B.at o.b o.p).length+(p.B.at (1-o.b)<|z5q o.b o.p p.rk).length:=by
  have:=(List.perm_iff_count.2 (λi=>by rw[l21];exact hc i):(y0z p o).Perm (p.B.at o.b o.p++p.B.at (1-o.b) (z5q o.b o.p p.rk))).length_eq;simpa using this
 have I:∀i∈y0z p o,i∈p.B.flat:=λi hi=>by
  have O:=l117.2 hi;rw[hc i]at O;by_cases k:0<(p.B.at o.b o.p).count i;exact y1q<|l117.1 k;exact y1q<|l117.1 (show 0<(p.B.at (1-o.b)<|z5q o.b o.p p.rk).count i by omega)
 have Z:(p.B.put o.b o.p []).at (1-o.b) (z5q o.b o.p p.rk)=p.B.at (1-o.b) (z5q o.b o.p p.rk):=by
  rw[y6i p.B hn D,if_neg oo]
 have a1:=u9m h.B hn;refine⟨h.rk,a1.put D oo (λi hi=>h.B.nm i<|I i hi)<|λi=>?_,h.ly,h.lt,h.yn,λi hi=>?_,?_,h.all,h.cv⟩;have O:=z5c p.B hn [] i;have h2:=l81.1 h.B.nd i;rw[Z,hc i];simp only[l125]at O;omega;rcases y2w D hi with k|k
 exact h.has i<|I i k;rcases y2w hn k with k|k
 cases k;exact h.has i k;have O:=y0r p.B hn [];have h2:=y0r (p.B.put o.b o.p []) D<|y0z p o;have h3:=h.cnt;rw[Z,a0]at h2;simp only[l64]at O;show ((p.B.put o.b o.p []).put (1-o.b) (z5q o.b o.p p.rk)<|y0z p o).flat.length+p.fa.length<=z4o p.tb;omega
theorem u1j {p q:MSt}{o:MOp}{th st:List LId}(h:MInv p)(hy:1<=o.y/\o.y<=6)(hn:z4d o.b o.p=0)(hs:st=[]\/(st=p.B.at o.b o.p/\st.length<4))(e:y1z p o th st=.ok q):MInv q:=by
 unfold y1z at e;split at e;cases e;rename_i hm;split at e;cases e;rename_i hc;cases e;have hm:=l16.1 hm;obtain⟨j,hj,a6⟩:∃j:Nat,j<6/\o.y=(j:Int)+1:=⟨(o.y-1).toNat,oo,oo⟩;have O:(o.y-1).toNat=j:=by omega
 have I:=h.yn j hj;have a7:p.y o.y=p.ys.getD j yn0:=by unfold MSt.y;rw[O]
 rw[<-a7]at I;have a5:j<p.ys.length:=by rw[h.ly];exact hj
 have D:j<p.tb.length:=by rw[h.lt];exact hj
 have a0:(p.y o.y).inn=true/\(p.y o.y).ct≠2048:=by
  unfold mkE at hm;split at hm;exact absurd hm t12;split at hm;omega;rename_i hi;split at hm;omega;rename_i hk;exact⟨by simpa using hi,hk⟩
 have a8:=I.1.1;have Z:∀i∈p.B.flat,i≠⟨o.y,(p.y o.y).ct⟩:=λi hi e=>by
  have:=h.has i hi;rw[e]at this;obtain⟨_,_,_,h4⟩:=this;simp only at h4;rw[O,I.2]at h4;omega
 have a1:∀i∈st,i∈p.B.flat:=λi hi=>by
  rcases hs with e|⟨e,_⟩
  rw[e]at hi;cases hi;rw[e]at hi;exact y1q hi
 have a2:p.row o.y=p.tb.getD j []:=by unfold MSt.row;rw[O]
 simp only[O,a2];have a4:(st++[(⟨o.y,(p.y o.y).ct⟩:LId)]).length<=4:=by
  rw[l13,l47];rcases hs with e|⟨_,e⟩
  rw[e];simp;omega
 have a3:=y6c p.tb j (p.tb.getD j []++[(⟨o.b,(p.y o.y).nw,th,(p.y o.y).pe⟩:Lp)]) D;rw[l13,l47,show (p.tb.getD j []).length=z3e p.tb j from U]at a3;refine⟨h.rk,h.B.put hn a4 (λi hi=>?_)<|λi=>?_,by show (p.ys.set _ _).length=6;rw[l19];exact h.ly,by show (p.tb.set _ _).length=6;rw[l19];exact h.lt,λk hk=>?_,λi hi=>?_,?_,?_,h.cv⟩;rcases l23.1 hi with k|k
 exact h.B.nm i<|a1 i k;rw[l11.1 k];unfold y2n;simp only;omega;have hd:=l81.1 h.B.nd i;rw[l21,l93];by_cases e:(⟨o.y,(p.y o.y).ct⟩:LId)=i;have h0:p.B.flat.count i=0:=l69.2 λk=>Z i k e.symm;have h1:st.count i=0:=l69.2 λk=>Z i (a1 i k) e.symm;rw[h0,h1];split<;>omega
 rw[if_neg (by simpa using e)];rcases hs with e|⟨e,_⟩
 rw[e];simp only[l125];omega;rw[e];omega;show y1s ((p.ys.set j<|mkS<|p.y o.y).getD k yn0)/\((p.ys.set j<|mkS<|p.y o.y).getD k yn0).ct=z3e (p.tb.set j _) k;rw[z1k a5,y0q D];by_cases e:j=k;rw[if_pos e,if_pos e];refine⟨⟨⟨by show 0<=(p.y o.y).ct+1;omega,by show (p.y o.y).ct+1<=2048;omega⟩,?_⟩,?_⟩;have h2:=I.1.2;rw[if_pos a0.1]at h2;show if true=true then _ else _
 rw[if_pos U];exact⟨h2.1,by show ([]:List Pa).length<=4096;simp,λi hi=>by simp[mkS]at hi⟩;show (p.y o.y).ct+1=_;rw[I.2,l13,l47];rfl;rw[if_neg e,if_neg e];exact h.yn k hk;rcases y2w hn hi with k|k
 rcases l23.1 k with k|k
 exact y9j D<|h.has i<|a1 i k;rw[l11.1 k];have:=y0l (T:=p.tb.set j<|p.tb.getD j []++[(⟨o.b,(p.y o.y).nw,th,(p.y o.y).pe⟩:Lp)]) (y:=j) (n:=z3e p.tb j) (by rw[l19];exact D) (by rw[y0q D,if_pos U,l13,l47];exact Nat.lt_succ_self _);rwa [<-a6,<-I.2]at this;exact y9j D<|h.has i k;have h1:=y0r p.B hn<|st++[(⟨o.y,(p.y o.y).ct⟩:LId)];have h2:=h.cnt;have h3:st.length<=(p.B.at o.b o.p).length:=by
  rcases hs with e|⟨e,_⟩
  rw[e];simp;rw[e];exact l20 _
 rw[l13,l47]at h1;show (p.B.put o.b o.p _).flat.length+p.fa.length<=z4o (p.tb.set j _);omega;have:=h.all;show z4o (p.tb.set j _)<=2048;omega
theorem k2o {p q:MSt}{o:MOp}(h:MInv p)(Z:1<=o.y/\o.y<=6)(hd:z6k o.d)(e:inM p o=.ok q):MInv q:=by
 unfold inM at e;split at e;cases e;rename_i D;cases e;have D:=l16.1 D;refine y9x h Z ?_ U;have I:y1s (p.y o.y):=by
  unfold enE at D;split at D;exact absurd D t12;rename_i O;exact v7b<|l16.1 O
 refine⟨I.1,?_⟩;show if true=true then _ else _
 rw[if_pos U];refine⟨?_,by show ([]:List Pa).length<=4096;simp,λi hi=>by simp[enS]at hi⟩;show x5h (if o.d=1 then 179 else -13);split<;>decide
theorem j2t {p q:MSt}{o:MOp}(h:MInv p)(Z:1<=o.y/\o.y<=6)(e:x6h p o=.ok q):MInv q:=by
 unfold x6h at e;split at e;cases e;rename_i D;cases e;have D:=l16.1 D;refine y9x h Z ?_ U;have I:y1s (p.y o.y):=by
  unfold lvE at D;split at D;exact absurd D t12;rename_i O;exact v7b<|l16.1 O
 refine⟨I.1,?_⟩;show if false=true then _ else _
 rw[if_neg dd];exact⟨rfl,rfl,rfl⟩
theorem y1x {p q:MSt}{y pl en:Int}(h:MInv p)(I:1<=y/\y<=6)(e:z8v p y pl en=.ok q):MInv q/\q.B=p.B/\q.rk=p.rk:=by
 unfold z8v at e;split at e;cases e;rename_i D;cases e;exact⟨y9x h I (k2e<|l16.1 D) U,rfl,rfl⟩
theorem u3r {p q:MSt}{o:MOp}(h:MInv p)(D:1<=o.y/\o.y<=6)(e:y3h p o=.ok q):MInv q:=by
 unfold y3h at e;split at e;cases e;exact(y1x h D e).1
theorem u5d {p q:MSt}{o:MOp}(h:MInv p)(D:1<=o.y/\o.y<=6)(hn:z4d o.b o.p=0)(e:y1i p o=.ok q):MInv q:=by
 unfold y1i at e;split at e;cases e;split at e;cases e;rename_i r I;exact u1j (y1x h D I).1 D hn (.inl U) e
theorem u5w {p q:MSt}{o:MOp}(h:MInv p)(D:1<=o.y/\o.y<=6)(hn:z4d o.b o.p=0)(e:y0x p o=.ok q):MInv q:=by
 unfold y0x at e;split at e;cases e;split at e;cases e;rename_i r I;split at e;cases e;exact u1j (y1x h D I).1 D hn (.inr ⟨rfl,oo⟩) e
theorem x9n {p:MSt}{d:Int}{y D:Yn}(e:z7i p d y=.ok D):(y1s y->y1s D)/\D.ct=y.ct:=by
 unfold z7i at e;split at e;cases e;exact⟨id,rfl⟩;split at e;cases e;rename_i I;cases e;exact⟨λ_=>k2e<|l16.1 I,rfl⟩
theorem x4z {p:MSt}{d:Int}:∀ {l l':List Yn},z4c p d l=.ok l'->l'.length=l.length/\∀k,(y1s (l.getD k yn0)->y1s (l'.getD k yn0))/\(l'.getD k yn0).ct=(l.getD k yn0).ct
 | [],l',e=>by cases e;exact⟨rfl,λk=>⟨id,rfl⟩⟩
 | y::l,l',e=>by
  unfold z4c at e
  split at e
  ·cases e
  rename_i y' O
  split at e
  ·cases e
  rename_i Z hl
  cases e
  obtain⟨D,I⟩:=x4z hl
  refine⟨by simp[D],λk=>?_⟩
  cases k with
  | zero=>exact x9n O
  | succ k=>simpa only[l62] using I k
def k3j (l:List Cx):Prop:=∀c∈l,-1048576<=c.n/\c.n<=1048576
theorem j2i {l l':List Cx}{c:Cx}(h:k3j l)(e:y3z l c=.ok l'):k3j l':=by
 unfold y3z at e;dsimp only at e;generalize (if 0<z6m c.a c.b then (c.b,c.a) else (c.a,c.b))=kk at e;split at e;cases e;rename_i O;split at e;cases e;intro x D;exact h x (l99.1 D).1;cases e;intro x D;unfold y4p at D;split at D;obtain⟨z,I,rfl⟩:=l54.1 D;split;simp only;omega;exact h z I;rcases l23.1 D with k|k
 exact h x k;rw[l11.1 k];simp only;omega
theorem y9s:∀ {r l l':List Cx},k3j l->z4e l r=.ok l'->k3j l'
 | [],l,l',h,e=>by cases e;exact h
 | c::r,l,l',h,e=>by
  unfold z4e at e
  split at e
  ·cases e
  rename_i I D
  exact y9s (j2i h D) e
theorem z7n {p q:MSt}{d:Int}(h:MInv p)(hd:-4<=p.rk+stI d/\p.rk+stI d<=4)(e:z5x p d=.ok q):MInv q/\q.rk=p.rk+stI d:=by
 unfold z5x at e;split at e;cases e;rename_i ys I;split at e;cases e;rename_i cr D;cases e;obtain⟨h1,O⟩:=x4z I;exact⟨⟨hd,h.B,h1.trans h.ly,h.lt,λk Z=>⟨(O k).1 (h.yn k Z).1,(O k).2.trans (h.yn k Z).2⟩,h.has,h.cnt,h.all,y9s h.cv D⟩,rfl⟩
theorem x8l {r:Int}(O:-4<=r/\r<=4):∀ {n:Nat} {p q:MSt},MInv p->z4l n p r=.ok q->MInv q
 | 0,p,q,h,e=>by cases e;exact h
 | n+1,p,q,h,e=>by
  unfold z4l at e
  split at e
  ·cases e;exact h
  rename_i I
  split at e
  ·cases e
  rename_i p2 D
  have Z:=h.rk
  refine x8l O (z7n h ?_ D).1 e
  unfold stI
  split<;>split<;>omega
theorem z7l {p q:MSt}{o:MOp}(h:MInv p)(e:doM p o=.ok q):MInv q:=by
 unfold doM at e;split at e;cases e;rename_i hc;obtain⟨_,O,D,h3,I,Z⟩:=z3s<|l16.1 hc;unfold opM at e;split at e;exact k2o h (D oo) (O oo) e;split at e;exact j2t h (D oo) e;split at e;exact x8l (Z oo) h e;split at e;exact u5d h (D oo) (I oo) e;split at e;exact u5w h (D oo) (I oo) e;split at e;exact u3r h (D oo) e;split at e;exact u3e h (I oo) e;exact u4g h (I oo) e
end Go.G08
namespace Go.G08
open Go.Lw Go.G21
section
variable {τ:TyK} {Mt:Nat} {wS w w' w2:World} {a:MA} {m:MQ} {j:Nat} {u:SV} {q:LpQ}
theorem MkM.row (h:MkM τ Mt wS a w m)(D:MtOk τ Mt)(hj:j<6)(hq:LpO τ wS.heap.size w q)(a1:∀k∈z0u (slv q.th),k∉z0u (slv m.fa))
    (h1:Lw.Own z7k τ.L wS.heap.size w' (slv u) ((m.ts.getD j tq0).2++[q])) (f1:Fr (z0u<|slv (m.ts.getD j tq0).1) w w') (hx:slv u=slv (m.ts.getD j tq0).1\/z0u (slv u)=z0u (slv (m.ts.getD j tq0).1)\/z0u (slv u)=[w.heap.size])
    (h2:Lw.Own z4w τ.T wS.heap.size w2 a.TV (m.ts.set j (u,(m.ts.getD j tq0).2++[q]))) (f2:Fr [a.gt] w' w2):MkM τ Mt wS a w2 { m with ts:=m.ts.set j (u,(m.ts.getD j tq0).2++[q]) }:=by
  have hl:j<m.ts.length:=by rw[h.lt];exact hj
  have I:∀T,T≠τ.L->OffT w T (z0u<|slv (m.ts.getD j tq0).1):=λT hT=>z7c (h.t.ins j hl)<|l50 hT
  have O:=z2a h.t.out f1<|I _ D.o.tl
  have Z:∀T,T≠τ.T->OffT w' T [a.gt]:=λT hT=>z7c O<|l50 hT
  refine⟨y4f (y4f h.k f1<|I _ D.l) f2<|Z _ D.t,BdO.tf (BdO.tf h.b f1 (I _<|l50 D.o.ls)<|I _<|l50 D.o.li) f2 (Z _<|l50 D.o.ts)<|Z _<|l50 D.o.ti,
    (h.y.tf f1 (I _ D.o.yl)<|I _<|l50 D.o.lp).tf f2 (Z _ D.o.yt)<|Z _<|l50 D.o.tp,h.t.put D.o hl hq h1 f1 hx h2 f2,(h.c.tf f1<|I _ D.l).tf f2<|Z _ D.t,z2a (z2a h.f f1<|I _<|l50 D.o.li) f2<|Z _<|l50 D.o.ti,h.fb,λi hi p hp=>?_,h.ly,by rw[l19];exact h.lt,h.gk,h.gc,(h.fr.step f1 (y8d (h.t.ins j hl) t43) λk hk a0=>?_).step f2 (y8d O t43) λk hk a0=>?_⟩
  · simp only at hp
    rw[z1k hl]at hp
    split at hp
    · rcases l23.1 hp with k|k
      · exact h.ft j hj p k
      · rw[l11.1 k];exact a1
    · exact h.ft i hi p hp
  · have:=((h.t.ins j hl).blk k hk).1;omega
  · have:=(h.t.out.blk k hk).1;omega
theorem j0c {p:MSt}{o:MOp}{st:List LId}(h:MInv p)(hy:1<=o.y/\o.y<=6)(hs:st=[]\/(st=p.B.at o.b o.p/\st.length<4))(Z:mkE (p.y o.y)=0) :
    (st++[(⟨o.y,(p.y o.y).ct⟩:LId)]).length<=4/\(∀i∈st++[(⟨o.y,(p.y o.y).ct⟩:LId)],y2n i)/\∀i,p.B.flat.count i+(st++[(⟨o.y,(p.y o.y).ct⟩:LId)]).count i<=(p.B.at o.b o.p).count i+1:=by
  obtain⟨j,hj,a4⟩:∃j:Nat,j<6/\o.y=(j:Int)+1:=⟨(o.y-1).toNat,oo,oo⟩
  have O:(o.y-1).toNat=j:=by omega
  have I:=h.yn j hj
  have a2:p.y o.y=p.ys.getD j yn0:=by unfold MSt.y;rw[O]
  rw[<-a2]at I
  have a1:(p.y o.y).inn=true/\(p.y o.y).ct≠2048:=by
    unfold mkE at Z
    split at Z
    · exact absurd Z t12
    · split at Z
      · omega
      · rename_i hi
        split at Z
        · omega
        · rename_i hk;exact⟨by simpa using hi,hk⟩
  have a3:=I.1.1
  have D:∀i∈p.B.flat,i≠⟨o.y,(p.y o.y).ct⟩:=λi hi e=>by
    have:=h.has i hi
    rw[e]at this
    obtain⟨_,_,_,h4⟩:=this
    simp only at h4
    rw[O,I.2]at h4
    omega
  have a0:∀i∈st,i∈p.B.flat:=λi hi=>by
    rcases hs with e|⟨e,_⟩
    · rw[e]at hi;cases hi
    · rw[e]at hi;exact y1q hi
  refine⟨?_,λi hi=>?_,λi=>?_⟩
  · rw[l13,l47]
    rcases hs with e|⟨_,e⟩
    · rw[e];simp
    · omega
  · rcases l23.1 hi with k|k
    · exact h.B.nm i<|a0 i k
    · rw[l11.1 k];unfold y2n;simp only;omega
  · have hd:=l81.1 h.B.nd i
    rw[l21,l93]
    by_cases e:(⟨o.y,(p.y o.y).ct⟩:LId)=i
    · have h0:p.B.flat.count i=0:=l69.2 λk=>D i k e.symm
      have h1:st.count i=0:=l69.2 λk=>D i (a0 i k) e.symm
      rw[h0,h1];split<;>omega
    · rw[if_neg (by simpa using e)]
      rcases hs with e|⟨e,_⟩
      · rw[e];simp only[l125];omega
      · rw[e];omega
end
end Go.G08
namespace Go.Lw
theorem y0o {ι:Type}{pq:Option Nat}{P:Program}{ops:Array Oper}{K:Act->World->Prop}{C:World->Prop}{fu:Nat}{listed:Array Bool}{a:Act}{w:World}{ds:List Nat}{n:Nat}{L:List (Nat×Value)}(h:AgM ds a n L)(Z:List (Nat×Value))(_hs:Sub Z L)(D:Array Bool)(O:Nat)(M:ι->List (Nat×Value))(R:ι->World->Prop)
    (main:(∀(i:ι) l2 I w',l2=D->AgM ds I n (Z++M i)->R i w'->z0y pq P ops (z0s K) C O l2 I w')->z0y pq P ops (z0s K) C fu listed a w)
    (tail:∀i I w',R i w'->AgM ds I n (Z++M i)->z0y pq P ops (z0s K) C O D I w'):z0y pq P ops (z0s K) C fu listed a w:=
  main λi l2 I w' e ha hr=>by subst e;exact tail i I w' hr ha
end Go.Lw
