/- Texts of the proof, joined. -/
import Derived.Test.YtlfdhllfmoplgaaGreatDoorRows
import Derived.Shelf.SlSortCmp.WholeK
import Derived.Deep.RegionHeld3
import Derived.WalkKit
import Derived.Test.YtlfdhllfmoplgaaGreatDoorRE4
set_option linter.unusedVariables false
set_option linter.unusedSimpArgs false
set_option maxHeartbeats 4000000
namespace Go.Proofs.YtlfdhllfmoplgaaGreatDoor
open Go.Lw Go.G21 Go.G08 _root_.Go.Proofs.Tryz
theorem k4k:BuildAt prog 155 [(0,1),(1,1),(2,1),(3,1)] [(.int .u8 0),(.bool false),(.slice none 0 0),(.slice none 0 0)]:=BuildAt.struct underlying155 (λ_=>kr)<|λ_=>kr
theorem x5c:CallOf prog 65:=mkC func65
theorem v6d:CallOf prog 167:=mkC func167
theorem y3d:z1d prog 145 3 4:=λ_ _=>kr
theorem j3l:z1d prog 249 0 0:=λ_ _=>kr
theorem j4z:z1d prog 249 1 1:=λ_ _=>kr
theorem j5j:z1d prog 249 2 2:=λ_ _=>kr
theorem j4l:z1r prog 123 1:=λ_=>kr
theorem z4f (v:Value)(l:List LId)(w0:World)(I:Sl z1g w0 v l)(hl:l.length<=100000):Rets prog 65 #[v] w0 λr w'=>∃g,r=.slice (saa g) l.length l.length/\w0.heap.size<=g/\Lw.Own z1g 64 w0.heap.size w' r l/\Fr [] w0 w':=by
 obtain⟨A,c,rfl,a0,hM,hA⟩:=id I;clear hA;unfold maxLen at hM;refine we [(0,.slice A l.length c)] func65 U ntmps65 U (.cons U .nil) ?_;have O:=I;refine sr<|asg U<|nn<|sr<|mv U U<|lnS U underlying30<|z1f (m:=l.length) (c:=l.length) (id0) U z4k z8q U<|λg6 w1 a1 D Z z1=>(asg U<|nn<|sr<|mv U U<|mv U U ?_);have I:=O.ext Z;refine z9d (zs:=List.replicate l.length id0) t34 U (by rw[l22];exact D) I t35 z4k<|λw2 D q2 z2=>?_;rw[l22]at D;exact nn<|sr<|mv U U<|asg U<|nn<|rt<|r1 results65 U ⟨_,rfl,g6,rfl,oo,D.low oo,(Z.z1 q2)⟩
theorem u9r (ts:List TQ)(j:Nat):(ts.getD j tq0).2.length<=z4o (z2n ts):=by
 by_cases h:j<ts.length;have k:=y6c (z2n ts) j [] (by rw[l18];exact h);have e:z3e (z2n ts) j=(ts.getD j tq0).2.length:=by
  unfold z3e;rw[List.getD,List.getD,l24,l10 h];exact l18 ..
 rw[l64,e]at k;omega;rw[List.getD,l30 oo];exact l17 _
theorem j9n {o:MOp}{ths st:List LId}{th sn u:SV}{q':BdQ}(m:MQ)(j:Nat)(D:(o.y-1).toNat=j)(I:q'.p=m.q.p.put o.b o.p (st++[(⟨o.y,(m.ys.getD j yq0).ct⟩:LId)])) :
    { m with q:=q',ys:=m.ys.set j ⟨true,(m.ys.getD j yq0).pl,(m.ys.getD j yq0).ct+1,false,sv0,[]⟩,ts:=m.ts.set j (u,(m.ts.getD j tq0).2++[(⟨o.b,(m.ys.getD j yq0).nw,th,sn,ths,(m.ys.getD j yq0).pes⟩:LpQ)]) }.p =
      { m.p with B:=m.p.B.put o.b o.p<|st++[(⟨o.y,(m.ys.getD j yq0).p.ct⟩:LId)],ys:=m.p.ys.set (o.y-1).toNat<|mkS (m.ys.getD j yq0).p,tb:=m.p.tb.set (o.y-1).toNat (m.p.row o.y++[(⟨o.b,(m.ys.getD j yq0).p.nw,ths,(m.ys.getD j yq0).p.pe⟩:Lp)]) }:=by
  unfold MSt.row
  rw[D]
  have O:(z2n m.ts).getD j []=(m.ts.getD j tq0).2.map LpQ.p:=by
    rw[List.getD,List.getD,l24]
    cases m.ts[j]?<;>rfl
  simp only[MQ.p,I,l124,O,l33,l32,List.map_nil,mkS]
theorem v5a (wS:World)(ka:MA)(m:MQ)(o:MOp)(th:SV)(ths:List LId)(s7:Value)(st:List LId)(w0:World)(hM:MkM τd 145 wS ka w0 m)(hi:MInv m.p)(hy:1<=o.y/\o.y<=6)(hn:z4d o.b o.p=0)(g7:Lw.Own z1g 64 wS.heap.size w0 (slv th) ths)(s3:∀k∈z0u (slv th),k∉z0u (slv m.fa))(b6:Sl z1g w0 s7 st)(hs:st=[]\/(st=m.q.p.at o.b o.p/\st.length<4)):Rets prog 132 #[pta ka.gk,opV o,.slice th.1 th.2.1 th.2.2,s7] w0 λr w'=>MRet τd 145 wS ka (y1z m.p o ths st) r w':=by
 have A4:=hM.fr.size;have O:=hM.k;have y9:=O.lt;have z0:=hM.ly;have o8:=hM.lt;have y4:=(hM.y.out.blk ka.gy t10).2;obtain⟨j,hj,A1⟩:∃j:Nat,j<6/\o.y=(j:Int)+1:=⟨(o.y-1).toNat,oo,oo⟩;have r7:(o.y-1).toNat=j:=by omega
 have l5:m.p.y o.y=(m.ys.getD j yq0).p:=by rw[k1i,r7]
 obtain⟨AS,cS,rfl,y7⟩:=b6.form;have A0:=z2t hn;obtain⟨n,i2⟩:∃n:Nat,o.p=(n:Int):=⟨o.p.toNat,oo⟩;have hv:BdOk m.q.p:=hi.B;have A3:st.length<=3:=by rcases hs with e|⟨_,e⟩;rw[e];simp;omega
 have y1:z4o (z2n m.ts)<=2048:=hi.all;have y5:=hM.gk;have s1:∀k∈z0u (slv (m.ts.getD j tq0).1),k<w0.heap.size:=λk O=>((hM.t.ins j (by rw[o8];exact hj)).blk k O).2;have k4:ka.gk∉z0u (slv th):=λhb=>g7.neB hM.k dd hb;have k5:ka.gy∉z0u (slv th):=λhb=>Own.neO hM.y.out g7 dd ka.gy t10 hb;have k6:∀k∈z0u (slv th),k<w0.heap.size:=λk O=>(g7.blk k O).2;refine we [(0,pta ka.gk),(1,opV o),(2,.slice th.1 th.2.1 th.2.2),(3,.slice AS st.length cS)] func132 U ntmps132 U (.c4 U U U U) ?_;have h9:=hM;have s2:=b6;refine sr<|bx U<|λg5 w1 y8 I q1 z1=>(asg U<|nn<|jn (ι:=Nat×Nat) (ll4 0 2 3 5) (λp=>[(9,pta p.1),(10,pta p.2),(11,.int .i64<|mkE (m.ys.getD j yq0).p)]) (λp w'=>Fr [] w1 w'/\∃(qn:YQ) (e4:Int) (e5:Bool) (sn:SV) (d0:List Pa),(w1.heap.size<=p.1/\w1.heap.size<=p.2/\((mkE (m.ys.getD j yq0).p)=0->qn=(⟨true,(m.ys.getD j yq0).pl,(m.ys.getD j yq0).ct+1,false,sv0,[]⟩:YQ)/\e4=(m.ys.getD j yq0).ct/\e5=(m.ys.getD j yq0).nw/\d0=(m.ys.getD j yq0).pes))/\Blk w' p.1 104 (z3l.enc qn)/\Blk w' p.2 249 [.int .i64 e4,.bool e5,.slice sn.1 sn.2.1 sn.2.2]/\OwnIf ((mkE (m.ys.getD j yq0).p)=0) z2i 107 (max wS.heap.size w1.heap.size) w' (slv sn) d0) (csu U) ?_ ?_);have hM:=h9.ext q1;intro a h;refine z0h none (λwb w'=>Fr [] wb w') z2r ?_;intro w2 q2;have z2:=q2.size;have hM:=hM.ext q2;have O:=O.ext<|q1.n1 q2;have I:=I.ext q2;have hC:Fr [] w2 w2:=l12 _ _;have d1:=hM;have b9:=O;have b3:=I;refine y0o (ι:=(Nat×Nat)×YQ×(Int×Bool)×SV×List Pa) h (ll4 0 2 3 5) (csu U) #[true,true,true,true,true,true,true,true,true,true,true,true,true,true,true,true,false,false,false] 3 (λp=>[(9,pta p.1.1),(10,pta p.1.2),(26,yvv p.2.1),(27,.agg #[.int .i64 p.2.2.1.1,.bool p.2.2.1.2,.slice p.2.2.2.1.1 p.2.2.2.1.2.1 p.2.2.2.1.2.2]),(28,.int .i64<|mkE (m.ys.getD j yq0).p)]) (λp w'=>Fr [] w2 w'/\(w2.heap.size<=p.1.1/\w2.heap.size<=p.1.2/\p.1.1≠p.1.2)/\((mkE (m.ys.getD j yq0).p)=0->p.2.1=(⟨true,(m.ys.getD j yq0).pl,(m.ys.getD j yq0).ct+1,false,sv0,[]⟩:YQ)/\p.2.2.1.1=(m.ys.getD j yq0).ct/\p.2.2.1.2=(m.ys.getD j yq0).nw/\p.2.2.2.2=(m.ys.getD j yq0).pes/\p.1.1∉z0u (slv p.2.2.2.1)/\p.1.2∉z0u (slv p.2.2.2.1))/\Blk w' p.1.1 104 [.bool false,.int .i64 0,.int .i64 0,.bool false,.slice none 0 0]/\Blk w' p.1.2 249 [.int .i64 0,.bool false,.slice none 0 0]/\OwnIf ((mkE (m.ys.getD j yq0).p)=0) z2i 107 (max wS.heap.size w2.heap.size) w' (slv p.2.2.2.1) p.2.2.2.2) (λf3=>?_) ?_;refine z0e 0 h U λa h=>z0o 1 h U λa h=>z0c 2 h U z3r U λa h=>z0m 3 h U (λ_ hw=>b9.ext hw) U y4s U λa h=>z0c 4 h U z4j U λa h=>z0m 5 h U (λ_ hw=>b3.ext hw) U na5 U λa h=>z2v 6 h U t19 U λa h=>z1e (p:=j) (yq0) 7 h U hM.y.out.sl U y5d U λx9 r4 a h=>z2e (cs:=z3l.enc<|m.ys.getD j yq0) 8 h wn U (λ_ hw=>r4 _ (d1.ext hw).y.out.sl) z3k U λa h=>y9p 9 14 15 kr U U U ?_ ?_ ?_;refine z0n h (z0a U z0f) v6d (y2b (m.ys.getD j yq0) _ (hM.y.ins j oo).sl<|λk O=>((hM.y.ins j oo).blk k O).2) ?_;rintro _ w3 ⟨qn,e4,e5,sn,d0,rfl,a7,q3⟩ a h;have z3:=q3.size;have hM:=hM.ext q3;have O:=O.ext q3;have I:=I.ext q3;have hC:=hC.next q3;have Z:OwnIf ((mkE (m.ys.getD j yq0).p)=0) z2i 107 _ _ (slv sn) d0:=λhc=>(a7 hc).2.2.2.2;have e3:=λhc k O=>((Z hc).blk k O).2;refine z0b<|z0e 10 h U λa h=>z0l 11 h U λa h=>z0l 12 h U λa h=>z0l 13 h U λa h=>z1w 14 15 kr U ?_ ?_;refine z0w h z6g U λw4 a0 q4 hz a h=>?_;obtain⟨b2,hg⟩:∃g,g=w3.heap.size:=⟨_,rfl⟩;rw[<-hg]at a0 h hz;have c9.gk_9:ka.gk<b2:=by have:=O.lt;omega
 have i1:g5<b2:=by have:=I.lt;omega
 have z4:=q4.size;have O:=O.ext q4;have I:=I.ext q4;have hC:=hC.next q4;refine z0b<|z0d 15 U<|z0w h x5b U λw5 D q5 hz a h=>?_;obtain⟨a8,hg⟩:∃g,g=w4.heap.size:=⟨_,rfl⟩;rw[<-hg]at D h hz;have c9.gk_10:ka.gk<a8:=by have:=O.lt;omega
 have g0:g5<a8:=by have:=I.lt;omega
 have j2:b2<a8:=by have:=a0.lt;omega
 have z5:=q5.size;have Z:=Z.ext<|q4.n1 q5;have a0:=a0.ext q5;have hC:=hC.next q5;exact z0b<|f3 ((b2,a8),qn,(e4,e5),sn,d0) _ _ _ kr (h.sub<|csu U) ⟨hC,⟨sm,sm,sm⟩,(λe=>⟨(a7 e).1,(a7 e).2.1,(a7 e).2.2.1,(a7 e).2.2.2.1,(λa4=>by have b8:=e3 e _ a4;have b1:=(Z e).blk _ a4;simp only at b8 b1;omega),(λa4=>by have b8:=e3 e _ a4;have b1:=(Z e).blk _ a4;simp only at b8 b1;omega)⟩),a0,D,(λe=>(Z e).low oo)⟩;refine z0w h x5b U λw6 D q6 hz a h=>?_;obtain⟨a8,hg⟩:∃g,g=w3.heap.size:=⟨_,rfl⟩;rw[<-hg]at D h hz;have c9.gk_10:ka.gk<a8:=by have:=O.lt;omega
 have g0:g5<a8:=by have:=I.lt;omega
 have z6:=q6.size;have O:=O.ext q6;have I:=I.ext q6;have hC:=hC.next q6;refine z0b<|z0d 14 U<|z0w h z6g U λw7 a0 q7 hz a h=>?_;obtain⟨b2,hg⟩:∃g,g=w6.heap.size:=⟨_,rfl⟩;rw[<-hg]at a0 h hz;have c9.gk_9:ka.gk<b2:=by have:=O.lt;omega
 have i1:g5<b2:=by have:=I.lt;omega
 have j1:a8<b2:=by have:=D.lt;omega
 have z7:=q7.size;have Z:=Z.ext<|q6.n1 q7;have D:=D.ext q7;have hC:=hC.next q7;exact z0b<|f3 ((b2,a8),qn,(e4,e5),sn,d0) _ _ _ kr (h.sub<|csu U) ⟨hC,⟨sm,sm,sm⟩,(λe=>⟨(a7 e).1,(a7 e).2.1,(a7 e).2.2.1,(a7 e).2.2.2.1,(λa4=>by have b8:=e3 e _ a4;have b1:=(Z e).blk _ a4;simp only at b8 b1;omega),(λa4=>by have b8:=e3 e _ a4;have b1:=(Z e).blk _ a4;simp only at b8 b1;omega)⟩),a0,D,(λe=>(Z e).low oo)⟩;refine z0w h z6g U λw8 a0 q8 hz a h=>?_;obtain⟨b2,hg⟩:∃g,g=w2.heap.size:=⟨_,rfl⟩;rw[<-hg]at a0 h hz;have c9.gk_9:ka.gk<b2:=by have:=O.lt;omega
 have i1:g5<b2:=by have:=I.lt;omega
 have z8:=q8.size;have hM:=hM.ext q8;have O:=O.ext q8;have I:=I.ext q8;have hC:=hC.next q8;refine z0b<|z1w 9 15 kr U ?_ ?_;refine z0n h (z0a U z0f) v6d (y2b (m.ys.getD j yq0) _ (hM.y.ins j oo).sl<|λk O=>((hM.y.ins j oo).blk k O).2) ?_;rintro _ w9 ⟨qn,e4,e5,sn,d0,rfl,a7,q9⟩ a h;have z9:=q9.size;have O:=O.ext q9;have I:=I.ext q9;have a0:=a0.ext q9;have hC:=hC.next q9;have Z:OwnIf ((mkE (m.ys.getD j yq0).p)=0) z2i 107 _ _ (slv sn) d0:=λhc=>(a7 hc).2.2.2.2;have e3:=λhc k O=>((Z hc).blk k O).2;refine z0b<|z0e 10 h U λa h=>z0l 11 h U λa h=>z0l 12 h U λa h=>z0l 13 h U λa h=>z0d 15 U<|z0w h x5b U λA7 D n8 hz a h=>?_;obtain⟨a8,hg⟩:∃g,g=w9.heap.size:=⟨_,rfl⟩;rw[<-hg]at D h hz;have c9.gk_10:ka.gk<a8:=by have:=O.lt;omega
 have g0:g5<a8:=by have:=I.lt;omega
 have j2:b2<a8:=by have:=a0.lt;omega
 have E1:=n8.size;have a0:=a0.ext n8;have Z:=Z.ext n8;have hC:=hC.next n8;exact z0b<|f3 ((b2,a8),qn,(e4,e5),sn,d0) _ _ _ kr (h.sub<|csu U) ⟨hC,⟨sm,sm,sm⟩,(λe=>⟨(a7 e).1,(a7 e).2.1,(a7 e).2.2.1,(a7 e).2.2.2.1,(λa4=>by have b8:=e3 e _ a4;have b1:=(Z e).blk _ a4;simp only at b8 b1;omega),(λa4=>by have b8:=e3 e _ a4;have b1:=(Z e).blk _ a4;simp only at b8 b1;omega)⟩),a0,D,(λe=>(Z e).low oo)⟩;refine z0w h x5b U λA8 D l9 hz a h=>?_;obtain⟨a8,hg⟩:∃g,g=w8.heap.size:=⟨_,rfl⟩;rw[<-hg]at D h hz;have c9.gk_10:ka.gk<a8:=by have:=O.lt;omega
 have g0:g5<a8:=by have:=I.lt;omega
 have j2:b2<a8:=by have:=a0.lt;omega
 have E2:=l9.size;have hM:=hM.ext l9;have O:=O.ext l9;have hC:=hC.next l9;refine z0b<|z0d 9 U<|z0n h (z0a U z0f) v6d (y2b (m.ys.getD j yq0) _ (hM.y.ins j oo).sl<|λk O=>((hM.y.ins j oo).blk k O).2) ?_;rintro _ A9 ⟨qn,e4,e5,sn,d0,rfl,a7,m0⟩ a h;have E3:=m0.size;have O:=O.ext m0;have a0:=a0.ext<|l9.n1 m0;have D:=D.ext m0;have hC:=hC.next m0;have Z:OwnIf ((mkE (m.ys.getD j yq0).p)=0) z2i 107 _ _ (slv sn) d0:=λhc=>(a7 hc).2.2.2.2;have e3:=λhc k O=>((Z hc).blk k O).2;refine z0b<|z0e 10 h U λa h=>z0l 11 h U λa h=>z0l 12 h U λa h=>z0l 13 h U λa h=>?_;exact f3 ((b2,a8),qn,(e4,e5),sn,d0) _ _ _ kr (h.sub<|csu U) ⟨hC,⟨sm,sm,sm⟩,(λe=>⟨(a7 e).1,(a7 e).2.1,(a7 e).2.2.1,(a7 e).2.2.2.1,(λa4=>by have b8:=e3 e _ a4;have b1:=(Z e).blk _ a4;simp only at b8 b1;omega),(λa4=>by have b8:=e3 e _ a4;have b1:=(Z e).blk _ a4;simp only at b8 b1;omega)⟩),a0,D,(λe=>(Z e).low oo)⟩;refine z0w h x5b U λv8 D m1 hz a h=>?_;obtain⟨a8,hg⟩:∃g,g=w2.heap.size:=⟨_,rfl⟩;rw[<-hg]at D h hz;have c9.gk_10:ka.gk<a8:=by have:=O.lt;omega
 have g0:g5<a8:=by have:=I.lt;omega
 have E4:=m1.size;have hM:=hM.ext m1;have O:=O.ext m1;have I:=I.ext m1;have hC:=hC.next m1;refine z0b<|z1w 9 14 kr U ?_ ?_;refine z0n h (z0a U z0f) v6d (y2b (m.ys.getD j yq0) _ (hM.y.ins j oo).sl<|λk O=>((hM.y.ins j oo).blk k O).2) ?_;rintro _ v9 ⟨qn,e4,e5,sn,d0,rfl,a7,m2⟩ a h;have E5:=m2.size;have O:=O.ext m2;have I:=I.ext m2;have D:=D.ext m2;have hC:=hC.next m2;have Z:OwnIf ((mkE (m.ys.getD j yq0).p)=0) z2i 107 _ _ (slv sn) d0:=λhc=>(a7 hc).2.2.2.2;have e3:=λhc k O=>((Z hc).blk k O).2;refine z0b<|z0e 10 h U λa h=>z0l 11 h U λa h=>z0l 12 h U λa h=>z0l 13 h U λa h=>z0d 14 U<|z0w h z6g U λB0 a0 n9 hz a h=>?_;obtain⟨b2,hg⟩:∃g,g=v9.heap.size:=⟨_,rfl⟩;rw[<-hg]at a0 h hz;have c9.gk_9:ka.gk<b2:=by have:=O.lt;omega
 have i1:g5<b2:=by have:=I.lt;omega
 have j1:a8<b2:=by have:=D.lt;omega
 have E6:=n9.size;have D:=D.ext n9;have Z:=Z.ext n9;have hC:=hC.next n9;exact z0b<|f3 ((b2,a8),qn,(e4,e5),sn,d0) _ _ _ kr (h.sub<|csu U) ⟨hC,⟨sm,sm,sm⟩,(λe=>⟨(a7 e).1,(a7 e).2.1,(a7 e).2.2.1,(a7 e).2.2.2.1,(λa4=>by have b8:=e3 e _ a4;have b1:=(Z e).blk _ a4;simp only at b8 b1;omega),(λa4=>by have b8:=e3 e _ a4;have b1:=(Z e).blk _ a4;simp only at b8 b1;omega)⟩),a0,D,(λe=>(Z e).low oo)⟩;refine z0w h z6g U λB1 a0 k9 hz a h=>?_;obtain⟨b2,hg⟩:∃g,g=v8.heap.size:=⟨_,rfl⟩;rw[<-hg]at a0 h hz;have c9.gk_9:ka.gk<b2:=by have:=O.lt;omega
 have i1:g5<b2:=by have:=I.lt;omega
 have j1:a8<b2:=by have:=D.lt;omega
 have E7:=k9.size;have hM:=hM.ext k9;have O:=O.ext k9;have I:=I.ext k9;have D:=D.ext k9;have hC:=hC.next k9;refine z0b<|z0d 9 U<|z0n h (z0a U z0f) v6d (y2b (m.ys.getD j yq0) _ (hM.y.ins j oo).sl<|λk O=>((hM.y.ins j oo).blk k O).2) ?_;rintro _ B2 ⟨qn,e4,e5,sn,d0,rfl,a7,hq⟩ a h;have E8:=hq.size;have hM:=hM.ext hq;have O:=O.ext hq;have I:=I.ext hq;have D:=D.ext hq;have a0:=a0.ext hq;have hC:=hC.next hq;have A5:=hq;have Z:OwnIf ((mkE (m.ys.getD j yq0).p)=0) z2i 107 _ _ (slv sn) d0:=λhc=>(a7 hc).2.2.2.2;have e3:=λhc k O=>((Z hc).blk k O).2;refine z0b<|z0e 10 h U λa h=>z0l 11 h U λa h=>z0l 12 h U λa h=>z0l 13 h U λa h=>?_;exact f3 ((b2,a8),qn,(e4,e5),sn,d0) _ _ _ kr (h.sub<|csu U) ⟨hC,⟨sm,sm,sm⟩,(λe=>⟨(a7 e).1,(a7 e).2.1,(a7 e).2.2.1,(a7 e).2.2.2.1,(λa4=>by have b8:=e3 e _ a4;have b1:=(Z e).blk _ a4;simp only at b8 b1;omega),(λa4=>by have b8:=e3 e _ a4;have b1:=(Z e).blk _ a4;simp only at b8 b1;omega)⟩),a0,D,(λe=>(Z e).low oo)⟩;rintro⟨⟨b2,a8⟩,qn,⟨e4,e5⟩,sn,d0⟩ a w18 ⟨hC,⟨p4,l6,hz910⟩,a7,a0,D,Z⟩ h;simp only at p4 l6 hz910 a7 a0 D Z;have o0:=hC;have E9:=o0.size;have O:=O.ext o0;have I:=I.ext o0;refine z0d 16 U<|z0t h U a0 U z3m ?_ (h1:=(by first|(simp[Value.oneCell',S];done)|exact z3l.one<|m.ys.getD j yq0));intro x0 j0 j8 hz a h;have F0:=j8.size;have O:=O.fr j8;have I:=I.fr j8;have D:=D.fr j8;have Z:=Z.fr j8 (by intro l3 k O a4;simp at O;subst O;first|exact(a7 l3).2.2.2.2.1 a4|exact(a7 l3).2.2.2.2.2 a4);have hC:=hC.sp j8;have a0:Blk x0 b2 _ [_,_,_,_,_]:=j0;clear j0;refine z0b<|z0d 17 U<|z0t h U D U x3k ?_ (h1:=(by first|(simp[Value.oneCell',S];done)|exact z3l.one<|m.ys.getD j yq0));intro x1 j0 j9 hz a h;have F1:=j9.size;have O:=O.fr j9;have I:=I.fr j9;have a0:=a0.fr j9;have Z:=Z.fr j9 (by intro l3 k O a4;simp at O;subst O;first|exact(a7 l3).2.2.2.2.1 a4|exact(a7 l3).2.2.2.2.2 a4);have hC:=hC.sp j9;have D:Blk x1 a8 _ [_,_,_]:=j0;clear j0;refine z0b<|z0d 18 U<|z0q h U λa h=>?_;refine z0b<|z0p ?_;clear hC d1 b9 b3;exact bk (h.sub (L':=ll7 0 2 3 5 9 10 11)<|csu U)<|jE ((b2,a8)) (csu U) ⟨(q2.z3 o0 j8 j9),⟨qn,e4,e5,sn,d0,⟨sm,sm,λe=>⟨(a7 e).1,(a7 e).2.1,(a7 e).2.2.1,(a7 e).2.2.2.1⟩⟩,a0,D,λe=>(Z e).low oo⟩⟩;rintro⟨g9,f4⟩ B3 ⟨h5,⟨qn,e4,e5,sn,d0,⟨p4,l6,a7⟩,a0,D,Z⟩⟩;have F2:=h5.size;have t8:=a0.lt;have s5:=D.lt;simp only at p4 l6 a0 D;refine kpC [(0,_),(2,_),(3,_),(5,_),(9,pta g9),(10,pta f4),(11,.int .i64<|mkE (m.ys.getD j yq0).p)] (csu U)<|sq<|sr<|mv U U<|ne' U<|nn<|cd U (λc0=>?_)<|λc0=>?_;refine sr<|mv U U<|asg U<|kpL (ll1 8) (csu U)<|nn<|rt<|tr<|r1 results132 U ?_;have hM:=h9.ext<|q1.n1 h5;exact⟨_,rfl,MRet.err (by unfold y1z;rw[l5,if_pos c0]) c0 hM.fr⟩;have O:=O.ext<|q1.n1 h5;have l4:(mkE (m.ys.getD j yq0).p)=0:=l16.1 c0;obtain⟨rfl,rfl,rfl,rfl⟩:=a7 l4;have Z:=Z l4;have g3:=λk O=>(Z.blk k O).2;obtain⟨m6,m8,m7⟩:=j0c hi hy hs (by rw[l5];exact l4);rw[l5]at m6 m8 m7;refine sk<|tn<|sq<|sr<|mv U U<|nlc U<|fad U y3d<|z0j U O U v1c ?_;have hM:=h9.ext<|q1.n1 h5;refine cl (ev1 U) (mkC func168) (y4u _ m.ts _ hM.t.at.1 hM.t.at.2 oo) U ?_;rintro _ B4 ⟨rfl,e9⟩;have F3:=e9.size;refine ge' U<|kpL (ll7 0 2 3 5 9 10 37) (csu U)<|nn<|cd U (λc1=>?_)<|λc1=>?_;refine sr<|asg U<|kpL (ll1 8) (csu U)<|nn<|rt<|tr<|r1 results132 U ?_;have hM:=h9.ext<|q1.n2 h5 e9;exact⟨_,rfl,MRet.err (by unfold y1z;rw[l5,if_neg (λe=>e l4),if_pos (show 2048<=z4o m.p.tb by have:m.p.tb=z2n m.ts:=rfl;rw[this];omega)]) dd hM.fr⟩;refine sk<|tn<|sr<|fad U z4j ?_;have I:=I.ext<|h5.n1 e9;refine z0j U I U na5<|fad U j3l ?_;have D:=D.ext e9;refine z0j U D U na3<|z1u (cs:=[_,_]) (ev2 U) k5v (z0g U<|z0g U z0r) U ?_;refine al z8q U<|λg1 B5 y2 a6 f6 F5=>?_;refine z0i (vs:=[_,_]) U a6 y0i (λB6 a6 f7 F6=>?_) (h1:=(by first|(simp[Value.oneCell',S];done)|exact z3l.one<|m.ys.getD j yq0));refine kpL (ll7 0 2 3 5 9 10 12) (csu U)<|nn<|sr<|fad U z5k<|y6p U z6s U ?_;have I:=(I.ext f6).fr f7;refine z0j U I U x8d<|fad U j4z ?_;have D:=(D.ext f6).fr f7;refine z0j U D U na4<|mv U U<|fad U j5j<|z0j U D U y0w<|z1u (cs:=[_,_,_,_]) (ev4 U) k4k (z0g U<|z0g U<|z0g U<|z0g U z0r) U ?_;refine al x6k U<|λf5 B7 y3 a2 f0 F7=>?_;refine z0i (vs:=[_,_,_,_]) U a2 v2r (λp7 a2 f1 F8=>?_) (h1:=(by first|(simp[Value.oneCell',S];done)|exact z3l.one<|m.ys.getD j yq0));refine kpL (ll6 0 3 5 9 12 13) (csu U)<|nn<|jn (ι:=Nat) (ll4 0 5 9 13) (λg_=>[(14,pta g_),(11,.int .i64 0)]) (λg_ w'=>Fr [] p7 w'/\∃q':BdQ,(p7.heap.size<=g_/\q'.p=m.q.p.put o.b o.p (st++[(⟨o.y,(m.ys.getD j yq0).ct⟩:LId)]))/\Blk w' g_ 25 (bdL q')/\BdO 30 64 (max wS.heap.size p7.heap.size) w' q') (csu U) ?_ ?_;have hM:=h9.ext<|q1.z6 h5 e9 f6 f7 f0 f1;have O:=(((O.ext<|e9.n1 f6).fr f7).ext f0).fr f1;have b6:=s2.ext<|q1.z6 h5 e9 f6 f7 f0 f1;have I:=(I.ext f0).fr f1;have a0:=(((a0.ext<|e9.n1 f6).fr f7).ext f0).fr f1;have D:=(D.ext f0).fr f1;have Z:=(((Z.ext<|e9.n1 f6).fr f7 (by intro k O a4;simp at O;subst O;have b1:=Z.blk _ a4;have k8:=g3 _ a4;omega)).ext f0).fr f1 (by intro k O a4;simp at O;subst O;have b1:=Z.blk _ a4;have k8:=g3 _ a4;omega);have a6:=(a6.ext f0).fr f1;intro a h;refine z0h none (λwb w'=>Fr [] wb w') z2r ?_;intro d7 g8;have F9:=g8.size;have hM:=hM.ext g8;have O:=O.ext g8;have b6:=b6.ext g8;have I:=I.ext g8;have a0:=a0.ext g8;have D:=D.ext g8;have Z:=Z.ext g8;have a6:=a6.ext g8;have a2:=a2.ext g8;have hC:Fr [] d7 d7:=l12 _ _;have d1:=hM;have b9:=O;have p1:=b6;have b3:=I;have i0:=a0;have m5:=D;have g6:=Z;have k1:=a6;have d9:=a2;refine y0o (ι:=Nat×BdQ) h (ll6 0 3 5 9 12 13) (csu U) #[true,true,true,true,true,true,true,true,true,true,true,true,true,true,true,true,false,false] 2 (λp=>[(14,pta p.1),(65,bvv p.2),(66,.int .i64 0)]) (λp w'=>Fr [] d7 w'/\(d7.heap.size<=p.1/\p.2.p=m.q.p.put o.b o.p (st++[(⟨o.y,(m.ys.getD j yq0).ct⟩:LId)]))/\Blk w' p.1 25 [.slice none 0 0,.slice none 0 0]/\BdO 30 64 (max wS.heap.size d7.heap.size) w' p.2) (λj7=>?_) ?_;refine y0o (ι:=(Nat×Nat)×Nat) h (ll6 0 3 5 9 12 13) (csu U) #[true,true,true,true,true,true,true,true,true,true,false,false,false,false,false,true,false,false] 7 (λp=>[(56,bvv m.q),(58,.agg #[.int .u8 o.b,.int .i64 o.p]),(60,.slice (saa p.1.1) st.length st.length),(62,.slice (saa p.1.2) 1 1),(14,pta p.2)]) (λp w'=>Fr [] d7 w'/\(d7.heap.size<=p.1.1/\d7.heap.size<=p.1.2)/\Lw.Own z1g 64 d7.heap.size w' (.slice (saa p.1.1) st.length st.length) st/\Lw.Own z1g 64 d7.heap.size w' (.slice (saa p.1.2) 1 1) [(⟨o.y,(m.ys.getD j yq0).ct⟩:LId)]/\d7.heap.size<=p.2/\Blk w' p.2 25 [.slice none 0 0,.slice none 0 0]) (λg4=>?_) ?_;refine y0o (ι:=Nat×Nat) h (ll6 0 3 5 9 12 13) (csu U) #[true,true,true,true,true,true,true,true,true,true,false,false,false,false,false,false,false,false] 8 (λp=>[(56,bvv m.q),(58,.agg #[.int .u8 o.b,.int .i64 o.p]),(60,.slice (saa p.1) st.length st.length),(62,.slice (saa p.2) 1 1)]) (λp w'=>Fr [] d7 w'/\(d7.heap.size<=p.1/\d7.heap.size<=p.2)/\Lw.Own z1g 64 d7.heap.size w' (.slice (saa p.1) st.length st.length) st/\Lw.Own z1g 64 d7.heap.size w' (.slice (saa p.2) 1 1) [(⟨o.y,(m.ys.getD j yq0).ct⟩:LId)]) (λl2=>?_) ?_;refine z0e 0 h U λa h=>z0o 1 h U λa h=>z0c 2 h U z3p U λa h=>z1h (vs:=[_,_]) 3 h U (λ_ hw=>(b9.ext hw)) z5a U U λa h=>z0c 4 h U z5k U λa h=>z1h (vs:=[_,_]) 5 h U (λ_ hw=>(b3.ext hw)) z5n U U λa h=>z0e 6 h U λa h=>z0x 8 h U (λ_ hw=>k1.ext hw) z2z U λa h=>y9p 7 9 15 kr U U U ?_ ?_ ?_;refine z0n h (z0a U z0f) x5c (z4f _ st _ b6 oo) ?_;rintro _ x2 ⟨f2,rfl,k2,hX,h0⟩ a h;have G0:=h0.size;have hM:=hM.ext h0;have O:=O.ext h0;have b6:=b6.ext h0;have I:=I.ext h0;have a0:=a0.ext h0;have D:=D.ext h0;have Z:=Z.ext h0;have a6:=a6.ext h0;have a2:=a2.ext h0;have hC:=hC.next h0;have i9:=λk O=>(hX.blk k O).2;refine z0b<|z1w 9 15 kr U ?_ ?_;refine z2b ([(⟨o.y,(m.ys.getD j yq0).ct⟩:LId)]) h (z0a U z0f) U z4k λa5 B8 hg a9 p5 hz a h=>?_;have c9.gk_62:ka.gk<a5:=by have:=O.lt;omega
 have b7:g5<a5:=by have:=I.lt;omega
 have b7:g9<a5:=by have:=a0.lt;omega
 have e6:f4<a5:=by have:=D.lt;omega
 have e7:g1<a5:=by have:=a6.lt;omega
 have e8:f5<a5:=by have:=a2.lt;omega
 have G1:=p5.size;have hX:=hX.ext p5;have hC:=hC.next p5;exact z0b<|l2 (f2,a5) _ _ _ kr (h.sub<|csu U) ⟨hC,⟨sm,sm⟩,hX.low oo,a9.low oo⟩;refine z0w h x5y U λB9 a3 i3 hz a h=>?_;obtain⟨a1,hg⟩:∃g,g=x2.heap.size:=⟨_,rfl⟩;rw[<-hg]at a3 h hz;have c9.gk_14:ka.gk<a1:=by have:=O.lt;omega
 have b4:g5<a1:=by have:=I.lt;omega
 have b4:g9<a1:=by have:=a0.lt;omega
 have d4:f4<a1:=by have:=D.lt;omega
 have d5:g1<a1:=by have:=a6.lt;omega
 have d6:f5<a1:=by have:=a2.lt;omega
 have G2:=i3.size;have O:=O.ext i3;have I:=I.ext i3;have a0:=a0.ext i3;have D:=D.ext i3;have a6:=a6.ext i3;have a2:=a2.ext i3;have hC:=hC.next i3;refine z0b<|z0d 9 U<|z2b ([(⟨o.y,(m.ys.getD j yq0).ct⟩:LId)]) h (z0a U z0f) U z4k λa5 C0 hg a9 o1 hz a h=>?_;have c9.gk_62:ka.gk<a5:=by have:=O.lt;omega
 have b7:g5<a5:=by have:=I.lt;omega
 have b7:g9<a5:=by have:=a0.lt;omega
 have e6:f4<a5:=by have:=D.lt;omega
 have e7:g1<a5:=by have:=a6.lt;omega
 have e8:f5<a5:=by have:=a2.lt;omega
 have h8:a1<a5:=by have:=a3.lt;omega
 have G3:=o1.size;have hX:=hX.ext<|i3.n1 o1;have a3:=a3.ext o1;have hC:=hC.next o1;exact z0b<|g4 ((f2,a5),a1) _ _ _ kr (h.sub<|csu U) ⟨hC,⟨sm,sm⟩,hX.low oo,a9.low oo,sm,a3⟩;refine z2b ([(⟨o.y,(m.ys.getD j yq0).ct⟩:LId)]) h (z0a U z0f) U z4k λa5 x3 hg a9 h2 hz a h=>?_;have c9.gk_62:ka.gk<a5:=by have:=O.lt;omega
 have b7:g5<a5:=by have:=I.lt;omega
 have b7:g9<a5:=by have:=a0.lt;omega
 have e6:f4<a5:=by have:=D.lt;omega
 have e7:g1<a5:=by have:=a6.lt;omega
 have e8:f5<a5:=by have:=a2.lt;omega
 have G4:=h2.size;have hM:=hM.ext h2;have O:=O.ext h2;have b6:=b6.ext h2;have I:=I.ext h2;have a0:=a0.ext h2;have D:=D.ext h2;have Z:=Z.ext h2;have a6:=a6.ext h2;have a2:=a2.ext h2;have hC:=hC.next h2;refine z0b<|z1w 7 15 kr U ?_ ?_;refine z0n h (z0a U z0f) x5c (z4f _ st _ b6 oo) ?_;rintro _ C1 ⟨f2,rfl,k2,hX,o2⟩ a h;have G5:=o2.size;have O:=O.ext o2;have a9:=a9.ext o2;have hC:=hC.next o2;have i9:=λk O=>(hX.blk k O).2;exact z0b<|l2 (f2,a5) _ _ _ kr (h.sub<|csu U) ⟨hC,⟨sm,sm⟩,hX.low oo,a9.low oo⟩;refine z0w h x5y U λC2 a3 m3 hz a h=>?_;obtain⟨a1,hg⟩:∃g,g=x3.heap.size:=⟨_,rfl⟩;rw[<-hg]at a3 h hz;have c9.gk_14:ka.gk<a1:=by have:=O.lt;omega
 have b4:g5<a1:=by have:=I.lt;omega
 have b4:g9<a1:=by have:=a0.lt;omega
 have d4:f4<a1:=by have:=D.lt;omega
 have d5:g1<a1:=by have:=a6.lt;omega
 have d6:f5<a1:=by have:=a2.lt;omega
 have p9:a5<a1:=by have:=(a9.blk a5 t10).2;omega
 have G6:=m3.size;have b6:=b6.ext m3;have hC:=hC.next m3;refine z0b<|z0d 7 U<|z0n h (z0a U z0f) x5c (z4f _ st _ b6 oo) ?_;rintro _ C3 ⟨f2,rfl,k2,hX,m4⟩ a h;have G7:=m4.size;have O:=O.ext<|m3.n1 m4;have a9:=a9.ext<|m3.n1 m4;have a3:=a3.ext m4;have hC:=hC.next m4;have i9:=λk O=>(hX.blk k O).2;exact z0b<|g4 ((f2,a5),a1) _ _ _ kr (h.sub<|csu U) ⟨hC,⟨sm,sm⟩,hX.low oo,a9.low oo,sm,a3⟩;refine z0w h x5y U λC4 a3 h3 hz a h=>?_;obtain⟨a1,hg⟩:∃g,g=d7.heap.size:=⟨_,rfl⟩;rw[<-hg]at a3 h hz;have c9.gk_14:ka.gk<a1:=by have:=O.lt;omega
 have b4:g5<a1:=by have:=I.lt;omega
 have b4:g9<a1:=by have:=a0.lt;omega
 have d4:f4<a1:=by have:=D.lt;omega
 have d5:g1<a1:=by have:=a6.lt;omega
 have d6:f5<a1:=by have:=a2.lt;omega
 have G8:=h3.size;have hM:=hM.ext h3;have O:=O.ext h3;have b6:=b6.ext h3;have I:=I.ext h3;have a0:=a0.ext h3;have D:=D.ext h3;have Z:=Z.ext h3;have a6:=a6.ext h3;have a2:=a2.ext h3;have hC:=hC.next h3;refine z0b<|z1w 7 9 kr U ?_ ?_;refine z0n h (z0a U z0f) x5c (z4f _ st _ b6 oo) ?_;rintro _ C5 ⟨f2,rfl,k2,hX,i4⟩ a h;have G9:=i4.size;have O:=O.ext i4;have I:=I.ext i4;have a0:=a0.ext i4;have D:=D.ext i4;have a6:=a6.ext i4;have a2:=a2.ext i4;have a3:=a3.ext i4;have hC:=hC.next i4;have i9:=λk O=>(hX.blk k O).2;refine z0b<|z0d 9 U<|z2b ([(⟨o.y,(m.ys.getD j yq0).ct⟩:LId)]) h (z0a U z0f) U z4k λa5 C6 hg a9 o3 hz a h=>?_;have c9.gk_62:ka.gk<a5:=by have:=O.lt;omega
 have b7:g5<a5:=by have:=I.lt;omega
 have b7:g9<a5:=by have:=a0.lt;omega
 have e6:f4<a5:=by have:=D.lt;omega
 have e7:g1<a5:=by have:=a6.lt;omega
 have e8:f5<a5:=by have:=a2.lt;omega
 have h8:a1<a5:=by have:=a3.lt;omega
 have H0:=o3.size;have a3:=a3.ext o3;have hX:=hX.ext o3;have hC:=hC.next o3;exact z0b<|g4 ((f2,a5),a1) _ _ _ kr (h.sub<|csu U) ⟨hC,⟨sm,sm⟩,hX.low oo,a9.low oo,sm,a3⟩;refine z2b ([(⟨o.y,(m.ys.getD j yq0).ct⟩:LId)]) h (z0a U z0f) U z4k λa5 C7 hg a9 f8 hz a h=>?_;have c9.gk_62:ka.gk<a5:=by have:=O.lt;omega
 have b7:g5<a5:=by have:=I.lt;omega
 have b7:g9<a5:=by have:=a0.lt;omega
 have e6:f4<a5:=by have:=D.lt;omega
 have e7:g1<a5:=by have:=a6.lt;omega
 have e8:f5<a5:=by have:=a2.lt;omega
 have h8:a1<a5:=by have:=a3.lt;omega
 have H1:=f8.size;have hM:=hM.ext f8;have O:=O.ext f8;have b6:=b6.ext f8;have I:=I.ext f8;have a0:=a0.ext f8;have D:=D.ext f8;have Z:=Z.ext f8;have a6:=a6.ext f8;have a2:=a2.ext f8;have a3:=a3.ext f8;have hC:=hC.next f8;refine z0b<|z0d 7 U<|z0n h (z0a U z0f) x5c (z4f _ st _ b6 oo) ?_;rintro _ C8 ⟨f2,rfl,k2,hX,hq⟩ a h;have H2:=hq.size;have hM:=hM.ext hq;have O:=O.ext hq;have b6:=b6.ext hq;have I:=I.ext hq;have a0:=a0.ext hq;have D:=D.ext hq;have Z:=Z.ext hq;have a6:=a6.ext hq;have a2:=a2.ext hq;have a3:=a3.ext hq;have a9:=a9.ext hq;have hC:=hC.next hq;have A6:=hq;have i9:=λk O=>(hX.blk k O).2;exact z0b<|g4 ((f2,a5),a1) _ _ _ kr (h.sub<|csu U) ⟨hC,⟨sm,sm⟩,hX.low oo,a9.low oo,sm,a3⟩;rintro⟨f2,a5⟩ a x4 ⟨hC,⟨l7,l8⟩,hX,a9⟩ h;simp only at l7 l8 hX a9;have h6:=hC;have H3:=h6.size;have hM:=hM.ext h6;have O:=O.ext h6;have b6:=b6.ext h6;have I:=I.ext h6;have a0:=a0.ext h6;have D:=D.ext h6;have Z:=Z.ext h6;have a6:=a6.ext h6;have a2:=a2.ext h6;have i9:=λk h_=>(hX.blk k h_).2;refine z1w 10 15 kr U ?_ ?_;have b0:=hX;refine z4h h U U hX a9.sl z4k t41 ?_ (hM:=t68);intro u9 x5 hX i5 p0 a h;obtain⟨t9,u0,rfl,r5⟩:=hX.sl.form;have i9:=λk O=>(hX.blk k O).2;have H4:=i5.size;have O:=O.fr i5<|λb5=>b0.neB O dd b5;have I:=I.fr i5<|λb5=>b0.neB I dd b5;have a0:=a0.fr i5<|λb5=>b0.neB a0 dd b5;have D:=D.fr i5<|λb5=>b0.neB D dd b5;have Z:=Z.fr i5<|Own.neO b0 Z dd;have a6:=a6.fr i5 (λb5=>by have:=(b0.blk _ b5).1;omega);have a2:=a2.fr i5<|λb5=>b0.neB a2 dd b5;have hC:=hC.step i5<|λk O o8=>absurd (b0.blk k O).1 oo;refine z0b<|z1w 11 15 kr U ?_ ?_;refine z0n h (z0a U<|z0a U<|z0a U z0f) v5i (by have x:=x5n m.q o.b n _ (st++[(⟨o.y,(m.ys.getD j yq0).ct⟩:LId)]) _ (d1.ext hC).b.at hX.sl hv (by rw[<-i2];exact hn) m6 m8 (by rw[<-i2];exact m7);rw[<-i2]at x;exact x) ?_;rintro _ x6 ⟨⟨q',rfl,hQ,h4⟩,q43⟩ a h;have H5:=q43.size;have O:=O.ext q43;have I:=I.ext q43;have a0:=a0.ext q43;have D:=D.ext q43;have a6:=a6.ext q43;have a2:=a2.ext q43;have hC:=hC.next q43;refine z0b<|z0e 12 h U λa h=>z0l 13 h U λa h=>z0l 14 h U λa h=>z0d 15 U<|z0w h x5y U λC9 a3 o4 hz a h=>?_;obtain⟨a1,hg⟩:∃g,g=x6.heap.size:=⟨_,rfl⟩;rw[<-hg]at a3 h hz;have c9.gk_14:ka.gk<a1:=by have:=O.lt;omega
 have b4:g5<a1:=by have:=I.lt;omega
 have b4:g9<a1:=by have:=a0.lt;omega
 have d4:f4<a1:=by have:=D.lt;omega
 have d5:g1<a1:=by have:=a6.lt;omega
 have d6:f5<a1:=by have:=a2.lt;omega
 have H6:=o4.size;first|have hQ:=BdO.ext hQ o4|have hQ:=BdO.tf hQ o4 (OffT.one a3 dd)<|OffT.one a3 dd
 have hC:=hC.next o4;exact z0b<|j7 (a1,q') _ _ _ kr (h.sub<|csu U) ⟨hC,⟨sm,h4⟩,a3,BdO.low hQ oo⟩;refine z0w h x5y U λD0 a3 p6 hz a h=>?_;obtain⟨a1,hg⟩:∃g,g=x5.heap.size:=⟨_,rfl⟩;rw[<-hg]at a3 h hz;have c9.gk_14:ka.gk<a1:=by have:=O.lt;omega
 have b4:g5<a1:=by have:=I.lt;omega
 have b4:g9<a1:=by have:=a0.lt;omega
 have d4:f4<a1:=by have:=D.lt;omega
 have d5:g1<a1:=by have:=a6.lt;omega
 have d6:f5<a1:=by have:=a2.lt;omega
 have H7:=p6.size;have hX:=hX.ext p6;have hC:=hC.next p6;refine z0b<|z0d 11 U<|z0n h (z0a U<|z0a U<|z0a U z0f) v5i (by have x:=x5n m.q o.b n _ (st++[(⟨o.y,(m.ys.getD j yq0).ct⟩:LId)]) _ (d1.ext hC).b.at hX.sl hv (by rw[<-i2];exact hn) m6 m8 (by rw[<-i2];exact m7);rw[<-i2]at x;exact x) ?_;rintro _ D1 ⟨⟨q',rfl,hQ,h4⟩,q46⟩ a h;have H8:=q46.size;have a3:=a3.ext q46;have hC:=hC.next q46;refine z0b<|z0e 12 h U λa h=>z0l 13 h U λa h=>z0l 14 h U λa h=>?_;exact j7 (a1,q') _ _ _ kr (h.sub<|csu U) ⟨hC,⟨sm,h4⟩,a3,BdO.low hQ oo⟩;refine z0w h x5y U λD2 a3 o5 hz a h=>?_;obtain⟨a1,hg⟩:∃g,g=x4.heap.size:=⟨_,rfl⟩;rw[<-hg]at a3 h hz;have c9.gk_14:ka.gk<a1:=by have:=O.lt;omega
 have b4:g5<a1:=by have:=I.lt;omega
 have b4:g9<a1:=by have:=a0.lt;omega
 have d4:f4<a1:=by have:=D.lt;omega
 have d5:g1<a1:=by have:=a6.lt;omega
 have d6:f5<a1:=by have:=a2.lt;omega
 have H9:=o5.size;have hX:=hX.ext o5;have a9:=a9.ext o5;have hC:=hC.next o5;exact z0b<|g4 ((f2,a5),a1) _ _ _ kr (h.sub<|csu U) ⟨hC,⟨sm,sm⟩,hX.low oo,a9.low oo,sm,a3⟩;rintro⟨⟨f2,a5⟩,a1⟩ a w48 ⟨hC,⟨l7,l8⟩,hX,a9,k7,a3⟩ h;simp only at l7 l8 hX a9 k7 a3;have i7:=hC;have I0:=i7.size;have hM:=hM.ext i7;have O:=O.ext i7;have I:=I.ext i7;have a0:=a0.ext i7;have D:=D.ext i7;have Z:=Z.ext i7;have a6:=a6.ext i7;have a2:=a2.ext i7;have i9:=λk h_=>(hX.blk k h_).2;refine z0d 10 U ?_;have b0:=hX;refine z4h h U U hX a9.sl z4k t41 ?_ (hM:=t68);intro u9 D3 hX h7 p0 a h;obtain⟨t9,u0,rfl,r5⟩:=hX.sl.form;have i9:=λk O=>(hX.blk k O).2;have I1:=h7.size;have O:=O.fr h7<|λb5=>b0.neB O dd b5;have I:=I.fr h7<|λb5=>b0.neB I dd b5;have a0:=a0.fr h7<|λb5=>b0.neB a0 dd b5;have D:=D.fr h7<|λb5=>b0.neB D dd b5;have Z:=Z.fr h7<|Own.neO b0 Z dd;have a6:=a6.fr h7 (λb5=>by have:=(b0.blk _ b5).1;omega);have a2:=a2.fr h7<|λb5=>b0.neB a2 dd b5;have a3:=a3.fr h7<|λb5=>b0.neB a3 dd b5;have hC:=hC.step h7<|λk O o8=>absurd (b0.blk k O).1 oo;refine z0b<|z0d 11 U<|z0n h (z0a U<|z0a U<|z0a U z0f) v5i (by have x:=x5n m.q o.b n _ (st++[(⟨o.y,(m.ys.getD j yq0).ct⟩:LId)]) _ (d1.ext hC).b.at hX.sl hv (by rw[<-i2];exact hn) m6 m8 (by rw[<-i2];exact m7);rw[<-i2]at x;exact x) ?_;rintro _ D4 ⟨⟨q',rfl,hQ,h4⟩,q50⟩ a h;have I2:=q50.size;have a3:=a3.ext q50;have hC:=hC.next q50;refine z0b<|z0e 12 h U λa h=>z0l 13 h U λa h=>z0l 14 h U λa h=>?_;exact j7 (a1,q') _ _ _ kr (h.sub<|csu U) ⟨hC,⟨sm,h4⟩,a3,BdO.low hQ oo⟩;rintro⟨a1,q'⟩ a D5 ⟨hC,⟨k7,h4⟩,a3,hQ⟩ h;simp only at k7 h4 a3 hQ;have i8:=hC;have I3:=i8.size;have O:=O.ext i8;have I:=I.ext i8;have a0:=a0.ext i8;have D:=D.ext i8;have Z:=Z.ext i8;have a6:=a6.ext i8;have a2:=a2.ext i8;refine z0d 16 U<|z0t h U a3 U x1k ?_ (h1:=(by first|(simp[Value.oneCell',S];done)|exact z3l.one<|m.ys.getD j yq0));intro x7 j0 f9 hz a h;have I4:=f9.size;have O:=O.fr f9;have I:=I.fr f9;have a0:=a0.fr f9;have D:=D.fr f9;have Z:=Z.fr f9 (by intro k O a4;simp at O;subst O;have b1:=Z.blk _ a4;have k8:=g3 _ a4;omega);have a6:=a6.fr f9;have a2:=a2.fr f9;first|have hQ:=BdO.ext hQ f9|have hQ:=BdO.tf hQ f9 (OffT.one a3 dd)<|OffT.one a3 dd
 have hC:=hC.sp f9;have a3:Blk x7 a1 _ [_,_]:=j0;clear j0;refine z0b<|z0d 17 U<|z0q h U λa h=>?_;refine z0b<|z0p ?_;clear hC d1 b9 p1 b3 i0 m5 g6 k1 d9;exact bk (h.sub (L':=ll6 0 5 9 11 13 14)<|csu U)<|jE (a1) (csu U) ⟨(g8.z2 i8 f9),⟨q',⟨oo,h4⟩,a3,BdO.low hQ oo⟩⟩;rintro u1 D6 ⟨j3,⟨q',⟨k7,h4⟩,a3,hQ⟩⟩;have I5:=j3.size;have s6:=a3.lt;refine kpC [(0,_),(5,_),(9,_),(13,_),(14,pta u1),(11,.int .i64 0)] (csu U) ?_;have u2:=x3m hQ h9.f oo;refine sq<|sr<|mv U U<|ne' U<|nn<|cd U (λc2=>?_)<|λc2=>?_;exact absurd U c2;refine sk<|tn<|sr<|mv U U<|z0k U a3 z5a<|nlc U<|fad U z3p ?_;have hM:=h9.ext<|(q1.z6 h5 e9 f6 f7 f0 f1).n1 j3;have O:=((((O.ext<|e9.n1 f6).fr f7).ext f0).fr f1).ext j3;refine z5j (cs':=u7n ka { m with q:=q' }) U U hM.k t44 x1k U<|λD7 r8 l0 I6=>?_;have hM:=hM.beds mtd (hQ.low oo) r8 l0 u2;have O:=hM.k;have h9:=hM;have q0:=hM;have hF:Lw.Own z1g 64 wS.heap.size _ (slv m.fa) m.fl:=hM.f;clear r8;refine kpL (ll4 0 5 9 13) (csu U)<|nn<|sq ?_;have I:=(((I.ext f0).fr f1).ext j3).fr l0;have a0:=(((((a0.ext<|e9.n1 f6).fr f7).ext f0).fr f1).ext j3).fr l0;have Z:=(((((Z.ext<|e9.n1 f6).fr f7 (by intro k O a4;simp at O;subst O;have b1:=Z.blk _ a4;have k8:=g3 _ a4;omega)).ext f0).fr f1 (by intro k O a4;simp at O;subst O;have b1:=Z.blk _ a4;have k8:=g3 _ a4;omega)).ext j3).fr l0 (by intro k O a4;simp at O;subst O;have b1:=Z.blk _ a4;have k8:=g3 _ a4;omega);have a2:=(a2.ext j3).fr l0;intro a h;refine z0h (some 9) (λwb w'=>Fr [] wb w') z2r ?_;intro s8 j4;have I7:=j4.size;have hM:=hM.ext j4;have O:=O.ext j4;have I:=I.ext j4;have a0:=a0.ext j4;have Z:=Z.ext j4;have a2:=a2.ext j4;have hC:Fr [] s8 s8:=l12 _ _;have d1:=hM;have b9:=O;have b3:=I;have i0:=a0;have g6:=Z;have d9:=a2;refine z0e 0 h U λa h=>z0o 1 h U λa h=>z0c 2 h U z3r U λa h=>z0m 3 h U (λ_ hw=>b9.ext hw) U y4s U λa h=>z0c 4 h U z4j U λa h=>z0m 5 h U (λ_ hw=>b3.ext hw) U na5 U λa h=>z2v 6 h U t19 U λa h=>z0x 7 h U (λ_ hw=>i0.ext hw) z3k U λa h=>z1l 8 kr kr kr hC (p:=j) h wn U y5d oo oo oo U U λa h=>z0d 9 U<|z1a (i:=j) ((⟨true,(m.ys.getD j yq0).pl,(m.ys.getD j yq0).ct+1,false,sv0,[]⟩:YQ):YQ) h U hM.y.out (by rw[hM.ly];exact hj) U z3m λx8 o7 k0 _hz a h=>?_;have hM:=hM.yarn mtd hj o7 k0<|Own.nil _;have h9:=hM;clear o7;have I8:=k0.size;have I:=I.fr k0;have a0:=a0.fr k0;have Z:=Z.fr k0 (by intro k O a4;simp at O;subst O;have b1:=Z.blk _ a4;have k8:=g3 _ a4;omega);have a2:=a2.fr k0;have O:=hM.k;clear _hz;refine z1m<|z0p ?_;clear hC d1 b9 b3 i0 g6 d9;have g7:=(((((((g7.ext<|q1.n3 h5 e9 f6).fr f7 (by intro k O a4;simp at O;subst O;first|exact k4 a4|exact k5 a4|(have:=k6 _ a4;omega))).ext f0).fr f1 (by intro k O a4;simp at O;subst O;first|exact k4 a4|exact k5 a4|(have:=k6 _ a4;omega))).ext j3).fr l0 (by intro k O a4;simp at O;subst O;first|exact k4 a4|exact k5 a4|(have:=k6 _ a4;omega))).ext j4).fr k0 (by intro k O a4;simp at O;subst O;first|exact k4 a4|exact k5 a4|(have:=k6 _ a4;omega));have d3:=hM.t.ins j (by rw[hM.lt];exact hj);have u4:=d3;have u5:∀k∈z0u (slv (m.ts.getD j tq0).1),k<x8.heap.size:=λk O=>(d3.blk k O).2;have A2:(m.ts.getD j tq0).2.length<=2048:=by have:=u9r m.ts j;omega
 refine bk (h.sub (L':=ll3 0 5 13)<|csu U)<|tn<|sq ?_;intro a h;refine z0h (some 20) (λwb w'=>Fr (z0u<|slv (m.ts.getD j tq0).1) wb w') z2r ?_;intro s9 j5;have I9:=j5.size;have hM:=hM.ext j5;have O:=O.ext j5;have g7:=g7.ext j5;have I:=I.ext j5;have Z:=Z.ext j5;have a2:=a2.ext j5;have d3:=d3.ext j5;have hC:Fr (z0u<|slv (m.ts.getD j tq0).1) s9 s9:=l12 _ _;have d1:=hM;have b9:=O;have p3:=g7;have b3:=I;have g6:=Z;have d9:=a2;have e0:=d3;refine z0e 0 h U λa h=>z0o 1 h U λa h=>z0c 2 h U y3d U λa h=>z0m 3 h U (λ_ hw=>b9.fr hw<|λk_=>Own.neB e0 b9 dd k_) U v1c U λa h=>z0c 4 h U z4j U λa h=>z0m 5 h U (λ_ hw=>b3.fr hw<|λk_=>Own.neB e0 b3 dd k_) U na5 U λa h=>z2v 6 h U t19 U λa h=>z0e 7 h U λa h=>z0o 8 h U λa h=>z0c 9 h U y3d U λa h=>z0m 10 h U (λ_ hw=>b9.fr hw<|λk_=>Own.neB e0 b9 dd k_) U v1c U λa h=>z0c 11 h U z4j U λa h=>z0m 12 h U (λ_ hw=>b3.fr hw<|λk_=>Own.neB e0 b3 dd k_) U na5 U λa h=>z2v 13 h U t19 U λa h=>z1e (p:=j) (tq0) 14 h U (show Sl z4w _ ka.TV m.ts from hM.t.out.sl) U x1r U λy0 r6 a h=>z2g 15 h U (λ_ hw=>r6 _ (z2a d1.t.out hw<|z7c e0 dd).sl) y2m U λa h=>z0x 16 h U (λ_ hw=>d9.fr hw (λk_=>by have:=s1 _ k_;omega)) x4o U λa h=>z0d 17 U<|z2b ([(⟨o.b,(m.ys.getD j yq0).nw,th,sn,ths,(m.ys.getD j yq0).pes⟩:LpQ)]) h (z0a U z0f) U y5t λj6 D8 hg o9 l1 hz a h=>?_;have c9.gk_100:ka.gk<j6:=by have:=O.lt;omega
 have r9:g5<j6:=by have:=I.lt;omega
 have p8:f5<j6:=by have:=a2.lt;omega
 have J0:=l1.size;have hM:=hM.ext l1;have g7:=g7.ext l1;have Z:=Z.ext l1;have d3:=d3.ext l1;have hC:=hC.next l1;refine z0b<|z0d 18 U ?_;have m9:=d3;refine z4h h U U d3 o9.sl y5t t41 ?_ (hM:=t68);intro y6 D9 d3 o6 n7 a h;have q0:=hM;have u3:LpO τd wS.heap.size _ (⟨o.b,(m.ys.getD j yq0).nw,th,sn,ths,(m.ys.getD j yq0).pes⟩:LpQ):=⟨g7,Z.low oo⟩;have u6:=z2a hM.t.out o6<|z7c m9 dd;have u7:=o6;obtain⟨AR,cR,rfl,_⟩:=d3.sl.form;have j3q:=d3;have J1:=o6.size;have hC:=hC.step o6<|λk_ h_ _=>h_;refine z0b<|z0d 19 U<|x0s (p:=j) (E:=z4w) h U U x1r oo oo oo U λa h=>?_;refine z0b<|z0d 20 U<|z1a (i:=j) (((AR,((m.ts.getD j tq0).2++[(⟨o.b,(m.ys.getD j yq0).nw,th,sn,ths,(m.ys.getD j yq0).pes⟩:LpQ)]).length,cR),((m.ts.getD j tq0).2++[(⟨o.b,(m.ys.getD j yq0).nw,th,sn,ths,(m.ys.getD j yq0).pes⟩:LpQ)])):TQ) h U u6 (by rw[hM.lt];exact hj) U j4l λE0 s4 hq _hz a h=>?_;have hM:=q0.row mtd (u:=(AR,((m.ts.getD j tq0).2++[(⟨o.b,(m.ys.getD j yq0).nw,th,sn,ths,(m.ys.getD j yq0).pes⟩:LpQ)]).length,cR)) hj u3 s3 j3q u7 n7 s4 hq;clear hq _hz;refine z1m<|z0p ?_;clear hC d1 b9 p3 b3 g6 d9 e0;refine bk (h.sub (L':=[]) .nil)<|tn<|sr<|asg U<|nn<|rt<|r1 results132 U ?_;exact⟨_,rfl,MRet.ok (by unfold y1z;rw[l5,if_neg (λe=>e l4),if_neg (show ¬2048<=z4o m.p.tb by have:m.p.tb=z2n m.ts:=rfl;rw[this];omega)];exact congrArg Except.ok (j9n m j r7 h4).symm) hM⟩
end Go.Proofs.YtlfdhllfmoplgaaGreatDoor
namespace Go.G08
open Go.Lw Go.G21
theorem z6b (c:Cx)(l:List Cx):crM (c::l)=((c.a,c.b),.int .i64 c.n)::crM l:=rfl
theorem z8t {a b:LId}{c:Cx}:isC a b c=true↔c.a=a/\c.b=b:=by unfold isC;simp
theorem u0a (a b:LId):∀l:List Cx,(z2s (crM l) (a,b)).getD (.int .i64 0)=.int .i64 (z6w l a b)
 | []=>rfl
 | c::l=>by
  rw[z6b]
  unfold z2s z6w
  rw[List.find?_cons]
  by_cases h:c.a=a/\c.b=b
  ·rw[if_pos (by rw[<-h.1,<-h.2]),z8t.2 h];rfl
  have D:isC a b c=false:=by cases e:isC a b c;rfl;exact absurd (z8t.1 e) h
  rw[if_neg (λe=>h ⟨(Prod.mk.inj e).1.symm,(Prod.mk.inj e).2.symm⟩),D]
  exact u0a a b l
theorem v6a {a b:LId}{l:List Cx}(h:(a,b)∉(crM l).map (·.1)):∀c∈l,isC a b c=false:=λc O=>by
 cases e:isC a b c
 ·rfl
 obtain⟨D,I⟩:=z8t.1 e
 refine absurd ?_ h
 unfold crM
 rw[l80]
 exact l54.2 ⟨c,O,by simp[D,I]⟩
theorem v8r (a b:LId)(n:Int):∀l:List Cx,((crM l).map (·.1)).Nodup->crM (y4p l a b n)=z4m (crM l) (a,b) (.int .i64 n)
 | [],_=>rfl
 | c::l,hn=>by
  rw[z6b,l32]at hn
  obtain⟨n1,n2⟩:=l104.1 hn
  have ih:=v8r a b n l n2
  by_cases h:c.a=a/\c.b=b
  ·obtain⟨D,I⟩:=h
   subst D;subst I
   have hl:l.map (λx=>if isC c.a c.b x then (⟨c.a,c.b,n⟩:Cx) else x)=l:=by
    have:=v6a (l:=l) n1
    conv=>rhs;rw[<-List.map_id l]
    refine l114 λx Z=>?_
    rw[this x Z];rfl
   have hi:isC c.a c.b c=true:=z8t.2 ⟨rfl,rfl⟩
   have e2:y4p (c::l) c.a c.b n=⟨c.a,c.b,n⟩::l:=by
    unfold y4p
    rw[List.any_cons,hi,Bool.true_or,if_pos U,l32,hi,if_pos U,hl]
   have e1:z4m (((c.a,c.b),Value.int .i64 c.n)::crM l) (c.a,c.b) (.int .i64 n)=((c.a,c.b),.int .i64 n)::crM l:=by
    unfold z4m;simp[l60]
   rw[e2,z6b,z6b,e1]
  have D:isC a b c=false:=by cases e:isC a b c;rfl;exact absurd (z8t.1 e) h
  have I:¬((a,b):LId×LId)=(c.a,c.b):=λe=>h ⟨(Prod.mk.inj e).1.symm,(Prod.mk.inj e).2.symm⟩
  have O:y4p (c::l) a b n=c::y4p l a b n:=by
   unfold y4p
   rw[List.any_cons,D,Bool.false_or]
   split
   ·rw[l32,D];rfl
   rfl
  rw[O,z6b,ih]
  unfold z4m
  rw[z6b,l32,l60,if_neg (by simpa using I)]
  cases hf:((crM l).map (·.1)).findIdx? (λx=>decide ((a,b)=x)) with
  | none=>rfl
  | some i=>rfl
theorem v9l (a b:LId):∀l:List Cx,((crM l).map (·.1)).Nodup->crM (x7u l a b)=z6c (crM l) (a,b)
 | [],_=>rfl
 | c::l,hn=>by
  rw[z6b,l32]at hn
  obtain⟨n1,n2⟩:=l104.1 hn
  have ih:=v9l a b l n2
  by_cases h:c.a=a/\c.b=b
  ·obtain⟨D,I⟩:=h
   subst D;subst I
   have hl:l.filter (λx=>!isC c.a c.b x)=l:=List.filter_eq_self.2 λx Z=>by
    rw[v6a (l:=l) n1 x Z];rfl
   have hi:isC c.a c.b c=true:=z8t.2 ⟨rfl,rfl⟩
   have e2:x7u (c::l) c.a c.b=l:=by
    unfold x7u
    rw[l57,hi,hl];rfl
   have e1:z6c (((c.a,c.b),Value.int .i64 c.n)::crM l) (c.a,c.b)=crM l:=by
    unfold z6c;simp[l60]
   rw[e2,z6b,e1]
  have D:isC a b c=false:=by cases e:isC a b c;rfl;exact absurd (z8t.1 e) h
  have I:¬((a,b):LId×LId)=(c.a,c.b):=λe=>h ⟨(Prod.mk.inj e).1.symm,(Prod.mk.inj e).2.symm⟩
  have O:x7u (c::l) a b=c::x7u l a b:=by
   unfold x7u
   rw[l57,D];rfl
  rw[O,z6b,ih]
  unfold z6c
  rw[z6b,l32,l60,if_neg (by simpa using I)]
  cases hf:((crM l).map (·.1)).findIdx? (λx=>decide ((a,b)=x)) with
  | none=>rfl
  | some i=>rfl
section
variable {α κ:Type} [DecidableEq κ] {E:Enc α} {T base g:Nat} {w w':World} {v:Value} {ys:List α} {V:κ->Value} {em:List (κ×Value)}
theorem k0b (h:Lw.Own E T base w v ys)(Z:MapL V w g em)(hf:Fr [g] w w'):Lw.Own E T base w' v ys:=h.fr hf λk D O=>by
 rw[l11]at D;subst D
 obtain⟨cs,I⟩:=z9z h _ O
 exact Z.f.ne_blk I U
theorem j9s {k:Nat}{cs:List Value}(h:Blk w k T cs)(I:MapL V w g em)(hf:Fr [g] w w'):Blk w' k T cs:=h.fr hf λD=>by
 rw[l11]at D;subst D
 exact I.f.ne_blk h U
end
theorem FrM.un {τ:TyK}{Mt:Nat}{wS w w':World}{a:MA}(h:FrM τ Mt wS { a with wk:=w } w')(D:FrM τ Mt wS a w):FrM τ Mt wS a w':=⟨h.fr,D.kp.trans h.kp⟩
theorem MkM.gcne {τ:TyK}{Mt:Nat}{wS w:World}{a:MA}{m:MQ}(h:MkM τ Mt wS a w m){k T:Nat}{cs:List Value}(hb:Blk w k T cs):k≠a.gc:=λe=>by
 subst e;exact h.c.f.ne_blk hb U
theorem KpM.own {α:Type}{E:Enc α}{D:List Nat}{g T base:Nat}{w w':World}{v:Value}{ys:List α}(h:KpM D g w w')(ho:Lw.Own E T base w v ys)(hg:∀k∈z0u v,k≠g)(hT:T∉D):Lw.Own E T base w' v ys:=by
 rcases ho with ho|⟨k,cap,cur,rfl,I,O,Z⟩
 exact .inl ho;have hb:Blk w k T cur.toList:=O;exact .inr ⟨k,cap,cur,rfl,I,h.blk hb (hg k t10) hT,Z⟩
theorem MkM.gcneO {τ:TyK}{Mt:Nat}{wS w:World}{a:MA}{m:MQ}{α:Type}{E:Enc α}{T base:Nat}{v:Value}{ys:List α}(h:MkM τ Mt wS a w m)(ho:Lw.Own E T base w v ys):∀k∈z0u v,k≠a.gc:=λk I=>by
 obtain⟨cs,D⟩:=z9z ho k I
 exact h.gcne D
theorem y9b {p:MSt}{d:Int}:∀ {l l':List Yn},l'.length=l.length->(∀j,j<l.length->z7i p d (l.getD j yn0)=.ok (l'.getD j yn0))->z4c p d l=.ok l'
 | [],[],_,_=>rfl
 | [],_::_,h,_=>by simp at h
 | _::_,[],h,_=>by simp at h
 | y::l,y'::l',hl,h=>by
  have D:=h 0 sp0
  simp only[l84]at D
  have I:=y9b (p:=p) (d:=d) (l:=l) (l':=l') (by simpa using hl) λj O=>by
   have:=h (j+1) so
   simpa only[l62] using this
  unfold z4c
  rw[D,I]
theorem z8h {p:MSt}{d e:Int}:∀ {l:List Yn} {i:Nat},i<l.length->(∀j,j<i->∃I,z7i p d (l.getD j yn0)=.ok I)->z7i p d (l.getD i yn0)=.error e->z4c p d l=.error e
 | y::l,0,_,_,h=>by
  simp only[l84]at h
  unfold z4c;rw[h]
 | y::l,i+1,hi,hj,h=>by
  obtain⟨I,D⟩:=hj 0 oo
  simp only[l84]at D
  have O:=z8h (p:=p) (d:=d) (e:=e) (l:=l) (i:=i) (by simpa using hi) (λj hl=>by
   have:=hj (j+1) oo
   simpa only[l62] using this) (by simpa only[l62] using h)
  unfold z4c
  rw[D,O]
theorem y3x {c:Cx}:∀ {r l l':List Cx},z4e l r=.ok l'->z4e l (r++[c])=y3z l' c
 | [],l,l',h=>by
  cases h
  show z4e l [c]=y3z l c
  unfold z4e
  cases y3z l c<;>rfl
 | x::r,l,l',h=>by
  rw[l72]
  unfold z4e at h ⊢
  cases e:y3z l x with
  | error e'=>rw[e]at h;cases h
  | ok l1=>rw[e]at h;simp only at h ⊢;exact y3x h
theorem y0b {e:Int}:∀ {r l:List Cx} (s:List Cx),z4e l r=.error e->z4e l (r++s)=.error e
 | [],l,s,h=>by cases h
 | x::r,l,s,h=>by
  rw[l72]
  unfold z4e at h ⊢
  cases e1:y3z l x with
  | error e'=>rw[e1]at h;exact h
  | ok l1=>rw[e1]at h;simp only at h ⊢;exact y0b s h
theorem k1j {B:Bd}{r d:Int}:∀c∈z2o B r d,-1<=c.n/\c.n<=1:=by
 have I:∀i,∀c∈x5r B r d i,-1<=c.n/\c.n<=1:=λi c D=>by
  obtain⟨k,_,O⟩:=l68.1 D;obtain⟨x,_,Z⟩:=l68.1 O;obtain⟨o,_,rfl⟩:=l54.1 Z;unfold x6a;split<;>(simp only;omega)
 intro c D;unfold z2o at D;split at D;exact I _ c<|l121.1 D;exact I _ c D
theorem j7w {pl:Int}(h:x5h pl):¬Int.tmod pl 2=0/\-9223372036854775808<=pl/\pl<=9223372036854775807:=by
 unfold x5h at h;omega
def y4m (p:MSt)(d:Int):MR:=match z4c p d p.ys with
  | .error e=>.error e
  | .ok ys=>match z4e p.cr (z2o p.B p.rk d) with
    | .error e=>.error e
    | .ok cr=>.ok { p with ys:=ys,cr:=cr }
def j0b (p:MSt)(c:Cx):MR:=match y3z p.cr c with
  | .error e=>.error e
  | .ok l=>.ok { p with cr:=l }
abbrev z5d (c:Cx):LId×LId:=if 0<z6m c.a c.b then (c.b,c.a) else (c.a,c.b)
section
variable {τ:TyK} {Mt:Nat} {wS w w':World} {a:MA} {m:MQ} {l:List Cx}
theorem MkM.cross (h:MkM τ Mt wS a w m)(hc:MapL crK w' a.gc (crM l))(hf:Fr [a.gc] w w'):MkM τ Mt wS a w' { m with cr:=l }:=by
 have o:∀ {α:Type} {E:Enc α} {T b:Nat} {v:Value} {ys:List α},Lw.Own E T b w v ys->Lw.Own E T b w' v ys:=λZ=>k0b Z h.c hf;refine⟨j9s h.k h.c hf,⟨⟨o h.b.f.1,λp I=>o<|h.b.f.2 p I⟩,⟨o h.b.b.1,λp I=>o<|h.b.b.2 p I⟩⟩,⟨o h.y.out,λi hi=>o<|h.y.ins i hi⟩,⟨o h.t.out,λi hi=>o<|h.t.ins i hi,h.t.off,λi hi q O=>⟨o (h.t.lps i hi q O).1,o (h.t.lps i hi q O).2⟩⟩,hc,o h.f,h.fb,h.ft,h.ly,h.lt,h.gk,h.gc,h.fr.step hf (λk D=>.inl<|l11.1 D) λk D a0=>?_⟩;rw[l11]at D;have:=h.gc;omega
end
theorem u4m {a b:LId}{l:List Cx}(h:∀c∈l,-1048576<=c.n/\c.n<=1048576):-1048576<=z6w l a b/\z6w l a b<=1048576:=by
 unfold z6w;cases e:l.find? (isC a b) with
 | none=>simp
 | some c=>exact h c<|List.mem_of_find?_eq_some e
theorem y7k (l:List Cx)(c:Cx):y3z l c=if z6w l (z5d c).1 (z5d c).2+c.n < -1048576\/1048576<z6w l (z5d c).1 (z5d c).2+c.n then .error 3 else if z6w l (z5d c).1 (z5d c).2+c.n=0 then .ok (x7u l (z5d c).1 (z5d c).2) else .ok (y4p l (z5d c).1 (z5d c).2<|z6w l (z5d c).1 (z5d c).2+c.n):=rfl
theorem x8j (p:MSt)(c:Cx):j0b p c=if z6w p.cr (z5d c).1 (z5d c).2+c.n < -1048576\/1048576<z6w p.cr (z5d c).1 (z5d c).2+c.n then .error 3 else if z6w p.cr (z5d c).1 (z5d c).2+c.n=0 then .ok { p with cr:=x7u p.cr (z5d c).1 (z5d c).2 } else .ok { p with cr:=y4p p.cr (z5d c).1 (z5d c).2 (z6w p.cr (z5d c).1 (z5d c).2+c.n) }:=by
 unfold j0b;rw[y7k];generalize z6w p.cr (z5d c).1 (z5d c).2+c.n=n;by_cases h1:n < -1048576\/1048576<n;rw[if_pos h1,if_pos h1];rw[if_neg h1,if_neg h1];by_cases h2:n=0;rw[if_pos h2,if_pos h2];rw[if_neg h2,if_neg h2]
end Go.G08
namespace Go.Proofs.YtlfdhllfmoplgaaGreatDoor
open Go.Lw Go.G21 Go.G08 _root_.Go.Proofs.Tryz
theorem j3k (wS:World)(ka:MA)(m:MQ)(o:MOp)(w0:World)(hM:MkM τd 145 wS ka w0 m)(hi:MInv m.p)(hy:1<=o.y/\o.y<=6)(hn:z4d o.b o.p=0):Rets prog 69 #[pta ka.gk,opV o] w0 λr w'=>MRet τd 145 wS ka (y1i m.p o) r w':=by
 have d0:=hM.fr.size;have b3:=hM.gk;have b5:=hM.k.lt;refine we [(0,pta ka.gk),(1,opV o)] func69 U ntmps69 U (.c2 U U) ?_;have Z:=hM;refine sr<|bx U<|λg3 w1 b9 D q1 z1=>(asg U<|nn<|sr<|mv U U<|z0k U D y2a ?_);have hM:=Z.ext q1;refine cl (ev2 U) (mkC func130) (x6r wS ka m o _ hM hi hy hn) U ?_;rintro _ w2 ⟨rfl,q2⟩;have z2:=q2.size;refine mv U U<|xt U<|xt U<|xt U<|asg U<|asg U<|asg U<|kpL (ll5 0 3 5 6 7) (csu U)<|nn<|sq<|sr<|mv U U<|ne' U<|nn<|cd U (λc0=>?_)<|λc0=>?_;refine sr<|mv U U<|asg U<|kpL (ll1 4) (csu U)<|nn<|rt<|tr<|r1 results69 U ?_;have hM:=Z.ext<|q1.n1 q2;exact⟨_,rfl,MRet.err (by unfold y1i;rw[if_pos c0]) c0 hM.fr⟩;have O:z5o m.p o=0:=l16.1 c0;refine sk<|tn<|sq<|sr<|mv U U<|fad U z4j ?_;have D:=D.ext q2;refine z0j U D U na5<|mv U U<|mv U U ?_;have hM:=Z.ext<|q1.n1 q2;have a5:=hM.fr;refine cl (z0a U<|z0a U<|z0a U<|z0a U z0f) (mkC func131) (x7y wS { ka with wk:=w2 } m o.y (if z5o m.p o=0 then z6n m.p o else 0) (if z5o m.p o=0 then (z2f o.b o.p m.rk) else 0) _ hM.mark hi hy) U ?_;intro _ w3 hR;obtain⟨rfl,a3,m1,b1⟩:=hR.split;have z3:=a3.kp.size;simp only at z3;have D:=a3.kp.blk D (by have:=hM.gcne D;exact this) dd;refine asg U<|kpL (ll3 0 3 8) (csu U)<|nn<|sr<|mv U U<|ne' U<|nn<|cd U (λc1=>?_)<|λc1=>?_;exact sr<|mv U U<|asg U<|nn<|rt<|tr<|r1 results69 U ⟨_,rfl,MRet.err (by have hx:=y0m c1;unfold y1i;rw[if_neg c0];rw[if_pos O,if_pos O]at hx;rw[hx,if_pos O,if_pos O]) c1<|a3.un a5⟩;obtain⟨b0,a4⟩:=b1<|l16.1 c1;rw[if_pos O,if_pos O]at a4;obtain⟨a6,b8,c9⟩:=y1x hi hy a4;obtain⟨⟨hf,hb⟩,h4,a9⟩:=z3b a6.B;have hM:=b0.unmark a5;have Z:=hM;have hk:=hM.k;have b4:=hk.lt;refine sk<|tn<|sq ?_;intro a h;refine z0h (some 9) (λwb w'=>Fr [] wb w') z2r ?_;intro w4 q4;have z4:=q4.size;have D:=D.ext q4;have hM:=hM.ext q4;have hk:=hk.ext q4;have hC:Fr [] w4 w4:=l12 _ _;have I:=D;have a1:=hM;have a2:=hk;refine z0e 0 h U λa h=>z0x 1 h U (λ_ hw=>I.ext hw) y2a U λa h=>z0e 2 h U λa h=>z0o 3 h U λa h=>z0c 4 h U z3p U λa h=>z1h (vs:=[_,_]) 5 h U (λ_ hw=>(a2.ext hw)) z5a U U λa h=>z0c 6 h U z5k U λa h=>z1h (vs:=[_,_]) 7 h U (λ_ hw=>(I.ext hw)) z5n U U λa h=>z0d 8 U<|z0n h (z0a U<|z0a U z0f) v6v (y6u m1.q o.b o.p _ hM.b.at (by have:=z2t hn;omega) hf hb h4 a9) ?_;rintro d1 w5 ⟨a0,hq⟩ a h;have z5:=hq.size;have D:=D.ext hq;have hM:=hM.ext hq;have hk:=hk.ext hq;have hC:=hC.next hq;have q5:=hq;rw[y1g hn]at a0;obtain⟨a7,a8,rfl,b2⟩:=a0.sl.form;refine z0b<|z0d 9 U<|z0n h (z0a U<|z0a U<|z0a U<|z0a U z0f) (mkC func132) (v5a wS ka m1 o (a7,(m1.q.p.at o.b o.p).length,a8) (m1.q.p.at o.b o.p) (.slice none 0 0) [] _ hM a6 hy hn (a0.low oo) (λk hk hb=>by have b6:=(a0.blk k hk).1;have b7:=(a1.f.blk k hb).2;omega) (Sl.nil _)<|.inl U) ?_;rintro d3 w6 hR a h;refine z1m<|z0d 10 U<|z0q h U λa h=>?_;refine z1m<|z0p ?_;clear hC I a1 a2;exact bk (h.sub (L':=ll1 4)<|csu U)<|tn<|rt<|r1 results69 U ⟨_,rfl,by rw[show y1i m.p o=_ from by unfold y1i;rw[if_neg c0,a4]];exact hR⟩
theorem j2l (wS:World)(ka:MA)(m:MQ)(o:MOp)(w0:World)(hM:MkM τd 145 wS ka w0 m)(hi:MInv m.p)(hy:1<=o.y/\o.y<=6)(hn:z4d o.b o.p=0):Rets prog 70 #[pta ka.gk,opV o] w0 λr w'=>MRet τd 145 wS ka (y0x m.p o) r w':=by
 have b9:=hM.fr.size;have b1:=hM.gk;have b3:=hM.k.lt;refine we [(0,pta ka.gk),(1,opV o)] func70 U ntmps70 U (.c2 U U) ?_;have Z:=hM;refine sr<|bx U<|λg3 w1 b7 D q1 z1=>(asg U<|nn<|sr<|mv U U<|z0k U D y2a ?_);have hM:=Z.ext q1;refine cl (ev2 U) (mkC func130) (x6r wS ka m o _ hM hi hy hn) U ?_;rintro _ w2 ⟨rfl,q2⟩;refine mv U U<|xt U<|xt U<|xt U<|asg U<|asg U<|asg U<|kpL (ll5 0 3 5 6 7) (csu U)<|nn<|sq<|sr<|mv U U<|ne' U<|nn<|cd U (λc0=>?_)<|λc0=>?_;refine sr<|mv U U<|asg U<|kpL (ll1 4) (csu U)<|nn<|rt<|tr<|r1 results70 U ?_;have hM:=Z.ext<|q1.n1 q2;exact⟨_,rfl,MRet.err (by unfold y0x;rw[if_pos c0]) c0 hM.fr⟩;have I:z5o m.p o=0:=l16.1 c0;refine sk<|tn<|sq<|sr<|mv U U<|fad U z4j ?_;have D:=D.ext q2;refine z0j U D U na5<|mv U U<|mv U U ?_;have hM:=Z.ext<|q1.n1 q2;have a5:=hM.fr;refine cl (z0a U<|z0a U<|z0a U<|z0a U z0f) (mkC func131) (x7y wS { ka with wk:=w2 } m o.y (if z5o m.p o=0 then z6n m.p o else 0) (if z5o m.p o=0 then (z2f o.b o.p m.rk) else 0) _ hM.mark hi hy) U ?_;intro _ w3 hR;obtain⟨rfl,a2,m1,a9⟩:=hR.split;have z3:=a2.kp.size;simp only at z3;have D:=a2.kp.blk D (by have:=hM.gcne D;exact this) dd;refine asg U<|kpL (ll3 0 3 8) (csu U)<|nn<|sr<|mv U U<|ne' U<|nn<|cd U (λc1=>?_)<|λc1=>?_;exact sr<|mv U U<|asg U<|nn<|rt<|tr<|r1 results70 U ⟨_,rfl,MRet.err (by have hx:=y0m c1;unfold y0x;rw[if_neg c0];rw[if_pos I,if_pos I]at hx;rw[hx,if_pos I,if_pos I]) c1<|a2.un a5⟩;obtain⟨a8,a0⟩:=a9<|l16.1 c1;rw[if_pos I,if_pos I]at a0;obtain⟨a6,b6,b8⟩:=y1x hi hy a0;obtain⟨⟨hf,hb⟩,h4,a7⟩:=z3b a6.B;have hM:=a8.unmark a5;have Z:=hM;have hk:=hM.k;have b2:=hk.lt;refine sk<|tn<|sq ?_;intro a h;refine z0h none (λwb w'=>Fr [] wb w') z2r ?_;intro w4 q4;have D:=D.ext q4;have hM:=hM.ext q4;have hk:=hk.ext q4;have hC:Fr [] w4 w4:=l12 _ _;have O:=D;have a4:=hM;have a1:=hk;refine z0e 0 h U λa h=>z0o 1 h U λa h=>z0c 2 h U z3p U λa h=>z1h (vs:=[_,_]) 3 h U (λ_ hw=>(a1.ext hw)) z5a U U λa h=>z0c 4 h U z5k U λa h=>z1h (vs:=[_,_]) 5 h U (λ_ hw=>(O.ext hw)) z5n U U λa h=>z0d 6 U<|z0n h (z0a U<|z0a U z0f) v6v (y6u m1.q o.b o.p _ hM.b.at (by have:=z2t hn;omega) hf hb h4 a7) ?_;rintro c9 w5 ⟨a3,hq⟩ a h;have D:=D.ext hq;have hM:=hM.ext hq;have hk:=hk.ext hq;have hC:=hC.next hq;have q5:=hq;rw[y1g hn]at a3;obtain⟨b4,b5,rfl,b0⟩:=a3.sl.form;refine z0b<|z0d 7 U<|z0q h U λa h=>?_;refine z0b<|z0p ?_;clear hC O a4 a1;refine bk (h.sub (L':=ll3 0 3 9)<|csu U)<|tn<|sq<|sr<|mv U U<|lnS U underlying30<|ge' U<|nn<|cd U (λc2=>?_)<|λc2=>?_;exact sr<|asg U<|nn<|rt<|tr<|r1 results70 U ⟨_,rfl,MRet.err (by unfold y0x;rw[if_neg c0,a0];simp only;rw[if_pos (show 4<=(m1.q.p.at o.b o.p).length by omega)]) dd hM.fr⟩;refine sk<|tn<|sr<|mv U U<|z0k U D y2a<|mv U U<|cl (z0a U<|z0a U<|z0a U<|z0a U z0f) (mkC func132) (v5a wS ka m1 o sv0 [] _ (m1.q.p.at o.b o.p) _ hM a6 hy hn (Own.nil _) (λk hk=>by cases hk) a3.sl<|.inr ⟨rfl,oo⟩) U ?_;rintro d0 w6 hR;exact asg U<|kpL (ll1 4) (csu U)<|nn<|rt<|r1 results70 U ⟨_,rfl,by rw[show y0x m.p o=y1z m1.p o [] (m1.q.p.at o.b o.p) from by unfold y0x;rw[if_neg c0,a0];simp only;rw[if_neg (show ¬4<=(m1.q.p.at o.b o.p).length by omega)]];exact hR⟩
theorem j3u:z3y prog 148 4:=⟨λ_=>kr,λ_=>kr⟩
theorem j2n:BuildAt prog 148 [(0,2),(2,2)] [(.int .u8 0),(.int .i64 0),(.int .u8 0),(.int .i64 0)]:=BuildAt.array (sz:=2) underlying148 (λ_=>kr) (λ_=>kr) (λi q h=>by match i,h with|0,h=>simpa using h.symm|1,h=>simpa using h.symm|(k+2),h=>simp at h)
theorem j8o:CallOf prog 76:=mkC func76
theorem x0d:z1d prog 101 0 0:=λ_ _=>kr
theorem x6c:z1d prog 101 1 2:=λ_ _=>kr
theorem x8e:z1d prog 101 2 4:=λ_ _=>kr
theorem y3f:z1d prog 145 4 5:=λ_ _=>kr
theorem v3k:z2d prog 142:=λ_=>kr
theorem j1y:z1r prog 148 4:=λ_=>kr
theorem k0f (w:World):(zeroValue 148).run prog w=.ok (.agg #[(.int .u8 0),(.int .i64 0),(.int .u8 0),(.int .i64 0)]) w:=kr
theorem k4z (p q:LId×LId)(w:World):(Op.equal 148 (crK p)<|crK q).run prog w=.ok (decide (p=q)) w:=by
 obtain⟨⟨Z,n1⟩,⟨y2,n2⟩⟩:=p;obtain⟨⟨y3,n3⟩,⟨y4,n4⟩⟩:=q;have D:prog.stoodInHeld 64=false:=by kernel_rfl
 have I:(sizeOf 64).run prog w=.ok 2 w:=by kernel_rfl
 unfold crK Op.equal Op.maxDepth Op.equalIn;simp only[Sem.run_bind,run_underlying underlying148,Result.andThen_ok,I];have O:∀a b c d:Value,(part 64 #[a,b,c,d] (0*2)).run prog w=.ok (.agg #[a,b]) w:=λa b c d=>by kernel_rfl
 have p2:∀a b c d:Value,(part 64 #[a,b,c,d] (1*2)).run prog w=.ok (.agg #[c,d]) w:=λa b c d=>by kernel_rfl
 rw[Std.Legacy.Range.forIn_eq_forIn_range'];simp[List.range',List.forIn_cons,O,p2,go_sem,D,underlying64];(repeat' split)<;>simp_all
theorem v0f:KeyLaw prog 148 crK:=KeyLaw.asking underlying148 (λ_ _=>rfl) (λ_ _ _=>kr) k4z (λ_=>by simp[crK,Instr.sameBits])
theorem zvI2 (w:World):(zeroValue 3).run prog w=.ok (.int .i64 0) w:=kr
theorem j5w (wS:World)(ka:MA)(m:MQ)(c:Cx)(w0:World)(hM:MkM τd 145 wS ka w0 m)(a7:∀x∈m.cr,-1048576<=x.n/\x.n<=1048576)(a8:-1<=c.n/\c.n<=1):Rets prog 165 #[pta ka.gk,cvv c] w0 λr w'=>MRet τd 145 wS ka (j0b m.p c) r w':=by
 have b3:=hM.fr.size;have hk:=hM.k;have b2:=hk.lt;have b1:=u4m (a:=(z5d c).1) (b:=(z5d c).2) a7;refine we [(0,pta ka.gk),(1,cvv c)] func165 U ntmps165 U (.c2 U U) ?_;have a6:=hM;refine sr<|bx U<|λg3 w1 a9 O q1 z1=>?_;refine asg U<|nn<|sr<|fad U x0d<|z1v (vs:=[_,_]) U O z2z U<|fad U x6c<|z1v (vs:=[_,_]) U O z2z U<|z1u (cs:=[_,_,_,_]) (ev2 U) j2n (z0g U<|z0g U z0r) U ?_;refine al k0f U<|λg5 w2 b0 D q2 z2=>(z0i (vs:=[_,_,_,_]) U D j1y<|λw3 D q3 z3=>(nn<|jn (ι:=Unit) (ll3 0 3 5) (λ_j=>[]) (λ_j w'=>Fr [g5] w3 w'/\Blk w' g5 148 [.int .u8 (z5d c).1.y,.int .i64 (z5d c).1.n,.int .u8 (z5d c).2.y,.int .i64 (z5d c).2.n]) (csu U) ?_ ?_));refine sr<|fad U x0d ?_;have O:=(O.ext q2).fr q3;refine z1v (vs:=[_,_]) U O z2z U<|fad U x6c<|z1v (vs:=[_,_]) U O z2z U<|cl (ev2 U) j8o (y2k ⟨_,_⟩ ⟨_,_⟩ _) U ?_;rintro _ w4 ⟨rfl,q4⟩;refine gt' U<|nn<|cd U (λc0=>?_)<|λc0=>?_;refine rg<|fad U x6c ?_;have O:=O.ext q4;refine z1v (vs:=[_,_]) U O z2z U<|fad U x0d<|z1v (vs:=[_,_]) U O z2z U<|z1u (cs:=[_,_,_,_]) (ev2 U) j2n (z0g U<|z0g U z0r) U ?_;have D:=D.ext q4;exact z0i (vs:=[_,_,_,_]) U D j1y<|λw5 D q5 z5=>(kpL (ll3 0 3 5) (csu U)<|nl<|jE (()) (csu U) ⟨((l12 [g5] _).z2 q4 q5),(by rw[show z5d c=(c.b,c.a) from if_pos c0];exact D)⟩);refine sk ?_;have D:=D.ext q4;exact jE (()) (csu U) ⟨((l12 [g5] _).n1 q4),(by rw[show z5d c=(c.a,c.b) from if_neg c0];exact D)⟩;rintro _j w6 ⟨q6,D⟩;have a5:=D.lt;refine kpC (ll3 0 3 5) (csu U)<|sq ?_;have hM:=a6.ext<|q1.z3 q2 q3 q6;have hk:=((hk.ext<|q1.n1 q2).fr q3).fr q6;have O:=((O.ext q2).fr q3).fr q6;intro a h;refine z0h none (λwb w'=>Fr [] wb w') z2r ?_;intro w7 q7;have hM:=hM.ext q7;have hk:=hk.ext q7;have O:=O.ext q7;have D:=D.ext q7;have hC:Fr [] w7 w7:=l12 _ _;have a0:=hM;have Z:=hk;have a1:=O;have I:=D;refine z0e 0 h U λa h=>z0o 1 h U λa h=>z0c 2 h U y3f U λa h=>z0m 3 h U (λ_ hw=>Z.ext hw) U v3k U λa h=>z0x 4 h U (λ_ hw=>I.ext hw) j3u U λa h=>z0c 6 h U x8e U λa h=>z0m 7 h U (λ_ hw=>a1.ext hw) U na3 U λa h=>z0d 5 U<|y2u (V:=crK) (k:=z5d c) (f:=z2s<|crM m.cr) h U U hM.c.f v0f underlying142 zvI2 (u0a (z5d c).1 (z5d c).2 m.cr) U λa h=>?_;refine z0b<|z6h 8 h U t13 U λa h=>z0d 9 U<|z0q h U λa h=>?_;refine z0b<|z0p ?_;clear hC a0 Z a1 I;refine bk (h.sub (L':=ll3 0 5 6)<|csu U)<|tn<|sq<|sq<|rbo (r:=37) (L':=ll3 0 5 6) (((((z6w m.cr (z5d c).1 (z5d c).2)+c.n) < -1048576)\/(1048576<((z6w m.cr (z5d c).1 (z5d c).2)+c.n)))) (csu U) ?_ ?_;refine mv U U<|lt' U<|mv U U<|gs 34 U (λg0=>?_)<|λg0=>?_;exact gN U<|gN U<|pkt U<|rbe U<|csu U;exact gY U<|mv U U<|gY U<|gt' U<|pkf U<|rbe U<|csu U;refine tn<|cd U (λc1=>?_)<|λc1=>?_;exact sr<|asg U<|nn<|rt<|tr<|r1 results165 U ⟨_,rfl,MRet.err (by rw[x8j,if_pos c1]) dd hM.fr⟩;refine sk<|tn<|sq<|sr<|mv U U<|eq' U<|nn<|cd U (λc2=>?_)<|λc2=>?_;intro a h;refine z0h (some 5) (λwb w'=>Fr [] wb w') z2r ?_;intro w8 q8;have hM:=hM.ext q8;have hk:=hk.ext q8;have D:=D.ext q8;have hC:Fr [] w8 w8:=l12 _ _;have a0:=hM;have Z:=hk;have I:=D;refine z0e 0 h U λa h=>z0o 1 h U λa h=>z0c 2 h U y3f U λa h=>z0m 3 h U (λ_ hw=>Z.ext hw) U v3k U λa h=>z0x 4 h U (λ_ hw=>I.ext hw) j3u U λa h=>z0d 5 U<|j2w (V:=crK) (k:=z5d c) h U U hM.c v0f underlying142 U λw9 a2 hq _hz a h=>?_;have hM:=hM.cross (l:=x7u m.cr (z5d c).1 (z5d c).2) (by rw[v9l _ _ _ hM.c.nodup];exact a2) hq;refine z1m<|z0p ?_;clear hC a0 Z I;exact bk (h.sub (L':=[]) .nil)<|tn<|sr<|asg U<|nn<|rt<|r1 results165 U ⟨_,rfl,MRet.ok (by rw[x8j,if_neg c1,if_pos c2]) hM⟩;intro a h;refine z0h (some 6) (λwb w'=>Fr [] wb w') z2r ?_;intro a4 a3;have hM:=hM.ext a3;have hk:=hk.ext a3;have D:=D.ext a3;have hC:Fr [] a4 a4:=l12 _ _;have a0:=hM;have Z:=hk;have I:=D;refine z0e 0 h U λa h=>z0o 1 h U λa h=>z0c 2 h U y3f U λa h=>z0m 3 h U (λ_ hw=>Z.ext hw) U v3k U λa h=>z0x 4 h U (λ_ hw=>I.ext hw) j3u U λa h=>z0e 5 h U λa h=>z0d 6 U<|y7y (V:=crK) (k:=z5d c) (v:=.int .i64<|(z6w m.cr (z5d c).1 (z5d c).2)+c.n) h U U U hM.c v0f underlying142 λb4 a2 hq _hz a h=>?_;have hM:=hM.cross (l:=y4p m.cr (z5d c).1 (z5d c).2<|z6w m.cr (z5d c).1 (z5d c).2+c.n) (by rw[v8r _ _ _ _ hM.c.nodup];exact a2) hq;refine z1m<|z0p ?_;clear hC a0 Z I;exact bk (h.sub (L':=[]) .nil)<|tn<|sr<|asg U<|nn<|rt<|r1 results165 U ⟨_,rfl,MRet.ok (by rw[x8j,if_neg c1,if_neg c2]) hM⟩
theorem u3x (m:MQ)(j:Nat):m.p.ys.getD j yn0=(m.ys.getD j yq0).p:=by
 show (m.ys.map YQ.p).getD j yn0=_;rw[List.getD,List.getD,l24];cases m.ys[j]?<;>rfl
theorem y2e {l:List Cx}{i:Nat}(h:i<l.length):l.take (i+1)=l.take i++[l.getD i cx0]:=by
 rw[l53,List.getD,l10 h];rfl
theorem v3a {l r I:List Cx}{i:Nat}{e:Int}(h:z4e l (r.take i)=.ok I)(hi:i<r.length)(Z:y3z I (r.getD i cx0)=.error e):z4e l r=.error e:=by
 have D:=y3x (c:=r.getD i cx0) h;rw[<-y2e hi,Z]at D;have O:=y0b (r.drop<|i+1) D;rwa [l26]at O
theorem u4u {p:MSt}{c:Cx}{e:Int}(h:j0b p c=.error e):y3z p.cr c=.error e:=by
 unfold j0b at h;split at h;rename_i D;cases h;exact D;cases h
theorem j4h {p q:MSt}{c:Cx}(h:j0b p c=.ok q):∃l,y3z p.cr c=.ok l/\q={ p with cr:=l }:=by
 unfold j0b at h;split at h;cases h;rename_i l D;cases h;exact⟨l,D,rfl⟩
theorem u1v {m:MQ}{d:Int}{D:List YQ}(Z:D.length=6)(I:m.ys.length=6)(a0:∀j,j<6->z7i m.p d (m.ys.getD j yq0).p=.ok (D.getD j yq0).p):z4c m.p d m.p.ys=.ok (D.map YQ.p):=by
 refine y9b (by simp[Z,I]) λj hj=>?_;have O:j<6:=by simpa[I] using hj
 rw[u3x,a0 j O];congr 1;rw[List.getD,List.getD,l24];cases D[j]?<;>rfl
theorem u3k {m:MQ}{d:Int}{D:List YQ}{O:YQ}{i:Nat}(Z:D.length=6)(hi:i<6)(I:∀j,j<i->z7i m.p d (m.ys.getD j yq0).p=.ok (D.getD j yq0).p)(h:z7i m.p d (m.ys.getD i yq0).p=.ok O.p):∀j,j<i+1->z7i m.p d (m.ys.getD j yq0).p=.ok ((D.set i O).getD j yq0).p:=λj hj=>by
 rw[z1k oo]
 by_cases e:i=j
 ·subst e;rw[if_pos U];exact h
 rw[if_neg e];exact I j oo
theorem v9y {m:MQ}{d:Int}{D:List YQ}{i:Nat}(I:∀j,i<=j->D.getD j yq0=m.ys.getD j yq0)(O:∀j,j<i->z7i m.p d (m.ys.getD j yq0).p=.ok (D.getD j yq0).p)(h:(m.ys.getD i yq0).inn=false):∀j,j<i+1->z7i m.p d (m.ys.getD j yq0).p=.ok (D.getD j yq0).p:=λj Z=>by
 by_cases e:j=i
 ·subst e;rw[I j (l20 _)];unfold z7i;rw[if_pos h]
 exact O j oo
theorem u6x {m:MQ}{D:List YQ}{Z:YQ}{i:Nat}(O:D.length=6)(hi:i<6)(I:∀j,i<=j->D.getD j yq0=m.ys.getD j yq0):∀j,i+1<=j->(D.set i Z).getD j yq0=m.ys.getD j yq0:=λj hj=>by
 rw[z1k oo,if_neg oo];exact I j oo
theorem j2r (wS:World)(ka:MA)(m:MQ)(d:Int)(w0:World)(hM:MkM τd 145 wS ka w0 m)(hi:MInv m.p)(b2:StT wS)(hd:d=0\/d=1)(d0:-4<=m.rk+stI d/\m.rk+stI d<=4):Rets prog 129 #[pta ka.gk,.int .u8 d] w0 λr w'=>MRet τd 145 wS ka (y4m m.p d) r w':=by
 have g4:=hM.fr.size;have f2:=hM.gk;have hk:=hM.k;have g1:=hk.lt;have b8:=hM.ly;have f4:=(hM.y.out.blk ka.gy t10).2;have hI:=hi;have f3:ka.gk≠ka.gy:=λe=>Own.neB hM.y.out hM.k dd (by simp[z0u,e]);have g3:(z2o m.q.p m.rk d).length<=640:=by
  have x:(z2o m.q.p m.rk d).length<=16*m.p.B.b.length:=y5o hI.B m.rk d;have y:=hI.B.lb;omega
 refine we [(0,pta ka.gk),(1,.int .u8 d)] func129 U ntmps129 U (.c2 U U) ?_;have a1:=hM;refine sr<|asg U<|nn<|sq<|sr<|mv U U<|nlc U<|fad U z3r<|z0j U hk U y4s<|lnS U underlying26<|mv U U<|nn<|bl<|lpK (ι:=Nat) (ll4 0 1 17 18) (λi=>[(19,.int .i64 (i:Int))]) (λi w'=>Fr [ka.gy] w0 w'/\i<=6/\(∃Z:List YQ,Z.length=6/\(∀j,j<i->z7i m.p d (m.ys.getD j yq0).p=.ok (Z.getD j yq0).p)/\(∀j,i<=j->Z.getD j yq0=m.ys.getD j yq0)/\MkM τd 145 wS ka w' { m with ys:=Z })) (λi=>6-i) 0 (csu U) ⟨l12 _ _,⟨l17 _,⟨m.ys,b8,λj hj=>oo,λj _=>rfl,hM⟩⟩⟩ ?_;rintro i w1 ⟨q1,⟨hi,⟨Z,a5,a7,a6,hM⟩⟩⟩;have z1:=q1.size;have a1:=hM;refine kpC (ll5 0 1 17 18 19) (csu U) ?_;have hk:=hM.k;refine sr<|lt' U<|nn<|sq<|cd U (λc0=>?_)<|λc0=>?_;have g0:i<6:=by omega
 refine sk<|tn<|sq<|bl<|sr<|mv U U<|z1b (yq0) U (show Sl z3l _ ka.YV Z from hM.y.out.sl) U y5d z1j<|λe8 b4=>?_;refine z1q U (b4 _ (show Sl z3l _ ka.YV Z from hM.y.out.sl)) z3k<|al z6g U<|λg6 w2 f8 D q2 z2=>?_;refine asg U<|z0i (vs:=[_,_,_,_,_]) U D z3m (λw3 D q3 z3=>?_) (h1:=(by first|(simp[Value.oneCell',S];done)|exact z3l.one<|m.ys.getD i yq0));rw[a6 i (l20 _)]at D;refine nn<|sq<|sr<|fad U z8z<|z0j U D U na4<|nt' U<|nn<|cd U (λc1=>?_)<|λc1=>?_;refine ex<|te<|xh<|tn<|rg<|z0v U (wi6 oo)<|mv U U<|nl ?_;have hM:=a1.ext<|q2.z1 q3;exact lpE (i+1) (csu U) ⟨((l12 [ka.gy] _).z3 q1 q2 q3),⟨oo,⟨Z,a5,v9y a6 a7 (by simpa using c1),λj hj=>a6 j oo,hM⟩⟩⟩ oo;have d1:=(hI.yn i oo).1;rw[u3x]at d1;have c9:=j7w (by have:=d1.2;rw[if_pos (by simpa using c1)]at this;exact this.1);have f5:(z7h m.q.p m.rk d (m.ys.getD i yq0).pl).length<=50000:=by
  have x:(z7h m.q.p m.rk d (m.ys.getD i yq0).pl).length<=4*m.p.B.b.length:=x4y hI.B m.rk d _;have y:=hI.B.lb;omega
 refine sk<|tn<|sq ?_;have hM:=a1.ext<|q2.z1 q3;have hk:=(hk.ext q2).fr q3;intro a h;refine z0h none (λwb w'=>Fr [] wb w') z2r ?_;intro w4 q4;have z4:=q4.size;have hM:=hM.ext q4;have hk:=hk.ext q4;have D:=D.ext q4;have hC:Fr [] w4 w4:=l12 _ _;have a0:=hM;have I:=hk;have O:=D;refine z0e 0 h U λa h=>z0o 1 h U λa h=>z0c 2 h U z3p U λa h=>z1h (vs:=[_,_]) 3 h U (λ_ hw=>(I.ext hw)) z5a U U λa h=>z0e 4 h U λa h=>z0o 5 h U λa h=>z0c 6 h U z4i U λa h=>z0m 7 h U (λ_ hw=>I.ext hw) U na3 U λa h=>z0e 8 h U λa h=>z0c 9 h U z5v U λa h=>z0m 10 h U (λ_ hw=>O.ext hw) U na3 U λa h=>z0d 11 U<|z0n h (z0a U<|z0a U<|z0a U<|z0a U z0f) (mkC func163) (u6f m.q m.rk d (m.ys.getD i yq0).pl _ hM.b.at hI.B (b2.ext hM.fr.fr) hI.rk hd d0 c9.1 c9.2) ?_;rintro _ w5 ⟨⟨f7,rfl,f1,hW⟩,q5⟩ a h;have z5:=q5.size;have hM:=hM.ext q5;have hk:=hk.ext q5;have D:=D.ext q5;have hC:=hC.next q5;refine z0b<|z0e 12 h U λa h=>z0l 13 h U λa h=>z0l 14 h U λa h=>z0d 15 U<|z0q h U λa h=>?_;refine z0b<|z0d 16 U<|z0q h U λa h=>?_;refine z0b<|z0p ?_;clear hC a0 I O;refine bk (h.sub (L':=ll9 0 1 5 6 7 8 17 18 19)<|csu U)<|tn<|sq<|sr<|mv U U<|ne' U<|nn<|cd U (λc2=>?_)<|λc2=>?_;exact sr<|mv U U<|asg U<|kpL (ll1 4) (csu U)<|nn<|rt<|tr<|rb<|tr<|tr<|rb<|tr<|r1 results129 U<|absurd U c2;refine sk<|tn<|sq ?_;intro a h;refine z0h (some 15) (λwb w'=>Fr [ka.gy] wb w') z2r ?_;intro w6 q6;have z6:=q6.size;have hM:=hM.ext q6;have hk:=hk.ext q6;have D:=D.ext q6;have hW:=hW.ext q6;have hC:Fr [ka.gy] w6 w6:=l12 _ _;have a0:=hM;have I:=hk;have O:=D;have b3:=hW;refine z0e 0 h U λa h=>z0o 1 h U λa h=>z0c 2 h U z3r U λa h=>z0m 3 h U (λ_ hw=>I.fr hw se) U y4s U λa h=>z0e 4 h U λa h=>z0x 5 h U (λ_ hw=>O.fr hw se) z3k U λa h=>z0c 6 h U z5v U λa h=>z0m 7 h U (λ_ hw=>O.fr hw se) U na3 U λa h=>z0e 8 h U λa h=>z0d 9 U ?_;refine z0n h (z0a U<|z0a U<|z0a U z0f) (mkC func164) (x8u (m.ys.getD i yq0) (m.ys.getD i yq0).pl _ (z7h m.q.p m.rk d (m.ys.getD i yq0).pl) _ (by have x:=(hM.y.ins i (by rw[hM.ly];omega)).sl;rw[show ({ m with ys:=Z }:MQ).ys.getD i yq0=m.ys.getD i yq0 from a6 i<|l20 _]at x;exact x) hW.sl (λk hk=>(hW.blk k hk).2) oo) ?_;rintro _ w7 ⟨qn,rfl,b7,q7⟩ a h;have z7:=q7.size;have hM:=hM.ext q7;have hk:=hk.ext q7;have D:=D.ext q7;have hW:=hW.ext q7;have hC:=hC.next q7;refine z0b<|z0e 10 h U λa h=>z0l 11 h U λa h=>z0l 12 h U λa h=>z1l 13 kr kr kr hC (p:=i) h wn U y5d oo oo oo U U λa h=>z0d 14 U<|z1a (i:=i) (qn:YQ) h U hM.y.out (by rw[hM.ly];omega) U z3m λw8 a8 q8 _hz a h=>?_;have b6:=hM.fr.step q8 (y8d hM.y.out t43)<|λk hk b0=>absurd (hM.y.out.blk k hk).1 oo;have d7:=λhc:(goE (m.ys.getD i yq0).p (m.ys.getD i yq0).pl<|z7h m.q.p m.rk d (m.ys.getD i yq0).pl)=0=>hM.yarn mtd (j:=i) (y:=qn) oo a8 q8<|(b7 hc).2.low oo;clear a8 hM;have z8:=q8.size;have D:=D.fr q8;have hW:=hW.fr q8 t26;have hC:=hC.sp q8;clear _hz;refine z0b<|z0d 15 U<|z0q h U λa h=>?_;refine z1m<|z0p ?_;clear hC a0 I O b3;refine bk (h.sub (L':=ll6 0 1 8 17 18 19)<|csu U)<|tn<|sr<|mv U U<|ne' U<|nn<|cd U (λc3=>?_)<|λc3=>?_;exact sr<|mv U U<|asg U<|kpL (ll1 4) (csu U)<|nn<|rt<|rb<|tr<|tr<|rb<|tr<|r1 results129 U ⟨_,rfl,MRet.err (by unfold y4m;rw[z8h (i:=i) (e:=(goE (m.ys.getD i yq0).p (m.ys.getD i yq0).pl<|z7h m.q.p m.rk d (m.ys.getD i yq0).pl)) (by simp only[l18];omega) (λj hj=>⟨_,by rw[u3x];exact a7 j hj⟩) (by rw[u3x];unfold z7i;rw[if_neg (by simpa using c1),if_pos c3])]) c3 b6⟩;have hM:=d7<|l16.1 c3;have a1:=hM;exact sk<|bn'<|tn<|rg<|z0v U (wi6 oo)<|mv U U<|nl<|lpE (i+1) (csu U) ⟨((((l12 [ka.gy] _).z6 q1 q2 q3 q4 q5 q6).n1 q7).z1 q8),⟨oo,⟨Z.set i qn,by rw[l19];exact a5,u3k a5 oo a7 (by unfold z7i;rw[if_neg (by simpa using c1),if_neg (λe=>e<|l16.1 c3),(b7<|l16.1 c3).1]),u6x a5 oo a6,hM⟩⟩⟩ oo;obtain rfl:i=6:=by omega
 have b9:=u1v a5 b8 a7;refine ex<|te<|te<|xh<|tn<|sq ?_;intro a h;refine z0h none (λwb w'=>Fr [] wb w') z2r ?_;intro w9 q9;have z9:=q9.size;have hM:=hM.ext q9;have hk:=hk.ext q9;have hC:Fr [] w9 w9:=l12 _ _;have a0:=hM;have I:=hk;refine z0e 0 h U λa h=>z0o 1 h U λa h=>z0c 2 h U z3p U λa h=>z1h (vs:=[_,_]) 3 h U (λ_ hw=>(I.ext hw)) z5a U U λa h=>z0e 4 h U λa h=>z0o 5 h U λa h=>z0c 6 h U z4i U λa h=>z0m 7 h U (λ_ hw=>I.ext hw) U na3 U λa h=>z0e 8 h U λa h=>z0d 9 U<|z0n h (z0a U<|z0a U<|z0a U z0f) (mkC func36) (v9s m.q m.rk d _ hM.b.at hI.B (b2.ext hM.fr.fr) hI.rk hd d0) ?_;rintro _ g5 ⟨⟨gl,rfl,f9,hX⟩,q10⟩ a h;have h0:=q10.size;have hM:=hM.ext q10;have hk:=hk.ext q10;have hC:=hC.next q10;refine z0b<|z0e 10 h U λa h=>z0l 11 h U λa h=>z0l 12 h U λa h=>z0d 13 U<|z0q h U λa h=>?_;refine z0b<|z0d 14 U<|z0q h U λa h=>?_;refine z0b<|z0p ?_;clear hC a0 I;refine bk (h.sub (L':=ll3 0 9 10)<|csu U)<|tn<|sq<|sr<|mv U U<|ne' U<|nn<|cd U (λc4=>?_)<|λc4=>?_;exact sr<|mv U U<|asg U<|nn<|rt<|tr<|r1 results129 U<|absurd U c4;refine sk<|tn<|sq<|sr<|mv U U<|lnS U underlying97<|mv U U<|nn<|bl<|lpK (ι:=Nat) (ll3 0 79 80) (λi=>[(81,.int .i64 (i:Int))]) (λi w'=>i<=(z2o m.q.p m.rk d).length/\(∃(mi:MQ) (li:List Cx),z4e m.cr ((z2o m.q.p m.rk d).take i)=.ok li/\mi.p={ m.p with ys:=Z.map YQ.p,cr:=li }/\MkM τd 145 wS ka w' mi/\Lw.Own z5s 101 w0.heap.size w' (.slice (saa gl) (z2o m.q.p m.rk d).length (z2o m.q.p m.rk d).length) (z2o m.q.p m.rk d))) (λi=>(z2o m.q.p m.rk d).length-i) 0 (csu U) ⟨l17 _,⟨{ m with ys:=Z },m.cr,rfl,rfl,hM,hX.low oo⟩⟩ ?_;rintro i g7 ⟨hi,⟨mi,li,a3,a4,hM,hX⟩⟩;have a1:=hM;refine kpC (ll4 0 79 80 81) (csu U)<|sr<|lt' U<|nn<|sq<|cd U (λc5=>?_)<|λc5=>?_;have b0:i<(z2o m.q.p m.rk d).length:=by omega
 refine sk<|tn<|sq<|bl<|sr<|z1b (cx0) U hX.sl U v1w z1j<|λe9 b5=>?_;refine z1q U (b5 _ hX.sl) x6e<|al j0x U<|λf6 g8 f0 a2 d3 h2=>?_;refine z0i (vs:=[_,_,_,_,_]) U a2 v3d (λe6 a2 d4 h3=>?_) (h1:=(by first|(simp[Value.oneCell',S];done)|exact z3l.one<|m.ys.getD i yq0));refine nn<|sr<|mv U U<|z0k U a2 x6e ?_;have hM:=a1.ext<|d3.z1 d4;have hX:=(hX.ext d3).fr d4 (by first|exact z9l hX oo|simp[z0u]<;>omega);have b1:=hM.fr;have e0:mi.cr=li:=congrArg MSt.cr a4;refine cl (z0a U<|z0a U z0f) (mkC func165) (j5w wS { ka with wk:=e6 } mi ((z2o m.q.p m.rk d).getD i cx0) _ hM.mark (by rw[e0];exact y9s hI.cv a3)<|k1j _<|z0z oo) U ?_;intro _ g9 hR;obtain⟨rfl,a9,m2,e3⟩:=hR.split;have e7:=a9.kp.size;simp only at e7;have hX:=a9.kp.own hX (hM.gcneO hX) dd;refine asg U<|nn<|sr<|mv U U<|ne' U<|nn<|cd U (λc6=>?_)<|λc6=>?_;refine sr<|mv U U<|asg U<|kpL (ll1 4) (csu U)<|nn<|rt<|rb<|tr<|tr<|rb<|tr<|r1 results129 U ?_;exact⟨_,rfl,MRet.err (by unfold y4m;rw[b9];simp only;rw[v3a a3 b0 (by have x:=u4u<|y0m c6;rw[show mi.p.cr=li from congrArg MSt.cr a4]at x;exact x)]) c6<|a9.un b1⟩;obtain⟨d5,e5⟩:=e3<|l16.1 c6;have d6:=d5.unmark b1;obtain⟨l2,d9,e4⟩:=j4h e5;refine sk<|bn'<|tn<|rg<|z0v U (wi6 oo)<|mv U U<|nl ?_;exact lpE (i+1) (csu U) ⟨oo,⟨m2,l2,by rw[y2e b0,y3x a3,<-(show mi.cr=li from congrArg MSt.cr a4)];exact d9,by rw[e4,a4],d6,hX⟩⟩ oo;obtain rfl:i=(z2o m.q.p m.rk d).length:=by omega
 exact ex<|te<|te<|xh<|tn<|sr<|asg U<|nn<|rt<|r1 results129 U ⟨_,rfl,MRet.ok (by rw[l39]at a3;unfold y4m;rw[b9,a4];simp only;rw[show z4e m.p.cr (z2o m.p.B m.p.rk d)=.ok li from a3]) hM⟩
theorem x1m (p:MSt)(d:Int):z5x p d=match y4m p d with
    | .error e=>.error e
    | .ok q=>.ok { q with rk:=p.rk+stI d }:=by
  unfold z5x y4m
  cases z4c p d p.ys with
  | error e=>rfl
  | ok ys=>
    simp only
    cases z4e p.cr (z2o p.B p.rk d) with
    | error e=>rfl
    | ok cr=>rfl
theorem u5q {p:MSt}{r:Int}(n:Nat)(h:p.rk=r):z4l n p r=.ok p:=by
 cases n with
 | zero=>rfl
 | succ n=>unfold z4l;rw[if_pos h]
theorem u7i {p:MSt}{r e:Int}{n:Nat}(h:p.rk≠r)(hn:1<=n)(D:y4m p (if r<p.rk then 0 else 1)=.error e):z4l n p r=.error e:=by
 obtain⟨k,rfl⟩:∃k,n=k+1:=⟨n-1,oo⟩;unfold z4l;rw[if_neg h,x1m,D]
theorem j2q {p q:MSt}{r:Int}{n:Nat}(h:p.rk≠r)(hn:1<=n)(D:y4m p (if r<p.rk then 0 else 1)=.ok q):z4l n p r=z4l (n-1) { q with rk:=p.rk+stI (if r<p.rk then 0 else 1) } r/\z5x p (if r<p.rk then 0 else 1)=.ok { q with rk:=p.rk+stI (if r<p.rk then 0 else 1) }:=by
 obtain⟨k,rfl⟩:∃k,n=k+1:=⟨n-1,oo⟩
 constructor
 ·conv=>lhs;unfold z4l
  rw[if_neg h,x1m,D];rfl
 rw[x1m,D]
theorem j1f (wS:World)(ka:MA)(m:MQ)(o:MOp)(w0:World)(hM:MkM τd 145 wS ka w0 m)(hi:MInv m.p)(b0:StT wS)(c9:-4<=o.r/\o.r<=4):Rets prog 68 #[pta ka.gk,opV o] w0 λr w'=>MRet τd 145 wS ka (u4j m.p o) r w':=by
 have d1:=hM.fr.size;have b4:=hM.gk;have b9:=hM.k.lt;have d0:-4<=m.rk/\m.rk<=4:=hi.rk;refine we [(0,pta ka.gk),(1,opV o)] func68 U ntmps68 U (.c2 U U) ?_;have a1:=hM;refine sr<|bx U<|λg3 w1 b8 I q1 z1=>(asg U<|nn<|sq<|bl ?_);have hM:=a1.ext q1;refine lpK (ι:=Nat) (ll2 0 3) (λn=>[]) (λn w'=>∃D:MQ,(z4l 8 m.p o.r=z4l n D.p o.r/\MInv D.p/\-(n:Int)<=o.r-D.rk/\o.r-D.rk<=n)/\MkM τd 145 wS ka w' D/\Blk w' g3 44 [.int .u8 o.k,.int .u8 o.d,.int .u8 o.b,.int .i64 o.p,.int .u8 o.y,.int .i64 o.r]) (λn=>n) 8 (csu U) ⟨m,⟨rfl,hi,oo,oo⟩,hM,I⟩ ?_;rintro n w2 ⟨D,⟨a3,a0,b6,b7⟩,hM,I⟩;have a1:=hM;have a7:=I.lt;refine kpC (ll2 0 3) (csu U) ?_;have hk:=hM.k;have b5:-4<=D.rk/\D.rk<=4:=a0.rk;refine sq<|sq ?_;intro a h;refine z0h none (λwb w'=>Fr [] wb w') z2r ?_;intro w3 q3;have I:=I.ext q3;have hk:=hk.ext q3;have hC:Fr [] w3 w3:=l12 _ _;have Z:=I;have O:=hk;refine z0e 0 h U λa h=>z0o 1 h U λa h=>z0c 2 h U z4i U λa h=>z0m 3 h U (λ_ hw=>O.ext hw) U na3 U λa h=>z0c 4 h U y4e U λa h=>z0m 5 h U (λ_ hw=>Z.ext hw) U na3 U λa h=>u0n 6 hC h wn U U U U λa h=>z0p ?_;clear hC Z O;refine bk (h.sub (L':=ll3 0 3 14)<|csu U)<|tn<|cd U (λc0=>?_)<|λc0=>?_;have a5:D.p.rk≠o.r:=c0;refine sk<|tn<|bl<|sq ?_;intro a h;refine z0h none (λwb w'=>Fr [] wb w') z2r ?_;intro w4 q4;have hk:=hk.ext q4;have hC:Fr [] w4 w4:=l12 _ _;have O:=hk;refine z0e 0 h U λa h=>z0o 1 h U λa h=>z0c 2 h U z4i U λa h=>z0m 3 h U (λ_ hw=>O.ext hw) U na3 U λa h=>z6h 4 h U t13 U λa h=>z0d 5 U<|z0q h U λa h=>?_;refine z0b<|z0d 6 U<|z0q h U λa h=>?_;refine z0b<|z0p ?_;clear hC O;refine bk (h.sub (L':=ll4 0 3 5 6)<|csu U)<|tn<|jn (ι:=Unit) (ll2 0 3) (λ_j=>[(5,.int .u8 (if o.r<D.rk then (0:Int) else 1)),(6,.int .i64<|D.rk+stI (if o.r<D.rk then (0:Int) else 1))]) (λ_j w'=>Fr [] w4 w') (csu U) ?_ ?_;refine sq ?_;intro a h;refine z0h none (λwb w'=>Fr [] wb w') z2r ?_;intro w5 q5;have I:=I.ext<|q4.n1 q5;have hk:=hk.ext q5;have hC:Fr [] w5 w5:=l12 _ _;have Z:=I;have O:=hk;refine z0c 0 h U y4e U λa h=>z0m 1 h U (λ_ hw=>Z.ext hw) U na3 U λa h=>z0e 2 h U λa h=>z0o 3 h U λa h=>z0c 4 h U z4i U λa h=>z0m 5 h U (λ_ hw=>O.ext hw) U na3 U λa h=>v3q 6 hC h wn U U λa h=>z0p ?_;clear hC Z O;refine bk (h.sub (L':=ll5 0 3 5 6 26)<|csu U)<|tn<|cd U (λc1=>?_)<|λc1=>?_;intro a h;refine z0h none (λwb w'=>Fr [] wb w') z2r ?_;intro w6 q6;have hk:=hk.ext q6;have hC:Fr [] w6 w6:=l12 _ _;have O:=hk;refine z0e 0 h U λa h=>z0o 1 h U λa h=>z0c 2 h U z4i U λa h=>z0m 3 h U (λ_ hw=>O.ext hw) U na3 U λa h=>z2v 4 h U t13 U λa h=>z0d 5 U<|z0q h U λa h=>?_;refine z0b<|z0d 6 U<|z0q h U λa h=>?_;refine z0b<|z0p ?_;clear hC O;refine bk (h.sub (L':=ll4 0 3 5 6)<|csu U) ?_;exact jE (()) (.c4 U U (congrArg (λz=>some<|Value.int .u8 z) (by first|exact(if_pos c1).symm|exact(if_neg c1).symm))<|congrArg (λz=>some<|Value.int .i64 z) (by first|(rw[show (if o.r<D.rk then (0:Int) else 1)=0 from if_pos c1,show stI 0 = -1 from U];omega)|(rw[show (if o.r<D.rk then (0:Int) else 1)=1 from if_neg c1];rfl)))<|q5.n1 q6;refine sk ?_;exact jE (()) (.c4 U U (congrArg (λz=>some<|Value.int .u8 z) (by first|exact(if_pos c1).symm|exact(if_neg c1).symm))<|congrArg (λz=>some<|Value.int .i64 z) (by first|(rw[show (if o.r<D.rk then (0:Int) else 1)=0 from if_pos c1,show stI 0 = -1 from U];omega)|(rw[show (if o.r<D.rk then (0:Int) else 1)=1 from if_neg c1];rfl))) q5;rintro _j w7 q7;refine kpC (ll4 0 3 5 6) (csu U)<|sq<|sr<|mv U U<|mv U U ?_;have hM:=a1.ext<|q3.n2 q4 q7;have I:=I.ext<|q4.n1 q7;have a4:=hM.fr;refine cl (z0a U<|z0a U z0f) (mkC func129) (j2r wS { ka with wk:=w7 } D (if o.r<D.rk then (0:Int) else 1) _ hM.mark a0 b0 (by split<;>simp) (by have hx:-4<=D.rk/\D.rk<=4:=a0.rk;unfold stI;split<;>split at *<;>omega)) U ?_;intro _ w8 hR;obtain⟨rfl,a2,m2,b2⟩:=hR.split;have z8:=a2.kp.size;simp only at z8;have I:=a2.kp.blk I (by have:=hM.gcne I;exact this) dd;refine asg U<|nn<|sr<|mv U U<|ne' U<|nn<|cd U (λc2=>?_)<|λc2=>?_;exact sr<|mv U U<|asg U<|kpL (ll1 4) (csu U)<|nn<|rt<|tr<|rb<|tr<|rb<|tr<|r1 results68 U ⟨_,rfl,MRet.err (by unfold u4j;rw[a3];exact u7i a5 oo<|y0m c2) c2<|a2.un a4⟩;obtain⟨a9,b3⟩:=b2<|l16.1 c2;have hM:=a9.unmark a4;have a1:=hM;have hk:=hM.k;have a6:=j2q (p:=D.p) (r:=o.r) (n:=n) a5 oo b3;have a8:=z7n a0 (by have hx:-4<=D.rk/\D.rk<=4:=a0.rk;show -4<=D.rk+stI (if o.r<D.rk then (0:Int) else 1)/\D.rk+stI (if o.r<D.rk then (0:Int) else 1)<=4;unfold stI;split<;>split at *<;>omega) a6.2;refine sk<|tn<|rg<|mv U U<|mv U U<|nlc U<|fad U z4i<|z3j U hk U sz3<|λw9 b1 q9 z9=>?_;have hM:=hM.beds mtd (q:=m2.q) (r:=D.rk+stI (if o.r<D.rk then (0:Int) else 1)) hM.b b1 q9 hM.fb;refine kpL (ll2 0 3) (csu U)<|nl<|bn' ?_;have I:=I.fr q9;exact lpE ((n-1)) (csu U) ⟨{ m2 with rk:=D.rk+stI (if o.r<D.rk then (0:Int) else 1) },⟨by rw[a3,a6.1],a8.1,by show -((n-1:Nat):Int)<=o.r-(D.rk+stI (if o.r<D.rk then (0:Int) else 1));unfold stI;split<;>split at *<;>omega,by show o.r-(D.rk+stI (if o.r<D.rk then (0:Int) else 1))<=((n-1:Nat):Int);unfold stI;split<;>split at *<;>omega⟩,hM,I⟩ oo;refine ex<|te<|te<|xh<|tn<|sr<|asg U<|nn<|rt<|r1 results68 U ?_;have hM:=a1.ext q3;exact⟨_,rfl,MRet.ok (by unfold u4j;rw[a3];exact u5q n (show D.rk=o.r by omega)) hM⟩
theorem j6q:CallOf prog 20:=mkC func20
theorem k6n (w:World):(zeroValue 149).run prog w=.ok .nilFunc w:=kr
abbrev u1s (F:Nat):Value:=.func (.func F) #[] #[]
def k1l:Int->Option Value:=λk'=>if k'=8 then some (u1s 73) else (if k'=7 then some (u1s 72) else (if k'=6 then some (u1s 71) else (if k'=5 then some (u1s 70) else (if k'=4 then some (u1s 69) else (if k'=3 then some (u1s 68) else (if k'=2 then some (u1s 67) else (if k'=1 then some (u1s 66) else (none))))))))
theorem v8p (w0:World):Rets prog 27 #[] w0 λr w'=>(∃g,r=.map (some g)/\w0.heap.size<=g/\MapF kV w' g k1l)/\Fr [] w0 w':=by
 refine we [] func27 U ntmps27 U .nil<|sr<|asg U<|nn<|sr<|y6f kV U<|λI w1 O D Z z1=>(z3o (V:=kV) (k:=1) U D y7q underlying84<|λw2 D q2 z2=>(z3o (V:=kV) (k:=2) U D y7q underlying84<|λw3 D q3 z3=>(z3o (V:=kV) (k:=3) U D y7q underlying84<|λw4 D q4 z4=>?_)));exact z3o (V:=kV) (k:=4) U D y7q underlying84<|λw5 D q5 z5=>(z3o (V:=kV) (k:=5) U D y7q underlying84<|λw6 D q6 z6=>(z3o (V:=kV) (k:=6) U D y7q underlying84<|λw7 D q7 z7=>(z3o (V:=kV) (k:=7) U D y7q underlying84<|λw8 D q8 z8=>(z3o (V:=kV) (k:=8) U D y7q underlying84<|λw9 D q9 z9=>(mv U U<|asg U<|nn<|rt<|r1 results27 U ⟨_,rfl,⟨I,rfl,oo,D⟩,(((Z.z6 q2 q3 q4 q5 q6 q7).z1 q8).z1 q9)⟩)))))
theorem j7f (wS:World)(D:MA)(m:MQ)(o:MOp)(w0:World)(hM:MkM τd 145 wS D w0 m)(hi:MInv m.p)(Z:StT wS)(hc:z9i o=0):∃F:Nat,k1l o.k=some (u1s F)/\CallOf prog F/\Rets prog F #[pta D.gk,opV o] w0 λr w'=>MRet τd 145 wS D (opM m.p o) r w':=by
 obtain⟨hk,a0,O,a1,I,hr⟩:=z3s hc;unfold opM;rcases hk with e|e|e|e|e|e|e|e<;>rw[e]at a0 O a1 I hr ⊢
 exact⟨_,rfl,(mkC func66),k2a wS D m o w0 hM<|O sp0⟩;exact⟨_,rfl,(mkC func67),j1j wS D m o w0 hM<|O sp0⟩;exact⟨_,rfl,(mkC func68),j1f wS D m o w0 hM hi Z<|hr sp0⟩;exact⟨_,rfl,(mkC func69),j3k wS D m o w0 hM hi (O sp0)<|I sp0⟩;exact⟨_,rfl,(mkC func70),j2l wS D m o w0 hM hi (O sp0)<|I sp0⟩;exact⟨_,rfl,(mkC func71),j0m wS D m o w0 hM hi (O sp0)<|I sp0⟩;exact⟨_,rfl,(mkC func72),j2d wS D m o w0 hM hi<|I sp0⟩;exact⟨_,rfl,(mkC func73),j2z wS D m o w0 hM hi<|I sp0⟩
theorem u7o (wS:World)(O:MA)(m:MQ)(o:MOp)(gl:Nat)(w0:World)(hM:MkM τd 145 wS O w0 m)(hi:MInv m.p)(a2:StT wS)(hl:MapF kV w0 gl k1l):Rets prog 28 #[pta O.gk,.map (some gl),opV o] w0 λr w'=>MRet τd 145 wS O (doM m.p o) r w':=by
 refine we [(0,pta O.gk),(1,.map<|some gl),(2,opV o)] func28 U ntmps28 U (.c3 U U U) ?_;have a1:=hM;have a4:=hl;refine sr<|bx U<|λg5 w1 a5 D q1 z1=>(asg U<|nn<|sq<|sr<|z0k U D y2a<|cl (ev1 U) j6q (y0u _ _) U ?_);rintro _ w2 ⟨rfl,q2⟩;refine asg U<|nn<|sr<|mv U U<|ne' U<|nn<|cd U (λc0=>?_)<|λc0=>?_;refine sr<|mv U U<|asg U<|kpL (ll1 6) (csu U)<|nn<|rt<|tr<|r1 results28 U ?_;have hM:=a1.ext<|q1.n1 q2;exact⟨_,rfl,MRet.err (by unfold doM;rw[if_pos c0]) c0 hM.fr⟩;have hM:=a1.ext<|q1.n1 q2;have hc:z9i o=0:=l16.1 c0;have I:=λw hM=>j7f wS O m o w hM hi a2 hc;obtain⟨F,hF,a3,-⟩:=I _ hM;have Z:∀w,MkM τd 145 wS O w m->Rets prog F #[pta O.gk,opV o] w λr w'=>MRet τd 145 wS O (opM m.p o) r w':=λw hM=>by
  obtain⟨F',a0,-,h'⟩:=I w hM;rw[hF]at a0;cases a0;exact h'
 refine sk<|tn<|sr<|mv U U<|fad U z7e ?_;have D:=D.ext q2;refine z0j U D U x9e ?_;have hl:=a4.ext<|q1.n1 q2;refine x0v (V:=kV) (k:=o.k) (f:=k1l) (v:=u1s F) U U hl y7q underlying84 k6n (by rw[hF];rfl) U<|mv U U<|z0k U D y2a<|clv (us:=[]) (ws:=[]) U (ev2 U) a3 (Z w2 hM) U t14 ?_;rintro a6 w3 hR;exact asg U<|kpL (ll1 6) (csu U)<|nn<|rt<|r1 results28 U ⟨_,rfl,by rw[show doM m.p o=opM m.p o from if_neg c0];exact hR⟩
end Go.Proofs.YtlfdhllfmoplgaaGreatDoor
namespace Go.G08
open Go.Lw Go.G21
theorem u2i (l:List Cx)(a b:LId)(n:Int):(y4p l a b n).length<=l.length+1:=by
 unfold y4p;split<;>simp
theorem u3s (l:List Cx)(a b:LId):(x7u l a b).length<=l.length+1:=l37 (List.length_filter_le _ _) oo
theorem u6u {l l':List Cx}{c:Cx}(h:y3z l c=.ok l'):l'.length<=l.length+1:=by
 rw[y7k]at h;split at h;cases h;split at h;cases h;exact u3s ..;cases h;exact u2i ..
theorem x5g:∀ {r l l':List Cx},z4e l r=.ok l'->l'.length<=l.length+r.length
 | [],l,l',h=>by cases h;exact l20 _
 | c::r,l,l',h=>by
  unfold z4e at h
  split at h
  ·cases h
  rename_i I D
  have:=u6u D
  have:=x5g h
  simp only[l34];omega
theorem y7o {B:Bd}(h:BdOk B)(r d:Int):(z2o B r d).length<=640:=l37 (y5o h r d) (by have:=h.lb;omega)
theorem v9a {p q:MSt}{d:Int}(h:BdOk p.B)(e:z5x p d=.ok q):q.B=p.B/\q.cr.length<=p.cr.length+640:=by
 unfold z5x at e;split at e;cases e;split at e;cases e;rename_i ys O I D;cases e;have:=x5g D;have:=y7o h p.rk d;exact⟨rfl,sm⟩
theorem x2s:∀ {n:Nat} {p q:MSt} {r:Int},BdOk p.B->z4l n p r=.ok q->q.cr.length<=p.cr.length+n*640
 | 0,p,q,r,h,e=>by cases e;omega
 | n+1,p,q,r,h,e=>by
  unfold z4l at e
  split at e
  ·cases e;omega
  split at e
  ·cases e
  rename_i O D
  obtain⟨I,hl⟩:=v9a h D
  have:=x2s (I▸h) e
  rw[l91];omega
theorem x6y {p q:MSt}{y pl en:Int}(e:z8v p y pl en=.ok q):q.cr=p.cr:=by
 unfold z8v at e;split at e;cases e;cases e;rfl
theorem v9z {p q:MSt}{o:MOp}{D st:List LId}(e:y1z p o D st=.ok q):q.cr=p.cr:=by
 unfold y1z at e;split at e;cases e;split at e;cases e;cases e;rfl
theorem v5d {p q:MSt}{o:MOp}(h:BdOk p.B)(e:opM p o=.ok q):q.cr.length<=p.cr.length+5120:=by
 have s:∀ {x:MSt},x.cr=p.cr->x.cr.length<=p.cr.length+5120:=λI=>by rw[I];omega
 unfold opM at e;split at e;unfold inM at e;split at e;cases e;cases e;exact s U;split at e;unfold x6h at e;split at e;cases e;cases e;exact s U;split at e;have:=x2s h e;omega;split at e;unfold y1i at e;split at e;cases e;split at e;cases e;rename_i O D;exact s<|(v9z e).trans<|x6y D;split at e;unfold y0x at e;split at e;cases e;split at e;cases e;rename_i O D;split at e;cases e;exact s<|(v9z e).trans<|x6y D;split at e;unfold y3h at e;split at e;cases e;exact s<|x6y e;split at e;unfold z8i at e;repeat (split at e;· cases e)
 cases e;exact s U;unfold y3p at e;split at e;cases e;cases e;exact s U
theorem x0c:∀ {l:List MOp} {i:Nat} {p q:MSt},MInv p->z3u i p l=.ok q->q.cr.length<=p.cr.length+l.length*5120
 | [],i,p,q,h,e=>by cases e;simp
 | o::l,i,p,q,h,e=>by
  unfold z3u at e
  split at e
  ·cases e
  rename_i I D
  have hi:=z7l h D
  have O:=x0c hi e
  have Z:I.cr.length<=p.cr.length+5120:=by
   unfold doM at D
   split at D
   ·cases D
   exact v5d h.B D
  rw[l34,l91];omega
theorem z7t {a b:LId}:z6m a b<0↔a.y<b.y\/a.y=b.y/\a.n<b.n:=by
 unfold z6m;(repeat' split)<;>constructor<;>intro h<;>omega
theorem y7c {a b:LId}:z6m a b=0↔a=b:=by
 obtain⟨O,I⟩:=a;obtain⟨D,bn⟩:=b;rw[LId.mk.injEq];unfold z6m;dsimp only;(repeat' split)<;>constructor<;>intro h<;>omega
theorem y7h {T T':Tb}{l:Lp}(h:y7l T l)(D:∀i,z5e T i->z5e T' i):y7l T' l:=⟨h.1,h.2.1,λi hi=>D i<|h.2.2.1 i hi,h.2.2.2⟩
theorem x8o {T:Tb}(h6:T.length=6){i:LId}(h:z5e T i):∃y n:Nat,y<6/\n<z3e T y/\i=⟨(y:Int)+1,(n:Int)⟩:=by
 obtain⟨O,Z,h3,h4⟩:=h;obtain⟨I,D⟩:=i;simp only at O Z h3 h4;exact⟨(I-1).toNat,D.toNat,oo,oo,by rw[show (((I-1).toNat:Nat):Int)+1=I by omega,show ((D.toNat:Nat):Int)=D by omega]⟩
theorem y4y {T:Tb}{j:Nat}(O:T.length=6)(Z:j<6){l:Lp}{i:LId}:z5e (T.set j<|T.getD j []++[l]) i↔z5e T i\/i=⟨(j:Int)+1,(z3e T j:Int)⟩:=by
 have D:j<T.length:=by omega
 constructor;intro h;obtain⟨y,n,hy,I,rfl⟩:=x8o (by rw[l19];exact O) h;rw[y0q D]at I;by_cases e:j=y;subst e;rw[if_pos U,l13,l47,show (T.getD j []).length=z3e T j from U]at I;by_cases e2:n<z3e T j;exact .inl<|y0l D e2;exact .inr (by rw[show n=z3e T j by omega]);rw[if_neg e]at I;exact .inl<|y0l oo I;rintro(h|rfl);exact y9j D h;exact y0l (by rw[l19];exact D) (by rw[y0q D,if_pos U,l13,l47];exact Nat.lt_succ_self _)
structure TabR (T:Tb) (rk:LId->Nat):Prop where
  six:T.length=6
  rts:∀y,y<6->∀n,n<z3e T y->y7l T (lpA T y n)/\(n=0->(lpA T y n).nw=true)
  rkd:Ranked T rk
  top:∀i,z5e T i->rk i<z4o T
theorem TabR.add {T:Tb}{rk:LId->Nat}(h:TabR T rk){j:Nat}(hj:j<6){l:Lp}(hr:y7l T l)(h0:z3e T j=0->l.nw=true) :
    TabR (T.set j<|T.getD j []++[l]) (rkX rk j (z3e T j)<|z4o T):=by
  have h6:=h.six
  have a1:j<T.length:=by omega
  have a3:z4o (T.set j<|T.getD j []++[l])=z4o T+1:=by
    have:=y6c T j (T.getD j []++[l]) a1
    rw[l13,l47,show (T.getD j []).length=z3e T j from U]at this
    omega
  have D:∀i,z5e T i->rkX rk j (z3e T j) (z4o T) i=rk i:=λi hi=>by
    obtain⟨y,n,I,O,rfl⟩:=x8o h6 hi
    unfold rkX
    rw[if_neg]
    rintro⟨e1,e2⟩
    simp only at e1 e2
    have:y=j:=by omega
    subst this;omega
  have Z:rkX rk j (z3e T j) (z4o T) ⟨(j:Int)+1,(z3e T j:Int)⟩=z4o T:=by
    unfold rkX
    rw[if_pos ⟨rfl,sp0⟩]
    show z4o T+((z3e T j:Int)-(z3e T j:Int)).toNat=z4o T
    omega
  have hm:∀i,z5e T i->z5e (T.set j<|T.getD j []++[l]) i:=λi hi=>(y4y h6 hj).2<|.inl hi
  -- an old loop,or the new one
  have a2:∀y,y<6->∀n,n<z3e (T.set j<|T.getD j []++[l]) y->(n<z3e T y/\lpA (T.set j<|T.getD j []++[l]) y n=lpA T y n)\/(y=j/\n=z3e T j/\lpA (T.set j<|T.getD j []++[l]) y n=l):=λy I n O=>by
    rw[y0q a1]at O
    rw[j5f a1]
    by_cases e:j=y
    · subst e
      rw[if_pos U,l13,l47,show (T.getD j []).length=z3e T j from U]at O
      rw[if_pos U]
      by_cases e2:n<z3e T j
      · exact .inl ⟨e2,if_pos e2⟩
      · obtain rfl:n=z3e T j:=by omega
        exact .inr ⟨rfl,rfl,by rw[if_neg e2,l95];rfl⟩
    · rw[if_neg e]at O
      exact .inl ⟨O,by rw[if_neg e]⟩
  have hp:∀ {y n:Nat},y<6->n<z3e T y->z5e T ⟨(y:Int)+1,(n:Int)⟩:=λI O=>y0l oo O
  refine⟨by rw[l19];exact h6,λy I n O=>?_,⟨λy I n O i hi=>?_,λy I n m a0 a4=>?_⟩,λi hi=>?_⟩
  · rcases a2 y I n O with ⟨k,e⟩|⟨rfl,rfl,e⟩
    · rw[e];exact⟨y7h (h.rts y I n k).1 hm,(h.rts y I n k).2⟩
    · rw[e];exact⟨y7h hr hm,h0⟩
  · rcases a2 y I n O with ⟨k,e⟩|⟨rfl,rfl,e⟩
    · rw[e]at hi
      rw[D _ (hp I k),D _ ((h.rts y I n k).1.2.2.1 i hi)]
      exact h.rkd.need y I n k i hi
    · rw[e]at hi
      rw[Z,D _ (hr.2.2.1 i hi)]
      exact h.top i<|hr.2.2.1 i hi
  · rcases a2 y I m a4 with ⟨k,_⟩|⟨rfl,rfl,_⟩
    · rw[D _ (hp I k),D _ (hp I (show n<z3e T y by omega))]
      exact h.rkd.mono y I n m a0 k
    · rw[Z,D _ (hp I a0)]
      exact h.top _<|hp I a0
  · rw[a3]
    rcases(y4y h6 hj).1 hi with k|rfl
    · rw[D _ k];have:=h.top i k;omega
    · rw[Z];omega
theorem u4h {T:Tb}{j:Nat}(D:j<T.length)(l:Lp)(i:LId):(y0p<|T.set j<|T.getD j []++[l]).count i=(y0p T).count i+l.th.count i:=by
 have h:=z9a v0z T j [] (T.getD j []++[l]) i D;have e:v0z (T.getD j []++[l])=v0z (T.getD j [])++l.th:=by unfold v0z;simp
 unfold y0p;rw[e,l21]at h;omega
theorem v1l {T:Tb}{rk:LId->Nat}(h:TabR T rk){i:LId}(hi:i∈y0p T):z5e T i:=by
 unfold y0p at hi;obtain⟨r,O,hi⟩:=l68.1 hi;unfold v0z at hi;obtain⟨l,hl,hi⟩:=l68.1 hi;obtain⟨y,Z,rfl⟩:=l29 O;obtain⟨n,I,rfl⟩:=l29 hl;have D:T.getD y []=T[y]:=by rw[List.getD,l10 Z];rfl
 have en:lpA T y n=T[y][n]:=by unfold lpA;rw[D,List.getD,l10 I];rfl
 have h6:=h.six;have:=(h.rts y oo n (by unfold z3e;rw[D];exact I)).1.2.2.1 i (by rw[en];exact l56 _ hi);exact this
theorem v9m {T:Tb}{st:List Pa}{p:Pa}(h:∀q∈st,z5e T q.id)(hp:z5e T p.id):∀q∈y1p st p,z5e T q.id:=by
 unfold y1p;split;exact λq D=>h q<|l92 D;intro q D;rcases l23.1 D with k|k
 exact h q k;rw[l11.1 k];exact hp
theorem x4j {T:Tb}:∀ {l st:List Pa},(∀q∈st,z5e T q.id)->(∀q∈l,z5e T q.id)->∀q∈z5f st l,z5e T q.id
 | [],_,h,_=>h
 | p::l,st,h,hl=>x4j (l:=l) (v9m h<|hl p sp0)<|λq D=>hl q<|l38 _ D
theorem x3a:∀(l st:List Pa),y7u (st++l)->z5f st l=st++l
 | [],st,_=>by simp[z5f]
 | p::l,st,h=>by
  have e1:y1p st p=st++[p]:=by
   unfold y1p
   rw[if_neg]
   rintro⟨Z,hc⟩
   have D:=(h st.length sp0).2 Z
   have I:(st++p::l).getD (st.length-1) pa0=st.getD (st.length-1) pa0:=by
    rw[List.getD,l44 oo,List.getD]
   have O:(st++p::l).getD st.length pa0=p:=by simp[List.getD]
   rw[I,O]at D
   exact D hc
  show z5f (y1p st p) l=_
  rw[e1,x3a l (st++[p]) (by simpa using h)]
  simp
theorem j3v {l:List Pa}(h:y7u l):(z5f [] l).length=l.length:=by rw[x3a l [] (by simpa using h)];rfl
theorem v7r {l:List Pa}(h:y7u l):∀p∈l,z6k p.d:=λp D=>by
 obtain⟨i,hi,rfl⟩:=l29 D
 have:=(h i hi).1.2
 rwa [List.getD,l10 hi]at this
theorem x5f (h:Hd):∀l:List Hd,(z9c h l).Perm (h::l)
 | []=>.refl _
 | x::l=>by
  unfold z9c
  split
  ·exact .refl _
  exact((x5f h l).cons x).trans<|.swap h x l
theorem v4d (l:List Hd):(z5r l).Perm l:=by
 have h:∀(l st:List Hd),(l.foldl (λa h=>z9c h a) st).Perm (st++l):=by
  intro l;induction l with
  | nil=>intro st;simp
  | cons x l ih=>
   intro st;show (l.foldl _<|z9c x st).Perm _;exact(ih _).trans<|((x5f x st).append_right l).trans (by simpa using (List.perm_middle (a:=x) (l₁:=st) (l₂:=l)).symm)
 have e:=h l [];rw[l46]at e;exact e
theorem z8g (B:Bd)(r:Int):(z2l B r).Perm (x8c B r):=v4d _
theorem y9w (b r:Int)(l:Bed):(hds b r l l.length).map Hd.id=l.flatten:=by
 have h:∀i,i<=l.length->(hds b r l i).map Hd.id=(l.take i).flatten:=by
  intro i;induction i with
  | zero=>intro _;simp[hds]
  | succ i ih=>
   intro hi;rw[y9r,l33,ih oo,l53,List.flatten_append,l10 oo,List.getD,l10 oo];simp[hdS,l103]
 rw[h _ (l20 _),l39]
theorem y5b (B:Bd)(r:Int):((z2l B r).map Hd.id).Perm B.flat:=by
 refine((z8g B r).map _).trans ?_;unfold x8c Bd.flat;rw[l33,y9w,y9w]
theorem v7m {B:Bd}{r f t:Int}{q:Pa}(h:q∈btw (z2l B r) f t):q.id∈B.flat:=by
 have I:∀x∈z2l B r,x.id∈B.flat:=λx D=>(y5b B r).mem_iff.1<|l86 D;unfold btw at h;split at h;obtain⟨x,D,rfl⟩:=l54.1 h;exact I x (l99.1 D).1;obtain⟨x,D,rfl⟩:=l54.1<|l121.1 h;exact I x (l99.1 D).1
theorem v1r {B:Bd}{k:Nat}{x:LId}(h:x∈B.b.getD k []):x∈B.b.flatten:=by
 by_cases e:k<B.b.length;rw[List.getD,l10 e]at h;exact List.mem_flatten.2 ⟨_,l109 e,h⟩;rw[List.getD,l30 oo]at h;cases h
theorem x2x {B:Bd}{r d p:Int}{i:Nat}{q:Pa}(h:q∈y4q B r d p i):q.id∈B.flat:=by
 unfold y4q at h;obtain⟨k,_,h⟩:=l68.1 h;unfold x0e at h;split at h;cases h;obtain⟨x,D,rfl⟩:=l54.1 h;exact l66 _<|v1r D
theorem x3y {B:Bd}{r d p:Int}{q:Pa}(h:q∈z7h B r d p):q.id∈B.flat:=by
 unfold z7h at h;split at h;exact x2x<|l121.1 h;exact x2x h
theorem v6t {B:Bd}{n:Int}{x:LId}(h:x∈B.atC 0 n):x∈B.f.flatten:=by
 unfold Bd.atC at h;split at h;unfold Bd.at at h;rw[if_pos U]at h;have D:atB B.f n≠[]:=λe=>by rw[e]at h;cases h
 exact List.mem_flatten.2 ⟨_,v6y D,h⟩;cases h
theorem v0l {B:Bd}{r d:Int}{i:Nat}{c:Cx}(hn:B.flat.Nodup)(h:c∈x5r B r d i):c.a∈B.flat/\c.b∈B.flat/\c.a≠c.b/\(c.n=1\/c.n = -1):=by
 unfold x5r at h;obtain⟨k,_,h⟩:=l68.1 h;unfold u1p at h;obtain⟨x,hx,h⟩:=l68.1 h;obtain⟨o,Z,rfl⟩:=l54.1 h;have I:x∈B.b.flatten:=v1r hx;have O:o∈B.f.flatten:=v6t<|l121.1 Z;have D:o≠x:=(l61.1 hn).2.2 o O x I;unfold x6a;split;exact⟨l56 _ O,l66 _ I,D,.inl U⟩;exact⟨l66 _ I,l56 _ O,D.symm,.inr U⟩
theorem v4s {B:Bd}{r d:Int}{c:Cx}(hn:B.flat.Nodup)(h:c∈z2o B r d):c.a∈B.flat/\c.b∈B.flat/\c.a≠c.b/\(c.n=1\/c.n = -1):=by
 unfold z2o at h;split at h;exact v0l hn<|l121.1 h;exact v0l hn h
structure CrsOk (T:Tb) (l:List Cx):Prop where
  has:∀c∈l,z5e T c.a/\z5e T c.b/\z6m c.a c.b<0/\(-1048576<=c.n/\c.n<=1048576)/\c.n≠0
  nd:(l.map λc=>(c.a,c.b)).Nodup
theorem CrsOk.mono {T T':Tb}{l:List Cx}(h:CrsOk T l)(I:∀i,z5e T i->z5e T' i):CrsOk T' l:=⟨λc D=>⟨I _ (h.has c D).1,I _ (h.has c D).2.1,(h.has c D).2.2⟩,h.nd⟩
theorem v1h {l:List Cx}{a b:LId}{n:Int}(h:l.any (isC a b)=true):(y4p l a b n).map (λc=>(c.a,c.b))=l.map λc=>(c.a,c.b):=by
 unfold y4p;rw[if_pos h,l80];refine l114 λc _=>?_;simp only[Function.comp_apply];split;rename_i e;obtain⟨e1,e2⟩:=z8t.1 e;rw[e1,e2];rfl
theorem u7g {l:List Cx}{a b:LId}{n:Int}{c:Cx}(h:c∈y4p l a b n):c=⟨a,b,n⟩\/c∈l:=by
 unfold y4p at h;split at h;obtain⟨z,D,rfl⟩:=l54.1 h;split;exact .inl U;exact .inr D;rcases l23.1 h with k|k
 exact .inr k;exact .inl<|l11.1 k
theorem x8s {a b:LId}(h:a≠b)(D:¬0<z6m a b):z6m a b<0:=by
 have:=mt y7c.1 h;omega
theorem x2l {a b:LId}(h:0<z6m a b):z6m b a<0:=by
 rw[z7t];unfold z6m at h;(repeat' split at h)<;>omega
theorem CrsOk.add {T:Tb}{l l':List Cx}{c:Cx}(h:CrsOk T l)(ha:z5e T c.a)(hb:z5e T c.b)(I:c.a≠c.b)(e:y3z l c=.ok l'):CrsOk T l':=by
 unfold y3z at e;dsimp only at e;obtain⟨a,b,hk,h1,h2,h3⟩:∃a b,(if 0<z6m c.a c.b then (c.b,c.a) else (c.a,c.b))=(a,b)/\z5e T a/\z5e T b/\z6m a b<0:=by
  split;rename_i k;exact⟨_,_,rfl,hb,ha,x2l k⟩;rename_i k;exact⟨_,_,rfl,ha,hb,x8s I k⟩
 rw[hk]at e;split at e;cases e;rename_i hr;split at e;cases e;exact⟨λx D=>h.has x (l99.1 D).1,h.nd.sublist<|List.filter_sublist.map _⟩;rename_i Z;cases e;dsimp only at hr Z ⊢;refine⟨λx D=>?_,?_⟩;rcases u7g D with rfl|k
 exact⟨h1,h2,h3,by dsimp only;omega,Z⟩;exact h.has x k;by_cases k:l.any (isC a b)=true;rw[v1h k];exact h.nd;unfold y4p;rw[if_neg k,l33,List.map_singleton,l61];refine⟨h.nd,sp0,λx D y hy=>?_⟩;obtain⟨z,hz,rfl⟩:=l54.1 D;rw[l11.1 hy];intro O;have e1:=congrArg Prod.fst O;have e2:=congrArg Prod.snd O;exact k<|List.any_eq_true.2 ⟨z,hz,z8t.2 ⟨e1,e2⟩⟩
theorem CrsOk.adds {T:Tb}:∀ {r l l':List Cx},CrsOk T l->(∀c∈r,z5e T c.a/\z5e T c.b/\c.a≠c.b)->z4e l r=.ok l'->CrsOk T l'
 | [],l,l',h,_,e=>by cases e;exact h
 | c::r,l,l',h,hr,e=>by
  unfold z4e at e
  split at e
  ·cases e
  rename_i Z I
  have D:=hr c sp0
  exact CrsOk.adds (h.add D.1 D.2.1 D.2.2 I) (λx O=>hr x<|l38 _ O) e
def YnV (T:Tb)(y:Yn):Prop:=(∀q∈y.pe,z5e T q.id)/\(y.inn=true->y.ct=0->y.nw=true)
structure MVal (p:MSt):Prop where
  inv:MInv p
  yv:∀k,k<6->YnV p.tb (p.ys.getD k yn0)
  tab:∃rk,TabR p.tb rk
  once:∀i,z5e p.tb i->(p.B.flat++p.fa++y0p p.tb).count i=1
  fa:∀i∈p.fa,z5e p.tb i
  cr:CrsOk p.tb p.cr
theorem v4v:MVal start:=by
 have D:∀y,z3e start.tb y=0:=λy=>by
  simp only[start,z3e,List.getD,l65];split<;>rfl
 have I:∀i,¬z5e start.tb i:=λi hi=>by
  obtain⟨_,_,h3,h4⟩:=hi;rw[D]at h4;omega
 refine⟨y5s,λk hk=>?_,⟨λ_=>0,rfl,λy O n h=>by rw[D]at h;omega,⟨λy O n h=>by rw[D]at h;omega,λy O n m h Z=>by rw[D]at Z;omega⟩,λi hi=>absurd hi<|I i⟩,λi hi=>absurd hi<|I i,t14,⟨t14,by simp[start]⟩⟩;have:start.ys.getD k yn0=yn0:=by
  simp only[start,List.getD,l65];split<;>rfl
 rw[this];exact⟨t14,(by intro h;cases h)⟩
theorem y9z {p:MSt}{y:Int}{q:Yn}(h:MVal p)(hi:MInv (p.setY y q))(O:1<=y/\y<=6)(I:YnV p.tb q):MVal (p.setY y q):=by
 have hl:(y-1).toNat<p.ys.length:=by rw[h.inv.ly];omega
 refine⟨hi,λk D=>?_,h.tab,h.once,h.fa,h.cr⟩;show YnV p.tb ((p.ys.set (y-1).toNat q).getD k yn0);rw[z1k hl];split;exact I;exact h.yv k D
theorem k2h {p:MSt}(h:MVal p){y:Int}(D:1<=y/\y<=6):YnV p.tb (p.y y):=h.yv (y-1).toNat oo
theorem go_v {T:Tb}{y:Yn}{pl:Int}{l:List Pa}(h:YnV T y)(hl:∀q∈l,z5e T q.id):YnV T (goS y pl l):=⟨x4j h.1 hl,h.2⟩
theorem x6t {p q:MSt}{y pl en:Int}(h:MVal p)(D:1<=y/\y<=6)(e:z8v p y pl en=.ok q):MVal q/\q.B=p.B/\q.rk=p.rk:=by
 have hi:=y1x h.inv D e;refine⟨?_,hi.2⟩;unfold z8v at e;split at e;cases e;cases e;exact y9z h hi.1 D<|go_v (k2h h D) λq I=>h.inv.has _<|v7m I
theorem v5v {p q:MSt}{o:MOp}{th st:List LId}(h:MVal p)(hi:MInv q)(hy:1<=o.y/\o.y<=6)(hn:z4d o.b o.p=0)(hs:th++st=p.B.at o.b o.p)(h4:th.length<=4)(e:y1z p o th st=.ok q):MVal q:=by
 unfold y1z at e;split at e;cases e;rename_i hm;split at e;cases e;cases e;have hm:=l16.1 hm;obtain⟨j,hj,a9⟩:∃j:Nat,j<6/\o.y=(j:Int)+1:=⟨(o.y-1).toNat,oo,oo⟩;have O:(o.y-1).toNat=j:=by omega
 have D:=h.inv.yn j hj;have b1:p.y o.y=p.ys.getD j yn0:=by unfold MSt.y;rw[O]
 rw[<-b1]at D;have a4:=k2h h hy;have a7:j<p.ys.length:=by rw[h.inv.ly];exact hj
 have a6:j<p.tb.length:=by rw[h.inv.lt];exact hj
 have a1:(p.y o.y).inn=true:=by
  unfold mkE at hm;split at hm;exact absurd hm t12;split at hm;omega;rename_i k;simpa using k
 have Z:=D.1.2;rw[if_pos a1]at Z;have a2:p.row o.y=p.tb.getD j []:=by unfold MSt.row;rw[O]
 simp only[O,a2]at hi ⊢;obtain⟨rk,ht⟩:=h.tab;have h6:=h.inv.lt;have a3:∀i∈th,z5e p.tb i:=λi hi=>h.inv.has i<|y1q (b:=o.b) (n:=o.p) (by rw[<-hs];exact l56 _ hi);have b0:y7l p.tb ⟨o.b,(p.y o.y).nw,th,(p.y o.y).pe⟩:=by
  refine⟨(z2t hn).1,⟨h4,Z.2.1⟩,λi hi=>?_,v7r Z.2.2,j3v Z.2.2⟩;rcases l23.1 hi with k|k
  exact a3 i k;obtain⟨q,hq,rfl⟩:=l54.1 k;exact a4.1 q hq
 have a0:∀ {l:Lp} (i:LId),z5e p.tb i->z5e (p.tb.set j<|p.tb.getD j []++[l]) i:=λi hi=>(y4y h6 hj).2<|.inl hi;refine⟨hi,λk hk=>?_,⟨_,ht.add hj b0<|λe0=>a4.2 a1 (by rw[D.2,e0];rfl)⟩,λi hi=>?_,λi hi=>a0 i<|h.fa i hi,h.cr.mono a0⟩;show YnV (p.tb.set j _) ((p.ys.set j<|mkS<|p.y o.y).getD k yn0);rw[z1k a7];split;refine⟨t14,λ_ h0=>?_⟩;have h1:(p.y o.y).ct+1=0:=h0;have:=D.1.1;omega;exact⟨λq hq=>a0 _<|(h.yv k hk).1 q hq,(h.yv k hk).2⟩;show ((p.B.put o.b o.p<|st++[⟨o.y,(p.y o.y).ct⟩]).flat++p.fa++y0p (p.tb.set j<|p.tb.getD j []++[_])).count i=1;rw[l21,l21,u4h a6];have h1:=z5c p.B hn (st++[⟨o.y,(p.y o.y).ct⟩]) i;have h2:th.count i+st.count i=(p.B.at o.b o.p).count i:=by rw[<-hs,l21]
 rw[l21,l93]at h1;dsimp only;rcases(y4y h6 hj).1 hi with k|k
 have h3:=h.once i k;rw[l21,l21]at h3;have a8:¬((⟨o.y,(p.y o.y).ct⟩:LId) == i)=true:=by
  intro ee;have ee:(⟨o.y,(p.y o.y).ct⟩:LId)=i:=by simpa using ee
  obtain⟨_,_,_,k4⟩:=k;rw[<-ee]at k4;simp only at k4;rw[O,D.2]at k4;omega
 rw[if_neg a8]at h1;omega;have I:¬z5e p.tb i:=λk4=>by
  rw[k]at k4;obtain⟨_,_,_,k4⟩:=k4;simp only at k4;rw[show ((j:Int)+1-1).toNat=j by omega]at k4;omega
 have z1:p.B.flat.count i=0:=l69.2 λz=>I<|h.inv.has i z;have z2:p.fa.count i=0:=l69.2 λz=>I<|h.fa i z;have z3:(y0p p.tb).count i=0:=l69.2 λz=>I<|v1l ht z;have z4:th.count i=0:=l69.2 λz=>I<|a3 i z;have z5:(p.B.at o.b o.p).count i=0:=l69.2 λz=>I<|h.inv.has i<|y1q z;have a5:((⟨o.y,(p.y o.y).ct⟩:LId) == i)=true:=by rw[k,D.2,a9];simp
 rw[if_pos a5]at h1;omega
theorem y8w {p:MSt}{d:Int}:∀ {l l':List Yn},z4c p d l=.ok l'->MVal p->∀k,YnV p.tb (l.getD k yn0)->YnV p.tb (l'.getD k yn0)
 | [],l',e,_,k,hk=>by cases e;exact hk
 | y::l,l',e,h,k,hk=>by
  unfold z4c at e
  split at e
  ·cases e
  rename_i Z D
  split at e
  ·cases e
  rename_i O hl
  cases e
  cases k with
  | succ k=>simpa only[l62] using y8w hl h k (by simpa only[l62] using hk)
  | zero=>
   simp only[l84]at hk ⊢
   unfold z7i at D
   split at D
   ·cases D;exact hk
   split at D
   ·cases D
   cases D
   exact go_v hk λq I=>h.inv.has _<|x3y I
theorem v8l {p q:MSt}{d:Int}(h:MVal p)(Z:-4<=p.rk+stI d/\p.rk+stI d<=4)(e:z5x p d=.ok q):MVal q:=by
 have hi:=(z7n h.inv Z e).1;unfold z5x at e;split at e;cases e;rename_i ys I;split at e;cases e;rename_i cr D;cases e;refine⟨hi,λk hk=>y8w I h k<|h.yv k hk,h.tab,h.once,h.fa,h.cr.adds (λc O=>?_) D⟩;obtain⟨k1,k2,k3,_⟩:=v4s h.inv.B.nd O;exact⟨h.inv.has _ k1,h.inv.has _ k2,k3⟩
theorem x2z {r:Int}(O:-4<=r/\r<=4):∀ {n:Nat} {p q:MSt},MVal p->z4l n p r=.ok q->MVal q
 | 0,p,q,h,e=>by cases e;exact h
 | n+1,p,q,h,e=>by
  unfold z4l at e
  split at e
  ·cases e;exact h
  rename_i I
  split at e
  ·cases e
  rename_i p2 D
  have Z:=h.inv.rk
  refine x2z O (v8l h ?_ D) e
  unfold stI
  split<;>split<;>omega
theorem u3d {p q:MSt}{o:MOp}(h:MVal p)(hi:MInv q)(hn:z4d o.b o.p=0)(e:z8i p o=.ok q):MVal q:=by
 unfold z8i at e;split at e;cases e;split at e;cases e;rename_i D;have D:=l16.1 D;split at e;cases e;split at e;cases e;cases e;refine⟨hi,h.yv,h.tab,λi hh=>?_,h.fa,h.cr⟩;have hb:=(z2t hn).1;have hc:=y5j (p:=p) (o:=o) hb i;have I:(p.B.put o.b o.p []).at (1-o.b) (z5q o.b o.p p.rk)=p.B.at (1-o.b) (z5q o.b o.p p.rk):=by
  rw[y6i p.B hn D,if_neg oo]
 have O:=z5c p.B hn [] i;have Z:=z5c (p.B.put o.b o.p []) D (y0z p o) i;have h3:=h.once i hh;rw[I]at Z;show (((p.B.put o.b o.p []).put (1-o.b) (z5q o.b o.p p.rk)<|y0z p o).flat++p.fa++y0p p.tb).count i=1;simp only[l21]at h3 ⊢;simp only[l125]at O;omega
theorem u6l {p q:MSt}{o:MOp}(h:MVal p)(hi:MInv q)(hn:z4d o.b o.p=0)(e:y3p p o=.ok q):MVal q:=by
 unfold y3p at e;split at e;cases e;cases e;refine⟨hi,h.yv,h.tab,λi D=>?_,λi D=>?_,h.cr⟩;have I:=z5c p.B hn [] i;have O:=h.once i D;show ((p.B.put o.b o.p []).flat++(p.fa++p.B.at o.b o.p)++y0p p.tb).count i=1;simp only[l21]at O ⊢;simp only[l125]at I;omega;rcases l23.1 D with k|k
 exact h.fa i k;exact h.inv.has i<|y1q k
theorem u7y {p q:MSt}{o:MOp}(h:MVal p)(e:doM p o=.ok q):MVal q:=by
 have hi:=z7l h.inv e;unfold doM at e;split at e;cases e;rename_i hc;obtain⟨_,h1,I,h3,O,h5⟩:=z3s<|l16.1 hc;unfold opM at e;split at e;have D:=I oo;unfold inM at e;split at e;cases e;cases e;exact y9z h hi D ⟨t14,λ_ _=>rfl⟩;split at e;have D:=I oo;unfold x6h at e;split at e;cases e;cases e;exact y9z h hi D ⟨t14,(by intro k;cases k)⟩;split at e;exact x2z (h5 oo) h e;split at e;have D:=I oo;have Z:=O oo;unfold y1i at e;split at e;cases e;split at e;cases e;rename_i r hr;obtain⟨v1,v2,v3⟩:=x6t h D hr;exact v5v v1 hi D Z sp0 (y7j v1.inv.B _ _) e;split at e;have D:=I oo;have Z:=O oo;unfold y0x at e;split at e;cases e;split at e;cases e;rename_i r hr;obtain⟨v1,v2,v3⟩:=x6t h D hr;split at e;cases e;exact v5v v1 hi D Z sp0 sp0 e;split at e;have D:=I oo;unfold y3h at e;split at e;cases e;exact(x6t h D e).1;split at e;exact u3d h hi (O oo) e;exact u6l h hi (O oo) e
theorem v5s:∀ {l:List MOp} {i:Nat} {p q:MSt},MVal p->z3u i p l=.ok q->MVal q
 | [],i,p,q,h,e=>by cases e;exact h
 | o::l,i,p,q,h,e=>by
  unfold z3u at e
  split at e
  ·cases e
  rename_i p2 D
  exact v5s (u7y h D) e
structure StQ where
  rk:Int
  q:BdQ
  yv:SV
  ys:List YQ
  fb:FbQ
abbrev _root_.svv (s:StQ):Value:=.agg #[.int .i64 s.rk,.slice s.q.f.1 s.q.f.2.1 s.q.f.2.2,.slice s.q.b.1 s.q.b.2.1 s.q.b.2.2,.slice s.yv.1 s.yv.2.1 s.yv.2.2,.slice s.fb.t.1 s.fb.t.2.1 s.fb.t.2.2,.slice s.fb.c.1 s.fb.c.2.1 s.fb.c.2.2,.slice s.fb.h.1 s.fb.h.2.1 s.fb.h.2.2,.slice s.fb.f.1 s.fb.f.2.1 s.fb.f.2.2]
abbrev stL (s:StQ):List Value:=[.int .i64 s.rk,.slice s.q.f.1 s.q.f.2.1 s.q.f.2.2,.slice s.q.b.1 s.q.b.2.1 s.q.b.2.2,.slice s.yv.1 s.yv.2.1 s.yv.2.2,.slice s.fb.t.1 s.fb.t.2.1 s.fb.t.2.2,.slice s.fb.c.1 s.fb.c.2.1 s.fb.c.2.2,.slice s.fb.h.1 s.fb.h.2.1 s.fb.h.2.2,.slice s.fb.f.1 s.fb.f.2.1 s.fb.f.2.2]
structure St where
  rk:Int
  B:Bd
  ys:List Yn
  fb:Fb
abbrev StQ.p (s:StQ):St:=⟨s.rk,s.q.p,s.ys.map YQ.p,s.fb.p⟩
def YsA (w:World)(ys:List YQ):Prop:=∀i,Sl z2i w (slv (ys.getD i yq0).pe) (ys.getD i yq0).pes
theorem YsA.ext {w w':World}{ys:List YQ}(h:YsA w ys)(hf:Fr [] w w'):YsA w' ys:=λi=>(h i).ext hf
structure StAt (w:World) (s:StQ):Prop where
  b:BdAt w s.q
  y:Sl z3l w (slv s.yv) s.ys
  ya:YsA w s.ys
  f:FbAt w s.fb
theorem StAt.ext {w w':World}{s:StQ}(h:StAt w s)(hf:Fr [] w w'):StAt w' s:=⟨h.b.ext hf,h.y.ext hf,h.ya.ext hf,h.f.ext hf⟩
theorem u6e {κ:Type}[DecidableEq κ]{V:κ->Value}{w:World}{g:Nat}(h:MapF V w g λ_=>none):MapL V w g []:=by
 obtain⟨O,c,m,Z,h2,h3⟩:=h;have D:m=[]:=by
  cases m with
  | nil=>rfl
  | cons p m=>have:=h3 p.1;simp[z2s]at this
 subst D;have I:O.toList=[]:=List.map_eq_nil_iff.1 h2;refine⟨O,c,Z,by rw[I];rfl,sp0,by rw[I];simp,λe D=>by rw[I]at D;cases D⟩
theorem x4u {κ:Type}[DecidableEq κ]{m:List (κ×Value)}{k:κ}{v:Value}(h:k∉m.map (·.1)):z4m m k v=m++[(k,v)]:=by
 unfold z4m;have:(m.map (·.1)).findIdx? (λx=>decide (k=x))=none:=by
  rw[List.findIdx?_eq_none_iff];intro x D;have:k≠x:=λe=>h (e▸D);simpa using this
 rw[this]
abbrev cxK (c:Cx):LId×LId:=(c.a,c.b)
theorem x0a (l:List Cx):(crM l).map (·.1)=l.map cxK:=by unfold crM;rw[l80];rfl
theorem u3w {l:List Cx}{i:Nat}(hn:(l.map cxK).Nodup)(hi:i<l.length):z4m (crM<|l.take i) (cxK<|l.getD i cx0) (.int .i64 (l.getD i cx0).n)=crM (l.take<|i+1):=by
 have e:l.take (i+1)=l.take i++[l.getD i cx0]:=by rw[l53,List.getD,l10 hi];rfl
 rw[x4u,e];unfold crM;rw[l33];rfl;rw[x0a];intro I;have D:(((l.take i)++[l.getD i cx0]).map cxK).Nodup:=by
  rw[<-e];exact List.Nodup.sublist (List.Sublist.map _<|List.take_sublist _ _) hn
 rw[l33]at D;exact(l61.1 D).2.2 _ I _ (l11.2 U) U
theorem y8g {τ:TyK}{Mt:Nat}{w0 w:World}{s:StQ}{fs bs:List IQ}{gF gB gy gt Z gk I:Nat}{ps:List YQ}{us:List TQ}
    (hk:Blk w gk Mt [.int .i64 s.rk,.slice (saa gF) fs.length fs.length,.slice (saa gB) bs.length bs.length,.slice (saa gy) s.ys.length s.ys.length,.slice (saa gt) s.fb.ts.length s.fb.ts.length,.map (some Z),.slice (saa I) s.fb.fs.length s.fb.fs.length])
    (hF:RwO τ.S τ.I w0.heap.size w (.slice (saa gF) fs.length fs.length) fs) (hB:RwO τ.S τ.I w0.heap.size w (.slice (saa gB) bs.length bs.length) bs)
    (hY:YsO τ w0.heap.size w (.slice (saa gy) s.ys.length s.ys.length) ps) (hpl:ps.length=s.ys.length) (hpm:ps.map YQ.p=s.ys.map YQ.p)
    (hT:TbO τ w0.heap.size w (.slice (saa gt) s.fb.ts.length s.fb.ts.length) us) (hul:us.length=s.fb.ts.length) (htm:z2n us=z2n s.fb.ts)
    (hm:MapF crK w Z λ_=>none) (hf:Lw.Own z1g τ.I w0.heap.size w (.slice (saa I) s.fb.fs.length s.fb.fs.length) s.fb.fs) (hly:s.ys.length=6) (hlt:s.fb.ts.length=6)
    (hfr:Fr [] w0 w) (hgc:w0.heap.size<=Z) (hgk:w0.heap.size<=gk) (hfb:∀x∈fs++bs,I∉z0u (slv x.1)) (hft:∀i,i<6->∀q∈(us.getD i tq0).2,I∉z0u (slv q.th)) (hpF:plB fs=trimB (plB s.q.fs)) (hpB:plB bs=trimB (plB s.q.bs)) :
    ∃m:MQ,MkM τ Mt w0 ⟨gk,gy,6,gt,6,Z,w⟩ w m/\m.p=⟨s.rk,⟨trimB<|plB s.q.fs,trimB<|plB s.q.bs⟩,s.ys.map YQ.p,z2n s.fb.ts,[],s.fb.fs⟩:=by
  refine⟨⟨s.rk,⟨(some ⟨gF,0,none⟩,fs.length,fs.length),(some ⟨gB,0,none⟩,bs.length,bs.length),fs,bs⟩,ps,us,[],(some ⟨I,0,none⟩,s.fb.fs.length,s.fb.fs.length),s.fb.fs⟩,⟨?_,⟨hF,hB⟩,?_,?_,u6e hm,hf,λx hx k D O=>?_,λi hi q hq k D O=>?_,by rw[hpl,hly],by rw[hul,hlt],hgk,hgc,⟨hfr,KpM.refl _ _ _⟩⟩,?_⟩
  · rw[hly,hlt]at hk;exact hk
  · rw[hly]at hY;exact hY
  · rw[hlt]at hT;exact hT
  · simp[z0u,slv]at O;subst O;exact hfb x hx D
  · simp[z0u,slv]at O;subst O;exact hft i hi q hq D
  · show (⟨s.rk,⟨plB fs,plB bs⟩,ps.map YQ.p,z2n us,[],s.fb.fs⟩:MSt)=_
    rw[hpF,hpB,hpm,htm]
end Go.G08
namespace Go.G08
open Go.Lw Go.G21 Go.Proofs Go.Sort
theorem j3q (X:World)(o:Obj)(b:Nat)(h:X.heap.size=b):(X.alloc o).drew.heap[b]?=some o:=by subst h;show (X.heap.push o)[X.heap.size]?=some o;simp
theorem k5b (X:World)(o:Obj)(b:Nat)(h:X.heap.size=b):(X.alloc o).heap[b]?=some o:=by subst h;show (X.heap.push o)[X.heap.size]?=some o;simp
def DG (w w':World):Prop:=∃q os',w'=grow (w.drewN q) os'
theorem DG.refl (w:World):DG w w:=⟨0,#[],by rw[grow_empty];rfl⟩
theorem DG.alloc {w w':World}(h:DG w w')(o:Obj):DG w (w'.alloc o):=by
 obtain⟨q,D,rfl⟩:=h;exact⟨q,D++#[o],by rw[alloc_eq_grow,grow_grow]⟩
theorem DG.drew {w w':World}(h:DG w w'):DG w w'.drew:=by
 obtain⟨q,D,rfl⟩:=h;exact⟨q+1,D,rfl⟩
theorem DG.trans {a b c:World}(h:DG a b)(I:DG b c):DG a c:=by
 obtain⟨q,O,rfl⟩:=h;obtain⟨q',D,rfl⟩:=I;exact⟨q+q',O++D,by rw[<-grow_grow];unfold grow World.drewN;simp[Nat.add_assoc]⟩
theorem DG.cell {w w':World}(h:DG w w'){p:Addr}{v:Value}(hb:w.cell? p=some v):w'.cell? p=some v:=by
 obtain⟨q,D,rfl⟩:=h;have hl:=block_lt_of_cell hb;refine(World.cell?_of_block (w:=w) ?_).trans hb;show (w.heap++D)[p.block]?=_;rw[Array.getElem?_append_left hl]
theorem j7d {X:World}{b T:Nat}{x y:Int}(h:X.heap[b]?=some (.cells #[.int .i64 x,.int .i64 y] T (0,0))):Sl Enc.i64 X (.slice (saa b) 2 2) [x,y]:=
 Lw.Own.sl (E:=Enc.i64) (T:=T) (base:=b) (.inr ⟨b,2,_,rfl,l20 _,h,l20 _,dd,l20 2,rfl⟩)
def x2b (x y:Cx):Int:=if z6m x.a y.a≠0 then z6m x.a y.a else z6m x.b y.b
abbrev j6t (c:Cx):Value:=.agg #[.int .u8 c.a.y,.int .i64 c.a.n,.int .u8 c.b.y,.int .i64 c.b.n,.int .i64 c.n]
section
variable {α:Type} [Inhabited α] (E:Enc α)
theorem y8j (ys:Array α):(flatK E.enc E.sz ys).toList=ys.toList.flatMap E.enc:=by
 refine l59 λt=>?_;have O:=E.pos;by_cases ht:t<ys.size*E.sz;have I:t / E.sz<ys.size:=Nat.div_lt_of_lt_mul (by rw[Nat.mul_comm];exact ht);have D:t % E.sz<E.sz:=Nat.mod_lt _ O;have e1:=get_flatK E.enc E.sz ys t ht;have e2:=E.flat_get ys.toList (t / E.sz) ys[t / E.sz] (by simp[I]) (t % E.sz) D;rw[show t / E.sz*E.sz+t % E.sz=t by rw[Nat.mul_comm];exact Nat.div_add_mod t E.sz]at e2;rw[e2,l42];rw[getElem!_pos (flatK E.enc E.sz ys) t (by simpa using ht),getElem!_pos ys (t / E.sz) I,getElem!_pos (E.enc ys[t / E.sz]) (t % E.sz) (by rw[E.len];exact D)]at e1;rw[l79 (by simpa using ht),e1,l10 (by rw[E.len];exact D)];rw[l30 so,l30 (by rw[E.flat_len];simp;omega)]
variable {E} {w:World} {g T cap base:Nat} {cur:Array Value}
theorem u1g {ys:List α}(h:w.heap[g]?=some (.cells cur T (0,0)))(Z:ys.length*E.sz<=cur.size)(O:cur.toList.take (ys.length*E.sz)=ys.flatMap E.enc):HoldsK E.enc E.sz w g 0 ys.toArray:=by
 intro j D;have I:j<ys.length*E.sz:=by simpa using D
 have e:=y8j E ys.toArray;rw[<-show cur.toList.take (ys.length*E.sz)=ys.toArray.toList.flatMap E.enc from O]at e;have e1:=congrArg (λl:List Value=>l[j]?) e;simp only[l42,l51,I,if_true]at e1;constructor;rw[l71,getElem!_pos _ j D];rw[l79 D]at e1;simp only[World.cell?,h];exact e1.symm;simp only[World.frozen?,h];simp
theorem u6c {ys:List α}(h:w.heap[g]?=some (.cells cur T (0,0)))(hs:ys.length*E.sz<=cur.size)(hb:base<=g)(hc:ys.length<=cap)(hM:cap<=maxLen)(Z:cap*E.sz<=cur.size)(d:Array α)(I:d.size=ys.length)(n:Nat)(O:Array Obj) :
    Lw.Own E T base (sortWorldK E.enc E.sz w g 0 n d O) (.slice (saa g) ys.length cap) d.toList/\Fr [g] w (sortWorldK E.enc E.sz w g 0 n d O):=by
  have hg:g<w.heap.size:=(l15.1 h).1
  have D:∀k,k<w.heap.size->(sortWorldK E.enc E.sz w g 0 n d O).heap[k]?=(w.heap.modify g<|onCells<|putCells id 0<|flatK E.enc E.sz d)[k]?:=λk hk=>by
    show ((w.heap.modify g _)++O)[k]?=_
    rw[Array.getElem?_append_left (by simpa using hk)]
  refine⟨.inr ⟨g,cap,putCells id 0 (flatK E.enc E.sz d) cur,by rw[show d.toList.length=ys.length by simpa using I],hb,?_,by simpa[I] using hc,hM,by simpa[putCells] using Z,?_⟩,rfl,rfl,rfl,?_,λk hk hn=>?_⟩
  · rw[D g hg,Array.getElem?_modify,if_pos U,h];rfl
  · rw[<-y8j E d]
    refine l59 λt=>?_
    have a0:d.toList.length=ys.length:=by simpa using I
    rw[l51,a0]
    by_cases ht:t<ys.length*E.sz
    · rw[if_pos ht,l42,l42]
      unfold putCells
      rw[Array.getElem?_mapIdx,l79 (show t<cur.size by omega),l79 (show t<(flatK E.enc E.sz d).size by simpa[I] using ht)]
      simp only[l58,l17,l71,true_and,Nat.sub_zero,id]
      rw[if_pos (by simpa[I] using ht),getElem!_pos _ t (by simpa[I] using ht)]
    · rw[if_neg ht,l30 (by simp[I];omega)]
  · show w.heap.size<=((w.heap.modify g _)++O).size
    simp
  · rw[D k hk,Array.getElem?_modify,if_neg (λe=>hn (by simp[e]))]
open Go.Shelf in
theorem v1k {P:Program}{ρ:Ren}(L:SlLaysF0.n6 P ρ){f cl:Nat}(hf:ρ.f 6=f)(aE:∀w,(isAgg<|ρ.t 24).run P w=.ok true w)(zE:∀w,(Go.sizeOf<|ρ.t 24).run P w=.ok E.sz w)(cf:α->α->Int)(hO:SWO (ltOf cf))
    (eg:∀D w,(callFunc cl D).run P w=.ok (.enter cl D) w)
    (hcmp:∀x y W,Calls P cl #[.agg (E.enc x).toArray,.agg (E.enc y).toArray] W λe w'=>e=.returned (.int .i64<|cf x y)/\DG W w')
    (hnil:∀W,Calls P f #[.slice none 0 0,.func (.func cl) #[] #[]] W λe w'=>e=.returned (.tuple #[])/\Fr [] W w')
    {v:Value} {ys:List α} (ho:Lw.Own E T base w v ys) (hl:ys.length<4611686018427387904):Rets P f #[v,.func (.func cl) #[] #[]] w λr w'=>r=.tuple #[]/\∃ys',ys'.Perm ys/\ys'.Pairwise (λa b=>¬cf b a<0)/\Lw.Own E T base w' v ys'/\Fr (z0u v) w w':=by
  subst hf
  rcases ho with ⟨rfl,rfl⟩|⟨g,cap,cur,rfl,h2,O,h4,h5,h6,h7⟩
  · exact Calls.mono (hnil w) (by rintro e w' ⟨rfl,h⟩;exact⟨_,rfl,rfl,[],.refl _,.nil,Lw.Own.nil _,h.weak sp0⟩)
  · have hs:ys.length*E.sz<=cur.size:=l37 (l48 _ h4) h6
    have h:=AnyQ.slices_SortFunc L E.sz aE zE E.enc E.len E.one cf hO cl #[] g 0 cap ys.toArray w eg (λm os dk _ x y=>hcmp x y _) (u1g O hs h7) (l15.1 O).1 (by simpa using hl)
    rw[show ys.toArray.size=ys.length by simp]at h
    refine Calls.mono h ?_
    rintro e w' ⟨rfl,I,n,os,hp,a3,rfl⟩
    have Z:I.size=ys.length:=by simpa using hp.1
    obtain⟨k1,k2⟩:=u6c (base:=base) O hs h2 h4 h5 h6 I Z n os
    refine⟨_,rfl,rfl,I.toList,?_,?_,k1,by simpa[z0u] using k2⟩
    · have:=hp.2.2
      simp[Z]at this
      rwa [l82 (by simpa using Nat.le_of_eq Z)]at this
    · rw[l78]
      intro i j hi hj a1
      have a0:i<I.size:=by simpa using hi
      have a2:j<I.size:=by simpa using hj
      have:=a3 i j (l17 _) a1 oo
      rw[getElem!_pos I i a0,getElem!_pos I j a2]at this
      simpa[ltOf] using this
end
theorem y1m {x y:Cx}:x2b x y<0↔(x.a.y<y.a.y\/x.a.y=y.a.y/\x.a.n<y.a.n)\/(x.a.y=y.a.y/\x.a.n=y.a.n)/\(x.b.y<y.b.y\/x.b.y=y.b.y/\x.b.n<y.b.n):=by
 unfold x2b;have e:z6m x.a y.a=0↔x.a.y=y.a.y/\x.a.n=y.a.n:=by rw[y7c];obtain⟨⟨_,_⟩,_,_⟩:=x;obtain⟨⟨_,_⟩,_,_⟩:=y;simp
 split;rename_i h;rw[z7t];rw[Ne,e]at h;omega;rename_i h;rw[Decidable.not_not,e]at h;rw[z7t];omega
theorem swoI:SWO (ltOf z6m):=by
 constructor;intro x;simp only[ltOf,decide_eq_false_iff_not,z7t];omega;intro x y z;simp only[ltOf,decide_eq_true_eq,z7t];omega;intro x y z;simp only[ltOf,decide_eq_false_iff_not,z7t];omega
theorem swoX:SWO (ltOf x2b):=by
 constructor;intro x;simp only[ltOf,decide_eq_false_iff_not,y1m];omega;intro x y z;simp only[ltOf,decide_eq_true_eq,y1m];omega;intro x y z;simp only[ltOf,decide_eq_false_iff_not,y1m];omega
def y2g (l:List LId):List LId:=l.mergeSort λa b=>decide (¬z6m b a<0)
def y4c (l:List Cx):List Cx:=l.mergeSort λa b=>decide (¬x2b b a<0)
theorem z4a (l:List LId):(y2g l).Perm l:=List.mergeSort_perm ..
theorem z3q (l:List Cx):(y4c l).Perm l:=List.mergeSort_perm ..
theorem x0n (l:List LId):(y2g l).Pairwise λa b=>¬z6m b a<0:=
 (List.pairwise_mergeSort (le:=λa b=>decide (¬z6m b a<0)) (λa b c=>by simp only[decide_eq_true_eq,z7t];omega) (λa b=>by simp only[Bool.or_eq_true,decide_eq_true_eq,z7t];omega) l).imp sp0
theorem y4t (l:List Cx):(y4c l).Pairwise λa b=>¬x2b b a<0:=
 (List.pairwise_mergeSort (le:=λa b=>decide (¬x2b b a<0)) (λa b c=>by simp only[decide_eq_true_eq,y1m];omega) (λa b=>by simp only[Bool.or_eq_true,decide_eq_true_eq,y1m];omega) l).imp sp0
theorem v4e {l l':List LId}(hp:l'.Perm l)(O:l'.Pairwise λa b=>¬z6m b a<0):l'=y2g l:=by
 refine List.Perm.eq_of_pairwise (λa b _ _ D I=>?_) O (x0n l)<|hp.trans (z4a l).symm;rw[z7t]at D I;obtain⟨_,_⟩:=a;obtain⟨_,_⟩:=b;simp only at D I;rw[LId.mk.injEq];omega
theorem x6g {l l':List Cx}(hn:(l.map λc=>(c.a,c.b)).Nodup)(hp:l'.Perm l)(hs:l'.Pairwise λa b=>¬x2b b a<0):l'=y4c l:=by
 refine List.Perm.eq_of_pairwise (λa b ha hb Z h2=>?_) hs (y4t l)<|hp.trans (z3q l).symm;have I:=hp.mem_iff.1 ha;have O:=(z3q l).mem_iff.1 hb;have hk:(a.a,a.b)=(b.a,b.b):=by
  rw[y1m]at Z h2;obtain⟨⟨_,_⟩,⟨_,_⟩,_⟩:=a;obtain⟨⟨_,_⟩,⟨_,_⟩,_⟩:=b;simp only at Z h2;simp only[l102,LId.mk.injEq];omega
 have D:=l78.1<|List.pairwise_map.1 hn;obtain⟨i,hi,rfl⟩:=l29 I;obtain⟨j,hj,rfl⟩:=l29 O;rcases Nat.lt_trichotomy i j with h|h|h
 exact absurd hk<|D i j hi hj h;subst h;rfl;exact absurd hk.symm<|D j i hj hi h
end Go.G08
namespace Go.Lw
section
variable {P:Program} {ops:Array Oper} {Q:Exit->Act->World->Prop} {rest:List Oper} {n:Nat} {ds:List Nat} {L:List (Nat×Value)} {w:World} {d:Nat} {x:Operand} {t K E g ty:Nat} {pos:String} {after:Array Edge} {κ:Type} [DecidableEq κ] {V:κ->Value} {m:List (κ×Value)}
theorem k2w (hx:ev L x=some (.map<|some g))(Z:MapL V w g m)(hu:P.underlying t=some (.map K E))(hn:lbt d n)(q:WL P ops Q rest n ds w ((d,.int .i64 (m.length:Int))::L)):WL P ops Q (⟨some d,.call ⟨.builtin .len,#[x],#[t]⟩,ty,pos,after,none⟩::rest) n ds w L:=λa h=>by
 obtain⟨D,c,I,O,_⟩:=Z
 have hl:D.size=m.length:=by have:=congrArg List.length O;simpa using this
 refine z1z h U hn (w':=w) (v:=.int .i64 (m.length:Int)) ?_ q
 rw[z2p];unfold builtin
 simp[h.eval hx,Builtin.len_,run_underlying hu,z2x I,hl]
 rfl
theorem MapIt.no {gi:Nat}{rem:List (κ×Value)}{cur:Option (κ×Value)}(h:MapIt V w gi g m rem cur):MapIt V w gi g m rem none:=by
 obtain⟨I,c,D,Z,k2,k3,k4,k5,k6,_⟩:=h;exact⟨I,c,D,Z,k2,k3,k4,k5,k6,λp O=>by cases O⟩
end
end Go.Lw
namespace Go.G08
open Go.Lw Go.G21
theorem j1e (a b:List Cx):crM (a++b)=crM a++crM b:=by unfold crM;rw[l33]
theorem v5o {l:List Cx}{r1 r2:List ((LId×LId)×Value)}{p:(LId×LId)×Value}(h:crM l=r1++p::r2):∃D c I,l=D++c::I/\r1=crM D/\p=((c.a,c.b),.int .i64 c.n)/\r2=crM I:=by
 unfold crM at h;obtain⟨D,l',rfl,e1,e2⟩:=List.map_eq_append_iff.1 h;obtain⟨c,I,rfl,O,Z⟩:=List.map_eq_cons_iff.1 e2;exact⟨D,c,I,rfl,e1.symm,O.symm,Z.symm⟩
section
variable {P:Program} {ops:Array Oper} {Q:Exit->Act->World->Prop} {rest:List Oper} {n:Nat} {ds:List Nat} {L:List (Nat×Value)} {w:World} {d:Nat} {x:Operand} {t g gi ty:Nat} {pos:String} {after:Array Edge} {em:List ((LId×LId)×Value)} {rem:List Cx}
def CrIt (w:World)(gi g:Nat)(em:List ((LId×LId)×Value))(rem:List Cx)(cur:Option Cx):Prop:=MapIt crK w gi g em (crM rem)<|cur.map λc=>((c.a,c.b),.int .i64 c.n)
theorem CrIt.fr {w':World}{S:List Nat}{cur:Option Cx}(h:CrIt w gi g em rem cur)(hf:Fr S w w')(hn:∀k∈S,k≠g/\k≠gi):CrIt w' gi g em rem cur:=MapIt.fr h hf (λe=>(hn g e).1 U)<|λe=>(hn gi e).2 U
theorem CrIt.ext {w':World}{cur:Option Cx}(h:CrIt w gi g em rem cur)(hf:Fr [] w w'):CrIt w' gi g em rem cur:=h.fr hf sp0
theorem CrIt.no {cur:Option Cx}(h:CrIt w gi g em rem cur):CrIt w gi g em rem none:=MapIt.no h
theorem CrIt.lt {cur:Option Cx}(h:CrIt w gi g em rem cur):gi<w.heap.size:=MapIt.lt h
theorem CrIt.neO {α:Type}{E:Enc α}{T base:Nat}{v:Value}{ys:List α}{cur:Option Cx}(h:CrIt w gi g em rem cur)(ho:Lw.Own E T base w v ys):∀k∈z0u v,k≠g/\k≠gi:=λk I=>by
 obtain⟨es,c,Z,k1,_,_,_,k5,_⟩:=h
 rcases ho with ⟨rfl,_⟩|⟨g',cap,O,rfl,_,D,_⟩
 ·simp[z0u]at I
 simp only[z0u,l11]at I
 subst I
 exact⟨λe=>(by rw[e,k1]at D;cases D),λe=>(by rw[e,k5]at D;cases D)⟩
theorem u3q {K E:Nat}{l:List Cx}(O:ev L x=some (.map<|some g))(D:MapL crK w g (crM l))(I:P.underlying t=some (.map K E))(hn:lbt d n)
 (q:∀gi w',gi=w.heap.size->CrIt w' gi g (crM l) l none->Fr [] w w'->w'.heap.size=gi+1->WL P ops Q rest n ds w' ((d,pta gi)::L)):WL P ops Q (⟨some d,.range t x,ty,pos,after,none⟩::rest) n ds w L:=u5k O D I hn q
theorem j3t {cur:Option Cx}(hx:ev L x=some (pta gi))(hi:CrIt w gi g em rem cur)(hn:lbt d n)
    (qt:∀D c I,rem=D++c::I->∀w',CrIt w' gi g em (D++I) (some c)->Fr [gi] w w'->w'.heap.size=w.heap.size->WL P ops Q rest n ds w' ((d,.tuple #[.bool true,crK (c.a,c.b),.int .i64 c.n])::L))
    (qf:rem=[]->WL P ops Q rest n ds w ((d,.tuple #[.bool false])::L)):WL P ops Q (⟨some d,.next x false,ty,pos,after,none⟩::rest) n ds w L:=
  j6g hx hi hn (λr1 p r2 O w' Z hf hz=>by
    obtain⟨D,c,I,rfl,rfl,rfl,rfl⟩:=v5o O
    exact qt D c I U w' (by unfold CrIt;rw[j1e];exact Z) hf hz) (λO=>qf<|List.map_eq_nil_iff.1 O)
theorem u6j {c:Cx}(D:ev L x=some (pta gi))(hi:CrIt w gi g em rem (some c))(hn:lbt d n)
 (q:WL P ops Q rest n ds w ((d,.tuple #[.agg #[.int .u8 c.a.y,.int .i64 c.a.n,.int .u8 c.b.y,.int .i64 c.b.n],.int .i64 c.n])::L)):WL P ops Q (⟨some d,.entry x,ty,pos,after,none⟩::rest) n ds w L:=u2k (p:=((c.a,c.b),.int .i64 c.n)) D hi hn q
end
section
variable {τ:TyK} {Mt:Nat} {wS w w':World} {a:MA} {m:MQ} {j:Nat} {u:SV}
theorem MkM.tabh (h:MkM τ Mt wS a w m)(D:MtOk τ Mt)(hj:j<6)(h1:Lw.Own z7k τ.L wS.heap.size w (slv u) (m.ts.getD j tq0).2)(O:∀i,i<6->∀b∈z0u (slv (m.ts.getD i tq0).1),b∉z0u (slv u))
    (h2:Lw.Own z4w τ.T wS.heap.size w' a.TV (m.ts.set j (u,(m.ts.getD j tq0).2))) (f2:Fr [a.gt] w w'):MkM τ Mt wS a w' { m with ts:=m.ts.set j (u,(m.ts.getD j tq0).2) }:=by
  have hl:j<m.ts.length:=by rw[h.lt];exact hj
  have I:∀T,T≠τ.T->OffT w T [a.gt]:=λT hT=>z7c h.t.out<|l50 hT
  refine⟨y4f h.k f2<|I _ D.t,BdO.tf h.b f2 (I _<|l50 D.o.ts)<|I _<|l50 D.o.ti,h.y.tf f2 (I _ D.o.yt)<|I _<|l50 D.o.tp,⟨h2,λi hi=>?_,λi k hi hk a2=>?_,λi hi q hq=>?_⟩,h.c.tf f2<|I _ D.t,z2a h.f f2<|I _<|l50 D.o.ti,h.fb,λi hi p Z=>?_,h.ly,by rw[l19];exact h.lt,h.gk,h.gc,h.fr.step f2 (y8d h.t.out t43) λk hk a3=>?_⟩
  · simp only[l19]at hi
    rw[z1k hl]
    split
    · exact z2a h1 f2<|I _<|l50 D.o.tl
    · exact z2a (h.t.ins i hi) f2<|I _<|l50 D.o.tl
  · simp only[l19]at hi hk
    rw[z1k hl,z1k hl]
    split
    · rw[if_neg oo];exact λb hb a1=>O k (by rw[<-h.lt];exact hk) b a1 hb
    · split
      · exact O i (by rw[<-h.lt];exact hi)
      · exact h.t.off i k hi hk a2
  · simp only[l19]at hi
    rw[z1k hl]at hq
    have a0:q∈(m.ts.getD i tq0).2:=by split at hq;(rename_i e;subst e;exact hq);exact hq
    exact⟨z2a (h.t.lps i hi q a0).1 f2<|I _<|l50 D.o.ti,z2a (h.t.lps i hi q a0).2 f2<|I _<|l50 D.o.tp⟩
  · simp only at Z
    rw[z1k hl]at Z
    split at Z
    · rename_i e;subst e;first|exact h.ft _ hi p Z|exact h.ft _ hj p Z
    · exact h.ft i hi p Z
  · have:=(h.t.out.blk k hk).1;omega
theorem MkM.fallS {l:List LId}(h:MkM τ Mt wS a w m)(Z:MtOk τ Mt)(D:τ.I≠τ.P)(h1:Lw.Own z1g τ.I wS.heap.size w' (slv m.fa) l)(O:Fr (z0u<|slv m.fa) w w'):MkM τ Mt wS a w' { m with fl:=l }:=by
 have I:=y4f h.k O<|z7c h.f<|l50 Z.i;exact MkM.fall (u:=m.fa) h Z D h1 O (λk I=>.inl I) I<|(l12 [] w').weak sp0
def stM (p:MSt):St:=⟨p.rk,p.B,p.ys,⟨p.tb,y4c p.cr,(z2l p.B p.rk).map Hd.id,y2g p.fa⟩⟩
structure MkW (τ:TyK) (base:Nat) (a:MA) (w:World) (m:MQ):Prop where
  b:BdO τ.S τ.I base w m.q
  y:YsO τ base w a.YV m.ys
  t:TbO τ base w a.TV m.ts
theorem MkM.toW (h:MkM τ Mt wS a w m):MkW τ wS.heap.size a w m:=⟨h.b,h.y,h.t⟩
theorem MkW.ext {base:Nat}(h:MkW τ base a w m)(hf:Fr [] w w'):MkW τ base a w' m:=⟨h.b.ext hf,h.y.ext hf,h.t.ext hf⟩
theorem MkW.off {base g T:Nat}{cs:List Value}(h:MkW τ base a w m)(D:Blk w g T cs)(hT:T≠τ.S/\T≠τ.I/\T≠τ.Y/\T≠τ.P/\T≠τ.T/\T≠τ.L)(hf:Fr [g] w w'):MkW τ base a w' m:=by
 obtain⟨Z,I,h3,O,h5,h6⟩:=hT;exact⟨BdO.tf h.b hf (OffT.one D Z)<|OffT.one D I,h.y.tf hf (OffT.one D h3)<|OffT.one D O,h.t.tf hf (OffT.one D h5) (OffT.one D h6) (OffT.one D I)<|OffT.one D O⟩
def SepH (s:StQ):Prop:=∀k∈z0u (slv s.fb.h),(∀q∈s.q.fs++s.q.bs,k∉z0u (slv q.1))/\(∀t∈s.fb.ts,∀l∈t.2,k∉z0u (slv l.th))/\k∉z0u (slv s.fb.f)
structure StO (τ:TyK) (Tc base:Nat) (w:World) (s:StQ):Prop where
  b:BdO τ.S τ.I base w s.q
  y:YsO τ base w (slv s.yv) s.ys
  t:TbO τ base w (slv s.fb.t) s.fb.ts
  c:Lw.Own z5s Tc base w (slv s.fb.c) s.fb.cs
  h:Lw.Own z1g τ.I base w (slv s.fb.h) s.fb.hs
  f:Lw.Own z1g τ.I base w (slv s.fb.f) s.fb.fs
  sp:SepH s
theorem StO.ext {D base:Nat}{s:StQ}(h:StO τ D base w s)(hf:Fr [] w w'):StO τ D base w' s:=⟨h.b.ext hf,h.y.ext hf,h.t.ext hf,h.c.ext hf,h.h.ext hf,h.f.ext hf,h.sp⟩
theorem StO.off {O base g T:Nat}{cs:List Value}{s:StQ}(h:StO τ O base w s)(D:Blk w g T cs)(hT:T≠τ.S/\T≠τ.I/\T≠τ.Y/\T≠τ.P/\T≠τ.T/\T≠τ.L/\T≠O)(hf:Fr [g] w w'):StO τ O base w' s:=by
 obtain⟨h1,I,h3,Z,h5,h6,h7⟩:=hT;exact⟨BdO.tf h.b hf (OffT.one D h1)<|OffT.one D I,h.y.tf hf (OffT.one D h3)<|OffT.one D Z,h.t.tf hf (OffT.one D h5) (OffT.one D h6) (OffT.one D I)<|OffT.one D Z,z2a h.c hf<|OffT.one D h7,z2a h.h hf<|OffT.one D I,z2a h.f hf<|OffT.one D I,h.sp⟩
theorem StO.low {I base b':Nat}{s:StQ}(h:StO τ I base w s)(hb:b'<=base):StO τ I b' w s:=
 ⟨⟨⟨h.b.f.1.low hb,λq D=>(h.b.f.2 q D).low hb⟩,⟨h.b.b.1.low hb,λq D=>(h.b.b.2 q D).low hb⟩⟩,⟨h.y.out.low hb,λi hi=>(h.y.ins i hi).low hb⟩,⟨h.t.out.low hb,λi hi=>(h.t.ins i hi).low hb,h.t.off,λi hi q D=>⟨(h.t.lps i hi q D).1.low hb,(h.t.lps i hi q D).2.low hb⟩⟩,h.c.low hb,h.h.low hb,h.f.low hb,h.sp⟩
theorem StO.at {I base:Nat}{s:StQ}(h:StO τ I base w s):StAt w s:=by
 refine⟨h.b.at,h.y.out.sl,λi=>?_,⟨h.t.out.sl,λp O=>?_,h.c.sl,h.h.sl,h.f.sl⟩⟩;by_cases hi:i<s.ys.length;exact(h.y.ins i hi).sl;rw[List.getD,l30 oo];exact Sl.nil w;obtain⟨i,hi,rfl⟩:=l29 O;have e:s.fb.ts.getD i tq0=s.fb.ts[i]:=by rw[List.getD,l10 hi];rfl
 rw[<-e];exact⟨(h.t.ins i hi).sl,λq D=>⟨(h.t.lps i hi q D).1.sl,(h.t.lps i hi q D).2.sl⟩⟩
end
end Go.G08
namespace Go.G08
open Go.Lw Go.G21
structure PlaceV (T:Tb) (H F:List LId):Prop where
  has:∀i∈H++F,z5e T i
  asc:∀i,0<i->i<F.length->z6m (F.getD (i-1) id0) (F.getD i id0)<0
  once:∀y,y<6->∀n,n<z3e T y->(H++F++y0p T).count ⟨(y:Int)+1,(n:Int)⟩=1
  le:∀i,(H++F++y0p T).count i<=1
structure PlaceW (T:Tb) (H F:List LId):Prop where
  has:∀i∈H++F,z5e T i
  asc:∀i,0<i->i<F.length->z6m (F.getD (i-1) id0) (F.getD i id0)<0
  le:∀i,(H++F++y0p T).count i<=1
theorem PlaceV.w {T:Tb}{H F:List LId}(h:PlaceV T H F):PlaceW T H F:=⟨h.has,h.asc,h.le⟩
open Classical in
noncomputable def u3t (T:Tb)(H F:List LId):Int:=if ∃y,y<6/\∃n,n<z3e T y/\(H++F++y0p T).count ⟨(y:Int)+1,(n:Int)⟩≠1 then 6 else 0
theorem u0u {T:Tb}{H F:List LId}(h:∀y,y<6->∀n,n<z3e T y->(H++F++y0p T).count ⟨(y:Int)+1,(n:Int)⟩=1):u3t T H F=0:=if_neg λ⟨y,hy,n,hn,e⟩=>e<|h y hy n hn
theorem j1c {T:Tb}{H F:List LId}{y n:Nat}(D:y<6)(hn:n<z3e T y)(h:(H++F++y0p T).count ⟨(y:Int)+1,(n:Int)⟩≠1):u3t T H F=6:=if_pos ⟨y,D,n,hn,h⟩
structure CrsV (T:Tb) (l:List Cx):Prop where
  has:∀i,i<l.length->z5e T (l.getD i cx0).a/\z5e T (l.getD i cx0).b/\z6m (l.getD i cx0).a (l.getD i cx0).b<0/\(-1048576<=(l.getD i cx0).n/\(l.getD i cx0).n<=1048576)/\(l.getD i cx0).n≠0
  asc:∀i,0<i->i<l.length->x2b (l.getD (i-1) cx0) (l.getD i cx0)<0
theorem u3v {a b:LId}(h:¬z6m b a<0)(D:a≠b):z6m a b<0:=by
 have I:=mt y7c.1 D;rw[z7t]at h ⊢;have O:¬(a.y=b.y/\a.n=b.n):=by
  rintro⟨e1,e2⟩;obtain⟨_,_⟩:=a;obtain⟨_,_⟩:=b;simp only at e1 e2;subst e1;subst e2;exact D U
 omega
theorem u6i {a b:Cx}(h:¬x2b b a<0)(D:(a.a,a.b)≠(b.a,b.b)):x2b a b<0:=by
 rw[y1m]at h ⊢;have I:¬((a.a.y=b.a.y/\a.a.n=b.a.n)/\(a.b.y=b.b.y/\a.b.n=b.b.n)):=by
  obtain⟨⟨_,_⟩,⟨_,_⟩,_⟩:=a;obtain⟨⟨_,_⟩,⟨_,_⟩,_⟩:=b;rintro⟨⟨e1,e2⟩,e3,e4⟩;simp only at e1 e2 e3 e4;subst e1;subst e2;subst e3;subst e4;exact D U
 omega
theorem x2h {α:Type}{R:α->α->Prop}{l:List α}(d:α)(h:l.Pairwise R){i:Nat}(D:0<i)(hi:i<l.length):R (l.getD (i-1) d) (l.getD i d):=by
 have:=l78.1 h (i-1) i oo hi oo;rwa [List.getD,l10 oo,List.getD,l10 hi]
theorem u6w {l:List LId}(hn:l.Nodup):(y2g l).Pairwise λa b=>z6m a b<0:=by
 have D:(y2g l).Pairwise (·≠·):=(z4a l).nodup_iff.2 hn;exact((x0n l).and D).imp λh=>u3v h.1 h.2
theorem u5c {l:List Cx}(hn:(l.map λc=>(c.a,c.b)).Nodup):(y4c l).Pairwise λa b=>x2b a b<0:=by
 have D:((y4c l).map λc=>(c.a,c.b)).Nodup:=((z3q l).map _).nodup_iff.2 hn;exact((y4t l).and<|List.pairwise_map.1 D).imp λh=>u6i h.1 h.2
theorem MVal.le {p:MSt}(h:MVal p)(i:LId):(p.B.flat++p.fa++y0p p.tb).count i<=1:=by
 by_cases k:z5e p.tb i;exact Nat.le_of_eq<|h.once i k;obtain⟨rk,D⟩:=h.tab;rw[l69.2];omega;intro hi;rcases l23.1 hi with z|z
 rcases l23.1 z with z|z
 exact k<|h.inv.has i z;exact k<|h.fa i z;exact k<|v1l D z
theorem MVal.nodupF {p:MSt}(h:MVal p):p.fa.Nodup:=l81.2 λi=>by
 have:=h.le i
 rw[l21,l21]at this
 omega
theorem MVal.tabV {p:MSt}(h:MVal p):TabV p.tb:=by
 obtain⟨rk,D⟩:=h.tab;refine⟨⟨h.inv.lt,h.inv.all,D.rts,rk,D.rkd⟩,λi=>?_⟩;have:=h.le i;rw[l21]at this;omega
theorem MVal.cntHF {p:MSt}(i:LId):(((z2l p.B p.rk).map Hd.id)++y2g p.fa++y0p p.tb).count i=(p.B.flat++p.fa++y0p p.tb).count i:=by
 simp only[l21];rw[(y5b p.B p.rk).count_eq,(z4a p.fa).count_eq]
theorem MVal.place {p:MSt}(h:MVal p):PlaceV p.tb ((z2l p.B p.rk).map Hd.id) (y2g p.fa):=by
 refine⟨λi hi=>?_,λi D hi=>x2h id0 (u6w h.nodupF) D hi,λy O n I=>?_,λi=>?_⟩;rcases l23.1 hi with k|k
 exact h.inv.has i<|(y5b p.B p.rk).mem_iff.1 k;exact h.fa i<|(z4a p.fa).mem_iff.1 k;rw[MVal.cntHF];exact h.once _<|y0l (by rw[h.inv.lt];exact O) I;rw[MVal.cntHF];exact h.le i
theorem MVal.crs {p:MSt}(h:MVal p):CrsV p.tb (y4c p.cr):=
 ⟨λi hi=>h.cr.has _<|(z3q p.cr).mem_iff.1<|z0z hi,λi D hi=>x2h cx0 (u5c h.cr.nd) D hi⟩
end Go.G08
namespace Go.Proofs.YtlfdhllfmoplgaaGreatDoor
open Go.Lw Go.G21 Go.G08 _root_.Go.Proofs.Tryz
theorem u6d:z3y prog 147 5:=⟨λ_=>kr,λ_=>kr⟩
theorem u7w:ElemOf prog 29 147 z5s 40:=ElemOf.mk' (z:=(.agg #[.int .u8 0,.int .i64 0,.int .u8 0,.int .i64 0,.int .i64 0])) underlying29 kr U
theorem y5m:z1d prog 147 0 0:=λ_ _=>kr
theorem y5n:z1d prog 147 1 2:=λ_ _=>kr
theorem x0k:z1d prog 147 2 4:=λ_ _=>kr
theorem k1f:z1r prog 147 5:=λ_=>kr
theorem u2s (w:World):(zeroValue 147).run prog w=.ok (.agg #[(.int .u8 0),(.int .i64 0),(.int .u8 0),(.int .i64 0),(.int .i64 0)]) w:=kr
theorem u3a (x y:Cx):orZ [z6m x.a y.a,z6m x.b y.b]=x2b x y:=by
 unfold orZ orZ orZ x2b
 repeat' split
 all_goals first|rfl|omega
theorem u1z (x y:Cx)(w0:World):Rets prog 99 #[cvv x,cvv y] w0 λr w'=>r=.int .i64 (x2b x y)/\Fr [] w0 w':=by
 refine we [(0,cvv x),(1,cvv y)] func99 U ntmps99 U (.c2 U U)<|sr<|bx U<|λg2 w1 a3 O q1 z1=>(bx U<|λg3 w2 a4 Z q2 z2=>(asg U<|nn<|sq ?_));intro a h;refine z0h none (λwb w'=>Fr [] wb w') z2r ?_;intro w3 q3;have O:=O.ext<|q2.n1 q3;have Z:=Z.ext q3;have hC:Fr [] w3 w3:=l12 _ _;have D:=O;have I:=Z;refine z0c 0 h U y5m U λa h=>z1h (vs:=[_,_]) 1 h U (λ_ hw=>(D.ext hw)) z2z U U λa h=>z0c 2 h U y5m U λa h=>z1h (vs:=[_,_]) 3 h U (λ_ hw=>(I.ext hw)) z2z U U λa h=>z0c 5 h U y5n U λa h=>z1h (vs:=[_,_]) 6 h U (λ_ hw=>(D.ext hw)) z2z U U λa h=>z0c 7 h U y5n U λa h=>z1h (vs:=[_,_]) 8 h U (λ_ hw=>(I.ext hw)) z2z U U λa h=>z0d 4 U<|z0n h (z0a U<|z0a U z0f) j8o (y2k x.a y.a _) ?_;rintro _ w4 ⟨rfl,q4⟩ a h;have hC:=hC.next q4;refine z0b<|z0d 9 U<|z0n h (z0a U<|z0a U z0f) j8o (y2k x.b y.b _) ?_;rintro _ w5 ⟨rfl,q5⟩ a h;have O:=O.ext<|q4.n1 q5;have Z:=Z.ext<|q4.n1 q5;have hC:=hC.next q5;refine z0b<|z0d 10 U<|z2b ([z6m x.a y.a,z6m x.b y.b]) h (z0a U<|z0a U z0f) U y0j λa1 w6 hg a2 q6 hz a h=>?_;have a0:g2<a1:=by have:=O.lt;omega
 have a0:g3<a1:=by have:=Z.lt;omega
 have hC:=hC.next q6;refine z0b<|z0d 11 U<|z0n h (z0a U z0f) (mkC func137) (j8w _ [z6m x.a y.a,z6m x.b y.b] _ a2.sl sp0) ?_;rintro _ w7 ⟨rfl,q7⟩ a h;have hC:=hC.next q7;refine z0b<|z0d 12 U<|z0q h U λa h=>?_;refine z0b<|z0p ?_;clear hC D I;refine bk (h.sub (L':=ll1 4)<|csu U)<|tn<|rt<|r1 results99 U ?_;exact⟨_,rfl,congrArg (Value.int .i64)<|u3a x y,(q1.n6 q2 q3 q4 q5 q6 q7)⟩
theorem v3z (q:FbQ)(w0:World)(Z:FbAt w0 q)(h6:q.ts.length=6)(hv:CrsV (z2n q.ts) q.cs):Rets prog 114 #[fvv q] w0 λr w'=>r=.int .i64 0/\Fr [] w0 w':=by
 have c9:=Z.len;have b9:=y1h q.ts;have hM:=Z.c.len_le;unfold maxLen at hM;refine we [(0,fvv q)] func114 U ntmps114 U (.cons U .nil) ?_;have a5:=Z;refine sr<|bx U<|λg1 w1 b7 O q1 z1=>(asg U<|nn<|sq<|sr<|fad U v0n<|z0j U O U k3p<|lnS U underlying29<|mv U U<|nn<|bl<|lpK (ι:=Nat) (ll3 1 6 7) (λi=>[(8,.int .i64 (i:Int))]) (λi w'=>Fr [] w1 w'/\i<=q.cs.length) (λi=>q.cs.length-i) 0 (csu U) ⟨l12 _ _,l17 _⟩ ?_);rintro i w2 ⟨q2,hi⟩;have z2:=q2.size;refine kpC (ll4 1 6 7 8) (csu U)<|sr<|lt' U<|nn<|sq<|cd U (λc0=>?_)<|λc0=>?_;have a2:=hv.has i oo;have a8:=a2.1;have a9:=a2.2.1;have b3:=a8.1;have b4:=a8.2.1;have b5:=a9.1;have b6:=a9.2.1;have b0:=hv.asc i;refine sk<|tn<|sq<|bl<|sr<|mv U U ?_;have Z:=a5.ext<|q1.n1 q2;refine z1b (cx0) U Z.c U u7w z1j<|λb1 a6=>?_;refine z1q U (a6 _ Z.c) u6d<|al u2s U<|λg4 w3 b8 I q3 z3=>?_;refine asg U<|z0i (vs:=[_,_,_,_,_]) U I k1f (λw4 I q4 z4=>?_) (h1:=(by first|(simp[Value.oneCell',S];done)|exact z5s.one _));refine nn<|sq<|sq<|v4b (r:=34) (L':=ll6 1 3 4 6 7 8) ((((¬z5e (z2n q.ts) (q.cs.getD i cx0).a)\/(¬z5e (z2n q.ts) (q.cs.getD i cx0).b))\/(0<=(z6m (q.cs.getD i cx0).a (q.cs.getD i cx0).b)))) (csu U) ?_ ?_;refine fad U y4b ?_;have O:=(O.ext<|q2.n1 q3).fr q4;refine z0j U O U v1c<|fad U y5m<|z1v (vs:=[_,_]) U I z2z U ?_;have Z:=a5.ext<|q1.z3 q2 q3 q4;refine cl (ev2 U) (mkC func157) (x6d (q.cs.getD i cx0).a _ _ _ Z.t Z.tt oo oo) U ?_;rintro _ w5 ⟨rfl,q5⟩;have z5:=q5.size;refine nt' U<|mv U U<|gs 19 U (λhh=>absurd hh (by exact λe=>e a2.1))<|λg0=>(gY U<|fad U y4b<|gY U ?_);have O:=O.ext q5;refine z0j U O U v1c<|gY U<|fad U y5n<|gY U ?_;have I:=I.ext q5;refine z1v (vs:=[_,_]) U I z2z U<|gY U ?_;have Z:=a5.ext<|q1.z4 q2 q3 q4 q5;refine cl (ev2 U) (mkC func157) (x6d (q.cs.getD i cx0).b _ _ _ Z.t Z.tt oo oo) U ?_;rintro _ w6 ⟨rfl,q6⟩;have z6:=q6.size;refine gY U<|nt' U<|pkf U<|mv U U<|gs 27 U (λhh=>absurd hh (by exact λe=>e a2.2.1))<|λg1=>(gY U<|fad U y5m<|gY U ?_);have I:=I.ext q6;refine z1v (vs:=[_,_]) U I z2z U<|gY U<|fad U y5n<|gY U<|z1v (vs:=[_,_]) U I z2z U<|gY U<|cl (ev2 U) j8o (y2k (q.cs.getD i cx0).a (q.cs.getD i cx0).b _) U ?_;rintro _ w7 ⟨rfl,q7⟩;have z7:=q7.size;exact gY U<|ge' U<|pkf U<|y1y U (csu U)<|q5.n2 q6 q7;intro w8 q8;have z8:=q8.size;refine tn<|cd U (λc1=>?_)<|λc1=>?_;refine sr<|asg U<|kpL (ll1 2) (csu U)<|nn<|rt<|tr<|rb<|tr<|tr<|rb<|tr<|r1 results114 U ?_;exfalso;rcases c1 with (hh|hh)|hh
 exact hh a2.1;exact hh a2.2.1;omega;refine sk<|tn<|sq<|sq<|rbo (r:=47) (L':=ll6 1 3 4 6 7 8) (((((q.cs.getD i cx0).n < -1048576)\/(1048576<(q.cs.getD i cx0).n))\/((q.cs.getD i cx0).n=0))) (csu U) ?_ ?_;refine fad U x0k ?_;have I:=I.ext q8;refine z0j U I U na3<|lt' U<|mv U U<|gs 38 U (λhh=>absurd hh oo)<|λg2=>(gY U<|fad U x0k<|gY U<|z0j U I U na3<|gY U<|gt' U<|pkf U<|mv U U<|gs 43 U (λhh=>absurd hh oo)<|λg3=>?_);exact gY U<|fad U x0k<|gY U<|z0j U I U na3<|gY U<|eq' U<|pkf U<|rbe U<|csu U;refine tn<|cd U (λc2=>?_)<|λc2=>?_;refine sr<|asg U<|kpL (ll1 2) (csu U)<|nn<|rt<|tr<|rb<|tr<|tr<|rb<|tr<|r1 results114 U ?_;exfalso;omega;refine sk<|tn<|sq ?_;have Z:=a5.ext<|q1.z4 q2 q3 q4 q8;have O:=((O.ext<|q2.n1 q3).fr q4).ext q8;intro a h;refine z0h none (λwb w'=>Fr [] wb w') z2r ?_;intro w9 q9;have z9:=q9.size;have Z:=Z.ext q9;have O:=O.ext q9;have I:=I.ext<|q8.n1 q9;have hC:Fr [] w9 w9:=l12 _ _;have a4:=Z;have a0:=O;have a1:=I;refine z0e 0 h U λa h=>v3m 1 hC h wn U U λa h=>z0e 2 h U λa h=>gSp (D:=50) h U ?_ ?_;intro g4 h;refine z0c 3 h U v0n U ?_ (hG:=(wy U));intro a h;refine z0m 4 h U (λ_ hw=>a0.ext hw) U k3p U ?_ (hG:=(wy U));intro a h;refine z0e 5 h U ?_ (hG:=(wy U));intro a h;refine z2v 6 h U t13 U ?_ (hG:=(wy U));intro a h;refine z1e (p:=(i-1)) (cx0) 7 h U Z.c U u7w U ?_ (hG:=(wy U));intro b2 a7 a h;refine z2e 8 h (wy U) U (λ_ hw=>a7 _<|a4.c.ext hw) u6d U λa h=>z0x 9 h U (λ_ hw=>a1.ext hw) u6d U ?_ (hG:=(wy U));intro a h;refine z0d 10 U<|z4p h U U U U<|z0n h (z0a U<|z0a U z0f) (mkC func99) (u1z (q.cs.getD (i-1) cx0) (q.cs.getD i cx0) _) ?_;rintro _ d0 ⟨rfl,a3⟩ a h;have d1:=a3.size;have Z:=Z.ext a3;have O:=O.ext a3;have I:=I.ext a3;have hC:=hC.next a3;refine z0b<|u3l 11 hC h (wy U) U U U U λa h=>z0d 12 U<|z4q h U λa h=>?_;refine z0b<|z0p ?_;clear hC a4 a0 a1;refine bk (h.sub (L':=ll5 1 6 7 8 60)<|csu U)<|tn<|cd U (λc3=>?_)<|λc3=>?_;refine sr<|asg U<|nn<|rt<|rb<|tr<|tr<|rb<|tr<|r1 results114 U ?_;exfalso;first|omega|(have:=b0 oo oo;omega)
 exact sk<|bn'<|tn<|rg<|z0v U (wi6 oo)<|mv U U<|nl<|lpE (i+1) (csu U) ⟨(q2.z5 q3 q4 q8 q9 a3),oo⟩ oo;intro g4 h;refine z1n 3 h U U λa h=>z1n 4 h U U λa h=>z1n 5 h U U λa h=>z1n 6 h U U λa h=>z1n 7 h U U λa h=>z1n 8 h U U λa h=>z1n 9 h U U λa h=>z1n 10 h U U λa h=>z1n 11 h U U λa h=>z0d 12 U<|z2u h U λa h=>?_;refine z0b<|z0p ?_;clear hC a4 a0 a1;exact bk (h.sub (L':=ll5 1 6 7 8 60)<|csu U)<|tn<|cf U<|sk<|bn'<|tn<|rg<|z0v U (wi6 oo)<|mv U U<|nl<|lpE (i+1) (csu U) ⟨(q2.z4 q3 q4 q8 q9),oo⟩ oo;obtain rfl:i=q.cs.length:=by omega
 exact ex<|te<|te<|xh<|tn<|sr<|asg U<|nn<|rt<|r1 results114 U ⟨_,rfl,rfl,(q1.n1 q2)⟩
theorem v5b {a b:List LId}{k:Nat}(h:∀i,(a++b).count i<=1)(c:List LId)(D:∃d,a++b=c++d):c.count (b.getD k id0)<=100000:=by
 obtain⟨d,e⟩:=D;have:=h<|b.getD k id0;rw[e,l21]at this;omega
theorem v2m (q:FbQ)(w0:World)(Z:FbAt w0 q)(h6:q.ts.length=6)(hv:TabV (z2n q.ts))(hp:PlaceW (z2n q.ts) q.hs q.fs):Rets prog 115 #[fvv q] w0 λr w'=>r=.int .i64 (u3t (z2n q.ts) q.hs q.fs)/\Fr [] w0 w':=by
 have i2:=Z.len;have i0:=y1h q.ts;have hM:=Z.f.len_le;unfold maxLen at hM;refine we [(0,fvv q)] func115 U ntmps115 U (.cons U .nil) ?_;have O:=Z;refine sr<|bx U<|λg1 w1 h4 I q1 z1=>?_;refine asg U<|nn<|sq<|sr<|fad U z9f<|z0j U I U z6f<|fad U x3u<|z0j U I U z6f<|z1u (cs:=[_,_]) (ev2 U) k5j (z0g U<|z0g U z0r) U ?_;refine mv U U<|nn<|bl<|lpK (ι:=Nat) (ll2 1 22) (λz=>[(23,.int .i64 (z:Int))]) (λz w'=>Fr [] w1 w'/\z<=2) (λz=>2-z) 0 (csu U) ⟨l12 _ _,l17 _⟩ ?_;rintro z w2 ⟨q2,hz⟩;have z2:=q2.size;refine kpC (ll3 1 22 23) (csu U)<|sr<|lt' U<|nn<|sq<|cd U (λc0=>?_)<|λc0=>?_;have i1:=z2c<|u2y O z;have e0:=(u2y O z).len_le;unfold maxLen at e0;refine sk<|tn<|sq<|bl<|sr<|u8s U U underlying239 u9s z6f (k5m oo) U<|asg U<|nn<|sr<|mv U U<|lnS U underlying30<|mv U U<|nn<|bl<|lpK (ι:=Nat) (ll5 1 22 23 26 27) (λn=>[(28,.int .i64 (n:Int))]) (λn w'=>Fr [] w2 w'/\n<=(hfl q z).length) (λn=>(hfl q z).length-n) 0 (csu U) ⟨l12 _ _,l17 _⟩ ?_;rintro n w3 ⟨q3,hn⟩;have z3:=q3.size;refine kpC (ll6 1 22 23 26 27 28) (csu U)<|sr<|lt' U<|nn<|sq<|cd U (λc1=>?_)<|λc1=>?_;refine sk<|tn<|sq<|bl<|sr ?_;have Z:=O.ext<|q1.n2 q2 q3;refine z1b (id0) U (u2y Z z) U z4k z1j<|λf5 d3=>?_;refine z1q U (d3 _<|u2y Z z) z2z<|al z8q U<|λg6 w4 h5 d1 q4 z4=>?_;refine z0i (vs:=[_,_]) U d1 y0i (λw5 d1 q5 z5=>?_) (h1:=t69);refine nn<|sr<|fad U y4b ?_;have I:=(I.ext<|q2.n2 q3 q4).fr q5;refine z0j U I U v1c<|z0k U d1 z2z ?_;have Z:=O.ext<|q1.z4 q2 q3 q4 q5;refine cl (ev2 U) (mkC func157) (x6d ((hfl q z).getD n id0) _ _ _ Z.t Z.tt oo (by have h:=hp.has _<|k1q z<|z0z (d:=id0) (i:=n) oo;have:=h.1;have:=h.2.1;omega)) U ?_;rintro _ w6 ⟨rfl,q6⟩;have z6:=q6.size;refine nt' U<|nn<|cd U (λc2=>?_)<|λc2=>?_;exact sr<|asg U<|kpL (ll1 2) (csu U)<|nn<|rt<|rb<|tr<|tr<|rb<|rb<|tr<|tr<|rb<|tr<|r1 results115 U<|absurd (hp.has _<|k1q z<|z0z (d:=id0) (i:=n) oo) (by simpa using c2);exact sk<|bn'<|tn<|rg<|z0v U (wi6 oo)<|mv U U<|nl<|lpE (n+1) (csu U) ⟨(q3.z3 q4 q5 q6),oo⟩ oo;obtain rfl:n=(hfl q z).length:=by omega
 exact ex<|te<|te<|xh<|bn'<|tn<|rg<|z0v U (wi6 oo)<|mv U U<|nl<|lpE (z+1) (csu U) ⟨(q2.n1 q3),oo⟩ oo;obtain rfl:z=2:=by omega
 refine ex<|te<|te<|xh<|tn<|sq<|sr<|fad U x3u ?_;have I:=I.ext q2;refine z0j U I U z6f<|lnS U underlying30<|mv U U<|nn<|bl<|lpK (ι:=Nat) (ll3 1 40 41) (λi=>[(42,.int .i64 (i:Int))]) (λi w'=>Fr [] w2 w'/\i<=q.fs.length) (λi=>q.fs.length-i) 0 (csu U) ⟨l12 _ _,l17 _⟩ ?_;rintro i w7 ⟨q7,hi⟩;have z7:=q7.size;refine kpC (ll4 1 40 41 42) (csu U)<|sr<|lt' U<|nn<|sq<|cd U (λc3=>?_)<|λc3=>?_;have f1:=hp.asc i;refine sk<|tn<|sq<|bl<|sr<|mv U U ?_;have Z:=O.ext<|q1.n2 q2 q7;refine z1b (id0) U Z.f U z4k z1j<|λf6 d4=>?_;refine z1q U (d4 _ Z.f) z2z<|al z8q U<|λg8 w8 h7 a9 q8 z8=>?_;refine asg U<|z0i (vs:=[_,_]) U a9 y0i (λw9 a9 q9 z9=>?_) (h1:=t69);refine nn<|sq ?_;have Z:=O.ext<|q1.z4 q2 q7 q8 q9;have I:=(I.ext<|q7.n1 q8).fr q9;intro a h;refine z0h none (λwb w'=>Fr [] wb w') z2r ?_;intro e6 b2;have j4:=b2.size;have Z:=Z.ext b2;have I:=I.ext b2;have a9:=a9.ext b2;have hC:Fr [] e6 e6:=l12 _ _;have b6:=Z;have a8:=I;have b0:=a9;refine z0e 0 h U λa h=>v3m 1 hC h wn U U λa h=>z0e 2 h U λa h=>gSp (D:=49) h U ?_ ?_;intro g0 h;refine z0c 3 h U x3u U ?_ (hG:=(wy U));intro a h;refine z0m 4 h U (λ_ hw=>a8.ext hw) U z6f U ?_ (hG:=(wy U));intro a h;refine z0e 5 h U ?_ (hG:=(wy U));intro a h;refine z2v 6 h U t13 U ?_ (hG:=(wy U));intro a h;refine z1e (p:=(i-1)) (id0) 7 h U Z.f U z4k U ?_ (hG:=(wy U));intro f7 d5 a h;refine z2e 8 h (wy U) U (λ_ hw=>d5 _<|b6.f.ext hw) z2z U λa h=>z0x 9 h U (λ_ hw=>b0.ext hw) z2z U ?_ (hG:=(wy U));intro a h;refine z0d 10 U<|z4p h U U U U<|z0n h (z0a U<|z0a U z0f) j8o (y2k (q.fs.getD (i-1) id0) (q.fs.getD i id0) _) ?_;rintro _ i3 ⟨rfl,b3⟩ a h;have j5:=b3.size;have Z:=Z.ext b3;have I:=I.ext b3;have a9:=a9.ext b3;have hC:=hC.next b3;refine z0b<|u3l 11 hC h (wy U) U U U U λa h=>z0d 12 U<|z4q h U λa h=>?_;refine z0b<|z0p ?_;clear hC b6 a8 b0;refine bk (h.sub (L':=ll5 1 40 41 42 59)<|csu U)<|tn<|cd U (λc4=>?_)<|λc4=>?_;refine sr<|asg U<|nn<|rt<|rb<|tr<|tr<|rb<|tr<|r1 results115 U ?_;exfalso;first|omega|(have:=f1 oo oo;omega)
 exact sk<|bn'<|tn<|rg<|z0v U (wi6 oo)<|mv U U<|nl<|lpE (i+1) (csu U) ⟨(q7.z4 q8 q9 b2 b3),oo⟩ oo;intro g0 h;refine z1n 3 h U U λa h=>z1n 4 h U U λa h=>z1n 5 h U U λa h=>z1n 6 h U U λa h=>z1n 7 h U U λa h=>z1n 8 h U U λa h=>z1n 9 h U U λa h=>z1n 10 h U U λa h=>z1n 11 h U U λa h=>z0d 12 U<|z2u h U λa h=>?_;refine z0b<|z0p ?_;clear hC b6 a8 b0;exact bk (h.sub (L':=ll5 1 40 41 42 59)<|csu U)<|tn<|cf U<|sk<|bn'<|tn<|rg<|z0v U (wi6 oo)<|mv U U<|nl<|lpE (i+1) (csu U) ⟨(q7.z3 q8 q9 b2),oo⟩ oo;obtain rfl:i=q.fs.length:=by omega
 refine ex<|te<|te<|xh<|tn<|sr<|y8a idV (.int .i64 0) U<|λa6 i4 g5 hm a7 j6=>(al k4f U<|λg9 i5 h8 a0 a2 j7=>(z3g U a0 U k6j<|λi7 a0 a3 j8=>(nn<|sr<|z5b z0f (ev1 U)<|asg U<|nn<|sr<|mv U U<|fad U z9f ?_)));have I:=(I.ext<|q7.n2 a7 a2).fr a3;refine z0j U I U z6f ?_;have Z:=O.ext<|q1.z5 q2 q7 a7 a2 a3;have hm:=(hm.ext a2).fr a3 t49;refine clv (us:=[]) (ws:=[pta g9]) U (ev1 U) (mkC func158) (x7v g9 a6 [] _ _ w0 _ O.h oo Z.h a0 hm<|λk hk=>v5b (a:=[]) (b:=q.hs) (λi=>(by have:=hp.le i;simp only[l21,l46]at this ⊢;omega)) _ ⟨q.hs.drop k,sp0⟩) U t14 ?_;rintro g7 i8 ⟨hm,a4⟩;have j9:=a4.size;refine nn<|sr<|mv U U<|fad U x3u ?_;have I:=I.fr a4;refine z0j U I U z6f ?_;have Z:=O.ext<|q1.z6 q2 q7 a7 a2 a3 a4;have a0:=a0.fr a4;refine clv (us:=[]) (ws:=[pta g9]) U (ev1 U) (mkC func158) (x7v g9 a6 ([]++q.hs) _ _ w0 _ O.f oo Z.f a0 hm<|λk hk=>v5b (a:=q.hs) (b:=q.fs) (λi=>(by have:=hp.le i;simp only[l21]at this ⊢;omega)) _ ⟨q.fs.drop k,sp0⟩) U t14 ?_;rintro h0 f3 ⟨hm,a5⟩;have k0:=a5.size;refine nn<|sq<|sr<|fad U y4b ?_;have I:=I.fr a5;refine z0j U I U v1c<|lnS U underlying28<|mv U U<|nn<|bl<|lpK (ι:=Nat) (ll5 1 9 10 72 73) (λy=>[(74,.int .i64 (y:Int))]) (λy w'=>Fr [a6] f3 w'/\y<=q.ts.length/\MapZ idV w' a6 (.int .i64 0) (x0x<|(q.hs++q.fs)++(y1a (z2n q.ts) y 0))) (λy=>q.ts.length-y) 0 (csu U) ⟨l12 _ _,⟨l17 _,by rw[u0q,l27];exact hm⟩⟩ ?_;rintro y e7 ⟨a1,⟨hy,hm⟩⟩;have k1:=a1.size;refine kpC (ll6 1 9 10 72 73 74) (csu U)<|sr<|lt' U<|nn<|sq<|cd U (λc5=>?_)<|λc5=>?_;have f2:=z7d O.tt y;have d0:=(O.tt _<|z0z (d:=tq0) (i:=y) oo).1.len_le;unfold maxLen at d0;refine sk<|tn<|sq<|bl<|sr ?_;have Z:=O.ext<|((q1.z6 q2 q7 a7 a2 a3 a4).z1 a5).z1 a1;refine z1b (tq0) U Z.t U x1r z1j<|λf8 d6=>?_;refine z1c U (d6 _ Z.t) y2m<|asg U<|nn<|sr<|mv U U<|lnS U underlying123<|mv U U<|nn<|bl<|lpK (ι:=Nat) (ll8 1 9 10 72 73 74 78 79) (λn=>[(80,.int .i64 (n:Int))]) (λn w'=>Fr [a6] e7 w'/\n<=(q.ts.getD y tq0).2.length/\MapZ idV w' a6 (.int .i64 0) (x0x<|(q.hs++q.fs)++(y1a (z2n q.ts) y n))) (λn=>(q.ts.getD y tq0).2.length-n) 0 (csu U) ⟨l12 _ _,⟨l17 _,hm⟩⟩ ?_;rintro n i9 ⟨b4,⟨hn,hm⟩⟩;have k2:=b4.size;refine kpC (ll9 1 9 10 72 73 74 78 79 80) (csu U)<|sr<|lt' U<|nn<|sq<|cd U (λc6=>?_)<|λc6=>?_;have h9:=z2c (z9h O.tt (y:=y) (n:=n) oo oo).1;have f0:∀k,k<((q.ts.getD y tq0).2.getD n lq0).ths.length->(((q.hs++q.fs)++y1a (z2n q.ts) y n)++((q.ts.getD y tq0).2.getD n lq0).ths.take k).count (((q.ts.getD y tq0).2.getD n lq0).ths.getD k id0)<=100000:=λk hk=>by
  have e8:=x9g (k:=k) hv.thr (y:=y) (n:=n) oo oo hk;have e9:=hp.le<|((q.ts.getD y tq0).2.getD n lq0).ths.getD k id0;rw[l21]at e9;rw[l21,l21];rw[l21,l21,l93,if_pos sp0]at e8;omega
 refine sk<|tn<|sq<|bl<|sr ?_;have Z:=O.ext<|(((q1.z6 q2 q7 a7 a2 a3 a4).z1 a5).z1 a1).z1 b4;refine z1b (lq0) U (Z.tt _<|z0z (d:=tq0) (i:=y) oo).1 U y5t z1j<|λf9 d7=>?_;refine z1q U (d7 _ (Z.tt _<|z0z (d:=tq0) (i:=y) oo).1) x4o<|al x6k U<|λh3 j0 g4 b7 b8 k4=>?_;refine z0i (vs:=[_,_,_,_]) U b7 v2r (λj1 b7 b9 k5=>?_) (h1:=t69);refine nn<|rg<|mv U U<|fad U z7x<|z0j U b7 U z6f ?_;have Z:=O.ext<|(((q1.z6 q2 q7 a7 a2 a3 a4).z1 a5).z1 a1).z3 b4 b8 b9;have a0:=((((a0.fr a5).fr a1).fr b4).ext b8).fr b9;have hm:=(hm.ext b8).fr b9 t49;refine clv (us:=[]) (ws:=[pta g9]) U (ev1 U) (mkC func158) (x7v g9 a6 ((q.hs++q.fs)++y1a (z2n q.ts) y n) _ _ w0 _ (z9h O.tt (y:=y) (n:=n) oo oo).1 oo (z9h Z.tt (y:=y) (n:=n) oo oo).1 a0 hm<|λk hk=>f0 k hk) U t14 ?_;rintro h2 j2 ⟨hm,e5⟩;have k6:=e5.size;exact nl<|bn'<|tn<|rg<|z0v U (wi6 oo)<|mv U U<|nl<|lpE (n+1) (csu U) ⟨((l12 [a6] _).z4 b4 b8 b9 e5),⟨oo,by rw[y9a oo,<-l14];exact hm⟩⟩ oo;obtain rfl:n=(q.ts.getD y tq0).2.length:=by omega
 exact ex<|te<|te<|xh<|bn'<|tn<|rg<|z0v U (wi6 oo)<|mv U U<|nl<|lpE (y+1) (csu U) ⟨((l12 [a6] _).z2 a1 b4),⟨oo,by rw[y9e oo];exact hm⟩⟩ oo;obtain rfl:y=q.ts.length:=by omega
 rw[u2h (by rw[y1h];omega)]at hm;refine ex<|te<|te<|xh<|tn<|sq<|sr<|fad U y4b ?_;have I:=I.fr a1;refine z0j U I U v1c<|lnS U underlying28<|mv U U<|kpL (ll4 9 91 92 93) (csu U)<|nn<|bl<|lpK (ι:=Nat) (ll3 9 91 92) (λy=>[(93,.int .i64 (y:Int))]) (λy w'=>Fr [] e7 w'/\y<=q.ts.length/\∀y',y'<y->∀n,n<z3e (z2n q.ts) y'->(q.hs++q.fs++y0p (z2n q.ts)).count ⟨(y':Int)+1,(n:Int)⟩=1) (λy=>q.ts.length-y) 0 (csu U) ⟨l12 _ _,⟨l17 _,λk h=>absurd h oo⟩⟩ ?_;rintro y f4 ⟨b1,⟨hy,e4⟩⟩;have k7:=b1.size;refine kpC (ll4 9 91 92 93) (csu U)<|sr<|lt' U<|nn<|sq<|cd U (λc7=>?_)<|λc7=>?_;have f2:=z7d O.tt y;have d0:=(O.tt _<|z0z (d:=tq0) (i:=y) oo).1.len_le;unfold maxLen at d0;refine sk<|tn<|sq<|bl<|sr<|mv U U ?_;have Z:=O.ext<|(((q1.z6 q2 q7 a7 a2 a3 a4).z1 a5).z1 a1).n1 b1;refine z1b (tq0) U Z.t U x1r z1j<|λg3 d9=>?_;refine z1c U (d9 _ Z.t) y2m<|asg U<|asg U<|nn<|sr<|mv U U<|lnS U underlying123<|mv U U<|nn<|bl<|lpK (ι:=Nat) (ll6 9 15 91 92 93 99) (λn=>[(100,.int .i64 (n:Int))]) (λn w'=>Fr [] f4 w'/\n<=(q.ts.getD y tq0).2.length/\∀n',n'<n->(q.hs++q.fs++y0p (z2n q.ts)).count ⟨(y:Int)+1,(n':Int)⟩=1) (λn=>(q.ts.getD y tq0).2.length-n) 0 (csu U) ⟨l12 _ _,⟨l17 _,λk h=>absurd h oo⟩⟩ ?_;rintro n j3 ⟨b5,⟨hn,e3⟩⟩;have k8:=b5.size;refine kpC (ll7 9 15 91 92 93 99 100) (csu U)<|sr<|lt' U<|nn<|sq<|cd U (λc8=>?_)<|λc8=>?_;refine sk<|tn<|sq<|bl<|sr<|mv U U<|asg U<|nn<|sr ?_;have a0:=((a0.fr a5).fr a1).ext<|b1.n1 b5;refine z1x U a0 j9m<|mv U U<|z0v U (wi6 oo)<|z3v U (us underlying3) underlying5 (wi8 oo)<|mv U U<|z1u (cs:=[_,_]) (ev2 U) k5v (z0g U<|z0g U z0r) U ?_;have hm:=hm.ext<|b1.n1 b5;refine y5r (V:=idV) (z:=(.int .i64 0)) (k:=(⟨(y:Int)+1,(n:Int)⟩:LId)) (v:=.int .i64 (((((q.hs++q.fs)++y0p (z2n q.ts))).count (⟨(y:Int)+1,(n:Int)⟩:LId):Nat):Int)) U U hm z6u underlying240 zvI U U<|ne' U<|kpL (ll8 9 15 91 92 93 99 100 110) (csu U)<|nn<|cd U (λc9=>?_)<|λc9=>?_;exact sr<|asg U<|kpL (ll1 2) (csu U)<|nn<|rt<|rb<|tr<|tr<|rb<|rb<|tr<|tr<|rb<|tr<|r1 results115 U ⟨_,rfl,by rw[j1c (y:=y) (n:=n) oo (by rw[z3x];omega) oo],((((q1.z6 q2 q7 a7 a2 a3 a4).z1 a5).z1 a1).n2 b1 b5)⟩;refine sk<|bn'<|tn<|rg<|z0v U (wi6 oo)<|mv U U<|nl ?_;exact lpE (n+1) (csu U) ⟨b5,⟨oo,λk h=>by
  by_cases e:k=n;subst e;omega;exact e3 k oo⟩⟩ oo
 obtain rfl:n=(q.ts.getD y tq0).2.length:=by omega
 refine ex<|te<|te<|xh<|bn'<|tn<|rg<|z0v U (wi6 oo)<|mv U U<|nl ?_;exact lpE (y+1) (csu U) ⟨(b1.n1 b5),⟨oo,λk h=>by
  by_cases e:k=y;subst e;exact λn h=>e3 n (by rw[z3x]at h;omega);exact e4 k oo⟩⟩ oo
 obtain rfl:y=q.ts.length:=by omega
 exact ex<|te<|te<|xh<|tn<|sr<|asg U<|nn<|rt<|r1 results115 U ⟨_,rfl,by rw[u0u λy hy n hn=>e4 y oo n hn],((((q1.z6 q2 q7 a7 a2 a3 a4).z1 a5).z1 a1).n1 b1)⟩
theorem u5x (q:FbQ)(w0:World)(I:FbAt w0 q)(h6:q.ts.length=6)(hv:TabV (z2n q.ts))(hc:CrsV (z2n q.ts) q.cs)(hp:PlaceW (z2n q.ts) q.hs q.fs):Rets prog 52 #[fvv q] w0 λr w'=>r=.int .i64 (u3t (z2n q.ts) q.hs q.fs)/\Fr [] w0 w':=by
 refine we [(0,fvv q)] func52 U ntmps52 U (.cons U .nil) ?_;have O:=I;refine sr<|bx U<|λg1 w1 a0 D q1 z1=>(asg U<|nn<|sq<|sr<|fad U y4b<|z0j U D U v1c ?_);have I:=O.ext q1;refine cl (ev1 U) (mkC func113) (u9z _ _ _ I.t I.tt h6 hv) U ?_;rintro _ w2 ⟨rfl,Z⟩;have z2:=Z.size;refine asg U<|nn<|sr<|mv U U<|ne' U<|nn<|cd U (λc0=>?_)<|λc0=>?_;exact sr<|mv U U<|asg U<|nn<|rt<|tr<|r1 results52 U<|absurd U t12;refine sk<|tn<|sq<|sr ?_;have D:=D.ext Z;refine z0k U D u8u ?_;have I:=O.ext<|q1.n1 Z;refine cl (ev1 U) (mkC func114) (v3z q _ I h6 hc) U ?_;rintro _ w3 ⟨rfl,q3⟩;have z3:=q3.size;refine asg U<|nn<|sr<|mv U U<|ne' U<|nn<|cd U (λc1=>?_)<|λc1=>?_;exact sr<|mv U U<|asg U<|nn<|rt<|tr<|r1 results52 U<|absurd U t12;refine sk<|tn<|sr ?_;have D:=D.ext q3;refine z0k U D u8u ?_;have I:=O.ext<|q1.n2 Z q3;refine cl (ev1 U) (mkC func115) (v2m q _ I h6 hv hp) U ?_;rintro _ w4 ⟨rfl,q4⟩;have z4:=q4.size;exact asg U<|nn<|rt<|r1 results52 U ⟨_,rfl,rfl,(q1.n3 Z q3 q4)⟩
theorem u4a (q:FbQ)(w0:World)(I:FbAt w0 q)(D:q.ts.length=6)(Z:TabV (z2n q.ts))(O:CrsV (z2n q.ts) q.cs)(hp:PlaceV (z2n q.ts) q.hs q.fs):Rets prog 52 #[fvv q] w0 λr w'=>r=.int .i64 0/\Fr [] w0 w':=by
 have x:=u5x q w0 I D Z O hp.w;rw[u0u hp.once]at x;exact x
theorem v8c (v:Value)(l:List Pa)(w0:World)(I:Sl z2i w0 v l)(hl:l.length<=100000):Rets prog 126 #[v] w0 λr w'=>∃g,r=.slice (saa g) l.length l.length/\w0.heap.size<=g/\Lw.Own z2i 107 w0.heap.size w' r l/\Fr [] w0 w':=by
 obtain⟨A,c,rfl,a0,hM,hA⟩:=id I;clear hA;unfold maxLen at hM;refine we [(0,.slice A l.length c)] func126 U ntmps126 U (.cons U .nil) ?_;have O:=I;refine sr<|asg U<|nn<|sr<|mv U U<|lnS U underlying102<|z1f (m:=l.length) (c:=l.length) (pa0) U z4v x1c U<|λg6 w1 a1 D Z z1=>(asg U<|nn<|sr<|mv U U<|mv U U ?_);have I:=O.ext Z;refine z9d (zs:=List.replicate l.length pa0) t34 U (by rw[l22];exact D) I t35 z4v<|λw2 D q2 z2=>?_;rw[l22]at D;exact nn<|sr<|mv U U<|asg U<|nn<|rt<|r1 results126 U ⟨_,rfl,g6,rfl,oo,D.low oo,(Z.z1 q2)⟩
theorem v8h (v:Value)(l:List LpQ)(w0:World)(I:Sl z7k w0 v l)(hl:l.length<=100000):Rets prog 77 #[v] w0 λr w'=>∃g,r=.slice (saa g) l.length l.length/\w0.heap.size<=g/\Lw.Own z7k 155 w0.heap.size w' r l/\Fr [] w0 w':=by
 obtain⟨A,c,rfl,a0,hM,hA⟩:=id I;clear hA;unfold maxLen at hM;refine we [(0,.slice A l.length c)] func77 U ntmps77 U (.cons U .nil) ?_;have O:=I;refine sr<|asg U<|nn<|sr<|mv U U<|lnS U underlying123<|z1f (m:=l.length) (c:=l.length) (lq0) U y5t x6k U<|λg6 w1 a1 D Z z1=>(asg U<|nn<|sr<|mv U U<|mv U U ?_);have I:=O.ext Z;refine z9d (zs:=List.replicate l.length lq0) t34 U (by rw[l22];exact D) I t35 y5t<|λw2 D q2 z2=>?_;rw[l22]at D;exact nn<|sr<|mv U U<|asg U<|nn<|rt<|r1 results77 U ⟨_,rfl,g6,rfl,oo,D.low oo,(Z.z1 q2)⟩
theorem v7d (v:Value)(l:List Cx)(w0:World)(I:Sl z5s w0 v l)(hl:l.length<=100000000):Rets prog 79 #[v] w0 λr w'=>∃g,r=.slice (saa g) l.length l.length/\w0.heap.size<=g/\Lw.Own z5s 147 w0.heap.size w' r l/\Fr [] w0 w':=by
 obtain⟨A,c,rfl,a0,hM,hA⟩:=id I;clear hA;unfold maxLen at hM;refine we [(0,.slice A l.length c)] func79 U ntmps79 U (.cons U .nil) ?_;have O:=I;refine sr<|asg U<|nn<|sr<|mv U U<|lnS U underlying29<|z1f (m:=l.length) (c:=l.length) (cx0) U u7w u2s U<|λg6 w1 a1 D Z z1=>(asg U<|nn<|sr<|mv U U<|mv U U ?_);have I:=O.ext Z;refine z9d (zs:=List.replicate l.length cx0) t34 U (by rw[l22];exact D) I t35 u7w<|λw2 D q2 z2=>?_;rw[l22]at D;exact nn<|sr<|mv U U<|asg U<|nn<|rt<|r1 results79 U ⟨_,rfl,g6,rfl,oo,D.low oo,(Z.z1 q2)⟩
theorem j0n (v:Value)(l:List YQ)(w0:World)(I:Sl z3l w0 v l)(hl:l.length<=100000):Rets prog 125 #[v] w0 λr w'=>∃g,r=.slice (saa g) l.length l.length/\w0.heap.size<=g/\Lw.Own z3l 104 w0.heap.size w' r l/\Fr [] w0 w':=by
 obtain⟨A,c,rfl,a0,hM,hA⟩:=id I;clear hA;unfold maxLen at hM;refine we [(0,.slice A l.length c)] func125 U ntmps125 U (.cons U .nil) ?_;have O:=I;refine sr<|asg U<|nn<|sr<|mv U U<|lnS U underlying26<|z1f (m:=l.length) (c:=l.length) (yq0) U y5d z6g U<|λg6 w1 a1 D Z z1=>(asg U<|nn<|sr<|mv U U<|mv U U ?_);have I:=O.ext Z;refine z9d (zs:=List.replicate l.length yq0) t34 U (by rw[l22];exact D) I t35 y5d<|λw2 D q2 z2=>?_;rw[l22]at D;exact nn<|sr<|mv U U<|asg U<|nn<|rt<|r1 results125 U ⟨_,rfl,g6,rfl,oo,D.low oo,(Z.z1 q2)⟩
theorem j1h {I qs:List IQ}{n:Nat}(hn:n<=qs.length)(D:(plB qs).take n=trimB (plB qs))(hl:I.length=n)(h:∀j,j<n->(I.getD j iq0).2=(qs.getD j iq0).2):plB I=trimB (plB qs):=by
 rw[<-D];refine l73 (by simp[hl,hn]) λj O h2=>?_;have Z:j<n:=by simpa[hl] using O
 have:=h j Z;rw[List.getD,List.getD,l10 oo,l10 oo]at this;simpa[plB] using this
theorem y5x (v:Value)(qs:List IQ)(w0:World)(hs:Sl z6q w0 v qs)(hk:IqAt w0 qs)(hl:qs.length<=40)(h4:z9j qs):Rets prog 62 #[v] w0 λr w'=>(∃fs,RwO 30 64 w0.heap.size w' r fs/\plB fs=trimB (plB qs)/\∃g,r=.slice (saa g) fs.length fs.length)/\Fr [] w0 w':=by
 obtain⟨A,c,rfl,b3,hM,hA⟩:=id hs;clear hA;unfold maxLen at hM;refine we [(0,.slice A qs.length c)] func62 U ntmps62 U (.cons U .nil) ?_;have a7:=hs;have a5:=hk;refine sr<|asg U<|nn<|sr<|mv U U<|lnS U underlying23<|asg U<|nn<|sq<|bl<|lpK (ι:=Nat) (ll1 0) (λn=>[(3,.int .i64 (n:Int))]) (λn w'=>Fr [] w0 w'/\n<=qs.length/\∀j,n<=j->(qs.getD j iq0).2=[]) (λn=>n) qs.length (csu U) ⟨l12 _ _,⟨l20 _,λj hj=>v1g hj⟩⟩ ?_;rintro n w1 ⟨q1,⟨hn,a4⟩⟩;have z1:=q1.size;refine kpC (ll2 0 3) (csu U) ?_;have a6:=z2c<|z1y a5<|n-1;refine sq<|sq<|rbo (r:=18) (L':=ll2 0 3) (((0<(n:Int))/\(((qs.getD (n-1) iq0).1.2.1:Int)=0))) (csu U) ?_ ?_;refine mv U U<|gt' U<|mv U U<|gs 10 U (λg0=>?_)<|λg0=>?_;refine gY U<|mv U U<|gY U<|mv U U<|gY U<|z2j U (wi6 oo)<|gY U ?_;have hs:=a7.ext q1;refine z1b (p:=n-1) (iq0) U hs U y3e oo<|λa9 a2=>?_;exact gY U<|z1c U (a2 _ hs) z6f<|gY U<|lnS U underlying30<|gY U<|eq' U<|pkt U<|rbe U<|csu U;exact gN U<|gN U<|gN U<|gN U<|gN U<|gN U<|gN U<|pkf U<|rbe U<|csu U;refine tn<|cd U (λc0=>?_)<|λc0=>?_;refine sk<|tn<|bl<|rg<|mv U U<|z2j U (wi6 oo)<|asg U<|nl<|bn' ?_;exact lpE (n-1) (.c2 U<|congrArg (λz=>some<|Value.int .i64 z) (show (n:Int)-1=((n-1:Nat):Int) by omega)) ⟨q1,⟨oo,λj hj=>by
  by_cases e:n<=j;exact a4 j e;obtain rfl:j=n-1:=by omega
  exact l118 oo⟩⟩ oo
 have a8:=y3g (plB qs) n (by rw[l18];exact hn) (λj hj=>by rw[z4b];exact a4 j hj) (by
  by_cases e:n=0;exact .inl e;refine .inr λh=>c0 ⟨oo,?_⟩;rw[z4b]at h;rw[h]at a6;rw[a6];rfl)
 refine ex<|te<|te<|xh<|tn<|sr<|mv U U<|z1f (m:=n) (c:=n) (iq0) U y3e k3h U<|λI w2 b1 Z q2 z2=>(asg U<|nn<|sq<|sr<|mv U U<|mv U U<|nn<|bl<|lpK (ι:=Nat×List IQ) (ll3 0 4 23) (λp=>[(24,.int .i64 (p.1:Int))]) (λp w'=>Fr [I] w2 w'/\p.1<=n/\p.2.length=n/\Lw.Own z6q 30 w0.heap.size w' (.slice (saa I) n n) p.2/\(∀j,j<p.1->(p.2.getD j iq0).2=(qs.getD j iq0).2)/\PreO 64 (I+1) w' p.2 p.1) (λp=>n-p.1) (0,List.replicate n iq0) (csu U) ⟨l12 _ _,⟨l17 _,sp0,Z.low oo,λj hj=>absurd hj sp0,PreO.zero⟩⟩ ?_);rintro⟨i,ps⟩ w3 ⟨q3,⟨hi,D,Z,a0,O⟩⟩;simp only at hi Z a0 O D;have z3:=q3.size;refine kpC [(0,_),(4,_),(23,_),(24,.int .i64 (i:Int))] (csu U)<|sr<|lt' U<|nn<|sq<|cd U (λc1=>?_)<|λc1=>?_;refine sk<|tn<|sq<|bl<|sr<|mv U U<|asg U<|nn<|rg<|mv U U<|mv U U<|mv U U<|mv U U ?_;have hs:=a7.ext<|q1.z2 q2 q3;refine z1b (iq0) U hs U y3e z1j<|λb0 a3=>?_;refine z1c U (a3 _ hs) z6f ?_;have hk:=a5.ext<|q1.z2 q2 q3;refine cl (ev1 U) x5c (z4f _ (qs.getD i iq0).2 _ (z1y hk i) (by have:=z3n h4 i;omega)) U ?_;rintro _ w4 ⟨a1,rfl,b2,hX,q4⟩;have z4:=q4.size;have Z:=Z.ext q4;refine z5p (p:=i) (E:=z6q) U y3e<|z3i (i:=i) ((((some ⟨a1,0,none⟩,(qs.getD i iq0).2.length,(qs.getD i iq0).2.length),(qs.getD i iq0).2):IQ)) U Z oo U u9s<|λw5 Z q5 z5=>(kpL (ll4 0 4 23 24) (csu U)<|nl<|bn'<|tn<|rg<|z0v U (wi6 oo)<|mv U U<|nl ?_);have O:=(O.ext q4).fr q5 t36;have hX:=hX.fr q5 t11;exact lpE ((i+1,ps.set i (((some ⟨a1,0,none⟩,(qs.getD i iq0).2.length,(qs.getD i iq0).2.length),(qs.getD i iq0).2):IQ))) (csu U) ⟨((l12 [I] _).z3 q3 q4 q5),⟨sm,by simp only[l19];exact D,Z,λj hj=>by
  simp only at hj ⊢;rw[z1k oo];split;rename_i e;subst e;rfl;exact a0 j oo,O.put oo (hX.low oo)⟩⟩ sm
 obtain rfl:i=n:=by omega
 exact ex<|te<|te<|xh<|tn<|sr<|mv U U<|asg U<|kpL (ll1 2) (csu U)<|nn<|rt<|r1 results62 U ⟨_,rfl,⟨ps,⟨D▸Z,(D.symm▸O).all oo⟩,j1h hn a8 D a0,I,by rw[D]⟩,(q1.z2 q2 q3)⟩
def PreY (base:Nat)(w:World)(ys:List YQ)(i:Nat):Prop:=∀j,j<i->Lw.Own z2i 107 base w (slv (ys.getD j yq0).pe) (ys.getD j yq0).pes
theorem PreY.ext {base i:Nat}{w w':World}{ys:List YQ}(h:PreY base w ys i)(hf:Fr [] w w'):PreY base w' ys i:=λj D=>(h j D).ext hf
theorem PreY.fr {base i:Nat}{w w':World}{ys:List YQ}{S:List Nat}(h:PreY base w ys i)(hf:Fr S w w')(I:∀k∈S,k<base):PreY base w' ys i:=λj D=>(h j D).fr hf λk Z O=>by
 have:=I k Z;have:=((h j D).blk k O).1;omega
theorem PreY.put {base i:Nat}{w:World}{ys:List YQ}{q:YQ}(h:PreY base w ys i)(hi:i<ys.length)(D:Lw.Own z2i 107 base w (slv q.pe) q.pes):PreY base w (ys.set i q) (i+1):=λj I=>by
 rw[z1k hi]
 split
 ·exact D
 exact h j oo
theorem y6a {α:Type}{l:List α}{i:Nat}(d:α)(h:i<l.length):l[i]?=some (l.getD i d):=by rw[List.getD,l10 h];rfl
theorem y4l {α β:Type}{f:α->β}{l:List α}{i:Nat}{x d:α}(h:f x=f (l.getD i d)):(l.set i x).map f=l.map f:=by
 rw[l124];apply l59;intro j;rw[l112];split;rename_i e;subst e;split;rename_i D;rw[l18]at D;rw[l24,l10 D,h,List.getD,l10 D];rfl;rename_i D;rw[l30 oo];rfl
theorem v4u {α:Type}{l m:List α}{i:Nat}{q d:α}(h:∀j,i<=j->l.getD j d=m.getD j d)(hi:i<l.length):∀j,i+1<=j->(l.set i q).getD j d=m.getD j d:=λj D=>by
 rw[z1k hi,if_neg oo];exact h j oo
theorem x0m (v:Value)(ys:List YQ)(w0:World)(hs:Sl z3l w0 v ys)(hp:YsA w0 ys)(hl:ys.length<=1000)(a4:∀i,(ys.getD i yq0).pes.length<=100000):Rets prog 63 #[v] w0 λr w'=>(∃g ps,r=.slice (saa g) ys.length ys.length/\w0.heap.size<=g/\YsO τd w0.heap.size w' r ps/\ps.length=ys.length/\ps.map YQ.p=ys.map YQ.p)/\Fr [] w0 w':=by
 obtain⟨A,c,rfl,a8,hM,hA⟩:=id hs;clear hA;unfold maxLen at hM;refine we [(0,.slice A ys.length c)] func63 U ntmps63 U (.cons U .nil) ?_;have b0:=hs;have a3:=hp;refine sr<|asg U<|nn<|sr<|mv U U<|cl (ev1 U) (mkC func125) (j0n _ ys _ hs oo) U ?_;rintro _ w1 ⟨g6,rfl,a9,I,q1⟩;have z1:=q1.size;have a7:=(I.blk g6 t10).2;refine asg U<|nn<|sq<|sr<|mv U U<|lnS U underlying26<|mv U U<|nn<|bl<|lpK (ι:=Nat×List YQ) (ll2 3 8) (λp=>[(9,.int .i64 (p.1:Int))]) (λp w'=>Fr [g6] w1 w'/\p.1<=ys.length/\Lw.Own z3l 104 w0.heap.size w' (.slice (saa g6) ys.length ys.length) p.2/\p.2.length=ys.length/\p.2.map YQ.p=ys.map YQ.p/\(∀j,p.1<=j->p.2.getD j yq0=ys.getD j yq0)/\PreY (g6+1) w' p.2 p.1) (λp=>ys.length-p.1) (0,ys) (csu U) ⟨l12 _ _,⟨l17 _,I.low oo,rfl,rfl,λ_ _=>rfl,λj hj=>absurd hj sp0⟩⟩ ?_;rintro⟨i,ps⟩ w2 ⟨q2,⟨hi,I,D,a0,O,Z⟩⟩;simp only at hi I D a0 O Z;have z2:=q2.size;refine kpC [(3,_),(8,_),(9,.int .i64 (i:Int))] (csu U)<|sr<|lt' U<|nn<|sq<|cd U (λc0=>?_)<|λc0=>?_;refine sk<|tn<|sq<|bl<|sr<|mv U U<|asg U<|nn<|rg<|mv U U<|mv U U<|mv U U<|mv U U<|z1b (yq0) U I.sl U y5d z1j<|λa5 a2=>?_;refine fad U z7u<|y1k U (a2 _ I.sl) U y0w U ?_;have hp:=a3.ext<|q1.z1 q2;refine cl (ev1 U) (mkC func126) (v8c _ (ys.getD i yq0).pes _ (by rw[O i (l20 _)];exact hp i)<|a4 i) U ?_;rintro _ w3 ⟨a1,rfl,a6,hX,q3⟩;have z3:=q3.size;have I:=I.ext q3;refine z5p (p:=i) (E:=z3l) U y5d<|y6p U z7u U<|u3g (E:=z3l) (i:=i) (f:=4) (ys.getD i yq0) ({ (ys.getD i yq0) with pe:=(some ⟨a1,0,none⟩,(ys.getD i yq0).pes.length,(ys.getD i yq0).pes.length) }:YQ) U U I (by rw[<-O i (l20 _)];exact y6a _ oo) dd U U U j3n<|λw4 I q4 z4=>?_;refine kpL (ll3 3 8 9) (csu U)<|nl<|bn'<|tn<|rg<|z0v U (wi6 oo)<|mv U U<|nl ?_;have Z:=(Z.ext q3).fr q4 t36;have hX:=hX.fr q4 t11;exact lpE ((i+1,ps.set i ({ (ys.getD i yq0) with pe:=(some ⟨a1,0,none⟩,(ys.getD i yq0).pes.length,(ys.getD i yq0).pes.length) }:YQ))) (csu U) ⟨((l12 [g6] _).z3 q2 q3 q4),⟨sm,I,by simp only[l19];exact D,(y4l (d:=yq0) (by rw[O i (l20 _)])).trans a0,v4u O oo,Z.put oo (hX.low oo)⟩⟩ sm;obtain rfl:i=ys.length:=by omega
 exact ex<|te<|te<|xh<|tn<|sr<|mv U U<|asg U<|nn<|rt<|r1 results63 U ⟨_,rfl,⟨g6,ps,rfl,oo,⟨D▸I,λj hj=>(Z j oo).low oo⟩,D,a0⟩,(q1.z1 q2)⟩
theorem k0w (w:World):(zeroValue 123).run prog w=.ok (.slice none 0 0) w:=kr
def PreT (base:Nat)(w:World)(us:List TQ)(i:Nat):Prop:=(∀j,j<i->Lw.Own z7k 155 base w (slv (us.getD j tq0).1) (us.getD j tq0).2)/\(∀j k,j<i->k<i->j≠k->∀b∈z0u (slv (us.getD j tq0).1),b∉z0u (slv (us.getD k tq0).1))/\∀j,j<i->∀q∈(us.getD j tq0).2,LpO τd base w q
theorem PreT.fr {base i:Nat}{w w':World}{us:List TQ}{S:List Nat}(h:PreT base w us i)(hf:Fr S w w')(Z:∀k∈S,k<base):PreT base w' us i:=by
 have o:∀ {α:Type} {E:Enc α} {T:Nat} {v:Value} {ys:List α},Lw.Own E T base w v ys->Lw.Own E T base w' v ys:=λI=>I.fr hf λk hk hb=>by have:=Z k hk;have:=(I.blk k hb).1;omega
 exact⟨λj D=>o<|h.1 j D,h.2.1,λj D q O=>⟨o (h.2.2 j D q O).1,o (h.2.2 j D q O).2⟩⟩
theorem PreT.put {base i:Nat}{w:World}{us:List TQ}{u:SV}{O:List LpQ}(h:PreT base w us i)(hi:i<us.length)(ho:Lw.Own z7k 155 base w (slv u) O)(hq:∀q∈O,LpO τd base w q)(hn:∀j,j<i->∀b∈z0u (slv (us.getD j tq0).1),b∉z0u (slv u)):PreT base w (us.set i (u,O)) (i+1):=by
 refine⟨λj Z=>?_,λj k Z hk I=>?_,λj Z=>?_⟩;rw[z1k hi];split;exact ho;exact h.1 j oo;rw[z1k hi,z1k hi];split;rw[if_neg oo];exact λb hb D=>hn k oo b D hb;split;exact hn j oo;exact h.2.1 j k oo oo I;rw[z1k hi];split;exact hq;exact h.2.2 j oo
def PreL (base:Nat)(w:World)(rs:List LpQ)(i:Nat):Prop:=∀j,j<i->LpO τd base w (rs.getD j lq0)
theorem PreL.fr {base i:Nat}{w w':World}{O:List LpQ}{S:List Nat}(h:PreL base w O i)(hf:Fr S w w')(Z:∀k∈S,k<base):PreL base w' O i:=λj I=>by
 have o:∀ {α:Type} {E:Enc α} {T:Nat} {v:Value} {ys:List α},Lw.Own E T base w v ys->Lw.Own E T base w' v ys:=λD=>D.fr hf λk hk hb=>by have:=Z k hk;have:=(D.blk k hb).1;omega
 exact⟨o (h j I).1,o (h j I).2⟩
theorem PreL.put {base i:Nat}{w:World}{D:List LpQ}{x y:LpQ}(h:PreL base w D i)(hi:i<D.length)(I:LpO τd base w y):PreL base w ((D.set i x).set i y) (i+1):=λj O=>by
 rw[List.set_set,z1k hi]
 split
 ·exact I
 exact h j oo
theorem k0v {base i:Nat}{w:World}{v:Value}{us:List TQ}{u:SV}{r r':List LpQ}(h:Lw.Own z4w 123 base w v (us.set i (u,r))):Lw.Own z4w 123 base w v (us.set i (u,r')):=by
 have e:∀x:List LpQ,(us.set i (u,x)).flatMap z4w.enc=(us.set i (u,r)).flatMap z4w.enc:=λx=>by
  rw[List.flatMap_def,List.flatMap_def,l124,l124];rfl
 rcases h with ⟨D,I⟩|⟨g,cap,cur,D,I,O,Z,h5,h6,h7⟩
 refine .inl ⟨D,?_⟩;have:=congrArg List.length I;simp only[l19,l64]at this;exact l105.1 (by rw[l19];exact this);refine .inr ⟨g,cap,cur,by rw[D];simp,I,O,by simpa using Z,h5,h6,?_⟩;rw[e r',<-h7];simp
theorem j0q {us ts:List TQ}{i:Nat}{x:TQ}(h:∀j,j<i->(us.getD j tq0).2.map LpQ.p=(ts.getD j tq0).2.map LpQ.p)(hi:i<us.length)(D:x.2.map LpQ.p=(ts.getD i tq0).2.map LpQ.p):∀j,j<i+1->((us.set i x).getD j tq0).2.map LpQ.p=(ts.getD j tq0).2.map LpQ.p:=λj I=>by
 rw[z1k hi]
 split
 ·rename_i e;subst e;exact D
 exact h j oo
theorem y6d {us ts:List TQ}(hl:us.length=ts.length)(h:∀j,j<ts.length->(us.getD j tq0).2.map LpQ.p=(ts.getD j tq0).2.map LpQ.p):z2n us=z2n ts:=by
 refine l73 (by simp[hl]) λj O I=>?_;have D:j<ts.length:=by simpa using I
 have:=h j D;rw[List.getD,List.getD,l10 oo,l10 D]at this;simpa using this
theorem PreT.tbo {b base:Nat}{w:World}{v:Value}{us:List TQ}(ho:Lw.Own z4w 123 b w v us)(h:PreT base w us us.length)(hb:b<=base):TbO τd b w v us:=
 ⟨ho,λi hi=>(h.1 i hi).low hb,λi j hi I D=>h.2.1 i j hi I D,λi hi q O=>(h.2.2 i hi q O).low hb⟩
theorem y7e (v:Value)(ts:List TQ)(w0:World)(hs:Sl z4w w0 v ts)(D:TabAt w0 ts)(hl:ts.length<=1000)(b9:∀p∈ts,p.2.length<=100000/\∀q∈p.2,q.ths.length<=100000/\q.pas.length<=100000):Rets prog 64 #[v] w0 λr w'=>(∃g us,r=.slice (saa g) ts.length ts.length/\w0.heap.size<=g/\TbO τd w0.heap.size w' r us/\us.length=ts.length/\z2n us=z2n ts)/\Fr [] w0 w':=by
 obtain⟨A,c,rfl,g6,hM,hA⟩:=id hs;clear hA;unfold maxLen at hM;refine we [(0,.slice A ts.length c)] func64 U ntmps64 U (.cons U .nil) ?_;have f4:=hs;have b3:=D;refine sr<|asg U<|nn<|sr<|mv U U<|lnS U underlying28<|z1f (m:=ts.length) (c:=ts.length) (tq0) U x1r k0w U<|λa3 w1 f9 Z q1 z1=>?_;have f1:=(Z.blk a3 t10).2;refine asg U<|nn<|sq<|sr<|mv U U<|lnS U underlying28<|mv U U<|nn<|bl<|lpK (ι:=Nat×List TQ) (ll3 3 11 12) (λp=>[(13,.int .i64 (p.1:Int))]) (λp w'=>Fr [a3] w1 w'/\p.1<=ts.length/\p.2.length=ts.length/\Lw.Own z4w 123 w0.heap.size w' (.slice (saa a3) ts.length ts.length) p.2/\(∀j,j<p.1->(p.2.getD j tq0).2.map LpQ.p=(ts.getD j tq0).2.map LpQ.p)/\PreT (a3+1) w' p.2 p.1) (λp=>ts.length-p.1) (0,List.replicate ts.length tq0) (csu U) ⟨l12 _ _,⟨l17 _,sp0,Z.low oo,λj hj=>absurd hj sp0,⟨λj hj=>absurd hj sp0,λj k hj=>absurd hj sp0,λj hj=>absurd hj sp0⟩⟩⟩ ?_;rintro⟨i,us⟩ w2 ⟨q2,⟨hi,a9,Z,d5,a8⟩⟩;simp only at hi a9 Z d5 a8;have z2:=q2.size;have e7:=a8;refine kpC [(3,_),(11,_),(12,_),(13,.int .i64 (i:Int))] (csu U) ?_;have e8:∀j,j<i->∀b∈z0u (slv (us.getD j tq0).1),b<w2.heap.size:=λj hj b hb=>((a8.1 j hj).blk b hb).2;refine sr<|lt' U<|nn<|sq<|cd U (λc0=>?_)<|λc0=>?_;have g4:=z2c (b3 _<|z0z (d:=tq0) (i:=i) oo).1;have g9:=(b9 _<|z0z (d:=tq0) (i:=i) oo).1;refine sk<|tn<|sq<|bl<|sr<|mv U U ?_;have hs:=f4.ext<|q1.z1 q2;refine z1b (tq0) U hs U x1r z1j<|λf5 e0=>?_;refine z1c U (e0 _ hs) y2m<|asg U<|asg U<|nn<|sr<|mv U U<|mv U U<|mv U U ?_;have D:=b3.ext<|q1.z1 q2;refine cl (ev1 U) (mkC func77) (v8h _ (ts.getD i tq0).2 _ (D _<|z0z (d:=tq0) (i:=i) oo).1 (b9 _<|z0z (d:=tq0) (i:=i) oo).1) U ?_;rintro _ w3 ⟨a0,rfl,g0,hR,q3⟩;have z3:=q3.size;have f2:=(hR.blk a0 t10).2;have Z:=Z.ext q3;refine z5p (p:=i) (E:=z4w) U x1r<|z3i (i:=i) (((((some ⟨a0,0,none⟩,(ts.getD i tq0).2.length,(ts.getD i tq0).2.length):SV),(ts.getD i tq0).2):TQ)) U Z oo U j4l<|λw4 Z q4 z4=>?_;obtain⟨b6,c9⟩:∃u,u=us.set i (((some ⟨a0,0,none⟩,(ts.getD i tq0).2.length,(ts.getD i tq0).2.length):SV),(ts.getD i tq0).2):=⟨_,rfl⟩;rw[<-c9]at Z;have d6:b6.getD i tq0=(((some ⟨a0,0,none⟩,(ts.getD i tq0).2.length,(ts.getD i tq0).2.length):SV),(ts.getD i tq0).2):=by rw[c9,z1k oo,if_pos U]
 have d0:(b6.getD i tq0).1.1=some ⟨a0,0,none⟩:=by rw[d6]
 have d1:(b6.getD i tq0).1.2.1=(ts.getD i tq0).2.length:=by rw[d6]
 have d3:(b6.getD i tq0).1.2.2=(ts.getD i tq0).2.length:=by rw[d6]
 have g5:b6.length=ts.length:=by rw[c9,l19];exact a9
 refine nn<|sr<|mv U U<|lnS U underlying123<|mv U U<|nn<|bl ?_;have hR:=hR.fr q4 t11;refine lpK (ι:=Nat×List LpQ) (ll7 3 4 11 12 13 23 24) (λp=>[(25,.int .i64 (p.1:Int))]) (λp w'=>Fr [a0] w4 w'/\p.1<=(ts.getD i tq0).2.length/\p.2.length=(ts.getD i tq0).2.length/\Lw.Own z7k 155 (a3+1) w' (.slice (saa a0) (ts.getD i tq0).2.length (ts.getD i tq0).2.length) p.2/\p.2.map LpQ.p=(ts.getD i tq0).2.map LpQ.p/\(∀j,p.1<=j->p.2.getD j lq0=(ts.getD i tq0).2.getD j lq0)/\PreL (a0+1) w' p.2 p.1) (λp=>(ts.getD i tq0).2.length-p.1) (0,(ts.getD i tq0).2) (csu U) ⟨l12 _ _,⟨l17 _,rfl,hR.low oo,rfl,λ_ _=>rfl,λj hj=>absurd hj sp0⟩⟩ ?_;rintro⟨O,rs⟩ w5 ⟨q5,⟨hj,b8,hR,d4,b7,b5⟩⟩;simp only at hj b8 hR d4 b7 b5;have z5:=q5.size;have e6:=b5;refine kpC [(3,_),(4,_),(11,_),(12,_),(13,_),(23,_),(24,_),(25,.int .i64 (O:Int))] (csu U)<|sr<|lt' U<|nn<|sq<|cd U (λc1=>?_)<|λc1=>?_;refine sk<|tn<|sq<|bl<|sr<|mv U U ?_;have D:=b3.ext<|q1.z4 q2 q3 q4 q5;refine z1b (lq0) U (D _<|z0z (d:=tq0) (i:=i) oo).1 U y5t z1j<|λf6 e3=>?_;refine z1q U (e3 _ (D _<|z0z (d:=tq0) (i:=i) oo).1) x4o<|al x6k U<|λg7 w6 g8 I q6 z6=>?_;refine asg U<|z0i (vs:=[_,_,_,_]) U I v2r (λw7 I q7 z7=>?_) (h1:=(by first|(simp[Value.oneCell',S];done)|exact z4w.one<|ts.getD i tq0));refine nn<|sq ?_;have D:=b3.ext<|q1.z6 q2 q3 q4 q5 q6 q7;have Z:=((Z.fr q5 t11).ext q6).fr q7 t11;have hR:=(hR.ext q6).fr q7 t11;intro a h;refine z0h (some 10) (λwb w'=>Fr [] wb w') z2r ?_;intro w8 q8;have z8:=q8.size;have D:=D.ext q8;have Z:=Z.ext q8;have hR:=hR.ext q8;have I:=I.ext q8;have hC:Fr [] w8 w8:=l12 _ _;have b4:=D;have a4:=Z;have b2:=hR;have a1:=I;refine z0e 0 h U λa h=>z0e 1 h U λa h=>z1e (p:=i) (tq0) 2 h U Z.sl U x1r U λf7 e4 a h=>z2g 3 h U (λ_ hw=>e4 _<|(a4.ext hw).sl) y2m U λa h=>?_;rw[d0,d1,d3]at h;refine z0e 4 h U λa h=>z0c 5 h U z7x U λa h=>z0m 6 h U (λ_ hw=>a1.ext hw) U z6f U λa h=>z0d 7 U<|z0n h (z0a U z0f) x5c (z4f _ ((ts.getD i tq0).2.getD O lq0).ths _ ((D _<|z0z (d:=tq0) (i:=i) oo).2 _<|z0z oo).1 ((b9 _<|z0z (d:=tq0) (i:=i) oo).2 _<|z0z oo).1) ?_;rintro _ w9 ⟨b0,rfl,g1,hX,q9⟩ a h;have z9:=q9.size;have D:=D.ext q9;have Z:=Z.ext q9;have hR:=hR.ext q9;have I:=I.ext q9;have hC:=hC.next q9;refine z0b<|z1l 8 kr kr kr hC (p:=O) h wn U y5t oo oo oo U U λa h=>z4y 9 h U z7x U λa h=>z0d 10 U<|y6r (E:=z7k) (i:=O) (f:=2) (((ts.getD i tq0).2.getD O lq0)) ({ ((ts.getD i tq0).2.getD O lq0) with th:=(some ⟨b0,0,none⟩,((ts.getD i tq0).2.getD O lq0).ths.length,((ts.getD i tq0).2.getD O lq0).ths.length) }:LpQ) h U U hR (by rw[<-b7 O (l20 _)];exact y6a _ oo) dd U U U u9s λh0 b1 a6 _hz a h=>?_;have h4:=a6.size;have Z:=Z.fr a6 t11;have I:=I.fr a6;have hX:=hX.fr a6 t11;have hR:=b1;clear b1;refine z1m<|z0p ?_;clear hC b4 a4 b2 a1;refine bk (h.sub (L':=ll10 3 4 6 7 11 12 13 23 24 25)<|csu U)<|tn ?_;have D:=b3.ext<|(((q1.z6 q2 q3 q4 q5 q6 q7).n1 q8).n1 q9).z1 a6;intro a h;refine z0h (some 10) (λwb w'=>Fr [] wb w') z2r ?_;intro e9 a5;have h5:=a5.size;have D:=D.ext a5;have Z:=Z.ext a5;have hR:=hR.ext a5;have I:=I.ext a5;have hX:=hX.ext a5;have hC:Fr [] e9 e9:=l12 _ _;have b4:=D;have a4:=Z;have b2:=hR;have a1:=I;have d9:=hX;refine z0e 0 h U λa h=>z0e 1 h U λa h=>z1e (p:=i) (tq0) 2 h U Z.sl U x1r U λf8 e5 a h=>z2g 3 h U (λ_ hw=>e5 _<|(a4.ext hw).sl) y2m U λa h=>?_;rw[d0,d1,d3]at h;refine z0e 4 h U λa h=>z0c 5 h U y0g U λa h=>z0m 6 h U (λ_ hw=>a1.ext hw) U y0w U λa h=>z0d 7 U<|z0n h (z0a U z0f) (mkC func126) (v8c _ ((ts.getD i tq0).2.getD O lq0).pas _ ((D _<|z0z (d:=tq0) (i:=i) oo).2 _<|z0z oo).2 ((b9 _<|z0z (d:=tq0) (i:=i) oo).2 _<|z0z oo).2) ?_;rintro _ h2 ⟨d7,rfl,g3,hY,a2⟩ a h;have h6:=a2.size;have D:=D.ext a2;have Z:=Z.ext a2;have hR:=hR.ext a2;have I:=I.ext a2;have hX:=hX.ext a2;have hC:=hC.next a2;refine z0b<|z1l 8 kr kr kr hC (p:=O) h wn U y5t oo oo oo U U λa h=>z4y 9 h U y0g U λa h=>z0d 10 U<|y6r (E:=z7k) (i:=O) (f:=3) (({ ((ts.getD i tq0).2.getD O lq0) with th:=(some ⟨b0,0,none⟩,((ts.getD i tq0).2.getD O lq0).ths.length,((ts.getD i tq0).2.getD O lq0).ths.length) }:LpQ)) ({ ((ts.getD i tq0).2.getD O lq0) with th:=(some ⟨b0,0,none⟩,((ts.getD i tq0).2.getD O lq0).ths.length,((ts.getD i tq0).2.getD O lq0).ths.length),pa:=(some ⟨d7,0,none⟩,((ts.getD i tq0).2.getD O lq0).pas.length,((ts.getD i tq0).2.getD O lq0).pas.length) }:LpQ) h U U hR (by rw[y6a lq0 t29,z1k oo,if_pos U]) dd U U U j3n λh3 b1 a7 _hz a h=>?_;have h7:=a7.size;have Z:=Z.fr a7 t11;have I:=I.fr a7;have hX:=hX.fr a7 t11;have hY:=hY.fr a7 t11;have hR:=b1;clear b1;refine z1m<|z0p ?_;clear hC b4 a4 b2 a1 d9;refine bk (h.sub (L':=ll8 3 4 11 12 13 23 24 25)<|csu U)<|bn'<|tn<|rg<|z0v U (wi6 oo)<|mv U U<|nl ?_;have b5:=e6.fr ((((l12 [a0] _).z6 q6 q7 q8 q9 a6 a5).n1 a2).z1 a7) t36;exact lpE ((O+1,(rs.set O ({ ((ts.getD i tq0).2.getD O lq0) with th:=(some ⟨b0,0,none⟩,((ts.getD i tq0).2.getD O lq0).ths.length,((ts.getD i tq0).2.getD O lq0).ths.length) }:LpQ)).set O ({ ((ts.getD i tq0).2.getD O lq0) with th:=(some ⟨b0,0,none⟩,((ts.getD i tq0).2.getD O lq0).ths.length,((ts.getD i tq0).2.getD O lq0).ths.length),pa:=(some ⟨d7,0,none⟩,((ts.getD i tq0).2.getD O lq0).pas.length,((ts.getD i tq0).2.getD O lq0).pas.length) }:LpQ))) (csu U) ⟨((((l12 [a0] _).z6 q5 q6 q7 q8 q9 a6).n1 a5).z2 a2 a7),⟨sm,by simp only[l19];exact b8,hR,by rw[List.set_set];exact(y4l (d:=lq0) (by rw[b7 O (l20 _)])).trans d4,λj f3=>by
  simp only at f3 ⊢;rw[List.set_set,z1k oo,if_neg oo];exact b7 j oo,b5.put oo ⟨hX.low oo,hY.low oo⟩⟩⟩ sm
 obtain rfl:O=(ts.getD i tq0).2.length:=by omega
 refine ex<|te<|te<|xh<|bn'<|tn<|rg<|z0v U (wi6 oo)<|mv U U<|kpL (ll4 3 11 12 13) (csu U)<|nl ?_;have a8:=e7.fr ((l12 [a3] _).z3 q3 q4 q5) t36;have Z:=Z.fr q5 t11;exact lpE ((i+1,us.set i (((some ⟨a0,0,none⟩,(ts.getD i tq0).2.length,(ts.getD i tq0).2.length):SV),rs))) (csu U) ⟨((l12 [a3] _).z4 q2 q3 q4 q5),⟨sm,by simp only[l19];exact a9,k0v (c9▸Z),j0q d5 oo d4,a8.put oo (by rw[show slv ((some ⟨a0,0,none⟩,(ts.getD i tq0).2.length,(ts.getD i tq0).2.length):SV)=(.slice (saa a0) rs.length rs.length) by rw[b8];rfl];exact(b8.symm▸hR).low oo) (λq hq=>by
  obtain⟨j,hj,rfl⟩:=l29 hq;have:=b5 j oo;rw[List.getD,l10 hj]at this;exact this.low oo) (λj hj b hb f0=>by have:=e8 j hj b hb;simp[z0u,slv]at f0;omega)⟩⟩ sm
 obtain rfl:i=ts.length:=by omega
 exact ex<|te<|te<|xh<|tn<|sr<|mv U U<|asg U<|kpL (ll1 2) (csu U)<|nn<|rt<|r1 results64 U ⟨_,rfl,⟨a3,us,rfl,oo,PreT.tbo Z (a9.symm▸a8) oo,a9,y6d a9 d5⟩,(q1.z1 q2)⟩
theorem v2j:BuildAt prog 145 [(0,1),(1,2),(3,1),(4,1),(5,1),(6,1)] [(.int .i64 0),(.slice none 0 0),(.slice none 0 0),(.slice none 0 0),(.slice none 0 0),(.map none),(.slice none 0 0)]:=BuildAt.struct underlying145 (λ_=>kr)<|λ_=>kr
theorem k2z:CallOf prog 62:=mkC func62
theorem j7j:CallOf prog 64:=mkC func64
theorem y2i:z1d prog 34 0 0:=λ_ _=>kr
theorem z7m:z1d prog 34 1 1:=λ_ _=>kr
theorem x3b:z1d prog 34 2 3:=λ_ _=>kr
theorem z6t:z1d prog 34 3 4:=λ_ _=>kr
structure StSz (s:StQ):Prop where
  bf:s.q.fs.length<=40
  bb:s.q.bs.length<=40
  f4:z9j s.q.fs
  b4:z9j s.q.bs
  ly:s.ys.length=6
  lt:s.fb.ts.length=6
  pe:∀i,(s.ys.getD i yq0).pes.length<=100000
  tb:∀p∈s.fb.ts,p.2.length<=100000/\∀q∈p.2,q.ths.length<=100000/\q.pas.length<=100000
  fl:s.fb.fs.length<=100000
  cs:s.fb.cs.length<=100000000
  hs:s.fb.hs.length<=100000
theorem y3m {τ:TyK}{b base:Nat}{w:World}{v:Value}{ys:List YQ}(h:YsO τ base w v ys)(hb:b<=base):YsO τ b w v ys:=⟨h.out.low hb,λi hi=>(h.ins i hi).low hb⟩
theorem y3k {τ:TyK}{b base:Nat}{w:World}{v:Value}{ts:List TQ}(h:TbO τ base w v ts)(hb:b<=base):TbO τ b w v ts:=⟨h.out.low hb,λi hi=>(h.ins i hi).low hb,h.off,λi hi q D=>⟨(h.lps i hi q D).1.low hb,(h.lps i hi q D).2.low hb⟩⟩
theorem v6m (s:StQ)(w0:World)(I:StAt w0 s)(D:StSz s)(g7:(s.fb.cs.map cxK).Nodup):Rets prog 26 #[svv s] w0 λr w'=>∃ka m,r=(pta ka.gk)/\MkM τd 145 w0 ka w' m/\m.p=(⟨s.rk,⟨trimB<|plB s.q.fs,trimB<|plB s.q.bs⟩,s.ys.map YQ.p,z2n s.fb.ts,s.fb.cs,s.fb.fs⟩:MSt):=by
 have i1:=z2c I.f.c;have i2:=D.cs;refine we [(0,svv s)] func26 U ntmps26 U (.cons U .nil) ?_;have f4:=I;refine sr<|bx U<|λg1 w1 i3 O q1 z1=>(asg U<|nn<|jn (ι:=MA) (ll1 1) (λka=>[(3,pta ka.gk)]) (λka w'=>Fr [] w1 w'/\∃m:MQ,MkM τd 145 w0 ka w' m/\m.p=(⟨s.rk,⟨trimB<|plB s.q.fs,trimB<|plB s.q.bs⟩,s.ys.map YQ.p,z2n s.fb.ts,[],s.fb.fs⟩:MSt)) (csu U) ?_ ?_);have I:=f4.ext q1;intro a h;refine z0h none (λwb w'=>Fr [] wb w') z2r ?_;intro w2 q2;have z2:=q2.size;have I:=I.ext q2;have O:=O.ext q2;have hC:Fr [] w2 w2:=l12 _ _;have c1:=I;have a1:=O;refine z0c 0 h U y2i U λa h=>z0m 1 h U (λ_ hw=>a1.ext hw) U na3 U λa h=>z0c 2 h U z7m U λa h=>z4y 3 h U y4k U λa h=>z0m 4 h U (λ_ hw=>a1.ext hw) U x2c U λa h=>z0c 6 h U z7m U λa h=>z4y 7 h U y1d U λa h=>z0m 8 h U (λ_ hw=>a1.ext hw) U x2c U λa h=>z0c 11 h U x3b U λa h=>z0m 12 h U (λ_ hw=>a1.ext hw) U y4s U λa h=>z0c 14 h U z6t U λa h=>z4y 15 h U y4b U λa h=>z0m 16 h U (λ_ hw=>a1.ext hw) U v1c U λa h=>z0c 18 h U z6t U λa h=>z4y 19 h U v0n U λa h=>z0m 20 h U (λ_ hw=>a1.ext hw) U k3p U λa h=>z7v 21 hC h wn U underlying29 U λa h=>z0c 23 h U z6t U λa h=>z4y 24 h U x3u U λa h=>z0m 25 h U (λ_ hw=>a1.ext hw) U z6f U λa h=>z1w 5 22 kr U ?_ ?_;refine z0n h (z0a U z0f) k2z (y5x _ s.q.fs _ I.b.f I.b.fi D.bf D.f4) ?_;rintro _ w3 ⟨⟨f3,a0,e0,gF,rfl⟩,q3⟩ a h;have z3:=q3.size;have I:=I.ext q3;have O:=O.ext q3;have hC:=hC.next q3;have d9:∀x∈f3,∀k∈z0u (slv x.1),k<w3.heap.size:=λx hx k hk=>((a0.2 x hx).blk k hk).2;refine z0b<|z1w 9 22 kr U ?_ ?_;refine z0n h (z0a U z0f) k2z (y5x _ s.q.bs _ I.b.b I.b.bi D.bb D.b4) ?_;rintro _ w4 ⟨⟨e5,Z,d6,gB,rfl⟩,q4⟩ a h;have z4:=q4.size;have I:=I.ext q4;have O:=O.ext q4;have a0:=a0.ext q4;have hC:=hC.next q4;have d5:∀x∈e5,∀k∈z0u (slv x.1),k<w4.heap.size:=λx hx k hk=>((Z.2 x hx).blk k hk).2;refine z0b<|z3f (cs:=[_,_]) 10 h (z0a U<|z0a U z0f) j6x (z0g U<|z0g U z0r) U U λa h=>z1w 13 22 kr U ?_ ?_;refine z0n h (z0a U z0f) (mkC func63) (x0m _ s.ys _ I.y I.ya (by have:=D.ly;omega) D.pe) ?_;rintro _ w5 ⟨⟨gy,ps,rfl,f5,hY,d0,d1⟩,q5⟩ a h;have z5:=q5.size;have I:=I.ext q5;have O:=O.ext q5;have a0:=a0.ext q5;have Z:=Z.ext q5;have hC:=hC.next q5;refine z0b<|z1w 17 22 kr U ?_ ?_;refine z0n h (z0a U z0f) j7j (y7e _ s.fb.ts _ I.f.t I.f.tt (by have:=D.lt;omega) D.tb) ?_;rintro _ w6 ⟨⟨gt,us,rfl,f0,hT,a9,a8⟩,q6⟩ a h;have z6:=q6.size;have I:=I.ext q6;have O:=O.ext q6;have a0:=a0.ext q6;have Z:=Z.ext q6;have hY:=hY.ext q6;have hC:=hC.next q6;have a7:∀i,i<us.length->∀q∈(us.getD i tq0).2,∀k∈z0u (slv q.th),k<w6.heap.size:=λi hi q hq k hk=>((hT.lps i hi q hq).1.blk k hk).2;refine z0b<|z1w 22 26 kr U ?_ ?_;refine z4z (K:=148) (E:=3) crK h U underlying142 U λgm w7 e8 a4 q7 _hz a h=>?_;have z7:=q7.size;have I:=I.ext q7;have hC:=hC.next q7;clear _hz;refine z0b<|z0d 26 U<|z0n h (z0a U z0f) x5c (z4f _ s.fb.fs _ I.f.f D.fl) ?_;rintro _ w8 ⟨gf,rfl,e7,a5,q8⟩ a h;have z8:=q8.size;have O:=O.ext<|q7.n1 q8;have hC:=hC.next q8;refine z0b<|z3f (cs:=[_,_,_,_,_,_,_]) 27 h (z0a U<|z0a U<|z0a U<|z0a U<|z0a U<|z0a U z0f) v2j (z0g U<|z0g U<|z0g U<|z0g U<|z0g U<|z0g U z0r) U U λa h=>z0d 28 U ?_;refine y7d h U U U λw9 a3 q9 hz a h=>?_;obtain⟨a2,hg⟩:∃g,g=w8.heap.size:=⟨_,rfl⟩;rw[<-hg]at a3 h hz;have a6:g1<a2:=by have:=O.lt;omega
 have z9:=q9.size;have a0:=a0.ext<|q7.n2 q8 q9;have Z:=Z.ext<|q7.n2 q8 q9;have hY:=hY.ext<|q7.n2 q8 q9;have hT:=hT.ext<|q7.n2 q8 q9;have a4:=a4.ext<|q8.n1 q9;have a5:=a5.ext q9;have hC:=hC.next q9;refine z0b<|z0d 29 U<|z0q h U λa h=>?_;refine z0b<|z0p ?_;clear hC c1 a1;exact bk (h.sub (L':=ll2 1 3)<|csu U)<|jE ((⟨a2,gy,6,gt,6,gm,_⟩:MA)) (csu U) ⟨((q2.n6 q3 q4 q5 q6 q7 q8).n1 q9),(y8g a3 (a0.low oo) (Z.low oo) (y3m hY oo) d0 d1 (y3k hT oo) a9 a8 a4 (a5.low oo) D.ly D.lt (((q1.n6 q2 q3 q4 q5 q6 q7).n1 q8).n1 q9) oo oo (λx hx hb=>by rcases l23.1 hx with k|k;have:=d9 x k _ hb;omega;have:=d5 x k _ hb;omega) (λi hi q hq hb=>by have:=a7 i (by have:=D.lt;omega) q hq _ hb;omega) e0 d6)⟩;refine z0n h (z0a U z0f) x5c (z4f _ s.fb.fs _ I.f.f D.fl) ?_;rintro _ i7 ⟨gf,rfl,e7,a5,d3⟩ a h;have k6:=d3.size;have hC:=hC.next d3;refine z0b<|z0d 22 U<|z4z (K:=148) (E:=3) crK h U underlying142 U λgm g8 e8 a4 b0 _hz a h=>?_;have k7:=b0.size;have O:=O.ext<|d3.n1 b0;have hC:=hC.next b0;clear _hz;refine z0b<|z3f (cs:=[_,_,_,_,_,_,_]) 27 h (z0a U<|z0a U<|z0a U<|z0a U<|z0a U<|z0a U z0f) v2j (z0g U<|z0g U<|z0g U<|z0g U<|z0g U<|z0g U z0r) U U λa h=>z0d 28 U ?_;refine y7d h U U U λi8 a3 b1 hz a h=>?_;obtain⟨a2,hg⟩:∃g,g=g8.heap.size:=⟨_,rfl⟩;rw[<-hg]at a3 h hz;have a6:g1<a2:=by have:=O.lt;omega
 have k8:=b1.size;have a0:=a0.ext<|d3.n2 b0 b1;have Z:=Z.ext<|d3.n2 b0 b1;have hY:=hY.ext<|d3.n2 b0 b1;have hT:=hT.ext<|d3.n2 b0 b1;have a5:=a5.ext<|b0.n1 b1;have a4:=a4.ext b1;have hC:=hC.next b1;refine z0b<|z0d 29 U<|z0q h U λa h=>?_;refine z0b<|z0p ?_;clear hC c1 a1;exact bk (h.sub (L':=ll2 1 3)<|csu U)<|jE ((⟨a2,gy,6,gt,6,gm,_⟩:MA)) (csu U) ⟨((q2.n6 q3 q4 q5 q6 d3 b0).n1 b1),(y8g a3 (a0.low oo) (Z.low oo) (y3m hY oo) d0 d1 (y3k hT oo) a9 a8 a4 (a5.low oo) D.ly D.lt (((q1.n6 q2 q3 q4 q5 q6 d3).n1 b0).n1 b1) oo oo (λx hx hb=>by rcases l23.1 hx with k|k;have:=d9 x k _ hb;omega;have:=d5 x k _ hb;omega) (λi hi q hq hb=>by have:=a7 i (by have:=D.lt;omega) q hq _ hb;omega) e0 d6)⟩;refine z4z (K:=148) (E:=3) crK h U underlying142 U λgm i9 e8 a4 d4 _hz a h=>?_;have k9:=d4.size;have I:=I.ext d4;have hC:=hC.next d4;clear _hz;refine z0b<|z0d 17 U<|z0n h (z0a U z0f) j7j (y7e _ s.fb.ts _ I.f.t I.f.tt (by have:=D.lt;omega) D.tb) ?_;rintro _ g9 ⟨⟨gt,us,rfl,f0,hT,a9,a8⟩,q14⟩ a h;have l0:=q14.size;have I:=I.ext q14;have hC:=hC.next q14;have a7:∀i,i<us.length->∀q∈(us.getD i tq0).2,∀k∈z0u (slv q.th),k<g9.heap.size:=λi hi q hq k hk=>((hT.lps i hi q hq).1.blk k hk).2;refine z0b<|z0d 26 U<|z0n h (z0a U z0f) x5c (z4f _ s.fb.fs _ I.f.f D.fl) ?_;rintro _ h0 ⟨gf,rfl,e7,a5,b2⟩ a h;have l1:=b2.size;have O:=O.ext<|d4.n2 q14 b2;have hC:=hC.next b2;refine z0b<|z3f (cs:=[_,_,_,_,_,_,_]) 27 h (z0a U<|z0a U<|z0a U<|z0a U<|z0a U<|z0a U z0f) v2j (z0g U<|z0g U<|z0g U<|z0g U<|z0g U<|z0g U z0r) U U λa h=>z0d 28 U ?_;refine y7d h U U U λj0 a3 b3 hz a h=>?_;obtain⟨a2,hg⟩:∃g,g=h0.heap.size:=⟨_,rfl⟩;rw[<-hg]at a3 h hz;have a6:g1<a2:=by have:=O.lt;omega
 have l2:=b3.size;have a0:=a0.ext<|d4.n3 q14 b2 b3;have Z:=Z.ext<|d4.n3 q14 b2 b3;have hY:=hY.ext<|d4.n3 q14 b2 b3;have a4:=a4.ext<|q14.n2 b2 b3;have hT:=hT.ext<|b2.n1 b3;have a5:=a5.ext b3;have hC:=hC.next b3;refine z0b<|z0d 29 U<|z0q h U λa h=>?_;refine z0b<|z0p ?_;clear hC c1 a1;exact bk (h.sub (L':=ll2 1 3)<|csu U)<|jE ((⟨a2,gy,6,gt,6,gm,_⟩:MA)) (csu U) ⟨((q2.n6 q3 q4 q5 d4 q14 b2).n1 b3),(y8g a3 (a0.low oo) (Z.low oo) (y3m hY oo) d0 d1 (y3k hT oo) a9 a8 a4 (a5.low oo) D.ly D.lt (((q1.n6 q2 q3 q4 q5 d4 q14).n1 b2).n1 b3) oo oo (λx hx hb=>by rcases l23.1 hx with k|k;have:=d9 x k _ hb;omega;have:=d5 x k _ hb;omega) (λi hi q hq hb=>by have:=a7 i (by have:=D.lt;omega) q hq _ hb;omega) e0 d6)⟩;refine z4z (K:=148) (E:=3) crK h U underlying142 U λgm j1 e8 a4 d7 _hz a h=>?_;have l3:=d7.size;have I:=I.ext d7;have hC:=hC.next d7;clear _hz;refine z0b<|z0d 13 U<|z0n h (z0a U z0f) (mkC func63) (x0m _ s.ys _ I.y I.ya (by have:=D.ly;omega) D.pe) ?_;rintro _ j2 ⟨⟨gy,ps,rfl,f5,hY,d0,d1⟩,q18⟩ a h;have l4:=q18.size;have I:=I.ext q18;have hC:=hC.next q18;refine z0b<|z0d 17 U<|z0n h (z0a U z0f) j7j (y7e _ s.fb.ts _ I.f.t I.f.tt (by have:=D.lt;omega) D.tb) ?_;rintro _ h1 ⟨⟨gt,us,rfl,f0,hT,a9,a8⟩,q19⟩ a h;have l5:=q19.size;have I:=I.ext q19;have hC:=hC.next q19;have a7:∀i,i<us.length->∀q∈(us.getD i tq0).2,∀k∈z0u (slv q.th),k<h1.heap.size:=λi hi q hq k hk=>((hT.lps i hi q hq).1.blk k hk).2;refine z0b<|z0d 26 U<|z0n h (z0a U z0f) x5c (z4f _ s.fb.fs _ I.f.f D.fl) ?_;rintro _ h2 ⟨gf,rfl,e7,a5,b4⟩ a h;have l6:=b4.size;have O:=O.ext<|d7.n3 q18 q19 b4;have hC:=hC.next b4;refine z0b<|z3f (cs:=[_,_,_,_,_,_,_]) 27 h (z0a U<|z0a U<|z0a U<|z0a U<|z0a U<|z0a U z0f) v2j (z0g U<|z0g U<|z0g U<|z0g U<|z0g U<|z0g U z0r) U U λa h=>z0d 28 U ?_;refine y7d h U U U λj3 a3 b5 hz a h=>?_;obtain⟨a2,hg⟩:∃g,g=h2.heap.size:=⟨_,rfl⟩;rw[<-hg]at a3 h hz;have a6:g1<a2:=by have:=O.lt;omega
 have l7:=b5.size;have a0:=a0.ext<|d7.n4 q18 q19 b4 b5;have Z:=Z.ext<|d7.n4 q18 q19 b4 b5;have a4:=a4.ext<|q18.n3 q19 b4 b5;have hY:=hY.ext<|q19.n2 b4 b5;have hT:=hT.ext<|b4.n1 b5;have a5:=a5.ext b5;have hC:=hC.next b5;refine z0b<|z0d 29 U<|z0q h U λa h=>?_;refine z0b<|z0p ?_;clear hC c1 a1;exact bk (h.sub (L':=ll2 1 3)<|csu U)<|jE ((⟨a2,gy,6,gt,6,gm,_⟩:MA)) (csu U) ⟨((q2.n6 q3 q4 d7 q18 q19 b4).n1 b5),(y8g a3 (a0.low oo) (Z.low oo) (y3m hY oo) d0 d1 (y3k hT oo) a9 a8 a4 (a5.low oo) D.ly D.lt (((q1.n6 q2 q3 q4 d7 q18 q19).n1 b4).n1 b5) oo oo (λx hx hb=>by rcases l23.1 hx with k|k;have:=d9 x k _ hb;omega;have:=d5 x k _ hb;omega) (λi hi q hq hb=>by have:=a7 i (by have:=D.lt;omega) q hq _ hb;omega) e0 d6)⟩;refine z4z (K:=148) (E:=3) crK h U underlying142 U λgm j4 e8 a4 e3 _hz a h=>?_;have l8:=e3.size;have I:=I.ext e3;have hC:=hC.next e3;clear _hz;refine z0b<|z0d 9 U<|z0n h (z0a U z0f) k2z (y5x _ s.q.bs _ I.b.b I.b.bi D.bb D.b4) ?_;rintro _ h3 ⟨⟨e5,Z,d6,gB,rfl⟩,q23⟩ a h;have l9:=q23.size;have I:=I.ext q23;have hC:=hC.next q23;have d5:∀x∈e5,∀k∈z0u (slv x.1),k<h3.heap.size:=λx hx k hk=>((Z.2 x hx).blk k hk).2;refine z0b<|z3f (cs:=[_,_]) 10 h (z0a U<|z0a U z0f) j6x (z0g U<|z0g U z0r) U U λa h=>z0d 13 U ?_;refine z0n h (z0a U z0f) (mkC func63) (x0m _ s.ys _ I.y I.ya (by have:=D.ly;omega) D.pe) ?_;rintro _ j5 ⟨⟨gy,ps,rfl,f5,hY,d0,d1⟩,q24⟩ a h;have m0:=q24.size;have I:=I.ext q24;have hC:=hC.next q24;refine z0b<|z0d 17 U<|z0n h (z0a U z0f) j7j (y7e _ s.fb.ts _ I.f.t I.f.tt (by have:=D.lt;omega) D.tb) ?_;rintro _ h4 ⟨⟨gt,us,rfl,f0,hT,a9,a8⟩,q25⟩ a h;have m1:=q25.size;have I:=I.ext q25;have hC:=hC.next q25;have a7:∀i,i<us.length->∀q∈(us.getD i tq0).2,∀k∈z0u (slv q.th),k<h4.heap.size:=λi hi q hq k hk=>((hT.lps i hi q hq).1.blk k hk).2;refine z0b<|z0d 26 U<|z0n h (z0a U z0f) x5c (z4f _ s.fb.fs _ I.f.f D.fl) ?_;rintro _ h5 ⟨gf,rfl,e7,a5,b6⟩ a h;have m2:=b6.size;have O:=O.ext<|e3.n4 q23 q24 q25 b6;have hC:=hC.next b6;refine z0b<|z3f (cs:=[_,_,_,_,_,_,_]) 27 h (z0a U<|z0a U<|z0a U<|z0a U<|z0a U<|z0a U z0f) v2j (z0g U<|z0g U<|z0g U<|z0g U<|z0g U<|z0g U z0r) U U λa h=>z0d 28 U ?_;refine y7d h U U U λj6 a3 b7 hz a h=>?_;obtain⟨a2,hg⟩:∃g,g=h5.heap.size:=⟨_,rfl⟩;rw[<-hg]at a3 h hz;have a6:g1<a2:=by have:=O.lt;omega
 have m3:=b7.size;have a0:=a0.ext<|e3.n5 q23 q24 q25 b6 b7;have a4:=a4.ext<|q23.n4 q24 q25 b6 b7;have Z:=Z.ext<|q24.n3 q25 b6 b7;have hY:=hY.ext<|q25.n2 b6 b7;have hT:=hT.ext<|b6.n1 b7;have a5:=a5.ext b7;have hC:=hC.next b7;refine z0b<|z0d 29 U<|z0q h U λa h=>?_;refine z0b<|z0p ?_;clear hC c1 a1;exact bk (h.sub (L':=ll2 1 3)<|csu U)<|jE ((⟨a2,gy,6,gt,6,gm,_⟩:MA)) (csu U) ⟨((q2.n6 q3 e3 q23 q24 q25 b6).n1 b7),(y8g a3 (a0.low oo) (Z.low oo) (y3m hY oo) d0 d1 (y3k hT oo) a9 a8 a4 (a5.low oo) D.ly D.lt (((q1.n6 q2 q3 e3 q23 q24 q25).n1 b6).n1 b7) oo oo (λx hx hb=>by rcases l23.1 hx with k|k;have:=d9 x k _ hb;omega;have:=d5 x k _ hb;omega) (λi hi q hq hb=>by have:=a7 i (by have:=D.lt;omega) q hq _ hb;omega) e0 d6)⟩;refine z4z (K:=148) (E:=3) crK h U underlying142 U λgm j7 e8 a4 e4 _hz a h=>?_;have m4:=e4.size;have I:=I.ext e4;have hC:=hC.next e4;clear _hz;refine z0b<|z0d 5 U<|z0n h (z0a U z0f) k2z (y5x _ s.q.fs _ I.b.f I.b.fi D.bf D.f4) ?_;rintro _ h6 ⟨⟨f3,a0,e0,gF,rfl⟩,q29⟩ a h;have m5:=q29.size;have I:=I.ext q29;have hC:=hC.next q29;have d9:∀x∈f3,∀k∈z0u (slv x.1),k<h6.heap.size:=λx hx k hk=>((a0.2 x hx).blk k hk).2;refine z0b<|z0d 9 U<|z0n h (z0a U z0f) k2z (y5x _ s.q.bs _ I.b.b I.b.bi D.bb D.b4) ?_;rintro _ h7 ⟨⟨e5,Z,d6,gB,rfl⟩,q30⟩ a h;have m6:=q30.size;have I:=I.ext q30;have hC:=hC.next q30;have d5:∀x∈e5,∀k∈z0u (slv x.1),k<h7.heap.size:=λx hx k hk=>((Z.2 x hx).blk k hk).2;refine z0b<|z3f (cs:=[_,_]) 10 h (z0a U<|z0a U z0f) j6x (z0g U<|z0g U z0r) U U λa h=>z0d 13 U ?_;refine z0n h (z0a U z0f) (mkC func63) (x0m _ s.ys _ I.y I.ya (by have:=D.ly;omega) D.pe) ?_;rintro _ j8 ⟨⟨gy,ps,rfl,f5,hY,d0,d1⟩,q31⟩ a h;have m7:=q31.size;have I:=I.ext q31;have hC:=hC.next q31;refine z0b<|z0d 17 U<|z0n h (z0a U z0f) j7j (y7e _ s.fb.ts _ I.f.t I.f.tt (by have:=D.lt;omega) D.tb) ?_;rintro _ h8 ⟨⟨gt,us,rfl,f0,hT,a9,a8⟩,q32⟩ a h;have m8:=q32.size;have I:=I.ext q32;have hC:=hC.next q32;have a7:∀i,i<us.length->∀q∈(us.getD i tq0).2,∀k∈z0u (slv q.th),k<h8.heap.size:=λi hi q hq k hk=>((hT.lps i hi q hq).1.blk k hk).2;refine z0b<|z0d 26 U<|z0n h (z0a U z0f) x5c (z4f _ s.fb.fs _ I.f.f D.fl) ?_;rintro _ h9 ⟨gf,rfl,e7,a5,b8⟩ a h;have m9:=b8.size;have O:=O.ext<|e4.n5 q29 q30 q31 q32 b8;have hC:=hC.next b8;refine z0b<|z3f (cs:=[_,_,_,_,_,_,_]) 27 h (z0a U<|z0a U<|z0a U<|z0a U<|z0a U<|z0a U z0f) v2j (z0g U<|z0g U<|z0g U<|z0g U<|z0g U<|z0g U z0r) U U λa h=>z0d 28 U ?_;refine y7d h U U U λj9 a3 b9 hz a h=>?_;obtain⟨a2,hg⟩:∃g,g=h9.heap.size:=⟨_,rfl⟩;rw[<-hg]at a3 h hz;have a6:g1<a2:=by have:=O.lt;omega
 have n7:=b9.size;have a4:=a4.ext<|q29.n5 q30 q31 q32 b8 b9;have a0:=a0.ext<|q30.n4 q31 q32 b8 b9;have Z:=Z.ext<|q31.n3 q32 b8 b9;have hY:=hY.ext<|q32.n2 b8 b9;have hT:=hT.ext<|b8.n1 b9;have a5:=a5.ext b9;have hC:=hC.next b9;refine z0b<|z0d 29 U<|z0q h U λa h=>?_;refine z0b<|z0p ?_;clear hC c1 a1;exact bk (h.sub (L':=ll2 1 3)<|csu U)<|jE ((⟨a2,gy,6,gt,6,gm,_⟩:MA)) (csu U) ⟨((q2.n6 e4 q29 q30 q31 q32 b8).n1 b9),(y8g a3 (a0.low oo) (Z.low oo) (y3m hY oo) d0 d1 (y3k hT oo) a9 a8 a4 (a5.low oo) D.ly D.lt (((q1.n6 q2 e4 q29 q30 q31 q32).n1 b8).n1 b9) oo oo (λx hx hb=>by rcases l23.1 hx with k|k;have:=d9 x k _ hb;omega;have:=d5 x k _ hb;omega) (λi hi q hq hb=>by have:=a7 i (by have:=D.lt;omega) q hq _ hb;omega) e0 d6)⟩;rintro ka k0 ⟨g0,⟨m,hM,e9⟩⟩;have n8:=g0.size;have f6:=hM;refine kpC [(1,_),(3,pta ka.gk)] (csu U)<|sq<|sr<|fad U z6t<|y6p U v0n U ?_;have O:=O.ext g0;refine z0j U O U k3p<|lnS U underlying29<|mv U U<|nn<|bl<|lpK (ι:=Nat) (ll3 3 37 38) (λi=>[(39,.int .i64 (i:Int))]) (λi w'=>i<=s.fb.cs.length/\(∃m:MQ,m.p=(⟨s.rk,⟨trimB<|plB s.q.fs,trimB<|plB s.q.bs⟩,s.ys.map YQ.p,z2n s.fb.ts,s.fb.cs.take i,s.fb.fs⟩:MSt)/\MkM τd 145 w0 ka w' m)) (λi=>s.fb.cs.length-i) 0 (csu U) ⟨l17 _,⟨m,e9,hM⟩⟩ ?_;rintro i k1 ⟨hi,⟨m,e9,hM⟩⟩;have f6:=hM;refine kpC (ll4 3 37 38 39) (csu U) ?_;have hk:=hM.k;have i5:=hk.lt;refine sr<|lt' U<|nn<|sq<|cd U (λc0=>?_)<|λc0=>?_;refine sk<|tn<|sq<|bl<|sr<|z1b (cx0) U (f4.f.c.ext hM.fr.fr) U u7w z1j<|λi0 f8=>?_;refine z1q U (f8 _<|f4.f.c.ext hM.fr.fr) u6d<|al u2s U<|λg5 k2 i4 e6 g3 n9=>(z0i (vs:=[_,_,_,_,_]) U e6 k1f<|λk4 e6 g4 o0=>(nn ?_));have hM:=f6.ext<|g3.z1 g4;have hk:=(hk.ext g3).fr g4;intro a h;refine z0h (some 11) (λwb w'=>Fr [] wb w') z2r ?_;intro g6 f1;have o1:=f1.size;have hM:=hM.ext f1;have hk:=hk.ext f1;have e6:=e6.ext f1;have hC:Fr [] g6 g6:=l12 _ _;have f7:=hM;have f2:=hk;have c9:=e6;refine z0e 0 h U λa h=>z0o 1 h U λa h=>z0c 2 h U y3f U λa h=>z0m 3 h U (λ_ hw=>f2.ext hw) U v3k U λa h=>z0c 4 h U y5m U λa h=>z1h (vs:=[_,_]) 5 h U (λ_ hw=>(c9.ext hw)) z2z U U λa h=>z0c 6 h U y5n U λa h=>z1h (vs:=[_,_]) 7 h U (λ_ hw=>(c9.ext hw)) z2z U U λa h=>z3f (cs:=[_,_,_,_]) 8 h (z0a U<|z0a U z0f) j2n (z0g U<|z0g U z0r) U U λa h=>z0c 9 h U x0k U λa h=>z0m 10 h U (λ_ hw=>c9.ext hw) U na3 U λa h=>?_;refine z0d 11 U<|y7y (V:=crK) (k:=cxK<|s.fb.cs.getD i cx0) (v:=.int .i64 (s.fb.cs.getD i cx0).n) h U U U hM.c v0f underlying142 λk5 f9 hq _hz a h=>?_;rw[show m.cr=s.fb.cs.take i from congrArg MSt.cr e9]at f9;have hM:=hM.cross (l:=s.fb.cs.take<|i+1) (by rw[<-u3w g7 oo];exact f9) hq;refine z1m<|z0p ?_;clear hC f7 f2 c9;exact bk (h.sub (L':=ll4 3 37 38 39)<|csu U)<|bn'<|tn<|rg<|z0v U (wi6 oo)<|mv U U<|nl<|lpE (i+1) (csu U) ⟨oo,⟨{ m with cr:=s.fb.cs.take (i+1) },by rw[show ({ m with cr:=s.fb.cs.take (i+1) }:MQ).p={ m.p with cr:=s.fb.cs.take (i+1) } from U,e9],hM⟩⟩ oo;obtain rfl:i=s.fb.cs.length:=by omega
 exact ex<|te<|te<|xh<|tn<|sr<|mv U U<|asg U<|kpL (ll1 2) (csu U)<|nn<|rt<|r1 results26 U ⟨_,rfl,ka,m,rfl,hM,by rw[e9,l39]⟩
end Go.Proofs.YtlfdhllfmoplgaaGreatDoor
