/- Texts of the proof, joined. -/
import Derived.Test.YtjilcnmaefhmeaaGreatDoorRows
import Derived.Shelf.SlSortCmp.WholeK
import Derived.Deep.RegionHeld3
import Derived.WalkKit
import Derived.Test.YtjilcnmaefhmeaaGreatDoorZE4
set_option linter.unusedVariables false
set_option linter.unusedSimpArgs false
set_option maxHeartbeats 4000000
namespace Go.Proofs.YtjilcnmaefhmeaaGreatDoor
open Go.Lw Go.G21 Go.G08 _root_.Go.Proofs.Tryz
theorem k2a:BuildAt prog 107 [(0,1),(1,1),(2,1),(3,1)] [(.int .u8 0),(.bool false),(.slice none 0 0),(.slice none 0 0)]:=BuildAt.struct underlying107 (λ_=>kr) (λ_=>kr)
theorem x1v:CallOf prog 91:=mkC func91
theorem v4o:CallOf prog 200:=mkC func200
theorem y3a:z0y prog 183 3 4:=λ_ _=>kr
theorem j4t:z0y prog 296 0 0:=λ_ _=>kr
theorem j3r:z0y prog 296 1 1:=λ_ _=>kr
theorem j2z:z0y prog 296 2 2:=λ_ _=>kr
theorem k1l:z1q prog 34 1:=λ_=>kr
theorem z3t (v:Value)(l:List LId)(w0:World)(I:Sl z1f w0 v l)(hl:l.length<=100000):Rets prog 91 #[v] w0 λr w'=>∃g,r=.slice (some ⟨g,0,none⟩) l.length l.length/\w0.heap.size<=g/\Lw.Own z1f 73 w0.heap.size w' r l/\Fr [] w0 w':=by
 obtain⟨A,c,rfl,a0,hM,Z⟩:=id I;clear Z;unfold maxLen at hM;refine we [(0,.slice A l.length c)] func91 U ntmps91 U (.cons U .nil) ?_;have J:=I;refine sr (asg U (nn (sr (mv U U (lnS U underlying27 (z1e (m:=l.length) (c:=l.length) (id0) U z4x y0n U (λO w1 a1 D M z1=>(asg U (nn (sr (mv U U (mv U U ?_))))))))))));replace I:=J.ext M;refine z6n (zs:=List.replicate l.length id0) (by rw[List.length_replicate];rfl) U (by rw[List.length_replicate];exact D) I (by rw[List.length_replicate]) z4x (λw2 D q2 z2=>?_);rw[List.length_replicate]at D;exact nn (sr (mv U U (asg U (nn (rt (r1 results91 U ⟨_,rfl,O,rfl,oo,D.low oo,(M.z1 q2)⟩))))))
theorem u7y (ts:List TQ)(j:Nat):(ts.getD j tq0).2.length<=z4f (z1r ts):=by
 by_cases h:j<ts.length;have k:=y3e (z1r ts) j [] (by rw[List.length_map];exact h);have e:z3b (z1r ts) j=(ts.getD j tq0).2.length:=by
  unfold z3b;rw[List.getD,List.getD,List.getElem?_map,List.getElem?_eq_getElem h];exact List.length_map ..
 rw[List.length_nil,e]at k;omega;rw[List.getD,List.getElem?_eq_none oo];exact Nat.zero_le _
theorem j8z {o:MOp}{ths st:List LId}{th sn u:SV}{D:BdQ}(m:MQ)(j:Nat)(I:(o.y-1).toNat=j)(J:D.p=m.q.p.put o.b o.p (st++[(⟨o.y,(m.ys.getD j yq0).ct⟩:LId)])) :
    { m with q:=D,ys:=m.ys.set j ⟨true,(m.ys.getD j yq0).pl,(m.ys.getD j yq0).ct+1,false,sv0,[]⟩,ts:=m.ts.set j (u,(m.ts.getD j tq0).2++[(⟨o.b,(m.ys.getD j yq0).nw,th,sn,ths,(m.ys.getD j yq0).pes⟩:LpQ)]) }.p =
      { m.p with B:=m.p.B.put o.b o.p (st++[(⟨o.y,(m.ys.getD j yq0).p.ct⟩:LId)]),ys:=m.p.ys.set (o.y-1).toNat (mkS (m.ys.getD j yq0).p),tb:=m.p.tb.set (o.y-1).toNat (m.p.row o.y++[(⟨o.b,(m.ys.getD j yq0).p.nw,ths,(m.ys.getD j yq0).p.pe⟩:Lp)]) }:=by
  unfold MSt.row
  rw[I]
  have M:(z1r m.ts).getD j []=(m.ts.getD j tq0).2.map LpQ.p:=by
    rw[List.getD,List.getD,List.getElem?_map]
    cases m.ts[j]?<;>rfl
  simp only[MQ.p,J,List.map_set,M,List.map_append,List.map_cons,List.map_nil,mkS]
theorem v9i (wS:World)(ka:MA)(m:MQ)(o:MOp)(th:SV)(k0:List LId)(t8:Value)(st:List LId)(w0:World)(hM:MkM τd 183 wS ka w0 m)(hi:MInv m.p)(hy:1<=o.y/\o.y<=6)(hn:z2v o.b o.p=0)(g6:Lw.Own z1f 73 wS.heap.size w0 (slv th) k0)(s6:∀k∈z0u (slv th),k∉z0u (slv m.fa))(b6:Sl z1f w0 t8 st)(hs:st=[]\/(st=m.q.p.at o.b o.p/\st.length<4)):Rets prog 149 #[.pointer (some ⟨ka.gk,0,none⟩),opV o,.slice th.1 th.2.1 th.2.2,t8] w0 λr w'=>MRet τd 183 wS ka (y5m m.p o k0 st) r w':=by
 have A8:=hM.fr.size;have J:=hM.k;have A2:=J.lt;have A3:=hM.ly;have p1:=hM.lt;have y8:=(hM.y.out.blk ka.gy (by simp[z0u])).2;obtain⟨j,hj,A5⟩:∃j:Nat,j<6/\o.y=(j:Int)+1:=⟨(o.y-1).toNat,oo,oo⟩;have r9:(o.y-1).toNat=j:=by omega
 have l5:m.p.y o.y=(m.ys.getD j yq0).p:=by rw[j8p,r9]
 obtain⟨AS,cS,rfl,A0⟩:=b6.form;have A4:=z2o hn;obtain⟨n,i1⟩:∃n:Nat,o.p=(n:Int):=⟨o.p.toNat,oo⟩;have hv:BdOk m.q.p:=hi.B;have A7:st.length<=3:=by rcases hs with e|⟨_,e⟩;rw[e];simp;omega
 have y5:z4f (z1r m.ts)<=2048:=hi.all;have y9:=hM.gk;have s4:∀k∈z0u (slv (m.ts.getD j tq0).1),k<w0.heap.size:=λk J=>((hM.t.ins j (by rw[p1];exact hj)).blk k J).2;have k4:ka.gk∉z0u (slv th):=λhb=>g6.neB hM.k dd hb;have k5:ka.gy∉z0u (slv th):=λhb=>Own.neO hM.y.out g6 dd ka.gy (by simp[z0u]) hb;have k6:∀k∈z0u (slv th),k<w0.heap.size:=λk J=>(g6.blk k J).2;refine we [(0,.pointer (some ⟨ka.gk,0,none⟩)),(1,opV o),(2,.slice th.1 th.2.1 th.2.2),(3,.slice AS st.length cS)] func149 U ntmps149 U (.c4 U U U U) ?_;have h8:=hM;have s5:=b6;refine sr (bx U (λg5 w1 A1 I q1 z1=>(asg U (nn (jn (ι:=Nat×Nat) [(0,_),(2,_),(3,_),(5,_)] (λp=>[(9,.pointer (some ⟨p.1,0,none⟩)),(10,.pointer (some ⟨p.2,0,none⟩)),(11,.int .i64 (mkE (m.ys.getD j yq0).p))]) (λp w'=>Fr [] w1 w'/\∃(qn:YQ) (e2:Int) (e3:Bool) (sn:SV) (d0:List Pa),(w1.heap.size<=p.1/\w1.heap.size<=p.2/\((mkE (m.ys.getD j yq0).p)=0->qn=(⟨true,(m.ys.getD j yq0).pl,(m.ys.getD j yq0).ct+1,false,sv0,[]⟩:YQ)/\e2=(m.ys.getD j yq0).ct/\e3=(m.ys.getD j yq0).nw/\d0=(m.ys.getD j yq0).pes))/\Blk w' p.1 95 (z3a.enc qn)/\Blk w' p.2 296 [.int .i64 e2,.bool e3,.slice sn.1 sn.2.1 sn.2.2]/\OwnIf ((mkE (m.ys.getD j yq0).p)=0) z2e 97 (max wS.heap.size w1.heap.size) w' (slv sn) d0) (.c4 U U U U) ?_ ?_)))));replace hM:=h8.ext q1;intro a h;refine z0h none (λwb w'=>Fr [] wb w') z2m ?_;intro w2 q2;have z2:=q2.size;replace hM:=hM.ext q2;replace J:=J.ext (q1.n1 q2);replace I:=I.ext q2;have hC:Fr [] w2 w2:=Fr.refl _ _;have d1:=hM;have b9:=J;have b3:=I;refine y1h (ι:=(Nat×Nat)×YQ×(Int×Bool)×SV×List Pa) h [(0,_),(2,_),(3,_),(5,_)] (.c4 U U U U) #[true,true,true,true,true,true,true,true,true,true,true,true,true,true,true,true,false,false,false] 3 (λp=>[(9,.pointer (some ⟨p.1.1,0,none⟩)),(10,.pointer (some ⟨p.1.2,0,none⟩)),(26,.agg #[.bool p.2.1.inn,.int .i64 p.2.1.pl,.int .i64 p.2.1.ct,.bool p.2.1.nw,.slice p.2.1.pe.1 p.2.1.pe.2.1 p.2.1.pe.2.2]),(27,.agg #[.int .i64 p.2.2.1.1,.bool p.2.2.1.2,.slice p.2.2.2.1.1 p.2.2.2.1.2.1 p.2.2.2.1.2.2]),(28,.int .i64 (mkE (m.ys.getD j yq0).p))]) (λp w'=>Fr [] w2 w'/\(w2.heap.size<=p.1.1/\w2.heap.size<=p.1.2/\p.1.1≠p.1.2)/\((mkE (m.ys.getD j yq0).p)=0->p.2.1=(⟨true,(m.ys.getD j yq0).pl,(m.ys.getD j yq0).ct+1,false,sv0,[]⟩:YQ)/\p.2.2.1.1=(m.ys.getD j yq0).ct/\p.2.2.1.2=(m.ys.getD j yq0).nw/\p.2.2.2.2=(m.ys.getD j yq0).pes/\p.1.1∉z0u (slv p.2.2.2.1)/\p.1.2∉z0u (slv p.2.2.2.1))/\Blk w' p.1.1 95 [.bool false,.int .i64 0,.int .i64 0,.bool false,.slice none 0 0]/\Blk w' p.1.2 296 [.int .i64 0,.bool false,.slice none 0 0]/\OwnIf ((mkE (m.ys.getD j yq0).p)=0) z2e 97 (max wS.heap.size w2.heap.size) w' (slv p.2.2.2.1) p.2.2.2.2) (λf1=>?_) ?_;refine z0e 0 h U λa h=>z0l 1 h U λa h=>z0c 2 h U z3e U λa h=>z0j 3 h U (λ_ hw=>b9.ext hw) U y4d U λa h=>z0c 4 h U z3i U λa h=>z0j 5 h U (λ_ hw=>b3.ext hw) U na5 U λa h=>z2w 6 h wn U (by first|exact IntWalk.u8_in _ oo|rfl) U λa h=>z1i (p:=j) (yq0) 7 h U hM.y.out.sl U y4n U λy3 r6 a h=>z2q (cs:=z3a.enc (m.ys.getD j yq0)) 8 h wn U (λ_ hw=>r6 _ (d1.ext hw).y.out.sl) z7g U λa h=>x0z 9 14 15 kr U U U ?_ ?_ ?_;refine z0o h (z0a U z0f) v4o (y1v (m.ys.getD j yq0) _ (hM.y.ins j oo).sl (λk J=>((hM.y.ins j oo).blk k J).2)) ?_;rintro _ w3 ⟨qn,e2,e3,sn,d0,rfl,a5,q3⟩ a h;have z3:=q3.size;replace hM:=hM.ext q3;replace J:=J.ext q3;replace I:=I.ext q3;replace hC:=hC.next q3;have M:OwnIf ((mkE (m.ys.getD j yq0).p)=0) z2e 97 _ _ (slv sn) d0:=λhc=>(a5 hc).2.2.2.2;have e1:=λhc k J=>((M hc).blk k J).2;refine z0b (z0e 10 h U λa h=>z0m 11 h U λa h=>z0m 12 h U λa h=>z0m 13 h U λa h=>z1x 14 15 kr U ?_ ?_);refine z0w h y3y U λw4 O q4 hz a h=>?_;obtain⟨b0,hg⟩:∃g,g=w3.heap.size:=⟨_,rfl⟩;rw[<-hg]at O h hz;have c9.gk_9:ka.gk<b0:=by have:=J.lt;omega
 have i0:g5<b0:=by have:=I.lt;omega
 have z4:=q4.size;replace J:=J.ext q4;replace I:=I.ext q4;replace hC:=hC.next q4;refine z0b (z0d 15 U (z0w h x1y U λw5 D q5 hz a h=>?_));obtain⟨a6,hg⟩:∃g,g=w4.heap.size:=⟨_,rfl⟩;rw[<-hg]at D h hz;have c9.gk_10:ka.gk<a6:=by have:=J.lt;omega
 have f8:g5<a6:=by have:=I.lt;omega
 have j0:b0<a6:=by have:=O.lt;omega
 have z5:=q5.size;replace M:=M.ext (q4.n1 q5);replace O:=O.ext q5;replace hC:=hC.next q5;exact z0b (f1 ((b0,a6),qn,(e2,e3),sn,d0) _ _ _ kr (h.sub (.d8 U U U U U U U U (.cons U .nil))) ⟨hC,⟨sm,sm,sm⟩,(λe=>⟨(a5 e).1,(a5 e).2.1,(a5 e).2.2.1,(a5 e).2.2.2.1,(λa2=>by have b8:=e1 e _ a2;have a9:=(M e).blk _ a2;simp only at b8 a9;omega),(λa2=>by have b8:=e1 e _ a2;have a9:=(M e).blk _ a2;simp only at b8 a9;omega)⟩),O,D,(λe=>(M e).low oo)⟩);refine z0w h x1y U λw6 D q6 hz a h=>?_;obtain⟨a6,hg⟩:∃g,g=w3.heap.size:=⟨_,rfl⟩;rw[<-hg]at D h hz;have c9.gk_10:ka.gk<a6:=by have:=J.lt;omega
 have f8:g5<a6:=by have:=I.lt;omega
 have z6:=q6.size;replace J:=J.ext q6;replace I:=I.ext q6;replace hC:=hC.next q6;refine z0b (z0d 14 U (z0w h y3y U λw7 O q7 hz a h=>?_));obtain⟨b0,hg⟩:∃g,g=w6.heap.size:=⟨_,rfl⟩;rw[<-hg]at O h hz;have c9.gk_9:ka.gk<b0:=by have:=J.lt;omega
 have i0:g5<b0:=by have:=I.lt;omega
 have i9:a6<b0:=by have:=D.lt;omega
 have z7:=q7.size;replace M:=M.ext (q6.n1 q7);replace D:=D.ext q7;replace hC:=hC.next q7;exact z0b (f1 ((b0,a6),qn,(e2,e3),sn,d0) _ _ _ kr (h.sub (.d8 U U U U U U U U (.cons U .nil))) ⟨hC,⟨sm,sm,sm⟩,(λe=>⟨(a5 e).1,(a5 e).2.1,(a5 e).2.2.1,(a5 e).2.2.2.1,(λa2=>by have b8:=e1 e _ a2;have a9:=(M e).blk _ a2;simp only at b8 a9;omega),(λa2=>by have b8:=e1 e _ a2;have a9:=(M e).blk _ a2;simp only at b8 a9;omega)⟩),O,D,(λe=>(M e).low oo)⟩);refine z0w h y3y U λw8 O q8 hz a h=>?_;obtain⟨b0,hg⟩:∃g,g=w2.heap.size:=⟨_,rfl⟩;rw[<-hg]at O h hz;have c9.gk_9:ka.gk<b0:=by have:=J.lt;omega
 have i0:g5<b0:=by have:=I.lt;omega
 have z8:=q8.size;replace hM:=hM.ext q8;replace J:=J.ext q8;replace I:=I.ext q8;replace hC:=hC.next q8;refine z0b (z1x 9 15 kr U ?_ ?_);refine z0o h (z0a U z0f) v4o (y1v (m.ys.getD j yq0) _ (hM.y.ins j oo).sl (λk J=>((hM.y.ins j oo).blk k J).2)) ?_;rintro _ w9 ⟨qn,e2,e3,sn,d0,rfl,a5,q9⟩ a h;have z9:=q9.size;replace J:=J.ext q9;replace I:=I.ext q9;replace O:=O.ext q9;replace hC:=hC.next q9;have M:OwnIf ((mkE (m.ys.getD j yq0).p)=0) z2e 97 _ _ (slv sn) d0:=λhc=>(a5 hc).2.2.2.2;have e1:=λhc k J=>((M hc).blk k J).2;refine z0b (z0e 10 h U λa h=>z0m 11 h U λa h=>z0m 12 h U λa h=>z0m 13 h U λa h=>z0d 15 U (z0w h x1y U λB1 D o1 hz a h=>?_));obtain⟨a6,hg⟩:∃g,g=w9.heap.size:=⟨_,rfl⟩;rw[<-hg]at D h hz;have c9.gk_10:ka.gk<a6:=by have:=J.lt;omega
 have f8:g5<a6:=by have:=I.lt;omega
 have j0:b0<a6:=by have:=O.lt;omega
 have E5:=o1.size;replace O:=O.ext o1;replace M:=M.ext o1;replace hC:=hC.next o1;exact z0b (f1 ((b0,a6),qn,(e2,e3),sn,d0) _ _ _ kr (h.sub (.d8 U U U U U U U U (.cons U .nil))) ⟨hC,⟨sm,sm,sm⟩,(λe=>⟨(a5 e).1,(a5 e).2.1,(a5 e).2.2.1,(a5 e).2.2.2.1,(λa2=>by have b8:=e1 e _ a2;have a9:=(M e).blk _ a2;simp only at b8 a9;omega),(λa2=>by have b8:=e1 e _ a2;have a9:=(M e).blk _ a2;simp only at b8 a9;omega)⟩),O,D,(λe=>(M e).low oo)⟩);refine z0w h x1y U λB2 D l9 hz a h=>?_;obtain⟨a6,hg⟩:∃g,g=w8.heap.size:=⟨_,rfl⟩;rw[<-hg]at D h hz;have c9.gk_10:ka.gk<a6:=by have:=J.lt;omega
 have f8:g5<a6:=by have:=I.lt;omega
 have j0:b0<a6:=by have:=O.lt;omega
 have E6:=l9.size;replace hM:=hM.ext l9;replace J:=J.ext l9;replace hC:=hC.next l9;refine z0b (z0d 9 U (z0o h (z0a U z0f) v4o (y1v (m.ys.getD j yq0) _ (hM.y.ins j oo).sl (λk J=>((hM.y.ins j oo).blk k J).2)) ?_));rintro _ B3 ⟨qn,e2,e3,sn,d0,rfl,a5,m0⟩ a h;have E7:=m0.size;replace J:=J.ext m0;replace O:=O.ext (l9.n1 m0);replace D:=D.ext m0;replace hC:=hC.next m0;have M:OwnIf ((mkE (m.ys.getD j yq0).p)=0) z2e 97 _ _ (slv sn) d0:=λhc=>(a5 hc).2.2.2.2;have e1:=λhc k J=>((M hc).blk k J).2;refine z0b (z0e 10 h U λa h=>z0m 11 h U λa h=>z0m 12 h U λa h=>z0m 13 h U λa h=>?_);exact f1 ((b0,a6),qn,(e2,e3),sn,d0) _ _ _ kr (h.sub (.d8 U U U U U U U U (.cons U .nil))) ⟨hC,⟨sm,sm,sm⟩,(λe=>⟨(a5 e).1,(a5 e).2.1,(a5 e).2.2.1,(a5 e).2.2.2.1,(λa2=>by have b8:=e1 e _ a2;have a9:=(M e).blk _ a2;simp only at b8 a9;omega),(λa2=>by have b8:=e1 e _ a2;have a9:=(M e).blk _ a2;simp only at b8 a9;omega)⟩),O,D,(λe=>(M e).low oo)⟩;refine z0w h x1y U λx2 D m4 hz a h=>?_;obtain⟨a6,hg⟩:∃g,g=w2.heap.size:=⟨_,rfl⟩;rw[<-hg]at D h hz;have c9.gk_10:ka.gk<a6:=by have:=J.lt;omega
 have f8:g5<a6:=by have:=I.lt;omega
 have E8:=m4.size;replace hM:=hM.ext m4;replace J:=J.ext m4;replace I:=I.ext m4;replace hC:=hC.next m4;refine z0b (z1x 9 14 kr U ?_ ?_);refine z0o h (z0a U z0f) v4o (y1v (m.ys.getD j yq0) _ (hM.y.ins j oo).sl (λk J=>((hM.y.ins j oo).blk k J).2)) ?_;rintro _ x3 ⟨qn,e2,e3,sn,d0,rfl,a5,m5⟩ a h;have E9:=m5.size;replace J:=J.ext m5;replace I:=I.ext m5;replace D:=D.ext m5;replace hC:=hC.next m5;have M:OwnIf ((mkE (m.ys.getD j yq0).p)=0) z2e 97 _ _ (slv sn) d0:=λhc=>(a5 hc).2.2.2.2;have e1:=λhc k J=>((M hc).blk k J).2;refine z0b (z0e 10 h U λa h=>z0m 11 h U λa h=>z0m 12 h U λa h=>z0m 13 h U λa h=>z0d 14 U (z0w h y3y U λB4 O o2 hz a h=>?_));obtain⟨b0,hg⟩:∃g,g=x3.heap.size:=⟨_,rfl⟩;rw[<-hg]at O h hz;have c9.gk_9:ka.gk<b0:=by have:=J.lt;omega
 have i0:g5<b0:=by have:=I.lt;omega
 have i9:a6<b0:=by have:=D.lt;omega
 have F0:=o2.size;replace D:=D.ext o2;replace M:=M.ext o2;replace hC:=hC.next o2;exact z0b (f1 ((b0,a6),qn,(e2,e3),sn,d0) _ _ _ kr (h.sub (.d8 U U U U U U U U (.cons U .nil))) ⟨hC,⟨sm,sm,sm⟩,(λe=>⟨(a5 e).1,(a5 e).2.1,(a5 e).2.2.1,(a5 e).2.2.2.1,(λa2=>by have b8:=e1 e _ a2;have a9:=(M e).blk _ a2;simp only at b8 a9;omega),(λa2=>by have b8:=e1 e _ a2;have a9:=(M e).blk _ a2;simp only at b8 a9;omega)⟩),O,D,(λe=>(M e).low oo)⟩);refine z0w h y3y U λB5 O k9 hz a h=>?_;obtain⟨b0,hg⟩:∃g,g=x2.heap.size:=⟨_,rfl⟩;rw[<-hg]at O h hz;have c9.gk_9:ka.gk<b0:=by have:=J.lt;omega
 have i0:g5<b0:=by have:=I.lt;omega
 have i9:a6<b0:=by have:=D.lt;omega
 have F1:=k9.size;replace hM:=hM.ext k9;replace J:=J.ext k9;replace I:=I.ext k9;replace D:=D.ext k9;replace hC:=hC.next k9;refine z0b (z0d 9 U (z0o h (z0a U z0f) v4o (y1v (m.ys.getD j yq0) _ (hM.y.ins j oo).sl (λk J=>((hM.y.ins j oo).blk k J).2)) ?_));rintro _ B6 ⟨qn,e2,e3,sn,d0,rfl,a5,hq⟩ a h;have F2:=hq.size;replace hM:=hM.ext hq;replace J:=J.ext hq;replace I:=I.ext hq;replace D:=D.ext hq;replace O:=O.ext hq;replace hC:=hC.next hq;have A9:=hq;have M:OwnIf ((mkE (m.ys.getD j yq0).p)=0) z2e 97 _ _ (slv sn) d0:=λhc=>(a5 hc).2.2.2.2;have e1:=λhc k J=>((M hc).blk k J).2;refine z0b (z0e 10 h U λa h=>z0m 11 h U λa h=>z0m 12 h U λa h=>z0m 13 h U λa h=>?_);exact f1 ((b0,a6),qn,(e2,e3),sn,d0) _ _ _ kr (h.sub (.d8 U U U U U U U U (.cons U .nil))) ⟨hC,⟨sm,sm,sm⟩,(λe=>⟨(a5 e).1,(a5 e).2.1,(a5 e).2.2.1,(a5 e).2.2.2.1,(λa2=>by have b8:=e1 e _ a2;have a9:=(M e).blk _ a2;simp only at b8 a9;omega),(λa2=>by have b8:=e1 e _ a2;have a9:=(M e).blk _ a2;simp only at b8 a9;omega)⟩),O,D,(λe=>(M e).low oo)⟩;rintro⟨⟨b0,a6⟩,qn,⟨e2,e3⟩,sn,d0⟩ a w18 ⟨hC,⟨p6,l6,hz910⟩,a5,O,D,M⟩ h;simp only at p6 l6 hz910 a5 O D M;have o3:=hC;have F3:=o3.size;replace J:=J.ext o3;replace I:=I.ext o3;refine z0d 16 U (z0t h U O U z7i ?_ (h1:=(by first|(simp[Value.oneCell',S];done)|exact z3a.one (m.ys.getD j yq0))));clear h a;intro x4 i8 j7 hz a h;have F5:=j7.size;replace J:=J.fr j7;replace I:=I.fr j7;replace D:=D.fr j7;replace M:=M.fr j7 (by intro l3 k J a2;simp at J;subst J;first|exact(a5 l3).2.2.2.2.1 a2|exact(a5 l3).2.2.2.2.2 a2);replace hC:=hC.sp j7;clear O hz;have O:Blk x4 b0 _ [_,_,_,_,_]:=i8;clear i8;refine z0b (z0d 17 U (z0t h U D U x3k ?_ (h1:=(by first|(simp[Value.oneCell',S];done)|exact z3a.one (m.ys.getD j yq0)))));clear h a;intro x5 i8 j8 hz a h;have F6:=j8.size;replace J:=J.fr j8;replace I:=I.fr j8;replace O:=O.fr j8;replace M:=M.fr j8 (by intro l3 k J a2;simp at J;subst J;first|exact(a5 l3).2.2.2.2.1 a2|exact(a5 l3).2.2.2.2.2 a2);replace hC:=hC.sp j8;clear D hz;have D:Blk x5 a6 _ [_,_,_]:=i8;clear i8;refine z0b (z0d 18 U (z0r h U λa h=>?_));refine z0b (z0p ?_);clear hC d1 b9 b3;exact bk (h.sub (L':=[(0,_),(2,_),(3,_),(5,_),(9,_),(10,_),(11,_)]) (.c7 U U U U U U U)) (jE ((b0,a6)) (.c7 U U U U U U U) ⟨(q2.z3 o3 j7 j8),⟨qn,e2,e3,sn,d0,⟨sm,sm,λe=>⟨(a5 e).1,(a5 e).2.1,(a5 e).2.2.1,(a5 e).2.2.2.1⟩⟩,O,D,λe=>(M e).low oo⟩⟩);rintro⟨g9,f2⟩ B7 ⟨h4,⟨qn,e2,e3,sn,d0,⟨p6,l6,a5⟩,O,D,M⟩⟩;have F7:=h4.size;have u2:=O.lt;have s8:=D.lt;simp only at p6 l6 O D;refine kpC [(0,_),(2,_),(3,_),(5,_),(9,.pointer (some ⟨g9,0,none⟩)),(10,.pointer (some ⟨f2,0,none⟩)),(11,.int .i64 (mkE (m.ys.getD j yq0).p))] (.c7 U U U U U U U) (sq (sr (mv U U (ne' U (nn (cd U (λc0=>?_) (λc0=>?_)))))));refine sr (mv U U (asg U (kpL [(8,_)] (.cons U .nil) (nn (rt (tr (r1 results149 U ?_)))))));replace hM:=h8.ext (q1.n1 h4);exact⟨_,rfl,MRet.err (by unfold y5m;rw[l5,if_pos c0]) c0 hM.fr⟩;replace J:=J.ext (q1.n1 h4);have l4:(mkE (m.ys.getD j yq0).p)=0:=Classical.not_not.1 c0;obtain⟨rfl,rfl,rfl,rfl⟩:=a5 l4;replace M:=M l4;have g0:=λk J=>(M.blk k J).2;obtain⟨m9,n8,n7⟩:=j3u hi hy hs (by rw[l5];exact l4);rw[l5]at m9 n8 n7;refine sk (tn (sq (sr (mv U U (nlc U (fad U y3a (z0i U J U x4q ?_)))))));replace hM:=h8.ext (q1.n1 h4);refine cl (ev1 U) (mkC func201) (y4e _ m.ts _ hM.t.at.1 hM.t.at.2 oo) U ?_;rintro _ B8 ⟨rfl,e7⟩;have F8:=e7.size;refine ge' U U (kpL [(0,_),(2,_),(3,_),(5,_),(9,_),(10,_),(37,_)] (.c7 U U U U U U U) (nn (cd U (λc1=>?_) (λc1=>?_))));refine sr (asg U (kpL [(8,_)] (.cons U .nil) (nn (rt (tr (r1 results149 U ?_))))));replace hM:=h8.ext (q1.n2 h4 e7);exact⟨_,rfl,MRet.err (by unfold y5m;rw[l5,if_neg (λe=>e l4),if_pos (show 2048<=z4f m.p.tb by have:m.p.tb=z1r m.ts:=rfl;rw[this];omega)]) dd hM.fr⟩;refine sk (tn (sr (fad U z3i ?_)));replace I:=I.ext (h4.n1 e7);refine z0i U I U na5 (fad U j4t ?_);replace D:=D.ext e7;refine z0i U D U na3 (z1y (cs:=[_,_]) (ev2 U) j8c (z0g U (z0g U z0s)) U ?_);refine al y0n U (λf9 B9 y6 a4 f4 F9=>?_);refine z0k (vs:=[_,_]) U a4 y0c (λC0 a4 f5 G0=>?_) (h1:=(by first|(simp[Value.oneCell',S];done)|exact z3a.one (m.ys.getD j yq0)));refine kpL [(0,_),(2,_),(3,_),(5,_),(9,_),(10,_),(12,_)] (.c7 U U U U U U U) (nn (sr (fad U z3h (x3h U z6v U ?_))));replace I:=(I.ext f4).fr f5;refine z0i U I U x9d (fad U j3r ?_);replace D:=(D.ext f4).fr f5;refine z0i U D U na4 (mv U U (fad U j2z (z0i U D U x4v (z1y (cs:=[_,_,_,_]) (ev4 U) k2a (z0g U (z0g U (z0g U (z0g U z0s)))) U ?_))));refine al x6b U (λf3 C1 y7 a0 e8 G1=>?_);refine z0k (vs:=[_,_,_,_]) U a0 v2l (λp9 a0 e9 G2=>?_) (h1:=(by first|(simp[Value.oneCell',S];done)|exact z3a.one (m.ys.getD j yq0)));refine kpL [(0,_),(3,_),(5,_),(9,_),(12,_),(13,_)] (.c6 U U U U U U) (nn (jn (ι:=Nat) [(0,_),(5,_),(9,_),(13,_)] (λg_=>[(14,.pointer (some ⟨g_,0,none⟩)),(11,.int .i64 0)]) (λg_ w'=>Fr [] p9 w'/\∃q':BdQ,(p9.heap.size<=g_/\q'.p=m.q.p.put o.b o.p (st++[(⟨o.y,(m.ys.getD j yq0).ct⟩:LId)]))/\Blk w' g_ 50 (bdL q')/\BdO 27 73 (max wS.heap.size p9.heap.size) w' q') (.c4 U U U U) ?_ ?_));replace hM:=h8.ext (q1.z6 h4 e7 f4 f5 e8 e9);replace J:=(((J.ext (e7.n1 f4)).fr f5).ext e8).fr e9;replace b6:=s5.ext (q1.z6 h4 e7 f4 f5 e8 e9);replace I:=(I.ext e8).fr e9;replace O:=(((O.ext (e7.n1 f4)).fr f5).ext e8).fr e9;replace D:=(D.ext e8).fr e9;replace M:=(((M.ext (e7.n1 f4)).fr f5 (by intro k J a2;simp at J;subst J;have a9:=M.blk _ a2;have k8:=g0 _ a2;omega)).ext e8).fr e9 (by intro k J a2;simp at J;subst J;have a9:=M.blk _ a2;have k8:=g0 _ a2;omega);replace a4:=(a4.ext e8).fr e9;intro a h;refine z0h none (λwb w'=>Fr [] wb w') z2m ?_;intro d7 g7;have G3:=g7.size;replace hM:=hM.ext g7;replace J:=J.ext g7;replace b6:=b6.ext g7;replace I:=I.ext g7;replace O:=O.ext g7;replace D:=D.ext g7;replace M:=M.ext g7;replace a4:=a4.ext g7;replace a0:=a0.ext g7;have hC:Fr [] d7 d7:=Fr.refl _ _;have d1:=hM;have b9:=J;have p4:=b6;have b3:=I;have h9:=O;have m8:=D;have g3:=M;have k1:=a4;have d9:=a0;refine y1h (ι:=Nat×BdQ) h [(0,_),(3,_),(5,_),(9,_),(12,_),(13,_)] (.c6 U U U U U U) #[true,true,true,true,true,true,true,true,true,true,true,true,true,true,true,true,false,false] 2 (λp=>[(14,.pointer (some ⟨p.1,0,none⟩)),(65,.agg #[.slice p.2.f.1 p.2.f.2.1 p.2.f.2.2,.slice p.2.b.1 p.2.b.2.1 p.2.b.2.2]),(66,.int .i64 0)]) (λp w'=>Fr [] d7 w'/\(d7.heap.size<=p.1/\p.2.p=m.q.p.put o.b o.p (st++[(⟨o.y,(m.ys.getD j yq0).ct⟩:LId)]))/\Blk w' p.1 50 [.slice none 0 0,.slice none 0 0]/\BdO 27 73 (max wS.heap.size d7.heap.size) w' p.2) (λj6=>?_) ?_;refine y1h (ι:=(Nat×Nat)×Nat) h [(0,_),(3,_),(5,_),(9,_),(12,_),(13,_)] (.c6 U U U U U U) #[true,true,true,true,true,true,true,true,true,true,false,false,false,false,false,true,false,false] 7 (λp=>[(56,.agg #[.slice m.q.f.1 m.q.f.2.1 m.q.f.2.2,.slice m.q.b.1 m.q.b.2.1 m.q.b.2.2]),(58,.agg #[.int .u8 o.b,.int .i64 o.p]),(60,.slice (some ⟨p.1.1,0,none⟩) st.length st.length),(62,.slice (some ⟨p.1.2,0,none⟩) 1 1),(14,.pointer (some ⟨p.2,0,none⟩))]) (λp w'=>Fr [] d7 w'/\(d7.heap.size<=p.1.1/\d7.heap.size<=p.1.2)/\Lw.Own z1f 73 d7.heap.size w' (.slice (some ⟨p.1.1,0,none⟩) st.length st.length) st/\Lw.Own z1f 73 d7.heap.size w' (.slice (some ⟨p.1.2,0,none⟩) 1 1) [(⟨o.y,(m.ys.getD j yq0).ct⟩:LId)]/\d7.heap.size<=p.2/\Blk w' p.2 50 [.slice none 0 0,.slice none 0 0]) (λg1=>?_) ?_;refine y1h (ι:=Nat×Nat) h [(0,_),(3,_),(5,_),(9,_),(12,_),(13,_)] (.c6 U U U U U U) #[true,true,true,true,true,true,true,true,true,true,false,false,false,false,false,false,false,false] 8 (λp=>[(56,.agg #[.slice m.q.f.1 m.q.f.2.1 m.q.f.2.2,.slice m.q.b.1 m.q.b.2.1 m.q.b.2.2]),(58,.agg #[.int .u8 o.b,.int .i64 o.p]),(60,.slice (some ⟨p.1,0,none⟩) st.length st.length),(62,.slice (some ⟨p.2,0,none⟩) 1 1)]) (λp w'=>Fr [] d7 w'/\(d7.heap.size<=p.1/\d7.heap.size<=p.2)/\Lw.Own z1f 73 d7.heap.size w' (.slice (some ⟨p.1,0,none⟩) st.length st.length) st/\Lw.Own z1f 73 d7.heap.size w' (.slice (some ⟨p.2,0,none⟩) 1 1) [(⟨o.y,(m.ys.getD j yq0).ct⟩:LId)]) (λl2=>?_) ?_;refine z0e 0 h U λa h=>z0l 1 h U λa h=>z0c 2 h U z3f U λa h=>z1a (vs:=[_,_]) 3 h U (λ_ hw=>(b9.ext hw)) z4w U U λa h=>z0c 4 h U z3h U λa h=>z1a (vs:=[_,_]) 5 h U (λ_ hw=>(b3.ext hw)) z4k U U λa h=>z0e 6 h U λa h=>z0v 8 h U (λ_ hw=>k1.ext hw) z2y U λa h=>x0z 7 9 15 kr U U U ?_ ?_ ?_;refine z0o h (z0a U z0f) x1v (z3t _ st _ b6 oo) ?_;rintro _ x6 ⟨f0,rfl,k2,hX,g8⟩ a h;have G4:=g8.size;replace hM:=hM.ext g8;replace J:=J.ext g8;replace b6:=b6.ext g8;replace I:=I.ext g8;replace O:=O.ext g8;replace D:=D.ext g8;replace M:=M.ext g8;replace a4:=a4.ext g8;replace a0:=a0.ext g8;replace hC:=hC.next g8;have i7:=λk J=>(hX.blk k J).2;refine z0b (z1x 9 15 kr U ?_ ?_);refine z2s ([(⟨o.y,(m.ys.getD j yq0).ct⟩:LId)]) h (z0a U z0f) U z4x λa3 C2 hg a7 p7 hz a h=>?_;have c9.gk_62:ka.gk<a3:=by have:=J.lt;omega
 have b7:g5<a3:=by have:=I.lt;omega
 have b7:g9<a3:=by have:=O.lt;omega
 have e4:f2<a3:=by have:=D.lt;omega
 have e5:f9<a3:=by have:=a4.lt;omega
 have e6:f3<a3:=by have:=a0.lt;omega
 have G5:=p7.size;replace hX:=hX.ext p7;replace hC:=hC.next p7;exact z0b (l2 (f0,a3) _ _ _ kr (h.sub (.d8 U U U U U U U U (.c2 U U))) ⟨hC,⟨sm,sm⟩,hX.low oo,a7.low oo⟩);refine z0w h x2v U λC3 a1 i2 hz a h=>?_;obtain⟨Z,hg⟩:∃g,g=x6.heap.size:=⟨_,rfl⟩;rw[<-hg]at a1 h hz;have c9.gk_14:ka.gk<Z:=by have:=J.lt;omega
 have b4:g5<Z:=by have:=I.lt;omega
 have b4:g9<Z:=by have:=O.lt;omega
 have d4:f2<Z:=by have:=D.lt;omega
 have d5:f9<Z:=by have:=a4.lt;omega
 have d6:f3<Z:=by have:=a0.lt;omega
 have G6:=i2.size;replace J:=J.ext i2;replace I:=I.ext i2;replace O:=O.ext i2;replace D:=D.ext i2;replace a4:=a4.ext i2;replace a0:=a0.ext i2;replace hC:=hC.next i2;refine z0b (z0d 9 U (z2s ([(⟨o.y,(m.ys.getD j yq0).ct⟩:LId)]) h (z0a U z0f) U z4x λa3 C4 hg a7 o4 hz a h=>?_));have c9.gk_62:ka.gk<a3:=by have:=J.lt;omega
 have b7:g5<a3:=by have:=I.lt;omega
 have b7:g9<a3:=by have:=O.lt;omega
 have e4:f2<a3:=by have:=D.lt;omega
 have e5:f9<a3:=by have:=a4.lt;omega
 have e6:f3<a3:=by have:=a0.lt;omega
 have h7:Z<a3:=by have:=a1.lt;omega
 have G7:=o4.size;replace hX:=hX.ext (i2.n1 o4);replace a1:=a1.ext o4;replace hC:=hC.next o4;exact z0b (g1 ((f0,a3),Z) _ _ _ kr (h.sub (.d8 U U U U U U U U (.c3 U U U))) ⟨hC,⟨sm,sm⟩,hX.low oo,a7.low oo,sm,a1⟩);refine z2s ([(⟨o.y,(m.ys.getD j yq0).ct⟩:LId)]) h (z0a U z0f) U z4x λa3 x7 hg a7 h0 hz a h=>?_;have c9.gk_62:ka.gk<a3:=by have:=J.lt;omega
 have b7:g5<a3:=by have:=I.lt;omega
 have b7:g9<a3:=by have:=O.lt;omega
 have e4:f2<a3:=by have:=D.lt;omega
 have e5:f9<a3:=by have:=a4.lt;omega
 have e6:f3<a3:=by have:=a0.lt;omega
 have G8:=h0.size;replace hM:=hM.ext h0;replace J:=J.ext h0;replace b6:=b6.ext h0;replace I:=I.ext h0;replace O:=O.ext h0;replace D:=D.ext h0;replace M:=M.ext h0;replace a4:=a4.ext h0;replace a0:=a0.ext h0;replace hC:=hC.next h0;refine z0b (z1x 7 15 kr U ?_ ?_);refine z0o h (z0a U z0f) x1v (z3t _ st _ b6 oo) ?_;rintro _ C5 ⟨f0,rfl,k2,hX,o5⟩ a h;have G9:=o5.size;replace J:=J.ext o5;replace a7:=a7.ext o5;replace hC:=hC.next o5;have i7:=λk J=>(hX.blk k J).2;exact z0b (l2 (f0,a3) _ _ _ kr (h.sub (.d8 U U U U U U U U (.c2 U U))) ⟨hC,⟨sm,sm⟩,hX.low oo,a7.low oo⟩);refine z0w h x2v U λC6 a1 m6 hz a h=>?_;obtain⟨Z,hg⟩:∃g,g=x7.heap.size:=⟨_,rfl⟩;rw[<-hg]at a1 h hz;have c9.gk_14:ka.gk<Z:=by have:=J.lt;omega
 have b4:g5<Z:=by have:=I.lt;omega
 have b4:g9<Z:=by have:=O.lt;omega
 have d4:f2<Z:=by have:=D.lt;omega
 have d5:f9<Z:=by have:=a4.lt;omega
 have d6:f3<Z:=by have:=a0.lt;omega
 have r4:a3<Z:=by have:=(a7.blk a3 (by simp[z0u])).2;omega
 have H0:=m6.size;replace b6:=b6.ext m6;replace hC:=hC.next m6;refine z0b (z0d 7 U (z0o h (z0a U z0f) x1v (z3t _ st _ b6 oo) ?_));rintro _ C7 ⟨f0,rfl,k2,hX,m7⟩ a h;have H1:=m7.size;replace J:=J.ext (m6.n1 m7);replace a7:=a7.ext (m6.n1 m7);replace a1:=a1.ext m7;replace hC:=hC.next m7;have i7:=λk J=>(hX.blk k J).2;exact z0b (g1 ((f0,a3),Z) _ _ _ kr (h.sub (.d8 U U U U U U U U (.c3 U U U))) ⟨hC,⟨sm,sm⟩,hX.low oo,a7.low oo,sm,a1⟩);refine z0w h x2v U λC8 a1 h2 hz a h=>?_;obtain⟨Z,hg⟩:∃g,g=d7.heap.size:=⟨_,rfl⟩;rw[<-hg]at a1 h hz;have c9.gk_14:ka.gk<Z:=by have:=J.lt;omega
 have b4:g5<Z:=by have:=I.lt;omega
 have b4:g9<Z:=by have:=O.lt;omega
 have d4:f2<Z:=by have:=D.lt;omega
 have d5:f9<Z:=by have:=a4.lt;omega
 have d6:f3<Z:=by have:=a0.lt;omega
 have H2:=h2.size;replace hM:=hM.ext h2;replace J:=J.ext h2;replace b6:=b6.ext h2;replace I:=I.ext h2;replace O:=O.ext h2;replace D:=D.ext h2;replace M:=M.ext h2;replace a4:=a4.ext h2;replace a0:=a0.ext h2;replace hC:=hC.next h2;refine z0b (z1x 7 9 kr U ?_ ?_);refine z0o h (z0a U z0f) x1v (z3t _ st _ b6 oo) ?_;rintro _ C9 ⟨f0,rfl,k2,hX,i3⟩ a h;have H3:=i3.size;replace J:=J.ext i3;replace I:=I.ext i3;replace O:=O.ext i3;replace D:=D.ext i3;replace a4:=a4.ext i3;replace a0:=a0.ext i3;replace a1:=a1.ext i3;replace hC:=hC.next i3;have i7:=λk J=>(hX.blk k J).2;refine z0b (z0d 9 U (z2s ([(⟨o.y,(m.ys.getD j yq0).ct⟩:LId)]) h (z0a U z0f) U z4x λa3 D0 hg a7 o6 hz a h=>?_));have c9.gk_62:ka.gk<a3:=by have:=J.lt;omega
 have b7:g5<a3:=by have:=I.lt;omega
 have b7:g9<a3:=by have:=O.lt;omega
 have e4:f2<a3:=by have:=D.lt;omega
 have e5:f9<a3:=by have:=a4.lt;omega
 have e6:f3<a3:=by have:=a0.lt;omega
 have h7:Z<a3:=by have:=a1.lt;omega
 have H4:=o6.size;replace a1:=a1.ext o6;replace hX:=hX.ext o6;replace hC:=hC.next o6;exact z0b (g1 ((f0,a3),Z) _ _ _ kr (h.sub (.d8 U U U U U U U U (.c3 U U U))) ⟨hC,⟨sm,sm⟩,hX.low oo,a7.low oo,sm,a1⟩);refine z2s ([(⟨o.y,(m.ys.getD j yq0).ct⟩:LId)]) h (z0a U z0f) U z4x λa3 D1 hg a7 f6 hz a h=>?_;have c9.gk_62:ka.gk<a3:=by have:=J.lt;omega
 have b7:g5<a3:=by have:=I.lt;omega
 have b7:g9<a3:=by have:=O.lt;omega
 have e4:f2<a3:=by have:=D.lt;omega
 have e5:f9<a3:=by have:=a4.lt;omega
 have e6:f3<a3:=by have:=a0.lt;omega
 have h7:Z<a3:=by have:=a1.lt;omega
 have H5:=f6.size;replace hM:=hM.ext f6;replace J:=J.ext f6;replace b6:=b6.ext f6;replace I:=I.ext f6;replace O:=O.ext f6;replace D:=D.ext f6;replace M:=M.ext f6;replace a4:=a4.ext f6;replace a0:=a0.ext f6;replace a1:=a1.ext f6;replace hC:=hC.next f6;refine z0b (z0d 7 U (z0o h (z0a U z0f) x1v (z3t _ st _ b6 oo) ?_));rintro _ D2 ⟨f0,rfl,k2,hX,hq⟩ a h;have H6:=hq.size;replace hM:=hM.ext hq;replace J:=J.ext hq;replace b6:=b6.ext hq;replace I:=I.ext hq;replace O:=O.ext hq;replace D:=D.ext hq;replace M:=M.ext hq;replace a4:=a4.ext hq;replace a0:=a0.ext hq;replace a1:=a1.ext hq;replace a7:=a7.ext hq;replace hC:=hC.next hq;have B0:=hq;have i7:=λk J=>(hX.blk k J).2;exact z0b (g1 ((f0,a3),Z) _ _ _ kr (h.sub (.d8 U U U U U U U U (.c3 U U U))) ⟨hC,⟨sm,sm⟩,hX.low oo,a7.low oo,sm,a1⟩);rintro⟨f0,a3⟩ a x8 ⟨hC,⟨l7,l8⟩,hX,a7⟩ h;simp only at l7 l8 hX a7;have h5:=hC;have H7:=h5.size;replace hM:=hM.ext h5;replace J:=J.ext h5;replace b6:=b6.ext h5;replace I:=I.ext h5;replace O:=O.ext h5;replace D:=D.ext h5;replace M:=M.ext h5;replace a4:=a4.ext h5;replace a0:=a0.ext h5;have i7:=λk h_=>(hX.blk k h_).2;refine z1x 10 15 kr U ?_ ?_;have a8:=hX;refine z5m h U U hX a7.sl z4x U λx1 x9 hX i4 p3 a h=>?_;obtain⟨u3,u4,rfl,r7⟩:=hX.sl.form;have i7:=λk J=>(hX.blk k J).2;have H8:=i4.size;replace J:=J.fr i4 (λb5=>a8.neB J dd b5);replace I:=I.fr i4 (λb5=>a8.neB I dd b5);replace O:=O.fr i4 (λb5=>a8.neB O dd b5);replace D:=D.fr i4 (λb5=>a8.neB D dd b5);replace M:=M.fr i4 (Own.neO a8 M dd);replace a4:=a4.fr i4 (λb5=>by have:=(a8.blk _ b5).1;omega);replace a0:=a0.fr i4 (λb5=>a8.neB a0 dd b5);replace hC:=hC.step i4 (λk J p1=>absurd (a8.blk k J).1 oo);refine z0b (z1x 11 15 kr U ?_ ?_);refine z0o h (z0a U (z0a U (z0a U z0f))) x5z (by have x:=y4y m.q o.b n _ (st++[(⟨o.y,(m.ys.getD j yq0).ct⟩:LId)]) _ (d1.ext hC).b.at hX.sl hv (by rw[<-i1];exact hn) m9 n8 (by rw[<-i1];exact n7);rw[<-i1]at x;exact x) ?_;rintro _ y0 ⟨⟨q',rfl,hQ,h3⟩,q43⟩ a h;have H9:=q43.size;replace J:=J.ext q43;replace I:=I.ext q43;replace O:=O.ext q43;replace D:=D.ext q43;replace a4:=a4.ext q43;replace a0:=a0.ext q43;replace hC:=hC.next q43;refine z0b (z0e 12 h U λa h=>z0m 13 h U λa h=>z0m 14 h U λa h=>z0d 15 U (z0w h x2v U λD3 a1 o7 hz a h=>?_));obtain⟨Z,hg⟩:∃g,g=y0.heap.size:=⟨_,rfl⟩;rw[<-hg]at a1 h hz;have c9.gk_14:ka.gk<Z:=by have:=J.lt;omega
 have b4:g5<Z:=by have:=I.lt;omega
 have b4:g9<Z:=by have:=O.lt;omega
 have d4:f2<Z:=by have:=D.lt;omega
 have d5:f9<Z:=by have:=a4.lt;omega
 have d6:f3<Z:=by have:=a0.lt;omega
 have I0:=o7.size;first|replace hQ:=BdO.ext hQ o7|replace hQ:=BdO.tf hQ o7 (OffT.one a1 dd) (OffT.one a1 dd)
 replace hC:=hC.next o7;exact z0b (j6 (Z,q') _ _ _ kr (h.sub (.d8 U U U U U U U U (.cons U .nil))) ⟨hC,⟨sm,h3⟩,a1,BdO.low hQ oo⟩);refine z0w h x2v U λD4 a1 p8 hz a h=>?_;obtain⟨Z,hg⟩:∃g,g=x9.heap.size:=⟨_,rfl⟩;rw[<-hg]at a1 h hz;have c9.gk_14:ka.gk<Z:=by have:=J.lt;omega
 have b4:g5<Z:=by have:=I.lt;omega
 have b4:g9<Z:=by have:=O.lt;omega
 have d4:f2<Z:=by have:=D.lt;omega
 have d5:f9<Z:=by have:=a4.lt;omega
 have d6:f3<Z:=by have:=a0.lt;omega
 have I1:=p8.size;replace hX:=hX.ext p8;replace hC:=hC.next p8;refine z0b (z0d 11 U (z0o h (z0a U (z0a U (z0a U z0f))) x5z (by have x:=y4y m.q o.b n _ (st++[(⟨o.y,(m.ys.getD j yq0).ct⟩:LId)]) _ (d1.ext hC).b.at hX.sl hv (by rw[<-i1];exact hn) m9 n8 (by rw[<-i1];exact n7);rw[<-i1]at x;exact x) ?_));rintro _ D5 ⟨⟨q',rfl,hQ,h3⟩,q46⟩ a h;have I2:=q46.size;replace a1:=a1.ext q46;replace hC:=hC.next q46;refine z0b (z0e 12 h U λa h=>z0m 13 h U λa h=>z0m 14 h U λa h=>?_);exact j6 (Z,q') _ _ _ kr (h.sub (.d8 U U U U U U U U (.cons U .nil))) ⟨hC,⟨sm,h3⟩,a1,BdO.low hQ oo⟩;refine z0w h x2v U λD6 a1 o8 hz a h=>?_;obtain⟨Z,hg⟩:∃g,g=x8.heap.size:=⟨_,rfl⟩;rw[<-hg]at a1 h hz;have c9.gk_14:ka.gk<Z:=by have:=J.lt;omega
 have b4:g5<Z:=by have:=I.lt;omega
 have b4:g9<Z:=by have:=O.lt;omega
 have d4:f2<Z:=by have:=D.lt;omega
 have d5:f9<Z:=by have:=a4.lt;omega
 have d6:f3<Z:=by have:=a0.lt;omega
 have I3:=o8.size;replace hX:=hX.ext o8;replace a7:=a7.ext o8;replace hC:=hC.next o8;exact z0b (g1 ((f0,a3),Z) _ _ _ kr (h.sub (.d8 U U U U U U U U (.c3 U U U))) ⟨hC,⟨sm,sm⟩,hX.low oo,a7.low oo,sm,a1⟩);rintro⟨⟨f0,a3⟩,Z⟩ a w48 ⟨hC,⟨l7,l8⟩,hX,a7,k7,a1⟩ h;simp only at l7 l8 hX a7 k7 a1;have j1:=hC;have I4:=j1.size;replace J:=J.ext j1;replace I:=I.ext j1;replace O:=O.ext j1;replace D:=D.ext j1;replace M:=M.ext j1;replace a4:=a4.ext j1;replace a0:=a0.ext j1;have i7:=λk h_=>(hX.blk k h_).2;refine z0d 10 U ?_;have a8:=hX;refine z5m h U U hX a7.sl z4x U λx1 D7 hX h6 p3 a h=>?_;obtain⟨u3,u4,rfl,r7⟩:=hX.sl.form;have i7:=λk J=>(hX.blk k J).2;have I5:=h6.size;replace J:=J.fr h6 (λb5=>a8.neB J dd b5);replace I:=I.fr h6 (λb5=>a8.neB I dd b5);replace O:=O.fr h6 (λb5=>a8.neB O dd b5);replace D:=D.fr h6 (λb5=>a8.neB D dd b5);replace M:=M.fr h6 (Own.neO a8 M dd);replace a4:=a4.fr h6 (λb5=>by have:=(a8.blk _ b5).1;omega);replace a0:=a0.fr h6 (λb5=>a8.neB a0 dd b5);replace a1:=a1.fr h6 (λb5=>a8.neB a1 dd b5);replace hC:=hC.step h6 (λk J p1=>absurd (a8.blk k J).1 oo);refine z0b (z0d 11 U (z0o h (z0a U (z0a U (z0a U z0f))) x5z (by have x:=y4y m.q o.b n _ (st++[(⟨o.y,(m.ys.getD j yq0).ct⟩:LId)]) _ (d1.ext hC).b.at hX.sl hv (by rw[<-i1];exact hn) m9 n8 (by rw[<-i1];exact n7);rw[<-i1]at x;exact x) ?_));rintro _ D8 ⟨⟨q',rfl,hQ,h3⟩,q50⟩ a h;have I6:=q50.size;replace a1:=a1.ext q50;replace hC:=hC.next q50;refine z0b (z0e 12 h U λa h=>z0m 13 h U λa h=>z0m 14 h U λa h=>?_);exact j6 (Z,q') _ _ _ kr (h.sub (.d8 U U U U U U U U (.cons U .nil))) ⟨hC,⟨sm,h3⟩,a1,BdO.low hQ oo⟩;rintro⟨Z,q'⟩ a D9 ⟨hC,⟨k7,h3⟩,a1,hQ⟩ h;simp only at k7 h3 a1 hQ;have i5:=hC;have I7:=i5.size;replace J:=J.ext i5;replace I:=I.ext i5;replace O:=O.ext i5;replace D:=D.ext i5;replace M:=M.ext i5;replace a4:=a4.ext i5;replace a0:=a0.ext i5;refine z0d 16 U (z0t h U a1 U y6h ?_ (h1:=(by first|(simp[Value.oneCell',S];done)|exact z3a.one (m.ys.getD j yq0))));clear h a;intro y1 i8 f7 hz a h;have I8:=f7.size;replace J:=J.fr f7;replace I:=I.fr f7;replace O:=O.fr f7;replace D:=D.fr f7;replace M:=M.fr f7 (by intro k J a2;simp at J;subst J;have a9:=M.blk _ a2;have k8:=g0 _ a2;omega);replace a4:=a4.fr f7;replace a0:=a0.fr f7;first|replace hQ:=BdO.ext hQ f7|replace hQ:=BdO.tf hQ f7 (OffT.one a1 dd) (OffT.one a1 dd)
 replace hC:=hC.sp f7;clear a1 hz;have a1:Blk y1 Z _ [_,_]:=i8;clear i8;refine z0b (z0d 17 U (z0r h U λa h=>?_));refine z0b (z0p ?_);clear hC d1 b9 p4 b3 h9 m8 g3 k1 d9;exact bk (h.sub (L':=[(0,_),(5,_),(9,_),(11,_),(13,_),(14,_)]) (.c6 U U U U U U)) (jE (Z) (.c6 U U U U U U) ⟨(g7.z2 i5 f7),⟨q',⟨oo,h3⟩,a1,BdO.low hQ oo⟩⟩);rintro u5 E0 ⟨j2,⟨q',⟨k7,h3⟩,a1,hQ⟩⟩;have I9:=j2.size;have s9:=a1.lt;refine kpC [(0,_),(5,_),(9,_),(13,_),(14,.pointer (some ⟨u5,0,none⟩)),(11,.int .i64 0)] (.c6 U U U U U U) ?_;have u6:=x2d hQ h8.f oo;refine sq (sr (mv U U (ne' U (nn (cd U (λc2=>?_) (λc2=>?_))))));exact absurd U c2;refine sk (tn (sr (mv U U (z0n U a1 z4w (nlc U (fad U z3f ?_))))));replace hM:=h8.ext ((q1.z6 h4 e7 f4 f5 e8 e9).n1 j2);replace J:=((((J.ext (e7.n1 f4)).fr f5).ext e8).fr e9).ext j2;refine z3m (cs':=u6m ka { m with q:=q' }) U hM.k (by intro u hu;simp at hu;rcases hu with rfl|rfl<;>rfl) y6h U (λE1 s2 l0 J0=>?_);replace hM:=hM.beds mtd (hQ.low oo) s2 l0 u6;have J:=hM.k;have h8:=hM;have r5:=hM;have hF:Lw.Own z1f 73 wS.heap.size _ (slv m.fa) m.fl:=hM.f;clear s2;refine kpL [(0,_),(5,_),(9,_),(13,_)] (.c4 U U U U) (nn (sq ?_));replace I:=(((I.ext e8).fr e9).ext j2).fr l0;replace O:=(((((O.ext (e7.n1 f4)).fr f5).ext e8).fr e9).ext j2).fr l0;replace M:=(((((M.ext (e7.n1 f4)).fr f5 (by intro k J a2;simp at J;subst J;have a9:=M.blk _ a2;have k8:=g0 _ a2;omega)).ext e8).fr e9 (by intro k J a2;simp at J;subst J;have a9:=M.blk _ a2;have k8:=g0 _ a2;omega)).ext j2).fr l0 (by intro k J a2;simp at J;subst J;have a9:=M.blk _ a2;have k8:=g0 _ a2;omega);replace a0:=(a0.ext j2).fr l0;intro a h;refine z0h (some 9) (λwb w'=>Fr [] wb w') z2m ?_;intro t9 j3;have J1:=j3.size;replace hM:=hM.ext j3;replace J:=J.ext j3;replace I:=I.ext j3;replace O:=O.ext j3;replace M:=M.ext j3;replace a0:=a0.ext j3;have hC:Fr [] t9 t9:=Fr.refl _ _;have d1:=hM;have b9:=J;have b3:=I;have h9:=O;have g3:=M;have d9:=a0;refine z0e 0 h U λa h=>z0l 1 h U λa h=>z0c 2 h U z3e U λa h=>z0j 3 h U (λ_ hw=>b9.ext hw) U y4d U λa h=>z0c 4 h U z3i U λa h=>z0j 5 h U (λ_ hw=>b3.ext hw) U na5 U λa h=>z2w 6 h wn U (by first|exact IntWalk.u8_in _ oo|rfl) U λa h=>z0v 7 h U (λ_ hw=>h9.ext hw) z7g U λa h=>z1p 8 kr kr kr hC (p:=j) h wn U y4n oo oo oo U U λa h=>z0d 9 U (z1c (i:=j) ((⟨true,(m.ys.getD j yq0).pl,(m.ys.getD j yq0).ct+1,false,sv0,[]⟩:YQ):YQ) h U hM.y.out (by rw[hM.ly];exact hj) U z7i λy2 p0 j9 _hz a h=>?_);replace hM:=hM.yarn mtd hj p0 j9 (Own.nil _);have h8:=hM;clear p0;have J2:=j9.size;replace I:=I.fr j9;replace O:=O.fr j9;replace M:=M.fr j9 (by intro k J a2;simp at J;subst J;have a9:=M.blk _ a2;have k8:=g0 _ a2;omega);replace a0:=a0.fr j9;have J:=hM.k;clear _hz;refine z1m (z0p ?_);clear hC d1 b9 b3 h9 g3 d9;replace g6:=(((((((g6.ext (q1.n3 h4 e7 f4)).fr f5 (by intro k J a2;simp at J;subst J;first|exact k4 a2|exact k5 a2|(have:=k6 _ a2;omega))).ext e8).fr e9 (by intro k J a2;simp at J;subst J;first|exact k4 a2|exact k5 a2|(have:=k6 _ a2;omega))).ext j2).fr l0 (by intro k J a2;simp at J;subst J;first|exact k4 a2|exact k5 a2|(have:=k6 _ a2;omega))).ext j3).fr j9 (by intro k J a2;simp at J;subst J;first|exact k4 a2|exact k5 a2|(have:=k6 _ a2;omega));have d3:=hM.t.ins j (by rw[hM.lt];exact hj);have u9:=d3;have v8:∀k∈z0u (slv (m.ts.getD j tq0).1),k<y2.heap.size:=λk J=>(d3.blk k J).2;have A6:(m.ts.getD j tq0).2.length<=2048:=by have:=u7y m.ts j;omega
 refine bk (h.sub (L':=[(0,_),(5,_),(13,_)]) (.c3 U U U)) (tn (sq ?_));intro a h;refine z0h (some 20) (λwb w'=>Fr (z0u (slv (m.ts.getD j tq0).1)) wb w') z2m ?_;intro u0 j4;have J3:=j4.size;replace hM:=hM.ext j4;replace J:=J.ext j4;replace g6:=g6.ext j4;replace I:=I.ext j4;replace M:=M.ext j4;replace a0:=a0.ext j4;replace d3:=d3.ext j4;have hC:Fr (z0u (slv (m.ts.getD j tq0).1)) u0 u0:=Fr.refl _ _;have d1:=hM;have b9:=J;have p5:=g6;have b3:=I;have g3:=M;have d9:=a0;have e0:=d3;refine z0e 0 h U λa h=>z0l 1 h U λa h=>z0c 2 h U y3a U λa h=>z0j 3 h U (λ_ hw=>b9.fr hw (λk_=>Own.neB e0 b9 dd k_)) U x4q U λa h=>z0c 4 h U z3i U λa h=>z0j 5 h U (λ_ hw=>b3.fr hw (λk_=>Own.neB e0 b3 dd k_)) U na5 U λa h=>z2w 6 h wn U (by first|exact IntWalk.u8_in _ oo|rfl) U λa h=>z0e 7 h U λa h=>z0l 8 h U λa h=>z0c 9 h U y3a U λa h=>z0j 10 h U (λ_ hw=>b9.fr hw (λk_=>Own.neB e0 b9 dd k_)) U x4q U λa h=>z0c 11 h U z3i U λa h=>z0j 12 h U (λ_ hw=>b3.fr hw (λk_=>Own.neB e0 b3 dd k_)) U na5 U λa h=>z2w 13 h wn U (by first|exact IntWalk.u8_in _ oo|rfl) U λa h=>z1i (p:=j) (tq0) 14 h U (show Sl z4b _ ka.TV m.ts from hM.t.out.sl) U y6v U λy4 r8 a h=>z2x 15 h wn U (λ_ hw=>r8 _ (z1v d1.t.out hw (z5c e0 dd)).sl) x1q U λa h=>z0v 16 h U (λ_ hw=>d9.fr hw (λk_=>by have:=s4 _ k_;omega)) x2h U λa h=>z0d 17 U (z2s ([(⟨o.b,(m.ys.getD j yq0).nw,th,sn,k0,(m.ys.getD j yq0).pes⟩:LpQ)]) h (z0a U z0f) U v2r λj5 E2 hg p2 l1 hz a h=>?_);have c9.gk_100:ka.gk<j5:=by have:=J.lt;omega
 have s3:g5<j5:=by have:=I.lt;omega
 have q0:f3<j5:=by have:=a0.lt;omega
 have J4:=l1.size;replace hM:=hM.ext l1;replace g6:=g6.ext l1;replace M:=M.ext l1;replace d3:=d3.ext l1;replace hC:=hC.next l1;refine z0b (z0d 18 U ?_);have n9:=d3;refine z5m h U U d3 p2.sl v2r U λz0 E3 d3 o9 o0 a h=>?_;have r5:=hM;have u7:LpO τd wS.heap.size _ (⟨o.b,(m.ys.getD j yq0).nw,th,sn,k0,(m.ys.getD j yq0).pes⟩:LpQ):=⟨g6,M.low oo⟩;have v9:=z1v hM.t.out o9 (z5c n9 dd);have x0:=o9;obtain⟨AR,cR,rfl,_⟩:=d3.sl.form;have u3b:=d3;have J5:=o9.size;replace hC:=hC.step o9 (λk_ h_ _=>h_);refine z0b (z0d 19 U (y9r (p:=j) (E:=z4b) h U U y6v oo oo oo U λa h=>?_));refine z0b (z0d 20 U (z1c (i:=j) (((AR,((m.ts.getD j tq0).2++[(⟨o.b,(m.ys.getD j yq0).nw,th,sn,k0,(m.ys.getD j yq0).pes⟩:LpQ)]).length,cR),((m.ts.getD j tq0).2++[(⟨o.b,(m.ys.getD j yq0).nw,th,sn,k0,(m.ys.getD j yq0).pes⟩:LpQ)])):TQ) h U v9 (by rw[hM.lt];exact hj) U k1l λE4 s7 hq _hz a h=>?_));replace hM:=r5.row mtd (u:=(AR,((m.ts.getD j tq0).2++[(⟨o.b,(m.ys.getD j yq0).nw,th,sn,k0,(m.ys.getD j yq0).pes⟩:LpQ)]).length,cR)) hj u7 s6 u3b x0 o0 s7 hq;clear hq _hz;refine z1m (z0p ?_);clear hC d1 b9 p5 b3 g3 d9 e0;refine bk (h.sub (L':=[]) .nil) (tn (sr (asg U (nn (rt (r1 results149 U ?_))))));exact⟨_,rfl,MRet.ok (by unfold y5m;rw[l5,if_neg (λe=>e l4),if_neg (show ¬2048<=z4f m.p.tb by have:m.p.tb=z1r m.ts:=rfl;rw[this];omega)];exact congrArg Except.ok (j8z m j r9 h3).symm) hM⟩
end Go.Proofs.YtjilcnmaefhmeaaGreatDoor
namespace Go.G08
open Go.Lw Go.G21
theorem z5g (c:Cx)(l:List Cx):crM (c::l)=((c.a,c.b),.int .i64 c.n)::crM l:=rfl
theorem z8d {a b:LId}{c:Cx}:isC a b c=true↔c.a=a/\c.b=b:=by unfold isC;simp
theorem v6x (a b:LId):∀l:List Cx,(z1h (crM l) (a,b)).getD (.int .i64 0)=.int .i64 (z6h l a b)
 | []=>rfl
 | c::l=>by
  rw[z5g]
  unfold z1h z6h
  rw[List.find?_cons]
  by_cases h:c.a=a/\c.b=b
  ·rw[if_pos (by rw[<-h.1,<-h.2]),z8d.2 h];rfl
  have D:isC a b c=false:=by cases e:isC a b c;rfl;exact absurd (z8d.1 e) h
  rw[if_neg (λe=>h ⟨(Prod.mk.inj e).1.symm,(Prod.mk.inj e).2.symm⟩),D]
  exact v6x a b l
theorem v7p {a b:LId}{l:List Cx}(h:(a,b)∉(crM l).map (·.1)):∀c∈l,isC a b c=false:=λc J=>by
 cases e:isC a b c
 ·rfl
 obtain⟨D,I⟩:=z8d.1 e
 refine absurd ?_ h
 unfold crM
 rw[List.map_map]
 exact List.mem_map.2 ⟨c,J,by simp[D,I]⟩
theorem v4s (a b:LId)(n:Int):∀l:List Cx,((crM l).map (·.1)).Nodup->crM (y7u l a b n)=z1u (crM l) (a,b) (.int .i64 n)
 | [],_=>rfl
 | c::l,hn=>by
  rw[z5g,List.map_cons]at hn
  obtain⟨n1,n2⟩:=List.nodup_cons.1 hn
  have ih:=v4s a b n l n2
  by_cases h:c.a=a/\c.b=b
  ·obtain⟨D,I⟩:=h
   subst D;subst I
   have hl:l.map (λx=>if isC c.a c.b x then (⟨c.a,c.b,n⟩:Cx) else x)=l:=by
    have:=v7p (l:=l) n1
    conv=>rhs;rw[<-List.map_id l]
    refine List.map_congr_left λx hx=>?_
    rw[this x hx];rfl
   have J:isC c.a c.b c=true:=z8d.2 ⟨rfl,rfl⟩
   have O:y7u (c::l) c.a c.b n=⟨c.a,c.b,n⟩::l:=by
    unfold y7u
    rw[List.any_cons,J,Bool.true_or,if_pos U,List.map_cons,J,if_pos U,hl]
   have M:z1u (((c.a,c.b),Value.int .i64 c.n)::crM l) (c.a,c.b) (.int .i64 n)=((c.a,c.b),.int .i64 n)::crM l:=by
    unfold z1u;simp[List.findIdx?_cons]
   rw[O,z5g,z5g,M]
  have D:isC a b c=false:=by cases e:isC a b c;rfl;exact absurd (z8d.1 e) h
  have I:¬((a,b):LId×LId)=(c.a,c.b):=λe=>h ⟨(Prod.mk.inj e).1.symm,(Prod.mk.inj e).2.symm⟩
  have Z:y7u (c::l) a b n=c::y7u l a b n:=by
   unfold y7u
   rw[List.any_cons,D,Bool.false_or]
   split
   ·rw[List.map_cons,D];rfl
   rfl
  rw[Z,z5g,ih]
  unfold z1u
  rw[z5g,List.map_cons,List.findIdx?_cons,if_neg (by simpa using I)]
  cases hf:((crM l).map (·.1)).findIdx? (λx=>decide ((a,b)=x)) with
  | none=>rfl
  | some i=>rfl
theorem v6d (a b:LId):∀l:List Cx,((crM l).map (·.1)).Nodup->crM (v0d l a b)=z5i (crM l) (a,b)
 | [],_=>rfl
 | c::l,hn=>by
  rw[z5g,List.map_cons]at hn
  obtain⟨n1,n2⟩:=List.nodup_cons.1 hn
  have ih:=v6d a b l n2
  by_cases h:c.a=a/\c.b=b
  ·obtain⟨D,I⟩:=h
   subst D;subst I
   have hl:l.filter (λx=>!isC c.a c.b x)=l:=List.filter_eq_self.2 λx hx=>by
    rw[v7p (l:=l) n1 x hx];rfl
   have Z:isC c.a c.b c=true:=z8d.2 ⟨rfl,rfl⟩
   have M:v0d (c::l) c.a c.b=l:=by
    unfold v0d
    rw[List.filter_cons,Z,hl];rfl
   have J:z5i (((c.a,c.b),Value.int .i64 c.n)::crM l) (c.a,c.b)=crM l:=by
    unfold z5i;simp[List.findIdx?_cons]
   rw[M,z5g,J]
  have D:isC a b c=false:=by cases e:isC a b c;rfl;exact absurd (z8d.1 e) h
  have I:¬((a,b):LId×LId)=(c.a,c.b):=λe=>h ⟨(Prod.mk.inj e).1.symm,(Prod.mk.inj e).2.symm⟩
  have O:v0d (c::l) a b=c::v0d l a b:=by
   unfold v0d
   rw[List.filter_cons,D];rfl
  rw[O,z5g,ih]
  unfold z5i
  rw[z5g,List.map_cons,List.findIdx?_cons,if_neg (by simpa using I)]
  cases hf:((crM l).map (·.1)).findIdx? (λx=>decide ((a,b)=x)) with
  | none=>rfl
  | some i=>rfl
section
variable {α κ:Type} [DecidableEq κ] {E:Enc α} {T base g:Nat} {w w':World} {v:Value} {ys:List α} {V:κ->Value} {em:List (κ×Value)}
theorem j6b (h:Lw.Own E T base w v ys)(M:MapL V w g em)(hf:Fr [g] w w'):Lw.Own E T base w' v ys:=h.fr hf λk D J=>by
 rw[List.mem_singleton]at D;subst D
 obtain⟨cs,I⟩:=z4v h _ J
 exact M.f.ne_blk I U
theorem j8d {k:Nat}{cs:List Value}(h:Blk w k T cs)(I:MapL V w g em)(hf:Fr [g] w w'):Blk w' k T cs:=h.fr hf λD=>by
 rw[List.mem_singleton]at D;subst D
 exact I.f.ne_blk h U
end
theorem FrM.un {τ:TyK}{Mt:Nat}{wS w w':World}{a:MA}(h:FrM τ Mt wS { a with wk:=w } w')(D:FrM τ Mt wS a w):FrM τ Mt wS a w':=⟨h.fr,D.kp.trans h.kp⟩
theorem MkM.gcne {τ:TyK}{Mt:Nat}{wS w:World}{a:MA}{m:MQ}(h:MkM τ Mt wS a w m){k T:Nat}{cs:List Value}(hb:Blk w k T cs):k≠a.gc:=λe=>by
 subst e;exact h.c.f.ne_blk hb U
theorem KpM.own {α:Type}{E:Enc α}{D:List Nat}{g T base:Nat}{w w':World}{v:Value}{ys:List α}(h:KpM D g w w')(ho:Lw.Own E T base w v ys)(hg:∀k∈z0u v,k≠g)(O:T∉D):Lw.Own E T base w' v ys:=by
 rcases ho with ho|⟨k,cap,cur,rfl,I,J,M⟩
 exact .inl ho;have Z:Blk w k T cur.toList:=J;exact .inr ⟨k,cap,cur,rfl,I,h.blk Z (hg k (by simp[z0u])) O,M⟩
theorem MkM.gcneO {τ:TyK}{Mt:Nat}{wS w:World}{a:MA}{m:MQ}{α:Type}{E:Enc α}{T base:Nat}{v:Value}{ys:List α}(h:MkM τ Mt wS a w m)(ho:Lw.Own E T base w v ys):∀k∈z0u v,k≠a.gc:=λk I=>by
 obtain⟨cs,D⟩:=z4v ho k I
 exact h.gcne D
theorem y8g {p:MSt}{d:Int}:∀ {l l':List Yn},l'.length=l.length->(∀j,j<l.length->z7a p d (l.getD j yn0)=.ok (l'.getD j yn0))->z3y p d l=.ok l'
 | [],[],_,_=>rfl
 | [],_::_,h,_=>by simp at h
 | _::_,[],h,_=>by simp at h
 | y::l,y'::l',hl,h=>by
  have D:=h 0 sp0
  simp only[List.getD_cons_zero]at D
  have I:=y8g (p:=p) (d:=d) (l:=l) (l':=l') (by simpa using hl) λj J=>by
   have:=h (j+1) so
   simpa only[List.getD_cons_succ] using this
  unfold z3y
  rw[D,I]
theorem y7i {p:MSt}{d e:Int}:∀ {l:List Yn} {i:Nat},i<l.length->(∀j,j<i->∃I,z7a p d (l.getD j yn0)=.ok I)->z7a p d (l.getD i yn0)=.error e->z3y p d l=.error e
 | y::l,0,_,_,h=>by
  simp only[List.getD_cons_zero]at h
  unfold z3y;rw[h]
 | y::l,i+1,hi,hj,h=>by
  obtain⟨I,D⟩:=hj 0 oo
  simp only[List.getD_cons_zero]at D
  have J:=y7i (p:=p) (d:=d) (e:=e) (l:=l) (i:=i) (by simpa using hi) (λj M=>by
   have:=hj (j+1) oo
   simpa only[List.getD_cons_succ] using this) (by simpa only[List.getD_cons_succ] using h)
  unfold z3y
  rw[D,J]
theorem y2z {c:Cx}:∀ {r l l':List Cx},z5f l r=.ok l'->z5f l (r++[c])=y8m l' c
 | [],l,l',h=>by
  cases h
  show z5f l [c]=y8m l c
  unfold z5f
  cases y8m l c<;>rfl
 | x::r,l,l',h=>by
  rw[List.cons_append]
  unfold z5f at h ⊢
  cases e:y8m l x with
  | error e'=>rw[e]at h;cases h
  | ok l1=>rw[e]at h;simp only at h ⊢;exact y2z h
theorem x3b {e:Int}:∀ {r l:List Cx} (s:List Cx),z5f l r=.error e->z5f l (r++s)=.error e
 | [],l,s,h=>by cases h
 | x::r,l,s,h=>by
  rw[List.cons_append]
  unfold z5f at h ⊢
  cases e1:y8m l x with
  | error e'=>rw[e1]at h;exact h
  | ok l1=>rw[e1]at h;simp only at h ⊢;exact x3b s h
theorem k1z {B:Bd}{r d:Int}:∀c∈z4c B r d,-1<=c.n/\c.n<=1:=by
 have I:∀i,∀c∈v1v B r d i,-1<=c.n/\c.n<=1:=λi c D=>by
  obtain⟨k,_,J⟩:=List.mem_flatMap.1 D;obtain⟨x,_,M⟩:=List.mem_flatMap.1 J;obtain⟨o,_,rfl⟩:=List.mem_map.1 M;unfold x9k;split<;>(simp only;omega)
 intro c D;unfold z4c at D;split at D;exact I _ c (List.mem_reverse.1 D);exact I _ c D
theorem j7p {D:Int}(h:x3q D):¬Int.tmod D 2=0/\-9223372036854775808<=D/\D<=9223372036854775807:=by
 unfold x3q at h;omega
def y3r (p:MSt)(d:Int):MR:=match z3y p d p.ys with
  | .error e=>.error e
  | .ok ys=>match z5f p.cr (z4c p.B p.rk d) with
    | .error e=>.error e
    | .ok cr=>.ok { p with ys:=ys,cr:=cr }
def j3y (p:MSt)(c:Cx):MR:=match y8m p.cr c with
  | .error e=>.error e
  | .ok l=>.ok { p with cr:=l }
abbrev z4p (c:Cx):LId×LId:=if 0<z6q c.a c.b then (c.b,c.a) else (c.a,c.b)
section
variable {τ:TyK} {Mt:Nat} {wS w w':World} {a:MA} {m:MQ} {l:List Cx}
theorem MkM.cross (h:MkM τ Mt wS a w m)(Z:MapL crK w' a.gc (crM l))(hf:Fr [a.gc] w w'):MkM τ Mt wS a w' { m with cr:=l }:=by
 have o:∀ {α:Type} {E:Enc α} {T b:Nat} {v:Value} {ys:List α},Lw.Own E T b w v ys->Lw.Own E T b w' v ys:=λO=>j6b O h.c hf;refine⟨j8d h.k h.c hf,⟨⟨o h.b.f.1,λp J=>o (h.b.f.2 p J)⟩,⟨o h.b.b.1,λp J=>o (h.b.b.2 p J)⟩⟩,⟨o h.y.out,λi D=>o (h.y.ins i D)⟩,⟨o h.t.out,λi D=>o (h.t.ins i D),h.t.off,λi D q M=>⟨o (h.t.lps i D q M).1,o (h.t.lps i D q M).2⟩⟩,Z,o h.f,h.fb,h.ft,h.ly,h.lt,h.gk,h.gc,h.fr.step hf (λk I=>.inl (List.mem_singleton.1 I)) λk I a0=>?_⟩;rw[List.mem_singleton]at I;have:=h.gc;omega
end
theorem u1j {a b:LId}{l:List Cx}(h:∀c∈l,-1048576<=c.n/\c.n<=1048576):-1048576<=z6h l a b/\z6h l a b<=1048576:=by
 unfold z6h;cases e:l.find? (isC a b) with
 | none=>simp
 | some c=>exact h c (List.mem_of_find?_eq_some e)
theorem y9m (l:List Cx)(c:Cx):y8m l c=if z6h l (z4p c).1 (z4p c).2+c.n < -1048576\/1048576<z6h l (z4p c).1 (z4p c).2+c.n then .error 3 else if z6h l (z4p c).1 (z4p c).2+c.n=0 then .ok (v0d l (z4p c).1 (z4p c).2) else .ok (y7u l (z4p c).1 (z4p c).2 (z6h l (z4p c).1 (z4p c).2+c.n)):=rfl
theorem x7b (p:MSt)(c:Cx):j3y p c=if z6h p.cr (z4p c).1 (z4p c).2+c.n < -1048576\/1048576<z6h p.cr (z4p c).1 (z4p c).2+c.n then .error 3 else if z6h p.cr (z4p c).1 (z4p c).2+c.n=0 then .ok { p with cr:=v0d p.cr (z4p c).1 (z4p c).2 } else .ok { p with cr:=y7u p.cr (z4p c).1 (z4p c).2 (z6h p.cr (z4p c).1 (z4p c).2+c.n) }:=by
 unfold j3y;rw[y9m];generalize z6h p.cr (z4p c).1 (z4p c).2+c.n=n;by_cases h1:n < -1048576\/1048576<n;rw[if_pos h1,if_pos h1];rw[if_neg h1,if_neg h1];by_cases h2:n=0;rw[if_pos h2,if_pos h2];rw[if_neg h2,if_neg h2]
end Go.G08
namespace Go.Proofs.YtjilcnmaefhmeaaGreatDoor
open Go.Lw Go.G21 Go.G08 _root_.Go.Proofs.Tryz
theorem u9i (wS:World)(ka:MA)(m:MQ)(o:MOp)(w0:World)(hM:MkM τd 183 wS ka w0 m)(hi:MInv m.p)(hy:1<=o.y/\o.y<=6)(hn:z2v o.b o.p=0):Rets prog 95 #[.pointer (some ⟨ka.gk,0,none⟩),opV o] w0 λr w'=>MRet τd 183 wS ka (y0x m.p o) r w':=by
 have d0:=hM.fr.size;have b3:=hM.gk;have b5:=hM.k.lt;refine we [(0,.pointer (some ⟨ka.gk,0,none⟩)),(1,opV o)] func95 U ntmps95 U (.c2 U U) ?_;have M:=hM;refine sr (bx U (λg3 w1 b9 D q1 z1=>(asg U (nn (sr (mv U U (z0n U D y6p ?_)))))));replace hM:=M.ext q1;refine cl (ev2 U) (mkC func147) (x5y wS ka m o _ hM hi hy hn) U ?_;rintro _ w2 ⟨rfl,q2⟩;have z2:=q2.size;refine mv U U (xt U (xt U (xt U (asg U (asg U (asg U (kpL [(0,_),(3,_),(5,_),(6,_),(7,_)] (.c5 U U U U U) (nn (sq (sr (mv U U (ne' U (nn (cd U (λc0=>?_) (λc0=>?_)))))))))))))));refine sr (mv U U (asg U (kpL [(4,_)] (.cons U .nil) (nn (rt (tr (r1 results95 U ?_)))))));replace hM:=M.ext (q1.n1 q2);exact⟨_,rfl,MRet.err (by unfold y0x;rw[if_pos c0]) c0 hM.fr⟩;have J:z7j m.p o=0:=Classical.not_not.1 c0;refine sk (tn (sq (sr (mv U U (fad U z3i ?_)))));replace D:=D.ext q2;refine z0i U D U na5 (mv U U (mv U U ?_));replace hM:=M.ext (q1.n1 q2);have a3:=hM.fr;refine cl (z0a U (z0a U (z0a U (z0a U z0f)))) (mkC func148) (x4z wS { ka with wk:=w2 } m o.y (if z7j m.p o=0 then y4l m.p o else 0) (if z7j m.p o=0 then (z2h o.b o.p m.rk) else 0) _ hM.mark hi hy) U ?_;intro _ w3 hR;obtain⟨rfl,a1,m1,a9⟩:=hR.split;have z3:=a1.kp.size;simp only at z3;replace D:=a1.kp.blk D (by have:=hM.gcne D;exact this) dd;refine asg U (kpL [(0,_),(3,_),(8,_)] (.c3 U U U) (nn (sr (mv U U (ne' U (nn (cd U (λc1=>?_) (λc1=>?_))))))));exact sr (mv U U (asg U (nn (rt (tr (r1 results95 U ⟨_,rfl,MRet.err (by have hx:=y2h c1;unfold y0x;rw[if_neg c0];rw[if_pos J,if_pos J]at hx;rw[hx,if_pos J,if_pos J]) c1 (a1.un a3)⟩))))));obtain⟨a8,a2⟩:=a9 (Classical.not_not.1 c1);rw[if_pos J,if_pos J]at a2;obtain⟨a4,b8,c9⟩:=y0z hi hy a2;obtain⟨⟨hf,hb⟩,h4,a7⟩:=z3w a4.B;replace hM:=a8.unmark a3;have M:=hM;have hk:=hM.k;have b4:=hk.lt;refine sk (tn (sq ?_));intro a h;refine z0h (some 9) (λwb w'=>Fr [] wb w') z2m ?_;intro w4 q4;have z4:=q4.size;replace D:=D.ext q4;replace hM:=hM.ext q4;replace hk:=hk.ext q4;have hC:Fr [] w4 w4:=Fr.refl _ _;have I:=D;have Z:=hM;have a0:=hk;refine z0e 0 h U λa h=>z0v 1 h U (λ_ hw=>I.ext hw) y6p U λa h=>z0e 2 h U λa h=>z0l 3 h U λa h=>z0c 4 h U z3f U λa h=>z1a (vs:=[_,_]) 5 h U (λ_ hw=>(a0.ext hw)) z4w U U λa h=>z0c 6 h U z3h U λa h=>z1a (vs:=[_,_]) 7 h U (λ_ hw=>(I.ext hw)) z4k U U λa h=>z0d 8 U (z0o h (z0a U (z0a U z0f)) u6f (x2k m1.q o.b o.p _ hM.b.at (by have:=z2o hn;omega) hf hb h4 a7) ?_);rintro d1 w5 ⟨O,hq⟩ a h;have z5:=hq.size;replace D:=D.ext hq;replace hM:=hM.ext hq;replace hk:=hk.ext hq;replace hC:=hC.next hq;have q5:=hq;rw[y1n hn]at O;obtain⟨a5,a6,rfl,b0⟩:=O.sl.form;refine z0b (z0d 9 U (z0o h (z0a U (z0a U (z0a U (z0a U z0f)))) (mkC func149) (v9i wS ka m1 o (a5,(m1.q.p.at o.b o.p).length,a6) (m1.q.p.at o.b o.p) (.slice none 0 0) [] _ hM a4 hy hn (O.low oo) (λk hk hb=>by have b6:=(O.blk k hk).1;have b7:=(Z.f.blk k hb).2;omega) (Sl.nil _) (.inl U)) ?_));rintro d3 w6 hR a h;refine z1m (z0d 10 U (z0r h U λa h=>?_));refine z1m (z0p ?_);clear hC I Z a0;exact bk (h.sub (L':=[(4,_)]) (.cons U .nil)) (tn (rt (r1 results95 U ⟨_,rfl,by rw[show y0x m.p o=_ from by unfold y0x;rw[if_neg c0,a2]];exact hR⟩)))
theorem j2u (wS:World)(ka:MA)(m:MQ)(o:MOp)(w0:World)(hM:MkM τd 183 wS ka w0 m)(hi:MInv m.p)(hy:1<=o.y/\o.y<=6)(hn:z2v o.b o.p=0):Rets prog 96 #[.pointer (some ⟨ka.gk,0,none⟩),opV o] w0 λr w'=>MRet τd 183 wS ka (y0d m.p o) r w':=by
 have c9:=hM.fr.size;have b0:=hM.gk;have b4:=hM.k.lt;refine we [(0,.pointer (some ⟨ka.gk,0,none⟩)),(1,opV o)] func96 U ntmps96 U (.c2 U U) ?_;have M:=hM;refine sr (bx U (λg3 w1 b8 D q1 z1=>(asg U (nn (sr (mv U U (z0n U D y6p ?_)))))));replace hM:=M.ext q1;refine cl (ev2 U) (mkC func147) (x5y wS ka m o _ hM hi hy hn) U ?_;rintro _ w2 ⟨rfl,q2⟩;refine mv U U (xt U (xt U (xt U (asg U (asg U (asg U (kpL [(0,_),(3,_),(5,_),(6,_),(7,_)] (.c5 U U U U U) (nn (sq (sr (mv U U (ne' U (nn (cd U (λc0=>?_) (λc0=>?_)))))))))))))));refine sr (mv U U (asg U (kpL [(4,_)] (.cons U .nil) (nn (rt (tr (r1 results96 U ?_)))))));replace hM:=M.ext (q1.n1 q2);exact⟨_,rfl,MRet.err (by unfold y0d;rw[if_pos c0]) c0 hM.fr⟩;have I:z7j m.p o=0:=Classical.not_not.1 c0;refine sk (tn (sq (sr (mv U U (fad U z3i ?_)))));replace D:=D.ext q2;refine z0i U D U na5 (mv U U (mv U U ?_));replace hM:=M.ext (q1.n1 q2);have a4:=hM.fr;refine cl (z0a U (z0a U (z0a U (z0a U z0f)))) (mkC func148) (x4z wS { ka with wk:=w2 } m o.y (if z7j m.p o=0 then y4l m.p o else 0) (if z7j m.p o=0 then (z2h o.b o.p m.rk) else 0) _ hM.mark hi hy) U ?_;intro _ w3 hR;obtain⟨rfl,a1,m1,a8⟩:=hR.split;have z3:=a1.kp.size;simp only at z3;replace D:=a1.kp.blk D (by have:=hM.gcne D;exact this) dd;refine asg U (kpL [(0,_),(3,_),(8,_)] (.c3 U U U) (nn (sr (mv U U (ne' U (nn (cd U (λc1=>?_) (λc1=>?_))))))));exact sr (mv U U (asg U (nn (rt (tr (r1 results96 U ⟨_,rfl,MRet.err (by have hx:=y2h c1;unfold y0d;rw[if_neg c0];rw[if_pos I,if_pos I]at hx;rw[hx,if_pos I,if_pos I]) c1 (a1.un a4)⟩))))));obtain⟨a7,O⟩:=a8 (Classical.not_not.1 c1);rw[if_pos I,if_pos I]at O;obtain⟨a5,b7,b9⟩:=y0z hi hy O;obtain⟨⟨hf,hb⟩,h4,a6⟩:=z3w a5.B;replace hM:=a7.unmark a4;have M:=hM;have Z:=hM.k;have b3:=Z.lt;refine sk (tn (sq ?_));intro a h;refine z0h none (λwb w'=>Fr [] wb w') z2m ?_;intro w4 q4;replace D:=D.ext q4;replace hM:=hM.ext q4;replace Z:=Z.ext q4;have hC:Fr [] w4 w4:=Fr.refl _ _;have J:=D;have a3:=hM;have a0:=Z;refine z0e 0 h U λa h=>z0l 1 h U λa h=>z0c 2 h U z3f U λa h=>z1a (vs:=[_,_]) 3 h U (λ_ hw=>(a0.ext hw)) z4w U U λa h=>z0c 4 h U z3h U λa h=>z1a (vs:=[_,_]) 5 h U (λ_ hw=>(J.ext hw)) z4k U U λa h=>z0d 6 U (z0o h (z0a U (z0a U z0f)) u6f (x2k m1.q o.b o.p _ hM.b.at (by have:=z2o hn;omega) hf hb h4 a6) ?_);rintro d0 w5 ⟨a2,hq⟩ a h;replace D:=D.ext hq;replace hM:=hM.ext hq;replace Z:=Z.ext hq;replace hC:=hC.next hq;have q5:=hq;rw[y1n hn]at a2;obtain⟨b5,b6,rfl,a9⟩:=a2.sl.form;refine z0b (z0d 7 U (z0r h U λa h=>?_));refine z0b (z0p ?_);clear hC J a3 a0;refine bk (h.sub (L':=[(0,_),(3,_),(9,_)]) (.c3 U U U)) (tn (sq (sr (mv U U (lnS U underlying27 (ge' U U (nn (cd U (λc2=>?_) (λc2=>?_)))))))));exact sr (asg U (nn (rt (tr (r1 results96 U ⟨_,rfl,MRet.err (by unfold y0d;rw[if_neg c0,O];simp only;rw[if_pos (show 4<=(m1.q.p.at o.b o.p).length by omega)]) dd hM.fr⟩)))));refine sk (tn (sr (mv U U (z0n U D y6p (mv U U (cl (z0a U (z0a U (z0a U (z0a U z0f)))) (mkC func149) (v9i wS ka m1 o sv0 [] _ (m1.q.p.at o.b o.p) _ hM a5 hy hn (Own.nil _) (λk Z=>by cases Z) a2.sl (.inr ⟨rfl,oo⟩)) U ?_))))));rintro d1 w6 hR;exact asg U (kpL [(4,_)] (.cons U .nil) (nn (rt (r1 results96 U ⟨_,rfl,by rw[show y0d m.p o=y5m m1.p o [] (m1.q.p.at o.b o.p) from by unfold y0d;rw[if_neg c0,O];simp only;rw[if_neg (show ¬4<=(m1.q.p.at o.b o.p).length by omega)]];exact hR⟩))))
theorem u8m:z3q prog 184 4:=⟨λ_=>kr,λ_=>kr⟩
theorem u9y:BuildAt prog 184 [(0,2),(2,2)] [(.int .u8 0),(.int .i64 0),(.int .u8 0),(.int .i64 0)]:=BuildAt.array (sz:=2) underlying184 (λ_=>kr) (λ_=>kr) (λi q h=>by match i,h with|0,h=>simpa using h.symm|1,h=>simpa using h.symm|(k+2),h=>simp at h)
theorem j6t:CallOf prog 69:=mkC func69
theorem y3b:z0y prog 183 4 5:=λ_ _=>kr
theorem x6a:z0y prog 292 0 0:=λ_ _=>kr
theorem x7a:z0y prog 292 1 2:=λ_ _=>kr
theorem j3k:z0y prog 292 2 4:=λ_ _=>kr
theorem v2s:z2c prog 181:=λ_=>kr
theorem u9b:z1q prog 184 4:=λ_=>kr
theorem j6k (w:World):(zeroValue 184).run prog w=.ok (.agg #[(.int .u8 0),(.int .i64 0),(.int .u8 0),(.int .i64 0)]) w:=kr
theorem k2g (p q:LId×LId)(w:World):(Op.equal 184 (crK p) (crK q)).run prog w=.ok (decide (p=q)) w:=by
 obtain⟨⟨O,n1⟩,⟨Z,n2⟩⟩:=p;obtain⟨⟨y3,n3⟩,⟨y4,n4⟩⟩:=q;have D:prog.stoodInHeld 73=false:=by kernel_rfl
 have I:(sizeOf 73).run prog w=.ok 2 w:=by kernel_rfl
 unfold crK Op.equal Op.maxDepth Op.equalIn;simp only[Sem.run_bind,run_underlying underlying184,Result.andThen_ok,I];have J:∀a b c d:Value,(part 73 #[a,b,c,d] (0*2)).run prog w=.ok (.agg #[a,b]) w:=λa b c d=>by kernel_rfl
 have M:∀a b c d:Value,(part 73 #[a,b,c,d] (1*2)).run prog w=.ok (.agg #[c,d]) w:=λa b c d=>by kernel_rfl
 rw[Std.Legacy.Range.forIn_eq_forIn_range'];simp[List.range',List.forIn_cons,J,M,go_sem,D,underlying73];(repeat' split)<;>simp_all
theorem v0m:KeyLaw prog 184 crK:=KeyLaw.asking underlying184 (λ_ _=>rfl) (λ_ _ _=>kr) k2g (λ_=>by simp[crK,Instr.sameBits])
theorem zvI2 (w:World):(zeroValue 3).run prog w=.ok (.int .i64 0) w:=kr
theorem j3f (wS:World)(ka:MA)(m:MQ)(c:Cx)(w0:World)(hM:MkM τd 183 wS ka w0 m)(a6:∀x∈m.cr,-1048576<=x.n/\x.n<=1048576)(a7:-1<=c.n/\c.n<=1):Rets prog 198 #[.pointer (some ⟨ka.gk,0,none⟩),.agg #[.int .u8 c.a.y,.int .i64 c.a.n,.int .u8 c.b.y,.int .i64 c.b.n,.int .i64 c.n]] w0 λr w'=>MRet τd 183 wS ka (j3y m.p c) r w':=by
 have b4:=hM.fr.size;have hk:=hM.k;have b3:=hk.lt;have b0:=u1j (a:=(z4p c).1) (b:=(z4p c).2) a6;refine we [(0,.pointer (some ⟨ka.gk,0,none⟩)),(1,.agg #[.int .u8 c.a.y,.int .i64 c.a.n,.int .u8 c.b.y,.int .i64 c.b.n,.int .i64 c.n])] func198 U ntmps198 U (.c2 U U) ?_;have a5:=hM;refine sr (bx U (λg3 w1 a8 J q1 z1=>?_));refine asg U (nn (sr (fad U x6a (z1w (vs:=[_,_]) U J z2y U (fad U x7a (z1w (vs:=[_,_]) U J z2y U (z1y (cs:=[_,_,_,_]) (ev2 U) u9y (z0g U (z0g U z0s)) U ?_)))))));refine al j6k U (λg5 w2 a9 D q2 z2=>(z0k (vs:=[_,_,_,_]) U D u9b (λw3 D q3 z3=>(nn (jn (ι:=Unit) [(0,_),(3,_),(5,_)] (λ_j=>[]) (λ_j w'=>Fr [g5] w3 w'/\Blk w' g5 184 [.int .u8 (z4p c).1.y,.int .i64 (z4p c).1.n,.int .u8 (z4p c).2.y,.int .i64 (z4p c).2.n]) (.c3 U U U) ?_ ?_)))));refine sr (fad U x6a ?_);replace J:=(J.ext q2).fr q3;refine z1w (vs:=[_,_]) U J z2y U (fad U x7a (z1w (vs:=[_,_]) U J z2y U (cl (ev2 U) j6t (y1u ⟨_,_⟩ ⟨_,_⟩ _) U ?_)));rintro _ w4 ⟨rfl,q4⟩;refine gt' U (nn (cd U (λc0=>?_) (λc0=>?_)));refine rg (fad U x7a ?_);replace J:=J.ext q4;refine z1w (vs:=[_,_]) U J z2y U (fad U x6a (z1w (vs:=[_,_]) U J z2y U (z1y (cs:=[_,_,_,_]) (ev2 U) u9y (z0g U (z0g U z0s)) U ?_)));replace D:=D.ext q4;exact z0k (vs:=[_,_,_,_]) U D u9b (λw5 D q5 z5=>(kpL [(0,_),(3,_),(5,_)] (.c3 U U U) (nl (jE (()) (.c3 U U U) ⟨((Fr.refl [g5] _).z2 q4 q5),(by rw[show z4p c=(c.b,c.a) from if_pos c0];exact D)⟩))));refine sk ?_;replace D:=D.ext q4;exact jE (()) (.c3 U U U) ⟨((Fr.refl [g5] _).n1 q4),(by rw[show z4p c=(c.a,c.b) from if_neg c0];exact D)⟩;rintro _j w6 ⟨q6,D⟩;have a4:=D.lt;refine kpC [(0,_),(3,_),(5,_)] (.c3 U U U) (sq ?_);replace hM:=a5.ext (q1.z3 q2 q3 q6);replace hk:=((hk.ext (q1.n1 q2)).fr q3).fr q6;replace J:=((J.ext q2).fr q3).fr q6;intro a h;refine z0h none (λwb w'=>Fr [] wb w') z2m ?_;intro w7 q7;replace hM:=hM.ext q7;replace hk:=hk.ext q7;replace J:=J.ext q7;replace D:=D.ext q7;have hC:Fr [] w7 w7:=Fr.refl _ _;have O:=hM;have M:=hk;have a0:=J;have I:=D;refine z0e 0 h U λa h=>z0l 1 h U λa h=>z0c 2 h U y3b U λa h=>z0j 3 h U (λ_ Z=>M.ext Z) U v2s U λa h=>z0v 4 h U (λ_ Z=>I.ext Z) u8m U λa h=>z0c 6 h U j3k U λa h=>z0j 7 h U (λ_ Z=>a0.ext Z) U na3 U λa h=>z0d 5 U (z6j (V:=crK) (k:=z4p c) (f:=z1h (crM m.cr)) h U U hM.c.f v0m underlying181 zvI2 (v6x (z4p c).1 (z4p c).2 m.cr) U λa h=>?_);refine z0b (z4m 8 h U (by first|exact i6 oo|rfl) U λa h=>z0d 9 U (z0r h U λa h=>?_));refine z0b (z0p ?_);clear hC O M a0 I;refine bk (h.sub (L':=[(0,_),(5,_),(6,_)]) (.c3 U U U)) (tn (sq (sq (rbo (r:=37) (L':=[(0,_),(5,_),(6,_)]) (((((z6h m.cr (z4p c).1 (z4p c).2)+c.n) < -1048576)\/(1048576<((z6h m.cr (z4p c).1 (z4p c).2)+c.n)))) (.c3 U U U) ?_ ?_))));refine mv U U (lt' U (mv U U (gs 34 U (λg0=>?_) (λg0=>?_))));exact gN U (gN U (pkt U (rbe U (.c3 U U U))));exact gY U (mv U U (gY U (gt' U (pkf U (rbe U (.c3 U U U))))));refine tn (cd U (λc1=>?_) (λc1=>?_));exact sr (asg U (nn (rt (tr (r1 results198 U ⟨_,rfl,MRet.err (by rw[x7b,if_pos c1]) dd hM.fr⟩)))));refine sk (tn (sq (sr (mv U U (eq' U (nn (cd U (λc2=>?_) (λc2=>?_))))))));intro a h;refine z0h (some 5) (λwb w'=>Fr [] wb w') z2m ?_;intro w8 q8;replace hM:=hM.ext q8;replace hk:=hk.ext q8;replace D:=D.ext q8;have hC:Fr [] w8 w8:=Fr.refl _ _;have O:=hM;have M:=hk;have I:=D;refine z0e 0 h U λa h=>z0l 1 h U λa h=>z0c 2 h U y3b U λa h=>z0j 3 h U (λ_ Z=>M.ext Z) U v2s U λa h=>z0v 4 h U (λ_ Z=>I.ext Z) u8m U λa h=>z0d 5 U (j0f (V:=crK) (k:=z4p c) h U U hM.c v0m underlying181 U λw9 a1 hq _hz a h=>?_);replace hM:=hM.cross (l:=v0d m.cr (z4p c).1 (z4p c).2) (by rw[v6d _ _ _ hM.c.nodup];exact a1) hq;refine z1m (z0p ?_);clear hC O M I;exact bk (h.sub (L':=[]) .nil) (tn (sr (asg U (nn (rt (r1 results198 U ⟨_,rfl,MRet.ok (by rw[x7b,if_neg c1,if_pos c2]) hM⟩))))));intro a h;refine z0h (some 6) (λwb w'=>Fr [] wb w') z2m ?_;intro a3 a2;replace hM:=hM.ext a2;replace hk:=hk.ext a2;replace D:=D.ext a2;have hC:Fr [] a3 a3:=Fr.refl _ _;have O:=hM;have M:=hk;have I:=D;refine z0e 0 h U λa h=>z0l 1 h U λa h=>z0c 2 h U y3b U λa h=>z0j 3 h U (λ_ Z=>M.ext Z) U v2s U λa h=>z0v 4 h U (λ_ Z=>I.ext Z) u8m U λa h=>z0e 5 h U λa h=>z0d 6 U (y3c (V:=crK) (k:=z4p c) (v:=.int .i64 ((z6h m.cr (z4p c).1 (z4p c).2)+c.n)) h U U U hM.c v0m underlying181 λb5 a1 hq _hz a h=>?_);replace hM:=hM.cross (l:=y7u m.cr (z4p c).1 (z4p c).2 (z6h m.cr (z4p c).1 (z4p c).2+c.n)) (by rw[v4s _ _ _ _ hM.c.nodup];exact a1) hq;refine z1m (z0p ?_);clear hC O M I;exact bk (h.sub (L':=[]) .nil) (tn (sr (asg U (nn (rt (r1 results198 U ⟨_,rfl,MRet.ok (by rw[x7b,if_neg c1,if_neg c2]) hM⟩))))))
theorem u4g (m:MQ)(j:Nat):m.p.ys.getD j yn0=(m.ys.getD j yq0).p:=by
 show (m.ys.map YQ.p).getD j yn0=_;rw[List.getD,List.getD,List.getElem?_map];cases m.ys[j]?<;>rfl
theorem y1d {l:List Cx}{i:Nat}(h:i<l.length):l.take (i+1)=l.take i++[l.getD i cx0]:=by
 rw[List.take_add_one,List.getD,List.getElem?_eq_getElem h];rfl
theorem v1q {l r I:List Cx}{i:Nat}{e:Int}(h:z5f l (r.take i)=.ok I)(O:i<r.length)(M:y8m I (r.getD i cx0)=.error e):z5f l r=.error e:=by
 have D:=y2z (c:=r.getD i cx0) h;rw[<-y1d O,M]at D;have J:=x3b (r.drop (i+1)) D;rwa [List.take_append_drop]at J
theorem u4i {p:MSt}{c:Cx}{e:Int}(h:j3y p c=.error e):y8m p.cr c=.error e:=by
 unfold j3y at h;split at h;rename_i D;cases h;exact D;cases h
theorem u9q {p q:MSt}{c:Cx}(h:j3y p c=.ok q):∃l,y8m p.cr c=.ok l/\q={ p with cr:=l }:=by
 unfold j3y at h;split at h;cases h;rename_i l D;cases h;exact⟨l,D,rfl⟩
theorem u4c {m:MQ}{d:Int}{D:List YQ}(M:D.length=6)(I:m.ys.length=6)(O:∀j,j<6->z7a m.p d (m.ys.getD j yq0).p=.ok (D.getD j yq0).p):z3y m.p d m.p.ys=.ok (D.map YQ.p):=by
 refine y8g (by simp[M,I]) λj Z=>?_;have J:j<6:=by simpa[I] using Z
 rw[u4g,O j J];congr 1;rw[List.getD,List.getD,List.getElem?_map];cases D[j]?<;>rfl
theorem u2t {m:MQ}{d:Int}{D:List YQ}{J:YQ}{i:Nat}(M:D.length=6)(O:i<6)(I:∀j,j<i->z7a m.p d (m.ys.getD j yq0).p=.ok (D.getD j yq0).p)(h:z7a m.p d (m.ys.getD i yq0).p=.ok J.p):∀j,j<i+1->z7a m.p d (m.ys.getD j yq0).p=.ok ((D.set i J).getD j yq0).p:=λj Z=>by
 rw[z1j oo]
 by_cases e:i=j
 ·subst e;rw[if_pos U];exact h
 rw[if_neg e];exact I j oo
theorem v4f {m:MQ}{d:Int}{D:List YQ}{i:Nat}(I:∀j,i<=j->D.getD j yq0=m.ys.getD j yq0)(J:∀j,j<i->z7a m.p d (m.ys.getD j yq0).p=.ok (D.getD j yq0).p)(h:(m.ys.getD i yq0).inn=false):∀j,j<i+1->z7a m.p d (m.ys.getD j yq0).p=.ok (D.getD j yq0).p:=λj M=>by
 by_cases e:j=i
 ·subst e;rw[I j (Nat.le_refl _)];unfold z7a;rw[if_pos h]
 exact J j oo
theorem u4m {m:MQ}{D:List YQ}{M:YQ}{i:Nat}(J:D.length=6)(O:i<6)(I:∀j,i<=j->D.getD j yq0=m.ys.getD j yq0):∀j,i+1<=j->(D.set i M).getD j yq0=m.ys.getD j yq0:=λj Z=>by
 rw[z1j oo,if_neg oo];exact I j oo
theorem j0y (wS:World)(ka:MA)(m:MQ)(d:Int)(w0:World)(hM:MkM τd 183 wS ka w0 m)(hi:MInv m.p)(b3:StT wS)(hd:d=0\/d=1)(d1:-4<=m.rk+stI d/\m.rk+stI d<=4):Rets prog 146 #[.pointer (some ⟨ka.gk,0,none⟩),.int .u8 d] w0 λr w'=>MRet τd 183 wS ka (y3r m.p d) r w':=by
 have g3:=hM.fr.size;have f1:=hM.gk;have O:=hM.k;have g0:=O.lt;have b9:=hM.ly;have f3:=(hM.y.out.blk ka.gy (by simp[z0u])).2;have hI:=hi;have f2:ka.gk≠ka.gy:=λe=>Own.neB hM.y.out hM.k dd (by simp[z0u,e]);have g1:(z4c m.q.p m.rk d).length<=640:=by
  have x:(z4c m.q.p m.rk d).length<=16*m.p.B.b.length:=y1z hI.B m.rk d;have y:=hI.B.lb;omega
 refine we [(0,.pointer (some ⟨ka.gk,0,none⟩)),(1,.int .u8 d)] func146 U ntmps146 U (.c2 U U) ?_;have a0:=hM;refine sr (asg U (nn (sq (sr (mv U U (nlc U (fad U z3e (z0i U O U y4d (lnS U underlying51 (mv U U (nn (bl (lpK (ι:=Nat) [(0,_),(1,_),(17,_),(18,_)] (λi=>[(19,.int .i64 (i:Int))]) (λi w'=>Fr [ka.gy] w0 w'/\i<=6/\(∃M:List YQ,M.length=6/\(∀j,j<i->z7a m.p d (m.ys.getD j yq0).p=.ok (M.getD j yq0).p)/\(∀j,i<=j->M.getD j yq0=m.ys.getD j yq0)/\MkM τd 183 wS ka w' { m with ys:=M })) (λi=>6-i) 0 (.c5 U U U U U) ⟨Fr.refl _ _,⟨Nat.zero_le _,⟨m.ys,b9,λj hj=>oo,λj _=>rfl,hM⟩⟩⟩ ?_)))))))))))));rintro i w1 ⟨q1,⟨hi,⟨M,a4,a6,a5,hM⟩⟩⟩;have z1:=q1.size;have a0:=hM;refine kpC [(0,_),(1,_),(17,_),(18,_),(19,_)] (.c5 U U U U U) ?_;have O:=hM.k;refine sr (lt' U (nn (sq (cd U (λc0=>?_) (λc0=>?_)))));have f9:i<6:=by omega
 refine sk (tn (sq (bl (sr (mv U U (z1d (yq0) U (show Sl z3a _ ka.YV M from hM.y.out.sl) U y4n z1g (λe7 b5=>?_)))))));refine z1l U (b5 _ (show Sl z3a _ ka.YV M from hM.y.out.sl)) z7g (al y3y U (λg6 w2 f7 D q2 z2=>?_));refine asg U (z0k (vs:=[_,_,_,_,_]) U D z7i (λw3 D q3 z3=>?_) (h1:=(by first|(simp[Value.oneCell',S];done)|exact z3a.one (m.ys.getD i yq0))));rw[a5 i (Nat.le_refl _)]at D;refine nn (sq (sr (fad U y1p (z0i U D U na4 (nt' U (nn (cd U (λc1=>?_) (λc1=>?_))))))));refine ex (te (xh (tn (rg (z1b U (wi6 oo) (mv U U (nl ?_)))))));replace hM:=a0.ext (q2.z1 q3);exact lpE (i+1) (.c5 U U U U U) ⟨((Fr.refl [ka.gy] _).z3 q1 q2 q3),⟨oo,⟨M,a4,v4f a5 a6 (by simpa using c1),λj hj=>a5 j oo,hM⟩⟩⟩ oo;have d3:=(hI.yn i oo).1;rw[u4g]at d3;have d0:=j7p (by have:=d3.2;rw[if_pos (by simpa using c1)]at this;exact this.1);have f4:(z5e m.q.p m.rk d (m.ys.getD i yq0).pl).length<=50000:=by
  have x:(z5e m.q.p m.rk d (m.ys.getD i yq0).pl).length<=4*m.p.B.b.length:=x1l hI.B m.rk d _;have y:=hI.B.lb;omega
 refine sk (tn (sq ?_));replace hM:=a0.ext (q2.z1 q3);replace O:=(O.ext q2).fr q3;intro a h;refine z0h none (λwb w'=>Fr [] wb w') z2m ?_;intro w4 q4;have z4:=q4.size;replace hM:=hM.ext q4;replace O:=O.ext q4;replace D:=D.ext q4;have hC:Fr [] w4 w4:=Fr.refl _ _;have Z:=hM;have I:=O;have J:=D;refine z0e 0 h U λa h=>z0l 1 h U λa h=>z0c 2 h U z3f U λa h=>z1a (vs:=[_,_]) 3 h U (λ_ hw=>(I.ext hw)) z4w U U λa h=>z0e 4 h U λa h=>z0l 5 h U λa h=>z0c 6 h U z3s U λa h=>z0j 7 h U (λ_ hw=>I.ext hw) U na3 U λa h=>z0e 8 h U λa h=>z0c 9 h U z7m U λa h=>z0j 10 h U (λ_ hw=>J.ext hw) U na3 U λa h=>z0d 11 U (z0o h (z0a U (z0a U (z0a U (z0a U z0f)))) (mkC func195) (u5k m.q m.rk d (m.ys.getD i yq0).pl _ hM.b.at hI.B (b3.ext hM.fr.fr) hI.rk hd d1 d0.1 d0.2) ?_);rintro _ w5 ⟨⟨f6,rfl,f0,hW⟩,q5⟩ a h;have z5:=q5.size;replace hM:=hM.ext q5;replace O:=O.ext q5;replace D:=D.ext q5;replace hC:=hC.next q5;refine z0b (z0e 12 h U λa h=>z0m 13 h U λa h=>z0m 14 h U λa h=>z0d 15 U (z0r h U λa h=>?_));refine z0b (z0d 16 U (z0r h U λa h=>?_));refine z0b (z0p ?_);clear hC Z I J;refine bk (h.sub (L':=[(0,_),(1,_),(5,_),(6,_),(7,_),(8,_),(17,_),(18,_),(19,_)]) (.d8 U U U U U U U U (.cons U .nil))) (tn (sq (sr (mv U U (ne' U (nn (cd U (λc2=>?_) (λc2=>?_))))))));exact sr (mv U U (asg U (kpL [(4,_)] (.cons U .nil) (nn (rt (tr (rb (tr (tr (rb (tr (r1 results146 U (absurd U c2)))))))))))));refine sk (tn (sq ?_));intro a h;refine z0h (some 15) (λwb w'=>Fr [ka.gy] wb w') z2m ?_;intro w6 q6;have z6:=q6.size;replace hM:=hM.ext q6;replace O:=O.ext q6;replace D:=D.ext q6;replace hW:=hW.ext q6;have hC:Fr [ka.gy] w6 w6:=Fr.refl _ _;have Z:=hM;have I:=O;have J:=D;have b4:=hW;refine z0e 0 h U λa h=>z0l 1 h U λa h=>z0c 2 h U z3e U λa h=>z0j 3 h U (λ_ hw=>I.fr hw se) U y4d U λa h=>z0e 4 h U λa h=>z0v 5 h U (λ_ hw=>J.fr hw se) z7g U λa h=>z0c 6 h U z7m U λa h=>z0j 7 h U (λ_ hw=>J.fr hw se) U na3 U λa h=>z0e 8 h U λa h=>z0d 9 U ?_;refine z0o h (z0a U (z0a U (z0a U z0f))) (mkC func196) (v0t (m.ys.getD i yq0) (m.ys.getD i yq0).pl _ (z5e m.q.p m.rk d (m.ys.getD i yq0).pl) _ (by have x:=(hM.y.ins i (by rw[hM.ly];omega)).sl;rw[show ({ m with ys:=M }:MQ).ys.getD i yq0=m.ys.getD i yq0 from a5 i (Nat.le_refl _)]at x;exact x) hW.sl (λk O=>(hW.blk k O).2) oo) ?_;rintro _ w7 ⟨qn,rfl,b8,q7⟩ a h;have z7:=q7.size;replace hM:=hM.ext q7;replace O:=O.ext q7;replace D:=D.ext q7;replace hW:=hW.ext q7;replace hC:=hC.next q7;refine z0b (z0e 10 h U λa h=>z0m 11 h U λa h=>z0m 12 h U λa h=>z1p 13 kr kr kr hC (p:=i) h wn U y4n oo oo oo U U λa h=>z0d 14 U (z1c (i:=i) (qn:YQ) h U hM.y.out (by rw[hM.ly];omega) U z7i λw8 a7 q8 _hz a h=>?_));have b7:=hM.fr.step q8 (y6f hM.y.out (by simp[u0q])) (λk O a9=>absurd (hM.y.out.blk k O).1 oo);have d9:=λhc:(goE (m.ys.getD i yq0).p (m.ys.getD i yq0).pl (z5e m.q.p m.rk d (m.ys.getD i yq0).pl))=0=>hM.yarn mtd (j:=i) (y:=qn) oo a7 q8 ((b8 hc).2.low oo);clear a7 hM;have z8:=q8.size;replace D:=D.fr q8;replace hW:=hW.fr q8 (by simp[z0u]<;>omega);replace hC:=hC.sp q8;clear _hz;refine z0b (z0d 15 U (z0r h U λa h=>?_));refine z1m (z0p ?_);clear hC Z I J b4;refine bk (h.sub (L':=[(0,_),(1,_),(8,_),(17,_),(18,_),(19,_)]) (.c6 U U U U U U)) (tn (sr (mv U U (ne' U (nn (cd U (λc3=>?_) (λc3=>?_)))))));exact sr (mv U U (asg U (kpL [(4,_)] (.cons U .nil) (nn (rt (rb (tr (tr (rb (tr (r1 results146 U ⟨_,rfl,MRet.err (by unfold y3r;rw[y7i (i:=i) (e:=(goE (m.ys.getD i yq0).p (m.ys.getD i yq0).pl (z5e m.q.p m.rk d (m.ys.getD i yq0).pl))) (by simp only[List.length_map];omega) (λj hj=>⟨_,by rw[u4g];exact a6 j hj⟩) (by rw[u4g];unfold z7a;rw[if_neg (by simpa using c1),if_pos c3])]) c3 b7⟩)))))))))));have hM:=d9 (Classical.not_not.1 c3);have a0:=hM;exact sk (bn' (tn (rg (z1b U (wi6 oo) (mv U U (nl (lpE (i+1) (.c5 U U U U U) ⟨((((Fr.refl [ka.gy] _).z6 q1 q2 q3 q4 q5 q6).n1 q7).z1 q8),⟨oo,⟨M.set i qn,by rw[List.length_set];exact a4,u2t a4 oo a6 (by unfold z7a;rw[if_neg (by simpa using c1),if_neg (λe=>e (Classical.not_not.1 c3)),(b8 (Classical.not_not.1 c3)).1]),u4m a4 oo a5,hM⟩⟩⟩ oo)))))));obtain rfl:i=6:=by omega
 have c9:=u4c a4 b9 a6;refine ex (te (te (xh (tn (sq ?_)))));intro a h;refine z0h none (λwb w'=>Fr [] wb w') z2m ?_;intro w9 q9;have z9:=q9.size;replace hM:=hM.ext q9;replace O:=O.ext q9;have hC:Fr [] w9 w9:=Fr.refl _ _;have Z:=hM;have I:=O;refine z0e 0 h U λa h=>z0l 1 h U λa h=>z0c 2 h U z3f U λa h=>z1a (vs:=[_,_]) 3 h U (λ_ hw=>(I.ext hw)) z4w U U λa h=>z0e 4 h U λa h=>z0l 5 h U λa h=>z0c 6 h U z3s U λa h=>z0j 7 h U (λ_ hw=>I.ext hw) U na3 U λa h=>z0e 8 h U λa h=>z0d 9 U (z0o h (z0a U (z0a U (z0a U z0f))) (mkC func197) (u8p m.q m.rk d _ hM.b.at hI.B (b3.ext hM.fr.fr) hI.rk hd d1) ?_);rintro _ g7 ⟨⟨gl,rfl,f8,hX⟩,q10⟩ a h;have h2:=q10.size;replace hM:=hM.ext q10;replace O:=O.ext q10;replace hC:=hC.next q10;refine z0b (z0e 10 h U λa h=>z0m 11 h U λa h=>z0m 12 h U λa h=>z0d 13 U (z0r h U λa h=>?_));refine z0b (z0d 14 U (z0r h U λa h=>?_));refine z0b (z0p ?_);clear hC Z I;refine bk (h.sub (L':=[(0,_),(9,_),(10,_)]) (.c3 U U U)) (tn (sq (sr (mv U U (ne' U (nn (cd U (λc4=>?_) (λc4=>?_))))))));exact sr (mv U U (asg U (nn (rt (tr (r1 results146 U (absurd U c4)))))));refine sk (tn (sq (sr (mv U U (lnS U underlying288 (mv U U (nn (bl (lpK (ι:=Nat) [(0,_),(79,_),(80,_)] (λi=>[(81,.int .i64 (i:Int))]) (λi w'=>i<=(z4c m.q.p m.rk d).length/\(∃(mi:MQ) (li:List Cx),z5f m.cr ((z4c m.q.p m.rk d).take i)=.ok li/\mi.p={ m.p with ys:=M.map YQ.p,cr:=li }/\MkM τd 183 wS ka w' mi/\Lw.Own z5w 292 w0.heap.size w' (.slice (some ⟨gl,0,none⟩) (z4c m.q.p m.rk d).length (z4c m.q.p m.rk d).length) (z4c m.q.p m.rk d))) (λi=>(z4c m.q.p m.rk d).length-i) 0 (.c4 U U U U) ⟨Nat.zero_le _,⟨{ m with ys:=M },m.cr,rfl,rfl,hM,hX.low oo⟩⟩ ?_)))))))));rintro i g8 ⟨hi,⟨mi,li,a2,a3,hM,hX⟩⟩;have a0:=hM;refine kpC [(0,_),(79,_),(80,_),(81,_)] (.c4 U U U U) (sr (lt' U (nn (sq (cd U (λc5=>?_) (λc5=>?_))))));have a9:i<(z4c m.q.p m.rk d).length:=by omega
 refine sk (tn (sq (bl (sr (z1d (cx0) U hX.sl U y2q z1g (λe8 b6=>?_))))));refine z1l U (b6 _ hX.sl) v2n (al j8s U (λf5 g9 e9 a1 d4 h3=>?_));refine z0k (vs:=[_,_,_,_,_]) U a1 u0h (λe5 a1 d5 h4=>?_) (h1:=(by first|(simp[Value.oneCell',S];done)|exact z3a.one (m.ys.getD i yq0)));refine nn (sr (mv U U (z0n U a1 v2n ?_)));replace hM:=a0.ext (d4.z1 d5);replace hX:=(hX.ext d4).fr d5 (by first|exact z8w hX oo|simp[z0u]<;>omega);have b0:=hM.fr;have e1:mi.cr=li:=congrArg MSt.cr a3;refine cl (z0a U (z0a U z0f)) (mkC func198) (j3f wS { ka with wk:=e5 } mi ((z4c m.q.p m.rk d).getD i cx0) _ hM.mark (by rw[e1];exact x0o hI.cv a2) (k1z _ (z0z oo))) U ?_;intro _ h0 hR;obtain⟨rfl,a8,m2,e2⟩:=hR.split;have e6:=a8.kp.size;simp only at e6;replace hX:=a8.kp.own hX (hM.gcneO hX) dd;refine asg U (nn (sr (mv U U (ne' U (nn (cd U (λc6=>?_) (λc6=>?_)))))));refine sr (mv U U (asg U (kpL [(4,_)] (.cons U .nil) (nn (rt (rb (tr (tr (rb (tr (r1 results146 U ?_)))))))))));exact⟨_,rfl,MRet.err (by unfold y3r;rw[c9];simp only;rw[v1q a2 a9 (by have x:=u4i (y2h c6);rw[show mi.p.cr=li from congrArg MSt.cr a3]at x;exact x)]) c6 (a8.un b0)⟩;obtain⟨d6,e4⟩:=e2 (Classical.not_not.1 c6);have d7:=d6.unmark b0;obtain⟨l2,e0,e3⟩:=u9q e4;refine sk (bn' (tn (rg (z1b U (wi6 oo) (mv U U (nl ?_))))));exact lpE (i+1) (.c4 U U U U) ⟨oo,⟨m2,l2,by rw[y1d a9,y2z a2,<-(show mi.cr=li from congrArg MSt.cr a3)];exact e0,by rw[e3,a3],d7,hX⟩⟩ oo;obtain rfl:i=(z4c m.q.p m.rk d).length:=by omega
 exact ex (te (te (xh (tn (sr (asg U (nn (rt (r1 results146 U ⟨_,rfl,MRet.ok (by rw[List.take_length]at a2;unfold y3r;rw[c9,a3];simp only;rw[show z5f m.p.cr (z4c m.p.B m.p.rk d)=.ok li from a2]) hM⟩)))))))))
theorem y8s (p:MSt)(d:Int):z6e p d=match y3r p d with
    | .error e=>.error e
    | .ok q=>.ok { q with rk:=p.rk+stI d }:=by
  unfold z6e y3r
  cases z3y p d p.ys with
  | error e=>rfl
  | ok ys=>
    simp only
    cases z5f p.cr (z4c p.B p.rk d) with
    | error e=>rfl
    | ok cr=>rfl
theorem u4r {p:MSt}{r:Int}(n:Nat)(h:p.rk=r):z3u n p r=.ok p:=by
 cases n with
 | zero=>rfl
 | succ n=>unfold z3u;rw[if_pos h]
theorem u5j {p:MSt}{r e:Int}{n:Nat}(h:p.rk≠r)(hn:1<=n)(D:y3r p (if r<p.rk then 0 else 1)=.error e):z3u n p r=.error e:=by
 obtain⟨k,rfl⟩:∃k,n=k+1:=⟨n-1,oo⟩;unfold z3u;rw[if_neg h,y8s,D]
theorem j1k {p q:MSt}{r:Int}{n:Nat}(h:p.rk≠r)(hn:1<=n)(D:y3r p (if r<p.rk then 0 else 1)=.ok q):z3u n p r=z3u (n-1) { q with rk:=p.rk+stI (if r<p.rk then 0 else 1) } r/\z6e p (if r<p.rk then 0 else 1)=.ok { q with rk:=p.rk+stI (if r<p.rk then 0 else 1) }:=by
 obtain⟨k,rfl⟩:∃k,n=k+1:=⟨n-1,oo⟩
 constructor
 ·conv=>lhs;unfold z3u
  rw[if_neg h,y8s,D];rfl
 rw[y8s,D]
theorem j0r (wS:World)(ka:MA)(m:MQ)(o:MOp)(w0:World)(hM:MkM τd 183 wS ka w0 m)(hi:MInv m.p)(a9:StT wS)(d0:-4<=o.r/\o.r<=4):Rets prog 94 #[.pointer (some ⟨ka.gk,0,none⟩),opV o] w0 λr w'=>MRet τd 183 wS ka (u2e m.p o) r w':=by
 have d3:=hM.fr.size;have b5:=hM.gk;have c9:=hM.k.lt;have d1:-4<=m.rk/\m.rk<=4:=hi.rk;refine we [(0,.pointer (some ⟨ka.gk,0,none⟩)),(1,opV o)] func94 U ntmps94 U (.c2 U U) ?_;have a0:=hM;refine sr (bx U (λg3 w1 b9 I q1 z1=>(asg U (nn (sq (bl ?_))))));replace hM:=a0.ext q1;refine lpK (ι:=Nat) [(0,_),(3,_)] (λn=>[]) (λn w'=>∃D:MQ,(z3u 8 m.p o.r=z3u n D.p o.r/\MInv D.p/\-(n:Int)<=o.r-D.rk/\o.r-D.rk<=n)/\MkM τd 183 wS ka w' D/\Blk w' g3 47 [.int .u8 o.k,.int .u8 o.d,.int .u8 o.b,.int .i64 o.p,.int .u8 o.y,.int .i64 o.r]) (λn=>n) 8 (.c2 U U) ⟨m,⟨rfl,hi,oo,oo⟩,hM,I⟩ ?_;rintro n w2 ⟨D,⟨a2,Z,b7,b8⟩,hM,I⟩;have a0:=hM;have a6:=I.lt;refine kpC [(0,_),(3,_)] (.c2 U U) ?_;have O:=hM.k;have b6:-4<=D.rk/\D.rk<=4:=Z.rk;refine sq (sq ?_);intro a h;refine z0h none (λwb w'=>Fr [] wb w') z2m ?_;intro w3 q3;replace I:=I.ext q3;replace O:=O.ext q3;have hC:Fr [] w3 w3:=Fr.refl _ _;have M:=I;have J:=O;refine z0e 0 h U λa h=>z0l 1 h U λa h=>z0c 2 h U z3s U λa h=>z0j 3 h U (λ_ hw=>J.ext hw) U na3 U λa h=>z0c 4 h U y3o U λa h=>z0j 5 h U (λ_ hw=>M.ext hw) U na3 U λa h=>j4p 6 hC h wn U U U U λa h=>z0p ?_;clear hC M J;refine bk (h.sub (L':=[(0,_),(3,_),(14,_)]) (.c3 U U U)) (tn (cd U (λc0=>?_) (λc0=>?_)));have a4:D.p.rk≠o.r:=c0;refine sk (tn (bl (sq ?_)));intro a h;refine z0h none (λwb w'=>Fr [] wb w') z2m ?_;intro w4 q4;replace O:=O.ext q4;have hC:Fr [] w4 w4:=Fr.refl _ _;have J:=O;refine z0e 0 h U λa h=>z0l 1 h U λa h=>z0c 2 h U z3s U λa h=>z0j 3 h U (λ_ hw=>J.ext hw) U na3 U λa h=>z4m 4 h U (by first|exact i6 oo|rfl) U λa h=>z0d 5 U (z0r h U λa h=>?_);refine z0b (z0d 6 U (z0r h U λa h=>?_));refine z0b (z0p ?_);clear hC J;refine bk (h.sub (L':=[(0,_),(3,_),(5,_),(6,_)]) (.c4 U U U U)) (tn (jn (ι:=Unit) [(0,_),(3,_)] (λ_j=>[(5,.int .u8 (if o.r<D.rk then (0:Int) else 1)),(6,.int .i64 (D.rk+stI (if o.r<D.rk then (0:Int) else 1)))]) (λ_j w'=>Fr [] w4 w') (.c2 U U) ?_ ?_));refine sq ?_;intro a h;refine z0h none (λwb w'=>Fr [] wb w') z2m ?_;intro w5 q5;replace I:=I.ext (q4.n1 q5);replace O:=O.ext q5;have hC:Fr [] w5 w5:=Fr.refl _ _;have M:=I;have J:=O;refine z0c 0 h U y3o U λa h=>z0j 1 h U (λ_ hw=>M.ext hw) U na3 U λa h=>z0e 2 h U λa h=>z0l 3 h U λa h=>z0c 4 h U z3s U λa h=>z0j 5 h U (λ_ hw=>J.ext hw) U na3 U λa h=>v3a 6 hC h wn U U λa h=>z0p ?_;clear hC M J;refine bk (h.sub (L':=[(0,_),(3,_),(5,_),(6,_),(26,_)]) (.c5 U U U U U)) (tn (cd U (λc1=>?_) (λc1=>?_)));intro a h;refine z0h none (λwb w'=>Fr [] wb w') z2m ?_;intro w6 q6;replace O:=O.ext q6;have hC:Fr [] w6 w6:=Fr.refl _ _;have J:=O;refine z0e 0 h U λa h=>z0l 1 h U λa h=>z0c 2 h U z3s U λa h=>z0j 3 h U (λ_ hw=>J.ext hw) U na3 U λa h=>z2w 4 h wn U (by first|exact i6 oo|rfl) U λa h=>z0d 5 U (z0r h U λa h=>?_);refine z0b (z0d 6 U (z0r h U λa h=>?_));refine z0b (z0p ?_);clear hC J;refine bk (h.sub (L':=[(0,_),(3,_),(5,_),(6,_)]) (.c4 U U U U)) ?_;exact jE (()) (.c4 U U (congrArg (λz=>some (Value.int .u8 z)) (by first|exact(if_pos c1).symm|exact(if_neg c1).symm)) (congrArg (λz=>some (Value.int .i64 z)) (by first|(rw[show (if o.r<D.rk then (0:Int) else 1)=0 from if_pos c1,show stI 0 = -1 from U];omega)|(rw[show (if o.r<D.rk then (0:Int) else 1)=1 from if_neg c1];rfl)))) (q5.n1 q6);refine sk ?_;exact jE (()) (.c4 U U (congrArg (λz=>some (Value.int .u8 z)) (by first|exact(if_pos c1).symm|exact(if_neg c1).symm)) (congrArg (λz=>some (Value.int .i64 z)) (by first|(rw[show (if o.r<D.rk then (0:Int) else 1)=0 from if_pos c1,show stI 0 = -1 from U];omega)|(rw[show (if o.r<D.rk then (0:Int) else 1)=1 from if_neg c1];rfl)))) q5;rintro _j w7 q7;refine kpC [(0,_),(3,_),(5,_),(6,_)] (.c4 U U U U) (sq (sr (mv U U (mv U U ?_))));replace hM:=a0.ext (q3.n2 q4 q7);replace I:=I.ext (q4.n1 q7);have a3:=hM.fr;refine cl (z0a U (z0a U z0f)) (mkC func146) (j0y wS { ka with wk:=w7 } D (if o.r<D.rk then (0:Int) else 1) _ hM.mark Z a9 (by split<;>simp) (by have hx:-4<=D.rk/\D.rk<=4:=Z.rk;unfold stI;split<;>split at *<;>omega)) U ?_;intro _ w8 hR;obtain⟨rfl,a1,m2,b3⟩:=hR.split;have z8:=a1.kp.size;simp only at z8;replace I:=a1.kp.blk I (by have:=hM.gcne I;exact this) dd;refine asg U (nn (sr (mv U U (ne' U (nn (cd U (λc2=>?_) (λc2=>?_)))))));exact sr (mv U U (asg U (kpL [(4,_)] (.cons U .nil) (nn (rt (tr (rb (tr (rb (tr (r1 results94 U ⟨_,rfl,MRet.err (by unfold u2e;rw[a2];exact u5j a4 oo (y2h c2)) c2 (a1.un a3)⟩)))))))))));obtain⟨a8,b4⟩:=b3 (Classical.not_not.1 c2);replace hM:=a8.unmark a3;have a0:=hM;have O:=hM.k;have a5:=j1k (p:=D.p) (r:=o.r) (n:=n) a4 oo b4;have a7:=y4h Z (by have hx:-4<=D.rk/\D.rk<=4:=Z.rk;show -4<=D.rk+stI (if o.r<D.rk then (0:Int) else 1)/\D.rk+stI (if o.r<D.rk then (0:Int) else 1)<=4;unfold stI;split<;>split at *<;>omega) a5.2;refine sk (tn (rg (mv U U (mv U U (nlc U (fad U z3s (z3p U O U sz3 (λw9 b0 q9 z9=>?_))))))));replace hM:=hM.beds mtd (q:=m2.q) (r:=D.rk+stI (if o.r<D.rk then (0:Int) else 1)) hM.b b0 q9 hM.fb;refine kpL [(0,_),(3,_)] (.c2 U U) (nl (bn' ?_));replace I:=I.fr q9;exact lpE ((n-1)) (.c2 U U) ⟨{ m2 with rk:=D.rk+stI (if o.r<D.rk then (0:Int) else 1) },⟨by rw[a2,a5.1],a7.1,by show -((n-1:Nat):Int)<=o.r-(D.rk+stI (if o.r<D.rk then (0:Int) else 1));unfold stI;split<;>split at *<;>omega,by show o.r-(D.rk+stI (if o.r<D.rk then (0:Int) else 1))<=((n-1:Nat):Int);unfold stI;split<;>split at *<;>omega⟩,hM,I⟩ oo;refine ex (te (te (xh (tn (sr (asg U (nn (rt (r1 results94 U ?_)))))))));replace hM:=a0.ext q3;exact⟨_,rfl,MRet.ok (by unfold u2e;rw[a2];exact u4r n (show D.rk=o.r by omega)) hM⟩
theorem k3q (w:World):(zeroValue 185).run prog w=.ok .nilFunc w:=kr
abbrev u0t (F:Nat):Value:=.func (.func F) #[] #[]
def j8j:Int->Option Value:=λk'=>if k'=8 then some (u0t 99) else (if k'=7 then some (u0t 98) else (if k'=6 then some (u0t 97) else (if k'=5 then some (u0t 96) else (if k'=4 then some (u0t 95) else (if k'=3 then some (u0t 94) else (if k'=2 then some (u0t 93) else (if k'=1 then some (u0t 92) else (none))))))))
theorem j0b (w0:World):Rets prog 40 #[] w0 λr w'=>(∃g,r=.map (some g)/\w0.heap.size<=g/\MapF kV w' g j8j)/\Fr [] w0 w':=by
 refine we [] func40 U ntmps40 U .nil (sr (asg U (nn (sr (z8y kV U (λI w1 J D M z1=>(z3c (V:=kV) (k:=1) U D y6w underlying110 (λw2 D O z2=>(z3c (V:=kV) (k:=2) U D y6w underlying110 (λw3 D Z z3=>(z3c (V:=kV) (k:=3) U D y6w underlying110 (λw4 D q4 z4=>?_))))))))))));exact z3c (V:=kV) (k:=4) U D y6w underlying110 (λw5 D q5 z5=>(z3c (V:=kV) (k:=5) U D y6w underlying110 (λw6 D q6 z6=>(z3c (V:=kV) (k:=6) U D y6w underlying110 (λw7 D q7 z7=>(z3c (V:=kV) (k:=7) U D y6w underlying110 (λw8 D q8 z8=>(z3c (V:=kV) (k:=8) U D y6w underlying110 (λw9 D q9 z9=>(mv U U (asg U (nn (rt (r1 results40 U ⟨_,rfl,⟨I,rfl,oo,D⟩,(((M.z6 O Z q4 q5 q6 q7).z1 q8).z1 q9)⟩))))))))))))))
theorem j8l (wS:World)(D:MA)(m:MQ)(o:MOp)(w0:World)(hM:MkM τd 183 wS D w0 m)(I:MInv m.p)(O:StT wS)(hc:z9v o=0):∃F:Nat,j8j o.k=some (u0t F)/\CallOf prog F/\Rets prog F #[.pointer (some ⟨D.gk,0,none⟩),opV o] w0 λr w'=>MRet τd 183 wS D (opM m.p o) r w':=by
 obtain⟨hk,Z,M,a0,J,hr⟩:=z3j hc;unfold opM;rcases hk with e|e|e|e|e|e|e|e<;>rw[e]at Z M a0 J hr ⊢
 exact⟨_,rfl,(mkC func92),k0h wS D m o w0 hM (M sp0)⟩;exact⟨_,rfl,(mkC func93),j1e wS D m o w0 hM (M sp0)⟩;exact⟨_,rfl,(mkC func94),j0r wS D m o w0 hM I O (hr sp0)⟩;exact⟨_,rfl,(mkC func95),u9i wS D m o w0 hM I (M sp0) (J sp0)⟩;exact⟨_,rfl,(mkC func96),j2u wS D m o w0 hM I (M sp0) (J sp0)⟩;exact⟨_,rfl,(mkC func97),j4i wS D m o w0 hM I (M sp0) (J sp0)⟩;exact⟨_,rfl,(mkC func98),j1o wS D m o w0 hM I (J sp0)⟩;exact⟨_,rfl,(mkC func99),u8v wS D m o w0 hM I (J sp0)⟩
theorem j9a (wS:World)(J:MA)(m:MQ)(o:MOp)(gl:Nat)(w0:World)(hM:MkM τd 183 wS J w0 m)(hi:MInv m.p)(a1:StT wS)(hl:MapF kV w0 gl j8j):Rets prog 41 #[.pointer (some ⟨J.gk,0,none⟩),.map (some gl),opV o] w0 λr w'=>MRet τd 183 wS J (doM m.p o) r w':=by
 refine we [(0,.pointer (some ⟨J.gk,0,none⟩)),(1,.map (some gl)),(2,opV o)] func41 U ntmps41 U (.c3 U U U) ?_;have a0:=hM;have a3:=hl;refine sr (bx U (λg5 w1 a4 D q1 z1=>(asg U (nn (sq (sr (z0n U D y6p (cl (ev1 U) (mkC func100) (y8r _ _) U ?_))))))));rintro _ w2 ⟨rfl,q2⟩;refine asg U (nn (sr (mv U U (ne' U (nn (cd U (λO=>?_) (λO=>?_)))))));refine sr (mv U U (asg U (kpL [(6,_)] (.cons U .nil) (nn (rt (tr (r1 results41 U ?_)))))));replace hM:=a0.ext (q1.n1 q2);exact⟨_,rfl,MRet.err (by unfold doM;rw[if_pos O]) O hM.fr⟩;replace hM:=a0.ext (q1.n1 q2);have hc:z9v o=0:=Classical.not_not.1 O;have I:=λw hM=>j8l wS J m o w hM hi a1 hc;obtain⟨F,hF,a2,-⟩:=I _ hM;have M:∀w,MkM τd 183 wS J w m->Rets prog F #[.pointer (some ⟨J.gk,0,none⟩),opV o] w λr w'=>MRet τd 183 wS J (opM m.p o) r w':=λw hM=>by
  obtain⟨F',Z,-,h'⟩:=I w hM;rw[hF]at Z;cases Z;exact h'
 refine sk (tn (sr (mv U U (fad U z6y ?_))));replace D:=D.ext q2;refine z0i U D U v1s ?_;replace hl:=a3.ext (q1.n1 q2);refine y4r (V:=kV) (k:=o.k) (f:=j8j) (v:=u0t F) U U hl y6w underlying110 k3q (by rw[hF];rfl) U (mv U U (z0n U D y6p (clv (us:=[]) (ws:=[]) U (ev2 U) a2 (M w2 hM) U (by intro g e;cases e) ?_)));rintro a5 w3 hR;exact asg U (kpL [(6,_)] (.cons U .nil) (nn (rt (r1 results41 U ⟨_,rfl,by rw[show doM m.p o=opM m.p o from if_neg O];exact hR⟩))))
end Go.Proofs.YtjilcnmaefhmeaaGreatDoor
namespace Go.G08
open Go.Lw Go.G21
theorem u2l (l:List Cx)(a b:LId)(n:Int):(y7u l a b n).length<=l.length+1:=by
 unfold y7u;split<;>simp
theorem u2b (l:List Cx)(a b:LId):(v0d l a b).length<=l.length+1:=Nat.le_trans (List.length_filter_le _ _) oo
theorem u5q {l l':List Cx}{c:Cx}(h:y8m l c=.ok l'):l'.length<=l.length+1:=by
 rw[y9m]at h;split at h;cases h;split at h;cases h;exact u2b ..;cases h;exact u2l ..
theorem x2p:∀ {r l l':List Cx},z5f l r=.ok l'->l'.length<=l.length+r.length
 | [],l,l',h=>by cases h;exact Nat.le_refl _
 | c::r,l,l',h=>by
  unfold z5f at h
  split at h
  ·cases h
  rename_i I D
  have:=u5q D
  have:=x2p h
  simp only[List.length_cons];omega
theorem v5v {B:Bd}(h:BdOk B)(r d:Int):(z4c B r d).length<=640:=Nat.le_trans (y1z h r d) (by have:=h.lb;omega)
theorem v6u {p q:MSt}{d:Int}(h:BdOk p.B)(e:z6e p d=.ok q):q.B=p.B/\q.cr.length<=p.cr.length+640:=by
 unfold z6e at e;split at e;cases e;split at e;cases e;rename_i ys J I D;cases e;have:=x2p D;have:=v5v h p.rk d;exact⟨rfl,sm⟩
theorem x4a:∀ {n:Nat} {p q:MSt} {r:Int},BdOk p.B->z3u n p r=.ok q->q.cr.length<=p.cr.length+n*640
 | 0,p,q,r,h,e=>by cases e;omega
 | n+1,p,q,r,h,e=>by
  unfold z3u at e
  split at e
  ·cases e;omega
  split at e
  ·cases e
  rename_i M D
  obtain⟨I,J⟩:=v6u h D
  have:=x4a (I▸h) e
  rw[Nat.add_mul];omega
theorem x5d {p q:MSt}{y D en:Int}(e:y2k p y D en=.ok q):q.cr=p.cr:=by
 unfold y2k at e;split at e;cases e;cases e;rfl
theorem v4c {p q:MSt}{o:MOp}{D st:List LId}(e:y5m p o D st=.ok q):q.cr=p.cr:=by
 unfold y5m at e;split at e;cases e;split at e;cases e;cases e;rfl
theorem u8t {p q:MSt}{o:MOp}(h:BdOk p.B)(e:opM p o=.ok q):q.cr.length<=p.cr.length+5120:=by
 have s:∀ {x:MSt},x.cr=p.cr->x.cr.length<=p.cr.length+5120:=λI=>by rw[I];omega
 unfold opM at e;split at e;unfold inM at e;split at e;cases e;cases e;exact s U;split at e;unfold x6s at e;split at e;cases e;cases e;exact s U;split at e;have:=x4a h e;omega;split at e;unfold y0x at e;split at e;cases e;split at e;cases e;rename_i J D;exact s ((v4c e).trans (x5d D));split at e;unfold y0d at e;split at e;cases e;split at e;cases e;rename_i J D;split at e;cases e;exact s ((v4c e).trans (x5d D));split at e;unfold y4b at e;split at e;cases e;exact s (x5d e);split at e;unfold z9d at e;repeat (split at e;· cases e)
 cases e;exact s U;unfold y2v at e;split at e;cases e;cases e;exact s U
theorem x8p:∀ {l:List MOp} {i:Nat} {p q:MSt},MInv p->z3n i p l=.ok q->q.cr.length<=p.cr.length+l.length*5120
 | [],i,p,q,h,e=>by cases e;simp
 | o::l,i,p,q,h,e=>by
  unfold z3n at e
  split at e
  ·cases e
  rename_i J D
  have I:=u0d h D
  have M:=x8p I e
  have O:J.cr.length<=p.cr.length+5120:=by
   unfold doM at D
   split at D
   ·cases D
   exact u8t h.B D
  rw[List.length_cons,Nat.add_mul];omega
theorem z7d {a b:LId}:z6q a b<0↔a.y<b.y\/a.y=b.y/\a.n<b.n:=by
 unfold z6q;(repeat' split)<;>constructor<;>intro h<;>omega
theorem x4m {a b:LId}:z6q a b=0↔a=b:=by
 obtain⟨J,I⟩:=a;obtain⟨D,bn⟩:=b;rw[LId.mk.injEq];unfold z6q;dsimp only;(repeat' split)<;>constructor<;>intro h<;>omega
theorem y6k {T T':Tb}{l:Lp}(h:y6i T l)(I:∀i,z3r T i->z3r T' i):y6i T' l:=⟨h.1,h.2.1,λi D=>I i (h.2.2.1 i D),h.2.2.2⟩
theorem x9o {T:Tb}(h6:T.length=6){i:LId}(h:z3r T i):∃y n:Nat,y<6/\n<z3b T y/\i=⟨(y:Int)+1,(n:Int)⟩:=by
 obtain⟨J,M,O,Z⟩:=h;obtain⟨I,D⟩:=i;simp only at J M O Z;exact⟨(I-1).toNat,D.toNat,oo,oo,by rw[show (((I-1).toNat:Nat):Int)+1=I by omega,show ((D.toNat:Nat):Int)=D by omega]⟩
theorem y4m {T:Tb}{j:Nat}(J:T.length=6)(M:j<6){l:Lp}{i:LId}:z3r (T.set j (T.getD j []++[l])) i↔z3r T i\/i=⟨(j:Int)+1,(z3b T j:Int)⟩:=by
 have D:j<T.length:=by omega
 constructor;intro h;obtain⟨y,n,O,I,rfl⟩:=x9o (by rw[List.length_set];exact J) h;rw[z9p D]at I;by_cases e:j=y;subst e;rw[if_pos U,List.length_append,List.length_singleton,show (T.getD j []).length=z3b T j from U]at I;by_cases e2:n<z3b T j;exact .inl (y2c D e2);exact .inr (by rw[show n=z3b T j by omega]);rw[if_neg e]at I;exact .inl (y2c oo I);rintro(h|rfl);exact x0p D h;exact y2c (by rw[List.length_set];exact D) (by rw[z9p D,if_pos U,List.length_append,List.length_singleton];exact Nat.lt_succ_self _)
structure TabR (T:Tb) (rk:LId->Nat):Prop where
  six:T.length=6
  rts:∀y,y<6->∀n,n<z3b T y->y6i T (lpA T y n)/\(n=0->(lpA T y n).nw=true)
  rkd:Ranked T rk
  top:∀i,z3r T i->rk i<z4f T
theorem TabR.add {T:Tb}{rk:LId->Nat}(h:TabR T rk){j:Nat}(hj:j<6){l:Lp}(hr:y6i T l)(h0:z3b T j=0->l.nw=true) :
    TabR (T.set j (T.getD j []++[l])) (rkX rk j (z3b T j) (z4f T)):=by
  have h6:=h.six
  have a0:j<T.length:=by omega
  have a2:z4f (T.set j (T.getD j []++[l]))=z4f T+1:=by
    have:=y3e T j (T.getD j []++[l]) a0
    rw[List.length_append,List.length_singleton,show (T.getD j []).length=z3b T j from U]at this
    omega
  have D:∀i,z3r T i->rkX rk j (z3b T j) (z4f T) i=rk i:=λi J=>by
    obtain⟨y,n,I,M,rfl⟩:=x9o h6 J
    unfold rkX
    rw[if_neg]
    rintro⟨e1,e2⟩
    simp only at e1 e2
    have:y=j:=by omega
    subst this;omega
  have O:rkX rk j (z3b T j) (z4f T) ⟨(j:Int)+1,(z3b T j:Int)⟩=z4f T:=by
    unfold rkX
    rw[if_pos ⟨rfl,sp0⟩]
    show z4f T+((z3b T j:Int)-(z3b T j:Int)).toNat=z4f T
    omega
  have hm:∀i,z3r T i->z3r (T.set j (T.getD j []++[l])) i:=λi J=>(y4m h6 hj).2 (.inl J)
  -- an old loop,or the new one
  have a1:∀y,y<6->∀n,n<z3b (T.set j (T.getD j []++[l])) y->(n<z3b T y/\lpA (T.set j (T.getD j []++[l])) y n=lpA T y n)\/(y=j/\n=z3b T j/\lpA (T.set j (T.getD j []++[l])) y n=l):=λy I n M=>by
    rw[z9p a0]at M
    rw[j4j a0]
    by_cases e:j=y
    · subst e
      rw[if_pos U,List.length_append,List.length_singleton,show (T.getD j []).length=z3b T j from U]at M
      rw[if_pos U]
      by_cases e2:n<z3b T j
      · exact .inl ⟨e2,if_pos e2⟩
      · obtain rfl:n=z3b T j:=by omega
        exact .inr ⟨rfl,rfl,by rw[if_neg e2,Nat.sub_self];rfl⟩
    · rw[if_neg e]at M
      exact .inl ⟨M,by rw[if_neg e]⟩
  have hp:∀ {y n:Nat},y<6->n<z3b T y->z3r T ⟨(y:Int)+1,(n:Int)⟩:=λI M=>y2c oo M
  refine⟨by rw[List.length_set];exact h6,λy I n M=>?_,⟨λy I n M i J=>?_,λy I n m Z a3=>?_⟩,λi J=>?_⟩
  · rcases a1 y I n M with ⟨k,e⟩|⟨rfl,rfl,e⟩
    · rw[e];exact⟨y6k (h.rts y I n k).1 hm,(h.rts y I n k).2⟩
    · rw[e];exact⟨y6k hr hm,h0⟩
  · rcases a1 y I n M with ⟨k,e⟩|⟨rfl,rfl,e⟩
    · rw[e]at J
      rw[D _ (hp I k),D _ ((h.rts y I n k).1.2.2.1 i J)]
      exact h.rkd.need y I n k i J
    · rw[e]at J
      rw[O,D _ (hr.2.2.1 i J)]
      exact h.top i (hr.2.2.1 i J)
  · rcases a1 y I m a3 with ⟨k,_⟩|⟨rfl,rfl,_⟩
    · rw[D _ (hp I k),D _ (hp I (show n<z3b T y by omega))]
      exact h.rkd.mono y I n m Z k
    · rw[O,D _ (hp I Z)]
      exact h.top _ (hp I Z)
  · rw[a2]
    rcases(y4m h6 hj).1 J with k|rfl
    · rw[D _ k];have:=h.top i k;omega
    · rw[O];omega
theorem u4a {T:Tb}{j:Nat}(D:j<T.length)(l:Lp)(i:LId):(y0i (T.set j (T.getD j []++[l]))).count i=(y0i T).count i+l.th.count i:=by
 have h:=z8k v0l T j [] (T.getD j []++[l]) i D;have e:v0l (T.getD j []++[l])=v0l (T.getD j [])++l.th:=by unfold v0l;simp
 unfold y0i;rw[e,List.count_append]at h;omega
theorem v0s {T:Tb}{rk:LId->Nat}(h:TabR T rk){i:LId}(D:i∈y0i T):z3r T i:=by
 unfold y0i at D;obtain⟨r,O,D⟩:=List.mem_flatMap.1 D;unfold v0l at D;obtain⟨l,M,D⟩:=List.mem_flatMap.1 D;obtain⟨y,Z,rfl⟩:=List.getElem_of_mem O;obtain⟨n,J,rfl⟩:=List.getElem_of_mem M;have I:T.getD y []=T[y]:=by rw[List.getD,List.getElem?_eq_getElem Z];rfl
 have en:lpA T y n=T[y][n]:=by unfold lpA;rw[I,List.getD,List.getElem?_eq_getElem J];rfl
 have h6:=h.six;have:=(h.rts y oo n (by unfold z3b;rw[I];exact J)).1.2.2.1 i (by rw[en];exact List.mem_append_left _ D);exact this
theorem v8w {T:Tb}{st:List Pa}{p:Pa}(h:∀q∈st,z3r T q.id)(hp:z3r T p.id):∀q∈y0w st p,z3r T q.id:=by
 unfold y0w;split;exact λq D=>h q (List.mem_of_mem_take D);intro q D;rcases List.mem_append.1 D with k|k
 exact h q k;rw[List.mem_singleton.1 k];exact hp
theorem x4c {T:Tb}:∀ {l st:List Pa},(∀q∈st,z3r T q.id)->(∀q∈l,z3r T q.id)->∀q∈z4o st l,z3r T q.id
 | [],_,h,_=>h
 | p::l,st,h,hl=>x4c (l:=l) (v8w h (hl p sp0)) (λq D=>hl q (List.mem_cons_of_mem _ D))
theorem x3m:∀(l st:List Pa),y5q (st++l)->z4o st l=st++l
 | [],st,_=>by simp[z4o]
 | p::l,st,h=>by
  have I:y0w st p=st++[p]:=by
   unfold y0w
   rw[if_neg]
   rintro⟨O,Z⟩
   have D:=(h st.length sp0).2 O
   have J:(st++p::l).getD (st.length-1) pa0=st.getD (st.length-1) pa0:=by
    rw[List.getD,List.getElem?_append_left oo,List.getD]
   have M:(st++p::l).getD st.length pa0=p:=by simp[List.getD]
   rw[J,M]at D
   exact D Z
  show z4o (y0w st p) l=_
  rw[I,x3m l (st++[p]) (by simpa using h)]
  simp
theorem u8j {l:List Pa}(h:y5q l):(z4o [] l).length=l.length:=by rw[x3m l [] (by simpa using h)];rfl
theorem v4e {l:List Pa}(h:y5q l):∀p∈l,z5t p.d:=λp I=>by
 obtain⟨i,D,rfl⟩:=List.getElem_of_mem I
 have:=(h i D).1.2
 rwa [List.getD,List.getElem?_eq_getElem D]at this
theorem x4f (h:Hd):∀l:List Hd,(y2l h l).Perm (h::l)
 | []=>.refl _
 | x::l=>by
  unfold y2l
  split
  ·exact .refl _
  exact((x4f h l).cons x).trans (.swap h x l)
theorem v7n (l:List Hd):(z5h l).Perm l:=by
 have h:∀(l st:List Hd),(l.foldl (λa h=>y2l h a) st).Perm (st++l):=by
  intro l;induction l with
  | nil=>intro st;simp
  | cons x l ih=>
   intro st;show (l.foldl _ (y2l x st)).Perm _;exact(ih _).trans (((x4f x st).append_right l).trans (by simpa using (List.perm_middle (a:=x) (l₁:=st) (l₂:=l)).symm))
 have e:=h l [];rw[List.nil_append]at e;exact e
theorem z9w (B:Bd)(r:Int):(z2n B r).Perm (v3e B r):=v7n _
theorem v3p (b r:Int)(l:Bed):(hds b r l l.length).map Hd.id=l.flatten:=by
 have h:∀i,i<=l.length->(hds b r l i).map Hd.id=(l.take i).flatten:=by
  intro i;induction i with
  | zero=>intro _;simp[hds]
  | succ i ih=>
   intro D;rw[y8p,List.map_append,ih oo,List.take_add_one,List.flatten_append,List.getElem?_eq_getElem oo,List.getD,List.getElem?_eq_getElem oo];simp[hdS,Function.comp_def]
 rw[h _ (Nat.le_refl _),List.take_length]
theorem z8e (B:Bd)(r:Int):((z2n B r).map Hd.id).Perm B.flat:=by
 refine((z9w B r).map _).trans ?_;unfold v3e Bd.flat;rw[List.map_append,v3p,v3p]
theorem v8z {B:Bd}{r f t:Int}{q:Pa}(h:q∈btw (z2n B r) f t):q.id∈B.flat:=by
 have I:∀x∈z2n B r,x.id∈B.flat:=λx D=>(z8e B r).mem_iff.1 (List.mem_map_of_mem D);unfold btw at h;split at h;obtain⟨x,D,rfl⟩:=List.mem_map.1 h;exact I x (List.mem_filter.1 D).1;obtain⟨x,D,rfl⟩:=List.mem_map.1 (List.mem_reverse.1 h);exact I x (List.mem_filter.1 D).1
theorem x9u {B:Bd}{k:Nat}{x:LId}(h:x∈B.b.getD k []):x∈B.b.flatten:=by
 by_cases e:k<B.b.length;rw[List.getD,List.getElem?_eq_getElem e]at h;exact List.mem_flatten.2 ⟨_,List.getElem_mem e,h⟩;rw[List.getD,List.getElem?_eq_none oo]at h;cases h
theorem x4d {B:Bd}{r d p:Int}{i:Nat}{q:Pa}(h:q∈z8f B r d p i):q.id∈B.flat:=by
 unfold z8f at h;obtain⟨k,_,h⟩:=List.mem_flatMap.1 h;unfold y5g at h;split at h;cases h;obtain⟨x,D,rfl⟩:=List.mem_map.1 h;exact List.mem_append_right _ (x9u D)
theorem x2s {B:Bd}{r d p:Int}{q:Pa}(h:q∈z5e B r d p):q.id∈B.flat:=by
 unfold z5e at h;split at h;exact x4d (List.mem_reverse.1 h);exact x4d h
theorem v5o {B:Bd}{n:Int}{x:LId}(h:x∈B.atC 0 n):x∈B.f.flatten:=by
 unfold Bd.atC at h;split at h;unfold Bd.at at h;rw[if_pos U]at h;have D:atB B.f n≠[]:=λe=>by rw[e]at h;cases h
 exact List.mem_flatten.2 ⟨_,v4m D,h⟩;cases h
theorem v0e {B:Bd}{r d:Int}{i:Nat}{c:Cx}(hn:B.flat.Nodup)(h:c∈v1v B r d i):c.a∈B.flat/\c.b∈B.flat/\c.a≠c.b/\(c.n=1\/c.n = -1):=by
 unfold v1v at h;obtain⟨k,_,h⟩:=List.mem_flatMap.1 h;unfold u7z at h;obtain⟨x,O,h⟩:=List.mem_flatMap.1 h;obtain⟨o,M,rfl⟩:=List.mem_map.1 h;have I:x∈B.b.flatten:=x9u O;have J:o∈B.f.flatten:=v5o (List.mem_reverse.1 M);have D:o≠x:=(List.nodup_append.1 hn).2.2 o J x I;unfold x9k;split;exact⟨List.mem_append_left _ J,List.mem_append_right _ I,D,.inl U⟩;exact⟨List.mem_append_right _ I,List.mem_append_left _ J,D.symm,.inr U⟩
theorem x3y {B:Bd}{r d:Int}{c:Cx}(hn:B.flat.Nodup)(h:c∈z4c B r d):c.a∈B.flat/\c.b∈B.flat/\c.a≠c.b/\(c.n=1\/c.n = -1):=by
 unfold z4c at h;split at h;exact v0e hn (List.mem_reverse.1 h);exact v0e hn h
structure CrsOk (T:Tb) (l:List Cx):Prop where
  has:∀c∈l,z3r T c.a/\z3r T c.b/\z6q c.a c.b<0/\(-1048576<=c.n/\c.n<=1048576)/\c.n≠0
  nd:(l.map λc=>(c.a,c.b)).Nodup
theorem CrsOk.mono {T T':Tb}{l:List Cx}(h:CrsOk T l)(I:∀i,z3r T i->z3r T' i):CrsOk T' l:=⟨λc D=>⟨I _ (h.has c D).1,I _ (h.has c D).2.1,(h.has c D).2.2⟩,h.nd⟩
theorem u4b {l:List Cx}{a b:LId}{n:Int}(h:l.any (isC a b)=true):(y7u l a b n).map (λc=>(c.a,c.b))=l.map λc=>(c.a,c.b):=by
 unfold y7u;rw[if_pos h,List.map_map];refine List.map_congr_left λc _=>?_;simp only[Function.comp_apply];split;rename_i e;obtain⟨D,I⟩:=z8d.1 e;rw[D,I];rfl
theorem u5i {l:List Cx}{a b:LId}{n:Int}{c:Cx}(h:c∈y7u l a b n):c=⟨a,b,n⟩\/c∈l:=by
 unfold y7u at h;split at h;obtain⟨z,D,rfl⟩:=List.mem_map.1 h;split;exact .inl U;exact .inr D;rcases List.mem_append.1 h with k|k
 exact .inr k;exact .inl (List.mem_singleton.1 k)
theorem u3i {a b:LId}(h:a≠b)(D:¬0<z6q a b):z6q a b<0:=by
 have:=mt x4m.1 h;omega
theorem v5r {a b:LId}(h:0<z6q a b):z6q b a<0:=by
 rw[z7d];unfold z6q at h;(repeat' split at h)<;>omega
theorem CrsOk.add {T:Tb}{l l':List Cx}{c:Cx}(h:CrsOk T l)(O:z3r T c.a)(hb:z3r T c.b)(I:c.a≠c.b)(e:y8m l c=.ok l'):CrsOk T l':=by
 unfold y8m at e;dsimp only at e;obtain⟨a,b,hk,h1,h2,h3⟩:∃a b,(if 0<z6q c.a c.b then (c.b,c.a) else (c.a,c.b))=(a,b)/\z3r T a/\z3r T b/\z6q a b<0:=by
  split;rename_i k;exact⟨_,_,rfl,hb,O,v5r k⟩;rename_i k;exact⟨_,_,rfl,O,hb,u3i I k⟩
 rw[hk]at e;split at e;cases e;rename_i hr;split at e;cases e;exact⟨λx D=>h.has x (List.mem_filter.1 D).1,h.nd.sublist (List.filter_sublist.map _)⟩;rename_i M;cases e;dsimp only at hr M ⊢;refine⟨λx D=>?_,?_⟩;rcases u5i D with rfl|k
 exact⟨h1,h2,h3,by dsimp only;omega,M⟩;exact h.has x k;by_cases k:l.any (isC a b)=true;rw[u4b k];exact h.nd;unfold y7u;rw[if_neg k,List.map_append,List.map_singleton,List.nodup_append];refine⟨h.nd,sp0,λx D y hy=>?_⟩;obtain⟨z,hz,rfl⟩:=List.mem_map.1 D;rw[List.mem_singleton.1 hy];intro J;have Z:=congrArg Prod.fst J;have e2:=congrArg Prod.snd J;exact k (List.any_eq_true.2 ⟨z,hz,z8d.2 ⟨Z,e2⟩⟩)
theorem CrsOk.adds {T:Tb}:∀ {r l l':List Cx},CrsOk T l->(∀c∈r,z3r T c.a/\z3r T c.b/\c.a≠c.b)->z5f l r=.ok l'->CrsOk T l'
 | [],l,l',h,_,e=>by cases e;exact h
 | c::r,l,l',h,hr,e=>by
  unfold z5f at e
  split at e
  ·cases e
  rename_i M I
  have D:=hr c sp0
  exact CrsOk.adds (h.add D.1 D.2.1 D.2.2 I) (λx J=>hr x (List.mem_cons_of_mem _ J)) e
def YnV (T:Tb)(y:Yn):Prop:=(∀q∈y.pe,z3r T q.id)/\(y.inn=true->y.ct=0->y.nw=true)
structure MVal (p:MSt):Prop where
  inv:MInv p
  yv:∀k,k<6->YnV p.tb (p.ys.getD k yn0)
  tab:∃rk,TabR p.tb rk
  once:∀i,z3r p.tb i->(p.B.flat++p.fa++y0i p.tb).count i=1
  fa:∀i∈p.fa,z3r p.tb i
  cr:CrsOk p.tb p.cr
theorem z8t:MVal start:=by
 have I:∀y,z3b start.tb y=0:=λy=>by
  simp only[start,z3b,List.getD,List.getElem?_replicate];split<;>rfl
 have J:∀i,¬z3r start.tb i:=λi D=>by
  obtain⟨_,_,h3,Z⟩:=D;rw[I]at Z;omega
 refine⟨y2e,λk hk=>?_,⟨λ_=>0,rfl,λy M n h=>by rw[I]at h;omega,⟨λy M n h=>by rw[I]at h;omega,λy M n m h O=>by rw[I]at O;omega⟩,λi D=>absurd D (J i)⟩,λi D=>absurd D (J i),(by intro i D;cases D),⟨(by intro c hc;cases hc),by simp[start]⟩⟩;have:start.ys.getD k yn0=yn0:=by
  simp only[start,List.getD,List.getElem?_replicate];split<;>rfl
 rw[this];exact⟨(by intro q hq;cases hq),(by intro h;cases h)⟩
theorem y8y {p:MSt}{y:Int}{q:Yn}(h:MVal p)(D:MInv (p.setY y q))(O:1<=y/\y<=6)(M:YnV p.tb q):MVal (p.setY y q):=by
 have J:(y-1).toNat<p.ys.length:=by rw[h.inv.ly];omega
 refine⟨D,λk I=>?_,h.tab,h.once,h.fa,h.cr⟩;show YnV p.tb ((p.ys.set (y-1).toNat q).getD k yn0);rw[z1j J];split;exact M;exact h.yv k I
theorem j8x {p:MSt}(h:MVal p){y:Int}(D:1<=y/\y<=6):YnV p.tb (p.y y):=h.yv (y-1).toNat oo
theorem go_v {T:Tb}{y:Yn}{D:Int}{l:List Pa}(h:YnV T y)(hl:∀q∈l,z3r T q.id):YnV T (goS y D l):=⟨x4c h.1 hl,h.2⟩
theorem x6r {p q:MSt}{y M en:Int}(h:MVal p)(D:1<=y/\y<=6)(e:y2k p y M en=.ok q):MVal q/\q.B=p.B/\q.rk=p.rk:=by
 have I:=y0z h.inv D e;refine⟨?_,I.2⟩;unfold y2k at e;split at e;cases e;cases e;exact y8y h I.1 D (go_v (j8x h D) λq J=>h.inv.has _ (v8z J))
theorem v5s {p q:MSt}{o:MOp}{th st:List LId}(h:MVal p)(I:MInv q)(hy:1<=o.y/\o.y<=6)(hn:z2v o.b o.p=0)(hs:th++st=p.B.at o.b o.p)(h4:th.length<=4)(e:y5m p o th st=.ok q):MVal q:=by
 unfold y5m at e;split at e;cases e;rename_i hm;split at e;cases e;cases e;have hm:=Classical.not_not.1 hm;obtain⟨j,hj,a9⟩:∃j:Nat,j<6/\o.y=(j:Int)+1:=⟨(o.y-1).toNat,oo,oo⟩;have M:(o.y-1).toNat=j:=by omega
 have D:=h.inv.yn j hj;have b3:p.y o.y=p.ys.getD j yn0:=by unfold MSt.y;rw[M]
 rw[<-b3]at D;have a4:=j8x h hy;have a7:j<p.ys.length:=by rw[h.inv.ly];exact hj
 have a6:j<p.tb.length:=by rw[h.inv.lt];exact hj
 have a1:(p.y o.y).inn=true:=by
  unfold mkE at hm;split at hm;exact absurd hm (by assumption);split at hm;omega;rename_i k;simpa using k
 have O:=D.1.2;rw[if_pos a1]at O;have a2:p.row o.y=p.tb.getD j []:=by unfold MSt.row;rw[M]
 simp only[M,a2]at I ⊢;obtain⟨rk,ht⟩:=h.tab;have h6:=h.inv.lt;have a3:∀i∈th,z3r p.tb i:=λi I=>h.inv.has i (z4u (b:=o.b) (n:=o.p) (by rw[<-hs];exact List.mem_append_left _ I));have b0:y6i p.tb ⟨o.b,(p.y o.y).nw,th,(p.y o.y).pe⟩:=by
  refine⟨(z2o hn).1,⟨h4,O.2.1⟩,λi I=>?_,v4e O.2.2,u8j O.2.2⟩;rcases List.mem_append.1 I with k|k
  exact a3 i k;obtain⟨q,hq,rfl⟩:=List.mem_map.1 k;exact a4.1 q hq
 have a0:∀ {l:Lp} (i:LId),z3r p.tb i->z3r (p.tb.set j (p.tb.getD j []++[l])) i:=λi I=>(y4m h6 hj).2 (.inl I);refine⟨I,λk hk=>?_,⟨_,ht.add hj b0 (λe0=>a4.2 a1 (by rw[D.2,e0];rfl))⟩,λi I=>?_,λi I=>a0 i (h.fa i I),h.cr.mono a0⟩;show YnV (p.tb.set j _) ((p.ys.set j (mkS (p.y o.y))).getD k yn0);rw[z1j a7];split;refine⟨(by intro q hq;cases hq),λ_ h0=>?_⟩;have h1:(p.y o.y).ct+1=0:=h0;have:=D.1.1;omega;exact⟨λq hq=>a0 _ ((h.yv k hk).1 q hq),(h.yv k hk).2⟩;show ((p.B.put o.b o.p (st++[⟨o.y,(p.y o.y).ct⟩])).flat++p.fa++y0i (p.tb.set j (p.tb.getD j []++[_]))).count i=1;rw[List.count_append,List.count_append,u4a a6];have h1:=z3d p.B hn (st++[⟨o.y,(p.y o.y).ct⟩]) i;have h2:th.count i+st.count i=(p.B.at o.b o.p).count i:=by rw[<-hs,List.count_append]
 rw[List.count_append,List.count_singleton]at h1;dsimp only;rcases(y4m h6 hj).1 I with k|k
 have h3:=h.once i k;rw[List.count_append,List.count_append]at h3;have a8:¬((⟨o.y,(p.y o.y).ct⟩:LId) == i)=true:=by
  intro ee;have ee:(⟨o.y,(p.y o.y).ct⟩:LId)=i:=by simpa using ee
  obtain⟨_,_,_,Z⟩:=k;rw[<-ee]at Z;simp only at Z;rw[M,D.2]at Z;omega
 rw[if_neg a8]at h1;omega;have J:¬z3r p.tb i:=λZ=>by
  rw[k]at Z;obtain⟨_,_,_,Z⟩:=Z;simp only at Z;rw[show ((j:Int)+1-1).toNat=j by omega]at Z;omega
 have z1:p.B.flat.count i=0:=List.count_eq_zero.2 λz=>J (h.inv.has i z);have z2:p.fa.count i=0:=List.count_eq_zero.2 λz=>J (h.fa i z);have z3:(y0i p.tb).count i=0:=List.count_eq_zero.2 λz=>J (v0s ht z);have z4:th.count i=0:=List.count_eq_zero.2 λz=>J (a3 i z);have z5:(p.B.at o.b o.p).count i=0:=List.count_eq_zero.2 λz=>J (h.inv.has i (z4u z));have a5:((⟨o.y,(p.y o.y).ct⟩:LId) == i)=true:=by rw[k,D.2,a9];simp
 rw[if_pos a5]at h1;omega
theorem y7z {p:MSt}{d:Int}:∀ {l l':List Yn},z3y p d l=.ok l'->MVal p->∀k,YnV p.tb (l.getD k yn0)->YnV p.tb (l'.getD k yn0)
 | [],l',e,_,k,hk=>by cases e;exact hk
 | y::l,l',e,h,k,hk=>by
  unfold z3y at e
  split at e
  ·cases e
  rename_i O D
  split at e
  ·cases e
  rename_i M I
  cases e
  cases k with
  | succ k=>simpa only[List.getD_cons_succ] using y7z I h k (by simpa only[List.getD_cons_succ] using hk)
  | zero=>
   simp only[List.getD_cons_zero]at hk ⊢
   unfold z7a at D
   split at D
   ·cases D;exact hk
   split at D
   ·cases D
   cases D
   exact go_v hk λq J=>h.inv.has _ (x2s J)
theorem x3w {p q:MSt}{d:Int}(h:MVal p)(M:-4<=p.rk+stI d/\p.rk+stI d<=4)(e:z6e p d=.ok q):MVal q:=by
 have O:=(y4h h.inv M e).1;unfold z6e at e;split at e;cases e;rename_i ys I;split at e;cases e;rename_i cr D;cases e;refine⟨O,λk Z=>y7z I h k (h.yv k Z),h.tab,h.once,h.fa,h.cr.adds (λc J=>?_) D⟩;obtain⟨k1,k2,k3,_⟩:=x3y h.inv.B.nd J;exact⟨h.inv.has _ k1,h.inv.has _ k2,k3⟩
theorem x2l {r:Int}(hr:-4<=r/\r<=4):∀ {n:Nat} {p q:MSt},MVal p->z3u n p r=.ok q->MVal q
 | 0,p,q,h,e=>by cases e;exact h
 | n+1,p,q,h,e=>by
  unfold z3u at e
  split at e
  ·cases e;exact h
  rename_i I
  split at e
  ·cases e
  rename_i M D
  have J:=h.inv.rk
  refine x2l hr (x3w h ?_ D) e
  unfold stI
  split<;>split<;>omega
theorem u5r {p q:MSt}{o:MOp}(h:MVal p)(hi:MInv q)(hn:z2v o.b o.p=0)(e:z9d p o=.ok q):MVal q:=by
 unfold z9d at e;split at e;cases e;split at e;cases e;rename_i D;have D:=Classical.not_not.1 D;split at e;cases e;split at e;cases e;cases e;refine⟨hi,h.yv,h.tab,λi hh=>?_,h.fa,h.cr⟩;have Z:=(z2o hn).1;have hc:=y4z (p:=p) (o:=o) Z i;have I:(p.B.put o.b o.p []).at (1-o.b) (z6r o.b o.p p.rk)=p.B.at (1-o.b) (z6r o.b o.p p.rk):=by
  rw[z8c p.B hn D,if_neg oo]
 have J:=z3d p.B hn [] i;have M:=z3d (p.B.put o.b o.p []) D (z9y p o) i;have O:=h.once i hh;rw[I]at M;show (((p.B.put o.b o.p []).put (1-o.b) (z6r o.b o.p p.rk) (z9y p o)).flat++p.fa++y0i p.tb).count i=1;simp only[List.count_append]at O ⊢;simp only[List.count_nil]at J;omega
theorem u4n {p q:MSt}{o:MOp}(h:MVal p)(M:MInv q)(hn:z2v o.b o.p=0)(e:y2v p o=.ok q):MVal q:=by
 unfold y2v at e;split at e;cases e;cases e;refine⟨M,h.yv,h.tab,λi D=>?_,λi D=>?_,h.cr⟩;have I:=z3d p.B hn [] i;have J:=h.once i D;show ((p.B.put o.b o.p []).flat++(p.fa++p.B.at o.b o.p)++y0i p.tb).count i=1;simp only[List.count_append]at J ⊢;simp only[List.count_nil]at I;omega;rcases List.mem_append.1 D with k|k
 exact h.fa i k;exact h.inv.has i (z4u k)
theorem y5i {p q:MSt}{o:MOp}(h:MVal p)(e:doM p o=.ok q):MVal q:=by
 have I:=u0d h.inv e;unfold doM at e;split at e;cases e;rename_i hc;obtain⟨_,h1,J,h3,M,h5⟩:=z3j (Classical.not_not.1 hc);unfold opM at e;split at e;have D:=J oo;unfold inM at e;split at e;cases e;cases e;exact y8y h I D ⟨(by intro q Z;cases Z),λ_ _=>rfl⟩;split at e;have D:=J oo;unfold x6s at e;split at e;cases e;cases e;exact y8y h I D ⟨(by intro q Z;cases Z),(by intro k;cases k)⟩;split at e;exact x2l (h5 oo) h e;split at e;have D:=J oo;have O:=M oo;unfold y0x at e;split at e;cases e;split at e;cases e;rename_i r hr;obtain⟨v1,v2,v3⟩:=x6r h D hr;exact v5s v1 I D O sp0 (y0l v1.inv.B _ _) e;split at e;have D:=J oo;have O:=M oo;unfold y0d at e;split at e;cases e;split at e;cases e;rename_i r hr;obtain⟨v1,v2,v3⟩:=x6r h D hr;split at e;cases e;exact v5s v1 I D O sp0 sp0 e;split at e;have D:=J oo;unfold y4b at e;split at e;cases e;exact(x6r h D e).1;split at e;exact u5r h I (M oo) e;exact u4n h I (M oo) e
theorem x0n:∀ {l:List MOp} {i:Nat} {p q:MSt},MVal p->z3n i p l=.ok q->MVal q
 | [],i,p,q,h,e=>by cases e;exact h
 | o::l,i,p,q,h,e=>by
  unfold z3n at e
  split at e
  ·cases e
  rename_i I D
  exact x0n (y5i h D) e
structure StQ where
  rk:Int
  q:BdQ
  yv:SV
  ys:List YQ
  fb:FbQ
structure St where
  rk:Int
  B:Bd
  ys:List Yn
  fb:Fb
abbrev StQ.p (s:StQ):St:=⟨s.rk,s.q.p,s.ys.map YQ.p,s.fb.p⟩
def YsA (w:World)(ys:List YQ):Prop:=∀i,Sl z2e w (slv (ys.getD i yq0).pe) (ys.getD i yq0).pes
theorem YsA.ext {w w':World}{ys:List YQ}(h:YsA w ys)(hf:Fr [] w w'):YsA w' ys:=λi=>(h i).ext hf
structure StAt (w:World) (s:StQ):Prop where
  b:BdAt w s.q
  y:Sl z3a w (slv s.yv) s.ys
  ya:YsA w s.ys
  f:FbAt w s.fb
theorem StAt.ext {w w':World}{s:StQ}(h:StAt w s)(hf:Fr [] w w'):StAt w' s:=⟨h.b.ext hf,h.y.ext hf,h.ya.ext hf,h.f.ext hf⟩
theorem u5x {κ:Type}[DecidableEq κ]{V:κ->Value}{w:World}{g:Nat}(h:MapF V w g λ_=>none):MapL V w g []:=by
 obtain⟨J,c,m,M,O,Z⟩:=h;have D:m=[]:=by
  cases m with
  | nil=>rfl
  | cons p m=>have:=Z p.1;simp[z1h]at this
 subst D;have I:J.toList=[]:=List.map_eq_nil_iff.1 O;refine⟨J,c,M,by rw[I];rfl,sp0,by rw[I];simp,λe D=>by rw[I]at D;cases D⟩
theorem z9i {κ:Type}[DecidableEq κ]{m:List (κ×Value)}{k:κ}{v:Value}(h:k∉m.map (·.1)):z1u m k v=m++[(k,v)]:=by
 unfold z1u;have:(m.map (·.1)).findIdx? (λx=>decide (k=x))=none:=by
  rw[List.findIdx?_eq_none_iff];intro x D;have:k≠x:=λe=>h (e▸D);simpa using this
 rw[this]
abbrev cxK (c:Cx):LId×LId:=(c.a,c.b)
theorem x1e (l:List Cx):(crM l).map (·.1)=l.map cxK:=by unfold crM;rw[List.map_map];rfl
theorem u0u {l:List Cx}{i:Nat}(hn:(l.map cxK).Nodup)(I:i<l.length):z1u (crM (l.take i)) (cxK (l.getD i cx0)) (.int .i64 (l.getD i cx0).n)=crM (l.take (i+1)):=by
 have e:l.take (i+1)=l.take i++[l.getD i cx0]:=by rw[List.take_add_one,List.getD,List.getElem?_eq_getElem I];rfl
 rw[z9i,e];unfold crM;rw[List.map_append];rfl;rw[x1e];intro J;have D:(((l.take i)++[l.getD i cx0]).map cxK).Nodup:=by
  rw[<-e];exact List.Nodup.sublist (List.Sublist.map _ (List.take_sublist _ _)) hn
 rw[List.map_append]at D;exact(List.nodup_append.1 D).2.2 _ J _ (List.mem_singleton.2 U) U
theorem y7g {τ:TyK}{Mt:Nat}{w0 w:World}{s:StQ}{fs bs:List IQ}{Z O gy gt M gk I:Nat}{ps:List YQ}{us:List TQ}
    (hk:Blk w gk Mt [.int .i64 s.rk,.slice (some ⟨Z,0,none⟩) fs.length fs.length,.slice (some ⟨O,0,none⟩) bs.length bs.length,.slice (some ⟨gy,0,none⟩) s.ys.length s.ys.length,.slice (some ⟨gt,0,none⟩) s.fb.ts.length s.fb.ts.length,.map (some M),.slice (some ⟨I,0,none⟩) s.fb.fs.length s.fb.fs.length])
    (hF:RwO τ.S τ.I w0.heap.size w (.slice (some ⟨Z,0,none⟩) fs.length fs.length) fs) (hB:RwO τ.S τ.I w0.heap.size w (.slice (some ⟨O,0,none⟩) bs.length bs.length) bs)
    (hY:YsO τ w0.heap.size w (.slice (some ⟨gy,0,none⟩) s.ys.length s.ys.length) ps) (hpl:ps.length=s.ys.length) (hpm:ps.map YQ.p=s.ys.map YQ.p)
    (hT:TbO τ w0.heap.size w (.slice (some ⟨gt,0,none⟩) s.fb.ts.length s.fb.ts.length) us) (hul:us.length=s.fb.ts.length) (htm:z1r us=z1r s.fb.ts)
    (hm:MapF crK w M λ_=>none) (hf:Lw.Own z1f τ.I w0.heap.size w (.slice (some ⟨I,0,none⟩) s.fb.fs.length s.fb.fs.length) s.fb.fs) (hly:s.ys.length=6) (hlt:s.fb.ts.length=6)
    (hfr:Fr [] w0 w) (hgc:w0.heap.size<=M) (hgk:w0.heap.size<=gk) (hfb:∀x∈fs++bs,I∉z0u (slv x.1)) (hft:∀i,i<6->∀q∈(us.getD i tq0).2,I∉z0u (slv q.th)) (hpF:plB fs=trimB (plB s.q.fs)) (hpB:plB bs=trimB (plB s.q.bs)) :
    ∃m:MQ,MkM τ Mt w0 ⟨gk,gy,6,gt,6,M,w⟩ w m/\m.p=⟨s.rk,⟨trimB (plB s.q.fs),trimB (plB s.q.bs)⟩,s.ys.map YQ.p,z1r s.fb.ts,[],s.fb.fs⟩:=by
  refine⟨⟨s.rk,⟨(some ⟨Z,0,none⟩,fs.length,fs.length),(some ⟨O,0,none⟩,bs.length,bs.length),fs,bs⟩,ps,us,[],(some ⟨I,0,none⟩,s.fb.fs.length,s.fb.fs.length),s.fb.fs⟩,⟨?_,⟨hF,hB⟩,?_,?_,u5x hm,hf,λx hx k D J=>?_,λi hi q hq k D J=>?_,by rw[hpl,hly],by rw[hul,hlt],hgk,hgc,⟨hfr,KpM.refl _ _ _⟩⟩,?_⟩
  · rw[hly,hlt]at hk;exact hk
  · rw[hly]at hY;exact hY
  · rw[hlt]at hT;exact hT
  · simp[z0u,slv]at J;subst J;exact hfb x hx D
  · simp[z0u,slv]at J;subst J;exact hft i hi q hq D
  · show (⟨s.rk,⟨plB fs,plB bs⟩,ps.map YQ.p,z1r us,[],s.fb.fs⟩:MSt)=_
    rw[hpF,hpB,hpm,htm]
end Go.G08
namespace Go.G08
open Go.Lw Go.G21 Go.Proofs Go.Sort
theorem u3b (X:World)(o:Obj)(b:Nat)(h:X.heap.size=b):(X.alloc o).drew.heap[b]?=some o:=by subst h;show (X.heap.push o)[X.heap.size]?=some o;simp
theorem j6w (X:World)(o:Obj)(b:Nat)(h:X.heap.size=b):(X.alloc o).heap[b]?=some o:=by subst h;show (X.heap.push o)[X.heap.size]?=some o;simp
def DG (w w':World):Prop:=∃q os',w'=grow (w.drewN q) os'
theorem DG.refl (w:World):DG w w:=⟨0,#[],by rw[grow_empty];rfl⟩
theorem DG.alloc {w w':World}(h:DG w w')(o:Obj):DG w (w'.alloc o):=by
 obtain⟨q,D,rfl⟩:=h;exact⟨q,D++#[o],by rw[alloc_eq_grow,grow_grow]⟩
theorem DG.drew {w w':World}(h:DG w w'):DG w w'.drew:=by
 obtain⟨q,D,rfl⟩:=h;exact⟨q+1,D,rfl⟩
theorem DG.trans {a b c:World}(h:DG a b)(I:DG b c):DG a c:=by
 obtain⟨q,J,rfl⟩:=h;obtain⟨M,D,rfl⟩:=I;exact⟨q+M,J++D,by rw[<-grow_grow];unfold grow World.drewN;simp[Nat.add_assoc]⟩
theorem DG.cell {w w':World}(h:DG w w'){p:Addr}{v:Value}(hb:w.cell? p=some v):w'.cell? p=some v:=by
 obtain⟨q,I,rfl⟩:=h;have D:=block_lt_of_cell hb;refine(World.cell?_of_block (w:=w) ?_).trans hb;show (w.heap++I)[p.block]?=_;rw[Array.getElem?_append_left D]
theorem k0b {X:World}{b T:Nat}{x y:Int}(h:X.heap[b]?=some (.cells #[.int .i64 x,.int .i64 y] T (0,0))):Sl Enc.i64 X (.slice (some ⟨b,0,none⟩) 2 2) [x,y]:=
 Lw.Own.sl (E:=Enc.i64) (T:=T) (base:=b) (.inr ⟨b,2,_,rfl,Nat.le_refl _,h,Nat.le_refl _,dd,Nat.le_refl 2,rfl⟩)
def x6i (x y:Cx):Int:=if z6q x.a y.a≠0 then z6q x.a y.a else z6q x.b y.b
abbrev j5n (c:Cx):Value:=.agg #[.int .u8 c.a.y,.int .i64 c.a.n,.int .u8 c.b.y,.int .i64 c.b.n,.int .i64 c.n]
section
variable {α:Type} [Inhabited α] (E:Enc α)
theorem y7v (ys:Array α):(flatK E.enc E.sz ys).toList=ys.toList.flatMap E.enc:=by
 refine List.ext_getElem? λt=>?_;have O:=E.pos;by_cases ht:t<ys.size*E.sz;have M:t / E.sz<ys.size:=Nat.div_lt_of_lt_mul (by rw[Nat.mul_comm];exact ht);have D:t % E.sz<E.sz:=Nat.mod_lt _ O;have I:=get_flatK E.enc E.sz ys t ht;have J:=E.flat_get ys.toList (t / E.sz) ys[t / E.sz] (by simp[M]) (t % E.sz) D;rw[show t / E.sz*E.sz+t % E.sz=t by rw[Nat.mul_comm];exact Nat.div_add_mod t E.sz]at J;rw[J,Array.getElem?_toList];rw[getElem!_pos (flatK E.enc E.sz ys) t (by simpa using ht),getElem!_pos ys (t / E.sz) M,getElem!_pos (E.enc ys[t / E.sz]) (t % E.sz) (by rw[E.len];exact D)]at I;rw[Array.getElem?_eq_getElem (by simpa using ht),I,List.getElem?_eq_getElem (by rw[E.len];exact D)];rw[List.getElem?_eq_none so,List.getElem?_eq_none (by rw[E.flat_len];simp;omega)]
variable {E} {w:World} {g T cap base:Nat} {cur:Array Value}
theorem v3x {ys:List α}(h:w.heap[g]?=some (.cells cur T (0,0)))(O:ys.length*E.sz<=cur.size)(M:cur.toList.take (ys.length*E.sz)=ys.flatMap E.enc):HoldsK E.enc E.sz w g 0 ys.toArray:=by
 intro j I;have J:j<ys.length*E.sz:=by simpa using I
 have e:=y7v E ys.toArray;rw[<-show cur.toList.take (ys.length*E.sz)=ys.toArray.toList.flatMap E.enc from M]at e;have D:=congrArg (λl:List Value=>l[j]?) e;simp only[Array.getElem?_toList,List.getElem?_take,J,if_true]at D;constructor;rw[Nat.zero_add,getElem!_pos _ j I];rw[Array.getElem?_eq_getElem I]at D;simp only[World.cell?,h];exact D.symm;simp only[World.frozen?,h];simp
theorem u5e {ys:List α}(h:w.heap[g]?=some (.cells cur T (0,0)))(hs:ys.length*E.sz<=cur.size)(hb:base<=g)(hc:ys.length<=cap)(hM:cap<=maxLen)(M:cap*E.sz<=cur.size)(d:Array α)(I:d.size=ys.length)(n:Nat)(J:Array Obj) :
    Lw.Own E T base (sortWorldK E.enc E.sz w g 0 n d J) (.slice (some ⟨g,0,none⟩) ys.length cap) d.toList/\Fr [g] w (sortWorldK E.enc E.sz w g 0 n d J):=by
  have hg:g<w.heap.size:=(Array.getElem?_eq_some_iff.1 h).1
  have D:∀k,k<w.heap.size->(sortWorldK E.enc E.sz w g 0 n d J).heap[k]?=(w.heap.modify g (onCells (putCells id 0 (flatK E.enc E.sz d))))[k]?:=λk Z=>by
    show ((w.heap.modify g _)++J)[k]?=_
    rw[Array.getElem?_append_left (by simpa using Z)]
  refine⟨.inr ⟨g,cap,putCells id 0 (flatK E.enc E.sz d) cur,by rw[show d.toList.length=ys.length by simpa using I],hb,?_,by simpa[I] using hc,hM,by simpa[putCells] using M,?_⟩,rfl,rfl,rfl,?_,λk Z hn=>?_⟩
  · rw[D g hg,Array.getElem?_modify,if_pos U,h];rfl
  · rw[<-y7v E d]
    refine List.ext_getElem? λt=>?_
    have O:d.toList.length=ys.length:=by simpa using I
    rw[List.getElem?_take,O]
    by_cases ht:t<ys.length*E.sz
    · rw[if_pos ht,Array.getElem?_toList,Array.getElem?_toList]
      unfold putCells
      rw[Array.getElem?_mapIdx,Array.getElem?_eq_getElem (show t<cur.size by omega),Array.getElem?_eq_getElem (show t<(flatK E.enc E.sz d).size by simpa[I] using ht)]
      simp only[Option.map_some,Nat.zero_le,Nat.zero_add,true_and,Nat.sub_zero,id]
      rw[if_pos (by simpa[I] using ht),getElem!_pos _ t (by simpa[I] using ht)]
    · rw[if_neg ht,List.getElem?_eq_none (by simp[I];omega)]
  · show w.heap.size<=((w.heap.modify g _)++J).size
    simp
  · rw[D k Z,Array.getElem?_modify,if_neg (λe=>hn (by simp[e]))]
open Go.Shelf in
theorem y9g {P:Program}{ρ:Ren}(L:SlLaysF0.n6 P ρ){f cl:Nat}(hf:ρ.f 6=f)(aE:∀w,(isAgg (ρ.t 24)).run P w=.ok true w)(zE:∀w,(Go.sizeOf (ρ.t 24)).run P w=.ok E.sz w)(cf:α->α->Int)(hO:SWO (ltOf cf))
    (eg:∀D w,(callFunc cl D).run P w=.ok (.enter cl D) w)
    (hcmp:∀x y W,Calls P cl #[.agg (E.enc x).toArray,.agg (E.enc y).toArray] W λe w'=>e=.returned (.int .i64 (cf x y))/\DG W w')
    (hnil:∀W,Calls P f #[.slice none 0 0,.func (.func cl) #[] #[]] W λe w'=>e=.returned (.tuple #[])/\Fr [] W w')
    {v:Value} {ys:List α} (ho:Lw.Own E T base w v ys) (hl:ys.length<4611686018427387904):Rets P f #[v,.func (.func cl) #[] #[]] w λr w'=>r=.tuple #[]/\∃ys',ys'.Perm ys/\ys'.Pairwise (λa b=>¬cf b a<0)/\Lw.Own E T base w' v ys'/\Fr (z0u v) w w':=by
  subst hf
  rcases ho with ⟨rfl,rfl⟩|⟨g,cap,cur,rfl,h2,J,h4,h5,h6,h7⟩
  · exact Calls.mono (hnil w) (by rintro e w' ⟨rfl,h⟩;exact⟨_,rfl,rfl,[],.refl _,.nil,Lw.Own.nil _,h.weak sp0⟩)
  · have hs:ys.length*E.sz<=cur.size:=Nat.le_trans (Nat.mul_le_mul_right _ h4) h6
    have h:=AnyQ.slices_SortFunc L E.sz aE zE E.enc E.len E.one cf hO cl #[] g 0 cap ys.toArray w eg (λm os dk _ x y=>hcmp x y _) (v3x J hs h7) (Array.getElem?_eq_some_iff.1 J).1 (by simpa using hl)
    rw[show ys.toArray.size=ys.length by simp]at h
    refine Calls.mono h ?_
    rintro e w' ⟨rfl,I,n,os,hp,a1,rfl⟩
    have M:I.size=ys.length:=by simpa using hp.1
    obtain⟨k1,k2⟩:=u5e (base:=base) J hs h2 h4 h5 h6 I M n os
    refine⟨_,rfl,rfl,I.toList,?_,?_,k1,by simpa[z0u] using k2⟩
    · have:=hp.2.2
      simp[M]at this
      rwa [List.take_of_length_le (by simpa using Nat.le_of_eq M)]at this
    · rw[List.pairwise_iff_getElem]
      intro i j hi hj Z
      have O:i<I.size:=by simpa using hi
      have a0:j<I.size:=by simpa using hj
      have:=a1 i j (Nat.zero_le _) Z oo
      rw[getElem!_pos I i O,getElem!_pos I j a0]at this
      simpa[ltOf] using this
end
theorem y2r {x y:Cx}:x6i x y<0↔(x.a.y<y.a.y\/x.a.y=y.a.y/\x.a.n<y.a.n)\/(x.a.y=y.a.y/\x.a.n=y.a.n)/\(x.b.y<y.b.y\/x.b.y=y.b.y/\x.b.n<y.b.n):=by
 unfold x6i;have e:z6q x.a y.a=0↔x.a.y=y.a.y/\x.a.n=y.a.n:=by rw[x4m];obtain⟨⟨_,_⟩,_,_⟩:=x;obtain⟨⟨_,_⟩,_,_⟩:=y;simp
 split;rename_i h;rw[z7d];rw[Ne,e]at h;omega;rename_i h;rw[Decidable.not_not,e]at h;rw[z7d];omega
theorem swoI:SWO (ltOf z6q):=by
 constructor;intro x;simp only[ltOf,decide_eq_false_iff_not,z7d];omega;intro x y z;simp only[ltOf,decide_eq_true_eq,z7d];omega;intro x y z;simp only[ltOf,decide_eq_false_iff_not,z7d];omega
theorem swoX:SWO (ltOf x6i):=by
 constructor;intro x;simp only[ltOf,decide_eq_false_iff_not,y2r];omega;intro x y z;simp only[ltOf,decide_eq_true_eq,y2r];omega;intro x y z;simp only[ltOf,decide_eq_false_iff_not,y2r];omega
def z7w (l:List LId):List LId:=l.mergeSort λa b=>decide (¬z6q b a<0)
def x3t (l:List Cx):List Cx:=l.mergeSort λa b=>decide (¬x6i b a<0)
theorem z5n (l:List LId):(z7w l).Perm l:=List.mergeSort_perm ..
theorem z8x (l:List Cx):(x3t l).Perm l:=List.mergeSort_perm ..
theorem u3o (l:List LId):(z7w l).Pairwise λa b=>¬z6q b a<0:=
 (List.pairwise_mergeSort (le:=λa b=>decide (¬z6q b a<0)) (λa b c=>by simp only[decide_eq_true_eq,z7d];omega) (λa b=>by simp only[Bool.or_eq_true,decide_eq_true_eq,z7d];omega) l).imp sp0
theorem x7t (l:List Cx):(x3t l).Pairwise λa b=>¬x6i b a<0:=
 (List.pairwise_mergeSort (le:=λa b=>decide (¬x6i b a<0)) (λa b c=>by simp only[decide_eq_true_eq,y2r];omega) (λa b=>by simp only[Bool.or_eq_true,decide_eq_true_eq,y2r];omega) l).imp sp0
theorem j1z {l l':List LId}(hp:l'.Perm l)(J:l'.Pairwise λa b=>¬z6q b a<0):l'=z7w l:=by
 refine List.Perm.eq_of_pairwise (λa b _ _ D I=>?_) J (u3o l) (hp.trans (z5n l).symm);rw[z7d]at D I;obtain⟨_,_⟩:=a;obtain⟨_,_⟩:=b;simp only at D I;rw[LId.mk.injEq];omega
theorem v9y {l l':List Cx}(hn:(l.map λc=>(c.a,c.b)).Nodup)(hp:l'.Perm l)(hs:l'.Pairwise λa b=>¬x6i b a<0):l'=x3t l:=by
 refine List.Perm.eq_of_pairwise (λa b ha hb M O=>?_) hs (x7t l) (hp.trans (z8x l).symm);have I:=hp.mem_iff.1 ha;have J:=(z8x l).mem_iff.1 hb;have hk:(a.a,a.b)=(b.a,b.b):=by
  rw[y2r]at M O;obtain⟨⟨_,_⟩,⟨_,_⟩,_⟩:=a;obtain⟨⟨_,_⟩,⟨_,_⟩,_⟩:=b;simp only at M O;simp only[Prod.mk.injEq,LId.mk.injEq];omega
 have D:=List.pairwise_iff_getElem.1 (List.pairwise_map.1 hn);obtain⟨i,Z,rfl⟩:=List.getElem_of_mem I;obtain⟨j,hj,rfl⟩:=List.getElem_of_mem J;rcases Nat.lt_trichotomy i j with h|h|h
 exact absurd hk (D i j Z hj h);subst h;rfl;exact absurd hk.symm (D j i hj Z h)
end Go.G08
namespace Go.Lw
section
variable {P:Program} {ops:Array Oper} {Q:Exit->Act->World->Prop} {rest:List Oper} {n:Nat} {ds:List Nat} {L:List (Nat×Value)} {w:World} {d:Nat} {x:Operand} {t K E g ty:Nat} {pos:String} {after:Array Edge} {κ:Type} [DecidableEq κ] {V:κ->Value} {m:List (κ×Value)}
theorem j8n (hx:ev L x=some (.map (some g)))(O:MapL V w g m)(Z:P.underlying t=some (.map K E))(hn:Nat.blt d n=true)(q:WL P ops Q rest n ds w ((d,.int .i64 (m.length:Int))::L)):WL P ops Q (⟨some d,.call ⟨.builtin .len,#[x],#[t]⟩,ty,pos,after,none⟩::rest) n ds w L:=λa h=>by
 obtain⟨D,c,I,J,_⟩:=O
 have M:D.size=m.length:=by have:=congrArg List.length J;simpa using this
 refine z2a h U hn (w':=w) (v:=.int .i64 (m.length:Int)) ?_ q
 rw[z2i];unfold builtin
 simp[h.eval hx,Builtin.len_,run_underlying Z,z2g I,M]
 rfl
theorem MapIt.no {gi:Nat}{rem:List (κ×Value)}{cur:Option (κ×Value)}(h:MapIt V w gi g m rem cur):MapIt V w gi g m rem none:=by
 obtain⟨I,c,D,M,O,k3,Z,k5,k6,_⟩:=h;exact⟨I,c,D,M,O,k3,Z,k5,k6,λp J=>by cases J⟩
end
end Go.Lw
namespace Go.G08
open Go.Lw Go.G21
theorem u9k (a b:List Cx):crM (a++b)=crM a++crM b:=by unfold crM;rw[List.map_append]
theorem v5f {l:List Cx}{r1 r2:List ((LId×LId)×Value)}{p:(LId×LId)×Value}(h:crM l=r1++p::r2):∃D c I,l=D++c::I/\r1=crM D/\p=((c.a,c.b),.int .i64 c.n)/\r2=crM I:=by
 unfold crM at h;obtain⟨D,l',rfl,J,M⟩:=List.map_eq_append_iff.1 h;obtain⟨c,I,rfl,O,Z⟩:=List.map_eq_cons_iff.1 M;exact⟨D,c,I,rfl,J.symm,O.symm,Z.symm⟩
section
variable {P:Program} {ops:Array Oper} {Q:Exit->Act->World->Prop} {rest:List Oper} {n:Nat} {ds:List Nat} {L:List (Nat×Value)} {w:World} {d:Nat} {x:Operand} {t g gi ty:Nat} {pos:String} {after:Array Edge} {em:List ((LId×LId)×Value)} {rem:List Cx}
def CrIt (w:World)(gi g:Nat)(em:List ((LId×LId)×Value))(rem:List Cx)(cur:Option Cx):Prop:=MapIt crK w gi g em (crM rem) (cur.map λc=>((c.a,c.b),.int .i64 c.n))
theorem CrIt.fr {w':World}{S:List Nat}{cur:Option Cx}(h:CrIt w gi g em rem cur)(hf:Fr S w w')(hn:∀k∈S,k≠g/\k≠gi):CrIt w' gi g em rem cur:=MapIt.fr h hf (λe=>(hn g e).1 U) (λe=>(hn gi e).2 U)
theorem CrIt.ext {w':World}{cur:Option Cx}(h:CrIt w gi g em rem cur)(hf:Fr [] w w'):CrIt w' gi g em rem cur:=h.fr hf sp0
theorem CrIt.no {cur:Option Cx}(h:CrIt w gi g em rem cur):CrIt w gi g em rem none:=MapIt.no h
theorem CrIt.lt {cur:Option Cx}(h:CrIt w gi g em rem cur):gi<w.heap.size:=MapIt.lt h
theorem CrIt.neO {α:Type}{E:Enc α}{T base:Nat}{v:Value}{ys:List α}{cur:Option Cx}(h:CrIt w gi g em rem cur)(ho:Lw.Own E T base w v ys):∀k∈z0u v,k≠g/\k≠gi:=λk I=>by
 obtain⟨es,c,M,O,_,_,_,Z,_⟩:=h
 rcases ho with ⟨rfl,_⟩|⟨g',cap,J,rfl,_,D,_⟩
 ·simp[z0u]at I
 simp only[z0u,List.mem_singleton]at I
 subst I
 exact⟨λe=>(by rw[e,O]at D;cases D),λe=>(by rw[e,Z]at D;cases D)⟩
theorem u3a {K E:Nat}{l:List Cx}(J:ev L x=some (.map (some g)))(D:MapL crK w g (crM l))(I:P.underlying t=some (.map K E))(hn:Nat.blt d n=true)
 (q:∀gi w',gi=w.heap.size->CrIt w' gi g (crM l) l none->Fr [] w w'->w'.heap.size=gi+1->WL P ops Q rest n ds w' ((d,.pointer (some ⟨gi,0,none⟩))::L)):WL P ops Q (⟨some d,.range t x,ty,pos,after,none⟩::rest) n ds w L:=x8u J D I hn q
theorem j1r {cur:Option Cx}(Z:ev L x=some (.pointer (some ⟨gi,0,none⟩)))(O:CrIt w gi g em rem cur)(hn:Nat.blt d n=true)
    (qt:∀D c I,rem=D++c::I->∀w',CrIt w' gi g em (D++I) (some c)->Fr [gi] w w'->w'.heap.size=w.heap.size->WL P ops Q rest n ds w' ((d,.tuple #[.bool true,crK (c.a,c.b),.int .i64 c.n])::L))
    (qf:rem=[]->WL P ops Q rest n ds w ((d,.tuple #[.bool false])::L)):WL P ops Q (⟨some d,.next x false,ty,pos,after,none⟩::rest) n ds w L:=
  v4x Z O hn (λr1 p r2 J w' M hf hz=>by
    obtain⟨D,c,I,rfl,rfl,rfl,rfl⟩:=v5f J
    exact qt D c I U w' (by unfold CrIt;rw[u9k];exact M) hf hz) (λJ=>qf (List.map_eq_nil_iff.1 J))
theorem u5m {c:Cx}(I:ev L x=some (.pointer (some ⟨gi,0,none⟩)))(D:CrIt w gi g em rem (some c))(hn:Nat.blt d n=true)
 (q:WL P ops Q rest n ds w ((d,.tuple #[.agg #[.int .u8 c.a.y,.int .i64 c.a.n,.int .u8 c.b.y,.int .i64 c.b.n],.int .i64 c.n])::L)):WL P ops Q (⟨some d,.entry x,ty,pos,after,none⟩::rest) n ds w L:=x8a (p:=((c.a,c.b),.int .i64 c.n)) I D hn q
end
section
variable {τ:TyK} {Mt:Nat} {wS w w':World} {a:MA} {m:MQ} {j:Nat} {u:SV}
theorem MkM.tabh (h:MkM τ Mt wS a w m)(I:MtOk τ Mt)(hj:j<6)(h1:Lw.Own z6t τ.L wS.heap.size w (slv u) (m.ts.getD j tq0).2)(M:∀i,i<6->∀b∈z0u (slv (m.ts.getD i tq0).1),b∉z0u (slv u))
    (h2:Lw.Own z4b τ.T wS.heap.size w' a.TV (m.ts.set j (u,(m.ts.getD j tq0).2))) (f2:Fr [a.gt] w w'):MkM τ Mt wS a w' { m with ts:=m.ts.set j (u,(m.ts.getD j tq0).2) }:=by
  have hl:j<m.ts.length:=by rw[h.lt];exact hj
  have J:∀T,T≠τ.T->OffT w T [a.gt]:=λT hT=>z5c h.t.out (Ne.symm hT)
  refine⟨y2d h.k f2 (J _ I.t),BdO.tf h.b f2 (J _ (Ne.symm I.o.ts)) (J _ (Ne.symm I.o.ti)),h.y.tf f2 (J _ I.o.yt) (J _ (Ne.symm I.o.tp)),⟨h2,λi D=>?_,λi k D Z a2=>?_,λi D q hq=>?_⟩,h.c.tf f2 (J _ I.t),z1v h.f f2 (J _ (Ne.symm I.o.ti)),h.fb,λi D p O=>?_,h.ly,by rw[List.length_set];exact h.lt,h.gk,h.gc,h.fr.step f2 (y6f h.t.out (by simp[u0q])) λk Z a3=>?_⟩
  · simp only[List.length_set]at D
    rw[z1j hl]
    split
    · exact z1v h1 f2 (J _ (Ne.symm I.o.tl))
    · exact z1v (h.t.ins i D) f2 (J _ (Ne.symm I.o.tl))
  · simp only[List.length_set]at D Z
    rw[z1j hl,z1j hl]
    split
    · rw[if_neg oo];exact λb hb a1=>M k (by rw[<-h.lt];exact Z) b a1 hb
    · split
      · exact M i (by rw[<-h.lt];exact D)
      · exact h.t.off i k D Z a2
  · simp only[List.length_set]at D
    rw[z1j hl]at hq
    have a0:q∈(m.ts.getD i tq0).2:=by split at hq;(rename_i e;subst e;exact hq);exact hq
    exact⟨z1v (h.t.lps i D q a0).1 f2 (J _ (Ne.symm I.o.ti)),z1v (h.t.lps i D q a0).2 f2 (J _ (Ne.symm I.o.tp))⟩
  · simp only at O
    rw[z1j hl]at O
    split at O
    · rename_i e;subst e;first|exact h.ft _ D p O|exact h.ft _ hj p O
    · exact h.ft i D p O
  · have:=(h.t.out.blk k Z).1;omega
theorem MkM.fallS {l:List LId}(h:MkM τ Mt wS a w m)(M:MtOk τ Mt)(D:τ.I≠τ.P)(h1:Lw.Own z1f τ.I wS.heap.size w' (slv m.fa) l)(J:Fr (z0u (slv m.fa)) w w'):MkM τ Mt wS a w' { m with fl:=l }:=by
 have I:=y2d h.k J (z5c h.f (Ne.symm M.i));exact MkM.fall (u:=m.fa) h M D h1 J (λk I=>.inl I) I ((Fr.refl [] w').weak sp0)
def stM (p:MSt):St:=⟨p.rk,p.B,p.ys,⟨p.tb,x3t p.cr,(z2n p.B p.rk).map Hd.id,z7w p.fa⟩⟩
structure MkW (τ:TyK) (base:Nat) (a:MA) (w:World) (m:MQ):Prop where
  b:BdO τ.S τ.I base w m.q
  y:YsO τ base w a.YV m.ys
  t:TbO τ base w a.TV m.ts
theorem MkM.toW (h:MkM τ Mt wS a w m):MkW τ wS.heap.size a w m:=⟨h.b,h.y,h.t⟩
theorem MkW.ext {base:Nat}(h:MkW τ base a w m)(hf:Fr [] w w'):MkW τ base a w' m:=⟨h.b.ext hf,h.y.ext hf,h.t.ext hf⟩
theorem MkW.off {base g T:Nat}{cs:List Value}(h:MkW τ base a w m)(D:Blk w g T cs)(hT:T≠τ.S/\T≠τ.I/\T≠τ.Y/\T≠τ.P/\T≠τ.T/\T≠τ.L)(hf:Fr [g] w w'):MkW τ base a w' m:=by
 obtain⟨M,I,O,J,Z,h6⟩:=hT;exact⟨BdO.tf h.b hf (OffT.one D M) (OffT.one D I),h.y.tf hf (OffT.one D O) (OffT.one D J),h.t.tf hf (OffT.one D Z) (OffT.one D h6) (OffT.one D I) (OffT.one D J)⟩
def SepH (s:StQ):Prop:=∀k∈z0u (slv s.fb.h),(∀q∈s.q.fs++s.q.bs,k∉z0u (slv q.1))/\(∀t∈s.fb.ts,∀l∈t.2,k∉z0u (slv l.th))/\k∉z0u (slv s.fb.f)
structure StO (τ:TyK) (Tc base:Nat) (w:World) (s:StQ):Prop where
  b:BdO τ.S τ.I base w s.q
  y:YsO τ base w (slv s.yv) s.ys
  t:TbO τ base w (slv s.fb.t) s.fb.ts
  c:Lw.Own z5w Tc base w (slv s.fb.c) s.fb.cs
  h:Lw.Own z1f τ.I base w (slv s.fb.h) s.fb.hs
  f:Lw.Own z1f τ.I base w (slv s.fb.f) s.fb.fs
  sp:SepH s
theorem StO.ext {D base:Nat}{s:StQ}(h:StO τ D base w s)(hf:Fr [] w w'):StO τ D base w' s:=⟨h.b.ext hf,h.y.ext hf,h.t.ext hf,h.c.ext hf,h.h.ext hf,h.f.ext hf,h.sp⟩
theorem StO.off {J base g T:Nat}{cs:List Value}{s:StQ}(h:StO τ J base w s)(D:Blk w g T cs)(hT:T≠τ.S/\T≠τ.I/\T≠τ.Y/\T≠τ.P/\T≠τ.T/\T≠τ.L/\T≠J)(hf:Fr [g] w w'):StO τ J base w' s:=by
 obtain⟨O,I,Z,M,h5,h6,h7⟩:=hT;exact⟨BdO.tf h.b hf (OffT.one D O) (OffT.one D I),h.y.tf hf (OffT.one D Z) (OffT.one D M),h.t.tf hf (OffT.one D h5) (OffT.one D h6) (OffT.one D I) (OffT.one D M),z1v h.c hf (OffT.one D h7),z1v h.h hf (OffT.one D I),z1v h.f hf (OffT.one D I),h.sp⟩
theorem StO.low {J base b':Nat}{s:StQ}(h:StO τ J base w s)(hb:b'<=base):StO τ J b' w s:=
 ⟨⟨⟨h.b.f.1.low hb,λq I=>(h.b.f.2 q I).low hb⟩,⟨h.b.b.1.low hb,λq I=>(h.b.b.2 q I).low hb⟩⟩,⟨h.y.out.low hb,λi D=>(h.y.ins i D).low hb⟩,⟨h.t.out.low hb,λi D=>(h.t.ins i D).low hb,h.t.off,λi D q I=>⟨(h.t.lps i D q I).1.low hb,(h.t.lps i D q I).2.low hb⟩⟩,h.c.low hb,h.h.low hb,h.f.low hb,h.sp⟩
theorem StO.at {J base:Nat}{s:StQ}(h:StO τ J base w s):StAt w s:=by
 refine⟨h.b.at,h.y.out.sl,λi=>?_,⟨h.t.out.sl,λp M=>?_,h.c.sl,h.h.sl,h.f.sl⟩⟩;by_cases D:i<s.ys.length;exact(h.y.ins i D).sl;rw[List.getD,List.getElem?_eq_none oo];exact Sl.nil w;obtain⟨i,D,rfl⟩:=List.getElem_of_mem M;have e:s.fb.ts.getD i tq0=s.fb.ts[i]:=by rw[List.getD,List.getElem?_eq_getElem D];rfl
 rw[<-e];exact⟨(h.t.ins i D).sl,λq I=>⟨(h.t.lps i D q I).1.sl,(h.t.lps i D q I).2.sl⟩⟩
end
end Go.G08
namespace Go.G08
open Go.Lw Go.G21
structure PlaceV (T:Tb) (H F:List LId):Prop where
  has:∀i∈H++F,z3r T i
  asc:∀i,0<i->i<F.length->z6q (F.getD (i-1) id0) (F.getD i id0)<0
  once:∀y,y<6->∀n,n<z3b T y->(H++F++y0i T).count ⟨(y:Int)+1,(n:Int)⟩=1
  le:∀i,(H++F++y0i T).count i<=1
structure PlaceW (T:Tb) (H F:List LId):Prop where
  has:∀i∈H++F,z3r T i
  asc:∀i,0<i->i<F.length->z6q (F.getD (i-1) id0) (F.getD i id0)<0
  le:∀i,(H++F++y0i T).count i<=1
theorem PlaceV.w {T:Tb}{H F:List LId}(h:PlaceV T H F):PlaceW T H F:=⟨h.has,h.asc,h.le⟩
open Classical in
noncomputable def u4u (T:Tb)(H F:List LId):Int:=if ∃y,y<6/\∃n,n<z3b T y/\(H++F++y0i T).count ⟨(y:Int)+1,(n:Int)⟩≠1 then 6 else 0
theorem v5w {T:Tb}{H F:List LId}(h:∀y,y<6->∀n,n<z3b T y->(H++F++y0i T).count ⟨(y:Int)+1,(n:Int)⟩=1):u4u T H F=0:=if_neg λ⟨y,hy,n,hn,e⟩=>e (h y hy n hn)
theorem j1u {T:Tb}{H F:List LId}{y n:Nat}(D:y<6)(hn:n<z3b T y)(h:(H++F++y0i T).count ⟨(y:Int)+1,(n:Int)⟩≠1):u4u T H F=6:=if_pos ⟨y,D,n,hn,h⟩
structure CrsV (T:Tb) (l:List Cx):Prop where
  has:∀i,i<l.length->z3r T (l.getD i cx0).a/\z3r T (l.getD i cx0).b/\z6q (l.getD i cx0).a (l.getD i cx0).b<0/\(-1048576<=(l.getD i cx0).n/\(l.getD i cx0).n<=1048576)/\(l.getD i cx0).n≠0
  asc:∀i,0<i->i<l.length->x6i (l.getD (i-1) cx0) (l.getD i cx0)<0
theorem MVal.le {p:MSt}(h:MVal p)(i:LId):(p.B.flat++p.fa++y0i p.tb).count i<=1:=by
 by_cases k:z3r p.tb i;exact Nat.le_of_eq (h.once i k);obtain⟨J,I⟩:=h.tab;rw[List.count_eq_zero.2];omega;intro D;rcases List.mem_append.1 D with z|z
 rcases List.mem_append.1 z with z|z
 exact k (h.inv.has i z);exact k (h.fa i z);exact k (v0s I z)
theorem MVal.tabV {p:MSt}(h:MVal p):TabV p.tb:=by
 obtain⟨I,D⟩:=h.tab;refine⟨⟨h.inv.lt,h.inv.all,D.rts,I,D.rkd⟩,λi=>?_⟩;have:=h.le i;rw[List.count_append]at this;omega
end Go.G08
namespace Go.Proofs.YtjilcnmaefhmeaaGreatDoor
open Go.Lw Go.G21 Go.G08 _root_.Go.Proofs.Tryz
theorem u5s:z3q prog 117 5:=⟨λ_=>kr,λ_=>kr⟩
theorem u7h:ElemOf prog 36 117 z5w 40:=ElemOf.mk' (z:=(.agg #[.int .u8 0,.int .i64 0,.int .u8 0,.int .i64 0,.int .i64 0])) underlying36 kr U
theorem y5f:z0y prog 117 0 0:=λ_ _=>kr
theorem y5x:z0y prog 117 1 2:=λ_ _=>kr
theorem y8u:z0y prog 117 2 4:=λ_ _=>kr
theorem j7x:z1q prog 117 5:=λ_=>kr
theorem u5h (w:World):(zeroValue 117).run prog w=.ok (.agg #[(.int .u8 0),(.int .i64 0),(.int .u8 0),(.int .i64 0),(.int .i64 0)]) w:=kr
theorem u1r (x y:Cx):orZ [z6q x.a y.a,z6q x.b y.b]=x6i x y:=by
 unfold orZ orZ orZ x6i
 repeat' split
 all_goals first|rfl|omega
theorem u3m (x y:Cx)(w0:World):Rets prog 108 #[.agg #[.int .u8 x.a.y,.int .i64 x.a.n,.int .u8 x.b.y,.int .i64 x.b.n,.int .i64 x.n],.agg #[.int .u8 y.a.y,.int .i64 y.a.n,.int .u8 y.b.y,.int .i64 y.b.n,.int .i64 y.n]] w0 λr w'=>r=.int .i64 (x6i x y)/\Fr [] w0 w':=by
 refine we [(0,.agg #[.int .u8 x.a.y,.int .i64 x.a.n,.int .u8 x.b.y,.int .i64 x.b.n,.int .i64 x.n]),(1,.agg #[.int .u8 y.a.y,.int .i64 y.a.n,.int .u8 y.b.y,.int .i64 y.b.n,.int .i64 y.n])] func108 U ntmps108 U (.c2 U U) (sr (bx U (λg2 w1 a1 J q1 z1=>(bx U (λg3 w2 a2 M q2 z2=>(asg U (nn (sq ?_))))))));intro a h;refine z0h none (λwb w'=>Fr [] wb w') z2m ?_;intro w3 q3;replace J:=J.ext (q2.n1 q3);replace M:=M.ext q3;have hC:Fr [] w3 w3:=Fr.refl _ _;have D:=J;have I:=M;refine z0c 0 h U y5f U λa h=>z1a (vs:=[_,_]) 1 h U (λ_ hw=>(D.ext hw)) z2y U U λa h=>z0c 2 h U y5f U λa h=>z1a (vs:=[_,_]) 3 h U (λ_ hw=>(I.ext hw)) z2y U U λa h=>z0c 5 h U y5x U λa h=>z1a (vs:=[_,_]) 6 h U (λ_ hw=>(D.ext hw)) z2y U U λa h=>z0c 7 h U y5x U λa h=>z1a (vs:=[_,_]) 8 h U (λ_ hw=>(I.ext hw)) z2y U U λa h=>z0d 4 U (z0o h (z0a U (z0a U z0f)) j6t (y1u x.a y.a _) ?_);rintro _ w4 ⟨rfl,q4⟩ a h;replace hC:=hC.next q4;refine z0b (z0d 9 U (z0o h (z0a U (z0a U z0f)) j6t (y1u x.b y.b _) ?_));rintro _ w5 ⟨rfl,q5⟩ a h;replace J:=J.ext (q4.n1 q5);replace M:=M.ext (q4.n1 q5);replace hC:=hC.next q5;refine z0b (z0d 10 U (z2s ([z6q x.a y.a,z6q x.b y.b]) h (z0a U (z0a U z0f)) U z7l λZ w6 hg a0 q6 hz a h=>?_));have O:g2<Z:=by have:=J.lt;omega
 have O:g3<Z:=by have:=M.lt;omega
 replace hC:=hC.next q6;refine z0b (z0d 11 U (z0o h (z0a U z0f) (mkC func66) (j6q _ [z6q x.a y.a,z6q x.b y.b] _ a0.sl sp0) ?_));rintro _ w7 ⟨rfl,q7⟩ a h;replace hC:=hC.next q7;refine z0b (z0d 12 U (z0r h U λa h=>?_));refine z0b (z0p ?_);clear hC D I;refine bk (h.sub (L':=[(4,_)]) (.cons U .nil)) (tn (rt (r1 results108 U ?_)));exact⟨_,rfl,congrArg (Value.int .i64) (u1r x y),(q1.n6 q2 q3 q4 q5 q6 q7)⟩
theorem v1f (q:FbQ)(w0:World)(M:FbAt w0 q)(h6:q.ts.length=6)(hv:CrsV (z1r q.ts) q.cs):Rets prog 115 #[.agg #[.slice q.t.1 q.t.2.1 q.t.2.2,.slice q.c.1 q.c.2.1 q.c.2.2,.slice q.h.1 q.h.2.1 q.h.2.2,.slice q.f.1 q.f.2.1 q.f.2.2]] w0 λr w'=>r=.int .i64 0/\Fr [] w0 w':=by
 have c9:=M.len;have b9:=z8z q.ts;have hM:=M.c.len_le;unfold maxLen at hM;refine we [(0,.agg #[.slice q.t.1 q.t.2.1 q.t.2.2,.slice q.c.1 q.c.2.1 q.c.2.2,.slice q.h.1 q.h.2.1 q.h.2.2,.slice q.f.1 q.f.2.1 q.f.2.2])] func115 U ntmps115 U (.cons U .nil) ?_;have a3:=M;refine sr (bx U (λg1 w1 b7 J q1 z1=>(asg U (nn (sq (sr (fad U x8d (z0i U J U k0t (lnS U underlying36 (mv U U (nn (bl (lpK (ι:=Nat) [(1,_),(6,_),(7,_)] (λi=>[(8,.int .i64 (i:Int))]) (λi w'=>Fr [] w1 w'/\i<=q.cs.length) (λi=>q.cs.length-i) 0 (.c4 U U U U) ⟨Fr.refl _ _,Nat.zero_le _⟩ ?_)))))))))))));rintro i w2 ⟨q2,hi⟩;have z2:=q2.size;refine kpC [(1,_),(6,_),(7,_),(8,_)] (.c4 U U U U) (sr (lt' U (nn (sq (cd U (λc0=>?_) (λc0=>?_))))));have a0:=hv.has i oo;have a6:=a0.1;have a7:=a0.2.1;have b3:=a6.1;have b4:=a6.2.1;have b5:=a7.1;have b6:=a7.2.1;have a8:=hv.asc i;refine sk (tn (sq (bl (sr (mv U U ?_)))));replace M:=a3.ext (q1.n1 q2);refine z1d (cx0) U M.c U u7h z1g (λa9 a4=>?_);refine z1l U (a4 _ M.c) u5s (al u5h U (λg4 w3 b8 I q3 z3=>?_));refine asg U (z0k (vs:=[_,_,_,_,_]) U I j7x (λw4 I q4 z4=>?_) (h1:=(by first|(simp[Value.oneCell',S];done)|exact z5w.one _)));refine nn (sq (sq (x9y (r:=34) (L':=[(1,_),(3,_),(4,_),(6,_),(7,_),(8,_)]) ((((¬z3r (z1r q.ts) (q.cs.getD i cx0).a)\/(¬z3r (z1r q.ts) (q.cs.getD i cx0).b))\/(0<=(z6q (q.cs.getD i cx0).a (q.cs.getD i cx0).b)))) (.c6 U U U U U U) ?_ ?_)));refine fad U y0j ?_;replace J:=(J.ext (q2.n1 q3)).fr q4;refine z0i U J U x4q (fad U y5f (z1w (vs:=[_,_]) U I z2y U ?_));replace M:=a3.ext (q1.z3 q2 q3 q4);refine cl (ev2 U) (mkC func159) (y9v (q.cs.getD i cx0).a _ _ _ M.t M.tt oo oo) U ?_;rintro _ w5 ⟨rfl,q5⟩;have z5:=q5.size;refine nt' U (mv U U (gs 19 U (λhh=>absurd hh (by exact λe=>e a0.1)) (λg0=>(gY U (fad U y0j (gY U ?_))))));replace J:=J.ext q5;refine z0i U J U x4q (gY U (fad U y5x (gY U ?_)));replace I:=I.ext q5;refine z1w (vs:=[_,_]) U I z2y U (gY U ?_);replace M:=a3.ext (q1.z4 q2 q3 q4 q5);refine cl (ev2 U) (mkC func159) (y9v (q.cs.getD i cx0).b _ _ _ M.t M.tt oo oo) U ?_;rintro _ w6 ⟨rfl,q6⟩;have z6:=q6.size;refine gY U (nt' U (pkf U (mv U U (gs 27 U (λhh=>absurd hh (by exact λe=>e a0.2.1)) (λg1=>(gY U (fad U y5f (gY U ?_))))))));replace I:=I.ext q6;refine z1w (vs:=[_,_]) U I z2y U (gY U (fad U y5x (gY U (z1w (vs:=[_,_]) U I z2y U (gY U (cl (ev2 U) j6t (y1u (q.cs.getD i cx0).a (q.cs.getD i cx0).b _) U ?_))))));rintro _ w7 ⟨rfl,q7⟩;have z7:=q7.size;exact gY U (ge' U U (pkf U (z9e U (.c6 U U U U U U) (q5.n2 q6 q7))));intro w8 q8;have z8:=q8.size;refine tn (cd U (λc1=>?_) (λc1=>?_));refine sr (asg U (kpL [(2,_)] (.cons U .nil) (nn (rt (tr (rb (tr (tr (rb (tr (r1 results115 U ?_)))))))))));exfalso;rcases c1 with (hh|hh)|hh
 exact hh a0.1;exact hh a0.2.1;omega;refine sk (tn (sq (sq (rbo (r:=47) (L':=[(1,_),(3,_),(4,_),(6,_),(7,_),(8,_)]) (((((q.cs.getD i cx0).n < -1048576)\/(1048576<(q.cs.getD i cx0).n))\/((q.cs.getD i cx0).n=0))) (.c6 U U U U U U) ?_ ?_))));refine fad U y8u ?_;replace I:=I.ext q8;refine z0i U I U na3 (lt' U (mv U U (gs 38 U (λhh=>absurd hh oo) (λg2=>(gY U (fad U y8u (gY U (z0i U I U na3 (gY U (gt' U (pkf U (mv U U (gs 43 U (λhh=>absurd hh oo) (λg3=>?_))))))))))))));exact gY U (fad U y8u (gY U (z0i U I U na3 (gY U (eq' U (pkf U (rbe U (.c6 U U U U U U))))))));refine tn (cd U (λc2=>?_) (λc2=>?_));refine sr (asg U (kpL [(2,_)] (.cons U .nil) (nn (rt (tr (rb (tr (tr (rb (tr (r1 results115 U ?_)))))))))));exfalso;omega;refine sk (tn (sq ?_));replace M:=a3.ext (q1.z4 q2 q3 q4 q8);replace J:=((J.ext (q2.n1 q3)).fr q4).ext q8;intro a h;refine z0h none (λwb w'=>Fr [] wb w') z2m ?_;intro w9 q9;have z9:=q9.size;replace M:=M.ext q9;replace J:=J.ext q9;replace I:=I.ext (q8.n1 q9);have hC:Fr [] w9 w9:=Fr.refl _ _;have a2:=M;have O:=J;have Z:=I;refine z0e 0 h U λa h=>v1r 1 hC h wn U U λa h=>z0e 2 h U λa h=>gSp (D:=50) h U ?_ ?_;clear h;intro g4 h;refine z0c 3 h U x8d U ?_ (hG:=(wy U));clear h a;intro a h;refine z0j 4 h U (λ_ hw=>O.ext hw) U k0t U ?_ (hG:=(wy U));clear h a;intro a h;refine z0e 5 h U ?_ (hG:=(wy U));clear h a;intro a h;refine z2w 6 h (wy U) U (by first|exact i6 oo|rfl) U λa h=>z1i (p:=(i-1)) (cx0) 7 h U M.c U u7h U ?_ (hG:=(wy U));clear h a;intro b0 a5 a h;refine z2q 8 h (wy U) U (λ_ hw=>a5 _ (a2.c.ext hw)) u5s U λa h=>z0v 9 h U (λ_ hw=>Z.ext hw) u5s U ?_ (hG:=(wy U));clear h a;intro a h;refine z0d 10 U (y6m h U U U U U U (z0o h (z0a U (z0a U z0f)) (mkC func108) (u3m (q.cs.getD (i-1) cx0) (q.cs.getD i cx0) _) ?_));rintro _ d0 ⟨rfl,a1⟩ a h;have d1:=a1.size;replace M:=M.ext a1;replace J:=J.ext a1;replace I:=I.ext a1;replace hC:=hC.next a1;refine z0b (u2f 11 hC h (wy U) U U U U λa h=>z0d 12 U (z5p h U λa h=>?_));refine z0b (z0p ?_);clear hC a2 O Z;refine bk (h.sub (L':=[(1,_),(6,_),(7,_),(8,_),(60,_)]) (.c5 U U U U U)) (tn (cd U (λc3=>?_) (λc3=>?_)));refine sr (asg U (nn (rt (rb (tr (tr (rb (tr (r1 results115 U ?_)))))))));exfalso;first|omega|(have:=a8 oo oo;omega)
 exact sk (bn' (tn (rg (z1b U (wi6 oo) (mv U U (nl (lpE (i+1) (.c4 U U U U) ⟨(q2.z5 q3 q4 q8 q9 a1),oo⟩ oo)))))));clear h;intro g4 h;refine z2k 3 h U U λa h=>z2k 4 h U U λa h=>z2k 5 h U U λa h=>z2k 6 h U U λa h=>z2k 7 h U U λa h=>z2k 8 h U U λa h=>z2k 9 h U U λa h=>z2k 10 h U U λa h=>z2k 11 h U U λa h=>z0d 12 U (z4d h U U λa h=>?_);refine z0b (z0p ?_);clear hC a2 O Z;exact bk (h.sub (L':=[(1,_),(6,_),(7,_),(8,_),(60,_)]) (.c5 U U U U U)) (tn (cf U (sk (bn' (tn (rg (z1b U (wi6 oo) (mv U U (nl (lpE (i+1) (.c4 U U U U) ⟨(q2.z4 q3 q4 q8 q9),oo⟩ oo))))))))));obtain rfl:i=q.cs.length:=by omega
 exact ex (te (te (xh (tn (sr (asg U (nn (rt (r1 results115 U ⟨_,rfl,rfl,(q1.n1 q2)⟩)))))))))
theorem v3n {a b:List LId}{k:Nat}(h:∀i,(a++b).count i<=1)(c:List LId)(D:∃d,a++b=c++d):c.count (b.getD k id0)<=100000:=by
 obtain⟨d,e⟩:=D;have:=h (b.getD k id0);rw[e,List.count_append]at this;omega
theorem v1k (q:FbQ)(w0:World)(M:FbAt w0 q)(h6:q.ts.length=6)(hv:TabV (z1r q.ts))(hp:PlaceW (z1r q.ts) q.hs q.fs):Rets prog 116 #[.agg #[.slice q.t.1 q.t.2.1 q.t.2.2,.slice q.c.1 q.c.2.1 q.c.2.2,.slice q.h.1 q.h.2.1 q.h.2.2,.slice q.f.1 q.f.2.1 q.f.2.2]] w0 λr w'=>r=.int .i64 (u4u (z1r q.ts) q.hs q.fs)/\Fr [] w0 w':=by
 have i2:=M.len;have i0:=z8z q.ts;have hM:=M.f.len_le;unfold maxLen at hM;refine we [(0,.agg #[.slice q.t.1 q.t.2.1 q.t.2.2,.slice q.c.1 q.c.2.1 q.c.2.2,.slice q.h.1 q.h.2.1 q.h.2.2,.slice q.f.1 q.f.2.1 q.f.2.2])] func116 U ntmps116 U (.cons U .nil) ?_;have J:=M;refine sr (bx U (λg1 w1 h4 I q1 z1=>?_));refine asg U (nn (sq (sr (fad U x7q (z0i U I U z8o (fad U y8e (z0i U I U z8o (z1y (cs:=[_,_]) (ev2 U) k2o (z0g U (z0g U z0s)) U ?_))))))));refine mv U U (nn (bl (lpK (ι:=Nat) [(1,_),(22,_)] (λz=>[(23,.int .i64 (z:Int))]) (λz w'=>Fr [] w1 w'/\z<=2) (λz=>2-z) 0 (.c3 U U U) ⟨Fr.refl _ _,Nat.zero_le _⟩ ?_)));rintro z w2 ⟨q2,hz⟩;have z2:=q2.size;refine kpC [(1,_),(22,_),(23,_)] (.c3 U U U) (sr (lt' U (nn (sq (cd U (λc0=>?_) (λc0=>?_))))));have i1:=z1z (u1d J z);have e0:=(u1d J z).len_le;unfold maxLen at e0;refine sk (tn (sq (bl (sr (u7b U U underlying251 u9h z8o (k1f oo) U (asg U (nn (sr (mv U U (lnS U underlying27 (mv U U (nn (bl (lpK (ι:=Nat) [(1,_),(22,_),(23,_),(26,_),(27,_)] (λn=>[(28,.int .i64 (n:Int))]) (λn w'=>Fr [] w2 w'/\n<=(hfl q z).length) (λn=>(hfl q z).length-n) 0 (.c6 U U U U U U) ⟨Fr.refl _ _,Nat.zero_le _⟩ ?_))))))))))))));rintro n w3 ⟨q3,hn⟩;have z3:=q3.size;refine kpC [(1,_),(22,_),(23,_),(26,_),(27,_),(28,_)] (.c6 U U U U U U) (sr (lt' U (nn (sq (cd U (λc1=>?_) (λc1=>?_))))));refine sk (tn (sq (bl (sr ?_))));replace M:=J.ext (q1.n2 q2 q3);refine z1d (id0) U (u1d M z) U z4x z1g (λf3 d3=>?_);refine z1l U (d3 _ (u1d M z)) z2y (al y0n U (λg6 w4 h5 d1 q4 z4=>?_));refine z0k (vs:=[_,_]) U d1 y0c (λw5 d1 q5 z5=>?_) (h1:=(by first|(simp[Value.oneCell',S];done)|exact z6t.one _|exact z1f.one _));refine nn (sr (fad U y0j ?_));replace I:=(I.ext (q2.n2 q3 q4)).fr q5;refine z0i U I U x4q (z0n U d1 z2y ?_);replace M:=J.ext (q1.z4 q2 q3 q4 q5);refine cl (ev2 U) (mkC func159) (y9v ((hfl q z).getD n id0) _ _ _ M.t M.tt oo (by have h:=hp.has _ (j5q z (z0z (d:=id0) (i:=n) oo));have:=h.1;have:=h.2.1;omega)) U ?_;rintro _ w6 ⟨rfl,q6⟩;have z6:=q6.size;refine nt' U (nn (cd U (λc2=>?_) (λc2=>?_)));exact sr (asg U (kpL [(2,_)] (.cons U .nil) (nn (rt (rb (tr (tr (rb (rb (tr (tr (rb (tr (r1 results116 U (absurd (hp.has _ (j5q z (z0z (d:=id0) (i:=n) oo))) (by simpa using c2))))))))))))))));exact sk (bn' (tn (rg (z1b U (wi6 oo) (mv U U (nl (lpE (n+1) (.c6 U U U U U U) ⟨(q3.z3 q4 q5 q6),oo⟩ oo)))))));obtain rfl:n=(hfl q z).length:=by omega
 exact ex (te (te (xh (bn' (tn (rg (z1b U (wi6 oo) (mv U U (nl (lpE (z+1) (.c3 U U U) ⟨(q2.n1 q3),oo⟩ oo))))))))));obtain rfl:z=2:=by omega
 refine ex (te (te (xh (tn (sq (sr (fad U y8e ?_)))))));replace I:=I.ext q2;refine z0i U I U z8o (lnS U underlying27 (mv U U (nn (bl (lpK (ι:=Nat) [(1,_),(40,_),(41,_)] (λi=>[(42,.int .i64 (i:Int))]) (λi w'=>Fr [] w2 w'/\i<=q.fs.length) (λi=>q.fs.length-i) 0 (.c4 U U U U) ⟨Fr.refl _ _,Nat.zero_le _⟩ ?_)))));rintro i w7 ⟨q7,hi⟩;have z7:=q7.size;refine kpC [(1,_),(40,_),(41,_),(42,_)] (.c4 U U U U) (sr (lt' U (nn (sq (cd U (λc3=>?_) (λc3=>?_))))));have e9:=hp.asc i;refine sk (tn (sq (bl (sr (mv U U ?_)))));replace M:=J.ext (q1.n2 q2 q7);refine z1d (id0) U M.f U z4x z1g (λf4 d4=>?_);refine z1l U (d4 _ M.f) z2y (al y0n U (λg8 w8 h7 a7 q8 z8=>?_));refine asg U (z0k (vs:=[_,_]) U a7 y0c (λw9 a7 q9 z9=>?_) (h1:=(by first|(simp[Value.oneCell',S];done)|exact z6t.one _|exact z1f.one _)));refine nn (sq ?_);replace M:=J.ext (q1.z4 q2 q7 q8 q9);replace I:=(I.ext (q7.n1 q8)).fr q9;intro a h;refine z0h none (λwb w'=>Fr [] wb w') z2m ?_;intro e4 b0;have j4:=b0.size;replace M:=M.ext b0;replace I:=I.ext b0;replace a7:=a7.ext b0;have hC:Fr [] e4 e4:=Fr.refl _ _;have b6:=M;have a6:=I;have a8:=a7;refine z0e 0 h U λa h=>v1r 1 hC h wn U U λa h=>z0e 2 h U λa h=>gSp (D:=49) h U ?_ ?_;clear h;intro g0 h;refine z0c 3 h U y8e U ?_ (hG:=(wy U));clear h a;intro a h;refine z0j 4 h U (λ_ hw=>a6.ext hw) U z8o U ?_ (hG:=(wy U));clear h a;intro a h;refine z0e 5 h U ?_ (hG:=(wy U));clear h a;intro a h;refine z2w 6 h (wy U) U (by first|exact i6 oo|rfl) U λa h=>z1i (p:=(i-1)) (id0) 7 h U M.f U z4x U ?_ (hG:=(wy U));clear h a;intro f5 d5 a h;refine z2q 8 h (wy U) U (λ_ hw=>d5 _ (b6.f.ext hw)) z2y U λa h=>z0v 9 h U (λ_ hw=>a8.ext hw) z2y U ?_ (hG:=(wy U));clear h a;intro a h;refine z0d 10 U (y6m h U U U U U U (z0o h (z0a U (z0a U z0f)) j6t (y1u (q.fs.getD (i-1) id0) (q.fs.getD i id0) _) ?_));rintro _ i3 ⟨rfl,b3⟩ a h;have j5:=b3.size;replace M:=M.ext b3;replace I:=I.ext b3;replace a7:=a7.ext b3;replace hC:=hC.next b3;refine z0b (u2f 11 hC h (wy U) U U U U λa h=>z0d 12 U (z5p h U λa h=>?_));refine z0b (z0p ?_);clear hC b6 a6 a8;refine bk (h.sub (L':=[(1,_),(40,_),(41,_),(42,_),(59,_)]) (.c5 U U U U U)) (tn (cd U (λc4=>?_) (λc4=>?_)));refine sr (asg U (nn (rt (rb (tr (tr (rb (tr (r1 results116 U ?_)))))))));exfalso;first|omega|(have:=e9 oo oo;omega)
 exact sk (bn' (tn (rg (z1b U (wi6 oo) (mv U U (nl (lpE (i+1) (.c4 U U U U) ⟨(q7.z4 q8 q9 b0 b3),oo⟩ oo)))))));clear h;intro g0 h;refine z2k 3 h U U λa h=>z2k 4 h U U λa h=>z2k 5 h U U λa h=>z2k 6 h U U λa h=>z2k 7 h U U λa h=>z2k 8 h U U λa h=>z2k 9 h U U λa h=>z2k 10 h U U λa h=>z2k 11 h U U λa h=>z0d 12 U (z4d h U U λa h=>?_);refine z0b (z0p ?_);clear hC b6 a6 a8;exact bk (h.sub (L':=[(1,_),(40,_),(41,_),(42,_),(59,_)]) (.c5 U U U U U)) (tn (cf U (sk (bn' (tn (rg (z1b U (wi6 oo) (mv U U (nl (lpE (i+1) (.c4 U U U U) ⟨(q7.z3 q8 q9 b0),oo⟩ oo))))))))));obtain rfl:i=q.fs.length:=by omega
 refine ex (te (te (xh (tn (sr (y8n idV (.int .i64 0) U (λa4 i4 g3 hm a5 j6=>(al k2h U (λg9 i5 h8 O a0 j7=>(z5u U U O U k1b (λi7 O a1 j8=>(nn (sr (z9x z0f (ev1 U) U (asg U (nn (sr (mv U U (fad U x7q ?_)))))))))))))))))));replace I:=(I.ext (q7.n2 a5 a0)).fr a1;refine z0i U I U z8o ?_;replace M:=J.ext (q1.z5 q2 q7 a5 a0 a1);replace hm:=(hm.ext a0).fr a1 (by intro k hk hb;simp at hk hb;omega);refine clv (us:=[]) (ws:=[.pointer (some ⟨g9,0,none⟩)]) U (ev1 U) (mkC func160) (x6e g9 a4 [] _ _ w0 _ J.h oo M.h O hm (λk hk=>v3n (a:=[]) (b:=q.hs) (λi=>(by have:=hp.le i;simp only[List.count_append,List.nil_append]at this ⊢;omega)) _ ⟨q.hs.drop k,sp0⟩)) U (by intro g e;cases e) ?_;rintro g7 i8 ⟨hm,a2⟩;have j9:=a2.size;refine nn (sr (mv U U (fad U y8e ?_)));replace I:=I.fr a2;refine z0i U I U z8o ?_;replace M:=J.ext (q1.z6 q2 q7 a5 a0 a1 a2);replace O:=O.fr a2;refine clv (us:=[]) (ws:=[.pointer (some ⟨g9,0,none⟩)]) U (ev1 U) (mkC func160) (x6e g9 a4 ([]++q.hs) _ _ w0 _ J.f oo M.f O hm (λk hk=>v3n (a:=q.hs) (b:=q.fs) (λi=>(by have:=hp.le i;simp only[List.count_append]at this ⊢;omega)) _ ⟨q.fs.drop k,sp0⟩)) U (by intro g e;cases e) ?_;rintro h0 f1 ⟨hm,a3⟩;have k0:=a3.size;refine nn (sq (sr (fad U y0j ?_)));replace I:=I.fr a3;refine z0i U I U x4q (lnS U underlying53 (mv U U (nn (bl (lpK (ι:=Nat) [(1,_),(9,_),(10,_),(72,_),(73,_)] (λy=>[(74,.int .i64 (y:Int))]) (λy w'=>Fr [a4] f1 w'/\y<=q.ts.length/\MapZ idV w' a4 (.int .i64 0) (y8w ((q.hs++q.fs)++(y0a (z1r q.ts) y 0)))) (λy=>q.ts.length-y) 0 (.c6 U U U U U U) ⟨Fr.refl _ _,⟨Nat.zero_le _,by rw[v4r,List.append_nil];exact hm⟩⟩ ?_)))));rintro y e5 ⟨Z,⟨hy,hm⟩⟩;have k1:=Z.size;refine kpC [(1,_),(9,_),(10,_),(72,_),(73,_),(74,_)] (.c6 U U U U U U) (sr (lt' U (nn (sq (cd U (λc5=>?_) (λc5=>?_))))));have f0:=z5b J.tt y;have d0:=(J.tt _ (z0z (d:=tq0) (i:=y) oo)).1.len_le;unfold maxLen at d0;refine sk (tn (sq (bl (sr ?_))));replace M:=J.ext (((q1.z6 q2 q7 a5 a0 a1 a2).z1 a3).z1 Z);refine z1d (tq0) U M.t U y6v z1g (λf6 d6=>?_);refine z1k U (d6 _ M.t) x1q (asg U (nn (sr (mv U U (lnS U underlying34 (mv U U (nn (bl (lpK (ι:=Nat) [(1,_),(9,_),(10,_),(72,_),(73,_),(74,_),(78,_),(79,_)] (λn=>[(80,.int .i64 (n:Int))]) (λn w'=>Fr [a4] e5 w'/\n<=(q.ts.getD y tq0).2.length/\MapZ idV w' a4 (.int .i64 0) (y8w ((q.hs++q.fs)++(y0a (z1r q.ts) y n)))) (λn=>(q.ts.getD y tq0).2.length-n) 0 (.d8 U U U U U U U U (.cons U .nil)) ⟨Fr.refl _ _,⟨Nat.zero_le _,hm⟩⟩ ?_)))))))));rintro n i9 ⟨b4,⟨hn,hm⟩⟩;have k2:=b4.size;refine kpC [(1,_),(9,_),(10,_),(72,_),(73,_),(74,_),(78,_),(79,_),(80,_)] (.d8 U U U U U U U U (.cons U .nil)) (sr (lt' U (nn (sq (cd U (λc6=>?_) (λc6=>?_))))));have h9:=z1z (z7r J.tt (y:=y) (n:=n) oo oo).1;have e8:∀k,k<((q.ts.getD y tq0).2.getD n lq0).ths.length->(((q.hs++q.fs)++y0a (z1r q.ts) y n)++((q.ts.getD y tq0).2.getD n lq0).ths.take k).count (((q.ts.getD y tq0).2.getD n lq0).ths.getD k id0)<=100000:=λk hk=>by
  have e6:=x8x (k:=k) hv.thr (y:=y) (n:=n) oo oo hk;have e7:=hp.le (((q.ts.getD y tq0).2.getD n lq0).ths.getD k id0);rw[List.count_append]at e7;rw[List.count_append,List.count_append];rw[List.count_append,List.count_append,List.count_singleton,if_pos sp0]at e6;omega
 refine sk (tn (sq (bl (sr ?_))));replace M:=J.ext ((((q1.z6 q2 q7 a5 a0 a1 a2).z1 a3).z1 Z).z1 b4);refine z1d (lq0) U (M.tt _ (z0z (d:=tq0) (i:=y) oo)).1 U v2r z1g (λf7 d7=>?_);refine z1l U (d7 _ (M.tt _ (z0z (d:=tq0) (i:=y) oo)).1) x2h (al x6b U (λh3 j0 f9 b7 b8 k4=>?_));refine z0k (vs:=[_,_,_,_]) U b7 v2l (λj1 b7 b9 k5=>?_) (h1:=(by first|(simp[Value.oneCell',S];done)|exact z6t.one _|exact z1f.one _));refine nn (rg (mv U U (fad U z6m (z0i U b7 U z8o ?_))));replace M:=J.ext ((((q1.z6 q2 q7 a5 a0 a1 a2).z1 a3).z1 Z).z3 b4 b8 b9);replace O:=((((O.fr a3).fr Z).fr b4).ext b8).fr b9;replace hm:=(hm.ext b8).fr b9 (by intro k hk hb;simp at hk hb;omega);refine clv (us:=[]) (ws:=[.pointer (some ⟨g9,0,none⟩)]) U (ev1 U) (mkC func160) (x6e g9 a4 ((q.hs++q.fs)++y0a (z1r q.ts) y n) _ _ w0 _ (z7r J.tt (y:=y) (n:=n) oo oo).1 oo (z7r M.tt (y:=y) (n:=n) oo oo).1 O hm (λk hk=>e8 k hk)) U (by intro g e;cases e) ?_;rintro h2 j2 ⟨hm,e3⟩;have k6:=e3.size;exact nl (bn' (tn (rg (z1b U (wi6 oo) (mv U U (nl (lpE (n+1) (.d8 U U U U U U U U (.cons U .nil)) ⟨((Fr.refl [a4] _).z4 b4 b8 b9 e3),⟨oo,by rw[y8a oo,<-List.append_assoc];exact hm⟩⟩ oo)))))));obtain rfl:n=(q.ts.getD y tq0).2.length:=by omega
 exact ex (te (te (xh (bn' (tn (rg (z1b U (wi6 oo) (mv U U (nl (lpE (y+1) (.c6 U U U U U U) ⟨((Fr.refl [a4] _).z2 Z b4),⟨oo,by rw[y7p oo];exact hm⟩⟩ oo))))))))));obtain rfl:y=q.ts.length:=by omega
 rw[u3v (by rw[z8z];omega)]at hm;refine ex (te (te (xh (tn (sq (sr (fad U y0j ?_)))))));replace I:=I.fr Z;refine z0i U I U x4q (lnS U underlying53 (mv U U (kpL [(9,_),(91,_),(92,_),(93,_)] (.c4 U U U U) (nn (bl (lpK (ι:=Nat) [(9,_),(91,_),(92,_)] (λy=>[(93,.int .i64 (y:Int))]) (λy w'=>Fr [] e5 w'/\y<=q.ts.length/\∀y',y'<y->∀n,n<z3b (z1r q.ts) y'->(q.hs++q.fs++y0i (z1r q.ts)).count ⟨(y':Int)+1,(n:Int)⟩=1) (λy=>q.ts.length-y) 0 (.c4 U U U U) ⟨Fr.refl _ _,⟨Nat.zero_le _,λk h=>absurd h oo⟩⟩ ?_))))));rintro y f2 ⟨a9,⟨hy,e2⟩⟩;have k7:=a9.size;refine kpC [(9,_),(91,_),(92,_),(93,_)] (.c4 U U U U) (sr (lt' U (nn (sq (cd U (λc7=>?_) (λc7=>?_))))));have f0:=z5b J.tt y;have d0:=(J.tt _ (z0z (d:=tq0) (i:=y) oo)).1.len_le;unfold maxLen at d0;refine sk (tn (sq (bl (sr (mv U U ?_)))));replace M:=J.ext ((((q1.z6 q2 q7 a5 a0 a1 a2).z1 a3).z1 Z).n1 a9);refine z1d (tq0) U M.t U y6v z1g (λf8 d9=>?_);refine z1k U (d9 _ M.t) x1q (asg U (asg U (nn (sr (mv U U (lnS U underlying34 (mv U U (nn (bl (lpK (ι:=Nat) [(9,_),(15,_),(91,_),(92,_),(93,_),(99,_)] (λn=>[(100,.int .i64 (n:Int))]) (λn w'=>Fr [] f2 w'/\n<=(q.ts.getD y tq0).2.length/\∀n',n'<n->(q.hs++q.fs++y0i (z1r q.ts)).count ⟨(y:Int)+1,(n':Int)⟩=1) (λn=>(q.ts.getD y tq0).2.length-n) 0 (.c7 U U U U U U U) ⟨Fr.refl _ _,⟨Nat.zero_le _,λk h=>absurd h oo⟩⟩ ?_))))))))));rintro n j3 ⟨b5,⟨hn,e1⟩⟩;have k8:=b5.size;refine kpC [(9,_),(15,_),(91,_),(92,_),(93,_),(99,_),(100,_)] (.c7 U U U U U U U) (sr (lt' U (nn (sq (cd U (λc8=>?_) (λc8=>?_))))));refine sk (tn (sq (bl (sr (mv U U (asg U (nn (sr ?_))))))));replace O:=((O.fr a3).fr Z).ext (a9.n1 b5);refine z4j U O v1h (mv U U (z1b U (wi6 oo) (z4y U (us underlying3) underlying5 (wi8 oo) (mv U U (z1y (cs:=[_,_]) (ev2 U) j8c (z0g U (z0g U z0s)) U ?_)))));replace hm:=hm.ext (a9.n1 b5);refine y5a (V:=idV) (z:=(.int .i64 0)) (k:=(⟨(y:Int)+1,(n:Int)⟩:LId)) (v:=.int .i64 (((((q.hs++q.fs)++y0i (z1r q.ts))).count (⟨(y:Int)+1,(n:Int)⟩:LId):Nat):Int)) U U hm z4a underlying137 zvI U U (ne' U (kpL [(9,_),(15,_),(91,_),(92,_),(93,_),(99,_),(100,_),(110,_)] (.c8 U U U U U U U U) (nn (cd U (λc9=>?_) (λc9=>?_)))));exact sr (asg U (kpL [(2,_)] (.cons U .nil) (nn (rt (rb (tr (tr (rb (rb (tr (tr (rb (tr (r1 results116 U ⟨_,rfl,by rw[j1u (y:=y) (n:=n) oo (by rw[z3x];omega) oo],((((q1.z6 q2 q7 a5 a0 a1 a2).z1 a3).z1 Z).n2 a9 b5)⟩))))))))))))));refine sk (bn' (tn (rg (z1b U (wi6 oo) (mv U U (nl ?_))))));exact lpE (n+1) (.c7 U U U U U U U) ⟨b5,⟨oo,λk h=>by
  by_cases e:k=n;subst e;omega;exact e1 k oo⟩⟩ oo
 obtain rfl:n=(q.ts.getD y tq0).2.length:=by omega
 refine ex (te (te (xh (bn' (tn (rg (z1b U (wi6 oo) (mv U U (nl ?_)))))))));exact lpE (y+1) (.c4 U U U U) ⟨(a9.n1 b5),⟨oo,λk h=>by
  by_cases e:k=y;subst e;exact λn h=>e1 n (by rw[z3x]at h;omega);exact e2 k oo⟩⟩ oo
 obtain rfl:y=q.ts.length:=by omega
 exact ex (te (te (xh (tn (sr (asg U (nn (rt (r1 results116 U ⟨_,rfl,by rw[v5w λy hy n hn=>e2 y oo n hn],((((q1.z6 q2 q7 a5 a0 a1 a2).z1 a3).z1 Z).n1 a9)⟩)))))))))
theorem u3r (q:FbQ)(w0:World)(I:FbAt w0 q)(h6:q.ts.length=6)(hv:TabV (z1r q.ts))(hc:CrsV (z1r q.ts) q.cs)(hp:PlaceW (z1r q.ts) q.hs q.fs):Rets prog 50 #[.agg #[.slice q.t.1 q.t.2.1 q.t.2.2,.slice q.c.1 q.c.2.1 q.c.2.2,.slice q.h.1 q.h.2.1 q.h.2.2,.slice q.f.1 q.f.2.1 q.f.2.2]] w0 λr w'=>r=.int .i64 (u4u (z1r q.ts) q.hs q.fs)/\Fr [] w0 w':=by
 refine we [(0,.agg #[.slice q.t.1 q.t.2.1 q.t.2.2,.slice q.c.1 q.c.2.1 q.c.2.2,.slice q.h.1 q.h.2.1 q.h.2.2,.slice q.f.1 q.f.2.1 q.f.2.2])] func50 U ntmps50 U (.cons U .nil) ?_;have J:=I;refine sr (bx U (λg1 w1 a0 D O z1=>(asg U (nn (sq (sr (fad U y0j (z0i U D U x4q ?_))))))));replace I:=J.ext O;refine cl (ev1 U) (mkC func114) (u8n _ _ _ I.t I.tt h6 hv) U ?_;rintro _ w2 ⟨rfl,M⟩;have z2:=M.size;refine asg U (nn (sr (mv U U (ne' U (nn (cd U (λc0=>?_) (λc0=>?_)))))));exact sr (mv U U (asg U (nn (rt (tr (r1 results50 U (absurd U (by assumption))))))));refine sk (tn (sq (sr ?_)));replace D:=D.ext M;refine z0n U D u0r ?_;replace I:=J.ext (O.n1 M);refine cl (ev1 U) (mkC func115) (v1f q _ I h6 hc) U ?_;rintro _ w3 ⟨rfl,Z⟩;have z3:=Z.size;refine asg U (nn (sr (mv U U (ne' U (nn (cd U (λc1=>?_) (λc1=>?_)))))));exact sr (mv U U (asg U (nn (rt (tr (r1 results50 U (absurd U (by assumption))))))));refine sk (tn (sr ?_));replace D:=D.ext Z;refine z0n U D u0r ?_;replace I:=J.ext (O.n2 M Z);refine cl (ev1 U) (mkC func116) (v1k q _ I h6 hv hp) U ?_;rintro _ w4 ⟨rfl,q4⟩;have z4:=q4.size;exact asg U (nn (rt (r1 results50 U ⟨_,rfl,rfl,(O.n3 M Z q4)⟩)))
theorem u3s (q:FbQ)(w0:World)(I:FbAt w0 q)(D:q.ts.length=6)(M:TabV (z1r q.ts))(J:CrsV (z1r q.ts) q.cs)(hp:PlaceV (z1r q.ts) q.hs q.fs):Rets prog 50 #[.agg #[.slice q.t.1 q.t.2.1 q.t.2.2,.slice q.c.1 q.c.2.1 q.c.2.2,.slice q.h.1 q.h.2.1 q.h.2.2,.slice q.f.1 q.f.2.1 q.f.2.2]] w0 λr w'=>r=.int .i64 0/\Fr [] w0 w':=by
 have x:=u3r q w0 I D M J hp.w;rw[v5w hp.once]at x;exact x
theorem v7o (v:Value)(l:List Pa)(w0:World)(I:Sl z2e w0 v l)(hl:l.length<=100000):Rets prog 143 #[v] w0 λr w'=>∃g,r=.slice (some ⟨g,0,none⟩) l.length l.length/\w0.heap.size<=g/\Lw.Own z2e 97 w0.heap.size w' r l/\Fr [] w0 w':=by
 obtain⟨A,c,rfl,a0,hM,Z⟩:=id I;clear Z;unfold maxLen at hM;refine we [(0,.slice A l.length c)] func143 U ntmps143 U (.cons U .nil) ?_;have J:=I;refine sr (asg U (nn (sr (mv U U (lnS U underlying30 (z1e (m:=l.length) (c:=l.length) (pa0) U y0r u2z U (λO w1 a1 D M z1=>(asg U (nn (sr (mv U U (mv U U ?_))))))))))));replace I:=J.ext M;refine z6n (zs:=List.replicate l.length pa0) (by rw[List.length_replicate];rfl) U (by rw[List.length_replicate];exact D) I (by rw[List.length_replicate]) y0r (λw2 D q2 z2=>?_);rw[List.length_replicate]at D;exact nn (sr (mv U U (asg U (nn (rt (r1 results143 U ⟨_,rfl,O,rfl,oo,D.low oo,(M.z1 q2)⟩))))))
theorem v3o (v:Value)(l:List LpQ)(w0:World)(I:Sl z6t w0 v l)(hl:l.length<=100000):Rets prog 103 #[v] w0 λr w'=>∃g,r=.slice (some ⟨g,0,none⟩) l.length l.length/\w0.heap.size<=g/\Lw.Own z6t 107 w0.heap.size w' r l/\Fr [] w0 w':=by
 obtain⟨A,c,rfl,a0,hM,Z⟩:=id I;clear Z;unfold maxLen at hM;refine we [(0,.slice A l.length c)] func103 U ntmps103 U (.cons U .nil) ?_;have J:=I;refine sr (asg U (nn (sr (mv U U (lnS U underlying34 (z1e (m:=l.length) (c:=l.length) (lq0) U v2r x6b U (λO w1 a1 D M z1=>(asg U (nn (sr (mv U U (mv U U ?_))))))))))));replace I:=J.ext M;refine z6n (zs:=List.replicate l.length lq0) (by rw[List.length_replicate];rfl) U (by rw[List.length_replicate];exact D) I (by rw[List.length_replicate]) v2r (λw2 D q2 z2=>?_);rw[List.length_replicate]at D;exact nn (sr (mv U U (asg U (nn (rt (r1 results103 U ⟨_,rfl,O,rfl,oo,D.low oo,(M.z1 q2)⟩))))))
theorem v7t (v:Value)(l:List Cx)(w0:World)(I:Sl z5w w0 v l)(hl:l.length<=100000000):Rets prog 105 #[v] w0 λr w'=>∃g,r=.slice (some ⟨g,0,none⟩) l.length l.length/\w0.heap.size<=g/\Lw.Own z5w 117 w0.heap.size w' r l/\Fr [] w0 w':=by
 obtain⟨A,c,rfl,a0,hM,Z⟩:=id I;clear Z;unfold maxLen at hM;refine we [(0,.slice A l.length c)] func105 U ntmps105 U (.cons U .nil) ?_;have J:=I;refine sr (asg U (nn (sr (mv U U (lnS U underlying36 (z1e (m:=l.length) (c:=l.length) (cx0) U u7h u5h U (λO w1 a1 D M z1=>(asg U (nn (sr (mv U U (mv U U ?_))))))))))));replace I:=J.ext M;refine z6n (zs:=List.replicate l.length cx0) (by rw[List.length_replicate];rfl) U (by rw[List.length_replicate];exact D) I (by rw[List.length_replicate]) u7h (λw2 D q2 z2=>?_);rw[List.length_replicate]at D;exact nn (sr (mv U U (asg U (nn (rt (r1 results105 U ⟨_,rfl,O,rfl,oo,D.low oo,(M.z1 q2)⟩))))))
theorem u9x (v:Value)(l:List YQ)(w0:World)(I:Sl z3a w0 v l)(hl:l.length<=100000):Rets prog 142 #[v] w0 λr w'=>∃g,r=.slice (some ⟨g,0,none⟩) l.length l.length/\w0.heap.size<=g/\Lw.Own z3a 95 w0.heap.size w' r l/\Fr [] w0 w':=by
 obtain⟨A,c,rfl,a0,hM,Z⟩:=id I;clear Z;unfold maxLen at hM;refine we [(0,.slice A l.length c)] func142 U ntmps142 U (.cons U .nil) ?_;have J:=I;refine sr (asg U (nn (sr (mv U U (lnS U underlying51 (z1e (m:=l.length) (c:=l.length) (yq0) U y4n y3y U (λO w1 a1 D M z1=>(asg U (nn (sr (mv U U (mv U U ?_))))))))))));replace I:=J.ext M;refine z6n (zs:=List.replicate l.length yq0) (by rw[List.length_replicate];rfl) U (by rw[List.length_replicate];exact D) I (by rw[List.length_replicate]) y4n (λw2 D q2 z2=>?_);rw[List.length_replicate]at D;exact nn (sr (mv U U (asg U (nn (rt (r1 results142 U ⟨_,rfl,O,rfl,oo,D.low oo,(M.z1 q2)⟩))))))
theorem u8r {rs qs:List IQ}{n:Nat}(hn:n<=qs.length)(D:(plB qs).take n=trimB (plB qs))(hl:rs.length=n)(h:∀j,j<n->(rs.getD j iq0).2=(qs.getD j iq0).2):plB rs=trimB (plB qs):=by
 rw[<-D];refine List.ext_getElem (by simp[hl,hn]) λj I M=>?_;have J:j<n:=by simpa[hl] using I
 have:=h j J;rw[List.getD,List.getD,List.getElem?_eq_getElem oo,List.getElem?_eq_getElem oo]at this;simpa[plB] using this
theorem y5j (v:Value)(qs:List IQ)(w0:World)(Z:Sl z7b w0 v qs)(hk:IqAt w0 qs)(hl:qs.length<=40)(h4:y0b qs):Rets prog 88 #[v] w0 λr w'=>(∃fs,RwO 27 73 w0.heap.size w' r fs/\plB fs=trimB (plB qs)/\∃g,r=.slice (some ⟨g,0,none⟩) fs.length fs.length)/\Fr [] w0 w':=by
 obtain⟨A,c,rfl,b5,hM,hA⟩:=id Z;clear hA;unfold maxLen at hM;refine we [(0,.slice A qs.length c)] func88 U ntmps88 U (.cons U .nil) ?_;have a7:=Z;have a5:=hk;refine sr (asg U (nn (sr (mv U U (lnS U underlying48 (asg U (nn (sq (bl (lpK (ι:=Nat) [(0,_)] (λn=>[(3,.int .i64 (n:Int))]) (λn w'=>Fr [] w0 w'/\n<=qs.length/\∀j,n<=j->(qs.getD j iq0).2=[]) (λn=>n) qs.length (.c2 U U) ⟨Fr.refl _ _,⟨Nat.le_refl _,λj O=>v0y O⟩⟩ ?_))))))))));rintro n w1 ⟨q1,⟨hn,a4⟩⟩;have z1:=q1.size;refine kpC [(0,_),(3,_)] (.c2 U U) ?_;have a6:=z1z (z2f a5 (n-1));refine sq (sq (rbo (r:=18) (L':=[(0,_),(3,_)]) (((0<(n:Int))/\(((qs.getD (n-1) iq0).1.2.1:Int)=0))) (.c2 U U) ?_ ?_));refine mv U U (gt' U (mv U U (gs 10 U (λg0=>?_) (λg0=>?_))));refine gY U (mv U U (gY U (mv U U (gY U (z2p U (wi6 oo) (gY U ?_))))));replace Z:=a7.ext q1;refine z1d (p:=n-1) (iq0) U Z U y6z oo (λa9 a2=>?_);exact gY U (z1k U (a2 _ Z) z8o (gY U (lnS U underlying27 (gY U (eq' U (pkt U (rbe U (.c2 U U))))))));exact gN U (gN U (gN U (gN U (gN U (gN U (gN U (pkf U (rbe U (.c2 U U)))))))));refine tn (cd U (λc0=>?_) (λc0=>?_));refine sk (tn (bl (rg (mv U U (z2p U (wi6 oo) (asg U (nl (bn' ?_))))))));exact lpE (n-1) (.c2 U (congrArg (λz=>some (Value.int .i64 z)) (show (n:Int)-1=((n-1:Nat):Int) by omega))) ⟨q1,⟨oo,λj O=>by
  by_cases e:n<=j;exact a4 j e;obtain rfl:j=n-1:=by omega
  exact List.eq_nil_of_length_eq_zero oo⟩⟩ oo
 have a8:=y2p (plB qs) n (by rw[List.length_map];exact hn) (λj O=>by rw[z4g];exact a4 j O) (by
  by_cases e:n=0;exact .inl e;refine .inr λh=>c0 ⟨oo,?_⟩;rw[z4g]at h;rw[h]at a6;rw[a6];rfl)
 refine ex (te (te (xh (tn (sr (mv U U (z1e (m:=n) (c:=n) (iq0) U y6z k1u U (λI w2 b3 M q2 z2=>(asg U (nn (sq (sr (mv U U (mv U U (nn (bl (lpK (ι:=Nat×List IQ) [(0,_),(4,_),(23,_)] (λp=>[(24,.int .i64 (p.1:Int))]) (λp w'=>Fr [I] w2 w'/\p.1<=n/\p.2.length=n/\Lw.Own z7b 27 w0.heap.size w' (.slice (some ⟨I,0,none⟩) n n) p.2/\(∀j,j<p.1->(p.2.getD j iq0).2=(qs.getD j iq0).2)/\PreO 73 (I+1) w' p.2 p.1) (λp=>n-p.1) (0,List.replicate n iq0) (.c4 U U U U) ⟨Fr.refl _ _,⟨Nat.zero_le _,sp0,M.low oo,λj O=>absurd O sp0,PreO.zero⟩⟩ ?_)))))))))))))))));rintro⟨i,ps⟩ w3 ⟨q3,⟨hi,D,M,a0,J⟩⟩;simp only at hi M a0 J D;have z3:=q3.size;refine kpC [(0,_),(4,_),(23,_),(24,.int .i64 (i:Int))] (.c4 U U U U) (sr (lt' U (nn (sq (cd U (λc1=>?_) (λc1=>?_))))));refine sk (tn (sq (bl (sr (mv U U (asg U (nn (rg (mv U U (mv U U (mv U U (mv U U ?_))))))))))));replace Z:=a7.ext (q1.z2 q2 q3);refine z1d (iq0) U Z U y6z z1g (λb0 a3=>?_);refine z1k U (a3 _ Z) z8o ?_;replace hk:=a5.ext (q1.z2 q2 q3);refine cl (ev1 U) x1v (z3t _ (qs.getD i iq0).2 _ (z2f hk i) (by have:=z3o h4 i;omega)) U ?_;rintro _ w4 ⟨a1,rfl,b4,hX,q4⟩;have z4:=q4.size;replace M:=M.ext q4;refine y0h (p:=i) (E:=z7b) U U y6z (z6b (i:=i) ((((some ⟨a1,0,none⟩,(qs.getD i iq0).2.length,(qs.getD i iq0).2.length),(qs.getD i iq0).2):IQ)) U U M oo U u9h (λw5 M q5 z5=>(kpL [(0,_),(4,_),(23,_),(24,_)] (.c4 U U U U) (nl (bn' (tn (rg (z1b U (wi6 oo) (mv U U (nl ?_))))))))));replace J:=(J.ext q4).fr q5 (by intro k hk;simp at hk;omega);replace hX:=hX.fr q5 (by intro k hk hb;simp[z0u]at hk hb;omega);exact lpE ((i+1,ps.set i (((some ⟨a1,0,none⟩,(qs.getD i iq0).2.length,(qs.getD i iq0).2.length),(qs.getD i iq0).2):IQ))) (.c4 U U U U) ⟨((Fr.refl [I] _).z3 q3 q4 q5),⟨sm,by simp only[List.length_set];exact D,M,λj O=>by
  simp only at O ⊢;rw[z1j oo];split;rename_i e;subst e;rfl;exact a0 j oo,J.put oo (hX.low oo)⟩⟩ sm
 obtain rfl:i=n:=by omega
 exact ex (te (te (xh (tn (sr (mv U U (asg U (kpL [(2,_)] (.cons U .nil) (nn (rt (r1 results88 U ⟨_,rfl,⟨ps,⟨D▸M,(D.symm▸J).all oo⟩,u8r hn a8 D a0,I,by rw[D]⟩,(q1.z2 q2 q3)⟩)))))))))))
def PreY (base:Nat)(w:World)(ys:List YQ)(i:Nat):Prop:=∀j,j<i->Lw.Own z2e 97 base w (slv (ys.getD j yq0).pe) (ys.getD j yq0).pes
theorem PreY.ext {base i:Nat}{w w':World}{ys:List YQ}(h:PreY base w ys i)(hf:Fr [] w w'):PreY base w' ys i:=λj D=>(h j D).ext hf
theorem PreY.fr {base i:Nat}{w w':World}{ys:List YQ}{S:List Nat}(h:PreY base w ys i)(hf:Fr S w w')(I:∀k∈S,k<base):PreY base w' ys i:=λj D=>(h j D).fr hf λk M J=>by
 have:=I k M;have:=((h j D).blk k J).1;omega
theorem PreY.put {base i:Nat}{w:World}{ys:List YQ}{q:YQ}(h:PreY base w ys i)(D:i<ys.length)(I:Lw.Own z2e 97 base w (slv q.pe) q.pes):PreY base w (ys.set i q) (i+1):=λj J=>by
 rw[z1j D]
 split
 ·exact I
 exact h j oo
theorem y6g {α:Type}{l:List α}{i:Nat}(d:α)(h:i<l.length):l[i]?=some (l.getD i d):=by rw[List.getD,List.getElem?_eq_getElem h];rfl
theorem y3p {α β:Type}{f:α->β}{l:List α}{i:Nat}{x d:α}(h:f x=f (l.getD i d)):(l.set i x).map f=l.map f:=by
 rw[List.map_set];apply List.ext_getElem?;intro j;rw[List.getElem?_set];split;rename_i e;subst e;split;rename_i D;rw[List.length_map]at D;rw[List.getElem?_map,List.getElem?_eq_getElem D,h,List.getD,List.getElem?_eq_getElem D];rfl;rename_i D;rw[List.getElem?_eq_none oo];rfl
theorem v8x {α:Type}{l m:List α}{i:Nat}{q d:α}(h:∀j,i<=j->l.getD j d=m.getD j d)(D:i<l.length):∀j,i+1<=j->(l.set i q).getD j d=m.getD j d:=λj I=>by
 rw[z1j D,if_neg oo];exact h j oo
theorem y9b (v:Value)(ys:List YQ)(w0:World)(hs:Sl z3a w0 v ys)(hp:YsA w0 ys)(hl:ys.length<=1000)(a3:∀i,(ys.getD i yq0).pes.length<=100000):Rets prog 89 #[v] w0 λr w'=>(∃g ps,r=.slice (some ⟨g,0,none⟩) ys.length ys.length/\w0.heap.size<=g/\YsO τd w0.heap.size w' r ps/\ps.length=ys.length/\ps.map YQ.p=ys.map YQ.p)/\Fr [] w0 w':=by
 obtain⟨A,c,rfl,a7,hM,hA⟩:=id hs;clear hA;unfold maxLen at hM;refine we [(0,.slice A ys.length c)] func89 U ntmps89 U (.cons U .nil) ?_;have a9:=hs;have a2:=hp;refine sr (asg U (nn (sr (mv U U (cl (ev1 U) (mkC func142) (u9x _ ys _ hs oo) U ?_)))));rintro _ w1 ⟨Z,rfl,a8,I,q1⟩;have z1:=q1.size;have a6:=(I.blk Z (by simp[z0u])).2;refine asg U (nn (sq (sr (mv U U (lnS U underlying51 (mv U U (nn (bl (lpK (ι:=Nat×List YQ) [(3,_),(8,_)] (λp=>[(9,.int .i64 (p.1:Int))]) (λp w'=>Fr [Z] w1 w'/\p.1<=ys.length/\Lw.Own z3a 95 w0.heap.size w' (.slice (some ⟨Z,0,none⟩) ys.length ys.length) p.2/\p.2.length=ys.length/\p.2.map YQ.p=ys.map YQ.p/\(∀j,p.1<=j->p.2.getD j yq0=ys.getD j yq0)/\PreY (Z+1) w' p.2 p.1) (λp=>ys.length-p.1) (0,ys) (.c3 U U U) ⟨Fr.refl _ _,⟨Nat.zero_le _,I.low oo,rfl,rfl,λ_ _=>rfl,λj hj=>absurd hj sp0⟩⟩ ?_)))))))));rintro⟨i,ps⟩ w2 ⟨q2,⟨hi,I,D,O,J,M⟩⟩;simp only at hi I D O J M;have z2:=q2.size;refine kpC [(3,_),(8,_),(9,.int .i64 (i:Int))] (.c3 U U U) (sr (lt' U (nn (sq (cd U (λc0=>?_) (λc0=>?_))))));refine sk (tn (sq (bl (sr (mv U U (asg U (nn (rg (mv U U (mv U U (mv U U (mv U U (z1d (yq0) U I.sl U y4n z1g (λa4 a1=>?_))))))))))))));refine fad U y0e (y0y U (a1 _ I.sl) U x4v U ?_);replace hp:=a2.ext (q1.z1 q2);refine cl (ev1 U) (mkC func143) (v7o _ (ys.getD i yq0).pes _ (by rw[J i (Nat.le_refl _)];exact hp i) (a3 i)) U ?_;rintro _ w3 ⟨a0,rfl,a5,hX,q3⟩;have z3:=q3.size;replace I:=I.ext q3;refine y0h (p:=i) (E:=z3a) U U y4n (x3h U y0e U (u1s (E:=z3a) (i:=i) (f:=4) (ys.getD i yq0) ({ (ys.getD i yq0) with pe:=(some ⟨a0,0,none⟩,(ys.getD i yq0).pes.length,(ys.getD i yq0).pes.length) }:YQ) U U I (by rw[<-J i (Nat.le_refl _)];exact y6g _ oo) dd U U U k1i (λw4 I q4 z4=>?_)));refine kpL [(3,_),(8,_),(9,_)] (.c3 U U U) (nl (bn' (tn (rg (z1b U (wi6 oo) (mv U U (nl ?_)))))));replace M:=(M.ext q3).fr q4 (by intro k hk;simp at hk;omega);replace hX:=hX.fr q4 (by intro k hk hb;simp[z0u]at hk hb;omega);exact lpE ((i+1,ps.set i ({ (ys.getD i yq0) with pe:=(some ⟨a0,0,none⟩,(ys.getD i yq0).pes.length,(ys.getD i yq0).pes.length) }:YQ))) (.c3 U U U) ⟨((Fr.refl [Z] _).z3 q2 q3 q4),⟨sm,I,by simp only[List.length_set];exact D,(y3p (d:=yq0) (by rw[J i (Nat.le_refl _)])).trans O,v8x J oo,M.put oo (hX.low oo)⟩⟩ sm;obtain rfl:i=ys.length:=by omega
 exact ex (te (te (xh (tn (sr (mv U U (asg U (nn (rt (r1 results89 U ⟨_,rfl,⟨Z,ps,rfl,oo,⟨D▸I,λj hj=>(M j oo).low oo⟩,D,O⟩,(q1.z1 q2)⟩))))))))))
theorem zv34 (w:World):(zeroValue 34).run prog w=.ok (.slice none 0 0) w:=kr
def PreT (base:Nat)(w:World)(us:List TQ)(i:Nat):Prop:=(∀j,j<i->Lw.Own z6t 107 base w (slv (us.getD j tq0).1) (us.getD j tq0).2)/\(∀j k,j<i->k<i->j≠k->∀b∈z0u (slv (us.getD j tq0).1),b∉z0u (slv (us.getD k tq0).1))/\∀j,j<i->∀q∈(us.getD j tq0).2,LpO τd base w q
theorem PreT.fr {base i:Nat}{w w':World}{us:List TQ}{S:List Nat}(h:PreT base w us i)(hf:Fr S w w')(M:∀k∈S,k<base):PreT base w' us i:=by
 have o:∀ {α:Type} {E:Enc α} {T:Nat} {v:Value} {ys:List α},Lw.Own E T base w v ys->Lw.Own E T base w' v ys:=λI=>I.fr hf λk Z O=>by have:=M k Z;have:=(I.blk k O).1;omega
 exact⟨λj D=>o (h.1 j D),h.2.1,λj D q J=>⟨o (h.2.2 j D q J).1,o (h.2.2 j D q J).2⟩⟩
theorem PreT.put {base i:Nat}{w:World}{us:List TQ}{u:SV}{rs:List LpQ}(h:PreT base w us i)(D:i<us.length)(ho:Lw.Own z6t 107 base w (slv u) rs)(Z:∀q∈rs,LpO τd base w q)(hn:∀j,j<i->∀b∈z0u (slv (us.getD j tq0).1),b∉z0u (slv u)):PreT base w (us.set i (u,rs)) (i+1):=by
 refine⟨λj M=>?_,λj k M hk J=>?_,λj M=>?_⟩;rw[z1j D];split;exact ho;exact h.1 j oo;rw[z1j D,z1j D];split;rw[if_neg oo];exact λb O I=>hn k oo b I O;split;exact hn j oo;exact h.2.1 j k oo oo J;rw[z1j D];split;exact Z;exact h.2.2 j oo
def PreL (base:Nat)(w:World)(rs:List LpQ)(i:Nat):Prop:=∀j,j<i->LpO τd base w (rs.getD j lq0)
theorem PreL.fr {base i:Nat}{w w':World}{rs:List LpQ}{S:List Nat}(h:PreL base w rs i)(hf:Fr S w w')(J:∀k∈S,k<base):PreL base w' rs i:=λj I=>by
 have o:∀ {α:Type} {E:Enc α} {T:Nat} {v:Value} {ys:List α},Lw.Own E T base w v ys->Lw.Own E T base w' v ys:=λD=>D.fr hf λk O M=>by have:=J k O;have:=(D.blk k M).1;omega
 exact⟨o (h j I).1,o (h j I).2⟩
theorem PreL.put {base i:Nat}{w:World}{rs:List LpQ}{x y:LpQ}(h:PreL base w rs i)(D:i<rs.length)(I:LpO τd base w y):PreL base w ((rs.set i x).set i y) (i+1):=λj J=>by
 rw[List.set_set,z1j D]
 split
 ·exact I
 exact h j oo
theorem j7t {base i:Nat}{w:World}{v:Value}{us:List TQ}{u:SV}{r r':List LpQ}(h:Lw.Own z4b 34 base w v (us.set i (u,r))):Lw.Own z4b 34 base w v (us.set i (u,r')):=by
 have e:∀x:List LpQ,(us.set i (u,x)).flatMap z4b.enc=(us.set i (u,r)).flatMap z4b.enc:=λx=>by
  rw[List.flatMap_def,List.flatMap_def,List.map_set,List.map_set];rfl
 rcases h with ⟨D,I⟩|⟨g,cap,cur,D,I,J,M,O,Z,h7⟩
 refine .inl ⟨D,?_⟩;have:=congrArg List.length I;simp only[List.length_set,List.length_nil]at this;exact List.length_eq_zero_iff.1 (by rw[List.length_set];exact this);refine .inr ⟨g,cap,cur,by rw[D];simp,I,J,by simpa using M,O,Z,?_⟩;rw[e r',<-h7];simp
theorem j1x {us ts:List TQ}{i:Nat}{x:TQ}(h:∀j,j<i->(us.getD j tq0).2.map LpQ.p=(ts.getD j tq0).2.map LpQ.p)(D:i<us.length)(I:x.2.map LpQ.p=(ts.getD i tq0).2.map LpQ.p):∀j,j<i+1->((us.set i x).getD j tq0).2.map LpQ.p=(ts.getD j tq0).2.map LpQ.p:=λj J=>by
 rw[z1j D]
 split
 ·rename_i e;subst e;exact I
 exact h j oo
theorem y5z {us ts:List TQ}(hl:us.length=ts.length)(h:∀j,j<ts.length->(us.getD j tq0).2.map LpQ.p=(ts.getD j tq0).2.map LpQ.p):z1r us=z1r ts:=by
 refine List.ext_getElem (by simp[hl]) λj J I=>?_;have D:j<ts.length:=by simpa using I
 have:=h j D;rw[List.getD,List.getD,List.getElem?_eq_getElem oo,List.getElem?_eq_getElem D]at this;simpa using this
theorem PreT.tbo {b base:Nat}{w:World}{v:Value}{us:List TQ}(ho:Lw.Own z4b 34 b w v us)(h:PreT base w us us.length)(hb:b<=base):TbO τd b w v us:=
 ⟨ho,λi D=>(h.1 i D).low hb,λi j D J I=>h.2.1 i j D J I,λi D q M=>(h.2.2 i D q M).low hb⟩
theorem y5d (v:Value)(ts:List TQ)(w0:World)(hs:Sl z4b w0 v ts)(D:TabAt w0 ts)(hl:ts.length<=1000)(c9:∀p∈ts,p.2.length<=100000/\∀q∈p.2,q.ths.length<=100000/\q.pas.length<=100000):Rets prog 90 #[v] w0 λr w'=>(∃g us,r=.slice (some ⟨g,0,none⟩) ts.length ts.length/\w0.heap.size<=g/\TbO τd w0.heap.size w' r us/\us.length=ts.length/\z1r us=z1r ts)/\Fr [] w0 w':=by
 obtain⟨A,c,rfl,g8,hM,hA⟩:=id hs;clear hA;unfold maxLen at hM;refine we [(0,.slice A ts.length c)] func90 U ntmps90 U (.cons U .nil) ?_;have f3:=hs;have b4:=D;refine sr (asg U (nn (sr (mv U U (lnS U underlying53 (z1e (m:=ts.length) (c:=ts.length) (tq0) U y6v zv34 U (λa2 w1 f8 M q1 z1=>?_)))))));have f0:=(M.blk a2 (by simp[z0u])).2;refine asg U (nn (sq (sr (mv U U (lnS U underlying53 (mv U U (nn (bl (lpK (ι:=Nat×List TQ) [(3,_),(11,_),(12,_)] (λp=>[(13,.int .i64 (p.1:Int))]) (λp w'=>Fr [a2] w1 w'/\p.1<=ts.length/\p.2.length=ts.length/\Lw.Own z4b 34 w0.heap.size w' (.slice (some ⟨a2,0,none⟩) ts.length ts.length) p.2/\(∀j,j<p.1->(p.2.getD j tq0).2.map LpQ.p=(ts.getD j tq0).2.map LpQ.p)/\PreT (a2+1) w' p.2 p.1) (λp=>ts.length-p.1) (0,List.replicate ts.length tq0) (.c4 U U U U) ⟨Fr.refl _ _,⟨Nat.zero_le _,sp0,M.low oo,λj hj=>absurd hj sp0,⟨λj hj=>absurd hj sp0,λj k hj=>absurd hj sp0,λj hj=>absurd hj sp0⟩⟩⟩ ?_)))))))));rintro⟨i,us⟩ w2 ⟨q2,⟨hi,a8,M,d6,a7⟩⟩;simp only at hi a8 M d6 a7;have z2:=q2.size;have e6:=a7;refine kpC [(3,_),(11,_),(12,_),(13,.int .i64 (i:Int))] (.c4 U U U U) ?_;have e7:∀j,j<i->∀b∈z0u (slv (us.getD j tq0).1),b<w2.heap.size:=λj hj b hb=>((a7.1 j hj).blk b hb).2;refine sr (lt' U (nn (sq (cd U (λc0=>?_) (λc0=>?_)))));have g3:=z1z (b4 _ (z0z (d:=tq0) (i:=i) oo)).1;have h0:=(c9 _ (z0z (d:=tq0) (i:=i) oo)).1;refine sk (tn (sq (bl (sr (mv U U ?_)))));replace hs:=f3.ext (q1.z1 q2);refine z1d (tq0) U hs U y6v z1g (λf4 e1=>?_);refine z1k U (e1 _ hs) x1q (asg U (asg U (nn (sr (mv U U (mv U U (mv U U ?_)))))));replace D:=b4.ext (q1.z1 q2);refine cl (ev1 U) (mkC func103) (v3o _ (ts.getD i tq0).2 _ (D _ (z0z (d:=tq0) (i:=i) oo)).1 (c9 _ (z0z (d:=tq0) (i:=i) oo)).1) U ?_;rintro _ w3 ⟨O,rfl,f9,Z,q3⟩;have z3:=q3.size;have f1:=(Z.blk O (by simp[z0u])).2;replace M:=M.ext q3;refine y0h (p:=i) (E:=z4b) U U y6v (z6b (i:=i) (((((some ⟨O,0,none⟩,(ts.getD i tq0).2.length,(ts.getD i tq0).2.length):SV),(ts.getD i tq0).2):TQ)) U U M oo U k1l (λw4 M q4 z4=>?_));obtain⟨b7,d0⟩:∃u,u=us.set i (((some ⟨O,0,none⟩,(ts.getD i tq0).2.length,(ts.getD i tq0).2.length):SV),(ts.getD i tq0).2):=⟨_,rfl⟩;rw[<-d0]at M;have d7:b7.getD i tq0=(((some ⟨O,0,none⟩,(ts.getD i tq0).2.length,(ts.getD i tq0).2.length):SV),(ts.getD i tq0).2):=by rw[d0,z1j oo,if_pos U]
 have d1:(b7.getD i tq0).1.1=some ⟨O,0,none⟩:=by rw[d7]
 have d3:(b7.getD i tq0).1.2.1=(ts.getD i tq0).2.length:=by rw[d7]
 have d4:(b7.getD i tq0).1.2.2=(ts.getD i tq0).2.length:=by rw[d7]
 have g6:b7.length=ts.length:=by rw[d0,List.length_set];exact a8
 refine nn (sr (mv U U (lnS U underlying34 (mv U U (nn (bl ?_))))));replace Z:=Z.fr q4 (by intro k D hb;simp[z0u]at D hb;omega);refine lpK (ι:=Nat×List LpQ) [(3,_),(4,_),(11,_),(12,_),(13,_),(23,_),(24,_)] (λp=>[(25,.int .i64 (p.1:Int))]) (λp w'=>Fr [O] w4 w'/\p.1<=(ts.getD i tq0).2.length/\p.2.length=(ts.getD i tq0).2.length/\Lw.Own z6t 107 (a2+1) w' (.slice (some ⟨O,0,none⟩) (ts.getD i tq0).2.length (ts.getD i tq0).2.length) p.2/\p.2.map LpQ.p=(ts.getD i tq0).2.map LpQ.p/\(∀j,p.1<=j->p.2.getD j lq0=(ts.getD i tq0).2.getD j lq0)/\PreL (O+1) w' p.2 p.1) (λp=>(ts.getD i tq0).2.length-p.1) (0,(ts.getD i tq0).2) (.c8 U U U U U U U U) ⟨Fr.refl _ _,⟨Nat.zero_le _,rfl,Z.low oo,rfl,λ_ _=>rfl,λj hj=>absurd hj sp0⟩⟩ ?_;rintro⟨J,rs⟩ w5 ⟨q5,⟨hj,b9,Z,d5,b8,b6⟩⟩;simp only at hj b9 Z d5 b8 b6;have z5:=q5.size;have e5:=b6;refine kpC [(3,_),(4,_),(11,_),(12,_),(13,_),(23,_),(24,_),(25,.int .i64 (J:Int))] (.c8 U U U U U U U U) (sr (lt' U (nn (sq (cd U (λc1=>?_) (λc1=>?_))))));refine sk (tn (sq (bl (sr (mv U U ?_)))));replace D:=b4.ext (q1.z4 q2 q3 q4 q5);refine z1d (lq0) U (D _ (z0z (d:=tq0) (i:=i) oo)).1 U v2r z1g (λf5 e2=>?_);refine z1l U (e2 _ (D _ (z0z (d:=tq0) (i:=i) oo)).1) x2h (al x6b U (λg7 w6 g9 I q6 z6=>?_));refine asg U (z0k (vs:=[_,_,_,_]) U I v2l (λw7 I q7 z7=>?_) (h1:=(by first|(simp[Value.oneCell',S];done)|exact z4b.one (ts.getD i tq0))));refine nn (sq ?_);replace D:=b4.ext (q1.z6 q2 q3 q4 q5 q6 q7);replace M:=((M.fr q5 (by intro k D hb;simp[z0u]at D hb;omega)).ext q6).fr q7 (by intro k D hb;simp[z0u]at D hb;omega);replace Z:=(Z.ext q6).fr q7 (by intro k D hb;simp[z0u]at D hb;omega);intro a h;refine z0h (some 10) (λwb w'=>Fr [] wb w') z2m ?_;intro w8 q8;have z8:=q8.size;replace D:=D.ext q8;replace M:=M.ext q8;replace Z:=Z.ext q8;replace I:=I.ext q8;have hC:Fr [] w8 w8:=Fr.refl _ _;have b5:=D;have a3:=M;have b3:=Z;have a0:=I;refine z0e 0 h U λa h=>z0e 1 h U λa h=>z1i (p:=i) (tq0) 2 h U M.sl U y6v U λf6 e3 a h=>z2x 3 h wn U (λ_ hw=>e3 _ ((a3.ext hw).sl)) x1q U λa h=>?_;rw[d1,d3,d4]at h;refine z0e 4 h U λa h=>z0c 5 h U z6m U λa h=>z0j 6 h U (λ_ hw=>a0.ext hw) U z8o U λa h=>z0d 7 U (z0o h (z0a U z0f) x1v (z3t _ ((ts.getD i tq0).2.getD J lq0).ths _ ((D _ (z0z (d:=tq0) (i:=i) oo)).2 _ (z0z oo)).1 ((c9 _ (z0z (d:=tq0) (i:=i) oo)).2 _ (z0z oo)).1) ?_);rintro _ w9 ⟨a9,rfl,g0,hX,q9⟩ a h;have z9:=q9.size;replace D:=D.ext q9;replace M:=M.ext q9;replace Z:=Z.ext q9;replace I:=I.ext q9;replace hC:=hC.next q9;refine z0b (z1p 8 kr kr kr hC (p:=J) h wn U v2r oo oo oo U U λa h=>z5y 9 h U z6m U λa h=>z0d 10 U (y6b (E:=z6t) (i:=J) (f:=2) (((ts.getD i tq0).2.getD J lq0)) ({ ((ts.getD i tq0).2.getD J lq0) with th:=(some ⟨a9,0,none⟩,((ts.getD i tq0).2.getD J lq0).ths.length,((ts.getD i tq0).2.getD J lq0).ths.length) }:LpQ) h U U Z (by rw[<-b8 J (Nat.le_refl _)];exact y6g _ oo) dd U U U u9h λh2 b0 a5 _hz a h=>?_));have h5:=a5.size;replace M:=M.fr a5 (by intro k D hb;simp[z0u]at D hb;omega);replace I:=I.fr a5;replace hX:=hX.fr a5 (by intro k D hb;simp[z0u]at D hb;omega);clear _hz Z;have Z:=b0;clear b0;refine z1m (z0p ?_);clear hC b5 a3 b3 a0;refine bk (h.sub (L':=[(3,_),(4,_),(6,_),(7,_),(11,_),(12,_),(13,_),(23,_),(24,_),(25,_)]) (.d8 U U U U U U U U (.c2 U U))) (tn ?_);replace D:=b4.ext ((((q1.z6 q2 q3 q4 q5 q6 q7).n1 q8).n1 q9).z1 a5);intro a h;refine z0h (some 10) (λwb w'=>Fr [] wb w') z2m ?_;intro e8 a4;have h6:=a4.size;replace D:=D.ext a4;replace M:=M.ext a4;replace Z:=Z.ext a4;replace I:=I.ext a4;replace hX:=hX.ext a4;have hC:Fr [] e8 e8:=Fr.refl _ _;have b5:=D;have a3:=M;have b3:=Z;have a0:=I;have e0:=hX;refine z0e 0 h U λa h=>z0e 1 h U λa h=>z1i (p:=i) (tq0) 2 h U M.sl U y6v U λf7 e4 a h=>z2x 3 h wn U (λ_ hw=>e4 _ ((a3.ext hw).sl)) x1q U λa h=>?_;rw[d1,d3,d4]at h;refine z0e 4 h U λa h=>z0c 5 h U z9b U λa h=>z0j 6 h U (λ_ hw=>a0.ext hw) U x4v U λa h=>z0d 7 U (z0o h (z0a U z0f) (mkC func143) (v7o _ ((ts.getD i tq0).2.getD J lq0).pas _ ((D _ (z0z (d:=tq0) (i:=i) oo)).2 _ (z0z oo)).2 ((c9 _ (z0z (d:=tq0) (i:=i) oo)).2 _ (z0z oo)).2) ?_);rintro _ h3 ⟨d9,rfl,g1,hY,a1⟩ a h;have h7:=a1.size;replace D:=D.ext a1;replace M:=M.ext a1;replace Z:=Z.ext a1;replace I:=I.ext a1;replace hX:=hX.ext a1;replace hC:=hC.next a1;refine z0b (z1p 8 kr kr kr hC (p:=J) h wn U v2r oo oo oo U U λa h=>z5y 9 h U z9b U λa h=>z0d 10 U (y6b (E:=z6t) (i:=J) (f:=3) (({ ((ts.getD i tq0).2.getD J lq0) with th:=(some ⟨a9,0,none⟩,((ts.getD i tq0).2.getD J lq0).ths.length,((ts.getD i tq0).2.getD J lq0).ths.length) }:LpQ)) ({ ((ts.getD i tq0).2.getD J lq0) with th:=(some ⟨a9,0,none⟩,((ts.getD i tq0).2.getD J lq0).ths.length,((ts.getD i tq0).2.getD J lq0).ths.length),pa:=(some ⟨d9,0,none⟩,((ts.getD i tq0).2.getD J lq0).pas.length,((ts.getD i tq0).2.getD J lq0).pas.length) }:LpQ) h U U Z (by rw[y6g lq0 (by rw[List.length_set];omega),z1j oo,if_pos U]) dd U U U k1i λh4 b0 a6 _hz a h=>?_));have h8:=a6.size;replace M:=M.fr a6 (by intro k D hb;simp[z0u]at D hb;omega);replace I:=I.fr a6;replace hX:=hX.fr a6 (by intro k D hb;simp[z0u]at D hb;omega);replace hY:=hY.fr a6 (by intro k D hb;simp[z0u]at D hb;omega);clear _hz Z;have Z:=b0;clear b0;refine z1m (z0p ?_);clear hC b5 a3 b3 a0 e0;refine bk (h.sub (L':=[(3,_),(4,_),(11,_),(12,_),(13,_),(23,_),(24,_),(25,_)]) (.c8 U U U U U U U U)) (bn' (tn (rg (z1b U (wi6 oo) (mv U U (nl ?_))))));replace b6:=e5.fr ((((Fr.refl [O] _).z6 q6 q7 q8 q9 a5 a4).n1 a1).z1 a6) (by intro k D;simp at D;omega);exact lpE ((J+1,(rs.set J ({ ((ts.getD i tq0).2.getD J lq0) with th:=(some ⟨a9,0,none⟩,((ts.getD i tq0).2.getD J lq0).ths.length,((ts.getD i tq0).2.getD J lq0).ths.length) }:LpQ)).set J ({ ((ts.getD i tq0).2.getD J lq0) with th:=(some ⟨a9,0,none⟩,((ts.getD i tq0).2.getD J lq0).ths.length,((ts.getD i tq0).2.getD J lq0).ths.length),pa:=(some ⟨d9,0,none⟩,((ts.getD i tq0).2.getD J lq0).pas.length,((ts.getD i tq0).2.getD J lq0).pas.length) }:LpQ))) (.c8 U U U U U U U U) ⟨((((Fr.refl [O] _).z6 q5 q6 q7 q8 q9 a5).n1 a4).z2 a1 a6),⟨sm,by simp only[List.length_set];exact b9,Z,by rw[List.set_set];exact(y3p (d:=lq0) (by rw[b8 J (Nat.le_refl _)])).trans d5,λj f2=>by
  simp only at f2 ⊢;rw[List.set_set,z1j oo,if_neg oo];exact b8 j oo,b6.put oo ⟨hX.low oo,hY.low oo⟩⟩⟩ sm
 obtain rfl:J=(ts.getD i tq0).2.length:=by omega
 refine ex (te (te (xh (bn' (tn (rg (z1b U (wi6 oo) (mv U U (kpL [(3,_),(11,_),(12,_),(13,_)] (.c4 U U U U) (nl ?_))))))))));replace a7:=e6.fr ((Fr.refl [a2] _).z3 q3 q4 q5) (by intro k D;simp at D;omega);replace M:=M.fr q5 (by intro k D hb;simp[z0u]at D hb;omega);exact lpE ((i+1,us.set i (((some ⟨O,0,none⟩,(ts.getD i tq0).2.length,(ts.getD i tq0).2.length):SV),rs))) (.c4 U U U U) ⟨((Fr.refl [a2] _).z4 q2 q3 q4 q5),⟨sm,by simp only[List.length_set];exact a8,j7t (d0▸M),j1x d6 oo d5,a7.put oo (by rw[show slv ((some ⟨O,0,none⟩,(ts.getD i tq0).2.length,(ts.getD i tq0).2.length):SV)=(.slice (some ⟨O,0,none⟩) rs.length rs.length) by rw[b9];rfl];exact(b9.symm▸Z).low oo) (λq hq=>by
  obtain⟨j,hj,rfl⟩:=List.getElem_of_mem hq;have:=b6 j oo;rw[List.getD,List.getElem?_eq_getElem hj]at this;exact this.low oo) (λj hj b hb e9=>by have:=e7 j hj b hb;simp[z0u,slv]at e9;omega)⟩⟩ sm
 obtain rfl:i=ts.length:=by omega
 exact ex (te (te (xh (tn (sr (mv U U (asg U (kpL [(2,_)] (.cons U .nil) (nn (rt (r1 results90 U ⟨_,rfl,⟨a2,us,rfl,oo,PreT.tbo M (a8.symm▸a7) oo,a8,y5z a8 d6⟩,(q1.z1 q2)⟩)))))))))))
theorem v2i:BuildAt prog 183 [(0,1),(1,2),(3,1),(4,1),(5,1),(6,1)] [(.int .i64 0),(.slice none 0 0),(.slice none 0 0),(.slice none 0 0),(.slice none 0 0),(.map none),(.slice none 0 0)]:=BuildAt.struct underlying183 (λ_=>kr) (λ_=>kr)
theorem j9k:CallOf prog 88:=mkC func88
theorem j8o:CallOf prog 90:=mkC func90
theorem x7l:z0y prog 57 0 0:=λ_ _=>kr
theorem x7p:z0y prog 57 1 1:=λ_ _=>kr
theorem x8v:z0y prog 57 2 3:=λ_ _=>kr
theorem y0k:z0y prog 57 3 4:=λ_ _=>kr
structure StSz (s:StQ):Prop where
  bf:s.q.fs.length<=40
  bb:s.q.bs.length<=40
  f4:y0b s.q.fs
  b4:y0b s.q.bs
  ly:s.ys.length=6
  lt:s.fb.ts.length=6
  pe:∀i,(s.ys.getD i yq0).pes.length<=100000
  tb:∀p∈s.fb.ts,p.2.length<=100000/\∀q∈p.2,q.ths.length<=100000/\q.pas.length<=100000
  fl:s.fb.fs.length<=100000
  cs:s.fb.cs.length<=100000000
  hs:s.fb.hs.length<=100000
theorem y2m {τ:TyK}{b base:Nat}{w:World}{v:Value}{ys:List YQ}(h:YsO τ base w v ys)(hb:b<=base):YsO τ b w v ys:=⟨h.out.low hb,λi D=>(h.ins i D).low hb⟩
theorem y3l {τ:TyK}{b base:Nat}{w:World}{v:Value}{ts:List TQ}(h:TbO τ base w v ts)(hb:b<=base):TbO τ b w v ts:=⟨h.out.low hb,λi D=>(h.ins i D).low hb,h.off,λi D q I=>⟨(h.lps i D q I).1.low hb,(h.lps i D q I).2.low hb⟩⟩
theorem j3m (s:StQ)(w0:World)(I:StAt w0 s)(D:StSz s)(g6:(s.fb.cs.map cxK).Nodup):Rets prog 39 #[.agg #[.int .i64 s.rk,.slice s.q.f.1 s.q.f.2.1 s.q.f.2.2,.slice s.q.b.1 s.q.b.2.1 s.q.b.2.2,.slice s.yv.1 s.yv.2.1 s.yv.2.2,.slice s.fb.t.1 s.fb.t.2.1 s.fb.t.2.2,.slice s.fb.c.1 s.fb.c.2.1 s.fb.c.2.2,.slice s.fb.h.1 s.fb.h.2.1 s.fb.h.2.2,.slice s.fb.f.1 s.fb.f.2.1 s.fb.f.2.2]] w0 λr w'=>∃ka m,r=.pointer (some ⟨ka.gk,0,none⟩)/\MkM τd 183 w0 ka w' m/\m.p=(⟨s.rk,⟨trimB (plB s.q.fs),trimB (plB s.q.bs)⟩,s.ys.map YQ.p,z1r s.fb.ts,s.fb.cs,s.fb.fs⟩:MSt):=by
 have i0:=z1z I.f.c;have i1:=D.cs;refine we [(0,.agg #[.int .i64 s.rk,.slice s.q.f.1 s.q.f.2.1 s.q.f.2.2,.slice s.q.b.1 s.q.b.2.1 s.q.b.2.2,.slice s.yv.1 s.yv.2.1 s.yv.2.2,.slice s.fb.t.1 s.fb.t.2.1 s.fb.t.2.2,.slice s.fb.c.1 s.fb.c.2.1 s.fb.c.2.2,.slice s.fb.h.1 s.fb.h.2.1 s.fb.h.2.2,.slice s.fb.f.1 s.fb.f.2.1 s.fb.f.2.2])] func39 U ntmps39 U (.cons U .nil) ?_;have f2:=I;refine sr (bx U (λg1 w1 i2 J q1 z1=>(asg U (nn (jn (ι:=MA) [(1,_)] (λka=>[(3,.pointer (some ⟨ka.gk,0,none⟩))]) (λka w'=>Fr [] w1 w'/\∃m:MQ,MkM τd 183 w0 ka w' m/\m.p=(⟨s.rk,⟨trimB (plB s.q.fs),trimB (plB s.q.bs)⟩,s.ys.map YQ.p,z1r s.fb.ts,[],s.fb.fs⟩:MSt)) (.cons U .nil) ?_ ?_)))));replace I:=f2.ext q1;intro a h;refine z0h none (λwb w'=>Fr [] wb w') z2m ?_;intro w2 q2;have z2:=q2.size;replace I:=I.ext q2;replace J:=J.ext q2;have hC:Fr [] w2 w2:=Fr.refl _ _;have c1:=I;have Z:=J;refine z0c 0 h U x7l U λa h=>z0j 1 h U (λ_ hw=>Z.ext hw) U na3 U λa h=>z0c 2 h U x7p U λa h=>z5y 3 h U y8h U λa h=>z0j 4 h U (λ_ hw=>Z.ext hw) U v0x U λa h=>z0c 6 h U x7p U λa h=>z5y 7 h U y3x U λa h=>z0j 8 h U (λ_ hw=>Z.ext hw) U v0x U λa h=>z0c 11 h U x8v U λa h=>z0j 12 h U (λ_ hw=>Z.ext hw) U y4d U λa h=>z0c 14 h U y0k U λa h=>z5y 15 h U y0j U λa h=>z0j 16 h U (λ_ hw=>Z.ext hw) U x4q U λa h=>z0c 18 h U y0k U λa h=>z5y 19 h U x8d U λa h=>z0j 20 h U (λ_ hw=>Z.ext hw) U k0t U λa h=>z6p 21 h wn U underlying36 U λa h=>z0c 23 h U y0k U λa h=>z5y 24 h U y8e U λa h=>z0j 25 h U (λ_ hw=>Z.ext hw) U z8o U λa h=>z1x 5 22 kr U ?_ ?_;refine z0o h (z0a U z0f) j9k (y5j _ s.q.fs _ I.b.f I.b.fi D.bf D.f4) ?_;rintro _ w3 ⟨⟨f1,O,e0,gF,rfl⟩,q3⟩ a h;have z3:=q3.size;replace I:=I.ext q3;replace J:=J.ext q3;replace hC:=hC.next q3;have d9:∀x∈f1,∀k∈z0u (slv x.1),k<w3.heap.size:=λx hx k hk=>((O.2 x hx).blk k hk).2;refine z0b (z1x 9 22 kr U ?_ ?_);refine z0o h (z0a U z0f) j9k (y5j _ s.q.bs _ I.b.b I.b.bi D.bb D.b4) ?_;rintro _ w4 ⟨⟨e3,M,d6,gB,rfl⟩,q4⟩ a h;have z4:=q4.size;replace I:=I.ext q4;replace J:=J.ext q4;replace O:=O.ext q4;replace hC:=hC.next q4;have d5:∀x∈e3,∀k∈z0u (slv x.1),k<w4.heap.size:=λx hx k hk=>((M.2 x hx).blk k hk).2;refine z0b (z2z (cs:=[_,_]) 10 h (z0a U (z0a U z0f)) j5g (z0g U (z0g U z0s)) U U λa h=>z1x 13 22 kr U ?_ ?_);refine z0o h (z0a U z0f) (mkC func89) (y9b _ s.ys _ I.y I.ya (by have:=D.ly;omega) D.pe) ?_;rintro _ w5 ⟨⟨gy,ps,rfl,f3,hY,d0,d1⟩,q5⟩ a h;have z5:=q5.size;replace I:=I.ext q5;replace J:=J.ext q5;replace O:=O.ext q5;replace M:=M.ext q5;replace hC:=hC.next q5;refine z0b (z1x 17 22 kr U ?_ ?_);refine z0o h (z0a U z0f) j8o (y5d _ s.fb.ts _ I.f.t I.f.tt (by have:=D.lt;omega) D.tb) ?_;rintro _ w6 ⟨⟨gt,us,rfl,e8,hT,a7,a6⟩,q6⟩ a h;have z6:=q6.size;replace I:=I.ext q6;replace J:=J.ext q6;replace O:=O.ext q6;replace M:=M.ext q6;replace hY:=hY.ext q6;replace hC:=hC.next q6;have a5:∀i,i<us.length->∀q∈(us.getD i tq0).2,∀k∈z0u (slv q.th),k<w6.heap.size:=λi hi q hq k hk=>((hT.lps i hi q hq).1.blk k hk).2;refine z0b (z1x 22 26 kr U ?_ ?_);refine z4l (K:=184) (E:=3) crK h U underlying181 U λgm w7 e6 a2 q7 _hz a h=>?_;have z7:=q7.size;replace I:=I.ext q7;replace hC:=hC.next q7;clear _hz;refine z0b (z0d 26 U (z0o h (z0a U z0f) x1v (z3t _ s.fb.fs _ I.f.f D.fl) ?_));rintro _ w8 ⟨gf,rfl,e5,a3,q8⟩ a h;have z8:=q8.size;replace J:=J.ext (q7.n1 q8);replace hC:=hC.next q8;refine z0b (z2z (cs:=[_,_,_,_,_,_,_]) 27 h (z0a U (z0a U (z0a U (z0a U (z0a U (z0a U z0f)))))) v2i (z0g U (z0g U (z0g U (z0g U (z0g U (z0g U z0s)))))) U U λa h=>z0d 28 U ?_);refine y6e h U U U λw9 a1 q9 hz a h=>?_;obtain⟨a0,hg⟩:∃g,g=w8.heap.size:=⟨_,rfl⟩;rw[<-hg]at a1 h hz;have a4:g1<a0:=by have:=J.lt;omega
 have z9:=q9.size;replace O:=O.ext (q7.n2 q8 q9);replace M:=M.ext (q7.n2 q8 q9);replace hY:=hY.ext (q7.n2 q8 q9);replace hT:=hT.ext (q7.n2 q8 q9);replace a2:=a2.ext (q8.n1 q9);replace a3:=a3.ext q9;replace hC:=hC.next q9;refine z0b (z0d 29 U (z0r h U λa h=>?_));refine z0b (z0p ?_);clear hC c1 Z;exact bk (h.sub (L':=[(1,_),(3,_)]) (.c2 U U)) (jE ((⟨a0,gy,6,gt,6,gm,_⟩:MA)) (.c2 U U) ⟨((q2.n6 q3 q4 q5 q6 q7 q8).n1 q9),(y7g a1 (O.low oo) (M.low oo) (y2m hY oo) d0 d1 (y3l hT oo) a7 a6 a2 (a3.low oo) D.ly D.lt (((q1.n6 q2 q3 q4 q5 q6 q7).n1 q8).n1 q9) oo oo (λx hx hb=>by rcases List.mem_append.1 hx with k|k;have:=d9 x k _ hb;omega;have:=d5 x k _ hb;omega) (λi hi q hq hb=>by have:=a5 i (by have:=D.lt;omega) q hq _ hb;omega) e0 d6)⟩);refine z0o h (z0a U z0f) x1v (z3t _ s.fb.fs _ I.f.f D.fl) ?_;rintro _ i5 ⟨gf,rfl,e5,a3,d3⟩ a h;have k5:=d3.size;replace hC:=hC.next d3;refine z0b (z0d 22 U (z4l (K:=184) (E:=3) crK h U underlying181 U λgm g7 e6 a2 a8 _hz a h=>?_));have k6:=a8.size;replace J:=J.ext (d3.n1 a8);replace hC:=hC.next a8;clear _hz;refine z0b (z2z (cs:=[_,_,_,_,_,_,_]) 27 h (z0a U (z0a U (z0a U (z0a U (z0a U (z0a U z0f)))))) v2i (z0g U (z0g U (z0g U (z0g U (z0g U (z0g U z0s)))))) U U λa h=>z0d 28 U ?_);refine y6e h U U U λi7 a1 a9 hz a h=>?_;obtain⟨a0,hg⟩:∃g,g=g7.heap.size:=⟨_,rfl⟩;rw[<-hg]at a1 h hz;have a4:g1<a0:=by have:=J.lt;omega
 have k7:=a9.size;replace O:=O.ext (d3.n2 a8 a9);replace M:=M.ext (d3.n2 a8 a9);replace hY:=hY.ext (d3.n2 a8 a9);replace hT:=hT.ext (d3.n2 a8 a9);replace a3:=a3.ext (a8.n1 a9);replace a2:=a2.ext a9;replace hC:=hC.next a9;refine z0b (z0d 29 U (z0r h U λa h=>?_));refine z0b (z0p ?_);clear hC c1 Z;exact bk (h.sub (L':=[(1,_),(3,_)]) (.c2 U U)) (jE ((⟨a0,gy,6,gt,6,gm,_⟩:MA)) (.c2 U U) ⟨((q2.n6 q3 q4 q5 q6 d3 a8).n1 a9),(y7g a1 (O.low oo) (M.low oo) (y2m hY oo) d0 d1 (y3l hT oo) a7 a6 a2 (a3.low oo) D.ly D.lt (((q1.n6 q2 q3 q4 q5 q6 d3).n1 a8).n1 a9) oo oo (λx hx hb=>by rcases List.mem_append.1 hx with k|k;have:=d9 x k _ hb;omega;have:=d5 x k _ hb;omega) (λi hi q hq hb=>by have:=a5 i (by have:=D.lt;omega) q hq _ hb;omega) e0 d6)⟩);refine z4l (K:=184) (E:=3) crK h U underlying181 U λgm i8 e6 a2 d4 _hz a h=>?_;have k8:=d4.size;replace I:=I.ext d4;replace hC:=hC.next d4;clear _hz;refine z0b (z0d 17 U (z0o h (z0a U z0f) j8o (y5d _ s.fb.ts _ I.f.t I.f.tt (by have:=D.lt;omega) D.tb) ?_));rintro _ g8 ⟨⟨gt,us,rfl,e8,hT,a7,a6⟩,q14⟩ a h;have k9:=q14.size;replace I:=I.ext q14;replace hC:=hC.next q14;have a5:∀i,i<us.length->∀q∈(us.getD i tq0).2,∀k∈z0u (slv q.th),k<g8.heap.size:=λi hi q hq k hk=>((hT.lps i hi q hq).1.blk k hk).2;refine z0b (z0d 26 U (z0o h (z0a U z0f) x1v (z3t _ s.fb.fs _ I.f.f D.fl) ?_));rintro _ g9 ⟨gf,rfl,e5,a3,b0⟩ a h;have l0:=b0.size;replace J:=J.ext (d4.n2 q14 b0);replace hC:=hC.next b0;refine z0b (z2z (cs:=[_,_,_,_,_,_,_]) 27 h (z0a U (z0a U (z0a U (z0a U (z0a U (z0a U z0f)))))) v2i (z0g U (z0g U (z0g U (z0g U (z0g U (z0g U z0s)))))) U U λa h=>z0d 28 U ?_);refine y6e h U U U λi9 a1 b3 hz a h=>?_;obtain⟨a0,hg⟩:∃g,g=g9.heap.size:=⟨_,rfl⟩;rw[<-hg]at a1 h hz;have a4:g1<a0:=by have:=J.lt;omega
 have l1:=b3.size;replace O:=O.ext (d4.n3 q14 b0 b3);replace M:=M.ext (d4.n3 q14 b0 b3);replace hY:=hY.ext (d4.n3 q14 b0 b3);replace a2:=a2.ext (q14.n2 b0 b3);replace hT:=hT.ext (b0.n1 b3);replace a3:=a3.ext b3;replace hC:=hC.next b3;refine z0b (z0d 29 U (z0r h U λa h=>?_));refine z0b (z0p ?_);clear hC c1 Z;exact bk (h.sub (L':=[(1,_),(3,_)]) (.c2 U U)) (jE ((⟨a0,gy,6,gt,6,gm,_⟩:MA)) (.c2 U U) ⟨((q2.n6 q3 q4 q5 d4 q14 b0).n1 b3),(y7g a1 (O.low oo) (M.low oo) (y2m hY oo) d0 d1 (y3l hT oo) a7 a6 a2 (a3.low oo) D.ly D.lt (((q1.n6 q2 q3 q4 q5 d4 q14).n1 b0).n1 b3) oo oo (λx hx hb=>by rcases List.mem_append.1 hx with k|k;have:=d9 x k _ hb;omega;have:=d5 x k _ hb;omega) (λi hi q hq hb=>by have:=a5 i (by have:=D.lt;omega) q hq _ hb;omega) e0 d6)⟩);refine z4l (K:=184) (E:=3) crK h U underlying181 U λgm j0 e6 a2 d7 _hz a h=>?_;have l2:=d7.size;replace I:=I.ext d7;replace hC:=hC.next d7;clear _hz;refine z0b (z0d 13 U (z0o h (z0a U z0f) (mkC func89) (y9b _ s.ys _ I.y I.ya (by have:=D.ly;omega) D.pe) ?_));rintro _ j1 ⟨⟨gy,ps,rfl,f3,hY,d0,d1⟩,q18⟩ a h;have l3:=q18.size;replace I:=I.ext q18;replace hC:=hC.next q18;refine z0b (z0d 17 U (z0o h (z0a U z0f) j8o (y5d _ s.fb.ts _ I.f.t I.f.tt (by have:=D.lt;omega) D.tb) ?_));rintro _ h0 ⟨⟨gt,us,rfl,e8,hT,a7,a6⟩,q19⟩ a h;have l4:=q19.size;replace I:=I.ext q19;replace hC:=hC.next q19;have a5:∀i,i<us.length->∀q∈(us.getD i tq0).2,∀k∈z0u (slv q.th),k<h0.heap.size:=λi hi q hq k hk=>((hT.lps i hi q hq).1.blk k hk).2;refine z0b (z0d 26 U (z0o h (z0a U z0f) x1v (z3t _ s.fb.fs _ I.f.f D.fl) ?_));rintro _ h1 ⟨gf,rfl,e5,a3,b4⟩ a h;have l5:=b4.size;replace J:=J.ext (d7.n3 q18 q19 b4);replace hC:=hC.next b4;refine z0b (z2z (cs:=[_,_,_,_,_,_,_]) 27 h (z0a U (z0a U (z0a U (z0a U (z0a U (z0a U z0f)))))) v2i (z0g U (z0g U (z0g U (z0g U (z0g U (z0g U z0s)))))) U U λa h=>z0d 28 U ?_);refine y6e h U U U λj2 a1 b5 hz a h=>?_;obtain⟨a0,hg⟩:∃g,g=h1.heap.size:=⟨_,rfl⟩;rw[<-hg]at a1 h hz;have a4:g1<a0:=by have:=J.lt;omega
 have l6:=b5.size;replace O:=O.ext (d7.n4 q18 q19 b4 b5);replace M:=M.ext (d7.n4 q18 q19 b4 b5);replace a2:=a2.ext (q18.n3 q19 b4 b5);replace hY:=hY.ext (q19.n2 b4 b5);replace hT:=hT.ext (b4.n1 b5);replace a3:=a3.ext b5;replace hC:=hC.next b5;refine z0b (z0d 29 U (z0r h U λa h=>?_));refine z0b (z0p ?_);clear hC c1 Z;exact bk (h.sub (L':=[(1,_),(3,_)]) (.c2 U U)) (jE ((⟨a0,gy,6,gt,6,gm,_⟩:MA)) (.c2 U U) ⟨((q2.n6 q3 q4 d7 q18 q19 b4).n1 b5),(y7g a1 (O.low oo) (M.low oo) (y2m hY oo) d0 d1 (y3l hT oo) a7 a6 a2 (a3.low oo) D.ly D.lt (((q1.n6 q2 q3 q4 d7 q18 q19).n1 b4).n1 b5) oo oo (λx hx hb=>by rcases List.mem_append.1 hx with k|k;have:=d9 x k _ hb;omega;have:=d5 x k _ hb;omega) (λi hi q hq hb=>by have:=a5 i (by have:=D.lt;omega) q hq _ hb;omega) e0 d6)⟩);refine z4l (K:=184) (E:=3) crK h U underlying181 U λgm j3 e6 a2 e1 _hz a h=>?_;have l7:=e1.size;replace I:=I.ext e1;replace hC:=hC.next e1;clear _hz;refine z0b (z0d 9 U (z0o h (z0a U z0f) j9k (y5j _ s.q.bs _ I.b.b I.b.bi D.bb D.b4) ?_));rintro _ h2 ⟨⟨e3,M,d6,gB,rfl⟩,q23⟩ a h;have l8:=q23.size;replace I:=I.ext q23;replace hC:=hC.next q23;have d5:∀x∈e3,∀k∈z0u (slv x.1),k<h2.heap.size:=λx hx k hk=>((M.2 x hx).blk k hk).2;refine z0b (z2z (cs:=[_,_]) 10 h (z0a U (z0a U z0f)) j5g (z0g U (z0g U z0s)) U U λa h=>z0d 13 U ?_);refine z0o h (z0a U z0f) (mkC func89) (y9b _ s.ys _ I.y I.ya (by have:=D.ly;omega) D.pe) ?_;rintro _ j4 ⟨⟨gy,ps,rfl,f3,hY,d0,d1⟩,q24⟩ a h;have l9:=q24.size;replace I:=I.ext q24;replace hC:=hC.next q24;refine z0b (z0d 17 U (z0o h (z0a U z0f) j8o (y5d _ s.fb.ts _ I.f.t I.f.tt (by have:=D.lt;omega) D.tb) ?_));rintro _ h3 ⟨⟨gt,us,rfl,e8,hT,a7,a6⟩,q25⟩ a h;have m0:=q25.size;replace I:=I.ext q25;replace hC:=hC.next q25;have a5:∀i,i<us.length->∀q∈(us.getD i tq0).2,∀k∈z0u (slv q.th),k<h3.heap.size:=λi hi q hq k hk=>((hT.lps i hi q hq).1.blk k hk).2;refine z0b (z0d 26 U (z0o h (z0a U z0f) x1v (z3t _ s.fb.fs _ I.f.f D.fl) ?_));rintro _ h4 ⟨gf,rfl,e5,a3,b6⟩ a h;have m4:=b6.size;replace J:=J.ext (e1.n4 q23 q24 q25 b6);replace hC:=hC.next b6;refine z0b (z2z (cs:=[_,_,_,_,_,_,_]) 27 h (z0a U (z0a U (z0a U (z0a U (z0a U (z0a U z0f)))))) v2i (z0g U (z0g U (z0g U (z0g U (z0g U (z0g U z0s)))))) U U λa h=>z0d 28 U ?_);refine y6e h U U U λj5 a1 b7 hz a h=>?_;obtain⟨a0,hg⟩:∃g,g=h4.heap.size:=⟨_,rfl⟩;rw[<-hg]at a1 h hz;have a4:g1<a0:=by have:=J.lt;omega
 have m5:=b7.size;replace O:=O.ext (e1.n5 q23 q24 q25 b6 b7);replace a2:=a2.ext (q23.n4 q24 q25 b6 b7);replace M:=M.ext (q24.n3 q25 b6 b7);replace hY:=hY.ext (q25.n2 b6 b7);replace hT:=hT.ext (b6.n1 b7);replace a3:=a3.ext b7;replace hC:=hC.next b7;refine z0b (z0d 29 U (z0r h U λa h=>?_));refine z0b (z0p ?_);clear hC c1 Z;exact bk (h.sub (L':=[(1,_),(3,_)]) (.c2 U U)) (jE ((⟨a0,gy,6,gt,6,gm,_⟩:MA)) (.c2 U U) ⟨((q2.n6 q3 e1 q23 q24 q25 b6).n1 b7),(y7g a1 (O.low oo) (M.low oo) (y2m hY oo) d0 d1 (y3l hT oo) a7 a6 a2 (a3.low oo) D.ly D.lt (((q1.n6 q2 q3 e1 q23 q24 q25).n1 b6).n1 b7) oo oo (λx hx hb=>by rcases List.mem_append.1 hx with k|k;have:=d9 x k _ hb;omega;have:=d5 x k _ hb;omega) (λi hi q hq hb=>by have:=a5 i (by have:=D.lt;omega) q hq _ hb;omega) e0 d6)⟩);refine z4l (K:=184) (E:=3) crK h U underlying181 U λgm j6 e6 a2 e2 _hz a h=>?_;have m6:=e2.size;replace I:=I.ext e2;replace hC:=hC.next e2;clear _hz;refine z0b (z0d 5 U (z0o h (z0a U z0f) j9k (y5j _ s.q.fs _ I.b.f I.b.fi D.bf D.f4) ?_));rintro _ h5 ⟨⟨f1,O,e0,gF,rfl⟩,q29⟩ a h;have m7:=q29.size;replace I:=I.ext q29;replace hC:=hC.next q29;have d9:∀x∈f1,∀k∈z0u (slv x.1),k<h5.heap.size:=λx hx k hk=>((O.2 x hx).blk k hk).2;refine z0b (z0d 9 U (z0o h (z0a U z0f) j9k (y5j _ s.q.bs _ I.b.b I.b.bi D.bb D.b4) ?_));rintro _ h6 ⟨⟨e3,M,d6,gB,rfl⟩,q30⟩ a h;have m8:=q30.size;replace I:=I.ext q30;replace hC:=hC.next q30;have d5:∀x∈e3,∀k∈z0u (slv x.1),k<h6.heap.size:=λx hx k hk=>((M.2 x hx).blk k hk).2;refine z0b (z2z (cs:=[_,_]) 10 h (z0a U (z0a U z0f)) j5g (z0g U (z0g U z0s)) U U λa h=>z0d 13 U ?_);refine z0o h (z0a U z0f) (mkC func89) (y9b _ s.ys _ I.y I.ya (by have:=D.ly;omega) D.pe) ?_;rintro _ j7 ⟨⟨gy,ps,rfl,f3,hY,d0,d1⟩,q31⟩ a h;have m9:=q31.size;replace I:=I.ext q31;replace hC:=hC.next q31;refine z0b (z0d 17 U (z0o h (z0a U z0f) j8o (y5d _ s.fb.ts _ I.f.t I.f.tt (by have:=D.lt;omega) D.tb) ?_));rintro _ h7 ⟨⟨gt,us,rfl,e8,hT,a7,a6⟩,q32⟩ a h;have n7:=q32.size;replace I:=I.ext q32;replace hC:=hC.next q32;have a5:∀i,i<us.length->∀q∈(us.getD i tq0).2,∀k∈z0u (slv q.th),k<h7.heap.size:=λi hi q hq k hk=>((hT.lps i hi q hq).1.blk k hk).2;refine z0b (z0d 26 U (z0o h (z0a U z0f) x1v (z3t _ s.fb.fs _ I.f.f D.fl) ?_));rintro _ h8 ⟨gf,rfl,e5,a3,b8⟩ a h;have n8:=b8.size;replace J:=J.ext (e2.n5 q29 q30 q31 q32 b8);replace hC:=hC.next b8;refine z0b (z2z (cs:=[_,_,_,_,_,_,_]) 27 h (z0a U (z0a U (z0a U (z0a U (z0a U (z0a U z0f)))))) v2i (z0g U (z0g U (z0g U (z0g U (z0g U (z0g U z0s)))))) U U λa h=>z0d 28 U ?_);refine y6e h U U U λj8 a1 b9 hz a h=>?_;obtain⟨a0,hg⟩:∃g,g=h8.heap.size:=⟨_,rfl⟩;rw[<-hg]at a1 h hz;have a4:g1<a0:=by have:=J.lt;omega
 have n9:=b9.size;replace a2:=a2.ext (q29.n5 q30 q31 q32 b8 b9);replace O:=O.ext (q30.n4 q31 q32 b8 b9);replace M:=M.ext (q31.n3 q32 b8 b9);replace hY:=hY.ext (q32.n2 b8 b9);replace hT:=hT.ext (b8.n1 b9);replace a3:=a3.ext b9;replace hC:=hC.next b9;refine z0b (z0d 29 U (z0r h U λa h=>?_));refine z0b (z0p ?_);clear hC c1 Z;exact bk (h.sub (L':=[(1,_),(3,_)]) (.c2 U U)) (jE ((⟨a0,gy,6,gt,6,gm,_⟩:MA)) (.c2 U U) ⟨((q2.n6 e2 q29 q30 q31 q32 b8).n1 b9),(y7g a1 (O.low oo) (M.low oo) (y2m hY oo) d0 d1 (y3l hT oo) a7 a6 a2 (a3.low oo) D.ly D.lt (((q1.n6 q2 e2 q29 q30 q31 q32).n1 b8).n1 b9) oo oo (λx hx hb=>by rcases List.mem_append.1 hx with k|k;have:=d9 x k _ hb;omega;have:=d5 x k _ hb;omega) (λi hi q hq hb=>by have:=a5 i (by have:=D.lt;omega) q hq _ hb;omega) e0 d6)⟩);rintro ka j9 ⟨f8,⟨m,hM,e7⟩⟩;have o0:=f8.size;have f4:=hM;refine kpC [(1,_),(3,.pointer (some ⟨ka.gk,0,none⟩))] (.c2 U U) (sq (sr (fad U y0k (x3h U x8d U ?_))));replace J:=J.ext f8;refine z0i U J U k0t (lnS U underlying36 (mv U U (nn (bl (lpK (ι:=Nat) [(3,_),(37,_),(38,_)] (λi=>[(39,.int .i64 (i:Int))]) (λi w'=>i<=s.fb.cs.length/\(∃m:MQ,m.p=(⟨s.rk,⟨trimB (plB s.q.fs),trimB (plB s.q.bs)⟩,s.ys.map YQ.p,z1r s.fb.ts,s.fb.cs.take i,s.fb.fs⟩:MSt)/\MkM τd 183 w0 ka w' m)) (λi=>s.fb.cs.length-i) 0 (.c4 U U U U) ⟨Nat.zero_le _,⟨m,e7,hM⟩⟩ ?_)))));rintro i k0 ⟨hi,⟨m,e7,hM⟩⟩;have f4:=hM;refine kpC [(3,_),(37,_),(38,_),(39,_)] (.c4 U U U U) ?_;have hk:=hM.k;have i4:=hk.lt;refine sr (lt' U (nn (sq (cd U (λc0=>?_) (λc0=>?_)))));refine sk (tn (sq (bl (sr (z1d (cx0) U (f2.f.c.ext hM.fr.fr) U u7h z1g (λh9 f6=>?_))))));refine z1l U (f6 _ (f2.f.c.ext hM.fr.fr)) u5s (al u5h U (λg5 k1 i3 e4 f9 o1=>(z0k (vs:=[_,_,_,_,_]) U e4 j7x (λk2 e4 g0 o2=>(nn ?_)))));replace hM:=f4.ext (f9.z1 g0);replace hk:=(hk.ext f9).fr g0;intro a h;refine z0h (some 11) (λwb w'=>Fr [] wb w') z2m ?_;intro g3 e9;have o3:=e9.size;replace hM:=hM.ext e9;replace hk:=hk.ext e9;replace e4:=e4.ext e9;have hC:Fr [] g3 g3:=Fr.refl _ _;have f5:=hM;have f0:=hk;have c9:=e4;refine z0e 0 h U λa h=>z0l 1 h U λa h=>z0c 2 h U y3b U λa h=>z0j 3 h U (λ_ hw=>f0.ext hw) U v2s U λa h=>z0c 4 h U y5f U λa h=>z1a (vs:=[_,_]) 5 h U (λ_ hw=>(c9.ext hw)) z2y U U λa h=>z0c 6 h U y5x U λa h=>z1a (vs:=[_,_]) 7 h U (λ_ hw=>(c9.ext hw)) z2y U U λa h=>z2z (cs:=[_,_,_,_]) 8 h (z0a U (z0a U z0f)) u9y (z0g U (z0g U z0s)) U U λa h=>z0c 9 h U y8u U λa h=>z0j 10 h U (λ_ hw=>c9.ext hw) U na3 U λa h=>?_;refine z0d 11 U (y3c (V:=crK) (k:=cxK (s.fb.cs.getD i cx0)) (v:=.int .i64 (s.fb.cs.getD i cx0).n) h U U U hM.c v0m underlying181 λk4 f7 hq _hz a h=>?_);rw[show m.cr=s.fb.cs.take i from congrArg MSt.cr e7]at f7;replace hM:=hM.cross (l:=s.fb.cs.take (i+1)) (by rw[<-u0u g6 oo];exact f7) hq;refine z1m (z0p ?_);clear hC f5 f0 c9;exact bk (h.sub (L':=[(3,_),(37,_),(38,_),(39,_)]) (.c4 U U U U)) (bn' (tn (rg (z1b U (wi6 oo) (mv U U (nl (lpE (i+1) (.c4 U U U U) ⟨oo,⟨{ m with cr:=s.fb.cs.take (i+1) },by rw[show ({ m with cr:=s.fb.cs.take (i+1) }:MQ).p={ m.p with cr:=s.fb.cs.take (i+1) } from U,e7],hM⟩⟩ oo)))))));obtain rfl:i=s.fb.cs.length:=by omega
 exact ex (te (te (xh (tn (sr (mv U U (asg U (kpL [(2,_)] (.cons U .nil) (nn (rt (r1 results39 U ⟨_,rfl,ka,m,rfl,hM,by rw[e7,List.take_length]⟩)))))))))))
theorem j8u (v:Value)(l:List Int)(w0:World)(J:Sl Enc.i64 w0 v l)(hl:l.length<=1000):Rets prog 66 #[v] w0 λr w'=>r=.int .i64 (orZ l)/\w'=w0:=by
 obtain⟨A,c,rfl,a0,hM,hA⟩:=id J;clear hA;unfold maxLen at hM;refine we [(0,.slice A l.length c)] func66 U ntmps66 U (.cons U .nil) ?_;have M:=J;refine sr (asg U (nn (sr (asg U (nn (sq (sr (mv U U (lnS U underlying154 (mv U U (nn (bl (lpK (ι:=Nat) [(3,_),(6,_),(7,_)] (λi=>[(8,.int .i64 (i:Int))]) (λi w'=>Fr [] w0 w'/\i<=l.length/\(∀j,j<i->l.getD j 0=0)/\w'=w0) (λi=>l.length-i) 0 (.c4 U U U U) ⟨Fr.refl _ _,⟨Nat.zero_le _,⟨λj h=>absurd h oo,rfl⟩⟩⟩ ?_)))))))))))));rintro i w1 ⟨q1,⟨hi,⟨O,D⟩⟩⟩;refine kpC [(3,_),(6,_),(7,_),(8,_)] (.c4 U U U U) (sr (lt' U (nn (sq (cd U (λc0=>?_) (λc0=>?_))))));refine sk (tn (sq (bl (sr ?_))));replace J:=M.ext q1;refine z1d (0) U J U z7l z1g (λZ I=>?_);refine z1k U (I _ J) na3 (asg U (nn (sr (mv U U (mv U U (ne' U (nn (cd U (λc1=>?_) (λc1=>?_)))))))));refine sr (mv U U (asg U (kpL [(2,_)] (.cons U .nil) (nn (rt (rb (tr (tr (rb (tr (r1 results66 U ?_)))))))))));exact⟨_,rfl,congrArg (Value.int .i64) (v3j oo O oo).symm,D⟩;refine sk (bn' (tn (rg (z1b U (wi6 oo) (mv U U (nl ?_))))));exact lpE (i+1) (.c4 U U U U) ⟨q1,⟨oo,⟨λj h=>by
  by_cases e:j=i;subst e;omega;exact O j oo,D⟩⟩⟩ oo
 obtain rfl:i=l.length:=by omega
 refine ex (te (te (xh (tn (sr (mv U U (asg U (kpL [(2,_)] (.cons U .nil) (nn (rt (r1 results66 U ?_)))))))))));exact⟨_,rfl,congrArg (Value.int .i64) (y9p O).symm,D⟩
theorem nanD (x:Int)(W:World):Calls prog 129 #[.int .i64 x] W λe w'=>e=.returned (.bool false)/\w'=W:=by
 go_enter func129,ntmps129;go_wp2;go_ret;exact⟨sp0,rfl⟩
theorem k3o (x:Int)(W:World):Calls prog 180 #[.int .u8 x] W λe w'=>e=.returned (.bool false)/\w'=W:=by
 go_enter func180,ntmps180;go_wp2;go_ret;exact⟨sp0,rfl⟩
theorem cmpD (x y:Int)(W:World):Calls prog 67 #[.int .i64 x,.int .i64 y] W λe w'=>e=.returned (.int .i64 (z6c x y))/\w'=W:=by
 go_enter func67,ntmps67
 go_wp2_with (go_at_call 129;refine(nanD _ _).mono ?_;rintro e w' ⟨rfl,D⟩;rw[D])
 all_goals (go_ret;refine⟨?_,rfl⟩;unfold z6c;(repeat' split)<;>first|rfl|(exfalso;omega))
theorem k1y (x y:Int)(W:World):Calls prog 131 #[.int .u8 x,.int .u8 y] W λe w'=>e=.returned (.int .i64 (z6c x y))/\w'=W:=by
 go_enter func131,ntmps131
 go_wp2_with (go_at_call 180;refine(k3o _ _).mono ?_;rintro e w' ⟨rfl,D⟩;rw[D])
 all_goals (go_ret;refine⟨?_,rfl⟩;unfold z6c;(repeat' split)<;>first|rfl|(exfalso;omega))
theorem orD (b T:Nat)(x y:Int)(W:World)(D:W.heap[b]?=some (.cells #[.int .i64 x,.int .i64 y] T (0,0))):Calls prog 66 #[.slice (some ⟨b,0,none⟩) 2 2] W λe w'=>e=.returned (.int .i64 (orZ [x,y]))/\w'=W:=
 Calls.mono (j8u _ _ W (k0b D) sp0) (by rintro e w' ⟨r,rfl,rfl,h⟩;exact⟨rfl,h⟩)
theorem u3p (x y:LId)(W:World):Calls prog 69 #[.agg #[.int .u8 x.y,.int .i64 x.n],.agg #[.int .u8 y.y,.int .i64 y.n]] W λe w'=>e=.returned (.int .i64 (z6q x y))/\DG W w':=by
 rw[<-x9m x y]
 go_enter func69,ntmps69
 go_wp2
 go_region_held3 (λw'=>w'.cell? ⟨W.heap.size,0,none⟩=some (.int .u8 x.y)/\w'.cell? ⟨W.heap.size,1,none⟩=some (.int .i64 x.n)/\w'.cell? ⟨W.heap.size+1,0,none⟩=some (.int .u8 y.y)/\w'.cell? ⟨W.heap.size+1,1,none⟩=some (.int .i64 y.n)) (go_keep)
  (first|(go_at_call 131;refine(k1y _ _ _).mono ?_;rintro e w' ⟨rfl,rfl⟩)|(go_at_call 67;refine(cmpD _ _ _).mono ?_;rintro e w' ⟨rfl,rfl⟩)|(go_at_call 66;refine(orD _ 3 (z6c x.y y.y) (z6c x.n y.n) _ (u3b _ _ _ sp0)).mono ?_;rintro e w' ⟨rfl,rfl⟩)|(go_at_call 66;refine(orD _ 3 (z6c x.y y.y) (z6c x.n y.n) _ (j6w _ _ _ sp0)).mono ?_;rintro e w' ⟨rfl,rfl⟩))
 all_goals go_wp2
 all_goals go_ret
 all_goals refine⟨rfl,?_⟩
 all_goals repeat first|exact DG.refl _|refine DG.drew ?_|refine DG.alloc ?_ _
theorem j8r (x y:Cx)(W:World):Calls prog 102 #[j5n x,j5n y] W λe w'=>e=.returned (.int .i64 (x6i x y))/\DG W w':=by
 go_enter func102,ntmps102
 go_wp2_with (first|(go_at_call 69;refine(u3p ⟨_,_⟩ ⟨_,_⟩ _).mono ?_;rintro e w' ⟨rfl,D⟩;have M:w'.cell? ⟨W.heap.size,2,none⟩=some (.int .u8 x.b.y):=D.cell (by simp[j5n]);have c2:w'.cell? ⟨W.heap.size,3,none⟩=some (.int .i64 x.b.n):=D.cell (by simp[j5n]);have c3:w'.cell? ⟨W.heap.size+1,2,none⟩=some (.int .u8 y.b.y):=D.cell (by simp[j5n]);have c4:w'.cell? ⟨W.heap.size+1,3,none⟩=some (.int .i64 y.b.n):=D.cell (by simp[j5n]))|(go_at_call 69;refine(u3p ⟨_,_⟩ ⟨_,_⟩ _).mono ?_;rintro e J ⟨rfl,I⟩))
 all_goals go_ret
 ·rename_i h
  refine⟨?_,(((DG.refl _).alloc _).alloc _).trans D⟩
  show Ending.returned (Value.int .i64 (z6q x.a y.a))=_
  unfold x6i;rw[if_pos (by simpa using h)]
 rename_i h
 refine⟨?_,((((DG.refl _).alloc _).alloc _).trans D).trans I⟩
 show Ending.returned (Value.int .i64 (z6q x.b y.b))=_
 unfold x6i;rw[if_neg (by simpa using h)]
end Go.Proofs.YtjilcnmaefhmeaaGreatDoor
