/- Texts of the proof, joined. -/
import Derived.Test.YtpgdchkdlgkmgaaGreatDoorRows
import Derived.Shelf.SlSortCmp.WholeK
import Derived.Deep.RegionHeld3
import Derived.WalkKit
import Derived.Test.YtpgdchkdlgkmgaaGreatDoorJC4
set_option linter.unusedVariables false
set_option linter.unusedSimpArgs false
namespace Go.Proofs.YtpgdchkdlgkmgaaGreatDoor
open Go.Lw Go.G21 Go.G08 _root_.Go.Proofs.Tryz
theorem bo89:BuildAt prog 89 [(0,1),(1,1),(2,1),(3,1)] [(.int .u8 0),(.bool false),(.slice none 0 0),(.slice none 0 0)]:=BuildAt.struct underlying89 (λ_=>by kernel_rfl) (λ_=>by kernel_rfl)
theorem x2q:CallOf prog 63:=mkC func63
theorem v7a:CallOf prog 150:=mkC func150
theorem y1k:z1a prog 137 3 4:=λ_ _=>by kernel_rfl
theorem u4v:z1a prog 250 0 0:=λ_ _=>by kernel_rfl
theorem u7w:z1a prog 250 1 1:=λ_ _=>by kernel_rfl
theorem u6t:z1a prog 250 2 2:=λ_ _=>by kernel_rfl
theorem j5i:z1r prog 46 1:=λ_=>by kernel_rfl
theorem z3q (v:Value)(l:List LId)(w0:World)(I:Sl z1h w0 v l)(hl:l.length<=100000):Rets prog 63 #[v] w0 λr w'=>∃g,r=.slice (some ⟨g,0,none⟩) l.length l.length/\w0.heap.size<=g/\Lw.Own z1h 87 w0.heap.size w' r l/\Fr [] w0 w':=by
 obtain⟨A,c,rfl,a0,hM,Z⟩:=id I;clear Z;unfold maxLen at hM;refine we [(0,.slice A l.length c)] func63 U ntmps63 U (.cons U .nil) ?_;have J:=I;refine sr (asg U (nn (sr (mv U (lnS U underlying37 (z1i (m:=l.length) (c:=l.length) (id0) U z5d y3h U (λO w1 a1 D M z1=>(asg U (nn (sr (mv U (mv U ?_))))))))))));replace I:=J.ext M;refine z7w (zs:=List.replicate l.length id0) (by rw[List.length_replicate];rfl) U (by rw[List.length_replicate];exact D) I (by rw[List.length_replicate]) z5d (λw2 D q2 z2=>?_);rw[List.length_replicate]at D;refine nn (sr (mv U (asg U (nn (rt (r1 results63 U ?_))))));exact⟨_,rfl,O,rfl,by omega,D.low (by omega),(M.z1 q2)⟩
theorem v2o (ts:List TQ)(j:Nat):(ts.getD j tq0).2.length<=z3t (z1w ts):=by
 by_cases h:j<ts.length;have k:=y1z (z1w ts) j [] (by rw[List.length_map];exact h);have e:z2o (z1w ts) j=(ts.getD j tq0).2.length:=by
  unfold z2o;rw[List.getD,List.getD,List.getElem?_map,List.getElem?_eq_getElem h];exact List.length_map ..
 rw[List.length_nil,e]at k;omega;rw[List.getD,List.getElem?_eq_none (by omega)];exact Nat.zero_le _
theorem j1o {o:MOp}{ths st:List LId}{th sn u:SV}{D:BdQ}(m:MQ)(j:Nat)(I:(o.y-1).toNat=j)(J:D.p=m.q.p.put o.b o.p (st++[(⟨o.y,(m.ys.getD j yq0).ct⟩:LId)])) :
    { m with q:=D,ys:=m.ys.set j ⟨true,(m.ys.getD j yq0).pl,(m.ys.getD j yq0).ct+1,false,sv0,[]⟩,ts:=m.ts.set j (u,(m.ts.getD j tq0).2++[(⟨o.b,(m.ys.getD j yq0).nw,th,sn,ths,(m.ys.getD j yq0).pes⟩:LpQ)]) }.p =
      { m.p with B:=m.p.B.put o.b o.p (st++[(⟨o.y,(m.ys.getD j yq0).p.ct⟩:LId)]),ys:=m.p.ys.set (o.y-1).toNat (mkS (m.ys.getD j yq0).p),tb:=m.p.tb.set (o.y-1).toNat (m.p.row o.y++[(⟨o.b,(m.ys.getD j yq0).p.nw,ths,(m.ys.getD j yq0).p.pe⟩:Lp)]) }:=by
  unfold MSt.row
  rw[I]
  have M:(z1w m.ts).getD j []=(m.ts.getD j tq0).2.map LpQ.p:=by
    rw[List.getD,List.getD,List.getElem?_map]
    cases m.ts[j]?<;>rfl
  simp only[MQ.p,J,List.map_set,M,List.map_append,List.map_cons,List.map_nil,mkS]
set_option maxHeartbeats 4000000 in
theorem v2q (wS:World)(ka:MA)(m:MQ)(o:MOp)(th:SV)(ths:List LId)(s1:Value)(st:List LId)(w0:World)(hM:MkM τd 137 wS ka w0 m)(hi:MInv m.p)(hy:1<=o.y/\o.y<=6)(hn:z4v o.b o.p=0)(g1:Lw.Own z1h 87 wS.heap.size w0 (slv th) ths)(r6:∀k∈z0v (slv th),k∉z0v (slv m.fa))(b4:Sl z1h w0 s1 st)(hs:st=[]\/(st=m.q.p.at o.b o.p/\st.length<4)):Rets prog 114 #[.pointer (some ⟨ka.gk,0,none⟩),opV o,.slice th.1 th.2.1 th.2.2,s1] w0 λr w'=>MRet τd 137 wS ka (x1m m.p o ths st) r w':=by
 have y9:=hM.fr.size;have J:=hM.k;have y3:=J.lt;have y4:=hM.ly;have o3:=hM.lt;have x8:=(hM.y.out.blk ka.gy (by simp[z0v])).2;obtain⟨j,hj,y6⟩:∃j:Nat,j<6/\o.y=(j:Int)+1:=⟨(o.y-1).toNat,by omega,by omega⟩;have p8:(o.y-1).toNat=j:=by omega
 have l0:m.p.y o.y=(m.ys.getD j yq0).p:=by rw[j4u,p8]
 obtain⟨AS,cS,rfl,y1⟩:=b4.form;have y5:=z3m hn;obtain⟨n,h8⟩:∃n:Nat,o.p=(n:Int):=⟨o.p.toNat,by omega⟩;have hv:BdOk m.q.p:=hi.B;have y8:st.length<=3:=by rcases hs with e|⟨_,e⟩;rw[e];simp;omega
 have x5:z3t (z1w m.ts)<=2048:=hi.all;have x9:=hM.gk;have r4:∀k∈z0v (slv (m.ts.getD j tq0).1),k<w0.heap.size:=λk J=>((hM.t.ins j (by rw[o3];exact hj)).blk k J).2;have j9:ka.gk∉z0v (slv th):=λhb=>g1.neB hM.k (by decide) hb;have k0:ka.gy∉z0v (slv th):=λhb=>Own.neO hM.y.out g1 (by decide) ka.gy (by simp[z0v]) hb;have k1:∀k∈z0v (slv th),k<w0.heap.size:=λk J=>(g1.blk k J).2;refine we [(0,.pointer (some ⟨ka.gk,0,none⟩)),(1,opV o),(2,.slice th.1 th.2.1 th.2.2),(3,.slice AS st.length cS)] func114 U ntmps114 U (.c4 U U U U) ?_;have h5:=hM;have r5:=b4;refine sr (bx U (λg5 w1 y2 I q1 z1=>(asg U (nn ?_))));refine jn (ι:=Nat×Nat) [(0,_),(2,_),(3,_),(5,_)] (λp=>[(9,.pointer (some ⟨p.1,0,none⟩)),(10,.pointer (some ⟨p.2,0,none⟩)),(11,.int .i64 (mkE (m.ys.getD j yq0).p))]) (λp w'=>Fr [] w1 w'/\∃(qn:YQ) (e0:Int) (e1:Bool) (sn:SV) (b9:List Pa),(w1.heap.size<=p.1/\w1.heap.size<=p.2/\((mkE (m.ys.getD j yq0).p)=0->qn=(⟨true,(m.ys.getD j yq0).pl,(m.ys.getD j yq0).ct+1,false,sv0,[]⟩:YQ)/\e0=(m.ys.getD j yq0).ct/\e1=(m.ys.getD j yq0).nw/\b9=(m.ys.getD j yq0).pes))/\Blk w' p.1 82 (z2j.enc qn)/\Blk w' p.2 250 [.int .i64 e0,.bool e1,.slice sn.1 sn.2.1 sn.2.2]/\OwnIf ((mkE (m.ys.getD j yq0).p)=0) z1s 100 (max wS.heap.size w1.heap.size) w' (slv sn) b9) (.c4 U U U U) ?_ ?_;replace hM:=h5.ext q1;intro a h;refine z0i none (λwb w'=>Fr [] wb w') z2r ?_;intro w2 q2;have z2:=q2.size;replace hM:=hM.ext q2;replace J:=J.ext (q1.n1 q2);replace I:=I.ext q2;have hC:Fr [] w2 w2:=Fr.refl _ _;have c9:=hM;have b7:=J;have b1:=I;refine y3p (ι:=(Nat×Nat)×YQ×(Int×Bool)×SV×List Pa) h [(0,_),(2,_),(3,_),(5,_)] (.c4 U U U U) #[true,true,true,true,true,true,true,true,true,true,true,true,true,true,true,true,false,false,false] 3 (λp=>[(9,.pointer (some ⟨p.1.1,0,none⟩)),(10,.pointer (some ⟨p.1.2,0,none⟩)),(26,.agg #[.bool p.2.1.inn,.int .i64 p.2.1.pl,.int .i64 p.2.1.ct,.bool p.2.1.nw,.slice p.2.1.pe.1 p.2.1.pe.2.1 p.2.1.pe.2.2]),(27,.agg #[.int .i64 p.2.2.1.1,.bool p.2.2.1.2,.slice p.2.2.2.1.1 p.2.2.2.1.2.1 p.2.2.2.1.2.2]),(28,.int .i64 (mkE (m.ys.getD j yq0).p))]) (λp w'=>Fr [] w2 w'/\(w2.heap.size<=p.1.1/\w2.heap.size<=p.1.2/\p.1.1≠p.1.2)/\((mkE (m.ys.getD j yq0).p)=0->p.2.1=(⟨true,(m.ys.getD j yq0).pl,(m.ys.getD j yq0).ct+1,false,sv0,[]⟩:YQ)/\p.2.2.1.1=(m.ys.getD j yq0).ct/\p.2.2.1.2=(m.ys.getD j yq0).nw/\p.2.2.2.2=(m.ys.getD j yq0).pes/\p.1.1∉z0v (slv p.2.2.2.1)/\p.1.2∉z0v (slv p.2.2.2.1))/\Blk w' p.1.1 82 [.bool false,.int .i64 0,.int .i64 0,.bool false,.slice none 0 0]/\Blk w' p.1.2 250 [.int .i64 0,.bool false,.slice none 0 0]/\OwnIf ((mkE (m.ys.getD j yq0).p)=0) z1s 100 (max wS.heap.size w2.heap.size) w' (slv p.2.2.2.1) p.2.2.2.2) (λe9=>?_) ?_;refine z0e 0 h U λa h=>z0o 1 h U λa h=>z0c 2 h U z3a U λa h=>z0k 3 h U (λ_ hw=>b7.ext hw) U z9x U λa h=>z0c 4 h U z3g U λa h=>z0k 5 h U (λ_ hw=>b1.ext hw) U na5 U λa h=>z3b 6 h wn U (by first|exact IntWalk.u8_in _ (by omega)|rfl) U λa h=>z1f (p:=j) (yq0) 7 h U hM.y.out.sl U z9u U λx3 p5 a h=>z2c (cs:=z2j.enc (m.ys.getD j yq0)) 8 h wn U (λ_ hw=>p5 _ (c9.ext hw).y.out.sl) z6d U λa h=>x6l 9 14 15 (by kernel_rfl) U U U ?_ ?_ ?_;refine z0m h (z0a U z0f) v7a (y0x (m.ys.getD j yq0) _ (hM.y.ins j (by omega)).sl (λk J=>((hM.y.ins j (by omega)).blk k J).2)) ?_;rintro _ w3 ⟨qn,e0,e1,sn,b9,rfl,a5,q3⟩ a h;have z3:=q3.size;replace hM:=hM.ext q3;replace J:=J.ext q3;replace I:=I.ext q3;replace hC:=hC.next q3;have M:OwnIf ((mkE (m.ys.getD j yq0).p)=0) z1s 100 _ _ (slv sn) b9:=λhc=>(a5 hc).2.2.2.2;have d9:=λhc k J=>((M hc).blk k J).2;refine z0b ?_;refine z0e 10 h U λa h=>z0n 11 h U λa h=>z0n 12 h U λa h=>z0n 13 h U λa h=>z2d 14 15 (by kernel_rfl) U ?_ ?_;refine z1c h y1j U λw4 O q4 hz a h=>?_;obtain⟨b0,hg⟩:∃g,g=w3.heap.size:=⟨_,rfl⟩;rw[<-hg]at O h hz;have b8.gk_9:ka.gk<b0:=by have:=J.lt;omega
 have h7:g5<b0:=by have:=I.lt;omega
 have z4:=q4.size;replace J:=J.ext q4;replace I:=I.ext q4;replace hC:=hC.next q4;refine z0b ?_;refine z0d 15 U ?_;refine z1c h x3a U λw5 D q5 hz a h=>?_;obtain⟨a6,hg⟩:∃g,g=w4.heap.size:=⟨_,rfl⟩;rw[<-hg]at D h hz;have b8.gk_10:ka.gk<a6:=by have:=J.lt;omega
 have f6:g5<a6:=by have:=I.lt;omega
 have i7:b0<a6:=by have:=O.lt;omega
 have z5:=q5.size;replace M:=M.ext (q4.n1 q5);replace O:=O.ext q5;replace hC:=hC.next q5;refine z0b ?_;exact e9 ((b0,a6),qn,(e0,e1),sn,b9) _ _ _ (by kernel_rfl) (h.sub (.d8 U U U U U U U U (.cons U .nil))) ⟨hC,⟨by simp only;omega,by simp only;omega,by simp only;omega⟩,(λe=>⟨(a5 e).1,(a5 e).2.1,(a5 e).2.2.1,(a5 e).2.2.2.1,(λa2=>by have b6:=d9 e _ a2;have a9:=(M e).blk _ a2;simp only at b6 a9;omega),(λa2=>by have b6:=d9 e _ a2;have a9:=(M e).blk _ a2;simp only at b6 a9;omega)⟩),O,D,(λe=>(M e).low (by omega))⟩;refine z1c h x3a U λw6 D q6 hz a h=>?_;obtain⟨a6,hg⟩:∃g,g=w3.heap.size:=⟨_,rfl⟩;rw[<-hg]at D h hz;have b8.gk_10:ka.gk<a6:=by have:=J.lt;omega
 have f6:g5<a6:=by have:=I.lt;omega
 have z6:=q6.size;replace J:=J.ext q6;replace I:=I.ext q6;replace hC:=hC.next q6;refine z0b ?_;refine z0d 14 U ?_;refine z1c h y1j U λw7 O q7 hz a h=>?_;obtain⟨b0,hg⟩:∃g,g=w6.heap.size:=⟨_,rfl⟩;rw[<-hg]at O h hz;have b8.gk_9:ka.gk<b0:=by have:=J.lt;omega
 have h7:g5<b0:=by have:=I.lt;omega
 have i5:a6<b0:=by have:=D.lt;omega
 have z7:=q7.size;replace M:=M.ext (q6.n1 q7);replace D:=D.ext q7;replace hC:=hC.next q7;refine z0b ?_;exact e9 ((b0,a6),qn,(e0,e1),sn,b9) _ _ _ (by kernel_rfl) (h.sub (.d8 U U U U U U U U (.cons U .nil))) ⟨hC,⟨by simp only;omega,by simp only;omega,by simp only;omega⟩,(λe=>⟨(a5 e).1,(a5 e).2.1,(a5 e).2.2.1,(a5 e).2.2.2.1,(λa2=>by have b6:=d9 e _ a2;have a9:=(M e).blk _ a2;simp only at b6 a9;omega),(λa2=>by have b6:=d9 e _ a2;have a9:=(M e).blk _ a2;simp only at b6 a9;omega)⟩),O,D,(λe=>(M e).low (by omega))⟩;refine z1c h y1j U λw8 O q8 hz a h=>?_;obtain⟨b0,hg⟩:∃g,g=w2.heap.size:=⟨_,rfl⟩;rw[<-hg]at O h hz;have b8.gk_9:ka.gk<b0:=by have:=J.lt;omega
 have h7:g5<b0:=by have:=I.lt;omega
 have z8:=q8.size;replace hM:=hM.ext q8;replace J:=J.ext q8;replace I:=I.ext q8;replace hC:=hC.next q8;refine z0b ?_;refine z2d 9 15 (by kernel_rfl) U ?_ ?_;refine z0m h (z0a U z0f) v7a (y0x (m.ys.getD j yq0) _ (hM.y.ins j (by omega)).sl (λk J=>((hM.y.ins j (by omega)).blk k J).2)) ?_;rintro _ w9 ⟨qn,e0,e1,sn,b9,rfl,a5,q9⟩ a h;have z9:=q9.size;replace J:=J.ext q9;replace I:=I.ext q9;replace O:=O.ext q9;replace hC:=hC.next q9;have M:OwnIf ((mkE (m.ys.getD j yq0).p)=0) z1s 100 _ _ (slv sn) b9:=λhc=>(a5 hc).2.2.2.2;have d9:=λhc k J=>((M hc).blk k J).2;refine z0b ?_;refine z0e 10 h U λa h=>z0n 11 h U λa h=>z0n 12 h U λa h=>z0n 13 h U λa h=>z0d 15 U ?_;refine z1c h x3a U λA1 D m6 hz a h=>?_;obtain⟨a6,hg⟩:∃g,g=w9.heap.size:=⟨_,rfl⟩;rw[<-hg]at D h hz;have b8.gk_10:ka.gk<a6:=by have:=J.lt;omega
 have f6:g5<a6:=by have:=I.lt;omega
 have i7:b0<a6:=by have:=O.lt;omega
 have D5:=m6.size;replace O:=O.ext m6;replace M:=M.ext m6;replace hC:=hC.next m6;refine z0b ?_;exact e9 ((b0,a6),qn,(e0,e1),sn,b9) _ _ _ (by kernel_rfl) (h.sub (.d8 U U U U U U U U (.cons U .nil))) ⟨hC,⟨by simp only;omega,by simp only;omega,by simp only;omega⟩,(λe=>⟨(a5 e).1,(a5 e).2.1,(a5 e).2.2.1,(a5 e).2.2.2.1,(λa2=>by have b6:=d9 e _ a2;have a9:=(M e).blk _ a2;simp only at b6 a9;omega),(λa2=>by have b6:=d9 e _ a2;have a9:=(M e).blk _ a2;simp only at b6 a9;omega)⟩),O,D,(λe=>(M e).low (by omega))⟩;refine z1c h x3a U λA2 D l4 hz a h=>?_;obtain⟨a6,hg⟩:∃g,g=w8.heap.size:=⟨_,rfl⟩;rw[<-hg]at D h hz;have b8.gk_10:ka.gk<a6:=by have:=J.lt;omega
 have f6:g5<a6:=by have:=I.lt;omega
 have i7:b0<a6:=by have:=O.lt;omega
 have D6:=l4.size;replace hM:=hM.ext l4;replace J:=J.ext l4;replace hC:=hC.next l4;refine z0b ?_;refine z0d 9 U ?_;refine z0m h (z0a U z0f) v7a (y0x (m.ys.getD j yq0) _ (hM.y.ins j (by omega)).sl (λk J=>((hM.y.ins j (by omega)).blk k J).2)) ?_;rintro _ A3 ⟨qn,e0,e1,sn,b9,rfl,a5,l5⟩ a h;have D7:=l5.size;replace J:=J.ext l5;replace O:=O.ext (l4.n1 l5);replace D:=D.ext l5;replace hC:=hC.next l5;have M:OwnIf ((mkE (m.ys.getD j yq0).p)=0) z1s 100 _ _ (slv sn) b9:=λhc=>(a5 hc).2.2.2.2;have d9:=λhc k J=>((M hc).blk k J).2;refine z0b ?_;refine z0e 10 h U λa h=>z0n 11 h U λa h=>z0n 12 h U λa h=>z0n 13 h U λa h=>?_;exact e9 ((b0,a6),qn,(e0,e1),sn,b9) _ _ _ (by kernel_rfl) (h.sub (.d8 U U U U U U U U (.cons U .nil))) ⟨hC,⟨by simp only;omega,by simp only;omega,by simp only;omega⟩,(λe=>⟨(a5 e).1,(a5 e).2.1,(a5 e).2.2.1,(a5 e).2.2.2.1,(λa2=>by have b6:=d9 e _ a2;have a9:=(M e).blk _ a2;simp only at b6 a9;omega),(λa2=>by have b6:=d9 e _ a2;have a9:=(M e).blk _ a2;simp only at b6 a9;omega)⟩),O,D,(λe=>(M e).low (by omega))⟩;refine z1c h x3a U λu3 D l6 hz a h=>?_;obtain⟨a6,hg⟩:∃g,g=w2.heap.size:=⟨_,rfl⟩;rw[<-hg]at D h hz;have b8.gk_10:ka.gk<a6:=by have:=J.lt;omega
 have f6:g5<a6:=by have:=I.lt;omega
 have D8:=l6.size;replace hM:=hM.ext l6;replace J:=J.ext l6;replace I:=I.ext l6;replace hC:=hC.next l6;refine z0b ?_;refine z2d 9 14 (by kernel_rfl) U ?_ ?_;refine z0m h (z0a U z0f) v7a (y0x (m.ys.getD j yq0) _ (hM.y.ins j (by omega)).sl (λk J=>((hM.y.ins j (by omega)).blk k J).2)) ?_;rintro _ u4 ⟨qn,e0,e1,sn,b9,rfl,a5,l7⟩ a h;have D9:=l7.size;replace J:=J.ext l7;replace I:=I.ext l7;replace D:=D.ext l7;replace hC:=hC.next l7;have M:OwnIf ((mkE (m.ys.getD j yq0).p)=0) z1s 100 _ _ (slv sn) b9:=λhc=>(a5 hc).2.2.2.2;have d9:=λhc k J=>((M hc).blk k J).2;refine z0b ?_;refine z0e 10 h U λa h=>z0n 11 h U λa h=>z0n 12 h U λa h=>z0n 13 h U λa h=>z0d 14 U ?_;refine z1c h y1j U λA4 O m7 hz a h=>?_;obtain⟨b0,hg⟩:∃g,g=u4.heap.size:=⟨_,rfl⟩;rw[<-hg]at O h hz;have b8.gk_9:ka.gk<b0:=by have:=J.lt;omega
 have h7:g5<b0:=by have:=I.lt;omega
 have i5:a6<b0:=by have:=D.lt;omega
 have E0:=m7.size;replace D:=D.ext m7;replace M:=M.ext m7;replace hC:=hC.next m7;refine z0b ?_;exact e9 ((b0,a6),qn,(e0,e1),sn,b9) _ _ _ (by kernel_rfl) (h.sub (.d8 U U U U U U U U (.cons U .nil))) ⟨hC,⟨by simp only;omega,by simp only;omega,by simp only;omega⟩,(λe=>⟨(a5 e).1,(a5 e).2.1,(a5 e).2.2.1,(a5 e).2.2.2.1,(λa2=>by have b6:=d9 e _ a2;have a9:=(M e).blk _ a2;simp only at b6 a9;omega),(λa2=>by have b6:=d9 e _ a2;have a9:=(M e).blk _ a2;simp only at b6 a9;omega)⟩),O,D,(λe=>(M e).low (by omega))⟩;refine z1c h y1j U λA5 O k4 hz a h=>?_;obtain⟨b0,hg⟩:∃g,g=u3.heap.size:=⟨_,rfl⟩;rw[<-hg]at O h hz;have b8.gk_9:ka.gk<b0:=by have:=J.lt;omega
 have h7:g5<b0:=by have:=I.lt;omega
 have i5:a6<b0:=by have:=D.lt;omega
 have E1:=k4.size;replace hM:=hM.ext k4;replace J:=J.ext k4;replace I:=I.ext k4;replace D:=D.ext k4;replace hC:=hC.next k4;refine z0b ?_;refine z0d 9 U ?_;refine z0m h (z0a U z0f) v7a (y0x (m.ys.getD j yq0) _ (hM.y.ins j (by omega)).sl (λk J=>((hM.y.ins j (by omega)).blk k J).2)) ?_;rintro _ A6 ⟨qn,e0,e1,sn,b9,rfl,a5,hq⟩ a h;have E2:=hq.size;replace hM:=hM.ext hq;replace J:=J.ext hq;replace I:=I.ext hq;replace D:=D.ext hq;replace O:=O.ext hq;replace hC:=hC.next hq;have z0:=hq;have M:OwnIf ((mkE (m.ys.getD j yq0).p)=0) z1s 100 _ _ (slv sn) b9:=λhc=>(a5 hc).2.2.2.2;have d9:=λhc k J=>((M hc).blk k J).2;refine z0b ?_;refine z0e 10 h U λa h=>z0n 11 h U λa h=>z0n 12 h U λa h=>z0n 13 h U λa h=>?_;exact e9 ((b0,a6),qn,(e0,e1),sn,b9) _ _ _ (by kernel_rfl) (h.sub (.d8 U U U U U U U U (.cons U .nil))) ⟨hC,⟨by simp only;omega,by simp only;omega,by simp only;omega⟩,(λe=>⟨(a5 e).1,(a5 e).2.1,(a5 e).2.2.1,(a5 e).2.2.2.1,(λa2=>by have b6:=d9 e _ a2;have a9:=(M e).blk _ a2;simp only at b6 a9;omega),(λa2=>by have b6:=d9 e _ a2;have a9:=(M e).blk _ a2;simp only at b6 a9;omega)⟩),O,D,(λe=>(M e).low (by omega))⟩;rintro⟨⟨b0,a6⟩,qn,⟨e0,e1⟩,sn,b9⟩ a w18 ⟨hC,⟨o8,l1,hz910⟩,a5,O,D,M⟩ h;simp only at o8 l1 hz910 a5 O D M;have m8:=hC;have E3:=m8.size;replace J:=J.ext m8;replace I:=I.ext m8;refine z0d 16 U ?_;refine z0u h U O U z6u ?_ (h1:=(by first|(simp[Value.oneCell',S];done)|exact z2j.one (m.ys.getD j yq0)));clear h a;intro u5 i4 j4 hz a h;have E4:=j4.size;replace J:=J.fr j4;replace I:=I.fr j4;replace D:=D.fr j4;replace M:=M.fr j4 (by intro k8 k J a2;simp at J;subst J;first|exact(a5 k8).2.2.2.2.1 a2|exact(a5 k8).2.2.2.2.2 a2);replace hC:=hC.sp j4;clear O hz;have O:Blk u5 b0 _ [_,_,_,_,_]:=i4;clear i4;refine z0b ?_;refine z0d 17 U ?_;refine z0u h U D U x0y ?_ (h1:=(by first|(simp[Value.oneCell',S];done)|exact z2j.one (m.ys.getD j yq0)));clear h a;intro u6 i4 j5 hz a h;have E5:=j5.size;replace J:=J.fr j5;replace I:=I.fr j5;replace O:=O.fr j5;replace M:=M.fr j5 (by intro k8 k J a2;simp at J;subst J;first|exact(a5 k8).2.2.2.2.1 a2|exact(a5 k8).2.2.2.2.2 a2);replace hC:=hC.sp j5;clear D hz;have D:Blk u6 a6 _ [_,_,_]:=i4;clear i4;refine z0b ?_;refine z0d 18 U ?_;refine z0s h U λa h=>?_;refine z0b ?_;refine z0r ?_;clear hC c9 b7 b1;refine bk (h.sub (L':=[(0,_),(2,_),(3,_),(5,_),(9,_),(10,_),(11,_)]) (.c7 U U U U U U U)) ?_;exact jE ((b0,a6)) (.c7 U U U U U U U) ⟨(q2.z3 m8 j4 j5),⟨qn,e0,e1,sn,b9,⟨by simp only;omega,by simp only;omega,λe=>⟨(a5 e).1,(a5 e).2.1,(a5 e).2.2.1,(a5 e).2.2.2.1⟩⟩,O,D,λe=>(M e).low (by omega)⟩⟩;rintro⟨g9,f0⟩ A7 ⟨h0,⟨qn,e0,e1,sn,b9,⟨o8,l1,a5⟩,O,D,M⟩⟩;have E6:=h0.size;have s4:=O.lt;have r8:=D.lt;simp only at o8 l1 O D;refine kpC [(0,_),(2,_),(3,_),(5,_),(9,.pointer (some ⟨g9,0,none⟩)),(10,.pointer (some ⟨f0,0,none⟩)),(11,.int .i64 (mkE (m.ys.getD j yq0).p))] (.c7 U U U U U U U) (sq (sr (mv U (ne' U (nn (cd U (λc0=>?_) (λc0=>?_)))))));refine sr (mv U (asg U (kpL [(8,_)] (.cons U .nil) (nn (rt (tr (r1 results114 U ?_)))))));replace hM:=h5.ext (q1.n1 h0);exact⟨_,rfl,MRet.err (by unfold x1m;rw[l0,if_pos c0]) c0 hM.fr⟩;replace J:=J.ext (q1.n1 h0);have k9:(mkE (m.ys.getD j yq0).p)=0:=Classical.not_not.1 c0;obtain⟨rfl,rfl,rfl,rfl⟩:=a5 k9;replace M:=M k9;have f8:=λk J=>(M.blk k J).2;obtain⟨m1,m3,m2⟩:=u8n hi hy hs (by rw[l0];exact k9);rw[l0]at m1 m3 m2;refine sk (tn (sq (sr (mv U (nlc U (fad U y1k (z0g U J U y6m ?_)))))));replace hM:=h5.ext (q1.n1 h0);refine cl (ev1 U) (mkC func151) (y3v _ m.ts _ hM.t.at.1 hM.t.at.2 (by omega)) U ?_;rintro _ A8 ⟨rfl,e5⟩;have E7:=e5.size;refine ge' U U (kpL [(0,_),(2,_),(3,_),(5,_),(9,_),(10,_),(37,_)] (.c7 U U U U U U U) (nn (cd U (λc1=>?_) (λc1=>?_))));refine sr (asg U (kpL [(8,_)] (.cons U .nil) (nn (rt (tr (r1 results114 U ?_))))));replace hM:=h5.ext (q1.n2 h0 e5);exact⟨_,rfl,MRet.err (by unfold x1m;rw[l0,if_neg (λe=>e k9),if_pos (show 2048<=z3t m.p.tb by have:m.p.tb=z1w m.ts:=rfl;rw[this];omega)]) (by decide) hM.fr⟩;refine sk (tn (sr (fad U z3g ?_)));replace I:=I.ext (h0.n1 e5);refine z0g U I U na5 (fad U u4v ?_);replace D:=D.ext e5;refine z0g U D U na3 (z1t (cs:=[_,_]) (ev2 U) u4j (z0h U (z0h U z0q)) U ?_);refine al y3h U (λf7 A9 x6 a4 f2 E8=>?_);refine z0j (vs:=[_,_]) U a4 y0b (λB0 a4 f3 E9=>?_) (h1:=(by first|(simp[Value.oneCell',S];done)|exact z2j.one (m.ys.getD j yq0)));refine kpL [(0,_),(2,_),(3,_),(5,_),(9,_),(10,_),(12,_)] (.c7 U U U U U U U) (nn (sr (fad U z4j (z9b U z6q ?_))));replace I:=(I.ext f2).fr f3;refine z0g U I U x1a (fad U u7w ?_);replace D:=(D.ext f2).fr f3;refine z0g U D U na4 (mv U (fad U u6t (z0g U D U y3k (z1t (cs:=[_,_,_,_]) (ev4 U) bo89 (z0h U (z0h U (z0h U (z0h U z0q)))) U ?_))));refine al v7f U (λf1 B1 x7 a0 e6 F0=>?_);refine z0j (vs:=[_,_,_,_]) U a0 v9d (λp1 a0 e7 F1=>?_) (h1:=(by first|(simp[Value.oneCell',S];done)|exact z2j.one (m.ys.getD j yq0)));refine kpL [(0,_),(3,_),(5,_),(9,_),(12,_),(13,_)] (.c6 U U U U U U) (nn ?_);refine jn (ι:=Nat) [(0,_),(5,_),(9,_),(13,_)] (λg_=>[(14,.pointer (some ⟨g_,0,none⟩)),(11,.int .i64 0)]) (λg_ w'=>Fr [] p1 w'/\∃q':BdQ,(p1.heap.size<=g_/\q'.p=m.q.p.put o.b o.p (st++[(⟨o.y,(m.ys.getD j yq0).ct⟩:LId)]))/\Blk w' g_ 32 (bdL q')/\BdO 37 87 (max wS.heap.size p1.heap.size) w' q') (.c4 U U U U) ?_ ?_;replace hM:=h5.ext (q1.z6 h0 e5 f2 f3 e6 e7);replace J:=(((J.ext (e5.n1 f2)).fr f3).ext e6).fr e7;replace b4:=r5.ext (q1.z6 h0 e5 f2 f3 e6 e7);replace I:=(I.ext e6).fr e7;replace O:=(((O.ext (e5.n1 f2)).fr f3).ext e6).fr e7;replace D:=(D.ext e6).fr e7;replace M:=(((M.ext (e5.n1 f2)).fr f3 (by intro k J a2;simp at J;subst J;have a9:=M.blk _ a2;have k3:=f8 _ a2;omega)).ext e6).fr e7 (by intro k J a2;simp at J;subst J;have a9:=M.blk _ a2;have k3:=f8 _ a2;omega);replace a4:=(a4.ext e6).fr e7;intro a h;refine z0i none (λwb w'=>Fr [] wb w') z2r ?_;intro d5 g3;have F2:=g3.size;replace hM:=hM.ext g3;replace J:=J.ext g3;replace b4:=b4.ext g3;replace I:=I.ext g3;replace O:=O.ext g3;replace D:=D.ext g3;replace M:=M.ext g3;replace a4:=a4.ext g3;replace a0:=a0.ext g3;have hC:Fr [] d5 d5:=Fr.refl _ _;have c9:=hM;have b7:=J;have o6:=b4;have b1:=I;have h6:=O;have m0:=D;have g0:=M;have j7:=a4;have d6:=a0;refine y3p (ι:=Nat×BdQ) h [(0,_),(3,_),(5,_),(9,_),(12,_),(13,_)] (.c6 U U U U U U) #[true,true,true,true,true,true,true,true,true,true,true,true,true,true,true,true,false,false] 2 (λp=>[(14,.pointer (some ⟨p.1,0,none⟩)),(65,.agg #[.slice p.2.f.1 p.2.f.2.1 p.2.f.2.2,.slice p.2.b.1 p.2.b.2.1 p.2.b.2.2]),(66,.int .i64 0)]) (λp w'=>Fr [] d5 w'/\(d5.heap.size<=p.1/\p.2.p=m.q.p.put o.b o.p (st++[(⟨o.y,(m.ys.getD j yq0).ct⟩:LId)]))/\Blk w' p.1 32 [.slice none 0 0,.slice none 0 0]/\BdO 37 87 (max wS.heap.size d5.heap.size) w' p.2) (λj3=>?_) ?_;refine y3p (ι:=(Nat×Nat)×Nat) h [(0,_),(3,_),(5,_),(9,_),(12,_),(13,_)] (.c6 U U U U U U) #[true,true,true,true,true,true,true,true,true,true,false,false,false,false,false,true,false,false] 7 (λp=>[(56,.agg #[.slice m.q.f.1 m.q.f.2.1 m.q.f.2.2,.slice m.q.b.1 m.q.b.2.1 m.q.b.2.2]),(58,.agg #[.int .u8 o.b,.int .i64 o.p]),(60,.slice (some ⟨p.1.1,0,none⟩) st.length st.length),(62,.slice (some ⟨p.1.2,0,none⟩) 1 1),(14,.pointer (some ⟨p.2,0,none⟩))]) (λp w'=>Fr [] d5 w'/\(d5.heap.size<=p.1.1/\d5.heap.size<=p.1.2)/\Lw.Own z1h 87 d5.heap.size w' (.slice (some ⟨p.1.1,0,none⟩) st.length st.length) st/\Lw.Own z1h 87 d5.heap.size w' (.slice (some ⟨p.1.2,0,none⟩) 1 1) [(⟨o.y,(m.ys.getD j yq0).ct⟩:LId)]/\d5.heap.size<=p.2/\Blk w' p.2 32 [.slice none 0 0,.slice none 0 0]) (λf9=>?_) ?_;refine y3p (ι:=Nat×Nat) h [(0,_),(3,_),(5,_),(9,_),(12,_),(13,_)] (.c6 U U U U U U) #[true,true,true,true,true,true,true,true,true,true,false,false,false,false,false,false,false,false] 8 (λp=>[(56,.agg #[.slice m.q.f.1 m.q.f.2.1 m.q.f.2.2,.slice m.q.b.1 m.q.b.2.1 m.q.b.2.2]),(58,.agg #[.int .u8 o.b,.int .i64 o.p]),(60,.slice (some ⟨p.1,0,none⟩) st.length st.length),(62,.slice (some ⟨p.2,0,none⟩) 1 1)]) (λp w'=>Fr [] d5 w'/\(d5.heap.size<=p.1/\d5.heap.size<=p.2)/\Lw.Own z1h 87 d5.heap.size w' (.slice (some ⟨p.1,0,none⟩) st.length st.length) st/\Lw.Own z1h 87 d5.heap.size w' (.slice (some ⟨p.2,0,none⟩) 1 1) [(⟨o.y,(m.ys.getD j yq0).ct⟩:LId)]) (λk7=>?_) ?_;refine z0e 0 h U λa h=>z0o 1 h U λa h=>z0c 2 h U z3e U λa h=>z1d (vs:=[_,_]) 3 h U (λ_ hw=>(b7.ext hw)) z5q U U λa h=>z0c 4 h U z4j U λa h=>z1d (vs:=[_,_]) 5 h U (λ_ hw=>(b1.ext hw)) z5z U U λa h=>z0e 6 h U λa h=>z0z 8 h U (λ_ hw=>j7.ext hw) z3j U λa h=>x6l 7 9 15 (by kernel_rfl) U U U ?_ ?_ ?_;refine z0m h (z0a U z0f) x2q (z3q _ st _ b4 (by omega)) ?_;rintro _ u7 ⟨e8,rfl,j8,hX,g4⟩ a h;have F3:=g4.size;replace hM:=hM.ext g4;replace J:=J.ext g4;replace b4:=b4.ext g4;replace I:=I.ext g4;replace O:=O.ext g4;replace D:=D.ext g4;replace M:=M.ext g4;replace a4:=a4.ext g4;replace a0:=a0.ext g4;replace hC:=hC.next g4;have i3:=λk J=>(hX.blk k J).2;refine z0b ?_;refine z2d 9 15 (by kernel_rfl) U ?_ ?_;refine z2w ([(⟨o.y,(m.ys.getD j yq0).ct⟩:LId)]) h (z0a U z0f) U z5d λa3 B2 hg a7 o9 hz a h=>?_;have b8.gk_62:ka.gk<a3:=by have:=J.lt;omega
 have b5:g5<a3:=by have:=I.lt;omega
 have b5:g9<a3:=by have:=O.lt;omega
 have e2:f0<a3:=by have:=D.lt;omega
 have e3:f7<a3:=by have:=a4.lt;omega
 have e4:f1<a3:=by have:=a0.lt;omega
 have F5:=o9.size;replace hX:=hX.ext o9;replace hC:=hC.next o9;refine z0b ?_;exact k7 (e8,a3) _ _ _ (by kernel_rfl) (h.sub (.d8 U U U U U U U U (.c2 U U))) ⟨hC,⟨by simp only;omega,by simp only;omega⟩,hX.low (by omega),a7.low (by omega)⟩;refine z1c h x9t U λB3 a1 h9 hz a h=>?_;obtain⟨Z,hg⟩:∃g,g=u7.heap.size:=⟨_,rfl⟩;rw[<-hg]at a1 h hz;have b8.gk_14:ka.gk<Z:=by have:=J.lt;omega
 have b2:g5<Z:=by have:=I.lt;omega
 have b2:g9<Z:=by have:=O.lt;omega
 have d1:f0<Z:=by have:=D.lt;omega
 have d3:f7<Z:=by have:=a4.lt;omega
 have d4:f1<Z:=by have:=a0.lt;omega
 have F6:=h9.size;replace J:=J.ext h9;replace I:=I.ext h9;replace O:=O.ext h9;replace D:=D.ext h9;replace a4:=a4.ext h9;replace a0:=a0.ext h9;replace hC:=hC.next h9;refine z0b ?_;refine z0d 9 U ?_;refine z2w ([(⟨o.y,(m.ys.getD j yq0).ct⟩:LId)]) h (z0a U z0f) U z5d λa3 B4 hg a7 m9 hz a h=>?_;have b8.gk_62:ka.gk<a3:=by have:=J.lt;omega
 have b5:g5<a3:=by have:=I.lt;omega
 have b5:g9<a3:=by have:=O.lt;omega
 have e2:f0<a3:=by have:=D.lt;omega
 have e3:f7<a3:=by have:=a4.lt;omega
 have e4:f1<a3:=by have:=a0.lt;omega
 have h4:Z<a3:=by have:=a1.lt;omega
 have F7:=m9.size;replace hX:=hX.ext (h9.n1 m9);replace a1:=a1.ext m9;replace hC:=hC.next m9;refine z0b ?_;exact f9 ((e8,a3),Z) _ _ _ (by kernel_rfl) (h.sub (.d8 U U U U U U U U (.c3 U U U))) ⟨hC,⟨by simp only;omega,by simp only;omega⟩,hX.low (by omega),a7.low (by omega),by simp only;omega,a1⟩;refine z2w ([(⟨o.y,(m.ys.getD j yq0).ct⟩:LId)]) h (z0a U z0f) U z5d λa3 u9 hg a7 g6 hz a h=>?_;have b8.gk_62:ka.gk<a3:=by have:=J.lt;omega
 have b5:g5<a3:=by have:=I.lt;omega
 have b5:g9<a3:=by have:=O.lt;omega
 have e2:f0<a3:=by have:=D.lt;omega
 have e3:f7<a3:=by have:=a4.lt;omega
 have e4:f1<a3:=by have:=a0.lt;omega
 have F8:=g6.size;replace hM:=hM.ext g6;replace J:=J.ext g6;replace b4:=b4.ext g6;replace I:=I.ext g6;replace O:=O.ext g6;replace D:=D.ext g6;replace M:=M.ext g6;replace a4:=a4.ext g6;replace a0:=a0.ext g6;replace hC:=hC.next g6;refine z0b ?_;refine z2d 7 15 (by kernel_rfl) U ?_ ?_;refine z0m h (z0a U z0f) x2q (z3q _ st _ b4 (by omega)) ?_;rintro _ B5 ⟨e8,rfl,j8,hX,n7⟩ a h;have F9:=n7.size;replace J:=J.ext n7;replace a7:=a7.ext n7;replace hC:=hC.next n7;have i3:=λk J=>(hX.blk k J).2;refine z0b ?_;exact k7 (e8,a3) _ _ _ (by kernel_rfl) (h.sub (.d8 U U U U U U U U (.c2 U U))) ⟨hC,⟨by simp only;omega,by simp only;omega⟩,hX.low (by omega),a7.low (by omega)⟩;refine z1c h x9t U λB6 a1 l8 hz a h=>?_;obtain⟨Z,hg⟩:∃g,g=u9.heap.size:=⟨_,rfl⟩;rw[<-hg]at a1 h hz;have b8.gk_14:ka.gk<Z:=by have:=J.lt;omega
 have b2:g5<Z:=by have:=I.lt;omega
 have b2:g9<Z:=by have:=O.lt;omega
 have d1:f0<Z:=by have:=D.lt;omega
 have d3:f7<Z:=by have:=a4.lt;omega
 have d4:f1<Z:=by have:=a0.lt;omega
 have p3:a3<Z:=by have:=(a7.blk a3 (by simp[z0v])).2;omega
 have G0:=l8.size;replace b4:=b4.ext l8;replace hC:=hC.next l8;refine z0b ?_;refine z0d 7 U ?_;refine z0m h (z0a U z0f) x2q (z3q _ st _ b4 (by omega)) ?_;rintro _ B7 ⟨e8,rfl,j8,hX,l9⟩ a h;have G1:=l9.size;replace J:=J.ext (l8.n1 l9);replace a7:=a7.ext (l8.n1 l9);replace a1:=a1.ext l9;replace hC:=hC.next l9;have i3:=λk J=>(hX.blk k J).2;refine z0b ?_;exact f9 ((e8,a3),Z) _ _ _ (by kernel_rfl) (h.sub (.d8 U U U U U U U U (.c3 U U U))) ⟨hC,⟨by simp only;omega,by simp only;omega⟩,hX.low (by omega),a7.low (by omega),by simp only;omega,a1⟩;refine z1c h x9t U λB8 a1 g7 hz a h=>?_;obtain⟨Z,hg⟩:∃g,g=d5.heap.size:=⟨_,rfl⟩;rw[<-hg]at a1 h hz;have b8.gk_14:ka.gk<Z:=by have:=J.lt;omega
 have b2:g5<Z:=by have:=I.lt;omega
 have b2:g9<Z:=by have:=O.lt;omega
 have d1:f0<Z:=by have:=D.lt;omega
 have d3:f7<Z:=by have:=a4.lt;omega
 have d4:f1<Z:=by have:=a0.lt;omega
 have G2:=g7.size;replace hM:=hM.ext g7;replace J:=J.ext g7;replace b4:=b4.ext g7;replace I:=I.ext g7;replace O:=O.ext g7;replace D:=D.ext g7;replace M:=M.ext g7;replace a4:=a4.ext g7;replace a0:=a0.ext g7;replace hC:=hC.next g7;refine z0b ?_;refine z2d 7 9 (by kernel_rfl) U ?_ ?_;refine z0m h (z0a U z0f) x2q (z3q _ st _ b4 (by omega)) ?_;rintro _ B9 ⟨e8,rfl,j8,hX,i0⟩ a h;have G3:=i0.size;replace J:=J.ext i0;replace I:=I.ext i0;replace O:=O.ext i0;replace D:=D.ext i0;replace a4:=a4.ext i0;replace a0:=a0.ext i0;replace a1:=a1.ext i0;replace hC:=hC.next i0;have i3:=λk J=>(hX.blk k J).2;refine z0b ?_;refine z0d 9 U ?_;refine z2w ([(⟨o.y,(m.ys.getD j yq0).ct⟩:LId)]) h (z0a U z0f) U z5d λa3 C0 hg a7 n8 hz a h=>?_;have b8.gk_62:ka.gk<a3:=by have:=J.lt;omega
 have b5:g5<a3:=by have:=I.lt;omega
 have b5:g9<a3:=by have:=O.lt;omega
 have e2:f0<a3:=by have:=D.lt;omega
 have e3:f7<a3:=by have:=a4.lt;omega
 have e4:f1<a3:=by have:=a0.lt;omega
 have h4:Z<a3:=by have:=a1.lt;omega
 have G4:=n8.size;replace a1:=a1.ext n8;replace hX:=hX.ext n8;replace hC:=hC.next n8;refine z0b ?_;exact f9 ((e8,a3),Z) _ _ _ (by kernel_rfl) (h.sub (.d8 U U U U U U U U (.c3 U U U))) ⟨hC,⟨by simp only;omega,by simp only;omega⟩,hX.low (by omega),a7.low (by omega),by simp only;omega,a1⟩;refine z2w ([(⟨o.y,(m.ys.getD j yq0).ct⟩:LId)]) h (z0a U z0f) U z5d λa3 C1 hg a7 f4 hz a h=>?_;have b8.gk_62:ka.gk<a3:=by have:=J.lt;omega
 have b5:g5<a3:=by have:=I.lt;omega
 have b5:g9<a3:=by have:=O.lt;omega
 have e2:f0<a3:=by have:=D.lt;omega
 have e3:f7<a3:=by have:=a4.lt;omega
 have e4:f1<a3:=by have:=a0.lt;omega
 have h4:Z<a3:=by have:=a1.lt;omega
 have G5:=f4.size;replace hM:=hM.ext f4;replace J:=J.ext f4;replace b4:=b4.ext f4;replace I:=I.ext f4;replace O:=O.ext f4;replace D:=D.ext f4;replace M:=M.ext f4;replace a4:=a4.ext f4;replace a0:=a0.ext f4;replace a1:=a1.ext f4;replace hC:=hC.next f4;refine z0b ?_;refine z0d 7 U ?_;refine z0m h (z0a U z0f) x2q (z3q _ st _ b4 (by omega)) ?_;rintro _ C2 ⟨e8,rfl,j8,hX,hq⟩ a h;have G6:=hq.size;replace hM:=hM.ext hq;replace J:=J.ext hq;replace b4:=b4.ext hq;replace I:=I.ext hq;replace O:=O.ext hq;replace D:=D.ext hq;replace M:=M.ext hq;replace a4:=a4.ext hq;replace a0:=a0.ext hq;replace a1:=a1.ext hq;replace a7:=a7.ext hq;replace hC:=hC.next hq;have A0:=hq;have i3:=λk J=>(hX.blk k J).2;refine z0b ?_;exact f9 ((e8,a3),Z) _ _ _ (by kernel_rfl) (h.sub (.d8 U U U U U U U U (.c3 U U U))) ⟨hC,⟨by simp only;omega,by simp only;omega⟩,hX.low (by omega),a7.low (by omega),by simp only;omega,a1⟩;rintro⟨e8,a3⟩ a v8 ⟨hC,⟨l2,l3⟩,hX,a7⟩ h;simp only at l2 l3 hX a7;have h2:=hC;have G7:=h2.size;replace hM:=hM.ext h2;replace J:=J.ext h2;replace b4:=b4.ext h2;replace I:=I.ext h2;replace O:=O.ext h2;replace D:=D.ext h2;replace M:=M.ext h2;replace a4:=a4.ext h2;replace a0:=a0.ext h2;have i3:=λk h_=>(hX.blk k h_).2;refine z2d 10 15 (by kernel_rfl) U ?_ ?_;have a8:=hX;refine z6f h U U hX a7.sl z5d U λu2 v9 hX i1 o5 a h=>?_;obtain⟨s5,s6,rfl,p6⟩:=hX.sl.form;have i3:=λk J=>(hX.blk k J).2;have G8:=i1.size;replace J:=J.fr i1 (λb3=>a8.neB J (by decide) b3);replace I:=I.fr i1 (λb3=>a8.neB I (by decide) b3);replace O:=O.fr i1 (λb3=>a8.neB O (by decide) b3);replace D:=D.fr i1 (λb3=>a8.neB D (by decide) b3);replace M:=M.fr i1 (Own.neO a8 M (by decide));replace a4:=a4.fr i1 (λb3=>by have:=(a8.blk _ b3).1;omega);replace a0:=a0.fr i1 (λb3=>a8.neB a0 (by decide) b3);replace hC:=hC.step i1 (λk J o3=>absurd (a8.blk k J).1 (by omega));refine z0b ?_;refine z2d 11 15 (by kernel_rfl) U ?_ ?_;refine z0m h (z0a U (z0a U (z0a U z0f))) v4t (by have x:=x0q m.q o.b n _ (st++[(⟨o.y,(m.ys.getD j yq0).ct⟩:LId)]) _ (c9.ext hC).b.at hX.sl hv (by rw[<-h8];exact hn) m1 m3 (by rw[<-h8];exact m2);rw[<-h8]at x;exact x) ?_;rintro _ x0 ⟨⟨q',rfl,hQ,g8⟩,q43⟩ a h;have G9:=q43.size;replace J:=J.ext q43;replace I:=I.ext q43;replace O:=O.ext q43;replace D:=D.ext q43;replace a4:=a4.ext q43;replace a0:=a0.ext q43;replace hC:=hC.next q43;refine z0b ?_;refine z0e 12 h U λa h=>z0n 13 h U λa h=>z0n 14 h U λa h=>z0d 15 U ?_;refine z1c h x9t U λC3 a1 n9 hz a h=>?_;obtain⟨Z,hg⟩:∃g,g=x0.heap.size:=⟨_,rfl⟩;rw[<-hg]at a1 h hz;have b8.gk_14:ka.gk<Z:=by have:=J.lt;omega
 have b2:g5<Z:=by have:=I.lt;omega
 have b2:g9<Z:=by have:=O.lt;omega
 have d1:f0<Z:=by have:=D.lt;omega
 have d3:f7<Z:=by have:=a4.lt;omega
 have d4:f1<Z:=by have:=a0.lt;omega
 have H0:=n9.size;first|replace hQ:=BdO.ext hQ n9|replace hQ:=BdO.tf hQ n9 (OffT.one a1 (by decide)) (OffT.one a1 (by decide))
 replace hC:=hC.next n9;refine z0b ?_;exact j3 (Z,q') _ _ _ (by kernel_rfl) (h.sub (.d8 U U U U U U U U (.cons U .nil))) ⟨hC,⟨by simp only;omega,g8⟩,a1,BdO.low hQ (by omega)⟩;refine z1c h x9t U λC4 a1 p0 hz a h=>?_;obtain⟨Z,hg⟩:∃g,g=v9.heap.size:=⟨_,rfl⟩;rw[<-hg]at a1 h hz;have b8.gk_14:ka.gk<Z:=by have:=J.lt;omega
 have b2:g5<Z:=by have:=I.lt;omega
 have b2:g9<Z:=by have:=O.lt;omega
 have d1:f0<Z:=by have:=D.lt;omega
 have d3:f7<Z:=by have:=a4.lt;omega
 have d4:f1<Z:=by have:=a0.lt;omega
 have H1:=p0.size;replace hX:=hX.ext p0;replace hC:=hC.next p0;refine z0b ?_;refine z0d 11 U ?_;refine z0m h (z0a U (z0a U (z0a U z0f))) v4t (by have x:=x0q m.q o.b n _ (st++[(⟨o.y,(m.ys.getD j yq0).ct⟩:LId)]) _ (c9.ext hC).b.at hX.sl hv (by rw[<-h8];exact hn) m1 m3 (by rw[<-h8];exact m2);rw[<-h8]at x;exact x) ?_;rintro _ C5 ⟨⟨q',rfl,hQ,g8⟩,q46⟩ a h;have H2:=q46.size;replace a1:=a1.ext q46;replace hC:=hC.next q46;refine z0b ?_;refine z0e 12 h U λa h=>z0n 13 h U λa h=>z0n 14 h U λa h=>?_;exact j3 (Z,q') _ _ _ (by kernel_rfl) (h.sub (.d8 U U U U U U U U (.cons U .nil))) ⟨hC,⟨by simp only;omega,g8⟩,a1,BdO.low hQ (by omega)⟩;refine z1c h x9t U λC6 a1 o0 hz a h=>?_;obtain⟨Z,hg⟩:∃g,g=v8.heap.size:=⟨_,rfl⟩;rw[<-hg]at a1 h hz;have b8.gk_14:ka.gk<Z:=by have:=J.lt;omega
 have b2:g5<Z:=by have:=I.lt;omega
 have b2:g9<Z:=by have:=O.lt;omega
 have d1:f0<Z:=by have:=D.lt;omega
 have d3:f7<Z:=by have:=a4.lt;omega
 have d4:f1<Z:=by have:=a0.lt;omega
 have H3:=o0.size;replace hX:=hX.ext o0;replace a7:=a7.ext o0;replace hC:=hC.next o0;refine z0b ?_;exact f9 ((e8,a3),Z) _ _ _ (by kernel_rfl) (h.sub (.d8 U U U U U U U U (.c3 U U U))) ⟨hC,⟨by simp only;omega,by simp only;omega⟩,hX.low (by omega),a7.low (by omega),by simp only;omega,a1⟩;rintro⟨⟨e8,a3⟩,Z⟩ a w48 ⟨hC,⟨l2,l3⟩,hX,a7,k2,a1⟩ h;simp only at l2 l3 hX a7 k2 a1;have i8:=hC;have H4:=i8.size;replace J:=J.ext i8;replace I:=I.ext i8;replace O:=O.ext i8;replace D:=D.ext i8;replace M:=M.ext i8;replace a4:=a4.ext i8;replace a0:=a0.ext i8;have i3:=λk h_=>(hX.blk k h_).2;refine z0d 10 U ?_;have a8:=hX;refine z6f h U U hX a7.sl z5d U λu2 C7 hX h3 o5 a h=>?_;obtain⟨s5,s6,rfl,p6⟩:=hX.sl.form;have i3:=λk J=>(hX.blk k J).2;have H5:=h3.size;replace J:=J.fr h3 (λb3=>a8.neB J (by decide) b3);replace I:=I.fr h3 (λb3=>a8.neB I (by decide) b3);replace O:=O.fr h3 (λb3=>a8.neB O (by decide) b3);replace D:=D.fr h3 (λb3=>a8.neB D (by decide) b3);replace M:=M.fr h3 (Own.neO a8 M (by decide));replace a4:=a4.fr h3 (λb3=>by have:=(a8.blk _ b3).1;omega);replace a0:=a0.fr h3 (λb3=>a8.neB a0 (by decide) b3);replace a1:=a1.fr h3 (λb3=>a8.neB a1 (by decide) b3);replace hC:=hC.step h3 (λk J o3=>absurd (a8.blk k J).1 (by omega));refine z0b ?_;refine z0d 11 U ?_;refine z0m h (z0a U (z0a U (z0a U z0f))) v4t (by have x:=x0q m.q o.b n _ (st++[(⟨o.y,(m.ys.getD j yq0).ct⟩:LId)]) _ (c9.ext hC).b.at hX.sl hv (by rw[<-h8];exact hn) m1 m3 (by rw[<-h8];exact m2);rw[<-h8]at x;exact x) ?_;rintro _ C8 ⟨⟨q',rfl,hQ,g8⟩,q50⟩ a h;have H6:=q50.size;replace a1:=a1.ext q50;replace hC:=hC.next q50;refine z0b ?_;refine z0e 12 h U λa h=>z0n 13 h U λa h=>z0n 14 h U λa h=>?_;exact j3 (Z,q') _ _ _ (by kernel_rfl) (h.sub (.d8 U U U U U U U U (.cons U .nil))) ⟨hC,⟨by simp only;omega,g8⟩,a1,BdO.low hQ (by omega)⟩;rintro⟨Z,q'⟩ a C9 ⟨hC,⟨k2,g8⟩,a1,hQ⟩ h;simp only at k2 g8 a1 hQ;have i2:=hC;have H7:=i2.size;replace J:=J.ext i2;replace I:=I.ext i2;replace O:=O.ext i2;replace D:=D.ext i2;replace M:=M.ext i2;replace a4:=a4.ext i2;replace a0:=a0.ext i2;refine z0d 16 U ?_;refine z0u h U a1 U x1f ?_ (h1:=(by first|(simp[Value.oneCell',S];done)|exact z2j.one (m.ys.getD j yq0)));clear h a;intro x1 i4 f5 hz a h;have H8:=f5.size;replace J:=J.fr f5;replace I:=I.fr f5;replace O:=O.fr f5;replace D:=D.fr f5;replace M:=M.fr f5 (by intro k J a2;simp at J;subst J;have a9:=M.blk _ a2;have k3:=f8 _ a2;omega);replace a4:=a4.fr f5;replace a0:=a0.fr f5;first|replace hQ:=BdO.ext hQ f5|replace hQ:=BdO.tf hQ f5 (OffT.one a1 (by decide)) (OffT.one a1 (by decide))
 replace hC:=hC.sp f5;clear a1 hz;have a1:Blk x1 Z _ [_,_]:=i4;clear i4;refine z0b ?_;refine z0d 17 U ?_;refine z0s h U λa h=>?_;refine z0b ?_;refine z0r ?_;clear hC c9 b7 o6 b1 h6 m0 g0 j7 d6;refine bk (h.sub (L':=[(0,_),(5,_),(9,_),(11,_),(13,_),(14,_)]) (.c6 U U U U U U)) ?_;exact jE (Z) (.c6 U U U U U U) ⟨(g3.z2 i2 f5),⟨q',⟨by omega,g8⟩,a1,BdO.low hQ (by omega)⟩⟩;rintro s7 D0 ⟨i9,⟨q',⟨k2,g8⟩,a1,hQ⟩⟩;have H9:=i9.size;have r9:=a1.lt;refine kpC [(0,_),(5,_),(9,_),(13,_),(14,.pointer (some ⟨s7,0,none⟩)),(11,.int .i64 0)] (.c6 U U U U U U) ?_;have s8:=x1l hQ h5.f (by omega);refine sq (sr (mv U (ne' U (nn (cd U (λc2=>?_) (λc2=>?_))))));exact absurd U c2;refine sk (tn (sr (mv U (z0l U a1 z5q (nlc U (fad U z3e ?_))))));replace hM:=h5.ext ((q1.z6 h0 e5 f2 f3 e6 e7).n1 i9);replace J:=((((J.ext (e5.n1 f2)).fr f3).ext e6).fr e7).ext i9;refine z4b (cs':=u3x ka { m with q:=q' }) U U hM.k (by intro u hu;simp at hu;rcases hu with rfl|rfl<;>rfl) x1f U (λD1 p9 k5 I0=>?_);replace hM:=hM.beds mtd (hQ.low (by omega)) p9 k5 s8;have J:=hM.k;have h5:=hM;have p4:=hM;have hF:Lw.Own z1h 87 wS.heap.size _ (slv m.fa) m.fl:=hM.f;clear p9;refine kpL [(0,_),(5,_),(9,_),(13,_)] (.c4 U U U U) (nn (sq ?_));replace I:=(((I.ext e6).fr e7).ext i9).fr k5;replace O:=(((((O.ext (e5.n1 f2)).fr f3).ext e6).fr e7).ext i9).fr k5;replace M:=(((((M.ext (e5.n1 f2)).fr f3 (by intro k J a2;simp at J;subst J;have a9:=M.blk _ a2;have k3:=f8 _ a2;omega)).ext e6).fr e7 (by intro k J a2;simp at J;subst J;have a9:=M.blk _ a2;have k3:=f8 _ a2;omega)).ext i9).fr k5 (by intro k J a2;simp at J;subst J;have a9:=M.blk _ a2;have k3:=f8 _ a2;omega);replace a0:=(a0.ext i9).fr k5;intro a h;refine z0i (some 9) (λwb w'=>Fr [] wb w') z2r ?_;intro s2 j0;have I1:=j0.size;replace hM:=hM.ext j0;replace J:=J.ext j0;replace I:=I.ext j0;replace O:=O.ext j0;replace M:=M.ext j0;replace a0:=a0.ext j0;have hC:Fr [] s2 s2:=Fr.refl _ _;have c9:=hM;have b7:=J;have b1:=I;have h6:=O;have g0:=M;have d6:=a0;refine z0e 0 h U λa h=>z0o 1 h U λa h=>z0c 2 h U z3a U λa h=>z0k 3 h U (λ_ hw=>b7.ext hw) U z9x U λa h=>z0c 4 h U z3g U λa h=>z0k 5 h U (λ_ hw=>b1.ext hw) U na5 U λa h=>z3b 6 h wn U (by first|exact IntWalk.u8_in _ (by omega)|rfl) U λa h=>z0z 7 h U (λ_ hw=>h6.ext hw) z6d U λa h=>z1m 8 (by kernel_rfl) (by kernel_rfl) (by kernel_rfl) hC (p:=j) h wn U z9u (by omega) (by omega) (by omega) U U λa h=>z0d 9 U ?_;refine z1b (i:=j) ((⟨true,(m.ys.getD j yq0).pl,(m.ys.getD j yq0).ct+1,false,sv0,[]⟩:YQ):YQ) h U hM.y.out (by rw[hM.ly];exact hj) U z6u λx2 o2 j6 _hz a h=>?_;replace hM:=hM.yarn mtd hj o2 j6 (Own.nil _);have h5:=hM;clear o2;have I2:=j6.size;replace I:=I.fr j6;replace O:=O.fr j6;replace M:=M.fr j6 (by intro k J a2;simp at J;subst J;have a9:=M.blk _ a2;have k3:=f8 _ a2;omega);replace a0:=a0.fr j6;have J:=hM.k;clear _hz;refine z1p ?_;refine z0r ?_;clear hC c9 b7 b1 h6 g0 d6;replace g1:=(((((((g1.ext (q1.n3 h0 e5 f2)).fr f3 (by intro k J a2;simp at J;subst J;first|exact j9 a2|exact k0 a2|(have:=k1 _ a2;omega))).ext e6).fr e7 (by intro k J a2;simp at J;subst J;first|exact j9 a2|exact k0 a2|(have:=k1 _ a2;omega))).ext i9).fr k5 (by intro k J a2;simp at J;subst J;first|exact j9 a2|exact k0 a2|(have:=k1 _ a2;omega))).ext j0).fr j6 (by intro k J a2;simp at J;subst J;first|exact j9 a2|exact k0 a2|(have:=k1 _ a2;omega));have d0:=hM.t.ins j (by rw[hM.lt];exact hj);have t8:=d0;have t9:∀k∈z0v (slv (m.ts.getD j tq0).1),k<x2.heap.size:=λk J=>(d0.blk k J).2;have y7:(m.ts.getD j tq0).2.length<=2048:=by have:=v2o m.ts j;omega
 refine bk (h.sub (L':=[(0,_),(5,_),(13,_)]) (.c3 U U U)) (tn (sq ?_));intro a h;refine z0i (some 20) (λwb w'=>Fr (z0v (slv (m.ts.getD j tq0).1)) wb w') z2r ?_;intro s3 j1;have I3:=j1.size;replace hM:=hM.ext j1;replace J:=J.ext j1;replace g1:=g1.ext j1;replace I:=I.ext j1;replace M:=M.ext j1;replace a0:=a0.ext j1;replace d0:=d0.ext j1;have hC:Fr (z0v (slv (m.ts.getD j tq0).1)) s3 s3:=Fr.refl _ _;have c9:=hM;have b7:=J;have o7:=g1;have b1:=I;have g0:=M;have d6:=a0;have d7:=d0;refine z0e 0 h U λa h=>z0o 1 h U λa h=>z0c 2 h U y1k U λa h=>z0k 3 h U (λ_ hw=>b7.fr hw (λk_=>Own.neB d7 b7 (by decide) k_)) U y6m U λa h=>z0c 4 h U z3g U λa h=>z0k 5 h U (λ_ hw=>b1.fr hw (λk_=>Own.neB d7 b1 (by decide) k_)) U na5 U λa h=>z3b 6 h wn U (by first|exact IntWalk.u8_in _ (by omega)|rfl) U λa h=>z0e 7 h U λa h=>z0o 8 h U λa h=>z0c 9 h U y1k U λa h=>z0k 10 h U (λ_ hw=>b7.fr hw (λk_=>Own.neB d7 b7 (by decide) k_)) U y6m U λa h=>?_;refine z0c 11 h U z3g U λa h=>z0k 12 h U (λ_ hw=>b1.fr hw (λk_=>Own.neB d7 b1 (by decide) k_)) U na5 U λa h=>z3b 13 h wn U (by first|exact IntWalk.u8_in _ (by omega)|rfl) U λa h=>z1f (p:=j) (tq0) 14 h U (show Sl z3l _ ka.TV m.ts from hM.t.out.sl) U y3d U λx4 p7 a h=>z3c 15 h U (λ_ hw=>p7 _ (z1l c9.t.out hw (z2p d7 (by decide))).sl) x0m U λa h=>z0z 16 h U (λ_ hw=>d6.fr hw (λk_=>by have:=r4 _ k_;omega)) x7r U λa h=>z0d 17 U ?_;refine z2w ([(⟨o.b,(m.ys.getD j yq0).nw,th,sn,ths,(m.ys.getD j yq0).pes⟩:LpQ)]) h (z0a U z0f) U x3r λj2 D2 hg o4 k6 hz a h=>?_;have b8.gk_100:ka.gk<j2:=by have:=J.lt;omega
 have q0:g5<j2:=by have:=I.lt;omega
 have p2:f1<j2:=by have:=a0.lt;omega
 have I4:=k6.size;replace hM:=hM.ext k6;replace g1:=g1.ext k6;replace M:=M.ext k6;replace d0:=d0.ext k6;replace hC:=hC.next k6;refine z0b ?_;refine z0d 18 U ?_;have m4:=d0;refine z6f h U U d0 o4.sl x3r U λy0 D3 d0 o1 m5 a h=>?_;have p4:=hM;have s9:LpO τd wS.heap.size _ (⟨o.b,(m.ys.getD j yq0).nw,th,sn,ths,(m.ys.getD j yq0).pes⟩:LpQ):=⟨g1,M.low (by omega)⟩;have u0:=z1l hM.t.out o1 (z2p m4 (by decide));have u1:=o1;obtain⟨AR,cR,rfl,_⟩:=d0.sl.form;have v0y:=d0;have I5:=o1.size;replace hC:=hC.step o1 (λk_ h_ _=>h_);refine z0b ?_;refine z0d 19 U ?_;refine y5o (p:=j) (E:=z3l) h U U y3d (by omega) (by omega) (by omega) U λa h=>?_;refine z0b ?_;refine z0d 20 U ?_;refine z1b (i:=j) (((AR,((m.ts.getD j tq0).2++[(⟨o.b,(m.ys.getD j yq0).nw,th,sn,ths,(m.ys.getD j yq0).pes⟩:LpQ)]).length,cR),((m.ts.getD j tq0).2++[(⟨o.b,(m.ys.getD j yq0).nw,th,sn,ths,(m.ys.getD j yq0).pes⟩:LpQ)])):TQ) h U u0 (by rw[hM.lt];exact hj) U j5i λD4 r7 hq _hz a h=>?_;replace hM:=p4.row mtd (u:=(AR,((m.ts.getD j tq0).2++[(⟨o.b,(m.ys.getD j yq0).nw,th,sn,ths,(m.ys.getD j yq0).pes⟩:LpQ)]).length,cR)) hj s9 r6 v0y u1 m5 r7 hq;clear hq _hz;refine z1p ?_;refine z0r ?_;clear hC c9 b7 o7 b1 g0 d6 d7;refine bk (h.sub (L':=[]) .nil) (tn (sr (asg U (nn (rt (r1 results114 U ?_))))));exact⟨_,rfl,MRet.ok (by unfold x1m;rw[l0,if_neg (λe=>e k9),if_neg (show ¬2048<=z3t m.p.tb by have:m.p.tb=z1w m.ts:=rfl;rw[this];omega)];exact congrArg Except.ok (j1o m j p8 g8).symm) hM⟩
end Go.Proofs.YtpgdchkdlgkmgaaGreatDoor
namespace Go.G08
open Go.Lw Go.G21
theorem z5i (c:Cx)(l:List Cx):crM (c::l)=((c.a,c.b),.int .i64 c.n)::crM l:=rfl
theorem z8d {a b:LId}{c:Cx}:isC a b c=true↔c.a=a/\c.b=b:=by unfold isC;simp
theorem v6h (a b:LId):∀l:List Cx,(z2k (crM l) (a,b)).getD (.int .i64 0)=.int .i64 (y9f l a b)
 | []=>rfl
 | c::l=>by
  rw[z5i]
  unfold z2k y9f
  rw[List.find?_cons]
  by_cases h:c.a=a/\c.b=b
  ·rw[if_pos (by rw[<-h.1,<-h.2]),z8d.2 h];rfl
  have D:isC a b c=false:=by cases e:isC a b c;rfl;exact absurd (z8d.1 e) h
  rw[if_neg (λe=>h ⟨(Prod.mk.inj e).1.symm,(Prod.mk.inj e).2.symm⟩),D]
  exact v6h a b l
theorem v5l {a b:LId}{l:List Cx}(h:(a,b)∉(crM l).map (·.1)):∀c∈l,isC a b c=false:=λc J=>by
 cases e:isC a b c
 ·rfl
 obtain⟨D,I⟩:=z8d.1 e
 refine absurd ?_ h
 unfold crM
 rw[List.map_map]
 exact List.mem_map.2 ⟨c,J,by simp[D,I]⟩
theorem v3m (a b:LId)(n:Int):∀l:List Cx,((crM l).map (·.1)).Nodup->crM (x0n l a b n)=z3u (crM l) (a,b) (.int .i64 n)
 | [],_=>rfl
 | c::l,hn=>by
  rw[z5i,List.map_cons]at hn
  obtain⟨n1,n2⟩:=List.nodup_cons.1 hn
  have ih:=v3m a b n l n2
  by_cases h:c.a=a/\c.b=b
  ·obtain⟨D,I⟩:=h
   subst D;subst I
   have hl:l.map (λx=>if isC c.a c.b x then (⟨c.a,c.b,n⟩:Cx) else x)=l:=by
    have:=v5l (l:=l) n1
    conv=>rhs;rw[<-List.map_id l]
    refine List.map_congr_left λx hx=>?_
    rw[this x hx];rfl
   have J:isC c.a c.b c=true:=z8d.2 ⟨rfl,rfl⟩
   have O:x0n (c::l) c.a c.b n=⟨c.a,c.b,n⟩::l:=by
    unfold x0n
    rw[List.any_cons,J,Bool.true_or,if_pos U,List.map_cons,J,if_pos U,hl]
   have M:z3u (((c.a,c.b),Value.int .i64 c.n)::crM l) (c.a,c.b) (.int .i64 n)=((c.a,c.b),.int .i64 n)::crM l:=by
    unfold z3u;simp[List.findIdx?_cons]
   rw[O,z5i,z5i,M]
  have D:isC a b c=false:=by cases e:isC a b c;rfl;exact absurd (z8d.1 e) h
  have I:¬((a,b):LId×LId)=(c.a,c.b):=λe=>h ⟨(Prod.mk.inj e).1.symm,(Prod.mk.inj e).2.symm⟩
  have Z:x0n (c::l) a b n=c::x0n l a b n:=by
   unfold x0n
   rw[List.any_cons,D,Bool.false_or]
   split
   ·rw[List.map_cons,D];rfl
   rfl
  rw[Z,z5i,ih]
  unfold z3u
  rw[z5i,List.map_cons,List.findIdx?_cons,if_neg (by simpa using I)]
  cases hf:((crM l).map (·.1)).findIdx? (λx=>decide ((a,b)=x)) with
  | none=>rfl
  | some i=>rfl
theorem v0j (a b:LId):∀l:List Cx,((crM l).map (·.1)).Nodup->crM (v5v l a b)=z5f (crM l) (a,b)
 | [],_=>rfl
 | c::l,hn=>by
  rw[z5i,List.map_cons]at hn
  obtain⟨n1,n2⟩:=List.nodup_cons.1 hn
  have ih:=v0j a b l n2
  by_cases h:c.a=a/\c.b=b
  ·obtain⟨D,I⟩:=h
   subst D;subst I
   have hl:l.filter (λx=>!isC c.a c.b x)=l:=List.filter_eq_self.2 λx hx=>by
    rw[v5l (l:=l) n1 x hx];rfl
   have Z:isC c.a c.b c=true:=z8d.2 ⟨rfl,rfl⟩
   have M:v5v (c::l) c.a c.b=l:=by
    unfold v5v
    rw[List.filter_cons,Z,hl];rfl
   have J:z5f (((c.a,c.b),Value.int .i64 c.n)::crM l) (c.a,c.b)=crM l:=by
    unfold z5f;simp[List.findIdx?_cons]
   rw[M,z5i,J]
  have D:isC a b c=false:=by cases e:isC a b c;rfl;exact absurd (z8d.1 e) h
  have I:¬((a,b):LId×LId)=(c.a,c.b):=λe=>h ⟨(Prod.mk.inj e).1.symm,(Prod.mk.inj e).2.symm⟩
  have O:v5v (c::l) a b=c::v5v l a b:=by
   unfold v5v
   rw[List.filter_cons,D];rfl
  rw[O,z5i,ih]
  unfold z5f
  rw[z5i,List.map_cons,List.findIdx?_cons,if_neg (by simpa using I)]
  cases hf:((crM l).map (·.1)).findIdx? (λx=>decide ((a,b)=x)) with
  | none=>rfl
  | some i=>rfl
section
variable {α κ:Type} [DecidableEq κ] {E:Enc α} {T base g:Nat} {w w':World} {v:Value} {ys:List α} {V:κ->Value} {em:List (κ×Value)}
theorem j2i (h:Lw.Own E T base w v ys)(M:MapL V w g em)(hf:Fr [g] w w'):Lw.Own E T base w' v ys:=h.fr hf λk D J=>by
 rw[List.mem_singleton]at D;subst D
 obtain⟨cs,I⟩:=y4j h _ J
 exact M.f.ne_blk I U
theorem j2g {k:Nat}{cs:List Value}(h:Blk w k T cs)(I:MapL V w g em)(hf:Fr [g] w w'):Blk w' k T cs:=h.fr hf λD=>by
 rw[List.mem_singleton]at D;subst D
 exact I.f.ne_blk h U
end
theorem FrM.un {τ:TyK}{Mt:Nat}{wS w w':World}{a:MA}(h:FrM τ Mt wS { a with wk:=w } w')(D:FrM τ Mt wS a w):FrM τ Mt wS a w':=⟨h.fr,D.kp.trans h.kp⟩
theorem MkM.gcne {τ:TyK}{Mt:Nat}{wS w:World}{a:MA}{m:MQ}(h:MkM τ Mt wS a w m){k T:Nat}{cs:List Value}(hb:Blk w k T cs):k≠a.gc:=λe=>by
 subst e;exact h.c.f.ne_blk hb U
theorem KpM.own {α:Type}{E:Enc α}{I:List Nat}{g T base:Nat}{w w':World}{v:Value}{ys:List α}(h:KpM I g w w')(D:Lw.Own E T base w v ys)(hg:∀k∈z0v v,k≠g)(Z:T∉I):Lw.Own E T base w' v ys:=by
 rcases D with D|⟨k,cap,cur,rfl,J,M,O⟩
 exact .inl D;have hb:Blk w k T cur.toList:=M;exact .inr ⟨k,cap,cur,rfl,J,h.blk hb (hg k (by simp[z0v])) Z,O⟩
theorem MkM.gcneO {τ:TyK}{Mt:Nat}{wS w:World}{a:MA}{m:MQ}{α:Type}{E:Enc α}{T base:Nat}{v:Value}{ys:List α}(h:MkM τ Mt wS a w m)(J:Lw.Own E T base w v ys):∀k∈z0v v,k≠a.gc:=λk I=>by
 obtain⟨cs,D⟩:=y4j J k I
 exact h.gcne D
theorem y7k {p:MSt}{d:Int}:∀ {l l':List Yn},l'.length=l.length->(∀j,j<l.length->z9k p d (l.getD j yn0)=.ok (l'.getD j yn0))->z6s p d l=.ok l'
 | [],[],_,_=>rfl
 | [],_::_,h,_=>by simp at h
 | _::_,[],h,_=>by simp at h
 | y::l,y'::l',hl,h=>by
  have D:=h 0 (by simp)
  simp only[List.getD_cons_zero]at D
  have I:=y7k (p:=p) (d:=d) (l:=l) (l':=l') (by simpa using hl) λj J=>by
   have:=h (j+1) (by simp;omega)
   simpa only[List.getD_cons_succ] using this
  unfold z6s
  rw[D,I]
theorem y7w {p:MSt}{d e:Int}:∀ {l:List Yn} {i:Nat},i<l.length->(∀j,j<i->∃I,z9k p d (l.getD j yn0)=.ok I)->z9k p d (l.getD i yn0)=.error e->z6s p d l=.error e
 | y::l,0,_,_,h=>by
  simp only[List.getD_cons_zero]at h
  unfold z6s;rw[h]
 | y::l,i+1,hi,hj,h=>by
  obtain⟨I,D⟩:=hj 0 (by omega)
  simp only[List.getD_cons_zero]at D
  have J:=y7w (p:=p) (d:=d) (e:=e) (l:=l) (i:=i) (by simpa using hi) (λj hl=>by
   have:=hj (j+1) (by omega)
   simpa only[List.getD_cons_succ] using this) (by simpa only[List.getD_cons_succ] using h)
  unfold z6s
  rw[D,J]
theorem y1r {c:Cx}:∀ {r l l':List Cx},z6m l r=.ok l'->z6m l (r++[c])=x3n l' c
 | [],l,l',h=>by
  cases h
  show z6m l [c]=x3n l c
  unfold z6m
  cases x3n l c<;>rfl
 | x::r,l,l',h=>by
  rw[List.cons_append]
  unfold z6m at h ⊢
  cases e:x3n l x with
  | error e'=>rw[e]at h;cases h
  | ok l1=>rw[e]at h;simp only at h ⊢;exact y1r h
theorem x3f {e:Int}:∀ {r l:List Cx} (s:List Cx),z6m l r=.error e->z6m l (r++s)=.error e
 | [],l,s,h=>by cases h
 | x::r,l,s,h=>by
  rw[List.cons_append]
  unfold z6m at h ⊢
  cases e1:x3n l x with
  | error e'=>rw[e1]at h;exact h
  | ok l1=>rw[e1]at h;simp only at h ⊢;exact x3f s h
theorem j7m {B:Bd}{r d:Int}:∀c∈z4g B r d,-1<=c.n/\c.n<=1:=by
 have I:∀i,∀c∈x9v B r d i,-1<=c.n/\c.n<=1:=λi c D=>by
  obtain⟨k,_,J⟩:=List.mem_flatMap.1 D;obtain⟨x,_,M⟩:=List.mem_flatMap.1 J;obtain⟨o,_,rfl⟩:=List.mem_map.1 M;unfold x6x;split<;>(simp only;omega)
 intro c D;unfold z4g at D;split at D;exact I _ c (List.mem_reverse.1 D);exact I _ c D
theorem j3v {D:Int}(h:v0f D):¬Int.tmod D 2=0/\-9223372036854775808<=D/\D<=9223372036854775807:=by
 unfold v0f at h;omega
def y2s (p:MSt)(d:Int):MR:=match z6s p d p.ys with
  | .error e=>.error e
  | .ok ys=>match z6m p.cr (z4g p.B p.rk d) with
    | .error e=>.error e
    | .ok cr=>.ok { p with ys:=ys,cr:=cr }
def u5r (p:MSt)(c:Cx):MR:=match x3n p.cr c with
  | .error e=>.error e
  | .ok l=>.ok { p with cr:=l }
abbrev z5p (c:Cx):LId×LId:=if 0<z6o c.a c.b then (c.b,c.a) else (c.a,c.b)
section
variable {τ:TyK} {Mt:Nat} {wS w w':World} {a:MA} {m:MQ} {l:List Cx}
theorem MkM.cross (h:MkM τ Mt wS a w m)(Z:MapL crK w' a.gc (crM l))(hf:Fr [a.gc] w w'):MkM τ Mt wS a w' { m with cr:=l }:=by
 have o:∀ {α:Type} {E:Enc α} {T b:Nat} {v:Value} {ys:List α},Lw.Own E T b w v ys->Lw.Own E T b w' v ys:=λO=>j2i O h.c hf;refine⟨j2g h.k h.c hf,⟨⟨o h.b.f.1,λp J=>o (h.b.f.2 p J)⟩,⟨o h.b.b.1,λp J=>o (h.b.b.2 p J)⟩⟩,⟨o h.y.out,λi D=>o (h.y.ins i D)⟩,⟨o h.t.out,λi D=>o (h.t.ins i D),h.t.off,λi D q M=>⟨o (h.t.lps i D q M).1,o (h.t.lps i D q M).2⟩⟩,Z,o h.f,h.fb,h.ft,h.ly,h.lt,h.gk,h.gc,h.fr.step hf (λk I=>.inl (List.mem_singleton.1 I)) λk I a0=>?_⟩;rw[List.mem_singleton]at I;have:=h.gc;omega
end
theorem v8v {a b:LId}{l:List Cx}(h:∀c∈l,-1048576<=c.n/\c.n<=1048576):-1048576<=y9f l a b/\y9f l a b<=1048576:=by
 unfold y9f;cases e:l.find? (isC a b) with
 | none=>simp
 | some c=>exact h c (List.mem_of_find?_eq_some e)
theorem v4x (l:List Cx)(c:Cx):x3n l c=if y9f l (z5p c).1 (z5p c).2+c.n < -1048576\/1048576<y9f l (z5p c).1 (z5p c).2+c.n then .error 3 else if y9f l (z5p c).1 (z5p c).2+c.n=0 then .ok (v5v l (z5p c).1 (z5p c).2) else .ok (x0n l (z5p c).1 (z5p c).2 (y9f l (z5p c).1 (z5p c).2+c.n)):=rfl
theorem x4j (p:MSt)(c:Cx):u5r p c=if y9f p.cr (z5p c).1 (z5p c).2+c.n < -1048576\/1048576<y9f p.cr (z5p c).1 (z5p c).2+c.n then .error 3 else if y9f p.cr (z5p c).1 (z5p c).2+c.n=0 then .ok { p with cr:=v5v p.cr (z5p c).1 (z5p c).2 } else .ok { p with cr:=x0n p.cr (z5p c).1 (z5p c).2 (y9f p.cr (z5p c).1 (z5p c).2+c.n) }:=by
 unfold u5r;rw[v4x];generalize y9f p.cr (z5p c).1 (z5p c).2+c.n=n;by_cases h1:n < -1048576\/1048576<n;rw[if_pos h1,if_pos h1];rw[if_neg h1,if_neg h1];by_cases h2:n=0;rw[if_pos h2,if_pos h2];rw[if_neg h2,if_neg h2]
end Go.G08
namespace Go.Proofs.YtpgdchkdlgkmgaaGreatDoor
open Go.Lw Go.G21 Go.G08 _root_.Go.Proofs.Tryz
set_option maxHeartbeats 1000000 in
theorem u9q (wS:World)(ka:MA)(m:MQ)(o:MOp)(w0:World)(hM:MkM τd 137 wS ka w0 m)(hi:MInv m.p)(hy:1<=o.y/\o.y<=6)(hn:z4v o.b o.p=0):Rets prog 67 #[.pointer (some ⟨ka.gk,0,none⟩),opV o] w0 λr w'=>MRet τd 137 wS ka (y3f m.p o) r w':=by
 have b9:=hM.fr.size;have b1:=hM.gk;have b3:=hM.k.lt;refine we [(0,.pointer (some ⟨ka.gk,0,none⟩)),(1,opV o)] func67 U ntmps67 U (.c2 U U) ?_;have M:=hM;refine sr (bx U (λg3 w1 b7 D q1 z1=>(asg U (nn (sr (mv U (z0l U D y6b ?_)))))));replace hM:=M.ext q1;refine cl (ev2 U) (mkC func112) (x5e wS ka m o _ hM hi hy hn) U ?_;rintro _ w2 ⟨rfl,q2⟩;have z2:=q2.size;refine mv U (xt U (xt U (xt U (asg U (asg U (asg U (kpL [(0,_),(3,_),(5,_),(6,_),(7,_)] (.c5 U U U U U) (nn (sq (sr (mv U (ne' U (nn (cd U (λc0=>?_) (λc0=>?_)))))))))))))));refine sr (mv U (asg U (kpL [(4,_)] (.cons U .nil) (nn (rt (tr (r1 results67 U ?_)))))));replace hM:=M.ext (q1.n1 q2);exact⟨_,rfl,MRet.err (by unfold y3f;rw[if_pos c0]) c0 hM.fr⟩;have J:z8k m.p o=0:=Classical.not_not.1 c0;refine sk (tn (sq (sr (mv U (fad U z3g ?_)))));replace D:=D.ext q2;refine z0g U D U na5 (mv U (mv U ?_));replace hM:=M.ext (q1.n1 q2);have a3:=hM.fr;refine cl (z0a U (z0a U (z0a U (z0a U z0f)))) (mkC func113) (x4c wS { ka with wk:=w2 } m o.y (if z8k m.p o=0 then x8w m.p o else 0) (if z8k m.p o=0 then (z4t o.b o.p m.rk) else 0) _ hM.mark hi hy) U ?_;intro _ w3 hR;obtain⟨rfl,a1,m1,a9⟩:=hR.split;have z3:=a1.kp.size;simp only at z3;replace D:=a1.kp.blk D (by have:=hM.gcne D;exact this) (by decide);refine asg U (kpL [(0,_),(3,_),(8,_)] (.c3 U U U) (nn (sr (mv U (ne' U (nn (cd U (λc1=>?_) (λc1=>?_))))))));refine sr (mv U (asg U (nn (rt (tr (r1 results67 U ?_))))));exact⟨_,rfl,MRet.err (by have hx:=z5x c1;unfold y3f;rw[if_neg c0];rw[if_pos J,if_pos J]at hx;rw[hx,if_pos J,if_pos J]) c1 (a1.un a3)⟩;obtain⟨a8,a2⟩:=a9 (Classical.not_not.1 c1);rw[if_pos J,if_pos J]at a2;obtain⟨a4,b6,b8⟩:=y1u hi hy a2;obtain⟨⟨hf,hb⟩,h4,a7⟩:=z3x a4.B;replace hM:=a8.unmark a3;have M:=hM;have hk:=hM.k;have b2:=hk.lt;refine sk (tn (sq ?_));intro a h;refine z0i (some 9) (λwb w'=>Fr [] wb w') z2r ?_;intro w4 q4;have z4:=q4.size;replace D:=D.ext q4;replace hM:=hM.ext q4;replace hk:=hk.ext q4;have hC:Fr [] w4 w4:=Fr.refl _ _;have I:=D;have Z:=hM;have a0:=hk;refine z0e 0 h U λa h=>z0z 1 h U (λ_ hw=>I.ext hw) y6b U λa h=>z0e 2 h U λa h=>z0o 3 h U λa h=>z0c 4 h U z3e U λa h=>z1d (vs:=[_,_]) 5 h U (λ_ hw=>(a0.ext hw)) z5q U U λa h=>z0c 6 h U z4j U λa h=>z1d (vs:=[_,_]) 7 h U (λ_ hw=>(I.ext hw)) z5z U U λa h=>z0d 8 U ?_;refine z0m h (z0a U (z0a U z0f)) u2x (x2i m1.q o.b o.p _ hM.b.at (by have:=z3m hn;omega) hf hb h4 a7) ?_;rintro c9 w5 ⟨O,hq⟩ a h;have z5:=hq.size;replace D:=D.ext hq;replace hM:=hM.ext hq;replace hk:=hk.ext hq;replace hC:=hC.next hq;have q5:=hq;rw[y7g hn]at O;obtain⟨a5,a6,rfl,b0⟩:=O.sl.form;refine z0b ?_;refine z0d 9 U ?_;refine z0m h (z0a U (z0a U (z0a U (z0a U z0f)))) (mkC func114) (v2q wS ka m1 o (a5,(m1.q.p.at o.b o.p).length,a6) (m1.q.p.at o.b o.p) (.slice none 0 0) [] _ hM a4 hy hn (O.low (by omega)) (λk hk hb=>by have b4:=(O.blk k hk).1;have b5:=(Z.f.blk k hb).2;omega) (Sl.nil _) (.inl U)) ?_;rintro d0 w6 hR a h;refine z1p ?_;refine z0d 10 U ?_;refine z0s h U λa h=>?_;refine z1p ?_;refine z0r ?_;clear hC I Z a0;refine bk (h.sub (L':=[(4,_)]) (.cons U .nil)) (tn (rt (r1 results67 U ?_)));exact⟨_,rfl,by rw[show y3f m.p o=_ from by unfold y3f;rw[if_neg c0,a2]];exact hR⟩
set_option maxHeartbeats 1000000 in
theorem u7b (wS:World)(ka:MA)(m:MQ)(o:MOp)(w0:World)(hM:MkM τd 137 wS ka w0 m)(hi:MInv m.p)(hy:1<=o.y/\o.y<=6)(hn:z4v o.b o.p=0):Rets prog 68 #[.pointer (some ⟨ka.gk,0,none⟩),opV o] w0 λr w'=>MRet τd 137 wS ka (y2m m.p o) r w':=by
 have b8:=hM.fr.size;have b0:=hM.gk;have b2:=hM.k.lt;refine we [(0,.pointer (some ⟨ka.gk,0,none⟩)),(1,opV o)] func68 U ntmps68 U (.c2 U U) ?_;have M:=hM;refine sr (bx U (λg3 w1 b6 D q1 z1=>(asg U (nn (sr (mv U (z0l U D y6b ?_)))))));replace hM:=M.ext q1;refine cl (ev2 U) (mkC func112) (x5e wS ka m o _ hM hi hy hn) U ?_;rintro _ w2 ⟨rfl,q2⟩;refine mv U (xt U (xt U (xt U (asg U (asg U (asg U (kpL [(0,_),(3,_),(5,_),(6,_),(7,_)] (.c5 U U U U U) (nn (sq (sr (mv U (ne' U (nn (cd U (λc0=>?_) (λc0=>?_)))))))))))))));refine sr (mv U (asg U (kpL [(4,_)] (.cons U .nil) (nn (rt (tr (r1 results68 U ?_)))))));replace hM:=M.ext (q1.n1 q2);exact⟨_,rfl,MRet.err (by unfold y2m;rw[if_pos c0]) c0 hM.fr⟩;have I:z8k m.p o=0:=Classical.not_not.1 c0;refine sk (tn (sq (sr (mv U (fad U z3g ?_)))));replace D:=D.ext q2;refine z0g U D U na5 (mv U (mv U ?_));replace hM:=M.ext (q1.n1 q2);have a4:=hM.fr;refine cl (z0a U (z0a U (z0a U (z0a U z0f)))) (mkC func113) (x4c wS { ka with wk:=w2 } m o.y (if z8k m.p o=0 then x8w m.p o else 0) (if z8k m.p o=0 then (z4t o.b o.p m.rk) else 0) _ hM.mark hi hy) U ?_;intro _ w3 hR;obtain⟨rfl,a1,m1,a8⟩:=hR.split;have z3:=a1.kp.size;simp only at z3;replace D:=a1.kp.blk D (by have:=hM.gcne D;exact this) (by decide);refine asg U (kpL [(0,_),(3,_),(8,_)] (.c3 U U U) (nn (sr (mv U (ne' U (nn (cd U (λc1=>?_) (λc1=>?_))))))));refine sr (mv U (asg U (nn (rt (tr (r1 results68 U ?_))))));exact⟨_,rfl,MRet.err (by have hx:=z5x c1;unfold y2m;rw[if_neg c0];rw[if_pos I,if_pos I]at hx;rw[hx,if_pos I,if_pos I]) c1 (a1.un a4)⟩;obtain⟨a7,O⟩:=a8 (Classical.not_not.1 c1);rw[if_pos I,if_pos I]at O;obtain⟨a5,b5,b7⟩:=y1u hi hy O;obtain⟨⟨hf,hb⟩,h4,a6⟩:=z3x a5.B;replace hM:=a7.unmark a4;have M:=hM;have Z:=hM.k;have b1:=Z.lt;refine sk (tn (sq ?_));intro a h;refine z0i none (λwb w'=>Fr [] wb w') z2r ?_;intro w4 q4;replace D:=D.ext q4;replace hM:=hM.ext q4;replace Z:=Z.ext q4;have hC:Fr [] w4 w4:=Fr.refl _ _;have J:=D;have a3:=hM;have a0:=Z;refine z0e 0 h U λa h=>z0o 1 h U λa h=>z0c 2 h U z3e U λa h=>z1d (vs:=[_,_]) 3 h U (λ_ hw=>(a0.ext hw)) z5q U U λa h=>z0c 4 h U z4j U λa h=>z1d (vs:=[_,_]) 5 h U (λ_ hw=>(J.ext hw)) z5z U U λa h=>z0d 6 U ?_;refine z0m h (z0a U (z0a U z0f)) u2x (x2i m1.q o.b o.p _ hM.b.at (by have:=z3m hn;omega) hf hb h4 a6) ?_;rintro b9 w5 ⟨a2,hq⟩ a h;replace D:=D.ext hq;replace hM:=hM.ext hq;replace Z:=Z.ext hq;replace hC:=hC.next hq;have q5:=hq;rw[y7g hn]at a2;obtain⟨b3,b4,rfl,a9⟩:=a2.sl.form;refine z0b ?_;refine z0d 7 U ?_;refine z0s h U λa h=>?_;refine z0b ?_;refine z0r ?_;clear hC J a3 a0;refine bk (h.sub (L':=[(0,_),(3,_),(9,_)]) (.c3 U U U)) (tn (sq (sr (mv U (lnS U underlying37 (ge' U U (nn (cd U (λc2=>?_) (λc2=>?_)))))))));refine sr (asg U (nn (rt (tr (r1 results68 U ?_)))));exact⟨_,rfl,MRet.err (by unfold y2m;rw[if_neg c0,O];simp only;rw[if_pos (show 4<=(m1.q.p.at o.b o.p).length by omega)]) (by decide) hM.fr⟩;refine sk (tn (sr (mv U (z0l U D y6b (mv U (cl (z0a U (z0a U (z0a U (z0a U z0f)))) (mkC func114) (v2q wS ka m1 o sv0 [] _ (m1.q.p.at o.b o.p) _ hM a5 hy hn (Own.nil _) (λk Z=>by cases Z) a2.sl (.inr ⟨rfl,by omega⟩)) U ?_))))));rintro c9 w6 hR;refine asg U (kpL [(4,_)] (.cons U .nil) (nn (rt (r1 results68 U ?_))));exact⟨_,rfl,by rw[show y2m m.p o=x1m m1.p o [] (m1.q.p.at o.b o.p) from by unfold y2m;rw[if_neg c0,O];simp only;rw[if_neg (show ¬4<=(m1.q.p.at o.b o.p).length by omega)]];exact hR⟩
theorem u6g:z3s prog 138 4:=⟨λ_=>by kernel_rfl,λ_=>by kernel_rfl⟩
theorem u7k:BuildAt prog 138 [(0,2),(2,2)] [(.int .u8 0),(.int .i64 0),(.int .u8 0),(.int .i64 0)]:=BuildAt.array (sz:=2) underlying138 (λ_=>by kernel_rfl) (λ_=>by kernel_rfl) (λi q h=>by match i,h with|0,h=>simpa using h.symm|1,h=>simpa using h.symm|(k+2),h=>simp at h)
theorem j0y:CallOf prog 74:=mkC func74
theorem y2l:z1a prog 137 4 5:=λ_ _=>by kernel_rfl
theorem x4k:z1a prog 246 0 0:=λ_ _=>by kernel_rfl
theorem x5g:z1a prog 246 1 2:=λ_ _=>by kernel_rfl
theorem u5g:z1a prog 246 2 4:=λ_ _=>by kernel_rfl
theorem v0c:z2a prog 135:=λ_=>by kernel_rfl
theorem u9y:z1r prog 138 4:=λ_=>by kernel_rfl
theorem j3r (w:World):(zeroValue 138).run prog w=.ok (.agg #[(.int .u8 0),(.int .i64 0),(.int .u8 0),(.int .i64 0)]) w:=by kernel_rfl
theorem j8b (p q:LId×LId)(w:World):(Op.equal 138 (crK p) (crK q)).run prog w=.ok (decide (p=q)) w:=by
 obtain⟨⟨O,n1⟩,⟨Z,n2⟩⟩:=p;obtain⟨⟨y3,n3⟩,⟨y4,n4⟩⟩:=q;have D:prog.stoodInHeld 87=false:=by kernel_rfl
 have I:(sizeOf 87).run prog w=.ok 2 w:=by kernel_rfl
 unfold crK Op.equal Op.maxDepth Op.equalIn;simp only[Sem.run_bind,run_underlying underlying138,Result.andThen_ok,I];have J:∀a b c d:Value,(part 87 #[a,b,c,d] (0*2)).run prog w=.ok (.agg #[a,b]) w:=λa b c d=>by kernel_rfl
 have M:∀a b c d:Value,(part 87 #[a,b,c,d] (1*2)).run prog w=.ok (.agg #[c,d]) w:=λa b c d=>by kernel_rfl
 rw[Std.Legacy.Range.forIn_eq_forIn_range'];simp[List.range',List.forIn_cons,J,M,go_sem,D,underlying87];(repeat' split)<;>simp_all
theorem x6z:KeyLaw prog 138 crK:=KeyLaw.asking underlying138 (λ_ _=>rfl) (λ_ _ _=>by kernel_rfl) j8b (λ_=>by simp[crK,Instr.sameBits])
theorem zvI2 (w:World):(zeroValue 3).run prog w=.ok (.int .i64 0) w:=by kernel_rfl
set_option maxHeartbeats 1000000 in
theorem u8d (wS:World)(ka:MA)(m:MQ)(c:Cx)(w0:World)(hM:MkM τd 137 wS ka w0 m)(a6:∀x∈m.cr,-1048576<=x.n/\x.n<=1048576)(a7:-1<=c.n/\c.n<=1):Rets prog 148 #[.pointer (some ⟨ka.gk,0,none⟩),.agg #[.int .u8 c.a.y,.int .i64 c.a.n,.int .u8 c.b.y,.int .i64 c.b.n,.int .i64 c.n]] w0 λr w'=>MRet τd 137 wS ka (u5r m.p c) r w':=by
 have b2:=hM.fr.size;have hk:=hM.k;have b1:=hk.lt;have b0:=v8v (a:=(z5p c).1) (b:=(z5p c).2) a6;refine we [(0,.pointer (some ⟨ka.gk,0,none⟩)),(1,.agg #[.int .u8 c.a.y,.int .i64 c.a.n,.int .u8 c.b.y,.int .i64 c.b.n,.int .i64 c.n])] func148 U ntmps148 U (.c2 U U) ?_;have a5:=hM;refine sr (bx U (λg3 w1 a8 J q1 z1=>?_));refine asg U (nn (sr (fad U x4k (z1v (vs:=[_,_]) U J z3j U (fad U x5g (z1v (vs:=[_,_]) U J z3j U (z1t (cs:=[_,_,_,_]) (ev2 U) u7k (z0h U (z0h U z0q)) U ?_)))))));refine al j3r U (λg5 w2 a9 D q2 z2=>(z0j (vs:=[_,_,_,_]) U D u9y (λw3 D q3 z3=>(nn ?_))));refine jn (ι:=Unit) [(0,_),(3,_),(5,_)] (λ_j=>[]) (λ_j w'=>Fr [g5] w3 w'/\Blk w' g5 138 [.int .u8 (z5p c).1.y,.int .i64 (z5p c).1.n,.int .u8 (z5p c).2.y,.int .i64 (z5p c).2.n]) (.c3 U U U) ?_ ?_;refine sr (fad U x4k ?_);replace J:=(J.ext q2).fr q3;refine z1v (vs:=[_,_]) U J z3j U (fad U x5g (z1v (vs:=[_,_]) U J z3j U (cl (ev2 U) j0y (y0k ⟨_,_⟩ ⟨_,_⟩ _) U ?_)));rintro _ w4 ⟨rfl,q4⟩;refine gt' U (nn (cd U (λc0=>?_) (λc0=>?_)));refine rg (fad U x5g ?_);replace J:=J.ext q4;refine z1v (vs:=[_,_]) U J z3j U (fad U x4k (z1v (vs:=[_,_]) U J z3j U (z1t (cs:=[_,_,_,_]) (ev2 U) u7k (z0h U (z0h U z0q)) U ?_)));replace D:=D.ext q4;refine z0j (vs:=[_,_,_,_]) U D u9y (λw5 D q5 z5=>(kpL [(0,_),(3,_),(5,_)] (.c3 U U U) (nl ?_)));exact jE (()) (.c3 U U U) ⟨((Fr.refl [g5] _).z2 q4 q5),(by rw[show z5p c=(c.b,c.a) from if_pos c0];exact D)⟩;refine sk ?_;replace D:=D.ext q4;exact jE (()) (.c3 U U U) ⟨((Fr.refl [g5] _).n1 q4),(by rw[show z5p c=(c.a,c.b) from if_neg c0];exact D)⟩;rintro _j w6 ⟨q6,D⟩;have a4:=D.lt;refine kpC [(0,_),(3,_),(5,_)] (.c3 U U U) (sq ?_);replace hM:=a5.ext (q1.z3 q2 q3 q6);replace hk:=((hk.ext (q1.n1 q2)).fr q3).fr q6;replace J:=((J.ext q2).fr q3).fr q6;intro a h;refine z0i none (λwb w'=>Fr [] wb w') z2r ?_;intro w7 q7;replace hM:=hM.ext q7;replace hk:=hk.ext q7;replace J:=J.ext q7;replace D:=D.ext q7;have hC:Fr [] w7 w7:=Fr.refl _ _;have O:=hM;have M:=hk;have a0:=J;have I:=D;refine z0e 0 h U λa h=>z0o 1 h U λa h=>z0c 2 h U y2l U λa h=>z0k 3 h U (λ_ Z=>M.ext Z) U v0c U λa h=>z0z 4 h U (λ_ Z=>I.ext Z) u6g U λa h=>z0c 6 h U u5g U λa h=>z0k 7 h U (λ_ Z=>a0.ext Z) U na3 U λa h=>z0d 5 U ?_;refine y1c (V:=crK) (k:=z5p c) (f:=z2k (crM m.cr)) h U U hM.c.f x6z underlying135 zvI2 (v6h (z5p c).1 (z5p c).2 m.cr) U λa h=>?_;refine z0b ?_;refine z4y 8 h U (by first|exact i6 (by omega)|rfl) U λa h=>z0d 9 U ?_;refine z0s h U λa h=>?_;refine z0b ?_;refine z0r ?_;clear hC O M a0 I;refine bk (h.sub (L':=[(0,_),(5,_),(6,_)]) (.c3 U U U)) (tn (sq (sq ?_)));refine rbo (r:=37) (L':=[(0,_),(5,_),(6,_)]) (((((y9f m.cr (z5p c).1 (z5p c).2)+c.n) < -1048576)\/(1048576<((y9f m.cr (z5p c).1 (z5p c).2)+c.n)))) (.c3 U U U) ?_ ?_;refine mv U (lt' U (mv U (gs 34 U (λg0=>?_) (λg0=>?_))));exact gN U (gN U (pkt U (rbe U (.c3 U U U))));exact gY U (mv U (gY U (gt' U (pkf U (rbe U (.c3 U U U))))));refine tn (cd U (λc1=>?_) (λc1=>?_));refine sr (asg U (nn (rt (tr (r1 results148 U ?_)))));exact⟨_,rfl,MRet.err (by rw[x4j,if_pos c1]) (by decide) hM.fr⟩;refine sk (tn (sq (sr (mv U (eq' U (nn (cd U (λc2=>?_) (λc2=>?_))))))));intro a h;refine z0i (some 5) (λwb w'=>Fr [] wb w') z2r ?_;intro w8 q8;replace hM:=hM.ext q8;replace hk:=hk.ext q8;replace D:=D.ext q8;have hC:Fr [] w8 w8:=Fr.refl _ _;have O:=hM;have M:=hk;have I:=D;refine z0e 0 h U λa h=>z0o 1 h U λa h=>z0c 2 h U y2l U λa h=>z0k 3 h U (λ_ Z=>M.ext Z) U v0c U λa h=>z0z 4 h U (λ_ Z=>I.ext Z) u6g U λa h=>z0d 5 U ?_;refine u5h (V:=crK) (k:=z5p c) h U U hM.c x6z underlying135 U λw9 a1 hq _hz a h=>?_;replace hM:=hM.cross (l:=v5v m.cr (z5p c).1 (z5p c).2) (by rw[v0j _ _ _ hM.c.nodup];exact a1) hq;refine z1p ?_;refine z0r ?_;clear hC O M I;refine bk (h.sub (L':=[]) .nil) (tn (sr (asg U (nn (rt (r1 results148 U ?_))))));exact⟨_,rfl,MRet.ok (by rw[x4j,if_neg c1,if_pos c2]) hM⟩;intro a h;refine z0i (some 6) (λwb w'=>Fr [] wb w') z2r ?_;intro a3 a2;replace hM:=hM.ext a2;replace hk:=hk.ext a2;replace D:=D.ext a2;have hC:Fr [] a3 a3:=Fr.refl _ _;have O:=hM;have M:=hk;have I:=D;refine z0e 0 h U λa h=>z0o 1 h U λa h=>z0c 2 h U y2l U λa h=>z0k 3 h U (λ_ Z=>M.ext Z) U v0c U λa h=>z0z 4 h U (λ_ Z=>I.ext Z) u6g U λa h=>z0e 5 h U λa h=>z0d 6 U ?_;refine y7b (V:=crK) (k:=z5p c) (v:=.int .i64 ((y9f m.cr (z5p c).1 (z5p c).2)+c.n)) h U U U hM.c x6z underlying135 λb3 a1 hq _hz a h=>?_;replace hM:=hM.cross (l:=x0n m.cr (z5p c).1 (z5p c).2 (y9f m.cr (z5p c).1 (z5p c).2+c.n)) (by rw[v3m _ _ _ _ hM.c.nodup];exact a1) hq;refine z1p ?_;refine z0r ?_;clear hC O M I;refine bk (h.sub (L':=[]) .nil) (tn (sr (asg U (nn (rt (r1 results148 U ?_))))));exact⟨_,rfl,MRet.ok (by rw[x4j,if_neg c1,if_neg c2]) hM⟩
theorem u1f (m:MQ)(j:Nat):m.p.ys.getD j yn0=(m.ys.getD j yq0).p:=by
 show (m.ys.map YQ.p).getD j yn0=_;rw[List.getD,List.getD,List.getElem?_map];cases m.ys[j]?<;>rfl
theorem y0m {l:List Cx}{i:Nat}(h:i<l.length):l.take (i+1)=l.take i++[l.getD i cx0]:=by
 rw[List.take_add_one,List.getD,List.getElem?_eq_getElem h];rfl
theorem x8t {l r I:List Cx}{i:Nat}{e:Int}(h:z6m l (r.take i)=.ok I)(O:i<r.length)(M:x3n I (r.getD i cx0)=.error e):z6m l r=.error e:=by
 have D:=y1r (c:=r.getD i cx0) h;rw[<-y0m O,M]at D;have J:=x3f (r.drop (i+1)) D;rwa [List.take_append_drop]at J
theorem u1j {p:MSt}{c:Cx}{e:Int}(h:u5r p c=.error e):x3n p.cr c=.error e:=by
 unfold u5r at h;split at h;rename_i D;cases h;exact D;cases h
theorem u9g {p q:MSt}{c:Cx}(h:u5r p c=.ok q):∃l,x3n p.cr c=.ok l/\q={ p with cr:=l }:=by
 unfold u5r at h;split at h;cases h;rename_i l D;cases h;exact⟨l,D,rfl⟩
theorem v7w {m:MQ}{d:Int}{D:List YQ}(M:D.length=6)(I:m.ys.length=6)(O:∀j,j<6->z9k m.p d (m.ys.getD j yq0).p=.ok (D.getD j yq0).p):z6s m.p d m.p.ys=.ok (D.map YQ.p):=by
 refine y7k (by simp[M,I]) λj Z=>?_;have J:j<6:=by simpa[I] using Z
 rw[u1f,O j J];congr 1;rw[List.getD,List.getD,List.getElem?_map];cases D[j]?<;>rfl
theorem v7o {m:MQ}{d:Int}{D:List YQ}{J:YQ}{i:Nat}(M:D.length=6)(O:i<6)(I:∀j,j<i->z9k m.p d (m.ys.getD j yq0).p=.ok (D.getD j yq0).p)(h:z9k m.p d (m.ys.getD i yq0).p=.ok J.p):∀j,j<i+1->z9k m.p d (m.ys.getD j yq0).p=.ok ((D.set i J).getD j yq0).p:=λj Z=>by
 rw[z1j (by omega)]
 by_cases e:i=j
 ·subst e;rw[if_pos U];exact h
 rw[if_neg e];exact I j (by omega)
theorem v6a {m:MQ}{d:Int}{D:List YQ}{i:Nat}(I:∀j,i<=j->D.getD j yq0=m.ys.getD j yq0)(J:∀j,j<i->z9k m.p d (m.ys.getD j yq0).p=.ok (D.getD j yq0).p)(h:(m.ys.getD i yq0).inn=false):∀j,j<i+1->z9k m.p d (m.ys.getD j yq0).p=.ok (D.getD j yq0).p:=λj M=>by
 by_cases e:j=i
 ·subst e;rw[I j (Nat.le_refl _)];unfold z9k;rw[if_pos h]
 exact J j (by omega)
theorem u1n {m:MQ}{D:List YQ}{M:YQ}{i:Nat}(J:D.length=6)(O:i<6)(I:∀j,i<=j->D.getD j yq0=m.ys.getD j yq0):∀j,i+1<=j->(D.set i M).getD j yq0=m.ys.getD j yq0:=λj Z=>by
 rw[z1j (by omega),if_neg (by omega)];exact I j (by omega)
set_option maxHeartbeats 4000000 in
theorem u6c (wS:World)(ka:MA)(m:MQ)(d:Int)(w0:World)(hM:MkM τd 137 wS ka w0 m)(hi:MInv m.p)(b1:StT wS)(hd:d=0\/d=1)(c9:-4<=m.rk+stI d/\m.rk+stI d<=4):Rets prog 111 #[.pointer (some ⟨ka.gk,0,none⟩),.int .u8 d] w0 λr w'=>MRet τd 137 wS ka (y2s m.p d) r w':=by
 have g0:=hM.fr.size;have e9:=hM.gk;have O:=hM.k;have f8:=O.lt;have b7:=hM.ly;have f1:=(hM.y.out.blk ka.gy (by simp[z0v])).2;have hI:=hi;have f0:ka.gk≠ka.gy:=λe=>Own.neB hM.y.out hM.k (by decide) (by simp[z0v,e]);have f9:(z4g m.q.p m.rk d).length<=640:=by
  have x:(z4g m.q.p m.rk d).length<=16*m.p.B.b.length:=y4o hI.B m.rk d;have y:=hI.B.lb;omega
 refine we [(0,.pointer (some ⟨ka.gk,0,none⟩)),(1,.int .u8 d)] func111 U ntmps111 U (.c2 U U) ?_;have a0:=hM;refine sr (asg U (nn (sq (sr (mv U (nlc U (fad U z3a (z0g U O U z9x (lnS U underlying33 (mv U (nn (bl ?_))))))))))));refine lpK (ι:=Nat) [(0,_),(1,_),(17,_),(18,_)] (λi=>[(19,.int .i64 (i:Int))]) (λi w'=>Fr [ka.gy] w0 w'/\i<=6/\(∃M:List YQ,M.length=6/\(∀j,j<i->z9k m.p d (m.ys.getD j yq0).p=.ok (M.getD j yq0).p)/\(∀j,i<=j->M.getD j yq0=m.ys.getD j yq0)/\MkM τd 137 wS ka w' { m with ys:=M })) (λi=>6-i) 0 (.c5 U U U U U) ⟨Fr.refl _ _,⟨Nat.zero_le _,⟨m.ys,b7,λj hj=>by omega,λj _=>rfl,hM⟩⟩⟩ ?_;rintro i w1 ⟨q1,⟨hi,⟨M,a4,a6,a5,hM⟩⟩⟩;have z1:=q1.size;have a0:=hM;refine kpC [(0,_),(1,_),(17,_),(18,_),(19,_)] (.c5 U U U U U) ?_;have O:=hM.k;refine sr (lt' U (nn (sq (cd U (λc0=>?_) (λc0=>?_)))));have f7:i<6:=by omega
 refine sk (tn (sq (bl (sr (mv U (z0y (yq0) U (show Sl z2j _ ka.YV M from hM.y.out.sl) U z9u z1e (λe5 b3=>?_)))))));refine z1k U (b3 _ (show Sl z2j _ ka.YV M from hM.y.out.sl)) z6d (al y1j U (λg6 w2 f5 D q2 z2=>?_));refine asg U (z0j (vs:=[_,_,_,_,_]) U D z6u (λw3 D q3 z3=>?_) (h1:=(by first|(simp[Value.oneCell',S];done)|exact z2j.one (m.ys.getD i yq0))));rw[a5 i (Nat.le_refl _)]at D;refine nn (sq (sr (fad U z9g (z0g U D U na4 (nt' U (nn (cd U (λc1=>?_) (λc1=>?_))))))));refine ex (te (xh (tn (rg (z0w U (wi6 (by omega)) (mv U (nl ?_)))))));replace hM:=a0.ext (q2.z1 q3);exact lpE (i+1) (.c5 U U U U U) ⟨((Fr.refl [ka.gy] _).z3 q1 q2 q3),⟨by omega,⟨M,a4,v6a a5 a6 (by simpa using c1),λj hj=>a5 j (by omega),hM⟩⟩⟩ (by omega);have d0:=(hI.yn i (by omega)).1;rw[u1f]at d0;have b9:=j3v (by have:=d0.2;rw[if_pos (by simpa using c1)]at this;exact this.1);have f2:(z7a m.q.p m.rk d (m.ys.getD i yq0).pl).length<=50000:=by
  have x:(z7a m.q.p m.rk d (m.ys.getD i yq0).pl).length<=4*m.p.B.b.length:=x1w hI.B m.rk d _;have y:=hI.B.lb;omega
 refine sk (tn (sq ?_));replace hM:=a0.ext (q2.z1 q3);replace O:=(O.ext q2).fr q3;intro a h;refine z0i none (λwb w'=>Fr [] wb w') z2r ?_;intro w4 q4;have z4:=q4.size;replace hM:=hM.ext q4;replace O:=O.ext q4;replace D:=D.ext q4;have hC:Fr [] w4 w4:=Fr.refl _ _;have Z:=hM;have I:=O;have J:=D;refine z0e 0 h U λa h=>z0o 1 h U λa h=>z0c 2 h U z3e U λa h=>z1d (vs:=[_,_]) 3 h U (λ_ hw=>(I.ext hw)) z5q U U λa h=>z0e 4 h U λa h=>z0o 5 h U λa h=>z0c 6 h U z3r U λa h=>z0k 7 h U (λ_ hw=>I.ext hw) U na3 U λa h=>z0e 8 h U λa h=>z0c 9 h U z5s U λa h=>z0k 10 h U (λ_ hw=>J.ext hw) U na3 U λa h=>?_;refine z0d 11 U ?_;refine z0m h (z0a U (z0a U (z0a U (z0a U z0f)))) (mkC func145) (v7p m.q m.rk d (m.ys.getD i yq0).pl _ hM.b.at hI.B (b1.ext hM.fr.fr) hI.rk hd c9 b9.1 b9.2) ?_;rintro _ w5 ⟨⟨f4,rfl,e8,hW⟩,q5⟩ a h;have z5:=q5.size;replace hM:=hM.ext q5;replace O:=O.ext q5;replace D:=D.ext q5;replace hC:=hC.next q5;refine z0b ?_;refine z0e 12 h U λa h=>z0n 13 h U λa h=>z0n 14 h U λa h=>z0d 15 U ?_;refine z0s h U λa h=>?_;refine z0b ?_;refine z0d 16 U ?_;refine z0s h U λa h=>?_;refine z0b ?_;refine z0r ?_;clear hC Z I J;refine bk (h.sub (L':=[(0,_),(1,_),(5,_),(6,_),(7,_),(8,_),(17,_),(18,_),(19,_)]) (.d8 U U U U U U U U (.cons U .nil))) (tn (sq (sr (mv U (ne' U (nn (cd U (λc2=>?_) (λc2=>?_))))))));refine sr (mv U (asg U (kpL [(4,_)] (.cons U .nil) (nn (rt (tr (rb (tr (tr (rb (tr (r1 results111 U ?_))))))))))));exact absurd U c2;refine sk (tn (sq ?_));intro a h;refine z0i (some 15) (λwb w'=>Fr [ka.gy] wb w') z2r ?_;intro w6 q6;have z6:=q6.size;replace hM:=hM.ext q6;replace O:=O.ext q6;replace D:=D.ext q6;replace hW:=hW.ext q6;have hC:Fr [ka.gy] w6 w6:=Fr.refl _ _;have Z:=hM;have I:=O;have J:=D;have b2:=hW;refine z0e 0 h U λa h=>z0o 1 h U λa h=>z0c 2 h U z3a U λa h=>z0k 3 h U (λ_ hw=>I.fr hw (by simp<;>omega)) U z9x U λa h=>z0e 4 h U λa h=>z0z 5 h U (λ_ hw=>J.fr hw (by simp<;>omega)) z6d U λa h=>z0c 6 h U z5s U λa h=>z0k 7 h U (λ_ hw=>J.fr hw (by simp<;>omega)) U na3 U λa h=>z0e 8 h U λa h=>z0d 9 U ?_;refine z0m h (z0a U (z0a U (z0a U z0f))) (mkC func146) (x7c (m.ys.getD i yq0) (m.ys.getD i yq0).pl _ (z7a m.q.p m.rk d (m.ys.getD i yq0).pl) _ (by have x:=(hM.y.ins i (by rw[hM.ly];omega)).sl;rw[show ({ m with ys:=M }:MQ).ys.getD i yq0=m.ys.getD i yq0 from a5 i (Nat.le_refl _)]at x;exact x) hW.sl (λk O=>(hW.blk k O).2) (by omega)) ?_;rintro _ w7 ⟨qn,rfl,b6,q7⟩ a h;have z7:=q7.size;replace hM:=hM.ext q7;replace O:=O.ext q7;replace D:=D.ext q7;replace hW:=hW.ext q7;replace hC:=hC.next q7;refine z0b ?_;refine z0e 10 h U λa h=>z0n 11 h U λa h=>z0n 12 h U λa h=>z1m 13 (by kernel_rfl) (by kernel_rfl) (by kernel_rfl) hC (p:=i) h wn U z9u (by omega) (by omega) (by omega) U U λa h=>z0d 14 U ?_;refine z1b (i:=i) (qn:YQ) h U hM.y.out (by rw[hM.ly];omega) U z6u λw8 a7 q8 _hz a h=>?_;have b5:=hM.fr.step q8 (y6y hM.y.out (by simp[v7j])) (λk O a9=>absurd (hM.y.out.blk k O).1 (by omega));have d6:=λhc:(goE (m.ys.getD i yq0).p (m.ys.getD i yq0).pl (z7a m.q.p m.rk d (m.ys.getD i yq0).pl))=0=>hM.yarn mtd (j:=i) (y:=qn) (by omega) a7 q8 ((b6 hc).2.low (by omega));clear a7 hM;have z8:=q8.size;replace D:=D.fr q8;replace hW:=hW.fr q8 (by simp[z0v]<;>omega);replace hC:=hC.sp q8;clear _hz;refine z0b ?_;refine z0d 15 U ?_;refine z0s h U λa h=>?_;refine z1p ?_;refine z0r ?_;clear hC Z I J b2;refine bk (h.sub (L':=[(0,_),(1,_),(8,_),(17,_),(18,_),(19,_)]) (.c6 U U U U U U)) (tn (sr (mv U (ne' U (nn (cd U (λc3=>?_) (λc3=>?_)))))));refine sr (mv U (asg U (kpL [(4,_)] (.cons U .nil) (nn (rt (rb (tr (tr (rb (tr (r1 results111 U ?_)))))))))));exact⟨_,rfl,MRet.err (by unfold y2s;rw[y7w (i:=i) (e:=(goE (m.ys.getD i yq0).p (m.ys.getD i yq0).pl (z7a m.q.p m.rk d (m.ys.getD i yq0).pl))) (by simp only[List.length_map];omega) (λj hj=>⟨_,by rw[u1f];exact a6 j hj⟩) (by rw[u1f];unfold z9k;rw[if_neg (by simpa using c1),if_pos c3])]) c3 b5⟩;have hM:=d6 (Classical.not_not.1 c3);have a0:=hM;refine sk (bn' (tn (rg (z0w U (wi6 (by omega)) (mv U (nl ?_))))));exact lpE (i+1) (.c5 U U U U U) ⟨((((Fr.refl [ka.gy] _).z6 q1 q2 q3 q4 q5 q6).n1 q7).z1 q8),⟨by omega,⟨M.set i qn,by rw[List.length_set];exact a4,v7o a4 (by omega) a6 (by unfold z9k;rw[if_neg (by simpa using c1),if_neg (λe=>e (Classical.not_not.1 c3)),(b6 (Classical.not_not.1 c3)).1]),u1n a4 (by omega) a5,hM⟩⟩⟩ (by omega);obtain rfl:i=6:=by omega
 have b8:=v7w a4 b7 a6;refine ex (te (te (xh (tn (sq ?_)))));intro a h;refine z0i none (λwb w'=>Fr [] wb w') z2r ?_;intro w9 q9;have z9:=q9.size;replace hM:=hM.ext q9;replace O:=O.ext q9;have hC:Fr [] w9 w9:=Fr.refl _ _;have Z:=hM;have I:=O;refine z0e 0 h U λa h=>z0o 1 h U λa h=>z0c 2 h U z3e U λa h=>z1d (vs:=[_,_]) 3 h U (λ_ hw=>(I.ext hw)) z5q U U λa h=>z0e 4 h U λa h=>z0o 5 h U λa h=>z0c 6 h U z3r U λa h=>z0k 7 h U (λ_ hw=>I.ext hw) U na3 U λa h=>z0e 8 h U λa h=>z0d 9 U ?_;refine z0m h (z0a U (z0a U (z0a U z0f))) (mkC func147) (u9d m.q m.rk d _ hM.b.at hI.B (b1.ext hM.fr.fr) hI.rk hd c9) ?_;rintro _ g1 ⟨⟨gl,rfl,f6,hX⟩,q10⟩ a h;have g7:=q10.size;replace hM:=hM.ext q10;replace O:=O.ext q10;replace hC:=hC.next q10;refine z0b ?_;refine z0e 10 h U λa h=>z0n 11 h U λa h=>z0n 12 h U λa h=>z0d 13 U ?_;refine z0s h U λa h=>?_;refine z0b ?_;refine z0d 14 U ?_;refine z0s h U λa h=>?_;refine z0b ?_;refine z0r ?_;clear hC Z I;refine bk (h.sub (L':=[(0,_),(9,_),(10,_)]) (.c3 U U U)) (tn (sq (sr (mv U (ne' U (nn (cd U (λc4=>?_) (λc4=>?_))))))));refine sr (mv U (asg U (nn (rt (tr (r1 results111 U ?_))))));exact absurd U c4;refine sk (tn (sq (sr (mv U (lnS U underlying242 (mv U (nn (bl ?_))))))));refine lpK (ι:=Nat) [(0,_),(79,_),(80,_)] (λi=>[(81,.int .i64 (i:Int))]) (λi w'=>i<=(z4g m.q.p m.rk d).length/\(∃(mi:MQ) (li:List Cx),z6m m.cr ((z4g m.q.p m.rk d).take i)=.ok li/\mi.p={ m.p with ys:=M.map YQ.p,cr:=li }/\MkM τd 137 wS ka w' mi/\Lw.Own z4q 246 w0.heap.size w' (.slice (some ⟨gl,0,none⟩) (z4g m.q.p m.rk d).length (z4g m.q.p m.rk d).length) (z4g m.q.p m.rk d))) (λi=>(z4g m.q.p m.rk d).length-i) 0 (.c4 U U U U) ⟨Nat.zero_le _,⟨{ m with ys:=M },m.cr,rfl,rfl,hM,hX.low (by omega)⟩⟩ ?_;rintro i g3 ⟨hi,⟨mi,li,a2,a3,hM,hX⟩⟩;have a0:=hM;refine kpC [(0,_),(79,_),(80,_),(81,_)] (.c4 U U U U) (sr (lt' U (nn (sq (cd U (λc5=>?_) (λc5=>?_))))));have a9:i<(z4g m.q.p m.rk d).length:=by omega
 refine sk (tn (sq (bl (sr (z0y (cx0) U hX.sl U y1p z1e (λe6 b4=>?_))))));refine z1k U (b4 _ hX.sl) x8q (al j1e U (λf3 g4 e7 a1 d1 g8=>?_));refine z0j (vs:=[_,_,_,_,_]) U a1 v4p (λe3 a1 d3 g9=>?_) (h1:=(by first|(simp[Value.oneCell',S];done)|exact z2j.one (m.ys.getD i yq0)));refine nn (sr (mv U (z0l U a1 x8q ?_)));replace hM:=a0.ext (d1.z1 d3);replace hX:=(hX.ext d1).fr d3 (by first|exact z8y hX (by omega)|simp[z0v]<;>omega);have b0:=hM.fr;have d9:mi.cr=li:=congrArg MSt.cr a3;refine cl (z0a U (z0a U z0f)) (mkC func148) (u8d wS { ka with wk:=e3 } mi ((z4g m.q.p m.rk d).getD i cx0) _ hM.mark (by rw[d9];exact y7x hI.cv a2) (j7m _ (z0t (by omega)))) U ?_;intro _ g5 hR;obtain⟨rfl,a8,m2,e0⟩:=hR.split;have e4:=a8.kp.size;simp only at e4;replace hX:=a8.kp.own hX (hM.gcneO hX) (by decide);refine asg U (nn (sr (mv U (ne' U (nn (cd U (λc6=>?_) (λc6=>?_)))))));refine sr (mv U (asg U (kpL [(4,_)] (.cons U .nil) (nn (rt (rb (tr (tr (rb (tr (r1 results111 U ?_)))))))))));exact⟨_,rfl,MRet.err (by unfold y2s;rw[b8];simp only;rw[x8t a2 a9 (by have x:=u1j (z5x c6);rw[show mi.p.cr=li from congrArg MSt.cr a3]at x;exact x)]) c6 (a8.un b0)⟩;obtain⟨d4,e2⟩:=e0 (Classical.not_not.1 c6);have d5:=d4.unmark b0;obtain⟨l2,d7,e1⟩:=u9g e2;refine sk (bn' (tn (rg (z0w U (wi6 (by omega)) (mv U (nl ?_))))));exact lpE (i+1) (.c4 U U U U) ⟨by omega,⟨m2,l2,by rw[y0m a9,y1r a2,<-(show mi.cr=li from congrArg MSt.cr a3)];exact d7,by rw[e1,a3],d5,hX⟩⟩ (by omega);obtain rfl:i=(z4g m.q.p m.rk d).length:=by omega
 refine ex (te (te (xh (tn (sr (asg U (nn (rt (r1 results111 U ?_)))))))));exact⟨_,rfl,MRet.ok (by rw[List.take_length]at a2;unfold y2s;rw[b8,a3];simp only;rw[show z6m m.p.cr (z4g m.p.B m.p.rk d)=.ok li from a2]) hM⟩
theorem y8e (p:MSt)(d:Int):y2h p d=match y2s p d with
    | .error e=>.error e
    | .ok q=>.ok { q with rk:=p.rk+stI d }:=by
  unfold y2h y2s
  cases z6s p d p.ys with
  | error e=>rfl
  | ok ys=>
    simp only
    cases z6m p.cr (z4g p.B p.rk d) with
    | error e=>rfl
    | ok cr=>rfl
theorem u2f {p:MSt}{r:Int}(n:Nat)(h:p.rk=r):z6z n p r=.ok p:=by
 cases n with
 | zero=>rfl
 | succ n=>unfold z6z;rw[if_pos h]
theorem v7s {p:MSt}{r e:Int}{n:Nat}(h:p.rk≠r)(hn:1<=n)(D:y2s p (if r<p.rk then 0 else 1)=.error e):z6z n p r=.error e:=by
 obtain⟨k,rfl⟩:∃k,n=k+1:=⟨n-1,by omega⟩;unfold z6z;rw[if_neg h,y8e,D]
theorem u6o {p q:MSt}{r:Int}{n:Nat}(h:p.rk≠r)(hn:1<=n)(D:y2s p (if r<p.rk then 0 else 1)=.ok q):z6z n p r=z6z (n-1) { q with rk:=p.rk+stI (if r<p.rk then 0 else 1) } r/\y2h p (if r<p.rk then 0 else 1)=.ok { q with rk:=p.rk+stI (if r<p.rk then 0 else 1) }:=by
 obtain⟨k,rfl⟩:∃k,n=k+1:=⟨n-1,by omega⟩
 constructor
 ·conv=>lhs;unfold z6z
  rw[if_neg h,y8e,D];rfl
 rw[y8e,D]
set_option maxHeartbeats 2000000 in
theorem u6x (wS:World)(ka:MA)(m:MQ)(o:MOp)(w0:World)(hM:MkM τd 137 wS ka w0 m)(hi:MInv m.p)(a9:StT wS)(b9:-4<=o.r/\o.r<=4):Rets prog 66 #[.pointer (some ⟨ka.gk,0,none⟩),opV o] w0 λr w'=>MRet τd 137 wS ka (v9i m.p o) r w':=by
 have d0:=hM.fr.size;have b3:=hM.gk;have b8:=hM.k.lt;have c9:-4<=m.rk/\m.rk<=4:=hi.rk;refine we [(0,.pointer (some ⟨ka.gk,0,none⟩)),(1,opV o)] func66 U ntmps66 U (.c2 U U) ?_;have a0:=hM;refine sr (bx U (λg3 w1 b7 I q1 z1=>(asg U (nn (sq (bl ?_))))));replace hM:=a0.ext q1;refine lpK (ι:=Nat) [(0,_),(3,_)] (λn=>[]) (λn w'=>∃D:MQ,(z6z 8 m.p o.r=z6z n D.p o.r/\MInv D.p/\-(n:Int)<=o.r-D.rk/\o.r-D.rk<=n)/\MkM τd 137 wS ka w' D/\Blk w' g3 28 [.int .u8 o.k,.int .u8 o.d,.int .u8 o.b,.int .i64 o.p,.int .u8 o.y,.int .i64 o.r]) (λn=>n) 8 (.c2 U U) ⟨m,⟨rfl,hi,by omega,by omega⟩,hM,I⟩ ?_;rintro n w2 ⟨D,⟨a2,Z,b5,b6⟩,hM,I⟩;have a0:=hM;have a6:=I.lt;refine kpC [(0,_),(3,_)] (.c2 U U) ?_;have O:=hM.k;have b4:-4<=D.rk/\D.rk<=4:=Z.rk;refine sq (sq ?_);intro a h;refine z0i none (λwb w'=>Fr [] wb w') z2r ?_;intro w3 q3;replace I:=I.ext q3;replace O:=O.ext q3;have hC:Fr [] w3 w3:=Fr.refl _ _;have M:=I;have J:=O;refine z0e 0 h U λa h=>z0o 1 h U λa h=>z0c 2 h U z3r U λa h=>z0k 3 h U (λ_ hw=>J.ext hw) U na3 U λa h=>z0c 4 h U y2x U λa h=>z0k 5 h U (λ_ hw=>M.ext hw) U na3 U λa h=>j2b 6 hC h wn U U U U λa h=>z0r ?_;clear hC M J;refine bk (h.sub (L':=[(0,_),(3,_),(14,_)]) (.c3 U U U)) (tn (cd U (λc0=>?_) (λc0=>?_)));have a4:D.p.rk≠o.r:=c0;refine sk (tn (bl (sq ?_)));intro a h;refine z0i none (λwb w'=>Fr [] wb w') z2r ?_;intro w4 q4;replace O:=O.ext q4;have hC:Fr [] w4 w4:=Fr.refl _ _;have J:=O;refine z0e 0 h U λa h=>z0o 1 h U λa h=>z0c 2 h U z3r U λa h=>z0k 3 h U (λ_ hw=>J.ext hw) U na3 U λa h=>z4y 4 h U (by first|exact i6 (by omega)|rfl) U λa h=>z0d 5 U ?_;refine z0s h U λa h=>?_;refine z0b ?_;refine z0d 6 U ?_;refine z0s h U λa h=>?_;refine z0b ?_;refine z0r ?_;clear hC J;refine bk (h.sub (L':=[(0,_),(3,_),(5,_),(6,_)]) (.c4 U U U U)) (tn ?_);refine jn (ι:=Unit) [(0,_),(3,_)] (λ_j=>[(5,.int .u8 (if o.r<D.rk then (0:Int) else 1)),(6,.int .i64 (D.rk+stI (if o.r<D.rk then (0:Int) else 1)))]) (λ_j w'=>Fr [] w4 w') (.c2 U U) ?_ ?_;refine sq ?_;intro a h;refine z0i none (λwb w'=>Fr [] wb w') z2r ?_;intro w5 q5;replace I:=I.ext (q4.n1 q5);replace O:=O.ext q5;have hC:Fr [] w5 w5:=Fr.refl _ _;have M:=I;have J:=O;refine z0c 0 h U y2x U λa h=>z0k 1 h U (λ_ hw=>M.ext hw) U na3 U λa h=>z0e 2 h U λa h=>z0o 3 h U λa h=>z0c 4 h U z3r U λa h=>z0k 5 h U (λ_ hw=>J.ext hw) U na3 U λa h=>x9e 6 hC h wn U U λa h=>z0r ?_;clear hC M J;refine bk (h.sub (L':=[(0,_),(3,_),(5,_),(6,_),(26,_)]) (.c5 U U U U U)) (tn (cd U (λc1=>?_) (λc1=>?_)));intro a h;refine z0i none (λwb w'=>Fr [] wb w') z2r ?_;intro w6 q6;replace O:=O.ext q6;have hC:Fr [] w6 w6:=Fr.refl _ _;have J:=O;refine z0e 0 h U λa h=>z0o 1 h U λa h=>z0c 2 h U z3r U λa h=>z0k 3 h U (λ_ hw=>J.ext hw) U na3 U λa h=>z3b 4 h wn U (by first|exact i6 (by omega)|rfl) U λa h=>z0d 5 U ?_;refine z0s h U λa h=>?_;refine z0b ?_;refine z0d 6 U ?_;refine z0s h U λa h=>?_;refine z0b ?_;refine z0r ?_;clear hC J;refine bk (h.sub (L':=[(0,_),(3,_),(5,_),(6,_)]) (.c4 U U U U)) ?_;exact jE (()) (.c4 U U (congrArg (λz=>some (Value.int .u8 z)) (by first|exact(if_pos c1).symm|exact(if_neg c1).symm)) (congrArg (λz=>some (Value.int .i64 z)) (by first|(rw[show (if o.r<D.rk then (0:Int) else 1)=0 from if_pos c1,show stI 0 = -1 from U];omega)|(rw[show (if o.r<D.rk then (0:Int) else 1)=1 from if_neg c1];rfl)))) (q5.n1 q6);refine sk ?_;exact jE (()) (.c4 U U (congrArg (λz=>some (Value.int .u8 z)) (by first|exact(if_pos c1).symm|exact(if_neg c1).symm)) (congrArg (λz=>some (Value.int .i64 z)) (by first|(rw[show (if o.r<D.rk then (0:Int) else 1)=0 from if_pos c1,show stI 0 = -1 from U];omega)|(rw[show (if o.r<D.rk then (0:Int) else 1)=1 from if_neg c1];rfl)))) q5;rintro _j w7 q7;refine kpC [(0,_),(3,_),(5,_),(6,_)] (.c4 U U U U) (sq (sr (mv U (mv U ?_))));replace hM:=a0.ext (q3.n2 q4 q7);replace I:=I.ext (q4.n1 q7);have a3:=hM.fr;refine cl (z0a U (z0a U z0f)) (mkC func111) (u6c wS { ka with wk:=w7 } D (if o.r<D.rk then (0:Int) else 1) _ hM.mark Z a9 (by split<;>simp) (by have hx:-4<=D.rk/\D.rk<=4:=Z.rk;unfold stI;split<;>split at *<;>omega)) U ?_;intro _ w8 hR;obtain⟨rfl,a1,m2,b1⟩:=hR.split;have z8:=a1.kp.size;simp only at z8;replace I:=a1.kp.blk I (by have:=hM.gcne I;exact this) (by decide);refine asg U (nn (sr (mv U (ne' U (nn (cd U (λc2=>?_) (λc2=>?_)))))));refine sr (mv U (asg U (kpL [(4,_)] (.cons U .nil) (nn (rt (tr (rb (tr (rb (tr (r1 results66 U ?_)))))))))));exact⟨_,rfl,MRet.err (by unfold v9i;rw[a2];exact v7s a4 (by omega) (z5x c2)) c2 (a1.un a3)⟩;obtain⟨a8,b2⟩:=b1 (Classical.not_not.1 c2);replace hM:=a8.unmark a3;have a0:=hM;have O:=hM.k;have a5:=u6o (p:=D.p) (r:=o.r) (n:=n) a4 (by omega) b2;have a7:=y9w Z (by have hx:-4<=D.rk/\D.rk<=4:=Z.rk;show -4<=D.rk+stI (if o.r<D.rk then (0:Int) else 1)/\D.rk+stI (if o.r<D.rk then (0:Int) else 1)<=4;unfold stI;split<;>split at *<;>omega) a5.2;refine sk (tn (rg (mv U (mv U (nlc U (fad U z3r (z2x U O U sz3 (λw9 b0 q9 z9=>?_))))))));replace hM:=hM.beds mtd (q:=m2.q) (r:=D.rk+stI (if o.r<D.rk then (0:Int) else 1)) hM.b b0 q9 hM.fb;refine kpL [(0,_),(3,_)] (.c2 U U) (nl (bn' ?_));replace I:=I.fr q9;exact lpE ((n-1)) (.c2 U U) ⟨{ m2 with rk:=D.rk+stI (if o.r<D.rk then (0:Int) else 1) },⟨by rw[a2,a5.1],a7.1,by show -((n-1:Nat):Int)<=o.r-(D.rk+stI (if o.r<D.rk then (0:Int) else 1));unfold stI;split<;>split at *<;>omega,by show o.r-(D.rk+stI (if o.r<D.rk then (0:Int) else 1))<=((n-1:Nat):Int);unfold stI;split<;>split at *<;>omega⟩,hM,I⟩ (by omega);refine ex (te (te (xh (tn (sr (asg U (nn (rt (r1 results66 U ?_)))))))));replace hM:=a0.ext q3;exact⟨_,rfl,MRet.ok (by unfold v9i;rw[a2];exact u2f n (show D.rk=o.r by omega)) hM⟩
theorem j6o (w:World):(zeroValue 139).run prog w=.ok .nilFunc w:=by kernel_rfl
abbrev v7i (F:Nat):Value:=.func (.func F) #[] #[]
def j3w:Int->Option Value:=λk'=>if k'=8 then some (v7i 71) else (if k'=7 then some (v7i 70) else (if k'=6 then some (v7i 69) else (if k'=5 then some (v7i 68) else (if k'=4 then some (v7i 67) else (if k'=3 then some (v7i 66) else (if k'=2 then some (v7i 65) else (if k'=1 then some (v7i 64) else (none))))))))
theorem v1h (w0:World):Rets prog 26 #[] w0 λr w'=>(∃g,r=.map (some g)/\w0.heap.size<=g/\MapF kV w' g j3w)/\Fr [] w0 w':=by
 refine we [] func26 U ntmps26 U .nil (sr (asg U (nn (sr (y4y kV U (λI w1 J D M z1=>(z2z (V:=kV) (k:=1) U D y5z underlying93 (λw2 D O z2=>(z2z (V:=kV) (k:=2) U D y5z underlying93 (λw3 D Z z3=>(z2z (V:=kV) (k:=3) U D y5z underlying93 (λw4 D q4 z4=>?_))))))))))));refine z2z (V:=kV) (k:=4) U D y5z underlying93 (λw5 D q5 z5=>(z2z (V:=kV) (k:=5) U D y5z underlying93 (λw6 D q6 z6=>(z2z (V:=kV) (k:=6) U D y5z underlying93 (λw7 D q7 z7=>(z2z (V:=kV) (k:=7) U D y5z underlying93 (λw8 D q8 z8=>(z2z (V:=kV) (k:=8) U D y5z underlying93 (λw9 D q9 z9=>(mv U (asg U (nn (rt (r1 results26 U ?_))))))))))))));exact⟨_,rfl,⟨I,rfl,by omega,D⟩,(((M.z6 O Z q4 q5 q6 q7).z1 q8).z1 q9)⟩
theorem j1h (wS:World)(D:MA)(m:MQ)(o:MOp)(w0:World)(hM:MkM τd 137 wS D w0 m)(I:MInv m.p)(O:StT wS)(hc:x3d o=0):∃F:Nat,j3w o.k=some (v7i F)/\CallOf prog F/\Rets prog F #[.pointer (some ⟨D.gk,0,none⟩),opV o] w0 λr w'=>MRet τd 137 wS D (opM m.p o) r w':=by
 obtain⟨hk,Z,M,a0,J,hr⟩:=y5n hc;unfold opM;rcases hk with e|e|e|e|e|e|e|e<;>rw[e]at Z M a0 J hr ⊢
 exact⟨_,rfl,(mkC func64),j3x wS D m o w0 hM (M (by simp))⟩;exact⟨_,rfl,(mkC func65),u9z wS D m o w0 hM (M (by simp))⟩;exact⟨_,rfl,(mkC func66),u6x wS D m o w0 hM I O (hr (by simp))⟩;exact⟨_,rfl,(mkC func67),u9q wS D m o w0 hM I (M (by simp)) (J (by simp))⟩;exact⟨_,rfl,(mkC func68),u7b wS D m o w0 hM I (M (by simp)) (J (by simp))⟩;exact⟨_,rfl,(mkC func69),u5f wS D m o w0 hM I (M (by simp)) (J (by simp))⟩;exact⟨_,rfl,(mkC func70),u9o wS D m o w0 hM I (J (by simp))⟩;exact⟨_,rfl,(mkC func71),u9m wS D m o w0 hM I (J (by simp))⟩
theorem u2o (wS:World)(J:MA)(m:MQ)(o:MOp)(gl:Nat)(w0:World)(hM:MkM τd 137 wS J w0 m)(hi:MInv m.p)(a1:StT wS)(hl:MapF kV w0 gl j3w):Rets prog 27 #[.pointer (some ⟨J.gk,0,none⟩),.map (some gl),opV o] w0 λr w'=>MRet τd 137 wS J (doM m.p o) r w':=by
 refine we [(0,.pointer (some ⟨J.gk,0,none⟩)),(1,.map (some gl)),(2,opV o)] func27 U ntmps27 U (.c3 U U U) ?_;have a0:=hM;have a3:=hl;refine sr (bx U (λg5 w1 a4 D q1 z1=>(asg U (nn (sq (sr (z0l U D y6b (cl (ev1 U) (mkC func21) (x0g _ _) U ?_))))))));rintro _ w2 ⟨rfl,q2⟩;refine asg U (nn (sr (mv U (ne' U (nn (cd U (λO=>?_) (λO=>?_)))))));refine sr (mv U (asg U (kpL [(6,_)] (.cons U .nil) (nn (rt (tr (r1 results27 U ?_)))))));replace hM:=a0.ext (q1.n1 q2);exact⟨_,rfl,MRet.err (by unfold doM;rw[if_pos O]) O hM.fr⟩;replace hM:=a0.ext (q1.n1 q2);have hc:x3d o=0:=Classical.not_not.1 O;have I:=λw hM=>j1h wS J m o w hM hi a1 hc;obtain⟨F,hF,a2,-⟩:=I _ hM;have M:∀w,MkM τd 137 wS J w m->Rets prog F #[.pointer (some ⟨J.gk,0,none⟩),opV o] w λr w'=>MRet τd 137 wS J (opM m.p o) r w':=λw hM=>by
  obtain⟨F',Z,-,h'⟩:=I w hM;rw[hF]at Z;cases Z;exact h'
 refine sk (tn (sr (mv U (fad U z9i ?_))));replace D:=D.ext q2;refine z0g U D U v7l ?_;replace hl:=a3.ext (q1.n1 q2);refine y9v (V:=kV) (k:=o.k) (f:=j3w) (v:=v7i F) U U hl y5z underlying93 j6o (by rw[hF];rfl) U ?_;refine mv U (z0l U D y6b ?_);refine clv (us:=[]) (ws:=[]) U (ev2 U) a2 (M w2 hM) U (by intro g e;cases e) ?_;rintro a5 w3 hR;refine asg U (kpL [(6,_)] (.cons U .nil) (nn (rt (r1 results27 U ?_))));exact⟨_,rfl,by rw[show doM m.p o=opM m.p o from if_neg O];exact hR⟩
end Go.Proofs.YtpgdchkdlgkmgaaGreatDoor
namespace Go.G08
open Go.Lw Go.G21
theorem v8z (l:List Cx)(a b:LId)(n:Int):(x0n l a b n).length<=l.length+1:=by
 unfold x0n;split<;>simp
theorem v8q (l:List Cx)(a b:LId):(v5v l a b).length<=l.length+1:=Nat.le_trans (List.length_filter_le _ _) (by omega)
theorem v8l {l l':List Cx}{c:Cx}(h:x3n l c=.ok l'):l'.length<=l.length+1:=by
 rw[v4x]at h;split at h;cases h;split at h;cases h;exact v8q ..;cases h;exact v8z ..
theorem x1z:∀ {r l l':List Cx},z6m l r=.ok l'->l'.length<=l.length+r.length
 | [],l,l',h=>by cases h;exact Nat.le_refl _
 | c::r,l,l',h=>by
  unfold z6m at h
  split at h
  ·cases h
  rename_i I D
  have:=v8l D
  have:=x1z h
  simp only[List.length_cons];omega
theorem v1a {B:Bd}(h:BdOk B)(r d:Int):(z4g B r d).length<=640:=Nat.le_trans (y4o h r d) (by have:=h.lb;omega)
theorem v1d {p q:MSt}{d:Int}(h:BdOk p.B)(e:y2h p d=.ok q):q.B=p.B/\q.cr.length<=p.cr.length+640:=by
 unfold y2h at e;split at e;cases e;split at e;cases e;rename_i ys J I D;cases e;have:=x1z D;have:=v1a h p.rk d;exact⟨rfl,by simp only;omega⟩
theorem x2e:∀ {n:Nat} {p q:MSt} {r:Int},BdOk p.B->z6z n p r=.ok q->q.cr.length<=p.cr.length+n*640
 | 0,p,q,r,h,e=>by cases e;omega
 | n+1,p,q,r,h,e=>by
  unfold z6z at e
  split at e
  ·cases e;omega
  split at e
  ·cases e
  rename_i J D
  obtain⟨I,hl⟩:=v1d h D
  have:=x2e (I▸h) e
  rw[Nat.add_mul];omega
theorem x4r {p q:MSt}{y D en:Int}(e:y6k p y D en=.ok q):q.cr=p.cr:=by
 unfold y6k at e;split at e;cases e;cases e;rfl
theorem v5n {p q:MSt}{o:MOp}{D st:List LId}(e:x1m p o D st=.ok q):q.cr=p.cr:=by
 unfold x1m at e;split at e;cases e;split at e;cases e;cases e;rfl
theorem v3x {p q:MSt}{o:MOp}(h:BdOk p.B)(e:opM p o=.ok q):q.cr.length<=p.cr.length+5120:=by
 have s:∀ {x:MSt},x.cr=p.cr->x.cr.length<=p.cr.length+5120:=λI=>by rw[I];omega
 unfold opM at e;split at e;unfold inM at e;split at e;cases e;cases e;exact s U;split at e;unfold v0g at e;split at e;cases e;cases e;exact s U;split at e;have:=x2e h e;omega;split at e;unfold y3f at e;split at e;cases e;split at e;cases e;rename_i J D;exact s ((v5n e).trans (x4r D));split at e;unfold y2m at e;split at e;cases e;split at e;cases e;rename_i J D;split at e;cases e;exact s ((v5n e).trans (x4r D));split at e;unfold y6n at e;split at e;cases e;exact s (x4r e);split at e;unfold y0h at e;repeat (split at e;· cases e)
 cases e;exact s U;unfold y5x at e;split at e;cases e;cases e;exact s U
theorem x6v:∀ {l:List MOp} {i:Nat} {p q:MSt},MInv p->z6l i p l=.ok q->q.cr.length<=p.cr.length+l.length*5120
 | [],i,p,q,h,e=>by cases e;simp
 | o::l,i,p,q,h,e=>by
  unfold z6l at e
  split at e
  ·cases e
  rename_i J D
  have I:=x7n h D
  have M:=x6v I e
  have O:J.cr.length<=p.cr.length+5120:=by
   unfold doM at D
   split at D
   ·cases D
   exact v3x h.B D
  rw[List.length_cons,Nat.add_mul];omega
theorem z7b {a b:LId}:z6o a b<0↔a.y<b.y\/a.y=b.y/\a.n<b.n:=by
 unfold z6o;(repeat' split)<;>constructor<;>intro h<;>omega
theorem y4t {a b:LId}:z6o a b=0↔a=b:=by
 obtain⟨J,I⟩:=a;obtain⟨D,bn⟩:=b;rw[LId.mk.injEq];unfold z6o;dsimp only;(repeat' split)<;>constructor<;>intro h<;>omega
theorem y4c {T T':Tb}{l:Lp}(h:y2q T l)(I:∀i,z3z T i->z3z T' i):y2q T' l:=⟨h.1,h.2.1,λi D=>I i (h.2.2.1 i D),h.2.2.2⟩
theorem y8c {T:Tb}(h6:T.length=6){i:LId}(h:z3z T i):∃y n:Nat,y<6/\n<z2o T y/\i=⟨(y:Int)+1,(n:Int)⟩:=by
 obtain⟨J,M,O,Z⟩:=h;obtain⟨I,D⟩:=i;simp only at J M O Z;exact⟨(I-1).toNat,D.toNat,by omega,by omega,by rw[show (((I-1).toNat:Nat):Int)+1=I by omega,show ((D.toNat:Nat):Int)=D by omega]⟩
theorem y0l {T:Tb}{j:Nat}(J:T.length=6)(M:j<6){l:Lp}{i:LId}:z3z (T.set j (T.getD j []++[l])) i↔z3z T i\/i=⟨(j:Int)+1,(z2o T j:Int)⟩:=by
 have D:j<T.length:=by omega
 constructor;intro h;obtain⟨y,n,O,I,rfl⟩:=y8c (by rw[List.length_set];exact J) h;rw[z8j D]at I;by_cases e:j=y;subst e;rw[if_pos U,List.length_append,List.length_singleton,show (T.getD j []).length=z2o T j from U]at I;by_cases e2:n<z2o T j;exact .inl (z8h D e2);exact .inr (by rw[show n=z2o T j by omega]);rw[if_neg e]at I;exact .inl (z8h (by omega) I);rintro(h|rfl);exact y8n D h;exact z8h (by rw[List.length_set];exact D) (by rw[z8j D,if_pos U,List.length_append,List.length_singleton];exact Nat.lt_succ_self _)
structure TabR (T:Tb) (rk:LId->Nat):Prop where
  six:T.length=6
  rts:∀y,y<6->∀n,n<z2o T y->y2q T (lpA T y n)/\(n=0->(lpA T y n).nw=true)
  rkd:Ranked T rk
  top:∀i,z3z T i->rk i<z3t T
theorem TabR.add {T:Tb}{rk:LId->Nat}(h:TabR T rk){j:Nat}(hj:j<6){l:Lp}(hr:y2q T l)(h0:z2o T j=0->l.nw=true) :
    TabR (T.set j (T.getD j []++[l])) (rkX rk j (z2o T j) (z3t T)):=by
  have h6:=h.six
  have a0:j<T.length:=by omega
  have a2:z3t (T.set j (T.getD j []++[l]))=z3t T+1:=by
    have:=y1z T j (T.getD j []++[l]) a0
    rw[List.length_append,List.length_singleton,show (T.getD j []).length=z2o T j from U]at this
    omega
  have D:∀i,z3z T i->rkX rk j (z2o T j) (z3t T) i=rk i:=λi J=>by
    obtain⟨y,n,I,M,rfl⟩:=y8c h6 J
    unfold rkX
    rw[if_neg]
    rintro⟨e1,e2⟩
    simp only at e1 e2
    have:y=j:=by omega
    subst this;omega
  have O:rkX rk j (z2o T j) (z3t T) ⟨(j:Int)+1,(z2o T j:Int)⟩=z3t T:=by
    unfold rkX
    rw[if_pos ⟨rfl,by simp⟩]
    show z3t T+((z2o T j:Int)-(z2o T j:Int)).toNat=z3t T
    omega
  have hm:∀i,z3z T i->z3z (T.set j (T.getD j []++[l])) i:=λi J=>(y0l h6 hj).2 (.inl J)
  -- an old loop,or the new one
  have a1:∀y,y<6->∀n,n<z2o (T.set j (T.getD j []++[l])) y->(n<z2o T y/\lpA (T.set j (T.getD j []++[l])) y n=lpA T y n)\/(y=j/\n=z2o T j/\lpA (T.set j (T.getD j []++[l])) y n=l):=λy I n M=>by
    rw[z8j a0]at M
    rw[u6a a0]
    by_cases e:j=y
    · subst e
      rw[if_pos U,List.length_append,List.length_singleton,show (T.getD j []).length=z2o T j from U]at M
      rw[if_pos U]
      by_cases e2:n<z2o T j
      · exact .inl ⟨e2,if_pos e2⟩
      · obtain rfl:n=z2o T j:=by omega
        exact .inr ⟨rfl,rfl,by rw[if_neg e2,Nat.sub_self];rfl⟩
    · rw[if_neg e]at M
      exact .inl ⟨M,by rw[if_neg e]⟩
  have hp:∀ {y n:Nat},y<6->n<z2o T y->z3z T ⟨(y:Int)+1,(n:Int)⟩:=λI M=>z8h (by omega) M
  refine⟨by rw[List.length_set];exact h6,λy I n M=>?_,⟨λy I n M i J=>?_,λy I n m Z a3=>?_⟩,λi J=>?_⟩
  · rcases a1 y I n M with ⟨k,e⟩|⟨rfl,rfl,e⟩
    · rw[e];exact⟨y4c (h.rts y I n k).1 hm,(h.rts y I n k).2⟩
    · rw[e];exact⟨y4c hr hm,h0⟩
  · rcases a1 y I n M with ⟨k,e⟩|⟨rfl,rfl,e⟩
    · rw[e]at J
      rw[D _ (hp I k),D _ ((h.rts y I n k).1.2.2.1 i J)]
      exact h.rkd.need y I n k i J
    · rw[e]at J
      rw[O,D _ (hr.2.2.1 i J)]
      exact h.top i (hr.2.2.1 i J)
  · rcases a1 y I m a3 with ⟨k,_⟩|⟨rfl,rfl,_⟩
    · rw[D _ (hp I k),D _ (hp I (show n<z2o T y by omega))]
      exact h.rkd.mono y I n m Z k
    · rw[O,D _ (hp I Z)]
      exact h.top _ (hp I Z)
  · rw[a2]
    rcases(y0l h6 hj).1 J with k|rfl
    · rw[D _ k];have:=h.top i k;omega
    · rw[O];omega
theorem x7v {T:Tb}{j:Nat}(D:j<T.length)(l:Lp)(i:LId):(z7y (T.set j (T.getD j []++[l]))).count i=(z7y T).count i+l.th.count i:=by
 have h:=z8a x8k T j [] (T.getD j []++[l]) i D;have e:x8k (T.getD j []++[l])=x8k (T.getD j [])++l.th:=by unfold x8k;simp
 unfold z7y;rw[e,List.count_append]at h;omega
theorem y8o {T:Tb}{Z:LId->Nat}(h:TabR T Z){i:LId}(D:i∈z7y T):z3z T i:=by
 unfold z7y at D;obtain⟨r,M,D⟩:=List.mem_flatMap.1 D;unfold x8k at D;obtain⟨l,hl,D⟩:=List.mem_flatMap.1 D;obtain⟨y,O,rfl⟩:=List.getElem_of_mem M;obtain⟨n,J,rfl⟩:=List.getElem_of_mem hl;have I:T.getD y []=T[y]:=by rw[List.getD,List.getElem?_eq_getElem O];rfl
 have en:lpA T y n=T[y][n]:=by unfold lpA;rw[I,List.getD,List.getElem?_eq_getElem J];rfl
 have h6:=h.six;have:=(h.rts y (by omega) n (by unfold z2o;rw[I];exact J)).1.2.2.1 i (by rw[en];exact List.mem_append_left _ D);exact this
theorem v5a {T:Tb}{st:List Pa}{p:Pa}(h:∀q∈st,z3z T q.id)(hp:z3z T p.id):∀q∈y0f st p,z3z T q.id:=by
 unfold y0f;split;exact λq D=>h q (List.mem_of_mem_take D);intro q D;rcases List.mem_append.1 D with k|k
 exact h q k;rw[List.mem_singleton.1 k];exact hp
theorem x3j {T:Tb}:∀ {l st:List Pa},(∀q∈st,z3z T q.id)->(∀q∈l,z3z T q.id)->∀q∈z4u st l,z3z T q.id
 | [],_,h,_=>h
 | p::l,st,h,hl=>x3j (l:=l) (v5a h (hl p (by simp))) (λq D=>hl q (List.mem_cons_of_mem _ D))
theorem x1j:∀(l st:List Pa),y6e (st++l)->z4u st l=st++l
 | [],st,_=>by simp[z4u]
 | p::l,st,h=>by
  have I:y0f st p=st++[p]:=by
   unfold y0f
   rw[if_neg]
   rintro⟨O,Z⟩
   have D:=(h st.length (by simp)).2 O
   have J:(st++p::l).getD (st.length-1) pa0=st.getD (st.length-1) pa0:=by
    rw[List.getD,List.getElem?_append_left (by omega),List.getD]
   have M:(st++p::l).getD st.length pa0=p:=by simp[List.getD]
   rw[J,M]at D
   exact D Z
  show z4u (y0f st p) l=_
  rw[I,x1j l (st++[p]) (by simpa using h)]
  simp
theorem u8f {l:List Pa}(h:y6e l):(z4u [] l).length=l.length:=by rw[x1j l [] (by simpa using h)];rfl
theorem v3k {l:List Pa}(h:y6e l):∀p∈l,z5y p.d:=λp I=>by
 obtain⟨i,D,rfl⟩:=List.getElem_of_mem I
 have:=(h i D).1.2
 rwa [List.getD,List.getElem?_eq_getElem D]at this
theorem x0r (h:Hd):∀l:List Hd,(y1m h l).Perm (h::l)
 | []=>.refl _
 | x::l=>by
  unfold y1m
  split
  ·exact .refl _
  exact((x0r h l).cons x).trans (.swap h x l)
theorem v2z (l:List Hd):(z5e l).Perm l:=by
 have h:∀(l st:List Hd),(l.foldl (λa h=>y1m h a) st).Perm (st++l):=by
  intro l;induction l with
  | nil=>intro st;simp
  | cons x l ih=>
   intro st;show (l.foldl _ (y1m x st)).Perm _;exact(ih _).trans (((x0r x st).append_right l).trans (by simpa using (List.perm_middle (a:=x) (l₁:=st) (l₂:=l)).symm))
 have e:=h l [];rw[List.nil_append]at e;exact e
theorem y7c (B:Bd)(r:Int):(z2q B r).Perm (v7k B r):=v2z _
theorem v5y (b r:Int)(l:Bed):(hds b r l l.length).map Hd.id=l.flatten:=by
 have h:∀i,i<=l.length->(hds b r l i).map Hd.id=(l.take i).flatten:=by
  intro i;induction i with
  | zero=>intro _;simp[hds]
  | succ i ih=>
   intro D;rw[y8m,List.map_append,ih (by omega),List.take_add_one,List.flatten_append,List.getElem?_eq_getElem (by omega),List.getD,List.getElem?_eq_getElem (by omega)];simp[hdS,Function.comp_def]
 rw[h _ (Nat.le_refl _),List.take_length]
theorem y3j (B:Bd)(r:Int):((z2q B r).map Hd.id).Perm B.flat:=by
 refine((y7c B r).map _).trans ?_;unfold v7k Bd.flat;rw[List.map_append,v5y,v5y]
theorem u5w {B:Bd}{r f t:Int}{q:Pa}(h:q∈btw (z2q B r) f t):q.id∈B.flat:=by
 have I:∀x∈z2q B r,x.id∈B.flat:=λx D=>(y3j B r).mem_iff.1 (List.mem_map_of_mem D);unfold btw at h;split at h;obtain⟨x,D,rfl⟩:=List.mem_map.1 h;exact I x (List.mem_filter.1 D).1;obtain⟨x,D,rfl⟩:=List.mem_map.1 (List.mem_reverse.1 h);exact I x (List.mem_filter.1 D).1
theorem x5w {B:Bd}{k:Nat}{x:LId}(h:x∈B.b.getD k []):x∈B.b.flatten:=by
 by_cases e:k<B.b.length;rw[List.getD,List.getElem?_eq_getElem e]at h;exact List.mem_flatten.2 ⟨_,List.getElem_mem e,h⟩;rw[List.getD,List.getElem?_eq_none (by omega)]at h;cases h
theorem x2u {B:Bd}{r d p:Int}{i:Nat}{q:Pa}(h:q∈y6h B r d p i):q.id∈B.flat:=by
 unfold y6h at h;obtain⟨k,_,h⟩:=List.mem_flatMap.1 h;unfold x1s at h;split at h;cases h;obtain⟨x,D,rfl⟩:=List.mem_map.1 h;exact List.mem_append_right _ (x5w D)
theorem v4f {B:Bd}{r d p:Int}{q:Pa}(h:q∈z7a B r d p):q.id∈B.flat:=by
 unfold z7a at h;split at h;exact x2u (List.mem_reverse.1 h);exact x2u h
theorem v5i {B:Bd}{n:Int}{x:LId}(h:x∈B.atC 0 n):x∈B.f.flatten:=by
 unfold Bd.atC at h;split at h;unfold Bd.at at h;rw[if_pos U]at h;have D:atB B.f n≠[]:=λe=>by rw[e]at h;cases h
 exact List.mem_flatten.2 ⟨_,v2x D,h⟩;cases h
theorem x7d {B:Bd}{r d:Int}{i:Nat}{c:Cx}(hn:B.flat.Nodup)(h:c∈x9v B r d i):c.a∈B.flat/\c.b∈B.flat/\c.a≠c.b/\(c.n=1\/c.n = -1):=by
 unfold x9v at h;obtain⟨k,_,h⟩:=List.mem_flatMap.1 h;unfold u2r at h;obtain⟨x,O,h⟩:=List.mem_flatMap.1 h;obtain⟨o,M,rfl⟩:=List.mem_map.1 h;have I:x∈B.b.flatten:=x5w O;have J:o∈B.f.flatten:=v5i (List.mem_reverse.1 M);have D:o≠x:=(List.nodup_append.1 hn).2.2 o J x I;unfold x6x;split;exact⟨List.mem_append_left _ J,List.mem_append_right _ I,D,.inl U⟩;exact⟨List.mem_append_right _ I,List.mem_append_left _ J,D.symm,.inr U⟩
theorem v5j {B:Bd}{r d:Int}{c:Cx}(hn:B.flat.Nodup)(h:c∈z4g B r d):c.a∈B.flat/\c.b∈B.flat/\c.a≠c.b/\(c.n=1\/c.n = -1):=by
 unfold z4g at h;split at h;exact x7d hn (List.mem_reverse.1 h);exact x7d hn h
structure CrsOk (T:Tb) (l:List Cx):Prop where
  has:∀c∈l,z3z T c.a/\z3z T c.b/\z6o c.a c.b<0/\(-1048576<=c.n/\c.n<=1048576)/\c.n≠0
  nd:(l.map λc=>(c.a,c.b)).Nodup
theorem CrsOk.mono {T T':Tb}{l:List Cx}(h:CrsOk T l)(I:∀i,z3z T i->z3z T' i):CrsOk T' l:=⟨λc D=>⟨I _ (h.has c D).1,I _ (h.has c D).2.1,(h.has c D).2.2⟩,h.nd⟩
theorem v9g {l:List Cx}{a b:LId}{n:Int}(h:l.any (isC a b)=true):(x0n l a b n).map (λc=>(c.a,c.b))=l.map λc=>(c.a,c.b):=by
 unfold x0n;rw[if_pos h,List.map_map];refine List.map_congr_left λc _=>?_;simp only[Function.comp_apply];split;rename_i e;obtain⟨D,I⟩:=z8d.1 e;rw[D,I];rfl
theorem u0d {l:List Cx}{a b:LId}{n:Int}{c:Cx}(h:c∈x0n l a b n):c=⟨a,b,n⟩\/c∈l:=by
 unfold x0n at h;split at h;obtain⟨z,D,rfl⟩:=List.mem_map.1 h;split;exact .inl U;exact .inr D;rcases List.mem_append.1 h with k|k
 exact .inr k;exact .inl (List.mem_singleton.1 k)
theorem u0b {a b:LId}(h:a≠b)(D:¬0<z6o a b):z6o a b<0:=by
 have:=mt y4t.1 h;omega
theorem v0t {a b:LId}(h:0<z6o a b):z6o b a<0:=by
 rw[z7b];unfold z6o at h;(repeat' split at h)<;>omega
theorem CrsOk.add {T:Tb}{l l':List Cx}{c:Cx}(h:CrsOk T l)(O:z3z T c.a)(hb:z3z T c.b)(I:c.a≠c.b)(e:x3n l c=.ok l'):CrsOk T l':=by
 unfold x3n at e;dsimp only at e;obtain⟨a,b,hk,h1,h2,h3⟩:∃a b,(if 0<z6o c.a c.b then (c.b,c.a) else (c.a,c.b))=(a,b)/\z3z T a/\z3z T b/\z6o a b<0:=by
  split;rename_i k;exact⟨_,_,rfl,hb,O,v0t k⟩;rename_i k;exact⟨_,_,rfl,O,hb,u0b I k⟩
 rw[hk]at e;split at e;cases e;rename_i hr;split at e;cases e;exact⟨λx D=>h.has x (List.mem_filter.1 D).1,h.nd.sublist (List.filter_sublist.map _)⟩;rename_i M;cases e;dsimp only at hr M ⊢;refine⟨λx D=>?_,?_⟩;rcases u0d D with rfl|k
 exact⟨h1,h2,h3,by dsimp only;omega,M⟩;exact h.has x k;by_cases k:l.any (isC a b)=true;rw[v9g k];exact h.nd;unfold x0n;rw[if_neg k,List.map_append,List.map_singleton,List.nodup_append];refine⟨h.nd,by simp,λx D y hy=>?_⟩;obtain⟨z,hz,rfl⟩:=List.mem_map.1 D;rw[List.mem_singleton.1 hy];intro J;have Z:=congrArg Prod.fst J;have e2:=congrArg Prod.snd J;exact k (List.any_eq_true.2 ⟨z,hz,z8d.2 ⟨Z,e2⟩⟩)
theorem CrsOk.adds {T:Tb}:∀ {r l l':List Cx},CrsOk T l->(∀c∈r,z3z T c.a/\z3z T c.b/\c.a≠c.b)->z6m l r=.ok l'->CrsOk T l'
 | [],l,l',h,_,e=>by cases e;exact h
 | c::r,l,l',h,hr,e=>by
  unfold z6m at e
  split at e
  ·cases e
  rename_i M I
  have D:=hr c (by simp)
  exact CrsOk.adds (h.add D.1 D.2.1 D.2.2 I) (λx J=>hr x (List.mem_cons_of_mem _ J)) e
def YnV (T:Tb)(y:Yn):Prop:=(∀q∈y.pe,z3z T q.id)/\(y.inn=true->y.ct=0->y.nw=true)
structure MVal (p:MSt):Prop where
  inv:MInv p
  yv:∀k,k<6->YnV p.tb (p.ys.getD k yn0)
  tab:∃rk,TabR p.tb rk
  once:∀i,z3z p.tb i->(p.B.flat++p.fa++z7y p.tb).count i=1
  fa:∀i∈p.fa,z3z p.tb i
  cr:CrsOk p.tb p.cr
theorem z7t:MVal start:=by
 have I:∀y,z2o start.tb y=0:=λy=>by
  simp only[start,z2o,List.getD,List.getElem?_replicate];split<;>rfl
 have J:∀i,¬z3z start.tb i:=λi D=>by
  obtain⟨_,_,h3,Z⟩:=D;rw[I]at Z;omega
 refine⟨z8x,λk hk=>?_,⟨λ_=>0,rfl,λy M n h=>by rw[I]at h;omega,⟨λy M n h=>by rw[I]at h;omega,λy M n m h O=>by rw[I]at O;omega⟩,λi D=>absurd D (J i)⟩,λi D=>absurd D (J i),(by intro i D;cases D),⟨(by intro c hc;cases hc),by simp[start]⟩⟩;have:start.ys.getD k yn0=yn0:=by
  simp only[start,List.getD,List.getElem?_replicate];split<;>rfl
 rw[this];exact⟨(by intro q hq;cases hq),(by intro h;cases h)⟩
theorem y9g {p:MSt}{y:Int}{q:Yn}(h:MVal p)(D:MInv (p.setY y q))(M:1<=y/\y<=6)(J:YnV p.tb q):MVal (p.setY y q):=by
 have hl:(y-1).toNat<p.ys.length:=by rw[h.inv.ly];omega
 refine⟨D,λk I=>?_,h.tab,h.once,h.fa,h.cr⟩;show YnV p.tb ((p.ys.set (y-1).toNat q).getD k yn0);rw[z1j hl];split;exact J;exact h.yv k I
theorem j4d {p:MSt}(h:MVal p){y:Int}(D:1<=y/\y<=6):YnV p.tb (p.y y):=h.yv (y-1).toNat (by omega)
theorem go_v {T:Tb}{y:Yn}{D:Int}{l:List Pa}(h:YnV T y)(hl:∀q∈l,z3z T q.id):YnV T (goS y D l):=⟨x3j h.1 hl,h.2⟩
theorem x4f {p q:MSt}{y M en:Int}(h:MVal p)(D:1<=y/\y<=6)(e:y6k p y M en=.ok q):MVal q/\q.B=p.B/\q.rk=p.rk:=by
 have I:=y1u h.inv D e;refine⟨?_,I.2⟩;unfold y6k at e;split at e;cases e;cases e;exact y9g h I.1 D (go_v (j4d h D) λq J=>h.inv.has _ (u5w J))
theorem v3o {p q:MSt}{o:MOp}{th st:List LId}(h:MVal p)(I:MInv q)(hy:1<=o.y/\o.y<=6)(hn:z4v o.b o.p=0)(hs:th++st=p.B.at o.b o.p)(h4:th.length<=4)(e:x1m p o th st=.ok q):MVal q:=by
 unfold x1m at e;split at e;cases e;rename_i hm;split at e;cases e;cases e;have hm:=Classical.not_not.1 hm;obtain⟨j,hj,a9⟩:∃j:Nat,j<6/\o.y=(j:Int)+1:=⟨(o.y-1).toNat,by omega,by omega⟩;have M:(o.y-1).toNat=j:=by omega
 have D:=h.inv.yn j hj;have b1:p.y o.y=p.ys.getD j yn0:=by unfold MSt.y;rw[M]
 rw[<-b1]at D;have a4:=j4d h hy;have a7:j<p.ys.length:=by rw[h.inv.ly];exact hj
 have a6:j<p.tb.length:=by rw[h.inv.lt];exact hj
 have a1:(p.y o.y).inn=true:=by
  unfold mkE at hm;split at hm;exact absurd hm (by assumption);split at hm;omega;rename_i k;simpa using k
 have O:=D.1.2;rw[if_pos a1]at O;have a2:p.row o.y=p.tb.getD j []:=by unfold MSt.row;rw[M]
 simp only[M,a2]at I ⊢;obtain⟨rk,ht⟩:=h.tab;have h6:=h.inv.lt;have a3:∀i∈th,z3z p.tb i:=λi I=>h.inv.has i (y0e (b:=o.b) (n:=o.p) (by rw[<-hs];exact List.mem_append_left _ I));have b0:y2q p.tb ⟨o.b,(p.y o.y).nw,th,(p.y o.y).pe⟩:=by
  refine⟨(z3m hn).1,⟨h4,O.2.1⟩,λi I=>?_,v3k O.2.2,u8f O.2.2⟩;rcases List.mem_append.1 I with k|k
  exact a3 i k;obtain⟨q,hq,rfl⟩:=List.mem_map.1 k;exact a4.1 q hq
 have a0:∀ {l:Lp} (i:LId),z3z p.tb i->z3z (p.tb.set j (p.tb.getD j []++[l])) i:=λi I=>(y0l h6 hj).2 (.inl I);refine⟨I,λk hk=>?_,⟨_,ht.add hj b0 (λe0=>a4.2 a1 (by rw[D.2,e0];rfl))⟩,λi I=>?_,λi I=>a0 i (h.fa i I),h.cr.mono a0⟩;show YnV (p.tb.set j _) ((p.ys.set j (mkS (p.y o.y))).getD k yn0);rw[z1j a7];split;refine⟨(by intro q hq;cases hq),λ_ h0=>?_⟩;have h1:(p.y o.y).ct+1=0:=h0;have:=D.1.1;omega;exact⟨λq hq=>a0 _ ((h.yv k hk).1 q hq),(h.yv k hk).2⟩;show ((p.B.put o.b o.p (st++[⟨o.y,(p.y o.y).ct⟩])).flat++p.fa++z7y (p.tb.set j (p.tb.getD j []++[_]))).count i=1;rw[List.count_append,List.count_append,x7v a6];have h1:=z4i p.B hn (st++[⟨o.y,(p.y o.y).ct⟩]) i;have h2:th.count i+st.count i=(p.B.at o.b o.p).count i:=by rw[<-hs,List.count_append]
 rw[List.count_append,List.count_singleton]at h1;dsimp only;rcases(y0l h6 hj).1 I with k|k
 have h3:=h.once i k;rw[List.count_append,List.count_append]at h3;have a8:¬((⟨o.y,(p.y o.y).ct⟩:LId) == i)=true:=by
  intro ee;have ee:(⟨o.y,(p.y o.y).ct⟩:LId)=i:=by simpa using ee
  obtain⟨_,_,_,Z⟩:=k;rw[<-ee]at Z;simp only at Z;rw[M,D.2]at Z;omega
 rw[if_neg a8]at h1;omega;have J:¬z3z p.tb i:=λZ=>by
  rw[k]at Z;obtain⟨_,_,_,Z⟩:=Z;simp only at Z;rw[show ((j:Int)+1-1).toNat=j by omega]at Z;omega
 have z1:p.B.flat.count i=0:=List.count_eq_zero.2 λz=>J (h.inv.has i z);have z2:p.fa.count i=0:=List.count_eq_zero.2 λz=>J (h.fa i z);have z3:(z7y p.tb).count i=0:=List.count_eq_zero.2 λz=>J (y8o ht z);have z4:th.count i=0:=List.count_eq_zero.2 λz=>J (a3 i z);have z5:(p.B.at o.b o.p).count i=0:=List.count_eq_zero.2 λz=>J (h.inv.has i (y0e z));have a5:((⟨o.y,(p.y o.y).ct⟩:LId) == i)=true:=by rw[k,D.2,a9];simp
 rw[if_pos a5]at h1;omega
theorem y7a {p:MSt}{d:Int}:∀ {l l':List Yn},z6s p d l=.ok l'->MVal p->∀k,YnV p.tb (l.getD k yn0)->YnV p.tb (l'.getD k yn0)
 | [],l',e,_,k,hk=>by cases e;exact hk
 | y::l,l',e,h,k,hk=>by
  unfold z6s at e
  split at e
  ·cases e
  rename_i M D
  split at e
  ·cases e
  rename_i J hl
  cases e
  cases k with
  | succ k=>simpa only[List.getD_cons_succ] using y7a hl h k (by simpa only[List.getD_cons_succ] using hk)
  | zero=>
   simp only[List.getD_cons_zero]at hk ⊢
   unfold z9k at D
   split at D
   ·cases D;exact hk
   split at D
   ·cases D
   cases D
   exact go_v hk λq I=>h.inv.has _ (v4f I)
theorem v3q {p q:MSt}{d:Int}(h:MVal p)(M:-4<=p.rk+stI d/\p.rk+stI d<=4)(e:y2h p d=.ok q):MVal q:=by
 have O:=(y9w h.inv M e).1;unfold y2h at e;split at e;cases e;rename_i ys I;split at e;cases e;rename_i cr D;cases e;refine⟨O,λk Z=>y7a I h k (h.yv k Z),h.tab,h.once,h.fa,h.cr.adds (λc J=>?_) D⟩;obtain⟨k1,k2,k3,_⟩:=v5j h.inv.B.nd J;exact⟨h.inv.has _ k1,h.inv.has _ k2,k3⟩
theorem x1t {r:Int}(J:-4<=r/\r<=4):∀ {n:Nat} {p q:MSt},MVal p->z6z n p r=.ok q->MVal q
 | 0,p,q,h,e=>by cases e;exact h
 | n+1,p,q,h,e=>by
  unfold z6z at e
  split at e
  ·cases e;exact h
  rename_i I
  split at e
  ·cases e
  rename_i O D
  have M:=h.inv.rk
  refine x1t J (v3q h ?_ D) e
  unfold stI
  split<;>split<;>omega
theorem v8e {p q:MSt}{o:MOp}(h:MVal p)(hi:MInv q)(hn:z4v o.b o.p=0)(e:y0h p o=.ok q):MVal q:=by
 unfold y0h at e;split at e;cases e;split at e;cases e;rename_i D;have D:=Classical.not_not.1 D;split at e;cases e;split at e;cases e;cases e;refine⟨hi,h.yv,h.tab,λi hh=>?_,h.fa,h.cr⟩;have Z:=(z3m hn).1;have hc:=y5m (p:=p) (o:=o) Z i;have I:(p.B.put o.b o.p []).at (1-o.b) (z8l o.b o.p p.rk)=p.B.at (1-o.b) (z8l o.b o.p p.rk):=by
  rw[v5q p.B hn D,if_neg (by omega)]
 have J:=z4i p.B hn [] i;have M:=z4i (p.B.put o.b o.p []) D (y0q p o) i;have O:=h.once i hh;rw[I]at M;show (((p.B.put o.b o.p []).put (1-o.b) (z8l o.b o.p p.rk) (y0q p o)).flat++p.fa++z7y p.tb).count i=1;simp only[List.count_append]at O ⊢;simp only[List.count_nil]at J;omega
theorem v9a {p q:MSt}{o:MOp}(h:MVal p)(M:MInv q)(hn:z4v o.b o.p=0)(e:y5x p o=.ok q):MVal q:=by
 unfold y5x at e;split at e;cases e;cases e;refine⟨M,h.yv,h.tab,λi D=>?_,λi D=>?_,h.cr⟩;have I:=z4i p.B hn [] i;have J:=h.once i D;show ((p.B.put o.b o.p []).flat++(p.fa++p.B.at o.b o.p)++z7y p.tb).count i=1;simp only[List.count_append]at J ⊢;simp only[List.count_nil]at I;omega;rcases List.mem_append.1 D with k|k
 exact h.fa i k;exact h.inv.has i (y0e k)
theorem u3p {p q:MSt}{o:MOp}(h:MVal p)(e:doM p o=.ok q):MVal q:=by
 have I:=x7n h.inv e;unfold doM at e;split at e;cases e;rename_i hc;obtain⟨_,h1,J,h3,M,h5⟩:=y5n (Classical.not_not.1 hc);unfold opM at e;split at e;have D:=J (by omega);unfold inM at e;split at e;cases e;cases e;exact y9g h I D ⟨(by intro q Z;cases Z),λ_ _=>rfl⟩;split at e;have D:=J (by omega);unfold v0g at e;split at e;cases e;cases e;exact y9g h I D ⟨(by intro q Z;cases Z),(by intro k;cases k)⟩;split at e;exact x1t (h5 (by omega)) h e;split at e;have D:=J (by omega);have O:=M (by omega);unfold y3f at e;split at e;cases e;split at e;cases e;rename_i r hr;obtain⟨v1,v2,v3⟩:=x4f h D hr;exact v3o v1 I D O (by simp) (y5a v1.inv.B _ _) e;split at e;have D:=J (by omega);have O:=M (by omega);unfold y2m at e;split at e;cases e;split at e;cases e;rename_i r hr;obtain⟨v1,v2,v3⟩:=x4f h D hr;split at e;cases e;exact v3o v1 I D O (by simp) (by simp) e;split at e;have D:=J (by omega);unfold y6n at e;split at e;cases e;exact(x4f h D e).1;split at e;exact v8e h I (M (by omega)) e;exact v9a h I (M (by omega)) e
theorem y4a:∀ {l:List MOp} {i:Nat} {p q:MSt},MVal p->z6l i p l=.ok q->MVal q
 | [],i,p,q,h,e=>by cases e;exact h
 | o::l,i,p,q,h,e=>by
  unfold z6l at e
  split at e
  ·cases e
  rename_i I D
  exact y4a (u3p h D) e
structure StQ where
  rk:Int
  q:BdQ
  yv:SV
  ys:List YQ
  fb:FbQ
abbrev stL (s:StQ):List Value:=[.int .i64 s.rk,.slice s.q.f.1 s.q.f.2.1 s.q.f.2.2,.slice s.q.b.1 s.q.b.2.1 s.q.b.2.2,.slice s.yv.1 s.yv.2.1 s.yv.2.2,.slice s.fb.t.1 s.fb.t.2.1 s.fb.t.2.2,.slice s.fb.c.1 s.fb.c.2.1 s.fb.c.2.2,.slice s.fb.h.1 s.fb.h.2.1 s.fb.h.2.2,.slice s.fb.f.1 s.fb.f.2.1 s.fb.f.2.2]
structure St where
  rk:Int
  B:Bd
  ys:List Yn
  fb:Fb
abbrev StQ.p (s:StQ):St:=⟨s.rk,s.q.p,s.ys.map YQ.p,s.fb.p⟩
def YsA (w:World)(ys:List YQ):Prop:=∀i,Sl z1s w (slv (ys.getD i yq0).pe) (ys.getD i yq0).pes
theorem YsA.ext {w w':World}{ys:List YQ}(h:YsA w ys)(hf:Fr [] w w'):YsA w' ys:=λi=>(h i).ext hf
structure StAt (w:World) (s:StQ):Prop where
  b:BdAt w s.q
  y:Sl z2j w (slv s.yv) s.ys
  ya:YsA w s.ys
  f:FbAt w s.fb
theorem StAt.ext {w w':World}{s:StQ}(h:StAt w s)(hf:Fr [] w w'):StAt w' s:=⟨h.b.ext hf,h.y.ext hf,h.ya.ext hf,h.f.ext hf⟩
theorem u0u {κ:Type}[DecidableEq κ]{V:κ->Value}{w:World}{g:Nat}(h:MapF V w g λ_=>none):MapL V w g []:=by
 obtain⟨J,c,m,M,O,Z⟩:=h;have D:m=[]:=by
  cases m with
  | nil=>rfl
  | cons p m=>have:=Z p.1;simp[z2k]at this
 subst D;have I:J.toList=[]:=List.map_eq_nil_iff.1 O;refine⟨J,c,M,by rw[I];rfl,by simp,by rw[I];simp,λe D=>by rw[I]at D;cases D⟩
theorem x0w {κ:Type}[DecidableEq κ]{m:List (κ×Value)}{k:κ}{v:Value}(h:k∉m.map (·.1)):z3u m k v=m++[(k,v)]:=by
 unfold z3u;have:(m.map (·.1)).findIdx? (λx=>decide (k=x))=none:=by
  rw[List.findIdx?_eq_none_iff];intro x D;have:k≠x:=λe=>h (e▸D);simpa using this
 rw[this]
abbrev cxK (c:Cx):LId×LId:=(c.a,c.b)
theorem y8w (l:List Cx):(crM l).map (·.1)=l.map cxK:=by unfold crM;rw[List.map_map];rfl
theorem v9n {l:List Cx}{i:Nat}(hn:(l.map cxK).Nodup)(I:i<l.length):z3u (crM (l.take i)) (cxK (l.getD i cx0)) (.int .i64 (l.getD i cx0).n)=crM (l.take (i+1)):=by
 have e:l.take (i+1)=l.take i++[l.getD i cx0]:=by rw[List.take_add_one,List.getD,List.getElem?_eq_getElem I];rfl
 rw[x0w,e];unfold crM;rw[List.map_append];rfl;rw[y8w];intro J;have D:(((l.take i)++[l.getD i cx0]).map cxK).Nodup:=by
  rw[<-e];exact List.Nodup.sublist (List.Sublist.map _ (List.take_sublist _ _)) hn
 rw[List.map_append]at D;exact(List.nodup_append.1 D).2.2 _ J _ (List.mem_singleton.2 U) U
theorem y7r {τ:TyK}{Mt:Nat}{w0 w:World}{s:StQ}{fs bs:List IQ}{Z O gy gt M gk I:Nat}{ps:List YQ}{us:List TQ}
    (hk:Blk w gk Mt [.int .i64 s.rk,.slice (some ⟨Z,0,none⟩) fs.length fs.length,.slice (some ⟨O,0,none⟩) bs.length bs.length,.slice (some ⟨gy,0,none⟩) s.ys.length s.ys.length,.slice (some ⟨gt,0,none⟩) s.fb.ts.length s.fb.ts.length,.map (some M),.slice (some ⟨I,0,none⟩) s.fb.fs.length s.fb.fs.length])
    (hF:RwO τ.S τ.I w0.heap.size w (.slice (some ⟨Z,0,none⟩) fs.length fs.length) fs) (hB:RwO τ.S τ.I w0.heap.size w (.slice (some ⟨O,0,none⟩) bs.length bs.length) bs)
    (hY:YsO τ w0.heap.size w (.slice (some ⟨gy,0,none⟩) s.ys.length s.ys.length) ps) (hpl:ps.length=s.ys.length) (hpm:ps.map YQ.p=s.ys.map YQ.p)
    (hT:TbO τ w0.heap.size w (.slice (some ⟨gt,0,none⟩) s.fb.ts.length s.fb.ts.length) us) (hul:us.length=s.fb.ts.length) (htm:z1w us=z1w s.fb.ts)
    (hm:MapF crK w M λ_=>none) (hf:Lw.Own z1h τ.I w0.heap.size w (.slice (some ⟨I,0,none⟩) s.fb.fs.length s.fb.fs.length) s.fb.fs) (hly:s.ys.length=6) (hlt:s.fb.ts.length=6)
    (hfr:Fr [] w0 w) (hgc:w0.heap.size<=M) (hgk:w0.heap.size<=gk) (hfb:∀x∈fs++bs,I∉z0v (slv x.1)) (hft:∀i,i<6->∀q∈(us.getD i tq0).2,I∉z0v (slv q.th)) (hpF:plB fs=trimB (plB s.q.fs)) (hpB:plB bs=trimB (plB s.q.bs)) :
    ∃m:MQ,MkM τ Mt w0 ⟨gk,gy,6,gt,6,M,w⟩ w m/\m.p=⟨s.rk,⟨trimB (plB s.q.fs),trimB (plB s.q.bs)⟩,s.ys.map YQ.p,z1w s.fb.ts,[],s.fb.fs⟩:=by
  refine⟨⟨s.rk,⟨(some ⟨Z,0,none⟩,fs.length,fs.length),(some ⟨O,0,none⟩,bs.length,bs.length),fs,bs⟩,ps,us,[],(some ⟨I,0,none⟩,s.fb.fs.length,s.fb.fs.length),s.fb.fs⟩,⟨?_,⟨hF,hB⟩,?_,?_,u0u hm,hf,λx hx k D J=>?_,λi hi q hq k D J=>?_,by rw[hpl,hly],by rw[hul,hlt],hgk,hgc,⟨hfr,KpM.refl _ _ _⟩⟩,?_⟩
  · rw[hly,hlt]at hk;exact hk
  · rw[hly]at hY;exact hY
  · rw[hlt]at hT;exact hT
  · simp[z0v,slv]at J;subst J;exact hfb x hx D
  · simp[z0v,slv]at J;subst J;exact hft i hi q hq D
  · show (⟨s.rk,⟨plB fs,plB bs⟩,ps.map YQ.p,z1w us,[],s.fb.fs⟩:MSt)=_
    rw[hpF,hpB,hpm,htm]
end Go.G08
namespace Go.G08
open Go.Lw Go.G21 Go.Proofs Go.Sort
theorem v0y (X:World)(o:Obj)(b:Nat)(h:X.heap.size=b):(X.alloc o).drew.heap[b]?=some o:=by subst h;show (X.heap.push o)[X.heap.size]?=some o;simp
theorem j6u (X:World)(o:Obj)(b:Nat)(h:X.heap.size=b):(X.alloc o).heap[b]?=some o:=by subst h;show (X.heap.push o)[X.heap.size]?=some o;simp
def DG (w w':World):Prop:=∃q os',w'=grow (w.drewN q) os'
theorem DG.refl (w:World):DG w w:=⟨0,#[],by rw[grow_empty];rfl⟩
theorem DG.alloc {w w':World}(h:DG w w')(o:Obj):DG w (w'.alloc o):=by
 obtain⟨q,D,rfl⟩:=h;exact⟨q,D++#[o],by rw[alloc_eq_grow,grow_grow]⟩
theorem DG.drew {w w':World}(h:DG w w'):DG w w'.drew:=by
 obtain⟨q,D,rfl⟩:=h;exact⟨q+1,D,rfl⟩
theorem DG.trans {a b c:World}(h:DG a b)(I:DG b c):DG a c:=by
 obtain⟨q,J,rfl⟩:=h;obtain⟨M,D,rfl⟩:=I;exact⟨q+M,J++D,by rw[<-grow_grow];unfold grow World.drewN;simp[Nat.add_assoc]⟩
theorem DG.cell {w w':World}(h:DG w w'){p:Addr}{v:Value}(hb:w.cell? p=some v):w'.cell? p=some v:=by
 obtain⟨q,D,rfl⟩:=h;have hl:=block_lt_of_cell hb;refine(World.cell?_of_block (w:=w) ?_).trans hb;show (w.heap++D)[p.block]?=_;rw[Array.getElem?_append_left hl]
theorem j2t {X:World}{b T:Nat}{x y:Int}(h:X.heap[b]?=some (.cells #[.int .i64 x,.int .i64 y] T (0,0))):Sl Enc.i64 X (.slice (some ⟨b,0,none⟩) 2 2) [x,y]:=
 Lw.Own.sl (E:=Enc.i64) (T:=T) (base:=b) (.inr ⟨b,2,_,rfl,Nat.le_refl _,h,Nat.le_refl _,by decide,Nat.le_refl 2,rfl⟩)
def x0o (x y:Cx):Int:=if z6o x.a y.a≠0 then z6o x.a y.a else z6o x.b y.b
abbrev j0g (c:Cx):Value:=.agg #[.int .u8 c.a.y,.int .i64 c.a.n,.int .u8 c.b.y,.int .i64 c.b.n,.int .i64 c.n]
section
variable {α:Type} [Inhabited α] (E:Enc α)
theorem y7f (ys:Array α):(flatK E.enc E.sz ys).toList=ys.toList.flatMap E.enc:=by
 refine List.ext_getElem? λt=>?_;have O:=E.pos;by_cases ht:t<ys.size*E.sz;have M:t / E.sz<ys.size:=Nat.div_lt_of_lt_mul (by rw[Nat.mul_comm];exact ht);have D:t % E.sz<E.sz:=Nat.mod_lt _ O;have I:=get_flatK E.enc E.sz ys t ht;have J:=E.flat_get ys.toList (t / E.sz) ys[t / E.sz] (by simp[M]) (t % E.sz) D;rw[show t / E.sz*E.sz+t % E.sz=t by rw[Nat.mul_comm];exact Nat.div_add_mod t E.sz]at J;rw[J,Array.getElem?_toList];rw[getElem!_pos (flatK E.enc E.sz ys) t (by simpa using ht),getElem!_pos ys (t / E.sz) M,getElem!_pos (E.enc ys[t / E.sz]) (t % E.sz) (by rw[E.len];exact D)]at I;rw[Array.getElem?_eq_getElem (by simpa using ht),I,List.getElem?_eq_getElem (by rw[E.len];exact D)];rw[List.getElem?_eq_none (by simp;omega),List.getElem?_eq_none (by rw[E.flat_len];simp;omega)]
variable {E} {w:World} {g T cap base:Nat} {cur:Array Value}
theorem v2p {ys:List α}(h:w.heap[g]?=some (.cells cur T (0,0)))(O:ys.length*E.sz<=cur.size)(M:cur.toList.take (ys.length*E.sz)=ys.flatMap E.enc):HoldsK E.enc E.sz w g 0 ys.toArray:=by
 intro j I;have J:j<ys.length*E.sz:=by simpa using I
 have e:=y7f E ys.toArray;rw[<-show cur.toList.take (ys.length*E.sz)=ys.toArray.toList.flatMap E.enc from M]at e;have D:=congrArg (λl:List Value=>l[j]?) e;simp only[Array.getElem?_toList,List.getElem?_take,J,if_true]at D;constructor;rw[Nat.zero_add,getElem!_pos _ j I];rw[Array.getElem?_eq_getElem I]at D;simp only[World.cell?,h];exact D.symm;simp only[World.frozen?,h];simp
theorem u2h {ys:List α}(h:w.heap[g]?=some (.cells cur T (0,0)))(hs:ys.length*E.sz<=cur.size)(hb:base<=g)(hc:ys.length<=cap)(hM:cap<=maxLen)(M:cap*E.sz<=cur.size)(d:Array α)(I:d.size=ys.length)(n:Nat)(J:Array Obj) :
    Lw.Own E T base (sortWorldK E.enc E.sz w g 0 n d J) (.slice (some ⟨g,0,none⟩) ys.length cap) d.toList/\Fr [g] w (sortWorldK E.enc E.sz w g 0 n d J):=by
  have hg:g<w.heap.size:=(Array.getElem?_eq_some_iff.1 h).1
  have D:∀k,k<w.heap.size->(sortWorldK E.enc E.sz w g 0 n d J).heap[k]?=(w.heap.modify g (onCells (putCells id 0 (flatK E.enc E.sz d))))[k]?:=λk Z=>by
    show ((w.heap.modify g _)++J)[k]?=_
    rw[Array.getElem?_append_left (by simpa using Z)]
  refine⟨.inr ⟨g,cap,putCells id 0 (flatK E.enc E.sz d) cur,by rw[show d.toList.length=ys.length by simpa using I],hb,?_,by simpa[I] using hc,hM,by simpa[putCells] using M,?_⟩,rfl,rfl,rfl,?_,λk Z hn=>?_⟩
  · rw[D g hg,Array.getElem?_modify,if_pos U,h];rfl
  · rw[<-y7f E d]
    refine List.ext_getElem? λt=>?_
    have O:d.toList.length=ys.length:=by simpa using I
    rw[List.getElem?_take,O]
    by_cases ht:t<ys.length*E.sz
    · rw[if_pos ht,Array.getElem?_toList,Array.getElem?_toList]
      unfold putCells
      rw[Array.getElem?_mapIdx,Array.getElem?_eq_getElem (show t<cur.size by omega),Array.getElem?_eq_getElem (show t<(flatK E.enc E.sz d).size by simpa[I] using ht)]
      simp only[Option.map_some,Nat.zero_le,Nat.zero_add,true_and,Nat.sub_zero,id]
      rw[if_pos (by simpa[I] using ht),getElem!_pos _ t (by simpa[I] using ht)]
    · rw[if_neg ht,List.getElem?_eq_none (by simp[I];omega)]
  · show w.heap.size<=((w.heap.modify g _)++J).size
    simp
  · rw[D k Z,Array.getElem?_modify,if_neg (λe=>hn (by simp[e]))]
open Go.Shelf in
theorem x8g {P:Program}{ρ:Ren}(L:SlLaysF0.n6 P ρ){f cl:Nat}(hf:ρ.f 6=f)(aE:∀w,(isAgg (ρ.t 24)).run P w=.ok true w)(zE:∀w,(Go.sizeOf (ρ.t 24)).run P w=.ok E.sz w)(cf:α->α->Int)(hO:SWO (ltOf cf))
    (eg:∀D w,(callFunc cl D).run P w=.ok (.enter cl D) w)
    (hcmp:∀x y W,Calls P cl #[.agg (E.enc x).toArray,.agg (E.enc y).toArray] W λe w'=>e=.returned (.int .i64 (cf x y))/\DG W w')
    (hnil:∀W,Calls P f #[.slice none 0 0,.func (.func cl) #[] #[]] W λe w'=>e=.returned (.tuple #[])/\Fr [] W w')
    {v:Value} {ys:List α} (ho:Lw.Own E T base w v ys) (hl:ys.length<4611686018427387904):Rets P f #[v,.func (.func cl) #[] #[]] w λr w'=>r=.tuple #[]/\∃ys',ys'.Perm ys/\ys'.Pairwise (λa b=>¬cf b a<0)/\Lw.Own E T base w' v ys'/\Fr (z0v v) w w':=by
  subst hf
  rcases ho with ⟨rfl,rfl⟩|⟨g,cap,cur,rfl,h2,J,h4,h5,h6,h7⟩
  · exact Calls.mono (hnil w) (by rintro e w' ⟨rfl,h⟩;exact⟨_,rfl,rfl,[],.refl _,.nil,Lw.Own.nil _,h.weak (by simp)⟩)
  · have hs:ys.length*E.sz<=cur.size:=Nat.le_trans (Nat.mul_le_mul_right _ h4) h6
    have h:=AnyQ.slices_SortFunc L E.sz aE zE E.enc E.len E.one cf hO cl #[] g 0 cap ys.toArray w eg (λm os dk _ x y=>hcmp x y _) (v2p J hs h7) (Array.getElem?_eq_some_iff.1 J).1 (by simpa using hl)
    rw[show ys.toArray.size=ys.length by simp]at h
    refine Calls.mono h ?_
    rintro e w' ⟨rfl,I,n,os,hp,a1,rfl⟩
    have M:I.size=ys.length:=by simpa using hp.1
    obtain⟨k1,k2⟩:=u2h (base:=base) J hs h2 h4 h5 h6 I M n os
    refine⟨_,rfl,rfl,I.toList,?_,?_,k1,by simpa[z0v] using k2⟩
    · have:=hp.2.2
      simp[M]at this
      rwa [List.take_of_length_le (by simpa using Nat.le_of_eq M)]at this
    · rw[List.pairwise_iff_getElem]
      intro i j hi hj Z
      have O:i<I.size:=by simpa using hi
      have a0:j<I.size:=by simpa using hj
      have:=a1 i j (Nat.zero_le _) Z (by omega)
      rw[getElem!_pos I i O,getElem!_pos I j a0]at this
      simpa[ltOf] using this
end
theorem y0d {x y:Cx}:x0o x y<0↔(x.a.y<y.a.y\/x.a.y=y.a.y/\x.a.n<y.a.n)\/(x.a.y=y.a.y/\x.a.n=y.a.n)/\(x.b.y<y.b.y\/x.b.y=y.b.y/\x.b.n<y.b.n):=by
 unfold x0o;have e:z6o x.a y.a=0↔x.a.y=y.a.y/\x.a.n=y.a.n:=by rw[y4t];obtain⟨⟨_,_⟩,_,_⟩:=x;obtain⟨⟨_,_⟩,_,_⟩:=y;simp
 split;rename_i h;rw[z7b];rw[Ne,e]at h;omega;rename_i h;rw[Decidable.not_not,e]at h;rw[z7b];omega
theorem swoI:SWO (ltOf z6o):=by
 constructor;intro x;simp only[ltOf,decide_eq_false_iff_not,z7b];omega;intro x y z;simp only[ltOf,decide_eq_true_eq,z7b];omega;intro x y z;simp only[ltOf,decide_eq_false_iff_not,z7b];omega
theorem swoX:SWO (ltOf x0o):=by
 constructor;intro x;simp only[ltOf,decide_eq_false_iff_not,y0d];omega;intro x y z;simp only[ltOf,decide_eq_true_eq,y0d];omega;intro x y z;simp only[ltOf,decide_eq_false_iff_not,y0d];omega
def z8q (l:List LId):List LId:=l.mergeSort λa b=>decide (¬z6o b a<0)
def z9y (l:List Cx):List Cx:=l.mergeSort λa b=>decide (¬x0o b a<0)
theorem z3f (l:List LId):(z8q l).Perm l:=List.mergeSort_perm ..
theorem z2v (l:List Cx):(z9y l).Perm l:=List.mergeSort_perm ..
theorem y9p (l:List LId):(z8q l).Pairwise λa b=>¬z6o b a<0:=
 (List.pairwise_mergeSort (le:=λa b=>decide (¬z6o b a<0)) (λa b c=>by simp only[decide_eq_true_eq,z7b];omega) (λa b=>by simp only[Bool.or_eq_true,decide_eq_true_eq,z7b];omega) l).imp (by simp)
theorem y3m (l:List Cx):(z9y l).Pairwise λa b=>¬x0o b a<0:=
 (List.pairwise_mergeSort (le:=λa b=>decide (¬x0o b a<0)) (λa b c=>by simp only[decide_eq_true_eq,y0d];omega) (λa b=>by simp only[Bool.or_eq_true,decide_eq_true_eq,y0d];omega) l).imp (by simp)
theorem v5u {l l':List LId}(hp:l'.Perm l)(J:l'.Pairwise λa b=>¬z6o b a<0):l'=z8q l:=by
 refine List.Perm.eq_of_pairwise (λa b _ _ D I=>?_) J (y9p l) (hp.trans (z3f l).symm);rw[z7b]at D I;obtain⟨_,_⟩:=a;obtain⟨_,_⟩:=b;simp only at D I;rw[LId.mk.injEq];omega
theorem x5l {l l':List Cx}(hn:(l.map λc=>(c.a,c.b)).Nodup)(hp:l'.Perm l)(hs:l'.Pairwise λa b=>¬x0o b a<0):l'=z9y l:=by
 refine List.Perm.eq_of_pairwise (λa b ha hb M O=>?_) hs (y3m l) (hp.trans (z2v l).symm);have I:=hp.mem_iff.1 ha;have J:=(z2v l).mem_iff.1 hb;have hk:(a.a,a.b)=(b.a,b.b):=by
  rw[y0d]at M O;obtain⟨⟨_,_⟩,⟨_,_⟩,_⟩:=a;obtain⟨⟨_,_⟩,⟨_,_⟩,_⟩:=b;simp only at M O;simp only[Prod.mk.injEq,LId.mk.injEq];omega
 have D:=List.pairwise_iff_getElem.1 (List.pairwise_map.1 hn);obtain⟨i,Z,rfl⟩:=List.getElem_of_mem I;obtain⟨j,hj,rfl⟩:=List.getElem_of_mem J;rcases Nat.lt_trichotomy i j with h|h|h
 exact absurd hk (D i j Z hj h);subst h;rfl;exact absurd hk.symm (D j i hj Z h)
end Go.G08
namespace Go.Lw
section
variable {P:Program} {ops:Array Oper} {Q:Exit->Act->World->Prop} {rest:List Oper} {n:Nat} {ds:List Nat} {L:List (Nat×Value)} {w:World} {d:Nat} {x:Operand} {t K E g ty:Nat} {pos:String} {after:Array Edge} {κ:Type} [DecidableEq κ] {V:κ->Value} {m:List (κ×Value)}
theorem j2y (Z:ev L x=some (.map (some g)))(M:MapL V w g m)(O:P.underlying t=some (.map K E))(hn:Nat.blt d n=true)(q:WL P ops Q rest n ds w ((d,.int .i64 (m.length:Int))::L)):WL P ops Q (⟨some d,.call ⟨.builtin .len,#[x],#[t]⟩,ty,pos,after,none⟩::rest) n ds w L:=λa h=>by
 obtain⟨D,c,I,J,_⟩:=M
 have hl:D.size=m.length:=by have:=congrArg List.length J;simpa using this
 refine z1x h U hn (w':=w) (v:=.int .i64 (m.length:Int)) ?_ q
 rw[z1z];unfold builtin
 simp[h.eval Z,Builtin.len_,run_underlying O,z2l I,hl]
 rfl
theorem MapIt.no {gi:Nat}{rem:List (κ×Value)}{cur:Option (κ×Value)}(h:MapIt V w gi g m rem cur):MapIt V w gi g m rem none:=by
 obtain⟨I,c,D,M,O,Z,k4,k5,k6,_⟩:=h;exact⟨I,c,D,M,O,Z,k4,k5,k6,λp J=>by cases J⟩
end
end Go.Lw
namespace Go.G08
open Go.Lw Go.G21
theorem u9p (a b:List Cx):crM (a++b)=crM a++crM b:=by unfold crM;rw[List.map_append]
theorem v3e {l:List Cx}{r1 r2:List ((LId×LId)×Value)}{p:(LId×LId)×Value}(h:crM l=r1++p::r2):∃D c I,l=D++c::I/\r1=crM D/\p=((c.a,c.b),.int .i64 c.n)/\r2=crM I:=by
 unfold crM at h;obtain⟨D,l',rfl,J,M⟩:=List.map_eq_append_iff.1 h;obtain⟨c,I,rfl,O,Z⟩:=List.map_eq_cons_iff.1 M;exact⟨D,c,I,rfl,J.symm,O.symm,Z.symm⟩
section
variable {P:Program} {ops:Array Oper} {Q:Exit->Act->World->Prop} {rest:List Oper} {n:Nat} {ds:List Nat} {L:List (Nat×Value)} {w:World} {d:Nat} {x:Operand} {t g gi ty:Nat} {pos:String} {after:Array Edge} {em:List ((LId×LId)×Value)} {rem:List Cx}
def CrIt (w:World)(gi g:Nat)(em:List ((LId×LId)×Value))(rem:List Cx)(cur:Option Cx):Prop:=MapIt crK w gi g em (crM rem) (cur.map λc=>((c.a,c.b),.int .i64 c.n))
theorem CrIt.fr {w':World}{S:List Nat}{cur:Option Cx}(h:CrIt w gi g em rem cur)(hf:Fr S w w')(hn:∀k∈S,k≠g/\k≠gi):CrIt w' gi g em rem cur:=MapIt.fr h hf (λe=>(hn g e).1 U) (λe=>(hn gi e).2 U)
theorem CrIt.ext {w':World}{cur:Option Cx}(h:CrIt w gi g em rem cur)(hf:Fr [] w w'):CrIt w' gi g em rem cur:=h.fr hf (by simp)
theorem CrIt.no {cur:Option Cx}(h:CrIt w gi g em rem cur):CrIt w gi g em rem none:=MapIt.no h
theorem CrIt.lt {cur:Option Cx}(h:CrIt w gi g em rem cur):gi<w.heap.size:=MapIt.lt h
theorem CrIt.neO {α:Type}{E:Enc α}{T base:Nat}{v:Value}{ys:List α}{cur:Option Cx}(h:CrIt w gi g em rem cur)(O:Lw.Own E T base w v ys):∀k∈z0v v,k≠g/\k≠gi:=λk I=>by
 obtain⟨es,c,M,Z,_,_,_,k5,_⟩:=h
 rcases O with ⟨rfl,_⟩|⟨g',cap,J,rfl,_,D,_⟩
 ·simp[z0v]at I
 simp only[z0v,List.mem_singleton]at I
 subst I
 exact⟨λe=>(by rw[e,Z]at D;cases D),λe=>(by rw[e,k5]at D;cases D)⟩
theorem v9h {K E:Nat}{l:List Cx}(J:ev L x=some (.map (some g)))(D:MapL crK w g (crM l))(I:P.underlying t=some (.map K E))(hn:Nat.blt d n=true)
 (q:∀gi w',gi=w.heap.size->CrIt w' gi g (crM l) l none->Fr [] w w'->w'.heap.size=gi+1->WL P ops Q rest n ds w' ((d,.pointer (some ⟨gi,0,none⟩))::L)):WL P ops Q (⟨some d,.range t x,ty,pos,after,none⟩::rest) n ds w L:=u2a J D I hn q
theorem u6y {cur:Option Cx}(Z:ev L x=some (.pointer (some ⟨gi,0,none⟩)))(O:CrIt w gi g em rem cur)(hn:Nat.blt d n=true)
    (qt:∀D c I,rem=D++c::I->∀w',CrIt w' gi g em (D++I) (some c)->Fr [gi] w w'->w'.heap.size=w.heap.size->WL P ops Q rest n ds w' ((d,.tuple #[.bool true,crK (c.a,c.b),.int .i64 c.n])::L))
    (qf:rem=[]->WL P ops Q rest n ds w ((d,.tuple #[.bool false])::L)):WL P ops Q (⟨some d,.next x false,ty,pos,after,none⟩::rest) n ds w L:=
  u9l Z O hn (λr1 p r2 J w' M hf hz=>by
    obtain⟨D,c,I,rfl,rfl,rfl,rfl⟩:=v3e J
    exact qt D c I U w' (by unfold CrIt;rw[u9p];exact M) hf hz) (λJ=>qf (List.map_eq_nil_iff.1 J))
theorem u1s {c:Cx}(I:ev L x=some (.pointer (some ⟨gi,0,none⟩)))(D:CrIt w gi g em rem (some c))(hn:Nat.blt d n=true)
 (q:WL P ops Q rest n ds w ((d,.tuple #[.agg #[.int .u8 c.a.y,.int .i64 c.a.n,.int .u8 c.b.y,.int .i64 c.b.n],.int .i64 c.n])::L)):WL P ops Q (⟨some d,.entry x,ty,pos,after,none⟩::rest) n ds w L:=u2b (p:=((c.a,c.b),.int .i64 c.n)) I D hn q
end
section
variable {τ:TyK} {Mt:Nat} {wS w w':World} {a:MA} {m:MQ} {j:Nat} {u:SV}
theorem MkM.tabh (h:MkM τ Mt wS a w m)(I:MtOk τ Mt)(hj:j<6)(h1:Lw.Own z4k τ.L wS.heap.size w (slv u) (m.ts.getD j tq0).2)(M:∀i,i<6->∀b∈z0v (slv (m.ts.getD i tq0).1),b∉z0v (slv u))
    (h2:Lw.Own z3l τ.T wS.heap.size w' a.TV (m.ts.set j (u,(m.ts.getD j tq0).2))) (f2:Fr [a.gt] w w'):MkM τ Mt wS a w' { m with ts:=m.ts.set j (u,(m.ts.getD j tq0).2) }:=by
  have hl:j<m.ts.length:=by rw[h.lt];exact hj
  have J:∀T,T≠τ.T->OffT w T [a.gt]:=λT hT=>z2p h.t.out (Ne.symm hT)
  refine⟨y7d h.k f2 (J _ I.t),BdO.tf h.b f2 (J _ (Ne.symm I.o.ts)) (J _ (Ne.symm I.o.ti)),h.y.tf f2 (J _ I.o.yt) (J _ (Ne.symm I.o.tp)),⟨h2,λi D=>?_,λi k D Z a2=>?_,λi D q hq=>?_⟩,h.c.tf f2 (J _ I.t),z1l h.f f2 (J _ (Ne.symm I.o.ti)),h.fb,λi D p O=>?_,h.ly,by rw[List.length_set];exact h.lt,h.gk,h.gc,h.fr.step f2 (y6y h.t.out (by simp[v7j])) λk Z a3=>?_⟩
  · simp only[List.length_set]at D
    rw[z1j hl]
    split
    · exact z1l h1 f2 (J _ (Ne.symm I.o.tl))
    · exact z1l (h.t.ins i D) f2 (J _ (Ne.symm I.o.tl))
  · simp only[List.length_set]at D Z
    rw[z1j hl,z1j hl]
    split
    · rw[if_neg (by omega)];exact λb hb a1=>M k (by rw[<-h.lt];exact Z) b a1 hb
    · split
      · exact M i (by rw[<-h.lt];exact D)
      · exact h.t.off i k D Z a2
  · simp only[List.length_set]at D
    rw[z1j hl]at hq
    have a0:q∈(m.ts.getD i tq0).2:=by split at hq;(rename_i e;subst e;exact hq);exact hq
    exact⟨z1l (h.t.lps i D q a0).1 f2 (J _ (Ne.symm I.o.ti)),z1l (h.t.lps i D q a0).2 f2 (J _ (Ne.symm I.o.tp))⟩
  · simp only at O
    rw[z1j hl]at O
    split at O
    · rename_i e;subst e;first|exact h.ft _ D p O|exact h.ft _ hj p O
    · exact h.ft i D p O
  · have:=(h.t.out.blk k Z).1;omega
theorem MkM.fallS {l:List LId}(h:MkM τ Mt wS a w m)(M:MtOk τ Mt)(D:τ.I≠τ.P)(h1:Lw.Own z1h τ.I wS.heap.size w' (slv m.fa) l)(J:Fr (z0v (slv m.fa)) w w'):MkM τ Mt wS a w' { m with fl:=l }:=by
 have I:=y7d h.k J (z2p h.f (Ne.symm M.i));exact MkM.fall (u:=m.fa) h M D h1 J (λk I=>.inl I) I ((Fr.refl [] w').weak (by simp))
def stM (p:MSt):St:=⟨p.rk,p.B,p.ys,⟨p.tb,z9y p.cr,(z2q p.B p.rk).map Hd.id,z8q p.fa⟩⟩
structure MkW (τ:TyK) (base:Nat) (a:MA) (w:World) (m:MQ):Prop where
  b:BdO τ.S τ.I base w m.q
  y:YsO τ base w a.YV m.ys
  t:TbO τ base w a.TV m.ts
theorem MkM.toW (h:MkM τ Mt wS a w m):MkW τ wS.heap.size a w m:=⟨h.b,h.y,h.t⟩
theorem MkW.ext {base:Nat}(h:MkW τ base a w m)(hf:Fr [] w w'):MkW τ base a w' m:=⟨h.b.ext hf,h.y.ext hf,h.t.ext hf⟩
theorem MkW.off {base g T:Nat}{cs:List Value}(h:MkW τ base a w m)(D:Blk w g T cs)(hT:T≠τ.S/\T≠τ.I/\T≠τ.Y/\T≠τ.P/\T≠τ.T/\T≠τ.L)(hf:Fr [g] w w'):MkW τ base a w' m:=by
 obtain⟨M,I,O,J,Z,h6⟩:=hT;exact⟨BdO.tf h.b hf (OffT.one D M) (OffT.one D I),h.y.tf hf (OffT.one D O) (OffT.one D J),h.t.tf hf (OffT.one D Z) (OffT.one D h6) (OffT.one D I) (OffT.one D J)⟩
def j5m (s:StQ):Prop:=∀k∈z0v (slv s.fb.h),(∀q∈s.q.fs++s.q.bs,k∉z0v (slv q.1))/\(∀t∈s.fb.ts,∀l∈t.2,k∉z0v (slv l.th))/\k∉z0v (slv s.fb.f)
structure StO (τ:TyK) (Tc base:Nat) (w:World) (s:StQ):Prop where
  b:BdO τ.S τ.I base w s.q
  y:YsO τ base w (slv s.yv) s.ys
  t:TbO τ base w (slv s.fb.t) s.fb.ts
  c:Lw.Own z4q Tc base w (slv s.fb.c) s.fb.cs
  h:Lw.Own z1h τ.I base w (slv s.fb.h) s.fb.hs
  f:Lw.Own z1h τ.I base w (slv s.fb.f) s.fb.fs
  sp:j5m s
theorem StO.ext {D base:Nat}{s:StQ}(h:StO τ D base w s)(hf:Fr [] w w'):StO τ D base w' s:=⟨h.b.ext hf,h.y.ext hf,h.t.ext hf,h.c.ext hf,h.h.ext hf,h.f.ext hf,h.sp⟩
theorem StO.off {J base g T:Nat}{cs:List Value}{s:StQ}(h:StO τ J base w s)(D:Blk w g T cs)(hT:T≠τ.S/\T≠τ.I/\T≠τ.Y/\T≠τ.P/\T≠τ.T/\T≠τ.L/\T≠J)(hf:Fr [g] w w'):StO τ J base w' s:=by
 obtain⟨O,I,Z,M,h5,h6,h7⟩:=hT;exact⟨BdO.tf h.b hf (OffT.one D O) (OffT.one D I),h.y.tf hf (OffT.one D Z) (OffT.one D M),h.t.tf hf (OffT.one D h5) (OffT.one D h6) (OffT.one D I) (OffT.one D M),z1l h.c hf (OffT.one D h7),z1l h.h hf (OffT.one D I),z1l h.f hf (OffT.one D I),h.sp⟩
theorem StO.low {J base M:Nat}{s:StQ}(h:StO τ J base w s)(hb:M<=base):StO τ J M w s:=
 ⟨⟨⟨h.b.f.1.low hb,λq I=>(h.b.f.2 q I).low hb⟩,⟨h.b.b.1.low hb,λq I=>(h.b.b.2 q I).low hb⟩⟩,⟨h.y.out.low hb,λi D=>(h.y.ins i D).low hb⟩,⟨h.t.out.low hb,λi D=>(h.t.ins i D).low hb,h.t.off,λi D q I=>⟨(h.t.lps i D q I).1.low hb,(h.t.lps i D q I).2.low hb⟩⟩,h.c.low hb,h.h.low hb,h.f.low hb,h.sp⟩
theorem StO.at {J base:Nat}{s:StQ}(h:StO τ J base w s):StAt w s:=by
 refine⟨h.b.at,h.y.out.sl,λi=>?_,⟨h.t.out.sl,λp M=>?_,h.c.sl,h.h.sl,h.f.sl⟩⟩;by_cases D:i<s.ys.length;exact(h.y.ins i D).sl;rw[List.getD,List.getElem?_eq_none (by omega)];exact Sl.nil w;obtain⟨i,D,rfl⟩:=List.getElem_of_mem M;have e:s.fb.ts.getD i tq0=s.fb.ts[i]:=by rw[List.getD,List.getElem?_eq_getElem D];rfl
 rw[<-e];exact⟨(h.t.ins i D).sl,λq I=>⟨(h.t.lps i D q I).1.sl,(h.t.lps i D q I).2.sl⟩⟩
end
end Go.G08
namespace Go.G08
open Go.Lw Go.G21
structure PlaceV (T:Tb) (H F:List LId):Prop where
  has:∀i∈H++F,z3z T i
  asc:∀i,0<i->i<F.length->z6o (F.getD (i-1) id0) (F.getD i id0)<0
  once:∀y,y<6->∀n,n<z2o T y->(H++F++z7y T).count ⟨(y:Int)+1,(n:Int)⟩=1
  le:∀i,(H++F++z7y T).count i<=1
structure PlaceW (T:Tb) (H F:List LId):Prop where
  has:∀i∈H++F,z3z T i
  asc:∀i,0<i->i<F.length->z6o (F.getD (i-1) id0) (F.getD i id0)<0
  le:∀i,(H++F++z7y T).count i<=1
theorem PlaceV.w {T:Tb}{H F:List LId}(h:PlaceV T H F):PlaceW T H F:=⟨h.has,h.asc,h.le⟩
open Classical in
noncomputable def x4q (T:Tb)(H F:List LId):Int:=if ∃y,y<6/\∃n,n<z2o T y/\(H++F++z7y T).count ⟨(y:Int)+1,(n:Int)⟩≠1 then 6 else 0
theorem v6i {T:Tb}{H F:List LId}(h:∀y,y<6->∀n,n<z2o T y->(H++F++z7y T).count ⟨(y:Int)+1,(n:Int)⟩=1):x4q T H F=0:=if_neg λ⟨y,hy,n,hn,e⟩=>e (h y hy n hn)
theorem v1l {T:Tb}{H F:List LId}{y n:Nat}(D:y<6)(hn:n<z2o T y)(h:(H++F++z7y T).count ⟨(y:Int)+1,(n:Int)⟩≠1):x4q T H F=6:=if_pos ⟨y,D,n,hn,h⟩
structure CrsV (T:Tb) (l:List Cx):Prop where
  has:∀i,i<l.length->z3z T (l.getD i cx0).a/\z3z T (l.getD i cx0).b/\z6o (l.getD i cx0).a (l.getD i cx0).b<0/\(-1048576<=(l.getD i cx0).n/\(l.getD i cx0).n<=1048576)/\(l.getD i cx0).n≠0
  asc:∀i,0<i->i<l.length->x0o (l.getD (i-1) cx0) (l.getD i cx0)<0
theorem v8f {a b:LId}(h:¬z6o b a<0)(D:a≠b):z6o a b<0:=by
 have M:=mt y4t.1 D;rw[z7b]at h ⊢;have O:¬(a.y=b.y/\a.n=b.n):=by
  rintro⟨I,J⟩;obtain⟨_,_⟩:=a;obtain⟨_,_⟩:=b;simp only at I J;subst I;subst J;exact D U
 omega
theorem v8c {a b:Cx}(h:¬x0o b a<0)(D:(a.a,a.b)≠(b.a,b.b)):x0o a b<0:=by
 rw[y0d]at h ⊢;have M:¬((a.a.y=b.a.y/\a.a.n=b.a.n)/\(a.b.y=b.b.y/\a.b.n=b.b.n)):=by
  obtain⟨⟨_,_⟩,⟨_,_⟩,_⟩:=a;obtain⟨⟨_,_⟩,⟨_,_⟩,_⟩:=b;rintro⟨⟨I,J⟩,e3,e4⟩;simp only at I J e3 e4;subst I;subst J;subst e3;subst e4;exact D U
 omega
theorem x1g {α:Type}{R:α->α->Prop}{l:List α}(d:α)(h:l.Pairwise R){i:Nat}(I:0<i)(D:i<l.length):R (l.getD (i-1) d) (l.getD i d):=by
 have:=List.pairwise_iff_getElem.1 h (i-1) i (by omega) D (by omega);rwa [List.getD,List.getElem?_eq_getElem (by omega),List.getD,List.getElem?_eq_getElem D]
theorem v8n {l:List LId}(hn:l.Nodup):(z8q l).Pairwise λa b=>z6o a b<0:=by
 have D:(z8q l).Pairwise (·≠·):=(z3f l).nodup_iff.2 hn;exact((y9p l).and D).imp λh=>v8f h.1 h.2
theorem v9t {l:List Cx}(hn:(l.map λc=>(c.a,c.b)).Nodup):(z9y l).Pairwise λa b=>x0o a b<0:=by
 have D:((z9y l).map λc=>(c.a,c.b)).Nodup:=((z2v l).map _).nodup_iff.2 hn;exact((y3m l).and (List.pairwise_map.1 D)).imp λh=>v8c h.1 h.2
theorem MVal.le {p:MSt}(h:MVal p)(i:LId):(p.B.flat++p.fa++z7y p.tb).count i<=1:=by
 by_cases k:z3z p.tb i;exact Nat.le_of_eq (h.once i k);obtain⟨J,I⟩:=h.tab;rw[List.count_eq_zero.2];omega;intro D;rcases List.mem_append.1 D with z|z
 rcases List.mem_append.1 z with z|z
 exact k (h.inv.has i z);exact k (h.fa i z);exact k (y8o I z)
theorem MVal.nodupF {p:MSt}(h:MVal p):p.fa.Nodup:=List.nodup_iff_count.2 λi=>by
 have:=h.le i
 rw[List.count_append,List.count_append]at this
 omega
theorem MVal.tabV {p:MSt}(h:MVal p):TabV p.tb:=by
 obtain⟨I,D⟩:=h.tab;refine⟨⟨h.inv.lt,h.inv.all,D.rts,I,D.rkd⟩,λi=>?_⟩;have:=h.le i;rw[List.count_append]at this;omega
theorem MVal.cntHF {p:MSt}(i:LId):(((z2q p.B p.rk).map Hd.id)++z8q p.fa++z7y p.tb).count i=(p.B.flat++p.fa++z7y p.tb).count i:=by
 simp only[List.count_append];rw[(y3j p.B p.rk).count_eq,(z3f p.fa).count_eq]
theorem MVal.place {p:MSt}(h:MVal p):PlaceV p.tb ((z2q p.B p.rk).map Hd.id) (z8q p.fa):=by
 refine⟨λi D=>?_,λi I D=>x1g id0 (v8n h.nodupF) I D,λy M n J=>?_,λi=>?_⟩;rcases List.mem_append.1 D with k|k
 exact h.inv.has i ((y3j p.B p.rk).mem_iff.1 k);exact h.fa i ((z3f p.fa).mem_iff.1 k);rw[MVal.cntHF];exact h.once _ (z8h (by rw[h.inv.lt];exact M) J);rw[MVal.cntHF];exact h.le i
theorem MVal.crs {p:MSt}(h:MVal p):CrsV p.tb (z9y p.cr):=
 ⟨λi D=>h.cr.has _ ((z2v p.cr).mem_iff.1 (z0t D)),λi I D=>x1g cx0 (v9t h.cr.nd) I D⟩
end Go.G08
namespace Go.Proofs.YtpgdchkdlgkmgaaGreatDoor
open Go.Lw Go.G21 Go.G08 _root_.Go.Proofs.Tryz
theorem x5m:z3s prog 109 5:=⟨λ_=>by kernel_rfl,λ_=>by kernel_rfl⟩
theorem v7b:ElemOf prog 36 109 z4q 40:=ElemOf.mk' (z:=(.agg #[.int .u8 0,.int .i64 0,.int .u8 0,.int .i64 0,.int .i64 0])) underlying36 (by kernel_rfl) U
theorem y1q:z1a prog 109 0 0:=λ_ _=>by kernel_rfl
theorem y2i:z1a prog 109 1 2:=λ_ _=>by kernel_rfl
theorem y4i:z1a prog 109 2 4:=λ_ _=>by kernel_rfl
theorem u9h:z1r prog 109 5:=λ_=>by kernel_rfl
theorem v3b (w:World):(zeroValue 109).run prog w=.ok (.agg #[(.int .u8 0),(.int .i64 0),(.int .u8 0),(.int .i64 0),(.int .i64 0)]) w:=by kernel_rfl
theorem u1a (x y:Cx):orZ [z6o x.a y.a,z6o x.b y.b]=x0o x y:=by
 unfold orZ orZ orZ x0o
 repeat' split
 all_goals first|rfl|omega
theorem u1t (x y:Cx)(w0:World):Rets prog 92 #[.agg #[.int .u8 x.a.y,.int .i64 x.a.n,.int .u8 x.b.y,.int .i64 x.b.n,.int .i64 x.n],.agg #[.int .u8 y.a.y,.int .i64 y.a.n,.int .u8 y.b.y,.int .i64 y.b.n,.int .i64 y.n]] w0 λr w'=>r=.int .i64 (x0o x y)/\Fr [] w0 w':=by
 refine we [(0,.agg #[.int .u8 x.a.y,.int .i64 x.a.n,.int .u8 x.b.y,.int .i64 x.b.n,.int .i64 x.n]),(1,.agg #[.int .u8 y.a.y,.int .i64 y.a.n,.int .u8 y.b.y,.int .i64 y.b.n,.int .i64 y.n])] func92 U ntmps92 U (.c2 U U) (sr (bx U (λg2 w1 a1 J q1 z1=>(bx U (λg3 w2 a2 M q2 z2=>(asg U (nn (sq ?_))))))));intro a h;refine z0i none (λwb w'=>Fr [] wb w') z2r ?_;intro w3 q3;replace J:=J.ext (q2.n1 q3);replace M:=M.ext q3;have hC:Fr [] w3 w3:=Fr.refl _ _;have D:=J;have I:=M;refine z0c 0 h U y1q U λa h=>z1d (vs:=[_,_]) 1 h U (λ_ hw=>(D.ext hw)) z3j U U λa h=>z0c 2 h U y1q U λa h=>z1d (vs:=[_,_]) 3 h U (λ_ hw=>(I.ext hw)) z3j U U λa h=>z0c 5 h U y2i U λa h=>z1d (vs:=[_,_]) 6 h U (λ_ hw=>(D.ext hw)) z3j U U λa h=>z0c 7 h U y2i U λa h=>z1d (vs:=[_,_]) 8 h U (λ_ hw=>(I.ext hw)) z3j U U λa h=>z0d 4 U ?_;refine z0m h (z0a U (z0a U z0f)) j0y (y0k x.a y.a _) ?_;rintro _ w4 ⟨rfl,q4⟩ a h;replace hC:=hC.next q4;refine z0b ?_;refine z0d 9 U ?_;refine z0m h (z0a U (z0a U z0f)) j0y (y0k x.b y.b _) ?_;rintro _ w5 ⟨rfl,q5⟩ a h;replace J:=J.ext (q4.n1 q5);replace M:=M.ext (q4.n1 q5);replace hC:=hC.next q5;refine z0b ?_;refine z0d 10 U ?_;refine z2w ([z6o x.a y.a,z6o x.b y.b]) h (z0a U (z0a U z0f)) U y6a λZ w6 hg a0 q6 hz a h=>?_;have O:g2<Z:=by have:=J.lt;omega
 have O:g3<Z:=by have:=M.lt;omega
 replace hC:=hC.next q6;refine z0b ?_;refine z0d 11 U ?_;refine z0m h (z0a U z0f) (mkC func121) (j1l _ [z6o x.a y.a,z6o x.b y.b] _ a0.sl (by simp)) ?_;rintro _ w7 ⟨rfl,q7⟩ a h;replace hC:=hC.next q7;refine z0b ?_;refine z0d 12 U ?_;refine z0s h U λa h=>?_;refine z0b ?_;refine z0r ?_;clear hC D I;refine bk (h.sub (L':=[(4,_)]) (.cons U .nil)) (tn (rt (r1 results92 U ?_)));exact⟨_,rfl,congrArg (Value.int .i64) (u1a x y),(q1.n6 q2 q3 q4 q5 q6 q7)⟩
set_option maxHeartbeats 1000000 in
theorem x8v (q:FbQ)(w0:World)(M:FbAt w0 q)(h6:q.ts.length=6)(hv:CrsV (z1w q.ts) q.cs):Rets prog 100 #[.agg #[.slice q.t.1 q.t.2.1 q.t.2.2,.slice q.c.1 q.c.2.1 q.c.2.2,.slice q.h.1 q.h.2.1 q.h.2.2,.slice q.f.1 q.f.2.1 q.f.2.2]] w0 λr w'=>r=.int .i64 0/\Fr [] w0 w':=by
 have b8:=M.len;have b7:=z6k q.ts;have hM:=M.c.len_le;unfold maxLen at hM;refine we [(0,.agg #[.slice q.t.1 q.t.2.1 q.t.2.2,.slice q.c.1 q.c.2.1 q.c.2.2,.slice q.h.1 q.h.2.1 q.h.2.2,.slice q.f.1 q.f.2.1 q.f.2.2])] func100 U ntmps100 U (.cons U .nil) ?_;have a3:=M;refine sr (bx U (λg1 w1 b5 J q1 z1=>(asg U (nn (sq (sr (fad U y2u (z0g U J U u2t (lnS U underlying36 (mv U (nn (bl ?_))))))))))));refine lpK (ι:=Nat) [(1,_),(6,_),(7,_)] (λi=>[(8,.int .i64 (i:Int))]) (λi w'=>Fr [] w1 w'/\i<=q.cs.length) (λi=>q.cs.length-i) 0 (.c4 U U U U) ⟨Fr.refl _ _,Nat.zero_le _⟩ ?_;rintro i w2 ⟨q2,hi⟩;have z2:=q2.size;refine kpC [(1,_),(6,_),(7,_),(8,_)] (.c4 U U U U) (sr (lt' U (nn (sq (cd U (λc0=>?_) (λc0=>?_))))));have a0:=hv.has i (by omega);have a6:=a0.1;have a7:=a0.2.1;have b1:=a6.1;have b2:=a6.2.1;have b3:=a7.1;have b4:=a7.2.1;have a8:=hv.asc i;refine sk (tn (sq (bl (sr (mv U ?_)))));replace M:=a3.ext (q1.n1 q2);refine z0y (cx0) U M.c U v7b z1e (λa9 a4=>?_);refine z1k U (a4 _ M.c) x5m (al v3b U (λg4 w3 b6 I q3 z3=>?_));refine asg U (z0j (vs:=[_,_,_,_,_]) U I u9h (λw4 I q4 z4=>?_) (h1:=(by first|(simp[Value.oneCell',S];done)|exact z4q.one _)));refine nn (sq (sq ?_));refine y9u (r:=34) (L':=[(1,_),(3,_),(4,_),(6,_),(7,_),(8,_)]) ((((¬z3z (z1w q.ts) (q.cs.getD i cx0).a)\/(¬z3z (z1w q.ts) (q.cs.getD i cx0).b))\/(0<=(z6o (q.cs.getD i cx0).a (q.cs.getD i cx0).b)))) (.c6 U U U U U U) ?_ ?_;refine fad U z5u ?_;replace J:=(J.ext (q2.n1 q3)).fr q4;refine z0g U J U y6m (fad U y1q (z1v (vs:=[_,_]) U I z3j U ?_));replace M:=a3.ext (q1.z3 q2 q3 q4);refine cl (ev2 U) (mkC func138) (x5d (q.cs.getD i cx0).a _ _ _ M.t M.tt (by omega) (by omega)) U ?_;rintro _ w5 ⟨rfl,q5⟩;have z5:=q5.size;refine nt' U (mv U (gs 19 U (λhh=>absurd hh (by exact λe=>e a0.1)) (λg0=>(gY U (fad U z5u (gY U ?_))))));replace J:=J.ext q5;refine z0g U J U y6m (gY U (fad U y2i (gY U ?_)));replace I:=I.ext q5;refine z1v (vs:=[_,_]) U I z3j U (gY U ?_);replace M:=a3.ext (q1.z4 q2 q3 q4 q5);refine cl (ev2 U) (mkC func138) (x5d (q.cs.getD i cx0).b _ _ _ M.t M.tt (by omega) (by omega)) U ?_;rintro _ w6 ⟨rfl,q6⟩;have z6:=q6.size;refine gY U (nt' U (pkf U (mv U (gs 27 U (λhh=>absurd hh (by exact λe=>e a0.2.1)) (λg1=>(gY U (fad U y1q (gY U ?_))))))));replace I:=I.ext q6;refine z1v (vs:=[_,_]) U I z3j U (gY U (fad U y2i (gY U (z1v (vs:=[_,_]) U I z3j U (gY U (cl (ev2 U) j0y (y0k (q.cs.getD i cx0).a (q.cs.getD i cx0).b _) U ?_))))));rintro _ w7 ⟨rfl,q7⟩;have z7:=q7.size;exact gY U (ge' U U (pkf U (z8e U (.c6 U U U U U U) (q5.n2 q6 q7))));intro w8 q8;have z8:=q8.size;refine tn (cd U (λc1=>?_) (λc1=>?_));refine sr (asg U (kpL [(2,_)] (.cons U .nil) (nn (rt (tr (rb (tr (tr (rb (tr (r1 results100 U ?_)))))))))));exfalso;rcases c1 with (hh|hh)|hh
 exact hh a0.1;exact hh a0.2.1;omega;refine sk (tn (sq (sq ?_)));refine rbo (r:=47) (L':=[(1,_),(3,_),(4,_),(6,_),(7,_),(8,_)]) (((((q.cs.getD i cx0).n < -1048576)\/(1048576<(q.cs.getD i cx0).n))\/((q.cs.getD i cx0).n=0))) (.c6 U U U U U U) ?_ ?_;refine fad U y4i ?_;replace I:=I.ext q8;refine z0g U I U na3 (lt' U (mv U (gs 38 U (λhh=>absurd hh (by omega)) (λg2=>(gY U (fad U y4i (gY U (z0g U I U na3 (gY U (gt' U (pkf U (mv U (gs 43 U (λhh=>absurd hh (by omega)) (λg3=>?_))))))))))))));exact gY U (fad U y4i (gY U (z0g U I U na3 (gY U (eq' U (pkf U (rbe U (.c6 U U U U U U))))))));refine tn (cd U (λc2=>?_) (λc2=>?_));refine sr (asg U (kpL [(2,_)] (.cons U .nil) (nn (rt (tr (rb (tr (tr (rb (tr (r1 results100 U ?_)))))))))));exfalso;omega;refine sk (tn (sq ?_));replace M:=a3.ext (q1.z4 q2 q3 q4 q8);replace J:=((J.ext (q2.n1 q3)).fr q4).ext q8;intro a h;refine z0i none (λwb w'=>Fr [] wb w') z2r ?_;intro w9 q9;have z9:=q9.size;replace M:=M.ext q9;replace J:=J.ext q9;replace I:=I.ext (q8.n1 q9);have hC:Fr [] w9 w9:=Fr.refl _ _;have a2:=M;have O:=J;have Z:=I;refine z0e 0 h U λa h=>v4s 1 hC h wn U U U U λa h=>z0e 2 h U λa h=>?_;refine gSp (D:=50) h U ?_ ?_;clear h;intro g4 h;refine z0c 3 h U y2u U ?_ (hG:=(wy U));clear h a;intro a h;refine z0k 4 h U (λ_ hw=>O.ext hw) U u2t U ?_ (hG:=(wy U));clear h a;intro a h;refine z0e 5 h U ?_ (hG:=(wy U));clear h a;intro a h;refine z3b 6 h (wy U) U (by first|exact i6 (by omega)|rfl) U λa h=>z1f (p:=(i-1)) (cx0) 7 h U M.c U v7b U ?_ (hG:=(wy U));clear h a;intro b0 a5 a h;refine z2c 8 h (wy U) U (λ_ hw=>a5 _ (a2.c.ext hw)) x5m U λa h=>z0z 9 h U (λ_ hw=>Z.ext hw) x5m U ?_ (hG:=(wy U));clear h a;intro a h;refine z0d 10 U ?_;refine y4u h U U U U U U ?_;refine z0m h (z0a U (z0a U z0f)) (mkC func92) (u1t (q.cs.getD (i-1) cx0) (q.cs.getD i cx0) _) ?_;rintro _ b9 ⟨rfl,a1⟩ a h;have c9:=a1.size;replace M:=M.ext a1;replace J:=J.ext a1;replace I:=I.ext a1;replace hC:=hC.next a1;refine z0b ?_;refine v9o 11 hC h (wy U) U U U U λa h=>z0d 12 U ?_;refine z5n h U λa h=>?_;refine z0b ?_;refine z0r ?_;clear hC a2 O Z;refine bk (h.sub (L':=[(1,_),(6,_),(7,_),(8,_),(60,_)]) (.c5 U U U U U)) (tn (cd U (λc3=>?_) (λc3=>?_)));refine sr (asg U (nn (rt (rb (tr (tr (rb (tr (r1 results100 U ?_)))))))));exfalso;first|omega|(have:=a8 (by omega) (by omega);omega)
 refine sk (bn' (tn (rg (z0w U (wi6 (by omega)) (mv U (nl ?_))))));exact lpE (i+1) (.c4 U U U U) ⟨(q2.z5 q3 q4 q8 q9 a1),by omega⟩ (by omega);clear h;intro g4 h;refine z2i 3 h U U λa h=>z2i 4 h U U λa h=>z2i 5 h U U λa h=>z2i 6 h U U λa h=>z2i 7 h U U λa h=>z2i 8 h U U λa h=>z2i 9 h U U λa h=>z2i 10 h U U λa h=>z2i 11 h U U λa h=>z0d 12 U ?_;refine z4m h U λa h=>?_;refine z0b ?_;refine z0r ?_;clear hC a2 O Z;refine bk (h.sub (L':=[(1,_),(6,_),(7,_),(8,_),(60,_)]) (.c5 U U U U U)) (tn (cf U (sk (bn' (tn (rg (z0w U (wi6 (by omega)) (mv U (nl ?_)))))))));exact lpE (i+1) (.c4 U U U U) ⟨(q2.z4 q3 q4 q8 q9),by omega⟩ (by omega);obtain rfl:i=q.cs.length:=by omega
 refine ex (te (te (xh (tn (sr (asg U (nn (rt (r1 results100 U ?_)))))))));exact⟨_,rfl,rfl,(q1.n1 q2)⟩
theorem v5c {a b:List LId}{k:Nat}(h:∀i,(a++b).count i<=1)(c:List LId)(D:∃d,a++b=c++d):c.count (b.getD k id0)<=100000:=by
 obtain⟨d,e⟩:=D;have:=h (b.getD k id0);rw[e,List.count_append]at this;omega
set_option maxHeartbeats 2000000 in
theorem x9k (q:FbQ)(w0:World)(M:FbAt w0 q)(h6:q.ts.length=6)(hv:TabV (z1w q.ts))(hp:PlaceW (z1w q.ts) q.hs q.fs):Rets prog 101 #[.agg #[.slice q.t.1 q.t.2.1 q.t.2.2,.slice q.c.1 q.c.2.1 q.c.2.2,.slice q.h.1 q.h.2.1 q.h.2.2,.slice q.f.1 q.f.2.1 q.f.2.2]] w0 λr w'=>r=.int .i64 (x4q (z1w q.ts) q.hs q.fs)/\Fr [] w0 w':=by
 have h8:=M.len;have h5:=z6k q.ts;have hM:=M.f.len_le;unfold maxLen at hM;refine we [(0,.agg #[.slice q.t.1 q.t.2.1 q.t.2.2,.slice q.c.1 q.c.2.1 q.c.2.2,.slice q.h.1 q.h.2.1 q.h.2.2,.slice q.f.1 q.f.2.1 q.f.2.2])] func101 U ntmps101 U (.cons U .nil) ?_;have J:=M;refine sr (bx U (λg1 w1 g7 I q1 z1=>?_));refine asg U (nn (sq (sr (fad U z7n (z0g U I U z4x (fad U z8r (z0g U I U z4x (z1t (cs:=[_,_]) (ev2 U) j7w (z0h U (z0h U z0q)) U ?_))))))));refine mv U (nn (bl ?_));refine lpK (ι:=Nat) [(1,_),(22,_)] (λz=>[(23,.int .i64 (z:Int))]) (λz w'=>Fr [] w1 w'/\z<=2) (λz=>2-z) 0 (.c3 U U U) ⟨Fr.refl _ _,Nat.zero_le _⟩ ?_;rintro z w2 ⟨q2,hz⟩;have z2:=q2.size;refine kpC [(1,_),(22,_),(23,_)] (.c3 U U U) (sr (lt' U (nn (sq (cd U (λc0=>?_) (λc0=>?_))))));have h7:=z1u (v9q J z);have d7:=(v9q J z).len_le;unfold maxLen at d7;refine sk (tn (sq (bl (sr (u2q U U underlying231 u8w z4x (j7s (by omega)) U (asg U (nn (sr (mv U (lnS U underlying37 (mv U (nn (bl ?_)))))))))))));refine lpK (ι:=Nat) [(1,_),(22,_),(23,_),(26,_),(27,_)] (λn=>[(28,.int .i64 (n:Int))]) (λn w'=>Fr [] w2 w'/\n<=(hfl q z).length) (λn=>(hfl q z).length-n) 0 (.c6 U U U U U U) ⟨Fr.refl _ _,Nat.zero_le _⟩ ?_;rintro n w3 ⟨q3,hn⟩;have z3:=q3.size;refine kpC [(1,_),(22,_),(23,_),(26,_),(27,_),(28,_)] (.c6 U U U U U U) (sr (lt' U (nn (sq (cd U (λc1=>?_) (λc1=>?_))))));refine sk (tn (sq (bl (sr ?_))));replace M:=J.ext (q1.n2 q2 q3);refine z0y (id0) U (v9q M z) U z5d z1e (λf1 d0=>?_);refine z1k U (d0 _ (v9q M z)) z3j (al y3h U (λg6 w4 h0 b9 q4 z4=>?_));refine z0j (vs:=[_,_]) U b9 y0b (λw5 b9 q5 z5=>?_) (h1:=(by first|(simp[Value.oneCell',S];done)|exact z4k.one _|exact z1h.one _));refine nn (sr (fad U z5u ?_));replace I:=(I.ext (q2.n2 q3 q4)).fr q5;refine z0g U I U y6m (z0l U b9 z3j ?_);replace M:=J.ext (q1.z4 q2 q3 q4 q5);refine cl (ev2 U) (mkC func138) (x5d ((hfl q z).getD n id0) _ _ _ M.t M.tt (by omega) (by have h:=hp.has _ (j3f z (z0t (d:=id0) (i:=n) (by omega)));have:=h.1;have:=h.2.1;omega)) U ?_;rintro _ w6 ⟨rfl,q6⟩;have z6:=q6.size;refine nt' U (nn (cd U (λc2=>?_) (λc2=>?_)));refine sr (asg U (kpL [(2,_)] (.cons U .nil) (nn (rt (rb (tr (tr (rb (rb (tr (tr (rb (tr (r1 results101 U ?_))))))))))))));exact absurd (hp.has _ (j3f z (z0t (d:=id0) (i:=n) (by omega)))) (by simpa using c2);refine sk (bn' (tn (rg (z0w U (wi6 (by omega)) (mv U (nl ?_))))));exact lpE (n+1) (.c6 U U U U U U) ⟨(q3.z3 q4 q5 q6),by omega⟩ (by omega);obtain rfl:n=(hfl q z).length:=by omega
 refine ex (te (te (xh (bn' (tn (rg (z0w U (wi6 (by omega)) (mv U (nl ?_)))))))));exact lpE (z+1) (.c3 U U U) ⟨(q2.n1 q3),by omega⟩ (by omega);obtain rfl:z=2:=by omega
 refine ex (te (te (xh (tn (sq (sr (fad U z8r ?_)))))));replace I:=I.ext q2;refine z0g U I U z4x (lnS U underlying37 (mv U (nn (bl ?_))));refine lpK (ι:=Nat) [(1,_),(40,_),(41,_)] (λi=>[(42,.int .i64 (i:Int))]) (λi w'=>Fr [] w2 w'/\i<=q.fs.length) (λi=>q.fs.length-i) 0 (.c4 U U U U) ⟨Fr.refl _ _,Nat.zero_le _⟩ ?_;rintro i w7 ⟨q7,hi⟩;have z7:=q7.size;refine kpC [(1,_),(40,_),(41,_),(42,_)] (.c4 U U U U) (sr (lt' U (nn (sq (cd U (λc3=>?_) (λc3=>?_))))));have e7:=hp.asc i;refine sk (tn (sq (bl (sr (mv U ?_)))));replace M:=J.ext (q1.n2 q2 q7);refine z0y (id0) U M.f U z5d z1e (λf2 d1=>?_);refine z1k U (d1 _ M.f) z3j (al y3h U (λg8 w8 h2 a7 q8 z8=>?_));refine asg U (z0j (vs:=[_,_]) U a7 y0b (λw9 a7 q9 z9=>?_) (h1:=(by first|(simp[Value.oneCell',S];done)|exact z4k.one _|exact z1h.one _)));refine nn (sq ?_);replace M:=J.ext (q1.z4 q2 q7 q8 q9);replace I:=(I.ext (q7.n1 q8)).fr q9;intro a h;refine z0i none (λwb w'=>Fr [] wb w') z2r ?_;intro e2 b0;have j0:=b0.size;replace M:=M.ext b0;replace I:=I.ext b0;replace a7:=a7.ext b0;have hC:Fr [] e2 e2:=Fr.refl _ _;have b4:=M;have a6:=I;have a8:=a7;refine z0e 0 h U λa h=>v4s 1 hC h wn U U U U λa h=>z0e 2 h U λa h=>?_;refine gSp (D:=49) h U ?_ ?_;clear h;intro g0 h;refine z0c 3 h U z8r U ?_ (hG:=(wy U));clear h a;intro a h;refine z0k 4 h U (λ_ hw=>a6.ext hw) U z4x U ?_ (hG:=(wy U));clear h a;intro a h;refine z0e 5 h U ?_ (hG:=(wy U));clear h a;intro a h;refine z3b 6 h (wy U) U (by first|exact i6 (by omega)|rfl) U λa h=>z1f (p:=(i-1)) (id0) 7 h U M.f U z5d U ?_ (hG:=(wy U));clear h a;intro f3 d3 a h;refine z2c 8 h (wy U) U (λ_ hw=>d3 _ (b4.f.ext hw)) z3j U λa h=>z0z 9 h U (λ_ hw=>a8.ext hw) z3j U ?_ (hG:=(wy U));clear h a;intro a h;refine z0d 10 U ?_;refine y4u h U U U U U U ?_;refine z0m h (z0a U (z0a U z0f)) j0y (y0k (q.fs.getD (i-1) id0) (q.fs.getD i id0) _) ?_;rintro _ h9 ⟨rfl,b1⟩ a h;have j1:=b1.size;replace M:=M.ext b1;replace I:=I.ext b1;replace a7:=a7.ext b1;replace hC:=hC.next b1;refine z0b ?_;refine v9o 11 hC h (wy U) U U U U λa h=>z0d 12 U ?_;refine z5n h U λa h=>?_;refine z0b ?_;refine z0r ?_;clear hC b4 a6 a8;refine bk (h.sub (L':=[(1,_),(40,_),(41,_),(42,_),(59,_)]) (.c5 U U U U U)) (tn (cd U (λc4=>?_) (λc4=>?_)));refine sr (asg U (nn (rt (rb (tr (tr (rb (tr (r1 results101 U ?_)))))))));exfalso;first|omega|(have:=e7 (by omega) (by omega);omega)
 refine sk (bn' (tn (rg (z0w U (wi6 (by omega)) (mv U (nl ?_))))));exact lpE (i+1) (.c4 U U U U) ⟨(q7.z4 q8 q9 b0 b1),by omega⟩ (by omega);clear h;intro g0 h;refine z2i 3 h U U λa h=>z2i 4 h U U λa h=>z2i 5 h U U λa h=>z2i 6 h U U λa h=>z2i 7 h U U λa h=>z2i 8 h U U λa h=>z2i 9 h U U λa h=>z2i 10 h U U λa h=>z2i 11 h U U λa h=>z0d 12 U ?_;refine z4m h U λa h=>?_;refine z0b ?_;refine z0r ?_;clear hC b4 a6 a8;refine bk (h.sub (L':=[(1,_),(40,_),(41,_),(42,_),(59,_)]) (.c5 U U U U U)) (tn (cf U (sk (bn' (tn (rg (z0w U (wi6 (by omega)) (mv U (nl ?_)))))))));exact lpE (i+1) (.c4 U U U U) ⟨(q7.z3 q8 q9 b0),by omega⟩ (by omega);obtain rfl:i=q.fs.length:=by omega
 refine ex (te (te (xh (tn (sr (y7s idV (.int .i64 0) U (λa4 i0 f8 hm a5 j2=>(al j8d U (λg9 i1 h3 O a0 j3=>(z4n U U O U j6y (λi2 O a1 j4=>(nn (sr (z6c z0f (ev1 U) U (asg U (nn (sr (mv U (fad U z7n ?_)))))))))))))))))));replace I:=(I.ext (q7.n2 a5 a0)).fr a1;refine z0g U I U z4x ?_;replace M:=J.ext (q1.z5 q2 q7 a5 a0 a1);replace hm:=(hm.ext a0).fr a1 (by intro k hk hb;simp at hk hb;omega);refine clv (us:=[]) (ws:=[.pointer (some ⟨g9,0,none⟩)]) U (ev1 U) (mkC func139) (x5o g9 a4 [] _ _ w0 _ J.h (by omega) M.h O hm (λk hk=>v5c (a:=[]) (b:=q.hs) (λi=>(by have:=hp.le i;simp only[List.count_append,List.nil_append]at this ⊢;omega)) _ ⟨q.hs.drop k,by simp⟩)) U (by intro g e;cases e) ?_;rintro f9 i3 ⟨hm,a2⟩;have j5:=a2.size;refine nn (sr (mv U (fad U z8r ?_)));replace I:=I.fr a2;refine z0g U I U z4x ?_;replace M:=J.ext (q1.z6 q2 q7 a5 a0 a1 a2);replace O:=O.fr a2;refine clv (us:=[]) (ws:=[.pointer (some ⟨g9,0,none⟩)]) U (ev1 U) (mkC func139) (x5o g9 a4 ([]++q.hs) _ _ w0 _ J.f (by omega) M.f O hm (λk hk=>v5c (a:=q.hs) (b:=q.fs) (λi=>(by have:=hp.le i;simp only[List.count_append]at this ⊢;omega)) _ ⟨q.fs.drop k,by simp⟩)) U (by intro g e;cases e) ?_;rintro g3 e9 ⟨hm,a3⟩;have j6:=a3.size;refine nn (sq (sr (fad U z5u ?_)));replace I:=I.fr a3;refine z0g U I U y6m (lnS U underlying35 (mv U (nn (bl ?_))));refine lpK (ι:=Nat) [(1,_),(9,_),(10,_),(72,_),(73,_)] (λy=>[(74,.int .i64 (y:Int))]) (λy w'=>Fr [a4] e9 w'/\y<=q.ts.length/\MapZ idV w' a4 (.int .i64 0) (y9i ((q.hs++q.fs)++(z9v (z1w q.ts) y 0)))) (λy=>q.ts.length-y) 0 (.c6 U U U U U U) ⟨Fr.refl _ _,⟨Nat.zero_le _,by rw[v5g,List.append_nil];exact hm⟩⟩ ?_;rintro y e3 ⟨Z,⟨hy,hm⟩⟩;have j7:=Z.size;refine kpC [(1,_),(9,_),(10,_),(72,_),(73,_),(74,_)] (.c6 U U U U U U) (sr (lt' U (nn (sq (cd U (λc5=>?_) (λc5=>?_))))));have e8:=z4o J.tt y;have b8:=(J.tt _ (z0t (d:=tq0) (i:=y) (by omega))).1.len_le;unfold maxLen at b8;refine sk (tn (sq (bl (sr ?_))));replace M:=J.ext (((q1.z6 q2 q7 a5 a0 a1 a2).z1 a3).z1 Z);refine z0y (tq0) U M.t U y3d z1e (λf4 d4=>?_);refine z1g U (d4 _ M.t) x0m (asg U (nn (sr (mv U (lnS U underlying46 (mv U (nn (bl ?_))))))));refine lpK (ι:=Nat) [(1,_),(9,_),(10,_),(72,_),(73,_),(74,_),(78,_),(79,_)] (λn=>[(80,.int .i64 (n:Int))]) (λn w'=>Fr [a4] e3 w'/\n<=(q.ts.getD y tq0).2.length/\MapZ idV w' a4 (.int .i64 0) (y9i ((q.hs++q.fs)++(z9v (z1w q.ts) y n)))) (λn=>(q.ts.getD y tq0).2.length-n) 0 (.d8 U U U U U U U U (.cons U .nil)) ⟨Fr.refl _ _,⟨Nat.zero_le _,hm⟩⟩ ?_;rintro n i4 ⟨b2,⟨hn,hm⟩⟩;have j8:=b2.size;refine kpC [(1,_),(9,_),(10,_),(72,_),(73,_),(74,_),(78,_),(79,_),(80,_)] (.d8 U U U U U U U U (.cons U .nil)) (sr (lt' U (nn (sq (cd U (λc6=>?_) (λc6=>?_))))));have h4:=z1u (z7u J.tt (y:=y) (n:=n) (by omega) (by omega)).1;have e6:∀k,k<((q.ts.getD y tq0).2.getD n lq0).ths.length->(((q.hs++q.fs)++z9v (z1w q.ts) y n)++((q.ts.getD y tq0).2.getD n lq0).ths.take k).count (((q.ts.getD y tq0).2.getD n lq0).ths.getD k id0)<=100000:=λk hk=>by
  have e4:=x6h (k:=k) hv.thr (y:=y) (n:=n) (by omega) (by omega) hk;have e5:=hp.le (((q.ts.getD y tq0).2.getD n lq0).ths.getD k id0);rw[List.count_append]at e5;rw[List.count_append,List.count_append];rw[List.count_append,List.count_append,List.count_singleton,if_pos (by simp)]at e4;omega
 refine sk (tn (sq (bl (sr ?_))));replace M:=J.ext ((((q1.z6 q2 q7 a5 a0 a1 a2).z1 a3).z1 Z).z1 b2);refine z0y (lq0) U (M.tt _ (z0t (d:=tq0) (i:=y) (by omega))).1 U x3r z1e (λf5 d5=>?_);refine z1k U (d5 _ (M.tt _ (z0t (d:=tq0) (i:=y) (by omega))).1) x7r (al v7f U (λg5 i5 f7 b5 b6 j9=>?_));refine z0j (vs:=[_,_,_,_]) U b5 v9d (λi7 b5 b7 k0=>?_) (h1:=(by first|(simp[Value.oneCell',S];done)|exact z4k.one _|exact z1h.one _));refine nn (rg (mv U (fad U z6w (z0g U b5 U z4x ?_))));replace M:=J.ext ((((q1.z6 q2 q7 a5 a0 a1 a2).z1 a3).z1 Z).z3 b2 b6 b7);replace O:=((((O.fr a3).fr Z).fr b2).ext b6).fr b7;replace hm:=(hm.ext b6).fr b7 (by intro k hk hb;simp at hk hb;omega);refine clv (us:=[]) (ws:=[.pointer (some ⟨g9,0,none⟩)]) U (ev1 U) (mkC func139) (x5o g9 a4 ((q.hs++q.fs)++z9v (z1w q.ts) y n) _ _ w0 _ (z7u J.tt (y:=y) (n:=n) (by omega) (by omega)).1 (by omega) (z7u M.tt (y:=y) (n:=n) (by omega) (by omega)).1 O hm (λk hk=>e6 k hk)) U (by intro g e;cases e) ?_;rintro g4 i8 ⟨hm,e1⟩;have k1:=e1.size;refine nl (bn' (tn (rg (z0w U (wi6 (by omega)) (mv U (nl ?_))))));exact lpE (n+1) (.d8 U U U U U U U U (.cons U .nil)) ⟨((Fr.refl [a4] _).z4 b2 b6 b7 e1),⟨by omega,by rw[y6s (by omega),<-List.append_assoc];exact hm⟩⟩ (by omega);obtain rfl:n=(q.ts.getD y tq0).2.length:=by omega
 refine ex (te (te (xh (bn' (tn (rg (z0w U (wi6 (by omega)) (mv U (nl ?_)))))))));exact lpE (y+1) (.c6 U U U U U U) ⟨((Fr.refl [a4] _).z2 Z b2),⟨by omega,by rw[y6v (by omega)];exact hm⟩⟩ (by omega);obtain rfl:y=q.ts.length:=by omega
 rw[v8y (by rw[z6k];omega)]at hm;refine ex (te (te (xh (tn (sq (sr (fad U z5u ?_)))))));replace I:=I.fr Z;refine z0g U I U y6m (lnS U underlying35 (mv U (kpL [(9,_),(91,_),(92,_),(93,_)] (.c4 U U U U) (nn (bl ?_)))));refine lpK (ι:=Nat) [(9,_),(91,_),(92,_)] (λy=>[(93,.int .i64 (y:Int))]) (λy w'=>Fr [] e3 w'/\y<=q.ts.length/\∀y',y'<y->∀n,n<z2o (z1w q.ts) y'->(q.hs++q.fs++z7y (z1w q.ts)).count ⟨(y':Int)+1,(n:Int)⟩=1) (λy=>q.ts.length-y) 0 (.c4 U U U U) ⟨Fr.refl _ _,⟨Nat.zero_le _,λk h=>absurd h (by omega)⟩⟩ ?_;rintro y f0 ⟨a9,⟨hy,e0⟩⟩;have k2:=a9.size;refine kpC [(9,_),(91,_),(92,_),(93,_)] (.c4 U U U U) (sr (lt' U (nn (sq (cd U (λc7=>?_) (λc7=>?_))))));have e8:=z4o J.tt y;have b8:=(J.tt _ (z0t (d:=tq0) (i:=y) (by omega))).1.len_le;unfold maxLen at b8;refine sk (tn (sq (bl (sr (mv U ?_)))));replace M:=J.ext ((((q1.z6 q2 q7 a5 a0 a1 a2).z1 a3).z1 Z).n1 a9);refine z0y (tq0) U M.t U y3d z1e (λf6 d6=>?_);refine z1g U (d6 _ M.t) x0m (asg U (asg U (nn (sr (mv U (lnS U underlying46 (mv U (nn (bl ?_)))))))));refine lpK (ι:=Nat) [(9,_),(15,_),(91,_),(92,_),(93,_),(99,_)] (λn=>[(100,.int .i64 (n:Int))]) (λn w'=>Fr [] f0 w'/\n<=(q.ts.getD y tq0).2.length/\∀n',n'<n->(q.hs++q.fs++z7y (z1w q.ts)).count ⟨(y:Int)+1,(n':Int)⟩=1) (λn=>(q.ts.getD y tq0).2.length-n) 0 (.c7 U U U U U U U) ⟨Fr.refl _ _,⟨Nat.zero_le _,λk h=>absurd h (by omega)⟩⟩ ?_;rintro n i9 ⟨b3,⟨hn,d9⟩⟩;have k3:=b3.size;refine kpC [(9,_),(15,_),(91,_),(92,_),(93,_),(99,_),(100,_)] (.c7 U U U U U U U) (sr (lt' U (nn (sq (cd U (λc8=>?_) (λc8=>?_))))));refine sk (tn (sq (bl (sr (mv U (asg U (nn (sr ?_))))))));replace O:=((O.fr a3).fr Z).ext (a9.n1 b3);refine z3w U O j4j (mv U (z0w U (wi6 (by omega)) (z4w U (us underlying3) underlying5 (wi8 (by omega)) (mv U (z1t (cs:=[_,_]) (ev2 U) u4j (z0h U (z0h U z0q)) U ?_)))));replace hm:=hm.ext (a9.n1 b3);refine y5v (V:=idV) (z:=(.int .i64 0)) (k:=(⟨(y:Int)+1,(n:Int)⟩:LId)) (v:=.int .i64 (((((q.hs++q.fs)++z7y (z1w q.ts))).count (⟨(y:Int)+1,(n:Int)⟩:LId):Nat):Int)) U U hm z5t underlying232 zvI U U (ne' U (kpL [(9,_),(15,_),(91,_),(92,_),(93,_),(99,_),(100,_),(110,_)] (.c8 U U U U U U U U) (nn (cd U (λc9=>?_) (λc9=>?_)))));refine sr (asg U (kpL [(2,_)] (.cons U .nil) (nn (rt (rb (tr (tr (rb (rb (tr (tr (rb (tr (r1 results101 U ?_))))))))))))));exact⟨_,rfl,by rw[v1l (y:=y) (n:=n) (by omega) (by rw[z2n];omega) (by omega)],((((q1.z6 q2 q7 a5 a0 a1 a2).z1 a3).z1 Z).n2 a9 b3)⟩;refine sk (bn' (tn (rg (z0w U (wi6 (by omega)) (mv U (nl ?_))))));exact lpE (n+1) (.c7 U U U U U U U) ⟨b3,⟨by omega,λk h=>by
  by_cases e:k=n;subst e;omega;exact d9 k (by omega)⟩⟩ (by omega)
 obtain rfl:n=(q.ts.getD y tq0).2.length:=by omega
 refine ex (te (te (xh (bn' (tn (rg (z0w U (wi6 (by omega)) (mv U (nl ?_)))))))));exact lpE (y+1) (.c4 U U U U) ⟨(a9.n1 b3),⟨by omega,λk h=>by
  by_cases e:k=y;subst e;exact λn h=>d9 n (by rw[z2n]at h;omega);exact e0 k (by omega)⟩⟩ (by omega)
 obtain rfl:y=q.ts.length:=by omega
 refine ex (te (te (xh (tn (sr (asg U (nn (rt (r1 results101 U ?_)))))))));exact⟨_,rfl,by rw[v6i λy hy n hn=>e0 y (by omega) n hn],((((q1.z6 q2 q7 a5 a0 a1 a2).z1 a3).z1 Z).n1 a9)⟩
theorem x6j (q:FbQ)(w0:World)(I:FbAt w0 q)(h6:q.ts.length=6)(hv:TabV (z1w q.ts))(hc:CrsV (z1w q.ts) q.cs)(hp:PlaceW (z1w q.ts) q.hs q.fs):Rets prog 45 #[.agg #[.slice q.t.1 q.t.2.1 q.t.2.2,.slice q.c.1 q.c.2.1 q.c.2.2,.slice q.h.1 q.h.2.1 q.h.2.2,.slice q.f.1 q.f.2.1 q.f.2.2]] w0 λr w'=>r=.int .i64 (x4q (z1w q.ts) q.hs q.fs)/\Fr [] w0 w':=by
 refine we [(0,.agg #[.slice q.t.1 q.t.2.1 q.t.2.2,.slice q.c.1 q.c.2.1 q.c.2.2,.slice q.h.1 q.h.2.1 q.h.2.2,.slice q.f.1 q.f.2.1 q.f.2.2])] func45 U ntmps45 U (.cons U .nil) ?_;have J:=I;refine sr (bx U (λg1 w1 a0 D O z1=>(asg U (nn (sq (sr (fad U z5u (z0g U D U y6m ?_))))))));replace I:=J.ext O;refine cl (ev1 U) (mkC func99) (u8l _ _ _ I.t I.tt h6 hv) U ?_;rintro _ w2 ⟨rfl,M⟩;have z2:=M.size;refine asg U (nn (sr (mv U (ne' U (nn (cd U (λc0=>?_) (λc0=>?_)))))));refine sr (mv U (asg U (nn (rt (tr (r1 results45 U ?_))))));exact absurd U (by assumption);refine sk (tn (sq (sr ?_)));replace D:=D.ext M;refine z0l U D x3w ?_;replace I:=J.ext (O.n1 M);refine cl (ev1 U) (mkC func100) (x8v q _ I h6 hc) U ?_;rintro _ w3 ⟨rfl,Z⟩;have z3:=Z.size;refine asg U (nn (sr (mv U (ne' U (nn (cd U (λc1=>?_) (λc1=>?_)))))));refine sr (mv U (asg U (nn (rt (tr (r1 results45 U ?_))))));exact absurd U (by assumption);refine sk (tn (sr ?_));replace D:=D.ext Z;refine z0l U D x3w ?_;replace I:=J.ext (O.n2 M Z);refine cl (ev1 U) (mkC func101) (x9k q _ I h6 hv hp) U ?_;rintro _ w4 ⟨rfl,q4⟩;have z4:=q4.size;refine asg U (nn (rt (r1 results45 U ?_)));exact⟨_,rfl,rfl,(O.n3 M Z q4)⟩
theorem y0z (q:FbQ)(w0:World)(I:FbAt w0 q)(D:q.ts.length=6)(M:TabV (z1w q.ts))(J:CrsV (z1w q.ts) q.cs)(hp:PlaceV (z1w q.ts) q.hs q.fs):Rets prog 45 #[.agg #[.slice q.t.1 q.t.2.1 q.t.2.2,.slice q.c.1 q.c.2.1 q.c.2.2,.slice q.h.1 q.h.2.1 q.h.2.2,.slice q.f.1 q.f.2.1 q.f.2.2]] w0 λr w'=>r=.int .i64 0/\Fr [] w0 w':=by
 have x:=x6j q w0 I D M J hp.w;rw[v6i hp.once]at x;exact x
theorem v6u (v:Value)(l:List Pa)(w0:World)(I:Sl z1s w0 v l)(hl:l.length<=100000):Rets prog 108 #[v] w0 λr w'=>∃g,r=.slice (some ⟨g,0,none⟩) l.length l.length/\w0.heap.size<=g/\Lw.Own z1s 100 w0.heap.size w' r l/\Fr [] w0 w':=by
 obtain⟨A,c,rfl,a0,hM,Z⟩:=id I;clear Z;unfold maxLen at hM;refine we [(0,.slice A l.length c)] func108 U ntmps108 U (.cons U .nil) ?_;have J:=I;refine sr (asg U (nn (sr (mv U (lnS U underlying54 (z1i (m:=l.length) (c:=l.length) (pa0) U z9d y6j U (λO w1 a1 D M z1=>(asg U (nn (sr (mv U (mv U ?_))))))))))));replace I:=J.ext M;refine z7w (zs:=List.replicate l.length pa0) (by rw[List.length_replicate];rfl) U (by rw[List.length_replicate];exact D) I (by rw[List.length_replicate]) z9d (λw2 D q2 z2=>?_);rw[List.length_replicate]at D;refine nn (sr (mv U (asg U (nn (rt (r1 results108 U ?_))))));exact⟨_,rfl,O,rfl,by omega,D.low (by omega),(M.z1 q2)⟩
theorem v4l (v:Value)(l:List LpQ)(w0:World)(I:Sl z4k w0 v l)(hl:l.length<=100000):Rets prog 75 #[v] w0 λr w'=>∃g,r=.slice (some ⟨g,0,none⟩) l.length l.length/\w0.heap.size<=g/\Lw.Own z4k 89 w0.heap.size w' r l/\Fr [] w0 w':=by
 obtain⟨A,c,rfl,a0,hM,Z⟩:=id I;clear Z;unfold maxLen at hM;refine we [(0,.slice A l.length c)] func75 U ntmps75 U (.cons U .nil) ?_;have J:=I;refine sr (asg U (nn (sr (mv U (lnS U underlying46 (z1i (m:=l.length) (c:=l.length) (lq0) U x3r v7f U (λO w1 a1 D M z1=>(asg U (nn (sr (mv U (mv U ?_))))))))))));replace I:=J.ext M;refine z7w (zs:=List.replicate l.length lq0) (by rw[List.length_replicate];rfl) U (by rw[List.length_replicate];exact D) I (by rw[List.length_replicate]) x3r (λw2 D q2 z2=>?_);rw[List.length_replicate]at D;refine nn (sr (mv U (asg U (nn (rt (r1 results75 U ?_))))));exact⟨_,rfl,O,rfl,by omega,D.low (by omega),(M.z1 q2)⟩
theorem v3z (v:Value)(l:List Cx)(w0:World)(I:Sl z4q w0 v l)(hl:l.length<=100000000):Rets prog 77 #[v] w0 λr w'=>∃g,r=.slice (some ⟨g,0,none⟩) l.length l.length/\w0.heap.size<=g/\Lw.Own z4q 109 w0.heap.size w' r l/\Fr [] w0 w':=by
 obtain⟨A,c,rfl,a0,hM,Z⟩:=id I;clear Z;unfold maxLen at hM;refine we [(0,.slice A l.length c)] func77 U ntmps77 U (.cons U .nil) ?_;have J:=I;refine sr (asg U (nn (sr (mv U (lnS U underlying36 (z1i (m:=l.length) (c:=l.length) (cx0) U v7b v3b U (λO w1 a1 D M z1=>(asg U (nn (sr (mv U (mv U ?_))))))))))));replace I:=J.ext M;refine z7w (zs:=List.replicate l.length cx0) (by rw[List.length_replicate];rfl) U (by rw[List.length_replicate];exact D) I (by rw[List.length_replicate]) v7b (λw2 D q2 z2=>?_);rw[List.length_replicate]at D;refine nn (sr (mv U (asg U (nn (rt (r1 results77 U ?_))))));exact⟨_,rfl,O,rfl,by omega,D.low (by omega),(M.z1 q2)⟩
theorem u9f (v:Value)(l:List YQ)(w0:World)(I:Sl z2j w0 v l)(hl:l.length<=100000):Rets prog 107 #[v] w0 λr w'=>∃g,r=.slice (some ⟨g,0,none⟩) l.length l.length/\w0.heap.size<=g/\Lw.Own z2j 82 w0.heap.size w' r l/\Fr [] w0 w':=by
 obtain⟨A,c,rfl,a0,hM,Z⟩:=id I;clear Z;unfold maxLen at hM;refine we [(0,.slice A l.length c)] func107 U ntmps107 U (.cons U .nil) ?_;have J:=I;refine sr (asg U (nn (sr (mv U (lnS U underlying33 (z1i (m:=l.length) (c:=l.length) (yq0) U z9u y1j U (λO w1 a1 D M z1=>(asg U (nn (sr (mv U (mv U ?_))))))))))));replace I:=J.ext M;refine z7w (zs:=List.replicate l.length yq0) (by rw[List.length_replicate];rfl) U (by rw[List.length_replicate];exact D) I (by rw[List.length_replicate]) z9u (λw2 D q2 z2=>?_);rw[List.length_replicate]at D;refine nn (sr (mv U (asg U (nn (rt (r1 results107 U ?_))))));exact⟨_,rfl,O,rfl,by omega,D.low (by omega),(M.z1 q2)⟩
theorem u4m {I qs:List IQ}{n:Nat}(hn:n<=qs.length)(D:(plB qs).take n=trimB (plB qs))(hl:I.length=n)(h:∀j,j<n->(I.getD j iq0).2=(qs.getD j iq0).2):plB I=trimB (plB qs):=by
 rw[<-D];refine List.ext_getElem (by simp[hl,hn]) λj J O=>?_;have M:j<n:=by simpa[hl] using J
 have:=h j M;rw[List.getD,List.getD,List.getElem?_eq_getElem (by omega),List.getElem?_eq_getElem (by omega)]at this;simpa[plB] using this
set_option maxHeartbeats 2000000 in
theorem y5f (v:Value)(qs:List IQ)(w0:World)(Z:Sl z5r w0 v qs)(hk:IqAt w0 qs)(hl:qs.length<=40)(h4:z8p qs):Rets prog 60 #[v] w0 λr w'=>(∃fs,RwO 37 87 w0.heap.size w' r fs/\plB fs=trimB (plB qs)/\∃g,r=.slice (some ⟨g,0,none⟩) fs.length fs.length)/\Fr [] w0 w':=by
 obtain⟨A,c,rfl,b3,hM,hA⟩:=id Z;clear hA;unfold maxLen at hM;refine we [(0,.slice A qs.length c)] func60 U ntmps60 U (.cons U .nil) ?_;have a7:=Z;have a5:=hk;refine sr (asg U (nn (sr (mv U (lnS U underlying30 (asg U (nn (sq (bl ?_)))))))));refine lpK (ι:=Nat) [(0,_)] (λn=>[(3,.int .i64 (n:Int))]) (λn w'=>Fr [] w0 w'/\n<=qs.length/\∀j,n<=j->(qs.getD j iq0).2=[]) (λn=>n) qs.length (.c2 U U) ⟨Fr.refl _ _,⟨Nat.le_refl _,λj O=>x8a O⟩⟩ ?_;rintro n w1 ⟨q1,⟨hn,a4⟩⟩;have z1:=q1.size;refine kpC [(0,_),(3,_)] (.c2 U U) ?_;have a6:=z1u (z1y a5 (n-1));refine sq (sq ?_);refine rbo (r:=18) (L':=[(0,_),(3,_)]) (((0<(n:Int))/\(((qs.getD (n-1) iq0).1.2.1:Int)=0))) (.c2 U U) ?_ ?_;refine mv U (gt' U (mv U (gs 10 U (λg0=>?_) (λg0=>?_))));refine gY U (mv U (gY U (mv U (gY U (z2u U (wi6 (by omega)) (gY U ?_))))));replace Z:=a7.ext q1;refine z0y (p:=n-1) (iq0) U Z U y2w (by omega) (λa9 a2=>?_);exact gY U (z1g U (a2 _ Z) z4x (gY U (lnS U underlying37 (gY U (eq' U (pkt U (rbe U (.c2 U U))))))));exact gN U (gN U (gN U (gN U (gN U (gN U (gN U (pkf U (rbe U (.c2 U U)))))))));refine tn (cd U (λc0=>?_) (λc0=>?_));refine sk (tn (bl (rg (mv U (z2u U (wi6 (by omega)) (asg U (nl (bn' ?_))))))));exact lpE (n-1) (.c2 U (congrArg (λz=>some (Value.int .i64 z)) (show (n:Int)-1=((n-1:Nat):Int) by omega))) ⟨q1,⟨by omega,λj O=>by
  by_cases e:n<=j;exact a4 j e;obtain rfl:j=n-1:=by omega
  exact List.eq_nil_of_length_eq_zero (by omega)⟩⟩ (by omega)
 have a8:=y1o (plB qs) n (by rw[List.length_map];exact hn) (λj O=>by rw[z3n];exact a4 j O) (by
  by_cases e:n=0;exact .inl e;refine .inr λh=>c0 ⟨by omega,?_⟩;rw[z3n]at h;rw[h]at a6;rw[a6];rfl)
 refine ex (te (te (xh (tn (sr (mv U (z1i (m:=n) (c:=n) (iq0) U y2w j6k U (λI w2 b1 M q2 z2=>(asg U (nn (sq (sr (mv U (mv U (nn (bl ?_))))))))))))))));refine lpK (ι:=Nat×List IQ) [(0,_),(4,_),(23,_)] (λp=>[(24,.int .i64 (p.1:Int))]) (λp w'=>Fr [I] w2 w'/\p.1<=n/\p.2.length=n/\Lw.Own z5r 37 w0.heap.size w' (.slice (some ⟨I,0,none⟩) n n) p.2/\(∀j,j<p.1->(p.2.getD j iq0).2=(qs.getD j iq0).2)/\PreO 87 (I+1) w' p.2 p.1) (λp=>n-p.1) (0,List.replicate n iq0) (.c4 U U U U) ⟨Fr.refl _ _,⟨Nat.zero_le _,by simp,M.low (by omega),λj O=>absurd O (by simp),PreO.zero⟩⟩ ?_;rintro⟨i,ps⟩ w3 ⟨q3,⟨hi,D,M,a0,J⟩⟩;simp only at hi M a0 J D;have z3:=q3.size;refine kpC [(0,_),(4,_),(23,_),(24,.int .i64 (i:Int))] (.c4 U U U U) (sr (lt' U (nn (sq (cd U (λc1=>?_) (λc1=>?_))))));refine sk (tn (sq (bl (sr (mv U (asg U (nn (rg (mv U (mv U (mv U (mv U ?_))))))))))));replace Z:=a7.ext (q1.z2 q2 q3);refine z0y (iq0) U Z U y2w z1e (λb0 a3=>?_);refine z1g U (a3 _ Z) z4x ?_;replace hk:=a5.ext (q1.z2 q2 q3);refine cl (ev1 U) x2q (z3q _ (qs.getD i iq0).2 _ (z1y hk i) (by have:=z3h h4 i;omega)) U ?_;rintro _ w4 ⟨a1,rfl,b2,hX,q4⟩;have z4:=q4.size;replace M:=M.ext q4;refine z7h (p:=i) (E:=z5r) U U y2w (z5c (i:=i) ((((some ⟨a1,0,none⟩,(qs.getD i iq0).2.length,(qs.getD i iq0).2.length),(qs.getD i iq0).2):IQ)) U U M (by omega) U u8w (λw5 M q5 z5=>(kpL [(0,_),(4,_),(23,_),(24,_)] (.c4 U U U U) (nl (bn' (tn (rg (z0w U (wi6 (by omega)) (mv U (nl ?_))))))))));replace J:=(J.ext q4).fr q5 (by intro k hk;simp at hk;omega);replace hX:=hX.fr q5 (by intro k hk hb;simp[z0v]at hk hb;omega);exact lpE ((i+1,ps.set i (((some ⟨a1,0,none⟩,(qs.getD i iq0).2.length,(qs.getD i iq0).2.length),(qs.getD i iq0).2):IQ))) (.c4 U U U U) ⟨((Fr.refl [I] _).z3 q3 q4 q5),⟨by simp only;omega,by simp only[List.length_set];exact D,M,λj O=>by
  simp only at O ⊢;rw[z1j (by omega)];split;rename_i e;subst e;rfl;exact a0 j (by omega),J.put (by omega) (hX.low (by omega))⟩⟩ (by simp only;omega)
 obtain rfl:i=n:=by omega
 refine ex (te (te (xh (tn (sr (mv U (asg U (kpL [(2,_)] (.cons U .nil) (nn (rt (r1 results60 U ?_)))))))))));exact⟨_,rfl,⟨ps,⟨D▸M,(D.symm▸J).all (by omega)⟩,u4m hn a8 D a0,I,by rw[D]⟩,(q1.z2 q2 q3)⟩
def PreY (base:Nat)(w:World)(ys:List YQ)(i:Nat):Prop:=∀j,j<i->Lw.Own z1s 100 base w (slv (ys.getD j yq0).pe) (ys.getD j yq0).pes
theorem PreY.ext {base i:Nat}{w w':World}{ys:List YQ}(h:PreY base w ys i)(hf:Fr [] w w'):PreY base w' ys i:=λj D=>(h j D).ext hf
theorem PreY.fr {base i:Nat}{w w':World}{ys:List YQ}{S:List Nat}(h:PreY base w ys i)(hf:Fr S w w')(I:∀k∈S,k<base):PreY base w' ys i:=λj D=>(h j D).fr hf λk M J=>by
 have:=I k M;have:=((h j D).blk k J).1;omega
theorem PreY.put {base i:Nat}{w:World}{ys:List YQ}{q:YQ}(h:PreY base w ys i)(D:i<ys.length)(I:Lw.Own z1s 100 base w (slv q.pe) q.pes):PreY base w (ys.set i q) (i+1):=λj J=>by
 rw[z1j D]
 split
 ·exact I
 exact h j (by omega)
theorem y5d {α:Type}{l:List α}{i:Nat}(d:α)(h:i<l.length):l[i]?=some (l.getD i d):=by rw[List.getD,List.getElem?_eq_getElem h];rfl
theorem y3b {α β:Type}{f:α->β}{l:List α}{i:Nat}{x d:α}(h:f x=f (l.getD i d)):(l.set i x).map f=l.map f:=by
 rw[List.map_set];apply List.ext_getElem?;intro j;rw[List.getElem?_set];split;rename_i e;subst e;split;rename_i D;rw[List.length_map]at D;rw[List.getElem?_map,List.getElem?_eq_getElem D,h,List.getD,List.getElem?_eq_getElem D];rfl;rename_i D;rw[List.getElem?_eq_none (by omega)];rfl
theorem v6g {α:Type}{l m:List α}{i:Nat}{q d:α}(h:∀j,i<=j->l.getD j d=m.getD j d)(D:i<l.length):∀j,i+1<=j->(l.set i q).getD j d=m.getD j d:=λj I=>by
 rw[z1j D,if_neg (by omega)];exact h j (by omega)
set_option maxHeartbeats 1000000 in
theorem y9t (v:Value)(ys:List YQ)(w0:World)(hs:Sl z2j w0 v ys)(hp:YsA w0 ys)(hl:ys.length<=1000)(a3:∀i,(ys.getD i yq0).pes.length<=100000):Rets prog 61 #[v] w0 λr w'=>(∃g ps,r=.slice (some ⟨g,0,none⟩) ys.length ys.length/\w0.heap.size<=g/\YsO τd w0.heap.size w' r ps/\ps.length=ys.length/\ps.map YQ.p=ys.map YQ.p)/\Fr [] w0 w':=by
 obtain⟨A,c,rfl,a7,hM,hA⟩:=id hs;clear hA;unfold maxLen at hM;refine we [(0,.slice A ys.length c)] func61 U ntmps61 U (.cons U .nil) ?_;have a9:=hs;have a2:=hp;refine sr (asg U (nn (sr (mv U (cl (ev1 U) (mkC func107) (u9f _ ys _ hs (by omega)) U ?_)))));rintro _ w1 ⟨Z,rfl,a8,I,q1⟩;have z1:=q1.size;have a6:=(I.blk Z (by simp[z0v])).2;refine asg U (nn (sq (sr (mv U (lnS U underlying33 (mv U (nn (bl ?_))))))));refine lpK (ι:=Nat×List YQ) [(3,_),(8,_)] (λp=>[(9,.int .i64 (p.1:Int))]) (λp w'=>Fr [Z] w1 w'/\p.1<=ys.length/\Lw.Own z2j 82 w0.heap.size w' (.slice (some ⟨Z,0,none⟩) ys.length ys.length) p.2/\p.2.length=ys.length/\p.2.map YQ.p=ys.map YQ.p/\(∀j,p.1<=j->p.2.getD j yq0=ys.getD j yq0)/\PreY (Z+1) w' p.2 p.1) (λp=>ys.length-p.1) (0,ys) (.c3 U U U) ⟨Fr.refl _ _,⟨Nat.zero_le _,I.low (by omega),rfl,rfl,λ_ _=>rfl,λj hj=>absurd hj (by simp)⟩⟩ ?_;rintro⟨i,ps⟩ w2 ⟨q2,⟨hi,I,D,O,J,M⟩⟩;simp only at hi I D O J M;have z2:=q2.size;refine kpC [(3,_),(8,_),(9,.int .i64 (i:Int))] (.c3 U U U) (sr (lt' U (nn (sq (cd U (λc0=>?_) (λc0=>?_))))));refine sk (tn (sq (bl (sr (mv U (asg U (nn (rg (mv U (mv U (mv U (mv U (z0y (yq0) U I.sl U z9u z1e (λa4 a1=>?_))))))))))))));refine fad U z6n (z6e U (a1 _ I.sl) U y3k ?_);replace hp:=a2.ext (q1.z1 q2);refine cl (ev1 U) (mkC func108) (v6u _ (ys.getD i yq0).pes _ (by rw[J i (Nat.le_refl _)];exact hp i) (a3 i)) U ?_;rintro _ w3 ⟨a0,rfl,a5,hX,q3⟩;have z3:=q3.size;replace I:=I.ext q3;refine z7h (p:=i) (E:=z2j) U U z9u (z9b U z6n ?_);refine y9d (E:=z2j) (i:=i) (f:=4) (ys.getD i yq0) ({ (ys.getD i yq0) with pe:=(some ⟨a0,0,none⟩,(ys.getD i yq0).pes.length,(ys.getD i yq0).pes.length) }:YQ) U U I (by rw[<-J i (Nat.le_refl _)];exact y5d _ (by omega)) (by decide) U U U j7u (λw4 I q4 z4=>?_);refine kpL [(3,_),(8,_),(9,_)] (.c3 U U U) (nl (bn' (tn (rg (z0w U (wi6 (by omega)) (mv U (nl ?_)))))));replace M:=(M.ext q3).fr q4 (by intro k hk;simp at hk;omega);replace hX:=hX.fr q4 (by intro k hk hb;simp[z0v]at hk hb;omega);exact lpE ((i+1,ps.set i ({ (ys.getD i yq0) with pe:=(some ⟨a0,0,none⟩,(ys.getD i yq0).pes.length,(ys.getD i yq0).pes.length) }:YQ))) (.c3 U U U) ⟨((Fr.refl [Z] _).z3 q2 q3 q4),⟨by simp only;omega,I,by simp only[List.length_set];exact D,(y3b (d:=yq0) (by rw[J i (Nat.le_refl _)])).trans O,v6g J (by omega),M.put (by omega) (hX.low (by omega))⟩⟩ (by simp only;omega);obtain rfl:i=ys.length:=by omega
 refine ex (te (te (xh (tn (sr (mv U (asg U (nn (rt (r1 results61 U ?_))))))))));exact⟨_,rfl,⟨Z,ps,rfl,by omega,⟨D▸I,λj hj=>(M j (by omega)).low (by omega)⟩,D,O⟩,(q1.z1 q2)⟩
theorem zv46 (w:World):(zeroValue 46).run prog w=.ok (.slice none 0 0) w:=by kernel_rfl
def PreT (base:Nat)(w:World)(us:List TQ)(i:Nat):Prop:=(∀j,j<i->Lw.Own z4k 89 base w (slv (us.getD j tq0).1) (us.getD j tq0).2)/\(∀j k,j<i->k<i->j≠k->∀b∈z0v (slv (us.getD j tq0).1),b∉z0v (slv (us.getD k tq0).1))/\∀j,j<i->∀q∈(us.getD j tq0).2,LpO τd base w q
theorem PreT.fr {base i:Nat}{w w':World}{us:List TQ}{S:List Nat}(h:PreT base w us i)(hf:Fr S w w')(M:∀k∈S,k<base):PreT base w' us i:=by
 have o:∀ {α:Type} {E:Enc α} {T:Nat} {v:Value} {ys:List α},Lw.Own E T base w v ys->Lw.Own E T base w' v ys:=λI=>I.fr hf λk Z O=>by have:=M k Z;have:=(I.blk k O).1;omega
 exact⟨λj D=>o (h.1 j D),h.2.1,λj D q J=>⟨o (h.2.2 j D q J).1,o (h.2.2 j D q J).2⟩⟩
theorem PreT.put {base i:Nat}{w:World}{us:List TQ}{u:SV}{M:List LpQ}(h:PreT base w us i)(D:i<us.length)(ho:Lw.Own z4k 89 base w (slv u) M)(hq:∀q∈M,LpO τd base w q)(hn:∀j,j<i->∀b∈z0v (slv (us.getD j tq0).1),b∉z0v (slv u)):PreT base w (us.set i (u,M)) (i+1):=by
 refine⟨λj O=>?_,λj k O hk J=>?_,λj O=>?_⟩;rw[z1j D];split;exact ho;exact h.1 j (by omega);rw[z1j D,z1j D];split;rw[if_neg (by omega)];exact λb Z I=>hn k (by omega) b I Z;split;exact hn j (by omega);exact h.2.1 j k (by omega) (by omega) J;rw[z1j D];split;exact hq;exact h.2.2 j (by omega)
def PreL (base:Nat)(w:World)(rs:List LpQ)(i:Nat):Prop:=∀j,j<i->LpO τd base w (rs.getD j lq0)
theorem PreL.fr {base i:Nat}{w w':World}{J:List LpQ}{S:List Nat}(h:PreL base w J i)(hf:Fr S w w')(M:∀k∈S,k<base):PreL base w' J i:=λj I=>by
 have o:∀ {α:Type} {E:Enc α} {T:Nat} {v:Value} {ys:List α},Lw.Own E T base w v ys->Lw.Own E T base w' v ys:=λD=>D.fr hf λk Z O=>by have:=M k Z;have:=(D.blk k O).1;omega
 exact⟨o (h j I).1,o (h j I).2⟩
theorem PreL.put {base i:Nat}{w:World}{D:List LpQ}{x y:LpQ}(h:PreL base w D i)(I:i<D.length)(J:LpO τd base w y):PreL base w ((D.set i x).set i y) (i+1):=λj M=>by
 rw[List.set_set,z1j I]
 split
 ·exact J
 exact h j (by omega)
theorem j2l {base i:Nat}{w:World}{v:Value}{us:List TQ}{u:SV}{r r':List LpQ}(h:Lw.Own z3l 46 base w v (us.set i (u,r))):Lw.Own z3l 46 base w v (us.set i (u,r')):=by
 have e:∀x:List LpQ,(us.set i (u,x)).flatMap z3l.enc=(us.set i (u,r)).flatMap z3l.enc:=λx=>by
  rw[List.flatMap_def,List.flatMap_def,List.map_set,List.map_set];rfl
 rcases h with ⟨D,I⟩|⟨g,cap,cur,D,I,J,M,O,Z,h7⟩
 refine .inl ⟨D,?_⟩;have:=congrArg List.length I;simp only[List.length_set,List.length_nil]at this;exact List.length_eq_zero_iff.1 (by rw[List.length_set];exact this);refine .inr ⟨g,cap,cur,by rw[D];simp,I,J,by simpa using M,O,Z,?_⟩;rw[e r',<-h7];simp
theorem u4w {us ts:List TQ}{i:Nat}{x:TQ}(h:∀j,j<i->(us.getD j tq0).2.map LpQ.p=(ts.getD j tq0).2.map LpQ.p)(D:i<us.length)(I:x.2.map LpQ.p=(ts.getD i tq0).2.map LpQ.p):∀j,j<i+1->((us.set i x).getD j tq0).2.map LpQ.p=(ts.getD j tq0).2.map LpQ.p:=λj J=>by
 rw[z1j D]
 split
 ·rename_i e;subst e;exact I
 exact h j (by omega)
theorem y4w {us ts:List TQ}(hl:us.length=ts.length)(h:∀j,j<ts.length->(us.getD j tq0).2.map LpQ.p=(ts.getD j tq0).2.map LpQ.p):z1w us=z1w ts:=by
 refine List.ext_getElem (by simp[hl]) λj J I=>?_;have D:j<ts.length:=by simpa using I
 have:=h j D;rw[List.getD,List.getD,List.getElem?_eq_getElem (by omega),List.getElem?_eq_getElem D]at this;simpa using this
theorem PreT.tbo {b base:Nat}{w:World}{v:Value}{us:List TQ}(M:Lw.Own z3l 46 b w v us)(h:PreT base w us us.length)(hb:b<=base):TbO τd b w v us:=
 ⟨M,λi D=>(h.1 i D).low hb,λi j D J I=>h.2.1 i j D J I,λi D q O=>(h.2.2 i D q O).low hb⟩
set_option maxHeartbeats 4000000 in
theorem y4v (v:Value)(ts:List TQ)(w0:World)(hs:Sl z3l w0 v ts)(D:TabAt w0 ts)(hl:ts.length<=1000)(b8:∀p∈ts,p.2.length<=100000/\∀q∈p.2,q.ths.length<=100000/\q.pas.length<=100000):Rets prog 62 #[v] w0 λr w'=>(∃g us,r=.slice (some ⟨g,0,none⟩) ts.length ts.length/\w0.heap.size<=g/\TbO τd w0.heap.size w' r us/\us.length=ts.length/\z1w us=z1w ts)/\Fr [] w0 w':=by
 obtain⟨A,c,rfl,g3,hM,hA⟩:=id hs;clear hA;unfold maxLen at hM;refine we [(0,.slice A ts.length c)] func62 U ntmps62 U (.cons U .nil) ?_;have f1:=hs;have b2:=D;refine sr (asg U (nn (sr (mv U (lnS U underlying35 (z1i (m:=ts.length) (c:=ts.length) (tq0) U y3d zv46 U (λa2 w1 f6 M q1 z1=>?_)))))));have e8:=(M.blk a2 (by simp[z0v])).2;refine asg U (nn (sq (sr (mv U (lnS U underlying35 (mv U (nn (bl ?_))))))));refine lpK (ι:=Nat×List TQ) [(3,_),(11,_),(12,_)] (λp=>[(13,.int .i64 (p.1:Int))]) (λp w'=>Fr [a2] w1 w'/\p.1<=ts.length/\p.2.length=ts.length/\Lw.Own z3l 46 w0.heap.size w' (.slice (some ⟨a2,0,none⟩) ts.length ts.length) p.2/\(∀j,j<p.1->(p.2.getD j tq0).2.map LpQ.p=(ts.getD j tq0).2.map LpQ.p)/\PreT (a2+1) w' p.2 p.1) (λp=>ts.length-p.1) (0,List.replicate ts.length tq0) (.c4 U U U U) ⟨Fr.refl _ _,⟨Nat.zero_le _,by simp,M.low (by omega),λj hj=>absurd hj (by simp),⟨λj hj=>absurd hj (by simp),λj k hj=>absurd hj (by simp),λj hj=>absurd hj (by simp)⟩⟩⟩ ?_;rintro⟨i,us⟩ w2 ⟨q2,⟨hi,a8,M,d4,a7⟩⟩;simp only at hi a8 M d4 a7;have z2:=q2.size;have e4:=a7;refine kpC [(3,_),(11,_),(12,_),(13,.int .i64 (i:Int))] (.c4 U U U U) ?_;have e5:∀j,j<i->∀b∈z0v (slv (us.getD j tq0).1),b<w2.heap.size:=λj hj b hb=>((a7.1 j hj).blk b hb).2;refine sr (lt' U (nn (sq (cd U (λc0=>?_) (λc0=>?_)))));have g0:=z1u (b2 _ (z0t (d:=tq0) (i:=i) (by omega))).1;have g5:=(b8 _ (z0t (d:=tq0) (i:=i) (by omega))).1;refine sk (tn (sq (bl (sr (mv U ?_)))));replace hs:=f1.ext (q1.z1 q2);refine z0y (tq0) U hs U y3d z1e (λf2 d9=>?_);refine z1g U (d9 _ hs) x0m (asg U (asg U (nn (sr (mv U (mv U (mv U ?_)))))));replace D:=b2.ext (q1.z1 q2);refine cl (ev1 U) (mkC func75) (v4l _ (ts.getD i tq0).2 _ (D _ (z0t (d:=tq0) (i:=i) (by omega))).1 (b8 _ (z0t (d:=tq0) (i:=i) (by omega))).1) U ?_;rintro _ w3 ⟨O,rfl,f7,Z,q3⟩;have z3:=q3.size;have e9:=(Z.blk O (by simp[z0v])).2;replace M:=M.ext q3;refine z7h (p:=i) (E:=z3l) U U y3d (z5c (i:=i) (((((some ⟨O,0,none⟩,(ts.getD i tq0).2.length,(ts.getD i tq0).2.length):SV),(ts.getD i tq0).2):TQ)) U U M (by omega) U j5i (λw4 M q4 z4=>?_));obtain⟨b5,b9⟩:∃u,u=us.set i (((some ⟨O,0,none⟩,(ts.getD i tq0).2.length,(ts.getD i tq0).2.length):SV),(ts.getD i tq0).2):=⟨_,rfl⟩;rw[<-b9]at M;have d5:b5.getD i tq0=(((some ⟨O,0,none⟩,(ts.getD i tq0).2.length,(ts.getD i tq0).2.length):SV),(ts.getD i tq0).2):=by rw[b9,z1j (by omega),if_pos U]
 have c9:(b5.getD i tq0).1.1=some ⟨O,0,none⟩:=by rw[d5]
 have d0:(b5.getD i tq0).1.2.1=(ts.getD i tq0).2.length:=by rw[d5]
 have d1:(b5.getD i tq0).1.2.2=(ts.getD i tq0).2.length:=by rw[d5]
 have g1:b5.length=ts.length:=by rw[b9,List.length_set];exact a8
 refine nn (sr (mv U (lnS U underlying46 (mv U (nn (bl ?_))))));replace Z:=Z.fr q4 (by intro k D hb;simp[z0v]at D hb;omega);refine lpK (ι:=Nat×List LpQ) [(3,_),(4,_),(11,_),(12,_),(13,_),(23,_),(24,_)] (λp=>[(25,.int .i64 (p.1:Int))]) (λp w'=>Fr [O] w4 w'/\p.1<=(ts.getD i tq0).2.length/\p.2.length=(ts.getD i tq0).2.length/\Lw.Own z4k 89 (a2+1) w' (.slice (some ⟨O,0,none⟩) (ts.getD i tq0).2.length (ts.getD i tq0).2.length) p.2/\p.2.map LpQ.p=(ts.getD i tq0).2.map LpQ.p/\(∀j,p.1<=j->p.2.getD j lq0=(ts.getD i tq0).2.getD j lq0)/\PreL (O+1) w' p.2 p.1) (λp=>(ts.getD i tq0).2.length-p.1) (0,(ts.getD i tq0).2) (.c8 U U U U U U U U) ⟨Fr.refl _ _,⟨Nat.zero_le _,rfl,Z.low (by omega),rfl,λ_ _=>rfl,λj hj=>absurd hj (by simp)⟩⟩ ?_;rintro⟨J,rs⟩ w5 ⟨q5,⟨hj,b7,Z,d3,b6,b4⟩⟩;simp only at hj b7 Z d3 b6 b4;have z5:=q5.size;have e3:=b4;refine kpC [(3,_),(4,_),(11,_),(12,_),(13,_),(23,_),(24,_),(25,.int .i64 (J:Int))] (.c8 U U U U U U U U) (sr (lt' U (nn (sq (cd U (λc1=>?_) (λc1=>?_))))));refine sk (tn (sq (bl (sr (mv U ?_)))));replace D:=b2.ext (q1.z4 q2 q3 q4 q5);refine z0y (lq0) U (D _ (z0t (d:=tq0) (i:=i) (by omega))).1 U x3r z1e (λf3 e0=>?_);refine z1k U (e0 _ (D _ (z0t (d:=tq0) (i:=i) (by omega))).1) x7r (al v7f U (λg7 w6 g4 I q6 z6=>?_));refine asg U (z0j (vs:=[_,_,_,_]) U I v9d (λw7 I q7 z7=>?_) (h1:=(by first|(simp[Value.oneCell',S];done)|exact z3l.one (ts.getD i tq0))));refine nn (sq ?_);replace D:=b2.ext (q1.z6 q2 q3 q4 q5 q6 q7);replace M:=((M.fr q5 (by intro k D hb;simp[z0v]at D hb;omega)).ext q6).fr q7 (by intro k D hb;simp[z0v]at D hb;omega);replace Z:=(Z.ext q6).fr q7 (by intro k D hb;simp[z0v]at D hb;omega);intro a h;refine z0i (some 10) (λwb w'=>Fr [] wb w') z2r ?_;intro w8 q8;have z8:=q8.size;replace D:=D.ext q8;replace M:=M.ext q8;replace Z:=Z.ext q8;replace I:=I.ext q8;have hC:Fr [] w8 w8:=Fr.refl _ _;have b3:=D;have a3:=M;have b1:=Z;have a0:=I;refine z0e 0 h U λa h=>z0e 1 h U λa h=>z1f (p:=i) (tq0) 2 h U M.sl U y3d U λf4 e1 a h=>z3c 3 h U (λ_ hw=>e1 _ ((a3.ext hw).sl)) x0m U λa h=>?_;rw[c9,d0,d1]at h;refine z0e 4 h U λa h=>z0c 5 h U z6w U λa h=>z0k 6 h U (λ_ hw=>a0.ext hw) U z4x U λa h=>z0d 7 U ?_;refine z0m h (z0a U z0f) x2q (z3q _ ((ts.getD i tq0).2.getD J lq0).ths _ ((D _ (z0t (d:=tq0) (i:=i) (by omega))).2 _ (z0t (by omega))).1 ((b8 _ (z0t (d:=tq0) (i:=i) (by omega))).2 _ (z0t (by omega))).1) ?_;rintro _ w9 ⟨a9,rfl,f8,hX,q9⟩ a h;have z9:=q9.size;replace D:=D.ext q9;replace M:=M.ext q9;replace Z:=Z.ext q9;replace I:=I.ext q9;replace hC:=hC.next q9;refine z0b ?_;refine z1m 8 (by kernel_rfl) (by kernel_rfl) (by kernel_rfl) hC (p:=J) h wn U x3r (by omega) (by omega) (by omega) U U λa h=>z4h 9 h U z6w U λa h=>z0d 10 U ?_;refine y5l (E:=z4k) (i:=J) (f:=2) (((ts.getD i tq0).2.getD J lq0)) ({ ((ts.getD i tq0).2.getD J lq0) with th:=(some ⟨a9,0,none⟩,((ts.getD i tq0).2.getD J lq0).ths.length,((ts.getD i tq0).2.getD J lq0).ths.length) }:LpQ) h U U Z (by rw[<-b6 J (Nat.le_refl _)];exact y5d _ (by omega)) (by decide) U U U u8w λg6 b0 a5 _hz a h=>?_;have h0:=a5.size;replace M:=M.fr a5 (by intro k D hb;simp[z0v]at D hb;omega);replace I:=I.fr a5;replace hX:=hX.fr a5 (by intro k D hb;simp[z0v]at D hb;omega);clear _hz Z;have Z:=b0;clear b0;refine z1p ?_;refine z0r ?_;clear hC b3 a3 b1 a0;refine bk (h.sub (L':=[(3,_),(4,_),(6,_),(7,_),(11,_),(12,_),(13,_),(23,_),(24,_),(25,_)]) (.d8 U U U U U U U U (.c2 U U))) (tn ?_);replace D:=b2.ext ((((q1.z6 q2 q3 q4 q5 q6 q7).n1 q8).n1 q9).z1 a5);intro a h;refine z0i (some 10) (λwb w'=>Fr [] wb w') z2r ?_;intro e6 a4;have h2:=a4.size;replace D:=D.ext a4;replace M:=M.ext a4;replace Z:=Z.ext a4;replace I:=I.ext a4;replace hX:=hX.ext a4;have hC:Fr [] e6 e6:=Fr.refl _ _;have b3:=D;have a3:=M;have b1:=Z;have a0:=I;have d7:=hX;refine z0e 0 h U λa h=>z0e 1 h U λa h=>z1f (p:=i) (tq0) 2 h U M.sl U y3d U λf5 e2 a h=>z3c 3 h U (λ_ hw=>e2 _ ((a3.ext hw).sl)) x0m U λa h=>?_;rw[c9,d0,d1]at h;refine z0e 4 h U λa h=>z0c 5 h U z8m U λa h=>z0k 6 h U (λ_ hw=>a0.ext hw) U y3k U λa h=>z0d 7 U ?_;refine z0m h (z0a U z0f) (mkC func108) (v6u _ ((ts.getD i tq0).2.getD J lq0).pas _ ((D _ (z0t (d:=tq0) (i:=i) (by omega))).2 _ (z0t (by omega))).2 ((b8 _ (z0t (d:=tq0) (i:=i) (by omega))).2 _ (z0t (by omega))).2) ?_;rintro _ g8 ⟨d6,rfl,f9,hY,a1⟩ a h;have h3:=a1.size;replace D:=D.ext a1;replace M:=M.ext a1;replace Z:=Z.ext a1;replace I:=I.ext a1;replace hX:=hX.ext a1;replace hC:=hC.next a1;refine z0b ?_;refine z1m 8 (by kernel_rfl) (by kernel_rfl) (by kernel_rfl) hC (p:=J) h wn U x3r (by omega) (by omega) (by omega) U U λa h=>z4h 9 h U z8m U λa h=>z0d 10 U ?_;refine y5l (E:=z4k) (i:=J) (f:=3) (({ ((ts.getD i tq0).2.getD J lq0) with th:=(some ⟨a9,0,none⟩,((ts.getD i tq0).2.getD J lq0).ths.length,((ts.getD i tq0).2.getD J lq0).ths.length) }:LpQ)) ({ ((ts.getD i tq0).2.getD J lq0) with th:=(some ⟨a9,0,none⟩,((ts.getD i tq0).2.getD J lq0).ths.length,((ts.getD i tq0).2.getD J lq0).ths.length),pa:=(some ⟨d6,0,none⟩,((ts.getD i tq0).2.getD J lq0).pas.length,((ts.getD i tq0).2.getD J lq0).pas.length) }:LpQ) h U U Z (by rw[y5d lq0 (by rw[List.length_set];omega),z1j (by omega),if_pos U]) (by decide) U U U j7u λg9 b0 a6 _hz a h=>?_;have h4:=a6.size;replace M:=M.fr a6 (by intro k D hb;simp[z0v]at D hb;omega);replace I:=I.fr a6;replace hX:=hX.fr a6 (by intro k D hb;simp[z0v]at D hb;omega);replace hY:=hY.fr a6 (by intro k D hb;simp[z0v]at D hb;omega);clear _hz Z;have Z:=b0;clear b0;refine z1p ?_;refine z0r ?_;clear hC b3 a3 b1 a0 d7;refine bk (h.sub (L':=[(3,_),(4,_),(11,_),(12,_),(13,_),(23,_),(24,_),(25,_)]) (.c8 U U U U U U U U)) (bn' (tn (rg (z0w U (wi6 (by omega)) (mv U (nl ?_))))));replace b4:=e3.fr ((((Fr.refl [O] _).z6 q6 q7 q8 q9 a5 a4).n1 a1).z1 a6) (by intro k D;simp at D;omega);exact lpE ((J+1,(rs.set J ({ ((ts.getD i tq0).2.getD J lq0) with th:=(some ⟨a9,0,none⟩,((ts.getD i tq0).2.getD J lq0).ths.length,((ts.getD i tq0).2.getD J lq0).ths.length) }:LpQ)).set J ({ ((ts.getD i tq0).2.getD J lq0) with th:=(some ⟨a9,0,none⟩,((ts.getD i tq0).2.getD J lq0).ths.length,((ts.getD i tq0).2.getD J lq0).ths.length),pa:=(some ⟨d6,0,none⟩,((ts.getD i tq0).2.getD J lq0).pas.length,((ts.getD i tq0).2.getD J lq0).pas.length) }:LpQ))) (.c8 U U U U U U U U) ⟨((((Fr.refl [O] _).z6 q5 q6 q7 q8 q9 a5).n1 a4).z2 a1 a6),⟨by simp only;omega,by simp only[List.length_set];exact b7,Z,by rw[List.set_set];exact(y3b (d:=lq0) (by rw[b6 J (Nat.le_refl _)])).trans d3,λj f0=>by
  simp only at f0 ⊢;rw[List.set_set,z1j (by omega),if_neg (by omega)];exact b6 j (by omega),b4.put (by omega) ⟨hX.low (by omega),hY.low (by omega)⟩⟩⟩ (by simp only;omega)
 obtain rfl:J=(ts.getD i tq0).2.length:=by omega
 refine ex (te (te (xh (bn' (tn (rg (z0w U (wi6 (by omega)) (mv U (kpL [(3,_),(11,_),(12,_),(13,_)] (.c4 U U U U) (nl ?_))))))))));replace a7:=e4.fr ((Fr.refl [a2] _).z3 q3 q4 q5) (by intro k D;simp at D;omega);replace M:=M.fr q5 (by intro k D hb;simp[z0v]at D hb;omega);exact lpE ((i+1,us.set i (((some ⟨O,0,none⟩,(ts.getD i tq0).2.length,(ts.getD i tq0).2.length):SV),rs))) (.c4 U U U U) ⟨((Fr.refl [a2] _).z4 q2 q3 q4 q5),⟨by simp only;omega,by simp only[List.length_set];exact a8,j2l (b9▸M),u4w d4 (by omega) d3,a7.put (by omega) (by rw[show slv ((some ⟨O,0,none⟩,(ts.getD i tq0).2.length,(ts.getD i tq0).2.length):SV)=(.slice (some ⟨O,0,none⟩) rs.length rs.length) by rw[b7];rfl];exact(b7.symm▸Z).low (by omega)) (λq hq=>by
  obtain⟨j,hj,rfl⟩:=List.getElem_of_mem hq;have:=b4 j (by omega);rw[List.getD,List.getElem?_eq_getElem hj]at this;exact this.low (by omega)) (λj hj b hb e7=>by have:=e5 j hj b hb;simp[z0v,slv]at e7;omega)⟩⟩ (by simp only;omega)
 obtain rfl:i=ts.length:=by omega
 refine ex (te (te (xh (tn (sr (mv U (asg U (kpL [(2,_)] (.cons U .nil) (nn (rt (r1 results62 U ?_)))))))))));exact⟨_,rfl,⟨a2,us,rfl,by omega,PreT.tbo M (a8.symm▸a7) (by omega),a8,y4w a8 d4⟩,(q1.z1 q2)⟩
theorem x8z:BuildAt prog 137 [(0,1),(1,2),(3,1),(4,1),(5,1),(6,1)] [(.int .i64 0),(.slice none 0 0),(.slice none 0 0),(.slice none 0 0),(.slice none 0 0),(.map none),(.slice none 0 0)]:=BuildAt.struct underlying137 (λ_=>by kernel_rfl) (λ_=>by kernel_rfl)
theorem j3j:CallOf prog 60:=mkC func60
theorem j3q:CallOf prog 62:=mkC func62
theorem y4z:z1a prog 41 0 0:=λ_ _=>by kernel_rfl
theorem y0o:z1a prog 41 1 1:=λ_ _=>by kernel_rfl
theorem z7o:z1a prog 41 2 3:=λ_ _=>by kernel_rfl
theorem z4a:z1a prog 41 3 4:=λ_ _=>by kernel_rfl
structure StSz (s:StQ):Prop where
  bf:s.q.fs.length<=40
  bb:s.q.bs.length<=40
  f4:z8p s.q.fs
  b4:z8p s.q.bs
  ly:s.ys.length=6
  lt:s.fb.ts.length=6
  pe:∀i,(s.ys.getD i yq0).pes.length<=100000
  tb:∀p∈s.fb.ts,p.2.length<=100000/\∀q∈p.2,q.ths.length<=100000/\q.pas.length<=100000
  fl:s.fb.fs.length<=100000
  cs:s.fb.cs.length<=100000000
  hs:s.fb.hs.length<=100000
theorem y2e {τ:TyK}{b base:Nat}{w:World}{v:Value}{ys:List YQ}(h:YsO τ base w v ys)(hb:b<=base):YsO τ b w v ys:=⟨h.out.low hb,λi D=>(h.ins i D).low hb⟩
theorem y2d {τ:TyK}{b base:Nat}{w:World}{v:Value}{ts:List TQ}(h:TbO τ base w v ts)(hb:b<=base):TbO τ b w v ts:=⟨h.out.low hb,λi D=>(h.ins i D).low hb,h.off,λi D q I=>⟨(h.lps i D q I).1.low hb,(h.lps i D q I).2.low hb⟩⟩
set_option maxHeartbeats 4000000 in
theorem v6y (s:StQ)(w0:World)(I:StAt w0 s)(D:StSz s)(g0:(s.fb.cs.map cxK).Nodup):Rets prog 25 #[.agg #[.int .i64 s.rk,.slice s.q.f.1 s.q.f.2.1 s.q.f.2.2,.slice s.q.b.1 s.q.b.2.1 s.q.b.2.2,.slice s.yv.1 s.yv.2.1 s.yv.2.2,.slice s.fb.t.1 s.fb.t.2.1 s.fb.t.2.2,.slice s.fb.c.1 s.fb.c.2.1 s.fb.c.2.2,.slice s.fb.h.1 s.fb.h.2.1 s.fb.h.2.2,.slice s.fb.f.1 s.fb.f.2.1 s.fb.f.2.2]] w0 λr w'=>∃ka m,r=.pointer (some ⟨ka.gk,0,none⟩)/\MkM τd 137 w0 ka w' m/\m.p=(⟨s.rk,⟨trimB (plB s.q.fs),trimB (plB s.q.bs)⟩,s.ys.map YQ.p,z1w s.fb.ts,s.fb.cs,s.fb.fs⟩:MSt):=by
 have h7:=z1u I.f.c;have h8:=D.cs;refine we [(0,.agg #[.int .i64 s.rk,.slice s.q.f.1 s.q.f.2.1 s.q.f.2.2,.slice s.q.b.1 s.q.b.2.1 s.q.b.2.2,.slice s.yv.1 s.yv.2.1 s.yv.2.2,.slice s.fb.t.1 s.fb.t.2.1 s.fb.t.2.2,.slice s.fb.c.1 s.fb.c.2.1 s.fb.c.2.2,.slice s.fb.h.1 s.fb.h.2.1 s.fb.h.2.2,.slice s.fb.f.1 s.fb.f.2.1 s.fb.f.2.2])] func25 U ntmps25 U (.cons U .nil) ?_;have f0:=I;refine sr (bx U (λg1 w1 h9 J q1 z1=>(asg U (nn ?_))));refine jn (ι:=MA) [(1,_)] (λka=>[(3,.pointer (some ⟨ka.gk,0,none⟩))]) (λka w'=>Fr [] w1 w'/\∃m:MQ,MkM τd 137 w0 ka w' m/\m.p=(⟨s.rk,⟨trimB (plB s.q.fs),trimB (plB s.q.bs)⟩,s.ys.map YQ.p,z1w s.fb.ts,[],s.fb.fs⟩:MSt)) (.cons U .nil) ?_ ?_;replace I:=f0.ext q1;intro a h;refine z0i none (λwb w'=>Fr [] wb w') z2r ?_;intro w2 q2;have z2:=q2.size;replace I:=I.ext q2;replace J:=J.ext q2;have hC:Fr [] w2 w2:=Fr.refl _ _;have b8:=I;have Z:=J;refine z0c 0 h U y4z U λa h=>z0k 1 h U (λ_ hw=>Z.ext hw) U na3 U λa h=>z0c 2 h U y0o U λa h=>z4h 3 h U y2y U λa h=>z0k 4 h U (λ_ hw=>Z.ext hw) U x0p U λa h=>z0c 6 h U y0o U λa h=>z4h 7 h U z9z U λa h=>z0k 8 h U (λ_ hw=>Z.ext hw) U x0p U λa h=>z0c 11 h U z7o U λa h=>z0k 12 h U (λ_ hw=>Z.ext hw) U z9x U λa h=>z0c 14 h U z4a U λa h=>?_;refine z4h 15 h U z5u U λa h=>z0k 16 h U (λ_ hw=>Z.ext hw) U y6m U λa h=>z0c 18 h U z4a U λa h=>z4h 19 h U y2u U λa h=>z0k 20 h U (λ_ hw=>Z.ext hw) U u2t U λa h=>z8g 21 hC h wn U underlying36 U λa h=>z0c 23 h U z4a U λa h=>z4h 24 h U z8r U λa h=>z0k 25 h U (λ_ hw=>Z.ext hw) U z4x U λa h=>z2d 5 22 (by kernel_rfl) U ?_ ?_;refine z0m h (z0a U z0f) j3j (y5f _ s.q.fs _ I.b.f I.b.fi D.bf D.f4) ?_;rintro _ w3 ⟨⟨e9,O,d7,gF,rfl⟩,q3⟩ a h;have z3:=q3.size;replace I:=I.ext q3;replace J:=J.ext q3;replace hC:=hC.next q3;have d6:∀x∈e9,∀k∈z0v (slv x.1),k<w3.heap.size:=λx hx k hk=>((O.2 x hx).blk k hk).2;refine z0b ?_;refine z2d 9 22 (by kernel_rfl) U ?_ ?_;refine z0m h (z0a U z0f) j3j (y5f _ s.q.bs _ I.b.b I.b.bi D.bb D.b4) ?_;rintro _ w4 ⟨⟨e1,M,d4,gB,rfl⟩,q4⟩ a h;have z4:=q4.size;replace I:=I.ext q4;replace J:=J.ext q4;replace O:=O.ext q4;replace hC:=hC.next q4;have d3:∀x∈e1,∀k∈z0v (slv x.1),k<w4.heap.size:=λx hx k hk=>((M.2 x hx).blk k hk).2;refine z0b ?_;refine z2y (cs:=[_,_]) 10 h (z0a U (z0a U z0f)) u3s (z0h U (z0h U z0q)) U U λa h=>z2d 13 22 (by kernel_rfl) U ?_ ?_;refine z0m h (z0a U z0f) (mkC func61) (y9t _ s.ys _ I.y I.ya (by have:=D.ly;omega) D.pe) ?_;rintro _ w5 ⟨⟨gy,ps,rfl,f1,hY,c1,c9⟩,q5⟩ a h;have z5:=q5.size;replace I:=I.ext q5;replace J:=J.ext q5;replace O:=O.ext q5;replace M:=M.ext q5;replace hC:=hC.next q5;refine z0b ?_;refine z2d 17 22 (by kernel_rfl) U ?_ ?_;refine z0m h (z0a U z0f) j3q (y4v _ s.fb.ts _ I.f.t I.f.tt (by have:=D.lt;omega) D.tb) ?_;rintro _ w6 ⟨⟨gt,us,rfl,e6,hT,a7,a6⟩,q6⟩ a h;have z6:=q6.size;replace I:=I.ext q6;replace J:=J.ext q6;replace O:=O.ext q6;replace M:=M.ext q6;replace hY:=hY.ext q6;replace hC:=hC.next q6;have a5:∀i,i<us.length->∀q∈(us.getD i tq0).2,∀k∈z0v (slv q.th),k<w6.heap.size:=λi hi q hq k hk=>((hT.lps i hi q hq).1.blk k hk).2;refine z0b ?_;refine z2d 22 26 (by kernel_rfl) U ?_ ?_;refine z4f (K:=138) (E:=3) crK h U underlying135 U λgm w7 e4 a2 q7 _hz a h=>?_;have z7:=q7.size;replace I:=I.ext q7;replace hC:=hC.next q7;clear _hz;refine z0b ?_;refine z0d 26 U ?_;refine z0m h (z0a U z0f) x2q (z3q _ s.fb.fs _ I.f.f D.fl) ?_;rintro _ w8 ⟨gf,rfl,e3,a3,q8⟩ a h;have z8:=q8.size;replace J:=J.ext (q7.n1 q8);replace hC:=hC.next q8;refine z0b ?_;refine z2y (cs:=[_,_,_,_,_,_,_]) 27 h (z0a U (z0a U (z0a U (z0a U (z0a U (z0a U z0f)))))) x8z (z0h U (z0h U (z0h U (z0h U (z0h U (z0h U z0q)))))) U U λa h=>z0d 28 U ?_;refine y5i h U U U λw9 a1 q9 hz a h=>?_;obtain⟨a0,hg⟩:∃g,g=w8.heap.size:=⟨_,rfl⟩;rw[<-hg]at a1 h hz;have a4:g1<a0:=by have:=J.lt;omega
 have z9:=q9.size;replace O:=O.ext (q7.n2 q8 q9);replace M:=M.ext (q7.n2 q8 q9);replace hY:=hY.ext (q7.n2 q8 q9);replace hT:=hT.ext (q7.n2 q8 q9);replace a2:=a2.ext (q8.n1 q9);replace a3:=a3.ext q9;replace hC:=hC.next q9;refine z0b ?_;refine z0d 29 U ?_;refine z0s h U λa h=>?_;refine z0b ?_;refine z0r ?_;clear hC b8 Z;refine bk (h.sub (L':=[(1,_),(3,_)]) (.c2 U U)) ?_;exact jE ((⟨a0,gy,6,gt,6,gm,_⟩:MA)) (.c2 U U) ⟨((q2.n6 q3 q4 q5 q6 q7 q8).n1 q9),(y7r a1 (O.low (by omega)) (M.low (by omega)) (y2e hY (by omega)) c1 c9 (y2d hT (by omega)) a7 a6 a2 (a3.low (by omega)) D.ly D.lt (((q1.n6 q2 q3 q4 q5 q6 q7).n1 q8).n1 q9) (by omega) (by omega) (λx hx hb=>by rcases List.mem_append.1 hx with k|k;have:=d6 x k _ hb;omega;have:=d3 x k _ hb;omega) (λi hi q hq hb=>by have:=a5 i (by have:=D.lt;omega) q hq _ hb;omega) d7 d4)⟩;refine z0m h (z0a U z0f) x2q (z3q _ s.fb.fs _ I.f.f D.fl) ?_;rintro _ i2 ⟨gf,rfl,e3,a3,d0⟩ a h;have k1:=d0.size;replace hC:=hC.next d0;refine z0b ?_;refine z0d 22 U ?_;refine z4f (K:=138) (E:=3) crK h U underlying135 U λgm g3 e4 a2 a8 _hz a h=>?_;have k2:=a8.size;replace J:=J.ext (d0.n1 a8);replace hC:=hC.next a8;clear _hz;refine z0b ?_;refine z2y (cs:=[_,_,_,_,_,_,_]) 27 h (z0a U (z0a U (z0a U (z0a U (z0a U (z0a U z0f)))))) x8z (z0h U (z0h U (z0h U (z0h U (z0h U (z0h U z0q)))))) U U λa h=>z0d 28 U ?_;refine y5i h U U U λi3 a1 a9 hz a h=>?_;obtain⟨a0,hg⟩:∃g,g=g3.heap.size:=⟨_,rfl⟩;rw[<-hg]at a1 h hz;have a4:g1<a0:=by have:=J.lt;omega
 have k3:=a9.size;replace O:=O.ext (d0.n2 a8 a9);replace M:=M.ext (d0.n2 a8 a9);replace hY:=hY.ext (d0.n2 a8 a9);replace hT:=hT.ext (d0.n2 a8 a9);replace a3:=a3.ext (a8.n1 a9);replace a2:=a2.ext a9;replace hC:=hC.next a9;refine z0b ?_;refine z0d 29 U ?_;refine z0s h U λa h=>?_;refine z0b ?_;refine z0r ?_;clear hC b8 Z;refine bk (h.sub (L':=[(1,_),(3,_)]) (.c2 U U)) ?_;exact jE ((⟨a0,gy,6,gt,6,gm,_⟩:MA)) (.c2 U U) ⟨((q2.n6 q3 q4 q5 q6 d0 a8).n1 a9),(y7r a1 (O.low (by omega)) (M.low (by omega)) (y2e hY (by omega)) c1 c9 (y2d hT (by omega)) a7 a6 a2 (a3.low (by omega)) D.ly D.lt (((q1.n6 q2 q3 q4 q5 q6 d0).n1 a8).n1 a9) (by omega) (by omega) (λx hx hb=>by rcases List.mem_append.1 hx with k|k;have:=d6 x k _ hb;omega;have:=d3 x k _ hb;omega) (λi hi q hq hb=>by have:=a5 i (by have:=D.lt;omega) q hq _ hb;omega) d7 d4)⟩;refine z4f (K:=138) (E:=3) crK h U underlying135 U λgm i4 e4 a2 d1 _hz a h=>?_;have k4:=d1.size;replace I:=I.ext d1;replace hC:=hC.next d1;clear _hz;refine z0b ?_;refine z0d 17 U ?_;refine z0m h (z0a U z0f) j3q (y4v _ s.fb.ts _ I.f.t I.f.tt (by have:=D.lt;omega) D.tb) ?_;rintro _ g4 ⟨⟨gt,us,rfl,e6,hT,a7,a6⟩,q14⟩ a h;have k5:=q14.size;replace I:=I.ext q14;replace hC:=hC.next q14;have a5:∀i,i<us.length->∀q∈(us.getD i tq0).2,∀k∈z0v (slv q.th),k<g4.heap.size:=λi hi q hq k hk=>((hT.lps i hi q hq).1.blk k hk).2;refine z0b ?_;refine z0d 26 U ?_;refine z0m h (z0a U z0f) x2q (z3q _ s.fb.fs _ I.f.f D.fl) ?_;rintro _ g6 ⟨gf,rfl,e3,a3,b0⟩ a h;have k6:=b0.size;replace J:=J.ext (d1.n2 q14 b0);replace hC:=hC.next b0;refine z0b ?_;refine z2y (cs:=[_,_,_,_,_,_,_]) 27 h (z0a U (z0a U (z0a U (z0a U (z0a U (z0a U z0f)))))) x8z (z0h U (z0h U (z0h U (z0h U (z0h U (z0h U z0q)))))) U U λa h=>z0d 28 U ?_;refine y5i h U U U λi5 a1 b1 hz a h=>?_;obtain⟨a0,hg⟩:∃g,g=g6.heap.size:=⟨_,rfl⟩;rw[<-hg]at a1 h hz;have a4:g1<a0:=by have:=J.lt;omega
 have k7:=b1.size;replace O:=O.ext (d1.n3 q14 b0 b1);replace M:=M.ext (d1.n3 q14 b0 b1);replace hY:=hY.ext (d1.n3 q14 b0 b1);replace a2:=a2.ext (q14.n2 b0 b1);replace hT:=hT.ext (b0.n1 b1);replace a3:=a3.ext b1;replace hC:=hC.next b1;refine z0b ?_;refine z0d 29 U ?_;refine z0s h U λa h=>?_;refine z0b ?_;refine z0r ?_;clear hC b8 Z;refine bk (h.sub (L':=[(1,_),(3,_)]) (.c2 U U)) ?_;exact jE ((⟨a0,gy,6,gt,6,gm,_⟩:MA)) (.c2 U U) ⟨((q2.n6 q3 q4 q5 d1 q14 b0).n1 b1),(y7r a1 (O.low (by omega)) (M.low (by omega)) (y2e hY (by omega)) c1 c9 (y2d hT (by omega)) a7 a6 a2 (a3.low (by omega)) D.ly D.lt (((q1.n6 q2 q3 q4 q5 d1 q14).n1 b0).n1 b1) (by omega) (by omega) (λx hx hb=>by rcases List.mem_append.1 hx with k|k;have:=d6 x k _ hb;omega;have:=d3 x k _ hb;omega) (λi hi q hq hb=>by have:=a5 i (by have:=D.lt;omega) q hq _ hb;omega) d7 d4)⟩;refine z4f (K:=138) (E:=3) crK h U underlying135 U λgm i7 e4 a2 d5 _hz a h=>?_;have k8:=d5.size;replace I:=I.ext d5;replace hC:=hC.next d5;clear _hz;refine z0b ?_;refine z0d 13 U ?_;refine z0m h (z0a U z0f) (mkC func61) (y9t _ s.ys _ I.y I.ya (by have:=D.ly;omega) D.pe) ?_;rintro _ i8 ⟨⟨gy,ps,rfl,f1,hY,c1,c9⟩,q18⟩ a h;have k9:=q18.size;replace I:=I.ext q18;replace hC:=hC.next q18;refine z0b ?_;refine z0d 17 U ?_;refine z0m h (z0a U z0f) j3q (y4v _ s.fb.ts _ I.f.t I.f.tt (by have:=D.lt;omega) D.tb) ?_;rintro _ g7 ⟨⟨gt,us,rfl,e6,hT,a7,a6⟩,q19⟩ a h;have l0:=q19.size;replace I:=I.ext q19;replace hC:=hC.next q19;have a5:∀i,i<us.length->∀q∈(us.getD i tq0).2,∀k∈z0v (slv q.th),k<g7.heap.size:=λi hi q hq k hk=>((hT.lps i hi q hq).1.blk k hk).2;refine z0b ?_;refine z0d 26 U ?_;refine z0m h (z0a U z0f) x2q (z3q _ s.fb.fs _ I.f.f D.fl) ?_;rintro _ g8 ⟨gf,rfl,e3,a3,b2⟩ a h;have l1:=b2.size;replace J:=J.ext (d5.n3 q18 q19 b2);replace hC:=hC.next b2;refine z0b ?_;refine z2y (cs:=[_,_,_,_,_,_,_]) 27 h (z0a U (z0a U (z0a U (z0a U (z0a U (z0a U z0f)))))) x8z (z0h U (z0h U (z0h U (z0h U (z0h U (z0h U z0q)))))) U U λa h=>z0d 28 U ?_;refine y5i h U U U λi9 a1 b3 hz a h=>?_;obtain⟨a0,hg⟩:∃g,g=g8.heap.size:=⟨_,rfl⟩;rw[<-hg]at a1 h hz;have a4:g1<a0:=by have:=J.lt;omega
 have l2:=b3.size;replace O:=O.ext (d5.n4 q18 q19 b2 b3);replace M:=M.ext (d5.n4 q18 q19 b2 b3);replace a2:=a2.ext (q18.n3 q19 b2 b3);replace hY:=hY.ext (q19.n2 b2 b3);replace hT:=hT.ext (b2.n1 b3);replace a3:=a3.ext b3;replace hC:=hC.next b3;refine z0b ?_;refine z0d 29 U ?_;refine z0s h U λa h=>?_;refine z0b ?_;refine z0r ?_;clear hC b8 Z;refine bk (h.sub (L':=[(1,_),(3,_)]) (.c2 U U)) ?_;exact jE ((⟨a0,gy,6,gt,6,gm,_⟩:MA)) (.c2 U U) ⟨((q2.n6 q3 q4 d5 q18 q19 b2).n1 b3),(y7r a1 (O.low (by omega)) (M.low (by omega)) (y2e hY (by omega)) c1 c9 (y2d hT (by omega)) a7 a6 a2 (a3.low (by omega)) D.ly D.lt (((q1.n6 q2 q3 q4 d5 q18 q19).n1 b2).n1 b3) (by omega) (by omega) (λx hx hb=>by rcases List.mem_append.1 hx with k|k;have:=d6 x k _ hb;omega;have:=d3 x k _ hb;omega) (λi hi q hq hb=>by have:=a5 i (by have:=D.lt;omega) q hq _ hb;omega) d7 d4)⟩;refine z4f (K:=138) (E:=3) crK h U underlying135 U λgm j0 e4 a2 d9 _hz a h=>?_;have l3:=d9.size;replace I:=I.ext d9;replace hC:=hC.next d9;clear _hz;refine z0b ?_;refine z0d 9 U ?_;refine z0m h (z0a U z0f) j3j (y5f _ s.q.bs _ I.b.b I.b.bi D.bb D.b4) ?_;rintro _ g9 ⟨⟨e1,M,d4,gB,rfl⟩,q23⟩ a h;have l4:=q23.size;replace I:=I.ext q23;replace hC:=hC.next q23;have d3:∀x∈e1,∀k∈z0v (slv x.1),k<g9.heap.size:=λx hx k hk=>((M.2 x hx).blk k hk).2;refine z0b ?_;refine z2y (cs:=[_,_]) 10 h (z0a U (z0a U z0f)) u3s (z0h U (z0h U z0q)) U U λa h=>z0d 13 U ?_;refine z0m h (z0a U z0f) (mkC func61) (y9t _ s.ys _ I.y I.ya (by have:=D.ly;omega) D.pe) ?_;rintro _ j1 ⟨⟨gy,ps,rfl,f1,hY,c1,c9⟩,q24⟩ a h;have l5:=q24.size;replace I:=I.ext q24;replace hC:=hC.next q24;refine z0b ?_;refine z0d 17 U ?_;refine z0m h (z0a U z0f) j3q (y4v _ s.fb.ts _ I.f.t I.f.tt (by have:=D.lt;omega) D.tb) ?_;rintro _ h0 ⟨⟨gt,us,rfl,e6,hT,a7,a6⟩,q25⟩ a h;have l6:=q25.size;replace I:=I.ext q25;replace hC:=hC.next q25;have a5:∀i,i<us.length->∀q∈(us.getD i tq0).2,∀k∈z0v (slv q.th),k<h0.heap.size:=λi hi q hq k hk=>((hT.lps i hi q hq).1.blk k hk).2;refine z0b ?_;refine z0d 26 U ?_;refine z0m h (z0a U z0f) x2q (z3q _ s.fb.fs _ I.f.f D.fl) ?_;rintro _ h1 ⟨gf,rfl,e3,a3,b4⟩ a h;have l7:=b4.size;replace J:=J.ext (d9.n4 q23 q24 q25 b4);replace hC:=hC.next b4;refine z0b ?_;refine z2y (cs:=[_,_,_,_,_,_,_]) 27 h (z0a U (z0a U (z0a U (z0a U (z0a U (z0a U z0f)))))) x8z (z0h U (z0h U (z0h U (z0h U (z0h U (z0h U z0q)))))) U U λa h=>z0d 28 U ?_;refine y5i h U U U λj2 a1 b5 hz a h=>?_;obtain⟨a0,hg⟩:∃g,g=h1.heap.size:=⟨_,rfl⟩;rw[<-hg]at a1 h hz;have a4:g1<a0:=by have:=J.lt;omega
 have l8:=b5.size;replace O:=O.ext (d9.n5 q23 q24 q25 b4 b5);replace a2:=a2.ext (q23.n4 q24 q25 b4 b5);replace M:=M.ext (q24.n3 q25 b4 b5);replace hY:=hY.ext (q25.n2 b4 b5);replace hT:=hT.ext (b4.n1 b5);replace a3:=a3.ext b5;replace hC:=hC.next b5;refine z0b ?_;refine z0d 29 U ?_;refine z0s h U λa h=>?_;refine z0b ?_;refine z0r ?_;clear hC b8 Z;refine bk (h.sub (L':=[(1,_),(3,_)]) (.c2 U U)) ?_;exact jE ((⟨a0,gy,6,gt,6,gm,_⟩:MA)) (.c2 U U) ⟨((q2.n6 q3 d9 q23 q24 q25 b4).n1 b5),(y7r a1 (O.low (by omega)) (M.low (by omega)) (y2e hY (by omega)) c1 c9 (y2d hT (by omega)) a7 a6 a2 (a3.low (by omega)) D.ly D.lt (((q1.n6 q2 q3 d9 q23 q24 q25).n1 b4).n1 b5) (by omega) (by omega) (λx hx hb=>by rcases List.mem_append.1 hx with k|k;have:=d6 x k _ hb;omega;have:=d3 x k _ hb;omega) (λi hi q hq hb=>by have:=a5 i (by have:=D.lt;omega) q hq _ hb;omega) d7 d4)⟩;refine z4f (K:=138) (E:=3) crK h U underlying135 U λgm j3 e4 a2 e0 _hz a h=>?_;have l9:=e0.size;replace I:=I.ext e0;replace hC:=hC.next e0;clear _hz;refine z0b ?_;refine z0d 5 U ?_;refine z0m h (z0a U z0f) j3j (y5f _ s.q.fs _ I.b.f I.b.fi D.bf D.f4) ?_;rintro _ h2 ⟨⟨e9,O,d7,gF,rfl⟩,q29⟩ a h;have m0:=q29.size;replace I:=I.ext q29;replace hC:=hC.next q29;have d6:∀x∈e9,∀k∈z0v (slv x.1),k<h2.heap.size:=λx hx k hk=>((O.2 x hx).blk k hk).2;refine z0b ?_;refine z0d 9 U ?_;refine z0m h (z0a U z0f) j3j (y5f _ s.q.bs _ I.b.b I.b.bi D.bb D.b4) ?_;rintro _ h3 ⟨⟨e1,M,d4,gB,rfl⟩,q30⟩ a h;have m1:=q30.size;replace I:=I.ext q30;replace hC:=hC.next q30;have d3:∀x∈e1,∀k∈z0v (slv x.1),k<h3.heap.size:=λx hx k hk=>((M.2 x hx).blk k hk).2;refine z0b ?_;refine z2y (cs:=[_,_]) 10 h (z0a U (z0a U z0f)) u3s (z0h U (z0h U z0q)) U U λa h=>z0d 13 U ?_;refine z0m h (z0a U z0f) (mkC func61) (y9t _ s.ys _ I.y I.ya (by have:=D.ly;omega) D.pe) ?_;rintro _ j4 ⟨⟨gy,ps,rfl,f1,hY,c1,c9⟩,q31⟩ a h;have m2:=q31.size;replace I:=I.ext q31;replace hC:=hC.next q31;refine z0b ?_;refine z0d 17 U ?_;refine z0m h (z0a U z0f) j3q (y4v _ s.fb.ts _ I.f.t I.f.tt (by have:=D.lt;omega) D.tb) ?_;rintro _ h4 ⟨⟨gt,us,rfl,e6,hT,a7,a6⟩,q32⟩ a h;have m3:=q32.size;replace I:=I.ext q32;replace hC:=hC.next q32;have a5:∀i,i<us.length->∀q∈(us.getD i tq0).2,∀k∈z0v (slv q.th),k<h4.heap.size:=λi hi q hq k hk=>((hT.lps i hi q hq).1.blk k hk).2;refine z0b ?_;refine z0d 26 U ?_;refine z0m h (z0a U z0f) x2q (z3q _ s.fb.fs _ I.f.f D.fl) ?_;rintro _ h5 ⟨gf,rfl,e3,a3,b6⟩ a h;have m4:=b6.size;replace J:=J.ext (e0.n5 q29 q30 q31 q32 b6);replace hC:=hC.next b6;refine z0b ?_;refine z2y (cs:=[_,_,_,_,_,_,_]) 27 h (z0a U (z0a U (z0a U (z0a U (z0a U (z0a U z0f)))))) x8z (z0h U (z0h U (z0h U (z0h U (z0h U (z0h U z0q)))))) U U λa h=>z0d 28 U ?_;refine y5i h U U U λj5 a1 b7 hz a h=>?_;obtain⟨a0,hg⟩:∃g,g=h5.heap.size:=⟨_,rfl⟩;rw[<-hg]at a1 h hz;have a4:g1<a0:=by have:=J.lt;omega
 have m5:=b7.size;replace a2:=a2.ext (q29.n5 q30 q31 q32 b6 b7);replace O:=O.ext (q30.n4 q31 q32 b6 b7);replace M:=M.ext (q31.n3 q32 b6 b7);replace hY:=hY.ext (q32.n2 b6 b7);replace hT:=hT.ext (b6.n1 b7);replace a3:=a3.ext b7;replace hC:=hC.next b7;refine z0b ?_;refine z0d 29 U ?_;refine z0s h U λa h=>?_;refine z0b ?_;refine z0r ?_;clear hC b8 Z;refine bk (h.sub (L':=[(1,_),(3,_)]) (.c2 U U)) ?_;exact jE ((⟨a0,gy,6,gt,6,gm,_⟩:MA)) (.c2 U U) ⟨((q2.n6 e0 q29 q30 q31 q32 b6).n1 b7),(y7r a1 (O.low (by omega)) (M.low (by omega)) (y2e hY (by omega)) c1 c9 (y2d hT (by omega)) a7 a6 a2 (a3.low (by omega)) D.ly D.lt (((q1.n6 q2 e0 q29 q30 q31 q32).n1 b6).n1 b7) (by omega) (by omega) (λx hx hb=>by rcases List.mem_append.1 hx with k|k;have:=d6 x k _ hb;omega;have:=d3 x k _ hb;omega) (λi hi q hq hb=>by have:=a5 i (by have:=D.lt;omega) q hq _ hb;omega) d7 d4)⟩;rintro ka j6 ⟨f6,⟨m,hM,e5⟩⟩;have m6:=f6.size;have f2:=hM;refine kpC [(1,_),(3,.pointer (some ⟨ka.gk,0,none⟩))] (.c2 U U) (sq (sr (fad U z4a (z9b U y2u ?_))));replace J:=J.ext f6;refine z0g U J U u2t (lnS U underlying36 (mv U (nn (bl ?_))));refine lpK (ι:=Nat) [(3,_),(37,_),(38,_)] (λi=>[(39,.int .i64 (i:Int))]) (λi w'=>i<=s.fb.cs.length/\(∃m:MQ,m.p=(⟨s.rk,⟨trimB (plB s.q.fs),trimB (plB s.q.bs)⟩,s.ys.map YQ.p,z1w s.fb.ts,s.fb.cs.take i,s.fb.fs⟩:MSt)/\MkM τd 137 w0 ka w' m)) (λi=>s.fb.cs.length-i) 0 (.c4 U U U U) ⟨Nat.zero_le _,⟨m,e5,hM⟩⟩ ?_;rintro i j7 ⟨hi,⟨m,e5,hM⟩⟩;have f2:=hM;refine kpC [(3,_),(37,_),(38,_),(39,_)] (.c4 U U U U) ?_;have hk:=hM.k;have i1:=hk.lt;refine sr (lt' U (nn (sq (cd U (λc0=>?_) (λc0=>?_)))));refine sk (tn (sq (bl (sr (z0y (cx0) U (f0.f.c.ext hM.fr.fr) U v7b z1e (λh6 f4=>?_))))));refine z1k U (f4 _ (f0.f.c.ext hM.fr.fr)) x5m (al v3b U (λg5 j8 i0 e2 f7 m7=>(z0j (vs:=[_,_,_,_,_]) U e2 u9h (λj9 e2 f8 m8=>(nn ?_)))));replace hM:=f2.ext (f7.z1 f8);replace hk:=(hk.ext f7).fr f8;intro a h;refine z0i (some 11) (λwb w'=>Fr [] wb w') z2r ?_;intro f9 e7;have m9:=e7.size;replace hM:=hM.ext e7;replace hk:=hk.ext e7;replace e2:=e2.ext e7;have hC:Fr [] f9 f9:=Fr.refl _ _;have f3:=hM;have e8:=hk;have b9:=e2;refine z0e 0 h U λa h=>z0o 1 h U λa h=>z0c 2 h U y2l U λa h=>z0k 3 h U (λ_ hw=>e8.ext hw) U v0c U λa h=>z0c 4 h U y1q U λa h=>z1d (vs:=[_,_]) 5 h U (λ_ hw=>(b9.ext hw)) z3j U U λa h=>z0c 6 h U y2i U λa h=>z1d (vs:=[_,_]) 7 h U (λ_ hw=>(b9.ext hw)) z3j U U λa h=>z2y (cs:=[_,_,_,_]) 8 h (z0a U (z0a U z0f)) u7k (z0h U (z0h U z0q)) U U λa h=>z0c 9 h U y4i U λa h=>z0k 10 h U (λ_ hw=>b9.ext hw) U na3 U λa h=>?_;refine z0d 11 U ?_;refine y7b (V:=crK) (k:=cxK (s.fb.cs.getD i cx0)) (v:=.int .i64 (s.fb.cs.getD i cx0).n) h U U U hM.c x6z underlying135 λk0 f5 hq _hz a h=>?_;rw[show m.cr=s.fb.cs.take i from congrArg MSt.cr e5]at f5;replace hM:=hM.cross (l:=s.fb.cs.take (i+1)) (by rw[<-v9n g0 (by omega)];exact f5) hq;refine z1p ?_;refine z0r ?_;clear hC f3 e8 b9;refine bk (h.sub (L':=[(3,_),(37,_),(38,_),(39,_)]) (.c4 U U U U)) (bn' (tn (rg (z0w U (wi6 (by omega)) (mv U (nl ?_))))));exact lpE (i+1) (.c4 U U U U) ⟨by omega,⟨{ m with cr:=s.fb.cs.take (i+1) },by rw[show ({ m with cr:=s.fb.cs.take (i+1) }:MQ).p={ m.p with cr:=s.fb.cs.take (i+1) } from U,e5],hM⟩⟩ (by omega);obtain rfl:i=s.fb.cs.length:=by omega
 refine ex (te (te (xh (tn (sr (mv U (asg U (kpL [(2,_)] (.cons U .nil) (nn (rt (r1 results25 U ?_)))))))))));exact⟨_,rfl,ka,m,rfl,hM,by rw[e5,List.take_length]⟩
theorem j6t (v:Value)(l:List Int)(w0:World)(J:Sl Enc.i64 w0 v l)(hl:l.length<=1000):Rets prog 121 #[v] w0 λr w'=>r=.int .i64 (orZ l)/\w'=w0:=by
 obtain⟨A,c,rfl,a0,hM,hA⟩:=id J;clear hA;unfold maxLen at hM;refine we [(0,.slice A l.length c)] func121 U ntmps121 U (.cons U .nil) ?_;have M:=J;refine sr (asg U (nn (sr (asg U (nn (sq (sr (mv U (lnS U underlying85 (mv U (nn (bl ?_))))))))))));refine lpK (ι:=Nat) [(3,_),(6,_),(7,_)] (λi=>[(8,.int .i64 (i:Int))]) (λi w'=>Fr [] w0 w'/\i<=l.length/\(∀j,j<i->l.getD j 0=0)/\w'=w0) (λi=>l.length-i) 0 (.c4 U U U U) ⟨Fr.refl _ _,⟨Nat.zero_le _,⟨λj h=>absurd h (by omega),rfl⟩⟩⟩ ?_;rintro i w1 ⟨q1,⟨hi,⟨O,D⟩⟩⟩;refine kpC [(3,_),(6,_),(7,_),(8,_)] (.c4 U U U U) (sr (lt' U (nn (sq (cd U (λc0=>?_) (λc0=>?_))))));refine sk (tn (sq (bl (sr ?_))));replace J:=M.ext q1;refine z0y (0) U J U y6a z1e (λZ I=>?_);refine z1g U (I _ J) na3 (asg U (nn (sr (mv U (mv U (ne' U (nn (cd U (λc1=>?_) (λc1=>?_)))))))));refine sr (mv U (asg U (kpL [(2,_)] (.cons U .nil) (nn (rt (rb (tr (tr (rb (tr (r1 results121 U ?_)))))))))));exact⟨_,rfl,congrArg (Value.int .i64) (v4o (by omega) O (by omega)).symm,D⟩;refine sk (bn' (tn (rg (z0w U (wi6 (by omega)) (mv U (nl ?_))))));exact lpE (i+1) (.c4 U U U U) ⟨q1,⟨by omega,⟨λj h=>by
  by_cases e:j=i;subst e;omega;exact O j (by omega),D⟩⟩⟩ (by omega)
 obtain rfl:i=l.length:=by omega
 refine ex (te (te (xh (tn (sr (mv U (asg U (kpL [(2,_)] (.cons U .nil) (nn (rt (r1 results121 U ?_)))))))))));exact⟨_,rfl,congrArg (Value.int .i64) (y9m O).symm,D⟩
theorem nanD (x:Int)(W:World):Calls prog 165 #[.int .i64 x] W λe w'=>e=.returned (.bool false)/\w'=W:=by
 go_enter func165,ntmps165;go_wp2;go_ret;exact⟨by simp,rfl⟩
theorem j5t (x:Int)(W:World):Calls prog 164 #[.int .u8 x] W λe w'=>e=.returned (.bool false)/\w'=W:=by
 go_enter func164,ntmps164;go_wp2;go_ret;exact⟨by simp,rfl⟩
set_option maxHeartbeats 1000000 in
theorem cmpD (x y:Int)(W:World):Calls prog 123 #[.int .i64 x,.int .i64 y] W λe w'=>e=.returned (.int .i64 (z9w x y))/\w'=W:=by
 go_enter func123,ntmps123
 go_wp2_with (go_at_call 165;refine(nanD _ _).mono ?_;rintro e w' ⟨rfl,D⟩;rw[D])
 all_goals (go_ret;refine⟨?_,rfl⟩;unfold z9w;(repeat' split)<;>first|rfl|(exfalso;omega))
set_option maxHeartbeats 1000000 in
theorem j6g (x y:Int)(W:World):Calls prog 122 #[.int .u8 x,.int .u8 y] W λe w'=>e=.returned (.int .i64 (z9w x y))/\w'=W:=by
 go_enter func122,ntmps122
 go_wp2_with (go_at_call 164;refine(j5t _ _).mono ?_;rintro e w' ⟨rfl,D⟩;rw[D])
 all_goals (go_ret;refine⟨?_,rfl⟩;unfold z9w;(repeat' split)<;>first|rfl|(exfalso;omega))
theorem orD (b T:Nat)(x y:Int)(W:World)(D:W.heap[b]?=some (.cells #[.int .i64 x,.int .i64 y] T (0,0))):Calls prog 121 #[.slice (some ⟨b,0,none⟩) 2 2] W λe w'=>e=.returned (.int .i64 (orZ [x,y]))/\w'=W:=
 Calls.mono (j6t _ _ W (j2t D) (by simp)) (by rintro e w' ⟨r,rfl,rfl,h⟩;exact⟨rfl,h⟩)
set_option maxHeartbeats 4000000 in
theorem u7s (x y:LId)(W:World):Calls prog 74 #[.agg #[.int .u8 x.y,.int .i64 x.n],.agg #[.int .u8 y.y,.int .i64 y.n]] W λe w'=>e=.returned (.int .i64 (z6o x y))/\DG W w':=by
 rw[<-x5v x y]
 go_enter func74,ntmps74
 go_wp2
 go_region_held3 (λw'=>w'.cell? ⟨W.heap.size,0,none⟩=some (.int .u8 x.y)/\w'.cell? ⟨W.heap.size,1,none⟩=some (.int .i64 x.n)/\w'.cell? ⟨W.heap.size+1,0,none⟩=some (.int .u8 y.y)/\w'.cell? ⟨W.heap.size+1,1,none⟩=some (.int .i64 y.n)) (go_keep)
  (first|(go_at_call 122;refine(j6g _ _ _).mono ?_;rintro e w' ⟨rfl,rfl⟩)|(go_at_call 123;refine(cmpD _ _ _).mono ?_;rintro e w' ⟨rfl,rfl⟩)|(go_at_call 121;refine(orD _ 3 (z9w x.y y.y) (z9w x.n y.n) _ (v0y _ _ _ (by simp))).mono ?_;rintro e w' ⟨rfl,rfl⟩)|(go_at_call 121;refine(orD _ 3 (z9w x.y y.y) (z9w x.n y.n) _ (j6u _ _ _ (by simp))).mono ?_;rintro e w' ⟨rfl,rfl⟩))
 all_goals go_wp2
 all_goals go_ret
 all_goals refine⟨rfl,?_⟩
 all_goals repeat first|exact DG.refl _|refine DG.drew ?_|refine DG.alloc ?_ _
end Go.Proofs.YtpgdchkdlgkmgaaGreatDoor
