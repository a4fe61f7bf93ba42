/- Texts of the proof, joined. -/
import Derived.Test.YtkafbfjmcigaiaaGreatDoorHB2
set_option linter.unusedVariables false
set_option linter.unusedSimpArgs false
set_option maxHeartbeats 4000000
namespace Go.Proofs.YtkafbfjmcigaiaaGreatDoor
open Go.Lw Go.G21 Go.G08 _root_.Go.Proofs.Tryz
theorem y4d:ElemOf prog 25 32 z7a 24:=ElemOf.mk' (z:=(.slice none 0 0)) underlying25 kr U
theorem k8r (w:World):(zeroValue 32).run prog w=.ok (.slice none 0 0) w:=kr
theorem x1j (v:Value)(l:List LId)(w0:World)(I:Sl z1h w0 v l)(hl:l.length<=100000):Rets prog 27 #[v] w0 λr w'=>∃g,r=.slice (saa g) l.length l.length/\w0.heap.size<=g/\Lw.Own z1h 54 w0.heap.size w' r l/\Fr [] w0 w':=by
 obtain⟨A,c,rfl,a0,hM,hA⟩:=id I;clear hA;unfold maxLen at hM;refine wf func27 U ?_;have O:=I;refine sr<|asg U<|nn<|sr<|mv U<|lnS U<|z1g (m:=l.length) (c:=l.length) (id0) U z4m z9l U<|λg6 w1 a1 D Z z1=>(asg U<|nn<|sr<|mv U<|mv U ?_);have I:=O.ext Z;refine z9p (zs:=List.replicate l.length id0) t35 U (by rw[l22];exact D) I t36 z4m<|λw2 D q2 z2=>?_;rw[l22]at D;exact nn<|sr<|mv U<|asg U<|nn<|rt<|r1 U ⟨_,rfl,g6,rfl,oo,D.low oo,(Z.z1 q2)⟩
theorem k0r (v:Value)(l:List IQ)(w0:World)(I:Sl z7a w0 v l)(hl:l.length<=100000):Rets prog 213 #[v] w0 λr w'=>∃g,r=.slice (saa g) l.length l.length/\w0.heap.size<=g/\Lw.Own z7a 32 w0.heap.size w' r l/\Fr [] w0 w':=by
 obtain⟨A,c,rfl,a0,hM,hA⟩:=id I;clear hA;unfold maxLen at hM;refine wf func213 U ?_;have O:=I;refine sr<|asg U<|nn<|sr<|mv U<|lnS U<|z1g (m:=l.length) (c:=l.length) (iq0) U y4d k8r U<|λg6 w1 a1 D Z z1=>(asg U<|nn<|sr<|mv U<|mv U ?_);have I:=O.ext Z;refine z9p (zs:=List.replicate l.length iq0) t35 U (by rw[l22];exact D) I t36 y4d<|λw2 D q2 z2=>?_;rw[l22]at D;exact nn<|sr<|mv U<|asg U<|nn<|rt<|r1 U ⟨_,rfl,g6,rfl,oo,D.low oo,(Z.z1 q2)⟩
theorem x1u (v:Value)(qs:List IQ)(w0:World)(Z:Sl z7a w0 v qs)(hk:IqAt w0 qs):Rets prog 81 #[v] w0 λr w'=>∃n:Nat,r=.int .i64 (n:Int)/\n<=qs.length/\(plB qs).take n=z1x (plB qs)/\Fr [] w0 w':=by
 obtain⟨A,c,rfl,a3,hM,hA⟩:=id Z;clear hA;unfold maxLen at hM;refine wf func81 U ?_;have a1:=Z;have a0:=hk;refine sr<|asg U<|nn<|sr<|mv U<|lnS U<|asg U<|nn<|sq<|bl<|lpK (ι:=Nat) (ll1 0) (λn=>[(3,.int .i64 (n:Int))]) (λn w'=>Fr [] w0 w'/\n<=qs.length/\∀j,n<=j->(qs.getD j iq0).2=[]) (λn=>n) qs.length U ⟨l12 _ _,⟨l20 _,λj hj=>x7c hj⟩⟩ ?_;rintro n w1 ⟨q1,⟨hn,I⟩⟩;refine kpC (ll2 0 3) U ?_;have O:=z2f<|z1y a0<|n-1;refine sq<|sq<|rbo (r:=16) (L':=ll2 0 3) (((0<(n:Int))/\(((qs.getD (n-1) iq0).1.2.1:Int)=0))) U ?_ ?_;refine mv U<|gt' U<|mv U<|gs 8 U (λg0=>?_)<|λg0=>?_;refine gY U<|mv U<|gY U<|mv U<|gY U<|z2i U (wi6 oo)<|gY U ?_;have Z:=a1.ext q1;refine z1a (p:=n-1) (iq0) U Z U y4d oo<|λa2 D=>?_;exact gY U<|z1c U (D _ Z) z6k<|gY U<|lnS U<|gY U<|eq' U<|pkt U<|rbe U<|U;exact gN U<|gN U<|gN U<|gN U<|gN U<|gN U<|gN U<|pkf U<|rbe U<|U;refine tn<|cd U (λc0=>?_)<|λc0=>?_;refine sk<|tn<|bl<|rg<|mv U<|z2i U (wi6 oo)<|asg U<|nl<|bn' ?_;exact lpE (n-1) (.c2 U<|congrArg (λz=>some<|Value.int .i64 z) (show (n:Int)-1=((n-1:Nat):Int) by omega)) ⟨q1,⟨oo,λj hj=>by
  by_cases e:n<=j;exact I j e;obtain rfl:j=n-1:=by omega
  exact l82 oo⟩⟩ oo
 refine ex<|te<|te<|xh<|tn<|sr<|mv U<|asg U<|nn<|rt<|r1 U ?_;exact⟨_,rfl,n,rfl,hn,y4p _ _ (by rw[l18];exact hn) (λj hj=>by rw[z3q];exact I j hj) (by
  by_cases e:n=0;exact .inl e;refine .inr λh=>c0 ⟨oo,?_⟩;rw[z3q]at h;rw[h]at O;rw[O];rfl),q1⟩
theorem v2t (v u:Value)(qs:List IQ)(n:Nat)(s:List LId)(w0:World)(hs:Sl z7a w0 v qs)(hk:IqAt w0 qs)(hu:Sl z1h w0 u s)(hl:qs.length<=40)(hn:n<=40)(h4:z9v qs)(b8:s.length<=4):Rets prog 192 #[v,.int .i64 (n:Int),u] w0 λr w'=>(∃fs,RwO 32 54 w0.heap.size w' r fs/\plB fs=y9a (plB qs) n s/\∃g,r=.slice (saa g) fs.length fs.length)/\Fr [] w0 w':=by
 obtain⟨A,c,rfl,d4,hM,hA⟩:=id hs;clear hA;unfold maxLen at hM;obtain⟨B,e,rfl,d5⟩:=id hu.form;obtain⟨M,a6⟩:∃M,M=max qs.length n:=⟨_,rfl⟩;have b3:max (qs.length:Int) (n:Int)=(M:Int):=by omega
 refine wf func192 U ?_;have b7:=hs;have a8:=hk;have b9:=hu;refine sr<|asg U<|nn<|sr<|mv U<|lnS U<|mv U<|k9t U U U ?_;rw[b3];refine z1g (m:=M) (c:=M) (iq0) U y4d k8r U<|λa0 w1 d0 O q1 z1=>(asg U<|nn<|sr<|mv U<|mv U ?_);have hs:=b7.ext q1;refine j8r (p:=0) (k:=qs.length) (m:=M) (cap:=M) (by rw[Nat.zero_mul,z5r];rfl) U O hs (l16 _) oo y4d U<|λw2 O q2 z2=>?_;replace O:Lw.Own z7a 32 a0 w2 (.slice (saa a0) M M) (qs++List.replicate (M-qs.length) iq0):=by simpa using O
 refine nn<|jn (ι:=List IQ) (ll1 7) (λp=>[]) (λp w'=>Fr [a0] w2 w'/\Lw.Own z7a 32 w0.heap.size w' (.slice (saa a0) M M) p/\plB p=(if n=0 then plB qs else (x8d (plB qs) n).set (n-1) s)/\IqAt w' p/\z9v p) U ?_ ?_;refine sr<|mv U<|gt' U<|nn<|cd U (λc0=>?_)<|λc0=>?_;refine rg<|mv U<|mv U<|z2i U (wi6 oo)<|mv U<|z6a (p:=n-1) (E:=z7a) U y4d<|z3t (i:=n-1) ((((B,s.length,e),s):IQ)) U O (by rw[l13,l22];omega) U j1w<|λw3 O q3 z3=>?_;refine kpL (ll1 7) U<|nl ?_;have hk:=a8.ext<|q1.z2 q2 q3;have hu:=b9.ext<|q1.z2 q2 q3;exact jE (_) U ⟨((l12 [a0] _).z1 q3),⟨O.low oo,j9v oo a6,u6o (v2y hk) hu,j0x (v2b h4) b8⟩⟩;refine sk ?_;have hk:=a8.ext<|q1.z1 q2;exact jE (_) U ⟨(l12 _ _),⟨O.low oo,u7i oo a6,v2y hk,v2b h4⟩⟩;rintro rs w4 ⟨q4,⟨O,a9,a3,b6⟩⟩;have z4:=q4.size;have b0:=a3;refine kpC (ll1 7) U ?_;have d9:rs.length=M:=by have:=congrArg List.length a9;split at this<;>simp only[plB,l18,l19,x2q]at this<;>omega
 refine sr<|mv U<|mv U<|cl (ev1 U) cO (x1u _ rs _ O.sl a3) ?_;rintro _ w5 ⟨m,rfl,b4,b5,q5⟩;have z5:=q5.size;obtain⟨ls,I⟩:∃x,x=rs.take m:=⟨_,rfl⟩;refine v2p (p:=m) U U y4d U ?_;have O:=O.ext q5;refine cl (ev1 U) cO (k0r _ ls _ (by rw[I];exact O.sl.take U b4 oo t40<|λ_=>rfl) (by rw[I,l27];omega)) ?_;rintro _ w6 ⟨D,rfl,d1,Z,q6⟩;have z6:=q6.size;have d7:ls.length<=40:=by rw[I,l27];omega
 have b2:z9v ls:=λq hq=>b6 q<|l98 (I▸hq);have d6:=(Z.blk D t10).2;refine asg U<|nn<|sq<|sr<|mv U<|lnS U<|mv U<|nn<|bl<|lpK (ι:=Nat×List IQ) (ll3 7 30 31) (λp=>[(32,.int .i64 (p.1:Int))]) (λp w'=>Fr [D] w6 w'/\p.1<=ls.length/\Lw.Own z7a 32 w0.heap.size w' (.slice (saa D) ls.length ls.length) p.2/\plB p.2=plB ls/\(∀j,p.1<=j->p.2.getD j iq0=ls.getD j iq0)/\PreO 54 (D+1) w' p.2 p.1) (λp=>ls.length-p.1) (0,ls) U ⟨l12 _ _,⟨l16 _,Z.low oo,rfl,λ_ _=>rfl,PreO.zero⟩⟩ ?_;rintro⟨i,ps⟩ w7 ⟨q7,⟨hi,Z,a2,a5,a1⟩⟩;simp only at hi Z a2 a5 a1;have z7:=q7.size;refine kpC [(7,_),(30,_),(31,_),(32,.int .i64 (i:Int))] U ?_;have a4:ps.length=ls.length:=by have:=congrArg List.length a2;simpa using this
 refine sr<|lt' U<|nn<|sq<|cd U (λc1=>?_)<|λc1=>?_;refine sk<|tn<|sq<|bl<|sr<|mv U<|z1a (iq0) U Z.sl U y4d z1j<|λc9 a7=>?_;refine z1c U (a7 _ Z.sl) z6k<|asg U<|asg U<|nn<|rg<|mv U<|mv U<|mv U ?_;have a3:=b0.ext<|q5.z2 q6 q7;refine cl (ev1 U) cO (x1j _ (ps.getD i iq0).2 _ (by rw[a5 i (l20 _)];exact z1y (y6r I a3) i) (by have:=z4a (j5z b2 a2) i;omega)) ?_;rintro _ w8 ⟨b1,rfl,d3,hX,q8⟩;have z8:=q8.size;have Z:=Z.ext q8;refine z6a (p:=i) (E:=z7a) U y4d<|z3t (i:=i) ((((some ⟨b1,0,none⟩,(ps.getD i iq0).2.length,(ps.getD i iq0).2.length),(ps.getD i iq0).2):IQ)) U Z oo U j1w<|λw9 Z q9 z9=>(kpL (ll4 7 30 31 32) U<|nl<|bn'<|tn<|rg<|ad6 U<|mv U<|nl ?_);have a1:=(a1.ext q8).fr q9 t38;have hX:=hX.fr q9 t11;exact lpE ((i+1,_)) U ⟨((l12 [D] _).z3 q7 q8 q9),⟨sm,Z,(j5a (by rfl)).trans a2,u5s a5 oo,a1.put oo<|hX.low oo⟩⟩ sm;obtain rfl:i=ls.length:=by omega
 exact ex<|te<|te<|xh<|tn<|sr<|mv U<|asg U<|kpL (ll1 6) U<|nn<|rt<|r1 U ⟨_,rfl,⟨ps,⟨Z,(a4▸a1).all oo⟩,a2.trans<|j7m I b5 a9,D,by rw[a4]⟩,(q1.z5 q2 q4 q5 q6 q7)⟩
theorem z4y:z4f prog 27 2:=⟨λ_=>kr,λ_=>kr⟩
theorem k1u:BuildAt prog 27 [(0,1),(1,1)] [(.slice none 0 0),(.slice none 0 0)]:=BuildAt.struct underlying27 (λ_=>kr)<|λ_=>kr
theorem y5d:z1e prog 27 0 0:=λ_ _=>kr
theorem y1o:z1e prog 27 1 1:=λ_ _=>kr
theorem x4d:z2e prog 25:=λ_=>kr
theorem x1s:z1s prog 27 2:=λ_=>kr
theorem x9w (w:World):(zeroValue 27).run prog w=.ok (.agg #[(.slice none 0 0),(.slice none 0 0)]) w:=kr
theorem y8d (q:BdQ)(b:Int)(n:Nat)(u:Value)(s:List LId)(w0:World)(hB:BdAt w0 q)(hu:Sl z1h w0 u s)(hn:z3m b (n:Int)=0)(hf:q.fs.length<=40)(hb:q.bs.length<=40)(h4:z9v q.fs)(b4:z9v q.bs)(c1:s.length<=4):Rets prog 149 #[bvv q,.agg #[.int .u8 b,.int .i64 (n:Int)],u] w0 λr w'=>(∃q':BdQ,r=.agg (bdL q').toArray/\BdO 32 54 w0.heap.size w' q'/\q'.p=q.p.put b (n:Int) s)/\Fr [] w0 w':=by
 have d6:=z2t hn;obtain⟨Us,e,rfl,d7⟩:=id hu.form;refine wf func149 U ?_;have b5:=hB;have c9:=hu;refine sr<|bx U<|λg3 w1 d9 Z q1 z1=>(bx U<|λg4 w2 e0 I q2 z2=>(al x9w U<|λg6 w3 e3 D q3 z3=>(nn<|sq<|sr<|fad U z7e ?_)));have I:=I.ext q3;refine z0i U I U x9t<|eq' U<|nn<|cd U (λc0=>?_)<|λc0=>?_;refine sq ?_;have hB:=b5.ext<|q1.n2 q2 q3;have hu:=c9.ext<|q1.n2 q2 q3;intro a h;refine rgh (some 10) (Fr []) ?_;intro w4 q4 hC;have z4:=q4.size;have hB:=hB.ext q4;have hu:=hu.ext q4;have Z:=Z.ext<|q2.n2 q3 q4;have I:=I.ext q4;have D:=D.ext q4;have a9:=hB;have b3:=hu;have O:=Z;have a0:=I;have a3:=D;refine z0c 0 h U y5d U λa h=>z0m 1 h U (fx O.ext) U x4d U λa h=>z0c 2 h U z7d U λa h=>z0m 3 h U (fx a0.ext) U na3 U λa h=>z0e 4 h U λa h=>z0c 6 h U y1o U λa h=>z0m 7 h U (fx O.ext) U x4d U λa h=>z0d 5 U<|z0n h (z0a U<|z0a U<|z0a U z0f) cO (v2t _ _ q.fs n s _ hB.f hB.fi hu oo oo h4 c1) ?_;rintro _ w5 ⟨⟨a5,a1,b6,d0,rfl⟩,q5⟩ a h;have z5:=q5.size;have hB:=hB.ext q5;have hC:=hC.next q5;refine z0b<|z0d 8 U<|z0n h (z0a U<|z0a U<|z0a U z0f) cO (v2t _ _ q.bs 0 [] _ hB.b hB.bi (Sl.nil _) oo oo b4<|l16 _) ?_;rintro _ w6 ⟨⟨a6,b0,b7,d1,rfl⟩,q6⟩ a h;have z6:=q6.size;have Z:=Z.ext<|q5.n1 q6;have I:=I.ext<|q5.n1 q6;have D:=D.ext<|q5.n1 q6;have a1:=a1.ext q6;have hC:=hC.next q6;refine z0b<|z3j (cs:=[_,_]) 9 h (z0a U<|z0a U z0f) k1u (z0g U<|z0g U z0r) U U λa h=>z0d 10 U ?_;refine z0t h U D U x1s λw7 b2 q7 hz a h=>?_;have z7:=q7.size;have Z:=Z.fr q7;have I:=I.fr q7;have a1:=a1.fr q7 t38;have b0:=b0.fr q7 t38;have D:Blk w7 g6 _ [_,_]:=b2;clear b2;refine z1m<|z0q ?_;clear hC a9 b3 O a0 a3;exact xB (ll1 6) h U<|tn<|rt<|tr<|rC U U D z4y<|⟨_,rfl,⟨⟨(some ⟨d0,0,none⟩,a5.length,a5.length),(some ⟨d1,0,none⟩,a6.length,a6.length),a5,a6⟩,rfl,⟨a1.low oo,b0.low oo⟩,by rw[<-q0j q.p n s oo,<-b6,<-b7]⟩,(q1.z6 q2 q3 q4 q5 q6 q7)⟩;refine sk<|tn<|sq ?_;have hB:=b5.ext<|q1.n2 q2 q3;have hu:=c9.ext<|q1.n2 q2 q3;intro a h;refine rgh (some 10) (Fr []) ?_;intro w8 q8 hC;have z8:=q8.size;have hB:=hB.ext q8;have hu:=hu.ext q8;have Z:=Z.ext<|q2.n2 q3 q8;have I:=I.ext q8;have D:=D.ext q8;have a9:=hB;have b3:=hu;have O:=Z;have a0:=I;have a3:=D;refine z0c 0 h U y5d U λa h=>z0m 1 h U (fx O.ext) U x4d U λa h=>z0c 3 h U y1o U λa h=>z0m 4 h U (fx O.ext) U x4d U λa h=>z0c 5 h U z7d U λa h=>z0m 6 h U (fx a0.ext) U na3 U λa h=>z0e 7 h U λa h=>z0d 2 U<|z0n h (z0a U<|z0a U<|z0a U z0f) cO (v2t _ _ q.fs 0 [] _ hB.f hB.fi (Sl.nil _) oo oo h4<|l16 _) ?_;rintro _ w9 ⟨⟨a7,a2,b8,d3,rfl⟩,q9⟩ a h;have z9:=q9.size;have hB:=hB.ext q9;have hu:=hu.ext q9;have hC:=hC.next q9;refine z0b<|z0d 8 U<|z0n h (z0a U<|z0a U<|z0a U z0f) cO (v2t _ _ q.bs n s _ hB.b hB.bi hu oo oo b4 c1) ?_;rintro _ e4 ⟨⟨a8,b1,b9,d4,rfl⟩,q10⟩ a h;have e5:=q10.size;have Z:=Z.ext<|q9.n1 q10;have I:=I.ext<|q9.n1 q10;have D:=D.ext<|q9.n1 q10;have a2:=a2.ext q10;have hC:=hC.next q10;refine z0b<|z3j (cs:=[_,_]) 9 h (z0a U<|z0a U z0f) k1u (z0g U<|z0g U z0r) U U λa h=>z0d 10 U ?_;refine z0t h U D U x1s λd5 b2 a4 hz a h=>?_;have e6:=a4.size;have Z:=Z.fr a4;have I:=I.fr a4;have a2:=a2.fr a4 t38;have b1:=b1.fr a4 t38;have D:Blk d5 g6 _ [_,_]:=b2;clear b2;refine z1m<|z0q ?_;clear hC a9 b3 O a0 a3;exact xB (ll1 6) h U<|tn<|rt<|rC U U D z4y<|⟨_,rfl,⟨⟨(some ⟨d3,0,none⟩,a7.length,a7.length),(some ⟨d4,0,none⟩,a8.length,a8.length),a7,a8⟩,rfl,⟨a2.low oo,b1.low oo⟩,by rw[<-q0h q.p n s oo,<-b8,<-b9]⟩,(q1.z6 q2 q3 q8 q9 q10 a4)⟩
theorem y5m (q:BdQ)(b p:Int)(w0:World)(hB:BdAt w0 q)(hp:-9223372036854775808<=p/\p<=9223372036854775807)(hf:q.fs.length<=40)(hb:q.bs.length<=40)(h4:z9v q.fs)(a6:z9v q.bs):Rets prog 11 #[bvv q,.agg #[.int .u8 b,.int .i64 p]] w0 λr w'=>Lw.Own z1h 54 w0.heap.size w' r (q.p.atC b p)/\Fr [] w0 w':=by
 refine wf func11 U ?_;have a0:=hB;refine sr<|bx U<|λg2 w1 a8 O q1 z1=>(bx U<|λg3 w2 a9 D q2 z2=>(asg U<|nn<|sq<|sr<|z0l U D z5k<|cl (ev1 U) u8u (z5m _ _ _) ?_));rintro _ w3 ⟨rfl,Z⟩;have z3:=Z.size;refine ne' U<|nn<|cd U (λc0=>?_)<|λc0=>?_;exact sr<|asg U<|nn<|rt<|tr<|r1 U ⟨_,rfl,by unfold Bd.atC;rw[if_neg c0];exact Own.nil _,(q1.n2 q2 Z)⟩;refine sk<|tn<|sr<|fad U y5d ?_;have O:=O.ext<|q2.n1 Z;refine z0i U O U x4d<|asg U<|nn<|jn (ι:=Unit) (ll1 3) (λ_j=>[(5,.slice (q.sv b).1 (q.sv b).2.1 (q.sv b).2.2)]) (λ_j w'=>Fr [] w3 w') U ?_ ?_;refine sr<|fad U z7e ?_;have D:=D.ext Z;refine z0i U D U x9t<|eq' U<|nn<|cd U (λc1=>?_)<|λc1=>?_;exact rg<|fad U y1o<|z0i U O U x4d<|asg U<|nl<|jE (()) (.c2 U (by first|(rw[show q.sv b=q.b from if_pos c1];rfl)|(rw[show q.sv b=q.f from if_neg c1];rfl)))<|l12 _ _;exact sk<|jE (()) (.c2 U (by first|(rw[show q.sv b=q.b from if_pos c1];rfl)|(rw[show q.sv b=q.f from if_neg c1];rfl)))<|l12 _ _;rintro _j w4 q4;have z4:=q4.size;refine kpC (ll2 3 5) U ?_;have b1:=z2f (a0.sel b).1;have b0:(q.l b).length<=40:=by unfold BdQ.l;split<;>assumption
 have a2:z9v (q.l b):=by unfold BdQ.l;split<;>assumption
 have I:z3m b p=0:=l15.1 c0;have a7:=z2t I;refine sq<|sr<|fad U z7d ?_;have D:=D.ext<|Z.n1 q4;refine z0i U D U na3<|mv U<|lnS U<|gt' U<|nn<|cd U (λc2=>?_)<|λc2=>?_;exact sr<|asg U<|nn<|rt<|tr<|r1 U ⟨_,rfl,by unfold Bd.atC;rw[if_pos I,<-q.at_l I,x7c oo];exact Own.nil _,(q1.n3 q2 Z q4)⟩;refine sk<|tn<|sr<|mv U<|fad U z7d<|z0i U D U na3<|z2i U (wi6 oo) ?_;have hB:=a0.ext<|q1.n3 q2 Z q4;refine z1a (iq0) U (hB.sel b).1 U y4d z1j<|λa3 a1=>?_;refine z1c U (a1 _ (hB.sel b).1) z6k<|cl (ev1 U) cO (x1j _ ((q.l b).getD (p-1).toNat iq0).2 _ (z1y (hB.sel b).2 _) (by have:=z4a a2 (p-1).toNat;omega)) ?_;rintro _ w5 ⟨a5,rfl,a4,hX,q5⟩;have z5:=q5.size;exact asg U<|kpL (ll1 4) U<|nn<|rt<|r1 U ⟨_,rfl,by unfold Bd.atC;rw[if_pos I,<-q.at_l I];exact hX.low oo,(q1.n4 q2 Z q4 q5)⟩
end Go.Proofs.YtkafbfjmcigaiaaGreatDoor
namespace Go.Lw
open Go.RowKit
section
variable {P:Program} {n N:Nat} {ro:Option Nat} {L:List (Nat×Value)} {ds:List Nat} {w w':World} {Q:Exit->Act->World->Prop}
def KeepN (Ts B:List Nat)(b:Nat)(W W':World):Prop:=KeepT Ts B W W'/\KeepsFrom b W W'
theorem KeepsFrom.low {b b':Nat}(h:KeepsFrom b w w')(hb:b<=b'):KeepsFrom b' w w':=⟨h.size,λk o D=>h.same k o<|l42 hb D⟩
theorem KeepN.trans {I B:List Nat}{b:Nat}{D:World}(h:KeepN I B b w w')(k:KeepN I B b w' D):KeepN I B b w D:=⟨h.1.trans k.1,h.2.trans k.2⟩
theorem KeepN.low {D B:List Nat}{b b':Nat}(h:KeepN D B b w w')(hb:b<=b'):KeepN D B b' w w':=⟨h.1,KeepsFrom.low h.2 hb⟩
theorem KeepN.refl {D B:List Nat}{b:Nat}:KeepN D B b w w:=⟨⟨λ_ _=>rfl,λ_ _ _ _ _ I=>I⟩,⟨l20 _,λ_ _ _ h _=>h⟩⟩
def k6w {α:Type}(n:Nat)(P:Program)(g:Nat)(lb:Array Value)(encs:α->Array Value)(Kp:World->World->Prop)(S Sp Pf:List α->Prop)(M:Nat)(w:World):Prop:=
  ∀(l:Nat) (J Jx:List α->World->Prop) (W:World),Below w.heap.size w W->w.heap.size+2<=W.heap.size->(∀s A B,Turn W.heap.size A B->J s A->J s B)->(∀s A B,Turn W.heap.size A B->Jx s A->Jx s B)->
    (∀pre x W1,J pre W1->pre.length<M->Pf (pre++[x])->YieldAt (Fo none) (n-1) P l (encs x) W1 λe W'=>(e=.returned (.bool true)/\J (pre++[x]) W'/\Kp W1 W')\/(e=.returned (.bool false)/\Jx (pre++[x]) W'/\KeepsFrom (w.heap.size+2) W1 W'))->J [] W->
    CallsIn (Fo none) n P g (#[.func (.yield l) #[] #[]]++lb) W λe W'=>(∃v,e=.returned v)/\((∃xs,S xs/\J xs W')\/(∃pre,Sp pre/\Jx pre W'))
theorem Turn.of_fr {n0:Nat}(hf:Fr [] w w'):Turn n0 w w':=⟨none,⟨hf.os,hf.tape,hf.output,hf.size,λk D _=>hf.block k D sp0⟩,λr e=>by cases e⟩
theorem Turn.low {n0 n1:Nat}(h:Turn n0 w w')(hn:n1<=n0):Turn n1 w w':=let ⟨row,hg,hr⟩:=h;⟨row,hg,λr e=>let ⟨a,b⟩:=hr r e;⟨l42 hn a,b⟩⟩
theorem Turn.put {n0 l:Nat}{o:Obj}(o':Obj)(hn:n0<=l)(hl:w.heap[l]?=some o)(ho:o.isCells=false):Turn n0 w (w.putObj l o'):=⟨some l,grownBy_putObj' w l o',λr e=>by cases e;exact⟨hn,o,hl,ho⟩⟩
theorem weIM {f:FuncId}{fn:Func}{c:Code}{args:Array Value}{R:Ending->World->Prop}(L:List (Nat×Value))(hf:P.funcs[f]?=some fn)(hb:(fn.body,fn.ntmps,Nat.ble args.size n)=(some c,n,true))(D:argsOk args L)
    (h:CWi none N P (bodyPostM (Fo none) N P fn R) c n [] w L):CallsIn (Fo none) N P f args w R:=by
  obtain⟨hb,hn,I⟩:=qi3 hb
  have O:args.size<=n:=by simpa[Nat.ble_eq] using I
  refine callsIn_of_wp_marks hf hb trivial (h _ ⟨rfl,by simp[hn];omega,λt v hv=>?_⟩)
  have:=argsOk.look D hv
  simp only[l47,Array.getElem?_append]
  have Z:t<args.size:=by
    rcases l121 t args.size with h|h
    · exact h
    · rw[l103 h]at this;cases this
  rw[if_pos Z,this];rfl
theorem wfN {f:FuncId}{fn:Func}{c:Code}{args:Array Value}{R:Ending->World->Prop}(hf:P.funcs[f]?=some fn)(hb:(fn.body,fn.ntmps,Nat.ble args.size n)=(some c,n,true))
    (h:CWi none N P (bodyPostM (Fo none) N P fn R) c n [] w (en 0 args.toList)):CallsIn (Fo none) N P f args w R:=weIM _ hf hb (en_a args) h
theorem k7i {α:Type}{g:Operand}{ps:Array Tmp}{assign body:Code}{gf:Nat}{lb:Array Value}(hg:ev L g=some (.func (.func gf) #[] lb))(eg:CallOf P gf)
    {encs:α->Array Value} {Ts B:List Nat} {S Sp Pf:List α->Prop} {M:Nat} (hN:1<=N) (hseq:k6w (N-1) P gf lb encs (KeepN Ts B<|w.heap.size+2) S Sp Pf M w) (hB:∀b∈B,b<w.heap.size)
    (hps:∀x,(encs x).size=ps.size) (Lq:α->List (Nat×Value)) (hLq:∀x,(ps.zip<|encs x).toList.reverse=Lq x) (hpn:∀x,(Lq x).all (λp=>Nat.blt p.1 n)=true)
    (I Ir:List α->World->Prop) (hI:∀s W W',Turn w.heap.size W W'->I s W->I s W') (hIr:∀s W W',Turn w.heap.size W W'->Ir s W->Ir s W') (h0:I [] w)
    (Ax:α->Act->World->Prop) (hAx:∀x a' W W',Turn w.heap.size W W'->Ax x a' W->Ax x a' W')
    (hassign:∀(l:Nat) (pre:List α) (x:α) (W:World),I pre W->CWi (some l) (N-1-1) P (Exit.then (λa' W'=>Ax x a' W'/\Fr [] W W')<|λ_ _ _=>False) assign n [] W (Lq x++L))
    (hbody:∀(l:Nat) (pre:List α) (x:α) (a':Act) (W:World),w.heap.size<=l->Ax x a' W->I pre W->pre.length<M->Pf (pre++[x])->body.wpIn (Fo<|some l) (N-1-1) P (ownPostG w.heap.size (KeepT Ts B) I (λc s W=>c=.ret/\Ir s W) (pre++[x]) W) a' W)
    (hdone:∀(D:Nat) (xs:List α) (W:World),w.heap.size<=D->S xs->I xs W->DefAt D W->EW Q .normal n (D::ds) W L)
    (hstop:∀(D:Nat) (pre:List α) (W:World),w.heap.size<=D->Sp pre->Ir pre W->DefAt D W->EW Q .ret n (D::ds) W L):CWi none N P Q (.rangeFunc g ps assign body) n ds w L:=by
  intro a h
  obtain⟨D,hD⟩:∃D,D=w.heap.size:=⟨_,rfl⟩
  have b6:AgM (D::ds) { a with defers:={ target:=.collected D,args:=#[] }::a.defers } n L:=⟨by simp[h.dfr,mark],h.size,h.at_⟩
  refine wpIn_rangeFunc λfn c9=>?_
  obtain⟨a0,O⟩:∃a0:LoopState->Option Code->Loop,a0=λst pe=>{ state:=st,pending:=pe,fn,tmps:=a.tmps,params:=ps,assign,body,defers:=D }:=⟨_,rfl⟩
  obtain⟨W1,a5⟩:∃W1,W1=(w.alloc<|.deferred<|some []).alloc (.loop<|a0 .ready none):=⟨_,rfl⟩
  -- the two blocks of the book-keeping,in a world
  let Bk:LoopState->Option Code->World->Prop:=λst pe W=>W.heap[D+1]?=some (.loop<|a0 st pe)/\DefAt D W
  have z1:W1.heap.size=D+2:=by rw[a5,World.size_alloc,World.size_alloc,hD]
  have b3:Bk .ready none W1:=by
    refine⟨?_,?_⟩
    · rw[a5];have:=World.alloc_heap_new (w.alloc<|.deferred<|some [])<|.loop<|a0 .ready none;rwa [World.size_alloc,<-hD]at this
    · rw[a5,hD];exact(Below.heap_alloc _ _ _ sp0).trans<|World.alloc_heap_new w _
  have b2:Below w.heap.size w W1:=by rw[a5];exact((Below.refl _ w).alloc (l20 _) _).alloc sp0 _
  have c1:Fr [] w W1:=Fr.of_below' b2<|l20 _
  have b0:∀ {st pe A B},Turn (D+2) A B->Bk st pe A->Bk st pe B:=λht Z=>⟨ht.at Z.1<|.inr oo,ht.at Z.2<|.inr oo⟩
  have a8:∀ {st pe b8 b7 A},Bk st pe A->Bk b8 b7 (A.putObj (D+1)<|.loop<|a0 b8 b7):=λZ=>⟨World.putObj_heap_same (l17.1 Z.1).1,(World.putObj_heap_other oo).trans Z.2⟩
  have a4:∀ {st pe A} (o':Obj),Bk st pe A->Turn w.heap.size A (A.putObj (D+1) o'):=λo' Z=>Turn.put o' oo Z.1 U
  have a7:∀ {st pe A} (o':Obj),Bk st pe A->KeepN Ts B (w.heap.size+2) A (A.putObj (D+1) o'):=λo' Z=>⟨KeepT.put Z.1 U (λb Z=>by have:=hB b Z;omega),⟨(grownBy_putObj' _ _ _).size,λk o hk ho _=>(World.putObj_heap_other oo).trans ho⟩⟩
  refine⟨D+1,[{ target:=.collected D,args:=#[] }],W1,{ target:=.fn (.func gf) lb,args:=#[.func (.yield<|D+1) #[] #[]] },W1,gf,#[.func (.yield<|D+1) #[] #[]]++lb,W1,?_,?_,?_,?_,λ_=>hN,?_⟩
  · rw[a5,O,hD];exact run_enterLoop_outer _ _ _ _ _
  · simp only[resolve,h.eval hg];simp[go_sem]
  · intro f' _;trivial
  · have he:=eg (#[.func (.yield<|D+1) #[] #[]]++lb) W1
    simpa[invoke,go_sem] using he
  refine(hseq (D+1) (λs W=>I s W/\Bk .ready none W) (λs W=>Ir s W/\Bk .done (some .ret) W) W1 b2 oo (λs A B ht hs=>⟨hI s A B (ht.low oo) hs.1,b0 (z1▸ht) hs.2⟩) (λs A B ht hs=>⟨hIr s A B (ht.low oo) hs.1,b0 (z1▸ht) hs.2⟩) ?_ ⟨hI _ _ _ (Turn.of_fr c1) h0,b3⟩).mono ?_
  · rintro pre x W ⟨hi,Z⟩ b5 d3
    have hy:=run_yield (P:=P) (args:=encs x) Z.1 (by rw[O];exact hps x)
    rw[O]at hy
    refine⟨fn,_,assign,body,hy,roundIn_of_wpIn c9<|wpIn_mono (Q:=Exit.then (λa' W'=>Ax x a' W'/\Fr [] W W')<|λ_ _ _=>False) ?_ ?_⟩
    · have hp:=v8r h (ps.zip<|encs x).toList (by have:=hpn x;rw[<-hLq,List.all_reverse]at this;exact this)
      rw[hLq]at hp
      have e:({ tmps:=(ps.zip<|encs x).foldl (λt (p:Nat×Value)=>t.setIfInBounds p.1 p.2) a.tmps,defers:=[] }:Act)={ tmps:=(ps.zip<|encs x).toList.foldl (λt p=>t.setIfInBounds p.1 p.2) a.tmps,defers:=[] }:=by
        rw[<-Array.foldl_toList]
      exact hassign _ pre x W hi _ (by rw[<-e]at hp;exact hp)
    · clear hy
      rintro e a' W2 he
      cases e with
      | normal=>
        obtain⟨b9,hf⟩:=he
        have d0:=hI _ _ _ (Turn.of_fr hf) hi
        have a2:Bk .ready none W2:=⟨(hf.block _ (l17.1 Z.1).1 sp0).trans Z.1,Z.2.ext hf⟩
        have b4:KeepN Ts B (w.heap.size+2) W W2:=⟨KeepT.ext hf (λb h=>by
          have:=hB b h
          have:=(l17.1 Z.1).1;omega),⟨hf.size,λk o _ ho _=>(hf.block k (l17.1 ho).1 sp0).trans ho⟩⟩
        have c0:(Instr.beginRound<|D+1).run P W2=.ok () (W2.putObj (D+1)<|.loop<|a0 .busy none):=by
          have:=run_beginRound (P:=P) a2.1 (by rw[O])
          rw[O]at this ⊢;exact this
        refine⟨_,c0,wpIn_mono (hbody (D+1) pre x a' _ oo (hAx _ _ _ _ (a4 _ a2) b9) (hI _ _ _ (a4 _ a2) d0) b5 d3) ?_⟩
        have b1:Bk .busy none (W2.putObj (D+1)<|.loop<|a0 .busy none):=a8 a2
        have keep:∀ {W3:World},KeepsFrom w.heap.size (W2.putObj (D+1)<|.loop<|a0 .busy none) W3->Bk .busy none W3:=λhk=>⟨hk.same _ _ oo b1.1 U,hk.same _ _ oo b1.2 U⟩
        rintro e a3 W3 hp
        cases e with
        | normal=>
          obtain⟨a6,d1,a9⟩:=hp
          have a1:=keep a6
          have hr:(Instr.endRound (D+1) none).run P W3=.ok (.bool true) (W3.putObj (D+1)<|.loop<|a0 .ready none):=by
            have:=run_endRound (P:=P) none a1.1
            rw[O]at this ⊢;exact this
          exact⟨_,_,hr,.inl ⟨rfl,⟨hI _ _ _ (a4 _ a1) a9,a8 a1⟩,(b4.trans<|a7 _ a2).trans<|KeepN.trans ⟨d1,KeepsFrom.low a6 oo⟩<|a7 _ a1⟩⟩
        | ret=>
          obtain⟨a6,_,a9⟩:=hp
          have a1:=keep a6
          have hr:(Instr.endRound (D+1)<|some .ret).run P W3=.ok (.bool false) (W3.putObj (D+1)<|.loop<|a0 .done<|some .ret):=by
            have:=run_endRound (P:=P) (some .ret) a1.1
            rw[O]at this ⊢;exact this
          exact⟨_,_,hr,.inr ⟨rfl,⟨hIr _ _ _ (a4 _ a1) a9,a8 a1⟩,(b4.2.trans (a7 _ a2).2).trans<|(KeepsFrom.low a6 oo).trans (a7 _ a1).2⟩⟩
        | exit id=>exact absurd hp.2.1 sp0
        | goto t=>exact absurd hp.2.1 sp0
        | panic ch=>exact hp.elim
        | outgrown=>exact hp.elim
      | _=>exact he.elim
  · rintro e W2 ⟨⟨v,rfl⟩,(⟨xs,hS,hi,Z⟩|⟨pre,hS,hi,Z⟩)⟩
    · have hr:=run_endLoop (P:=P) Z.1 (by rw[O];simp)
      rw[O]at hr
      exact⟨none,_,hr,hdone D xs _ oo hS (hI _ _ _ (a4 _ Z) hi) ((World.putObj_heap_other oo).trans Z.2) _ b6⟩
    · have hr:=run_endLoop (P:=P) Z.1 (by rw[O];simp)
      rw[O]at hr
      exact⟨some .ret,_,hr,wpIn_ret<|hstop D pre _ oo hS (hIr _ _ _ (a4 _ Z) hi) ((World.putObj_heap_other oo).trans Z.2) _ b6⟩
theorem v8n {α:Type}{g:Operand}{ps:Array Tmp}{O Z:Code}{gf:Nat}{lb:Array Value}(hg:ev L g=some (.func (.func gf) #[] lb))(eg:CallOf P gf)
    {encs:α->Array Value} {Ts B:List Nat} {S Sp Pf:List α->Prop} {M:Nat} (hN:1<=N) (hseq:k6w (N-1) P gf lb encs (KeepN Ts B<|w.heap.size+2) S Sp Pf M w) (hB:∀b∈B,b<w.heap.size)
    (hps:∀x,(encs x).size=ps.size) (Lq:α->List (Nat×Value)) (hLq:∀x,(ps.zip<|encs x).toList.reverse=Lq x) (hpn:∀x,(Lq x).all (λp=>Nat.blt p.1 n)=true)
    (I Ir:List α->World->Prop) (hI:∀s W W',Turn w.heap.size W W'->I s W->I s W') (hIr:∀s W W',Turn w.heap.size W W'->Ir s W->Ir s W') (h0:I [] w)
    (Lx:α->List (Nat×Value)) (K:List (Nat×Value)) (_hK:Sub K L)
    (hassign:∀(l:Nat) (pre:List α) (x:α) (W:World),I pre W->CWi (some l) (N-1-1) P (Exit.then (AsU n W<|Lx x++K)<|λ_ _ _=>False) O n [] W (Lq x++L))
    (hbody:∀(l:Nat) (pre:List α) (x:α) (W:World),w.heap.size<=l->I pre W->pre.length<M->Pf (pre++[x])->CWi (some l) (N-1-1) P (ownPostG w.heap.size (KeepT Ts B) I (λc s W=>c=.ret/\Ir s W) (pre++[x]) W) Z n [] W (Lx x++K))
    (hdone:∀(D:Nat) (xs:List α) (W:World),w.heap.size<=D->S xs->I xs W->DefAt D W->EW Q .normal n (D::ds) W L)
    (hstop:∀(D:Nat) (pre:List α) (W:World),w.heap.size<=D->Sp pre->Ir pre W->DefAt D W->EW Q .ret n (D::ds) W L):CWi none N P Q (.rangeFunc g ps O Z) n ds w L:=
  k7i hg eg hN hseq hB hps Lq hLq hpn I Ir hI hIr h0 (λx a' _=>AgM [] a' n<|Lx x++K) (λ_ _ _ _ _ h=>h)
    (λl pre x W hi a ha=>wpIn_mono (hassign l pre x W hi a ha) (λe a' W' he=>by
      cases e with
      | normal=>obtain⟨h1,rfl⟩:=he;exact⟨h1,l12 _ _⟩
      | _=>exact he.elim)) (λl pre x a' W hl hx hi hm hp=>hbody l pre x W hl hi hm hp a' hx) hdone hstop
theorem k7u {α:Type}{g:Operand}{ps:Array Tmp}{O Z:Code}{gf:Nat}{lb:Array Value}(hg:ev L g=some (.func (.func gf) #[] lb))(eg:CallOf P gf)
    {encs:α->Array Value} {Ts B:List Nat} {S Sp Pf:List α->Prop} {M:Nat} (hN:1<=N) (hseq:k6w (N-1) P gf lb encs (KeepN Ts B<|w.heap.size+2) S Sp Pf M w) (hB:∀b∈B,b<w.heap.size)
    (hps:∀x,(encs x).size=ps.size) (Lq:α->List (Nat×Value)) (hLq:∀x,(ps.zip<|encs x).toList.reverse=Lq x) (hpn:∀x,(Lq x).all (λp=>Nat.blt p.1 n)=true)
    (I Ir:List α->World->Prop) (hI:∀s W W',Turn w.heap.size W W'->I s W->I s W') (hIr:∀s W W',Turn w.heap.size W W'->Ir s W->Ir s W') (hBI:∀s W,I s W->w.heap.size<=W.heap.size) (h0:I [] w)
    (T:TypeId) (E1:α->List Value) (Lx:Nat->α->List (Nat×Value)) (K:List (Nat×Value)) (_hK:Sub K L)
    (hassign:∀(l:Nat) (pre:List α) (x:α) (W:World),I pre W->w.heap.size<=W.heap.size->CWi (some l) (N-1-1) P (Exit.then (AsK n w.heap.size W T (E1 x)<|λg=>Lx g x++K)<|λ_ _ _=>False) O n [] W (Lq x++L))
    (hbody:∀(l:Nat) (pre:List α) (x:α) (g:Nat) (W:World),w.heap.size<=l->w.heap.size<=g->Blk W g T (E1 x)->I pre W->pre.length<M->Pf (pre++[x])->CWi (some l) (N-1-1) P (ownPostG w.heap.size (KeepT Ts B) I (λc s W=>c=.ret/\Ir s W) (pre++[x]) W) Z n [] W (Lx g x++K))
    (hdone:∀(D:Nat) (xs:List α) (W:World),w.heap.size<=D->S xs->I xs W->DefAt D W->EW Q .normal n (D::ds) W L)
    (hstop:∀(D:Nat) (pre:List α) (W:World),w.heap.size<=D->Sp pre->Ir pre W->DefAt D W->EW Q .ret n (D::ds) W L):CWi none N P Q (.rangeFunc g ps O Z) n ds w L:=
  k7i hg eg hN hseq hB hps Lq hLq hpn I Ir hI hIr h0 (λx a' W=>∃g,w.heap.size<=g/\AgM [] a' n (Lx g x++K)/\Blk W g T (E1 x)) (λx a' W W' ht ⟨g,h1,h2,h3⟩=>⟨g,h1,h2,h3.turn ht⟩)
    (λl pre x W hi a ha=>wpIn_mono (hassign l pre x W hi (hBI _ _ hi) a ha) (λe a' W' he=>by
      cases e with
      | normal=>obtain⟨g,h1,h2,h3,hf⟩:=he;exact⟨⟨g,h1,h2,h3⟩,hf⟩
      | _=>exact he.elim)) (λl pre x a' W hl ⟨g,h1,h2,h3⟩ hi hm hp=>hbody l pre x g W hl h1 h3 hi hm hp a' h2) hdone hstop
theorem j6s {α:Type}{B0:Nat}{Ts B S:List Nat}{I:List α->World->Prop}{Ix:Code->List α->World->Prop}{xs:List α}{W:World}(hf:Fr S W w)(hS:∀k∈S,k<W.heap.size->(∃cs T f,W.heap[k]?=some (.cells cs T f)/\T∉Ts)\/(k<B0/\v4k W k))(hB:∀b∈B,b<W.heap.size)(hd:∀b∈B,b∉S)(hI:I xs w):EW (ownPostG B0 (KeepT Ts B) I Ix xs W) .normal n ds w L:=
 λ_ _=>⟨⟨hf.size,λk o hk Z O=>(hf.block k (l17.1 Z).1 (λe=>by
  rcases hS k e (l17.1 Z).1 with ⟨cs,T,f,D,_⟩|⟨D,_⟩
  ·rw[Z]at D;cases D;cases O
  ·omega)).trans Z⟩,⟨Keep.fr hf hB hd,λb cs T f hT O=>(hf.block b (l17.1 O).1 (λe=>by
  rcases hS b e (l17.1 O).1 with ⟨a0,T',f',D,h2⟩|⟨_,o,D,h2⟩
  ·rw[O]at D;cases D;exact h2 hT
  rw[O]at D;cases D;cases h2)).trans O⟩,hI⟩
theorem rndR {α:Type}{Z:Nat}{Kp:World->World->Prop}{S:List Nat}{I Ir:List α->World->Prop}{xs:List α}{W:World}(hf:Fr S W w)(hS:∀k∈S,k<W.heap.size->(∃cs T f,W.heap[k]?=some (.cells cs T f))\/k<Z)(hI:Ir xs w):EW (ownPostG Z Kp I (λc s W=>c=.ret/\Ir s W) xs W) .ret n ds w L:=
 λ_ _=>⟨⟨hf.size,λk o hk D hc=>(hf.block k (l17.1 D).1 (λe=>by
  rcases hS k e (l17.1 D).1 with ⟨cs,T,f,O⟩|O
  ·rw[D]at O;cases O;cases hc
  omega)).trans D⟩,rfl,hI⟩
theorem rndK {α:Type}{D:Nat}{O:World->World->Prop}{I:List α->World->Prop}{Z:Code->List α->World->Prop}{xs:List α}{W:World}(h1:KeepsFrom D W w)(h2:O W w)(h3:I xs w):EW (ownPostG D O I Z xs W) .normal n ds w L:=λ_ _=>⟨h1,h2,h3⟩
theorem rndX {α:Type}{D:Nat}{O:World->World->Prop}{I Ir:List α->World->Prop}{xs:List α}{W:World}(h1:KeepsFrom D W w)(Z:Ir xs w):EW (ownPostG D O I (λc s W=>c=.ret/\Ir s W) xs W) .ret n ds w L:=λ_ _=>⟨h1,rfl,Z⟩
theorem Turn.of_mark {n0 D:Nat}(hf:Fr [D] w w')(I:DefAt D w)(hn:n0<=D):Turn n0 w w':=⟨some D,⟨hf.os,hf.tape,hf.output,hf.size,λk O hn=>hf.block k O (by simpa using hn)⟩,λr e=>by cases e;exact⟨hn,_,I,rfl⟩⟩
def YKr (r:Option Nat)(P:Program)(n:Nat)(ds:List Nat)(ops:Array Oper)(rest:List Oper)(Q:Exit->Act->World->Prop)(d:Nat)(y:Operand)(xs:List Operand):Act->World->Prop:=λa w=>
  ∃(L:List (Nat×Value)) (vs:List Value) (y1:Nat) (Φ:Value->World->Prop),AgM ds a n L/\ev L y=some (.func (.yield y1) #[] #[])/\evs L xs vs/\YieldAt (Fo r) 0 P y1 vs.toArray w (λe w'=>∃v,e=.returned v/\Φ v w')/\lbt d n/\
    ∀v w',Φ v w'->WL P ops (z0s<|Q .normal) rest n ds w' ((d,v)::L)
theorem k9d {id:Nat}{l:List Oper}(k:Nat){d:Nat}{y:Operand}{xs:List Operand}{ts:Array TypeId}{ty:TypeId}{pos:String}{after:Array Edge}
    (hl:l=l.take k++⟨some d,.call ⟨.value y,xs.toArray,ts⟩,ty,pos,after,none⟩::l.drop (k+1)) (hd1:(l.take k).all Oper.noDefer=true) (hd2:(l.drop<|k+1).all Oper.noDefer=true) (hnf:∀g,y≠.func g)
    (h1:WL P l.toArray (z0s<|YKr ro P n ds l.toArray (l.drop<|k+1) Q d y xs) (l.take k) n ds w L):CWi ro N P Q (.region id l.toArray false) n ds w L:=by
  intro a ha
  refine wpIn_region_lit ?_
  have a0:wpListIn (Fo ro) N P l.toArray Q (l.take k++⟨some d,.call ⟨.value y,xs.toArray,ts⟩,ty,pos,after,none⟩::l.drop (k+1)) a w:=by
    refine y7q _ ?_ _ a w hd1<|h1 a ha
    rintro a w ⟨L,vs,y1,Φ,h,hy,hx,⟨fn,tm,D,bd,I,O,Z⟩,hn,hk⟩
    have hR:RoundIn (Fo ro) (N-1) P y1 fn tm D bd w (λe w'=>∃v,e=.returned v/\Φ v w'):=⟨O,λc cs _=>Z c cs (λd hd=>by cases hd)⟩
    unfold wpListIn
    rw[if_pos (by simp[Region.wanted])]
    refine⟨λ_ _=>trivial,?_⟩
    have e:(Oper.semAt (Fo ro).round a.eval ⟨some d,.call ⟨.value y,xs.toArray,ts⟩,ty,pos,after,none⟩).run P w=.ok (.round y1 fn tm D bd) w:=by
      rw[j2r (by rfl)]
      simp only[execOp,resolve,h.eval hy,Deferred.ofValue,Sem.run_bind,Sem.run_pure,Result.andThen_ok,invoke,l92,h.evals hx,List.append_toArray]
      simpa using I
    rw[e]
    refine⟨λe=>by simp[Fo,Fence.wide]at e,hR.mono ?_⟩
    rintro e w' ⟨v,rfl,hv⟩
    have:=y7q (r:=ro) (N:=N) (Q:=Q) (ops:=l.toArray) [] (λa w h=>wpListIn_nil h) (l.drop<|k+1) (a.put (some d) v) w' hd2<|hk v w' hv _<|h.put hn v
    rwa [l24]at this
  rwa [<-hl]at a0
theorem q1q {d:Nat}{y:Operand}{xs:List Operand}{vs:List Value}{D:Nat}{Φ:Value->World->Prop}{ops:Array Oper}{rest:List Oper}(Z:ev L y=some (.func (.yield D) #[] #[]))(O:evs L xs vs)(I:YieldAt (Fo ro) 0 P D vs.toArray w (λe w'=>∃v,e=.returned v/\Φ v w'))(hn:lbt d n)
    (k:∀v w',Φ v w'->WL P ops (z0s<|Q .normal) rest n ds w' ((d,v)::L)) {ops':Array Oper}:WL P ops' (z0s<|YKr ro P n ds ops rest Q d y xs) [] n ds w L:=
  λ_ h=>j2y (Q:=λ_=>YKr ro P n ds ops rest Q d y xs) ⟨L,vs,D,Φ,h,Z,O,I,hn,k⟩
theorem q0l {α:Type}{l m:Nat}{J Jx:List α->World->Prop}{D:α->Array Value}{Kp Kx:World->World->Prop}{Pf:List α->Prop}{M:Nat}{pre:List α}{x:α}{vs:List Value}(Z:∀pre x I,J pre I->pre.length<M->Pf (pre++[x])->YieldAt (Fo none) m P l (D x) I λe W'=>(e=.returned (.bool true)/\J (pre++[x]) W'/\Kp I W')\/(e=.returned (.bool false)/\Jx (pre++[x]) W'/\Kx I W'))
    (hJ:J pre w) (hM:pre.length<M) (hp:Pf (pre++[x])) (he:vs.toArray=D x):YieldAt (Fo ro) 0 P l vs.toArray w (λe w'=>∃v,e=.returned v/\(v=.bool true/\J (pre++[x]) w'/\Kp w w'\/v=.bool false/\Jx (pre++[x]) w'/\Kx w w')):=by
  rw[he]
  obtain⟨fn,tm,O,bd,h1,h2,h3⟩:=Z pre x w hJ hM hp
  refine⟨fn,tm,O,bd,h1,h2,λc cs _=>?_⟩
  obtain⟨e,w',hr,hc⟩:=h3 c cs (λd hd=>by cases hd)
  refine⟨e,w',?_,hc⟩
  rcases hr with ⟨rfl,h⟩|⟨rfl,h⟩
  · exact⟨_,rfl,.inl ⟨rfl,h⟩⟩
  · exact⟨_,rfl,.inr ⟨rfl,h⟩⟩
theorem j3n {A B C:Nat}(h1:DefAt A w)(I:DefAt B w)(O:DefAt C w):∀D∈[A,B,C],w.heap[D]?=some (.deferred<|some []):=λD h=>by
 simp only[l57,l128,or_false]at h
 rcases h with rfl|rfl|rfl
 ·exact h1
 ·exact I
 exact O
theorem z7i {fn:Func}{R:Ending->World->Prop}{I:Array Value}{v:Value}:∀(ds:List Nat) (w:World),(∀D∈ds,w.heap[D]?=some (.deferred<|some []))->ds.Nodup->(∀w',Fr ds w w'->(results fn I).run P w'=.ok v w')->
    (∀w',Fr ds w w'->R (.returned v) w')->LeavesInM (Fo none) N P fn I R (ds.map mark) .returning w
  | [],w,_,_,hv,k=>⟨v,hv w<|l12 _ _,k w<|l12 _ _⟩
  | D::ds,w,hD,hnd,hv,k=>by
    refine⟨sp0,.inl ⟨D,_,rfl,run_takeDeferred<|hD D sp0,?_⟩⟩
    rw[l115]at hnd
    have hf:Fr [D] w (w.putObj D<|.deferred none):=⟨rfl,rfl,rfl,sp0,λk _ hk=>World.putObj_heap_other (by simpa using hk)⟩
    refine z7i ds _ (λD' Z=>?_) hnd.2 (λw' O=>hv w'<|hf.trans O)<|λw' O=>k w'<|hf.trans O
    rw[World.putObj_heap_other (by rintro rfl;exact hnd.1 Z)];exact hD D' (by simp[Z])
variable {R:Ending->World->Prop} {fn:Func} {p pt q g:Nat} {T:TypeId} {cs:List Value} {v z:Value}
theorem u8x {D:Nat}(hb:Blk w g T cs)(I:w.heap[D]?=some (.deferred<|some [])):g≠D:=by
 rintro rfl;rw[show w.heap[g]?=_ from hb]at I;cases I
theorem y3e (hb:Blk w g T cs)(I:∀D∈ds,w.heap[D]?=some (.deferred<|some []))(hf:Fr ds w w'):Blk w' g T cs:=hb.fr hf λh=>u8x hb (I g h) U
theorem rM1c (hr:fn.results=#[.cell p pt])(hp:look L p=some (pta g))(hb:Blk w g T [v])(hg:z2e P pt)(Z:∀D∈ds,w.heap[D]?=some (.deferred<|some []))(I:ds.Nodup)(k:∀w',Fr ds w w'->R (.returned v) w'):EW (bodyPostM (Fo none) N P fn R) .ret n ds w L:=λa h=>by
 show LeavesInM _ _ _ _ _ _ a.defers _ _
 rw[h.dfr]
 refine z7i ds w Z I (λw' hf=>?_) k
 have O:=h.at_ p _ hp
 simp only[l47]at O
 have hc:w'.cell? ⟨g,0,none⟩=some v:=(y3e hb Z hf).cells 0 v U
 simp[results,hr,O,asAddr,loadVar,hg w',hc]
theorem rMCT (hr:fn.results=#[.cell p pt,.tmp q])(hp:look L p=some (pta g))(hb:Blk w g T cs)(hg:z4f P pt cs.length)(hv:look L q=some v)(hD:∀D∈ds,w.heap[D]?=some (.deferred<|some []))(I:ds.Nodup)(k:∀w',Fr ds w w'->R (.returned<|.tuple #[.agg cs.toArray,v]) w'):EW (bodyPostM (Fo none) N P fn R) .ret n ds w L:=λa h=>by
 show LeavesInM _ _ _ _ _ _ a.defers _ _
 rw[h.dfr]
 refine z7i ds w hD I (λw' hf=>?_) k
 have O:=h.at_ p _ hp
 have Z:=h.at_ q _ hv
 simp only[l47]at O Z
 simp[results,hr,O,Z,asAddr,loadVar,hg.1 w',hg.2 w',run_loadCells_list w' _ cs (y3e hb hD hf).cells]
end
end Go.Lw
namespace Go.G08
open Go.Lw Go.G21
def bdE (q:BdQ)(x:Bool):Array Value:=#[.int .u8 (if x then 1 else 0),slv (if x then q.b else q.f)]
abbrev BdQ.h (q:BdQ)(x:Bool):SV:=if x then q.b else q.f
abbrev BdQ.r (q:BdQ)(x:Bool):List IQ:=if x then q.bs else q.fs
abbrev y2c (x:Bool):Int:=if x then 1 else 0
def ndE (q:BdQ)(x:Bool×Nat):Array Value:=#[.agg #[.int .u8 (y2c x.1),.int .i64 ((x.2:Int)+1)],slv ((q.r x.1).getD x.2 iq0).1]
def ndR (q:BdQ)(x:Bool)(i:Nat):List (Bool×Nat):=(List.range i).map λk=>(x,k)
def ndP (q:BdQ)(l:List Bool):List (Bool×Nat):=l.flatMap λx=>ndR q x (q.r x).length
theorem v1e (q:BdQ)(x:Bool)(i:Nat):ndR q x (i+1)=ndR q x i++[(x,i)]:=by unfold ndR;rw[l66,l31];rfl
theorem u3l (q:BdQ)(x:Bool)(i:Nat):(ndR q x i).length=i:=by simp[ndR]
theorem u8r (q:BdQ)(l:List Bool)(x:Bool):ndP q (l++[x])=ndP q l++ndR q x (q.r x).length:=by unfold ndP;simp
theorem u3a (q:BdQ)(hf:q.fs.length<=40)(hb:q.bs.length<=40):∀l:List Bool,(ndP q l).length<=40*l.length
 | []=>by simp[ndP]
 | x::l=>by
  have D:=u3a q hf hb l
  have:(q.r x).length<=40:=by cases x<;>assumption
  have e:ndP q (x::l)=ndR q x (q.r x).length++ndP q l:=rfl
  rw[e,l13,u3l,l34];omega
theorem k5i {q:BdQ}{l:List Bool}{x:Bool}{i:Nat}(h:l++[x] <+: [false,true])(hi:i<(q.r x).length):(ndP q l++ndR q x i)++[(x,i)] <+: ndP q [false,true]:=by
 obtain⟨r,D⟩:=h;have e:ndP q [false,true]=ndP q l++(ndR q x (q.r x).length++ndP q r):=by
  rw[<-D];unfold ndP;simp[l38]
 have e2:ndR q x (q.r x).length=ndR q x (i+1)++((List.range' (i+1)<|(q.r x).length-(i+1)).map λk=>(x,k)):=by
  unfold ndR;rw[<-l31,List.range_eq_range',List.range_eq_range'];congr 1;have:=List.range'_append (s:=0) (m:=i+1) (n:=(q.r x).length-(i+1)) (step:=1);rw[show i+1+((q.r x).length-(i+1))=(q.r x).length by omega]at this;simpa using this.symm
 rw[e,e2,v1e,l14,l14,l14];exact List.prefix_append_right_inj _ |>.2 sp0
def bdB (q:BdQ):List Nat:=slB q.fs.length (slv q.f)++slB q.bs.length (slv q.b)
structure BdS (w:World) (q:BdQ):Prop where
  f:Sl z7a w (slv q.f) q.fs
  b:Sl z7a w (slv q.b) q.bs
theorem BdAt.s {w:World}{q:BdQ}(h:BdAt w q):BdS w q:=⟨h.f,h.b⟩
theorem BdS.ext {w w':World}{q:BdQ}(h:BdS w q)(hf:Fr [] w w'):BdS w' q:=⟨h.f.ext hf,h.b.ext hf⟩
theorem BdS.turn {n:Nat}{w w':World}{q:BdQ}(h:BdS w q)(D:Turn n w w'):BdS w' q:=⟨h.f.turn D,h.b.turn D⟩
theorem BdS.keep {Z:List Nat}{n:Nat}{w w':World}{q:BdQ}(h:BdS w q)(O:KeepN Z (bdB q) n w w'):BdS w' q:=
 ⟨h.f.keep O.1.1 λD k I=>l60 _<|j2u D k I,h.b.keep O.1.1 λD k I=>l64 _<|j2u D k I⟩
theorem BdS.lt {w:World}{q:BdQ}(h:BdS w q):∀b∈bdB q,b<w.heap.size:=λb D=>(l23.1 D).elim (j2w h.f b)<|j2w h.b b
theorem BdS.sel {w:World}{q:BdQ}(h:BdS w q)(x:Bool):Sl z7a w (slv<|q.h x) (q.r x):=by
 cases x;exact h.f;exact h.b
theorem BdS.len {w:World}{q:BdQ}(h:BdS w q)(x:Bool):(q.h x).2.1=(q.r x).length:=z2f<|h.sel x
def ndN (q:BdQ)(s:List (Bool×Nat)):Nat:=(s.map λx=>((q.r x.1).getD x.2 iq0).2.length).sum
theorem j0s (q:BdQ)(s:List (Bool×Nat))(x:Bool×Nat):ndN q (s++[x])=ndN q s+((q.r x.1).getD x.2 iq0).2.length:=by
 unfold ndN;rw[l31,List.sum_append];simp
theorem j1t (q:BdQ)(hf:z9v q.fs)(hb:z9v q.bs):∀s:List (Bool×Nat),ndN q s<=4*s.length
 | []=>by simp[ndN]
 | x::s=>by
  have D:=j1t q hf hb s
  have:((q.r x.1).getD x.2 iq0).2.length<=4:=by
   cases x.1
   ·exact z4a hf _
   exact z4a hb _
  unfold ndN at *
  simp only[l28,List.sum_cons,l34];omega
theorem x9g:∀(l:List IQ),((List.range l.length).map λk=>(l.getD k iq0).2.length).sum=(plB l).flatten.length
 | []=>rfl
 | x::l=>by
  have D:=x9g l
  rw[l34,List.range_succ_eq_map,l28,l75,List.sum_cons,plB,l28,List.flatten_cons,l13,<-D]
  rfl
theorem j6d (q:BdQ):ndN q (ndP q [false,true])=q.p.flat.length:=by
 have e:ndP q [false,true]=ndR q false q.fs.length++ndR q true q.bs.length:=by unfold ndP;simp;rfl
 rw[e];unfold ndN ndR;rw[l31,List.sum_append,l75,l75];have D:=x9g q.fs;have I:=x9g q.bs;unfold Bd.flat;rw[l13,<-D,<-I];rfl
def x5y (q:BdQ)(x:Bool)(i:Nat):List LId:=(plB<|(q.r x).take i).flatten
theorem x6m (q:BdQ)(x:Bool){i:Nat}(h:i<(q.r x).length):x5y q x (i+1)=x5y q x i++((q.r x).getD i iq0).2:=by
 unfold x5y plB;rw[l54,l10 h,l31,List.flatten_append,List.getD,l10 h];simp
theorem u8l (q:BdQ)(x:Bool):x5y q x (q.r x).length=(plB<|q.r x).flatten:=by unfold x5y;rw[l40]
def y7l (q:BdQ)(l:List Bool):List LId:=l.flatMap λx=>(plB<|q.r x).flatten
theorem u3v (q:BdQ)(l:List Bool)(x:Bool):y7l q (l++[x])=y7l q l++(plB<|q.r x).flatten:=by unfold y7l;simp
theorem BdAt.iq {w:World}{q:BdQ}(h:BdAt w q)(x:Bool):IqAt w (q.r x):=by cases x;exact h.fi;exact h.bi
theorem v4a (q:BdQ):y7l q [false,true]=q.p.flat:=by unfold y7l Bd.flat;simp;rfl
theorem k8f {q:BdQ}{l:List Bool}{x:Bool}{i j:Nat}(h:l++[x] <+: [false,true])(hi:i<(q.r x).length)(D:j<((q.r x).getD i iq0).2.length):(y7l q l++x5y q x i++((q.r x).getD i iq0).2.take j)++[((q.r x).getD i iq0).2.getD j id0] <+: q.p.flat:=by
 obtain⟨r,O⟩:=h
 have e:q.p.flat=y7l q l++(x5y q x i++(((q.r x).getD i iq0).2++((plB<|(q.r x).drop<|i+1).flatten++y7l q r))):=by
  rw[<-v4a,<-O]
  have e1:y7l q (l++[x]++r)=y7l q l++((plB<|q.r x).flatten++y7l q r):=by unfold y7l;simp[l38]
  have e2:(plB<|q.r x).flatten=x5y q x (i+1)++(plB<|(q.r x).drop<|i+1).flatten:=by
   unfold x5y plB
   rw[<-List.flatten_append,<-l31,l25]
  rw[e1,e2,x6m q x hi];simp
 have I:((q.r x).getD i iq0).2=((q.r x).getD i iq0).2.take j++[((q.r x).getD i iq0).2.getD j id0]++((q.r x).getD i iq0).2.drop (j+1):=by
  generalize ((q.r x).getD i iq0).2=s at D
  conv=>lhs;rw[<-l25 (j+1) s]
  rw[l54,List.getD,l10 D];simp
 rw[e]
 refine⟨((q.r x).getD i iq0).2.drop (j+1)++((plB<|(q.r x).drop<|i+1).flatten++y7l q r),?_⟩
 conv=>rhs;rw[I]
 simp
theorem j8j {q:BdQ}{l:List Bool}{x:Bool}{i j:Nat}(Z:q.p.flat.Nodup)(h:l++[x] <+: [false,true])(hi:i<(q.r x).length)(D:j<((q.r x).getD i iq0).2.length):((q.r x).getD i iq0).2.getD j id0∉y7l q l++x5y q x i++((q.r x).getD i iq0).2.take j:=λI=>by
 have O:((y7l q l++x5y q x i++((q.r x).getD i iq0).2.take j)++[((q.r x).getD i iq0).2.getD j id0]).Nodup:=List.Nodup.sublist (k8f h hi D).sublist Z
 exact(l67.1 O).2.2 _ I _ (l11.2 U) U
theorem z5p {α:Type}{l:List α}{j:Nat}(d:α)(h:j<l.length):l.take (j+1)=l.take j++[l.getD j d]:=by
 rw[l54,List.getD,l10 h];rfl
theorem v5h {q:BdQ}(I:BdW q.p)(x:Bool){i j:Nat}(hi:i<(q.r x).length)(D:j<((q.r x).getD i iq0).2.length):y2t (((q.r x).getD i iq0).2.getD j id0):=by
 refine I.nm _ ?_;unfold Bd.flat;have:((q.r x).getD i iq0).2.getD j id0∈(plB<|q.r x).flatten:=List.mem_flatten.2 ⟨_,l88<|z1b hi,z1b D⟩;cases x;exact l60 _ this;exact l64 _ this
theorem v9m {q:BdQ}(D:BdW q.p):(q.fs.length<=40/\q.bs.length<=40)/\z9v q.fs/\z9v q.bs:=by
 refine⟨⟨by simpa using D.lf,by simpa using D.lb⟩,λs I=>D.ss _<|l60 _<|l88 I,λs I=>D.ss _<|l64 _<|l88 I⟩
theorem z3f {q:BdQ}(D:BdOk q.p):(q.fs.length<=40/\q.bs.length<=40)/\z9v q.fs/\z9v q.bs:=v9m D.w
def oth (q:BdQ)(b n:Int)(x:Bool×Nat):List LId:=if (y2c x.1,(x.2:Int)+1)=(b,n) then [] else ((q.r x.1).getD x.2 iq0).2
def v1a (q:BdQ)(b n:Int)(s:List (Bool×Nat)):List LId:=s.flatMap<|oth q b n
theorem x5q (q:BdQ)(b n:Int)(s:List (Bool×Nat))(x:Bool×Nat):v1a q b n (s++[x])=v1a q b n s++oth q b n x:=by unfold v1a;simp
theorem x3o:∀(l:List IQ) (m:Nat) (i:LId),((List.range l.length).flatMap λk=>if k=m then [] else (l.getD k iq0).2).count i+(l.getD m iq0).2.count i=(plB l).flatten.count i
 | [],m,i=>by simp[iq0]
 | x::l,m,i=>by
  rw[l34,List.range_succ_eq_map,l37,l21,l108]
  have e:(plB<|x::l).flatten=x.2++(plB l).flatten:=rfl
  rw[e,l21]
  cases m with
  | zero=>
   have h:((List.range l.length).flatMap λk=>if k+1=0 then [] else ((x::l).getD (k+1) iq0).2)=(plB l).flatten:=by
    have:=x3o l l.length i
    simp only[Nat.succ_ne_zero,if_false]
    unfold plB
    clear this
    have e2:l.map Prod.snd=(List.range l.length).map λk=>(l.getD k iq0).2:=by
     apply l71 sp0
     intro j D I
     simp only[l18]at D
     simp[List.getD,l10 D]
    rw[e2,List.flatMap_def];rfl
   rw[h];simp;omega
  | succ m=>
   have O:=x3o l m i
   have h:((List.range l.length).flatMap λk=>if k+1=m+1 then [] else ((x::l).getD (k+1) iq0).2)=((List.range l.length).flatMap λk=>if k=m then [] else (l.getD k iq0).2):=by
    congr 1
    funext k
    simp
   rw[h]
   simp only[Nat.zero_ne_add_one,if_false,l58,l76]
   omega
theorem u0n (q:BdQ)(x:Bool)(b n:Int)(hn:1<=n):v1a q b n (ndR q x (q.r x).length)=if y2c x=b then ((List.range (q.r x).length).flatMap λk=>if k=(n-1).toNat then [] else ((q.r x).getD k iq0).2) else (plB<|q.r x).flatten:=by
 unfold v1a ndR;rw[l108];unfold oth;simp only[l94];by_cases h:y2c x=b;rw[if_pos h];congr 1;funext k;simp only[h,true_and];by_cases e:(k:Int)+1=n;rw[if_pos e,if_pos oo];rw[if_neg e,if_neg oo];rw[if_neg h];simp only[h,false_and,if_false];have e2:plB (q.r x)=(List.range (q.r x).length).map λk=>((q.r x).getD k iq0).2:=by
  unfold plB;apply l71 sp0;intro j D I;simp only[l18]at D;simp[List.getD,l10 D]
 rw[e2,List.flatMap_def]
theorem j8p (q:BdQ){b n:Int}(h:z3m b n=0)(i:LId):(v1a q b n<|ndP q [false,true]).count i+(q.p.at b n).count i=q.p.flat.count i:=by
 obtain⟨I,D,Z⟩:=z2t h;have e:ndP q [false,true]=ndR q false (q.r false).length++ndR q true (q.r true).length:=by unfold ndP;simp
 have e2:v1a q b n (ndP q [false,true])=v1a q b n (ndR q false (q.r false).length)++v1a q b n (ndR q true (q.r true).length):=by rw[e];unfold v1a;simp
 rw[e2,u0n q false b n D,u0n q true b n D,l21];have r1:((List.range (q.r false).length).flatMap λk=>if k=(n-1).toNat then [] else ((q.r false).getD k iq0).2).count i+((q.fs).getD (n-1).toNat iq0).2.count i=(plB<|q.r false).flatten.count i:=x3o q.fs (n-1).toNat i;have r2:((List.range (q.r true).length).flatMap λk=>if k=(n-1).toNat then [] else ((q.r true).getD k iq0).2).count i+((q.bs).getD (n-1).toNat iq0).2.count i=(plB<|q.r true).flatten.count i:=x3o q.bs (n-1).toNat i;have hfl:q.p.flat.count i=(plB<|q.r false).flatten.count i+(plB<|q.r true).flatten.count i:=by unfold Bd.flat;rw[l21];rfl
 have O:q.p.at b n=if b=0 then (q.fs.getD (n-1).toNat iq0).2 else (q.bs.getD (n-1).toNat iq0).2:=by unfold Bd.at atB;rw[z3q,z3q]
 rw[hfl,O];rcases I with rfl|rfl
 rw[if_pos (show y2c false=0 from U),if_neg (show ¬y2c true=0 by decide),if_pos U];omega;rw[if_neg (show ¬y2c false=1 by decide),if_pos (show y2c true=1 from U),if_neg dd];omega
theorem j9w {q:BdQ}{b n:Int}{l:List LId}{j:Nat}(h:z3m b n=0)(I:∀i,q.p.flat.count i+l.count i<=(q.p.at b n).count i+1)(O:j<l.length):l.getD j id0∉v1a q b n (ndP q [false,true])++l.take j:=λZ=>by
 have h1:=j8p q h<|l.getD j id0
 have h2:=I<|l.getD j id0
 have h3:l.count (l.getD j id0)=(l.take j).count (l.getD j id0)+1+(l.drop<|j+1).count (l.getD j id0):=by
  have e:l=l.take j++[l.getD j id0]++l.drop (j+1):=by rw[<-z5p id0 O,l25]
  generalize l.getD j id0=y at e ⊢
  conv=>lhs;rw[e]
  rw[l21,l21,l96];simp
 have D:=l127.2 Z
 rw[l21]at D
 omega
theorem BdO.fr {S I base:Nat}{w w':World}{q:BdQ}{T:List Nat}(h:BdO S I base w q)(hf:Fr T w w')(D:∀k∈T,k<base):BdO S I base w' q:=⟨h.f.fr hf D,h.b.fr hf D⟩
theorem y0h {B:Bd}{b n:Int}(h:z3m b n=0):B.atC b n=B.at b n:=if_pos h
def bdq0:BdQ:=⟨sv0,sv0,[],[]⟩
def y1t (B:Bd)(b n m:Int):List LId:=if b=1 then B.at b n++B.at (1-b) m else B.at (1-b) m++B.at b n
theorem u3z (B:Bd)(b n m:Int):(y1t B b n m).length=(B.at b n).length+(B.at (1-b) m).length:=by
 unfold y1t;split<;>rw[l13];omega
theorem v5w {B:Bd}(h:BdOk B){b n:Int}(hn:z3m b n=0):BdOk (B.put b n []):=h.put hn (l16 _) (λi hi=>by cases hi) (λi=>by
 have D:=l85.1 h.nd i
 simp only[l134];omega)
end Go.G08
namespace Go.Lw
open Go.RowKit
section
variable {κ:Type} [DecidableEq κ] {V:κ->Value} {P:Program} {K:TypeId}
variable {a:Act} {n:Nat} {L:List (Nat×Value)} {ds:List Nat} {w w':World} {Q:Exit->Act->World->Prop} {ops:Array Oper} {rest:List Oper}
variable {d:Nat} {ty:TypeId} {pos:String} {after:Array Edge} {x y z' r:Operand} {t E:TypeId}
theorem z5f (V:κ->Value){k:IntKind}{i:Int}(h:AgM ds a n L)(D:ev L r=some (.int k i))(I:P.underlying t=some (.map K E))(hn:lbt d n)
    (q:∀g w',g=w.heap.size->MapF V w' g (λ_=>none)->Fr [] w w'->w'.heap.size=g+1->∀a,AgM ds a n ((d,.map<|some g)::L)->wpList P ops Q rest a w'):wpList P ops Q (⟨some d,.makeMap t<|some r,ty,pos,after,none⟩::rest) a w:=
  z2c h U hn (w':=w.alloc<|.map #[] 0) (by simp[execOp,Instr.makeMap,h.eval D,run_underlying I,asInt,asIntOf]) (q _ _ U ⟨_,_,[],heap_alloc_new w _,sp0,λ_=>rfl⟩ (Fr.alloc [] w _) sp0)
theorem v6t (V:κ->Value){k:IntKind}{i:Int}(D:ev L r=some (.int k i))(I:P.underlying t=some (.map K E))(hn:lbt d n)(q:∀g w',g=w.heap.size->MapF V w' g (λ_=>none)->Fr [] w w'->w'.heap.size=g+1->WL P ops Q rest n ds w' ((d,.map<|some g)::L)):WL P ops Q (⟨some d,.makeMap t<|some r,ty,pos,after,none⟩::rest) n ds w L:=λa h=>z5f V h D I hn q
def y2k (l:List κ)(k:κ):Option Value:=if k∈l then some (.bool true) else none
theorem v2o:y2k ([]:List κ)=λ_=>none:=by funext k;simp[y2k]
theorem x1m (l:List κ)(k:κ):(λk'=>if k'=k then some (Value.bool true) else y2k l k')=y2k (l++[k]):=by
 funext k';unfold y2k;by_cases h:k'=k;subst h;simp;simp[h]
theorem v3o (l:List κ)(k:κ):(y2k l k).getD (.bool false)=.bool (decide (k∈l)):=by
 unfold y2k;by_cases h:k∈l;rw[if_pos h,decide_eq_true h];rfl;rw[if_neg h,decide_eq_false h];rfl
theorem MapF.turn {g n0:Nat}{f:κ->Option Value}(h:MapF V w g f)(ht:Turn n0 w w')(Z:g<n0):MapF V w' g f:=by
 obtain⟨D,c,m,I,O⟩:=h;exact⟨D,c,m,ht.at I<|.inr Z,O⟩
theorem MapF.noncells {g:Nat}{f:κ->Option Value}(h:MapF V w g f):v4k w g:=let ⟨_,_,_,h1,_⟩:=h;⟨_,h1,rfl⟩
end
end Go.Lw
namespace Go.Proofs.YtkafbfjmcigaiaaGreatDoor
open Go.Lw Go.G21 Go.G08 _root_.Go.Proofs.Tryz
theorem x1i (q:BdQ)(w0:World):Rets prog 71 #[bvv q] w0 λr w'=>∃g,r=.func (.func 123) #[] #[pta g]/\w0.heap.size<=g/\Blk w' g 27 (bdL q)/\Fr [] w0 w':=by
 exact wf func71 U<|sr<|bx U<|λI w1 O D Z z1=>(asg U<|nn<|sr<|z5j z0f (ev1 U)<|asg U<|nn<|rt<|r1 U ⟨_,rfl,I,rfl,oo,D,Z⟩)
theorem y4h (q:BdQ)(w0:World):Rets prog 24 #[bvv q] w0 λr w'=>∃g,r=.func (.func 70) #[] #[pta g]/\w0.heap.size<=g/\Blk w' g 27 (bdL q)/\Fr [] w0 w':=by
 exact wf func24 U<|sr<|bx U<|λI w1 O D Z z1=>(asg U<|nn<|sr<|z5j z0f (ev1 U)<|asg U<|nn<|rt<|r1 U ⟨_,rfl,I,rfl,oo,D,Z⟩)
theorem y6i (N gD:Nat)(q:BdQ)(wS:World)(a4:Blk wS gD 27 (bdL q)):k6w N prog 123 #[pta gD] (bdE q) (KeepN [] [gD]<|wS.heap.size+2) (λxs:List Bool=>xs=[false,true]) (λ_=>True) (λs=>s <+: [false,true]) 2 wS:=by
 intro ly J Jx w0 Z a7 a6 a5 a0 a1;have O:=a4.ext<|Fr.of_below' Z<|l20 _;refine wfI func123 U<|isq<|k9d 3 U U U t14<|mv U<|fad U y5d<|z0i U O U x4d<|q1q U (ev2 U) (q0l (Pf:=λs=>s <+: [false,true]) (x:=false) a0 a1 dd sp0 (by rfl)) U ?_;rintro _ w1 (⟨rfl,D,a2⟩|⟨rfl,D,_⟩);have a3:=O.keep a2.1.1<|l11.2 U;refine inl<|itn<|ict U<|k9d 3 U U U t14<|mv U<|fad U y1o<|z0i U a3 U x4d<|q1q U (ev2 U) (q0l (Pf:=λs=>s <+: [false,true]) (x:=true) a0 D dd sp0 (by rfl)) U ?_;rintro _ w2 (⟨rfl,I,_⟩|⟨rfl,I,_⟩);exact kpL [] .nil<|inl<|r0n U<|⟨⟨_,rfl⟩,.inl ⟨[false,true],rfl,I⟩⟩;exact kpL [] .nil<|inl<|r0n U<|⟨⟨_,rfl⟩,.inr ⟨_,trivial,I⟩⟩;exact inl<|itn<|icf U<|isk<|r0n U<|⟨⟨_,rfl⟩,.inr ⟨_,trivial,D⟩⟩
theorem k9c:z2e prog 134:=λ_=>kr
theorem y1q (N gD:Nat)(q:BdQ)(wS:World)(hN:1<=N)(b7:Blk wS gD 27 (bdL q))(hS:BdS wS q)(hf:q.fs.length<=40)(hb:q.bs.length<=40):k6w N prog 70 #[pta gD] (ndE q) (KeepN [134,27] (bdB q)<|wS.heap.size+2) (λxs:List (Bool×Nat)=>xs=ndP q [false,true]) (λ_=>True) (λs=>s <+: ndP q [false,true]) 81 wS:=by
 intro ly J Jx w0 b0 e0 a3 a1 b9 b2;have hF:Fr [] wS w0:=Fr.of_below' b0<|l20 _;refine wfN func70 U<|isq<|irg U<|bx U<|λg2 w1 d1 a0 q1 z1=>(inl<|itn<|isq<|irg U ?_);have b6:=(b7.ext hF).ext q1;refine z0l U b6 z4y<|cl (ev1 U) cO (x1i q _) ?_;rintro _ w2 ⟨g8,rfl,d3,a6,q2⟩;refine inl<|itn<|ibl ?_;have a0:=a0.ext q2;have b5:=hS.ext<|hF.next<|q1.n1 q2;have d0:=a0.lt;have b1:=a6.lt;have b3:=a3 _ _ _ (Turn.of_fr<|q1.n1 q2) b2;refine x6n (ll2 2 8) U ?_;refine v8n (α:=Bool) U cO hN (y6i (N-1) g8 q w2 a6) (λb hb=>by rw[l11.1 hb];exact b1) (λ_=>rfl)
  (λx=>[(10,slv<|q.h x),(9,.int .u8<|y2c x)]) (λx=>by simp[bdE,y2c]) (λx=>rfl)
  (λs W=>J (ndP q s) W/\Blk W g2 134 [.func (.yield ly) #[] #[]]/\Blk W g8 27 (bdL q)/\BdS W q/\w2.heap.size<=W.heap.size) (λ_ W=>∃pre,Jx pre W)
  (λs W W' ht h=>⟨a3 _ _ _ (ht.low oo) h.1,h.2.1.turn ht,h.2.2.1.turn ht,h.2.2.2.1.turn ht,let ⟨_,hg,_⟩:=ht;l42 h.2.2.2.2 hg.size⟩) (λs W W' ht h=>let ⟨p,hp⟩:=h;⟨p,a1 _ _ _ (ht.low oo) hp⟩)
  ⟨b3,a0,a6,b5,l20 _⟩ (λx=>[(4,slv<|q.h x),(3,.int .u8<|y2c x)]) [(2,pta g2)] U ?_ ?_ ?_ ?_
 intro lN pre x w3 hi;exact x6n (ll3 9 10 2) U<|isq<|irg U<|asg U<|inl<|itn<|irg U<|asg U<|inl<|asU<|U;rintro lN pre x w3 d5 ⟨b4,a9,Z,a8,c9⟩ d6 b8;have d7:=u3a q hf hb pre;have d9:(q.r x).length<=40:=by cases x<;>assumption
 have d4:=a8.len x;refine ibl<|isq<|irg U<|mv U<|lnS U<|mv U<|inl<|itn<|ibl<|u8f (ι:=Nat) (ll4 2 3 11 12) (λi=>[(13,.int .i64 (i:Int))]) (λi w'=>J (ndP q pre++ndR q x i) w'/\i<=(q.r x).length/\KeepN [134,27] (bdB q) w2.heap.size w3 w') (λi=>(q.r x).length-i) 0 U ⟨by simpa[ndR] using b4,l16 _,KeepN.refl⟩ ?_;rintro i w4 ⟨a7,hi,I⟩;have a2:=a9.keepT I.1 dd;have a5:=a8.keep I;refine x6n [(2,_),(3,_),(11,_),(12,_),(13,.int .i64 (i:Int))] U<|isq<|irg U<|lt' U<|inl<|itn<|isq<|icd U (λc0=>?_)<|λc0=>?_;refine isk<|itn<|isq<|ibl<|isq<|irg U<|mv U<|z1a (p:=i) (iq0) U (a5.sel x) U y4d oo<|λad hc=>(z1c U (hc _<|a5.sel x) z6k<|asg U<|asg U<|inl<|itn<|isq<|isq<|irg U<|mv U<|ge' U<|inl<|itn<|icd U (λc1=>absurd c1 oo)<|λc1=>(isk<|itn<|isq<|k9d 6 U U U t14<|z2a U a2 k9c<|mv U<|mv U<|ad6 U<|z1r (cs:=[_,_]) (ev2 U) y8v (z0g U<|z0g U z0r) U ?_));refine mv U<|q1q U (ev2 U) (q0l (Pf:=λs=>s <+: ndP q [false,true]) (x:=(x,i)) b9 a7 (by rw[l13,u3l];omega) (k5i b8 oo) (by rfl)) U ?_;rintro _ w5 (⟨rfl,O,a4⟩|⟨rfl,O,a4⟩);exact nt' U<|inl<|itn<|icf U<|isk<|bn'<|itn<|irg U<|ad6 U<|mv U<|inl<|u5n (i+1) U ⟨by rw[v1e,<-l14];exact O,oo,I.trans (a4.low oo)⟩ oo;exact nt' U<|inl<|itn<|ict U<|irt<|rb<|tr<|tr<|rb<|rb<|rndX (I.2.trans<|KeepsFrom.low a4 oo) ⟨_,O⟩;obtain rfl:i=(q.r x).length:=by omega
 exact iex<|te<|te<|xh<|bn'<|rndK I.2 ⟨λb hb=>by rw[l11.1 hb];exact(show w4.heap[g8]?=_ from Z.keepT I.1 dd).trans (show w3.heap[g8]?=_ from Z).symm,λ_ _ _ _ h=>by cases h⟩ ⟨by rw[u8r];exact a7,a2,Z.keepT I.1 dd,a5,l42 c9 I.2.size⟩;rintro D xs W hD rfl ⟨O,_⟩ hm;refine bn'<|rM0n U (x0i hm) sp0 ?_;intro w6 q6;exact⟨⟨_,rfl⟩,.inl ⟨_,rfl,a3 _ _ _ (Turn.of_mark q6 hm oo) O⟩⟩;rintro D pre W hD _ ⟨p,hp⟩ hm;refine rb<|rM0 U (x0i hm) sp0 ?_;intro w6 q6;exact⟨⟨_,rfl⟩,.inr ⟨_,trivial,a1 _ _ _ (Turn.of_mark q6 hm oo) hp⟩⟩
theorem y3r (q:BdQ)(w0:World)(hB:BdAt w0 q)(hf:q.fs.length<=40)(hb:q.bs.length<=40)(h4:z9v q.fs)(a6:z9v q.bs):Rets prog 29 #[bvv q] w0 λr w'=>r=.int .i64 (q.p.flat.length:Int)/\Fr [] w0 w':=by
 refine wfM func29 U ?_;have O:=hB;refine isq<|irg U<|bx U<|λg1 w1 b1 a0 q1 z1=>(asg U<|inl<|itn<|isq<|irg U<|al zv3 U<|λg3 w2 b2 D q2 z2=>(z3i U D U sz3<|λw3 D q3 z3=>(inl<|itn<|isq<|isq<|irg U ?_)));have a0:=(a0.ext q2).fr q3;refine z0l U a0 z4y<|cl (ev1 U) cO (y4h q _) ?_;rintro _ w4 ⟨g7,rfl,a9,a3,q4⟩;have z4:=q4.size;refine inl<|itn<|ibl ?_;have a1:∀b∈bdB q,b<w0.heap.size:=BdS.lt O.s;have D:=D.ext q4;have hB:=O.ext<|q1.z3 q2 q3 q4;refine v8n (α:=Bool×Nat) U cO dd (y1q 8 g7 q w4 dd a3 hB.s hf hb) (BdS.lt hB.s) (λ_=>rfl) (λx=>[(9,.slice ((q.r x.1).getD x.2 iq0).1.1 ((q.r x.1).getD x.2 iq0).1.2.1 ((q.r x.1).getD x.2 iq0).1.2.2),(8,.agg #[.int .u8 (y2c x.1),.int .i64 ((x.2:Int)+1)])]) (λx=>by simp[ndE,slv]) (λ_=>rfl) (λ(s:List (Bool×Nat)) (W:World)=>Fr [g3] w4 W/\Blk W g3 3 [.int .i64 (ndN q s:Int)]/\s.length<=81) (λ_ _=>False) (λs W W' ht h=>⟨h.1.turn ht<|l20 _,h.2.1.turn ht,h.2.2⟩) (λ_ _ _ _ h=>h.elim) ⟨l12 _ _,D,l16 _⟩ (λx=>[(5,.slice ((q.r x.1).getD x.2 iq0).1.1 ((q.r x.1).getD x.2 iq0).1.2.1 ((q.r x.1).getD x.2 iq0).1.2.2)]) (ll1 3) U ?_ ?_ ?_<|λ_ _ _ _ _ h _=>h.elim;rintro lN pre x w5 ⟨q5,D,a4⟩;exact x6n [(8,.agg #[.int .u8 (y2c x.1),.int .i64 ((x.2:Int)+1)]),(9,.slice ((q.r x.1).getD x.2 iq0).1.1 ((q.r x.1).getD x.2 iq0).1.2.1 ((q.r x.1).getD x.2 iq0).1.2.2),(3,_)] U<|irg U<|asg U<|inl<|asU<|U;rintro lN pre x w6 b3 ⟨q6,D,a4⟩ b4 b6;have z6:=q6.size;have Z:=D.lt;have a2:=D;have b5:=j1t q h4 a6 pre;have b7:=z4a (show z9v (q.r x.1) by cases x.1<;>assumption) x.2;have a8:((q.r x.1).getD x.2 iq0).1.2.1=((q.r x.1).getD x.2 iq0).2.length:=z2f<|z1y (show IqAt w0 (q.r x.1) by cases x.1;exact O.fi;exact O.bi) x.2;exact ibl<|irg U<|z2a U D na3<|mv U<|lnS U<|ad6 U<|z3i U D U sz3<|λw7 D q7 z7=>(kpL [] .nil<|inl<|bn'<|j6s (S:=[g3]) ((l12 [g3] _).z1 q7) (λk hk _=>by cases l11.1 hk;exact .inl<|a2.tyC dd) (λb hb=>l99 (a1 b hb) oo) (λb hb e=>by simp at e;have:=a1 b hb;omega) ⟨((l12 [g3] _).z2 q6 q7),by rw[j0s,<-a8];exact D,by rw[l13];simp;omega⟩);rintro D1 b8 w8 b0 hS ⟨q8,D,a4⟩ I;have z8:=q8.size;have a7:=I;have a5:=I.lt;have Z:=D.lt;subst hS;rw[j6d]at D;refine bn'<|itn<|isq<|irg U<|z2a U D na3<|asg U<|inl<|itn<|irt<|rM1 U U (x0i I) sp0 ?_;intro w9 q9;exact⟨_,rfl,rfl,(q1.z5 q2 q3 q4 q8 q9)⟩
theorem k8m:z2e prog 41:=λ_=>kr
theorem u3s:z2e prog 169:=λ_=>kr
theorem k8l:z1s prog 41 1:=λ_=>kr
theorem k3q:z1s prog 169 1:=λ_=>kr
theorem zv4 (w:World):(zeroValue 4).run prog w=.ok (.bool false) w:=kr
theorem zv41 (w:World):(zeroValue 41).run prog w=.ok (.int .i64 0) w:=kr
theorem k3o (w:World):(zeroValue 169).run prog w=.ok (.map none) w:=kr
theorem u9r (q:BdQ)(w0:World)(hB:BdAt w0 q)(hv:BdW q.p):Rets prog 46 #[bvv q] w0 λr w'=>r=.int .i64 (if q.p.flat.Nodup then 0 else 8)/\Fr [] w0 w':=by
 obtain⟨⟨hf,hb⟩,h4,k6⟩:=v9m hv;refine wfM func46 U ?_;have a1:=hB;refine isq<|irg U<|bx U<|λg1 w1 k9 a2 q1 z1=>(al zv41 U<|λg2 w2 l0 I q2 z2=>(inl<|itn<|isq<|isq<|irg U ?_));have a2:=a2.ext q2;refine z0l U a2 z4y<|cl (ev1 U) cO (x1i q _) ?_;rintro _ w3 ⟨g8,rfl,h3,b4,q3⟩;have z3:=q3.size;refine inl<|itn<|ibl ?_;have i0:=b4.lt;refine v8n (α:=Bool) U cO dd (y6i 8 g8 q w3 b4) (λb O=>by rw[l11.1 O];exact b4.lt) (λ_=>rfl) (λx=>[(23,.slice (q.h x).1 (q.h x).2.1 (q.h x).2.2),(22,.int .u8<|y2c x)]) (λx=>by simp[bdE,y2c,slv]) (λ_=>rfl) (λ(s:List (Bool)) (W:World)=>Fr [] w3 W/\True) (λ_ _=>False) (λs W W' ht h=>⟨h.1.turn ht<|l20 _,h.2⟩) (λ_ _ _ _ h=>h.elim) ⟨l12 _ _,trivial⟩ (λx=>[(4,.slice (q.h x).1 (q.h x).2.1 (q.h x).2.2)]) (ll2 1 2) U ?_ ?_ ?_<|λ_ _ _ _ _ h _=>h.elim;rintro lN pre x w4 ⟨q4,-⟩;exact x6n [(22,.int .u8<|y2c x),(23,.slice (q.h x).1 (q.h x).2.1 (q.h x).2.2),(1,_),(2,_)] U<|irg U<|asg U<|inl<|asU<|U;rintro lN pre x w5 f4 ⟨q5,-⟩ f5 e6;have z5:=q5.size;have f3:=(BdS.len a1.s x);have f7:(q.r x).length<=40:=by cases x<;>assumption
 have d6:z9v (q.r x):=by cases x<;>assumption
 refine ibl<|isq<|isq<|irg U<|mv U<|lnS U<|gt' U<|inl<|itn<|icd U (λc0=>?_)<|λc0=>?_;exfalso;omega;refine isk<|itn<|isq<|irg U<|mv U<|lnS U<|mv U<|inl<|itn<|ibl<|u8f (ι:=Nat) (ll3 2 27 28) (λi=>[(29,.int .i64 (i:Int))]) (λi w'=>Fr [] w5 w'/\i<=(q.r x).length) (λi=>(q.r x).length-i) 0 U ⟨l12 _ _,l16 _⟩ ?_;rintro i w6 ⟨q6,hi⟩;have z6:=q6.size;refine x6n (ll4 2 27 28 29) U<|isq<|irg U<|lt' U<|inl<|itn<|isq<|icd U (λc1=>?_)<|λc1=>?_;have f9:=z2f<|z1y (a1.iq x) i;have f8:=z4a d6 i;refine isk<|itn<|isq<|ibl<|isq<|irg U ?_;have hB:=a1.ext<|q1.n4 q2 q3 q5 q6;refine z1a (iq0) U (hB.s.sel x) U y4d z1j<|λj3 e8=>?_;refine z1c U (e8 _<|hB.s.sel x) z6k<|asg U<|inl<|itn<|isq<|irg U<|mv U<|lnS U<|gt' U<|inl<|itn<|icd U (λc2=>?_)<|λc2=>?_;exfalso;omega;exact isk<|bn'<|itn<|irg U<|ad6 U<|mv U<|inl<|u5n (i+1) U ⟨q6,oo⟩ oo;obtain rfl:i=(q.r x).length:=by omega
 exact iex<|te<|te<|xh<|bn'<|j6s (S:=[]) q6 sp0 (λb O=>by rw[l11.1 O];omega) sp0 ⟨(q5.n1 q6),trivial⟩;rintro D1 g6 w7 k7 hS ⟨q7,-⟩ b1;have z7:=q7.size;have d3:=b1;have g0:=b1.lt;refine bn'<|itn<|isq<|isq<|irg U ?_;have a2:=a2.ext<|q3.n1 q7;refine z0l U a2 z4y<|cl (ev1 U) cO (x1i q _) ?_;rintro _ w8 ⟨g9,rfl,h5,b5,q8⟩;have z8:=q8.size;refine inl<|itn<|ibl ?_;have i1:=b5.lt;refine v8n (α:=Bool) U cO dd (y6i 8 g9 q w8 b5) (λb O=>by rw[l11.1 O];exact b5.lt) (λ_=>rfl) (λx=>[(40,.slice (q.h x).1 (q.h x).2.1 (q.h x).2.2),(39,.int .u8<|y2c x)]) (λx=>by simp[bdE,y2c,slv]) (λ_=>rfl) (λ(s:List (Bool)) (W:World)=>Fr [] w8 W/\True) (λ_ _=>False) (λs W W' ht h=>⟨h.1.turn ht<|l20 _,h.2⟩) (λ_ _ _ _ h=>h.elim) ⟨l12 _ _,trivial⟩ (λx=>[(8,.slice (q.h x).1 (q.h x).2.1 (q.h x).2.2)]) (ll2 1 2) U ?_ ?_ ?_<|λ_ _ _ _ _ h _=>h.elim;rintro lN pre x w9 ⟨q9,-⟩;exact x6n [(39,.int .u8<|y2c x),(40,.slice (q.h x).1 (q.h x).2.1 (q.h x).2.2),(1,_),(2,_)] U<|irg U<|asg U<|inl<|asU<|U;rintro lN pre x i9 f4 ⟨e0,-⟩ f5 e6;have n9:=e0.size;have f3:=(BdS.len a1.s x);have f7:(q.r x).length<=40:=by cases x<;>assumption
 have d6:z9v (q.r x):=by cases x<;>assumption
 refine ibl<|isq<|irg U<|mv U<|lnS U<|mv U<|inl<|itn<|ibl<|u8f (ι:=Nat) (ll3 2 41 42) (λi=>[(43,.int .i64 (i:Int))]) (λi w'=>Fr [] i9 w'/\i<=(q.r x).length) (λi=>(q.r x).length-i) 0 U ⟨l12 _ _,l16 _⟩ ?_;rintro i j0 ⟨b9,hi⟩;have o0:=b9.size;refine x6n (ll4 2 41 42 43) U<|isq<|irg U<|lt' U<|inl<|itn<|isq<|icd U (λc3=>?_)<|λc3=>?_;have f9:=z2f<|z1y (a1.iq x) i;have f8:=z4a d6 i;refine isk<|itn<|isq<|ibl<|isq<|irg U ?_;have hB:=a1.ext<|q1.n6 q2 q3 q7 q8 e0 b9;refine z1a (iq0) U (hB.s.sel x) U y4d z1j<|λj4 e9=>?_;refine z1c U (e9 _<|hB.s.sel x) z6k<|asg U<|inl<|itn<|isq<|irg U<|mv U<|lnS U<|mv U<|inl<|itn<|ibl<|u8f (ι:=Nat) (ll6 2 41 42 43 47 48) (λj=>[(49,.int .i64 (j:Int))]) (λj w'=>Fr [] j0 w'/\j<=((q.r x).getD i iq0).2.length) (λj=>((q.r x).getD i iq0).2.length-j) 0 U ⟨l12 _ _,l16 _⟩ ?_;rintro j l2 ⟨e3,hj⟩;have o1:=e3.size;refine x6n (ll7 2 41 42 43 47 48 49) U<|isq<|irg U<|lt' U<|inl<|itn<|isq<|icd U (λc4=>?_)<|λc4=>?_;have h9:=v5h hv x (i:=i) (j:=j) oo oo;refine isk<|itn<|isq<|ibl<|isq<|irg U ?_;have hB:=a1.ext<|(q1.n6 q2 q3 q7 q8 e0 b9).n1 e3;refine z1a (id0) U (z1y (hB.iq x) i) U z4m z1j<|λj5 f0=>?_;refine z1q U (f0 _<|z1y (hB.iq x) i) z2y<|al z9l U<|λk2 l3 j8 d1 i3 o2=>?_;refine z0j (vs:=[_,_]) U d1 y1b (λl4 d1 i4 o3=>?_) (h1:=(by first|(simp[Value.oneCell',S];done)|exact z1h.one<|((q.r x).getD i iq0).2.getD j id0));refine inl<|itn<|isq<|irg U<|z0l U d1 z2y<|cl (ev1 U) cO (x3d (((q.r x).getD i iq0).2.getD j id0) _) ?_;rintro _ l5 ⟨rfl,g4⟩;have o4:=g4.size;refine nt' U<|inl<|itn<|icd U (λc5=>?_)<|λc5=>?_;exact absurd h9 c5;exact isk<|bn'<|itn<|irg U<|ad6 U<|mv U<|inl<|u5n (j+1) U ⟨(e3.z3 i3 i4 g4),oo⟩ oo;obtain rfl:j=((q.r x).getD i iq0).2.length:=by omega
 exact iex<|te<|te<|xh<|bn'<|itn<|irg U<|ad6 U<|mv U<|inl<|u5n (i+1) U ⟨(b9.n1 e3),oo⟩ oo;obtain rfl:i=(q.r x).length:=by omega
 exact iex<|te<|te<|xh<|bn'<|j6s (S:=[]) b9 sp0 (λb O=>by rw[l11.1 O];omega) sp0 ⟨(e0.n1 b9),trivial⟩;rintro D2 g6 l6 k8 hS ⟨a7,-⟩ b2;have o5:=a7.size;have d4:=b2;have g3:=b2.lt;refine bn'<|itn<|isq<|irg U ?_;have a2:=a2.ext<|q8.n1 a7;refine z0l U a2 z4y ?_;have hB:=a1.ext<|q1.n5 q2 q3 q7 q8 a7;refine cl (ev1 U) cO (y3r q _ hB oo oo t13 t13) ?_;rintro _ l7 ⟨rfl,a4⟩;have o6:=a4.size;refine v6t idV U underlying169 U<|λD l8 k1 hm a8 o7=>?_;rw[<-v2o]at hm;refine al k3o U<|λk4 l9 j9 b0 a5 o8=>(z3i U b0 U k3q<|λm0 b0 a6 o9=>(inl<|itn<|isq<|isq<|irg U ?_));have a2:=(a2.ext<|a4.n2 a8 a5).fr a6;refine z0l U a2 z4y<|cl (ev1 U) cO (x1i q _) ?_;rintro _ e7 ⟨h0,rfl,h6,b6,Z⟩;have p0:=Z.size;refine inl<|itn<|ibl ?_;have i2:=b6.lt;have hm:=((hm.ext a5).fr a6 so).ext Z;refine v8n (α:=Bool) U cO dd (y6i 8 h0 q e7 b6) (λb O=>by rw[l11.1 O];exact b6.lt) (λ_=>rfl) (λx=>[(64,.slice (q.h x).1 (q.h x).2.1 (q.h x).2.2),(63,.int .u8<|y2c x)]) (λx=>by simp[bdE,y2c,slv]) (λ_=>rfl) (λ(s:List (Bool)) (W:World)=>Fr [D] e7 W/\MapF idV W D (y2k<|y7l q s)/\(y7l q s).Nodup) (λ(_:List (Bool)) (W:World)=>Fr [D,g2] e7 W/\Blk W g2 41 [.int .i64 8]/\¬q.p.flat.Nodup) (λs W W' ht h=>⟨h.1.turn ht<|l20 _,⟨h.2.1.turn ht oo,h.2.2⟩⟩) (λs W W' ht h=>⟨h.1.turn ht<|l20 _,⟨h.2.1.turn ht,h.2.2⟩⟩) ⟨l12 _ _,⟨hm,by simp[y7l]⟩⟩ (λx=>[(15,.slice (q.h x).1 (q.h x).2.1 (q.h x).2.2)]) (ll3 1 2 13) U ?_ ?_ ?_ ?_;rintro lN pre x m1 ⟨l1,⟨hm,a3⟩⟩;exact x6n [(63,.int .u8<|y2c x),(64,.slice (q.h x).1 (q.h x).2.1 (q.h x).2.2),(1,_),(2,_),(13,_)] U<|irg U<|asg U<|inl<|asU<|U;rintro lN pre x j1 f4 ⟨b7,⟨hm,a3⟩⟩ f5 e6;have p1:=b7.size;have f3:=(BdS.len a1.s x);have f7:(q.r x).length<=40:=by cases x<;>assumption
 have d6:z9v (q.r x):=by cases x<;>assumption
 have h7:=hm;refine ibl<|isq<|irg U<|mv U<|lnS U<|mv U<|inl<|itn<|ibl<|u8f (ι:=Nat) (ll4 2 13 65 66) (λi=>[(67,.int .i64 (i:Int))]) (λi w'=>Fr [D] j1 w'/\i<=(q.r x).length/\MapF idV w' D (y2k<|y7l q pre++x5y q x i)/\(y7l q pre++x5y q x i).Nodup) (λi=>(q.r x).length-i) 0 U ⟨l12 _ _,⟨l16 _,by simpa[x5y] using And.intro hm a3⟩⟩ ?_;rintro i j2 ⟨a9,⟨hi,⟨hm,a3⟩⟩⟩;have p3:=a9.size;refine x6n (ll5 2 13 65 66 67) U<|isq<|irg U<|lt' U<|inl<|itn<|isq<|icd U (λc6=>?_)<|λc6=>?_;have f9:=z2f<|z1y (a1.iq x) i;have f8:=z4a d6 i;refine isk<|itn<|isq<|ibl<|isq<|irg U ?_;have hB:=a1.ext<|(((q1.n6 q2 q3 q7 q8 a7 a4).n1 a8).n1 a5).z4 a6 Z b7 a9;refine z1a (iq0) U (hB.s.sel x) U y4d z1j<|λj6 f1=>?_;refine z1c U (f1 _<|hB.s.sel x) z6k<|asg U<|inl<|itn<|isq<|irg U<|mv U<|lnS U<|mv U<|inl<|itn<|ibl<|u8f (ι:=Nat) (ll7 2 13 65 66 67 71 72) (λj=>[(73,.int .i64 (j:Int))]) (λj w'=>Fr [D] j2 w'/\j<=((q.r x).getD i iq0).2.length/\MapF idV w' D (y2k<|y7l q pre++x5y q x i++((q.r x).getD i iq0).2.take j)/\(y7l q pre++x5y q x i++((q.r x).getD i iq0).2.take j).Nodup) (λj=>((q.r x).getD i iq0).2.length-j) 0 U ⟨l12 _ _,⟨l16 _,by rw[l90,l24];exact⟨hm,a3⟩⟩⟩ ?_;rintro j m2 ⟨b3,⟨hj,⟨hm,a3⟩⟩⟩;have p4:=b3.size;refine x6n (ll8 2 13 65 66 67 71 72 73) U<|isq<|irg U<|lt' U<|inl<|itn<|isq<|icd U (λc7=>?_)<|λc7=>?_;refine isk<|itn<|isq<|ibl<|isq<|irg U ?_;have hB:=a1.ext<|(((q1.n6 q2 q3 q7 q8 a7 a4).n1 a8).n1 a5).z5 a6 Z b7 a9 b3;refine z1a (id0) U (z1y (hB.iq x) i) U z4m z1j<|λj7 f2=>?_;refine z1q U (f2 _<|z1y (hB.iq x) i) z2y<|al z9l U<|λk5 m3 k0 b8 c9 p5=>?_;refine z0j (vs:=[_,_]) U b8 y1b (λm4 b8 d0 p6=>?_) (h1:=(by first|(simp[Value.oneCell',S];done)|exact z1h.one<|((q.r x).getD i iq0).2.getD j id0));refine inl<|itn<|isq<|isq<|irg U ?_;have b0:=(((((b0.ext Z).fr b7).fr a9).fr b3).ext c9).fr d0;refine z2a U b0 u3s<|z0l U b8 z2y ?_;have hm:=(hm.ext c9).fr d0 so;refine x3g (V:=idV) (k:=(((q.r x).getD i iq0).2.getD j id0)) (f:=y2k<|y7l q pre++x5y q x i++((q.r x).getD i iq0).2.take j) U U hm z7c underlying169 zv4 (v3o _ _) U<|inl<|itn<|icd U (λc8=>?_)<|λc8=>?_;have f6:¬q.p.flat.Nodup:=λh=>j8j (j:=j) h e6 (i:=i) oo oo c8;refine isq<|irg U ?_;have I:=(((((((I.ext<|q3.n6 q7 q8 a7 a4 a8 a5).fr a6).ext Z).fr b7).fr a9).fr b3).ext c9).fr d0;exact z3i U I U k8l<|λm5 I g5 p7=>(kpL (ll1 2) U<|inl<|itn<|irt<|tr<|rb<|tr<|tr<|rb<|rb<|tr<|tr<|rb<|rb<|rndR (S:=[D,g2]) ((l12 [D,g2] _).z5 a9 b3 c9 d0 g5) (by intro k hk _;right;simp at hk;omega) ⟨((l12 [D,g2] _).z6 b7 a9 b3 c9 d0 g5),⟨I,f6⟩⟩);refine isk<|itn<|irg U<|z2a U b0 u3s<|z0l U b8 z2y<|x1y (V:=idV) (k:=(((q.r x).getD i iq0).2.getD j id0)) U U U hm z7c underlying169<|λm6 hm i5 p8=>?_;rw[x1m]at hm;exact inl<|bn'<|itn<|irg U<|ad6 U<|mv U<|inl<|u5n (j+1) U ⟨((l12 [D] _).z4 b3 c9 d0 i5),⟨oo,by rw[z5p id0 oo,<-l14];exact⟨hm,l67.2 ⟨a3,sp0,λa ha b hb e=>c8 (by rw[<-l11.1 hb,<-e];exact ha)⟩⟩⟩⟩ oo;obtain rfl:j=((q.r x).getD i iq0).2.length:=by omega
 rw[l40]at hm a3;exact iex<|te<|te<|xh<|bn'<|itn<|irg U<|ad6 U<|mv U<|inl<|u5n (i+1) U ⟨((l12 [D] _).z2 a9 b3),⟨oo,by rw[x6m q x oo,<-l14];exact⟨hm,a3⟩⟩⟩ oo;obtain rfl:i=(q.r x).length:=by omega
 rw[u8l]at hm a3;exact iex<|te<|te<|xh<|bn'<|j6s (S:=[D]) ((l12 [D] _).z1 a9) (λk hk _=>.inr (by cases l11.1 hk;exact⟨oo,h7.noncells⟩)) (λb O=>by rw[l11.1 O];omega) (λb O e=>by rw[l11.1 O]at e;simp at e;omega) ⟨((l12 [D] _).z2 b7 a9),by rw[u3v];exact⟨hm,a3⟩⟩;rintro D3 g6 m7 h2 hS ⟨d9,⟨hm,a3⟩⟩ a0;have p9:=d9.size;have d5:=a0;have d7:=a0.lt;refine bn'<|itn<|isq<|irg U ?_;have I:=(((I.ext<|q3.n6 q7 q8 a7 a4 a8 a5).fr a6).ext Z).fr d9;refine z3i U I U k8l<|λm8 I e4 q0=>(inl<|itn<|irt ?_);have a0:=d5.fr ((l12 [g2] _).z1 e4) so;have b2:=d4.fr (((l12 [g2] _).z6 a4 a8 a5 a6 Z d9).z1 e4) so;have b1:=d3.fr ((((l12 [g2] _).z6 q8 a7 a4 a8 a5 a6).n1 Z).z2 d9 e4) so;refine rM1c U U I k8m (j3n a0 b2 b1) so ?_;intro m9 i7;exact⟨_,rfl,by rw[if_pos (by rw[<-v4a];subst hS;exact a3)],((((q1.n6 q2 q3 q7 q8 a7 a4).n1 a8).n1 a5).z5 a6 Z d9 e4 i7)⟩;rintro D3 _ n7 h2 _ ⟨e5,⟨I,h8⟩⟩ a0;have r4:=e5.size;have d5:=a0;have d7:=a0.lt;have g7:=I.lt;refine rb<|tr ?_;have b2:=d4.fr ((l12 [g2] _).z6 a4 a8 a5 a6 Z e5) so;have b1:=d3.fr ((((l12 [g2] _).z6 q8 a7 a4 a8 a5 a6).n1 Z).z1 e5) so;refine rM1c U U I k8m (j3n a0 b2 b1) so ?_;intro n8 i8;exact⟨_,rfl,by rw[if_neg h8],((((q1.n6 q2 q3 q7 q8 a7 a4).n1 a8).n1 a5).z4 a6 Z e5 i8)⟩
theorem x3r (q:BdQ)(w0:World)(I:BdAt w0 q)(D:BdOk q.p):Rets prog 46 #[bvv q] w0 λr w'=>r=.int .i64 0/\Fr [] w0 w':=by
 have x:=u9r q w0 I D.w;rw[if_pos D.nd]at x;exact x
theorem x4n (q:BdQ)(b:Int)(n:Nat)(v:Value)(l:List LId)(w0:World)(hB:BdAt w0 q)(hs:Sl z1h w0 v l)(hv:BdOk q.p)(hn:z3m b (n:Int)=0)(f1:l.length<=4)(f3:∀i∈l,y2t i)(hd:∀i,q.p.flat.count i+l.count i<=(q.p.at b (n:Int)).count i+1):Rets prog 115 #[bvv q,.agg #[.int .u8 b,.int .i64 (n:Int)],v] w0 λr w'=>(∃q':BdQ,r=.tuple #[.agg (bdL q').toArray,.int .i64 0]/\BdO 32 54 w0.heap.size w' q'/\q'.p=q.p.put b (n:Int) l)/\Fr [] w0 w':=by
 obtain⟨⟨hf,hb⟩,h4,e9⟩:=z3f hv;have i8:=z2t hn;obtain⟨A,c,rfl,i1⟩:=id hs.form;refine wfM func115 U ?_;have b1:=hB;have b9:=hs;refine isq<|irg U<|bx U<|λg3 w1 i2 a5 q1 z1=>(bx U<|λg4 w2 i3 a6 q2 z2=>(al x9w U<|λg6 w3 i4 b6 q3 z3=>(asg U<|inl<|itn<|isq<|isq<|irg U ?_)));have a5:=a5.ext<|q2.n1 q3;refine z0l U a5 z4y ?_;have hB:=b1.ext<|q1.n2 q2 q3;refine cl (ev1 U) cO (x3r q _ hB hv) ?_;rintro _ w4 ⟨rfl,q4⟩;have z4:=q4.size;refine asg U<|inl<|itn<|isq<|irg U<|mv U<|ne' U<|inl<|itn<|icd U (λc0=>?_)<|λc0=>?_;exact absurd U c0;refine isk<|itn<|isq<|isq<|irg U ?_;have a6:=a6.ext<|q3.n1 q4;refine z0l U a6 z5k<|cl (ev1 U) u8u (z5m _ _ _) ?_;rintro _ w5 ⟨rfl,q5⟩;have z5:=q5.size;refine ne' U<|inl<|itn<|icd U (λc1=>?_)<|λc1=>?_;exact absurd hn (by simpa using c1);refine isk<|itn<|isq<|isq<|irg U<|mv U<|lnS U<|mv U<|inl<|itn<|ibl<|u8f (ι:=Nat) (ll6 2 3 4 6 28 29) (λj=>[(30,.int .i64 (j:Int))]) (λj w'=>Fr [] w5 w'/\j<=l.length) (λj=>l.length-j) 0 U ⟨l12 _ _,l16 _⟩ ?_;rintro j w6 ⟨q6,hj⟩;have z6:=q6.size;refine x6n (ll7 2 3 4 6 28 29 30) U<|isq<|irg U<|lt' U<|inl<|itn<|isq<|icd U (λc2=>?_)<|λc2=>?_;have f2:=f3 _<|z1b (d:=id0) (i:=j) (l:=l) oo;refine isk<|itn<|isq<|ibl<|isq<|irg U ?_;have hs:=b9.ext<|q1.n5 q2 q3 q4 q5 q6;refine z1a (id0) U hs U z4m z1j<|λg5 d6=>?_;refine z1q U (d6 _ hs) z2y<|al z9l U<|λh6 w7 g9 b4 q7 z7=>?_;refine z0j (vs:=[_,_]) U b4 y1b (λw8 b4 q8 z8=>?_) (h1:=t26);refine inl<|itn<|isq<|irg U<|z0l U b4 z2y<|cl (ev1 U) cO (x3d (l.getD j id0) _) ?_;rintro _ w9 ⟨rfl,q9⟩;have z9:=q9.size;refine nt' U<|inl<|itn<|icd U (λc3=>?_)<|λc3=>?_;exact absurd f2 c3;exact isk<|bn'<|itn<|irg U<|ad6 U<|mv U<|inl<|u5n (j+1) U ⟨(q6.z3 q7 q8 q9),oo⟩ oo;obtain rfl:j=l.length:=by omega
 refine iex<|te<|te<|xh<|itn<|isq<|isq<|irg U<|mv U<|lnS U<|gt' U<|kpL (ll5 2 3 4 6 41) U<|inl<|itn<|icd U (λc4=>?_)<|λc4=>?_;exfalso;omega;refine isk<|itn<|isq<|irg U<|y7z idV U<|λD j5 h5 Z a3 l4=>?_;rw[<-v2o]at Z;refine al k3o U<|λh7 j6 h0 I a0 l5=>(z3i U I U k3q<|λj7 I a1 l6=>(inl<|itn<|isq<|isq<|irg U ?_));have a5:=(a5.ext<|q4.n4 q5 q6 a3 a0).fr a1;refine z0l U a5 z4y<|cl (ev1 U) cO (y4h q _) ?_;rintro _ e7 ⟨e8,rfl,f0,b7,O⟩;have l7:=O.size;refine inl<|itn<|ibl ?_;have a8:∀b∈bdB q,b<w0.heap.size:=BdS.lt b1.s;have Z:=((Z.ext a0).fr a1 so).ext O;have hB:=b1.ext<|(((q1.n6 q2 q3 q4 q5 q6 a3).n1 a0).z1 a1).n1 O;refine k7u (α:=Bool×Nat) U cO dd (y1q 8 e8 q e7 dd b7 hB.s hf hb) (BdS.lt hB.s) (λ_=>rfl) (λx=>[(47,.slice ((q.r x.1).getD x.2 iq0).1.1 ((q.r x.1).getD x.2 iq0).1.2.1 ((q.r x.1).getD x.2 iq0).1.2.2),(46,.agg #[.int .u8 (y2c x.1),.int .i64 ((x.2:Int)+1)])]) (λx=>by simp[ndE,slv]) (λ_=>rfl) (λ(s:List (Bool×Nat)) (W:World)=>Fr [D] e7 W/\MapF idV W D (y2k<|v1a q b (n:Int) s)) (λ_ _=>False) (λs W W' ht h=>⟨h.1.turn ht<|l20 _,h.2.turn ht oo⟩) (λ_ _ _ _ h=>h.elim) (λs W h=>h.1.size) ⟨l12 _ _,Z⟩ 48 (λx=>[.int .u8 (y2c x.1),.int .i64 ((x.2:Int)+1)]) (λg x=>[(12,pta g),(13,.slice ((q.r x.1).getD x.2 iq0).1.1 ((q.r x.1).getD x.2 iq0).1.2.1 ((q.r x.1).getD x.2 iq0).1.2.2)]) (ll2 4 11) U ?_ ?_ ?_<|λ_ _ _ _ _ h _=>h.elim;rintro lN pre x j8 ⟨j4,Z⟩ j1;refine x6n [(46,.agg #[.int .u8 (y2c x.1),.int .i64 ((x.2:Int)+1)]),(47,.slice ((q.r x.1).getD x.2 iq0).1.1 ((q.r x.1).getD x.2 iq0).1.2.1 ((q.r x.1).getD x.2 iq0).1.2.2),(4,_),(11,_)] U<|isq<|irg U<|al x4f U<|λd5 j9 e0 a4 f6 l8=>?_;refine z0j (vs:=[_,_]) U a4 y2m (λk0 a4 f7 l9=>?_) (h1:=t26);exact inl<|itn<|irg U<|asg U<|inl<|asE d5 oo U a4<|f6.z1 f7;rintro lN pre x d5 g0 i5 e0 a4 ⟨b2,Z⟩ i7 i9;have m0:=b2.size;have e4:=a4.lt;have e3:=Z;have j0:(q.r x.1).length<=40:=by cases x.1<;>assumption
 have j2:=z4a (show z9v (q.r x.1) by cases x.1<;>assumption) x.2;have j3:((q.r x.1).getD x.2 iq0).1.2.1=((q.r x.1).getD x.2 iq0).2.length:=z2f<|z1y (b1.iq x.1) x.2;refine ibl<|isq<|irg U<|z0l U a4 z5k ?_;have a6:=(((a6.ext<|q5.n3 q6 a3 a0).fr a1).ext O).fr b2;refine z0l U a6 z5k<|j6l (V:=ndV) (e:=(y2c x.1,(x.2:Int)+1)) (f:=(b,(n:Int))) U U q1b U<|inl<|itn<|icd U (λc5=>?_)<|λc5=>?_;refine isq<|irg U<|mv U<|lnS U<|mv U<|inl<|itn<|ibl<|u8f (ι:=Nat) (ll3 11 51 52) (λj=>[(53,.int .i64 (j:Int))]) (λj w'=>Fr [D] g0 w'/\j<=((q.r x.1).getD x.2 iq0).2.length/\MapF idV w' D (y2k<|v1a q b (n:Int) pre++((q.r x.1).getD x.2 iq0).2.take j)) (λj=>((q.r x.1).getD x.2 iq0).2.length-j) 0 U ⟨l12 _ _,⟨l16 _,by rw[l90,l24];exact Z⟩⟩ ?_;rintro j k1 ⟨b3,⟨hj,Z⟩⟩;have m1:=b3.size;refine x6n (ll4 11 51 52 53) U<|isq<|irg U<|lt' U<|inl<|itn<|isq<|icd U (λc6=>?_)<|λc6=>?_;refine isk<|itn<|isq<|ibl<|isq<|irg U ?_;have hB:=b1.ext<|(((q1.n6 q2 q3 q4 q5 q6 a3).n1 a0).z1 a1).z3 O b2 b3;refine z1a (id0) U (z1y (hB.iq x.1) x.2) U z4m z1j<|λg7 d7=>?_;refine z1q U (d7 _<|z1y (hB.iq x.1) x.2) z2y<|al z9l U<|λh8 k2 h2 b5 c9 m2=>?_;refine z0j (vs:=[_,_]) U b5 y1b (λk4 b5 d0 m3=>?_) (h1:=t26);refine inl<|itn<|irg U ?_;have I:=((((I.ext O).fr b2).fr b3).ext c9).fr d0;refine z2a U I u3s<|z0l U b5 z2y ?_;have Z:=(Z.ext c9).fr d0 so;refine x1y (V:=idV) (k:=(((q.r x.1).getD x.2 iq0).2.getD j id0)) U U U Z z7c underlying169<|λk5 Z f8 m4=>?_;rw[x1m]at Z;exact inl<|bn'<|itn<|irg U<|ad6 U<|mv U<|inl<|u5n (j+1) U ⟨((l12 [D] _).z4 b3 c9 d0 f8),⟨oo,by rw[z5p id0 oo,<-l14];exact Z⟩⟩ oo;obtain rfl:j=((q.r x.1).getD x.2 iq0).2.length:=by omega
 rw[l40]at Z;exact iex<|te<|te<|xh<|bn'<|j6s (S:=[D]) ((l12 [D] _).z1 b3) (λk hk _=>.inr (by cases l11.1 hk;exact⟨oo,e3.noncells⟩)) (λb hb=>l99 (a8 b hb) oo) (λb hb e=>by simp at e;have:=a8 b hb;omega) ⟨((l12 [D] _).z2 b2 b3),by rw[x5q,oth,if_neg c5];exact Z⟩;exact isk<|bn'<|j6s (S:=[D]) (l12 _ _) (λk hk _=>.inr (by cases l11.1 hk;exact⟨oo,e3.noncells⟩)) (λb hb=>l99 (a8 b hb) oo) (λb hb e=>by simp at e;have:=a8 b hb;omega) ⟨((l12 [D] _).z1 b2),by rw[x5q,oth,if_pos (l15.1 c5),l24];exact Z⟩;rintro D1 l3 g1 i0 hS ⟨a7,Z⟩ b0;have m5:=a7.size;have b8:=b0;have e5:=b0.lt;subst hS;refine bn'<|itn<|isq<|isq<|irg U<|mv U<|lnS U<|mv U<|inl<|itn<|ibl<|u8f (ι:=Nat) (ll7 2 3 4 6 11 60 61) (λj=>[(62,.int .i64 (j:Int))]) (λj w'=>Fr [D] g1 w'/\j<=l.length/\MapF idV w' D (y2k<|v1a q b (n:Int) (ndP q [false,true])++l.take j)) (λj=>l.length-j) 0 U ⟨l12 _ _,⟨l16 _,by rw[l90,l24];exact Z⟩⟩ ?_;rintro j k6 ⟨a2,⟨hj,Z⟩⟩;have m6:=a2.size;refine x6n (ll8 2 3 4 6 11 60 61 62) U<|isq<|irg U<|lt' U<|inl<|itn<|isq<|icd U (λc7=>?_)<|λc7=>?_;have f4:=j9w (j:=j) hn hd oo;refine isk<|itn<|isq<|ibl<|isq<|irg U ?_;have hs:=b9.ext<|(((q1.n6 q2 q3 q4 q5 q6 a3).n1 a0).z1 a1).z3 O a7 a2;refine z1a (id0) U hs U z4m z1j<|λg8 d9=>?_;refine z1q U (d9 _ hs) z2y<|al z9l U<|λh9 k7 h3 a9 d1 m7=>?_;refine z0j (vs:=[_,_]) U a9 y1b (λk8 a9 d3 m8=>?_) (h1:=t26);refine inl<|itn<|isq<|isq<|irg U ?_;have I:=((((I.ext O).fr a7).fr a2).ext d1).fr d3;refine z2a U I u3s<|z0l U a9 z2y ?_;have Z:=(Z.ext d1).fr d3 so;refine x3g (V:=idV) (k:=(l.getD j id0)) (f:=y2k<|v1a q b (n:Int) (ndP q [false,true])++l.take j) U U Z z7c underlying169 zv4 (v3o _ _) U<|inl<|itn<|icd U (λc8=>?_)<|λc8=>?_;exact absurd c8 f4;refine isk<|itn<|irg U<|z2a U I u3s<|z0l U a9 z2y<|x1y (V:=idV) (k:=(l.getD j id0)) U U U Z z7c underlying169<|λk9 Z f9 m9=>?_;rw[x1m]at Z;exact inl<|bn'<|itn<|irg U<|ad6 U<|mv U<|inl<|u5n (j+1) U ⟨((l12 [D] _).z4 a2 d1 d3 f9),⟨oo,by rw[z5p id0 oo,<-l14];exact Z⟩⟩ oo;obtain rfl:j=l.length:=by omega
 refine iex<|te<|te<|xh<|itn<|isq<|irg U ?_;have a5:=((a5.ext O).fr a7).fr a2;refine z0l U a5 z4y ?_;have a6:=((((a6.ext<|q5.n3 q6 a3 a0).fr a1).ext O).fr a7).fr a2;refine z0l U a6 z5k<|mv U ?_;have hB:=b1.ext<|(((q1.n6 q2 q3 q4 q5 q6 a3).n1 a0).z1 a1).z3 O a7 a2;have hs:=b9.ext<|(((q1.n6 q2 q3 q4 q5 q6 a3).n1 a0).z1 a1).z3 O a7 a2;refine cl (ev3 U) cO (y8d q b n _ l _ hB hs hn hf hb h4 e9 f1) ?_;rintro _ l0 ⟨⟨q',rfl,a8,f5⟩,q27⟩;have n7:=q27.size;have b6:=(((((b6.ext<|q4.n4 q5 q6 a3 a0).fr a1).ext O).fr a7).fr a2).ext q27;refine z0j (vs:=[_,_]) U b6 x1s (λl1 b6 d4 n8=>?_) (h1:=t26);refine asg U<|kpL (ll2 6 7) U<|inl<|itn<|irt ?_;have b0:=b8.fr ((l12 [g6,D] _).z3 a2 q27 d4) so;refine rMCT U U b6 z4y U (x0i b0) sp0 ?_;intro l2 e6;have a8:=(a8.fr d4 t38).fr e6 t38;exact⟨_,rfl,⟨q',rfl,a8.low oo,f5⟩,((((q1.n6 q2 q3 q4 q5 q6 a3).n1 a0).z1 a1).z6 O a7 a2 q27 d4 e6)⟩
theorem v7c:CallOf prog 11:=cO
theorem x2s (q:BdQ)(b:Int)(n m:Nat)(w0:World)(hB:BdAt w0 q)(hv:BdOk q.p)(hn:z3m b (n:Int)=0)(hm:z3m (1-b) (m:Int)=0)(e7:(q.p.at b (n:Int))≠[]):Rets prog 114 #[bvv q,.agg #[.int .u8 b,.int .i64 (n:Int)],.agg #[.int .u8 (1-b),.int .i64 (m:Int)]] w0 λr w'=>(∃q':BdQ,r=.tuple #[.agg (bdL q').toArray,.int .i64 (if 4<(q.p.at b (n:Int)).length+(q.p.at (1-b) (m:Int)).length then 9 else 0)]/\(¬4<(q.p.at b (n:Int)).length+(q.p.at (1-b) (m:Int)).length->BdO 32 54 w0.heap.size w' q'/\q'.p=(q.p.put b (n:Int) []).put (1-b) (m:Int) (y1t q.p b (n:Int) (m:Int))))/\Fr [] w0 w':=by
 obtain⟨⟨hf,hb⟩,h4,b9⟩:=z3f hv;have i2:=z2t hn;have i1:=z2t hm;have h9:=y8l hv b (n:Int);have i0:=y8l hv (1-b) (m:Int);have h8:=u3z q.p b (n:Int) (m:Int);have d7:=v5w hv hn;have f8:0<(q.p.at b (n:Int)).length:=List.length_pos_iff.2 e7;refine wf func114 U ?_;have c9:=hB;refine sr<|bx U<|λg3 w1 h3 O q1 z1=>(bx U<|λg4 w2 h5 D q2 z2=>(bx U<|λg5 w3 h6 I q3 z3=>(al x9w U<|λg6 w4 h7 a0 q4 z4=>(asg U<|nn<|sq<|sr ?_))));have O:=O.ext<|q2.n2 q3 q4;refine z0l U O z4y ?_;have hB:=c9.ext<|q1.n3 q2 q3 q4;refine cl (ev1 U) cO (x3r q _ hB hv) ?_;rintro _ w5 ⟨rfl,q5⟩;have z5:=q5.size;refine asg U<|nn<|sr<|mv U<|ne' U<|nn<|cd U (λc0=>?_)<|λc0=>?_;exact absurd U c0;refine sk<|tn<|sq<|sq<|u0i (r:=32) (L':=ll4 3 4 5 6) ((((0≠0)\/(0≠0))\/(b=(1-b)))) U ?_ ?_;have D:=D.ext<|q3.n2 q4 q5;refine z0l U D z5k<|cl (ev1 U) u8u (z5m _ _ _) ?_;rintro _ w6 ⟨rfl,q6⟩;have z6:=q6.size;refine ne' U<|mv U<|gs 21 U (λg0=>?_)<|λg0=>?_;exact gN U<|gN U<|gN U<|pkt U<|mv U<|gN U<|gN U<|gN U<|gN U<|gN U<|pkt U<|y3v U U q6;refine gY U ?_;have I:=I.ext<|q4.n2 q5 q6;refine z0l U I z5k<|gY U<|cl (ev1 U) u8u (z5m _ _ _) ?_;rintro _ w7 ⟨rfl,q7⟩;have z7:=q7.size;refine gY U<|ne' U<|pkf U<|mv U<|gs 26 U (λg1=>?_)<|λg1=>?_;exact gN U<|gN U<|gN U<|gN U<|gN U<|pkt U<|y3v U U<|q6.n1 q7;refine gY U<|fad U z7e<|gY U ?_;have D:=D.ext<|q6.n1 q7;refine z0i U D U x9t<|gY U<|fad U z7e<|gY U ?_;have I:=I.ext q7;exact z0i U I U x9t<|gY U<|eq' U<|pkf U<|y3v U U<|q6.n1 q7;intro w8 q8;have z8:=q8.size;refine tn<|cd U (λc1=>?_)<|λc1=>?_;exfalso;omega;refine sk<|tn<|sq ?_;have hB:=c9.ext<|q1.n5 q2 q3 q4 q5 q8;intro a h;refine rgh none (Fr []) ?_;intro w9 q9 hC;have z9:=q9.size;have hB:=hB.ext q9;have O:=O.ext<|q5.n2 q8 q9;have D:=D.ext<|q3.n4 q4 q5 q8 q9;have I:=I.ext<|q4.n3 q5 q8 q9;have b5:=hB;have a4:=O;have a5:=D;have a6:=I;refine z0x 0 h U (fx a4.ext) z4y U λa h=>z0x 1 h U (fx a5.ext) z5k U λa h=>z0x 3 h U (fx a4.ext) z4y U λa h=>z0x 4 h U (fx a6.ext) z5k U λa h=>z0d 2 U<|z0n h (z0a U<|z0a U z0f) v7c (y5m q b (n:Int) _ hB oo hf hb h4 b9) ?_;rintro i3 i8 ⟨Z,a7⟩ a h;have j7:=a7.size;have hB:=hB.ext a7;have O:=O.ext a7;have D:=D.ext a7;have I:=I.ext a7;have hC:=hC.next a7;rw[y0h hn]at Z;obtain⟨f9,g8,rfl,f4⟩:=Z.sl.form;have b7:=λk hb=>(Z.blk k hb).2;refine z0b<|z0d 5 U<|z0n h (z0a U<|z0a U z0f) v7c (y5m q (1-b) (m:Int) _ hB oo hf hb h4 b9) ?_;rintro i4 i9 ⟨a1,hq⟩ a h;have j8:=hq.size;have hB:=hB.ext hq;have O:=O.ext hq;have D:=D.ext hq;have I:=I.ext hq;have Z:=Z.ext hq;have hC:=hC.next hq;have b6:=hq;rw[y0h hm]at a1;obtain⟨g7,g9,rfl,f5⟩:=a1.sl.form;have b8:=λk hb=>(a1.blk k hb).2;refine z0b<|z0d 6 U<|z0o h U λa h=>?_;refine z0b<|z0d 7 U<|z0o h U λa h=>?_;refine z0b<|z0q ?_;clear hC b5 a4 a5 a6;refine xB (ll6 3 4 5 6 9 10) h U<|tn<|sq<|sr<|mv U<|lnS U<|eq' U<|nn<|cd U (λc2=>?_)<|λc2=>?_;exfalso;omega;refine sk<|tn<|sq<|sr<|mv U<|lnS U<|mv U<|lnS U<|ad6 U<|gt' U<|kpL (ll7 3 4 5 6 9 10 49) U<|nn<|cd U (λc3=>?_)<|λc3=>?_;refine sr<|z1r (cs:=[_,_]) z0f k1u z0r U ?_;have a0:=a0.ext<|q5.n4 q8 q9 a7 b6;exact z0j (vs:=[_,_]) U a0 x1s<|λj0 a0 f1 j9=>(asg U<|kpL (ll2 6 7) U<|nn<|rt<|tr<|rCT U U a0 z4y U ⟨_,rfl,⟨bdq0,by rw[if_pos oo];rfl,λh=>absurd oo h⟩,((((q1.n6 q2 q3 q4 q5 q8 q9).n1 a7).n1 b6).z1 f1)⟩);refine sk<|tn<|sr<|mv U<|cl (ev1 U) cO (x1j _ (q.p.at (1-b) (m:Int)) _ a1.sl oo) ?_;rintro _ j1 ⟨h0,rfl,f6,hX,a8⟩;have k0:=a8.size;refine mv U ?_;have Z:=Z.ext a8;have a1:=a1.ext a8;have O:=O.ext a8;have D:=D.ext a8;have I:=I.ext a8;have a0:=a0.ext<|q5.n5 q8 q9 a7 b6 a8;have a2:=hX;refine z2l U hX Z.sl z4m (λi5 f2 hX a9 e8=>?_) (hM:=t40) (hb:=oo);have k1:=a9.size;have Z:=Z.fr a9 (λk hk hb=>by have:=(a2.blk k hk).1;have:=b7 k hb;omega);have a1:=a1.fr a9 (λk hk hb=>by have:=(a2.blk k hk).1;have:=b8 k hb;omega);have O:=O.fr a9 (λhk=>by have:=(a2.blk _ hk).1;omega);have D:=D.fr a9 (λhk=>by have:=(a2.blk _ hk).1;omega);have I:=I.fr a9 (λhk=>by have:=(a2.blk _ hk).1;omega);have a0:=a0.fr a9 (λhk=>by have:=(a2.blk _ hk).1;omega);refine asg U<|nn<|jn (ι:=Value) (ll4 3 4 5 6) (λp=>[(11,p)]) (λp w'=>Fr [] f2 w'/\Lw.Own z1h 54 w0.heap.size w' p (y1t q.p b (n:Int) (m:Int))) U ?_ ?_;refine sr<|fad U z7e<|z0i U D U x9t<|eq' U<|nn<|cd U (λc4=>?_)<|λc4=>?_;refine rg<|mv U<|cl (ev1 U) cO (x1j _ (q.p.at b (n:Int)) _ Z.sl oo) ?_;rintro _ j2 ⟨h1,rfl,f7,hY,b0⟩;have k2:=b0.size;refine mv U ?_;have Z:=Z.ext b0;have a1:=a1.ext b0;have O:=O.ext b0;have D:=D.ext b0;have I:=I.ext b0;have a0:=a0.ext b0;have a3:=hY;refine z2l U hY a1.sl z4m (λi7 j3 hY b1 e9=>?_) (hM:=t40) (hb:=oo);have k4:=b1.size;have Z:=Z.fr b1 (λk hk hb=>by have:=(a3.blk k hk).1;have:=b7 k hb;omega);have a1:=a1.fr b1 (λk hk hb=>by have:=(a3.blk k hk).1;have:=b8 k hb;omega);have O:=O.fr b1 (λhk=>by have:=(a3.blk _ hk).1;omega);have D:=D.fr b1 (λhk=>by have:=(a3.blk _ hk).1;omega);have I:=I.fr b1 (λhk=>by have:=(a3.blk _ hk).1;omega);have a0:=a0.fr b1 (λhk=>by have:=(a3.blk _ hk).1;omega);exact asg U<|kpL (ll5 3 4 5 6 11) U<|nl<|jE (_) U ⟨(b0.step b1<|λk hk d6=>absurd (a3.blk k hk).1 oo),(by unfold y1t;rw[if_pos oo];exact hY.low oo)⟩;exact sk<|jE (_) U ⟨(l12 _ _),(by unfold y1t;rw[if_neg oo];exact hX.low oo)⟩;rintro vS j4 ⟨b3,hS⟩;have k5:=b3.size;refine kpC [(3,_),(4,_),(5,_),(6,_),(11,vS)] U ?_;obtain⟨AS,cS,rfl,h2⟩:=hS.sl.form;refine sq ?_;have hB:=c9.ext<|(((((q1.n6 q2 q3 q4 q5 q8 q9).n1 a7).n1 b6).n1 a8).step a9<|λk hk d6=>absurd (a2.blk k hk).1 oo).next b3;intro a h;refine rgh (some 6) (Fr []) ?_;intro e0 b2 hC;have k6:=b2.size;have hB:=hB.ext b2;have O:=O.ext<|b3.n1 b2;have D:=D.ext<|b3.n1 b2;have I:=I.ext<|b3.n1 b2;have a0:=a0.ext<|b3.n1 b2;have hS:=hS.ext b2;have b5:=hB;have a4:=O;have a5:=D;have a6:=I;have d1:=a0;have d4:=hS;refine z0x 0 h U (fx a4.ext) z4y U λa h=>z0x 1 h U (fx a5.ext) z5k U λa h=>z0x 3 h U (fx a6.ext) z5k U λa h=>z0e 4 h U λa h=>z0d 2 U<|z0n h (z0a U<|z0a U<|z0a U z0f) cO (y8d q b n _ [] _ hB (Sl.nil _) hn hf hb h4 b9<|l16 _) ?_;rintro _ j5 ⟨⟨qa,rfl,e4,d9⟩,q19⟩ a h;have k7:=q19.size;have hS:=hS.ext q19;have hC:=hC.next q19;rw[<-d9]at d7;obtain⟨⟨e6,e5⟩,e3,d3⟩:=z3f d7;refine z0b<|z0d 5 U<|z0n h (z0a U<|z0a U<|z0a U z0f) cO (y8d qa (1-b) m _ (y1t q.p b (n:Int) (m:Int)) _ e4.at hS.sl hm e6 e5 e3 d3 oo) ?_;rintro _ j6 ⟨⟨qb,rfl,d0,f0⟩,q20⟩ a h;have k8:=q20.size;have O:=O.ext<|q19.n1 q20;have D:=D.ext<|q19.n1 q20;have I:=I.ext<|q19.n1 q20;have a0:=a0.ext<|q19.n1 q20;have hC:=hC.next q20;refine z0b<|z0d 6 U<|z0t h U a0 U x1s λf3 d5 b4 hz a h=>?_;have k9:=b4.size;have O:=O.fr b4;have D:=D.fr b4;have I:=I.fr b4;have d0:=d0.fr b4 t38;have a0:Blk f3 g6 _ [_,_]:=d5;clear d5;refine z1m<|z0d 7 U<|z0o h U λa h=>?_;refine z1m<|z0q ?_;clear hC b5 a4 a5 a6 d1 d4;exact xB (ll2 6 7) h U<|tn<|rt<|rCT U U a0 z4y U ⟨_,rfl,⟨qb,by rw[if_neg oo],λ_=>⟨d0.low oo,by rw[f0,d9]⟩⟩,((((((((((q1.n6 q2 q3 q4 q5 q8 q9).n1 a7).n1 b6).n1 a8).step a9<|λk hk d6=>absurd (a2.blk k hk).1 oo).next b3).next b2).next q19).next q20).sp b4)⟩
end Go.Proofs.YtkafbfjmcigaiaaGreatDoor
namespace Go.G08
open Go.Lw Go.G21
abbrev j3k:List Value:=[.int .i64 (-1),.int .i64 1]
theorem y8j {d:Int}(h:d=0\/d=1):j3k[d.toNat*1]?=some (.int .i64<|stI d):=by
 rcases h with rfl|rfl<;>rfl
def y1n (x y:Int):Int:=if x<y then -1 else if y<x then 1 else 0
theorem y0u {x y:Int}:y1n x y<0↔x<y:=by
 unfold y1n;split;simp[*];split<;>simp[*]
abbrev hdL (h:Hd):List Value:=[.int .u8 h.id.y,.int .i64 h.id.n,.int .u8 h.b,.int .i64 h.n,.int .i64 h.s]
def z4s:Enc Hd:=⟨hdL,5,λ_=>rfl,λ_ u h=>by simp at h;rcases h with rfl|rfl|rfl|rfl|rfl<;>rfl,dd⟩
def x6d (l:List Hd):Prop:=l.Pairwise λa b=>a.s<=b.s
theorem v3f {h x:Hd}:∀ {l:List Hd},x∈z9u h l↔x=h\/x∈l
 | []=>by simp[z9u]
 | y::l=>by
  unfold z9u
  split
  ·simp
  simp only[l57,v3f (l:=l)]
  constructor
  ·rintro(h|h|h)<;>simp[h]
  rintro(h|h|h)<;>simp[h]
theorem v2u (h:Hd):∀l:List Hd,(z9u h l).length=l.length+1
 | []=>rfl
 | y::l=>by
  unfold z9u;split
  ·rfl
  simp[v2u h l]
theorem x0z (h:Hd):∀l:List Hd,x6d l->x6d (z9u h l)
 | [],_=>List.pairwise_singleton ..
 | y::l,hs=>by
  obtain⟨O,Z⟩:=l80.1 hs
  unfold z9u
  split
  ·rename_i I
   refine l80.2 ⟨λz D=>?_,hs⟩
   rcases l57.1 D with rfl|D
   ·omega
   have:=O z D;omega
  rename_i I
  refine l80.2 ⟨λz D=>?_,x0z h l Z⟩
  rcases v3f.1 D with rfl|D
  ·omega
  exact O z D
theorem u1s (l:List Hd)(h:Hd):z6h (l++[h])=z9u h (z6h l):=by unfold z6h;rw[l123];rfl
theorem v1r:∀(l a:List Hd),x6d a->x6d (l.foldl (λa h=>z9u h a) a)
 | [],a,h=>h
 | x::l,a,h=>v1r l _<|x0z x a h
theorem z9c (l:List Hd):x6d (z6h l):=v1r l [] List.Pairwise.nil
theorem x7e:∀(l a:List Hd),(l.foldl (λa h=>z9u h a) a).length=a.length+l.length
 | [],a=>rfl
 | x::l,a=>by simp only[l126,x7e l,v2u,l34];omega
theorem z5c (l:List Hd):(z6h l).length=l.length:=by unfold z6h;rw[x7e];simp
theorem v9w {x:Hd}:∀ {A B:List Hd},(∀y∈A,¬x.s<y.s)->(∀y∈B,x.s<y.s)->z9u x (A++B)=A++x::B
 | [],[],_,_=>rfl
 | [],y::B,_,h=>by
  show z9u x (y::B)=x::y::B
  unfold z9u;rw[if_pos (h y (l35 ..))]
 | z::A,B,h1,h2=>by
  show z9u x (z::(A++B))=z::(A++x::B)
  unfold z9u
  rw[if_neg (h1 z (l35 ..)),v9w (λy D=>h1 y<|l36 _ D) h2]
def y4e (P s:List Hd)(k:Nat)(x:Hd)(R:List Hd):List Hd:=P++(s.take k++(x::(s.drop k++R)))
theorem u6a {P s R:List Hd}{k:Nat}{x:Hd}:(y4e P s k x R).length=P.length+s.length+1+R.length:=by
 unfold y4e;have h:(s.take k).length+(s.drop k).length=s.length:=by rw[<-l13,l25]
 simp only[l13,l34];omega
theorem k7x {P s R:List Hd}{k:Nat}{x d:Hd}(D:k<=s.length):(y4e P s k x R).getD (P.length+k) d=x:=by
 unfold y4e;rw[List.getD,l30 oo,show P.length+k-P.length=(s.take k).length+0 by rw[l27];omega,l30 oo];simp
theorem j2h {P s R:List Hd}{k:Nat}{x d:Hd}(D:k+1<=s.length):(y4e P s (k+1) x R).getD (P.length+k) d=s.getD k d:=by
 unfold y4e;rw[List.getD,List.getD,l30 oo,show P.length+k-P.length=k by omega,l46 t19,l53,if_pos oo]
theorem x6z {P s R:List Hd}{k:Nat}{x d:Hd}(O:k+1<=s.length):((y4e P s (k+1) x R).set (P.length+k+1)<|s.getD k d).set (P.length+k) x=y4e P s k x R:=by
 have D:y4e P s (k+1) x R=(P++s.take k)++(s.getD k d::x::(s.drop (k+1)++R)):=by
  unfold y4e;have e:s.take (k+1)=s.take k++[s.getD k d]:=by rw[l54,List.getD,l10 oo];rfl
  rw[e];simp only[l14,l48,l43]
 have I:y4e P s k x R=(P++s.take k)++(x::s.getD k d::(s.drop (k+1)++R)):=by
  unfold y4e;have e:s.drop k=s.getD k d::s.drop (k+1):=by rw[l33 (show k<s.length by omega),List.getD,l10 oo];rfl
  rw[e];simp only[l14,l48]
 have hl:(P++s.take k).length=P.length+k:=by rw[l13,l27];omega
 rw[D,I,l56 _ _ oo,show P.length+k+1-(P++s.take k).length=1 by omega,l56 _ _ oo,show P.length+k-(P++s.take k).length=0 by omega];rfl
theorem x7n {P s R:List Hd}{k:Nat}{x:Hd}(Z:x6d s)(hk:k<=s.length)(h1:k=0\/¬x.s<(s.getD (k-1) hd0).s)(O:∀j,k<=j->j<s.length->x.s<(s.getD j hd0).s):y4e P s k x R=P++(z9u x s++R):=by
 have e:z9u x s=s.take k++x::s.drop k:=by
  conv=>lhs;rw[<-l25 k s]
  refine v9w (λy I=>?_)<|λy I=>?_
  ·obtain⟨j,D,rfl⟩:=l29 I
   rw[l27]at D
   rw[List.getElem_take]
   rcases h1 with rfl|h1
   ·omega
   rw[List.getD,l10 oo]at h1
   simp only[l59]at h1
   by_cases e:j=k-1
   ·subst e;exact h1
   have:=l83.1 Z j (k-1) oo oo oo
   omega
  obtain⟨j,D,rfl⟩:=l29 I
  rw[l39]at D
  rw[List.getElem_drop]
  have:=O (k+j) oo oo
  rwa [List.getD,l10 oo]at this
 unfold y4e
 rw[e];simp
theorem v6h {P s R:List Hd}{x:Hd}:y4e P s s.length x R=P++(s++x::R):=by
 unfold y4e;rw[l40,List.drop_length];rfl
def z8y (l:List Hd)(lo up i:Nat):List Hd:=l.take lo++(z6h ((l.take<|min i up).drop lo)++l.drop (min i up))
theorem z7q {l:List Hd}{lo i:Nat}(h:lo<=i)(hi:i<=l.length):(z6h<|(l.take i).drop lo).length=i-lo:=by
 rw[z5c,l39,l27];omega
theorem k4o {l:List Hd}{lo D:Nat}(h:lo<=D)(hu:D<=l.length):z8y l lo D (lo+1)=l:=by
 unfold z8y;by_cases e:lo<D;rw[show min (lo+1) D=lo+1 by omega];have I:(l.take<|lo+1).drop lo=[l.getD lo hd0]:=by
  rw[l54,List.drop_append,l102 t19,l27,show lo-min lo l.length=0 by omega,List.getD,l10 oo];rfl
 rw[I];have O:z6h [l.getD lo hd0]=[l.getD lo hd0]:=rfl;rw[O,<-l14];have Z:l.take lo++[l.getD lo hd0]=l.take (lo+1):=by rw[l54,List.getD,l10 oo];rfl
 rw[Z,l25];rw[show min (lo+1) D=lo by omega];have I:(l.take lo).drop lo=[]:=l102 t19;rw[I];exact l25 lo l
theorem j9t {l:List Hd}{lo D i:Nat}(h:lo<=i)(hi:i<D)(I:D<=l.length):z8y l lo D i=y4e (l.take lo) (z6h<|(l.take i).drop lo) (i-lo) (l.getD i hd0) (l.drop<|i+1):=by
 have hl:=z7q (l:=l) h oo;rw[<-hl,v6h];unfold z8y;rw[show min i D=i by omega];congr 2;rw[l33 (show i<l.length by omega),List.getD,l10 oo];rfl
theorem x8c {l:List Hd}{lo D i:Nat}(h:lo<=i)(hi:i<D)(O:D<=l.length):l.take lo++(z9u (l.getD i hd0) (z6h<|(l.take i).drop lo)++l.drop (i+1))=z8y l lo D (i+1):=by
 unfold z8y;rw[show min (i+1) D=i+1 by omega];have I:(l.take<|i+1).drop lo=(l.take i).drop lo++[l.getD i hd0]:=by
  rw[l54,List.drop_append,l27,show lo-min i l.length=0 by omega,List.getD,l10 oo];rfl
 rw[I,u1s]
theorem u5v {l:List Hd}{lo D i:Nat}(h:D<=i):z8y l lo D i=z8y l lo D D:=by
 unfold z8y;rw[show min i D=min D D by omega]
theorem x1e (b r:Int)(l:Bed)(i:Nat):hds b r l (i+1)=hds b r l i++(l.getD i []).map (hdS b r i):=by
 unfold hds;rw[l66,l38];simp
theorem x8j (b r:Int)(l:List IQ)(h:z9v l)(i:Nat):(hds b r (plB l) i).length<=4*i:=by
 induction i with
 | zero=>simp[hds]
 | succ i ih=>
  rw[x1e,l13,l18,z3q];have:=z4a h i;omega
theorem y5w {α β:Type}(f:α->β){l:List α}{j:Nat}(d:α)(h:j<l.length):(l.take<|j+1).map f=(l.take j).map f++[f (l.getD j d)]:=by
 rw[z5p d h,l31];rfl
theorem u4m (b r:Int)(l:Bed):(hds b r l l.length).length=l.flatten.length:=by
 induction l with
 | nil=>rfl
 | cons s l ih=>
  unfold hds at *
  rw[l34,List.range_succ_eq_map,l37,l13,l108,List.flatten_cons,l13,<-ih];simp[List.length_flatMap,l113]
theorem z9k (B:Bd)(r:Int):(x8l B r).length=B.flat.length:=by
 unfold x8l Bd.flat;rw[l13,l13,u4m,u4m]
def IsB (v:Value):Prop:=∃g n c,v=Value.slice (some ⟨g,0,none⟩) n c
theorem j6z {α:Type}{E:Enc α}{T base:Nat}{w:World}{v:Value}{ys:List α}(h:Lw.Own E T base w v ys)(D:ys≠[]):IsB v:=by
 rcases h with ⟨rfl,rfl⟩|⟨g,cap,cur,rfl,_⟩
 exact absurd U D;exact⟨_,_,_,rfl⟩
theorem u6z {α:Type}{E:Enc α}{T base:Nat}{w:World}{v:Value}{ys:List α}(h:IsB v)(ho:Lw.Own E T base w v ys):∃g c,v=.slice (saa g) ys.length c:=by
 obtain⟨g,n,c,rfl⟩:=h;obtain⟨A,D,e,_⟩:=ho.sl.form;cases e;exact⟨_,_,rfl⟩
def j5o {α:Type}(d:α)(ys zs:List α)(k:Nat):Prop:=zs.length=ys.length/\∀p,p<ys.length->zs.getD p d=if p<k\/ys.length-1-p<k then ys.getD (ys.length-1-p) d else ys.getD p d
theorem z8w {α:Type}{d:α}{ys zs:List α}{k:Nat}(I:k<ys.length-1-k)(h:j5o d ys zs k):j5o d ys ((zs.set k<|zs.getD (ys.length-1-k) d).set (ys.length-1-k)<|zs.getD k d) (k+1):=by
 obtain⟨hl,h⟩:=h;refine⟨by rw[l19,l19];exact hl,λp D=>?_⟩;rw[z1k t34,z1k oo,h k oo,h (ys.length-1-k) oo,h p D];rw[if_neg (show ¬(k<k\/ys.length-1-k<k) by omega),if_neg (show ¬(ys.length-1-k<k\/ys.length-1-(ys.length-1-k)<k) by omega)];by_cases e1:ys.length-1-k=p;subst e1;rw[if_pos U,if_pos oo];congr 1;omega;rw[if_neg e1];by_cases e2:k=p;subst e2;rw[if_pos U,if_pos oo];rw[if_neg e2];by_cases e3:p<k\/ys.length-1-p<k;rw[if_pos e3,if_pos oo];rw[if_neg e3,if_neg oo]
theorem x2u {α:Type}{d:α}{ys zs:List α}{k:Nat}(Z:¬(k:Int)<(ys.length:Int)-1-k)(h:j5o d ys zs k):zs=ys.reverse:=by
 obtain⟨hl,h⟩:=h;refine l71 (by simpa using hl) λp D O=>?_;have I:p<ys.length:=by rw[<-hl];exact D
 have:=h p I;rw[List.getElem_reverse];rw[List.getD,l10 D,l59]at this;rw[this];split;rw[List.getD,l10 oo];rfl;have e:p=ys.length-1-p:=by omega
 rw[List.getD,l10 I,l59];congr 1
theorem v8m {α:Type}(d:α)(ys:List α):j5o d ys ys 0:=⟨rfl,λp D=>by rw[if_neg oo]⟩
end Go.G08
namespace Go.Proofs.YtkafbfjmcigaiaaGreatDoor
open Go.Lw Go.G21 Go.G08 _root_.Go.Proofs.Tryz
theorem x2l:z1e prog 143 2 4:=λ_ _=>kr
structure StT (w:World):Prop where
  c:Cells w ⟨2,0,none⟩ j3k
theorem StT.ext {w w':World}(h:StT w)(hf:Fr [] w w'):StT w':=⟨h.c.fr hf sp0⟩
theorem u2k (x:Int)(w0:World):Rets prog 162 #[.int .i64 x] w0 λr w'=>r=.bool false/\Fr [] w0 w':=by
 refine wf func162 U<|sr<|asg U<|nn<|sr<|mv U<|mv U<|ne' U<|asg U<|nn<|rt<|r1 U ?_;exact⟨_,rfl,congrArg Value.bool<|decide_eq_false<|λh=>h U,(l12 _ _)⟩
theorem v7v (x y:Int)(w0:World):Rets prog 121 #[.int .i64 x,.int .i64 y] w0 λr w'=>r=.int .i64 (y1n x y)/\Fr [] w0 w':=by
 refine wf func121 U<|sr<|asg U<|nn<|sr<|mv U<|cl (ev1 U) cO (u2k _ _) ?_;rintro _ w1 ⟨rfl,D⟩;refine asg U<|nn<|sr<|mv U<|cl (ev1 U) cO (u2k _ _) ?_;rintro _ w2 ⟨rfl,I⟩;refine asg U<|nn<|sq<|sr<|mv U<|nn<|cf U<|sk<|tn<|sq<|sr<|mv U<|nn<|cf U<|sk<|tn<|sq<|sr<|mv U<|mv U<|lt' U<|nn<|cd U (λc3=>?_)<|λc3=>?_;refine sr<|asg U<|nn<|rt<|tr<|r1 U ?_;exact⟨_,rfl,by first|(rw[y1n,if_pos c3])|(unfold y1n;(repeat' split)<;>first|rfl|omega),(D.n1 I)⟩;refine sk<|tn<|sq<|sr<|mv U<|mv U<|gt' U<|nn<|cd U (λc4=>?_)<|λc4=>?_;refine sr<|asg U<|nn<|rt<|tr<|r1 U ?_;exact⟨_,rfl,by first|(rw[y1n,if_neg c3,if_pos c4])|(unfold y1n;(repeat' split)<;>first|rfl|omega),(D.n1 I)⟩;refine sk<|tn<|sr<|asg U<|nn<|rt<|r1 U ?_;exact⟨_,rfl,by first|(rw[y1n,if_neg c3,if_neg c4])|(unfold y1n;(repeat' split)<;>first|rfl|omega),(D.n1 I)⟩
theorem j2a (x:Int)(w0:World):Rets prog 161 #[.int .u8 x] w0 λr w'=>r=.bool false/\Fr [] w0 w':=by
 refine wf func161 U<|sr<|asg U<|nn<|sr<|mv U<|mv U<|ne' U<|asg U<|nn<|rt<|r1 U ?_;exact⟨_,rfl,congrArg Value.bool<|decide_eq_false<|λh=>h U,(l12 _ _)⟩
theorem k7j (x y:Int)(w0:World):Rets prog 120 #[.int .u8 x,.int .u8 y] w0 λr w'=>r=.int .i64 (y1n x y)/\Fr [] w0 w':=by
 refine wf func120 U<|sr<|asg U<|nn<|sr<|mv U<|cl (ev1 U) cO (j2a _ _) ?_;rintro _ w1 ⟨rfl,D⟩;refine asg U<|nn<|sr<|mv U<|cl (ev1 U) cO (j2a _ _) ?_;rintro _ w2 ⟨rfl,I⟩;refine asg U<|nn<|sq<|sr<|mv U<|nn<|cf U<|sk<|tn<|sq<|sr<|mv U<|nn<|cf U<|sk<|tn<|sq<|sr<|mv U<|mv U<|lt' U<|nn<|cd U (λc3=>?_)<|λc3=>?_;refine sr<|asg U<|nn<|rt<|tr<|r1 U ?_;exact⟨_,rfl,by first|(rw[y1n,if_pos c3])|(unfold y1n;(repeat' split)<;>first|rfl|omega),(D.n1 I)⟩;refine sk<|tn<|sq<|sr<|mv U<|mv U<|gt' U<|nn<|cd U (λc4=>?_)<|λc4=>?_;refine sr<|asg U<|nn<|rt<|tr<|r1 U ?_;exact⟨_,rfl,by first|(rw[y1n,if_neg c3,if_pos c4])|(unfold y1n;(repeat' split)<;>first|rfl|omega),(D.n1 I)⟩;refine sk<|tn<|sr<|asg U<|nn<|rt<|r1 U ?_;exact⟨_,rfl,by first|(rw[y1n,if_neg c3,if_neg c4])|(unfold y1n;(repeat' split)<;>first|rfl|omega),(D.n1 I)⟩
theorem x3x (x y:Hd)(w0:World):Rets prog 127 #[.agg #[.int .u8 x.id.y,.int .i64 x.id.n,.int .u8 x.b,.int .i64 x.n,.int .i64 x.s],.agg #[.int .u8 y.id.y,.int .i64 y.id.n,.int .u8 y.b,.int .i64 y.n,.int .i64 y.s]] w0 λr w'=>r=.int .i64 (y1n x.s y.s)/\Fr [] w0 w':=by
 refine wf func127 U<|sr<|bx U<|λg2 w1 Z D q1 z1=>(bx U<|λg3 w2 a0 I O z2=>(asg U<|nn<|sr<|fad U x2l ?_));have D:=D.ext O;refine z0i U D U na3<|fad U x2l<|z0i U I U na3<|cl (ev2 U) cO (v7v _ _ _) ?_;rintro _ w3 ⟨rfl,q3⟩;exact asg U<|kpL (ll1 4) U<|nn<|rt<|r1 U ⟨_,rfl,rfl,(q1.n2 O q3)⟩
theorem x0n (r:Int)(w0:World):Rets prog 171 #[.int .i64 r] w0 λv w'=>v=.bool (decide (-4<=r/\r<=4))/\Fr [] w0 w':=by
 refine wf func171 U<|sr<|asg U<|nn<|sq<|rbo (r:=2) (L':=[]) (((-4<=r)/\(r<=4))) .nil ?_ ?_;refine mv U<|ge' U<|mv U<|gs 5 U (λD=>?_)<|λD=>?_;exact gY U<|mv U<|gY U<|le' U U<|pkt U<|asg U<|rbe U .nil;exact gN U<|gN U<|pkf U<|asg U<|rbe U .nil;exact tn<|rt<|r1 U ⟨_,rfl,rfl,(l12 _ _)⟩
theorem x5u (q:BdQ)(r:Int)(w0:World)(D:BdAt w0 q)(hv:BdOk q.p)(hr:-4<=r/\r<=4):Rets prog 124 #[bvv q,.int .i64 r] w0 λv w'=>v=.int .i64 0/\Fr [] w0 w':=by
 refine wf func124 U ?_;have I:=D;refine sr<|bx U<|λg2 w1 a0 O q1 z1=>(asg U<|nn<|sq<|sr<|z0l U O z4y ?_);have D:=I.ext q1;refine cl (ev1 U) cO (x3r q _ D hv) ?_;rintro _ w2 ⟨rfl,q2⟩;refine asg U<|nn<|sr<|mv U<|ne' U<|nn<|cd U (λZ=>?_)<|λZ=>?_;exact absurd U Z;refine sk<|tn<|sq<|sr<|mv U<|cl (ev1 U) cO (x0n _ _) ?_;rintro _ w3 ⟨rfl,q3⟩;refine nt' U<|nn<|cd U (λc1=>?_)<|λc1=>?_;exact absurd hr c1;exact sk<|tn<|sr<|asg U<|nn<|rt<|r1 U ⟨_,rfl,rfl,(q1.n2 q2 q3)⟩
theorem x6r (q:BdQ)(r d:Int)(w0:World)(D:BdAt w0 q)(hv:BdOk q.p)(O:StT w0)(hr:-4<=r/\r<=4)(hd:d=0\/d=1)(a1:-4<=r+stI d/\r+stI d<=4):Rets prog 173 #[bvv q,.int .i64 r,.int .u8 d] w0 λv w'=>v=.int .i64 0/\Fr [] w0 w':=by
 refine wf func173 U ?_;have I:=D;have Z:=O;refine sr<|bx U<|λg3 w1 a2 a0 q1 z1=>(asg U<|nn<|sq<|sr<|z0l U a0 z4y<|mv U ?_);have D:=I.ext q1;refine cl (ev2 U) cO (x5u q _ _ D hv oo) ?_;rintro _ w2 ⟨rfl,q2⟩;refine asg U<|nn<|sr<|mv U<|ne' U<|nn<|cd U (λc0=>?_)<|λc0=>?_;exact absurd U c0;refine sk<|tn<|sq<|sq<|rbo (r:=19) (L':=ll2 1 2) (((d≠0)/\(d≠1))) U ?_ ?_;refine mv U<|ne' U<|mv U<|gs 16 U (λg0=>?_)<|λg0=>?_;exact gY U<|mv U<|gY U<|ne' U<|pkt U<|rbe U<|U;exact gN U<|gN U<|pkf U<|rbe U<|U;refine tn<|cd U (λc1=>?_)<|λc1=>?_;exfalso;omega;refine sk<|tn<|sq<|sr<|mv U<|mv U<|y0k U U underlying267 sz3 ?_;have O:=Z.ext<|q1.n1 q2;refine y2g U O.c (y8j hd) na3 U<|ad6 U<|cl (ev1 U) cO (x0n _ _) ?_;rintro _ w3 ⟨rfl,q3⟩;refine nt' U<|kpL (ll1 26) U<|nn<|cd U (λc2=>?_)<|λc2=>?_;exact absurd a1 c2;exact sk<|tn<|sr<|asg U<|nn<|rt<|r1 U ⟨_,rfl,rfl,(q1.n2 q2 q3)⟩
theorem z6e:z4f prog 143 5:=⟨λ_=>kr,λ_=>kr⟩
theorem z4e:ElemOf prog 139 143 z4s 40:=ElemOf.mk' (z:=(.agg #[.int .u8 0,.int .i64 0,.int .u8 0,.int .i64 0,.int .i64 0])) underlying139 kr U
theorem z9e:z1s prog 143 5:=λ_=>kr
theorem j3v (g c base lo up:Nat)(l:List Hd)(w0:World)(ho:Lw.Own z4s 143 base w0 (.slice (saa g) l.length c) l)(hl:l.length<=1000000)(Z:lo<=up/\up<=l.length):Rets prog 201 #[.slice (saa g) l.length c,.int .i64 (lo:Int),.int .i64 (up:Int),.func (.func 127) #[] #[]] w0 λr w'=>r=.tuple #[]/\Lw.Own z4s 143 base w' (.slice (saa g) l.length c) (z8y l lo up up)/\Fr [g] w0 w':=by
 refine wf func201 U<|sr<|mv U<|ad6 U<|asg U<|nn<|bl ?_;refine lpK (ι:=Nat) (ll4 0 1 2 3) (λi=>[(8,.int .i64 (i:Int))]) (λi w'=>Fr [g] w0 w'/\(lo+1<=i/\(i<=up\/i=lo+1))/\Lw.Own z4s 143 base w' (.slice (saa g) l.length c) (z8y l lo up i)) (λi=>up-i) (lo+1) (.c5 U U U U<|congrArg (λz=>some<|Value.int .i64 z) (show (lo:Int)+1=((lo+1:Nat):Int) by omega)) ⟨l12 _ _,⟨⟨l20 _,.inr U⟩,by rw[k4o Z.1 Z.2];exact ho⟩⟩ ?_;rintro i w1 ⟨q1,⟨hi,ho⟩⟩;refine kpC (ll5 0 1 2 3 8) U<|sq<|sr<|mv U<|mv U<|lt' U<|nn<|cd U (λc0=>?_)<|λc0=>?_;have b0:i<up:=by omega
 obtain⟨s,hs⟩:∃s,s=z6h ((l.take i).drop lo):=⟨_,rfl⟩;obtain⟨x,hx⟩:∃x,x=l.getD i hd0:=⟨_,rfl⟩;have b1:s.length=i-lo:=by rw[hs];exact z7q oo oo
 have a9:x6d s:=by rw[hs];exact z9c _
 rw[j9t oo b0 Z.2,<-hs,<-hx,<-b1]at ho;refine sk<|tn<|sq<|bl<|sr<|mv U<|asg U<|nn<|bl ?_;refine lpK (ι:=Nat) (ll5 0 1 2 3 8) (λk=>[(9,.int .i64 ((lo+k:Nat):Int))]) (λk w'=>Fr [g] w1 w'/\k<=s.length/\Lw.Own z4s 143 base w' (.slice (saa g) l.length c) (y4e (l.take lo) s k x<|l.drop<|i+1)/\∀j,k<=j->j<s.length->x.s<(s.getD j hd0).s) (λk=>k) s.length (.c6 U U U U U<|congrArg (λz=>some<|Value.int .i64 z) (show (i:Int)=((lo+s.length:Nat):Int) by omega)) ⟨l12 _ _,⟨l20 _,ho,λj h1 h2=>oo⟩⟩ ?_;rintro k w2 ⟨q2,⟨hk,ho,a1⟩⟩;refine kpC (ll6 0 1 2 3 8 9) U ?_;have b6:(y4e (l.take lo) s k x<|l.drop<|i+1).length=l.length:=by rw[u6a,l27,l39];omega
 have a0:(y4e (l.take lo) s k x<|l.drop<|i+1).getD (lo+k) hd0=x:=by have:=k7x (P:=l.take lo) (R:=l.drop<|i+1) (x:=x) (d:=hd0) hk;rwa [l27,show min lo l.length=lo by omega]at this
 refine sq<|sq ?_;intro a h;refine rgh none (Fr []) ?_;intro w3 q3 hC;have ho:=ho.ext q3;have O:=ho;refine z0e 0 h U λa h=>z0e 1 h U λa h=>v6y 2 hC h wn U U λa h=>z0e 3 h U λa h=>gSp (D:=21) h U ?_ ?_;intro g0 h;refine z0e 4 h U ?_ (hG:=(wy U));intro a h;refine z0e 5 h U ?_ (hG:=(wy U));intro a h;refine z0e 6 h U ?_ (hG:=(wy U));intro a h;refine z1d (p:=lo+k) (hd0) 7 h U ho.sl U z4e U ?_ (hG:=(wy U));intro b2 a5 a h;refine z1z 8 h (wy U) U (λ_ hw=>a5 _<|O.sl.ext hw) z6e U λa h=>z0e 9 h U ?_ (hG:=(wy U));intro a h;refine z0e 10 h U ?_ (hG:=(wy U));intro a h;refine z3a 11 h U t12 U ?_ (hG:=(wy U));intro a h;refine z1d (p:=lo+k-1) (hd0) 12 h U ho.sl U z4e U ?_ (hG:=(wy U));intro b3 a6 a h;refine z1z 13 h (wy U) U (λ_ hw=>a6 _<|O.sl.ext hw) z6e U λa h=>z0d 14 U<|z5a h U U U U<|y1f (us:=[]) (ws:=[]) h U (z0a U<|z0a U z0f) cO (x3x ((y4e (l.take lo) s k x<|l.drop<|i+1).getD (lo+k) hd0) ((y4e (l.take lo) s k x<|l.drop<|i+1).getD (lo+k-1) hd0) _) U t14 ?_;rintro _ w4 ⟨rfl,q4⟩ a h;have ho:=ho.ext q4;have hC:=hC.next q4;refine z0b<|v5o 15 hC h (wy U) U U λa h=>z0d 16 U<|z4z h U λa h=>?_;refine z0b<|z0q ?_;clear hC O;refine xB (ll7 0 1 2 3 8 9 34) h U<|tn<|cd U (λc1=>?_)<|λc1=>?_;have b7:0<k:=by omega
 have a4:(y4e (l.take lo) s k x<|l.drop<|i+1).getD (lo+k-1) hd0=s.getD (k-1) hd0:=by have:=j2h (P:=l.take lo) (s:=s) (R:=l.drop<|i+1) (x:=x) (d:=hd0) (k:=k-1) oo;rwa [l27,show min lo l.length=lo by omega,show k-1+1=k by omega,show lo+(k-1)=lo+k-1 by omega]at this
 have a7:x.s<(s.getD (k-1) hd0).s:=by rw[a0,a4]at c1;exact y0u.1 c1
 refine sk<|tn<|sq<|bl ?_;intro a h;refine rgh (some 17) (Fr [g]) ?_;intro w5 q5 hC;have ho:=ho.ext q5;have O:=ho;refine z0e 0 h U λa h=>z0e 1 h U λa h=>z0e 2 h U λa h=>z0e 3 h U λa h=>z3a 4 h U t12 U λa h=>z0e 5 h U λa h=>z0e 6 h U λa h=>z3a 7 h U t12 U λa h=>z1d (p:=lo+k-1) (hd0) 8 h U ho.sl U z4e U λb4 a2 a h=>z0e 10 h U λa h=>z0e 11 h U λa h=>z1d (p:=lo+k) (hd0) 12 h U ho.sl U z4e U λb5 a3 a h=>z1v 9 13 kr U ?_ ?_;refine z1o h U (a2 _ ho.sl) z6e U λa h=>z0b<|z0d 13 U<|z1o h U (a3 _ ho.sl) z6e U λa h=>?_;refine z0b<|z1l 14 kr hC (p:=lo+k) h wn U z4e oo oo oo U U λa h=>z0d 15 U<|z0z (i:=lo+k) ((y4e (l.take lo) s k x<|l.drop<|i+1).getD (lo+k-1) hd0) h U ho oo U z9e λw6 I q6 _hz a h=>?_;have hC:=hC.sp q6;have ho:=I;clear I;refine z0b<|z1l 16 kr hC (p:=lo+k-1) h wn U z4e oo oo oo U U λa h=>z0d 17 U<|z0z (i:=lo+k-1) ((y4e (l.take lo) s k x<|l.drop<|i+1).getD (lo+k) hd0) h U ho t34 U z9e λw7 I q7 _hz a h=>?_;have ho:=I;clear I;refine z1m<|z0q ?_;clear hC O;refine xB (ll6 0 1 2 3 8 9) h U<|bn'<|tn<|rg<|mv U<|z2i U (wi6 oo)<|asg U<|nl ?_;exact lpE (k-1) (.c6 U U U U U<|congrArg (λz=>some<|Value.int .i64 z) (show ((lo+k:Nat):Int)-1=((lo+(k-1):Nat):Int) by omega)) ⟨((l12 [g] _).z6 q2 q3 q4 q5 q6 q7),⟨oo,by rw[a0,a4]at ho;have e:=x6z (P:=l.take lo) (s:=s) (R:=l.drop<|i+1) (x:=x) (d:=hd0) (k:=k-1) oo;rw[l27,show min lo l.length=lo by omega,show k-1+1=k by omega,show lo+(k-1)+1=lo+k by omega]at e;rw[<-e,show lo+(k-1)=lo+k-1 by omega];exact ho,λj h1 h2=>by
  by_cases e:k<=j;exact a1 j e h2;obtain rfl:j=k-1:=by omega
  exact a7⟩⟩ oo
 refine z1o h U (a3 _ ho.sl) z6e U λa h=>z0b<|z0d 9 U<|z1o h U (a2 _ ho.sl) z6e U λa h=>?_;refine z0b<|z1l 14 kr hC (p:=lo+k) h wn U z4e oo oo oo U U λa h=>z0d 15 U<|z0z (i:=lo+k) ((y4e (l.take lo) s k x<|l.drop<|i+1).getD (lo+k-1) hd0) h U ho oo U z9e λw8 I q8 _hz a h=>?_;have hC:=hC.sp q8;have ho:=I;clear I;refine z0b<|z1l 16 kr hC (p:=lo+k-1) h wn U z4e oo oo oo U U λa h=>z0d 17 U<|z0z (i:=lo+k-1) ((y4e (l.take lo) s k x<|l.drop<|i+1).getD (lo+k) hd0) h U ho t34 U z9e λw9 I q9 _hz a h=>?_;have ho:=I;clear I;refine z1m<|z0q ?_;clear hC O;refine xB (ll6 0 1 2 3 8 9) h U<|bn'<|tn<|rg<|mv U<|z2i U (wi6 oo)<|asg U<|nl ?_;exact lpE (k-1) (.c6 U U U U U<|congrArg (λz=>some<|Value.int .i64 z) (show ((lo+k:Nat):Int)-1=((lo+(k-1):Nat):Int) by omega)) ⟨((l12 [g] _).z6 q2 q3 q4 q5 q8 q9),⟨oo,by rw[a0,a4]at ho;have e:=x6z (P:=l.take lo) (s:=s) (R:=l.drop<|i+1) (x:=x) (d:=hd0) (k:=k-1) oo;rw[l27,show min lo l.length=lo by omega,show k-1+1=k by omega,show lo+(k-1)+1=lo+k by omega]at e;rw[<-e,show lo+(k-1)=lo+k-1 by omega];exact ho,λj h1 h2=>by
  by_cases e:k<=j;exact a1 j e h2;obtain rfl:j=k-1:=by omega
  exact a7⟩⟩ oo
 have a8:k=0\/¬x.s<(s.getD (k-1) hd0).s:=by
  first
  | exact .inl oo
  | (refine .inr λe=>c1 ?_;have:=j2h (P:=l.take lo) (s:=s) (R:=l.drop<|i+1) (x:=x) (d:=hd0) (k:=k-1) oo;rw[l27,show min lo l.length=lo by omega,show k-1+1=k by omega,show lo+(k-1)=lo+k-1 by omega]at this;rw[a0,this];exact y0u.2 e)
 exact ex<|te<|te<|xh<|bn'<|tn<|rg<|mv U<|ad6 U<|asg U<|nl<|lpE (i+1) U ⟨((l12 [g] _).z4 q1 q2 q3 q4),⟨oo,by rw[<-x8c oo oo Z.2,<-hs,<-hx,<-x7n (k:=k) a9 hk (by first|exact a8|exact .inl oo) a1];exact ho⟩⟩ oo;intro g0 h;refine z1n 4 h U U λa h=>z1n 5 h U U λa h=>z1n 6 h U U λa h=>z1n 7 h U U λa h=>z1n 8 h U U λa h=>z1n 9 h U U λa h=>z1n 10 h U U λa h=>z1n 11 h U U λa h=>z1n 12 h U U λa h=>z1n 13 h U U λa h=>z1n 14 h U U λa h=>z1n 15 h U U λa h=>z0d 16 U<|z2x h U λa h=>?_;refine z0b<|z0q ?_;clear hC O;exact xB (ll7 0 1 2 3 8 9 34) h U<|tn<|cf U<|ex<|te<|te<|xh<|bn'<|tn<|rg<|mv U<|ad6 U<|asg U<|nl<|lpE (i+1) U ⟨((l12 [g] _).z3 q1 q2 q3),⟨oo,by rw[<-x8c oo oo Z.2,<-hs,<-hx,<-x7n (k:=k) a9 hk (by first|exact a8|exact .inl oo) a1];exact ho⟩⟩ oo;rw[u5v oo]at ho;refine ex<|te<|te<|xh<|r0n U  ?_;exact⟨_,rfl,rfl,ho,(q1.weak se)⟩
end Go.Proofs.YtkafbfjmcigaiaaGreatDoor
namespace Go.G08
open Go.Lw Go.G21
def flK (k:Int)(l:List Hd):List Hd:=l.filter λh=>decide (h.s=k)
theorem z9b (k:Int)(a b:List Hd):flK k (a++b)=flK k a++flK k b:=List.filter_append ..
theorem x8u {k:Int}{l:List Hd}(h:∀x∈l,x.s≠k):flK k l=[]:=by
 unfold flK;rw[List.filter_eq_nil_iff];intro x D;simpa using h x D
theorem z7g (k:Int)(x:Hd)(l:List Hd):flK k (x::l)=if x.s=k then x::flK k l else flK k l:=by
 unfold flK;rw[l61];by_cases e:x.s=k<;>simp[e]
theorem v8u (k:Int)(h:Hd):∀l:List Hd,x6d l->flK k (z9u h l)=flK k (l++[h])
 | [],_=>rfl
 | y::l,hs=>by
  obtain⟨I,O⟩:=l80.1 hs
  unfold z9u
  split
  ·rename_i Z
   rw[z9b,z7g]
   by_cases e:h.s=k
   ·have:flK k (y::l)=[]:=x8u λx D=>by
     rcases l57.1 D with rfl|D
     ·omega
     have:=I x D;omega
    rw[if_pos e,this,z7g,if_pos e];rfl
   rw[if_neg e,z7g k h [],if_neg e];simp[flK]
  rw[l48,z7g,z7g,v8u k h l O]
theorem v2l (k:Int):∀(l a:List Hd),x6d a->flK k (l.foldl (λa h=>z9u h a) a)=flK k (a++l)
 | [],a,_=>by simp
 | x::l,a,h=>by
  rw[l126,v2l k l _ (x0z x a h),z9b,v8u k x a h,<-z9b,l14];rfl
theorem y0n (k:Int)(l:List Hd):flK k (z6h l)=flK k l:=by unfold z6h;rw[v2l k l [] List.Pairwise.nil];rfl
theorem u0q {k:Int}{x:Hd}{l:List Hd}:x∈flK k l↔x∈l/\x.s=k:=by unfold flK;rw[l105];simp
theorem y9y {a b:List Hd}(h:∀k,flK k a=flK k b)(x:Hd)(D:x∈a):x∈b:=(u0q.1 (h x.s▸u0q.2 ⟨D,rfl⟩)).1
theorem v3z {x:Hd}{l:List Hd}:x∈z6h l↔x∈l:=⟨y9y (λk=>y0n k l) x,y9y (λk=>(y0n k l).symm) x⟩
theorem v4b:∀(a b:List Hd),x6d a->x6d b->(∀k,flK k a=flK k b)->a=b
 | [],[],_,_,_=>rfl
 | [],y::b,_,_,h=>by have:=y9y (λk=>(h k).symm) y (l35 ..);cases this
 | x::a,[],_,_,h=>by have:=y9y h x (l35 ..);cases this
 | x::a,y::b,ha,hb,h=>by
  obtain⟨Z,a2⟩:=l80.1 ha
  obtain⟨b1,b2⟩:=l80.1 hb
  have hx:=y9y h x (l35 ..)
  have hy:=y9y (λk=>(h k).symm) y (l35 ..)
  have e1:y.s<=x.s:=by
   rcases l57.1 hx with e|e
   ·rw[e];exact Int.le_refl _
   exact b1 x e
  have e2:x.s<=y.s:=by
   rcases l57.1 hy with e|e
   ·rw[e];exact Int.le_refl _
   exact Z y e
  have es:y.s=x.s:=by omega
  have O:=h x.s
  rw[z7g,z7g,if_pos U,if_pos es]at O
  obtain⟨I,_⟩:=l139 O
  subst I
  rw[v4b a b a2 b2 λk=>?_]
  have D:=h k
  rw[z7g,z7g]at D
  by_cases e:x.s=k
  ·rw[if_pos e,if_pos e]at D;exact(l139 D).2
  rw[if_neg e,if_neg e]at D;exact D
theorem x9m {l l':List Hd}(h:x6d l')(hf:∀k,flK k l'=flK k l):l'=z6h l:=v4b _ _ h (z9c l) λk=>(hf k).trans (y0n k l).symm
theorem j7j {l:List Hd}(h:x6d l):z6h l=l:=(x9m h λ_=>rfl).symm
theorem u7q (a b:List Hd):z6h (z6h a++z6h b)=z6h (a++b):=by
 refine x9m (z9c _) λk=>?_;rw[y0n,z9b,y0n,y0n,z9b]
theorem k8h {X Y:List Hd}(k:Int)(h:∀x∈X,∀y∈Y,y.s<x.s):flK k (Y++X)=flK k (X++Y):=by
 rw[z9b,z9b];by_cases e:∃x∈X,x.s=k;obtain⟨x,D,rfl⟩:=e;rw[x8u (l:=Y) λy O=>by have:=h x D y O;omega];simp;rw[x8u (l:=X) λx D I=>e ⟨x,D,I⟩];simp
theorem j9l {Z L2 O R2:List Hd}(hL:x6d (Z++L2))(hR:x6d (O++R2))(hx:∀x∈L2,∀y∈O,y.s<x.s)(h1:∀x∈Z,∀y∈R2,x.s<=y.s):z6h (Z++O)++z6h (L2++R2)=z6h ((Z++L2)++(O++R2)):=by
 obtain⟨_,_,l3⟩:=List.pairwise_append.1 hL;obtain⟨_,_,r3⟩:=List.pairwise_append.1 hR;refine x9m (List.pairwise_append.2 ⟨z9c _,z9c _,λa D b I=>?_⟩) λk=>?_;rcases l23.1 (v3z.1 D) with D|D<;>rcases l23.1 (v3z.1 I) with I|I
 exact l3 a D b I;exact h1 a D b I;have:=hx b I a D;omega;exact r3 a D b I;rw[z9b,y0n,y0n];have:=k8h k hx;simp only[z9b,l14]at this ⊢;rw[<-l14 (flK k O),this,l14]
-- ---- lists whose elements are taken in another order
def prm (l:List Hd)(f:Nat->Nat):List Hd:=(List.range l.length).map λi=>l.getD (f i) hd0
theorem z6c (l:List Hd)(f:Nat->Nat):(prm l f).length=l.length:=by unfold prm;simp
theorem z8h {l:List Hd}{f:Nat->Nat}{i:Nat}(h:i<l.length):(prm l f).getD i hd0=l.getD (f i) hd0:=by
 unfold prm;rw[List.getD,l10 (by simpa using h),l130,List.getElem_range];rfl
theorem z7x {a b:List Hd}(hl:a.length=b.length)(h:∀i,i<a.length->a.getD i hd0=b.getD i hd0):a=b:=by
 refine l71 hl λi D I=>?_;have:=h i D;rw[List.getD,List.getD,l10 D,l10 I]at this;exact this
theorem u3p {l:List Hd}{f g:Nat->Nat}(h:∀i,i<l.length->f i=g i):prm l f=prm l g:=by
 refine z7x (by rw[z6c,z6c]) λi hi=>?_;rw[z6c]at hi;rw[z8h hi,z8h hi,h i hi]
theorem u4j {l:List Hd}{f:Nat->Nat}(h:∀i,i<l.length->f i=i):prm l f=l:=by
 refine z7x (z6c _ _) λi hi=>?_;rw[z6c]at hi;rw[z8h hi,h i hi]
theorem u5b {l:List Hd}{f g h:Nat->Nat}(I:∀i,i<l.length->g i<l.length)(D:∀i,i<l.length->f (g i)=h i):prm (prm l f) g=prm l h:=by
 refine z7x (by rw[z6c,z6c,z6c]) λi hi=>?_;rw[z6c,z6c]at hi;rw[z8h (by rw[z6c];exact hi),z8h (I i hi),z8h hi,D i hi]
def z9z (s m e x:Nat):Nat:=if x<s\/e<=x then x else if x<s+(e-m) then x-s+m else x-(e-m)
def z6p (l:List Hd)(s m e:Nat):List Hd:=prm l<|z9z s m e
def swF (a b n x:Nat):Nat:=if a<=x/\x<a+n then x-a+b else if b<=x/\x<b+n then x-b+a else x
def swL (l:List Hd)(a b n:Nat):List Hd:=prm l<|swF a b n
theorem z1p (l:List Hd)(s m e:Nat):(z6p l s m e).length=l.length:=z6c _ _
theorem z7o (l:List Hd)(a b n:Nat):(swL l a b n).length=l.length:=z6c _ _
theorem z2z {l:List Hd}{s m e i:Nat}(h:i<l.length):(z6p l s m e).getD i hd0=l.getD (z9z s m e i) hd0:=z8h h
theorem x3a {l:List Hd}{a b n i:Nat}(h:i<l.length):(swL l a b n).getD i hd0=l.getD (swF a b n i) hd0:=z8h h
theorem u1x {s m e n i:Nat}(h1:s<=m)(D:m<=e)(I:e<=n)(hi:i<n):z9z s m e i<n:=by
 unfold z9z;split;exact hi;split<;>omega
theorem j3z {l:List Hd}{s e:Nat}(h:s<=e):z6p l s s e=l:=u4j λi _=>by
 unfold z9z;split
 ·rfl
 split<;>omega
theorem j3c {l:List Hd}{s m:Nat}(h:s<=m):z6p l s m m=l:=u4j λi _=>by
 unfold z9z;split
 ·rfl
 split<;>omega
theorem sw_0 {l:List Hd}{a b:Nat}:swL l a b 0=l:=u4j λi _=>by
 unfold swF;split
 ·omega
 split<;>omega
theorem k5s {l:List Hd}{i m:Nat}(h:i<=m):swL l (m-i) m i=z6p l (m-i) m (m+i):=u3p λx _=>by
 unfold swF z9z;repeat' split
 all_goals omega
theorem k6c {l:List Hd}{i j m:Nat}(h:i<=m)(O:j<i)(I:m+j<=l.length):z6p (swL l (m-i) m j) (m-(i-j)) m (m+j)=z6p l (m-i) m (m+j):=by
 refine u5b (λx D=>u1x oo oo I D) λx D=>?_
 unfold swF z9z;repeat' split
 all_goals omega
theorem k5l {l:List Hd}{i j m:Nat}(h:i<=m)(I:i<j)(O:m+j<=l.length):z6p (swL l (m-i) (m+j-i) i) (m-i) m (m+(j-i))=z6p l (m-i) m (m+j):=by
 refine u5b (λx D=>u1x oo oo oo D) λx D=>?_
 unfold swF z9z;repeat' split
 all_goals omega
theorem z8q {l:List Hd}{i j:Nat}{x:Hd}(hi:i<l.length):(l.set i x).getD j hd0=if j=i then x else l.getD j hd0:=by
 rw[List.getD,l114];by_cases e:i=j;subst e;rw[if_pos U,if_pos hi,if_pos U];rfl;rw[if_neg e,if_neg (λh=>e h.symm)];rfl
theorem u1y {l:List Hd}{a b i:Nat}(h:a+i+1<=b)(I:b+i<l.length):((swL l a b i).set (a+i)<|(swL l a b i).getD (b+i) hd0).set (b+i) ((swL l a b i).getD (a+i) hd0)=swL l a b (i+1):=by
 refine z7x (by simp[z7o]) λx D=>?_
 simp only[l19,z7o]at D
 rw[z8q (by rw[l19,z7o];exact I),z8q (by rw[z7o];omega),x3a oo,x3a oo,x3a D,x3a D]
 unfold swF
 repeat' split
 all_goals first|rfl|(congr 1;omega)|omega
theorem j2c {l:List Hd}{a k:Nat}(h:a<=k)(I:k+1<l.length):((z6p l a (a+1)<|k+1).set k<|(z6p l a (a+1)<|k+1).getD (k+1) hd0).set (k+1) ((z6p l a (a+1)<|k+1).getD k hd0)=z6p l a (a+1) (k+2):=by
 refine z7x (by simp[z1p]) λx D=>?_
 simp only[l19,z1p]at D
 rw[z8q (by rw[l19,z1p];exact I),z8q t33,z2z oo,z2z oo,z2z D,z2z D]
 unfold z9z
 repeat' split
 all_goals first|rfl|(congr 1;omega)|omega
theorem v1s {l:List Hd}{m k:Nat}(h:k<m)(I:m<l.length):((z6p l (k+1) m<|m+1).set (k+1)<|(z6p l (k+1) m<|m+1).getD k hd0).set k ((z6p l (k+1) m<|m+1).getD (k+1) hd0)=z6p l k m (m+1):=by
 refine z7x (by simp[z1p]) λx D=>?_
 simp only[l19,z1p]at D
 rw[z8q t57,z8q t33,z2z oo,z2z oo,z2z D,z2z D]
 unfold z9z
 repeat' split
 all_goals first|rfl|(congr 1;omega)|omega
abbrev seg (l:List Hd)(a b:Nat):List Hd:=(l.take b).drop a
theorem z2j {l:List Hd}{a b:Nat}(hb:b<=l.length):(seg l a b).length=b-a:=by
 unfold seg;rw[l39,l27];omega
theorem z8e {l:List Hd}{a b i:Nat}(h:i<b-a):(seg l a b).getD i hd0=l.getD (a+i) hd0:=by
 unfold seg;rw[List.getD,l101,l53,if_pos oo];rfl
theorem y4t {l:List Hd}{a m b:Nat}(h1:a<=m)(D:m<=b)(hb:b<=l.length):seg l a b=seg l a m++seg l m b:=by
 refine z7x (by rw[l13,z2j hb,z2j oo,z2j hb];omega) λi hi=>?_;rw[z2j hb]at hi;rw[z8e hi];by_cases e:i<m-a;rw[List.getD,List.getD,l46 (by rw[z2j oo];exact e)];have:=z8e (l:=l) (a:=a) (b:=m) e;rw[List.getD,List.getD]at this;exact this.symm;rw[List.getD,List.getD,l30 (by rw[z2j oo];omega),z2j oo];have:=z8e (l:=l) (a:=m) (b:=b) (i:=i-(m-a)) oo;rw[List.getD,List.getD,show m+(i-(m-a))=a+i by omega]at this;exact this.symm
theorem x1q {l:List Hd}{a b:Nat}(h:a<=b)(hb:b<=l.length):l.take a++(seg l a b++l.drop b)=l:=by
 have D:l.take a++seg l a b=l.take b:=by
  unfold seg
  conv=>rhs;rw[<-l25 a (l.take b)]
  rw[List.take_take,show min a b=a by omega]
 rw[<-l14,D,l25]
theorem x1z {l:List Hd}{a b:Nat}{x:Hd}(hb:b<=l.length)(D:x∈seg l a b):∃i,a<=i/\i<b/\x=l.getD i hd0:=by
 obtain⟨i,hi,rfl⟩:=l29 D;rw[z2j hb]at hi;refine⟨a+i,oo,oo,?_⟩;rw[<-z8e hi,List.getD,l10 (by rw[z2j hb];exact hi)];rfl
def y0x (l:List Hd)(a b:Nat):Prop:=∀i j,a<=i->i<j->j<b->(l.getD i hd0).s<=(l.getD j hd0).s
theorem x2m {l:List Hd}{a b:Nat}(hb:b<=l.length)(h:y0x l a b):x6d (seg l a b):=by
 refine l83.2 λi j hi D I=>?_;have O:=hi;have Z:=D;rw[z2j hb]at hi D;have e1:=z8e (l:=l) hi;have e2:=z8e (l:=l) D;rw[List.getD,l10 O,l59]at e1;rw[List.getD,l10 Z,l59]at e2;rw[e1,e2];exact h _ _ oo oo oo
theorem v3i {l:List Hd}{a b:Nat}(hb:b<=l.length)(h:x6d (seg l a b)):y0x l a b:=λi j D I O=>by
 have:=l83.1 h (i-a) (j-a) (by rw[z2j hb];omega) (by rw[z2j hb];omega) oo
 have e1:=z8e (l:=l) (a:=a) (b:=b) (i:=i-a) oo
 have e2:=z8e (l:=l) (a:=a) (b:=b) (i:=j-a) oo
 rw[List.getD,l10 (by rw[z2j hb];omega),l59,show a+(i-a)=i by omega]at e1
 rw[List.getD,l10 (by rw[z2j hb];omega),l59,show a+(j-a)=j by omega]at e2
 rw[e1,e2]at this;exact this
theorem j0b {l:List Hd}{a b i:Nat}(h:a<=b)(hb:b<=l.length)(hi:i<a\/b<=i):(z8y l a b b).getD i hd0=l.getD i hd0:=by
 unfold z8y;rw[show min b b=b by omega];rcases hi with e|e
 rw[List.getD,List.getD,l46 t19,l53,if_pos e];rw[List.getD,List.getD,l30 t19,l27,l30 (by rw[z7q h hb];omega),z7q h hb,l101];congr 2;omega
theorem x4r {l:List Hd}{a b:Nat}(h:a<=b)(hb:b<=l.length):(z8y l a b b).length=l.length:=by
 unfold z8y;rw[show min b b=b by omega,l13,l13,z7q h hb,l27,l39];omega
theorem z8n {l:List Hd}{a b:Nat}(h:a<=b)(hb:b<=l.length)(D:y0x l a b):z8y l a b b=l:=by
 unfold z8y;rw[show min b b=b by omega,j7j (x2m hb D)];exact x1q h hb
theorem x1v {l:List Hd}{P M S:List Hd}(h:l=P++(M++S)):seg l P.length (P.length+M.length)=M:=by
 subst h;unfold seg;rw[<-l14,List.take_append_of_le_length (by rw[l13];exact l20 _),show P.length+M.length=(P++M).length by rw[l13],l40];simp
theorem z8u {P M S:List Hd}:z8y (P++(M++S)) P.length (P.length+M.length) (P.length+M.length)=P++(z6h M++S):=by
 unfold z8y;rw[Nat.min_self];have:=x1v (l:=P++(M++S)) U;unfold seg at this;rw[this];congr 1;simp;congr 1;rw[<-l14,show P.length+M.length=(P++M).length by rw[l13],l131 (l20 _)];simp
theorem v5z {l:List Hd}{s m e:Nat}(h1:s<=m)(I:m<=e)(D:e<=l.length):z6p l s m e=l.take s++(seg l m e++(seg l s m++l.drop e)):=by
 refine z7x (by simp only[z1p,l13,z2j D,z2j (show m<=l.length by omega),l27,l39];omega) λi hi=>?_;rw[z1p]at hi;rw[z2z hi];unfold z9z;by_cases c1:i<s;rw[if_pos (.inl c1),List.getD,List.getD,l46 t19,l53,if_pos c1];rw[List.getD,List.getD,l30 t19,l27,show min s l.length=s by omega];by_cases c2:i<s+(e-m);rw[if_neg oo,if_pos c2,l46 (by rw[z2j D];omega)];have:=z8e (l:=l) (a:=m) (b:=e) (i:=i-s) oo;rw[List.getD,List.getD]at this;rw[this];congr 2;omega;rw[l30 (by rw[z2j D];omega),z2j D];by_cases c3:i<e;rw[if_neg oo,if_neg c2,l46 (by rw[z2j oo];omega)];have:=z8e (l:=l) (a:=s) (b:=m) (i:=i-s-(e-m)) oo;rw[List.getD,List.getD]at this;rw[this];congr 2;omega;rw[if_pos oo,l30 (by rw[z2j oo];omega),z2j oo,l101];congr 2;omega
theorem j7t {l:List Hd}{a b:Nat}(h:a<=b)(hb:b<=l.length):z8y l a b b=l.take a++(z6h (seg l a b)++l.drop b):=by unfold z8y;rw[Nat.min_self]
theorem y3g {l:List Hd}{a s m e b mid:Nat}(h1:a<=s)(O:s<=m)(Z:m<=e)(h4:e<=b)(hb:b<=l.length)(hm:mid=s+(e-m))(hl:y0x l a m)(hr:y0x l m b)
    (hx:∀i j,s<=i->i<m->m<=j->j<e->(l.getD j hd0).s<(l.getD i hd0).s) (hy:∀i j,a<=i->i<s->e<=j->j<b->(l.getD i hd0).s<=(l.getD j hd0).s):z8y (z8y (z6p l s m e) a mid mid) mid b b=z8y l a b b:=by
  have el:z6p l s m e=l.take a++((seg l a s++seg l m e)++((seg l s m++seg l e b)++l.drop b)):=by
    rw[v5z O Z oo]
    have t1:l.take s=l.take a++seg l a s:=by
      unfold seg
      conv=>lhs;rw[<-l25 a (l.take s)]
      rw[List.take_take,show min a s=a by omega]
    have t2:l.drop e=seg l e b++l.drop b:=by
      have:=x1q (l:=l) h4 hb
      have h:=congrArg (List.drop e) this
      rw[l131 t19,l102 t19]at h
      exact h.symm
    rw[t1,t2];simp only[l14]
  have lA:(l.take a).length=a:=by rw[l27];omega
  have lM:(seg l a s++seg l m e).length=mid-a:=by rw[l13,z2j oo,z2j oo];omega
  have lN:(seg l s m++seg l e b).length=b-mid:=by rw[l13,z2j oo,z2j oo];omega
  have i1:=z8u (P:=l.take a) (M:=seg l a s++seg l m e) (S:=(seg l s m++seg l e b)++l.drop b)
  rw[lA,lM,show a+(mid-a)=mid by omega,<-el]at i1
  rw[i1]
  have i2:=z8u (P:=l.take a++z6h (seg l a s++seg l m e)) (M:=seg l s m++seg l e b) (S:=l.drop b)
  rw[l13,lA,z5c,lM,lN,show a+(mid-a)+(b-mid)=b by omega,show a+(mid-a)=mid by omega]at i2
  rw[<-l14 (l.take a),i2,j7t oo hb,l14 (l.take a),<-l14 (z6h<|seg l a s++seg l m e)]
  congr 2
  rw[y4t (a:=a) (m:=m) (b:=b) oo oo hb,y4t (a:=a) (m:=s) (b:=m) h1 O oo,y4t (a:=m) (m:=e) (b:=b) Z h4 hb]
  refine j9l ?_ ?_ (λx D y I=>?_)<|λx D y I=>?_
  · rw[<-y4t h1 O oo];exact x2m oo hl
  · rw[<-y4t Z h4 hb];exact x2m hb hr
  · obtain⟨i,k1,k2,rfl⟩:=x1z oo D
    obtain⟨j,k3,k4,rfl⟩:=x1z oo I
    exact hx i j k1 k2 k3 k4
  · obtain⟨i,k1,k2,rfl⟩:=x1z oo D
    obtain⟨j,k3,k4,rfl⟩:=x1z hb I
    exact hy i j k1 k2 k3 k4
theorem x1b {l:List Hd}{a s m e mid:Nat}(h1:a<=s)(Z:s<=m)(h3:m<=e)(he:e<=l.length)(hm:mid=s+(e-m))(hl:y0x l a m)(b:Nat)(O:y0x l m b)(hb:e<=b):y0x (z6p l s m e) a s/\y0x (z6p l s m e) s mid:=by
 constructor;intro i j D I k3;rw[z2z oo,z2z oo];unfold z9z;rw[if_pos oo,if_pos oo];exact hl i j D I oo;intro i j D I k3;rw[z2z oo,z2z oo];unfold z9z;rw[if_neg oo,if_pos oo,if_neg oo,if_pos oo];exact O _ _ oo oo oo
theorem v5a {l:List Hd}{a s m e b mid:Nat}(h1:a<=s)(Z:s<=m)(h3:m<=e)(he:e<=b)(hb:b<=l.length)(hm:mid=s+(e-m))(hl:y0x l a m)(O:y0x l m b):y0x (z8y (z6p l s m e) a mid mid) mid e/\y0x (z8y (z6p l s m e) a mid mid) e b:=by
 have g:∀i,mid<=i->i<b->(z8y (z6p l s m e) a mid mid).getD i hd0=l.getD (z9z s m e i) hd0:=λi D I=>by
  rw[j0b oo t33 (.inr D),z2z oo]
 constructor;intro i j D I k3;rw[g i oo oo,g j oo oo];unfold z9z;rw[if_neg oo,if_neg oo,if_neg oo,if_neg oo];exact hl _ _ oo oo oo;intro i j D I k3;rw[g i oo oo,g j oo oo];unfold z9z;rw[if_pos oo,if_pos oo];exact O _ _ oo I k3
theorem k0g {l:List Hd}{a i b:Nat}(h1:a+1<=i)(h2:i<=b)(hb:b<=l.length)(hr:y0x l (a+1) b)(hx:∀j,a+1<=j->j<i->(l.getD j hd0).s<(l.getD a hd0).s)(hy:∀j,i<=j->j<b->(l.getD a hd0).s<=(l.getD j hd0).s):z6p l a (a+1) i=z8y l a b b:=by
 have k:=y3g (l:=l) (a:=a) (s:=a) (m:=a+1) (e:=i) (b:=b) (mid:=a+(i-(a+1))) (l20 _) oo h1 h2 hb U (λI O Z D k3=>oo) hr
  (λI O Z D k3 k4=>by obtain rfl:I=a:=oo;exact hx O k3 k4) (λI O Z D=>oo)
 have r1:=x1b (l:=l) (a:=a) (s:=a) (m:=a+1) (e:=i) (mid:=a+(i-(a+1))) (l20 _) oo h1 oo U (λI O Z D k3=>oo) b hr h2;rw[<-k];have s1:y0x (z6p l a (a+1) i) a (a+(i-(a+1))):=r1.2;rw[z8n oo t33 s1];have s2:y0x (z6p l a (a+1) i) (a+(i-(a+1))) b:=λx y Z D k3=>by
  rw[z2z oo,z2z oo];by_cases e1:x=i-1;have f1:z9z a (a+1) i x=a:=by unfold z9z;rw[if_neg oo,if_neg oo];omega
  have f2:z9z a (a+1) i y=y:=by unfold z9z;rw[if_pos oo]
  rw[f1,f2];exact hy y oo k3;have f1:z9z a (a+1) i x=x:=by unfold z9z;rw[if_pos oo]
  have f2:z9z a (a+1) i y=y:=by unfold z9z;rw[if_pos oo]
  rw[f1,f2];exact hr x y oo D k3
 exact(z8n oo t33 s2).symm
theorem j7v {l:List Hd}{a i m:Nat}(h1:a<=i)(h2:i<=m)(hb:m+1<=l.length)(hl:y0x l a m)(hx:∀j,i<=j->j<m->(l.getD m hd0).s<(l.getD j hd0).s)(hy:∀j,a<=j->j<i->(l.getD j hd0).s<=(l.getD m hd0).s):z6p l i m (m+1)=z8y l a (m+1) (m+1):=by
 have k:=y3g (l:=l) (a:=a) (s:=i) (m:=m) (e:=m+1) (b:=m+1) (mid:=i+1) h1 h2 oo (l20 _) hb oo hl (λi' j' D I k3=>oo)
  (λi' j' D I k3 k4=>by obtain rfl:j'=m:=oo;exact hx i' D I) (λi' j' D I k3 k4=>oo)
 rw[<-k];have s1:y0x (z6p l i m<|m+1) a (i+1):=λx y D I k3=>by
  rw[z2z oo,z2z oo];have Z:z9z i m (m+1) x=x:=by unfold z9z;rw[if_pos oo]
  by_cases e1:y=i;have O:z9z i m (m+1) y=m:=by unfold z9z;rw[if_neg oo,if_pos oo];omega
  rw[Z,O];exact hy x D oo;have O:z9z i m (m+1) y=y:=by unfold z9z;rw[if_pos oo]
  rw[Z,O];exact hl x y D I oo
 rw[z8n oo t33 s1];have s2:y0x (z6p l i m<|m+1) (i+1) (m+1):=λx y D I k3=>by
  rw[z2z oo,z2z oo];have Z:z9z i m (m+1) x=x-1:=by unfold z9z;rw[if_neg oo,if_neg oo];omega
  have O:z9z i m (m+1) y=y-1:=by unfold z9z;rw[if_neg oo,if_neg oo];omega
  rw[Z,O];exact hl _ _ oo oo oo
 exact(z8n oo t33 s2).symm
theorem k5w {l:List Hd}{s m e:Nat}(h:¬(s<m/\m<e))(h1:s<=m)(D:m<=e):z6p l s m e=l:=by
 by_cases k:s<m;obtain rfl:e=m:=by omega
 exact j3c h1;obtain rfl:s=m:=by omega
 exact j3z D
theorem skip1 {l:List Hd}{a s m e mid:Nat}(hn:¬(a<s/\s<mid))(h1:a<=s)(D:s<=m)(I:m<=e)(O:e<=l.length)(Z:mid=s+(e-m))(hl:y0x l a m)(b:Nat)(hr:y0x l m b)(hb:e<=b):z8y (z6p l s m e) a mid mid=z6p l s m e:=by
 obtain⟨k1,k2⟩:=x1b h1 D I O Z hl b hr hb;refine z8n oo t33 ?_;by_cases k:a<s;obtain rfl:mid=s:=by omega
 exact k1;obtain rfl:s=a:=by omega
 exact k2
theorem q0w {l:List Hd}{a s m e b mid:Nat}(hn:¬(mid<e/\e<b))(h1:a<=s)(D:s<=m)(I:m<=e)(O:e<=b)(hb:b<=l.length)(Z:mid=s+(e-m))(hl:y0x l a m)(hr:y0x l m b):z8y (z8y (z6p l s m e) a mid mid) mid b b=z8y (z6p l s m e) a mid mid:=by
 obtain⟨k1,k2⟩:=v5a h1 D I O hb Z hl hr;refine z8n oo (by rw[x4r oo t33,z1p];omega) ?_;by_cases k:mid<e;obtain rfl:e=b:=by omega
 exact k1;obtain rfl:e=mid:=by omega
 exact k2
structure Sch (l:List Hd) (p s0 r0 s r:Nat):Prop where
  lo:s0<=s
  le:s<=r
  hi:r<=r0
  f1:∀x,s0<=x->x<s->(l.getD x hd0).s<=(l.getD (p-x) hd0).s
  f2:∀x,r<=x->x<r0->(l.getD (p-x) hd0).s<(l.getD x hd0).s
theorem k9x {l:List Hd}{p s0 r0:Nat}(h:s0<=r0):Sch l p s0 r0 s0 r0:=⟨l20 _,h,l20 _,λx _ _=>oo,λx _ _=>oo⟩
theorem z6z {l:List Hd}{a b i j:Nat}(h:y0x l a b)(hi:a<=i)(D:i<=j)(I:j<b):(l.getD i hd0).s<=(l.getD j hd0).s:=by
 by_cases e:i=j;subst e;exact Int.le_refl _;exact h i j hi oo I
section
variable {l:List Hd} {a m b mid p s0 r0 s r c:Nat}
theorem k4e (h:Sch l p s0 r0 s r)(hc:s<=c/\c<r)(hl:y0x l a m)(D:y0x l m b)(ha:a<=s0)(hm:r0<=m)(hi:r0<=mid)(hp:p=mid+m-1)(hb:mid+m<=b+s0)(hx:¬(l.getD (p-c) hd0).s<(l.getD c hd0).s):Sch l p s0 r0 (c+1) r:=by
 obtain⟨k1,k2,k3,k4,I⟩:=h;refine⟨oo,oo,k3,λx O Z=>?_,I⟩;have e1:=z6z hl (show a<=x by omega) (show x<=c by omega) (show c<m by omega);have e2:=z6z D (show m<=p-c by omega) (show p-c<=p-x by omega) (show p-x<b by omega);omega
theorem u9w (h:Sch l p s0 r0 s r)(hc:s<=c/\c<r)(hl:y0x l a m)(D:y0x l m b)(ha:a<=s0)(hm:r0<=m)(hi:r0<=mid)(hp:p=mid+m-1)(hb:mid+m<=b+s0)(hx:(l.getD (p-c) hd0).s<(l.getD c hd0).s):Sch l p s0 r0 s c:=by
 obtain⟨I,k2,k3,O,k5⟩:=h;refine⟨I,oo,oo,O,λx Z h2=>?_⟩;have e1:=z6z hl (show a<=c by omega) (show c<=x by omega) (show x<m by omega);have e2:=z6z D (show m<=p-x by omega) (show p-x<=p-c by omega) (show p-c<b by omega);omega
theorem u5m (h:Sch l p s0 r0 s s)(hl:y0x l a m)(hr:y0x l m b)(ha:a<=s0)(hm:r0=min m mid)(hp:p=mid+m-1)(hb:mid+m<=b+s0)(h0:s0=a\/s0=mid+m-b)(a0:b<=mid+m\/s0=a) :
    (∀i j,s<=i->i<m->m<=j->j<mid+m-s->(l.getD j hd0).s<(l.getD i hd0).s)/\(∀i j,a<=i->i<s->mid+m-s<=j->j<b->(l.getD i hd0).s<=(l.getD j hd0).s):=by
  obtain⟨k1,k2,k3,k4,k5⟩:=h
  constructor
  · intro i j D I O Z
    have e0:=k5 s (l20 _) oo
    have e1:=z6z hl (show a<=s by omega) D I
    have e2:=z6z hr O (show j<=p-s by omega) (show p-s<b by omega)
    omega
  · intro i j D I O Z
    by_cases e:s0<s
    · have e0:=k4 (s-1) oo oo
      have e1:=z6z hl D (show i<=s-1 by omega) (show s-1<m by omega)
      have e2:=z6z hr (show m<=p-(s-1) by omega) (show p-(s-1)<=j by omega) Z
      omega
    · omega
end
def chk (B:Nat)(l:List Hd):List Hd:=if h:B=0\/l.length<=B then z6h l else z6h (l.take B)++chk B (l.drop B)
termination_by l.length
decreasing_by rw [List.length_drop];omega
theorem y2b {B:Nat}{l:List Hd}(h:l.length<=B):chk B l=z6h l:=by rw[chk,dif_pos (.inr h)]
theorem u9p {B:Nat}{X Y:List Hd}(D:0<B)(h:X.length=B):chk B (X++Y)=z6h X++chk B Y:=by
 rw[chk];split;rename_i k;rw[l13]at k;have:Y=[]:=l116.1 oo;subst this;rw[l24,y2b (l:=[]) sp0];exact(l24 _).symm;rw[<-h];simp
theorem v9r (B:Nat):∀(n:Nat) (l:List Hd),l.length<=n->(chk B l).length=l.length
 | 0,l,h=>by rw[chk,dif_pos (.inr oo),z5c]
 | n+1,l,h=>by
  rw[chk]
  split
  ·exact z5c l
  rename_i k
  rw[l13,z5c,v9r B n _ (by rw[l39];omega),l27,l39];omega
theorem y3j {B a:Nat}{l:List Hd}(I:0<B)(h:a+B<=l.length):chk B (l.drop a)=z6h (seg l a<|a+B)++chk B (l.drop<|a+B):=by
 have e:l.drop a=seg l a (a+B)++l.drop (a+B):=by
  have:=x1q (l:=l) (a:=a) (b:=a+B) oo h
  have D:=congrArg (List.drop a) this
  rw[l131 t19,l102 t19]at D
  exact D.symm
 conv=>lhs;rw[e]
 exact u9p I (by rw[z2j h];omega)
theorem u8j {l D:List Hd}{a B:Nat}(O:D.length=a)(h:a+B<=l.length):z8y (D++l.drop a) a (a+B) (a+B)=(D++z6h (seg l a<|a+B))++l.drop (a+B):=by
 have e:l.drop a=seg l a (a+B)++l.drop (a+B):=by
  have:=x1q (l:=l) (a:=a) (b:=a+B) oo h;have I:=congrArg (List.drop a) this;rw[l131 t19,l102 t19]at I;exact I.symm
 rw[e];have:=z8u (P:=D) (M:=seg l a<|a+B) (S:=l.drop<|a+B);rw[O,z2j h,show a+(a+B-a)=a+B by omega]at this;rw[this,l14]
theorem u6y {l D:List Hd}{a B:Nat}(I:D.length=a)(h:a<=l.length)(hl:l.length<=a+B):z8y (D++l.drop a) a l.length l.length=D++chk B (l.drop a):=by
 have:=z8u (P:=D) (M:=l.drop a) (S:=[]);rw[I,l39,show a+(l.length-a)=l.length by omega,l24,l24]at this;rw[this,y2b (by rw[l39];omega)]
theorem x6y {l D:List Hd}{a B C:Nat}(I:D.length=a)(hB:0<B)(hC:C<=B)(h:a+(B+C)<=l.length)(R:List Hd)(hR:chk B (l.drop<|a+B)=z6h (seg l (a+B)<|a+(B+C))++R) :
    z8y (D++chk B (l.drop a)) a (a+(B+C)) (a+(B+C))=(D++z6h (seg l a<|a+(B+C)))++R/\y0x (D++chk B (l.drop a)) a (a+B)/\y0x (D++chk B (l.drop a)) (a+B) (a+(B+C)):=by
  have e:D++chk B (l.drop a)=D++((z6h (seg l a<|a+B)++z6h (seg l (a+B)<|a+(B+C)))++R):=by
    rw[y3j hB oo,hR,l14]
  have O:(z6h<|seg l a<|a+B).length=B:=by rw[z5c,z2j oo];omega
  have Z:(z6h<|seg l (a+B)<|a+(B+C)).length=C:=by rw[z5c,z2j oo];omega
  have s:=z8u (P:=D) (M:=z6h (seg l a<|a+B)++z6h (seg l (a+B)<|a+(B+C))) (S:=R)
  rw[I,l13,O,Z]at s
  refine⟨?_,?_,?_⟩
  · rw[e,s,u7q,<-y4t oo oo h,l14]
  · refine v3i ?_ ?_
    · rw[e];simp only[l13,I,O,Z];omega
    · rw[e]
      have:=x1v (l:=D++(z6h (seg l a<|a+B)++(z6h (seg l (a+B)<|a+(B+C))++R))) U
      rw[I,O]at this
      rw[l14 (z6h<|seg l a<|a+B),this];exact z9c _
  · refine v3i ?_ ?_
    · rw[e];simp only[l13,I,O,Z];omega
    · rw[e]
      have:=x1v (l:=(D++z6h (seg l a<|a+B))++(z6h (seg l (a+B)<|a+(B+C))++R)) U
      rw[l13,I,O,Z,l14,show a+B+C=a+(B+C) by omega]at this
      rw[l14 (z6h<|seg l a<|a+B),this];exact z9c _
theorem j5c:∀l:Bed,(∀s∈l,s.length<=4)->l.flatten.length<=4*l.length
 | [],_=>by simp
 | s::l,h=>by
  have I:=h s (l35 ..)
  have O:=j5c l λt D=>h t<|l36 _ D
  rw[List.flatten_cons,l13,l34];omega
theorem x1x {B:Bd}(h:BdOk B):B.flat.length<=320:=by
 have I:=j5c B.f λs D=>h.ss s<|l23.2<|.inl D;have O:=j5c B.b λs D=>h.ss s<|l23.2<|.inr D;have Z:=h.lf;have h4:=h.lb;unfold Bd.flat;rw[l13];omega
end Go.G08
namespace Go.Lw
open Go.RowKit
section
variable {P:Program} {n:Nat} {L:List (Nat×Value)} {ds:List Nat} {w w':World} {Q:Exit->Act->World->Prop} {ops:Array Oper} {rest:List Oper} {d:Nat} {ty T:TypeId} {pos:String} {after:Array Edge} {v:Value} {x:Operand}
theorem j1h {t t':TypeId}{k k':IntKind}{i:Int}{m:Nat}{z:Int}{y:Operand}(O:ev L x=some (.int k i))(Z:ev L y=some (.int k' (m:Int)))(I:m<=k.bits)(hz:i / ((2 ^ m:Nat):Int)=z)(hn:lbt d n)(q:WL P ops Q rest n ds w ((d,.int k z)::L)):WL P ops Q (⟨some d,.binOp .shr t x y t',ty,pos,after,none⟩::rest) n ds w L:=
 λa h=>z2c h U hn (by
  have e:i.fdiv (2 ^ m)=z:=by
   rw[Int.fdiv_eq_ediv_of_nonneg _ (by exact_mod_cast l16 (2 ^ m)),<-hz]
   congr 1
  have D:¬((m:Nat):Int)<0:=by omega
  simp[execOp,h.eval O,h.eval Z,eqGuard_shr,binOp_shr,Op.shift,Nat.min_eq_left I,e,D]) q
end
end Go.Lw
namespace Go.Proofs.YtkafbfjmcigaiaaGreatDoor
open Go.Lw Go.G21 Go.G08 _root_.Go.Proofs.Tryz
theorem u0o (g c base:Nat)(I b k:Nat)(A B K:Int)(l:List Hd)(w0:World)(hA:A=(I:Int))(hB:B=(b:Int))(hK:K=(k:Int))(ho:Lw.Own z4s 143 base w0 (.slice (saa g) l.length c) l)(hl:l.length<=1000000)(a3:I+k<=b/\b+k<=l.length):Rets prog 228 #[.slice (saa g) l.length c,.int .i64 A,.int .i64 B,.int .i64 K,.func (.func 127) #[] #[]] w0 λr w'=>r=.tuple #[]/\Lw.Own z4s 143 base w' (.slice (saa g) l.length c) (swL l I b k)/\Fr [g] w0 w':=by
 subst hA hB hK;refine wf func228 U<|sr<|asg U<|nn<|bl ?_;refine lpK (ι:=Nat) (ll4 0 1 2 3) (λi=>[(10,.int .i64 (i:Int))]) (λi w'=>Fr [g] w0 w'/\i<=k/\Lw.Own z4s 143 base w' (.slice (saa g) l.length c) (swL l I b i)) (λi=>k-i) 0 U ⟨l12 _ _,⟨l16 _,(by rw[sw_0];exact ho)⟩⟩ ?_;rintro i w1 ⟨q1,⟨hi,ho⟩⟩;refine kpC (ll5 0 1 2 3 10) U ?_;have a4:=z7o l I b i;refine sq<|sr<|mv U<|mv U<|lt' U<|nn<|cd U (λc0=>?_)<|λc0=>?_;refine sk<|tn<|sq<|bl ?_;intro a h;refine rgh (some 23) (Fr [g]) ?_;intro w2 q2 hC;have ho:=ho.ext q2;have a0:=ho;refine z0e 0 h U λa h=>z0e 1 h U λa h=>z0e 2 h U λa h=>z6t 3 h U t12 U λa h=>z0e 4 h U λa h=>z0e 5 h U λa h=>z0e 6 h U λa h=>z6t 7 h U t12 U λa h=>z0e 8 h U λa h=>z0e 9 h U λa h=>z0e 10 h U λa h=>?_;refine z6t 11 h U t12 U λa h=>z1d (p:=(b+i)) (hd0) 12 h U ho.sl U z4e U λa1 O a h=>z0e 14 h U λa h=>z0e 15 h U λa h=>z0e 16 h U λa h=>z6t 17 h U t12 U λa h=>z1d (p:=(I+i)) (hd0) 18 h U ho.sl U z4e U λa2 Z a h=>z1v 13 19 kr U ?_ ?_;refine z1o h U (O _ ho.sl) z6e U λa h=>?_;refine z0b ?_;refine z0d 19 U ?_;refine z1o h U (Z _ ho.sl) z6e U λa h=>?_;refine z0b ?_;refine z1l 20 kr hC (p:=(I+i)) h wn U z4e oo oo oo U U λa h=>z0d 21 U ?_;refine z0z (i:=(I+i)) (((swL l I b i).getD (b+i) hd0)) h U ho (by rw[z7o];omega) U z9e λw3 D q3 _hz a h=>?_;have hC:=hC.sp q3;have ho:=D;clear D;refine z0b ?_;refine z1l 22 kr hC (p:=(b+i)) h wn U z4e oo oo oo U U λa h=>z0d 23 U ?_;refine z0z (i:=(b+i)) (((swL l I b i).getD (I+i) hd0)) h U ho (by rw[l19,z7o];omega) U z9e λw4 D q4 _hz a h=>?_;have ho:=D;clear D;refine z1m ?_;refine z0q ?_;clear hC a0;refine xB (ll5 0 1 2 3 10) h U<|bn'<|tn<|rg<|mv U<|ad6 U<|asg U<|nl ?_;exact lpE (i+1) U ⟨((l12 [g] _).z4 q1 q2 q3 q4),⟨oo,(by rw[u1y oo oo]at ho;exact ho)⟩⟩ oo;refine z1o h U (Z _ ho.sl) z6e U λa h=>?_;refine z0b ?_;refine z0d 13 U ?_;refine z1o h U (O _ ho.sl) z6e U λa h=>?_;refine z0b ?_;refine z1l 20 kr hC (p:=(I+i)) h wn U z4e oo oo oo U U λa h=>z0d 21 U ?_;refine z0z (i:=(I+i)) (((swL l I b i).getD (b+i) hd0)) h U ho (by rw[z7o];omega) U z9e λw5 D q5 _hz a h=>?_;have hC:=hC.sp q5;have ho:=D;clear D;refine z0b ?_;refine z1l 22 kr hC (p:=(b+i)) h wn U z4e oo oo oo U U λa h=>z0d 23 U ?_;refine z0z (i:=(b+i)) (((swL l I b i).getD (I+i) hd0)) h U ho (by rw[l19,z7o];omega) U z9e λw6 D q6 _hz a h=>?_;have ho:=D;clear D;refine z1m ?_;refine z0q ?_;clear hC a0;refine xB (ll5 0 1 2 3 10) h U<|bn'<|tn<|rg<|mv U<|ad6 U<|asg U<|nl ?_;exact lpE (i+1) U ⟨((l12 [g] _).z4 q1 q2 q5 q6),⟨oo,(by rw[u1y oo oo]at ho;exact ho)⟩⟩ oo;obtain rfl:i=k:=by omega
 exact ex<|te<|te<|xh<|r0n U  ⟨_,rfl,rfl,ho,((l12 [g] _).z1 q1)⟩
theorem k6u (g c base:Nat)(O m b:Nat)(A M B:Int)(l:List Hd)(w0:World)(hA:A=(O:Int))(hM:M=(m:Int))(hB:B=(b:Int))(ho:Lw.Own z4s 143 base w0 (.slice (saa g) l.length c) l)(hl:l.length<=1000000)(a0:O<m/\m<b/\b<=l.length):Rets prog 216 #[.slice (saa g) l.length c,.int .i64 A,.int .i64 M,.int .i64 B,.func (.func 127) #[] #[]] w0 λr w'=>r=.tuple #[]/\Lw.Own z4s 143 base w' (.slice (saa g) l.length c) (z6p l O m b)/\Fr [g] w0 w':=by
 subst hA hM hB;refine wf func216 U<|sr<|mv U<|mv U<|z2i U (wi6 oo)<|asg U<|nn<|sr<|mv U<|mv U<|z2i U (wi6 oo)<|asg U<|nn<|sq<|bl ?_;refine lpK (ι:=Nat×Nat) (ll3 0 2 4) (λp=>[(10,.int .i64 (p.1:Int)),(11,.int .i64 (p.2:Int))]) (λp w'=>Fr [g] w0 w'/\(1<=p.1/\1<=p.2/\p.1<=m/\m+p.2<=l.length)/\∃cur:List Hd,cur.length=l.length/\z6p cur (m-p.1) m (m+p.2)=z6p l O m b/\Lw.Own z4s 143 base w' (.slice (saa g) l.length c) cur) (λp=>p.1+p.2) (m-O,b-m) (.c5 U U U t17 t17) ⟨l12 _ _,⟨⟨sm,sm,sm,sm⟩,l,rfl,by simp only;rw[show m-(m-O)=O by omega,show m+(b-m)=b by omega],ho⟩⟩ ?_;rintro⟨i,j⟩ w1 ⟨q1,⟨Z,cur,D,I,ho⟩⟩;simp only at Z I;refine kpC [(0,_),(2,_),(4,_),(10,.int .i64 (i:Int)),(11,.int .i64 (j:Int))] U<|sq<|sr<|mv U<|mv U<|ne' U<|nn<|cd U (λc0=>?_)<|λc0=>?_;refine sk<|tn<|bl<|sr<|mv U<|mv U<|gt' U<|nn<|cd U (λc1=>?_)<|λc1=>?_;refine sr<|mv U<|mv U<|mv U<|z2i U (wi6 oo)<|mv U<|mv U<|mv U ?_;refine cl (z0a U<|z0a U<|z0a U<|z0a U<|z0a U z0f) cO (by have x:=u0o g c base (m-i) m j (↑m - ↑i) ↑m ↑j cur _ oo U U (by rw[D];exact ho) oo oo;rw[D]at x;exact x) ?_;rintro _ w2 ⟨rfl,ho,q2⟩;refine kpL (ll5 0 2 4 10 11) U<|nn<|rg<|mv U<|mv U<|z2i U (wi6 oo)<|asg U<|nl<|bn' ?_;exact lpE ((i-j,j)) (.c5 U U U t17 t17) ⟨((l12 [g] _).z2 q1 q2),⟨⟨sm,sm,sm,sm⟩,_,by rw[z7o];exact D,by simp only;rw[<-I];exact k6c oo oo oo,ho⟩⟩ sm;refine sr<|mv U<|mv U<|mv U<|z2i U (wi6 oo)<|mv U<|mv U<|ad6 U<|mv U<|z2i U (wi6 oo)<|mv U<|mv U ?_;refine cl (z0a U<|z0a U<|z0a U<|z0a U<|z0a U z0f) cO (by have x:=u0o g c base (m-i) (m+j-i) i (↑m - ↑i) (↑m + ↑j - ↑i) ↑i cur _ oo oo U (by rw[D];exact ho) oo oo;rw[D]at x;exact x) ?_;rintro _ w3 ⟨rfl,ho,q3⟩;refine kpL (ll5 0 2 4 10 11) U<|nn<|rg<|mv U<|mv U<|z2i U (wi6 oo)<|asg U<|nl<|bn' ?_;exact lpE ((i,j-i)) (.c5 U U U t17 t17) ⟨((l12 [g] _).z2 q1 q3),⟨⟨sm,sm,sm,sm⟩,_,by rw[z7o];exact D,by simp only;rw[<-I];exact k5l oo oo oo,ho⟩⟩ sm;obtain rfl:i=j:=by omega
 refine ex<|te<|te<|xh<|tn<|rg<|mv U<|mv U<|mv U<|z2i U (wi6 oo)<|mv U<|mv U<|mv U<|cl (z0a U<|z0a U<|z0a U<|z0a U<|z0a U z0f) cO (by have x:=u0o g c base (m-i) m i (↑m - ↑i) ↑m ↑i cur _ oo U U (by rw[D];exact ho) oo oo;rw[D]at x;exact x) ?_;rintro _ w4 ⟨rfl,ho,q4⟩;exact kpL [] .nil<|nl<|r0n U  ⟨_,rfl,rfl,by rw[<-I,<-k5s oo];exact ho,((l12 [g] _).z2 q1 q4)⟩
theorem j2k (g c base:Nat)(n:Nat):∀(Z m b:Nat) (A M B:Int) (l:List Hd) (w0:World),b-Z<=n->A=(Z:Int)->M=(m:Int)->B=(b:Int)->Lw.Own z4s 143 base w0 (.slice (saa g) l.length c) l->l.length<=1000000->Z<m->m<b->b<=l.length->y0x l Z m->y0x l m b->Rets prog 202 #[.slice (saa g) l.length c,.int .i64 A,.int .i64 M,.int .i64 B,.func (.func 127) #[] #[]] w0 λr w'=>r=.tuple #[]/\Lw.Own z4s 143 base w' (.slice (saa g) l.length c) (z8y l Z b b)/\Fr [g] w0 w':=by
 induction n;intros;omega;rename_i n ih;intro Z m b A M B l w0 hn hA hM hB D hl h1 h2 h3 a0 a1;subst hA hM hB;obtain⟨mid,i1⟩:∃mid,mid=(Z+b) / 2:=⟨_,rfl⟩;refine wf func202 U<|sq<|sr<|mv U<|mv U<|z2i U (wi6 oo)<|eq' U<|nn<|cd U (λc0=>?_)<|λc0=>?_;obtain rfl:m=Z+1:=by omega
 refine sr<|mv U<|asg U<|nn<|sr<|mv U<|asg U<|nn<|sq<|bl ?_;refine lpK (ι:=Nat×Nat) (ll3 0 1 4) (λp=>[(10,.int .i64 (p.1:Int)),(11,.int .i64 (p.2:Int))]) (λp w'=>Fr [] w0 w'/\(Z+1<=p.1/\p.1<=p.2/\p.2<=b)/\(∀x,Z+1<=x->x<p.1->(l.getD x hd0).s<(l.getD Z hd0).s)/\(∀x,p.2<=x->x<b->(l.getD Z hd0).s<=(l.getD x hd0).s)) (λp=>p.2-p.1) (Z+1,b) (.c5 U U U t17 U) ⟨l12 _ _,⟨⟨sm,sm,sm⟩,λx h h'=>by simp only at h';omega,λx h h'=>by simp only at h;omega⟩⟩ ?_;rintro⟨i,j⟩ w1 ⟨q1,hI⟩;simp only at hI;refine kpC [(0,_),(1,_),(4,_),(10,.int .i64 (i:Int)),(11,.int .i64 (j:Int))] U<|sq<|sr<|mv U<|mv U<|lt' U<|nn<|cd U (λc1=>?_)<|λc1=>?_;refine sk<|tn<|bl<|sr<|mv U<|mv U<|ad6 U<|z4c U (us underlying3) underlying193 (IntWalk.u64_in _ oo)<|j1h (m:=1) (z:=(((i+j) / 2:Nat):Int)) U U dd (show _ / (2:Int)=_ by omega) U<|z4c U (us underlying193) underlying3 (wi6 oo)<|asg U<|kpL (ll6 0 1 4 10 11 12) U<|nn<|sq ?_;intro a h;refine rgh none (Fr []) ?_;intro w2 q2 hC;have D:=D.ext<|q1.n1 q2;have O:=D;refine z0e 0 h U λa h=>z0e 1 h U λa h=>z0e 2 h U λa h=>z1d (p:=((i+j) / 2)) (hd0) 3 h U D.sl U z4e U λh5 d5 a h=>z1z 4 h wn U (λ_ hw=>d5 _<|O.sl.ext hw) z6e U λa h=>z0e 5 h U λa h=>z0e 6 h U λa h=>z1d (p:=Z) (hd0) 7 h U D.sl U z4e U λh6 d6 a h=>z1z 8 h wn U (λ_ hw=>d6 _<|O.sl.ext hw) z6e U λa h=>z0d 9 U<|y1f (us:=[]) (ws:=[]) h U (z0a U<|z0a U z0f) cO (x3x ((l).getD (((i+j) / 2)) hd0) ((l).getD (Z) hd0) _) U t14 ?_;rintro _ w3 ⟨rfl,q3⟩ a h;have D:=D.ext q3;have hC:=hC.next q3;refine z0b<|v5o 10 hC h wn U U λa h=>z0q ?_;clear hC O;refine xB (ll7 0 1 4 10 11 12 50) h U<|tn<|cd U (λc2=>?_)<|λc2=>?_;have hx:=y0u.1 c2;refine rg<|mv U<|ad6 U<|asg U<|nl<|bn' ?_;exact lpE (((i+j) / 2+1,j)) (.c5 U U U t17 t17) ⟨(q1.n2 q2 q3),⟨⟨sm,sm,sm⟩,λx h h'=>by
  have:=z6z a1 (show Z+1<=x by omega) (show x<=(i+j) / 2 by simp only at h';omega) oo;omega,hI.2.2⟩⟩ sm
 have hx:¬((l).getD (((i+j) / 2)) hd0).s<((l).getD (Z) hd0).s:=λe=>c2<|y0u.2 e;refine rg<|mv U<|asg U<|nl<|bn' ?_;exact lpE ((i,(i+j) / 2)) (.c5 U U U t17 t17) ⟨(q1.n2 q2 q3),⟨⟨sm,sm,sm⟩,hI.2.1,λx h h'=>by
  have:=z6z a1 (show Z+1<=(i+j) / 2 by omega) (show (i+j) / 2<=x by simp only at h;omega) h';omega⟩⟩ sm
 obtain rfl:i=j:=by omega
 refine ex<|te<|te<|xh<|tn<|sq<|sr<|mv U<|asg U<|nn<|bl ?_;have D:=D.ext q1;refine lpK (ι:=Nat) (ll2 0 10) (λk=>[(13,.int .i64 (k:Int))]) (λk w'=>Fr [g] w1 w'/\(Z<=k/\k+1<=i)/\Lw.Own z4s 143 base w' (.slice (saa g) l.length c) (z6p l Z (Z+1)<|k+1)) (λk=>i-k) Z U ⟨l12 _ _,⟨⟨l20 _,oo⟩,by rw[j3c oo];exact D⟩⟩ ?_;rintro k w4 ⟨q4,⟨hk,D⟩⟩;refine kpC (ll3 0 10 13) U ?_;have f8:=z1p l Z (Z+1)<|k+1;refine sq<|sr<|mv U<|mv U<|z2i U (wi6 oo)<|lt' U<|nn<|cd U (λc3=>?_)<|λc3=>?_;refine sk<|tn<|sq<|bl ?_;intro a h;refine rgh (some 17) (Fr [g]) ?_;intro w5 q5 hC;have D:=D.ext q5;have O:=D;refine z0e 0 h U λa h=>z0e 1 h U λa h=>z0e 2 h U λa h=>z0e 3 h U λa h=>z6t 4 h U t12 U λa h=>z0e 5 h U λa h=>z0e 6 h U λa h=>z6t 7 h U t12 U λa h=>z1d (p:=(k+1)) (hd0) 8 h U D.sl U z4e U λh7 b2 a h=>z0e 10 h U λa h=>z0e 11 h U λa h=>z1d (p:=k) (hd0) 12 h U D.sl U z4e U λh8 b3 a h=>z1v 9 13 kr U ?_ ?_;refine z1o h U (b2 _ D.sl) z6e U λa h=>z0b<|z0d 13 U<|z1o h U (b3 _ D.sl) z6e U λa h=>?_;refine z0b<|z1l 14 kr hC (p:=k) h wn U z4e oo oo oo U U λa h=>z0d 15 U<|z0z (i:=k) (((z6p l Z (Z+1)<|k+1).getD (k+1) hd0)) h U D t33 U z9e λw6 I q6 _hz a h=>?_;have hC:=hC.sp q6;have D:=I;clear I;refine z0b<|z1l 16 kr hC (p:=(k+1)) h wn U z4e oo oo oo U U λa h=>z0d 17 U<|z0z (i:=(k+1)) (((z6p l Z (Z+1)<|k+1).getD (k) hd0)) h U D t57 U z9e λw7 I q7 _hz a h=>?_;have D:=I;clear I;refine z1m<|z0q ?_;clear hC O;refine xB (ll3 0 10 13) h U<|bn'<|tn<|rg<|mv U<|ad6 U<|asg U<|nl ?_;exact lpE (k+1) (.c3 U U<|congrArg (λz=>some<|Value.int .i64 z) oo) ⟨((l12 [g] _).z4 q4 q5 q6 q7),⟨oo,by rw[j2c oo oo]at D;exact D⟩⟩ oo;refine z1o h U (b3 _ D.sl) z6e U λa h=>z0b<|z0d 9 U<|z1o h U (b2 _ D.sl) z6e U λa h=>?_;refine z0b<|z1l 14 kr hC (p:=k) h wn U z4e oo oo oo U U λa h=>z0d 15 U<|z0z (i:=k) (((z6p l Z (Z+1)<|k+1).getD (k+1) hd0)) h U D t33 U z9e λw8 I q8 _hz a h=>?_;have hC:=hC.sp q8;have D:=I;clear I;refine z0b<|z1l 16 kr hC (p:=(k+1)) h wn U z4e oo oo oo U U λa h=>z0d 17 U<|z0z (i:=(k+1)) (((z6p l Z (Z+1)<|k+1).getD (k) hd0)) h U D t57 U z9e λw9 I q9 _hz a h=>?_;have D:=I;clear I;refine z1m<|z0q ?_;clear hC O;refine xB (ll3 0 10 13) h U<|bn'<|tn<|rg<|mv U<|ad6 U<|asg U<|nl ?_;exact lpE (k+1) (.c3 U U<|congrArg (λz=>some<|Value.int .i64 z) oo) ⟨((l12 [g] _).z4 q4 q5 q8 q9),⟨oo,by rw[j2c oo oo]at D;exact D⟩⟩ oo;obtain rfl:k+1=i:=by omega
 exact ex<|te<|te<|xh<|tn<|rt<|tr<|r0 U  ⟨_,rfl,rfl,by rw[<-k0g oo oo h3 a1 hI.2.1 hI.2.2];exact D,((l12 [g] _).z2 q1 q4)⟩;refine sk<|tn<|sq<|sr<|mv U<|mv U<|z2i U (wi6 oo)<|eq' U<|nn<|cd U (λc4=>?_)<|λc4=>?_;obtain rfl:b=m+1:=by omega
 refine sr<|mv U<|asg U<|nn<|sr<|mv U<|asg U<|nn<|sq<|bl<|lpK (ι:=Nat×Nat) (ll3 0 2 4) (λp=>[(14,.int .i64 (p.1:Int)),(15,.int .i64 (p.2:Int))]) (λp w'=>Fr [] w0 w'/\(Z<=p.1/\p.1<=p.2/\p.2<=m)/\(∀x,Z<=x->x<p.1->(l.getD x hd0).s<=(l.getD m hd0).s)/\(∀x,p.2<=x->x<m->(l.getD m hd0).s<(l.getD x hd0).s)) (λp=>p.2-p.1) (Z,m) U ⟨l12 _ _,⟨⟨sm,sm,sm⟩,λx h h'=>by simp only at h';omega,λx h h'=>by simp only at h;omega⟩⟩ ?_;rintro⟨i,j⟩ g8 ⟨a7,hI⟩;simp only at hI;refine kpC [(0,_),(2,_),(4,_),(14,.int .i64 (i:Int)),(15,.int .i64 (j:Int))] U<|sq<|sr<|mv U<|mv U<|lt' U<|nn<|cd U (λc5=>?_)<|λc5=>?_;refine sk<|tn<|bl<|sr<|mv U<|mv U<|ad6 U<|z4c U (us underlying3) underlying193 (IntWalk.u64_in _ oo)<|j1h (m:=1) (z:=(((i+j) / 2:Nat):Int)) U U dd (show _ / (2:Int)=_ by omega) U<|z4c U (us underlying193) underlying3 (wi6 oo)<|asg U<|kpL (ll6 0 2 4 14 15 16) U<|nn<|sq ?_;intro a h;refine rgh none (Fr []) ?_;intro e7 b7 hC;have D:=D.ext<|a7.n1 b7;have O:=D;refine z0e 0 h U λa h=>z0e 1 h U λa h=>z0e 2 h U λa h=>z1d (p:=m) (hd0) 3 h U D.sl U z4e U λh9 d7 a h=>z1z 4 h wn U (λ_ hw=>d7 _<|O.sl.ext hw) z6e U λa h=>z0e 5 h U λa h=>z0e 6 h U λa h=>z1d (p:=((i+j) / 2)) (hd0) 7 h U D.sl U z4e U λi0 d9 a h=>z1z 8 h wn U (λ_ hw=>d9 _<|O.sl.ext hw) z6e U λa h=>z0d 9 U<|y1f (us:=[]) (ws:=[]) h U (z0a U<|z0a U z0f) cO (x3x ((l).getD (m) hd0) ((l).getD (((i+j) / 2)) hd0) _) U t14 ?_;rintro _ i8 ⟨rfl,b0⟩ a h;have D:=D.ext b0;have hC:=hC.next b0;refine z0b<|v5o 10 hC h wn U U λa h=>y1l 11 hC h wn U U λa h=>z0q ?_;clear hC O;refine xB (ll7 0 2 4 14 15 16 103) h U<|tn<|cd U (λc6=>?_)<|λc6=>?_;have hx:¬((l).getD (m) hd0).s<((l).getD (((i+j) / 2)) hd0).s:=λe=>c6<|y0u.2 e;refine rg<|mv U<|ad6 U<|asg U<|nl<|bn' ?_;exact lpE (((i+j) / 2+1,j)) (.c5 U U U t17 t17) ⟨(a7.n2 b7 b0),⟨⟨sm,sm,sm⟩,λx h h'=>by
  have:=z6z a0 (show Z<=x by omega) (show x<=(i+j) / 2 by simp only at h';omega) oo;omega,hI.2.2⟩⟩ sm
 have hx:=y0u.1<|l15.1 c6;refine rg<|mv U<|asg U<|nl<|bn' ?_;exact lpE ((i,(i+j) / 2)) (.c5 U U U t17 t17) ⟨(a7.n2 b7 b0),⟨⟨sm,sm,sm⟩,hI.2.1,λx h h'=>by
  have:=z6z a0 (show Z<=(i+j) / 2 by omega) (show (i+j) / 2<=x by simp only at h;omega) h';omega⟩⟩ sm
 obtain rfl:i=j:=by omega
 refine ex<|te<|te<|xh<|tn<|sq<|sr<|mv U<|asg U<|nn<|bl ?_;have D:=D.ext a7;refine lpK (ι:=Nat) (ll2 0 14) (λk=>[(17,.int .i64 (k:Int))]) (λk w'=>Fr [g] g8 w'/\(i<=k/\k<=m)/\Lw.Own z4s 143 base w' (.slice (saa g) l.length c) (z6p l k m<|m+1)) (λk=>k) m U ⟨l12 _ _,⟨oo,by rw[j3z oo];exact D⟩⟩ ?_;rintro k i9 ⟨b8,⟨hk,D⟩⟩;refine kpC (ll3 0 14 17) U ?_;have f8:=z1p l k m<|m+1;refine sq<|sr<|mv U<|mv U<|gt' U<|nn<|cd U (λc7=>?_)<|λc7=>?_;refine sk<|tn<|sq<|bl ?_;intro a h;refine rgh (some 17) (Fr [g]) ?_;intro e8 b9 hC;have D:=D.ext b9;have O:=D;refine z0e 0 h U λa h=>z0e 1 h U λa h=>z0e 2 h U λa h=>z0e 3 h U λa h=>z3a 4 h U t12 U λa h=>z0e 5 h U λa h=>z0e 6 h U λa h=>z3a 7 h U t12 U λa h=>z1d (p:=(k-1)) (hd0) 8 h U D.sl U z4e U λf0 a5 a h=>z0e 10 h U λa h=>z0e 11 h U λa h=>z1d (p:=k) (hd0) 12 h U D.sl U z4e U λf1 a6 a h=>z1v 9 13 kr U ?_ ?_;refine z1o h U (a5 _ D.sl) z6e U λa h=>z0b<|z0d 13 U<|z1o h U (a6 _ D.sl) z6e U λa h=>?_;refine z0b<|z1l 14 kr hC (p:=k) h wn U z4e oo oo oo U U λa h=>z0d 15 U<|z0z (i:=k) (((z6p l k m<|m+1).getD (k-1) hd0)) h U D t33 U z9e λj0 I e3 _hz a h=>?_;have hC:=hC.sp e3;have D:=I;clear I;refine z0b<|z1l 16 kr hC (p:=(k-1)) h wn U z4e oo oo oo U U λa h=>z0d 17 U<|z0z (i:=(k-1)) (((z6p l k m<|m+1).getD (k) hd0)) h U D t57 U z9e λj1 I g3 _hz a h=>?_;have D:=I;clear I;refine z1m<|z0q ?_;clear hC O;refine xB (ll3 0 14 17) h U<|bn'<|tn<|rg<|mv U<|z2i U (wi6 oo)<|asg U<|nl ?_;exact lpE ((k-1)) (.c3 U U<|congrArg (λz=>some<|Value.int .i64 z) oo) ⟨((l12 [g] _).z4 b8 b9 e3 g3),⟨oo,by have e:=v1s (l:=l) (m:=m) (k:=k-1) oo oo;rw[show k-1+1=k by omega]at e;rw[e]at D;exact D⟩⟩ oo;refine z1o h U (a6 _ D.sl) z6e U λa h=>z0b<|z0d 9 U<|z1o h U (a5 _ D.sl) z6e U λa h=>?_;refine z0b<|z1l 14 kr hC (p:=k) h wn U z4e oo oo oo U U λa h=>z0d 15 U<|z0z (i:=k) (((z6p l k m<|m+1).getD (k-1) hd0)) h U D t33 U z9e λj2 I e4 _hz a h=>?_;have hC:=hC.sp e4;have D:=I;clear I;refine z0b<|z1l 16 kr hC (p:=(k-1)) h wn U z4e oo oo oo U U λa h=>z0d 17 U<|z0z (i:=(k-1)) (((z6p l k m<|m+1).getD (k) hd0)) h U D t57 U z9e λj3 I g4 _hz a h=>?_;have D:=I;clear I;refine z1m<|z0q ?_;clear hC O;refine xB (ll3 0 14 17) h U<|bn'<|tn<|rg<|mv U<|z2i U (wi6 oo)<|asg U<|nl ?_;exact lpE ((k-1)) (.c3 U U<|congrArg (λz=>some<|Value.int .i64 z) oo) ⟨((l12 [g] _).z4 b8 b9 e4 g4),⟨oo,by have e:=v1s (l:=l) (m:=m) (k:=k-1) oo oo;rw[show k-1+1=k by omega]at e;rw[e]at D;exact D⟩⟩ oo;obtain rfl:k=i:=by omega
 exact ex<|te<|te<|xh<|tn<|rt<|tr<|r0 U  ⟨_,rfl,rfl,by rw[<-j7v oo oo h3 a0 (λx h h'=>hI.2.2 x h h') (λx h h'=>hI.2.1 x h h')];exact D,((l12 [g] _).z2 a7 b8)⟩;refine sk<|tn<|sr<|mv U<|mv U<|ad6 U<|z4c U (us underlying3) underlying193 (IntWalk.u64_in _ oo)<|j1h (m:=1) (z:=(mid:Int)) U U dd (show _ / (2:Int)=_ by omega) U<|z4c U (us underlying193) underlying3 (wi6 oo)<|asg U<|kpL (ll6 0 1 2 3 4 18) U<|nn<|sr<|mv U<|mv U<|ad6 U<|asg U<|nn<|sr<|asg U<|asg U<|nn<|jn (ι:=Unit) (ll7 0 1 2 3 4 18 19) (λ_j=>[(20,.int .i64 ((((if mid<m then mid+m-b else Z):Nat)):Int)),(21,.int .i64 ((((if mid<m then mid else m):Nat)):Int))]) (λ_j w'=>Fr [] w0 w') U ?_ ?_;refine sr<|mv U<|mv U<|gt' U<|nn<|cd U (λc8=>?_)<|λc8=>?_;refine sr<|mv U<|mv U<|z2i U (wi6 oo)<|asg U<|nn<|rg<|mv U<|asg U<|nl ?_;exact jE (()) (.d8 U U U U U U U (congrArg (λz=>some<|Value.int .i64 z) t27)<|.cons (congrArg (λz=>some<|Value.int .i64 z) t27) .nil)<|l12 _ _;refine sr<|mv U<|asg U<|nn<|rg<|mv U<|asg U<|nl ?_;exact jE (()) (.d8 U U U U U U U (congrArg (λz=>some<|Value.int .i64 z) t27)<|.cons (congrArg (λz=>some<|Value.int .i64 z) t27) .nil)<|l12 _ _;rintro _j g9 a8;refine kpC (ll9 0 1 2 3 4 18 19 20 21) U<|sr<|mv U<|z2i U (wi6 oo)<|asg U<|nn<|sq<|bl ?_;refine lpK (ι:=Nat×Nat) (ll8 0 1 2 3 4 18 19 22) (λp=>[(20,.int .i64 (p.1:Int)),(21,.int .i64 (p.2:Int))]) (λp w'=>Fr [] g9 w'/\Sch l (mid+m-1) (if mid<m then mid+m-b else Z) (if mid<m then mid else m) p.1 p.2) (λp=>p.2-p.1) ((if mid<m then mid+m-b else Z),(if mid<m then mid else m)) U ⟨l12 _ _,k9x t27⟩ ?_;rintro⟨s,r⟩ h0 ⟨a3,hI⟩;simp only at hI;refine kpC [(0,_),(1,_),(2,_),(3,_),(4,_),(18,_),(19,_),(22,_),(20,.int .i64 (s:Int)),(21,.int .i64 (r:Int))] U ?_;have d1:=hI.lo;have i4:=hI.le;have f7:=hI.hi;have i2:Z<=s:=by split at d1<;>omega
 have i5:r<=m/\r<=mid:=by split at f7<;>omega
 have i3:mid+m<=b+s:=by split at d1<;>omega
 refine sq<|sr<|mv U<|mv U<|lt' U<|nn<|cd U (λc9=>?_)<|λc9=>?_;refine sk<|tn<|bl<|sr<|mv U<|mv U<|ad6 U<|z4c U (us underlying3) underlying193 (IntWalk.u64_in _ oo)<|j1h (m:=1) (z:=(((s+r) / 2:Nat):Int)) U U dd (show _ / (2:Int)=_ by omega) U<|z4c U (us underlying193) underlying3 (wi6 oo)<|asg U<|kpL (ll11 0 1 2 3 4 18 19 20 21 22 23) U<|nn<|sq ?_;intro a h;refine rgh none (Fr []) ?_;intro e9 d0 hC;have D:=D.ext<|a8.n2 a3 d0;have O:=D;refine z0e 0 h U λa h=>z0e 1 h U λa h=>z0e 2 h U λa h=>z0e 3 h U λa h=>z3a 4 h U t12 U λa h=>z1d (p:=((mid+m-1)-((s+r) / 2))) (hd0) 5 h U D.sl U z4e U λf2 b5 a h=>z1z 6 h wn U (λ_ hw=>b5 _<|O.sl.ext hw) z6e U λa h=>z0e 7 h U λa h=>z0e 8 h U λa h=>z1d (p:=((s+r) / 2)) (hd0) 9 h U D.sl U z4e U λf3 b6 a h=>z1z 10 h wn U (λ_ hw=>b6 _<|O.sl.ext hw) z6e U λa h=>z0d 11 U<|y1f (us:=[]) (ws:=[]) h U (z0a U<|z0a U z0f) cO (x3x ((l).getD ((mid+m-1)-((s+r) / 2)) hd0) ((l).getD (((s+r) / 2)) hd0) _) U t14 ?_;rintro _ j4 ⟨rfl,b1⟩ a h;have D:=D.ext b1;have hC:=hC.next b1;refine z0b<|v5o 12 hC h wn U U λa h=>y1l 13 hC h wn U U λa h=>z0q ?_;clear hC O;refine xB (ll12 0 1 2 3 4 18 19 20 21 22 23 171) h U<|tn<|cd U (λb4=>?_)<|λb4=>?_;have hx:¬((l).getD ((mid+m-1)-((s+r) / 2)) hd0).s<((l).getD (((s+r) / 2)) hd0).s:=λe=>b4<|y0u.2 e;refine rg<|mv U<|ad6 U<|asg U<|nl<|bn' ?_;exact lpE (((s+r) / 2+1,r)) (.d8 U U U U U U U U<|.c2 t17 t17) ⟨(a3.n2 d0 b1),k4e hI oo a0 a1 t27 t27 t27 U t27 hx⟩ sm;have hx:=y0u.1<|l15.1 b4;refine rg<|mv U<|asg U<|nl<|bn' ?_;exact lpE ((s,(s+r) / 2)) (.d8 U U U U U U U U<|.c2 t17 t17) ⟨(a3.n2 d0 b1),u9w hI oo a0 a1 t27 t27 t27 U t27 hx⟩ sm;obtain rfl:s=r:=by have:=hI.le;omega
 obtain⟨hX,hY⟩:=u5m hI a0 a1 t27 t27 U t27 t27 t27;have e0:=hI.lo;have f9:=hI.hi;have a4:Z<=s:=by split at e0<;>omega
 have a2:s<=m/\s<=mid:=by split at f9<;>omega
 have i7:mid+m<=b+s:=by split at e0<;>omega
 have d3:=x1b a4 a2.1 (show m<=mid+m-s by omega) (show mid+m-s<=l.length by omega) (show mid=s+(mid+m-s-m) by omega) a0 b a1 oo;have d4:=v5a a4 a2.1 (show m<=mid+m-s by omega) (show mid+m-s<=b by omega) h3 (show mid=s+(mid+m-s-m) by omega) a0 a1;have a9:(z8y (z6p l s m<|mid+m-s) Z mid mid).length=l.length:=by rw[x4r oo t33,z1p]
 refine ex<|te<|te<|xh<|tn<|sr<|mv U<|mv U<|z2i U (wi6 oo)<|asg U<|kpL (ll8 0 1 2 3 4 18 20 24) U<|nn<|jn (ι:=Unit) (ll7 0 1 3 4 18 20 24) (λ_j=>[]) (λ_j w'=>Fr [g] h0 w'/\Lw.Own z4s 143 base w' (.slice (saa g) l.length c) (z6p l s m<|mid+m-s)) U ?_ ?_;refine sq<|rbo (r:=185) (L':=ll8 0 1 2 3 4 18 20 24) ((((s:Int)<(m:Int))/\((m:Int)<(((mid:Int)+(m:Int))-(s:Int))))) U ?_ ?_;refine mv U<|mv U<|lt' U<|mv U<|gs 181 U (λg0=>?_)<|λg0=>?_;exact gY U<|mv U<|gY U<|mv U<|gY U<|lt' U<|pkt U<|rbe U<|U;exact gN U<|gN U<|gN U<|pkf U<|rbe U<|U;refine tn<|cd U (λf4=>?_)<|λf4=>?_;refine rg<|mv U<|mv U<|mv U<|mv U<|mv U ?_;have D:=D.ext<|a8.n1 a3;refine cl (z0a U<|z0a U<|z0a U<|z0a U<|z0a U z0f) cO (k6u g c base s m (mid+m-s) _ _ _ l _ U U oo D hl oo) ?_;rintro _ j5 ⟨rfl,D,g5⟩;exact kpL (ll7 0 1 3 4 18 20 24) U<|nl<|jE (()) U ⟨((l12 [g] _).z1 g5),D⟩;refine sk ?_;have D:=D.ext<|a8.n1 a3;exact jE (()) U ⟨(l12 _ _),(by rw[k5w oo a2.1 oo];exact D)⟩;rintro _j h4 ⟨e5,D⟩;refine kpC (ll7 0 1 3 4 18 20 24) U<|jn (ι:=Unit) (ll5 0 3 4 18 24) (λ_j=>[]) (λ_j w'=>Fr [g] h4 w'/\Lw.Own z4s 143 base w' (.slice (saa g) l.length c) (z8y (z6p l s m<|mid+m-s) Z mid mid)) U ?_ ?_;refine sq<|rbo (r:=199) (L':=ll7 0 1 3 4 18 20 24) ((((Z:Int)<(s:Int))/\((s:Int)<(mid:Int)))) U ?_ ?_;refine mv U<|mv U<|lt' U<|mv U<|gs 195 U (λg1=>?_)<|λg1=>?_;exact gY U<|mv U<|gY U<|mv U<|gY U<|lt' U<|pkt U<|rbe U<|U;exact gN U<|gN U<|gN U<|pkf U<|rbe U<|U;refine tn<|cd U (λf5=>?_)<|λf5=>?_;refine rg<|mv U<|mv U<|mv U<|mv U<|mv U<|cl (z0a U<|z0a U<|z0a U<|z0a U<|z0a U z0f) cO (by have x:=ih Z s mid ↑Z ↑s ↑mid (z6p l s m<|mid+m-s) _ oo U U U (by rw[z1p];exact D) (by rw[z1p];exact hl) oo oo t33 d3.1 d3.2;rw[z1p]at x;exact x) ?_;rintro _ j6 ⟨rfl,D,g6⟩;exact kpL (ll5 0 3 4 18 24) U<|nl<|jE (()) U ⟨((l12 [g] _).z1 g6),D⟩;exact sk<|jE (()) U ⟨(l12 _ _),(by rw[skip1 oo a4 a2.1 oo oo oo a0 b a1 oo];exact D)⟩;rintro _j j7 ⟨e6,D⟩;refine kpC (ll5 0 3 4 18 24) U<|sq<|rbo (r:=213) (L':=ll5 0 3 4 18 24) ((((mid:Int)<(((mid:Int)+(m:Int))-(s:Int)))/\((((mid:Int)+(m:Int))-(s:Int))<(b:Int)))) U ?_ ?_;refine mv U<|mv U<|lt' U<|mv U<|gs 209 U (λg2=>?_)<|λg2=>?_;exact gY U<|mv U<|gY U<|mv U<|gY U<|lt' U<|pkt U<|rbe U<|U;exact gN U<|gN U<|gN U<|pkf U<|rbe U<|U;refine tn<|cd U (λf6=>?_)<|λf6=>?_;refine rg<|mv U<|mv U<|mv U<|mv U<|mv U<|cl (z0a U<|z0a U<|z0a U<|z0a U<|z0a U z0f) cO (by have x:=ih mid (mid+m-s) b ↑mid (↑mid + ↑m - ↑s) ↑b (z8y (z6p l s m<|mid+m-s) Z mid mid) _ oo U oo U (by rw[a9];exact D) (by rw[a9];exact hl) oo oo (by rw[a9];omega) d4.1 d4.2;rw[a9]at x;exact x) ?_;rintro _ j8 ⟨rfl,D,g7⟩;exact kpL [] .nil<|nl<|r0n U  ⟨_,rfl,rfl,by rw[<-y3g a4 a2.1 (show m<=mid+m-s by omega) (show mid+m-s<=b by omega) h3 (show mid=s+(mid+m-s-m) by omega) a0 a1 hX hY];exact D,((l12 [g] _).z5 a8 a3 e5 e6 g7)⟩;exact sk<|r0n U  ⟨_,rfl,rfl,by rw[<-y3g a4 a2.1 (show m<=mid+m-s by omega) (show mid+m-s<=b by omega) h3 (show mid=s+(mid+m-s-m) by omega) a0 a1 hX hY];rw[q0w oo a4 a2.1 oo oo h3 oo a0 a1];exact D,((l12 [g] _).z4 a8 a3 e5 e6)⟩
theorem j4s (g c base:Nat)(l:List Hd)(w0:World)(ho:Lw.Own z4s 143 base w0 (.slice (saa g) l.length c) l)(hl:l.length<=1000000):Rets prog 172 #[.slice (saa g) l.length c,.int .i64 (l.length:Int),.func (.func 127) #[] #[]] w0 λr w'=>r=.tuple #[]/\Lw.Own z4s 143 base w' (.slice (saa g) l.length c) (z6h l)/\Fr [g] w0 w':=by
 refine wf func172 U<|sr<|asg U<|nn<|sr<|mv U<|asg U<|asg U<|nn<|sq<|bl<|lpK (ι:=Nat×List Hd) (ll4 0 1 2 6) (λp=>[(7,.int .i64 (p.1:Int)),(8,.int .i64 ((p.1+20:Nat):Int))]) (λp w'=>Fr [g] w0 w'/\(p.2.length=p.1/\p.1<=l.length/\chk 20 l=p.2++chk 20 (l.drop p.1))/\Lw.Own z4s 143 base w' (.slice (saa g) l.length c) (p.2++l.drop p.1)) (λp=>l.length-p.1) (0,[]) U ⟨l12 _ _,⟨⟨rfl,l16 _,rfl⟩,by simpa using ho⟩⟩ ?_;rintro⟨I,D⟩ w1 ⟨q1,⟨Z,ho⟩⟩;simp only at Z ho;refine kpC [(0,_),(1,_),(2,_),(6,_),(7,.int .i64 (I:Int)),(8,.int .i64 ((I+20:Nat):Int))] U ?_;have O:(D++l.drop I).length=l.length:=by rw[l13,l39];omega
 refine sq<|sr<|mv U<|mv U<|le' U U<|nn<|cd U (λc0=>?_)<|λc0=>?_;refine sk<|tn<|bl<|sr<|mv U<|mv U<|mv U<|mv U<|cl (ev4 U) cO (by have x:=j3v g c base I (I+20) (D++l.drop I) _ (by rw[O];exact ho) oo oo;rw[O]at x;exact x) ?_;rintro _ w2 ⟨rfl,ho,q2⟩;refine kpL (ll5 0 1 2 6 8) U<|nn<|sr<|mv U<|asg U<|nn<|rg<|mv U<|mv U<|ad6 U<|asg U<|nl<|bn' ?_;exact lpE ((I+20,D++z6h (seg l I<|I+20))) (.c6 U U U U t17 t17) ⟨((l12 [g] _).z2 q1 q2),⟨⟨by simp only;rw[l13,z5c,z2j oo];omega,sm,by simp only;rw[Z.2.2,y3j dd oo,l14]⟩,by simp only;rw[<-u8j Z.1 oo];exact ho⟩⟩ sm;refine ex<|te<|te<|xh<|tn<|sr<|mv U<|mv U<|mv U<|mv U<|cl (ev4 U) cO (by have x:=j3v g c base I l.length (D++l.drop I) _ (by rw[O];exact ho) oo oo;rw[O]at x;exact x) ?_;rintro _ w3 ⟨rfl,ho,q3⟩;rw[u6y (B:=20) Z.1 Z.2.1 oo,<-Z.2.2]at ho;refine kpL (ll4 0 1 2 6) U<|nn<|bl<|lpK (ι:=Nat) (ll3 0 1 2) (λB=>[(6,.int .i64 (B:Int))]) (λB w'=>Fr [g] w3 w'/\(20<=B/\B<=4000000)/\Lw.Own z4s 143 base w' (.slice (saa g) l.length c) (chk B l)) (λB=>l.length-B) 20 U ⟨l12 _ _,⟨oo,ho⟩⟩ ?_;rintro B w4 ⟨q4,⟨hB,ho⟩⟩;refine kpC (ll4 0 1 2 6) U<|sq<|sr<|mv U<|mv U<|lt' U<|nn<|cd U (λc1=>?_)<|λc1=>?_;refine sk<|tn<|bl<|sr<|mv U<|x2e U U (wi6 oo)<|asg U<|asg U<|nn<|sq<|bl ?_;refine lpK (ι:=Nat×List Hd) (ll4 0 1 2 6) (λp=>[(7,.int .i64 (p.1:Int)),(8,.int .i64 ((p.1+2*B:Nat):Int))]) (λp w'=>Fr [g] w4 w'/\(p.2.length=p.1/\p.1<=l.length/\chk (2*B) l=p.2++chk (2*B) (l.drop p.1))/\Lw.Own z4s 143 base w' (.slice (saa g) l.length c) (p.2++chk B (l.drop p.1))) (λp=>l.length-p.1) (0,[]) (.c6 U U U U U t17) ⟨l12 _ _,⟨⟨rfl,l16 _,rfl⟩,by simpa using ho⟩⟩ ?_;rintro⟨I,D⟩ w5 ⟨q5,⟨Z,ho⟩⟩;simp only at Z ho;refine kpC [(0,_),(1,_),(2,_),(6,_),(7,.int .i64 (I:Int)),(8,.int .i64 ((I+2*B:Nat):Int))] U ?_;have O:(D++chk B (l.drop I)).length=l.length:=by rw[l13,v9r B _ _ (l20 _),l39];omega
 refine sq<|sr<|mv U<|mv U<|le' U U<|nn<|cd U (λc2=>?_)<|λc2=>?_;have hM:=x6y (l:=l) (D:=D) (a:=I) (B:=B) (C:=B) Z.1 oo (l20 _) oo (chk B<|l.drop<|I+(B+B)) (by rw[show I+(B+B)=I+B+B by omega];exact y3j oo oo);refine sk<|tn<|bl<|sr<|mv U<|mv U<|mv U<|mv U<|ad6 U<|mv U<|mv U<|cl (z0a U<|z0a U<|z0a U<|z0a U<|z0a U z0f) cO (by have x:=j2k g c base (2*B) I (I+B) (I+2*B) ↑I (↑I + ↑B) ↑(I+2*B) (D++chk B (l.drop I)) _ oo U oo U (by rw[O];exact ho) oo oo oo oo hM.2.1 (by rw[show I+2*B=I+(B+B) by omega];exact hM.2.2);rw[O]at x;exact x) ?_;rintro _ w6 ⟨rfl,ho,q6⟩;refine kpL (ll5 0 1 2 6 8) U<|nn<|sr<|mv U<|asg U<|nn<|rg<|mv U<|mv U<|x2e U U (wi6 oo)<|ad6 U<|asg U<|nl<|bn' ?_;exact lpE ((I+2*B,D++z6h (seg l I<|I+2*B))) (.c6 U U U U t17 t17) ⟨((l12 [g] _).z2 q5 q6),⟨⟨by simp only;rw[l13,z5c,z2j oo];omega,sm,by simp only;rw[Z.2.2,y3j oo oo,l14]⟩,by simp only;rw[show I+2*B=I+(B+B) by omega,hM.1]at ho;rw[show I+2*B=I+(B+B) by omega];exact ho⟩⟩ sm;refine ex<|te<|te<|xh<|tn<|jn (ι:=Unit) (ll4 0 1 2 6) (λ_j=>[]) (λ_j w'=>Fr [g] w5 w'/\Lw.Own z4s 143 base w' (.slice (saa g) l.length c) (chk (2*B) l)) U ?_ ?_;refine sr<|mv U<|mv U<|ad6 U<|asg U<|nn<|sr<|mv U<|mv U<|lt' U<|nn<|cd U (λc3=>?_)<|λc3=>?_;have hM:=x6y (l:=l) (D:=D) (a:=I) (B:=B) (C:=l.length-(I+B)) Z.1 oo oo oo [] (by rw[l24,y2b (by rw[l39];omega),show I+(B+(l.length-(I+B)))=l.length by omega];unfold seg;rw[l40]);rw[show I+(B+(l.length-(I+B)))=l.length by omega,l24]at hM;refine rg<|mv U<|mv U<|mv U<|mv U<|mv U<|cl (z0a U<|z0a U<|z0a U<|z0a U<|z0a U z0f) cO (by have x:=j2k g c base (2*B) I (I+B) l.length ↑I (↑I + ↑B) ↑l.length (D++chk B (l.drop I)) _ oo U oo U (by rw[O];exact ho) oo oo oo oo hM.2.1 hM.2.2;rw[O]at x;exact x) ?_;rintro _ w7 ⟨rfl,ho,q7⟩;exact kpL (ll4 0 1 2 6) U<|nl<|jE (()) U ⟨((l12 [g] _).z1 q7),(by rw[hM.1]at ho;rw[Z.2.2,y2b (show (l.drop I).length<=2*B by rw[l39];omega),show l.drop I=seg l I l.length by unfold seg;rw[l40]];exact ho)⟩;exact sk<|jE (()) U ⟨(l12 _ _),(by rw[y2b (show (l.drop I).length<=B by rw[l39];omega)]at ho;rw[Z.2.2,y2b (show (l.drop I).length<=2*B by rw[l39];omega)];exact ho)⟩;rintro _j w8 ⟨q8,ho⟩;refine kpC (ll4 0 1 2 6) U<|rg<|mv U<|x2e U U (wi6 oo)<|asg U<|nl<|bn' ?_;exact lpE (2*B) (.c4 U U U<|congrArg (λz=>some<|Value.int .i64 z) oo) ⟨((l12 [g] _).z3 q4 q5 q8),⟨oo,ho⟩⟩ oo;exact ex<|te<|te<|xh<|r0n U  ⟨_,rfl,rfl,by rw[y2b oo]at ho;exact ho,((l12 [g] _).z3 q1 q3 q4)⟩
theorem x8g:z4f prog 149 5:=⟨λ_=>kr,λ_=>kr⟩
theorem y3i:ElemOf prog 147 149 z6f 40:=ElemOf.mk' (z:=(.agg #[.int .u8 0,.int .i64 0,.int .u8 0,.int .i64 0,.int .i64 0])) underlying147 kr U
theorem v7a:z1s prog 149 5:=λ_=>kr
theorem u4p (w:World):(zeroValue 143).run prog w=.ok (.agg #[(.int .u8 0),(.int .i64 0),(.int .u8 0),(.int .i64 0),(.int .i64 0)]) w:=kr
theorem j5s (w:World):(zeroValue 149).run prog w=.ok (.agg #[(.int .u8 0),(.int .i64 0),(.int .u8 0),(.int .i64 0),(.int .i64 0)]) w:=kr
theorem u8s (g c base:Nat)(l:List Hd)(w0:World)(ho:Lw.Own z4s 143 base w0 (.slice (saa g) l.length c) l)(hl:l.length<=1000000):Rets prog 126 #[.slice (saa g) l.length c,.func (.func 127) #[] #[]] w0 λr w'=>r=.tuple #[]/\Lw.Own z4s 143 base w' (.slice (saa g) l.length c) (z6h l)/\Fr [g] w0 w':=by
 refine wf func126 U<|rg<|mv U<|mv U<|lnS U<|mv U<|cl (ev3 U) cO (j4s g c base l _ ho hl) ?_;rintro _ w1 ⟨rfl,ho,D⟩;exact kpL [] .nil<|nl<|r0n U  ⟨_,rfl,rfl,ho,((l12 [g] _).z1 D)⟩
theorem v5y (v:Value)(l:List Hd)(w0:World)(I:Sl z4s w0 v l)(hl:l.length<=100000):Rets prog 128 #[v] w0 λr w'=>∃g,r=.slice (saa g) l.length l.length/\w0.heap.size<=g/\Lw.Own z4s 143 w0.heap.size w' r l/\Fr [] w0 w':=by
 obtain⟨A,c,rfl,a0,hM,hA⟩:=id I;clear hA;unfold maxLen at hM;refine wf func128 U ?_;have O:=I;refine sr<|asg U<|nn<|sr<|mv U<|lnS U<|z1g (m:=l.length) (c:=l.length) (hd0) U z4e u4p U<|λg6 w1 a1 D Z z1=>(asg U<|nn<|sr<|mv U<|mv U ?_);have I:=O.ext Z;refine z9p (zs:=List.replicate l.length hd0) t35 U (by rw[l22];exact D) I t36 z4e<|λw2 D q2 z2=>?_;rw[l22]at D;exact nn<|sr<|mv U<|asg U<|nn<|rt<|r1 U ⟨_,rfl,g6,rfl,oo,D.low oo,(Z.z1 q2)⟩
theorem u7z (g c base:Nat)(ys:List LId)(w0:World)(ho:Lw.Own z1h 54 base w0 (.slice (saa g) ys.length c) ys)(hl:ys.length<=1000000):Rets prog 174 #[.slice (saa g) ys.length c] w0 λr w'=>Lw.Own z1h 54 base w' (.slice (saa g) ys.length c) ys.reverse/\Fr [g] w0 w':=by
 refine wf func174 U<|sr<|mv U<|lnS U<|z2i U (wi6 oo)<|asg U<|asg U<|nn<|bl ?_;refine lpK (ι:=Nat) (ll1 0) (λk=>[(2,.int .i64 (k:Int)),(3,.int .i64<|(ys.length:Int)-1-(k:Int))]) (λk w'=>Fr [g] w0 w'/\k<=ys.length/\∃zs,j5o id0 ys zs k/\Lw.Own z1h 54 base w' (.slice (saa g) ys.length c) zs) (λk=>ys.length-k) 0 (.c3 U U<|congrArg (λz=>some<|Value.int .i64 z) oo) ⟨l12 _ _,⟨l16 _,_,v8m _ _,ho⟩⟩ ?_;rintro k w1 ⟨q1,⟨hk,zs,hR,ho⟩⟩;refine kpC (ll3 0 2 3) U<|sq<|sr<|mv U<|mv U<|lt' U<|nn<|cd U (λc0=>?_)<|λc0=>?_;obtain⟨a3,-⟩:=id hR;have a0:k<ys.length-1-k:=by omega
 refine sk<|tn<|sq<|bl ?_;intro a h;refine rgh (some 15) (Fr [g]) ?_;intro w2 q2 hC;have ho:=ho.ext q2;have Z:=ho;refine z0e 0 h U λa h=>z0e 1 h U λa h=>z0e 2 h U λa h=>z0e 3 h U λa h=>z0e 4 h U λa h=>z0e 5 h U λa h=>z1d (p:=(ys.length-1-k)) (id0) 6 h U ho.sl U z4m U λa1 I a h=>z0e 8 h U λa h=>z0e 9 h U λa h=>z1d (p:=k) (id0) 10 h U ho.sl U z4m U λa2 O a h=>z1v 7 11 kr U ?_ ?_;refine z1o h U (I _ ho.sl) z2y U λa h=>z0b<|z0d 11 U<|z1o h U (O _ ho.sl) z2y U λa h=>?_;refine z0b<|z1l 12 kr hC (p:=k) h wn U z4m oo oo oo U U λa h=>z0d 13 U<|z0z (i:=k) (zs.getD (ys.length-1-k) id0) h U ho oo U y1b λw3 D q3 _hz a h=>?_;have hC:=hC.sp q3;have ho:=D;clear D;refine z0b<|z1l 14 kr hC (p:=(ys.length-1-k)) h wn U z4m oo oo oo U U λa h=>z0d 15 U<|z0z (i:=(ys.length-1-k)) (zs.getD k id0) h U ho t34 U y1b λw4 D q4 _hz a h=>?_;have ho:=D;clear D;refine z1m<|z0q ?_;clear hC Z;refine xB (ll3 0 2 3) h U<|bn'<|tn<|rg<|mv U<|ad6 U<|mv U<|z2i U (wi6 oo)<|asg U<|asg U<|nl ?_;exact lpE (k+1) (.c3 U U<|congrArg (λz=>some<|Value.int .i64 z) oo) ⟨((l12 [g] _).z4 q1 q2 q3 q4),⟨oo,_,z8w a0 hR,ho⟩⟩ oo;refine z1o h U (O _ ho.sl) z2y U λa h=>z0b<|z0d 7 U<|z1o h U (I _ ho.sl) z2y U λa h=>?_;refine z0b<|z1l 12 kr hC (p:=k) h wn U z4m oo oo oo U U λa h=>z0d 13 U<|z0z (i:=k) (zs.getD (ys.length-1-k) id0) h U ho oo U y1b λw5 D q5 _hz a h=>?_;have hC:=hC.sp q5;have ho:=D;clear D;refine z0b<|z1l 14 kr hC (p:=(ys.length-1-k)) h wn U z4m oo oo oo U U λa h=>z0d 15 U<|z0z (i:=(ys.length-1-k)) (zs.getD k id0) h U ho t34 U y1b λw6 D q6 _hz a h=>?_;have ho:=D;clear D;refine z1m<|z0q ?_;clear hC Z;refine xB (ll3 0 2 3) h U<|bn'<|tn<|rg<|mv U<|ad6 U<|mv U<|z2i U (wi6 oo)<|asg U<|asg U<|nl ?_;exact lpE (k+1) (.c3 U U<|congrArg (λz=>some<|Value.int .i64 z) oo) ⟨((l12 [g] _).z4 q1 q2 q5 q6),⟨oo,_,z8w a0 hR,ho⟩⟩ oo;refine ex<|te<|te<|xh<|r0n U  ?_;exact⟨_,rfl,by rw[<-x2u oo hR];exact ho,(q1.weak se)⟩
theorem j5w (w0:World):Rets prog 174 #[.slice none 0 0] w0 λr w'=>Fr [] w0 w':=by
 refine wf func174 U<|sr<|mv U<|lnS U<|z2i U (wi6 oo)<|asg U<|asg U<|nn<|bl<|lpK (ι:=Unit) (ll3 0 2 3) (λ_u=>[]) (λ_u w'=>Fr [] w0 w'/\True) (λ_u=>0) () U ⟨l12 _ _,trivial⟩ ?_;rintro _u w1 ⟨I,-⟩;refine kpC (ll3 0 2 3) U<|sq<|sr<|mv U<|mv U<|lt' U<|nn<|cd U (λD=>?_)<|λD=>?_;exfalso;omega;exact ex<|te<|te<|xh<|r0n U  ⟨_,rfl,I⟩
theorem v9y (base:Nat)(v:Value)(ys:List LId)(w0:World)(ho:Lw.Own z1h 54 base w0 v ys)(hl:ys.length<=1000000):Rets prog 174 #[v] w0 λr w'=>Lw.Own z1h 54 base w' v ys.reverse/\Fr (z0v v) w0 w':=by
 rcases id ho with ⟨rfl,rfl⟩|⟨g,cap,cur,rfl,_⟩
 refine Rets.mono (j5w w0) ?_;intro r w' hf;exact⟨Own.nil _,hf⟩;exact u7z g cap base ys w0 ho hl
theorem u7l (g c base:Nat)(ys:List Pa)(w0:World)(ho:Lw.Own z2k 172 base w0 (.slice (saa g) ys.length c) ys)(hl:ys.length<=1000000):Rets prog 188 #[.slice (saa g) ys.length c] w0 λr w'=>Lw.Own z2k 172 base w' (.slice (saa g) ys.length c) ys.reverse/\Fr [g] w0 w':=by
 refine wf func188 U<|sr<|mv U<|lnS U<|z2i U (wi6 oo)<|asg U<|asg U<|nn<|bl ?_;refine lpK (ι:=Nat) (ll1 0) (λk=>[(2,.int .i64 (k:Int)),(3,.int .i64<|(ys.length:Int)-1-(k:Int))]) (λk w'=>Fr [g] w0 w'/\k<=ys.length/\∃zs,j5o pa0 ys zs k/\Lw.Own z2k 172 base w' (.slice (saa g) ys.length c) zs) (λk=>ys.length-k) 0 (.c3 U U<|congrArg (λz=>some<|Value.int .i64 z) oo) ⟨l12 _ _,⟨l16 _,_,v8m _ _,ho⟩⟩ ?_;rintro k w1 ⟨q1,⟨hk,zs,hR,ho⟩⟩;refine kpC (ll3 0 2 3) U<|sq<|sr<|mv U<|mv U<|lt' U<|nn<|cd U (λc0=>?_)<|λc0=>?_;obtain⟨a3,-⟩:=id hR;have a0:k<ys.length-1-k:=by omega
 refine sk<|tn<|sq<|bl ?_;intro a h;refine rgh (some 15) (Fr [g]) ?_;intro w2 q2 hC;have ho:=ho.ext q2;have Z:=ho;refine z0e 0 h U λa h=>z0e 1 h U λa h=>z0e 2 h U λa h=>z0e 3 h U λa h=>z0e 4 h U λa h=>z0e 5 h U λa h=>z1d (p:=(ys.length-1-k)) (pa0) 6 h U ho.sl U z5g U λa1 I a h=>z0e 8 h U λa h=>z0e 9 h U λa h=>z1d (p:=k) (pa0) 10 h U ho.sl U z5g U λa2 O a h=>z1v 7 11 kr U ?_ ?_;refine z1o h U (I _ ho.sl) z9y U λa h=>z0b<|z0d 11 U<|z1o h U (O _ ho.sl) z9y U λa h=>?_;refine z0b<|z1l 12 kr hC (p:=k) h wn U z5g oo oo oo U U λa h=>z0d 13 U<|z0z (i:=k) (zs.getD (ys.length-1-k) pa0) h U ho oo U x6i λw3 D q3 _hz a h=>?_;have hC:=hC.sp q3;have ho:=D;clear D;refine z0b<|z1l 14 kr hC (p:=(ys.length-1-k)) h wn U z5g oo oo oo U U λa h=>z0d 15 U<|z0z (i:=(ys.length-1-k)) (zs.getD k pa0) h U ho t34 U x6i λw4 D q4 _hz a h=>?_;have ho:=D;clear D;refine z1m<|z0q ?_;clear hC Z;refine xB (ll3 0 2 3) h U<|bn'<|tn<|rg<|mv U<|ad6 U<|mv U<|z2i U (wi6 oo)<|asg U<|asg U<|nl ?_;exact lpE (k+1) (.c3 U U<|congrArg (λz=>some<|Value.int .i64 z) oo) ⟨((l12 [g] _).z4 q1 q2 q3 q4),⟨oo,_,z8w a0 hR,ho⟩⟩ oo;refine z1o h U (O _ ho.sl) z9y U λa h=>z0b<|z0d 7 U<|z1o h U (I _ ho.sl) z9y U λa h=>?_;refine z0b<|z1l 12 kr hC (p:=k) h wn U z5g oo oo oo U U λa h=>z0d 13 U<|z0z (i:=k) (zs.getD (ys.length-1-k) pa0) h U ho oo U x6i λw5 D q5 _hz a h=>?_;have hC:=hC.sp q5;have ho:=D;clear D;refine z0b<|z1l 14 kr hC (p:=(ys.length-1-k)) h wn U z5g oo oo oo U U λa h=>z0d 15 U<|z0z (i:=(ys.length-1-k)) (zs.getD k pa0) h U ho t34 U x6i λw6 D q6 _hz a h=>?_;have ho:=D;clear D;refine z1m<|z0q ?_;clear hC Z;refine xB (ll3 0 2 3) h U<|bn'<|tn<|rg<|mv U<|ad6 U<|mv U<|z2i U (wi6 oo)<|asg U<|asg U<|nl ?_;exact lpE (k+1) (.c3 U U<|congrArg (λz=>some<|Value.int .i64 z) oo) ⟨((l12 [g] _).z4 q1 q2 q5 q6),⟨oo,_,z8w a0 hR,ho⟩⟩ oo;refine ex<|te<|te<|xh<|r0n U  ?_;exact⟨_,rfl,by rw[<-x2u oo hR];exact ho,(q1.weak se)⟩
theorem j5f (w0:World):Rets prog 188 #[.slice none 0 0] w0 λr w'=>Fr [] w0 w':=by
 refine wf func188 U<|sr<|mv U<|lnS U<|z2i U (wi6 oo)<|asg U<|asg U<|nn<|bl<|lpK (ι:=Unit) (ll3 0 2 3) (λ_u=>[]) (λ_u w'=>Fr [] w0 w'/\True) (λ_u=>0) () U ⟨l12 _ _,trivial⟩ ?_;rintro _u w1 ⟨I,-⟩;refine kpC (ll3 0 2 3) U<|sq<|sr<|mv U<|mv U<|lt' U<|nn<|cd U (λD=>?_)<|λD=>?_;exfalso;omega;exact ex<|te<|te<|xh<|r0n U  ⟨_,rfl,I⟩
theorem x5d (base:Nat)(v:Value)(ys:List Pa)(w0:World)(ho:Lw.Own z2k 172 base w0 v ys)(hl:ys.length<=1000000):Rets prog 188 #[v] w0 λr w'=>Lw.Own z2k 172 base w' v ys.reverse/\Fr (z0v v) w0 w':=by
 rcases id ho with ⟨rfl,rfl⟩|⟨g,cap,cur,rfl,_⟩
 refine Rets.mono (j5f w0) ?_;intro r w' hf;exact⟨Own.nil _,hf⟩;exact u7l g cap base ys w0 ho hl
theorem u9q (g c base:Nat)(ys:List Cx)(w0:World)(ho:Lw.Own z6f 149 base w0 (.slice (saa g) ys.length c) ys)(hl:ys.length<=1000000):Rets prog 175 #[.slice (saa g) ys.length c] w0 λr w'=>Lw.Own z6f 149 base w' (.slice (saa g) ys.length c) ys.reverse/\Fr [g] w0 w':=by
 refine wf func175 U<|sr<|mv U<|lnS U<|z2i U (wi6 oo)<|asg U<|asg U<|nn<|bl ?_;refine lpK (ι:=Nat) (ll1 0) (λk=>[(2,.int .i64 (k:Int)),(3,.int .i64<|(ys.length:Int)-1-(k:Int))]) (λk w'=>Fr [g] w0 w'/\k<=ys.length/\∃zs,j5o cx0 ys zs k/\Lw.Own z6f 149 base w' (.slice (saa g) ys.length c) zs) (λk=>ys.length-k) 0 (.c3 U U<|congrArg (λz=>some<|Value.int .i64 z) oo) ⟨l12 _ _,⟨l16 _,_,v8m _ _,ho⟩⟩ ?_;rintro k w1 ⟨q1,⟨hk,zs,hR,ho⟩⟩;refine kpC (ll3 0 2 3) U<|sq<|sr<|mv U<|mv U<|lt' U<|nn<|cd U (λc0=>?_)<|λc0=>?_;obtain⟨a3,-⟩:=id hR;have a0:k<ys.length-1-k:=by omega
 refine sk<|tn<|sq<|bl ?_;intro a h;refine rgh (some 15) (Fr [g]) ?_;intro w2 q2 hC;have ho:=ho.ext q2;have Z:=ho;refine z0e 0 h U λa h=>z0e 1 h U λa h=>z0e 2 h U λa h=>z0e 3 h U λa h=>z0e 4 h U λa h=>z0e 5 h U λa h=>z1d (p:=(ys.length-1-k)) (cx0) 6 h U ho.sl U y3i U λa1 I a h=>z0e 8 h U λa h=>z0e 9 h U λa h=>z1d (p:=k) (cx0) 10 h U ho.sl U y3i U λa2 O a h=>z1v 7 11 kr U ?_ ?_;refine z1o h U (I _ ho.sl) x8g U λa h=>z0b<|z0d 11 U<|z1o h U (O _ ho.sl) x8g U λa h=>?_;refine z0b<|z1l 12 kr hC (p:=k) h wn U y3i oo oo oo U U λa h=>z0d 13 U<|z0z (i:=k) (zs.getD (ys.length-1-k) cx0) h U ho oo U v7a λw3 D q3 _hz a h=>?_;have hC:=hC.sp q3;have ho:=D;clear D;refine z0b<|z1l 14 kr hC (p:=(ys.length-1-k)) h wn U y3i oo oo oo U U λa h=>z0d 15 U<|z0z (i:=(ys.length-1-k)) (zs.getD k cx0) h U ho t34 U v7a λw4 D q4 _hz a h=>?_;have ho:=D;clear D;refine z1m<|z0q ?_;clear hC Z;refine xB (ll3 0 2 3) h U<|bn'<|tn<|rg<|mv U<|ad6 U<|mv U<|z2i U (wi6 oo)<|asg U<|asg U<|nl ?_;exact lpE (k+1) (.c3 U U<|congrArg (λz=>some<|Value.int .i64 z) oo) ⟨((l12 [g] _).z4 q1 q2 q3 q4),⟨oo,_,z8w a0 hR,ho⟩⟩ oo;refine z1o h U (O _ ho.sl) x8g U λa h=>z0b<|z0d 7 U<|z1o h U (I _ ho.sl) x8g U λa h=>?_;refine z0b<|z1l 12 kr hC (p:=k) h wn U y3i oo oo oo U U λa h=>z0d 13 U<|z0z (i:=k) (zs.getD (ys.length-1-k) cx0) h U ho oo U v7a λw5 D q5 _hz a h=>?_;have hC:=hC.sp q5;have ho:=D;clear D;refine z0b<|z1l 14 kr hC (p:=(ys.length-1-k)) h wn U y3i oo oo oo U U λa h=>z0d 15 U<|z0z (i:=(ys.length-1-k)) (zs.getD k cx0) h U ho t34 U v7a λw6 D q6 _hz a h=>?_;have ho:=D;clear D;refine z1m<|z0q ?_;clear hC Z;refine xB (ll3 0 2 3) h U<|bn'<|tn<|rg<|mv U<|ad6 U<|mv U<|z2i U (wi6 oo)<|asg U<|asg U<|nl ?_;exact lpE (k+1) (.c3 U U<|congrArg (λz=>some<|Value.int .i64 z) oo) ⟨((l12 [g] _).z4 q1 q2 q5 q6),⟨oo,_,z8w a0 hR,ho⟩⟩ oo;refine ex<|te<|te<|xh<|r0n U  ?_;exact⟨_,rfl,by rw[<-x2u oo hR];exact ho,(q1.weak se)⟩
theorem j8x (w0:World):Rets prog 175 #[.slice none 0 0] w0 λr w'=>Fr [] w0 w':=by
 refine wf func175 U<|sr<|mv U<|lnS U<|z2i U (wi6 oo)<|asg U<|asg U<|nn<|bl<|lpK (ι:=Unit) (ll3 0 2 3) (λ_u=>[]) (λ_u w'=>Fr [] w0 w'/\True) (λ_u=>0) () U ⟨l12 _ _,trivial⟩ ?_;rintro _u w1 ⟨I,-⟩;refine kpC (ll3 0 2 3) U<|sq<|sr<|mv U<|mv U<|lt' U<|nn<|cd U (λD=>?_)<|λD=>?_;exfalso;omega;exact ex<|te<|te<|xh<|r0n U  ⟨_,rfl,I⟩
theorem u2j (base:Nat)(v:Value)(ys:List Cx)(w0:World)(ho:Lw.Own z6f 149 base w0 v ys)(hl:ys.length<=1000000):Rets prog 175 #[v] w0 λr w'=>Lw.Own z6f 149 base w' v ys.reverse/\Fr (z0v v) w0 w':=by
 rcases id ho with ⟨rfl,rfl⟩|⟨g,cap,cur,rfl,_⟩
 refine Rets.mono (j8x w0) ?_;intro r w' hf;exact⟨Own.nil _,hf⟩;exact u9q g cap base ys w0 ho hl
theorem y7s (v:Value)(l:List Pa)(w0:World)(I:Sl z2k w0 v l)(hl:l.length<=100000):Rets prog 189 #[v] w0 λr w'=>∃g,r=.slice (saa g) l.length l.length/\w0.heap.size<=g/\Lw.Own z2k 172 w0.heap.size w' r l/\Fr [] w0 w':=by
 obtain⟨A,c,rfl,a0,hM,hA⟩:=id I;clear hA;unfold maxLen at hM;refine wf func189 U ?_;have O:=I;refine sr<|asg U<|nn<|sr<|mv U<|lnS U<|z1g (m:=l.length) (c:=l.length) (pa0) U z5g x3t U<|λg6 w1 a1 D Z z1=>(asg U<|nn<|sr<|mv U<|mv U ?_);have I:=O.ext Z;refine z9p (zs:=List.replicate l.length pa0) t35 U (by rw[l22];exact D) I t36 z5g<|λw2 D q2 z2=>?_;rw[l22]at D;exact nn<|sr<|mv U<|asg U<|nn<|rt<|r1 U ⟨_,rfl,g6,rfl,oo,D.low oo,(Z.z1 q2)⟩
theorem v0x (v:Value)(l:List Cx)(w0:World)(I:Sl z6f w0 v l)(hl:l.length<=100000):Rets prog 176 #[v] w0 λr w'=>∃g,r=.slice (saa g) l.length l.length/\w0.heap.size<=g/\Lw.Own z6f 149 w0.heap.size w' r l/\Fr [] w0 w':=by
 obtain⟨A,c,rfl,a0,hM,hA⟩:=id I;clear hA;unfold maxLen at hM;refine wf func176 U ?_;have O:=I;refine sr<|asg U<|nn<|sr<|mv U<|lnS U<|z1g (m:=l.length) (c:=l.length) (cx0) U y3i j5s U<|λg6 w1 a1 D Z z1=>(asg U<|nn<|sr<|mv U<|mv U ?_);have I:=O.ext Z;refine z9p (zs:=List.replicate l.length cx0) t35 U (by rw[l22];exact D) I t36 y3i<|λw2 D q2 z2=>?_;rw[l22]at D;exact nn<|sr<|mv U<|asg U<|nn<|rt<|r1 U ⟨_,rfl,g6,rfl,oo,D.low oo,(Z.z1 q2)⟩
theorem q1w:BuildAt prog 143 [(0,2),(2,2),(4,1)] [(.int .u8 0),(.int .i64 0),(.int .u8 0),(.int .i64 0),(.int .i64 0)]:=BuildAt.struct underlying143 (λ_=>kr)<|λ_=>kr
theorem v5e:CallOf prog 113:=cO
theorem k1b:z2e prog 139:=λ_=>kr
theorem k4d:z1s prog 139 1:=λ_=>kr
theorem u3h (gr gk base:Nat)(b r:Int)(v u:Value)(l:List IQ)(a4:List Hd)(wS w0:World)(hF:Fr [] wS w0)(hs:Sl z7a wS v l)(hk:IqAt wS l)(a6:Blk wS gk 3 [.int .i64 r])(f3:wS.heap.size<=gr)(e8:wS.heap.size<=base)(e9:base<=w0.heap.size)(D:Blk w0 gr 139 [u])(ho:Lw.Own z4s 143 base w0 u a4)(hb:b=0\/b=1)(hl:l.length<=40)(h4:z9v l)(ha:a4.length<=1000)(hu:IsB u):Rets prog 125 #[.int .u8 b,v,pta gr,pta gk] w0 λr' w'=>r'=.tuple #[]/\(∃u',Blk w' gr 139 [u']/\Lw.Own z4s 143 base w' u' (a4++hds b r (plB l) l.length)/\IsB u')/\w0.heap.size<=w'.heap.size/\Fr [] wS w':=by
 obtain⟨A,c,rfl,f0,hM,hA⟩:=id hs;clear hA;unfold maxLen at hM;have f7:=hF.size;have e5:=D.lt;refine wf func125 U ?_;have d0:=hs;have b3:=hk;have b2:=a6;refine sr<|mv U<|lnS U<|mv U<|nn<|bl<|lpK (ι:=Nat×Value) (ll5 0 2 3 11 12) (λp=>[(13,.int .i64 (p.1:Int))]) (λp w'=>Fr [] wS w'/\(p.1<=l.length/\w0.heap.size<=w'.heap.size/\IsB p.2)/\Blk w' gr 139 [p.2]/\Lw.Own z4s 143 base w' p.2 (a4++hds b r (plB l) p.1)) (λp=>l.length-p.1) (0,u) U ⟨hF,⟨⟨l16 _,oo,hu⟩,D,by simpa[hds] using ho⟩⟩ ?_;rintro⟨i,uI⟩ w1 ⟨q1,⟨hi,D,ho⟩⟩;simp only at hi D ho;have z1:=q1.size;have a9:=D.lt;refine kpC [(0,_),(2,_),(3,_),(11,_),(12,_),(13,.int .i64 (i:Int))] U ?_;have f1:=x8j b r l h4 i;have f5:=z4a h4 i;have f6:=z2f<|z1y b3 i;have b4:=b2.lt;refine sr<|lt' U<|nn<|sq<|cd U (λc0=>?_)<|λc0=>?_;refine sk<|tn<|sq<|bl<|sr<|mv U ?_;have hs:=d0.ext q1;refine z1a (iq0) U hs U y4d z1j<|λd9 b6=>?_;refine z1c U (b6 _ hs) z6k<|asg U<|asg U<|nn<|sr<|mv U<|mv U<|ad6 U<|z1r (cs:=[_,_]) (ev2 U) y8v (z0g U<|z0g U z0r) U ?_;refine al x4f U<|λg8 w2 f2 I q2 z2=>?_;refine z0j (vs:=[_,_]) U I y2m (λw3 I q3 z3=>?_) (h1:=t26);refine nn<|sr<|mv U<|lnS U<|mv U<|nn<|bl ?_;have D:=(D.ext q2).fr q3;have ho:=(ho.ext q2).fr q3 (by first|(intro k hk hb;rw[l11.1 hk]at hb;first|exact ho.neB D dd hb|(have:=(ho.blk _ hb).2;omega))|(simp;done));refine lpK (ι:=Nat×Value) (ll9 0 2 3 8 11 12 13 22 23) (λp=>[(24,.int .i64 (p.1:Int))]) (λp w'=>Fr [] wS w'/\(p.1<=(l.getD i iq0).2.length/\w0.heap.size<=w'.heap.size/\Blk w' g8 48 [.int .u8 b,.int .i64 ((i:Int)+1)]/\IsB p.2)/\Blk w' gr 139 [p.2]/\Lw.Own z4s 143 base w' p.2 ((a4++hds b r (plB l) i)++((l.getD i iq0).2.take p.1).map (hdS b r i))) (λp=>(l.getD i iq0).2.length-p.1) (0,uI) U ⟨(q1.z2 q2 q3),⟨⟨l16 _,oo,I,hi.2.2⟩,D,by simpa using ho⟩⟩ ?_;rintro⟨j,uJ⟩ w4 ⟨q4,⟨⟨hj,f8,I,d6⟩,D,ho⟩⟩;simp only at hj D ho;have z4:=q4.size;have a9:=D.lt;have d3:=I.lt;refine kpC [(0,_),(2,_),(3,_),(8,_),(11,_),(12,_),(13,_),(22,_),(23,_),(24,.int .i64 (j:Int))] U<|sr<|lt' U<|nn<|sq<|cd U (λc1=>?_)<|λc1=>?_;refine sk<|tn<|sq<|bl<|sr ?_;have hk:=b3.ext q4;refine z1a (id0) U (z1y hk i) U z4m z1j<|λe0 b7=>?_;refine z1q U (b7 _<|z1y hk i) z2y<|al z9l U<|λd4 w5 e4 O q5 z5=>?_;refine z0j (vs:=[_,_]) U O y1b (λw6 O q6 z6=>?_) (h1:=t26);refine nn ?_;have hs:=d0.ext<|q4.z2 q5 q6;have hk:=b3.ext<|q4.z2 q5 q6;have a6:=b2.ext<|q4.z2 q5 q6;have D:=(D.ext q5).fr q6;have ho:=(ho.ext q5).fr q6 (by first|(intro k hk hb;rw[l11.1 hk]at hb;first|exact ho.neB D dd hb|(have:=(ho.blk _ hb).2;omega))|(simp;done));have I:=(I.ext q5).fr q6;intro a h;refine z0h (some 8) (λwb w'=>Fr (z0v uJ) wb w') z2s ?_;intro w7 q7;have z7:=q7.size;have hs:=hs.ext q7;have hk:=hk.ext q7;have a6:=a6.ext q7;have D:=D.ext q7;have ho:=ho.ext q7;have I:=I.ext q7;have O:=O.ext q7;have hC:Fr (z0v uJ) w7 w7:=l12 _ _;have d1:=hs;have b8:=hk;have a7:=a6;have a2:=D;have a0:=ho;have Z:=I;have a1:=O;refine z7l 0 hC h wn U (λ_ hw=>a2.fr hw<|λk_=>Own.neB a0 a2 dd k_) k1b U U λa h=>z0x 1 h U (λ_ hw=>a1.fr hw<|λk_=>Own.neB a0 a1 dd k_) z2y U λa h=>z0x 2 h U (λ_ hw=>Z.fr hw<|λk_=>Own.neB a0 Z dd k_) z5k U λa h=>z0x 3 h U (λ_ hw=>Z.fr hw<|λk_=>Own.neB a0 Z dd k_) z5k U λa h=>z7l 4 hC h wn U (λ_ hw=>a7.fr hw (λk_=>by have:=(a0.blk _ k_).1;have:=b4;omega)) na3 U U λa h=>z0d 5 U<|z0n h (z0a U<|z0a U z0f) v5e (y4b _ _ _ _ oo) ?_;rintro _ w8 ⟨rfl,q8⟩ a h;have z8:=q8.size;have D:=D.ext q8;have I:=I.ext q8;have O:=O.ext q8;have hC:=hC.next q8;refine z0b<|z3j (cs:=[_,_,_,_,_]) 6 h (z0a U<|z0a U<|z0a U z0f) q1w (z0g U<|z0g U<|z0g U z0r) U U λa h=>z0d 7 U ?_;refine z2p ([(hdS b r i<|(l.getD i iq0).2.getD j id0)]) h (z0a U z0f) U z4e λa5 w9 hg c9 q9 hz a h=>?_;have a8:gr<a5:=by have:=D.lt;omega
 have a8:g8<a5:=by have:=I.lt;omega
 have b9:d4<a5:=by have:=O.lt;omega
 have z9:=q9.size;have hk:=hk.ext<|q8.n1 q9;have D:=D.ext q9;have ho:=ho.ext<|q8.n1 q9;have I:=I.ext q9;have hC:=hC.next q9;refine z0b<|z0d 8 U ?_;have a3:=ho;refine z5s h U U ho c9.sl z4e U ?_ (hM:=t61) (hb:=t62);intro f9 g0 ho b0 d5 a h;obtain⟨e6,e7,rfl,e3⟩:=ho.sl.form;have g1:=b0.size;have D:=D.fr b0<|λhk=>a3.neB D dd hk;have I:=I.fr b0<|λhk=>a3.neB I dd hk;refine z1m<|z0d 9 U<|x0g h U U D U U k4d λd7 b5 b1 hz a h=>?_;have g3:=b1.size;have I:=I.fr b1;have ho:=ho.fr b1 (by first|(intro k hk hb;rw[l11.1 hk]at hb;first|exact ho.neB D dd hb|(have:=(ho.blk _ hb).2;omega))|(simp;done));have D:Blk d7 gr _ [_]:=b5;clear b5;refine z1m<|z0q ?_;clear hC d1 b8 a7 a2 a0 Z a1;exact xB (ll10 0 2 3 8 11 12 13 22 23 24) h U<|bn'<|tn<|rg<|ad6 U<|mv U<|nl<|lpE ((j+1,_)) U ⟨(((q4.z5 q5 q6 q7 q8 q9).step b0<|λk hk f4=>absurd (a3.blk k hk).1 oo).z1 b1),⟨⟨sm,oo,I,j6z ho sp0⟩,D,by rw[y5w (hdS b r i) id0 oo,<-l14];exact ho⟩⟩ sm;obtain rfl:j=(l.getD i iq0).2.length:=by omega
 rw[l40]at ho;exact ex<|te<|te<|xh<|bn'<|tn<|rg<|ad6 U<|mv U<|kpL (ll6 0 2 3 11 12 13) U<|nl<|lpE ((i+1,_)) U ⟨q4,⟨⟨sm,oo,d6⟩,D,by rw[x1e,z3q,<-l14];exact ho⟩⟩ sm;obtain rfl:i=l.length:=by omega
 exact ex<|te<|te<|xh<|r0n U  ⟨_,rfl,rfl,⟨_,D,ho,hi.2.2⟩,oo,q1⟩
theorem q1n (w:World):(zeroValue 139).run prog w=.ok (.slice none 0 0) w:=kr
theorem v8z (q:BdQ)(r:Int)(w0:World)(hB:BdAt w0 q)(hv:BdOk q.p)(hr:-4<=r/\r<=4):Rets prog 73 #[bvv q,.int .i64 r] w0 λv w'=>(∃g,v=.tuple #[.slice (saa g) (z2m q.p r).length (z2m q.p r).length,.int .i64 0]/\w0.heap.size<=g/\Lw.Own z4s 143 w0.heap.size w' (.slice (saa g) (z2m q.p r).length (z2m q.p r).length) (z2m q.p r))/\Fr [] w0 w':=by
 obtain⟨⟨hf,hb⟩,h4,a6⟩:=z3f hv;have hN:=x1x hv;have b8:=z9k q.p r;have d0:(z2m q.p r).length=(x8l q.p r).length:=z5c _;refine wf func73 U ?_;have a4:=hB;refine sr<|bx U<|λg2 w1 b9 D q1 z1=>(bx U<|λg3 w2 c1 a1 q2 z2=>(asg U<|asg U<|nn<|sq<|sr ?_));have D:=D.ext q2;refine z0l U D z4y<|z2a U a1 na3 ?_;have hB:=a4.ext<|q1.n1 q2;refine cl (ev2 U) cO (x5u q _ _ hB hv oo) ?_;rintro _ w3 ⟨rfl,q3⟩;have z3:=q3.size;have a1:=a1.ext q3;have D:=D.ext q3;have a0:BdAt w3 q:=a4.ext<|q1.n2 q2 q3;have Z:=a1;have b7:=Z.lt;have a8:=D;refine asg U<|nn<|sr<|mv U<|ne' U<|nn<|cd U (λc0=>?_)<|λc0=>?_;exact absurd U c0;refine sk<|tn<|sr<|z0l U D z4y ?_;have hB:=a4.ext<|q1.n2 q2 q3;refine cl (ev1 U) cO (y3r q _ hB hf hb h4 a6) ?_;rintro _ w4 ⟨rfl,q4⟩;have z4:=q4.size;refine z1g (m:=0) (c:=q.p.flat.length) (hd0) U z4e u4p U<|λa2 w5 b3 O q5 z5=>(al q1n U<|λg7 w6 c9 I q6 z6=>(z3i U I U k4d<|λw7 I q7 z7=>(nn<|sr<|z5j z0f (ev2 U)<|asg U<|nn<|sr<|mv U<|fad U y5d ?_)));have D:=(D.ext<|q4.n2 q5 q6).fr q7;refine z0i U D U x4d ?_;have O:=(O.ext q6).fr q7 (by first|(intro k hk hb;rw[l11.1 hk]at hb;first|exact O.neB I dd hb|(have:=(O.blk _ hb).2;omega))|(simp;done));refine clv (us:=[]) (ws:=[pta g7,pta g3]) U (ev2 U) cO (u3h g7 g3 a2 0 r _ _ q.fs [] w3 _ (q4.z3 q5 q6 q7) a0.f a0.fi Z oo oo oo I O dd oo h4 (by first|(simp;done)|(have:=x8j 0 r q.fs h4 q.fs.length;simp;omega)) ⟨_,_,_,rfl⟩) U t14 ?_;rintro _ w8 ⟨rfl,⟨d1,I,O,a9⟩,hz22,q8⟩;have z8:=q8.size;refine nn<|sr<|mv U<|fad U y1o ?_;have D:=a8.ext q8;refine z0i U D U x4d<|clv (us:=[]) (ws:=[pta g7,pta g3]) U (ev2 U) cO (u3h g7 g3 a2 1 r _ _ q.bs ([]++hds 0 r (plB q.fs) q.fs.length) w3 _ q8 a0.b a0.bi Z oo oo oo I O dd oo a6 (by first|(simp;done)|(have:=x8j 0 r q.fs h4 q.fs.length;simp;omega)) a9) U t14 ?_;rintro _ w9 ⟨rfl,⟨d3,I,O,b0⟩,hz26,q9⟩;have z9:=q9.size;rw[l43,show hds 0 r (plB q.fs) q.fs.length++hds 1 r (plB q.bs) q.bs.length=x8l q.p r by unfold x8l;simp only[l18]]at O;obtain⟨a3,b5,rfl⟩:=u6z b0 O;have b6:=(O.blk a3 t10).1;have a7:g7∉[a3]:=λhk=>(O.neB I dd) (by simpa[z0v] using hk);refine kpL (ll1 7) U<|nn<|sr<|z2a U I k1b<|cl (ev2 U) cO (u8s a3 _ a2 (x8l q.p r) _ O oo) ?_;rintro _ d4 ⟨rfl,O,a5⟩;have d6:=a5.size;refine nn<|sr ?_;have I:=I.fr a5 (by first|exact a7|(simp;omega));refine z2a U I k1b<|cl (ev1 U) cO (v5y _ (z2m q.p r) _ (by unfold z2m;exact O.sl) oo) ?_;rintro _ d5 ⟨b2,rfl,b4,hX,b1⟩;have d7:=b1.size;exact asg U<|asg U<|nn<|rt<|r2 U U U ⟨_,rfl,⟨b2,rfl,oo,hX.low oo⟩,(q1.z5 q2 q3 q9 a5 b1)⟩
end Go.Proofs.YtkafbfjmcigaiaaGreatDoor
