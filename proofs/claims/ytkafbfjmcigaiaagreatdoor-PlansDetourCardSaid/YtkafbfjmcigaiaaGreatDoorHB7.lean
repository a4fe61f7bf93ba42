/- Texts of the proof, joined. -/
import Derived.Laws.BitsAllLaws
import Derived.Laws.BitsLemmas
import Derived.Test.YtkafbfjmcigaiaaGreatDoorHB6
set_option linter.unusedVariables false
set_option linter.unusedSimpArgs false
set_option maxHeartbeats 4000000
namespace Go.Proofs.YtkafbfjmcigaiaaGreatDoor
open Go.Lw Go.G21 Go.G08 Go.G09 Go.G26 _root_.Go.Proofs.Tryz
theorem x9h (l:List UInt8)(o:MOp)(e:Int)(w0:World)(hG:Glob w0)(h:x0p l=(o,e))(hl:l.length<=1000):Rets prog 31 #[S l] w0 λr w'=>r=opV o/\Fr [] w0 w':=by
 have a0:=hG.sz;refine wf func31 U ?_;have O:=hG;refine sr<|al u5d U<|λg2 w1 a1 D q1 z1=>(nn<|sr<|mv U ?_);have hG:=O.ext q1;refine cl (ev1 U) cO (j0h l _ hG oo) ?_;rintro _ w2 ⟨o',e',Z,rfl,q2⟩;have z2:=q2.size;cases Z.symm.trans h;refine mv U<|xt U<|xt U<|al u5d U<|λg3 w3 a2 I q3 z3=>(z0j (vs:=[_,_,_,_,_,_]) U I v5u<|λw4 I q4 z4=>(asg U<|kpL (ll2 2 3) U<|nn<|sr<|z0l U I y3t ?_));have D:=(D.ext<|q2.n1 q3).fr q4;exact z0j (vs:=[_,_,_,_,_,_]) U D v5u<|λw5 D q5 z5=>(nn<|rt<|rC U U D y3t  ⟨_,rfl,rfl,(q1.z4 q2 q3 q4 q5)⟩)
theorem v9a (v1 v2:Value)(l1 l2:List Int)(w0:World)(h1:Sl Enc.i64 w0 v1 l1)(Z:Sl Enc.i64 w0 v2 l2)(hl:l1.length<=100000):Rets prog 32 #[v1,v2] w0 λr w'=>r=.bool (decide (l1=l2))/\Fr [] w0 w':=by
 obtain⟨A1,k1,rfl,a6⟩:=id h1.form;obtain⟨A2,k2,rfl,a7⟩:=id Z.form;refine wf func32 U ?_;have a2:=h1;have a3:=Z;refine sr<|asg U<|nn<|sq<|sr<|mv U<|lnS U<|mv U<|lnS U<|ne' U<|nn<|cd U (λc0=>?_)<|λc0=>?_;refine sr<|asg U<|nn<|rt<|tr<|r1 U ?_;exact⟨_,rfl,congrArg Value.bool (decide_eq_false<|λe=>c0 t15).symm,(l12 _ _)⟩;refine sk<|tn<|sq<|sr<|asg U<|nn<|bl<|lpK (ι:=Nat) (ll2 0 1) (λi=>[(5,.int .i64 (i:Int))]) (λi w'=>Fr [] w0 w'/\i<=l1.length/\∀j,j<i->l1.getD j 0=l2.getD j 0) (λi=>l1.length-i) 0 U ⟨l12 _ _,⟨l16 _,λj h=>absurd h oo⟩⟩ ?_;rintro i w1 ⟨q1,⟨hi,hz⟩⟩;refine kpC (ll3 0 1 5) U<|sq<|sr<|mv U<|mv U<|lnS U<|lt' U<|nn<|cd U (λc1=>?_)<|λc1=>?_;refine sk<|tn<|sq<|bl<|sq ?_;have h1:=a2.ext q1;have Z:=a3.ext q1;intro a h;have D:=l12 [] w1;refine z3d (Fr []) z2s ?_;intro w2 hq;have h1:=h1.ext hq;have Z:=Z.ext hq;have D:=D.next hq;have a8:=hq.size;have hC:Fr [] w2 w2:=l12 _ _;have I:=h1;have O:=Z;refine z0e 0 h U λa h=>z0e 1 h U λa h=>z1d (0) 2 h U h1 U y1e U ?_ (hp:=rfl);intro a4 a0 a h;refine z2h 3 h U (λ_ hw=>a0 _<|I.ext hw) na3 U λa h=>z0e 4 h U λa h=>z0e 5 h U λa h=>z1d (0) 6 h U Z U y1e U ?_ (hp:=rfl);intro a5 a1 a h;refine z2h 7 h U (λ_ hw=>a1 _<|O.ext hw) na3 U λa h=>u3b 8 hC h wn U U U U λa h=>z0q ?_;clear hC I O;refine xB (ll4 0 1 5 25) h U<|tn<|cd U (λc2=>?_)<|λc2=>?_;refine sr<|asg U<|nn<|rt<|rb<|tr<|tr<|rb<|tr<|r1 U ?_;exact⟨_,rfl,congrArg Value.bool (decide_eq_false<|λe=>c2 t15).symm,(q1.n1 D)⟩;refine sk<|bn'<|tn<|rg<|mv U<|ad6 U<|asg U<|nl ?_;exact lpE (i+1) U ⟨(q1.n1 D),⟨oo,λj h=>by
  by_cases e:j=i;subst e;exact l15.1 c2;exact hz j oo⟩⟩ oo
 obtain rfl:i=l1.length:=by omega
 refine ex<|te<|te<|xh<|tn<|sr<|asg U<|nn<|rt<|r1 U ?_;exact⟨_,rfl,congrArg Value.bool (decide_eq_true<|y8k 0 oo<|λj hj=>hz j oo).symm,q1⟩
theorem y0s (v1 v2:Value)(l1 l2:List LId)(w0:World)(h1:Sl z1h w0 v1 l1)(Z:Sl z1h w0 v2 l2)(hl:l1.length<=100000):Rets prog 33 #[v1,v2] w0 λr w'=>r=.bool (decide (l1=l2))/\Fr [] w0 w':=by
 obtain⟨A1,k1,rfl,a6⟩:=id h1.form;obtain⟨A2,k2,rfl,a7⟩:=id Z.form;refine wf func33 U ?_;have a2:=h1;have a3:=Z;refine sr<|asg U<|nn<|sq<|sr<|mv U<|lnS U<|mv U<|lnS U<|ne' U<|nn<|cd U (λc0=>?_)<|λc0=>?_;refine sr<|asg U<|nn<|rt<|tr<|r1 U ?_;exact⟨_,rfl,congrArg Value.bool (decide_eq_false<|λe=>c0 t15).symm,(l12 _ _)⟩;refine sk<|tn<|sq<|sr<|asg U<|nn<|bl<|lpK (ι:=Nat) (ll2 0 1) (λi=>[(5,.int .i64 (i:Int))]) (λi w'=>Fr [] w0 w'/\i<=l1.length/\∀j,j<i->l1.getD j id0=l2.getD j id0) (λi=>l1.length-i) 0 U ⟨l12 _ _,⟨l16 _,λj h=>absurd h oo⟩⟩ ?_;rintro i w1 ⟨q1,⟨hi,hz⟩⟩;refine kpC (ll3 0 1 5) U<|sq<|sr<|mv U<|mv U<|lnS U<|lt' U<|nn<|cd U (λc1=>?_)<|λc1=>?_;refine sk<|tn<|sq<|bl<|sq ?_;have h1:=a2.ext q1;have Z:=a3.ext q1;intro a h;have D:=l12 [] w1;refine z3d (Fr []) z2s ?_;intro w2 hq;have h1:=h1.ext hq;have Z:=Z.ext hq;have D:=D.next hq;have a8:=hq.size;have hC:Fr [] w2 w2:=l12 _ _;have I:=h1;have O:=Z;refine z0e 0 h U λa h=>z0e 1 h U λa h=>z1d (id0) 2 h U h1 U z4m U ?_ (hp:=rfl);intro a4 a0 a h;refine z1z 3 h wn U (λ_ hw=>a0 _<|I.ext hw) z2y U λa h=>z0e 4 h U λa h=>z0e 5 h U λa h=>z1d (id0) 6 h U Z U z4m U ?_ (hp:=rfl);intro a5 a1 a h;refine z1z 7 h wn U (λ_ hw=>a1 _<|O.ext hw) z2y U λa h=>j1z (V:=idV) (e:=_) (f:=_) 8 hC h wn U U k8w U U λa h=>z0q ?_;clear hC I O;refine xB (ll4 0 1 5 25) h U<|tn<|cd U (λc2=>?_)<|λc2=>?_;refine sr<|asg U<|nn<|rt<|rb<|tr<|tr<|rb<|tr<|r1 U ?_;exact⟨_,rfl,congrArg Value.bool (decide_eq_false<|λe=>c2 t15).symm,(q1.n1 D)⟩;refine sk<|bn'<|tn<|rg<|mv U<|ad6 U<|asg U<|nl ?_;exact lpE (i+1) U ⟨(q1.n1 D),⟨oo,λj h=>by
  by_cases e:j=i;subst e;exact l15.1 c2;exact hz j oo⟩⟩ oo
 obtain rfl:i=l1.length:=by omega
 refine ex<|te<|te<|xh<|tn<|sr<|asg U<|nn<|rt<|r1 U ?_;exact⟨_,rfl,congrArg Value.bool (decide_eq_true<|y8k id0 oo<|λj hj=>hz j oo).symm,q1⟩
theorem bo24:BuildAt prog 24 [(0,1),(1,1)] [(.slice none 0 0),(.slice none 0 0)]:=BuildAt.struct underlying24 (λ_=>kr)<|λ_=>kr
theorem v9p:CallOf prog 12:=cO
theorem k7r:CallOf prog 33:=cO
theorem k9i:ElemOf prog 90 89 q0c 24:=ElemOf.mk' (z:=(.slice none 0 0)) underlying90 kr U
theorem el91:ElemOf prog 91 58 q1o 24:=ElemOf.mk' (z:=(.slice none 0 0)) underlying91 kr U
theorem na89:z2e prog 89:=λ_=>kr
set_option maxRecDepth 10000 in
theorem y9v (w0:World)(hG:Glob w0)(a4:StT w0):Rets prog 13 #[] w0 λr w'=>r=.bool true/\Fr [] w0 w':=by
 have R8:=hG.sz;refine wf func13 U ?_;have r7:=hG;have i5:=a4;refine sr<|asg U<|nn<|sr<|z1i ([0,1,2]) (ev3 U) U y5c<|λR4 w1 D7 G2 q1 z1=>?_;refine z1r (cs:=[_,_]) (ev1 U) bo24 (z0g U z0r) U ?_;have a4:=i5.ext q1;refine cl (ev1 U) cO (x0f _ _ [0,1,2] none 0 0 _ G2.sl a4) ?_;rintro _ w2 ⟨⟨s,rfl,C6,I6⟩,q2⟩;have a3:=C6.at;clear C6;have z2:=q2.size;have i4:=a3;obtain⟨p,hp,J6,J0,l5,J1⟩:=k7e;have hP:=I6 p (by rw[show (([0,1,2]:List UInt8).map λb=>(b.toNat:Int))=[0,1,2] from by decide,k5x];exact hp);have hh:s.fb.hs=[xa,xb,xc]:=hP.hsE.trans J6;have U1:s.fb.h.2.1=3:=by rw[z2f a3.f.h,hh];rfl
 have Q2:s.fb.hs.length=3:=by rw[hh];rfl
 have k6:(s.fb.hs.getD 0 id0)=xa:=by rw[hh];rfl
 have x6:(s.fb.hs.getD 1 id0)=xb:=by rw[hh];rfl
 have n8:(s.fb.hs.getD 2 id0)=xc:=by rw[hh];rfl
 refine al y5r U<|λg1 w3 J2 d1 q3 z3=>?_;refine z0j (vs:=[_,_,_,_,_,_,_,_]) U d1 z9q (λw4 d1 q4 z4=>?_) (h1:=t41);have k0:=d1;refine nn<|sq<|sr<|fad U z6b<|y8g U z8a U<|z0i U d1 U z6k<|lnS U<|ne' U<|nn<|cd U (λc0=>?_)<|λc0=>?_;exfalso;omega;refine sk<|tn<|jn (ι:=Nat×Nat×Nat) (ll1 1) (λz_=>[(2,pta z_.1),(3,pta z_.2.1),(4,pta z_.2.2)]) (λz_ w'=>Fr [] w4 w'/\Blk w' z_.1 54 [.int .u8 (s.fb.hs.getD 0 id0).y,.int .i64 (s.fb.hs.getD 0 id0).n]/\Blk w' z_.2.1 54 [.int .u8 (s.fb.hs.getD 1 id0).y,.int .i64 (s.fb.hs.getD 1 id0).n]/\Blk w' z_.2.2 54 [.int .u8 (s.fb.hs.getD 2 id0).y,.int .i64 (s.fb.hs.getD 2 id0).n]) U ?_ ?_;have a3:=i4.ext<|q3.z1 q4;intro a h;refine rgh none (Fr []) ?_;intro w5 q5 hC;have z5:=q5.size;have a3:=a3.ext q5;have d1:=d1.ext q5;have b6:=a3;have b2:=d1;refine y3c (ι:=Nat×Nat×Nat) h (ll2 1 27) U #[true,true,true,true,true,true,true,true,true,true,true,true,true,true,true,true,true,true,false,false,false] 3 (λp_=>[(2,pta p_.1),(3,pta p_.2.1),(4,pta p_.2.2),(32,ivv<|s.fb.hs.getD 0 id0),(37,ivv<|s.fb.hs.getD 1 id0),(42,ivv<|s.fb.hs.getD 2 id0)]) (λp_ w'=>Fr [] w5 w'/\(w5.heap.size<=p_.1/\w5.heap.size<=p_.2.1/\w5.heap.size<=p_.2.2/\p_.1≠p_.2.1/\p_.1≠p_.2.2/\p_.2.1≠p_.2.2)/\Blk w' p_.1 54 [.int .u8 0,.int .i64 0]/\Blk w' p_.2.1 54 [.int .u8 0,.int .i64 0]/\Blk w' p_.2.2 54 [.int .u8 0,.int .i64 0]) (λe8=>?_) ?_;refine z0c 0 h U z6b U λa h=>z4r 1 h U z8a U λa h=>z0m 2 h U (fx b2.ext) U z6k U λa h=>z1d (p:=0) (id0) 3 h U a3.f.h U z4m U ?_ (hp:=rfl);intro P2 D0 a h;refine z1z 4 h wn U (λ_ hw=>D0 _<|b6.f.h.ext hw) z2y U λa h=>z0c 5 h U z6b U λa h=>z4r 6 h U z8a U λa h=>z0m 7 h U (fx b2.ext) U z6k U λa h=>z1d (p:=1) (id0) 8 h U a3.f.h U z4m U ?_ (hp:=rfl);intro P3 D1 a h;refine z1z 9 h wn U (λ_ hw=>D1 _<|b6.f.h.ext hw) z2y U λa h=>z0c 10 h U z6b U λa h=>z4r 11 h U z8a U λa h=>z0m 12 h U (fx b2.ext) U z6k U λa h=>z1d (p:=2) (id0) 13 h U a3.f.h U z4m U ?_ (hp:=rfl);intro P4 D2 a h;refine z1z 14 h wn U (λ_ hw=>D2 _<|b6.f.h.ext hw) z2y U λa h=>x2j 15 16 17 kr U U U ?_ ?_ ?_;refine z0u h z9l U λw6 I q6 hz a h=>?_;obtain⟨a8,hg⟩:∃g,g=w5.heap.size:=⟨_,rfl⟩;rw[<-hg]at I h hz;have z6:=q6.size;have hC:=hC.next q6;refine z0b<|z1v 16 17 kr U ?_ ?_;refine z0u h z9l U λw7 O q7 hz a h=>?_;obtain⟨a9,hg⟩:∃g,g=w6.heap.size:=⟨_,rfl⟩;rw[<-hg]at O h hz;have i9:a8<a9:=by have:=I.lt;omega
 have z7:=q7.size;have I:=I.ext q7;have hC:=hC.next q7;refine z0b<|z0d 17 U<|z0u h z9l U λw8 Z q8 hz a h=>?_;obtain⟨b0,hg⟩:∃g,g=w7.heap.size:=⟨_,rfl⟩;rw[<-hg]at Z h hz;have j0:a8<b0:=by have:=I.lt;omega
 have j2:a9<b0:=by have:=O.lt;omega
 have z8:=q8.size;have I:=I.ext q8;have O:=O.ext q8;have hC:=hC.next q8;exact z0b<|e8 (a8,a9,b0) _ _ _ kr (h.sub<|U) ⟨hC,⟨sm,sm,sm,sm,sm,sm⟩,I,O,Z⟩;refine z0u h z9l U λw9 Z q9 hz a h=>?_;obtain⟨b0,hg⟩:∃g,g=w6.heap.size:=⟨_,rfl⟩;rw[<-hg]at Z h hz;have j0:a8<b0:=by have:=I.lt;omega
 have z9:=q9.size;have I:=I.ext q9;have hC:=hC.next q9;refine z0b<|z0d 16 U<|z0u h z9l U λU5 O s1 hz a h=>?_;obtain⟨a9,hg⟩:∃g,g=w9.heap.size:=⟨_,rfl⟩;rw[<-hg]at O h hz;have i9:a8<a9:=by have:=I.lt;omega
 have j4:b0<a9:=by have:=Z.lt;omega
 have L8:=s1.size;have I:=I.ext s1;have Z:=Z.ext s1;have hC:=hC.next s1;exact z0b<|e8 (a8,a9,b0) _ _ _ kr (h.sub<|U) ⟨hC,⟨sm,sm,sm,sm,sm,sm⟩,I,O,Z⟩;refine z0u h z9l U λH5 O G7 hz a h=>?_;obtain⟨a9,hg⟩:∃g,g=w5.heap.size:=⟨_,rfl⟩;rw[<-hg]at O h hz;have L9:=G7.size;have hC:=hC.next G7;refine z0b<|z1v 15 17 kr U ?_ ?_;refine z0u h z9l U λK1 I y5 hz a h=>?_;obtain⟨a8,hg⟩:∃g,g=H5.heap.size:=⟨_,rfl⟩;rw[<-hg]at I h hz;have j1:a9<a8:=by have:=O.lt;omega
 have M0:=y5.size;have O:=O.ext y5;have hC:=hC.next y5;refine z0b<|z0d 17 U<|z0u h z9l U λU6 Z s2 hz a h=>?_;obtain⟨b0,hg⟩:∃g,g=K1.heap.size:=⟨_,rfl⟩;rw[<-hg]at Z h hz;have j2:a9<b0:=by have:=O.lt;omega
 have j0:a8<b0:=by have:=I.lt;omega
 have M1:=s2.size;have O:=O.ext s2;have I:=I.ext s2;have hC:=hC.next s2;exact z0b<|e8 (a8,a9,b0) _ _ _ kr (h.sub<|U) ⟨hC,⟨sm,sm,sm,sm,sm,sm⟩,I,O,Z⟩;refine z0u h z9l U λK2 Z y6 hz a h=>?_;obtain⟨b0,hg⟩:∃g,g=H5.heap.size:=⟨_,rfl⟩;rw[<-hg]at Z h hz;have j2:a9<b0:=by have:=O.lt;omega
 have M2:=y6.size;have O:=O.ext y6;have hC:=hC.next y6;refine z0b<|z0d 15 U<|z0u h z9l U λU7 I s3 hz a h=>?_;obtain⟨a8,hg⟩:∃g,g=K2.heap.size:=⟨_,rfl⟩;rw[<-hg]at I h hz;have j1:a9<a8:=by have:=O.lt;omega
 have j3:b0<a8:=by have:=Z.lt;omega
 have M3:=s3.size;have O:=O.ext s3;have Z:=Z.ext s3;have hC:=hC.next s3;exact z0b<|e8 (a8,a9,b0) _ _ _ kr (h.sub<|U) ⟨hC,⟨sm,sm,sm,sm,sm,sm⟩,I,O,Z⟩;refine z0u h z9l U λH6 Z G8 hz a h=>?_;obtain⟨b0,hg⟩:∃g,g=w5.heap.size:=⟨_,rfl⟩;rw[<-hg]at Z h hz;have M4:=G8.size;have hC:=hC.next G8;refine z0b<|z1v 15 16 kr U ?_ ?_;refine z0u h z9l U λK3 I y7 hz a h=>?_;obtain⟨a8,hg⟩:∃g,g=H6.heap.size:=⟨_,rfl⟩;rw[<-hg]at I h hz;have j3:b0<a8:=by have:=Z.lt;omega
 have M5:=y7.size;have Z:=Z.ext y7;have hC:=hC.next y7;refine z0b<|z0d 16 U<|z0u h z9l U λU8 O s4 hz a h=>?_;obtain⟨a9,hg⟩:∃g,g=K3.heap.size:=⟨_,rfl⟩;rw[<-hg]at O h hz;have j4:b0<a9:=by have:=Z.lt;omega
 have i9:a8<a9:=by have:=I.lt;omega
 have M6:=s4.size;have Z:=Z.ext s4;have I:=I.ext s4;have hC:=hC.next s4;exact z0b<|e8 (a8,a9,b0) _ _ _ kr (h.sub<|U) ⟨hC,⟨sm,sm,sm,sm,sm,sm⟩,I,O,Z⟩;refine z0u h z9l U λK4 O y8 hz a h=>?_;obtain⟨a9,hg⟩:∃g,g=H6.heap.size:=⟨_,rfl⟩;rw[<-hg]at O h hz;have j4:b0<a9:=by have:=Z.lt;omega
 have M7:=y8.size;have Z:=Z.ext y8;have hC:=hC.next y8;refine z0b<|z0d 15 U<|z0u h z9l U λU9 I s5 hz a h=>?_;obtain⟨a8,hg⟩:∃g,g=K4.heap.size:=⟨_,rfl⟩;rw[<-hg]at I h hz;have j3:b0<a8:=by have:=Z.lt;omega
 have j1:a9<a8:=by have:=O.lt;omega
 have M8:=s5.size;have Z:=Z.ext s5;have O:=O.ext s5;have hC:=hC.next s5;exact z0b<|e8 (a8,a9,b0) _ _ _ kr (h.sub<|U) ⟨hC,⟨sm,sm,sm,sm,sm,sm⟩,I,O,Z⟩;rintro⟨a8,a9,b0⟩ a V0 ⟨hC,⟨J8,J9,K0,G4,G5,G6⟩,I,O,Z⟩ h;simp only at J8 J9 K0 G4 G5 G6 I O Z;have G9:=hC;have M9:=G9.size;have S7:=I.lt;have S8:=O.lt;have S9:=Z.lt;refine z0d 18 U<|z0t h U I U y1b ?_ (h1:=t41);intro K5 b3 p5 hz a h;have N0:=p5.size;have O:=O.fr p5;have Z:=Z.fr p5;have hC:=hC.sp p5;have I:Blk K5 a8 _ [_,_]:=b3;clear b3;refine z0b<|z0d 19 U<|z0t h U O U y1b ?_ (h1:=t41);intro K6 b3 p6 hz a h;have N1:=p6.size;have I:=I.fr p6;have Z:=Z.fr p6;have hC:=hC.sp p6;have O:Blk K6 a9 _ [_,_]:=b3;clear b3;refine z0b<|z0d 20 U<|z0t h U Z U y1b ?_ (h1:=t41);intro K7 b3 p7 hz a h;have N2:=p7.size;have I:=I.fr p7;have O:=O.fr p7;have hC:=hC.sp p7;have Z:Blk K7 b0 _ [_,_]:=b3;clear b3;refine z0b<|z0q ?_;clear hC b6 b2;exact xB (ll4 1 2 3 4) h U<|jE ((a8,a9,b0)) U ⟨(q5.z4 G9 p5 p6 p7),⟨I,O,Z⟩⟩;rintro⟨g2,g3,g4⟩ V1 ⟨l7,⟨I,O,Z⟩⟩;have N3:=l7.size;have I1:=I.lt;have I2:=O.lt;have I3:=Z.lt;simp only at I O Z;refine kpC [(1,_),(2,pta g2),(3,pta g3),(4,pta g4)] U<|sr<|z1i ([[120,102,101,114,32,102,49,48],[114,97,99,107,32,49],[114,97,99,107,32,48],[120,102,101,114,32,98,49,48]]) (ev4 U) U y5a<|λB0 V2 D8 n9 k1 N4=>(z1i ([[120,102,101,114,32,102,49,48],[114,97,99,107,32,50],[120,102,101,114,32,98,49,48],[114,97,99,107,32,48]]) (ev4 U) U y5a<|λB1 V3 D9 o0 j5 N5=>(z1i ([[120,102,101,114,32,102,49,48],[114,97,99,107,32,51],[120,102,101,114,32,98,49,48],[114,97,99,107,32,48]]) (ev4 U) U y5a<|λB2 V4 E0 o1 i0 N6=>(z1i ([[120,102,101,114,32,102,49,49],[114,97,99,107,32,45,49],[120,102,101,114,32,98,49,49],[114,97,99,107,32,48]]) (ev4 U) U y5a<|λB3 V5 E1 o2 h3 N7=>(z1i ([[120,102,101,114,32,102,49,49],[114,97,99,107,32,45,49],[114,97,99,107,32,48],[120,102,101,114,32,98,49,49]]) (ev4 U) U y5a<|λB4 V6 E2 o3 f6 N8=>?_))));refine z1i ([((some ⟨B0,0,none⟩,4,4),[[120,102,101,114,32,102,49,48],[114,97,99,107,32,49],[114,97,99,107,32,48],[120,102,101,114,32,98,49,48]]),((some ⟨B1,0,none⟩,4,4),[[120,102,101,114,32,102,49,48],[114,97,99,107,32,50],[120,102,101,114,32,98,49,48],[114,97,99,107,32,48]]),((some ⟨B2,0,none⟩,4,4),[[120,102,101,114,32,102,49,48],[114,97,99,107,32,51],[120,102,101,114,32,98,49,48],[114,97,99,107,32,48]]),((some ⟨B3,0,none⟩,4,4),[[120,102,101,114,32,102,49,49],[114,97,99,107,32,45,49],[120,102,101,114,32,98,49,49],[114,97,99,107,32,48]]),((some ⟨B4,0,none⟩,4,4),[[120,102,101,114,32,102,49,49],[114,97,99,107,32,45,49],[114,97,99,107,32,48],[120,102,101,114,32,98,49,49]])]) (z0a U<|z0a U<|z0a U<|z0a U<|z0a U z0f) U k9i<|λR5 K8 E3 u5 f1 N9=>(asg U ?_);have n9:=n9.ext<|j5.n4 i0 h3 f6 f1;have o0:=o0.ext<|i0.n3 h3 f6 f1;have o1:=o1.ext<|h3.n2 f6 f1;have o2:=o2.ext<|f6.n1 f1;have o3:=o3.ext f1;obtain⟨m3,l2⟩:∃L:List (SQ<|List UInt8),L=[((some ⟨B0,0,none⟩,4,4),[[120,102,101,114,32,102,49,48],[114,97,99,107,32,49],[114,97,99,107,32,48],[120,102,101,114,32,98,49,48]]),((some ⟨B1,0,none⟩,4,4),[[120,102,101,114,32,102,49,48],[114,97,99,107,32,50],[120,102,101,114,32,98,49,48],[114,97,99,107,32,48]]),((some ⟨B2,0,none⟩,4,4),[[120,102,101,114,32,102,49,48],[114,97,99,107,32,51],[120,102,101,114,32,98,49,48],[114,97,99,107,32,48]]),((some ⟨B3,0,none⟩,4,4),[[120,102,101,114,32,102,49,49],[114,97,99,107,32,45,49],[120,102,101,114,32,98,49,49],[114,97,99,107,32,48]]),((some ⟨B4,0,none⟩,4,4),[[120,102,101,114,32,102,49,49],[114,97,99,107,32,45,49],[114,97,99,107,32,48],[120,102,101,114,32,98,49,49]])]:=⟨_,rfl⟩;rw[<-l2]at u5;have l6:QAt Enc.str K8 m3:=by rw[l2];exact QAt.five n9.sl o0.sl o1.sl o2.sl o3.sl
 have j9:=u5.sl;have T3:m3.length=5:=by rw[l2];rfl
 have I9:∀i,i<5->(m3.getD i sqs).2=exT.getD i []/\(m3.getD i sqs).1.2.1=4:=by
  rw[l2];intro i hi;rcases(show i=0\/i=1\/i=2\/i=3\/i=4 by omega) with rfl|rfl|rfl|rfl|rfl<;>exact⟨rfl,rfl⟩
 have m5:=l6;have m7:=j9;refine kpL (ll5 1 2 3 4 5) U<|nn<|sr<|z1i ([]) z0f U y1e<|λB5 V7 E4 o4 i1 O0=>(z1i ([-1]) (ev1 U) U y1e<|λB6 V8 E5 o5 h5 O1=>(z1i ([-1,-2]) (ev2 U) U y1e<|λB7 V9 E6 o6 f7 O2=>(z1i ([1]) (ev1 U) U y1e<|λB8 W0 E7 o7 f2 O3=>(z1i ([1,-1]) (ev2 U) U y1e<|λB9 W1 E8 o8 e4 O4=>(z1i ([((some ⟨B5,0,none⟩,0,0),[]),((some ⟨B6,0,none⟩,1,1),[-1]),((some ⟨B7,0,none⟩,2,2),[-1,-2]),((some ⟨B8,0,none⟩,1,1),[1]),((some ⟨B9,0,none⟩,2,2),[1,-1])]) (z0a U<|z0a U<|z0a U<|z0a U<|z0a U z0f) U el91<|λR6 K9 E9 u6 e0 O5=>?_)))));refine asg U ?_;have o4:=o4.ext<|h5.n4 f7 f2 e4 e0;have o5:=o5.ext<|f7.n3 f2 e4 e0;have o6:=o6.ext<|f2.n2 e4 e0;have o7:=o7.ext<|e4.n1 e0;have o8:=o8.ext e0;obtain⟨r5,l3⟩:∃L:List (SQ Int),L=[((some ⟨B5,0,none⟩,0,0),[]),((some ⟨B6,0,none⟩,1,1),[-1]),((some ⟨B7,0,none⟩,2,2),[-1,-2]),((some ⟨B8,0,none⟩,1,1),[1]),((some ⟨B9,0,none⟩,2,2),[1,-1])]:=⟨_,rfl⟩;rw[<-l3]at u6;have h8:QAt Enc.i64 K9 r5:=by rw[l3];exact QAt.five o4.sl o5.sl o6.sl o7.sl o8.sl
 have h9:=u6.sl;have T4:r5.length=5:=by rw[l3];rfl
 have y1:∀i,i<5->(r5.getD i sqi).2=exW.getD i []:=by
  rw[l3];intro i hi;rcases(show i=0\/i=1\/i=2\/i=3\/i=4 by omega) with rfl|rfl|rfl|rfl|rfl<;>rfl
 have m6:=h8;have m8:=h9;refine kpL (ll6 1 2 3 4 5 6) U<|nn<|sr ?_;have I:=I.ext<|(((k1.n6 j5 i0 h3 f6 f1 i1).n1 h5).n1 f7).n3 f2 e4 e0;refine z0l U I z2y ?_;have O:=O.ext<|(((k1.n6 j5 i0 h3 f6 f1 i1).n1 h5).n1 f7).n3 f2 e4 e0;refine z0l U O z2y ?_;have Z:=Z.ext<|(((k1.n6 j5 i0 h3 f6 f1 i1).n1 h5).n1 f7).n3 f2 e4 e0;refine z0l U Z z2y<|z1i ([(s.fb.hs.getD 0 id0),(s.fb.hs.getD 1 id0),(s.fb.hs.getD 2 id0)]) (ev3 U) U z4m<|λC0 W2 F0 o9 f8 O6=>?_;have O:=O.ext f8;refine z0l U O z2y ?_;have I:=I.ext f8;refine z0l U I z2y ?_;have Z:=Z.ext f8;refine z0l U Z z2y<|z1i ([(s.fb.hs.getD 1 id0),(s.fb.hs.getD 0 id0),(s.fb.hs.getD 2 id0)]) (ev3 U) U z4m<|λC1 W3 F1 p0 f3 O7=>?_;have O:=O.ext f3;refine z0l U O z2y ?_;have Z:=Z.ext f3;refine z0l U Z z2y ?_;have I:=I.ext f3;refine z0l U I z2y<|z1i ([(s.fb.hs.getD 1 id0),(s.fb.hs.getD 2 id0),(s.fb.hs.getD 0 id0)]) (ev3 U) U z4m<|λC2 W4 F2 p1 e5 O8=>?_;have O:=O.ext e5;refine z0l U O z2y ?_;have I:=I.ext e5;refine z0l U I z2y ?_;have Z:=Z.ext e5;refine z0l U Z z2y<|z1i ([(s.fb.hs.getD 1 id0),(s.fb.hs.getD 0 id0),(s.fb.hs.getD 2 id0)]) (ev3 U) U z4m<|λC3 W5 F3 p3 e3 O9=>?_;have I:=I.ext e3;refine z0l U I z2y ?_;have O:=O.ext e3;refine z0l U O z2y ?_;have Z:=Z.ext e3;refine z0l U Z z2y<|z1i ([(s.fb.hs.getD 0 id0),(s.fb.hs.getD 1 id0),(s.fb.hs.getD 2 id0)]) (ev3 U) U z4m<|λC4 W6 F5 p4 d6 P0=>(z1i ([((some ⟨C0,0,none⟩,3,3),[(s.fb.hs.getD 0 id0),(s.fb.hs.getD 1 id0),(s.fb.hs.getD 2 id0)]),((some ⟨C1,0,none⟩,3,3),[(s.fb.hs.getD 1 id0),(s.fb.hs.getD 0 id0),(s.fb.hs.getD 2 id0)]),((some ⟨C2,0,none⟩,3,3),[(s.fb.hs.getD 1 id0),(s.fb.hs.getD 2 id0),(s.fb.hs.getD 0 id0)]),((some ⟨C3,0,none⟩,3,3),[(s.fb.hs.getD 1 id0),(s.fb.hs.getD 0 id0),(s.fb.hs.getD 2 id0)]),((some ⟨C4,0,none⟩,3,3),[(s.fb.hs.getD 0 id0),(s.fb.hs.getD 1 id0),(s.fb.hs.getD 2 id0)])]) (z0a U<|z0a U<|z0a U<|z0a U<|z0a U z0f) U y4d<|λR7 A3 F6 u7 d3 P1=>(asg U ?_));have o9:=o9.ext<|f3.n4 e5 e3 d6 d3;have p0:=p0.ext<|e5.n3 e3 d6 d3;have p1:=p1.ext<|e3.n2 d6 d3;have p3:=p3.ext<|d6.n1 d3;have p4:=p4.ext d3;obtain⟨m4,l4⟩:∃L:List IQ,L=[((some ⟨C0,0,none⟩,3,3),[(s.fb.hs.getD 0 id0),(s.fb.hs.getD 1 id0),(s.fb.hs.getD 2 id0)]),((some ⟨C1,0,none⟩,3,3),[(s.fb.hs.getD 1 id0),(s.fb.hs.getD 0 id0),(s.fb.hs.getD 2 id0)]),((some ⟨C2,0,none⟩,3,3),[(s.fb.hs.getD 1 id0),(s.fb.hs.getD 2 id0),(s.fb.hs.getD 0 id0)]),((some ⟨C3,0,none⟩,3,3),[(s.fb.hs.getD 1 id0),(s.fb.hs.getD 0 id0),(s.fb.hs.getD 2 id0)]),((some ⟨C4,0,none⟩,3,3),[(s.fb.hs.getD 0 id0),(s.fb.hs.getD 1 id0),(s.fb.hs.getD 2 id0)])]:=⟨_,rfl⟩;rw[<-l4]at u7;have g9:QAt z1h A3 m4:=by rw[l4];exact QAt.five o9.sl p0.sl p1.sl p3.sl p4.sl
 have h0:=u7.sl;have T5:m4.length=5:=by rw[l4];rfl
 have D3:∀i,i<5->(m4.getD i iq0).2=exH.getD i []:=by
  rw[l4];intro i hi;rcases(show i=0\/i=1\/i=2\/i=3\/i=4 by omega) with rfl|rfl|rfl|rfl|rfl<;>(rw[k6,x6,n8];rfl)
 have u2:=g9;have u3:=h0;refine kpL (ll7 1 2 3 4 5 6 7) U<|nn<|sq<|sr<|asg U ?_;have hG:=r7.ext<|(((((((((((q1.z6 q2 q3 q4 l7 k1 j5).n1 i0).n1 h3).n6 f6 f1 i1 h5 f7 f2).next e4).next e0).next f8).next f3).next e5).next e3).next d6).next d3;have a4:=i5.ext<|(((((((((((q1.z6 q2 q3 q4 l7 k1 j5).n1 i0).n1 h3).n6 f6 f1 i1 h5 f7 f2).next e4).next e0).next f8).next f3).next e5).next e3).next d6).next d3;have a3:=i4.ext<|(((((((((q3.z6 q4 l7 k1 j5 i0 h3).n1 f6).n1 f1).n6 i1 h5 f7 f2 e4 e0).next f8).next f3).next e5).next e3).next d6).next d3;have d1:=k0.ext<|(((((((l7.n6 k1 j5 i0 h3 f6 f1).n1 i1).n1 h5).n6 f7 f2 e4 e0 f8 f3).next e5).next e3).next d6).next d3;have I:=I.ext<|d6.n1 d3;have O:=O.ext<|d6.n1 d3;have Z:=Z.ext<|d6.n1 d3;have l6:=m5.ext<|(((i1.n6 h5 f7 f2 e4 e0 f8).n1 f3).n1 e5).n3 e3 d6 d3;have j9:=m7.ext<|(((i1.n6 h5 f7 f2 e4 e0 f8).n1 f3).n1 e5).n3 e3 d6 d3;have h8:=m6.ext<|f8.n5 f3 e5 e3 d6 d3;have h9:=m8.ext<|f8.n5 f3 e5 e3 d6 d3;have u9:Fr [] w0 A3:=((((((((((((q1.z6 q2 q3 q4 l7 k1 j5).n1 i0).n1 h3).n6 f6 f1 i1 h5 f7 f2).next e4).next e0).next f8).next f3).next e5).next e3).next d6).next d3);have r7:=hG;have i5:=a4;have i4:=a3;have k0:=d1;have C7:=I;have C8:=O;have C9:=Z;have m5:=l6;have m7:=j9;have m6:=h8;have m8:=h9;have u2:=g9;have u3:=h0;have Q7:=u9.size;refine nn<|bl<|lpK (ι:=Nat) (ll7 1 2 3 4 5 6 7) (λi=>[(8,.int .i64 (i:Int))]) (λi w'=>Fr [] A3 w'/\i<=5) (λi=>5-i) 0 U ⟨l12 _ _,l16 _⟩ ?_;rintro i H7 ⟨a6,Q3⟩;have z44:=a6.size;refine kpC (ll8 1 2 3 4 5 6 7 8) U<|sq<|sr<|mv U<|mv U<|lnS U<|lt' U<|nn<|cd U (λc1=>?_)<|λc1=>?_;have i8:i<5:=by omega
 obtain⟨J7,U3,G3⟩:=k3g i i8;obtain⟨y4,T7⟩:=I9 i i8;have T8:(m3.getD i sqs).2.length=4:=by rw[y4];exact J7
 have T9:=y1 i i8;have U0:=D3 i i8;refine sk<|tn<|sq<|bl<|sr<|asg U<|nn<|sq<|sr<|asg U ?_;obtain⟨bK,R9⟩:∃b:Nat,b=H7.heap.size:=⟨_,rfl⟩;refine nn<|bl<|lpK (ι:=Nat×Value) (ll8 1 2 3 4 5 6 7 8) (λp_=>[(10,.int .i64 (p_.1:Int)),(9,p_.2)]) (λp_ w'=>Fr [] H7 w'/\p_.1<=4/\Lw.Own z3c 50 bK w' p_.2 ((exP.getD i []).take p_.1)) (λp_=>4-p_.1) (0,_) U ⟨l12 _ _,⟨l16 _,by rw[l90];exact Own.nil _⟩⟩ ?_;rintro⟨k,vP⟩ W7 ⟨b4,⟨G1,ho⟩⟩;simp only at G1 ho;have z45:=b4.size;refine kpC [(1,_),(2,_),(3,_),(4,_),(5,_),(6,_),(7,_),(8,_),(10,.int .i64 (k:Int)),(9,vP)] U<|sq<|sr<|mv U<|mv U<|mv U ?_;have j9:=m7.ext<|a6.n1 b4;refine z1a (p:=i) (sqs) U j9 U k9i oo<|λP5 D4=>(z1c U (D4 _ j9) na89<|lnS U<|lt' U<|kpL (ll11 1 2 3 4 5 6 7 8 9 10 88) U<|nn<|cd U (λc2=>?_)<|λc2=>?_);have G0:k<4:=by omega
 refine sk<|tn<|sq<|bl<|rg<|mv U<|mv U<|mv U<|z1a (p:=i) (sqs) U j9 U k9i oo<|λP6 D5=>(z1c U (D5 _ j9) na89<|mv U ?_);have l6:=m5.ext<|a6.n1 b4;refine z1a (p:=k) ([]) U (l6.get (d:=sqs) oo) U y5a oo<|λP7 D6=>(z1c U (D6 _<|l6.get (d:=sqs) oo) na9 ?_);have hG:=r7.ext<|a6.n1 b4;refine cl (ev1 U) cO (x9h _ ((exP.getD i []).getD k op0) 0 _ hG (by rw[y4];exact(G3 k G0).1) (by rw[y4];have:=(G3 k G0).2;omega)) ?_;rintro _ W8 ⟨rfl,y9⟩;have z46:=y9.size;refine z1i ([(exP.getD i []).getD k op0]) (ev1 U) U y2n<|λP8 W9 J3 y2 H0 z47=>?_;have ho:=ho.ext<|y9.n1 H0;have r9:=ho;refine z2l U ho y2.sl y2n (λQ5 X0 ho H1 I0=>?_) (hM:=(by unfold maxLen;simp only[l27,l34,l52];omega)) (hb:=(by simp only[l27,l34,l52];omega));have z48:=H1.size;exact asg U<|kpL (ll10 1 2 3 4 5 6 7 8 9 10) U<|nl<|bn'<|tn<|rg<|mv U<|ad6 U<|asg U<|nl<|lpE ((k+1,_)) U ⟨((b4.n2 y9 H0).step H1<|λk hk T6=>absurd (r9.blk k hk).1 oo),⟨sm,by rw[z5p op0 oo];exact ho⟩⟩ sm;obtain rfl:k=4:=by omega
 rw[l86 oo]at ho;obtain⟨A9,c9,rfl,S0⟩:=ho.sl.form;refine ex<|te<|te<|xh<|tn<|sr ?_;have d1:=k0.ext<|a6.n1 b4;refine z0l U d1 z8i<|mv U ?_;have a3:=i4.ext<|a6.n1 b4;have a4:=i5.ext<|a6.n1 b4;refine cl (ev2 U) v9p (z5n s p 50 _ (exP.getD i []) _ a3 hP oo ho.sl a4) ?_;rintro _ X1 ⟨⟨Q8,ws,h7,R0,rfl,hB⟩,q49⟩;obtain⟨qi,I8,J5,F8,F9⟩:=J1 i i8;obtain⟨rfl,rfl,f4⟩:=hB.ok _ _ I8;have a2:=hB.k.at;have f5:=hB.o.sl;obtain⟨⟨hf,hb⟩,h4,r6⟩:=z3f (show BdOk h7.q.p from f4.BE▸f4.v.inv.B);have F7:h7.fb.hs=(m4.getD i iq0).2:=by rw[D3 i i8,<-J5];exact f4.hsE
 have Q4:=f4.hl;have U2:=k2x i i8;have z49:=q49.size;have x4:=a2;have x5:=f5;refine mv U<|xt U<|xt U<|xt U<|al y5r U<|λR2 X2 Q0 b1 e6 z50=>?_;refine asg U<|z0j (vs:=[_,_,_,_,_,_,_,_]) U b1 z9q (λX3 b1 e7 z51=>?_) (h1:=t41);refine asg U ?_;have I7:=b1;refine kpL (ll11 1 2 3 4 5 6 7 8 11 12 13) U<|nn<|sq<|sq ?_;have h8:=m6.ext<|a6.z4 b4 q49 e6 e7;have h9:=m8.ext<|a6.z4 b4 q49 e6 e7;have g9:=u2.ext<|a6.z4 b4 q49 e6 e7;have h0:=u3.ext<|a6.z4 b4 q49 e6 e7;have a2:=x4.ext<|e6.z1 e7;have f5:=x5.ext<|e6.z1 e7;intro a h;refine rgh none (Fr []) ?_;intro H8 d7 hC;have z52:=d7.size;have h8:=h8.ext d7;have h9:=h9.ext d7;have g9:=g9.ext d7;have h0:=h0.ext d7;have a2:=a2.ext d7;have f5:=f5.ext d7;have b1:=b1.ext d7;have x2:=h8;have m9:=h9;have x3:=g9;have n7:=h0;have b5:=a2;have r8:=f5;have a7:=b1;refine z0e 0 h U λa h=>u3b 1 hC h wn U U U U λa h=>z0e 2 h U λa h=>?_;first|refine z8o (D:=111) h U (λhh=>absurd hh (by exact λh=>h U)) ?_|refine z7k (D:=111) h U (λhh=>absurd hh (by exact λh=>h U)) ?_
 clear h;intro g0 h;refine z0e 3 h U ?_ (hG:=(wy U));intro a h;refine z0e 4 h U ?_ (hG:=(wy U));intro a h;refine z0e 5 h U ?_ (hG:=(wy U));intro a h;refine z1d (p:=i) (sqi) 6 h U h9 U el91 U ?_ (hG:=(wy U));intro I4 x7 a h;refine z2h 7 h U (λ_ hw=>x7 _<|m9.ext hw) k5o U ?_ (hG:=(wy U));intro a h;refine z0d 8 U<|z5a h U U U U<|z0n h (z0a U<|z0a U z0f) cO (v9a _ _ (exW.getD i []) (r5.getD i sqi).2 _ f5 (h8.get (d:=sqi) oo) oo) ?_;rintro _ X4 ⟨rfl,d4⟩ a h;have z53:=d4.size;have g9:=g9.ext d4;have h0:=h0.ext d4;have a2:=a2.ext d4;have hC:=hC.next d4;refine z0b<|y1l 9 hC h (wy U) U U λa h=>z0d 10 U<|z2x h U λa h=>?_;refine z0b<|z0e 11 h U λa h=>?_;first|refine z8o (D:=120) h U (λhh=>absurd hh (by exact λh=>h (y1 i i8).symm)) ?_|refine z7k (D:=120) h U (λhh=>absurd hh (by exact λh=>h (y1 i i8).symm)) ?_
 clear h;intro g1 h;refine z0c 12 h U z6b U ?_ (hG:=(wy U));intro a h;refine z4r 13 h U z8a U ?_ (hG:=(wy U));intro a h;refine z0m 14 h U (fx a7.ext) U z6k U ?_ (hG:=(wy U));intro a h;refine z0e 15 h U ?_ (hG:=(wy U));intro a h;refine z0e 16 h U ?_ (hG:=(wy U));intro a h;refine z1d (p:=i) (iq0) 17 h U h0 U y4d U ?_ (hG:=(wy U));intro I5 x8 a h;refine z2h 18 h U (λ_ hw=>x8 _<|n7.ext hw) z6k U ?_ (hG:=(wy U));intro a h;refine z0d 19 U<|z5a h U U U U<|z0n h (z0a U<|z0a U z0f) k7r (y0s _ _ h7.fb.hs (m4.getD i iq0).2 _ a2.f.h (QAt.get g9 (d:=iq0) oo) oo) ?_;rintro _ X5 ⟨rfl,d5⟩ a h;have z54:=d5.size;have h8:=h8.ext<|d4.n1 d5;have h9:=h9.ext<|d4.n1 d5;have g9:=g9.ext d5;have h0:=h0.ext d5;have a2:=a2.ext d5;have f5:=f5.ext<|d4.n1 d5;have b1:=b1.ext<|d4.n1 d5;have hC:=hC.next d5;refine z0b<|y1l 20 hC h (wy U) U U λa h=>z0d 21 U<|z2x h U λa h=>?_;refine z0b<|z0q ?_;clear hC x2 m9 x3 n7 b5 r8 a7;refine xB (ll10 1 2 3 4 5 6 7 8 12 130) h U<|tn<|cd U (λc3=>?_)<|λc3=>?_;exact absurd F7 c3;refine sk<|tn<|sq ?_;have I:=C7.ext<|(a6.z6 b4 q49 e6 e7 d7 d4).n1 d5;have O:=C8.ext<|(a6.z6 b4 q49 e6 e7 d7 d4).n1 d5;have Z:=C9.ext<|(a6.z6 b4 q49 e6 e7 d7 d4).n1 d5;intro a h;refine rgh none (Fr []) ?_;intro H9 h6 hC;have z55:=h6.size;have I:=I.ext h6;have O:=O.ext h6;have Z:=Z.ext h6;have a2:=a2.ext h6;have b1:=b1.ext h6;have d9:=I;have e9:=O;have f0:=Z;have b5:=a2;have a7:=b1;refine z0e 0 h U λa h=>x5z 1 hC h wn U λa h=>z0e 2 h U λa h=>gSp (D:=133) h U ?_ ?_;intro g2 h;refine z0c 3 h U z7f U ?_ (hG:=(wy U));intro a h;refine z1f (vs:=[_,_]) 4 h U (fx a7.ext) z4y U U ?_ (hG:=(wy U));intro a h;refine z3j (cs:=[_,_]) 5 h (z0a U z0f) y8v (z0g U z0r) U U ?_ (hG:=(wy U));intro a h;refine z0x 7 h U (fx d9.ext) z2y U ?_ (hG:=(wy U));intro a h;refine z0x 8 h U (fx f0.ext) z2y U ?_ (hG:=(wy U));intro a h;refine z1v 6 9 kr U ?_ ?_;refine z5a h U U U U<|z0n h (z0a U<|z0a U z0f) v7c (y5m h7.q 0 12 _ a2.b oo hf hb h4 r6) ?_;rintro H3 X6 ⟨b7,z0⟩ a h;have z56:=z0.size;have hC:=hC.next z0;rw[show h7.q.p.atC 0 12=[xa,xc] from by rw[f4.BE,y0h (show z3m 0 12=0 by decide)];exact F8 t65]at b7;obtain⟨A5,A7,rfl,x9⟩:=b7.sl.form;refine z0b<|z0d 9 U<|z5a h U U U U<|z2p ([(s.fb.hs.getD 0 id0),(s.fb.hs.getD 2 id0)]) h (z0a U<|z0a U z0f) U z4m λx0 X7 hg h2 s6 hz a h=>?_;have z57:=s6.size;have b7:=b7.ext s6;have hC:=hC.next s6;refine z0b<|z0d 10 U<|z5a h U U U U<|z0n h (z0a U<|z0a U z0f) k7r (y0s _ _ [xa,xc] [(s.fb.hs.getD 0 id0),(s.fb.hs.getD 2 id0)] _ b7.sl h2.sl dd) ?_;rintro _ X8 ⟨rfl,A0⟩ a h;have z58:=A0.size;have hC:=hC.next A0;refine z0b<|y1l 11 hC h (wy U) U U λa h=>z0d 12 U<|z4z h U λa h=>?_;refine z0b<|z0e 13 h U λa h=>?_;first|refine z8o (D:=144) h U (λhh=>absurd hh (by exact λh=>h (by rw[k6,n8]))) ?_|refine z7k (D:=144) h U (λhh=>absurd hh (by exact λh=>h (by rw[k6,n8]))) ?_
 clear h;intro g3 h;refine z0e 14 h U ?_ (hG:=(wy U));intro a h;refine x5z 15 hC h (wy U) U λa h=>z0e 16 h U ?_ (hG:=(wy U));intro a h;first|refine z8o (D:=147) h U (λhh=>absurd hh oo) ?_|refine z7k (D:=147) h U (λhh=>absurd hh oo) ?_
 clear h;intro g4 h;refine z1n 17 h U U λa h=>z1n 18 h U U λa h=>z1n 19 h U U λa h=>z1n 20 h U U λa h=>z1n 21 h U U λa h=>z1n 22 h U U λa h=>z1n 23 h U U λa h=>z1n 24 h U U λa h=>z1n 25 h U U λa h=>z0d 26 U<|tW h<|kY U<|pkf U ?_;intro a h;refine z0b<|z0d 27 U<|z2x h U λa h=>?_;refine z0b<|z0q ?_;clear hC d9 e9 f0 b5 a7;exact xB (ll9 1 2 3 4 5 6 7 8 158) h U<|tn<|cf U<|sk<|bn'<|tn<|rg<|mv U<|ad6 U<|asg U<|nl<|lpE ((i+1)) U ⟨((((a6.z6 b4 q49 e6 e7 d7 d4).n1 d5).n1 h6).n3 z0 s6 A0),oo⟩ oo;refine z5a h U U U U<|z2p ([(s.fb.hs.getD 0 id0),(s.fb.hs.getD 2 id0)]) h (z0a U<|z0a U z0f) U z4m λx0 X9 hg h2 s7 hz a h=>?_;have z59:=s7.size;have a2:=a2.ext s7;have hC:=hC.next s7;refine z0b<|z0d 6 U<|z5a h U U U U<|z0n h (z0a U<|z0a U z0f) v7c (y5m h7.q 0 12 _ a2.b oo hf hb h4 r6) ?_;rintro H3 Y0 ⟨b7,s8⟩ a h;have z60:=s8.size;have h2:=h2.ext s8;have hC:=hC.next s8;rw[show h7.q.p.atC 0 12=[xa,xc] from by rw[f4.BE,y0h (show z3m 0 12=0 by decide)];exact F8 t65]at b7;obtain⟨A5,A7,rfl,x9⟩:=b7.sl.form;refine z0b<|z0d 10 U<|z5a h U U U U<|z0n h (z0a U<|z0a U z0f) k7r (y0s _ _ [xa,xc] [(s.fb.hs.getD 0 id0),(s.fb.hs.getD 2 id0)] _ b7.sl h2.sl dd) ?_;rintro _ Y1 ⟨rfl,A1⟩ a h;have z61:=A1.size;have hC:=hC.next A1;refine z0b<|y1l 11 hC h (wy U) U U λa h=>z0d 12 U<|z4z h U λa h=>?_;refine z0b<|z0e 13 h U λa h=>?_;first|refine z8o (D:=144) h U (λhh=>absurd hh (by exact λh=>h (by rw[k6,n8]))) ?_|refine z7k (D:=144) h U (λhh=>absurd hh (by exact λh=>h (by rw[k6,n8]))) ?_
 clear h;intro g5 h;refine z0e 14 h U ?_ (hG:=(wy U));intro a h;refine x5z 15 hC h (wy U) U λa h=>z0e 16 h U ?_ (hG:=(wy U));intro a h;first|refine z8o (D:=147) h U (λhh=>absurd hh oo) ?_|refine z7k (D:=147) h U (λhh=>absurd hh oo) ?_
 clear h;intro g6 h;refine z1n 17 h U U λa h=>z1n 18 h U U λa h=>z1n 19 h U U λa h=>z1n 20 h U U λa h=>z1n 21 h U U λa h=>z1n 22 h U U λa h=>z1n 23 h U U λa h=>z1n 24 h U U λa h=>z1n 25 h U U λa h=>z0d 26 U<|tW h<|kY U<|pkf U ?_;intro a h;refine z0b<|z0d 27 U<|z2x h U λa h=>?_;refine z0b<|z0q ?_;clear hC d9 e9 f0 b5 a7;exact xB (ll9 1 2 3 4 5 6 7 8 158) h U<|tn<|cf U<|sk<|bn'<|tn<|rg<|mv U<|ad6 U<|asg U<|nl<|lpE ((i+1)) U ⟨((((a6.z6 b4 q49 e6 e7 d7 d4).n1 d5).n1 h6).n3 s7 s8 A1),oo⟩ oo;intro g2 h;refine z1n 3 h U U λa h=>z1n 4 h U U λa h=>z1n 5 h U U λa h=>z1n 6 h U U λa h=>z1n 7 h U U λa h=>z1n 8 h U U λa h=>z1n 9 h U U λa h=>z1n 10 h U U λa h=>z1n 11 h U U λa h=>z0d 12 U<|z2x h U λa h=>?_;refine z0b<|z0e 13 h U λa h=>z0e 14 h U ?_ (hG:=(wy U));intro a h;refine x5z 15 hC h (wy U) U λa h=>z0e 16 h U ?_ (hG:=(wy U));intro a h;refine gSp (D:=147) h U ?_ ?_;intro g7 h;refine z0c 17 h U z7f U ?_ (hG:=(wy U));intro a h;refine z1f (vs:=[_,_]) 18 h U (fx a7.ext) z4y U U ?_ (hG:=(wy U));intro a h;refine z3j (cs:=[_,_]) 19 h (z0a U z0f) y8v (z0g U z0r) U U ?_ (hG:=(wy U));intro a h;refine z0x 21 h U (fx e9.ext) z2y U ?_ (hG:=(wy U));intro a h;refine z0x 22 h U (fx d9.ext) z2y U ?_ (hG:=(wy U));intro a h;refine z1v 20 23 kr U ?_ ?_;refine z5a h U U U U<|z0n h (z0a U<|z0a U z0f) v7c (y5m h7.q 0 10 _ a2.b oo hf hb h4 r6) ?_;rintro H4 Y2 ⟨a5,k2⟩ a h;have z62:=k2.size;have hC:=hC.next k2;rw[show h7.q.p.atC 0 10=[xb,xa] from by rw[f4.BE,y0h (show z3m 0 10=0 by decide)];exact F9 t65]at a5;obtain⟨A6,A8,rfl,y0⟩:=a5.sl.form;refine z0b<|z0d 23 U<|z5a h U U U U<|z2p ([(s.fb.hs.getD 1 id0),(s.fb.hs.getD 0 id0)]) h (z0a U<|z0a U z0f) U z4m λx1 Y3 hg b8 j6 hz a h=>?_;have z63:=j6.size;have a5:=a5.ext j6;have hC:=hC.next j6;refine z0b<|z0d 24 U<|z5a h U U U U<|z0n h (z0a U<|z0a U z0f) k7r (y0s _ _ [xb,xa] [(s.fb.hs.getD 1 id0),(s.fb.hs.getD 0 id0)] _ a5.sl b8.sl dd) ?_;rintro _ Y4 ⟨rfl,i2⟩ a h;have z64:=i2.size;have I:=I.ext<|k2.n2 j6 i2;have O:=O.ext<|k2.n2 j6 i2;have Z:=Z.ext<|k2.n2 j6 i2;have a2:=a2.ext<|k2.n2 j6 i2;have b1:=b1.ext<|k2.n2 j6 i2;have a5:=a5.ext i2;have b8:=b8.ext i2;have hC:=hC.next i2;refine z0b<|y1l 25 hC h (wy U) U U λa h=>z0d 26 U<|tW h<|kY U<|pkt U ?_;intro a h;refine z0b<|z0d 27 U<|z2x h U λa h=>?_;refine z0b<|z0q ?_;clear hC d9 e9 f0 b5 a7;refine xB (ll9 1 2 3 4 5 6 7 8 158) h U<|tn<|cd U (λc4=>?_)<|λc4=>?_;exact absurd (by rw[x6,k6]) c4;exact sk<|bn'<|tn<|rg<|mv U<|ad6 U<|asg U<|nl<|lpE ((i+1)) U ⟨((((a6.z6 b4 q49 e6 e7 d7 d4).n1 d5).n1 h6).n3 k2 j6 i2),oo⟩ oo;refine z5a h U U U U<|z2p ([(s.fb.hs.getD 1 id0),(s.fb.hs.getD 0 id0)]) h (z0a U<|z0a U z0f) U z4m λx1 Y5 hg b8 k4 hz a h=>?_;have z65:=k4.size;have a2:=a2.ext k4;have hC:=hC.next k4;refine z0b<|z0d 20 U<|z5a h U U U U<|z0n h (z0a U<|z0a U z0f) v7c (y5m h7.q 0 10 _ a2.b oo hf hb h4 r6) ?_;rintro H4 Y6 ⟨a5,j7⟩ a h;have z66:=j7.size;have b8:=b8.ext j7;have hC:=hC.next j7;rw[show h7.q.p.atC 0 10=[xb,xa] from by rw[f4.BE,y0h (show z3m 0 10=0 by decide)];exact F9 t65]at a5;obtain⟨A6,A8,rfl,y0⟩:=a5.sl.form;refine z0b<|z0d 24 U<|z5a h U U U U<|z0n h (z0a U<|z0a U z0f) k7r (y0s _ _ [xb,xa] [(s.fb.hs.getD 1 id0),(s.fb.hs.getD 0 id0)] _ a5.sl b8.sl dd) ?_;rintro _ Y7 ⟨rfl,i3⟩ a h;have z67:=i3.size;have I:=I.ext<|k4.n2 j7 i3;have O:=O.ext<|k4.n2 j7 i3;have Z:=Z.ext<|k4.n2 j7 i3;have a2:=a2.ext<|j7.n1 i3;have b1:=b1.ext<|k4.n2 j7 i3;have b8:=b8.ext i3;have a5:=a5.ext i3;have hC:=hC.next i3;refine z0b<|y1l 25 hC h (wy U) U U λa h=>z0d 26 U<|tW h<|kY U<|pkt U ?_;intro a h;refine z0b<|z0d 27 U<|z2x h U λa h=>?_;refine z0b<|z0q ?_;clear hC d9 e9 f0 b5 a7;refine xB (ll9 1 2 3 4 5 6 7 8 158) h U<|tn<|cd U (λc4=>?_)<|λc4=>?_;exact absurd (by rw[x6,k6]) c4;exact sk<|bn'<|tn<|rg<|mv U<|ad6 U<|asg U<|nl<|lpE ((i+1)) U ⟨((((a6.z6 b4 q49 e6 e7 d7 d4).n1 d5).n1 h6).n3 k4 j7 i3),oo⟩ oo;intro g7 h;refine z1n 17 h U U λa h=>z1n 18 h U U λa h=>z1n 19 h U U λa h=>z1n 20 h U U λa h=>z1n 21 h U U λa h=>z1n 22 h U U λa h=>z1n 23 h U U λa h=>z1n 24 h U U λa h=>z1n 25 h U U λa h=>z0d 26 U<|tW h<|kY U<|pkf U ?_;intro a h;refine z0b<|z0d 27 U<|z2x h U λa h=>?_;refine z0b<|z0q ?_;clear hC d9 e9 f0 b5 a7;exact xB (ll9 1 2 3 4 5 6 7 8 158) h U<|tn<|cf U<|sk<|bn'<|tn<|rg<|mv U<|ad6 U<|asg U<|nl<|lpE ((i+1)) U ⟨(((a6.z6 b4 q49 e6 e7 d7 d4).n1 d5).n1 h6),oo⟩ oo;refine ex<|te<|te<|xh<|tn<|sr ?_;have d1:=k0.ext a6;refine z0l U d1 z8i<|z1r (cs:=[_,_,_,_,_,_]) (ev2 U) x8f (z0g U<|z0g U z0r) U ?_;refine z1i ([rkP 5]) (ev1 U) U y2n<|λP9 Y8 J4 y3 k9 z68=>?_;have a3:=i4.ext<|a6.n1 k9;have a4:=i5.ext<|a6.n1 k9;refine cl (ev2 U) v9p (z5n s p 50 _ [rkP 5] _ a3 hP t47 y3.sl a4) ?_;rintro _ Y9 ⟨⟨Q9,Q6,U4,R1,rfl,C5⟩,q69⟩;have z69:=q69.size;obtain⟨rfl,rfl,rfl⟩:=C5.er _<|y2q J0 dd;refine mv U<|xt U<|xt U<|xt U<|al y5r U<|λR3 Z0 Q1 u4 p8 z70=>?_;refine asg U<|z0j (vs:=[_,_,_,_,_,_,_,_]) U u4 z9q (λL0 u4 p9 z71=>?_) (h1:=t41);refine asg U<|kpL (ll2 1 16) U<|nn<|jn (ι:=Unit) (ll1 16) (λ_j=>[(19,.int .i64 13)]) (λ_j w'=>Fr [] L0 w'/\True) U ?_ ?_;have hG:=r7.ext<|a6.z4 k9 q69 p8 p9;have a4:=i5.ext<|a6.z4 k9 q69 p8 p9;have a3:=i4.ext<|a6.z4 k9 q69 p8 p9;have d1:=k0.ext<|a6.z4 k9 q69 p8 p9;intro a h;refine rgh none (Fr []) ?_;intro A4 j8 hC;have z72:=j8.size;have hG:=hG.ext j8;have a4:=a4.ext j8;have a3:=a3.ext j8;have d1:=d1.ext j8;have l1:=hG;have i7:=a4;have b6:=a3;have b2:=d1;refine z0x 0 h U (fx b2.ext) z8i U λa h=>z1v 1 8 kr U ?_ ?_;refine z0n h (z0a U z0f) cO (x9h _ (xfP 0 13) 0 _ hG j1u dd) ?_;rintro _ L1 ⟨rfl,k5⟩ a h;have z73:=k5.size;have hG:=hG.ext k5;have a4:=a4.ext k5;have a3:=a3.ext k5;have hC:=hC.next k5;refine z0b<|z1v 2 8 kr U ?_ ?_;refine z2p ([xfP 0 13]) h (z0a U z0f) U y2n λb9 L2 hg a0 l0 hz a h=>?_;have z74:=l0.size;have hG:=hG.ext l0;have a4:=a4.ext l0;have a3:=a3.ext l0;have hC:=hC.next l0;refine z0b<|z1v 3 8 kr U ?_ ?_;refine z0n h (z0a U<|z0a U z0f) v9p (z5n s p 50 _ [xfP 0 13] _ a3 hP t47 a0.sl a4) ?_;rintro _ L3 ⟨⟨v8,r4,A2,v9,rfl,f9⟩,q75⟩ a h;have z75:=q75.size;have a0:=a0.ext q75;have hC:=hC.next q75;obtain⟨rfl,rfl,rfl⟩:=f9.er _<|y2q l5 dd;refine z0b<|z0e 4 h U λa h=>z0k 5 h U λa h=>z0k 6 h U λa h=>z0k 7 h U λa h=>z0d 8 U<|z0u h y5r U λZ1 a1 s9 hz a h=>?_;obtain⟨d0,hg⟩:∃g,g=L3.heap.size:=⟨_,rfl⟩;rw[<-hg]at a1 h hz;have k7:b9<d0:=by have:=(a0.blk b9 t10).2;omega
 have z76:=s9.size;have a0:=a0.ext s9;have hC:=hC.next s9;refine z0b<|z0d 9 U<|z0o h U λa h=>?_;refine z0b<|z0d 10 U<|z0t h U a1 U z9q ?_ (h1:=t41);intro L4 b3 t8 hz a h;have z77:=t8.size;have a0:=a0.fr t8 t28;have hC:=hC.sp t8;have a1:Blk L4 d0 _ [_,_,_,_,_,_,_,_]:=b3;clear b3;refine z0b<|z0d 11 U<|z0o h U λa h=>?_;refine z0b<|z0q ?_;clear hC l1 i7 b6 b2;exact xB (ll2 16 19) h U<|jE (()) U ⟨(j8.z5 k5 l0 q75 s9 t8),trivial⟩;refine z0u h y5r U λZ2 a1 l8 hz a h=>?_;obtain⟨d0,hg⟩:∃g,g=L2.heap.size:=⟨_,rfl⟩;rw[<-hg]at a1 h hz;have k7:b9<d0:=by have:=(a0.blk b9 t10).2;omega
 have z78:=l8.size;have a4:=a4.ext l8;have a3:=a3.ext l8;have a0:=a0.ext l8;have hC:=hC.next l8;refine z0b<|z0d 3 U<|z0n h (z0a U<|z0a U z0f) v9p (z5n s p 50 _ [xfP 0 13] _ a3 hP t47 a0.sl a4) ?_;rintro _ Z3 ⟨⟨v8,r4,A2,v9,rfl,f9⟩,q79⟩ a h;have z79:=q79.size;have a0:=a0.ext q79;have a1:=a1.ext q79;have hC:=hC.next q79;obtain⟨rfl,rfl,rfl⟩:=f9.er _<|y2q l5 dd;refine z0b<|z0e 4 h U λa h=>z0k 5 h U λa h=>z0k 6 h U λa h=>z0k 7 h U λa h=>z0d 9 U<|z0o h U λa h=>?_;refine z0b<|z0d 10 U<|z0t h U a1 U z9q ?_ (h1:=t41);intro L5 b3 t9 hz a h;have z80:=t9.size;have a0:=a0.fr t9 t28;have hC:=hC.sp t9;have a1:Blk L5 d0 _ [_,_,_,_,_,_,_,_]:=b3;clear b3;refine z0b<|z0d 11 U<|z0o h U λa h=>?_;refine z0b<|z0q ?_;clear hC l1 i7 b6 b2;exact xB (ll2 16 19) h U<|jE (()) U ⟨(j8.z5 k5 l0 l8 q79 t9),trivial⟩;refine z0u h y5r U λZ4 a1 q0 hz a h=>?_;obtain⟨d0,hg⟩:∃g,g=L1.heap.size:=⟨_,rfl⟩;rw[<-hg]at a1 h hz;have z81:=q0.size;have hC:=hC.next q0;refine z0b<|z0d 2 U<|z2p ([xfP 0 13]) h (z0a U z0f) U y2n λb9 Z5 hg a0 l9 hz a h=>?_;have k8:d0<b9:=by have:=a1.lt;omega
 have z82:=l9.size;have a4:=a4.ext<|q0.n1 l9;have a3:=a3.ext<|q0.n1 l9;have hC:=hC.next l9;refine z0b<|z0d 3 U<|z0n h (z0a U<|z0a U z0f) v9p (z5n s p 50 _ [xfP 0 13] _ a3 hP t47 a0.sl a4) ?_;rintro _ Z6 ⟨⟨v8,r4,A2,v9,rfl,f9⟩,q83⟩ a h;have z83:=q83.size;have a1:=a1.ext<|l9.n1 q83;have a0:=a0.ext q83;have hC:=hC.next q83;obtain⟨rfl,rfl,rfl⟩:=f9.er _<|y2q l5 dd;refine z0b<|z0e 4 h U λa h=>z0k 5 h U λa h=>z0k 6 h U λa h=>z0k 7 h U λa h=>z0d 9 U<|z0o h U λa h=>?_;refine z0b<|z0d 10 U<|z0t h U a1 U z9q ?_ (h1:=t41);intro L6 b3 u0 hz a h;have z84:=u0.size;have a0:=a0.fr u0 t28;have hC:=hC.sp u0;have a1:Blk L6 d0 _ [_,_,_,_,_,_,_,_]:=b3;clear b3;refine z0b<|z0d 11 U<|z0o h U λa h=>?_;refine z0b<|z0q ?_;clear hC l1 i7 b6 b2;exact xB (ll2 16 19) h U<|jE (()) U ⟨(j8.z5 k5 q0 l9 q83 u0),trivial⟩;refine z0u h y5r U λZ7 a1 m0 hz a h=>?_;obtain⟨d0,hg⟩:∃g,g=A4.heap.size:=⟨_,rfl⟩;rw[<-hg]at a1 h hz;have z85:=m0.size;have hG:=hG.ext m0;have hC:=hC.next m0;refine z0b<|z0d 1 U<|z0n h (z0a U z0f) cO (x9h _ (xfP 0 13) 0 _ hG j1u dd) ?_;rintro _ Z8 ⟨rfl,m1⟩ a h;have z86:=m1.size;have a1:=a1.ext m1;have hC:=hC.next m1;refine z0b<|z0d 2 U<|z2p ([xfP 0 13]) h (z0a U z0f) U y2n λb9 Z9 hg a0 m2 hz a h=>?_;have k8:d0<b9:=by have:=a1.lt;omega
 have z87:=m2.size;have a4:=a4.ext<|m0.n2 m1 m2;have a3:=a3.ext<|m0.n2 m1 m2;have hC:=hC.next m2;refine z0b<|z0d 3 U<|z0n h (z0a U<|z0a U z0f) v9p (z5n s p 50 _ [xfP 0 13] _ a3 hP t47 a0.sl a4) ?_;rintro _ w88 ⟨⟨v8,r4,A2,v9,rfl,f9⟩,q88⟩ a h;have z88:=q88.size;have a1:=a1.ext<|m2.n1 q88;have a0:=a0.ext q88;have hC:=hC.next q88;obtain⟨rfl,rfl,rfl⟩:=f9.er _<|y2q l5 dd;refine z0b<|z0e 4 h U λa h=>z0k 5 h U λa h=>z0k 6 h U λa h=>z0k 7 h U λa h=>z0d 9 U<|z0o h U λa h=>?_;refine z0b<|z0d 10 U<|z0t h U a1 U z9q ?_ (h1:=t41);intro L7 b3 u1 hz a h;have z89:=u1.size;have a0:=a0.fr u1 t28;have hC:=hC.sp u1;have a1:Blk L7 d0 _ [_,_,_,_,_,_,_,_]:=b3;clear b3;refine z0b<|z0d 11 U<|z0o h U λa h=>?_;refine z0b<|z0q ?_;clear hC l1 i7 b6 b2;exact xB (ll2 16 19) h U<|jE (()) U ⟨(j8.z5 m0 m1 m2 q88 u1),trivial⟩;rintro _u w90 ⟨H2,_⟩;have z90:=H2.size;refine kpC (ll2 16 19) U<|sq<|rbo (r:=0) (L':=[]) (((1=1)/\(13=13))) .nil ?_ ?_;refine mv U<|eq' U<|mv U<|gs 177 U (λg8=>?_)<|λg8=>?_;exact gY U<|mv U<|gY U<|eq' U<|pkt U<|asg U<|rbe U .nil;exact gN U<|gN U<|pkf U<|asg U<|rbe U .nil;refine tn<|rt<|r1 U ?_;exact⟨_,rfl,by first|rfl|exact congrArg Value.bool<|decide_eq_true sp0,(u9.z6 a6 k9 q69 p8 p9 H2)⟩
end Go.Proofs.YtkafbfjmcigaiaaGreatDoor
namespace Go.G26
open Go.Lw Go.G21 Go.G08
abbrev Asc (l:List Hd):Prop:=l.Pairwise λx y=>x.s<=y.s
theorem v2m {h x:Hd}:∀ {l:List Hd},x∈z9u h l↔x=h\/x∈l
 | []=>by simp[z9u]
 | y::l=>by
  unfold z9u
  split
  ·simp
  simp only[l57,v2m]
  constructor
  ·rintro(e|e|e)
   ·exact .inr<|.inl e
   ·exact .inl e
   exact .inr<|.inr e
  rintro(e|e|e)
  ·exact .inr<|.inl e
  ·exact .inl e
  exact .inr<|.inr e
theorem v4x {h:Hd}:∀ {l:List Hd},Asc l->Asc (z9u h l)
 | [],_=>by simp[z9u,Asc]
 | y::l,a=>by
  unfold z9u
  have I:=l80.1 a
  split
  ·rename_i c
   refine l80.2 ⟨λz D=>?_,a⟩
   rcases l57.1 D with rfl|D
   ·omega
   have:=I.1 z D;omega
  rename_i c
  refine l80.2 ⟨λz D=>?_,v4x I.2⟩
  rcases v2m.1 D with rfl|D
  ·omega
  exact I.1 z D
theorem v1w {h:Hd}{v:Int}:∀ {l:List Hd},Asc l->(z9u h l).filter (λx=>decide (x.s=v))=l.filter (λx=>decide (x.s=v))++(if h.s=v then [h] else [])
 | [],_=>by simp only[z9u,l61,List.filter_nil,l43,decide_eq_true_eq]
 | y::l,a=>by
  have I:=l80.1 a
  unfold z9u
  split
  ·rename_i c
   by_cases e:h.s=v
   ·have n:(y::l).filter (λx=>decide (x.s=v))=[]:=List.filter_eq_nil_iff.2 λz D=>by
     have:h.s<z.s:=by
      rcases l57.1 D with rfl|D
      ·exact c
      have:=I.1 z D;omega
     simp only[decide_eq_true_eq];omega
    rw[l61,n,if_pos (by simpa using e),if_pos e,l43]
   rw[l61 (x:=h),if_neg (by simpa using e),if_neg e,l24]
  rw[l61,l61,v1w I.2]
  split<;>simp
theorem x2a {v:Int}:∀ {l a:List Hd},Asc a->Asc (l.foldl (λa h=>z9u h a) a)/\(l.foldl (λa h=>z9u h a) a).filter (λx=>decide (x.s=v))=a.filter (λx=>decide (x.s=v))++l.filter (λx=>decide (x.s=v))
 | [],a,h=>⟨h,sp0⟩
 | x::l,a,h=>by
  obtain⟨D,I⟩:=x2a (v:=v) (l:=l)<|v4x (h:=x) h
  refine⟨D,?_⟩
  rw[l126,I,v1w h,l61,l14]
  congr 1
  by_cases e:x.s=v
  ·rw[if_pos e,if_pos (by simpa using e)];rfl
  rw[if_neg e,if_neg (by simpa using e)];rfl
theorem u9v (B:Bd)(r:Int):Asc (z2m B r):=(x2a (v:=0) (l:=x8l B r) (a:=[]) List.Pairwise.nil).1
theorem v4w (B:Bd)(r v:Int):(z2m B r).filter (λx=>decide (x.s=v))=(x8l B r).filter (λx=>decide (x.s=v)):=by
 have:=(x2a (v:=v) (l:=x8l B r) (a:=[]) List.Pairwise.nil).2;unfold z2m z6h;simpa using this
theorem v7o:∀ {l:List Hd} {a:Int},Asc l->(∀x∈l,a<=x.s)->l=l.filter (λx=>decide (x.s=a))++l.filter (λx=>decide (x.s≠a))
 | [],_,_,_=>by simp
 | x::l,a,h,hb=>by
  have I:=l80.1 h
  have D:=v7o I.2 λy O=>hb y<|l36 _ O
  by_cases e:x.s=a
  ·rw[l61,if_pos (by simpa using e),l61 (p:=λx:Hd=>decide (x.s≠a)),if_neg (by simpa using e),l48,<-D]
  have n:l.filter (λx=>decide (x.s=a))=[]:=List.filter_eq_nil_iff.2 λz Z=>by
   have h2:=I.1 z Z
   have h3:=hb x l35
   simp only[decide_eq_true_eq];omega
  rw[n,l43]at D
  rw[l61,if_neg (by simpa using e),n,l43,l61,if_pos (by simpa using e),<-D]
theorem v3v:∀ {n:Nat} {l:List Hd} {a:Int},Asc l->(∀x∈l,a<=x.s/\x.s<a+n)->l=(List.range n).flatMap λ(i:Nat)=>l.filter (λx=>decide (x.s=a+(i:Int)))
 | 0,l,a,_,hb=>by
  cases l with
  | nil=>rfl
  | cons x l=>have:=hb x l35;omega
 | n+1,l,a,h,hb=>by
  have e1:=v7o h λx D=>(hb x D).1
  have Z:=v3v (n:=n) (l:=l.filter (λx=>decide (x.s≠a))) (a:=a+1) (h.filter _) λx D=>by
   obtain⟨I,O⟩:=l105.1 D
   have:=hb x I
   have:x.s≠a:=by simpa using O
   omega
  rw[List.range_succ_eq_map,l37,l108]
  show l=l.filter (λx=>decide (x.s=a+((0:Nat):Int)))++_
  rw[show a+((0:Nat):Int)=a by omega]
  refine e1.trans ?_
  congr 1
  refine Z.trans ?_
  congr 1
  funext i
  rw[List.filter_filter]
  congr 1
  funext x
  rw[show a+((i+1:Nat):Int)=a+1+(i:Int) by omega]
  by_cases e:x.s=a+1+(i:Int)
  ·have:x.s≠a:=by omega
   simp[e];omega
  simp[e]
theorem flat_one {α:Type}{X:List α}:∀ {n k:Nat},((List.range n).flatMap λi=>if i=k then X else [])=if k<n then X else []
 | 0,k=>by simp
 | n+1,k=>by
  rw[l66,l38,flat_one (n:=n) (k:=k)]
  simp only[l37,l107,l24]
  by_cases e:n=k
  ·subst e;simp
  rw[if_neg e,l24]
  by_cases h:k<n
  ·rw[if_pos h,if_pos oo]
  rw[if_neg h,if_neg oo]
theorem j9a (b r v:Int)(l:Bed)(i:Nat):(hds b r l i).filter (λx=>decide (x.s=v))=(List.range i).flatMap λ(k:Nat)=>if z2b b ((k:Int)+1) r=v then (l.getD k []).map (hdS b r k) else []:=by
 unfold hds;rw[List.filter_flatMap];congr 1;funext k;by_cases e:z2b b ((k:Int)+1) r=v;rw[if_pos e];refine List.filter_eq_self.2 λx D=>?_;obtain⟨y,_,rfl⟩:=l55.1 D;exact decide_eq_true e;rw[if_neg e];refine List.filter_eq_nil_iff.2 λx D=>?_;obtain⟨y,_,rfl⟩:=l55.1 D;exact λh=>e<|of_decide_eq_true h
theorem z6d {α β:Type}{f g:α->List β}:∀ {l:List α},(∀x∈l,f x=g x)->l.flatMap f=l.flatMap g
 | [],_=>rfl
 | x::l,h=>by rw[l37,l37,h x l35,z6d λy D=>h y<|l36 _ D]
theorem x3n (b r v:Int)(l:Bed)(i:Nat):((hds b r l i).filter (λx=>decide (x.s=v))).map Hd.id=(List.range i).flatMap λ(k:Nat)=>if z2b b ((k:Int)+1) r=v then l.getD k [] else []:=by
 rw[j9a,List.map_flatMap];congr 1;funext k;split;rw[l75];exact(l109 λx _=>rfl).trans<|List.map_id _;rfl
def stk (l:Bed)(n:Int):List LId:=if 1<=n/\n<=40 then l.getD (n-1).toNat [] else []
theorem x6b {n r:Int}(hn:1<=n/\n<=40)(D:-4<=r/\r<=4):z2b 0 n r=4*n+2:=by
 unfold z2b;rw[if_neg,if_pos U];intro h;rcases h with h|h
 exact h<|y2i ⟨.inl U,hn.1,hn.2⟩;exact h D
theorem x4l {n r:Int}(hn:1<=n/\n<=40)(D:-4<=r/\r<=4):z2b 1 n r=4*(n+r):=by
 unfold z2b;rw[if_neg,if_neg dd];intro h;rcases h with h|h
 exact h<|y2i ⟨.inr U,hn.1,hn.2⟩;exact h D
theorem y0m {b r v n:Int}{l:Bed}(hl:l.length<=40)(O:∀m:Int,1<=m->m<=40->(z2b b m r=v↔m=n)):((hds b r l l.length).filter (λx=>decide (x.s=v))).map Hd.id=stk l n:=by
 rw[x3n];unfold stk;by_cases hn:1<=n/\n<=40;rw[if_pos hn,z6d (g:=λ(k:Nat)=>if k=(n-1).toNat then l.getD (n-1).toNat [] else []) (λk D=>by
  have I:=l91.1 D;have h:=O ((k:Int)+1) oo oo;by_cases e:z2b b ((k:Int)+1) r=v;have e2:k=(n-1).toNat:=by have:=h.1 e;omega
  rw[if_pos e,if_pos e2,<-e2];rw[if_neg e,if_neg (λe2=>e<|h.2 oo)]),flat_one]
 split;rfl;rw[List.getD,l32 oo];rfl;rw[if_neg hn];refine List.flatMap_eq_nil_iff.2 λk D=>?_;have I:=l91.1 D;rw[if_neg];intro h;have:=(O ((k:Int)+1) oo oo).1 h;omega
theorem z6j {l:Bed}{n:Int}(h:¬(1<=n/\n<=40):=by omega):stk l n=[]:=if_neg h
theorem x7a {α:Type}{f:Nat->List α}:∀n:Nat,(List.range<|4*n).flatMap f=(List.range n).flatMap λj=>f (4*j)++f (4*j+1)++f (4*j+2)++f (4*j+3)
 | 0=>rfl
 | n+1=>by
  rw[show 4*(n+1)=4*n+1+1+1+1 by omega,l66,l66,l66,l66,l66 (n:=n)]
  simp only[l38,x7a n,l37,l107,l24,l14]
theorem y6h {B:Bd}{r:Int}(hf:B.f.length<=40)(hb:B.b.length<=40)(O:-4<=r/\r<=4):(z2m B r).map Hd.id=(List.range 50).flatMap λ(j:Nat)=>stk B.b ((j:Int)-3-r)++stk B.f ((j:Int)-3):=by
 have a0:∀x∈z2m B r,-12<=x.s/\x.s < -12+((4*50:Nat):Int):=λx hx=>by
  have D:x∈(z2m B r).filter (λy=>decide (y.s=x.s)):=l105.2 ⟨hx,sp0⟩;rw[v4w]at D;have I:=(l105.1 D).1;unfold x8l hds at I;rcases l23.1 I with h|h
  obtain⟨k,hk,Z⟩:=l73.1 h;obtain⟨y,_,rfl⟩:=l55.1 Z;have a1:=l91.1 hk;show -12<=z2b 0 ((k:Int)+1) r/\z2b 0 ((k:Int)+1) r<_;rw[x6b oo O];omega;obtain⟨k,hk,Z⟩:=l73.1 h;obtain⟨y,_,rfl⟩:=l55.1 Z;have a1:=l91.1 hk;show -12<=z2b 1 ((k:Int)+1) r/\z2b 1 ((k:Int)+1) r<_;rw[x4l oo O];omega
 have e:=v3v (u9v B r) a0;rw[e,List.map_flatMap,x7a];refine z6d λj _=>?_;have a2:∀v:Int,((z2m B r).filter (λx=>decide (x.s=v))).map Hd.id=((hds 0 r B.f B.f.length).filter (λx=>decide (x.s=v))).map Hd.id++((hds 1 r B.b B.b.length).filter (λx=>decide (x.s=v))).map Hd.id:=λv=>by
  rw[v4w];unfold x8l;rw[List.filter_append,l31]
 simp only[a2];rw[y0m (n:=0) hf (λm D I=>by rw[x6b ⟨D,I⟩ O];omega),y0m (n:=(j:Int)-3-r) hb (λm D I=>by rw[x4l ⟨D,I⟩ O];omega),
  y0m (n:=0) hf (λm D I=>by rw[x6b ⟨D,I⟩ O];omega),y0m (n:=0) hb (λm D I=>by rw[x4l ⟨D,I⟩ O];omega),
  y0m (n:=(j:Int)-3) hf (λm D I=>by rw[x6b ⟨D,I⟩ O];omega),y0m (n:=0) hb (λm D I=>by rw[x4l ⟨D,I⟩ O];omega),
  y0m (n:=0) hf (λm D I=>by rw[x6b ⟨D,I⟩ O];omega),y0m (n:=0) hb (λm D I=>by rw[x4l ⟨D,I⟩ O];omega)]
 simp only[z6j (h:=(show ¬(1<=(0:Int)/\(0:Int)<=40) by omega)),l24,l43]
def Adj:List LId->List Cx->List LId->Prop
  | o,[],o'=>o=o'
  | o,c::cs,o'=>∃P S,o=P++c.a::c.b::S/\Adj (P++c.b::c.a::S) cs o'
theorem Adj.app:∀ {cs ds:List Cx} {o o1 D:List LId},Adj o cs o1->Adj o1 ds D->Adj o (cs++ds) D
 | [],_,_,_,_,h1,h2=>by cases h1;exact h2
 | _::_,_,_,_,_,⟨P,S,e,h1⟩,h2=>⟨P,S,e,h1.app h2⟩
theorem k7b {n:Int}{x:LId}:∀ {t P S:List LId},Adj (P++x::(t++S)) (t.map λo=>⟨x,o,n⟩) (P++(t++x::S))
 | [],_,_=>rfl
 | o::t,P,S=>⟨P,t++S,rfl,by
  have:=k7b (n:=n) (x:=x) (t:=t) (P:=P++[o]) (S:=S)
  simpa using this⟩
theorem x6f {n:Int}{t:List LId}:∀ {xs P S:List LId},Adj (P++(xs++(t++S))) ((xs.flatMap λx=>t.reverse.map λo=>(⟨x,o,n⟩:Cx)).reverse) (P++(t++(xs++S)))
 | [],_,_=>rfl
 | x::xs,P,S=>by
  have D:=x6f (n:=n) (t:=t) (xs:=xs) (P:=P++[x]) (S:=S)
  have I:=k7b (n:=n) (x:=x) (t:=t) (P:=P) (S:=xs++S)
  rw[l37,List.reverse_append]
  have e:(t.reverse.map λo=>(⟨x,o,n⟩:Cx)).reverse=t.map λo=>⟨x,o,n⟩:=by rw[<-List.map_reverse,List.reverse_reverse]
  rw[e]
  refine Adj.app (o1:=P++x::(t++(xs++S))) ?_ (by simpa using I)
  simpa using D
theorem k5t {n:Int}{x:LId}:∀ {t P S:List LId},Adj (P++(t++x::S)) (t.reverse.map λo=>⟨o,x,n⟩) (P++x::(t++S))
 | [],_,_=>rfl
 | o::t,P,S=>by
  have D:=k5t (n:=n) (x:=x) (t:=t) (P:=P++[o]) (S:=S)
  rw[List.reverse_cons,l31]
  refine Adj.app (o1:=P++o::x::(t++S)) (by simpa using D) ⟨P,t++S,rfl,?_⟩
  exact U
theorem x5v {n:Int}{t:List LId}:∀ {xs P S:List LId},Adj (P++(t++(xs++S))) (xs.flatMap λx=>t.reverse.map λo=>(⟨o,x,n⟩:Cx)) (P++(xs++(t++S)))
 | [],_,_=>rfl
 | x::xs,P,S=>by
  have D:=k5t (n:=n) (x:=x) (t:=t) (P:=P) (S:=xs++S)
  have I:=x5v (n:=n) (t:=t) (xs:=xs) (P:=P++[x]) (S:=S)
  rw[l37]
  refine Adj.app (o1:=P++x::(t++(xs++S))) (by simpa using D) ?_
  simpa using I
abbrev Bk:=List LId×List LId
theorem k3h {n:Int}:∀ {bs:List Bk} {P:List LId},Adj (P++bs.flatMap λb=>b.1++b.2) ((bs.flatMap λb=>b.1.flatMap λx=>b.2.reverse.map λo=>(⟨x,o,n⟩:Cx)).reverse) (P++bs.flatMap λb=>b.2++b.1)
 | [],_=>rfl
 | b::bs,P=>by
  have D:=k3h (n:=n) (bs:=bs) (P:=P++b.1++b.2)
  have I:=x6f (n:=n) (t:=b.2) (xs:=b.1) (P:=P) (S:=bs.flatMap λb=>b.2++b.1)
  rw[l37,l37,l37,List.reverse_append]
  refine Adj.app (o1:=P++(b.1++(b.2++bs.flatMap λb=>b.2++b.1))) ?_ (by simpa using I)
  simpa using D
theorem k2h {n:Int}:∀ {bs:List Bk} {P:List LId},Adj (P++bs.flatMap λb=>b.2++b.1) (bs.flatMap λb=>b.1.flatMap λx=>b.2.reverse.map λo=>(⟨o,x,n⟩:Cx)) (P++bs.flatMap λb=>b.1++b.2)
 | [],_=>rfl
 | b::bs,P=>by
  have D:=x5v (n:=n) (t:=b.2) (xs:=b.1) (P:=P) (S:=bs.flatMap λb=>b.2++b.1)
  have I:=k2h (n:=n) (bs:=bs) (P:=P++b.1++b.2)
  rw[l37,l37,l37]
  refine Adj.app (o1:=P++(b.1++(b.2++bs.flatMap λb=>b.2++b.1))) (by simpa using D) ?_
  simpa using I
theorem y8a {α:Type}{F:Nat->List α}{n c m:Nat}(hm:n+c<=m)(h1:∀j,j<c->F j=[])(O:∀j,n+c<=j->j<m->F j=[]):(List.range m).flatMap F=(List.range n).flatMap λk=>F (k+c):=by
 obtain⟨e,rfl⟩:∃e,m=n+c+e:=⟨m-(n+c),oo⟩;have D:∀ {k:Nat},k<=e->(List.range<|n+c+k).flatMap F=(List.range<|n+c).flatMap F:=by
  intro k;induction k with
  | zero=>intro _;rfl
  | succ k ih=>
   intro hk;rw[show n+c+(k+1)=(n+c+k)+1 by omega,l66,l38,ih oo];simp only[l37,l107,O (n+c+k) oo oo,l24]
 have I:∀ {k:Nat},(List.range<|k+c).flatMap F=(List.range k).flatMap λk=>F (k+c):=by
  intro k;induction k with
  | zero=>
   rw[l72];exact List.flatMap_eq_nil_iff.2 λj Z=>h1 j<|l91.1 Z
  | succ k ih=>
   rw[show k+1+c=(k+c)+1 by omega,l66,l66,l38,l38,ih];rfl
 rw[D (l20 _),I]
theorem v3u {l:Bed}{k:Nat}(D:k<40):stk l ((k:Int)+1)=l.getD k []:=by
 unfold stk;rw[if_pos oo,show ((k:Int)+1-1).toNat=k by omega]
theorem u1b (B:Bd)(n:Int):B.atC 0 n=stk B.f n:=by
 unfold Bd.atC stk;by_cases h:1<=n/\n<=40;rw[if_pos (y2i ⟨.inl U,h.1,h.2⟩),if_pos h];rfl;rw[if_neg h,if_neg (λe=>h ⟨(z2t e).2.1,(z2t e).2.2⟩)]
theorem v3x {B:Bd}{r d:Int}(hf:B.f.length<=40)(hb:B.b.length<=40)(hr:-4<=r/\r<=4)(hd:d=0\/d=1)(I:-4<=r+stI d/\r+stI d<=4):Adj ((z2m B r).map Hd.id) (z2g B r d) ((z2m B<|r+stI d).map Hd.id):=by
 rw[y6h hf hb hr,y6h hf hb I];rcases hd with rfl|rfl
 have hs:stI 0 = -1:=rfl;rw[hs]at I ⊢;let bs:List Bk:=(List.range 50).map λ(j:Nat)=>(stk B.b<|(j:Int)-2-r,stk B.f<|(j:Int)-3);have e1:((List.range 50).flatMap λ(j:Nat)=>stk B.b ((j:Int)-3-r)++stk B.f ((j:Int)-3))=[]++bs.flatMap λb=>b.2++b.1:=by
  have k:∀n:Nat,((List.range n).flatMap λ(j:Nat)=>stk B.b ((j:Int)-3-r)++stk B.f ((j:Int)-3))++stk B.b ((n:Int)-3-r)=(List.range n).flatMap λ(j:Nat)=>stk B.f ((j:Int)-3)++stk B.b ((j:Int)-2-r):=by
   intro n;induction n with
   | zero=>simp only[List.range_zero,l107,l43];exact z6j
   | succ n ih=>
    rw[l66,l38,l38,<-ih];simp only[l37,l107,l24,l14];rw[show ((n+1:Nat):Int)-3-r=(n:Int)-2-r by omega]
  have D:=k 50;rw[z6j (l:=B.b) (n:=((50:Nat):Int)-3-r),l24]at D;rw[D,l43,l108]
 have e2:((List.range 50).flatMap λ(j:Nat)=>stk B.b ((j:Int)-3-(r + -1))++stk B.f ((j:Int)-3))=[]++bs.flatMap λb=>b.1++b.2:=by
  rw[l43,l108];refine z6d λj _=>?_;rw[show (j:Int)-3-(r + -1)=(j:Int)-2-r by omega]
 have O:z2g B r 0=bs.flatMap λb=>b.1.flatMap λx=>b.2.reverse.map λo=>(⟨o,x,1⟩:Cx):=by
  rw[l108,y8a (n:=B.b.length) (c:=(3+r).toNat) oo (λj hj=>by rw[z6j (l:=B.b)];rfl) (λj h1 h2=>by
   by_cases h:(j:Int)-2-r<=40;have:stk B.b ((j:Int)-2-r)=[]:=by
    unfold stk;rw[if_pos oo,List.getD,l32 oo];rfl
   rw[this];rfl;rw[z6j (l:=B.b)];rfl)]
  unfold z2g x2d;rw[if_neg dd];refine z6d λk Z=>?_;have a0:=l91.1 Z;unfold v5x y0d;rw[if_pos U,u1b,show (((k+(3+r).toNat:Nat):Int)-2-r)=(k:Int)+1 by omega,v3u oo,show (((k+(3+r).toNat:Nat):Int)-3)=(k:Int)+1+r-1 by omega];rfl
 rw[e1,e2,O];exact k2h;have hs:stI 1=1:=rfl;rw[hs]at I ⊢;let bs:List Bk:=(List.range 50).map λ(j:Nat)=>(stk B.b<|(j:Int)-3-r,stk B.f<|(j:Int)-3);have e1:((List.range 50).flatMap λ(j:Nat)=>stk B.b ((j:Int)-3-r)++stk B.f ((j:Int)-3))=[]++bs.flatMap λb=>b.1++b.2:=by
  rw[l43,l108]
 have e2:((List.range 50).flatMap λ(j:Nat)=>stk B.b ((j:Int)-3-(r+1))++stk B.f ((j:Int)-3))=[]++bs.flatMap λb=>b.2++b.1:=by
  have k:∀n:Nat,(List.range n).flatMap (λ(j:Nat)=>stk B.f ((j:Int)-3)++stk B.b ((j:Int)-3-r))=((List.range n).flatMap λ(j:Nat)=>stk B.b ((j:Int)-3-(r+1))++stk B.f ((j:Int)-3))++stk B.b ((n:Int)-3-(r+1)):=by
   intro n;induction n with
   | zero=>simp only[List.range_zero,l107,l43];exact(z6j).symm
   | succ n ih=>
    rw[l66,l38,l38,ih];simp only[l37,l107,l24,l14];rw[show ((n+1:Nat):Int)-3-(r+1)=(n:Int)-3-r by omega]
  have D:=k 50;rw[z6j (l:=B.b) (n:=((50:Nat):Int)-3-(r+1)),l24]at D;rw[l43,l108];exact D.symm
 have O:z2g B r 1=(bs.flatMap λb=>b.1.flatMap λx=>b.2.reverse.map λo=>(⟨x,o,-1⟩:Cx)).reverse:=by
  rw[l108,y8a (n:=B.b.length) (c:=(4+r).toNat) oo (λj hj=>by rw[z6j (l:=B.b)];rfl) (λj h1 h2=>by
   by_cases h:(j:Int)-3-r<=40;have:stk B.b ((j:Int)-3-r)=[]:=by
    unfold stk;rw[if_pos oo,List.getD,l32 oo];rfl
   rw[this];rfl;rw[z6j (l:=B.b)];rfl)]
  unfold z2g x2d;rw[if_pos U];congr 1;refine z6d λk Z=>?_;have a0:=l91.1 Z;unfold v5x y0d;rw[if_neg dd,u1b,show (((k+(4+r).toNat:Nat):Int)-3-r)=(k:Int)+1 by omega,v3u oo,show (((k+(4+r).toNat:Nat):Int)-3)=(k:Int)+1+r by omega];rfl
 rw[e1,e2,O];exact k3h
theorem k6n {P S:List LId}{a:LId}(h:a∉P):y2h (P++a::S) a=(P.length:Int):=by
 unfold y2h;rw[if_pos sp0,List.idxOf_append,if_neg h,List.idxOf_cons_self,l72]
theorem x1g {P S:List LId}{a b:LId}:x6a (P++a::b::S) (P.length+1)=P++b::a::S:=by
 unfold x6a;have e1:(P++a::b::S).getD (P.length+1) id0=b:=by
  rw[List.getD,l30 oo,l133];rfl
 have e2:(P++a::b::S).getD P.length id0=a:=by
  rw[List.getD,l30 oo,l100];rfl
 rw[l87,e1,e2,l56 _ _ oo,l100,l56 _ _ oo,l133];rfl
theorem k0i {P S:List LId}{w:List Int}{c:Cx}(h:c.a∉P):y3o (P++c.a::c.b::S,w) c=(P++c.b::c.a::S,w++[((P.length:Int)+1)*c.n]):=by
 unfold y3o;simp only[k6n h];rw[if_pos ⟨oo,by simp only[l13,l34];omega⟩,show ((P.length:Int)+1).toNat=P.length+1 by omega,x1g]
theorem x0t {P S:List LId}{a b:LId}(h:(P++a::b::S).Nodup):(P++b::a::S).Nodup:=by
 have p:(P++b::a::S).Perm (P++a::b::S):=List.Perm.append_left P<|List.Perm.swap a b S;exact p.nodup_iff.2 h
theorem x1d {P S:List LId}{a:LId}(h:(P++a::S).Nodup):a∉P:=λD=>by
 have:=(l67.1 h).2.2 a D a sp0
 exact this U
def nbr (o:List LId)(a b:LId):Option Nat:=(List.range<|o.length-1).find? λn=>decide (o.getD n id0=a/\o.getD (n+1) id0=b)
def y7m (st:St)(c:Cx):St:=match nbr st.1 c.a c.b with
  | some n=>(x6a st.1<|n+1,st.2++[c.n*((n:Int)+1)])
  | none=>st
theorem v2e {P S:List LId}{a:LId}:(P++a::S).getD P.length id0=a:=by
 rw[List.getD,l30 oo,l100];rfl
theorem x4h {P S:List LId}{a b:LId}:(P++a::b::S).getD (P.length+1) id0=b:=by
 rw[List.getD,l30 oo,l133];rfl
theorem j1p {P S:List LId}{a b:LId}(h:a∉P):nbr (P++a::b::S) a b=some P.length:=by
 unfold nbr;rw[List.find?_range_eq_some];refine⟨by simp only[v2e,x4h];simp,l91.2 (by simp only[l13,l34];omega),λj D=>?_⟩;have I:(P++a::b::S).getD j id0≠a:=λe=>h (by
  rw[List.getD,l46 D,l10 D]at e;exact e▸l106 D)
 rw[decide_eq_false λe=>I e.1];rfl
def y7t (l:List Nat)(k:Nat):List Nat:=(l.set (k-1)<|l.getD k 0).set k<|l.getD (k-1) 0
def flw (l:List Nat)(w:List Int):List Nat:=w.foldl (λl k=>y7t l k.natAbs) l
theorem j1n {f:Nat->LId}{l:List Nat}{k:Nat}(I:1<=k/\k<l.length):x6a (l.map f) k=(y7t l k).map f:=by
 unfold x6a y7t;have e:∀j,j<l.length->(l.map f).getD j id0=f (l.getD j 0):=λj D=>by
  rw[List.getD,List.getD,l26,l10 D];rfl
 rw[e k I.2,e (k-1) oo,l136,l136]
theorem y6m (l:List Nat)(k:Nat):(y7t l k).length=l.length:=by unfold y7t;simp
def sgn (k:Int):Int:=if k<0 then -1 else 1
def lnk:List Nat->List Int->Nat->Nat->Int
  | _,[],_,_=>0
  | l,x::u,i,k=>(if (l.getD (x.natAbs-1) 0=i/\l.getD x.natAbs 0=k)\/(l.getD (x.natAbs-1) 0=k/\l.getD x.natAbs 0=i) then sgn x else 0)+lnk (y7t l x.natAbs) u i k
def crS (cs:List Cx)(a b:LId):Int:=(cs.map λc=>if (c.a=a/\c.b=b)\/(c.a=b/\c.b=a) then c.n else 0).sum
abbrev Sg (cs:List Cx):Prop:=∀c∈cs,c.n=1\/c.n = -1
theorem x4w {f:Nat->LId}:∀ {cs:List Cx} {o o':List LId} {l:List Nat} {w:List Int},o=l.map f->o.Nodup->Adj o cs o'->Sg cs->
    ∃u,z3o (o,w) cs=(o',w++u)/\cs.foldl y7m (o,w)=(o',w++u)/\o'=(flw l u).map f/\(flw l u).length=l.length/\u.length=cs.length/\(∀k∈u,1<=k.natAbs/\k.natAbs<o.length)/\o'.Nodup/\o'.Perm o/\
      ∀i k,i∈l->k∈l->lnk l u i k=crS cs (f i) (f k)
  | [],o,o',l,w,e,hn,h,_=>by
    cases h
    exact⟨[],by simp[z3o],sp0,e,rfl,rfl,λk D=>(by cases D),hn,.refl _,λ_ _ _ _=>rfl⟩
  | c::cs,o,o',l,w,e,hn,⟨P,S,e1,h⟩,hs=>by
    have a0:=hs c l35
    have b3:c.a∉P:=x1d (e1▸hn)
    have h1:=k0i (w:=w) (S:=S) b3
    have b0:o.length=l.length:=by rw[e,l18]
    have b1:P.length+1<l.length:=by rw[<-b0,e1];simp only[l13,l34];omega
    have O:(((P.length:Int)+1)*c.n).natAbs=P.length+1:=by
      rcases a0 with h|h<;>rw[h]<;>omega
    have b4:sgn (((P.length:Int)+1)*c.n)=c.n:=by
      unfold sgn
      rcases a0 with h|h<;>rw[h]
      · rw[if_neg oo]
      · rw[if_pos oo]
    have e2:P++c.b::c.a::S=(y7t l<|P.length+1).map f:=by
      rw[<-j1n ⟨oo,b1⟩,<-e,e1,x1g]
    obtain⟨u,a1,a2,a3,a4,a5,a6,a7,a8,a9⟩:=x4w (w:=w++[((P.length:Int)+1)*c.n]) e2 (x0t (e1▸hn)) h λx O=>hs x<|l36 _ O
    have hf:∀j,j<l.length->f (l.getD j 0)=o.getD j id0:=λj Z=>by
      rw[e,List.getD,List.getD,l26,l10 Z];rfl
    have fa:f (l.getD P.length 0)=c.a:=by rw[hf _ oo,e1,v2e]
    have fb:f (l.getD (P.length+1) 0)=c.b:=by rw[hf _ b1,e1,x4h]
    refine⟨(((P.length:Int)+1)*c.n)::u,?_,?_,?_,?_,?_,?_,a7,?_,?_⟩
    · rw[e1]
      show z3o (y3o (P++c.a::c.b::S,w) c) cs=_
      rw[h1,a1,l14];rfl
    · rw[e1,l126]
      have:y7m (P++c.a::c.b::S,w) c=(P++c.b::c.a::S,w++[((P.length:Int)+1)*c.n]):=by
        unfold y7m
        simp only[j1p b3,x1g,Int.mul_comm]
      rw[this,a2,l14];rfl
    · show o'=(flw (y7t l (((P.length:Int)+1)*c.n).natAbs) u).map f
      rw[O];exact a3
    · show (flw (y7t l (((P.length:Int)+1)*c.n).natAbs) u).length=_
      rw[O,a4,y6m]
    · rw[l34,a5,l34]
    · intro k D
      rcases l57.1 D with rfl|D
      · rw[O];omega
      · have:=a6 k D
        rw[e1];simp only[l13,l34]at this ⊢;omega
    · exact e1▸a8.trans (List.Perm.append_left P (List.Perm.swap ..))
    · intro i k hi D
      have hm:∀ {z},z∈l->z∈y7t l (P.length+1):=λ{z} hz=>by
        obtain⟨j,Z,rfl⟩:=l29 hz
        have g:∀m,m<l.length->l.getD m 0=l[m]!:=λm hm=>by rw[List.getD,l10 hm,List.getElem!_eq_getElem?_getD,l10 hm];rfl
        unfold y7t
        by_cases j1:j=P.length+1
        · refine l125.2 ⟨P.length,?_⟩
          subst j1
          rw[l132 oo,l87,l122 oo,List.getD,l10 Z];rfl
        · by_cases j2:j=P.length
          · refine l125.2 ⟨P.length+1,?_⟩
            subst j2
            rw[l122 t34,l87,List.getD,l10 Z];rfl
          · refine l125.2 ⟨j,?_⟩
            rw[l132 oo,l132 oo,l10 Z]
      have I:∀ {x z},x∈l->z∈l->(f x=f z↔x=z):=λ{x z} O hz=>⟨λhe=>by
        obtain⟨j,Z,rfl⟩:=l29 O
        obtain⟨m,hm,rfl⟩:=l29 hz
        have b2:=hn
        rw[e]at b2
        have:=(List.getElem_inj (h₀:=by rw[l18];exact Z) (h₁:=by rw[l18];exact hm) b2).1 (by rw[l130,l130];exact he)
        subst this;rfl,λhe=>he▸rfl⟩
      have ga:l.getD P.length 0∈l:=by rw[List.getD,l10 oo];exact l106 oo
      have gb:l.getD (P.length+1) 0∈l:=by rw[List.getD,l10 oo];exact l106 oo
      show (if _ then sgn _ else 0)+lnk (y7t l (((P.length:Int)+1)*c.n).natAbs) u i k=(_::_:List Int).sum
      rw[O,b4,a9 i k (hm hi) (hm D),List.sum_cons,l87]
      congr 1
      have q1:(l.getD P.length 0=i↔c.a=f i):=by rw[<-fa];exact(I ga hi).symm
      have q2:(l.getD P.length 0=k↔c.a=f k):=by rw[<-fa];exact(I ga D).symm
      have q3:(l.getD (P.length+1) 0=i↔c.b=f i):=by rw[<-fb];exact(I gb hi).symm
      have q4:(l.getD (P.length+1) 0=k↔c.b=f k):=by rw[<-fb];exact(I gb D).symm
      simp only[q1,q2,q3,q4]
end Go.G26
namespace Go.G26
open Go.Lw Go.G21 Go.G08 Go.G09
def lkC (l:List Cx)(a b:LId):Int:=z5l l (z4j ⟨a,b,0⟩).1 (z4j ⟨a,b,0⟩).2
theorem v4h {c:Cx}{a b:LId}(h:a≠b):z4j c=z4j ⟨a,b,0⟩↔(c.a=a/\c.b=b)\/(c.a=b/\c.b=a):=by
 have D:=y8h h;have I:=y8h<|l51 h;unfold z4j;by_cases k:0<z6q a b;rw[if_pos (c:=0<z6q (⟨a,b,0⟩:Cx).a (⟨a,b,0⟩:Cx).b) k];by_cases k2:0<z6q c.a c.b;rw[if_pos k2];simp only[l94];constructor;rintro⟨e1,e2⟩;exact .inl ⟨e2,e1⟩;rintro(⟨e1,e2⟩|⟨e1,e2⟩);exact⟨e2,e1⟩;rw[e1,e2]at k2;exact absurd k2<|D.1 k;rw[if_neg k2];simp only[l94];constructor;rintro⟨e1,e2⟩;exact .inr ⟨e1,e2⟩;rintro(⟨e1,e2⟩|⟨e1,e2⟩);rw[e1,e2]at k2;exact absurd k k2;exact⟨e1,e2⟩;rw[if_neg (c:=0<z6q (⟨a,b,0⟩:Cx).a (⟨a,b,0⟩:Cx).b) k];by_cases k2:0<z6q c.a c.b;rw[if_pos k2];simp only[l94];constructor;rintro⟨e1,e2⟩;exact .inr ⟨e2,e1⟩;rintro(⟨e1,e2⟩|⟨e1,e2⟩);rw[e1,e2]at k2;exact absurd k2 k;exact⟨e2,e1⟩;rw[if_neg k2];simp only[l94];constructor;rintro⟨e1,e2⟩;exact .inl ⟨e1,e2⟩;rintro(⟨e1,e2⟩|⟨e1,e2⟩);exact⟨e1,e2⟩;rw[e1,e2]at k2;exact absurd (I.2 k) k2
theorem v9e {a b:LId}(h:a≠b):∀ {cs l l':List Cx},z3s l cs=.ok l'->lkC l' a b=lkC l a b+crS cs a b
 | [],l,l',e=>by cases e;simp[crS]
 | c::cs,l,l',e=>by
  rw[y1g]at e
  cases e1:y4i l c with
  | error x=>rw[e1]at e;cases e
  | ok l1=>
   rw[e1]at e
   have D:=y2z e1 (z4j ⟨a,b,0⟩).1 (z4j ⟨a,b,0⟩).2
   rw[v9e h e]
   unfold lkC crS at *
   rw[D,l28,List.sum_cons]
   by_cases k:(c.a=a/\c.b=b)\/(c.a=b/\c.b=a)
   ·rw[if_pos k,if_pos ((v4h h).2 k)];omega
   rw[if_neg k,if_neg (λe=>k<|(v4h h).1 e)];omega
theorem j4h (B:Bd)(r d:Int):Sg (z2g B r d):=by
 have h:∀c∈x2d B r d B.b.length,c.n=1\/c.n = -1:=λc D=>by
  obtain⟨k,_,I⟩:=l73.1 D;obtain⟨x,_,O⟩:=l73.1 I;obtain⟨o,_,rfl⟩:=l55.1 O;unfold x9c;split;exact .inl U;exact .inr U
 intro c D;unfold z2g at D;split at D;exact h c<|l120.1 D;exact h c D
def y4u (B:Bd)(d:Int):Nat->Int->St->St
  | 0,_,st=>st
  | n+1,r,st=>y4u B d n (r+stI d)<|(z2g B r d).foldl y7m st
def z7s (B:Bd)(r ro:Int)(st:St):St:=y4u B (if ro<r then 0 else 1) (if ro<r then r-ro else ro-r).toNat r st
def z4k:MSt->St->List MOp->St
  | _,st,[]=>st
  | p,st,o::l=>
    let st':=if o.k=3 then z7s p.B p.rk o.r st else st
    match doM p o with
      | .error _=>z4k p st' l
      | .ok q=>z4k q st' l
theorem x4y {p:MSt}(h:MInv p):(z3n p).Nodup:=(z7w p.B p.rk).nodup_iff.2 h.B.nd
theorem u4q:∀ {u v:List Int} {l:List Nat} {i k:Nat},lnk l (u++v) i k=lnk l u i k+lnk (flw l u) v i k
 | [],v,l,i,k=>by simp[lnk,flw]
 | x::u,v,l,i,k=>by
  show (if _ then sgn x else 0)+lnk (y7t l x.natAbs) (u++v) i k=(if _ then sgn x else 0)+lnk (y7t l x.natAbs) u i k+lnk (flw (y7t l x.natAbs) u) v i k
  rw[u4q,Int.add_assoc]
theorem k0s (l:List Nat)(u v:List Int):flw l (u++v)=flw (flw l u) v:=by unfold flw;rw[l123]
theorem v0g:∀ {u:List Int} {l:List Nat},(flw l u).length=l.length
 | [],_=>rfl
 | x::u,l=>by show (flw (y7t l x.natAbs) u).length=_;rw[v0g,y6m]
theorem u4g {l:List Nat}{i:Nat}{u:List Int}(hb:∀k∈u,1<=k.natAbs/\k.natAbs<l.length)(hi:i∈l):i∈flw l u:=by
 induction u generalizing l with
 | nil=>exact hi
 | cons x u ih=>
  have O:=hb x l35;refine ih (l:=y7t l x.natAbs) (λk I=>by rw[y6m];exact hb k<|l36 _ I) ?_;obtain⟨j,D,rfl⟩:=l29 hi;unfold y7t;by_cases j1:j=x.natAbs;refine l125.2 ⟨x.natAbs-1,?_⟩;subst j1;rw[l132 oo,l122 oo,List.getD,l10 D];rfl;by_cases j2:j=x.natAbs-1;refine l125.2 ⟨x.natAbs,?_⟩;subst j2;rw[l122 t34,List.getD,l10 D];rfl;refine l125.2 ⟨j,?_⟩;rw[l132 oo,l132 oo,l10 D]
structure Wd (f:Nat->LId) (l:List Nat) (u:List Int) (p q:MSt):Prop where
  ord:z3n q=(flw l u).map f
  bd:∀k∈u,1<=k.natAbs/\k.natAbs<l.length
  lk:∀i k,i∈l->k∈l->f i≠f k->lkC q.cr (f i) (f k)=lkC p.cr (f i) (f k)+lnk l u i k
theorem Wd.app {f:Nat->LId}{l:List Nat}{u v:List Int}{p q r:MSt}(h1:Wd f l u p q)(O:Wd f (flw l u) v q r):Wd f l (u++v) p r:=
 ⟨by rw[O.ord,k0s],λk I=>by
  rcases l23.1 I with h|h
  ·exact h1.bd k h
  ·have:=O.bd k h;rw[v0g]at this;exact this,λi k hi I D=>by
  rw[O.lk i k (u4g h1.bd hi) (u4g h1.bd I) D,h1.lk i k hi I D,u4q];omega⟩
theorem Wd.nil {f:Nat->LId}{l:List Nat}{p q:MSt}(h:z3n q=l.map f)(D:q.cr=p.cr):Wd f l [] p q:=⟨h,λk I=>(by cases I),λi k _ _ _=>by rw[D];show _=_+(0:Int);omega⟩
theorem v6b {f:Nat->LId}{p q:MSt}{d:Int}{l:List Nat}{w:List Int}(h:MInv p)(hd:d=0\/d=1)(hr:-4<=p.rk+stI d/\p.rk+stI d<=4)(e:z3l p d=.ok q)(ho:z3n p=l.map f) :
    ∃u,z3o (z3n p,w) (z2g p.B p.rk d)=(z3n q,w++u)/\(z2g p.B p.rk d).foldl y7m (z3n p,w)=(z3n q,w++u)/\Wd f l u p q:=by
  have Z:q.rk=p.rk+stI d/\q.B=p.B/\z3s p.cr (z2g p.B p.rk d)=.ok q.cr:=by
    unfold z3l at e
    split at e
    · cases e
    · split at e
      · cases e
      · rename_i hh;cases e;exact⟨rfl,rfl,hh⟩
  have ha:=v3x h.B.lf h.B.lb h.rk hd hr
  have O:z3n q=(z2m p.B<|p.rk+stI d).map Hd.id:=by unfold z3n;rw[Z.1,Z.2.1]
  obtain⟨u,h1,h2,h3,_,_,h6,_,_,h9⟩:=x4w (f:=f) (w:=w) (l:=l) ho (x4y h) ha<|j4h _ _ _
  rw[<-O]at h1 h2 h3
  refine⟨u,h1,h2,h3,λk D=>by have:=h6 k D;rw[ho,l18]at this;exact this,λi k hi D I=>?_⟩
  rw[v9e I Z.2.2,h9 i k hi D]
theorem v5k {B:Bd}{r ro:Int}(h:r≠ro)(st:St):z7v B r ro st=z7v B (r+stI (if ro<r then 0 else 1)) ro (z3o st<|z2g B r (if ro<r then 0 else 1)):=by
 unfold z7v;by_cases c:ro<r;simp only[if_pos c];obtain⟨m,I⟩:∃m:Nat,(r-ro).toNat=m+1:=⟨(r-ro).toNat-1,oo⟩;rw[I];have D:stI 0 = -1:=rfl;by_cases c2:ro<r+stI 0;rw[if_pos c2,if_pos c2,show (r+stI 0-ro).toNat=m by rw[D] at *;omega];rfl;rw[if_neg c2,if_neg c2,show (ro-(r+stI 0)).toNat=0 by rw[D] at *;omega,show m=0 by rw[D] at *;omega];rfl;simp only[if_neg c];obtain⟨m,I⟩:∃m:Nat,(ro-r).toNat=m+1:=⟨(ro-r).toNat-1,oo⟩;rw[I];have D:stI 1=1:=rfl;have c2:¬ro<r+stI 1:=by rw[D];omega
 rw[if_neg c2,if_neg c2,show (ro-(r+stI 1)).toNat=m by rw[D] at *;omega];rfl
theorem v1h {B:Bd}{r:Int}{st:St}:z7v B r r st=st:=by
 unfold z7v;rw[if_neg oo,if_neg oo,show (r-r).toNat=0 by omega];rfl
theorem v6s {B:Bd}{r ro:Int}(h:r≠ro)(st:St):z7s B r ro st=z7s B (r+stI (if ro<r then 0 else 1)) ro ((z2g B r (if ro<r then 0 else 1)).foldl y7m st):=by
 unfold z7s;by_cases c:ro<r;simp only[if_pos c];obtain⟨m,I⟩:∃m:Nat,(r-ro).toNat=m+1:=⟨(r-ro).toNat-1,oo⟩;rw[I];have D:stI 0 = -1:=rfl;by_cases c2:ro<r+stI 0;rw[if_pos c2,if_pos c2,show (r+stI 0-ro).toNat=m by rw[D] at *;omega];rfl;rw[if_neg c2,if_neg c2,show (ro-(r+stI 0)).toNat=0 by rw[D] at *;omega,show m=0 by rw[D] at *;omega];rfl;simp only[if_neg c];obtain⟨m,I⟩:∃m:Nat,(ro-r).toNat=m+1:=⟨(ro-r).toNat-1,oo⟩;rw[I];have D:stI 1=1:=rfl;have c2:¬ro<r+stI 1:=by rw[D];omega
 rw[if_neg c2,if_neg c2,show (ro-(r+stI 1)).toNat=m by rw[D] at *;omega];rfl
theorem y5s {B:Bd}{r:Int}{st:St}:z7s B r r st=st:=by
 unfold z7s;rw[if_neg oo,if_neg oo,show (r-r).toNat=0 by omega];rfl
theorem x7w {f:Nat->LId}{r:Int}(hr:-4<=r/\r<=4):∀ {n:Nat} {p q:MSt} {l:List Nat} {w:List Int},MInv p->p.rk-r<=n->r-p.rk<=n->z3p n p r=.ok q->z3n p=l.map f->
    ∃u,z7v p.B p.rk r (z3n p,w)=(z3n q,w++u)/\z7s p.B p.rk r (z3n p,w)=(z3n q,w++u)/\Wd f l u p q
  | 0,p,q,l,w,h,h1,h2,e,ho=>by
    cases e
    have:p.rk=r:=by omega
    rw[<-this,v1h,y5s]
    exact⟨[],t48,t48,Wd.nil ho U⟩
  | n+1,p,q,l,w,h,h1,h2,e,ho=>by
    unfold z3p at e
    by_cases e0:p.rk=r
    · rw[if_pos e0]at e
      cases e
      rw[<-e0,v1h,y5s]
      exact⟨[],t48,t48,Wd.nil ho U⟩
    · rw[if_neg e0]at e
      obtain⟨d,D⟩:∃d:Int,d=if r<p.rk then 0 else 1:=⟨_,rfl⟩
      rw[<-D]at e
      have hd:d=0\/d=1:=by rw[D];split<;>simp
      have Z:-4<=p.rk+stI d/\p.rk+stI d<=4:=by
        have:=h.rk
        rw[D];unfold stI
        split
        · rw[if_pos U];omega
        · rw[if_neg dd];omega
      have I:p.rk+stI d-r<=n/\r-(p.rk+stI d)<=n:=by
        rw[D];unfold stI
        split
        · rw[if_pos U];omega
        · rw[if_neg dd];omega
      split at e
      · cases e
      · rename_i p1 e1
        obtain⟨hi,O⟩:=z7z h Z e1
        have hB:p1.B=p.B:=by
          unfold z3l at e1
          split at e1
          · cases e1
          · split at e1
            · cases e1
            · cases e1;rfl
        obtain⟨u,a1,a2,a3⟩:=v6b (w:=w) h hd Z e1 ho
        obtain⟨v,b1,b2,b3⟩:=x7w (f:=f) hr (w:=w++u) hi (by rw[O];exact I.1) (by rw[O];exact I.2) e a3.ord
        rw[O,hB]at b1 b2
        rw[v5k e0,v6s e0,<-D,a1,a2,b1,b2,l14]
        exact⟨u++v,rfl,rfl,a3.app b3⟩
theorem j1f (B:Bd){n:Int}(h:1<=n/\n<=40):stk B.f n=B.at 0 n:=by unfold stk;rw[if_pos h];rfl
theorem u7e (B:Bd){n:Int}(h:1<=n/\n<=40):stk B.b n=B.at 1 n:=by unfold stk;rw[if_pos h];rfl
theorem v3q (B:Bd){b n:Int}(h:z3m b n=0)(s:List LId){m:Int}:stk (B.put b n s).f m=if 0=b/\m=n then s else stk B.f m:=by
 by_cases hm:1<=m/\m<=40;rw[j1f _ hm,j1f _ hm,z5d B h (y2i ⟨.inl U,hm.1,hm.2⟩)];have D:¬(0=b/\m=n):=λe=>hm (by have:=z2t h;omega);rw[if_neg D,z6j (h:=hm),z6j (h:=hm)]
theorem v4u (B:Bd){b n:Int}(h:z3m b n=0)(s:List LId){m:Int}:stk (B.put b n s).b m=if 1=b/\m=n then s else stk B.b m:=by
 by_cases hm:1<=m/\m<=40;rw[u7e _ hm,u7e _ hm,z5d B h (y2i ⟨.inr U,hm.1,hm.2⟩)];have D:¬(1=b/\m=n):=λe=>hm (by have:=z2t h;omega);rw[if_neg D,z6j (h:=hm),z6j (h:=hm)]
theorem v3w {p q:MSt}{o:MOp}(h:MInv p)(hq:MInv q)(e:doM p o=.ok q)(hk:o.k=7):z3n q=z3n p/\q.cr=p.cr:=by
 have a3:q.cr=p.cr:=by
  obtain⟨hc,e⟩:=x7b e;unfold opM at e;rw[if_neg oo,if_neg oo,if_neg oo,if_neg oo,if_neg oo,if_neg oo,if_pos hk]at e;unfold z5v at e;split at e;cases e;split at e;cases e;split at e;cases e;split at e;cases e;cases e;rfl
 refine⟨?_,a3⟩;have hc:=(x7b e).1;have hn:=(z3u hc).2.2.2.2.1 oo;obtain⟨h1,_,h3,h4,_,h6⟩:=u3o e hk;obtain⟨O,Z,a2⟩:=z2t hn;obtain⟨_,D,I⟩:=z2t h4;unfold z3n;rw[h1,y6h h.B.lf h.B.lb h.rk,y6h hq.B.lf hq.B.lb h.rk,h6];refine z6d λj _=>?_;rw[v3q _ h4,v3q _ hn,v4u _ h4,v4u _ hn];unfold y1t;rcases O with O|O
 rw[O];rw[O]at D I;have ho:z4l 0 o.p p.rk=o.p-p.rk:=rfl;rw[ho]at D I ⊢;have a0:=j1f p.B ⟨Z,a2⟩;have a1:=u7e p.B ⟨D,I⟩;by_cases c:(j:Int)-3=o.p;rw[if_neg (c:=(0:Int)=1-0/\_) oo,if_pos (c:=(0:Int)=0/\_) ⟨rfl,c⟩,if_pos (c:=(1:Int)=1-0/\_) ⟨oo,oo⟩,if_neg (c:=(0:Int)=1) oo,show (1:Int)-0=1 from U,<-a0,<-a1,l24,c];rw[if_neg (c:=(0:Int)=1-0/\_) oo,if_neg (c:=(0:Int)=0/\_) (λx=>c x.2),if_neg (c:=(1:Int)=1-0/\_) (λx=>c oo),if_neg (c:=(1:Int)=0/\_) oo];rw[O];rw[O]at D I;have ho:z4l 1 o.p p.rk=o.p+p.rk:=rfl;rw[ho]at D I ⊢;have a0:=u7e p.B ⟨Z,a2⟩;have a1:=j1f p.B ⟨D,I⟩;by_cases c:(j:Int)-3-p.rk=o.p;rw[if_pos (c:=(0:Int)=1-1/\_) ⟨oo,oo⟩,if_neg (c:=(1:Int)=1-1/\_) oo,if_pos (c:=(1:Int)=1/\_) ⟨rfl,c⟩,if_pos (c:=(1:Int)=1) U,show (1:Int)-1=0 from U,<-a0,<-a1,l43,c,show o.p+p.rk=(j:Int)-3 by omega];rw[if_neg (c:=(0:Int)=1-1/\_) (λx=>c oo),if_neg (c:=(0:Int)=1/\_) oo,if_neg (c:=(1:Int)=1-1/\_) oo,if_neg (c:=(1:Int)=1/\_) (λx=>c x.2)]
theorem u0y {f:Nat->LId}{p q:MSt}{o:MOp}{l:List Nat}{w:List Int}(h:MInv p)(e:doM p o=.ok q)(D:o.k=3\/o.k=7)(ho:z3n p=l.map f) :
    ∃u,(if o.k=3 then z7v p.B p.rk o.r (z3n p,w) else (z3n p,w))=(z3n q,w++u)/\(if o.k=3 then z7s p.B p.rk o.r (z3n p,w) else (z3n p,w))=(z3n q,w++u)/\Wd f l u p q:=by
  rcases D with D|D
  · obtain⟨hc,e⟩:=x7b e
    have Z:=(z3u hc).2.2.2.2.2 D
    unfold opM at e
    rw[if_neg oo,if_neg oo,if_pos D]at e
    have:=h.rk
    rw[if_pos D,if_pos D]
    exact x7w Z (n:=8) h oo oo e ho
  · obtain⟨I,O⟩:=v3w h (z8m h e) e D
    rw[if_neg oo,if_neg oo,I]
    exact⟨[],t48,t48,Wd.nil (I.trans ho) O⟩
theorem y6j {f:Nat->LId}:∀ {m:List MOp} {i:Nat} {p q:MSt} {l:List Nat} {w:List Int},MInv p->(∀o∈m,o.k=3\/o.k=7)->z2u i p m=.ok q->z3n p=l.map f->w.length<=64->
    ∃u,z9f p (z3n p,w) m=(if (w++u).length<=64 then some (z3n q,w++u) else none)/\z4k p (z3n p,w) m=(z3n q,w++u)/\Wd f l u p q
  | [],i,p,q,l,w,h,_,e,I,hw=>by
    cases e
    exact⟨[],by rw[l24,if_pos hw];rfl,t67,Wd.nil I U⟩
  | o::m,i,p,q,l,w,h,O,e,I,hw=>by
    unfold z2u at e
    split at e
    · cases e
    · rename_i p1 e1
      obtain⟨u,a1,a2,D⟩:=u0y (w:=w) h e1 (O o l35) I
      unfold z9f z4k
      simp only[a1,a2,e1]
      by_cases c:64<(w++u).length
      · have a0:∀ {m:List MOp} {i:Nat} {p q:MSt} {l:List Nat} {w:List Int},MInv p->(∀o∈m,o.k=3\/o.k=7)->z2u i p m=.ok q->z3n p=l.map f->∃u,z4k p (z3n p,w) m=(z3n q,w++u)/\Wd f l u p q:=by
          intro m
          induction m with
          | nil=>intro i p q l w h _ e I;cases e;exact⟨[],t67,Wd.nil I U⟩
          | cons o m ih=>
            intro i p q l w h O e I
            unfold z2u at e
            split at e
            · cases e
            · rename_i p1 e1
              obtain⟨u,_,a2,D⟩:=u0y (w:=w) h e1 (O o l35) I
              unfold z4k
              simp only[a2,e1]
              obtain⟨v,Z,b3⟩:=ih (w:=w++u) (z8m h e1) (λx hx=>O x<|l36 _ hx) e D.ord
              exact⟨u++v,by rw[Z,l14],D.app b3⟩
        obtain⟨v,Z,b3⟩:=a0 (w:=w++u) (z8m h e1) (λx hx=>O x<|l36 _ hx) e D.ord
        refine⟨u++v,?_,by rw[Z,l14],D.app b3⟩
        rw[if_pos c,if_neg]
        rw[<-l14,l13];omega
      · rw[if_neg c]
        obtain⟨v,b1,Z,b3⟩:=y6j (w:=w++u) (z8m h e1) (λx hx=>O x<|l36 _ hx) e D.ord oo
        exact⟨u++v,by rw[b1,l14],by rw[Z,l14],D.app b3⟩
end Go.G26
namespace Go.G26
open Go.Lw Go.G21 Go.G08
theorem u7o {l:List Nat}{k:Nat}(h:1<=k/\k<l.length):∃P a b S,l=P++a::b::S/\P.length=k-1/\y7t l k=P++b::a::S:=by
 obtain⟨m,rfl⟩:∃m,k=m+1:=⟨k-1,oo⟩;have D:m<l.length:=by omega
 refine⟨l.take m,l[m],l[m+1],l.drop<|m+2,?_,t19,?_⟩;rw[<-l33 h.2,<-l33 D,l25];have e:l=l.take m++l[m]::l[m+1]::l.drop (m+2):=by
  rw[<-l33 h.2,<-l33 D,l25]
 have hl:(l.take m).length=m:=by rw[l27];omega
 unfold y7t;have e1:l.getD (m+1) 0=l[m+1]:=by rw[List.getD,l10 h.2];rfl
 have e2:l.getD (m+1-1) 0=l[m]:=by rw[l87,List.getD,l10 D];rfl
 rw[e1,e2,l87];clear e1 e2;generalize l[m]=x,l[m+1]=y at e ⊢;generalize l.take m=P,l.drop (m+2)=S at e hl ⊢;subst e;rw[l56 _ _ oo,hl,l100,l56 _ _ oo,hl,l133];rfl
theorem u0m {l:List Nat}{k:Nat}(h:1<=k/\k<l.length):(y7t l k).Perm l:=by
 obtain⟨P,a,b,S,e,_,e2⟩:=u7o h;rw[e2,e];exact List.Perm.append_left P (List.Perm.swap ..)
theorem v2w:∀ {u:List Int} {l:List Nat},(∀k∈u,1<=k.natAbs/\k.natAbs<l.length)->(flw l u).Perm l
 | [],_,_=>.refl _
 | x::u,l,h=>by
  have I:=h x l35
  show (flw (y7t l x.natAbs) u).Perm l
  exact(v2w (l:=y7t l x.natAbs) λk D=>by rw[y6m];exact h k<|l36 _ D).trans<|u0m I
def prmJ (l:List Nat)(j:Nat):List Nat:=(List.range l.length).map λi=>if l.idxOf i<j then l.idxOf i+1 else 0
def j2x (l:List Nat):List Nat:=prmJ l l.length
theorem z8h {l:List Nat}(hp:l.Perm (List.range l.length)){f:Nat->LId}{i:Nat}(hi:i<l.length):1<=(j2x l).getD i 0/\(j2x l).getD i 0<=l.length/\(l.map f).getD ((j2x l).getD i 0-1) id0=f i:=by
 have D:i∈l:=hp.mem_iff.2<|l91.2 hi;have I:l.idxOf i<l.length:=List.idxOf_lt_length_iff.2 D;have e:(j2x l).getD i 0=l.idxOf i+1:=by
  unfold j2x prmJ;rw[List.getD,l26,List.getElem?_range hi];show (if _ then _ else _)=_;rw[if_pos I]
 rw[e];refine⟨oo,oo,?_⟩;rw[l87,List.getD,l26,l10 I];show f l[l.idxOf i]=f i;rw[List.getElem_idxOf I]
end Go.G26
namespace Go.Proofs.YtkafbfjmcigaiaaGreatDoor
open Go.Lw Go.G21 Go.G08 Go.G09 Go.G26 _root_.Go.Proofs.Tryz
def k8s (n:Nat)(u:List Int):Prop:=∀k∈u,1<=k.natAbs/\k.natAbs<n
theorem j7r (n:Nat)(v:Value)(u:List Int)(w0:World)(I:Sl Enc.i64 w0 v u)(hn:1<=n/\n<=8)(hl:u.length<=64)(hk:k8s n u):Rets prog 82 #[.int .i64 (n:Int),v] w0 λr w'=>r=.int .i64 0/\Fr [] w0 w':=by
 obtain⟨A,c,rfl,a1⟩:=id I.form;refine wf func82 U ?_;have O:=I;refine sr<|asg U<|nn<|sq<|sq<|rbo (r:=12) (L':=ll2 0 1) ((((n:Int)<1)\/(8<(n:Int)))) U ?_ ?_;refine mv U<|lt' U<|mv U<|gs 9 U (λg0=>?_)<|λg0=>?_;exact gN U<|gN U<|pkt U<|rbe U<|U;exact gY U<|mv U<|gY U<|gt' U<|pkf U<|rbe U<|U;refine tn<|cd U (λc0=>?_)<|λc0=>?_;exfalso;omega;refine sk<|tn<|sq<|sr<|mv U<|lnS U<|gt' U<|nn<|cd U (λc1=>?_)<|λc1=>?_;exfalso;omega;refine sk<|tn<|sq<|sr<|mv U<|lnS U<|mv U<|nn<|bl<|lpK (ι:=Nat) (ll3 0 16 17) (λi=>[(18,.int .i64 (i:Int))]) (λi w'=>Fr [] w0 w'/\i<=u.length/\True) (λi=>u.length-i) 0 U ⟨l12 _ _,⟨l16 _,trivial⟩⟩ ?_;rintro i w1 ⟨Z,⟨hi,_⟩⟩;refine kpC (ll4 0 16 17 18) U<|sr<|lt' U<|nn<|sq<|cd U (λc2=>?_)<|λc2=>?_;have a2:=hk (u.getD i 0)<|z1b (d:=0) oo;refine sk<|tn<|sq<|bl<|sr ?_;have I:=O.ext Z;refine z1a (0) U I U y1e z1j<|λa0 D=>?_;refine z1c U (D _ I) na3<|asg U<|nn<|sq<|rbo (r:=35) (L':=ll4 0 16 17 18) (((((u.getD i 0)=0)\/((u.getD i 0)<(1-(n:Int))))\/(((n:Int)-1)<(u.getD i 0)))) U ?_ ?_;refine mv U<|eq' U<|mv U<|gs 24 U (λg1=>?_)<|λg1=>?_;exact gN U<|gN U<|gN U<|gN U<|pkt U<|mv U<|gN U<|gN U<|gN U<|gN U<|pkt U<|rbe U<|U;refine gY U<|mv U<|gY U<|mv U<|gY U<|z2i U (wi6 oo)<|gY U<|lt' U<|pkf U<|mv U<|gs 30 U (λg2=>?_)<|λg2=>?_;exact gN U<|gN U<|gN U<|gN U<|pkt U<|rbe U<|U;exact gY U<|mv U<|gY U<|mv U<|gY U<|z2i U (wi6 oo)<|gY U<|gt' U<|pkf U<|rbe U<|U;refine tn<|cd U (λc3=>?_)<|λc3=>?_;exfalso;omega;exact sk<|bn'<|tn<|rg<|ad6 U<|mv U<|nl<|lpE (i+1) U ⟨Z,⟨oo,trivial⟩⟩ oo;obtain rfl:i=u.length:=by omega
 exact ex<|te<|te<|xh<|tn<|sr<|asg U<|nn<|rt<|r1 U ⟨_,rfl,rfl,Z⟩
end Go.Proofs.YtkafbfjmcigaiaaGreatDoor
namespace Go.G26
open Go.Lw Go.G21 Go.G08
structure LkA where
  gb:Nat
  gT:Nat
  n:Nat
  b0:Nat
  HS:List SV
  G:Nat->Nat
section
variable {T2 T1 T0:Nat} {a:LkA} {w w':World} {M M':Nat->Nat->Int} {S:List Nat}
end
section
variable {T0 base n m:Nat} {w w':World} {G:Nat->Nat} {S:List Nat}
end
def lkM (n:Nat)(u:List Int)(i:Nat):Nat->Nat->Int:=λa b=>lnk (List.range n) (u.take i) a b
end Go.G26
namespace Go.Proofs.YtkafbfjmcigaiaaGreatDoor
open Go.Lw Go.G21 Go.G08 Go.G09 Go.G26 _root_.Go.Proofs.Tryz
theorem y7u {l:List Cx}{a b:LId}(hn:∀j,j<l.length->isC a b (l.getD j cx0)=false):z5l l a b=0:=by
 unfold z5l;rw[List.find?_eq_none.2 λc I=>?_];rfl;obtain⟨j,D,rfl⟩:=l29 I;have:=hn j D;rw[List.getD,l10 D,l59]at this;rw[this];decide
end Go.Proofs.YtkafbfjmcigaiaaGreatDoor
namespace Go.G26
open Go.Lw Go.G21 Go.G08
theorem v0m {l:List LId}{x:LId}:0<=y2h l x↔x∈l:=by
 unfold y2h;split;rename_i h;exact⟨λ_=>h,λ_=>oo⟩;rename_i h;exact⟨λD=>oo,λD=>absurd D h⟩
theorem k4q {q:BdQ}(O:BdOk q.p){x:Bool×Nat}{y:LId}(h:y∈((q.r x.1).getD x.2 iq0).2):z3m (y2c x.1) ((x.2:Int)+1)=0/\y∈q.p.at (y2c x.1) ((x.2:Int)+1):=by
 have I:x.2<(q.r x.1).length:=l63 λhn=>by rw[x7c oo]at h;cases h
 have D:(q.r x.1).length<=40:=by
  have Z:=O.lf;have h2:=O.lb;simp only[plB,l18]at Z h2;cases x.1<;>assumption
 have e:((x.2:Int)+1-1).toNat=x.2:=by omega
 obtain⟨a,k⟩:=x;cases a;refine⟨by unfold z3m;rw[if_neg sp0,if_neg (by simp only at I D ⊢;omega)],?_⟩;show y∈(plB q.fs).getD ((k:Int)+1-1).toNat [];rw[e,z3q];exact h;refine⟨by unfold z3m;rw[if_neg sp0,if_neg (by simp only at I D ⊢;omega)],?_⟩;show y∈(plB q.bs).getD ((k:Int)+1-1).toNat [];rw[e,z3q];exact h
theorem u1r {l:List IQ}{y:LId}(h:y∈(plB l).flatten):∃k,k<l.length/\y∈(l.getD k iq0).2:=by
 obtain⟨s,I,O⟩:=List.mem_flatten.1 h;obtain⟨k,D,rfl⟩:=l29 I;rw[show (plB l).length=l.length from l18 ..]at D;refine⟨k,D,?_⟩;rw[<-z3q,List.getD,l10 (by rw[show (plB l).length=l.length from l18 ..];exact D)];exact O
theorem j3w {q:BdQ}{y:LId}(h:∀x∈ndP q [false,true],¬0<=y2h ((q.r x.1).getD x.2 iq0).2 y):y∉q.p.flat:=λhy=>by
 have Z:∀a k,k<(q.r a).length->(a,k)∈ndP q [false,true]:=λa k D=>by
  unfold ndP
  refine l73.2 ⟨a,by cases a<;>simp,?_⟩
  unfold ndR
  exact l55.2 ⟨k,l91.2 D,rfl⟩
 rcases l23.1 hy with I|I
 ·obtain⟨k,D,O⟩:=u1r I
  exact h (false,k) (Z _ _ D)<|v0m.2 O
 obtain⟨k,D,O⟩:=u1r I
 exact h (true,k) (Z _ _ D)<|v0m.2 O
end Go.G26
namespace Go.Lw
open Go.RowKit
section
variable {P:Program} {n N:Nat} {L:List (Nat×Value)} {ds:List Nat} {w:World} {R:Ending->World->Prop} {fn:Func} {p pt p2 pt2 g g2:Nat} {T T2:TypeId} {cs:List Value} {z:Value}
theorem rMCN (hr:fn.results=#[.cell p pt,.cell p2 pt2])(hp:look L p=some (pta g))(hb:Blk w g T cs)(hg:z4f P pt cs.length)(a1:look L p2=some (pta g2))(O:Blk w g2 T2 [z])(Z:z2e P pt2)(I:∀D∈ds,w.heap[D]?=some (.deferred<|some []))(a0:ds.Nodup)(k:∀w',Fr ds w w'->R (.returned<|.tuple #[.agg cs.toArray,z]) w'):EW (bodyPostM (Fo none) N P fn R) .ret n ds w L:=λa h=>by
 show LeavesInM _ _ _ _ _ _ a.defers _ _
 rw[h.dfr]
 refine z7i ds w I a0 (λw' hf=>?_) k
 have h1:=h.at_ p _ hp
 have h2:=h.at_ p2 _ a1
 simp only[l47]at h1 h2
 have hc:w'.cell? ⟨g2,0,none⟩=some z:=(y3e O I hf).cells 0 z U
 simp[results,hr,h1,h2,asAddr,loadVar,hg.1 w',hg.2 w',Z w',hc,run_loadCells_list w' _ cs (y3e hb I hf).cells]
end
end Go.Lw
namespace Go.Proofs.YtkafbfjmcigaiaaGreatDoor
open Go.Lw Go.G21 Go.G08 Go.G09 Go.G26 _root_.Go.Proofs.Tryz
theorem j5b (v:Value)(l:List LId)(x:LId)(w0:World)(D:Sl z1h w0 v l)(hl:l.length<=100000):Rets prog 25 #[v,ivv x] w0 λr w'=>r=.bool (decide (0<=y2h l x))/\Fr [] w0 w':=by
 obtain⟨A,k,rfl,hk⟩:=id D.form;refine wf func25 U ?_;have O:=D;refine sr<|bx U<|λg3 w1 a0 I Z z1=>(asg U<|nn<|sr<|mv U<|z0l U I z2y ?_);have D:=O.ext Z;refine cl (ev2 U) cO (j3q _ l x _ D hl) ?_;rintro _ w2 ⟨rfl,q2⟩;exact ge' U<|asg U<|kpL (ll1 4) U<|nn<|rt<|r1 U ⟨_,rfl,rfl,(Z.n1 q2)⟩
theorem y4x (q:BdQ)(y:LId)(w0:World)(hB:BdAt w0 q)(hv:BdOk q.p):Rets prog 9 #[bvv q,ivv y] w0 λr w'=>(∃b p e:Int,r=.tuple #[.agg #[.int .u8 b,.int .i64 p],.int .i64 e]/\(y∈q.p.flat->z3m b p=0/\y∈q.p.at b p))/\Fr [] w0 w':=by
 obtain⟨⟨hf,hb⟩,h4,d3⟩:=z3f hv;refine wfM func9 U ?_;have a5:=hB;refine isq<|irg U<|bx U<|λg2 w1 d4 a8 q1 z1=>(bx U<|λg3 w2 d5 a9 q2 z2=>(al x4f U<|λg4 w3 d6 D q3 z3=>(al zv41 U<|λg5 w4 d7 I q4 z4=>(inl<|itn<|isq<|isq<|irg U ?_))));have a8:=a8.ext<|q2.n2 q3 q4;refine z0l U a8 z4y<|cl (ev1 U) cO (y4h q _) ?_;rintro _ w5 ⟨g9,rfl,d1,b3,q5⟩;have z5:=q5.size;refine inl<|itn<|ibl ?_;have c1:∀b∈bdB q,b<w0.heap.size:=BdS.lt a5.s;have hB:=a5.ext<|q1.n4 q2 q3 q4 q5;refine k7u (α:=Bool×Nat) U cO dd (y1q 8 g9 q w5 dd b3 hB.s hf hb) (BdS.lt hB.s) (λ_=>rfl) (λx=>[(11,.slice ((q.r x.1).getD x.2 iq0).1.1 ((q.r x.1).getD x.2 iq0).1.2.1 ((q.r x.1).getD x.2 iq0).1.2.2),(10,.agg #[.int .u8 (y2c x.1),.int .i64 ((x.2:Int)+1)])]) (λx=>by simp[ndE,slv]) (λ_=>rfl) (λ(s:List (Bool×Nat)) (W:World)=>Fr [] w5 W/\∀z∈s,¬0<=y2h ((q.r z.1).getD z.2 iq0).2 y) (λ(_:List (Bool×Nat)) (W:World)=>Fr [g4,g5] w5 W/\(∃b p:Int,(z3m b p=0/\y∈q.p.at b p)/\Blk W g4 48 [.int .u8 b,.int .i64 p])/\Blk W g5 41 [.int .i64 0]) (λs W W' ht h=>⟨h.1.turn ht<|l20 _,h.2⟩) (λs W W' ht h=>⟨h.1.turn ht<|l20 _,⟨⟨h.2.1.choose,h.2.1.choose_spec.choose,h.2.1.choose_spec.choose_spec.1,h.2.1.choose_spec.choose_spec.2.turn ht⟩,h.2.2.turn ht⟩⟩) (λs W h=>h.1.size) ⟨l12 _ _,(λz hz=>by cases hz)⟩ 48 (λx=>[.int .u8 (y2c x.1),.int .i64 ((x.2:Int)+1)]) (λg x=>[(6,pta g),(7,.slice ((q.r x.1).getD x.2 iq0).1.1 ((q.r x.1).getD x.2 iq0).1.2.1 ((q.r x.1).getD x.2 iq0).1.2.2)]) (ll3 3 4 5) U ?_ ?_ ?_ ?_;rintro lN pre x w6 ⟨q6,a2⟩ e5;refine x6n [(10,.agg #[.int .u8 (y2c x.1),.int .i64 ((x.2:Int)+1)]),(11,.slice ((q.r x.1).getD x.2 iq0).1.1 ((q.r x.1).getD x.2 iq0).1.2.1 ((q.r x.1).getD x.2 iq0).1.2.2),(3,_),(4,_),(5,_)] U<|isq<|irg U<|al x4f U<|λg6 w7 d0 Z q7 z7=>?_;refine z0j (vs:=[_,_]) U Z y2m (λw8 Z q8 z8=>?_) (h1:=t26);exact inl<|itn<|irg U<|asg U<|inl<|asE g6 oo U Z<|q7.z1 q8;rintro lN pre x g6 w9 d9 d0 Z ⟨q9,a2⟩ e0 e3;have z9:=q9.size;have b9:=Z.lt;have e4:(q.r x.1).length<=40:=by cases x.1<;>assumption
 have e6:=z4a (show z9v (q.r x.1) by cases x.1<;>assumption) x.2;have e7:((q.r x.1).getD x.2 iq0).1.2.1=((q.r x.1).getD x.2 iq0).2.length:=z2f<|z1y (a5.iq x.1) x.2;refine ibl<|isq<|irg U<|mv U ?_;have a9:=a9.ext<|q3.n3 q4 q5 q9;refine z0l U a9 z2y ?_;have hB:=a5.ext<|q1.n5 q2 q3 q4 q5 q9;refine cl (ev2 U) cO (j5b _ ((q.r x.1).getD x.2 iq0).2 y _ (z1y (hB.iq x.1) x.2) oo) ?_;rintro _ e8 ⟨rfl,a0⟩;have f8:=a0.size;refine inl<|itn<|icd U (λc0=>?_)<|λc0=>?_;refine isq<|irg U ?_;have Z:=Z.ext a0;refine z0l U Z z5k ?_;have D:=D.ext<|q4.n3 q5 q9 a0;refine z0j (vs:=[_,_]) U D y2m (λe9 D b0 f9=>?_) (h1:=t26);have I:=(I.ext<|q5.n2 q9 a0).fr b0;refine z3i U I U k8l<|λf0 I b1 g0=>(inl<|itn<|irt<|rb ?_);have D:=D.fr b1;exact rndR (S:=[g4,g5]) ((l12 [g4,g5] _).z3 a0 b0 b1) (by intro k hk _;right;simp at hk;omega) ⟨((l12 [g4,g5] _).z4 q9 a0 b0 b1),⟨⟨_,_,k4q hv<|v0m.1 c0,D⟩,I⟩⟩;exact isk<|bn'<|j6s (S:=[]) a0 sp0 (λb hb=>l99 (c1 b hb) oo) (λb hb e=>by simp at e) ⟨(q9.n1 a0),(λz hz=>(l23.1 hz).elim (a2 z) (λhz=>by cases l11.1 hz;exact c0))⟩;rintro D1 f7 f1 c9 hS ⟨a4,a2⟩ O;have g1:=a4.size;have a1:=O;have a3:=O.lt;subst hS;refine bn'<|itn<|isq<|irg U<|z1r (cs:=[_,_]) z0f y8v z0r U ?_;have D:=D.ext<|q4.n2 q5 a4;refine z0j (vs:=[_,_]) U D y2m (λf2 D a6 g7=>?_) (h1:=t26);have I:=(I.ext<|q5.n1 a4).fr a6;refine z3i U I U k8l<|λf3 I a7 g8=>(inl<|itn<|irt ?_);have D:=D.fr a7;have O:=a1.fr ((l12 [g4,g5] _).z2 a6 a7) so;refine rMCN U U D z5k U I k8m (x0i O) sp0 ?_;intro f4 b5;first|exact⟨_,rfl,⟨b_,p_,_,rfl,λ_=>b4⟩,(((q1.z6 q2 q3 q4 q5 a4 a6).z1 a7).z1 b5)⟩|exact⟨_,rfl,⟨_,_,_,rfl,λh=>absurd h<|j3w a2⟩,(((q1.z6 q2 q3 q4 q5 a4 a6).z1 a7).z1 b5)⟩
 rintro D1 _ f5 c9 _ ⟨b2,⟨⟨b_,p_,b4,D⟩,I⟩⟩ O;have h0:=b2.size;have a1:=O;have a3:=O.lt;have b7:=D.lt;have b8:=I.lt;refine rb<|tr<|rMCN U U D z5k U I k8m (x0i O) sp0 ?_;intro f6 b6;first|exact⟨_,rfl,⟨b_,p_,_,rfl,λ_=>b4⟩,(q1.z6 q2 q3 q4 q5 b2 b6)⟩|exact⟨_,rfl,⟨_,_,_,rfl,λh=>absurd h<|j3w a2⟩,(q1.z6 q2 q3 q4 q5 b2 b6)⟩
open Go.Lw Go.G21 Go.G08 _root_.Go.Proofs.Tryz
theorem v1g {l1 l2:List IQ}{D I:Nat}(h1:D<=l1.length)(Z:I<=l2.length)(e1:(plB l1).take D=z1x (plB l1))(e2:(plB l2).take I=z1x (plB l2))(O:z1x (plB l1)=z1x (plB l2)):(l1.take D).length=(l2.take I).length/\∀i,((l1.take D).getD i iq0).2=((l2.take I).getD i iq0).2:=by
 have e:plB (l1.take D)=plB (l2.take I):=by
  show (l1.take D).map Prod.snd=(l2.take I).map Prod.snd;rw[List.map_take,List.map_take];exact e1.trans<|O.trans e2.symm
 refine⟨by have:=congrArg List.length e;simpa only[plB,l18] using this,λi=>?_⟩;rw[<-z3q,<-z3q,e]
open Go.Lw Go.G21 Go.G08 Go.G09 Go.G26 _root_.Go.Proofs.Tryz
theorem co9:CallOf prog 9:=cO
theorem j1l {l:List MOp}{o:MOp}(h:isP l=true)(ho:isP [o]=true):isP (l++[o])=true:=by
 unfold isP at *;rw[List.all_append,h,ho];rfl
theorem k6z {w':World}{p:MSt}{o:MOp}{N base:Nat}{A:Option Addr}{ws:List Int}{s':StQ}(h:BrR w' p [o] N base A ws s' 0):isP [o]=true:=by
 cases e:isP [o] with
 | true=>rfl
 | false=>exact absurd (h.er 1<|v4q e).1 dd
theorem k0x (s:StQ)(p:MSt)(N:Nat)(M:Option Addr)(cM:Nat)(bs:List UInt8)(w0:World)(Z:StK UK w0 s)(hP:StP s p N)(hN:N<=100)(hs:Sl Enc.b w0 (.slice M bs.length cM) bs)(b3:StT w0):Rets prog 7 #[svv s,.slice M bs.length cM] w0 λr w'=>(∃(A:Option Addr) (l:List MOp) (c:Nat),r=.slice A l.length c/\Lw.Own z3c 50 w0.heap.size w' (.slice A l.length c) l/\isP l=true/\l.length<=24/\∃m,z2u 0 (nrm p) l=.ok m)/\Fr [] w0 w':=by
 have f4:=hs.len_le;unfold maxLen at f4;refine wf func7 U ?_;have e8:=hs;have d0:=b3;refine sr<|bx U<|λg2 w1 i8 D q1 z1=>(asg U<|nn<|sr<|asg U<|nn<|sq<|sr<|asg U<|nn<|bl ?_);have Z:=Z.ext q1;refine lpK (ι:=Nat×StQ×Value) (ll2 1 2) (λp_=>[(6,.int .i64 (p_.1:Int)),(5,p_.2.2)]) (λp_ w'=>Fr [] w0 w'/\(p_.1<=bs.length/\p_.1<=24)/\Blk w' g2 36 (stL p_.2.1)/\StK UK w' p_.2.1/\∃(l:List MOp) (qi m:MSt),(isP l=true/\l.length<=p_.1/\z2u 0 (nrm p) l=.ok m/\Eqv m qi/\StP p_.2.1 qi (N+p_.1))/\Lw.Own z3c 50 w0.heap.size w' p_.2.2 l) (λp_=>24-p_.1) (0,s,_) U ⟨q1,⟨⟨l16 _,l16 _⟩,D,Z,[],p,nrm p,⟨rfl,l20 _,rfl,(y4k hP.v).symm,hP⟩,Own.nil _⟩⟩ ?_;rintro⟨i,si,vP⟩ w2 ⟨q2,⟨⟨e3,e4⟩,D,Z,l,qi,m,⟨hil,hll,hru,hE,hPi⟩,ho⟩⟩;simp only at e3 e4 D Z hll hPi ho;have z2:=q2.size;have e9:=D.lt;refine kpC [(1,_),(2,_),(6,.int .i64 (i:Int)),(5,vP)] U<|sq<|sq<|rbo (r:=23) (L':=ll4 1 2 5 6) ((((i:Int)<(bs.length:Int))/\((i:Int)<24))) U ?_ ?_;refine mv U<|mv U<|lnS U<|lt' U<|mv U<|gs 20 U (λg0=>?_)<|λg0=>?_;exact gY U<|mv U<|gY U<|lt' U<|pkt U<|rbe U<|U;exact gN U<|gN U<|pkf U<|rbe U<|U;refine tn<|cd U (λc0=>?_)<|λc0=>?_;have a5:g2∉z0v vP:=ho.neB D dd;have f6:=(bs.getD i 0).toNat_lt;refine sk<|tn<|sq<|bl<|sr<|mv U<|mv U ?_;have hs:=e8.ext q2;refine z1a (0) U hs U y5c z1j<|λh2 d6=>?_;refine z1c U (d6 _ hs) na5<|v6v U U t44 U<|z4c U (us underlying5) underlying3 (wi6 oo)<|asg U<|kpL (ll5 1 2 5 6 7) U<|nn<|sr<|mv U<|y5q U t32<|z2i U (wi6 oo)<|z1r (cs:=[_,_,_,_,_,_]) (ev2 U) x8f (z0g U<|z0g U z0r) U ?_;refine al u5d U<|λg8 w3 i9 O q3 z3=>?_;refine z0j (vs:=[_,_,_,_,_,_]) U O v5u (λw4 O q4 z4=>?_) (h1:=t24);refine nn<|jn (ι:=MOp) (ll5 1 2 5 6 8) (λo_=>[]) (λo_ w'=>Fr [g8] w4 w'/\Blk w' g8 50 [.int .u8 o_.k,.int .u8 o_.d,.int .u8 o_.b,.int .i64 o_.p,.int .u8 o_.y,.int .i64 o_.r]) U ?_ ?_;refine sq<|rbo (r:=48) (L':=ll6 1 2 5 6 7 8) ((((((bs.getD i 0).toNat:Int) % 2)=1)/\(0<(si.fb.h.2.1:Int)))) U ?_ ?_;refine mv U<|mv U ?_;have hs:=e8.ext<|q2.z2 q3 q4;refine z1a (0) U hs U y5c z1j<|λh3 d7=>?_;refine z1c U (d7 _ hs) na5<|y5q U t32<|eq' U<|mv U<|gs 42 U (λg1=>?_)<|λg1=>?_;refine gY U<|fad U z6b<|gY U<|y8g U z8a U<|gY U ?_;have D:=(D.ext q3).fr q4;exact z0i U D U z6k<|gY U<|lnS U<|gY U<|gt' U<|pkt U<|rbe U<|U;exact gN U<|gN U<|gN U<|gN U<|gN U<|pkf U<|rbe U<|U;refine tn<|cd U (λc1=>?_)<|λc1=>?_;have Z:=(Z.ext q3).fr q4 t30;have j0:=z2f Z.at.f.h;have f6:=(bs.getD i 0).toNat_lt;obtain⟨jj,j1⟩:∃jj:Nat,(jj:Int)=((bs.getD i 0).toNat:Int) / 2 % (si.fb.h.2.1:Int):=⟨(((bs.getD i 0).toNat:Int) / 2 % (si.fb.h.2.1:Int)).toNat,Int.toNat_of_nonneg<|Int.emod_nonneg _ oo⟩;have j2:=Int.emod_lt_of_pos (((bs.getD i 0).toNat:Int) / 2) (show (0:Int)<(si.fb.h.2.1:Int) by omega);refine sq ?_;have D:=(D.ext q3).fr q4;intro a h;refine rgh none (Fr []) ?_;intro w5 q5 hC;have z5:=q5.size;have D:=D.ext q5;have Z:=Z.ext q5;have a1:=D;have b2:=Z;refine z0c 0 h U z7f U λa h=>z1f (vs:=[_,_]) 1 h U (fx a1.ext) z4y U U λa h=>z0c 2 h U z6b U λa h=>z4r 3 h U z8a U λa h=>z0m 4 h U (fx a1.ext) U z6k U λa h=>z0e 5 h U λa h=>z0c 6 h U z6b U λa h=>z4r 7 h U z8a U λa h=>z0m 8 h U (fx a1.ext) U z6k U λa h=>z8b 9 hC h wn U underlying32 U λa h=>u0s 10 hC h wn U U t32 U U λa h=>z1d (p:=jj) (id0) 11 h U Z.at.f.h U z4m U λh4 d9 a h=>z1z 12 h wn U (λ_ hw=>d9 _<|b2.at.f.h.ext hw) z2y U λa h=>z1v 13 17 kr U ?_ ?_;refine z0n h (z0a U<|z0a U z0f) co9 (y4x si.q (si.fb.hs.getD jj id0) _ Z.at.b (hPi.BE▸hPi.v.inv.B)) ?_;rintro _ w6 ⟨⟨b_,p_,e_,rfl,-⟩,q6⟩ a h;have z6:=q6.size;have hC:=hC.next q6;refine z0b<|z0e 14 h U λa h=>z0k 15 h U λa h=>z0k 16 h U λa h=>z0d 17 U<|z0u h x4f U λw7 a0 q7 hz a h=>?_;obtain⟨d3,hg⟩:∃g,g=w6.heap.size:=⟨_,rfl⟩;rw[<-hg]at a0 h hz;have z7:=q7.size;have Z:=Z.ext<|q6.n1 q7;have hC:=hC.next q7;refine z0b<|z0d 18 U<|z0t h U a0 U y2m ?_ (h1:=t24);intro w8 b4 q8 hz a h;have z8:=q8.size;have Z:=Z.fr q8 t30;have hC:=hC.sp q8;have a0:Blk w8 d3 _ [_,_]:=b4;clear b4;refine z0b<|z0d 19 U<|z0o h U λa h=>?_;refine z0b<|z0q ?_;clear hC a1 b2;refine xB (ll6 1 2 5 6 8 9) h U<|tn<|rg<|z0l U a0 z5k<|z1r (cs:=[_,_,_,_,_,_]) (ev2 U) x8f (z0g U<|z0g U z0r) U ?_;have O:=(O.ext<|q5.n2 q6 q7).fr q8;refine z0j (vs:=[_,_,_,_,_,_]) U O v5u (λw9 O q9 z9=>?_) (h1:=t24);exact nl<|jE (_) U ⟨((l12 [g8] _).z5 q5 q6 q7 q8 q9),(show Blk _ g8 _ [.int .u8 (⟨7,0,b_,p_,0,0⟩:MOp).k,.int .u8 (⟨7,0,b_,p_,0,0⟩:MOp).d,.int .u8 (⟨7,0,b_,p_,0,0⟩:MOp).b,.int .i64 (⟨7,0,b_,p_,0,0⟩:MOp).p,.int .u8 (⟨7,0,b_,p_,0,0⟩:MOp).y,.int .i64 (⟨7,0,b_,p_,0,0⟩:MOp).r] from O)⟩;refine z0u h x4f U λj7 a0 b5 hz a h=>?_;obtain⟨d3,hg⟩:∃g,g=w5.heap.size:=⟨_,rfl⟩;rw[<-hg]at a0 h hz;have l2:=b5.size;have Z:=Z.ext b5;have hC:=hC.next b5;refine z0b<|z0d 13 U<|z0n h (z0a U<|z0a U z0f) co9 (y4x si.q (si.fb.hs.getD jj id0) _ Z.at.b (hPi.BE▸hPi.v.inv.B)) ?_;rintro _ j8 ⟨⟨b_,p_,e_,rfl,-⟩,q11⟩ a h;have l3:=q11.size;have Z:=Z.ext q11;have a0:=a0.ext q11;have hC:=hC.next q11;refine z0b<|z0e 14 h U λa h=>z0k 15 h U λa h=>z0k 16 h U λa h=>z0d 18 U<|z0t h U a0 U y2m ?_ (h1:=t24);intro h0 b4 b6 hz a h;have l4:=b6.size;have Z:=Z.fr b6 t30;have hC:=hC.sp b6;have a0:Blk h0 d3 _ [_,_]:=b4;clear b4;refine z0b<|z0d 19 U<|z0o h U λa h=>?_;refine z0b<|z0q ?_;clear hC a1 b2;refine xB (ll6 1 2 5 6 8 9) h U<|tn<|rg<|z0l U a0 z5k<|z1r (cs:=[_,_,_,_,_,_]) (ev2 U) x8f (z0g U<|z0g U z0r) U ?_;have O:=(O.ext<|q5.n2 b5 q11).fr b6;refine z0j (vs:=[_,_,_,_,_,_]) U O v5u (λj9 O g7 l5=>?_) (h1:=t24);exact nl<|jE (_) U ⟨((l12 [g8] _).z5 q5 b5 q11 b6 g7),(show Blk _ g8 _ [.int .u8 (⟨7,0,b_,p_,0,0⟩:MOp).k,.int .u8 (⟨7,0,b_,p_,0,0⟩:MOp).d,.int .u8 (⟨7,0,b_,p_,0,0⟩:MOp).b,.int .i64 (⟨7,0,b_,p_,0,0⟩:MOp).p,.int .u8 (⟨7,0,b_,p_,0,0⟩:MOp).y,.int .i64 (⟨7,0,b_,p_,0,0⟩:MOp).r] from O)⟩;exact sk<|jE (_) U ⟨(l12 _ _),(show Blk _ g8 _ [.int .u8 (⟨3,0,0,0,0,((bs.getD i 0).toNat:Int) / 2 % 9-4⟩:MOp).k,.int .u8 (⟨3,0,0,0,0,((bs.getD i 0).toNat:Int) / 2 % 9-4⟩:MOp).d,.int .u8 (⟨3,0,0,0,0,((bs.getD i 0).toNat:Int) / 2 % 9-4⟩:MOp).b,.int .i64 (⟨3,0,0,0,0,((bs.getD i 0).toNat:Int) / 2 % 9-4⟩:MOp).p,.int .u8 (⟨3,0,0,0,0,((bs.getD i 0).toNat:Int) / 2 % 9-4⟩:MOp).y,.int .i64 (⟨3,0,0,0,0,((bs.getD i 0).toNat:Int) / 2 % 9-4⟩:MOp).r] from O)⟩;rintro o k0 ⟨a6,O⟩;have l6:=a6.size;have f0:=O.lt;refine kpC (ll5 1 2 5 6 8) U<|sr ?_;have D:=((D.ext q3).fr q4).fr a6;refine z0l U D z8i<|z0l U O y3t ?_;have Z:=((Z.ext q3).fr q4 t30).fr a6 t30;have b3:=d0.ext<|q2.z3 q3 q4 a6;refine cl (ev2 U) cO (v4i si qi (N+i) o _ Z.at hPi oo b3) ?_;rintro _ k1 ⟨⟨g9,rfl,c9,d5,h9,e0⟩,q15⟩;have l7:=q15.size;have a9:=c9.k;clear c9;refine mv U<|xt U<|xt U<|al y5r U<|λi2 k2 h5 b0 a7 l8=>?_;refine z0j (vs:=[_,_,_,_,_,_,_,_]) U b0 z9q (λk4 b0 a8 l9=>?_) (h1:=t24);refine asg U<|kpL (ll7 1 2 5 6 8 11 12) U<|nn<|sr ?_;have D:=(D.ext<|q15.n1 a7).fr a8;refine z0l U D z8i ?_;have O:=(O.ext<|q15.n1 a7).fr a8;refine z0l U O y3t<|z1i ([o]) (ev1 U) U y2n<|λi4 k5 h7 e5 a2 m0=>?_;have Z:=((Z.ext<|q15.n1 a7).fr a8 t30).ext a2;have b3:=d0.ext<|(q2.z6 q3 q4 a6 q15 a7 a8).n1 a2;refine cl (ev2 U) v9p (z5n si qi (N+i) _ [o] _ Z.at hPi t47 e5.sl b3) ?_;rintro _ k6 ⟨⟨i0,ws,j5,f1,rfl,hB⟩,q19⟩;have m1:=q19.size;have g4:=hB.o.sl.len_le;unfold maxLen at g4;refine mv U<|xt U<|xt U<|xt U<|al y5r U<|λi3 k7 h6 d1 a3 m2=>?_;refine asg U<|z0j (vs:=[_,_,_,_,_,_,_,_]) U d1 z9q (λk8 d1 a4 m3=>?_) (h1:=t24);refine asg U<|kpL (ll9 1 2 5 6 8 11 12 13 15) U<|nn<|sq<|rbo (r:=92) (L':=ll6 1 2 5 6 8 11) (((((u8o<|doM (nrm qi) o)=0)/\(f1=0))/\((ws.length:Int)<=12))) U ?_ ?_;refine mv U<|eq' U<|mv U<|gs 84 U (λg2=>?_)<|λg2=>?_;refine gY U<|mv U<|gY U<|eq' U<|pkt U<|mv U<|gs 88 U (λg3=>?_)<|λg3=>?_;exact gY U<|mv U<|gY U<|lnS U<|gY U<|le' U U<|pkt U<|rbe U<|U;exact gN U<|gN U<|gN U<|pkf U<|rbe U<|U;exact gN U<|gN U<|pkf U<|mv U<|gN U<|gN U<|gN U<|pkf U<|rbe U<|U;refine tn<|cd U (λc2=>?_)<|λc2=>?_;obtain⟨⟨g5,g6⟩,j4⟩:=c2;obtain⟨r',e7⟩:=e0 g5;have d4:=d5 r' e7;obtain⟨m',f8,f3⟩:=u3f (hE.trans<|y4k hPi.v).symm e7;rw[g6]at hB;have f7:=k6z hB;refine sr ?_;have b0:=(b0.ext<|a2.n2 q19 a3).fr a4;refine z0l U b0 z8i ?_;have D:=(D.ext<|a2.n2 q19 a3).fr a4;refine z0j (vs:=[_,_,_,_,_,_,_,_]) U D z9q (λk9 D b7 m4=>?_) (h1:=t24);refine nn<|rg<|mv U ?_;have O:=((O.ext<|a2.n2 q19 a3).fr a4).fr b7;refine z0l U O y3t<|z1i ([o]) (ev1 U) U y2n<|λi5 l0 h8 e6 b8 m5=>?_;have D:=D.ext b8;have a9:=(((((a9.ext a7).fr a8 t30).ext<|a2.n2 q19 a3).fr a4 t30).fr b7 t30).ext b8;have ho:=((((((((ho.ext q3).fr q4 (by intro k I hb;rw[l11]at I;subst I;first|exact a5 hb|(have:=ho.blk _ hb;omega))).fr a6 (by intro k I hb;rw[l11]at I;subst I;first|exact a5 hb|(have:=ho.blk _ hb;omega))).ext<|q15.n1 a7).fr a8 (by intro k I hb;rw[l11]at I;subst I;first|exact a5 hb|(have:=ho.blk _ hb;omega))).ext<|a2.n2 q19 a3).fr a4 (by intro k I hb;rw[l11]at I;subst I;first|exact a5 hb|(have:=ho.blk _ hb;omega))).fr b7 (by intro k I hb;rw[l11]at I;subst I;first|exact a5 hb|(have:=ho.blk _ hb;omega))).ext b8;have b1:=ho;refine z2l U ho e6.sl y2n<|λj6 l1 ho b9 f9=>?_;have m6:=b9.size;have D:=D.fr b9<|λI=>b1.neB D dd I;have a9:=a9.fr b9 (λk_ f2 _=>by obtain⟨i1,f5⟩:=y0r b1 k_ f2;exact⟨_,_,f5,dd⟩);exact asg U<|nl<|bn'<|tn<|rg<|mv U<|ad6 U<|asg U<|nl<|lpE ((i+1,g9,_)) U ⟨(((((q2.z6 q3 q4 a6 q15 a7 a8).n1 a2).n1 q19).z4 a3 a4 b7 b8).step b9<|λk I j3=>absurd (b1.blk k I).1 oo),⟨⟨sm,sm⟩,D,a9,l++[o],r',m',⟨j1l hil f7,by rw[l13];simp only[l34,l52];omega,x2n hru f8,f3.symm,by rw[<-Nat.add_assoc];exact d4⟩,ho⟩⟩ sm;refine sk<|bn'<|tn<|rg<|mv U<|ad6 U<|asg U<|nl ?_;have D:=(D.ext<|a2.n2 q19 a3).fr a4;have Z:=(Z.ext<|q19.n1 a3).fr a4 t30;have ho:=((((((ho.ext q3).fr q4 (by intro k I hb;rw[l11]at I;subst I;first|exact a5 hb|(have:=ho.blk _ hb;omega))).fr a6 (by intro k I hb;rw[l11]at I;subst I;first|exact a5 hb|(have:=ho.blk _ hb;omega))).ext<|q15.n1 a7).fr a8 (by intro k I hb;rw[l11]at I;subst I;first|exact a5 hb|(have:=ho.blk _ hb;omega))).ext<|a2.n2 q19 a3).fr a4 (by intro k I hb;rw[l11]at I;subst I;first|exact a5 hb|(have:=ho.blk _ hb;omega));exact lpE ((i+1,si,_)) U ⟨((((q2.z6 q3 q4 a6 q15 a7 a8).n1 a2).n1 q19).z2 a3 a4),⟨⟨sm,sm⟩,D,Z,l,qi,m,⟨hil,sm,hru,hE,hPi.mono sm⟩,ho⟩⟩ sm;obtain⟨A5,c5,rfl,i7⟩:=ho.sl.form;exact ex<|te<|te<|xh<|tn<|sr<|mv U<|asg U<|kpL (ll1 4) U<|nn<|rt<|r1 U ⟨_,rfl,⟨A5,l,c5,rfl,ho,hil,oo,m,hru⟩,q2⟩
end Go.Proofs.YtkafbfjmcigaiaaGreatDoor
namespace Go.G26
open Go.Lw Go.G21 Go.G08 Go.G09
theorem x1r {p q:MSt}{l:List MOp}(hv:MVal p)(hs:isP l=true)(hr:z2u 0 p l=.ok q)(h4:l.length<=4096)(h8:p.B.flat.length<=8){n:Nat}(hn:(z3n p).length=n) :
    ∃u:List Int,(z4k p (z3n p,[]) l).2=u/\(64<u.length->z1w p l=.error 3)/\(u.length<=64->z1w p l=.ok (u,q))/\(∀k∈u,1<=k.natAbs/\k.natAbs<n)/\(n=0->u=[])/\(z3n q).length=n/\
      (∀i,i<n->1<=(j2x<|flw (List.range n) u).getD i 0/\(j2x<|flw (List.range n) u).getD i 0<=n/\(z3n q).getD ((j2x<|flw (List.range n) u).getD i 0-1) id0=(z3n p).getD i id0)/\
      ∀i k,i<n->k<n->i≠k->lkC q.cr ((z3n p).getD i id0) ((z3n p).getD k id0)=lkC p.cr ((z3n p).getD i id0) ((z3n p).getD k id0)+lkM n u u.length i k:=by
  have ho:z3n p=(List.range n).map λi=>(z3n p).getD i id0:=by
    refine l71 (by simp[hn]) λi h1 h2=>?_
    rw[l130,List.getElem_range,List.getD,l10 h1];rfl
  have hk:∀o∈l,o.k=3\/o.k=7:=λo ho=>by
    have:=l129.1 hs o ho
    simp only[decide_eq_true_eq]at this
    exact this.1
  obtain⟨u,a1,a2,Z⟩:=y6j (w:=[]) hv.inv hk hr ho sp0
  simp only[l43]at a1 a2
  have D:=Z.bd
  rw[List.length_range]at D
  have O:n=0->u=[]:=λe=>by
    cases u with
    | nil=>rfl
    | cons x u=>have:=D x l35;omega
  have I:y1h p l=if u.length<=64 then some u else none:=by
    unfold y1h
    by_cases c:z2m p.B p.rk=[]
    · have e:n=0:=by rw[<-hn];unfold z3n;rw[c];rfl
      rw[if_pos c,O e];rfl
    · rw[if_neg c,a1]
      by_cases k:u.length<=64
      · rw[if_pos k,if_pos k];rfl
      · rw[if_neg k,if_neg k];rfl
  have hb:∀x,y1h p l=x->z1w p l=match x with
      | none=>.error 3
      | some w=>.ok (w,q):=λx hx=>by
    unfold z1w
    rw[if_neg (by rw[hs];decide),if_neg oo,if_neg oo,hr]
    show (match y1h p l with
      | none=>_
      | some w=>_)=_
    rw[hx]
    all_goals (cases x<;>rfl)
  have hfl:(flw (List.range n) u).length=n:=by rw[v0g,List.length_range]
  have a0:(flw (List.range n) u).Perm (List.range (flw (List.range n) u).length):=by
    rw[hfl]
    exact v2w λk hm=>by rw[List.length_range];exact D k hm
  refine⟨u,by rw[a2],λh=>?_,λh=>?_,D,O,by rw[Z.ord,l18,hfl],λi hi=>?_,λi k hi hk a4=>?_⟩
  · rw[if_neg oo]at I;exact hb _ I
  · rw[if_pos h]at I;exact hb _ I
  · have:=z8h a0 (f:=λi=>(z3n p).getD i id0) (i:=i) (by rw[hfl];exact hi)
    rw[hfl]at this
    rw[Z.ord];exact this
  · rw[Z.lk i k (l91.2 hi) (l91.2 hk) λe=>?_]
    · show _=_+lnk (List.range n) (u.take u.length) i k
      rw[l40]
    · have hd:=x4y hv.inv
      rw[List.getD,l10 oo,List.getD,l10 oo]at e
      exact a4<|(List.getElem_inj (h₀:=by omega) (h₁:=by omega) hd).1 e
end Go.G26
namespace Go.G26
def u4w (n:Nat)(f:List UInt8):Prop:=f.length=n/\f.Nodup/\∀x∈f,1<=x.toNat/\x.toNat<=n
def y3u:List UInt8->Nat
  | []=>0
  | x::l=>l.countP (λy=>decide (y<x))+y3u l
def swK (k:Nat)(x:UInt8):UInt8:=if x.toNat=k then UInt8.ofNat (k+1) else if x.toNat=k+1 then UInt8.ofNat k else x
def swA (f:List UInt8)(k:Nat):List UInt8:=(f.set (k-1)<|f.getD k 0).set k<|f.getD (k-1) 0
def flF (n:Nat)(f:List UInt8):List UInt8:=(f.map λx=>UInt8.ofNat (n+1)-x).reverse
theorem y7r {k:Nat}(D:k<200)(x:UInt8):(swK k x).toNat=if x.toNat=k then k+1 else if x.toNat=k+1 then k else x.toNat:=by
 unfold swK;split;rw[l41];omega;split;rw[l41];omega;rfl
theorem x6o {l:List UInt8}{p q:UInt8->Bool}(h:∀x∈l,p x=true->q x=true):l.countP p<=l.countP q:=List.countP_mono_left h
theorem j3p {k:Nat}(D:k<200)(x y:UInt8):swK k y<swK k x↔(swK k y).toNat<(swK k x).toNat:=l89
theorem j8d {l:List UInt8}(h:l.Nodup)(k:Nat)(hk:k<200)(p:UInt8->Bool)(x:UInt8)(hx:x.toNat=k)(hp:∀y∈l,p (swK k y)=true->y<x\/y.toNat=k+1):(l.map<|swK k).countP p<=l.countP (λy=>decide (y<x))+1:=by
 induction l with
 | nil=>simp
 | cons a l ih=>
  have Z:=l115.1 h;rw[l28,List.countP_cons,List.countP_cons];by_cases ha:a.toNat=k+1;have:(l.map<|swK k).countP p<=l.countP (λy=>decide (y<x)):=by
   rw[List.countP_map];refine x6o λy I O=>?_;rcases hp y (l36 _ I) O with D|D
   exact decide_eq_true D;exact absurd (UInt8.toNat.inj (D.trans ha.symm)▸I) Z.1
  split<;>omega
  have:=ih Z.2<|λy I=>hp y<|l36 _ I;have h3:p (swK k a)=true->decide (a<x)=true:=λO=>by
   rcases hp a l35 O with D|D
   exact decide_eq_true D;exact absurd D ha
  by_cases h4:p (swK k a)=true;rw[if_pos h4,if_pos (h3 h4)];omega;rw[if_neg h4];omega
theorem v9c {k:Nat}(D:k<200):∀ {l:List UInt8},l.Nodup->y3u (l.map<|swK k)<=y3u l+(if ∃x∈l,x.toNat=k then 1 else 0)
 | [],_=>by simp[y3u]
 | x::l,h=>by
  have hd:=l115.1 h
  have ih:=v9c D hd.2
  simp only[l28,y3u]
  by_cases hx:x.toNat=k
  ·have a1:¬ ∃y∈l,y.toNat=k:=λ⟨y,O,e⟩=>hd.1 (UInt8.toNat.inj (hx.trans e.symm)▸O)
   rw[if_neg a1]at ih
   rw[if_pos ⟨x,l35,hx⟩]
   have:=j8d hd.2 k D (λy=>decide (y<swK k x)) x hx (λy O Z=>by
    have I:=of_decide_eq_true Z
    rw[j3p D,y7r D,y7r D,if_pos hx]at I
    rw[l89]
    have a0:y.toNat≠k:=λe=>a1 ⟨y,O,e⟩
    rw[if_neg a0]at I
    split at I<;>omega)
   omega
  have I:(l.map<|swK k).countP (λy=>decide (y<swK k x))<=l.countP (λy=>decide (y<x)):=by
   rw[List.countP_map]
   refine x6o λy O Z=>?_
   have I:=of_decide_eq_true Z
   rw[j3p D,y7r D,y7r D,if_neg hx]at I
   refine decide_eq_true<|l89.2 ?_
   have a0:y.toNat≠x.toNat:=λe=>hd.1 (UInt8.toNat.inj e▸O)
   repeat' split at I
   all_goals omega
  have h2:(if ∃y∈l,y.toNat=k then 1 else 0)<=(if ∃y∈x::l,y.toNat=k then 1 else 0:Nat):=by
   split
   ·rename_i Z
    rw[if_pos (by obtain⟨y,O,e⟩:=Z;exact⟨y,l36 _ O,e⟩)];exact l20 _
   omega
  omega
theorem k7l {n k:Nat}{f:List UInt8}(h:u4w n f)(D:k<n)(hn:n<=8):y3u (f.map<|swK k)<=y3u f+1:=by
 have:=v9c (k:=k) oo h.2.1;split at this<;>omega
theorem v7z {f:List UInt8}{k:Nat}(Z:1<=k/\k<f.length):∃(u v:List UInt8) (x y:UInt8),f=u++x::y::v/\u.length=k-1/\swA f k=u++y::x::v/\f.getD (k-1) 0=x/\f.getD k 0=y:=by
 have O:k-1<f.length:=by omega
 have e:f=f.take (k-1)++f[k-1]::f[k]::f.drop (k+1):=by
  have D:f.drop (k-1)=f[k-1]::f.drop (k-1+1):=(l33 O);rw[show k-1+1=k by omega,l33 Z.2]at D;rw[<-D,l25]
 have hl:(f.take<|k-1).length=k-1:=by rw[l27];omega
 have I:f.getD (k-1) 0=f[k-1]:=by rw[List.getD,l10 O];rfl
 have g2:f.getD k 0=f[k]:=by rw[List.getD,l10 Z.2];rfl
 refine⟨f.take<|k-1,f.drop<|k+1,f[k-1],f[k],e,hl,?_,I,g2⟩;unfold swA;rw[I,g2];generalize hx:f[k-1]=x at e;generalize hy:f[k]=y at e;generalize f.take (k-1)=u at e hl;generalize f.drop (k+1)=v at e;subst e;rw[l56 _ _ oo,hl,l100,l140,l56 _ _ oo,hl,show k-(k-1)=1 by omega,List.set_cons_succ,l140]
theorem j9k (u:List UInt8):∀ {a b:List UInt8},a.Perm b->y3u b<=y3u a->∀ {t:Nat},y3u b+t<=y3u a->y3u (u++b)+t<=y3u (u++a):=by
 induction u with
 | nil=>intro a b _ _ t h;exact h
 | cons x u ih=>
  intro a b p h t D;simp only[l48,y3u];have:=ih p h D;rw[((p.append_left u).countP_eq (λy=>decide (y<x)))];omega
theorem k1f {f:List UInt8}{k:Nat}(Z:1<=k/\k<f.length)(D:f.getD k 0<f.getD (k-1) 0):y3u (swA f k)+1<=y3u f:=by
 obtain⟨u,v,x,y,e1,-,e2,I,O⟩:=v7z Z;rw[I,O]at D;rw[e2,e1];have hx:¬x<y:=by rw[l89]at D ⊢;omega
 have:y3u (y::x::v)+1<=y3u (x::y::v):=by
  simp only[y3u,List.countP_cons];rw[if_pos (decide_eq_true D),if_neg (by simpa using hx)];omega
 exact j9k u (List.Perm.swap y x v) oo this
def idN (n:Nat):List UInt8:=(List.range n).map λi=>UInt8.ofNat<|i+1
def hfN (n:Nat):List UInt8:=(List.range n).map λi=>UInt8.ofNat<|n-i
end Go.G26
namespace Go.G26
structure Pm (n:Nat) where
  f:Fin n->Fin n
  b:Fin n->Fin n
  fb:∀x,f (b x)=x
  bf:∀x,b (f x)=x
abbrev Lt (n:Nat):={k:Nat // k+1<n}
abbrev Lt.lo {n:Nat}(k:Lt n):Fin n:=⟨k.1,by have:=k.2;omega⟩
abbrev Lt.hi {n:Nat}(k:Lt n):Fin n:=⟨k.1+1,k.2⟩
def swL {n:Nat}(k:Lt n)(x:Fin n):Fin n:=if x=k.lo then k.hi else if x=k.hi then k.lo else x
section
variable {n:Nat}
theorem k9w (k:Lt n):k.hi≠k.lo:=λe=>by have:=congrArg Fin.val e;simp at this
theorem y9d (k:Lt n):swL k k.lo=k.hi:=if_pos U
theorem y8y (k:Lt n):swL k k.hi=k.lo:=by unfold swL;rw[if_neg (k9w k),if_pos U]
theorem z5y {k:Lt n}{x:Fin n}(h1:x≠k.lo)(D:x≠k.hi):swL k x=x:=by unfold swL;rw[if_neg h1,if_neg D]
theorem v0i (k:Lt n)(x:Fin n):swL k (swL k x)=x:=by
 by_cases h1:x=k.lo;rw[h1,y9d,y8y];by_cases h2:x=k.hi;rw[h2,y8y,y9d];rw[z5y h1 h2,z5y h1 h2]
namespace Pm
theorem ext {p q:Pm n}(h:∀x,p.f x=q.f x):p=q:=by
 obtain⟨f,b,fb,bf⟩:=p;obtain⟨Z,I,D,O⟩:=q;have e:f=Z:=funext h;subst e;have e2:b=I:=funext λx=>by rw[<-D x,bf,D]
 subst e2;rfl
def one:Pm n:=⟨λx=>x,λx=>x,λ_=>rfl,λ_=>rfl⟩
def half:Pm n:=⟨Fin.rev,Fin.rev,Fin.rev_rev,Fin.rev_rev⟩
def sL (k:Lt n)(p:Pm n):Pm n:=⟨λx=>p.f<|swL k x,λx=>swL k<|p.b x,λx=>by rw [v0i,p.fb],λx=>by rw [p.bf,v0i]⟩
def sR (k:Lt n)(p:Pm n):Pm n:=⟨λx=>swL k<|p.f x,λx=>p.b<|swL k x,λx=>by rw [p.fb,v0i],λx=>by rw [v0i,p.bf]⟩
def flip (p:Pm n):Pm n:=⟨λx=>(p.f x.rev).rev,λx=>(p.b x.rev).rev,λx=>by rw [Fin.rev_rev,p.fb,Fin.rev_rev],λx=>by rw [Fin.rev_rev,p.bf,Fin.rev_rev]⟩
def mul (p q:Pm n):Pm n:=⟨λx=>q.f<|p.f x,λx=>p.b<|q.b x,λx=>by rw [p.fb,q.fb],λx=>by rw [q.bf,p.bf]⟩
def Sb (p:Pm n)(k:Lt n):Prop:=p.f k.hi<p.f k.lo
def Eb (p:Pm n)(k:Lt n):Prop:=p.b k.hi<p.b k.lo
theorem flip_flip (p:Pm n):p.flip.flip=p:=ext λx=>by show (p.f x.rev.rev).rev.rev=_;rw[Fin.rev_rev,Fin.rev_rev]
theorem j1k (k:Lt n)(p q:Pm n):(sR k p).mul (sL k q)=p.mul q:=ext λx=>by show q.f (swL k<|swL k<|p.f x)=_;rw[v0i];rfl
theorem f_inj (p:Pm n){x y:Fin n}(h:p.f x=p.f y):x=y:=by rw[<-p.bf x,h,p.bf]
theorem b_inj (p:Pm n){x y:Fin n}(h:p.b x=p.b y):x=y:=by rw[<-p.fb x,h,p.fb]
end Pm
open Pm
inductive Mv:List (Pm n)->List (Pm n)->Prop
  | here {f g:Pm n} {r:List (Pm n)} (k:Lt n) (hs:Sb g k) (he:¬Eb f k):Mv (f::g::r) (sR k f::sL k g::r)
  | next {f:Pm n} {l m:List (Pm n)}:Mv l m->Mv (f::l) (f::m)
inductive Mvs:List (Pm n)->List (Pm n)->Prop
  | refl {l:List (Pm n)}:Mvs l l
  | cons {l m r:List (Pm n)}:Mv l m->Mvs m r->Mvs l r
theorem Mvs.one {l m:List (Pm n)}(h:Mv l m):Mvs l m:=.cons h .refl
theorem Mvs.trans {l m r:List (Pm n)}(h:Mvs l m)(D:Mvs m r):Mvs l r:=by
 induction h with
 | refl=>exact D
 | cons a _ ih=>exact .cons a<|ih D
theorem Mvs.next {f:Pm n}{l m:List (Pm n)}(h:Mvs l m):Mvs (f::l) (f::m):=by
 induction h with
 | refl=>exact .refl
 | cons a _ ih=>exact .cons (.next a) ih
theorem Mv.app {l m:List (Pm n)}(h:Mv l m)(r:List (Pm n)):Mv (l++r) (m++r):=by
 induction h with
 | here k hs he=>exact .here k hs he
 | next _ ih=>exact .next ih
theorem Mvs.app {l m:List (Pm n)}(h:Mvs l m)(r:List (Pm n)):Mvs (l++r) (m++r):=by
 induction h with
 | refl=>exact .refl
 | cons a _ ih=>exact .cons (a.app r) ih
theorem Mvs.pre {l m:List (Pm n)}(h:Mvs l m):∀u:List (Pm n),Mvs (u++l) (u++m)
 | []=>h
 | _::u=>(Mvs.pre h u).next
theorem Mvs.len {l m:List (Pm n)}(h:Mvs l m):m.length=l.length:=by
 have one:∀ {l m:List (Pm n)},Mv l m->m.length=l.length:=λh=>by induction h with
  | here=>rfl
  | next _ ih=>simp[ih]
 induction h with
 | refl=>rfl
 | cons a _ ih=>rw[ih,one a]
theorem y7a {p:Pm n}{k:Lt n}:¬Eb p k↔p.b k.lo<p.b k.hi:=by
 unfold Eb;have:p.b k.hi≠p.b k.lo:=λe=>k9w k<|p.b_inj e;have D:(p.b k.hi).1≠(p.b k.lo).1:=λe=>this<|l112 e;rw[l118,l118];omega
theorem k4x {p:Pm n}{k:Lt n}:¬Sb p k↔p.f k.lo<p.f k.hi:=by
 unfold Sb;have:p.f k.hi≠p.f k.lo:=λe=>k9w k<|p.f_inj e;have D:(p.f k.hi).1≠(p.f k.lo).1:=λe=>this<|l112 e;rw[l118,l118];omega
theorem x7v {f g:Pm n}{r:List (Pm n)}{j k:Lt n}(hk:Sb g k)(ek:¬Eb f k)(hj:Sb g j)(Z:¬Eb f j)(a5:j.1<k.1) :
    ∃d,Mvs (sR k f::sL k g::r) d/\Mvs (sR j f::sL j g::r) d:=by
  by_cases hc:k.1=j.1+1
  · have e1:k.lo=j.hi:=l112 hc
    have n1:j.lo≠k.lo:=λe=>by have:=congrArg Fin.val e;simp at this;omega
    have n2:j.lo≠k.hi:=λe=>by have:=congrArg Fin.val e;simp at this;omega
    have n3:k.hi≠j.lo:=n2.symm
    have n4:k.hi≠j.hi:=λe=>by have:=congrArg Fin.val e;simp at this;omega
    have a1:swL j j.lo=k.lo:=by rw[y9d,e1]
    have O:swL j k.lo=j.lo:=by rw[e1,y8y]
    have D:swL j k.hi=k.hi:=z5y n3 n4
    have I:swL k j.lo=j.lo:=z5y n1 n2
    have b2:swL k k.lo=k.hi:=y9d k
    have b3:swL k k.hi=k.lo:=y8y k
    rw[y7a]at ek Z
    unfold Sb at hk hj
    rw[<-e1]at hj Z
    have a4:∀x:Fin n,swL k (swL j<|swL k x)=swL j (swL k<|swL j x):=λx=>by
      by_cases x1:x=j.lo
      · subst x1;rw[I,a1,b2,D]
      · by_cases x2:x=k.lo
        · subst x2;rw[b2,D,b3,O,I,a1]
        · by_cases x3:x=k.hi
          · subst x3;rw[b3,O,I,D,b3,O]
          · rw[z5y x2 x3,z5y x1 (by rw[<-e1];exact x2),z5y x2 x3,z5y x1 (by rw[<-e1];exact x2)]
    refine⟨sR k (sR j<|sR k f)::sL k (sL j<|sL k g)::r,?_,?_⟩
    · refine .cons (.here j ?_ ?_) (.one<|.here k ?_ ?_)
      · show g.f (swL k j.hi)<g.f (swL k j.lo)
        rw[<-e1,b2,I];exact Fin.lt_trans hk hj
      · rw[y7a];show f.b (swL k j.lo)<f.b (swL k j.hi)
        rw[<-e1,b2,I];exact Fin.lt_trans Z ek
      · show g.f (swL k<|swL j k.hi)<g.f (swL k<|swL j k.lo)
        rw[D,O,b3,I];exact hj
      · rw[y7a];show f.b (swL k<|swL j k.lo)<f.b (swL k<|swL j k.hi)
        rw[D,O,b3,I];exact Z
    · have e2:sR k (sR j<|sR k f)=sR j (sR k<|sR j f):=ext λx=>a4 (f.f x)
      have e3:sL k (sL j<|sL k g)=sL j (sL k<|sL j g):=ext λx=>congrArg g.f<|a4 x
      rw[e2,e3]
      refine .cons (.here k ?_ ?_)<|.one<|.here j ?_ ?_
      · show g.f (swL j k.hi)<g.f (swL j k.lo)
        rw[D,O];exact Fin.lt_trans hk hj
      · rw[y7a];show f.b (swL j k.lo)<f.b (swL j k.hi)
        rw[D,O];exact Fin.lt_trans Z ek
      · show g.f (swL j<|swL k j.hi)<g.f (swL j<|swL k j.lo)
        rw[<-e1,b2,I,D,a1];exact hk
      · rw[y7a];show f.b (swL j<|swL k j.lo)<f.b (swL j<|swL k j.hi)
        rw[<-e1,b2,I,D,a1];exact ek
  · have n1:j.lo≠k.lo:=λe=>by have:=congrArg Fin.val e;simp at this;omega
    have n2:j.lo≠k.hi:=λe=>by have:=congrArg Fin.val e;simp at this;omega
    have n3:j.hi≠k.lo:=λe=>by have:=congrArg Fin.val e;simp at this;omega
    have n4:j.hi≠k.hi:=λe=>by have:=congrArg Fin.val e;simp at this;omega
    have a0:∀x:Fin n,swL j (swL k x)=swL k (swL j x):=λx=>by
      by_cases x1:x=j.lo
      · subst x1;rw[z5y n1 n2,y9d,z5y n3 n4]
      · by_cases x2:x=j.hi
        · subst x2;rw[z5y n3 n4,y8y,z5y n1 n2]
        · by_cases x3:x=k.lo
          · subst x3;rw[y9d,z5y n2.symm n4.symm,z5y n1.symm n3.symm,y9d]
          · by_cases x4:x=k.hi
            · subst x4;rw[y8y,z5y n1.symm n3.symm,z5y n2.symm n4.symm,y8y]
            · rw[z5y x3 x4,z5y x1 x2,z5y x3 x4]
    have e2:sR k (sR j f)=sR j (sR k f):=ext λx=>(a0<|f.f x).symm
    have e3:sL k (sL j g)=sL j (sL k g):=ext λx=>congrArg g.f<|a0 x
    refine⟨sR j (sR k f)::sL j (sL k g)::r,.one<|.here j ?_ ?_,?_⟩
    · show g.f (swL k j.hi)<g.f (swL k j.lo)
      rw[z5y n3 n4,z5y n1 n2];exact hj
    · rw[y7a]at Z ⊢;show f.b (swL k j.lo)<f.b (swL k j.hi)
      rw[z5y n3 n4,z5y n1 n2];exact Z
    · rw[<-e2,<-e3]
      refine .one<|.here k ?_ ?_
      · show g.f (swL j k.hi)<g.f (swL j k.lo)
        rw[z5y n2.symm n4.symm,z5y n1.symm n3.symm];exact hk
      · rw[y7a]at ek ⊢;show f.b (swL j k.lo)<f.b (swL j k.hi)
        rw[z5y n2.symm n4.symm,z5y n1.symm n3.symm];exact ek
theorem k1y {g:Pm n}{j k:Lt n}(hk:Sb g k)(D:¬Eb g j):Sb (sR j g) k:=by
 rw[y7a]at D
 unfold Sb at hk ⊢
 show swL j (g.f k.hi)<swL j (g.f k.lo)
 have I:¬(g.f k.hi=j.lo/\g.f k.lo=j.hi):=λ⟨h1,h2⟩=>by
  rw[<-h1,<-h2,g.bf,g.bf]at D
  have:k.1+1<k.1:=D
  omega
 have a0:(g.f k.hi).1<(g.f k.lo).1:=hk
 generalize g.f k.hi=x at *
 generalize g.f k.lo=y at *
 rw[l118]
 unfold swL
 have hx:(x=j.lo)=(x.1=j.1):=propext ⟨λe=>t15,λe=>l112 e⟩
 have O:(x=j.hi)=(x.1=j.1+1):=propext ⟨λe=>t15,λe=>l112 e⟩
 have hy:(y=j.lo)=(y.1=j.1):=propext ⟨λe=>t15,λe=>l112 e⟩
 have Z:(y=j.hi)=(y.1=j.1+1):=propext ⟨λe=>t15,λe=>l112 e⟩
 simp only[hx,O,hy,Z]at I ⊢
 repeat' split
 all_goals first|omega|(simp only;omega)
theorem k3w {g:Pm n}{j k:Lt n}(D:Sb g k)(ej:¬Eb g j):¬Eb (sL k g) j:=by
 rw[y7a]at ej ⊢
 show swL k (g.b j.lo)<swL k (g.b j.hi)
 have I:¬(g.b j.lo=k.lo/\g.b j.hi=k.hi):=λ⟨h1,h2⟩=>by
  unfold Sb at D
  rw[<-h1,<-h2,g.fb,g.fb]at D
  have:j.1+1<j.1:=D
  omega
 have a0:(g.b j.lo).1<(g.b j.hi).1:=ej
 generalize g.b j.lo=x at *
 generalize g.b j.hi=y at *
 rw[l118]
 unfold swL
 have hx:(x=k.lo)=(x.1=k.1):=propext ⟨λe=>t15,λe=>l112 e⟩
 have O:(x=k.hi)=(x.1=k.1+1):=propext ⟨λe=>t15,λe=>l112 e⟩
 have hy:(y=k.lo)=(y.1=k.1):=propext ⟨λe=>t15,λe=>l112 e⟩
 have Z:(y=k.hi)=(y.1=k.1+1):=propext ⟨λe=>t15,λe=>l112 e⟩
 simp only[hx,O,hy,Z]at I ⊢
 repeat' split
 all_goals first|omega|(simp only;omega)
theorem conf {a b c:List (Pm n)}(h:Mv a b)(O:Mv a c):∃d,Mvs b d/\Mvs c d:=by
 induction h generalizing c with
 | @here f g r k hs he=>
  match O with
  | .here j hj ej=>
   rcases Nat.lt_trichotomy j.1 k.1 with hl|hl|hl
   ·exact x7v hs he hj ej hl
   ·obtain rfl:j=k:=Subtype.ext hl
    exact⟨_,.refl,.refl⟩
   obtain⟨d,D,I⟩:=x7v (r:=r) hj ej hs he hl
   exact⟨d,I,D⟩
  | .next (.here j hj ej)=>exact⟨_,.one<|.next<|.here j hj<|k3w hs ej,.one<|.here k (k1y hs ej) he⟩
  | .next (.next hn)=>exact⟨_,.one<|.next<|.next hn,.one<|.here k hs he⟩
 | @next f l m hm ih=>
  cases O with
  | next hn=>
   obtain⟨d,D,I⟩:=ih hn
   exact⟨_,D.next,I.next⟩
  | here k hs he=>
   cases hm with
   | here j hj ej=>exact⟨_,.one<|.here k (k1y hs ej) he,.one<|.next<|.here j hj<|k3w hs ej⟩
   | next hn=>exact⟨_,.one<|.here k hs he,.one<|.next<|.next hn⟩
def Pm.l (p:Pm n):List UInt8:=List.ofFn λx=>UInt8.ofNat<|(p.f x).1+1
def Pm.bl (p:Pm n):List UInt8:=List.ofFn λx=>UInt8.ofNat (p.b x).1
theorem z3e (p:Pm n):p.l.length=n:=List.length_ofFn
theorem x5f (p:Pm n):p.bl.length=n:=List.length_ofFn
theorem y6t (p:Pm n){i:Nat}(h:i<n):p.l.getD i 0=UInt8.ofNat ((p.f ⟨i,h⟩).1+1):=by
 rw[List.getD,l10 (by rw[z3e];exact h)];exact List.getElem_ofFn ..
theorem u0v (p:Pm n){i:Nat}(h:i<n):p.bl.getD i 0=UInt8.ofNat (p.b ⟨i,h⟩).1:=by
 rw[List.getD,l10 (by rw[x5f];exact h)];exact List.getElem_ofFn ..
theorem v1u (p:Pm n){i:Nat}(h:i<n){D:i<p.l.length}:p.l[i]=UInt8.ofNat ((p.f ⟨i,h⟩).1+1):=List.getElem_ofFn ..
theorem y9w {n:Nat}{a b:List UInt8}(O:a.length=n)(hb:b.length=n)(h:∀i,i<n->a.getD i 0=b.getD i 0):a=b:=by
 refine l71 (O.trans hb.symm) λi D I=>?_;have:=h i oo;rw[List.getD,List.getD,l10 D,l10 I]at this;exact this
theorem v8j (hn:n<=8)(p:Pm n):u4w n p.l:=by
 refine⟨z3e p,l83.2 λi j D I O e=>?_,λx Z=>?_⟩;rw[z3e]at D I;have e2:=congrArg UInt8.toNat<|(v1u p D).symm.trans<|e.trans<|v1u p I;rw[l41,l41]at e2;have:=(p.f ⟨i,D⟩).2;have:=(p.f ⟨j,I⟩).2;have:=congrArg Fin.val<|p.f_inj (l112 oo:p.f ⟨i,D⟩=p.f ⟨j,I⟩);simp only at this;omega;obtain⟨i,rfl⟩:=List.mem_ofFn.1 Z;have:=(p.f i).2;simp only[l41];omega
theorem k8p (hn:n<=8)(k:Lt n)(p:Pm n):(sR k p).l=p.l.map (swK<|k.1+1):=by
 refine y9w (z3e _) (by rw[l18,z3e]) λi hi=>?_
 rw[y6t _ hi,List.getD,l26,l10 (by rw[z3e];exact hi)]
 refine UInt8.toNat.inj ?_
 have Z:=k.2
 have O:=(p.f ⟨i,hi⟩).2
 show _=(swK (k.1+1)<|p.l[i]'(by rw[z3e];exact hi)).toNat
 rw[y7r oo,v1u p hi,l41,l41]
 show ((swL k<|p.f ⟨i,hi⟩).1+1) % 256=_
 generalize p.f ⟨i,hi⟩=x at *
 have I:(x=k.lo)=(x.1=k.1):=propext ⟨λe=>t15,λe=>l112 e⟩
 have D:(x=k.hi)=(x.1=k.1+1):=propext ⟨λe=>t15,λe=>l112 e⟩
 unfold swL
 simp only[I,D]
 repeat' split
 all_goals first|omega|(simp only;omega)
theorem j7f {α:Type}{l:List α}{i j:Nat}{a d:α}(h:i<l.length):(l.set i a).getD j d=if i=j then a else l.getD j d:=by
 rw[List.getD,l114];split;rename_i e;subst e;simp;rfl
theorem k9n (k:Lt n)(p:Pm n):(sL k p).l=swA p.l (k.1+1):=by
 have D:=k.2;refine y9w (z3e _) (by unfold swA;rw[l19,l19,z3e]) λi hi=>?_;unfold swA;rw[j7f (by rw[l19,z3e];omega),j7f t49,l87,y6t p hi,y6t p k.2,y6t p (show k.1<n by omega),y6t _ hi];show UInt8.ofNat ((p.f<|swL k ⟨i,hi⟩).1+1)=_;split;rename_i e;rw[show (⟨i,hi⟩:Fin n)=k.hi from l112 e.symm,y8y];split;rename_i e;rw[show (⟨i,hi⟩:Fin n)=k.lo from l112 e.symm,y9d];rename_i e1 e2;rw[z5y (λe=>e2 (congrArg Fin.val e).symm) (λe=>e1 (congrArg Fin.val e).symm)]
theorem k2j (hn:n<=8)(p:Pm n):p.flip.l=flF n p.l:=by
 refine y9w (z3e _) (by unfold flF;rw[l111,l18,z3e]) λi hi=>?_;rw[y6t _ hi];unfold flF;rw[List.getD,List.getElem?_reverse (by rw[l18,z3e];exact hi),l18,z3e,l26,l10 t49];show _=UInt8.ofNat (n+1)-(p.l[n-1-i]' t49);rw[v1u p (show n-1-i<n by omega)];show UInt8.ofNat (((p.f (⟨i,hi⟩:Fin n).rev).rev).1+1)=_;rw[show (⟨i,hi⟩:Fin n).rev=⟨n-1-i,oo⟩ from l112 (by simp[Fin.rev];omega)];generalize p.f ⟨n-1-i,oo⟩=x;have D:=x.2;refine UInt8.toNat.inj ?_;rw[UInt8.toNat_sub_of_le _ _ (by rw[UInt8.le_iff_toNat_le,l41,l41];omega),l41,l41,l41,l141];omega
theorem k9k:(one:Pm n).l=idN n:=by
 refine y9w (z3e _) (by simp[idN]) λi hi=>?_;rw[y6t _ hi];simp[idN,one,hi]
theorem k3s:(half:Pm n).l=hfN n:=by
 refine y9w (z3e _) (by simp[hfN]) λi hi=>?_;rw[y6t _ hi,show (hfN n).getD i 0=UInt8.ofNat (n-i) by simp[hfN,hi]];show UInt8.ofNat ((Fin.rev ⟨i,hi⟩).1+1)=_;rw[l141];show UInt8.ofNat (n-(i+1)+1)=_;rw[show n-(i+1)+1=n-i by omega]
theorem k1a (hn:n<=8){p:Pm n}{k:Nat}(h:k+1<n):Sb p ⟨k,h⟩↔p.l.getD (k+1) 0<p.l.getD k 0:=by
 rw[y6t p h,y6t p (show k<n by omega),l89,l41,l41];unfold Sb;rw[l118];have:=(p.f<|Lt.hi ⟨k,h⟩).2;have:=(p.f<|Lt.lo ⟨k,h⟩).2;show _↔((p.f<|Lt.hi ⟨k,h⟩).1+1) % 2 ^ 8<((p.f<|Lt.lo ⟨k,h⟩).1+1) % 2 ^ 8;omega
theorem En_l (hn:n<=8){p:Pm n}{k:Nat}(h:k+1<n):Eb p ⟨k,h⟩↔p.bl.getD (k+1) 0<p.bl.getD k 0:=by
 rw[u0v p h,u0v p (show k<n by omega),l89,l41,l41];unfold Eb;rw[l118];have:=(p.b<|Lt.hi ⟨k,h⟩).2;have:=(p.b<|Lt.lo ⟨k,h⟩).2;show _↔(p.b<|Lt.hi ⟨k,h⟩).1 % 2 ^ 8<(p.b<|Lt.lo ⟨k,h⟩).1 % 2 ^ 8;omega
theorem u1p (hn:n<=8){p:Pm n}{k:Lt n}(h:Sb p k):y3u (sL k p).l+1<=y3u p.l:=by
 rw[k9n];exact k1f (by rw[z3e];have:=k.2;omega) (by rw[l87];exact(k1a hn k.2).1 h)
theorem k2y (hn:n<=8)(p:Pm n)(k:Lt n):y3u (sR k p).l<=y3u p.l+1:=by
 rw[k8p hn];exact k7l (v8j hn p) k.2 hn
def ms:Nat->List (Pm n)->Nat
  | _,[]=>0
  | s,p::l=>s*y3u p.l+ms (s+1) l
theorem Mv.less (hn:n<=8){a b:List (Pm n)}(h:Mv a b):∀s,ms s b<ms s a:=by
 induction h with
 | @here f g r k hs he=>
  intro s
  have D:=Nat.mul_le_mul_left s<|k2y hn f k
  have I:=Nat.mul_le_mul_left (s+1)<|u1p hn hs
  rw[Nat.mul_add]at D I
  simp only[ms]
  omega
 | next _ ih=>intro s;simp only[ms];have:=ih<|s+1;omega
def Ir (l:List (Pm n)):Prop:=∀m,¬Mv l m
theorem j8i (hn:n<=8):∀(k:Nat) (l:List (Pm n)),ms 0 l<k->∃d,Mvs l d/\Ir d
 | 0,_,h=>by omega
 | k+1,l,h=>by
  by_cases hi:∃m,Mv l m
  ·obtain⟨m,D⟩:=hi
   obtain⟨d,I,O⟩:=j8i hn k m (by have:=D.less hn 0;omega)
   exact⟨d,.cons D I,O⟩
  exact⟨l,.refl,λm D=>hi ⟨m,D⟩⟩
theorem Mvs.ir {l d:List (Pm n)}(h:Mvs l d)(hi:Ir l):d=l:=by
 cases h with
 | refl=>rfl
 | cons a _=>exact absurd a<|hi _
theorem v0j (hn:n<=8):∀(k:Nat) (l:List (Pm n)),ms 0 l<k->∀d e,Mvs l d->Ir d->Mvs l e->Ir e->d=e
 | 0,_,h,_,_,_,_,_,_=>by omega
 | k+1,l,h,d,e,hd,id,he,ie=>by
  cases hd with
  | refl=>exact(he.ir id).symm
  | @cons _ b _ hb hbd=>
   cases he with
   | refl=>exact absurd hb<|ie _
   | @cons _ c _ hc hce=>
    obtain⟨x,O,Z⟩:=conf hb hc
    obtain⟨y,D,I⟩:=j8i hn (ms 0 x+1) x oo
    have kb:=hb.less hn 0
    have kc:=hc.less hn 0
    rw[v0j hn k b oo d y hbd id (O.trans D) I,v0j hn k c oo e y hce ie (Z.trans D) I]
end
end Go.G26
namespace Go.G26
open Go.Lw Go.G21 Go.G08
end Go.G26
namespace Go.Lw
theorem Fr.ext {S:List Nat}{a b c:World}(h:Fr S a b)(D:Fr [] b c):Fr S a c:=h.next D
theorem Fr.fr {S S':List Nat}{a b c:World}(h:Fr S a b)(D:Fr S' b c)(I:∀k∈S',k<a.heap.size->k∈S):Fr S a c:=h.step D I
end Go.Lw
namespace Go.G26
open Go.Lw Go.G21 Go.G08
structure FacT (T n:Nat) (wS w:World) (A:List Nat) (F:Nat->Pm n):Prop where
  f:Fr A wS w
  r:∀g∈A,Lw.Own Enc.b T 0 w (.slice (some ⟨g,0,none⟩) n n) (F g).l
def hdr (n g:Nat):SV:=(some ⟨g,0,none⟩,n,n)
def upF {α:Type}(F:Nat->α)(g:Nat)(f:α):Nat->α:=λx=>if x=g then f else F x
theorem x0r {α:Type}(F:Nat->α)(g:Nat)(f:α):upF F g f g=f:=if_pos U
theorem y8n {α:Type}{F:Nat->α}{g x:Nat}{f:α}(h:x≠g):upF F g f x=F x:=if_neg h
section
variable {T n:Nat} {wS w w':World} {A:List Nat} {F:Nat->Pm n} {S:List Nat} {g:Nat} {f:Pm n}
theorem FacT.fr (h:FacT T n wS w A F)(hf:Fr S w w')(I:∀k∈S,k∉A/\wS.heap.size<=k):FacT T n wS w' A F:=
 ⟨h.f.step hf λk D a0=>by have:=(I k D).2;omega,λg Z=>(h.r g Z).fr hf λk D O=>by
  simp[z0v]at O;subst O;exact(I _ D).1 Z⟩
theorem FacT.ext (h:FacT T n wS w A F)(hf:Fr [] w w'):FacT T n wS w' A F:=h.fr hf sp0
theorem FacT.upd (h:FacT T n wS w A F)(O:g∈A)(hf:Fr [g] w w')(ho:Lw.Own Enc.b T 0 w' (.slice (saa g) n n) f.l):FacT T n wS w' A (upF F g f):=
 ⟨h.f.step hf λk D _=>by rw[l11]at D;rw[D];exact O,λx Z=>by
  by_cases e:x=g
  ·subst e;rw[x0r];exact ho
  rw[y8n e];exact(h.r x Z).fr hf λk D I=>by
   simp[z0v]at I;subst I;rw[l11]at D;exact e D⟩
theorem FacT.lt (h:FacT T n wS w A F)(D:g∈A):g<w.heap.size:=((h.r g D).blk g t10).2
theorem FacT.add (h:FacT T n wS w A F)(ho:Lw.Own Enc.b T 0 w (.slice (saa g) n n) f.l)(O:g∉A):FacT T n wS w (g::A) (upF F g f):=
 ⟨h.f.weak λk D _=>l36 _ D,λx I=>by
  by_cases e:x=g
  ·subst e;rw[x0r];exact ho
  rw[y8n e];exact h.r x<|(l57.1 I).resolve_left e⟩
theorem FacT.ne {T' base:Nat}{α:Type}{E:Enc α}{v:Value}{ys:List α}(h:FacT T n wS w A F)(ho:Lw.Own E T' base w v ys)(D:T'≠T):∀k∈z0v v,k∉A:=λk O I=>
 Own.neO (h.r k I) ho (l51 D) k t10 O
theorem FacT.start (h:FacT T n wS w A F):FacT T n w w A F:=⟨l12 _ _,h.r⟩
end
theorem v9u {n g r:Nat}{A:List Nat}:(List.replicate (r+1) sv0++A.map (hdr n)).set r (hdr n g)=List.replicate r sv0++(g::A).map (hdr n):=by
 rw[l77,l14,l56 _ _ sp0,l22,l100];rfl
theorem k0q {n i:Nat}{A:List Nat}(h:i<A.length):(A.map<|hdr n).getD i sv0=(some ⟨A.getD i 0,0,none⟩,n,n):=by
 rw[List.getD,l26,l10 h,List.getD,l10 h];rfl
theorem z6o {A:List Nat}{i:Nat}(h:i<A.length):A.getD i 0∈A:=by
 rw[List.getD,l10 h];exact l106 _
theorem u1w {A:List Nat}(I:A.Nodup){i j:Nat}(hi:i<A.length)(D:j<A.length)(h:i≠j):A.getD i 0≠A.getD j 0:=λe=>by
 rw[List.getD,l10 hi,List.getD,l10 D]at e
 exact h<|(List.getElem_inj (h₀:=hi) (h₁:=D) I).1 e
end Go.G26
namespace Go.Lw
open Go.RowKit
section
variable {P:Program} {n:Nat} {L:List (Nat×Value)} {ds:List Nat} {w w':World} {Q:Exit->Act->World->Prop} {ops:Array Oper} {rest:List Oper} {d:Nat} {ty T:TypeId} {pos:String} {after:Array Edge} {v:Value} {x y:Operand} {t t':TypeId}
theorem j2o {k':IntKind}{m:Nat}(O:ev L x=some (.int .u8 1))(Z:ev L y=some (.int k' (m:Int)))(I:m<8)(hn:lbt d n)(q:WL P ops Q rest n ds w ((d,.int .u8 ((2 ^ m:Nat):Int))::L)):WL P ops Q (⟨some d,.binOp .shl t x y t',ty,pos,after,none⟩::rest) n ds w L:=
 λa h=>z2c h U hn (by
  have D:¬((m:Nat):Int)<0:=by omega
  have e:IntKind.u8.wrap ((1:Int)*2 ^ m)=((2 ^ m:Nat):Int):=by
   match m,I with
   | 0,_=>rfl
   | 1,_=>rfl
   | 2,_=>rfl
   | 3,_=>rfl
   | 4,_=>rfl
   | 5,_=>rfl
   | 6,_=>rfl
   | 7,_=>rfl
  simp only[execOp,h.eval O,h.eval Z,eqGuard_shl,binOp_shl,shift_shl .u8 k' 1 (m:Int) oo (show ((m:Nat):Int)<=8 by omega),l95,e]
  rfl) q
theorem k8y {p q':Nat}(I:ev L x=some (.int .u8 (p:Int)))(O:ev L y=some (.int .u8 (q':Int)))(hp:p<256)(D:q'<256)(hn:lbt d n)(q:WL P ops Q rest n ds w ((d,.int .u8 ((p ||| q':Nat):Int))::L)):WL P ops Q (⟨some d,.binOp .or t x y t',ty,pos,after,none⟩::rest) n ds w L:=
 λa h=>z2c h U hn (by simp[execOp,h.eval I,h.eval O,eqGuard_or,binOp_or,intBits_or,Go.u8_or_nat p q' hp D]) q
theorem v1c {p q':Nat}(I:ev L x=some (.int .u8 (p:Int)))(O:ev L y=some (.int .u8 (q':Int)))(hp:p<256)(D:q'<256)(hn:lbt d n)(q:WL P ops Q rest n ds w ((d,.int .u8 ((p &&& (255-q'):Nat):Int))::L)):WL P ops Q (⟨some d,.binOp .andNot t x y t',ty,pos,after,none⟩::rest) n ds w L:=
 λa h=>z2c h U hn (by simp[execOp,h.eval I,h.eval O,eqGuard_andNot,binOp_andNot,intBits_andNot,Go.u8_andNot_nat p q' hp D]) q
theorem k9q {k:IntKind}{i j:Int}(D:ev L x=some (.int k i))(I:ev L y=some (.int k j))(hn:lbt d n)(q:WL P ops Q rest n ds w ((d,.int k<|bits .and k i j)::L)):WL P ops Q (⟨some d,.binOp .and t x y t',ty,pos,after,none⟩::rest) n ds w L:=
 λa h=>z2c h U hn (by simp[execOp,h.eval D,h.eval I,eqGuard_and,binOp_and,intBits_and]) q
theorem v1o (i:Int):bits .and .i64 i 1=i % 2:=by
 have I:(BitVec.ofInt 64 1).toNat=2 ^ 1-1:=by decide
 have D:(BitVec.ofInt 64 i &&& BitVec.ofInt 64 1).toNat=(i % ((2 ^ 64:Nat):Int)).toNat % 2 ^ 1:=by
  rw[BitVec.toNat_and,BitVec.toNat_ofInt,I,Nat.and_two_pow_sub_one_eq_mod]
 show IntKind.i64.wrap ((BitVec.ofInt 64 i &&& BitVec.ofInt 64 1).toNat:Nat)=i % 2;rw[D,IntKind.wrap_i64];omega
theorem k7f {ad:Addr}{N sz m:Nat}{k:IntKind}{i:Int}(hx:ev L x=some (.pointer<|some ad))(hy:ev L y=some (.int k i))(hi:i=(m:Int))(I:m<=N)(Z:P.underlying t=some (.array N T))(O:z1s P T sz)(hn:lbt d n)(q:WL P ops Q rest n ds w ((d,.slice (some ad) m N)::L)):WL P ops Q (⟨some d,.slice t x none (some y) none,ty,pos,after,none⟩::rest) n ds w L:=λa h=>
 z2c h U hn (by
  subst hi
  have D:ad.add 0=ad:=by simp[Addr.add]
  simp[execOp,h.eval hx,h.eval hy,Instr.sliceAt,run_underlying Z,Instr.sureAddr,Instr.sliceBounds,Instr.sliceBound,asIntOf,O w,D,I]
  ) (λa h=>q a h)
theorem k0v {g N m:Nat}{zs:List UInt8}(hb:Blk w g T (zs.map λz=>Value.int .u8 (z.toNat:Int)))(Z:zs.length=N)(hM:N<=maxLen)(O:m<=N):Sl Enc.b w (.slice (saa g) m N) (zs.take m):=by
 have hl:(zs.take m).length=m:=by rw[l27];omega
 refine⟨some ⟨g,0,none⟩,N,by rw[hl],by rw[hl];exact O,hM,λi y I=>⟨_,rfl,λj u D=>?_⟩⟩;have hi:i<(zs.take m).length:=(l50.1 I).1;rw[l53,if_pos oo]at I;match j,D with
 | 0,D=>
  cases D;rw[z9i];refine hb.cellAdd ?_;show (zs.map _)[i*1+0]?=_;rw[Nat.mul_one,Nat.add_zero,l26,I];rfl
 | j+1,D=>simp[Enc.b]at D
def bls (T:List Bool):List Value:=T.map Value.bool
theorem k9a {zs:List Bool}{j off:Nat}(D:j<zs.length)(ho:off=j):(bls zs)[off]?=some (.bool<|zs.getD j false):=by
 subst ho;rw[bls,l26,l10 D,List.getD,l10 D];rfl
end
end Go.Lw
namespace Go.G26
open Pm
section
variable {n:Nat}
theorem q1h (k:Lt n){x y:Fin n}(h:x<y)(D:¬(x=k.lo/\y=k.hi)):swL k x<swL k y:=by
 rw[l118]at h ⊢
 have Z:(x=k.lo)=(x.1=k.1):=propext ⟨λe=>t15,λe=>l112 e⟩
 have I:(x=k.hi)=(x.1=k.1+1):=propext ⟨λe=>t15,λe=>l112 e⟩
 have hy:(y=k.lo)=(y.1=k.1):=propext ⟨λe=>t15,λe=>l112 e⟩
 have O:(y=k.hi)=(y.1=k.1+1):=propext ⟨λe=>t15,λe=>l112 e⟩
 unfold swL
 simp only[Z,I,hy,O]at D ⊢
 repeat' split
 all_goals first|omega|(simp only;omega)
theorem x3i (hn:n<=8)(R:Bool):∀(c:Nat) (f g:Pm n),y3u g.l<c->(∀x y:Fin n,x<y->if R then f.b x<f.b y->g.f y<g.f x else g.f y<g.f x->f.b x<f.b y)->
    ∃D I,Mvs [f,g] [D,I]/\D.mul I=f.mul g/\(∀k:Lt n,Sb I k->Eb D k)/\∀x y:Fin n,x<y->if R then D.b x<D.b y->I.f y<I.f x else I.f y<I.f x->D.b x<D.b y
  | 0,_,_,h,_=>by omega
  | c+1,f,g,h,hJ=>by
    by_cases hk:∃k:Lt n,Sb g k/\¬Eb f k
    · obtain⟨k,O,Z⟩:=hk
      have hi:=u1p hn O
      obtain⟨D,I,a1,a2,a3,a4⟩:=x3i hn R c (sR k f) (sL k g) oo (λx y a0=>by
        by_cases hq:x=k.lo/\y=k.hi
        · obtain⟨rfl,rfl⟩:=hq
          rw[y7a]at Z
          have e1:(sR k f).b k.lo=f.b k.hi:=congrArg f.b<|y9d k
          have e2:(sR k f).b k.hi=f.b k.lo:=congrArg f.b<|y8y k
          have e3:(sL k g).f k.lo=g.f k.hi:=congrArg g.f<|y9d k
          have e4:(sL k g).f k.hi=g.f k.lo:=congrArg g.f<|y8y k
          rw[e1,e2,e3,e4]
          unfold Sb at O
          split
          · intro h';exact absurd h'<|Fin.lt_asymm Z
          · intro h';exact absurd h'<|Fin.lt_asymm O
        · exact hJ (swL k x) (swL k y)<|q1h k a0 hq)
      exact⟨D,I,.cons (.here k O Z) a1,a2.trans<|j1k k f g,a3,a4⟩
    · exact⟨f,g,.refl,rfl,λk O=>l63 λZ=>hk ⟨k,O,Z⟩,hJ⟩
theorem x9i {u:Fin n->Fin n}(h:∀k:Lt n,u k.lo<u k.hi):∀x:Fin n,u x=x:=by
 have up:∀(d:Nat) (x:Fin n),x.1=d->d<=(u x).1:=by
  intro d;induction d with
  | zero=>intros;omega
  | succ d ih=>
   intro x I;have O:=ih ⟨d,oo⟩ U;have D:=h ⟨d,oo⟩;rw[l118]at D;rw[show x=(Lt.hi ⟨d,oo⟩:Fin n) from l112 I];exact Nat.lt_of_le_of_lt O D
 have Z:∀(d:Nat) (x:Fin n),x.1+d+1=n->(u x).1+d+1<=n:=by
  intro d;induction d with
  | zero=>intro x I;have:=(u x).2;omega
  | succ d ih=>
   intro x I;have O:=ih ⟨x.1+1,oo⟩ sm;have D:=h ⟨x.1,oo⟩;rw[l118]at D;have h3:(u x).1<(u ⟨x.1+1,oo⟩).1:=D;omega
 intro x;have a:=up x.1 x U;have b:=Z (n-1-x.1) x oo;exact l112 oo
theorem j2i {p:Pm n}(h:∀k:Lt n,¬Sb p k):p=one:=Pm.ext λx=>x9i (λk=>k4x.1<|h k) x
theorem j7z {p:Pm n}(h:∀k:Lt n,Eb p k):p=half:=by
 have D:=x9i (u:=λx=>(p.b x).rev)<|λk=>l135.2<|h k;refine Pm.ext λx=>?_;show p.f x=x.rev;have:=D<|p.f x;simp only[p.bf]at this;exact this.symm
theorem mul_one (p:Pm n):p.mul one=p:=rfl
theorem one_mul (p:Pm n):one.mul p=p:=rfl
theorem j0w (p:Pm n):half.mul p.flip=p.mul half:=Pm.ext λx=>by show (p.f (Fin.rev x).rev).rev=(p.f x).rev;rw[Fin.rev_rev]
theorem v5g {a p q:Pm n}(h:a.mul p=a.mul q):p=q:=Pm.ext λx=>by
 have:=congrArg (λr:Pm n=>r.f<|a.b x) h
 simpa[Pm.mul,a.fb] using this
theorem u4z (hn:n<=8)(f:Pm n):Mvs [one,f] [f,one]:=by
 obtain⟨f',g',D,I,a3,a4⟩:=x3i hn false _ one f (l119 _) (λx y h=>by simpa[one] using λ_=>h);have Z:g'=one:=j2i λk hk=>by
  have O:=a4 k.lo k.hi (by rw[l118];simp);rw[if_neg dd]at O;exact absurd (O hk)<|Fin.lt_asymm<|a3 k hk
 rw[Z,mul_one,one_mul]at I;rw[Z,I]at D;exact D
theorem x2g (hn:n<=8)(f g r:Pm n)(h:∀x y:Fin n,x<y->f.b x<f.b y->g.f y<g.f x)(hr:f.mul g=half.mul r):Mvs [f,g] [half,r]:=by
 obtain⟨f',g',I,O,a3,a4⟩:=x3i hn true _ f g (l119 _) (λx y D=>by simpa using h x y D);have hf:f'=half:=j7z λk=>l63 λhe=>by
  have Z:=a4 k.lo k.hi (by rw[l118];simp);rw[if_pos U]at Z;exact he<|a3 k<|Z<|y7a.1 he
 rw[hf,hr]at O;rw[hf,v5g O]at I;exact I
theorem v6i (hn:n<=8)(f:Pm n):Mvs [f,half] [half,f.flip]:=x2g hn f half _ (λx y h _=>l135.2 h) (j0w f).symm
def Lt.rev (k:Lt n):Lt n:=⟨n-2-k.1,by have:=k.2;omega⟩
theorem x0e (k:Lt n)(x:Fin n):swL k.rev x=(swL k x.rev).rev:=by
 have hk:=k.2
 have Z:=x.2
 refine l112 ?_
 have O:(x.rev=k.lo)=(x.1=k.rev.1+1):=propext ⟨λe=>by have:=congrArg Fin.val e;simp[Lt.rev,l141]at this ⊢;omega,λe=>l112 (by simp[Lt.rev,l141]at e ⊢;omega)⟩
 have D:(x.rev=k.hi)=(x.1=k.rev.1):=propext ⟨λe=>by have:=congrArg Fin.val e;simp[Lt.rev,l141]at this ⊢;omega,λe=>l112 (by simp[Lt.rev,l141]at e ⊢;omega)⟩
 have hy:(x=k.rev.lo)=(x.1=k.rev.1):=propext ⟨λe=>t15,λe=>l112 e⟩
 have I:(x=k.rev.hi)=(x.1=k.rev.1+1):=propext ⟨λe=>t15,λe=>l112 e⟩
 unfold swL
 simp only[O,D,hy,I,l141]
 repeat' split
 all_goals simp only[Lt.rev,l141] at *
 all_goals omega
def sg (k:Lt n):Pm n:=sR k one
theorem j7h (k:Lt n):(sg k).flip=sg k.rev:=Pm.ext λx=>(x0e k x).symm
theorem x9n (hn:n<=8)(k:Lt n):Mvs [sg k.rev,sR k half] [half,one]:=by
 refine x2g hn _ _ _ (λx y I h=>?_)<|Pm.ext λx=>?_;show swL k y.rev<swL k x.rev;have D:swL k.rev x<swL k.rev y:=h;rw[x0e,x0e]at D;exact l135.1 D;show swL k (swL k.rev x).rev=x.rev;rw[x0e,Fin.rev_rev,v0i]
theorem x4j (hn:n<=8):∀r:List (Pm n),Mvs (one::r) (r++[one])
 | []=>.refl
 | f::r=>((u4z hn f).app r).trans (x4j hn r).next
theorem y9l (hn:n<=8)(l:List (Pm n)):∀u:List (Pm n),Mvs (u++half::l) (half::(u.map Pm.flip++l))
 | []=>.refl
 | f::u=>(y9l hn l u).next.trans<|(v6i hn f).app _
abbrev BrN (n:Nat):=Int×List (Pm n)
inductive BrE:BrN n->BrN n->Prop
  | refl {a:BrN n}:BrE a a
  | symm {a b:BrN n}:BrE a b->BrE b a
  | trans {a b c:BrN n}:BrE a b->BrE b c->BrE a c
  | mv {p:Int} {l m:List (Pm n)}:Mv l m->BrE (p,l) (p,m)
  | id {p:Int} {l:List (Pm n)}:BrE (p,l++[one]) (p,l)
  | tw {p:Int} {l:List (Pm n)}:BrE (p,half::l) (p+1,l)
theorem y6p {p:Int}{l m:List (Pm n)}(h:Mvs l m):BrE (p,l) (p,m):=by
 induction h with
 | refl=>exact .refl
 | cons a _ ih=>exact .trans (.mv a) ih
theorem u4b (hn:n<=8){a b:BrN n}(h:BrE a b)(r:List (Pm n)):BrE (a.1,a.2++r) (b.1,b.2++r):=by
 induction h with
 | refl=>exact .refl
 | symm _ ih=>exact .symm ih
 | trans _ _ ih ih'=>exact .trans ih ih'
 | mv h=>exact .mv<|h.app r
 | @id p l=>
  refine .trans (y6p (m:=l++(r++[one])) ?_) ?_;simp only[l14];exact(x4j hn r).pre l;rw[<-l14];exact .id
 | tw=>exact .tw
theorem x5t {a b:BrN n}(h:BrE a b)(d:Int):BrE (a.1+d,a.2) (b.1+d,b.2):=by
 induction h with
 | refl=>exact .refl
 | symm _ ih=>exact .symm ih
 | trans _ _ ih ih'=>exact .trans ih ih'
 | mv h=>exact .mv h
 | id=>exact .id
 | @tw p l=>rw[show p+1+d=p+d+1 by omega];exact .tw
theorem k1o (k:Lt n)(p:Pm n):(sR k p).flip=sR k.rev p.flip:=Pm.ext λx=>by
 show (swL k<|p.f x.rev).rev=swL k.rev (p.f x.rev).rev
 rw[x0e,Fin.rev_rev]
theorem j8s (k:Lt n)(p:Pm n):(sL k p).flip=sL k.rev p.flip:=Pm.ext λx=>by
 show (p.f<|swL k x.rev).rev=(p.f (swL k.rev x).rev).rev
 rw[x0e,Fin.rev_rev]
theorem j3f (k:Lt n):(k.rev.lo).rev=k.hi:=l112 (by have:=k.2;simp[Lt.rev,l141];omega)
theorem j2v (k:Lt n):(k.rev.hi).rev=k.lo:=l112 (by have:=k.2;simp[Lt.rev,l141];omega)
theorem j4r {l m:List (Pm n)}(h:Mv l m):Mv (l.map Pm.flip) (m.map Pm.flip):=by
 induction h with
 | @here f g r k hs he=>
  simp only[l28,k1o,j8s]
  refine .here k.rev ?_ ?_
  ·show (g.f (k.rev.hi).rev).rev<(g.f (k.rev.lo).rev).rev
   rw[j3f,j2v];exact l135.2 hs
  show ¬(f.b (k.rev.hi).rev).rev<(f.b (k.rev.lo).rev).rev
  rw[j3f,j2v];exact λh=>he<|l135.1 h
 | next _ ih=>exact .next ih
theorem u7u:(one:Pm n).flip=one:=Pm.ext λx=>Fin.rev_rev x
theorem u4t:(half:Pm n).flip=half:=Pm.ext λx=>by show (x.rev.rev).rev=x.rev;rw[Fin.rev_rev]
theorem j9d {a b:BrN n}(h:BrE a b):BrE (a.1,a.2.map Pm.flip) (b.1,b.2.map Pm.flip):=by
 induction h with
 | refl=>exact .refl
 | symm _ ih=>exact .symm ih
 | trans _ _ ih ih'=>exact .trans ih ih'
 | mv h=>exact .mv<|j4r h
 | id=>simp only[l31,l28,l138,u7u];exact .id
 | tw=>simp only[l28,u4t];exact .tw
def flB (d:Int)(p:Pm n):Pm n:=if d % 2=0 then p else p.flip
theorem u2r (d e:Int)(p:Pm n):flB d (flB e p)=flB (d+e) p:=by
 unfold flB;by_cases h1:d % 2=0<;>by_cases h2:e % 2=0
 rw[if_pos h1,if_pos h2,if_pos oo];rw[if_pos h1,if_neg h2,if_neg oo];rw[if_neg h1,if_pos h2,if_neg oo];rw[if_neg h1,if_neg h2,if_pos oo,Pm.flip_flip]
theorem flM (d e:Int)(u:List (Pm n)):(u.map<|flB e).map (flB d)=u.map (flB<|d+e):=by
 rw[l75];exact l109 λx _=>u2r d e x
theorem k1q {d:Int}(h:d % 2=0)(u:List (Pm n)):u.map (flB d)=u:=by
 rw[show flB d=(id:Pm n->Pm n) from funext λp=>if_pos h];exact List.map_id u
theorem k3m {a b:BrN n}(h:BrE a b)(d:Int):BrE (a.1,a.2.map<|flB d) (b.1,b.2.map<|flB d):=by
 by_cases e:d % 2=0;rw[k1q e,k1q e];exact h;rw[show flB d=(Pm.flip:Pm n->Pm n) from funext λp=>if_neg e];exact j9d h
theorem u5k (hn:n<=8){a b:BrN n}(h:BrE a b):∀u:List (Pm n),BrE (a.1,u++a.2) (b.1,u.map (flB<|b.1-a.1)++b.2):=by
 induction h with
 | refl=>intro u;rw[k1q oo];exact .refl
 | @symm a b _ ih=>
  intro u;have:=(ih<|u.map<|flB<|a.1-b.1).symm;rw[flM,k1q oo]at this;exact this
 | @trans a b c _ _ ih ih'=>
  intro u;have:=(ih u).trans<|ih' _;rw[flM,show c.1-b.1+(b.1-a.1)=c.1-a.1 by omega]at this;exact this
 | mv h=>intro u;rw[k1q oo];exact y6p<|(Mvs.one h).pre u
 | id=>intro u;rw[k1q oo,<-l14];exact .id
 | @tw p l=>
  intro u;rw[show flB (p+1-p)=(Pm.flip:Pm n->Pm n) from funext λD=>if_neg oo];exact .trans (y6p<|y9l hn l u) .tw
def Cn (a c:BrN n):Prop:=∃s t:Nat,Mvs a.2 (List.replicate s half++(c.2++List.replicate t one))/\Ir (List.replicate s half++(c.2++List.replicate t one))/\c.1=a.1+s/\(∀x r,c.2=x::r->x≠half)/\∀x r,c.2=r++[x]->x≠one
theorem v0p:∀ {l:List (Pm n)},Ir l->Ir (l++[one])
 | [],_=>λm D=>by cases D with|next h=>cases h
 | [f],_=>λm D=>by
  cases D with
  | here k hs he=>exact Fin.lt_asymm hs (by show k.lo<k.hi;rw[l118];simp)
  | next h=>cases h with|next h=>cases h
 | f::g::l,h=>λm D=>by
  cases D with
  | here k hs he=>exact h _<|.here k hs he
  | next h'=>exact v0p (l:=g::l) (λm D=>h _<|.next D) _ h'
theorem j7u {l:List (Pm n)}(h:Ir l):Ir (half::l):=λm D=>by
 cases D with
 | here k hs he=>exact he (by show Fin.rev k.hi<Fin.rev k.lo;rw[l135,l118];simp)
 | next h'=>exact h _ h'
theorem u7a {p:Int}{l:List (Pm n)}{c:BrN n}(h:Cn (p,l) c):Cn (p,l++[one]) c:=by
 obtain⟨s,t,D,I,O,Z⟩:=h;refine⟨s,t+1,?_,?_,O,Z⟩;rw[l77,<-l14,<-l14];simpa[l14] using D.app [one];rw[l77,<-l14,<-l14];have:=v0p I;simpa[l14] using this
theorem j5u {p:Int}{l:List (Pm n)}{c:BrN n}(h:Cn (p+1,l) c):Cn (p,half::l) c:=by
 obtain⟨s,t,D,I,O,Z⟩:=h;refine⟨s+1,t,?_,?_,by rw[O];simp only;omega,Z⟩;rw[l81,l48];exact D.next;rw[l81,l48];exact j7u I
theorem y7c:∀l:List (Pm n),∃s m,l=List.replicate s half++m/\∀x r,m=x::r->x≠half
 | []=>⟨0,[],rfl,λx r h=>by cases h⟩
 | x::l=>by
  by_cases hx:x=half
  ·obtain⟨s,m,e,h⟩:=y7c l
   exact⟨s+1,m,by rw[hx,e];rfl,h⟩
  exact⟨0,x::l,rfl,λy r e=>by cases e;exact hx⟩
theorem y9q:∀(k:Nat) (l:List (Pm n)),l.length=k->∃t m,l=m++List.replicate t one/\∀x r,m=r++[x]->x≠one
 | 0,l,h=>⟨0,[],by simpa using h,λx r h=>by simp at h⟩
 | k+1,l,h=>by
  obtain⟨l',x,rfl⟩:∃l' x,l=l'++[x]:=⟨l.dropLast,l.getLast (by intro e;simp[e]at h),(List.dropLast_concat_getLast _).symm⟩
  by_cases hx:x=one
  ·obtain⟨t,m,e,D⟩:=y9q k l' (by simpa using h)
   exact⟨t+1,m,by rw[hx,e,l77,l14],D⟩
  exact⟨0,l'++[x],sp0,λy r e=>by have:=(List.append_inj' e U).2;cases this;exact hx⟩
theorem q0s (hn:n<=8)(a:BrN n):∃c,Cn a c:=by
 obtain⟨d,I,O⟩:=j8i hn _ a.2<|l119 _;obtain⟨s,m,e,Z⟩:=y7c d;obtain⟨t,m',D,h4⟩:=y9q _ m U;subst D;subst e;refine⟨(a.1+s,m'),s,t,I,O,rfl,λx r e=>?_,h4⟩;refine Z x (r++List.replicate t one) ?_;simp only at e;rw[e];rfl
theorem v7w (D:2<=n):(half:Pm n)≠one:=λe=>by
 have:=congrArg (λp:Pm n=>(p.f ⟨0,oo⟩).1) e
 simp[half,one,l141]at this
 omega
theorem x4s:∀(t t':Nat) {m m':List (Pm n)},m++List.replicate t one=m'++List.replicate t' one->(∀x r,m=r++[x]->x≠one)->(∀x r,m'=r++[x]->x≠one)->m=m'
 | 0,0,m,m',e,_,_=>by simpa using e
 | t+1,t'+1,m,m',e,h,h'=>by
  rw[l77,l77,<-l14,<-l14]at e
  exact x4s t t' (List.append_inj' e U).1 h h'
 | 0,t'+1,m,m',e,h,_=>by
  rw[l77,<-l14]at e
  rw[l110,l24]at e
  exact absurd U<|h one _ e
 | t+1,0,m,m',e,_,h'=>by
  rw[l77,<-l14]at e
  rw[l110,l24]at e
  exact absurd U<|h' one _ e.symm
theorem y9i (D:2<=n):∀(s s':Nat) {t t':Nat} {m m':List (Pm n)},List.replicate s half++(m++List.replicate t one)=List.replicate s' half++(m'++List.replicate t' one)->(∀x r,m=x::r->x≠half)->(∀x r,m'=x::r->x≠half)->s=s'/\m++List.replicate t one=m'++List.replicate t' one
 | 0,0,t,t',m,m',e,_,_=>⟨rfl,by simpa using e⟩
 | s+1,s'+1,t,t',m,m',e,h,h'=>by
  rw[l81,l81,l48,l48]at e
  have:=y9i D s s' (l139 e).2 h h'
  exact⟨oo,this.2⟩
 | 0,s'+1,t,t',m,m',e,h,_=>by
  rw[l81,l48,l110,l43]at e
  match m,t with
  | x::r,_=>exact absurd (l139 e).1<|h x r U
  | [],0=>simp at e
  | [],t+1=>
   rw[l43,l81]at e
   exact absurd (l139 e).1.symm<|v7w D
 | s+1,0,t,t',m,m',e,_,h=>by
  rw[l81,l48,l110,l43]at e
  match m',t' with
  | x::r,_=>exact absurd (l139 e).1.symm<|h x r U
  | [],0=>simp at e
  | [],t'+1=>
   rw[l43,l81]at e
   exact absurd (l139 e).1<|v7w D
theorem j3i (h2:2<=n)(hn:n<=8){a c d:BrN n}(h:Cn a c)(h':Cn a d):c=d:=by
 obtain⟨s,t,D,I,O,Z,a5⟩:=h;obtain⟨s',t',b1,b2,b3,b4,b5⟩:=h';have e:=v0j hn _ _ (l119 _) _ _ D I b1 b2;obtain⟨e1,e2⟩:=y9i h2 s s' e Z b4;exact Prod.ext (by rw[O,b3,e1])<|x4s t t' e2 a5 b5
theorem Cn_E (h2:2<=n)(hn:n<=8){a b:BrN n}(h:BrE a b):∀c,Cn a c↔Cn b c:=by
 have D:∀ {a b:BrN n},(∀c,Cn a c->Cn b c)->∀c,Cn a c↔Cn b c:=λ{a b} h c=>⟨h c,λhb=>by
  obtain⟨d,O⟩:=q0s hn a;rw[j3i h2 hn hb (h d O)];exact O⟩
 induction h with
 | refl=>exact λc=>Iff.rfl
 | symm _ ih=>exact λc=>(ih c).symm
 | trans _ _ ih ih'=>exact λc=>(ih c).trans<|ih' c
 | mv h=>
  refine λc=>(D (λc I=>?_) c).symm;obtain⟨s,t,Z,a2,a3⟩:=I;exact⟨s,t,.cons h Z,a2,a3⟩
 | id=>exact λc=>(D (λc I=>u7a I) c).symm
 | tw=>exact λc=>(D (λc I=>j5u I) c).symm
theorem j9c (D:2<=n)(hn:n<=8){a b c d:BrN n}(h:BrE a b)(I:Cn a c)(O:Cn b d):c=d:=j3i D hn ((Cn_E D hn h c).1 I) O
def plF (n:Nat)(k:Int):Pm n:=if h:k.natAbs-1+1<n then (if 0<k then sg ⟨k.natAbs-1,h⟩ else sR ⟨k.natAbs-1,h⟩ half) else one
def fac (n:Nat):List Int->Int×List (Pm n)
  | []=>(0,[])
  | k::w=>((fac n w).1-(if 0<k then 0 else 1),flB (fac n w).1 (plF n k)::(fac n w).2)
theorem x3l (u v:List Int):fac n (u++v)=((fac n u).1+(fac n v).1,(fac n u).2.map (flB (fac n v).1)++(fac n v).2):=by
 induction u with
 | nil=>simp[fac]
 | cons k u ih=>
  rw[l48];simp only[fac,ih,l28,l48,u2r];rw[show (fac n u).1+(fac n v).1-(if 0<k then 0 else 1)=(fac n u).1-(if 0<k then 0 else 1)+(fac n v).1 by omega,Int.add_comm (fac n v).1 (fac n u).1]
theorem v7q (hn:n<=8){v D:List Int}(h:BrE (fac n v) (fac n D))(u:List Int):BrE (fac n<|u++v) (fac n<|u++D):=by
 rw[x3l,x3l];have:=x5t (u5k hn h<|(fac n u).2.map<|flB (fac n v).1) (fac n u).1;rw[flM,show (fac n D).1-(fac n v).1+(fac n v).1=(fac n D).1 by omega,Int.add_comm (fac n v).1,Int.add_comm (fac n D).1]at this;exact this
theorem v3b (hn:n<=8){u u':List Int}(h:BrE (fac n u) (fac n u'))(v:List Int):BrE (fac n<|u++v) (fac n<|u'++v):=by
 rw[x3l,x3l];exact u4b hn (x5t (k3m h (fac n v).1) (fac n v).1) (fac n v).2
theorem u0r (hn:n<=8){k:Int}(h1:1<=k.natAbs)(I:k.natAbs<n):BrE (fac n [k,-k]) (0,[]):=by
 have hl:k.natAbs-1+1<n:=by omega
 have e1:plF n k=if 0<k then sg ⟨k.natAbs-1,hl⟩ else sR ⟨k.natAbs-1,hl⟩ half:=dif_pos hl
 have e2:plF n (-k)=if 0 < -k then sg ⟨k.natAbs-1,hl⟩ else sR ⟨k.natAbs-1,hl⟩ half:=by
  unfold plF;simp only[Int.natAbs_neg];exact dif_pos hl
 by_cases hk:0<k;rw[if_pos hk]at e1;rw[if_neg oo]at e2;simp only[fac,e1,e2,if_pos hk,if_neg (show ¬0 < -k by omega)];rw[show flB (0-1) (sg ⟨k.natAbs-1,hl⟩)=sg (Lt.rev ⟨k.natAbs-1,hl⟩) by rw[<-j7h];rfl,show flB 0 (sR ⟨k.natAbs-1,hl⟩ half)=sR ⟨k.natAbs-1,hl⟩ half from U];refine .trans (y6p<|x9n hn _)<|.trans .tw ?_;exact BrE.id (l:=[]);rw[if_neg hk]at e1;rw[if_pos oo]at e2;simp only[fac,e1,e2,if_neg hk,if_pos (show 0 < -k by omega)];rw[show flB (0-0) (sR ⟨k.natAbs-1,hl⟩ half)=sR ⟨k.natAbs-1,hl⟩ half from U,show flB 0 (sg (⟨k.natAbs-1,hl⟩:Lt n))=sg ⟨k.natAbs-1,hl⟩ from U];refine .trans (y6p<|x2g hn _ _ one (λx y D h=>?_)<|Pm.ext λx=>v0i _ _)<|.trans .tw ?_;exact l135.1 h;exact BrE.id (l:=[])
theorem Mvs.less (hn:n<=8){a b:List (Pm n)}(h:Mvs a b):ms 0 b<=ms 0 a:=by
 induction h with
 | refl=>exact l20 _
 | cons h _ ih=>have:=h.less hn 0;omega
def Mvp (a b:List (Pm n)):Prop:=∃m,Mv a m/\Mvs m b
theorem Mvp.less (hn:n<=8){a b:List (Pm n)}(h:Mvp a b):ms 0 b<ms 0 a:=by
 obtain⟨m,D,I⟩:=h;have:=D.less hn 0;have:=I.less hn;omega
theorem Mvp.mvs {a b:List (Pm n)}(h:Mvp a b):Mvs a b:=let ⟨_,h1,h2⟩:=h;.cons h1 h2
theorem Mv.pre {l m:List (Pm n)}(h:Mv l m):∀u:List (Pm n),Mv (u++l) (u++m)
 | []=>h
 | _::u=>.next<|Mv.pre h u
theorem u9t {p:Pm n}(h:∀k:Lt n,Sb p k):p=half:=by
 have D:=x9i (u:=λx=>(p.f x).rev)<|λk=>l135.2<|h k;refine Pm.ext λx=>?_;have:=congrArg Fin.rev<|D x;rwa [Fin.rev_rev]at this
theorem j8h (k:Lt n):Sb (half:Pm n) k:=by show Fin.rev k.hi<Fin.rev k.lo;rw[l135,l118];simp
theorem k6a (k:Lt n):¬Sb (one:Pm n) k:=by rw[k4x];show k.lo<k.hi;rw[l118];simp
theorem k2r {l:List (Pm n)}(h:∀i f g,l[i]?=some f->l[i+1]?=some g->∀k,Sb g k->Eb f k):Ir l:=by
 intro m O
 induction O with
 | @here f g r k hs he=>exact he<|h 0 f g U U k hs
 | next _ ih=>exact ih λi f g D I=>h (i+1) f g D I
theorem k6s {a b:List (Pm n)}(h:Ir (a++b)):Ir a:=λm D=>h _<|D.app b
theorem v1t {l:List (Pm n)}(h:Ir l):∀t:Nat,Ir (l++List.replicate t one)
 | 0=>by simpa using h
 | t+1=>by rw[l77,<-l14];exact v0p<|v1t h t
theorem x0b (hn:n<=8)(f:Pm n):∀t:Nat,Mvs (List.replicate t one++[f]) (f::List.replicate t one)
 | 0=>.refl
 | t+1=>by
  rw[l81,l48]
  exact(x0b hn f t).next.trans<|(u4z hn f).app<|List.replicate t one
theorem u8b {F F':Nat->Pm n}{a b:Nat}(ho:∀g,g≠a->g≠b->F' g=F g){l:List Nat}{i:Nat}(hd:l.Nodup)(h:i+1<l.length)(e1:l.getD i 0=a)(e2:l.getD (i+1) 0=b) :
    l.map F=(l.take i).map F++([F a,F b]++(l.drop<|i+2).map F)/\l.map F'=(l.take i).map F++([F' a,F' b]++(l.drop<|i+2).map F):=by
  rw[List.getD,l10 oo]at e1
  rw[List.getD,l10 h]at e2
  have e:l=l.take i++([a,b]++l.drop (i+2)):=by
    have a1:l.drop i=l[i]::l.drop (i+1):=l33 oo
    rw[l33 h]at a1
    rw[<-e1,<-e2]
    show l=l.take i++l[i]::l[i+1]::l.drop (i+1+1)
    rw[<-a1,l25]
  have D:=hd
  rw[e]at D
  obtain⟨-,a0,I⟩:=l67.1 D
  have d1:∀g∈l.take i,F' g=F g:=λg Z=>ho g (λe=>I g Z a sp0 e)<|λe=>I g Z b sp0 e
  obtain⟨-,-,O⟩:=l67.1 a0
  have d2:∀g∈l.drop (i+2),F' g=F g:=λg Z=>ho g (λe=>O a sp0 g Z e.symm)<|λe=>O b sp0 g Z e.symm
  have c1:=congrArg (List.map F) e
  have c2:=congrArg (List.map F') e
  simp only[l31,l28,l138]at c1 c2
  rw[l109 d1,l109 d2]at c2
  exact⟨c1,c2⟩
theorem j3y {p:Int}{c:BrN n}(h:Cn (p,[]) c):c=(p,[]):=by
 obtain⟨s,t,D,-,I,-⟩:=h;have:=D.len;simp only[l13,l22,l52]at this;refine Prod.ext (by rw[I];simp only;omega)<|l82 oo
theorem k0e (hn:1<=n/\n<=8){u v:List Int}(O:∀k∈u,1<=k.natAbs/\k.natAbs<n)(Z:∀k∈v,1<=k.natAbs/\k.natAbs<n)(h:BrE (fac n u) (fac n v)){c d:BrN n}(D:Cn (fac n u) c)(I:Cn (fac n v) d):c=d:=by
 by_cases h2:2<=n;exact j9c h2 hn.2 h D I;have nil:∀ {u:List Int},(∀k∈u,1<=k.natAbs/\k.natAbs<n)->u=[]:=λ{u} h=>by
  cases u with
  | nil=>rfl
  | cons k u=>have:=h k l35;omega
 rw[nil O]at D;rw[nil Z]at I;rw[j3y D,j3y I]
end
end Go.G26
namespace Go.Proofs.YtkafbfjmcigaiaaGreatDoor
open Go.Lw Go.G21 Go.G08 Go.G09 Go.G26 _root_.Go.Proofs.Tryz
def StB (l:List UInt8)(k s:Nat):Prop:=s<256/\∀j,s.testBit j=decide (j<k/\j+1<l.length/\l.getD (j+1) 0<l.getD j 0)
theorem k2v (l:List UInt8):StB l 0 0:=⟨dd,λj=>by rw[Nat.zero_testBit];exact(decide_eq_false<|λh=>oo).symm⟩
theorem u1h {l:List UInt8}{k s:Nat}(h:StB l k s)(I:k<8)(hl:k+1<l.length)(O:((l.getD (k+1) 0).toNat:Int)<((l.getD k 0).toNat:Int)):StB l (k+1) (s ||| 2 ^ k):=by
 refine⟨Nat.or_lt_two_pow (n:=8) h.1<|Nat.pow_lt_pow_right dd I,λj=>?_⟩;rw[Nat.testBit_or,h.2 j,Nat.testBit_two_pow];have D:l.getD (k+1) 0<l.getD k 0:=by rw[l89];omega
 by_cases e:k=j;subst e;rw[decide_eq_false (λh=>absurd h.1<|Nat.lt_irrefl _),decide_eq_true U,decide_eq_true ⟨l119 _,hl,D⟩];rfl;rw[decide_eq_false e,Bool.or_false];exact decide_eq_decide.2 ⟨λh=>⟨oo,h.2⟩,λh=>⟨oo,h.2⟩⟩
theorem j4a {l:List UInt8}{k s:Nat}(h:StB l k s)(I:¬((l.getD (k+1) 0).toNat:Int)<((l.getD k 0).toNat:Int)):StB l (k+1) s:=by
 refine⟨h.1,λj=>?_⟩;rw[h.2 j];have D:¬l.getD (k+1) 0<l.getD k 0:=by rw[l89];omega
 by_cases e:k=j;subst e;rw[decide_eq_false (λh=>absurd h.1<|Nat.lt_irrefl _),decide_eq_false (λh=>D h.2.2)];exact decide_eq_decide.2 ⟨λh=>⟨oo,h.2⟩,λh=>⟨oo,h.2⟩⟩
theorem u3n {l:List UInt8}{k s:Nat}(h:StB l k s)(D:¬k+1<l.length):StB l l.length s:=⟨h.1,λj=>by
 rw[h.2 j]
 exact decide_eq_decide.2 ⟨λh=>⟨oo,h.2⟩,λh=>⟨oo,h.2⟩⟩⟩
theorem x7h (v:Value)(l:List UInt8)(w0:World)(hs:Sl Enc.b w0 v l)(hl:l.length<=8):Rets prog 88 #[v] w0 λr w'=>(∃s:Nat,r=.int .u8 (s:Int)/\StB l l.length s)/\Fr [] w0 w':=by
 obtain⟨A,c,rfl,a7⟩:=id hs.form;refine wf func88 U ?_;have a3:=hs;refine sr<|asg U<|nn<|sr<|asg U<|nn<|sq<|sr<|asg U<|nn<|bl<|lpK (ι:=Nat×Nat) (ll1 0) (λO=>[(3,.int .u8 (O.2:Int)),(4,.int .i64<|(O.1:Int)+1)]) (λO w'=>Fr [] w0 w'/\(O.1=0\/O.1<l.length)/\StB l O.1 O.2) (λO=>l.length-O.1) (0,0) U ⟨l12 _ _,⟨.inl U,k2v l⟩⟩ ?_;rintro⟨k,s⟩ w1 ⟨q1,⟨a2,I⟩⟩;simp only at a2 I;refine kpC [(0,_),(3,.int .u8 (s:Int)),(4,.int .i64<|(k:Int)+1)] U<|sq<|sr<|mv U<|mv U<|lnS U<|lt' U<|nn<|cd U (λc0=>?_)<|λc0=>?_;refine sk<|tn<|sq<|bl<|sq ?_;have hs:=a3.ext q1;intro a h;have Z:=l12 [] w1;refine z3d (Fr []) z2s ?_;intro w2 hq;have hs:=hs.ext hq;have Z:=Z.next hq;have a8:=hq.size;have hC:Fr [] w2 w2:=l12 _ _;have D:=hs;refine z0e 0 h U λa h=>z0e 1 h U λa h=>z3a 2 h U t12 U λa h=>z1d (p:=k) (0) 3 h U hs U y5c U λa5 a0 a h=>z2h 4 h U (λ_ hw=>a0 _<|D.ext hw) na5 U λa h=>z0e 5 h U λa h=>z0e 6 h U λa h=>z1d (p:=(k+1)) (0) 7 h U hs U y5c U λa6 a1 a h=>z2h 8 h U (λ_ hw=>a1 _<|D.ext hw) na5 U λa h=>v6y 9 hC h wn U U λa h=>z0q ?_;clear hC D;refine xB (ll4 0 3 4 20) h U<|tn<|cd U (λc1=>?_)<|λc1=>?_;exact rg<|mv U<|mv U<|z2i U (show IntKind.i64.wrap ((k:Int)+1-1)=(k:Int) from (wi6 oo).trans oo)<|j2o (m:=k) U U oo U<|k8y U U I.1 (Nat.pow_lt_pow_right dd (show k<8 by omega)) U<|asg U<|kpL (ll3 0 3 4) U<|nl<|bn'<|tn<|rg<|mv U<|ad6 U<|asg U<|nl<|lpE ((k+1,s ||| 2 ^ k)) U ⟨(q1.n1 Z),⟨sm,u1h I oo oo c1⟩⟩ sm;exact sk<|bn'<|tn<|rg<|mv U<|ad6 U<|asg U<|nl<|lpE ((k+1,s)) U ⟨(q1.n1 Z),⟨sm,j4a I c1⟩⟩ sm;have a4:=u3n I oo;exact ex<|te<|te<|xh<|tn<|sr<|mv U<|asg U<|nn<|rt<|r1 U ⟨_,rfl,⟨s,rfl,a4⟩,q1⟩
theorem j3u {l:List UInt8}(hl:l.length<=8):∀k,k=0\/k<l.length->∃s,StB l k s
 | 0,_=>⟨0,k2v l⟩
 | k+1,h=>by
  obtain⟨s,D⟩:=j3u hl k oo
  by_cases c:((l.getD (k+1) 0).toNat:Int)<((l.getD k 0).toNat:Int)
  ·exact⟨_,u1h D oo oo c⟩
  exact⟨s,j4a D c⟩
noncomputable def stN (l:List UInt8):Nat:=Classical.epsilon<|StB l l.length
theorem j6b {l:List UInt8}(hl:l.length<=8):StB l l.length (stN l):=Classical.epsilon_spec (by
 obtain⟨s,D⟩:=j3u hl (l.length-1) oo
 exact⟨s,u3n D oo⟩)
theorem k2o {l:List UInt8}{s:Nat}(hl:l.length<=8)(h:StB l l.length s):s=stN l:=Nat.eq_of_testBit_eq λj=>by rw[h.2,(j6b hl).2]
theorem j2p (v:Value)(l:List UInt8)(w0:World)(D:Sl Enc.b w0 v l)(hl:l.length<=8):Rets prog 88 #[v] w0 λr w'=>r=.int .u8 (stN l:Int)/\Fr [] w0 w':=
 Rets.mono (x7h v l w0 D hl) (by
  rintro r w' ⟨⟨s,rfl,h⟩,hf⟩
  rw[k2o hl h]
  exact⟨rfl,hf⟩)
theorem k7o (n:Nat)(w0:World)(hn:1<=n/\n<=8):Rets prog 89 #[.int .i64 (n:Int)] w0 λr w'=>r=.int .u8 ((2 ^ (n-1)-1:Nat):Int)/\Fr [] w0 w':=by
 have D:1<=2 ^ (n-1)/\2 ^ (n-1)<256:=⟨Nat.one_le_two_pow,Nat.pow_lt_pow_right (n:=8) dd oo⟩;exact wf func89 U<|sr<|asg U<|nn<|sr<|mv U<|z2i U (show IntKind.i64.wrap ((n:Int)-1)=((n-1:Nat):Int) from (wi6 oo).trans oo)<|j2o (m:=n-1) U U oo U<|z2i U (show IntKind.u8.wrap (((2 ^ (n-1):Nat):Int)-1)=((2 ^ (n-1)-1:Nat):Int) from (wi8 oo).trans oo)<|asg U<|nn<|rt<|r1 U ⟨_,rfl,rfl,(l12 _ _)⟩
def tz8:List UInt8:=[8,0,1,0,2,0,1,0,3,0,1,0,2,0,1,0,4,0,1,0,2,0,1,0,3,0,1,0,2,0,1,0,5,0,1,0,2,0,1,0,3,0,1,0,2,0,1,0,4,0,1,0,2,0,1,0,3,0,1,0,2,0,1,0,6,0,1,0,2,0,1,0,3,0,1,0,2,0,1,0,4,0,1,0,2,0,1,0,3,0,1,0,2,0,1,0,5,0,1,0,2,0,1,0,3,0,1,0,2,0,1,0,4,0,1,0,2,0,1,0,3,0,1,0,2,0,1,0,7,0,1,0,2,0,1,0,3,0,1,0,2,0,1,0,4,0,1,0,2,0,1,0,3,0,1,0,2,0,1,0,5,0,1,0,2,0,1,0,3,0,1,0,2,0,1,0,4,0,1,0,2,0,1,0,3,0,1,0,2,0,1,0,6,0,1,0,2,0,1,0,3,0,1,0,2,0,1,0,4,0,1,0,2,0,1,0,3,0,1,0,2,0,1,0,5,0,1,0,2,0,1,0,3,0,1,0,2,0,1,0,4,0,1,0,2,0,1,0,3,0,1,0,2,0,1,0]
theorem k4v:∀s:Fin 256,s.1≠0->s.1.testBit (tz8.getD s.1 0).toNat=true/\(tz8.getD s.1 0).toNat<8:=by decide +kernel
set_option maxRecDepth 10000 in
theorem q1u (s:Nat)(w0:World)(O:s≠0)(h:s<256):Rets prog 136 #[.int .u8 (s:Int)] w0 λr w'=>(∃k:Nat,r=.int .i64 (k:Int)/\s.testBit k=true/\k<8)/\Fr [] w0 w':=by
 obtain⟨D,I⟩:=k4v ⟨s,h⟩ O;simp only at D I;exact wf func136 U<|sr<|asg U<|nn<|sr<|mv U<|u2v (l:=tz8) (p:=s) U U underlying9 oo (show (s:Int)<((256:Nat):Int) by omega) U U<|λZ=>(z4c U (us underlying5) underlying3 (wi6 oo)<|asg U<|nn<|rt<|r1 U ⟨_,rfl,⟨(tz8.getD s 0).toNat,rfl,D,I⟩,(l12 _ _)⟩)
theorem zv5 (w:World):(zeroValue 5).run prog w=.ok (.int .u8 0) w:=kr
theorem v9j {α:Type}{e:α}{n i:Nat}{u:Nat->α}(h:i<n):((List.range i).map u++List.replicate (n-i) e).set i (u i)=(List.range<|i+1).map u++List.replicate (n-(i+1)) e:=by
 rw[l56 _ _ sp0,l18,List.length_range,l100,show n-i=n-(i+1)+1 by omega,l81,l140,l66,l31,l14];rfl
theorem v3n {α:Type}{d:α}(l:List α):(List.range l.length).map (λi=>l.getD i d)=l:=by
 refine l71 sp0 λi I D=>?_;rw[l130,List.getElem_range,List.getD,l10 D];rfl
theorem k2b (i:Nat)(w0:World)(hi:i<8):Rets prog 133 #[.int .i64 (i:Int)] w0 λr w'=>r=.int .u8 ((UInt8.ofNat<|i+1).toNat:Int)/\Fr [] w0 w':=by
 have D:((UInt8.ofNat<|i+1).toNat:Int)=(i:Int)+1:=by rw[l41];omega
 exact wf func133 U<|sr<|asg U<|nn<|sr<|mv U<|ad6 U<|z4c U (us underlying3) underlying5 ((wi8 oo).trans D.symm)<|asg U<|nn<|rt<|r1 U ⟨_,rfl,rfl,(l12 _ _)⟩
theorem k4g (i n D:Nat)(w0:World)(hb:Blk w0 D 3 [.int .i64 (n:Int)])(hi:i<n)(hn:n<=8):Rets prog 134 #[.int .i64 (i:Int),pta D] w0 λr w'=>r=.int .u8 ((UInt8.ofNat<|n-i).toNat:Int)/\Fr [] w0 w':=by
 have I:((UInt8.ofNat<|n-i).toNat:Int)=(n:Int)-i:=by rw[l41];omega
 exact wf func134 U<|sr<|asg U<|nn<|sr<|z2a U hb na3<|mv U<|z2i U (wi6 oo)<|z4c U (us underlying3) underlying5 ((wi8 oo).trans I.symm)<|asg U<|kpL (ll1 3) U<|nn<|rt<|r1 U ⟨_,rfl,rfl,(l12 _ _)⟩
theorem k3z (i I:Nat)(v:Value)(l:List UInt8)(w0:World)(D:Sl Enc.b w0 v l)(hb:Blk w0 I 22 [v])(hi:i<l.length):Rets prog 93 #[.int .i64 (i:Int),pta I] w0 λr w'=>r=.int .u8 ((l.getD i 0).toNat:Int)/\Fr [] w0 w':=by
 obtain⟨A,c,rfl,a0⟩:=id D.form;refine wf func93 U ?_;have a1:=D;exact sr<|asg U<|nn<|sr<|z2a U hb v5f<|mv U<|z1a (p:=i) (0) U D U y5c oo<|λZ O=>(z1c U (O _ D) na5<|asg U<|kpL (ll1 3) U<|nn<|rt<|r1 U ⟨_,rfl,rfl,(l12 _ _)⟩)
theorem v0d (n f:Nat)(ws:List Value)(u:Nat->UInt8)(w0:World)(hn:n<=8)(hf:CallOf prog f)(I:∀i w,i<n->Fr [] w0 w->Rets prog f (Value.int .i64 (i:Int)::ws).toArray w λr w'=>r=.int .u8 ((u i).toNat:Int)/\Fr [] w w'):Rets prog 92 #[.int .i64 (n:Int),.func (.func f) #[] ws.toArray] w0 λr w'=>(∃g,r=.slice (saa g) n n/\Lw.Own Enc.b 5 w0.heap.size w' r ((List.range n).map u))/\Fr [] w0 w':=by
 refine wf func92 U<|sr<|asg U<|nn<|sr<|mv U<|z1g (m:=n) (c:=n) ((0:UInt8)) U y5c zv5 U<|λO w1 a0 D q1 z1=>(asg U<|nn<|sq<|sr<|mv U<|lnS U<|mv U<|nn<|bl<|lpK (ι:=Nat) (ll3 1 5 10) (λi=>[(11,.int .i64 (i:Int))]) (λi w'=>Fr [O] w1 w'/\i<=n/\Lw.Own Enc.b 5 O w' (.slice (saa O) n n) ((List.range i).map u++List.replicate (n-i) 0)) (λi=>n-i) 0 U ⟨l12 _ _,⟨l16 _,by simpa using D⟩⟩ ?_);rintro i w2 ⟨Z,⟨hi,D⟩⟩;refine kpC (ll4 1 5 10 11) U<|sr<|lt' U<|nn<|sq<|cd U (λc0=>?_)<|λc0=>?_;refine sk<|tn<|sq<|bl<|sr<|mv U<|asg U<|nn<|rg<|mv U<|mv U<|mv U<|mv U<|clv (us:=[]) (ws:=ws) U (ev1 U) hf (I i _ oo<|q1.z1 Z) U t14 ?_;rintro _ w3 ⟨rfl,q3⟩;have D:=D.ext q3;refine z6a (p:=i) (E:=Enc.b) U y5c<|z3t (i:=i) ((u i)) U D so U sz5<|λw4 D q4 z4=>?_;rw[v9j oo]at D;exact kpL (ll4 1 5 10 11) U<|nl<|bn'<|tn<|rg<|ad6 U<|mv U<|nl<|lpE (i+1) U ⟨((l12 [O] _).z3 Z q3 q4),⟨oo,D⟩⟩ oo;obtain rfl:i=n:=by omega
 rw[l100,l110,l24]at D;exact ex<|te<|te<|xh<|tn<|sr<|mv U<|asg U<|kpL (ll1 4) U<|nn<|rt<|r1 U ⟨_,rfl,⟨O,rfl,D.low oo⟩,(q1.z1 Z)⟩
theorem k4t (v:Value)(l:List UInt8)(w0:World)(O:Sl Enc.b w0 v l)(hl:l.length<=8):Rets prog 40 #[v] w0 λr w'=>(∃g,r=.slice (saa g) l.length l.length/\Lw.Own Enc.b 5 w0.heap.size w' r l)/\Fr [] w0 w':=by
 obtain⟨A,c,rfl,a0⟩:=id O.form;refine wf func40 U ?_;have Z:=O;refine sr<|bx U<|λg1 w1 a1 D q1 z1=>(asg U<|nn<|sr<|z2a U D v5f<|lnS U<|z5j z0f (ev1 U) ?_);have O:=Z.ext q1;refine cl (ev2 U) cO (v0d l.length 93 [pta g1] (λi=>l.getD i 0) _ hl (CallOf.mk' func93 kr kr)<|λi w hi hw=>k3z i g1 _ l w (O.ext hw) (D.fr hw sp0) hi) ?_;rintro _ w2 ⟨⟨g6,rfl,I⟩,q2⟩;rw[v3n]at I;exact asg U<|nn<|rt<|r1 U ⟨_,rfl,⟨g6,rfl,I.low oo⟩,(q1.n1 q2)⟩
theorem k6v (n:Nat)(w0:World)(hn:n<=8):Rets prog 84 #[.int .i64 (n:Int)] w0 λr w'=>(∃g,r=.slice (saa g) n n/\Lw.Own Enc.b 5 w0.heap.size w' r (idN n))/\Fr [] w0 w':=by
 refine wf func84 U<|sr<|asg U<|nn<|sr<|mv U<|cl (ev2 U) cO (v0d n 133 [] (λi=>UInt8.ofNat<|i+1) _ hn (CallOf.mk' func133 kr kr)<|λi w hi O=>k2b i w oo) ?_;rintro _ w1 ⟨⟨I,rfl,D⟩,q1⟩;exact asg U<|nn<|rt<|r1 U ⟨_,rfl,⟨I,rfl,D.low oo⟩,q1⟩
theorem k4h (n:Nat)(w0:World)(hn:n<=8):Rets prog 85 #[.int .i64 (n:Int)] w0 λr w'=>(∃g,r=.slice (saa g) n n/\Lw.Own Enc.b 5 w0.heap.size w' r (hfN n))/\Fr [] w0 w':=by
 refine wf func85 U<|sr<|bx U<|λO w1 a0 D q1 z1=>(asg U<|nn<|sr<|z2a U D na3<|z5j z0f (ev1 U)<|cl (ev2 U) cO (v0d n 134 [pta O] (λi=>UInt8.ofNat<|n-i) _ hn (CallOf.mk' func134 kr kr)<|λi w hi hw=>k4g i n O w (D.fr hw sp0) hi hn) ?_);rintro _ w2 ⟨⟨Z,rfl,I⟩,q2⟩;exact asg U<|nn<|rt<|r1 U ⟨_,rfl,⟨Z,rfl,I.low oo⟩,(q1.n1 q2)⟩
theorem sz4:z1s prog 4 1:=λ_=>kr
theorem k9z (w:World):(zeroValue 210).run prog w=.ok (.agg #[(.bool false),(.bool false),(.bool false),(.bool false),(.bool false),(.bool false),(.bool false),(.bool false),(.bool false)]) w:=kr
theorem v8e {f:List UInt8}{i:Nat}(s:UInt8->UInt8)(h:i<f.length):((f.take i).map s++f.drop i).set i (s<|f.getD i 0)=(f.take<|i+1).map s++f.drop (i+1):=by
 rw[l56 _ _ so,show i-((f.take i).map s).length=0 by simp;omega,l33 h,l140,l54,l10 h,l31,l14,List.getD,l10 h];rfl
theorem j3o {f:List UInt8}{i:Nat}(s:UInt8->UInt8)(h:i<f.length):((f.take i).map s++f.drop i).getD i 0=f.getD i 0:=by
 rw[List.getD,l30 so,show i-((f.take i).map s).length=0 by simp;omega,l101];rfl
theorem u4k {f:List UInt8}{i:Nat}(s:UInt8->UInt8):((f.take i).map s++f.drop i).length=f.length:=so
theorem j6p {f:List UInt8}{i:Nat}(s:UInt8->UInt8)(h:i<f.length)(e:s (f.getD i 0)=f.getD i 0):(f.take i).map s++f.drop i=(f.take<|i+1).map s++f.drop (i+1):=by
 rw[<-v8e s h,e];refine l71 sp0 λj D I=>?_;rw[List.getElem_set];split;rename_i e2;subst e2;have:=j3o s h;rw[List.getD,l10 D]at this;exact this;rfl
theorem x8v (f:List UInt8)(D k base:Nat)(w0:World)(ho:Lw.Own Enc.b 5 base w0 (.slice (saa D) f.length f.length) f)(hk:k<200)(hn:f.length<=8):Rets prog 83 #[.slice (saa D) f.length f.length,.int .i64 (k:Int)] w0 λr w'=>r=.slice (saa D) f.length f.length/\Lw.Own Enc.b 5 base w' (.slice (saa D) f.length f.length) (f.map<|swK k)/\Fr [D] w0 w':=by
 have a0:((UInt8.ofNat<|k+1).toNat:Int)=(k:Int)+1:=by rw[l41];omega
 have a1:((UInt8.ofNat k).toNat:Int)=(k:Int):=by rw[l41];omega
 refine wf func83 U<|sr<|asg U<|nn<|sq<|sr<|mv U<|lnS U<|mv U<|nn<|bl<|lpK (ι:=Nat) (ll4 0 1 7 8) (λi=>[(9,.int .i64 (i:Int))]) (λi w'=>Fr [D] w0 w'/\i<=f.length/\Lw.Own Enc.b 5 base w' (.slice (saa D) f.length f.length) ((f.take i).map (swK k)++f.drop i)) (λi=>f.length-i) 0 U ⟨l12 _ _,⟨l16 _,by simpa using ho⟩⟩ ?_;rintro i w1 ⟨Z,⟨hi,ho⟩⟩;refine kpC (ll5 0 1 7 8 9) U<|sr<|lt' U<|nn<|sq<|cd U (λc0=>?_)<|λc0=>?_;have O:=j3o (swK k) (show i<f.length by omega);have a2:=(f.getD i 0).toNat_lt;rw[<-O]at a2;have a5:=congrArg UInt8.toNat O;have a4:=u4k (f:=f) (i:=i)<|swK k;refine sk<|tn<|sq<|bl<|sr<|mv U<|z1a (0) U ho.sl U y5c z1j<|λa3 I=>?_;refine z1c U (I _ ho.sl) na5<|asg U<|asg U<|nn<|sr<|mv U<|z4c U (us underlying5) underlying3 (wi6 oo)<|nn<|bl<|sr<|mv U<|eq' U<|asg U<|nn<|cd U (λc1=>?_)<|λc1=>?_;refine rg<|mv U<|mv U<|mv U<|ad6 U<|z4c U (us underlying3) underlying5 ((wi8 oo).trans a0.symm)<|z6a (p:=i) (E:=Enc.b) U y5c<|z3t (i:=i) ((UInt8.ofNat<|k+1)) U ho (by rw[u4k];omega) U sz5<|λw2 ho q2 z2=>?_;exact kpL (ll5 0 1 7 8 9) U<|nl<|bn'<|bn'<|tn<|rg<|ad6 U<|mv U<|nl<|lpE (i+1) U ⟨((l12 [D] _).z2 Z q2),⟨oo,by rw[<-v8e (swK k) (show i<f.length by omega),show swK k (f.getD i 0)=UInt8.ofNat (k+1) from if_pos oo];exact ho⟩⟩ oo;refine sr<|mv U<|ad6 U<|eq' U<|asg U<|nn<|cd U (λc2=>?_)<|λc2=>?_;refine rg<|mv U<|mv U<|mv U<|z4c U (us underlying3) underlying5 ((wi8 oo).trans a1.symm)<|z6a (p:=i) (E:=Enc.b) U y5c<|z3t (i:=i) ((UInt8.ofNat k)) U ho (by rw[u4k];omega) U sz5<|λw3 ho q3 z3=>?_;exact kpL (ll5 0 1 7 8 9) U<|nl<|bn'<|bn'<|tn<|rg<|ad6 U<|mv U<|nl<|lpE (i+1) U ⟨((l12 [D] _).z2 Z q3),⟨oo,by rw[<-v8e (swK k) (show i<f.length by omega),show swK k (f.getD i 0)=UInt8.ofNat k from (if_neg oo).trans<|if_pos oo];exact ho⟩⟩ oo;exact sk<|bn'<|bn'<|tn<|rg<|ad6 U<|mv U<|nl<|lpE (i+1) U ⟨((l12 [D] _).z1 Z),⟨oo,by rw[<-j6p (swK k) (show i<f.length by omega) ((if_neg oo).trans<|if_neg oo)];exact ho⟩⟩ oo;obtain rfl:i=f.length:=by omega
 rw[l40,List.drop_length,l24]at ho;exact ex<|te<|te<|xh<|tn<|sr<|mv U<|asg U<|kpL (ll1 4) U<|nn<|rt<|r1 U ⟨_,rfl,rfl,ho,((l12 [D] _).z1 Z)⟩
theorem k4m {T:List Bool}{i j:Nat}(h:i<T.length):(T.set i true).getD j false=if i=j then true else T.getD j false:=by
 rw[List.getD,l114];split;rename_i e;subst e;simp[h];rfl
theorem j4q (v:Value)(f:List UInt8)(w0:World)(hs:Sl Enc.b w0 v f)(hp:u4w f.length f)(hn:1<=f.length/\f.length<=8):Rets prog 87 #[v] w0 λr w'=>r=.int .i64 0/\Fr [] w0 w':=by
 obtain⟨A,c,rfl,a7⟩:=id hs.form;refine wf func87 U ?_;have a5:=hs;refine sr<|asg U<|nn<|sq<|sr<|mv U<|lnS U<|gt' U<|nn<|cd U (λc0=>?_)<|λc0=>?_;exfalso;omega;refine sk<|tn<|sq<|sr<|mv U<|lnS U<|eq' U<|nn<|cd U (λc1=>?_)<|λc1=>?_;exfalso;omega;refine sk<|tn<|sr<|al k9z U<|λg3 w1 a8 D q1 z1=>(nn<|sq<|sr<|mv U<|lnS U<|mv U<|nn<|bl ?_);refine lpK (ι:=Nat×List Bool) (ll4 0 3 12 13) (λI=>[(14,.int .i64 (I.1:Int))]) (λI w'=>Fr [g3] w1 w'/\I.1<=f.length/\I.2.length=9/\(∀x,I.2.getD x false=true->∃j,j<I.1/\(f.getD j 0).toNat=x)/\Blk w' g3 210 (bls I.2)) (λI=>f.length-I.1) (0,List.replicate 9 false) U ⟨l12 _ _,⟨l16 _,rfl,λx O=>by rw[List.getD,l62]at O;split at O<;>simp at O,D⟩⟩ ?_;rintro⟨i,T⟩ w2 ⟨q2,⟨hi,a1,Z,D⟩⟩;simp only at hi a1 Z D;have a3:=D.lt;refine kpC [(0,_),(3,_),(12,_),(13,_),(14,.int .i64 (i:Int))] U<|sr<|lt' U<|nn<|sq<|cd U (λc2=>?_)<|λc2=>?_;have a0:i<f.length:=by omega
 have a9:=hp.2.2 _<|z1b (d:=0) a0;have a4:¬T.getD (f.getD i 0).toNat false=true:=λe=>by
  obtain⟨j,hj,e2⟩:=Z _ e;have e3:=UInt8.toNat.inj e2;rw[List.getD,List.getD,l10 a0,l10 (show j<f.length by omega)]at e3;exact absurd ((List.getElem_inj (h₀:=by omega) (h₁:=a0) hp.2.1).1 e3) oo
 refine sk<|tn<|sq<|bl<|sr ?_;have hs:=a5.ext<|q1.z1 q2;refine z1a (p:=i) (0) U hs U y5c oo<|λa6 a2=>(z1c U (a2 _ hs) na5<|asg U<|nn<|sq<|sq<|rbo (r:=31) (L':=ll6 0 3 5 12 13 14) ((((((f.getD i 0).toNat:Int)<1)\/((f.length:Int)<((f.getD i 0).toNat:Int)))\/(T.getD (f.getD i 0).toNat false=true))) U ?_ ?_);refine mv U<|lt' U<|mv U<|gs 20 U (λhh=>absurd hh oo)<|λg0=>(gY U<|mv U<|gY U<|z4c U (us underlying5) underlying3 (wi6 oo)<|gY U<|mv U<|gY U<|lnS U<|gY U<|gt' U<|pkf U<|mv U<|gs 27 U (λhh=>absurd hh oo)<|λg1=>?_);exact gY U<|mv U<|gY U<|y0k U U underlying210 sz4<|gY U<|z0i U D (k9a (j:=(f.getD i 0).toNat) oo oo) na4<|pkf U<|rbe U<|U;refine tn<|cd U (λc3=>?_)<|λc3=>?_;exact absurd (c3.resolve_left<|λh=>oo) a4;refine sk<|tn<|rg<|mv U<|y0k U U underlying210 sz4<|z3r U D U sz4 (λw3 D q3 z3=>?_) (ho:=(by rw[Nat.blt_eq,bls,l18];omega));replace D:Blk w3 g3 210 (bls<|T.set (f.getD i 0).toNat true):=by rw[bls,l136];rw[bls]at D;simpa using D
 refine nl<|bn'<|tn<|rg<|ad6 U<|mv U<|nl ?_;exact lpE ((i+1,T.set (f.getD i 0).toNat true)) U ⟨((l12 [g3] _).z2 q2 q3),⟨sm,by rw[l19];exact a1,λx O=>by
  simp only at O;rw[k4m oo]at O;split at O;rename_i e;exact⟨i,l119 _,e⟩;obtain⟨j,hj,e⟩:=Z x O;exact⟨j,Nat.lt_succ_of_lt hj,e⟩,D⟩⟩ sm
 exact ex<|te<|te<|xh<|tn<|sr<|asg U<|kpL (ll1 2) U<|nn<|rt<|r1 U ⟨_,rfl,rfl,(q1.z1 q2)⟩
theorem k1p:CallOf prog 88:=cO
theorem q1p (w:World):(zeroValue 211).run prog w=.ok (.agg #[(.int .u8 0),(.int .u8 0),(.int .u8 0),(.int .u8 0),(.int .u8 0),(.int .u8 0),(.int .u8 0),(.int .u8 0)]) w:=kr
theorem k8c {f:List UInt8}{i n:Nat}(s:UInt8->UInt8)(h:i<f.length)(hn:n=f.length):(List.replicate (n-i) 0++((f.take i).map s).reverse).set (n-1-i) (s<|f.getD i 0)=List.replicate (n-(i+1)) 0++((f.take<|i+1).map s).reverse:=by
 subst hn;rw[show f.length-i=f.length-(i+1)+1 by omega,l77,l14,l56 _ _ so,l22,show f.length-1-i-(f.length-(i+1))=0 by omega,l54,l10 h,l31,List.reverse_append,List.getD,l10 h];rfl
theorem k6j {f:List UInt8}{i n:Nat}(s:UInt8->UInt8)(h:i<=f.length)(hn:n=f.length):(List.replicate (n-i) 0++((f.take i).map s).reverse).length=n:=by subst hn;simp;omega
theorem k5q {n:Nat}{x:UInt8}(D:1<=x.toNat/\x.toNat<=n)(hn:n<=8):((UInt8.ofNat (n+1)-x).toNat:Int)=(n:Int)+1-(x.toNat:Int):=by
 rw[UInt8.toNat_sub_of_le _ _ (by rw[UInt8.le_iff_toNat_le,l41];omega),l41];omega
theorem u8t (v:Value)(f:List UInt8)(w0:World)(O:Sl Enc.b w0 v f)(hp:u4w f.length f)(hn:1<=f.length/\f.length<=8):Rets prog 91 #[v] w0 λr w'=>(∃g,r=.tuple #[.slice (saa g) f.length f.length,.int .i64 0]/\Lw.Own Enc.b 5 w0.heap.size w' (.slice (saa g) f.length f.length) (flF f.length f))/\Fr [] w0 w':=by
 obtain⟨A,c,rfl,a7⟩:=id O.form;have a0:((UInt8.ofNat<|f.length+1).toNat:Int)=(f.length:Int)+1:=by rw[l41];omega
 refine wf func91 U ?_;have a4:=O;refine sr<|asg U<|asg U<|nn<|sq<|sr<|mv U<|cl (ev1 U) cO (j4q _ f _ O hp hn) ?_;rintro _ w1 ⟨rfl,q1⟩;have z1:=q1.size;refine asg U<|nn<|sr<|mv U<|ne' U<|nn<|cd U (λc0=>?_)<|λc0=>?_;exact absurd U c0;refine sk<|tn<|sr<|mv U<|lnS U<|asg U<|nn<|sr<|mv U<|z1g (m:=f.length) (c:=f.length) ((0:UInt8)) U y5c zv5 U<|λD w2 a6 I q2 z2=>(asg U<|nn<|sq<|sr<|mv U<|lnS U<|mv U<|nn<|bl<|lpK (ι:=Nat) (ll4 5 6 18 19) (λi=>[(20,.int .i64 (i:Int))]) (λi w'=>Fr [D] w2 w'/\i<=f.length/\Lw.Own Enc.b 5 D w' (.slice (saa D) f.length f.length) (List.replicate (f.length-i) 0++((f.take i).map<|λx=>UInt8.ofNat (f.length+1)-x).reverse)) (λi=>f.length-i) 0 U ⟨l12 _ _,⟨l16 _,by simpa using I⟩⟩ ?_);rintro i w3 ⟨q3,⟨hi,I⟩⟩;have z3:=q3.size;refine kpC (ll5 5 6 18 19 20) U<|sr<|lt' U<|nn<|sq<|cd U (λc1=>?_)<|λc1=>?_;have a2:i<f.length:=by omega
 have a3:=hp.2.2 _<|z1b (d:=0) a2;have a1:=k5q a3 hn.2;refine sk<|tn<|sq<|bl<|sr<|mv U ?_;have O:=a4.ext<|q1.z2 q2 q3;refine z1a (0) U O U y5c z1j<|λa5 Z=>?_;refine z1c U (Z _ O) na5<|asg U<|asg U<|nn<|rg<|mv U<|mv U<|z2i U (wi6 oo)<|mv U<|z2i U (wi6 oo)<|mv U<|ad6 U<|z4c U (us underlying3) underlying5 ((wi8 oo).trans a0.symm)<|mv U<|z2i U ((wi8 oo).trans (by rw[a1];omega):IntKind.u8.wrap (((UInt8.ofNat<|f.length+1).toNat:Int)-((f.getD i 0).toNat:Int))=((UInt8.ofNat (f.length+1)-f.getD i 0).toNat:Int))<|z6a (p:=(f.length-1-i)) (E:=Enc.b) U y5c<|z3t (i:=(f.length-1-i)) ((UInt8.ofNat (f.length+1)-f.getD i 0)) U I (by rw[k6j _ oo U];omega) U sz5<|λw4 I q4 z4=>?_;rw[k8c (λx=>UInt8.ofNat (f.length+1)-x) oo U]at I;exact kpL (ll5 5 6 18 19 20) U<|nl<|bn'<|tn<|rg<|ad6 U<|mv U<|nl<|lpE (i+1) U ⟨((l12 [D] _).z2 q3 q4),⟨oo,I⟩⟩ oo;obtain rfl:i=f.length:=by omega
 rw[l100,l110,l43,l40]at I;exact ex<|te<|te<|xh<|tn<|sr<|mv U<|asg U<|asg U<|kpL (ll2 2 3) U<|nn<|rt<|r2 U U U ⟨_,rfl,⟨D,rfl,I.low oo⟩,(q1.z2 q2 q3)⟩
theorem v8g (v:Value)(f:List UInt8)(d:Int)(w0:World)(Z:Sl Enc.b w0 v f)(hp:u4w f.length f)(hn:1<=f.length/\f.length<=8):Rets prog 39 #[v,.int .i64 d] w0 λr w'=>(∃g,r=.slice (saa g) f.length f.length/\Lw.Own Enc.b 5 w0.heap.size w' r (if d % 2=0 then f else flF f.length f))/\Fr [] w0 w':=by
 obtain⟨A,c,rfl,a2⟩:=id Z.form;refine wf func39 U ?_;have a3:=Z;refine sr<|asg U<|nn<|sq<|sr<|mv U<|k9q U U U<|eq' U<|nn<|cd U (λD=>?_)<|λD=>?_;rw[v1o]at D;refine sr<|mv U<|cl (ev1 U) cO (k4t _ f _ Z hn.2) ?_;rintro _ w1 ⟨⟨a0,rfl,I⟩,q1⟩;exact asg U<|nn<|rt<|tr<|r1 U ⟨_,rfl,⟨a0,rfl,by rw[if_pos D];exact I.low oo⟩,q1⟩;rw[v1o]at D;refine sk<|tn<|sr<|mv U<|cl (ev1 U) cO (u8t _ f _ Z hp hn) ?_;rintro _ w2 ⟨⟨a1,rfl,O⟩,q2⟩;exact mv U<|xt U<|xt U<|asg U<|asg U<|kpL (ll1 5) U<|nn<|sr<|mv U<|asg U<|nn<|rt<|r1 U ⟨_,rfl,⟨a1,rfl,by rw[if_neg D];exact O.low oo⟩,q2⟩
theorem k2f {n:Nat}(hn:n<=8){p:Pm n}{B:List UInt8}(hl:B.length=8)(h:∀j:Nat,(hj:j<n)->B.getD (p.f ⟨j,hj⟩).1 0=UInt8.ofNat j):B.take n=p.bl:=by
 refine y9w (n:=n) t19 (x5f p) λi hi=>?_;rw[u0v p hi,<-h _ (p.b ⟨i,hi⟩).2,show (⟨(p.b ⟨i,hi⟩).1,(p.b ⟨i,hi⟩).2⟩:Fin n)=p.b ⟨i,hi⟩ from U,p.fb,List.getD,List.getD,l53,if_pos hi]
theorem u1m {n:Nat}(hn:n<=8)(p:Pm n){i:Nat}(h:i<n):(p.l.getD i 0).toNat=(p.f ⟨i,h⟩).1+1:=by
 rw[y6t p h,l41];have:=(p.f ⟨i,h⟩).2;omega
theorem k4y {B:List UInt8}{i k:Nat}{z:UInt8}(h:i<B.length):(B.set i z).getD k 0=if i=k then z else B.getD k 0:=j7f h
theorem x8h (n:Nat)(p:Pm n)(v:Value)(w0:World)(hs:Sl Enc.b w0 v p.l)(hn:n<=8):Rets prog 90 #[v] w0 λr w'=>(∃s:Nat,r=.int .u8 (s:Int)/\StB p.bl n s)/\Fr [] w0 w':=by
 obtain⟨A,c,rfl,a8⟩:=id hs.form;have b1:=z3e p;refine wf func90 U ?_;have a5:=hs;refine sr<|asg U<|nn<|sr<|al q1p U<|λg3 w1 a9 D q1 z1=>(nn<|sq<|sr<|mv U<|lnS U<|mv U<|nn<|bl<|lpK (ι:=Nat×List UInt8) (ll4 0 3 6 7) (λZ=>[(8,.int .i64 (Z.1:Int))]) (λZ w'=>Fr [g3] w1 w'/\Z.1<=n/\Z.2.length=8/\(∀j:Nat,(hj:j<n)->j<Z.1->Z.2.getD (p.f ⟨j,hj⟩).1 0=UInt8.ofNat j)/\Blk w' g3 211 (Z.2.map λz=>Value.int .u8 (z.toNat:Int))) (λZ=>n-Z.1) (0,List.replicate 8 0) U ⟨l12 _ _,⟨l16 _,rfl,λj _ h=>absurd h sp0,D⟩⟩ ?_);rintro⟨i,B⟩ w2 ⟨q2,⟨hi,O,a0,D⟩⟩;simp only at hi O a0 D;have a2:=D.lt;refine kpC [(0,_),(3,_),(6,_),(7,_),(8,.int .i64 (i:Int))] U<|sr<|lt' U<|nn<|sq<|cd U (λc0=>?_)<|λc0=>?_;have I:i<n:=by omega
 have b0:=u1m hn p I;have hfl:=(p.f ⟨i,I⟩).2;have a3:((UInt8.ofNat i).toNat:Int)=(i:Int):=by rw[l41];omega
 refine sk<|tn<|sq<|bl<|sr<|mv U ?_;have hs:=a5.ext<|q1.z1 q2;refine z1a (p:=i) (0) U hs U y5c oo<|λa7 a1=>(z1c U (a1 _ hs) na5<|asg U<|asg U<|nn<|rg<|mv U<|z2i U ((wi8 oo).trans oo:IntKind.u8.wrap (((p.l.getD i 0).toNat:Int)-1)=((p.f ⟨i,I⟩).1:Int))<|mv U<|z4c U (us underlying3) underlying5 (wi8 oo)<|y0k U U underlying211 sz5<|z3r U D U sz5 (λw3 D q3 z3=>?_) (ho:=(by rw[Nat.blt_eq,l18];omega)));replace D:Blk w3 g3 211 ((B.set (p.f ⟨i,I⟩).1<|UInt8.ofNat i).map λz=>Value.int .u8 (z.toNat:Int)):=by rw[l136,a3];simpa using D
 refine kpL (ll5 0 3 6 7 8) U<|nl<|bn'<|tn<|rg<|ad6 U<|mv U<|nl ?_;exact lpE ((i+1,B.set (p.f ⟨i,I⟩).1<|UInt8.ofNat i)) U ⟨((l12 [g3] _).z2 q2 q3),⟨sm,by rw[l19];exact O,λj hj a4=>by
  simp only at a4 ⊢;rw[k4y oo];split;rename_i e;exact congrArg UInt8.ofNat (show i=j from congrArg Fin.val<|p.f_inj<|l112 e);rename_i e;refine a0 j hj<|Nat.lt_of_le_of_ne oo<|λe2=>e ?_;subst e2;rfl,D⟩⟩ sm
 obtain rfl:n=i:=by omega
 refine ex<|te<|te<|xh<|tn<|sr<|mv U<|lnS U<|k7f (m:=n) U U oo hn underlying211 sz5 U<|cl (ev1 U) k1p (by have x:=x7h _ p.bl _ (by have y:=k0v (m:=n) D O dd hn;rw[k2f hn O (λj hj=>a0 j hj oo)]at y;exact y) (by rw[x5f];exact hn);rw[x5f]at x;exact x) ?_;rintro _ w4 ⟨⟨s,rfl,a6⟩,q4⟩;exact asg U<|kpL (ll1 2) U<|nn<|rt<|r1 U ⟨_,rfl,⟨s,rfl,a6⟩,(q1.z2 q2 q4)⟩
open Go.Lw Go.G21 Go.G08 Go.G09 Go.G26 _root_.Go.Proofs.Tryz
variable {n:Nat}
def q0r (p q:Pm n)(s:Nat):Prop:=s<256/\∀j,s.testBit j=true↔∃h:j+1<n,Pm.Sb q ⟨j,h⟩/\¬Pm.Eb p ⟨j,h⟩
theorem v0v {p q:Pm n}{O D:Nat}(hn:n<=8)(h1:StB q.l n O)(I:StB p.bl n D):q0r p q (O &&& (255-D)):=by
 refine⟨Nat.lt_of_le_of_lt Nat.and_le_left h1.1,λj=>?_⟩;have Z:(255-D).testBit j=(decide (j<8) && ! D.testBit j):=by rw[show 255-D=2 ^ 8-(D+1) by omega];exact Nat.testBit_two_pow_sub_succ (n:=8) I.1 j
 rw[Nat.testBit_and,Z,h1.2,I.2,z3e,x5f];constructor;intro h;simp only[l93,decide_eq_true_eq,Bool.not_eq_true',decide_eq_false_iff_not]at h;exact⟨h.1.2.1,(k1a hn h.1.2.1).2 h.1.2.2,λe=>h.2.2 ⟨oo,h.1.2.1,(En_l hn h.1.2.1).1 e⟩⟩;rintro⟨h,a,b⟩;simp only[l93,decide_eq_true_eq,Bool.not_eq_true',decide_eq_false_iff_not];exact⟨⟨oo,h,(k1a hn h).1 a⟩,oo,λe=>b<|(En_l hn h).2 e.2.2⟩
theorem k6m {p q:Pm n}(h:q0r p q 0)(k:Lt n)(I:Pm.Sb q k):Pm.Eb p k:=l63 λD=>by
 have:=(h.2 k.1).2 ⟨k.2,I,D⟩
 rw[Nat.zero_testBit]at this;cases this
structure MvS (F G:Nat->Pm n) (a b:Nat) (t:Bool):Prop where
  o:∀g,g≠a->g≠b->G g=F g
  y:t=true->Mvp [F a,F b] [G a,G b]
  no:t=false->G=F
theorem MvS.start (F:Nat->Pm n)(a b:Nat):MvS F F a b false:=⟨λ_ _ _=>rfl,λh=>(by cases h),λ_=>rfl⟩
theorem MvS.mvs {F G:Nat->Pm n}{a b:Nat}{t:Bool}(h:MvS F G a b t):Mvs [F a,F b] [G a,G b]:=by
 cases t with
 | true=>exact(h.y U).mvs
 | false=>rw[h.no U];exact .refl
theorem MvS.step {F G:Nat->Pm n}{a b:Nat}{t:Bool}(h:MvS F G a b t)(D:a≠b){k:Lt n}(hs:Pm.Sb (G b) k)(Z:¬Pm.Eb (G a) k):MvS F (upF (upF G a<|Pm.sR k<|G a) b<|Pm.sL k<|G b) a b true:=by
 have e1:upF (upF G a<|Pm.sR k<|G a) b (Pm.sL k<|G b) a=Pm.sR k (G a):=(y8n D).trans<|x0r _ _ _;have e2:upF (upF G a<|Pm.sR k<|G a) b (Pm.sL k<|G b) b=Pm.sL k (G b):=x0r _ _ _;refine⟨λg I O=>by rw[y8n O,y8n I];exact h.o g I O,λ_=>?_,λh=>by cases h⟩;rw[e1,e2];have st:Mv [G a,G b] [Pm.sR k (G a),Pm.sL k (G b)]:=.here k hs Z;cases t with
 | true=>
  obtain⟨m,m1,m2⟩:=h.y U;exact⟨m,m1,m2.trans<|.one st⟩
 | false=>rw[h.no U]at st ⊢;exact⟨_,st,.refl⟩
theorem z7z {G:Nat->Pm n}{a b:Nat}(hn:n<=8){k:Lt n}(D:Pm.Sb (G b) k):y3u (upF (upF G a<|Pm.sR k<|G a) b (Pm.sL k<|G b) b).l<y3u (G b).l:=by
 rw[x0r];have:=u1p hn D;omega
theorem k0y (n:Nat)(wS w0:World)(A:List Nat)(F:Nat->Pm n)(I D:Nat)(hF:FacT 5 n wS w0 A F)(ha:I∈A)(hb:D∈A)(a6:I≠D)(hn:n<=8):Rets prog 135 #[.slice (saa I) n n,.slice (saa D) n n] w0 λr w'=>∃(t:Bool) (G:Nat->Pm n),r=.bool t/\FacT 5 n wS w' A G/\MvS F G I D t/\(∀k:Lt n,Pm.Sb (G D) k->Pm.Eb (G I) k)/\Fr [I,D] w0 w':=by
 refine wf func135 U<|sr<|asg U<|nn<|sr<|asg U<|nn<|sq<|sr<|mv U<|cl (ev1 U) k1p (by have x:=x7h _ (F D).l _ (hF.r D hb).sl (by rw[z3e];exact hn);rw[z3e]at x;exact x) ?_;rintro _ w1 ⟨⟨s1,rfl,a0⟩,q1⟩;refine mv U ?_;have hF:=hF.ext q1;refine cl (ev1 U) cO (x8h n (F I) _ _ (hF.r I ha).sl hn) ?_;rintro _ w2 ⟨⟨s2,rfl,a1⟩,q2⟩;refine v1c U U a0.1 a1.1 U<|asg U<|nn<|bl ?_;have hF:=hF.ext q2;refine lpK (ι:=Bool×Nat×(Nat->Pm n)) (ll2 0 1) (λp_=>[(5,.bool p_.1),(6,.int .u8 (p_.2.1:Int))]) (λp_ w'=>Fr [I,D] w2 w'/\MvS F p_.2.2 I D p_.1/\q0r (p_.2.2 I) (p_.2.2 D) p_.2.1/\FacT 5 n wS w' A p_.2.2) (λp_=>y3u (p_.2.2 D).l) (false,s1 &&& (255-s2),F) U ⟨l12 _ _,⟨MvS.start F I D,v0v hn a0 a1,hF⟩⟩ ?_;rintro⟨t,s,G⟩ w3 ⟨q3,⟨hM,hS,hF⟩⟩;simp only at hM hS hF;refine kpC [(0,_),(1,_),(5,.bool t),(6,.int .u8 (s:Int))] U<|sq<|sr<|mv U<|ne' U<|nn<|cd U (λc0=>?_)<|λc0=>?_;have a7:s≠0:=λe=>c0 (by rw[e];rfl);refine sk<|tn<|sq<|bl<|sr<|mv U<|cl (ev1 U) cO (q1u s _ a7 hS.1) ?_;rintro _ w4 ⟨⟨k,rfl,b3,b7⟩,q4⟩;obtain⟨O,a2,b0⟩:=(hS.2 k).1 b3;have b8:=z3e<|G D;refine ad6 U<|asg U<|kpL (ll3 0 1 7) U<|nn<|sr<|mv U<|mv U ?_;have hF:=hF.ext q4;refine cl (ev2 U) cO (by have x:=x8v (G I).l I (k+1) 0 _ (by have y:=hF.r I ha;rw[z3e];exact y) oo (by rw[z3e];exact hn);rw[z3e]at x;exact x) ?_;rintro _ w5 ⟨rfl,b1,q5⟩;replace hF:FacT 5 n wS w5 A (upF G I<|Pm.sR (⟨k,O⟩:Lt n)<|G I):=hF.upd ha q5 (by rw[k8p hn];exact b1);clear b1;have a9:=hF;have ho:Lw.Own Enc.b 5 0 w5 (.slice (saa D) n n) (G D).l:=by have y:=hF.r D hb;rw[y8n a6.symm]at y;exact y
 refine nn<|sq ?_;intro a h;refine rgh (some 17) (Fr [D]) ?_;intro w6 q6 hC;have ho:=ho.ext q6;have a5:=ho;refine z0e 0 h U λa h=>z0e 1 h U λa h=>z3a 2 h U t12 U λa h=>z0e 3 h U λa h=>z0e 4 h U λa h=>z0e 5 h U λa h=>z0e 6 h U λa h=>z1d (p:=(k+1)) (0) 7 h U ho.sl U y5c U λb5 a3 a h=>z0e 9 h U λa h=>z0e 10 h U λa h=>z3a 11 h U t12 U λa h=>z1d (p:=k) (0) 12 h U ho.sl U y5c U λb6 a4 a h=>z1v 8 13 kr U ?_ ?_;refine y0l h U (a3 _ ho.sl) na5 U λa h=>z0b<|z0d 13 U<|y0l h U (a4 _ ho.sl) na5 U λa h=>?_;refine z0b<|z1l 14 kr hC (p:=k) h wn U y5c oo oo oo U U λa h=>z0d 15 U<|z0z (i:=k) (((G D).l.getD (k+1) 0)) h U ho t49 U sz5 λw7 Z q7 _hz a h=>?_;have hC:=hC.sp q7;have ho:=Z;clear Z;refine z0b<|z1l 16 kr hC (p:=(k+1)) h wn U y5c oo oo oo U U λa h=>z0d 17 U<|z0z (i:=(k+1)) (((G D).l.getD k 0)) h U ho (by rw[l19,z3e];omega) U sz5 λw8 Z q8 _hz a h=>?_;have ho:=Z;clear Z;refine z1m<|z0q ?_;clear hC a5;have hF:FacT 5 n wS w8 A (upF (upF G I<|Pm.sR (⟨k,O⟩:Lt n)<|G I) D<|Pm.sL (⟨k,O⟩:Lt n)<|G D):=a9.upd hb ((l12 [D] _).z3 q6 q7 q8) (by rw[k9n];exact ho);refine xB (ll2 0 1) h U<|tn<|rg<|asg U<|nl<|bn'<|tn<|rg<|mv U<|cl (ev1 U) k1p (by have x:=x7h _ ((upF (upF G I<|Pm.sR (⟨k,O⟩:Lt n)<|G I) D<|Pm.sL (⟨k,O⟩:Lt n)<|G D) D).l _ (hF.r D hb).sl (by rw[z3e];exact hn);rw[z3e]at x;exact x) ?_;rintro _ w9 ⟨⟨s1,rfl,a0⟩,q9⟩;refine mv U ?_;have hF:=hF.ext q9;refine cl (ev1 U) cO (x8h n ((upF (upF G I<|Pm.sR (⟨k,O⟩:Lt n)<|G I) D<|Pm.sL (⟨k,O⟩:Lt n)<|G D) I) _ _ (hF.r I ha).sl hn) ?_;rintro _ b9 ⟨⟨s2,rfl,a1⟩,q10⟩;refine v1c U U a0.1 a1.1 U<|asg U<|nl ?_;have hF:=hF.ext q10;exact lpE ((true,s1 &&& (255-s2),(upF (upF G I<|Pm.sR (⟨k,O⟩:Lt n)<|G I) D<|Pm.sL (⟨k,O⟩:Lt n)<|G D))) U ⟨((((l12 [I,D] _).z6 q3 q4 q5 q6 q7 q8).n1 q9).n1 q10),⟨hM.step a6 a2 b0,v0v hn a0 a1,hF⟩⟩<|z7z hn a2;refine y0l h U (a4 _ ho.sl) na5 U λa h=>z0b<|z0d 8 U<|y0l h U (a3 _ ho.sl) na5 U λa h=>?_;refine z0b<|z1l 14 kr hC (p:=k) h wn U y5c oo oo oo U U λa h=>z0d 15 U<|z0z (i:=k) (((G D).l.getD (k+1) 0)) h U ho t49 U sz5 λc1 Z a8 _hz a h=>?_;have hC:=hC.sp a8;have ho:=Z;clear Z;refine z0b<|z1l 16 kr hC (p:=(k+1)) h wn U y5c oo oo oo U U λa h=>z0d 17 U<|z0z (i:=(k+1)) (((G D).l.getD k 0)) h U ho (by rw[l19,z3e];omega) U sz5 λb4 Z b2 _hz a h=>?_;have ho:=Z;clear Z;refine z1m<|z0q ?_;clear hC a5;have hF:FacT 5 n wS b4 A (upF (upF G I<|Pm.sR (⟨k,O⟩:Lt n)<|G I) D<|Pm.sL (⟨k,O⟩:Lt n)<|G D):=a9.upd hb ((l12 [D] _).z3 q6 a8 b2) (by rw[k9n];exact ho);refine xB (ll2 0 1) h U<|tn<|rg<|asg U<|nl<|bn'<|tn<|rg<|mv U<|cl (ev1 U) k1p (by have x:=x7h _ ((upF (upF G I<|Pm.sR (⟨k,O⟩:Lt n)<|G I) D<|Pm.sL (⟨k,O⟩:Lt n)<|G D) D).l _ (hF.r D hb).sl (by rw[z3e];exact hn);rw[z3e]at x;exact x) ?_;rintro _ c9 ⟨⟨s1,rfl,a0⟩,q13⟩;refine mv U ?_;have hF:=hF.ext q13;refine cl (ev1 U) cO (x8h n ((upF (upF G I<|Pm.sR (⟨k,O⟩:Lt n)<|G I) D<|Pm.sL (⟨k,O⟩:Lt n)<|G D) I) _ _ (hF.r I ha).sl hn) ?_;rintro _ d0 ⟨⟨s2,rfl,a1⟩,q14⟩;refine v1c U U a0.1 a1.1 U<|asg U<|nl ?_;have hF:=hF.ext q14;exact lpE ((true,s1 &&& (255-s2),(upF (upF G I<|Pm.sR (⟨k,O⟩:Lt n)<|G I) D<|Pm.sL (⟨k,O⟩:Lt n)<|G D))) U ⟨((((l12 [I,D] _).z6 q3 q4 q5 q6 a8 b2).n1 q13).n1 q14),⟨hM.step a6 a2 b0,v0v hn a0 a1,hF⟩⟩<|z7z hn a2;have a7:s=0:=by omega
 subst a7;refine ex<|te<|te<|xh<|tn<|sr<|mv U<|asg U<|kpL (ll1 4) U<|nn<|rt<|r1 U ?_;exact⟨_,rfl,t,G,rfl,hF,hM,λk hk=>k6m hS k hk,((l12 [I,D] _).z3 q1 q2 q3)⟩
end Go.Proofs.YtkafbfjmcigaiaaGreatDoor
