/- Texts of the proof, joined. -/
import Derived.Shelf.SlSortCmp.WholeK
import Derived.Deep.RegionHeld3
import Derived.Shelf.SlGeneric
import Derived.Ground.SlsfProg
import Derived.Test.YtkafbfjmcigaiaaGreatDoorProg
import Derived.Test.YtkafbfjmcigaiaaGreatDoorHB4
set_option linter.unusedVariables false
set_option linter.unusedSimpArgs false
set_option maxHeartbeats 4000000
namespace Go.Proofs.YtkafbfjmcigaiaaGreatDoor
open Go.Lw Go.G21 Go.G08 _root_.Go.Proofs.Tryz
theorem u9z (m:MQ)(j:Nat):m.p.ys.getD j yn0=(m.ys.getD j yq0).p:=by
 show (m.ys.map YQ.p).getD j yn0=_;rw[List.getD,List.getD,l26];cases m.ys[j]?<;>rfl
theorem y2y {l:List Cx}{i:Nat}(h:i<l.length):l.take (i+1)=l.take i++[l.getD i cx0]:=by
 rw[l54,List.getD,l10 h];rfl
theorem v5j {l r I:List Cx}{i:Nat}{e:Int}(h:z3s l (r.take i)=.ok I)(hi:i<r.length)(Z:y4i I (r.getD i cx0)=.error e):z3s l r=.error e:=by
 have D:=y3w (c:=r.getD i cx0) h;rw[<-y2y hi,Z]at D;have O:=x7p (r.drop<|i+1) D;rwa [l25]at O
theorem u8h {p:MSt}{c:Cx}{e:Int}(h:k1c p c=.error e):y4i p.cr c=.error e:=by
 unfold k1c at h;split at h;rename_i D;cases h;exact D;cases h
theorem j5r {p q:MSt}{c:Cx}(h:k1c p c=.ok q):∃l,y4i p.cr c=.ok l/\q={ p with cr:=l }:=by
 unfold k1c at h;split at h;cases h;rename_i l D;cases h;exact⟨l,D,rfl⟩
theorem u6s {m:MQ}{d:Int}{D:List YQ}(Z:D.length=6)(I:m.ys.length=6)(a0:∀j,j<6->z6g m.p d (m.ys.getD j yq0).p=.ok (D.getD j yq0).p):z3g m.p d m.p.ys=.ok (D.map YQ.p):=by
 refine x0c (by simp[Z,I]) λj hj=>?_;have O:j<6:=by simpa[I] using hj
 rw[u9z,a0 j O];congr 1;rw[List.getD,List.getD,l26];cases D[j]?<;>rfl
theorem u7x {m:MQ}{d:Int}{D:List YQ}{O:YQ}{i:Nat}(Z:D.length=6)(hi:i<6)(I:∀j,j<i->z6g m.p d (m.ys.getD j yq0).p=.ok (D.getD j yq0).p)(h:z6g m.p d (m.ys.getD i yq0).p=.ok O.p):∀j,j<i+1->z6g m.p d (m.ys.getD j yq0).p=.ok ((D.set i O).getD j yq0).p:=λj hj=>by
 rw[z1k oo]
 by_cases e:i=j
 ·subst e;rw[if_pos U];exact h
 rw[if_neg e];exact I j oo
theorem u2n {m:MQ}{d:Int}{D:List YQ}{i:Nat}(I:∀j,i<=j->D.getD j yq0=m.ys.getD j yq0)(O:∀j,j<i->z6g m.p d (m.ys.getD j yq0).p=.ok (D.getD j yq0).p)(h:(m.ys.getD i yq0).inn=false):∀j,j<i+1->z6g m.p d (m.ys.getD j yq0).p=.ok (D.getD j yq0).p:=λj Z=>by
 by_cases e:j=i
 ·subst e;rw[I j (l20 _)];unfold z6g;rw[if_pos h]
 exact O j oo
theorem u8p {m:MQ}{D:List YQ}{Z:YQ}{i:Nat}(O:D.length=6)(hi:i<6)(I:∀j,i<=j->D.getD j yq0=m.ys.getD j yq0):∀j,i+1<=j->(D.set i Z).getD j yq0=m.ys.getD j yq0:=λj hj=>by
 rw[z1k oo,if_neg oo];exact I j oo
theorem j4o (wS:World)(ka:MA)(m:MQ)(d:Int)(w0:World)(hM:MkM τd 120 wS ka w0 m)(hi:MInv m.p)(b2:StT wS)(hd:d=0\/d=1)(d0:-4<=m.rk+stI d/\m.rk+stI d<=4):Rets prog 108 #[pta ka.gk,.int .u8 d] w0 λr w'=>MRet τd 120 wS ka (y5e m.p d) r w':=by
 have g4:=hM.fr.size;have f2:=hM.gk;have hk:=hM.k;have g1:=hk.lt;have b8:=hM.ly;have f4:=(hM.y.out.blk ka.gy t10).2;have hI:=hi;have f3:ka.gk≠ka.gy:=λe=>Own.neB hM.y.out hM.k dd (by simp[z0v,e]);have g3:(z2g m.q.p m.rk d).length<=640:=by
  have x:(z2g m.q.p m.rk d).length<=16*m.p.B.b.length:=y3h hI.B m.rk d;have y:=hI.B.lb;omega
 refine wf func108 U ?_;have a1:=hM;refine sr<|asg U<|nn<|sq<|sr<|mv U<|nlc U<|fad U z4d<|z0i U hk U y6d<|lnS U<|mv U<|nn<|bl<|lpK (ι:=Nat) (ll4 0 1 17 18) (λi=>[(19,.int .i64 (i:Int))]) (λi w'=>Fr [ka.gy] w0 w'/\i<=6/\(∃Z:List YQ,Z.length=6/\(∀j,j<i->z6g m.p d (m.ys.getD j yq0).p=.ok (Z.getD j yq0).p)/\(∀j,i<=j->Z.getD j yq0=m.ys.getD j yq0)/\MkM τd 120 wS ka w' { m with ys:=Z })) (λi=>6-i) 0 U ⟨l12 _ _,⟨l16 _,⟨m.ys,b8,λj hj=>oo,λj _=>rfl,hM⟩⟩⟩ ?_;rintro i w1 ⟨q1,⟨hi,⟨Z,a5,a7,a6,hM⟩⟩⟩;have z1:=q1.size;have a1:=hM;refine kpC (ll5 0 1 17 18 19) U ?_;have hk:=hM.k;refine sr<|lt' U<|nn<|sq<|cd U (λc0=>?_)<|λc0=>?_;have g0:i<6:=by omega
 refine sk<|tn<|sq<|bl<|sr<|mv U<|z1a (yq0) U (show Sl z3w _ ka.YV Z from hM.y.out.sl) U y6n z1j<|λe8 b4=>?_;refine z1q U (b4 _ (show Sl z3w _ ka.YV Z from hM.y.out.sl)) z3v<|al z6w U<|λg6 w2 f8 D q2 z2=>?_;refine asg U<|z0j (vs:=[_,_,_,_,_]) U D z3y (λw3 D q3 z3=>?_) (h1:=(by first|(simp[Value.oneCell',S];done)|exact z3w.one<|m.ys.getD i yq0));rw[a6 i (l20 _)]at D;refine nn<|sq<|sr<|fad U z9m<|z0i U D U na4<|nt' U<|nn<|cd U (λc1=>?_)<|λc1=>?_;refine ex<|te<|xh<|tn<|rg<|ad6 U<|mv U<|nl ?_;have hM:=a1.ext<|q2.z1 q3;exact lpE (i+1) U ⟨((l12 [ka.gy] _).z3 q1 q2 q3),⟨oo,⟨Z,a5,u2n a6 a7 (by simpa using c1),λj hj=>a6 j oo,hM⟩⟩⟩ oo;have d1:=(hI.yn i oo).1;rw[u9z]at d1;have c9:=k8g (by have:=d1.2;rw[if_pos (by simpa using c1)]at this;exact this.1);have f5:(z4q m.q.p m.rk d (m.ys.getD i yq0).pl).length<=50000:=by
  have x:(z4q m.q.p m.rk d (m.ys.getD i yq0).pl).length<=4*m.p.B.b.length:=x5g hI.B m.rk d _;have y:=hI.B.lb;omega
 refine sk<|tn<|sq ?_;have hM:=a1.ext<|q2.z1 q3;have hk:=(hk.ext q2).fr q3;intro a h;refine rgh none (Fr []) ?_;intro w4 q4 hC;have z4:=q4.size;have hM:=hM.ext q4;have hk:=hk.ext q4;have D:=D.ext q4;have a0:=hM;have I:=hk;have O:=D;refine z0e 0 h U λa h=>z0p 1 h U λa h=>z0c 2 h U z4b U λa h=>z1f (vs:=[_,_]) 3 h U (fx I.ext) z4y U U λa h=>z0e 4 h U λa h=>z0p 5 h U λa h=>z0c 6 h U z4o U λa h=>z0m 7 h U (fx I.ext) U na3 U λa h=>z0e 8 h U λa h=>z0c 9 h U z6i U λa h=>z0m 10 h U (fx O.ext) U na3 U λa h=>z0d 11 U<|z0n h (z0a U<|z0a U<|z0a U<|z0a U z0f) cO (u9x m.q m.rk d (m.ys.getD i yq0).pl _ hM.b.at hI.B (b2.ext hM.fr.fr) hI.rk hd d0 c9.1 c9.2) ?_;rintro _ w5 ⟨⟨f7,rfl,f1,hW⟩,q5⟩ a h;have z5:=q5.size;have hM:=hM.ext q5;have hk:=hk.ext q5;have D:=D.ext q5;have hC:=hC.next q5;refine z0b<|z0e 12 h U λa h=>z0k 13 h U λa h=>z0k 14 h U λa h=>z0d 15 U<|z0o h U λa h=>?_;refine z0b<|z0d 16 U<|z0o h U λa h=>?_;refine z0b<|z0q ?_;clear hC a0 I O;refine xB (ll9 0 1 5 6 7 8 17 18 19) h U<|tn<|sq<|sr<|mv U<|ne' U<|nn<|cd U (λc2=>?_)<|λc2=>?_;exact sr<|mv U<|asg U<|kpL (ll1 4) U<|nn<|rt<|tr<|rb<|tr<|tr<|rb<|tr<|r1 U<|absurd U c2;refine sk<|tn<|sq ?_;intro a h;refine z0h (some 15) (λwb w'=>Fr [ka.gy] wb w') z2s ?_;intro w6 q6;have z6:=q6.size;have hM:=hM.ext q6;have hk:=hk.ext q6;have D:=D.ext q6;have hW:=hW.ext q6;have hC:Fr [ka.gy] w6 w6:=l12 _ _;have a0:=hM;have I:=hk;have O:=D;have b3:=hW;refine z0e 0 h U λa h=>z0p 1 h U λa h=>z0c 2 h U z4d U λa h=>z0m 3 h U (λ_ hw=>I.fr hw se) U y6d U λa h=>z0e 4 h U λa h=>z0x 5 h U (λ_ hw=>O.fr hw se) z3v U λa h=>z0c 6 h U z6i U λa h=>z0m 7 h U (λ_ hw=>O.fr hw se) U na3 U λa h=>z0e 8 h U λa h=>z0d 9 U ?_;refine z0n h (z0a U<|z0a U<|z0a U z0f) cO (v4e (m.ys.getD i yq0) (m.ys.getD i yq0).pl _ (z4q m.q.p m.rk d (m.ys.getD i yq0).pl) _ (by have x:=(hM.y.ins i (by rw[hM.ly];omega)).sl;rw[show ({ m with ys:=Z }:MQ).ys.getD i yq0=m.ys.getD i yq0 from a6 i<|l20 _]at x;exact x) hW.sl (λk hk=>(hW.blk k hk).2) oo) ?_;rintro _ w7 ⟨qn,rfl,b7,q7⟩ a h;have z7:=q7.size;have hM:=hM.ext q7;have hk:=hk.ext q7;have D:=D.ext q7;have hW:=hW.ext q7;have hC:=hC.next q7;refine z0b<|z0e 10 h U λa h=>z0k 11 h U λa h=>z0k 12 h U λa h=>z1l 13 kr hC (p:=i) h wn U y6n oo oo oo U U λa h=>z0d 14 U<|z0z (i:=i) (qn:YQ) h U hM.y.out (by rw[hM.ly];omega) U z3y λw8 a8 q8 _hz a h=>?_;have b6:=hM.fr.step q8 (y9p hM.y.out t42)<|λk hk b0=>absurd (hM.y.out.blk k hk).1 oo;have d7:=λhc:(goE (m.ys.getD i yq0).p (m.ys.getD i yq0).pl<|z4q m.q.p m.rk d (m.ys.getD i yq0).pl)=0=>hM.yarn mtd (j:=i) (y:=qn) oo a8 q8<|(b7 hc).2.low oo;clear a8 hM;have z8:=q8.size;have D:=D.fr q8;have hW:=hW.fr q8 t28;have hC:=hC.sp q8;clear _hz;refine z0b<|z0d 15 U<|z0o h U λa h=>?_;refine z1m<|z0q ?_;clear hC a0 I O b3;refine xB (ll6 0 1 8 17 18 19) h U<|tn<|sr<|mv U<|ne' U<|nn<|cd U (λc3=>?_)<|λc3=>?_;exact sr<|mv U<|asg U<|kpL (ll1 4) U<|nn<|rt<|rb<|tr<|tr<|rb<|tr<|r1 U ⟨_,rfl,MRet.err (by unfold y5e;rw[y0w (i:=i) (e:=(goE (m.ys.getD i yq0).p (m.ys.getD i yq0).pl<|z4q m.q.p m.rk d (m.ys.getD i yq0).pl)) (by simp only[l18];omega) (λj hj=>⟨_,by rw[u9z];exact a7 j hj⟩) (by rw[u9z];unfold z6g;rw[if_neg (by simpa using c1),if_pos c3])]) c3 b6⟩;have hM:=d7<|l15.1 c3;have a1:=hM;exact sk<|bn'<|tn<|rg<|ad6 U<|mv U<|nl<|lpE (i+1) U ⟨((((l12 [ka.gy] _).z6 q1 q2 q3 q4 q5 q6).n1 q7).z1 q8),⟨oo,⟨Z.set i qn,by rw[l19];exact a5,u7x a5 oo a7 (by unfold z6g;rw[if_neg (by simpa using c1),if_neg (λe=>e<|l15.1 c3),(b7<|l15.1 c3).1]),u8p a5 oo a6,hM⟩⟩⟩ oo;obtain rfl:i=6:=by omega
 have b9:=u6s a5 b8 a7;refine ex<|te<|te<|xh<|tn<|sq ?_;intro a h;refine rgh none (Fr []) ?_;intro w9 q9 hC;have z9:=q9.size;have hM:=hM.ext q9;have hk:=hk.ext q9;have a0:=hM;have I:=hk;refine z0e 0 h U λa h=>z0p 1 h U λa h=>z0c 2 h U z4b U λa h=>z1f (vs:=[_,_]) 3 h U (fx I.ext) z4y U U λa h=>z0e 4 h U λa h=>z0p 5 h U λa h=>z0c 6 h U z4o U λa h=>z0m 7 h U (fx I.ext) U na3 U λa h=>z0e 8 h U λa h=>z0d 9 U<|z0n h (z0a U<|z0a U<|z0a U z0f) cO (v9x m.q m.rk d _ hM.b.at hI.B (b2.ext hM.fr.fr) hI.rk hd d0) ?_;rintro _ g5 ⟨⟨gl,rfl,f9,hX⟩,q10⟩ a h;have h0:=q10.size;have hM:=hM.ext q10;have hk:=hk.ext q10;have hC:=hC.next q10;refine z0b<|z0e 10 h U λa h=>z0k 11 h U λa h=>z0k 12 h U λa h=>z0d 13 U<|z0o h U λa h=>?_;refine z0b<|z0d 14 U<|z0o h U λa h=>?_;refine z0b<|z0q ?_;clear hC a0 I;refine xB (ll3 0 9 10) h U<|tn<|sq<|sr<|mv U<|ne' U<|nn<|cd U (λc4=>?_)<|λc4=>?_;exact sr<|mv U<|asg U<|nn<|rt<|tr<|r1 U<|absurd U c4;refine sk<|tn<|sq<|sr<|mv U<|lnS U<|mv U<|nn<|bl<|lpK (ι:=Nat) (ll3 0 79 80) (λi=>[(81,.int .i64 (i:Int))]) (λi w'=>i<=(z2g m.q.p m.rk d).length/\(∃(mi:MQ) (li:List Cx),z3s m.cr ((z2g m.q.p m.rk d).take i)=.ok li/\mi.p={ m.p with ys:=Z.map YQ.p,cr:=li }/\MkM τd 120 wS ka w' mi/\Lw.Own z6f 149 w0.heap.size w' (.slice (saa gl) (z2g m.q.p m.rk d).length (z2g m.q.p m.rk d).length) (z2g m.q.p m.rk d))) (λi=>(z2g m.q.p m.rk d).length-i) 0 U ⟨l16 _,⟨{ m with ys:=Z },m.cr,rfl,rfl,hM,hX.low oo⟩⟩ ?_;rintro i g7 ⟨hi,⟨mi,li,a3,a4,hM,hX⟩⟩;have a1:=hM;refine kpC (ll4 0 79 80 81) U<|sr<|lt' U<|nn<|sq<|cd U (λc5=>?_)<|λc5=>?_;have b0:i<(z2g m.q.p m.rk d).length:=by omega
 refine sk<|tn<|sq<|bl<|sr<|z1a (cx0) U hX.sl U y3i z1j<|λe9 b5=>?_;refine z1q U (b5 _ hX.sl) x8g<|al j5s U<|λf6 g8 f0 a2 d3 h2=>?_;refine z0j (vs:=[_,_,_,_,_]) U a2 v7a (λe6 a2 d4 h3=>?_) (h1:=(by first|(simp[Value.oneCell',S];done)|exact z3w.one<|m.ys.getD i yq0));refine nn<|sr<|mv U<|z0l U a2 x8g ?_;have hM:=a1.ext<|d3.z1 d4;have hX:=(hX.ext d3).fr d4 (by first|exact z9x hX oo|simp[z0v]<;>omega);have b1:=hM.fr;have e0:mi.cr=li:=congrArg MSt.cr a4;refine cl (z0a U<|z0a U z0f) cO (j8u wS { ka with wk:=e6 } mi ((z2g m.q.p m.rk d).getD i cx0) _ hM.mark (by rw[e0];exact x4c hI.cv a3)<|k4w _<|z1b oo) ?_;intro _ g9 hR;obtain⟨rfl,a9,m2,e3⟩:=hR.split;have e7:=a9.kp.size;simp only at e7;have hX:=a9.kp.own hX (hM.gcneO hX) dd;refine asg U<|nn<|sr<|mv U<|ne' U<|nn<|cd U (λc6=>?_)<|λc6=>?_;refine sr<|mv U<|asg U<|kpL (ll1 4) U<|nn<|rt<|rb<|tr<|tr<|rb<|tr<|r1 U ?_;exact⟨_,rfl,MRet.err (by unfold y5e;rw[b9];simp only;rw[v5j a3 b0 (by have x:=u8h<|y1d c6;rw[show mi.p.cr=li from congrArg MSt.cr a4]at x;exact x)]) c6<|a9.un b1⟩;obtain⟨d5,e5⟩:=e3<|l15.1 c6;have d6:=d5.unmark b1;obtain⟨l2,d9,e4⟩:=j5r e5;refine sk<|bn'<|tn<|rg<|ad6 U<|mv U<|nl ?_;exact lpE (i+1) U ⟨oo,⟨m2,l2,by rw[y2y b0,y3w a3,<-(show mi.cr=li from congrArg MSt.cr a4)];exact d9,by rw[e4,a4],d6,hX⟩⟩ oo;obtain rfl:i=(z2g m.q.p m.rk d).length:=by omega
 exact ex<|te<|te<|xh<|tn<|sr<|asg U<|nn<|rt<|r1 U ⟨_,rfl,MRet.ok (by rw[l40]at a3;unfold y5e;rw[b9,a4];simp only;rw[show z3s m.p.cr (z2g m.p.B m.p.rk d)=.ok li from a3]) hM⟩
theorem x3u (p:MSt)(d:Int):z3l p d=match y5e p d with
    | .error e=>.error e
    | .ok q=>.ok { q with rk:=p.rk+stI d }:=by
  unfold z3l y5e
  cases z3g p d p.ys with
  | error e=>rfl
  | ok ys=>
    simp only
    cases z3s p.cr (z2g p.B p.rk d) with
    | error e=>rfl
    | ok cr=>rfl
theorem u7h {p:MSt}{r:Int}(n:Nat)(h:p.rk=r):z3p n p r=.ok p:=by
 cases n with
 | zero=>rfl
 | succ n=>unfold z3p;rw[if_pos h]
theorem u9n {p:MSt}{r e:Int}{n:Nat}(h:p.rk≠r)(hn:1<=n)(D:y5e p (if r<p.rk then 0 else 1)=.error e):z3p n p r=.error e:=by
 obtain⟨k,rfl⟩:∃k,n=k+1:=⟨n-1,oo⟩;unfold z3p;rw[if_neg h,x3u,D]
theorem j9o {p q:MSt}{r:Int}{n:Nat}(h:p.rk≠r)(hn:1<=n)(D:y5e p (if r<p.rk then 0 else 1)=.ok q):z3p n p r=z3p (n-1) { q with rk:=p.rk+stI (if r<p.rk then 0 else 1) } r/\z3l p (if r<p.rk then 0 else 1)=.ok { q with rk:=p.rk+stI (if r<p.rk then 0 else 1) }:=by
 obtain⟨k,rfl⟩:∃k,n=k+1:=⟨n-1,oo⟩
 constructor
 ·conv=>lhs;unfold z3p
  rw[if_neg h,x3u,D];rfl
 rw[x3u,D]
theorem j7w (wS:World)(ka:MA)(m:MQ)(o:MOp)(w0:World)(hM:MkM τd 120 wS ka w0 m)(hi:MInv m.p)(b0:StT wS)(c9:-4<=o.r/\o.r<=4):Rets prog 57 #[pta ka.gk,opV o] w0 λr w'=>MRet τd 120 wS ka (u9k m.p o) r w':=by
 have d1:=hM.fr.size;have b4:=hM.gk;have b9:=hM.k.lt;have d0:-4<=m.rk/\m.rk<=4:=hi.rk;refine wf func57 U ?_;have a1:=hM;refine sr<|bx U<|λg3 w1 b8 I q1 z1=>(asg U<|nn<|sq<|bl ?_);have hM:=a1.ext q1;refine lpK (ι:=Nat) (ll2 0 3) (λn=>[]) (λn w'=>∃D:MQ,(z3p 8 m.p o.r=z3p n D.p o.r/\MInv D.p/\-(n:Int)<=o.r-D.rk/\o.r-D.rk<=n)/\MkM τd 120 wS ka w' D/\Blk w' g3 50 [.int .u8 o.k,.int .u8 o.d,.int .u8 o.b,.int .i64 o.p,.int .u8 o.y,.int .i64 o.r]) (λn=>n) 8 U ⟨m,⟨rfl,hi,oo,oo⟩,hM,I⟩ ?_;rintro n w2 ⟨D,⟨a3,a0,b6,b7⟩,hM,I⟩;have a1:=hM;have a7:=I.lt;refine kpC (ll2 0 3) U ?_;have hk:=hM.k;have b5:-4<=D.rk/\D.rk<=4:=a0.rk;refine sq<|sq ?_;intro a h;refine rgh none (Fr []) ?_;intro w3 q3 hC;have I:=I.ext q3;have hk:=hk.ext q3;have Z:=I;have O:=hk;refine z0e 0 h U λa h=>z0p 1 h U λa h=>z0c 2 h U z4o U λa h=>z0m 3 h U (fx O.ext) U na3 U λa h=>z0c 4 h U y4y U λa h=>z0m 5 h U (fx Z.ext) U na3 U λa h=>u3b 6 hC h wn U U U U λa h=>z0q ?_;clear hC Z O;refine xB (ll3 0 3 14) h U<|tn<|cd U (λc0=>?_)<|λc0=>?_;have a5:D.p.rk≠o.r:=c0;refine sk<|tn<|bl<|sq ?_;intro a h;refine rgh none (Fr []) ?_;intro w4 q4 hC;have hk:=hk.ext q4;have O:=hk;refine z0e 0 h U λa h=>z0p 1 h U λa h=>z0c 2 h U z4o U λa h=>z0m 3 h U (fx O.ext) U na3 U λa h=>z6t 4 h U t12 U λa h=>z0d 5 U<|z0o h U λa h=>?_;refine z0b<|z0d 6 U<|z0o h U λa h=>?_;refine z0b<|z0q ?_;clear hC O;refine xB (ll4 0 3 5 6) h U<|tn<|jn (ι:=Unit) (ll2 0 3) (λ_j=>[(5,.int .u8 (if o.r<D.rk then (0:Int) else 1)),(6,.int .i64<|D.rk+stI (if o.r<D.rk then (0:Int) else 1))]) (λ_j w'=>Fr [] w4 w') U ?_ ?_;refine sq ?_;intro a h;refine rgh none (Fr []) ?_;intro w5 q5 hC;have I:=I.ext<|q4.n1 q5;have hk:=hk.ext q5;have Z:=I;have O:=hk;refine z0c 0 h U y4y U λa h=>z0m 1 h U (fx Z.ext) U na3 U λa h=>z0e 2 h U λa h=>z0p 3 h U λa h=>z0c 4 h U z4o U λa h=>z0m 5 h U (fx O.ext) U na3 U λa h=>v5o 6 hC h wn U U λa h=>z0q ?_;clear hC Z O;refine xB (ll5 0 3 5 6 26) h U<|tn<|cd U (λc1=>?_)<|λc1=>?_;intro a h;refine rgh none (Fr []) ?_;intro w6 q6 hC;have hk:=hk.ext q6;have O:=hk;refine z0e 0 h U λa h=>z0p 1 h U λa h=>z0c 2 h U z4o U λa h=>z0m 3 h U (fx O.ext) U na3 U λa h=>z3a 4 h U t12 U λa h=>z0d 5 U<|z0o h U λa h=>?_;refine z0b<|z0d 6 U<|z0o h U λa h=>?_;refine z0b<|z0q ?_;clear hC O;refine xB (ll4 0 3 5 6) h U ?_;exact jE (()) (.c4 U U (congrArg (λz=>some<|Value.int .u8 z) (by first|exact(if_pos c1).symm|exact(if_neg c1).symm))<|congrArg (λz=>some<|Value.int .i64 z) (by first|(rw[show (if o.r<D.rk then (0:Int) else 1)=0 from if_pos c1,show stI 0 = -1 from U];omega)|(rw[show (if o.r<D.rk then (0:Int) else 1)=1 from if_neg c1];rfl)))<|q5.n1 q6;refine sk ?_;exact jE (()) (.c4 U U (congrArg (λz=>some<|Value.int .u8 z) (by first|exact(if_pos c1).symm|exact(if_neg c1).symm))<|congrArg (λz=>some<|Value.int .i64 z) (by first|(rw[show (if o.r<D.rk then (0:Int) else 1)=0 from if_pos c1,show stI 0 = -1 from U];omega)|(rw[show (if o.r<D.rk then (0:Int) else 1)=1 from if_neg c1];rfl))) q5;rintro _j w7 q7;refine kpC (ll4 0 3 5 6) U<|sq<|sr<|mv U<|mv U ?_;have hM:=a1.ext<|q3.n2 q4 q7;have I:=I.ext<|q4.n1 q7;have a4:=hM.fr;refine cl (z0a U<|z0a U z0f) cO (j4o wS { ka with wk:=w7 } D (if o.r<D.rk then (0:Int) else 1) _ hM.mark a0 b0 (by split<;>simp) (by have hx:-4<=D.rk/\D.rk<=4:=a0.rk;unfold stI;split<;>split at *<;>omega)) ?_;intro _ w8 hR;obtain⟨rfl,a2,m2,b2⟩:=hR.split;have z8:=a2.kp.size;simp only at z8;have I:=a2.kp.blk I (by have:=hM.gcne I;exact this) dd;refine asg U<|nn<|sr<|mv U<|ne' U<|nn<|cd U (λc2=>?_)<|λc2=>?_;exact sr<|mv U<|asg U<|kpL (ll1 4) U<|nn<|rt<|tr<|rb<|tr<|rb<|tr<|r1 U ⟨_,rfl,MRet.err (by unfold u9k;rw[a3];exact u9n a5 oo<|y1d c2) c2<|a2.un a4⟩;obtain⟨a9,b3⟩:=b2<|l15.1 c2;have hM:=a9.unmark a4;have a1:=hM;have hk:=hM.k;have a6:=j9o (p:=D.p) (r:=o.r) (n:=n) a5 oo b3;have a8:=z7z a0 (by have hx:-4<=D.rk/\D.rk<=4:=a0.rk;show -4<=D.rk+stI (if o.r<D.rk then (0:Int) else 1)/\D.rk+stI (if o.r<D.rk then (0:Int) else 1)<=4;unfold stI;split<;>split at *<;>omega) a6.2;refine sk<|tn<|rg<|mv U<|mv U<|nlc U<|fad U z4o<|z3r U hk U sz3<|λw9 b1 q9 z9=>?_;have hM:=hM.beds mtd (q:=m2.q) (r:=D.rk+stI (if o.r<D.rk then (0:Int) else 1)) hM.b b1 q9 hM.fb;refine kpL (ll2 0 3) U<|nl<|bn' ?_;have I:=I.fr q9;exact lpE ((n-1)) U ⟨{ m2 with rk:=D.rk+stI (if o.r<D.rk then (0:Int) else 1) },⟨by rw[a3,a6.1],a8.1,by show -((n-1:Nat):Int)<=o.r-(D.rk+stI (if o.r<D.rk then (0:Int) else 1));unfold stI;split<;>split at *<;>omega,by show o.r-(D.rk+stI (if o.r<D.rk then (0:Int) else 1))<=((n-1:Nat):Int);unfold stI;split<;>split at *<;>omega⟩,hM,I⟩ oo;refine ex<|te<|te<|xh<|tn<|sr<|asg U<|nn<|rt<|r1 U ?_;have hM:=a1.ext q3;exact⟨_,rfl,MRet.ok (by unfold u9k;rw[a3];exact u7h n (show D.rk=o.r by omega)) hM⟩
theorem k5f:CallOf prog 63:=cO
theorem q0g (w:World):(zeroValue 124).run prog w=.ok .nilFunc w:=kr
abbrev u5i (F:Nat):Value:=.func (.func F) #[] #[]
def k6o:Int->Option Value:=λk'=>if k'=8 then some (u5i 62) else (if k'=7 then some (u5i 61) else (if k'=6 then some (u5i 60) else (if k'=5 then some (u5i 59) else (if k'=4 then some (u5i 58) else (if k'=3 then some (u5i 57) else (if k'=2 then some (u5i 56) else (if k'=1 then some (u5i 55) else (none))))))))
theorem v7u (w0:World):Rets prog 21 #[] w0 λr w'=>(∃g,r=.map (some g)/\w0.heap.size<=g/\MapF kV w' g k6o)/\Fr [] w0 w':=by
 refine wf func21 U<|sr<|asg U<|nn<|sr<|y7z kV U<|λI w1 O D Z z1=>(z3z (V:=kV) (k:=1) U D y8w underlying76<|λw2 D q2 z2=>(z3z (V:=kV) (k:=2) U D y8w underlying76<|λw3 D q3 z3=>(z3z (V:=kV) (k:=3) U D y8w underlying76<|λw4 D q4 z4=>?_)));exact z3z (V:=kV) (k:=4) U D y8w underlying76<|λw5 D q5 z5=>(z3z (V:=kV) (k:=5) U D y8w underlying76<|λw6 D q6 z6=>(z3z (V:=kV) (k:=6) U D y8w underlying76<|λw7 D q7 z7=>(z3z (V:=kV) (k:=7) U D y8w underlying76<|λw8 D q8 z8=>(z3z (V:=kV) (k:=8) U D y8w underlying76<|λw9 D q9 z9=>(mv U<|asg U<|nn<|rt<|r1 U ⟨_,rfl,⟨I,rfl,oo,D⟩,(((Z.z6 q2 q3 q4 q5 q6 q7).z1 q8).z1 q9)⟩)))))
theorem k7p (wS:World)(D:MA)(m:MQ)(o:MOp)(w0:World)(hM:MkM τd 120 wS D w0 m)(hi:MInv m.p)(Z:StT wS)(hc:z8v o=0):∃F:Nat,k6o o.k=some (u5i F)/\CallOf prog F/\Rets prog F #[pta D.gk,opV o] w0 λr w'=>MRet τd 120 wS D (opM m.p o) r w':=by
 obtain⟨hk,a0,O,a1,I,hr⟩:=z3u hc;unfold opM;rcases hk with e|e|e|e|e|e|e|e<;>rw[e]at a0 O a1 I hr ⊢
 exact⟨_,rfl,cO,k1z wS D m o w0 hM<|O sp0⟩;exact⟨_,rfl,cO,j6m wS D m o w0 hM<|O sp0⟩;exact⟨_,rfl,cO,j7w wS D m o w0 hM hi Z<|hr sp0⟩;exact⟨_,rfl,cO,j5q wS D m o w0 hM hi (O sp0)<|I sp0⟩;exact⟨_,rfl,cO,j9f wS D m o w0 hM hi (O sp0)<|I sp0⟩;exact⟨_,rfl,cO,j9s wS D m o w0 hM hi (O sp0)<|I sp0⟩;exact⟨_,rfl,cO,j9r wS D m o w0 hM hi<|I sp0⟩;exact⟨_,rfl,cO,k1d wS D m o w0 hM hi<|I sp0⟩
theorem j1o (wS:World)(O:MA)(m:MQ)(o:MOp)(gl:Nat)(w0:World)(hM:MkM τd 120 wS O w0 m)(hi:MInv m.p)(a2:StT wS)(hl:MapF kV w0 gl k6o):Rets prog 22 #[pta O.gk,.map (some gl),opV o] w0 λr w'=>MRet τd 120 wS O (doM m.p o) r w':=by
 refine wf func22 U ?_;have a1:=hM;have a4:=hl;refine sr<|bx U<|λg5 w1 a5 D q1 z1=>(asg U<|nn<|sq<|sr<|z0l U D y3t<|cl (ev1 U) k5f (y3m _ _) ?_);rintro _ w2 ⟨rfl,q2⟩;refine asg U<|nn<|sr<|mv U<|ne' U<|nn<|cd U (λc0=>?_)<|λc0=>?_;refine sr<|mv U<|asg U<|kpL (ll1 6) U<|nn<|rt<|tr<|r1 U ?_;have hM:=a1.ext<|q1.n1 q2;exact⟨_,rfl,MRet.err (by unfold doM;rw[if_pos c0]) c0 hM.fr⟩;have hM:=a1.ext<|q1.n1 q2;have hc:z8v o=0:=l15.1 c0;have I:=λw hM=>k7p wS O m o w hM hi a2 hc;obtain⟨F,hF,a3,-⟩:=I _ hM;have Z:∀w,MkM τd 120 wS O w m->Rets prog F #[pta O.gk,opV o] w λr w'=>MRet τd 120 wS O (opM m.p o) r w':=λw hM=>by
  obtain⟨F',a0,-,h'⟩:=I w hM;rw[hF]at a0;cases a0;exact h'
 refine sk<|tn<|sr<|mv U<|fad U z8s ?_;have D:=D.ext q2;refine z0i U D U v7d ?_;have hl:=a4.ext<|q1.n1 q2;refine x3g (V:=kV) (k:=o.k) (f:=k6o) (v:=u5i F) U U hl y8w underlying76 q0g (by rw[hF];rfl) U<|mv U<|z0l U D y3t<|clv (us:=[]) (ws:=[]) U (ev2 U) a3 (Z w2 hM) U t14 ?_;rintro a6 w3 hR;exact asg U<|kpL (ll1 6) U<|nn<|rt<|r1 U ⟨_,rfl,by rw[show doM m.p o=opM m.p o from if_neg c0];exact hR⟩
end Go.Proofs.YtkafbfjmcigaiaaGreatDoor
namespace Go.G08
open Go.Lw Go.G21
theorem u7j (l:List Cx)(a b:LId)(n:Int):(y5o l a b n).length<=l.length+1:=by
 unfold y5o;split<;>simp
theorem u7f (l:List Cx)(a b:LId):(x9a l a b).length<=l.length+1:=l42 (List.length_filter_le _ _) oo
theorem j0a {l l':List Cx}{c:Cx}(h:y4i l c=.ok l'):l'.length<=l.length+1:=by
 rw[y4c]at h;split at h;cases h;split at h;cases h;exact u7f ..;cases h;exact u7j ..
theorem x4k:∀ {r l l':List Cx},z3s l r=.ok l'->l'.length<=l.length+r.length
 | [],l,l',h=>by cases h;exact l20 _
 | c::r,l,l',h=>by
  unfold z3s at h
  split at h
  ·cases h
  rename_i I D
  have:=j0a D
  have:=x4k h
  simp only[l34];omega
theorem y8q {B:Bd}(h:BdOk B)(r d:Int):(z2g B r d).length<=640:=l42 (y3h h r d) (by have:=h.lb;omega)
theorem u0l {p q:MSt}{d:Int}(h:BdOk p.B)(e:z3l p d=.ok q):q.B=p.B/\q.cr.length<=p.cr.length+640:=by
 unfold z3l at e;split at e;cases e;split at e;cases e;rename_i ys O I D;cases e;have:=x4k D;have:=y8q h p.rk d;exact⟨rfl,sm⟩
theorem x7q:∀ {n:Nat} {p q:MSt} {r:Int},BdOk p.B->z3p n p r=.ok q->q.cr.length<=p.cr.length+n*640
 | 0,p,q,r,h,e=>by cases e;omega
 | n+1,p,q,r,h,e=>by
  unfold z3p at e
  split at e
  ·cases e;omega
  split at e
  ·cases e
  rename_i O D
  obtain⟨I,hl⟩:=u0l h D
  have:=x7q (I▸h) e
  rw[l97];omega
theorem y3y {p q:MSt}{y pl en:Int}(e:z8x p y pl en=.ok q):q.cr=p.cr:=by
 unfold z8x at e;split at e;cases e;cases e;rfl
theorem x2x {p q:MSt}{o:MOp}{D st:List LId}(e:y1m p o D st=.ok q):q.cr=p.cr:=by
 unfold y1m at e;split at e;cases e;split at e;cases e;cases e;rfl
theorem u1c {p q:MSt}{o:MOp}(h:BdOk p.B)(e:opM p o=.ok q):q.cr.length<=p.cr.length+5120:=by
 have s:∀ {x:MSt},x.cr=p.cr->x.cr.length<=p.cr.length+5120:=λI=>by rw[I];omega
 unfold opM at e;split at e;unfold inM at e;split at e;cases e;cases e;exact s U;split at e;unfold x7f at e;split at e;cases e;cases e;exact s U;split at e;have:=x7q h e;omega;split at e;unfold y0f at e;split at e;cases e;split at e;cases e;rename_i O D;exact s<|(x2x e).trans<|y3y D;split at e;unfold z9w at e;split at e;cases e;split at e;cases e;rename_i O D;split at e;cases e;exact s<|(x2x e).trans<|y3y D;split at e;unfold y1x at e;split at e;cases e;exact s<|y3y e;split at e;unfold z5v at e;repeat (split at e;· cases e)
 cases e;exact s U;unfold y2l at e;split at e;cases e;cases e;exact s U
theorem x3m:∀ {l:List MOp} {i:Nat} {p q:MSt},MInv p->z2u i p l=.ok q->q.cr.length<=p.cr.length+l.length*5120
 | [],i,p,q,h,e=>by cases e;simp
 | o::l,i,p,q,h,e=>by
  unfold z2u at e
  split at e
  ·cases e
  rename_i I D
  have hi:=z8m h D
  have O:=x3m hi e
  have Z:I.cr.length<=p.cr.length+5120:=by
   unfold doM at D
   split at D
   ·cases D
   exact u1c h.B D
  rw[l34,l97];omega
theorem z8f {a b:LId}:z6q a b<0↔a.y<b.y\/a.y=b.y/\a.n<b.n:=by
 unfold z6q;(repeat' split)<;>constructor<;>intro h<;>omega
theorem y8c {a b:LId}:z6q a b=0↔a=b:=by
 obtain⟨O,I⟩:=a;obtain⟨D,bn⟩:=b;rw[LId.mk.injEq];unfold z6q;dsimp only;(repeat' split)<;>constructor<;>intro h<;>omega
theorem y6y {T T':Tb}{l:Lp}(h:y8u T l)(D:∀i,z5t T i->z5t T' i):y8u T' l:=⟨h.1,h.2.1,λi hi=>D i<|h.2.2.1 i hi,h.2.2.2⟩
theorem v4g {T:Tb}(h6:T.length=6){i:LId}(h:z5t T i):∃y n:Nat,y<6/\n<z3k T y/\i=⟨(y:Int)+1,(n:Int)⟩:=by
 obtain⟨O,Z,h3,h4⟩:=h;obtain⟨I,D⟩:=i;simp only at O Z h3 h4;exact⟨(I-1).toNat,D.toNat,oo,oo,by rw[show (((I-1).toNat:Nat):Int)+1=I by omega,show ((D.toNat:Nat):Int)=D by omega]⟩
theorem y6c {T:Tb}{j:Nat}(O:T.length=6)(Z:j<6){l:Lp}{i:LId}:z5t (T.set j<|T.getD j []++[l]) i↔z5t T i\/i=⟨(j:Int)+1,(z3k T j:Int)⟩:=by
 have D:j<T.length:=by omega
 constructor;intro h;obtain⟨y,n,hy,I,rfl⟩:=v4g (by rw[l19];exact O) h;rw[y1c D]at I;by_cases e:j=y;subst e;rw[if_pos U,l13,l44,show (T.getD j []).length=z3k T j from U]at I;by_cases e2:n<z3k T j;exact .inl<|y1a D e2;exact .inr (by rw[show n=z3k T j by omega]);rw[if_neg e]at I;exact .inl<|y1a oo I;rintro(h|rfl);exact x3z D h;exact y1a (by rw[l19];exact D) (by rw[y1c D,if_pos U,l13,l44];exact l119 _)
structure TabR (T:Tb) (rk:LId->Nat):Prop where
  six:T.length=6
  rts:∀y,y<6->∀n,n<z3k T y->y8u T (lpA T y n)/\(n=0->(lpA T y n).nw=true)
  rkd:Ranked T rk
  top:∀i,z5t T i->rk i<z4x T
theorem TabR.add {T:Tb}{rk:LId->Nat}(h:TabR T rk){j:Nat}(hj:j<6){l:Lp}(hr:y8u T l)(h0:z3k T j=0->l.nw=true) :
    TabR (T.set j<|T.getD j []++[l]) (rkX rk j (z3k T j)<|z4x T):=by
  have h6:=h.six
  have a1:j<T.length:=by omega
  have a3:z4x (T.set j<|T.getD j []++[l])=z4x T+1:=by
    have:=y7e T j (T.getD j []++[l]) a1
    rw[l13,l44,show (T.getD j []).length=z3k T j from U]at this
    omega
  have D:∀i,z5t T i->rkX rk j (z3k T j) (z4x T) i=rk i:=λi hi=>by
    obtain⟨y,n,I,O,rfl⟩:=v4g h6 hi
    unfold rkX
    rw[if_neg]
    rintro⟨e1,e2⟩
    simp only at e1 e2
    have:y=j:=by omega
    subst this;omega
  have Z:rkX rk j (z3k T j) (z4x T) ⟨(j:Int)+1,(z3k T j:Int)⟩=z4x T:=by
    unfold rkX
    rw[if_pos ⟨rfl,sp0⟩]
    show z4x T+((z3k T j:Int)-(z3k T j:Int)).toNat=z4x T
    omega
  have hm:∀i,z5t T i->z5t (T.set j<|T.getD j []++[l]) i:=λi hi=>(y6c h6 hj).2<|.inl hi
  -- an old loop,or the new one
  have a2:∀y,y<6->∀n,n<z3k (T.set j<|T.getD j []++[l]) y->(n<z3k T y/\lpA (T.set j<|T.getD j []++[l]) y n=lpA T y n)\/(y=j/\n=z3k T j/\lpA (T.set j<|T.getD j []++[l]) y n=l):=λy I n O=>by
    rw[y1c a1]at O
    rw[k0c a1]
    by_cases e:j=y
    · subst e
      rw[if_pos U,l13,l44,show (T.getD j []).length=z3k T j from U]at O
      rw[if_pos U]
      by_cases e2:n<z3k T j
      · exact .inl ⟨e2,if_pos e2⟩
      · obtain rfl:n=z3k T j:=by omega
        exact .inr ⟨rfl,rfl,by rw[if_neg e2,l100];rfl⟩
    · rw[if_neg e]at O
      exact .inl ⟨O,by rw[if_neg e]⟩
  have hp:∀ {y n:Nat},y<6->n<z3k T y->z5t T ⟨(y:Int)+1,(n:Int)⟩:=λI O=>y1a oo O
  refine⟨by rw[l19];exact h6,λy I n O=>?_,⟨λy I n O i hi=>?_,λy I n m a0 a4=>?_⟩,λi hi=>?_⟩
  · rcases a2 y I n O with ⟨k,e⟩|⟨rfl,rfl,e⟩
    · rw[e];exact⟨y6y (h.rts y I n k).1 hm,(h.rts y I n k).2⟩
    · rw[e];exact⟨y6y hr hm,h0⟩
  · rcases a2 y I n O with ⟨k,e⟩|⟨rfl,rfl,e⟩
    · rw[e]at hi
      rw[D _ (hp I k),D _ ((h.rts y I n k).1.2.2.1 i hi)]
      exact h.rkd.need y I n k i hi
    · rw[e]at hi
      rw[Z,D _ (hr.2.2.1 i hi)]
      exact h.top i<|hr.2.2.1 i hi
  · rcases a2 y I m a4 with ⟨k,_⟩|⟨rfl,rfl,_⟩
    · rw[D _ (hp I k),D _ (hp I (show n<z3k T y by omega))]
      exact h.rkd.mono y I n m a0 k
    · rw[Z,D _ (hp I a0)]
      exact h.top _<|hp I a0
  · rw[a3]
    rcases(y6c h6 hj).1 hi with k|rfl
    · rw[D _ k];have:=h.top i k;omega
    · rw[Z];omega
theorem j1g {T:Tb}{j:Nat}(D:j<T.length)(l:Lp)(i:LId):(y2f<|T.set j<|T.getD j []++[l]).count i=(y2f T).count i+l.th.count i:=by
 have h:=z9d v6d T j [] (T.getD j []++[l]) i D;have e:v6d (T.getD j []++[l])=v6d (T.getD j [])++l.th:=by unfold v6d;simp
 unfold y2f;rw[e,l21]at h;omega
theorem v3t {T:Tb}{rk:LId->Nat}(h:TabR T rk){i:LId}(hi:i∈y2f T):z5t T i:=by
 unfold y2f at hi;obtain⟨r,O,hi⟩:=l73.1 hi;unfold v6d at hi;obtain⟨l,hl,hi⟩:=l73.1 hi;obtain⟨y,Z,rfl⟩:=l29 O;obtain⟨n,I,rfl⟩:=l29 hl;have D:T.getD y []=T[y]:=by rw[List.getD,l10 Z];rfl
 have en:lpA T y n=T[y][n]:=by unfold lpA;rw[D,List.getD,l10 I];rfl
 have h6:=h.six;have:=(h.rts y oo n (by unfold z3k;rw[D];exact I)).1.2.2.1 i (by rw[en];exact l60 _ hi);exact this
theorem u2g {T:Tb}{st:List Pa}{p:Pa}(h:∀q∈st,z5t T q.id)(hp:z5t T p.id):∀q∈z7r st p,z5t T q.id:=by
 unfold z7r;split;exact λq D=>h q<|l98 D;intro q D;rcases l23.1 D with k|k
 exact h q k;rw[l11.1 k];exact hp
theorem x6k {T:Tb}:∀ {l st:List Pa},(∀q∈st,z5t T q.id)->(∀q∈l,z5t T q.id)->∀q∈z3x st l,z5t T q.id
 | [],_,h,_=>h
 | p::l,st,h,hl=>x6k (l:=l) (u2g h<|hl p sp0)<|λq D=>hl q<|l36 _ D
theorem x5e:∀(l st:List Pa),y3x (st++l)->z3x st l=st++l
 | [],st,_=>by simp[z3x]
 | p::l,st,h=>by
  have e1:z7r st p=st++[p]:=by
   unfold z7r
   rw[if_neg]
   rintro⟨Z,hc⟩
   have D:=(h st.length sp0).2 Z
   have I:(st++p::l).getD (st.length-1) pa0=st.getD (st.length-1) pa0:=by
    rw[List.getD,l46 oo,List.getD]
   have O:(st++p::l).getD st.length pa0=p:=by simp[List.getD]
   rw[I,O]at D
   exact D hc
  show z3x (z7r st p) l=_
  rw[e1,x5e l (st++[p]) (by simpa using h)]
  simp
theorem j4j {l:List Pa}(h:y3x l):(z3x [] l).length=l.length:=by rw[x5e l [] (by simpa using h)];rfl
theorem u2t {l:List Pa}(h:y3x l):∀p∈l,z4w p.d:=λp D=>by
 obtain⟨i,hi,rfl⟩:=l29 D
 have:=(h i hi).1.2
 rwa [List.getD,l10 hi]at this
theorem x5l (h:Hd):∀l:List Hd,(z9u h l).Perm (h::l)
 | []=>.refl _
 | x::l=>by
  unfold z9u
  split
  ·exact .refl _
  exact((x5l h l).cons x).trans<|.swap h x l
theorem u1i (l:List Hd):(z6h l).Perm l:=by
 have h:∀(l st:List Hd),(l.foldl (λa h=>z9u h a) st).Perm (st++l):=by
  intro l;induction l with
  | nil=>intro st;simp
  | cons x l ih=>
   intro st;show (l.foldl _<|z9u x st).Perm _;exact(ih _).trans<|((x5l x st).append_right l).trans (by simpa using (List.perm_middle (a:=x) (l₁:=st) (l₂:=l)).symm)
 have e:=h l [];rw[l43]at e;exact e
theorem z8t (B:Bd)(r:Int):(z2m B r).Perm (x8l B r):=u1i _
theorem x3n (b r:Int)(l:Bed):(hds b r l l.length).map Hd.id=l.flatten:=by
 have h:∀i,i<=l.length->(hds b r l i).map Hd.id=(l.take i).flatten:=by
  intro i;induction i with
  | zero=>intro _;simp[hds]
  | succ i ih=>
   intro hi;rw[x1e,l31,ih oo,l54,List.flatten_append,l10 oo,List.getD,l10 oo];simp[hdS,l113]
 rw[h _ (l20 _),l40]
theorem z7w (B:Bd)(r:Int):((z2m B r).map Hd.id).Perm B.flat:=by
 refine((z8t B r).map _).trans ?_;unfold x8l Bd.flat;rw[l31,x3n,x3n]
theorem v7m {B:Bd}{r f t:Int}{q:Pa}(h:q∈btw (z2m B r) f t):q.id∈B.flat:=by
 have I:∀x∈z2m B r,x.id∈B.flat:=λx D=>(z7w B r).mem_iff.1<|l88 D;unfold btw at h;split at h;obtain⟨x,D,rfl⟩:=l55.1 h;exact I x (l105.1 D).1;obtain⟨x,D,rfl⟩:=l55.1<|l120.1 h;exact I x (l105.1 D).1
theorem v2v {B:Bd}{k:Nat}{x:LId}(h:x∈B.b.getD k []):x∈B.b.flatten:=by
 by_cases e:k<B.b.length;rw[List.getD,l10 e]at h;exact List.mem_flatten.2 ⟨_,l106 e,h⟩;rw[List.getD,l32 oo]at h;cases h
theorem x7u {B:Bd}{r d p:Int}{i:Nat}{q:Pa}(h:q∈z7u B r d p i):q.id∈B.flat:=by
 unfold z7u at h;obtain⟨k,_,h⟩:=l73.1 h;unfold y3d at h;split at h;cases h;obtain⟨x,D,rfl⟩:=l55.1 h;exact l64 _<|v2v D
theorem x4z {B:Bd}{r d p:Int}{q:Pa}(h:q∈z4q B r d p):q.id∈B.flat:=by
 unfold z4q at h;split at h;exact x7u<|l120.1 h;exact x7u h
theorem v8o {B:Bd}{n:Int}{x:LId}(h:x∈B.atC 0 n):x∈B.f.flatten:=by
 unfold Bd.atC at h;split at h;unfold Bd.at at h;rw[if_pos U]at h;have D:atB B.f n≠[]:=λe=>by rw[e]at h;cases h
 exact List.mem_flatten.2 ⟨_,v7x D,h⟩;cases h
theorem v4c {B:Bd}{r d:Int}{i:Nat}{c:Cx}(hn:B.flat.Nodup)(h:c∈x2d B r d i):c.a∈B.flat/\c.b∈B.flat/\c.a≠c.b/\(c.n=1\/c.n = -1):=by
 unfold x2d at h;obtain⟨k,_,h⟩:=l73.1 h;unfold v5x at h;obtain⟨x,hx,h⟩:=l73.1 h;obtain⟨o,Z,rfl⟩:=l55.1 h;have I:x∈B.b.flatten:=v2v hx;have O:o∈B.f.flatten:=v8o<|l120.1 Z;have D:o≠x:=(l67.1 hn).2.2 o O x I;unfold x9c;split;exact⟨l60 _ O,l64 _ I,D,.inl U⟩;exact⟨l64 _ I,l60 _ O,D.symm,.inr U⟩
theorem y7f {B:Bd}{r d:Int}{c:Cx}(hn:B.flat.Nodup)(h:c∈z2g B r d):c.a∈B.flat/\c.b∈B.flat/\c.a≠c.b/\(c.n=1\/c.n = -1):=by
 unfold z2g at h;split at h;exact v4c hn<|l120.1 h;exact v4c hn h
structure CrsOk (T:Tb) (l:List Cx):Prop where
  has:∀c∈l,z5t T c.a/\z5t T c.b/\z6q c.a c.b<0/\(-1048576<=c.n/\c.n<=1048576)/\c.n≠0
  nd:(l.map λc=>(c.a,c.b)).Nodup
theorem CrsOk.mono {T T':Tb}{l:List Cx}(h:CrsOk T l)(I:∀i,z5t T i->z5t T' i):CrsOk T' l:=⟨λc D=>⟨I _ (h.has c D).1,I _ (h.has c D).2.1,(h.has c D).2.2⟩,h.nd⟩
theorem v3p {l:List Cx}{a b:LId}{n:Int}(h:l.any (isC a b)=true):(y5o l a b n).map (λc=>(c.a,c.b))=l.map λc=>(c.a,c.b):=by
 unfold y5o;rw[if_pos h,l75];refine l109 λc _=>?_;simp only[Function.comp_apply];split;rename_i e;obtain⟨e1,e2⟩:=z9h.1 e;rw[e1,e2];rfl
theorem u9g {l:List Cx}{a b:LId}{n:Int}{c:Cx}(h:c∈y5o l a b n):c=⟨a,b,n⟩\/c∈l:=by
 unfold y5o at h;split at h;obtain⟨z,D,rfl⟩:=l55.1 h;split;exact .inl U;exact .inr D;rcases l23.1 h with k|k
 exact .inr k;exact .inl<|l11.1 k
theorem v3m {a b:LId}(h:a≠b)(D:¬0<z6q a b):z6q a b<0:=by
 have:=mt y8c.1 h;omega
theorem x6x {a b:LId}(h:0<z6q a b):z6q b a<0:=by
 rw[z8f];unfold z6q at h;(repeat' split at h)<;>omega
theorem CrsOk.add {T:Tb}{l l':List Cx}{c:Cx}(h:CrsOk T l)(ha:z5t T c.a)(hb:z5t T c.b)(I:c.a≠c.b)(e:y4i l c=.ok l'):CrsOk T l':=by
 unfold y4i at e;dsimp only at e;obtain⟨a,b,hk,h1,h2,h3⟩:∃a b,(if 0<z6q c.a c.b then (c.b,c.a) else (c.a,c.b))=(a,b)/\z5t T a/\z5t T b/\z6q a b<0:=by
  split;rename_i k;exact⟨_,_,rfl,hb,ha,x6x k⟩;rename_i k;exact⟨_,_,rfl,ha,hb,v3m I k⟩
 rw[hk]at e;split at e;cases e;rename_i hr;split at e;cases e;exact⟨λx D=>h.has x (l105.1 D).1,h.nd.sublist<|List.filter_sublist.map _⟩;rename_i Z;cases e;dsimp only at hr Z ⊢;refine⟨λx D=>?_,?_⟩;rcases u9g D with rfl|k
 exact⟨h1,h2,h3,by dsimp only;omega,Z⟩;exact h.has x k;by_cases k:l.any (isC a b)=true;rw[v3p k];exact h.nd;unfold y5o;rw[if_neg k,l31,List.map_singleton,l67];refine⟨h.nd,sp0,λx D y hy=>?_⟩;obtain⟨z,hz,rfl⟩:=l55.1 D;rw[l11.1 hy];intro O;have e1:=congrArg Prod.fst O;have e2:=congrArg Prod.snd O;exact k<|List.any_eq_true.2 ⟨z,hz,z9h.2 ⟨e1,e2⟩⟩
theorem CrsOk.adds {T:Tb}:∀ {r l l':List Cx},CrsOk T l->(∀c∈r,z5t T c.a/\z5t T c.b/\c.a≠c.b)->z3s l r=.ok l'->CrsOk T l'
 | [],l,l',h,_,e=>by cases e;exact h
 | c::r,l,l',h,hr,e=>by
  unfold z3s at e
  split at e
  ·cases e
  rename_i Z I
  have D:=hr c sp0
  exact CrsOk.adds (h.add D.1 D.2.1 D.2.2 I) (λx O=>hr x<|l36 _ O) e
def YnV (T:Tb)(y:Yn):Prop:=(∀q∈y.pe,z5t T q.id)/\(y.inn=true->y.ct=0->y.nw=true)
structure MVal (p:MSt):Prop where
  inv:MInv p
  yv:∀k,k<6->YnV p.tb (p.ys.getD k yn0)
  tab:∃rk,TabR p.tb rk
  once:∀i,z5t p.tb i->(p.B.flat++p.fa++y2f p.tb).count i=1
  fa:∀i∈p.fa,z5t p.tb i
  cr:CrsOk p.tb p.cr
theorem y8i:MVal start:=by
 have D:∀y,z3k start.tb y=0:=λy=>by
  simp only[start,z3k,List.getD,l62];split<;>rfl
 have I:∀i,¬z5t start.tb i:=λi hi=>by
  obtain⟨_,_,h3,h4⟩:=hi;rw[D]at h4;omega
 refine⟨y7v,λk hk=>?_,⟨λ_=>0,rfl,λy O n h=>by rw[D]at h;omega,⟨λy O n h=>by rw[D]at h;omega,λy O n m h Z=>by rw[D]at Z;omega⟩,λi hi=>absurd hi<|I i⟩,λi hi=>absurd hi<|I i,t14,⟨t14,by simp[start]⟩⟩;have:start.ys.getD k yn0=yn0:=by
  simp only[start,List.getD,l62];split<;>rfl
 rw[this];exact⟨t14,(by intro h;cases h)⟩
theorem x3q {p:MSt}{y:Int}{q:Yn}(h:MVal p)(hi:MInv (p.setY y q))(O:1<=y/\y<=6)(I:YnV p.tb q):MVal (p.setY y q):=by
 have hl:(y-1).toNat<p.ys.length:=by rw[h.inv.ly];omega
 refine⟨hi,λk D=>?_,h.tab,h.once,h.fa,h.cr⟩;show YnV p.tb ((p.ys.set (y-1).toNat q).getD k yn0);rw[z1k hl];split;exact I;exact h.yv k D
theorem k7y {p:MSt}(h:MVal p){y:Int}(D:1<=y/\y<=6):YnV p.tb (p.y y):=h.yv (y-1).toNat oo
theorem go_v {T:Tb}{y:Yn}{pl:Int}{l:List Pa}(h:YnV T y)(hl:∀q∈l,z5t T q.id):YnV T (goS y pl l):=⟨x6k h.1 hl,h.2⟩
theorem x8k {p q:MSt}{y pl en:Int}(h:MVal p)(D:1<=y/\y<=6)(e:z8x p y pl en=.ok q):MVal q/\q.B=p.B/\q.rk=p.rk:=by
 have hi:=y1u h.inv D e;refine⟨?_,hi.2⟩;unfold z8x at e;split at e;cases e;cases e;exact x3q h hi.1 D<|go_v (k7y h D) λq I=>h.inv.has _<|v7m I
theorem u4h {p q:MSt}{o:MOp}{th st:List LId}(h:MVal p)(hi:MInv q)(hy:1<=o.y/\o.y<=6)(hn:z3m o.b o.p=0)(hs:th++st=p.B.at o.b o.p)(h4:th.length<=4)(e:y1m p o th st=.ok q):MVal q:=by
 unfold y1m at e;split at e;cases e;rename_i hm;split at e;cases e;cases e;have hm:=l15.1 hm;obtain⟨j,hj,a9⟩:∃j:Nat,j<6/\o.y=(j:Int)+1:=⟨(o.y-1).toNat,oo,oo⟩;have O:(o.y-1).toNat=j:=by omega
 have D:=h.inv.yn j hj;have b1:p.y o.y=p.ys.getD j yn0:=by unfold MSt.y;rw[O]
 rw[<-b1]at D;have a4:=k7y h hy;have a7:j<p.ys.length:=by rw[h.inv.ly];exact hj
 have a6:j<p.tb.length:=by rw[h.inv.lt];exact hj
 have a1:(p.y o.y).inn=true:=by
  unfold mkE at hm;split at hm;exact absurd hm t13;split at hm;omega;rename_i k;simpa using k
 have Z:=D.1.2;rw[if_pos a1]at Z;have a2:p.row o.y=p.tb.getD j []:=by unfold MSt.row;rw[O]
 simp only[O,a2]at hi ⊢;obtain⟨rk,ht⟩:=h.tab;have h6:=h.inv.lt;have a3:∀i∈th,z5t p.tb i:=λi hi=>h.inv.has i<|y1w (b:=o.b) (n:=o.p) (by rw[<-hs];exact l60 _ hi);have b0:y8u p.tb ⟨o.b,(p.y o.y).nw,th,(p.y o.y).pe⟩:=by
  refine⟨(z2t hn).1,⟨h4,Z.2.1⟩,λi hi=>?_,u2t Z.2.2,j4j Z.2.2⟩;rcases l23.1 hi with k|k
  exact a3 i k;obtain⟨q,hq,rfl⟩:=l55.1 k;exact a4.1 q hq
 have a0:∀ {l:Lp} (i:LId),z5t p.tb i->z5t (p.tb.set j<|p.tb.getD j []++[l]) i:=λi hi=>(y6c h6 hj).2<|.inl hi;refine⟨hi,λk hk=>?_,⟨_,ht.add hj b0<|λe0=>a4.2 a1 (by rw[D.2,e0];rfl)⟩,λi hi=>?_,λi hi=>a0 i<|h.fa i hi,h.cr.mono a0⟩;show YnV (p.tb.set j _) ((p.ys.set j<|mkS<|p.y o.y).getD k yn0);rw[z1k a7];split;refine⟨t14,λ_ h0=>?_⟩;have h1:(p.y o.y).ct+1=0:=h0;have:=D.1.1;omega;exact⟨λq hq=>a0 _<|(h.yv k hk).1 q hq,(h.yv k hk).2⟩;show ((p.B.put o.b o.p<|st++[⟨o.y,(p.y o.y).ct⟩]).flat++p.fa++y2f (p.tb.set j<|p.tb.getD j []++[_])).count i=1;rw[l21,l21,j1g a6];have h1:=z5h p.B hn (st++[⟨o.y,(p.y o.y).ct⟩]) i;have h2:th.count i+st.count i=(p.B.at o.b o.p).count i:=by rw[<-hs,l21]
 rw[l21,l96]at h1;dsimp only;rcases(y6c h6 hj).1 hi with k|k
 have h3:=h.once i k;rw[l21,l21]at h3;have a8:¬((⟨o.y,(p.y o.y).ct⟩:LId) == i)=true:=by
  intro ee;have ee:(⟨o.y,(p.y o.y).ct⟩:LId)=i:=by simpa using ee
  obtain⟨_,_,_,k4⟩:=k;rw[<-ee]at k4;simp only at k4;rw[O,D.2]at k4;omega
 rw[if_neg a8]at h1;omega;have I:¬z5t p.tb i:=λk4=>by
  rw[k]at k4;obtain⟨_,_,_,k4⟩:=k4;simp only at k4;rw[show ((j:Int)+1-1).toNat=j by omega]at k4;omega
 have z1:p.B.flat.count i=0:=l74.2 λz=>I<|h.inv.has i z;have z2:p.fa.count i=0:=l74.2 λz=>I<|h.fa i z;have z3:(y2f p.tb).count i=0:=l74.2 λz=>I<|v3t ht z;have z4:th.count i=0:=l74.2 λz=>I<|a3 i z;have z5:(p.B.at o.b o.p).count i=0:=l74.2 λz=>I<|h.inv.has i<|y1w z;have a5:((⟨o.y,(p.y o.y).ct⟩:LId) == i)=true:=by rw[k,D.2,a9];simp
 rw[if_pos a5]at h1;omega
theorem y9m {p:MSt}{d:Int}:∀ {l l':List Yn},z3g p d l=.ok l'->MVal p->∀k,YnV p.tb (l.getD k yn0)->YnV p.tb (l'.getD k yn0)
 | [],l',e,_,k,hk=>by cases e;exact hk
 | y::l,l',e,h,k,hk=>by
  unfold z3g at e
  split at e
  ·cases e
  rename_i Z D
  split at e
  ·cases e
  rename_i O hl
  cases e
  cases k with
  | succ k=>simpa only[l58] using y9m hl h k (by simpa only[l58] using hk)
  | zero=>
   simp only[l76]at hk ⊢
   unfold z6g at D
   split at D
   ·cases D;exact hk
   split at D
   ·cases D
   cases D
   exact go_v hk λq I=>h.inv.has _<|x4z I
theorem y0b {p q:MSt}{d:Int}(h:MVal p)(Z:-4<=p.rk+stI d/\p.rk+stI d<=4)(e:z3l p d=.ok q):MVal q:=by
 have hi:=(z7z h.inv Z e).1;unfold z3l at e;split at e;cases e;rename_i ys I;split at e;cases e;rename_i cr D;cases e;refine⟨hi,λk hk=>y9m I h k<|h.yv k hk,h.tab,h.once,h.fa,h.cr.adds (λc O=>?_) D⟩;obtain⟨k1,k2,k3,_⟩:=y7f h.inv.B.nd O;exact⟨h.inv.has _ k1,h.inv.has _ k2,k3⟩
theorem x5x {r:Int}(O:-4<=r/\r<=4):∀ {n:Nat} {p q:MSt},MVal p->z3p n p r=.ok q->MVal q
 | 0,p,q,h,e=>by cases e;exact h
 | n+1,p,q,h,e=>by
  unfold z3p at e
  split at e
  ·cases e;exact h
  rename_i I
  split at e
  ·cases e
  rename_i p2 D
  have Z:=h.inv.rk
  refine x5x O (y0b h ?_ D) e
  unfold stI
  split<;>split<;>omega
theorem u7g {p q:MSt}{o:MOp}(h:MVal p)(hi:MInv q)(hn:z3m o.b o.p=0)(e:z5v p o=.ok q):MVal q:=by
 unfold z5v at e;split at e;cases e;split at e;cases e;rename_i D;have D:=l15.1 D;split at e;cases e;split at e;cases e;cases e;refine⟨hi,h.yv,h.tab,λi hh=>?_,h.fa,h.cr⟩;have hb:=(z2t hn).1;have hc:=y6s (p:=p) (o:=o) hb i;have I:(p.B.put o.b o.p []).at (1-o.b) (z4l o.b o.p p.rk)=p.B.at (1-o.b) (z4l o.b o.p p.rk):=by
  rw[z5d p.B hn D,if_neg oo]
 have O:=z5h p.B hn [] i;have Z:=z5h (p.B.put o.b o.p []) D (z7h p o) i;have h3:=h.once i hh;rw[I]at Z;show (((p.B.put o.b o.p []).put (1-o.b) (z4l o.b o.p p.rk)<|z7h p o).flat++p.fa++y2f p.tb).count i=1;simp only[l21]at h3 ⊢;simp only[l134]at O;omega
theorem u9d {p q:MSt}{o:MOp}(h:MVal p)(hi:MInv q)(hn:z3m o.b o.p=0)(e:y2l p o=.ok q):MVal q:=by
 unfold y2l at e;split at e;cases e;cases e;refine⟨hi,h.yv,h.tab,λi D=>?_,λi D=>?_,h.cr⟩;have I:=z5h p.B hn [] i;have O:=h.once i D;show ((p.B.put o.b o.p []).flat++(p.fa++p.B.at o.b o.p)++y2f p.tb).count i=1;simp only[l21]at O ⊢;simp only[l134]at I;omega;rcases l23.1 D with k|k
 exact h.fa i k;exact h.inv.has i<|y1w k
theorem v1l {p q:MSt}{o:MOp}(h:MVal p)(e:doM p o=.ok q):MVal q:=by
 have hi:=z8m h.inv e;unfold doM at e;split at e;cases e;rename_i hc;obtain⟨_,h1,I,h3,O,h5⟩:=z3u<|l15.1 hc;unfold opM at e;split at e;have D:=I oo;unfold inM at e;split at e;cases e;cases e;exact x3q h hi D ⟨t14,λ_ _=>rfl⟩;split at e;have D:=I oo;unfold x7f at e;split at e;cases e;cases e;exact x3q h hi D ⟨t14,(by intro k;cases k)⟩;split at e;exact x5x (h5 oo) h e;split at e;have D:=I oo;have Z:=O oo;unfold y0f at e;split at e;cases e;split at e;cases e;rename_i r hr;obtain⟨v1,v2,v3⟩:=x8k h D hr;exact u4h v1 hi D Z sp0 (y8l v1.inv.B _ _) e;split at e;have D:=I oo;have Z:=O oo;unfold z9w at e;split at e;cases e;split at e;cases e;rename_i r hr;obtain⟨v1,v2,v3⟩:=x8k h D hr;split at e;cases e;exact u4h v1 hi D Z sp0 sp0 e;split at e;have D:=I oo;unfold y1x at e;split at e;cases e;exact(x8k h D e).1;split at e;exact u7g h hi (O oo) e;exact u9d h hi (O oo) e
theorem x2c:∀ {l:List MOp} {i:Nat} {p q:MSt},MVal p->z2u i p l=.ok q->MVal q
 | [],i,p,q,h,e=>by cases e;exact h
 | o::l,i,p,q,h,e=>by
  unfold z2u at e
  split at e
  ·cases e
  rename_i p2 D
  exact x2c (v1l h D) e
structure StQ where
  rk:Int
  q:BdQ
  yv:SV
  ys:List YQ
  fb:FbQ
abbrev _root_.svv (s:StQ):Value:=.agg #[.int .i64 s.rk,.slice s.q.f.1 s.q.f.2.1 s.q.f.2.2,.slice s.q.b.1 s.q.b.2.1 s.q.b.2.2,.slice s.yv.1 s.yv.2.1 s.yv.2.2,.slice s.fb.t.1 s.fb.t.2.1 s.fb.t.2.2,.slice s.fb.c.1 s.fb.c.2.1 s.fb.c.2.2,.slice s.fb.h.1 s.fb.h.2.1 s.fb.h.2.2,.slice s.fb.f.1 s.fb.f.2.1 s.fb.f.2.2]
abbrev stL (s:StQ):List Value:=[.int .i64 s.rk,.slice s.q.f.1 s.q.f.2.1 s.q.f.2.2,.slice s.q.b.1 s.q.b.2.1 s.q.b.2.2,.slice s.yv.1 s.yv.2.1 s.yv.2.2,.slice s.fb.t.1 s.fb.t.2.1 s.fb.t.2.2,.slice s.fb.c.1 s.fb.c.2.1 s.fb.c.2.2,.slice s.fb.h.1 s.fb.h.2.1 s.fb.h.2.2,.slice s.fb.f.1 s.fb.f.2.1 s.fb.f.2.2]
structure St where
  rk:Int
  B:Bd
  ys:List Yn
  fb:Fb
abbrev StQ.p (s:StQ):St:=⟨s.rk,s.q.p,s.ys.map YQ.p,s.fb.p⟩
def YsA (w:World)(ys:List YQ):Prop:=∀i,Sl z2k w (slv (ys.getD i yq0).pe) (ys.getD i yq0).pes
theorem YsA.ext {w w':World}{ys:List YQ}(h:YsA w ys)(hf:Fr [] w w'):YsA w' ys:=λi=>(h i).ext hf
structure StAt (w:World) (s:StQ):Prop where
  b:BdAt w s.q
  y:Sl z3w w (slv s.yv) s.ys
  ya:YsA w s.ys
  f:FbAt w s.fb
theorem StAt.ext {w w':World}{s:StQ}(h:StAt w s)(hf:Fr [] w w'):StAt w' s:=⟨h.b.ext hf,h.y.ext hf,h.ya.ext hf,h.f.ext hf⟩
theorem u6f {κ:Type}[DecidableEq κ]{V:κ->Value}{w:World}{g:Nat}(h:MapF V w g λ_=>none):MapL V w g []:=by
 obtain⟨O,c,m,Z,h2,h3⟩:=h;have D:m=[]:=by
  cases m with
  | nil=>rfl
  | cons p m=>have:=h3 p.1;simp[z2w]at this
 subst D;have I:O.toList=[]:=List.map_eq_nil_iff.1 h2;refine⟨O,c,Z,by rw[I];rfl,sp0,by rw[I];simp,λe D=>by rw[I]at D;cases D⟩
theorem x7d {κ:Type}[DecidableEq κ]{m:List (κ×Value)}{k:κ}{v:Value}(h:k∉m.map (·.1)):z4u m k v=m++[(k,v)]:=by
 unfold z4u;have:(m.map (·.1)).findIdx? (λx=>decide (k=x))=none:=by
  rw[List.findIdx?_eq_none_iff];intro x D;have:k≠x:=λe=>h (e▸D);simpa using this
 rw[this]
abbrev cxK (c:Cx):LId×LId:=(c.a,c.b)
theorem x3b (l:List Cx):(crM l).map (·.1)=l.map cxK:=by unfold crM;rw[l75];rfl
theorem u6i {l:List Cx}{i:Nat}(hn:(l.map cxK).Nodup)(hi:i<l.length):z4u (crM<|l.take i) (cxK<|l.getD i cx0) (.int .i64 (l.getD i cx0).n)=crM (l.take<|i+1):=by
 have e:l.take (i+1)=l.take i++[l.getD i cx0]:=by rw[l54,List.getD,l10 hi];rfl
 rw[x7d,e];unfold crM;rw[l31];rfl;rw[x3b];intro I;have D:(((l.take i)++[l.getD i cx0]).map cxK).Nodup:=by
  rw[<-e];exact List.Nodup.sublist (List.Sublist.map _<|List.take_sublist _ _) hn
 rw[l31]at D;exact(l67.1 D).2.2 _ I _ (l11.2 U) U
theorem x0h {τ:TyK}{Mt:Nat}{w0 w:World}{s:StQ}{fs bs:List IQ}{gF gB gy gt Z gk I:Nat}{ps:List YQ}{us:List TQ}
    (hk:Blk w gk Mt [.int .i64 s.rk,.slice (saa gF) fs.length fs.length,.slice (saa gB) bs.length bs.length,.slice (saa gy) s.ys.length s.ys.length,.slice (saa gt) s.fb.ts.length s.fb.ts.length,.map (some Z),.slice (saa I) s.fb.fs.length s.fb.fs.length])
    (hF:RwO τ.S τ.I w0.heap.size w (.slice (saa gF) fs.length fs.length) fs) (hB:RwO τ.S τ.I w0.heap.size w (.slice (saa gB) bs.length bs.length) bs)
    (hY:YsO τ w0.heap.size w (.slice (saa gy) s.ys.length s.ys.length) ps) (hpl:ps.length=s.ys.length) (hpm:ps.map YQ.p=s.ys.map YQ.p)
    (hT:TbO τ w0.heap.size w (.slice (saa gt) s.fb.ts.length s.fb.ts.length) us) (hul:us.length=s.fb.ts.length) (htm:z2o us=z2o s.fb.ts)
    (hm:MapF crK w Z λ_=>none) (hf:Lw.Own z1h τ.I w0.heap.size w (.slice (saa I) s.fb.fs.length s.fb.fs.length) s.fb.fs) (hly:s.ys.length=6) (hlt:s.fb.ts.length=6)
    (hfr:Fr [] w0 w) (hgc:w0.heap.size<=Z) (hgk:w0.heap.size<=gk) (hfb:∀x∈fs++bs,I∉z0v (slv x.1)) (hft:∀i,i<6->∀q∈(us.getD i tq0).2,I∉z0v (slv q.th)) (hpF:plB fs=z1x (plB s.q.fs)) (hpB:plB bs=z1x (plB s.q.bs)) :
    ∃m:MQ,MkM τ Mt w0 ⟨gk,gy,6,gt,6,Z,w⟩ w m/\m.p=⟨s.rk,⟨z1x<|plB s.q.fs,z1x<|plB s.q.bs⟩,s.ys.map YQ.p,z2o s.fb.ts,[],s.fb.fs⟩:=by
  refine⟨⟨s.rk,⟨(some ⟨gF,0,none⟩,fs.length,fs.length),(some ⟨gB,0,none⟩,bs.length,bs.length),fs,bs⟩,ps,us,[],(some ⟨I,0,none⟩,s.fb.fs.length,s.fb.fs.length),s.fb.fs⟩,⟨?_,⟨hF,hB⟩,?_,?_,u6f hm,hf,λx hx k D O=>?_,λi hi q hq k D O=>?_,by rw[hpl,hly],by rw[hul,hlt],hgk,hgc,⟨hfr,KpM.refl _ _ _⟩⟩,?_⟩
  · rw[hly,hlt]at hk;exact hk
  · rw[hly]at hY;exact hY
  · rw[hlt]at hT;exact hT
  · simp[z0v,slv]at O;subst O;exact hfb x hx D
  · simp[z0v,slv]at O;subst O;exact hft i hi q hq D
  · show (⟨s.rk,⟨plB fs,plB bs⟩,ps.map YQ.p,z2o us,[],s.fb.fs⟩:MSt)=_
    rw[hpF,hpB,hpm,htm]
end Go.G08
namespace Go.G08
open Go.Lw Go.G21 Go.Proofs Go.Sort
theorem j7y (X:World)(o:Obj)(b:Nat)(h:X.heap.size=b):(X.alloc o).drew.heap[b]?=some o:=by subst h;show (X.heap.push o)[X.heap.size]?=some o;simp
def DG (w w':World):Prop:=∃q os',w'=grow (w.drewN q) os'
theorem DG.refl (w:World):DG w w:=⟨0,#[],by rw[grow_empty];rfl⟩
theorem DG.alloc {w w':World}(h:DG w w')(o:Obj):DG w (w'.alloc o):=by
 obtain⟨q,D,rfl⟩:=h;exact⟨q,D++#[o],by rw[alloc_eq_grow,grow_grow]⟩
theorem DG.drew {w w':World}(h:DG w w'):DG w w'.drew:=by
 obtain⟨q,D,rfl⟩:=h;exact⟨q+1,D,rfl⟩
theorem DG.trans {a b c:World}(h:DG a b)(I:DG b c):DG a c:=by
 obtain⟨q,O,rfl⟩:=h;obtain⟨q',D,rfl⟩:=I;exact⟨q+q',O++D,by rw[<-grow_grow];unfold grow World.drewN;simp[Nat.add_assoc]⟩
theorem DG.cell {w w':World}(h:DG w w'){p:Addr}{v:Value}(hb:w.cell? p=some v):w'.cell? p=some v:=by
 obtain⟨q,D,rfl⟩:=h;have hl:=block_lt_of_cell hb;refine(World.cell?_of_block (w:=w) ?_).trans hb;show (w.heap++D)[p.block]?=_;rw[Array.getElem?_append_left hl]
theorem k8b {X:World}{b T:Nat}{x y:Int}(h:X.heap[b]?=some (.cells #[.int .i64 x,.int .i64 y] T (0,0))):Sl Enc.i64 X (.slice (saa b) 2 2) [x,y]:=
 Lw.Own.sl (E:=Enc.i64) (T:=T) (base:=b) (.inr ⟨b,2,_,rfl,l20 _,h,l20 _,dd,l20 2,rfl⟩)
def x4e (x y:Cx):Int:=if z6q x.a y.a≠0 then z6q x.a y.a else z6q x.b y.b
abbrev k1r (c:Cx):Value:=.agg #[.int .u8 c.a.y,.int .i64 c.a.n,.int .u8 c.b.y,.int .i64 c.b.n,.int .i64 c.n]
section
variable {α:Type} [Inhabited α] (E:Enc α)
theorem y9x (ys:Array α):(flatK E.enc E.sz ys).toList=ys.toList.flatMap E.enc:=by
 refine l69 λt=>?_;have O:=E.pos;by_cases ht:t<ys.size*E.sz;have I:t / E.sz<ys.size:=Nat.div_lt_of_lt_mul (by rw[Nat.mul_comm];exact ht);have D:t % E.sz<E.sz:=Nat.mod_lt _ O;have e1:=get_flatK E.enc E.sz ys t ht;have e2:=E.flat_get ys.toList (t / E.sz) ys[t / E.sz] (by simp[I]) (t % E.sz) D;rw[show t / E.sz*E.sz+t % E.sz=t by rw[Nat.mul_comm];exact Nat.div_add_mod t E.sz]at e2;rw[e2,l45];rw[getElem!_pos (flatK E.enc E.sz ys) t (by simpa using ht),getElem!_pos ys (t / E.sz) I,getElem!_pos (E.enc ys[t / E.sz]) (t % E.sz) (by rw[E.len];exact D)]at e1;rw[l84 (by simpa using ht),e1,l10 (by rw[E.len];exact D)];rw[l32 so,l32 (by rw[E.flat_len];simp;omega)]
variable {E} {w:World} {g T cap base:Nat} {cur:Array Value}
theorem v8x {ys:List α}(h:w.heap[g]?=some (.cells cur T (0,0)))(Z:ys.length*E.sz<=cur.size)(O:cur.toList.take (ys.length*E.sz)=ys.flatMap E.enc):HoldsK E.enc E.sz w g 0 ys.toArray:=by
 intro j D;have I:j<ys.length*E.sz:=by simpa using D
 have e:=y9x E ys.toArray;rw[<-show cur.toList.take (ys.length*E.sz)=ys.toArray.toList.flatMap E.enc from O]at e;have e1:=congrArg (λl:List Value=>l[j]?) e;simp only[l45,l53,I,if_true]at e1;constructor;rw[l72,getElem!_pos _ j D];rw[l84 D]at e1;simp only[World.cell?,h];exact e1.symm;simp only[World.frozen?,h];simp
theorem u5z {ys:List α}(h:w.heap[g]?=some (.cells cur T (0,0)))(hs:ys.length*E.sz<=cur.size)(hb:base<=g)(hc:ys.length<=cap)(hM:cap<=maxLen)(Z:cap*E.sz<=cur.size)(d:Array α)(I:d.size=ys.length)(n:Nat)(O:Array Obj) :
    Lw.Own E T base (sortWorldK E.enc E.sz w g 0 n d O) (.slice (saa g) ys.length cap) d.toList/\Fr [g] w (sortWorldK E.enc E.sz w g 0 n d O):=by
  have hg:g<w.heap.size:=(l17.1 h).1
  have D:∀k,k<w.heap.size->(sortWorldK E.enc E.sz w g 0 n d O).heap[k]?=(w.heap.modify g<|onCells<|putCells id 0<|flatK E.enc E.sz d)[k]?:=λk hk=>by
    show ((w.heap.modify g _)++O)[k]?=_
    rw[Array.getElem?_append_left (by simpa using hk)]
  refine⟨.inr ⟨g,cap,putCells id 0 (flatK E.enc E.sz d) cur,by rw[show d.toList.length=ys.length by simpa using I],hb,?_,by simpa[I] using hc,hM,by simpa[putCells] using Z,?_⟩,rfl,rfl,rfl,?_,λk hk hn=>?_⟩
  · rw[D g hg,Array.getElem?_modify,if_pos U,h];rfl
  · rw[<-y9x E d]
    refine l69 λt=>?_
    have a0:d.toList.length=ys.length:=by simpa using I
    rw[l53,a0]
    by_cases ht:t<ys.length*E.sz
    · rw[if_pos ht,l45,l45]
      unfold putCells
      rw[Array.getElem?_mapIdx,l84 (show t<cur.size by omega),l84 (show t<(flatK E.enc E.sz d).size by simpa[I] using ht)]
      simp only[l65,l16,l72,true_and,Nat.sub_zero,id]
      rw[if_pos (by simpa[I] using ht),getElem!_pos _ t (by simpa[I] using ht)]
    · rw[if_neg ht,l32 (by simp[I];omega)]
  · show w.heap.size<=((w.heap.modify g _)++O).size
    simp
  · rw[D k hk,Array.getElem?_modify,if_neg (λe=>hn (by simp[e]))]
open Go.Shelf in
theorem v4y {P:Program}{ρ:Ren}(L:SlLaysF0.n6 P ρ){f cl:Nat}(hf:ρ.f 6=f)(aE:∀w,(isAgg<|ρ.t 24).run P w=.ok true w)(zE:∀w,(Go.sizeOf<|ρ.t 24).run P w=.ok E.sz w)(cf:α->α->Int)(hO:SWO (ltOf cf))
    (eg:∀D w,(callFunc cl D).run P w=.ok (.enter cl D) w)
    (hcmp:∀x y W,Calls P cl #[.agg (E.enc x).toArray,.agg (E.enc y).toArray] W λe w'=>e=.returned (.int .i64<|cf x y)/\DG W w')
    (hnil:∀W,Calls P f #[.slice none 0 0,.func (.func cl) #[] #[]] W λe w'=>e=.returned (.tuple #[])/\Fr [] W w')
    {v:Value} {ys:List α} (ho:Lw.Own E T base w v ys) (hl:ys.length<4611686018427387904):Rets P f #[v,.func (.func cl) #[] #[]] w λr w'=>r=.tuple #[]/\∃ys',ys'.Perm ys/\ys'.Pairwise (λa b=>¬cf b a<0)/\Lw.Own E T base w' v ys'/\Fr (z0v v) w w':=by
  subst hf
  rcases ho with ⟨rfl,rfl⟩|⟨g,cap,cur,rfl,h2,O,h4,h5,h6,h7⟩
  · exact Calls.mono (hnil w) (by rintro e w' ⟨rfl,h⟩;exact⟨_,rfl,rfl,[],.refl _,.nil,Lw.Own.nil _,h.weak sp0⟩)
  · have hs:ys.length*E.sz<=cur.size:=l42 (l49 _ h4) h6
    have h:=AnyQ.slices_SortFunc L E.sz aE zE E.enc E.len E.one cf hO cl #[] g 0 cap ys.toArray w eg (λm os dk _ x y=>hcmp x y _) (v8x O hs h7) (l17.1 O).1 (by simpa using hl)
    rw[show ys.toArray.size=ys.length by simp]at h
    refine Calls.mono h ?_
    rintro e w' ⟨rfl,I,n,os,hp,a3,rfl⟩
    have Z:I.size=ys.length:=by simpa using hp.1
    obtain⟨k1,k2⟩:=u5z (base:=base) O hs h2 h4 h5 h6 I Z n os
    refine⟨_,rfl,rfl,I.toList,?_,?_,k1,by simpa[z0v] using k2⟩
    · have:=hp.2.2
      simp[Z]at this
      rwa [l86 (by simpa using Nat.le_of_eq Z)]at this
    · rw[l83]
      intro i j hi hj a1
      have a0:i<I.size:=by simpa using hi
      have a2:j<I.size:=by simpa using hj
      have:=a3 i j (l16 _) a1 oo
      rw[getElem!_pos I i a0,getElem!_pos I j a2]at this
      simpa[ltOf] using this
end
theorem y1y {x y:Cx}:x4e x y<0↔(x.a.y<y.a.y\/x.a.y=y.a.y/\x.a.n<y.a.n)\/(x.a.y=y.a.y/\x.a.n=y.a.n)/\(x.b.y<y.b.y\/x.b.y=y.b.y/\x.b.n<y.b.n):=by
 unfold x4e;have e:z6q x.a y.a=0↔x.a.y=y.a.y/\x.a.n=y.a.n:=by rw[y8c];obtain⟨⟨_,_⟩,_,_⟩:=x;obtain⟨⟨_,_⟩,_,_⟩:=y;simp
 split;rename_i h;rw[z8f];rw[Ne,e]at h;omega;rename_i h;rw[Decidable.not_not,e]at h;rw[z8f];omega
theorem swoI:SWO (ltOf z6q):=by
 constructor;intro x;simp only[ltOf,decide_eq_false_iff_not,z8f];omega;intro x y z;simp only[ltOf,decide_eq_true_eq,z8f];omega;intro x y z;simp only[ltOf,decide_eq_false_iff_not,z8f];omega
theorem swoX:SWO (ltOf x4e):=by
 constructor;intro x;simp only[ltOf,decide_eq_false_iff_not,y1y];omega;intro x y z;simp only[ltOf,decide_eq_true_eq,y1y];omega;intro x y z;simp only[ltOf,decide_eq_false_iff_not,y1y];omega
def y3s (l:List LId):List LId:=l.mergeSort λa b=>decide (¬z6q b a<0)
def y5l (l:List Cx):List Cx:=l.mergeSort λa b=>decide (¬x4e b a<0)
theorem z4n (l:List LId):(y3s l).Perm l:=List.mergeSort_perm ..
theorem z4i (l:List Cx):(y5l l).Perm l:=List.mergeSort_perm ..
theorem v3k (l:List LId):(y3s l).Pairwise λa b=>¬z6q b a<0:=
 (List.pairwise_mergeSort (le:=λa b=>decide (¬z6q b a<0)) (λa b c=>by simp only[decide_eq_true_eq,z8f];omega) (λa b=>by simp only[Bool.or_eq_true,decide_eq_true_eq,z8f];omega) l).imp sp0
theorem x1c (l:List Cx):(y5l l).Pairwise λa b=>¬x4e b a<0:=
 (List.pairwise_mergeSort (le:=λa b=>decide (¬x4e b a<0)) (λa b c=>by simp only[decide_eq_true_eq,y1y];omega) (λa b=>by simp only[Bool.or_eq_true,decide_eq_true_eq,y1y];omega) l).imp sp0
theorem j7a {l l':List LId}(hp:l'.Perm l)(O:l'.Pairwise λa b=>¬z6q b a<0):l'=y3s l:=by
 refine List.Perm.eq_of_pairwise (λa b _ _ D I=>?_) O (v3k l)<|hp.trans (z4n l).symm;rw[z8f]at D I;obtain⟨_,_⟩:=a;obtain⟨_,_⟩:=b;simp only at D I;rw[LId.mk.injEq];omega
theorem u3e {l l':List Cx}(hn:(l.map λc=>(c.a,c.b)).Nodup)(hp:l'.Perm l)(hs:l'.Pairwise λa b=>¬x4e b a<0):l'=y5l l:=by
 refine List.Perm.eq_of_pairwise (λa b ha hb Z h2=>?_) hs (x1c l)<|hp.trans (z4i l).symm;have I:=hp.mem_iff.1 ha;have O:=(z4i l).mem_iff.1 hb;have hk:(a.a,a.b)=(b.a,b.b):=by
  rw[y1y]at Z h2;obtain⟨⟨_,_⟩,⟨_,_⟩,_⟩:=a;obtain⟨⟨_,_⟩,⟨_,_⟩,_⟩:=b;simp only at Z h2;simp only[l94,LId.mk.injEq];omega
 have D:=l83.1<|List.pairwise_map.1 hn;obtain⟨i,hi,rfl⟩:=l29 I;obtain⟨j,hj,rfl⟩:=l29 O;rcases Nat.lt_trichotomy i j with h|h|h
 exact absurd hk<|D i j hi hj h;subst h;rfl;exact absurd hk.symm<|D j i hj hi h
end Go.G08
namespace Go.Lw
section
variable {P:Program} {ops:Array Oper} {Q:Exit->Act->World->Prop} {rest:List Oper} {n:Nat} {ds:List Nat} {L:List (Nat×Value)} {w:World} {d:Nat} {x:Operand} {t K E g ty:Nat} {pos:String} {after:Array Edge} {κ:Type} [DecidableEq κ] {V:κ->Value} {m:List (κ×Value)}
theorem k3a (hx:ev L x=some (.map<|some g))(Z:MapL V w g m)(hu:P.underlying t=some (.map K E))(hn:lbt d n)(q:WL P ops Q rest n ds w ((d,.int .i64 (m.length:Int))::L)):WL P ops Q (⟨some d,.call ⟨.builtin .len,#[x],#[t]⟩,ty,pos,after,none⟩::rest) n ds w L:=λa h=>by
 obtain⟨D,c,I,O,_⟩:=Z
 have hl:D.size=m.length:=by have:=congrArg List.length O;simpa using this
 refine z2c h U hn (w':=w) (v:=.int .i64 (m.length:Int)) ?_ q
 rw[z2q];unfold builtin
 simp[h.eval hx,Builtin.len_,run_underlying hu,z3b I,hl]
 rfl
theorem MapIt.no {gi:Nat}{rem:List (κ×Value)}{cur:Option (κ×Value)}(h:MapIt V w gi g m rem cur):MapIt V w gi g m rem none:=by
 obtain⟨I,c,D,Z,k2,k3,k4,k5,k6,_⟩:=h;exact⟨I,c,D,Z,k2,k3,k4,k5,k6,λp O=>by cases O⟩
end
end Go.Lw
namespace Go.G08
open Go.Lw Go.G21
theorem k0u (a b:List Cx):crM (a++b)=crM a++crM b:=by unfold crM;rw[l31]
theorem u0c {l:List Cx}{r1 r2:List ((LId×LId)×Value)}{p:(LId×LId)×Value}(h:crM l=r1++p::r2):∃D c I,l=D++c::I/\r1=crM D/\p=((c.a,c.b),.int .i64 c.n)/\r2=crM I:=by
 unfold crM at h;obtain⟨D,l',rfl,e1,e2⟩:=List.map_eq_append_iff.1 h;obtain⟨c,I,rfl,O,Z⟩:=List.map_eq_cons_iff.1 e2;exact⟨D,c,I,rfl,e1.symm,O.symm,Z.symm⟩
section
variable {P:Program} {ops:Array Oper} {Q:Exit->Act->World->Prop} {rest:List Oper} {n:Nat} {ds:List Nat} {L:List (Nat×Value)} {w:World} {d:Nat} {x:Operand} {t g gi ty:Nat} {pos:String} {after:Array Edge} {em:List ((LId×LId)×Value)} {rem:List Cx}
def CrIt (w:World)(gi g:Nat)(em:List ((LId×LId)×Value))(rem:List Cx)(cur:Option Cx):Prop:=MapIt crK w gi g em (crM rem)<|cur.map λc=>((c.a,c.b),.int .i64 c.n)
theorem CrIt.fr {w':World}{S:List Nat}{cur:Option Cx}(h:CrIt w gi g em rem cur)(hf:Fr S w w')(hn:∀k∈S,k≠g/\k≠gi):CrIt w' gi g em rem cur:=MapIt.fr h hf (λe=>(hn g e).1 U)<|λe=>(hn gi e).2 U
theorem CrIt.ext {w':World}{cur:Option Cx}(h:CrIt w gi g em rem cur)(hf:Fr [] w w'):CrIt w' gi g em rem cur:=h.fr hf sp0
theorem CrIt.no {cur:Option Cx}(h:CrIt w gi g em rem cur):CrIt w gi g em rem none:=MapIt.no h
theorem CrIt.lt {cur:Option Cx}(h:CrIt w gi g em rem cur):gi<w.heap.size:=MapIt.lt h
theorem CrIt.neO {α:Type}{E:Enc α}{T base:Nat}{v:Value}{ys:List α}{cur:Option Cx}(h:CrIt w gi g em rem cur)(ho:Lw.Own E T base w v ys):∀k∈z0v v,k≠g/\k≠gi:=λk I=>by
 obtain⟨es,c,Z,k1,_,_,_,k5,_⟩:=h
 rcases ho with ⟨rfl,_⟩|⟨g',cap,O,rfl,_,D,_⟩
 ·simp[z0v]at I
 simp only[z0v,l11]at I
 subst I
 exact⟨λe=>(by rw[e,k1]at D;cases D),λe=>(by rw[e,k5]at D;cases D)⟩
theorem j0t {K E:Nat}{l:List Cx}(O:ev L x=some (.map<|some g))(D:MapL crK w g (crM l))(I:P.underlying t=some (.map K E))(hn:lbt d n)
 (q:∀gi w',gi=w.heap.size->CrIt w' gi g (crM l) l none->Fr [] w w'->w'.heap.size=gi+1->WL P ops Q rest n ds w' ((d,pta gi)::L)):WL P ops Q (⟨some d,.range t x,ty,pos,after,none⟩::rest) n ds w L:=j1m O D I hn q
theorem j9g {cur:Option Cx}(hx:ev L x=some (pta gi))(hi:CrIt w gi g em rem cur)(hn:lbt d n)
    (qt:∀D c I,rem=D++c::I->∀w',CrIt w' gi g em (D++I) (some c)->Fr [gi] w w'->w'.heap.size=w.heap.size->WL P ops Q rest n ds w' ((d,.tuple #[.bool true,crK (c.a,c.b),.int .i64 c.n])::L))
    (qf:rem=[]->WL P ops Q rest n ds w ((d,.tuple #[.bool false])::L)):WL P ops Q (⟨some d,.next x false,ty,pos,after,none⟩::rest) n ds w L:=
  k1n hx hi hn (λr1 p r2 O w' Z hf hz=>by
    obtain⟨D,c,I,rfl,rfl,rfl,rfl⟩:=u0c O
    exact qt D c I U w' (by unfold CrIt;rw[k0u];exact Z) hf hz) (λO=>qf<|List.map_eq_nil_iff.1 O)
theorem j0k {c:Cx}(D:ev L x=some (pta gi))(hi:CrIt w gi g em rem (some c))(hn:lbt d n)
 (q:WL P ops Q rest n ds w ((d,.tuple #[.agg #[.int .u8 c.a.y,.int .i64 c.a.n,.int .u8 c.b.y,.int .i64 c.b.n],.int .i64 c.n])::L)):WL P ops Q (⟨some d,.entry x,ty,pos,after,none⟩::rest) n ds w L:=u6j (p:=((c.a,c.b),.int .i64 c.n)) D hi hn q
end
section
variable {τ:TyK} {Mt:Nat} {wS w w':World} {a:MA} {m:MQ} {j:Nat} {u:SV}
theorem MkM.tabh (h:MkM τ Mt wS a w m)(D:MtOk τ Mt)(hj:j<6)(h1:Lw.Own z7t τ.L wS.heap.size w (slv u) (m.ts.getD j tq0).2)(O:∀i,i<6->∀b∈z0v (slv (m.ts.getD i tq0).1),b∉z0v (slv u))
    (h2:Lw.Own z5e τ.T wS.heap.size w' a.TV (m.ts.set j (u,(m.ts.getD j tq0).2))) (f2:Fr [a.gt] w w'):MkM τ Mt wS a w' { m with ts:=m.ts.set j (u,(m.ts.getD j tq0).2) }:=by
  have hl:j<m.ts.length:=by rw[h.lt];exact hj
  have I:∀T,T≠τ.T->OffT w T [a.gt]:=λT hT=>z7m h.t.out<|l51 hT
  refine⟨y5b h.k f2<|I _ D.t,BdO.tf h.b f2 (I _<|l51 D.o.ts)<|I _<|l51 D.o.ti,h.y.tf f2 (I _ D.o.yt)<|I _<|l51 D.o.tp,⟨h2,λi hi=>?_,λi k hi hk a2=>?_,λi hi q hq=>?_⟩,h.c.tf f2<|I _ D.t,z2d h.f f2<|I _<|l51 D.o.ti,h.fb,λi hi p Z=>?_,h.ly,by rw[l19];exact h.lt,h.gk,h.gc,h.fr.step f2 (y9p h.t.out t42) λk hk a3=>?_⟩
  · simp only[l19]at hi
    rw[z1k hl]
    split
    · exact z2d h1 f2<|I _<|l51 D.o.tl
    · exact z2d (h.t.ins i hi) f2<|I _<|l51 D.o.tl
  · simp only[l19]at hi hk
    rw[z1k hl,z1k hl]
    split
    · rw[if_neg oo];exact λb hb a1=>O k (by rw[<-h.lt];exact hk) b a1 hb
    · split
      · exact O i (by rw[<-h.lt];exact hi)
      · exact h.t.off i k hi hk a2
  · simp only[l19]at hi
    rw[z1k hl]at hq
    have a0:q∈(m.ts.getD i tq0).2:=by split at hq;(rename_i e;subst e;exact hq);exact hq
    exact⟨z2d (h.t.lps i hi q a0).1 f2<|I _<|l51 D.o.ti,z2d (h.t.lps i hi q a0).2 f2<|I _<|l51 D.o.tp⟩
  · simp only at Z
    rw[z1k hl]at Z
    split at Z
    · rename_i e;subst e;first|exact h.ft _ hi p Z|exact h.ft _ hj p Z
    · exact h.ft i hi p Z
  · have:=(h.t.out.blk k hk).1;omega
theorem MkM.fallS {l:List LId}(h:MkM τ Mt wS a w m)(Z:MtOk τ Mt)(D:τ.I≠τ.P)(h1:Lw.Own z1h τ.I wS.heap.size w' (slv m.fa) l)(O:Fr (z0v<|slv m.fa) w w'):MkM τ Mt wS a w' { m with fl:=l }:=by
 have I:=y5b h.k O<|z7m h.f<|l51 Z.i;exact MkM.fall (u:=m.fa) h Z D h1 O (λk I=>.inl I) I<|(l12 [] w').weak sp0
def stM (p:MSt):St:=⟨p.rk,p.B,p.ys,⟨p.tb,y5l p.cr,(z2m p.B p.rk).map Hd.id,y3s p.fa⟩⟩
structure MkW (τ:TyK) (base:Nat) (a:MA) (w:World) (m:MQ):Prop where
  b:BdO τ.S τ.I base w m.q
  y:YsO τ base w a.YV m.ys
  t:TbO τ base w a.TV m.ts
theorem MkM.toW (h:MkM τ Mt wS a w m):MkW τ wS.heap.size a w m:=⟨h.b,h.y,h.t⟩
theorem MkW.ext {base:Nat}(h:MkW τ base a w m)(hf:Fr [] w w'):MkW τ base a w' m:=⟨h.b.ext hf,h.y.ext hf,h.t.ext hf⟩
theorem MkW.off {base g T:Nat}{cs:List Value}(h:MkW τ base a w m)(D:Blk w g T cs)(hT:T≠τ.S/\T≠τ.I/\T≠τ.Y/\T≠τ.P/\T≠τ.T/\T≠τ.L)(hf:Fr [g] w w'):MkW τ base a w' m:=by
 obtain⟨Z,I,h3,O,h5,h6⟩:=hT;exact⟨BdO.tf h.b hf (OffT.one D Z)<|OffT.one D I,h.y.tf hf (OffT.one D h3)<|OffT.one D O,h.t.tf hf (OffT.one D h5) (OffT.one D h6) (OffT.one D I)<|OffT.one D O⟩
def SepH (s:StQ):Prop:=∀k∈z0v (slv s.fb.h),(∀q∈s.q.fs++s.q.bs,k∉z0v (slv q.1))/\(∀t∈s.fb.ts,∀l∈t.2,k∉z0v (slv l.th))/\k∉z0v (slv s.fb.f)
structure StO (τ:TyK) (Tc base:Nat) (w:World) (s:StQ):Prop where
  b:BdO τ.S τ.I base w s.q
  y:YsO τ base w (slv s.yv) s.ys
  t:TbO τ base w (slv s.fb.t) s.fb.ts
  c:Lw.Own z6f Tc base w (slv s.fb.c) s.fb.cs
  h:Lw.Own z1h τ.I base w (slv s.fb.h) s.fb.hs
  f:Lw.Own z1h τ.I base w (slv s.fb.f) s.fb.fs
  sp:SepH s
theorem StO.ext {D base:Nat}{s:StQ}(h:StO τ D base w s)(hf:Fr [] w w'):StO τ D base w' s:=⟨h.b.ext hf,h.y.ext hf,h.t.ext hf,h.c.ext hf,h.h.ext hf,h.f.ext hf,h.sp⟩
theorem StO.off {O base g T:Nat}{cs:List Value}{s:StQ}(h:StO τ O base w s)(D:Blk w g T cs)(hT:T≠τ.S/\T≠τ.I/\T≠τ.Y/\T≠τ.P/\T≠τ.T/\T≠τ.L/\T≠O)(hf:Fr [g] w w'):StO τ O base w' s:=by
 obtain⟨h1,I,h3,Z,h5,h6,h7⟩:=hT;exact⟨BdO.tf h.b hf (OffT.one D h1)<|OffT.one D I,h.y.tf hf (OffT.one D h3)<|OffT.one D Z,h.t.tf hf (OffT.one D h5) (OffT.one D h6) (OffT.one D I)<|OffT.one D Z,z2d h.c hf<|OffT.one D h7,z2d h.h hf<|OffT.one D I,z2d h.f hf<|OffT.one D I,h.sp⟩
theorem StO.low {I base b':Nat}{s:StQ}(h:StO τ I base w s)(hb:b'<=base):StO τ I b' w s:=
 ⟨⟨⟨h.b.f.1.low hb,λq D=>(h.b.f.2 q D).low hb⟩,⟨h.b.b.1.low hb,λq D=>(h.b.b.2 q D).low hb⟩⟩,⟨h.y.out.low hb,λi hi=>(h.y.ins i hi).low hb⟩,⟨h.t.out.low hb,λi hi=>(h.t.ins i hi).low hb,h.t.off,λi hi q D=>⟨(h.t.lps i hi q D).1.low hb,(h.t.lps i hi q D).2.low hb⟩⟩,h.c.low hb,h.h.low hb,h.f.low hb,h.sp⟩
theorem StO.at {I base:Nat}{s:StQ}(h:StO τ I base w s):StAt w s:=by
 refine⟨h.b.at,h.y.out.sl,λi=>?_,⟨h.t.out.sl,λp O=>?_,h.c.sl,h.h.sl,h.f.sl⟩⟩;by_cases hi:i<s.ys.length;exact(h.y.ins i hi).sl;rw[List.getD,l32 oo];exact Sl.nil w;obtain⟨i,hi,rfl⟩:=l29 O;have e:s.fb.ts.getD i tq0=s.fb.ts[i]:=by rw[List.getD,l10 hi];rfl
 rw[<-e];exact⟨(h.t.ins i hi).sl,λq D=>⟨(h.t.lps i hi q D).1.sl,(h.t.lps i hi q D).2.sl⟩⟩
end
end Go.G08
namespace Go.G08
open Go.Lw Go.G21
structure PlaceV (T:Tb) (H F:List LId):Prop where
  has:∀i∈H++F,z5t T i
  asc:∀i,0<i->i<F.length->z6q (F.getD (i-1) id0) (F.getD i id0)<0
  once:∀y,y<6->∀n,n<z3k T y->(H++F++y2f T).count ⟨(y:Int)+1,(n:Int)⟩=1
  le:∀i,(H++F++y2f T).count i<=1
structure PlaceW (T:Tb) (H F:List LId):Prop where
  has:∀i∈H++F,z5t T i
  asc:∀i,0<i->i<F.length->z6q (F.getD (i-1) id0) (F.getD i id0)<0
  le:∀i,(H++F++y2f T).count i<=1
theorem PlaceV.w {T:Tb}{H F:List LId}(h:PlaceV T H F):PlaceW T H F:=⟨h.has,h.asc,h.le⟩
open Classical in
noncomputable def u8y (T:Tb)(H F:List LId):Int:=if ∃y,y<6/\∃n,n<z3k T y/\(H++F++y2f T).count ⟨(y:Int)+1,(n:Int)⟩≠1 then 6 else 0
theorem v8a {T:Tb}{H F:List LId}(h:∀y,y<6->∀n,n<z3k T y->(H++F++y2f T).count ⟨(y:Int)+1,(n:Int)⟩=1):u8y T H F=0:=if_neg λ⟨y,hy,n,hn,e⟩=>e<|h y hy n hn
theorem j7e {T:Tb}{H F:List LId}{y n:Nat}(D:y<6)(hn:n<z3k T y)(h:(H++F++y2f T).count ⟨(y:Int)+1,(n:Int)⟩≠1):u8y T H F=6:=if_pos ⟨y,D,n,hn,h⟩
structure CrsV (T:Tb) (l:List Cx):Prop where
  has:∀i,i<l.length->z5t T (l.getD i cx0).a/\z5t T (l.getD i cx0).b/\z6q (l.getD i cx0).a (l.getD i cx0).b<0/\(-1048576<=(l.getD i cx0).n/\(l.getD i cx0).n<=1048576)/\(l.getD i cx0).n≠0
  asc:∀i,0<i->i<l.length->x4e (l.getD (i-1) cx0) (l.getD i cx0)<0
theorem u5r {a b:LId}(h:¬z6q b a<0)(D:a≠b):z6q a b<0:=by
 have I:=mt y8c.1 D;rw[z8f]at h ⊢;have O:¬(a.y=b.y/\a.n=b.n):=by
  rintro⟨e1,e2⟩;obtain⟨_,_⟩:=a;obtain⟨_,_⟩:=b;simp only at e1 e2;subst e1;subst e2;exact D U
 omega
theorem j1j {a b:Cx}(h:¬x4e b a<0)(D:(a.a,a.b)≠(b.a,b.b)):x4e a b<0:=by
 rw[y1y]at h ⊢;have I:¬((a.a.y=b.a.y/\a.a.n=b.a.n)/\(a.b.y=b.b.y/\a.b.n=b.b.n)):=by
  obtain⟨⟨_,_⟩,⟨_,_⟩,_⟩:=a;obtain⟨⟨_,_⟩,⟨_,_⟩,_⟩:=b;rintro⟨⟨e1,e2⟩,e3,e4⟩;simp only at e1 e2 e3 e4;subst e1;subst e2;subst e3;subst e4;exact D U
 omega
theorem x6t {α:Type}{R:α->α->Prop}{l:List α}(d:α)(h:l.Pairwise R){i:Nat}(D:0<i)(hi:i<l.length):R (l.getD (i-1) d) (l.getD i d):=by
 have:=l83.1 h (i-1) i oo hi oo;rwa [List.getD,l10 oo,List.getD,l10 hi]
theorem u6u {l:List LId}(hn:l.Nodup):(y3s l).Pairwise λa b=>z6q a b<0:=by
 have D:(y3s l).Pairwise (·≠·):=(z4n l).nodup_iff.2 hn;exact((v3k l).and D).imp λh=>u5r h.1 h.2
theorem u9c {l:List Cx}(hn:(l.map λc=>(c.a,c.b)).Nodup):(y5l l).Pairwise λa b=>x4e a b<0:=by
 have D:((y5l l).map λc=>(c.a,c.b)).Nodup:=((z4i l).map _).nodup_iff.2 hn;exact((x1c l).and<|List.pairwise_map.1 D).imp λh=>j1j h.1 h.2
theorem MVal.le {p:MSt}(h:MVal p)(i:LId):(p.B.flat++p.fa++y2f p.tb).count i<=1:=by
 by_cases k:z5t p.tb i;exact Nat.le_of_eq<|h.once i k;obtain⟨rk,D⟩:=h.tab;rw[l74.2];omega;intro hi;rcases l23.1 hi with z|z
 rcases l23.1 z with z|z
 exact k<|h.inv.has i z;exact k<|h.fa i z;exact k<|v3t D z
theorem MVal.nodupF {p:MSt}(h:MVal p):p.fa.Nodup:=l85.2 λi=>by
 have:=h.le i
 rw[l21,l21]at this
 omega
theorem MVal.tabV {p:MSt}(h:MVal p):TabV p.tb:=by
 obtain⟨rk,D⟩:=h.tab;refine⟨⟨h.inv.lt,h.inv.all,D.rts,rk,D.rkd⟩,λi=>?_⟩;have:=h.le i;rw[l21]at this;omega
theorem MVal.cntHF {p:MSt}(i:LId):(((z2m p.B p.rk).map Hd.id)++y3s p.fa++y2f p.tb).count i=(p.B.flat++p.fa++y2f p.tb).count i:=by
 simp only[l21];rw[(z7w p.B p.rk).count_eq,(z4n p.fa).count_eq]
theorem MVal.place {p:MSt}(h:MVal p):PlaceV p.tb ((z2m p.B p.rk).map Hd.id) (y3s p.fa):=by
 refine⟨λi hi=>?_,λi D hi=>x6t id0 (u6u h.nodupF) D hi,λy O n I=>?_,λi=>?_⟩;rcases l23.1 hi with k|k
 exact h.inv.has i<|(z7w p.B p.rk).mem_iff.1 k;exact h.fa i<|(z4n p.fa).mem_iff.1 k;rw[MVal.cntHF];exact h.once _<|y1a (by rw[h.inv.lt];exact O) I;rw[MVal.cntHF];exact h.le i
theorem MVal.crs {p:MSt}(h:MVal p):CrsV p.tb (y5l p.cr):=
 ⟨λi hi=>h.cr.has _<|(z4i p.cr).mem_iff.1<|z1b hi,λi D hi=>x6t cx0 (u9c h.cr.nd) D hi⟩
end Go.G08
namespace Go.Proofs.YtkafbfjmcigaiaaGreatDoor
open Go.Lw Go.G21 Go.G08 _root_.Go.Proofs.Tryz
theorem u7n:z4f prog 122 5:=⟨λ_=>kr,λ_=>kr⟩
theorem j2s:ElemOf prog 31 122 z6f 40:=ElemOf.mk' (z:=(.agg #[.int .u8 0,.int .i64 0,.int .u8 0,.int .i64 0,.int .i64 0])) underlying31 kr U
theorem y8o:z1e prog 122 0 0:=λ_ _=>kr
theorem y6o:z1e prog 122 1 2:=λ_ _=>kr
theorem x2b:z1e prog 122 2 4:=λ_ _=>kr
theorem k7m:z1s prog 122 5:=λ_=>kr
theorem j0e (w:World):(zeroValue 122).run prog w=.ok (.agg #[(.int .u8 0),(.int .i64 0),(.int .u8 0),(.int .i64 0),(.int .i64 0)]) w:=kr
theorem u9y (x y:Cx):orZ [z6q x.a y.a,z6q x.b y.b]=x4e x y:=by
 unfold orZ orZ orZ x4e
 repeat' split
 all_goals first|rfl|omega
theorem u9m (x y:Cx)(w0:World):Rets prog 140 #[cvv x,cvv y] w0 λr w'=>r=.int .i64 (x4e x y)/\Fr [] w0 w':=by
 refine wf func140 U<|sr<|bx U<|λg2 w1 a3 O q1 z1=>(bx U<|λg3 w2 a4 Z q2 z2=>(asg U<|nn<|sq ?_));intro a h;refine rgh none (Fr []) ?_;intro w3 q3 hC;have O:=O.ext<|q2.n1 q3;have Z:=Z.ext q3;have D:=O;have I:=Z;refine z0c 0 h U y8o U λa h=>z1f (vs:=[_,_]) 1 h U (fx D.ext) z2y U U λa h=>z0c 2 h U y8o U λa h=>z1f (vs:=[_,_]) 3 h U (fx I.ext) z2y U U λa h=>z0c 5 h U y6o U λa h=>z1f (vs:=[_,_]) 6 h U (fx D.ext) z2y U U λa h=>z0c 7 h U y6o U λa h=>z1f (vs:=[_,_]) 8 h U (fx I.ext) z2y U U λa h=>z0d 4 U<|z0n h (z0a U<|z0a U z0f) k5m (y3n x.a y.a _) ?_;rintro _ w4 ⟨rfl,q4⟩ a h;have hC:=hC.next q4;refine z0b<|z0d 9 U<|z0n h (z0a U<|z0a U z0f) k5m (y3n x.b y.b _) ?_;rintro _ w5 ⟨rfl,q5⟩ a h;have O:=O.ext<|q4.n1 q5;have Z:=Z.ext<|q4.n1 q5;have hC:=hC.next q5;refine z0b<|z0d 10 U<|z2p ([z6q x.a y.a,z6q x.b y.b]) h (z0a U<|z0a U z0f) U y1e λa1 w6 hg a2 q6 hz a h=>?_;have a0:g2<a1:=by have:=O.lt;omega
 have a0:g3<a1:=by have:=Z.lt;omega
 have hC:=hC.next q6;refine z0b<|z0d 11 U<|z0n h (z0a U z0f) cO (k2w _ [z6q x.a y.a,z6q x.b y.b] _ a2.sl sp0) ?_;rintro _ w7 ⟨rfl,q7⟩ a h;have hC:=hC.next q7;refine z0b<|z0d 12 U<|z0o h U λa h=>?_;refine z0b<|z0q ?_;clear hC D I;refine xB (ll1 4) h U<|tn<|rt<|r1 U ?_;exact⟨_,rfl,congrArg (Value.int .i64)<|u9y x y,(q1.n6 q2 q3 q4 q5 q6 q7)⟩
theorem v6m (q:FbQ)(w0:World)(Z:FbAt w0 q)(h6:q.ts.length=6)(hv:CrsV (z2o q.ts) q.cs):Rets prog 102 #[fvv q] w0 λr w'=>r=.int .i64 0/\Fr [] w0 w':=by
 have c9:=Z.len;have b9:=y1v q.ts;have hM:=Z.c.len_le;unfold maxLen at hM;refine wf func102 U ?_;have a5:=Z;refine sr<|bx U<|λg1 w1 b7 O q1 z1=>(asg U<|nn<|sq<|sr<|fad U v5c<|z0i U O U k8t<|lnS U<|mv U<|nn<|bl<|lpK (ι:=Nat) (ll3 1 6 7) (λi=>[(8,.int .i64 (i:Int))]) (λi w'=>Fr [] w1 w'/\i<=q.cs.length) (λi=>q.cs.length-i) 0 U ⟨l12 _ _,l16 _⟩ ?_);rintro i w2 ⟨q2,hi⟩;have z2:=q2.size;refine kpC (ll4 1 6 7 8) U<|sr<|lt' U<|nn<|sq<|cd U (λc0=>?_)<|λc0=>?_;have a2:=hv.has i oo;have a8:=a2.1;have a9:=a2.2.1;have b3:=a8.1;have b4:=a8.2.1;have b5:=a9.1;have b6:=a9.2.1;have b0:=hv.asc i;refine sk<|tn<|sq<|bl<|sr<|mv U ?_;have Z:=a5.ext<|q1.n1 q2;refine z1a (cx0) U Z.c U j2s z1j<|λb1 a6=>?_;refine z1q U (a6 _ Z.c) u7n<|al j0e U<|λg4 w3 b8 I q3 z3=>?_;refine asg U<|z0j (vs:=[_,_,_,_,_]) U I k7m (λw4 I q4 z4=>?_) (h1:=(by first|(simp[Value.oneCell',S];done)|exact z6f.one _));refine nn<|sq<|sq<|u0i (r:=34) (L':=ll6 1 3 4 6 7 8) ((((¬z5t (z2o q.ts) (q.cs.getD i cx0).a)\/(¬z5t (z2o q.ts) (q.cs.getD i cx0).b))\/(0<=(z6q (q.cs.getD i cx0).a (q.cs.getD i cx0).b)))) U ?_ ?_;refine fad U y5g ?_;have O:=(O.ext<|q2.n1 q3).fr q4;refine z0i U O U v4f<|fad U y8o<|z1u (vs:=[_,_]) U I z2y U ?_;have Z:=a5.ext<|q1.z3 q2 q3 q4;refine cl (ev2 U) cO (x9e (q.cs.getD i cx0).a _ _ _ Z.t Z.tt oo oo) ?_;rintro _ w5 ⟨rfl,q5⟩;have z5:=q5.size;refine nt' U<|mv U<|gs 19 U (λhh=>absurd hh (by exact λe=>e a2.1))<|λg0=>(gY U<|fad U y5g<|gY U ?_);have O:=O.ext q5;refine z0i U O U v4f<|gY U<|fad U y6o<|gY U ?_;have I:=I.ext q5;refine z1u (vs:=[_,_]) U I z2y U<|gY U ?_;have Z:=a5.ext<|q1.z4 q2 q3 q4 q5;refine cl (ev2 U) cO (x9e (q.cs.getD i cx0).b _ _ _ Z.t Z.tt oo oo) ?_;rintro _ w6 ⟨rfl,q6⟩;have z6:=q6.size;refine gY U<|nt' U<|pkf U<|mv U<|gs 27 U (λhh=>absurd hh (by exact λe=>e a2.2.1))<|λg1=>(gY U<|fad U y8o<|gY U ?_);have I:=I.ext q6;refine z1u (vs:=[_,_]) U I z2y U<|gY U<|fad U y6o<|gY U<|z1u (vs:=[_,_]) U I z2y U<|gY U<|cl (ev2 U) k5m (y3n (q.cs.getD i cx0).a (q.cs.getD i cx0).b _) ?_;rintro _ w7 ⟨rfl,q7⟩;have z7:=q7.size;exact gY U<|ge' U<|pkf U<|y3v U U<|q5.n2 q6 q7;intro w8 q8;have z8:=q8.size;refine tn<|cd U (λc1=>?_)<|λc1=>?_;refine sr<|asg U<|kpL (ll1 2) U<|nn<|rt<|tr<|rb<|tr<|tr<|rb<|tr<|r1 U ?_;exfalso;rcases c1 with (hh|hh)|hh
 exact hh a2.1;exact hh a2.2.1;omega;refine sk<|tn<|sq<|sq<|rbo (r:=47) (L':=ll6 1 3 4 6 7 8) (((((q.cs.getD i cx0).n < -1048576)\/(1048576<(q.cs.getD i cx0).n))\/((q.cs.getD i cx0).n=0))) U ?_ ?_;refine fad U x2b ?_;have I:=I.ext q8;refine z0i U I U na3<|lt' U<|mv U<|gs 38 U (λhh=>absurd hh oo)<|λg2=>(gY U<|fad U x2b<|gY U<|z0i U I U na3<|gY U<|gt' U<|pkf U<|mv U<|gs 43 U (λhh=>absurd hh oo)<|λg3=>?_);exact gY U<|fad U x2b<|gY U<|z0i U I U na3<|gY U<|eq' U<|pkf U<|rbe U<|U;refine tn<|cd U (λc2=>?_)<|λc2=>?_;refine sr<|asg U<|kpL (ll1 2) U<|nn<|rt<|tr<|rb<|tr<|tr<|rb<|tr<|r1 U ?_;exfalso;omega;refine sk<|tn<|sq ?_;have Z:=a5.ext<|q1.z4 q2 q3 q4 q8;have O:=((O.ext<|q2.n1 q3).fr q4).ext q8;intro a h;refine rgh none (Fr []) ?_;intro w9 q9 hC;have z9:=q9.size;have Z:=Z.ext q9;have O:=O.ext q9;have I:=I.ext<|q8.n1 q9;have a4:=Z;have a0:=O;have a1:=I;refine z0e 0 h U λa h=>v6y 1 hC h wn U U λa h=>z0e 2 h U λa h=>gSp (D:=50) h U ?_ ?_;intro g4 h;refine z0c 3 h U v5c U ?_ (hG:=(wy U));intro a h;refine z0m 4 h U (fx a0.ext) U k8t U ?_ (hG:=(wy U));intro a h;refine z0e 5 h U ?_ (hG:=(wy U));intro a h;refine z3a 6 h U t12 U ?_ (hG:=(wy U));intro a h;refine z1d (p:=(i-1)) (cx0) 7 h U Z.c U j2s U ?_ (hG:=(wy U));intro b2 a7 a h;refine z1z 8 h (wy U) U (λ_ hw=>a7 _<|a4.c.ext hw) u7n U λa h=>z0x 9 h U (fx a1.ext) u7n U ?_ (hG:=(wy U));intro a h;refine z0d 10 U<|z5a h U U U U<|z0n h (z0a U<|z0a U z0f) cO (u9m (q.cs.getD (i-1) cx0) (q.cs.getD i cx0) _) ?_;rintro _ d0 ⟨rfl,a3⟩ a h;have d1:=a3.size;have Z:=Z.ext a3;have O:=O.ext a3;have I:=I.ext a3;have hC:=hC.next a3;refine z0b<|j0y 11 hC h (wy U) U U U U λa h=>z0d 12 U<|z4z h U λa h=>?_;refine z0b<|z0q ?_;clear hC a4 a0 a1;refine xB (ll5 1 6 7 8 60) h U<|tn<|cd U (λc3=>?_)<|λc3=>?_;refine sr<|asg U<|nn<|rt<|rb<|tr<|tr<|rb<|tr<|r1 U ?_;exfalso;first|omega|(have:=b0 oo oo;omega)
 exact sk<|bn'<|tn<|rg<|ad6 U<|mv U<|nl<|lpE (i+1) U ⟨(q2.z5 q3 q4 q8 q9 a3),oo⟩ oo;intro g4 h;refine z1n 3 h U U λa h=>z1n 4 h U U λa h=>z1n 5 h U U λa h=>z1n 6 h U U λa h=>z1n 7 h U U λa h=>z1n 8 h U U λa h=>z1n 9 h U U λa h=>z1n 10 h U U λa h=>z1n 11 h U U λa h=>z0d 12 U<|z2x h U λa h=>?_;refine z0b<|z0q ?_;clear hC a4 a0 a1;exact xB (ll5 1 6 7 8 60) h U<|tn<|cf U<|sk<|bn'<|tn<|rg<|ad6 U<|mv U<|nl<|lpE (i+1) U ⟨(q2.z4 q3 q4 q8 q9),oo⟩ oo;obtain rfl:i=q.cs.length:=by omega
 exact ex<|te<|te<|xh<|tn<|sr<|asg U<|nn<|rt<|r1 U ⟨_,rfl,rfl,(q1.n1 q2)⟩
theorem u2m {a b:List LId}{k:Nat}(h:∀i,(a++b).count i<=1)(c:List LId)(D:∃d,a++b=c++d):c.count (b.getD k id0)<=100000:=by
 obtain⟨d,e⟩:=D;have:=h<|b.getD k id0;rw[e,l21]at this;omega
theorem v6o (q:FbQ)(w0:World)(Z:FbAt w0 q)(h6:q.ts.length=6)(hv:TabV (z2o q.ts))(hp:PlaceW (z2o q.ts) q.hs q.fs):Rets prog 103 #[fvv q] w0 λr w'=>r=.int .i64 (u8y (z2o q.ts) q.hs q.fs)/\Fr [] w0 w':=by
 have i2:=Z.len;have i0:=y1v q.ts;have hM:=Z.f.len_le;unfold maxLen at hM;refine wf func103 U ?_;have O:=Z;refine sr<|bx U<|λg1 w1 h4 I q1 z1=>?_;refine asg U<|nn<|sq<|sr<|fad U z8a<|z0i U I U z6k<|fad U x5a<|z0i U I U z6k<|z1r (cs:=[_,_]) (ev2 U) q0y (z0g U<|z0g U z0r) U ?_;refine mv U<|nn<|bl<|lpK (ι:=Nat) (ll2 1 22) (λz=>[(23,.int .i64 (z:Int))]) (λz w'=>Fr [] w1 w'/\z<=2) (λz=>2-z) 0 U ⟨l12 _ _,l16 _⟩ ?_;rintro z w2 ⟨q2,hz⟩;have z2:=q2.size;refine kpC (ll3 1 22 23) U<|sr<|lt' U<|nn<|sq<|cd U (λc0=>?_)<|λc0=>?_;have i1:=z2f<|u5p O z;have e0:=(u5p O z).len_le;unfold maxLen at e0;refine sk<|tn<|sq<|bl<|sr<|j3s U U underlying217 j1w z6k (q1g oo) U<|asg U<|nn<|sr<|mv U<|lnS U<|mv U<|nn<|bl<|lpK (ι:=Nat) (ll5 1 22 23 26 27) (λn=>[(28,.int .i64 (n:Int))]) (λn w'=>Fr [] w2 w'/\n<=(hfl q z).length) (λn=>(hfl q z).length-n) 0 U ⟨l12 _ _,l16 _⟩ ?_;rintro n w3 ⟨q3,hn⟩;have z3:=q3.size;refine kpC (ll6 1 22 23 26 27 28) U<|sr<|lt' U<|nn<|sq<|cd U (λc1=>?_)<|λc1=>?_;refine sk<|tn<|sq<|bl<|sr ?_;have Z:=O.ext<|q1.n2 q2 q3;refine z1a (id0) U (u5p Z z) U z4m z1j<|λf5 d3=>?_;refine z1q U (d3 _<|u5p Z z) z2y<|al z9l U<|λg6 w4 h5 d1 q4 z4=>?_;refine z0j (vs:=[_,_]) U d1 y1b (λw5 d1 q5 z5=>?_) (h1:=t71);refine nn<|sr<|fad U y5g ?_;have I:=(I.ext<|q2.n2 q3 q4).fr q5;refine z0i U I U v4f<|z0l U d1 z2y ?_;have Z:=O.ext<|q1.z4 q2 q3 q4 q5;refine cl (ev2 U) cO (x9e ((hfl q z).getD n id0) _ _ _ Z.t Z.tt oo (by have h:=hp.has _<|k2i z<|z1b (d:=id0) (i:=n) oo;have:=h.1;have:=h.2.1;omega)) ?_;rintro _ w6 ⟨rfl,q6⟩;have z6:=q6.size;refine nt' U<|nn<|cd U (λc2=>?_)<|λc2=>?_;exact sr<|asg U<|kpL (ll1 2) U<|nn<|rt<|rb<|tr<|tr<|rb<|rb<|tr<|tr<|rb<|tr<|r1 U<|absurd (hp.has _<|k2i z<|z1b (d:=id0) (i:=n) oo) (by simpa using c2);exact sk<|bn'<|tn<|rg<|ad6 U<|mv U<|nl<|lpE (n+1) U ⟨(q3.z3 q4 q5 q6),oo⟩ oo;obtain rfl:n=(hfl q z).length:=by omega
 exact ex<|te<|te<|xh<|bn'<|tn<|rg<|ad6 U<|mv U<|nl<|lpE (z+1) U ⟨(q2.n1 q3),oo⟩ oo;obtain rfl:z=2:=by omega
 refine ex<|te<|te<|xh<|tn<|sq<|sr<|fad U x5a ?_;have I:=I.ext q2;refine z0i U I U z6k<|lnS U<|mv U<|nn<|bl<|lpK (ι:=Nat) (ll3 1 40 41) (λi=>[(42,.int .i64 (i:Int))]) (λi w'=>Fr [] w2 w'/\i<=q.fs.length) (λi=>q.fs.length-i) 0 U ⟨l12 _ _,l16 _⟩ ?_;rintro i w7 ⟨q7,hi⟩;have z7:=q7.size;refine kpC (ll4 1 40 41 42) U<|sr<|lt' U<|nn<|sq<|cd U (λc3=>?_)<|λc3=>?_;have f1:=hp.asc i;refine sk<|tn<|sq<|bl<|sr<|mv U ?_;have Z:=O.ext<|q1.n2 q2 q7;refine z1a (id0) U Z.f U z4m z1j<|λf6 d4=>?_;refine z1q U (d4 _ Z.f) z2y<|al z9l U<|λg8 w8 h7 a9 q8 z8=>?_;refine asg U<|z0j (vs:=[_,_]) U a9 y1b (λw9 a9 q9 z9=>?_) (h1:=t71);refine nn<|sq ?_;have Z:=O.ext<|q1.z4 q2 q7 q8 q9;have I:=(I.ext<|q7.n1 q8).fr q9;intro a h;refine rgh none (Fr []) ?_;intro e6 b2 hC;have j4:=b2.size;have Z:=Z.ext b2;have I:=I.ext b2;have a9:=a9.ext b2;have b6:=Z;have a8:=I;have b0:=a9;refine z0e 0 h U λa h=>v6y 1 hC h wn U U λa h=>z0e 2 h U λa h=>gSp (D:=49) h U ?_ ?_;intro g0 h;refine z0c 3 h U x5a U ?_ (hG:=(wy U));intro a h;refine z0m 4 h U (fx a8.ext) U z6k U ?_ (hG:=(wy U));intro a h;refine z0e 5 h U ?_ (hG:=(wy U));intro a h;refine z3a 6 h U t12 U ?_ (hG:=(wy U));intro a h;refine z1d (p:=(i-1)) (id0) 7 h U Z.f U z4m U ?_ (hG:=(wy U));intro f7 d5 a h;refine z1z 8 h (wy U) U (λ_ hw=>d5 _<|b6.f.ext hw) z2y U λa h=>z0x 9 h U (fx b0.ext) z2y U ?_ (hG:=(wy U));intro a h;refine z0d 10 U<|z5a h U U U U<|z0n h (z0a U<|z0a U z0f) k5m (y3n (q.fs.getD (i-1) id0) (q.fs.getD i id0) _) ?_;rintro _ i3 ⟨rfl,b3⟩ a h;have j5:=b3.size;have Z:=Z.ext b3;have I:=I.ext b3;have a9:=a9.ext b3;have hC:=hC.next b3;refine z0b<|j0y 11 hC h (wy U) U U U U λa h=>z0d 12 U<|z4z h U λa h=>?_;refine z0b<|z0q ?_;clear hC b6 a8 b0;refine xB (ll5 1 40 41 42 59) h U<|tn<|cd U (λc4=>?_)<|λc4=>?_;refine sr<|asg U<|nn<|rt<|rb<|tr<|tr<|rb<|tr<|r1 U ?_;exfalso;first|omega|(have:=f1 oo oo;omega)
 exact sk<|bn'<|tn<|rg<|ad6 U<|mv U<|nl<|lpE (i+1) U ⟨(q7.z4 q8 q9 b2 b3),oo⟩ oo;intro g0 h;refine z1n 3 h U U λa h=>z1n 4 h U U λa h=>z1n 5 h U U λa h=>z1n 6 h U U λa h=>z1n 7 h U U λa h=>z1n 8 h U U λa h=>z1n 9 h U U λa h=>z1n 10 h U U λa h=>z1n 11 h U U λa h=>z0d 12 U<|z2x h U λa h=>?_;refine z0b<|z0q ?_;clear hC b6 a8 b0;exact xB (ll5 1 40 41 42 59) h U<|tn<|cf U<|sk<|bn'<|tn<|rg<|ad6 U<|mv U<|nl<|lpE (i+1) U ⟨(q7.z3 q8 q9 b2),oo⟩ oo;obtain rfl:i=q.fs.length:=by omega
 refine ex<|te<|te<|xh<|tn<|sr<|x0k idV (.int .i64 0) U<|λa6 i4 g5 hm a7 j6=>(al q1e U<|λg9 i5 h8 a0 a2 j7=>(z3i U a0 U q0u<|λi7 a0 a3 j8=>(nn<|sr<|z5j z0f (ev1 U)<|asg U<|nn<|sr<|mv U<|fad U z8a ?_)));have I:=(I.ext<|q7.n2 a7 a2).fr a3;refine z0i U I U z6k ?_;have Z:=O.ext<|q1.z5 q2 q7 a7 a2 a3;have hm:=(hm.ext a2).fr a3 t52;refine clv (us:=[]) (ws:=[pta g9]) U (ev1 U) cO (v0l g9 a6 [] _ _ w0 _ O.h oo Z.h a0 hm<|λk hk=>u2m (a:=[]) (b:=q.hs) (λi=>(by have:=hp.le i;simp only[l21,l43]at this ⊢;omega)) _ ⟨q.hs.drop k,sp0⟩) U t14 ?_;rintro g7 i8 ⟨hm,a4⟩;have j9:=a4.size;refine nn<|sr<|mv U<|fad U x5a ?_;have I:=I.fr a4;refine z0i U I U z6k ?_;have Z:=O.ext<|q1.z6 q2 q7 a7 a2 a3 a4;have a0:=a0.fr a4;refine clv (us:=[]) (ws:=[pta g9]) U (ev1 U) cO (v0l g9 a6 ([]++q.hs) _ _ w0 _ O.f oo Z.f a0 hm<|λk hk=>u2m (a:=q.hs) (b:=q.fs) (λi=>(by have:=hp.le i;simp only[l21]at this ⊢;omega)) _ ⟨q.fs.drop k,sp0⟩) U t14 ?_;rintro h0 f3 ⟨hm,a5⟩;have k0:=a5.size;refine nn<|sq<|sr<|fad U y5g ?_;have I:=I.fr a5;refine z0i U I U v4f<|lnS U<|mv U<|nn<|bl<|lpK (ι:=Nat) (ll5 1 9 10 72 73) (λy=>[(74,.int .i64 (y:Int))]) (λy w'=>Fr [a6] f3 w'/\y<=q.ts.length/\MapZ idV w' a6 (.int .i64 0) (x2p<|(q.hs++q.fs)++(y1i (z2o q.ts) y 0))) (λy=>q.ts.length-y) 0 U ⟨l12 _ _,⟨l16 _,by rw[u0t,l24];exact hm⟩⟩ ?_;rintro y e7 ⟨a1,⟨hy,hm⟩⟩;have k1:=a1.size;refine kpC (ll6 1 9 10 72 73 74) U<|sr<|lt' U<|nn<|sq<|cd U (λc5=>?_)<|λc5=>?_;have f2:=z7p O.tt y;have d0:=(O.tt _<|z1b (d:=tq0) (i:=y) oo).1.len_le;unfold maxLen at d0;refine sk<|tn<|sq<|bl<|sr ?_;have Z:=O.ext<|((q1.z6 q2 q7 a7 a2 a3 a4).z1 a5).z1 a1;refine z1a (tq0) U Z.t U x3c z1j<|λf8 d6=>?_;refine z1c U (d6 _ Z.t) y2x<|asg U<|nn<|sr<|mv U<|lnS U<|mv U<|nn<|bl<|lpK (ι:=Nat) (ll8 1 9 10 72 73 74 78 79) (λn=>[(80,.int .i64 (n:Int))]) (λn w'=>Fr [a6] e7 w'/\n<=(q.ts.getD y tq0).2.length/\MapZ idV w' a6 (.int .i64 0) (x2p<|(q.hs++q.fs)++(y1i (z2o q.ts) y n))) (λn=>(q.ts.getD y tq0).2.length-n) 0 U ⟨l12 _ _,⟨l16 _,hm⟩⟩ ?_;rintro n i9 ⟨b4,⟨hn,hm⟩⟩;have k2:=b4.size;refine kpC (ll9 1 9 10 72 73 74 78 79 80) U<|sr<|lt' U<|nn<|sq<|cd U (λc6=>?_)<|λc6=>?_;have h9:=z2f (z9t O.tt (y:=y) (n:=n) oo oo).1;have f0:∀k,k<((q.ts.getD y tq0).2.getD n lq0).ths.length->(((q.hs++q.fs)++y1i (z2o q.ts) y n)++((q.ts.getD y tq0).2.getD n lq0).ths.take k).count (((q.ts.getD y tq0).2.getD n lq0).ths.getD k id0)<=100000:=λk hk=>by
  have e8:=v2n (k:=k) hv.thr (y:=y) (n:=n) oo oo hk;have e9:=hp.le<|((q.ts.getD y tq0).2.getD n lq0).ths.getD k id0;rw[l21]at e9;rw[l21,l21];rw[l21,l21,l96,if_pos sp0]at e8;omega
 refine sk<|tn<|sq<|bl<|sr ?_;have Z:=O.ext<|(((q1.z6 q2 q7 a7 a2 a3 a4).z1 a5).z1 a1).z1 b4;refine z1a (lq0) U (Z.tt _<|z1b (d:=tq0) (i:=y) oo).1 U y7n z1j<|λf9 d7=>?_;refine z1q U (d7 _ (Z.tt _<|z1b (d:=tq0) (i:=y) oo).1) x5s<|al v0e U<|λh3 j0 g4 b7 b8 k4=>?_;refine z0j (vs:=[_,_,_,_]) U b7 v5p (λj1 b7 b9 k5=>?_) (h1:=t71);refine nn<|rg<|mv U<|fad U z8c<|z0i U b7 U z6k ?_;have Z:=O.ext<|(((q1.z6 q2 q7 a7 a2 a3 a4).z1 a5).z1 a1).z3 b4 b8 b9;have a0:=((((a0.fr a5).fr a1).fr b4).ext b8).fr b9;have hm:=(hm.ext b8).fr b9 t52;refine clv (us:=[]) (ws:=[pta g9]) U (ev1 U) cO (v0l g9 a6 ((q.hs++q.fs)++y1i (z2o q.ts) y n) _ _ w0 _ (z9t O.tt (y:=y) (n:=n) oo oo).1 oo (z9t Z.tt (y:=y) (n:=n) oo oo).1 a0 hm<|λk hk=>f0 k hk) U t14 ?_;rintro h2 j2 ⟨hm,e5⟩;have k6:=e5.size;exact nl<|bn'<|tn<|rg<|ad6 U<|mv U<|nl<|lpE (n+1) U ⟨((l12 [a6] _).z4 b4 b8 b9 e5),⟨oo,by rw[x0j oo,<-l14];exact hm⟩⟩ oo;obtain rfl:n=(q.ts.getD y tq0).2.length:=by omega
 exact ex<|te<|te<|xh<|bn'<|tn<|rg<|ad6 U<|mv U<|nl<|lpE (y+1) U ⟨((l12 [a6] _).z2 a1 b4),⟨oo,by rw[x0d oo];exact hm⟩⟩ oo;obtain rfl:y=q.ts.length:=by omega
 rw[u6e (by rw[y1v];omega)]at hm;refine ex<|te<|te<|xh<|tn<|sq<|sr<|fad U y5g ?_;have I:=I.fr a1;refine z0i U I U v4f<|lnS U<|mv U<|kpL (ll4 9 91 92 93) U<|nn<|bl<|lpK (ι:=Nat) (ll3 9 91 92) (λy=>[(93,.int .i64 (y:Int))]) (λy w'=>Fr [] e7 w'/\y<=q.ts.length/\∀y',y'<y->∀n,n<z3k (z2o q.ts) y'->(q.hs++q.fs++y2f (z2o q.ts)).count ⟨(y':Int)+1,(n:Int)⟩=1) (λy=>q.ts.length-y) 0 U ⟨l12 _ _,⟨l16 _,λk h=>absurd h oo⟩⟩ ?_;rintro y f4 ⟨b1,⟨hy,e4⟩⟩;have k7:=b1.size;refine kpC (ll4 9 91 92 93) U<|sr<|lt' U<|nn<|sq<|cd U (λc7=>?_)<|λc7=>?_;have f2:=z7p O.tt y;have d0:=(O.tt _<|z1b (d:=tq0) (i:=y) oo).1.len_le;unfold maxLen at d0;refine sk<|tn<|sq<|bl<|sr<|mv U ?_;have Z:=O.ext<|(((q1.z6 q2 q7 a7 a2 a3 a4).z1 a5).z1 a1).n1 b1;refine z1a (tq0) U Z.t U x3c z1j<|λg3 d9=>?_;refine z1c U (d9 _ Z.t) y2x<|asg U<|asg U<|nn<|sr<|mv U<|lnS U<|mv U<|nn<|bl<|lpK (ι:=Nat) (ll6 9 15 91 92 93 99) (λn=>[(100,.int .i64 (n:Int))]) (λn w'=>Fr [] f4 w'/\n<=(q.ts.getD y tq0).2.length/\∀n',n'<n->(q.hs++q.fs++y2f (z2o q.ts)).count ⟨(y:Int)+1,(n':Int)⟩=1) (λn=>(q.ts.getD y tq0).2.length-n) 0 U ⟨l12 _ _,⟨l16 _,λk h=>absurd h oo⟩⟩ ?_;rintro n j3 ⟨b5,⟨hn,e3⟩⟩;have k8:=b5.size;refine kpC (ll7 9 15 91 92 93 99 100) U<|sr<|lt' U<|nn<|sq<|cd U (λc8=>?_)<|λc8=>?_;refine sk<|tn<|sq<|bl<|sr<|mv U<|asg U<|nn<|sr ?_;have a0:=((a0.fr a5).fr a1).ext<|b1.n1 b5;refine z2a U a0 k7d<|mv U<|ad6 U<|z4c U (us underlying3) underlying5 (wi8 oo)<|mv U<|z1r (cs:=[_,_]) (ev2 U) q1l (z0g U<|z0g U z0r) U ?_;have hm:=hm.ext<|b1.n1 b5;refine y7x (V:=idV) (z:=(.int .i64 0)) (k:=(⟨(y:Int)+1,(n:Int)⟩:LId)) (v:=.int .i64 (((((q.hs++q.fs)++y2f (z2o q.ts))).count (⟨(y:Int)+1,(n:Int)⟩:LId):Nat):Int)) U U hm z7c underlying218 zvI U U<|ne' U<|kpL (ll8 9 15 91 92 93 99 100 110) U<|nn<|cd U (λc9=>?_)<|λc9=>?_;exact sr<|asg U<|kpL (ll1 2) U<|nn<|rt<|rb<|tr<|tr<|rb<|rb<|tr<|tr<|rb<|tr<|r1 U ⟨_,rfl,by rw[j7e (y:=y) (n:=n) oo (by rw[z4g];omega) oo],((((q1.z6 q2 q7 a7 a2 a3 a4).z1 a5).z1 a1).n2 b1 b5)⟩;refine sk<|bn'<|tn<|rg<|ad6 U<|mv U<|nl ?_;exact lpE (n+1) U ⟨b5,⟨oo,λk h=>by
  by_cases e:k=n;subst e;omega;exact e3 k oo⟩⟩ oo
 obtain rfl:n=(q.ts.getD y tq0).2.length:=by omega
 refine ex<|te<|te<|xh<|bn'<|tn<|rg<|ad6 U<|mv U<|nl ?_;exact lpE (y+1) U ⟨(b1.n1 b5),⟨oo,λk h=>by
  by_cases e:k=y;subst e;exact λn h=>e3 n (by rw[z4g]at h;omega);exact e4 k oo⟩⟩ oo
 obtain rfl:y=q.ts.length:=by omega
 exact ex<|te<|te<|xh<|tn<|sr<|asg U<|nn<|rt<|r1 U ⟨_,rfl,by rw[v8a λy hy n hn=>e4 y oo n hn],((((q1.z6 q2 q7 a7 a2 a3 a4).z1 a5).z1 a1).n1 b1)⟩
theorem u6x (q:FbQ)(w0:World)(I:FbAt w0 q)(h6:q.ts.length=6)(hv:TabV (z2o q.ts))(hc:CrsV (z2o q.ts) q.cs)(hp:PlaceW (z2o q.ts) q.hs q.fs):Rets prog 48 #[fvv q] w0 λr w'=>r=.int .i64 (u8y (z2o q.ts) q.hs q.fs)/\Fr [] w0 w':=by
 refine wf func48 U ?_;have O:=I;refine sr<|bx U<|λg1 w1 a0 D q1 z1=>(asg U<|nn<|sq<|sr<|fad U y5g<|z0i U D U v4f ?_);have I:=O.ext q1;refine cl (ev1 U) cO (k0n _ _ _ I.t I.tt h6 hv) ?_;rintro _ w2 ⟨rfl,Z⟩;have z2:=Z.size;refine asg U<|nn<|sr<|mv U<|ne' U<|nn<|cd U (λc0=>?_)<|λc0=>?_;exact sr<|mv U<|asg U<|nn<|rt<|tr<|r1 U<|absurd U t13;refine sk<|tn<|sq<|sr ?_;have D:=D.ext Z;refine z0l U D j2j ?_;have I:=O.ext<|q1.n1 Z;refine cl (ev1 U) cO (v6m q _ I h6 hc) ?_;rintro _ w3 ⟨rfl,q3⟩;have z3:=q3.size;refine asg U<|nn<|sr<|mv U<|ne' U<|nn<|cd U (λc1=>?_)<|λc1=>?_;exact sr<|mv U<|asg U<|nn<|rt<|tr<|r1 U<|absurd U t13;refine sk<|tn<|sr ?_;have D:=D.ext q3;refine z0l U D j2j ?_;have I:=O.ext<|q1.n2 Z q3;refine cl (ev1 U) cO (v6o q _ I h6 hv hp) ?_;rintro _ w4 ⟨rfl,q4⟩;have z4:=q4.size;exact asg U<|nn<|rt<|r1 U ⟨_,rfl,rfl,(q1.n3 Z q3 q4)⟩
theorem u9j (q:FbQ)(w0:World)(I:FbAt w0 q)(D:q.ts.length=6)(Z:TabV (z2o q.ts))(O:CrsV (z2o q.ts) q.cs)(hp:PlaceV (z2o q.ts) q.hs q.fs):Rets prog 48 #[fvv q] w0 λr w'=>r=.int .i64 0/\Fr [] w0 w':=by
 have x:=u6x q w0 I D Z O hp.w;rw[v8a hp.once]at x;exact x
theorem u0h (v:Value)(l:List Pa)(w0:World)(I:Sl z2k w0 v l)(hl:l.length<=100000):Rets prog 105 #[v] w0 λr w'=>∃g,r=.slice (saa g) l.length l.length/\w0.heap.size<=g/\Lw.Own z2k 172 w0.heap.size w' r l/\Fr [] w0 w':=by
 obtain⟨A,c,rfl,a0,hM,hA⟩:=id I;clear hA;unfold maxLen at hM;refine wf func105 U ?_;have O:=I;refine sr<|asg U<|nn<|sr<|mv U<|lnS U<|z1g (m:=l.length) (c:=l.length) (pa0) U z5g x3t U<|λg6 w1 a1 D Z z1=>(asg U<|nn<|sr<|mv U<|mv U ?_);have I:=O.ext Z;refine z9p (zs:=List.replicate l.length pa0) t35 U (by rw[l22];exact D) I t36 z5g<|λw2 D q2 z2=>?_;rw[l22]at D;exact nn<|sr<|mv U<|asg U<|nn<|rt<|r1 U ⟨_,rfl,g6,rfl,oo,D.low oo,(Z.z1 q2)⟩
theorem u0x (v:Value)(l:List LpQ)(w0:World)(I:Sl z7t w0 v l)(hl:l.length<=100000):Rets prog 67 #[v] w0 λr w'=>∃g,r=.slice (saa g) l.length l.length/\w0.heap.size<=g/\Lw.Own z7t 131 w0.heap.size w' r l/\Fr [] w0 w':=by
 obtain⟨A,c,rfl,a0,hM,hA⟩:=id I;clear hA;unfold maxLen at hM;refine wf func67 U ?_;have O:=I;refine sr<|asg U<|nn<|sr<|mv U<|lnS U<|z1g (m:=l.length) (c:=l.length) (lq0) U y7n v0e U<|λg6 w1 a1 D Z z1=>(asg U<|nn<|sr<|mv U<|mv U ?_);have I:=O.ext Z;refine z9p (zs:=List.replicate l.length lq0) t35 U (by rw[l22];exact D) I t36 y7n<|λw2 D q2 z2=>?_;rw[l22]at D;exact nn<|sr<|mv U<|asg U<|nn<|rt<|r1 U ⟨_,rfl,g6,rfl,oo,D.low oo,(Z.z1 q2)⟩
theorem u2e (v:Value)(l:List Cx)(w0:World)(I:Sl z6f w0 v l)(hl:l.length<=100000000):Rets prog 69 #[v] w0 λr w'=>∃g,r=.slice (saa g) l.length l.length/\w0.heap.size<=g/\Lw.Own z6f 122 w0.heap.size w' r l/\Fr [] w0 w':=by
 obtain⟨A,c,rfl,a0,hM,hA⟩:=id I;clear hA;unfold maxLen at hM;refine wf func69 U ?_;have O:=I;refine sr<|asg U<|nn<|sr<|mv U<|lnS U<|z1g (m:=l.length) (c:=l.length) (cx0) U j2s j0e U<|λg6 w1 a1 D Z z1=>(asg U<|nn<|sr<|mv U<|mv U ?_);have I:=O.ext Z;refine z9p (zs:=List.replicate l.length cx0) t35 U (by rw[l22];exact D) I t36 j2s<|λw2 D q2 z2=>?_;rw[l22]at D;exact nn<|sr<|mv U<|asg U<|nn<|rt<|r1 U ⟨_,rfl,g6,rfl,oo,D.low oo,(Z.z1 q2)⟩
theorem k0h (v:Value)(l:List YQ)(w0:World)(I:Sl z3w w0 v l)(hl:l.length<=100000):Rets prog 104 #[v] w0 λr w'=>∃g,r=.slice (saa g) l.length l.length/\w0.heap.size<=g/\Lw.Own z3w 110 w0.heap.size w' r l/\Fr [] w0 w':=by
 obtain⟨A,c,rfl,a0,hM,hA⟩:=id I;clear hA;unfold maxLen at hM;refine wf func104 U ?_;have O:=I;refine sr<|asg U<|nn<|sr<|mv U<|lnS U<|z1g (m:=l.length) (c:=l.length) (yq0) U y6n z6w U<|λg6 w1 a1 D Z z1=>(asg U<|nn<|sr<|mv U<|mv U ?_);have I:=O.ext Z;refine z9p (zs:=List.replicate l.length yq0) t35 U (by rw[l22];exact D) I t36 y6n<|λw2 D q2 z2=>?_;rw[l22]at D;exact nn<|sr<|mv U<|asg U<|nn<|rt<|r1 U ⟨_,rfl,g6,rfl,oo,D.low oo,(Z.z1 q2)⟩
theorem j4e {I qs:List IQ}{n:Nat}(hn:n<=qs.length)(D:(plB qs).take n=z1x (plB qs))(hl:I.length=n)(h:∀j,j<n->(I.getD j iq0).2=(qs.getD j iq0).2):plB I=z1x (plB qs):=by
 rw[<-D];refine l71 (by simp[hl,hn]) λj O h2=>?_;have Z:j<n:=by simpa[hl] using O
 have:=h j Z;rw[List.getD,List.getD,l10 oo,l10 oo]at this;simpa[plB] using this
theorem y7b (v:Value)(qs:List IQ)(w0:World)(hs:Sl z7a w0 v qs)(hk:IqAt w0 qs)(hl:qs.length<=40)(h4:z9v qs):Rets prog 51 #[v] w0 λr w'=>(∃fs,RwO 32 54 w0.heap.size w' r fs/\plB fs=z1x (plB qs)/\∃g,r=.slice (saa g) fs.length fs.length)/\Fr [] w0 w':=by
 obtain⟨A,c,rfl,b3,hM,hA⟩:=id hs;clear hA;unfold maxLen at hM;refine wf func51 U ?_;have a7:=hs;have a5:=hk;refine sr<|asg U<|nn<|sr<|mv U<|lnS U<|asg U<|nn<|sq<|bl<|lpK (ι:=Nat) (ll1 0) (λn=>[(3,.int .i64 (n:Int))]) (λn w'=>Fr [] w0 w'/\n<=qs.length/\∀j,n<=j->(qs.getD j iq0).2=[]) (λn=>n) qs.length U ⟨l12 _ _,⟨l20 _,λj hj=>x7c hj⟩⟩ ?_;rintro n w1 ⟨q1,⟨hn,a4⟩⟩;have z1:=q1.size;refine kpC (ll2 0 3) U ?_;have a6:=z2f<|z1y a5<|n-1;refine sq<|sq<|rbo (r:=18) (L':=ll2 0 3) (((0<(n:Int))/\(((qs.getD (n-1) iq0).1.2.1:Int)=0))) U ?_ ?_;refine mv U<|gt' U<|mv U<|gs 10 U (λg0=>?_)<|λg0=>?_;refine gY U<|mv U<|gY U<|mv U<|gY U<|z2i U (wi6 oo)<|gY U ?_;have hs:=a7.ext q1;refine z1a (p:=n-1) (iq0) U hs U y4d oo<|λa9 a2=>?_;exact gY U<|z1c U (a2 _ hs) z6k<|gY U<|lnS U<|gY U<|eq' U<|pkt U<|rbe U<|U;exact gN U<|gN U<|gN U<|gN U<|gN U<|gN U<|gN U<|pkf U<|rbe U<|U;refine tn<|cd U (λc0=>?_)<|λc0=>?_;refine sk<|tn<|bl<|rg<|mv U<|z2i U (wi6 oo)<|asg U<|nl<|bn' ?_;exact lpE (n-1) (.c2 U<|congrArg (λz=>some<|Value.int .i64 z) (show (n:Int)-1=((n-1:Nat):Int) by omega)) ⟨q1,⟨oo,λj hj=>by
  by_cases e:n<=j;exact a4 j e;obtain rfl:j=n-1:=by omega
  exact l82 oo⟩⟩ oo
 have a8:=y4p (plB qs) n (by rw[l18];exact hn) (λj hj=>by rw[z3q];exact a4 j hj) (by
  by_cases e:n=0;exact .inl e;refine .inr λh=>c0 ⟨oo,?_⟩;rw[z3q]at h;rw[h]at a6;rw[a6];rfl)
 refine ex<|te<|te<|xh<|tn<|sr<|mv U<|z1g (m:=n) (c:=n) (iq0) U y4d k8r U<|λI w2 b1 Z q2 z2=>(asg U<|nn<|sq<|sr<|mv U<|mv U<|nn<|bl<|lpK (ι:=Nat×List IQ) (ll3 0 4 23) (λp=>[(24,.int .i64 (p.1:Int))]) (λp w'=>Fr [I] w2 w'/\p.1<=n/\p.2.length=n/\Lw.Own z7a 32 w0.heap.size w' (.slice (saa I) n n) p.2/\(∀j,j<p.1->(p.2.getD j iq0).2=(qs.getD j iq0).2)/\PreO 54 (I+1) w' p.2 p.1) (λp=>n-p.1) (0,List.replicate n iq0) U ⟨l12 _ _,⟨l16 _,sp0,Z.low oo,λj hj=>absurd hj sp0,PreO.zero⟩⟩ ?_);rintro⟨i,ps⟩ w3 ⟨q3,⟨hi,D,Z,a0,O⟩⟩;simp only at hi Z a0 O D;have z3:=q3.size;refine kpC [(0,_),(4,_),(23,_),(24,.int .i64 (i:Int))] U<|sr<|lt' U<|nn<|sq<|cd U (λc1=>?_)<|λc1=>?_;refine sk<|tn<|sq<|bl<|sr<|mv U<|asg U<|nn<|rg<|mv U<|mv U<|mv U<|mv U ?_;have hs:=a7.ext<|q1.z2 q2 q3;refine z1a (iq0) U hs U y4d z1j<|λb0 a3=>?_;refine z1c U (a3 _ hs) z6k ?_;have hk:=a5.ext<|q1.z2 q2 q3;refine cl (ev1 U) x6p (z4p _ (qs.getD i iq0).2 _ (z1y hk i) (by have:=z4a h4 i;omega)) ?_;rintro _ w4 ⟨a1,rfl,b2,hX,q4⟩;have z4:=q4.size;have Z:=Z.ext q4;refine z6a (p:=i) (E:=z7a) U y4d<|z3t (i:=i) ((((some ⟨a1,0,none⟩,(qs.getD i iq0).2.length,(qs.getD i iq0).2.length),(qs.getD i iq0).2):IQ)) U Z oo U j1w<|λw5 Z q5 z5=>(kpL (ll4 0 4 23 24) U<|nl<|bn'<|tn<|rg<|ad6 U<|mv U<|nl ?_);have O:=(O.ext q4).fr q5 t38;have hX:=hX.fr q5 t11;exact lpE ((i+1,ps.set i (((some ⟨a1,0,none⟩,(qs.getD i iq0).2.length,(qs.getD i iq0).2.length),(qs.getD i iq0).2):IQ))) U ⟨((l12 [I] _).z3 q3 q4 q5),⟨sm,by simp only[l19];exact D,Z,λj hj=>by
  simp only at hj ⊢;rw[z1k oo];split;rename_i e;subst e;rfl;exact a0 j oo,O.put oo (hX.low oo)⟩⟩ sm
 obtain rfl:i=n:=by omega
 exact ex<|te<|te<|xh<|tn<|sr<|mv U<|asg U<|kpL (ll1 2) U<|nn<|rt<|r1 U ⟨_,rfl,⟨ps,⟨D▸Z,(D.symm▸O).all oo⟩,j4e hn a8 D a0,I,by rw[D]⟩,(q1.z2 q2 q3)⟩
def PreY (base:Nat)(w:World)(ys:List YQ)(i:Nat):Prop:=∀j,j<i->Lw.Own z2k 172 base w (slv (ys.getD j yq0).pe) (ys.getD j yq0).pes
theorem PreY.ext {base i:Nat}{w w':World}{ys:List YQ}(h:PreY base w ys i)(hf:Fr [] w w'):PreY base w' ys i:=λj D=>(h j D).ext hf
theorem PreY.fr {base i:Nat}{w w':World}{ys:List YQ}{S:List Nat}(h:PreY base w ys i)(hf:Fr S w w')(I:∀k∈S,k<base):PreY base w' ys i:=λj D=>(h j D).fr hf λk Z O=>by
 have:=I k Z;have:=((h j D).blk k O).1;omega
theorem PreY.put {base i:Nat}{w:World}{ys:List YQ}{q:YQ}(h:PreY base w ys i)(hi:i<ys.length)(D:Lw.Own z2k 172 base w (slv q.pe) q.pes):PreY base w (ys.set i q) (i+1):=λj I=>by
 rw[z1k hi]
 split
 ·exact D
 exact h j oo
theorem y6u {α:Type}{l:List α}{i:Nat}(d:α)(h:i<l.length):l[i]?=some (l.getD i d):=by rw[List.getD,l10 h];rfl
theorem y5f {α β:Type}{f:α->β}{l:List α}{i:Nat}{x d:α}(h:f x=f (l.getD i d)):(l.set i x).map f=l.map f:=by
 rw[l136];apply l69;intro j;rw[l114];split;rename_i e;subst e;split;rename_i D;rw[l18]at D;rw[l26,l10 D,h,List.getD,l10 D];rfl;rename_i D;rw[l32 oo];rfl
theorem u2c {α:Type}{l m:List α}{i:Nat}{q d:α}(h:∀j,i<=j->l.getD j d=m.getD j d)(hi:i<l.length):∀j,i+1<=j->(l.set i q).getD j d=m.getD j d:=λj D=>by
 rw[z1k hi,if_neg oo];exact h j oo
theorem x2i (v:Value)(ys:List YQ)(w0:World)(hs:Sl z3w w0 v ys)(hp:YsA w0 ys)(hl:ys.length<=1000)(a4:∀i,(ys.getD i yq0).pes.length<=100000):Rets prog 52 #[v] w0 λr w'=>(∃g ps,r=.slice (saa g) ys.length ys.length/\w0.heap.size<=g/\YsO τd w0.heap.size w' r ps/\ps.length=ys.length/\ps.map YQ.p=ys.map YQ.p)/\Fr [] w0 w':=by
 obtain⟨A,c,rfl,a8,hM,hA⟩:=id hs;clear hA;unfold maxLen at hM;refine wf func52 U ?_;have b0:=hs;have a3:=hp;refine sr<|asg U<|nn<|sr<|mv U<|cl (ev1 U) cO (k0h _ ys _ hs oo) ?_;rintro _ w1 ⟨g6,rfl,a9,I,q1⟩;have z1:=q1.size;have a7:=(I.blk g6 t10).2;refine asg U<|nn<|sq<|sr<|mv U<|lnS U<|mv U<|nn<|bl<|lpK (ι:=Nat×List YQ) (ll2 3 8) (λp=>[(9,.int .i64 (p.1:Int))]) (λp w'=>Fr [g6] w1 w'/\p.1<=ys.length/\Lw.Own z3w 110 w0.heap.size w' (.slice (saa g6) ys.length ys.length) p.2/\p.2.length=ys.length/\p.2.map YQ.p=ys.map YQ.p/\(∀j,p.1<=j->p.2.getD j yq0=ys.getD j yq0)/\PreY (g6+1) w' p.2 p.1) (λp=>ys.length-p.1) (0,ys) U ⟨l12 _ _,⟨l16 _,I.low oo,rfl,rfl,λ_ _=>rfl,λj hj=>absurd hj sp0⟩⟩ ?_;rintro⟨i,ps⟩ w2 ⟨q2,⟨hi,I,D,a0,O,Z⟩⟩;simp only at hi I D a0 O Z;have z2:=q2.size;refine kpC [(3,_),(8,_),(9,.int .i64 (i:Int))] U<|sr<|lt' U<|nn<|sq<|cd U (λc0=>?_)<|λc0=>?_;refine sk<|tn<|sq<|bl<|sr<|mv U<|asg U<|nn<|rg<|mv U<|mv U<|mv U<|mv U<|z1a (yq0) U I.sl U y6n z1j<|λa5 a2=>?_;refine fad U z8d<|y2g U (a2 _ I.sl) U y1j U ?_;have hp:=a3.ext<|q1.z1 q2;refine cl (ev1 U) cO (u0h _ (ys.getD i yq0).pes _ (by rw[O i (l20 _)];exact hp i)<|a4 i) ?_;rintro _ w3 ⟨a1,rfl,a6,hX,q3⟩;have z3:=q3.size;have I:=I.ext q3;refine z6a (p:=i) (E:=z3w) U y6n<|y8g U z8d U<|u7y (E:=z3w) (i:=i) (f:=4) (ys.getD i yq0) ({ (ys.getD i yq0) with pe:=(some ⟨a1,0,none⟩,(ys.getD i yq0).pes.length,(ys.getD i yq0).pes.length) }:YQ) U U I (by rw[<-O i (l20 _)];exact y6u _ oo) dd U U U k1i<|λw4 I q4 z4=>?_;refine kpL (ll3 3 8 9) U<|nl<|bn'<|tn<|rg<|ad6 U<|mv U<|nl ?_;have Z:=(Z.ext q3).fr q4 t38;have hX:=hX.fr q4 t11;exact lpE ((i+1,ps.set i ({ (ys.getD i yq0) with pe:=(some ⟨a1,0,none⟩,(ys.getD i yq0).pes.length,(ys.getD i yq0).pes.length) }:YQ))) U ⟨((l12 [g6] _).z3 q2 q3 q4),⟨sm,I,by simp only[l19];exact D,(y5f (d:=yq0) (by rw[O i (l20 _)])).trans a0,u2c O oo,Z.put oo (hX.low oo)⟩⟩ sm;obtain rfl:i=ys.length:=by omega
 exact ex<|te<|te<|xh<|tn<|sr<|mv U<|asg U<|nn<|rt<|r1 U ⟨_,rfl,⟨g6,ps,rfl,oo,⟨D▸I,λj hj=>(Z j oo).low oo⟩,D,a0⟩,(q1.z1 q2)⟩
theorem k2g (w:World):(zeroValue 114).run prog w=.ok (.slice none 0 0) w:=kr
def PreT (base:Nat)(w:World)(us:List TQ)(i:Nat):Prop:=(∀j,j<i->Lw.Own z7t 131 base w (slv (us.getD j tq0).1) (us.getD j tq0).2)/\(∀j k,j<i->k<i->j≠k->∀b∈z0v (slv (us.getD j tq0).1),b∉z0v (slv (us.getD k tq0).1))/\∀j,j<i->∀q∈(us.getD j tq0).2,LpO τd base w q
theorem PreT.fr {base i:Nat}{w w':World}{us:List TQ}{S:List Nat}(h:PreT base w us i)(hf:Fr S w w')(Z:∀k∈S,k<base):PreT base w' us i:=by
 have o:∀ {α:Type} {E:Enc α} {T:Nat} {v:Value} {ys:List α},Lw.Own E T base w v ys->Lw.Own E T base w' v ys:=λI=>I.fr hf λk hk hb=>by have:=Z k hk;have:=(I.blk k hb).1;omega
 exact⟨λj D=>o<|h.1 j D,h.2.1,λj D q O=>⟨o (h.2.2 j D q O).1,o (h.2.2 j D q O).2⟩⟩
theorem PreT.put {base i:Nat}{w:World}{us:List TQ}{u:SV}{O:List LpQ}(h:PreT base w us i)(hi:i<us.length)(ho:Lw.Own z7t 131 base w (slv u) O)(hq:∀q∈O,LpO τd base w q)(hn:∀j,j<i->∀b∈z0v (slv (us.getD j tq0).1),b∉z0v (slv u)):PreT base w (us.set i (u,O)) (i+1):=by
 refine⟨λj Z=>?_,λj k Z hk I=>?_,λj Z=>?_⟩;rw[z1k hi];split;exact ho;exact h.1 j oo;rw[z1k hi,z1k hi];split;rw[if_neg oo];exact λb hb D=>hn k oo b D hb;split;exact hn j oo;exact h.2.1 j k oo oo I;rw[z1k hi];split;exact hq;exact h.2.2 j oo
def PreL (base:Nat)(w:World)(rs:List LpQ)(i:Nat):Prop:=∀j,j<i->LpO τd base w (rs.getD j lq0)
theorem PreL.fr {base i:Nat}{w w':World}{O:List LpQ}{S:List Nat}(h:PreL base w O i)(hf:Fr S w w')(Z:∀k∈S,k<base):PreL base w' O i:=λj I=>by
 have o:∀ {α:Type} {E:Enc α} {T:Nat} {v:Value} {ys:List α},Lw.Own E T base w v ys->Lw.Own E T base w' v ys:=λD=>D.fr hf λk hk hb=>by have:=Z k hk;have:=(D.blk k hb).1;omega
 exact⟨o (h j I).1,o (h j I).2⟩
theorem PreL.put {base i:Nat}{w:World}{D:List LpQ}{x y:LpQ}(h:PreL base w D i)(hi:i<D.length)(I:LpO τd base w y):PreL base w ((D.set i x).set i y) (i+1):=λj O=>by
 rw[List.set_set,z1k hi]
 split
 ·exact I
 exact h j oo
theorem k3n {base i:Nat}{w:World}{v:Value}{us:List TQ}{u:SV}{r r':List LpQ}(h:Lw.Own z5e 114 base w v (us.set i (u,r))):Lw.Own z5e 114 base w v (us.set i (u,r')):=by
 have e:∀x:List LpQ,(us.set i (u,x)).flatMap z5e.enc=(us.set i (u,r)).flatMap z5e.enc:=λx=>by
  rw[List.flatMap_def,List.flatMap_def,l136,l136];rfl
 rcases h with ⟨D,I⟩|⟨g,cap,cur,D,I,O,Z,h5,h6,h7⟩
 refine .inl ⟨D,?_⟩;have:=congrArg List.length I;simp only[l19,l52]at this;exact l116.1 (by rw[l19];exact this);refine .inr ⟨g,cap,cur,by rw[D];simp,I,O,by simpa using Z,h5,h6,?_⟩;rw[e r',<-h7];simp
theorem j5k {us ts:List TQ}{i:Nat}{x:TQ}(h:∀j,j<i->(us.getD j tq0).2.map LpQ.p=(ts.getD j tq0).2.map LpQ.p)(hi:i<us.length)(D:x.2.map LpQ.p=(ts.getD i tq0).2.map LpQ.p):∀j,j<i+1->((us.set i x).getD j tq0).2.map LpQ.p=(ts.getD j tq0).2.map LpQ.p:=λj I=>by
 rw[z1k hi]
 split
 ·rename_i e;subst e;exact D
 exact h j oo
theorem y7i {us ts:List TQ}(hl:us.length=ts.length)(h:∀j,j<ts.length->(us.getD j tq0).2.map LpQ.p=(ts.getD j tq0).2.map LpQ.p):z2o us=z2o ts:=by
 refine l71 (by simp[hl]) λj O I=>?_;have D:j<ts.length:=by simpa using I
 have:=h j D;rw[List.getD,List.getD,l10 oo,l10 D]at this;simpa using this
theorem PreT.tbo {b base:Nat}{w:World}{v:Value}{us:List TQ}(ho:Lw.Own z5e 114 b w v us)(h:PreT base w us us.length)(hb:b<=base):TbO τd b w v us:=
 ⟨ho,λi hi=>(h.1 i hi).low hb,λi j hi I D=>h.2.1 i j hi I D,λi hi q O=>(h.2.2 i hi q O).low hb⟩
theorem y7h (v:Value)(ts:List TQ)(w0:World)(hs:Sl z5e w0 v ts)(D:TabAt w0 ts)(hl:ts.length<=1000)(b9:∀p∈ts,p.2.length<=100000/\∀q∈p.2,q.ths.length<=100000/\q.pas.length<=100000):Rets prog 53 #[v] w0 λr w'=>(∃g us,r=.slice (saa g) ts.length ts.length/\w0.heap.size<=g/\TbO τd w0.heap.size w' r us/\us.length=ts.length/\z2o us=z2o ts)/\Fr [] w0 w':=by
 obtain⟨A,c,rfl,g6,hM,hA⟩:=id hs;clear hA;unfold maxLen at hM;refine wf func53 U ?_;have f4:=hs;have b3:=D;refine sr<|asg U<|nn<|sr<|mv U<|lnS U<|z1g (m:=ts.length) (c:=ts.length) (tq0) U x3c k2g U<|λa3 w1 f9 Z q1 z1=>?_;have f1:=(Z.blk a3 t10).2;refine asg U<|nn<|sq<|sr<|mv U<|lnS U<|mv U<|nn<|bl<|lpK (ι:=Nat×List TQ) (ll3 3 11 12) (λp=>[(13,.int .i64 (p.1:Int))]) (λp w'=>Fr [a3] w1 w'/\p.1<=ts.length/\p.2.length=ts.length/\Lw.Own z5e 114 w0.heap.size w' (.slice (saa a3) ts.length ts.length) p.2/\(∀j,j<p.1->(p.2.getD j tq0).2.map LpQ.p=(ts.getD j tq0).2.map LpQ.p)/\PreT (a3+1) w' p.2 p.1) (λp=>ts.length-p.1) (0,List.replicate ts.length tq0) U ⟨l12 _ _,⟨l16 _,sp0,Z.low oo,λj hj=>absurd hj sp0,⟨λj hj=>absurd hj sp0,λj k hj=>absurd hj sp0,λj hj=>absurd hj sp0⟩⟩⟩ ?_;rintro⟨i,us⟩ w2 ⟨q2,⟨hi,a9,Z,d5,a8⟩⟩;simp only at hi a9 Z d5 a8;have z2:=q2.size;have e7:=a8;refine kpC [(3,_),(11,_),(12,_),(13,.int .i64 (i:Int))] U ?_;have e8:∀j,j<i->∀b∈z0v (slv (us.getD j tq0).1),b<w2.heap.size:=λj hj b hb=>((a8.1 j hj).blk b hb).2;refine sr<|lt' U<|nn<|sq<|cd U (λc0=>?_)<|λc0=>?_;have g4:=z2f (b3 _<|z1b (d:=tq0) (i:=i) oo).1;have g9:=(b9 _<|z1b (d:=tq0) (i:=i) oo).1;refine sk<|tn<|sq<|bl<|sr<|mv U ?_;have hs:=f4.ext<|q1.z1 q2;refine z1a (tq0) U hs U x3c z1j<|λf5 e0=>?_;refine z1c U (e0 _ hs) y2x<|asg U<|asg U<|nn<|sr<|mv U<|mv U<|mv U ?_;have D:=b3.ext<|q1.z1 q2;refine cl (ev1 U) cO (u0x _ (ts.getD i tq0).2 _ (D _<|z1b (d:=tq0) (i:=i) oo).1 (b9 _<|z1b (d:=tq0) (i:=i) oo).1) ?_;rintro _ w3 ⟨a0,rfl,g0,hR,q3⟩;have z3:=q3.size;have f2:=(hR.blk a0 t10).2;have Z:=Z.ext q3;refine z6a (p:=i) (E:=z5e) U x3c<|z3t (i:=i) (((((some ⟨a0,0,none⟩,(ts.getD i tq0).2.length,(ts.getD i tq0).2.length):SV),(ts.getD i tq0).2):TQ)) U Z oo U k0j<|λw4 Z q4 z4=>?_;obtain⟨b6,c9⟩:∃u,u=us.set i (((some ⟨a0,0,none⟩,(ts.getD i tq0).2.length,(ts.getD i tq0).2.length):SV),(ts.getD i tq0).2):=⟨_,rfl⟩;rw[<-c9]at Z;have d6:b6.getD i tq0=(((some ⟨a0,0,none⟩,(ts.getD i tq0).2.length,(ts.getD i tq0).2.length):SV),(ts.getD i tq0).2):=by rw[c9,z1k oo,if_pos U]
 have d0:(b6.getD i tq0).1.1=some ⟨a0,0,none⟩:=by rw[d6]
 have d1:(b6.getD i tq0).1.2.1=(ts.getD i tq0).2.length:=by rw[d6]
 have d3:(b6.getD i tq0).1.2.2=(ts.getD i tq0).2.length:=by rw[d6]
 have g5:b6.length=ts.length:=by rw[c9,l19];exact a9
 refine nn<|sr<|mv U<|lnS U<|mv U<|nn<|bl ?_;have hR:=hR.fr q4 t11;refine lpK (ι:=Nat×List LpQ) (ll7 3 4 11 12 13 23 24) (λp=>[(25,.int .i64 (p.1:Int))]) (λp w'=>Fr [a0] w4 w'/\p.1<=(ts.getD i tq0).2.length/\p.2.length=(ts.getD i tq0).2.length/\Lw.Own z7t 131 (a3+1) w' (.slice (saa a0) (ts.getD i tq0).2.length (ts.getD i tq0).2.length) p.2/\p.2.map LpQ.p=(ts.getD i tq0).2.map LpQ.p/\(∀j,p.1<=j->p.2.getD j lq0=(ts.getD i tq0).2.getD j lq0)/\PreL (a0+1) w' p.2 p.1) (λp=>(ts.getD i tq0).2.length-p.1) (0,(ts.getD i tq0).2) U ⟨l12 _ _,⟨l16 _,rfl,hR.low oo,rfl,λ_ _=>rfl,λj hj=>absurd hj sp0⟩⟩ ?_;rintro⟨O,rs⟩ w5 ⟨q5,⟨hj,b8,hR,d4,b7,b5⟩⟩;simp only at hj b8 hR d4 b7 b5;have z5:=q5.size;have e6:=b5;refine kpC [(3,_),(4,_),(11,_),(12,_),(13,_),(23,_),(24,_),(25,.int .i64 (O:Int))] U<|sr<|lt' U<|nn<|sq<|cd U (λc1=>?_)<|λc1=>?_;refine sk<|tn<|sq<|bl<|sr<|mv U ?_;have D:=b3.ext<|q1.z4 q2 q3 q4 q5;refine z1a (lq0) U (D _<|z1b (d:=tq0) (i:=i) oo).1 U y7n z1j<|λf6 e3=>?_;refine z1q U (e3 _ (D _<|z1b (d:=tq0) (i:=i) oo).1) x5s<|al v0e U<|λg7 w6 g8 I q6 z6=>?_;refine asg U<|z0j (vs:=[_,_,_,_]) U I v5p (λw7 I q7 z7=>?_) (h1:=(by first|(simp[Value.oneCell',S];done)|exact z5e.one<|ts.getD i tq0));refine nn<|sq ?_;have D:=b3.ext<|q1.z6 q2 q3 q4 q5 q6 q7;have Z:=((Z.fr q5 t11).ext q6).fr q7 t11;have hR:=(hR.ext q6).fr q7 t11;intro a h;refine rgh (some 10) (Fr []) ?_;intro w8 q8 hC;have z8:=q8.size;have D:=D.ext q8;have Z:=Z.ext q8;have hR:=hR.ext q8;have I:=I.ext q8;have b4:=D;have a4:=Z;have b2:=hR;have a1:=I;refine z0e 0 h U λa h=>z0e 1 h U λa h=>z1d (p:=i) (tq0) 2 h U Z.sl U x3c U λf7 e4 a h=>z2h 3 h U (λ_ hw=>e4 _<|(a4.ext hw).sl) y2x U λa h=>?_;rw[d0,d1,d3]at h;refine z0e 4 h U λa h=>z0c 5 h U z8c U λa h=>z0m 6 h U (fx a1.ext) U z6k U λa h=>z0d 7 U<|z0n h (z0a U z0f) x6p (z4p _ ((ts.getD i tq0).2.getD O lq0).ths _ ((D _<|z1b (d:=tq0) (i:=i) oo).2 _<|z1b oo).1 ((b9 _<|z1b (d:=tq0) (i:=i) oo).2 _<|z1b oo).1) ?_;rintro _ w9 ⟨b0,rfl,g1,hX,q9⟩ a h;have z9:=q9.size;have D:=D.ext q9;have Z:=Z.ext q9;have hR:=hR.ext q9;have I:=I.ext q9;have hC:=hC.next q9;refine z0b<|z1l 8 kr hC (p:=O) h wn U y7n oo oo oo U U λa h=>z4r 9 h U z8c U λa h=>z0d 10 U<|y8s (E:=z7t) (i:=O) (f:=2) (((ts.getD i tq0).2.getD O lq0)) ({ ((ts.getD i tq0).2.getD O lq0) with th:=(some ⟨b0,0,none⟩,((ts.getD i tq0).2.getD O lq0).ths.length,((ts.getD i tq0).2.getD O lq0).ths.length) }:LpQ) h U U hR (by rw[<-b7 O (l20 _)];exact y6u _ oo) dd U U U j1w λh0 b1 a6 _hz a h=>?_;have h4:=a6.size;have Z:=Z.fr a6 t11;have I:=I.fr a6;have hX:=hX.fr a6 t11;have hR:=b1;clear b1;refine z1m<|z0q ?_;clear hC b4 a4 b2 a1;refine xB (ll10 3 4 6 7 11 12 13 23 24 25) h U<|tn ?_;have D:=b3.ext<|(((q1.z6 q2 q3 q4 q5 q6 q7).n1 q8).n1 q9).z1 a6;intro a h;refine rgh (some 10) (Fr []) ?_;intro e9 a5 hC;have h5:=a5.size;have D:=D.ext a5;have Z:=Z.ext a5;have hR:=hR.ext a5;have I:=I.ext a5;have hX:=hX.ext a5;have b4:=D;have a4:=Z;have b2:=hR;have a1:=I;have d9:=hX;refine z0e 0 h U λa h=>z0e 1 h U λa h=>z1d (p:=i) (tq0) 2 h U Z.sl U x3c U λf8 e5 a h=>z2h 3 h U (λ_ hw=>e5 _<|(a4.ext hw).sl) y2x U λa h=>?_;rw[d0,d1,d3]at h;refine z0e 4 h U λa h=>z0c 5 h U y0c U λa h=>z0m 6 h U (fx a1.ext) U y1j U λa h=>z0d 7 U<|z0n h (z0a U z0f) cO (u0h _ ((ts.getD i tq0).2.getD O lq0).pas _ ((D _<|z1b (d:=tq0) (i:=i) oo).2 _<|z1b oo).2 ((b9 _<|z1b (d:=tq0) (i:=i) oo).2 _<|z1b oo).2) ?_;rintro _ h2 ⟨d7,rfl,g3,hY,a2⟩ a h;have h6:=a2.size;have D:=D.ext a2;have Z:=Z.ext a2;have hR:=hR.ext a2;have I:=I.ext a2;have hX:=hX.ext a2;have hC:=hC.next a2;refine z0b<|z1l 8 kr hC (p:=O) h wn U y7n oo oo oo U U λa h=>z4r 9 h U y0c U λa h=>z0d 10 U<|y8s (E:=z7t) (i:=O) (f:=3) (({ ((ts.getD i tq0).2.getD O lq0) with th:=(some ⟨b0,0,none⟩,((ts.getD i tq0).2.getD O lq0).ths.length,((ts.getD i tq0).2.getD O lq0).ths.length) }:LpQ)) ({ ((ts.getD i tq0).2.getD O lq0) with th:=(some ⟨b0,0,none⟩,((ts.getD i tq0).2.getD O lq0).ths.length,((ts.getD i tq0).2.getD O lq0).ths.length),pa:=(some ⟨d7,0,none⟩,((ts.getD i tq0).2.getD O lq0).pas.length,((ts.getD i tq0).2.getD O lq0).pas.length) }:LpQ) h U U hR (by rw[y6u lq0 t34,z1k oo,if_pos U]) dd U U U k1i λh3 b1 a7 _hz a h=>?_;have h7:=a7.size;have Z:=Z.fr a7 t11;have I:=I.fr a7;have hX:=hX.fr a7 t11;have hY:=hY.fr a7 t11;have hR:=b1;clear b1;refine z1m<|z0q ?_;clear hC b4 a4 b2 a1 d9;refine xB (ll8 3 4 11 12 13 23 24 25) h U<|bn'<|tn<|rg<|ad6 U<|mv U<|nl ?_;have b5:=e6.fr ((((l12 [a0] _).z6 q6 q7 q8 q9 a6 a5).n1 a2).z1 a7) t38;exact lpE ((O+1,(rs.set O ({ ((ts.getD i tq0).2.getD O lq0) with th:=(some ⟨b0,0,none⟩,((ts.getD i tq0).2.getD O lq0).ths.length,((ts.getD i tq0).2.getD O lq0).ths.length) }:LpQ)).set O ({ ((ts.getD i tq0).2.getD O lq0) with th:=(some ⟨b0,0,none⟩,((ts.getD i tq0).2.getD O lq0).ths.length,((ts.getD i tq0).2.getD O lq0).ths.length),pa:=(some ⟨d7,0,none⟩,((ts.getD i tq0).2.getD O lq0).pas.length,((ts.getD i tq0).2.getD O lq0).pas.length) }:LpQ))) U ⟨((((l12 [a0] _).z6 q5 q6 q7 q8 q9 a6).n1 a5).z2 a2 a7),⟨sm,by simp only[l19];exact b8,hR,by rw[List.set_set];exact(y5f (d:=lq0) (by rw[b7 O (l20 _)])).trans d4,λj f3=>by
  simp only at f3 ⊢;rw[List.set_set,z1k oo,if_neg oo];exact b7 j oo,b5.put oo ⟨hX.low oo,hY.low oo⟩⟩⟩ sm
 obtain rfl:O=(ts.getD i tq0).2.length:=by omega
 refine ex<|te<|te<|xh<|bn'<|tn<|rg<|ad6 U<|mv U<|kpL (ll4 3 11 12 13) U<|nl ?_;have a8:=e7.fr ((l12 [a3] _).z3 q3 q4 q5) t38;have Z:=Z.fr q5 t11;exact lpE ((i+1,us.set i (((some ⟨a0,0,none⟩,(ts.getD i tq0).2.length,(ts.getD i tq0).2.length):SV),rs))) U ⟨((l12 [a3] _).z4 q2 q3 q4 q5),⟨sm,by simp only[l19];exact a9,k3n (c9▸Z),j5k d5 oo d4,a8.put oo (by rw[show slv ((some ⟨a0,0,none⟩,(ts.getD i tq0).2.length,(ts.getD i tq0).2.length):SV)=(.slice (saa a0) rs.length rs.length) by rw[b8];rfl];exact(b8.symm▸hR).low oo) (λq hq=>by
  obtain⟨j,hj,rfl⟩:=l29 hq;have:=b5 j oo;rw[List.getD,l10 hj]at this;exact this.low oo) (λj hj b hb f0=>by have:=e8 j hj b hb;simp[z0v,slv]at f0;omega)⟩⟩ sm
 obtain rfl:i=ts.length:=by omega
 exact ex<|te<|te<|xh<|tn<|sr<|mv U<|asg U<|kpL (ll1 2) U<|nn<|rt<|r1 U ⟨_,rfl,⟨a3,us,rfl,oo,PreT.tbo Z (a9.symm▸a8) oo,a9,y7i a9 d5⟩,(q1.z1 q2)⟩
theorem v6q:BuildAt prog 120 [(0,1),(1,2),(3,1),(4,1),(5,1),(6,1)] [(.int .i64 0),(.slice none 0 0),(.slice none 0 0),(.slice none 0 0),(.slice none 0 0),(.map none),(.slice none 0 0)]:=BuildAt.struct underlying120 (λ_=>kr)<|λ_=>kr
theorem k1v:CallOf prog 51:=cO
theorem k4l:CallOf prog 53:=cO
theorem y2s:z1e prog 36 0 0:=λ_ _=>kr
theorem z7f:z1e prog 36 1 1:=λ_ _=>kr
theorem v2k:z1e prog 36 2 3:=λ_ _=>kr
theorem z6b:z1e prog 36 3 4:=λ_ _=>kr
structure StSz (s:StQ):Prop where
  bf:s.q.fs.length<=40
  bb:s.q.bs.length<=40
  f4:z9v s.q.fs
  b4:z9v s.q.bs
  ly:s.ys.length=6
  lt:s.fb.ts.length=6
  pe:∀i,(s.ys.getD i yq0).pes.length<=100000
  tb:∀p∈s.fb.ts,p.2.length<=100000/\∀q∈p.2,q.ths.length<=100000/\q.pas.length<=100000
  fl:s.fb.fs.length<=100000
  cs:s.fb.cs.length<=100000000
  hs:s.fb.hs.length<=100000
theorem y4v {τ:TyK}{b base:Nat}{w:World}{v:Value}{ys:List YQ}(h:YsO τ base w v ys)(hb:b<=base):YsO τ b w v ys:=⟨h.out.low hb,λi hi=>(h.ins i hi).low hb⟩
theorem y3z {τ:TyK}{b base:Nat}{w:World}{v:Value}{ts:List TQ}(h:TbO τ base w v ts)(hb:b<=base):TbO τ b w v ts:=⟨h.out.low hb,λi hi=>(h.ins i hi).low hb,h.off,λi hi q D=>⟨(h.lps i hi q D).1.low hb,(h.lps i hi q D).2.low hb⟩⟩
theorem u2h (s:StQ)(w0:World)(I:StAt w0 s)(D:StSz s)(g7:(s.fb.cs.map cxK).Nodup):Rets prog 20 #[svv s] w0 λr w'=>∃ka m,r=(pta ka.gk)/\MkM τd 120 w0 ka w' m/\m.p=(⟨s.rk,⟨z1x<|plB s.q.fs,z1x<|plB s.q.bs⟩,s.ys.map YQ.p,z2o s.fb.ts,s.fb.cs,s.fb.fs⟩:MSt):=by
 have i1:=z2f I.f.c;have i2:=D.cs;refine wf func20 U ?_;have f4:=I;refine sr<|bx U<|λg1 w1 i3 O q1 z1=>(asg U<|nn<|jn (ι:=MA) (ll1 1) (λka=>[(3,pta ka.gk)]) (λka w'=>Fr [] w1 w'/\∃m:MQ,MkM τd 120 w0 ka w' m/\m.p=(⟨s.rk,⟨z1x<|plB s.q.fs,z1x<|plB s.q.bs⟩,s.ys.map YQ.p,z2o s.fb.ts,[],s.fb.fs⟩:MSt)) U ?_ ?_);have I:=f4.ext q1;intro a h;refine rgh none (Fr []) ?_;intro w2 q2 hC;have z2:=q2.size;have I:=I.ext q2;have O:=O.ext q2;have c1:=I;have a1:=O;refine z0c 0 h U y2s U λa h=>z0m 1 h U (fx a1.ext) U na3 U λa h=>z0c 2 h U z7f U λa h=>z4r 3 h U y5d U λa h=>z0m 4 h U (fx a1.ext) U x4d U λa h=>z0c 6 h U z7f U λa h=>z4r 7 h U y1o U λa h=>z0m 8 h U (fx a1.ext) U x4d U λa h=>z0c 11 h U v2k U λa h=>z0m 12 h U (fx a1.ext) U y6d U λa h=>z0c 14 h U z6b U λa h=>z4r 15 h U y5g U λa h=>z0m 16 h U (fx a1.ext) U v4f U λa h=>z0c 18 h U z6b U λa h=>z4r 19 h U v5c U λa h=>z0m 20 h U (fx a1.ext) U k8t U λa h=>z8b 21 hC h wn U underlying31 U λa h=>z0c 23 h U z6b U λa h=>z4r 24 h U x5a U λa h=>z0m 25 h U (fx a1.ext) U z6k U λa h=>z1v 5 22 kr U ?_ ?_;refine z0n h (z0a U z0f) k1v (y7b _ s.q.fs _ I.b.f I.b.fi D.bf D.f4) ?_;rintro _ w3 ⟨⟨f3,a0,e0,gF,rfl⟩,q3⟩ a h;have z3:=q3.size;have I:=I.ext q3;have O:=O.ext q3;have hC:=hC.next q3;have d9:∀x∈f3,∀k∈z0v (slv x.1),k<w3.heap.size:=λx hx k hk=>((a0.2 x hx).blk k hk).2;refine z0b<|z1v 9 22 kr U ?_ ?_;refine z0n h (z0a U z0f) k1v (y7b _ s.q.bs _ I.b.b I.b.bi D.bb D.b4) ?_;rintro _ w4 ⟨⟨e5,Z,d6,gB,rfl⟩,q4⟩ a h;have z4:=q4.size;have I:=I.ext q4;have O:=O.ext q4;have a0:=a0.ext q4;have hC:=hC.next q4;have d5:∀x∈e5,∀k∈z0v (slv x.1),k<w4.heap.size:=λx hx k hk=>((Z.2 x hx).blk k hk).2;refine z0b<|z3j (cs:=[_,_]) 10 h (z0a U<|z0a U z0f) k1u (z0g U<|z0g U z0r) U U λa h=>z1v 13 22 kr U ?_ ?_;refine z0n h (z0a U z0f) cO (x2i _ s.ys _ I.y I.ya (by have:=D.ly;omega) D.pe) ?_;rintro _ w5 ⟨⟨gy,ps,rfl,f5,hY,d0,d1⟩,q5⟩ a h;have z5:=q5.size;have I:=I.ext q5;have O:=O.ext q5;have a0:=a0.ext q5;have Z:=Z.ext q5;have hC:=hC.next q5;refine z0b<|z1v 17 22 kr U ?_ ?_;refine z0n h (z0a U z0f) k4l (y7h _ s.fb.ts _ I.f.t I.f.tt (by have:=D.lt;omega) D.tb) ?_;rintro _ w6 ⟨⟨gt,us,rfl,f0,hT,a9,a8⟩,q6⟩ a h;have z6:=q6.size;have I:=I.ext q6;have O:=O.ext q6;have a0:=a0.ext q6;have Z:=Z.ext q6;have hY:=hY.ext q6;have hC:=hC.next q6;have a7:∀i,i<us.length->∀q∈(us.getD i tq0).2,∀k∈z0v (slv q.th),k<w6.heap.size:=λi hi q hq k hk=>((hT.lps i hi q hq).1.blk k hk).2;refine z0b<|z1v 22 26 kr U ?_ ?_;refine z5f (K:=123) (E:=3) crK h U underlying118 U λgm w7 e8 a4 q7 _hz a h=>?_;have z7:=q7.size;have I:=I.ext q7;have hC:=hC.next q7;clear _hz;refine z0b<|z0d 26 U<|z0n h (z0a U z0f) x6p (z4p _ s.fb.fs _ I.f.f D.fl) ?_;rintro _ w8 ⟨gf,rfl,e7,a5,q8⟩ a h;have z8:=q8.size;have O:=O.ext<|q7.n1 q8;have hC:=hC.next q8;refine z0b<|z3j (cs:=[_,_,_,_,_,_,_]) 27 h (z0a U<|z0a U<|z0a U<|z0a U<|z0a U<|z0a U z0f) v6q (z0g U<|z0g U<|z0g U<|z0g U<|z0g U<|z0g U z0r) U U λa h=>z0d 28 U ?_;refine y7d h U U U λw9 a3 q9 hz a h=>?_;obtain⟨a2,hg⟩:∃g,g=w8.heap.size:=⟨_,rfl⟩;rw[<-hg]at a3 h hz;have a6:g1<a2:=by have:=O.lt;omega
 have z9:=q9.size;have a0:=a0.ext<|q7.n2 q8 q9;have Z:=Z.ext<|q7.n2 q8 q9;have hY:=hY.ext<|q7.n2 q8 q9;have hT:=hT.ext<|q7.n2 q8 q9;have a4:=a4.ext<|q8.n1 q9;have a5:=a5.ext q9;have hC:=hC.next q9;refine z0b<|z0d 29 U<|z0o h U λa h=>?_;refine z0b<|z0q ?_;clear hC c1 a1;exact xB (ll2 1 3) h U<|jE ((⟨a2,gy,6,gt,6,gm,_⟩:MA)) U ⟨((q2.n6 q3 q4 q5 q6 q7 q8).n1 q9),(x0h a3 (a0.low oo) (Z.low oo) (y4v hY oo) d0 d1 (y3z hT oo) a9 a8 a4 (a5.low oo) D.ly D.lt (((q1.n6 q2 q3 q4 q5 q6 q7).n1 q8).n1 q9) oo oo (λx hx hb=>by rcases l23.1 hx with k|k;have:=d9 x k _ hb;omega;have:=d5 x k _ hb;omega) (λi hi q hq hb=>by have:=a7 i (by have:=D.lt;omega) q hq _ hb;omega) e0 d6)⟩;refine z0n h (z0a U z0f) x6p (z4p _ s.fb.fs _ I.f.f D.fl) ?_;rintro _ i7 ⟨gf,rfl,e7,a5,d3⟩ a h;have k6:=d3.size;have hC:=hC.next d3;refine z0b<|z0d 22 U<|z5f (K:=123) (E:=3) crK h U underlying118 U λgm g8 e8 a4 b0 _hz a h=>?_;have k7:=b0.size;have O:=O.ext<|d3.n1 b0;have hC:=hC.next b0;clear _hz;refine z0b<|z3j (cs:=[_,_,_,_,_,_,_]) 27 h (z0a U<|z0a U<|z0a U<|z0a U<|z0a U<|z0a U z0f) v6q (z0g U<|z0g U<|z0g U<|z0g U<|z0g U<|z0g U z0r) U U λa h=>z0d 28 U ?_;refine y7d h U U U λi8 a3 b1 hz a h=>?_;obtain⟨a2,hg⟩:∃g,g=g8.heap.size:=⟨_,rfl⟩;rw[<-hg]at a3 h hz;have a6:g1<a2:=by have:=O.lt;omega
 have k8:=b1.size;have a0:=a0.ext<|d3.n2 b0 b1;have Z:=Z.ext<|d3.n2 b0 b1;have hY:=hY.ext<|d3.n2 b0 b1;have hT:=hT.ext<|d3.n2 b0 b1;have a5:=a5.ext<|b0.n1 b1;have a4:=a4.ext b1;have hC:=hC.next b1;refine z0b<|z0d 29 U<|z0o h U λa h=>?_;refine z0b<|z0q ?_;clear hC c1 a1;exact xB (ll2 1 3) h U<|jE ((⟨a2,gy,6,gt,6,gm,_⟩:MA)) U ⟨((q2.n6 q3 q4 q5 q6 d3 b0).n1 b1),(x0h a3 (a0.low oo) (Z.low oo) (y4v hY oo) d0 d1 (y3z hT oo) a9 a8 a4 (a5.low oo) D.ly D.lt (((q1.n6 q2 q3 q4 q5 q6 d3).n1 b0).n1 b1) oo oo (λx hx hb=>by rcases l23.1 hx with k|k;have:=d9 x k _ hb;omega;have:=d5 x k _ hb;omega) (λi hi q hq hb=>by have:=a7 i (by have:=D.lt;omega) q hq _ hb;omega) e0 d6)⟩;refine z5f (K:=123) (E:=3) crK h U underlying118 U λgm i9 e8 a4 d4 _hz a h=>?_;have k9:=d4.size;have I:=I.ext d4;have hC:=hC.next d4;clear _hz;refine z0b<|z0d 17 U<|z0n h (z0a U z0f) k4l (y7h _ s.fb.ts _ I.f.t I.f.tt (by have:=D.lt;omega) D.tb) ?_;rintro _ g9 ⟨⟨gt,us,rfl,f0,hT,a9,a8⟩,q14⟩ a h;have l0:=q14.size;have I:=I.ext q14;have hC:=hC.next q14;have a7:∀i,i<us.length->∀q∈(us.getD i tq0).2,∀k∈z0v (slv q.th),k<g9.heap.size:=λi hi q hq k hk=>((hT.lps i hi q hq).1.blk k hk).2;refine z0b<|z0d 26 U<|z0n h (z0a U z0f) x6p (z4p _ s.fb.fs _ I.f.f D.fl) ?_;rintro _ h0 ⟨gf,rfl,e7,a5,b2⟩ a h;have l1:=b2.size;have O:=O.ext<|d4.n2 q14 b2;have hC:=hC.next b2;refine z0b<|z3j (cs:=[_,_,_,_,_,_,_]) 27 h (z0a U<|z0a U<|z0a U<|z0a U<|z0a U<|z0a U z0f) v6q (z0g U<|z0g U<|z0g U<|z0g U<|z0g U<|z0g U z0r) U U λa h=>z0d 28 U ?_;refine y7d h U U U λj0 a3 b3 hz a h=>?_;obtain⟨a2,hg⟩:∃g,g=h0.heap.size:=⟨_,rfl⟩;rw[<-hg]at a3 h hz;have a6:g1<a2:=by have:=O.lt;omega
 have l2:=b3.size;have a0:=a0.ext<|d4.n3 q14 b2 b3;have Z:=Z.ext<|d4.n3 q14 b2 b3;have hY:=hY.ext<|d4.n3 q14 b2 b3;have a4:=a4.ext<|q14.n2 b2 b3;have hT:=hT.ext<|b2.n1 b3;have a5:=a5.ext b3;have hC:=hC.next b3;refine z0b<|z0d 29 U<|z0o h U λa h=>?_;refine z0b<|z0q ?_;clear hC c1 a1;exact xB (ll2 1 3) h U<|jE ((⟨a2,gy,6,gt,6,gm,_⟩:MA)) U ⟨((q2.n6 q3 q4 q5 d4 q14 b2).n1 b3),(x0h a3 (a0.low oo) (Z.low oo) (y4v hY oo) d0 d1 (y3z hT oo) a9 a8 a4 (a5.low oo) D.ly D.lt (((q1.n6 q2 q3 q4 q5 d4 q14).n1 b2).n1 b3) oo oo (λx hx hb=>by rcases l23.1 hx with k|k;have:=d9 x k _ hb;omega;have:=d5 x k _ hb;omega) (λi hi q hq hb=>by have:=a7 i (by have:=D.lt;omega) q hq _ hb;omega) e0 d6)⟩;refine z5f (K:=123) (E:=3) crK h U underlying118 U λgm j1 e8 a4 d7 _hz a h=>?_;have l3:=d7.size;have I:=I.ext d7;have hC:=hC.next d7;clear _hz;refine z0b<|z0d 13 U<|z0n h (z0a U z0f) cO (x2i _ s.ys _ I.y I.ya (by have:=D.ly;omega) D.pe) ?_;rintro _ j2 ⟨⟨gy,ps,rfl,f5,hY,d0,d1⟩,q18⟩ a h;have l4:=q18.size;have I:=I.ext q18;have hC:=hC.next q18;refine z0b<|z0d 17 U<|z0n h (z0a U z0f) k4l (y7h _ s.fb.ts _ I.f.t I.f.tt (by have:=D.lt;omega) D.tb) ?_;rintro _ h1 ⟨⟨gt,us,rfl,f0,hT,a9,a8⟩,q19⟩ a h;have l5:=q19.size;have I:=I.ext q19;have hC:=hC.next q19;have a7:∀i,i<us.length->∀q∈(us.getD i tq0).2,∀k∈z0v (slv q.th),k<h1.heap.size:=λi hi q hq k hk=>((hT.lps i hi q hq).1.blk k hk).2;refine z0b<|z0d 26 U<|z0n h (z0a U z0f) x6p (z4p _ s.fb.fs _ I.f.f D.fl) ?_;rintro _ h2 ⟨gf,rfl,e7,a5,b4⟩ a h;have l6:=b4.size;have O:=O.ext<|d7.n3 q18 q19 b4;have hC:=hC.next b4;refine z0b<|z3j (cs:=[_,_,_,_,_,_,_]) 27 h (z0a U<|z0a U<|z0a U<|z0a U<|z0a U<|z0a U z0f) v6q (z0g U<|z0g U<|z0g U<|z0g U<|z0g U<|z0g U z0r) U U λa h=>z0d 28 U ?_;refine y7d h U U U λj3 a3 b5 hz a h=>?_;obtain⟨a2,hg⟩:∃g,g=h2.heap.size:=⟨_,rfl⟩;rw[<-hg]at a3 h hz;have a6:g1<a2:=by have:=O.lt;omega
 have l7:=b5.size;have a0:=a0.ext<|d7.n4 q18 q19 b4 b5;have Z:=Z.ext<|d7.n4 q18 q19 b4 b5;have a4:=a4.ext<|q18.n3 q19 b4 b5;have hY:=hY.ext<|q19.n2 b4 b5;have hT:=hT.ext<|b4.n1 b5;have a5:=a5.ext b5;have hC:=hC.next b5;refine z0b<|z0d 29 U<|z0o h U λa h=>?_;refine z0b<|z0q ?_;clear hC c1 a1;exact xB (ll2 1 3) h U<|jE ((⟨a2,gy,6,gt,6,gm,_⟩:MA)) U ⟨((q2.n6 q3 q4 d7 q18 q19 b4).n1 b5),(x0h a3 (a0.low oo) (Z.low oo) (y4v hY oo) d0 d1 (y3z hT oo) a9 a8 a4 (a5.low oo) D.ly D.lt (((q1.n6 q2 q3 q4 d7 q18 q19).n1 b4).n1 b5) oo oo (λx hx hb=>by rcases l23.1 hx with k|k;have:=d9 x k _ hb;omega;have:=d5 x k _ hb;omega) (λi hi q hq hb=>by have:=a7 i (by have:=D.lt;omega) q hq _ hb;omega) e0 d6)⟩;refine z5f (K:=123) (E:=3) crK h U underlying118 U λgm j4 e8 a4 e3 _hz a h=>?_;have l8:=e3.size;have I:=I.ext e3;have hC:=hC.next e3;clear _hz;refine z0b<|z0d 9 U<|z0n h (z0a U z0f) k1v (y7b _ s.q.bs _ I.b.b I.b.bi D.bb D.b4) ?_;rintro _ h3 ⟨⟨e5,Z,d6,gB,rfl⟩,q23⟩ a h;have l9:=q23.size;have I:=I.ext q23;have hC:=hC.next q23;have d5:∀x∈e5,∀k∈z0v (slv x.1),k<h3.heap.size:=λx hx k hk=>((Z.2 x hx).blk k hk).2;refine z0b<|z3j (cs:=[_,_]) 10 h (z0a U<|z0a U z0f) k1u (z0g U<|z0g U z0r) U U λa h=>z0d 13 U ?_;refine z0n h (z0a U z0f) cO (x2i _ s.ys _ I.y I.ya (by have:=D.ly;omega) D.pe) ?_;rintro _ j5 ⟨⟨gy,ps,rfl,f5,hY,d0,d1⟩,q24⟩ a h;have m0:=q24.size;have I:=I.ext q24;have hC:=hC.next q24;refine z0b<|z0d 17 U<|z0n h (z0a U z0f) k4l (y7h _ s.fb.ts _ I.f.t I.f.tt (by have:=D.lt;omega) D.tb) ?_;rintro _ h4 ⟨⟨gt,us,rfl,f0,hT,a9,a8⟩,q25⟩ a h;have m1:=q25.size;have I:=I.ext q25;have hC:=hC.next q25;have a7:∀i,i<us.length->∀q∈(us.getD i tq0).2,∀k∈z0v (slv q.th),k<h4.heap.size:=λi hi q hq k hk=>((hT.lps i hi q hq).1.blk k hk).2;refine z0b<|z0d 26 U<|z0n h (z0a U z0f) x6p (z4p _ s.fb.fs _ I.f.f D.fl) ?_;rintro _ h5 ⟨gf,rfl,e7,a5,b6⟩ a h;have m2:=b6.size;have O:=O.ext<|e3.n4 q23 q24 q25 b6;have hC:=hC.next b6;refine z0b<|z3j (cs:=[_,_,_,_,_,_,_]) 27 h (z0a U<|z0a U<|z0a U<|z0a U<|z0a U<|z0a U z0f) v6q (z0g U<|z0g U<|z0g U<|z0g U<|z0g U<|z0g U z0r) U U λa h=>z0d 28 U ?_;refine y7d h U U U λj6 a3 b7 hz a h=>?_;obtain⟨a2,hg⟩:∃g,g=h5.heap.size:=⟨_,rfl⟩;rw[<-hg]at a3 h hz;have a6:g1<a2:=by have:=O.lt;omega
 have m3:=b7.size;have a0:=a0.ext<|e3.n5 q23 q24 q25 b6 b7;have a4:=a4.ext<|q23.n4 q24 q25 b6 b7;have Z:=Z.ext<|q24.n3 q25 b6 b7;have hY:=hY.ext<|q25.n2 b6 b7;have hT:=hT.ext<|b6.n1 b7;have a5:=a5.ext b7;have hC:=hC.next b7;refine z0b<|z0d 29 U<|z0o h U λa h=>?_;refine z0b<|z0q ?_;clear hC c1 a1;exact xB (ll2 1 3) h U<|jE ((⟨a2,gy,6,gt,6,gm,_⟩:MA)) U ⟨((q2.n6 q3 e3 q23 q24 q25 b6).n1 b7),(x0h a3 (a0.low oo) (Z.low oo) (y4v hY oo) d0 d1 (y3z hT oo) a9 a8 a4 (a5.low oo) D.ly D.lt (((q1.n6 q2 q3 e3 q23 q24 q25).n1 b6).n1 b7) oo oo (λx hx hb=>by rcases l23.1 hx with k|k;have:=d9 x k _ hb;omega;have:=d5 x k _ hb;omega) (λi hi q hq hb=>by have:=a7 i (by have:=D.lt;omega) q hq _ hb;omega) e0 d6)⟩;refine z5f (K:=123) (E:=3) crK h U underlying118 U λgm j7 e8 a4 e4 _hz a h=>?_;have m4:=e4.size;have I:=I.ext e4;have hC:=hC.next e4;clear _hz;refine z0b<|z0d 5 U<|z0n h (z0a U z0f) k1v (y7b _ s.q.fs _ I.b.f I.b.fi D.bf D.f4) ?_;rintro _ h6 ⟨⟨f3,a0,e0,gF,rfl⟩,q29⟩ a h;have m5:=q29.size;have I:=I.ext q29;have hC:=hC.next q29;have d9:∀x∈f3,∀k∈z0v (slv x.1),k<h6.heap.size:=λx hx k hk=>((a0.2 x hx).blk k hk).2;refine z0b<|z0d 9 U<|z0n h (z0a U z0f) k1v (y7b _ s.q.bs _ I.b.b I.b.bi D.bb D.b4) ?_;rintro _ h7 ⟨⟨e5,Z,d6,gB,rfl⟩,q30⟩ a h;have m6:=q30.size;have I:=I.ext q30;have hC:=hC.next q30;have d5:∀x∈e5,∀k∈z0v (slv x.1),k<h7.heap.size:=λx hx k hk=>((Z.2 x hx).blk k hk).2;refine z0b<|z3j (cs:=[_,_]) 10 h (z0a U<|z0a U z0f) k1u (z0g U<|z0g U z0r) U U λa h=>z0d 13 U ?_;refine z0n h (z0a U z0f) cO (x2i _ s.ys _ I.y I.ya (by have:=D.ly;omega) D.pe) ?_;rintro _ j8 ⟨⟨gy,ps,rfl,f5,hY,d0,d1⟩,q31⟩ a h;have m7:=q31.size;have I:=I.ext q31;have hC:=hC.next q31;refine z0b<|z0d 17 U<|z0n h (z0a U z0f) k4l (y7h _ s.fb.ts _ I.f.t I.f.tt (by have:=D.lt;omega) D.tb) ?_;rintro _ h8 ⟨⟨gt,us,rfl,f0,hT,a9,a8⟩,q32⟩ a h;have m8:=q32.size;have I:=I.ext q32;have hC:=hC.next q32;have a7:∀i,i<us.length->∀q∈(us.getD i tq0).2,∀k∈z0v (slv q.th),k<h8.heap.size:=λi hi q hq k hk=>((hT.lps i hi q hq).1.blk k hk).2;refine z0b<|z0d 26 U<|z0n h (z0a U z0f) x6p (z4p _ s.fb.fs _ I.f.f D.fl) ?_;rintro _ h9 ⟨gf,rfl,e7,a5,b8⟩ a h;have m9:=b8.size;have O:=O.ext<|e4.n5 q29 q30 q31 q32 b8;have hC:=hC.next b8;refine z0b<|z3j (cs:=[_,_,_,_,_,_,_]) 27 h (z0a U<|z0a U<|z0a U<|z0a U<|z0a U<|z0a U z0f) v6q (z0g U<|z0g U<|z0g U<|z0g U<|z0g U<|z0g U z0r) U U λa h=>z0d 28 U ?_;refine y7d h U U U λj9 a3 b9 hz a h=>?_;obtain⟨a2,hg⟩:∃g,g=h9.heap.size:=⟨_,rfl⟩;rw[<-hg]at a3 h hz;have a6:g1<a2:=by have:=O.lt;omega
 have n7:=b9.size;have a4:=a4.ext<|q29.n5 q30 q31 q32 b8 b9;have a0:=a0.ext<|q30.n4 q31 q32 b8 b9;have Z:=Z.ext<|q31.n3 q32 b8 b9;have hY:=hY.ext<|q32.n2 b8 b9;have hT:=hT.ext<|b8.n1 b9;have a5:=a5.ext b9;have hC:=hC.next b9;refine z0b<|z0d 29 U<|z0o h U λa h=>?_;refine z0b<|z0q ?_;clear hC c1 a1;exact xB (ll2 1 3) h U<|jE ((⟨a2,gy,6,gt,6,gm,_⟩:MA)) U ⟨((q2.n6 e4 q29 q30 q31 q32 b8).n1 b9),(x0h a3 (a0.low oo) (Z.low oo) (y4v hY oo) d0 d1 (y3z hT oo) a9 a8 a4 (a5.low oo) D.ly D.lt (((q1.n6 q2 e4 q29 q30 q31 q32).n1 b8).n1 b9) oo oo (λx hx hb=>by rcases l23.1 hx with k|k;have:=d9 x k _ hb;omega;have:=d5 x k _ hb;omega) (λi hi q hq hb=>by have:=a7 i (by have:=D.lt;omega) q hq _ hb;omega) e0 d6)⟩;rintro ka k0 ⟨g0,⟨m,hM,e9⟩⟩;have n8:=g0.size;have f6:=hM;refine kpC [(1,_),(3,pta ka.gk)] U<|sq<|sr<|fad U z6b<|y8g U v5c U ?_;have O:=O.ext g0;refine z0i U O U k8t<|lnS U<|mv U<|nn<|bl<|lpK (ι:=Nat) (ll3 3 37 38) (λi=>[(39,.int .i64 (i:Int))]) (λi w'=>i<=s.fb.cs.length/\(∃m:MQ,m.p=(⟨s.rk,⟨z1x<|plB s.q.fs,z1x<|plB s.q.bs⟩,s.ys.map YQ.p,z2o s.fb.ts,s.fb.cs.take i,s.fb.fs⟩:MSt)/\MkM τd 120 w0 ka w' m)) (λi=>s.fb.cs.length-i) 0 U ⟨l16 _,⟨m,e9,hM⟩⟩ ?_;rintro i k1 ⟨hi,⟨m,e9,hM⟩⟩;have f6:=hM;refine kpC (ll4 3 37 38 39) U ?_;have hk:=hM.k;have i5:=hk.lt;refine sr<|lt' U<|nn<|sq<|cd U (λc0=>?_)<|λc0=>?_;refine sk<|tn<|sq<|bl<|sr<|z1a (cx0) U (f4.f.c.ext hM.fr.fr) U j2s z1j<|λi0 f8=>?_;refine z1q U (f8 _<|f4.f.c.ext hM.fr.fr) u7n<|al j0e U<|λg5 k2 i4 e6 g3 n9=>(z0j (vs:=[_,_,_,_,_]) U e6 k7m<|λk4 e6 g4 o0=>(nn ?_));have hM:=f6.ext<|g3.z1 g4;have hk:=(hk.ext g3).fr g4;intro a h;refine rgh (some 11) (Fr []) ?_;intro g6 f1 hC;have o1:=f1.size;have hM:=hM.ext f1;have hk:=hk.ext f1;have e6:=e6.ext f1;have f7:=hM;have f2:=hk;have c9:=e6;refine z0e 0 h U λa h=>z0p 1 h U λa h=>z0c 2 h U y4g U λa h=>z0m 3 h U (fx f2.ext) U v5m U λa h=>z0c 4 h U y8o U λa h=>z1f (vs:=[_,_]) 5 h U (fx c9.ext) z2y U U λa h=>z0c 6 h U y6o U λa h=>z1f (vs:=[_,_]) 7 h U (fx c9.ext) z2y U U λa h=>z3j (cs:=[_,_,_,_]) 8 h (z0a U<|z0a U z0f) j4v (z0g U<|z0g U z0r) U U λa h=>z0c 9 h U x2b U λa h=>z0m 10 h U (fx c9.ext) U na3 U λa h=>?_;refine z0d 11 U<|x0q (V:=crK) (k:=cxK<|s.fb.cs.getD i cx0) (v:=.int .i64 (s.fb.cs.getD i cx0).n) h U U U hM.c v2j underlying118 λk5 f9 hq _hz a h=>?_;rw[show m.cr=s.fb.cs.take i from congrArg MSt.cr e9]at f9;have hM:=hM.cross (l:=s.fb.cs.take<|i+1) (by rw[<-u6i g7 oo];exact f9) hq;refine z1m<|z0q ?_;clear hC f7 f2 c9;exact xB (ll4 3 37 38 39) h U<|bn'<|tn<|rg<|ad6 U<|mv U<|nl<|lpE (i+1) U ⟨oo,⟨{ m with cr:=s.fb.cs.take (i+1) },by rw[show ({ m with cr:=s.fb.cs.take (i+1) }:MQ).p={ m.p with cr:=s.fb.cs.take (i+1) } from U,e9],hM⟩⟩ oo;obtain rfl:i=s.fb.cs.length:=by omega
 exact ex<|te<|te<|xh<|tn<|sr<|mv U<|asg U<|kpL (ll1 2) U<|nn<|rt<|r1 U ⟨_,rfl,ka,m,rfl,hM,by rw[e9,l40]⟩
theorem q0b (v:Value)(l:List Int)(w0:World)(O:Sl Enc.i64 w0 v l)(hl:l.length<=1000):Rets prog 119 #[v] w0 λr w'=>r=.int .i64 (orZ l)/\w'=w0:=by
 obtain⟨A,c,rfl,a1,hM,hA⟩:=id O;clear hA;unfold maxLen at hM;refine wf func119 U ?_;have Z:=O;refine sr<|asg U<|nn<|sr<|asg U<|nn<|sq<|sr<|mv U<|lnS U<|mv U<|nn<|bl<|lpK (ι:=Nat) (ll3 3 6 7) (λi=>[(8,.int .i64 (i:Int))]) (λi w'=>Fr [] w0 w'/\i<=l.length/\(∀j,j<i->l.getD j 0=0)/\w'=w0) (λi=>l.length-i) 0 U ⟨l12 _ _,⟨l16 _,⟨λj h=>absurd h oo,rfl⟩⟩⟩ ?_;rintro i w1 ⟨q1,⟨hi,⟨hz,D⟩⟩⟩;refine kpC (ll4 3 6 7 8) U<|sr<|lt' U<|nn<|sq<|cd U (λc0=>?_)<|λc0=>?_;refine sk<|tn<|sq<|bl<|sr ?_;have O:=Z.ext q1;refine z1a (0) U O U y1e z1j<|λa0 I=>?_;refine z1c U (I _ O) na3<|asg U<|nn<|sr<|mv U<|mv U<|ne' U<|nn<|cd U (λc1=>?_)<|λc1=>?_;refine sr<|mv U<|asg U<|kpL (ll1 2) U<|nn<|rt<|rb<|tr<|tr<|rb<|tr<|r1 U ?_;exact⟨_,rfl,congrArg (Value.int .i64) (v9t oo hz oo).symm,D⟩;refine sk<|bn'<|tn<|rg<|ad6 U<|mv U<|nl ?_;exact lpE (i+1) U ⟨q1,⟨oo,⟨λj h=>by
  by_cases e:j=i;subst e;omega;exact hz j oo,D⟩⟩⟩ oo
 obtain rfl:i=l.length:=by omega
 refine ex<|te<|te<|xh<|tn<|sr<|mv U<|asg U<|kpL (ll1 2) U<|nn<|rt<|r1 U ?_;exact⟨_,rfl,congrArg (Value.int .i64) (x1w hz).symm,D⟩
theorem nanD (x:Int)(W:World):Calls prog 162 #[.int .i64 x] W λe w'=>e=.returned (.bool false)/\w'=W:=by
 go_enter func162,ntmps162;go_wp2;go_ret;exact⟨sp0,rfl⟩
theorem k9f (x:Int)(W:World):Calls prog 161 #[.int .u8 x] W λe w'=>e=.returned (.bool false)/\w'=W:=by
 go_enter func161,ntmps161;go_wp2;go_ret;exact⟨sp0,rfl⟩
theorem cmpD (x y:Int)(W:World):Calls prog 121 #[.int .i64 x,.int .i64 y] W λe w'=>e=.returned (.int .i64<|y1n x y)/\w'=W:=by
 go_enter func121,ntmps121
 go_wp2_with (go_at_call 162;refine(nanD _ _).mono ?_;rintro e w' ⟨rfl,D⟩;rw[D])
 all_goals (go_ret;refine⟨?_,rfl⟩;unfold y1n;(repeat' split)<;>first|rfl|(exfalso;omega))
theorem q0d (x y:Int)(W:World):Calls prog 120 #[.int .u8 x,.int .u8 y] W λe w'=>e=.returned (.int .i64<|y1n x y)/\w'=W:=by
 go_enter func120,ntmps120
 go_wp2_with (go_at_call 161;refine(k9f _ _).mono ?_;rintro e w' ⟨rfl,D⟩;rw[D])
 all_goals (go_ret;refine⟨?_,rfl⟩;unfold y1n;(repeat' split)<;>first|rfl|(exfalso;omega))
theorem orD (b T:Nat)(x y:Int)(W:World)(D:W.heap[b]?=some (.cells #[.int .i64 x,.int .i64 y] T (0,0))):Calls prog 119 #[.slice (saa b) 2 2] W λe w'=>e=.returned (.int .i64<|orZ [x,y])/\w'=W:=
 Calls.mono (q0b _ _ W (k8b D) sp0) (by rintro e w' ⟨r,rfl,rfl,h⟩;exact⟨rfl,h⟩)
theorem j9z (x y:LId)(W:World):Calls prog 66 #[ivv x,ivv y] W λe w'=>e=.returned (.int .i64<|z6q x y)/\DG W w':=by
 rw[<-v2s x y]
 go_enter func66,ntmps66
 go_wp2
 go_region_held3 (λw'=>w'.cell? ⟨W.heap.size,0,none⟩=some (.int .u8 x.y)/\w'.cell? ⟨W.heap.size,1,none⟩=some (.int .i64 x.n)/\w'.cell? ⟨W.heap.size+1,0,none⟩=some (.int .u8 y.y)/\w'.cell? ⟨W.heap.size+1,1,none⟩=some (.int .i64 y.n)) (go_keep)
  (first|(go_at_call 120;refine(q0d _ _ _).mono ?_;rintro e w' ⟨rfl,rfl⟩)|(go_at_call 121;refine(cmpD _ _ _).mono ?_;rintro e w' ⟨rfl,rfl⟩)|(go_at_call 119;refine(orD _ 3 (y1n x.y y.y) (y1n x.n y.n) _<|j7y _ _ _ sp0).mono ?_;rintro e w' ⟨rfl,rfl⟩)|(go_at_call 119;refine(orD _ 3 (y1n x.y y.y) (y1n x.n y.n) _<|hrow2 _ _ _ sp0).mono ?_;rintro e w' ⟨rfl,rfl⟩))
 all_goals go_wp2
 all_goals go_ret
 all_goals refine⟨rfl,?_⟩
 all_goals repeat first|exact DG.refl _|refine DG.drew ?_|refine DG.alloc ?_ _
theorem k5c (x y:Cx)(W:World):Calls prog 65 #[k1r x,k1r y] W λe w'=>e=.returned (.int .i64<|x4e x y)/\DG W w':=by
 go_enter func65,ntmps65
 go_wp2_with (first|(go_at_call 66;refine(j9z ⟨_,_⟩ ⟨_,_⟩ _).mono ?_;rintro e w' ⟨rfl,D⟩;have Z:w'.cell? ⟨W.heap.size,2,none⟩=some (.int .u8 x.b.y):=D.cell (by simp[k1r]);have c2:w'.cell? ⟨W.heap.size,3,none⟩=some (.int .i64 x.b.n):=D.cell (by simp[k1r]);have c3:w'.cell? ⟨W.heap.size+1,2,none⟩=some (.int .u8 y.b.y):=D.cell (by simp[k1r]);have c4:w'.cell? ⟨W.heap.size+1,3,none⟩=some (.int .i64 y.b.n):=D.cell (by simp[k1r]))|(go_at_call 66;refine(j9z ⟨_,_⟩ ⟨_,_⟩ _).mono ?_;rintro e O ⟨rfl,I⟩))
 all_goals go_ret
 ·rename_i h
  refine⟨?_,(((DG.refl _).alloc _).alloc _).trans D⟩
  show Ending.returned (Value.int .i64<|z6q x.a y.a)=_
  unfold x4e;rw[if_pos (by simpa using h)]
 rename_i h
 refine⟨?_,((((DG.refl _).alloc _).alloc _).trans D).trans I⟩
 show Ending.returned (Value.int .i64<|z6q x.b y.b)=_
 unfold x4e;rw[if_neg (by simpa using h)]
end Go.Proofs.YtkafbfjmcigaiaaGreatDoor
namespace Go.Proofs
open Go.Shelf
def Tryz.sortCx_ren:Go.Shelf.Ren:=⟨fun|6=>64|15=>118|14=>117|28=>159|29=>160|20=>151|21=>152|22=>153|23=>154|24=>155|25=>156|26=>157|27=>158|46=>193|47=>194|48=>195|49=>196|50=>197|57=>214|n=>n,fun|22=>31|24=>122|25=>128|3=>3|39=>193|0=>0|53=>245|55=>247|4=>4|46=>238|45=>237|50=>242|5=>5|9=>9|66=>271|70=>275|76=>293|77=>294|n=>n,fun|n=>n⟩
theorem Tryz.sortCx:Go.Proofs.SlLaysF0.n6 Tryz.prog Tryz.sortCx_ren:={
 mixed:=by kernel_rfl
 f6:=⟨Tryz.f64.name,dd,Tryz.func64.trans<|congrArg some kr⟩
 f14:=⟨Tryz.f117.name,dd,Tryz.func117.trans<|congrArg some kr⟩
 f15:=Tryz.func118.trans<|congrArg some kr
 f20:=⟨Tryz.f151.name,dd,Tryz.func151.trans<|congrArg some kr⟩
 f21:=⟨Tryz.f152.name,dd,Tryz.func152.trans<|congrArg some kr⟩
 f22:=⟨Tryz.f153.name,dd,Tryz.func153.trans<|congrArg some kr⟩
 f23:=⟨Tryz.f154.name,dd,Tryz.func154.trans<|congrArg some kr⟩
 f24:=⟨Tryz.f155.name,dd,Tryz.func155.trans<|congrArg some kr⟩
 f25:=⟨Tryz.f156.name,dd,Tryz.func156.trans<|congrArg some kr⟩
 f26:=⟨Tryz.f157.name,dd,Tryz.func157.trans<|congrArg some kr⟩
 f27:=⟨Tryz.f158.name,dd,Tryz.func158.trans<|congrArg some kr⟩
 f28:=Tryz.func159.trans<|congrArg some kr
 f29:=Tryz.func160.trans<|congrArg some kr
 f46:=⟨Tryz.f193.name,dd,Tryz.func193.trans<|congrArg some kr⟩
 f47:=Tryz.func194.trans<|congrArg some kr
 f48:=Tryz.func195.trans<|congrArg some kr
 f49:=⟨Tryz.f196.name,dd,Tryz.func196.trans<|congrArg some kr⟩
 f50:=⟨Tryz.f197.name,dd,Tryz.func197.trans<|congrArg some kr⟩
 f57:=⟨Tryz.f214.name,dd,Tryz.func214.trans<|congrArg some kr⟩
 t0:=Tryz.underlying0
 a0:=Tryz.isAgg0
 z0:=Tryz.sizeOf0
 v0:=Tryz.zeroValue0
 t3:=Tryz.underlying3
 a3:=Tryz.isAgg3
 z3:=Tryz.sizeOf3
 v3:=Tryz.zeroValue3
 t4:=Tryz.underlying4
 a4:=Tryz.isAgg4
 z4:=Tryz.sizeOf4
 v4:=Tryz.zeroValue4
 t5:=Tryz.underlying5
 a5:=Tryz.isAgg5
 z5:=Tryz.sizeOf5
 v5:=Tryz.zeroValue5
 t9:=Tryz.underlying9
 a9:=Tryz.isAgg9
 z9:=Tryz.sizeOf9
 v9:=Tryz.zeroValue9
 t22:=Tryz.underlying31
 a22:=Tryz.isAgg31
 z22:=Tryz.sizeOf31
 v22:=Tryz.zeroValue31
 t25:=Tryz.underlying128
 a25:=Tryz.isAgg128
 z25:=Tryz.sizeOf128
 v25:=Tryz.zeroValue128
 t39:=Tryz.underlying193
 a39:=Tryz.isAgg193
 z39:=Tryz.sizeOf193
 v39:=Tryz.zeroValue193
 t45:=Tryz.underlying237
 a45:=Tryz.isAgg237
 z45:=Tryz.sizeOf237
 v45:=Tryz.zeroValue237
 t46:=Tryz.underlying238
 a46:=Tryz.isAgg238
 z46:=Tryz.sizeOf238
 v46:=Tryz.zeroValue238
 t50:=Tryz.underlying242
 a50:=Tryz.isAgg242
 z50:=Tryz.sizeOf242
 v50:=Tryz.zeroValue242
 t53:=Tryz.underlying245
 a53:=Tryz.isAgg245
 z53:=Tryz.sizeOf245
 v53:=Tryz.zeroValue245
 t55:=Tryz.underlying247
 a55:=Tryz.isAgg247
 z55:=Tryz.sizeOf247
 v55:=Tryz.zeroValue247
 t66:=Tryz.underlying271
 a66:=Tryz.isAgg271
 z66:=Tryz.sizeOf271
 v66:=Tryz.zeroValue271
 t70:=Tryz.underlying275
 a70:=Tryz.isAgg275
 z70:=Tryz.sizeOf275
 v70:=Tryz.zeroValue275
 t76:=Tryz.underlying293
 a76:=Tryz.isAgg293
 z76:=Tryz.sizeOf293
 v76:=Tryz.zeroValue293
 t77:=Tryz.underlying294
 a77:=Tryz.isAgg294
 z77:=Tryz.sizeOf294
 v77:=Tryz.zeroValue294 }
def Tryz.sortId_ren:Go.Shelf.Ren:=⟨fun|6=>68|15=>118|14=>122|28=>159|29=>160|20=>163|21=>164|22=>165|23=>166|24=>167|25=>168|26=>169|27=>170|46=>198|47=>194|48=>195|49=>199|50=>200|57=>215|n=>n,fun|22=>32|24=>54|25=>127|3=>3|39=>193|0=>0|53=>245|55=>247|4=>4|46=>238|45=>237|50=>242|5=>5|9=>9|66=>271|70=>275|76=>293|77=>294|n=>n,fun|n=>n⟩
theorem Tryz.sortId:Go.Proofs.SlLaysF0.n6 Tryz.prog Tryz.sortId_ren:={
 mixed:=by kernel_rfl
 f6:=⟨Tryz.f68.name,dd,Tryz.func68.trans<|congrArg some kr⟩
 f14:=⟨Tryz.f122.name,dd,Tryz.func122.trans<|congrArg some kr⟩
 f15:=Tryz.func118.trans<|congrArg some kr
 f20:=⟨Tryz.f163.name,dd,Tryz.func163.trans<|congrArg some kr⟩
 f21:=⟨Tryz.f164.name,dd,Tryz.func164.trans<|congrArg some kr⟩
 f22:=⟨Tryz.f165.name,dd,Tryz.func165.trans<|congrArg some kr⟩
 f23:=⟨Tryz.f166.name,dd,Tryz.func166.trans<|congrArg some kr⟩
 f24:=⟨Tryz.f167.name,dd,Tryz.func167.trans<|congrArg some kr⟩
 f25:=⟨Tryz.f168.name,dd,Tryz.func168.trans<|congrArg some kr⟩
 f26:=⟨Tryz.f169.name,dd,Tryz.func169.trans<|congrArg some kr⟩
 f27:=⟨Tryz.f170.name,dd,Tryz.func170.trans<|congrArg some kr⟩
 f28:=Tryz.func159.trans<|congrArg some kr
 f29:=Tryz.func160.trans<|congrArg some kr
 f46:=⟨Tryz.f198.name,dd,Tryz.func198.trans<|congrArg some kr⟩
 f47:=Tryz.func194.trans<|congrArg some kr
 f48:=Tryz.func195.trans<|congrArg some kr
 f49:=⟨Tryz.f199.name,dd,Tryz.func199.trans<|congrArg some kr⟩
 f50:=⟨Tryz.f200.name,dd,Tryz.func200.trans<|congrArg some kr⟩
 f57:=⟨Tryz.f215.name,dd,Tryz.func215.trans<|congrArg some kr⟩
 t0:=Tryz.underlying0
 a0:=Tryz.isAgg0
 z0:=Tryz.sizeOf0
 v0:=Tryz.zeroValue0
 t3:=Tryz.underlying3
 a3:=Tryz.isAgg3
 z3:=Tryz.sizeOf3
 v3:=Tryz.zeroValue3
 t4:=Tryz.underlying4
 a4:=Tryz.isAgg4
 z4:=Tryz.sizeOf4
 v4:=Tryz.zeroValue4
 t5:=Tryz.underlying5
 a5:=Tryz.isAgg5
 z5:=Tryz.sizeOf5
 v5:=Tryz.zeroValue5
 t9:=Tryz.underlying9
 a9:=Tryz.isAgg9
 z9:=Tryz.sizeOf9
 v9:=Tryz.zeroValue9
 t22:=Tryz.underlying32
 a22:=Tryz.isAgg32
 z22:=Tryz.sizeOf32
 v22:=Tryz.zeroValue32
 t25:=Tryz.underlying127
 a25:=Tryz.isAgg127
 z25:=Tryz.sizeOf127
 v25:=Tryz.zeroValue127
 t39:=Tryz.underlying193
 a39:=Tryz.isAgg193
 z39:=Tryz.sizeOf193
 v39:=Tryz.zeroValue193
 t45:=Tryz.underlying237
 a45:=Tryz.isAgg237
 z45:=Tryz.sizeOf237
 v45:=Tryz.zeroValue237
 t46:=Tryz.underlying238
 a46:=Tryz.isAgg238
 z46:=Tryz.sizeOf238
 v46:=Tryz.zeroValue238
 t50:=Tryz.underlying242
 a50:=Tryz.isAgg242
 z50:=Tryz.sizeOf242
 v50:=Tryz.zeroValue242
 t53:=Tryz.underlying245
 a53:=Tryz.isAgg245
 z53:=Tryz.sizeOf245
 v53:=Tryz.zeroValue245
 t55:=Tryz.underlying247
 a55:=Tryz.isAgg247
 z55:=Tryz.sizeOf247
 v55:=Tryz.zeroValue247
 t66:=Tryz.underlying271
 a66:=Tryz.isAgg271
 z66:=Tryz.sizeOf271
 v66:=Tryz.zeroValue271
 t70:=Tryz.underlying275
 a70:=Tryz.isAgg275
 z70:=Tryz.sizeOf275
 v70:=Tryz.zeroValue275
 t76:=Tryz.underlying293
 a76:=Tryz.isAgg293
 z76:=Tryz.sizeOf293
 v76:=Tryz.zeroValue293
 t77:=Tryz.underlying294
 a77:=Tryz.isAgg294
 z77:=Tryz.sizeOf294
 v77:=Tryz.zeroValue294 }
end Go.Proofs
namespace Go.Proofs.YtkafbfjmcigaiaaGreatDoor
open Go.Lw Go.G21 Go.G08 _root_.Go.Proofs.Tryz
open Go.Shelf Go.Sort
theorem j4w (f:Value)(W:World):Calls prog 151 #[.slice none 0 0,.int .i64 0,.int .i64 0,f] W λe w'=>e=.returned (.tuple #[])/\Fr [] W w':=by
 go_enter func151,ntmps151
 go_wp2
 refine wp_loop_rounds 1 ?_
 simp only[rounds_succ]
 go_wp2
 all_goals first|go_end0|((try simp only[Exit.inBlock,Exit.then]);refine bodyPost_ret (results_none U _ _ _) U ?_)
 all_goals exact⟨rfl,l12 _ _⟩
theorem j5t (f:Value)(W:World):Calls prog 117 #[.slice none 0 0,.int .i64 0,.int .i64 0,.int .i64 0,f] W λe w'=>e=.returned (.tuple #[])/\Fr [] W w':=by
 go_enter func117,ntmps117
 go_wp2
 refine wp_loop_rounds 1 ?_
 simp only[rounds_succ]
 go_wp2_with (go_at_call 151;refine(j4w _ _).mono ?_;rintro e w' ⟨rfl,D⟩)
 all_goals first|go_end0|((try simp only[Exit.inBlock,Exit.then]);refine bodyPost_ret (results_none U _ _ _) U ?_)
 all_goals exact⟨rfl,D⟩
theorem k0f (W:World):Calls prog 118 #[.int .u64 0] W λe w'=>e=.returned (.int .i64 0)/\w'=W:=
 Any.bits_Len (SlLaysF0.n15.bits (P:=prog) (ρ:=sortCx_ren) { sortCx with }) (0:Int) W oo oo
theorem j4g (f:Value)(W:World):Calls prog 64 #[.slice none 0 0,f] W λe w'=>e=.returned (.tuple #[])/\Fr [] W w':=by
 go_enter func64,ntmps64
 go_wp2_with (first|(go_at_call 118;refine(k0f _).mono ?_;rintro e w' ⟨rfl,rfl⟩)|(go_at_call 117;refine(j5t _ _).mono ?_;rintro e w' ⟨rfl,D⟩))
 all_goals go_end0
 all_goals exact⟨rfl,D⟩
theorem j4x (f:Value)(W:World):Calls prog 163 #[.slice none 0 0,.int .i64 0,.int .i64 0,f] W λe w'=>e=.returned (.tuple #[])/\Fr [] W w':=by
 go_enter func163,ntmps163
 go_wp2
 refine wp_loop_rounds 1 ?_
 simp only[rounds_succ]
 go_wp2
 all_goals first|go_end0|((try simp only[Exit.inBlock,Exit.then]);refine bodyPost_ret (results_none U _ _ _) U ?_)
 all_goals exact⟨rfl,l12 _ _⟩
theorem j8a (f:Value)(W:World):Calls prog 122 #[.slice none 0 0,.int .i64 0,.int .i64 0,.int .i64 0,f] W λe w'=>e=.returned (.tuple #[])/\Fr [] W w':=by
 go_enter func122,ntmps122
 go_wp2
 refine wp_loop_rounds 1 ?_
 simp only[rounds_succ]
 go_wp2_with (go_at_call 163;refine(j4x _ _).mono ?_;rintro e w' ⟨rfl,D⟩)
 all_goals first|go_end0|((try simp only[Exit.inBlock,Exit.then]);refine bodyPost_ret (results_none U _ _ _) U ?_)
 all_goals exact⟨rfl,D⟩
theorem j7x (W:World):Calls prog 118 #[.int .u64 0] W λe w'=>e=.returned (.int .i64 0)/\w'=W:=
 Any.bits_Len (SlLaysF0.n15.bits (P:=prog) (ρ:=sortId_ren) { sortId with }) (0:Int) W oo oo
theorem j4y (f:Value)(W:World):Calls prog 68 #[.slice none 0 0,f] W λe w'=>e=.returned (.tuple #[])/\Fr [] W w':=by
 go_enter func68,ntmps68
 go_wp2_with (first|(go_at_call 118;refine(j7x _).mono ?_;rintro e w' ⟨rfl,rfl⟩)|(go_at_call 122;refine(j8a _ _).mono ?_;rintro e w' ⟨rfl,D⟩))
 all_goals go_end0
 all_goals exact⟨rfl,D⟩
instance:Inhabited Cx:=⟨cx0⟩
instance:Inhabited LId:=⟨id0⟩
theorem k7k {w0:World}{T base:Nat}{v:Value}{l:List Cx}(ho:Lw.Own z6f T base w0 v l)(hl:l.length<4611686018427387904)(hn:(l.map λc=>(c.a,c.b)).Nodup):Rets prog 64 #[v,.func (.func 65) #[] #[]] w0 λr w'=>r=.tuple #[]/\Lw.Own z6f T base w' v (y5l l)/\Fr (z0v v) w0 w':=
 Rets.mono (v4y (E:=z6f) (f:=64) sortCx U isAgg122 sizeOf122 x4e swoX (enters_of func65 kr U) (λx y W=>k5c x y W) (j4g _) ho hl) (by
  rintro r w' ⟨rfl,l',O,Z,D,I⟩
  rw[u3e hn O Z]at D
  exact⟨rfl,D,I⟩)
theorem k2l {w0:World}{T base:Nat}{v:Value}{l:List LId}(ho:Lw.Own z1h T base w0 v l)(hl:l.length<4611686018427387904):Rets prog 68 #[v,.func (.func 66) #[] #[]] w0 λr w'=>r=.tuple #[]/\Lw.Own z1h T base w' v (y3s l)/\Fr (z0v v) w0 w':=
 Rets.mono (v4y (E:=z1h) (f:=68) sortId U isAgg54 sizeOf54 z6q swoI (enters_of func66 kr U) (λx y W=>j9z x y W) (j4y _) ho hl) (by
  rintro r w' ⟨rfl,l',O,Z,D,I⟩
  rw[j7a O Z]at D
  exact⟨rfl,D,I⟩)
open Go.Lw Go.G21 Go.G08 _root_.Go.Proofs.Tryz
theorem v1z (q:BdQ)(r:Int)(w0:World)(Z:BdAt w0 q)(D:BdOk q.p)(hr:-4<=r/\r<=4):Rets prog 73 #[bvv q,.int .i64 r] w0 λv w'=>(∃g l n,l=z2m q.p r/\n=l.length/\n<=320/\v=.tuple #[.slice (saa g) n n,.int .i64 0]/\w0.heap.size<=g/\Lw.Own z4s 143 w0.heap.size w' (.slice (saa g) n n) l)/\Fr [] w0 w':=
 Rets.mono (v8z q r w0 Z D hr) (by
  rintro v w' ⟨⟨g,rfl,I,O⟩,h3⟩
  have hN:=x1x D
  have a0:=z9k q.p r
  have a1:(z2m q.p r).length=(x8l q.p r).length:=z5c _
  exact⟨⟨g,_,_,rfl,rfl,oo,rfl,I,O⟩,h3⟩)
theorem u4o {l:List Hd}{ps:List LId}(hl:ps.length=l.length)(h:∀j,j<l.length->ps.getD j id0=(l.getD j hd0).id):ps=l.map Hd.id:=by
 refine l71 (by simp[hl]) λj I O=>?_;have D:j<l.length:=by omega
 have:=h j D;rw[List.getD,List.getD,l10 I,l10 D]at this;simpa using this
theorem y5u (q:BdQ)(r:Int)(w0:World)(hB:BdAt w0 q)(hv:BdOk q.p)(hr:-4<=r/\r<=4):Rets prog 50 #[bvv q,.int .i64 r] w0 λv w'=>(∃g n,n=(z2m q.p r).length/\v=.slice (saa g) n n/\w0.heap.size<=g/\Lw.Own z1h 54 w0.heap.size w' v ((z2m q.p r).map Hd.id))/\Fr [] w0 w':=by
 obtain⟨⟨hf,hb⟩,h4,b2⟩:=z3f hv;refine wf func50 U ?_;have a4:=hB;refine sr<|bx U<|λg2 w1 b3 a5 q1 z1=>(asg U<|nn<|sr<|z0l U a5 z4y<|mv U ?_);have hB:=a4.ext q1;refine cl (ev2 U) cO (v1z q _ _ hB hv hr) ?_;rintro _ w2 ⟨⟨a3,l,n,a7,a2,b5,rfl,b0,hH⟩,q2⟩;have z2:=q2.size;have a6:=(hH.blk a3 t10).2;refine mv U<|xt U<|xt U<|asg U<|asg U<|kpL (ll1 5) U<|nn<|sr<|mv U<|lnS U<|z1g (m:=n) (c:=n) (id0) U z4m z9l U<|λO w3 b1 I q3 z3=>(asg U<|nn<|sq<|sr<|mv U<|lnS U<|mv U<|nn<|bl<|lpK (ι:=Nat×List LId) (ll3 7 19 20) (λp=>[(21,.int .i64 (p.1:Int))]) (λp w'=>Fr [O] w3 w'/\p.1<=n/\p.2.length=n/\Lw.Own z1h 54 w0.heap.size w' (.slice (saa O) n n) p.2/\(∀j,j<p.1->p.2.getD j id0=(l.getD j hd0).id)) (λp=>n-p.1) (0,List.replicate n id0) U ⟨l12 _ _,⟨l16 _,sp0,I.low oo,λj hj=>absurd hj sp0⟩⟩ ?_);rintro⟨i,ps⟩ w4 ⟨q4,⟨hi,D,I,a0⟩⟩;simp only at hi I a0 D;have z4:=q4.size;refine kpC [(7,_),(19,_),(20,_),(21,.int .i64 (i:Int))] U<|sr<|lt' U<|nn<|sq<|cd U (λc0=>?_)<|λc0=>?_;refine sk<|tn<|sq<|bl<|sr<|mv U ?_;have hH:=(hH.ext q3).fr q4 t11;refine z1a (hd0) U hH.sl U z4e z1j<|λa9 a1=>?_;refine z1q U (a1 _ hH.sl) z6e<|al u4p U<|λg9 w5 b4 Z q5 z5=>(asg U<|z0j (vs:=[_,_,_,_,_]) U Z z9e<|λw6 Z q6 z6=>(nn<|rg<|mv U<|mv U<|fad U x9v<|z1u (vs:=[_,_]) U Z z2y U ?_));have I:=(I.ext q5).fr q6 (by intro k hk hb;simp at hk;subst hk;have:=(I.blk _ hb);omega);refine z6a (p:=i) (E:=z1h) U z4m<|z3t (i:=i) (((l.getD i hd0).id)) U I oo U y1b<|λw7 I q7 z7=>(kpL (ll4 7 19 20 21) U<|nl<|bn'<|tn<|rg<|ad6 U<|mv U<|nl ?_);exact lpE ((i+1,ps.set i<|(l.getD i hd0).id)) U ⟨((l12 [O] _).z4 q4 q5 q6 q7),⟨sm,by simp only[l19];exact D,I,λj hj=>by
  simp only at hj ⊢;rw[z1k oo];split;rename_i e;subst e;rfl;exact a0 j oo⟩⟩ sm
 obtain rfl:i=n:=by omega
 refine ex<|te<|te<|xh<|tn<|sr<|mv U<|asg U<|kpL (ll1 4) U<|nn<|rt<|r1 U ?_;have a8:=u4o (D.trans a2)<|λj hj=>a0 j oo;subst a7;subst a8;exact⟨_,rfl,⟨O,_,a2,rfl,oo,I⟩,(q1.z3 q2 q3 q4)⟩
theorem z8i:z4f prog 36 8:=⟨λ_=>kr,λ_=>kr⟩
theorem k2q:BuildAt prog 34 [(0,1),(1,1),(2,1),(3,1)] [(.slice none 0 0),(.slice none 0 0),(.slice none 0 0),(.slice none 0 0)]:=BuildAt.struct underlying34 (λ_=>kr)<|λ_=>kr
theorem v1x:BuildAt prog 36 [(0,1),(1,2),(3,1),(4,4)] [(.int .i64 0),(.slice none 0 0),(.slice none 0 0),(.slice none 0 0),(.slice none 0 0),(.slice none 0 0),(.slice none 0 0),(.slice none 0 0)]:=BuildAt.struct underlying36 (λ_=>kr)<|λ_=>kr
theorem q1r:BuildAt prog 122 [(0,2),(2,2),(4,1)] [(.int .u8 0),(.int .i64 0),(.int .u8 0),(.int .i64 0),(.int .i64 0)]:=BuildAt.struct underlying122 (λ_=>kr)<|λ_=>kr
theorem k4s:z1s prog 34 4:=λ_=>kr
theorem z9q:z1s prog 36 8:=λ_=>kr
theorem k6e (w:World):(zeroValue 34).run prog w=.ok (.agg #[(.slice none 0 0),(.slice none 0 0),(.slice none 0 0),(.slice none 0 0)]) w:=kr
theorem y5r (w:World):(zeroValue 36).run prog w=.ok (.agg #[(.int .i64 0),(.slice none 0 0),(.slice none 0 0),(.slice none 0 0),(.slice none 0 0),(.slice none 0 0),(.slice none 0 0),(.slice none 0 0)]) w:=kr
theorem x6s (wS:World)(ka:MA)(m:MQ)(w0:World)(hM:MkM τd 120 wS ka w0 m)(hi:MInv m.p)(o1:m.cr.length<=100000000):Rets prog 23 #[pta ka.gk] w0 λr w'=>∃s:StQ,r=(svv s)/\StO τd 122 wS.heap.size w' s/\s.p=stM m.p/\Fr [] wS w':=by
 have o7:=hM.fr.size;have D:=hM.k;have o5:=D.lt;have o6:=hM.ly;have f9:=hM.lt;have i5:=hM;have n7:=(hM.t.out.blk ka.gt t10).2;have m9:=hM.c.lt;have i8:=λk D=>(hM.f.blk k D).2;have o2:(crM m.cr).length=m.cr.length:=l18 ..;have l5:∀j,(m.ts.getD j tq0).2.length<=2048:=λj=>l42 (j3b m.ts j) hi.all;have hfl:m.fl.length<=2048:=by have x:=hi.cnt;have y:=hi.all;have z:m.p.fa=m.fl:=rfl;rw[z]at x;omega
 refine wf func23 U ?_;have a4:=hM;refine sr<|al y5r U<|λg2 w1 o3 Z q1 z1=>(nn<|sr<|mv U<|nlc U<|fad U y4g ?_);have D:=D.ext q1;refine z0i U D U v5m ?_;have hM:=a4.ext q1;refine k3a U hM.c underlying118 U<|z1g (m:=0) (c:=(crM m.cr).length) (cx0) U j2s j0e U<|λn9 w2 m5 ho q2 z2=>(asg U<|kpL (ll3 0 2 3) U<|nn<|sq<|sr<|mv U<|nlc U<|fad U y4g ?_);have D:=D.ext q2;refine z0i U D U v5m ?_;have hM:=a4.ext<|q1.n1 q2;refine j0t U hM.c underlying118 U<|λk5 w3 m6 a3 q3 z3=>(nn<|bl ?_);have ho:=ho.ext q3;refine lpK (ι:=Value×List Cx×List Cx) (ll3 0 2 19) (λp=>[(3,p.1)]) (λp w'=>Fr [] w1 w'/\(p.2.1++p.2.2).Perm m.cr/\Lw.Own z6f 122 w1.heap.size w' p.1 p.2.1/\CrIt w' k5 ka.gc (crM m.cr) p.2.2 none) (λp=>p.2.2.length) (_,[],m.cr) U ⟨(q2.n1 q3),⟨List.Perm.refl _,ho.low oo,a3⟩⟩ ?_;rintro⟨vP,a7,rem⟩ w4 ⟨q4,⟨f4,ho,a3⟩⟩;simp only at f4 ho a3;have z4:=q4.size;refine kpC [(0,_),(2,_),(19,_),(3,vP)] U ?_;have g1:=a3.neO ho;have k8:=a3.lt;have l4:=f4.length_eq;rw[l13]at l4;refine sr<|j9g U a3 U (λl1 c l2 g8 w5 a3 q5 z5=>?_)<|λg8=>?_;refine xt U<|nn<|sq<|ct U ?_;have j3:((a7++[c])++(l1++l2)).Perm m.cr:=by
  rw[g8]at f4;refine List.Perm.trans ?_ f4;rw[l14];exact List.Perm.append_left _ (show (c::(l1++l2)).Perm (l1++c::l2) from List.perm_middle.symm)
 refine sk<|tn<|bl<|sr<|j0k U a3 U<|xt U<|xt U<|al k4b U<|λg4 w6 o4 g5 q6 z6=>(z0j (vs:=[_,_,_,_]) U g5 j6y<|λw7 g5 q7 z7=>?_);refine asg U<|nn<|rg<|mv U<|y0k U U underlying123 y1b<|z1u (vs:=[_,_]) U g5 z2y U<|y0k U U underlying123 y1b<|z1u (vs:=[_,_]) U g5 z2y U<|mv U<|z1r (cs:=[_,_,_,_,_]) (ev3 U) q1r (z0g U<|z0g U<|z0g U z0r) U ?_;refine z1i ([c]) (ev1 U) U j2s<|λo0 w8 m7 j1 q8 z8=>?_;have a3:=((a3.ext q6).fr q7 (by intro k D;simp at D;subst D;exact⟨oo,oo⟩)).ext q8;have ho:=(((ho.fr q5 (by intro k D I;simp at D;subst D;first|exact(g1 _ I).2 U|(have:=ho.blk _ I;omega))).ext q6).fr q7 (by intro k D I;simp at D;subst D;first|exact(g1 _ I).2 U|(have:=ho.blk _ I;omega))).ext q8;have g3:=ho;refine z2l U ho j1.sl j2s<|λo8 w9 ho q9 l3=>?_;have z9:=q9.size;have a3:=a3.fr q9<|a3.neO g3;exact asg U<|kpL (ll4 0 2 3 19) U<|nl<|bn'<|lpE ((_,a7++[c],l1++l2)) U ⟨((q4.z4 q5 q6 q7 q8).step q9<|λk D f9=>absurd (g3.blk k D).1 oo),⟨j3,ho,a3.no⟩⟩ (by simp only[g8,l13,l34];omega);refine xt U<|nn<|sq<|cf U ?_;rw[g8,l24]at f4;have l0:(a7.map λc=>(c.a,c.b)).Nodup:=(f4.map _).nodup_iff.2 (by have x:=i5.c.nodup;rwa [x3b]at x);have g9:y5l a7=y5l m.cr:=u3e (by have x:=i5.c.nodup;rwa [x3b]at x) ((z4i a7).trans f4)<|x1c a7;refine ex<|te<|te<|xh<|tn<|sr<|mv U ?_;have j2:=ho;have Z:=Z.ext q4;refine cl (ev2 U) cO (k7k ho oo l0) ?_;rintro _ l6 ⟨rfl,ho,i1⟩;have Z:=Z.fr i1 (λD=>by have:=(j2.blk _ D).1;omega);have r7:=i1.size;have hM:=a4.ext<|(q1.n1 q4).step i1<|λk D f9=>absurd (j2.blk k D).1 oo;have D:=hM.k;refine nn<|sq<|sr<|mv U<|nlc U<|fad U y4s<|z0i U D U v4f<|lnS U<|mv U<|nn<|bl<|lpK (ι:=Nat×List TQ) (ll5 0 2 3 39 40) (λp=>[(41,.int .i64 (p.1:Int))]) (λp w'=>Fr [ka.gt] l6 w'/\p.1<=6/\(∀j,(p.2.getD j tq0).2=(m.ts.getD j tq0).2)/\MkM τd 120 wS ka w' { m with ts:=p.2 }) (λp=>6-p.1) (0,m.ts) U ⟨l12 _ _,⟨l16 _,λ_=>rfl,hM⟩⟩ ?_;rintro⟨i,ts⟩ o9 ⟨h1,⟨k9,e3,hM⟩⟩;simp only at k9 e3 hM;have r8:=h1.size;have a4:=hM;refine kpC [(0,_),(2,_),(3,_),(39,_),(40,_),(41,.int .i64 (i:Int))] U ?_;have D:=hM.k;have h0:ts.length=6:=hM.lt;have n8:=hM.lt;refine sr<|lt' U<|nn<|sq<|cd U (λc1=>?_)<|λc1=>?_;refine sk<|tn<|sq<|bl<|sr<|mv U<|z1a (tq0) U hM.t.out.sl U x3c z1j<|λm4 i7=>?_;refine z1c U (i7 _ hM.t.out.sl) y2x<|asg U<|asg U<|nn ?_;intro a h;refine rgh (some 7) (Fr []) ?_;intro j5 h2 hC;have r9:=h2.size;have hM:=hM.ext h2;have D:=D.ext h2;have b7:=hM;have O:=D;refine z0e 0 h U λa h=>z0p 1 h U λa h=>z0c 2 h U y4s U λa h=>z0m 3 h U (fx O.ext) U v4f U λa h=>z0e 4 h U λa h=>z0e 5 h U λa h=>z0d 6 U<|z0n h (z0a U z0f) cO (u0x _ (ts.getD i tq0).2 _ (hM.t.ins i (by rw[hM.lt];omega)).sl (by rw[e3 i];have:=l5 i;omega)) ?_;rintro _ p0 ⟨i4,rfl,m8,hX,h3⟩ a h;have s1:=h3.size;have hM:=hM.ext h3;have hC:=hC.next h3;have j0:∀j,j<6->∀b∈z0v (slv (ts.getD j tq0).1),b∉z0v (slv (((some ⟨i4,0,none⟩,(ts.getD i tq0).2.length,(ts.getD i tq0).2.length)):SV)):=λj hj b I k6=>by have:=((a4.t.ins j (by rw[a4.lt];omega)).blk b I).2;simp[z0v,slv]at k6;omega
 refine z0b<|z0d 7 U<|x1k (p:=i) (i:=(i:Int)) (m:=6) (E:=z5e) h U U x3c oo oo oo U λa h=>?_;refine z0b<|z0d 8 U<|z0z (i:=i) (((some ⟨i4,0,none⟩,(ts.getD i tq0).2.length,(ts.getD i tq0).2.length),(ts.getD i tq0).2):TQ) h U hM.t.out (by rw[hM.lt];omega) U k0j λp1 h7 i2 _hz a h=>?_;have hM:=hM.tabh mtd oo (hX.low oo) j0 h7 i2;have a4:=hM;clear h7;have s2:=i2.size;clear _hz;refine z1m<|z0q ?_;clear hC b7 O;refine xB (ll6 0 2 3 39 40 41) h U<|bn'<|tn<|rg<|ad6 U<|mv U<|nl ?_;exact lpE ((i+1,_)) U ⟨((l12 [ka.gt] _).z4 h1 h2 h3 i2),⟨sm,λj=>by
  simp only;rw[z1k oo];split;rename_i e;subst e;exact e3 _;exact e3 j,hM⟩⟩ sm
 obtain rfl:i=6:=by omega
 refine ex<|te<|te<|xh<|tn<|sr<|mv U<|nlc U<|fad U y4o<|z0i U D U z6k ?_;have ho:=ho.fr h1 (by intro k D I;simp at D;subst D;have:=ho.blk _ I;omega);have Z:=Z.fr h1;refine cl (z0a U<|z0a U z0f) cO (k2l hM.f (by show m.fl.length<_;omega)) ?_;rintro _ p3 ⟨rfl,k7,g7⟩;have s3:=g7.size;have hM:=hM.fallS mtd dd k7 g7;have a4:=hM;have D:=hM.k;have ho:=ho.fr g7 (λk D I=>by have:=i8 k D;have:=(ho.blk k I).1;omega);have g6:=λk D=>(ho.blk k D).2;have Z:=Z.fr g7 (λD=>by have:=i8 _ D;omega);have f7:=Z;refine kpL (ll3 0 2 3) U<|nn<|sq ?_;intro a h;refine rgh none (Fr []) ?_;intro i3 b1 hC;have s4:=b1.size;have hM:=hM.ext b1;have D:=D.ext b1;have ho:=ho.ext b1;have b7:=hM;have O:=D;have f8:=ho;refine z0e 0 h U λa h=>z0p 1 h U λa h=>z0c 2 h U y4s U λa h=>z0m 3 h U (fx O.ext) U v4f U λa h=>z0e 4 h U λa h=>z0e 6 h U λa h=>z0p 7 h U λa h=>z0c 8 h U z4b U λa h=>z1f (vs:=[_,_]) 9 h U (fx O.ext) z4y U U λa h=>z0e 10 h U λa h=>z0p 11 h U λa h=>z0c 12 h U z4o U λa h=>z0m 13 h U (fx O.ext) U na3 U λa h=>z0e 15 h U λa h=>z0p 16 h U λa h=>z0c 17 h U y4o U λa h=>z0m 18 h U (fx O.ext) U z6k U λa h=>z1v 5 21 kr U ?_ ?_;refine z0n h (z0a U z0f) cO (u2e _ (y5l a7) _ ho.sl (by rw[(z4i a7).length_eq];omega)) ?_;rintro _ l7 ⟨f1,rfl,i9,a1,b6⟩ a h;have s5:=b6.size;have hM:=hM.ext b6;have D:=D.ext b6;have ho:=ho.ext b6;have hC:=hC.next b6;have h9:=(a1.blk f1 t10).2;refine z0b<|z1v 14 21 kr U ?_ ?_;refine z0n h (z0a U<|z0a U z0f) cO (y5u m.q m.rk _ hM.b.at hi.B hi.rk) ?_;rintro _ l8 ⟨⟨b0,j4,h6,rfl,h4,hH⟩,q18⟩ a h;have s6:=q18.size;have hM:=hM.ext q18;have D:=D.ext q18;have ho:=ho.ext q18;have a1:=a1.ext q18;have hC:=hC.next q18;have h5:=(hH.blk b0 t10).2;refine z0b<|z1v 19 21 kr U ?_ ?_;refine z0n h (z0a U z0f) x6p (z4p _ (y3s m.fl) _ hM.f.sl t63) ?_;rintro _ l9 ⟨a8,rfl,g0,a2,e4⟩ a h;have s7:=e4.size;have D:=D.ext e4;have hC:=hC.next e4;have f3:=(a2.blk a8 t10).2;refine z0b<|z3j (cs:=[_,_,_,_]) 20 h (z0a U<|z0a U<|z0a U<|z0a U z0f) k2q (z0g U<|z0g U<|z0g U<|z0g U z0r) U U λa h=>z0d 21 U ?_;refine z0u h k6e U λp4 a0 b8 hz a h=>?_;obtain⟨b2,hg⟩:∃g,g=l9.heap.size:=⟨_,rfl⟩;rw[<-hg]at a0 h hz;have i0.gk_8:ka.gk<b2:=by have:=D.lt;omega
 have s8:=b8.size;have D:=D.ext b8;have ho:=ho.ext<|e4.n1 b8;have a1:=a1.ext<|e4.n1 b8;have hH:=hH.ext<|e4.n1 b8;have a2:=a2.ext b8;have hC:=hC.next b8;refine z0b<|z0d 22 U<|z0t h U a0 U k4s λm0 a6 b9 hz a h=>?_;have s9:=b9.size;have D:=D.fr b9;have ho:=ho.fr b9 (by intro k D I;simp at D;subst D;have:=g6 _ I;omega);have a1:=a1.fr b9 t11;have hH:=hH.fr b9 t11;have a2:=a2.fr b9 t11;have hC:=hC.sp b9;have a0:Blk m0 b2 _ [_,_,_,_]:=a6;clear a6;refine z0b<|z0q ?_;clear hC b7 O f8;refine xB (ll3 0 2 8) h U<|tn<|sq ?_;have Z:=(Z.ext<|b1.n4 b6 q18 e4 b8).fr b9;intro a h;refine rgh none (Fr [g2]) ?_;intro j6 e5 hC;have t8:=e5.size;have D:=D.ext e5;have Z:=Z.ext e5;have a0:=a0.ext e5;have O:=D;have a9:=Z;have a5:=a0;refine z0e 0 h U λa h=>z0p 1 h U λa h=>z0c 2 h U z4o U λa h=>z0m 3 h U (λ_ hw=>O.fr hw se) U na3 U λa h=>z0e 4 h U λa h=>z0p 5 h U λa h=>z0c 6 h U z4b U λa h=>z1f (vs:=[_,_]) 7 h U (λ_ hw=>(O.fr hw se)) z4y U U λa h=>z0e 8 h U λa h=>z0p 9 h U λa h=>z0c 10 h U z4d U λa h=>?_;refine z0m 11 h U (λ_ hw=>O.fr hw se) U y6d U λa h=>z0x 12 h U (λ_ hw=>a5.fr hw se) j2j U λa h=>z3j (cs:=[_,_,_,_,_,_,_,_]) 13 h (z0a U<|z0a U<|z0a U<|z0a U z0f) v1x (z0g U<|z0g U<|z0g U<|z0g U z0r) U U λa h=>z0d 14 U ?_;refine z0t h U Z U z9q λj7 a6 c0 hz a h=>?_;have t9:=c0.size;have D:=D.fr c0;have a0:=a0.fr c0;have hC:=hC.sp c0;have Z:Blk j7 g2 _ [_,_,_,_,_,_,_,_]:=a6;clear a6;refine z0b<|z0q ?_;clear hC O a9 a5;refine xB (ll1 2) h U<|tn<|rt<|rC U U Z z8i  ?_;have a1:=(a1.ext e5).fr c0 t11;have hH:=(hH.ext e5).fr c0 t11;have a2:=(a2.ext e5).fr c0 t11;have b3:=(b1.z6 b6 q18 e4 b8 b9 e5);have b4:Fr [] _ j7:=(l12 _ _);have b5:=a4.ext b3;have hW:=(b5.toW.off (f7.ext b3) dd c0).ext b4;have f2:=(b5.fr.fr.step c0 so).next b4;have f5:z2o ts=z2o m.ts:=y7i (h0.trans f9.symm) (λj _=>by rw[e3 j]);exact⟨_,rfl,⟨m.rk,m.q,(some ⟨ka.gy,0,none⟩,6,ka.cy),m.ys,⟨(some ⟨ka.gt,0,none⟩,6,ka.ct),(some ⟨f1,0,none⟩,_,_),(some ⟨b0,0,none⟩,_,_),(some ⟨a8,0,none⟩,_,_),ts,y5l a7,_,y3s m.fl⟩⟩,rfl,⟨hW.b,hW.y,hW.t,a1.low oo,hH.low oo,a2.low oo,(λk D=>by
  have h8:k=b0:=by simpa[z0v,slv] using D
  refine⟨λq hq I=>?_,λt ht l hl I=>?_,λI=>?_⟩;rcases l23.1 hq with hq|hq
  have:=((a4.b.f.2 q hq).blk _ I).2;omega;have:=((a4.b.b.2 q hq).blk _ I).2;omega;obtain⟨i,hi,rfl⟩:=l29 ht;have e:ts.getD i tq0=ts[i]:=by rw[List.getD,l10 hi];rfl
  rw[<-e]at hl;have:=((a4.t.lps i hi l hl).1.blk _ I).2;omega;have:k=a8:=by simpa[z0v,slv] using I
  omega)⟩,by show (⟨m.rk,m.q.p,m.ys.map YQ.p,⟨z2o ts,y5l a7,(z2m m.q.p m.rk).map Hd.id,y3s m.fl⟩⟩:St)=_;rw[f5,g9];rfl,f2⟩
 refine z0u h k6e U λp5 a0 c9 hz a h=>?_;obtain⟨b2,hg⟩:∃g,g=l8.heap.size:=⟨_,rfl⟩;rw[<-hg]at a0 h hz;have i0.gk_8:ka.gk<b2:=by have:=D.lt;omega
 have u0:=c9.size;have hM:=hM.ext c9;have hC:=hC.next c9;refine z0b<|z0d 19 U<|z0n h (z0a U z0f) x6p (z4p _ (y3s m.fl) _ hM.f.sl t63) ?_;rintro _ p6 ⟨a8,rfl,g0,a2,d0⟩ a h;have u1:=d0.size;have D:=D.ext<|c9.n1 d0;have ho:=ho.ext<|c9.n1 d0;have a1:=a1.ext<|c9.n1 d0;have hH:=hH.ext<|c9.n1 d0;have a0:=a0.ext d0;have hC:=hC.next d0;have f3:=(a2.blk a8 t10).2;refine z0b<|z3j (cs:=[_,_,_,_]) 20 h (z0a U<|z0a U<|z0a U<|z0a U z0f) k2q (z0g U<|z0g U<|z0g U<|z0g U z0r) U U λa h=>z0d 22 U ?_;refine z0t h U a0 U k4s λm1 a6 d1 hz a h=>?_;have u2:=d1.size;have D:=D.fr d1;have ho:=ho.fr d1 (by intro k D I;simp at D;subst D;have:=g6 _ I;omega);have a1:=a1.fr d1 t11;have hH:=hH.fr d1 t11;have a2:=a2.fr d1 t11;have hC:=hC.sp d1;have a0:Blk m1 b2 _ [_,_,_,_]:=a6;clear a6;refine z0b<|z0q ?_;clear hC b7 O f8;refine xB (ll3 0 2 8) h U<|tn<|sq ?_;have Z:=(Z.ext<|b1.n4 b6 q18 c9 d0).fr d1;intro a h;refine rgh none (Fr [g2]) ?_;intro j8 e6 hC;have u3:=e6.size;have D:=D.ext e6;have Z:=Z.ext e6;have a0:=a0.ext e6;have O:=D;have a9:=Z;have a5:=a0;refine z0e 0 h U λa h=>z0p 1 h U λa h=>z0c 2 h U z4o U λa h=>z0m 3 h U (λ_ hw=>O.fr hw se) U na3 U λa h=>z0e 4 h U λa h=>z0p 5 h U λa h=>z0c 6 h U z4b U λa h=>z1f (vs:=[_,_]) 7 h U (λ_ hw=>(O.fr hw se)) z4y U U λa h=>z0e 8 h U λa h=>z0p 9 h U λa h=>z0c 10 h U z4d U λa h=>?_;refine z0m 11 h U (λ_ hw=>O.fr hw se) U y6d U λa h=>z0x 12 h U (λ_ hw=>a5.fr hw se) j2j U λa h=>z3j (cs:=[_,_,_,_,_,_,_,_]) 13 h (z0a U<|z0a U<|z0a U<|z0a U z0f) v1x (z0g U<|z0g U<|z0g U<|z0g U z0r) U U λa h=>z0d 14 U ?_;refine z0t h U Z U z9q λj9 a6 d3 hz a h=>?_;have u4:=d3.size;have D:=D.fr d3;have a0:=a0.fr d3;have hC:=hC.sp d3;have Z:Blk j9 g2 _ [_,_,_,_,_,_,_,_]:=a6;clear a6;refine z0b<|z0q ?_;clear hC O a9 a5;refine xB (ll1 2) h U<|tn<|rt<|rC U U Z z8i  ?_;have a1:=(a1.ext e6).fr d3 t11;have hH:=(hH.ext e6).fr d3 t11;have a2:=(a2.ext e6).fr d3 t11;have b3:=(b1.z6 b6 q18 c9 d0 d1 e6);have b4:Fr [] _ j9:=(l12 _ _);have b5:=a4.ext b3;have hW:=(b5.toW.off (f7.ext b3) dd d3).ext b4;have f2:=(b5.fr.fr.step d3 so).next b4;have f5:z2o ts=z2o m.ts:=y7i (h0.trans f9.symm) (λj _=>by rw[e3 j]);exact⟨_,rfl,⟨m.rk,m.q,(some ⟨ka.gy,0,none⟩,6,ka.cy),m.ys,⟨(some ⟨ka.gt,0,none⟩,6,ka.ct),(some ⟨f1,0,none⟩,_,_),(some ⟨b0,0,none⟩,_,_),(some ⟨a8,0,none⟩,_,_),ts,y5l a7,_,y3s m.fl⟩⟩,rfl,⟨hW.b,hW.y,hW.t,a1.low oo,hH.low oo,a2.low oo,(λk D=>by
  have h8:k=b0:=by simpa[z0v,slv] using D
  refine⟨λq hq I=>?_,λt ht l hl I=>?_,λI=>?_⟩;rcases l23.1 hq with hq|hq
  have:=((a4.b.f.2 q hq).blk _ I).2;omega;have:=((a4.b.b.2 q hq).blk _ I).2;omega;obtain⟨i,hi,rfl⟩:=l29 ht;have e:ts.getD i tq0=ts[i]:=by rw[List.getD,l10 hi];rfl
  rw[<-e]at hl;have:=((a4.t.lps i hi l hl).1.blk _ I).2;omega;have:k=a8:=by simpa[z0v,slv] using I
  omega)⟩,by show (⟨m.rk,m.q.p,m.ys.map YQ.p,⟨z2o ts,y5l a7,(z2m m.q.p m.rk).map Hd.id,y3s m.fl⟩⟩:St)=_;rw[f5,g9];rfl,f2⟩
 refine z0u h k6e U λp7 a0 e7 hz a h=>?_;obtain⟨b2,hg⟩:∃g,g=l7.heap.size:=⟨_,rfl⟩;rw[<-hg]at a0 h hz;have i0.gk_8:ka.gk<b2:=by have:=D.lt;omega
 have u5:=e7.size;have hM:=hM.ext e7;have hC:=hC.next e7;refine z0b<|z0d 14 U<|z0n h (z0a U<|z0a U z0f) cO (y5u m.q m.rk _ hM.b.at hi.B hi.rk) ?_;rintro _ p8 ⟨⟨b0,j4,h6,rfl,h4,hH⟩,q30⟩ a h;have u6:=q30.size;have hM:=hM.ext q30;have hC:=hC.next q30;have h5:=(hH.blk b0 t10).2;refine z0b<|z0d 19 U<|z0n h (z0a U z0f) x6p (z4p _ (y3s m.fl) _ hM.f.sl t63) ?_;rintro _ p9 ⟨a8,rfl,g0,a2,d4⟩ a h;have u7:=d4.size;have D:=D.ext<|e7.n2 q30 d4;have ho:=ho.ext<|e7.n2 q30 d4;have a1:=a1.ext<|e7.n2 q30 d4;have a0:=a0.ext<|q30.n1 d4;have hH:=hH.ext d4;have hC:=hC.next d4;have f3:=(a2.blk a8 t10).2;refine z0b<|z3j (cs:=[_,_,_,_]) 20 h (z0a U<|z0a U<|z0a U<|z0a U z0f) k2q (z0g U<|z0g U<|z0g U<|z0g U z0r) U U λa h=>z0d 22 U ?_;refine z0t h U a0 U k4s λm2 a6 d5 hz a h=>?_;have u9:=d5.size;have D:=D.fr d5;have ho:=ho.fr d5 (by intro k D I;simp at D;subst D;have:=g6 _ I;omega);have a1:=a1.fr d5 t11;have hH:=hH.fr d5 t11;have a2:=a2.fr d5 t11;have hC:=hC.sp d5;have a0:Blk m2 b2 _ [_,_,_,_]:=a6;clear a6;refine z0b<|z0q ?_;clear hC b7 O f8;refine xB (ll3 0 2 8) h U<|tn<|sq ?_;have Z:=(Z.ext<|b1.n4 b6 e7 q30 d4).fr d5;intro a h;refine rgh none (Fr [g2]) ?_;intro k0 e8 hC;have v8:=e8.size;have D:=D.ext e8;have Z:=Z.ext e8;have a0:=a0.ext e8;have O:=D;have a9:=Z;have a5:=a0;refine z0e 0 h U λa h=>z0p 1 h U λa h=>z0c 2 h U z4o U λa h=>z0m 3 h U (λ_ hw=>O.fr hw se) U na3 U λa h=>z0e 4 h U λa h=>z0p 5 h U λa h=>z0c 6 h U z4b U λa h=>z1f (vs:=[_,_]) 7 h U (λ_ hw=>(O.fr hw se)) z4y U U λa h=>z0e 8 h U λa h=>z0p 9 h U λa h=>z0c 10 h U z4d U λa h=>?_;refine z0m 11 h U (λ_ hw=>O.fr hw se) U y6d U λa h=>z0x 12 h U (λ_ hw=>a5.fr hw se) j2j U λa h=>z3j (cs:=[_,_,_,_,_,_,_,_]) 13 h (z0a U<|z0a U<|z0a U<|z0a U z0f) v1x (z0g U<|z0g U<|z0g U<|z0g U z0r) U U λa h=>z0d 14 U ?_;refine z0t h U Z U z9q λk1 a6 d6 hz a h=>?_;have v9:=d6.size;have D:=D.fr d6;have a0:=a0.fr d6;have hC:=hC.sp d6;have Z:Blk k1 g2 _ [_,_,_,_,_,_,_,_]:=a6;clear a6;refine z0b<|z0q ?_;clear hC O a9 a5;refine xB (ll1 2) h U<|tn<|rt<|rC U U Z z8i  ?_;have a1:=(a1.ext e8).fr d6 t11;have hH:=(hH.ext e8).fr d6 t11;have a2:=(a2.ext e8).fr d6 t11;have b3:=(b1.z6 b6 e7 q30 d4 d5 e8);have b4:Fr [] _ k1:=(l12 _ _);have b5:=a4.ext b3;have hW:=(b5.toW.off (f7.ext b3) dd d6).ext b4;have f2:=(b5.fr.fr.step d6 so).next b4;have f5:z2o ts=z2o m.ts:=y7i (h0.trans f9.symm) (λj _=>by rw[e3 j]);exact⟨_,rfl,⟨m.rk,m.q,(some ⟨ka.gy,0,none⟩,6,ka.cy),m.ys,⟨(some ⟨ka.gt,0,none⟩,6,ka.ct),(some ⟨f1,0,none⟩,_,_),(some ⟨b0,0,none⟩,_,_),(some ⟨a8,0,none⟩,_,_),ts,y5l a7,_,y3s m.fl⟩⟩,rfl,⟨hW.b,hW.y,hW.t,a1.low oo,hH.low oo,a2.low oo,(λk D=>by
  have h8:k=b0:=by simpa[z0v,slv] using D
  refine⟨λq hq I=>?_,λt ht l hl I=>?_,λI=>?_⟩;rcases l23.1 hq with hq|hq
  have:=((a4.b.f.2 q hq).blk _ I).2;omega;have:=((a4.b.b.2 q hq).blk _ I).2;omega;obtain⟨i,hi,rfl⟩:=l29 ht;have e:ts.getD i tq0=ts[i]:=by rw[List.getD,l10 hi];rfl
  rw[<-e]at hl;have:=((a4.t.lps i hi l hl).1.blk _ I).2;omega;have:k=a8:=by simpa[z0v,slv] using I
  omega)⟩,by show (⟨m.rk,m.q.p,m.ys.map YQ.p,⟨z2o ts,y5l a7,(z2m m.q.p m.rk).map Hd.id,y3s m.fl⟩⟩:St)=_;rw[f5,g9];rfl,f2⟩
 refine z0u h k6e U λq0 a0 f6 hz a h=>?_;obtain⟨b2,hg⟩:∃g,g=i3.heap.size:=⟨_,rfl⟩;rw[<-hg]at a0 h hz;have i0.gk_8:ka.gk<b2:=by have:=D.lt;omega
 have x0:=f6.size;have ho:=ho.ext f6;have hC:=hC.next f6;refine z0b<|z0d 5 U<|z0n h (z0a U z0f) cO (u2e _ (y5l a7) _ ho.sl (by rw[(z4i a7).length_eq];omega)) ?_;rintro _ r4 ⟨f1,rfl,i9,a1,e9⟩ a h;have x1:=e9.size;have hM:=hM.ext<|f6.n1 e9;have hC:=hC.next e9;have h9:=(a1.blk f1 t10).2;refine z0b<|z0d 14 U<|z0n h (z0a U<|z0a U z0f) cO (y5u m.q m.rk _ hM.b.at hi.B hi.rk) ?_;rintro _ r5 ⟨⟨b0,j4,h6,rfl,h4,hH⟩,q37⟩ a h;have x2:=q37.size;have hM:=hM.ext q37;have hC:=hC.next q37;have h5:=(hH.blk b0 t10).2;refine z0b<|z0d 19 U<|z0n h (z0a U z0f) x6p (z4p _ (y3s m.fl) _ hM.f.sl t63) ?_;rintro _ r6 ⟨a8,rfl,g0,a2,d7⟩ a h;have x3:=d7.size;have D:=D.ext<|f6.n3 e9 q37 d7;have ho:=ho.ext<|e9.n2 q37 d7;have a0:=a0.ext<|e9.n2 q37 d7;have a1:=a1.ext<|q37.n1 d7;have hH:=hH.ext d7;have hC:=hC.next d7;have f3:=(a2.blk a8 t10).2;refine z0b<|z3j (cs:=[_,_,_,_]) 20 h (z0a U<|z0a U<|z0a U<|z0a U z0f) k2q (z0g U<|z0g U<|z0g U<|z0g U z0r) U U λa h=>z0d 22 U ?_;refine z0t h U a0 U k4s λm3 a6 d9 hz a h=>?_;have x4:=d9.size;have D:=D.fr d9;have ho:=ho.fr d9 (by intro k D I;simp at D;subst D;have:=g6 _ I;omega);have a1:=a1.fr d9 t11;have hH:=hH.fr d9 t11;have a2:=a2.fr d9 t11;have hC:=hC.sp d9;have a0:Blk m3 b2 _ [_,_,_,_]:=a6;clear a6;refine z0b<|z0q ?_;clear hC b7 O f8;refine xB (ll3 0 2 8) h U<|tn<|sq ?_;have Z:=(Z.ext<|b1.n4 f6 e9 q37 d7).fr d9;intro a h;refine rgh none (Fr [g2]) ?_;intro k2 f0 hC;have x5:=f0.size;have D:=D.ext f0;have Z:=Z.ext f0;have a0:=a0.ext f0;have O:=D;have a9:=Z;have a5:=a0;refine z0e 0 h U λa h=>z0p 1 h U λa h=>z0c 2 h U z4o U λa h=>z0m 3 h U (λ_ hw=>O.fr hw se) U na3 U λa h=>z0e 4 h U λa h=>z0p 5 h U λa h=>z0c 6 h U z4b U λa h=>z1f (vs:=[_,_]) 7 h U (λ_ hw=>(O.fr hw se)) z4y U U λa h=>z0e 8 h U λa h=>z0p 9 h U λa h=>z0c 10 h U z4d U λa h=>?_;refine z0m 11 h U (λ_ hw=>O.fr hw se) U y6d U λa h=>z0x 12 h U (λ_ hw=>a5.fr hw se) j2j U λa h=>z3j (cs:=[_,_,_,_,_,_,_,_]) 13 h (z0a U<|z0a U<|z0a U<|z0a U z0f) v1x (z0g U<|z0g U<|z0g U<|z0g U z0r) U U λa h=>z0d 14 U ?_;refine z0t h U Z U z9q λk4 a6 e0 hz a h=>?_;have x6:=e0.size;have D:=D.fr e0;have a0:=a0.fr e0;have hC:=hC.sp e0;have Z:Blk k4 g2 _ [_,_,_,_,_,_,_,_]:=a6;clear a6;refine z0b<|z0q ?_;clear hC O a9 a5;refine xB (ll1 2) h U<|tn<|rt<|rC U U Z z8i  ?_;have a1:=(a1.ext f0).fr e0 t11;have hH:=(hH.ext f0).fr e0 t11;have a2:=(a2.ext f0).fr e0 t11;have b3:=(b1.z6 f6 e9 q37 d7 d9 f0);have b4:Fr [] _ k4:=(l12 _ _);have b5:=a4.ext b3;have hW:=(b5.toW.off (f7.ext b3) dd e0).ext b4;have f2:=(b5.fr.fr.step e0 so).next b4;have f5:z2o ts=z2o m.ts:=y7i (h0.trans f9.symm) (λj _=>by rw[e3 j]);exact⟨_,rfl,⟨m.rk,m.q,(some ⟨ka.gy,0,none⟩,6,ka.cy),m.ys,⟨(some ⟨ka.gt,0,none⟩,6,ka.ct),(some ⟨f1,0,none⟩,_,_),(some ⟨b0,0,none⟩,_,_),(some ⟨a8,0,none⟩,_,_),ts,y5l a7,_,y3s m.fl⟩⟩,rfl,⟨hW.b,hW.y,hW.t,a1.low oo,hH.low oo,a2.low oo,(λk D=>by
  have h8:k=b0:=by simpa[z0v,slv] using D
  refine⟨λq hq I=>?_,λt ht l hl I=>?_,λI=>?_⟩;rcases l23.1 hq with hq|hq
  have:=((a4.b.f.2 q hq).blk _ I).2;omega;have:=((a4.b.b.2 q hq).blk _ I).2;omega;obtain⟨i,hi,rfl⟩:=l29 ht;have e:ts.getD i tq0=ts[i]:=by rw[List.getD,l10 hi];rfl
  rw[<-e]at hl;have:=((a4.t.lps i hi l hl).1.blk _ I).2;omega;have:k=a8:=by simpa[z0v,slv] using I
  omega)⟩,by show (⟨m.rk,m.q.p,m.ys.map YQ.p,⟨z2o ts,y5l a7,(z2m m.q.p m.rk).map Hd.id,y3s m.fl⟩⟩:St)=_;rw[f5,g9];rfl,f2⟩
theorem u1o (w0:World):Rets prog 96 #[] w0 λr w'=>(∃g,r=(.slice (saa g) 6 6)/\w0.heap.size<=g/\Lw.Own z5e 114 w0.heap.size w' (.slice (saa g) 6 6) (List.replicate 6 tq0))/\Fr [] w0 w':=by
 exact wf func96 U<|sr<|asg U<|nn<|sr<|z1g (m:=6) (c:=6) (tq0) U x3c k2g U<|λD w1 I O Z z1=>(asg U<|nn<|rt<|r1 U ⟨_,rfl,⟨D,rfl,oo,O.low oo⟩,Z⟩)
theorem x5n (w0:World):Rets prog 45 #[] w0 λr w'=>(∃g,r=.agg #[(.slice (saa g) 6 6),.slice none 0 0,.slice none 0 0,.slice none 0 0]/\w0.heap.size<=g/\Lw.Own z5e 114 w0.heap.size w' (.slice (saa g) 6 6) (List.replicate 6 tq0))/\Fr [] w0 w':=by
 refine wf func45 U<|sr<|al k6e U<|λg0 w1 a0 D q1 z1=>(nn<|sr<|cl z0f cO (u1o _) ?_);rintro _ w2 ⟨⟨Z,rfl,a1,I⟩,q2⟩;refine z1r (cs:=[_,_,_,_]) (ev1 U) k2q (z0g U z0r) U ?_;have D:=D.ext q2;refine z0j U D k4s (λw3 D O z3=>?_) (hl:=rfl);refine nn<|rt<|rC U U D j2j  ?_;have I:=I.fr O t11;exact⟨_,rfl,⟨Z,rfl,oo,I.low oo⟩,(q1.z2 q2 O)⟩
abbrev st0 (gy gt:Nat):StQ:=(⟨0,⟨sv0,sv0,[],[]⟩,(some ⟨gy,0,none⟩,6,6),List.replicate 6 yq0,⟨(some ⟨gt,0,none⟩,6,6),sv0,sv0,sv0,List.replicate 6 tq0,[],[],[]⟩⟩:StQ)
theorem k8j {w:World}{O I b:Nat}(hy:Lw.Own z3w 110 b w (.slice (saa O) 6 6) (List.replicate 6 yq0))(ht:Lw.Own z5e 114 b w (.slice (saa I) 6 6) (List.replicate 6 tq0)):StO τd 122 b w (st0 O I):=by
 have ey:∀i,(st0 O I).ys.getD i yq0=yq0:=λi=>by
  show (List.replicate 6 yq0).getD i yq0=yq0;rw[List.getD,l62];split<;>rfl
 have et:∀i,(st0 O I).fb.ts.getD i tq0=tq0:=λi=>by
  show (List.replicate 6 tq0).getD i tq0=tq0;rw[List.getD,l62];split<;>rfl
 refine⟨⟨⟨Own.nil w,λq D=>(by cases D)⟩,⟨Own.nil w,λq D=>(by cases D)⟩⟩,⟨hy,λi _=>?_⟩,⟨ht,λi _=>?_,λi j _ _ _ k Z=>?_,λi _ q D=>?_⟩,Own.nil w,Own.nil w,Own.nil w,λk Z=>(by cases Z)⟩;rw[ey i];exact Own.nil w;rw[et i];exact Own.nil w;rw[et i]at Z;cases Z;rw[et i]at D;cases D
theorem q0f (I D:Nat):(st0 I D).p=G08.stM G08.start:=by
 have e1:y5l []=[]:=by unfold y5l;simp
 have e2:y3s []=[]:=by unfold y3s;simp
 show _=(⟨0,⟨[],[]⟩,List.replicate 6 yn0,⟨List.replicate 6 [],y5l [],(z2m ⟨[],[]⟩ 0).map Hd.id,y3s []⟩⟩:St);rw[e1,e2];rfl
theorem v6u (w0:World):Rets prog 18 #[] w0 λr w'=>(∃O I,r=(svv<|st0 O I)/\StO τd 122 w0.heap.size w' (st0 O I))/\Fr [] w0 w':=by
 refine wf func18 U<|sr<|al y5r U<|λg0 w1 a5 D q1 z1=>(nn<|sq ?_);intro a h;refine rgh none (Fr [g0]) ?_;intro w2 q2 hC;have z2:=q2.size;have D:=D.ext q2;have Z:=D;refine z1v 0 1 kr U ?_ ?_;refine y0j (m:=6) (c:=6) (yq0) h U U y6n z6w U oo oo U λg1 w3 a1 hy q3 _hz a h=>?_;have z3:=q3.size;have hC:=hC.next q3;have a4:=(hy.blk g1 t10).2;refine z0b<|z0d 1 U<|z0n h z0f cO (x5n _) ?_;rintro _ w4 ⟨⟨g2,rfl,a2,ho⟩,q4⟩ a h;have z4:=q4.size;have D:=D.ext<|q3.n1 q4;have hy:=hy.ext q4;have hC:=hC.next q4;have a3:=(ho.blk g2 t10).2;refine z0b<|z3j (cs:=[_,_,_,_,_,_,_,_]) 2 h (z0a U<|z0a U z0f) v1x (z0g U<|z0g U z0r) U U λa h=>z0d 3 U ?_;refine z0t h U D U z9q λw5 a0 q5 hz a h=>?_;have z5:=q5.size;have hy:=hy.fr q5 t11;have ho:=ho.fr q5 t11;have hC:=hC.sp q5;have D:Blk w5 g0 _ [_,_,_,_,_,_,_,_]:=a0;clear a0;refine z0b<|z0q ?_;clear hC Z;exact xB (ll1 0) h U<|tn<|rt<|rC U U D z8i  ⟨_,rfl,⟨g1,g2,rfl,k8j (hy.low oo)<|ho.low oo⟩,(q1.z4 q2 q3 q4 q5)⟩;refine z0n h z0f cO (x5n _) ?_;rintro _ w6 ⟨⟨g2,rfl,a2,ho⟩,q6⟩ a h;have z6:=q6.size;have hC:=hC.next q6;have a3:=(ho.blk g2 t10).2;refine z0b<|z0d 0 U<|y0j (m:=6) (c:=6) (yq0) h U U y6n z6w U oo oo U λg1 w7 a1 hy q7 _hz a h=>?_;have z7:=q7.size;have D:=D.ext<|q6.n1 q7;have ho:=ho.ext q7;have hC:=hC.next q7;have a4:=(hy.blk g1 t10).2;refine z0b<|z3j (cs:=[_,_,_,_,_,_,_,_]) 2 h (z0a U<|z0a U z0f) v1x (z0g U<|z0g U z0r) U U λa h=>z0d 3 U ?_;refine z0t h U D U z9q λw8 a0 q8 hz a h=>?_;have z8:=q8.size;have ho:=ho.fr q8 t11;have hy:=hy.fr q8 t11;have hC:=hC.sp q8;have D:Blk w8 g0 _ [_,_,_,_,_,_,_,_]:=a0;clear a0;refine z0b<|z0q ?_;clear hC Z;exact xB (ll1 0) h U<|tn<|rt<|rC U U D z8i  ⟨_,rfl,⟨g1,g2,rfl,k8j (hy.low oo)<|ho.low oo⟩,(q1.z4 q2 q6 q7 q8)⟩
theorem y8k {α:Type}{l1 l2:List α}(d:α)(hl:l1.length=l2.length)(h:∀j,j<l1.length->l1.getD j d=l2.getD j d):l1=l2:=by
 refine l71 hl λj D I=>?_;have:=h j D;rwa [List.getD,List.getD,l10 D,l10 I]at this
theorem u1v (v1 v2:Value)(l1 l2:List LId)(w0:World)(h1:Sl z1h w0 v1 l1)(Z:Sl z1h w0 v2 l2)(hl:l1.length<=100000):Rets prog 49 #[v1,v2] w0 λr w'=>r=.bool (decide (l1=l2))/\Fr [] w0 w':=by
 obtain⟨A1,k1,rfl,a6⟩:=id h1.form;obtain⟨A2,k2,rfl,a7⟩:=id Z.form;refine wf func49 U ?_;have a2:=h1;have a3:=Z;refine sr<|asg U<|nn<|sq<|sr<|mv U<|lnS U<|mv U<|lnS U<|ne' U<|nn<|cd U (λc0=>?_)<|λc0=>?_;refine sr<|asg U<|nn<|rt<|tr<|r1 U ?_;exact⟨_,rfl,congrArg Value.bool (decide_eq_false<|λe=>c0 t15).symm,(l12 _ _)⟩;refine sk<|tn<|sq<|sr<|mv U<|lnS U<|mv U<|nn<|bl<|lpK (ι:=Nat) (ll3 0 1 12) (λi=>[(13,.int .i64 (i:Int))]) (λi w'=>Fr [] w0 w'/\i<=l1.length/\∀j,j<i->l1.getD j id0=l2.getD j id0) (λi=>l1.length-i) 0 U ⟨l12 _ _,⟨l16 _,λj h=>absurd h oo⟩⟩ ?_;rintro i w1 ⟨q1,⟨hi,hz⟩⟩;refine kpC (ll4 0 1 12 13) U<|sr<|lt' U<|nn<|sq<|cd U (λc1=>?_)<|λc1=>?_;refine sk<|tn<|sq<|bl<|sr<|mv U<|asg U<|nn<|sq ?_;have h1:=a2.ext q1;have Z:=a3.ext q1;intro a h;have D:=l12 [] w1;refine z3d (Fr []) z2s ?_;intro w2 hq;have h1:=h1.ext hq;have Z:=Z.ext hq;have D:=D.next hq;have a8:=hq.size;have hC:Fr [] w2 w2:=l12 _ _;have I:=h1;have O:=Z;refine z0e 0 h U λa h=>z0e 1 h U λa h=>z1d (id0) 2 h U h1 U z4m U ?_ (hp:=rfl);intro a4 a0 a h;refine z1z 3 h wn U (λ_ hw=>a0 _<|I.ext hw) z2y U λa h=>z0e 4 h U λa h=>z0e 5 h U λa h=>z1d (id0) 6 h U Z U z4m U ?_ (hp:=rfl);intro a5 a1 a h;refine z1z 7 h wn U (λ_ hw=>a1 _<|O.ext hw) z2y U λa h=>j1z (V:=idV) (e:=_) (f:=_) 8 hC h wn U U k8w U U λa h=>z0q ?_;clear hC I O;refine xB (ll5 0 1 12 13 24) h U<|tn<|cd U (λc2=>?_)<|λc2=>?_;refine sr<|asg U<|nn<|rt<|rb<|tr<|tr<|rb<|tr<|r1 U ?_;exact⟨_,rfl,congrArg Value.bool (decide_eq_false<|λe=>c2 t15).symm,(q1.n1 D)⟩;refine sk<|bn'<|tn<|rg<|ad6 U<|mv U<|nl ?_;exact lpE (i+1) U ⟨(q1.n1 D),⟨oo,λj h=>by
  by_cases e:j=i;subst e;exact l15.1 c2;exact hz j oo⟩⟩ oo
 obtain rfl:i=l1.length:=by omega
 refine ex<|te<|te<|xh<|tn<|sr<|asg U<|nn<|rt<|r1 U ?_;exact⟨_,rfl,congrArg Value.bool (decide_eq_true<|y8k id0 oo<|λj hj=>hz j oo).symm,q1⟩
open Go.Lw Go.G21 Go.G08 _root_.Go.Proofs.Tryz
open Classical in
noncomputable def v7k (s:StQ)(eb ef:Int):Int:=if ¬(-4<=s.rk/\s.rk<=4) then 11 else if eb≠0 then eb else if s.ys.length≠6 then 5 else if ∃i,i<6/\¬y0z (s.ys.getD i yq0).p then 1 else if ef≠0 then ef else if s.fb.hs≠(z2m s.q.p s.rk).map Hd.id then 6 else if ∃i,i<6/\(s.ys.getD i yq0).ct≠((s.fb.ts.getD i tq0).2.length:Int) then 6 else 0
theorem u9i (s:StQ)(eb ef:Int)(w0:World)(O:StAt w0 s)(b8:∀w,BdAt w s.q->Rets prog 46 #[bvv s.q] w λr w'=>r=.int .i64 eb/\Fr [] w w')(hB:eb=0->BdOk s.q.p)(b5:ef=0->s.fb.ts.length=6)(b9:∀w,FbAt w s.fb->Rets prog 48 #[fvv s.fb] w λr w'=>r=.int .i64 ef/\Fr [] w w')(d4:s.fb.hs.length<=100000):Rets prog 19 #[svv s] w0 λr w'=>r=.int .i64 (v7k s eb ef)/\Fr [] w0 w':=by
 have f2:=z2f O.y;have f1:=z2f O.f.t;refine wf func19 U ?_;have a0:=O;refine sr<|bx U<|λg1 w1 e6 D q1 z1=>(asg U<|nn<|sq<|sq<|rbo (r:=17) (L':=ll1 1) (((s.rk < -4)\/(4<s.rk))) U ?_ ?_);refine fad U y2s<|z0i U D U na3<|lt' U<|mv U<|gs 13 U (λg0=>?_)<|λg0=>?_;exact gN U<|gN U<|gN U<|pkt U<|rbe U<|U;exact gY U<|fad U y2s<|gY U<|z0i U D U na3<|gY U<|gt' U<|pkf U<|rbe U<|U;refine tn<|cd U (λc0=>?_)<|λc0=>?_;exact sr<|asg U<|nn<|rt<|tr<|r1 U ⟨_,rfl,by unfold v7k;rw[if_pos oo],q1⟩;have hr:-4<=s.rk/\s.rk<=4:=by omega
 refine sk<|tn<|sq<|sr<|fad U z7f<|z1u (vs:=[_,_]) U D z4y U ?_;have O:=a0.ext q1;refine cl (ev1 U) cO (b8 _ O.b) ?_;rintro _ w2 ⟨rfl,q2⟩;have z2:=q2.size;refine asg U<|nn<|sr<|mv U<|ne' U<|nn<|cd U (λc1=>?_)<|λc1=>?_;exact sr<|mv U<|asg U<|nn<|rt<|tr<|r1 U ⟨_,rfl,by unfold v7k;rw[if_neg oo,if_pos c1],(q1.n1 q2)⟩;have d1:eb=0:=by omega
 refine sk<|tn<|sq<|sr<|fad U v2k ?_;have D:=D.ext q2;refine z0i U D U y6d<|lnS U<|ne' U<|nn<|cd U (λc2=>?_)<|λc2=>?_;exact sr<|asg U<|nn<|rt<|tr<|r1 U ⟨_,rfl,by unfold v7k;rw[if_neg oo,if_neg oo,if_pos oo],(q1.n1 q2)⟩;have f0:s.ys.length=6:=by omega
 refine sk<|tn<|sq<|sr<|fad U v2k<|z0i U D U y6d<|lnS U<|mv U<|nn<|bl<|lpK (ι:=Nat) (ll3 1 29 30) (λi=>[(31,.int .i64 (i:Int))]) (λi w'=>Fr [] w2 w'/\i<=6/\∀k,k<i->y0z (s.ys.getD k yq0).p) (λi=>6-i) 0 U ⟨l12 _ _,⟨l16 _,λk h=>absurd h oo⟩⟩ ?_;rintro i w3 ⟨q3,⟨hi,a7⟩⟩;have z3:=q3.size;refine kpC (ll4 1 29 30 31) U<|sr<|lt' U<|nn<|sq<|cd U (λc3=>?_)<|λc3=>?_;refine sk<|tn<|sq<|bl<|sr ?_;have O:=a0.ext<|q1.n2 q2 q3;refine z1a (yq0) U O.y U y6n z1j<|λd7 b1=>?_;refine z1q U (b1 _ O.y) z3v<|al z6w U<|λg5 w4 e7 b0 q4 z4=>?_;refine z0j (vs:=[_,_,_,_,_]) U b0 z3y (λw5 b0 q5 z5=>?_) (h1:=(by first|(simp[Value.oneCell',S];done)|exact z3w.one _));refine nn<|sr<|z0l U b0 z3v ?_;have O:=a0.ext<|q1.z4 q2 q3 q4 q5;refine cl (ev1 U) k5g (y0e (s.ys.getD i yq0) _<|O.ya i) ?_;rintro _ w6 ⟨rfl,q6⟩;have z6:=q6.size;refine asg U<|nn<|sr<|mv U<|ne' U<|nn<|cd U (λc4=>?_)<|λc4=>?_;refine sr<|mv U<|asg U<|kpL (ll1 2) U<|nn<|rt<|rb<|tr<|tr<|rb<|tr<|r1 U ?_;have b6:¬y0z (s.ys.getD i yq0).p:=λh=>c4<|j1v h;exact⟨_,rfl,by unfold v7k;rw[if_neg oo,if_neg oo,if_neg oo,if_pos ⟨i,oo,b6⟩,j6o b6],(q1.z5 q2 q3 q4 q5 q6)⟩;refine sk<|bn'<|tn<|rg<|ad6 U<|mv U<|nl ?_;exact lpE (i+1) U ⟨(q3.z3 q4 q5 q6),⟨oo,λk h=>by
  by_cases e:k=i;subst e;exact l63 λh=>c4 (by rw[j6o h];decide);exact a7 k oo⟩⟩ oo
 obtain rfl:i=6:=by omega
 refine ex<|te<|te<|xh<|tn<|sq<|sr<|fad U z6b ?_;have D:=D.ext q3;refine z1u (vs:=[_,_,_,_]) U D j2j U ?_;have O:=a0.ext<|q1.n2 q2 q3;refine cl (ev1 U) cO (b9 _ O.f) ?_;rintro _ w7 ⟨rfl,q7⟩;have z7:=q7.size;refine asg U<|kpL (ll2 1 7) U<|nn<|sr<|mv U<|ne' U<|nn<|cd U (λc5=>?_)<|λc5=>?_;refine sr<|mv U<|asg U<|nn<|rt<|tr<|r1 U ?_;have a1:¬ ∃i,i<6/\¬y0z (s.ys.getD i yq0).p:=λ⟨k,hk,h⟩=>h<|a7 k oo;exact⟨_,rfl,by unfold v7k;rw[if_neg oo,if_neg oo,if_neg oo,if_neg a1,if_pos c5],(q1.n3 q2 q3 q7)⟩;have d3:ef=0:=by omega
 have e9:=b5 d3;refine sk<|tn<|sq<|sq ?_;have O:=a0.ext<|q1.n3 q2 q3 q7;intro a h;refine rgh none (Fr []) ?_;intro w8 q8 hC;have z8:=q8.size;have O:=O.ext q8;have D:=D.ext<|q7.n1 q8;have a3:=O;have I:=D;refine z0c 0 h U z6b U λa h=>z4r 1 h U z8a U λa h=>z0m 2 h U (fx I.ext) U z6k U λa h=>z0c 3 h U z7f U λa h=>z1f (vs:=[_,_]) 4 h U (fx I.ext) z4y U U λa h=>z0c 5 h U y2s U λa h=>z0m 6 h U (fx I.ext) U na3 U λa h=>z0d 7 U<|z0n h (z0a U<|z0a U z0f) cO (y5u s.q s.rk _ O.b (hB d1) hr) ?_;rintro _ w9 ⟨⟨e5,f3,e4,rfl,e3,hH⟩,q9⟩ a h;have z9:=q9.size;have O:=O.ext q9;have hC:=hC.next q9;refine z0b<|z0d 8 U<|z0n h (z0a U<|z0a U z0f) cO (u1v _ _ s.fb.hs ((z2m s.q.p s.rk).map Hd.id) _ O.f.h hH.sl d4) ?_;rintro _ d6 ⟨rfl,Z⟩ a h;have f7:=Z.size;have O:=O.ext Z;have D:=D.ext<|q9.n1 Z;have hH:=hH.ext Z;have hC:=hC.next Z;refine z0b<|y1l 9 hC h wn U U λa h=>z0q ?_;clear hC a3 I;refine xB (ll2 1 56) h U<|tn<|cd U (λc6=>?_)<|λc6=>?_;refine sr<|asg U<|nn<|rt<|tr<|r1 U ?_;have a1:¬ ∃i,i<6/\¬y0z (s.ys.getD i yq0).p:=λ⟨k,hk,h⟩=>h<|a7 k oo;exact⟨_,rfl,by unfold v7k;rw[if_neg oo,if_neg oo,if_neg oo,if_neg a1,if_neg oo,if_pos c6],(q1.n6 q2 q3 q7 q8 q9 Z)⟩;refine sk<|tn<|sq<|sr<|fad U v2k<|z0i U D U y6d<|lnS U<|mv U<|nn<|bl<|lpK (ι:=Nat) (ll3 1 58 59) (λi=>[(60,.int .i64 (i:Int))]) (λi w'=>Fr [] d6 w'/\i<=6/\∀k,k<i->(s.ys.getD k yq0).ct=((s.fb.ts.getD k tq0).2.length:Int)) (λi=>6-i) 0 U ⟨l12 _ _,⟨l16 _,λk h=>absurd h oo⟩⟩ ?_;rintro i f4 ⟨a2,⟨hi,b4⟩⟩;have f8:=a2.size;refine kpC (ll4 1 58 59 60) U<|sr<|lt' U<|nn<|sq<|cd U (λc7=>?_)<|λc7=>?_;refine sk<|tn<|sq<|bl<|sr<|mv U ?_;have O:=a0.ext<|(q1.n6 q2 q3 q7 q8 q9 Z).n1 a2;refine z1a (yq0) U O.y U y6n z1j<|λd9 b2=>?_;refine z1q U (b2 _ O.y) z3v<|al z6w U<|λg9 f5 e8 a5 a8 f9=>?_;refine asg U<|z0j (vs:=[_,_,_,_,_]) U a5 z3y (λf6 a5 a9 g3=>?_) (h1:=(by first|(simp[Value.oneCell',S];done)|exact z3w.one _));refine nn<|sq ?_;have O:=a0.ext<|(((q1.n6 q2 q3 q7 q8 q9 Z).n1 a2).n1 a8).z1 a9;have D:=(D.ext<|a2.n1 a8).fr a9;intro a h;refine rgh none (Fr []) ?_;intro b7 a4 hC;have g4:=a4.size;have O:=O.ext a4;have D:=D.ext a4;have a5:=a5.ext a4;have a3:=O;have I:=D;have a6:=a5;refine z0c 0 h U z9g U λa h=>z0m 1 h U (fx a6.ext) U na3 U λa h=>z0c 2 h U z6b U λa h=>z4r 3 h U y5g U λa h=>z0m 4 h U (fx I.ext) U v4f U λa h=>z0e 5 h U λa h=>z1d (tq0) 6 h U O.f.t U x3c U ?_ (hp:=rfl);intro e0 b3 a h;refine z2h 7 h U (λ_ hw=>b3 _<|a3.f.t.ext hw) y2x U λa h=>z8b 8 hC h wn U underlying114 U λa h=>u3b 9 hC h wn U U U U λa h=>z0q ?_;clear hC a3 I a6;refine xB (ll5 1 58 59 60 74) h U<|tn<|cd U (λc8=>?_)<|λc8=>?_;refine sr<|asg U<|nn<|rt<|rb<|tr<|tr<|rb<|tr<|r1 U ?_;have a1:¬ ∃i,i<6/\¬y0z (s.ys.getD i yq0).p:=λ⟨k,hk,h⟩=>h<|a7 k oo;have c9:(s.ys.getD i yq0).ct≠((s.fb.ts.getD i tq0).2.length:Int):=by simp only[l95]at c8;have d5:=z2f (a0.f.tt _<|z1b (d:=tq0) (i:=i) oo).1;omega
 exact⟨_,rfl,by unfold v7k;rw[if_neg oo,if_neg oo,if_neg oo,if_neg a1,if_neg oo,if_neg c6,if_pos ⟨i,oo,c9⟩],((((q1.n6 q2 q3 q7 q8 q9 Z).n1 a2).n1 a8).z2 a9 a4)⟩;refine sk<|bn'<|tn<|rg<|ad6 U<|mv U<|nl ?_;exact lpE (i+1) U ⟨(a2.z3 a8 a9 a4),⟨oo,λk h=>by
  by_cases e:k=i;subst e;simp only[l95]at c8;have d5:=z2f (a0.f.tt _<|z1b (d:=tq0) (i:=k) oo).1;omega;exact b4 k oo⟩⟩ oo
 obtain rfl:i=6:=by omega
 refine ex<|te<|te<|xh<|tn<|sr<|asg U<|nn<|rt<|r1 U ?_;have a1:¬ ∃i,i<6/\¬y0z (s.ys.getD i yq0).p:=λ⟨k,hk,h⟩=>h<|a7 k oo;have d0:¬ ∃i,i<6/\(s.ys.getD i yq0).ct≠((s.fb.ts.getD i tq0).2.length:Int):=λ⟨k,hk,h⟩=>h<|b4 k oo;exact⟨_,rfl,by unfold v7k;rw[if_neg oo,if_neg oo,if_neg oo,if_neg a1,if_neg oo,if_neg c6,if_neg d0],((q1.n6 q2 q3 q7 q8 q9 Z).n1 a2)⟩
theorem k2a {s:StQ}(Z:-4<=s.rk/\s.rk<=4)(O:s.ys.length=6)(D:∀i,i<6->y0z (s.ys.getD i yq0).p/\(s.ys.getD i yq0).ct=((s.fb.ts.getD i tq0).2.length:Int))(I:s.fb.hs=(z2m s.q.p s.rk).map Hd.id):v7k s 0 0=0:=by
 unfold v7k;rw[if_neg oo,if_neg dd,if_neg oo,if_neg (λ⟨k,hk,h⟩=>h (D k hk).1),if_neg dd,if_neg (λh=>h I),if_neg (λ⟨k,hk,h⟩=>h (D k hk).2)]
theorem k0t (s:StQ)(w0:World)(hS:StAt w0 s)(hr:-4<=s.rk/\s.rk<=4)(hB:BdOk s.q.p)(Z:s.ys.length=6)(O:s.fb.ts.length=6)(a0:∀i,i<6->y0z (s.ys.getD i yq0).p/\(s.ys.getD i yq0).ct=((s.fb.ts.getD i tq0).2.length:Int))(D:∀w,FbAt w s.fb->Rets prog 48 #[fvv s.fb] w λr w'=>r=.int .i64 0/\Fr [] w w')(hh:s.fb.hs=(z2m s.q.p s.rk).map Hd.id)(I:s.fb.hs.length<=100000):Rets prog 19 #[svv s] w0 λr w'=>r=.int .i64 0/\Fr [] w0 w':=by
 have x:=u9i s 0 0 w0 hS (λw h=>x3r s.q w h hB) (λ_=>hB) (λ_=>O) D I;rw[k2a hr Z a0 hh]at x;exact x
open Go.Lw Go.G21 Go.G08 _root_.Go.Proofs.Tryz
theorem y2n:ElemOf prog 38 50 z3c 40:=ElemOf.mk' (z:=(.agg #[.int .u8 0,.int .u8 0,.int .u8 0,.int .i64 0,.int .u8 0,.int .i64 0])) underlying38 kr U
theorem v5u:z1s prog 50 6:=λ_=>kr
theorem u5d (w:World):(zeroValue 50).run prog w=.ok (.agg #[(.int .u8 0),(.int .u8 0),(.int .u8 0),(.int .i64 0),(.int .u8 0),(.int .i64 0)]) w:=kr
theorem x2n {D p q:MSt}{o:MOp}:∀ {l:List MOp} {i:Nat},z2u i D l=.ok p->doM p o=.ok q->z2u i D (l++[o])=.ok q
 | [],i,h,h2=>by cases h;show z2u i D [o]=_;unfold z2u;rw[h2];rfl
 | x::l,i,h,h2=>by
  unfold z2u at h
  show z2u i D (x::(l++[o]))=_
  unfold z2u
  split at h
  ·cases h
  rename_i q' I
  exact x2n h h2
theorem u0j {D p:MSt}{e:Int}{o:MOp}:∀ {l r:List MOp} {i:Nat},z2u i D l=.ok p->doM p o=.error e->z2u i D (l++o::r)=.error (e,i+l.length)
 | [],r,i,h,h2=>by cases h;show z2u i D (o::r)=_;unfold z2u;rw[h2];rfl
 | x::l,r,i,h,h2=>by
  unfold z2u at h
  show z2u i D (x::(l++o::r))=_
  unfold z2u
  split at h
  ·cases h
  rename_i q' I
  have:=u0j (r:=r) h h2
  simp only[this,l34]
  congr 2;omega
theorem j5j (s:StQ)(v:Value)(l:List MOp)(p0:MSt)(w0:World)(hS:StAt w0 s)(d4:StSz s)(d7:(s.fb.cs.map cxK).Nodup)(b4:p0=(⟨s.rk,⟨z1x<|plB s.q.fs,z1x<|plB s.q.bs⟩,s.ys.map YQ.p,z2o s.fb.ts,s.fb.cs,s.fb.fs⟩:MSt))(d9:MInv p0)(hv:Sl z3c w0 v l)(d5:StT w0)(g1:l.length<=4096)(b2:∀w,StAt w s->Rets prog 19 #[svv s] w λr w'=>r=.int .i64 0/\Fr [] w w')(d6:∀p,z2u 0 p0 l=.ok p->p.cr.length<=100000000):Rets prog 8 #[svv s,v] w0 λr w'=>(match z2u 0 p0 l with|.error (e,n)=>r=.tuple #[.agg #[.int .i64 0,.slice none 0 0,.slice none 0 0,.slice none 0 0,.slice none 0 0,.slice none 0 0,.slice none 0 0,.slice none 0 0],.int .i64 (n:Int),.int .i64 e]|.ok p=>∃s':StQ,r=.tuple #[svv s',.int .i64 (l.length:Int),.int .i64 0]/\StO τd 122 w0.heap.size w' s'/\s'.p=stM p)/\Fr [] w0 w':=by
 obtain⟨A,c,rfl,f6,d1,hA⟩:=id hv;clear hA;unfold maxLen at d1;refine wf func8 U ?_;have a9:=hS;have e6:=hv;refine sr<|bx U<|λg2 w1 f7 I q1 z1=>(al y5r U<|λg4 w2 f8 D q2 z2=>(asg U<|asg U<|nn<|sq<|sr<|mv U<|lnS U<|gt' U<|nn<|cd U (λc0=>?_)<|λc0=>?_));refine sr<|z1r (cs:=[_,_,_,_,_,_,_,_]) z0f v1x z0r U ?_;refine z0j (vs:=[_,_,_,_,_,_,_,_]) U D z9q<|λw3 D q3 z3=>(asg U<|asg U<|nn<|rt<|tr<|k8u U U D z8i U U ?_);exfalso;omega;refine sk<|tn<|sq<|sr ?_;have I:=I.ext q2;refine z0l U I z8i ?_;have hS:=a9.ext<|q1.n1 q2;refine cl (ev1 U) cO (b2 _ hS) ?_;rintro _ w4 ⟨rfl,q4⟩;have z4:=q4.size;refine asg U<|nn<|sr<|mv U<|ne' U<|nn<|cd U (λc1=>?_)<|λc1=>?_;refine sr<|z1r (cs:=[_,_,_,_,_,_,_,_]) z0f v1x z0r U ?_;refine mv U ?_;have D:=D.ext q4;exact z0j (vs:=[_,_,_,_,_,_,_,_]) U D z9q<|λw5 D q5 z5=>(asg U<|asg U<|kpL (ll3 4 5 6) U<|nn<|rt<|tr<|k8u U U D z8i U U<|absurd U t13);refine sk<|tn<|sr ?_;have I:=I.ext q4;refine z0l U I z8i ?_;have hS:=a9.ext<|q1.n2 q2 q4;have D:=D.ext q4;refine cl (z0a U z0f) cO (u2h s _ hS d4 d7) ?_;rintro _ w6 ⟨ka,m,rfl,O,b3⟩;have q6:=O.fr.fr;have z6:=q6.size;have a2:=D;have f3:=O.c.lt;have a3:=O;refine cl z0f cO (v7u _) ?_;rintro _ w7 ⟨⟨gl,rfl,f9,hl⟩,q7⟩;have z7:=q7.size;refine asg U<|asg U<|kpL (ll4 1 4 8 9) U<|nn<|sq<|sr<|mv U<|lnS U<|mv U<|nn<|bl ?_;have O:=a3.ext q7;refine lpK (ι:=Nat) (ll6 1 4 8 9 26 27) (λi=>[(28,.int .i64 (i:Int))]) (λi w'=>Fr [] w4 w'/\i<=l.length/\∃m:MQ,MkM τd 120 w4 ka w' m/\z2u 0 p0 (l.take i)=.ok m.p/\MInv m.p/\MapF kV w' gl k6o) (λi=>l.length-i) 0 U ⟨(q6.n1 q7),⟨l16 _,m,O,by rw[b3,<-b4];rfl,by rw[b3,<-b4];exact d9,hl⟩⟩ ?_;rintro i w8 ⟨q8,⟨g0,m,O,a0,a4,hl⟩⟩;have z8:=q8.size;have a3:=O;refine kpC (ll7 1 4 8 9 26 27 28) U ?_;have f4:gl<w8.heap.size:=by obtain⟨_,_,_,b8,_⟩:=hl;exact(l17.1 b8).1
 refine sr<|lt' U<|nn<|sq<|cd U (λc2=>?_)<|λc2=>?_;have a6:i<l.length:=by omega
 refine sk<|tn<|sq<|bl<|sr<|mv U ?_;have hv:=e6.ext<|q1.n3 q2 q4 q8;refine z1a (op0) U hv U y2n z1j<|λf1 b1=>?_;refine z1q U (b1 _ hv) y3t<|al u5d U<|λf5 w9 f2 Z q9 z9=>(asg U<|z0j (vs:=[_,_,_,_,_,_]) U Z v5u<|λe8 Z b5 g7=>(nn<|sr<|mv U<|mv U<|z0l U Z y3t ?_));have O:=a3.ext<|q9.z1 b5;have hl:=(hl.ext q9).fr b5 (by simp only[l11];omega);have d0:=O.fr;refine cl (z0a U<|z0a U<|z0a U z0f) cO (j1o w4 { ka with wk:=e8 } m (l.getD i op0) gl _ O.mark a4 (d5.ext<|q1.n2 q2 q4) hl) ?_;intro _ g3 hR;obtain⟨rfl,a1,m1,e0⟩:=hR.split;have f0:=a1.kp.size;simp only at f0;have b6:=a1.fr;have hl:=a1.kp.mapF hl sm;refine asg U<|nn<|sr<|mv U<|ne' U<|nn<|cd U (λc3=>?_)<|λc3=>?_;have D:=a2.ext a1.fr;refine sr<|z1r (cs:=[_,_,_,_,_,_,_,_]) z0f v1x z0r U ?_;refine mv U<|mv U<|z0j (vs:=[_,_,_,_,_,_,_,_]) U D z9q<|λg5 D e7 g8=>(asg U<|asg U<|kpL (ll3 4 5 6) U<|nn<|rt<|rb<|tr<|tr<|rb<|tr<|k8u U U D z8i U U ?_);have e4:z2u 0 p0 l=.error (u8o<|doM m.p<|l.getD i op0,i):=by
  have x:=u0j (r:=l.drop<|i+1) a0<|y1d c3;have e:l.take i++l.getD i op0::l.drop (i+1)=l:=by
   rw[List.getD,l10 a6,l59,<-l33 a6,l25]
  rw[e,l27,Nat.min_eq_left oo,l72]at x;exact x
 exact⟨_,rfl,by rw[e4],(q1.z4 q2 q4 b6 e7)⟩;obtain⟨c9,a5⟩:=e0<|l15.1 c3;have a8:=c9.unmark d0;obtain⟨m2,e3⟩:∃m2,m2=m1:=⟨_,rfl⟩;rw[<-e3]at a8 a5;exact sk<|bn'<|tn<|rg<|ad6 U<|mv U<|nl<|lpE ((i+1)) U ⟨b6,⟨oo,m2,a8,by rw[show l.take (i+1)=l.take i++[l.getD i op0] by rw[l54,List.getD,l10 a6];rfl];exact x2n a0 a5,z8m a4 a5,hl⟩⟩ oo;obtain rfl:i=l.length:=by omega
 rw[l40]at a0;refine ex<|te<|te<|xh<|tn<|sr<|mv U<|cl (z0a U z0f) cO (x6s w4 ka m _ O a4<|d6 _ a0) ?_;rintro _ g6 ⟨s',rfl,d3,e5,a7⟩;have g9:=a7.size;have D:=a2.ext a7;have b0:=D;refine mv U<|lnS U<|z0j (vs:=[_,_,_,_,_,_,_,_]) U D z9q<|λe9 D b7 h0=>(asg U<|asg U<|kpL (ll3 4 5 6) U<|nn<|rt<|k8u U U D z8i U U ?_);have b9:Fr [] _ e9:=(l12 _ _);exact⟨_,rfl,by rw[a0];exact⟨s',rfl,((d3.off b0 dd b7).ext b9).low oo,e5⟩,(q1.z4 q2 q4 a7 b7)⟩
end Go.Proofs.YtkafbfjmcigaiaaGreatDoor
