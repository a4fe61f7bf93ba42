/- Texts of the proof, joined. -/
import Derived.Test.YtagnnbcnnmacmaaGreatDoorRows
import Derived.Shelf.SlSortCmp.WholeK
import Derived.Deep.RegionHeld3
import Derived.WalkKit
import Derived.Shelf.SlGeneric
import Derived.Ground.SlsfProg
import Derived.Test.YtagnnbcnnmacmaaGreatDoorProg
import Derived.Test.YtagnnbcnnmacmaaGreatDoorEA4
set_option linter.unusedVariables false
set_option linter.unusedSimpArgs false
set_option maxHeartbeats 4000000
namespace Go.Proofs.YtagnnbcnnmacmaaGreatDoor
open Go.Lw Go.G21 Go.G08 _root_.Go.Proofs.Tryz
theorem u2v (m:MQ)(j:Nat):m.p.ys.getD j yn0=(m.ys.getD j yq0).p:=by
 show (m.ys.map YQ.p).getD j yn0=_;rw[List.getD,List.getD,List.getElem?_map];cases m.ys[j]?<;>rfl
theorem y2c {l:List Cx}{i:Nat}(h:i<l.length):l.take (i+1)=l.take i++[l.getD i cx0]:=by
 rw[List.take_add_one,List.getD,List.getElem?_eq_getElem h];rfl
theorem v4b {l r I:List Cx}{i:Nat}{e:Int}(h:z4s l (r.take i)=.ok I)(hi:i<r.length)(Z:y8o I (r.getD i cx0)=.error e):z4s l r=.error e:=by
 have D:=y3s (c:=r.getD i cx0) h;rw[<-y2c hi,Z]at D;have O:=x4p (r.drop (i+1)) D;rwa [List.take_append_drop]at O
theorem u3u {p:MSt}{c:Cx}{e:Int}(h:j0q p c=.error e):y8o p.cr c=.error e:=by
 unfold j0q at h;split at h;rename_i D;cases h;exact D;cases h
theorem j5m {p q:MSt}{c:Cx}(h:j0q p c=.ok q):∃l,y8o p.cr c=.ok l/\q={ p with cr:=l }:=by
 unfold j0q at h;split at h;cases h;rename_i l D;cases h;exact⟨l,D,rfl⟩
theorem u6x {m:MQ}{d:Int}{D:List YQ}(Z:D.length=6)(I:m.ys.length=6)(a0:∀j,j<6->z9o m.p d (m.ys.getD j yq0).p=.ok (D.getD j yq0).p):z6u m.p d m.p.ys=.ok (D.map YQ.p):=by
 refine y8s (by simp[Z,I]) λj hj=>?_;have O:j<6:=by simpa[I] using hj
 rw[u2v,a0 j O];congr 1;rw[List.getD,List.getD,List.getElem?_map];cases D[j]?<;>rfl
theorem u4g {m:MQ}{d:Int}{D:List YQ}{O:YQ}{i:Nat}(Z:D.length=6)(hi:i<6)(I:∀j,j<i->z9o m.p d (m.ys.getD j yq0).p=.ok (D.getD j yq0).p)(h:z9o m.p d (m.ys.getD i yq0).p=.ok O.p):∀j,j<i+1->z9o m.p d (m.ys.getD j yq0).p=.ok ((D.set i O).getD j yq0).p:=λj hj=>by
 rw[z1i oo]
 by_cases e:i=j
 ·subst e;rw[if_pos U];exact h
 rw[if_neg e];exact I j oo
theorem v7h {m:MQ}{d:Int}{D:List YQ}{i:Nat}(I:∀j,i<=j->D.getD j yq0=m.ys.getD j yq0)(O:∀j,j<i->z9o m.p d (m.ys.getD j yq0).p=.ok (D.getD j yq0).p)(h:(m.ys.getD i yq0).inn=false):∀j,j<i+1->z9o m.p d (m.ys.getD j yq0).p=.ok (D.getD j yq0).p:=λj Z=>by
 by_cases e:j=i
 ·subst e;rw[I j (Nat.le_refl _)];unfold z9o;rw[if_pos h]
 exact O j oo
theorem u7o {m:MQ}{D:List YQ}{Z:YQ}{i:Nat}(O:D.length=6)(hi:i<6)(I:∀j,i<=j->D.getD j yq0=m.ys.getD j yq0):∀j,i+1<=j->(D.set i Z).getD j yq0=m.ys.getD j yq0:=λj hj=>by
 rw[z1i oo,if_neg oo];exact I j oo
theorem j5n (wS:World)(ka:MA)(m:MQ)(d:Int)(w0:World)(hM:MkM τd 156 wS ka w0 m)(hi:MInv m.p)(b2:StT wS)(hd:d=0\/d=1)(d0:-4<=m.rk+stI d/\m.rk+stI d<=4):Rets prog 134 #[.pointer (some ⟨ka.gk,0,none⟩),.int .u8 d] w0 λr w'=>MRet τd 156 wS ka (y4p m.p d) r w':=by
 have g1:=hM.fr.size;have f0:=hM.gk;have hk:=hM.k;have f9:=hk.lt;have b8:=hM.ly;have f2:=(hM.y.out.blk ka.gy (by simp[z0u])).2;have hI:=hi;have f1:ka.gk≠ka.gy:=λe=>Own.neB hM.y.out hM.k dd (by simp[z0u,e]);have g0:(z3q m.q.p m.rk d).length<=640:=by
  have x:(z3q m.q.p m.rk d).length<=16*m.p.B.b.length:=y2y hI.B m.rk d;have y:=hI.B.lb;omega
 refine we [(0,.pointer (some ⟨ka.gk,0,none⟩)),(1,.int .u8 d)] func134 U ntmps134 U (.c2 U U) ?_;have a1:=hM;refine sr (asg U (nn (sq (sr (mv U (nlc U (fad U z3r (z0i U hk U y6b (lnS U underlying38 (mv U (nn (bl (lpK (ι:=Nat) [(0,_),(1,_),(17,_),(18,_)] (λi=>[(19,.int .i64 (i:Int))]) (λi w'=>Fr [ka.gy] w0 w'/\i<=6/\(∃Z:List YQ,Z.length=6/\(∀j,j<i->z9o m.p d (m.ys.getD j yq0).p=.ok (Z.getD j yq0).p)/\(∀j,i<=j->Z.getD j yq0=m.ys.getD j yq0)/\MkM τd 156 wS ka w' { m with ys:=Z })) (λi=>6-i) 0 (.c5 U U U U U) ⟨Fr.refl _ _,⟨Nat.zero_le _,⟨m.ys,b8,λj hj=>oo,λj _=>rfl,hM⟩⟩⟩ ?_)))))))))))));rintro i w1 ⟨q1,⟨hi,⟨Z,a5,a7,a6,hM⟩⟩⟩;have z1:=q1.size;have a1:=hM;refine kpC [(0,_),(1,_),(17,_),(18,_),(19,_)] (.c5 U U U U U) ?_;have hk:=hM.k;refine sr (lt' U (nn (sq (cd U (λc0=>?_) (λc0=>?_)))));have f8:i<6:=by omega
 refine sk (tn (sq (bl (sr (mv U (z0x (yq0) U (show Sl z3l _ ka.YV Z from hM.y.out.sl) U y5h z1m (λe6 b4=>?_)))))));refine z1t U (b4 _ (show Sl z3l _ ka.YV Z from hM.y.out.sl)) z3k (al z6j U (λg6 w2 f6 D q2 z2=>?_));refine asg U (z0k (vs:=[_,_,_,_,_]) U D z3o (λw3 D q3 z3=>?_) (h1:=(by first|(simp[Value.oneCell',S];done)|exact z3l.one (m.ys.getD i yq0))));rw[a6 i (Nat.le_refl _)]at D;refine nn (sq (sr (fad U z8r (z0i U D U na4 (nt' U (nn (cd U (λc1=>?_) (λc1=>?_))))))));refine ex (te (xh (tn (rg (z0q U (wi6 oo) (mv U (nl ?_)))))));replace hM:=a1.ext (q2.z1 q3);exact lpE (i+1) (.c5 U U U U U) ⟨((Fr.refl [ka.gy] _).z3 q1 q2 q3),⟨oo,⟨Z,a5,v7h a6 a7 (by simpa using c1),λj hj=>a6 j oo,hM⟩⟩⟩ oo;have d1:=(hI.yn i oo).1;rw[u2v]at d1;have c9:=j9v (by have:=d1.2;rw[if_pos (by simpa using c1)]at this;exact this.1);have f3:(z8a m.q.p m.rk d (m.ys.getD i yq0).pl).length<=50000:=by
  have x:(z8a m.q.p m.rk d (m.ys.getD i yq0).pl).length<=4*m.p.B.b.length:=x4v hI.B m.rk d _;have y:=hI.B.lb;omega
 refine sk (tn (sq ?_));replace hM:=a1.ext (q2.z1 q3);replace hk:=(hk.ext q2).fr q3;intro a h;refine z0h none (λwb w'=>Fr [] wb w') z2y ?_;intro w4 q4;have z4:=q4.size;replace hM:=hM.ext q4;replace hk:=hk.ext q4;replace D:=D.ext q4;have hC:Fr [] w4 w4:=Fr.refl _ _;have a0:=hM;have I:=hk;have O:=D;refine z0d 0 h U λa h=>z0o 1 h U λa h=>z0c 2 h U z3s U λa h=>z1d (vs:=[_,_]) 3 h U (λ_ hw=>(I.ext hw)) z6k U U λa h=>z0d 4 h U λa h=>z0o 5 h U λa h=>z0c 6 h U z4k U λa h=>z0j 7 h U (λ_ hw=>I.ext hw) U na3 U λa h=>z0d 8 h U λa h=>z0c 9 h U z5s U λa h=>z0j 10 h U (λ_ hw=>O.ext hw) U na3 U λa h=>z0e 11 U (z0n h (z0a U (z0a U (z0a U (z0a U z0g)))) (mkC func172) (u4c m.q m.rk d (m.ys.getD i yq0).pl _ hM.b.at hI.B (b2.ext hM.fr.fr) hI.rk hd d0 c9.1 c9.2) ?_);rintro _ w5 ⟨⟨f5,rfl,e9,hW⟩,q5⟩ a h;have z5:=q5.size;replace hM:=hM.ext q5;replace hk:=hk.ext q5;replace D:=D.ext q5;replace hC:=hC.next q5;refine z0b (z0d 12 h U λa h=>z0p 13 h U λa h=>z0p 14 h U λa h=>z0e 15 U (z0s h U λa h=>?_));refine z0b (z0e 16 U (z0s h U λa h=>?_));refine z0b (z0r ?_);clear hC a0 I O;refine bk (h.sub (L':=[(0,_),(1,_),(5,_),(6,_),(7,_),(8,_),(17,_),(18,_),(19,_)]) (.d8 U U U U U U U U (.cons U .nil))) (tn (sq (sr (mv U (ne' U (nn (cd U (λc2=>?_) (λc2=>?_))))))));exact sr (mv U (asg U (kpL [(4,_)] (.cons U .nil) (nn (rt (tr (rb (tr (tr (rb (tr (r1 results134 U (absurd U c2)))))))))))));refine sk (tn (sq ?_));intro a h;refine z0h (some 15) (λwb w'=>Fr [ka.gy] wb w') z2y ?_;intro w6 q6;have z6:=q6.size;replace hM:=hM.ext q6;replace hk:=hk.ext q6;replace D:=D.ext q6;replace hW:=hW.ext q6;have hC:Fr [ka.gy] w6 w6:=Fr.refl _ _;have a0:=hM;have I:=hk;have O:=D;have b3:=hW;refine z0d 0 h U λa h=>z0o 1 h U λa h=>z0c 2 h U z3r U λa h=>z0j 3 h U (λ_ hw=>I.fr hw se) U y6b U λa h=>z0d 4 h U λa h=>z0z 5 h U (λ_ hw=>O.fr hw se) z3k U λa h=>z0c 6 h U z5s U λa h=>z0j 7 h U (λ_ hw=>O.fr hw se) U na3 U λa h=>z0d 8 h U λa h=>z0e 9 U ?_;refine z0n h (z0a U (z0a U (z0a U z0g))) (mkC func173) (v0t (m.ys.getD i yq0) (m.ys.getD i yq0).pl _ (z8a m.q.p m.rk d (m.ys.getD i yq0).pl) _ (by have x:=(hM.y.ins i (by rw[hM.ly];omega)).sl;rw[show ({ m with ys:=Z }:MQ).ys.getD i yq0=m.ys.getD i yq0 from a6 i (Nat.le_refl _)]at x;exact x) hW.sl (λk hk=>(hW.blk k hk).2) oo) ?_;rintro _ w7 ⟨qn,rfl,b7,q7⟩ a h;have z7:=q7.size;replace hM:=hM.ext q7;replace hk:=hk.ext q7;replace D:=D.ext q7;replace hW:=hW.ext q7;replace hC:=hC.next q7;refine z0b (z0d 10 h U λa h=>z0p 11 h U λa h=>z0p 12 h U λa h=>z1o 13 kr0 hC (p:=i) h wn U y5h oo oo oo U U λa h=>z0e 14 U (z1c (i:=i) (qn:YQ) h U hM.y.out (by rw[hM.ly];omega) U z3o λw8 a8 q8 _hz a h=>?_));have b6:=hM.fr.step q8 (y9u hM.y.out (by simp[u2o])) (λk hk b0=>absurd (hM.y.out.blk k hk).1 oo);have d7:=λhc:(goE (m.ys.getD i yq0).p (m.ys.getD i yq0).pl (z8a m.q.p m.rk d (m.ys.getD i yq0).pl))=0=>hM.yarn mtd (j:=i) (y:=qn) oo a8 q8 ((b7 hc).2.low oo);clear a8 hM;have z8:=q8.size;replace D:=D.fr q8;replace hW:=hW.fr q8 (by simp[z0u]<;>omega);replace hC:=hC.sp q8;clear _hz;refine z0b (z0e 15 U (z0s h U λa h=>?_));refine z1h (z0r ?_);clear hC a0 I O b3;refine bk (h.sub (L':=[(0,_),(1,_),(8,_),(17,_),(18,_),(19,_)]) (.c6 U U U U U U)) (tn (sr (mv U (ne' U (nn (cd U (λc3=>?_) (λc3=>?_)))))));exact sr (mv U (asg U (kpL [(4,_)] (.cons U .nil) (nn (rt (rb (tr (tr (rb (tr (r1 results134 U ⟨_,rfl,MRet.err (by unfold y4p;rw[y9t (i:=i) (e:=(goE (m.ys.getD i yq0).p (m.ys.getD i yq0).pl (z8a m.q.p m.rk d (m.ys.getD i yq0).pl))) (by simp only[List.length_map];omega) (λj hj=>⟨_,by rw[u2v];exact a7 j hj⟩) (by rw[u2v];unfold z9o;rw[if_neg (by simpa using c1),if_pos c3])]) c3 b6⟩)))))))))));have hM:=d7 (Classical.not_not.1 c3);have a1:=hM;exact sk (bn' (tn (rg (z0q U (wi6 oo) (mv U (nl (lpE (i+1) (.c5 U U U U U) ⟨((((Fr.refl [ka.gy] _).z6 q1 q2 q3 q4 q5 q6).n1 q7).z1 q8),⟨oo,⟨Z.set i qn,by rw[List.length_set];exact a5,u4g a5 oo a7 (by unfold z9o;rw[if_neg (by simpa using c1),if_neg (λe=>e (Classical.not_not.1 c3)),(b7 (Classical.not_not.1 c3)).1]),u7o a5 oo a6,hM⟩⟩⟩ oo)))))));obtain rfl:i=6:=by omega
 have b9:=u6x a5 b8 a7;refine ex (te (te (xh (tn (sq ?_)))));intro a h;refine z0h none (λwb w'=>Fr [] wb w') z2y ?_;intro w9 q9;have z9:=q9.size;replace hM:=hM.ext q9;replace hk:=hk.ext q9;have hC:Fr [] w9 w9:=Fr.refl _ _;have a0:=hM;have I:=hk;refine z0d 0 h U λa h=>z0o 1 h U λa h=>z0c 2 h U z3s U λa h=>z1d (vs:=[_,_]) 3 h U (λ_ hw=>(I.ext hw)) z6k U U λa h=>z0d 4 h U λa h=>z0o 5 h U λa h=>z0c 6 h U z4k U λa h=>z0j 7 h U (λ_ hw=>I.ext hw) U na3 U λa h=>z0d 8 h U λa h=>z0e 9 U (z0n h (z0a U (z0a U (z0a U z0g))) (mkC func174) (u9q m.q m.rk d _ hM.b.at hI.B (b2.ext hM.fr.fr) hI.rk hd d0) ?_);rintro _ g3 ⟨⟨gl,rfl,f7,hX⟩,q10⟩ a h;have g8:=q10.size;replace hM:=hM.ext q10;replace hk:=hk.ext q10;replace hC:=hC.next q10;refine z0b (z0d 10 h U λa h=>z0p 11 h U λa h=>z0p 12 h U λa h=>z0e 13 U (z0s h U λa h=>?_));refine z0b (z0e 14 U (z0s h U λa h=>?_));refine z0b (z0r ?_);clear hC a0 I;refine bk (h.sub (L':=[(0,_),(9,_),(10,_)]) (.c3 U U U)) (tn (sq (sr (mv U (ne' U (nn (cd U (λc4=>?_) (λc4=>?_))))))));exact sr (mv U (asg U (nn (rt (tr (r1 results134 U (absurd U c4)))))));refine sk (tn (sq (sr (mv U (lnS U underlying230 (mv U (nn (bl (lpK (ι:=Nat) [(0,_),(79,_),(80,_)] (λi=>[(81,.int .i64 (i:Int))]) (λi w'=>i<=(z3q m.q.p m.rk d).length/\(∃(mi:MQ) (li:List Cx),z4s m.cr ((z3q m.q.p m.rk d).take i)=.ok li/\mi.p={ m.p with ys:=Z.map YQ.p,cr:=li }/\MkM τd 156 wS ka w' mi/\Lw.Own z5p 232 w0.heap.size w' (.slice (some ⟨gl,0,none⟩) (z3q m.q.p m.rk d).length (z3q m.q.p m.rk d).length) (z3q m.q.p m.rk d))) (λi=>(z3q m.q.p m.rk d).length-i) 0 (.c4 U U U U) ⟨Nat.zero_le _,⟨{ m with ys:=Z },m.cr,rfl,rfl,hM,hX.low oo⟩⟩ ?_)))))))));rintro i g4 ⟨hi,⟨mi,li,a3,a4,hM,hX⟩⟩;have a1:=hM;refine kpC [(0,_),(79,_),(80,_),(81,_)] (.c4 U U U U) (sr (lt' U (nn (sq (cd U (λc5=>?_) (λc5=>?_))))));have b0:i<(z3q m.q.p m.rk d).length:=by omega
 refine sk (tn (sq (bl (sr (z0x (cx0) U hX.sl U y3u z1m (λe7 b5=>?_))))));refine z1t U (b5 _ hX.sl) v3v (al j9n U (λf4 g5 e8 a2 d3 g9=>?_));refine z0k (vs:=[_,_,_,_,_]) U a2 v8x (λe4 a2 d4 h0=>?_) (h1:=(by first|(simp[Value.oneCell',S];done)|exact z3l.one (m.ys.getD i yq0)));refine nn (sr (mv U (z0m U a2 v3v ?_)));replace hM:=a1.ext (d3.z1 d4);replace hX:=(hX.ext d3).fr d4 (by first|exact z9q hX oo|simp[z0u]<;>omega);have b1:=hM.fr;have e0:mi.cr=li:=congrArg MSt.cr a4;refine cl (z0a U (z0a U z0g)) (mkC func175) (j0p wS { ka with wk:=e4 } mi ((z3q m.q.p m.rk d).getD i cx0) _ hM.mark (by rw[e0];exact x0x hI.cv a3) (k5l _ (z1b oo))) U ?_;intro _ g7 hR;obtain⟨rfl,a9,m2,e1⟩:=hR.split;have e5:=a9.kp.size;simp only at e5;replace hX:=a9.kp.own hX (hM.gcneO hX) dd;refine asg U (nn (sr (mv U (ne' U (nn (cd U (λc6=>?_) (λc6=>?_)))))));refine sr (mv U (asg U (kpL [(4,_)] (.cons U .nil) (nn (rt (rb (tr (tr (rb (tr (r1 results134 U ?_)))))))))));exact⟨_,rfl,MRet.err (by unfold y4p;rw[b9];simp only;rw[v4b a3 b0 (by have x:=u3u (y2r c6);rw[show mi.p.cr=li from congrArg MSt.cr a4]at x;exact x)]) c6 (a9.un b1)⟩;obtain⟨d5,e3⟩:=e1 (Classical.not_not.1 c6);have d6:=d5.unmark b1;obtain⟨l2,d9,e2⟩:=j5m e3;refine sk (bn' (tn (rg (z0q U (wi6 oo) (mv U (nl ?_))))));exact lpE (i+1) (.c4 U U U U) ⟨oo,⟨m2,l2,by rw[y2c b0,y3s a3,<-(show mi.cr=li from congrArg MSt.cr a4)];exact d9,by rw[e2,a4],d6,hX⟩⟩ oo;obtain rfl:i=(z3q m.q.p m.rk d).length:=by omega
 exact ex (te (te (xh (tn (sr (asg U (nn (rt (r1 results134 U ⟨_,rfl,MRet.ok (by rw[List.take_length]at a3;unfold y4p;rw[b9,a4];simp only;rw[show z4s m.p.cr (z3q m.p.B m.p.rk d)=.ok li from a3]) hM⟩)))))))))
theorem x3h (p:MSt)(d:Int):z9l p d=match y4p p d with
    | .error e=>.error e
    | .ok q=>.ok { q with rk:=p.rk+stI d }:=by
  unfold z9l y4p
  cases z6u p d p.ys with
  | error e=>rfl
  | ok ys=>
    simp only
    cases z4s p.cr (z3q p.B p.rk d) with
    | error e=>rfl
    | ok cr=>rfl
theorem u3p {p:MSt}{r:Int}(n:Nat)(h:p.rk=r):z6m n p r=.ok p:=by
 cases n with
 | zero=>rfl
 | succ n=>unfold z6m;rw[if_pos h]
theorem u5r {p:MSt}{r e:Int}{n:Nat}(h:p.rk≠r)(hn:1<=n)(D:y4p p (if r<p.rk then 0 else 1)=.error e):z6m n p r=.error e:=by
 obtain⟨k,rfl⟩:∃k,n=k+1:=⟨n-1,oo⟩;unfold z6m;rw[if_neg h,x3h,D]
theorem j6a {p q:MSt}{r:Int}{n:Nat}(h:p.rk≠r)(hn:1<=n)(D:y4p p (if r<p.rk then 0 else 1)=.ok q):z6m n p r=z6m (n-1) { q with rk:=p.rk+stI (if r<p.rk then 0 else 1) } r/\z9l p (if r<p.rk then 0 else 1)=.ok { q with rk:=p.rk+stI (if r<p.rk then 0 else 1) }:=by
 obtain⟨k,rfl⟩:∃k,n=k+1:=⟨n-1,oo⟩
 constructor
 ·conv=>lhs;unfold z6m
  rw[if_neg h,x3h,D];rfl
 rw[x3h,D]
theorem j5y (wS:World)(ka:MA)(m:MQ)(o:MOp)(w0:World)(hM:MkM τd 156 wS ka w0 m)(hi:MInv m.p)(a9:StT wS)(b9:-4<=o.r/\o.r<=4):Rets prog 84 #[.pointer (some ⟨ka.gk,0,none⟩),opV o] w0 λr w'=>MRet τd 156 wS ka (u3a m.p o) r w':=by
 have d0:=hM.fr.size;have b3:=hM.gk;have b8:=hM.k.lt;have c9:-4<=m.rk/\m.rk<=4:=hi.rk;refine we [(0,.pointer (some ⟨ka.gk,0,none⟩)),(1,opV o)] func84 U ntmps84 U (.c2 U U) ?_;have a1:=hM;refine sr (bx U (λg3 w1 b7 I q1 z1=>(asg U (nn (sq (bl ?_))))));replace hM:=a1.ext q1;refine lpK (ι:=Nat) [(0,_),(3,_)] (λn=>[]) (λn w'=>∃D:MQ,(z6m 8 m.p o.r=z6m n D.p o.r/\MInv D.p/\-(n:Int)<=o.r-D.rk/\o.r-D.rk<=n)/\MkM τd 156 wS ka w' D/\Blk w' g3 88 [.int .u8 o.k,.int .u8 o.d,.int .u8 o.b,.int .i64 o.p,.int .u8 o.y,.int .i64 o.r]) (λn=>n) 8 (.c2 U U) ⟨m,⟨rfl,hi,oo,oo⟩,hM,I⟩ ?_;rintro n w2 ⟨D,⟨a3,a0,b5,b6⟩,hM,I⟩;have a1:=hM;have a7:=I.lt;refine kpC [(0,_),(3,_)] (.c2 U U) ?_;have hk:=hM.k;have b4:-4<=D.rk/\D.rk<=4:=a0.rk;refine sq (sq ?_);intro a h;refine z0h none (λwb w'=>Fr [] wb w') z2y ?_;intro w3 q3;replace I:=I.ext q3;replace hk:=hk.ext q3;have hC:Fr [] w3 w3:=Fr.refl _ _;have Z:=I;have O:=hk;refine z0d 0 h U λa h=>z0o 1 h U λa h=>z0c 2 h U z4k U λa h=>z0j 3 h U (λ_ hw=>O.ext hw) U na3 U λa h=>z0c 4 h U y9l U λa h=>z0j 5 h U (λ_ hw=>Z.ext hw) U na3 U λa h=>u9t 6 hC h wn U U U U λa h=>z0r ?_;clear hC Z O;refine bk (h.sub (L':=[(0,_),(3,_),(14,_)]) (.c3 U U U)) (tn (cd U (λc0=>?_) (λc0=>?_)));have a5:D.p.rk≠o.r:=c0;refine sk (tn (bl (sq ?_)));intro a h;refine z0h none (λwb w'=>Fr [] wb w') z2y ?_;intro w4 q4;replace hk:=hk.ext q4;have hC:Fr [] w4 w4:=Fr.refl _ _;have O:=hk;refine z0d 0 h U λa h=>z0o 1 h U λa h=>z0c 2 h U z4k U λa h=>z0j 3 h U (λ_ hw=>O.ext hw) U na3 U λa h=>z4d 4 h U (by first|exact i6 oo|rfl) U λa h=>z0e 5 U (z0s h U λa h=>?_);refine z0b (z0e 6 U (z0s h U λa h=>?_));refine z0b (z0r ?_);clear hC O;refine bk (h.sub (L':=[(0,_),(3,_),(5,_),(6,_)]) (.c4 U U U U)) (tn (jn (ι:=Unit) [(0,_),(3,_)] (λ_j=>[(5,.int .u8 (if o.r<D.rk then (0:Int) else 1)),(6,.int .i64 (D.rk+stI (if o.r<D.rk then (0:Int) else 1)))]) (λ_j w'=>Fr [] w4 w') (.c2 U U) ?_ ?_));refine sq ?_;intro a h;refine z0h none (λwb w'=>Fr [] wb w') z2y ?_;intro w5 q5;replace I:=I.ext (q4.n1 q5);replace hk:=hk.ext q5;have hC:Fr [] w5 w5:=Fr.refl _ _;have Z:=I;have O:=hk;refine z0c 0 h U y9l U λa h=>z0j 1 h U (λ_ hw=>Z.ext hw) U na3 U λa h=>z0d 2 h U λa h=>z0o 3 h U λa h=>z0c 4 h U z4k U λa h=>z0j 5 h U (λ_ hw=>O.ext hw) U na3 U λa h=>x9m 6 hC h wn U U λa h=>z0r ?_;clear hC Z O;refine bk (h.sub (L':=[(0,_),(3,_),(5,_),(6,_),(26,_)]) (.c5 U U U U U)) (tn (cd U (λc1=>?_) (λc1=>?_)));intro a h;refine z0h none (λwb w'=>Fr [] wb w') z2y ?_;intro w6 q6;replace hk:=hk.ext q6;have hC:Fr [] w6 w6:=Fr.refl _ _;have O:=hk;refine z0d 0 h U λa h=>z0o 1 h U λa h=>z0c 2 h U z4k U λa h=>z0j 3 h U (λ_ hw=>O.ext hw) U na3 U λa h=>z3e 4 h U (by first|exact i6 oo|rfl) U λa h=>z0e 5 U (z0s h U λa h=>?_);refine z0b (z0e 6 U (z0s h U λa h=>?_));refine z0b (z0r ?_);clear hC O;refine bk (h.sub (L':=[(0,_),(3,_),(5,_),(6,_)]) (.c4 U U U U)) ?_;exact jE (()) (.c4 U U (congrArg (λz=>some (Value.int .u8 z)) (by first|exact(if_pos c1).symm|exact(if_neg c1).symm)) (congrArg (λz=>some (Value.int .i64 z)) (by first|(rw[show (if o.r<D.rk then (0:Int) else 1)=0 from if_pos c1,show stI 0 = -1 from U];omega)|(rw[show (if o.r<D.rk then (0:Int) else 1)=1 from if_neg c1];rfl)))) (q5.n1 q6);refine sk ?_;exact jE (()) (.c4 U U (congrArg (λz=>some (Value.int .u8 z)) (by first|exact(if_pos c1).symm|exact(if_neg c1).symm)) (congrArg (λz=>some (Value.int .i64 z)) (by first|(rw[show (if o.r<D.rk then (0:Int) else 1)=0 from if_pos c1,show stI 0 = -1 from U];omega)|(rw[show (if o.r<D.rk then (0:Int) else 1)=1 from if_neg c1];rfl)))) q5;rintro _j w7 q7;refine kpC [(0,_),(3,_),(5,_),(6,_)] (.c4 U U U U) (sq (sr (mv U (mv U ?_))));replace hM:=a1.ext (q3.n2 q4 q7);replace I:=I.ext (q4.n1 q7);have a4:=hM.fr;refine cl (z0a U (z0a U z0g)) (mkC func134) (j5n wS { ka with wk:=w7 } D (if o.r<D.rk then (0:Int) else 1) _ hM.mark a0 a9 (by split<;>simp) (by have hx:-4<=D.rk/\D.rk<=4:=a0.rk;unfold stI;split<;>split at *<;>omega)) U ?_;intro _ w8 hR;obtain⟨rfl,a2,m2,b1⟩:=hR.split;have z8:=a2.kp.size;simp only at z8;replace I:=a2.kp.blk I (by have:=hM.gcne I;exact this) dd;refine asg U (nn (sr (mv U (ne' U (nn (cd U (λc2=>?_) (λc2=>?_)))))));exact sr (mv U (asg U (kpL [(4,_)] (.cons U .nil) (nn (rt (tr (rb (tr (rb (tr (r1 results84 U ⟨_,rfl,MRet.err (by unfold u3a;rw[a3];exact u5r a5 oo (y2r c2)) c2 (a2.un a4)⟩)))))))))));obtain⟨a8,b2⟩:=b1 (Classical.not_not.1 c2);replace hM:=a8.unmark a4;have a1:=hM;have hk:=hM.k;have a6:=j6a (p:=D.p) (r:=o.r) (n:=n) a5 oo b2;have hIn:=x0s a0 (by have hx:-4<=D.rk/\D.rk<=4:=a0.rk;show -4<=D.rk+stI (if o.r<D.rk then (0:Int) else 1)/\D.rk+stI (if o.r<D.rk then (0:Int) else 1)<=4;unfold stI;split<;>split at *<;>omega) a6.2;refine sk (tn (rg (mv U (mv U (nlc U (fad U z4k (z5w U U hk U sz3 (λw9 b0 q9 z9=>?_))))))));replace hM:=hM.beds mtd (q:=m2.q) (r:=D.rk+stI (if o.r<D.rk then (0:Int) else 1)) hM.b b0 q9 hM.fb;refine kpL [(0,_),(3,_)] (.c2 U U) (nl (bn' ?_));replace I:=I.fr q9;exact lpE ((n-1)) (.c2 U U) ⟨{ m2 with rk:=D.rk+stI (if o.r<D.rk then (0:Int) else 1) },⟨by rw[a3,a6.1],hIn.1,by show -((n-1:Nat):Int)<=o.r-(D.rk+stI (if o.r<D.rk then (0:Int) else 1));unfold stI;split<;>split at *<;>omega,by show o.r-(D.rk+stI (if o.r<D.rk then (0:Int) else 1))<=((n-1:Nat):Int);unfold stI;split<;>split at *<;>omega⟩,hM,I⟩ oo;refine ex (te (te (xh (tn (sr (asg U (nn (rt (r1 results84 U ?_)))))))));replace hM:=a1.ext q3;exact⟨_,rfl,MRet.ok (by unfold u3a;rw[a3];exact u3p n (show D.rk=o.r by omega)) hM⟩
theorem k2r (w:World):(zeroValue 158).run prog w=.ok .nilFunc w:=kr0
abbrev u2p (F:Nat):Value:=.func (.func F) #[] #[]
def k2a:Int->Option Value:=λk'=>if k'=8 then some (u2p 89) else (if k'=7 then some (u2p 88) else (if k'=6 then some (u2p 87) else (if k'=5 then some (u2p 86) else (if k'=4 then some (u2p 85) else (if k'=3 then some (u2p 84) else (if k'=2 then some (u2p 83) else (if k'=1 then some (u2p 82) else (none))))))))
theorem j0g (w0:World):Rets prog 36 #[] w0 λr w'=>(∃g,r=.map (some g)/\w0.heap.size<=g/\MapF kV w' g k2a)/\Fr [] w0 w':=by
 refine we [] func36 U ntmps36 U .nil (sr (asg U (nn (sr (y6w kV U (λI w1 O D Z z1=>(z3p (V:=kV) (k:=1) U D x0g underlying95 (λw2 D q2 z2=>(z3p (V:=kV) (k:=2) U D x0g underlying95 (λw3 D q3 z3=>(z3p (V:=kV) (k:=3) U D x0g underlying95 (λw4 D q4 z4=>?_))))))))))));exact z3p (V:=kV) (k:=4) U D x0g underlying95 (λw5 D q5 z5=>(z3p (V:=kV) (k:=5) U D x0g underlying95 (λw6 D q6 z6=>(z3p (V:=kV) (k:=6) U D x0g underlying95 (λw7 D q7 z7=>(z3p (V:=kV) (k:=7) U D x0g underlying95 (λw8 D q8 z8=>(z3p (V:=kV) (k:=8) U D x0g underlying95 (λw9 D q9 z9=>(mv U (asg U (nn (rt (r1 results36 U ⟨_,rfl,⟨I,rfl,oo,D⟩,(((Z.z6 q2 q3 q4 q5 q6 q7).z1 q8).z1 q9)⟩))))))))))))))
theorem k0w (wS:World)(D:MA)(m:MQ)(o:MOp)(w0:World)(hM:MkM τd 156 wS D w0 m)(I:MInv m.p)(a0:StT wS)(hc:y2p o=0):∃F:Nat,k2a o.k=some (u2p F)/\CallOf prog F/\Rets prog F #[.pointer (some ⟨D.gk,0,none⟩),opV o] w0 λr w'=>MRet τd 156 wS D (opM m.p o) r w':=by
 obtain⟨hk,a1,Z,a2,O,hr⟩:=z7b hc;unfold opM;rcases hk with e|e|e|e|e|e|e|e<;>rw[e]at a1 Z a2 O hr ⊢
 exact⟨_,rfl,(mkC func82),k1o wS D m o w0 hM (Z sp0)⟩;exact⟨_,rfl,(mkC func83),j0m wS D m o w0 hM (Z sp0)⟩;exact⟨_,rfl,(mkC func84),j5y wS D m o w0 hM I a0 (hr sp0)⟩;exact⟨_,rfl,(mkC func85),j3h wS D m o w0 hM I (Z sp0) (O sp0)⟩;exact⟨_,rfl,(mkC func86),j3t wS D m o w0 hM I (Z sp0) (O sp0)⟩;exact⟨_,rfl,(mkC func87),j4u wS D m o w0 hM I (Z sp0) (O sp0)⟩;exact⟨_,rfl,(mkC func88),j2o wS D m o w0 hM I (O sp0)⟩;exact⟨_,rfl,(mkC func89),j2d wS D m o w0 hM I (O sp0)⟩
theorem k2e (wS:World)(O:MA)(m:MQ)(o:MOp)(gl:Nat)(w0:World)(hM:MkM τd 156 wS O w0 m)(hi:MInv m.p)(a2:StT wS)(hl:MapF kV w0 gl k2a):Rets prog 37 #[.pointer (some ⟨O.gk,0,none⟩),.map (some gl),opV o] w0 λr w'=>MRet τd 156 wS O (doM m.p o) r w':=by
 refine we [(0,.pointer (some ⟨O.gk,0,none⟩)),(1,.map (some gl)),(2,opV o)] func37 U ntmps37 U (.c3 U U U) ?_;have a1:=hM;have a4:=hl;refine sr (bx U (λg5 w1 a5 D q1 z1=>(asg U (nn (sq (sr (z0m U D v4e (cl (ev1 U) (mkC func90) (v2q _ _) U ?_))))))));rintro _ w2 ⟨rfl,q2⟩;refine asg U (nn (sr (mv U (ne' U (nn (cd U (λc0=>?_) (λc0=>?_)))))));refine sr (mv U (asg U (kpL [(6,_)] (.cons U .nil) (nn (rt (tr (r1 results37 U ?_)))))));replace hM:=a1.ext (q1.n1 q2);exact⟨_,rfl,MRet.err (by unfold doM;rw[if_pos c0]) c0 hM.fr⟩;replace hM:=a1.ext (q1.n1 q2);have hc:y2p o=0:=Classical.not_not.1 c0;have I:=λw hM=>k0w wS O m o w hM hi a2 hc;obtain⟨F,hF,a3,-⟩:=I _ hM;have Z:∀w,MkM τd 156 wS O w m->Rets prog F #[.pointer (some ⟨O.gk,0,none⟩),opV o] w λr w'=>MRet τd 156 wS O (opM m.p o) r w':=λw hM=>by
  obtain⟨F',a0,-,h'⟩:=I w hM;rw[hF]at a0;cases a0;exact h'
 refine sk (tn (sr (mv U (fad U v1u ?_))));replace D:=D.ext q2;refine z0i U D U k2k ?_;replace hl:=a4.ext (q1.n1 q2);refine x2w (V:=kV) (k:=o.k) (f:=k2a) (v:=u2p F) U U hl x0g underlying95 k2r (by rw[hF];rfl) U (mv U (z0m U D v4e (clv (us:=[]) (ws:=[]) U (ev2 U) a3 (Z w2 hM) U (by intro g e;cases e) ?_)));rintro a6 w3 hR;exact asg U (kpL [(6,_)] (.cons U .nil) (nn (rt (r1 results37 U ⟨_,rfl,by rw[show doM m.p o=opM m.p o from if_neg c0];exact hR⟩))))
end Go.Proofs.YtagnnbcnnmacmaaGreatDoor
namespace Go.G08
open Go.Lw Go.G21
theorem u5x (l:List Cx)(a b:LId)(n:Int):(y9q l a b n).length<=l.length+1:=by
 unfold y9q;split<;>simp
theorem u4h (l:List Cx)(a b:LId):(x9z l a b).length<=l.length+1:=Nat.le_trans (List.length_filter_le _ _) oo
theorem u7e {l l':List Cx}{c:Cx}(h:y8o l c=.ok l'):l'.length<=l.length+1:=by
 rw[x0t]at h;split at h;cases h;split at h;cases h;exact u4h ..;cases h;exact u5x ..
theorem x6c:∀ {r l l':List Cx},z4s l r=.ok l'->l'.length<=l.length+r.length
 | [],l,l',h=>by cases h;exact Nat.le_refl _
 | c::r,l,l',h=>by
  unfold z4s at h
  split at h
  ·cases h
  rename_i I D
  have:=u7e D
  have:=x6c h
  simp only[List.length_cons];omega
theorem u1k {B:Bd}(h:BdOk B)(r d:Int):(z3q B r d).length<=640:=Nat.le_trans (y2y h r d) (by have:=h.lb;omega)
theorem u0o {p q:MSt}{d:Int}(h:BdOk p.B)(e:z9l p d=.ok q):q.B=p.B/\q.cr.length<=p.cr.length+640:=by
 unfold z9l at e;split at e;cases e;split at e;cases e;rename_i ys O I D;cases e;have:=x6c D;have:=u1k h p.rk d;exact⟨rfl,sm⟩
theorem x6l:∀ {n:Nat} {p q:MSt} {r:Int},BdOk p.B->z6m n p r=.ok q->q.cr.length<=p.cr.length+n*640
 | 0,p,q,r,h,e=>by cases e;omega
 | n+1,p,q,r,h,e=>by
  unfold z6m at e
  split at e
  ·cases e;omega
  split at e
  ·cases e
  rename_i O D
  obtain⟨I,hl⟩:=u0o h D
  have:=x6l (I▸h) e
  rw[Nat.add_mul];omega
theorem x7y {p q:MSt}{y pl en:Int}(e:y5y p y pl en=.ok q):q.cr=p.cr:=by
 unfold y5y at e;split at e;cases e;cases e;rfl
theorem v9l {p q:MSt}{o:MOp}{D st:List LId}(e:x2r p o D st=.ok q):q.cr=p.cr:=by
 unfold x2r at e;split at e;cases e;split at e;cases e;cases e;rfl
theorem j0v {p q:MSt}{o:MOp}(h:BdOk p.B)(e:opM p o=.ok q):q.cr.length<=p.cr.length+5120:=by
 have s:∀ {x:MSt},x.cr=p.cr->x.cr.length<=p.cr.length+5120:=λI=>by rw[I];omega
 unfold opM at e;split at e;unfold inM at e;split at e;cases e;cases e;exact s U;split at e;unfold v3m at e;split at e;cases e;cases e;exact s U;split at e;have:=x6l h e;omega;split at e;unfold y4c at e;split at e;cases e;split at e;cases e;rename_i O D;exact s ((v9l e).trans (x7y D));split at e;unfold y2s at e;split at e;cases e;split at e;cases e;rename_i O D;split at e;cases e;exact s ((v9l e).trans (x7y D));split at e;unfold y6i at e;split at e;cases e;exact s (x7y e);split at e;unfold z9c at e;repeat (split at e;· cases e)
 cases e;exact s U;unfold y6f at e;split at e;cases e;cases e;exact s U
theorem x3a:∀ {l:List MOp} {i:Nat} {p q:MSt},MInv p->z8b i p l=.ok q->q.cr.length<=p.cr.length+l.length*5120
 | [],i,p,q,h,e=>by cases e;simp
 | o::l,i,p,q,h,e=>by
  unfold z8b at e
  split at e
  ·cases e
  rename_i O D
  have I:=y1b h D
  have Z:=x3a I e
  have h3:O.cr.length<=p.cr.length+5120:=by
   unfold doM at D
   split at D
   ·cases D
   exact j0v h.B D
  rw[List.length_cons,Nat.add_mul];omega
theorem z7x {a b:LId}:z5m a b<0↔a.y<b.y\/a.y=b.y/\a.n<b.n:=by
 unfold z5m;(repeat' split)<;>constructor<;>intro h<;>omega
theorem y8h {a b:LId}:z5m a b=0↔a=b:=by
 obtain⟨O,I⟩:=a;obtain⟨D,bn⟩:=b;rw[LId.mk.injEq];unfold z5m;dsimp only;(repeat' split)<;>constructor<;>intro h<;>omega
theorem y6q {T T':Tb}{l:Lp}(h:y7q T l)(I:∀i,z5h T i->z5h T' i):y7q T' l:=⟨h.1,h.2.1,λi D=>I i (h.2.2.1 i D),h.2.2.2⟩
theorem x9x {T:Tb}(h6:T.length=6){i:LId}(h:z5h T i):∃y n:Nat,y<6/\n<z3w T y/\i=⟨(y:Int)+1,(n:Int)⟩:=by
 obtain⟨O,Z,h3,h4⟩:=h;obtain⟨I,D⟩:=i;simp only at O Z h3 h4;exact⟨(I-1).toNat,D.toNat,oo,oo,by rw[show (((I-1).toNat:Nat):Int)+1=I by omega,show ((D.toNat:Nat):Int)=D by omega]⟩
theorem y5r {T:Tb}{j:Nat}(O:T.length=6)(Z:j<6){l:Lp}{i:LId}:z5h (T.set j (T.getD j []++[l])) i↔z5h T i\/i=⟨(j:Int)+1,(z3w T j:Int)⟩:=by
 have D:j<T.length:=by omega
 constructor;intro h;obtain⟨y,n,hy,I,rfl⟩:=x9x (by rw[List.length_set];exact O) h;rw[y0q D]at I;by_cases e:j=y;subst e;rw[if_pos U,List.length_append,List.length_singleton,show (T.getD j []).length=z3w T j from U]at I;by_cases e2:n<z3w T j;exact .inl (y0u D e2);exact .inr (by rw[show n=z3w T j by omega]);rw[if_neg e]at I;exact .inl (y0u oo I);rintro(h|rfl);exact x1i D h;exact y0u (by rw[List.length_set];exact D) (by rw[y0q D,if_pos U,List.length_append,List.length_singleton];exact Nat.lt_succ_self _)
structure TabR (T:Tb) (rk:LId->Nat):Prop where
  six:T.length=6
  rts:∀y,y<6->∀n,n<z3w T y->y7q T (lpA T y n)/\(n=0->(lpA T y n).nw=true)
  rkd:Ranked T rk
  top:∀i,z5h T i->rk i<z4r T
theorem TabR.add {T:Tb}{rk:LId->Nat}(h:TabR T rk){j:Nat}(hj:j<6){l:Lp}(hr:y7q T l)(h0:z3w T j=0->l.nw=true) :
    TabR (T.set j (T.getD j []++[l])) (rkX rk j (z3w T j) (z4r T)):=by
  have h6:=h.six
  have a2:j<T.length:=by omega
  have a4:z4r (T.set j (T.getD j []++[l]))=z4r T+1:=by
    have:=y7n T j (T.getD j []++[l]) a2
    rw[List.length_append,List.length_singleton,show (T.getD j []).length=z3w T j from U]at this
    omega
  have D:∀i,z5h T i->rkX rk j (z3w T j) (z4r T) i=rk i:=λi O=>by
    obtain⟨y,n,I,Z,rfl⟩:=x9x h6 O
    unfold rkX
    rw[if_neg]
    rintro⟨e1,e2⟩
    simp only at e1 e2
    have:y=j:=by omega
    subst this;omega
  have a0:rkX rk j (z3w T j) (z4r T) ⟨(j:Int)+1,(z3w T j:Int)⟩=z4r T:=by
    unfold rkX
    rw[if_pos ⟨rfl,sp0⟩]
    show z4r T+((z3w T j:Int)-(z3w T j:Int)).toNat=z4r T
    omega
  have hm:∀i,z5h T i->z5h (T.set j (T.getD j []++[l])) i:=λi O=>(y5r h6 hj).2 (.inl O)
  -- an old loop,or the new one
  have a3:∀y,y<6->∀n,n<z3w (T.set j (T.getD j []++[l])) y->(n<z3w T y/\lpA (T.set j (T.getD j []++[l])) y n=lpA T y n)\/(y=j/\n=z3w T j/\lpA (T.set j (T.getD j []++[l])) y n=l):=λy I n Z=>by
    rw[y0q a2]at Z
    rw[j4x a2]
    by_cases e:j=y
    · subst e
      rw[if_pos U,List.length_append,List.length_singleton,show (T.getD j []).length=z3w T j from U]at Z
      rw[if_pos U]
      by_cases e2:n<z3w T j
      · exact .inl ⟨e2,if_pos e2⟩
      · obtain rfl:n=z3w T j:=by omega
        exact .inr ⟨rfl,rfl,by rw[if_neg e2,Nat.sub_self];rfl⟩
    · rw[if_neg e]at Z
      exact .inl ⟨Z,by rw[if_neg e]⟩
  have hp:∀ {y n:Nat},y<6->n<z3w T y->z5h T ⟨(y:Int)+1,(n:Int)⟩:=λI Z=>y0u oo Z
  refine⟨by rw[List.length_set];exact h6,λy I n Z=>?_,⟨λy I n Z i O=>?_,λy I n m a1 a5=>?_⟩,λi O=>?_⟩
  · rcases a3 y I n Z with ⟨k,e⟩|⟨rfl,rfl,e⟩
    · rw[e];exact⟨y6q (h.rts y I n k).1 hm,(h.rts y I n k).2⟩
    · rw[e];exact⟨y6q hr hm,h0⟩
  · rcases a3 y I n Z with ⟨k,e⟩|⟨rfl,rfl,e⟩
    · rw[e]at O
      rw[D _ (hp I k),D _ ((h.rts y I n k).1.2.2.1 i O)]
      exact h.rkd.need y I n k i O
    · rw[e]at O
      rw[a0,D _ (hr.2.2.1 i O)]
      exact h.top i (hr.2.2.1 i O)
  · rcases a3 y I m a5 with ⟨k,_⟩|⟨rfl,rfl,_⟩
    · rw[D _ (hp I k),D _ (hp I (show n<z3w T y by omega))]
      exact h.rkd.mono y I n m a1 k
    · rw[a0,D _ (hp I a1)]
      exact h.top _ (hp I a1)
  · rw[a4]
    rcases(y5r h6 hj).1 O with k|rfl
    · rw[D _ k];have:=h.top i k;omega
    · rw[a0];omega
theorem u4t {T:Tb}{j:Nat}(D:j<T.length)(l:Lp)(i:LId):(y1r (T.set j (T.getD j []++[l]))).count i=(y1r T).count i+l.th.count i:=by
 have h:=z8u v3p T j [] (T.getD j []++[l]) i D;have e:v3p (T.getD j []++[l])=v3p (T.getD j [])++l.th:=by unfold v3p;simp
 unfold y1r;rw[e,List.count_append]at h;omega
theorem v0s {T:Tb}{rk:LId->Nat}(h:TabR T rk){i:LId}(D:i∈y1r T):z5h T i:=by
 unfold y1r at D;obtain⟨r,Z,D⟩:=List.mem_flatMap.1 D;unfold v3p at D;obtain⟨l,hl,D⟩:=List.mem_flatMap.1 D;obtain⟨y,hy,rfl⟩:=List.getElem_of_mem Z;obtain⟨n,O,rfl⟩:=List.getElem_of_mem hl;have I:T.getD y []=T[y]:=by rw[List.getD,List.getElem?_eq_getElem hy];rfl
 have en:lpA T y n=T[y][n]:=by unfold lpA;rw[I,List.getD,List.getElem?_eq_getElem O];rfl
 have h6:=h.six;have:=(h.rts y oo n (by unfold z3w;rw[I];exact O)).1.2.2.1 i (by rw[en];exact List.mem_append_left _ D);exact this
theorem u0v {T:Tb}{st:List Pa}{p:Pa}(h:∀q∈st,z5h T q.id)(hp:z5h T p.id):∀q∈y1o st p,z5h T q.id:=by
 unfold y1o;split;exact λq D=>h q (List.mem_of_mem_take D);intro q D;rcases List.mem_append.1 D with k|k
 exact h q k;rw[List.mem_singleton.1 k];exact hp
theorem x5d {T:Tb}:∀ {l st:List Pa},(∀q∈st,z5h T q.id)->(∀q∈l,z5h T q.id)->∀q∈z5g st l,z5h T q.id
 | [],_,h,_=>h
 | p::l,st,h,hl=>x5d (l:=l) (u0v h (hl p sp0)) (λq D=>hl q (List.mem_cons_of_mem _ D))
theorem x4s:∀(l st:List Pa),y8p (st++l)->z5g st l=st++l
 | [],st,_=>by simp[z5g]
 | p::l,st,h=>by
  have I:y1o st p=st++[p]:=by
   unfold y1o
   rw[if_neg]
   rintro⟨h0,hc⟩
   have D:=(h st.length sp0).2 h0
   have O:(st++p::l).getD (st.length-1) pa0=st.getD (st.length-1) pa0:=by
    rw[List.getD,List.getElem?_append_left oo,List.getD]
   have Z:(st++p::l).getD st.length pa0=p:=by simp[List.getD]
   rw[O,Z]at D
   exact D hc
  show z5g (y1o st p) l=_
  rw[I,x4s l (st++[p]) (by simpa using h)]
  simp
theorem j1l {l:List Pa}(h:y8p l):(z5g [] l).length=l.length:=by rw[x4s l [] (by simpa using h)];rfl
theorem v9h {l:List Pa}(h:y8p l):∀p∈l,z6v p.d:=λp I=>by
 obtain⟨i,D,rfl⟩:=List.getElem_of_mem I
 have:=(h i D).1.2
 rwa [List.getD,List.getElem?_eq_getElem D]at this
theorem x5k (h:Hd):∀l:List Hd,(y4b h l).Perm (h::l)
 | []=>.refl _
 | x::l=>by
  unfold y4b
  split
  ·exact .refl _
  exact((x5k h l).cons x).trans (.swap h x l)
theorem v5k (l:List Hd):(z5v l).Perm l:=by
 have h:∀(l st:List Hd),(l.foldl (λa h=>y4b h a) st).Perm (st++l):=by
  intro l;induction l with
  | nil=>intro st;simp
  | cons x l ih=>
   intro st;show (l.foldl _ (y4b x st)).Perm _;exact(ih _).trans (((x5k x st).append_right l).trans (by simpa using (List.perm_middle (a:=x) (l₁:=st) (l₂:=l)).symm))
 have e:=h l [];rw[List.nil_append]at e;exact e
theorem y3t (B:Bd)(r:Int):(z3h B r).Perm (u2r B r):=v5k _
theorem x8v (b r:Int)(l:Bed):(hds b r l l.length).map Hd.id=l.flatten:=by
 have h:∀i,i<=l.length->(hds b r l i).map Hd.id=(l.take i).flatten:=by
  intro i;induction i with
  | zero=>intro _;simp[hds]
  | succ i ih=>
   intro D;rw[x2a,List.map_append,ih oo,List.take_add_one,List.flatten_append,List.getElem?_eq_getElem oo,List.getD,List.getElem?_eq_getElem oo];simp[hdS,Function.comp_def]
 rw[h _ (Nat.le_refl _),List.take_length]
theorem x2t (B:Bd)(r:Int):((z3h B r).map Hd.id).Perm B.flat:=by
 refine((y3t B r).map _).trans ?_;unfold u2r Bd.flat;rw[List.map_append,x8v,x8v]
theorem v6c {B:Bd}{r f t:Int}{q:Pa}(h:q∈btw (z3h B r) f t):q.id∈B.flat:=by
 have I:∀x∈z3h B r,x.id∈B.flat:=λx D=>(x2t B r).mem_iff.1 (List.mem_map_of_mem D);unfold btw at h;split at h;obtain⟨x,D,rfl⟩:=List.mem_map.1 h;exact I x (List.mem_filter.1 D).1;obtain⟨x,D,rfl⟩:=List.mem_map.1 (List.mem_reverse.1 h);exact I x (List.mem_filter.1 D).1
theorem v0j {B:Bd}{k:Nat}{x:LId}(h:x∈B.b.getD k []):x∈B.b.flatten:=by
 by_cases e:k<B.b.length;rw[List.getD,List.getElem?_eq_getElem e]at h;exact List.mem_flatten.2 ⟨_,List.getElem_mem e,h⟩;rw[List.getD,List.getElem?_eq_none oo]at h;cases h
theorem x5w {B:Bd}{r d p:Int}{i:Nat}{q:Pa}(h:q∈y8j B r d p i):q.id∈B.flat:=by
 unfold y8j at h;obtain⟨k,_,h⟩:=List.mem_flatMap.1 h;unfold x4r at h;split at h;cases h;obtain⟨x,D,rfl⟩:=List.mem_map.1 h;exact List.mem_append_right _ (v0j D)
theorem u1o {B:Bd}{r d p:Int}{q:Pa}(h:q∈z8a B r d p):q.id∈B.flat:=by
 unfold z8a at h;split at h;exact x5w (List.mem_reverse.1 h);exact x5w h
theorem v8j {B:Bd}{n:Int}{x:LId}(h:x∈B.atC 0 n):x∈B.f.flatten:=by
 unfold Bd.atC at h;split at h;unfold Bd.at at h;rw[if_pos U]at h;have D:atB B.f n≠[]:=λe=>by rw[e]at h;cases h
 exact List.mem_flatten.2 ⟨_,v7s D,h⟩;cases h
theorem v1m {B:Bd}{r d:Int}{i:Nat}{c:Cx}(hn:B.flat.Nodup)(h:c∈x3e B r d i):c.a∈B.flat/\c.b∈B.flat/\c.a≠c.b/\(c.n=1\/c.n = -1):=by
 unfold x3e at h;obtain⟨k,_,h⟩:=List.mem_flatMap.1 h;unfold v1s at h;obtain⟨x,hx,h⟩:=List.mem_flatMap.1 h;obtain⟨o,Z,rfl⟩:=List.mem_map.1 h;have I:x∈B.b.flatten:=v0j hx;have O:o∈B.f.flatten:=v8j (List.mem_reverse.1 Z);have D:o≠x:=(List.nodup_append.1 hn).2.2 o O x I;unfold y7g;split;exact⟨List.mem_append_left _ O,List.mem_append_right _ I,D,.inl U⟩;exact⟨List.mem_append_right _ I,List.mem_append_left _ O,D.symm,.inr U⟩
theorem y6g {B:Bd}{r d:Int}{c:Cx}(hn:B.flat.Nodup)(h:c∈z3q B r d):c.a∈B.flat/\c.b∈B.flat/\c.a≠c.b/\(c.n=1\/c.n = -1):=by
 unfold z3q at h;split at h;exact v1m hn (List.mem_reverse.1 h);exact v1m hn h
structure CrsOk (T:Tb) (l:List Cx):Prop where
  has:∀c∈l,z5h T c.a/\z5h T c.b/\z5m c.a c.b<0/\(-1048576<=c.n/\c.n<=1048576)/\c.n≠0
  nd:(l.map λc=>(c.a,c.b)).Nodup
theorem CrsOk.mono {T T':Tb}{l:List Cx}(h:CrsOk T l)(I:∀i,z5h T i->z5h T' i):CrsOk T' l:=⟨λc D=>⟨I _ (h.has c D).1,I _ (h.has c D).2.1,(h.has c D).2.2⟩,h.nd⟩
theorem u5g {l:List Cx}{a b:LId}{n:Int}(h:l.any (isC a b)=true):(y9q l a b n).map (λc=>(c.a,c.b))=l.map λc=>(c.a,c.b):=by
 unfold y9q;rw[if_pos h,List.map_map];refine List.map_congr_left λc _=>?_;simp only[Function.comp_apply];split;rename_i e;obtain⟨D,I⟩:=z8s.1 e;rw[D,I];rfl
theorem u3w {l:List Cx}{a b:LId}{n:Int}{c:Cx}(h:c∈y9q l a b n):c=⟨a,b,n⟩\/c∈l:=by
 unfold y9q at h;split at h;obtain⟨z,D,rfl⟩:=List.mem_map.1 h;split;exact .inl U;exact .inr D;rcases List.mem_append.1 h with k|k
 exact .inr k;exact .inl (List.mem_singleton.1 k)
theorem v1t {a b:LId}(h:a≠b)(D:¬0<z5m a b):z5m a b<0:=by
 have:=mt y8h.1 h;omega
theorem x5l {a b:LId}(h:0<z5m a b):z5m b a<0:=by
 rw[z7x];unfold z5m at h;(repeat' split at h)<;>omega
theorem CrsOk.add {T:Tb}{l l':List Cx}{c:Cx}(h:CrsOk T l)(ha:z5h T c.a)(hb:z5h T c.b)(I:c.a≠c.b)(e:y8o l c=.ok l'):CrsOk T l':=by
 unfold y8o at e;dsimp only at e;obtain⟨a,b,hk,h1,h2,h3⟩:∃a b,(if 0<z5m c.a c.b then (c.b,c.a) else (c.a,c.b))=(a,b)/\z5h T a/\z5h T b/\z5m a b<0:=by
  split;rename_i k;exact⟨_,_,rfl,hb,ha,x5l k⟩;rename_i k;exact⟨_,_,rfl,ha,hb,v1t I k⟩
 rw[hk]at e;split at e;cases e;rename_i hr;split at e;cases e;exact⟨λx D=>h.has x (List.mem_filter.1 D).1,h.nd.sublist (List.filter_sublist.map _)⟩;rename_i Z;cases e;dsimp only at hr Z ⊢;refine⟨λx D=>?_,?_⟩;rcases u3w D with rfl|k
 exact⟨h1,h2,h3,by dsimp only;omega,Z⟩;exact h.has x k;by_cases k:l.any (isC a b)=true;rw[u5g k];exact h.nd;unfold y9q;rw[if_neg k,List.map_append,List.map_singleton,List.nodup_append];refine⟨h.nd,sp0,λx D y hy=>?_⟩;obtain⟨z,hz,rfl⟩:=List.mem_map.1 D;rw[List.mem_singleton.1 hy];intro O;have e1:=congrArg Prod.fst O;have e2:=congrArg Prod.snd O;exact k (List.any_eq_true.2 ⟨z,hz,z8s.2 ⟨e1,e2⟩⟩)
theorem CrsOk.adds {T:Tb}:∀ {r l l':List Cx},CrsOk T l->(∀c∈r,z5h T c.a/\z5h T c.b/\c.a≠c.b)->z4s l r=.ok l'->CrsOk T l'
 | [],l,l',h,_,e=>by cases e;exact h
 | c::r,l,l',h,hr,e=>by
  unfold z4s at e
  split at e
  ·cases e
  rename_i Z I
  have D:=hr c sp0
  exact CrsOk.adds (h.add D.1 D.2.1 D.2.2 I) (λx O=>hr x (List.mem_cons_of_mem _ O)) e
def YnV (T:Tb)(y:Yn):Prop:=(∀q∈y.pe,z5h T q.id)/\(y.inn=true->y.ct=0->y.nw=true)
structure MVal (p:MSt):Prop where
  inv:MInv p
  yv:∀k,k<6->YnV p.tb (p.ys.getD k yn0)
  tab:∃rk,TabR p.tb rk
  once:∀i,z5h p.tb i->(p.B.flat++p.fa++y1r p.tb).count i=1
  fa:∀i∈p.fa,z5h p.tb i
  cr:CrsOk p.tb p.cr
theorem x4c:MVal start:=by
 have I:∀y,z3w start.tb y=0:=λy=>by
  simp only[start,z3w,List.getD,List.getElem?_replicate];split<;>rfl
 have O:∀i,¬z5h start.tb i:=λi D=>by
  obtain⟨_,_,h3,h4⟩:=D;rw[I]at h4;omega
 refine⟨y7w,λk hk=>?_,⟨λ_=>0,rfl,λy Z n h=>by rw[I]at h;omega,⟨λy Z n h=>by rw[I]at h;omega,λy Z n m h h2=>by rw[I]at h2;omega⟩,λi D=>absurd D (O i)⟩,λi D=>absurd D (O i),(by intro i D;cases D),⟨(by intro c hc;cases hc),by simp[start]⟩⟩;have:start.ys.getD k yn0=yn0:=by
  simp only[start,List.getD,List.getElem?_replicate];split<;>rfl
 rw[this];exact⟨(by intro q hq;cases hq),(by intro h;cases h)⟩
theorem x0y {p:MSt}{y:Int}{q:Yn}(h:MVal p)(D:MInv (p.setY y q))(Z:1<=y/\y<=6)(O:YnV p.tb q):MVal (p.setY y q):=by
 have hl:(y-1).toNat<p.ys.length:=by rw[h.inv.ly];omega
 refine⟨D,λk I=>?_,h.tab,h.once,h.fa,h.cr⟩;show YnV p.tb ((p.ys.set (y-1).toNat q).getD k yn0);rw[z1i hl];split;exact O;exact h.yv k I
theorem j8i {p:MSt}(h:MVal p){y:Int}(D:1<=y/\y<=6):YnV p.tb (p.y y):=h.yv (y-1).toNat oo
theorem go_v {T:Tb}{y:Yn}{pl:Int}{l:List Pa}(h:YnV T y)(hl:∀q∈l,z5h T q.id):YnV T (goS y pl l):=⟨x5d h.1 hl,h.2⟩
theorem x7e {p q:MSt}{y pl en:Int}(h:MVal p)(D:1<=y/\y<=6)(e:y5y p y pl en=.ok q):MVal q/\q.B=p.B/\q.rk=p.rk:=by
 have I:=y1x h.inv D e;refine⟨?_,I.2⟩;unfold y5y at e;split at e;cases e;cases e;exact x0y h I.1 D (go_v (j8i h D) λq O=>h.inv.has _ (v6c O))
theorem u0b {p q:MSt}{o:MOp}{th st:List LId}(h:MVal p)(I:MInv q)(hy:1<=o.y/\o.y<=6)(hn:z4g o.b o.p=0)(hs:th++st=p.B.at o.b o.p)(h4:th.length<=4)(e:x2r p o th st=.ok q):MVal q:=by
 unfold x2r at e;split at e;cases e;rename_i hm;split at e;cases e;cases e;have hm:=Classical.not_not.1 hm;obtain⟨j,hj,b0⟩:∃j:Nat,j<6/\o.y=(j:Int)+1:=⟨(o.y-1).toNat,oo,oo⟩;have Z:(o.y-1).toNat=j:=by omega
 have D:=h.inv.yn j hj;have b2:p.y o.y=p.ys.getD j yn0:=by unfold MSt.y;rw[Z]
 rw[<-b2]at D;have a5:=j8i h hy;have a8:j<p.ys.length:=by rw[h.inv.ly];exact hj
 have a7:j<p.tb.length:=by rw[h.inv.lt];exact hj
 have a2:(p.y o.y).inn=true:=by
  unfold mkE at hm;split at hm;exact absurd hm (by assumption);split at hm;omega;rename_i k;simpa using k
 have a0:=D.1.2;rw[if_pos a2]at a0;have a3:p.row o.y=p.tb.getD j []:=by unfold MSt.row;rw[Z]
 simp only[Z,a3]at I ⊢;obtain⟨rk,ht⟩:=h.tab;have h6:=h.inv.lt;have a4:∀i∈th,z5h p.tb i:=λi I=>h.inv.has i (z6z (b:=o.b) (n:=o.p) (by rw[<-hs];exact List.mem_append_left _ I));have b1:y7q p.tb ⟨o.b,(p.y o.y).nw,th,(p.y o.y).pe⟩:=by
  refine⟨(z3n hn).1,⟨h4,a0.2.1⟩,λi I=>?_,v9h a0.2.2,j1l a0.2.2⟩;rcases List.mem_append.1 I with k|k
  exact a4 i k;obtain⟨q,hq,rfl⟩:=List.mem_map.1 k;exact a5.1 q hq
 have a1:∀ {l:Lp} (i:LId),z5h p.tb i->z5h (p.tb.set j (p.tb.getD j []++[l])) i:=λi I=>(y5r h6 hj).2 (.inl I);refine⟨I,λk hk=>?_,⟨_,ht.add hj b1 (λe0=>a5.2 a2 (by rw[D.2,e0];rfl))⟩,λi I=>?_,λi I=>a1 i (h.fa i I),h.cr.mono a1⟩;show YnV (p.tb.set j _) ((p.ys.set j (mkS (p.y o.y))).getD k yn0);rw[z1i a8];split;refine⟨(by intro q hq;cases hq),λ_ h0=>?_⟩;have h1:(p.y o.y).ct+1=0:=h0;have:=D.1.1;omega;exact⟨λq hq=>a1 _ ((h.yv k hk).1 q hq),(h.yv k hk).2⟩;show ((p.B.put o.b o.p (st++[⟨o.y,(p.y o.y).ct⟩])).flat++p.fa++y1r (p.tb.set j (p.tb.getD j []++[_]))).count i=1;rw[List.count_append,List.count_append,u4t a7];have h1:=z4n p.B hn (st++[⟨o.y,(p.y o.y).ct⟩]) i;have h2:th.count i+st.count i=(p.B.at o.b o.p).count i:=by rw[<-hs,List.count_append]
 rw[List.count_append,List.count_singleton]at h1;dsimp only;rcases(y5r h6 hj).1 I with k|k
 have h3:=h.once i k;rw[List.count_append,List.count_append]at h3;have a9:¬((⟨o.y,(p.y o.y).ct⟩:LId) == i)=true:=by
  intro ee;have ee:(⟨o.y,(p.y o.y).ct⟩:LId)=i:=by simpa using ee
  obtain⟨_,_,_,k4⟩:=k;rw[<-ee]at k4;simp only at k4;rw[Z,D.2]at k4;omega
 rw[if_neg a9]at h1;omega;have O:¬z5h p.tb i:=λk4=>by
  rw[k]at k4;obtain⟨_,_,_,k4⟩:=k4;simp only at k4;rw[show ((j:Int)+1-1).toNat=j by omega]at k4;omega
 have z1:p.B.flat.count i=0:=List.count_eq_zero.2 λz=>O (h.inv.has i z);have z2:p.fa.count i=0:=List.count_eq_zero.2 λz=>O (h.fa i z);have z3:(y1r p.tb).count i=0:=List.count_eq_zero.2 λz=>O (v0s ht z);have z4:th.count i=0:=List.count_eq_zero.2 λz=>O (a4 i z);have z5:(p.B.at o.b o.p).count i=0:=List.count_eq_zero.2 λz=>O (h.inv.has i (z6z z));have a6:((⟨o.y,(p.y o.y).ct⟩:LId) == i)=true:=by rw[k,D.2,b0];simp
 rw[if_pos a6]at h1;omega
theorem y9b {p:MSt}{d:Int}:∀ {l l':List Yn},z6u p d l=.ok l'->MVal p->∀k,YnV p.tb (l.getD k yn0)->YnV p.tb (l'.getD k yn0)
 | [],l',e,_,k,hk=>by cases e;exact hk
 | y::l,l',e,h,k,hk=>by
  unfold z6u at e
  split at e
  ·cases e
  rename_i Z D
  split at e
  ·cases e
  rename_i O hl
  cases e
  cases k with
  | succ k=>simpa only[List.getD_cons_succ] using y9b hl h k (by simpa only[List.getD_cons_succ] using hk)
  | zero=>
   simp only[List.getD_cons_zero]at hk ⊢
   unfold z9o at D
   split at D
   ·cases D;exact hk
   split at D
   ·cases D
   cases D
   exact go_v hk λq I=>h.inv.has _ (u1o I)
theorem v7x {p q:MSt}{d:Int}(h:MVal p)(Z:-4<=p.rk+stI d/\p.rk+stI d<=4)(e:z9l p d=.ok q):MVal q:=by
 have hi:=(x0s h.inv Z e).1;unfold z9l at e;split at e;cases e;rename_i ys I;split at e;cases e;rename_i cr D;cases e;refine⟨hi,λk hk=>y9b I h k (h.yv k hk),h.tab,h.once,h.fa,h.cr.adds (λc O=>?_) D⟩;obtain⟨k1,k2,k3,_⟩:=y6g h.inv.B.nd O;exact⟨h.inv.has _ k1,h.inv.has _ k2,k3⟩
theorem x5o {r:Int}(O:-4<=r/\r<=4):∀ {n:Nat} {p q:MSt},MVal p->z6m n p r=.ok q->MVal q
 | 0,p,q,h,e=>by cases e;exact h
 | n+1,p,q,h,e=>by
  unfold z6m at e
  split at e
  ·cases e;exact h
  rename_i I
  split at e
  ·cases e
  rename_i p2 D
  have Z:=h.inv.rk
  refine x5o O (v7x h ?_ D) e
  unfold stI
  split<;>split<;>omega
theorem u4w {p q:MSt}{o:MOp}(h:MVal p)(hi:MInv q)(hn:z4g o.b o.p=0)(e:z9c p o=.ok q):MVal q:=by
 unfold z9c at e;split at e;cases e;split at e;cases e;rename_i D;have D:=Classical.not_not.1 D;split at e;cases e;split at e;cases e;cases e;refine⟨hi,h.yv,h.tab,λi hh=>?_,h.fa,h.cr⟩;have hb:=(z3n hn).1;have hc:=y7l (p:=p) (o:=o) hb i;have I:(p.B.put o.b o.p []).at (1-o.b) (z8d o.b o.p p.rk)=p.B.at (1-o.b) (z8d o.b o.p p.rk):=by
  rw[z5r p.B hn D,if_neg oo]
 have O:=z4n p.B hn [] i;have Z:=z4n (p.B.put o.b o.p []) D (y1a p o) i;have h3:=h.once i hh;rw[I]at Z;show (((p.B.put o.b o.p []).put (1-o.b) (z8d o.b o.p p.rk) (y1a p o)).flat++p.fa++y1r p.tb).count i=1;simp only[List.count_append]at h3 ⊢;simp only[List.count_nil]at O;omega
theorem u4j {p q:MSt}{o:MOp}(h:MVal p)(Z:MInv q)(hn:z4g o.b o.p=0)(e:y6f p o=.ok q):MVal q:=by
 unfold y6f at e;split at e;cases e;cases e;refine⟨Z,h.yv,h.tab,λi D=>?_,λi D=>?_,h.cr⟩;have I:=z4n p.B hn [] i;have O:=h.once i D;show ((p.B.put o.b o.p []).flat++(p.fa++p.B.at o.b o.p)++y1r p.tb).count i=1;simp only[List.count_append]at O ⊢;simp only[List.count_nil]at I;omega;rcases List.mem_append.1 D with k|k
 exact h.fa i k;exact h.inv.has i (z6z k)
theorem j9c {p q:MSt}{o:MOp}(h:MVal p)(e:doM p o=.ok q):MVal q:=by
 have I:=y1b h.inv e;unfold doM at e;split at e;cases e;rename_i hc;obtain⟨_,h1,O,h3,Z,h5⟩:=z7b (Classical.not_not.1 hc);unfold opM at e;split at e;have D:=O oo;unfold inM at e;split at e;cases e;cases e;exact x0y h I D ⟨(by intro q hq;cases hq),λ_ _=>rfl⟩;split at e;have D:=O oo;unfold v3m at e;split at e;cases e;cases e;exact x0y h I D ⟨(by intro q hq;cases hq),(by intro k;cases k)⟩;split at e;exact x5o (h5 oo) h e;split at e;have D:=O oo;have hn:=Z oo;unfold y4c at e;split at e;cases e;split at e;cases e;rename_i r hr;obtain⟨v1,v2,v3⟩:=x7e h D hr;exact u0b v1 I D hn sp0 (y2e v1.inv.B _ _) e;split at e;have D:=O oo;have hn:=Z oo;unfold y2s at e;split at e;cases e;split at e;cases e;rename_i r hr;obtain⟨v1,v2,v3⟩:=x7e h D hr;split at e;cases e;exact u0b v1 I D hn sp0 sp0 e;split at e;have D:=O oo;unfold y6i at e;split at e;cases e;exact(x7e h D e).1;split at e;exact u4w h I (Z oo) e;exact u4j h I (Z oo) e
theorem x0v:∀ {l:List MOp} {i:Nat} {p q:MSt},MVal p->z8b i p l=.ok q->MVal q
 | [],i,p,q,h,e=>by cases e;exact h
 | o::l,i,p,q,h,e=>by
  unfold z8b at e
  split at e
  ·cases e
  rename_i I D
  exact x0v (j9c h D) e
structure StQ where
  rk:Int
  q:BdQ
  yv:SV
  ys:List YQ
  fb:FbQ
structure St where
  rk:Int
  B:Bd
  ys:List Yn
  fb:Fb
abbrev StQ.p (s:StQ):St:=⟨s.rk,s.q.p,s.ys.map YQ.p,s.fb.p⟩
def YsA (w:World)(ys:List YQ):Prop:=∀i,Sl z2f w (slv (ys.getD i yq0).pe) (ys.getD i yq0).pes
theorem YsA.ext {w w':World}{ys:List YQ}(h:YsA w ys)(hf:Fr [] w w'):YsA w' ys:=λi=>(h i).ext hf
structure StAt (w:World) (s:StQ):Prop where
  b:BdAt w s.q
  y:Sl z3l w (slv s.yv) s.ys
  ya:YsA w s.ys
  f:FbAt w s.fb
theorem StAt.ext {w w':World}{s:StQ}(h:StAt w s)(hf:Fr [] w w'):StAt w' s:=⟨h.b.ext hf,h.y.ext hf,h.ya.ext hf,h.f.ext hf⟩
theorem u5b {κ:Type}[DecidableEq κ]{V:κ->Value}{w:World}{g:Nat}(h:MapF V w g λ_=>none):MapL V w g []:=by
 obtain⟨O,c,m,Z,h2,h3⟩:=h;have D:m=[]:=by
  cases m with
  | nil=>rfl
  | cons p m=>have:=h3 p.1;simp[z2t]at this
 subst D;have I:O.toList=[]:=List.map_eq_nil_iff.1 h2;refine⟨O,c,Z,by rw[I];rfl,sp0,by rw[I];simp,λe D=>by rw[I]at D;cases D⟩
theorem x4a {κ:Type}[DecidableEq κ]{m:List (κ×Value)}{k:κ}{v:Value}(h:k∉m.map (·.1)):z4o m k v=m++[(k,v)]:=by
 unfold z4o;have:(m.map (·.1)).findIdx? (λx=>decide (k=x))=none:=by
  rw[List.findIdx?_eq_none_iff];intro x D;have:k≠x:=λe=>h (e▸D);simpa using this
 rw[this]
abbrev cxK (c:Cx):LId×LId:=(c.a,c.b)
theorem x2j (l:List Cx):(crM l).map (·.1)=l.map cxK:=by unfold crM;rw[List.map_map];rfl
theorem u4z {l:List Cx}{i:Nat}(hn:(l.map cxK).Nodup)(I:i<l.length):z4o (crM (l.take i)) (cxK (l.getD i cx0)) (.int .i64 (l.getD i cx0).n)=crM (l.take (i+1)):=by
 have e:l.take (i+1)=l.take i++[l.getD i cx0]:=by rw[List.take_add_one,List.getD,List.getElem?_eq_getElem I];rfl
 rw[x4a,e];unfold crM;rw[List.map_append];rfl;rw[x2j];intro O;have D:(((l.take i)++[l.getD i cx0]).map cxK).Nodup:=by
  rw[<-e];exact List.Nodup.sublist (List.Sublist.map _ (List.take_sublist _ _)) hn
 rw[List.map_append]at D;exact(List.nodup_append.1 D).2.2 _ O _ (List.mem_singleton.2 U) U
theorem y9p {τ:TyK}{Mt:Nat}{w0 w:World}{s:StQ}{fs bs:List IQ}{gF gB gy gt Z gk I:Nat}{ps:List YQ}{us:List TQ}
    (hk:Blk w gk Mt [.int .i64 s.rk,.slice (some ⟨gF,0,none⟩) fs.length fs.length,.slice (some ⟨gB,0,none⟩) bs.length bs.length,.slice (some ⟨gy,0,none⟩) s.ys.length s.ys.length,.slice (some ⟨gt,0,none⟩) s.fb.ts.length s.fb.ts.length,.map (some Z),.slice (some ⟨I,0,none⟩) s.fb.fs.length s.fb.fs.length])
    (hF:RwO τ.S τ.I w0.heap.size w (.slice (some ⟨gF,0,none⟩) fs.length fs.length) fs) (hB:RwO τ.S τ.I w0.heap.size w (.slice (some ⟨gB,0,none⟩) bs.length bs.length) bs)
    (hY:YsO τ w0.heap.size w (.slice (some ⟨gy,0,none⟩) s.ys.length s.ys.length) ps) (hpl:ps.length=s.ys.length) (hpm:ps.map YQ.p=s.ys.map YQ.p)
    (hT:TbO τ w0.heap.size w (.slice (some ⟨gt,0,none⟩) s.fb.ts.length s.fb.ts.length) us) (hul:us.length=s.fb.ts.length) (htm:z2o us=z2o s.fb.ts)
    (hm:MapF crK w Z λ_=>none) (hf:Lw.Own z1j τ.I w0.heap.size w (.slice (some ⟨I,0,none⟩) s.fb.fs.length s.fb.fs.length) s.fb.fs) (hly:s.ys.length=6) (hlt:s.fb.ts.length=6)
    (hfr:Fr [] w0 w) (hgc:w0.heap.size<=Z) (hgk:w0.heap.size<=gk) (hfb:∀x∈fs++bs,I∉z0u (slv x.1)) (hft:∀i,i<6->∀q∈(us.getD i tq0).2,I∉z0u (slv q.th)) (hpF:plB fs=z2v (plB s.q.fs)) (hpB:plB bs=z2v (plB s.q.bs)) :
    ∃m:MQ,MkM τ Mt w0 ⟨gk,gy,6,gt,6,Z,w⟩ w m/\m.p=⟨s.rk,⟨z2v (plB s.q.fs),z2v (plB s.q.bs)⟩,s.ys.map YQ.p,z2o s.fb.ts,[],s.fb.fs⟩:=by
  refine⟨⟨s.rk,⟨(some ⟨gF,0,none⟩,fs.length,fs.length),(some ⟨gB,0,none⟩,bs.length,bs.length),fs,bs⟩,ps,us,[],(some ⟨I,0,none⟩,s.fb.fs.length,s.fb.fs.length),s.fb.fs⟩,⟨?_,⟨hF,hB⟩,?_,?_,u5b hm,hf,λx hx k D O=>?_,λi hi q hq k D O=>?_,by rw[hpl,hly],by rw[hul,hlt],hgk,hgc,⟨hfr,KpM.refl _ _ _⟩⟩,?_⟩
  · rw[hly,hlt]at hk;exact hk
  · rw[hly]at hY;exact hY
  · rw[hlt]at hT;exact hT
  · simp[z0u,slv]at O;subst O;exact hfb x hx D
  · simp[z0u,slv]at O;subst O;exact hft i hi q hq D
  · show (⟨s.rk,⟨plB fs,plB bs⟩,ps.map YQ.p,z2o us,[],s.fb.fs⟩:MSt)=_
    rw[hpF,hpB,hpm,htm]
end Go.G08
namespace Go.G08
open Go.Lw Go.G21 Go.Proofs Go.Sort
theorem j1y (X:World)(o:Obj)(b:Nat)(h:X.heap.size=b):(X.alloc o).drew.heap[b]?=some o:=by subst h;show (X.heap.push o)[X.heap.size]?=some o;simp
def DG (w w':World):Prop:=∃q os',w'=grow (w.drewN q) os'
theorem DG.refl (w:World):DG w w:=⟨0,#[],by rw[grow_empty];rfl⟩
theorem DG.alloc {w w':World}(h:DG w w')(o:Obj):DG w (w'.alloc o):=by
 obtain⟨q,D,rfl⟩:=h;exact⟨q,D++#[o],by rw[alloc_eq_grow,grow_grow]⟩
theorem DG.drew {w w':World}(h:DG w w'):DG w w'.drew:=by
 obtain⟨q,D,rfl⟩:=h;exact⟨q+1,D,rfl⟩
theorem DG.trans {a b c:World}(h:DG a b)(I:DG b c):DG a c:=by
 obtain⟨q,O,rfl⟩:=h;obtain⟨q',D,rfl⟩:=I;exact⟨q+q',O++D,by rw[<-grow_grow];unfold grow World.drewN;simp[Nat.add_assoc]⟩
theorem DG.cell {w w':World}(h:DG w w'){p:Addr}{v:Value}(hb:w.cell? p=some v):w'.cell? p=some v:=by
 obtain⟨q,D,rfl⟩:=h;have hl:=block_lt_of_cell hb;refine(World.cell?_of_block (w:=w) ?_).trans hb;show (w.heap++D)[p.block]?=_;rw[Array.getElem?_append_left hl]
theorem j9a {X:World}{b T:Nat}{x y:Int}(h:X.heap[b]?=some (.cells #[.int .i64 x,.int .i64 y] T (0,0))):Sl Enc.i64 X (.slice (some ⟨b,0,none⟩) 2 2) [x,y]:=
 Lw.Own.sl (E:=Enc.i64) (T:=T) (base:=b) (.inr ⟨b,2,_,rfl,Nat.le_refl _,h,Nat.le_refl _,dd,Nat.le_refl 2,rfl⟩)
def y9o (x y:Cx):Int:=if z5m x.a y.a≠0 then z5m x.a y.a else z5m x.b y.b
abbrev j6h (c:Cx):Value:=.agg #[.int .u8 c.a.y,.int .i64 c.a.n,.int .u8 c.b.y,.int .i64 c.b.n,.int .i64 c.n]
section
variable {α:Type} [Inhabited α] (E:Enc α)
theorem y9m (ys:Array α):(flatK E.enc E.sz ys).toList=ys.toList.flatMap E.enc:=by
 refine List.ext_getElem? λt=>?_;have hp:=E.pos;by_cases ht:t<ys.size*E.sz;have Z:t / E.sz<ys.size:=Nat.div_lt_of_lt_mul (by rw[Nat.mul_comm];exact ht);have D:t % E.sz<E.sz:=Nat.mod_lt _ hp;have I:=get_flatK E.enc E.sz ys t ht;have O:=E.flat_get ys.toList (t / E.sz) ys[t / E.sz] (by simp[Z]) (t % E.sz) D;rw[show t / E.sz*E.sz+t % E.sz=t by rw[Nat.mul_comm];exact Nat.div_add_mod t E.sz]at O;rw[O,Array.getElem?_toList];rw[getElem!_pos (flatK E.enc E.sz ys) t (by simpa using ht),getElem!_pos ys (t / E.sz) Z,getElem!_pos (E.enc ys[t / E.sz]) (t % E.sz) (by rw[E.len];exact D)]at I;rw[Array.getElem?_eq_getElem (by simpa using ht),I,List.getElem?_eq_getElem (by rw[E.len];exact D)];rw[List.getElem?_eq_none so,List.getElem?_eq_none (by rw[E.flat_len];simp;omega)]
variable {E} {w:World} {g T cap base:Nat} {cur:Array Value}
theorem u0a {ys:List α}(h:w.heap[g]?=some (.cells cur T (0,0)))(hs:ys.length*E.sz<=cur.size)(Z:cur.toList.take (ys.length*E.sz)=ys.flatMap E.enc):HoldsK E.enc E.sz w g 0 ys.toArray:=by
 intro j I;have O:j<ys.length*E.sz:=by simpa using I
 have e:=y9m E ys.toArray;rw[<-show cur.toList.take (ys.length*E.sz)=ys.toArray.toList.flatMap E.enc from Z]at e;have D:=congrArg (λl:List Value=>l[j]?) e;simp only[Array.getElem?_toList,List.getElem?_take,O,if_true]at D;constructor;rw[Nat.zero_add,getElem!_pos _ j I];rw[Array.getElem?_eq_getElem I]at D;simp only[World.cell?,h];exact D.symm;simp only[World.frozen?,h];simp
theorem u4m {ys:List α}(h:w.heap[g]?=some (.cells cur T (0,0)))(hs:ys.length*E.sz<=cur.size)(hb:base<=g)(hc:ys.length<=cap)(hM:cap<=maxLen)(Z:cap*E.sz<=cur.size)(d:Array α)(I:d.size=ys.length)(n:Nat)(O:Array Obj) :
    Lw.Own E T base (sortWorldK E.enc E.sz w g 0 n d O) (.slice (some ⟨g,0,none⟩) ys.length cap) d.toList/\Fr [g] w (sortWorldK E.enc E.sz w g 0 n d O):=by
  have hg:g<w.heap.size:=(Array.getElem?_eq_some_iff.1 h).1
  have D:∀k,k<w.heap.size->(sortWorldK E.enc E.sz w g 0 n d O).heap[k]?=(w.heap.modify g (onCells (putCells id 0 (flatK E.enc E.sz d))))[k]?:=λk hk=>by
    show ((w.heap.modify g _)++O)[k]?=_
    rw[Array.getElem?_append_left (by simpa using hk)]
  refine⟨.inr ⟨g,cap,putCells id 0 (flatK E.enc E.sz d) cur,by rw[show d.toList.length=ys.length by simpa using I],hb,?_,by simpa[I] using hc,hM,by simpa[putCells] using Z,?_⟩,rfl,rfl,rfl,?_,λk hk hn=>?_⟩
  · rw[D g hg,Array.getElem?_modify,if_pos U,h];rfl
  · rw[<-y9m E d]
    refine List.ext_getElem? λt=>?_
    have a0:d.toList.length=ys.length:=by simpa using I
    rw[List.getElem?_take,a0]
    by_cases ht:t<ys.length*E.sz
    · rw[if_pos ht,Array.getElem?_toList,Array.getElem?_toList]
      unfold putCells
      rw[Array.getElem?_mapIdx,Array.getElem?_eq_getElem (show t<cur.size by omega),Array.getElem?_eq_getElem (show t<(flatK E.enc E.sz d).size by simpa[I] using ht)]
      simp only[Option.map_some,Nat.zero_le,Nat.zero_add,true_and,Nat.sub_zero,id]
      rw[if_pos (by simpa[I] using ht),getElem!_pos _ t (by simpa[I] using ht)]
    · rw[if_neg ht,List.getElem?_eq_none (by simp[I];omega)]
  · show w.heap.size<=((w.heap.modify g _)++O).size
    simp
  · rw[D k hk,Array.getElem?_modify,if_neg (λe=>hn (by simp[e]))]
open Go.Shelf in
theorem v1x {P:Program}{ρ:Ren}(L:SlLaysF0.n6 P ρ){f cl:Nat}(hf:ρ.f 6=f)(aE:∀w,(isAgg (ρ.t 24)).run P w=.ok true w)(zE:∀w,(Go.sizeOf (ρ.t 24)).run P w=.ok E.sz w)(cf:α->α->Int)(hO:SWO (ltOf cf))
    (eg:∀D w,(callFunc cl D).run P w=.ok (.enter cl D) w)
    (hcmp:∀x y W,Calls P cl #[.agg (E.enc x).toArray,.agg (E.enc y).toArray] W λe w'=>e=.returned (.int .i64 (cf x y))/\DG W w')
    (hnil:∀W,Calls P f #[.slice none 0 0,.func (.func cl) #[] #[]] W λe w'=>e=.returned (.tuple #[])/\Fr [] W w')
    {v:Value} {ys:List α} (ho:Lw.Own E T base w v ys) (hl:ys.length<4611686018427387904):Rets P f #[v,.func (.func cl) #[] #[]] w λr w'=>r=.tuple #[]/\∃ys',ys'.Perm ys/\ys'.Pairwise (λa b=>¬cf b a<0)/\Lw.Own E T base w' v ys'/\Fr (z0u v) w w':=by
  subst hf
  rcases ho with ⟨rfl,rfl⟩|⟨g,cap,cur,rfl,h2,O,h4,h5,h6,h7⟩
  · exact Calls.mono (hnil w) (by rintro e w' ⟨rfl,h⟩;exact⟨_,rfl,rfl,[],.refl _,.nil,Lw.Own.nil _,h.weak sp0⟩)
  · have hs:ys.length*E.sz<=cur.size:=Nat.le_trans (Nat.mul_le_mul_right _ h4) h6
    have h:=AnyQ.slices_SortFunc L E.sz aE zE E.enc E.len E.one cf hO cl #[] g 0 cap ys.toArray w eg (λm os dk _ x y=>hcmp x y _) (u0a O hs h7) (Array.getElem?_eq_some_iff.1 O).1 (by simpa using hl)
    rw[show ys.toArray.size=ys.length by simp]at h
    refine Calls.mono h ?_
    rintro e w' ⟨rfl,I,n,os,hp,a3,rfl⟩
    have Z:I.size=ys.length:=by simpa using hp.1
    obtain⟨k1,k2⟩:=u4m (base:=base) O hs h2 h4 h5 h6 I Z n os
    refine⟨_,rfl,rfl,I.toList,?_,?_,k1,by simpa[z0u] using k2⟩
    · have:=hp.2.2
      simp[Z]at this
      rwa [List.take_of_length_le (by simpa using Nat.le_of_eq Z)]at this
    · rw[List.pairwise_iff_getElem]
      intro i j hi hj a1
      have a0:i<I.size:=by simpa using hi
      have a2:j<I.size:=by simpa using hj
      have:=a3 i j (Nat.zero_le _) a1 oo
      rw[getElem!_pos I i a0,getElem!_pos I j a2]at this
      simpa[ltOf] using this
end
theorem y1j {x y:Cx}:y9o x y<0↔(x.a.y<y.a.y\/x.a.y=y.a.y/\x.a.n<y.a.n)\/(x.a.y=y.a.y/\x.a.n=y.a.n)/\(x.b.y<y.b.y\/x.b.y=y.b.y/\x.b.n<y.b.n):=by
 unfold y9o;have e:z5m x.a y.a=0↔x.a.y=y.a.y/\x.a.n=y.a.n:=by rw[y8h];obtain⟨⟨_,_⟩,_,_⟩:=x;obtain⟨⟨_,_⟩,_,_⟩:=y;simp
 split;rename_i h;rw[z7x];rw[Ne,e]at h;omega;rename_i h;rw[Decidable.not_not,e]at h;rw[z7x];omega
theorem swoI:SWO (ltOf z5m):=by
 constructor;intro x;simp only[ltOf,decide_eq_false_iff_not,z7x];omega;intro x y z;simp only[ltOf,decide_eq_true_eq,z7x];omega;intro x y z;simp only[ltOf,decide_eq_false_iff_not,z7x];omega
theorem swoX:SWO (ltOf y9o):=by
 constructor;intro x;simp only[ltOf,decide_eq_false_iff_not,y1j];omega;intro x y z;simp only[ltOf,decide_eq_true_eq,y1j];omega;intro x y z;simp only[ltOf,decide_eq_false_iff_not,y1j];omega
def y2b (l:List LId):List LId:=l.mergeSort λa b=>decide (¬z5m b a<0)
def y2k (l:List Cx):List Cx:=l.mergeSort λa b=>decide (¬y9o b a<0)
theorem z4t (l:List LId):(y2b l).Perm l:=List.mergeSort_perm ..
theorem z3i (l:List Cx):(y2k l).Perm l:=List.mergeSort_perm ..
theorem v2c (l:List LId):(y2b l).Pairwise λa b=>¬z5m b a<0:=
 (List.pairwise_mergeSort (le:=λa b=>decide (¬z5m b a<0)) (λa b c=>by simp only[decide_eq_true_eq,z7x];omega) (λa b=>by simp only[Bool.or_eq_true,decide_eq_true_eq,z7x];omega) l).imp sp0
theorem x1v (l:List Cx):(y2k l).Pairwise λa b=>¬y9o b a<0:=
 (List.pairwise_mergeSort (le:=λa b=>decide (¬y9o b a<0)) (λa b c=>by simp only[decide_eq_true_eq,y1j];omega) (λa b=>by simp only[Bool.or_eq_true,decide_eq_true_eq,y1j];omega) l).imp sp0
theorem j1w {l l':List LId}(hp:l'.Perm l)(O:l'.Pairwise λa b=>¬z5m b a<0):l'=y2b l:=by
 refine List.Perm.eq_of_pairwise (λa b _ _ D I=>?_) O (v2c l) (hp.trans (z4t l).symm);rw[z7x]at D I;obtain⟨_,_⟩:=a;obtain⟨_,_⟩:=b;simp only at D I;rw[LId.mk.injEq];omega
theorem v7i {l l':List Cx}(hn:(l.map λc=>(c.a,c.b)).Nodup)(hp:l'.Perm l)(hs:l'.Pairwise λa b=>¬y9o b a<0):l'=y2k l:=by
 refine List.Perm.eq_of_pairwise (λa b ha hb Z h2=>?_) hs (x1v l) (hp.trans (z3i l).symm);have I:=hp.mem_iff.1 ha;have O:=(z3i l).mem_iff.1 hb;have hk:(a.a,a.b)=(b.a,b.b):=by
  rw[y1j]at Z h2;obtain⟨⟨_,_⟩,⟨_,_⟩,_⟩:=a;obtain⟨⟨_,_⟩,⟨_,_⟩,_⟩:=b;simp only at Z h2;simp only[Prod.mk.injEq,LId.mk.injEq];omega
 have D:=List.pairwise_iff_getElem.1 (List.pairwise_map.1 hn);obtain⟨i,hi,rfl⟩:=List.getElem_of_mem I;obtain⟨j,hj,rfl⟩:=List.getElem_of_mem O;rcases Nat.lt_trichotomy i j with h|h|h
 exact absurd hk (D i j hi hj h);subst h;rfl;exact absurd hk.symm (D j i hj hi h)
end Go.G08
namespace Go.Lw
section
variable {P:Program} {ops:Array Oper} {Q:Exit->Act->World->Prop} {rest:List Oper} {n:Nat} {ds:List Nat} {L:List (Nat×Value)} {w:World} {d:Nat} {x:Operand} {t K E g ty:Nat} {pos:String} {after:Array Edge} {κ:Type} [DecidableEq κ] {V:κ->Value} {m:List (κ×Value)}
theorem j7v (hx:ev L x=some (.map (some g)))(Z:MapL V w g m)(hu:P.underlying t=some (.map K E))(hn:Nat.blt d n=true)(q:WL P ops Q rest n ds w ((d,.int .i64 (m.length:Int))::L)):WL P ops Q (⟨some d,.call ⟨.builtin .len,#[x],#[t]⟩,ty,pos,after,none⟩::rest) n ds w L:=λa h=>by
 obtain⟨D,c,I,O,_⟩:=Z
 have hl:D.size=m.length:=by have:=congrArg List.length O;simpa using this
 refine z2m h U hn (w':=w) (v:=.int .i64 (m.length:Int)) ?_ q
 rw[z2d];unfold builtin
 simp[h.eval hx,Builtin.len_,run_underlying hu,z2x I,hl]
 rfl
theorem MapIt.no {gi:Nat}{rem:List (κ×Value)}{cur:Option (κ×Value)}(h:MapIt V w gi g m rem cur):MapIt V w gi g m rem none:=by
 obtain⟨I,c,D,Z,k2,k3,k4,k5,k6,_⟩:=h;exact⟨I,c,D,Z,k2,k3,k4,k5,k6,λp O=>by cases O⟩
end
end Go.Lw
namespace Go.G08
open Go.Lw Go.G21
theorem j5u (a b:List Cx):crM (a++b)=crM a++crM b:=by unfold crM;rw[List.map_append]
theorem u0u {l:List Cx}{r1 r2:List ((LId×LId)×Value)}{p:(LId×LId)×Value}(h:crM l=r1++p::r2):∃D c I,l=D++c::I/\r1=crM D/\p=((c.a,c.b),.int .i64 c.n)/\r2=crM I:=by
 unfold crM at h;obtain⟨D,l',rfl,O,Z⟩:=List.map_eq_append_iff.1 h;obtain⟨c,I,rfl,e3,e4⟩:=List.map_eq_cons_iff.1 Z;exact⟨D,c,I,rfl,O.symm,e3.symm,e4.symm⟩
section
variable {P:Program} {ops:Array Oper} {Q:Exit->Act->World->Prop} {rest:List Oper} {n:Nat} {ds:List Nat} {L:List (Nat×Value)} {w:World} {d:Nat} {x:Operand} {t g gi ty:Nat} {pos:String} {after:Array Edge} {em:List ((LId×LId)×Value)} {rem:List Cx}
def CrIt (w:World)(gi g:Nat)(em:List ((LId×LId)×Value))(rem:List Cx)(cur:Option Cx):Prop:=MapIt crK w gi g em (crM rem) (cur.map λc=>((c.a,c.b),.int .i64 c.n))
theorem CrIt.fr {w':World}{S:List Nat}{cur:Option Cx}(h:CrIt w gi g em rem cur)(hf:Fr S w w')(hn:∀k∈S,k≠g/\k≠gi):CrIt w' gi g em rem cur:=MapIt.fr h hf (λe=>(hn g e).1 U) (λe=>(hn gi e).2 U)
theorem CrIt.ext {w':World}{cur:Option Cx}(h:CrIt w gi g em rem cur)(hf:Fr [] w w'):CrIt w' gi g em rem cur:=h.fr hf sp0
theorem CrIt.no {cur:Option Cx}(h:CrIt w gi g em rem cur):CrIt w gi g em rem none:=MapIt.no h
theorem CrIt.lt {cur:Option Cx}(h:CrIt w gi g em rem cur):gi<w.heap.size:=MapIt.lt h
theorem CrIt.neO {α:Type}{E:Enc α}{T base:Nat}{v:Value}{ys:List α}{cur:Option Cx}(h:CrIt w gi g em rem cur)(ho:Lw.Own E T base w v ys):∀k∈z0u v,k≠g/\k≠gi:=λk I=>by
 obtain⟨es,c,Z,k1,_,_,_,k5,_⟩:=h
 rcases ho with ⟨rfl,_⟩|⟨g',cap,O,rfl,_,D,_⟩
 ·simp[z0u]at I
 simp only[z0u,List.mem_singleton]at I
 subst I
 exact⟨λe=>(by rw[e,k1]at D;cases D),λe=>(by rw[e,k5]at D;cases D)⟩
theorem u6e {K E:Nat}{l:List Cx}(O:ev L x=some (.map (some g)))(D:MapL crK w g (crM l))(I:P.underlying t=some (.map K E))(hn:Nat.blt d n=true)
 (q:∀gi w',gi=w.heap.size->CrIt w' gi g (crM l) l none->Fr [] w w'->w'.heap.size=gi+1->WL P ops Q rest n ds w' ((d,.pointer (some ⟨gi,0,none⟩))::L)):WL P ops Q (⟨some d,.range t x,ty,pos,after,none⟩::rest) n ds w L:=u4d O D I hn q
theorem j0l {cur:Option Cx}(hx:ev L x=some (.pointer (some ⟨gi,0,none⟩)))(hi:CrIt w gi g em rem cur)(hn:Nat.blt d n=true)
    (qt:∀D c I,rem=D++c::I->∀w',CrIt w' gi g em (D++I) (some c)->Fr [gi] w w'->w'.heap.size=w.heap.size->WL P ops Q rest n ds w' ((d,.tuple #[.bool true,crK (c.a,c.b),.int .i64 c.n])::L))
    (qf:rem=[]->WL P ops Q rest n ds w ((d,.tuple #[.bool false])::L)):WL P ops Q (⟨some d,.next x false,ty,pos,after,none⟩::rest) n ds w L:=
  j5q hx hi hn (λr1 p r2 O w' Z hf hz=>by
    obtain⟨D,c,I,rfl,rfl,rfl,rfl⟩:=u0u O
    exact qt D c I U w' (by unfold CrIt;rw[j5u];exact Z) hf hz) (λO=>qf (List.map_eq_nil_iff.1 O))
theorem u6y {c:Cx}(I:ev L x=some (.pointer (some ⟨gi,0,none⟩)))(D:CrIt w gi g em rem (some c))(hn:Nat.blt d n=true)
 (q:WL P ops Q rest n ds w ((d,.tuple #[.agg #[.int .u8 c.a.y,.int .i64 c.a.n,.int .u8 c.b.y,.int .i64 c.b.n],.int .i64 c.n])::L)):WL P ops Q (⟨some d,.entry x,ty,pos,after,none⟩::rest) n ds w L:=u6r (p:=((c.a,c.b),.int .i64 c.n)) I D hn q
end
section
variable {τ:TyK} {Mt:Nat} {wS w w':World} {a:MA} {m:MQ} {j:Nat} {u:SV}
theorem MkM.tabh (h:MkM τ Mt wS a w m)(I:MtOk τ Mt)(hj:j<6)(h1:Lw.Own z7k τ.L wS.heap.size w (slv u) (m.ts.getD j tq0).2)(Z:∀i,i<6->∀b∈z0u (slv (m.ts.getD i tq0).1),b∉z0u (slv u))
    (h2:Lw.Own z4z τ.T wS.heap.size w' a.TV (m.ts.set j (u,(m.ts.getD j tq0).2))) (f2:Fr [a.gt] w w'):MkM τ Mt wS a w' { m with ts:=m.ts.set j (u,(m.ts.getD j tq0).2) }:=by
  have hl:j<m.ts.length:=by rw[h.lt];exact hj
  have O:∀T,T≠τ.T->OffT w T [a.gt]:=λT hT=>z7f h.t.out (Ne.symm hT)
  refine⟨x0m h.k f2 (O _ I.t),BdO.tf h.b f2 (O _ (Ne.symm I.o.ts)) (O _ (Ne.symm I.o.ti)),h.y.tf f2 (O _ I.o.yt) (O _ (Ne.symm I.o.tp)),⟨h2,λi D=>?_,λi k D hk a2=>?_,λi D q hq=>?_⟩,h.c.tf f2 (O _ I.t),z2b h.f f2 (O _ (Ne.symm I.o.ti)),h.fb,λi D p hp=>?_,h.ly,by rw[List.length_set];exact h.lt,h.gk,h.gc,h.fr.step f2 (y9u h.t.out (by simp[u2o])) λk hk a3=>?_⟩
  · simp only[List.length_set]at D
    rw[z1i hl]
    split
    · exact z2b h1 f2 (O _ (Ne.symm I.o.tl))
    · exact z2b (h.t.ins i D) f2 (O _ (Ne.symm I.o.tl))
  · simp only[List.length_set]at D hk
    rw[z1i hl,z1i hl]
    split
    · rw[if_neg oo];exact λb hb a1=>Z k (by rw[<-h.lt];exact hk) b a1 hb
    · split
      · exact Z i (by rw[<-h.lt];exact D)
      · exact h.t.off i k D hk a2
  · simp only[List.length_set]at D
    rw[z1i hl]at hq
    have a0:q∈(m.ts.getD i tq0).2:=by split at hq;(rename_i e;subst e;exact hq);exact hq
    exact⟨z2b (h.t.lps i D q a0).1 f2 (O _ (Ne.symm I.o.ti)),z2b (h.t.lps i D q a0).2 f2 (O _ (Ne.symm I.o.tp))⟩
  · simp only at hp
    rw[z1i hl]at hp
    split at hp
    · rename_i e;subst e;first|exact h.ft _ D p hp|exact h.ft _ hj p hp
    · exact h.ft i D p hp
  · have:=(h.t.out.blk k hk).1;omega
theorem MkM.fallS {l:List LId}(h:MkM τ Mt wS a w m)(Z:MtOk τ Mt)(D:τ.I≠τ.P)(h1:Lw.Own z1j τ.I wS.heap.size w' (slv m.fa) l)(O:Fr (z0u (slv m.fa)) w w'):MkM τ Mt wS a w' { m with fl:=l }:=by
 have I:=x0m h.k O (z7f h.f (Ne.symm Z.i));exact MkM.fall (u:=m.fa) h Z D h1 O (λk I=>.inl I) I ((Fr.refl [] w').weak sp0)
def stM (p:MSt):St:=⟨p.rk,p.B,p.ys,⟨p.tb,y2k p.cr,(z3h p.B p.rk).map Hd.id,y2b p.fa⟩⟩
structure MkW (τ:TyK) (base:Nat) (a:MA) (w:World) (m:MQ):Prop where
  b:BdO τ.S τ.I base w m.q
  y:YsO τ base w a.YV m.ys
  t:TbO τ base w a.TV m.ts
theorem MkM.toW (h:MkM τ Mt wS a w m):MkW τ wS.heap.size a w m:=⟨h.b,h.y,h.t⟩
theorem MkW.ext {base:Nat}(h:MkW τ base a w m)(hf:Fr [] w w'):MkW τ base a w' m:=⟨h.b.ext hf,h.y.ext hf,h.t.ext hf⟩
theorem MkW.off {base g T:Nat}{cs:List Value}(h:MkW τ base a w m)(D:Blk w g T cs)(hT:T≠τ.S/\T≠τ.I/\T≠τ.Y/\T≠τ.P/\T≠τ.T/\T≠τ.L)(hf:Fr [g] w w'):MkW τ base a w' m:=by
 obtain⟨Z,I,h3,O,h5,h6⟩:=hT;exact⟨BdO.tf h.b hf (OffT.one D Z) (OffT.one D I),h.y.tf hf (OffT.one D h3) (OffT.one D O),h.t.tf hf (OffT.one D h5) (OffT.one D h6) (OffT.one D I) (OffT.one D O)⟩
def SepH (s:StQ):Prop:=∀k∈z0u (slv s.fb.h),(∀q∈s.q.fs++s.q.bs,k∉z0u (slv q.1))/\(∀t∈s.fb.ts,∀l∈t.2,k∉z0u (slv l.th))/\k∉z0u (slv s.fb.f)
structure StO (τ:TyK) (Tc base:Nat) (w:World) (s:StQ):Prop where
  b:BdO τ.S τ.I base w s.q
  y:YsO τ base w (slv s.yv) s.ys
  t:TbO τ base w (slv s.fb.t) s.fb.ts
  c:Lw.Own z5p Tc base w (slv s.fb.c) s.fb.cs
  h:Lw.Own z1j τ.I base w (slv s.fb.h) s.fb.hs
  f:Lw.Own z1j τ.I base w (slv s.fb.f) s.fb.fs
  sp:SepH s
theorem StO.ext {D base:Nat}{s:StQ}(h:StO τ D base w s)(hf:Fr [] w w'):StO τ D base w' s:=⟨h.b.ext hf,h.y.ext hf,h.t.ext hf,h.c.ext hf,h.h.ext hf,h.f.ext hf,h.sp⟩
theorem StO.off {O base g T:Nat}{cs:List Value}{s:StQ}(h:StO τ O base w s)(D:Blk w g T cs)(hT:T≠τ.S/\T≠τ.I/\T≠τ.Y/\T≠τ.P/\T≠τ.T/\T≠τ.L/\T≠O)(hf:Fr [g] w w'):StO τ O base w' s:=by
 obtain⟨h1,I,h3,Z,h5,h6,h7⟩:=hT;exact⟨BdO.tf h.b hf (OffT.one D h1) (OffT.one D I),h.y.tf hf (OffT.one D h3) (OffT.one D Z),h.t.tf hf (OffT.one D h5) (OffT.one D h6) (OffT.one D I) (OffT.one D Z),z2b h.c hf (OffT.one D h7),z2b h.h hf (OffT.one D I),z2b h.f hf (OffT.one D I),h.sp⟩
theorem StO.low {O base b':Nat}{s:StQ}(h:StO τ O base w s)(hb:b'<=base):StO τ O b' w s:=
 ⟨⟨⟨h.b.f.1.low hb,λq I=>(h.b.f.2 q I).low hb⟩,⟨h.b.b.1.low hb,λq I=>(h.b.b.2 q I).low hb⟩⟩,⟨h.y.out.low hb,λi D=>(h.y.ins i D).low hb⟩,⟨h.t.out.low hb,λi D=>(h.t.ins i D).low hb,h.t.off,λi D q I=>⟨(h.t.lps i D q I).1.low hb,(h.t.lps i D q I).2.low hb⟩⟩,h.c.low hb,h.h.low hb,h.f.low hb,h.sp⟩
theorem StO.at {O base:Nat}{s:StQ}(h:StO τ O base w s):StAt w s:=by
 refine⟨h.b.at,h.y.out.sl,λi=>?_,⟨h.t.out.sl,λp Z=>?_,h.c.sl,h.h.sl,h.f.sl⟩⟩;by_cases D:i<s.ys.length;exact(h.y.ins i D).sl;rw[List.getD,List.getElem?_eq_none oo];exact Sl.nil w;obtain⟨i,D,rfl⟩:=List.getElem_of_mem Z;have e:s.fb.ts.getD i tq0=s.fb.ts[i]:=by rw[List.getD,List.getElem?_eq_getElem D];rfl
 rw[<-e];exact⟨(h.t.ins i D).sl,λq I=>⟨(h.t.lps i D q I).1.sl,(h.t.lps i D q I).2.sl⟩⟩
end
end Go.G08
namespace Go.G08
open Go.Lw Go.G21
structure PlaceV (T:Tb) (H F:List LId):Prop where
  has:∀i∈H++F,z5h T i
  asc:∀i,0<i->i<F.length->z5m (F.getD (i-1) id0) (F.getD i id0)<0
  once:∀y,y<6->∀n,n<z3w T y->(H++F++y1r T).count ⟨(y:Int)+1,(n:Int)⟩=1
  le:∀i,(H++F++y1r T).count i<=1
structure PlaceW (T:Tb) (H F:List LId):Prop where
  has:∀i∈H++F,z5h T i
  asc:∀i,0<i->i<F.length->z5m (F.getD (i-1) id0) (F.getD i id0)<0
  le:∀i,(H++F++y1r T).count i<=1
theorem PlaceV.w {T:Tb}{H F:List LId}(h:PlaceV T H F):PlaceW T H F:=⟨h.has,h.asc,h.le⟩
open Classical in
noncomputable def u3n (T:Tb)(H F:List LId):Int:=if ∃y,y<6/\∃n,n<z3w T y/\(H++F++y1r T).count ⟨(y:Int)+1,(n:Int)⟩≠1 then 6 else 0
theorem v7j {T:Tb}{H F:List LId}(h:∀y,y<6->∀n,n<z3w T y->(H++F++y1r T).count ⟨(y:Int)+1,(n:Int)⟩=1):u3n T H F=0:=if_neg λ⟨y,hy,n,hn,e⟩=>e (h y hy n hn)
theorem j2s {T:Tb}{H F:List LId}{y n:Nat}(D:y<6)(hn:n<z3w T y)(h:(H++F++y1r T).count ⟨(y:Int)+1,(n:Int)⟩≠1):u3n T H F=6:=if_pos ⟨y,D,n,hn,h⟩
structure CrsV (T:Tb) (l:List Cx):Prop where
  has:∀i,i<l.length->z5h T (l.getD i cx0).a/\z5h T (l.getD i cx0).b/\z5m (l.getD i cx0).a (l.getD i cx0).b<0/\(-1048576<=(l.getD i cx0).n/\(l.getD i cx0).n<=1048576)/\(l.getD i cx0).n≠0
  asc:∀i,0<i->i<l.length->y9o (l.getD (i-1) cx0) (l.getD i cx0)<0
theorem u5k {a b:LId}(h:¬z5m b a<0)(D:a≠b):z5m a b<0:=by
 have Z:=mt y8h.1 D;rw[z7x]at h ⊢;have h1:¬(a.y=b.y/\a.n=b.n):=by
  rintro⟨I,O⟩;obtain⟨_,_⟩:=a;obtain⟨_,_⟩:=b;simp only at I O;subst I;subst O;exact D U
 omega
theorem u5i {a b:Cx}(h:¬y9o b a<0)(D:(a.a,a.b)≠(b.a,b.b)):y9o a b<0:=by
 rw[y1j]at h ⊢;have Z:¬((a.a.y=b.a.y/\a.a.n=b.a.n)/\(a.b.y=b.b.y/\a.b.n=b.b.n)):=by
  obtain⟨⟨_,_⟩,⟨_,_⟩,_⟩:=a;obtain⟨⟨_,_⟩,⟨_,_⟩,_⟩:=b;rintro⟨⟨I,O⟩,e3,e4⟩;simp only at I O e3 e4;subst I;subst O;subst e3;subst e4;exact D U
 omega
theorem x6n {α:Type}{R:α->α->Prop}{l:List α}(d:α)(h:l.Pairwise R){i:Nat}(I:0<i)(D:i<l.length):R (l.getD (i-1) d) (l.getD i d):=by
 have:=List.pairwise_iff_getElem.1 h (i-1) i oo D oo;rwa [List.getD,List.getElem?_eq_getElem oo,List.getD,List.getElem?_eq_getElem D]
theorem u6k {l:List LId}(hn:l.Nodup):(y2b l).Pairwise λa b=>z5m a b<0:=by
 have D:(y2b l).Pairwise (·≠·):=(z4t l).nodup_iff.2 hn;exact((v2c l).and D).imp λh=>u5k h.1 h.2
theorem u2w {l:List Cx}(hn:(l.map λc=>(c.a,c.b)).Nodup):(y2k l).Pairwise λa b=>y9o a b<0:=by
 have D:((y2k l).map λc=>(c.a,c.b)).Nodup:=((z3i l).map _).nodup_iff.2 hn;exact((x1v l).and (List.pairwise_map.1 D)).imp λh=>u5i h.1 h.2
theorem MVal.le {p:MSt}(h:MVal p)(i:LId):(p.B.flat++p.fa++y1r p.tb).count i<=1:=by
 by_cases k:z5h p.tb i;exact Nat.le_of_eq (h.once i k);obtain⟨rk,I⟩:=h.tab;rw[List.count_eq_zero.2];omega;intro D;rcases List.mem_append.1 D with z|z
 rcases List.mem_append.1 z with z|z
 exact k (h.inv.has i z);exact k (h.fa i z);exact k (v0s I z)
theorem MVal.nodupF {p:MSt}(h:MVal p):p.fa.Nodup:=List.nodup_iff_count.2 λi=>by
 have:=h.le i
 rw[List.count_append,List.count_append]at this
 omega
theorem MVal.tabV {p:MSt}(h:MVal p):TabV p.tb:=by
 obtain⟨rk,D⟩:=h.tab;refine⟨⟨h.inv.lt,h.inv.all,D.rts,rk,D.rkd⟩,λi=>?_⟩;have:=h.le i;rw[List.count_append]at this;omega
theorem MVal.cntHF {p:MSt}(i:LId):(((z3h p.B p.rk).map Hd.id)++y2b p.fa++y1r p.tb).count i=(p.B.flat++p.fa++y1r p.tb).count i:=by
 simp only[List.count_append];rw[(x2t p.B p.rk).count_eq,(z4t p.fa).count_eq]
theorem MVal.place {p:MSt}(h:MVal p):PlaceV p.tb ((z3h p.B p.rk).map Hd.id) (y2b p.fa):=by
 refine⟨λi D=>?_,λi I D=>x6n id0 (u6k h.nodupF) I D,λy Z n O=>?_,λi=>?_⟩;rcases List.mem_append.1 D with k|k
 exact h.inv.has i ((x2t p.B p.rk).mem_iff.1 k);exact h.fa i ((z4t p.fa).mem_iff.1 k);rw[MVal.cntHF];exact h.once _ (y0u (by rw[h.inv.lt];exact Z) O);rw[MVal.cntHF];exact h.le i
theorem MVal.crs {p:MSt}(h:MVal p):CrsV p.tb (y2k p.cr):=
 ⟨λi D=>h.cr.has _ ((z3i p.cr).mem_iff.1 (z1b D)),λi I D=>x6n cx0 (u2w h.cr.nd) I D⟩
end Go.G08
namespace Go.Proofs.YtagnnbcnnmacmaaGreatDoor
open Go.Lw Go.G21 Go.G08 _root_.Go.Proofs.Tryz
theorem x1t:z4i prog 100 5:=⟨λ_=>kr0,λ_=>kr0⟩
theorem u4q:ElemOf prog 41 100 z5p 40:=ElemOf.mk' (z:=(.agg #[.int .u8 0,.int .i64 0,.int .u8 0,.int .i64 0,.int .i64 0])) underlying41 kr0 U
theorem y6e:z0y prog 100 0 0:=λ_ _=>kr0
theorem y6p:z0y prog 100 1 2:=λ_ _=>kr0
theorem y8c:z0y prog 100 2 4:=λ_ _=>kr0
theorem v4p:z1r prog 100 5:=λ_=>kr0
theorem x9c (w:World):(zeroValue 100).run prog w=.ok (.agg #[(.int .u8 0),(.int .i64 0),(.int .u8 0),(.int .i64 0),(.int .i64 0)]) w:=kr0
theorem u3i (x y:Cx):orZ [z5m x.a y.a,z5m x.b y.b]=y9o x y:=by
 unfold orZ orZ orZ y9o
 repeat' split
 all_goals first|rfl|omega
theorem v1n (x y:Cx)(w0:World):Rets prog 41 #[.agg #[.int .u8 x.a.y,.int .i64 x.a.n,.int .u8 x.b.y,.int .i64 x.b.n,.int .i64 x.n],.agg #[.int .u8 y.a.y,.int .i64 y.a.n,.int .u8 y.b.y,.int .i64 y.b.n,.int .i64 y.n]] w0 λr w'=>r=.int .i64 (y9o x y)/\Fr [] w0 w':=by
 refine we [(0,.agg #[.int .u8 x.a.y,.int .i64 x.a.n,.int .u8 x.b.y,.int .i64 x.b.n,.int .i64 x.n]),(1,.agg #[.int .u8 y.a.y,.int .i64 y.a.n,.int .u8 y.b.y,.int .i64 y.b.n,.int .i64 y.n])] func41 U ntmps41 U (.c2 U U) (sr (bx U (λg2 w1 a3 O q1 z1=>(bx U (λg3 w2 a4 Z q2 z2=>(asg U (nn (sq ?_))))))));intro a h;refine z0h none (λwb w'=>Fr [] wb w') z2y ?_;intro w3 q3;replace O:=O.ext (q2.n1 q3);replace Z:=Z.ext q3;have hC:Fr [] w3 w3:=Fr.refl _ _;have D:=O;have I:=Z;refine z0c 0 h U y6e U λa h=>z1d (vs:=[_,_]) 1 h U (λ_ hw=>(D.ext hw)) z3x U U λa h=>z0c 2 h U y6e U λa h=>z1d (vs:=[_,_]) 3 h U (λ_ hw=>(I.ext hw)) z3x U U λa h=>z0c 5 h U y6p U λa h=>z1d (vs:=[_,_]) 6 h U (λ_ hw=>(D.ext hw)) z3x U U λa h=>z0c 7 h U y6p U λa h=>z1d (vs:=[_,_]) 8 h U (λ_ hw=>(I.ext hw)) z3x U U λa h=>z0e 4 U (z0n h (z0a U (z0a U z0g)) j6k (y0l x.a y.a _) ?_);rintro _ w4 ⟨rfl,q4⟩ a h;replace hC:=hC.next q4;refine z0b (z0e 9 U (z0n h (z0a U (z0a U z0g)) j6k (y0l x.b y.b _) ?_));rintro _ w5 ⟨rfl,q5⟩ a h;replace O:=O.ext (q4.n1 q5);replace Z:=Z.ext (q4.n1 q5);replace hC:=hC.next q5;refine z0b (z0e 10 U (z2i ([z5m x.a y.a,z5m x.b y.b]) h (z0a U (z0a U z0g)) U z3b λa1 w6 hg a2 q6 hz a h=>?_));have a0:g2<a1:=by have:=O.lt;omega
 have a0:g3<a1:=by have:=Z.lt;omega
 replace hC:=hC.next q6;refine z0b (z0e 11 U (z0n h (z0a U z0g) (mkC func99) (k0x _ [z5m x.a y.a,z5m x.b y.b] _ a2.sl sp0) ?_));rintro _ w7 ⟨rfl,q7⟩ a h;replace hC:=hC.next q7;refine z0b (z0e 12 U (z0s h U λa h=>?_));refine z0b (z0r ?_);clear hC D I;refine bk (h.sub (L':=[(4,_)]) (.cons U .nil)) (tn (rt (r1 results41 U ?_)));exact⟨_,rfl,congrArg (Value.int .i64) (u3i x y),(q1.n6 q2 q3 q4 q5 q6 q7)⟩
theorem v4t (q:FbQ)(w0:World)(Z:FbAt w0 q)(h6:q.ts.length=6)(hv:CrsV (z2o q.ts) q.cs):Rets prog 127 #[.agg #[.slice q.t.1 q.t.2.1 q.t.2.2,.slice q.c.1 q.c.2.1 q.c.2.2,.slice q.h.1 q.h.2.1 q.h.2.2,.slice q.f.1 q.f.2.1 q.f.2.2]] w0 λr w'=>r=.int .i64 0/\Fr [] w0 w':=by
 have c9:=Z.len;have b9:=y1n q.ts;have hM:=Z.c.len_le;unfold maxLen at hM;refine we [(0,.agg #[.slice q.t.1 q.t.2.1 q.t.2.2,.slice q.c.1 q.c.2.1 q.c.2.2,.slice q.h.1 q.h.2.1 q.h.2.2,.slice q.f.1 q.f.2.1 q.f.2.2])] func127 U ntmps127 U (.cons U .nil) ?_;have a5:=Z;refine sr (bx U (λg1 w1 b7 O q1 z1=>(asg U (nn (sq (sr (fad U x0i (z0i U O U j6d (lnS U underlying41 (mv U (nn (bl (lpK (ι:=Nat) [(1,_),(6,_),(7,_)] (λi=>[(8,.int .i64 (i:Int))]) (λi w'=>Fr [] w1 w'/\i<=q.cs.length) (λi=>q.cs.length-i) 0 (.c4 U U U U) ⟨Fr.refl _ _,Nat.zero_le _⟩ ?_)))))))))))));rintro i w2 ⟨q2,hi⟩;have z2:=q2.size;refine kpC [(1,_),(6,_),(7,_),(8,_)] (.c4 U U U U) (sr (lt' U (nn (sq (cd U (λc0=>?_) (λc0=>?_))))));have a2:=hv.has i oo;have a8:=a2.1;have a9:=a2.2.1;have b3:=a8.1;have b4:=a8.2.1;have b5:=a9.1;have b6:=a9.2.1;have b0:=hv.asc i;refine sk (tn (sq (bl (sr (mv U ?_)))));replace Z:=a5.ext (q1.n1 q2);refine z0x (cx0) U Z.c U u4q z1m (λb1 a6=>?_);refine z1t U (a6 _ Z.c) x1t (al x9c U (λg4 w3 b8 I q3 z3=>?_));refine asg U (z0k (vs:=[_,_,_,_,_]) U I v4p (λw4 I q4 z4=>?_) (h1:=(by first|(simp[Value.oneCell',S];done)|exact z5p.one _)));refine nn (sq (sq (u2n (r:=34) (L':=[(1,_),(3,_),(4,_),(6,_),(7,_),(8,_)]) ((((¬z5h (z2o q.ts) (q.cs.getD i cx0).a)\/(¬z5h (z2o q.ts) (q.cs.getD i cx0).b))\/(0<=(z5m (q.cs.getD i cx0).a (q.cs.getD i cx0).b)))) (.c6 U U U U U U) ?_ ?_)));refine fad U y4t ?_;replace O:=(O.ext (q2.n1 q3)).fr q4;refine z0i U O U v0w (fad U y6e (z2r (vs:=[_,_]) U I z3x U ?_));replace Z:=a5.ext (q1.z3 q2 q3 q4);refine cl (ev2 U) (mkC func165) (x8a (q.cs.getD i cx0).a _ _ _ Z.t Z.tt oo oo) U ?_;rintro _ w5 ⟨rfl,q5⟩;have z5:=q5.size;refine nt' U (mv U (gs 19 U (λhh=>absurd hh (by exact λe=>e a2.1)) (λg0=>(gY U (fad U y4t (gY U ?_))))));replace O:=O.ext q5;refine z0i U O U v0w (gY U (fad U y6p (gY U ?_)));replace I:=I.ext q5;refine z2r (vs:=[_,_]) U I z3x U (gY U ?_);replace Z:=a5.ext (q1.z4 q2 q3 q4 q5);refine cl (ev2 U) (mkC func165) (x8a (q.cs.getD i cx0).b _ _ _ Z.t Z.tt oo oo) U ?_;rintro _ w6 ⟨rfl,q6⟩;have z6:=q6.size;refine gY U (nt' U (pkf U (mv U (gs 27 U (λhh=>absurd hh (by exact λe=>e a2.2.1)) (λg1=>(gY U (fad U y6e (gY U ?_))))))));replace I:=I.ext q6;refine z2r (vs:=[_,_]) U I z3x U (gY U (fad U y6p (gY U (z2r (vs:=[_,_]) U I z3x U (gY U (cl (ev2 U) j6k (y0l (q.cs.getD i cx0).a (q.cs.getD i cx0).b _) U ?_))))));rintro _ w7 ⟨rfl,q7⟩;have z7:=q7.size;exact gY U (ge' U (pkf U (y5c U (.c6 U U U U U U) (q5.n2 q6 q7))));intro w8 q8;have z8:=q8.size;refine tn (cd U (λc1=>?_) (λc1=>?_));refine sr (asg U (kpL [(2,_)] (.cons U .nil) (nn (rt (tr (rb (tr (tr (rb (tr (r1 results127 U ?_)))))))))));exfalso;rcases c1 with (hh|hh)|hh
 exact hh a2.1;exact hh a2.2.1;omega;refine sk (tn (sq (sq (rbo (r:=47) (L':=[(1,_),(3,_),(4,_),(6,_),(7,_),(8,_)]) (((((q.cs.getD i cx0).n < -1048576)\/(1048576<(q.cs.getD i cx0).n))\/((q.cs.getD i cx0).n=0))) (.c6 U U U U U U) ?_ ?_))));refine fad U y8c ?_;replace I:=I.ext q8;refine z0i U I U na3 (lt' U (mv U (gs 38 U (λhh=>absurd hh oo) (λg2=>(gY U (fad U y8c (gY U (z0i U I U na3 (gY U (gt' U (pkf U (mv U (gs 43 U (λhh=>absurd hh oo) (λg3=>?_))))))))))))));exact gY U (fad U y8c (gY U (z0i U I U na3 (gY U (eq' U (pkf U (rbe U (.c6 U U U U U U))))))));refine tn (cd U (λc2=>?_) (λc2=>?_));refine sr (asg U (kpL [(2,_)] (.cons U .nil) (nn (rt (tr (rb (tr (tr (rb (tr (r1 results127 U ?_)))))))))));exfalso;omega;refine sk (tn (sq ?_));replace Z:=a5.ext (q1.z4 q2 q3 q4 q8);replace O:=((O.ext (q2.n1 q3)).fr q4).ext q8;intro a h;refine z0h none (λwb w'=>Fr [] wb w') z2y ?_;intro w9 q9;have z9:=q9.size;replace Z:=Z.ext q9;replace O:=O.ext q9;replace I:=I.ext (q8.n1 q9);have hC:Fr [] w9 w9:=Fr.refl _ _;have a4:=Z;have a0:=O;have a1:=I;refine z0d 0 h U λa h=>v7t 1 hC h wn U U U U λa h=>z0d 2 h U λa h=>gSp (D:=50) h U ?_ ?_;clear h;intro g4 h;refine z0c 3 h U x0i U ?_ (hG:=(wy U));clear h a;intro a h;refine z0j 4 h U (λ_ hw=>a0.ext hw) U j6d U ?_ (hG:=(wy U));clear h a;intro a h;refine z0d 5 h U ?_ (hG:=(wy U));clear h a;intro a h;refine z3e 6 h U (by first|exact i6 oo|rfl) U ?_ (hG:=(wy U));clear h a;intro a h;refine z1e (p:=(i-1)) (cx0) 7 h U Z.c U u4q U ?_ (hG:=(wy U));clear h a;intro b2 a7 a h;refine z2l 8 h (wy U) U (λ_ hw=>a7 _ (a4.c.ext hw)) x1t U λa h=>z0z 9 h U (λ_ hw=>a1.ext hw) x1t U ?_ (hG:=(wy U));clear h a;intro a h;refine z0e 10 U (y1d h U U U U U U (z0n h (z0a U (z0a U z0g)) (mkC func41) (v1n (q.cs.getD (i-1) cx0) (q.cs.getD i cx0) _) ?_));rintro _ d0 ⟨rfl,a3⟩ a h;have d1:=a3.size;replace Z:=Z.ext a3;replace O:=O.ext a3;replace I:=I.ext a3;replace hC:=hC.next a3;refine z0b (v8q 11 hC h (wy U) U U U U λa h=>z0e 12 U (z5k h U λa h=>?_));refine z0b (z0r ?_);clear hC a4 a0 a1;refine bk (h.sub (L':=[(1,_),(6,_),(7,_),(8,_),(60,_)]) (.c5 U U U U U)) (tn (cd U (λc3=>?_) (λc3=>?_)));refine sr (asg U (nn (rt (rb (tr (tr (rb (tr (r1 results127 U ?_)))))))));exfalso;first|omega|(have:=b0 oo oo;omega)
 exact sk (bn' (tn (rg (z0q U (wi6 oo) (mv U (nl (lpE (i+1) (.c4 U U U U) ⟨(q2.z5 q3 q4 q8 q9 a3),oo⟩ oo)))))));clear h;intro g4 h;refine z2p 3 h U U λa h=>z2p 4 h U U λa h=>z2p 5 h U U λa h=>z2p 6 h U U λa h=>z2p 7 h U U λa h=>z2p 8 h U U λa h=>z2p 9 h U U λa h=>z2p 10 h U U λa h=>z2p 11 h U U λa h=>z0e 12 U (z6i h U λa h=>?_);refine z0b (z0r ?_);clear hC a4 a0 a1;exact bk (h.sub (L':=[(1,_),(6,_),(7,_),(8,_),(60,_)]) (.c5 U U U U U)) (tn (cf U (sk (bn' (tn (rg (z0q U (wi6 oo) (mv U (nl (lpE (i+1) (.c4 U U U U) ⟨(q2.z4 q3 q4 q8 q9),oo⟩ oo))))))))));obtain rfl:i=q.cs.length:=by omega
 exact ex (te (te (xh (tn (sr (asg U (nn (rt (r1 results127 U ⟨_,rfl,rfl,(q1.n1 q2)⟩)))))))))
theorem v9a {a b:List LId}{k:Nat}(h:∀i,(a++b).count i<=1)(c:List LId)(D:∃d,a++b=c++d):c.count (b.getD k id0)<=100000:=by
 obtain⟨d,e⟩:=D;have:=h (b.getD k id0);rw[e,List.count_append]at this;omega
theorem v3h (q:FbQ)(w0:World)(Z:FbAt w0 q)(h6:q.ts.length=6)(hv:TabV (z2o q.ts))(hp:PlaceW (z2o q.ts) q.hs q.fs):Rets prog 128 #[.agg #[.slice q.t.1 q.t.2.1 q.t.2.2,.slice q.c.1 q.c.2.1 q.c.2.2,.slice q.h.1 q.h.2.1 q.h.2.2,.slice q.f.1 q.f.2.1 q.f.2.2]] w0 λr w'=>r=.int .i64 (u3n (z2o q.ts) q.hs q.fs)/\Fr [] w0 w':=by
 have i0:=Z.len;have h8:=y1n q.ts;have hM:=Z.f.len_le;unfold maxLen at hM;refine we [(0,.agg #[.slice q.t.1 q.t.2.1 q.t.2.2,.slice q.c.1 q.c.2.1 q.c.2.2,.slice q.h.1 q.h.2.1 q.h.2.2,.slice q.f.1 q.f.2.1 q.f.2.2])] func128 U ntmps128 U (.cons U .nil) ?_;have O:=Z;refine sr (bx U (λg1 w1 h2 I q1 z1=>?_));refine asg U (nn (sq (sr (fad U u0c (z0i U I U z8o (fad U x4m (z0i U I U z8o (z1z (cs:=[_,_]) (ev2 U) k5a (z0f U (z0f U z0t)) U ?_))))))));refine mv U (nn (bl (lpK (ι:=Nat) [(1,_),(22,_)] (λz=>[(23,.int .i64 (z:Int))]) (λz w'=>Fr [] w1 w'/\z<=2) (λz=>2-z) 0 (.c3 U U U) ⟨Fr.refl _ _,Nat.zero_le _⟩ ?_)));rintro z w2 ⟨q2,hz⟩;have z2:=q2.size;refine kpC [(1,_),(22,_),(23,_)] (.c3 U U U) (sr (lt' U (nn (sq (cd U (λc0=>?_) (λc0=>?_))))));have h9:=z2g (u4o O z);have e0:=(u4o O z).len_le;unfold maxLen at e0;refine sk (tn (sq (bl (sr (j8k U U underlying247 j5l z8o oo oo (k3o oo) U (asg U (nn (sr (mv U (lnS U underlying42 (mv U (nn (bl (lpK (ι:=Nat) [(1,_),(22,_),(23,_),(26,_),(27,_)] (λn=>[(28,.int .i64 (n:Int))]) (λn w'=>Fr [] w2 w'/\n<=(hfl q z).length) (λn=>(hfl q z).length-n) 0 (.c6 U U U U U U) ⟨Fr.refl _ _,Nat.zero_le _⟩ ?_))))))))))))));rintro n w3 ⟨q3,hn⟩;have z3:=q3.size;refine kpC [(1,_),(22,_),(23,_),(26,_),(27,_),(28,_)] (.c6 U U U U U U) (sr (lt' U (nn (sq (cd U (λc1=>?_) (λc1=>?_))))));refine sk (tn (sq (bl (sr ?_))));replace Z:=O.ext (q1.n2 q2 q3);refine z0x (id0) U (u4o Z z) U z6q z1m (λf3 d3=>?_);refine z1t U (d3 _ (u4o Z z)) z3x (al y6l U (λg6 w4 h3 d1 q4 z4=>?_));refine z0k (vs:=[_,_]) U d1 y3o (λw5 d1 q5 z5=>?_) (h1:=(by first|(simp[Value.oneCell',S];done)|exact z7k.one _|exact z1j.one _));refine nn (sr (fad U y4t ?_));replace I:=(I.ext (q2.n2 q3 q4)).fr q5;refine z0i U I U v0w (z0m U d1 z3x ?_);replace Z:=O.ext (q1.z4 q2 q3 q4 q5);refine cl (ev2 U) (mkC func165) (x8a ((hfl q z).getD n id0) _ _ _ Z.t Z.tt oo (by have h:=hp.has _ (k1j z (z1b (d:=id0) (i:=n) oo));have:=h.1;have:=h.2.1;omega)) U ?_;rintro _ w6 ⟨rfl,q6⟩;have z6:=q6.size;refine nt' U (nn (cd U (λc2=>?_) (λc2=>?_)));exact sr (asg U (kpL [(2,_)] (.cons U .nil) (nn (rt (rb (tr (tr (rb (rb (tr (tr (rb (tr (r1 results128 U (absurd (hp.has _ (k1j z (z1b (d:=id0) (i:=n) oo))) (by simpa using c2))))))))))))))));exact sk (bn' (tn (rg (z0q U (wi6 oo) (mv U (nl (lpE (n+1) (.c6 U U U U U U) ⟨(q3.z3 q4 q5 q6),oo⟩ oo)))))));obtain rfl:n=(hfl q z).length:=by omega
 exact ex (te (te (xh (bn' (tn (rg (z0q U (wi6 oo) (mv U (nl (lpE (z+1) (.c3 U U U) ⟨(q2.n1 q3),oo⟩ oo))))))))));obtain rfl:z=2:=by omega
 refine ex (te (te (xh (tn (sq (sr (fad U x4m ?_)))))));replace I:=I.ext q2;refine z0i U I U z8o (lnS U underlying42 (mv U (nn (bl (lpK (ι:=Nat) [(1,_),(40,_),(41,_)] (λi=>[(42,.int .i64 (i:Int))]) (λi w'=>Fr [] w2 w'/\i<=q.fs.length) (λi=>q.fs.length-i) 0 (.c4 U U U U) ⟨Fr.refl _ _,Nat.zero_le _⟩ ?_)))));rintro i w7 ⟨q7,hi⟩;have z7:=q7.size;refine kpC [(1,_),(40,_),(41,_),(42,_)] (.c4 U U U U) (sr (lt' U (nn (sq (cd U (λc3=>?_) (λc3=>?_))))));have e9:=hp.asc i;refine sk (tn (sq (bl (sr (mv U ?_)))));replace Z:=O.ext (q1.n2 q2 q7);refine z0x (id0) U Z.f U z6q z1m (λf4 d4=>?_);refine z1t U (d4 _ Z.f) z3x (al y6l U (λg8 w8 h4 a9 q8 z8=>?_));refine asg U (z0k (vs:=[_,_]) U a9 y3o (λw9 a9 q9 z9=>?_) (h1:=(by first|(simp[Value.oneCell',S];done)|exact z7k.one _|exact z1j.one _)));refine nn (sq ?_);replace Z:=O.ext (q1.z4 q2 q7 q8 q9);replace I:=(I.ext (q7.n1 q8)).fr q9;intro a h;refine z0h none (λwb w'=>Fr [] wb w') z2y ?_;intro e4 b2;have j2:=b2.size;replace Z:=Z.ext b2;replace I:=I.ext b2;replace a9:=a9.ext b2;have hC:Fr [] e4 e4:=Fr.refl _ _;have b6:=Z;have a8:=I;have b0:=a9;refine z0d 0 h U λa h=>v7t 1 hC h wn U U U U λa h=>z0d 2 h U λa h=>gSp (D:=49) h U ?_ ?_;clear h;intro g0 h;refine z0c 3 h U x4m U ?_ (hG:=(wy U));clear h a;intro a h;refine z0j 4 h U (λ_ hw=>a8.ext hw) U z8o U ?_ (hG:=(wy U));clear h a;intro a h;refine z0d 5 h U ?_ (hG:=(wy U));clear h a;intro a h;refine z3e 6 h U (by first|exact i6 oo|rfl) U ?_ (hG:=(wy U));clear h a;intro a h;refine z1e (p:=(i-1)) (id0) 7 h U Z.f U z6q U ?_ (hG:=(wy U));clear h a;intro f5 d5 a h;refine z2l 8 h (wy U) U (λ_ hw=>d5 _ (b6.f.ext hw)) z3x U λa h=>z0z 9 h U (λ_ hw=>b0.ext hw) z3x U ?_ (hG:=(wy U));clear h a;intro a h;refine z0e 10 U (y1d h U U U U U U (z0n h (z0a U (z0a U z0g)) j6k (y0l (q.fs.getD (i-1) id0) (q.fs.getD i id0) _) ?_));rintro _ i1 ⟨rfl,b3⟩ a h;have j3:=b3.size;replace Z:=Z.ext b3;replace I:=I.ext b3;replace a9:=a9.ext b3;replace hC:=hC.next b3;refine z0b (v8q 11 hC h (wy U) U U U U λa h=>z0e 12 U (z5k h U λa h=>?_));refine z0b (z0r ?_);clear hC b6 a8 b0;refine bk (h.sub (L':=[(1,_),(40,_),(41,_),(42,_),(59,_)]) (.c5 U U U U U)) (tn (cd U (λc4=>?_) (λc4=>?_)));refine sr (asg U (nn (rt (rb (tr (tr (rb (tr (r1 results128 U ?_)))))))));exfalso;first|omega|(have:=e9 oo oo;omega)
 exact sk (bn' (tn (rg (z0q U (wi6 oo) (mv U (nl (lpE (i+1) (.c4 U U U U) ⟨(q7.z4 q8 q9 b2 b3),oo⟩ oo)))))));clear h;intro g0 h;refine z2p 3 h U U λa h=>z2p 4 h U U λa h=>z2p 5 h U U λa h=>z2p 6 h U U λa h=>z2p 7 h U U λa h=>z2p 8 h U U λa h=>z2p 9 h U U λa h=>z2p 10 h U U λa h=>z2p 11 h U U λa h=>z0e 12 U (z6i h U λa h=>?_);refine z0b (z0r ?_);clear hC b6 a8 b0;exact bk (h.sub (L':=[(1,_),(40,_),(41,_),(42,_),(59,_)]) (.c5 U U U U U)) (tn (cf U (sk (bn' (tn (rg (z0q U (wi6 oo) (mv U (nl (lpE (i+1) (.c4 U U U U) ⟨(q7.z3 q8 q9 b2),oo⟩ oo))))))))));obtain rfl:i=q.fs.length:=by omega
 refine ex (te (te (xh (tn (sr (y9c idV (.int .i64 0) U (λa6 i2 g3 hm a7 j4=>(al k4d U (λg9 i3 h5 a0 a2 j5=>(z2u U a0 U k3z (λi4 a0 a3 j6=>(nn (sr (z4q z0g (ev1 U) (asg U (nn (sr (mv U (fad U u0c ?_)))))))))))))))))));replace I:=(I.ext (q7.n2 a7 a2)).fr a3;refine z0i U I U z8o ?_;replace Z:=O.ext (q1.z5 q2 q7 a7 a2 a3);replace hm:=(hm.ext a2).fr a3 (by intro k hk hb;simp at hk hb;omega);refine clv (us:=[]) (ws:=[.pointer (some ⟨g9,0,none⟩)]) U (ev1 U) (mkC func166) (x8n g9 a6 [] _ _ w0 _ O.h oo Z.h a0 hm (λk hk=>v9a (a:=[]) (b:=q.hs) (λi=>(by have:=hp.le i;simp only[List.count_append,List.nil_append]at this ⊢;omega)) _ ⟨q.hs.drop k,sp0⟩)) U (by intro g e;cases e) ?_;rintro g4 i5 ⟨hm,a4⟩;have j7:=a4.size;refine nn (sr (mv U (fad U x4m ?_)));replace I:=I.fr a4;refine z0i U I U z8o ?_;replace Z:=O.ext (q1.z6 q2 q7 a7 a2 a3 a4);replace a0:=a0.fr a4;refine clv (us:=[]) (ws:=[.pointer (some ⟨g9,0,none⟩)]) U (ev1 U) (mkC func166) (x8n g9 a6 ([]++q.hs) _ _ w0 _ O.f oo Z.f a0 hm (λk hk=>v9a (a:=q.hs) (b:=q.fs) (λi=>(by have:=hp.le i;simp only[List.count_append]at this ⊢;omega)) _ ⟨q.fs.drop k,sp0⟩)) U (by intro g e;cases e) ?_;rintro g5 f1 ⟨hm,a5⟩;have j8:=a5.size;refine nn (sq (sr (fad U y4t ?_)));replace I:=I.fr a5;refine z0i U I U v0w (lnS U underlying40 (mv U (nn (bl (lpK (ι:=Nat) [(1,_),(9,_),(10,_),(72,_),(73,_)] (λy=>[(74,.int .i64 (y:Int))]) (λy w'=>Fr [a6] f1 w'/\y<=q.ts.length/\MapZ idV w' a6 (.int .i64 0) (x2q ((q.hs++q.fs)++(y0x (z2o q.ts) y 0)))) (λy=>q.ts.length-y) 0 (.c6 U U U U U U) ⟨Fr.refl _ _,⟨Nat.zero_le _,by rw[u0l,List.append_nil];exact hm⟩⟩ ?_)))));rintro y e5 ⟨a1,⟨hy,hm⟩⟩;have j9:=a1.size;refine kpC [(1,_),(9,_),(10,_),(72,_),(73,_),(74,_)] (.c6 U U U U U U) (sr (lt' U (nn (sq (cd U (λc5=>?_) (λc5=>?_))))));have f0:=z7c O.tt y;have d0:=(O.tt _ (z1b (d:=tq0) (i:=y) oo)).1.len_le;unfold maxLen at d0;refine sk (tn (sq (bl (sr ?_))));replace Z:=O.ext (((q1.z6 q2 q7 a7 a2 a3 a4).z1 a5).z1 a1);refine z0x (tq0) U Z.t U x1l z1m (λf6 d6=>?_);refine z1a U (d6 _ Z.t) y3h (asg U (nn (sr (mv U (lnS U underlying116 (mv U (nn (bl (lpK (ι:=Nat) [(1,_),(9,_),(10,_),(72,_),(73,_),(74,_),(78,_),(79,_)] (λn=>[(80,.int .i64 (n:Int))]) (λn w'=>Fr [a6] e5 w'/\n<=(q.ts.getD y tq0).2.length/\MapZ idV w' a6 (.int .i64 0) (x2q ((q.hs++q.fs)++(y0x (z2o q.ts) y n)))) (λn=>(q.ts.getD y tq0).2.length-n) 0 (.d8 U U U U U U U U (.cons U .nil)) ⟨Fr.refl _ _,⟨Nat.zero_le _,hm⟩⟩ ?_)))))))));rintro n i7 ⟨b4,⟨hn,hm⟩⟩;have k0:=b4.size;refine kpC [(1,_),(9,_),(10,_),(72,_),(73,_),(74,_),(78,_),(79,_),(80,_)] (.d8 U U U U U U U U (.cons U .nil)) (sr (lt' U (nn (sq (cd U (λc6=>?_) (λc6=>?_))))));have h7:=z2g (z9k O.tt (y:=y) (n:=n) oo oo).1;have e8:∀k,k<((q.ts.getD y tq0).2.getD n lq0).ths.length->(((q.hs++q.fs)++y0x (z2o q.ts) y n)++((q.ts.getD y tq0).2.getD n lq0).ths.take k).count (((q.ts.getD y tq0).2.getD n lq0).ths.getD k id0)<=100000:=λk hk=>by
  have e6:=v1h (k:=k) hv.thr (y:=y) (n:=n) oo oo hk;have e7:=hp.le (((q.ts.getD y tq0).2.getD n lq0).ths.getD k id0);rw[List.count_append]at e7;rw[List.count_append,List.count_append];rw[List.count_append,List.count_append,List.count_singleton,if_pos sp0]at e6;omega
 refine sk (tn (sq (bl (sr ?_))));replace Z:=O.ext ((((q1.z6 q2 q7 a7 a2 a3 a4).z1 a5).z1 a1).z1 b4);refine z0x (lq0) U (Z.tt _ (z1b (d:=tq0) (i:=y) oo)).1 U y6o z1m (λf7 d7=>?_);refine z1t U (d7 _ (Z.tt _ (z1b (d:=tq0) (i:=y) oo)).1) x5j (al x8f U (λh0 i8 f9 b7 b8 k1=>?_));refine z0k (vs:=[_,_,_,_]) U b7 v4u (λi9 b7 b9 k2=>?_) (h1:=(by first|(simp[Value.oneCell',S];done)|exact z7k.one _|exact z1j.one _));refine nn (rg (mv U (fad U z7y (z0i U b7 U z8o ?_))));replace Z:=O.ext ((((q1.z6 q2 q7 a7 a2 a3 a4).z1 a5).z1 a1).z3 b4 b8 b9);replace a0:=((((a0.fr a5).fr a1).fr b4).ext b8).fr b9;replace hm:=(hm.ext b8).fr b9 (by intro k hk hb;simp at hk hb;omega);refine clv (us:=[]) (ws:=[.pointer (some ⟨g9,0,none⟩)]) U (ev1 U) (mkC func166) (x8n g9 a6 ((q.hs++q.fs)++y0x (z2o q.ts) y n) _ _ w0 _ (z9k O.tt (y:=y) (n:=n) oo oo).1 oo (z9k Z.tt (y:=y) (n:=n) oo oo).1 a0 hm (λk hk=>e8 k hk)) U (by intro g e;cases e) ?_;rintro g7 j0 ⟨hm,e3⟩;have k4:=e3.size;exact nl (bn' (tn (rg (z0q U (wi6 oo) (mv U (nl (lpE (n+1) (.d8 U U U U U U U U (.cons U .nil)) ⟨((Fr.refl [a6] _).z4 b4 b8 b9 e3),⟨oo,by rw[x0e oo,<-List.append_assoc];exact hm⟩⟩ oo)))))));obtain rfl:n=(q.ts.getD y tq0).2.length:=by omega
 exact ex (te (te (xh (bn' (tn (rg (z0q U (wi6 oo) (mv U (nl (lpE (y+1) (.c6 U U U U U U) ⟨((Fr.refl [a6] _).z2 a1 b4),⟨oo,by rw[x0j oo];exact hm⟩⟩ oo))))))))));obtain rfl:y=q.ts.length:=by omega
 rw[u6a (by rw[y1n];omega)]at hm;refine ex (te (te (xh (tn (sq (sr (fad U y4t ?_)))))));replace I:=I.fr a1;refine z0i U I U v0w (lnS U underlying40 (mv U (kpL [(9,_),(91,_),(92,_),(93,_)] (.c4 U U U U) (nn (bl (lpK (ι:=Nat) [(9,_),(91,_),(92,_)] (λy=>[(93,.int .i64 (y:Int))]) (λy w'=>Fr [] e5 w'/\y<=q.ts.length/\∀y',y'<y->∀n,n<z3w (z2o q.ts) y'->(q.hs++q.fs++y1r (z2o q.ts)).count ⟨(y':Int)+1,(n:Int)⟩=1) (λy=>q.ts.length-y) 0 (.c4 U U U U) ⟨Fr.refl _ _,⟨Nat.zero_le _,λk h=>absurd h oo⟩⟩ ?_))))));rintro y f2 ⟨b1,⟨hy,e2⟩⟩;have k5:=b1.size;refine kpC [(9,_),(91,_),(92,_),(93,_)] (.c4 U U U U) (sr (lt' U (nn (sq (cd U (λc7=>?_) (λc7=>?_))))));have f0:=z7c O.tt y;have d0:=(O.tt _ (z1b (d:=tq0) (i:=y) oo)).1.len_le;unfold maxLen at d0;refine sk (tn (sq (bl (sr (mv U ?_)))));replace Z:=O.ext ((((q1.z6 q2 q7 a7 a2 a3 a4).z1 a5).z1 a1).n1 b1);refine z0x (tq0) U Z.t U x1l z1m (λf8 d9=>?_);refine z1a U (d9 _ Z.t) y3h (asg U (asg U (nn (sr (mv U (lnS U underlying116 (mv U (nn (bl (lpK (ι:=Nat) [(9,_),(15,_),(91,_),(92,_),(93,_),(99,_)] (λn=>[(100,.int .i64 (n:Int))]) (λn w'=>Fr [] f2 w'/\n<=(q.ts.getD y tq0).2.length/\∀n',n'<n->(q.hs++q.fs++y1r (z2o q.ts)).count ⟨(y:Int)+1,(n':Int)⟩=1) (λn=>(q.ts.getD y tq0).2.length-n) 0 (.c7 U U U U U U U) ⟨Fr.refl _ _,⟨Nat.zero_le _,λk h=>absurd h oo⟩⟩ ?_))))))))));rintro n j1 ⟨b5,⟨hn,e1⟩⟩;have k6:=b5.size;refine kpC [(9,_),(15,_),(91,_),(92,_),(93,_),(99,_),(100,_)] (.c7 U U U U U U U) (sr (lt' U (nn (sq (cd U (λc8=>?_) (λc8=>?_))))));refine sk (tn (sq (bl (sr (mv U (asg U (nn (sr ?_))))))));replace a0:=((a0.fr a5).fr a1).ext (b1.n1 b5);refine z2j U a0 k1n (mv U (z0q U (wi6 oo) (z6s U (us underlying3) underlying5 (wi8 oo) (mv U (z1z (cs:=[_,_]) (ev2 U) k4p (z0f U (z0f U z0t)) U ?_)))));replace hm:=hm.ext (b1.n1 b5);refine y6x (V:=idV) (z:=(.int .i64 0)) (k:=(⟨(y:Int)+1,(n:Int)⟩:LId)) (v:=.int .i64 (((((q.hs++q.fs)++y1r (z2o q.ts))).count (⟨(y:Int)+1,(n:Int)⟩:LId):Nat):Int)) U U hm z6t underlying248 zvI U U (ne' U (kpL [(9,_),(15,_),(91,_),(92,_),(93,_),(99,_),(100,_),(110,_)] (.c8 U U U U U U U U) (nn (cd U (λc9=>?_) (λc9=>?_)))));exact sr (asg U (kpL [(2,_)] (.cons U .nil) (nn (rt (rb (tr (tr (rb (rb (tr (tr (rb (tr (r1 results128 U ⟨_,rfl,by rw[j2s (y:=y) (n:=n) oo (by rw[z4a];omega) oo],((((q1.z6 q2 q7 a7 a2 a3 a4).z1 a5).z1 a1).n2 b1 b5)⟩))))))))))))));refine sk (bn' (tn (rg (z0q U (wi6 oo) (mv U (nl ?_))))));exact lpE (n+1) (.c7 U U U U U U U) ⟨b5,⟨oo,λk h=>by
  by_cases e:k=n;subst e;omega;exact e1 k oo⟩⟩ oo
 obtain rfl:n=(q.ts.getD y tq0).2.length:=by omega
 refine ex (te (te (xh (bn' (tn (rg (z0q U (wi6 oo) (mv U (nl ?_)))))))));exact lpE (y+1) (.c4 U U U U) ⟨(b1.n1 b5),⟨oo,λk h=>by
  by_cases e:k=y;subst e;exact λn h=>e1 n (by rw[z4a]at h;omega);exact e2 k oo⟩⟩ oo
 obtain rfl:y=q.ts.length:=by omega
 exact ex (te (te (xh (tn (sr (asg U (nn (rt (r1 results128 U ⟨_,rfl,by rw[v7j λy hy n hn=>e2 y oo n hn],((((q1.z6 q2 q7 a7 a2 a3 a4).z1 a5).z1 a1).n1 b1)⟩)))))))))
theorem u6p (q:FbQ)(w0:World)(I:FbAt w0 q)(h6:q.ts.length=6)(hv:TabV (z2o q.ts))(hc:CrsV (z2o q.ts) q.cs)(hp:PlaceW (z2o q.ts) q.hs q.fs):Rets prog 76 #[.agg #[.slice q.t.1 q.t.2.1 q.t.2.2,.slice q.c.1 q.c.2.1 q.c.2.2,.slice q.h.1 q.h.2.1 q.h.2.2,.slice q.f.1 q.f.2.1 q.f.2.2]] w0 λr w'=>r=.int .i64 (u3n (z2o q.ts) q.hs q.fs)/\Fr [] w0 w':=by
 refine we [(0,.agg #[.slice q.t.1 q.t.2.1 q.t.2.2,.slice q.c.1 q.c.2.1 q.c.2.2,.slice q.h.1 q.h.2.1 q.h.2.2,.slice q.f.1 q.f.2.1 q.f.2.2])] func76 U ntmps76 U (.cons U .nil) ?_;have O:=I;refine sr (bx U (λg1 w1 a0 D q1 z1=>(asg U (nn (sq (sr (fad U y4t (z0i U D U v0w ?_))))))));replace I:=O.ext q1;refine cl (ev1 U) (mkC func126) (j4q _ _ _ I.t I.tt h6 hv) U ?_;rintro _ w2 ⟨rfl,Z⟩;have z2:=Z.size;refine asg U (nn (sr (mv U (ne' U (nn (cd U (λc0=>?_) (λc0=>?_)))))));exact sr (mv U (asg U (nn (rt (tr (r1 results76 U (absurd U (by assumption))))))));refine sk (tn (sq (sr ?_)));replace D:=D.ext Z;refine z0m U D u7d ?_;replace I:=O.ext (q1.n1 Z);refine cl (ev1 U) (mkC func127) (v4t q _ I h6 hc) U ?_;rintro _ w3 ⟨rfl,q3⟩;have z3:=q3.size;refine asg U (nn (sr (mv U (ne' U (nn (cd U (λc1=>?_) (λc1=>?_)))))));exact sr (mv U (asg U (nn (rt (tr (r1 results76 U (absurd U (by assumption))))))));refine sk (tn (sr ?_));replace D:=D.ext q3;refine z0m U D u7d ?_;replace I:=O.ext (q1.n2 Z q3);refine cl (ev1 U) (mkC func128) (v3h q _ I h6 hv hp) U ?_;rintro _ w4 ⟨rfl,q4⟩;have z4:=q4.size;exact asg U (nn (rt (r1 results76 U ⟨_,rfl,rfl,(q1.n3 Z q3 q4)⟩)))
theorem u3j (q:FbQ)(w0:World)(I:FbAt w0 q)(D:q.ts.length=6)(Z:TabV (z2o q.ts))(O:CrsV (z2o q.ts) q.cs)(hp:PlaceV (z2o q.ts) q.hs q.fs):Rets prog 76 #[.agg #[.slice q.t.1 q.t.2.1 q.t.2.2,.slice q.c.1 q.c.2.1 q.c.2.2,.slice q.h.1 q.h.2.1 q.h.2.2,.slice q.f.1 q.f.2.1 q.f.2.2]] w0 λr w'=>r=.int .i64 0/\Fr [] w0 w':=by
 have x:=u6p q w0 I D Z O hp.w;rw[v7j hp.once]at x;exact x
theorem u2j (v:Value)(l:List Pa)(w0:World)(I:Sl z2f w0 v l)(hl:l.length<=100000):Rets prog 131 #[v] w0 λr w'=>∃g,r=.slice (some ⟨g,0,none⟩) l.length l.length/\w0.heap.size<=g/\Lw.Own z2f 114 w0.heap.size w' r l/\Fr [] w0 w':=by
 obtain⟨A,c,rfl,a0,hM,hA⟩:=id I;clear hA;unfold maxLen at hM;refine we [(0,.slice A l.length c)] func131 U ntmps131 U (.cons U .nil) ?_;have O:=I;refine sr (asg U (nn (sr (mv U (lnS U underlying109 (z1g (m:=l.length) (c:=l.length) (pa0) U z5a x2b U (λg6 w1 a1 D Z z1=>(asg U (nn (sr (mv U (mv U ?_))))))))))));replace I:=O.ext Z;refine z9h (zs:=List.replicate l.length pa0) (by rw[List.length_replicate];rfl) U (by rw[List.length_replicate];exact D) I (by rw[List.length_replicate]) z5a (λw2 D q2 z2=>?_);rw[List.length_replicate]at D;exact nn (sr (mv U (asg U (nn (rt (r1 results131 U ⟨_,rfl,g6,rfl,oo,D.low oo,(Z.z1 q2)⟩))))))
theorem v5r (v:Value)(l:List LpQ)(w0:World)(I:Sl z7k w0 v l)(hl:l.length<=100000):Rets prog 94 #[v] w0 λr w'=>∃g,r=.slice (some ⟨g,0,none⟩) l.length l.length/\w0.heap.size<=g/\Lw.Own z7k 111 w0.heap.size w' r l/\Fr [] w0 w':=by
 obtain⟨A,c,rfl,a0,hM,hA⟩:=id I;clear hA;unfold maxLen at hM;refine we [(0,.slice A l.length c)] func94 U ntmps94 U (.cons U .nil) ?_;have O:=I;refine sr (asg U (nn (sr (mv U (lnS U underlying116 (z1g (m:=l.length) (c:=l.length) (lq0) U y6o x8f U (λg6 w1 a1 D Z z1=>(asg U (nn (sr (mv U (mv U ?_))))))))))));replace I:=O.ext Z;refine z9h (zs:=List.replicate l.length lq0) (by rw[List.length_replicate];rfl) U (by rw[List.length_replicate];exact D) I (by rw[List.length_replicate]) y6o (λw2 D q2 z2=>?_);rw[List.length_replicate]at D;exact nn (sr (mv U (asg U (nn (rt (r1 results94 U ⟨_,rfl,g6,rfl,oo,D.low oo,(Z.z1 q2)⟩))))))
theorem v8k (v:Value)(l:List Cx)(w0:World)(I:Sl z5p w0 v l)(hl:l.length<=100000000):Rets prog 96 #[v] w0 λr w'=>∃g,r=.slice (some ⟨g,0,none⟩) l.length l.length/\w0.heap.size<=g/\Lw.Own z5p 100 w0.heap.size w' r l/\Fr [] w0 w':=by
 obtain⟨A,c,rfl,a0,hM,hA⟩:=id I;clear hA;unfold maxLen at hM;refine we [(0,.slice A l.length c)] func96 U ntmps96 U (.cons U .nil) ?_;have O:=I;refine sr (asg U (nn (sr (mv U (lnS U underlying41 (z1g (m:=l.length) (c:=l.length) (cx0) U u4q x9c U (λg6 w1 a1 D Z z1=>(asg U (nn (sr (mv U (mv U ?_))))))))))));replace I:=O.ext Z;refine z9h (zs:=List.replicate l.length cx0) (by rw[List.length_replicate];rfl) U (by rw[List.length_replicate];exact D) I (by rw[List.length_replicate]) u4q (λw2 D q2 z2=>?_);rw[List.length_replicate]at D;exact nn (sr (mv U (asg U (nn (rt (r1 results96 U ⟨_,rfl,g6,rfl,oo,D.low oo,(Z.z1 q2)⟩))))))
theorem j2b (v:Value)(l:List YQ)(w0:World)(I:Sl z3l w0 v l)(hl:l.length<=100000):Rets prog 130 #[v] w0 λr w'=>∃g,r=.slice (some ⟨g,0,none⟩) l.length l.length/\w0.heap.size<=g/\Lw.Own z3l 146 w0.heap.size w' r l/\Fr [] w0 w':=by
 obtain⟨A,c,rfl,a0,hM,hA⟩:=id I;clear hA;unfold maxLen at hM;refine we [(0,.slice A l.length c)] func130 U ntmps130 U (.cons U .nil) ?_;have O:=I;refine sr (asg U (nn (sr (mv U (lnS U underlying38 (z1g (m:=l.length) (c:=l.length) (yq0) U y5h z6j U (λg6 w1 a1 D Z z1=>(asg U (nn (sr (mv U (mv U ?_))))))))))));replace I:=O.ext Z;refine z9h (zs:=List.replicate l.length yq0) (by rw[List.length_replicate];rfl) U (by rw[List.length_replicate];exact D) I (by rw[List.length_replicate]) y5h (λw2 D q2 z2=>?_);rw[List.length_replicate]at D;exact nn (sr (mv U (asg U (nn (rt (r1 results130 U ⟨_,rfl,g6,rfl,oo,D.low oo,(Z.z1 q2)⟩))))))
theorem j5a {I qs:List IQ}{n:Nat}(hn:n<=qs.length)(D:(plB qs).take n=z2v (plB qs))(hl:I.length=n)(h:∀j,j<n->(I.getD j iq0).2=(qs.getD j iq0).2):plB I=z2v (plB qs):=by
 rw[<-D];refine List.ext_getElem (by simp[hl,hn]) λj O h2=>?_;have Z:j<n:=by simpa[hl] using O
 have:=h j Z;rw[List.getD,List.getD,List.getElem?_eq_getElem oo,List.getElem?_eq_getElem oo]at this;simpa[plB] using this
theorem y6k (v:Value)(qs:List IQ)(w0:World)(hs:Sl z7g w0 v qs)(hk:IqAt w0 qs)(hl:qs.length<=40)(h4:y0w qs):Rets prog 78 #[v] w0 λr w'=>(∃fs,RwO 42 54 w0.heap.size w' r fs/\plB fs=z2v (plB qs)/\∃g,r=.slice (some ⟨g,0,none⟩) fs.length fs.length)/\Fr [] w0 w':=by
 obtain⟨A,c,rfl,b3,hM,hA⟩:=id hs;clear hA;unfold maxLen at hM;refine we [(0,.slice A qs.length c)] func78 U ntmps78 U (.cons U .nil) ?_;have a7:=hs;have a5:=hk;refine sr (asg U (nn (sr (mv U (lnS U underlying35 (asg U (nn (sq (bl (lpK (ι:=Nat) [(0,_)] (λn=>[(3,.int .i64 (n:Int))]) (λn w'=>Fr [] w0 w'/\n<=qs.length/\∀j,n<=j->(qs.getD j iq0).2=[]) (λn=>n) qs.length (.c2 U U) ⟨Fr.refl _ _,⟨Nat.le_refl _,λj hj=>v2n hj⟩⟩ ?_))))))))));rintro n w1 ⟨q1,⟨hn,a4⟩⟩;have z1:=q1.size;refine kpC [(0,_),(3,_)] (.c2 U U) ?_;have a6:=z2g (z1p a5 (n-1));refine sq (sq (rbo (r:=18) (L':=[(0,_),(3,_)]) (((0<(n:Int))/\(((qs.getD (n-1) iq0).1.2.1:Int)=0))) (.c2 U U) ?_ ?_));refine mv U (gt' U (mv U (gs 10 U (λg0=>?_) (λg0=>?_))));refine gY U (mv U (gY U (mv U (gY U (z1u U (wi6 oo) (gY U ?_))))));replace hs:=a7.ext q1;refine z0x (p:=n-1) (iq0) U hs U y2h oo (λa9 a2=>?_);exact gY U (z1a U (a2 _ hs) z8o (gY U (lnS U underlying42 (gY U (eq' U (pkt U (rbe U (.c2 U U))))))));exact gN U (gN U (gN U (gN U (gN U (gN U (gN U (pkf U (rbe U (.c2 U U)))))))));refine tn (cd U (λc0=>?_) (λc0=>?_));refine sk (tn (bl (rg (mv U (z1u U (wi6 oo) (asg U (nl (bn' ?_))))))));exact lpE (n-1) (.c2 U (congrArg (λz=>some (Value.int .i64 z)) (show (n:Int)-1=((n-1:Nat):Int) by omega))) ⟨q1,⟨oo,λj hj=>by
  by_cases e:n<=j;exact a4 j e;obtain rfl:j=n-1:=by omega
  exact List.eq_nil_of_length_eq_zero oo⟩⟩ oo
 have a8:=y3z (plB qs) n (by rw[List.length_map];exact hn) (λj hj=>by rw[z4x];exact a4 j hj) (by
  by_cases e:n=0;exact .inl e;refine .inr λh=>c0 ⟨oo,?_⟩;rw[z4x]at h;rw[h]at a6;rw[a6];rfl)
 refine ex (te (te (xh (tn (sr (mv U (z1g (m:=n) (c:=n) (iq0) U y2h k5p U (λI w2 b1 Z q2 z2=>(asg U (nn (sq (sr (mv U (mv U (nn (bl (lpK (ι:=Nat×List IQ) [(0,_),(4,_),(23,_)] (λp=>[(24,.int .i64 (p.1:Int))]) (λp w'=>Fr [I] w2 w'/\p.1<=n/\p.2.length=n/\Lw.Own z7g 42 w0.heap.size w' (.slice (some ⟨I,0,none⟩) n n) p.2/\(∀j,j<p.1->(p.2.getD j iq0).2=(qs.getD j iq0).2)/\PreO 54 (I+1) w' p.2 p.1) (λp=>n-p.1) (0,List.replicate n iq0) (.c4 U U U U) ⟨Fr.refl _ _,⟨Nat.zero_le _,sp0,Z.low oo,λj hj=>absurd hj sp0,PreO.zero⟩⟩ ?_)))))))))))))))));rintro⟨i,ps⟩ w3 ⟨q3,⟨hi,D,Z,a0,O⟩⟩;simp only at hi Z a0 O D;have z3:=q3.size;refine kpC [(0,_),(4,_),(23,_),(24,.int .i64 (i:Int))] (.c4 U U U U) (sr (lt' U (nn (sq (cd U (λc1=>?_) (λc1=>?_))))));refine sk (tn (sq (bl (sr (mv U (asg U (nn (rg (mv U (mv U (mv U (mv U ?_))))))))))));replace hs:=a7.ext (q1.z2 q2 q3);refine z0x (iq0) U hs U y2h z1m (λb0 a3=>?_);refine z1a U (a3 _ hs) z8o ?_;replace hk:=a5.ext (q1.z2 q2 q3);refine cl (ev1 U) x6v (z4m _ (qs.getD i iq0).2 _ (z1p hk i) (by have:=z4e h4 i;omega)) U ?_;rintro _ w4 ⟨a1,rfl,b2,hX,q4⟩;have z4:=q4.size;replace Z:=Z.ext q4;refine y1c (p:=i) (E:=z7g) U U y2h (z6w (i:=i) ((((some ⟨a1,0,none⟩,(qs.getD i iq0).2.length,(qs.getD i iq0).2.length),(qs.getD i iq0).2):IQ)) U U Z oo U j5l (λw5 Z q5 z5=>(kpL [(0,_),(4,_),(23,_),(24,_)] (.c4 U U U U) (nl (bn' (tn (rg (z0q U (wi6 oo) (mv U (nl ?_))))))))));replace O:=(O.ext q4).fr q5 (by intro k hk;simp at hk;omega);replace hX:=hX.fr q5 (by intro k hk hb;simp[z0u]at hk hb;omega);exact lpE ((i+1,ps.set i (((some ⟨a1,0,none⟩,(qs.getD i iq0).2.length,(qs.getD i iq0).2.length),(qs.getD i iq0).2):IQ))) (.c4 U U U U) ⟨((Fr.refl [I] _).z3 q3 q4 q5),⟨sm,by simp only[List.length_set];exact D,Z,λj hj=>by
  simp only at hj ⊢;rw[z1i oo];split;rename_i e;subst e;rfl;exact a0 j oo,O.put oo (hX.low oo)⟩⟩ sm
 obtain rfl:i=n:=by omega
 exact ex (te (te (xh (tn (sr (mv U (asg U (kpL [(2,_)] (.cons U .nil) (nn (rt (r1 results78 U ⟨_,rfl,⟨ps,⟨D▸Z,(D.symm▸O).all oo⟩,j5a hn a8 D a0,I,by rw[D]⟩,(q1.z2 q2 q3)⟩)))))))))))
def PreY (base:Nat)(w:World)(ys:List YQ)(i:Nat):Prop:=∀j,j<i->Lw.Own z2f 114 base w (slv (ys.getD j yq0).pe) (ys.getD j yq0).pes
theorem PreY.ext {base i:Nat}{w w':World}{ys:List YQ}(h:PreY base w ys i)(hf:Fr [] w w'):PreY base w' ys i:=λj D=>(h j D).ext hf
theorem PreY.fr {base i:Nat}{w w':World}{ys:List YQ}{S:List Nat}(h:PreY base w ys i)(hf:Fr S w w')(I:∀k∈S,k<base):PreY base w' ys i:=λj D=>(h j D).fr hf λk Z O=>by
 have:=I k Z;have:=((h j D).blk k O).1;omega
theorem PreY.put {base i:Nat}{w:World}{ys:List YQ}{q:YQ}(h:PreY base w ys i)(D:i<ys.length)(I:Lw.Own z2f 114 base w (slv q.pe) q.pes):PreY base w (ys.set i q) (i+1):=λj O=>by
 rw[z1i D]
 split
 ·exact I
 exact h j oo
theorem getD_at {α:Type}{l:List α}{i:Nat}(d:α)(h:i<l.length):l[i]?=some (l.getD i d):=by rw[List.getD,List.getElem?_eq_getElem h];rfl
theorem y4n {α β:Type}{f:α->β}{l:List α}{i:Nat}{x d:α}(h:f x=f (l.getD i d)):(l.set i x).map f=l.map f:=by
 rw[List.map_set];apply List.ext_getElem?;intro j;rw[List.getElem?_set];split;rename_i e;subst e;split;rename_i D;rw[List.length_map]at D;rw[List.getElem?_map,List.getElem?_eq_getElem D,h,List.getD,List.getElem?_eq_getElem D];rfl;rename_i D;rw[List.getElem?_eq_none oo];rfl
theorem v8l {α:Type}{l m:List α}{i:Nat}{q d:α}(h:∀j,i<=j->l.getD j d=m.getD j d)(D:i<l.length):∀j,i+1<=j->(l.set i q).getD j d=m.getD j d:=λj I=>by
 rw[z1i D,if_neg oo];exact h j oo
theorem x0p (v:Value)(ys:List YQ)(w0:World)(hs:Sl z3l w0 v ys)(hp:YsA w0 ys)(hl:ys.length<=1000)(a4:∀i,(ys.getD i yq0).pes.length<=100000):Rets prog 79 #[v] w0 λr w'=>(∃g ps,r=.slice (some ⟨g,0,none⟩) ys.length ys.length/\w0.heap.size<=g/\YsO τd w0.heap.size w' r ps/\ps.length=ys.length/\ps.map YQ.p=ys.map YQ.p)/\Fr [] w0 w':=by
 obtain⟨A,c,rfl,a8,hM,hA⟩:=id hs;clear hA;unfold maxLen at hM;refine we [(0,.slice A ys.length c)] func79 U ntmps79 U (.cons U .nil) ?_;have b0:=hs;have a3:=hp;refine sr (asg U (nn (sr (mv U (cl (ev1 U) (mkC func130) (j2b _ ys _ hs oo) U ?_)))));rintro _ w1 ⟨g6,rfl,a9,I,q1⟩;have z1:=q1.size;have a7:=(I.blk g6 (by simp[z0u])).2;refine asg U (nn (sq (sr (mv U (lnS U underlying38 (mv U (nn (bl (lpK (ι:=Nat×List YQ) [(3,_),(8,_)] (λp=>[(9,.int .i64 (p.1:Int))]) (λp w'=>Fr [g6] w1 w'/\p.1<=ys.length/\Lw.Own z3l 146 w0.heap.size w' (.slice (some ⟨g6,0,none⟩) ys.length ys.length) p.2/\p.2.length=ys.length/\p.2.map YQ.p=ys.map YQ.p/\(∀j,p.1<=j->p.2.getD j yq0=ys.getD j yq0)/\PreY (g6+1) w' p.2 p.1) (λp=>ys.length-p.1) (0,ys) (.c3 U U U) ⟨Fr.refl _ _,⟨Nat.zero_le _,I.low oo,rfl,rfl,λ_ _=>rfl,λj hj=>absurd hj sp0⟩⟩ ?_)))))))));rintro⟨i,ps⟩ w2 ⟨q2,⟨hi,I,D,a0,O,Z⟩⟩;simp only at hi I D a0 O Z;have z2:=q2.size;refine kpC [(3,_),(8,_),(9,.int .i64 (i:Int))] (.c3 U U U) (sr (lt' U (nn (sq (cd U (λc0=>?_) (λc0=>?_))))));refine sk (tn (sq (bl (sr (mv U (asg U (nn (rg (mv U (mv U (mv U (mv U (z0x (yq0) U I.sl U y5h z1m (λa5 a2=>?_))))))))))))));refine fad U z7w (z9b U (a2 _ I.sl) U y0y ?_);replace hp:=a3.ext (q1.z1 q2);refine cl (ev1 U) (mkC func131) (u2j _ (ys.getD i yq0).pes _ (by rw[O i (Nat.le_refl _)];exact hp i) (a4 i)) U ?_;rintro _ w3 ⟨a1,rfl,a6,hX,q3⟩;have z3:=q3.size;replace I:=I.ext q3;refine y1c (p:=i) (E:=z3l) U U y5h (v1y U z7w U (u6o (E:=z3l) (i:=i) (f:=4) (ys.getD i yq0) ({ (ys.getD i yq0) with pe:=(some ⟨a1,0,none⟩,(ys.getD i yq0).pes.length,(ys.getD i yq0).pes.length) }:YQ) U U I (by rw[<-O i (Nat.le_refl _)];exact getD_at _ oo) dd U U U j0c (λw4 I q4 z4=>?_)));refine kpL [(3,_),(8,_),(9,_)] (.c3 U U U) (nl (bn' (tn (rg (z0q U (wi6 oo) (mv U (nl ?_)))))));replace Z:=(Z.ext q3).fr q4 (by intro k hk;simp at hk;omega);replace hX:=hX.fr q4 (by intro k hk hb;simp[z0u]at hk hb;omega);exact lpE ((i+1,ps.set i ({ (ys.getD i yq0) with pe:=(some ⟨a1,0,none⟩,(ys.getD i yq0).pes.length,(ys.getD i yq0).pes.length) }:YQ))) (.c3 U U U) ⟨((Fr.refl [g6] _).z3 q2 q3 q4),⟨sm,I,by simp only[List.length_set];exact D,(y4n (d:=yq0) (by rw[O i (Nat.le_refl _)])).trans a0,v8l O oo,Z.put oo (hX.low oo)⟩⟩ sm;obtain rfl:i=ys.length:=by omega
 exact ex (te (te (xh (tn (sr (mv U (asg U (nn (rt (r1 results79 U ⟨_,rfl,⟨g6,ps,rfl,oo,⟨D▸I,λj hj=>(Z j oo).low oo⟩,D,a0⟩,(q1.z1 q2)⟩))))))))))
theorem j9f (w:World):(zeroValue 116).run prog w=.ok (.slice none 0 0) w:=kr0
def PreT (base:Nat)(w:World)(us:List TQ)(i:Nat):Prop:=(∀j,j<i->Lw.Own z7k 111 base w (slv (us.getD j tq0).1) (us.getD j tq0).2)/\(∀j k,j<i->k<i->j≠k->∀b∈z0u (slv (us.getD j tq0).1),b∉z0u (slv (us.getD k tq0).1))/\∀j,j<i->∀q∈(us.getD j tq0).2,LpO τd base w q
theorem PreT.fr {base i:Nat}{w w':World}{us:List TQ}{S:List Nat}(h:PreT base w us i)(hf:Fr S w w')(Z:∀k∈S,k<base):PreT base w' us i:=by
 have o:∀ {α:Type} {E:Enc α} {T:Nat} {v:Value} {ys:List α},Lw.Own E T base w v ys->Lw.Own E T base w' v ys:=λI=>I.fr hf λk hk hb=>by have:=Z k hk;have:=(I.blk k hb).1;omega
 exact⟨λj D=>o (h.1 j D),h.2.1,λj D q O=>⟨o (h.2.2 j D q O).1,o (h.2.2 j D q O).2⟩⟩
theorem PreT.put {base i:Nat}{w:World}{us:List TQ}{u:SV}{Z:List LpQ}(h:PreT base w us i)(D:i<us.length)(ho:Lw.Own z7k 111 base w (slv u) Z)(hq:∀q∈Z,LpO τd base w q)(hn:∀j,j<i->∀b∈z0u (slv (us.getD j tq0).1),b∉z0u (slv u)):PreT base w (us.set i (u,Z)) (i+1):=by
 refine⟨λj hj=>?_,λj k hj hk O=>?_,λj hj=>?_⟩;rw[z1i D];split;exact ho;exact h.1 j oo;rw[z1i D,z1i D];split;rw[if_neg oo];exact λb hb I=>hn k oo b I hb;split;exact hn j oo;exact h.2.1 j k oo oo O;rw[z1i D];split;exact hq;exact h.2.2 j oo
def PreL (base:Nat)(w:World)(rs:List LpQ)(i:Nat):Prop:=∀j,j<i->LpO τd base w (rs.getD j lq0)
theorem PreL.fr {base i:Nat}{w w':World}{O:List LpQ}{S:List Nat}(h:PreL base w O i)(hf:Fr S w w')(Z:∀k∈S,k<base):PreL base w' O i:=λj I=>by
 have o:∀ {α:Type} {E:Enc α} {T:Nat} {v:Value} {ys:List α},Lw.Own E T base w v ys->Lw.Own E T base w' v ys:=λD=>D.fr hf λk hk hb=>by have:=Z k hk;have:=(D.blk k hb).1;omega
 exact⟨o (h j I).1,o (h j I).2⟩
theorem PreL.put {base i:Nat}{w:World}{D:List LpQ}{x y:LpQ}(h:PreL base w D i)(I:i<D.length)(O:LpO τd base w y):PreL base w ((D.set i x).set i y) (i+1):=λj Z=>by
 rw[List.set_set,z1i I]
 split
 ·exact O
 exact h j oo
theorem j7o {base i:Nat}{w:World}{v:Value}{us:List TQ}{u:SV}{r r':List LpQ}(h:Lw.Own z4z 116 base w v (us.set i (u,r))):Lw.Own z4z 116 base w v (us.set i (u,r')):=by
 have e:∀x:List LpQ,(us.set i (u,x)).flatMap z4z.enc=(us.set i (u,r)).flatMap z4z.enc:=λx=>by
  rw[List.flatMap_def,List.flatMap_def,List.map_set,List.map_set];rfl
 rcases h with ⟨D,I⟩|⟨g,cap,cur,D,I,O,Z,h5,h6,h7⟩
 refine .inl ⟨D,?_⟩;have:=congrArg List.length I;simp only[List.length_set,List.length_nil]at this;exact List.length_eq_zero_iff.1 (by rw[List.length_set];exact this);refine .inr ⟨g,cap,cur,by rw[D];simp,I,O,by simpa using Z,h5,h6,?_⟩;rw[e r',<-h7];simp
theorem j3w {us ts:List TQ}{i:Nat}{x:TQ}(h:∀j,j<i->(us.getD j tq0).2.map LpQ.p=(ts.getD j tq0).2.map LpQ.p)(D:i<us.length)(I:x.2.map LpQ.p=(ts.getD i tq0).2.map LpQ.p):∀j,j<i+1->((us.set i x).getD j tq0).2.map LpQ.p=(ts.getD j tq0).2.map LpQ.p:=λj O=>by
 rw[z1i D]
 split
 ·rename_i e;subst e;exact I
 exact h j oo
theorem y7d {us ts:List TQ}(hl:us.length=ts.length)(h:∀j,j<ts.length->(us.getD j tq0).2.map LpQ.p=(ts.getD j tq0).2.map LpQ.p):z2o us=z2o ts:=by
 refine List.ext_getElem (by simp[hl]) λj O I=>?_;have D:j<ts.length:=by simpa using I
 have:=h j D;rw[List.getD,List.getD,List.getElem?_eq_getElem oo,List.getElem?_eq_getElem D]at this;simpa using this
theorem PreT.tbo {b base:Nat}{w:World}{v:Value}{us:List TQ}(Z:Lw.Own z4z 116 b w v us)(h:PreT base w us us.length)(hb:b<=base):TbO τd b w v us:=
 ⟨Z,λi D=>(h.1 i D).low hb,λi j D O I=>h.2.1 i j D O I,λi D q hq=>(h.2.2 i D q hq).low hb⟩
theorem y7k (v:Value)(ts:List TQ)(w0:World)(hs:Sl z4z w0 v ts)(D:TabAt w0 ts)(hl:ts.length<=1000)(b9:∀p∈ts,p.2.length<=100000/\∀q∈p.2,q.ths.length<=100000/\q.pas.length<=100000):Rets prog 80 #[v] w0 λr w'=>(∃g us,r=.slice (some ⟨g,0,none⟩) ts.length ts.length/\w0.heap.size<=g/\TbO τd w0.heap.size w' r us/\us.length=ts.length/\z2o us=z2o ts)/\Fr [] w0 w':=by
 obtain⟨A,c,rfl,g4,hM,hA⟩:=id hs;clear hA;unfold maxLen at hM;refine we [(0,.slice A ts.length c)] func80 U ntmps80 U (.cons U .nil) ?_;have f2:=hs;have b3:=D;refine sr (asg U (nn (sr (mv U (lnS U underlying40 (z1g (m:=ts.length) (c:=ts.length) (tq0) U x1l j9f U (λa3 w1 f7 Z q1 z1=>?_)))))));have e9:=(Z.blk a3 (by simp[z0u])).2;refine asg U (nn (sq (sr (mv U (lnS U underlying40 (mv U (nn (bl (lpK (ι:=Nat×List TQ) [(3,_),(11,_),(12,_)] (λp=>[(13,.int .i64 (p.1:Int))]) (λp w'=>Fr [a3] w1 w'/\p.1<=ts.length/\p.2.length=ts.length/\Lw.Own z4z 116 w0.heap.size w' (.slice (some ⟨a3,0,none⟩) ts.length ts.length) p.2/\(∀j,j<p.1->(p.2.getD j tq0).2.map LpQ.p=(ts.getD j tq0).2.map LpQ.p)/\PreT (a3+1) w' p.2 p.1) (λp=>ts.length-p.1) (0,List.replicate ts.length tq0) (.c4 U U U U) ⟨Fr.refl _ _,⟨Nat.zero_le _,sp0,Z.low oo,λj hj=>absurd hj sp0,⟨λj hj=>absurd hj sp0,λj k hj=>absurd hj sp0,λj hj=>absurd hj sp0⟩⟩⟩ ?_)))))))));rintro⟨i,us⟩ w2 ⟨q2,⟨hi,a9,Z,d5,a8⟩⟩;simp only at hi a9 Z d5 a8;have z2:=q2.size;have e5:=a8;refine kpC [(3,_),(11,_),(12,_),(13,.int .i64 (i:Int))] (.c4 U U U U) ?_;have e6:∀j,j<i->∀b∈z0u (slv (us.getD j tq0).1),b<w2.heap.size:=λj hj b hb=>((a8.1 j hj).blk b hb).2;refine sr (lt' U (nn (sq (cd U (λc0=>?_) (λc0=>?_)))));have g1:=z2g (b3 _ (z1b (d:=tq0) (i:=i) oo)).1;have g6:=(b9 _ (z1b (d:=tq0) (i:=i) oo)).1;refine sk (tn (sq (bl (sr (mv U ?_)))));replace hs:=f2.ext (q1.z1 q2);refine z0x (tq0) U hs U x1l z1m (λf3 e0=>?_);refine z1a U (e0 _ hs) y3h (asg U (asg U (nn (sr (mv U (mv U (mv U ?_)))))));replace D:=b3.ext (q1.z1 q2);refine cl (ev1 U) (mkC func94) (v5r _ (ts.getD i tq0).2 _ (D _ (z1b (d:=tq0) (i:=i) oo)).1 (b9 _ (z1b (d:=tq0) (i:=i) oo)).1) U ?_;rintro _ w3 ⟨a0,rfl,f8,hR,q3⟩;have z3:=q3.size;have f0:=(hR.blk a0 (by simp[z0u])).2;replace Z:=Z.ext q3;refine y1c (p:=i) (E:=z4z) U U x1l (z6w (i:=i) (((((some ⟨a0,0,none⟩,(ts.getD i tq0).2.length,(ts.getD i tq0).2.length):SV),(ts.getD i tq0).2):TQ)) U U Z oo U j5k (λw4 Z q4 z4=>?_));obtain⟨b6,c9⟩:∃u,u=us.set i (((some ⟨a0,0,none⟩,(ts.getD i tq0).2.length,(ts.getD i tq0).2.length):SV),(ts.getD i tq0).2):=⟨_,rfl⟩;rw[<-c9]at Z;have d6:b6.getD i tq0=(((some ⟨a0,0,none⟩,(ts.getD i tq0).2.length,(ts.getD i tq0).2.length):SV),(ts.getD i tq0).2):=by rw[c9,z1i oo,if_pos U]
 have d0:(b6.getD i tq0).1.1=some ⟨a0,0,none⟩:=by rw[d6]
 have d1:(b6.getD i tq0).1.2.1=(ts.getD i tq0).2.length:=by rw[d6]
 have d3:(b6.getD i tq0).1.2.2=(ts.getD i tq0).2.length:=by rw[d6]
 have g3:b6.length=ts.length:=by rw[c9,List.length_set];exact a9
 refine nn (sr (mv U (lnS U underlying116 (mv U (nn (bl ?_))))));replace hR:=hR.fr q4 (by intro k D hb;simp[z0u]at D hb;omega);refine lpK (ι:=Nat×List LpQ) [(3,_),(4,_),(11,_),(12,_),(13,_),(23,_),(24,_)] (λp=>[(25,.int .i64 (p.1:Int))]) (λp w'=>Fr [a0] w4 w'/\p.1<=(ts.getD i tq0).2.length/\p.2.length=(ts.getD i tq0).2.length/\Lw.Own z7k 111 (a3+1) w' (.slice (some ⟨a0,0,none⟩) (ts.getD i tq0).2.length (ts.getD i tq0).2.length) p.2/\p.2.map LpQ.p=(ts.getD i tq0).2.map LpQ.p/\(∀j,p.1<=j->p.2.getD j lq0=(ts.getD i tq0).2.getD j lq0)/\PreL (a0+1) w' p.2 p.1) (λp=>(ts.getD i tq0).2.length-p.1) (0,(ts.getD i tq0).2) (.c8 U U U U U U U U) ⟨Fr.refl _ _,⟨Nat.zero_le _,rfl,hR.low oo,rfl,λ_ _=>rfl,λj hj=>absurd hj sp0⟩⟩ ?_;rintro⟨O,rs⟩ w5 ⟨q5,⟨hj,b8,hR,d4,b7,b5⟩⟩;simp only at hj b8 hR d4 b7 b5;have z5:=q5.size;have e4:=b5;refine kpC [(3,_),(4,_),(11,_),(12,_),(13,_),(23,_),(24,_),(25,.int .i64 (O:Int))] (.c8 U U U U U U U U) (sr (lt' U (nn (sq (cd U (λc1=>?_) (λc1=>?_))))));refine sk (tn (sq (bl (sr (mv U ?_)))));replace D:=b3.ext (q1.z4 q2 q3 q4 q5);refine z0x (lq0) U (D _ (z1b (d:=tq0) (i:=i) oo)).1 U y6o z1m (λf4 e1=>?_);refine z1t U (e1 _ (D _ (z1b (d:=tq0) (i:=i) oo)).1) x5j (al x8f U (λg7 w6 g5 I q6 z6=>?_));refine asg U (z0k (vs:=[_,_,_,_]) U I v4u (λw7 I q7 z7=>?_) (h1:=(by first|(simp[Value.oneCell',S];done)|exact z4z.one (ts.getD i tq0))));refine nn (sq ?_);replace D:=b3.ext (q1.z6 q2 q3 q4 q5 q6 q7);replace Z:=((Z.fr q5 (by intro k D hb;simp[z0u]at D hb;omega)).ext q6).fr q7 (by intro k D hb;simp[z0u]at D hb;omega);replace hR:=(hR.ext q6).fr q7 (by intro k D hb;simp[z0u]at D hb;omega);intro a h;refine z0h (some 10) (λwb w'=>Fr [] wb w') z2y ?_;intro w8 q8;have z8:=q8.size;replace D:=D.ext q8;replace Z:=Z.ext q8;replace hR:=hR.ext q8;replace I:=I.ext q8;have hC:Fr [] w8 w8:=Fr.refl _ _;have b4:=D;have a4:=Z;have b2:=hR;have a1:=I;refine z0d 0 h U λa h=>z0d 1 h U λa h=>z1e (p:=i) (tq0) 2 h U Z.sl U x1l U λf5 e2 a h=>z2h 3 h U (λ_ hw=>e2 _ ((a4.ext hw).sl)) y3h U λa h=>?_;rw[d0,d1,d3]at h;refine z0d 4 h U λa h=>z0c 5 h U z7y U λa h=>z0j 6 h U (λ_ hw=>a1.ext hw) U z8o U λa h=>z0e 7 U (z0n h (z0a U z0g) x6v (z4m _ ((ts.getD i tq0).2.getD O lq0).ths _ ((D _ (z1b (d:=tq0) (i:=i) oo)).2 _ (z1b oo)).1 ((b9 _ (z1b (d:=tq0) (i:=i) oo)).2 _ (z1b oo)).1) ?_);rintro _ w9 ⟨b0,rfl,f9,hX,q9⟩ a h;have z9:=q9.size;replace D:=D.ext q9;replace Z:=Z.ext q9;replace hR:=hR.ext q9;replace I:=I.ext q9;replace hC:=hC.next q9;refine z0b (z1o 8 kr0 hC (p:=O) h wn U y6o oo oo oo U U λa h=>z7u 9 hC h wn U z7y U λa h=>z0e 10 U (y7p (E:=z7k) (i:=O) (f:=2) (((ts.getD i tq0).2.getD O lq0)) ({ ((ts.getD i tq0).2.getD O lq0) with th:=(some ⟨b0,0,none⟩,((ts.getD i tq0).2.getD O lq0).ths.length,((ts.getD i tq0).2.getD O lq0).ths.length) }:LpQ) h U U hR (by rw[<-b7 O (Nat.le_refl _)];exact getD_at _ oo) dd U U U j5l λg8 b1 a6 _hz a h=>?_));have h2:=a6.size;replace Z:=Z.fr a6 (by intro k D hb;simp[z0u]at D hb;omega);replace I:=I.fr a6;replace hX:=hX.fr a6 (by intro k D hb;simp[z0u]at D hb;omega);clear _hz hR;have hR:=b1;clear b1;refine z1h (z0r ?_);clear hC b4 a4 b2 a1;refine bk (h.sub (L':=[(3,_),(4,_),(6,_),(7,_),(11,_),(12,_),(13,_),(23,_),(24,_),(25,_)]) (.d8 U U U U U U U U (.c2 U U))) (tn ?_);replace D:=b3.ext ((((q1.z6 q2 q3 q4 q5 q6 q7).n1 q8).n1 q9).z1 a6);intro a h;refine z0h (some 10) (λwb w'=>Fr [] wb w') z2y ?_;intro e7 a5;have h3:=a5.size;replace D:=D.ext a5;replace Z:=Z.ext a5;replace hR:=hR.ext a5;replace I:=I.ext a5;replace hX:=hX.ext a5;have hC:Fr [] e7 e7:=Fr.refl _ _;have b4:=D;have a4:=Z;have b2:=hR;have a1:=I;have d9:=hX;refine z0d 0 h U λa h=>z0d 1 h U λa h=>z1e (p:=i) (tq0) 2 h U Z.sl U x1l U λf6 e3 a h=>z2h 3 h U (λ_ hw=>e3 _ ((a4.ext hw).sl)) y3h U λa h=>?_;rw[d0,d1,d3]at h;refine z0d 4 h U λa h=>z0c 5 h U y0d U λa h=>z0j 6 h U (λ_ hw=>a1.ext hw) U y0y U λa h=>z0e 7 U (z0n h (z0a U z0g) (mkC func131) (u2j _ ((ts.getD i tq0).2.getD O lq0).pas _ ((D _ (z1b (d:=tq0) (i:=i) oo)).2 _ (z1b oo)).2 ((b9 _ (z1b (d:=tq0) (i:=i) oo)).2 _ (z1b oo)).2) ?_);rintro _ g9 ⟨d7,rfl,g0,hY,a2⟩ a h;have h4:=a2.size;replace D:=D.ext a2;replace Z:=Z.ext a2;replace hR:=hR.ext a2;replace I:=I.ext a2;replace hX:=hX.ext a2;replace hC:=hC.next a2;refine z0b (z1o 8 kr0 hC (p:=O) h wn U y6o oo oo oo U U λa h=>z7u 9 hC h wn U y0d U λa h=>z0e 10 U (y7p (E:=z7k) (i:=O) (f:=3) (({ ((ts.getD i tq0).2.getD O lq0) with th:=(some ⟨b0,0,none⟩,((ts.getD i tq0).2.getD O lq0).ths.length,((ts.getD i tq0).2.getD O lq0).ths.length) }:LpQ)) ({ ((ts.getD i tq0).2.getD O lq0) with th:=(some ⟨b0,0,none⟩,((ts.getD i tq0).2.getD O lq0).ths.length,((ts.getD i tq0).2.getD O lq0).ths.length),pa:=(some ⟨d7,0,none⟩,((ts.getD i tq0).2.getD O lq0).pas.length,((ts.getD i tq0).2.getD O lq0).pas.length) }:LpQ) h U U hR (by rw[getD_at lq0 (by rw[List.length_set];omega),z1i oo,if_pos U]) dd U U U j0c λh0 b1 a7 _hz a h=>?_));have h5:=a7.size;replace Z:=Z.fr a7 (by intro k D hb;simp[z0u]at D hb;omega);replace I:=I.fr a7;replace hX:=hX.fr a7 (by intro k D hb;simp[z0u]at D hb;omega);replace hY:=hY.fr a7 (by intro k D hb;simp[z0u]at D hb;omega);clear _hz hR;have hR:=b1;clear b1;refine z1h (z0r ?_);clear hC b4 a4 b2 a1 d9;refine bk (h.sub (L':=[(3,_),(4,_),(11,_),(12,_),(13,_),(23,_),(24,_),(25,_)]) (.c8 U U U U U U U U)) (bn' (tn (rg (z0q U (wi6 oo) (mv U (nl ?_))))));replace b5:=e4.fr ((((Fr.refl [a0] _).z6 q6 q7 q8 q9 a6 a5).n1 a2).z1 a7) (by intro k D;simp at D;omega);exact lpE ((O+1,(rs.set O ({ ((ts.getD i tq0).2.getD O lq0) with th:=(some ⟨b0,0,none⟩,((ts.getD i tq0).2.getD O lq0).ths.length,((ts.getD i tq0).2.getD O lq0).ths.length) }:LpQ)).set O ({ ((ts.getD i tq0).2.getD O lq0) with th:=(some ⟨b0,0,none⟩,((ts.getD i tq0).2.getD O lq0).ths.length,((ts.getD i tq0).2.getD O lq0).ths.length),pa:=(some ⟨d7,0,none⟩,((ts.getD i tq0).2.getD O lq0).pas.length,((ts.getD i tq0).2.getD O lq0).pas.length) }:LpQ))) (.c8 U U U U U U U U) ⟨((((Fr.refl [a0] _).z6 q5 q6 q7 q8 q9 a6).n1 a5).z2 a2 a7),⟨sm,by simp only[List.length_set];exact b8,hR,by rw[List.set_set];exact(y4n (d:=lq0) (by rw[b7 O (Nat.le_refl _)])).trans d4,λj f1=>by
  simp only at f1 ⊢;rw[List.set_set,z1i oo,if_neg oo];exact b7 j oo,b5.put oo ⟨hX.low oo,hY.low oo⟩⟩⟩ sm
 obtain rfl:O=(ts.getD i tq0).2.length:=by omega
 refine ex (te (te (xh (bn' (tn (rg (z0q U (wi6 oo) (mv U (kpL [(3,_),(11,_),(12,_),(13,_)] (.c4 U U U U) (nl ?_))))))))));replace a8:=e5.fr ((Fr.refl [a3] _).z3 q3 q4 q5) (by intro k D;simp at D;omega);replace Z:=Z.fr q5 (by intro k D hb;simp[z0u]at D hb;omega);exact lpE ((i+1,us.set i (((some ⟨a0,0,none⟩,(ts.getD i tq0).2.length,(ts.getD i tq0).2.length):SV),rs))) (.c4 U U U U) ⟨((Fr.refl [a3] _).z4 q2 q3 q4 q5),⟨sm,by simp only[List.length_set];exact a9,j7o (c9▸Z),j3w d5 oo d4,a8.put oo (by rw[show slv ((some ⟨a0,0,none⟩,(ts.getD i tq0).2.length,(ts.getD i tq0).2.length):SV)=(.slice (some ⟨a0,0,none⟩) rs.length rs.length) by rw[b8];rfl];exact(b8.symm▸hR).low oo) (λq hq=>by
  obtain⟨j,hj,rfl⟩:=List.getElem_of_mem hq;have:=b5 j oo;rw[List.getD,List.getElem?_eq_getElem hj]at this;exact this.low oo) (λj hj b hb e8=>by have:=e6 j hj b hb;simp[z0u,slv]at e8;omega)⟩⟩ sm
 obtain rfl:i=ts.length:=by omega
 exact ex (te (te (xh (tn (sr (mv U (asg U (kpL [(2,_)] (.cons U .nil) (nn (rt (r1 results80 U ⟨_,rfl,⟨a3,us,rfl,oo,PreT.tbo Z (a9.symm▸a8) oo,a9,y7d a9 d5⟩,(q1.z1 q2)⟩)))))))))))
theorem v4d:BuildAt prog 156 [(0,1),(1,2),(3,1),(4,1),(5,1),(6,1)] [(.int .i64 0),(.slice none 0 0),(.slice none 0 0),(.slice none 0 0),(.slice none 0 0),(.map none),(.slice none 0 0)]:=BuildAt.struct underlying156 (λ_=>kr0) (λ_=>kr0)
theorem j6s:CallOf prog 78:=mkC func78
theorem j7y:CallOf prog 80:=mkC func80
theorem x5m:z0y prog 46 0 0:=λ_ _=>kr0
theorem y7j:z0y prog 46 1 1:=λ_ _=>kr0
theorem v2a:z0y prog 46 2 3:=λ_ _=>kr0
theorem y2l:z0y prog 46 3 4:=λ_ _=>kr0
structure StSz (s:StQ):Prop where
  bf:s.q.fs.length<=40
  bb:s.q.bs.length<=40
  f4:y0w s.q.fs
  b4:y0w s.q.bs
  ly:s.ys.length=6
  lt:s.fb.ts.length=6
  pe:∀i,(s.ys.getD i yq0).pes.length<=100000
  tb:∀p∈s.fb.ts,p.2.length<=100000/\∀q∈p.2,q.ths.length<=100000/\q.pas.length<=100000
  fl:s.fb.fs.length<=100000
  cs:s.fb.cs.length<=100000000
  hs:s.fb.hs.length<=100000
theorem y3p {τ:TyK}{b base:Nat}{w:World}{v:Value}{ys:List YQ}(h:YsO τ base w v ys)(hb:b<=base):YsO τ b w v ys:=⟨h.out.low hb,λi D=>(h.ins i D).low hb⟩
theorem y3v {τ:TyK}{b base:Nat}{w:World}{v:Value}{ts:List TQ}(h:TbO τ base w v ts)(hb:b<=base):TbO τ b w v ts:=⟨h.out.low hb,λi D=>(h.ins i D).low hb,h.off,λi D q I=>⟨(h.lps i D q I).1.low hb,(h.lps i D q I).2.low hb⟩⟩
theorem j5x (s:StQ)(w0:World)(I:StAt w0 s)(D:StSz s)(g4:(s.fb.cs.map cxK).Nodup):Rets prog 35 #[.agg #[.int .i64 s.rk,.slice s.q.f.1 s.q.f.2.1 s.q.f.2.2,.slice s.q.b.1 s.q.b.2.1 s.q.b.2.2,.slice s.yv.1 s.yv.2.1 s.yv.2.2,.slice s.fb.t.1 s.fb.t.2.1 s.fb.t.2.2,.slice s.fb.c.1 s.fb.c.2.1 s.fb.c.2.2,.slice s.fb.h.1 s.fb.h.2.1 s.fb.h.2.2,.slice s.fb.f.1 s.fb.f.2.1 s.fb.f.2.2]] w0 λr w'=>∃ka m,r=.pointer (some ⟨ka.gk,0,none⟩)/\MkM τd 156 w0 ka w' m/\m.p=(⟨s.rk,⟨z2v (plB s.q.fs),z2v (plB s.q.bs)⟩,s.ys.map YQ.p,z2o s.fb.ts,s.fb.cs,s.fb.fs⟩:MSt):=by
 have h9:=z2g I.f.c;have i0:=D.cs;refine we [(0,.agg #[.int .i64 s.rk,.slice s.q.f.1 s.q.f.2.1 s.q.f.2.2,.slice s.q.b.1 s.q.b.2.1 s.q.b.2.2,.slice s.yv.1 s.yv.2.1 s.yv.2.2,.slice s.fb.t.1 s.fb.t.2.1 s.fb.t.2.2,.slice s.fb.c.1 s.fb.c.2.1 s.fb.c.2.2,.slice s.fb.h.1 s.fb.h.2.1 s.fb.h.2.2,.slice s.fb.f.1 s.fb.f.2.1 s.fb.f.2.2])] func35 U ntmps35 U (.cons U .nil) ?_;have f2:=I;refine sr (bx U (λg1 w1 i1 O q1 z1=>(asg U (nn (jn (ι:=MA) [(1,_)] (λka=>[(3,.pointer (some ⟨ka.gk,0,none⟩))]) (λka w'=>Fr [] w1 w'/\∃m:MQ,MkM τd 156 w0 ka w' m/\m.p=(⟨s.rk,⟨z2v (plB s.q.fs),z2v (plB s.q.bs)⟩,s.ys.map YQ.p,z2o s.fb.ts,[],s.fb.fs⟩:MSt)) (.cons U .nil) ?_ ?_)))));replace I:=f2.ext q1;intro a h;refine z0h none (λwb w'=>Fr [] wb w') z2y ?_;intro w2 q2;have z2:=q2.size;replace I:=I.ext q2;replace O:=O.ext q2;have hC:Fr [] w2 w2:=Fr.refl _ _;have c1:=I;have a1:=O;refine z0c 0 h U x5m U λa h=>z0j 1 h U (λ_ hw=>a1.ext hw) U na3 U λa h=>z0c 2 h U y7j U λa h=>z7u 3 hC h wn U x0l U λa h=>z0j 4 h U (λ_ hw=>a1.ext hw) U v1z U λa h=>z0c 6 h U y7j U λa h=>z7u 7 hC h wn U y4s U λa h=>z0j 8 h U (λ_ hw=>a1.ext hw) U v1z U λa h=>z0c 11 h U v2a U λa h=>z0j 12 h U (λ_ hw=>a1.ext hw) U y6b U λa h=>z0c 14 h U y2l U λa h=>z7u 15 hC h wn U y4t U λa h=>z0j 16 h U (λ_ hw=>a1.ext hw) U v0w U λa h=>z0c 18 h U y2l U λa h=>z7u 19 hC h wn U x0i U λa h=>z0j 20 h U (λ_ hw=>a1.ext hw) U j6d U λa h=>z7q 21 hC h wn U underlying41 U λa h=>z0c 23 h U y2l U λa h=>z7u 24 hC h wn U x4m U λa h=>z0j 25 h U (λ_ hw=>a1.ext hw) U z8o U λa h=>z2n 5 22 kr0 U ?_ ?_;refine z0n h (z0a U z0g) j6s (y6k _ s.q.fs _ I.b.f I.b.fi D.bf D.f4) ?_;rintro _ w3 ⟨⟨f1,a0,e0,gF,rfl⟩,q3⟩ a h;have z3:=q3.size;replace I:=I.ext q3;replace O:=O.ext q3;replace hC:=hC.next q3;have d9:∀x∈f1,∀k∈z0u (slv x.1),k<w3.heap.size:=λx hx k hk=>((a0.2 x hx).blk k hk).2;refine z0b (z2n 9 22 kr0 U ?_ ?_);refine z0n h (z0a U z0g) j6s (y6k _ s.q.bs _ I.b.b I.b.bi D.bb D.b4) ?_;rintro _ w4 ⟨⟨e3,Z,d6,gB,rfl⟩,q4⟩ a h;have z4:=q4.size;replace I:=I.ext q4;replace O:=O.ext q4;replace a0:=a0.ext q4;replace hC:=hC.next q4;have d5:∀x∈e3,∀k∈z0u (slv x.1),k<w4.heap.size:=λx hx k hk=>((Z.2 x hx).blk k hk).2;refine z0b (z3m (cs:=[_,_]) 10 h (z0a U (z0a U z0g)) j6g (z0f U (z0f U z0t)) U U λa h=>z2n 13 22 kr0 U ?_ ?_);refine z0n h (z0a U z0g) (mkC func79) (x0p _ s.ys _ I.y I.ya (by have:=D.ly;omega) D.pe) ?_;rintro _ w5 ⟨⟨gy,ps,rfl,f3,hY,d0,d1⟩,q5⟩ a h;have z5:=q5.size;replace I:=I.ext q5;replace O:=O.ext q5;replace a0:=a0.ext q5;replace Z:=Z.ext q5;replace hC:=hC.next q5;refine z0b (z2n 17 22 kr0 U ?_ ?_);refine z0n h (z0a U z0g) j7y (y7k _ s.fb.ts _ I.f.t I.f.tt (by have:=D.lt;omega) D.tb) ?_;rintro _ w6 ⟨⟨gt,us,rfl,e8,hT,a9,a8⟩,q6⟩ a h;have z6:=q6.size;replace I:=I.ext q6;replace O:=O.ext q6;replace a0:=a0.ext q6;replace Z:=Z.ext q6;replace hY:=hY.ext q6;replace hC:=hC.next q6;have a7:∀i,i<us.length->∀q∈(us.getD i tq0).2,∀k∈z0u (slv q.th),k<w6.heap.size:=λi hi q hq k hk=>((hT.lps i hi q hq).1.blk k hk).2;refine z0b (z2n 22 26 kr0 U ?_ ?_);refine z5b (K:=157) (E:=3) crK h U underlying153 U λgm w7 e6 a4 q7 _hz a h=>?_;have z7:=q7.size;replace I:=I.ext q7;replace hC:=hC.next q7;clear _hz;refine z0b (z0e 26 U (z0n h (z0a U z0g) x6v (z4m _ s.fb.fs _ I.f.f D.fl) ?_));rintro _ w8 ⟨gf,rfl,e5,a5,q8⟩ a h;have z8:=q8.size;replace O:=O.ext (q7.n1 q8);replace hC:=hC.next q8;refine z0b (z3m (cs:=[_,_,_,_,_,_,_]) 27 h (z0a U (z0a U (z0a U (z0a U (z0a U (z0a U z0g)))))) v4d (z0f U (z0f U (z0f U (z0f U (z0f U (z0f U z0t)))))) U U λa h=>z0e 28 U ?_);refine y6u h U U U λw9 a3 q9 hz a h=>?_;obtain⟨a2,hg⟩:∃g,g=w8.heap.size:=⟨_,rfl⟩;rw[<-hg]at a3 h hz;have a6:g1<a2:=by have:=O.lt;omega
 have z9:=q9.size;replace a0:=a0.ext (q7.n2 q8 q9);replace Z:=Z.ext (q7.n2 q8 q9);replace hY:=hY.ext (q7.n2 q8 q9);replace hT:=hT.ext (q7.n2 q8 q9);replace a4:=a4.ext (q8.n1 q9);replace a5:=a5.ext q9;replace hC:=hC.next q9;refine z0b (z0e 29 U (z0s h U λa h=>?_));refine z0b (z0r ?_);clear hC c1 a1;exact bk (h.sub (L':=[(1,_),(3,_)]) (.c2 U U)) (jE ((⟨a2,gy,6,gt,6,gm,_⟩:MA)) (.c2 U U) ⟨((q2.n6 q3 q4 q5 q6 q7 q8).n1 q9),(y9p a3 (a0.low oo) (Z.low oo) (y3p hY oo) d0 d1 (y3v hT oo) a9 a8 a4 (a5.low oo) D.ly D.lt (((q1.n6 q2 q3 q4 q5 q6 q7).n1 q8).n1 q9) oo oo (λx hx hb=>by rcases List.mem_append.1 hx with k|k;have:=d9 x k _ hb;omega;have:=d5 x k _ hb;omega) (λi hi q hq hb=>by have:=a7 i (by have:=D.lt;omega) q hq _ hb;omega) e0 d6)⟩);refine z0n h (z0a U z0g) x6v (z4m _ s.fb.fs _ I.f.f D.fl) ?_;rintro _ i4 ⟨gf,rfl,e5,a5,d3⟩ a h;have k4:=d3.size;replace hC:=hC.next d3;refine z0b (z0e 22 U (z5b (K:=157) (E:=3) crK h U underlying153 U λgm g6 e6 a4 b0 _hz a h=>?_));have k5:=b0.size;replace O:=O.ext (d3.n1 b0);replace hC:=hC.next b0;clear _hz;refine z0b (z3m (cs:=[_,_,_,_,_,_,_]) 27 h (z0a U (z0a U (z0a U (z0a U (z0a U (z0a U z0g)))))) v4d (z0f U (z0f U (z0f U (z0f U (z0f U (z0f U z0t)))))) U U λa h=>z0e 28 U ?_);refine y6u h U U U λi5 a3 b1 hz a h=>?_;obtain⟨a2,hg⟩:∃g,g=g6.heap.size:=⟨_,rfl⟩;rw[<-hg]at a3 h hz;have a6:g1<a2:=by have:=O.lt;omega
 have k6:=b1.size;replace a0:=a0.ext (d3.n2 b0 b1);replace Z:=Z.ext (d3.n2 b0 b1);replace hY:=hY.ext (d3.n2 b0 b1);replace hT:=hT.ext (d3.n2 b0 b1);replace a5:=a5.ext (b0.n1 b1);replace a4:=a4.ext b1;replace hC:=hC.next b1;refine z0b (z0e 29 U (z0s h U λa h=>?_));refine z0b (z0r ?_);clear hC c1 a1;exact bk (h.sub (L':=[(1,_),(3,_)]) (.c2 U U)) (jE ((⟨a2,gy,6,gt,6,gm,_⟩:MA)) (.c2 U U) ⟨((q2.n6 q3 q4 q5 q6 d3 b0).n1 b1),(y9p a3 (a0.low oo) (Z.low oo) (y3p hY oo) d0 d1 (y3v hT oo) a9 a8 a4 (a5.low oo) D.ly D.lt (((q1.n6 q2 q3 q4 q5 q6 d3).n1 b0).n1 b1) oo oo (λx hx hb=>by rcases List.mem_append.1 hx with k|k;have:=d9 x k _ hb;omega;have:=d5 x k _ hb;omega) (λi hi q hq hb=>by have:=a7 i (by have:=D.lt;omega) q hq _ hb;omega) e0 d6)⟩);refine z5b (K:=157) (E:=3) crK h U underlying153 U λgm i7 e6 a4 d4 _hz a h=>?_;have k7:=d4.size;replace I:=I.ext d4;replace hC:=hC.next d4;clear _hz;refine z0b (z0e 17 U (z0n h (z0a U z0g) j7y (y7k _ s.fb.ts _ I.f.t I.f.tt (by have:=D.lt;omega) D.tb) ?_));rintro _ g7 ⟨⟨gt,us,rfl,e8,hT,a9,a8⟩,q14⟩ a h;have k8:=q14.size;replace I:=I.ext q14;replace hC:=hC.next q14;have a7:∀i,i<us.length->∀q∈(us.getD i tq0).2,∀k∈z0u (slv q.th),k<g7.heap.size:=λi hi q hq k hk=>((hT.lps i hi q hq).1.blk k hk).2;refine z0b (z0e 26 U (z0n h (z0a U z0g) x6v (z4m _ s.fb.fs _ I.f.f D.fl) ?_));rintro _ g8 ⟨gf,rfl,e5,a5,b2⟩ a h;have k9:=b2.size;replace O:=O.ext (d4.n2 q14 b2);replace hC:=hC.next b2;refine z0b (z3m (cs:=[_,_,_,_,_,_,_]) 27 h (z0a U (z0a U (z0a U (z0a U (z0a U (z0a U z0g)))))) v4d (z0f U (z0f U (z0f U (z0f U (z0f U (z0f U z0t)))))) U U λa h=>z0e 28 U ?_);refine y6u h U U U λi8 a3 b3 hz a h=>?_;obtain⟨a2,hg⟩:∃g,g=g8.heap.size:=⟨_,rfl⟩;rw[<-hg]at a3 h hz;have a6:g1<a2:=by have:=O.lt;omega
 have l0:=b3.size;replace a0:=a0.ext (d4.n3 q14 b2 b3);replace Z:=Z.ext (d4.n3 q14 b2 b3);replace hY:=hY.ext (d4.n3 q14 b2 b3);replace a4:=a4.ext (q14.n2 b2 b3);replace hT:=hT.ext (b2.n1 b3);replace a5:=a5.ext b3;replace hC:=hC.next b3;refine z0b (z0e 29 U (z0s h U λa h=>?_));refine z0b (z0r ?_);clear hC c1 a1;exact bk (h.sub (L':=[(1,_),(3,_)]) (.c2 U U)) (jE ((⟨a2,gy,6,gt,6,gm,_⟩:MA)) (.c2 U U) ⟨((q2.n6 q3 q4 q5 d4 q14 b2).n1 b3),(y9p a3 (a0.low oo) (Z.low oo) (y3p hY oo) d0 d1 (y3v hT oo) a9 a8 a4 (a5.low oo) D.ly D.lt (((q1.n6 q2 q3 q4 q5 d4 q14).n1 b2).n1 b3) oo oo (λx hx hb=>by rcases List.mem_append.1 hx with k|k;have:=d9 x k _ hb;omega;have:=d5 x k _ hb;omega) (λi hi q hq hb=>by have:=a7 i (by have:=D.lt;omega) q hq _ hb;omega) e0 d6)⟩);refine z5b (K:=157) (E:=3) crK h U underlying153 U λgm i9 e6 a4 d7 _hz a h=>?_;have l1:=d7.size;replace I:=I.ext d7;replace hC:=hC.next d7;clear _hz;refine z0b (z0e 13 U (z0n h (z0a U z0g) (mkC func79) (x0p _ s.ys _ I.y I.ya (by have:=D.ly;omega) D.pe) ?_));rintro _ j0 ⟨⟨gy,ps,rfl,f3,hY,d0,d1⟩,q18⟩ a h;have l2:=q18.size;replace I:=I.ext q18;replace hC:=hC.next q18;refine z0b (z0e 17 U (z0n h (z0a U z0g) j7y (y7k _ s.fb.ts _ I.f.t I.f.tt (by have:=D.lt;omega) D.tb) ?_));rintro _ g9 ⟨⟨gt,us,rfl,e8,hT,a9,a8⟩,q19⟩ a h;have l3:=q19.size;replace I:=I.ext q19;replace hC:=hC.next q19;have a7:∀i,i<us.length->∀q∈(us.getD i tq0).2,∀k∈z0u (slv q.th),k<g9.heap.size:=λi hi q hq k hk=>((hT.lps i hi q hq).1.blk k hk).2;refine z0b (z0e 26 U (z0n h (z0a U z0g) x6v (z4m _ s.fb.fs _ I.f.f D.fl) ?_));rintro _ h0 ⟨gf,rfl,e5,a5,b4⟩ a h;have l4:=b4.size;replace O:=O.ext (d7.n3 q18 q19 b4);replace hC:=hC.next b4;refine z0b (z3m (cs:=[_,_,_,_,_,_,_]) 27 h (z0a U (z0a U (z0a U (z0a U (z0a U (z0a U z0g)))))) v4d (z0f U (z0f U (z0f U (z0f U (z0f U (z0f U z0t)))))) U U λa h=>z0e 28 U ?_);refine y6u h U U U λj1 a3 b5 hz a h=>?_;obtain⟨a2,hg⟩:∃g,g=h0.heap.size:=⟨_,rfl⟩;rw[<-hg]at a3 h hz;have a6:g1<a2:=by have:=O.lt;omega
 have l5:=b5.size;replace a0:=a0.ext (d7.n4 q18 q19 b4 b5);replace Z:=Z.ext (d7.n4 q18 q19 b4 b5);replace a4:=a4.ext (q18.n3 q19 b4 b5);replace hY:=hY.ext (q19.n2 b4 b5);replace hT:=hT.ext (b4.n1 b5);replace a5:=a5.ext b5;replace hC:=hC.next b5;refine z0b (z0e 29 U (z0s h U λa h=>?_));refine z0b (z0r ?_);clear hC c1 a1;exact bk (h.sub (L':=[(1,_),(3,_)]) (.c2 U U)) (jE ((⟨a2,gy,6,gt,6,gm,_⟩:MA)) (.c2 U U) ⟨((q2.n6 q3 q4 d7 q18 q19 b4).n1 b5),(y9p a3 (a0.low oo) (Z.low oo) (y3p hY oo) d0 d1 (y3v hT oo) a9 a8 a4 (a5.low oo) D.ly D.lt (((q1.n6 q2 q3 q4 d7 q18 q19).n1 b4).n1 b5) oo oo (λx hx hb=>by rcases List.mem_append.1 hx with k|k;have:=d9 x k _ hb;omega;have:=d5 x k _ hb;omega) (λi hi q hq hb=>by have:=a7 i (by have:=D.lt;omega) q hq _ hb;omega) e0 d6)⟩);refine z5b (K:=157) (E:=3) crK h U underlying153 U λgm j2 e6 a4 e1 _hz a h=>?_;have l6:=e1.size;replace I:=I.ext e1;replace hC:=hC.next e1;clear _hz;refine z0b (z0e 9 U (z0n h (z0a U z0g) j6s (y6k _ s.q.bs _ I.b.b I.b.bi D.bb D.b4) ?_));rintro _ h1 ⟨⟨e3,Z,d6,gB,rfl⟩,q23⟩ a h;have l7:=q23.size;replace I:=I.ext q23;replace hC:=hC.next q23;have d5:∀x∈e3,∀k∈z0u (slv x.1),k<h1.heap.size:=λx hx k hk=>((Z.2 x hx).blk k hk).2;refine z0b (z3m (cs:=[_,_]) 10 h (z0a U (z0a U z0g)) j6g (z0f U (z0f U z0t)) U U λa h=>z0e 13 U ?_);refine z0n h (z0a U z0g) (mkC func79) (x0p _ s.ys _ I.y I.ya (by have:=D.ly;omega) D.pe) ?_;rintro _ j3 ⟨⟨gy,ps,rfl,f3,hY,d0,d1⟩,q24⟩ a h;have l8:=q24.size;replace I:=I.ext q24;replace hC:=hC.next q24;refine z0b (z0e 17 U (z0n h (z0a U z0g) j7y (y7k _ s.fb.ts _ I.f.t I.f.tt (by have:=D.lt;omega) D.tb) ?_));rintro _ h2 ⟨⟨gt,us,rfl,e8,hT,a9,a8⟩,q25⟩ a h;have l9:=q25.size;replace I:=I.ext q25;replace hC:=hC.next q25;have a7:∀i,i<us.length->∀q∈(us.getD i tq0).2,∀k∈z0u (slv q.th),k<h2.heap.size:=λi hi q hq k hk=>((hT.lps i hi q hq).1.blk k hk).2;refine z0b (z0e 26 U (z0n h (z0a U z0g) x6v (z4m _ s.fb.fs _ I.f.f D.fl) ?_));rintro _ h3 ⟨gf,rfl,e5,a5,b6⟩ a h;have m0:=b6.size;replace O:=O.ext (e1.n4 q23 q24 q25 b6);replace hC:=hC.next b6;refine z0b (z3m (cs:=[_,_,_,_,_,_,_]) 27 h (z0a U (z0a U (z0a U (z0a U (z0a U (z0a U z0g)))))) v4d (z0f U (z0f U (z0f U (z0f U (z0f U (z0f U z0t)))))) U U λa h=>z0e 28 U ?_);refine y6u h U U U λj4 a3 b7 hz a h=>?_;obtain⟨a2,hg⟩:∃g,g=h3.heap.size:=⟨_,rfl⟩;rw[<-hg]at a3 h hz;have a6:g1<a2:=by have:=O.lt;omega
 have m1:=b7.size;replace a0:=a0.ext (e1.n5 q23 q24 q25 b6 b7);replace a4:=a4.ext (q23.n4 q24 q25 b6 b7);replace Z:=Z.ext (q24.n3 q25 b6 b7);replace hY:=hY.ext (q25.n2 b6 b7);replace hT:=hT.ext (b6.n1 b7);replace a5:=a5.ext b7;replace hC:=hC.next b7;refine z0b (z0e 29 U (z0s h U λa h=>?_));refine z0b (z0r ?_);clear hC c1 a1;exact bk (h.sub (L':=[(1,_),(3,_)]) (.c2 U U)) (jE ((⟨a2,gy,6,gt,6,gm,_⟩:MA)) (.c2 U U) ⟨((q2.n6 q3 e1 q23 q24 q25 b6).n1 b7),(y9p a3 (a0.low oo) (Z.low oo) (y3p hY oo) d0 d1 (y3v hT oo) a9 a8 a4 (a5.low oo) D.ly D.lt (((q1.n6 q2 q3 e1 q23 q24 q25).n1 b6).n1 b7) oo oo (λx hx hb=>by rcases List.mem_append.1 hx with k|k;have:=d9 x k _ hb;omega;have:=d5 x k _ hb;omega) (λi hi q hq hb=>by have:=a7 i (by have:=D.lt;omega) q hq _ hb;omega) e0 d6)⟩);refine z5b (K:=157) (E:=3) crK h U underlying153 U λgm j5 e6 a4 e2 _hz a h=>?_;have m2:=e2.size;replace I:=I.ext e2;replace hC:=hC.next e2;clear _hz;refine z0b (z0e 5 U (z0n h (z0a U z0g) j6s (y6k _ s.q.fs _ I.b.f I.b.fi D.bf D.f4) ?_));rintro _ h4 ⟨⟨f1,a0,e0,gF,rfl⟩,q29⟩ a h;have m3:=q29.size;replace I:=I.ext q29;replace hC:=hC.next q29;have d9:∀x∈f1,∀k∈z0u (slv x.1),k<h4.heap.size:=λx hx k hk=>((a0.2 x hx).blk k hk).2;refine z0b (z0e 9 U (z0n h (z0a U z0g) j6s (y6k _ s.q.bs _ I.b.b I.b.bi D.bb D.b4) ?_));rintro _ h5 ⟨⟨e3,Z,d6,gB,rfl⟩,q30⟩ a h;have m4:=q30.size;replace I:=I.ext q30;replace hC:=hC.next q30;have d5:∀x∈e3,∀k∈z0u (slv x.1),k<h5.heap.size:=λx hx k hk=>((Z.2 x hx).blk k hk).2;refine z0b (z3m (cs:=[_,_]) 10 h (z0a U (z0a U z0g)) j6g (z0f U (z0f U z0t)) U U λa h=>z0e 13 U ?_);refine z0n h (z0a U z0g) (mkC func79) (x0p _ s.ys _ I.y I.ya (by have:=D.ly;omega) D.pe) ?_;rintro _ j6 ⟨⟨gy,ps,rfl,f3,hY,d0,d1⟩,q31⟩ a h;have m5:=q31.size;replace I:=I.ext q31;replace hC:=hC.next q31;refine z0b (z0e 17 U (z0n h (z0a U z0g) j7y (y7k _ s.fb.ts _ I.f.t I.f.tt (by have:=D.lt;omega) D.tb) ?_));rintro _ h6 ⟨⟨gt,us,rfl,e8,hT,a9,a8⟩,q32⟩ a h;have m6:=q32.size;replace I:=I.ext q32;replace hC:=hC.next q32;have a7:∀i,i<us.length->∀q∈(us.getD i tq0).2,∀k∈z0u (slv q.th),k<h6.heap.size:=λi hi q hq k hk=>((hT.lps i hi q hq).1.blk k hk).2;refine z0b (z0e 26 U (z0n h (z0a U z0g) x6v (z4m _ s.fb.fs _ I.f.f D.fl) ?_));rintro _ h7 ⟨gf,rfl,e5,a5,b8⟩ a h;have m7:=b8.size;replace O:=O.ext (e2.n5 q29 q30 q31 q32 b8);replace hC:=hC.next b8;refine z0b (z3m (cs:=[_,_,_,_,_,_,_]) 27 h (z0a U (z0a U (z0a U (z0a U (z0a U (z0a U z0g)))))) v4d (z0f U (z0f U (z0f U (z0f U (z0f U (z0f U z0t)))))) U U λa h=>z0e 28 U ?_);refine y6u h U U U λj7 a3 b9 hz a h=>?_;obtain⟨a2,hg⟩:∃g,g=h7.heap.size:=⟨_,rfl⟩;rw[<-hg]at a3 h hz;have a6:g1<a2:=by have:=O.lt;omega
 have m8:=b9.size;replace a4:=a4.ext (q29.n5 q30 q31 q32 b8 b9);replace a0:=a0.ext (q30.n4 q31 q32 b8 b9);replace Z:=Z.ext (q31.n3 q32 b8 b9);replace hY:=hY.ext (q32.n2 b8 b9);replace hT:=hT.ext (b8.n1 b9);replace a5:=a5.ext b9;replace hC:=hC.next b9;refine z0b (z0e 29 U (z0s h U λa h=>?_));refine z0b (z0r ?_);clear hC c1 a1;exact bk (h.sub (L':=[(1,_),(3,_)]) (.c2 U U)) (jE ((⟨a2,gy,6,gt,6,gm,_⟩:MA)) (.c2 U U) ⟨((q2.n6 e2 q29 q30 q31 q32 b8).n1 b9),(y9p a3 (a0.low oo) (Z.low oo) (y3p hY oo) d0 d1 (y3v hT oo) a9 a8 a4 (a5.low oo) D.ly D.lt (((q1.n6 q2 e2 q29 q30 q31 q32).n1 b8).n1 b9) oo oo (λx hx hb=>by rcases List.mem_append.1 hx with k|k;have:=d9 x k _ hb;omega;have:=d5 x k _ hb;omega) (λi hi q hq hb=>by have:=a7 i (by have:=D.lt;omega) q hq _ hb;omega) e0 d6)⟩);rintro ka j8 ⟨f8,⟨m,hM,e7⟩⟩;have m9:=f8.size;have f4:=hM;refine kpC [(1,_),(3,.pointer (some ⟨ka.gk,0,none⟩))] (.c2 U U) (sq (sr (fad U y2l (v1y U x0i U ?_))));replace O:=O.ext f8;refine z0i U O U j6d (lnS U underlying41 (mv U (nn (bl (lpK (ι:=Nat) [(3,_),(37,_),(38,_)] (λi=>[(39,.int .i64 (i:Int))]) (λi w'=>i<=s.fb.cs.length/\(∃m:MQ,m.p=(⟨s.rk,⟨z2v (plB s.q.fs),z2v (plB s.q.bs)⟩,s.ys.map YQ.p,z2o s.fb.ts,s.fb.cs.take i,s.fb.fs⟩:MSt)/\MkM τd 156 w0 ka w' m)) (λi=>s.fb.cs.length-i) 0 (.c4 U U U U) ⟨Nat.zero_le _,⟨m,e7,hM⟩⟩ ?_)))));rintro i j9 ⟨hi,⟨m,e7,hM⟩⟩;have f4:=hM;refine kpC [(3,_),(37,_),(38,_),(39,_)] (.c4 U U U U) ?_;have hk:=hM.k;have i3:=hk.lt;refine sr (lt' U (nn (sq (cd U (λc0=>?_) (λc0=>?_)))));refine sk (tn (sq (bl (sr (z0x (cx0) U (f2.f.c.ext hM.fr.fr) U u4q z1m (λh8 f6=>?_))))));refine z1t U (f6 _ (f2.f.c.ext hM.fr.fr)) x1t (al x9c U (λg5 k0 i2 e4 f9 n7=>(z0k (vs:=[_,_,_,_,_]) U e4 v4p (λk1 e4 g0 n8=>(nn ?_)))));replace hM:=f4.ext (f9.z1 g0);replace hk:=(hk.ext f9).fr g0;intro a h;refine z0h (some 11) (λwb w'=>Fr [] wb w') z2y ?_;intro g3 e9;have n9:=e9.size;replace hM:=hM.ext e9;replace hk:=hk.ext e9;replace e4:=e4.ext e9;have hC:Fr [] g3 g3:=Fr.refl _ _;have f5:=hM;have f0:=hk;have c9:=e4;refine z0d 0 h U λa h=>z0o 1 h U λa h=>z0c 2 h U y4j U λa h=>z0j 3 h U (λ_ hw=>f0.ext hw) U v3o U λa h=>z0c 4 h U y6e U λa h=>z1d (vs:=[_,_]) 5 h U (λ_ hw=>(c9.ext hw)) z3x U U λa h=>z0c 6 h U y6p U λa h=>z1d (vs:=[_,_]) 7 h U (λ_ hw=>(c9.ext hw)) z3x U U λa h=>z3m (cs:=[_,_,_,_]) 8 h (z0a U (z0a U z0g)) j5h (z0f U (z0f U z0t)) U U λa h=>z0c 9 h U y8c U λa h=>z0j 10 h U (λ_ hw=>c9.ext hw) U na3 U λa h=>?_;refine z0e 11 U (y8w (V:=crK) (k:=cxK (s.fb.cs.getD i cx0)) (v:=.int .i64 (s.fb.cs.getD i cx0).n) h U U U hM.c v1j underlying153 λk2 f7 hq _hz a h=>?_);rw[show m.cr=s.fb.cs.take i from congrArg MSt.cr e7]at f7;replace hM:=hM.cross (l:=s.fb.cs.take (i+1)) (by rw[<-u4z g4 oo];exact f7) hq;refine z1h (z0r ?_);clear hC f5 f0 c9;exact bk (h.sub (L':=[(3,_),(37,_),(38,_),(39,_)]) (.c4 U U U U)) (bn' (tn (rg (z0q U (wi6 oo) (mv U (nl (lpE (i+1) (.c4 U U U U) ⟨oo,⟨{ m with cr:=s.fb.cs.take (i+1) },by rw[show ({ m with cr:=s.fb.cs.take (i+1) }:MQ).p={ m.p with cr:=s.fb.cs.take (i+1) } from U,e7],hM⟩⟩ oo)))))));obtain rfl:i=s.fb.cs.length:=by omega
 exact ex (te (te (xh (tn (sr (mv U (asg U (kpL [(2,_)] (.cons U .nil) (nn (rt (r1 results35 U ⟨_,rfl,ka,m,rfl,hM,by rw[e7,List.take_length]⟩)))))))))))
theorem k4u (v:Value)(l:List Int)(w0:World)(O:Sl Enc.i64 w0 v l)(hl:l.length<=1000):Rets prog 99 #[v] w0 λr w'=>r=.int .i64 (orZ l)/\w'=w0:=by
 obtain⟨A,c,rfl,a1,hM,hA⟩:=id O;clear hA;unfold maxLen at hM;refine we [(0,.slice A l.length c)] func99 U ntmps99 U (.cons U .nil) ?_;have Z:=O;refine sr (asg U (nn (sr (asg U (nn (sq (sr (mv U (lnS U underlying26 (mv U (nn (bl (lpK (ι:=Nat) [(3,_),(6,_),(7,_)] (λi=>[(8,.int .i64 (i:Int))]) (λi w'=>Fr [] w0 w'/\i<=l.length/\(∀j,j<i->l.getD j 0=0)/\w'=w0) (λi=>l.length-i) 0 (.c4 U U U U) ⟨Fr.refl _ _,⟨Nat.zero_le _,⟨λj h=>absurd h oo,rfl⟩⟩⟩ ?_)))))))))))));rintro i w1 ⟨q1,⟨hi,⟨hz,D⟩⟩⟩;refine kpC [(3,_),(6,_),(7,_),(8,_)] (.c4 U U U U) (sr (lt' U (nn (sq (cd U (λc0=>?_) (λc0=>?_))))));refine sk (tn (sq (bl (sr ?_))));replace O:=Z.ext q1;refine z0x (0) U O U z3b z1m (λa0 I=>?_);refine z1a U (I _ O) na3 (asg U (nn (sr (mv U (mv U (ne' U (nn (cd U (λc1=>?_) (λc1=>?_)))))))));refine sr (mv U (asg U (kpL [(2,_)] (.cons U .nil) (nn (rt (rb (tr (tr (rb (tr (r1 results99 U ?_)))))))))));exact⟨_,rfl,congrArg (Value.int .i64) (u2a oo hz oo).symm,D⟩;refine sk (bn' (tn (rg (z0q U (wi6 oo) (mv U (nl ?_))))));exact lpE (i+1) (.c4 U U U U) ⟨q1,⟨oo,⟨λj h=>by
  by_cases e:j=i;subst e;omega;exact hz j oo,D⟩⟩⟩ oo
 obtain rfl:i=l.length:=by omega
 refine ex (te (te (xh (tn (sr (mv U (asg U (kpL [(2,_)] (.cons U .nil) (nn (rt (r1 results99 U ?_)))))))))));exact⟨_,rfl,congrArg (Value.int .i64) (x2d hz).symm,D⟩
theorem nanD (x:Int)(W:World):Calls prog 193 #[.int .i64 x] W λe w'=>e=.returned (.bool false)/\w'=W:=by
 go_enter func193,ntmps193;go_wp2;go_ret;exact⟨sp0,rfl⟩
theorem k4o (x:Int)(W:World):Calls prog 192 #[.int .u8 x] W λe w'=>e=.returned (.bool false)/\w'=W:=by
 go_enter func192,ntmps192;go_wp2;go_ret;exact⟨sp0,rfl⟩
theorem cmpD (x y:Int)(W:World):Calls prog 146 #[.int .i64 x,.int .i64 y] W λe w'=>e=.returned (.int .i64 (y1e x y))/\w'=W:=by
 go_enter func146,ntmps146
 go_wp2_with (go_at_call 193;refine(nanD _ _).mono ?_;rintro e w' ⟨rfl,D⟩;rw[D])
 all_goals (go_ret;refine⟨?_,rfl⟩;unfold y1e;(repeat' split)<;>first|rfl|(exfalso;omega))
theorem k5b (x y:Int)(W:World):Calls prog 145 #[.int .u8 x,.int .u8 y] W λe w'=>e=.returned (.int .i64 (y1e x y))/\w'=W:=by
 go_enter func145,ntmps145
 go_wp2_with (go_at_call 192;refine(k4o _ _).mono ?_;rintro e w' ⟨rfl,D⟩;rw[D])
 all_goals (go_ret;refine⟨?_,rfl⟩;unfold y1e;(repeat' split)<;>first|rfl|(exfalso;omega))
theorem orD (b T:Nat)(x y:Int)(W:World)(D:W.heap[b]?=some (.cells #[.int .i64 x,.int .i64 y] T (0,0))):Calls prog 99 #[.slice (some ⟨b,0,none⟩) 2 2] W λe w'=>e=.returned (.int .i64 (orZ [x,y]))/\w'=W:=
 Calls.mono (k4u _ _ W (j9a D) sp0) (by rintro e w' ⟨r,rfl,rfl,h⟩;exact⟨rfl,h⟩)
theorem j2j (x y:LId)(W:World):Calls prog 93 #[.agg #[.int .u8 x.y,.int .i64 x.n],.agg #[.int .u8 y.y,.int .i64 y.n]] W λe w'=>e=.returned (.int .i64 (z5m x y))/\DG W w':=by
 rw[<-v1b x y]
 go_enter func93,ntmps93
 go_wp2
 go_region_held3 (λw'=>w'.cell? ⟨W.heap.size,0,none⟩=some (.int .u8 x.y)/\w'.cell? ⟨W.heap.size,1,none⟩=some (.int .i64 x.n)/\w'.cell? ⟨W.heap.size+1,0,none⟩=some (.int .u8 y.y)/\w'.cell? ⟨W.heap.size+1,1,none⟩=some (.int .i64 y.n)) (go_keep)
  (first|(go_at_call 145;refine(k5b _ _ _).mono ?_;rintro e w' ⟨rfl,rfl⟩)|(go_at_call 146;refine(cmpD _ _ _).mono ?_;rintro e w' ⟨rfl,rfl⟩)|(go_at_call 99;refine(orD _ 3 (y1e x.y y.y) (y1e x.n y.n) _ (j1y _ _ _ sp0)).mono ?_;rintro e w' ⟨rfl,rfl⟩)|(go_at_call 99;refine(orD _ 3 (y1e x.y y.y) (y1e x.n y.n) _ (hrow2 _ _ _ sp0)).mono ?_;rintro e w' ⟨rfl,rfl⟩))
 all_goals go_wp2
 all_goals go_ret
 all_goals refine⟨rfl,?_⟩
 all_goals repeat first|exact DG.refl _|refine DG.drew ?_|refine DG.alloc ?_ _
theorem k1p (x y:Cx)(W:World):Calls prog 92 #[j6h x,j6h y] W λe w'=>e=.returned (.int .i64 (y9o x y))/\DG W w':=by
 go_enter func92,ntmps92
 go_wp2_with (first|(go_at_call 93;refine(j2j ⟨_,_⟩ ⟨_,_⟩ _).mono ?_;rintro e w' ⟨rfl,D⟩;have Z:w'.cell? ⟨W.heap.size,2,none⟩=some (.int .u8 x.b.y):=D.cell (by simp[j6h]);have c2:w'.cell? ⟨W.heap.size,3,none⟩=some (.int .i64 x.b.n):=D.cell (by simp[j6h]);have c3:w'.cell? ⟨W.heap.size+1,2,none⟩=some (.int .u8 y.b.y):=D.cell (by simp[j6h]);have c4:w'.cell? ⟨W.heap.size+1,3,none⟩=some (.int .i64 y.b.n):=D.cell (by simp[j6h]))|(go_at_call 93;refine(j2j ⟨_,_⟩ ⟨_,_⟩ _).mono ?_;rintro e O ⟨rfl,I⟩))
 all_goals go_ret
 ·rename_i h
  refine⟨?_,(((DG.refl _).alloc _).alloc _).trans D⟩
  show Ending.returned (Value.int .i64 (z5m x.a y.a))=_
  unfold y9o;rw[if_pos (by simpa using h)]
 rename_i h
 refine⟨?_,((((DG.refl _).alloc _).alloc _).trans D).trans I⟩
 show Ending.returned (Value.int .i64 (z5m x.b y.b))=_
 unfold y9o;rw[if_neg (by simpa using h)]
end Go.Proofs.YtagnnbcnnmacmaaGreatDoor
namespace Go.Proofs
open Go.Shelf
def Tryz.sortCx_ren:Go.Shelf.Ren:=⟨fun|6=>91|15=>144|14=>143|28=>190|29=>191|20=>182|21=>183|22=>184|23=>185|24=>186|25=>187|26=>188|27=>189|46=>220|47=>221|48=>222|49=>223|50=>224|57=>239|n=>n,fun|22=>41|24=>100|25=>102|3=>3|39=>220|0=>0|53=>282|55=>284|4=>4|46=>275|45=>274|50=>279|5=>5|9=>9|66=>304|70=>308|76=>322|77=>323|n=>n,fun|n=>n⟩
theorem Tryz.sortCx:Go.Proofs.SlLaysF0.n6 Tryz.prog Tryz.sortCx_ren:={
 mixed:=by kernel_rfl
 f6:=⟨Tryz.f91.name,dd,Tryz.func91.trans (congrArg some kr0)⟩
 f14:=⟨Tryz.f143.name,dd,Tryz.func143.trans (congrArg some kr0)⟩
 f15:=Tryz.func144.trans (congrArg some kr0)
 f20:=⟨Tryz.f182.name,dd,Tryz.func182.trans (congrArg some kr0)⟩
 f21:=⟨Tryz.f183.name,dd,Tryz.func183.trans (congrArg some kr0)⟩
 f22:=⟨Tryz.f184.name,dd,Tryz.func184.trans (congrArg some kr0)⟩
 f23:=⟨Tryz.f185.name,dd,Tryz.func185.trans (congrArg some kr0)⟩
 f24:=⟨Tryz.f186.name,dd,Tryz.func186.trans (congrArg some kr0)⟩
 f25:=⟨Tryz.f187.name,dd,Tryz.func187.trans (congrArg some kr0)⟩
 f26:=⟨Tryz.f188.name,dd,Tryz.func188.trans (congrArg some kr0)⟩
 f27:=⟨Tryz.f189.name,dd,Tryz.func189.trans (congrArg some kr0)⟩
 f28:=Tryz.func190.trans (congrArg some kr0)
 f29:=Tryz.func191.trans (congrArg some kr0)
 f46:=⟨Tryz.f220.name,dd,Tryz.func220.trans (congrArg some kr0)⟩
 f47:=Tryz.func221.trans (congrArg some kr0)
 f48:=Tryz.func222.trans (congrArg some kr0)
 f49:=⟨Tryz.f223.name,dd,Tryz.func223.trans (congrArg some kr0)⟩
 f50:=⟨Tryz.f224.name,dd,Tryz.func224.trans (congrArg some kr0)⟩
 f57:=⟨Tryz.f239.name,dd,Tryz.func239.trans (congrArg some kr0)⟩
 t0:=Tryz.underlying0
 a0:=Tryz.isAgg0
 z0:=Tryz.sizeOf0
 v0:=Tryz.zeroValue0
 t3:=Tryz.underlying3
 a3:=Tryz.isAgg3
 z3:=Tryz.sizeOf3
 v3:=Tryz.zeroValue3
 t4:=Tryz.underlying4
 a4:=Tryz.isAgg4
 z4:=Tryz.sizeOf4
 v4:=Tryz.zeroValue4
 t5:=Tryz.underlying5
 a5:=Tryz.isAgg5
 z5:=Tryz.sizeOf5
 v5:=Tryz.zeroValue5
 t9:=Tryz.underlying9
 a9:=Tryz.isAgg9
 z9:=Tryz.sizeOf9
 v9:=Tryz.zeroValue9
 t22:=Tryz.underlying41
 a22:=Tryz.isAgg41
 z22:=Tryz.sizeOf41
 v22:=Tryz.zeroValue41
 t25:=Tryz.underlying102
 a25:=Tryz.isAgg102
 z25:=Tryz.sizeOf102
 v25:=Tryz.zeroValue102
 t39:=Tryz.underlying220
 a39:=Tryz.isAgg220
 z39:=Tryz.sizeOf220
 v39:=Tryz.zeroValue220
 t45:=Tryz.underlying274
 a45:=Tryz.isAgg274
 z45:=Tryz.sizeOf274
 v45:=Tryz.zeroValue274
 t46:=Tryz.underlying275
 a46:=Tryz.isAgg275
 z46:=Tryz.sizeOf275
 v46:=Tryz.zeroValue275
 t50:=Tryz.underlying279
 a50:=Tryz.isAgg279
 z50:=Tryz.sizeOf279
 v50:=Tryz.zeroValue279
 t53:=Tryz.underlying282
 a53:=Tryz.isAgg282
 z53:=Tryz.sizeOf282
 v53:=Tryz.zeroValue282
 t55:=Tryz.underlying284
 a55:=Tryz.isAgg284
 z55:=Tryz.sizeOf284
 v55:=Tryz.zeroValue284
 t66:=Tryz.underlying304
 a66:=Tryz.isAgg304
 z66:=Tryz.sizeOf304
 v66:=Tryz.zeroValue304
 t70:=Tryz.underlying308
 a70:=Tryz.isAgg308
 z70:=Tryz.sizeOf308
 v70:=Tryz.zeroValue308
 t76:=Tryz.underlying322
 a76:=Tryz.isAgg322
 z76:=Tryz.sizeOf322
 v76:=Tryz.zeroValue322
 t77:=Tryz.underlying323
 a77:=Tryz.isAgg323
 z77:=Tryz.sizeOf323
 v77:=Tryz.zeroValue323 }
def Tryz.sortId_ren:Go.Shelf.Ren:=⟨fun|6=>95|15=>144|14=>147|28=>190|29=>191|20=>194|21=>195|22=>196|23=>197|24=>198|25=>199|26=>200|27=>201|46=>225|47=>221|48=>222|49=>226|50=>227|57=>240|n=>n,fun|22=>42|24=>54|25=>161|3=>3|39=>220|0=>0|53=>282|55=>284|4=>4|46=>275|45=>274|50=>279|5=>5|9=>9|66=>304|70=>308|76=>322|77=>323|n=>n,fun|n=>n⟩
theorem Tryz.sortId:Go.Proofs.SlLaysF0.n6 Tryz.prog Tryz.sortId_ren:={
 mixed:=by kernel_rfl
 f6:=⟨Tryz.f95.name,dd,Tryz.func95.trans (congrArg some kr0)⟩
 f14:=⟨Tryz.f147.name,dd,Tryz.func147.trans (congrArg some kr0)⟩
 f15:=Tryz.func144.trans (congrArg some kr0)
 f20:=⟨Tryz.f194.name,dd,Tryz.func194.trans (congrArg some kr0)⟩
 f21:=⟨Tryz.f195.name,dd,Tryz.func195.trans (congrArg some kr0)⟩
 f22:=⟨Tryz.f196.name,dd,Tryz.func196.trans (congrArg some kr0)⟩
 f23:=⟨Tryz.f197.name,dd,Tryz.func197.trans (congrArg some kr0)⟩
 f24:=⟨Tryz.f198.name,dd,Tryz.func198.trans (congrArg some kr0)⟩
 f25:=⟨Tryz.f199.name,dd,Tryz.func199.trans (congrArg some kr0)⟩
 f26:=⟨Tryz.f200.name,dd,Tryz.func200.trans (congrArg some kr0)⟩
 f27:=⟨Tryz.f201.name,dd,Tryz.func201.trans (congrArg some kr0)⟩
 f28:=Tryz.func190.trans (congrArg some kr0)
 f29:=Tryz.func191.trans (congrArg some kr0)
 f46:=⟨Tryz.f225.name,dd,Tryz.func225.trans (congrArg some kr0)⟩
 f47:=Tryz.func221.trans (congrArg some kr0)
 f48:=Tryz.func222.trans (congrArg some kr0)
 f49:=⟨Tryz.f226.name,dd,Tryz.func226.trans (congrArg some kr0)⟩
 f50:=⟨Tryz.f227.name,dd,Tryz.func227.trans (congrArg some kr0)⟩
 f57:=⟨Tryz.f240.name,dd,Tryz.func240.trans (congrArg some kr0)⟩
 t0:=Tryz.underlying0
 a0:=Tryz.isAgg0
 z0:=Tryz.sizeOf0
 v0:=Tryz.zeroValue0
 t3:=Tryz.underlying3
 a3:=Tryz.isAgg3
 z3:=Tryz.sizeOf3
 v3:=Tryz.zeroValue3
 t4:=Tryz.underlying4
 a4:=Tryz.isAgg4
 z4:=Tryz.sizeOf4
 v4:=Tryz.zeroValue4
 t5:=Tryz.underlying5
 a5:=Tryz.isAgg5
 z5:=Tryz.sizeOf5
 v5:=Tryz.zeroValue5
 t9:=Tryz.underlying9
 a9:=Tryz.isAgg9
 z9:=Tryz.sizeOf9
 v9:=Tryz.zeroValue9
 t22:=Tryz.underlying42
 a22:=Tryz.isAgg42
 z22:=Tryz.sizeOf42
 v22:=Tryz.zeroValue42
 t25:=Tryz.underlying161
 a25:=Tryz.isAgg161
 z25:=Tryz.sizeOf161
 v25:=Tryz.zeroValue161
 t39:=Tryz.underlying220
 a39:=Tryz.isAgg220
 z39:=Tryz.sizeOf220
 v39:=Tryz.zeroValue220
 t45:=Tryz.underlying274
 a45:=Tryz.isAgg274
 z45:=Tryz.sizeOf274
 v45:=Tryz.zeroValue274
 t46:=Tryz.underlying275
 a46:=Tryz.isAgg275
 z46:=Tryz.sizeOf275
 v46:=Tryz.zeroValue275
 t50:=Tryz.underlying279
 a50:=Tryz.isAgg279
 z50:=Tryz.sizeOf279
 v50:=Tryz.zeroValue279
 t53:=Tryz.underlying282
 a53:=Tryz.isAgg282
 z53:=Tryz.sizeOf282
 v53:=Tryz.zeroValue282
 t55:=Tryz.underlying284
 a55:=Tryz.isAgg284
 z55:=Tryz.sizeOf284
 v55:=Tryz.zeroValue284
 t66:=Tryz.underlying304
 a66:=Tryz.isAgg304
 z66:=Tryz.sizeOf304
 v66:=Tryz.zeroValue304
 t70:=Tryz.underlying308
 a70:=Tryz.isAgg308
 z70:=Tryz.sizeOf308
 v70:=Tryz.zeroValue308
 t76:=Tryz.underlying322
 a76:=Tryz.isAgg322
 z76:=Tryz.sizeOf322
 v76:=Tryz.zeroValue322
 t77:=Tryz.underlying323
 a77:=Tryz.isAgg323
 z77:=Tryz.sizeOf323
 v77:=Tryz.zeroValue323 }
end Go.Proofs
namespace Go.Proofs.YtagnnbcnnmacmaaGreatDoor
open Go.Lw Go.G21 Go.G08 _root_.Go.Proofs.Tryz
open Go.Shelf Go.Sort
theorem j2m (f:Value)(W:World):Calls prog 182 #[.slice none 0 0,.int .i64 0,.int .i64 0,f] W λe w'=>e=.returned (.tuple #[])/\Fr [] W w':=by
 go_enter func182,ntmps182
 go_wp2
 refine wp_loop_rounds 1 ?_
 simp only[rounds_succ]
 go_wp2
 all_goals first|go_end0|((try simp only[Exit.inBlock,Exit.then]);refine bodyPost_ret (results_none U _ _ _) U ?_)
 all_goals exact⟨rfl,Fr.refl _ _⟩
theorem j3j (f:Value)(W:World):Calls prog 143 #[.slice none 0 0,.int .i64 0,.int .i64 0,.int .i64 0,f] W λe w'=>e=.returned (.tuple #[])/\Fr [] W w':=by
 go_enter func143,ntmps143
 go_wp2
 refine wp_loop_rounds 1 ?_
 simp only[rounds_succ]
 go_wp2_with (go_at_call 182;refine(j2m _ _).mono ?_;rintro e w' ⟨rfl,D⟩)
 all_goals first|go_end0|((try simp only[Exit.inBlock,Exit.then]);refine bodyPost_ret (results_none U _ _ _) U ?_)
 all_goals exact⟨rfl,D⟩
theorem j4h (W:World):Calls prog 144 #[.int .u64 0] W λe w'=>e=.returned (.int .i64 0)/\w'=W:=
 Any.bits_Len (SlLaysF0.n15.bits (P:=prog) (ρ:=sortCx_ren) { sortCx with }) (0:Int) W oo oo
theorem j5p (f:Value)(W:World):Calls prog 91 #[.slice none 0 0,f] W λe w'=>e=.returned (.tuple #[])/\Fr [] W w':=by
 go_enter func91,ntmps91
 go_wp2_with (first|(go_at_call 144;refine(j4h _).mono ?_;rintro e w' ⟨rfl,rfl⟩)|(go_at_call 143;refine(j3j _ _).mono ?_;rintro e w' ⟨rfl,D⟩))
 all_goals go_end0
 all_goals exact⟨rfl,D⟩
theorem j5o (f:Value)(W:World):Calls prog 194 #[.slice none 0 0,.int .i64 0,.int .i64 0,f] W λe w'=>e=.returned (.tuple #[])/\Fr [] W w':=by
 go_enter func194,ntmps194
 go_wp2
 refine wp_loop_rounds 1 ?_
 simp only[rounds_succ]
 go_wp2
 all_goals first|go_end0|((try simp only[Exit.inBlock,Exit.then]);refine bodyPost_ret (results_none U _ _ _) U ?_)
 all_goals exact⟨rfl,Fr.refl _ _⟩
theorem j2r (f:Value)(W:World):Calls prog 147 #[.slice none 0 0,.int .i64 0,.int .i64 0,.int .i64 0,f] W λe w'=>e=.returned (.tuple #[])/\Fr [] W w':=by
 go_enter func147,ntmps147
 go_wp2
 refine wp_loop_rounds 1 ?_
 simp only[rounds_succ]
 go_wp2_with (go_at_call 194;refine(j5o _ _).mono ?_;rintro e w' ⟨rfl,D⟩)
 all_goals first|go_end0|((try simp only[Exit.inBlock,Exit.then]);refine bodyPost_ret (results_none U _ _ _) U ?_)
 all_goals exact⟨rfl,D⟩
theorem j3l (W:World):Calls prog 144 #[.int .u64 0] W λe w'=>e=.returned (.int .i64 0)/\w'=W:=
 Any.bits_Len (SlLaysF0.n15.bits (P:=prog) (ρ:=sortId_ren) { sortId with }) (0:Int) W oo oo
theorem j5t (f:Value)(W:World):Calls prog 95 #[.slice none 0 0,f] W λe w'=>e=.returned (.tuple #[])/\Fr [] W w':=by
 go_enter func95,ntmps95
 go_wp2_with (first|(go_at_call 144;refine(j3l _).mono ?_;rintro e w' ⟨rfl,rfl⟩)|(go_at_call 147;refine(j2r _ _).mono ?_;rintro e w' ⟨rfl,D⟩))
 all_goals go_end0
 all_goals exact⟨rfl,D⟩
instance:Inhabited Cx:=⟨cx0⟩
instance:Inhabited LId:=⟨id0⟩
theorem j7z {w0:World}{T base:Nat}{v:Value}{l:List Cx}(O:Lw.Own z5p T base w0 v l)(hl:l.length<4611686018427387904)(hn:(l.map λc=>(c.a,c.b)).Nodup):Rets prog 91 #[v,.func (.func 92) #[] #[]] w0 λr w'=>r=.tuple #[]/\Lw.Own z5p T base w' v (y2k l)/\Fr (z0u v) w0 w':=
 Rets.mono (v1x (E:=z5p) (f:=91) sortCx U isAgg100 sizeOf100 y9o swoX (enters_of func92 kr0 U) (λx y W=>k1p x y W) (j5p _) O hl) (by
  rintro r w' ⟨rfl,l',Z,hs,D,I⟩
  rw[v7i hn Z hs]at D
  exact⟨rfl,D,I⟩)
theorem k0g {w0:World}{T base:Nat}{v:Value}{l:List LId}(O:Lw.Own z1j T base w0 v l)(hl:l.length<4611686018427387904):Rets prog 95 #[v,.func (.func 93) #[] #[]] w0 λr w'=>r=.tuple #[]/\Lw.Own z1j T base w' v (y2b l)/\Fr (z0u v) w0 w':=
 Rets.mono (v1x (E:=z1j) (f:=95) sortId U isAgg54 sizeOf54 z5m swoI (enters_of func93 kr0 U) (λx y W=>j2j x y W) (j5t _) O hl) (by
  rintro r w' ⟨rfl,l',Z,hs,D,I⟩
  rw[j1w Z hs]at D
  exact⟨rfl,D,I⟩)
open Go.Lw Go.G21 Go.G08 _root_.Go.Proofs.Tryz
theorem u5f (q:BdQ)(r:Int)(w0:World)(Z:BdAt w0 q)(D:BdOk q.p)(hr:-4<=r/\r<=4):Rets prog 129 #[.agg #[.slice q.f.1 q.f.2.1 q.f.2.2,.slice q.b.1 q.b.2.1 q.b.2.2],.int .i64 r] w0 λv w'=>(∃g l n,l=z3h q.p r/\n=l.length/\n<=320/\v=.tuple #[.slice (some ⟨g,0,none⟩) n n,.int .i64 0]/\w0.heap.size<=g/\Lw.Own z4h 201 w0.heap.size w' (.slice (some ⟨g,0,none⟩) n n) l)/\Fr [] w0 w':=
 Rets.mono (u2l q r w0 Z D hr) (by
  rintro v w' ⟨⟨g,rfl,I,O⟩,h3⟩
  have hN:=x2n D
  have a0:=y2u q.p r
  have a1:(z3h q.p r).length=(u2r q.p r).length:=z4w _
  exact⟨⟨g,_,_,rfl,rfl,oo,rfl,I,O⟩,h3⟩)
theorem j4m {l:List Hd}{ps:List LId}(hl:ps.length=l.length)(h:∀j,j<l.length->ps.getD j id0=(l.getD j hd0).id):ps=l.map Hd.id:=by
 refine List.ext_getElem (by simp[hl]) λj I O=>?_;have D:j<l.length:=by omega
 have:=h j D;rw[List.getD,List.getD,List.getElem?_eq_getElem I,List.getElem?_eq_getElem D]at this;simpa using this
theorem y5t (q:BdQ)(r:Int)(w0:World)(hB:BdAt w0 q)(hv:BdOk q.p)(hr:-4<=r/\r<=4):Rets prog 77 #[.agg #[.slice q.f.1 q.f.2.1 q.f.2.2,.slice q.b.1 q.b.2.1 q.b.2.2],.int .i64 r] w0 λv w'=>(∃g n,n=(z3h q.p r).length/\v=.slice (some ⟨g,0,none⟩) n n/\w0.heap.size<=g/\Lw.Own z1j 54 w0.heap.size w' v ((z3h q.p r).map Hd.id))/\Fr [] w0 w':=by
 obtain⟨⟨hf,hb⟩,h4,b2⟩:=z4b hv;refine we [(0,.agg #[.slice q.f.1 q.f.2.1 q.f.2.2,.slice q.b.1 q.b.2.1 q.b.2.2]),(1,.int .i64 r)] func77 U ntmps77 U (.c2 U U) ?_;have a4:=hB;refine sr (bx U (λg2 w1 b3 a5 q1 z1=>(asg U (nn (sr (z0m U a5 z6k (mv U ?_)))))));replace hB:=a4.ext q1;refine cl (ev2 U) (mkC func129) (u5f q _ _ hB hv hr) U ?_;rintro _ w2 ⟨⟨a3,l,n,a7,a2,b5,rfl,b0,hH⟩,q2⟩;have z2:=q2.size;have a6:=(hH.blk a3 (by simp[z0u])).2;refine mv U (xt U (xt U (asg U (asg U (kpL [(5,_)] (.cons U .nil) (nn (sr (mv U (lnS U underlying197 (z1g (m:=n) (c:=n) (id0) U z6q y6l U (λO w3 b1 I q3 z3=>(asg U (nn (sq (sr (mv U (lnS U underlying197 (mv U (nn (bl (lpK (ι:=Nat×List LId) [(7,_),(19,_),(20,_)] (λp=>[(21,.int .i64 (p.1:Int))]) (λp w'=>Fr [O] w3 w'/\p.1<=n/\p.2.length=n/\Lw.Own z1j 54 w0.heap.size w' (.slice (some ⟨O,0,none⟩) n n) p.2/\(∀j,j<p.1->p.2.getD j id0=(l.getD j hd0).id)) (λp=>n-p.1) (0,List.replicate n id0) (.c4 U U U U) ⟨Fr.refl _ _,⟨Nat.zero_le _,sp0,I.low oo,λj hj=>absurd hj sp0⟩⟩ ?_)))))))))))))))))))));rintro⟨i,ps⟩ w4 ⟨q4,⟨hi,D,I,a0⟩⟩;simp only at hi I a0 D;have z4:=q4.size;refine kpC [(7,_),(19,_),(20,_),(21,.int .i64 (i:Int))] (.c4 U U U U) (sr (lt' U (nn (sq (cd U (λc0=>?_) (λc0=>?_))))));refine sk (tn (sq (bl (sr (mv U ?_)))));replace hH:=(hH.ext q3).fr q4 (by intro k hk hb;simp[z0u]at hk hb;omega);refine z0x (hd0) U hH.sl U z3z z1m (λa9 a1=>?_);refine z1t U (a1 _ hH.sl) z6g (al u7r U (λg9 w5 b4 Z q5 z5=>(asg U (z0k (vs:=[_,_,_,_,_]) U Z z9n (λw6 Z q6 z6=>(nn (rg (mv U (mv U (fad U u1i (z2r (vs:=[_,_]) U Z z3x U ?_)))))))))));replace I:=(I.ext q5).fr q6 (by intro k hk hb;simp at hk;subst hk;have:=(I.blk _ hb);omega);refine y1c (p:=i) (E:=z1j) U U z6q (z6w (i:=i) (((l.getD i hd0).id)) U U I oo U y3o (λw7 I q7 z7=>(kpL [(7,_),(19,_),(20,_),(21,_)] (.c4 U U U U) (nl (bn' (tn (rg (z0q U (wi6 oo) (mv U (nl ?_))))))))));exact lpE ((i+1,ps.set i ((l.getD i hd0).id))) (.c4 U U U U) ⟨((Fr.refl [O] _).z4 q4 q5 q6 q7),⟨sm,by simp only[List.length_set];exact D,I,λj hj=>by
  simp only at hj ⊢;rw[z1i oo];split;rename_i e;subst e;rfl;exact a0 j oo⟩⟩ sm
 obtain rfl:i=n:=by omega
 refine ex (te (te (xh (tn (sr (mv U (asg U (kpL [(4,_)] (.cons U .nil) (nn (rt (r1 results77 U ?_)))))))))));have a8:=j4m (D.trans a2) (λj hj=>a0 j oo);subst a7;subst a8;exact⟨_,rfl,⟨O,_,a2,rfl,oo,I⟩,(q1.z3 q2 q3 q4)⟩
theorem x6u:z4i prog 46 8:=⟨λ_=>kr0,λ_=>kr0⟩
theorem k0l:BuildAt prog 44 [(0,1),(1,1),(2,1),(3,1)] [(.slice none 0 0),(.slice none 0 0),(.slice none 0 0),(.slice none 0 0)]:=BuildAt.struct underlying44 (λ_=>kr0) (λ_=>kr0)
theorem u7m:BuildAt prog 46 [(0,1),(1,2),(3,1),(4,4)] [(.int .i64 0),(.slice none 0 0),(.slice none 0 0),(.slice none 0 0),(.slice none 0 0),(.slice none 0 0),(.slice none 0 0),(.slice none 0 0)]:=BuildAt.struct underlying46 (λ_=>kr0) (λ_=>kr0)
theorem u9z:BuildAt prog 100 [(0,2),(2,2),(4,1)] [(.int .u8 0),(.int .i64 0),(.int .u8 0),(.int .i64 0),(.int .i64 0)]:=BuildAt.struct underlying100 (λ_=>kr0) (λ_=>kr0)
theorem k1w:z1r prog 44 4:=λ_=>kr0
theorem v1f:z1r prog 46 8:=λ_=>kr0
theorem k1h (w:World):(zeroValue 44).run prog w=.ok (.agg #[(.slice none 0 0),(.slice none 0 0),(.slice none 0 0),(.slice none 0 0)]) w:=kr0
theorem u9y (w:World):(zeroValue 46).run prog w=.ok (.agg #[(.int .i64 0),(.slice none 0 0),(.slice none 0 0),(.slice none 0 0),(.slice none 0 0),(.slice none 0 0),(.slice none 0 0),(.slice none 0 0)]) w:=kr0
theorem v9k (wS:World)(ka:MA)(m:MQ)(w0:World)(hM:MkM τd 156 wS ka w0 m)(hi:MInv m.p)(n9:m.cr.length<=100000000):Rets prog 38 #[.pointer (some ⟨ka.gk,0,none⟩)] w0 λr w'=>∃s:StQ,r=.agg #[.int .i64 s.rk,.slice s.q.f.1 s.q.f.2.1 s.q.f.2.2,.slice s.q.b.1 s.q.b.2.1 s.q.b.2.2,.slice s.yv.1 s.yv.2.1 s.yv.2.2,.slice s.fb.t.1 s.fb.t.2.1 s.fb.t.2.2,.slice s.fb.c.1 s.fb.c.2.1 s.fb.c.2.2,.slice s.fb.h.1 s.fb.h.2.1 s.fb.h.2.2,.slice s.fb.f.1 s.fb.f.2.1 s.fb.f.2.2]/\StO τd 100 wS.heap.size w' s/\s.p=stM m.p/\Fr [] wS w':=by
 have o5:=hM.fr.size;have D:=hM.k;have o3:=D.lt;have o4:=hM.ly;have f7:=hM.lt;have i3:=hM;have m8:=(hM.t.out.blk ka.gt (by simp[z0u])).2;have m7:=hM.c.lt;have i5:=λk D=>(hM.f.blk k D).2;have o0:(crM m.cr).length=m.cr.length:=List.length_map ..;have l3:∀j,(m.ts.getD j tq0).2.length<=2048:=λj=>Nat.le_trans (u8m m.ts j) hi.all;have hfl:m.fl.length<=2048:=by have x:=hi.cnt;have y:=hi.all;have z:m.p.fa=m.fl:=rfl;rw[z]at x;omega
 refine we [(0,.pointer (some ⟨ka.gk,0,none⟩))] func38 U ntmps38 U (.cons U .nil) ?_;have a4:=hM;refine sr (al u9y U (λg2 w1 o1 Z q1 z1=>(nn (sr (mv U (nlc U (fad U y4j ?_)))))));replace D:=D.ext q1;refine z0i U D U v3o ?_;replace hM:=a4.ext q1;refine j7v U hM.c underlying153 U (z1g (m:=0) (c:=(crM m.cr).length) (cx0) U u4q x9c U (λn7 w2 m3 ho q2 z2=>(asg U (kpL [(0,_),(2,_),(3,_)] (.c3 U U U) (nn (sq (sr (mv U (nlc U (fad U y4j ?_))))))))));replace D:=D.ext q2;refine z0i U D U v3o ?_;replace hM:=a4.ext (q1.n1 q2);refine u6e U hM.c underlying153 U (λk2 w3 m4 a3 q3 z3=>(nn (bl ?_)));replace ho:=ho.ext q3;refine lpK (ι:=Value×List Cx×List Cx) [(0,_),(2,_),(19,_)] (λp=>[(3,p.1)]) (λp w'=>Fr [] w1 w'/\(p.2.1++p.2.2).Perm m.cr/\Lw.Own z5p 100 w1.heap.size w' p.1 p.2.1/\CrIt w' k2 ka.gc (crM m.cr) p.2.2 none) (λp=>p.2.2.length) (_,[],m.cr) (.c4 U U U U) ⟨(q2.n1 q3),⟨List.Perm.refl _,ho.low oo,a3⟩⟩ ?_;rintro⟨vP,a7,rem⟩ w4 ⟨q4,⟨f2,ho,a3⟩⟩;simp only at f2 ho a3;have z4:=q4.size;refine kpC [(0,_),(2,_),(19,_),(3,vP)] (.c4 U U U U) ?_;have f9:=a3.neO ho;have k6:=a3.lt;have l0:=f2.length_eq;rw[List.length_append]at l0;refine sr (j0l U a3 U (λl1 c l2 g6 w5 a3 q5 z5=>?_) (λg6=>?_));refine xt U (nn (sq (ct U ?_)));have j1:((a7++[c])++(l1++l2)).Perm m.cr:=by
  rw[g6]at f2;refine List.Perm.trans ?_ f2;rw[List.append_assoc];exact List.Perm.append_left _ (show (c::(l1++l2)).Perm (l1++c::l2) from List.perm_middle.symm)
 refine sk (tn (bl (sr (u6y U a3 U (xt U (xt U (al j9w U (λg4 w6 o2 g1 q6 z6=>(z0k (vs:=[_,_,_,_]) U g1 j3e (λw7 g1 q7 z7=>?_))))))))));refine asg U (nn (rg (mv U (y1f U U underlying157 y3o (z2r (vs:=[_,_]) U g1 z3x U (y1f U U underlying157 y3o (z2r (vs:=[_,_]) U g1 z3x U (mv U (z1z (cs:=[_,_,_,_,_]) (ev3 U) u9z (z0f U (z0f U (z0f U z0t))) U ?_)))))))));refine z1w ([c]) (ev1 U) U u4q (λn8 w8 m5 i9 q8 z8=>?_);replace a3:=((a3.ext q6).fr q7 (by intro k D;simp at D;subst D;exact⟨oo,oo⟩)).ext q8;replace ho:=(((ho.fr q5 (by intro k D I;simp at D;subst D;first|exact(f9 _ I).2 U|(have:=ho.blk _ I;omega))).ext q6).fr q7 (by intro k D I;simp at D;subst D;first|exact(f9 _ I).2 U|(have:=ho.blk _ I;omega))).ext q8;have g0:=ho;refine z1x U ho i9.sl u4q (λo6 w9 ho q9 k9=>?_);have z9:=q9.size;replace a3:=a3.fr q9 (a3.neO g0);exact asg U (kpL [(0,_),(2,_),(3,_),(19,_)] (.c4 U U U U) (nl (bn' (lpE ((_,a7++[c],l1++l2)) (.c4 U U U U) ⟨((q4.z4 q5 q6 q7 q8).step q9 (λk D f7=>absurd (g0.blk k D).1 oo)),⟨j1,ho,a3.no⟩⟩ (by simp only[g6,List.length_append,List.length_cons];omega)))));refine xt U (nn (sq (cf U ?_)));rw[g6,List.append_nil]at f2;have k8:(a7.map λc=>(c.a,c.b)).Nodup:=(f2.map _).nodup_iff.2 (by have x:=i3.c.nodup;rwa [x2j]at x);have g7:y2k a7=y2k m.cr:=v7i (by have x:=i3.c.nodup;rwa [x2j]at x) ((z3i a7).trans f2) (x1v a7);refine ex (te (te (xh (tn (sr (mv U ?_))))));have j0:=ho;replace Z:=Z.ext q4;refine cl (ev2 U) (mkC func91) (j7z ho oo k8) U ?_;rintro _ l4 ⟨rfl,ho,h9⟩;replace Z:=Z.fr h9 (λD=>by have:=(j0.blk _ D).1;omega);have r4:=h9.size;replace hM:=a4.ext ((q1.n1 q4).step h9 (λk D f7=>absurd (j0.blk k D).1 oo));have D:=hM.k;refine nn (sq (sr (mv U (nlc U (fad U y4l (z0i U D U v0w (lnS U underlying40 (mv U (nn (bl (lpK (ι:=Nat×List TQ) [(0,_),(2,_),(3,_),(39,_),(40,_)] (λp=>[(41,.int .i64 (p.1:Int))]) (λp w'=>Fr [ka.gt] l4 w'/\p.1<=6/\(∀j,(p.2.getD j tq0).2=(m.ts.getD j tq0).2)/\MkM τd 156 wS ka w' { m with ts:=p.2 }) (λp=>6-p.1) (0,m.ts) (.c6 U U U U U U) ⟨Fr.refl _ _,⟨Nat.zero_le _,λ_=>rfl,hM⟩⟩ ?_)))))))))));rintro⟨i,ts⟩ o7 ⟨g9,⟨k7,e1,hM⟩⟩;simp only at k7 e1 hM;have r5:=g9.size;have a4:=hM;refine kpC [(0,_),(2,_),(3,_),(39,_),(40,_),(41,.int .i64 (i:Int))] (.c6 U U U U U U) ?_;have D:=hM.k;have g8:ts.length=6:=hM.lt;have m9:=hM.lt;refine sr (lt' U (nn (sq (cd U (λc1=>?_) (λc1=>?_)))));refine sk (tn (sq (bl (sr (mv U (z0x (tq0) U hM.t.out.sl U x1l z1m (λm2 i4=>?_)))))));refine z1a U (i4 _ hM.t.out.sl) y3h (asg U (asg U (nn ?_)));intro a h;refine z0h (some 7) (λwb w'=>Fr [] wb w') z2y ?_;intro j3 h0;have r7:=h0.size;replace hM:=hM.ext h0;replace D:=D.ext h0;have hC:Fr [] j3 j3:=Fr.refl _ _;have b7:=hM;have O:=D;refine z0d 0 h U λa h=>z0o 1 h U λa h=>z0c 2 h U y4l U λa h=>z0j 3 h U (λ_ hw=>O.ext hw) U v0w U λa h=>z0d 4 h U λa h=>z0d 5 h U λa h=>z0e 6 U (z0n h (z0a U z0g) (mkC func94) (v5r _ (ts.getD i tq0).2 _ (hM.t.ins i (by rw[hM.lt];omega)).sl (by rw[e1 i];have:=l3 i;omega)) ?_);rintro _ o8 ⟨i2,rfl,m6,hX,h1⟩ a h;have r8:=h1.size;replace hM:=hM.ext h1;replace hC:=hC.next h1;have i8:∀j,j<6->∀b∈z0u (slv (ts.getD j tq0).1),b∉z0u (slv (((some ⟨i2,0,none⟩,(ts.getD i tq0).2.length,(ts.getD i tq0).2.length)):SV)):=λj hj b I k4=>by have:=((a4.t.ins j (by rw[a4.lt];omega)).blk b I).2;simp[z0u,slv]at k4;omega
 refine z0b (z0e 7 U (y6s (p:=i) (i:=(i:Int)) (m:=6) (E:=z4z) h U U x1l oo oo oo U λa h=>?_));refine z0b (z0e 8 U (z1c (i:=i) (((some ⟨i2,0,none⟩,(ts.getD i tq0).2.length,(ts.getD i tq0).2.length),(ts.getD i tq0).2):TQ) h U hM.t.out (by rw[hM.lt];omega) U j5k λo9 h5 i0 _hz a h=>?_));replace hM:=hM.tabh mtd oo (hX.low oo) i8 h5 i0;have a4:=hM;clear h5;have r9:=i0.size;clear _hz;refine z1h (z0r ?_);clear hC b7 O;refine bk (h.sub (L':=[(0,_),(2,_),(3,_),(39,_),(40,_),(41,_)]) (.c6 U U U U U U)) (bn' (tn (rg (z0q U (wi6 oo) (mv U (nl ?_))))));exact lpE ((i+1,_)) (.c6 U U U U U U) ⟨((Fr.refl [ka.gt] _).z4 g9 h0 h1 i0),⟨sm,λj=>by
  simp only;rw[z1i oo];split;rename_i e;subst e;exact e1 _;exact e1 j,hM⟩⟩ sm
 obtain rfl:i=6:=by omega
 refine ex (te (te (xh (tn (sr (mv U (nlc U (fad U y3y (z0i U D U z8o ?_)))))))));replace ho:=ho.fr g9 (by intro k D I;simp at D;subst D;have:=ho.blk _ I;omega);replace Z:=Z.fr g9;refine cl (z0a U (z0a U z0g)) (mkC func95) (k0g hM.f (by show m.fl.length<_;omega)) U ?_;rintro _ p0 ⟨rfl,k5,g5⟩;have s1:=g5.size;replace hM:=hM.fallS mtd dd k5 g5;have a4:=hM;have D:=hM.k;replace ho:=ho.fr g5 (λk D I=>by have:=i5 k D;have:=(ho.blk k I).1;omega);have g3:=λk D=>(ho.blk k D).2;replace Z:=Z.fr g5 (λD=>by have:=i5 _ D;omega);have f5:=Z;refine kpL [(0,_),(2,_),(3,_)] (.c3 U U U) (nn (sq ?_));intro a h;refine z0h none (λwb w'=>Fr [] wb w') z2y ?_;intro i1 b1;have s2:=b1.size;replace hM:=hM.ext b1;replace D:=D.ext b1;replace ho:=ho.ext b1;have hC:Fr [] i1 i1:=Fr.refl _ _;have b7:=hM;have O:=D;have f6:=ho;refine z0d 0 h U λa h=>z0o 1 h U λa h=>z0c 2 h U y4l U λa h=>z0j 3 h U (λ_ hw=>O.ext hw) U v0w U λa h=>z0d 4 h U λa h=>z0d 6 h U λa h=>z0o 7 h U λa h=>z0c 8 h U z3s U λa h=>z1d (vs:=[_,_]) 9 h U (λ_ hw=>(O.ext hw)) z6k U U λa h=>z0d 10 h U λa h=>z0o 11 h U λa h=>z0c 12 h U z4k U λa h=>z0j 13 h U (λ_ hw=>O.ext hw) U na3 U λa h=>z0d 15 h U λa h=>z0o 16 h U λa h=>z0c 17 h U y3y U λa h=>z0j 18 h U (λ_ hw=>O.ext hw) U z8o U λa h=>z2n 5 21 kr0 U ?_ ?_;refine z0n h (z0a U z0g) (mkC func96) (v8k _ (y2k a7) _ ho.sl (by rw[(z3i a7).length_eq];omega)) ?_;rintro _ l5 ⟨e9,rfl,i7,a1,b6⟩ a h;have s3:=b6.size;replace hM:=hM.ext b6;replace D:=D.ext b6;replace ho:=ho.ext b6;replace hC:=hC.next b6;have h7:=(a1.blk e9 (by simp[z0u])).2;refine z0b (z2n 14 21 kr0 U ?_ ?_);refine z0n h (z0a U (z0a U z0g)) (mkC func77) (y5t m.q m.rk _ hM.b.at hi.B hi.rk) ?_;rintro _ l6 ⟨⟨b0,j2,h4,rfl,h2,hH⟩,q18⟩ a h;have s4:=q18.size;replace hM:=hM.ext q18;replace D:=D.ext q18;replace ho:=ho.ext q18;replace a1:=a1.ext q18;replace hC:=hC.next q18;have h3:=(hH.blk b0 (by simp[z0u])).2;refine z0b (z2n 19 21 kr0 U ?_ ?_);refine z0n h (z0a U z0g) x6v (z4m _ (y2b m.fl) _ hM.f.sl (by rw[(z4t _).length_eq];omega)) ?_;rintro _ l7 ⟨a8,rfl,f8,a2,e2⟩ a h;have s5:=e2.size;replace D:=D.ext e2;replace hC:=hC.next e2;have f1:=(a2.blk a8 (by simp[z0u])).2;refine z0b (z3m (cs:=[_,_,_,_]) 20 h (z0a U (z0a U (z0a U (z0a U z0g)))) k0l (z0f U (z0f U (z0f U (z0f U z0t)))) U U λa h=>z0e 21 U ?_);refine z1f h k1h U λp1 a0 b8 hz a h=>?_;obtain⟨b2,hg⟩:∃g,g=l7.heap.size:=⟨_,rfl⟩;rw[<-hg]at a0 h hz;have h8.gk_8:ka.gk<b2:=by have:=D.lt;omega
 have s6:=b8.size;replace D:=D.ext b8;replace ho:=ho.ext (e2.n1 b8);replace a1:=a1.ext (e2.n1 b8);replace hH:=hH.ext (e2.n1 b8);replace a2:=a2.ext b8;replace hC:=hC.next b8;refine z0b (z0e 22 U (z0v h U a0 U k1w λl8 a6 b9 hz a h=>?_));have s7:=b9.size;replace D:=D.fr b9;replace ho:=ho.fr b9 (by intro k D I;simp at D;subst D;have:=g3 _ I;omega);replace a1:=a1.fr b9 (by intro k D I;simp[z0u]at D I;omega);replace hH:=hH.fr b9 (by intro k D I;simp[z0u]at D I;omega);replace a2:=a2.fr b9 (by intro k D I;simp[z0u]at D I;omega);replace hC:=hC.sp b9;clear a0 hz;have a0:Blk l8 b2 _ [_,_,_,_]:=a6;clear a6;refine z0b (z0r ?_);clear hC b7 O f6;refine bk (h.sub (L':=[(0,_),(2,_),(8,_)]) (.c3 U U U)) (tn (sq ?_));replace Z:=(Z.ext (b1.n4 b6 q18 e2 b8)).fr b9;intro a h;refine z0h none (λwb w'=>Fr [g2] wb w') z2y ?_;intro j4 e3;have s8:=e3.size;replace D:=D.ext e3;replace Z:=Z.ext e3;replace a0:=a0.ext e3;have hC:Fr [g2] j4 j4:=Fr.refl _ _;have O:=D;have a9:=Z;have a5:=a0;refine z0d 0 h U λa h=>z0o 1 h U λa h=>z0c 2 h U z4k U λa h=>z0j 3 h U (λ_ hw=>O.fr hw se) U na3 U λa h=>z0d 4 h U λa h=>z0o 5 h U λa h=>z0c 6 h U z3s U λa h=>z1d (vs:=[_,_]) 7 h U (λ_ hw=>(O.fr hw se)) z6k U U λa h=>z0d 8 h U λa h=>z0o 9 h U λa h=>z0c 10 h U z3r U λa h=>?_;refine z0j 11 h U (λ_ hw=>O.fr hw se) U y6b U λa h=>z0z 12 h U (λ_ hw=>a5.fr hw se) u7d U λa h=>z3m (cs:=[_,_,_,_,_,_,_,_]) 13 h (z0a U (z0a U (z0a U (z0a U z0g)))) u7m (z0f U (z0f U (z0f U (z0f U z0t)))) U U λa h=>z0e 14 U ?_;refine z0v h U Z U v1f λj5 a6 c0 hz a h=>?_;have s9:=c0.size;replace D:=D.fr c0;replace a0:=a0.fr c0;replace hC:=hC.sp c0;clear Z hz;have Z:Blk j5 g2 _ [_,_,_,_,_,_,_,_]:=a6;clear a6;refine z0b (z0r ?_);clear hC O a9 a5;refine bk (h.sub (L':=[(2,_)]) (.cons U .nil)) (tn (rt (rC results38 U Z x6u  ?_)));replace a1:=(a1.ext e3).fr c0 (by intro k D I;simp[z0u]at D I;omega);replace hH:=(hH.ext e3).fr c0 (by intro k D I;simp[z0u]at D I;omega);replace a2:=(a2.ext e3).fr c0 (by intro k D I;simp[z0u]at D I;omega);have b3:=(b1.z6 b6 q18 e2 b8 b9 e3);have b4:Fr [] _ j5:=(Fr.refl _ _);have b5:=a4.ext b3;have hW:=(b5.toW.off (f5.ext b3) dd c0).ext b4;have f0:=(b5.fr.fr.step c0 so).next b4;have f3:z2o ts=z2o m.ts:=y7d (g8.trans f7.symm) (λj _=>by rw[e1 j]);exact⟨_,rfl,⟨m.rk,m.q,(some ⟨ka.gy,0,none⟩,6,ka.cy),m.ys,⟨(some ⟨ka.gt,0,none⟩,6,ka.ct),(some ⟨e9,0,none⟩,_,_),(some ⟨b0,0,none⟩,_,_),(some ⟨a8,0,none⟩,_,_),ts,y2k a7,_,y2b m.fl⟩⟩,rfl,⟨hW.b,hW.y,hW.t,a1.low oo,hH.low oo,a2.low oo,(λk D=>by
  have h6:k=b0:=by simpa[z0u,slv] using D
  refine⟨λq hq I=>?_,λt ht l hl I=>?_,λI=>?_⟩;rcases List.mem_append.1 hq with hq|hq
  have:=((a4.b.f.2 q hq).blk _ I).2;omega;have:=((a4.b.b.2 q hq).blk _ I).2;omega;obtain⟨i,hi,rfl⟩:=List.getElem_of_mem ht;have e:ts.getD i tq0=ts[i]:=by rw[List.getD,List.getElem?_eq_getElem hi];rfl
  rw[<-e]at hl;have:=((a4.t.lps i hi l hl).1.blk _ I).2;omega;have:k=a8:=by simpa[z0u,slv] using I
  omega)⟩,by show (⟨m.rk,m.q.p,m.ys.map YQ.p,⟨z2o ts,y2k a7,(z3h m.q.p m.rk).map Hd.id,y2b m.fl⟩⟩:St)=_;rw[f3,g7];rfl,f0⟩
 refine z1f h k1h U λp2 a0 c9 hz a h=>?_;obtain⟨b2,hg⟩:∃g,g=l6.heap.size:=⟨_,rfl⟩;rw[<-hg]at a0 h hz;have h8.gk_8:ka.gk<b2:=by have:=D.lt;omega
 have t8:=c9.size;replace hM:=hM.ext c9;replace hC:=hC.next c9;refine z0b (z0e 19 U (z0n h (z0a U z0g) x6v (z4m _ (y2b m.fl) _ hM.f.sl (by rw[(z4t _).length_eq];omega)) ?_));rintro _ p3 ⟨a8,rfl,f8,a2,d0⟩ a h;have t9:=d0.size;replace D:=D.ext (c9.n1 d0);replace ho:=ho.ext (c9.n1 d0);replace a1:=a1.ext (c9.n1 d0);replace hH:=hH.ext (c9.n1 d0);replace a0:=a0.ext d0;replace hC:=hC.next d0;have f1:=(a2.blk a8 (by simp[z0u])).2;refine z0b (z3m (cs:=[_,_,_,_]) 20 h (z0a U (z0a U (z0a U (z0a U z0g)))) k0l (z0f U (z0f U (z0f U (z0f U z0t)))) U U λa h=>z0e 22 U ?_);refine z0v h U a0 U k1w λl9 a6 d1 hz a h=>?_;have u0:=d1.size;replace D:=D.fr d1;replace ho:=ho.fr d1 (by intro k D I;simp at D;subst D;have:=g3 _ I;omega);replace a1:=a1.fr d1 (by intro k D I;simp[z0u]at D I;omega);replace hH:=hH.fr d1 (by intro k D I;simp[z0u]at D I;omega);replace a2:=a2.fr d1 (by intro k D I;simp[z0u]at D I;omega);replace hC:=hC.sp d1;clear a0 hz;have a0:Blk l9 b2 _ [_,_,_,_]:=a6;clear a6;refine z0b (z0r ?_);clear hC b7 O f6;refine bk (h.sub (L':=[(0,_),(2,_),(8,_)]) (.c3 U U U)) (tn (sq ?_));replace Z:=(Z.ext (b1.n4 b6 q18 c9 d0)).fr d1;intro a h;refine z0h none (λwb w'=>Fr [g2] wb w') z2y ?_;intro j6 e4;have u1:=e4.size;replace D:=D.ext e4;replace Z:=Z.ext e4;replace a0:=a0.ext e4;have hC:Fr [g2] j6 j6:=Fr.refl _ _;have O:=D;have a9:=Z;have a5:=a0;refine z0d 0 h U λa h=>z0o 1 h U λa h=>z0c 2 h U z4k U λa h=>z0j 3 h U (λ_ hw=>O.fr hw se) U na3 U λa h=>z0d 4 h U λa h=>z0o 5 h U λa h=>z0c 6 h U z3s U λa h=>z1d (vs:=[_,_]) 7 h U (λ_ hw=>(O.fr hw se)) z6k U U λa h=>z0d 8 h U λa h=>z0o 9 h U λa h=>z0c 10 h U z3r U λa h=>?_;refine z0j 11 h U (λ_ hw=>O.fr hw se) U y6b U λa h=>z0z 12 h U (λ_ hw=>a5.fr hw se) u7d U λa h=>z3m (cs:=[_,_,_,_,_,_,_,_]) 13 h (z0a U (z0a U (z0a U (z0a U z0g)))) u7m (z0f U (z0f U (z0f U (z0f U z0t)))) U U λa h=>z0e 14 U ?_;refine z0v h U Z U v1f λj7 a6 d3 hz a h=>?_;have u2:=d3.size;replace D:=D.fr d3;replace a0:=a0.fr d3;replace hC:=hC.sp d3;clear Z hz;have Z:Blk j7 g2 _ [_,_,_,_,_,_,_,_]:=a6;clear a6;refine z0b (z0r ?_);clear hC O a9 a5;refine bk (h.sub (L':=[(2,_)]) (.cons U .nil)) (tn (rt (rC results38 U Z x6u  ?_)));replace a1:=(a1.ext e4).fr d3 (by intro k D I;simp[z0u]at D I;omega);replace hH:=(hH.ext e4).fr d3 (by intro k D I;simp[z0u]at D I;omega);replace a2:=(a2.ext e4).fr d3 (by intro k D I;simp[z0u]at D I;omega);have b3:=(b1.z6 b6 q18 c9 d0 d1 e4);have b4:Fr [] _ j7:=(Fr.refl _ _);have b5:=a4.ext b3;have hW:=(b5.toW.off (f5.ext b3) dd d3).ext b4;have f0:=(b5.fr.fr.step d3 so).next b4;have f3:z2o ts=z2o m.ts:=y7d (g8.trans f7.symm) (λj _=>by rw[e1 j]);exact⟨_,rfl,⟨m.rk,m.q,(some ⟨ka.gy,0,none⟩,6,ka.cy),m.ys,⟨(some ⟨ka.gt,0,none⟩,6,ka.ct),(some ⟨e9,0,none⟩,_,_),(some ⟨b0,0,none⟩,_,_),(some ⟨a8,0,none⟩,_,_),ts,y2k a7,_,y2b m.fl⟩⟩,rfl,⟨hW.b,hW.y,hW.t,a1.low oo,hH.low oo,a2.low oo,(λk D=>by
  have h6:k=b0:=by simpa[z0u,slv] using D
  refine⟨λq hq I=>?_,λt ht l hl I=>?_,λI=>?_⟩;rcases List.mem_append.1 hq with hq|hq
  have:=((a4.b.f.2 q hq).blk _ I).2;omega;have:=((a4.b.b.2 q hq).blk _ I).2;omega;obtain⟨i,hi,rfl⟩:=List.getElem_of_mem ht;have e:ts.getD i tq0=ts[i]:=by rw[List.getD,List.getElem?_eq_getElem hi];rfl
  rw[<-e]at hl;have:=((a4.t.lps i hi l hl).1.blk _ I).2;omega;have:k=a8:=by simpa[z0u,slv] using I
  omega)⟩,by show (⟨m.rk,m.q.p,m.ys.map YQ.p,⟨z2o ts,y2k a7,(z3h m.q.p m.rk).map Hd.id,y2b m.fl⟩⟩:St)=_;rw[f3,g7];rfl,f0⟩
 refine z1f h k1h U λp4 a0 e5 hz a h=>?_;obtain⟨b2,hg⟩:∃g,g=l5.heap.size:=⟨_,rfl⟩;rw[<-hg]at a0 h hz;have h8.gk_8:ka.gk<b2:=by have:=D.lt;omega
 have u3:=e5.size;replace hM:=hM.ext e5;replace hC:=hC.next e5;refine z0b (z0e 14 U (z0n h (z0a U (z0a U z0g)) (mkC func77) (y5t m.q m.rk _ hM.b.at hi.B hi.rk) ?_));rintro _ p5 ⟨⟨b0,j2,h4,rfl,h2,hH⟩,q30⟩ a h;have u4:=q30.size;replace hM:=hM.ext q30;replace hC:=hC.next q30;have h3:=(hH.blk b0 (by simp[z0u])).2;refine z0b (z0e 19 U (z0n h (z0a U z0g) x6v (z4m _ (y2b m.fl) _ hM.f.sl (by rw[(z4t _).length_eq];omega)) ?_));rintro _ p6 ⟨a8,rfl,f8,a2,d4⟩ a h;have u5:=d4.size;replace D:=D.ext (e5.n2 q30 d4);replace ho:=ho.ext (e5.n2 q30 d4);replace a1:=a1.ext (e5.n2 q30 d4);replace a0:=a0.ext (q30.n1 d4);replace hH:=hH.ext d4;replace hC:=hC.next d4;have f1:=(a2.blk a8 (by simp[z0u])).2;refine z0b (z3m (cs:=[_,_,_,_]) 20 h (z0a U (z0a U (z0a U (z0a U z0g)))) k0l (z0f U (z0f U (z0f U (z0f U z0t)))) U U λa h=>z0e 22 U ?_);refine z0v h U a0 U k1w λm0 a6 d5 hz a h=>?_;have u6:=d5.size;replace D:=D.fr d5;replace ho:=ho.fr d5 (by intro k D I;simp at D;subst D;have:=g3 _ I;omega);replace a1:=a1.fr d5 (by intro k D I;simp[z0u]at D I;omega);replace hH:=hH.fr d5 (by intro k D I;simp[z0u]at D I;omega);replace a2:=a2.fr d5 (by intro k D I;simp[z0u]at D I;omega);replace hC:=hC.sp d5;clear a0 hz;have a0:Blk m0 b2 _ [_,_,_,_]:=a6;clear a6;refine z0b (z0r ?_);clear hC b7 O f6;refine bk (h.sub (L':=[(0,_),(2,_),(8,_)]) (.c3 U U U)) (tn (sq ?_));replace Z:=(Z.ext (b1.n4 b6 e5 q30 d4)).fr d5;intro a h;refine z0h none (λwb w'=>Fr [g2] wb w') z2y ?_;intro j8 e6;have u7:=e6.size;replace D:=D.ext e6;replace Z:=Z.ext e6;replace a0:=a0.ext e6;have hC:Fr [g2] j8 j8:=Fr.refl _ _;have O:=D;have a9:=Z;have a5:=a0;refine z0d 0 h U λa h=>z0o 1 h U λa h=>z0c 2 h U z4k U λa h=>z0j 3 h U (λ_ hw=>O.fr hw se) U na3 U λa h=>z0d 4 h U λa h=>z0o 5 h U λa h=>z0c 6 h U z3s U λa h=>z1d (vs:=[_,_]) 7 h U (λ_ hw=>(O.fr hw se)) z6k U U λa h=>z0d 8 h U λa h=>z0o 9 h U λa h=>z0c 10 h U z3r U λa h=>?_;refine z0j 11 h U (λ_ hw=>O.fr hw se) U y6b U λa h=>z0z 12 h U (λ_ hw=>a5.fr hw se) u7d U λa h=>z3m (cs:=[_,_,_,_,_,_,_,_]) 13 h (z0a U (z0a U (z0a U (z0a U z0g)))) u7m (z0f U (z0f U (z0f U (z0f U z0t)))) U U λa h=>z0e 14 U ?_;refine z0v h U Z U v1f λj9 a6 d6 hz a h=>?_;have u9:=d6.size;replace D:=D.fr d6;replace a0:=a0.fr d6;replace hC:=hC.sp d6;clear Z hz;have Z:Blk j9 g2 _ [_,_,_,_,_,_,_,_]:=a6;clear a6;refine z0b (z0r ?_);clear hC O a9 a5;refine bk (h.sub (L':=[(2,_)]) (.cons U .nil)) (tn (rt (rC results38 U Z x6u  ?_)));replace a1:=(a1.ext e6).fr d6 (by intro k D I;simp[z0u]at D I;omega);replace hH:=(hH.ext e6).fr d6 (by intro k D I;simp[z0u]at D I;omega);replace a2:=(a2.ext e6).fr d6 (by intro k D I;simp[z0u]at D I;omega);have b3:=(b1.z6 b6 e5 q30 d4 d5 e6);have b4:Fr [] _ j9:=(Fr.refl _ _);have b5:=a4.ext b3;have hW:=(b5.toW.off (f5.ext b3) dd d6).ext b4;have f0:=(b5.fr.fr.step d6 so).next b4;have f3:z2o ts=z2o m.ts:=y7d (g8.trans f7.symm) (λj _=>by rw[e1 j]);exact⟨_,rfl,⟨m.rk,m.q,(some ⟨ka.gy,0,none⟩,6,ka.cy),m.ys,⟨(some ⟨ka.gt,0,none⟩,6,ka.ct),(some ⟨e9,0,none⟩,_,_),(some ⟨b0,0,none⟩,_,_),(some ⟨a8,0,none⟩,_,_),ts,y2k a7,_,y2b m.fl⟩⟩,rfl,⟨hW.b,hW.y,hW.t,a1.low oo,hH.low oo,a2.low oo,(λk D=>by
  have h6:k=b0:=by simpa[z0u,slv] using D
  refine⟨λq hq I=>?_,λt ht l hl I=>?_,λI=>?_⟩;rcases List.mem_append.1 hq with hq|hq
  have:=((a4.b.f.2 q hq).blk _ I).2;omega;have:=((a4.b.b.2 q hq).blk _ I).2;omega;obtain⟨i,hi,rfl⟩:=List.getElem_of_mem ht;have e:ts.getD i tq0=ts[i]:=by rw[List.getD,List.getElem?_eq_getElem hi];rfl
  rw[<-e]at hl;have:=((a4.t.lps i hi l hl).1.blk _ I).2;omega;have:k=a8:=by simpa[z0u,slv] using I
  omega)⟩,by show (⟨m.rk,m.q.p,m.ys.map YQ.p,⟨z2o ts,y2k a7,(z3h m.q.p m.rk).map Hd.id,y2b m.fl⟩⟩:St)=_;rw[f3,g7];rfl,f0⟩
 refine z1f h k1h U λp7 a0 f4 hz a h=>?_;obtain⟨b2,hg⟩:∃g,g=i1.heap.size:=⟨_,rfl⟩;rw[<-hg]at a0 h hz;have h8.gk_8:ka.gk<b2:=by have:=D.lt;omega
 have v8:=f4.size;replace ho:=ho.ext f4;replace hC:=hC.next f4;refine z0b (z0e 5 U (z0n h (z0a U z0g) (mkC func96) (v8k _ (y2k a7) _ ho.sl (by rw[(z3i a7).length_eq];omega)) ?_));rintro _ p8 ⟨e9,rfl,i7,a1,e7⟩ a h;have v9:=e7.size;replace hM:=hM.ext (f4.n1 e7);replace hC:=hC.next e7;have h7:=(a1.blk e9 (by simp[z0u])).2;refine z0b (z0e 14 U (z0n h (z0a U (z0a U z0g)) (mkC func77) (y5t m.q m.rk _ hM.b.at hi.B hi.rk) ?_));rintro _ p9 ⟨⟨b0,j2,h4,rfl,h2,hH⟩,q37⟩ a h;have x0:=q37.size;replace hM:=hM.ext q37;replace hC:=hC.next q37;have h3:=(hH.blk b0 (by simp[z0u])).2;refine z0b (z0e 19 U (z0n h (z0a U z0g) x6v (z4m _ (y2b m.fl) _ hM.f.sl (by rw[(z4t _).length_eq];omega)) ?_));rintro _ q0 ⟨a8,rfl,f8,a2,d7⟩ a h;have x1:=d7.size;replace D:=D.ext (f4.n3 e7 q37 d7);replace ho:=ho.ext (e7.n2 q37 d7);replace a0:=a0.ext (e7.n2 q37 d7);replace a1:=a1.ext (q37.n1 d7);replace hH:=hH.ext d7;replace hC:=hC.next d7;have f1:=(a2.blk a8 (by simp[z0u])).2;refine z0b (z3m (cs:=[_,_,_,_]) 20 h (z0a U (z0a U (z0a U (z0a U z0g)))) k0l (z0f U (z0f U (z0f U (z0f U z0t)))) U U λa h=>z0e 22 U ?_);refine z0v h U a0 U k1w λm1 a6 d9 hz a h=>?_;have x2:=d9.size;replace D:=D.fr d9;replace ho:=ho.fr d9 (by intro k D I;simp at D;subst D;have:=g3 _ I;omega);replace a1:=a1.fr d9 (by intro k D I;simp[z0u]at D I;omega);replace hH:=hH.fr d9 (by intro k D I;simp[z0u]at D I;omega);replace a2:=a2.fr d9 (by intro k D I;simp[z0u]at D I;omega);replace hC:=hC.sp d9;clear a0 hz;have a0:Blk m1 b2 _ [_,_,_,_]:=a6;clear a6;refine z0b (z0r ?_);clear hC b7 O f6;refine bk (h.sub (L':=[(0,_),(2,_),(8,_)]) (.c3 U U U)) (tn (sq ?_));replace Z:=(Z.ext (b1.n4 f4 e7 q37 d7)).fr d9;intro a h;refine z0h none (λwb w'=>Fr [g2] wb w') z2y ?_;intro k0 e8;have x3:=e8.size;replace D:=D.ext e8;replace Z:=Z.ext e8;replace a0:=a0.ext e8;have hC:Fr [g2] k0 k0:=Fr.refl _ _;have O:=D;have a9:=Z;have a5:=a0;refine z0d 0 h U λa h=>z0o 1 h U λa h=>z0c 2 h U z4k U λa h=>z0j 3 h U (λ_ hw=>O.fr hw se) U na3 U λa h=>z0d 4 h U λa h=>z0o 5 h U λa h=>z0c 6 h U z3s U λa h=>z1d (vs:=[_,_]) 7 h U (λ_ hw=>(O.fr hw se)) z6k U U λa h=>z0d 8 h U λa h=>z0o 9 h U λa h=>z0c 10 h U z3r U λa h=>?_;refine z0j 11 h U (λ_ hw=>O.fr hw se) U y6b U λa h=>z0z 12 h U (λ_ hw=>a5.fr hw se) u7d U λa h=>z3m (cs:=[_,_,_,_,_,_,_,_]) 13 h (z0a U (z0a U (z0a U (z0a U z0g)))) u7m (z0f U (z0f U (z0f U (z0f U z0t)))) U U λa h=>z0e 14 U ?_;refine z0v h U Z U v1f λk1 a6 e0 hz a h=>?_;have x4:=e0.size;replace D:=D.fr e0;replace a0:=a0.fr e0;replace hC:=hC.sp e0;clear Z hz;have Z:Blk k1 g2 _ [_,_,_,_,_,_,_,_]:=a6;clear a6;refine z0b (z0r ?_);clear hC O a9 a5;refine bk (h.sub (L':=[(2,_)]) (.cons U .nil)) (tn (rt (rC results38 U Z x6u  ?_)));replace a1:=(a1.ext e8).fr e0 (by intro k D I;simp[z0u]at D I;omega);replace hH:=(hH.ext e8).fr e0 (by intro k D I;simp[z0u]at D I;omega);replace a2:=(a2.ext e8).fr e0 (by intro k D I;simp[z0u]at D I;omega);have b3:=(b1.z6 f4 e7 q37 d7 d9 e8);have b4:Fr [] _ k1:=(Fr.refl _ _);have b5:=a4.ext b3;have hW:=(b5.toW.off (f5.ext b3) dd e0).ext b4;have f0:=(b5.fr.fr.step e0 so).next b4;have f3:z2o ts=z2o m.ts:=y7d (g8.trans f7.symm) (λj _=>by rw[e1 j]);exact⟨_,rfl,⟨m.rk,m.q,(some ⟨ka.gy,0,none⟩,6,ka.cy),m.ys,⟨(some ⟨ka.gt,0,none⟩,6,ka.ct),(some ⟨e9,0,none⟩,_,_),(some ⟨b0,0,none⟩,_,_),(some ⟨a8,0,none⟩,_,_),ts,y2k a7,_,y2b m.fl⟩⟩,rfl,⟨hW.b,hW.y,hW.t,a1.low oo,hH.low oo,a2.low oo,(λk D=>by
  have h6:k=b0:=by simpa[z0u,slv] using D
  refine⟨λq hq I=>?_,λt ht l hl I=>?_,λI=>?_⟩;rcases List.mem_append.1 hq with hq|hq
  have:=((a4.b.f.2 q hq).blk _ I).2;omega;have:=((a4.b.b.2 q hq).blk _ I).2;omega;obtain⟨i,hi,rfl⟩:=List.getElem_of_mem ht;have e:ts.getD i tq0=ts[i]:=by rw[List.getD,List.getElem?_eq_getElem hi];rfl
  rw[<-e]at hl;have:=((a4.t.lps i hi l hl).1.blk _ I).2;omega;have:k=a8:=by simpa[z0u,slv] using I
  omega)⟩,by show (⟨m.rk,m.q.p,m.ys.map YQ.p,⟨z2o ts,y2k a7,(z3h m.q.p m.rk).map Hd.id,y2b m.fl⟩⟩:St)=_;rw[f3,g7];rfl,f0⟩
theorem v7p (w0:World):Rets prog 121 #[] w0 λr w'=>(∃g,r=(.slice (some ⟨g,0,none⟩) 6 6)/\w0.heap.size<=g/\Lw.Own z4z 116 w0.heap.size w' (.slice (some ⟨g,0,none⟩) 6 6) (List.replicate 6 tq0))/\Fr [] w0 w':=by
 exact we [] func121 U ntmps121 U .nil (sr (asg U (nn (sr (z1g (m:=6) (c:=6) (tq0) U x1l j9f U (λD w1 I O Z z1=>(asg U (nn (rt (r1 results121 U ⟨_,rfl,⟨D,rfl,oo,O.low oo⟩,Z⟩))))))))))
theorem x4x (w0:World):Rets prog 73 #[] w0 λr w'=>(∃g,r=.agg #[(.slice (some ⟨g,0,none⟩) 6 6),.slice none 0 0,.slice none 0 0,.slice none 0 0]/\w0.heap.size<=g/\Lw.Own z4z 116 w0.heap.size w' (.slice (some ⟨g,0,none⟩) 6 6) (List.replicate 6 tq0))/\Fr [] w0 w':=by
 refine we [] func73 U ntmps73 U .nil (sr (al k1h U (λg0 w1 a0 D q1 z1=>(nn (sr (cl z0g (mkC func121) (v7p _) U ?_))))));rintro _ w2 ⟨⟨Z,rfl,a1,I⟩,q2⟩;refine z1z (cs:=[_,_,_,_]) (ev1 U) k0l (z0f U z0t) U ?_;replace D:=D.ext q2;refine z0k U D k1w (λw3 D O z3=>?_) (hl:=rfl);refine nn (rt (rC results73 U D u7d  ?_));replace I:=I.fr O (by intro k hk hb;simp[z0u]at hk hb;omega);exact⟨_,rfl,⟨Z,rfl,oo,I.low oo⟩,(q1.z2 q2 O)⟩
abbrev st0 (gy gt:Nat):StQ:=(⟨0,⟨sv0,sv0,[],[]⟩,(some ⟨gy,0,none⟩,6,6),List.replicate 6 yq0,⟨(some ⟨gt,0,none⟩,6,6),sv0,sv0,sv0,List.replicate 6 tq0,[],[],[]⟩⟩:StQ)
theorem j9s {w:World}{O I b:Nat}(hy:Lw.Own z3l 146 b w (.slice (some ⟨O,0,none⟩) 6 6) (List.replicate 6 yq0))(ht:Lw.Own z4z 116 b w (.slice (some ⟨I,0,none⟩) 6 6) (List.replicate 6 tq0)):StO τd 100 b w (st0 O I):=by
 have ey:∀i,(st0 O I).ys.getD i yq0=yq0:=λi=>by
  show (List.replicate 6 yq0).getD i yq0=yq0;rw[List.getD,List.getElem?_replicate];split<;>rfl
 have et:∀i,(st0 O I).fb.ts.getD i tq0=tq0:=λi=>by
  show (List.replicate 6 tq0).getD i tq0=tq0;rw[List.getD,List.getElem?_replicate];split<;>rfl
 refine⟨⟨⟨Own.nil w,λq D=>(by cases D)⟩,⟨Own.nil w,λq D=>(by cases D)⟩⟩,⟨hy,λi _=>?_⟩,⟨ht,λi _=>?_,λi j _ _ _ k Z=>?_,λi _ q D=>?_⟩,Own.nil w,Own.nil w,Own.nil w,λk Z=>(by cases Z)⟩;rw[ey i];exact Own.nil w;rw[et i];exact Own.nil w;rw[et i]at Z;cases Z;rw[et i]at D;cases D
theorem k2p (Z O:Nat):(st0 Z O).p=G08.stM G08.start:=by
 have D:y2k []=[]:=by unfold y2k;simp
 have I:y2b []=[]:=by unfold y2b;simp
 show _=(⟨0,⟨[],[]⟩,List.replicate 6 yn0,⟨List.replicate 6 [],y2k [],(z3h ⟨[],[]⟩ 0).map Hd.id,y2b []⟩⟩:St);rw[D,I];rfl
theorem v3y (w0:World):Rets prog 33 #[] w0 λr w'=>(∃O I,r=.agg #[.int .i64 (st0 O I).rk,.slice (st0 O I).q.f.1 (st0 O I).q.f.2.1 (st0 O I).q.f.2.2,.slice (st0 O I).q.b.1 (st0 O I).q.b.2.1 (st0 O I).q.b.2.2,.slice (st0 O I).yv.1 (st0 O I).yv.2.1 (st0 O I).yv.2.2,.slice (st0 O I).fb.t.1 (st0 O I).fb.t.2.1 (st0 O I).fb.t.2.2,.slice (st0 O I).fb.c.1 (st0 O I).fb.c.2.1 (st0 O I).fb.c.2.2,.slice (st0 O I).fb.h.1 (st0 O I).fb.h.2.1 (st0 O I).fb.h.2.2,.slice (st0 O I).fb.f.1 (st0 O I).fb.f.2.1 (st0 O I).fb.f.2.2]/\StO τd 100 w0.heap.size w' (st0 O I))/\Fr [] w0 w':=by
 refine we [] func33 U ntmps33 U .nil (sr (al u9y U (λg0 w1 a5 D q1 z1=>(nn (sq ?_)))));intro a h;refine z0h none (λwb w'=>Fr [g0] wb w') z2y ?_;intro w2 q2;have z2:=q2.size;replace D:=D.ext q2;have hC:Fr [g0] w2 w2:=Fr.refl _ _;have Z:=D;refine z2n 0 1 kr0 U ?_ ?_;refine z9z (m:=6) (c:=6) (yq0) h U U y5h z6j U oo oo U λg1 w3 a1 hy q3 _hz a h=>?_;have z3:=q3.size;replace hC:=hC.next q3;have a4:=(hy.blk g1 (by simp[z0u])).2;refine z0b (z0e 1 U (z0n h z0g (mkC func73) (x4x _) ?_));rintro _ w4 ⟨⟨g2,rfl,a2,ho⟩,q4⟩ a h;have z4:=q4.size;replace D:=D.ext (q3.n1 q4);replace hy:=hy.ext q4;replace hC:=hC.next q4;have a3:=(ho.blk g2 (by simp[z0u])).2;refine z0b (z3m (cs:=[_,_,_,_,_,_,_,_]) 2 h (z0a U (z0a U z0g)) u7m (z0f U (z0f U z0t)) U U λa h=>z0e 3 U ?_);refine z0v h U D U v1f λw5 a0 q5 hz a h=>?_;have z5:=q5.size;replace hy:=hy.fr q5 (by intro k hk hb;simp[z0u]at hk hb;omega);replace ho:=ho.fr q5 (by intro k hk hb;simp[z0u]at hk hb;omega);replace hC:=hC.sp q5;clear D hz;have D:Blk w5 g0 _ [_,_,_,_,_,_,_,_]:=a0;clear a0;refine z0b (z0r ?_);clear hC Z;exact bk (h.sub (L':=[(0,_)]) (.cons U .nil)) (tn (rt (rC results33 U D x6u  ⟨_,rfl,⟨g1,g2,rfl,j9s (hy.low oo) (ho.low oo)⟩,(q1.z4 q2 q3 q4 q5)⟩)));refine z0n h z0g (mkC func73) (x4x _) ?_;rintro _ w6 ⟨⟨g2,rfl,a2,ho⟩,q6⟩ a h;have z6:=q6.size;replace hC:=hC.next q6;have a3:=(ho.blk g2 (by simp[z0u])).2;refine z0b (z0e 0 U (z9z (m:=6) (c:=6) (yq0) h U U y5h z6j U oo oo U λg1 w7 a1 hy q7 _hz a h=>?_));have z7:=q7.size;replace D:=D.ext (q6.n1 q7);replace ho:=ho.ext q7;replace hC:=hC.next q7;have a4:=(hy.blk g1 (by simp[z0u])).2;refine z0b (z3m (cs:=[_,_,_,_,_,_,_,_]) 2 h (z0a U (z0a U z0g)) u7m (z0f U (z0f U z0t)) U U λa h=>z0e 3 U ?_);refine z0v h U D U v1f λw8 a0 q8 hz a h=>?_;have z8:=q8.size;replace ho:=ho.fr q8 (by intro k hk hb;simp[z0u]at hk hb;omega);replace hy:=hy.fr q8 (by intro k hk hb;simp[z0u]at hk hb;omega);replace hC:=hC.sp q8;clear D hz;have D:Blk w8 g0 _ [_,_,_,_,_,_,_,_]:=a0;clear a0;refine z0b (z0r ?_);clear hC Z;exact bk (h.sub (L':=[(0,_)]) (.cons U .nil)) (tn (rt (rC results33 U D x6u  ⟨_,rfl,⟨g1,g2,rfl,j9s (hy.low oo) (ho.low oo)⟩,(q1.z4 q2 q6 q7 q8)⟩)))
theorem v5t {α:Type}{D I:List α}(d:α)(hl:D.length=I.length)(h:∀j,j<D.length->D.getD j d=I.getD j d):D=I:=by
 refine List.ext_getElem hl λj O Z=>?_;have:=h j O;rwa [List.getD,List.getD,List.getElem?_eq_getElem O,List.getElem?_eq_getElem Z]at this
theorem j3p (v1 v2:Value)(Z l2:List LId)(w0:World)(h1:Sl z1j w0 v1 Z)(h2:Sl z1j w0 v2 l2)(hl:Z.length<=100000):Rets prog 46 #[v1,v2] w0 λr w'=>r=.bool (decide (Z=l2))/\Fr [] w0 w':=by
 obtain⟨A1,k1,rfl,a6⟩:=id h1.form;obtain⟨A2,k2,rfl,a7⟩:=id h2.form;refine we [(0,.slice A1 Z.length k1),(1,.slice A2 l2.length k2)] func46 U ntmps46 U (.c2 U U) ?_;have a2:=h1;have a3:=h2;refine sr (asg U (nn (sq (sr (mv U (lnS U underlying42 (mv U (lnS U underlying42 (ne' U (nn (cd U (λc0=>?_) (λc0=>?_))))))))))));refine sr (asg U (nn (rt (tr (r1 results46 U ?_)))));exact⟨_,rfl,congrArg Value.bool (decide_eq_false (λe=>c0 (by rw[e]))).symm,(Fr.refl _ _)⟩;refine sk (tn (sq (sr (mv U (lnS U underlying42 (mv U (nn (bl (lpK (ι:=Nat) [(0,_),(1,_),(12,_)] (λi=>[(13,.int .i64 (i:Int))]) (λi w'=>Fr [] w0 w'/\i<=Z.length/\∀j,j<i->Z.getD j id0=l2.getD j id0) (λi=>Z.length-i) 0 (.c4 U U U U) ⟨Fr.refl _ _,⟨Nat.zero_le _,λj h=>absurd h oo⟩⟩ ?_)))))))));rintro i w1 ⟨q1,⟨hi,hz⟩⟩;refine kpC [(0,_),(1,_),(12,_),(13,_)] (.c4 U U U U) (sr (lt' U (nn (sq (cd U (λc1=>?_) (λc1=>?_))))));refine sk (tn (sq (bl (sr (mv U (asg U (nn (sq ?_))))))));replace h1:=a2.ext q1;replace h2:=a3.ext q1;intro a h;have D:=Fr.refl [] w1;refine z3j (λwb w'=>Fr [] wb w') z2y ?_;intro w2 hq;replace h1:=h1.ext hq;replace h2:=h2.ext hq;replace D:=D.next hq;have a8:=hq.size;clear hq;have hC:Fr [] w2 w2:=Fr.refl _ _;have I:=h1;have O:=h2;refine z0d 0 h U λa h=>z0d 1 h U λa h=>z1e (id0) 2 h U h1 U z6q U ?_ (hp:=rfl);clear h a;intro a4 a0 a h;refine z2l 3 h wn U (λ_ hw=>a0 _ (I.ext hw)) z3x U λa h=>z0d 4 h U λa h=>z0d 5 h U λa h=>z1e (id0) 6 h U h2 U z6q U ?_ (hp:=rfl);clear h a;intro a5 a1 a h;refine z2l 7 h wn U (λ_ hw=>a1 _ (O.ext hw)) z3x U λa h=>u8v (V:=idV) (e:=_) (f:=_) 8 hC h wn U U k3i U U λa h=>z0r ?_;clear hC I O;refine bk (h.sub (L':=[(0,_),(1,_),(12,_),(13,_),(24,_)]) (.c5 U U U U U)) (tn (cd U (λc2=>?_) (λc2=>?_)));refine sr (asg U (nn (rt (rb (tr (tr (rb (tr (r1 results46 U ?_)))))))));exact⟨_,rfl,congrArg Value.bool (decide_eq_false (λe=>c2 (by rw[e]))).symm,(q1.n1 D)⟩;refine sk (bn' (tn (rg (z0q U (wi6 oo) (mv U (nl ?_))))));exact lpE (i+1) (.c4 U U U U) ⟨(q1.n1 D),⟨oo,λj h=>by
  by_cases e:j=i;subst e;exact Classical.not_not.1 c2;exact hz j oo⟩⟩ oo
 obtain rfl:i=Z.length:=by omega
 refine ex (te (te (xh (tn (sr (asg U (nn (rt (r1 results46 U ?_)))))))));exact⟨_,rfl,congrArg Value.bool (decide_eq_true (v5t id0 oo (λj hj=>hz j oo))).symm,q1⟩
open Go.Lw Go.G21 Go.G08 _root_.Go.Proofs.Tryz
open Classical in
noncomputable def v6k (s:StQ)(eb ef:Int):Int:=if ¬(-4<=s.rk/\s.rk<=4) then 11 else if eb≠0 then eb else if s.ys.length≠6 then 5 else if ∃i,i<6/\¬y1z (s.ys.getD i yq0).p then 1 else if ef≠0 then ef else if s.fb.hs≠(z3h s.q.p s.rk).map Hd.id then 6 else if ∃i,i<6/\(s.ys.getD i yq0).ct≠((s.fb.ts.getD i tq0).2.length:Int) then 6 else 0
theorem u7t (s:StQ)(eb ef:Int)(w0:World)(O:StAt w0 s)(b8:∀w,BdAt w s.q->Rets prog 74 #[.agg #[.slice s.q.f.1 s.q.f.2.1 s.q.f.2.2,.slice s.q.b.1 s.q.b.2.1 s.q.b.2.2]] w λr w'=>r=.int .i64 eb/\Fr [] w w')(hB:eb=0->BdOk s.q.p)(b5:ef=0->s.fb.ts.length=6)(b9:∀w,FbAt w s.fb->Rets prog 76 #[.agg #[.slice s.fb.t.1 s.fb.t.2.1 s.fb.t.2.2,.slice s.fb.c.1 s.fb.c.2.1 s.fb.c.2.2,.slice s.fb.h.1 s.fb.h.2.1 s.fb.h.2.2,.slice s.fb.f.1 s.fb.f.2.1 s.fb.f.2.2]] w λr w'=>r=.int .i64 ef/\Fr [] w w')(d4:s.fb.hs.length<=100000):Rets prog 34 #[.agg #[.int .i64 s.rk,.slice s.q.f.1 s.q.f.2.1 s.q.f.2.2,.slice s.q.b.1 s.q.b.2.1 s.q.b.2.2,.slice s.yv.1 s.yv.2.1 s.yv.2.2,.slice s.fb.t.1 s.fb.t.2.1 s.fb.t.2.2,.slice s.fb.c.1 s.fb.c.2.1 s.fb.c.2.2,.slice s.fb.h.1 s.fb.h.2.1 s.fb.h.2.2,.slice s.fb.f.1 s.fb.f.2.1 s.fb.f.2.2]] w0 λr w'=>r=.int .i64 (v6k s eb ef)/\Fr [] w0 w':=by
 have f0:=z2g O.y;have e9:=z2g O.f.t;refine we [(0,.agg #[.int .i64 s.rk,.slice s.q.f.1 s.q.f.2.1 s.q.f.2.2,.slice s.q.b.1 s.q.b.2.1 s.q.b.2.2,.slice s.yv.1 s.yv.2.1 s.yv.2.2,.slice s.fb.t.1 s.fb.t.2.1 s.fb.t.2.2,.slice s.fb.c.1 s.fb.c.2.1 s.fb.c.2.2,.slice s.fb.h.1 s.fb.h.2.1 s.fb.h.2.2,.slice s.fb.f.1 s.fb.f.2.1 s.fb.f.2.2])] func34 U ntmps34 U (.cons U .nil) ?_;have a0:=O;refine sr (bx U (λg1 w1 e4 D q1 z1=>(asg U (nn (sq (sq (rbo (r:=17) (L':=[(1,_)]) (((s.rk < -4)\/(4<s.rk))) (.cons U .nil) ?_ ?_)))))));refine fad U x5m (z0i U D U na3 (lt' U (mv U (gs 13 U (λg0=>?_) (λg0=>?_)))));exact gN U (gN U (gN U (pkt U (rbe U (.cons U .nil)))));exact gY U (fad U x5m (gY U (z0i U D U na3 (gY U (gt' U (pkf U (rbe U (.cons U .nil))))))));refine tn (cd U (λc0=>?_) (λc0=>?_));exact sr (asg U (nn (rt (tr (r1 results34 U ⟨_,rfl,by unfold v6k;rw[if_pos oo],q1⟩)))));have hr:-4<=s.rk/\s.rk<=4:=by omega
 refine sk (tn (sq (sr (fad U y7j (z2r (vs:=[_,_]) U D z6k U ?_)))));replace O:=a0.ext q1;refine cl (ev1 U) (mkC func74) (b8 _ O.b) U ?_;rintro _ w2 ⟨rfl,q2⟩;have z2:=q2.size;refine asg U (nn (sr (mv U (ne' U (nn (cd U (λc1=>?_) (λc1=>?_)))))));exact sr (mv U (asg U (nn (rt (tr (r1 results34 U ⟨_,rfl,by unfold v6k;rw[if_neg oo,if_pos c1],(q1.n1 q2)⟩))))));have d1:eb=0:=by omega
 refine sk (tn (sq (sr (fad U v2a ?_))));replace D:=D.ext q2;refine z0i U D U y6b (lnS U underlying38 (ne' U (nn (cd U (λc2=>?_) (λc2=>?_)))));exact sr (asg U (nn (rt (tr (r1 results34 U ⟨_,rfl,by unfold v6k;rw[if_neg oo,if_neg oo,if_pos oo],(q1.n1 q2)⟩)))));have e8:s.ys.length=6:=by omega
 refine sk (tn (sq (sr (fad U v2a (z0i U D U y6b (lnS U underlying38 (mv U (nn (bl (lpK (ι:=Nat) [(1,_),(29,_),(30,_)] (λi=>[(31,.int .i64 (i:Int))]) (λi w'=>Fr [] w2 w'/\i<=6/\∀k,k<i->y1z (s.ys.getD k yq0).p) (λi=>6-i) 0 (.c4 U U U U) ⟨Fr.refl _ _,⟨Nat.zero_le _,λk h=>absurd h oo⟩⟩ ?_))))))))));rintro i w3 ⟨q3,⟨hi,a7⟩⟩;have z3:=q3.size;refine kpC [(1,_),(29,_),(30,_),(31,_)] (.c4 U U U U) (sr (lt' U (nn (sq (cd U (λc3=>?_) (λc3=>?_))))));refine sk (tn (sq (bl (sr ?_))));replace O:=a0.ext (q1.n2 q2 q3);refine z0x (yq0) U O.y U y5h z1m (λd7 b1=>?_);refine z1t U (b1 _ O.y) z3k (al z6j U (λg5 w4 e5 b0 q4 z4=>?_));refine z0k (vs:=[_,_,_,_,_]) U b0 z3o (λw5 b0 q5 z5=>?_) (h1:=(by first|(simp[Value.oneCell',S];done)|exact z3l.one _));refine nn (sr (z0m U b0 z3k ?_));replace O:=a0.ext (q1.z4 q2 q3 q4 q5);refine cl (ev1 U) k1f (z9x (s.ys.getD i yq0) _ (O.ya i)) U ?_;rintro _ w6 ⟨rfl,q6⟩;have z6:=q6.size;refine asg U (nn (sr (mv U (ne' U (nn (cd U (λc4=>?_) (λc4=>?_)))))));refine sr (mv U (asg U (kpL [(2,_)] (.cons U .nil) (nn (rt (rb (tr (tr (rb (tr (r1 results34 U ?_)))))))))));have b6:¬y1z (s.ys.getD i yq0).p:=λh=>c4 (j5j h);exact⟨_,rfl,by unfold v6k;rw[if_neg oo,if_neg oo,if_neg oo,if_pos ⟨i,oo,b6⟩,j6j b6],(q1.z5 q2 q3 q4 q5 q6)⟩;refine sk (bn' (tn (rg (z0q U (wi6 oo) (mv U (nl ?_))))));exact lpE (i+1) (.c4 U U U U) ⟨(q3.z3 q4 q5 q6),⟨oo,λk h=>by
  by_cases e:k=i;subst e;exact Classical.byContradiction λh=>c4 (by rw[j6j h];decide);exact a7 k oo⟩⟩ oo
 obtain rfl:i=6:=by omega
 refine ex (te (te (xh (tn (sq (sr (fad U y2l ?_)))))));replace D:=D.ext q3;refine z2r (vs:=[_,_,_,_]) U D u7d U ?_;replace O:=a0.ext (q1.n2 q2 q3);refine cl (ev1 U) (mkC func76) (b9 _ O.f) U ?_;rintro _ w7 ⟨rfl,q7⟩;have z7:=q7.size;refine asg U (kpL [(1,_),(7,_)] (.c2 U U) (nn (sr (mv U (ne' U (nn (cd U (λc5=>?_) (λc5=>?_))))))));refine sr (mv U (asg U (nn (rt (tr (r1 results34 U ?_))))));have a1:¬ ∃i,i<6/\¬y1z (s.ys.getD i yq0).p:=λ⟨k,hk,h⟩=>h (a7 k oo);exact⟨_,rfl,by unfold v6k;rw[if_neg oo,if_neg oo,if_neg oo,if_neg a1,if_pos c5],(q1.n3 q2 q3 q7)⟩;have d3:ef=0:=by omega
 have e7:=b5 d3;refine sk (tn (sq (sq ?_)));replace O:=a0.ext (q1.n3 q2 q3 q7);intro a h;refine z0h none (λwb w'=>Fr [] wb w') z2y ?_;intro w8 q8;have z8:=q8.size;replace O:=O.ext q8;replace D:=D.ext (q7.n1 q8);have hC:Fr [] w8 w8:=Fr.refl _ _;have a3:=O;have I:=D;refine z0c 0 h U y2l U λa h=>z7u 1 hC h wn U u0c U λa h=>z0j 2 h U (λ_ hw=>I.ext hw) U z8o U λa h=>z0c 3 h U y7j U λa h=>z1d (vs:=[_,_]) 4 h U (λ_ hw=>(I.ext hw)) z6k U U λa h=>z0c 5 h U x5m U λa h=>z0j 6 h U (λ_ hw=>I.ext hw) U na3 U λa h=>z0e 7 U (z0n h (z0a U (z0a U z0g)) (mkC func77) (y5t s.q s.rk _ O.b (hB d1) hr) ?_);rintro _ w9 ⟨⟨e3,f1,e2,rfl,e1,hH⟩,q9⟩ a h;have z9:=q9.size;replace O:=O.ext q9;replace hC:=hC.next q9;refine z0b (z0e 8 U (z0n h (z0a U (z0a U z0g)) (mkC func46) (j3p _ _ s.fb.hs ((z3h s.q.p s.rk).map Hd.id) _ O.f.h hH.sl d4) ?_));rintro _ d6 ⟨rfl,Z⟩ a h;have f5:=Z.size;replace O:=O.ext Z;replace D:=D.ext (q9.n1 Z);replace hH:=hH.ext Z;replace hC:=hC.next Z;refine z0b (x5n 9 hC h wn U U U λa h=>z0r ?_);clear hC a3 I;refine bk (h.sub (L':=[(1,_),(56,_)]) (.c2 U U)) (tn (cd U (λc6=>?_) (λc6=>?_)));refine sr (asg U (nn (rt (tr (r1 results34 U ?_)))));have a1:¬ ∃i,i<6/\¬y1z (s.ys.getD i yq0).p:=λ⟨k,hk,h⟩=>h (a7 k oo);exact⟨_,rfl,by unfold v6k;rw[if_neg oo,if_neg oo,if_neg oo,if_neg a1,if_neg oo,if_pos c6],(q1.n6 q2 q3 q7 q8 q9 Z)⟩;refine sk (tn (sq (sr (fad U v2a (z0i U D U y6b (lnS U underlying38 (mv U (nn (bl (lpK (ι:=Nat) [(1,_),(58,_),(59,_)] (λi=>[(60,.int .i64 (i:Int))]) (λi w'=>Fr [] d6 w'/\i<=6/\∀k,k<i->(s.ys.getD k yq0).ct=((s.fb.ts.getD k tq0).2.length:Int)) (λi=>6-i) 0 (.c4 U U U U) ⟨Fr.refl _ _,⟨Nat.zero_le _,λk h=>absurd h oo⟩⟩ ?_))))))))));rintro i f2 ⟨a2,⟨hi,b4⟩⟩;have f6:=a2.size;refine kpC [(1,_),(58,_),(59,_),(60,_)] (.c4 U U U U) (sr (lt' U (nn (sq (cd U (λc7=>?_) (λc7=>?_))))));refine sk (tn (sq (bl (sr (mv U ?_)))));replace O:=a0.ext ((q1.n6 q2 q3 q7 q8 q9 Z).n1 a2);refine z0x (yq0) U O.y U y5h z1m (λd9 b2=>?_);refine z1t U (b2 _ O.y) z3k (al z6j U (λg9 f3 e6 a5 a8 f7=>?_));refine asg U (z0k (vs:=[_,_,_,_,_]) U a5 z3o (λf4 a5 a9 f8=>?_) (h1:=(by first|(simp[Value.oneCell',S];done)|exact z3l.one _)));refine nn (sq ?_);replace O:=a0.ext ((((q1.n6 q2 q3 q7 q8 q9 Z).n1 a2).n1 a8).z1 a9);replace D:=(D.ext (a2.n1 a8)).fr a9;intro a h;refine z0h none (λwb w'=>Fr [] wb w') z2y ?_;intro b7 a4;have f9:=a4.size;replace O:=O.ext a4;replace D:=D.ext a4;replace a5:=a5.ext a4;have hC:Fr [] b7 b7:=Fr.refl _ _;have a3:=O;have I:=D;have a6:=a5;refine z0c 0 h U z8x U λa h=>z0j 1 h U (λ_ hw=>a6.ext hw) U na3 U λa h=>z0c 2 h U y2l U λa h=>z7u 3 hC h wn U y4t U λa h=>z0j 4 h U (λ_ hw=>I.ext hw) U v0w U λa h=>z0d 5 h U λa h=>z1e (tq0) 6 h U O.f.t U x1l U ?_ (hp:=rfl);clear h a;intro e0 b3 a h;refine z2h 7 h U (λ_ hw=>b3 _ (a3.f.t.ext hw)) y3h U λa h=>z7q 8 hC h wn U underlying116 U λa h=>u9t 9 hC h wn U U U U λa h=>z0r ?_;clear hC a3 I a6;refine bk (h.sub (L':=[(1,_),(58,_),(59,_),(60,_),(74,_)]) (.c5 U U U U U)) (tn (cd U (λc8=>?_) (λc8=>?_)));refine sr (asg U (nn (rt (rb (tr (tr (rb (tr (r1 results34 U ?_)))))))));have a1:¬ ∃i,i<6/\¬y1z (s.ys.getD i yq0).p:=λ⟨k,hk,h⟩=>h (a7 k oo);have c9:(s.ys.getD i yq0).ct≠((s.fb.ts.getD i tq0).2.length:Int):=by simp only[Int.toNat_natCast]at c8;have d5:=z2g (a0.f.tt _ (z1b (d:=tq0) (i:=i) oo)).1;omega
 exact⟨_,rfl,by unfold v6k;rw[if_neg oo,if_neg oo,if_neg oo,if_neg a1,if_neg oo,if_neg c6,if_pos ⟨i,oo,c9⟩],((((q1.n6 q2 q3 q7 q8 q9 Z).n1 a2).n1 a8).z2 a9 a4)⟩;refine sk (bn' (tn (rg (z0q U (wi6 oo) (mv U (nl ?_))))));exact lpE (i+1) (.c4 U U U U) ⟨(a2.z3 a8 a9 a4),⟨oo,λk h=>by
  by_cases e:k=i;subst e;simp only[Int.toNat_natCast]at c8;have d5:=z2g (a0.f.tt _ (z1b (d:=tq0) (i:=k) oo)).1;omega;exact b4 k oo⟩⟩ oo
 obtain rfl:i=6:=by omega
 refine ex (te (te (xh (tn (sr (asg U (nn (rt (r1 results34 U ?_)))))))));have a1:¬ ∃i,i<6/\¬y1z (s.ys.getD i yq0).p:=λ⟨k,hk,h⟩=>h (a7 k oo);have d0:¬ ∃i,i<6/\(s.ys.getD i yq0).ct≠((s.fb.ts.getD i tq0).2.length:Int):=λ⟨k,hk,h⟩=>h (b4 k oo);exact⟨_,rfl,by unfold v6k;rw[if_neg oo,if_neg oo,if_neg oo,if_neg a1,if_neg oo,if_neg c6,if_neg d0],((q1.n6 q2 q3 q7 q8 q9 Z).n1 a2)⟩
theorem j8y {s:StQ}(Z:-4<=s.rk/\s.rk<=4)(O:s.ys.length=6)(D:∀i,i<6->y1z (s.ys.getD i yq0).p/\(s.ys.getD i yq0).ct=((s.fb.ts.getD i tq0).2.length:Int))(I:s.fb.hs=(z3h s.q.p s.rk).map Hd.id):v6k s 0 0=0:=by
 unfold v6k;rw[if_neg oo,if_neg dd,if_neg oo,if_neg (λ⟨k,hk,h⟩=>h (D k hk).1),if_neg dd,if_neg (λh=>h I),if_neg (λ⟨k,hk,h⟩=>h (D k hk).2)]
theorem j2f (s:StQ)(w0:World)(hS:StAt w0 s)(hr:-4<=s.rk/\s.rk<=4)(hB:BdOk s.q.p)(Z:s.ys.length=6)(O:s.fb.ts.length=6)(a0:∀i,i<6->y1z (s.ys.getD i yq0).p/\(s.ys.getD i yq0).ct=((s.fb.ts.getD i tq0).2.length:Int))(D:∀w,FbAt w s.fb->Rets prog 76 #[.agg #[.slice s.fb.t.1 s.fb.t.2.1 s.fb.t.2.2,.slice s.fb.c.1 s.fb.c.2.1 s.fb.c.2.2,.slice s.fb.h.1 s.fb.h.2.1 s.fb.h.2.2,.slice s.fb.f.1 s.fb.f.2.1 s.fb.f.2.2]] w λr w'=>r=.int .i64 0/\Fr [] w w')(hh:s.fb.hs=(z3h s.q.p s.rk).map Hd.id)(I:s.fb.hs.length<=100000):Rets prog 34 #[.agg #[.int .i64 s.rk,.slice s.q.f.1 s.q.f.2.1 s.q.f.2.2,.slice s.q.b.1 s.q.b.2.1 s.q.b.2.2,.slice s.yv.1 s.yv.2.1 s.yv.2.2,.slice s.fb.t.1 s.fb.t.2.1 s.fb.t.2.2,.slice s.fb.c.1 s.fb.c.2.1 s.fb.c.2.2,.slice s.fb.h.1 s.fb.h.2.1 s.fb.h.2.2,.slice s.fb.f.1 s.fb.f.2.1 s.fb.f.2.2]] w0 λr w'=>r=.int .i64 0/\Fr [] w0 w':=by
 have x:=u7t s 0 0 w0 hS (λw h=>x1e s.q w h hB) (λ_=>hB) (λ_=>O) D I;rw[j8y hr Z a0 hh]at x;exact x
open Go.Lw Go.G21 Go.G08 _root_.Go.Proofs.Tryz
theorem y8q:ElemOf prog 30 88 y0v 40:=ElemOf.mk' (z:=(.agg #[.int .u8 0,.int .u8 0,.int .u8 0,.int .i64 0,.int .u8 0,.int .i64 0])) underlying30 kr0 U
theorem sz88:z1r prog 88 6:=λ_=>kr0
theorem zv88 (w:World):(zeroValue 88).run prog w=.ok (.agg #[(.int .u8 0),(.int .u8 0),(.int .u8 0),(.int .i64 0),(.int .u8 0),(.int .i64 0)]) w:=kr0
theorem v1w {D p q:MSt}{o:MOp}:∀ {l:List MOp} {i:Nat},z8b i D l=.ok p->doM p o=.ok q->z8b i D (l++[o])=.ok q
 | [],i,h,h2=>by cases h;show z8b i D [o]=_;unfold z8b;rw[h2];rfl
 | x::l,i,h,h2=>by
  unfold z8b at h
  show z8b i D (x::(l++[o]))=_
  unfold z8b
  split at h
  ·cases h
  rename_i q' I
  exact v1w h h2
theorem v7f {D p:MSt}{e:Int}{o:MOp}:∀ {l r:List MOp} {i:Nat},z8b i D l=.ok p->doM p o=.error e->z8b i D (l++o::r)=.error (e,i+l.length)
 | [],r,i,h,h2=>by cases h;show z8b i D (o::r)=_;unfold z8b;rw[h2];rfl
 | x::l,r,i,h,h2=>by
  unfold z8b at h
  show z8b i D (x::(l++o::r))=_
  unfold z8b
  split at h
  ·cases h
  rename_i q' I
  have:=v7f (r:=r) h h2
  simp only[this,List.length_cons]
  congr 2;omega
theorem j3y (s:StQ)(v:Value)(l:List MOp)(p0:MSt)(w0:World)(hS:StAt w0 s)(d3:StSz s)(d6:(s.fb.cs.map cxK).Nodup)(b3:p0=(⟨s.rk,⟨z2v (plB s.q.fs),z2v (plB s.q.bs)⟩,s.ys.map YQ.p,z2o s.fb.ts,s.fb.cs,s.fb.fs⟩:MSt))(d7:MInv p0)(hv:Sl y0v w0 v l)(d4:StT w0)(f8:l.length<=4096)(b1:∀w,StAt w s->Rets prog 34 #[.agg #[.int .i64 s.rk,.slice s.q.f.1 s.q.f.2.1 s.q.f.2.2,.slice s.q.b.1 s.q.b.2.1 s.q.b.2.2,.slice s.yv.1 s.yv.2.1 s.yv.2.2,.slice s.fb.t.1 s.fb.t.2.1 s.fb.t.2.2,.slice s.fb.c.1 s.fb.c.2.1 s.fb.c.2.2,.slice s.fb.h.1 s.fb.h.2.1 s.fb.h.2.2,.slice s.fb.f.1 s.fb.f.2.1 s.fb.f.2.2]] w λr w'=>r=.int .i64 0/\Fr [] w w')(d5:∀p,z8b 0 p0 l=.ok p->p.cr.length<=100000000):Rets prog 11 #[.agg #[.int .i64 s.rk,.slice s.q.f.1 s.q.f.2.1 s.q.f.2.2,.slice s.q.b.1 s.q.b.2.1 s.q.b.2.2,.slice s.yv.1 s.yv.2.1 s.yv.2.2,.slice s.fb.t.1 s.fb.t.2.1 s.fb.t.2.2,.slice s.fb.c.1 s.fb.c.2.1 s.fb.c.2.2,.slice s.fb.h.1 s.fb.h.2.1 s.fb.h.2.2,.slice s.fb.f.1 s.fb.f.2.1 s.fb.f.2.2],v] w0 λr w'=>(match z8b 0 p0 l with|.error (e,n)=>r=.tuple #[.agg #[.int .i64 0,.slice none 0 0,.slice none 0 0,.slice none 0 0,.slice none 0 0,.slice none 0 0,.slice none 0 0,.slice none 0 0],.int .i64 (n:Int),.int .i64 e]|.ok p=>∃s':StQ,r=.tuple #[.agg #[.int .i64 s'.rk,.slice s'.q.f.1 s'.q.f.2.1 s'.q.f.2.2,.slice s'.q.b.1 s'.q.b.2.1 s'.q.b.2.2,.slice s'.yv.1 s'.yv.2.1 s'.yv.2.2,.slice s'.fb.t.1 s'.fb.t.2.1 s'.fb.t.2.2,.slice s'.fb.c.1 s'.fb.c.2.1 s'.fb.c.2.2,.slice s'.fb.h.1 s'.fb.h.2.1 s'.fb.h.2.2,.slice s'.fb.f.1 s'.fb.f.2.1 s'.fb.f.2.2],.int .i64 (l.length:Int),.int .i64 0]/\StO τd 100 w0.heap.size w' s'/\s'.p=stM p)/\Fr [] w0 w':=by
 obtain⟨A,c,rfl,f3,d0,hA⟩:=id hv;clear hA;unfold maxLen at d0;refine we [(0,.agg #[.int .i64 s.rk,.slice s.q.f.1 s.q.f.2.1 s.q.f.2.2,.slice s.q.b.1 s.q.b.2.1 s.q.b.2.2,.slice s.yv.1 s.yv.2.1 s.yv.2.2,.slice s.fb.t.1 s.fb.t.2.1 s.fb.t.2.2,.slice s.fb.c.1 s.fb.c.2.1 s.fb.c.2.2,.slice s.fb.h.1 s.fb.h.2.1 s.fb.h.2.2,.slice s.fb.f.1 s.fb.f.2.1 s.fb.f.2.2]),(1,.slice A l.length c)] func11 U ntmps11 U (.c2 U U) ?_;have a8:=hS;have e3:=hv;refine sr (bx U (λg2 w1 f4 I q1 z1=>(al u9y U (λg4 w2 f5 D q2 z2=>(asg U (asg U (nn (sq (sr (mv U (lnS U underlying30 (gt' U (nn (cd U (λc0=>?_) (λc0=>?_)))))))))))))));refine sr (z1z (cs:=[_,_,_,_,_,_,_,_]) z0g u7m z0t U ?_);refine z0k (vs:=[_,_,_,_,_,_,_,_]) U D v1f (λw3 D q3 z3=>(asg U (asg U (nn (rt (tr (k2h results11 U D x6u U U ?_)))))));exfalso;omega;refine sk (tn (sq (sr ?_)));replace I:=I.ext q2;refine z0m U I x6u ?_;replace hS:=a8.ext (q1.n1 q2);refine cl (ev1 U) (mkC func34) (b1 _ hS) U ?_;rintro _ w4 ⟨rfl,q4⟩;have z4:=q4.size;refine asg U (nn (sr (mv U (ne' U (nn (cd U (λc1=>?_) (λc1=>?_)))))));refine sr (z1z (cs:=[_,_,_,_,_,_,_,_]) z0g u7m z0t U ?_);refine mv U ?_;replace D:=D.ext q4;exact z0k (vs:=[_,_,_,_,_,_,_,_]) U D v1f (λw5 D q5 z5=>(asg U (asg U (kpL [(4,_),(5,_),(6,_)] (.c3 U U U) (nn (rt (tr (k2h results11 U D x6u U U (absurd U (by assumption))))))))));refine sk (tn (sr ?_));replace I:=I.ext q4;refine z0m U I x6u ?_;replace hS:=a8.ext (q1.n2 q2 q4);replace D:=D.ext q4;refine cl (z0a U z0g) (mkC func35) (j5x s _ hS d3 d6) U ?_;rintro _ w6 ⟨ka,m,rfl,O,b2⟩;have q6:=O.fr.fr;have z6:=q6.size;have a2:=D;have f0:=O.c.lt;have a3:=O;refine cl z0g (mkC func36) (j0g _) U ?_;rintro _ w7 ⟨⟨gl,rfl,f6,hl⟩,q7⟩;have z7:=q7.size;refine asg U (asg U (kpL [(1,_),(4,_),(8,_),(9,_)] (.c4 U U U U) (nn (sq (sr (mv U (lnS U underlying30 (mv U (nn (bl ?_))))))))));replace O:=a3.ext q7;refine lpK (ι:=Nat) [(1,_),(4,_),(8,_),(9,_),(26,_),(27,_)] (λi=>[(28,.int .i64 (i:Int))]) (λi w'=>Fr [] w4 w'/\i<=l.length/\∃m:MQ,MkM τd 156 w4 ka w' m/\z8b 0 p0 (l.take i)=.ok m.p/\MInv m.p/\MapF kV w' gl k2a) (λi=>l.length-i) 0 (.c7 U U U U U U U) ⟨(q6.n1 q7),⟨Nat.zero_le _,m,O,by rw[b2,<-b3];rfl,by rw[b2,<-b3];exact d7,hl⟩⟩ ?_;rintro i w8 ⟨q8,⟨f7,m,O,a0,hMi,hl⟩⟩;have z8:=q8.size;have a3:=O;refine kpC [(1,_),(4,_),(8,_),(9,_),(26,_),(27,_),(28,_)] (.c7 U U U U U U U) ?_;have f1:gl<w8.heap.size:=by obtain⟨_,_,_,b7,_⟩:=hl;exact(Array.getElem?_eq_some_iff.1 b7).1
 refine sr (lt' U (nn (sq (cd U (λc2=>?_) (λc2=>?_)))));have a5:i<l.length:=by omega
 refine sk (tn (sq (bl (sr (mv U ?_)))));replace hv:=e3.ext (q1.n3 q2 q4 q8);refine z0x (op0) U hv U y8q z1m (λe8 b0=>?_);refine z1t U (b0 _ hv) v4e (al zv88 U (λf2 w9 e9 Z q9 z9=>(asg U (z0k (vs:=[_,_,_,_,_,_]) U Z sz88 (λe5 Z b4 g3=>(nn (sr (mv U (mv U (z0m U Z v4e ?_))))))))));replace O:=a3.ext (q9.z1 b4);replace hl:=(hl.ext q9).fr b4 (by simp only[List.mem_singleton];omega);have c9:=O.fr;refine cl (z0a U (z0a U (z0a U z0g))) (mkC func37) (k2e w4 { ka with wk:=e5 } m (l.getD i op0) gl _ O.mark hMi (d4.ext (q1.n2 q2 q4)) hl) U ?_;intro _ f9 hR;obtain⟨rfl,a1,m1,d9⟩:=hR.split;have e7:=a1.kp.size;simp only at e7;have b5:=a1.fr;replace hl:=a1.kp.mapF hl sm;refine asg U (nn (sr (mv U (ne' U (nn (cd U (λc3=>?_) (λc3=>?_)))))));have D:=a2.ext a1.fr;refine sr (z1z (cs:=[_,_,_,_,_,_,_,_]) z0g u7m z0t U ?_);refine mv U (mv U (z0k (vs:=[_,_,_,_,_,_,_,_]) U D v1f (λg0 D e4 g5=>(asg U (asg U (kpL [(4,_),(5,_),(6,_)] (.c3 U U U) (nn (rt (rb (tr (tr (rb (tr (k2h results11 U D x6u U U ?_))))))))))))));have e1:z8b 0 p0 l=.error (k0n (doM m.p (l.getD i op0)),i):=by
  have x:=v7f (r:=l.drop (i+1)) a0 (y2r c3);have e:l.take i++l.getD i op0::l.drop (i+1)=l:=by
   rw[List.getD,List.getElem?_eq_getElem a5,Option.getD_some,<-List.drop_eq_getElem_cons a5,List.take_append_drop]
  rw[e,List.length_take,Nat.min_eq_left oo,Nat.zero_add]at x;exact x
 exact⟨_,rfl,by rw[e1],(q1.z4 q2 q4 b5 e4)⟩;obtain⟨b9,a4⟩:=d9 (Classical.not_not.1 c3);have a7:=b9.unmark c9;obtain⟨m2,e0⟩:∃m2,m2=m1:=⟨_,rfl⟩;rw[<-e0]at a7 a4;exact sk (bn' (tn (rg (z0q U (wi6 oo) (mv U (nl (lpE ((i+1)) (.c7 U U U U U U U) ⟨b5,⟨oo,m2,a7,by rw[show l.take (i+1)=l.take i++[l.getD i op0] by rw[List.take_add_one,List.getD,List.getElem?_eq_getElem a5];rfl];exact v1w a0 a4,y1b hMi a4,hl⟩⟩ oo)))))));obtain rfl:i=l.length:=by omega
 rw[List.take_length]at a0;refine ex (te (te (xh (tn (sr (mv U (cl (z0a U z0g) (mkC func38) (v9k w4 ka m _ O hMi (d5 _ a0)) U ?_)))))));rintro _ g1 ⟨s',rfl,d1,e2,a6⟩;have g6:=a6.size;have D:=a2.ext a6;have a9:=D;refine mv U (lnS U underlying30 (z0k (vs:=[_,_,_,_,_,_,_,_]) U D v1f (λe6 D b6 g7=>(asg U (asg U (kpL [(4,_),(5,_),(6,_)] (.c3 U U U) (nn (rt (k2h results11 U D x6u U U ?_)))))))));have b8:Fr [] _ e6:=(Fr.refl _ _);exact⟨_,rfl,by rw[a0];exact⟨s',rfl,((d1.off a9 dd b6).ext b8).low oo,e2⟩,(q1.z4 q2 q4 a6 b6)⟩
abbrev stZ:StQ:=⟨0,⟨sv0,sv0,[],[]⟩,sv0,[],⟨sv0,sv0,sv0,sv0,[],[],[],[]⟩⟩
theorem k3y (base:Nat)(w:World):StO τd 100 base w stZ:=
 ⟨⟨⟨Own.nil w,λq I=>(by cases I)⟩,⟨Own.nil w,λq I=>(by cases I)⟩⟩,⟨Own.nil w,λi D=>(by cases D)⟩,⟨Own.nil w,λi D=>(by cases D),λi j D=>(by cases D),λi D=>(by cases D)⟩,Own.nil w,Own.nil w,Own.nil w,λk O=>(by cases O)⟩
end Go.Proofs.YtagnnbcnnmacmaaGreatDoor
