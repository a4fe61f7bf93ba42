/- Texts of the proof, joined. -/
import Derived.Test.YtlfdhllfmoplgaaGreatDoorRows
import Derived.Shelf.SlSortCmp.WholeK
import Derived.Deep.RegionHeld3
import Derived.WalkKit
import Derived.Shelf.SlGeneric
import Derived.Ground.SlsfProg
import Derived.Test.YtlfdhllfmoplgaaGreatDoorProg
import Derived.Test.YtlfdhllfmoplgaaGreatDoorQE4
set_option linter.unusedVariables false
set_option linter.unusedSimpArgs false
set_option maxHeartbeats 4000000
namespace Go.Proofs.YtlfdhllfmoplgaaGreatDoor
open Go.Lw Go.G21 Go.G08 _root_.Go.Proofs.Tryz
theorem v6f (m:MQ)(j:Nat):m.p.ys.getD j yn0=(m.ys.getD j yq0).p:=by
 show (m.ys.map YQ.p).getD j yn0=_;rw[List.getD,List.getD,List.getElem?_map];cases m.ys[j]?<;>rfl
theorem y1k {l:List Cx}{i:Nat}(h:i<l.length):l.take (i+1)=l.take i++[l.getD i cx0]:=by
 rw[List.take_add_one,List.getD,List.getElem?_eq_getElem h];rfl
theorem x6x {l r I:List Cx}{i:Nat}{e:Int}(h:z6a l (r.take i)=.ok I)(Z:i<r.length)(O:x0x I (r.getD i cx0)=.error e):z6a l r=.error e:=by
 have D:=y2h (c:=r.getD i cx0) h;rw[<-y1k Z,O]at D;have M:=x0l (r.drop (i+1)) D;rwa [List.take_append_drop]at M
theorem v9b {p:MSt}{c:Cx}{e:Int}(h:u5m p c=.error e):x0x p.cr c=.error e:=by
 unfold u5m at h;split at h;rename_i D;cases h;exact D;cases h
theorem u2s {p q:MSt}{c:Cx}(h:u5m p c=.ok q):∃l,x0x p.cr c=.ok l/\q={ p with cr:=l }:=by
 unfold u5m at h;split at h;cases h;rename_i l D;cases h;exact⟨l,D,rfl⟩
theorem v8z {m:MQ}{d:Int}{D:List YQ}(O:D.length=6)(I:m.ys.length=6)(Z:∀j,j<6->z8g m.p d (m.ys.getD j yq0).p=.ok (D.getD j yq0).p):z4y m.p d m.p.ys=.ok (D.map YQ.p):=by
 refine y6m (by simp[O,I]) λj hj=>?_;have M:j<6:=by simpa[I] using hj
 rw[v6f,Z j M];congr 1;rw[List.getD,List.getD,List.getElem?_map];cases D[j]?<;>rfl
theorem v6e {m:MQ}{d:Int}{D:List YQ}{M:YQ}{i:Nat}(O:D.length=6)(Z:i<6)(I:∀j,j<i->z8g m.p d (m.ys.getD j yq0).p=.ok (D.getD j yq0).p)(h:z8g m.p d (m.ys.getD i yq0).p=.ok M.p):∀j,j<i+1->z8g m.p d (m.ys.getD j yq0).p=.ok ((D.set i M).getD j yq0).p:=λj hj=>by
 rw[z1i oo]
 by_cases e:i=j
 ·subst e;rw[if_pos U];exact h
 rw[if_neg e];exact I j oo
theorem v0u {m:MQ}{d:Int}{D:List YQ}{i:Nat}(I:∀j,i<=j->D.getD j yq0=m.ys.getD j yq0)(M:∀j,j<i->z8g m.p d (m.ys.getD j yq0).p=.ok (D.getD j yq0).p)(h:(m.ys.getD i yq0).inn=false):∀j,j<i+1->z8g m.p d (m.ys.getD j yq0).p=.ok (D.getD j yq0).p:=λj O=>by
 by_cases e:j=i
 ·subst e;rw[I j (Nat.le_refl _)];unfold z8g;rw[if_pos h]
 exact M j oo
theorem v7q {m:MQ}{D:List YQ}{O:YQ}{i:Nat}(M:D.length=6)(Z:i<6)(I:∀j,i<=j->D.getD j yq0=m.ys.getD j yq0):∀j,i+1<=j->(D.set i O).getD j yq0=m.ys.getD j yq0:=λj hj=>by
 rw[z1i oo,if_neg oo];exact I j oo
theorem u3v (wS:World)(ka:MA)(m:MQ)(d:Int)(w0:World)(hM:MkM τd 145 wS ka w0 m)(hi:MInv m.p)(b2:StT wS)(hd:d=0\/d=1)(d0:-4<=m.rk+stI d/\m.rk+stI d<=4):Rets prog 129 #[.pointer (some ⟨ka.gk,0,none⟩),.int .u8 d] w0 λr w'=>MRet τd 145 wS ka (y2r m.p d) r w':=by
 have g1:=hM.fr.size;have f0:=hM.gk;have Z:=hM.k;have f9:=Z.lt;have b8:=hM.ly;have f2:=(hM.y.out.blk ka.gy (by simp[z0v])).2;have hI:=hi;have f1:ka.gk≠ka.gy:=λe=>Own.neB hM.y.out hM.k dd (by simp[z0v,e]);have g0:(z3d m.q.p m.rk d).length<=640:=by
  have x:(z3d m.q.p m.rk d).length<=16*m.p.B.b.length:=y3t hI.B m.rk d;have y:=hI.B.lb;omega
 refine we [(0,.pointer (some ⟨ka.gk,0,none⟩)),(1,.int .u8 d)] func129 U ntmps129 U (.c2 U U) ?_;have a1:=hM;refine sr (asg U (nn (sq (sr (mv U (nlc U (fad U z3g (z0i U Z U y3i (lnS U underlying26 (mv U (nn (bl (lpK (ι:=Nat) [(0,_),(1,_),(17,_),(18,_)] (λi=>[(19,.int .i64 (i:Int))]) (λi w'=>Fr [ka.gy] w0 w'/\i<=6/\(∃O:List YQ,O.length=6/\(∀j,j<i->z8g m.p d (m.ys.getD j yq0).p=.ok (O.getD j yq0).p)/\(∀j,i<=j->O.getD j yq0=m.ys.getD j yq0)/\MkM τd 145 wS ka w' { m with ys:=O })) (λi=>6-i) 0 (.c5 U U U U U) ⟨Fr.refl _ _,⟨Nat.zero_le _,⟨m.ys,b8,λj hj=>oo,λj _=>rfl,hM⟩⟩⟩ ?_)))))))))))));rintro i w1 ⟨q1,⟨hi,⟨O,a5,a7,a6,hM⟩⟩⟩;have z1:=q1.size;have a1:=hM;refine kpC [(0,_),(1,_),(17,_),(18,_),(19,_)] (.c5 U U U U U) ?_;have Z:=hM.k;refine sr (lt' U (nn (sq (cd U (λc0=>?_) (λc0=>?_)))));have f8:i<6:=by omega
 refine sk (tn (sq (bl (sr (mv U (z1d (yq0) U (show Sl z2x _ ka.YV O from hM.y.out.sl) U y3o z1j (λe6 b4=>?_)))))));refine z1q U (b4 _ (show Sl z2x _ ka.YV O from hM.y.out.sl)) z2y (al z5m U (λg6 w2 f6 D q2 z2=>?_));refine asg U (z0j (vs:=[_,_,_,_,_]) U D z3b (λw3 D q3 z3=>?_) (h1:=(by first|(simp[Value.oneCell',S];done)|exact z2x.one (m.ys.getD i yq0))));rw[a6 i (Nat.le_refl _)]at D;refine nn (sq (sr (fad U z7p (z0i U D U na4 (nt' U (nn (cd U (λc1=>?_) (λc1=>?_))))))));refine ex (te (xh (tn (rg (z0x U (wi6 oo) (mv U (nl ?_)))))));replace hM:=a1.ext (q2.z1 q3);exact lpE (i+1) (.c5 U U U U U) ⟨((Fr.refl [ka.gy] _).z3 q1 q2 q3),⟨oo,⟨O,a5,v0u a6 a7 (by simpa using c1),λj hj=>a6 j oo,hM⟩⟩⟩ oo;have d1:=(hI.yn i oo).1;rw[v6f]at d1;have c9:=u8i (by have:=d1.2;rw[if_pos (by simpa using c1)]at this;exact this.1);have f3:(z6p m.q.p m.rk d (m.ys.getD i yq0).pl).length<=50000:=by
  have x:(z6p m.q.p m.rk d (m.ys.getD i yq0).pl).length<=4*m.p.B.b.length:=x0g hI.B m.rk d _;have y:=hI.B.lb;omega
 refine sk (tn (sq ?_));replace hM:=a1.ext (q2.z1 q3);replace Z:=(Z.ext q2).fr q3;intro a h;refine z0h none (λwb w'=>Fr [] wb w') z2o ?_;intro w4 q4;have z4:=q4.size;replace hM:=hM.ext q4;replace Z:=Z.ext q4;replace D:=D.ext q4;have hC:Fr [] w4 w4:=Fr.refl _ _;have a0:=hM;have I:=Z;have M:=D;refine z0e 0 h U λa h=>z0o 1 h U λa h=>z0c 2 h U z3f U λa h=>z1f (vs:=[_,_]) 3 h U (λ_ hw=>(I.ext hw)) z4x U U λa h=>z0e 4 h U λa h=>z0o 5 h U λa h=>z0c 6 h U z3r U λa h=>z0l 7 h U (λ_ hw=>I.ext hw) U na3 U λa h=>z0e 8 h U λa h=>z0c 9 h U z5e U λa h=>z0l 10 h U (λ_ hw=>M.ext hw) U na3 U λa h=>z0d 11 U (z0n h (z0a U (z0a U (z0a U (z0a U z0g)))) (mkC func163) (v7b m.q m.rk d (m.ys.getD i yq0).pl _ hM.b.at hI.B (b2.ext hM.fr.fr) hI.rk hd d0 c9.1 c9.2) ?_);rintro _ w5 ⟨⟨f5,rfl,e9,hW⟩,q5⟩ a h;have z5:=q5.size;replace hM:=hM.ext q5;replace Z:=Z.ext q5;replace D:=D.ext q5;replace hC:=hC.next q5;refine z0b (z0e 12 h U λa h=>z0k 13 h U λa h=>z0k 14 h U λa h=>z0d 15 U (z0t h U λa h=>?_));refine z0b (z0d 16 U (z0t h U λa h=>?_));refine z0b (z0r ?_);clear hC a0 I M;refine bk (h.sub (L':=[(0,_),(1,_),(5,_),(6,_),(7,_),(8,_),(17,_),(18,_),(19,_)]) (.d8 U U U U U U U U (.cons U .nil))) (tn (sq (sr (mv U (ne' U (nn (cd U (λc2=>?_) (λc2=>?_))))))));exact sr (mv U (asg U (kpL [(4,_)] (.cons U .nil) (nn (rt (tr (rb (tr (tr (rb (tr (r1 results129 U (absurd U c2)))))))))))));refine sk (tn (sq ?_));intro a h;refine z0h (some 15) (λwb w'=>Fr [ka.gy] wb w') z2o ?_;intro w6 q6;have z6:=q6.size;replace hM:=hM.ext q6;replace Z:=Z.ext q6;replace D:=D.ext q6;replace hW:=hW.ext q6;have hC:Fr [ka.gy] w6 w6:=Fr.refl _ _;have a0:=hM;have I:=Z;have M:=D;have b3:=hW;refine z0e 0 h U λa h=>z0o 1 h U λa h=>z0c 2 h U z3g U λa h=>z0l 3 h U (λ_ hw=>I.fr hw se) U y3i U λa h=>z0e 4 h U λa h=>z0w 5 h U (λ_ hw=>M.fr hw se) z2y U λa h=>z0c 6 h U z5e U λa h=>z0l 7 h U (λ_ hw=>M.fr hw se) U na3 U λa h=>z0e 8 h U λa h=>z0d 9 U ?_;refine z0n h (z0a U (z0a U (z0a U z0g))) (mkC func164) (x4j (m.ys.getD i yq0) (m.ys.getD i yq0).pl _ (z6p m.q.p m.rk d (m.ys.getD i yq0).pl) _ (by have x:=(hM.y.ins i (by rw[hM.ly];omega)).sl;rw[show ({ m with ys:=O }:MQ).ys.getD i yq0=m.ys.getD i yq0 from a6 i (Nat.le_refl _)]at x;exact x) hW.sl (λk Z=>(hW.blk k Z).2) oo) ?_;rintro _ w7 ⟨qn,rfl,b7,q7⟩ a h;have z7:=q7.size;replace hM:=hM.ext q7;replace Z:=Z.ext q7;replace D:=D.ext q7;replace hW:=hW.ext q7;replace hC:=hC.next q7;refine z0b (z0e 10 h U λa h=>z0k 11 h U λa h=>z0k 12 h U λa h=>z1m 13 kr kr kr hC (p:=i) h wn U y3o oo oo oo U U λa h=>z0d 14 U (z0z (i:=i) (qn:YQ) h U hM.y.out (by rw[hM.ly];omega) U z3b λw8 a8 q8 _hz a h=>?_));have b6:=hM.fr.step q8 (y6n hM.y.out (by simp[v4m])) (λk Z b0=>absurd (hM.y.out.blk k Z).1 oo);have d7:=λhc:(goE (m.ys.getD i yq0).p (m.ys.getD i yq0).pl (z6p m.q.p m.rk d (m.ys.getD i yq0).pl))=0=>hM.yarn mtd (j:=i) (y:=qn) oo a8 q8 ((b7 hc).2.low oo);clear a8 hM;have z8:=q8.size;replace D:=D.fr q8;replace hW:=hW.fr q8 (by simp[z0v]<;>omega);replace hC:=hC.sp q8;clear _hz;refine z0b (z0d 15 U (z0t h U λa h=>?_));refine z1n (z0r ?_);clear hC a0 I M b3;refine bk (h.sub (L':=[(0,_),(1,_),(8,_),(17,_),(18,_),(19,_)]) (.c6 U U U U U U)) (tn (sr (mv U (ne' U (nn (cd U (λc3=>?_) (λc3=>?_)))))));exact sr (mv U (asg U (kpL [(4,_)] (.cons U .nil) (nn (rt (rb (tr (tr (rb (tr (r1 results129 U ⟨_,rfl,MRet.err (by unfold y2r;rw[y6x (i:=i) (e:=(goE (m.ys.getD i yq0).p (m.ys.getD i yq0).pl (z6p m.q.p m.rk d (m.ys.getD i yq0).pl))) (by simp only[List.length_map];omega) (λj hj=>⟨_,by rw[v6f];exact a7 j hj⟩) (by rw[v6f];unfold z8g;rw[if_neg (by simpa using c1),if_pos c3])]) c3 b6⟩)))))))))));have hM:=d7 (Classical.not_not.1 c3);have a1:=hM;exact sk (bn' (tn (rg (z0x U (wi6 oo) (mv U (nl (lpE (i+1) (.c5 U U U U U) ⟨((((Fr.refl [ka.gy] _).z6 q1 q2 q3 q4 q5 q6).n1 q7).z1 q8),⟨oo,⟨O.set i qn,by rw[List.length_set];exact a5,v6e a5 oo a7 (by unfold z8g;rw[if_neg (by simpa using c1),if_neg (λe=>e (Classical.not_not.1 c3)),(b7 (Classical.not_not.1 c3)).1]),v7q a5 oo a6,hM⟩⟩⟩ oo)))))));obtain rfl:i=6:=by omega
 have b9:=v8z a5 b8 a7;refine ex (te (te (xh (tn (sq ?_)))));intro a h;refine z0h none (λwb w'=>Fr [] wb w') z2o ?_;intro w9 q9;have z9:=q9.size;replace hM:=hM.ext q9;replace Z:=Z.ext q9;have hC:Fr [] w9 w9:=Fr.refl _ _;have a0:=hM;have I:=Z;refine z0e 0 h U λa h=>z0o 1 h U λa h=>z0c 2 h U z3f U λa h=>z1f (vs:=[_,_]) 3 h U (λ_ hw=>(I.ext hw)) z4x U U λa h=>z0e 4 h U λa h=>z0o 5 h U λa h=>z0c 6 h U z3r U λa h=>z0l 7 h U (λ_ hw=>I.ext hw) U na3 U λa h=>z0e 8 h U λa h=>z0d 9 U (z0n h (z0a U (z0a U (z0a U z0g))) (mkC func36) (v0i m.q m.rk d _ hM.b.at hI.B (b2.ext hM.fr.fr) hI.rk hd d0) ?_);rintro _ g3 ⟨⟨gl,rfl,f7,hX⟩,q10⟩ a h;have g8:=q10.size;replace hM:=hM.ext q10;replace Z:=Z.ext q10;replace hC:=hC.next q10;refine z0b (z0e 10 h U λa h=>z0k 11 h U λa h=>z0k 12 h U λa h=>z0d 13 U (z0t h U λa h=>?_));refine z0b (z0d 14 U (z0t h U λa h=>?_));refine z0b (z0r ?_);clear hC a0 I;refine bk (h.sub (L':=[(0,_),(9,_),(10,_)]) (.c3 U U U)) (tn (sq (sr (mv U (ne' U (nn (cd U (λc4=>?_) (λc4=>?_))))))));exact sr (mv U (asg U (nn (rt (tr (r1 results129 U (absurd U c4)))))));refine sk (tn (sq (sr (mv U (lnS U underlying97 (mv U (nn (bl (lpK (ι:=Nat) [(0,_),(79,_),(80,_)] (λi=>[(81,.int .i64 (i:Int))]) (λi w'=>i<=(z3d m.q.p m.rk d).length/\(∃(mi:MQ) (li:List Cx),z6a m.cr ((z3d m.q.p m.rk d).take i)=.ok li/\mi.p={ m.p with ys:=O.map YQ.p,cr:=li }/\MkM τd 145 wS ka w' mi/\Lw.Own z4z 101 w0.heap.size w' (.slice (some ⟨gl,0,none⟩) (z3d m.q.p m.rk d).length (z3d m.q.p m.rk d).length) (z3d m.q.p m.rk d))) (λi=>(z3d m.q.p m.rk d).length-i) 0 (.c4 U U U U) ⟨Nat.zero_le _,⟨{ m with ys:=O },m.cr,rfl,rfl,hM,hX.low oo⟩⟩ ?_)))))))));rintro i g4 ⟨hi,⟨mi,li,a3,a4,hM,hX⟩⟩;have a1:=hM;refine kpC [(0,_),(79,_),(80,_),(81,_)] (.c4 U U U U) (sr (lt' U (nn (sq (cd U (λc5=>?_) (λc5=>?_))))));have b0:i<(z3d m.q.p m.rk d).length:=by omega
 refine sk (tn (sq (bl (sr (z1d (cx0) U hX.sl U x6n z1j (λe7 b5=>?_))))));refine z1q U (b5 _ hX.sl) x3q (al u6s U (λf4 g5 e8 a2 d3 g9=>?_));refine z0j (vs:=[_,_,_,_,_]) U a2 x7w (λe4 a2 d4 h0=>?_) (h1:=(by first|(simp[Value.oneCell',S];done)|exact z2x.one (m.ys.getD i yq0)));refine nn (sr (mv U (z0m U a2 x3q ?_)));replace hM:=a1.ext (d3.z1 d4);replace hX:=(hX.ext d3).fr d4 (by first|exact z8h hX oo|simp[z0v]<;>omega);have b1:=hM.fr;have e0:mi.cr=li:=congrArg MSt.cr a4;refine cl (z0a U (z0a U z0g)) (mkC func165) (u4c wS { ka with wk:=e4 } mi ((z3d m.q.p m.rk d).getD i cx0) _ hM.mark (by rw[e0];exact y7e hI.cv a3) (u9f _ (z1a oo))) U ?_;intro _ g7 hR;obtain⟨rfl,a9,m2,e1⟩:=hR.split;have e5:=a9.kp.size;simp only at e5;replace hX:=a9.kp.own hX (hM.gcneO hX) dd;refine asg U (nn (sr (mv U (ne' U (nn (cd U (λc6=>?_) (λc6=>?_)))))));refine sr (mv U (asg U (kpL [(4,_)] (.cons U .nil) (nn (rt (rb (tr (tr (rb (tr (r1 results129 U ?_)))))))))));exact⟨_,rfl,MRet.err (by unfold y2r;rw[b9];simp only;rw[x6x a3 b0 (by have x:=v9b (y0k c6);rw[show mi.p.cr=li from congrArg MSt.cr a4]at x;exact x)]) c6 (a9.un b1)⟩;obtain⟨d5,e3⟩:=e1 (Classical.not_not.1 c6);have d6:=d5.unmark b1;obtain⟨l2,d9,e2⟩:=u2s e3;refine sk (bn' (tn (rg (z0x U (wi6 oo) (mv U (nl ?_))))));exact lpE (i+1) (.c4 U U U U) ⟨oo,⟨m2,l2,by rw[y1k b0,y2h a3,<-(show mi.cr=li from congrArg MSt.cr a4)];exact d9,by rw[e2,a4],d6,hX⟩⟩ oo;obtain rfl:i=(z3d m.q.p m.rk d).length:=by omega
 exact ex (te (te (xh (tn (sr (asg U (nn (rt (r1 results129 U ⟨_,rfl,MRet.ok (by rw[List.take_length]at a3;unfold y2r;rw[b9,a4];simp only;rw[show z6a m.p.cr (z3d m.p.B m.p.rk d)=.ok li from a3]) hM⟩)))))))))
theorem y8f (p:MSt)(d:Int):z9l p d=match y2r p d with
    | .error e=>.error e
    | .ok q=>.ok { q with rk:=p.rk+stI d }:=by
  unfold z9l y2r
  cases z4y p d p.ys with
  | error e=>rfl
  | ok ys=>
    simp only
    cases z6a p.cr (z3d p.B p.rk d) with
    | error e=>rfl
    | ok cr=>rfl
theorem v6b {p:MSt}{r:Int}(n:Nat)(h:p.rk=r):z5t n p r=.ok p:=by
 cases n with
 | zero=>rfl
 | succ n=>unfold z5t;rw[if_pos h]
theorem v8l {p:MSt}{r e:Int}{n:Nat}(h:p.rk≠r)(hn:1<=n)(D:y2r p (if r<p.rk then 0 else 1)=.error e):z5t n p r=.error e:=by
 obtain⟨k,rfl⟩:∃k,n=k+1:=⟨n-1,oo⟩;unfold z5t;rw[if_neg h,y8f,D]
theorem u3z {p q:MSt}{r:Int}{n:Nat}(h:p.rk≠r)(hn:1<=n)(D:y2r p (if r<p.rk then 0 else 1)=.ok q):z5t n p r=z5t (n-1) { q with rk:=p.rk+stI (if r<p.rk then 0 else 1) } r/\z9l p (if r<p.rk then 0 else 1)=.ok { q with rk:=p.rk+stI (if r<p.rk then 0 else 1) }:=by
 obtain⟨k,rfl⟩:∃k,n=k+1:=⟨n-1,oo⟩
 constructor
 ·conv=>lhs;unfold z5t
  rw[if_neg h,y8f,D];rfl
 rw[y8f,D]
theorem u3l (wS:World)(ka:MA)(m:MQ)(o:MOp)(w0:World)(hM:MkM τd 145 wS ka w0 m)(hi:MInv m.p)(b0:StT wS)(c9:-4<=o.r/\o.r<=4):Rets prog 68 #[.pointer (some ⟨ka.gk,0,none⟩),opV o] w0 λr w'=>MRet τd 145 wS ka (v6g m.p o) r w':=by
 have d1:=hM.fr.size;have b4:=hM.gk;have b9:=hM.k.lt;have d0:-4<=m.rk/\m.rk<=4:=hi.rk;refine we [(0,.pointer (some ⟨ka.gk,0,none⟩)),(1,opV o)] func68 U ntmps68 U (.c2 U U) ?_;have a1:=hM;refine sr (bx U (λg3 w1 b8 I q1 z1=>(asg U (nn (sq (bl ?_))))));replace hM:=a1.ext q1;refine lpK (ι:=Nat) [(0,_),(3,_)] (λn=>[]) (λn w'=>∃D:MQ,(z5t 8 m.p o.r=z5t n D.p o.r/\MInv D.p/\-(n:Int)<=o.r-D.rk/\o.r-D.rk<=n)/\MkM τd 145 wS ka w' D/\Blk w' g3 44 [.int .u8 o.k,.int .u8 o.d,.int .u8 o.b,.int .i64 o.p,.int .u8 o.y,.int .i64 o.r]) (λn=>n) 8 (.c2 U U) ⟨m,⟨rfl,hi,oo,oo⟩,hM,I⟩ ?_;rintro n w2 ⟨D,⟨a3,a0,b6,b7⟩,hM,I⟩;have a1:=hM;have a7:=I.lt;refine kpC [(0,_),(3,_)] (.c2 U U) ?_;have Z:=hM.k;have b5:-4<=D.rk/\D.rk<=4:=a0.rk;refine sq (sq ?_);intro a h;refine z0h none (λwb w'=>Fr [] wb w') z2o ?_;intro w3 q3;replace I:=I.ext q3;replace Z:=Z.ext q3;have hC:Fr [] w3 w3:=Fr.refl _ _;have O:=I;have M:=Z;refine z0e 0 h U λa h=>z0o 1 h U λa h=>z0c 2 h U z3r U λa h=>z0l 3 h U (λ_ hw=>M.ext hw) U na3 U λa h=>z0c 4 h U y2w U λa h=>z0l 5 h U (λ_ hw=>O.ext hw) U na3 U λa h=>v9e 6 hC h wn U U U U λa h=>z0r ?_;clear hC O M;refine bk (h.sub (L':=[(0,_),(3,_),(14,_)]) (.c3 U U U)) (tn (cd U (λc0=>?_) (λc0=>?_)));have a5:D.p.rk≠o.r:=c0;refine sk (tn (bl (sq ?_)));intro a h;refine z0h none (λwb w'=>Fr [] wb w') z2o ?_;intro w4 q4;replace Z:=Z.ext q4;have hC:Fr [] w4 w4:=Fr.refl _ _;have M:=Z;refine z0e 0 h U λa h=>z0o 1 h U λa h=>z0c 2 h U z3r U λa h=>z0l 3 h U (λ_ hw=>M.ext hw) U na3 U λa h=>z5n 4 h U (by first|exact i6 oo|rfl) U λa h=>z0d 5 U (z0t h U λa h=>?_);refine z0b (z0d 6 U (z0t h U λa h=>?_));refine z0b (z0r ?_);clear hC M;refine bk (h.sub (L':=[(0,_),(3,_),(5,_),(6,_)]) (.c4 U U U U)) (tn (jn (ι:=Unit) [(0,_),(3,_)] (λ_j=>[(5,.int .u8 (if o.r<D.rk then (0:Int) else 1)),(6,.int .i64 (D.rk+stI (if o.r<D.rk then (0:Int) else 1)))]) (λ_j w'=>Fr [] w4 w') (.c2 U U) ?_ ?_));refine sq ?_;intro a h;refine z0h none (λwb w'=>Fr [] wb w') z2o ?_;intro w5 q5;replace I:=I.ext (q4.n1 q5);replace Z:=Z.ext q5;have hC:Fr [] w5 w5:=Fr.refl _ _;have O:=I;have M:=Z;refine z0c 0 h U y2w U λa h=>z0l 1 h U (λ_ hw=>O.ext hw) U na3 U λa h=>z0e 2 h U λa h=>z0o 3 h U λa h=>z0c 4 h U z3r U λa h=>z0l 5 h U (λ_ hw=>M.ext hw) U na3 U λa h=>x7d 6 hC h wn U U λa h=>z0r ?_;clear hC O M;refine bk (h.sub (L':=[(0,_),(3,_),(5,_),(6,_),(26,_)]) (.c5 U U U U U)) (tn (cd U (λc1=>?_) (λc1=>?_)));intro a h;refine z0h none (λwb w'=>Fr [] wb w') z2o ?_;intro w6 q6;replace Z:=Z.ext q6;have hC:Fr [] w6 w6:=Fr.refl _ _;have M:=Z;refine z0e 0 h U λa h=>z0o 1 h U λa h=>z0c 2 h U z3r U λa h=>z0l 3 h U (λ_ hw=>M.ext hw) U na3 U λa h=>z2v 4 h U (by first|exact i6 oo|rfl) U λa h=>z0d 5 U (z0t h U λa h=>?_);refine z0b (z0d 6 U (z0t h U λa h=>?_));refine z0b (z0r ?_);clear hC M;refine bk (h.sub (L':=[(0,_),(3,_),(5,_),(6,_)]) (.c4 U U U U)) ?_;exact jE (()) (.c4 U U (congrArg (λz=>some (Value.int .u8 z)) (by first|exact(if_pos c1).symm|exact(if_neg c1).symm)) (congrArg (λz=>some (Value.int .i64 z)) (by first|(rw[show (if o.r<D.rk then (0:Int) else 1)=0 from if_pos c1,show stI 0 = -1 from U];omega)|(rw[show (if o.r<D.rk then (0:Int) else 1)=1 from if_neg c1];rfl)))) (q5.n1 q6);refine sk ?_;exact jE (()) (.c4 U U (congrArg (λz=>some (Value.int .u8 z)) (by first|exact(if_pos c1).symm|exact(if_neg c1).symm)) (congrArg (λz=>some (Value.int .i64 z)) (by first|(rw[show (if o.r<D.rk then (0:Int) else 1)=0 from if_pos c1,show stI 0 = -1 from U];omega)|(rw[show (if o.r<D.rk then (0:Int) else 1)=1 from if_neg c1];rfl)))) q5;rintro _j w7 q7;refine kpC [(0,_),(3,_),(5,_),(6,_)] (.c4 U U U U) (sq (sr (mv U (mv U ?_))));replace hM:=a1.ext (q3.n2 q4 q7);replace I:=I.ext (q4.n1 q7);have a4:=hM.fr;refine cl (z0a U (z0a U z0g)) (mkC func129) (u3v wS { ka with wk:=w7 } D (if o.r<D.rk then (0:Int) else 1) _ hM.mark a0 b0 (by split<;>simp) (by have hx:-4<=D.rk/\D.rk<=4:=a0.rk;unfold stI;split<;>split at *<;>omega)) U ?_;intro _ w8 hR;obtain⟨rfl,a2,m2,b2⟩:=hR.split;have z8:=a2.kp.size;simp only at z8;replace I:=a2.kp.blk I (by have:=hM.gcne I;exact this) dd;refine asg U (nn (sr (mv U (ne' U (nn (cd U (λc2=>?_) (λc2=>?_)))))));exact sr (mv U (asg U (kpL [(4,_)] (.cons U .nil) (nn (rt (tr (rb (tr (rb (tr (r1 results68 U ⟨_,rfl,MRet.err (by unfold v6g;rw[a3];exact v8l a5 oo (y0k c2)) c2 (a2.un a4)⟩)))))))))));obtain⟨a9,b3⟩:=b2 (Classical.not_not.1 c2);replace hM:=a9.unmark a4;have a1:=hM;have Z:=hM.k;have a6:=u3z (p:=D.p) (r:=o.r) (n:=n) a5 oo b3;have a8:=y8c a0 (by have hx:-4<=D.rk/\D.rk<=4:=a0.rk;show -4<=D.rk+stI (if o.r<D.rk then (0:Int) else 1)/\D.rk+stI (if o.r<D.rk then (0:Int) else 1)<=4;unfold stI;split<;>split at *<;>omega) a6.2;refine sk (tn (rg (mv U (mv U (nlc U (fad U z3r (z3l U Z U sz3 (λw9 b1 q9 z9=>?_))))))));replace hM:=hM.beds mtd (q:=m2.q) (r:=D.rk+stI (if o.r<D.rk then (0:Int) else 1)) hM.b b1 q9 hM.fb;refine kpL [(0,_),(3,_)] (.c2 U U) (nl (bn' ?_));replace I:=I.fr q9;exact lpE ((n-1)) (.c2 U U) ⟨{ m2 with rk:=D.rk+stI (if o.r<D.rk then (0:Int) else 1) },⟨by rw[a3,a6.1],a8.1,by show -((n-1:Nat):Int)<=o.r-(D.rk+stI (if o.r<D.rk then (0:Int) else 1));unfold stI;split<;>split at *<;>omega,by show o.r-(D.rk+stI (if o.r<D.rk then (0:Int) else 1))<=((n-1:Nat):Int);unfold stI;split<;>split at *<;>omega⟩,hM,I⟩ oo;refine ex (te (te (xh (tn (sr (asg U (nn (rt (r1 results68 U ?_)))))))));replace hM:=a1.ext q3;exact⟨_,rfl,MRet.ok (by unfold v6g;rw[a3];exact v6b n (show D.rk=o.r by omega)) hM⟩
theorem u9m:CallOf prog 20:=mkC func20
theorem j3g (w:World):(zeroValue 149).run prog w=.ok .nilFunc w:=kr
abbrev v4p (F:Nat):Value:=.func (.func F) #[] #[]
def j0o:Int->Option Value:=λk'=>if k'=8 then some (v4p 73) else (if k'=7 then some (v4p 72) else (if k'=6 then some (v4p 71) else (if k'=5 then some (v4p 70) else (if k'=4 then some (v4p 69) else (if k'=3 then some (v4p 68) else (if k'=2 then some (v4p 67) else (if k'=1 then some (v4p 66) else (none))))))))
theorem u6p (w0:World):Rets prog 27 #[] w0 λr w'=>(∃g,r=.map (some g)/\w0.heap.size<=g/\MapF kV w' g j0o)/\Fr [] w0 w':=by
 refine we [] func27 U ntmps27 U .nil (sr (asg U (nn (sr (y4b kV U (λI w1 M D O z1=>(z3e (V:=kV) (k:=1) U D y5l underlying84 (λw2 D Z z2=>(z3e (V:=kV) (k:=2) U D y5l underlying84 (λw3 D q3 z3=>(z3e (V:=kV) (k:=3) U D y5l underlying84 (λw4 D q4 z4=>?_))))))))))));exact z3e (V:=kV) (k:=4) U D y5l underlying84 (λw5 D q5 z5=>(z3e (V:=kV) (k:=5) U D y5l underlying84 (λw6 D q6 z6=>(z3e (V:=kV) (k:=6) U D y5l underlying84 (λw7 D q7 z7=>(z3e (V:=kV) (k:=7) U D y5l underlying84 (λw8 D q8 z8=>(z3e (V:=kV) (k:=8) U D y5l underlying84 (λw9 D q9 z9=>(mv U (asg U (nn (rt (r1 results27 U ⟨_,rfl,⟨I,rfl,oo,D⟩,(((O.z6 Z q3 q4 q5 q6 q7).z1 q8).z1 q9)⟩))))))))))))))
theorem j0a (wS:World)(D:MA)(m:MQ)(o:MOp)(w0:World)(hM:MkM τd 145 wS D w0 m)(I:MInv m.p)(Z:StT wS)(hc:y5k o=0):∃F:Nat,j0o o.k=some (v4p F)/\CallOf prog F/\Rets prog F #[.pointer (some ⟨D.gk,0,none⟩),opV o] w0 λr w'=>MRet τd 145 wS D (opM m.p o) r w':=by
 obtain⟨hk,a0,O,a1,M,hr⟩:=z7c hc;unfold opM;rcases hk with e|e|e|e|e|e|e|e<;>rw[e]at a0 O a1 M hr ⊢
 exact⟨_,rfl,(mkC func66),u7b wS D m o w0 hM (O sp0)⟩;exact⟨_,rfl,(mkC func67),u4x wS D m o w0 hM (O sp0)⟩;exact⟨_,rfl,(mkC func68),u3l wS D m o w0 hM I Z (hr sp0)⟩;exact⟨_,rfl,(mkC func69),u3i wS D m o w0 hM I (O sp0) (M sp0)⟩;exact⟨_,rfl,(mkC func70),u6a wS D m o w0 hM I (O sp0) (M sp0)⟩;exact⟨_,rfl,(mkC func71),u3d wS D m o w0 hM I (O sp0) (M sp0)⟩;exact⟨_,rfl,(mkC func72),u3u wS D m o w0 hM I (M sp0)⟩;exact⟨_,rfl,(mkC func73),u5r wS D m o w0 hM I (M sp0)⟩
theorem j0i (wS:World)(M:MA)(m:MQ)(o:MOp)(gl:Nat)(w0:World)(hM:MkM τd 145 wS M w0 m)(hi:MInv m.p)(a2:StT wS)(hl:MapF kV w0 gl j0o):Rets prog 28 #[.pointer (some ⟨M.gk,0,none⟩),.map (some gl),opV o] w0 λr w'=>MRet τd 145 wS M (doM m.p o) r w':=by
 refine we [(0,.pointer (some ⟨M.gk,0,none⟩)),(1,.map (some gl)),(2,opV o)] func28 U ntmps28 U (.c3 U U U) ?_;have a1:=hM;have a4:=hl;refine sr (bx U (λg5 w1 a5 D q1 z1=>(asg U (nn (sq (sr (z0m U D y3q (cl (ev1 U) u9m (y0n _ _) U ?_))))))));rintro _ w2 ⟨rfl,q2⟩;refine asg U (nn (sr (mv U (ne' U (nn (cd U (λZ=>?_) (λZ=>?_)))))));refine sr (mv U (asg U (kpL [(6,_)] (.cons U .nil) (nn (rt (tr (r1 results28 U ?_)))))));replace hM:=a1.ext (q1.n1 q2);exact⟨_,rfl,MRet.err (by unfold doM;rw[if_pos Z]) Z hM.fr⟩;replace hM:=a1.ext (q1.n1 q2);have hc:y5k o=0:=Classical.not_not.1 Z;have I:=λw hM=>j0a wS M m o w hM hi a2 hc;obtain⟨F,hF,a3,-⟩:=I _ hM;have O:∀w,MkM τd 145 wS M w m->Rets prog F #[.pointer (some ⟨M.gk,0,none⟩),opV o] w λr w'=>MRet τd 145 wS M (opM m.p o) r w':=λw hM=>by
  obtain⟨F',a0,-,h'⟩:=I w hM;rw[hF]at a0;cases a0;exact h'
 refine sk (tn (sr (mv U (fad U z7d ?_))));replace D:=D.ext q2;refine z0i U D U x8m ?_;replace hl:=a4.ext (q1.n1 q2);refine y8g (V:=kV) (k:=o.k) (f:=j0o) (v:=v4p F) U U hl y5l underlying84 j3g (by rw[hF];rfl) U (mv U (z0m U D y3q (clv (us:=[]) (ws:=[]) U (ev2 U) a3 (O w2 hM) U (by intro g e;cases e) ?_)));rintro a6 w3 hR;exact asg U (kpL [(6,_)] (.cons U .nil) (nn (rt (r1 results28 U ⟨_,rfl,by rw[show doM m.p o=opM m.p o from if_neg Z];exact hR⟩))))
end Go.Proofs.YtlfdhllfmoplgaaGreatDoor
namespace Go.G08
open Go.Lw Go.G21
theorem v6w (l:List Cx)(a b:LId)(n:Int):(y9l l a b n).length<=l.length+1:=by
 unfold y9l;split<;>simp
theorem v5p (l:List Cx)(a b:LId):(x8u l a b).length<=l.length+1:=Nat.le_trans (List.length_filter_le _ _) oo
theorem v5l {l l':List Cx}{c:Cx}(h:x0x l c=.ok l'):l'.length<=l.length+1:=by
 rw[v3h]at h;split at h;cases h;split at h;cases h;exact v5p ..;cases h;exact v6w ..
theorem x0b:∀ {r l l':List Cx},z6a l r=.ok l'->l'.length<=l.length+r.length
 | [],l,l',h=>by cases h;exact Nat.le_refl _
 | c::r,l,l',h=>by
  unfold z6a at h
  split at h
  ·cases h
  rename_i I D
  have:=v5l D
  have:=x0b h
  simp only[List.length_cons];omega
theorem y5c {B:Bd}(h:BdOk B)(r d:Int):(z3d B r d).length<=640:=Nat.le_trans (y3t h r d) (by have:=h.lb;omega)
theorem x9q {p q:MSt}{d:Int}(h:BdOk p.B)(e:z9l p d=.ok q):q.B=p.B/\q.cr.length<=p.cr.length+640:=by
 unfold z9l at e;split at e;cases e;split at e;cases e;rename_i ys M I D;cases e;have:=x0b D;have:=y5c h p.rk d;exact⟨rfl,sm⟩
theorem x0q:∀ {n:Nat} {p q:MSt} {r:Int},BdOk p.B->z5t n p r=.ok q->q.cr.length<=p.cr.length+n*640
 | 0,p,q,r,h,e=>by cases e;omega
 | n+1,p,q,r,h,e=>by
  unfold z5t at e
  split at e
  ·cases e;omega
  split at e
  ·cases e
  rename_i M D
  obtain⟨I,hl⟩:=x9q h D
  have:=x0q (I▸h) e
  rw[Nat.add_mul];omega
theorem x2v {p q:MSt}{y D en:Int}(e:y6e p y D en=.ok q):q.cr=p.cr:=by
 unfold y6e at e;split at e;cases e;cases e;rfl
theorem v1t {p q:MSt}{o:MOp}{D st:List LId}(e:x1a p o D st=.ok q):q.cr=p.cr:=by
 unfold x1a at e;split at e;cases e;split at e;cases e;cases e;rfl
theorem v4h {p q:MSt}{o:MOp}(h:BdOk p.B)(e:opM p o=.ok q):q.cr.length<=p.cr.length+5120:=by
 have s:∀ {x:MSt},x.cr=p.cr->x.cr.length<=p.cr.length+5120:=λI=>by rw[I];omega
 unfold opM at e;split at e;unfold inM at e;split at e;cases e;cases e;exact s U;split at e;unfold x8l at e;split at e;cases e;cases e;exact s U;split at e;have:=x0q h e;omega;split at e;unfold y3a at e;split at e;cases e;split at e;cases e;rename_i M D;exact s ((v1t e).trans (x2v D));split at e;unfold y2d at e;split at e;cases e;split at e;cases e;rename_i M D;split at e;cases e;exact s ((v1t e).trans (x2v D));split at e;unfold y5u at e;split at e;cases e;exact s (x2v e);split at e;unfold z9k at e;repeat (split at e;· cases e)
 cases e;exact s U;unfold y4r at e;split at e;cases e;cases e;exact s U
theorem y8p:∀ {l:List MOp} {i:Nat} {p q:MSt},MInv p->z4u i p l=.ok q->q.cr.length<=p.cr.length+l.length*5120
 | [],i,p,q,h,e=>by cases e;simp
 | o::l,i,p,q,h,e=>by
  unfold z4u at e
  split at e
  ·cases e
  rename_i M D
  have I:=x6d h D
  have O:=y8p I e
  have Z:M.cr.length<=p.cr.length+5120:=by
   unfold doM at D
   split at D
   ·cases D
   exact v4h h.B D
  rw[List.length_cons,Nat.add_mul];omega
theorem z6o {a b:LId}:z6k a b<0↔a.y<b.y\/a.y=b.y/\a.n<b.n:=by
 unfold z6k;(repeat' split)<;>constructor<;>intro h<;>omega
theorem y3x {a b:LId}:z6k a b=0↔a=b:=by
 obtain⟨M,I⟩:=a;obtain⟨D,bn⟩:=b;rw[LId.mk.injEq];unfold z6k;dsimp only;(repeat' split)<;>constructor<;>intro h<;>omega
theorem y4a {T T':Tb}{l:Lp}(h:y4t T l)(I:∀i,z4k T i->z4k T' i):y4t T' l:=⟨h.1,h.2.1,λi D=>I i (h.2.2.1 i D),h.2.2.2⟩
theorem x5j {T:Tb}(h6:T.length=6){i:LId}(h:z4k T i):∃y n:Nat,y<6/\n<z3h T y/\i=⟨(y:Int)+1,(n:Int)⟩:=by
 obtain⟨M,O,Z,h4⟩:=h;obtain⟨I,D⟩:=i;simp only at M O Z h4;exact⟨(I-1).toNat,D.toNat,oo,oo,by rw[show (((I-1).toNat:Nat):Int)+1=I by omega,show ((D.toNat:Nat):Int)=D by omega]⟩
theorem y3p {T:Tb}{j:Nat}(M:T.length=6)(O:j<6){l:Lp}{i:LId}:z4k (T.set j (T.getD j []++[l])) i↔z4k T i\/i=⟨(j:Int)+1,(z3h T j:Int)⟩:=by
 have D:j<T.length:=by omega
 constructor;intro h;obtain⟨y,n,Z,I,rfl⟩:=x5j (by rw[List.length_set];exact M) h;rw[z9d D]at I;by_cases e:j=y;subst e;rw[if_pos U,List.length_append,List.length_singleton,show (T.getD j []).length=z3h T j from U]at I;by_cases e2:n<z3h T j;exact .inl (z9i D e2);exact .inr (by rw[show n=z3h T j by omega]);rw[if_neg e]at I;exact .inl (z9i oo I);rintro(h|rfl);exact y9d D h;exact z9i (by rw[List.length_set];exact D) (by rw[z9d D,if_pos U,List.length_append,List.length_singleton];exact Nat.lt_succ_self _)
structure TabR (T:Tb) (rk:LId->Nat):Prop where
  six:T.length=6
  rts:∀y,y<6->∀n,n<z3h T y->y4t T (lpA T y n)/\(n=0->(lpA T y n).nw=true)
  rkd:Ranked T rk
  top:∀i,z4k T i->rk i<z5p T
theorem TabR.add {T:Tb}{rk:LId->Nat}(h:TabR T rk){j:Nat}(hj:j<6){l:Lp}(hr:y4t T l)(h0:z3h T j=0->l.nw=true) :
    TabR (T.set j (T.getD j []++[l])) (rkX rk j (z3h T j) (z5p T)):=by
  have h6:=h.six
  have a1:j<T.length:=by omega
  have a3:z5p (T.set j (T.getD j []++[l]))=z5p T+1:=by
    have:=y8d T j (T.getD j []++[l]) a1
    rw[List.length_append,List.length_singleton,show (T.getD j []).length=z3h T j from U]at this
    omega
  have D:∀i,z4k T i->rkX rk j (z3h T j) (z5p T) i=rk i:=λi M=>by
    obtain⟨y,n,I,O,rfl⟩:=x5j h6 M
    unfold rkX
    rw[if_neg]
    rintro⟨e1,e2⟩
    simp only at e1 e2
    have:y=j:=by omega
    subst this;omega
  have Z:rkX rk j (z3h T j) (z5p T) ⟨(j:Int)+1,(z3h T j:Int)⟩=z5p T:=by
    unfold rkX
    rw[if_pos ⟨rfl,sp0⟩]
    show z5p T+((z3h T j:Int)-(z3h T j:Int)).toNat=z5p T
    omega
  have hm:∀i,z4k T i->z4k (T.set j (T.getD j []++[l])) i:=λi M=>(y3p h6 hj).2 (.inl M)
  -- an old loop,or the new one
  have a2:∀y,y<6->∀n,n<z3h (T.set j (T.getD j []++[l])) y->(n<z3h T y/\lpA (T.set j (T.getD j []++[l])) y n=lpA T y n)\/(y=j/\n=z3h T j/\lpA (T.set j (T.getD j []++[l])) y n=l):=λy I n O=>by
    rw[z9d a1]at O
    rw[u4v a1]
    by_cases e:j=y
    · subst e
      rw[if_pos U,List.length_append,List.length_singleton,show (T.getD j []).length=z3h T j from U]at O
      rw[if_pos U]
      by_cases e2:n<z3h T j
      · exact .inl ⟨e2,if_pos e2⟩
      · obtain rfl:n=z3h T j:=by omega
        exact .inr ⟨rfl,rfl,by rw[if_neg e2,Nat.sub_self];rfl⟩
    · rw[if_neg e]at O
      exact .inl ⟨O,by rw[if_neg e]⟩
  have hp:∀ {y n:Nat},y<6->n<z3h T y->z4k T ⟨(y:Int)+1,(n:Int)⟩:=λI O=>z9i oo O
  refine⟨by rw[List.length_set];exact h6,λy I n O=>?_,⟨λy I n O i M=>?_,λy I n m a0 a4=>?_⟩,λi M=>?_⟩
  · rcases a2 y I n O with ⟨k,e⟩|⟨rfl,rfl,e⟩
    · rw[e];exact⟨y4a (h.rts y I n k).1 hm,(h.rts y I n k).2⟩
    · rw[e];exact⟨y4a hr hm,h0⟩
  · rcases a2 y I n O with ⟨k,e⟩|⟨rfl,rfl,e⟩
    · rw[e]at M
      rw[D _ (hp I k),D _ ((h.rts y I n k).1.2.2.1 i M)]
      exact h.rkd.need y I n k i M
    · rw[e]at M
      rw[Z,D _ (hr.2.2.1 i M)]
      exact h.top i (hr.2.2.1 i M)
  · rcases a2 y I m a4 with ⟨k,_⟩|⟨rfl,rfl,_⟩
    · rw[D _ (hp I k),D _ (hp I (show n<z3h T y by omega))]
      exact h.rkd.mono y I n m a0 k
    · rw[Z,D _ (hp I a0)]
      exact h.top _ (hp I a0)
  · rw[a3]
    rcases(y3p h6 hj).1 M with k|rfl
    · rw[D _ k];have:=h.top i k;omega
    · rw[Z];omega
theorem v7s {T:Tb}{j:Nat}(D:j<T.length)(l:Lp)(i:LId):(z9f (T.set j (T.getD j []++[l]))).count i=(z9f T).count i+l.th.count i:=by
 have h:=z7t x5f T j [] (T.getD j []++[l]) i D;have e:x5f (T.getD j []++[l])=x5f (T.getD j [])++l.th:=by unfold x5f;simp
 unfold z9f;rw[e,List.count_append]at h;omega
theorem x6h {T:Tb}{rk:LId->Nat}(h:TabR T rk){i:LId}(D:i∈z9f T):z4k T i:=by
 unfold z9f at D;obtain⟨r,O,D⟩:=List.mem_flatMap.1 D;unfold x5f at D;obtain⟨l,hl,D⟩:=List.mem_flatMap.1 D;obtain⟨y,Z,rfl⟩:=List.getElem_of_mem O;obtain⟨n,M,rfl⟩:=List.getElem_of_mem hl;have I:T.getD y []=T[y]:=by rw[List.getD,List.getElem?_eq_getElem Z];rfl
 have en:lpA T y n=T[y][n]:=by unfold lpA;rw[I,List.getD,List.getElem?_eq_getElem M];rfl
 have h6:=h.six;have:=(h.rts y oo n (by unfold z3h;rw[I];exact M)).1.2.2.1 i (by rw[en];exact List.mem_append_left _ D);exact this
theorem v1n {T:Tb}{st:List Pa}{p:Pa}(h:∀q∈st,z4k T q.id)(hp:z4k T p.id):∀q∈y0c st p,z4k T q.id:=by
 unfold y0c;split;exact λq D=>h q (List.mem_of_mem_take D);intro q D;rcases List.mem_append.1 D with k|k
 exact h q k;rw[List.mem_singleton.1 k];exact hp
theorem x1r {T:Tb}:∀ {l st:List Pa},(∀q∈st,z4k T q.id)->(∀q∈l,z4k T q.id)->∀q∈z4w st l,z4k T q.id
 | [],_,h,_=>h
 | p::l,st,h,hl=>x1r (l:=l) (v1n h (hl p sp0)) (λq D=>hl q (List.mem_cons_of_mem _ D))
theorem x0a:∀(l st:List Pa),y5r (st++l)->z4w st l=st++l
 | [],st,_=>by simp[z4w]
 | p::l,st,h=>by
  have I:y0c st p=st++[p]:=by
   unfold y0c
   rw[if_neg]
   rintro⟨Z,hc⟩
   have D:=(h st.length sp0).2 Z
   have M:(st++p::l).getD (st.length-1) pa0=st.getD (st.length-1) pa0:=by
    rw[List.getD,List.getElem?_append_left oo,List.getD]
   have O:(st++p::l).getD st.length pa0=p:=by simp[List.getD]
   rw[M,O]at D
   exact D hc
  show z4w (y0c st p) l=_
  rw[I,x0a l (st++[p]) (by simpa using h)]
  simp
theorem u2p {l:List Pa}(h:y5r l):(z4w [] l).length=l.length:=by rw[x0a l [] (by simpa using h)];rfl
theorem v3z {l:List Pa}(h:y5r l):∀p∈l,z5z p.d:=λp I=>by
 obtain⟨i,D,rfl⟩:=List.getElem_of_mem I
 have:=(h i D).1.2
 rwa [List.getD,List.getElem?_eq_getElem D]at this
theorem x1i (h:Hd):∀l:List Hd,(y1y h l).Perm (h::l)
 | []=>.refl _
 | x::l=>by
  unfold y1y
  split
  ·exact .refl _
  exact((x1i h l).cons x).trans (.swap h x l)
theorem x8s (l:List Hd):(z5i l).Perm l:=by
 have h:∀(l st:List Hd),(l.foldl (λa h=>y1y h a) st).Perm (st++l):=by
  intro l;induction l with
  | nil=>intro st;simp
  | cons x l ih=>
   intro st;show (l.foldl _ (y1y x st)).Perm _;exact(ih _).trans (((x1i x st).append_right l).trans (by simpa using (List.perm_middle (a:=x) (l₁:=st) (l₂:=l)).symm))
 have e:=h l [];rw[List.nil_append]at e;exact e
theorem y2i (B:Bd)(r:Int):(z2t B r).Perm (v4i B r):=x8s _
theorem v2t (b r:Int)(l:Bed):(hds b r l l.length).map Hd.id=l.flatten:=by
 have h:∀i,i<=l.length->(hds b r l i).map Hd.id=(l.take i).flatten:=by
  intro i;induction i with
  | zero=>intro _;simp[hds]
  | succ i ih=>
   intro D;rw[y7w,List.map_append,ih oo,List.take_add_one,List.flatten_append,List.getElem?_eq_getElem oo,List.getD,List.getElem?_eq_getElem oo];simp[hdS,Function.comp_def]
 rw[h _ (Nat.le_refl _),List.take_length]
theorem y7t (B:Bd)(r:Int):((z2t B r).map Hd.id).Perm B.flat:=by
 refine((y2i B r).map _).trans ?_;unfold v4i Bd.flat;rw[List.map_append,v2t,v2t]
theorem u6i {B:Bd}{r f t:Int}{q:Pa}(h:q∈btw (z2t B r) f t):q.id∈B.flat:=by
 have I:∀x∈z2t B r,x.id∈B.flat:=λx D=>(y7t B r).mem_iff.1 (List.mem_map_of_mem D);unfold btw at h;split at h;obtain⟨x,D,rfl⟩:=List.mem_map.1 h;exact I x (List.mem_filter.1 D).1;obtain⟨x,D,rfl⟩:=List.mem_map.1 (List.mem_reverse.1 h);exact I x (List.mem_filter.1 D).1
theorem x5t {B:Bd}{k:Nat}{x:LId}(h:x∈B.b.getD k []):x∈B.b.flatten:=by
 by_cases e:k<B.b.length;rw[List.getD,List.getElem?_eq_getElem e]at h;exact List.mem_flatten.2 ⟨_,List.getElem_mem e,h⟩;rw[List.getD,List.getElem?_eq_none oo]at h;cases h
theorem x1w {B:Bd}{r d p:Int}{i:Nat}{q:Pa}(h:q∈y5m B r d p i):q.id∈B.flat:=by
 unfold y5m at h;obtain⟨k,_,h⟩:=List.mem_flatMap.1 h;unfold x0d at h;split at h;cases h;obtain⟨x,D,rfl⟩:=List.mem_map.1 h;exact List.mem_append_right _ (x5t D)
theorem x9d {B:Bd}{r d p:Int}{q:Pa}(h:q∈z6p B r d p):q.id∈B.flat:=by
 unfold z6p at h;split at h;exact x1w (List.mem_reverse.1 h);exact x1w h
theorem v3a {B:Bd}{n:Int}{x:LId}(h:x∈B.atC 0 n):x∈B.f.flatten:=by
 unfold Bd.atC at h;split at h;unfold Bd.at at h;rw[if_pos U]at h;have D:atB B.f n≠[]:=λe=>by rw[e]at h;cases h
 exact List.mem_flatten.2 ⟨_,v1g D,h⟩;cases h
theorem x4y {B:Bd}{r d:Int}{i:Nat}{c:Cx}(hn:B.flat.Nodup)(h:c∈x6y B r d i):c.a∈B.flat/\c.b∈B.flat/\c.a≠c.b/\(c.n=1\/c.n = -1):=by
 unfold x6y at h;obtain⟨k,_,h⟩:=List.mem_flatMap.1 h;unfold u0j at h;obtain⟨x,Z,h⟩:=List.mem_flatMap.1 h;obtain⟨o,O,rfl⟩:=List.mem_map.1 h;have I:x∈B.b.flatten:=x5t Z;have M:o∈B.f.flatten:=v3a (List.mem_reverse.1 O);have D:o≠x:=(List.nodup_append.1 hn).2.2 o M x I;unfold x6l;split;exact⟨List.mem_append_left _ M,List.mem_append_right _ I,D,.inl U⟩;exact⟨List.mem_append_right _ I,List.mem_append_left _ M,D.symm,.inr U⟩
theorem v2g {B:Bd}{r d:Int}{c:Cx}(hn:B.flat.Nodup)(h:c∈z3d B r d):c.a∈B.flat/\c.b∈B.flat/\c.a≠c.b/\(c.n=1\/c.n = -1):=by
 unfold z3d at h;split at h;exact x4y hn (List.mem_reverse.1 h);exact x4y hn h
structure CrsOk (T:Tb) (l:List Cx):Prop where
  has:∀c∈l,z4k T c.a/\z4k T c.b/\z6k c.a c.b<0/\(-1048576<=c.n/\c.n<=1048576)/\c.n≠0
  nd:(l.map λc=>(c.a,c.b)).Nodup
theorem CrsOk.mono {T T':Tb}{l:List Cx}(h:CrsOk T l)(I:∀i,z4k T i->z4k T' i):CrsOk T' l:=⟨λc D=>⟨I _ (h.has c D).1,I _ (h.has c D).2.1,(h.has c D).2.2⟩,h.nd⟩
theorem v7j {l:List Cx}{a b:LId}{n:Int}(h:l.any (isC a b)=true):(y9l l a b n).map (λc=>(c.a,c.b))=l.map λc=>(c.a,c.b):=by
 unfold y9l;rw[if_pos h,List.map_map];refine List.map_congr_left λc _=>?_;simp only[Function.comp_apply];split;rename_i e;obtain⟨D,I⟩:=z7q.1 e;rw[D,I];rfl
theorem v5a {l:List Cx}{a b:LId}{n:Int}{c:Cx}(h:c∈y9l l a b n):c=⟨a,b,n⟩\/c∈l:=by
 unfold y9l at h;split at h;obtain⟨z,D,rfl⟩:=List.mem_map.1 h;split;exact .inl U;exact .inr D;rcases List.mem_append.1 h with k|k
 exact .inr k;exact .inl (List.mem_singleton.1 k)
theorem v7u {a b:LId}(h:a≠b)(D:¬0<z6k a b):z6k a b<0:=by
 have:=mt y3x.1 h;omega
theorem v1e {a b:LId}(h:0<z6k a b):z6k b a<0:=by
 rw[z6o];unfold z6k at h;(repeat' split at h)<;>omega
theorem CrsOk.add {T:Tb}{l l':List Cx}{c:Cx}(h:CrsOk T l)(Z:z4k T c.a)(hb:z4k T c.b)(I:c.a≠c.b)(e:x0x l c=.ok l'):CrsOk T l':=by
 unfold x0x at e;dsimp only at e;obtain⟨a,b,hk,h1,h2,h3⟩:∃a b,(if 0<z6k c.a c.b then (c.b,c.a) else (c.a,c.b))=(a,b)/\z4k T a/\z4k T b/\z6k a b<0:=by
  split;rename_i k;exact⟨_,_,rfl,hb,Z,v1e k⟩;rename_i k;exact⟨_,_,rfl,Z,hb,v7u I k⟩
 rw[hk]at e;split at e;cases e;rename_i hr;split at e;cases e;exact⟨λx D=>h.has x (List.mem_filter.1 D).1,h.nd.sublist (List.filter_sublist.map _)⟩;rename_i O;cases e;dsimp only at hr O ⊢;refine⟨λx D=>?_,?_⟩;rcases v5a D with rfl|k
 exact⟨h1,h2,h3,by dsimp only;omega,O⟩;exact h.has x k;by_cases k:l.any (isC a b)=true;rw[v7j k];exact h.nd;unfold y9l;rw[if_neg k,List.map_append,List.map_singleton,List.nodup_append];refine⟨h.nd,sp0,λx D y hy=>?_⟩;obtain⟨z,hz,rfl⟩:=List.mem_map.1 D;rw[List.mem_singleton.1 hy];intro M;have e1:=congrArg Prod.fst M;have e2:=congrArg Prod.snd M;exact k (List.any_eq_true.2 ⟨z,hz,z7q.2 ⟨e1,e2⟩⟩)
theorem CrsOk.adds {T:Tb}:∀ {r l l':List Cx},CrsOk T l->(∀c∈r,z4k T c.a/\z4k T c.b/\c.a≠c.b)->z6a l r=.ok l'->CrsOk T l'
 | [],l,l',h,_,e=>by cases e;exact h
 | c::r,l,l',h,hr,e=>by
  unfold z6a at e
  split at e
  ·cases e
  rename_i O I
  have D:=hr c sp0
  exact CrsOk.adds (h.add D.1 D.2.1 D.2.2 I) (λx M=>hr x (List.mem_cons_of_mem _ M)) e
def YnV (T:Tb)(y:Yn):Prop:=(∀q∈y.pe,z4k T q.id)/\(y.inn=true->y.ct=0->y.nw=true)
structure MVal (p:MSt):Prop where
  inv:MInv p
  yv:∀k,k<6->YnV p.tb (p.ys.getD k yn0)
  tab:∃rk,TabR p.tb rk
  once:∀i,z4k p.tb i->(p.B.flat++p.fa++z9f p.tb).count i=1
  fa:∀i∈p.fa,z4k p.tb i
  cr:CrsOk p.tb p.cr
theorem x9m:MVal start:=by
 have I:∀y,z3h start.tb y=0:=λy=>by
  simp only[start,z3h,List.getD,List.getElem?_replicate];split<;>rfl
 have M:∀i,¬z4k start.tb i:=λi D=>by
  obtain⟨_,_,h3,h4⟩:=D;rw[I]at h4;omega
 refine⟨x1g,λk hk=>?_,⟨λ_=>0,rfl,λy O n h=>by rw[I]at h;omega,⟨λy O n h=>by rw[I]at h;omega,λy O n m h Z=>by rw[I]at Z;omega⟩,λi D=>absurd D (M i)⟩,λi D=>absurd D (M i),(by intro i D;cases D),⟨(by intro c hc;cases hc),by simp[start]⟩⟩;have:start.ys.getD k yn0=yn0:=by
  simp only[start,List.getD,List.getElem?_replicate];split<;>rfl
 rw[this];exact⟨(by intro q hq;cases hq),(by intro h;cases h)⟩
theorem y8a {p:MSt}{y:Int}{q:Yn}(h:MVal p)(D:MInv (p.setY y q))(O:1<=y/\y<=6)(M:YnV p.tb q):MVal (p.setY y q):=by
 have hl:(y-1).toNat<p.ys.length:=by rw[h.inv.ly];omega
 refine⟨D,λk I=>?_,h.tab,h.once,h.fa,h.cr⟩;show YnV p.tb ((p.ys.set (y-1).toNat q).getD k yn0);rw[z1i hl];split;exact M;exact h.yv k I
theorem u9a {p:MSt}(h:MVal p){y:Int}(D:1<=y/\y<=6):YnV p.tb (p.y y):=h.yv (y-1).toNat oo
theorem go_v {T:Tb}{y:Yn}{D:Int}{l:List Pa}(h:YnV T y)(hl:∀q∈l,z4k T q.id):YnV T (goS y D l):=⟨x1r h.1 hl,h.2⟩
theorem x3a {p q:MSt}{y O en:Int}(h:MVal p)(D:1<=y/\y<=6)(e:y6e p y O en=.ok q):MVal q/\q.B=p.B/\q.rk=p.rk:=by
 have I:=y2f h.inv D e;refine⟨?_,I.2⟩;unfold y6e at e;split at e;cases e;cases e;exact y8a h I.1 D (go_v (u9a h D) λq M=>h.inv.has _ (u6i M))
theorem v3j {p q:MSt}{o:MOp}{th st:List LId}(h:MVal p)(I:MInv q)(hy:1<=o.y/\o.y<=6)(hn:z4g o.b o.p=0)(hs:th++st=p.B.at o.b o.p)(h4:th.length<=4)(e:x1a p o th st=.ok q):MVal q:=by
 unfold x1a at e;split at e;cases e;rename_i hm;split at e;cases e;cases e;have hm:=Classical.not_not.1 hm;obtain⟨j,hj,a9⟩:∃j:Nat,j<6/\o.y=(j:Int)+1:=⟨(o.y-1).toNat,oo,oo⟩;have O:(o.y-1).toNat=j:=by omega
 have D:=h.inv.yn j hj;have b1:p.y o.y=p.ys.getD j yn0:=by unfold MSt.y;rw[O]
 rw[<-b1]at D;have a4:=u9a h hy;have a7:j<p.ys.length:=by rw[h.inv.ly];exact hj
 have a6:j<p.tb.length:=by rw[h.inv.lt];exact hj
 have a1:(p.y o.y).inn=true:=by
  unfold mkE at hm;split at hm;exact absurd hm (by assumption);split at hm;omega;rename_i k;simpa using k
 have Z:=D.1.2;rw[if_pos a1]at Z;have a2:p.row o.y=p.tb.getD j []:=by unfold MSt.row;rw[O]
 simp only[O,a2]at I ⊢;obtain⟨rk,ht⟩:=h.tab;have h6:=h.inv.lt;have a3:∀i∈th,z4k p.tb i:=λi I=>h.inv.has i (y0f (b:=o.b) (n:=o.p) (by rw[<-hs];exact List.mem_append_left _ I));have b0:y4t p.tb ⟨o.b,(p.y o.y).nw,th,(p.y o.y).pe⟩:=by
  refine⟨(z3a hn).1,⟨h4,Z.2.1⟩,λi I=>?_,v3z Z.2.2,u2p Z.2.2⟩;rcases List.mem_append.1 I with k|k
  exact a3 i k;obtain⟨q,hq,rfl⟩:=List.mem_map.1 k;exact a4.1 q hq
 have a0:∀ {l:Lp} (i:LId),z4k p.tb i->z4k (p.tb.set j (p.tb.getD j []++[l])) i:=λi I=>(y3p h6 hj).2 (.inl I);refine⟨I,λk hk=>?_,⟨_,ht.add hj b0 (λe0=>a4.2 a1 (by rw[D.2,e0];rfl))⟩,λi I=>?_,λi I=>a0 i (h.fa i I),h.cr.mono a0⟩;show YnV (p.tb.set j _) ((p.ys.set j (mkS (p.y o.y))).getD k yn0);rw[z1i a7];split;refine⟨(by intro q hq;cases hq),λ_ h0=>?_⟩;have h1:(p.y o.y).ct+1=0:=h0;have:=D.1.1;omega;exact⟨λq hq=>a0 _ ((h.yv k hk).1 q hq),(h.yv k hk).2⟩;show ((p.B.put o.b o.p (st++[⟨o.y,(p.y o.y).ct⟩])).flat++p.fa++z9f (p.tb.set j (p.tb.getD j []++[_]))).count i=1;rw[List.count_append,List.count_append,v7s a6];have h1:=z4j p.B hn (st++[⟨o.y,(p.y o.y).ct⟩]) i;have h2:th.count i+st.count i=(p.B.at o.b o.p).count i:=by rw[<-hs,List.count_append]
 rw[List.count_append,List.count_singleton]at h1;dsimp only;rcases(y3p h6 hj).1 I with k|k
 have h3:=h.once i k;rw[List.count_append,List.count_append]at h3;have a8:¬((⟨o.y,(p.y o.y).ct⟩:LId) == i)=true:=by
  intro ee;have ee:(⟨o.y,(p.y o.y).ct⟩:LId)=i:=by simpa using ee
  obtain⟨_,_,_,k4⟩:=k;rw[<-ee]at k4;simp only at k4;rw[O,D.2]at k4;omega
 rw[if_neg a8]at h1;omega;have M:¬z4k p.tb i:=λk4=>by
  rw[k]at k4;obtain⟨_,_,_,k4⟩:=k4;simp only at k4;rw[show ((j:Int)+1-1).toNat=j by omega]at k4;omega
 have z1:p.B.flat.count i=0:=List.count_eq_zero.2 λz=>M (h.inv.has i z);have z2:p.fa.count i=0:=List.count_eq_zero.2 λz=>M (h.fa i z);have z3:(z9f p.tb).count i=0:=List.count_eq_zero.2 λz=>M (x6h ht z);have z4:th.count i=0:=List.count_eq_zero.2 λz=>M (a3 i z);have z5:(p.B.at o.b o.p).count i=0:=List.count_eq_zero.2 λz=>M (h.inv.has i (y0f z));have a5:((⟨o.y,(p.y o.y).ct⟩:LId) == i)=true:=by rw[k,D.2,a9];simp
 rw[if_pos a5]at h1;omega
theorem y5v {p:MSt}{d:Int}:∀ {l l':List Yn},z4y p d l=.ok l'->MVal p->∀k,YnV p.tb (l.getD k yn0)->YnV p.tb (l'.getD k yn0)
 | [],l',e,_,k,hk=>by cases e;exact hk
 | y::l,l',e,h,k,hk=>by
  unfold z4y at e
  split at e
  ·cases e
  rename_i O D
  split at e
  ·cases e
  rename_i M hl
  cases e
  cases k with
  | succ k=>simpa only[List.getD_cons_succ] using y5v hl h k (by simpa only[List.getD_cons_succ] using hk)
  | zero=>
   simp only[List.getD_cons_zero]at hk ⊢
   unfold z8g at D
   split at D
   ·cases D;exact hk
   split at D
   ·cases D
   cases D
   exact go_v hk λq I=>h.inv.has _ (x9d I)
theorem v3r {p q:MSt}{d:Int}(h:MVal p)(O:-4<=p.rk+stI d/\p.rk+stI d<=4)(e:z9l p d=.ok q):MVal q:=by
 have Z:=(y8c h.inv O e).1;unfold z9l at e;split at e;cases e;rename_i ys I;split at e;cases e;rename_i cr D;cases e;refine⟨Z,λk hk=>y5v I h k (h.yv k hk),h.tab,h.once,h.fa,h.cr.adds (λc M=>?_) D⟩;obtain⟨k1,k2,k3,_⟩:=v2g h.inv.B.nd M;exact⟨h.inv.has _ k1,h.inv.has _ k2,k3⟩
theorem x0n {r:Int}(M:-4<=r/\r<=4):∀ {n:Nat} {p q:MSt},MVal p->z5t n p r=.ok q->MVal q
 | 0,p,q,h,e=>by cases e;exact h
 | n+1,p,q,h,e=>by
  unfold z5t at e
  split at e
  ·cases e;exact h
  rename_i I
  split at e
  ·cases e
  rename_i Z D
  have O:=h.inv.rk
  refine x0n M (v3r h ?_ D) e
  unfold stI
  split<;>split<;>omega
theorem v9p {p q:MSt}{o:MOp}(h:MVal p)(hi:MInv q)(hn:z4g o.b o.p=0)(e:z9k p o=.ok q):MVal q:=by
 unfold z9k at e;split at e;cases e;split at e;cases e;rename_i D;have D:=Classical.not_not.1 D;split at e;cases e;split at e;cases e;cases e;refine⟨hi,h.yv,h.tab,λi hh=>?_,h.fa,h.cr⟩;have hb:=(z3a hn).1;have hc:=y4h (p:=p) (o:=o) hb i;have I:(p.B.put o.b o.p []).at (1-o.b) (z5q o.b o.p p.rk)=p.B.at (1-o.b) (z5q o.b o.p p.rk):=by
  rw[v3e p.B hn D,if_neg oo]
 have M:=z4j p.B hn [] i;have O:=z4j (p.B.put o.b o.p []) D (z9m p o) i;have Z:=h.once i hh;rw[I]at O;show (((p.B.put o.b o.p []).put (1-o.b) (z5q o.b o.p p.rk) (z9m p o)).flat++p.fa++z9f p.tb).count i=1;simp only[List.count_append]at Z ⊢;simp only[List.count_nil]at M;omega
theorem v7c {p q:MSt}{o:MOp}(h:MVal p)(O:MInv q)(hn:z4g o.b o.p=0)(e:y4r p o=.ok q):MVal q:=by
 unfold y4r at e;split at e;cases e;cases e;refine⟨O,h.yv,h.tab,λi D=>?_,λi D=>?_,h.cr⟩;have I:=z4j p.B hn [] i;have M:=h.once i D;show ((p.B.put o.b o.p []).flat++(p.fa++p.B.at o.b o.p)++z9f p.tb).count i=1;simp only[List.count_append]at M ⊢;simp only[List.count_nil]at I;omega;rcases List.mem_append.1 D with k|k
 exact h.fa i k;exact h.inv.has i (y0f k)
theorem u0n {p q:MSt}{o:MOp}(h:MVal p)(e:doM p o=.ok q):MVal q:=by
 have I:=x6d h.inv e;unfold doM at e;split at e;cases e;rename_i hc;obtain⟨_,h1,M,h3,O,h5⟩:=z7c (Classical.not_not.1 hc);unfold opM at e;split at e;have D:=M oo;unfold inM at e;split at e;cases e;cases e;exact y8a h I D ⟨(by intro q hq;cases hq),λ_ _=>rfl⟩;split at e;have D:=M oo;unfold x8l at e;split at e;cases e;cases e;exact y8a h I D ⟨(by intro q hq;cases hq),(by intro k;cases k)⟩;split at e;exact x0n (h5 oo) h e;split at e;have D:=M oo;have Z:=O oo;unfold y3a at e;split at e;cases e;split at e;cases e;rename_i r hr;obtain⟨v1,v2,v3⟩:=x3a h D hr;exact v3j v1 I D Z sp0 (y3s v1.inv.B _ _) e;split at e;have D:=M oo;have Z:=O oo;unfold y2d at e;split at e;cases e;split at e;cases e;rename_i r hr;obtain⟨v1,v2,v3⟩:=x3a h D hr;split at e;cases e;exact v3j v1 I D Z sp0 sp0 e;split at e;have D:=M oo;unfold y5u at e;split at e;cases e;exact(x3a h D e).1;split at e;exact v9p h I (O oo) e;exact v7c h I (O oo) e
theorem v1l:∀ {l:List MOp} {i:Nat} {p q:MSt},MVal p->z4u i p l=.ok q->MVal q
 | [],i,p,q,h,e=>by cases e;exact h
 | o::l,i,p,q,h,e=>by
  unfold z4u at e
  split at e
  ·cases e
  rename_i I D
  exact v1l (u0n h D) e
structure StQ where
  rk:Int
  q:BdQ
  yv:SV
  ys:List YQ
  fb:FbQ
structure St where
  rk:Int
  B:Bd
  ys:List Yn
  fb:Fb
abbrev StQ.p (s:StQ):St:=⟨s.rk,s.q.p,s.ys.map YQ.p,s.fb.p⟩
def YsA (w:World)(ys:List YQ):Prop:=∀i,Sl z2d w (slv (ys.getD i yq0).pe) (ys.getD i yq0).pes
theorem YsA.ext {w w':World}{ys:List YQ}(h:YsA w ys)(hf:Fr [] w w'):YsA w' ys:=λi=>(h i).ext hf
structure StAt (w:World) (s:StQ):Prop where
  b:BdAt w s.q
  y:Sl z2x w (slv s.yv) s.ys
  ya:YsA w s.ys
  f:FbAt w s.fb
theorem StAt.ext {w w':World}{s:StQ}(h:StAt w s)(hf:Fr [] w w'):StAt w' s:=⟨h.b.ext hf,h.y.ext hf,h.ya.ext hf,h.f.ext hf⟩
theorem v5v {κ:Type}[DecidableEq κ]{V:κ->Value}{w:World}{g:Nat}(h:MapF V w g λ_=>none):MapL V w g []:=by
 obtain⟨M,c,m,O,Z,h3⟩:=h;have D:m=[]:=by
  cases m with
  | nil=>rfl
  | cons p m=>have:=h3 p.1;simp[z2k]at this
 subst D;have I:M.toList=[]:=List.map_eq_nil_iff.1 Z;refine⟨M,c,O,by rw[I];rfl,sp0,by rw[I];simp,λe D=>by rw[I]at D;cases D⟩
theorem x0z {κ:Type}[DecidableEq κ]{m:List (κ×Value)}{k:κ}{v:Value}(h:k∉m.map (·.1)):z3w m k v=m++[(k,v)]:=by
 unfold z3w;have:(m.map (·.1)).findIdx? (λx=>decide (k=x))=none:=by
  rw[List.findIdx?_eq_none_iff];intro x D;have:k≠x:=λe=>h (e▸D);simpa using this
 rw[this]
abbrev cxK (c:Cx):LId×LId:=(c.a,c.b)
theorem y8h (l:List Cx):(crM l).map (·.1)=l.map cxK:=by unfold crM;rw[List.map_map];rfl
theorem v4q {l:List Cx}{i:Nat}(hn:(l.map cxK).Nodup)(I:i<l.length):z3w (crM (l.take i)) (cxK (l.getD i cx0)) (.int .i64 (l.getD i cx0).n)=crM (l.take (i+1)):=by
 have e:l.take (i+1)=l.take i++[l.getD i cx0]:=by rw[List.take_add_one,List.getD,List.getElem?_eq_getElem I];rfl
 rw[x0z,e];unfold crM;rw[List.map_append];rfl;rw[y8h];intro M;have D:(((l.take i)++[l.getD i cx0]).map cxK).Nodup:=by
  rw[<-e];exact List.Nodup.sublist (List.Sublist.map _ (List.take_sublist _ _)) hn
 rw[List.map_append]at D;exact(List.nodup_append.1 D).2.2 _ M _ (List.mem_singleton.2 U) U
theorem y5z {τ:TyK}{Mt:Nat}{w0 w:World}{s:StQ}{fs bs:List IQ}{gF Z gy gt O gk I:Nat}{ps:List YQ}{us:List TQ}
    (hk:Blk w gk Mt [.int .i64 s.rk,.slice (some ⟨gF,0,none⟩) fs.length fs.length,.slice (some ⟨Z,0,none⟩) bs.length bs.length,.slice (some ⟨gy,0,none⟩) s.ys.length s.ys.length,.slice (some ⟨gt,0,none⟩) s.fb.ts.length s.fb.ts.length,.map (some O),.slice (some ⟨I,0,none⟩) s.fb.fs.length s.fb.fs.length])
    (hF:RwO τ.S τ.I w0.heap.size w (.slice (some ⟨gF,0,none⟩) fs.length fs.length) fs) (hB:RwO τ.S τ.I w0.heap.size w (.slice (some ⟨Z,0,none⟩) bs.length bs.length) bs)
    (hY:YsO τ w0.heap.size w (.slice (some ⟨gy,0,none⟩) s.ys.length s.ys.length) ps) (hpl:ps.length=s.ys.length) (hpm:ps.map YQ.p=s.ys.map YQ.p)
    (hT:TbO τ w0.heap.size w (.slice (some ⟨gt,0,none⟩) s.fb.ts.length s.fb.ts.length) us) (hul:us.length=s.fb.ts.length) (htm:z2g us=z2g s.fb.ts)
    (hm:MapF crK w O λ_=>none) (hf:Lw.Own z1b τ.I w0.heap.size w (.slice (some ⟨I,0,none⟩) s.fb.fs.length s.fb.fs.length) s.fb.fs) (hly:s.ys.length=6) (hlt:s.fb.ts.length=6)
    (hfr:Fr [] w0 w) (hgc:w0.heap.size<=O) (hgk:w0.heap.size<=gk) (hfb:∀x∈fs++bs,I∉z0v (slv x.1)) (hft:∀i,i<6->∀q∈(us.getD i tq0).2,I∉z0v (slv q.th)) (hpF:plB fs=trimB (plB s.q.fs)) (hpB:plB bs=trimB (plB s.q.bs)) :
    ∃m:MQ,MkM τ Mt w0 ⟨gk,gy,6,gt,6,O,w⟩ w m/\m.p=⟨s.rk,⟨trimB (plB s.q.fs),trimB (plB s.q.bs)⟩,s.ys.map YQ.p,z2g s.fb.ts,[],s.fb.fs⟩:=by
  refine⟨⟨s.rk,⟨(some ⟨gF,0,none⟩,fs.length,fs.length),(some ⟨Z,0,none⟩,bs.length,bs.length),fs,bs⟩,ps,us,[],(some ⟨I,0,none⟩,s.fb.fs.length,s.fb.fs.length),s.fb.fs⟩,⟨?_,⟨hF,hB⟩,?_,?_,v5v hm,hf,λx hx k D M=>?_,λi hi q hq k D M=>?_,by rw[hpl,hly],by rw[hul,hlt],hgk,hgc,⟨hfr,KpM.refl _ _ _⟩⟩,?_⟩
  · rw[hly,hlt]at hk;exact hk
  · rw[hly]at hY;exact hY
  · rw[hlt]at hT;exact hT
  · simp[z0v,slv]at M;subst M;exact hfb x hx D
  · simp[z0v,slv]at M;subst M;exact hft i hi q hq D
  · show (⟨s.rk,⟨plB fs,plB bs⟩,ps.map YQ.p,z2g us,[],s.fb.fs⟩:MSt)=_
    rw[hpF,hpB,hpm,htm]
end Go.G08
namespace Go.G08
open Go.Lw Go.G21 Go.Proofs Go.Sort
theorem u6k (X:World)(o:Obj)(b:Nat)(h:X.heap.size=b):(X.alloc o).drew.heap[b]?=some o:=by subst h;show (X.heap.push o)[X.heap.size]?=some o;simp
theorem j2u (X:World)(o:Obj)(b:Nat)(h:X.heap.size=b):(X.alloc o).heap[b]?=some o:=by subst h;show (X.heap.push o)[X.heap.size]?=some o;simp
def DG (w w':World):Prop:=∃q os',w'=grow (w.drewN q) os'
theorem DG.refl (w:World):DG w w:=⟨0,#[],by rw[grow_empty];rfl⟩
theorem DG.alloc {w w':World}(h:DG w w')(o:Obj):DG w (w'.alloc o):=by
 obtain⟨q,D,rfl⟩:=h;exact⟨q,D++#[o],by rw[alloc_eq_grow,grow_grow]⟩
theorem DG.drew {w w':World}(h:DG w w'):DG w w'.drew:=by
 obtain⟨q,D,rfl⟩:=h;exact⟨q+1,D,rfl⟩
theorem DG.trans {a b c:World}(h:DG a b)(I:DG b c):DG a c:=by
 obtain⟨q,M,rfl⟩:=h;obtain⟨q',D,rfl⟩:=I;exact⟨q+q',M++D,by rw[<-grow_grow];unfold grow World.drewN;simp[Nat.add_assoc]⟩
theorem DG.cell {w w':World}(h:DG w w'){p:Addr}{v:Value}(hb:w.cell? p=some v):w'.cell? p=some v:=by
 obtain⟨q,D,rfl⟩:=h;have hl:=block_lt_of_cell hb;refine(World.cell?_of_block (w:=w) ?_).trans hb;show (w.heap++D)[p.block]?=_;rw[Array.getElem?_append_left hl]
theorem u8e {X:World}{b T:Nat}{x y:Int}(h:X.heap[b]?=some (.cells #[.int .i64 x,.int .i64 y] T (0,0))):Sl Enc.i64 X (.slice (some ⟨b,0,none⟩) 2 2) [x,y]:=
 Lw.Own.sl (E:=Enc.i64) (T:=T) (base:=b) (.inr ⟨b,2,_,rfl,Nat.le_refl _,h,Nat.le_refl _,dd,Nat.le_refl 2,rfl⟩)
def y9k (x y:Cx):Int:=if z6k x.a y.a≠0 then z6k x.a y.a else z6k x.b y.b
abbrev u6w (c:Cx):Value:=.agg #[.int .u8 c.a.y,.int .i64 c.a.n,.int .u8 c.b.y,.int .i64 c.b.n,.int .i64 c.n]
section
variable {α:Type} [Inhabited α] (E:Enc α)
theorem y6c (ys:Array α):(flatK E.enc E.sz ys).toList=ys.toList.flatMap E.enc:=by
 refine List.ext_getElem? λt=>?_;have Z:=E.pos;by_cases ht:t<ys.size*E.sz;have O:t / E.sz<ys.size:=Nat.div_lt_of_lt_mul (by rw[Nat.mul_comm];exact ht);have D:t % E.sz<E.sz:=Nat.mod_lt _ Z;have I:=get_flatK E.enc E.sz ys t ht;have M:=E.flat_get ys.toList (t / E.sz) ys[t / E.sz] (by simp[O]) (t % E.sz) D;rw[show t / E.sz*E.sz+t % E.sz=t by rw[Nat.mul_comm];exact Nat.div_add_mod t E.sz]at M;rw[M,Array.getElem?_toList];rw[getElem!_pos (flatK E.enc E.sz ys) t (by simpa using ht),getElem!_pos ys (t / E.sz) O,getElem!_pos (E.enc ys[t / E.sz]) (t % E.sz) (by rw[E.len];exact D)]at I;rw[Array.getElem?_eq_getElem (by simpa using ht),I,List.getElem?_eq_getElem (by rw[E.len];exact D)];rw[List.getElem?_eq_none so,List.getElem?_eq_none (by rw[E.flat_len];simp;omega)]
variable {E} {w:World} {g T cap base:Nat} {cur:Array Value}
theorem v3v {ys:List α}(h:w.heap[g]?=some (.cells cur T (0,0)))(Z:ys.length*E.sz<=cur.size)(O:cur.toList.take (ys.length*E.sz)=ys.flatMap E.enc):HoldsK E.enc E.sz w g 0 ys.toArray:=by
 intro j I;have M:j<ys.length*E.sz:=by simpa using I
 have e:=y6c E ys.toArray;rw[<-show cur.toList.take (ys.length*E.sz)=ys.toArray.toList.flatMap E.enc from O]at e;have D:=congrArg (λl:List Value=>l[j]?) e;simp only[Array.getElem?_toList,List.getElem?_take,M,if_true]at D;constructor;rw[Nat.zero_add,getElem!_pos _ j I];rw[Array.getElem?_eq_getElem I]at D;simp only[World.cell?,h];exact D.symm;simp only[World.frozen?,h];simp
theorem v6r {ys:List α}(h:w.heap[g]?=some (.cells cur T (0,0)))(hs:ys.length*E.sz<=cur.size)(hb:base<=g)(hc:ys.length<=cap)(hM:cap<=maxLen)(O:cap*E.sz<=cur.size)(d:Array α)(I:d.size=ys.length)(n:Nat)(M:Array Obj) :
    Lw.Own E T base (sortWorldK E.enc E.sz w g 0 n d M) (.slice (some ⟨g,0,none⟩) ys.length cap) d.toList/\Fr [g] w (sortWorldK E.enc E.sz w g 0 n d M):=by
  have hg:g<w.heap.size:=(Array.getElem?_eq_some_iff.1 h).1
  have D:∀k,k<w.heap.size->(sortWorldK E.enc E.sz w g 0 n d M).heap[k]?=(w.heap.modify g (onCells (putCells id 0 (flatK E.enc E.sz d))))[k]?:=λk hk=>by
    show ((w.heap.modify g _)++M)[k]?=_
    rw[Array.getElem?_append_left (by simpa using hk)]
  refine⟨.inr ⟨g,cap,putCells id 0 (flatK E.enc E.sz d) cur,by rw[show d.toList.length=ys.length by simpa using I],hb,?_,by simpa[I] using hc,hM,by simpa[putCells] using O,?_⟩,rfl,rfl,rfl,?_,λk hk hn=>?_⟩
  · rw[D g hg,Array.getElem?_modify,if_pos U,h];rfl
  · rw[<-y6c E d]
    refine List.ext_getElem? λt=>?_
    have Z:d.toList.length=ys.length:=by simpa using I
    rw[List.getElem?_take,Z]
    by_cases ht:t<ys.length*E.sz
    · rw[if_pos ht,Array.getElem?_toList,Array.getElem?_toList]
      unfold putCells
      rw[Array.getElem?_mapIdx,Array.getElem?_eq_getElem (show t<cur.size by omega),Array.getElem?_eq_getElem (show t<(flatK E.enc E.sz d).size by simpa[I] using ht)]
      simp only[Option.map_some,Nat.zero_le,Nat.zero_add,true_and,Nat.sub_zero,id]
      rw[if_pos (by simpa[I] using ht),getElem!_pos _ t (by simpa[I] using ht)]
    · rw[if_neg ht,List.getElem?_eq_none (by simp[I];omega)]
  · show w.heap.size<=((w.heap.modify g _)++M).size
    simp
  · rw[D k hk,Array.getElem?_modify,if_neg (λe=>hn (by simp[e]))]
open Go.Shelf in
theorem x6o {P:Program}{ρ:Ren}(L:SlLaysF0.n6 P ρ){f cl:Nat}(hf:ρ.f 6=f)(aE:∀w,(isAgg (ρ.t 24)).run P w=.ok true w)(zE:∀w,(Go.sizeOf (ρ.t 24)).run P w=.ok E.sz w)(cf:α->α->Int)(hO:SWO (ltOf cf))
    (eg:∀D w,(callFunc cl D).run P w=.ok (.enter cl D) w)
    (hcmp:∀x y W,Calls P cl #[.agg (E.enc x).toArray,.agg (E.enc y).toArray] W λe w'=>e=.returned (.int .i64 (cf x y))/\DG W w')
    (hnil:∀W,Calls P f #[.slice none 0 0,.func (.func cl) #[] #[]] W λe w'=>e=.returned (.tuple #[])/\Fr [] W w')
    {v:Value} {ys:List α} (ho:Lw.Own E T base w v ys) (hl:ys.length<4611686018427387904):Rets P f #[v,.func (.func cl) #[] #[]] w λr w'=>r=.tuple #[]/\∃ys',ys'.Perm ys/\ys'.Pairwise (λa b=>¬cf b a<0)/\Lw.Own E T base w' v ys'/\Fr (z0v v) w w':=by
  subst hf
  rcases ho with ⟨rfl,rfl⟩|⟨g,cap,cur,rfl,h2,M,h4,h5,h6,h7⟩
  · exact Calls.mono (hnil w) (by rintro e w' ⟨rfl,h⟩;exact⟨_,rfl,rfl,[],.refl _,.nil,Lw.Own.nil _,h.weak sp0⟩)
  · have hs:ys.length*E.sz<=cur.size:=Nat.le_trans (Nat.mul_le_mul_right _ h4) h6
    have h:=AnyQ.slices_SortFunc L E.sz aE zE E.enc E.len E.one cf hO cl #[] g 0 cap ys.toArray w eg (λm os dk _ x y=>hcmp x y _) (v3v M hs h7) (Array.getElem?_eq_some_iff.1 M).1 (by simpa using hl)
    rw[show ys.toArray.size=ys.length by simp]at h
    refine Calls.mono h ?_
    rintro e w' ⟨rfl,I,n,os,hp,a2,rfl⟩
    have O:I.size=ys.length:=by simpa using hp.1
    obtain⟨k1,k2⟩:=v6r (base:=base) M hs h2 h4 h5 h6 I O n os
    refine⟨_,rfl,rfl,I.toList,?_,?_,k1,by simpa[z0v] using k2⟩
    · have:=hp.2.2
      simp[O]at this
      rwa [List.take_of_length_le (by simpa using Nat.le_of_eq O)]at this
    · rw[List.pairwise_iff_getElem]
      intro i j hi hj a0
      have Z:i<I.size:=by simpa using hi
      have a1:j<I.size:=by simpa using hj
      have:=a2 i j (Nat.zero_le _) a0 oo
      rw[getElem!_pos I i Z,getElem!_pos I j a1]at this
      simpa[ltOf] using this
end
theorem y0a {x y:Cx}:y9k x y<0↔(x.a.y<y.a.y\/x.a.y=y.a.y/\x.a.n<y.a.n)\/(x.a.y=y.a.y/\x.a.n=y.a.n)/\(x.b.y<y.b.y\/x.b.y=y.b.y/\x.b.n<y.b.n):=by
 unfold y9k;have e:z6k x.a y.a=0↔x.a.y=y.a.y/\x.a.n=y.a.n:=by rw[y3x];obtain⟨⟨_,_⟩,_,_⟩:=x;obtain⟨⟨_,_⟩,_,_⟩:=y;simp
 split;rename_i h;rw[z6o];rw[Ne,e]at h;omega;rename_i h;rw[Decidable.not_not,e]at h;rw[z6o];omega
theorem swoI:SWO (ltOf z6k):=by
 constructor;intro x;simp only[ltOf,decide_eq_false_iff_not,z6o];omega;intro x y z;simp only[ltOf,decide_eq_true_eq,z6o];omega;intro x y z;simp only[ltOf,decide_eq_false_iff_not,z6o];omega
theorem swoX:SWO (ltOf y9k):=by
 constructor;intro x;simp only[ltOf,decide_eq_false_iff_not,y0a];omega;intro x y z;simp only[ltOf,decide_eq_true_eq,y0a];omega;intro x y z;simp only[ltOf,decide_eq_false_iff_not,y0a];omega
def y1g (l:List LId):List LId:=l.mergeSort λa b=>decide (¬z6k b a<0)
def y2t (l:List Cx):List Cx:=l.mergeSort λa b=>decide (¬y9k b a<0)
theorem z4c (l:List LId):(y1g l).Perm l:=List.mergeSort_perm ..
theorem z3s (l:List Cx):(y2t l).Perm l:=List.mergeSort_perm ..
theorem x4r (l:List LId):(y1g l).Pairwise λa b=>¬z6k b a<0:=
 (List.pairwise_mergeSort (le:=λa b=>decide (¬z6k b a<0)) (λa b c=>by simp only[decide_eq_true_eq,z6o];omega) (λa b=>by simp only[Bool.or_eq_true,decide_eq_true_eq,z6o];omega) l).imp sp0
theorem y7u (l:List Cx):(y2t l).Pairwise λa b=>¬y9k b a<0:=
 (List.pairwise_mergeSort (le:=λa b=>decide (¬y9k b a<0)) (λa b c=>by simp only[decide_eq_true_eq,y0a];omega) (λa b=>by simp only[Bool.or_eq_true,decide_eq_true_eq,y0a];omega) l).imp sp0
theorem u2f {l l':List LId}(hp:l'.Perm l)(M:l'.Pairwise λa b=>¬z6k b a<0):l'=y1g l:=by
 refine List.Perm.eq_of_pairwise (λa b _ _ D I=>?_) M (x4r l) (hp.trans (z4c l).symm);rw[z6o]at D I;obtain⟨_,_⟩:=a;obtain⟨_,_⟩:=b;simp only at D I;rw[LId.mk.injEq];omega
theorem x9u {l l':List Cx}(hn:(l.map λc=>(c.a,c.b)).Nodup)(hp:l'.Perm l)(hs:l'.Pairwise λa b=>¬y9k b a<0):l'=y2t l:=by
 refine List.Perm.eq_of_pairwise (λa b ha hb O Z=>?_) hs (y7u l) (hp.trans (z3s l).symm);have I:=hp.mem_iff.1 ha;have M:=(z3s l).mem_iff.1 hb;have hk:(a.a,a.b)=(b.a,b.b):=by
  rw[y0a]at O Z;obtain⟨⟨_,_⟩,⟨_,_⟩,_⟩:=a;obtain⟨⟨_,_⟩,⟨_,_⟩,_⟩:=b;simp only at O Z;simp only[Prod.mk.injEq,LId.mk.injEq];omega
 have D:=List.pairwise_iff_getElem.1 (List.pairwise_map.1 hn);obtain⟨i,hi,rfl⟩:=List.getElem_of_mem I;obtain⟨j,hj,rfl⟩:=List.getElem_of_mem M;rcases Nat.lt_trichotomy i j with h|h|h
 exact absurd hk (D i j hi hj h);subst h;rfl;exact absurd hk.symm (D j i hj hi h)
end Go.G08
namespace Go.Lw
section
variable {P:Program} {ops:Array Oper} {Q:Exit->Act->World->Prop} {rest:List Oper} {n:Nat} {ds:List Nat} {L:List (Nat×Value)} {w:World} {d:Nat} {x:Operand} {t K E g ty:Nat} {pos:String} {after:Array Edge} {κ:Type} [DecidableEq κ] {V:κ->Value} {m:List (κ×Value)}
theorem u7r (hx:ev L x=some (.map (some g)))(O:MapL V w g m)(Z:P.underlying t=some (.map K E))(hn:Nat.blt d n=true)(q:WL P ops Q rest n ds w ((d,.int .i64 (m.length:Int))::L)):WL P ops Q (⟨some d,.call ⟨.builtin .len,#[x],#[t]⟩,ty,pos,after,none⟩::rest) n ds w L:=λa h=>by
 obtain⟨D,c,I,M,_⟩:=O
 have hl:D.size=m.length:=by have:=congrArg List.length M;simpa using this
 refine z2c h U hn (w':=w) (v:=.int .i64 (m.length:Int)) ?_ q
 rw[z2h];unfold builtin
 simp[h.eval hx,Builtin.len_,run_underlying Z,z2m I,hl]
 rfl
theorem MapIt.no {gi:Nat}{rem:List (κ×Value)}{cur:Option (κ×Value)}(h:MapIt V w gi g m rem cur):MapIt V w gi g m rem none:=by
 obtain⟨I,c,D,O,Z,k3,k4,k5,k6,_⟩:=h;exact⟨I,c,D,O,Z,k3,k4,k5,k6,λp M=>by cases M⟩
end
end Go.Lw
namespace Go.G08
open Go.Lw Go.G21
theorem u6h (a b:List Cx):crM (a++b)=crM a++crM b:=by unfold crM;rw[List.map_append]
theorem v3m {l:List Cx}{r1 r2:List ((LId×LId)×Value)}{p:(LId×LId)×Value}(h:crM l=r1++p::r2):∃D c I,l=D++c::I/\r1=crM D/\p=((c.a,c.b),.int .i64 c.n)/\r2=crM I:=by
 unfold crM at h;obtain⟨D,l',rfl,M,O⟩:=List.map_eq_append_iff.1 h;obtain⟨c,I,rfl,Z,e4⟩:=List.map_eq_cons_iff.1 O;exact⟨D,c,I,rfl,M.symm,Z.symm,e4.symm⟩
section
variable {P:Program} {ops:Array Oper} {Q:Exit->Act->World->Prop} {rest:List Oper} {n:Nat} {ds:List Nat} {L:List (Nat×Value)} {w:World} {d:Nat} {x:Operand} {t g gi ty:Nat} {pos:String} {after:Array Edge} {em:List ((LId×LId)×Value)} {rem:List Cx}
def CrIt (w:World)(gi g:Nat)(em:List ((LId×LId)×Value))(rem:List Cx)(cur:Option Cx):Prop:=MapIt crK w gi g em (crM rem) (cur.map λc=>((c.a,c.b),.int .i64 c.n))
theorem CrIt.fr {w':World}{S:List Nat}{cur:Option Cx}(h:CrIt w gi g em rem cur)(hf:Fr S w w')(hn:∀k∈S,k≠g/\k≠gi):CrIt w' gi g em rem cur:=MapIt.fr h hf (λe=>(hn g e).1 U) (λe=>(hn gi e).2 U)
theorem CrIt.ext {w':World}{cur:Option Cx}(h:CrIt w gi g em rem cur)(hf:Fr [] w w'):CrIt w' gi g em rem cur:=h.fr hf sp0
theorem CrIt.no {cur:Option Cx}(h:CrIt w gi g em rem cur):CrIt w gi g em rem none:=MapIt.no h
theorem CrIt.lt {cur:Option Cx}(h:CrIt w gi g em rem cur):gi<w.heap.size:=MapIt.lt h
theorem CrIt.neO {α:Type}{E:Enc α}{T base:Nat}{v:Value}{ys:List α}{cur:Option Cx}(h:CrIt w gi g em rem cur)(Z:Lw.Own E T base w v ys):∀k∈z0v v,k≠g/\k≠gi:=λk I=>by
 obtain⟨es,c,O,k1,_,_,_,k5,_⟩:=h
 rcases Z with ⟨rfl,_⟩|⟨g',cap,M,rfl,_,D,_⟩
 ·simp[z0v]at I
 simp only[z0v,List.mem_singleton]at I
 subst I
 exact⟨λe=>(by rw[e,k1]at D;cases D),λe=>(by rw[e,k5]at D;cases D)⟩
theorem v9i {K E:Nat}{l:List Cx}(M:ev L x=some (.map (some g)))(D:MapL crK w g (crM l))(I:P.underlying t=some (.map K E))(hn:Nat.blt d n=true)
 (q:∀gi w',gi=w.heap.size->CrIt w' gi g (crM l) l none->Fr [] w w'->w'.heap.size=gi+1->WL P ops Q rest n ds w' ((d,.pointer (some ⟨gi,0,none⟩))::L)):WL P ops Q (⟨some d,.range t x,ty,pos,after,none⟩::rest) n ds w L:=v4v M D I hn q
theorem u2n {cur:Option Cx}(hx:ev L x=some (.pointer (some ⟨gi,0,none⟩)))(Z:CrIt w gi g em rem cur)(hn:Nat.blt d n=true)
    (qt:∀D c I,rem=D++c::I->∀w',CrIt w' gi g em (D++I) (some c)->Fr [gi] w w'->w'.heap.size=w.heap.size->WL P ops Q rest n ds w' ((d,.tuple #[.bool true,crK (c.a,c.b),.int .i64 c.n])::L))
    (qf:rem=[]->WL P ops Q rest n ds w ((d,.tuple #[.bool false])::L)):WL P ops Q (⟨some d,.next x false,ty,pos,after,none⟩::rest) n ds w L:=
  u5a hx Z hn (λr1 p r2 M w' O hf hz=>by
    obtain⟨D,c,I,rfl,rfl,rfl,rfl⟩:=v3m M
    exact qt D c I U w' (by unfold CrIt;rw[u6h];exact O) hf hz) (λM=>qf (List.map_eq_nil_iff.1 M))
theorem v6i {c:Cx}(I:ev L x=some (.pointer (some ⟨gi,0,none⟩)))(D:CrIt w gi g em rem (some c))(hn:Nat.blt d n=true)
 (q:WL P ops Q rest n ds w ((d,.tuple #[.agg #[.int .u8 c.a.y,.int .i64 c.a.n,.int .u8 c.b.y,.int .i64 c.b.n],.int .i64 c.n])::L)):WL P ops Q (⟨some d,.entry x,ty,pos,after,none⟩::rest) n ds w L:=v8q (p:=((c.a,c.b),.int .i64 c.n)) I D hn q
end
section
variable {τ:TyK} {Mt:Nat} {wS w w':World} {a:MA} {m:MQ} {j:Nat} {u:SV}
theorem MkM.tabh (h:MkM τ Mt wS a w m)(I:MtOk τ Mt)(hj:j<6)(h1:Lw.Own z6j τ.L wS.heap.size w (slv u) (m.ts.getD j tq0).2)(O:∀i,i<6->∀b∈z0v (slv (m.ts.getD i tq0).1),b∉z0v (slv u))
    (h2:Lw.Own z3z τ.T wS.heap.size w' a.TV (m.ts.set j (u,(m.ts.getD j tq0).2))) (f2:Fr [a.gt] w w'):MkM τ Mt wS a w' { m with ts:=m.ts.set j (u,(m.ts.getD j tq0).2) }:=by
  have hl:j<m.ts.length:=by rw[h.lt];exact hj
  have M:∀T,T≠τ.T->OffT w T [a.gt]:=λT hT=>z6e h.t.out (Ne.symm hT)
  refine⟨y2o h.k f2 (M _ I.t),BdO.tf h.b f2 (M _ (Ne.symm I.o.ts)) (M _ (Ne.symm I.o.ti)),h.y.tf f2 (M _ I.o.yt) (M _ (Ne.symm I.o.tp)),⟨h2,λi D=>?_,λi k D hk a2=>?_,λi D q hq=>?_⟩,h.c.tf f2 (M _ I.t),z1w h.f f2 (M _ (Ne.symm I.o.ti)),h.fb,λi D p Z=>?_,h.ly,by rw[List.length_set];exact h.lt,h.gk,h.gc,h.fr.step f2 (y6n h.t.out (by simp[v4m])) λk hk a3=>?_⟩
  · simp only[List.length_set]at D
    rw[z1i hl]
    split
    · exact z1w h1 f2 (M _ (Ne.symm I.o.tl))
    · exact z1w (h.t.ins i D) f2 (M _ (Ne.symm I.o.tl))
  · simp only[List.length_set]at D hk
    rw[z1i hl,z1i hl]
    split
    · rw[if_neg oo];exact λb hb a1=>O k (by rw[<-h.lt];exact hk) b a1 hb
    · split
      · exact O i (by rw[<-h.lt];exact D)
      · exact h.t.off i k D hk a2
  · simp only[List.length_set]at D
    rw[z1i hl]at hq
    have a0:q∈(m.ts.getD i tq0).2:=by split at hq;(rename_i e;subst e;exact hq);exact hq
    exact⟨z1w (h.t.lps i D q a0).1 f2 (M _ (Ne.symm I.o.ti)),z1w (h.t.lps i D q a0).2 f2 (M _ (Ne.symm I.o.tp))⟩
  · simp only at Z
    rw[z1i hl]at Z
    split at Z
    · rename_i e;subst e;first|exact h.ft _ D p Z|exact h.ft _ hj p Z
    · exact h.ft i D p Z
  · have:=(h.t.out.blk k hk).1;omega
theorem MkM.fallS {l:List LId}(h:MkM τ Mt wS a w m)(O:MtOk τ Mt)(D:τ.I≠τ.P)(h1:Lw.Own z1b τ.I wS.heap.size w' (slv m.fa) l)(M:Fr (z0v (slv m.fa)) w w'):MkM τ Mt wS a w' { m with fl:=l }:=by
 have I:=y2o h.k M (z6e h.f (Ne.symm O.i));exact MkM.fall (u:=m.fa) h O D h1 M (λk I=>.inl I) I ((Fr.refl [] w').weak sp0)
def stM (p:MSt):St:=⟨p.rk,p.B,p.ys,⟨p.tb,y2t p.cr,(z2t p.B p.rk).map Hd.id,y1g p.fa⟩⟩
structure MkW (τ:TyK) (base:Nat) (a:MA) (w:World) (m:MQ):Prop where
  b:BdO τ.S τ.I base w m.q
  y:YsO τ base w a.YV m.ys
  t:TbO τ base w a.TV m.ts
theorem MkM.toW (h:MkM τ Mt wS a w m):MkW τ wS.heap.size a w m:=⟨h.b,h.y,h.t⟩
theorem MkW.ext {base:Nat}(h:MkW τ base a w m)(hf:Fr [] w w'):MkW τ base a w' m:=⟨h.b.ext hf,h.y.ext hf,h.t.ext hf⟩
theorem MkW.off {base g T:Nat}{cs:List Value}(h:MkW τ base a w m)(D:Blk w g T cs)(hT:T≠τ.S/\T≠τ.I/\T≠τ.Y/\T≠τ.P/\T≠τ.T/\T≠τ.L)(hf:Fr [g] w w'):MkW τ base a w' m:=by
 obtain⟨O,I,Z,M,h5,h6⟩:=hT;exact⟨BdO.tf h.b hf (OffT.one D O) (OffT.one D I),h.y.tf hf (OffT.one D Z) (OffT.one D M),h.t.tf hf (OffT.one D h5) (OffT.one D h6) (OffT.one D I) (OffT.one D M)⟩
def SepH (s:StQ):Prop:=∀k∈z0v (slv s.fb.h),(∀q∈s.q.fs++s.q.bs,k∉z0v (slv q.1))/\(∀t∈s.fb.ts,∀l∈t.2,k∉z0v (slv l.th))/\k∉z0v (slv s.fb.f)
structure StO (τ:TyK) (Tc base:Nat) (w:World) (s:StQ):Prop where
  b:BdO τ.S τ.I base w s.q
  y:YsO τ base w (slv s.yv) s.ys
  t:TbO τ base w (slv s.fb.t) s.fb.ts
  c:Lw.Own z4z Tc base w (slv s.fb.c) s.fb.cs
  h:Lw.Own z1b τ.I base w (slv s.fb.h) s.fb.hs
  f:Lw.Own z1b τ.I base w (slv s.fb.f) s.fb.fs
  sp:SepH s
theorem StO.ext {D base:Nat}{s:StQ}(h:StO τ D base w s)(hf:Fr [] w w'):StO τ D base w' s:=⟨h.b.ext hf,h.y.ext hf,h.t.ext hf,h.c.ext hf,h.h.ext hf,h.f.ext hf,h.sp⟩
theorem StO.off {M base g T:Nat}{cs:List Value}{s:StQ}(h:StO τ M base w s)(D:Blk w g T cs)(hT:T≠τ.S/\T≠τ.I/\T≠τ.Y/\T≠τ.P/\T≠τ.T/\T≠τ.L/\T≠M)(hf:Fr [g] w w'):StO τ M base w' s:=by
 obtain⟨Z,I,h3,O,h5,h6,h7⟩:=hT;exact⟨BdO.tf h.b hf (OffT.one D Z) (OffT.one D I),h.y.tf hf (OffT.one D h3) (OffT.one D O),h.t.tf hf (OffT.one D h5) (OffT.one D h6) (OffT.one D I) (OffT.one D O),z1w h.c hf (OffT.one D h7),z1w h.h hf (OffT.one D I),z1w h.f hf (OffT.one D I),h.sp⟩
theorem StO.low {M base O:Nat}{s:StQ}(h:StO τ M base w s)(hb:O<=base):StO τ M O w s:=
 ⟨⟨⟨h.b.f.1.low hb,λq I=>(h.b.f.2 q I).low hb⟩,⟨h.b.b.1.low hb,λq I=>(h.b.b.2 q I).low hb⟩⟩,⟨h.y.out.low hb,λi D=>(h.y.ins i D).low hb⟩,⟨h.t.out.low hb,λi D=>(h.t.ins i D).low hb,h.t.off,λi D q I=>⟨(h.t.lps i D q I).1.low hb,(h.t.lps i D q I).2.low hb⟩⟩,h.c.low hb,h.h.low hb,h.f.low hb,h.sp⟩
theorem StO.at {M base:Nat}{s:StQ}(h:StO τ M base w s):StAt w s:=by
 refine⟨h.b.at,h.y.out.sl,λi=>?_,⟨h.t.out.sl,λp O=>?_,h.c.sl,h.h.sl,h.f.sl⟩⟩;by_cases D:i<s.ys.length;exact(h.y.ins i D).sl;rw[List.getD,List.getElem?_eq_none oo];exact Sl.nil w;obtain⟨i,D,rfl⟩:=List.getElem_of_mem O;have e:s.fb.ts.getD i tq0=s.fb.ts[i]:=by rw[List.getD,List.getElem?_eq_getElem D];rfl
 rw[<-e];exact⟨(h.t.ins i D).sl,λq I=>⟨(h.t.lps i D q I).1.sl,(h.t.lps i D q I).2.sl⟩⟩
end
end Go.G08
namespace Go.G08
open Go.Lw Go.G21
structure PlaceV (T:Tb) (H F:List LId):Prop where
  has:∀i∈H++F,z4k T i
  asc:∀i,0<i->i<F.length->z6k (F.getD (i-1) id0) (F.getD i id0)<0
  once:∀y,y<6->∀n,n<z3h T y->(H++F++z9f T).count ⟨(y:Int)+1,(n:Int)⟩=1
  le:∀i,(H++F++z9f T).count i<=1
structure PlaceW (T:Tb) (H F:List LId):Prop where
  has:∀i∈H++F,z4k T i
  asc:∀i,0<i->i<F.length->z6k (F.getD (i-1) id0) (F.getD i id0)<0
  le:∀i,(H++F++z9f T).count i<=1
theorem PlaceV.w {T:Tb}{H F:List LId}(h:PlaceV T H F):PlaceW T H F:=⟨h.has,h.asc,h.le⟩
open Classical in
noncomputable def v5u (T:Tb)(H F:List LId):Int:=if ∃y,y<6/\∃n,n<z3h T y/\(H++F++z9f T).count ⟨(y:Int)+1,(n:Int)⟩≠1 then 6 else 0
theorem v2i {T:Tb}{H F:List LId}(h:∀y,y<6->∀n,n<z3h T y->(H++F++z9f T).count ⟨(y:Int)+1,(n:Int)⟩=1):v5u T H F=0:=if_neg λ⟨y,hy,n,hn,e⟩=>e (h y hy n hn)
theorem u4t {T:Tb}{H F:List LId}{y n:Nat}(D:y<6)(hn:n<z3h T y)(h:(H++F++z9f T).count ⟨(y:Int)+1,(n:Int)⟩≠1):v5u T H F=6:=if_pos ⟨y,D,n,hn,h⟩
structure CrsV (T:Tb) (l:List Cx):Prop where
  has:∀i,i<l.length->z4k T (l.getD i cx0).a/\z4k T (l.getD i cx0).b/\z6k (l.getD i cx0).a (l.getD i cx0).b<0/\(-1048576<=(l.getD i cx0).n/\(l.getD i cx0).n<=1048576)/\(l.getD i cx0).n≠0
  asc:∀i,0<i->i<l.length->y9k (l.getD (i-1) cx0) (l.getD i cx0)<0
theorem v8e {a b:LId}(h:¬z6k b a<0)(D:a≠b):z6k a b<0:=by
 have O:=mt y3x.1 D;rw[z6o]at h ⊢;have Z:¬(a.y=b.y/\a.n=b.n):=by
  rintro⟨I,M⟩;obtain⟨_,_⟩:=a;obtain⟨_,_⟩:=b;simp only at I M;subst I;subst M;exact D U
 omega
theorem v4s {a b:Cx}(h:¬y9k b a<0)(D:(a.a,a.b)≠(b.a,b.b)):y9k a b<0:=by
 rw[y0a]at h ⊢;have O:¬((a.a.y=b.a.y/\a.a.n=b.a.n)/\(a.b.y=b.b.y/\a.b.n=b.b.n)):=by
  obtain⟨⟨_,_⟩,⟨_,_⟩,_⟩:=a;obtain⟨⟨_,_⟩,⟨_,_⟩,_⟩:=b;rintro⟨⟨I,M⟩,e3,e4⟩;simp only at I M e3 e4;subst I;subst M;subst e3;subst e4;exact D U
 omega
theorem x1z {α:Type}{R:α->α->Prop}{l:List α}(d:α)(h:l.Pairwise R){i:Nat}(I:0<i)(D:i<l.length):R (l.getD (i-1) d) (l.getD i d):=by
 have:=List.pairwise_iff_getElem.1 h (i-1) i oo D oo;rwa [List.getD,List.getElem?_eq_getElem oo,List.getD,List.getElem?_eq_getElem D]
theorem v6k {l:List LId}(hn:l.Nodup):(y1g l).Pairwise λa b=>z6k a b<0:=by
 have D:(y1g l).Pairwise (·≠·):=(z4c l).nodup_iff.2 hn;exact((x4r l).and D).imp λh=>v8e h.1 h.2
theorem v7i {l:List Cx}(hn:(l.map λc=>(c.a,c.b)).Nodup):(y2t l).Pairwise λa b=>y9k a b<0:=by
 have D:((y2t l).map λc=>(c.a,c.b)).Nodup:=((z3s l).map _).nodup_iff.2 hn;exact((y7u l).and (List.pairwise_map.1 D)).imp λh=>v4s h.1 h.2
theorem MVal.le {p:MSt}(h:MVal p)(i:LId):(p.B.flat++p.fa++z9f p.tb).count i<=1:=by
 by_cases k:z4k p.tb i;exact Nat.le_of_eq (h.once i k);obtain⟨rk,I⟩:=h.tab;rw[List.count_eq_zero.2];omega;intro D;rcases List.mem_append.1 D with z|z
 rcases List.mem_append.1 z with z|z
 exact k (h.inv.has i z);exact k (h.fa i z);exact k (x6h I z)
theorem MVal.nodupF {p:MSt}(h:MVal p):p.fa.Nodup:=List.nodup_iff_count.2 λi=>by
 have:=h.le i
 rw[List.count_append,List.count_append]at this
 omega
theorem MVal.tabV {p:MSt}(h:MVal p):TabV p.tb:=by
 obtain⟨rk,D⟩:=h.tab;refine⟨⟨h.inv.lt,h.inv.all,D.rts,rk,D.rkd⟩,λi=>?_⟩;have:=h.le i;rw[List.count_append]at this;omega
theorem MVal.cntHF {p:MSt}(i:LId):(((z2t p.B p.rk).map Hd.id)++y1g p.fa++z9f p.tb).count i=(p.B.flat++p.fa++z9f p.tb).count i:=by
 simp only[List.count_append];rw[(y7t p.B p.rk).count_eq,(z4c p.fa).count_eq]
theorem MVal.place {p:MSt}(h:MVal p):PlaceV p.tb ((z2t p.B p.rk).map Hd.id) (y1g p.fa):=by
 refine⟨λi D=>?_,λi I D=>x1z id0 (v6k h.nodupF) I D,λy O n M=>?_,λi=>?_⟩;rcases List.mem_append.1 D with k|k
 exact h.inv.has i ((y7t p.B p.rk).mem_iff.1 k);exact h.fa i ((z4c p.fa).mem_iff.1 k);rw[MVal.cntHF];exact h.once _ (z9i (by rw[h.inv.lt];exact O) M);rw[MVal.cntHF];exact h.le i
theorem MVal.crs {p:MSt}(h:MVal p):CrsV p.tb (y2t p.cr):=
 ⟨λi D=>h.cr.has _ ((z3s p.cr).mem_iff.1 (z1a D)),λi I D=>x1z cx0 (v7i h.cr.nd) I D⟩
end Go.G08
namespace Go.Proofs.YtlfdhllfmoplgaaGreatDoor
open Go.Lw Go.G21 Go.G08 _root_.Go.Proofs.Tryz
theorem v8k:z3p prog 147 5:=⟨λ_=>kr,λ_=>kr⟩
theorem u0k:ElemOf prog 29 147 z4z 40:=ElemOf.mk' (z:=(.agg #[.int .u8 0,.int .i64 0,.int .u8 0,.int .i64 0,.int .i64 0])) underlying29 kr U
theorem y4z:z1c prog 147 0 0:=λ_ _=>kr
theorem y4q:z1c prog 147 1 2:=λ_ _=>kr
theorem y8y:z1c prog 147 2 4:=λ_ _=>kr
theorem u7c:z1t prog 147 5:=λ_=>kr
theorem v9j (w:World):(zeroValue 147).run prog w=.ok (.agg #[(.int .u8 0),(.int .i64 0),(.int .u8 0),(.int .i64 0),(.int .i64 0)]) w:=kr
theorem v8p (x y:Cx):orZ [z6k x.a y.a,z6k x.b y.b]=y9k x y:=by
 unfold orZ orZ orZ y9k
 repeat' split
 all_goals first|rfl|omega
theorem v8b (x y:Cx)(w0:World):Rets prog 99 #[.agg #[.int .u8 x.a.y,.int .i64 x.a.n,.int .u8 x.b.y,.int .i64 x.b.n,.int .i64 x.n],.agg #[.int .u8 y.a.y,.int .i64 y.a.n,.int .u8 y.b.y,.int .i64 y.b.n,.int .i64 y.n]] w0 λr w'=>r=.int .i64 (y9k x y)/\Fr [] w0 w':=by
 refine we [(0,.agg #[.int .u8 x.a.y,.int .i64 x.a.n,.int .u8 x.b.y,.int .i64 x.b.n,.int .i64 x.n]),(1,.agg #[.int .u8 y.a.y,.int .i64 y.a.n,.int .u8 y.b.y,.int .i64 y.b.n,.int .i64 y.n])] func99 U ntmps99 U (.c2 U U) (sr (bx U (λg2 w1 a2 M q1 z1=>(bx U (λg3 w2 a3 O q2 z2=>(asg U (nn (sq ?_))))))));intro a h;refine z0h none (λwb w'=>Fr [] wb w') z2o ?_;intro w3 q3;replace M:=M.ext (q2.n1 q3);replace O:=O.ext q3;have hC:Fr [] w3 w3:=Fr.refl _ _;have D:=M;have I:=O;refine z0c 0 h U y4z U λa h=>z1f (vs:=[_,_]) 1 h U (λ_ hw=>(D.ext hw)) z2q U U λa h=>z0c 2 h U y4z U λa h=>z1f (vs:=[_,_]) 3 h U (λ_ hw=>(I.ext hw)) z2q U U λa h=>z0c 5 h U y4q U λa h=>z1f (vs:=[_,_]) 6 h U (λ_ hw=>(D.ext hw)) z2q U U λa h=>z0c 7 h U y4q U λa h=>z1f (vs:=[_,_]) 8 h U (λ_ hw=>(I.ext hw)) z2q U U λa h=>z0d 4 U (z0n h (z0a U (z0a U z0g)) u9o (y0o x.a y.a _) ?_);rintro _ w4 ⟨rfl,q4⟩ a h;replace hC:=hC.next q4;refine z0b (z0d 9 U (z0n h (z0a U (z0a U z0g)) u9o (y0o x.b y.b _) ?_));rintro _ w5 ⟨rfl,q5⟩ a h;replace M:=M.ext (q4.n1 q5);replace O:=O.ext (q4.n1 q5);replace hC:=hC.next q5;refine z0b (z0d 10 U (z2j ([z6k x.a y.a,z6k x.b y.b]) h (z0a U (z0a U z0g)) U z9t λa0 w6 hg a1 q6 hz a h=>?_));have Z:g2<a0:=by have:=M.lt;omega
 have Z:g3<a0:=by have:=O.lt;omega
 replace hC:=hC.next q6;refine z0b (z0d 11 U (z0n h (z0a U z0g) (mkC func137) (u9v _ [z6k x.a y.a,z6k x.b y.b] _ a1.sl sp0) ?_));rintro _ w7 ⟨rfl,q7⟩ a h;replace hC:=hC.next q7;refine z0b (z0d 12 U (z0t h U λa h=>?_));refine z0b (z0r ?_);clear hC D I;refine bk (h.sub (L':=[(4,_)]) (.cons U .nil)) (tn (rt (r1 results99 U ?_)));exact⟨_,rfl,congrArg (Value.int .i64) (v8p x y),(q1.n6 q2 q3 q4 q5 q6 q7)⟩
theorem x8i (q:FbQ)(w0:World)(O:FbAt w0 q)(h6:q.ts.length=6)(hv:CrsV (z2g q.ts) q.cs):Rets prog 114 #[.agg #[.slice q.t.1 q.t.2.1 q.t.2.2,.slice q.c.1 q.c.2.1 q.c.2.2,.slice q.h.1 q.h.2.1 q.h.2.2,.slice q.f.1 q.f.2.1 q.f.2.2]] w0 λr w'=>r=.int .i64 0/\Fr [] w0 w':=by
 have b9:=O.len;have b8:=y0e q.ts;have hM:=O.c.len_le;unfold maxLen at hM;refine we [(0,.agg #[.slice q.t.1 q.t.2.1 q.t.2.2,.slice q.c.1 q.c.2.1 q.c.2.2,.slice q.h.1 q.h.2.1 q.h.2.2,.slice q.f.1 q.f.2.1 q.f.2.2])] func114 U ntmps114 U (.cons U .nil) ?_;have a4:=O;refine sr (bx U (λg1 w1 b6 M q1 z1=>(asg U (nn (sq (sr (fad U x5v (z0i U M U j1q (lnS U underlying29 (mv U (nn (bl (lpK (ι:=Nat) [(1,_),(6,_),(7,_)] (λi=>[(8,.int .i64 (i:Int))]) (λi w'=>Fr [] w1 w'/\i<=q.cs.length) (λi=>q.cs.length-i) 0 (.c4 U U U U) ⟨Fr.refl _ _,Nat.zero_le _⟩ ?_)))))))))))));rintro i w2 ⟨q2,hi⟩;have z2:=q2.size;refine kpC [(1,_),(6,_),(7,_),(8,_)] (.c4 U U U U) (sr (lt' U (nn (sq (cd U (λc0=>?_) (λc0=>?_))))));have a1:=hv.has i oo;have a7:=a1.1;have a8:=a1.2.1;have b2:=a7.1;have b3:=a7.2.1;have b4:=a8.1;have b5:=a8.2.1;have a9:=hv.asc i;refine sk (tn (sq (bl (sr (mv U ?_)))));replace O:=a4.ext (q1.n1 q2);refine z1d (cx0) U O.c U u0k z1j (λb0 a5=>?_);refine z1q U (a5 _ O.c) v8k (al v9j U (λg4 w3 b7 I q3 z3=>?_));refine asg U (z0j (vs:=[_,_,_,_,_]) U I u7c (λw4 I q4 z4=>?_) (h1:=(by first|(simp[Value.oneCell',S];done)|exact z4z.one _)));refine nn (sq (sq (v4l (r:=34) (L':=[(1,_),(3,_),(4,_),(6,_),(7,_),(8,_)]) ((((¬z4k (z2g q.ts) (q.cs.getD i cx0).a)\/(¬z4k (z2g q.ts) (q.cs.getD i cx0).b))\/(0<=(z6k (q.cs.getD i cx0).a (q.cs.getD i cx0).b)))) (.c6 U U U U U U) ?_ ?_)));refine fad U y0p ?_;replace M:=(M.ext (q2.n1 q3)).fr q4;refine z0i U M U x3j (fad U y4z (z1v (vs:=[_,_]) U I z2q U ?_));replace O:=a4.ext (q1.z3 q2 q3 q4);refine cl (ev2 U) (mkC func157) (x3i (q.cs.getD i cx0).a _ _ _ O.t O.tt oo oo) U ?_;rintro _ w5 ⟨rfl,q5⟩;have z5:=q5.size;refine nt' U (mv U (gs 19 U (λhh=>absurd hh (by exact λe=>e a1.1)) (λg0=>(gY U (fad U y0p (gY U ?_))))));replace M:=M.ext q5;refine z0i U M U x3j (gY U (fad U y4q (gY U ?_)));replace I:=I.ext q5;refine z1v (vs:=[_,_]) U I z2q U (gY U ?_);replace O:=a4.ext (q1.z4 q2 q3 q4 q5);refine cl (ev2 U) (mkC func157) (x3i (q.cs.getD i cx0).b _ _ _ O.t O.tt oo oo) U ?_;rintro _ w6 ⟨rfl,q6⟩;have z6:=q6.size;refine gY U (nt' U (pkf U (mv U (gs 27 U (λhh=>absurd hh (by exact λe=>e a1.2.1)) (λg1=>(gY U (fad U y4z (gY U ?_))))))));replace I:=I.ext q6;refine z1v (vs:=[_,_]) U I z2q U (gY U (fad U y4q (gY U (z1v (vs:=[_,_]) U I z2q U (gY U (cl (ev2 U) u9o (y0o (q.cs.getD i cx0).a (q.cs.getD i cx0).b _) U ?_))))));rintro _ w7 ⟨rfl,q7⟩;have z7:=q7.size;exact gY U (ge' U U (pkf U (y2n U (.c6 U U U U U U) (q5.n2 q6 q7))));intro w8 q8;have z8:=q8.size;refine tn (cd U (λc1=>?_) (λc1=>?_));refine sr (asg U (kpL [(2,_)] (.cons U .nil) (nn (rt (tr (rb (tr (tr (rb (tr (r1 results114 U ?_)))))))))));exfalso;rcases c1 with (hh|hh)|hh
 exact hh a1.1;exact hh a1.2.1;omega;refine sk (tn (sq (sq (rbo (r:=47) (L':=[(1,_),(3,_),(4,_),(6,_),(7,_),(8,_)]) (((((q.cs.getD i cx0).n < -1048576)\/(1048576<(q.cs.getD i cx0).n))\/((q.cs.getD i cx0).n=0))) (.c6 U U U U U U) ?_ ?_))));refine fad U y8y ?_;replace I:=I.ext q8;refine z0i U I U na3 (lt' U (mv U (gs 38 U (λhh=>absurd hh oo) (λg2=>(gY U (fad U y8y (gY U (z0i U I U na3 (gY U (gt' U (pkf U (mv U (gs 43 U (λhh=>absurd hh oo) (λg3=>?_))))))))))))));exact gY U (fad U y8y (gY U (z0i U I U na3 (gY U (eq' U (pkf U (rbe U (.c6 U U U U U U))))))));refine tn (cd U (λc2=>?_) (λc2=>?_));refine sr (asg U (kpL [(2,_)] (.cons U .nil) (nn (rt (tr (rb (tr (tr (rb (tr (r1 results114 U ?_)))))))))));exfalso;omega;refine sk (tn (sq ?_));replace O:=a4.ext (q1.z4 q2 q3 q4 q8);replace M:=((M.ext (q2.n1 q3)).fr q4).ext q8;intro a h;refine z0h none (λwb w'=>Fr [] wb w') z2o ?_;intro w9 q9;have z9:=q9.size;replace O:=O.ext q9;replace M:=M.ext q9;replace I:=I.ext (q8.n1 q9);have hC:Fr [] w9 w9:=Fr.refl _ _;have a3:=O;have Z:=M;have a0:=I;refine z0e 0 h U λa h=>v3q 1 hC h wn U U U U λa h=>z0e 2 h U λa h=>gSp (D:=50) h U ?_ ?_;clear h;intro g4 h;refine z0c 3 h U x5v U ?_ (hG:=(wy U));clear h a;intro a h;refine z0l 4 h U (λ_ hw=>Z.ext hw) U j1q U ?_ (hG:=(wy U));clear h a;intro a h;refine z0e 5 h U ?_ (hG:=(wy U));clear h a;intro a h;refine z2v 6 h U (by first|exact i6 oo|rfl) U ?_ (hG:=(wy U));clear h a;intro a h;refine z1e (p:=(i-1)) (cx0) 7 h U O.c U u0k U ?_ (hG:=(wy U));clear h a;intro b1 a6 a h;refine z1x 8 h (wy U) U (λ_ hw=>a6 _ (a3.c.ext hw)) v8k U λa h=>z0w 9 h U (λ_ hw=>a0.ext hw) v8k U ?_ (hG:=(wy U));clear h a;intro a h;refine z0d 10 U (z4d h U U U U (z0n h (z0a U (z0a U z0g)) (mkC func99) (v8b (q.cs.getD (i-1) cx0) (q.cs.getD i cx0) _) ?_));rintro _ c9 ⟨rfl,a2⟩ a h;have d0:=a2.size;replace O:=O.ext a2;replace M:=M.ext a2;replace I:=I.ext a2;replace hC:=hC.next a2;refine z0b (v6d 11 hC h (wy U) U U U U λa h=>z0d 12 U (z4a h U λa h=>?_));refine z0b (z0r ?_);clear hC a3 Z a0;refine bk (h.sub (L':=[(1,_),(6,_),(7,_),(8,_),(60,_)]) (.c5 U U U U U)) (tn (cd U (λc3=>?_) (λc3=>?_)));refine sr (asg U (nn (rt (rb (tr (tr (rb (tr (r1 results114 U ?_)))))))));exfalso;first|omega|(have:=a9 oo oo;omega)
 exact sk (bn' (tn (rg (z0x U (wi6 oo) (mv U (nl (lpE (i+1) (.c4 U U U U) ⟨(q2.z5 q3 q4 q8 q9 a2),oo⟩ oo)))))));clear h;intro g4 h;refine z1l 3 h U U λa h=>z1l 4 h U U λa h=>z1l 5 h U U λa h=>z1l 6 h U U λa h=>z1l 7 h U U λa h=>z1l 8 h U U λa h=>z1l 9 h U U λa h=>z1l 10 h U U λa h=>z1l 11 h U U λa h=>z0d 12 U (z2l h U λa h=>?_);refine z0b (z0r ?_);clear hC a3 Z a0;exact bk (h.sub (L':=[(1,_),(6,_),(7,_),(8,_),(60,_)]) (.c5 U U U U U)) (tn (cf U (sk (bn' (tn (rg (z0x U (wi6 oo) (mv U (nl (lpE (i+1) (.c4 U U U U) ⟨(q2.z4 q3 q4 q8 q9),oo⟩ oo))))))))));obtain rfl:i=q.cs.length:=by omega
 exact ex (te (te (xh (tn (sr (asg U (nn (rt (r1 results114 U ⟨_,rfl,rfl,(q1.n1 q2)⟩)))))))))
theorem v1x {a b:List LId}{k:Nat}(h:∀i,(a++b).count i<=1)(c:List LId)(D:∃d,a++b=c++d):c.count (b.getD k id0)<=100000:=by
 obtain⟨d,e⟩:=D;have:=h (b.getD k id0);rw[e,List.count_append]at this;omega
theorem x7f (q:FbQ)(w0:World)(O:FbAt w0 q)(h6:q.ts.length=6)(hv:TabV (z2g q.ts))(hp:PlaceW (z2g q.ts) q.hs q.fs):Rets prog 115 #[.agg #[.slice q.t.1 q.t.2.1 q.t.2.2,.slice q.c.1 q.c.2.1 q.c.2.2,.slice q.h.1 q.h.2.1 q.h.2.2,.slice q.f.1 q.f.2.1 q.f.2.2]] w0 λr w'=>r=.int .i64 (v5u (z2g q.ts) q.hs q.fs)/\Fr [] w0 w':=by
 have h9:=O.len;have h7:=y0e q.ts;have hM:=O.f.len_le;unfold maxLen at hM;refine we [(0,.agg #[.slice q.t.1 q.t.2.1 q.t.2.2,.slice q.c.1 q.c.2.1 q.c.2.2,.slice q.h.1 q.h.2.1 q.h.2.2,.slice q.f.1 q.f.2.1 q.f.2.2])] func115 U ntmps115 U (.cons U .nil) ?_;have M:=O;refine sr (bx U (λg1 w1 h0 I q1 z1=>?_));refine asg U (nn (sq (sr (fad U y2x (z0i U I U z6h (fad U x1o (z0i U I U z6h (z1s (cs:=[_,_]) (ev2 U) j4b (z0f U (z0f U z0q)) U ?_))))))));refine mv U (nn (bl (lpK (ι:=Nat) [(1,_),(22,_)] (λz=>[(23,.int .i64 (z:Int))]) (λz w'=>Fr [] w1 w'/\z<=2) (λz=>2-z) 0 (.c3 U U U) ⟨Fr.refl _ _,Nat.zero_le _⟩ ?_)));rintro z w2 ⟨q2,hz⟩;have z2:=q2.size;refine kpC [(1,_),(22,_),(23,_)] (.c3 U U U) (sr (lt' U (nn (sq (cd U (λc0=>?_) (λc0=>?_))))));have h8:=z2e (v4x M z);have d9:=(v4x M z).len_le;unfold maxLen at d9;refine sk (tn (sq (bl (sr (u0w U U underlying239 u1e z6h (j2c oo) U (asg U (nn (sr (mv U (lnS U underlying30 (mv U (nn (bl (lpK (ι:=Nat) [(1,_),(22,_),(23,_),(26,_),(27,_)] (λn=>[(28,.int .i64 (n:Int))]) (λn w'=>Fr [] w2 w'/\n<=(hfl q z).length) (λn=>(hfl q z).length-n) 0 (.c6 U U U U U U) ⟨Fr.refl _ _,Nat.zero_le _⟩ ?_))))))))))))));rintro n w3 ⟨q3,hn⟩;have z3:=q3.size;refine kpC [(1,_),(22,_),(23,_),(26,_),(27,_),(28,_)] (.c6 U U U U U U) (sr (lt' U (nn (sq (cd U (λc1=>?_) (λc1=>?_))))));refine sk (tn (sq (bl (sr ?_))));replace O:=M.ext (q1.n2 q2 q3);refine z1d (id0) U (v4x O z) U z3x z1j (λf2 d1=>?_);refine z1q U (d1 _ (v4x O z)) z2q (al z7r U (λg6 w4 h2 d0 q4 z4=>?_));refine z0j (vs:=[_,_]) U d0 z5y (λw5 d0 q5 z5=>?_) (h1:=(by first|(simp[Value.oneCell',S];done)|exact z6j.one _|exact z1b.one _));refine nn (sr (fad U y0p ?_));replace I:=(I.ext (q2.n2 q3 q4)).fr q5;refine z0i U I U x3j (z0m U d0 z2q ?_);replace O:=M.ext (q1.z4 q2 q3 q4 q5);refine cl (ev2 U) (mkC func157) (x3i ((hfl q z).getD n id0) _ _ _ O.t O.tt oo (by have h:=hp.has _ (u9e z (z1a (d:=id0) (i:=n) oo));have:=h.1;have:=h.2.1;omega)) U ?_;rintro _ w6 ⟨rfl,q6⟩;have z6:=q6.size;refine nt' U (nn (cd U (λc2=>?_) (λc2=>?_)));exact sr (asg U (kpL [(2,_)] (.cons U .nil) (nn (rt (rb (tr (tr (rb (rb (tr (tr (rb (tr (r1 results115 U (absurd (hp.has _ (u9e z (z1a (d:=id0) (i:=n) oo))) (by simpa using c2))))))))))))))));exact sk (bn' (tn (rg (z0x U (wi6 oo) (mv U (nl (lpE (n+1) (.c6 U U U U U U) ⟨(q3.z3 q4 q5 q6),oo⟩ oo)))))));obtain rfl:n=(hfl q z).length:=by omega
 exact ex (te (te (xh (bn' (tn (rg (z0x U (wi6 oo) (mv U (nl (lpE (z+1) (.c3 U U U) ⟨(q2.n1 q3),oo⟩ oo))))))))));obtain rfl:z=2:=by omega
 refine ex (te (te (xh (tn (sq (sr (fad U x1o ?_)))))));replace I:=I.ext q2;refine z0i U I U z6h (lnS U underlying30 (mv U (nn (bl (lpK (ι:=Nat) [(1,_),(40,_),(41,_)] (λi=>[(42,.int .i64 (i:Int))]) (λi w'=>Fr [] w2 w'/\i<=q.fs.length) (λi=>q.fs.length-i) 0 (.c4 U U U U) ⟨Fr.refl _ _,Nat.zero_le _⟩ ?_)))));rintro i w7 ⟨q7,hi⟩;have z7:=q7.size;refine kpC [(1,_),(40,_),(41,_),(42,_)] (.c4 U U U U) (sr (lt' U (nn (sq (cd U (λc3=>?_) (λc3=>?_))))));have e8:=hp.asc i;refine sk (tn (sq (bl (sr (mv U ?_)))));replace O:=M.ext (q1.n2 q2 q7);refine z1d (id0) U O.f U z3x z1j (λf3 d3=>?_);refine z1q U (d3 _ O.f) z2q (al z7r U (λg8 w8 h3 a8 q8 z8=>?_));refine asg U (z0j (vs:=[_,_]) U a8 z5y (λw9 a8 q9 z9=>?_) (h1:=(by first|(simp[Value.oneCell',S];done)|exact z6j.one _|exact z1b.one _)));refine nn (sq ?_);replace O:=M.ext (q1.z4 q2 q7 q8 q9);replace I:=(I.ext (q7.n1 q8)).fr q9;intro a h;refine z0h none (λwb w'=>Fr [] wb w') z2o ?_;intro e3 b1;have j1:=b1.size;replace O:=O.ext b1;replace I:=I.ext b1;replace a8:=a8.ext b1;have hC:Fr [] e3 e3:=Fr.refl _ _;have b5:=O;have a7:=I;have a9:=a8;refine z0e 0 h U λa h=>v3q 1 hC h wn U U U U λa h=>z0e 2 h U λa h=>gSp (D:=49) h U ?_ ?_;clear h;intro g0 h;refine z0c 3 h U x1o U ?_ (hG:=(wy U));clear h a;intro a h;refine z0l 4 h U (λ_ hw=>a7.ext hw) U z6h U ?_ (hG:=(wy U));clear h a;intro a h;refine z0e 5 h U ?_ (hG:=(wy U));clear h a;intro a h;refine z2v 6 h U (by first|exact i6 oo|rfl) U ?_ (hG:=(wy U));clear h a;intro a h;refine z1e (p:=(i-1)) (id0) 7 h U O.f U z3x U ?_ (hG:=(wy U));clear h a;intro f4 d4 a h;refine z1x 8 h (wy U) U (λ_ hw=>d4 _ (b5.f.ext hw)) z2q U λa h=>z0w 9 h U (λ_ hw=>a9.ext hw) z2q U ?_ (hG:=(wy U));clear h a;intro a h;refine z0d 10 U (z4d h U U U U (z0n h (z0a U (z0a U z0g)) u9o (y0o (q.fs.getD (i-1) id0) (q.fs.getD i id0) _) ?_));rintro _ i0 ⟨rfl,b2⟩ a h;have j2:=b2.size;replace O:=O.ext b2;replace I:=I.ext b2;replace a8:=a8.ext b2;replace hC:=hC.next b2;refine z0b (v6d 11 hC h (wy U) U U U U λa h=>z0d 12 U (z4a h U λa h=>?_));refine z0b (z0r ?_);clear hC b5 a7 a9;refine bk (h.sub (L':=[(1,_),(40,_),(41,_),(42,_),(59,_)]) (.c5 U U U U U)) (tn (cd U (λc4=>?_) (λc4=>?_)));refine sr (asg U (nn (rt (rb (tr (tr (rb (tr (r1 results115 U ?_)))))))));exfalso;first|omega|(have:=e8 oo oo;omega)
 exact sk (bn' (tn (rg (z0x U (wi6 oo) (mv U (nl (lpE (i+1) (.c4 U U U U) ⟨(q7.z4 q8 q9 b1 b2),oo⟩ oo)))))));clear h;intro g0 h;refine z1l 3 h U U λa h=>z1l 4 h U U λa h=>z1l 5 h U U λa h=>z1l 6 h U U λa h=>z1l 7 h U U λa h=>z1l 8 h U U λa h=>z1l 9 h U U λa h=>z1l 10 h U U λa h=>z1l 11 h U U λa h=>z0d 12 U (z2l h U λa h=>?_);refine z0b (z0r ?_);clear hC b5 a7 a9;exact bk (h.sub (L':=[(1,_),(40,_),(41,_),(42,_),(59,_)]) (.c5 U U U U U)) (tn (cf U (sk (bn' (tn (rg (z0x U (wi6 oo) (mv U (nl (lpE (i+1) (.c4 U U U U) ⟨(q7.z3 q8 q9 b1),oo⟩ oo))))))))));obtain rfl:i=q.fs.length:=by omega
 refine ex (te (te (xh (tn (sr (y6j idV (.int .i64 0) U (λa5 i1 f9 hm a6 j3=>(al j3s U (λg9 i2 h4 Z a1 j4=>(z3u U U Z U j3e (λi3 Z a2 j5=>(nn (sr (z7e z0g (ev1 U) U (asg U (nn (sr (mv U (fad U y2x ?_)))))))))))))))))));replace I:=(I.ext (q7.n2 a6 a1)).fr a2;refine z0i U I U z6h ?_;replace O:=M.ext (q1.z5 q2 q7 a6 a1 a2);replace hm:=(hm.ext a1).fr a2 (by intro k hk hb;simp at hk hb;omega);refine clv (us:=[]) (ws:=[.pointer (some ⟨g9,0,none⟩)]) U (ev1 U) (mkC func158) (x2f g9 a5 [] _ _ w0 _ M.h oo O.h Z hm (λk hk=>v1x (a:=[]) (b:=q.hs) (λi=>(by have:=hp.le i;simp only[List.count_append,List.nil_append]at this ⊢;omega)) _ ⟨q.hs.drop k,sp0⟩)) U (by intro g e;cases e) ?_;rintro g3 i4 ⟨hm,a3⟩;have j6:=a3.size;refine nn (sr (mv U (fad U x1o ?_)));replace I:=I.fr a3;refine z0i U I U z6h ?_;replace O:=M.ext (q1.z6 q2 q7 a6 a1 a2 a3);replace Z:=Z.fr a3;refine clv (us:=[]) (ws:=[.pointer (some ⟨g9,0,none⟩)]) U (ev1 U) (mkC func158) (x2f g9 a5 ([]++q.hs) _ _ w0 _ M.f oo O.f Z hm (λk hk=>v1x (a:=q.hs) (b:=q.fs) (λi=>(by have:=hp.le i;simp only[List.count_append]at this ⊢;omega)) _ ⟨q.fs.drop k,sp0⟩)) U (by intro g e;cases e) ?_;rintro g4 f0 ⟨hm,a4⟩;have j7:=a4.size;refine nn (sq (sr (fad U y0p ?_)));replace I:=I.fr a4;refine z0i U I U x3j (lnS U underlying28 (mv U (nn (bl (lpK (ι:=Nat) [(1,_),(9,_),(10,_),(72,_),(73,_)] (λy=>[(74,.int .i64 (y:Int))]) (λy w'=>Fr [a5] f0 w'/\y<=q.ts.length/\MapZ idV w' a5 (.int .i64 0) (y7p ((q.hs++q.fs)++(z9n (z2g q.ts) y 0)))) (λy=>q.ts.length-y) 0 (.c6 U U U U U U) ⟨Fr.refl _ _,⟨Nat.zero_le _,by rw[v1r,List.append_nil];exact hm⟩⟩ ?_)))));rintro y e4 ⟨a0,⟨hy,hm⟩⟩;have j8:=a0.size;refine kpC [(1,_),(9,_),(10,_),(72,_),(73,_),(74,_)] (.c6 U U U U U U) (sr (lt' U (nn (sq (cd U (λc5=>?_) (λc5=>?_))))));have e9:=z5a M.tt y;have b9:=(M.tt _ (z1a (d:=tq0) (i:=y) oo)).1.len_le;unfold maxLen at b9;refine sk (tn (sq (bl (sr ?_))));replace O:=M.ext (((q1.z6 q2 q7 a6 a1 a2 a3).z1 a4).z1 a0);refine z1d (tq0) U O.t U y9c z1j (λf5 d5=>?_);refine z1k U (d5 _ O.t) y0q (asg U (nn (sr (mv U (lnS U underlying123 (mv U (nn (bl (lpK (ι:=Nat) [(1,_),(9,_),(10,_),(72,_),(73,_),(74,_),(78,_),(79,_)] (λn=>[(80,.int .i64 (n:Int))]) (λn w'=>Fr [a5] e4 w'/\n<=(q.ts.getD y tq0).2.length/\MapZ idV w' a5 (.int .i64 0) (y7p ((q.hs++q.fs)++(z9n (z2g q.ts) y n)))) (λn=>(q.ts.getD y tq0).2.length-n) 0 (.d8 U U U U U U U U (.cons U .nil)) ⟨Fr.refl _ _,⟨Nat.zero_le _,hm⟩⟩ ?_)))))))));rintro n i5 ⟨b3,⟨hn,hm⟩⟩;have j9:=b3.size;refine kpC [(1,_),(9,_),(10,_),(72,_),(73,_),(74,_),(78,_),(79,_),(80,_)] (.d8 U U U U U U U U (.cons U .nil)) (sr (lt' U (nn (sq (cd U (λc6=>?_) (λc6=>?_))))));have h5:=z2e (z8e M.tt (y:=y) (n:=n) oo oo).1;have e7:∀k,k<((q.ts.getD y tq0).2.getD n lq0).ths.length->(((q.hs++q.fs)++z9n (z2g q.ts) y n)++((q.ts.getD y tq0).2.getD n lq0).ths.take k).count (((q.ts.getD y tq0).2.getD n lq0).ths.getD k id0)<=100000:=λk hk=>by
  have e5:=x5d (k:=k) hv.thr (y:=y) (n:=n) oo oo hk;have e6:=hp.le (((q.ts.getD y tq0).2.getD n lq0).ths.getD k id0);rw[List.count_append]at e6;rw[List.count_append,List.count_append];rw[List.count_append,List.count_append,List.count_singleton,if_pos sp0]at e5;omega
 refine sk (tn (sq (bl (sr ?_))));replace O:=M.ext ((((q1.z6 q2 q7 a6 a1 a2 a3).z1 a4).z1 a0).z1 b3);refine z1d (lq0) U (O.tt _ (z1a (d:=tq0) (i:=y) oo)).1 U y5a z1j (λf6 d6=>?_);refine z1q U (d6 _ (O.tt _ (z1a (d:=tq0) (i:=y) oo)).1) x0j (al x3d U (λg7 i7 f8 b6 b7 k0=>?_));refine z0j (vs:=[_,_,_,_]) U b6 x7u (λi8 b6 b8 k1=>?_) (h1:=(by first|(simp[Value.oneCell',S];done)|exact z6j.one _|exact z1b.one _));refine nn (rg (mv U (fad U z6q (z0i U b6 U z6h ?_))));replace O:=M.ext ((((q1.z6 q2 q7 a6 a1 a2 a3).z1 a4).z1 a0).z3 b3 b7 b8);replace Z:=((((Z.fr a4).fr a0).fr b3).ext b7).fr b8;replace hm:=(hm.ext b7).fr b8 (by intro k hk hb;simp at hk hb;omega);refine clv (us:=[]) (ws:=[.pointer (some ⟨g9,0,none⟩)]) U (ev1 U) (mkC func158) (x2f g9 a5 ((q.hs++q.fs)++z9n (z2g q.ts) y n) _ _ w0 _ (z8e M.tt (y:=y) (n:=n) oo oo).1 oo (z8e O.tt (y:=y) (n:=n) oo oo).1 Z hm (λk hk=>e7 k hk)) U (by intro g e;cases e) ?_;rintro g5 i9 ⟨hm,e2⟩;have k2:=e2.size;exact nl (bn' (tn (rg (z0x U (wi6 oo) (mv U (nl (lpE (n+1) (.d8 U U U U U U U U (.cons U .nil)) ⟨((Fr.refl [a5] _).z4 b3 b7 b8 e2),⟨oo,by rw[y5w oo,<-List.append_assoc];exact hm⟩⟩ oo)))))));obtain rfl:n=(q.ts.getD y tq0).2.length:=by omega
 exact ex (te (te (xh (bn' (tn (rg (z0x U (wi6 oo) (mv U (nl (lpE (y+1) (.c6 U U U U U U) ⟨((Fr.refl [a5] _).z2 a0 b3),⟨oo,by rw[y6r oo];exact hm⟩⟩ oo))))))))));obtain rfl:y=q.ts.length:=by omega
 rw[v5s (by rw[y0e];omega)]at hm;refine ex (te (te (xh (tn (sq (sr (fad U y0p ?_)))))));replace I:=I.fr a0;refine z0i U I U x3j (lnS U underlying28 (mv U (kpL [(9,_),(91,_),(92,_),(93,_)] (.c4 U U U U) (nn (bl (lpK (ι:=Nat) [(9,_),(91,_),(92,_)] (λy=>[(93,.int .i64 (y:Int))]) (λy w'=>Fr [] e4 w'/\y<=q.ts.length/\∀y',y'<y->∀n,n<z3h (z2g q.ts) y'->(q.hs++q.fs++z9f (z2g q.ts)).count ⟨(y':Int)+1,(n:Int)⟩=1) (λy=>q.ts.length-y) 0 (.c4 U U U U) ⟨Fr.refl _ _,⟨Nat.zero_le _,λk h=>absurd h oo⟩⟩ ?_))))));rintro y f1 ⟨b0,⟨hy,e1⟩⟩;have k4:=b0.size;refine kpC [(9,_),(91,_),(92,_),(93,_)] (.c4 U U U U) (sr (lt' U (nn (sq (cd U (λc7=>?_) (λc7=>?_))))));have e9:=z5a M.tt y;have b9:=(M.tt _ (z1a (d:=tq0) (i:=y) oo)).1.len_le;unfold maxLen at b9;refine sk (tn (sq (bl (sr (mv U ?_)))));replace O:=M.ext ((((q1.z6 q2 q7 a6 a1 a2 a3).z1 a4).z1 a0).n1 b0);refine z1d (tq0) U O.t U y9c z1j (λf7 d7=>?_);refine z1k U (d7 _ O.t) y0q (asg U (asg U (nn (sr (mv U (lnS U underlying123 (mv U (nn (bl (lpK (ι:=Nat) [(9,_),(15,_),(91,_),(92,_),(93,_),(99,_)] (λn=>[(100,.int .i64 (n:Int))]) (λn w'=>Fr [] f1 w'/\n<=(q.ts.getD y tq0).2.length/\∀n',n'<n->(q.hs++q.fs++z9f (z2g q.ts)).count ⟨(y:Int)+1,(n':Int)⟩=1) (λn=>(q.ts.getD y tq0).2.length-n) 0 (.c7 U U U U U U U) ⟨Fr.refl _ _,⟨Nat.zero_le _,λk h=>absurd h oo⟩⟩ ?_))))))))));rintro n j0 ⟨b4,⟨hn,e0⟩⟩;have k5:=b4.size;refine kpC [(9,_),(15,_),(91,_),(92,_),(93,_),(99,_),(100,_)] (.c7 U U U U U U U) (sr (lt' U (nn (sq (cd U (λc8=>?_) (λc8=>?_))))));refine sk (tn (sq (bl (sr (mv U (asg U (nn (sr ?_))))))));replace Z:=((Z.fr a4).fr a0).ext (b0.n1 b4);refine z2r U Z j1a (mv U (z0x U (wi6 oo) (z4m U (us underlying3) underlying5 (wi8 oo) (mv U (z1s (cs:=[_,_]) (ev2 U) j1x (z0f U (z0f U z0q)) U ?_)))));replace hm:=hm.ext (b0.n1 b4);refine y3v (V:=idV) (z:=(.int .i64 0)) (k:=(⟨(y:Int)+1,(n:Int)⟩:LId)) (v:=.int .i64 (((((q.hs++q.fs)++z9f (z2g q.ts))).count (⟨(y:Int)+1,(n:Int)⟩:LId):Nat):Int)) U U hm z5x underlying240 zvI U U (ne' U (kpL [(9,_),(15,_),(91,_),(92,_),(93,_),(99,_),(100,_),(110,_)] (.c8 U U U U U U U U) (nn (cd U (λc9=>?_) (λc9=>?_)))));exact sr (asg U (kpL [(2,_)] (.cons U .nil) (nn (rt (rb (tr (tr (rb (rb (tr (tr (rb (tr (r1 results115 U ⟨_,rfl,by rw[u4t (y:=y) (n:=n) oo (by rw[z3k];omega) oo],((((q1.z6 q2 q7 a6 a1 a2 a3).z1 a4).z1 a0).n2 b0 b4)⟩))))))))))))));refine sk (bn' (tn (rg (z0x U (wi6 oo) (mv U (nl ?_))))));exact lpE (n+1) (.c7 U U U U U U U) ⟨b4,⟨oo,λk h=>by
  by_cases e:k=n;subst e;omega;exact e0 k oo⟩⟩ oo
 obtain rfl:n=(q.ts.getD y tq0).2.length:=by omega
 refine ex (te (te (xh (bn' (tn (rg (z0x U (wi6 oo) (mv U (nl ?_)))))))));exact lpE (y+1) (.c4 U U U U) ⟨(b0.n1 b4),⟨oo,λk h=>by
  by_cases e:k=y;subst e;exact λn h=>e0 n (by rw[z3k]at h;omega);exact e1 k oo⟩⟩ oo
 obtain rfl:y=q.ts.length:=by omega
 exact ex (te (te (xh (tn (sr (asg U (nn (rt (r1 results115 U ⟨_,rfl,by rw[v2i λy hy n hn=>e1 y oo n hn],((((q1.z6 q2 q7 a6 a1 a2 a3).z1 a4).z1 a0).n1 b0)⟩)))))))))
theorem v5r (q:FbQ)(w0:World)(I:FbAt w0 q)(h6:q.ts.length=6)(hv:TabV (z2g q.ts))(hc:CrsV (z2g q.ts) q.cs)(hp:PlaceW (z2g q.ts) q.hs q.fs):Rets prog 52 #[.agg #[.slice q.t.1 q.t.2.1 q.t.2.2,.slice q.c.1 q.c.2.1 q.c.2.2,.slice q.h.1 q.h.2.1 q.h.2.2,.slice q.f.1 q.f.2.1 q.f.2.2]] w0 λr w'=>r=.int .i64 (v5u (z2g q.ts) q.hs q.fs)/\Fr [] w0 w':=by
 refine we [(0,.agg #[.slice q.t.1 q.t.2.1 q.t.2.2,.slice q.c.1 q.c.2.1 q.c.2.2,.slice q.h.1 q.h.2.1 q.h.2.2,.slice q.f.1 q.f.2.1 q.f.2.2])] func52 U ntmps52 U (.cons U .nil) ?_;have M:=I;refine sr (bx U (λg1 w1 a0 D Z z1=>(asg U (nn (sq (sr (fad U y0p (z0i U D U x3j ?_))))))));replace I:=M.ext Z;refine cl (ev1 U) (mkC func113) (u1x _ _ _ I.t I.tt h6 hv) U ?_;rintro _ w2 ⟨rfl,O⟩;have z2:=O.size;refine asg U (nn (sr (mv U (ne' U (nn (cd U (λc0=>?_) (λc0=>?_)))))));exact sr (mv U (asg U (nn (rt (tr (r1 results52 U (absurd U (by assumption))))))));refine sk (tn (sq (sr ?_)));replace D:=D.ext O;refine z0m U D u0h ?_;replace I:=M.ext (Z.n1 O);refine cl (ev1 U) (mkC func114) (x8i q _ I h6 hc) U ?_;rintro _ w3 ⟨rfl,q3⟩;have z3:=q3.size;refine asg U (nn (sr (mv U (ne' U (nn (cd U (λc1=>?_) (λc1=>?_)))))));exact sr (mv U (asg U (nn (rt (tr (r1 results52 U (absurd U (by assumption))))))));refine sk (tn (sr ?_));replace D:=D.ext q3;refine z0m U D u0h ?_;replace I:=M.ext (Z.n2 O q3);refine cl (ev1 U) (mkC func115) (x7f q _ I h6 hv hp) U ?_;rintro _ w4 ⟨rfl,q4⟩;have z4:=q4.size;exact asg U (nn (rt (r1 results52 U ⟨_,rfl,rfl,(Z.n3 O q3 q4)⟩)))
theorem v8r (q:FbQ)(w0:World)(I:FbAt w0 q)(D:q.ts.length=6)(O:TabV (z2g q.ts))(M:CrsV (z2g q.ts) q.cs)(hp:PlaceV (z2g q.ts) q.hs q.fs):Rets prog 52 #[.agg #[.slice q.t.1 q.t.2.1 q.t.2.2,.slice q.c.1 q.c.2.1 q.c.2.2,.slice q.h.1 q.h.2.1 q.h.2.2,.slice q.f.1 q.f.2.1 q.f.2.2]] w0 λr w'=>r=.int .i64 0/\Fr [] w0 w':=by
 have x:=v5r q w0 I D O M hp.w;rw[v2i hp.once]at x;exact x
theorem v3x (v:Value)(l:List Pa)(w0:World)(I:Sl z2d w0 v l)(hl:l.length<=100000):Rets prog 126 #[v] w0 λr w'=>∃g,r=.slice (some ⟨g,0,none⟩) l.length l.length/\w0.heap.size<=g/\Lw.Own z2d 107 w0.heap.size w' r l/\Fr [] w0 w':=by
 obtain⟨A,c,rfl,a0,hM,hA⟩:=id I;clear hA;unfold maxLen at hM;refine we [(0,.slice A l.length c)] func126 U ntmps126 U (.cons U .nil) ?_;have M:=I;refine sr (asg U (nn (sr (mv U (lnS U underlying102 (z1h (m:=l.length) (c:=l.length) (pa0) U z4h y7i U (λZ w1 a1 D O z1=>(asg U (nn (sr (mv U (mv U ?_))))))))))));replace I:=M.ext O;refine z8d (zs:=List.replicate l.length pa0) (by rw[List.length_replicate];rfl) U (by rw[List.length_replicate];exact D) I (by rw[List.length_replicate]) z4h (λw2 D q2 z2=>?_);rw[List.length_replicate]at D;exact nn (sr (mv U (asg U (nn (rt (r1 results126 U ⟨_,rfl,Z,rfl,oo,D.low oo,(O.z1 q2)⟩))))))
theorem x9v (v:Value)(l:List LpQ)(w0:World)(I:Sl z6j w0 v l)(hl:l.length<=100000):Rets prog 77 #[v] w0 λr w'=>∃g,r=.slice (some ⟨g,0,none⟩) l.length l.length/\w0.heap.size<=g/\Lw.Own z6j 155 w0.heap.size w' r l/\Fr [] w0 w':=by
 obtain⟨A,c,rfl,a0,hM,hA⟩:=id I;clear hA;unfold maxLen at hM;refine we [(0,.slice A l.length c)] func77 U ntmps77 U (.cons U .nil) ?_;have M:=I;refine sr (asg U (nn (sr (mv U (lnS U underlying123 (z1h (m:=l.length) (c:=l.length) (lq0) U y5a x3d U (λZ w1 a1 D O z1=>(asg U (nn (sr (mv U (mv U ?_))))))))))));replace I:=M.ext O;refine z8d (zs:=List.replicate l.length lq0) (by rw[List.length_replicate];rfl) U (by rw[List.length_replicate];exact D) I (by rw[List.length_replicate]) y5a (λw2 D q2 z2=>?_);rw[List.length_replicate]at D;exact nn (sr (mv U (asg U (nn (rt (r1 results77 U ⟨_,rfl,Z,rfl,oo,D.low oo,(O.z1 q2)⟩))))))
theorem v3b (v:Value)(l:List Cx)(w0:World)(I:Sl z4z w0 v l)(hl:l.length<=100000000):Rets prog 79 #[v] w0 λr w'=>∃g,r=.slice (some ⟨g,0,none⟩) l.length l.length/\w0.heap.size<=g/\Lw.Own z4z 147 w0.heap.size w' r l/\Fr [] w0 w':=by
 obtain⟨A,c,rfl,a0,hM,hA⟩:=id I;clear hA;unfold maxLen at hM;refine we [(0,.slice A l.length c)] func79 U ntmps79 U (.cons U .nil) ?_;have M:=I;refine sr (asg U (nn (sr (mv U (lnS U underlying29 (z1h (m:=l.length) (c:=l.length) (cx0) U u0k v9j U (λZ w1 a1 D O z1=>(asg U (nn (sr (mv U (mv U ?_))))))))))));replace I:=M.ext O;refine z8d (zs:=List.replicate l.length cx0) (by rw[List.length_replicate];rfl) U (by rw[List.length_replicate];exact D) I (by rw[List.length_replicate]) u0k (λw2 D q2 z2=>?_);rw[List.length_replicate]at D;exact nn (sr (mv U (asg U (nn (rt (r1 results79 U ⟨_,rfl,Z,rfl,oo,D.low oo,(O.z1 q2)⟩))))))
theorem u3q (v:Value)(l:List YQ)(w0:World)(I:Sl z2x w0 v l)(hl:l.length<=100000):Rets prog 125 #[v] w0 λr w'=>∃g,r=.slice (some ⟨g,0,none⟩) l.length l.length/\w0.heap.size<=g/\Lw.Own z2x 104 w0.heap.size w' r l/\Fr [] w0 w':=by
 obtain⟨A,c,rfl,a0,hM,hA⟩:=id I;clear hA;unfold maxLen at hM;refine we [(0,.slice A l.length c)] func125 U ntmps125 U (.cons U .nil) ?_;have M:=I;refine sr (asg U (nn (sr (mv U (lnS U underlying26 (z1h (m:=l.length) (c:=l.length) (yq0) U y3o z5m U (λZ w1 a1 D O z1=>(asg U (nn (sr (mv U (mv U ?_))))))))))));replace I:=M.ext O;refine z8d (zs:=List.replicate l.length yq0) (by rw[List.length_replicate];rfl) U (by rw[List.length_replicate];exact D) I (by rw[List.length_replicate]) y3o (λw2 D q2 z2=>?_);rw[List.length_replicate]at D;exact nn (sr (mv U (asg U (nn (rt (r1 results125 U ⟨_,rfl,Z,rfl,oo,D.low oo,(O.z1 q2)⟩))))))
theorem u3e {I qs:List IQ}{n:Nat}(hn:n<=qs.length)(D:(plB qs).take n=trimB (plB qs))(hl:I.length=n)(h:∀j,j<n->(I.getD j iq0).2=(qs.getD j iq0).2):plB I=trimB (plB qs):=by
 rw[<-D];refine List.ext_getElem (by simp[hl,hn]) λj M Z=>?_;have O:j<n:=by simpa[hl] using M
 have:=h j O;rw[List.getD,List.getD,List.getElem?_eq_getElem oo,List.getElem?_eq_getElem oo]at this;simpa[plB] using this
theorem y3y (v:Value)(qs:List IQ)(w0:World)(hs:Sl z6t w0 v qs)(hk:IqAt w0 qs)(hl:qs.length<=40)(h4:z9p qs):Rets prog 62 #[v] w0 λr w'=>(∃fs,RwO 30 64 w0.heap.size w' r fs/\plB fs=trimB (plB qs)/\∃g,r=.slice (some ⟨g,0,none⟩) fs.length fs.length)/\Fr [] w0 w':=by
 obtain⟨A,c,rfl,b3,hM,hA⟩:=id hs;clear hA;unfold maxLen at hM;refine we [(0,.slice A qs.length c)] func62 U ntmps62 U (.cons U .nil) ?_;have a7:=hs;have a5:=hk;refine sr (asg U (nn (sr (mv U (lnS U underlying23 (asg U (nn (sq (bl (lpK (ι:=Nat) [(0,_)] (λn=>[(3,.int .i64 (n:Int))]) (λn w'=>Fr [] w0 w'/\n<=qs.length/\∀j,n<=j->(qs.getD j iq0).2=[]) (λn=>n) qs.length (.c2 U U) ⟨Fr.refl _ _,⟨Nat.le_refl _,λj Z=>x5g Z⟩⟩ ?_))))))))));rintro n w1 ⟨q1,⟨hn,a4⟩⟩;have z1:=q1.size;refine kpC [(0,_),(3,_)] (.c2 U U) ?_;have a6:=z2e (z2b a5 (n-1));refine sq (sq (rbo (r:=18) (L':=[(0,_),(3,_)]) (((0<(n:Int))/\(((qs.getD (n-1) iq0).1.2.1:Int)=0))) (.c2 U U) ?_ ?_));refine mv U (gt' U (mv U (gs 10 U (λg0=>?_) (λg0=>?_))));refine gY U (mv U (gY U (mv U (gY U (z2w U (wi6 oo) (gY U ?_))))));replace hs:=a7.ext q1;refine z1d (p:=n-1) (iq0) U hs U y4x oo (λa9 a2=>?_);exact gY U (z1k U (a2 _ hs) z6h (gY U (lnS U underlying30 (gY U (eq' U (pkt U (rbe U (.c2 U U))))))));exact gN U (gN U (gN U (gN U (gN U (gN U (gN U (pkf U (rbe U (.c2 U U)))))))));refine tn (cd U (λc0=>?_) (λc0=>?_));refine sk (tn (bl (rg (mv U (z2w U (wi6 oo) (asg U (nl (bn' ?_))))))));exact lpE (n-1) (.c2 U (congrArg (λz=>some (Value.int .i64 z)) (show (n:Int)-1=((n-1:Nat):Int) by omega))) ⟨q1,⟨oo,λj Z=>by
  by_cases e:n<=j;exact a4 j e;obtain rfl:j=n-1:=by omega
  exact List.eq_nil_of_length_eq_zero oo⟩⟩ oo
 have a8:=y2j (plB qs) n (by rw[List.length_map];exact hn) (λj Z=>by rw[z4e];exact a4 j Z) (by
  by_cases e:n=0;exact .inl e;refine .inr λh=>c0 ⟨oo,?_⟩;rw[z4e]at h;rw[h]at a6;rw[a6];rfl)
 refine ex (te (te (xh (tn (sr (mv U (z1h (m:=n) (c:=n) (iq0) U y4x j1o U (λI w2 b1 O q2 z2=>(asg U (nn (sq (sr (mv U (mv U (nn (bl (lpK (ι:=Nat×List IQ) [(0,_),(4,_),(23,_)] (λp=>[(24,.int .i64 (p.1:Int))]) (λp w'=>Fr [I] w2 w'/\p.1<=n/\p.2.length=n/\Lw.Own z6t 30 w0.heap.size w' (.slice (some ⟨I,0,none⟩) n n) p.2/\(∀j,j<p.1->(p.2.getD j iq0).2=(qs.getD j iq0).2)/\PreO 64 (I+1) w' p.2 p.1) (λp=>n-p.1) (0,List.replicate n iq0) (.c4 U U U U) ⟨Fr.refl _ _,⟨Nat.zero_le _,sp0,O.low oo,λj Z=>absurd Z sp0,PreO.zero⟩⟩ ?_)))))))))))))))));rintro⟨i,ps⟩ w3 ⟨q3,⟨hi,D,O,a0,M⟩⟩;simp only at hi O a0 M D;have z3:=q3.size;refine kpC [(0,_),(4,_),(23,_),(24,.int .i64 (i:Int))] (.c4 U U U U) (sr (lt' U (nn (sq (cd U (λc1=>?_) (λc1=>?_))))));refine sk (tn (sq (bl (sr (mv U (asg U (nn (rg (mv U (mv U (mv U (mv U ?_))))))))))));replace hs:=a7.ext (q1.z2 q2 q3);refine z1d (iq0) U hs U y4x z1j (λb0 a3=>?_);refine z1k U (a3 _ hs) z6h ?_;replace hk:=a5.ext (q1.z2 q2 q3);refine cl (ev1 U) y9v (z3v _ (qs.getD i iq0).2 _ (z2b hk i) (by have:=z3n h4 i;omega)) U ?_;rintro _ w4 ⟨a1,rfl,b2,hX,q4⟩;have z4:=q4.size;replace O:=O.ext q4;refine z8n (p:=i) (E:=z6t) U U y4x (z5k (i:=i) ((((some ⟨a1,0,none⟩,(qs.getD i iq0).2.length,(qs.getD i iq0).2.length),(qs.getD i iq0).2):IQ)) U U O oo U u1e (λw5 O q5 z5=>(kpL [(0,_),(4,_),(23,_),(24,_)] (.c4 U U U U) (nl (bn' (tn (rg (z0x U (wi6 oo) (mv U (nl ?_))))))))));replace M:=(M.ext q4).fr q5 (by intro k hk;simp at hk;omega);replace hX:=hX.fr q5 (by intro k hk hb;simp[z0v]at hk hb;omega);exact lpE ((i+1,ps.set i (((some ⟨a1,0,none⟩,(qs.getD i iq0).2.length,(qs.getD i iq0).2.length),(qs.getD i iq0).2):IQ))) (.c4 U U U U) ⟨((Fr.refl [I] _).z3 q3 q4 q5),⟨sm,by simp only[List.length_set];exact D,O,λj Z=>by
  simp only at Z ⊢;rw[z1i oo];split;rename_i e;subst e;rfl;exact a0 j oo,M.put oo (hX.low oo)⟩⟩ sm
 obtain rfl:i=n:=by omega
 exact ex (te (te (xh (tn (sr (mv U (asg U (kpL [(2,_)] (.cons U .nil) (nn (rt (r1 results62 U ⟨_,rfl,⟨ps,⟨D▸O,(D.symm▸M).all oo⟩,u3e hn a8 D a0,I,by rw[D]⟩,(q1.z2 q2 q3)⟩)))))))))))
def PreY (base:Nat)(w:World)(ys:List YQ)(i:Nat):Prop:=∀j,j<i->Lw.Own z2d 107 base w (slv (ys.getD j yq0).pe) (ys.getD j yq0).pes
theorem PreY.ext {base i:Nat}{w w':World}{ys:List YQ}(h:PreY base w ys i)(hf:Fr [] w w'):PreY base w' ys i:=λj D=>(h j D).ext hf
theorem PreY.fr {base i:Nat}{w w':World}{ys:List YQ}{S:List Nat}(h:PreY base w ys i)(hf:Fr S w w')(I:∀k∈S,k<base):PreY base w' ys i:=λj D=>(h j D).fr hf λk O M=>by
 have:=I k O;have:=((h j D).blk k M).1;omega
theorem PreY.put {base i:Nat}{w:World}{ys:List YQ}{q:YQ}(h:PreY base w ys i)(D:i<ys.length)(I:Lw.Own z2d 107 base w (slv q.pe) q.pes):PreY base w (ys.set i q) (i+1):=λj M=>by
 rw[z1i D]
 split
 ·exact I
 exact h j oo
theorem y3w {α:Type}{l:List α}{i:Nat}(d:α)(h:i<l.length):l[i]?=some (l.getD i d):=by rw[List.getD,List.getElem?_eq_getElem h];rfl
theorem y2v {α β:Type}{f:α->β}{l:List α}{i:Nat}{x d:α}(h:f x=f (l.getD i d)):(l.set i x).map f=l.map f:=by
 rw[List.map_set];apply List.ext_getElem?;intro j;rw[List.getElem?_set];split;rename_i e;subst e;split;rename_i D;rw[List.length_map]at D;rw[List.getElem?_map,List.getElem?_eq_getElem D,h,List.getD,List.getElem?_eq_getElem D];rfl;rename_i D;rw[List.getElem?_eq_none oo];rfl
theorem v2o {α:Type}{l m:List α}{i:Nat}{q d:α}(h:∀j,i<=j->l.getD j d=m.getD j d)(D:i<l.length):∀j,i+1<=j->(l.set i q).getD j d=m.getD j d:=λj I=>by
 rw[z1i D,if_neg oo];exact h j oo
theorem y8j (v:Value)(ys:List YQ)(w0:World)(hs:Sl z2x w0 v ys)(hp:YsA w0 ys)(hl:ys.length<=1000)(a3:∀i,(ys.getD i yq0).pes.length<=100000):Rets prog 63 #[v] w0 λr w'=>(∃g ps,r=.slice (some ⟨g,0,none⟩) ys.length ys.length/\w0.heap.size<=g/\YsO τd w0.heap.size w' r ps/\ps.length=ys.length/\ps.map YQ.p=ys.map YQ.p)/\Fr [] w0 w':=by
 obtain⟨A,c,rfl,a7,hM,hA⟩:=id hs;clear hA;unfold maxLen at hM;refine we [(0,.slice A ys.length c)] func63 U ntmps63 U (.cons U .nil) ?_;have a9:=hs;have a2:=hp;refine sr (asg U (nn (sr (mv U (cl (ev1 U) (mkC func125) (u3q _ ys _ hs oo) U ?_)))));rintro _ w1 ⟨g6,rfl,a8,I,q1⟩;have z1:=q1.size;have a6:=(I.blk g6 (by simp[z0v])).2;refine asg U (nn (sq (sr (mv U (lnS U underlying26 (mv U (nn (bl (lpK (ι:=Nat×List YQ) [(3,_),(8,_)] (λp=>[(9,.int .i64 (p.1:Int))]) (λp w'=>Fr [g6] w1 w'/\p.1<=ys.length/\Lw.Own z2x 104 w0.heap.size w' (.slice (some ⟨g6,0,none⟩) ys.length ys.length) p.2/\p.2.length=ys.length/\p.2.map YQ.p=ys.map YQ.p/\(∀j,p.1<=j->p.2.getD j yq0=ys.getD j yq0)/\PreY (g6+1) w' p.2 p.1) (λp=>ys.length-p.1) (0,ys) (.c3 U U U) ⟨Fr.refl _ _,⟨Nat.zero_le _,I.low oo,rfl,rfl,λ_ _=>rfl,λj hj=>absurd hj sp0⟩⟩ ?_)))))))));rintro⟨i,ps⟩ w2 ⟨q2,⟨hi,I,D,Z,M,O⟩⟩;simp only at hi I D Z M O;have z2:=q2.size;refine kpC [(3,_),(8,_),(9,.int .i64 (i:Int))] (.c3 U U U) (sr (lt' U (nn (sq (cd U (λc0=>?_) (λc0=>?_))))));refine sk (tn (sq (bl (sr (mv U (asg U (nn (rg (mv U (mv U (mv U (mv U (z1d (yq0) U I.sl U y3o z1j (λa4 a1=>?_))))))))))))));refine fad U z6s (y0d U (a1 _ I.sl) U z9o U ?_);replace hp:=a2.ext (q1.z1 q2);refine cl (ev1 U) (mkC func126) (v3x _ (ys.getD i yq0).pes _ (by rw[M i (Nat.le_refl _)];exact hp i) (a3 i)) U ?_;rintro _ w3 ⟨a0,rfl,a5,hX,q3⟩;have z3:=q3.size;replace I:=I.ext q3;refine z8n (p:=i) (E:=z2x) U U y3o (x1e U z6s U (v8x (E:=z2x) (i:=i) (f:=4) (ys.getD i yq0) ({ (ys.getD i yq0) with pe:=(some ⟨a0,0,none⟩,(ys.getD i yq0).pes.length,(ys.getD i yq0).pes.length) }:YQ) U U I (by rw[<-M i (Nat.le_refl _)];exact y3w _ oo) dd U U U u4k (λw4 I q4 z4=>?_)));refine kpL [(3,_),(8,_),(9,_)] (.c3 U U U) (nl (bn' (tn (rg (z0x U (wi6 oo) (mv U (nl ?_)))))));replace O:=(O.ext q3).fr q4 (by intro k hk;simp at hk;omega);replace hX:=hX.fr q4 (by intro k hk hb;simp[z0v]at hk hb;omega);exact lpE ((i+1,ps.set i ({ (ys.getD i yq0) with pe:=(some ⟨a0,0,none⟩,(ys.getD i yq0).pes.length,(ys.getD i yq0).pes.length) }:YQ))) (.c3 U U U) ⟨((Fr.refl [g6] _).z3 q2 q3 q4),⟨sm,I,by simp only[List.length_set];exact D,(y2v (d:=yq0) (by rw[M i (Nat.le_refl _)])).trans Z,v2o M oo,O.put oo (hX.low oo)⟩⟩ sm;obtain rfl:i=ys.length:=by omega
 exact ex (te (te (xh (tn (sr (mv U (asg U (nn (rt (r1 results63 U ⟨_,rfl,⟨g6,ps,rfl,oo,⟨D▸I,λj hj=>(O j oo).low oo⟩,D,Z⟩,(q1.z1 q2)⟩))))))))))
theorem j0w (w:World):(zeroValue 123).run prog w=.ok (.slice none 0 0) w:=kr
def PreT (base:Nat)(w:World)(us:List TQ)(i:Nat):Prop:=(∀j,j<i->Lw.Own z6j 155 base w (slv (us.getD j tq0).1) (us.getD j tq0).2)/\(∀j k,j<i->k<i->j≠k->∀b∈z0v (slv (us.getD j tq0).1),b∉z0v (slv (us.getD k tq0).1))/\∀j,j<i->∀q∈(us.getD j tq0).2,LpO τd base w q
theorem PreT.fr {base i:Nat}{w w':World}{us:List TQ}{S:List Nat}(h:PreT base w us i)(hf:Fr S w w')(O:∀k∈S,k<base):PreT base w' us i:=by
 have o:∀ {α:Type} {E:Enc α} {T:Nat} {v:Value} {ys:List α},Lw.Own E T base w v ys->Lw.Own E T base w' v ys:=λI=>I.fr hf λk hk Z=>by have:=O k hk;have:=(I.blk k Z).1;omega
 exact⟨λj D=>o (h.1 j D),h.2.1,λj D q M=>⟨o (h.2.2 j D q M).1,o (h.2.2 j D q M).2⟩⟩
theorem PreT.put {base i:Nat}{w:World}{us:List TQ}{u:SV}{O:List LpQ}(h:PreT base w us i)(D:i<us.length)(ho:Lw.Own z6j 155 base w (slv u) O)(hq:∀q∈O,LpO τd base w q)(hn:∀j,j<i->∀b∈z0v (slv (us.getD j tq0).1),b∉z0v (slv u)):PreT base w (us.set i (u,O)) (i+1):=by
 refine⟨λj Z=>?_,λj k Z hk M=>?_,λj Z=>?_⟩;rw[z1i D];split;exact ho;exact h.1 j oo;rw[z1i D,z1i D];split;rw[if_neg oo];exact λb hb I=>hn k oo b I hb;split;exact hn j oo;exact h.2.1 j k oo oo M;rw[z1i D];split;exact hq;exact h.2.2 j oo
def PreL (base:Nat)(w:World)(rs:List LpQ)(i:Nat):Prop:=∀j,j<i->LpO τd base w (rs.getD j lq0)
theorem PreL.fr {base i:Nat}{w w':World}{M:List LpQ}{S:List Nat}(h:PreL base w M i)(hf:Fr S w w')(O:∀k∈S,k<base):PreL base w' M i:=λj I=>by
 have o:∀ {α:Type} {E:Enc α} {T:Nat} {v:Value} {ys:List α},Lw.Own E T base w v ys->Lw.Own E T base w' v ys:=λD=>D.fr hf λk hk Z=>by have:=O k hk;have:=(D.blk k Z).1;omega
 exact⟨o (h j I).1,o (h j I).2⟩
theorem PreL.put {base i:Nat}{w:World}{D:List LpQ}{x y:LpQ}(h:PreL base w D i)(I:i<D.length)(M:LpO τd base w y):PreL base w ((D.set i x).set i y) (i+1):=λj O=>by
 rw[List.set_set,z1i I]
 split
 ·exact M
 exact h j oo
theorem j0u {base i:Nat}{w:World}{v:Value}{us:List TQ}{u:SV}{r r':List LpQ}(h:Lw.Own z3z 123 base w v (us.set i (u,r))):Lw.Own z3z 123 base w v (us.set i (u,r')):=by
 have e:∀x:List LpQ,(us.set i (u,x)).flatMap z3z.enc=(us.set i (u,r)).flatMap z3z.enc:=λx=>by
  rw[List.flatMap_def,List.flatMap_def,List.map_set,List.map_set];rfl
 rcases h with ⟨D,I⟩|⟨g,cap,cur,D,I,M,O,Z,h6,h7⟩
 refine .inl ⟨D,?_⟩;have:=congrArg List.length I;simp only[List.length_set,List.length_nil]at this;exact List.length_eq_zero_iff.1 (by rw[List.length_set];exact this);refine .inr ⟨g,cap,cur,by rw[D];simp,I,M,by simpa using O,Z,h6,?_⟩;rw[e r',<-h7];simp
theorem u3n {us ts:List TQ}{i:Nat}{x:TQ}(h:∀j,j<i->(us.getD j tq0).2.map LpQ.p=(ts.getD j tq0).2.map LpQ.p)(D:i<us.length)(I:x.2.map LpQ.p=(ts.getD i tq0).2.map LpQ.p):∀j,j<i+1->((us.set i x).getD j tq0).2.map LpQ.p=(ts.getD j tq0).2.map LpQ.p:=λj M=>by
 rw[z1i D]
 split
 ·rename_i e;subst e;exact I
 exact h j oo
theorem y4e {us ts:List TQ}(hl:us.length=ts.length)(h:∀j,j<ts.length->(us.getD j tq0).2.map LpQ.p=(ts.getD j tq0).2.map LpQ.p):z2g us=z2g ts:=by
 refine List.ext_getElem (by simp[hl]) λj M I=>?_;have D:j<ts.length:=by simpa using I
 have:=h j D;rw[List.getD,List.getD,List.getElem?_eq_getElem oo,List.getElem?_eq_getElem D]at this;simpa using this
theorem PreT.tbo {b base:Nat}{w:World}{v:Value}{us:List TQ}(O:Lw.Own z3z 123 b w v us)(h:PreT base w us us.length)(hb:b<=base):TbO τd b w v us:=
 ⟨O,λi D=>(h.1 i D).low hb,λi j D M I=>h.2.1 i j D M I,λi D q Z=>(h.2.2 i D q Z).low hb⟩
theorem y4o (v:Value)(ts:List TQ)(w0:World)(hs:Sl z3z w0 v ts)(D:TabAt w0 ts)(hl:ts.length<=1000)(b8:∀p∈ts,p.2.length<=100000/\∀q∈p.2,q.ths.length<=100000/\q.pas.length<=100000):Rets prog 64 #[v] w0 λr w'=>(∃g us,r=.slice (some ⟨g,0,none⟩) ts.length ts.length/\w0.heap.size<=g/\TbO τd w0.heap.size w' r us/\us.length=ts.length/\z2g us=z2g ts)/\Fr [] w0 w':=by
 obtain⟨A,c,rfl,g3,hM,hA⟩:=id hs;clear hA;unfold maxLen at hM;refine we [(0,.slice A ts.length c)] func64 U ntmps64 U (.cons U .nil) ?_;have f1:=hs;have b2:=D;refine sr (asg U (nn (sr (mv U (lnS U underlying28 (z1h (m:=ts.length) (c:=ts.length) (tq0) U y9c j0w U (λa2 w1 f6 O q1 z1=>?_)))))));have e8:=(O.blk a2 (by simp[z0v])).2;refine asg U (nn (sq (sr (mv U (lnS U underlying28 (mv U (nn (bl (lpK (ι:=Nat×List TQ) [(3,_),(11,_),(12,_)] (λp=>[(13,.int .i64 (p.1:Int))]) (λp w'=>Fr [a2] w1 w'/\p.1<=ts.length/\p.2.length=ts.length/\Lw.Own z3z 123 w0.heap.size w' (.slice (some ⟨a2,0,none⟩) ts.length ts.length) p.2/\(∀j,j<p.1->(p.2.getD j tq0).2.map LpQ.p=(ts.getD j tq0).2.map LpQ.p)/\PreT (a2+1) w' p.2 p.1) (λp=>ts.length-p.1) (0,List.replicate ts.length tq0) (.c4 U U U U) ⟨Fr.refl _ _,⟨Nat.zero_le _,sp0,O.low oo,λj hj=>absurd hj sp0,⟨λj hj=>absurd hj sp0,λj k hj=>absurd hj sp0,λj hj=>absurd hj sp0⟩⟩⟩ ?_)))))))));rintro⟨i,us⟩ w2 ⟨q2,⟨hi,a8,O,d4,a7⟩⟩;simp only at hi a8 O d4 a7;have z2:=q2.size;have e4:=a7;refine kpC [(3,_),(11,_),(12,_),(13,.int .i64 (i:Int))] (.c4 U U U U) ?_;have e5:∀j,j<i->∀b∈z0v (slv (us.getD j tq0).1),b<w2.heap.size:=λj hj b hb=>((a7.1 j hj).blk b hb).2;refine sr (lt' U (nn (sq (cd U (λc0=>?_) (λc0=>?_)))));have g0:=z2e (b2 _ (z1a (d:=tq0) (i:=i) oo)).1;have g5:=(b8 _ (z1a (d:=tq0) (i:=i) oo)).1;refine sk (tn (sq (bl (sr (mv U ?_)))));replace hs:=f1.ext (q1.z1 q2);refine z1d (tq0) U hs U y9c z1j (λf2 d9=>?_);refine z1k U (d9 _ hs) y0q (asg U (asg U (nn (sr (mv U (mv U (mv U ?_)))))));replace D:=b2.ext (q1.z1 q2);refine cl (ev1 U) (mkC func77) (x9v _ (ts.getD i tq0).2 _ (D _ (z1a (d:=tq0) (i:=i) oo)).1 (b8 _ (z1a (d:=tq0) (i:=i) oo)).1) U ?_;rintro _ w3 ⟨Z,rfl,f7,hR,q3⟩;have z3:=q3.size;have e9:=(hR.blk Z (by simp[z0v])).2;replace O:=O.ext q3;refine z8n (p:=i) (E:=z3z) U U y9c (z5k (i:=i) (((((some ⟨Z,0,none⟩,(ts.getD i tq0).2.length,(ts.getD i tq0).2.length):SV),(ts.getD i tq0).2):TQ)) U U O oo U u4n (λw4 O q4 z4=>?_));obtain⟨b5,b9⟩:∃u,u=us.set i (((some ⟨Z,0,none⟩,(ts.getD i tq0).2.length,(ts.getD i tq0).2.length):SV),(ts.getD i tq0).2):=⟨_,rfl⟩;rw[<-b9]at O;have d5:b5.getD i tq0=(((some ⟨Z,0,none⟩,(ts.getD i tq0).2.length,(ts.getD i tq0).2.length):SV),(ts.getD i tq0).2):=by rw[b9,z1i oo,if_pos U]
 have c9:(b5.getD i tq0).1.1=some ⟨Z,0,none⟩:=by rw[d5]
 have d0:(b5.getD i tq0).1.2.1=(ts.getD i tq0).2.length:=by rw[d5]
 have d1:(b5.getD i tq0).1.2.2=(ts.getD i tq0).2.length:=by rw[d5]
 have g1:b5.length=ts.length:=by rw[b9,List.length_set];exact a8
 refine nn (sr (mv U (lnS U underlying123 (mv U (nn (bl ?_))))));replace hR:=hR.fr q4 (by intro k D hb;simp[z0v]at D hb;omega);refine lpK (ι:=Nat×List LpQ) [(3,_),(4,_),(11,_),(12,_),(13,_),(23,_),(24,_)] (λp=>[(25,.int .i64 (p.1:Int))]) (λp w'=>Fr [Z] w4 w'/\p.1<=(ts.getD i tq0).2.length/\p.2.length=(ts.getD i tq0).2.length/\Lw.Own z6j 155 (a2+1) w' (.slice (some ⟨Z,0,none⟩) (ts.getD i tq0).2.length (ts.getD i tq0).2.length) p.2/\p.2.map LpQ.p=(ts.getD i tq0).2.map LpQ.p/\(∀j,p.1<=j->p.2.getD j lq0=(ts.getD i tq0).2.getD j lq0)/\PreL (Z+1) w' p.2 p.1) (λp=>(ts.getD i tq0).2.length-p.1) (0,(ts.getD i tq0).2) (.c8 U U U U U U U U) ⟨Fr.refl _ _,⟨Nat.zero_le _,rfl,hR.low oo,rfl,λ_ _=>rfl,λj hj=>absurd hj sp0⟩⟩ ?_;rintro⟨M,rs⟩ w5 ⟨q5,⟨hj,b7,hR,d3,b6,b4⟩⟩;simp only at hj b7 hR d3 b6 b4;have z5:=q5.size;have e3:=b4;refine kpC [(3,_),(4,_),(11,_),(12,_),(13,_),(23,_),(24,_),(25,.int .i64 (M:Int))] (.c8 U U U U U U U U) (sr (lt' U (nn (sq (cd U (λc1=>?_) (λc1=>?_))))));refine sk (tn (sq (bl (sr (mv U ?_)))));replace D:=b2.ext (q1.z4 q2 q3 q4 q5);refine z1d (lq0) U (D _ (z1a (d:=tq0) (i:=i) oo)).1 U y5a z1j (λf3 e0=>?_);refine z1q U (e0 _ (D _ (z1a (d:=tq0) (i:=i) oo)).1) x0j (al x3d U (λg7 w6 g4 I q6 z6=>?_));refine asg U (z0j (vs:=[_,_,_,_]) U I x7u (λw7 I q7 z7=>?_) (h1:=(by first|(simp[Value.oneCell',S];done)|exact z3z.one (ts.getD i tq0))));refine nn (sq ?_);replace D:=b2.ext (q1.z6 q2 q3 q4 q5 q6 q7);replace O:=((O.fr q5 (by intro k D hb;simp[z0v]at D hb;omega)).ext q6).fr q7 (by intro k D hb;simp[z0v]at D hb;omega);replace hR:=(hR.ext q6).fr q7 (by intro k D hb;simp[z0v]at D hb;omega);intro a h;refine z0h (some 10) (λwb w'=>Fr [] wb w') z2o ?_;intro w8 q8;have z8:=q8.size;replace D:=D.ext q8;replace O:=O.ext q8;replace hR:=hR.ext q8;replace I:=I.ext q8;have hC:Fr [] w8 w8:=Fr.refl _ _;have b3:=D;have a3:=O;have b1:=hR;have a0:=I;refine z0e 0 h U λa h=>z0e 1 h U λa h=>z1e (p:=i) (tq0) 2 h U O.sl U y9c U λf4 e1 a h=>z2p 3 h wn U (λ_ hw=>e1 _ ((a3.ext hw).sl)) y0q U λa h=>?_;rw[c9,d0,d1]at h;refine z0e 4 h U λa h=>z0c 5 h U z6q U λa h=>z0l 6 h U (λ_ hw=>a0.ext hw) U z6h U λa h=>z0d 7 U (z0n h (z0a U z0g) y9v (z3v _ ((ts.getD i tq0).2.getD M lq0).ths _ ((D _ (z1a (d:=tq0) (i:=i) oo)).2 _ (z1a oo)).1 ((b8 _ (z1a (d:=tq0) (i:=i) oo)).2 _ (z1a oo)).1) ?_);rintro _ w9 ⟨a9,rfl,f8,hX,q9⟩ a h;have z9:=q9.size;replace D:=D.ext q9;replace O:=O.ext q9;replace hR:=hR.ext q9;replace I:=I.ext q9;replace hC:=hC.next q9;refine z0b (z1m 8 kr kr kr hC (p:=M) h wn U y5a oo oo oo U U λa h=>z5b 9 h wn U z6q U λa h=>z0d 10 U (y4i (E:=z6j) (i:=M) (f:=2) (((ts.getD i tq0).2.getD M lq0)) ({ ((ts.getD i tq0).2.getD M lq0) with th:=(some ⟨a9,0,none⟩,((ts.getD i tq0).2.getD M lq0).ths.length,((ts.getD i tq0).2.getD M lq0).ths.length) }:LpQ) h U U hR (by rw[<-b6 M (Nat.le_refl _)];exact y3w _ oo) dd U U U u1e λg6 b0 a5 _hz a h=>?_));have h0:=a5.size;replace O:=O.fr a5 (by intro k D hb;simp[z0v]at D hb;omega);replace I:=I.fr a5;replace hX:=hX.fr a5 (by intro k D hb;simp[z0v]at D hb;omega);clear _hz hR;have hR:=b0;clear b0;refine z1n (z0r ?_);clear hC b3 a3 b1 a0;refine bk (h.sub (L':=[(3,_),(4,_),(6,_),(7,_),(11,_),(12,_),(13,_),(23,_),(24,_),(25,_)]) (.d8 U U U U U U U U (.c2 U U))) (tn ?_);replace D:=b2.ext ((((q1.z6 q2 q3 q4 q5 q6 q7).n1 q8).n1 q9).z1 a5);intro a h;refine z0h (some 10) (λwb w'=>Fr [] wb w') z2o ?_;intro e6 a4;have h2:=a4.size;replace D:=D.ext a4;replace O:=O.ext a4;replace hR:=hR.ext a4;replace I:=I.ext a4;replace hX:=hX.ext a4;have hC:Fr [] e6 e6:=Fr.refl _ _;have b3:=D;have a3:=O;have b1:=hR;have a0:=I;have d7:=hX;refine z0e 0 h U λa h=>z0e 1 h U λa h=>z1e (p:=i) (tq0) 2 h U O.sl U y9c U λf5 e2 a h=>z2p 3 h wn U (λ_ hw=>e2 _ ((a3.ext hw).sl)) y0q U λa h=>?_;rw[c9,d0,d1]at h;refine z0e 4 h U λa h=>z0c 5 h U z9a U λa h=>z0l 6 h U (λ_ hw=>a0.ext hw) U z9o U λa h=>z0d 7 U (z0n h (z0a U z0g) (mkC func126) (v3x _ ((ts.getD i tq0).2.getD M lq0).pas _ ((D _ (z1a (d:=tq0) (i:=i) oo)).2 _ (z1a oo)).2 ((b8 _ (z1a (d:=tq0) (i:=i) oo)).2 _ (z1a oo)).2) ?_);rintro _ g8 ⟨d6,rfl,f9,hY,a1⟩ a h;have h3:=a1.size;replace D:=D.ext a1;replace O:=O.ext a1;replace hR:=hR.ext a1;replace I:=I.ext a1;replace hX:=hX.ext a1;replace hC:=hC.next a1;refine z0b (z1m 8 kr kr kr hC (p:=M) h wn U y5a oo oo oo U U λa h=>z5b 9 h wn U z9a U λa h=>z0d 10 U (y4i (E:=z6j) (i:=M) (f:=3) (({ ((ts.getD i tq0).2.getD M lq0) with th:=(some ⟨a9,0,none⟩,((ts.getD i tq0).2.getD M lq0).ths.length,((ts.getD i tq0).2.getD M lq0).ths.length) }:LpQ)) ({ ((ts.getD i tq0).2.getD M lq0) with th:=(some ⟨a9,0,none⟩,((ts.getD i tq0).2.getD M lq0).ths.length,((ts.getD i tq0).2.getD M lq0).ths.length),pa:=(some ⟨d6,0,none⟩,((ts.getD i tq0).2.getD M lq0).pas.length,((ts.getD i tq0).2.getD M lq0).pas.length) }:LpQ) h U U hR (by rw[y3w lq0 (by rw[List.length_set];omega),z1i oo,if_pos U]) dd U U U u4k λg9 b0 a6 _hz a h=>?_));have h4:=a6.size;replace O:=O.fr a6 (by intro k D hb;simp[z0v]at D hb;omega);replace I:=I.fr a6;replace hX:=hX.fr a6 (by intro k D hb;simp[z0v]at D hb;omega);replace hY:=hY.fr a6 (by intro k D hb;simp[z0v]at D hb;omega);clear _hz hR;have hR:=b0;clear b0;refine z1n (z0r ?_);clear hC b3 a3 b1 a0 d7;refine bk (h.sub (L':=[(3,_),(4,_),(11,_),(12,_),(13,_),(23,_),(24,_),(25,_)]) (.c8 U U U U U U U U)) (bn' (tn (rg (z0x U (wi6 oo) (mv U (nl ?_))))));replace b4:=e3.fr ((((Fr.refl [Z] _).z6 q6 q7 q8 q9 a5 a4).n1 a1).z1 a6) (by intro k D;simp at D;omega);exact lpE ((M+1,(rs.set M ({ ((ts.getD i tq0).2.getD M lq0) with th:=(some ⟨a9,0,none⟩,((ts.getD i tq0).2.getD M lq0).ths.length,((ts.getD i tq0).2.getD M lq0).ths.length) }:LpQ)).set M ({ ((ts.getD i tq0).2.getD M lq0) with th:=(some ⟨a9,0,none⟩,((ts.getD i tq0).2.getD M lq0).ths.length,((ts.getD i tq0).2.getD M lq0).ths.length),pa:=(some ⟨d6,0,none⟩,((ts.getD i tq0).2.getD M lq0).pas.length,((ts.getD i tq0).2.getD M lq0).pas.length) }:LpQ))) (.c8 U U U U U U U U) ⟨((((Fr.refl [Z] _).z6 q5 q6 q7 q8 q9 a5).n1 a4).z2 a1 a6),⟨sm,by simp only[List.length_set];exact b7,hR,by rw[List.set_set];exact(y2v (d:=lq0) (by rw[b6 M (Nat.le_refl _)])).trans d3,λj f0=>by
  simp only at f0 ⊢;rw[List.set_set,z1i oo,if_neg oo];exact b6 j oo,b4.put oo ⟨hX.low oo,hY.low oo⟩⟩⟩ sm
 obtain rfl:M=(ts.getD i tq0).2.length:=by omega
 refine ex (te (te (xh (bn' (tn (rg (z0x U (wi6 oo) (mv U (kpL [(3,_),(11,_),(12,_),(13,_)] (.c4 U U U U) (nl ?_))))))))));replace a7:=e4.fr ((Fr.refl [a2] _).z3 q3 q4 q5) (by intro k D;simp at D;omega);replace O:=O.fr q5 (by intro k D hb;simp[z0v]at D hb;omega);exact lpE ((i+1,us.set i (((some ⟨Z,0,none⟩,(ts.getD i tq0).2.length,(ts.getD i tq0).2.length):SV),rs))) (.c4 U U U U) ⟨((Fr.refl [a2] _).z4 q2 q3 q4 q5),⟨sm,by simp only[List.length_set];exact a8,j0u (b9▸O),u3n d4 oo d3,a7.put oo (by rw[show slv ((some ⟨Z,0,none⟩,(ts.getD i tq0).2.length,(ts.getD i tq0).2.length):SV)=(.slice (some ⟨Z,0,none⟩) rs.length rs.length) by rw[b7];rfl];exact(b7.symm▸hR).low oo) (λq hq=>by
  obtain⟨j,hj,rfl⟩:=List.getElem_of_mem hq;have:=b4 j oo;rw[List.getD,List.getElem?_eq_getElem hj]at this;exact this.low oo) (λj hj b hb e7=>by have:=e5 j hj b hb;simp[z0v,slv]at e7;omega)⟩⟩ sm
 obtain rfl:i=ts.length:=by omega
 exact ex (te (te (xh (tn (sr (mv U (asg U (kpL [(2,_)] (.cons U .nil) (nn (rt (r1 results64 U ⟨_,rfl,⟨a2,us,rfl,oo,PreT.tbo O (a8.symm▸a7) oo,a8,y4e a8 d4⟩,(q1.z1 q2)⟩)))))))))))
theorem x8e:BuildAt prog 145 [(0,1),(1,2),(3,1),(4,1),(5,1),(6,1)] [(.int .i64 0),(.slice none 0 0),(.slice none 0 0),(.slice none 0 0),(.slice none 0 0),(.map none),(.slice none 0 0)]:=BuildAt.struct underlying145 (λ_=>kr) (λ_=>kr)
theorem u8z:CallOf prog 62:=mkC func62
theorem u8b:CallOf prog 64:=mkC func64
theorem y6i:z1c prog 34 0 0:=λ_ _=>kr
theorem y0m:z1c prog 34 1 1:=λ_ _=>kr
theorem x5l:z1c prog 34 2 3:=λ_ _=>kr
theorem z8b:z1c prog 34 3 4:=λ_ _=>kr
structure StSz (s:StQ):Prop where
  bf:s.q.fs.length<=40
  bb:s.q.bs.length<=40
  f4:z9p s.q.fs
  b4:z9p s.q.bs
  ly:s.ys.length=6
  lt:s.fb.ts.length=6
  pe:∀i,(s.ys.getD i yq0).pes.length<=100000
  tb:∀p∈s.fb.ts,p.2.length<=100000/\∀q∈p.2,q.ths.length<=100000/\q.pas.length<=100000
  fl:s.fb.fs.length<=100000
  cs:s.fb.cs.length<=100000000
  hs:s.fb.hs.length<=100000
theorem y1t {τ:TyK}{b base:Nat}{w:World}{v:Value}{ys:List YQ}(h:YsO τ base w v ys)(hb:b<=base):YsO τ b w v ys:=⟨h.out.low hb,λi D=>(h.ins i D).low hb⟩
theorem y1x {τ:TyK}{b base:Nat}{w:World}{v:Value}{ts:List TQ}(h:TbO τ base w v ts)(hb:b<=base):TbO τ b w v ts:=⟨h.out.low hb,λi D=>(h.ins i D).low hb,h.off,λi D q I=>⟨(h.lps i D q I).1.low hb,(h.lps i D q I).2.low hb⟩⟩
theorem u3y (s:StQ)(w0:World)(I:StAt w0 s)(D:StSz s)(g3:(s.fb.cs.map cxK).Nodup):Rets prog 26 #[.agg #[.int .i64 s.rk,.slice s.q.f.1 s.q.f.2.1 s.q.f.2.2,.slice s.q.b.1 s.q.b.2.1 s.q.b.2.2,.slice s.yv.1 s.yv.2.1 s.yv.2.2,.slice s.fb.t.1 s.fb.t.2.1 s.fb.t.2.2,.slice s.fb.c.1 s.fb.c.2.1 s.fb.c.2.2,.slice s.fb.h.1 s.fb.h.2.1 s.fb.h.2.2,.slice s.fb.f.1 s.fb.f.2.1 s.fb.f.2.2]] w0 λr w'=>∃ka m,r=.pointer (some ⟨ka.gk,0,none⟩)/\MkM τd 145 w0 ka w' m/\m.p=(⟨s.rk,⟨trimB (plB s.q.fs),trimB (plB s.q.bs)⟩,s.ys.map YQ.p,z2g s.fb.ts,s.fb.cs,s.fb.fs⟩:MSt):=by
 have h8:=z2e I.f.c;have h9:=D.cs;refine we [(0,.agg #[.int .i64 s.rk,.slice s.q.f.1 s.q.f.2.1 s.q.f.2.2,.slice s.q.b.1 s.q.b.2.1 s.q.b.2.2,.slice s.yv.1 s.yv.2.1 s.yv.2.2,.slice s.fb.t.1 s.fb.t.2.1 s.fb.t.2.2,.slice s.fb.c.1 s.fb.c.2.1 s.fb.c.2.2,.slice s.fb.h.1 s.fb.h.2.1 s.fb.h.2.2,.slice s.fb.f.1 s.fb.f.2.1 s.fb.f.2.2])] func26 U ntmps26 U (.cons U .nil) ?_;have f1:=I;refine sr (bx U (λg1 w1 i0 M q1 z1=>(asg U (nn (jn (ι:=MA) [(1,_)] (λka=>[(3,.pointer (some ⟨ka.gk,0,none⟩))]) (λka w'=>Fr [] w1 w'/\∃m:MQ,MkM τd 145 w0 ka w' m/\m.p=(⟨s.rk,⟨trimB (plB s.q.fs),trimB (plB s.q.bs)⟩,s.ys.map YQ.p,z2g s.fb.ts,[],s.fb.fs⟩:MSt)) (.cons U .nil) ?_ ?_)))));replace I:=f1.ext q1;intro a h;refine z0h none (λwb w'=>Fr [] wb w') z2o ?_;intro w2 q2;have z2:=q2.size;replace I:=I.ext q2;replace M:=M.ext q2;have hC:Fr [] w2 w2:=Fr.refl _ _;have b9:=I;have a0:=M;refine z0c 0 h U y6i U λa h=>z0l 1 h U (λ_ hw=>a0.ext hw) U na3 U λa h=>z0c 2 h U y0m U λa h=>z5b 3 h wn U y6o U λa h=>z0l 4 h U (λ_ hw=>a0.ext hw) U x6v U λa h=>z0c 6 h U y0m U λa h=>z5b 7 h wn U y2q U λa h=>z0l 8 h U (λ_ hw=>a0.ext hw) U x6v U λa h=>z0c 11 h U x5l U λa h=>z0l 12 h U (λ_ hw=>a0.ext hw) U y3i U λa h=>z0c 14 h U z8b U λa h=>z5b 15 h wn U y0p U λa h=>z0l 16 h U (λ_ hw=>a0.ext hw) U x3j U λa h=>z0c 18 h U z8b U λa h=>z5b 19 h wn U x5v U λa h=>z0l 20 h U (λ_ hw=>a0.ext hw) U j1q U λa h=>z7s 21 hC h wn U underlying29 U λa h=>z0c 23 h U z8b U λa h=>z5b 24 h wn U x1o U λa h=>z0l 25 h U (λ_ hw=>a0.ext hw) U z6h U λa h=>z1u 5 22 kr U ?_ ?_;refine z0n h (z0a U z0g) u8z (y3y _ s.q.fs _ I.b.f I.b.fi D.bf D.f4) ?_;rintro _ w3 ⟨⟨f0,Z,d9,gF,rfl⟩,q3⟩ a h;have z3:=q3.size;replace I:=I.ext q3;replace M:=M.ext q3;replace hC:=hC.next q3;have d7:∀x∈f0,∀k∈z0v (slv x.1),k<w3.heap.size:=λx hx k hk=>((Z.2 x hx).blk k hk).2;refine z0b (z1u 9 22 kr U ?_ ?_);refine z0n h (z0a U z0g) u8z (y3y _ s.q.bs _ I.b.b I.b.bi D.bb D.b4) ?_;rintro _ w4 ⟨⟨e2,O,d5,gB,rfl⟩,q4⟩ a h;have z4:=q4.size;replace I:=I.ext q4;replace M:=M.ext q4;replace Z:=Z.ext q4;replace hC:=hC.next q4;have d4:∀x∈e2,∀k∈z0v (slv x.1),k<w4.heap.size:=λx hx k hk=>((O.2 x hx).blk k hk).2;refine z0b (z2u (cs:=[_,_]) 10 h (z0a U (z0a U z0g)) u6v (z0f U (z0f U z0q)) U U λa h=>z1u 13 22 kr U ?_ ?_);refine z0n h (z0a U z0g) (mkC func63) (y8j _ s.ys _ I.y I.ya (by have:=D.ly;omega) D.pe) ?_;rintro _ w5 ⟨⟨gy,ps,rfl,f2,hY,c9,d0⟩,q5⟩ a h;have z5:=q5.size;replace I:=I.ext q5;replace M:=M.ext q5;replace Z:=Z.ext q5;replace O:=O.ext q5;replace hC:=hC.next q5;refine z0b (z1u 17 22 kr U ?_ ?_);refine z0n h (z0a U z0g) u8b (y4o _ s.fb.ts _ I.f.t I.f.tt (by have:=D.lt;omega) D.tb) ?_;rintro _ w6 ⟨⟨gt,us,rfl,e7,hT,a8,a7⟩,q6⟩ a h;have z6:=q6.size;replace I:=I.ext q6;replace M:=M.ext q6;replace Z:=Z.ext q6;replace O:=O.ext q6;replace hY:=hY.ext q6;replace hC:=hC.next q6;have a6:∀i,i<us.length->∀q∈(us.getD i tq0).2,∀k∈z0v (slv q.th),k<w6.heap.size:=λi hi q hq k hk=>((hT.lps i hi q hq).1.blk k hk).2;refine z0b (z1u 22 26 kr U ?_ ?_);refine z4i (K:=148) (E:=3) crK h U underlying142 U λgm w7 e5 a3 q7 _hz a h=>?_;have z7:=q7.size;replace I:=I.ext q7;replace hC:=hC.next q7;clear _hz;refine z0b (z0d 26 U (z0n h (z0a U z0g) y9v (z3v _ s.fb.fs _ I.f.f D.fl) ?_));rintro _ w8 ⟨gf,rfl,e4,a4,q8⟩ a h;have z8:=q8.size;replace M:=M.ext (q7.n1 q8);replace hC:=hC.next q8;refine z0b (z2u (cs:=[_,_,_,_,_,_,_]) 27 h (z0a U (z0a U (z0a U (z0a U (z0a U (z0a U z0g)))))) x8e (z0f U (z0f U (z0f U (z0f U (z0f U (z0f U z0q)))))) U U λa h=>z0d 28 U ?_);refine y4s h U U U λw9 a2 q9 hz a h=>?_;obtain⟨a1,hg⟩:∃g,g=w8.heap.size:=⟨_,rfl⟩;rw[<-hg]at a2 h hz;have a5:g1<a1:=by have:=M.lt;omega
 have z9:=q9.size;replace Z:=Z.ext (q7.n2 q8 q9);replace O:=O.ext (q7.n2 q8 q9);replace hY:=hY.ext (q7.n2 q8 q9);replace hT:=hT.ext (q7.n2 q8 q9);replace a3:=a3.ext (q8.n1 q9);replace a4:=a4.ext q9;replace hC:=hC.next q9;refine z0b (z0d 29 U (z0t h U λa h=>?_));refine z0b (z0r ?_);clear hC b9 a0;exact bk (h.sub (L':=[(1,_),(3,_)]) (.c2 U U)) (jE ((⟨a1,gy,6,gt,6,gm,_⟩:MA)) (.c2 U U) ⟨((q2.n6 q3 q4 q5 q6 q7 q8).n1 q9),(y5z a2 (Z.low oo) (O.low oo) (y1t hY oo) c9 d0 (y1x hT oo) a8 a7 a3 (a4.low oo) D.ly D.lt (((q1.n6 q2 q3 q4 q5 q6 q7).n1 q8).n1 q9) oo oo (λx hx hb=>by rcases List.mem_append.1 hx with k|k;have:=d7 x k _ hb;omega;have:=d4 x k _ hb;omega) (λi hi q hq hb=>by have:=a6 i (by have:=D.lt;omega) q hq _ hb;omega) d9 d5)⟩);refine z0n h (z0a U z0g) y9v (z3v _ s.fb.fs _ I.f.f D.fl) ?_;rintro _ i3 ⟨gf,rfl,e4,a4,d1⟩ a h;have k2:=d1.size;replace hC:=hC.next d1;refine z0b (z0d 22 U (z4i (K:=148) (E:=3) crK h U underlying142 U λgm g4 e5 a3 a9 _hz a h=>?_));have k4:=a9.size;replace M:=M.ext (d1.n1 a9);replace hC:=hC.next a9;clear _hz;refine z0b (z2u (cs:=[_,_,_,_,_,_,_]) 27 h (z0a U (z0a U (z0a U (z0a U (z0a U (z0a U z0g)))))) x8e (z0f U (z0f U (z0f U (z0f U (z0f U (z0f U z0q)))))) U U λa h=>z0d 28 U ?_);refine y4s h U U U λi4 a2 b0 hz a h=>?_;obtain⟨a1,hg⟩:∃g,g=g4.heap.size:=⟨_,rfl⟩;rw[<-hg]at a2 h hz;have a5:g1<a1:=by have:=M.lt;omega
 have k5:=b0.size;replace Z:=Z.ext (d1.n2 a9 b0);replace O:=O.ext (d1.n2 a9 b0);replace hY:=hY.ext (d1.n2 a9 b0);replace hT:=hT.ext (d1.n2 a9 b0);replace a4:=a4.ext (a9.n1 b0);replace a3:=a3.ext b0;replace hC:=hC.next b0;refine z0b (z0d 29 U (z0t h U λa h=>?_));refine z0b (z0r ?_);clear hC b9 a0;exact bk (h.sub (L':=[(1,_),(3,_)]) (.c2 U U)) (jE ((⟨a1,gy,6,gt,6,gm,_⟩:MA)) (.c2 U U) ⟨((q2.n6 q3 q4 q5 q6 d1 a9).n1 b0),(y5z a2 (Z.low oo) (O.low oo) (y1t hY oo) c9 d0 (y1x hT oo) a8 a7 a3 (a4.low oo) D.ly D.lt (((q1.n6 q2 q3 q4 q5 q6 d1).n1 a9).n1 b0) oo oo (λx hx hb=>by rcases List.mem_append.1 hx with k|k;have:=d7 x k _ hb;omega;have:=d4 x k _ hb;omega) (λi hi q hq hb=>by have:=a6 i (by have:=D.lt;omega) q hq _ hb;omega) d9 d5)⟩);refine z4i (K:=148) (E:=3) crK h U underlying142 U λgm i5 e5 a3 d3 _hz a h=>?_;have k6:=d3.size;replace I:=I.ext d3;replace hC:=hC.next d3;clear _hz;refine z0b (z0d 17 U (z0n h (z0a U z0g) u8b (y4o _ s.fb.ts _ I.f.t I.f.tt (by have:=D.lt;omega) D.tb) ?_));rintro _ g6 ⟨⟨gt,us,rfl,e7,hT,a8,a7⟩,q14⟩ a h;have k7:=q14.size;replace I:=I.ext q14;replace hC:=hC.next q14;have a6:∀i,i<us.length->∀q∈(us.getD i tq0).2,∀k∈z0v (slv q.th),k<g6.heap.size:=λi hi q hq k hk=>((hT.lps i hi q hq).1.blk k hk).2;refine z0b (z0d 26 U (z0n h (z0a U z0g) y9v (z3v _ s.fb.fs _ I.f.f D.fl) ?_));rintro _ g7 ⟨gf,rfl,e4,a4,b1⟩ a h;have k8:=b1.size;replace M:=M.ext (d3.n2 q14 b1);replace hC:=hC.next b1;refine z0b (z2u (cs:=[_,_,_,_,_,_,_]) 27 h (z0a U (z0a U (z0a U (z0a U (z0a U (z0a U z0g)))))) x8e (z0f U (z0f U (z0f U (z0f U (z0f U (z0f U z0q)))))) U U λa h=>z0d 28 U ?_);refine y4s h U U U λi7 a2 b2 hz a h=>?_;obtain⟨a1,hg⟩:∃g,g=g7.heap.size:=⟨_,rfl⟩;rw[<-hg]at a2 h hz;have a5:g1<a1:=by have:=M.lt;omega
 have k9:=b2.size;replace Z:=Z.ext (d3.n3 q14 b1 b2);replace O:=O.ext (d3.n3 q14 b1 b2);replace hY:=hY.ext (d3.n3 q14 b1 b2);replace a3:=a3.ext (q14.n2 b1 b2);replace hT:=hT.ext (b1.n1 b2);replace a4:=a4.ext b2;replace hC:=hC.next b2;refine z0b (z0d 29 U (z0t h U λa h=>?_));refine z0b (z0r ?_);clear hC b9 a0;exact bk (h.sub (L':=[(1,_),(3,_)]) (.c2 U U)) (jE ((⟨a1,gy,6,gt,6,gm,_⟩:MA)) (.c2 U U) ⟨((q2.n6 q3 q4 q5 d3 q14 b1).n1 b2),(y5z a2 (Z.low oo) (O.low oo) (y1t hY oo) c9 d0 (y1x hT oo) a8 a7 a3 (a4.low oo) D.ly D.lt (((q1.n6 q2 q3 q4 q5 d3 q14).n1 b1).n1 b2) oo oo (λx hx hb=>by rcases List.mem_append.1 hx with k|k;have:=d7 x k _ hb;omega;have:=d4 x k _ hb;omega) (λi hi q hq hb=>by have:=a6 i (by have:=D.lt;omega) q hq _ hb;omega) d9 d5)⟩);refine z4i (K:=148) (E:=3) crK h U underlying142 U λgm i8 e5 a3 d6 _hz a h=>?_;have l0:=d6.size;replace I:=I.ext d6;replace hC:=hC.next d6;clear _hz;refine z0b (z0d 13 U (z0n h (z0a U z0g) (mkC func63) (y8j _ s.ys _ I.y I.ya (by have:=D.ly;omega) D.pe) ?_));rintro _ i9 ⟨⟨gy,ps,rfl,f2,hY,c9,d0⟩,q18⟩ a h;have l1:=q18.size;replace I:=I.ext q18;replace hC:=hC.next q18;refine z0b (z0d 17 U (z0n h (z0a U z0g) u8b (y4o _ s.fb.ts _ I.f.t I.f.tt (by have:=D.lt;omega) D.tb) ?_));rintro _ g8 ⟨⟨gt,us,rfl,e7,hT,a8,a7⟩,q19⟩ a h;have l2:=q19.size;replace I:=I.ext q19;replace hC:=hC.next q19;have a6:∀i,i<us.length->∀q∈(us.getD i tq0).2,∀k∈z0v (slv q.th),k<g8.heap.size:=λi hi q hq k hk=>((hT.lps i hi q hq).1.blk k hk).2;refine z0b (z0d 26 U (z0n h (z0a U z0g) y9v (z3v _ s.fb.fs _ I.f.f D.fl) ?_));rintro _ g9 ⟨gf,rfl,e4,a4,b3⟩ a h;have l3:=b3.size;replace M:=M.ext (d6.n3 q18 q19 b3);replace hC:=hC.next b3;refine z0b (z2u (cs:=[_,_,_,_,_,_,_]) 27 h (z0a U (z0a U (z0a U (z0a U (z0a U (z0a U z0g)))))) x8e (z0f U (z0f U (z0f U (z0f U (z0f U (z0f U z0q)))))) U U λa h=>z0d 28 U ?_);refine y4s h U U U λj0 a2 b4 hz a h=>?_;obtain⟨a1,hg⟩:∃g,g=g9.heap.size:=⟨_,rfl⟩;rw[<-hg]at a2 h hz;have a5:g1<a1:=by have:=M.lt;omega
 have l4:=b4.size;replace Z:=Z.ext (d6.n4 q18 q19 b3 b4);replace O:=O.ext (d6.n4 q18 q19 b3 b4);replace a3:=a3.ext (q18.n3 q19 b3 b4);replace hY:=hY.ext (q19.n2 b3 b4);replace hT:=hT.ext (b3.n1 b4);replace a4:=a4.ext b4;replace hC:=hC.next b4;refine z0b (z0d 29 U (z0t h U λa h=>?_));refine z0b (z0r ?_);clear hC b9 a0;exact bk (h.sub (L':=[(1,_),(3,_)]) (.c2 U U)) (jE ((⟨a1,gy,6,gt,6,gm,_⟩:MA)) (.c2 U U) ⟨((q2.n6 q3 q4 d6 q18 q19 b3).n1 b4),(y5z a2 (Z.low oo) (O.low oo) (y1t hY oo) c9 d0 (y1x hT oo) a8 a7 a3 (a4.low oo) D.ly D.lt (((q1.n6 q2 q3 q4 d6 q18 q19).n1 b3).n1 b4) oo oo (λx hx hb=>by rcases List.mem_append.1 hx with k|k;have:=d7 x k _ hb;omega;have:=d4 x k _ hb;omega) (λi hi q hq hb=>by have:=a6 i (by have:=D.lt;omega) q hq _ hb;omega) d9 d5)⟩);refine z4i (K:=148) (E:=3) crK h U underlying142 U λgm j1 e5 a3 e0 _hz a h=>?_;have l5:=e0.size;replace I:=I.ext e0;replace hC:=hC.next e0;clear _hz;refine z0b (z0d 9 U (z0n h (z0a U z0g) u8z (y3y _ s.q.bs _ I.b.b I.b.bi D.bb D.b4) ?_));rintro _ h0 ⟨⟨e2,O,d5,gB,rfl⟩,q23⟩ a h;have l6:=q23.size;replace I:=I.ext q23;replace hC:=hC.next q23;have d4:∀x∈e2,∀k∈z0v (slv x.1),k<h0.heap.size:=λx hx k hk=>((O.2 x hx).blk k hk).2;refine z0b (z2u (cs:=[_,_]) 10 h (z0a U (z0a U z0g)) u6v (z0f U (z0f U z0q)) U U λa h=>z0d 13 U ?_);refine z0n h (z0a U z0g) (mkC func63) (y8j _ s.ys _ I.y I.ya (by have:=D.ly;omega) D.pe) ?_;rintro _ j2 ⟨⟨gy,ps,rfl,f2,hY,c9,d0⟩,q24⟩ a h;have l7:=q24.size;replace I:=I.ext q24;replace hC:=hC.next q24;refine z0b (z0d 17 U (z0n h (z0a U z0g) u8b (y4o _ s.fb.ts _ I.f.t I.f.tt (by have:=D.lt;omega) D.tb) ?_));rintro _ h1 ⟨⟨gt,us,rfl,e7,hT,a8,a7⟩,q25⟩ a h;have l8:=q25.size;replace I:=I.ext q25;replace hC:=hC.next q25;have a6:∀i,i<us.length->∀q∈(us.getD i tq0).2,∀k∈z0v (slv q.th),k<h1.heap.size:=λi hi q hq k hk=>((hT.lps i hi q hq).1.blk k hk).2;refine z0b (z0d 26 U (z0n h (z0a U z0g) y9v (z3v _ s.fb.fs _ I.f.f D.fl) ?_));rintro _ h2 ⟨gf,rfl,e4,a4,b5⟩ a h;have l9:=b5.size;replace M:=M.ext (e0.n4 q23 q24 q25 b5);replace hC:=hC.next b5;refine z0b (z2u (cs:=[_,_,_,_,_,_,_]) 27 h (z0a U (z0a U (z0a U (z0a U (z0a U (z0a U z0g)))))) x8e (z0f U (z0f U (z0f U (z0f U (z0f U (z0f U z0q)))))) U U λa h=>z0d 28 U ?_);refine y4s h U U U λj3 a2 b6 hz a h=>?_;obtain⟨a1,hg⟩:∃g,g=h2.heap.size:=⟨_,rfl⟩;rw[<-hg]at a2 h hz;have a5:g1<a1:=by have:=M.lt;omega
 have m0:=b6.size;replace Z:=Z.ext (e0.n5 q23 q24 q25 b5 b6);replace a3:=a3.ext (q23.n4 q24 q25 b5 b6);replace O:=O.ext (q24.n3 q25 b5 b6);replace hY:=hY.ext (q25.n2 b5 b6);replace hT:=hT.ext (b5.n1 b6);replace a4:=a4.ext b6;replace hC:=hC.next b6;refine z0b (z0d 29 U (z0t h U λa h=>?_));refine z0b (z0r ?_);clear hC b9 a0;exact bk (h.sub (L':=[(1,_),(3,_)]) (.c2 U U)) (jE ((⟨a1,gy,6,gt,6,gm,_⟩:MA)) (.c2 U U) ⟨((q2.n6 q3 e0 q23 q24 q25 b5).n1 b6),(y5z a2 (Z.low oo) (O.low oo) (y1t hY oo) c9 d0 (y1x hT oo) a8 a7 a3 (a4.low oo) D.ly D.lt (((q1.n6 q2 q3 e0 q23 q24 q25).n1 b5).n1 b6) oo oo (λx hx hb=>by rcases List.mem_append.1 hx with k|k;have:=d7 x k _ hb;omega;have:=d4 x k _ hb;omega) (λi hi q hq hb=>by have:=a6 i (by have:=D.lt;omega) q hq _ hb;omega) d9 d5)⟩);refine z4i (K:=148) (E:=3) crK h U underlying142 U λgm j4 e5 a3 e1 _hz a h=>?_;have m1:=e1.size;replace I:=I.ext e1;replace hC:=hC.next e1;clear _hz;refine z0b (z0d 5 U (z0n h (z0a U z0g) u8z (y3y _ s.q.fs _ I.b.f I.b.fi D.bf D.f4) ?_));rintro _ h3 ⟨⟨f0,Z,d9,gF,rfl⟩,q29⟩ a h;have m2:=q29.size;replace I:=I.ext q29;replace hC:=hC.next q29;have d7:∀x∈f0,∀k∈z0v (slv x.1),k<h3.heap.size:=λx hx k hk=>((Z.2 x hx).blk k hk).2;refine z0b (z0d 9 U (z0n h (z0a U z0g) u8z (y3y _ s.q.bs _ I.b.b I.b.bi D.bb D.b4) ?_));rintro _ h4 ⟨⟨e2,O,d5,gB,rfl⟩,q30⟩ a h;have m3:=q30.size;replace I:=I.ext q30;replace hC:=hC.next q30;have d4:∀x∈e2,∀k∈z0v (slv x.1),k<h4.heap.size:=λx hx k hk=>((O.2 x hx).blk k hk).2;refine z0b (z2u (cs:=[_,_]) 10 h (z0a U (z0a U z0g)) u6v (z0f U (z0f U z0q)) U U λa h=>z0d 13 U ?_);refine z0n h (z0a U z0g) (mkC func63) (y8j _ s.ys _ I.y I.ya (by have:=D.ly;omega) D.pe) ?_;rintro _ j5 ⟨⟨gy,ps,rfl,f2,hY,c9,d0⟩,q31⟩ a h;have m4:=q31.size;replace I:=I.ext q31;replace hC:=hC.next q31;refine z0b (z0d 17 U (z0n h (z0a U z0g) u8b (y4o _ s.fb.ts _ I.f.t I.f.tt (by have:=D.lt;omega) D.tb) ?_));rintro _ h5 ⟨⟨gt,us,rfl,e7,hT,a8,a7⟩,q32⟩ a h;have m5:=q32.size;replace I:=I.ext q32;replace hC:=hC.next q32;have a6:∀i,i<us.length->∀q∈(us.getD i tq0).2,∀k∈z0v (slv q.th),k<h5.heap.size:=λi hi q hq k hk=>((hT.lps i hi q hq).1.blk k hk).2;refine z0b (z0d 26 U (z0n h (z0a U z0g) y9v (z3v _ s.fb.fs _ I.f.f D.fl) ?_));rintro _ h6 ⟨gf,rfl,e4,a4,b7⟩ a h;have m6:=b7.size;replace M:=M.ext (e1.n5 q29 q30 q31 q32 b7);replace hC:=hC.next b7;refine z0b (z2u (cs:=[_,_,_,_,_,_,_]) 27 h (z0a U (z0a U (z0a U (z0a U (z0a U (z0a U z0g)))))) x8e (z0f U (z0f U (z0f U (z0f U (z0f U (z0f U z0q)))))) U U λa h=>z0d 28 U ?_);refine y4s h U U U λj6 a2 b8 hz a h=>?_;obtain⟨a1,hg⟩:∃g,g=h6.heap.size:=⟨_,rfl⟩;rw[<-hg]at a2 h hz;have a5:g1<a1:=by have:=M.lt;omega
 have m7:=b8.size;replace a3:=a3.ext (q29.n5 q30 q31 q32 b7 b8);replace Z:=Z.ext (q30.n4 q31 q32 b7 b8);replace O:=O.ext (q31.n3 q32 b7 b8);replace hY:=hY.ext (q32.n2 b7 b8);replace hT:=hT.ext (b7.n1 b8);replace a4:=a4.ext b8;replace hC:=hC.next b8;refine z0b (z0d 29 U (z0t h U λa h=>?_));refine z0b (z0r ?_);clear hC b9 a0;exact bk (h.sub (L':=[(1,_),(3,_)]) (.c2 U U)) (jE ((⟨a1,gy,6,gt,6,gm,_⟩:MA)) (.c2 U U) ⟨((q2.n6 e1 q29 q30 q31 q32 b7).n1 b8),(y5z a2 (Z.low oo) (O.low oo) (y1t hY oo) c9 d0 (y1x hT oo) a8 a7 a3 (a4.low oo) D.ly D.lt (((q1.n6 q2 e1 q29 q30 q31 q32).n1 b7).n1 b8) oo oo (λx hx hb=>by rcases List.mem_append.1 hx with k|k;have:=d7 x k _ hb;omega;have:=d4 x k _ hb;omega) (λi hi q hq hb=>by have:=a6 i (by have:=D.lt;omega) q hq _ hb;omega) d9 d5)⟩);rintro ka j7 ⟨f7,⟨m,hM,e6⟩⟩;have m8:=f7.size;have f3:=hM;refine kpC [(1,_),(3,.pointer (some ⟨ka.gk,0,none⟩))] (.c2 U U) (sq (sr (fad U z8b (x1e U x5v U ?_))));replace M:=M.ext f7;refine z0i U M U j1q (lnS U underlying29 (mv U (nn (bl (lpK (ι:=Nat) [(3,_),(37,_),(38,_)] (λi=>[(39,.int .i64 (i:Int))]) (λi w'=>i<=s.fb.cs.length/\(∃m:MQ,m.p=(⟨s.rk,⟨trimB (plB s.q.fs),trimB (plB s.q.bs)⟩,s.ys.map YQ.p,z2g s.fb.ts,s.fb.cs.take i,s.fb.fs⟩:MSt)/\MkM τd 145 w0 ka w' m)) (λi=>s.fb.cs.length-i) 0 (.c4 U U U U) ⟨Nat.zero_le _,⟨m,e6,hM⟩⟩ ?_)))));rintro i j8 ⟨hi,⟨m,e6,hM⟩⟩;have f3:=hM;refine kpC [(3,_),(37,_),(38,_),(39,_)] (.c4 U U U U) ?_;have hk:=hM.k;have i2:=hk.lt;refine sr (lt' U (nn (sq (cd U (λc0=>?_) (λc0=>?_)))));refine sk (tn (sq (bl (sr (z1d (cx0) U (f1.f.c.ext hM.fr.fr) U u0k z1j (λh7 f5=>?_))))));refine z1q U (f5 _ (f1.f.c.ext hM.fr.fr)) v8k (al v9j U (λg5 j9 i1 e3 f8 m9=>(z0j (vs:=[_,_,_,_,_]) U e3 u7c (λk0 e3 f9 n7=>(nn ?_)))));replace hM:=f3.ext (f8.z1 f9);replace hk:=(hk.ext f8).fr f9;intro a h;refine z0h (some 11) (λwb w'=>Fr [] wb w') z2o ?_;intro g0 e8;have n8:=e8.size;replace hM:=hM.ext e8;replace hk:=hk.ext e8;replace e3:=e3.ext e8;have hC:Fr [] g0 g0:=Fr.refl _ _;have f4:=hM;have e9:=hk;have c1:=e3;refine z0e 0 h U λa h=>z0o 1 h U λa h=>z0c 2 h U y2g U λa h=>z0l 3 h U (λ_ hw=>e9.ext hw) U x8c U λa h=>z0c 4 h U y4z U λa h=>z1f (vs:=[_,_]) 5 h U (λ_ hw=>(c1.ext hw)) z2q U U λa h=>z0c 6 h U y4q U λa h=>z1f (vs:=[_,_]) 7 h U (λ_ hw=>(c1.ext hw)) z2q U U λa h=>z2u (cs:=[_,_,_,_]) 8 h (z0a U (z0a U z0g)) u2x (z0f U (z0f U z0q)) U U λa h=>z0c 9 h U y8y U λa h=>z0l 10 h U (λ_ hw=>c1.ext hw) U na3 U λa h=>?_;refine z0d 11 U (y6y (V:=crK) (k:=cxK (s.fb.cs.getD i cx0)) (v:=.int .i64 (s.fb.cs.getD i cx0).n) h U U U hM.c x4o underlying142 λk1 f6 hq _hz a h=>?_);rw[show m.cr=s.fb.cs.take i from congrArg MSt.cr e6]at f6;replace hM:=hM.cross (l:=s.fb.cs.take (i+1)) (by rw[<-v4q g3 oo];exact f6) hq;refine z1n (z0r ?_);clear hC f4 e9 c1;exact bk (h.sub (L':=[(3,_),(37,_),(38,_),(39,_)]) (.c4 U U U U)) (bn' (tn (rg (z0x U (wi6 oo) (mv U (nl (lpE (i+1) (.c4 U U U U) ⟨oo,⟨{ m with cr:=s.fb.cs.take (i+1) },by rw[show ({ m with cr:=s.fb.cs.take (i+1) }:MQ).p={ m.p with cr:=s.fb.cs.take (i+1) } from U,e6],hM⟩⟩ oo)))))));obtain rfl:i=s.fb.cs.length:=by omega
 exact ex (te (te (xh (tn (sr (mv U (asg U (kpL [(2,_)] (.cons U .nil) (nn (rt (r1 results26 U ⟨_,rfl,ka,m,rfl,hM,by rw[e6,List.take_length]⟩)))))))))))
theorem j4c (v:Value)(l:List Int)(w0:World)(M:Sl Enc.i64 w0 v l)(hl:l.length<=1000):Rets prog 137 #[v] w0 λr w'=>r=.int .i64 (orZ l)/\w'=w0:=by
 obtain⟨A,c,rfl,a1,hM,hA⟩:=id M;clear hA;unfold maxLen at hM;refine we [(0,.slice A l.length c)] func137 U ntmps137 U (.cons U .nil) ?_;have O:=M;refine sr (asg U (nn (sr (asg U (nn (sq (sr (mv U (lnS U underlying22 (mv U (nn (bl (lpK (ι:=Nat) [(3,_),(6,_),(7,_)] (λi=>[(8,.int .i64 (i:Int))]) (λi w'=>Fr [] w0 w'/\i<=l.length/\(∀j,j<i->l.getD j 0=0)/\w'=w0) (λi=>l.length-i) 0 (.c4 U U U U) ⟨Fr.refl _ _,⟨Nat.zero_le _,⟨λj h=>absurd h oo,rfl⟩⟩⟩ ?_)))))))))))));rintro i w1 ⟨q1,⟨hi,⟨Z,D⟩⟩⟩;refine kpC [(3,_),(6,_),(7,_),(8,_)] (.c4 U U U U) (sr (lt' U (nn (sq (cd U (λc0=>?_) (λc0=>?_))))));refine sk (tn (sq (bl (sr ?_))));replace M:=O.ext q1;refine z1d (0) U M U z9t z1j (λa0 I=>?_);refine z1k U (I _ M) na3 (asg U (nn (sr (mv U (mv U (ne' U (nn (cd U (λc1=>?_) (λc1=>?_)))))))));refine sr (mv U (asg U (kpL [(2,_)] (.cons U .nil) (nn (rt (rb (tr (tr (rb (tr (r1 results137 U ?_)))))))))));exact⟨_,rfl,congrArg (Value.int .i64) (v0o oo Z oo).symm,D⟩;refine sk (bn' (tn (rg (z0x U (wi6 oo) (mv U (nl ?_))))));exact lpE (i+1) (.c4 U U U U) ⟨q1,⟨oo,⟨λj h=>by
  by_cases e:j=i;subst e;omega;exact Z j oo,D⟩⟩⟩ oo
 obtain rfl:i=l.length:=by omega
 refine ex (te (te (xh (tn (sr (mv U (asg U (kpL [(2,_)] (.cons U .nil) (nn (rt (r1 results137 U ?_)))))))))));exact⟨_,rfl,congrArg (Value.int .i64) (y7r Z).symm,D⟩
theorem nanD (x:Int)(W:World):Calls prog 161 #[.int .i64 x] W λe w'=>e=.returned (.bool false)/\w'=W:=by
 go_enter func161,ntmps161;go_wp2;go_ret;exact⟨sp0,rfl⟩
theorem j4d (x:Int)(W:World):Calls prog 179 #[.int .u8 x] W λe w'=>e=.returned (.bool false)/\w'=W:=by
 go_enter func179,ntmps179;go_wp2;go_ret;exact⟨sp0,rfl⟩
theorem cmpD (x y:Int)(W:World):Calls prog 122 #[.int .i64 x,.int .i64 y] W λe w'=>e=.returned (.int .i64 (z9s x y))/\w'=W:=by
 go_enter func122,ntmps122
 go_wp2_with (go_at_call 161;refine(nanD _ _).mono ?_;rintro e w' ⟨rfl,D⟩;rw[D])
 all_goals (go_ret;refine⟨?_,rfl⟩;unfold z9s;(repeat' split)<;>first|rfl|(exfalso;omega))
theorem j2i (x y:Int)(W:World):Calls prog 138 #[.int .u8 x,.int .u8 y] W λe w'=>e=.returned (.int .i64 (z9s x y))/\w'=W:=by
 go_enter func138,ntmps138
 go_wp2_with (go_at_call 179;refine(j4d _ _).mono ?_;rintro e w' ⟨rfl,D⟩;rw[D])
 all_goals (go_ret;refine⟨?_,rfl⟩;unfold z9s;(repeat' split)<;>first|rfl|(exfalso;omega))
theorem orD (b T:Nat)(x y:Int)(W:World)(D:W.heap[b]?=some (.cells #[.int .i64 x,.int .i64 y] T (0,0))):Calls prog 137 #[.slice (some ⟨b,0,none⟩) 2 2] W λe w'=>e=.returned (.int .i64 (orZ [x,y]))/\w'=W:=
 Calls.mono (j4c _ _ W (u8e D) sp0) (by rintro e w' ⟨r,rfl,rfl,h⟩;exact⟨rfl,h⟩)
theorem u6c (x y:LId)(W:World):Calls prog 76 #[.agg #[.int .u8 x.y,.int .i64 x.n],.agg #[.int .u8 y.y,.int .i64 y.n]] W λe w'=>e=.returned (.int .i64 (z6k x y))/\DG W w':=by
 rw[<-x5y x y]
 go_enter func76,ntmps76
 go_wp2
 go_region_held3 (λw'=>w'.cell? ⟨W.heap.size,0,none⟩=some (.int .u8 x.y)/\w'.cell? ⟨W.heap.size,1,none⟩=some (.int .i64 x.n)/\w'.cell? ⟨W.heap.size+1,0,none⟩=some (.int .u8 y.y)/\w'.cell? ⟨W.heap.size+1,1,none⟩=some (.int .i64 y.n)) (go_keep)
  (first|(go_at_call 138;refine(j2i _ _ _).mono ?_;rintro e w' ⟨rfl,rfl⟩)|(go_at_call 122;refine(cmpD _ _ _).mono ?_;rintro e w' ⟨rfl,rfl⟩)|(go_at_call 137;refine(orD _ 3 (z9s x.y y.y) (z9s x.n y.n) _ (u6k _ _ _ sp0)).mono ?_;rintro e w' ⟨rfl,rfl⟩)|(go_at_call 137;refine(orD _ 3 (z9s x.y y.y) (z9s x.n y.n) _ (j2u _ _ _ sp0)).mono ?_;rintro e w' ⟨rfl,rfl⟩))
 all_goals go_wp2
 all_goals go_ret
 all_goals refine⟨rfl,?_⟩
 all_goals repeat first|exact DG.refl _|refine DG.drew ?_|refine DG.alloc ?_ _
theorem u7w (x y:Cx)(W:World):Calls prog 75 #[u6w x,u6w y] W λe w'=>e=.returned (.int .i64 (y9k x y))/\DG W w':=by
 go_enter func75,ntmps75
 go_wp2_with (first|(go_at_call 76;refine(u6c ⟨_,_⟩ ⟨_,_⟩ _).mono ?_;rintro e w' ⟨rfl,D⟩;have O:w'.cell? ⟨W.heap.size,2,none⟩=some (.int .u8 x.b.y):=D.cell (by simp[u6w]);have c2:w'.cell? ⟨W.heap.size,3,none⟩=some (.int .i64 x.b.n):=D.cell (by simp[u6w]);have c3:w'.cell? ⟨W.heap.size+1,2,none⟩=some (.int .u8 y.b.y):=D.cell (by simp[u6w]);have c4:w'.cell? ⟨W.heap.size+1,3,none⟩=some (.int .i64 y.b.n):=D.cell (by simp[u6w]))|(go_at_call 76;refine(u6c ⟨_,_⟩ ⟨_,_⟩ _).mono ?_;rintro e M ⟨rfl,I⟩))
 all_goals go_ret
 ·rename_i h
  refine⟨?_,(((DG.refl _).alloc _).alloc _).trans D⟩
  show Ending.returned (Value.int .i64 (z6k x.a y.a))=_
  unfold y9k;rw[if_pos (by simpa using h)]
 rename_i h
 refine⟨?_,((((DG.refl _).alloc _).alloc _).trans D).trans I⟩
 show Ending.returned (Value.int .i64 (z6k x.b y.b))=_
 unfold y9k;rw[if_neg (by simpa using h)]
end Go.Proofs.YtlfdhllfmoplgaaGreatDoor
namespace Go.Proofs
open Go.Shelf
def Tryz.sortCx_ren:Go.Shelf.Ren:=⟨fun|6=>74|15=>136|14=>135|28=>177|29=>178|20=>169|21=>170|22=>171|23=>172|24=>173|25=>174|26=>175|27=>176|46=>211|47=>212|48=>213|49=>214|50=>215|57=>231|n=>n,fun|22=>29|24=>147|25=>152|3=>3|39=>219|0=>0|53=>262|55=>264|4=>4|46=>255|45=>254|50=>259|5=>5|9=>9|66=>288|70=>292|76=>310|77=>311|n=>n,fun|n=>n⟩
theorem Tryz.sortCx:Go.Proofs.SlLaysF0.n6 Tryz.prog Tryz.sortCx_ren:={
 mixed:=by kernel_rfl
 f6:=⟨Tryz.f74.name,dd,Tryz.func74.trans (congrArg some kr)⟩
 f14:=⟨Tryz.f135.name,dd,Tryz.func135.trans (congrArg some kr)⟩
 f15:=Tryz.func136.trans (congrArg some kr)
 f20:=⟨Tryz.f169.name,dd,Tryz.func169.trans (congrArg some kr)⟩
 f21:=⟨Tryz.f170.name,dd,Tryz.func170.trans (congrArg some kr)⟩
 f22:=⟨Tryz.f171.name,dd,Tryz.func171.trans (congrArg some kr)⟩
 f23:=⟨Tryz.f172.name,dd,Tryz.func172.trans (congrArg some kr)⟩
 f24:=⟨Tryz.f173.name,dd,Tryz.func173.trans (congrArg some kr)⟩
 f25:=⟨Tryz.f174.name,dd,Tryz.func174.trans (congrArg some kr)⟩
 f26:=⟨Tryz.f175.name,dd,Tryz.func175.trans (congrArg some kr)⟩
 f27:=⟨Tryz.f176.name,dd,Tryz.func176.trans (congrArg some kr)⟩
 f28:=Tryz.func177.trans (congrArg some kr)
 f29:=Tryz.func178.trans (congrArg some kr)
 f46:=⟨Tryz.f211.name,dd,Tryz.func211.trans (congrArg some kr)⟩
 f47:=Tryz.func212.trans (congrArg some kr)
 f48:=Tryz.func213.trans (congrArg some kr)
 f49:=⟨Tryz.f214.name,dd,Tryz.func214.trans (congrArg some kr)⟩
 f50:=⟨Tryz.f215.name,dd,Tryz.func215.trans (congrArg some kr)⟩
 f57:=⟨Tryz.f231.name,dd,Tryz.func231.trans (congrArg some kr)⟩
 t0:=Tryz.underlying0
 a0:=Tryz.isAgg0
 z0:=Tryz.sizeOf0
 v0:=Tryz.zeroValue0
 t3:=Tryz.underlying3
 a3:=Tryz.isAgg3
 z3:=Tryz.sizeOf3
 v3:=Tryz.zeroValue3
 t4:=Tryz.underlying4
 a4:=Tryz.isAgg4
 z4:=Tryz.sizeOf4
 v4:=Tryz.zeroValue4
 t5:=Tryz.underlying5
 a5:=Tryz.isAgg5
 z5:=Tryz.sizeOf5
 v5:=Tryz.zeroValue5
 t9:=Tryz.underlying9
 a9:=Tryz.isAgg9
 z9:=Tryz.sizeOf9
 v9:=Tryz.zeroValue9
 t22:=Tryz.underlying29
 a22:=Tryz.isAgg29
 z22:=Tryz.sizeOf29
 v22:=Tryz.zeroValue29
 t25:=Tryz.underlying152
 a25:=Tryz.isAgg152
 z25:=Tryz.sizeOf152
 v25:=Tryz.zeroValue152
 t39:=Tryz.underlying219
 a39:=Tryz.isAgg219
 z39:=Tryz.sizeOf219
 v39:=Tryz.zeroValue219
 t45:=Tryz.underlying254
 a45:=Tryz.isAgg254
 z45:=Tryz.sizeOf254
 v45:=Tryz.zeroValue254
 t46:=Tryz.underlying255
 a46:=Tryz.isAgg255
 z46:=Tryz.sizeOf255
 v46:=Tryz.zeroValue255
 t50:=Tryz.underlying259
 a50:=Tryz.isAgg259
 z50:=Tryz.sizeOf259
 v50:=Tryz.zeroValue259
 t53:=Tryz.underlying262
 a53:=Tryz.isAgg262
 z53:=Tryz.sizeOf262
 v53:=Tryz.zeroValue262
 t55:=Tryz.underlying264
 a55:=Tryz.isAgg264
 z55:=Tryz.sizeOf264
 v55:=Tryz.zeroValue264
 t66:=Tryz.underlying288
 a66:=Tryz.isAgg288
 z66:=Tryz.sizeOf288
 v66:=Tryz.zeroValue288
 t70:=Tryz.underlying292
 a70:=Tryz.isAgg292
 z70:=Tryz.sizeOf292
 v70:=Tryz.zeroValue292
 t76:=Tryz.underlying310
 a76:=Tryz.isAgg310
 z76:=Tryz.sizeOf310
 v76:=Tryz.zeroValue310
 t77:=Tryz.underlying311
 a77:=Tryz.isAgg311
 z77:=Tryz.sizeOf311
 v77:=Tryz.zeroValue311 }
def Tryz.sortId_ren:Go.Shelf.Ren:=⟨fun|6=>78|15=>136|14=>139|28=>177|29=>178|20=>180|21=>181|22=>182|23=>183|24=>184|25=>185|26=>186|27=>187|46=>216|47=>212|48=>213|49=>217|50=>218|57=>232|n=>n,fun|22=>30|24=>64|25=>151|3=>3|39=>219|0=>0|53=>262|55=>264|4=>4|46=>255|45=>254|50=>259|5=>5|9=>9|66=>288|70=>292|76=>310|77=>311|n=>n,fun|n=>n⟩
theorem Tryz.sortId:Go.Proofs.SlLaysF0.n6 Tryz.prog Tryz.sortId_ren:={
 mixed:=by kernel_rfl
 f6:=⟨Tryz.f78.name,dd,Tryz.func78.trans (congrArg some kr)⟩
 f14:=⟨Tryz.f139.name,dd,Tryz.func139.trans (congrArg some kr)⟩
 f15:=Tryz.func136.trans (congrArg some kr)
 f20:=⟨Tryz.f180.name,dd,Tryz.func180.trans (congrArg some kr)⟩
 f21:=⟨Tryz.f181.name,dd,Tryz.func181.trans (congrArg some kr)⟩
 f22:=⟨Tryz.f182.name,dd,Tryz.func182.trans (congrArg some kr)⟩
 f23:=⟨Tryz.f183.name,dd,Tryz.func183.trans (congrArg some kr)⟩
 f24:=⟨Tryz.f184.name,dd,Tryz.func184.trans (congrArg some kr)⟩
 f25:=⟨Tryz.f185.name,dd,Tryz.func185.trans (congrArg some kr)⟩
 f26:=⟨Tryz.f186.name,dd,Tryz.func186.trans (congrArg some kr)⟩
 f27:=⟨Tryz.f187.name,dd,Tryz.func187.trans (congrArg some kr)⟩
 f28:=Tryz.func177.trans (congrArg some kr)
 f29:=Tryz.func178.trans (congrArg some kr)
 f46:=⟨Tryz.f216.name,dd,Tryz.func216.trans (congrArg some kr)⟩
 f47:=Tryz.func212.trans (congrArg some kr)
 f48:=Tryz.func213.trans (congrArg some kr)
 f49:=⟨Tryz.f217.name,dd,Tryz.func217.trans (congrArg some kr)⟩
 f50:=⟨Tryz.f218.name,dd,Tryz.func218.trans (congrArg some kr)⟩
 f57:=⟨Tryz.f232.name,dd,Tryz.func232.trans (congrArg some kr)⟩
 t0:=Tryz.underlying0
 a0:=Tryz.isAgg0
 z0:=Tryz.sizeOf0
 v0:=Tryz.zeroValue0
 t3:=Tryz.underlying3
 a3:=Tryz.isAgg3
 z3:=Tryz.sizeOf3
 v3:=Tryz.zeroValue3
 t4:=Tryz.underlying4
 a4:=Tryz.isAgg4
 z4:=Tryz.sizeOf4
 v4:=Tryz.zeroValue4
 t5:=Tryz.underlying5
 a5:=Tryz.isAgg5
 z5:=Tryz.sizeOf5
 v5:=Tryz.zeroValue5
 t9:=Tryz.underlying9
 a9:=Tryz.isAgg9
 z9:=Tryz.sizeOf9
 v9:=Tryz.zeroValue9
 t22:=Tryz.underlying30
 a22:=Tryz.isAgg30
 z22:=Tryz.sizeOf30
 v22:=Tryz.zeroValue30
 t25:=Tryz.underlying151
 a25:=Tryz.isAgg151
 z25:=Tryz.sizeOf151
 v25:=Tryz.zeroValue151
 t39:=Tryz.underlying219
 a39:=Tryz.isAgg219
 z39:=Tryz.sizeOf219
 v39:=Tryz.zeroValue219
 t45:=Tryz.underlying254
 a45:=Tryz.isAgg254
 z45:=Tryz.sizeOf254
 v45:=Tryz.zeroValue254
 t46:=Tryz.underlying255
 a46:=Tryz.isAgg255
 z46:=Tryz.sizeOf255
 v46:=Tryz.zeroValue255
 t50:=Tryz.underlying259
 a50:=Tryz.isAgg259
 z50:=Tryz.sizeOf259
 v50:=Tryz.zeroValue259
 t53:=Tryz.underlying262
 a53:=Tryz.isAgg262
 z53:=Tryz.sizeOf262
 v53:=Tryz.zeroValue262
 t55:=Tryz.underlying264
 a55:=Tryz.isAgg264
 z55:=Tryz.sizeOf264
 v55:=Tryz.zeroValue264
 t66:=Tryz.underlying288
 a66:=Tryz.isAgg288
 z66:=Tryz.sizeOf288
 v66:=Tryz.zeroValue288
 t70:=Tryz.underlying292
 a70:=Tryz.isAgg292
 z70:=Tryz.sizeOf292
 v70:=Tryz.zeroValue292
 t76:=Tryz.underlying310
 a76:=Tryz.isAgg310
 z76:=Tryz.sizeOf310
 v76:=Tryz.zeroValue310
 t77:=Tryz.underlying311
 a77:=Tryz.isAgg311
 z77:=Tryz.sizeOf311
 v77:=Tryz.zeroValue311 }
end Go.Proofs
namespace Go.Proofs.YtlfdhllfmoplgaaGreatDoor
open Go.Lw Go.G21 Go.G08 _root_.Go.Proofs.Tryz
open Go.Shelf Go.Sort
theorem u2z (f:Value)(W:World):Calls prog 169 #[.slice none 0 0,.int .i64 0,.int .i64 0,f] W λe w'=>e=.returned (.tuple #[])/\Fr [] W w':=by
 go_enter func169,ntmps169
 go_wp2
 refine wp_loop_rounds 1 ?_
 simp only[rounds_succ]
 go_wp2
 all_goals first|go_end0|((try simp only[Exit.inBlock,Exit.then]);refine bodyPost_ret (results_none U _ _ _) U ?_)
 all_goals exact⟨rfl,Fr.refl _ _⟩
theorem u3a (f:Value)(W:World):Calls prog 135 #[.slice none 0 0,.int .i64 0,.int .i64 0,.int .i64 0,f] W λe w'=>e=.returned (.tuple #[])/\Fr [] W w':=by
 go_enter func135,ntmps135
 go_wp2
 refine wp_loop_rounds 1 ?_
 simp only[rounds_succ]
 go_wp2_with (go_at_call 169;refine(u2z _ _).mono ?_;rintro e w' ⟨rfl,D⟩)
 all_goals first|go_end0|((try simp only[Exit.inBlock,Exit.then]);refine bodyPost_ret (results_none U _ _ _) U ?_)
 all_goals exact⟨rfl,D⟩
theorem u6o (W:World):Calls prog 136 #[.int .u64 0] W λe w'=>e=.returned (.int .i64 0)/\w'=W:=
 Any.bits_Len (SlLaysF0.n15.bits (P:=prog) (ρ:=sortCx_ren) { sortCx with }) (0:Int) W oo oo
theorem u2c (f:Value)(W:World):Calls prog 74 #[.slice none 0 0,f] W λe w'=>e=.returned (.tuple #[])/\Fr [] W w':=by
 go_enter func74,ntmps74
 go_wp2_with (first|(go_at_call 136;refine(u6o _).mono ?_;rintro e w' ⟨rfl,rfl⟩)|(go_at_call 135;refine(u3a _ _).mono ?_;rintro e w' ⟨rfl,D⟩))
 all_goals go_end0
 all_goals exact⟨rfl,D⟩
theorem u3w (f:Value)(W:World):Calls prog 180 #[.slice none 0 0,.int .i64 0,.int .i64 0,f] W λe w'=>e=.returned (.tuple #[])/\Fr [] W w':=by
 go_enter func180,ntmps180
 go_wp2
 refine wp_loop_rounds 1 ?_
 simp only[rounds_succ]
 go_wp2
 all_goals first|go_end0|((try simp only[Exit.inBlock,Exit.then]);refine bodyPost_ret (results_none U _ _ _) U ?_)
 all_goals exact⟨rfl,Fr.refl _ _⟩
theorem u4i (f:Value)(W:World):Calls prog 139 #[.slice none 0 0,.int .i64 0,.int .i64 0,.int .i64 0,f] W λe w'=>e=.returned (.tuple #[])/\Fr [] W w':=by
 go_enter func139,ntmps139
 go_wp2
 refine wp_loop_rounds 1 ?_
 simp only[rounds_succ]
 go_wp2_with (go_at_call 180;refine(u3w _ _).mono ?_;rintro e w' ⟨rfl,D⟩)
 all_goals first|go_end0|((try simp only[Exit.inBlock,Exit.then]);refine bodyPost_ret (results_none U _ _ _) U ?_)
 all_goals exact⟨rfl,D⟩
theorem u2h (W:World):Calls prog 136 #[.int .u64 0] W λe w'=>e=.returned (.int .i64 0)/\w'=W:=
 Any.bits_Len (SlLaysF0.n15.bits (P:=prog) (ρ:=sortId_ren) { sortId with }) (0:Int) W oo oo
theorem u6b (f:Value)(W:World):Calls prog 78 #[.slice none 0 0,f] W λe w'=>e=.returned (.tuple #[])/\Fr [] W w':=by
 go_enter func78,ntmps78
 go_wp2_with (first|(go_at_call 136;refine(u2h _).mono ?_;rintro e w' ⟨rfl,rfl⟩)|(go_at_call 139;refine(u4i _ _).mono ?_;rintro e w' ⟨rfl,D⟩))
 all_goals go_end0
 all_goals exact⟨rfl,D⟩
instance:Inhabited Cx:=⟨cx0⟩
instance:Inhabited LId:=⟨id0⟩
theorem u9l {w0:World}{T base:Nat}{v:Value}{l:List Cx}(M:Lw.Own z4z T base w0 v l)(hl:l.length<4611686018427387904)(hn:(l.map λc=>(c.a,c.b)).Nodup):Rets prog 74 #[v,.func (.func 75) #[] #[]] w0 λr w'=>r=.tuple #[]/\Lw.Own z4z T base w' v (y2t l)/\Fr (z0v v) w0 w':=
 Rets.mono (x6o (E:=z4z) (f:=74) sortCx U isAgg147 sizeOf147 y9k swoX (enters_of func75 kr U) (λx y W=>u7w x y W) (u2c _) M hl) (by
  rintro r w' ⟨rfl,l',O,Z,D,I⟩
  rw[x9u hn O Z]at D
  exact⟨rfl,D,I⟩)
theorem u7y {w0:World}{T base:Nat}{v:Value}{l:List LId}(M:Lw.Own z1b T base w0 v l)(hl:l.length<4611686018427387904):Rets prog 78 #[v,.func (.func 76) #[] #[]] w0 λr w'=>r=.tuple #[]/\Lw.Own z1b T base w' v (y1g l)/\Fr (z0v v) w0 w':=
 Rets.mono (x6o (E:=z1b) (f:=78) sortId U isAgg64 sizeOf64 z6k swoI (enters_of func76 kr U) (λx y W=>u6c x y W) (u6b _) M hl) (by
  rintro r w' ⟨rfl,l',O,Z,D,I⟩
  rw[u2f O Z]at D
  exact⟨rfl,D,I⟩)
open Go.Lw Go.G21 Go.G08 _root_.Go.Proofs.Tryz
theorem x6g (q:BdQ)(r:Int)(w0:World)(O:BdAt w0 q)(D:BdOk q.p)(hr:-4<=r/\r<=4):Rets prog 56 #[.agg #[.slice q.f.1 q.f.2.1 q.f.2.2,.slice q.b.1 q.b.2.1 q.b.2.2],.int .i64 r] w0 λv w'=>(∃g l n,l=z2t q.p r/\n=l.length/\n<=320/\v=.tuple #[.slice (some ⟨g,0,none⟩) n n,.int .i64 0]/\w0.heap.size<=g/\Lw.Own z3t 131 w0.heap.size w' (.slice (some ⟨g,0,none⟩) n n) l)/\Fr [] w0 w':=
 Rets.mono (v2y q r w0 O D hr) (by
  rintro v w' ⟨⟨g,rfl,I,M⟩,h3⟩
  have hN:=y3r D
  have Z:=y0z q.p r
  have a0:(z2t q.p r).length=(v4i q.p r).length:=z4f _
  exact⟨⟨g,_,_,rfl,rfl,oo,rfl,I,M⟩,h3⟩)
theorem v0s {l:List Hd}{ps:List LId}(hl:ps.length=l.length)(h:∀j,j<l.length->ps.getD j id0=(l.getD j hd0).id):ps=l.map Hd.id:=by
 refine List.ext_getElem (by simp[hl]) λj I M=>?_;have D:j<l.length:=by omega
 have:=h j D;rw[List.getD,List.getD,List.getElem?_eq_getElem I,List.getElem?_eq_getElem D]at this;simpa using this
theorem y3j (q:BdQ)(r:Int)(w0:World)(hB:BdAt w0 q)(hv:BdOk q.p)(hr:-4<=r/\r<=4):Rets prog 54 #[.agg #[.slice q.f.1 q.f.2.1 q.f.2.2,.slice q.b.1 q.b.2.1 q.b.2.2],.int .i64 r] w0 λv w'=>(∃g n,n=(z2t q.p r).length/\v=.slice (some ⟨g,0,none⟩) n n/\w0.heap.size<=g/\Lw.Own z1b 64 w0.heap.size w' v ((z2t q.p r).map Hd.id))/\Fr [] w0 w':=by
 obtain⟨⟨hf,hb⟩,h4,b1⟩:=z3o hv;refine we [(0,.agg #[.slice q.f.1 q.f.2.1 q.f.2.2,.slice q.b.1 q.b.2.1 q.b.2.2]),(1,.int .i64 r)] func54 U ntmps54 U (.c2 U U) ?_;have a3:=hB;refine sr (bx U (λg2 w1 b2 a4 q1 z1=>(asg U (nn (sr (z0m U a4 z4x (mv U ?_)))))));replace hB:=a3.ext q1;refine cl (ev2 U) (mkC func56) (x6g q _ _ hB hv hr) U ?_;rintro _ w2 ⟨⟨a2,l,n,a6,a1,b4,rfl,a9,hH⟩,q2⟩;have z2:=q2.size;have a5:=(hH.blk a2 (by simp[z0v])).2;refine mv U (xt U (xt U (asg U (asg U (kpL [(5,_)] (.cons U .nil) (nn (sr (mv U (lnS U underlying127 (z1h (m:=n) (c:=n) (id0) U z3x z7r U (λM w3 b0 I q3 z3=>(asg U (nn (sq (sr (mv U (lnS U underlying127 (mv U (nn (bl (lpK (ι:=Nat×List LId) [(7,_),(19,_),(20,_)] (λp=>[(21,.int .i64 (p.1:Int))]) (λp w'=>Fr [M] w3 w'/\p.1<=n/\p.2.length=n/\Lw.Own z1b 64 w0.heap.size w' (.slice (some ⟨M,0,none⟩) n n) p.2/\(∀j,j<p.1->p.2.getD j id0=(l.getD j hd0).id)) (λp=>n-p.1) (0,List.replicate n id0) (.c4 U U U U) ⟨Fr.refl _ _,⟨Nat.zero_le _,sp0,I.low oo,λj hj=>absurd hj sp0⟩⟩ ?_)))))))))))))))))))));rintro⟨i,ps⟩ w4 ⟨q4,⟨hi,D,I,Z⟩⟩;simp only at hi I Z D;have z4:=q4.size;refine kpC [(7,_),(19,_),(20,_),(21,.int .i64 (i:Int))] (.c4 U U U U) (sr (lt' U (nn (sq (cd U (λc0=>?_) (λc0=>?_))))));refine sk (tn (sq (bl (sr (mv U ?_)))));replace hH:=(hH.ext q3).fr q4 (by intro k hk hb;simp[z0v]at hk hb;omega);refine z1d (hd0) U hH.sl U z3i z1j (λa8 a0=>?_);refine z1q U (a0 _ hH.sl) z5d (al x8p U (λg9 w5 b3 O q5 z5=>(asg U (z0j (vs:=[_,_,_,_,_]) U O z7x (λw6 O q6 z6=>(nn (rg (mv U (mv U (fad U x2k (z1v (vs:=[_,_]) U O z2q U ?_)))))))))));replace I:=(I.ext q5).fr q6 (by intro k hk hb;simp at hk;subst hk;have:=(I.blk _ hb);omega);refine z8n (p:=i) (E:=z1b) U U z3x (z5k (i:=i) (((l.getD i hd0).id)) U U I oo U z5y (λw7 I q7 z7=>(kpL [(7,_),(19,_),(20,_),(21,_)] (.c4 U U U U) (nl (bn' (tn (rg (z0x U (wi6 oo) (mv U (nl ?_))))))))));exact lpE ((i+1,ps.set i ((l.getD i hd0).id))) (.c4 U U U U) ⟨((Fr.refl [M] _).z4 q4 q5 q6 q7),⟨sm,by simp only[List.length_set];exact D,I,λj hj=>by
  simp only at hj ⊢;rw[z1i oo];split;rename_i e;subst e;rfl;exact Z j oo⟩⟩ sm
 obtain rfl:i=n:=by omega
 refine ex (te (te (xh (tn (sr (mv U (asg U (kpL [(4,_)] (.cons U .nil) (nn (rt (r1 results54 U ?_)))))))))));have a7:=v0s (D.trans a1) (λj hj=>Z j oo);subst a6;subst a7;exact⟨_,rfl,⟨M,_,a1,rfl,oo,I⟩,(q1.z3 q2 q3 q4)⟩
theorem y1l:z3p prog 34 8:=⟨λ_=>kr,λ_=>kr⟩
theorem u7i:BuildAt prog 32 [(0,1),(1,1),(2,1),(3,1)] [(.slice none 0 0),(.slice none 0 0),(.slice none 0 0),(.slice none 0 0)]:=BuildAt.struct underlying32 (λ_=>kr) (λ_=>kr)
theorem x4l:BuildAt prog 34 [(0,1),(1,2),(3,1),(4,4)] [(.int .i64 0),(.slice none 0 0),(.slice none 0 0),(.slice none 0 0),(.slice none 0 0),(.slice none 0 0),(.slice none 0 0),(.slice none 0 0)]:=BuildAt.struct underlying34 (λ_=>kr) (λ_=>kr)
theorem j3z:BuildAt prog 147 [(0,2),(2,2),(4,1)] [(.int .u8 0),(.int .i64 0),(.int .u8 0),(.int .i64 0),(.int .i64 0)]:=BuildAt.struct underlying147 (λ_=>kr) (λ_=>kr)
theorem u8t:z1t prog 32 4:=λ_=>kr
theorem y1n:z1t prog 34 8:=λ_=>kr
theorem j0t (w:World):(zeroValue 32).run prog w=.ok (.agg #[(.slice none 0 0),(.slice none 0 0),(.slice none 0 0),(.slice none 0 0)]) w:=kr
theorem y9i (w:World):(zeroValue 34).run prog w=.ok (.agg #[(.int .i64 0),(.slice none 0 0),(.slice none 0 0),(.slice none 0 0),(.slice none 0 0),(.slice none 0 0),(.slice none 0 0),(.slice none 0 0)]) w:=kr
theorem v0r (wS:World)(ka:MA)(m:MQ)(w0:World)(hM:MkM τd 145 wS ka w0 m)(hi:MInv m.p)(n8:m.cr.length<=100000000):Rets prog 29 #[.pointer (some ⟨ka.gk,0,none⟩)] w0 λr w'=>∃s:StQ,r=.agg #[.int .i64 s.rk,.slice s.q.f.1 s.q.f.2.1 s.q.f.2.2,.slice s.q.b.1 s.q.b.2.1 s.q.b.2.2,.slice s.yv.1 s.yv.2.1 s.yv.2.2,.slice s.fb.t.1 s.fb.t.2.1 s.fb.t.2.2,.slice s.fb.c.1 s.fb.c.2.1 s.fb.c.2.2,.slice s.fb.h.1 s.fb.h.2.1 s.fb.h.2.2,.slice s.fb.f.1 s.fb.f.2.1 s.fb.f.2.2]/\StO τd 147 wS.heap.size w' s/\s.p=stM m.p/\Fr [] wS w':=by
 have o4:=hM.fr.size;have D:=hM.k;have o2:=D.lt;have o3:=hM.ly;have f6:=hM.lt;have i2:=hM;have m7:=(hM.t.out.blk ka.gt (by simp[z0v])).2;have m6:=hM.c.lt;have i4:=λk D=>(hM.f.blk k D).2;have n9:(crM m.cr).length=m.cr.length:=List.length_map ..;have l0:∀j,(m.ts.getD j tq0).2.length<=2048:=λj=>Nat.le_trans (u0z m.ts j) hi.all;have hfl:m.fl.length<=2048:=by have x:=hi.cnt;have y:=hi.all;have z:m.p.fa=m.fl:=rfl;rw[z]at x;omega
 refine we [(0,.pointer (some ⟨ka.gk,0,none⟩))] func29 U ntmps29 U (.cons U .nil) ?_;have a3:=hM;refine sr (al y9i U (λg2 w1 o0 O q1 z1=>(nn (sr (mv U (nlc U (fad U y2g ?_)))))));replace D:=D.ext q1;refine z0i U D U x8c ?_;replace hM:=a3.ext q1;refine u7r U hM.c underlying142 U (z1h (m:=0) (c:=(crM m.cr).length) (cx0) U u0k v9j U (λm9 w2 m2 ho q2 z2=>(asg U (kpL [(0,_),(2,_),(3,_)] (.c3 U U U) (nn (sq (sr (mv U (nlc U (fad U y2g ?_))))))))));replace D:=D.ext q2;refine z0i U D U x8c ?_;replace hM:=a3.ext (q1.n1 q2);refine v9i U hM.c underlying142 U (λk1 w3 m3 a2 q3 z3=>(nn (bl ?_)));replace ho:=ho.ext q3;refine lpK (ι:=Value×List Cx×List Cx) [(0,_),(2,_),(19,_)] (λp=>[(3,p.1)]) (λp w'=>Fr [] w1 w'/\(p.2.1++p.2.2).Perm m.cr/\Lw.Own z4z 147 w1.heap.size w' p.1 p.2.1/\CrIt w' k1 ka.gc (crM m.cr) p.2.2 none) (λp=>p.2.2.length) (_,[],m.cr) (.c4 U U U U) ⟨(q2.n1 q3),⟨List.Perm.refl _,ho.low oo,a2⟩⟩ ?_;rintro⟨vP,a6,rem⟩ w4 ⟨q4,⟨f1,ho,a2⟩⟩;simp only at f1 ho a2;have z4:=q4.size;refine kpC [(0,_),(2,_),(19,_),(3,vP)] (.c4 U U U U) ?_;have f8:=a2.neO ho;have k5:=a2.lt;have k9:=f1.length_eq;rw[List.length_append]at k9;refine sr (u2n U a2 U (λl1 c l2 g5 w5 a2 q5 z5=>?_) (λg5=>?_));refine xt U (nn (sq (ct U ?_)));have j0:((a6++[c])++(l1++l2)).Perm m.cr:=by
  rw[g5]at f1;refine List.Perm.trans ?_ f1;rw[List.append_assoc];exact List.Perm.append_left _ (show (c::(l1++l2)).Perm (l1++c::l2) from List.perm_middle.symm)
 refine sk (tn (bl (sr (v6i U a2 U (xt U (xt U (al j0q U (λg4 w6 o1 g0 q6 z6=>(z0j (vs:=[_,_,_,_]) U g0 u3g (λw7 g0 q7 z7=>?_))))))))));refine asg U (nn (rg (mv U (y2s U U underlying148 z5y (z1v (vs:=[_,_]) U g0 z2q U (y2s U U underlying148 z5y (z1v (vs:=[_,_]) U g0 z2q U (mv U (z1s (cs:=[_,_,_,_,_]) (ev3 U) j3z (z0f U (z0f U (z0f U z0q))) U ?_)))))))));refine z1g ([c]) (ev1 U) U u0k (λn7 w8 m4 i8 q8 z8=>?_);replace a2:=((a2.ext q6).fr q7 (by intro k D;simp at D;subst D;exact⟨oo,oo⟩)).ext q8;replace ho:=(((ho.fr q5 (by intro k D I;simp at D;subst D;first|exact(f8 _ I).2 U|(have:=ho.blk _ I;omega))).ext q6).fr q7 (by intro k D I;simp at D;subst D;first|exact(f8 _ I).2 U|(have:=ho.blk _ I;omega))).ext q8;have f9:=ho;refine z1z U ho i8.sl u0k (λo5 w9 ho q9 k8=>?_);have z9:=q9.size;replace a2:=a2.fr q9 (a2.neO f9);exact asg U (kpL [(0,_),(2,_),(3,_),(19,_)] (.c4 U U U U) (nl (bn' (lpE ((_,a6++[c],l1++l2)) (.c4 U U U U) ⟨((q4.z4 q5 q6 q7 q8).step q9 (λk D f6=>absurd (f9.blk k D).1 oo)),⟨j0,ho,a2.no⟩⟩ (by simp only[g5,List.length_append,List.length_cons];omega)))));refine xt U (nn (sq (cf U ?_)));rw[g5,List.append_nil]at f1;have k7:(a6.map λc=>(c.a,c.b)).Nodup:=(f1.map _).nodup_iff.2 (by have x:=i2.c.nodup;rwa [y8h]at x);have g6:y2t a6=y2t m.cr:=x9u (by have x:=i2.c.nodup;rwa [y8h]at x) ((z3s a6).trans f1) (y7u a6);refine ex (te (te (xh (tn (sr (mv U ?_))))));have i9:=ho;replace O:=O.ext q4;refine cl (ev2 U) (mkC func74) (u9l ho oo k7) U ?_;rintro _ l3 ⟨rfl,ho,h8⟩;replace O:=O.fr h8 (λD=>by have:=(i9.blk _ D).1;omega);have q0:=h8.size;replace hM:=a3.ext ((q1.n1 q4).step h8 (λk D f6=>absurd (i9.blk k D).1 oo));have D:=hM.k;refine nn (sq (sr (mv U (nlc U (fad U y1r (z0i U D U x3j (lnS U underlying28 (mv U (nn (bl (lpK (ι:=Nat×List TQ) [(0,_),(2,_),(3,_),(39,_),(40,_)] (λp=>[(41,.int .i64 (p.1:Int))]) (λp w'=>Fr [ka.gt] l3 w'/\p.1<=6/\(∀j,(p.2.getD j tq0).2=(m.ts.getD j tq0).2)/\MkM τd 145 wS ka w' { m with ts:=p.2 }) (λp=>6-p.1) (0,m.ts) (.c6 U U U U U U) ⟨Fr.refl _ _,⟨Nat.zero_le _,λ_=>rfl,hM⟩⟩ ?_)))))))))));rintro⟨i,ts⟩ o6 ⟨g8,⟨k6,e0,hM⟩⟩;simp only at k6 e0 hM;have r4:=g8.size;have a3:=hM;refine kpC [(0,_),(2,_),(3,_),(39,_),(40,_),(41,.int .i64 (i:Int))] (.c6 U U U U U U) ?_;have D:=hM.k;have g7:ts.length=6:=hM.lt;have m8:=hM.lt;refine sr (lt' U (nn (sq (cd U (λc1=>?_) (λc1=>?_)))));refine sk (tn (sq (bl (sr (mv U (z1d (tq0) U hM.t.out.sl U y9c z1j (λm1 i3=>?_)))))));refine z1k U (i3 _ hM.t.out.sl) y0q (asg U (asg U (nn ?_)));intro a h;refine z0h (some 7) (λwb w'=>Fr [] wb w') z2o ?_;intro j2 g9;have r5:=g9.size;replace hM:=hM.ext g9;replace D:=D.ext g9;have hC:Fr [] j2 j2:=Fr.refl _ _;have b6:=hM;have M:=D;refine z0e 0 h U λa h=>z0o 1 h U λa h=>z0c 2 h U y1r U λa h=>z0l 3 h U (λ_ hw=>M.ext hw) U x3j U λa h=>z0e 4 h U λa h=>z0e 5 h U λa h=>z0d 6 U (z0n h (z0a U z0g) (mkC func77) (x9v _ (ts.getD i tq0).2 _ (hM.t.ins i (by rw[hM.lt];omega)).sl (by rw[e0 i];have:=l0 i;omega)) ?_);rintro _ o7 ⟨i1,rfl,m5,hX,h0⟩ a h;have r6:=h0.size;replace hM:=hM.ext h0;replace hC:=hC.next h0;have i7:∀j,j<6->∀b∈z0v (slv (ts.getD j tq0).1),b∉z0v (slv (((some ⟨i1,0,none⟩,(ts.getD i tq0).2.length,(ts.getD i tq0).2.length)):SV)):=λj hj b I k2=>by have:=((a3.t.ins j (by rw[a3.lt];omega)).blk b I).2;simp[z0v,slv]at k2;omega
 refine z0b (z0d 7 U (y9h (p:=i) (i:=(i:Int)) (m:=6) (E:=z3z) h U U y9c oo oo oo U λa h=>?_));refine z0b (z0d 8 U (z0z (i:=i) (((some ⟨i1,0,none⟩,(ts.getD i tq0).2.length,(ts.getD i tq0).2.length),(ts.getD i tq0).2):TQ) h U hM.t.out (by rw[hM.lt];omega) U u4n λo8 h4 h9 _hz a h=>?_));replace hM:=hM.tabh mtd oo (hX.low oo) i7 h4 h9;have a3:=hM;clear h4;have r7:=h9.size;clear _hz;refine z1n (z0r ?_);clear hC b6 M;refine bk (h.sub (L':=[(0,_),(2,_),(3,_),(39,_),(40,_),(41,_)]) (.c6 U U U U U U)) (bn' (tn (rg (z0x U (wi6 oo) (mv U (nl ?_))))));exact lpE ((i+1,_)) (.c6 U U U U U U) ⟨((Fr.refl [ka.gt] _).z4 g8 g9 h0 h9),⟨sm,λj=>by
  simp only;rw[z1i oo];split;rename_i e;subst e;exact e0 _;exact e0 j,hM⟩⟩ sm
 obtain rfl:i=6:=by omega
 refine ex (te (te (xh (tn (sr (mv U (nlc U (fad U y1v (z0i U D U z6h ?_)))))))));replace ho:=ho.fr g8 (by intro k D I;simp at D;subst D;have:=ho.blk _ I;omega);replace O:=O.fr g8;refine cl (z0a U (z0a U z0g)) (mkC func78) (u7y hM.f (by show m.fl.length<_;omega)) U ?_;rintro _ o9 ⟨rfl,k4,g3⟩;have r8:=g3.size;replace hM:=hM.fallS mtd dd k4 g3;have a3:=hM;have D:=hM.k;replace ho:=ho.fr g3 (λk D I=>by have:=i4 k D;have:=(ho.blk k I).1;omega);have g1:=λk D=>(ho.blk k D).2;replace O:=O.fr g3 (λD=>by have:=i4 _ D;omega);have f4:=O;refine kpL [(0,_),(2,_),(3,_)] (.c3 U U U) (nn (sq ?_));intro a h;refine z0h none (λwb w'=>Fr [] wb w') z2o ?_;intro i0 b0;have r9:=b0.size;replace hM:=hM.ext b0;replace D:=D.ext b0;replace ho:=ho.ext b0;have hC:Fr [] i0 i0:=Fr.refl _ _;have b6:=hM;have M:=D;have f5:=ho;refine z0e 0 h U λa h=>z0o 1 h U λa h=>z0c 2 h U y1r U λa h=>z0l 3 h U (λ_ hw=>M.ext hw) U x3j U λa h=>z0e 4 h U λa h=>z0e 6 h U λa h=>z0o 7 h U λa h=>z0c 8 h U z3f U λa h=>z1f (vs:=[_,_]) 9 h U (λ_ hw=>(M.ext hw)) z4x U U λa h=>z0e 10 h U λa h=>z0o 11 h U λa h=>z0c 12 h U z3r U λa h=>z0l 13 h U (λ_ hw=>M.ext hw) U na3 U λa h=>z0e 15 h U λa h=>z0o 16 h U λa h=>z0c 17 h U y1v U λa h=>z0l 18 h U (λ_ hw=>M.ext hw) U z6h U λa h=>z1u 5 21 kr U ?_ ?_;refine z0n h (z0a U z0g) (mkC func79) (v3b _ (y2t a6) _ ho.sl (by rw[(z3s a6).length_eq];omega)) ?_;rintro _ l4 ⟨e8,rfl,i5,a0,b5⟩ a h;have s1:=b5.size;replace hM:=hM.ext b5;replace D:=D.ext b5;replace ho:=ho.ext b5;replace hC:=hC.next b5;have h6:=(a0.blk e8 (by simp[z0v])).2;refine z0b (z1u 14 21 kr U ?_ ?_);refine z0n h (z0a U (z0a U z0g)) (mkC func54) (y3j m.q m.rk _ hM.b.at hi.B hi.rk) ?_;rintro _ l5 ⟨⟨a9,j1,h3,rfl,h1,hH⟩,q18⟩ a h;have s2:=q18.size;replace hM:=hM.ext q18;replace D:=D.ext q18;replace ho:=ho.ext q18;replace a0:=a0.ext q18;replace hC:=hC.next q18;have h2:=(hH.blk a9 (by simp[z0v])).2;refine z0b (z1u 19 21 kr U ?_ ?_);refine z0n h (z0a U z0g) y9v (z3v _ (y1g m.fl) _ hM.f.sl (by rw[(z4c _).length_eq];omega)) ?_;rintro _ l6 ⟨a7,rfl,f7,a1,e1⟩ a h;have s3:=e1.size;replace D:=D.ext e1;replace hC:=hC.next e1;have f0:=(a1.blk a7 (by simp[z0v])).2;refine z0b (z2u (cs:=[_,_,_,_]) 20 h (z0a U (z0a U (z0a U (z0a U z0g)))) u7i (z0f U (z0f U (z0f U (z0f U z0q)))) U U λa h=>z0d 21 U ?_);refine z0u h j0t U λp0 Z b7 hz a h=>?_;obtain⟨b1,hg⟩:∃g,g=l6.heap.size:=⟨_,rfl⟩;rw[<-hg]at Z h hz;have h7.gk_8:ka.gk<b1:=by have:=D.lt;omega
 have s4:=b7.size;replace D:=D.ext b7;replace ho:=ho.ext (e1.n1 b7);replace a0:=a0.ext (e1.n1 b7);replace hH:=hH.ext (e1.n1 b7);replace a1:=a1.ext b7;replace hC:=hC.next b7;refine z0b (z0d 22 U (z0p h U Z U u8t λl7 a5 b8 hz a h=>?_));have s5:=b8.size;replace D:=D.fr b8;replace ho:=ho.fr b8 (by intro k D I;simp at D;subst D;have:=g1 _ I;omega);replace a0:=a0.fr b8 (by intro k D I;simp[z0v]at D I;omega);replace hH:=hH.fr b8 (by intro k D I;simp[z0v]at D I;omega);replace a1:=a1.fr b8 (by intro k D I;simp[z0v]at D I;omega);replace hC:=hC.sp b8;clear Z hz;have Z:Blk l7 b1 _ [_,_,_,_]:=a5;clear a5;refine z0b (z0r ?_);clear hC b6 M f5;refine bk (h.sub (L':=[(0,_),(2,_),(8,_)]) (.c3 U U U)) (tn (sq ?_));replace O:=(O.ext (b0.n4 b5 q18 e1 b7)).fr b8;intro a h;refine z0h none (λwb w'=>Fr [g2] wb w') z2o ?_;intro j3 e2;have s6:=e2.size;replace D:=D.ext e2;replace O:=O.ext e2;replace Z:=Z.ext e2;have hC:Fr [g2] j3 j3:=Fr.refl _ _;have M:=D;have a8:=O;have a4:=Z;refine z0e 0 h U λa h=>z0o 1 h U λa h=>z0c 2 h U z3r U λa h=>z0l 3 h U (λ_ hw=>M.fr hw se) U na3 U λa h=>z0e 4 h U λa h=>z0o 5 h U λa h=>z0c 6 h U z3f U λa h=>z1f (vs:=[_,_]) 7 h U (λ_ hw=>(M.fr hw se)) z4x U U λa h=>z0e 8 h U λa h=>z0o 9 h U λa h=>z0c 10 h U z3g U λa h=>?_;refine z0l 11 h U (λ_ hw=>M.fr hw se) U y3i U λa h=>z0w 12 h U (λ_ hw=>a4.fr hw se) u0h U λa h=>z2u (cs:=[_,_,_,_,_,_,_,_]) 13 h (z0a U (z0a U (z0a U (z0a U z0g)))) x4l (z0f U (z0f U (z0f U (z0f U z0q)))) U U λa h=>z0d 14 U ?_;refine z0p h U O U y1n λj4 a5 b9 hz a h=>?_;have s7:=b9.size;replace D:=D.fr b9;replace Z:=Z.fr b9;replace hC:=hC.sp b9;clear O hz;have O:Blk j4 g2 _ [_,_,_,_,_,_,_,_]:=a5;clear a5;refine z0b (z0r ?_);clear hC M a8 a4;refine bk (h.sub (L':=[(2,_)]) (.cons U .nil)) (tn (rt (rC results29 U O y1l  ?_)));replace a0:=(a0.ext e2).fr b9 (by intro k D I;simp[z0v]at D I;omega);replace hH:=(hH.ext e2).fr b9 (by intro k D I;simp[z0v]at D I;omega);replace a1:=(a1.ext e2).fr b9 (by intro k D I;simp[z0v]at D I;omega);have b2:=(b0.z6 b5 q18 e1 b7 b8 e2);have b3:Fr [] _ j4:=(Fr.refl _ _);have b4:=a3.ext b2;have hW:=(b4.toW.off (f4.ext b2) dd b9).ext b3;have e9:=(b4.fr.fr.step b9 so).next b3;have f2:z2g ts=z2g m.ts:=y4e (g7.trans f6.symm) (λj _=>by rw[e0 j]);exact⟨_,rfl,⟨m.rk,m.q,(some ⟨ka.gy,0,none⟩,6,ka.cy),m.ys,⟨(some ⟨ka.gt,0,none⟩,6,ka.ct),(some ⟨e8,0,none⟩,_,_),(some ⟨a9,0,none⟩,_,_),(some ⟨a7,0,none⟩,_,_),ts,y2t a6,_,y1g m.fl⟩⟩,rfl,⟨hW.b,hW.y,hW.t,a0.low oo,hH.low oo,a1.low oo,(λk D=>by
  have h5:k=a9:=by simpa[z0v,slv] using D
  refine⟨λq hq I=>?_,λt ht l hl I=>?_,λI=>?_⟩;rcases List.mem_append.1 hq with hq|hq
  have:=((a3.b.f.2 q hq).blk _ I).2;omega;have:=((a3.b.b.2 q hq).blk _ I).2;omega;obtain⟨i,hi,rfl⟩:=List.getElem_of_mem ht;have e:ts.getD i tq0=ts[i]:=by rw[List.getD,List.getElem?_eq_getElem hi];rfl
  rw[<-e]at hl;have:=((a3.t.lps i hi l hl).1.blk _ I).2;omega;have:k=a7:=by simpa[z0v,slv] using I
  omega)⟩,by show (⟨m.rk,m.q.p,m.ys.map YQ.p,⟨z2g ts,y2t a6,(z2t m.q.p m.rk).map Hd.id,y1g m.fl⟩⟩:St)=_;rw[f2,g6];rfl,e9⟩
 refine z0u h j0t U λp1 Z c0 hz a h=>?_;obtain⟨b1,hg⟩:∃g,g=l5.heap.size:=⟨_,rfl⟩;rw[<-hg]at Z h hz;have h7.gk_8:ka.gk<b1:=by have:=D.lt;omega
 have s8:=c0.size;replace hM:=hM.ext c0;replace hC:=hC.next c0;refine z0b (z0d 19 U (z0n h (z0a U z0g) y9v (z3v _ (y1g m.fl) _ hM.f.sl (by rw[(z4c _).length_eq];omega)) ?_));rintro _ p2 ⟨a7,rfl,f7,a1,c9⟩ a h;have s9:=c9.size;replace D:=D.ext (c0.n1 c9);replace ho:=ho.ext (c0.n1 c9);replace a0:=a0.ext (c0.n1 c9);replace hH:=hH.ext (c0.n1 c9);replace Z:=Z.ext c9;replace hC:=hC.next c9;have f0:=(a1.blk a7 (by simp[z0v])).2;refine z0b (z2u (cs:=[_,_,_,_]) 20 h (z0a U (z0a U (z0a U (z0a U z0g)))) u7i (z0f U (z0f U (z0f U (z0f U z0q)))) U U λa h=>z0d 22 U ?_);refine z0p h U Z U u8t λl8 a5 d0 hz a h=>?_;have t8:=d0.size;replace D:=D.fr d0;replace ho:=ho.fr d0 (by intro k D I;simp at D;subst D;have:=g1 _ I;omega);replace a0:=a0.fr d0 (by intro k D I;simp[z0v]at D I;omega);replace hH:=hH.fr d0 (by intro k D I;simp[z0v]at D I;omega);replace a1:=a1.fr d0 (by intro k D I;simp[z0v]at D I;omega);replace hC:=hC.sp d0;clear Z hz;have Z:Blk l8 b1 _ [_,_,_,_]:=a5;clear a5;refine z0b (z0r ?_);clear hC b6 M f5;refine bk (h.sub (L':=[(0,_),(2,_),(8,_)]) (.c3 U U U)) (tn (sq ?_));replace O:=(O.ext (b0.n4 b5 q18 c0 c9)).fr d0;intro a h;refine z0h none (λwb w'=>Fr [g2] wb w') z2o ?_;intro j5 e3;have t9:=e3.size;replace D:=D.ext e3;replace O:=O.ext e3;replace Z:=Z.ext e3;have hC:Fr [g2] j5 j5:=Fr.refl _ _;have M:=D;have a8:=O;have a4:=Z;refine z0e 0 h U λa h=>z0o 1 h U λa h=>z0c 2 h U z3r U λa h=>z0l 3 h U (λ_ hw=>M.fr hw se) U na3 U λa h=>z0e 4 h U λa h=>z0o 5 h U λa h=>z0c 6 h U z3f U λa h=>z1f (vs:=[_,_]) 7 h U (λ_ hw=>(M.fr hw se)) z4x U U λa h=>z0e 8 h U λa h=>z0o 9 h U λa h=>z0c 10 h U z3g U λa h=>?_;refine z0l 11 h U (λ_ hw=>M.fr hw se) U y3i U λa h=>z0w 12 h U (λ_ hw=>a4.fr hw se) u0h U λa h=>z2u (cs:=[_,_,_,_,_,_,_,_]) 13 h (z0a U (z0a U (z0a U (z0a U z0g)))) x4l (z0f U (z0f U (z0f U (z0f U z0q)))) U U λa h=>z0d 14 U ?_;refine z0p h U O U y1n λj6 a5 d1 hz a h=>?_;have u0:=d1.size;replace D:=D.fr d1;replace Z:=Z.fr d1;replace hC:=hC.sp d1;clear O hz;have O:Blk j6 g2 _ [_,_,_,_,_,_,_,_]:=a5;clear a5;refine z0b (z0r ?_);clear hC M a8 a4;refine bk (h.sub (L':=[(2,_)]) (.cons U .nil)) (tn (rt (rC results29 U O y1l  ?_)));replace a0:=(a0.ext e3).fr d1 (by intro k D I;simp[z0v]at D I;omega);replace hH:=(hH.ext e3).fr d1 (by intro k D I;simp[z0v]at D I;omega);replace a1:=(a1.ext e3).fr d1 (by intro k D I;simp[z0v]at D I;omega);have b2:=(b0.z6 b5 q18 c0 c9 d0 e3);have b3:Fr [] _ j6:=(Fr.refl _ _);have b4:=a3.ext b2;have hW:=(b4.toW.off (f4.ext b2) dd d1).ext b3;have e9:=(b4.fr.fr.step d1 so).next b3;have f2:z2g ts=z2g m.ts:=y4e (g7.trans f6.symm) (λj _=>by rw[e0 j]);exact⟨_,rfl,⟨m.rk,m.q,(some ⟨ka.gy,0,none⟩,6,ka.cy),m.ys,⟨(some ⟨ka.gt,0,none⟩,6,ka.ct),(some ⟨e8,0,none⟩,_,_),(some ⟨a9,0,none⟩,_,_),(some ⟨a7,0,none⟩,_,_),ts,y2t a6,_,y1g m.fl⟩⟩,rfl,⟨hW.b,hW.y,hW.t,a0.low oo,hH.low oo,a1.low oo,(λk D=>by
  have h5:k=a9:=by simpa[z0v,slv] using D
  refine⟨λq hq I=>?_,λt ht l hl I=>?_,λI=>?_⟩;rcases List.mem_append.1 hq with hq|hq
  have:=((a3.b.f.2 q hq).blk _ I).2;omega;have:=((a3.b.b.2 q hq).blk _ I).2;omega;obtain⟨i,hi,rfl⟩:=List.getElem_of_mem ht;have e:ts.getD i tq0=ts[i]:=by rw[List.getD,List.getElem?_eq_getElem hi];rfl
  rw[<-e]at hl;have:=((a3.t.lps i hi l hl).1.blk _ I).2;omega;have:k=a7:=by simpa[z0v,slv] using I
  omega)⟩,by show (⟨m.rk,m.q.p,m.ys.map YQ.p,⟨z2g ts,y2t a6,(z2t m.q.p m.rk).map Hd.id,y1g m.fl⟩⟩:St)=_;rw[f2,g6];rfl,e9⟩
 refine z0u h j0t U λp3 Z e4 hz a h=>?_;obtain⟨b1,hg⟩:∃g,g=l4.heap.size:=⟨_,rfl⟩;rw[<-hg]at Z h hz;have h7.gk_8:ka.gk<b1:=by have:=D.lt;omega
 have u1:=e4.size;replace hM:=hM.ext e4;replace hC:=hC.next e4;refine z0b (z0d 14 U (z0n h (z0a U (z0a U z0g)) (mkC func54) (y3j m.q m.rk _ hM.b.at hi.B hi.rk) ?_));rintro _ p4 ⟨⟨a9,j1,h3,rfl,h1,hH⟩,q30⟩ a h;have u2:=q30.size;replace hM:=hM.ext q30;replace hC:=hC.next q30;have h2:=(hH.blk a9 (by simp[z0v])).2;refine z0b (z0d 19 U (z0n h (z0a U z0g) y9v (z3v _ (y1g m.fl) _ hM.f.sl (by rw[(z4c _).length_eq];omega)) ?_));rintro _ p5 ⟨a7,rfl,f7,a1,d3⟩ a h;have u3:=d3.size;replace D:=D.ext (e4.n2 q30 d3);replace ho:=ho.ext (e4.n2 q30 d3);replace a0:=a0.ext (e4.n2 q30 d3);replace Z:=Z.ext (q30.n1 d3);replace hH:=hH.ext d3;replace hC:=hC.next d3;have f0:=(a1.blk a7 (by simp[z0v])).2;refine z0b (z2u (cs:=[_,_,_,_]) 20 h (z0a U (z0a U (z0a U (z0a U z0g)))) u7i (z0f U (z0f U (z0f U (z0f U z0q)))) U U λa h=>z0d 22 U ?_);refine z0p h U Z U u8t λl9 a5 d4 hz a h=>?_;have u4:=d4.size;replace D:=D.fr d4;replace ho:=ho.fr d4 (by intro k D I;simp at D;subst D;have:=g1 _ I;omega);replace a0:=a0.fr d4 (by intro k D I;simp[z0v]at D I;omega);replace hH:=hH.fr d4 (by intro k D I;simp[z0v]at D I;omega);replace a1:=a1.fr d4 (by intro k D I;simp[z0v]at D I;omega);replace hC:=hC.sp d4;clear Z hz;have Z:Blk l9 b1 _ [_,_,_,_]:=a5;clear a5;refine z0b (z0r ?_);clear hC b6 M f5;refine bk (h.sub (L':=[(0,_),(2,_),(8,_)]) (.c3 U U U)) (tn (sq ?_));replace O:=(O.ext (b0.n4 b5 e4 q30 d3)).fr d4;intro a h;refine z0h none (λwb w'=>Fr [g2] wb w') z2o ?_;intro j7 e5;have u5:=e5.size;replace D:=D.ext e5;replace O:=O.ext e5;replace Z:=Z.ext e5;have hC:Fr [g2] j7 j7:=Fr.refl _ _;have M:=D;have a8:=O;have a4:=Z;refine z0e 0 h U λa h=>z0o 1 h U λa h=>z0c 2 h U z3r U λa h=>z0l 3 h U (λ_ hw=>M.fr hw se) U na3 U λa h=>z0e 4 h U λa h=>z0o 5 h U λa h=>z0c 6 h U z3f U λa h=>z1f (vs:=[_,_]) 7 h U (λ_ hw=>(M.fr hw se)) z4x U U λa h=>z0e 8 h U λa h=>z0o 9 h U λa h=>z0c 10 h U z3g U λa h=>?_;refine z0l 11 h U (λ_ hw=>M.fr hw se) U y3i U λa h=>z0w 12 h U (λ_ hw=>a4.fr hw se) u0h U λa h=>z2u (cs:=[_,_,_,_,_,_,_,_]) 13 h (z0a U (z0a U (z0a U (z0a U z0g)))) x4l (z0f U (z0f U (z0f U (z0f U z0q)))) U U λa h=>z0d 14 U ?_;refine z0p h U O U y1n λj8 a5 d5 hz a h=>?_;have u6:=d5.size;replace D:=D.fr d5;replace Z:=Z.fr d5;replace hC:=hC.sp d5;clear O hz;have O:Blk j8 g2 _ [_,_,_,_,_,_,_,_]:=a5;clear a5;refine z0b (z0r ?_);clear hC M a8 a4;refine bk (h.sub (L':=[(2,_)]) (.cons U .nil)) (tn (rt (rC results29 U O y1l  ?_)));replace a0:=(a0.ext e5).fr d5 (by intro k D I;simp[z0v]at D I;omega);replace hH:=(hH.ext e5).fr d5 (by intro k D I;simp[z0v]at D I;omega);replace a1:=(a1.ext e5).fr d5 (by intro k D I;simp[z0v]at D I;omega);have b2:=(b0.z6 b5 e4 q30 d3 d4 e5);have b3:Fr [] _ j8:=(Fr.refl _ _);have b4:=a3.ext b2;have hW:=(b4.toW.off (f4.ext b2) dd d5).ext b3;have e9:=(b4.fr.fr.step d5 so).next b3;have f2:z2g ts=z2g m.ts:=y4e (g7.trans f6.symm) (λj _=>by rw[e0 j]);exact⟨_,rfl,⟨m.rk,m.q,(some ⟨ka.gy,0,none⟩,6,ka.cy),m.ys,⟨(some ⟨ka.gt,0,none⟩,6,ka.ct),(some ⟨e8,0,none⟩,_,_),(some ⟨a9,0,none⟩,_,_),(some ⟨a7,0,none⟩,_,_),ts,y2t a6,_,y1g m.fl⟩⟩,rfl,⟨hW.b,hW.y,hW.t,a0.low oo,hH.low oo,a1.low oo,(λk D=>by
  have h5:k=a9:=by simpa[z0v,slv] using D
  refine⟨λq hq I=>?_,λt ht l hl I=>?_,λI=>?_⟩;rcases List.mem_append.1 hq with hq|hq
  have:=((a3.b.f.2 q hq).blk _ I).2;omega;have:=((a3.b.b.2 q hq).blk _ I).2;omega;obtain⟨i,hi,rfl⟩:=List.getElem_of_mem ht;have e:ts.getD i tq0=ts[i]:=by rw[List.getD,List.getElem?_eq_getElem hi];rfl
  rw[<-e]at hl;have:=((a3.t.lps i hi l hl).1.blk _ I).2;omega;have:k=a7:=by simpa[z0v,slv] using I
  omega)⟩,by show (⟨m.rk,m.q.p,m.ys.map YQ.p,⟨z2g ts,y2t a6,(z2t m.q.p m.rk).map Hd.id,y1g m.fl⟩⟩:St)=_;rw[f2,g6];rfl,e9⟩
 refine z0u h j0t U λp6 Z f3 hz a h=>?_;obtain⟨b1,hg⟩:∃g,g=i0.heap.size:=⟨_,rfl⟩;rw[<-hg]at Z h hz;have h7.gk_8:ka.gk<b1:=by have:=D.lt;omega
 have u7:=f3.size;replace ho:=ho.ext f3;replace hC:=hC.next f3;refine z0b (z0d 5 U (z0n h (z0a U z0g) (mkC func79) (v3b _ (y2t a6) _ ho.sl (by rw[(z3s a6).length_eq];omega)) ?_));rintro _ p7 ⟨e8,rfl,i5,a0,e6⟩ a h;have u9:=e6.size;replace hM:=hM.ext (f3.n1 e6);replace hC:=hC.next e6;have h6:=(a0.blk e8 (by simp[z0v])).2;refine z0b (z0d 14 U (z0n h (z0a U (z0a U z0g)) (mkC func54) (y3j m.q m.rk _ hM.b.at hi.B hi.rk) ?_));rintro _ p8 ⟨⟨a9,j1,h3,rfl,h1,hH⟩,q37⟩ a h;have v8:=q37.size;replace hM:=hM.ext q37;replace hC:=hC.next q37;have h2:=(hH.blk a9 (by simp[z0v])).2;refine z0b (z0d 19 U (z0n h (z0a U z0g) y9v (z3v _ (y1g m.fl) _ hM.f.sl (by rw[(z4c _).length_eq];omega)) ?_));rintro _ p9 ⟨a7,rfl,f7,a1,d6⟩ a h;have v9:=d6.size;replace D:=D.ext (f3.n3 e6 q37 d6);replace ho:=ho.ext (e6.n2 q37 d6);replace Z:=Z.ext (e6.n2 q37 d6);replace a0:=a0.ext (q37.n1 d6);replace hH:=hH.ext d6;replace hC:=hC.next d6;have f0:=(a1.blk a7 (by simp[z0v])).2;refine z0b (z2u (cs:=[_,_,_,_]) 20 h (z0a U (z0a U (z0a U (z0a U z0g)))) u7i (z0f U (z0f U (z0f U (z0f U z0q)))) U U λa h=>z0d 22 U ?_);refine z0p h U Z U u8t λm0 a5 d7 hz a h=>?_;have x0:=d7.size;replace D:=D.fr d7;replace ho:=ho.fr d7 (by intro k D I;simp at D;subst D;have:=g1 _ I;omega);replace a0:=a0.fr d7 (by intro k D I;simp[z0v]at D I;omega);replace hH:=hH.fr d7 (by intro k D I;simp[z0v]at D I;omega);replace a1:=a1.fr d7 (by intro k D I;simp[z0v]at D I;omega);replace hC:=hC.sp d7;clear Z hz;have Z:Blk m0 b1 _ [_,_,_,_]:=a5;clear a5;refine z0b (z0r ?_);clear hC b6 M f5;refine bk (h.sub (L':=[(0,_),(2,_),(8,_)]) (.c3 U U U)) (tn (sq ?_));replace O:=(O.ext (b0.n4 f3 e6 q37 d6)).fr d7;intro a h;refine z0h none (λwb w'=>Fr [g2] wb w') z2o ?_;intro j9 e7;have x1:=e7.size;replace D:=D.ext e7;replace O:=O.ext e7;replace Z:=Z.ext e7;have hC:Fr [g2] j9 j9:=Fr.refl _ _;have M:=D;have a8:=O;have a4:=Z;refine z0e 0 h U λa h=>z0o 1 h U λa h=>z0c 2 h U z3r U λa h=>z0l 3 h U (λ_ hw=>M.fr hw se) U na3 U λa h=>z0e 4 h U λa h=>z0o 5 h U λa h=>z0c 6 h U z3f U λa h=>z1f (vs:=[_,_]) 7 h U (λ_ hw=>(M.fr hw se)) z4x U U λa h=>z0e 8 h U λa h=>z0o 9 h U λa h=>z0c 10 h U z3g U λa h=>?_;refine z0l 11 h U (λ_ hw=>M.fr hw se) U y3i U λa h=>z0w 12 h U (λ_ hw=>a4.fr hw se) u0h U λa h=>z2u (cs:=[_,_,_,_,_,_,_,_]) 13 h (z0a U (z0a U (z0a U (z0a U z0g)))) x4l (z0f U (z0f U (z0f U (z0f U z0q)))) U U λa h=>z0d 14 U ?_;refine z0p h U O U y1n λk0 a5 d9 hz a h=>?_;have x2:=d9.size;replace D:=D.fr d9;replace Z:=Z.fr d9;replace hC:=hC.sp d9;clear O hz;have O:Blk k0 g2 _ [_,_,_,_,_,_,_,_]:=a5;clear a5;refine z0b (z0r ?_);clear hC M a8 a4;refine bk (h.sub (L':=[(2,_)]) (.cons U .nil)) (tn (rt (rC results29 U O y1l  ?_)));replace a0:=(a0.ext e7).fr d9 (by intro k D I;simp[z0v]at D I;omega);replace hH:=(hH.ext e7).fr d9 (by intro k D I;simp[z0v]at D I;omega);replace a1:=(a1.ext e7).fr d9 (by intro k D I;simp[z0v]at D I;omega);have b2:=(b0.z6 f3 e6 q37 d6 d7 e7);have b3:Fr [] _ k0:=(Fr.refl _ _);have b4:=a3.ext b2;have hW:=(b4.toW.off (f4.ext b2) dd d9).ext b3;have e9:=(b4.fr.fr.step d9 so).next b3;have f2:z2g ts=z2g m.ts:=y4e (g7.trans f6.symm) (λj _=>by rw[e0 j]);exact⟨_,rfl,⟨m.rk,m.q,(some ⟨ka.gy,0,none⟩,6,ka.cy),m.ys,⟨(some ⟨ka.gt,0,none⟩,6,ka.ct),(some ⟨e8,0,none⟩,_,_),(some ⟨a9,0,none⟩,_,_),(some ⟨a7,0,none⟩,_,_),ts,y2t a6,_,y1g m.fl⟩⟩,rfl,⟨hW.b,hW.y,hW.t,a0.low oo,hH.low oo,a1.low oo,(λk D=>by
  have h5:k=a9:=by simpa[z0v,slv] using D
  refine⟨λq hq I=>?_,λt ht l hl I=>?_,λI=>?_⟩;rcases List.mem_append.1 hq with hq|hq
  have:=((a3.b.f.2 q hq).blk _ I).2;omega;have:=((a3.b.b.2 q hq).blk _ I).2;omega;obtain⟨i,hi,rfl⟩:=List.getElem_of_mem ht;have e:ts.getD i tq0=ts[i]:=by rw[List.getD,List.getElem?_eq_getElem hi];rfl
  rw[<-e]at hl;have:=((a3.t.lps i hi l hl).1.blk _ I).2;omega;have:k=a7:=by simpa[z0v,slv] using I
  omega)⟩,by show (⟨m.rk,m.q.p,m.ys.map YQ.p,⟨z2g ts,y2t a6,(z2t m.q.p m.rk).map Hd.id,y1g m.fl⟩⟩:St)=_;rw[f2,g6];rfl,e9⟩
theorem v1a (w0:World):Rets prog 80 #[] w0 λr w'=>(∃g,r=(.slice (some ⟨g,0,none⟩) 6 6)/\w0.heap.size<=g/\Lw.Own z3z 123 w0.heap.size w' (.slice (some ⟨g,0,none⟩) 6 6) (List.replicate 6 tq0))/\Fr [] w0 w':=by
 exact we [] func80 U ntmps80 U .nil (sr (asg U (nn (sr (z1h (m:=6) (c:=6) (tq0) U y9c j0w U (λD w1 I M O z1=>(asg U (nn (rt (r1 results80 U ⟨_,rfl,⟨D,rfl,oo,M.low oo⟩,O⟩))))))))))
theorem x1m (w0:World):Rets prog 30 #[] w0 λr w'=>(∃g,r=.agg #[(.slice (some ⟨g,0,none⟩) 6 6),.slice none 0 0,.slice none 0 0,.slice none 0 0]/\w0.heap.size<=g/\Lw.Own z3z 123 w0.heap.size w' (.slice (some ⟨g,0,none⟩) 6 6) (List.replicate 6 tq0))/\Fr [] w0 w':=by
 refine we [] func30 U ntmps30 U .nil (sr (al j0t U (λg0 w1 a0 D q1 z1=>(nn (sr (cl z0g (mkC func80) (v1a _) U ?_))))));rintro _ w2 ⟨⟨O,rfl,a1,I⟩,q2⟩;refine z1s (cs:=[_,_,_,_]) (ev1 U) u7i (z0f U z0q) U ?_;replace D:=D.ext q2;refine z0j U D u8t (λw3 D M z3=>?_) (hl:=rfl);refine nn (rt (rC results30 U D u0h  ?_));replace I:=I.fr M (by intro k hk Z;simp[z0v]at hk Z;omega);exact⟨_,rfl,⟨O,rfl,oo,I.low oo⟩,(q1.z2 q2 M)⟩
abbrev st0 (gy gt:Nat):StQ:=(⟨0,⟨sv0,sv0,[],[]⟩,(some ⟨gy,0,none⟩,6,6),List.replicate 6 yq0,⟨(some ⟨gt,0,none⟩,6,6),sv0,sv0,sv0,List.replicate 6 tq0,[],[],[]⟩⟩:StQ)
theorem u8j {w:World}{M I b:Nat}(hy:Lw.Own z2x 104 b w (.slice (some ⟨M,0,none⟩) 6 6) (List.replicate 6 yq0))(ht:Lw.Own z3z 123 b w (.slice (some ⟨I,0,none⟩) 6 6) (List.replicate 6 tq0)):StO τd 147 b w (st0 M I):=by
 have ey:∀i,(st0 M I).ys.getD i yq0=yq0:=λi=>by
  show (List.replicate 6 yq0).getD i yq0=yq0;rw[List.getD,List.getElem?_replicate];split<;>rfl
 have Z:∀i,(st0 M I).fb.ts.getD i tq0=tq0:=λi=>by
  show (List.replicate 6 tq0).getD i tq0=tq0;rw[List.getD,List.getElem?_replicate];split<;>rfl
 refine⟨⟨⟨Own.nil w,λq D=>(by cases D)⟩,⟨Own.nil w,λq D=>(by cases D)⟩⟩,⟨hy,λi _=>?_⟩,⟨ht,λi _=>?_,λi j _ _ _ k O=>?_,λi _ q D=>?_⟩,Own.nil w,Own.nil w,Own.nil w,λk O=>(by cases O)⟩;rw[ey i];exact Own.nil w;rw[Z i];exact Own.nil w;rw[Z i]at O;cases O;rw[Z i]at D;cases D
theorem j3j (O M:Nat):(st0 O M).p=G08.stM G08.start:=by
 have D:y2t []=[]:=by unfold y2t;simp
 have I:y1g []=[]:=by unfold y1g;simp
 show _=(⟨0,⟨[],[]⟩,List.replicate 6 yn0,⟨List.replicate 6 [],y2t [],(z2t ⟨[],[]⟩ 0).map Hd.id,y1g []⟩⟩:St);rw[D,I];rfl
theorem y7a (w0:World):Rets prog 8 #[] w0 λr w'=>(∃M I,r=.agg #[.int .i64 (st0 M I).rk,.slice (st0 M I).q.f.1 (st0 M I).q.f.2.1 (st0 M I).q.f.2.2,.slice (st0 M I).q.b.1 (st0 M I).q.b.2.1 (st0 M I).q.b.2.2,.slice (st0 M I).yv.1 (st0 M I).yv.2.1 (st0 M I).yv.2.2,.slice (st0 M I).fb.t.1 (st0 M I).fb.t.2.1 (st0 M I).fb.t.2.2,.slice (st0 M I).fb.c.1 (st0 M I).fb.c.2.1 (st0 M I).fb.c.2.2,.slice (st0 M I).fb.h.1 (st0 M I).fb.h.2.1 (st0 M I).fb.h.2.2,.slice (st0 M I).fb.f.1 (st0 M I).fb.f.2.1 (st0 M I).fb.f.2.2]/\StO τd 147 w0.heap.size w' (st0 M I))/\Fr [] w0 w':=by
 refine we [] func8 U ntmps8 U .nil (sr (al y9i U (λg0 w1 a4 D q1 z1=>(nn (sq ?_)))));intro a h;refine z0h none (λwb w'=>Fr [g0] wb w') z2o ?_;intro w2 q2;have z2:=q2.size;replace D:=D.ext q2;have hC:Fr [g0] w2 w2:=Fr.refl _ _;have O:=D;refine z1u 0 1 kr U ?_ ?_;refine z8k (m:=6) (c:=6) (yq0) h U U y3o z5m U oo oo U λg1 w3 a0 hy q3 _hz a h=>?_;have z3:=q3.size;replace hC:=hC.next q3;have a3:=(hy.blk g1 (by simp[z0v])).2;refine z0b (z0d 1 U (z0n h z0g (mkC func30) (x1m _) ?_));rintro _ w4 ⟨⟨g2,rfl,a1,ho⟩,q4⟩ a h;have z4:=q4.size;replace D:=D.ext (q3.n1 q4);replace hy:=hy.ext q4;replace hC:=hC.next q4;have a2:=(ho.blk g2 (by simp[z0v])).2;refine z0b (z2u (cs:=[_,_,_,_,_,_,_,_]) 2 h (z0a U (z0a U z0g)) x4l (z0f U (z0f U z0q)) U U λa h=>z0d 3 U ?_);refine z0p h U D U y1n λw5 Z q5 hz a h=>?_;have z5:=q5.size;replace hy:=hy.fr q5 (by intro k hk hb;simp[z0v]at hk hb;omega);replace ho:=ho.fr q5 (by intro k hk hb;simp[z0v]at hk hb;omega);replace hC:=hC.sp q5;clear D hz;have D:Blk w5 g0 _ [_,_,_,_,_,_,_,_]:=Z;clear Z;refine z0b (z0r ?_);clear hC O;exact bk (h.sub (L':=[(0,_)]) (.cons U .nil)) (tn (rt (rC results8 U D y1l  ⟨_,rfl,⟨g1,g2,rfl,u8j (hy.low oo) (ho.low oo)⟩,(q1.z4 q2 q3 q4 q5)⟩)));refine z0n h z0g (mkC func30) (x1m _) ?_;rintro _ w6 ⟨⟨g2,rfl,a1,ho⟩,q6⟩ a h;have z6:=q6.size;replace hC:=hC.next q6;have a2:=(ho.blk g2 (by simp[z0v])).2;refine z0b (z0d 0 U (z8k (m:=6) (c:=6) (yq0) h U U y3o z5m U oo oo U λg1 w7 a0 hy q7 _hz a h=>?_));have z7:=q7.size;replace D:=D.ext (q6.n1 q7);replace ho:=ho.ext q7;replace hC:=hC.next q7;have a3:=(hy.blk g1 (by simp[z0v])).2;refine z0b (z2u (cs:=[_,_,_,_,_,_,_,_]) 2 h (z0a U (z0a U z0g)) x4l (z0f U (z0f U z0q)) U U λa h=>z0d 3 U ?_);refine z0p h U D U y1n λw8 Z q8 hz a h=>?_;have z8:=q8.size;replace ho:=ho.fr q8 (by intro k hk hb;simp[z0v]at hk hb;omega);replace hy:=hy.fr q8 (by intro k hk hb;simp[z0v]at hk hb;omega);replace hC:=hC.sp q8;clear D hz;have D:Blk w8 g0 _ [_,_,_,_,_,_,_,_]:=Z;clear Z;refine z0b (z0r ?_);clear hC O;exact bk (h.sub (L':=[(0,_)]) (.cons U .nil)) (tn (rt (rC results8 U D y1l  ⟨_,rfl,⟨g1,g2,rfl,u8j (hy.low oo) (ho.low oo)⟩,(q1.z4 q2 q6 q7 q8)⟩)))
theorem x3n {α:Type}{D I:List α}(d:α)(hl:D.length=I.length)(h:∀j,j<D.length->D.getD j d=I.getD j d):D=I:=by
 refine List.ext_getElem hl λj M O=>?_;have:=h j M;rwa [List.getD,List.getD,List.getElem?_eq_getElem M,List.getElem?_eq_getElem O]at this
theorem u5t (v1 v2:Value)(O l2:List LId)(w0:World)(h1:Sl z1b w0 v1 O)(Z:Sl z1b w0 v2 l2)(hl:O.length<=100000):Rets prog 53 #[v1,v2] w0 λr w'=>r=.bool (decide (O=l2))/\Fr [] w0 w':=by
 obtain⟨A1,k1,rfl,a6⟩:=id h1.form;obtain⟨A2,k2,rfl,a7⟩:=id Z.form;refine we [(0,.slice A1 O.length k1),(1,.slice A2 l2.length k2)] func53 U ntmps53 U (.c2 U U) ?_;have a2:=h1;have a3:=Z;refine sr (asg U (nn (sq (sr (mv U (lnS U underlying30 (mv U (lnS U underlying30 (ne' U (nn (cd U (λc0=>?_) (λc0=>?_))))))))))));refine sr (asg U (nn (rt (tr (r1 results53 U ?_)))));exact⟨_,rfl,congrArg Value.bool (decide_eq_false (λe=>c0 (by rw[e]))).symm,(Fr.refl _ _)⟩;refine sk (tn (sq (sr (mv U (lnS U underlying30 (mv U (nn (bl (lpK (ι:=Nat) [(0,_),(1,_),(12,_)] (λi=>[(13,.int .i64 (i:Int))]) (λi w'=>Fr [] w0 w'/\i<=O.length/\∀j,j<i->O.getD j id0=l2.getD j id0) (λi=>O.length-i) 0 (.c4 U U U U) ⟨Fr.refl _ _,⟨Nat.zero_le _,λj h=>absurd h oo⟩⟩ ?_)))))))));rintro i w1 ⟨q1,⟨hi,hz⟩⟩;refine kpC [(0,_),(1,_),(12,_),(13,_)] (.c4 U U U U) (sr (lt' U (nn (sq (cd U (λc1=>?_) (λc1=>?_))))));refine sk (tn (sq (bl (sr (mv U (asg U (nn (sq ?_))))))));replace h1:=a2.ext q1;replace Z:=a3.ext q1;intro a h;have D:=Fr.refl [] w1;refine z2z (λwb w'=>Fr [] wb w') z2o ?_;intro w2 hq;replace h1:=h1.ext hq;replace Z:=Z.ext hq;replace D:=D.next hq;have a8:=hq.size;clear hq;have hC:Fr [] w2 w2:=Fr.refl _ _;have I:=h1;have M:=Z;refine z0e 0 h U λa h=>z0e 1 h U λa h=>z1e (id0) 2 h U h1 U z3x U ?_ (hp:=rfl);clear h a;intro a4 a0 a h;refine z1x 3 h wn U (λ_ hw=>a0 _ (I.ext hw)) z2q U λa h=>z0e 4 h U λa h=>z0e 5 h U λa h=>z1e (id0) 6 h U Z U z3x U ?_ (hp:=rfl);clear h a;intro a5 a1 a h;refine z1x 7 h wn U (λ_ hw=>a1 _ (M.ext hw)) z2q U λa h=>u0v (V:=idV) (e:=_) (f:=_) 8 hC h wn U U j1s U U λa h=>z0r ?_;clear hC I M;refine bk (h.sub (L':=[(0,_),(1,_),(12,_),(13,_),(24,_)]) (.c5 U U U U U)) (tn (cd U (λc2=>?_) (λc2=>?_)));refine sr (asg U (nn (rt (rb (tr (tr (rb (tr (r1 results53 U ?_)))))))));exact⟨_,rfl,congrArg Value.bool (decide_eq_false (λe=>c2 (by rw[e]))).symm,(q1.n1 D)⟩;refine sk (bn' (tn (rg (z0x U (wi6 oo) (mv U (nl ?_))))));exact lpE (i+1) (.c4 U U U U) ⟨(q1.n1 D),⟨oo,λj h=>by
  by_cases e:j=i;subst e;exact Classical.not_not.1 c2;exact hz j oo⟩⟩ oo
 obtain rfl:i=O.length:=by omega
 refine ex (te (te (xh (tn (sr (asg U (nn (rt (r1 results53 U ?_)))))))));exact⟨_,rfl,congrArg Value.bool (decide_eq_true (x3n id0 oo (λj hj=>hz j oo))).symm,q1⟩
open Go.Lw Go.G21 Go.G08 _root_.Go.Proofs.Tryz
open Classical in
noncomputable def x8f (s:StQ)(eb ef:Int):Int:=if ¬(-4<=s.rk/\s.rk<=4) then 11 else if eb≠0 then eb else if s.ys.length≠6 then 5 else if ∃i,i<6/\¬y2m (s.ys.getD i yq0).p then 1 else if ef≠0 then ef else if s.fb.hs≠(z2t s.q.p s.rk).map Hd.id then 6 else if ∃i,i<6/\(s.ys.getD i yq0).ct≠((s.fb.ts.getD i tq0).2.length:Int) then 6 else 0
theorem x5r (s:StQ)(eb ef:Int)(w0:World)(M:StAt w0 s)(b7:∀w,BdAt w s.q->Rets prog 50 #[.agg #[.slice s.q.f.1 s.q.f.2.1 s.q.f.2.2,.slice s.q.b.1 s.q.b.2.1 s.q.b.2.2]] w λr w'=>r=.int .i64 eb/\Fr [] w w')(hB:eb=0->BdOk s.q.p)(b4:ef=0->s.fb.ts.length=6)(b8:∀w,FbAt w s.fb->Rets prog 52 #[.agg #[.slice s.fb.t.1 s.fb.t.2.1 s.fb.t.2.2,.slice s.fb.c.1 s.fb.c.2.1 s.fb.c.2.2,.slice s.fb.h.1 s.fb.h.2.1 s.fb.h.2.2,.slice s.fb.f.1 s.fb.f.2.1 s.fb.f.2.2]] w λr w'=>r=.int .i64 ef/\Fr [] w w')(d3:s.fb.hs.length<=100000):Rets prog 23 #[.agg #[.int .i64 s.rk,.slice s.q.f.1 s.q.f.2.1 s.q.f.2.2,.slice s.q.b.1 s.q.b.2.1 s.q.b.2.2,.slice s.yv.1 s.yv.2.1 s.yv.2.2,.slice s.fb.t.1 s.fb.t.2.1 s.fb.t.2.2,.slice s.fb.c.1 s.fb.c.2.1 s.fb.c.2.2,.slice s.fb.h.1 s.fb.h.2.1 s.fb.h.2.2,.slice s.fb.f.1 s.fb.f.2.1 s.fb.f.2.2]] w0 λr w'=>r=.int .i64 (x8f s eb ef)/\Fr [] w0 w':=by
 have e9:=z2e M.y;have e8:=z2e M.f.t;refine we [(0,.agg #[.int .i64 s.rk,.slice s.q.f.1 s.q.f.2.1 s.q.f.2.2,.slice s.q.b.1 s.q.b.2.1 s.q.b.2.2,.slice s.yv.1 s.yv.2.1 s.yv.2.2,.slice s.fb.t.1 s.fb.t.2.1 s.fb.t.2.2,.slice s.fb.c.1 s.fb.c.2.1 s.fb.c.2.2,.slice s.fb.h.1 s.fb.h.2.1 s.fb.h.2.2,.slice s.fb.f.1 s.fb.f.2.1 s.fb.f.2.2])] func23 U ntmps23 U (.cons U .nil) ?_;have Z:=M;refine sr (bx U (λg1 w1 e3 D q1 z1=>(asg U (nn (sq (sq (rbo (r:=17) (L':=[(1,_)]) (((s.rk < -4)\/(4<s.rk))) (.cons U .nil) ?_ ?_)))))));refine fad U y6i (z0i U D U na3 (lt' U (mv U (gs 13 U (λg0=>?_) (λg0=>?_)))));exact gN U (gN U (gN U (pkt U (rbe U (.cons U .nil)))));exact gY U (fad U y6i (gY U (z0i U D U na3 (gY U (gt' U (pkf U (rbe U (.cons U .nil))))))));refine tn (cd U (λc0=>?_) (λc0=>?_));exact sr (asg U (nn (rt (tr (r1 results23 U ⟨_,rfl,by unfold x8f;rw[if_pos oo],q1⟩)))));have hr:-4<=s.rk/\s.rk<=4:=by omega
 refine sk (tn (sq (sr (fad U y0m (z1v (vs:=[_,_]) U D z4x U ?_)))));replace M:=Z.ext q1;refine cl (ev1 U) (mkC func50) (b7 _ M.b) U ?_;rintro _ w2 ⟨rfl,q2⟩;have z2:=q2.size;refine asg U (nn (sr (mv U (ne' U (nn (cd U (λc1=>?_) (λc1=>?_)))))));exact sr (mv U (asg U (nn (rt (tr (r1 results23 U ⟨_,rfl,by unfold x8f;rw[if_neg oo,if_pos c1],(q1.n1 q2)⟩))))));have d0:eb=0:=by omega
 refine sk (tn (sq (sr (fad U x5l ?_))));replace D:=D.ext q2;refine z0i U D U y3i (lnS U underlying26 (ne' U (nn (cd U (λc2=>?_) (λc2=>?_)))));exact sr (asg U (nn (rt (tr (r1 results23 U ⟨_,rfl,by unfold x8f;rw[if_neg oo,if_neg oo,if_pos oo],(q1.n1 q2)⟩)))));have e7:s.ys.length=6:=by omega
 refine sk (tn (sq (sr (fad U x5l (z0i U D U y3i (lnS U underlying26 (mv U (nn (bl (lpK (ι:=Nat) [(1,_),(29,_),(30,_)] (λi=>[(31,.int .i64 (i:Int))]) (λi w'=>Fr [] w2 w'/\i<=6/\∀k,k<i->y2m (s.ys.getD k yq0).p) (λi=>6-i) 0 (.c4 U U U U) ⟨Fr.refl _ _,⟨Nat.zero_le _,λk h=>absurd h oo⟩⟩ ?_))))))))));rintro i w3 ⟨q3,⟨hi,a6⟩⟩;have z3:=q3.size;refine kpC [(1,_),(29,_),(30,_),(31,_)] (.c4 U U U U) (sr (lt' U (nn (sq (cd U (λc3=>?_) (λc3=>?_))))));refine sk (tn (sq (bl (sr ?_))));replace M:=Z.ext (q1.n2 q2 q3);refine z1d (yq0) U M.y U y3o z1j (λd6 b0=>?_);refine z1q U (b0 _ M.y) z2y (al z5m U (λg5 w4 e4 a9 q4 z4=>?_));refine z0j (vs:=[_,_,_,_,_]) U a9 z3b (λw5 a9 q5 z5=>?_) (h1:=(by first|(simp[Value.oneCell',S];done)|exact z2x.one _));refine nn (sr (z0m U a9 z2y ?_));replace M:=Z.ext (q1.z4 q2 q3 q4 q5);refine cl (ev1 U) j0s (z8s (s.ys.getD i yq0) _ (M.ya i)) U ?_;rintro _ w6 ⟨rfl,q6⟩;have z6:=q6.size;refine asg U (nn (sr (mv U (ne' U (nn (cd U (λc4=>?_) (λc4=>?_)))))));refine sr (mv U (asg U (kpL [(2,_)] (.cons U .nil) (nn (rt (rb (tr (tr (rb (tr (r1 results23 U ?_)))))))))));have b5:¬y2m (s.ys.getD i yq0).p:=λh=>c4 (j3v h);exact⟨_,rfl,by unfold x8f;rw[if_neg oo,if_neg oo,if_neg oo,if_pos ⟨i,oo,b5⟩,u6z b5],(q1.z5 q2 q3 q4 q5 q6)⟩;refine sk (bn' (tn (rg (z0x U (wi6 oo) (mv U (nl ?_))))));exact lpE (i+1) (.c4 U U U U) ⟨(q3.z3 q4 q5 q6),⟨oo,λk h=>by
  by_cases e:k=i;subst e;exact Classical.byContradiction λh=>c4 (by rw[u6z h];decide);exact a6 k oo⟩⟩ oo
 obtain rfl:i=6:=by omega
 refine ex (te (te (xh (tn (sq (sr (fad U z8b ?_)))))));replace D:=D.ext q3;refine z1v (vs:=[_,_,_,_]) U D u0h U ?_;replace M:=Z.ext (q1.n2 q2 q3);refine cl (ev1 U) (mkC func52) (b8 _ M.f) U ?_;rintro _ w7 ⟨rfl,q7⟩;have z7:=q7.size;refine asg U (kpL [(1,_),(7,_)] (.c2 U U) (nn (sr (mv U (ne' U (nn (cd U (λc5=>?_) (λc5=>?_))))))));refine sr (mv U (asg U (nn (rt (tr (r1 results23 U ?_))))));have a0:¬ ∃i,i<6/\¬y2m (s.ys.getD i yq0).p:=λ⟨k,hk,h⟩=>h (a6 k oo);exact⟨_,rfl,by unfold x8f;rw[if_neg oo,if_neg oo,if_neg oo,if_neg a0,if_pos c5],(q1.n3 q2 q3 q7)⟩;have d1:ef=0:=by omega
 have e6:=b4 d1;refine sk (tn (sq (sq ?_)));replace M:=Z.ext (q1.n3 q2 q3 q7);intro a h;refine z0h none (λwb w'=>Fr [] wb w') z2o ?_;intro w8 q8;have z8:=q8.size;replace M:=M.ext q8;replace D:=D.ext (q7.n1 q8);have hC:Fr [] w8 w8:=Fr.refl _ _;have a2:=M;have I:=D;refine z0c 0 h U z8b U λa h=>z5b 1 h wn U y2x U λa h=>z0l 2 h U (λ_ hw=>I.ext hw) U z6h U λa h=>z0c 3 h U y0m U λa h=>z1f (vs:=[_,_]) 4 h U (λ_ hw=>(I.ext hw)) z4x U U λa h=>z0c 5 h U y6i U λa h=>z0l 6 h U (λ_ hw=>I.ext hw) U na3 U λa h=>z0d 7 U (z0n h (z0a U (z0a U z0g)) (mkC func54) (y3j s.q s.rk _ M.b (hB d0) hr) ?_);rintro _ w9 ⟨⟨e2,f0,e1,rfl,e0,hH⟩,q9⟩ a h;have z9:=q9.size;replace M:=M.ext q9;replace hC:=hC.next q9;refine z0b (z0d 8 U (z0n h (z0a U (z0a U z0g)) (mkC func53) (u5t _ _ s.fb.hs ((z2t s.q.p s.rk).map Hd.id) _ M.f.h hH.sl d3) ?_));rintro _ d5 ⟨rfl,O⟩ a h;have f4:=O.size;replace M:=M.ext O;replace D:=D.ext (q9.n1 O);replace hH:=hH.ext O;replace hC:=hC.next O;refine z0b (z9u 9 hC h wn U U λa h=>z0r ?_);clear hC a2 I;refine bk (h.sub (L':=[(1,_),(56,_)]) (.c2 U U)) (tn (cd U (λc6=>?_) (λc6=>?_)));refine sr (asg U (nn (rt (tr (r1 results23 U ?_)))));have a0:¬ ∃i,i<6/\¬y2m (s.ys.getD i yq0).p:=λ⟨k,hk,h⟩=>h (a6 k oo);exact⟨_,rfl,by unfold x8f;rw[if_neg oo,if_neg oo,if_neg oo,if_neg a0,if_neg oo,if_pos c6],(q1.n6 q2 q3 q7 q8 q9 O)⟩;refine sk (tn (sq (sr (fad U x5l (z0i U D U y3i (lnS U underlying26 (mv U (nn (bl (lpK (ι:=Nat) [(1,_),(58,_),(59,_)] (λi=>[(60,.int .i64 (i:Int))]) (λi w'=>Fr [] d5 w'/\i<=6/\∀k,k<i->(s.ys.getD k yq0).ct=((s.fb.ts.getD k tq0).2.length:Int)) (λi=>6-i) 0 (.c4 U U U U) ⟨Fr.refl _ _,⟨Nat.zero_le _,λk h=>absurd h oo⟩⟩ ?_))))))))));rintro i f1 ⟨a1,⟨hi,b3⟩⟩;have f5:=a1.size;refine kpC [(1,_),(58,_),(59,_),(60,_)] (.c4 U U U U) (sr (lt' U (nn (sq (cd U (λc7=>?_) (λc7=>?_))))));refine sk (tn (sq (bl (sr (mv U ?_)))));replace M:=Z.ext ((q1.n6 q2 q3 q7 q8 q9 O).n1 a1);refine z1d (yq0) U M.y U y3o z1j (λd7 b1=>?_);refine z1q U (b1 _ M.y) z2y (al z5m U (λg9 f2 e5 a4 a7 f6=>?_));refine asg U (z0j (vs:=[_,_,_,_,_]) U a4 z3b (λf3 a4 a8 f7=>?_) (h1:=(by first|(simp[Value.oneCell',S];done)|exact z2x.one _)));refine nn (sq ?_);replace M:=Z.ext ((((q1.n6 q2 q3 q7 q8 q9 O).n1 a1).n1 a7).z1 a8);replace D:=(D.ext (a1.n1 a7)).fr a8;intro a h;refine z0h none (λwb w'=>Fr [] wb w') z2o ?_;intro b6 a3;have f8:=a3.size;replace M:=M.ext a3;replace D:=D.ext a3;replace a4:=a4.ext a3;have hC:Fr [] b6 b6:=Fr.refl _ _;have a2:=M;have I:=D;have a5:=a4;refine z0c 0 h U z7w U λa h=>z0l 1 h U (λ_ hw=>a5.ext hw) U na3 U λa h=>z0c 2 h U z8b U λa h=>z5b 3 h wn U y0p U λa h=>z0l 4 h U (λ_ hw=>I.ext hw) U x3j U λa h=>z0e 5 h U λa h=>z1e (tq0) 6 h U M.f.t U y9c U ?_ (hp:=rfl);clear h a;intro d9 b2 a h;refine z2p 7 h wn U (λ_ hw=>b2 _ (a2.f.t.ext hw)) y0q U λa h=>z7s 8 hC h wn U underlying123 U λa h=>v9e 9 hC h wn U U U U λa h=>z0r ?_;clear hC a2 I a5;refine bk (h.sub (L':=[(1,_),(58,_),(59,_),(60,_),(74,_)]) (.c5 U U U U U)) (tn (cd U (λc8=>?_) (λc8=>?_)));refine sr (asg U (nn (rt (rb (tr (tr (rb (tr (r1 results23 U ?_)))))))));have a0:¬ ∃i,i<6/\¬y2m (s.ys.getD i yq0).p:=λ⟨k,hk,h⟩=>h (a6 k oo);have b9:(s.ys.getD i yq0).ct≠((s.fb.ts.getD i tq0).2.length:Int):=by simp only[Int.toNat_natCast]at c8;have d4:=z2e (Z.f.tt _ (z1a (d:=tq0) (i:=i) oo)).1;omega
 exact⟨_,rfl,by unfold x8f;rw[if_neg oo,if_neg oo,if_neg oo,if_neg a0,if_neg oo,if_neg c6,if_pos ⟨i,oo,b9⟩],((((q1.n6 q2 q3 q7 q8 q9 O).n1 a1).n1 a7).z2 a8 a3)⟩;refine sk (bn' (tn (rg (z0x U (wi6 oo) (mv U (nl ?_))))));exact lpE (i+1) (.c4 U U U U) ⟨(a1.z3 a7 a8 a3),⟨oo,λk h=>by
  by_cases e:k=i;subst e;simp only[Int.toNat_natCast]at c8;have d4:=z2e (Z.f.tt _ (z1a (d:=tq0) (i:=k) oo)).1;omega;exact b3 k oo⟩⟩ oo
 obtain rfl:i=6:=by omega
 refine ex (te (te (xh (tn (sr (asg U (nn (rt (r1 results23 U ?_)))))))));have a0:¬ ∃i,i<6/\¬y2m (s.ys.getD i yq0).p:=λ⟨k,hk,h⟩=>h (a6 k oo);have c9:¬ ∃i,i<6/\(s.ys.getD i yq0).ct≠((s.fb.ts.getD i tq0).2.length:Int):=λ⟨k,hk,h⟩=>h (b3 k oo);exact⟨_,rfl,by unfold x8f;rw[if_neg oo,if_neg oo,if_neg oo,if_neg a0,if_neg oo,if_neg c6,if_neg c9],((q1.n6 q2 q3 q7 q8 q9 O).n1 a1)⟩
theorem u7x {s:StQ}(O:-4<=s.rk/\s.rk<=4)(M:s.ys.length=6)(D:∀i,i<6->y2m (s.ys.getD i yq0).p/\(s.ys.getD i yq0).ct=((s.fb.ts.getD i tq0).2.length:Int))(I:s.fb.hs=(z2t s.q.p s.rk).map Hd.id):x8f s 0 0=0:=by
 unfold x8f;rw[if_neg oo,if_neg dd,if_neg oo,if_neg (λ⟨k,hk,h⟩=>h (D k hk).1),if_neg dd,if_neg (λh=>h I),if_neg (λ⟨k,hk,h⟩=>h (D k hk).2)]
theorem u6f (s:StQ)(w0:World)(hS:StAt w0 s)(hr:-4<=s.rk/\s.rk<=4)(hB:BdOk s.q.p)(O:s.ys.length=6)(M:s.fb.ts.length=6)(Z:∀i,i<6->y2m (s.ys.getD i yq0).p/\(s.ys.getD i yq0).ct=((s.fb.ts.getD i tq0).2.length:Int))(D:∀w,FbAt w s.fb->Rets prog 52 #[.agg #[.slice s.fb.t.1 s.fb.t.2.1 s.fb.t.2.2,.slice s.fb.c.1 s.fb.c.2.1 s.fb.c.2.2,.slice s.fb.h.1 s.fb.h.2.1 s.fb.h.2.2,.slice s.fb.f.1 s.fb.f.2.1 s.fb.f.2.2]] w λr w'=>r=.int .i64 0/\Fr [] w w')(hh:s.fb.hs=(z2t s.q.p s.rk).map Hd.id)(I:s.fb.hs.length<=100000):Rets prog 23 #[.agg #[.int .i64 s.rk,.slice s.q.f.1 s.q.f.2.1 s.q.f.2.2,.slice s.q.b.1 s.q.b.2.1 s.q.b.2.2,.slice s.yv.1 s.yv.2.1 s.yv.2.2,.slice s.fb.t.1 s.fb.t.2.1 s.fb.t.2.2,.slice s.fb.c.1 s.fb.c.2.1 s.fb.c.2.2,.slice s.fb.h.1 s.fb.h.2.1 s.fb.h.2.2,.slice s.fb.f.1 s.fb.f.2.1 s.fb.f.2.2]] w0 λr w'=>r=.int .i64 0/\Fr [] w0 w':=by
 have x:=x5r s 0 0 w0 hS (λw h=>y4j s.q w h hB) (λ_=>hB) (λ_=>M) D I;rw[u7x hr O Z hh]at x;exact x
open Go.Lw Go.G21 Go.G08 _root_.Go.Proofs.Tryz
theorem y3m:ElemOf prog 45 44 z3c 40:=ElemOf.mk' (z:=(.agg #[.int .u8 0,.int .u8 0,.int .u8 0,.int .i64 0,.int .u8 0,.int .i64 0])) underlying45 kr U
theorem v4o:z1t prog 44 6:=λ_=>kr
theorem v9d (w:World):(zeroValue 44).run prog w=.ok (.agg #[(.int .u8 0),(.int .u8 0),(.int .u8 0),(.int .i64 0),(.int .u8 0),(.int .i64 0)]) w:=kr
theorem x4d {D p q:MSt}{o:MOp}:∀ {l:List MOp} {i:Nat},z4u i D l=.ok p->doM p o=.ok q->z4u i D (l++[o])=.ok q
 | [],i,h,h2=>by cases h;show z4u i D [o]=_;unfold z4u;rw[h2];rfl
 | x::l,i,h,h2=>by
  unfold z4u at h
  show z4u i D (x::(l++[o]))=_
  unfold z4u
  split at h
  ·cases h
  rename_i q' I
  exact x4d h h2
theorem v1u {D p:MSt}{e:Int}{o:MOp}:∀ {l r:List MOp} {i:Nat},z4u i D l=.ok p->doM p o=.error e->z4u i D (l++o::r)=.error (e,i+l.length)
 | [],r,i,h,h2=>by cases h;show z4u i D (o::r)=_;unfold z4u;rw[h2];rfl
 | x::l,r,i,h,h2=>by
  unfold z4u at h
  show z4u i D (x::(l++o::r))=_
  unfold z4u
  split at h
  ·cases h
  rename_i q' I
  have:=v1u (r:=r) h h2
  simp only[this,List.length_cons]
  congr 2;omega
theorem u6d (s:StQ)(v:Value)(l:List MOp)(p0:MSt)(w0:World)(hS:StAt w0 s)(d3:StSz s)(d6:(s.fb.cs.map cxK).Nodup)(b3:p0=(⟨s.rk,⟨trimB (plB s.q.fs),trimB (plB s.q.bs)⟩,s.ys.map YQ.p,z2g s.fb.ts,s.fb.cs,s.fb.fs⟩:MSt))(d7:MInv p0)(hv:Sl z3c w0 v l)(d4:StT w0)(f8:l.length<=4096)(b1:∀w,StAt w s->Rets prog 23 #[.agg #[.int .i64 s.rk,.slice s.q.f.1 s.q.f.2.1 s.q.f.2.2,.slice s.q.b.1 s.q.b.2.1 s.q.b.2.2,.slice s.yv.1 s.yv.2.1 s.yv.2.2,.slice s.fb.t.1 s.fb.t.2.1 s.fb.t.2.2,.slice s.fb.c.1 s.fb.c.2.1 s.fb.c.2.2,.slice s.fb.h.1 s.fb.h.2.1 s.fb.h.2.2,.slice s.fb.f.1 s.fb.f.2.1 s.fb.f.2.2]] w λr w'=>r=.int .i64 0/\Fr [] w w')(d5:∀p,z4u 0 p0 l=.ok p->p.cr.length<=100000000):Rets prog 7 #[.agg #[.int .i64 s.rk,.slice s.q.f.1 s.q.f.2.1 s.q.f.2.2,.slice s.q.b.1 s.q.b.2.1 s.q.b.2.2,.slice s.yv.1 s.yv.2.1 s.yv.2.2,.slice s.fb.t.1 s.fb.t.2.1 s.fb.t.2.2,.slice s.fb.c.1 s.fb.c.2.1 s.fb.c.2.2,.slice s.fb.h.1 s.fb.h.2.1 s.fb.h.2.2,.slice s.fb.f.1 s.fb.f.2.1 s.fb.f.2.2],v] w0 λr w'=>(match z4u 0 p0 l with|.error (e,n)=>r=.tuple #[.agg #[.int .i64 0,.slice none 0 0,.slice none 0 0,.slice none 0 0,.slice none 0 0,.slice none 0 0,.slice none 0 0,.slice none 0 0],.int .i64 (n:Int),.int .i64 e]|.ok p=>∃s':StQ,r=.tuple #[.agg #[.int .i64 s'.rk,.slice s'.q.f.1 s'.q.f.2.1 s'.q.f.2.2,.slice s'.q.b.1 s'.q.b.2.1 s'.q.b.2.2,.slice s'.yv.1 s'.yv.2.1 s'.yv.2.2,.slice s'.fb.t.1 s'.fb.t.2.1 s'.fb.t.2.2,.slice s'.fb.c.1 s'.fb.c.2.1 s'.fb.c.2.2,.slice s'.fb.h.1 s'.fb.h.2.1 s'.fb.h.2.2,.slice s'.fb.f.1 s'.fb.f.2.1 s'.fb.f.2.2],.int .i64 (l.length:Int),.int .i64 0]/\StO τd 147 w0.heap.size w' s'/\s'.p=stM p)/\Fr [] w0 w':=by
 obtain⟨A,c,rfl,f3,d0,hA⟩:=id hv;clear hA;unfold maxLen at d0;refine we [(0,.agg #[.int .i64 s.rk,.slice s.q.f.1 s.q.f.2.1 s.q.f.2.2,.slice s.q.b.1 s.q.b.2.1 s.q.b.2.2,.slice s.yv.1 s.yv.2.1 s.yv.2.2,.slice s.fb.t.1 s.fb.t.2.1 s.fb.t.2.2,.slice s.fb.c.1 s.fb.c.2.1 s.fb.c.2.2,.slice s.fb.h.1 s.fb.h.2.1 s.fb.h.2.2,.slice s.fb.f.1 s.fb.f.2.1 s.fb.f.2.2]),(1,.slice A l.length c)] func7 U ntmps7 U (.c2 U U) ?_;have a8:=hS;have e3:=hv;refine sr (bx U (λg2 w1 f4 I q1 z1=>(al y9i U (λg4 w2 f5 D q2 z2=>(asg U (asg U (nn (sq (sr (mv U (lnS U underlying45 (gt' U (nn (cd U (λc0=>?_) (λc0=>?_)))))))))))))));refine sr (z1s (cs:=[_,_,_,_,_,_,_,_]) z0g x4l z0q U ?_);refine z0j (vs:=[_,_,_,_,_,_,_,_]) U D y1n (λw3 D q3 z3=>(asg U (asg U (nn (rt (tr (j1r results7 U D y1l U U ?_)))))));exfalso;omega;refine sk (tn (sq (sr ?_)));replace I:=I.ext q2;refine z0m U I y1l ?_;replace hS:=a8.ext (q1.n1 q2);refine cl (ev1 U) (mkC func23) (b1 _ hS) U ?_;rintro _ w4 ⟨rfl,q4⟩;have z4:=q4.size;refine asg U (nn (sr (mv U (ne' U (nn (cd U (λc1=>?_) (λc1=>?_)))))));refine sr (z1s (cs:=[_,_,_,_,_,_,_,_]) z0g x4l z0q U ?_);refine mv U ?_;replace D:=D.ext q4;exact z0j (vs:=[_,_,_,_,_,_,_,_]) U D y1n (λw5 D q5 z5=>(asg U (asg U (kpL [(4,_),(5,_),(6,_)] (.c3 U U U) (nn (rt (tr (j1r results7 U D y1l U U (absurd U (by assumption))))))))));refine sk (tn (sr ?_));replace I:=I.ext q4;refine z0m U I y1l ?_;replace hS:=a8.ext (q1.n2 q2 q4);replace D:=D.ext q4;refine cl (z0a U z0g) (mkC func26) (u3y s _ hS d3 d6) U ?_;rintro _ w6 ⟨ka,m,rfl,M,b2⟩;have q6:=M.fr.fr;have z6:=q6.size;have a1:=D;have f0:=M.c.lt;have a2:=M;refine cl z0g (mkC func27) (u6p _) U ?_;rintro _ w7 ⟨⟨gl,rfl,f6,hl⟩,q7⟩;have z7:=q7.size;refine asg U (asg U (kpL [(1,_),(4,_),(8,_),(9,_)] (.c4 U U U U) (nn (sq (sr (mv U (lnS U underlying45 (mv U (nn (bl ?_))))))))));replace M:=a2.ext q7;refine lpK (ι:=Nat) [(1,_),(4,_),(8,_),(9,_),(26,_),(27,_)] (λi=>[(28,.int .i64 (i:Int))]) (λi w'=>Fr [] w4 w'/\i<=l.length/\∃m:MQ,MkM τd 145 w4 ka w' m/\z4u 0 p0 (l.take i)=.ok m.p/\MInv m.p/\MapF kV w' gl j0o) (λi=>l.length-i) 0 (.c7 U U U U U U U) ⟨(q6.n1 q7),⟨Nat.zero_le _,m,M,by rw[b2,<-b3];rfl,by rw[b2,<-b3];exact d7,hl⟩⟩ ?_;rintro i w8 ⟨q8,⟨f7,m,M,Z,a3,hl⟩⟩;have z8:=q8.size;have a2:=M;refine kpC [(1,_),(4,_),(8,_),(9,_),(26,_),(27,_),(28,_)] (.c7 U U U U U U U) ?_;have f1:gl<w8.heap.size:=by obtain⟨_,_,_,b7,_⟩:=hl;exact(Array.getElem?_eq_some_iff.1 b7).1
 refine sr (lt' U (nn (sq (cd U (λc2=>?_) (λc2=>?_)))));have a5:i<l.length:=by omega
 refine sk (tn (sq (bl (sr (mv U ?_)))));replace hv:=e3.ext (q1.n3 q2 q4 q8);refine z1d (op0) U hv U y3m z1j (λe8 b0=>?_);refine z1q U (b0 _ hv) y3q (al v9d U (λf2 w9 e9 O q9 z9=>(asg U (z0j (vs:=[_,_,_,_,_,_]) U O v4o (λe5 O b4 g3=>(nn (sr (mv U (mv U (z0m U O y3q ?_))))))))));replace M:=a2.ext (q9.z1 b4);replace hl:=(hl.ext q9).fr b4 (by simp only[List.mem_singleton];omega);have c9:=M.fr;refine cl (z0a U (z0a U (z0a U z0g))) (mkC func28) (j0i w4 { ka with wk:=e5 } m (l.getD i op0) gl _ M.mark a3 (d4.ext (q1.n2 q2 q4)) hl) U ?_;intro _ f9 hR;obtain⟨rfl,a0,m1,d9⟩:=hR.split;have e7:=a0.kp.size;simp only at e7;have b5:=a0.fr;replace hl:=a0.kp.mapF hl sm;refine asg U (nn (sr (mv U (ne' U (nn (cd U (λc3=>?_) (λc3=>?_)))))));have D:=a1.ext a0.fr;refine sr (z1s (cs:=[_,_,_,_,_,_,_,_]) z0g x4l z0q U ?_);refine mv U (mv U (z0j (vs:=[_,_,_,_,_,_,_,_]) U D y1n (λg0 D e4 g5=>(asg U (asg U (kpL [(4,_),(5,_),(6,_)] (.c3 U U U) (nn (rt (rb (tr (tr (rb (tr (j1r results7 U D y1l U U ?_))))))))))))));have e1:z4u 0 p0 l=.error (u8r (doM m.p (l.getD i op0)),i):=by
  have x:=v1u (r:=l.drop (i+1)) Z (y0k c3);have e:l.take i++l.getD i op0::l.drop (i+1)=l:=by
   rw[List.getD,List.getElem?_eq_getElem a5,Option.getD_some,<-List.drop_eq_getElem_cons a5,List.take_append_drop]
  rw[e,List.length_take,Nat.min_eq_left oo,Nat.zero_add]at x;exact x
 exact⟨_,rfl,by rw[e1],(q1.z4 q2 q4 b5 e4)⟩;obtain⟨b9,a4⟩:=d9 (Classical.not_not.1 c3);have a7:=b9.unmark c9;obtain⟨m2,e0⟩:∃m2,m2=m1:=⟨_,rfl⟩;rw[<-e0]at a7 a4;exact sk (bn' (tn (rg (z0x U (wi6 oo) (mv U (nl (lpE ((i+1)) (.c7 U U U U U U U) ⟨b5,⟨oo,m2,a7,by rw[show l.take (i+1)=l.take i++[l.getD i op0] by rw[List.take_add_one,List.getD,List.getElem?_eq_getElem a5];rfl];exact x4d Z a4,x6d a3 a4,hl⟩⟩ oo)))))));obtain rfl:i=l.length:=by omega
 rw[List.take_length]at Z;refine ex (te (te (xh (tn (sr (mv U (cl (z0a U z0g) (mkC func29) (v0r w4 ka m _ M a3 (d5 _ Z)) U ?_)))))));rintro _ g1 ⟨s',rfl,d1,e2,a6⟩;have g6:=a6.size;have D:=a1.ext a6;have a9:=D;refine mv U (lnS U underlying45 (z0j (vs:=[_,_,_,_,_,_,_,_]) U D y1n (λe6 D b6 g7=>(asg U (asg U (kpL [(4,_),(5,_),(6,_)] (.c3 U U U) (nn (rt (j1r results7 U D y1l U U ?_)))))))));have b8:Fr [] _ e6:=(Fr.refl _ _);exact⟨_,rfl,by rw[Z];exact⟨s',rfl,((d1.off a9 dd b6).ext b8).low oo,e2⟩,(q1.z4 q2 q4 a6 b6)⟩
abbrev stZ:StQ:=⟨0,⟨sv0,sv0,[],[]⟩,sv0,[],⟨sv0,sv0,sv0,sv0,[],[],[],[]⟩⟩
theorem u3s (base:Nat)(w:World):StO τd 147 base w stZ:=
 ⟨⟨⟨Own.nil w,λq I=>(by cases I)⟩,⟨Own.nil w,λq I=>(by cases I)⟩⟩,⟨Own.nil w,λi D=>(by cases D)⟩,⟨Own.nil w,λi D=>(by cases D),λi j D=>(by cases D),λi D=>(by cases D)⟩,Own.nil w,Own.nil w,Own.nil w,λk M=>(by cases M)⟩
end Go.Proofs.YtlfdhllfmoplgaaGreatDoor
