/- Texts of the proof, joined. -/
import Derived.Test.YtpgdchkdlgkmgaaGreatDoorRows
import Derived.Shelf.SlSortCmp.WholeK
import Derived.Deep.RegionHeld3
import Derived.WalkKit
import Derived.Shelf.SlGeneric
import Derived.Ground.SlsfProg
import Derived.Test.YtpgdchkdlgkmgaaGreatDoorProg
import Derived.Test.YtpgdchkdlgkmgaaGreatDoorJB4
set_option linter.unusedVariables false
set_option linter.unusedSimpArgs false
namespace Go.Proofs.YtpgdchkdlgkmgaaGreatDoor
open Go.Lw Go.G21 Go.G08 _root_.Go.Proofs.Tryz
set_option maxHeartbeats 1000000 in
theorem j0p (wS:World)(ka:MA)(m:MQ)(o:MOp)(w0:World)(hM:MkM τd 137 wS ka w0 m)(hi:MInv m.p)(hy:1<=o.y/\o.y<=6)(hn:z3z o.b o.p=0):Rets prog 68 #[.pointer (some ⟨ka.gk,0,none⟩),opV o] w0 λr w'=>MRet τd 137 wS ka (y1l m.p o) r w':=by
 have b8:=hM.fr.size;have b0:=hM.gk;have b2:=hM.k.lt;refine we [(0,.pointer (some ⟨ka.gk,0,none⟩)),(1,opV o)] func68 U ntmps68 U (.c2 U U) ?_;have M:=hM;refine sr (bx U (λg3 w1 b6 D q1 z1=>(asg U (nn (sr (mv U (z0k U D y2a ?_)))))));replace hM:=M.ext q1;refine cl (ev2 U) (mkC func112) (x5f wS ka m o _ hM hi hy hn) U ?_;rintro _ w2 ⟨rfl,q2⟩;refine mv U (xt U (xt U (xt U (asg U (asg U (asg U (kpL [(0,_),(3,_),(5,_),(6,_),(7,_)] (.c5 U U U U U) (nn (sq (sr (mv U (ne' U (nn (cd U (λc0=>?_) (λc0=>?_)))))))))))))));refine sr (mv U (asg U (kpL [(4,_)] (.cons U .nil) (nn (rt (tr (r1 results68 U ?_)))))));replace hM:=M.ext (q1.n1 q2);exact⟨_,rfl,MRet.err (by unfold y1l;rw[if_pos c0]) c0 hM.fr⟩;have I:z6a m.p o=0:=Classical.not_not.1 c0;refine sk (tn (sq (sr (mv U (fad U z2z ?_)))));replace D:=D.ext q2;refine z0g U D U na5 (mv U (mv U ?_));replace hM:=M.ext (q1.n1 q2);have a4:=hM.fr;refine cl (z0a U (z0a U (z0a U (z0a U z0f)))) (mkC func113) (x5v wS { ka with wk:=w2 } m o.y (if z6a m.p o=0 then z9b m.p o else 0) (if z6a m.p o=0 then (z2r o.b o.p m.rk) else 0) _ hM.mark hi hy) U ?_;intro _ w3 hR;obtain⟨rfl,a1,m1,a8⟩:=hR.split;have z3:=a1.kp.size;simp only at z3;replace D:=a1.kp.blk D (by have:=hM.gcne D;exact this) (by decide);refine asg U (kpL [(0,_),(3,_),(8,_)] (.c3 U U U) (nn (sr (mv U (ne' U (nn (cd U (λc1=>?_) (λc1=>?_))))))));refine sr (mv U (asg U (nn (rt (tr (r1 results68 U ?_))))));exact⟨_,rfl,MRet.err (by have hx:=z6i c1;unfold y1l;rw[if_neg c0];rw[if_pos I,if_pos I]at hx;rw[hx,if_pos I,if_pos I]) c1 (a1.un a4)⟩;obtain⟨a7,O⟩:=a8 (Classical.not_not.1 c1);rw[if_pos I,if_pos I]at O;obtain⟨a5,b5,b7⟩:=y2w hi hy O;obtain⟨⟨hf,hb⟩,h4,a6⟩:=z3k a5.B;replace hM:=a7.unmark a4;have M:=hM;have Z:=hM.k;have b1:=Z.lt;refine sk (tn (sq ?_));intro a h;refine z0j none (λwb w'=>Fr [] wb w') z2s ?_;intro w4 q4;replace D:=D.ext q4;replace hM:=hM.ext q4;replace Z:=Z.ext q4;have hC:Fr [] w4 w4:=Fr.refl _ _;have J:=D;have a3:=hM;have a0:=Z;refine z0e 0 h U λa h=>z0o 1 h U λa h=>z0c 2 h U z3f U λa h=>z1e (vs:=[_,_]) 3 h U (λ_ hw=>(a0.ext hw)) z5x U U λa h=>z0c 4 h U z4q U λa h=>z1e (vs:=[_,_]) 5 h U (λ_ hw=>(J.ext hw)) z5b U U λa h=>z0d 6 U ?_;refine z0m h (z0a U (z0a U z0f)) u2q (y9k m1.q o.b o.p _ hM.b.at (by have:=z2y hn;omega) hf hb h4 a6) ?_;rintro b9 w5 ⟨a2,hq⟩ a h;replace D:=D.ext hq;replace hM:=hM.ext hq;replace Z:=Z.ext hq;replace hC:=hC.next hq;have q5:=hq;rw[y7n hn]at a2;obtain⟨b3,b4,rfl,a9⟩:=a2.sl.form;refine z0b ?_;refine z0d 7 U ?_;refine z0s h U λa h=>?_;refine z0b ?_;refine z0r ?_;clear hC J a3 a0;refine bk (h.sub (L':=[(0,_),(3,_),(9,_)]) (.c3 U U U)) (tn (sq (sr (mv U (lnS U underlying37 (ge' U U (nn (cd U (λc2=>?_) (λc2=>?_)))))))));refine sr (asg U (nn (rt (tr (r1 results68 U ?_)))));exact⟨_,rfl,MRet.err (by unfold y1l;rw[if_neg c0,O];simp only;rw[if_pos (show 4<=(m1.q.p.at o.b o.p).length by omega)]) (by decide) hM.fr⟩;refine sk (tn (sr (mv U (z0k U D y2a (mv U (cl (z0a U (z0a U (z0a U (z0a U z0f)))) (mkC func114) (v7q wS ka m1 o sv0 [] _ (m1.q.p.at o.b o.p) _ hM a5 hy hn (Own.nil _) (λk Z=>by cases Z) a2.sl (.inr ⟨rfl,by omega⟩)) U ?_))))));rintro c9 w6 hR;refine asg U (kpL [(4,_)] (.cons U .nil) (nn (rt (r1 results68 U ?_))));exact⟨_,rfl,by rw[show y1l m.p o=y3x m1.p o [] (m1.q.p.at o.b o.p) from by unfold y1l;rw[if_neg c0,O];simp only;rw[if_neg (show ¬4<=(m1.q.p.at o.b o.p).length by omega)]];exact hR⟩
theorem j2u:z3y prog 138 4:=⟨λ_=>by kernel_rfl,λ_=>by kernel_rfl⟩
theorem j1d:BuildAt prog 138 [(0,2),(2,2)] [(.int .u8 0),(.int .i64 0),(.int .u8 0),(.int .i64 0)]:=BuildAt.array (sz:=2) underlying138 (λ_=>by kernel_rfl) (λ_=>by kernel_rfl) (λi q h=>by match i,h with|0,h=>simpa using h.symm|1,h=>simpa using h.symm|(k+2),h=>simp at h)
theorem j4s:CallOf prog 74:=mkC func74
theorem y2i:z0y prog 137 4 5:=λ_ _=>by kernel_rfl
theorem x6z:z0y prog 246 0 0:=λ_ _=>by kernel_rfl
theorem x5o:z0y prog 246 1 2:=λ_ _=>by kernel_rfl
theorem u6r:z0y prog 246 2 4:=λ_ _=>by kernel_rfl
theorem v0r:z2b prog 135:=λ_=>by kernel_rfl
theorem u7t:z1p prog 138 4:=λ_=>by kernel_rfl
theorem j7v (w:World):(zeroValue 138).run prog w=.ok (.agg #[(.int .u8 0),(.int .i64 0),(.int .u8 0),(.int .i64 0)]) w:=by kernel_rfl
theorem j8q (p q:LId×LId)(w:World):(Op.equal 138 (crK p) (crK q)).run prog w=.ok (decide (p=q)) w:=by
 obtain⟨⟨O,n1⟩,⟨Z,n2⟩⟩:=p;obtain⟨⟨y3,n3⟩,⟨y4,n4⟩⟩:=q;have D:prog.stoodInHeld 87=false:=by kernel_rfl
 have I:(sizeOf 87).run prog w=.ok 2 w:=by kernel_rfl
 unfold crK Op.equal Op.maxDepth Op.equalIn;simp only[Sem.run_bind,run_underlying underlying138,Result.andThen_ok,I];have J:∀a b c d:Value,(part 87 #[a,b,c,d] (0*2)).run prog w=.ok (.agg #[a,b]) w:=λa b c d=>by kernel_rfl
 have M:∀a b c d:Value,(part 87 #[a,b,c,d] (1*2)).run prog w=.ok (.agg #[c,d]) w:=λa b c d=>by kernel_rfl
 rw[Std.Legacy.Range.forIn_eq_forIn_range'];simp[List.range',List.forIn_cons,J,M,go_sem,D,underlying87];(repeat' split)<;>simp_all
theorem x9g:KeyLaw prog 138 crK:=KeyLaw.asking underlying138 (λ_ _=>rfl) (λ_ _ _=>by kernel_rfl) j8q (λ_=>by simp[crK,Instr.sameBits])
theorem zvI2 (w:World):(zeroValue 3).run prog w=.ok (.int .i64 0) w:=by kernel_rfl
set_option maxHeartbeats 1000000 in
theorem j2x (wS:World)(ka:MA)(m:MQ)(c:Cx)(w0:World)(hM:MkM τd 137 wS ka w0 m)(a6:∀x∈m.cr,-1048576<=x.n/\x.n<=1048576)(a7:-1<=c.n/\c.n<=1):Rets prog 148 #[.pointer (some ⟨ka.gk,0,none⟩),.agg #[.int .u8 c.a.y,.int .i64 c.a.n,.int .u8 c.b.y,.int .i64 c.b.n,.int .i64 c.n]] w0 λr w'=>MRet τd 137 wS ka (u8j m.p c) r w':=by
 have b2:=hM.fr.size;have hk:=hM.k;have b1:=hk.lt;have b0:=x7q (a:=(z4g c).1) (b:=(z4g c).2) a6;refine we [(0,.pointer (some ⟨ka.gk,0,none⟩)),(1,.agg #[.int .u8 c.a.y,.int .i64 c.a.n,.int .u8 c.b.y,.int .i64 c.b.n,.int .i64 c.n])] func148 U ntmps148 U (.c2 U U) ?_;have a5:=hM;refine sr (bx U (λg3 w1 a8 J q1 z1=>?_));refine asg U (nn (sr (fad U x6z (z1q (vs:=[_,_]) U J z3t U (fad U x5o (z1q (vs:=[_,_]) U J z3t U (z1s (cs:=[_,_,_,_]) (ev2 U) j1d (z0h U (z0h U z0q)) U ?_)))))));refine al j7v U (λg5 w2 a9 D q2 z2=>(z0i (vs:=[_,_,_,_]) U D u7t (λw3 D q3 z3=>(nn ?_))));refine jn (ι:=Unit) [(0,_),(3,_),(5,_)] (λ_j=>[]) (λ_j w'=>Fr [g5] w3 w'/\Blk w' g5 138 [.int .u8 (z4g c).1.y,.int .i64 (z4g c).1.n,.int .u8 (z4g c).2.y,.int .i64 (z4g c).2.n]) (.c3 U U U) ?_ ?_;refine sr (fad U x6z ?_);replace J:=(J.ext q2).fr q3;refine z1q (vs:=[_,_]) U J z3t U (fad U x5o (z1q (vs:=[_,_]) U J z3t U (cl (ev2 U) j4s (y1s ⟨_,_⟩ ⟨_,_⟩ _) U ?_)));rintro _ w4 ⟨rfl,q4⟩;refine gt' U (nn (cd U (λc0=>?_) (λc0=>?_)));refine rg (fad U x5o ?_);replace J:=J.ext q4;refine z1q (vs:=[_,_]) U J z3t U (fad U x6z (z1q (vs:=[_,_]) U J z3t U (z1s (cs:=[_,_,_,_]) (ev2 U) j1d (z0h U (z0h U z0q)) U ?_)));replace D:=D.ext q4;refine z0i (vs:=[_,_,_,_]) U D u7t (λw5 D q5 z5=>(kpL [(0,_),(3,_),(5,_)] (.c3 U U U) (nl ?_)));exact jE (()) (.c3 U U U) ⟨((Fr.refl [g5] _).z2 q4 q5),(by rw[show z4g c=(c.b,c.a) from if_pos c0];exact D)⟩;refine sk ?_;replace D:=D.ext q4;exact jE (()) (.c3 U U U) ⟨((Fr.refl [g5] _).n1 q4),(by rw[show z4g c=(c.a,c.b) from if_neg c0];exact D)⟩;rintro _j w6 ⟨q6,D⟩;have a4:=D.lt;refine kpC [(0,_),(3,_),(5,_)] (.c3 U U U) (sq ?_);replace hM:=a5.ext (q1.z3 q2 q3 q6);replace hk:=((hk.ext (q1.n1 q2)).fr q3).fr q6;replace J:=((J.ext q2).fr q3).fr q6;intro a h;refine z0j none (λwb w'=>Fr [] wb w') z2s ?_;intro w7 q7;replace hM:=hM.ext q7;replace hk:=hk.ext q7;replace J:=J.ext q7;replace D:=D.ext q7;have hC:Fr [] w7 w7:=Fr.refl _ _;have O:=hM;have M:=hk;have a0:=J;have I:=D;refine z0e 0 h U λa h=>z0o 1 h U λa h=>z0c 2 h U y2i U λa h=>z0l 3 h U (λ_ Z=>M.ext Z) U v0r U λa h=>z0z 4 h U (λ_ Z=>I.ext Z) j2u U λa h=>z0c 6 h U u6r U λa h=>z0l 7 h U (λ_ Z=>a0.ext Z) U na3 U λa h=>z0d 5 U ?_;refine y1d (V:=crK) (k:=z4g c) (f:=z2j (crM m.cr)) h U U hM.c.f x9g underlying135 zvI2 (v8g (z4g c).1 (z4g c).2 m.cr) U λa h=>?_;refine z0b ?_;refine z5c 8 h U (by first|exact i6 (by omega)|rfl) U λa h=>z0d 9 U ?_;refine z0s h U λa h=>?_;refine z0b ?_;refine z0r ?_;clear hC O M a0 I;refine bk (h.sub (L':=[(0,_),(5,_),(6,_)]) (.c3 U U U)) (tn (sq (sq ?_)));refine rbo (r:=37) (L':=[(0,_),(5,_),(6,_)]) (((((z5o m.cr (z4g c).1 (z4g c).2)+c.n) < -1048576)\/(1048576<((z5o m.cr (z4g c).1 (z4g c).2)+c.n)))) (.c3 U U U) ?_ ?_;refine mv U (lt' U (mv U (gs 34 U (λg0=>?_) (λg0=>?_))));exact gN U (gN U (pkt U (rbe U (.c3 U U U))));exact gY U (mv U (gY U (gt' U (pkf U (rbe U (.c3 U U U))))));refine tn (cd U (λc1=>?_) (λc1=>?_));refine sr (asg U (nn (rt (tr (r1 results148 U ?_)))));exact⟨_,rfl,MRet.err (by rw[x5k,if_pos c1]) (by decide) hM.fr⟩;refine sk (tn (sq (sr (mv U (eq' U (nn (cd U (λc2=>?_) (λc2=>?_))))))));intro a h;refine z0j (some 5) (λwb w'=>Fr [] wb w') z2s ?_;intro w8 q8;replace hM:=hM.ext q8;replace hk:=hk.ext q8;replace D:=D.ext q8;have hC:Fr [] w8 w8:=Fr.refl _ _;have O:=hM;have M:=hk;have I:=D;refine z0e 0 h U λa h=>z0o 1 h U λa h=>z0c 2 h U y2i U λa h=>z0l 3 h U (λ_ Z=>M.ext Z) U v0r U λa h=>z0z 4 h U (λ_ Z=>I.ext Z) j2u U λa h=>z0d 5 U ?_;refine j1h (V:=crK) (k:=z4g c) h U U hM.c x9g underlying135 U λw9 a1 hq _hz a h=>?_;replace hM:=hM.cross (l:=x6i m.cr (z4g c).1 (z4g c).2) (by rw[v6x _ _ _ hM.c.nodup];exact a1) hq;refine z1n ?_;refine z0r ?_;clear hC O M I;refine bk (h.sub (L':=[]) .nil) (tn (sr (asg U (nn (rt (r1 results148 U ?_))))));exact⟨_,rfl,MRet.ok (by rw[x5k,if_neg c1,if_pos c2]) hM⟩;intro a h;refine z0j (some 6) (λwb w'=>Fr [] wb w') z2s ?_;intro a3 a2;replace hM:=hM.ext a2;replace hk:=hk.ext a2;replace D:=D.ext a2;have hC:Fr [] a3 a3:=Fr.refl _ _;have O:=hM;have M:=hk;have I:=D;refine z0e 0 h U λa h=>z0o 1 h U λa h=>z0c 2 h U y2i U λa h=>z0l 3 h U (λ_ Z=>M.ext Z) U v0r U λa h=>z0z 4 h U (λ_ Z=>I.ext Z) j2u U λa h=>z0e 5 h U λa h=>z0d 6 U ?_;refine y8d (V:=crK) (k:=z4g c) (v:=.int .i64 ((z5o m.cr (z4g c).1 (z4g c).2)+c.n)) h U U U hM.c x9g underlying135 λb3 a1 hq _hz a h=>?_;replace hM:=hM.cross (l:=y4h m.cr (z4g c).1 (z4g c).2 (z5o m.cr (z4g c).1 (z4g c).2+c.n)) (by rw[v6e _ _ _ _ hM.c.nodup];exact a1) hq;refine z1n ?_;refine z0r ?_;clear hC O M I;refine bk (h.sub (L':=[]) .nil) (tn (sr (asg U (nn (rt (r1 results148 U ?_))))));exact⟨_,rfl,MRet.ok (by rw[x5k,if_neg c1,if_neg c2]) hM⟩
theorem u2f (m:MQ)(j:Nat):m.p.ys.getD j yn0=(m.ys.getD j yq0).p:=by
 show (m.ys.map YQ.p).getD j yn0=_;rw[List.getD,List.getD,List.getElem?_map];cases m.ys[j]?<;>rfl
theorem y1a {l:List Cx}{i:Nat}(h:i<l.length):l.take (i+1)=l.take i++[l.getD i cx0]:=by
 rw[List.take_add_one,List.getD,List.getElem?_eq_getElem h];rfl
theorem v1b {l r I:List Cx}{i:Nat}{e:Int}(h:z3l l (r.take i)=.ok I)(O:i<r.length)(M:y4g I (r.getD i cx0)=.error e):z3l l r=.error e:=by
 have D:=y2t (c:=r.getD i cx0) h;rw[<-y1a O,M]at D;have J:=x3g (r.drop (i+1)) D;rwa [List.take_append_drop]at J
theorem u1w {p:MSt}{c:Cx}{e:Int}(h:u8j p c=.error e):y4g p.cr c=.error e:=by
 unfold u8j at h;split at h;rename_i D;cases h;exact D;cases h
theorem u7h {p q:MSt}{c:Cx}(h:u8j p c=.ok q):∃l,y4g p.cr c=.ok l/\q={ p with cr:=l }:=by
 unfold u8j at h;split at h;cases h;rename_i l D;cases h;exact⟨l,D,rfl⟩
theorem v9y {m:MQ}{d:Int}{D:List YQ}(M:D.length=6)(I:m.ys.length=6)(O:∀j,j<6->z6t m.p d (m.ys.getD j yq0).p=.ok (D.getD j yq0).p):z3s m.p d m.p.ys=.ok (D.map YQ.p):=by
 refine y7m (by simp[M,I]) λj Z=>?_;have J:j<6:=by simpa[I] using Z
 rw[u2f,O j J];congr 1;rw[List.getD,List.getD,List.getElem?_map];cases D[j]?<;>rfl
theorem u0u {m:MQ}{d:Int}{D:List YQ}{J:YQ}{i:Nat}(M:D.length=6)(O:i<6)(I:∀j,j<i->z6t m.p d (m.ys.getD j yq0).p=.ok (D.getD j yq0).p)(h:z6t m.p d (m.ys.getD i yq0).p=.ok J.p):∀j,j<i+1->z6t m.p d (m.ys.getD j yq0).p=.ok ((D.set i J).getD j yq0).p:=λj Z=>by
 rw[z1i (by omega)]
 by_cases e:i=j
 ·subst e;rw[if_pos U];exact h
 rw[if_neg e];exact I j (by omega)
theorem v5i {m:MQ}{d:Int}{D:List YQ}{i:Nat}(I:∀j,i<=j->D.getD j yq0=m.ys.getD j yq0)(J:∀j,j<i->z6t m.p d (m.ys.getD j yq0).p=.ok (D.getD j yq0).p)(h:(m.ys.getD i yq0).inn=false):∀j,j<i+1->z6t m.p d (m.ys.getD j yq0).p=.ok (D.getD j yq0).p:=λj M=>by
 by_cases e:j=i
 ·subst e;rw[I j (Nat.le_refl _)];unfold z6t;rw[if_pos h]
 exact J j (by omega)
theorem u1b {m:MQ}{D:List YQ}{M:YQ}{i:Nat}(J:D.length=6)(O:i<6)(I:∀j,i<=j->D.getD j yq0=m.ys.getD j yq0):∀j,i+1<=j->(D.set i M).getD j yq0=m.ys.getD j yq0:=λj Z=>by
 rw[z1i (by omega),if_neg (by omega)];exact I j (by omega)
set_option maxHeartbeats 4000000 in
theorem j0i (wS:World)(ka:MA)(m:MQ)(d:Int)(w0:World)(hM:MkM τd 137 wS ka w0 m)(hi:MInv m.p)(b1:StT wS)(hd:d=0\/d=1)(c9:-4<=m.rk+stI d/\m.rk+stI d<=4):Rets prog 111 #[.pointer (some ⟨ka.gk,0,none⟩),.int .u8 d] w0 λr w'=>MRet τd 137 wS ka (y4b m.p d) r w':=by
 have g0:=hM.fr.size;have e9:=hM.gk;have O:=hM.k;have f8:=O.lt;have b7:=hM.ly;have f1:=(hM.y.out.blk ka.gy (by simp[z0x])).2;have hI:=hi;have f0:ka.gk≠ka.gy:=λe=>Own.neB hM.y.out hM.k (by decide) (by simp[z0x,e]);have f9:(z3m m.q.p m.rk d).length<=640:=by
  have x:(z3m m.q.p m.rk d).length<=16*m.p.B.b.length:=y5s hI.B m.rk d;have y:=hI.B.lb;omega
 refine we [(0,.pointer (some ⟨ka.gk,0,none⟩)),(1,.int .u8 d)] func111 U ntmps111 U (.c2 U U) ?_;have a0:=hM;refine sr (asg U (nn (sq (sr (mv U (nlc U (fad U z3d (z0g U O U y0q (lnS U underlying33 (mv U (nn (bl ?_))))))))))));refine lpK (ι:=Nat) [(0,_),(1,_),(17,_),(18,_)] (λi=>[(19,.int .i64 (i:Int))]) (λi w'=>Fr [ka.gy] w0 w'/\i<=6/\(∃M:List YQ,M.length=6/\(∀j,j<i->z6t m.p d (m.ys.getD j yq0).p=.ok (M.getD j yq0).p)/\(∀j,i<=j->M.getD j yq0=m.ys.getD j yq0)/\MkM τd 137 wS ka w' { m with ys:=M })) (λi=>6-i) 0 (.c5 U U U U U) ⟨Fr.refl _ _,⟨Nat.zero_le _,⟨m.ys,b7,λj hj=>by omega,λj _=>rfl,hM⟩⟩⟩ ?_;rintro i w1 ⟨q1,⟨hi,⟨M,a4,a6,a5,hM⟩⟩⟩;have z1:=q1.size;have a0:=hM;refine kpC [(0,_),(1,_),(17,_),(18,_),(19,_)] (.c5 U U U U U) ?_;have O:=hM.k;refine sr (lt' U (nn (sq (cd U (λc0=>?_) (λc0=>?_)))));have f7:i<6:=by omega
 refine sk (tn (sq (bl (sr (mv U (z1a (yq0) U (show Sl z2v _ ka.YV M from hM.y.out.sl) U y0y z1d (λe5 b3=>?_)))))));refine z1j U (b3 _ (show Sl z2v _ ka.YV M from hM.y.out.sl)) z6u (al y1y U (λg6 w2 f5 D q2 z2=>?_));refine asg U (z0i (vs:=[_,_,_,_,_]) U D z7k (λw3 D q3 z3=>?_) (h1:=(by first|(simp[Value.oneCell',S];done)|exact z2v.one (m.ys.getD i yq0))));rw[a5 i (Nat.le_refl _)]at D;refine nn (sq (sr (fad U z9d (z0g U D U na4 (nt' U (nn (cd U (λc1=>?_) (λc1=>?_))))))));refine ex (te (xh (tn (rg (z0v U (wi6 (by omega)) (mv U (nl ?_)))))));replace hM:=a0.ext (q2.z1 q3);exact lpE (i+1) (.c5 U U U U U) ⟨((Fr.refl [ka.gy] _).z3 q1 q2 q3),⟨by omega,⟨M,a4,v5i a5 a6 (by simpa using c1),λj hj=>a5 j (by omega),hM⟩⟩⟩ (by omega);have d0:=(hI.yn i (by omega)).1;rw[u2f]at d0;have b9:=j6p (by have:=d0.2;rw[if_pos (by simpa using c1)]at this;exact this.1);have f2:(z4j m.q.p m.rk d (m.ys.getD i yq0).pl).length<=50000:=by
  have x:(z4j m.q.p m.rk d (m.ys.getD i yq0).pl).length<=4*m.p.B.b.length:=x3p hI.B m.rk d _;have y:=hI.B.lb;omega
 refine sk (tn (sq ?_));replace hM:=a0.ext (q2.z1 q3);replace O:=(O.ext q2).fr q3;intro a h;refine z0j none (λwb w'=>Fr [] wb w') z2s ?_;intro w4 q4;have z4:=q4.size;replace hM:=hM.ext q4;replace O:=O.ext q4;replace D:=D.ext q4;have hC:Fr [] w4 w4:=Fr.refl _ _;have Z:=hM;have I:=O;have J:=D;refine z0e 0 h U λa h=>z0o 1 h U λa h=>z0c 2 h U z3f U λa h=>z1e (vs:=[_,_]) 3 h U (λ_ hw=>(I.ext hw)) z5x U U λa h=>z0e 4 h U λa h=>z0o 5 h U λa h=>z0c 6 h U z3v U λa h=>z0l 7 h U (λ_ hw=>I.ext hw) U na3 U λa h=>z0e 8 h U λa h=>z0c 9 h U z5w U λa h=>z0l 10 h U (λ_ hw=>J.ext hw) U na3 U λa h=>?_;refine z0d 11 U ?_;refine z0m h (z0a U (z0a U (z0a U (z0a U z0f)))) (mkC func145) (u0k m.q m.rk d (m.ys.getD i yq0).pl _ hM.b.at hI.B (b1.ext hM.fr.fr) hI.rk hd c9 b9.1 b9.2) ?_;rintro _ w5 ⟨⟨f4,rfl,e8,hW⟩,q5⟩ a h;have z5:=q5.size;replace hM:=hM.ext q5;replace O:=O.ext q5;replace D:=D.ext q5;replace hC:=hC.next q5;refine z0b ?_;refine z0e 12 h U λa h=>z0n 13 h U λa h=>z0n 14 h U λa h=>z0d 15 U ?_;refine z0s h U λa h=>?_;refine z0b ?_;refine z0d 16 U ?_;refine z0s h U λa h=>?_;refine z0b ?_;refine z0r ?_;clear hC Z I J;refine bk (h.sub (L':=[(0,_),(1,_),(5,_),(6,_),(7,_),(8,_),(17,_),(18,_),(19,_)]) (.d8 U U U U U U U U (.cons U .nil))) (tn (sq (sr (mv U (ne' U (nn (cd U (λc2=>?_) (λc2=>?_))))))));refine sr (mv U (asg U (kpL [(4,_)] (.cons U .nil) (nn (rt (tr (rb (tr (tr (rb (tr (r1 results111 U ?_))))))))))));exact absurd U c2;refine sk (tn (sq ?_));intro a h;refine z0j (some 15) (λwb w'=>Fr [ka.gy] wb w') z2s ?_;intro w6 q6;have z6:=q6.size;replace hM:=hM.ext q6;replace O:=O.ext q6;replace D:=D.ext q6;replace hW:=hW.ext q6;have hC:Fr [ka.gy] w6 w6:=Fr.refl _ _;have Z:=hM;have I:=O;have J:=D;have b2:=hW;refine z0e 0 h U λa h=>z0o 1 h U λa h=>z0c 2 h U z3d U λa h=>z0l 3 h U (λ_ hw=>I.fr hw (by simp<;>omega)) U y0q U λa h=>z0e 4 h U λa h=>z0z 5 h U (λ_ hw=>J.fr hw (by simp<;>omega)) z6u U λa h=>z0c 6 h U z5w U λa h=>z0l 7 h U (λ_ hw=>J.fr hw (by simp<;>omega)) U na3 U λa h=>z0e 8 h U λa h=>z0d 9 U ?_;refine z0m h (z0a U (z0a U (z0a U z0f))) (mkC func146) (v0g (m.ys.getD i yq0) (m.ys.getD i yq0).pl _ (z4j m.q.p m.rk d (m.ys.getD i yq0).pl) _ (by have x:=(hM.y.ins i (by rw[hM.ly];omega)).sl;rw[show ({ m with ys:=M }:MQ).ys.getD i yq0=m.ys.getD i yq0 from a5 i (Nat.le_refl _)]at x;exact x) hW.sl (λk O=>(hW.blk k O).2) (by omega)) ?_;rintro _ w7 ⟨qn,rfl,b6,q7⟩ a h;have z7:=q7.size;replace hM:=hM.ext q7;replace O:=O.ext q7;replace D:=D.ext q7;replace hW:=hW.ext q7;replace hC:=hC.next q7;refine z0b ?_;refine z0e 10 h U λa h=>z0n 11 h U λa h=>z0n 12 h U λa h=>z1o 13 (by kernel_rfl) (by kernel_rfl) (by kernel_rfl) hC (p:=i) h wn U y0y (by omega) (by omega) (by omega) U U λa h=>z0d 14 U ?_;refine z1b (i:=i) (qn:YQ) h U hM.y.out (by rw[hM.ly];omega) U z7k λw8 a7 q8 _hz a h=>?_;have b5:=hM.fr.step q8 (y7s hM.y.out (by simp[v9h])) (λk O a9=>absurd (hM.y.out.blk k O).1 (by omega));have d6:=λhc:(goE (m.ys.getD i yq0).p (m.ys.getD i yq0).pl (z4j m.q.p m.rk d (m.ys.getD i yq0).pl))=0=>hM.yarn mtd (j:=i) (y:=qn) (by omega) a7 q8 ((b6 hc).2.low (by omega));clear a7 hM;have z8:=q8.size;replace D:=D.fr q8;replace hW:=hW.fr q8 (by simp[z0x]<;>omega);replace hC:=hC.sp q8;clear _hz;refine z0b ?_;refine z0d 15 U ?_;refine z0s h U λa h=>?_;refine z1n ?_;refine z0r ?_;clear hC Z I J b2;refine bk (h.sub (L':=[(0,_),(1,_),(8,_),(17,_),(18,_),(19,_)]) (.c6 U U U U U U)) (tn (sr (mv U (ne' U (nn (cd U (λc3=>?_) (λc3=>?_)))))));refine sr (mv U (asg U (kpL [(4,_)] (.cons U .nil) (nn (rt (rb (tr (tr (rb (tr (r1 results111 U ?_)))))))))));exact⟨_,rfl,MRet.err (by unfold y4b;rw[y8s (i:=i) (e:=(goE (m.ys.getD i yq0).p (m.ys.getD i yq0).pl (z4j m.q.p m.rk d (m.ys.getD i yq0).pl))) (by simp only[List.length_map];omega) (λj hj=>⟨_,by rw[u2f];exact a6 j hj⟩) (by rw[u2f];unfold z6t;rw[if_neg (by simpa using c1),if_pos c3])]) c3 b5⟩;have hM:=d6 (Classical.not_not.1 c3);have a0:=hM;refine sk (bn' (tn (rg (z0v U (wi6 (by omega)) (mv U (nl ?_))))));exact lpE (i+1) (.c5 U U U U U) ⟨((((Fr.refl [ka.gy] _).z6 q1 q2 q3 q4 q5 q6).n1 q7).z1 q8),⟨by omega,⟨M.set i qn,by rw[List.length_set];exact a4,u0u a4 (by omega) a6 (by unfold z6t;rw[if_neg (by simpa using c1),if_neg (λe=>e (Classical.not_not.1 c3)),(b6 (Classical.not_not.1 c3)).1]),u1b a4 (by omega) a5,hM⟩⟩⟩ (by omega);obtain rfl:i=6:=by omega
 have b8:=v9y a4 b7 a6;refine ex (te (te (xh (tn (sq ?_)))));intro a h;refine z0j none (λwb w'=>Fr [] wb w') z2s ?_;intro w9 q9;have z9:=q9.size;replace hM:=hM.ext q9;replace O:=O.ext q9;have hC:Fr [] w9 w9:=Fr.refl _ _;have Z:=hM;have I:=O;refine z0e 0 h U λa h=>z0o 1 h U λa h=>z0c 2 h U z3f U λa h=>z1e (vs:=[_,_]) 3 h U (λ_ hw=>(I.ext hw)) z5x U U λa h=>z0e 4 h U λa h=>z0o 5 h U λa h=>z0c 6 h U z3v U λa h=>z0l 7 h U (λ_ hw=>I.ext hw) U na3 U λa h=>z0e 8 h U λa h=>z0d 9 U ?_;refine z0m h (z0a U (z0a U (z0a U z0f))) (mkC func147) (j0v m.q m.rk d _ hM.b.at hI.B (b1.ext hM.fr.fr) hI.rk hd c9) ?_;rintro _ g1 ⟨⟨gl,rfl,f6,hX⟩,q10⟩ a h;have g7:=q10.size;replace hM:=hM.ext q10;replace O:=O.ext q10;replace hC:=hC.next q10;refine z0b ?_;refine z0e 10 h U λa h=>z0n 11 h U λa h=>z0n 12 h U λa h=>z0d 13 U ?_;refine z0s h U λa h=>?_;refine z0b ?_;refine z0d 14 U ?_;refine z0s h U λa h=>?_;refine z0b ?_;refine z0r ?_;clear hC Z I;refine bk (h.sub (L':=[(0,_),(9,_),(10,_)]) (.c3 U U U)) (tn (sq (sr (mv U (ne' U (nn (cd U (λc4=>?_) (λc4=>?_))))))));refine sr (mv U (asg U (nn (rt (tr (r1 results111 U ?_))))));exact absurd U c4;refine sk (tn (sq (sr (mv U (lnS U underlying242 (mv U (nn (bl ?_))))))));refine lpK (ι:=Nat) [(0,_),(79,_),(80,_)] (λi=>[(81,.int .i64 (i:Int))]) (λi w'=>i<=(z3m m.q.p m.rk d).length/\(∃(mi:MQ) (li:List Cx),z3l m.cr ((z3m m.q.p m.rk d).take i)=.ok li/\mi.p={ m.p with ys:=M.map YQ.p,cr:=li }/\MkM τd 137 wS ka w' mi/\Lw.Own z4v 246 w0.heap.size w' (.slice (some ⟨gl,0,none⟩) (z3m m.q.p m.rk d).length (z3m m.q.p m.rk d).length) (z3m m.q.p m.rk d))) (λi=>(z3m m.q.p m.rk d).length-i) 0 (.c4 U U U U) ⟨Nat.zero_le _,⟨{ m with ys:=M },m.cr,rfl,rfl,hM,hX.low (by omega)⟩⟩ ?_;rintro i g3 ⟨hi,⟨mi,li,a2,a3,hM,hX⟩⟩;have a0:=hM;refine kpC [(0,_),(79,_),(80,_),(81,_)] (.c4 U U U U) (sr (lt' U (nn (sq (cd U (λc5=>?_) (λc5=>?_))))));have a9:i<(z3m m.q.p m.rk d).length:=by omega
 refine sk (tn (sq (bl (sr (z1a (cx0) U hX.sl U y3e z1d (λe6 b4=>?_))))));refine z1j U (b4 _ hX.sl) v1j (al j7l U (λf3 g4 e7 a1 d1 g8=>?_));refine z0i (vs:=[_,_,_,_,_]) U a1 v7r (λe3 a1 d3 g9=>?_) (h1:=(by first|(simp[Value.oneCell',S];done)|exact z2v.one (m.ys.getD i yq0)));refine nn (sr (mv U (z0k U a1 v1j ?_)));replace hM:=a0.ext (d1.z1 d3);replace hX:=(hX.ext d1).fr d3 (by first|exact y0m hX (by omega)|simp[z0x]<;>omega);have b0:=hM.fr;have d9:mi.cr=li:=congrArg MSt.cr a3;refine cl (z0a U (z0a U z0f)) (mkC func148) (j2x wS { ka with wk:=e3 } mi ((z3m m.q.p m.rk d).getD i cx0) _ hM.mark (by rw[d9];exact y9j hI.cv a2) (j8n _ (z0t (by omega)))) U ?_;intro _ g5 hR;obtain⟨rfl,a8,m2,e0⟩:=hR.split;have e4:=a8.kp.size;simp only at e4;replace hX:=a8.kp.own hX (hM.gcneO hX) (by decide);refine asg U (nn (sr (mv U (ne' U (nn (cd U (λc6=>?_) (λc6=>?_)))))));refine sr (mv U (asg U (kpL [(4,_)] (.cons U .nil) (nn (rt (rb (tr (tr (rb (tr (r1 results111 U ?_)))))))))));exact⟨_,rfl,MRet.err (by unfold y4b;rw[b8];simp only;rw[v1b a2 a9 (by have x:=u1w (z6i c6);rw[show mi.p.cr=li from congrArg MSt.cr a3]at x;exact x)]) c6 (a8.un b0)⟩;obtain⟨d4,e2⟩:=e0 (Classical.not_not.1 c6);have d5:=d4.unmark b0;obtain⟨l2,d7,e1⟩:=u7h e2;refine sk (bn' (tn (rg (z0v U (wi6 (by omega)) (mv U (nl ?_))))));exact lpE (i+1) (.c4 U U U U) ⟨by omega,⟨m2,l2,by rw[y1a a9,y2t a2,<-(show mi.cr=li from congrArg MSt.cr a3)];exact d7,by rw[e1,a3],d5,hX⟩⟩ (by omega);obtain rfl:i=(z3m m.q.p m.rk d).length:=by omega
 refine ex (te (te (xh (tn (sr (asg U (nn (rt (r1 results111 U ?_)))))))));exact⟨_,rfl,MRet.ok (by rw[List.take_length]at a2;unfold y4b;rw[b8,a3];simp only;rw[show z3l m.p.cr (z3m m.p.B m.p.rk d)=.ok li from a2]) hM⟩
theorem x0q (p:MSt)(d:Int):z3q p d=match y4b p d with
    | .error e=>.error e
    | .ok q=>.ok { q with rk:=p.rk+stI d }:=by
  unfold z3q y4b
  cases z3s p d p.ys with
  | error e=>rfl
  | ok ys=>
    simp only
    cases z3l p.cr (z3m p.B p.rk d) with
    | error e=>rfl
    | ok cr=>rfl
theorem u3w {p:MSt}{r:Int}(n:Nat)(h:p.rk=r):z4m n p r=.ok p:=by
 cases n with
 | zero=>rfl
 | succ n=>unfold z4m;rw[if_pos h]
theorem u0i {p:MSt}{r e:Int}{n:Nat}(h:p.rk≠r)(hn:1<=n)(D:y4b p (if r<p.rk then 0 else 1)=.error e):z4m n p r=.error e:=by
 obtain⟨k,rfl⟩:∃k,n=k+1:=⟨n-1,by omega⟩;unfold z4m;rw[if_neg h,x0q,D]
theorem u7y {p q:MSt}{r:Int}{n:Nat}(h:p.rk≠r)(hn:1<=n)(D:y4b p (if r<p.rk then 0 else 1)=.ok q):z4m n p r=z4m (n-1) { q with rk:=p.rk+stI (if r<p.rk then 0 else 1) } r/\z3q p (if r<p.rk then 0 else 1)=.ok { q with rk:=p.rk+stI (if r<p.rk then 0 else 1) }:=by
 obtain⟨k,rfl⟩:∃k,n=k+1:=⟨n-1,by omega⟩
 constructor
 ·conv=>lhs;unfold z4m
  rw[if_neg h,x0q,D];rfl
 rw[x0q,D]
set_option maxHeartbeats 2000000 in
theorem j1q (wS:World)(ka:MA)(m:MQ)(o:MOp)(w0:World)(hM:MkM τd 137 wS ka w0 m)(hi:MInv m.p)(a9:StT wS)(b9:-4<=o.r/\o.r<=4):Rets prog 66 #[.pointer (some ⟨ka.gk,0,none⟩),opV o] w0 λr w'=>MRet τd 137 wS ka (u0h m.p o) r w':=by
 have d0:=hM.fr.size;have b3:=hM.gk;have b8:=hM.k.lt;have c9:-4<=m.rk/\m.rk<=4:=hi.rk;refine we [(0,.pointer (some ⟨ka.gk,0,none⟩)),(1,opV o)] func66 U ntmps66 U (.c2 U U) ?_;have a0:=hM;refine sr (bx U (λg3 w1 b7 I q1 z1=>(asg U (nn (sq (bl ?_))))));replace hM:=a0.ext q1;refine lpK (ι:=Nat) [(0,_),(3,_)] (λn=>[]) (λn w'=>∃D:MQ,(z4m 8 m.p o.r=z4m n D.p o.r/\MInv D.p/\-(n:Int)<=o.r-D.rk/\o.r-D.rk<=n)/\MkM τd 137 wS ka w' D/\Blk w' g3 28 [.int .u8 o.k,.int .u8 o.d,.int .u8 o.b,.int .i64 o.p,.int .u8 o.y,.int .i64 o.r]) (λn=>n) 8 (.c2 U U) ⟨m,⟨rfl,hi,by omega,by omega⟩,hM,I⟩ ?_;rintro n w2 ⟨D,⟨a2,Z,b5,b6⟩,hM,I⟩;have a0:=hM;have a6:=I.lt;refine kpC [(0,_),(3,_)] (.c2 U U) ?_;have O:=hM.k;have b4:-4<=D.rk/\D.rk<=4:=Z.rk;refine sq (sq ?_);intro a h;refine z0j none (λwb w'=>Fr [] wb w') z2s ?_;intro w3 q3;replace I:=I.ext q3;replace O:=O.ext q3;have hC:Fr [] w3 w3:=Fr.refl _ _;have M:=I;have J:=O;refine z0e 0 h U λa h=>z0o 1 h U λa h=>z0c 2 h U z3v U λa h=>z0l 3 h U (λ_ hw=>J.ext hw) U na3 U λa h=>z0c 4 h U y3z U λa h=>z0l 5 h U (λ_ hw=>M.ext hw) U na3 U λa h=>j5p 6 hC h wn U U U U λa h=>z0r ?_;clear hC M J;refine bk (h.sub (L':=[(0,_),(3,_),(14,_)]) (.c3 U U U)) (tn (cd U (λc0=>?_) (λc0=>?_)));have a4:D.p.rk≠o.r:=c0;refine sk (tn (bl (sq ?_)));intro a h;refine z0j none (λwb w'=>Fr [] wb w') z2s ?_;intro w4 q4;replace O:=O.ext q4;have hC:Fr [] w4 w4:=Fr.refl _ _;have J:=O;refine z0e 0 h U λa h=>z0o 1 h U λa h=>z0c 2 h U z3v U λa h=>z0l 3 h U (λ_ hw=>J.ext hw) U na3 U λa h=>z5c 4 h U (by first|exact i6 (by omega)|rfl) U λa h=>z0d 5 U ?_;refine z0s h U λa h=>?_;refine z0b ?_;refine z0d 6 U ?_;refine z0s h U λa h=>?_;refine z0b ?_;refine z0r ?_;clear hC J;refine bk (h.sub (L':=[(0,_),(3,_),(5,_),(6,_)]) (.c4 U U U U)) (tn ?_);refine jn (ι:=Unit) [(0,_),(3,_)] (λ_j=>[(5,.int .u8 (if o.r<D.rk then (0:Int) else 1)),(6,.int .i64 (D.rk+stI (if o.r<D.rk then (0:Int) else 1)))]) (λ_j w'=>Fr [] w4 w') (.c2 U U) ?_ ?_;refine sq ?_;intro a h;refine z0j none (λwb w'=>Fr [] wb w') z2s ?_;intro w5 q5;replace I:=I.ext (q4.n1 q5);replace O:=O.ext q5;have hC:Fr [] w5 w5:=Fr.refl _ _;have M:=I;have J:=O;refine z0c 0 h U y3z U λa h=>z0l 1 h U (λ_ hw=>M.ext hw) U na3 U λa h=>z0e 2 h U λa h=>z0o 3 h U λa h=>z0c 4 h U z3v U λa h=>z0l 5 h U (λ_ hw=>J.ext hw) U na3 U λa h=>v1w 6 hC h wn U U λa h=>z0r ?_;clear hC M J;refine bk (h.sub (L':=[(0,_),(3,_),(5,_),(6,_),(26,_)]) (.c5 U U U U U)) (tn (cd U (λc1=>?_) (λc1=>?_)));intro a h;refine z0j none (λwb w'=>Fr [] wb w') z2s ?_;intro w6 q6;replace O:=O.ext q6;have hC:Fr [] w6 w6:=Fr.refl _ _;have J:=O;refine z0e 0 h U λa h=>z0o 1 h U λa h=>z0c 2 h U z3v U λa h=>z0l 3 h U (λ_ hw=>J.ext hw) U na3 U λa h=>z3e 4 h wn U (by first|exact i6 (by omega)|rfl) U λa h=>z0d 5 U ?_;refine z0s h U λa h=>?_;refine z0b ?_;refine z0d 6 U ?_;refine z0s h U λa h=>?_;refine z0b ?_;refine z0r ?_;clear hC J;refine bk (h.sub (L':=[(0,_),(3,_),(5,_),(6,_)]) (.c4 U U U U)) ?_;exact jE (()) (.c4 U U (congrArg (λz=>some (Value.int .u8 z)) (by first|exact(if_pos c1).symm|exact(if_neg c1).symm)) (congrArg (λz=>some (Value.int .i64 z)) (by first|(rw[show (if o.r<D.rk then (0:Int) else 1)=0 from if_pos c1,show stI 0 = -1 from U];omega)|(rw[show (if o.r<D.rk then (0:Int) else 1)=1 from if_neg c1];rfl)))) (q5.n1 q6);refine sk ?_;exact jE (()) (.c4 U U (congrArg (λz=>some (Value.int .u8 z)) (by first|exact(if_pos c1).symm|exact(if_neg c1).symm)) (congrArg (λz=>some (Value.int .i64 z)) (by first|(rw[show (if o.r<D.rk then (0:Int) else 1)=0 from if_pos c1,show stI 0 = -1 from U];omega)|(rw[show (if o.r<D.rk then (0:Int) else 1)=1 from if_neg c1];rfl)))) q5;rintro _j w7 q7;refine kpC [(0,_),(3,_),(5,_),(6,_)] (.c4 U U U U) (sq (sr (mv U (mv U ?_))));replace hM:=a0.ext (q3.n2 q4 q7);replace I:=I.ext (q4.n1 q7);have a3:=hM.fr;refine cl (z0a U (z0a U z0f)) (mkC func111) (j0i wS { ka with wk:=w7 } D (if o.r<D.rk then (0:Int) else 1) _ hM.mark Z a9 (by split<;>simp) (by have hx:-4<=D.rk/\D.rk<=4:=Z.rk;unfold stI;split<;>split at *<;>omega)) U ?_;intro _ w8 hR;obtain⟨rfl,a1,m2,b1⟩:=hR.split;have z8:=a1.kp.size;simp only at z8;replace I:=a1.kp.blk I (by have:=hM.gcne I;exact this) (by decide);refine asg U (nn (sr (mv U (ne' U (nn (cd U (λc2=>?_) (λc2=>?_)))))));refine sr (mv U (asg U (kpL [(4,_)] (.cons U .nil) (nn (rt (tr (rb (tr (rb (tr (r1 results66 U ?_)))))))))));exact⟨_,rfl,MRet.err (by unfold u0h;rw[a2];exact u0i a4 (by omega) (z6i c2)) c2 (a1.un a3)⟩;obtain⟨a8,b2⟩:=b1 (Classical.not_not.1 c2);replace hM:=a8.unmark a3;have a0:=hM;have O:=hM.k;have a5:=u7y (p:=D.p) (r:=o.r) (n:=n) a4 (by omega) b2;have a7:=y4o Z (by have hx:-4<=D.rk/\D.rk<=4:=Z.rk;show -4<=D.rk+stI (if o.r<D.rk then (0:Int) else 1)/\D.rk+stI (if o.r<D.rk then (0:Int) else 1)<=4;unfold stI;split<;>split at *<;>omega) a5.2;refine sk (tn (rg (mv U (mv U (nlc U (fad U z3v (z3b U O U sz3 (λw9 b0 q9 z9=>?_))))))));replace hM:=hM.beds mtd (q:=m2.q) (r:=D.rk+stI (if o.r<D.rk then (0:Int) else 1)) hM.b b0 q9 hM.fb;refine kpL [(0,_),(3,_)] (.c2 U U) (nl (bn' ?_));replace I:=I.fr q9;exact lpE ((n-1)) (.c2 U U) ⟨{ m2 with rk:=D.rk+stI (if o.r<D.rk then (0:Int) else 1) },⟨by rw[a2,a5.1],a7.1,by show -((n-1:Nat):Int)<=o.r-(D.rk+stI (if o.r<D.rk then (0:Int) else 1));unfold stI;split<;>split at *<;>omega,by show o.r-(D.rk+stI (if o.r<D.rk then (0:Int) else 1))<=((n-1:Nat):Int);unfold stI;split<;>split at *<;>omega⟩,hM,I⟩ (by omega);refine ex (te (te (xh (tn (sr (asg U (nn (rt (r1 results66 U ?_)))))))));replace hM:=a0.ext q3;exact⟨_,rfl,MRet.ok (by unfold u0h;rw[a2];exact u3w n (show D.rk=o.r by omega)) hM⟩
theorem j9v (w:World):(zeroValue 139).run prog w=.ok .nilFunc w:=by kernel_rfl
abbrev v9g (F:Nat):Value:=.func (.func F) #[] #[]
def j5f:Int->Option Value:=λk'=>if k'=8 then some (v9g 71) else (if k'=7 then some (v9g 70) else (if k'=6 then some (v9g 69) else (if k'=5 then some (v9g 68) else (if k'=4 then some (v9g 67) else (if k'=3 then some (v9g 66) else (if k'=2 then some (v9g 65) else (if k'=1 then some (v9g 64) else (none))))))))
theorem v8i (w0:World):Rets prog 26 #[] w0 λr w'=>(∃g,r=.map (some g)/\w0.heap.size<=g/\MapF kV w' g j5f)/\Fr [] w0 w':=by
 refine we [] func26 U ntmps26 U .nil (sr (asg U (nn (sr (y6h kV U (λI w1 J D M z1=>(z3a (V:=kV) (k:=1) U D y7e underlying93 (λw2 D O z2=>(z3a (V:=kV) (k:=2) U D y7e underlying93 (λw3 D Z z3=>(z3a (V:=kV) (k:=3) U D y7e underlying93 (λw4 D q4 z4=>?_))))))))))));refine z3a (V:=kV) (k:=4) U D y7e underlying93 (λw5 D q5 z5=>(z3a (V:=kV) (k:=5) U D y7e underlying93 (λw6 D q6 z6=>(z3a (V:=kV) (k:=6) U D y7e underlying93 (λw7 D q7 z7=>(z3a (V:=kV) (k:=7) U D y7e underlying93 (λw8 D q8 z8=>(z3a (V:=kV) (k:=8) U D y7e underlying93 (λw9 D q9 z9=>(mv U (asg U (nn (rt (r1 results26 U ?_))))))))))))));exact⟨_,rfl,⟨I,rfl,by omega,D⟩,(((M.z6 O Z q4 q5 q6 q7).z1 q8).z1 q9)⟩
theorem j8f (wS:World)(D:MA)(m:MQ)(o:MOp)(w0:World)(hM:MkM τd 137 wS D w0 m)(I:MInv m.p)(O:StT wS)(hc:y3r o=0):∃F:Nat,j5f o.k=some (v9g F)/\CallOf prog F/\Rets prog F #[.pointer (some ⟨D.gk,0,none⟩),opV o] w0 λr w'=>MRet τd 137 wS D (opM m.p o) r w':=by
 obtain⟨hk,Z,M,a0,J,hr⟩:=y0a hc;unfold opM;rcases hk with e|e|e|e|e|e|e|e<;>rw[e]at Z M a0 J hr ⊢
 exact⟨_,rfl,(mkC func64),j7r wS D m o w0 hM (M (by simp))⟩;exact⟨_,rfl,(mkC func65),j0w wS D m o w0 hM (M (by simp))⟩;exact⟨_,rfl,(mkC func66),j1q wS D m o w0 hM I O (hr (by simp))⟩;exact⟨_,rfl,(mkC func67),u9b wS D m o w0 hM I (M (by simp)) (J (by simp))⟩;exact⟨_,rfl,(mkC func68),j0p wS D m o w0 hM I (M (by simp)) (J (by simp))⟩;exact⟨_,rfl,(mkC func69),j0c wS D m o w0 hM I (M (by simp)) (J (by simp))⟩;exact⟨_,rfl,(mkC func70),j1n wS D m o w0 hM I (J (by simp))⟩;exact⟨_,rfl,(mkC func71),u8r wS D m o w0 hM I (J (by simp))⟩
theorem u4u (wS:World)(J:MA)(m:MQ)(o:MOp)(gl:Nat)(w0:World)(hM:MkM τd 137 wS J w0 m)(hi:MInv m.p)(a1:StT wS)(hl:MapF kV w0 gl j5f):Rets prog 27 #[.pointer (some ⟨J.gk,0,none⟩),.map (some gl),opV o] w0 λr w'=>MRet τd 137 wS J (doM m.p o) r w':=by
 refine we [(0,.pointer (some ⟨J.gk,0,none⟩)),(1,.map (some gl)),(2,opV o)] func27 U ntmps27 U (.c3 U U U) ?_;have a0:=hM;have a3:=hl;refine sr (bx U (λg5 w1 a4 D q1 z1=>(asg U (nn (sq (sr (z0k U D y2a (cl (ev1 U) (mkC func21) (y4m _ _) U ?_))))))));rintro _ w2 ⟨rfl,q2⟩;refine asg U (nn (sr (mv U (ne' U (nn (cd U (λO=>?_) (λO=>?_)))))));refine sr (mv U (asg U (kpL [(6,_)] (.cons U .nil) (nn (rt (tr (r1 results27 U ?_)))))));replace hM:=a0.ext (q1.n1 q2);exact⟨_,rfl,MRet.err (by unfold doM;rw[if_pos O]) O hM.fr⟩;replace hM:=a0.ext (q1.n1 q2);have hc:y3r o=0:=Classical.not_not.1 O;have I:=λw hM=>j8f wS J m o w hM hi a1 hc;obtain⟨F,hF,a2,-⟩:=I _ hM;have M:∀w,MkM τd 137 wS J w m->Rets prog F #[.pointer (some ⟨J.gk,0,none⟩),opV o] w λr w'=>MRet τd 137 wS J (opM m.p o) r w':=λw hM=>by
  obtain⟨F',Z,-,h'⟩:=I w hM;rw[hF]at Z;cases Z;exact h'
 refine sk (tn (sr (mv U (fad U z9i ?_))));replace D:=D.ext q2;refine z0g U D U v9e ?_;replace hl:=a3.ext (q1.n1 q2);refine x1c (V:=kV) (k:=o.k) (f:=j5f) (v:=v9g F) U U hl y7e underlying93 j9v (by rw[hF];rfl) U ?_;refine mv U (z0k U D y2a ?_);refine clv (us:=[]) (ws:=[]) U (ev2 U) a2 (M w2 hM) U (by intro g e;cases e) ?_;rintro a5 w3 hR;refine asg U (kpL [(6,_)] (.cons U .nil) (nn (rt (r1 results27 U ?_))));exact⟨_,rfl,by rw[show doM m.p o=opM m.p o from if_neg O];exact hR⟩
end Go.Proofs.YtpgdchkdlgkmgaaGreatDoor
namespace Go.G08
open Go.Lw Go.G21
theorem u4d (l:List Cx)(a b:LId)(n:Int):(y4h l a b n).length<=l.length+1:=by
 unfold y4h;split<;>simp
theorem u2r (l:List Cx)(a b:LId):(x6i l a b).length<=l.length+1:=Nat.le_trans (List.length_filter_le _ _) (by omega)
theorem u2n {l l':List Cx}{c:Cx}(h:y4g l c=.ok l'):l'.length<=l.length+1:=by
 rw[y2o]at h;split at h;cases h;split at h;cases h;exact u2r ..;cases h;exact u4d ..
theorem x2e:∀ {r l l':List Cx},z3l l r=.ok l'->l'.length<=l.length+r.length
 | [],l,l',h=>by cases h;exact Nat.le_refl _
 | c::r,l,l',h=>by
  unfold z3l at h
  split at h
  ·cases h
  rename_i I D
  have:=u2n D
  have:=x2e h
  simp only[List.length_cons];omega
theorem v3o {B:Bd}(h:BdOk B)(r d:Int):(z3m B r d).length<=640:=Nat.le_trans (y5s h r d) (by have:=h.lb;omega)
theorem v6a {p q:MSt}{d:Int}(h:BdOk p.B)(e:z3q p d=.ok q):q.B=p.B/\q.cr.length<=p.cr.length+640:=by
 unfold z3q at e;split at e;cases e;split at e;cases e;rename_i ys J I D;cases e;have:=x2e D;have:=v3o h p.rk d;exact⟨rfl,by simp only;omega⟩
theorem x2r:∀ {n:Nat} {p q:MSt} {r:Int},BdOk p.B->z4m n p r=.ok q->q.cr.length<=p.cr.length+n*640
 | 0,p,q,r,h,e=>by cases e;omega
 | n+1,p,q,r,h,e=>by
  unfold z4m at e
  split at e
  ·cases e;omega
  split at e
  ·cases e
  rename_i J D
  obtain⟨I,hl⟩:=v6a h D
  have:=x2r (I▸h) e
  rw[Nat.add_mul];omega
theorem x5l {p q:MSt}{y D en:Int}(e:z8z p y D en=.ok q):q.cr=p.cr:=by
 unfold z8z at e;split at e;cases e;cases e;rfl
theorem v8w {p q:MSt}{o:MOp}{D st:List LId}(e:y3x p o D st=.ok q):q.cr=p.cr:=by
 unfold y3x at e;split at e;cases e;split at e;cases e;cases e;rfl
theorem v7s {p q:MSt}{o:MOp}(h:BdOk p.B)(e:opM p o=.ok q):q.cr.length<=p.cr.length+5120:=by
 have s:∀ {x:MSt},x.cr=p.cr->x.cr.length<=p.cr.length+5120:=λI=>by rw[I];omega
 unfold opM at e;split at e;unfold inM at e;split at e;cases e;cases e;exact s U;split at e;unfold v1h at e;split at e;cases e;cases e;exact s U;split at e;have:=x2r h e;omega;split at e;unfold y2r at e;split at e;cases e;split at e;cases e;rename_i J D;exact s ((v8w e).trans (x5l D));split at e;unfold y1l at e;split at e;cases e;split at e;cases e;rename_i J D;split at e;cases e;exact s ((v8w e).trans (x5l D));split at e;unfold z7x at e;split at e;cases e;exact s (x5l e);split at e;unfold z7b at e;repeat (split at e;· cases e)
 cases e;exact s U;unfold y4i at e;split at e;cases e;cases e;exact s U
theorem x8p:∀ {l:List MOp} {i:Nat} {p q:MSt},MInv p->z6z i p l=.ok q->q.cr.length<=p.cr.length+l.length*5120
 | [],i,p,q,h,e=>by cases e;simp
 | o::l,i,p,q,h,e=>by
  unfold z6z at e
  split at e
  ·cases e
  rename_i J D
  have I:=x7r h D
  have M:=x8p I e
  have O:J.cr.length<=p.cr.length+5120:=by
   unfold doM at D
   split at D
   ·cases D
   exact v7s h.B D
  rw[List.length_cons,Nat.add_mul];omega
theorem z7t {a b:LId}:z6k a b<0↔a.y<b.y\/a.y=b.y/\a.n<b.n:=by
 unfold z6k;(repeat' split)<;>constructor<;>intro h<;>omega
theorem y6n {a b:LId}:z6k a b=0↔a=b:=by
 obtain⟨J,I⟩:=a;obtain⟨D,bn⟩:=b;rw[LId.mk.injEq];unfold z6k;dsimp only;(repeat' split)<;>constructor<;>intro h<;>omega
theorem y6a {T T':Tb}{l:Lp}(h:y6y T l)(I:∀i,z4l T i->z4l T' i):y6y T' l:=⟨h.1,h.2.1,λi D=>I i (h.2.2.1 i D),h.2.2.2⟩
theorem y9h {T:Tb}(h6:T.length=6){i:LId}(h:z4l T i):∃y n:Nat,y<6/\n<z2t T y/\i=⟨(y:Int)+1,(n:Int)⟩:=by
 obtain⟨J,M,O,Z⟩:=h;obtain⟨I,D⟩:=i;simp only at J M O Z;exact⟨(I-1).toNat,D.toNat,by omega,by omega,by rw[show (((I-1).toNat:Nat):Int)+1=I by omega,show ((D.toNat:Nat):Int)=D by omega]⟩
theorem y4t {T:Tb}{j:Nat}(J:T.length=6)(M:j<6){l:Lp}{i:LId}:z4l (T.set j (T.getD j []++[l])) i↔z4l T i\/i=⟨(j:Int)+1,(z2t T j:Int)⟩:=by
 have D:j<T.length:=by omega
 constructor;intro h;obtain⟨y,n,O,I,rfl⟩:=y9h (by rw[List.length_set];exact J) h;rw[y0j D]at I;by_cases e:j=y;subst e;rw[if_pos U,List.length_append,List.length_singleton,show (T.getD j []).length=z2t T j from U]at I;by_cases e2:n<z2t T j;exact .inl (z8u D e2);exact .inr (by rw[show n=z2t T j by omega]);rw[if_neg e]at I;exact .inl (z8u (by omega) I);rintro(h|rfl);exact y9a D h;exact z8u (by rw[List.length_set];exact D) (by rw[y0j D,if_pos U,List.length_append,List.length_singleton];exact Nat.lt_succ_self _)
structure TabR (T:Tb) (rk:LId->Nat):Prop where
  six:T.length=6
  rts:∀y,y<6->∀n,n<z2t T y->y6y T (lpA T y n)/\(n=0->(lpA T y n).nw=true)
  rkd:Ranked T rk
  top:∀i,z4l T i->rk i<z5d T
theorem TabR.add {T:Tb}{rk:LId->Nat}(h:TabR T rk){j:Nat}(hj:j<6){l:Lp}(hr:y6y T l)(h0:z2t T j=0->l.nw=true) :
    TabR (T.set j (T.getD j []++[l])) (rkX rk j (z2t T j) (z5d T)):=by
  have h6:=h.six
  have a0:j<T.length:=by omega
  have a2:z5d (T.set j (T.getD j []++[l]))=z5d T+1:=by
    have:=x0g T j (T.getD j []++[l]) a0
    rw[List.length_append,List.length_singleton,show (T.getD j []).length=z2t T j from U]at this
    omega
  have D:∀i,z4l T i->rkX rk j (z2t T j) (z5d T) i=rk i:=λi J=>by
    obtain⟨y,n,I,M,rfl⟩:=y9h h6 J
    unfold rkX
    rw[if_neg]
    rintro⟨e1,e2⟩
    simp only at e1 e2
    have:y=j:=by omega
    subst this;omega
  have O:rkX rk j (z2t T j) (z5d T) ⟨(j:Int)+1,(z2t T j:Int)⟩=z5d T:=by
    unfold rkX
    rw[if_pos ⟨rfl,by simp⟩]
    show z5d T+((z2t T j:Int)-(z2t T j:Int)).toNat=z5d T
    omega
  have hm:∀i,z4l T i->z4l (T.set j (T.getD j []++[l])) i:=λi J=>(y4t h6 hj).2 (.inl J)
  -- an old loop,or the new one
  have a1:∀y,y<6->∀n,n<z2t (T.set j (T.getD j []++[l])) y->(n<z2t T y/\lpA (T.set j (T.getD j []++[l])) y n=lpA T y n)\/(y=j/\n=z2t T j/\lpA (T.set j (T.getD j []++[l])) y n=l):=λy I n M=>by
    rw[y0j a0]at M
    rw[j2j a0]
    by_cases e:j=y
    · subst e
      rw[if_pos U,List.length_append,List.length_singleton,show (T.getD j []).length=z2t T j from U]at M
      rw[if_pos U]
      by_cases e2:n<z2t T j
      · exact .inl ⟨e2,if_pos e2⟩
      · obtain rfl:n=z2t T j:=by omega
        exact .inr ⟨rfl,rfl,by rw[if_neg e2,Nat.sub_self];rfl⟩
    · rw[if_neg e]at M
      exact .inl ⟨M,by rw[if_neg e]⟩
  have hp:∀ {y n:Nat},y<6->n<z2t T y->z4l T ⟨(y:Int)+1,(n:Int)⟩:=λI M=>z8u (by omega) M
  refine⟨by rw[List.length_set];exact h6,λy I n M=>?_,⟨λy I n M i J=>?_,λy I n m Z a3=>?_⟩,λi J=>?_⟩
  · rcases a1 y I n M with ⟨k,e⟩|⟨rfl,rfl,e⟩
    · rw[e];exact⟨y6a (h.rts y I n k).1 hm,(h.rts y I n k).2⟩
    · rw[e];exact⟨y6a hr hm,h0⟩
  · rcases a1 y I n M with ⟨k,e⟩|⟨rfl,rfl,e⟩
    · rw[e]at J
      rw[D _ (hp I k),D _ ((h.rts y I n k).1.2.2.1 i J)]
      exact h.rkd.need y I n k i J
    · rw[e]at J
      rw[O,D _ (hr.2.2.1 i J)]
      exact h.top i (hr.2.2.1 i J)
  · rcases a1 y I m a3 with ⟨k,_⟩|⟨rfl,rfl,_⟩
    · rw[D _ (hp I k),D _ (hp I (show n<z2t T y by omega))]
      exact h.rkd.mono y I n m Z k
    · rw[O,D _ (hp I Z)]
      exact h.top _ (hp I Z)
  · rw[a2]
    rcases(y4t h6 hj).1 J with k|rfl
    · rw[D _ k];have:=h.top i k;omega
    · rw[O];omega
theorem u0p {T:Tb}{j:Nat}(D:j<T.length)(l:Lp)(i:LId):(z9f (T.set j (T.getD j []++[l]))).count i=(z9f T).count i+l.th.count i:=by
 have h:=z8n x9n T j [] (T.getD j []++[l]) i D;have e:x9n (T.getD j []++[l])=x9n (T.getD j [])++l.th:=by unfold x9n;simp
 unfold z9f;rw[e,List.count_append]at h;omega
theorem v0a {T:Tb}{Z:LId->Nat}(h:TabR T Z){i:LId}(D:i∈z9f T):z4l T i:=by
 unfold z9f at D;obtain⟨r,M,D⟩:=List.mem_flatMap.1 D;unfold x9n at D;obtain⟨l,hl,D⟩:=List.mem_flatMap.1 D;obtain⟨y,O,rfl⟩:=List.getElem_of_mem M;obtain⟨n,J,rfl⟩:=List.getElem_of_mem hl;have I:T.getD y []=T[y]:=by rw[List.getD,List.getElem?_eq_getElem O];rfl
 have en:lpA T y n=T[y][n]:=by unfold lpA;rw[I,List.getD,List.getElem?_eq_getElem J];rfl
 have h6:=h.six;have:=(h.rts y (by omega) n (by unfold z2t;rw[I];exact J)).1.2.2.1 i (by rw[en];exact List.mem_append_left _ D);exact this
theorem v4a {T:Tb}{st:List Pa}{p:Pa}(h:∀q∈st,z4l T q.id)(hp:z4l T p.id):∀q∈z7a st p,z4l T q.id:=by
 unfold z7a;split;exact λq D=>h q (List.mem_of_mem_take D);intro q D;rcases List.mem_append.1 D with k|k
 exact h q k;rw[List.mem_singleton.1 k];exact hp
theorem x3n {T:Tb}:∀ {l st:List Pa},(∀q∈st,z4l T q.id)->(∀q∈l,z4l T q.id)->∀q∈z2k st l,z4l T q.id
 | [],_,h,_=>h
 | p::l,st,h,hl=>x3n (l:=l) (v4a h (hl p (by simp))) (λq D=>hl q (List.mem_cons_of_mem _ D))
theorem x4s:∀(l st:List Pa),y3d (st++l)->z2k st l=st++l
 | [],st,_=>by simp[z2k]
 | p::l,st,h=>by
  have I:z7a st p=st++[p]:=by
   unfold z7a
   rw[if_neg]
   rintro⟨O,Z⟩
   have D:=(h st.length (by simp)).2 O
   have J:(st++p::l).getD (st.length-1) pa0=st.getD (st.length-1) pa0:=by
    rw[List.getD,List.getElem?_append_left (by omega),List.getD]
   have M:(st++p::l).getD st.length pa0=p:=by simp[List.getD]
   rw[J,M]at D
   exact D Z
  show z2k (z7a st p) l=_
  rw[I,x4s l (st++[p]) (by simpa using h)]
  simp
theorem j0f {l:List Pa}(h:y3d l):(z2k [] l).length=l.length:=by rw[x4s l [] (by simpa using h)];rfl
theorem v5u {l:List Pa}(h:y3d l):∀p∈l,z4e p.d:=λp I=>by
 obtain⟨i,D,rfl⟩:=List.getElem_of_mem I
 have:=(h i D).1.2
 rwa [List.getD,List.getElem?_eq_getElem D]at this
theorem x4w (h:Hd):∀l:List Hd,(y2m h l).Perm (h::l)
 | []=>.refl _
 | x::l=>by
  unfold y2m
  split
  ·exact .refl _
  exact((x4w h l).cons x).trans (.swap h x l)
theorem v7k (l:List Hd):(z5k l).Perm l:=by
 have h:∀(l st:List Hd),(l.foldl (λa h=>y2m h a) st).Perm (st++l):=by
  intro l;induction l with
  | nil=>intro st;simp
  | cons x l ih=>
   intro st;show (l.foldl _ (y2m x st)).Perm _;exact(ih _).trans (((x4w x st).append_right l).trans (by simpa using (List.perm_middle (a:=x) (l₁:=st) (l₂:=l)).symm))
 have e:=h l [];rw[List.nil_append]at e;exact e
theorem z8h (B:Bd)(r:Int):(z2f B r).Perm (v7o B r):=v7k _
theorem v5j (b r:Int)(l:Bed):(hds b r l l.length).map Hd.id=l.flatten:=by
 have h:∀i,i<=l.length->(hds b r l i).map Hd.id=(l.take i).flatten:=by
  intro i;induction i with
  | zero=>intro _;simp[hds]
  | succ i ih=>
   intro D;rw[x0z,List.map_append,ih (by omega),List.take_add_one,List.flatten_append,List.getElem?_eq_getElem (by omega),List.getD,List.getElem?_eq_getElem (by omega)];simp[hdS,Function.comp_def]
 rw[h _ (Nat.le_refl _),List.take_length]
theorem y9e (B:Bd)(r:Int):((z2f B r).map Hd.id).Perm B.flat:=by
 refine((z8h B r).map _).trans ?_;unfold v7o Bd.flat;rw[List.map_append,v5j,v5j]
theorem u7c {B:Bd}{r f t:Int}{q:Pa}(h:q∈btw (z2f B r) f t):q.id∈B.flat:=by
 have I:∀x∈z2f B r,x.id∈B.flat:=λx D=>(y9e B r).mem_iff.1 (List.mem_map_of_mem D);unfold btw at h;split at h;obtain⟨x,D,rfl⟩:=List.mem_map.1 h;exact I x (List.mem_filter.1 D).1;obtain⟨x,D,rfl⟩:=List.mem_map.1 (List.mem_reverse.1 h);exact I x (List.mem_filter.1 D).1
theorem v0d {B:Bd}{k:Nat}{x:LId}(h:x∈B.b.getD k []):x∈B.b.flatten:=by
 by_cases e:k<B.b.length;rw[List.getD,List.getElem?_eq_getElem e]at h;exact List.mem_flatten.2 ⟨_,List.getElem_mem e,h⟩;rw[List.getD,List.getElem?_eq_none (by omega)]at h;cases h
theorem x2v {B:Bd}{r d p:Int}{i:Nat}{q:Pa}(h:q∈z7u B r d p i):q.id∈B.flat:=by
 unfold z7u at h;obtain⟨k,_,h⟩:=List.mem_flatMap.1 h;unfold y2y at h;split at h;cases h;obtain⟨x,D,rfl⟩:=List.mem_map.1 h;exact List.mem_append_right _ (v0d D)
theorem v6j {B:Bd}{r d p:Int}{q:Pa}(h:q∈z4j B r d p):q.id∈B.flat:=by
 unfold z4j at h;split at h;exact x2v (List.mem_reverse.1 h);exact x2v h
theorem v7u {B:Bd}{n:Int}{x:LId}(h:x∈B.atC 0 n):x∈B.f.flatten:=by
 unfold Bd.atC at h;split at h;unfold Bd.at at h;rw[if_pos U]at h;have D:atB B.f n≠[]:=λe=>by rw[e]at h;cases h
 exact List.mem_flatten.2 ⟨_,v8k D,h⟩;cases h
theorem x8a {B:Bd}{r d:Int}{i:Nat}{c:Cx}(hn:B.flat.Nodup)(h:c∈x4x B r d i):c.a∈B.flat/\c.b∈B.flat/\c.a≠c.b/\(c.n=1\/c.n = -1):=by
 unfold x4x at h;obtain⟨k,_,h⟩:=List.mem_flatMap.1 h;unfold v3h at h;obtain⟨x,O,h⟩:=List.mem_flatMap.1 h;obtain⟨o,M,rfl⟩:=List.mem_map.1 h;have I:x∈B.b.flatten:=v0d O;have J:o∈B.f.flatten:=v7u (List.mem_reverse.1 M);have D:o≠x:=(List.nodup_append.1 hn).2.2 o J x I;unfold x7k;split;exact⟨List.mem_append_left _ J,List.mem_append_right _ I,D,.inl U⟩;exact⟨List.mem_append_right _ I,List.mem_append_left _ J,D.symm,.inr U⟩
theorem x3l {B:Bd}{r d:Int}{c:Cx}(hn:B.flat.Nodup)(h:c∈z3m B r d):c.a∈B.flat/\c.b∈B.flat/\c.a≠c.b/\(c.n=1\/c.n = -1):=by
 unfold z3m at h;split at h;exact x8a hn (List.mem_reverse.1 h);exact x8a hn h
structure CrsOk (T:Tb) (l:List Cx):Prop where
  has:∀c∈l,z4l T c.a/\z4l T c.b/\z6k c.a c.b<0/\(-1048576<=c.n/\c.n<=1048576)/\c.n≠0
  nd:(l.map λc=>(c.a,c.b)).Nodup
theorem CrsOk.mono {T T':Tb}{l:List Cx}(h:CrsOk T l)(I:∀i,z4l T i->z4l T' i):CrsOk T' l:=⟨λc D=>⟨I _ (h.has c D).1,I _ (h.has c D).2.1,(h.has c D).2.2⟩,h.nd⟩
theorem x9l {l:List Cx}{a b:LId}{n:Int}(h:l.any (isC a b)=true):(y4h l a b n).map (λc=>(c.a,c.b))=l.map λc=>(c.a,c.b):=by
 unfold y4h;rw[if_pos h,List.map_map];refine List.map_congr_left λc _=>?_;simp only[Function.comp_apply];split;rename_i e;obtain⟨D,I⟩:=z8t.1 e;rw[D,I];rfl
theorem u1j {l:List Cx}{a b:LId}{n:Int}{c:Cx}(h:c∈y4h l a b n):c=⟨a,b,n⟩\/c∈l:=by
 unfold y4h at h;split at h;obtain⟨z,D,rfl⟩:=List.mem_map.1 h;split;exact .inl U;exact .inr D;rcases List.mem_append.1 h with k|k
 exact .inr k;exact .inl (List.mem_singleton.1 k)
theorem x7z {a b:LId}(h:a≠b)(D:¬0<z6k a b):z6k a b<0:=by
 have:=mt y6n.1 h;omega
theorem x4b {a b:LId}(h:0<z6k a b):z6k b a<0:=by
 rw[z7t];unfold z6k at h;(repeat' split at h)<;>omega
theorem CrsOk.add {T:Tb}{l l':List Cx}{c:Cx}(h:CrsOk T l)(O:z4l T c.a)(hb:z4l T c.b)(I:c.a≠c.b)(e:y4g l c=.ok l'):CrsOk T l':=by
 unfold y4g at e;dsimp only at e;obtain⟨a,b,hk,h1,h2,h3⟩:∃a b,(if 0<z6k c.a c.b then (c.b,c.a) else (c.a,c.b))=(a,b)/\z4l T a/\z4l T b/\z6k a b<0:=by
  split;rename_i k;exact⟨_,_,rfl,hb,O,x4b k⟩;rename_i k;exact⟨_,_,rfl,O,hb,x7z I k⟩
 rw[hk]at e;split at e;cases e;rename_i hr;split at e;cases e;exact⟨λx D=>h.has x (List.mem_filter.1 D).1,h.nd.sublist (List.filter_sublist.map _)⟩;rename_i M;cases e;dsimp only at hr M ⊢;refine⟨λx D=>?_,?_⟩;rcases u1j D with rfl|k
 exact⟨h1,h2,h3,by dsimp only;omega,M⟩;exact h.has x k;by_cases k:l.any (isC a b)=true;rw[x9l k];exact h.nd;unfold y4h;rw[if_neg k,List.map_append,List.map_singleton,List.nodup_append];refine⟨h.nd,by simp,λx D y hy=>?_⟩;obtain⟨z,hz,rfl⟩:=List.mem_map.1 D;rw[List.mem_singleton.1 hy];intro J;have Z:=congrArg Prod.fst J;have e2:=congrArg Prod.snd J;exact k (List.any_eq_true.2 ⟨z,hz,z8t.2 ⟨Z,e2⟩⟩)
theorem CrsOk.adds {T:Tb}:∀ {r l l':List Cx},CrsOk T l->(∀c∈r,z4l T c.a/\z4l T c.b/\c.a≠c.b)->z3l l r=.ok l'->CrsOk T l'
 | [],l,l',h,_,e=>by cases e;exact h
 | c::r,l,l',h,hr,e=>by
  unfold z3l at e
  split at e
  ·cases e
  rename_i M I
  have D:=hr c (by simp)
  exact CrsOk.adds (h.add D.1 D.2.1 D.2.2 I) (λx J=>hr x (List.mem_cons_of_mem _ J)) e
def YnV (T:Tb)(y:Yn):Prop:=(∀q∈y.pe,z4l T q.id)/\(y.inn=true->y.ct=0->y.nw=true)
structure MVal (p:MSt):Prop where
  inv:MInv p
  yv:∀k,k<6->YnV p.tb (p.ys.getD k yn0)
  tab:∃rk,TabR p.tb rk
  once:∀i,z4l p.tb i->(p.B.flat++p.fa++z9f p.tb).count i=1
  fa:∀i∈p.fa,z4l p.tb i
  cr:CrsOk p.tb p.cr
theorem z8a:MVal start:=by
 have I:∀y,z2t start.tb y=0:=λy=>by
  simp only[start,z2t,List.getD,List.getElem?_replicate];split<;>rfl
 have J:∀i,¬z4l start.tb i:=λi D=>by
  obtain⟨_,_,h3,Z⟩:=D;rw[I]at Z;omega
 refine⟨y1h,λk hk=>?_,⟨λ_=>0,rfl,λy M n h=>by rw[I]at h;omega,⟨λy M n h=>by rw[I]at h;omega,λy M n m h O=>by rw[I]at O;omega⟩,λi D=>absurd D (J i)⟩,λi D=>absurd D (J i),(by intro i D;cases D),⟨(by intro c hc;cases hc),by simp[start]⟩⟩;have:start.ys.getD k yn0=yn0:=by
  simp only[start,List.getD,List.getElem?_replicate];split<;>rfl
 rw[this];exact⟨(by intro q hq;cases hq),(by intro h;cases h)⟩
theorem x1l {p:MSt}{y:Int}{q:Yn}(h:MVal p)(D:MInv (p.setY y q))(M:1<=y/\y<=6)(J:YnV p.tb q):MVal (p.setY y q):=by
 have hl:(y-1).toNat<p.ys.length:=by rw[h.inv.ly];omega
 refine⟨D,λk I=>?_,h.tab,h.once,h.fa,h.cr⟩;show YnV p.tb ((p.ys.set (y-1).toNat q).getD k yn0);rw[z1i hl];split;exact J;exact h.yv k I
theorem j4d {p:MSt}(h:MVal p){y:Int}(D:1<=y/\y<=6):YnV p.tb (p.y y):=h.yv (y-1).toNat (by omega)
theorem go_v {T:Tb}{y:Yn}{D:Int}{l:List Pa}(h:YnV T y)(hl:∀q∈l,z4l T q.id):YnV T (goS y D l):=⟨x3n h.1 hl,h.2⟩
theorem x6q {p q:MSt}{y M en:Int}(h:MVal p)(D:1<=y/\y<=6)(e:z8z p y M en=.ok q):MVal q/\q.B=p.B/\q.rk=p.rk:=by
 have I:=y2w h.inv D e;refine⟨?_,I.2⟩;unfold z8z at e;split at e;cases e;cases e;exact x1l h I.1 D (go_v (j4d h D) λq J=>h.inv.has _ (u7c J))
theorem v7t {p q:MSt}{o:MOp}{th st:List LId}(h:MVal p)(I:MInv q)(hy:1<=o.y/\o.y<=6)(hn:z3z o.b o.p=0)(hs:th++st=p.B.at o.b o.p)(h4:th.length<=4)(e:y3x p o th st=.ok q):MVal q:=by
 unfold y3x at e;split at e;cases e;rename_i hm;split at e;cases e;cases e;have hm:=Classical.not_not.1 hm;obtain⟨j,hj,a9⟩:∃j:Nat,j<6/\o.y=(j:Int)+1:=⟨(o.y-1).toNat,by omega,by omega⟩;have M:(o.y-1).toNat=j:=by omega
 have D:=h.inv.yn j hj;have b1:p.y o.y=p.ys.getD j yn0:=by unfold MSt.y;rw[M]
 rw[<-b1]at D;have a4:=j4d h hy;have a7:j<p.ys.length:=by rw[h.inv.ly];exact hj
 have a6:j<p.tb.length:=by rw[h.inv.lt];exact hj
 have a1:(p.y o.y).inn=true:=by
  unfold mkE at hm;split at hm;exact absurd hm (by assumption);split at hm;omega;rename_i k;simpa using k
 have O:=D.1.2;rw[if_pos a1]at O;have a2:p.row o.y=p.tb.getD j []:=by unfold MSt.row;rw[M]
 simp only[M,a2]at I ⊢;obtain⟨rk,ht⟩:=h.tab;have h6:=h.inv.lt;have a3:∀i∈th,z4l p.tb i:=λi I=>h.inv.has i (y0u (b:=o.b) (n:=o.p) (by rw[<-hs];exact List.mem_append_left _ I));have b0:y6y p.tb ⟨o.b,(p.y o.y).nw,th,(p.y o.y).pe⟩:=by
  refine⟨(z2y hn).1,⟨h4,O.2.1⟩,λi I=>?_,v5u O.2.2,j0f O.2.2⟩;rcases List.mem_append.1 I with k|k
  exact a3 i k;obtain⟨q,hq,rfl⟩:=List.mem_map.1 k;exact a4.1 q hq
 have a0:∀ {l:Lp} (i:LId),z4l p.tb i->z4l (p.tb.set j (p.tb.getD j []++[l])) i:=λi I=>(y4t h6 hj).2 (.inl I);refine⟨I,λk hk=>?_,⟨_,ht.add hj b0 (λe0=>a4.2 a1 (by rw[D.2,e0];rfl))⟩,λi I=>?_,λi I=>a0 i (h.fa i I),h.cr.mono a0⟩;show YnV (p.tb.set j _) ((p.ys.set j (mkS (p.y o.y))).getD k yn0);rw[z1i a7];split;refine⟨(by intro q hq;cases hq),λ_ h0=>?_⟩;have h1:(p.y o.y).ct+1=0:=h0;have:=D.1.1;omega;exact⟨λq hq=>a0 _ ((h.yv k hk).1 q hq),(h.yv k hk).2⟩;show ((p.B.put o.b o.p (st++[⟨o.y,(p.y o.y).ct⟩])).flat++p.fa++z9f (p.tb.set j (p.tb.getD j []++[_]))).count i=1;rw[List.count_append,List.count_append,u0p a6];have h1:=z4p p.B hn (st++[⟨o.y,(p.y o.y).ct⟩]) i;have h2:th.count i+st.count i=(p.B.at o.b o.p).count i:=by rw[<-hs,List.count_append]
 rw[List.count_append,List.count_singleton]at h1;dsimp only;rcases(y4t h6 hj).1 I with k|k
 have h3:=h.once i k;rw[List.count_append,List.count_append]at h3;have a8:¬((⟨o.y,(p.y o.y).ct⟩:LId) == i)=true:=by
  intro ee;have ee:(⟨o.y,(p.y o.y).ct⟩:LId)=i:=by simpa using ee
  obtain⟨_,_,_,Z⟩:=k;rw[<-ee]at Z;simp only at Z;rw[M,D.2]at Z;omega
 rw[if_neg a8]at h1;omega;have J:¬z4l p.tb i:=λZ=>by
  rw[k]at Z;obtain⟨_,_,_,Z⟩:=Z;simp only at Z;rw[show ((j:Int)+1-1).toNat=j by omega]at Z;omega
 have z1:p.B.flat.count i=0:=List.count_eq_zero.2 λz=>J (h.inv.has i z);have z2:p.fa.count i=0:=List.count_eq_zero.2 λz=>J (h.fa i z);have z3:(z9f p.tb).count i=0:=List.count_eq_zero.2 λz=>J (v0a ht z);have z4:th.count i=0:=List.count_eq_zero.2 λz=>J (a3 i z);have z5:(p.B.at o.b o.p).count i=0:=List.count_eq_zero.2 λz=>J (h.inv.has i (y0u z));have a5:((⟨o.y,(p.y o.y).ct⟩:LId) == i)=true:=by rw[k,D.2,a9];simp
 rw[if_pos a5]at h1;omega
theorem y8h {p:MSt}{d:Int}:∀ {l l':List Yn},z3s p d l=.ok l'->MVal p->∀k,YnV p.tb (l.getD k yn0)->YnV p.tb (l'.getD k yn0)
 | [],l',e,_,k,hk=>by cases e;exact hk
 | y::l,l',e,h,k,hk=>by
  unfold z3s at e
  split at e
  ·cases e
  rename_i M D
  split at e
  ·cases e
  rename_i J hl
  cases e
  cases k with
  | succ k=>simpa only[List.getD_cons_succ] using y8h hl h k (by simpa only[List.getD_cons_succ] using hk)
  | zero=>
   simp only[List.getD_cons_zero]at hk ⊢
   unfold z6t at D
   split at D
   ·cases D;exact hk
   split at D
   ·cases D
   cases D
   exact go_v hk λq I=>h.inv.has _ (v6j I)
theorem y1m {p q:MSt}{d:Int}(h:MVal p)(M:-4<=p.rk+stI d/\p.rk+stI d<=4)(e:z3q p d=.ok q):MVal q:=by
 have O:=(y4o h.inv M e).1;unfold z3q at e;split at e;cases e;rename_i ys I;split at e;cases e;rename_i cr D;cases e;refine⟨O,λk Z=>y8h I h k (h.yv k Z),h.tab,h.once,h.fa,h.cr.adds (λc J=>?_) D⟩;obtain⟨k1,k2,k3,_⟩:=x3l h.inv.B.nd J;exact⟨h.inv.has _ k1,h.inv.has _ k2,k3⟩
theorem x4r {r:Int}(J:-4<=r/\r<=4):∀ {n:Nat} {p q:MSt},MVal p->z4m n p r=.ok q->MVal q
 | 0,p,q,h,e=>by cases e;exact h
 | n+1,p,q,h,e=>by
  unfold z4m at e
  split at e
  ·cases e;exact h
  rename_i I
  split at e
  ·cases e
  rename_i O D
  have M:=h.inv.rk
  refine x4r J (y1m h ?_ D) e
  unfold stI
  split<;>split<;>omega
theorem u1e {p q:MSt}{o:MOp}(h:MVal p)(hi:MInv q)(hn:z3z o.b o.p=0)(e:z7b p o=.ok q):MVal q:=by
 unfold z7b at e;split at e;cases e;split at e;cases e;rename_i D;have D:=Classical.not_not.1 D;split at e;cases e;split at e;cases e;cases e;refine⟨hi,h.yv,h.tab,λi hh=>?_,h.fa,h.cr⟩;have Z:=(z2y hn).1;have hc:=y5e (p:=p) (o:=o) Z i;have I:(p.B.put o.b o.p []).at (1-o.b) (z3i o.b o.p p.rk)=p.B.at (1-o.b) (z3i o.b o.p p.rk):=by
  rw[z7p p.B hn D,if_neg (by omega)]
 have J:=z4p p.B hn [] i;have M:=z4p (p.B.put o.b o.p []) D (z7c p o) i;have O:=h.once i hh;rw[I]at M;show (((p.B.put o.b o.p []).put (1-o.b) (z3i o.b o.p p.rk) (z7c p o)).flat++p.fa++z9f p.tb).count i=1;simp only[List.count_append]at O ⊢;simp only[List.count_nil]at J;omega
theorem u4k {p q:MSt}{o:MOp}(h:MVal p)(M:MInv q)(hn:z3z o.b o.p=0)(e:y4i p o=.ok q):MVal q:=by
 unfold y4i at e;split at e;cases e;cases e;refine⟨M,h.yv,h.tab,λi D=>?_,λi D=>?_,h.cr⟩;have I:=z4p p.B hn [] i;have J:=h.once i D;show ((p.B.put o.b o.p []).flat++(p.fa++p.B.at o.b o.p)++z9f p.tb).count i=1;simp only[List.count_append]at J ⊢;simp only[List.count_nil]at I;omega;rcases List.mem_append.1 D with k|k
 exact h.fa i k;exact h.inv.has i (y0u k)
theorem y8j {p q:MSt}{o:MOp}(h:MVal p)(e:doM p o=.ok q):MVal q:=by
 have I:=x7r h.inv e;unfold doM at e;split at e;cases e;rename_i hc;obtain⟨_,h1,J,h3,M,h5⟩:=y0a (Classical.not_not.1 hc);unfold opM at e;split at e;have D:=J (by omega);unfold inM at e;split at e;cases e;cases e;exact x1l h I D ⟨(by intro q Z;cases Z),λ_ _=>rfl⟩;split at e;have D:=J (by omega);unfold v1h at e;split at e;cases e;cases e;exact x1l h I D ⟨(by intro q Z;cases Z),(by intro k;cases k)⟩;split at e;exact x4r (h5 (by omega)) h e;split at e;have D:=J (by omega);have O:=M (by omega);unfold y2r at e;split at e;cases e;split at e;cases e;rename_i r hr;obtain⟨v1,v2,v3⟩:=x6q h D hr;exact v7t v1 I D O (by simp) (y6k v1.inv.B _ _) e;split at e;have D:=J (by omega);have O:=M (by omega);unfold y1l at e;split at e;cases e;split at e;cases e;rename_i r hr;obtain⟨v1,v2,v3⟩:=x6q h D hr;split at e;cases e;exact v7t v1 I D O (by simp) (by simp) e;split at e;have D:=J (by omega);unfold z7x at e;split at e;cases e;exact(x6q h D e).1;split at e;exact u1e h I (M (by omega)) e;exact u4k h I (M (by omega)) e
theorem y6w:∀ {l:List MOp} {i:Nat} {p q:MSt},MVal p->z6z i p l=.ok q->MVal q
 | [],i,p,q,h,e=>by cases e;exact h
 | o::l,i,p,q,h,e=>by
  unfold z6z at e
  split at e
  ·cases e
  rename_i I D
  exact y6w (y8j h D) e
structure StQ where
  rk:Int
  q:BdQ
  yv:SV
  ys:List YQ
  fb:FbQ
abbrev stL (s:StQ):List Value:=[.int .i64 s.rk,.slice s.q.f.1 s.q.f.2.1 s.q.f.2.2,.slice s.q.b.1 s.q.b.2.1 s.q.b.2.2,.slice s.yv.1 s.yv.2.1 s.yv.2.2,.slice s.fb.t.1 s.fb.t.2.1 s.fb.t.2.2,.slice s.fb.c.1 s.fb.c.2.1 s.fb.c.2.2,.slice s.fb.h.1 s.fb.h.2.1 s.fb.h.2.2,.slice s.fb.f.1 s.fb.f.2.1 s.fb.f.2.2]
structure St where
  rk:Int
  B:Bd
  ys:List Yn
  fb:Fb
abbrev StQ.p (s:StQ):St:=⟨s.rk,s.q.p,s.ys.map YQ.p,s.fb.p⟩
def YsA (w:World)(ys:List YQ):Prop:=∀i,Sl z1t w (slv (ys.getD i yq0).pe) (ys.getD i yq0).pes
theorem YsA.ext {w w':World}{ys:List YQ}(h:YsA w ys)(hf:Fr [] w w'):YsA w' ys:=λi=>(h i).ext hf
structure StAt (w:World) (s:StQ):Prop where
  b:BdAt w s.q
  y:Sl z2v w (slv s.yv) s.ys
  ya:YsA w s.ys
  f:FbAt w s.fb
theorem StAt.ext {w w':World}{s:StQ}(h:StAt w s)(hf:Fr [] w w'):StAt w' s:=⟨h.b.ext hf,h.y.ext hf,h.ya.ext hf,h.f.ext hf⟩
theorem v9j {κ:Type}[DecidableEq κ]{V:κ->Value}{w:World}{g:Nat}(h:MapF V w g λ_=>none):MapL V w g []:=by
 obtain⟨J,c,m,M,O,Z⟩:=h;have D:m=[]:=by
  cases m with
  | nil=>rfl
  | cons p m=>have:=Z p.1;simp[z2j]at this
 subst D;have I:J.toList=[]:=List.map_eq_nil_iff.1 O;refine⟨J,c,M,by rw[I];rfl,by simp,by rw[I];simp,λe D=>by rw[I]at D;cases D⟩
theorem x4t {κ:Type}[DecidableEq κ]{m:List (κ×Value)}{k:κ}{v:Value}(h:k∉m.map (·.1)):z4b m k v=m++[(k,v)]:=by
 unfold z4b;have:(m.map (·.1)).findIdx? (λx=>decide (k=x))=none:=by
  rw[List.findIdx?_eq_none_iff];intro x D;have:k≠x:=λe=>h (e▸D);simpa using this
 rw[this]
abbrev cxK (c:Cx):LId×LId:=(c.a,c.b)
theorem x1i (l:List Cx):(crM l).map (·.1)=l.map cxK:=by unfold crM;rw[List.map_map];rfl
theorem u0r {l:List Cx}{i:Nat}(hn:(l.map cxK).Nodup)(I:i<l.length):z4b (crM (l.take i)) (cxK (l.getD i cx0)) (.int .i64 (l.getD i cx0).n)=crM (l.take (i+1)):=by
 have e:l.take (i+1)=l.take i++[l.getD i cx0]:=by rw[List.take_add_one,List.getD,List.getElem?_eq_getElem I];rfl
 rw[x4t,e];unfold crM;rw[List.map_append];rfl;rw[x1i];intro J;have D:(((l.take i)++[l.getD i cx0]).map cxK).Nodup:=by
  rw[<-e];exact List.Nodup.sublist (List.Sublist.map _ (List.take_sublist _ _)) hn
 rw[List.map_append]at D;exact(List.nodup_append.1 D).2.2 _ J _ (List.mem_singleton.2 U) U
theorem y8q {τ:TyK}{Mt:Nat}{w0 w:World}{s:StQ}{fs bs:List IQ}{Z O gy gt M gk I:Nat}{ps:List YQ}{us:List TQ}
    (hk:Blk w gk Mt [.int .i64 s.rk,.slice (some ⟨Z,0,none⟩) fs.length fs.length,.slice (some ⟨O,0,none⟩) bs.length bs.length,.slice (some ⟨gy,0,none⟩) s.ys.length s.ys.length,.slice (some ⟨gt,0,none⟩) s.fb.ts.length s.fb.ts.length,.map (some M),.slice (some ⟨I,0,none⟩) s.fb.fs.length s.fb.fs.length])
    (hF:RwO τ.S τ.I w0.heap.size w (.slice (some ⟨Z,0,none⟩) fs.length fs.length) fs) (hB:RwO τ.S τ.I w0.heap.size w (.slice (some ⟨O,0,none⟩) bs.length bs.length) bs)
    (hY:YsO τ w0.heap.size w (.slice (some ⟨gy,0,none⟩) s.ys.length s.ys.length) ps) (hpl:ps.length=s.ys.length) (hpm:ps.map YQ.p=s.ys.map YQ.p)
    (hT:TbO τ w0.heap.size w (.slice (some ⟨gt,0,none⟩) s.fb.ts.length s.fb.ts.length) us) (hul:us.length=s.fb.ts.length) (htm:z1v us=z1v s.fb.ts)
    (hm:MapF crK w M λ_=>none) (hf:Lw.Own z1k τ.I w0.heap.size w (.slice (some ⟨I,0,none⟩) s.fb.fs.length s.fb.fs.length) s.fb.fs) (hly:s.ys.length=6) (hlt:s.fb.ts.length=6)
    (hfr:Fr [] w0 w) (hgc:w0.heap.size<=M) (hgk:w0.heap.size<=gk) (hfb:∀x∈fs++bs,I∉z0x (slv x.1)) (hft:∀i,i<6->∀q∈(us.getD i tq0).2,I∉z0x (slv q.th)) (hpF:plB fs=trimB (plB s.q.fs)) (hpB:plB bs=trimB (plB s.q.bs)) :
    ∃m:MQ,MkM τ Mt w0 ⟨gk,gy,6,gt,6,M,w⟩ w m/\m.p=⟨s.rk,⟨trimB (plB s.q.fs),trimB (plB s.q.bs)⟩,s.ys.map YQ.p,z1v s.fb.ts,[],s.fb.fs⟩:=by
  refine⟨⟨s.rk,⟨(some ⟨Z,0,none⟩,fs.length,fs.length),(some ⟨O,0,none⟩,bs.length,bs.length),fs,bs⟩,ps,us,[],(some ⟨I,0,none⟩,s.fb.fs.length,s.fb.fs.length),s.fb.fs⟩,⟨?_,⟨hF,hB⟩,?_,?_,v9j hm,hf,λx hx k D J=>?_,λi hi q hq k D J=>?_,by rw[hpl,hly],by rw[hul,hlt],hgk,hgc,⟨hfr,KpM.refl _ _ _⟩⟩,?_⟩
  · rw[hly,hlt]at hk;exact hk
  · rw[hly]at hY;exact hY
  · rw[hlt]at hT;exact hT
  · simp[z0x,slv]at J;subst J;exact hfb x hx D
  · simp[z0x,slv]at J;subst J;exact hft i hi q hq D
  · show (⟨s.rk,⟨plB fs,plB bs⟩,ps.map YQ.p,z1v us,[],s.fb.fs⟩:MSt)=_
    rw[hpF,hpB,hpm,htm]
end Go.G08
namespace Go.G08
open Go.Lw Go.G21 Go.Proofs Go.Sort
theorem j0a (X:World)(o:Obj)(b:Nat)(h:X.heap.size=b):(X.alloc o).drew.heap[b]?=some o:=by subst h;show (X.heap.push o)[X.heap.size]?=some o;simp
theorem j9k (X:World)(o:Obj)(b:Nat)(h:X.heap.size=b):(X.alloc o).heap[b]?=some o:=by subst h;show (X.heap.push o)[X.heap.size]?=some o;simp
def DG (w w':World):Prop:=∃q os',w'=grow (w.drewN q) os'
theorem DG.refl (w:World):DG w w:=⟨0,#[],by rw[grow_empty];rfl⟩
theorem DG.alloc {w w':World}(h:DG w w')(o:Obj):DG w (w'.alloc o):=by
 obtain⟨q,D,rfl⟩:=h;exact⟨q,D++#[o],by rw[alloc_eq_grow,grow_grow]⟩
theorem DG.drew {w w':World}(h:DG w w'):DG w w'.drew:=by
 obtain⟨q,D,rfl⟩:=h;exact⟨q+1,D,rfl⟩
theorem DG.trans {a b c:World}(h:DG a b)(I:DG b c):DG a c:=by
 obtain⟨q,J,rfl⟩:=h;obtain⟨M,D,rfl⟩:=I;exact⟨q+M,J++D,by rw[<-grow_grow];unfold grow World.drewN;simp[Nat.add_assoc]⟩
theorem DG.cell {w w':World}(h:DG w w'){p:Addr}{v:Value}(hb:w.cell? p=some v):w'.cell? p=some v:=by
 obtain⟨q,D,rfl⟩:=h;have hl:=block_lt_of_cell hb;refine(World.cell?_of_block (w:=w) ?_).trans hb;show (w.heap++D)[p.block]?=_;rw[Array.getElem?_append_left hl]
theorem j5g {X:World}{b T:Nat}{x y:Int}(h:X.heap[b]?=some (.cells #[.int .i64 x,.int .i64 y] T (0,0))):Sl Enc.i64 X (.slice (some ⟨b,0,none⟩) 2 2) [x,y]:=
 Lw.Own.sl (E:=Enc.i64) (T:=T) (base:=b) (.inr ⟨b,2,_,rfl,Nat.le_refl _,h,Nat.le_refl _,by decide,Nat.le_refl 2,rfl⟩)
def x1x (x y:Cx):Int:=if z6k x.a y.a≠0 then z6k x.a y.a else z6k x.b y.b
abbrev j3a (c:Cx):Value:=.agg #[.int .u8 c.a.y,.int .i64 c.a.n,.int .u8 c.b.y,.int .i64 c.b.n,.int .i64 c.n]
section
variable {α:Type} [Inhabited α] (E:Enc α)
theorem y8l (ys:Array α):(flatK E.enc E.sz ys).toList=ys.toList.flatMap E.enc:=by
 refine List.ext_getElem? λt=>?_;have O:=E.pos;by_cases ht:t<ys.size*E.sz;have M:t / E.sz<ys.size:=Nat.div_lt_of_lt_mul (by rw[Nat.mul_comm];exact ht);have D:t % E.sz<E.sz:=Nat.mod_lt _ O;have I:=get_flatK E.enc E.sz ys t ht;have J:=E.flat_get ys.toList (t / E.sz) ys[t / E.sz] (by simp[M]) (t % E.sz) D;rw[show t / E.sz*E.sz+t % E.sz=t by rw[Nat.mul_comm];exact Nat.div_add_mod t E.sz]at J;rw[J,Array.getElem?_toList];rw[getElem!_pos (flatK E.enc E.sz ys) t (by simpa using ht),getElem!_pos ys (t / E.sz) M,getElem!_pos (E.enc ys[t / E.sz]) (t % E.sz) (by rw[E.len];exact D)]at I;rw[Array.getElem?_eq_getElem (by simpa using ht),I,List.getElem?_eq_getElem (by rw[E.len];exact D)];rw[List.getElem?_eq_none (by simp;omega),List.getElem?_eq_none (by rw[E.flat_len];simp;omega)]
variable {E} {w:World} {g T cap base:Nat} {cur:Array Value}
theorem v6n {ys:List α}(h:w.heap[g]?=some (.cells cur T (0,0)))(O:ys.length*E.sz<=cur.size)(M:cur.toList.take (ys.length*E.sz)=ys.flatMap E.enc):HoldsK E.enc E.sz w g 0 ys.toArray:=by
 intro j I;have J:j<ys.length*E.sz:=by simpa using I
 have e:=y8l E ys.toArray;rw[<-show cur.toList.take (ys.length*E.sz)=ys.toArray.toList.flatMap E.enc from M]at e;have D:=congrArg (λl:List Value=>l[j]?) e;simp only[Array.getElem?_toList,List.getElem?_take,J,if_true]at D;constructor;rw[Nat.zero_add,getElem!_pos _ j I];rw[Array.getElem?_eq_getElem I]at D;simp only[World.cell?,h];exact D.symm;simp only[World.frozen?,h];simp
theorem u3z {ys:List α}(h:w.heap[g]?=some (.cells cur T (0,0)))(hs:ys.length*E.sz<=cur.size)(hb:base<=g)(hc:ys.length<=cap)(hM:cap<=maxLen)(M:cap*E.sz<=cur.size)(d:Array α)(I:d.size=ys.length)(n:Nat)(J:Array Obj) :
    Lw.Own E T base (sortWorldK E.enc E.sz w g 0 n d J) (.slice (some ⟨g,0,none⟩) ys.length cap) d.toList/\Fr [g] w (sortWorldK E.enc E.sz w g 0 n d J):=by
  have hg:g<w.heap.size:=(Array.getElem?_eq_some_iff.1 h).1
  have D:∀k,k<w.heap.size->(sortWorldK E.enc E.sz w g 0 n d J).heap[k]?=(w.heap.modify g (onCells (putCells id 0 (flatK E.enc E.sz d))))[k]?:=λk Z=>by
    show ((w.heap.modify g _)++J)[k]?=_
    rw[Array.getElem?_append_left (by simpa using Z)]
  refine⟨.inr ⟨g,cap,putCells id 0 (flatK E.enc E.sz d) cur,by rw[show d.toList.length=ys.length by simpa using I],hb,?_,by simpa[I] using hc,hM,by simpa[putCells] using M,?_⟩,rfl,rfl,rfl,?_,λk Z hn=>?_⟩
  · rw[D g hg,Array.getElem?_modify,if_pos U,h];rfl
  · rw[<-y8l E d]
    refine List.ext_getElem? λt=>?_
    have O:d.toList.length=ys.length:=by simpa using I
    rw[List.getElem?_take,O]
    by_cases ht:t<ys.length*E.sz
    · rw[if_pos ht,Array.getElem?_toList,Array.getElem?_toList]
      unfold putCells
      rw[Array.getElem?_mapIdx,Array.getElem?_eq_getElem (show t<cur.size by omega),Array.getElem?_eq_getElem (show t<(flatK E.enc E.sz d).size by simpa[I] using ht)]
      simp only[Option.map_some,Nat.zero_le,Nat.zero_add,true_and,Nat.sub_zero,id]
      rw[if_pos (by simpa[I] using ht),getElem!_pos _ t (by simpa[I] using ht)]
    · rw[if_neg ht,List.getElem?_eq_none (by simp[I];omega)]
  · show w.heap.size<=((w.heap.modify g _)++J).size
    simp
  · rw[D k Z,Array.getElem?_modify,if_neg (λe=>hn (by simp[e]))]
open Go.Shelf in
theorem x7n {P:Program}{ρ:Ren}(L:SlLaysF0.n6 P ρ){f cl:Nat}(hf:ρ.f 6=f)(aE:∀w,(isAgg (ρ.t 24)).run P w=.ok true w)(zE:∀w,(Go.sizeOf (ρ.t 24)).run P w=.ok E.sz w)(cf:α->α->Int)(hO:SWO (ltOf cf))
    (eg:∀D w,(callFunc cl D).run P w=.ok (.enter cl D) w)
    (hcmp:∀x y W,Calls P cl #[.agg (E.enc x).toArray,.agg (E.enc y).toArray] W λe w'=>e=.returned (.int .i64 (cf x y))/\DG W w')
    (hnil:∀W,Calls P f #[.slice none 0 0,.func (.func cl) #[] #[]] W λe w'=>e=.returned (.tuple #[])/\Fr [] W w')
    {v:Value} {ys:List α} (ho:Lw.Own E T base w v ys) (hl:ys.length<4611686018427387904):Rets P f #[v,.func (.func cl) #[] #[]] w λr w'=>r=.tuple #[]/\∃ys',ys'.Perm ys/\ys'.Pairwise (λa b=>¬cf b a<0)/\Lw.Own E T base w' v ys'/\Fr (z0x v) w w':=by
  subst hf
  rcases ho with ⟨rfl,rfl⟩|⟨g,cap,cur,rfl,h2,J,h4,h5,h6,h7⟩
  · exact Calls.mono (hnil w) (by rintro e w' ⟨rfl,h⟩;exact⟨_,rfl,rfl,[],.refl _,.nil,Lw.Own.nil _,h.weak (by simp)⟩)
  · have hs:ys.length*E.sz<=cur.size:=Nat.le_trans (Nat.mul_le_mul_right _ h4) h6
    have h:=AnyQ.slices_SortFunc L E.sz aE zE E.enc E.len E.one cf hO cl #[] g 0 cap ys.toArray w eg (λm os dk _ x y=>hcmp x y _) (v6n J hs h7) (Array.getElem?_eq_some_iff.1 J).1 (by simpa using hl)
    rw[show ys.toArray.size=ys.length by simp]at h
    refine Calls.mono h ?_
    rintro e w' ⟨rfl,I,n,os,hp,a1,rfl⟩
    have M:I.size=ys.length:=by simpa using hp.1
    obtain⟨k1,k2⟩:=u3z (base:=base) J hs h2 h4 h5 h6 I M n os
    refine⟨_,rfl,rfl,I.toList,?_,?_,k1,by simpa[z0x] using k2⟩
    · have:=hp.2.2
      simp[M]at this
      rwa [List.take_of_length_le (by simpa using Nat.le_of_eq M)]at this
    · rw[List.pairwise_iff_getElem]
      intro i j hi hj Z
      have O:i<I.size:=by simpa using hi
      have a0:j<I.size:=by simpa using hj
      have:=a1 i j (Nat.zero_le _) Z (by omega)
      rw[getElem!_pos I i O,getElem!_pos I j a0]at this
      simpa[ltOf] using this
end
theorem y0r {x y:Cx}:x1x x y<0↔(x.a.y<y.a.y\/x.a.y=y.a.y/\x.a.n<y.a.n)\/(x.a.y=y.a.y/\x.a.n=y.a.n)/\(x.b.y<y.b.y\/x.b.y=y.b.y/\x.b.n<y.b.n):=by
 unfold x1x;have e:z6k x.a y.a=0↔x.a.y=y.a.y/\x.a.n=y.a.n:=by rw[y6n];obtain⟨⟨_,_⟩,_,_⟩:=x;obtain⟨⟨_,_⟩,_,_⟩:=y;simp
 split;rename_i h;rw[z7t];rw[Ne,e]at h;omega;rename_i h;rw[Decidable.not_not,e]at h;rw[z7t];omega
theorem swoI:SWO (ltOf z6k):=by
 constructor;intro x;simp only[ltOf,decide_eq_false_iff_not,z7t];omega;intro x y z;simp only[ltOf,decide_eq_true_eq,z7t];omega;intro x y z;simp only[ltOf,decide_eq_false_iff_not,z7t];omega
theorem swoX:SWO (ltOf x1x):=by
 constructor;intro x;simp only[ltOf,decide_eq_false_iff_not,y0r];omega;intro x y z;simp only[ltOf,decide_eq_true_eq,y0r];omega;intro x y z;simp only[ltOf,decide_eq_false_iff_not,y0r];omega
def y0k (l:List LId):List LId:=l.mergeSort λa b=>decide (¬z6k b a<0)
def y0v (l:List Cx):List Cx:=l.mergeSort λa b=>decide (¬x1x b a<0)
theorem z2x (l:List LId):(y0k l).Perm l:=List.mergeSort_perm ..
theorem z2u (l:List Cx):(y0v l).Perm l:=List.mergeSort_perm ..
theorem x0p (l:List LId):(y0k l).Pairwise λa b=>¬z6k b a<0:=
 (List.pairwise_mergeSort (le:=λa b=>decide (¬z6k b a<0)) (λa b c=>by simp only[decide_eq_true_eq,z7t];omega) (λa b=>by simp only[Bool.or_eq_true,decide_eq_true_eq,z7t];omega) l).imp (by simp)
theorem y4z (l:List Cx):(y0v l).Pairwise λa b=>¬x1x b a<0:=
 (List.pairwise_mergeSort (le:=λa b=>decide (¬x1x b a<0)) (λa b c=>by simp only[decide_eq_true_eq,y0r];omega) (λa b=>by simp only[Bool.or_eq_true,decide_eq_true_eq,y0r];omega) l).imp (by simp)
theorem v4i {l l':List LId}(hp:l'.Perm l)(J:l'.Pairwise λa b=>¬z6k b a<0):l'=y0k l:=by
 refine List.Perm.eq_of_pairwise (λa b _ _ D I=>?_) J (x0p l) (hp.trans (z2x l).symm);rw[z7t]at D I;obtain⟨_,_⟩:=a;obtain⟨_,_⟩:=b;simp only at D I;rw[LId.mk.injEq];omega
theorem x6t {l l':List Cx}(hn:(l.map λc=>(c.a,c.b)).Nodup)(hp:l'.Perm l)(hs:l'.Pairwise λa b=>¬x1x b a<0):l'=y0v l:=by
 refine List.Perm.eq_of_pairwise (λa b ha hb M O=>?_) hs (y4z l) (hp.trans (z2u l).symm);have I:=hp.mem_iff.1 ha;have J:=(z2u l).mem_iff.1 hb;have hk:(a.a,a.b)=(b.a,b.b):=by
  rw[y0r]at M O;obtain⟨⟨_,_⟩,⟨_,_⟩,_⟩:=a;obtain⟨⟨_,_⟩,⟨_,_⟩,_⟩:=b;simp only at M O;simp only[Prod.mk.injEq,LId.mk.injEq];omega
 have D:=List.pairwise_iff_getElem.1 (List.pairwise_map.1 hn);obtain⟨i,Z,rfl⟩:=List.getElem_of_mem I;obtain⟨j,hj,rfl⟩:=List.getElem_of_mem J;rcases Nat.lt_trichotomy i j with h|h|h
 exact absurd hk (D i j Z hj h);subst h;rfl;exact absurd hk.symm (D j i hj Z h)
end Go.G08
namespace Go.Lw
section
variable {P:Program} {ops:Array Oper} {Q:Exit->Act->World->Prop} {rest:List Oper} {n:Nat} {ds:List Nat} {L:List (Nat×Value)} {w:World} {d:Nat} {x:Operand} {t K E g ty:Nat} {pos:String} {after:Array Edge} {κ:Type} [DecidableEq κ] {V:κ->Value} {m:List (κ×Value)}
theorem j3r (Z:ev L x=some (.map (some g)))(M:MapL V w g m)(O:P.underlying t=some (.map K E))(hn:Nat.blt d n=true)(q:WL P ops Q rest n ds w ((d,.int .i64 (m.length:Int))::L)):WL P ops Q (⟨some d,.call ⟨.builtin .len,#[x],#[t]⟩,ty,pos,after,none⟩::rest) n ds w L:=λa h=>by
 obtain⟨D,c,I,J,_⟩:=M
 have hl:D.size=m.length:=by have:=congrArg List.length J;simpa using this
 refine z1w h U hn (w':=w) (v:=.int .i64 (m.length:Int)) ?_ q
 rw[z1z];unfold builtin
 simp[h.eval Z,Builtin.len_,run_underlying O,z2n I,hl]
 rfl
theorem MapIt.no {gi:Nat}{rem:List (κ×Value)}{cur:Option (κ×Value)}(h:MapIt V w gi g m rem cur):MapIt V w gi g m rem none:=by
 obtain⟨I,c,D,M,O,Z,k4,k5,k6,_⟩:=h;exact⟨I,c,D,M,O,Z,k4,k5,k6,λp J=>by cases J⟩
end
end Go.Lw
namespace Go.G08
open Go.Lw Go.G21
theorem j0d (a b:List Cx):crM (a++b)=crM a++crM b:=by unfold crM;rw[List.map_append]
theorem v4h {l:List Cx}{r1 r2:List ((LId×LId)×Value)}{p:(LId×LId)×Value}(h:crM l=r1++p::r2):∃D c I,l=D++c::I/\r1=crM D/\p=((c.a,c.b),.int .i64 c.n)/\r2=crM I:=by
 unfold crM at h;obtain⟨D,l',rfl,J,M⟩:=List.map_eq_append_iff.1 h;obtain⟨c,I,rfl,O,Z⟩:=List.map_eq_cons_iff.1 M;exact⟨D,c,I,rfl,J.symm,O.symm,Z.symm⟩
section
variable {P:Program} {ops:Array Oper} {Q:Exit->Act->World->Prop} {rest:List Oper} {n:Nat} {ds:List Nat} {L:List (Nat×Value)} {w:World} {d:Nat} {x:Operand} {t g gi ty:Nat} {pos:String} {after:Array Edge} {em:List ((LId×LId)×Value)} {rem:List Cx}
def CrIt (w:World)(gi g:Nat)(em:List ((LId×LId)×Value))(rem:List Cx)(cur:Option Cx):Prop:=MapIt crK w gi g em (crM rem) (cur.map λc=>((c.a,c.b),.int .i64 c.n))
theorem CrIt.fr {w':World}{S:List Nat}{cur:Option Cx}(h:CrIt w gi g em rem cur)(hf:Fr S w w')(hn:∀k∈S,k≠g/\k≠gi):CrIt w' gi g em rem cur:=MapIt.fr h hf (λe=>(hn g e).1 U) (λe=>(hn gi e).2 U)
theorem CrIt.ext {w':World}{cur:Option Cx}(h:CrIt w gi g em rem cur)(hf:Fr [] w w'):CrIt w' gi g em rem cur:=h.fr hf (by simp)
theorem CrIt.no {cur:Option Cx}(h:CrIt w gi g em rem cur):CrIt w gi g em rem none:=MapIt.no h
theorem CrIt.lt {cur:Option Cx}(h:CrIt w gi g em rem cur):gi<w.heap.size:=MapIt.lt h
theorem CrIt.neO {α:Type}{E:Enc α}{T base:Nat}{v:Value}{ys:List α}{cur:Option Cx}(h:CrIt w gi g em rem cur)(O:Lw.Own E T base w v ys):∀k∈z0x v,k≠g/\k≠gi:=λk I=>by
 obtain⟨es,c,M,Z,_,_,_,k5,_⟩:=h
 rcases O with ⟨rfl,_⟩|⟨g',cap,J,rfl,_,D,_⟩
 ·simp[z0x]at I
 simp only[z0x,List.mem_singleton]at I
 subst I
 exact⟨λe=>(by rw[e,Z]at D;cases D),λe=>(by rw[e,k5]at D;cases D)⟩
theorem u3y {K E:Nat}{l:List Cx}(J:ev L x=some (.map (some g)))(D:MapL crK w g (crM l))(I:P.underlying t=some (.map K E))(hn:Nat.blt d n=true)
 (q:∀gi w',gi=w.heap.size->CrIt w' gi g (crM l) l none->Fr [] w w'->w'.heap.size=gi+1->WL P ops Q rest n ds w' ((d,.pointer (some ⟨gi,0,none⟩))::L)):WL P ops Q (⟨some d,.range t x,ty,pos,after,none⟩::rest) n ds w L:=u3t J D I hn q
theorem u6n {cur:Option Cx}(Z:ev L x=some (.pointer (some ⟨gi,0,none⟩)))(O:CrIt w gi g em rem cur)(hn:Nat.blt d n=true)
    (qt:∀D c I,rem=D++c::I->∀w',CrIt w' gi g em (D++I) (some c)->Fr [gi] w w'->w'.heap.size=w.heap.size->WL P ops Q rest n ds w' ((d,.tuple #[.bool true,crK (c.a,c.b),.int .i64 c.n])::L))
    (qf:rem=[]->WL P ops Q rest n ds w ((d,.tuple #[.bool false])::L)):WL P ops Q (⟨some d,.next x false,ty,pos,after,none⟩::rest) n ds w L:=
  u8y Z O hn (λr1 p r2 J w' M hf hz=>by
    obtain⟨D,c,I,rfl,rfl,rfl,rfl⟩:=v4h J
    exact qt D c I U w' (by unfold CrIt;rw[j0d];exact M) hf hz) (λJ=>qf (List.map_eq_nil_iff.1 J))
theorem u0o {c:Cx}(I:ev L x=some (.pointer (some ⟨gi,0,none⟩)))(D:CrIt w gi g em rem (some c))(hn:Nat.blt d n=true)
 (q:WL P ops Q rest n ds w ((d,.tuple #[.agg #[.int .u8 c.a.y,.int .i64 c.a.n,.int .u8 c.b.y,.int .i64 c.b.n],.int .i64 c.n])::L)):WL P ops Q (⟨some d,.entry x,ty,pos,after,none⟩::rest) n ds w L:=u1l (p:=((c.a,c.b),.int .i64 c.n)) I D hn q
end
section
variable {τ:TyK} {Mt:Nat} {wS w w':World} {a:MA} {m:MQ} {j:Nat} {u:SV}
theorem MkM.tabh (h:MkM τ Mt wS a w m)(I:MtOk τ Mt)(hj:j<6)(h1:Lw.Own z4r τ.L wS.heap.size w (slv u) (m.ts.getD j tq0).2)(M:∀i,i<6->∀b∈z0x (slv (m.ts.getD i tq0).1),b∉z0x (slv u))
    (h2:Lw.Own z4d τ.T wS.heap.size w' a.TV (m.ts.set j (u,(m.ts.getD j tq0).2))) (f2:Fr [a.gt] w w'):MkM τ Mt wS a w' { m with ts:=m.ts.set j (u,(m.ts.getD j tq0).2) }:=by
  have hl:j<m.ts.length:=by rw[h.lt];exact hj
  have J:∀T,T≠τ.T->OffT w T [a.gt]:=λT hT=>z6v h.t.out (Ne.symm hT)
  refine⟨y7y h.k f2 (J _ I.t),BdO.tf h.b f2 (J _ (Ne.symm I.o.ts)) (J _ (Ne.symm I.o.ti)),h.y.tf f2 (J _ I.o.yt) (J _ (Ne.symm I.o.tp)),⟨h2,λi D=>?_,λi k D Z a2=>?_,λi D q hq=>?_⟩,h.c.tf f2 (J _ I.t),z1y h.f f2 (J _ (Ne.symm I.o.ti)),h.fb,λi D p O=>?_,h.ly,by rw[List.length_set];exact h.lt,h.gk,h.gc,h.fr.step f2 (y7s h.t.out (by simp[v9h])) λk Z a3=>?_⟩
  · simp only[List.length_set]at D
    rw[z1i hl]
    split
    · exact z1y h1 f2 (J _ (Ne.symm I.o.tl))
    · exact z1y (h.t.ins i D) f2 (J _ (Ne.symm I.o.tl))
  · simp only[List.length_set]at D Z
    rw[z1i hl,z1i hl]
    split
    · rw[if_neg (by omega)];exact λb hb a1=>M k (by rw[<-h.lt];exact Z) b a1 hb
    · split
      · exact M i (by rw[<-h.lt];exact D)
      · exact h.t.off i k D Z a2
  · simp only[List.length_set]at D
    rw[z1i hl]at hq
    have a0:q∈(m.ts.getD i tq0).2:=by split at hq;(rename_i e;subst e;exact hq);exact hq
    exact⟨z1y (h.t.lps i D q a0).1 f2 (J _ (Ne.symm I.o.ti)),z1y (h.t.lps i D q a0).2 f2 (J _ (Ne.symm I.o.tp))⟩
  · simp only at O
    rw[z1i hl]at O
    split at O
    · rename_i e;subst e;first|exact h.ft _ D p O|exact h.ft _ hj p O
    · exact h.ft i D p O
  · have:=(h.t.out.blk k Z).1;omega
theorem MkM.fallS {l:List LId}(h:MkM τ Mt wS a w m)(M:MtOk τ Mt)(D:τ.I≠τ.P)(h1:Lw.Own z1k τ.I wS.heap.size w' (slv m.fa) l)(J:Fr (z0x (slv m.fa)) w w'):MkM τ Mt wS a w' { m with fl:=l }:=by
 have I:=y7y h.k J (z6v h.f (Ne.symm M.i));exact MkM.fall (u:=m.fa) h M D h1 J (λk I=>.inl I) I ((Fr.refl [] w').weak (by simp))
def stM (p:MSt):St:=⟨p.rk,p.B,p.ys,⟨p.tb,y0v p.cr,(z2f p.B p.rk).map Hd.id,y0k p.fa⟩⟩
structure MkW (τ:TyK) (base:Nat) (a:MA) (w:World) (m:MQ):Prop where
  b:BdO τ.S τ.I base w m.q
  y:YsO τ base w a.YV m.ys
  t:TbO τ base w a.TV m.ts
theorem MkM.toW (h:MkM τ Mt wS a w m):MkW τ wS.heap.size a w m:=⟨h.b,h.y,h.t⟩
theorem MkW.ext {base:Nat}(h:MkW τ base a w m)(hf:Fr [] w w'):MkW τ base a w' m:=⟨h.b.ext hf,h.y.ext hf,h.t.ext hf⟩
theorem MkW.off {base g T:Nat}{cs:List Value}(h:MkW τ base a w m)(D:Blk w g T cs)(hT:T≠τ.S/\T≠τ.I/\T≠τ.Y/\T≠τ.P/\T≠τ.T/\T≠τ.L)(hf:Fr [g] w w'):MkW τ base a w' m:=by
 obtain⟨M,I,O,J,Z,h6⟩:=hT;exact⟨BdO.tf h.b hf (OffT.one D M) (OffT.one D I),h.y.tf hf (OffT.one D O) (OffT.one D J),h.t.tf hf (OffT.one D Z) (OffT.one D h6) (OffT.one D I) (OffT.one D J)⟩
structure StO (τ:TyK) (Tc base:Nat) (w:World) (s:StQ):Prop where
  b:BdO τ.S τ.I base w s.q
  y:YsO τ base w (slv s.yv) s.ys
  t:TbO τ base w (slv s.fb.t) s.fb.ts
  c:Lw.Own z4v Tc base w (slv s.fb.c) s.fb.cs
  h:Lw.Own z1k τ.I base w (slv s.fb.h) s.fb.hs
  f:Lw.Own z1k τ.I base w (slv s.fb.f) s.fb.fs
theorem StO.ext {Tc base:Nat}{s:StQ}(h:StO τ Tc base w s)(hf:Fr [] w w'):StO τ Tc base w' s:=⟨h.b.ext hf,h.y.ext hf,h.t.ext hf,h.c.ext hf,h.h.ext hf,h.f.ext hf⟩
theorem StO.off {Tc base g T:Nat}{cs:List Value}{s:StQ}(h:StO τ Tc base w s)(D:Blk w g T cs)(hT:T≠τ.S/\T≠τ.I/\T≠τ.Y/\T≠τ.P/\T≠τ.T/\T≠τ.L/\T≠Tc)(hf:Fr [g] w w'):StO τ Tc base w' s:=by
 obtain⟨M,I,O,J,Z,h6,h7⟩:=hT;exact⟨BdO.tf h.b hf (OffT.one D M) (OffT.one D I),h.y.tf hf (OffT.one D O) (OffT.one D J),h.t.tf hf (OffT.one D Z) (OffT.one D h6) (OffT.one D I) (OffT.one D J),z1y h.c hf (OffT.one D h7),z1y h.h hf (OffT.one D I),z1y h.f hf (OffT.one D I)⟩
theorem StO.low {Tc base b':Nat}{s:StQ}(h:StO τ Tc base w s)(hb:b'<=base):StO τ Tc b' w s:=
 ⟨⟨⟨h.b.f.1.low hb,λq I=>(h.b.f.2 q I).low hb⟩,⟨h.b.b.1.low hb,λq I=>(h.b.b.2 q I).low hb⟩⟩,⟨h.y.out.low hb,λi D=>(h.y.ins i D).low hb⟩,⟨h.t.out.low hb,λi D=>(h.t.ins i D).low hb,h.t.off,λi D q I=>⟨(h.t.lps i D q I).1.low hb,(h.t.lps i D q I).2.low hb⟩⟩,h.c.low hb,h.h.low hb,h.f.low hb⟩
theorem StO.at {Tc base:Nat}{s:StQ}(h:StO τ Tc base w s):StAt w s:=by
 refine⟨h.b.at,h.y.out.sl,λi=>?_,⟨h.t.out.sl,λp J=>?_,h.c.sl,h.h.sl,h.f.sl⟩⟩;by_cases D:i<s.ys.length;exact(h.y.ins i D).sl;rw[List.getD,List.getElem?_eq_none (by omega)];exact Sl.nil w;obtain⟨i,D,rfl⟩:=List.getElem_of_mem J;have e:s.fb.ts.getD i tq0=s.fb.ts[i]:=by rw[List.getD,List.getElem?_eq_getElem D];rfl
 rw[<-e];exact⟨(h.t.ins i D).sl,λq I=>⟨(h.t.lps i D q I).1.sl,(h.t.lps i D q I).2.sl⟩⟩
end
end Go.G08
namespace Go.G08
open Go.Lw Go.G21
structure PlaceV (T:Tb) (H F:List LId):Prop where
  has:∀i∈H++F,z4l T i
  asc:∀i,0<i->i<F.length->z6k (F.getD (i-1) id0) (F.getD i id0)<0
  once:∀y,y<6->∀n,n<z2t T y->(H++F++z9f T).count ⟨(y:Int)+1,(n:Int)⟩=1
  le:∀i,(H++F++z9f T).count i<=1
structure PlaceW (T:Tb) (H F:List LId):Prop where
  has:∀i∈H++F,z4l T i
  asc:∀i,0<i->i<F.length->z6k (F.getD (i-1) id0) (F.getD i id0)<0
  le:∀i,(H++F++z9f T).count i<=1
theorem PlaceV.w {T:Tb}{H F:List LId}(h:PlaceV T H F):PlaceW T H F:=⟨h.has,h.asc,h.le⟩
open Classical in
noncomputable def v9p (T:Tb)(H F:List LId):Int:=if ∃y,y<6/\∃n,n<z2t T y/\(H++F++z9f T).count ⟨(y:Int)+1,(n:Int)⟩≠1 then 6 else 0
theorem v7h {T:Tb}{H F:List LId}(h:∀y,y<6->∀n,n<z2t T y->(H++F++z9f T).count ⟨(y:Int)+1,(n:Int)⟩=1):v9p T H F=0:=if_neg λ⟨y,hy,n,hn,e⟩=>e (h y hy n hn)
theorem j2s {T:Tb}{H F:List LId}{y n:Nat}(D:y<6)(hn:n<z2t T y)(h:(H++F++z9f T).count ⟨(y:Int)+1,(n:Int)⟩≠1):v9p T H F=6:=if_pos ⟨y,D,n,hn,h⟩
structure CrsV (T:Tb) (l:List Cx):Prop where
  has:∀i,i<l.length->z4l T (l.getD i cx0).a/\z4l T (l.getD i cx0).b/\z6k (l.getD i cx0).a (l.getD i cx0).b<0/\(-1048576<=(l.getD i cx0).n/\(l.getD i cx0).n<=1048576)/\(l.getD i cx0).n≠0
  asc:∀i,0<i->i<l.length->x1x (l.getD (i-1) cx0) (l.getD i cx0)<0
theorem u1u {a b:LId}(h:¬z6k b a<0)(D:a≠b):z6k a b<0:=by
 have M:=mt y6n.1 D;rw[z7t]at h ⊢;have O:¬(a.y=b.y/\a.n=b.n):=by
  rintro⟨I,J⟩;obtain⟨_,_⟩:=a;obtain⟨_,_⟩:=b;simp only at I J;subst I;subst J;exact D U
 omega
theorem u2z {a b:Cx}(h:¬x1x b a<0)(D:(a.a,a.b)≠(b.a,b.b)):x1x a b<0:=by
 rw[y0r]at h ⊢;have M:¬((a.a.y=b.a.y/\a.a.n=b.a.n)/\(a.b.y=b.b.y/\a.b.n=b.b.n)):=by
  obtain⟨⟨_,_⟩,⟨_,_⟩,_⟩:=a;obtain⟨⟨_,_⟩,⟨_,_⟩,_⟩:=b;rintro⟨⟨I,J⟩,e3,e4⟩;simp only at I J e3 e4;subst I;subst J;subst e3;subst e4;exact D U
 omega
theorem x2z {α:Type}{R:α->α->Prop}{l:List α}(d:α)(h:l.Pairwise R){i:Nat}(I:0<i)(D:i<l.length):R (l.getD (i-1) d) (l.getD i d):=by
 have:=List.pairwise_iff_getElem.1 h (i-1) i (by omega) D (by omega);rwa [List.getD,List.getElem?_eq_getElem (by omega),List.getD,List.getElem?_eq_getElem D]
theorem v9w {l:List LId}(hn:l.Nodup):(y0k l).Pairwise λa b=>z6k a b<0:=by
 have D:(y0k l).Pairwise (·≠·):=(z2x l).nodup_iff.2 hn;exact((x0p l).and D).imp λh=>u1u h.1 h.2
theorem u1y {l:List Cx}(hn:(l.map λc=>(c.a,c.b)).Nodup):(y0v l).Pairwise λa b=>x1x a b<0:=by
 have D:((y0v l).map λc=>(c.a,c.b)).Nodup:=((z2u l).map _).nodup_iff.2 hn;exact((y4z l).and (List.pairwise_map.1 D)).imp λh=>u2z h.1 h.2
theorem MVal.le {p:MSt}(h:MVal p)(i:LId):(p.B.flat++p.fa++z9f p.tb).count i<=1:=by
 by_cases k:z4l p.tb i;exact Nat.le_of_eq (h.once i k);obtain⟨J,I⟩:=h.tab;rw[List.count_eq_zero.2];omega;intro D;rcases List.mem_append.1 D with z|z
 rcases List.mem_append.1 z with z|z
 exact k (h.inv.has i z);exact k (h.fa i z);exact k (v0a I z)
theorem MVal.nodupF {p:MSt}(h:MVal p):p.fa.Nodup:=List.nodup_iff_count.2 λi=>by
 have:=h.le i
 rw[List.count_append,List.count_append]at this
 omega
theorem MVal.tabV {p:MSt}(h:MVal p):TabV p.tb:=by
 obtain⟨I,D⟩:=h.tab;refine⟨⟨h.inv.lt,h.inv.all,D.rts,I,D.rkd⟩,λi=>?_⟩;have:=h.le i;rw[List.count_append]at this;omega
theorem MVal.cntHF {p:MSt}(i:LId):(((z2f p.B p.rk).map Hd.id)++y0k p.fa++z9f p.tb).count i=(p.B.flat++p.fa++z9f p.tb).count i:=by
 simp only[List.count_append];rw[(y9e p.B p.rk).count_eq,(z2x p.fa).count_eq]
theorem MVal.place {p:MSt}(h:MVal p):PlaceV p.tb ((z2f p.B p.rk).map Hd.id) (y0k p.fa):=by
 refine⟨λi D=>?_,λi I D=>x2z id0 (v9w h.nodupF) I D,λy M n J=>?_,λi=>?_⟩;rcases List.mem_append.1 D with k|k
 exact h.inv.has i ((y9e p.B p.rk).mem_iff.1 k);exact h.fa i ((z2x p.fa).mem_iff.1 k);rw[MVal.cntHF];exact h.once _ (z8u (by rw[h.inv.lt];exact M) J);rw[MVal.cntHF];exact h.le i
theorem MVal.crs {p:MSt}(h:MVal p):CrsV p.tb (y0v p.cr):=
 ⟨λi D=>h.cr.has _ ((z2u p.cr).mem_iff.1 (z0t D)),λi I D=>x2z cx0 (u1y h.cr.nd) I D⟩
end Go.G08
namespace Go.Proofs.YtpgdchkdlgkmgaaGreatDoor
open Go.Lw Go.G21 Go.G08 _root_.Go.Proofs.Tryz
theorem x6f:z3y prog 109 5:=⟨λ_=>by kernel_rfl,λ_=>by kernel_rfl⟩
theorem v8y:ElemOf prog 36 109 z4v 40:=ElemOf.mk' (z:=(.agg #[.int .u8 0,.int .i64 0,.int .u8 0,.int .i64 0,.int .i64 0])) underlying36 (by kernel_rfl) U
theorem y2j:z0y prog 109 0 0:=λ_ _=>by kernel_rfl
theorem y2e:z0y prog 109 1 2:=λ_ _=>by kernel_rfl
theorem y5o:z0y prog 109 2 4:=λ_ _=>by kernel_rfl
theorem j2b:z1p prog 109 5:=λ_=>by kernel_rfl
theorem v4p (w:World):(zeroValue 109).run prog w=.ok (.agg #[(.int .u8 0),(.int .i64 0),(.int .u8 0),(.int .i64 0),(.int .i64 0)]) w:=by kernel_rfl
theorem u0v (x y:Cx):orZ [z6k x.a y.a,z6k x.b y.b]=x1x x y:=by
 unfold orZ orZ orZ x1x
 repeat' split
 all_goals first|rfl|omega
theorem u3q (x y:Cx)(w0:World):Rets prog 92 #[.agg #[.int .u8 x.a.y,.int .i64 x.a.n,.int .u8 x.b.y,.int .i64 x.b.n,.int .i64 x.n],.agg #[.int .u8 y.a.y,.int .i64 y.a.n,.int .u8 y.b.y,.int .i64 y.b.n,.int .i64 y.n]] w0 λr w'=>r=.int .i64 (x1x x y)/\Fr [] w0 w':=by
 refine we [(0,.agg #[.int .u8 x.a.y,.int .i64 x.a.n,.int .u8 x.b.y,.int .i64 x.b.n,.int .i64 x.n]),(1,.agg #[.int .u8 y.a.y,.int .i64 y.a.n,.int .u8 y.b.y,.int .i64 y.b.n,.int .i64 y.n])] func92 U ntmps92 U (.c2 U U) (sr (bx U (λg2 w1 a1 J q1 z1=>(bx U (λg3 w2 a2 M q2 z2=>(asg U (nn (sq ?_))))))));intro a h;refine z0j none (λwb w'=>Fr [] wb w') z2s ?_;intro w3 q3;replace J:=J.ext (q2.n1 q3);replace M:=M.ext q3;have hC:Fr [] w3 w3:=Fr.refl _ _;have D:=J;have I:=M;refine z0c 0 h U y2j U λa h=>z1e (vs:=[_,_]) 1 h U (λ_ hw=>(D.ext hw)) z3t U U λa h=>z0c 2 h U y2j U λa h=>z1e (vs:=[_,_]) 3 h U (λ_ hw=>(I.ext hw)) z3t U U λa h=>z0c 5 h U y2e U λa h=>z1e (vs:=[_,_]) 6 h U (λ_ hw=>(D.ext hw)) z3t U U λa h=>z0c 7 h U y2e U λa h=>z1e (vs:=[_,_]) 8 h U (λ_ hw=>(I.ext hw)) z3t U U λa h=>z0d 4 U ?_;refine z0m h (z0a U (z0a U z0f)) j4s (y1s x.a y.a _) ?_;rintro _ w4 ⟨rfl,q4⟩ a h;replace hC:=hC.next q4;refine z0b ?_;refine z0d 9 U ?_;refine z0m h (z0a U (z0a U z0f)) j4s (y1s x.b y.b _) ?_;rintro _ w5 ⟨rfl,q5⟩ a h;replace J:=J.ext (q4.n1 q5);replace M:=M.ext (q4.n1 q5);replace hC:=hC.next q5;refine z0b ?_;refine z0d 10 U ?_;refine z3g ([z6k x.a y.a,z6k x.b y.b]) h (z0a U (z0a U z0f)) U y8v λZ w6 hg a0 q6 hz a h=>?_;have O:g2<Z:=by have:=J.lt;omega
 have O:g3<Z:=by have:=M.lt;omega
 replace hC:=hC.next q6;refine z0b ?_;refine z0d 11 U ?_;refine z0m h (z0a U z0f) (mkC func121) (j5z _ [z6k x.a y.a,z6k x.b y.b] _ a0.sl (by simp)) ?_;rintro _ w7 ⟨rfl,q7⟩ a h;replace hC:=hC.next q7;refine z0b ?_;refine z0d 12 U ?_;refine z0s h U λa h=>?_;refine z0b ?_;refine z0r ?_;clear hC D I;refine bk (h.sub (L':=[(4,_)]) (.cons U .nil)) (tn (rt (r1 results92 U ?_)));exact⟨_,rfl,congrArg (Value.int .i64) (u0v x y),(q1.n6 q2 q3 q4 q5 q6 q7)⟩
set_option maxHeartbeats 1000000 in
theorem v1k (q:FbQ)(w0:World)(M:FbAt w0 q)(h6:q.ts.length=6)(hv:CrsV (z1v q.ts) q.cs):Rets prog 100 #[.agg #[.slice q.t.1 q.t.2.1 q.t.2.2,.slice q.c.1 q.c.2.1 q.c.2.2,.slice q.h.1 q.h.2.1 q.h.2.2,.slice q.f.1 q.f.2.1 q.f.2.2]] w0 λr w'=>r=.int .i64 0/\Fr [] w0 w':=by
 have b8:=M.len;have b7:=z6y q.ts;have hM:=M.c.len_le;unfold maxLen at hM;refine we [(0,.agg #[.slice q.t.1 q.t.2.1 q.t.2.2,.slice q.c.1 q.c.2.1 q.c.2.2,.slice q.h.1 q.h.2.1 q.h.2.2,.slice q.f.1 q.f.2.1 q.f.2.2])] func100 U ntmps100 U (.cons U .nil) ?_;have a3:=M;refine sr (bx U (λg1 w1 b5 J q1 z1=>(asg U (nn (sq (sr (fad U y3n (z0g U J U u5n (lnS U underlying36 (mv U (nn (bl ?_))))))))))));refine lpK (ι:=Nat) [(1,_),(6,_),(7,_)] (λi=>[(8,.int .i64 (i:Int))]) (λi w'=>Fr [] w1 w'/\i<=q.cs.length) (λi=>q.cs.length-i) 0 (.c4 U U U U) ⟨Fr.refl _ _,Nat.zero_le _⟩ ?_;rintro i w2 ⟨q2,hi⟩;have z2:=q2.size;refine kpC [(1,_),(6,_),(7,_),(8,_)] (.c4 U U U U) (sr (lt' U (nn (sq (cd U (λc0=>?_) (λc0=>?_))))));have a0:=hv.has i (by omega);have a6:=a0.1;have a7:=a0.2.1;have b1:=a6.1;have b2:=a6.2.1;have b3:=a7.1;have b4:=a7.2.1;have a8:=hv.asc i;refine sk (tn (sq (bl (sr (mv U ?_)))));replace M:=a3.ext (q1.n1 q2);refine z1a (cx0) U M.c U v8y z1d (λa9 a4=>?_);refine z1j U (a4 _ M.c) x6f (al v4p U (λg4 w3 b6 I q3 z3=>?_));refine asg U (z0i (vs:=[_,_,_,_,_]) U I j2b (λw4 I q4 z4=>?_) (h1:=(by first|(simp[Value.oneCell',S];done)|exact z4v.one _)));refine nn (sq (sq ?_));refine y7c (r:=34) (L':=[(1,_),(3,_),(4,_),(6,_),(7,_),(8,_)]) ((((¬z4l (z1v q.ts) (q.cs.getD i cx0).a)\/(¬z4l (z1v q.ts) (q.cs.getD i cx0).b))\/(0<=(z6k (q.cs.getD i cx0).a (q.cs.getD i cx0).b)))) (.c6 U U U U U U) ?_ ?_;refine fad U z9m ?_;replace J:=(J.ext (q2.n1 q3)).fr q4;refine z0g U J U x3c (fad U y2j (z1q (vs:=[_,_]) U I z3t U ?_));replace M:=a3.ext (q1.z3 q2 q3 q4);refine cl (ev2 U) (mkC func138) (x7f (q.cs.getD i cx0).a _ _ _ M.t M.tt (by omega) (by omega)) U ?_;rintro _ w5 ⟨rfl,q5⟩;have z5:=q5.size;refine nt' U (mv U (gs 19 U (λhh=>absurd hh (by exact λe=>e a0.1)) (λg0=>(gY U (fad U z9m (gY U ?_))))));replace J:=J.ext q5;refine z0g U J U x3c (gY U (fad U y2e (gY U ?_)));replace I:=I.ext q5;refine z1q (vs:=[_,_]) U I z3t U (gY U ?_);replace M:=a3.ext (q1.z4 q2 q3 q4 q5);refine cl (ev2 U) (mkC func138) (x7f (q.cs.getD i cx0).b _ _ _ M.t M.tt (by omega) (by omega)) U ?_;rintro _ w6 ⟨rfl,q6⟩;have z6:=q6.size;refine gY U (nt' U (pkf U (mv U (gs 27 U (λhh=>absurd hh (by exact λe=>e a0.2.1)) (λg1=>(gY U (fad U y2j (gY U ?_))))))));replace I:=I.ext q6;refine z1q (vs:=[_,_]) U I z3t U (gY U (fad U y2e (gY U (z1q (vs:=[_,_]) U I z3t U (gY U (cl (ev2 U) j4s (y1s (q.cs.getD i cx0).a (q.cs.getD i cx0).b _) U ?_))))));rintro _ w7 ⟨rfl,q7⟩;have z7:=q7.size;exact gY U (ge' U U (pkf U (z7q U (.c6 U U U U U U) (q5.n2 q6 q7))));intro w8 q8;have z8:=q8.size;refine tn (cd U (λc1=>?_) (λc1=>?_));refine sr (asg U (kpL [(2,_)] (.cons U .nil) (nn (rt (tr (rb (tr (tr (rb (tr (r1 results100 U ?_)))))))))));exfalso;rcases c1 with (hh|hh)|hh
 exact hh a0.1;exact hh a0.2.1;omega;refine sk (tn (sq (sq ?_)));refine rbo (r:=47) (L':=[(1,_),(3,_),(4,_),(6,_),(7,_),(8,_)]) (((((q.cs.getD i cx0).n < -1048576)\/(1048576<(q.cs.getD i cx0).n))\/((q.cs.getD i cx0).n=0))) (.c6 U U U U U U) ?_ ?_;refine fad U y5o ?_;replace I:=I.ext q8;refine z0g U I U na3 (lt' U (mv U (gs 38 U (λhh=>absurd hh (by omega)) (λg2=>(gY U (fad U y5o (gY U (z0g U I U na3 (gY U (gt' U (pkf U (mv U (gs 43 U (λhh=>absurd hh (by omega)) (λg3=>?_))))))))))))));exact gY U (fad U y5o (gY U (z0g U I U na3 (gY U (eq' U (pkf U (rbe U (.c6 U U U U U U))))))));refine tn (cd U (λc2=>?_) (λc2=>?_));refine sr (asg U (kpL [(2,_)] (.cons U .nil) (nn (rt (tr (rb (tr (tr (rb (tr (r1 results100 U ?_)))))))))));exfalso;omega;refine sk (tn (sq ?_));replace M:=a3.ext (q1.z4 q2 q3 q4 q8);replace J:=((J.ext (q2.n1 q3)).fr q4).ext q8;intro a h;refine z0j none (λwb w'=>Fr [] wb w') z2s ?_;intro w9 q9;have z9:=q9.size;replace M:=M.ext q9;replace J:=J.ext q9;replace I:=I.ext (q8.n1 q9);have hC:Fr [] w9 w9:=Fr.refl _ _;have a2:=M;have O:=J;have Z:=I;refine z0e 0 h U λa h=>v9b 1 hC h wn U U U U λa h=>z0e 2 h U λa h=>?_;refine gSp (D:=50) h U ?_ ?_;clear h;intro g4 h;refine z0c 3 h U y3n U ?_ (hG:=(wy U));clear h a;intro a h;refine z0l 4 h U (λ_ hw=>O.ext hw) U u5n U ?_ (hG:=(wy U));clear h a;intro a h;refine z0e 5 h U ?_ (hG:=(wy U));clear h a;intro a h;refine z3e 6 h (wy U) U (by first|exact i6 (by omega)|rfl) U λa h=>z1h (p:=(i-1)) (cx0) 7 h U M.c U v8y U ?_ (hG:=(wy U));clear h a;intro b0 a5 a h;refine z2c 8 h (wy U) U (λ_ hw=>a5 _ (a2.c.ext hw)) x6f U λa h=>z0z 9 h U (λ_ hw=>Z.ext hw) x6f U ?_ (hG:=(wy U));clear h a;intro a h;refine z0d 10 U ?_;refine y5p h U U U U U U ?_;refine z0m h (z0a U (z0a U z0f)) (mkC func92) (u3q (q.cs.getD (i-1) cx0) (q.cs.getD i cx0) _) ?_;rintro _ b9 ⟨rfl,a1⟩ a h;have c9:=a1.size;replace M:=M.ext a1;replace J:=J.ext a1;replace I:=I.ext a1;replace hC:=hC.next a1;refine z0b ?_;refine u2g 11 hC h (wy U) U U U U λa h=>z0d 12 U ?_;refine z5t h U λa h=>?_;refine z0b ?_;refine z0r ?_;clear hC a2 O Z;refine bk (h.sub (L':=[(1,_),(6,_),(7,_),(8,_),(60,_)]) (.c5 U U U U U)) (tn (cd U (λc3=>?_) (λc3=>?_)));refine sr (asg U (nn (rt (rb (tr (tr (rb (tr (r1 results100 U ?_)))))))));exfalso;first|omega|(have:=a8 (by omega) (by omega);omega)
 refine sk (bn' (tn (rg (z0v U (wi6 (by omega)) (mv U (nl ?_))))));exact lpE (i+1) (.c4 U U U U) ⟨(q2.z5 q3 q4 q8 q9 a1),by omega⟩ (by omega);clear h;intro g4 h;refine z2i 3 h U U λa h=>z2i 4 h U U λa h=>z2i 5 h U U λa h=>z2i 6 h U U λa h=>z2i 7 h U U λa h=>z2i 8 h U U λa h=>z2i 9 h U U λa h=>z2i 10 h U U λa h=>z2i 11 h U U λa h=>z0d 12 U ?_;refine z4t h U λa h=>?_;refine z0b ?_;refine z0r ?_;clear hC a2 O Z;refine bk (h.sub (L':=[(1,_),(6,_),(7,_),(8,_),(60,_)]) (.c5 U U U U U)) (tn (cf U (sk (bn' (tn (rg (z0v U (wi6 (by omega)) (mv U (nl ?_)))))))));exact lpE (i+1) (.c4 U U U U) ⟨(q2.z4 q3 q4 q8 q9),by omega⟩ (by omega);obtain rfl:i=q.cs.length:=by omega
 refine ex (te (te (xh (tn (sr (asg U (nn (rt (r1 results100 U ?_)))))))));exact⟨_,rfl,rfl,(q1.n1 q2)⟩
theorem v3v {a b:List LId}{k:Nat}(h:∀i,(a++b).count i<=1)(c:List LId)(D:∃d,a++b=c++d):c.count (b.getD k id0)<=100000:=by
 obtain⟨d,e⟩:=D;have:=h (b.getD k id0);rw[e,List.count_append]at this;omega
set_option maxHeartbeats 2000000 in
theorem v0w (q:FbQ)(w0:World)(M:FbAt w0 q)(h6:q.ts.length=6)(hv:TabV (z1v q.ts))(hp:PlaceW (z1v q.ts) q.hs q.fs):Rets prog 101 #[.agg #[.slice q.t.1 q.t.2.1 q.t.2.2,.slice q.c.1 q.c.2.1 q.c.2.2,.slice q.h.1 q.h.2.1 q.h.2.2,.slice q.f.1 q.f.2.1 q.f.2.2]] w0 λr w'=>r=.int .i64 (v9p (z1v q.ts) q.hs q.fs)/\Fr [] w0 w':=by
 have h8:=M.len;have h5:=z6y q.ts;have hM:=M.f.len_le;unfold maxLen at hM;refine we [(0,.agg #[.slice q.t.1 q.t.2.1 q.t.2.2,.slice q.c.1 q.c.2.1 q.c.2.2,.slice q.h.1 q.h.2.1 q.h.2.2,.slice q.f.1 q.f.2.1 q.f.2.2])] func101 U ntmps101 U (.cons U .nil) ?_;have J:=M;refine sr (bx U (λg1 w1 g7 I q1 z1=>?_));refine asg U (nn (sq (sr (fad U y6g (z0g U I U z6c (fad U z9u (z0g U I U z6c (z1s (cs:=[_,_]) (ev2 U) k0r (z0h U (z0h U z0q)) U ?_))))))));refine mv U (nn (bl ?_));refine lpK (ι:=Nat) [(1,_),(22,_)] (λz=>[(23,.int .i64 (z:Int))]) (λz w'=>Fr [] w1 w'/\z<=2) (λz=>2-z) 0 (.c3 U U U) ⟨Fr.refl _ _,Nat.zero_le _⟩ ?_;rintro z w2 ⟨q2,hz⟩;have z2:=q2.size;refine kpC [(1,_),(22,_),(23,_)] (.c3 U U U) (sr (lt' U (nn (sq (cd U (λc0=>?_) (λc0=>?_))))));have h7:=z1u (u1k J z);have d7:=(u1k J z).len_le;unfold maxLen at d7;refine sk (tn (sq (bl (sr (u6a U U underlying231 j2l z6c (j9j (by omega)) U (asg U (nn (sr (mv U (lnS U underlying37 (mv U (nn (bl ?_)))))))))))));refine lpK (ι:=Nat) [(1,_),(22,_),(23,_),(26,_),(27,_)] (λn=>[(28,.int .i64 (n:Int))]) (λn w'=>Fr [] w2 w'/\n<=(hfl q z).length) (λn=>(hfl q z).length-n) 0 (.c6 U U U U U U) ⟨Fr.refl _ _,Nat.zero_le _⟩ ?_;rintro n w3 ⟨q3,hn⟩;have z3:=q3.size;refine kpC [(1,_),(22,_),(23,_),(26,_),(27,_),(28,_)] (.c6 U U U U U U) (sr (lt' U (nn (sq (cd U (λc1=>?_) (λc1=>?_))))));refine sk (tn (sq (bl (sr ?_))));replace M:=J.ext (q1.n2 q2 q3);refine z1a (id0) U (u1k M z) U z6o z1d (λf1 d0=>?_);refine z1j U (d0 _ (u1k M z)) z3t (al y4p U (λg6 w4 h0 b9 q4 z4=>?_));refine z0i (vs:=[_,_]) U b9 y3i (λw5 b9 q5 z5=>?_) (h1:=(by first|(simp[Value.oneCell',S];done)|exact z4r.one _|exact z1k.one _));refine nn (sr (fad U z9m ?_));replace I:=(I.ext (q2.n2 q3 q4)).fr q5;refine z0g U I U x3c (z0k U b9 z3t ?_);replace M:=J.ext (q1.z4 q2 q3 q4 q5);refine cl (ev2 U) (mkC func138) (x7f ((hfl q z).getD n id0) _ _ _ M.t M.tt (by omega) (by have h:=hp.has _ (j4c z (z0t (d:=id0) (i:=n) (by omega)));have:=h.1;have:=h.2.1;omega)) U ?_;rintro _ w6 ⟨rfl,q6⟩;have z6:=q6.size;refine nt' U (nn (cd U (λc2=>?_) (λc2=>?_)));refine sr (asg U (kpL [(2,_)] (.cons U .nil) (nn (rt (rb (tr (tr (rb (rb (tr (tr (rb (tr (r1 results101 U ?_))))))))))))));exact absurd (hp.has _ (j4c z (z0t (d:=id0) (i:=n) (by omega)))) (by simpa using c2);refine sk (bn' (tn (rg (z0v U (wi6 (by omega)) (mv U (nl ?_))))));exact lpE (n+1) (.c6 U U U U U U) ⟨(q3.z3 q4 q5 q6),by omega⟩ (by omega);obtain rfl:n=(hfl q z).length:=by omega
 refine ex (te (te (xh (bn' (tn (rg (z0v U (wi6 (by omega)) (mv U (nl ?_)))))))));exact lpE (z+1) (.c3 U U U) ⟨(q2.n1 q3),by omega⟩ (by omega);obtain rfl:z=2:=by omega
 refine ex (te (te (xh (tn (sq (sr (fad U z9u ?_)))))));replace I:=I.ext q2;refine z0g U I U z6c (lnS U underlying37 (mv U (nn (bl ?_))));refine lpK (ι:=Nat) [(1,_),(40,_),(41,_)] (λi=>[(42,.int .i64 (i:Int))]) (λi w'=>Fr [] w2 w'/\i<=q.fs.length) (λi=>q.fs.length-i) 0 (.c4 U U U U) ⟨Fr.refl _ _,Nat.zero_le _⟩ ?_;rintro i w7 ⟨q7,hi⟩;have z7:=q7.size;refine kpC [(1,_),(40,_),(41,_),(42,_)] (.c4 U U U U) (sr (lt' U (nn (sq (cd U (λc3=>?_) (λc3=>?_))))));have e7:=hp.asc i;refine sk (tn (sq (bl (sr (mv U ?_)))));replace M:=J.ext (q1.n2 q2 q7);refine z1a (id0) U M.f U z6o z1d (λf2 d1=>?_);refine z1j U (d1 _ M.f) z3t (al y4p U (λg8 w8 h2 a7 q8 z8=>?_));refine asg U (z0i (vs:=[_,_]) U a7 y3i (λw9 a7 q9 z9=>?_) (h1:=(by first|(simp[Value.oneCell',S];done)|exact z4r.one _|exact z1k.one _)));refine nn (sq ?_);replace M:=J.ext (q1.z4 q2 q7 q8 q9);replace I:=(I.ext (q7.n1 q8)).fr q9;intro a h;refine z0j none (λwb w'=>Fr [] wb w') z2s ?_;intro e2 b0;have j0:=b0.size;replace M:=M.ext b0;replace I:=I.ext b0;replace a7:=a7.ext b0;have hC:Fr [] e2 e2:=Fr.refl _ _;have b4:=M;have a6:=I;have a8:=a7;refine z0e 0 h U λa h=>v9b 1 hC h wn U U U U λa h=>z0e 2 h U λa h=>?_;refine gSp (D:=49) h U ?_ ?_;clear h;intro g0 h;refine z0c 3 h U z9u U ?_ (hG:=(wy U));clear h a;intro a h;refine z0l 4 h U (λ_ hw=>a6.ext hw) U z6c U ?_ (hG:=(wy U));clear h a;intro a h;refine z0e 5 h U ?_ (hG:=(wy U));clear h a;intro a h;refine z3e 6 h (wy U) U (by first|exact i6 (by omega)|rfl) U λa h=>z1h (p:=(i-1)) (id0) 7 h U M.f U z6o U ?_ (hG:=(wy U));clear h a;intro f3 d3 a h;refine z2c 8 h (wy U) U (λ_ hw=>d3 _ (b4.f.ext hw)) z3t U λa h=>z0z 9 h U (λ_ hw=>a8.ext hw) z3t U ?_ (hG:=(wy U));clear h a;intro a h;refine z0d 10 U ?_;refine y5p h U U U U U U ?_;refine z0m h (z0a U (z0a U z0f)) j4s (y1s (q.fs.getD (i-1) id0) (q.fs.getD i id0) _) ?_;rintro _ h9 ⟨rfl,b1⟩ a h;have j1:=b1.size;replace M:=M.ext b1;replace I:=I.ext b1;replace a7:=a7.ext b1;replace hC:=hC.next b1;refine z0b ?_;refine u2g 11 hC h (wy U) U U U U λa h=>z0d 12 U ?_;refine z5t h U λa h=>?_;refine z0b ?_;refine z0r ?_;clear hC b4 a6 a8;refine bk (h.sub (L':=[(1,_),(40,_),(41,_),(42,_),(59,_)]) (.c5 U U U U U)) (tn (cd U (λc4=>?_) (λc4=>?_)));refine sr (asg U (nn (rt (rb (tr (tr (rb (tr (r1 results101 U ?_)))))))));exfalso;first|omega|(have:=e7 (by omega) (by omega);omega)
 refine sk (bn' (tn (rg (z0v U (wi6 (by omega)) (mv U (nl ?_))))));exact lpE (i+1) (.c4 U U U U) ⟨(q7.z4 q8 q9 b0 b1),by omega⟩ (by omega);clear h;intro g0 h;refine z2i 3 h U U λa h=>z2i 4 h U U λa h=>z2i 5 h U U λa h=>z2i 6 h U U λa h=>z2i 7 h U U λa h=>z2i 8 h U U λa h=>z2i 9 h U U λa h=>z2i 10 h U U λa h=>z2i 11 h U U λa h=>z0d 12 U ?_;refine z4t h U λa h=>?_;refine z0b ?_;refine z0r ?_;clear hC b4 a6 a8;refine bk (h.sub (L':=[(1,_),(40,_),(41,_),(42,_),(59,_)]) (.c5 U U U U U)) (tn (cf U (sk (bn' (tn (rg (z0v U (wi6 (by omega)) (mv U (nl ?_)))))))));exact lpE (i+1) (.c4 U U U U) ⟨(q7.z3 q8 q9 b0),by omega⟩ (by omega);obtain rfl:i=q.fs.length:=by omega
 refine ex (te (te (xh (tn (sr (y7x idV (.int .i64 0) U (λa4 i0 f8 hm a5 j2=>(al j8r U (λg9 i1 h3 O a0 j3=>(z5s U U O U j9u (λi2 O a1 j4=>(nn (sr (z6n z0f (ev1 U) U (asg U (nn (sr (mv U (fad U y6g ?_)))))))))))))))))));replace I:=(I.ext (q7.n2 a5 a0)).fr a1;refine z0g U I U z6c ?_;replace M:=J.ext (q1.z5 q2 q7 a5 a0 a1);replace hm:=(hm.ext a0).fr a1 (by intro k hk hb;simp at hk hb;omega);refine clv (us:=[]) (ws:=[.pointer (some ⟨g9,0,none⟩)]) U (ev1 U) (mkC func139) (x5j g9 a4 [] _ _ w0 _ J.h (by omega) M.h O hm (λk hk=>v3v (a:=[]) (b:=q.hs) (λi=>(by have:=hp.le i;simp only[List.count_append,List.nil_append]at this ⊢;omega)) _ ⟨q.hs.drop k,by simp⟩)) U (by intro g e;cases e) ?_;rintro f9 i3 ⟨hm,a2⟩;have j5:=a2.size;refine nn (sr (mv U (fad U z9u ?_)));replace I:=I.fr a2;refine z0g U I U z6c ?_;replace M:=J.ext (q1.z6 q2 q7 a5 a0 a1 a2);replace O:=O.fr a2;refine clv (us:=[]) (ws:=[.pointer (some ⟨g9,0,none⟩)]) U (ev1 U) (mkC func139) (x5j g9 a4 ([]++q.hs) _ _ w0 _ J.f (by omega) M.f O hm (λk hk=>v3v (a:=q.hs) (b:=q.fs) (λi=>(by have:=hp.le i;simp only[List.count_append]at this ⊢;omega)) _ ⟨q.fs.drop k,by simp⟩)) U (by intro g e;cases e) ?_;rintro g3 e9 ⟨hm,a3⟩;have j6:=a3.size;refine nn (sq (sr (fad U z9m ?_)));replace I:=I.fr a3;refine z0g U I U x3c (lnS U underlying35 (mv U (nn (bl ?_))));refine lpK (ι:=Nat) [(1,_),(9,_),(10,_),(72,_),(73,_)] (λy=>[(74,.int .i64 (y:Int))]) (λy w'=>Fr [a4] e9 w'/\y<=q.ts.length/\MapZ idV w' a4 (.int .i64 0) (x1k ((q.hs++q.fs)++(y0n (z1v q.ts) y 0)))) (λy=>q.ts.length-y) 0 (.c6 U U U U U U) ⟨Fr.refl _ _,⟨Nat.zero_le _,by rw[v3e,List.append_nil];exact hm⟩⟩ ?_;rintro y e3 ⟨Z,⟨hy,hm⟩⟩;have j7:=Z.size;refine kpC [(1,_),(9,_),(10,_),(72,_),(73,_),(74,_)] (.c6 U U U U U U) (sr (lt' U (nn (sq (cd U (λc5=>?_) (λc5=>?_))))));have e8:=z5y J.tt y;have b8:=(J.tt _ (z0t (d:=tq0) (i:=y) (by omega))).1.len_le;unfold maxLen at b8;refine sk (tn (sq (bl (sr ?_))));replace M:=J.ext (((q1.z6 q2 q7 a5 a0 a1 a2).z1 a3).z1 Z);refine z1a (tq0) U M.t U y7d z1d (λf4 d4=>?_);refine z1g U (d4 _ M.t) x4i (asg U (nn (sr (mv U (lnS U underlying46 (mv U (nn (bl ?_))))))));refine lpK (ι:=Nat) [(1,_),(9,_),(10,_),(72,_),(73,_),(74,_),(78,_),(79,_)] (λn=>[(80,.int .i64 (n:Int))]) (λn w'=>Fr [a4] e3 w'/\n<=(q.ts.getD y tq0).2.length/\MapZ idV w' a4 (.int .i64 0) (x1k ((q.hs++q.fs)++(y0n (z1v q.ts) y n)))) (λn=>(q.ts.getD y tq0).2.length-n) 0 (.d8 U U U U U U U U (.cons U .nil)) ⟨Fr.refl _ _,⟨Nat.zero_le _,hm⟩⟩ ?_;rintro n i4 ⟨b2,⟨hn,hm⟩⟩;have j8:=b2.size;refine kpC [(1,_),(9,_),(10,_),(72,_),(73,_),(74,_),(78,_),(79,_),(80,_)] (.d8 U U U U U U U U (.cons U .nil)) (sr (lt' U (nn (sq (cd U (λc6=>?_) (λc6=>?_))))));have h4:=z1u (z7y J.tt (y:=y) (n:=n) (by omega) (by omega)).1;have e6:∀k,k<((q.ts.getD y tq0).2.getD n lq0).ths.length->(((q.hs++q.fs)++y0n (z1v q.ts) y n)++((q.ts.getD y tq0).2.getD n lq0).ths.take k).count (((q.ts.getD y tq0).2.getD n lq0).ths.getD k id0)<=100000:=λk hk=>by
  have e4:=x9r (k:=k) hv.thr (y:=y) (n:=n) (by omega) (by omega) hk;have e5:=hp.le (((q.ts.getD y tq0).2.getD n lq0).ths.getD k id0);rw[List.count_append]at e5;rw[List.count_append,List.count_append];rw[List.count_append,List.count_append,List.count_singleton,if_pos (by simp)]at e4;omega
 refine sk (tn (sq (bl (sr ?_))));replace M:=J.ext ((((q1.z6 q2 q7 a5 a0 a1 a2).z1 a3).z1 Z).z1 b2);refine z1a (lq0) U (M.tt _ (z0t (d:=tq0) (i:=y) (by omega))).1 U x8h z1d (λf5 d5=>?_);refine z1j U (d5 _ (M.tt _ (z0t (d:=tq0) (i:=y) (by omega))).1) x8z (al v9i U (λg5 i5 f7 b5 b6 j9=>?_));refine z0i (vs:=[_,_,_,_]) U b5 u2v (λi7 b5 b7 k0=>?_) (h1:=(by first|(simp[Value.oneCell',S];done)|exact z4r.one _|exact z1k.one _));refine nn (rg (mv U (fad U z7f (z0g U b5 U z6c ?_))));replace M:=J.ext ((((q1.z6 q2 q7 a5 a0 a1 a2).z1 a3).z1 Z).z3 b2 b6 b7);replace O:=((((O.fr a3).fr Z).fr b2).ext b6).fr b7;replace hm:=(hm.ext b6).fr b7 (by intro k hk hb;simp at hk hb;omega);refine clv (us:=[]) (ws:=[.pointer (some ⟨g9,0,none⟩)]) U (ev1 U) (mkC func139) (x5j g9 a4 ((q.hs++q.fs)++y0n (z1v q.ts) y n) _ _ w0 _ (z7y J.tt (y:=y) (n:=n) (by omega) (by omega)).1 (by omega) (z7y M.tt (y:=y) (n:=n) (by omega) (by omega)).1 O hm (λk hk=>e6 k hk)) U (by intro g e;cases e) ?_;rintro g4 i8 ⟨hm,e1⟩;have k1:=e1.size;refine nl (bn' (tn (rg (z0v U (wi6 (by omega)) (mv U (nl ?_))))));exact lpE (n+1) (.d8 U U U U U U U U (.cons U .nil)) ⟨((Fr.refl [a4] _).z4 b2 b6 b7 e1),⟨by omega,by rw[y7r (by omega),<-List.append_assoc];exact hm⟩⟩ (by omega);obtain rfl:n=(q.ts.getD y tq0).2.length:=by omega
 refine ex (te (te (xh (bn' (tn (rg (z0v U (wi6 (by omega)) (mv U (nl ?_)))))))));exact lpE (y+1) (.c6 U U U U U U) ⟨((Fr.refl [a4] _).z2 Z b2),⟨by omega,by rw[y8w (by omega)];exact hm⟩⟩ (by omega);obtain rfl:y=q.ts.length:=by omega
 rw[u0y (by rw[z6y];omega)]at hm;refine ex (te (te (xh (tn (sq (sr (fad U z9m ?_)))))));replace I:=I.fr Z;refine z0g U I U x3c (lnS U underlying35 (mv U (kpL [(9,_),(91,_),(92,_),(93,_)] (.c4 U U U U) (nn (bl ?_)))));refine lpK (ι:=Nat) [(9,_),(91,_),(92,_)] (λy=>[(93,.int .i64 (y:Int))]) (λy w'=>Fr [] e3 w'/\y<=q.ts.length/\∀y',y'<y->∀n,n<z2t (z1v q.ts) y'->(q.hs++q.fs++z9f (z1v q.ts)).count ⟨(y':Int)+1,(n:Int)⟩=1) (λy=>q.ts.length-y) 0 (.c4 U U U U) ⟨Fr.refl _ _,⟨Nat.zero_le _,λk h=>absurd h (by omega)⟩⟩ ?_;rintro y f0 ⟨a9,⟨hy,e0⟩⟩;have k2:=a9.size;refine kpC [(9,_),(91,_),(92,_),(93,_)] (.c4 U U U U) (sr (lt' U (nn (sq (cd U (λc7=>?_) (λc7=>?_))))));have e8:=z5y J.tt y;have b8:=(J.tt _ (z0t (d:=tq0) (i:=y) (by omega))).1.len_le;unfold maxLen at b8;refine sk (tn (sq (bl (sr (mv U ?_)))));replace M:=J.ext ((((q1.z6 q2 q7 a5 a0 a1 a2).z1 a3).z1 Z).n1 a9);refine z1a (tq0) U M.t U y7d z1d (λf6 d6=>?_);refine z1g U (d6 _ M.t) x4i (asg U (asg U (nn (sr (mv U (lnS U underlying46 (mv U (nn (bl ?_)))))))));refine lpK (ι:=Nat) [(9,_),(15,_),(91,_),(92,_),(93,_),(99,_)] (λn=>[(100,.int .i64 (n:Int))]) (λn w'=>Fr [] f0 w'/\n<=(q.ts.getD y tq0).2.length/\∀n',n'<n->(q.hs++q.fs++z9f (z1v q.ts)).count ⟨(y:Int)+1,(n':Int)⟩=1) (λn=>(q.ts.getD y tq0).2.length-n) 0 (.c7 U U U U U U U) ⟨Fr.refl _ _,⟨Nat.zero_le _,λk h=>absurd h (by omega)⟩⟩ ?_;rintro n i9 ⟨b3,⟨hn,d9⟩⟩;have k3:=b3.size;refine kpC [(9,_),(15,_),(91,_),(92,_),(93,_),(99,_),(100,_)] (.c7 U U U U U U U) (sr (lt' U (nn (sq (cd U (λc8=>?_) (λc8=>?_))))));refine sk (tn (sq (bl (sr (mv U (asg U (nn (sr ?_))))))));replace O:=((O.fr a3).fr Z).ext (a9.n1 b3);refine z4a U O j7o (mv U (z0v U (wi6 (by omega)) (z5a U (us underlying3) underlying5 (wi8 (by omega)) (mv U (z1s (cs:=[_,_]) (ev2 U) j6h (z0h U (z0h U z0q)) U ?_)))));replace hm:=hm.ext (a9.n1 b3);refine y5h (V:=idV) (z:=(.int .i64 0)) (k:=(⟨(y:Int)+1,(n:Int)⟩:LId)) (v:=.int .i64 (((((q.hs++q.fs)++z9f (z1v q.ts))).count (⟨(y:Int)+1,(n:Int)⟩:LId):Nat):Int)) U U hm z6f underlying232 zvI U U (ne' U (kpL [(9,_),(15,_),(91,_),(92,_),(93,_),(99,_),(100,_),(110,_)] (.c8 U U U U U U U U) (nn (cd U (λc9=>?_) (λc9=>?_)))));refine sr (asg U (kpL [(2,_)] (.cons U .nil) (nn (rt (rb (tr (tr (rb (rb (tr (tr (rb (tr (r1 results101 U ?_))))))))))))));exact⟨_,rfl,by rw[j2s (y:=y) (n:=n) (by omega) (by rw[z2p];omega) (by omega)],((((q1.z6 q2 q7 a5 a0 a1 a2).z1 a3).z1 Z).n2 a9 b3)⟩;refine sk (bn' (tn (rg (z0v U (wi6 (by omega)) (mv U (nl ?_))))));exact lpE (n+1) (.c7 U U U U U U U) ⟨b3,⟨by omega,λk h=>by
  by_cases e:k=n;subst e;omega;exact d9 k (by omega)⟩⟩ (by omega)
 obtain rfl:n=(q.ts.getD y tq0).2.length:=by omega
 refine ex (te (te (xh (bn' (tn (rg (z0v U (wi6 (by omega)) (mv U (nl ?_)))))))));exact lpE (y+1) (.c4 U U U U) ⟨(a9.n1 b3),⟨by omega,λk h=>by
  by_cases e:k=y;subst e;exact λn h=>d9 n (by rw[z2p]at h;omega);exact e0 k (by omega)⟩⟩ (by omega)
 obtain rfl:y=q.ts.length:=by omega
 refine ex (te (te (xh (tn (sr (asg U (nn (rt (r1 results101 U ?_)))))))));exact⟨_,rfl,by rw[v7h λy hy n hn=>e0 y (by omega) n hn],((((q1.z6 q2 q7 a5 a0 a1 a2).z1 a3).z1 Z).n1 a9)⟩
theorem u1i (q:FbQ)(w0:World)(I:FbAt w0 q)(h6:q.ts.length=6)(hv:TabV (z1v q.ts))(hc:CrsV (z1v q.ts) q.cs)(hp:PlaceW (z1v q.ts) q.hs q.fs):Rets prog 45 #[.agg #[.slice q.t.1 q.t.2.1 q.t.2.2,.slice q.c.1 q.c.2.1 q.c.2.2,.slice q.h.1 q.h.2.1 q.h.2.2,.slice q.f.1 q.f.2.1 q.f.2.2]] w0 λr w'=>r=.int .i64 (v9p (z1v q.ts) q.hs q.fs)/\Fr [] w0 w':=by
 refine we [(0,.agg #[.slice q.t.1 q.t.2.1 q.t.2.2,.slice q.c.1 q.c.2.1 q.c.2.2,.slice q.h.1 q.h.2.1 q.h.2.2,.slice q.f.1 q.f.2.1 q.f.2.2])] func45 U ntmps45 U (.cons U .nil) ?_;have J:=I;refine sr (bx U (λg1 w1 a0 D O z1=>(asg U (nn (sq (sr (fad U z9m (z0g U D U x3c ?_))))))));replace I:=J.ext O;refine cl (ev1 U) (mkC func99) (j0g _ _ _ I.t I.tt h6 hv) U ?_;rintro _ w2 ⟨rfl,M⟩;have z2:=M.size;refine asg U (nn (sr (mv U (ne' U (nn (cd U (λc0=>?_) (λc0=>?_)))))));refine sr (mv U (asg U (nn (rt (tr (r1 results45 U ?_))))));exact absurd U (by assumption);refine sk (tn (sq (sr ?_)));replace D:=D.ext M;refine z0k U D x7e ?_;replace I:=J.ext (O.n1 M);refine cl (ev1 U) (mkC func100) (v1k q _ I h6 hc) U ?_;rintro _ w3 ⟨rfl,Z⟩;have z3:=Z.size;refine asg U (nn (sr (mv U (ne' U (nn (cd U (λc1=>?_) (λc1=>?_)))))));refine sr (mv U (asg U (nn (rt (tr (r1 results45 U ?_))))));exact absurd U (by assumption);refine sk (tn (sr ?_));replace D:=D.ext Z;refine z0k U D x7e ?_;replace I:=J.ext (O.n2 M Z);refine cl (ev1 U) (mkC func101) (v0w q _ I h6 hv hp) U ?_;rintro _ w4 ⟨rfl,q4⟩;have z4:=q4.size;refine asg U (nn (rt (r1 results45 U ?_)));exact⟨_,rfl,rfl,(O.n3 M Z q4)⟩
theorem y8z (q:FbQ)(w0:World)(I:FbAt w0 q)(D:q.ts.length=6)(M:TabV (z1v q.ts))(J:CrsV (z1v q.ts) q.cs)(hp:PlaceV (z1v q.ts) q.hs q.fs):Rets prog 45 #[.agg #[.slice q.t.1 q.t.2.1 q.t.2.2,.slice q.c.1 q.c.2.1 q.c.2.2,.slice q.h.1 q.h.2.1 q.h.2.2,.slice q.f.1 q.f.2.1 q.f.2.2]] w0 λr w'=>r=.int .i64 0/\Fr [] w0 w':=by
 have x:=u1i q w0 I D M J hp.w;rw[v7h hp.once]at x;exact x
theorem v3d (v:Value)(l:List Pa)(w0:World)(I:Sl z1t w0 v l)(hl:l.length<=100000):Rets prog 108 #[v] w0 λr w'=>∃g,r=.slice (some ⟨g,0,none⟩) l.length l.length/\w0.heap.size<=g/\Lw.Own z1t 100 w0.heap.size w' r l/\Fr [] w0 w':=by
 obtain⟨A,c,rfl,a0,hM,Z⟩:=id I;clear Z;unfold maxLen at hM;refine we [(0,.slice A l.length c)] func108 U ntmps108 U (.cons U .nil) ?_;have J:=I;refine sr (asg U (nn (sr (mv U (lnS U underlying54 (z1f (m:=l.length) (c:=l.length) (pa0) U z9h y7i U (λO w1 a1 D M z1=>(asg U (nn (sr (mv U (mv U ?_))))))))))));replace I:=J.ext M;refine z8b (zs:=List.replicate l.length pa0) (by rw[List.length_replicate];rfl) U (by rw[List.length_replicate];exact D) I (by rw[List.length_replicate]) z9h (λw2 D q2 z2=>?_);rw[List.length_replicate]at D;refine nn (sr (mv U (asg U (nn (rt (r1 results108 U ?_))))));exact⟨_,rfl,O,rfl,by omega,D.low (by omega),(M.z1 q2)⟩
theorem v4q (v:Value)(l:List LpQ)(w0:World)(I:Sl z4r w0 v l)(hl:l.length<=100000):Rets prog 75 #[v] w0 λr w'=>∃g,r=.slice (some ⟨g,0,none⟩) l.length l.length/\w0.heap.size<=g/\Lw.Own z4r 89 w0.heap.size w' r l/\Fr [] w0 w':=by
 obtain⟨A,c,rfl,a0,hM,Z⟩:=id I;clear Z;unfold maxLen at hM;refine we [(0,.slice A l.length c)] func75 U ntmps75 U (.cons U .nil) ?_;have J:=I;refine sr (asg U (nn (sr (mv U (lnS U underlying46 (z1f (m:=l.length) (c:=l.length) (lq0) U x8h v9i U (λO w1 a1 D M z1=>(asg U (nn (sr (mv U (mv U ?_))))))))))));replace I:=J.ext M;refine z8b (zs:=List.replicate l.length lq0) (by rw[List.length_replicate];rfl) U (by rw[List.length_replicate];exact D) I (by rw[List.length_replicate]) x8h (λw2 D q2 z2=>?_);rw[List.length_replicate]at D;refine nn (sr (mv U (asg U (nn (rt (r1 results75 U ?_))))));exact⟨_,rfl,O,rfl,by omega,D.low (by omega),(M.z1 q2)⟩
theorem v7i (v:Value)(l:List Cx)(w0:World)(I:Sl z4v w0 v l)(hl:l.length<=100000000):Rets prog 77 #[v] w0 λr w'=>∃g,r=.slice (some ⟨g,0,none⟩) l.length l.length/\w0.heap.size<=g/\Lw.Own z4v 109 w0.heap.size w' r l/\Fr [] w0 w':=by
 obtain⟨A,c,rfl,a0,hM,Z⟩:=id I;clear Z;unfold maxLen at hM;refine we [(0,.slice A l.length c)] func77 U ntmps77 U (.cons U .nil) ?_;have J:=I;refine sr (asg U (nn (sr (mv U (lnS U underlying36 (z1f (m:=l.length) (c:=l.length) (cx0) U v8y v4p U (λO w1 a1 D M z1=>(asg U (nn (sr (mv U (mv U ?_))))))))))));replace I:=J.ext M;refine z8b (zs:=List.replicate l.length cx0) (by rw[List.length_replicate];rfl) U (by rw[List.length_replicate];exact D) I (by rw[List.length_replicate]) v8y (λw2 D q2 z2=>?_);rw[List.length_replicate]at D;refine nn (sr (mv U (asg U (nn (rt (r1 results77 U ?_))))));exact⟨_,rfl,O,rfl,by omega,D.low (by omega),(M.z1 q2)⟩
theorem u8o (v:Value)(l:List YQ)(w0:World)(I:Sl z2v w0 v l)(hl:l.length<=100000):Rets prog 107 #[v] w0 λr w'=>∃g,r=.slice (some ⟨g,0,none⟩) l.length l.length/\w0.heap.size<=g/\Lw.Own z2v 82 w0.heap.size w' r l/\Fr [] w0 w':=by
 obtain⟨A,c,rfl,a0,hM,Z⟩:=id I;clear Z;unfold maxLen at hM;refine we [(0,.slice A l.length c)] func107 U ntmps107 U (.cons U .nil) ?_;have J:=I;refine sr (asg U (nn (sr (mv U (lnS U underlying33 (z1f (m:=l.length) (c:=l.length) (yq0) U y0y y1y U (λO w1 a1 D M z1=>(asg U (nn (sr (mv U (mv U ?_))))))))))));replace I:=J.ext M;refine z8b (zs:=List.replicate l.length yq0) (by rw[List.length_replicate];rfl) U (by rw[List.length_replicate];exact D) I (by rw[List.length_replicate]) y0y (λw2 D q2 z2=>?_);rw[List.length_replicate]at D;refine nn (sr (mv U (asg U (nn (rt (r1 results107 U ?_))))));exact⟨_,rfl,O,rfl,by omega,D.low (by omega),(M.z1 q2)⟩
theorem j2w {I qs:List IQ}{n:Nat}(hn:n<=qs.length)(D:(plB qs).take n=trimB (plB qs))(hl:I.length=n)(h:∀j,j<n->(I.getD j iq0).2=(qs.getD j iq0).2):plB I=trimB (plB qs):=by
 rw[<-D];refine List.ext_getElem (by simp[hl,hn]) λj J O=>?_;have M:j<n:=by simpa[hl] using J
 have:=h j M;rw[List.getD,List.getD,List.getElem?_eq_getElem (by omega),List.getElem?_eq_getElem (by omega)]at this;simpa[plB] using this
set_option maxHeartbeats 2000000 in
theorem y5r (v:Value)(qs:List IQ)(w0:World)(Z:Sl z6b w0 v qs)(hk:IqAt w0 qs)(hl:qs.length<=40)(h4:y0b qs):Rets prog 60 #[v] w0 λr w'=>(∃fs,RwO 37 87 w0.heap.size w' r fs/\plB fs=trimB (plB qs)/\∃g,r=.slice (some ⟨g,0,none⟩) fs.length fs.length)/\Fr [] w0 w':=by
 obtain⟨A,c,rfl,b3,hM,hA⟩:=id Z;clear hA;unfold maxLen at hM;refine we [(0,.slice A qs.length c)] func60 U ntmps60 U (.cons U .nil) ?_;have a7:=Z;have a5:=hk;refine sr (asg U (nn (sr (mv U (lnS U underlying30 (asg U (nn (sq (bl ?_)))))))));refine lpK (ι:=Nat) [(0,_)] (λn=>[(3,.int .i64 (n:Int))]) (λn w'=>Fr [] w0 w'/\n<=qs.length/\∀j,n<=j->(qs.getD j iq0).2=[]) (λn=>n) qs.length (.c2 U U) ⟨Fr.refl _ _,⟨Nat.le_refl _,λj O=>x8o O⟩⟩ ?_;rintro n w1 ⟨q1,⟨hn,a4⟩⟩;have z1:=q1.size;refine kpC [(0,_),(3,_)] (.c2 U U) ?_;have a6:=z1u (z1x a5 (n-1));refine sq (sq ?_);refine rbo (r:=18) (L':=[(0,_),(3,_)]) (((0<(n:Int))/\(((qs.getD (n-1) iq0).1.2.1:Int)=0))) (.c2 U U) ?_ ?_;refine mv U (gt' U (mv U (gs 10 U (λg0=>?_) (λg0=>?_))));refine gY U (mv U (gY U (mv U (gY U (z2o U (wi6 (by omega)) (gY U ?_))))));replace Z:=a7.ext q1;refine z1a (p:=n-1) (iq0) U Z U y4f (by omega) (λa9 a2=>?_);exact gY U (z1g U (a2 _ Z) z6c (gY U (lnS U underlying37 (gY U (eq' U (pkt U (rbe U (.c2 U U))))))));exact gN U (gN U (gN U (gN U (gN U (gN U (gN U (pkf U (rbe U (.c2 U U)))))))));refine tn (cd U (λc0=>?_) (λc0=>?_));refine sk (tn (bl (rg (mv U (z2o U (wi6 (by omega)) (asg U (nl (bn' ?_))))))));exact lpE (n-1) (.c2 U (congrArg (λz=>some (Value.int .i64 z)) (show (n:Int)-1=((n-1:Nat):Int) by omega))) ⟨q1,⟨by omega,λj O=>by
  by_cases e:n<=j;exact a4 j e;obtain rfl:j=n-1:=by omega
  exact List.eq_nil_of_length_eq_zero (by omega)⟩⟩ (by omega)
 have a8:=y2z (plB qs) n (by rw[List.length_map];exact hn) (λj O=>by rw[z3r];exact a4 j O) (by
  by_cases e:n=0;exact .inl e;refine .inr λh=>c0 ⟨by omega,?_⟩;rw[z3r]at h;rw[h]at a6;rw[a6];rfl)
 refine ex (te (te (xh (tn (sr (mv U (z1f (m:=n) (c:=n) (iq0) U y4f k0c U (λI w2 b1 M q2 z2=>(asg U (nn (sq (sr (mv U (mv U (nn (bl ?_))))))))))))))));refine lpK (ι:=Nat×List IQ) [(0,_),(4,_),(23,_)] (λp=>[(24,.int .i64 (p.1:Int))]) (λp w'=>Fr [I] w2 w'/\p.1<=n/\p.2.length=n/\Lw.Own z6b 37 w0.heap.size w' (.slice (some ⟨I,0,none⟩) n n) p.2/\(∀j,j<p.1->(p.2.getD j iq0).2=(qs.getD j iq0).2)/\PreO 87 (I+1) w' p.2 p.1) (λp=>n-p.1) (0,List.replicate n iq0) (.c4 U U U U) ⟨Fr.refl _ _,⟨Nat.zero_le _,by simp,M.low (by omega),λj O=>absurd O (by simp),PreO.zero⟩⟩ ?_;rintro⟨i,ps⟩ w3 ⟨q3,⟨hi,D,M,a0,J⟩⟩;simp only at hi M a0 J D;have z3:=q3.size;refine kpC [(0,_),(4,_),(23,_),(24,.int .i64 (i:Int))] (.c4 U U U U) (sr (lt' U (nn (sq (cd U (λc1=>?_) (λc1=>?_))))));refine sk (tn (sq (bl (sr (mv U (asg U (nn (rg (mv U (mv U (mv U (mv U ?_))))))))))));replace Z:=a7.ext (q1.z2 q2 q3);refine z1a (iq0) U Z U y4f z1d (λb0 a3=>?_);refine z1g U (a3 _ Z) z6c ?_;replace hk:=a5.ext (q1.z2 q2 q3);refine cl (ev1 U) x2y (z3x _ (qs.getD i iq0).2 _ (z1x hk i) (by have:=z3n h4 i;omega)) U ?_;rintro _ w4 ⟨a1,rfl,b2,hX,q4⟩;have z4:=q4.size;replace M:=M.ext q4;refine z9y (p:=i) (E:=z6b) U U y4f (z5j (i:=i) ((((some ⟨a1,0,none⟩,(qs.getD i iq0).2.length,(qs.getD i iq0).2.length),(qs.getD i iq0).2):IQ)) U U M (by omega) U j2l (λw5 M q5 z5=>(kpL [(0,_),(4,_),(23,_),(24,_)] (.c4 U U U U) (nl (bn' (tn (rg (z0v U (wi6 (by omega)) (mv U (nl ?_))))))))));replace J:=(J.ext q4).fr q5 (by intro k hk;simp at hk;omega);replace hX:=hX.fr q5 (by intro k hk hb;simp[z0x]at hk hb;omega);exact lpE ((i+1,ps.set i (((some ⟨a1,0,none⟩,(qs.getD i iq0).2.length,(qs.getD i iq0).2.length),(qs.getD i iq0).2):IQ))) (.c4 U U U U) ⟨((Fr.refl [I] _).z3 q3 q4 q5),⟨by simp only;omega,by simp only[List.length_set];exact D,M,λj O=>by
  simp only at O ⊢;rw[z1i (by omega)];split;rename_i e;subst e;rfl;exact a0 j (by omega),J.put (by omega) (hX.low (by omega))⟩⟩ (by simp only;omega)
 obtain rfl:i=n:=by omega
 refine ex (te (te (xh (tn (sr (mv U (asg U (kpL [(2,_)] (.cons U .nil) (nn (rt (r1 results60 U ?_)))))))))));exact⟨_,rfl,⟨ps,⟨D▸M,(D.symm▸J).all (by omega)⟩,j2w hn a8 D a0,I,by rw[D]⟩,(q1.z2 q2 q3)⟩
def PreY (base:Nat)(w:World)(ys:List YQ)(i:Nat):Prop:=∀j,j<i->Lw.Own z1t 100 base w (slv (ys.getD j yq0).pe) (ys.getD j yq0).pes
theorem PreY.ext {base i:Nat}{w w':World}{ys:List YQ}(h:PreY base w ys i)(hf:Fr [] w w'):PreY base w' ys i:=λj D=>(h j D).ext hf
theorem PreY.fr {base i:Nat}{w w':World}{ys:List YQ}{S:List Nat}(h:PreY base w ys i)(hf:Fr S w w')(I:∀k∈S,k<base):PreY base w' ys i:=λj D=>(h j D).fr hf λk M J=>by
 have:=I k M;have:=((h j D).blk k J).1;omega
theorem PreY.put {base i:Nat}{w:World}{ys:List YQ}{q:YQ}(h:PreY base w ys i)(D:i<ys.length)(I:Lw.Own z1t 100 base w (slv q.pe) q.pes):PreY base w (ys.set i q) (i+1):=λj J=>by
 rw[z1i D]
 split
 ·exact I
 exact h j (by omega)
theorem y6e {α:Type}{l:List α}{i:Nat}(d:α)(h:i<l.length):l[i]?=some (l.getD i d):=by rw[List.getD,List.getElem?_eq_getElem h];rfl
theorem y3o {α β:Type}{f:α->β}{l:List α}{i:Nat}{x d:α}(h:f x=f (l.getD i d)):(l.set i x).map f=l.map f:=by
 rw[List.map_set];apply List.ext_getElem?;intro j;rw[List.getElem?_set];split;rename_i e;subst e;split;rename_i D;rw[List.length_map]at D;rw[List.getElem?_map,List.getElem?_eq_getElem D,h,List.getD,List.getElem?_eq_getElem D];rfl;rename_i D;rw[List.getElem?_eq_none (by omega)];rfl
theorem v8m {α:Type}{l m:List α}{i:Nat}{q d:α}(h:∀j,i<=j->l.getD j d=m.getD j d)(D:i<l.length):∀j,i+1<=j->(l.set i q).getD j d=m.getD j d:=λj I=>by
 rw[z1i D,if_neg (by omega)];exact h j (by omega)
set_option maxHeartbeats 1000000 in
theorem y9n (v:Value)(ys:List YQ)(w0:World)(hs:Sl z2v w0 v ys)(hp:YsA w0 ys)(hl:ys.length<=1000)(a3:∀i,(ys.getD i yq0).pes.length<=100000):Rets prog 61 #[v] w0 λr w'=>(∃g ps,r=.slice (some ⟨g,0,none⟩) ys.length ys.length/\w0.heap.size<=g/\YsO τd w0.heap.size w' r ps/\ps.length=ys.length/\ps.map YQ.p=ys.map YQ.p)/\Fr [] w0 w':=by
 obtain⟨A,c,rfl,a7,hM,hA⟩:=id hs;clear hA;unfold maxLen at hM;refine we [(0,.slice A ys.length c)] func61 U ntmps61 U (.cons U .nil) ?_;have a9:=hs;have a2:=hp;refine sr (asg U (nn (sr (mv U (cl (ev1 U) (mkC func107) (u8o _ ys _ hs (by omega)) U ?_)))));rintro _ w1 ⟨Z,rfl,a8,I,q1⟩;have z1:=q1.size;have a6:=(I.blk Z (by simp[z0x])).2;refine asg U (nn (sq (sr (mv U (lnS U underlying33 (mv U (nn (bl ?_))))))));refine lpK (ι:=Nat×List YQ) [(3,_),(8,_)] (λp=>[(9,.int .i64 (p.1:Int))]) (λp w'=>Fr [Z] w1 w'/\p.1<=ys.length/\Lw.Own z2v 82 w0.heap.size w' (.slice (some ⟨Z,0,none⟩) ys.length ys.length) p.2/\p.2.length=ys.length/\p.2.map YQ.p=ys.map YQ.p/\(∀j,p.1<=j->p.2.getD j yq0=ys.getD j yq0)/\PreY (Z+1) w' p.2 p.1) (λp=>ys.length-p.1) (0,ys) (.c3 U U U) ⟨Fr.refl _ _,⟨Nat.zero_le _,I.low (by omega),rfl,rfl,λ_ _=>rfl,λj hj=>absurd hj (by simp)⟩⟩ ?_;rintro⟨i,ps⟩ w2 ⟨q2,⟨hi,I,D,O,J,M⟩⟩;simp only at hi I D O J M;have z2:=q2.size;refine kpC [(3,_),(8,_),(9,.int .i64 (i:Int))] (.c3 U U U) (sr (lt' U (nn (sq (cd U (λc0=>?_) (λc0=>?_))))));refine sk (tn (sq (bl (sr (mv U (asg U (nn (rg (mv U (mv U (mv U (mv U (z1a (yq0) U I.sl U y0y z1d (λa4 a1=>?_))))))))))))));refine fad U z7e (z6x U (a1 _ I.sl) U y4n ?_);replace hp:=a2.ext (q1.z1 q2);refine cl (ev1 U) (mkC func108) (v3d _ (ys.getD i yq0).pes _ (by rw[J i (Nat.le_refl _)];exact hp i) (a3 i)) U ?_;rintro _ w3 ⟨a0,rfl,a5,hX,q3⟩;have z3:=q3.size;replace I:=I.ext q3;refine z9y (p:=i) (E:=z2v) U U y0y (x2b U z7e U ?_);refine u1n (E:=z2v) (i:=i) (f:=4) (ys.getD i yq0) ({ (ys.getD i yq0) with pe:=(some ⟨a0,0,none⟩,(ys.getD i yq0).pes.length,(ys.getD i yq0).pes.length) }:YQ) U U I (by rw[<-J i (Nat.le_refl _)];exact y6e _ (by omega)) (by decide) U U U k0a (λw4 I q4 z4=>?_);refine kpL [(3,_),(8,_),(9,_)] (.c3 U U U) (nl (bn' (tn (rg (z0v U (wi6 (by omega)) (mv U (nl ?_)))))));replace M:=(M.ext q3).fr q4 (by intro k hk;simp at hk;omega);replace hX:=hX.fr q4 (by intro k hk hb;simp[z0x]at hk hb;omega);exact lpE ((i+1,ps.set i ({ (ys.getD i yq0) with pe:=(some ⟨a0,0,none⟩,(ys.getD i yq0).pes.length,(ys.getD i yq0).pes.length) }:YQ))) (.c3 U U U) ⟨((Fr.refl [Z] _).z3 q2 q3 q4),⟨by simp only;omega,I,by simp only[List.length_set];exact D,(y3o (d:=yq0) (by rw[J i (Nat.le_refl _)])).trans O,v8m J (by omega),M.put (by omega) (hX.low (by omega))⟩⟩ (by simp only;omega);obtain rfl:i=ys.length:=by omega
 refine ex (te (te (xh (tn (sr (mv U (asg U (nn (rt (r1 results61 U ?_))))))))));exact⟨_,rfl,⟨Z,ps,rfl,by omega,⟨D▸I,λj hj=>(M j (by omega)).low (by omega)⟩,D,O⟩,(q1.z1 q2)⟩
theorem zv46 (w:World):(zeroValue 46).run prog w=.ok (.slice none 0 0) w:=by kernel_rfl
def PreT (base:Nat)(w:World)(us:List TQ)(i:Nat):Prop:=(∀j,j<i->Lw.Own z4r 89 base w (slv (us.getD j tq0).1) (us.getD j tq0).2)/\(∀j k,j<i->k<i->j≠k->∀b∈z0x (slv (us.getD j tq0).1),b∉z0x (slv (us.getD k tq0).1))/\∀j,j<i->∀q∈(us.getD j tq0).2,LpO τd base w q
theorem PreT.fr {base i:Nat}{w w':World}{us:List TQ}{S:List Nat}(h:PreT base w us i)(hf:Fr S w w')(M:∀k∈S,k<base):PreT base w' us i:=by
 have o:∀ {α:Type} {E:Enc α} {T:Nat} {v:Value} {ys:List α},Lw.Own E T base w v ys->Lw.Own E T base w' v ys:=λI=>I.fr hf λk Z O=>by have:=M k Z;have:=(I.blk k O).1;omega
 exact⟨λj D=>o (h.1 j D),h.2.1,λj D q J=>⟨o (h.2.2 j D q J).1,o (h.2.2 j D q J).2⟩⟩
theorem PreT.put {base i:Nat}{w:World}{us:List TQ}{u:SV}{M:List LpQ}(h:PreT base w us i)(D:i<us.length)(ho:Lw.Own z4r 89 base w (slv u) M)(hq:∀q∈M,LpO τd base w q)(hn:∀j,j<i->∀b∈z0x (slv (us.getD j tq0).1),b∉z0x (slv u)):PreT base w (us.set i (u,M)) (i+1):=by
 refine⟨λj O=>?_,λj k O hk J=>?_,λj O=>?_⟩;rw[z1i D];split;exact ho;exact h.1 j (by omega);rw[z1i D,z1i D];split;rw[if_neg (by omega)];exact λb Z I=>hn k (by omega) b I Z;split;exact hn j (by omega);exact h.2.1 j k (by omega) (by omega) J;rw[z1i D];split;exact hq;exact h.2.2 j (by omega)
def PreL (base:Nat)(w:World)(rs:List LpQ)(i:Nat):Prop:=∀j,j<i->LpO τd base w (rs.getD j lq0)
theorem PreL.fr {base i:Nat}{w w':World}{J:List LpQ}{S:List Nat}(h:PreL base w J i)(hf:Fr S w w')(M:∀k∈S,k<base):PreL base w' J i:=λj I=>by
 have o:∀ {α:Type} {E:Enc α} {T:Nat} {v:Value} {ys:List α},Lw.Own E T base w v ys->Lw.Own E T base w' v ys:=λD=>D.fr hf λk Z O=>by have:=M k Z;have:=(D.blk k O).1;omega
 exact⟨o (h j I).1,o (h j I).2⟩
theorem PreL.put {base i:Nat}{w:World}{D:List LpQ}{x y:LpQ}(h:PreL base w D i)(I:i<D.length)(J:LpO τd base w y):PreL base w ((D.set i x).set i y) (i+1):=λj M=>by
 rw[List.set_set,z1i I]
 split
 ·exact J
 exact h j (by omega)
theorem j4i {base i:Nat}{w:World}{v:Value}{us:List TQ}{u:SV}{r r':List LpQ}(h:Lw.Own z4d 46 base w v (us.set i (u,r))):Lw.Own z4d 46 base w v (us.set i (u,r')):=by
 have e:∀x:List LpQ,(us.set i (u,x)).flatMap z4d.enc=(us.set i (u,r)).flatMap z4d.enc:=λx=>by
  rw[List.flatMap_def,List.flatMap_def,List.map_set,List.map_set];rfl
 rcases h with ⟨D,I⟩|⟨g,cap,cur,D,I,J,M,O,Z,h7⟩
 refine .inl ⟨D,?_⟩;have:=congrArg List.length I;simp only[List.length_set,List.length_nil]at this;exact List.length_eq_zero_iff.1 (by rw[List.length_set];exact this);refine .inr ⟨g,cap,cur,by rw[D];simp,I,J,by simpa using M,O,Z,?_⟩;rw[e r',<-h7];simp
theorem u8l {us ts:List TQ}{i:Nat}{x:TQ}(h:∀j,j<i->(us.getD j tq0).2.map LpQ.p=(ts.getD j tq0).2.map LpQ.p)(D:i<us.length)(I:x.2.map LpQ.p=(ts.getD i tq0).2.map LpQ.p):∀j,j<i+1->((us.set i x).getD j tq0).2.map LpQ.p=(ts.getD j tq0).2.map LpQ.p:=λj J=>by
 rw[z1i D]
 split
 ·rename_i e;subst e;exact I
 exact h j (by omega)
theorem y5c {us ts:List TQ}(hl:us.length=ts.length)(h:∀j,j<ts.length->(us.getD j tq0).2.map LpQ.p=(ts.getD j tq0).2.map LpQ.p):z1v us=z1v ts:=by
 refine List.ext_getElem (by simp[hl]) λj J I=>?_;have D:j<ts.length:=by simpa using I
 have:=h j D;rw[List.getD,List.getD,List.getElem?_eq_getElem (by omega),List.getElem?_eq_getElem D]at this;simpa using this
theorem PreT.tbo {b base:Nat}{w:World}{v:Value}{us:List TQ}(M:Lw.Own z4d 46 b w v us)(h:PreT base w us us.length)(hb:b<=base):TbO τd b w v us:=
 ⟨M,λi D=>(h.1 i D).low hb,λi j D J I=>h.2.1 i j D J I,λi D q O=>(h.2.2 i D q O).low hb⟩
set_option maxHeartbeats 4000000 in
theorem y6j (v:Value)(ts:List TQ)(w0:World)(hs:Sl z4d w0 v ts)(D:TabAt w0 ts)(hl:ts.length<=1000)(b8:∀p∈ts,p.2.length<=100000/\∀q∈p.2,q.ths.length<=100000/\q.pas.length<=100000):Rets prog 62 #[v] w0 λr w'=>(∃g us,r=.slice (some ⟨g,0,none⟩) ts.length ts.length/\w0.heap.size<=g/\TbO τd w0.heap.size w' r us/\us.length=ts.length/\z1v us=z1v ts)/\Fr [] w0 w':=by
 obtain⟨A,c,rfl,g3,hM,hA⟩:=id hs;clear hA;unfold maxLen at hM;refine we [(0,.slice A ts.length c)] func62 U ntmps62 U (.cons U .nil) ?_;have f1:=hs;have b2:=D;refine sr (asg U (nn (sr (mv U (lnS U underlying35 (z1f (m:=ts.length) (c:=ts.length) (tq0) U y7d zv46 U (λa2 w1 f6 M q1 z1=>?_)))))));have e8:=(M.blk a2 (by simp[z0x])).2;refine asg U (nn (sq (sr (mv U (lnS U underlying35 (mv U (nn (bl ?_))))))));refine lpK (ι:=Nat×List TQ) [(3,_),(11,_),(12,_)] (λp=>[(13,.int .i64 (p.1:Int))]) (λp w'=>Fr [a2] w1 w'/\p.1<=ts.length/\p.2.length=ts.length/\Lw.Own z4d 46 w0.heap.size w' (.slice (some ⟨a2,0,none⟩) ts.length ts.length) p.2/\(∀j,j<p.1->(p.2.getD j tq0).2.map LpQ.p=(ts.getD j tq0).2.map LpQ.p)/\PreT (a2+1) w' p.2 p.1) (λp=>ts.length-p.1) (0,List.replicate ts.length tq0) (.c4 U U U U) ⟨Fr.refl _ _,⟨Nat.zero_le _,by simp,M.low (by omega),λj hj=>absurd hj (by simp),⟨λj hj=>absurd hj (by simp),λj k hj=>absurd hj (by simp),λj hj=>absurd hj (by simp)⟩⟩⟩ ?_;rintro⟨i,us⟩ w2 ⟨q2,⟨hi,a8,M,d4,a7⟩⟩;simp only at hi a8 M d4 a7;have z2:=q2.size;have e4:=a7;refine kpC [(3,_),(11,_),(12,_),(13,.int .i64 (i:Int))] (.c4 U U U U) ?_;have e5:∀j,j<i->∀b∈z0x (slv (us.getD j tq0).1),b<w2.heap.size:=λj hj b hb=>((a7.1 j hj).blk b hb).2;refine sr (lt' U (nn (sq (cd U (λc0=>?_) (λc0=>?_)))));have g0:=z1u (b2 _ (z0t (d:=tq0) (i:=i) (by omega))).1;have g5:=(b8 _ (z0t (d:=tq0) (i:=i) (by omega))).1;refine sk (tn (sq (bl (sr (mv U ?_)))));replace hs:=f1.ext (q1.z1 q2);refine z1a (tq0) U hs U y7d z1d (λf2 d9=>?_);refine z1g U (d9 _ hs) x4i (asg U (asg U (nn (sr (mv U (mv U (mv U ?_)))))));replace D:=b2.ext (q1.z1 q2);refine cl (ev1 U) (mkC func75) (v4q _ (ts.getD i tq0).2 _ (D _ (z0t (d:=tq0) (i:=i) (by omega))).1 (b8 _ (z0t (d:=tq0) (i:=i) (by omega))).1) U ?_;rintro _ w3 ⟨O,rfl,f7,Z,q3⟩;have z3:=q3.size;have e9:=(Z.blk O (by simp[z0x])).2;replace M:=M.ext q3;refine z9y (p:=i) (E:=z4d) U U y7d (z5j (i:=i) (((((some ⟨O,0,none⟩,(ts.getD i tq0).2.length,(ts.getD i tq0).2.length):SV),(ts.getD i tq0).2):TQ)) U U M (by omega) U j9w (λw4 M q4 z4=>?_));obtain⟨b5,b9⟩:∃u,u=us.set i (((some ⟨O,0,none⟩,(ts.getD i tq0).2.length,(ts.getD i tq0).2.length):SV),(ts.getD i tq0).2):=⟨_,rfl⟩;rw[<-b9]at M;have d5:b5.getD i tq0=(((some ⟨O,0,none⟩,(ts.getD i tq0).2.length,(ts.getD i tq0).2.length):SV),(ts.getD i tq0).2):=by rw[b9,z1i (by omega),if_pos U]
 have c9:(b5.getD i tq0).1.1=some ⟨O,0,none⟩:=by rw[d5]
 have d0:(b5.getD i tq0).1.2.1=(ts.getD i tq0).2.length:=by rw[d5]
 have d1:(b5.getD i tq0).1.2.2=(ts.getD i tq0).2.length:=by rw[d5]
 have g1:b5.length=ts.length:=by rw[b9,List.length_set];exact a8
 refine nn (sr (mv U (lnS U underlying46 (mv U (nn (bl ?_))))));replace Z:=Z.fr q4 (by intro k D hb;simp[z0x]at D hb;omega);refine lpK (ι:=Nat×List LpQ) [(3,_),(4,_),(11,_),(12,_),(13,_),(23,_),(24,_)] (λp=>[(25,.int .i64 (p.1:Int))]) (λp w'=>Fr [O] w4 w'/\p.1<=(ts.getD i tq0).2.length/\p.2.length=(ts.getD i tq0).2.length/\Lw.Own z4r 89 (a2+1) w' (.slice (some ⟨O,0,none⟩) (ts.getD i tq0).2.length (ts.getD i tq0).2.length) p.2/\p.2.map LpQ.p=(ts.getD i tq0).2.map LpQ.p/\(∀j,p.1<=j->p.2.getD j lq0=(ts.getD i tq0).2.getD j lq0)/\PreL (O+1) w' p.2 p.1) (λp=>(ts.getD i tq0).2.length-p.1) (0,(ts.getD i tq0).2) (.c8 U U U U U U U U) ⟨Fr.refl _ _,⟨Nat.zero_le _,rfl,Z.low (by omega),rfl,λ_ _=>rfl,λj hj=>absurd hj (by simp)⟩⟩ ?_;rintro⟨J,rs⟩ w5 ⟨q5,⟨hj,b7,Z,d3,b6,b4⟩⟩;simp only at hj b7 Z d3 b6 b4;have z5:=q5.size;have e3:=b4;refine kpC [(3,_),(4,_),(11,_),(12,_),(13,_),(23,_),(24,_),(25,.int .i64 (J:Int))] (.c8 U U U U U U U U) (sr (lt' U (nn (sq (cd U (λc1=>?_) (λc1=>?_))))));refine sk (tn (sq (bl (sr (mv U ?_)))));replace D:=b2.ext (q1.z4 q2 q3 q4 q5);refine z1a (lq0) U (D _ (z0t (d:=tq0) (i:=i) (by omega))).1 U x8h z1d (λf3 e0=>?_);refine z1j U (e0 _ (D _ (z0t (d:=tq0) (i:=i) (by omega))).1) x8z (al v9i U (λg7 w6 g4 I q6 z6=>?_));refine asg U (z0i (vs:=[_,_,_,_]) U I u2v (λw7 I q7 z7=>?_) (h1:=(by first|(simp[Value.oneCell',S];done)|exact z4d.one (ts.getD i tq0))));refine nn (sq ?_);replace D:=b2.ext (q1.z6 q2 q3 q4 q5 q6 q7);replace M:=((M.fr q5 (by intro k D hb;simp[z0x]at D hb;omega)).ext q6).fr q7 (by intro k D hb;simp[z0x]at D hb;omega);replace Z:=(Z.ext q6).fr q7 (by intro k D hb;simp[z0x]at D hb;omega);intro a h;refine z0j (some 10) (λwb w'=>Fr [] wb w') z2s ?_;intro w8 q8;have z8:=q8.size;replace D:=D.ext q8;replace M:=M.ext q8;replace Z:=Z.ext q8;replace I:=I.ext q8;have hC:Fr [] w8 w8:=Fr.refl _ _;have b3:=D;have a3:=M;have b1:=Z;have a0:=I;refine z0e 0 h U λa h=>z0e 1 h U λa h=>z1h (p:=i) (tq0) 2 h U M.sl U y7d U λf4 e1 a h=>z3p 3 h U (λ_ hw=>e1 _ ((a3.ext hw).sl)) x4i U λa h=>?_;rw[c9,d0,d1]at h;refine z0e 4 h U λa h=>z0c 5 h U z7f U λa h=>z0l 6 h U (λ_ hw=>a0.ext hw) U z6c U λa h=>z0d 7 U ?_;refine z0m h (z0a U z0f) x2y (z3x _ ((ts.getD i tq0).2.getD J lq0).ths _ ((D _ (z0t (d:=tq0) (i:=i) (by omega))).2 _ (z0t (by omega))).1 ((b8 _ (z0t (d:=tq0) (i:=i) (by omega))).2 _ (z0t (by omega))).1) ?_;rintro _ w9 ⟨a9,rfl,f8,hX,q9⟩ a h;have z9:=q9.size;replace D:=D.ext q9;replace M:=M.ext q9;replace Z:=Z.ext q9;replace I:=I.ext q9;replace hC:=hC.next q9;refine z0b ?_;refine z1o 8 (by kernel_rfl) (by kernel_rfl) (by kernel_rfl) hC (p:=J) h wn U x8h (by omega) (by omega) (by omega) U U λa h=>z8p 9 hC h wn U z7f U λa h=>z0d 10 U ?_;refine y5w (E:=z4r) (i:=J) (f:=2) (((ts.getD i tq0).2.getD J lq0)) ({ ((ts.getD i tq0).2.getD J lq0) with th:=(some ⟨a9,0,none⟩,((ts.getD i tq0).2.getD J lq0).ths.length,((ts.getD i tq0).2.getD J lq0).ths.length) }:LpQ) h U U Z (by rw[<-b6 J (Nat.le_refl _)];exact y6e _ (by omega)) (by decide) U U U j2l λg6 b0 a5 _hz a h=>?_;have h0:=a5.size;replace M:=M.fr a5 (by intro k D hb;simp[z0x]at D hb;omega);replace I:=I.fr a5;replace hX:=hX.fr a5 (by intro k D hb;simp[z0x]at D hb;omega);clear _hz Z;have Z:=b0;clear b0;refine z1n ?_;refine z0r ?_;clear hC b3 a3 b1 a0;refine bk (h.sub (L':=[(3,_),(4,_),(6,_),(7,_),(11,_),(12,_),(13,_),(23,_),(24,_),(25,_)]) (.d8 U U U U U U U U (.c2 U U))) (tn ?_);replace D:=b2.ext ((((q1.z6 q2 q3 q4 q5 q6 q7).n1 q8).n1 q9).z1 a5);intro a h;refine z0j (some 10) (λwb w'=>Fr [] wb w') z2s ?_;intro e6 a4;have h2:=a4.size;replace D:=D.ext a4;replace M:=M.ext a4;replace Z:=Z.ext a4;replace I:=I.ext a4;replace hX:=hX.ext a4;have hC:Fr [] e6 e6:=Fr.refl _ _;have b3:=D;have a3:=M;have b1:=Z;have a0:=I;have d7:=hX;refine z0e 0 h U λa h=>z0e 1 h U λa h=>z1h (p:=i) (tq0) 2 h U M.sl U y7d U λf5 e2 a h=>z3p 3 h U (λ_ hw=>e2 _ ((a3.ext hw).sl)) x4i U λa h=>?_;rw[c9,d0,d1]at h;refine z0e 4 h U λa h=>z0c 5 h U z8w U λa h=>z0l 6 h U (λ_ hw=>a0.ext hw) U y4n U λa h=>z0d 7 U ?_;refine z0m h (z0a U z0f) (mkC func108) (v3d _ ((ts.getD i tq0).2.getD J lq0).pas _ ((D _ (z0t (d:=tq0) (i:=i) (by omega))).2 _ (z0t (by omega))).2 ((b8 _ (z0t (d:=tq0) (i:=i) (by omega))).2 _ (z0t (by omega))).2) ?_;rintro _ g8 ⟨d6,rfl,f9,hY,a1⟩ a h;have h3:=a1.size;replace D:=D.ext a1;replace M:=M.ext a1;replace Z:=Z.ext a1;replace I:=I.ext a1;replace hX:=hX.ext a1;replace hC:=hC.next a1;refine z0b ?_;refine z1o 8 (by kernel_rfl) (by kernel_rfl) (by kernel_rfl) hC (p:=J) h wn U x8h (by omega) (by omega) (by omega) U U λa h=>z8p 9 hC h wn U z8w U λa h=>z0d 10 U ?_;refine y5w (E:=z4r) (i:=J) (f:=3) (({ ((ts.getD i tq0).2.getD J lq0) with th:=(some ⟨a9,0,none⟩,((ts.getD i tq0).2.getD J lq0).ths.length,((ts.getD i tq0).2.getD J lq0).ths.length) }:LpQ)) ({ ((ts.getD i tq0).2.getD J lq0) with th:=(some ⟨a9,0,none⟩,((ts.getD i tq0).2.getD J lq0).ths.length,((ts.getD i tq0).2.getD J lq0).ths.length),pa:=(some ⟨d6,0,none⟩,((ts.getD i tq0).2.getD J lq0).pas.length,((ts.getD i tq0).2.getD J lq0).pas.length) }:LpQ) h U U Z (by rw[y6e lq0 (by rw[List.length_set];omega),z1i (by omega),if_pos U]) (by decide) U U U k0a λg9 b0 a6 _hz a h=>?_;have h4:=a6.size;replace M:=M.fr a6 (by intro k D hb;simp[z0x]at D hb;omega);replace I:=I.fr a6;replace hX:=hX.fr a6 (by intro k D hb;simp[z0x]at D hb;omega);replace hY:=hY.fr a6 (by intro k D hb;simp[z0x]at D hb;omega);clear _hz Z;have Z:=b0;clear b0;refine z1n ?_;refine z0r ?_;clear hC b3 a3 b1 a0 d7;refine bk (h.sub (L':=[(3,_),(4,_),(11,_),(12,_),(13,_),(23,_),(24,_),(25,_)]) (.c8 U U U U U U U U)) (bn' (tn (rg (z0v U (wi6 (by omega)) (mv U (nl ?_))))));replace b4:=e3.fr ((((Fr.refl [O] _).z6 q6 q7 q8 q9 a5 a4).n1 a1).z1 a6) (by intro k D;simp at D;omega);exact lpE ((J+1,(rs.set J ({ ((ts.getD i tq0).2.getD J lq0) with th:=(some ⟨a9,0,none⟩,((ts.getD i tq0).2.getD J lq0).ths.length,((ts.getD i tq0).2.getD J lq0).ths.length) }:LpQ)).set J ({ ((ts.getD i tq0).2.getD J lq0) with th:=(some ⟨a9,0,none⟩,((ts.getD i tq0).2.getD J lq0).ths.length,((ts.getD i tq0).2.getD J lq0).ths.length),pa:=(some ⟨d6,0,none⟩,((ts.getD i tq0).2.getD J lq0).pas.length,((ts.getD i tq0).2.getD J lq0).pas.length) }:LpQ))) (.c8 U U U U U U U U) ⟨((((Fr.refl [O] _).z6 q5 q6 q7 q8 q9 a5).n1 a4).z2 a1 a6),⟨by simp only;omega,by simp only[List.length_set];exact b7,Z,by rw[List.set_set];exact(y3o (d:=lq0) (by rw[b6 J (Nat.le_refl _)])).trans d3,λj f0=>by
  simp only at f0 ⊢;rw[List.set_set,z1i (by omega),if_neg (by omega)];exact b6 j (by omega),b4.put (by omega) ⟨hX.low (by omega),hY.low (by omega)⟩⟩⟩ (by simp only;omega)
 obtain rfl:J=(ts.getD i tq0).2.length:=by omega
 refine ex (te (te (xh (bn' (tn (rg (z0v U (wi6 (by omega)) (mv U (kpL [(3,_),(11,_),(12,_),(13,_)] (.c4 U U U U) (nl ?_))))))))));replace a7:=e4.fr ((Fr.refl [a2] _).z3 q3 q4 q5) (by intro k D;simp at D;omega);replace M:=M.fr q5 (by intro k D hb;simp[z0x]at D hb;omega);exact lpE ((i+1,us.set i (((some ⟨O,0,none⟩,(ts.getD i tq0).2.length,(ts.getD i tq0).2.length):SV),rs))) (.c4 U U U U) ⟨((Fr.refl [a2] _).z4 q2 q3 q4 q5),⟨by simp only;omega,by simp only[List.length_set];exact a8,j4i (b9▸M),u8l d4 (by omega) d3,a7.put (by omega) (by rw[show slv ((some ⟨O,0,none⟩,(ts.getD i tq0).2.length,(ts.getD i tq0).2.length):SV)=(.slice (some ⟨O,0,none⟩) rs.length rs.length) by rw[b7];rfl];exact(b7.symm▸Z).low (by omega)) (λq hq=>by
  obtain⟨j,hj,rfl⟩:=List.getElem_of_mem hq;have:=b4 j (by omega);rw[List.getD,List.getElem?_eq_getElem hj]at this;exact this.low (by omega)) (λj hj b hb e7=>by have:=e5 j hj b hb;simp[z0x,slv]at e7;omega)⟩⟩ (by simp only;omega)
 obtain rfl:i=ts.length:=by omega
 refine ex (te (te (xh (tn (sr (mv U (asg U (kpL [(2,_)] (.cons U .nil) (nn (rt (r1 results62 U ?_)))))))))));exact⟨_,rfl,⟨a2,us,rfl,by omega,PreT.tbo M (a8.symm▸a7) (by omega),a8,y5c a8 d4⟩,(q1.z1 q2)⟩
theorem v1c:BuildAt prog 137 [(0,1),(1,2),(3,1),(4,1),(5,1),(6,1)] [(.int .i64 0),(.slice none 0 0),(.slice none 0 0),(.slice none 0 0),(.slice none 0 0),(.map none),(.slice none 0 0)]:=BuildAt.struct underlying137 (λ_=>by kernel_rfl) (λ_=>by kernel_rfl)
theorem j4z:CallOf prog 60:=mkC func60
theorem j4v:CallOf prog 62:=mkC func62
theorem y3u:z0y prog 41 0 0:=λ_ _=>by kernel_rfl
theorem y4a:z0y prog 41 1 1:=λ_ _=>by kernel_rfl
theorem z8v:z0y prog 41 2 3:=λ_ _=>by kernel_rfl
theorem z9k:z0y prog 41 3 4:=λ_ _=>by kernel_rfl
structure StSz (s:StQ):Prop where
  bf:s.q.fs.length<=40
  bb:s.q.bs.length<=40
  f4:y0b s.q.fs
  b4:y0b s.q.bs
  ly:s.ys.length=6
  lt:s.fb.ts.length=6
  pe:∀i,(s.ys.getD i yq0).pes.length<=100000
  tb:∀p∈s.fb.ts,p.2.length<=100000/\∀q∈p.2,q.ths.length<=100000/\q.pas.length<=100000
  fl:s.fb.fs.length<=100000
  cs:s.fb.cs.length<=100000000
  hs:s.fb.hs.length<=100000
theorem y2f {τ:TyK}{b base:Nat}{w:World}{v:Value}{ys:List YQ}(h:YsO τ base w v ys)(hb:b<=base):YsO τ b w v ys:=⟨h.out.low hb,λi D=>(h.ins i D).low hb⟩
theorem y2k {τ:TyK}{b base:Nat}{w:World}{v:Value}{ts:List TQ}(h:TbO τ base w v ts)(hb:b<=base):TbO τ b w v ts:=⟨h.out.low hb,λi D=>(h.ins i D).low hb,h.off,λi D q I=>⟨(h.lps i D q I).1.low hb,(h.lps i D q I).2.low hb⟩⟩
set_option maxHeartbeats 4000000 in
theorem v3n (s:StQ)(w0:World)(I:StAt w0 s)(D:StSz s)(g0:(s.fb.cs.map cxK).Nodup):Rets prog 25 #[.agg #[.int .i64 s.rk,.slice s.q.f.1 s.q.f.2.1 s.q.f.2.2,.slice s.q.b.1 s.q.b.2.1 s.q.b.2.2,.slice s.yv.1 s.yv.2.1 s.yv.2.2,.slice s.fb.t.1 s.fb.t.2.1 s.fb.t.2.2,.slice s.fb.c.1 s.fb.c.2.1 s.fb.c.2.2,.slice s.fb.h.1 s.fb.h.2.1 s.fb.h.2.2,.slice s.fb.f.1 s.fb.f.2.1 s.fb.f.2.2]] w0 λr w'=>∃ka m,r=.pointer (some ⟨ka.gk,0,none⟩)/\MkM τd 137 w0 ka w' m/\m.p=(⟨s.rk,⟨trimB (plB s.q.fs),trimB (plB s.q.bs)⟩,s.ys.map YQ.p,z1v s.fb.ts,s.fb.cs,s.fb.fs⟩:MSt):=by
 have h7:=z1u I.f.c;have h8:=D.cs;refine we [(0,.agg #[.int .i64 s.rk,.slice s.q.f.1 s.q.f.2.1 s.q.f.2.2,.slice s.q.b.1 s.q.b.2.1 s.q.b.2.2,.slice s.yv.1 s.yv.2.1 s.yv.2.2,.slice s.fb.t.1 s.fb.t.2.1 s.fb.t.2.2,.slice s.fb.c.1 s.fb.c.2.1 s.fb.c.2.2,.slice s.fb.h.1 s.fb.h.2.1 s.fb.h.2.2,.slice s.fb.f.1 s.fb.f.2.1 s.fb.f.2.2])] func25 U ntmps25 U (.cons U .nil) ?_;have f0:=I;refine sr (bx U (λg1 w1 h9 J q1 z1=>(asg U (nn ?_))));refine jn (ι:=MA) [(1,_)] (λka=>[(3,.pointer (some ⟨ka.gk,0,none⟩))]) (λka w'=>Fr [] w1 w'/\∃m:MQ,MkM τd 137 w0 ka w' m/\m.p=(⟨s.rk,⟨trimB (plB s.q.fs),trimB (plB s.q.bs)⟩,s.ys.map YQ.p,z1v s.fb.ts,[],s.fb.fs⟩:MSt)) (.cons U .nil) ?_ ?_;replace I:=f0.ext q1;intro a h;refine z0j none (λwb w'=>Fr [] wb w') z2s ?_;intro w2 q2;have z2:=q2.size;replace I:=I.ext q2;replace J:=J.ext q2;have hC:Fr [] w2 w2:=Fr.refl _ _;have b8:=I;have Z:=J;refine z0c 0 h U y3u U λa h=>z0l 1 h U (λ_ hw=>Z.ext hw) U na3 U λa h=>z0c 2 h U y4a U λa h=>z8p 3 hC h wn U y3k U λa h=>z0l 4 h U (λ_ hw=>Z.ext hw) U x1w U λa h=>z0c 6 h U y4a U λa h=>z8p 7 hC h wn U y0o U λa h=>z0l 8 h U (λ_ hw=>Z.ext hw) U x1w U λa h=>z0c 11 h U z8v U λa h=>z0l 12 h U (λ_ hw=>Z.ext hw) U y0q U λa h=>z0c 14 h U z9k U λa h=>?_;refine z8p 15 hC h wn U z9m U λa h=>z0l 16 h U (λ_ hw=>Z.ext hw) U x3c U λa h=>z0c 18 h U z9k U λa h=>z8p 19 hC h wn U y3n U λa h=>z0l 20 h U (λ_ hw=>Z.ext hw) U u5n U λa h=>z8r 21 hC h wn U underlying36 U λa h=>z0c 23 h U z9k U λa h=>z8p 24 hC h wn U z9u U λa h=>z0l 25 h U (λ_ hw=>Z.ext hw) U z6c U λa h=>z2e 5 22 (by kernel_rfl) U ?_ ?_;refine z0m h (z0a U z0f) j4z (y5r _ s.q.fs _ I.b.f I.b.fi D.bf D.f4) ?_;rintro _ w3 ⟨⟨e9,O,d7,gF,rfl⟩,q3⟩ a h;have z3:=q3.size;replace I:=I.ext q3;replace J:=J.ext q3;replace hC:=hC.next q3;have d6:∀x∈e9,∀k∈z0x (slv x.1),k<w3.heap.size:=λx hx k hk=>((O.2 x hx).blk k hk).2;refine z0b ?_;refine z2e 9 22 (by kernel_rfl) U ?_ ?_;refine z0m h (z0a U z0f) j4z (y5r _ s.q.bs _ I.b.b I.b.bi D.bb D.b4) ?_;rintro _ w4 ⟨⟨e1,M,d4,gB,rfl⟩,q4⟩ a h;have z4:=q4.size;replace I:=I.ext q4;replace J:=J.ext q4;replace O:=O.ext q4;replace hC:=hC.next q4;have d3:∀x∈e1,∀k∈z0x (slv x.1),k<w4.heap.size:=λx hx k hk=>((M.2 x hx).blk k hk).2;refine z0b ?_;refine z3c (cs:=[_,_]) 10 h (z0a U (z0a U z0f)) j3e (z0h U (z0h U z0q)) U U λa h=>z2e 13 22 (by kernel_rfl) U ?_ ?_;refine z0m h (z0a U z0f) (mkC func61) (y9n _ s.ys _ I.y I.ya (by have:=D.ly;omega) D.pe) ?_;rintro _ w5 ⟨⟨gy,ps,rfl,f1,hY,c1,c9⟩,q5⟩ a h;have z5:=q5.size;replace I:=I.ext q5;replace J:=J.ext q5;replace O:=O.ext q5;replace M:=M.ext q5;replace hC:=hC.next q5;refine z0b ?_;refine z2e 17 22 (by kernel_rfl) U ?_ ?_;refine z0m h (z0a U z0f) j4v (y6j _ s.fb.ts _ I.f.t I.f.tt (by have:=D.lt;omega) D.tb) ?_;rintro _ w6 ⟨⟨gt,us,rfl,e6,hT,a7,a6⟩,q6⟩ a h;have z6:=q6.size;replace I:=I.ext q6;replace J:=J.ext q6;replace O:=O.ext q6;replace M:=M.ext q6;replace hY:=hY.ext q6;replace hC:=hC.next q6;have a5:∀i,i<us.length->∀q∈(us.getD i tq0).2,∀k∈z0x (slv q.th),k<w6.heap.size:=λi hi q hq k hk=>((hT.lps i hi q hq).1.blk k hk).2;refine z0b ?_;refine z2e 22 26 (by kernel_rfl) U ?_ ?_;refine z4o (K:=138) (E:=3) crK h U underlying135 U λgm w7 e4 a2 q7 _hz a h=>?_;have z7:=q7.size;replace I:=I.ext q7;replace hC:=hC.next q7;clear _hz;refine z0b ?_;refine z0d 26 U ?_;refine z0m h (z0a U z0f) x2y (z3x _ s.fb.fs _ I.f.f D.fl) ?_;rintro _ w8 ⟨gf,rfl,e3,a3,q8⟩ a h;have z8:=q8.size;replace J:=J.ext (q7.n1 q8);replace hC:=hC.next q8;refine z0b ?_;refine z3c (cs:=[_,_,_,_,_,_,_]) 27 h (z0a U (z0a U (z0a U (z0a U (z0a U (z0a U z0f)))))) v1c (z0h U (z0h U (z0h U (z0h U (z0h U (z0h U z0q)))))) U U λa h=>z0d 28 U ?_;refine y7a h U U U λw9 a1 q9 hz a h=>?_;obtain⟨a0,hg⟩:∃g,g=w8.heap.size:=⟨_,rfl⟩;rw[<-hg]at a1 h hz;have a4:g1<a0:=by have:=J.lt;omega
 have z9:=q9.size;replace O:=O.ext (q7.n2 q8 q9);replace M:=M.ext (q7.n2 q8 q9);replace hY:=hY.ext (q7.n2 q8 q9);replace hT:=hT.ext (q7.n2 q8 q9);replace a2:=a2.ext (q8.n1 q9);replace a3:=a3.ext q9;replace hC:=hC.next q9;refine z0b ?_;refine z0d 29 U ?_;refine z0s h U λa h=>?_;refine z0b ?_;refine z0r ?_;clear hC b8 Z;refine bk (h.sub (L':=[(1,_),(3,_)]) (.c2 U U)) ?_;exact jE ((⟨a0,gy,6,gt,6,gm,_⟩:MA)) (.c2 U U) ⟨((q2.n6 q3 q4 q5 q6 q7 q8).n1 q9),(y8q a1 (O.low (by omega)) (M.low (by omega)) (y2f hY (by omega)) c1 c9 (y2k hT (by omega)) a7 a6 a2 (a3.low (by omega)) D.ly D.lt (((q1.n6 q2 q3 q4 q5 q6 q7).n1 q8).n1 q9) (by omega) (by omega) (λx hx hb=>by rcases List.mem_append.1 hx with k|k;have:=d6 x k _ hb;omega;have:=d3 x k _ hb;omega) (λi hi q hq hb=>by have:=a5 i (by have:=D.lt;omega) q hq _ hb;omega) d7 d4)⟩;refine z0m h (z0a U z0f) x2y (z3x _ s.fb.fs _ I.f.f D.fl) ?_;rintro _ i2 ⟨gf,rfl,e3,a3,d0⟩ a h;have k1:=d0.size;replace hC:=hC.next d0;refine z0b ?_;refine z0d 22 U ?_;refine z4o (K:=138) (E:=3) crK h U underlying135 U λgm g3 e4 a2 a8 _hz a h=>?_;have k2:=a8.size;replace J:=J.ext (d0.n1 a8);replace hC:=hC.next a8;clear _hz;refine z0b ?_;refine z3c (cs:=[_,_,_,_,_,_,_]) 27 h (z0a U (z0a U (z0a U (z0a U (z0a U (z0a U z0f)))))) v1c (z0h U (z0h U (z0h U (z0h U (z0h U (z0h U z0q)))))) U U λa h=>z0d 28 U ?_;refine y7a h U U U λi3 a1 a9 hz a h=>?_;obtain⟨a0,hg⟩:∃g,g=g3.heap.size:=⟨_,rfl⟩;rw[<-hg]at a1 h hz;have a4:g1<a0:=by have:=J.lt;omega
 have k3:=a9.size;replace O:=O.ext (d0.n2 a8 a9);replace M:=M.ext (d0.n2 a8 a9);replace hY:=hY.ext (d0.n2 a8 a9);replace hT:=hT.ext (d0.n2 a8 a9);replace a3:=a3.ext (a8.n1 a9);replace a2:=a2.ext a9;replace hC:=hC.next a9;refine z0b ?_;refine z0d 29 U ?_;refine z0s h U λa h=>?_;refine z0b ?_;refine z0r ?_;clear hC b8 Z;refine bk (h.sub (L':=[(1,_),(3,_)]) (.c2 U U)) ?_;exact jE ((⟨a0,gy,6,gt,6,gm,_⟩:MA)) (.c2 U U) ⟨((q2.n6 q3 q4 q5 q6 d0 a8).n1 a9),(y8q a1 (O.low (by omega)) (M.low (by omega)) (y2f hY (by omega)) c1 c9 (y2k hT (by omega)) a7 a6 a2 (a3.low (by omega)) D.ly D.lt (((q1.n6 q2 q3 q4 q5 q6 d0).n1 a8).n1 a9) (by omega) (by omega) (λx hx hb=>by rcases List.mem_append.1 hx with k|k;have:=d6 x k _ hb;omega;have:=d3 x k _ hb;omega) (λi hi q hq hb=>by have:=a5 i (by have:=D.lt;omega) q hq _ hb;omega) d7 d4)⟩;refine z4o (K:=138) (E:=3) crK h U underlying135 U λgm i4 e4 a2 d1 _hz a h=>?_;have k4:=d1.size;replace I:=I.ext d1;replace hC:=hC.next d1;clear _hz;refine z0b ?_;refine z0d 17 U ?_;refine z0m h (z0a U z0f) j4v (y6j _ s.fb.ts _ I.f.t I.f.tt (by have:=D.lt;omega) D.tb) ?_;rintro _ g4 ⟨⟨gt,us,rfl,e6,hT,a7,a6⟩,q14⟩ a h;have k5:=q14.size;replace I:=I.ext q14;replace hC:=hC.next q14;have a5:∀i,i<us.length->∀q∈(us.getD i tq0).2,∀k∈z0x (slv q.th),k<g4.heap.size:=λi hi q hq k hk=>((hT.lps i hi q hq).1.blk k hk).2;refine z0b ?_;refine z0d 26 U ?_;refine z0m h (z0a U z0f) x2y (z3x _ s.fb.fs _ I.f.f D.fl) ?_;rintro _ g6 ⟨gf,rfl,e3,a3,b0⟩ a h;have k6:=b0.size;replace J:=J.ext (d1.n2 q14 b0);replace hC:=hC.next b0;refine z0b ?_;refine z3c (cs:=[_,_,_,_,_,_,_]) 27 h (z0a U (z0a U (z0a U (z0a U (z0a U (z0a U z0f)))))) v1c (z0h U (z0h U (z0h U (z0h U (z0h U (z0h U z0q)))))) U U λa h=>z0d 28 U ?_;refine y7a h U U U λi5 a1 b1 hz a h=>?_;obtain⟨a0,hg⟩:∃g,g=g6.heap.size:=⟨_,rfl⟩;rw[<-hg]at a1 h hz;have a4:g1<a0:=by have:=J.lt;omega
 have k7:=b1.size;replace O:=O.ext (d1.n3 q14 b0 b1);replace M:=M.ext (d1.n3 q14 b0 b1);replace hY:=hY.ext (d1.n3 q14 b0 b1);replace a2:=a2.ext (q14.n2 b0 b1);replace hT:=hT.ext (b0.n1 b1);replace a3:=a3.ext b1;replace hC:=hC.next b1;refine z0b ?_;refine z0d 29 U ?_;refine z0s h U λa h=>?_;refine z0b ?_;refine z0r ?_;clear hC b8 Z;refine bk (h.sub (L':=[(1,_),(3,_)]) (.c2 U U)) ?_;exact jE ((⟨a0,gy,6,gt,6,gm,_⟩:MA)) (.c2 U U) ⟨((q2.n6 q3 q4 q5 d1 q14 b0).n1 b1),(y8q a1 (O.low (by omega)) (M.low (by omega)) (y2f hY (by omega)) c1 c9 (y2k hT (by omega)) a7 a6 a2 (a3.low (by omega)) D.ly D.lt (((q1.n6 q2 q3 q4 q5 d1 q14).n1 b0).n1 b1) (by omega) (by omega) (λx hx hb=>by rcases List.mem_append.1 hx with k|k;have:=d6 x k _ hb;omega;have:=d3 x k _ hb;omega) (λi hi q hq hb=>by have:=a5 i (by have:=D.lt;omega) q hq _ hb;omega) d7 d4)⟩;refine z4o (K:=138) (E:=3) crK h U underlying135 U λgm i7 e4 a2 d5 _hz a h=>?_;have k8:=d5.size;replace I:=I.ext d5;replace hC:=hC.next d5;clear _hz;refine z0b ?_;refine z0d 13 U ?_;refine z0m h (z0a U z0f) (mkC func61) (y9n _ s.ys _ I.y I.ya (by have:=D.ly;omega) D.pe) ?_;rintro _ i8 ⟨⟨gy,ps,rfl,f1,hY,c1,c9⟩,q18⟩ a h;have k9:=q18.size;replace I:=I.ext q18;replace hC:=hC.next q18;refine z0b ?_;refine z0d 17 U ?_;refine z0m h (z0a U z0f) j4v (y6j _ s.fb.ts _ I.f.t I.f.tt (by have:=D.lt;omega) D.tb) ?_;rintro _ g7 ⟨⟨gt,us,rfl,e6,hT,a7,a6⟩,q19⟩ a h;have l0:=q19.size;replace I:=I.ext q19;replace hC:=hC.next q19;have a5:∀i,i<us.length->∀q∈(us.getD i tq0).2,∀k∈z0x (slv q.th),k<g7.heap.size:=λi hi q hq k hk=>((hT.lps i hi q hq).1.blk k hk).2;refine z0b ?_;refine z0d 26 U ?_;refine z0m h (z0a U z0f) x2y (z3x _ s.fb.fs _ I.f.f D.fl) ?_;rintro _ g8 ⟨gf,rfl,e3,a3,b2⟩ a h;have l1:=b2.size;replace J:=J.ext (d5.n3 q18 q19 b2);replace hC:=hC.next b2;refine z0b ?_;refine z3c (cs:=[_,_,_,_,_,_,_]) 27 h (z0a U (z0a U (z0a U (z0a U (z0a U (z0a U z0f)))))) v1c (z0h U (z0h U (z0h U (z0h U (z0h U (z0h U z0q)))))) U U λa h=>z0d 28 U ?_;refine y7a h U U U λi9 a1 b3 hz a h=>?_;obtain⟨a0,hg⟩:∃g,g=g8.heap.size:=⟨_,rfl⟩;rw[<-hg]at a1 h hz;have a4:g1<a0:=by have:=J.lt;omega
 have l2:=b3.size;replace O:=O.ext (d5.n4 q18 q19 b2 b3);replace M:=M.ext (d5.n4 q18 q19 b2 b3);replace a2:=a2.ext (q18.n3 q19 b2 b3);replace hY:=hY.ext (q19.n2 b2 b3);replace hT:=hT.ext (b2.n1 b3);replace a3:=a3.ext b3;replace hC:=hC.next b3;refine z0b ?_;refine z0d 29 U ?_;refine z0s h U λa h=>?_;refine z0b ?_;refine z0r ?_;clear hC b8 Z;refine bk (h.sub (L':=[(1,_),(3,_)]) (.c2 U U)) ?_;exact jE ((⟨a0,gy,6,gt,6,gm,_⟩:MA)) (.c2 U U) ⟨((q2.n6 q3 q4 d5 q18 q19 b2).n1 b3),(y8q a1 (O.low (by omega)) (M.low (by omega)) (y2f hY (by omega)) c1 c9 (y2k hT (by omega)) a7 a6 a2 (a3.low (by omega)) D.ly D.lt (((q1.n6 q2 q3 q4 d5 q18 q19).n1 b2).n1 b3) (by omega) (by omega) (λx hx hb=>by rcases List.mem_append.1 hx with k|k;have:=d6 x k _ hb;omega;have:=d3 x k _ hb;omega) (λi hi q hq hb=>by have:=a5 i (by have:=D.lt;omega) q hq _ hb;omega) d7 d4)⟩;refine z4o (K:=138) (E:=3) crK h U underlying135 U λgm j0 e4 a2 d9 _hz a h=>?_;have l3:=d9.size;replace I:=I.ext d9;replace hC:=hC.next d9;clear _hz;refine z0b ?_;refine z0d 9 U ?_;refine z0m h (z0a U z0f) j4z (y5r _ s.q.bs _ I.b.b I.b.bi D.bb D.b4) ?_;rintro _ g9 ⟨⟨e1,M,d4,gB,rfl⟩,q23⟩ a h;have l4:=q23.size;replace I:=I.ext q23;replace hC:=hC.next q23;have d3:∀x∈e1,∀k∈z0x (slv x.1),k<g9.heap.size:=λx hx k hk=>((M.2 x hx).blk k hk).2;refine z0b ?_;refine z3c (cs:=[_,_]) 10 h (z0a U (z0a U z0f)) j3e (z0h U (z0h U z0q)) U U λa h=>z0d 13 U ?_;refine z0m h (z0a U z0f) (mkC func61) (y9n _ s.ys _ I.y I.ya (by have:=D.ly;omega) D.pe) ?_;rintro _ j1 ⟨⟨gy,ps,rfl,f1,hY,c1,c9⟩,q24⟩ a h;have l5:=q24.size;replace I:=I.ext q24;replace hC:=hC.next q24;refine z0b ?_;refine z0d 17 U ?_;refine z0m h (z0a U z0f) j4v (y6j _ s.fb.ts _ I.f.t I.f.tt (by have:=D.lt;omega) D.tb) ?_;rintro _ h0 ⟨⟨gt,us,rfl,e6,hT,a7,a6⟩,q25⟩ a h;have l6:=q25.size;replace I:=I.ext q25;replace hC:=hC.next q25;have a5:∀i,i<us.length->∀q∈(us.getD i tq0).2,∀k∈z0x (slv q.th),k<h0.heap.size:=λi hi q hq k hk=>((hT.lps i hi q hq).1.blk k hk).2;refine z0b ?_;refine z0d 26 U ?_;refine z0m h (z0a U z0f) x2y (z3x _ s.fb.fs _ I.f.f D.fl) ?_;rintro _ h1 ⟨gf,rfl,e3,a3,b4⟩ a h;have l7:=b4.size;replace J:=J.ext (d9.n4 q23 q24 q25 b4);replace hC:=hC.next b4;refine z0b ?_;refine z3c (cs:=[_,_,_,_,_,_,_]) 27 h (z0a U (z0a U (z0a U (z0a U (z0a U (z0a U z0f)))))) v1c (z0h U (z0h U (z0h U (z0h U (z0h U (z0h U z0q)))))) U U λa h=>z0d 28 U ?_;refine y7a h U U U λj2 a1 b5 hz a h=>?_;obtain⟨a0,hg⟩:∃g,g=h1.heap.size:=⟨_,rfl⟩;rw[<-hg]at a1 h hz;have a4:g1<a0:=by have:=J.lt;omega
 have l8:=b5.size;replace O:=O.ext (d9.n5 q23 q24 q25 b4 b5);replace a2:=a2.ext (q23.n4 q24 q25 b4 b5);replace M:=M.ext (q24.n3 q25 b4 b5);replace hY:=hY.ext (q25.n2 b4 b5);replace hT:=hT.ext (b4.n1 b5);replace a3:=a3.ext b5;replace hC:=hC.next b5;refine z0b ?_;refine z0d 29 U ?_;refine z0s h U λa h=>?_;refine z0b ?_;refine z0r ?_;clear hC b8 Z;refine bk (h.sub (L':=[(1,_),(3,_)]) (.c2 U U)) ?_;exact jE ((⟨a0,gy,6,gt,6,gm,_⟩:MA)) (.c2 U U) ⟨((q2.n6 q3 d9 q23 q24 q25 b4).n1 b5),(y8q a1 (O.low (by omega)) (M.low (by omega)) (y2f hY (by omega)) c1 c9 (y2k hT (by omega)) a7 a6 a2 (a3.low (by omega)) D.ly D.lt (((q1.n6 q2 q3 d9 q23 q24 q25).n1 b4).n1 b5) (by omega) (by omega) (λx hx hb=>by rcases List.mem_append.1 hx with k|k;have:=d6 x k _ hb;omega;have:=d3 x k _ hb;omega) (λi hi q hq hb=>by have:=a5 i (by have:=D.lt;omega) q hq _ hb;omega) d7 d4)⟩;refine z4o (K:=138) (E:=3) crK h U underlying135 U λgm j3 e4 a2 e0 _hz a h=>?_;have l9:=e0.size;replace I:=I.ext e0;replace hC:=hC.next e0;clear _hz;refine z0b ?_;refine z0d 5 U ?_;refine z0m h (z0a U z0f) j4z (y5r _ s.q.fs _ I.b.f I.b.fi D.bf D.f4) ?_;rintro _ h2 ⟨⟨e9,O,d7,gF,rfl⟩,q29⟩ a h;have m0:=q29.size;replace I:=I.ext q29;replace hC:=hC.next q29;have d6:∀x∈e9,∀k∈z0x (slv x.1),k<h2.heap.size:=λx hx k hk=>((O.2 x hx).blk k hk).2;refine z0b ?_;refine z0d 9 U ?_;refine z0m h (z0a U z0f) j4z (y5r _ s.q.bs _ I.b.b I.b.bi D.bb D.b4) ?_;rintro _ h3 ⟨⟨e1,M,d4,gB,rfl⟩,q30⟩ a h;have m1:=q30.size;replace I:=I.ext q30;replace hC:=hC.next q30;have d3:∀x∈e1,∀k∈z0x (slv x.1),k<h3.heap.size:=λx hx k hk=>((M.2 x hx).blk k hk).2;refine z0b ?_;refine z3c (cs:=[_,_]) 10 h (z0a U (z0a U z0f)) j3e (z0h U (z0h U z0q)) U U λa h=>z0d 13 U ?_;refine z0m h (z0a U z0f) (mkC func61) (y9n _ s.ys _ I.y I.ya (by have:=D.ly;omega) D.pe) ?_;rintro _ j4 ⟨⟨gy,ps,rfl,f1,hY,c1,c9⟩,q31⟩ a h;have m2:=q31.size;replace I:=I.ext q31;replace hC:=hC.next q31;refine z0b ?_;refine z0d 17 U ?_;refine z0m h (z0a U z0f) j4v (y6j _ s.fb.ts _ I.f.t I.f.tt (by have:=D.lt;omega) D.tb) ?_;rintro _ h4 ⟨⟨gt,us,rfl,e6,hT,a7,a6⟩,q32⟩ a h;have m3:=q32.size;replace I:=I.ext q32;replace hC:=hC.next q32;have a5:∀i,i<us.length->∀q∈(us.getD i tq0).2,∀k∈z0x (slv q.th),k<h4.heap.size:=λi hi q hq k hk=>((hT.lps i hi q hq).1.blk k hk).2;refine z0b ?_;refine z0d 26 U ?_;refine z0m h (z0a U z0f) x2y (z3x _ s.fb.fs _ I.f.f D.fl) ?_;rintro _ h5 ⟨gf,rfl,e3,a3,b6⟩ a h;have m4:=b6.size;replace J:=J.ext (e0.n5 q29 q30 q31 q32 b6);replace hC:=hC.next b6;refine z0b ?_;refine z3c (cs:=[_,_,_,_,_,_,_]) 27 h (z0a U (z0a U (z0a U (z0a U (z0a U (z0a U z0f)))))) v1c (z0h U (z0h U (z0h U (z0h U (z0h U (z0h U z0q)))))) U U λa h=>z0d 28 U ?_;refine y7a h U U U λj5 a1 b7 hz a h=>?_;obtain⟨a0,hg⟩:∃g,g=h5.heap.size:=⟨_,rfl⟩;rw[<-hg]at a1 h hz;have a4:g1<a0:=by have:=J.lt;omega
 have m5:=b7.size;replace a2:=a2.ext (q29.n5 q30 q31 q32 b6 b7);replace O:=O.ext (q30.n4 q31 q32 b6 b7);replace M:=M.ext (q31.n3 q32 b6 b7);replace hY:=hY.ext (q32.n2 b6 b7);replace hT:=hT.ext (b6.n1 b7);replace a3:=a3.ext b7;replace hC:=hC.next b7;refine z0b ?_;refine z0d 29 U ?_;refine z0s h U λa h=>?_;refine z0b ?_;refine z0r ?_;clear hC b8 Z;refine bk (h.sub (L':=[(1,_),(3,_)]) (.c2 U U)) ?_;exact jE ((⟨a0,gy,6,gt,6,gm,_⟩:MA)) (.c2 U U) ⟨((q2.n6 e0 q29 q30 q31 q32 b6).n1 b7),(y8q a1 (O.low (by omega)) (M.low (by omega)) (y2f hY (by omega)) c1 c9 (y2k hT (by omega)) a7 a6 a2 (a3.low (by omega)) D.ly D.lt (((q1.n6 q2 e0 q29 q30 q31 q32).n1 b6).n1 b7) (by omega) (by omega) (λx hx hb=>by rcases List.mem_append.1 hx with k|k;have:=d6 x k _ hb;omega;have:=d3 x k _ hb;omega) (λi hi q hq hb=>by have:=a5 i (by have:=D.lt;omega) q hq _ hb;omega) d7 d4)⟩;rintro ka j6 ⟨f6,⟨m,hM,e5⟩⟩;have m6:=f6.size;have f2:=hM;refine kpC [(1,_),(3,.pointer (some ⟨ka.gk,0,none⟩))] (.c2 U U) (sq (sr (fad U z9k (x2b U y3n U ?_))));replace J:=J.ext f6;refine z0g U J U u5n (lnS U underlying36 (mv U (nn (bl ?_))));refine lpK (ι:=Nat) [(3,_),(37,_),(38,_)] (λi=>[(39,.int .i64 (i:Int))]) (λi w'=>i<=s.fb.cs.length/\(∃m:MQ,m.p=(⟨s.rk,⟨trimB (plB s.q.fs),trimB (plB s.q.bs)⟩,s.ys.map YQ.p,z1v s.fb.ts,s.fb.cs.take i,s.fb.fs⟩:MSt)/\MkM τd 137 w0 ka w' m)) (λi=>s.fb.cs.length-i) 0 (.c4 U U U U) ⟨Nat.zero_le _,⟨m,e5,hM⟩⟩ ?_;rintro i j7 ⟨hi,⟨m,e5,hM⟩⟩;have f2:=hM;refine kpC [(3,_),(37,_),(38,_),(39,_)] (.c4 U U U U) ?_;have hk:=hM.k;have i1:=hk.lt;refine sr (lt' U (nn (sq (cd U (λc0=>?_) (λc0=>?_)))));refine sk (tn (sq (bl (sr (z1a (cx0) U (f0.f.c.ext hM.fr.fr) U v8y z1d (λh6 f4=>?_))))));refine z1j U (f4 _ (f0.f.c.ext hM.fr.fr)) x6f (al v4p U (λg5 j8 i0 e2 f7 m7=>(z0i (vs:=[_,_,_,_,_]) U e2 j2b (λj9 e2 f8 m8=>(nn ?_)))));replace hM:=f2.ext (f7.z1 f8);replace hk:=(hk.ext f7).fr f8;intro a h;refine z0j (some 11) (λwb w'=>Fr [] wb w') z2s ?_;intro f9 e7;have m9:=e7.size;replace hM:=hM.ext e7;replace hk:=hk.ext e7;replace e2:=e2.ext e7;have hC:Fr [] f9 f9:=Fr.refl _ _;have f3:=hM;have e8:=hk;have b9:=e2;refine z0e 0 h U λa h=>z0o 1 h U λa h=>z0c 2 h U y2i U λa h=>z0l 3 h U (λ_ hw=>e8.ext hw) U v0r U λa h=>z0c 4 h U y2j U λa h=>z1e (vs:=[_,_]) 5 h U (λ_ hw=>(b9.ext hw)) z3t U U λa h=>z0c 6 h U y2e U λa h=>z1e (vs:=[_,_]) 7 h U (λ_ hw=>(b9.ext hw)) z3t U U λa h=>z3c (cs:=[_,_,_,_]) 8 h (z0a U (z0a U z0f)) j1d (z0h U (z0h U z0q)) U U λa h=>z0c 9 h U y5o U λa h=>z0l 10 h U (λ_ hw=>b9.ext hw) U na3 U λa h=>?_;refine z0d 11 U ?_;refine y8d (V:=crK) (k:=cxK (s.fb.cs.getD i cx0)) (v:=.int .i64 (s.fb.cs.getD i cx0).n) h U U U hM.c x9g underlying135 λk0 f5 hq _hz a h=>?_;rw[show m.cr=s.fb.cs.take i from congrArg MSt.cr e5]at f5;replace hM:=hM.cross (l:=s.fb.cs.take (i+1)) (by rw[<-u0r g0 (by omega)];exact f5) hq;refine z1n ?_;refine z0r ?_;clear hC f3 e8 b9;refine bk (h.sub (L':=[(3,_),(37,_),(38,_),(39,_)]) (.c4 U U U U)) (bn' (tn (rg (z0v U (wi6 (by omega)) (mv U (nl ?_))))));exact lpE (i+1) (.c4 U U U U) ⟨by omega,⟨{ m with cr:=s.fb.cs.take (i+1) },by rw[show ({ m with cr:=s.fb.cs.take (i+1) }:MQ).p={ m.p with cr:=s.fb.cs.take (i+1) } from U,e5],hM⟩⟩ (by omega);obtain rfl:i=s.fb.cs.length:=by omega
 refine ex (te (te (xh (tn (sr (mv U (asg U (kpL [(2,_)] (.cons U .nil) (nn (rt (r1 results25 U ?_)))))))))));exact⟨_,rfl,ka,m,rfl,hM,by rw[e5,List.take_length]⟩
theorem j9p (v:Value)(l:List Int)(w0:World)(J:Sl Enc.i64 w0 v l)(hl:l.length<=1000):Rets prog 121 #[v] w0 λr w'=>r=.int .i64 (orZ l)/\w'=w0:=by
 obtain⟨A,c,rfl,a0,hM,hA⟩:=id J;clear hA;unfold maxLen at hM;refine we [(0,.slice A l.length c)] func121 U ntmps121 U (.cons U .nil) ?_;have M:=J;refine sr (asg U (nn (sr (asg U (nn (sq (sr (mv U (lnS U underlying85 (mv U (nn (bl ?_))))))))))));refine lpK (ι:=Nat) [(3,_),(6,_),(7,_)] (λi=>[(8,.int .i64 (i:Int))]) (λi w'=>Fr [] w0 w'/\i<=l.length/\(∀j,j<i->l.getD j 0=0)/\w'=w0) (λi=>l.length-i) 0 (.c4 U U U U) ⟨Fr.refl _ _,⟨Nat.zero_le _,⟨λj h=>absurd h (by omega),rfl⟩⟩⟩ ?_;rintro i w1 ⟨q1,⟨hi,⟨O,D⟩⟩⟩;refine kpC [(3,_),(6,_),(7,_),(8,_)] (.c4 U U U U) (sr (lt' U (nn (sq (cd U (λc0=>?_) (λc0=>?_))))));refine sk (tn (sq (bl (sr ?_))));replace J:=M.ext q1;refine z1a (0) U J U y8v z1d (λZ I=>?_);refine z1g U (I _ J) na3 (asg U (nn (sr (mv U (mv U (ne' U (nn (cd U (λc1=>?_) (λc1=>?_)))))))));refine sr (mv U (asg U (kpL [(2,_)] (.cons U .nil) (nn (rt (rb (tr (tr (rb (tr (r1 results121 U ?_)))))))))));exact⟨_,rfl,congrArg (Value.int .i64) (v3l (by omega) O (by omega)).symm,D⟩;refine sk (bn' (tn (rg (z0v U (wi6 (by omega)) (mv U (nl ?_))))));exact lpE (i+1) (.c4 U U U U) ⟨q1,⟨by omega,⟨λj h=>by
  by_cases e:j=i;subst e;omega;exact O j (by omega),D⟩⟩⟩ (by omega)
 obtain rfl:i=l.length:=by omega
 refine ex (te (te (xh (tn (sr (mv U (asg U (kpL [(2,_)] (.cons U .nil) (nn (rt (r1 results121 U ?_)))))))))));exact⟨_,rfl,congrArg (Value.int .i64) (x0e O).symm,D⟩
theorem nanD (x:Int)(W:World):Calls prog 165 #[.int .i64 x] W λe w'=>e=.returned (.bool false)/\w'=W:=by
 go_enter func165,ntmps165;go_wp2;go_ret;exact⟨by simp,rfl⟩
theorem j9f (x:Int)(W:World):Calls prog 164 #[.int .u8 x] W λe w'=>e=.returned (.bool false)/\w'=W:=by
 go_enter func164,ntmps164;go_wp2;go_ret;exact⟨by simp,rfl⟩
set_option maxHeartbeats 1000000 in
theorem cmpD (x y:Int)(W:World):Calls prog 123 #[.int .i64 x,.int .i64 y] W λe w'=>e=.returned (.int .i64 (y0p x y))/\w'=W:=by
 go_enter func123,ntmps123
 go_wp2_with (go_at_call 165;refine(nanD _ _).mono ?_;rintro e w' ⟨rfl,D⟩;rw[D])
 all_goals (go_ret;refine⟨?_,rfl⟩;unfold y0p;(repeat' split)<;>first|rfl|(exfalso;omega))
set_option maxHeartbeats 1000000 in
theorem j9s (x y:Int)(W:World):Calls prog 122 #[.int .u8 x,.int .u8 y] W λe w'=>e=.returned (.int .i64 (y0p x y))/\w'=W:=by
 go_enter func122,ntmps122
 go_wp2_with (go_at_call 164;refine(j9f _ _).mono ?_;rintro e w' ⟨rfl,D⟩;rw[D])
 all_goals (go_ret;refine⟨?_,rfl⟩;unfold y0p;(repeat' split)<;>first|rfl|(exfalso;omega))
theorem orD (b T:Nat)(x y:Int)(W:World)(D:W.heap[b]?=some (.cells #[.int .i64 x,.int .i64 y] T (0,0))):Calls prog 121 #[.slice (some ⟨b,0,none⟩) 2 2] W λe w'=>e=.returned (.int .i64 (orZ [x,y]))/\w'=W:=
 Calls.mono (j9p _ _ W (j5g D) (by simp)) (by rintro e w' ⟨r,rfl,rfl,h⟩;exact⟨rfl,h⟩)
set_option maxHeartbeats 4000000 in
theorem u6z (x y:LId)(W:World):Calls prog 74 #[.agg #[.int .u8 x.y,.int .i64 x.n],.agg #[.int .u8 y.y,.int .i64 y.n]] W λe w'=>e=.returned (.int .i64 (z6k x y))/\DG W w':=by
 rw[<-x9d x y]
 go_enter func74,ntmps74
 go_wp2
 go_region_held3 (λw'=>w'.cell? ⟨W.heap.size,0,none⟩=some (.int .u8 x.y)/\w'.cell? ⟨W.heap.size,1,none⟩=some (.int .i64 x.n)/\w'.cell? ⟨W.heap.size+1,0,none⟩=some (.int .u8 y.y)/\w'.cell? ⟨W.heap.size+1,1,none⟩=some (.int .i64 y.n)) (go_keep)
  (first|(go_at_call 122;refine(j9s _ _ _).mono ?_;rintro e w' ⟨rfl,rfl⟩)|(go_at_call 123;refine(cmpD _ _ _).mono ?_;rintro e w' ⟨rfl,rfl⟩)|(go_at_call 121;refine(orD _ 3 (y0p x.y y.y) (y0p x.n y.n) _ (j0a _ _ _ (by simp))).mono ?_;rintro e w' ⟨rfl,rfl⟩)|(go_at_call 121;refine(orD _ 3 (y0p x.y y.y) (y0p x.n y.n) _ (j9k _ _ _ (by simp))).mono ?_;rintro e w' ⟨rfl,rfl⟩))
 all_goals go_wp2
 all_goals go_ret
 all_goals refine⟨rfl,?_⟩
 all_goals repeat first|exact DG.refl _|refine DG.drew ?_|refine DG.alloc ?_ _
set_option maxHeartbeats 4000000 in
theorem j7i (x y:Cx)(W:World):Calls prog 73 #[j3a x,j3a y] W λe w'=>e=.returned (.int .i64 (x1x x y))/\DG W w':=by
 go_enter func73,ntmps73
 go_wp2_with (first|(go_at_call 74;refine(u6z ⟨_,_⟩ ⟨_,_⟩ _).mono ?_;rintro e w' ⟨rfl,D⟩;have M:w'.cell? ⟨W.heap.size,2,none⟩=some (.int .u8 x.b.y):=D.cell (by simp[j3a]);have c2:w'.cell? ⟨W.heap.size,3,none⟩=some (.int .i64 x.b.n):=D.cell (by simp[j3a]);have c3:w'.cell? ⟨W.heap.size+1,2,none⟩=some (.int .u8 y.b.y):=D.cell (by simp[j3a]);have c4:w'.cell? ⟨W.heap.size+1,3,none⟩=some (.int .i64 y.b.n):=D.cell (by simp[j3a]))|(go_at_call 74;refine(u6z ⟨_,_⟩ ⟨_,_⟩ _).mono ?_;rintro e J ⟨rfl,I⟩))
 all_goals go_ret
 ·rename_i h
  refine⟨?_,(((DG.refl _).alloc _).alloc _).trans D⟩
  show Ending.returned (Value.int .i64 (z6k x.a y.a))=_
  unfold x1x;rw[if_pos (by simpa using h)]
 rename_i h
 refine⟨?_,((((DG.refl _).alloc _).alloc _).trans D).trans I⟩
 show Ending.returned (Value.int .i64 (z6k x.b y.b))=_
 unfold x1x;rw[if_neg (by simpa using h)]
end Go.Proofs.YtpgdchkdlgkmgaaGreatDoor
namespace Go.Proofs
open Go.Shelf
def Tryz.sortCx_ren:Go.Shelf.Ren:=⟨fun|6=>72|15=>120|14=>119|28=>162|29=>163|20=>154|21=>155|22=>156|23=>157|24=>158|25=>159|26=>160|27=>161|46=>204|47=>205|48=>206|49=>207|50=>208|57=>234|n=>n,fun|22=>36|24=>109|25=>142|3=>3|39=>208|0=>0|53=>264|55=>266|4=>4|46=>257|45=>256|50=>261|5=>5|9=>9|66=>296|70=>300|76=>324|77=>325|n=>n,fun|n=>n⟩
theorem Tryz.sortCx:Go.Proofs.SlLaysF0.n6 Tryz.prog Tryz.sortCx_ren:={
 mixed:=by kernel_rfl
 f6:=⟨Tryz.f72.name,by decide,Tryz.func72.trans (congrArg some (by kernel_rfl))⟩
 f14:=⟨Tryz.f119.name,by decide,Tryz.func119.trans (congrArg some (by kernel_rfl))⟩
 f15:=Tryz.func120.trans (congrArg some (by kernel_rfl))
 f20:=⟨Tryz.f154.name,by decide,Tryz.func154.trans (congrArg some (by kernel_rfl))⟩
 f21:=⟨Tryz.f155.name,by decide,Tryz.func155.trans (congrArg some (by kernel_rfl))⟩
 f22:=⟨Tryz.f156.name,by decide,Tryz.func156.trans (congrArg some (by kernel_rfl))⟩
 f23:=⟨Tryz.f157.name,by decide,Tryz.func157.trans (congrArg some (by kernel_rfl))⟩
 f24:=⟨Tryz.f158.name,by decide,Tryz.func158.trans (congrArg some (by kernel_rfl))⟩
 f25:=⟨Tryz.f159.name,by decide,Tryz.func159.trans (congrArg some (by kernel_rfl))⟩
 f26:=⟨Tryz.f160.name,by decide,Tryz.func160.trans (congrArg some (by kernel_rfl))⟩
 f27:=⟨Tryz.f161.name,by decide,Tryz.func161.trans (congrArg some (by kernel_rfl))⟩
 f28:=Tryz.func162.trans (congrArg some (by kernel_rfl))
 f29:=Tryz.func163.trans (congrArg some (by kernel_rfl))
 f46:=⟨Tryz.f204.name,by decide,Tryz.func204.trans (congrArg some (by kernel_rfl))⟩
 f47:=Tryz.func205.trans (congrArg some (by kernel_rfl))
 f48:=Tryz.func206.trans (congrArg some (by kernel_rfl))
 f49:=⟨Tryz.f207.name,by decide,Tryz.func207.trans (congrArg some (by kernel_rfl))⟩
 f50:=⟨Tryz.f208.name,by decide,Tryz.func208.trans (congrArg some (by kernel_rfl))⟩
 f57:=⟨Tryz.f234.name,by decide,Tryz.func234.trans (congrArg some (by kernel_rfl))⟩
 t0:=Tryz.underlying0
 a0:=Tryz.isAgg0
 z0:=Tryz.sizeOf0
 v0:=Tryz.zeroValue0
 t3:=Tryz.underlying3
 a3:=Tryz.isAgg3
 z3:=Tryz.sizeOf3
 v3:=Tryz.zeroValue3
 t4:=Tryz.underlying4
 a4:=Tryz.isAgg4
 z4:=Tryz.sizeOf4
 v4:=Tryz.zeroValue4
 t5:=Tryz.underlying5
 a5:=Tryz.isAgg5
 z5:=Tryz.sizeOf5
 v5:=Tryz.zeroValue5
 t9:=Tryz.underlying9
 a9:=Tryz.isAgg9
 z9:=Tryz.sizeOf9
 v9:=Tryz.zeroValue9
 t22:=Tryz.underlying36
 a22:=Tryz.isAgg36
 z22:=Tryz.sizeOf36
 v22:=Tryz.zeroValue36
 t25:=Tryz.underlying142
 a25:=Tryz.isAgg142
 z25:=Tryz.sizeOf142
 v25:=Tryz.zeroValue142
 t39:=Tryz.underlying208
 a39:=Tryz.isAgg208
 z39:=Tryz.sizeOf208
 v39:=Tryz.zeroValue208
 t45:=Tryz.underlying256
 a45:=Tryz.isAgg256
 z45:=Tryz.sizeOf256
 v45:=Tryz.zeroValue256
 t46:=Tryz.underlying257
 a46:=Tryz.isAgg257
 z46:=Tryz.sizeOf257
 v46:=Tryz.zeroValue257
 t50:=Tryz.underlying261
 a50:=Tryz.isAgg261
 z50:=Tryz.sizeOf261
 v50:=Tryz.zeroValue261
 t53:=Tryz.underlying264
 a53:=Tryz.isAgg264
 z53:=Tryz.sizeOf264
 v53:=Tryz.zeroValue264
 t55:=Tryz.underlying266
 a55:=Tryz.isAgg266
 z55:=Tryz.sizeOf266
 v55:=Tryz.zeroValue266
 t66:=Tryz.underlying296
 a66:=Tryz.isAgg296
 z66:=Tryz.sizeOf296
 v66:=Tryz.zeroValue296
 t70:=Tryz.underlying300
 a70:=Tryz.isAgg300
 z70:=Tryz.sizeOf300
 v70:=Tryz.zeroValue300
 t76:=Tryz.underlying324
 a76:=Tryz.isAgg324
 z76:=Tryz.sizeOf324
 v76:=Tryz.zeroValue324
 t77:=Tryz.underlying325
 a77:=Tryz.isAgg325
 z77:=Tryz.sizeOf325
 v77:=Tryz.zeroValue325 }
def Tryz.sortId_ren:Go.Shelf.Ren:=⟨fun|6=>76|15=>120|14=>124|28=>162|29=>163|20=>166|21=>167|22=>168|23=>169|24=>170|25=>171|26=>172|27=>173|46=>209|47=>205|48=>206|49=>210|50=>211|57=>235|n=>n,fun|22=>37|24=>87|25=>141|3=>3|39=>208|0=>0|53=>264|55=>266|4=>4|46=>257|45=>256|50=>261|5=>5|9=>9|66=>296|70=>300|76=>324|77=>325|n=>n,fun|n=>n⟩
theorem Tryz.sortId:Go.Proofs.SlLaysF0.n6 Tryz.prog Tryz.sortId_ren:={
 mixed:=by kernel_rfl
 f6:=⟨Tryz.f76.name,by decide,Tryz.func76.trans (congrArg some (by kernel_rfl))⟩
 f14:=⟨Tryz.f124.name,by decide,Tryz.func124.trans (congrArg some (by kernel_rfl))⟩
 f15:=Tryz.func120.trans (congrArg some (by kernel_rfl))
 f20:=⟨Tryz.f166.name,by decide,Tryz.func166.trans (congrArg some (by kernel_rfl))⟩
 f21:=⟨Tryz.f167.name,by decide,Tryz.func167.trans (congrArg some (by kernel_rfl))⟩
 f22:=⟨Tryz.f168.name,by decide,Tryz.func168.trans (congrArg some (by kernel_rfl))⟩
 f23:=⟨Tryz.f169.name,by decide,Tryz.func169.trans (congrArg some (by kernel_rfl))⟩
 f24:=⟨Tryz.f170.name,by decide,Tryz.func170.trans (congrArg some (by kernel_rfl))⟩
 f25:=⟨Tryz.f171.name,by decide,Tryz.func171.trans (congrArg some (by kernel_rfl))⟩
 f26:=⟨Tryz.f172.name,by decide,Tryz.func172.trans (congrArg some (by kernel_rfl))⟩
 f27:=⟨Tryz.f173.name,by decide,Tryz.func173.trans (congrArg some (by kernel_rfl))⟩
 f28:=Tryz.func162.trans (congrArg some (by kernel_rfl))
 f29:=Tryz.func163.trans (congrArg some (by kernel_rfl))
 f46:=⟨Tryz.f209.name,by decide,Tryz.func209.trans (congrArg some (by kernel_rfl))⟩
 f47:=Tryz.func205.trans (congrArg some (by kernel_rfl))
 f48:=Tryz.func206.trans (congrArg some (by kernel_rfl))
 f49:=⟨Tryz.f210.name,by decide,Tryz.func210.trans (congrArg some (by kernel_rfl))⟩
 f50:=⟨Tryz.f211.name,by decide,Tryz.func211.trans (congrArg some (by kernel_rfl))⟩
 f57:=⟨Tryz.f235.name,by decide,Tryz.func235.trans (congrArg some (by kernel_rfl))⟩
 t0:=Tryz.underlying0
 a0:=Tryz.isAgg0
 z0:=Tryz.sizeOf0
 v0:=Tryz.zeroValue0
 t3:=Tryz.underlying3
 a3:=Tryz.isAgg3
 z3:=Tryz.sizeOf3
 v3:=Tryz.zeroValue3
 t4:=Tryz.underlying4
 a4:=Tryz.isAgg4
 z4:=Tryz.sizeOf4
 v4:=Tryz.zeroValue4
 t5:=Tryz.underlying5
 a5:=Tryz.isAgg5
 z5:=Tryz.sizeOf5
 v5:=Tryz.zeroValue5
 t9:=Tryz.underlying9
 a9:=Tryz.isAgg9
 z9:=Tryz.sizeOf9
 v9:=Tryz.zeroValue9
 t22:=Tryz.underlying37
 a22:=Tryz.isAgg37
 z22:=Tryz.sizeOf37
 v22:=Tryz.zeroValue37
 t25:=Tryz.underlying141
 a25:=Tryz.isAgg141
 z25:=Tryz.sizeOf141
 v25:=Tryz.zeroValue141
 t39:=Tryz.underlying208
 a39:=Tryz.isAgg208
 z39:=Tryz.sizeOf208
 v39:=Tryz.zeroValue208
 t45:=Tryz.underlying256
 a45:=Tryz.isAgg256
 z45:=Tryz.sizeOf256
 v45:=Tryz.zeroValue256
 t46:=Tryz.underlying257
 a46:=Tryz.isAgg257
 z46:=Tryz.sizeOf257
 v46:=Tryz.zeroValue257
 t50:=Tryz.underlying261
 a50:=Tryz.isAgg261
 z50:=Tryz.sizeOf261
 v50:=Tryz.zeroValue261
 t53:=Tryz.underlying264
 a53:=Tryz.isAgg264
 z53:=Tryz.sizeOf264
 v53:=Tryz.zeroValue264
 t55:=Tryz.underlying266
 a55:=Tryz.isAgg266
 z55:=Tryz.sizeOf266
 v55:=Tryz.zeroValue266
 t66:=Tryz.underlying296
 a66:=Tryz.isAgg296
 z66:=Tryz.sizeOf296
 v66:=Tryz.zeroValue296
 t70:=Tryz.underlying300
 a70:=Tryz.isAgg300
 z70:=Tryz.sizeOf300
 v70:=Tryz.zeroValue300
 t76:=Tryz.underlying324
 a76:=Tryz.isAgg324
 z76:=Tryz.sizeOf324
 v76:=Tryz.zeroValue324
 t77:=Tryz.underlying325
 a77:=Tryz.isAgg325
 z77:=Tryz.sizeOf325
 v77:=Tryz.zeroValue325 }
end Go.Proofs
namespace Go.Proofs.YtpgdchkdlgkmgaaGreatDoor
open Go.Lw Go.G21 Go.G08 _root_.Go.Proofs.Tryz
open Go.Shelf Go.Sort
theorem u7w (f:Value)(W:World):Calls prog 154 #[.slice none 0 0,.int .i64 0,.int .i64 0,f] W λe w'=>e=.returned (.tuple #[])/\Fr [] W w':=by
 go_enter func154,ntmps154
 go_wp2
 refine wp_loop_rounds 1 ?_
 simp only[rounds_succ]
 go_wp2
 all_goals first|go_end0|((try simp only[Exit.inBlock,Exit.then]);refine bodyPost_ret (results_none U _ _ _) U ?_)
 all_goals exact⟨rfl,Fr.refl _ _⟩
theorem j2d (f:Value)(W:World):Calls prog 119 #[.slice none 0 0,.int .i64 0,.int .i64 0,.int .i64 0,f] W λe w'=>e=.returned (.tuple #[])/\Fr [] W w':=by
 go_enter func119,ntmps119
 go_wp2
 refine wp_loop_rounds 1 ?_
 simp only[rounds_succ]
 go_wp2_with (go_at_call 154;refine(u7w _ _).mono ?_;rintro e w' ⟨rfl,D⟩)
 all_goals first|go_end0|((try simp only[Exit.inBlock,Exit.then]);refine bodyPost_ret (results_none U _ _ _) U ?_)
 all_goals exact⟨rfl,D⟩
theorem u6q (W:World):Calls prog 120 #[.int .u64 0] W λe w'=>e=.returned (.int .i64 0)/\w'=W:=
 Any.bits_Len (SlLaysF0.n15.bits (P:=prog) (ρ:=sortCx_ren) { sortCx with }) (0:Int) W (by omega) (by omega)
theorem u9u (f:Value)(W:World):Calls prog 72 #[.slice none 0 0,f] W λe w'=>e=.returned (.tuple #[])/\Fr [] W w':=by
 go_enter func72,ntmps72
 go_wp2_with (first|(go_at_call 120;refine(u6q _).mono ?_;rintro e w' ⟨rfl,rfl⟩)|(go_at_call 119;refine(j2d _ _).mono ?_;rintro e w' ⟨rfl,D⟩))
 all_goals go_end0
 all_goals exact⟨rfl,D⟩
theorem j0s (f:Value)(W:World):Calls prog 166 #[.slice none 0 0,.int .i64 0,.int .i64 0,f] W λe w'=>e=.returned (.tuple #[])/\Fr [] W w':=by
 go_enter func166,ntmps166
 go_wp2
 refine wp_loop_rounds 1 ?_
 simp only[rounds_succ]
 go_wp2
 all_goals first|go_end0|((try simp only[Exit.inBlock,Exit.then]);refine bodyPost_ret (results_none U _ _ _) U ?_)
 all_goals exact⟨rfl,Fr.refl _ _⟩
theorem u9h (f:Value)(W:World):Calls prog 124 #[.slice none 0 0,.int .i64 0,.int .i64 0,.int .i64 0,f] W λe w'=>e=.returned (.tuple #[])/\Fr [] W w':=by
 go_enter func124,ntmps124
 go_wp2
 refine wp_loop_rounds 1 ?_
 simp only[rounds_succ]
 go_wp2_with (go_at_call 166;refine(j0s _ _).mono ?_;rintro e w' ⟨rfl,D⟩)
 all_goals first|go_end0|((try simp only[Exit.inBlock,Exit.then]);refine bodyPost_ret (results_none U _ _ _) U ?_)
 all_goals exact⟨rfl,D⟩
theorem j0z (W:World):Calls prog 120 #[.int .u64 0] W λe w'=>e=.returned (.int .i64 0)/\w'=W:=
 Any.bits_Len (SlLaysF0.n15.bits (P:=prog) (ρ:=sortId_ren) { sortId with }) (0:Int) W (by omega) (by omega)
theorem u7f (f:Value)(W:World):Calls prog 76 #[.slice none 0 0,f] W λe w'=>e=.returned (.tuple #[])/\Fr [] W w':=by
 go_enter func76,ntmps76
 go_wp2_with (first|(go_at_call 120;refine(j0z _).mono ?_;rintro e w' ⟨rfl,rfl⟩)|(go_at_call 124;refine(u9h _ _).mono ?_;rintro e w' ⟨rfl,D⟩))
 all_goals go_end0
 all_goals exact⟨rfl,D⟩
instance:Inhabited Cx:=⟨cx0⟩
instance:Inhabited LId:=⟨id0⟩
theorem j3i {w0:World}{T base:Nat}{v:Value}{l:List Cx}(J:Lw.Own z4v T base w0 v l)(hl:l.length<4611686018427387904)(hn:(l.map λc=>(c.a,c.b)).Nodup):Rets prog 72 #[v,.func (.func 73) #[] #[]] w0 λr w'=>r=.tuple #[]/\Lw.Own z4v T base w' v (y0v l)/\Fr (z0x v) w0 w':=
 Rets.mono (x7n (E:=z4v) (f:=72) sortCx U isAgg109 sizeOf109 x1x swoX (enters_of func73 (by kernel_rfl) U) (λx y W=>j7i x y W) (u9u _) J hl) (by
  rintro r w' ⟨rfl,l',M,O,D,I⟩
  rw[x6t hn M O]at D
  exact⟨rfl,D,I⟩)
theorem j4a {w0:World}{T base:Nat}{v:Value}{l:List LId}(J:Lw.Own z1k T base w0 v l)(hl:l.length<4611686018427387904):Rets prog 76 #[v,.func (.func 74) #[] #[]] w0 λr w'=>r=.tuple #[]/\Lw.Own z1k T base w' v (y0k l)/\Fr (z0x v) w0 w':=
 Rets.mono (x7n (E:=z1k) (f:=76) sortId U isAgg87 sizeOf87 z6k swoI (enters_of func74 (by kernel_rfl) U) (λx y W=>u6z x y W) (u7f _) J hl) (by
  rintro r w' ⟨rfl,l',M,O,D,I⟩
  rw[v4i M O]at D
  exact⟨rfl,D,I⟩)
end Go.Proofs.YtpgdchkdlgkmgaaGreatDoor
namespace Go.Proofs.YtpgdchkdlgkmgaaGreatDoor
open Go.Lw Go.G21 Go.G08 _root_.Go.Proofs.Tryz
theorem u0f (q:BdQ)(r:Int)(w0:World)(M:BdAt w0 q)(D:BdOk q.p)(hr:-4<=r/\r<=4):Rets prog 102 #[.agg #[.slice q.f.1 q.f.2.1 q.f.2.2,.slice q.b.1 q.b.2.1 q.b.2.2],.int .i64 r] w0 λv w'=>(∃g l n,l=z2f q.p r/\n=l.length/\n<=320/\v=.tuple #[.slice (some ⟨g,0,none⟩) n n,.int .i64 0]/\w0.heap.size<=g/\Lw.Own z3w 183 w0.heap.size w' (.slice (some ⟨g,0,none⟩) n n) l)/\Fr [] w0 w':=
 Rets.mono (v6c q r w0 M D hr) (by
  rintro v w' ⟨⟨g,rfl,I,J⟩,h3⟩
  have hN:=y5f D
  have O:=y0e q.p r
  have Z:(z2f q.p r).length=(v7o q.p r).length:=z4k _
  exact⟨⟨g,_,_,rfl,rfl,by omega,rfl,I,J⟩,h3⟩)
theorem j2e {l:List Hd}{ps:List LId}(hl:ps.length=l.length)(h:∀j,j<l.length->ps.getD j id0=(l.getD j hd0).id):ps=l.map Hd.id:=by
 refine List.ext_getElem (by simp[hl]) λj I J=>?_;have D:j<l.length:=by omega
 have:=h j D;rw[List.getD,List.getD,List.getElem?_eq_getElem I,List.getElem?_eq_getElem D]at this;simpa using this
set_option maxHeartbeats 2000000 in
theorem y4k (q:BdQ)(r:Int)(w0:World)(hB:BdAt w0 q)(hv:BdOk q.p)(hr:-4<=r/\r<=4):Rets prog 47 #[.agg #[.slice q.f.1 q.f.2.1 q.f.2.2,.slice q.b.1 q.b.2.1 q.b.2.2],.int .i64 r] w0 λv w'=>(∃g n,n=(z2f q.p r).length/\v=.slice (some ⟨g,0,none⟩) n n/\w0.heap.size<=g/\Lw.Own z1k 87 w0.heap.size w' v ((z2f q.p r).map Hd.id))/\Fr [] w0 w':=by
 obtain⟨⟨hf,hb⟩,h4,b1⟩:=z3k hv;refine we [(0,.agg #[.slice q.f.1 q.f.2.1 q.f.2.2,.slice q.b.1 q.b.2.1 q.b.2.2]),(1,.int .i64 r)] func47 U ntmps47 U (.c2 U U) ?_;have a3:=hB;refine sr (bx U (λg2 w1 b2 a4 q1 z1=>(asg U (nn (sr (z0k U a4 z5x (mv U ?_)))))));replace hB:=a3.ext q1;refine cl (ev2 U) (mkC func102) (u0f q _ _ hB hv hr) U ?_;rintro _ w2 ⟨⟨a2,l,n,a6,a1,b4,rfl,a9,Z⟩,q2⟩;have z2:=q2.size;have a5:=(Z.blk a2 (by simp[z0x])).2;refine mv U (xt U (xt U (asg U (asg U (kpL [(5,_)] (.cons U .nil) (nn (sr (mv U (lnS U underlying179 (z1f (m:=n) (c:=n) (id0) U z6o y4p U (λJ w3 b0 I q3 z3=>(asg U (nn (sq (sr (mv U (lnS U underlying179 (mv U (nn (bl ?_))))))))))))))))))));refine lpK (ι:=Nat×List LId) [(7,_),(19,_),(20,_)] (λp=>[(21,.int .i64 (p.1:Int))]) (λp w'=>Fr [J] w3 w'/\p.1<=n/\p.2.length=n/\Lw.Own z1k 87 w0.heap.size w' (.slice (some ⟨J,0,none⟩) n n) p.2/\(∀j,j<p.1->p.2.getD j id0=(l.getD j hd0).id)) (λp=>n-p.1) (0,List.replicate n id0) (.c4 U U U U) ⟨Fr.refl _ _,⟨Nat.zero_le _,by simp,I.low (by omega),λj hj=>absurd hj (by simp)⟩⟩ ?_;rintro⟨i,ps⟩ w4 ⟨q4,⟨hi,D,I,O⟩⟩;simp only at hi I O D;have z4:=q4.size;refine kpC [(7,_),(19,_),(20,_),(21,.int .i64 (i:Int))] (.c4 U U U U) (sr (lt' U (nn (sq (cd U (λc0=>?_) (λc0=>?_))))));refine sk (tn (sq (bl (sr (mv U ?_)))));replace Z:=(Z.ext q3).fr q4 (by intro k hk hb;simp[z0x]at hk hb;omega);refine z1a (hd0) U Z.sl U z3j z1d (λa8 a0=>?_);refine z1j U (a0 _ Z.sl) z5v (al u4b U (λg9 w5 b3 M q5 z5=>(asg U (z0i (vs:=[_,_,_,_,_]) U M z8y (λw6 M q6 z6=>(nn (rg (mv U (mv U (fad U v3j (z1q (vs:=[_,_]) U M z3t U ?_)))))))))));replace I:=(I.ext q5).fr q6 (by intro k hk hb;simp at hk;subst hk;have:=(I.blk _ hb);omega);refine z9y (p:=i) (E:=z1k) U U z6o (z5j (i:=i) (((l.getD i hd0).id)) U U I (by omega) U y3i (λw7 I q7 z7=>(kpL [(7,_),(19,_),(20,_),(21,_)] (.c4 U U U U) (nl (bn' (tn (rg (z0v U (wi6 (by omega)) (mv U (nl ?_))))))))));exact lpE ((i+1,ps.set i ((l.getD i hd0).id))) (.c4 U U U U) ⟨((Fr.refl [J] _).z4 q4 q5 q6 q7),⟨by simp only;omega,by simp only[List.length_set];exact D,I,λj hj=>by
  simp only at hj ⊢;rw[z1i (by omega)];split;rename_i e;subst e;rfl;exact O j (by omega)⟩⟩ (by simp only;omega)
 obtain rfl:i=n:=by omega
 refine ex (te (te (xh (tn (sr (mv U (asg U (kpL [(4,_)] (.cons U .nil) (nn (rt (r1 results47 U ?_)))))))))));have a7:=j2e (D.trans a1) (λj hj=>O j (by omega));subst a6;subst a7;exact⟨_,rfl,⟨J,_,a1,rfl,by omega,I⟩,(q1.z3 q2 q3 q4)⟩
theorem z9a:z3y prog 41 8:=⟨λ_=>by kernel_rfl,λ_=>by kernel_rfl⟩
theorem j5w:BuildAt prog 39 [(0,1),(1,1),(2,1),(3,1)] [(.slice none 0 0),(.slice none 0 0),(.slice none 0 0),(.slice none 0 0)]:=BuildAt.struct underlying39 (λ_=>by kernel_rfl) (λ_=>by kernel_rfl)
theorem v4f:BuildAt prog 41 [(0,1),(1,2),(3,1),(4,4)] [(.int .i64 0),(.slice none 0 0),(.slice none 0 0),(.slice none 0 0),(.slice none 0 0),(.slice none 0 0),(.slice none 0 0),(.slice none 0 0)]:=BuildAt.struct underlying41 (λ_=>by kernel_rfl) (λ_=>by kernel_rfl)
theorem j8t:BuildAt prog 109 [(0,2),(2,2),(4,1)] [(.int .u8 0),(.int .i64 0),(.int .u8 0),(.int .i64 0),(.int .i64 0)]:=BuildAt.struct underlying109 (λ_=>by kernel_rfl) (λ_=>by kernel_rfl)
theorem v9f:z1p prog 39 4:=λ_=>by kernel_rfl
theorem y1b:z1p prog 41 8:=λ_=>by kernel_rfl
theorem v9d (w:World):(zeroValue 39).run prog w=.ok (.agg #[(.slice none 0 0),(.slice none 0 0),(.slice none 0 0),(.slice none 0 0)]) w:=by kernel_rfl
theorem x2t (w:World):(zeroValue 41).run prog w=.ok (.agg #[(.int .i64 0),(.slice none 0 0),(.slice none 0 0),(.slice none 0 0),(.slice none 0 0),(.slice none 0 0),(.slice none 0 0),(.slice none 0 0)]) w:=by kernel_rfl
set_option maxHeartbeats 4000000 in
theorem x3s (wS:World)(ka:MA)(m:MQ)(w0:World)(hM:MkM τd 137 wS ka w0 m)(hi:MInv m.p)(m8:m.cr.length<=100000000):Rets prog 28 #[.pointer (some ⟨ka.gk,0,none⟩)] w0 λr w'=>∃s:StQ,r=.agg #[.int .i64 s.rk,.slice s.q.f.1 s.q.f.2.1 s.q.f.2.2,.slice s.q.b.1 s.q.b.2.1 s.q.b.2.2,.slice s.yv.1 s.yv.2.1 s.yv.2.2,.slice s.fb.t.1 s.fb.t.2.1 s.fb.t.2.2,.slice s.fb.c.1 s.fb.c.2.1 s.fb.c.2.2,.slice s.fb.h.1 s.fb.h.2.1 s.fb.h.2.2,.slice s.fb.f.1 s.fb.f.2.1 s.fb.f.2.2]/\StO τd 109 wS.heap.size w' s/\s.p=stM m.p/\Fr [] wS w':=by
 have o1:=hM.fr.size;have D:=hM.k;have n9:=D.lt;have o0:=hM.ly;have f5:=hM.lt;have i0:=hM;have m4:=(hM.t.out.blk ka.gt (by simp[z0x])).2;have m3:=hM.c.lt;have i2:=λk D=>(hM.f.blk k D).2;have m9:(crM m.cr).length=m.cr.length:=List.length_map ..;have k7:∀j,(m.ts.getD j tq0).2.length<=2048:=λj=>Nat.le_trans (u4z m.ts j) hi.all;have hfl:m.fl.length<=2048:=by have x:=hi.cnt;have y:=hi.all;have z:m.p.fa=m.fl:=rfl;rw[z]at x;omega
 refine we [(0,.pointer (some ⟨ka.gk,0,none⟩))] func28 U ntmps28 U (.cons U .nil) ?_;have a6:=hM;refine sr (al x2t U (λg2 w1 n7 J q1 z1=>(nn (sr (mv U (nlc U (fad U y2i ?_)))))));replace D:=D.ext q1;refine z0g U D U v0r ?_;replace hM:=a6.ext q1;refine j3r U hM.c underlying135 U (z1f (m:=0) (c:=(crM m.cr).length) (cx0) U v8y v4p U (λm6 w2 l9 ho q2 z2=>(asg U (kpL [(0,_),(2,_),(3,_)] (.c3 U U U) (nn (sq (sr (mv U (nlc U (fad U y2i ?_))))))))));replace D:=D.ext q2;refine z0g U D U v0r ?_;replace hM:=a6.ext (q1.n1 q2);refine u3y U hM.c underlying135 U (λj9 w3 m0 a1 q3 z3=>(nn (bl ?_)));replace ho:=ho.ext q3;refine lpK (ι:=Value×List Cx×List Cx) [(0,_),(2,_),(19,_)] (λp=>[(3,p.1)]) (λp w'=>Fr [] w1 w'/\(p.2.1++p.2.2).Perm m.cr/\Lw.Own z4v 109 w1.heap.size w' p.1 p.2.1/\CrIt w' j9 ka.gc (crM m.cr) p.2.2 none) (λp=>p.2.2.length) (_,[],m.cr) (.c4 U U U U) ⟨(q2.n1 q3),⟨List.Perm.refl _,ho.low (by omega),a1⟩⟩ ?_;rintro⟨vP,a4,rem⟩ w4 ⟨q4,⟨f0,ho,a1⟩⟩;simp only at f0 ho a1;have z4:=q4.size;refine kpC [(0,_),(2,_),(19,_),(3,vP)] (.c4 U U U U) ?_;have f7:=a1.neO ho;have k2:=a1.lt;have k6:=f0.length_eq;rw[List.length_append]at k6;refine sr (u6n U a1 U (λl1 c l2 g3 w5 a1 q5 z5=>?_) (λg3=>?_));refine xt U (nn (sq (ct U ?_)));have i8:((a4++[c])++(l1++l2)).Perm m.cr:=by
  rw[g3]at f0;refine List.Perm.trans ?_ f0;rw[List.append_assoc];exact List.Perm.append_left _ (show (c::(l1++l2)).Perm (l1++c::l2) from List.perm_middle.symm)
 refine sk (tn (bl (sr (u0o U a1 U (xt U (xt U (al j7v U (λg4 w6 n8 f9 q6 z6=>(z0i (vs:=[_,_,_,_]) U f9 u7t (λw7 f9 q7 z7=>?_))))))))));refine asg U (nn (rg (mv U (y4c U U underlying138 y3i (z1q (vs:=[_,_]) U f9 z3t U (y4c U U underlying138 y3i (z1q (vs:=[_,_]) U f9 z3t U (mv U (z1s (cs:=[_,_,_,_,_]) (ev3 U) j8t (z0h U (z0h U (z0h U z0q))) U ?_)))))))));refine z2l ([c]) (ev1 U) U v8y (λm7 w8 m1 i5 q8 z8=>?_);replace a1:=((a1.ext q6).fr q7 (by intro k D;simp at D;subst D;exact⟨by omega,by omega⟩)).ext q8;replace ho:=(((ho.fr q5 (by intro k D Z;simp at D;subst D;first|exact(f7 _ Z).2 U|(have:=ho.blk _ Z;omega))).ext q6).fr q7 (by intro k D Z;simp at D;subst D;first|exact(f7 _ Z).2 U|(have:=ho.blk _ Z;omega))).ext q8;have f8:=ho;refine z2g U ho i5.sl v8y (by unfold maxLen;simp only[List.length_cons,List.length_nil];omega) (by simp only[List.length_cons,List.length_nil];omega) (λo2 w9 ho q9 k5=>?_);have z9:=q9.size;replace a1:=a1.fr q9 (a1.neO f8);refine asg U (kpL [(0,_),(2,_),(3,_),(19,_)] (.c4 U U U U) (nl (bn' ?_)));exact lpE ((_,a4++[c],l1++l2)) (.c4 U U U U) ⟨((q4.z4 q5 q6 q7 q8).step q9 (λk D f5=>absurd (f8.blk k D).1 (by omega))),⟨i8,ho,a1.no⟩⟩ (by simp only[g3,List.length_append,List.length_cons];omega);refine xt U (nn (sq (cf U ?_)));rw[g3,List.append_nil]at f0;have k4:(a4.map λc=>(c.a,c.b)).Nodup:=(f0.map _).nodup_iff.2 (by have x:=i0.c.nodup;rwa [x1i]at x);have g5:y0v a4=y0v m.cr:=x6t (by have x:=i0.c.nodup;rwa [x1i]at x) ((z2u a4).trans f0) (y4z a4);refine ex (te (te (xh (tn (sr (mv U ?_))))));have i7:=ho;replace J:=J.ext q4;refine cl (ev2 U) (mkC func72) (j3i ho (by omega) k4) U ?_;rintro _ k8 ⟨rfl,ho,h6⟩;replace J:=J.fr h6 (λD=>by have:=(i7.blk _ D).1;omega);have p7:=h6.size;replace hM:=a6.ext ((q1.n1 q4).step h6 (λk D f5=>absurd (i7.blk k D).1 (by omega)));have D:=hM.k;refine nn (sq (sr (mv U (nlc U (fad U y2b (z0g U D U x3c (lnS U underlying35 (mv U (nn (bl ?_))))))))));refine lpK (ι:=Nat×List TQ) [(0,_),(2,_),(3,_),(39,_),(40,_)] (λp=>[(41,.int .i64 (p.1:Int))]) (λp w'=>Fr [ka.gt] k8 w'/\p.1<=6/\(∀j,(p.2.getD j tq0).2=(m.ts.getD j tq0).2)/\MkM τd 137 wS ka w' { m with ts:=p.2 }) (λp=>6-p.1) (0,m.ts) (.c6 U U U U U U) ⟨Fr.refl _ _,⟨Nat.zero_le _,λ_=>rfl,hM⟩⟩ ?_;rintro⟨i,ts⟩ o3 ⟨g7,⟨k3,d9,hM⟩⟩;simp only at k3 d9 hM;have p8:=g7.size;have a6:=hM;refine kpC [(0,_),(2,_),(3,_),(39,_),(40,_),(41,.int .i64 (i:Int))] (.c6 U U U U U U) ?_;have D:=hM.k;have g6:ts.length=6:=hM.lt;have m5:=hM.lt;refine sr (lt' U (nn (sq (cd U (λc1=>?_) (λc1=>?_)))));refine sk (tn (sq (bl (sr (mv U (z1a (tq0) U hM.t.out.sl U y7d z1d (λl8 i1=>?_)))))));refine z1g U (i1 _ hM.t.out.sl) x4i (asg U (asg U (nn ?_)));intro a h;refine z0j (some 7) (λwb w'=>Fr [] wb w') z2s ?_;intro j0 g8;have p9:=g8.size;replace hM:=hM.ext g8;replace D:=D.ext g8;have hC:Fr [] j0 j0:=Fr.refl _ _;have b4:=hM;have I:=D;refine z0e 0 h U λa h=>z0o 1 h U λa h=>z0c 2 h U y2b U λa h=>z0l 3 h U (λ_ hw=>I.ext hw) U x3c U λa h=>z0e 4 h U λa h=>z0e 5 h U λa h=>z0d 6 U ?_;refine z0m h (z0a U z0f) (mkC func75) (v4q _ (ts.getD i tq0).2 _ (hM.t.ins i (by rw[hM.lt];omega)).sl (by rw[d9 i];have:=k7 i;omega)) ?_;rintro _ o4 ⟨h9,rfl,m2,hX,g9⟩ a h;have q0:=g9.size;replace hM:=hM.ext g9;replace hC:=hC.next g9;have i4:∀j,j<6->∀b∈z0x (slv (ts.getD j tq0).1),b∉z0x (slv (((some ⟨h9,0,none⟩,(ts.getD i tq0).2.length,(ts.getD i tq0).2.length)):SV)):=λj hj b Z k0=>by have:=((a6.t.ins j (by rw[a6.lt];omega)).blk b Z).2;simp[z0x,slv]at k0;omega
 refine z0b ?_;refine z0d 7 U ?_;refine x0r (p:=i) (i:=(i:Int)) (m:=6) (E:=z4d) h U U y7d (by omega) (by omega) (by omega) U λa h=>?_;refine z0b ?_;refine z0d 8 U ?_;refine z1b (i:=i) (((some ⟨h9,0,none⟩,(ts.getD i tq0).2.length,(ts.getD i tq0).2.length),(ts.getD i tq0).2):TQ) h U hM.t.out (by rw[hM.lt];omega) U j9w λo5 h3 h7 _hz a h=>?_;replace hM:=hM.tabh mtd (by omega) (hX.low (by omega)) i4 h3 h7;have a6:=hM;clear h3;have r4:=h7.size;clear _hz;refine z1n ?_;refine z0r ?_;clear hC b4 I;refine bk (h.sub (L':=[(0,_),(2,_),(3,_),(39,_),(40,_),(41,_)]) (.c6 U U U U U U)) (bn' (tn (rg (z0v U (wi6 (by omega)) (mv U (nl ?_))))));exact lpE ((i+1,_)) (.c6 U U U U U U) ⟨((Fr.refl [ka.gt] _).z4 g7 g8 g9 h7),⟨by simp only;omega,λj=>by
  simp only;rw[z1i (by omega)];split;rename_i e;subst e;exact d9 _;exact d9 j,hM⟩⟩ (by simp only;omega)
 obtain rfl:i=6:=by omega
 refine ex (te (te (xh (tn (sr (mv U (nlc U (fad U y3f (z0g U D U z6c ?_)))))))));replace ho:=ho.fr g7 (by intro k D Z;simp at D;subst D;have:=ho.blk _ Z;omega);replace J:=J.fr g7;refine cl (z0a U (z0a U z0f)) (mkC func76) (j4a hM.f (by show m.fl.length<_;omega)) U ?_;rintro _ o6 ⟨rfl,k1,g1⟩;have r5:=g1.size;replace hM:=hM.fallS mtd (by decide) k1 g1;have a6:=hM;have D:=hM.k;replace ho:=ho.fr g1 (λk D Z=>by have:=i2 k D;have:=(ho.blk k Z).1;omega);have g0:=λk D=>(ho.blk k D).2;replace J:=J.fr g1 (λD=>by have:=i2 _ D;omega);have f3:=J;refine kpL [(0,_),(2,_),(3,_)] (.c3 U U U) (nn (sq ?_));intro a h;refine z0j none (λwb w'=>Fr [] wb w') z2s ?_;intro h8 a7;have r6:=a7.size;replace hM:=hM.ext a7;replace D:=D.ext a7;replace ho:=ho.ext a7;have hC:Fr [] h8 h8:=Fr.refl _ _;have b4:=hM;have I:=D;have f4:=ho;refine z0e 0 h U λa h=>z0o 1 h U λa h=>z0c 2 h U y2b U λa h=>z0l 3 h U (λ_ hw=>I.ext hw) U x3c U λa h=>z0e 4 h U λa h=>z0e 6 h U λa h=>z0o 7 h U λa h=>z0c 8 h U z3f U λa h=>z1e (vs:=[_,_]) 9 h U (λ_ hw=>(I.ext hw)) z5x U U λa h=>z0e 10 h U λa h=>z0o 11 h U λa h=>?_;refine z0c 12 h U z3v U λa h=>z0l 13 h U (λ_ hw=>I.ext hw) U na3 U λa h=>z0e 15 h U λa h=>z0o 16 h U λa h=>z0c 17 h U y3f U λa h=>z0l 18 h U (λ_ hw=>I.ext hw) U z6c U λa h=>z2e 5 21 (by kernel_rfl) U ?_ ?_;refine z0m h (z0a U z0f) (mkC func77) (v7i _ (y0v a4) _ ho.sl (by rw[(z2u a4).length_eq];omega)) ?_;rintro _ k9 ⟨e7,rfl,i3,O,b3⟩ a h;have r7:=b3.size;replace hM:=hM.ext b3;replace D:=D.ext b3;replace ho:=ho.ext b3;replace hC:=hC.next b3;have h4:=(O.blk e7 (by simp[z0x])).2;refine z0b ?_;refine z2e 14 21 (by kernel_rfl) U ?_ ?_;refine z0m h (z0a U (z0a U z0f)) (mkC func47) (y4k m.q m.rk _ hM.b.at hi.B hi.rk) ?_;rintro _ l0 ⟨⟨b5,i9,h2,rfl,h0,hH⟩,q18⟩ a h;have r8:=q18.size;replace hM:=hM.ext q18;replace D:=D.ext q18;replace ho:=ho.ext q18;replace O:=O.ext q18;replace hC:=hC.next q18;have h1:=(hH.blk b5 (by simp[z0x])).2;refine z0b ?_;refine z2e 19 21 (by kernel_rfl) U ?_ ?_;refine z0m h (z0a U z0f) x2y (z3x _ (y0k m.fl) _ hM.f.sl (by rw[(z2x _).length_eq];omega)) ?_;rintro _ l3 ⟨a8,rfl,f6,a0,e0⟩ a h;have r9:=e0.size;replace D:=D.ext e0;replace hC:=hC.next e0;have e9:=(a0.blk a8 (by simp[z0x])).2;refine z0b ?_;refine z3c (cs:=[_,_,_,_]) 20 h (z0a U (z0a U (z0a U (z0a U z0f)))) j5w (z0h U (z0h U (z0h U (z0h U z0q)))) U U λa h=>z0d 21 U ?_;refine z1c h v9d U λo7 M b6 hz a h=>?_;obtain⟨a9,hg⟩:∃g,g=l3.heap.size:=⟨_,rfl⟩;rw[<-hg]at M h hz;have h5.gk_8:ka.gk<a9:=by have:=D.lt;omega
 have s1:=b6.size;replace D:=D.ext b6;replace ho:=ho.ext (e0.n1 b6);replace O:=O.ext (e0.n1 b6);replace hH:=hH.ext (e0.n1 b6);replace a0:=a0.ext b6;replace hC:=hC.next b6;refine z0b ?_;refine z0d 22 U ?_;refine z0u h U M U v9f λl4 a3 b7 hz a h=>?_;have s2:=b7.size;replace D:=D.fr b7;replace ho:=ho.fr b7 (by intro k D Z;simp at D;subst D;have:=g0 _ Z;omega);replace O:=O.fr b7 (by intro k D Z;simp[z0x]at D Z;omega);replace hH:=hH.fr b7 (by intro k D Z;simp[z0x]at D Z;omega);replace a0:=a0.fr b7 (by intro k D Z;simp[z0x]at D Z;omega);replace hC:=hC.sp b7;clear M hz;have M:Blk l4 a9 _ [_,_,_,_]:=a3;clear a3;refine z0b ?_;refine z0r ?_;clear hC b4 I f4;refine bk (h.sub (L':=[(0,_),(2,_),(8,_)]) (.c3 U U U)) (tn (sq ?_));replace J:=(J.ext (a7.n4 b3 q18 e0 b6)).fr b7;intro a h;refine z0j none (λwb w'=>Fr [g2] wb w') z2s ?_;intro j1 e1;have s3:=e1.size;replace D:=D.ext e1;replace J:=J.ext e1;replace M:=M.ext e1;have hC:Fr [g2] j1 j1:=Fr.refl _ _;have I:=D;have a5:=J;have a2:=M;refine z0e 0 h U λa h=>z0o 1 h U λa h=>z0c 2 h U z3v U λa h=>z0l 3 h U (λ_ hw=>I.fr hw (by simp<;>omega)) U na3 U λa h=>z0e 4 h U λa h=>z0o 5 h U λa h=>z0c 6 h U z3f U λa h=>z1e (vs:=[_,_]) 7 h U (λ_ hw=>(I.fr hw (by simp<;>omega))) z5x U U λa h=>z0e 8 h U λa h=>z0o 9 h U λa h=>z0c 10 h U z3d U λa h=>?_;refine z0l 11 h U (λ_ hw=>I.fr hw (by simp<;>omega)) U y0q U λa h=>z0z 12 h U (λ_ hw=>a2.fr hw (by simp<;>omega)) x7e U λa h=>z3c (cs:=[_,_,_,_,_,_,_,_]) 13 h (z0a U (z0a U (z0a U (z0a U z0f)))) v4f (z0h U (z0h U (z0h U (z0h U z0q)))) U U λa h=>z0d 14 U ?_;refine z0u h U J U y1b λj2 a3 b8 hz a h=>?_;have s4:=b8.size;replace D:=D.fr b8;replace M:=M.fr b8;replace hC:=hC.sp b8;clear J hz;have J:Blk j2 g2 _ [_,_,_,_,_,_,_,_]:=a3;clear a3;refine z0b ?_;refine z0r ?_;clear hC I a5 a2;refine bk (h.sub (L':=[(2,_)]) (.cons U .nil)) (tn (rt (rC results28 U J z9a  ?_)));replace O:=(O.ext e1).fr b8 (by intro k D Z;simp[z0x]at D Z;omega);replace hH:=(hH.ext e1).fr b8 (by intro k D Z;simp[z0x]at D Z;omega);replace a0:=(a0.ext e1).fr b8 (by intro k D Z;simp[z0x]at D Z;omega);have b0:=(a7.z6 b3 q18 e0 b6 b7 e1);have b1:Fr [] _ j2:=(Fr.refl _ _);have b2:=a6.ext b0;have hW:=(b2.toW.off (f3.ext b0) (by decide) b8).ext b1;have e8:=(b2.fr.fr.step b8 (by simp;omega)).next b1;have f1:z1v ts=z1v m.ts:=y5c (g6.trans f5.symm) (λj _=>by rw[d9 j]);exact⟨_,rfl,⟨m.rk,m.q,(some ⟨ka.gy,0,none⟩,6,ka.cy),m.ys,⟨(some ⟨ka.gt,0,none⟩,6,ka.ct),(some ⟨e7,0,none⟩,_,_),(some ⟨b5,0,none⟩,_,_),(some ⟨a8,0,none⟩,_,_),ts,y0v a4,_,y0k m.fl⟩⟩,rfl,⟨hW.b,hW.y,hW.t,O.low (by omega),hH.low (by omega),a0.low (by omega)⟩,by show (⟨m.rk,m.q.p,m.ys.map YQ.p,⟨z1v ts,y0v a4,(z2f m.q.p m.rk).map Hd.id,y0k m.fl⟩⟩:St)=_;rw[f1,g5];rfl,e8⟩;refine z1c h v9d U λo8 M b9 hz a h=>?_;obtain⟨a9,hg⟩:∃g,g=l0.heap.size:=⟨_,rfl⟩;rw[<-hg]at M h hz;have h5.gk_8:ka.gk<a9:=by have:=D.lt;omega
 have s5:=b9.size;replace hM:=hM.ext b9;replace hC:=hC.next b9;refine z0b ?_;refine z0d 19 U ?_;refine z0m h (z0a U z0f) x2y (z3x _ (y0k m.fl) _ hM.f.sl (by rw[(z2x _).length_eq];omega)) ?_;rintro _ o9 ⟨a8,rfl,f6,a0,c0⟩ a h;have s6:=c0.size;replace D:=D.ext (b9.n1 c0);replace ho:=ho.ext (b9.n1 c0);replace O:=O.ext (b9.n1 c0);replace hH:=hH.ext (b9.n1 c0);replace M:=M.ext c0;replace hC:=hC.next c0;have e9:=(a0.blk a8 (by simp[z0x])).2;refine z0b ?_;refine z3c (cs:=[_,_,_,_]) 20 h (z0a U (z0a U (z0a U (z0a U z0f)))) j5w (z0h U (z0h U (z0h U (z0h U z0q)))) U U λa h=>z0d 22 U ?_;refine z0u h U M U v9f λl5 a3 c9 hz a h=>?_;have s7:=c9.size;replace D:=D.fr c9;replace ho:=ho.fr c9 (by intro k D Z;simp at D;subst D;have:=g0 _ Z;omega);replace O:=O.fr c9 (by intro k D Z;simp[z0x]at D Z;omega);replace hH:=hH.fr c9 (by intro k D Z;simp[z0x]at D Z;omega);replace a0:=a0.fr c9 (by intro k D Z;simp[z0x]at D Z;omega);replace hC:=hC.sp c9;clear M hz;have M:Blk l5 a9 _ [_,_,_,_]:=a3;clear a3;refine z0b ?_;refine z0r ?_;clear hC b4 I f4;refine bk (h.sub (L':=[(0,_),(2,_),(8,_)]) (.c3 U U U)) (tn (sq ?_));replace J:=(J.ext (a7.n4 b3 q18 b9 c0)).fr c9;intro a h;refine z0j none (λwb w'=>Fr [g2] wb w') z2s ?_;intro j3 e2;have s8:=e2.size;replace D:=D.ext e2;replace J:=J.ext e2;replace M:=M.ext e2;have hC:Fr [g2] j3 j3:=Fr.refl _ _;have I:=D;have a5:=J;have a2:=M;refine z0e 0 h U λa h=>z0o 1 h U λa h=>z0c 2 h U z3v U λa h=>z0l 3 h U (λ_ hw=>I.fr hw (by simp<;>omega)) U na3 U λa h=>z0e 4 h U λa h=>z0o 5 h U λa h=>z0c 6 h U z3f U λa h=>z1e (vs:=[_,_]) 7 h U (λ_ hw=>(I.fr hw (by simp<;>omega))) z5x U U λa h=>z0e 8 h U λa h=>z0o 9 h U λa h=>z0c 10 h U z3d U λa h=>?_;refine z0l 11 h U (λ_ hw=>I.fr hw (by simp<;>omega)) U y0q U λa h=>z0z 12 h U (λ_ hw=>a2.fr hw (by simp<;>omega)) x7e U λa h=>z3c (cs:=[_,_,_,_,_,_,_,_]) 13 h (z0a U (z0a U (z0a U (z0a U z0f)))) v4f (z0h U (z0h U (z0h U (z0h U z0q)))) U U λa h=>z0d 14 U ?_;refine z0u h U J U y1b λj4 a3 d0 hz a h=>?_;have s9:=d0.size;replace D:=D.fr d0;replace M:=M.fr d0;replace hC:=hC.sp d0;clear J hz;have J:Blk j4 g2 _ [_,_,_,_,_,_,_,_]:=a3;clear a3;refine z0b ?_;refine z0r ?_;clear hC I a5 a2;refine bk (h.sub (L':=[(2,_)]) (.cons U .nil)) (tn (rt (rC results28 U J z9a  ?_)));replace O:=(O.ext e2).fr d0 (by intro k D Z;simp[z0x]at D Z;omega);replace hH:=(hH.ext e2).fr d0 (by intro k D Z;simp[z0x]at D Z;omega);replace a0:=(a0.ext e2).fr d0 (by intro k D Z;simp[z0x]at D Z;omega);have b0:=(a7.z6 b3 q18 b9 c0 c9 e2);have b1:Fr [] _ j4:=(Fr.refl _ _);have b2:=a6.ext b0;have hW:=(b2.toW.off (f3.ext b0) (by decide) d0).ext b1;have e8:=(b2.fr.fr.step d0 (by simp;omega)).next b1;have f1:z1v ts=z1v m.ts:=y5c (g6.trans f5.symm) (λj _=>by rw[d9 j]);exact⟨_,rfl,⟨m.rk,m.q,(some ⟨ka.gy,0,none⟩,6,ka.cy),m.ys,⟨(some ⟨ka.gt,0,none⟩,6,ka.ct),(some ⟨e7,0,none⟩,_,_),(some ⟨b5,0,none⟩,_,_),(some ⟨a8,0,none⟩,_,_),ts,y0v a4,_,y0k m.fl⟩⟩,rfl,⟨hW.b,hW.y,hW.t,O.low (by omega),hH.low (by omega),a0.low (by omega)⟩,by show (⟨m.rk,m.q.p,m.ys.map YQ.p,⟨z1v ts,y0v a4,(z2f m.q.p m.rk).map Hd.id,y0k m.fl⟩⟩:St)=_;rw[f1,g5];rfl,e8⟩;refine z1c h v9d U λp0 M e3 hz a h=>?_;obtain⟨a9,hg⟩:∃g,g=k9.heap.size:=⟨_,rfl⟩;rw[<-hg]at M h hz;have h5.gk_8:ka.gk<a9:=by have:=D.lt;omega
 have t8:=e3.size;replace hM:=hM.ext e3;replace hC:=hC.next e3;refine z0b ?_;refine z0d 14 U ?_;refine z0m h (z0a U (z0a U z0f)) (mkC func47) (y4k m.q m.rk _ hM.b.at hi.B hi.rk) ?_;rintro _ p1 ⟨⟨b5,i9,h2,rfl,h0,hH⟩,q30⟩ a h;have t9:=q30.size;replace hM:=hM.ext q30;replace hC:=hC.next q30;have h1:=(hH.blk b5 (by simp[z0x])).2;refine z0b ?_;refine z0d 19 U ?_;refine z0m h (z0a U z0f) x2y (z3x _ (y0k m.fl) _ hM.f.sl (by rw[(z2x _).length_eq];omega)) ?_;rintro _ p2 ⟨a8,rfl,f6,a0,d1⟩ a h;have u0:=d1.size;replace D:=D.ext (e3.n2 q30 d1);replace ho:=ho.ext (e3.n2 q30 d1);replace O:=O.ext (e3.n2 q30 d1);replace M:=M.ext (q30.n1 d1);replace hH:=hH.ext d1;replace hC:=hC.next d1;have e9:=(a0.blk a8 (by simp[z0x])).2;refine z0b ?_;refine z3c (cs:=[_,_,_,_]) 20 h (z0a U (z0a U (z0a U (z0a U z0f)))) j5w (z0h U (z0h U (z0h U (z0h U z0q)))) U U λa h=>z0d 22 U ?_;refine z0u h U M U v9f λl6 a3 d3 hz a h=>?_;have u1:=d3.size;replace D:=D.fr d3;replace ho:=ho.fr d3 (by intro k D Z;simp at D;subst D;have:=g0 _ Z;omega);replace O:=O.fr d3 (by intro k D Z;simp[z0x]at D Z;omega);replace hH:=hH.fr d3 (by intro k D Z;simp[z0x]at D Z;omega);replace a0:=a0.fr d3 (by intro k D Z;simp[z0x]at D Z;omega);replace hC:=hC.sp d3;clear M hz;have M:Blk l6 a9 _ [_,_,_,_]:=a3;clear a3;refine z0b ?_;refine z0r ?_;clear hC b4 I f4;refine bk (h.sub (L':=[(0,_),(2,_),(8,_)]) (.c3 U U U)) (tn (sq ?_));replace J:=(J.ext (a7.n4 b3 e3 q30 d1)).fr d3;intro a h;refine z0j none (λwb w'=>Fr [g2] wb w') z2s ?_;intro j5 e4;have u2:=e4.size;replace D:=D.ext e4;replace J:=J.ext e4;replace M:=M.ext e4;have hC:Fr [g2] j5 j5:=Fr.refl _ _;have I:=D;have a5:=J;have a2:=M;refine z0e 0 h U λa h=>z0o 1 h U λa h=>z0c 2 h U z3v U λa h=>z0l 3 h U (λ_ hw=>I.fr hw (by simp<;>omega)) U na3 U λa h=>z0e 4 h U λa h=>z0o 5 h U λa h=>z0c 6 h U z3f U λa h=>z1e (vs:=[_,_]) 7 h U (λ_ hw=>(I.fr hw (by simp<;>omega))) z5x U U λa h=>z0e 8 h U λa h=>z0o 9 h U λa h=>z0c 10 h U z3d U λa h=>?_;refine z0l 11 h U (λ_ hw=>I.fr hw (by simp<;>omega)) U y0q U λa h=>z0z 12 h U (λ_ hw=>a2.fr hw (by simp<;>omega)) x7e U λa h=>z3c (cs:=[_,_,_,_,_,_,_,_]) 13 h (z0a U (z0a U (z0a U (z0a U z0f)))) v4f (z0h U (z0h U (z0h U (z0h U z0q)))) U U λa h=>z0d 14 U ?_;refine z0u h U J U y1b λj6 a3 d4 hz a h=>?_;have u3:=d4.size;replace D:=D.fr d4;replace M:=M.fr d4;replace hC:=hC.sp d4;clear J hz;have J:Blk j6 g2 _ [_,_,_,_,_,_,_,_]:=a3;clear a3;refine z0b ?_;refine z0r ?_;clear hC I a5 a2;refine bk (h.sub (L':=[(2,_)]) (.cons U .nil)) (tn (rt (rC results28 U J z9a  ?_)));replace O:=(O.ext e4).fr d4 (by intro k D Z;simp[z0x]at D Z;omega);replace hH:=(hH.ext e4).fr d4 (by intro k D Z;simp[z0x]at D Z;omega);replace a0:=(a0.ext e4).fr d4 (by intro k D Z;simp[z0x]at D Z;omega);have b0:=(a7.z6 b3 e3 q30 d1 d3 e4);have b1:Fr [] _ j6:=(Fr.refl _ _);have b2:=a6.ext b0;have hW:=(b2.toW.off (f3.ext b0) (by decide) d4).ext b1;have e8:=(b2.fr.fr.step d4 (by simp;omega)).next b1;have f1:z1v ts=z1v m.ts:=y5c (g6.trans f5.symm) (λj _=>by rw[d9 j]);exact⟨_,rfl,⟨m.rk,m.q,(some ⟨ka.gy,0,none⟩,6,ka.cy),m.ys,⟨(some ⟨ka.gt,0,none⟩,6,ka.ct),(some ⟨e7,0,none⟩,_,_),(some ⟨b5,0,none⟩,_,_),(some ⟨a8,0,none⟩,_,_),ts,y0v a4,_,y0k m.fl⟩⟩,rfl,⟨hW.b,hW.y,hW.t,O.low (by omega),hH.low (by omega),a0.low (by omega)⟩,by show (⟨m.rk,m.q.p,m.ys.map YQ.p,⟨z1v ts,y0v a4,(z2f m.q.p m.rk).map Hd.id,y0k m.fl⟩⟩:St)=_;rw[f1,g5];rfl,e8⟩;refine z1c h v9d U λp3 M f2 hz a h=>?_;obtain⟨a9,hg⟩:∃g,g=h8.heap.size:=⟨_,rfl⟩;rw[<-hg]at M h hz;have h5.gk_8:ka.gk<a9:=by have:=D.lt;omega
 have u4:=f2.size;replace ho:=ho.ext f2;replace hC:=hC.next f2;refine z0b ?_;refine z0d 5 U ?_;refine z0m h (z0a U z0f) (mkC func77) (v7i _ (y0v a4) _ ho.sl (by rw[(z2u a4).length_eq];omega)) ?_;rintro _ p4 ⟨e7,rfl,i3,O,e5⟩ a h;have u5:=e5.size;replace hM:=hM.ext (f2.n1 e5);replace hC:=hC.next e5;have h4:=(O.blk e7 (by simp[z0x])).2;refine z0b ?_;refine z0d 14 U ?_;refine z0m h (z0a U (z0a U z0f)) (mkC func47) (y4k m.q m.rk _ hM.b.at hi.B hi.rk) ?_;rintro _ p5 ⟨⟨b5,i9,h2,rfl,h0,hH⟩,q37⟩ a h;have u6:=q37.size;replace hM:=hM.ext q37;replace hC:=hC.next q37;have h1:=(hH.blk b5 (by simp[z0x])).2;refine z0b ?_;refine z0d 19 U ?_;refine z0m h (z0a U z0f) x2y (z3x _ (y0k m.fl) _ hM.f.sl (by rw[(z2x _).length_eq];omega)) ?_;rintro _ p6 ⟨a8,rfl,f6,a0,d5⟩ a h;have u7:=d5.size;replace D:=D.ext (f2.n3 e5 q37 d5);replace ho:=ho.ext (e5.n2 q37 d5);replace M:=M.ext (e5.n2 q37 d5);replace O:=O.ext (q37.n1 d5);replace hH:=hH.ext d5;replace hC:=hC.next d5;have e9:=(a0.blk a8 (by simp[z0x])).2;refine z0b ?_;refine z3c (cs:=[_,_,_,_]) 20 h (z0a U (z0a U (z0a U (z0a U z0f)))) j5w (z0h U (z0h U (z0h U (z0h U z0q)))) U U λa h=>z0d 22 U ?_;refine z0u h U M U v9f λl7 a3 d6 hz a h=>?_;have u9:=d6.size;replace D:=D.fr d6;replace ho:=ho.fr d6 (by intro k D Z;simp at D;subst D;have:=g0 _ Z;omega);replace O:=O.fr d6 (by intro k D Z;simp[z0x]at D Z;omega);replace hH:=hH.fr d6 (by intro k D Z;simp[z0x]at D Z;omega);replace a0:=a0.fr d6 (by intro k D Z;simp[z0x]at D Z;omega);replace hC:=hC.sp d6;clear M hz;have M:Blk l7 a9 _ [_,_,_,_]:=a3;clear a3;refine z0b ?_;refine z0r ?_;clear hC b4 I f4;refine bk (h.sub (L':=[(0,_),(2,_),(8,_)]) (.c3 U U U)) (tn (sq ?_));replace J:=(J.ext (a7.n4 f2 e5 q37 d5)).fr d6;intro a h;refine z0j none (λwb w'=>Fr [g2] wb w') z2s ?_;intro j7 e6;have v8:=e6.size;replace D:=D.ext e6;replace J:=J.ext e6;replace M:=M.ext e6;have hC:Fr [g2] j7 j7:=Fr.refl _ _;have I:=D;have a5:=J;have a2:=M;refine z0e 0 h U λa h=>z0o 1 h U λa h=>z0c 2 h U z3v U λa h=>z0l 3 h U (λ_ hw=>I.fr hw (by simp<;>omega)) U na3 U λa h=>z0e 4 h U λa h=>z0o 5 h U λa h=>z0c 6 h U z3f U λa h=>z1e (vs:=[_,_]) 7 h U (λ_ hw=>(I.fr hw (by simp<;>omega))) z5x U U λa h=>z0e 8 h U λa h=>z0o 9 h U λa h=>z0c 10 h U z3d U λa h=>?_;refine z0l 11 h U (λ_ hw=>I.fr hw (by simp<;>omega)) U y0q U λa h=>z0z 12 h U (λ_ hw=>a2.fr hw (by simp<;>omega)) x7e U λa h=>z3c (cs:=[_,_,_,_,_,_,_,_]) 13 h (z0a U (z0a U (z0a U (z0a U z0f)))) v4f (z0h U (z0h U (z0h U (z0h U z0q)))) U U λa h=>z0d 14 U ?_;refine z0u h U J U y1b λj8 a3 d7 hz a h=>?_;have v9:=d7.size;replace D:=D.fr d7;replace M:=M.fr d7;replace hC:=hC.sp d7;clear J hz;have J:Blk j8 g2 _ [_,_,_,_,_,_,_,_]:=a3;clear a3;refine z0b ?_;refine z0r ?_;clear hC I a5 a2;refine bk (h.sub (L':=[(2,_)]) (.cons U .nil)) (tn (rt (rC results28 U J z9a  ?_)));replace O:=(O.ext e6).fr d7 (by intro k D Z;simp[z0x]at D Z;omega);replace hH:=(hH.ext e6).fr d7 (by intro k D Z;simp[z0x]at D Z;omega);replace a0:=(a0.ext e6).fr d7 (by intro k D Z;simp[z0x]at D Z;omega);have b0:=(a7.z6 f2 e5 q37 d5 d6 e6);have b1:Fr [] _ j8:=(Fr.refl _ _);have b2:=a6.ext b0;have hW:=(b2.toW.off (f3.ext b0) (by decide) d7).ext b1;have e8:=(b2.fr.fr.step d7 (by simp;omega)).next b1;have f1:z1v ts=z1v m.ts:=y5c (g6.trans f5.symm) (λj _=>by rw[d9 j]);exact⟨_,rfl,⟨m.rk,m.q,(some ⟨ka.gy,0,none⟩,6,ka.cy),m.ys,⟨(some ⟨ka.gt,0,none⟩,6,ka.ct),(some ⟨e7,0,none⟩,_,_),(some ⟨b5,0,none⟩,_,_),(some ⟨a8,0,none⟩,_,_),ts,y0v a4,_,y0k m.fl⟩⟩,rfl,⟨hW.b,hW.y,hW.t,O.low (by omega),hH.low (by omega),a0.low (by omega)⟩,by show (⟨m.rk,m.q.p,m.ys.map YQ.p,⟨z1v ts,y0v a4,(z2f m.q.p m.rk).map Hd.id,y0k m.fl⟩⟩:St)=_;rw[f1,g5];rfl,e8⟩
theorem v5t (w0:World):Rets prog 78 #[] w0 λr w'=>(∃g,r=(.slice (some ⟨g,0,none⟩) 6 6)/\w0.heap.size<=g/\Lw.Own z4d 46 w0.heap.size w' (.slice (some ⟨g,0,none⟩) 6 6) (List.replicate 6 tq0))/\Fr [] w0 w':=by
 refine we [] func78 U ntmps78 U .nil (sr (asg U (nn (sr (z1f (m:=6) (c:=6) (tq0) U y7d zv46 U (λD w1 I J M z1=>(asg U (nn (rt (r1 results78 U ?_))))))))));exact⟨_,rfl,⟨D,rfl,by omega,J.low (by omega)⟩,M⟩
theorem x2h (w0:World):Rets prog 29 #[] w0 λr w'=>(∃g,r=.agg #[(.slice (some ⟨g,0,none⟩) 6 6),.slice none 0 0,.slice none 0 0,.slice none 0 0]/\w0.heap.size<=g/\Lw.Own z4d 46 w0.heap.size w' (.slice (some ⟨g,0,none⟩) 6 6) (List.replicate 6 tq0))/\Fr [] w0 w':=by
 refine we [] func29 U ntmps29 U .nil (sr (al v9d U (λg0 w1 Z D q1 z1=>(nn (sr (cl z0f (mkC func78) (v5t _) U ?_))))));rintro _ w2 ⟨⟨M,rfl,a0,I⟩,q2⟩;refine z1s (cs:=[_,_,_,_]) (ev1 U) j5w (z0h U z0q) U ?_;replace D:=D.ext q2;refine z0i U D v9f (λw3 D J z3=>?_) (hl:=rfl);refine nn (rt (rC results29 U D x7e  ?_));replace I:=I.fr J (by intro k hk O;simp[z0x]at hk O;omega);exact⟨_,rfl,⟨M,rfl,by omega,I.low (by omega)⟩,(q1.z2 q2 J)⟩
abbrev st0 (gy gt:Nat):StQ:=(⟨0,⟨sv0,sv0,[],[]⟩,(some ⟨gy,0,none⟩,6,6),List.replicate 6 yq0,⟨(some ⟨gt,0,none⟩,6,6),sv0,sv0,sv0,List.replicate 6 tq0,[],[],[]⟩⟩:StQ)
theorem j4y {w:World}{J I b:Nat}(hy:Lw.Own z2v 82 b w (.slice (some ⟨J,0,none⟩) 6 6) (List.replicate 6 yq0))(ht:Lw.Own z4d 46 b w (.slice (some ⟨I,0,none⟩) 6 6) (List.replicate 6 tq0)):StO τd 109 b w (st0 J I):=by
 have Z:∀i,(st0 J I).ys.getD i yq0=yq0:=λi=>by
  show (List.replicate 6 yq0).getD i yq0=yq0;rw[List.getD,List.getElem?_replicate];split<;>rfl
 have M:∀i,(st0 J I).fb.ts.getD i tq0=tq0:=λi=>by
  show (List.replicate 6 tq0).getD i tq0=tq0;rw[List.getD,List.getElem?_replicate];split<;>rfl
 refine⟨⟨⟨Own.nil w,λq D=>(by cases D)⟩,⟨Own.nil w,λq D=>(by cases D)⟩⟩,⟨hy,λi _=>?_⟩,⟨ht,λi _=>?_,λi j _ _ _ k O=>?_,λi _ q D=>?_⟩,Own.nil w,Own.nil w,Own.nil w⟩;rw[Z i];exact Own.nil w;rw[M i];exact Own.nil w;rw[M i]at O;cases O;rw[M i]at D;cases D
theorem j8y (M J:Nat):(st0 M J).p=G08.stM G08.start:=by
 have D:y0v []=[]:=by unfold y0v;simp
 have I:y0k []=[]:=by unfold y0k;simp
 show _=(⟨0,⟨[],[]⟩,List.replicate 6 yn0,⟨List.replicate 6 [],y0v [],(z2f ⟨[],[]⟩ 0).map Hd.id,y0k []⟩⟩:St);rw[D,I];rfl
theorem j4g (J I:Nat):StSz (st0 J I):=by
 refine⟨Nat.zero_le _,Nat.zero_le _,λq D=>(by cases D),λq D=>(by cases D),rfl,rfl,λi=>?_,λp M=>?_,Nat.zero_le _,Nat.zero_le _,Nat.zero_le _⟩;have e:(st0 J I).ys.getD i yq0=yq0:=by
  show (List.replicate 6 yq0).getD i yq0=yq0;rw[List.getD,List.getElem?_replicate];split<;>rfl
 rw[e];exact Nat.zero_le _;rw[List.eq_of_mem_replicate M];exact⟨Nat.zero_le _,λq D=>by cases D⟩
theorem y8a (w0:World):Rets prog 10 #[] w0 λr w'=>(∃J I,r=.agg #[.int .i64 (st0 J I).rk,.slice (st0 J I).q.f.1 (st0 J I).q.f.2.1 (st0 J I).q.f.2.2,.slice (st0 J I).q.b.1 (st0 J I).q.b.2.1 (st0 J I).q.b.2.2,.slice (st0 J I).yv.1 (st0 J I).yv.2.1 (st0 J I).yv.2.2,.slice (st0 J I).fb.t.1 (st0 J I).fb.t.2.1 (st0 J I).fb.t.2.2,.slice (st0 J I).fb.c.1 (st0 J I).fb.c.2.1 (st0 J I).fb.c.2.2,.slice (st0 J I).fb.h.1 (st0 J I).fb.h.2.1 (st0 J I).fb.h.2.2,.slice (st0 J I).fb.f.1 (st0 J I).fb.f.2.1 (st0 J I).fb.f.2.2]/\StO τd 109 w0.heap.size w' (st0 J I))/\Fr [] w0 w':=by
 refine we [] func10 U ntmps10 U .nil (sr (al x2t U (λg0 w1 a4 D q1 z1=>(nn (sq ?_)))));intro a h;refine z0j none (λwb w'=>Fr [g0] wb w') z2s ?_;intro w2 q2;have z2:=q2.size;replace D:=D.ext q2;have hC:Fr [g0] w2 w2:=Fr.refl _ _;have M:=D;refine z2e 0 1 (by kernel_rfl) U ?_ ?_;refine z9n (m:=6) (c:=6) (yq0) h U U y0y y1y U (by omega) (by omega) U λg1 w3 a0 hy q3 _hz a h=>?_;have z3:=q3.size;replace hC:=hC.next q3;have a3:=(hy.blk g1 (by simp[z0x])).2;refine z0b ?_;refine z0d 1 U ?_;refine z0m h z0f (mkC func29) (x2h _) ?_;rintro _ w4 ⟨⟨g2,rfl,a1,Z⟩,q4⟩ a h;have z4:=q4.size;replace D:=D.ext (q3.n1 q4);replace hy:=hy.ext q4;replace hC:=hC.next q4;have a2:=(Z.blk g2 (by simp[z0x])).2;refine z0b ?_;refine z3c (cs:=[_,_,_,_,_,_,_,_]) 2 h (z0a U (z0a U z0f)) v4f (z0h U (z0h U z0q)) U U λa h=>z0d 3 U ?_;refine z0u h U D U y1b λw5 O q5 hz a h=>?_;have z5:=q5.size;replace hy:=hy.fr q5 (by intro k hk hb;simp[z0x]at hk hb;omega);replace Z:=Z.fr q5 (by intro k hk hb;simp[z0x]at hk hb;omega);replace hC:=hC.sp q5;clear D hz;have D:Blk w5 g0 _ [_,_,_,_,_,_,_,_]:=O;clear O;refine z0b ?_;refine z0r ?_;clear hC M;refine bk (h.sub (L':=[(0,_)]) (.cons U .nil)) (tn (rt (rC results10 U D z9a  ?_)));exact⟨_,rfl,⟨g1,g2,rfl,j4y (hy.low (by omega)) (Z.low (by omega))⟩,(q1.z4 q2 q3 q4 q5)⟩;refine z0m h z0f (mkC func29) (x2h _) ?_;rintro _ w6 ⟨⟨g2,rfl,a1,Z⟩,q6⟩ a h;have z6:=q6.size;replace hC:=hC.next q6;have a2:=(Z.blk g2 (by simp[z0x])).2;refine z0b ?_;refine z0d 0 U ?_;refine z9n (m:=6) (c:=6) (yq0) h U U y0y y1y U (by omega) (by omega) U λg1 w7 a0 hy q7 _hz a h=>?_;have z7:=q7.size;replace D:=D.ext (q6.n1 q7);replace Z:=Z.ext q7;replace hC:=hC.next q7;have a3:=(hy.blk g1 (by simp[z0x])).2;refine z0b ?_;refine z3c (cs:=[_,_,_,_,_,_,_,_]) 2 h (z0a U (z0a U z0f)) v4f (z0h U (z0h U z0q)) U U λa h=>z0d 3 U ?_;refine z0u h U D U y1b λw8 O q8 hz a h=>?_;have z8:=q8.size;replace Z:=Z.fr q8 (by intro k hk hb;simp[z0x]at hk hb;omega);replace hy:=hy.fr q8 (by intro k hk hb;simp[z0x]at hk hb;omega);replace hC:=hC.sp q8;clear D hz;have D:Blk w8 g0 _ [_,_,_,_,_,_,_,_]:=O;clear O;refine z0b ?_;refine z0r ?_;clear hC M;refine bk (h.sub (L':=[(0,_)]) (.cons U .nil)) (tn (rt (rC results10 U D z9a  ?_)));exact⟨_,rfl,⟨g1,g2,rfl,j4y (hy.low (by omega)) (Z.low (by omega))⟩,(q1.z4 q2 q6 q7 q8)⟩
theorem y5g (w0:World):Rets prog 10 #[] w0 λr w'=>(∃I D,r=.agg #[.int .i64 (st0 I D).rk,.slice (st0 I D).q.f.1 (st0 I D).q.f.2.1 (st0 I D).q.f.2.2,.slice (st0 I D).q.b.1 (st0 I D).q.b.2.1 (st0 I D).q.b.2.2,.slice (st0 I D).yv.1 (st0 I D).yv.2.1 (st0 I D).yv.2.2,.slice (st0 I D).fb.t.1 (st0 I D).fb.t.2.1 (st0 I D).fb.t.2.2,.slice (st0 I D).fb.c.1 (st0 I D).fb.c.2.1 (st0 I D).fb.c.2.2,.slice (st0 I D).fb.h.1 (st0 I D).fb.h.2.1 (st0 I D).fb.h.2.2,.slice (st0 I D).fb.f.1 (st0 I D).fb.f.2.1 (st0 I D).fb.f.2.2]/\StAt w' (st0 I D))/\Fr [] w0 w':=
 Rets.mono (y8a w0) (by rintro r w' ⟨⟨I,D,h,J⟩,hf⟩;exact⟨⟨I,D,h,J.at⟩,hf⟩)
theorem x5d {α:Type}{D I:List α}(d:α)(hl:D.length=I.length)(h:∀j,j<D.length->D.getD j d=I.getD j d):D=I:=by
 refine List.ext_getElem hl λj J M=>?_;have:=h j J;rwa [List.getD,List.getD,List.getElem?_eq_getElem J,List.getElem?_eq_getElem M]at this
theorem y5k (v1 v2:Value)(M l2:List LId)(w0:World)(h1:Sl z1k w0 v1 M)(O:Sl z1k w0 v2 l2)(hl:M.length<=100000):Rets prog 46 #[v1,v2] w0 λr w'=>r=.bool (decide (M=l2))/\Fr [] w0 w':=by
 obtain⟨A1,k1,rfl,a5⟩:=id h1.form;obtain⟨A2,k2,rfl,a6⟩:=id O.form;refine we [(0,.slice A1 M.length k1),(1,.slice A2 l2.length k2)] func46 U ntmps46 U (.c2 U U) ?_;have a1:=h1;have a2:=O;refine sr (asg U (nn (sq (sr (mv U (lnS U underlying37 (mv U (lnS U underlying37 (ne' U (nn (cd U (λc0=>?_) (λc0=>?_))))))))))));refine sr (asg U (nn (rt (tr (r1 results46 U ?_)))));exact⟨_,rfl,congrArg Value.bool (decide_eq_false (λe=>c0 (by rw[e]))).symm,(Fr.refl _ _)⟩;refine sk (tn (sq (sr (mv U (lnS U underlying37 (mv U (nn (bl ?_))))))));refine lpK (ι:=Nat) [(0,_),(1,_),(12,_)] (λi=>[(13,.int .i64 (i:Int))]) (λi w'=>Fr [] w0 w'/\i<=M.length/\∀j,j<i->M.getD j id0=l2.getD j id0) (λi=>M.length-i) 0 (.c4 U U U U) ⟨Fr.refl _ _,⟨Nat.zero_le _,λj h=>absurd h (by omega)⟩⟩ ?_;rintro i w1 ⟨q1,⟨hi,hz⟩⟩;refine kpC [(0,_),(1,_),(12,_),(13,_)] (.c4 U U U U) (sr (lt' U (nn (sq (cd U (λc1=>?_) (λc1=>?_))))));refine sk (tn (sq (bl (sr (mv U (asg U (nn (sq ?_))))))));replace h1:=a1.ext q1;replace O:=a2.ext q1;intro a h;have D:=Fr.refl [] w1;refine z2w (λwb w'=>Fr [] wb w') z2s ?_;intro w2 hq;replace h1:=h1.ext hq;replace O:=O.ext hq;replace D:=D.next hq;have a7:=hq.size;clear hq;have hC:Fr [] w2 w2:=Fr.refl _ _;have I:=h1;have J:=O;refine z0e 0 h U λa h=>z0e 1 h U λa h=>z1h (id0) 2 h U h1 U z6o U ?_ (hp:=rfl);clear h a;intro a3 Z a h;refine z2c 3 h wn U (λ_ hw=>Z _ (I.ext hw)) z3t U λa h=>z0e 4 h U λa h=>z0e 5 h U λa h=>z1h (id0) 6 h U O U z6o U ?_ (hp:=rfl);clear h a;intro a4 a0 a h;refine z2c 7 h wn U (λ_ hw=>a0 _ (J.ext hw)) z3t U λa h=>v2l (V:=idV) (e:=_) (f:=_) 8 hC h wn U U eqId U U λa h=>z0r ?_;clear hC I J;refine bk (h.sub (L':=[(0,_),(1,_),(12,_),(13,_),(24,_)]) (.c5 U U U U U)) (tn (cd U (λc2=>?_) (λc2=>?_)));refine sr (asg U (nn (rt (rb (tr (tr (rb (tr (r1 results46 U ?_)))))))));exact⟨_,rfl,congrArg Value.bool (decide_eq_false (λe=>c2 (by rw[e]))).symm,(q1.n1 D)⟩;refine sk (bn' (tn (rg (z0v U (wi6 (by omega)) (mv U (nl ?_))))));exact lpE (i+1) (.c4 U U U U) ⟨(q1.n1 D),⟨by omega,λj h=>by
  by_cases e:j=i;subst e;exact Classical.not_not.1 c2;exact hz j (by omega)⟩⟩ (by omega)
 obtain rfl:i=M.length:=by omega
 refine ex (te (te (xh (tn (sr (asg U (nn (rt (r1 results46 U ?_)))))))));exact⟨_,rfl,congrArg Value.bool (decide_eq_true (x5d id0 (by omega) (λj hj=>hz j (by omega)))).symm,q1⟩
end Go.Proofs.YtpgdchkdlgkmgaaGreatDoor
