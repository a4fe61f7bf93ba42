/- Texts of the proof, joined. -/
import Derived.Test.YtjilcnmaefhmeaaGreatDoorRows
import Derived.Shelf.SlSortCmp.WholeK
import Derived.Deep.RegionHeld3
import Derived.WalkKit
import Derived.Shelf.SlGeneric
import Derived.Ground.SlsfProg
import Derived.Test.YtjilcnmaefhmeaaGreatDoorProg
import Derived.Test.YtjilcnmaefhmeaaGreatDoorZF4
set_option linter.unusedVariables false
set_option linter.unusedSimpArgs false
set_option maxHeartbeats 4000000
namespace Go.Proofs.YtjilcnmaefhmeaaGreatDoor
open Go.Lw Go.G21 Go.G08 _root_.Go.Proofs.Tryz
theorem u5q:z3o prog 184 4:=⟨λ_=>kr,λ_=>kr⟩
theorem u7h:BuildAt prog 184 [(0,2),(2,2)] [(.int .u8 0),(.int .i64 0),(.int .u8 0),(.int .i64 0)]:=BuildAt.array (sz:=2) underlying184 (λ_=>kr) (λ_=>kr) (λi q h=>by match i,h with|0,h=>simpa using h.symm|1,h=>simpa using h.symm|(k+2),h=>simp at h)
theorem j4j:CallOf prog 69:=mkC func69
theorem y2g:z0x prog 183 4 5:=λ_ _=>kr
theorem x5c:z0x prog 292 0 0:=λ_ _=>kr
theorem x4k:z0x prog 292 1 2:=λ_ _=>kr
theorem u6l:z0x prog 292 2 4:=λ_ _=>kr
theorem x9s:z2c prog 181:=λ_=>kr
theorem u8e:z1r prog 184 4:=λ_=>kr
theorem j7a (w:World):(zeroValue 184).run prog w=.ok (.agg #[(.int .u8 0),(.int .i64 0),(.int .u8 0),(.int .i64 0)]) w:=kr
theorem k0d (p q:LId×LId)(w:World):(Op.equal 184 (crK p) (crK q)).run prog w=.ok (decide (p=q)) w:=by
 obtain⟨⟨O,n1⟩,⟨Z,n2⟩⟩:=p;obtain⟨⟨y3,n3⟩,⟨y4,n4⟩⟩:=q;have D:prog.stoodInHeld 73=false:=by kernel_rfl
 have I:(sizeOf 73).run prog w=.ok 2 w:=by kernel_rfl
 unfold crK Op.equal Op.maxDepth Op.equalIn;simp only[Sem.run_bind,run_underlying underlying184,Result.andThen_ok,I];have J:∀a b c d:Value,(part 73 #[a,b,c,d] (0*2)).run prog w=.ok (.agg #[a,b]) w:=λa b c d=>by kernel_rfl
 have M:∀a b c d:Value,(part 73 #[a,b,c,d] (1*2)).run prog w=.ok (.agg #[c,d]) w:=λa b c d=>by kernel_rfl
 rw[Std.Legacy.Range.forIn_eq_forIn_range'];simp[List.range',List.forIn_cons,J,M,go_sem,D,underlying73];(repeat' split)<;>simp_all
theorem x8r:KeyLaw prog 184 crK:=KeyLaw.asking underlying184 (λ_ _=>rfl) (λ_ _ _=>kr) k0d (λ_=>by simp[crK,Instr.sameBits])
theorem zvI2 (w:World):(zeroValue 3).run prog w=.ok (.int .i64 0) w:=kr
theorem j0l (wS:World)(ka:MA)(m:MQ)(c:Cx)(w0:World)(hM:MkM τd 183 wS ka w0 m)(a6:∀x∈m.cr,-1048576<=x.n/\x.n<=1048576)(a7:-1<=c.n/\c.n<=1):Rets prog 198 #[.pointer (some ⟨ka.gk,0,none⟩),.agg #[.int .u8 c.a.y,.int .i64 c.a.n,.int .u8 c.b.y,.int .i64 c.b.n,.int .i64 c.n]] w0 λr w'=>MRet τd 183 wS ka (j1s m.p c) r w':=by
 have b4:=hM.fr.size;have hk:=hM.k;have b3:=hk.lt;have b0:=u0s (a:=(z5t c).1) (b:=(z5t c).2) a6;refine we [(0,.pointer (some ⟨ka.gk,0,none⟩)),(1,.agg #[.int .u8 c.a.y,.int .i64 c.a.n,.int .u8 c.b.y,.int .i64 c.b.n,.int .i64 c.n])] func198 U ntmps198 U (.c2 U U) ?_;have a5:=hM;refine sr (bx U (λg3 w1 a8 J q1 z1=>?_));refine asg U (nn (sr (fad U x5c (z1w (vs:=[_,_]) U J z2w U (fad U x4k (z1w (vs:=[_,_]) U J z2w U (z1p (cs:=[_,_,_,_]) (ev2 U) u7h (z0f U (z0f U z0p)) U ?_)))))));refine al j7a U (λg5 w2 a9 D q2 z2=>(z0k (vs:=[_,_,_,_]) U D u8e (λw3 D q3 z3=>(nn (jn (ι:=Unit) [(0,_),(3,_),(5,_)] (λ_j=>[]) (λ_j w'=>Fr [g5] w3 w'/\Blk w' g5 184 [.int .u8 (z5t c).1.y,.int .i64 (z5t c).1.n,.int .u8 (z5t c).2.y,.int .i64 (z5t c).2.n]) (.c3 U U U) ?_ ?_)))));refine sr (fad U x5c ?_);replace J:=(J.ext q2).fr q3;refine z1w (vs:=[_,_]) U J z2w U (fad U x4k (z1w (vs:=[_,_]) U J z2w U (cl (ev2 U) j4j (y1d ⟨_,_⟩ ⟨_,_⟩ _) U ?_)));rintro _ w4 ⟨rfl,q4⟩;refine gt' U (nn (cd U (λc0=>?_) (λc0=>?_)));refine rg (fad U x4k ?_);replace J:=J.ext q4;refine z1w (vs:=[_,_]) U J z2w U (fad U x5c (z1w (vs:=[_,_]) U J z2w U (z1p (cs:=[_,_,_,_]) (ev2 U) u7h (z0f U (z0f U z0p)) U ?_)));replace D:=D.ext q4;exact z0k (vs:=[_,_,_,_]) U D u8e (λw5 D q5 z5=>(kpL [(0,_),(3,_),(5,_)] (.c3 U U U) (nl (jE (()) (.c3 U U U) ⟨((Fr.refl [g5] _).z2 q4 q5),(by rw[show z5t c=(c.b,c.a) from if_pos c0];exact D)⟩))));refine sk ?_;replace D:=D.ext q4;exact jE (()) (.c3 U U U) ⟨((Fr.refl [g5] _).n1 q4),(by rw[show z5t c=(c.a,c.b) from if_neg c0];exact D)⟩;rintro _j w6 ⟨q6,D⟩;have a4:=D.lt;refine kpC [(0,_),(3,_),(5,_)] (.c3 U U U) (sq ?_);replace hM:=a5.ext (q1.z3 q2 q3 q6);replace hk:=((hk.ext (q1.n1 q2)).fr q3).fr q6;replace J:=((J.ext q2).fr q3).fr q6;intro a h;refine z0h none (λwb w'=>Fr [] wb w') z2m ?_;intro w7 q7;replace hM:=hM.ext q7;replace hk:=hk.ext q7;replace J:=J.ext q7;replace D:=D.ext q7;have hC:Fr [] w7 w7:=Fr.refl _ _;have O:=hM;have M:=hk;have a0:=J;have I:=D;refine z0e 0 h U λa h=>z0l 1 h U λa h=>z0c 2 h U y2g U λa h=>z0j 3 h U (λ_ Z=>M.ext Z) U x9s U λa h=>z0v 4 h U (λ_ Z=>I.ext Z) u5q U λa h=>z0c 6 h U u6l U λa h=>z0j 7 h U (λ_ Z=>a0.ext Z) U na3 U λa h=>z0d 5 U (z6k (V:=crK) (k:=z5t c) (f:=z1h (crM m.cr)) h U U hM.c.f x8r underlying181 zvI2 (v1t (z5t c).1 (z5t c).2 m.cr) U λa h=>?_);refine z0b (z4m 8 h U (by first|exact i6 oo|rfl) U λa h=>z0d 9 U (z0s h U λa h=>?_));refine z0b (z0q ?_);clear hC O M a0 I;refine bk (h.sub (L':=[(0,_),(5,_),(6,_)]) (.c3 U U U)) (tn (sq (sq (rbo (r:=37) (L':=[(0,_),(5,_),(6,_)]) (((((y6g m.cr (z5t c).1 (z5t c).2)+c.n) < -1048576)\/(1048576<((y6g m.cr (z5t c).1 (z5t c).2)+c.n)))) (.c3 U U U) ?_ ?_))));refine mv U U (lt' U (mv U U (gs 34 U (λg0=>?_) (λg0=>?_))));exact gN U (gN U (pkt U (rbe U (.c3 U U U))));exact gY U (mv U U (gY U (gt' U (pkf U (rbe U (.c3 U U U))))));refine tn (cd U (λc1=>?_) (λc1=>?_));exact sr (asg U (nn (rt (tr (r1 results198 U ⟨_,rfl,MRet.err (by rw[x5y,if_pos c1]) dd hM.fr⟩)))));refine sk (tn (sq (sr (mv U U (eq' U (nn (cd U (λc2=>?_) (λc2=>?_))))))));intro a h;refine z0h (some 5) (λwb w'=>Fr [] wb w') z2m ?_;intro w8 q8;replace hM:=hM.ext q8;replace hk:=hk.ext q8;replace D:=D.ext q8;have hC:Fr [] w8 w8:=Fr.refl _ _;have O:=hM;have M:=hk;have I:=D;refine z0e 0 h U λa h=>z0l 1 h U λa h=>z0c 2 h U y2g U λa h=>z0j 3 h U (λ_ Z=>M.ext Z) U x9s U λa h=>z0v 4 h U (λ_ Z=>I.ext Z) u5q U λa h=>z0d 5 U (u9z (V:=crK) (k:=z5t c) h U U hM.c x8r underlying181 U λw9 a1 hq _hz a h=>?_);replace hM:=hM.cross (l:=v5d m.cr (z5t c).1 (z5t c).2) (by rw[v5o _ _ _ hM.c.nodup];exact a1) hq;refine z1m (z0q ?_);clear hC O M I;exact bk (h.sub (L':=[]) .nil) (tn (sr (asg U (nn (rt (r1 results198 U ⟨_,rfl,MRet.ok (by rw[x5y,if_neg c1,if_pos c2]) hM⟩))))));intro a h;refine z0h (some 6) (λwb w'=>Fr [] wb w') z2m ?_;intro a3 a2;replace hM:=hM.ext a2;replace hk:=hk.ext a2;replace D:=D.ext a2;have hC:Fr [] a3 a3:=Fr.refl _ _;have O:=hM;have M:=hk;have I:=D;refine z0e 0 h U λa h=>z0l 1 h U λa h=>z0c 2 h U y2g U λa h=>z0j 3 h U (λ_ Z=>M.ext Z) U x9s U λa h=>z0v 4 h U (λ_ Z=>I.ext Z) u5q U λa h=>z0e 5 h U λa h=>z0d 6 U (y1s (V:=crK) (k:=z5t c) (v:=.int .i64 ((y6g m.cr (z5t c).1 (z5t c).2)+c.n)) h U U U hM.c x8r underlying181 λb5 a1 hq _hz a h=>?_);replace hM:=hM.cross (l:=x0m m.cr (z5t c).1 (z5t c).2 (y6g m.cr (z5t c).1 (z5t c).2+c.n)) (by rw[v3y _ _ _ _ hM.c.nodup];exact a1) hq;refine z1m (z0q ?_);clear hC O M I;exact bk (h.sub (L':=[]) .nil) (tn (sr (asg U (nn (rt (r1 results198 U ⟨_,rfl,MRet.ok (by rw[x5y,if_neg c1,if_neg c2]) hM⟩))))))
theorem u2p (m:MQ)(j:Nat):m.p.ys.getD j yn0=(m.ys.getD j yq0).p:=by
 show (m.ys.map YQ.p).getD j yn0=_;rw[List.getD,List.getD,List.getElem?_map];cases m.ys[j]?<;>rfl
theorem y1l {l:List Cx}{i:Nat}(h:i<l.length):l.take (i+1)=l.take i++[l.getD i cx0]:=by
 rw[List.take_add_one,List.getD,List.getElem?_eq_getElem h];rfl
theorem v0f {l r I:List Cx}{i:Nat}{e:Int}(h:z5y l (r.take i)=.ok I)(O:i<r.length)(M:x2n I (r.getD i cx0)=.error e):z5y l r=.error e:=by
 have D:=y2c (c:=r.getD i cx0) h;rw[<-y1l O,M]at D;have J:=x3g (r.drop (i+1)) D;rwa [List.take_append_drop]at J
theorem u2n {p:MSt}{c:Cx}{e:Int}(h:j1s p c=.error e):x2n p.cr c=.error e:=by
 unfold j1s at h;split at h;rename_i D;cases h;exact D;cases h
theorem j1j {p q:MSt}{c:Cx}(h:j1s p c=.ok q):∃l,x2n p.cr c=.ok l/\q={ p with cr:=l }:=by
 unfold j1s at h;split at h;cases h;rename_i l D;cases h;exact⟨l,D,rfl⟩
theorem u0y {m:MQ}{d:Int}{D:List YQ}(M:D.length=6)(I:m.ys.length=6)(O:∀j,j<6->z8g m.p d (m.ys.getD j yq0).p=.ok (D.getD j yq0).p):z4v m.p d m.p.ys=.ok (D.map YQ.p):=by
 refine y7o (by simp[M,I]) λj Z=>?_;have J:j<6:=by simpa[I] using Z
 rw[u2p,O j J];congr 1;rw[List.getD,List.getD,List.getElem?_map];cases D[j]?<;>rfl
theorem u0l {m:MQ}{d:Int}{D:List YQ}{J:YQ}{i:Nat}(M:D.length=6)(O:i<6)(I:∀j,j<i->z8g m.p d (m.ys.getD j yq0).p=.ok (D.getD j yq0).p)(h:z8g m.p d (m.ys.getD i yq0).p=.ok J.p):∀j,j<i+1->z8g m.p d (m.ys.getD j yq0).p=.ok ((D.set i J).getD j yq0).p:=λj Z=>by
 rw[z1j oo]
 by_cases e:i=j
 ·subst e;rw[if_pos U];exact h
 rw[if_neg e];exact I j oo
theorem v2m {m:MQ}{d:Int}{D:List YQ}{i:Nat}(I:∀j,i<=j->D.getD j yq0=m.ys.getD j yq0)(J:∀j,j<i->z8g m.p d (m.ys.getD j yq0).p=.ok (D.getD j yq0).p)(h:(m.ys.getD i yq0).inn=false):∀j,j<i+1->z8g m.p d (m.ys.getD j yq0).p=.ok (D.getD j yq0).p:=λj M=>by
 by_cases e:j=i
 ·subst e;rw[I j (Nat.le_refl _)];unfold z8g;rw[if_pos h]
 exact J j oo
theorem v9n {m:MQ}{D:List YQ}{M:YQ}{i:Nat}(J:D.length=6)(O:i<6)(I:∀j,i<=j->D.getD j yq0=m.ys.getD j yq0):∀j,i+1<=j->(D.set i M).getD j yq0=m.ys.getD j yq0:=λj Z=>by
 rw[z1j oo,if_neg oo];exact I j oo
theorem u9e (wS:World)(ka:MA)(m:MQ)(d:Int)(w0:World)(hM:MkM τd 183 wS ka w0 m)(hi:MInv m.p)(b3:StT wS)(hd:d=0\/d=1)(d1:-4<=m.rk+stI d/\m.rk+stI d<=4):Rets prog 146 #[.pointer (some ⟨ka.gk,0,none⟩),.int .u8 d] w0 λr w'=>MRet τd 183 wS ka (y2w m.p d) r w':=by
 have g3:=hM.fr.size;have f1:=hM.gk;have O:=hM.k;have g0:=O.lt;have b9:=hM.ly;have f3:=(hM.y.out.blk ka.gy (by simp[z0u])).2;have hI:=hi;have f2:ka.gk≠ka.gy:=λe=>Own.neB hM.y.out hM.k dd (by simp[z0u,e]);have g1:(z4h m.q.p m.rk d).length<=640:=by
  have x:(z4h m.q.p m.rk d).length<=16*m.p.B.b.length:=y4j hI.B m.rk d;have y:=hI.B.lb;omega
 refine we [(0,.pointer (some ⟨ka.gk,0,none⟩)),(1,.int .u8 d)] func146 U ntmps146 U (.c2 U U) ?_;have a0:=hM;refine sr (asg U (nn (sq (sr (mv U U (nlc U (fad U z3e (z0i U O U y3q (lnS U underlying51 (mv U U (nn (bl (lpK (ι:=Nat) [(0,_),(1,_),(17,_),(18,_)] (λi=>[(19,.int .i64 (i:Int))]) (λi w'=>Fr [ka.gy] w0 w'/\i<=6/\(∃M:List YQ,M.length=6/\(∀j,j<i->z8g m.p d (m.ys.getD j yq0).p=.ok (M.getD j yq0).p)/\(∀j,i<=j->M.getD j yq0=m.ys.getD j yq0)/\MkM τd 183 wS ka w' { m with ys:=M })) (λi=>6-i) 0 (.c5 U U U U U) ⟨Fr.refl _ _,⟨Nat.zero_le _,⟨m.ys,b9,λj hj=>oo,λj _=>rfl,hM⟩⟩⟩ ?_)))))))))))));rintro i w1 ⟨q1,⟨hi,⟨M,a4,a6,a5,hM⟩⟩⟩;have z1:=q1.size;have a0:=hM;refine kpC [(0,_),(1,_),(17,_),(18,_),(19,_)] (.c5 U U U U U) ?_;have O:=hM.k;refine sr (lt' U (nn (sq (cd U (λc0=>?_) (λc0=>?_)))));have f9:i<6:=by omega
 refine sk (tn (sq (bl (sr (mv U U (z1d (yq0) U (show Sl z2z _ ka.YV M from hM.y.out.sl) U y4b z1i (λe7 b5=>?_)))))));refine z1k U (b5 _ (show Sl z2z _ ka.YV M from hM.y.out.sl)) z6y (al y3c U (λg6 w2 f7 D q2 z2=>?_));refine asg U (z0k (vs:=[_,_,_,_,_]) U D z7d (λw3 D q3 z3=>?_) (h1:=(by first|(simp[Value.oneCell',S];done)|exact z2z.one (m.ys.getD i yq0))));rw[a5 i (Nat.le_refl _)]at D;refine nn (sq (sr (fad U y0k (z0i U D U na4 (nt' U (nn (cd U (λc1=>?_) (λc1=>?_))))))));refine ex (te (xh (tn (rg (z0z U (wi6 oo) (mv U U (nl ?_)))))));replace hM:=a0.ext (q2.z1 q3);exact lpE (i+1) (.c5 U U U U U) ⟨((Fr.refl [ka.gy] _).z3 q1 q2 q3),⟨oo,⟨M,a4,v2m a5 a6 (by simpa using c1),λj hj=>a5 j oo,hM⟩⟩⟩ oo;have d3:=(hI.yn i oo).1;rw[u2p]at d3;have d0:=j6s (by have:=d3.2;rw[if_pos (by simpa using c1)]at this;exact this.1);have f4:(z6z m.q.p m.rk d (m.ys.getD i yq0).pl).length<=50000:=by
  have x:(z6z m.q.p m.rk d (m.ys.getD i yq0).pl).length<=4*m.p.B.b.length:=x1m hI.B m.rk d _;have y:=hI.B.lb;omega
 refine sk (tn (sq ?_));replace hM:=a0.ext (q2.z1 q3);replace O:=(O.ext q2).fr q3;intro a h;refine z0h none (λwb w'=>Fr [] wb w') z2m ?_;intro w4 q4;have z4:=q4.size;replace hM:=hM.ext q4;replace O:=O.ext q4;replace D:=D.ext q4;have hC:Fr [] w4 w4:=Fr.refl _ _;have Z:=hM;have I:=O;have J:=D;refine z0e 0 h U λa h=>z0l 1 h U λa h=>z0c 2 h U z3d U λa h=>z1b (vs:=[_,_]) 3 h U (λ_ hw=>(I.ext hw)) z4s U U λa h=>z0e 4 h U λa h=>z0l 5 h U λa h=>z0c 6 h U z3q U λa h=>z0j 7 h U (λ_ hw=>I.ext hw) U na3 U λa h=>z0e 8 h U λa h=>z0c 9 h U z7h U λa h=>z0j 10 h U (λ_ hw=>J.ext hw) U na3 U λa h=>z0d 11 U (z0o h (z0a U (z0a U (z0a U (z0a U z0g)))) (mkC func195) (u0e m.q m.rk d (m.ys.getD i yq0).pl _ hM.b.at hI.B (b3.ext hM.fr.fr) hI.rk hd d1 d0.1 d0.2) ?_);rintro _ w5 ⟨⟨f6,rfl,f0,hW⟩,q5⟩ a h;have z5:=q5.size;replace hM:=hM.ext q5;replace O:=O.ext q5;replace D:=D.ext q5;replace hC:=hC.next q5;refine z0b (z0e 12 h U λa h=>z0n 13 h U λa h=>z0n 14 h U λa h=>z0d 15 U (z0s h U λa h=>?_));refine z0b (z0d 16 U (z0s h U λa h=>?_));refine z0b (z0q ?_);clear hC Z I J;refine bk (h.sub (L':=[(0,_),(1,_),(5,_),(6,_),(7,_),(8,_),(17,_),(18,_),(19,_)]) (.d8 U U U U U U U U (.cons U .nil))) (tn (sq (sr (mv U U (ne' U (nn (cd U (λc2=>?_) (λc2=>?_))))))));exact sr (mv U U (asg U (kpL [(4,_)] (.cons U .nil) (nn (rt (tr (rb (tr (tr (rb (tr (r1 results146 U (absurd U c2)))))))))))));refine sk (tn (sq ?_));intro a h;refine z0h (some 15) (λwb w'=>Fr [ka.gy] wb w') z2m ?_;intro w6 q6;have z6:=q6.size;replace hM:=hM.ext q6;replace O:=O.ext q6;replace D:=D.ext q6;replace hW:=hW.ext q6;have hC:Fr [ka.gy] w6 w6:=Fr.refl _ _;have Z:=hM;have I:=O;have J:=D;have b4:=hW;refine z0e 0 h U λa h=>z0l 1 h U λa h=>z0c 2 h U z3e U λa h=>z0j 3 h U (λ_ hw=>I.fr hw se) U y3q U λa h=>z0e 4 h U λa h=>z0v 5 h U (λ_ hw=>J.fr hw se) z6y U λa h=>z0c 6 h U z7h U λa h=>z0j 7 h U (λ_ hw=>J.fr hw se) U na3 U λa h=>z0e 8 h U λa h=>z0d 9 U ?_;refine z0o h (z0a U (z0a U (z0a U z0g))) (mkC func196) (x8x (m.ys.getD i yq0) (m.ys.getD i yq0).pl _ (z6z m.q.p m.rk d (m.ys.getD i yq0).pl) _ (by have x:=(hM.y.ins i (by rw[hM.ly];omega)).sl;rw[show ({ m with ys:=M }:MQ).ys.getD i yq0=m.ys.getD i yq0 from a5 i (Nat.le_refl _)]at x;exact x) hW.sl (λk O=>(hW.blk k O).2) oo) ?_;rintro _ w7 ⟨qn,rfl,b8,q7⟩ a h;have z7:=q7.size;replace hM:=hM.ext q7;replace O:=O.ext q7;replace D:=D.ext q7;replace hW:=hW.ext q7;replace hC:=hC.next q7;refine z0b (z0e 10 h U λa h=>z0n 11 h U λa h=>z0n 12 h U λa h=>z1q 13 kr kr kr hC (p:=i) h wn U y4b oo oo oo U U λa h=>z0d 14 U (z1c (i:=i) (qn:YQ) h U hM.y.out (by rw[hM.ly];omega) U z7d λw8 a7 q8 _hz a h=>?_));have b7:=hM.fr.step q8 (y4y hM.y.out (by simp[v8k])) (λk O a9=>absurd (hM.y.out.blk k O).1 oo);have d9:=λhc:(goE (m.ys.getD i yq0).p (m.ys.getD i yq0).pl (z6z m.q.p m.rk d (m.ys.getD i yq0).pl))=0=>hM.yarn mtd (j:=i) (y:=qn) oo a7 q8 ((b8 hc).2.low oo);clear a7 hM;have z8:=q8.size;replace D:=D.fr q8;replace hW:=hW.fr q8 (by simp[z0u]<;>omega);replace hC:=hC.sp q8;clear _hz;refine z0b (z0d 15 U (z0s h U λa h=>?_));refine z1m (z0q ?_);clear hC Z I J b4;refine bk (h.sub (L':=[(0,_),(1,_),(8,_),(17,_),(18,_),(19,_)]) (.c6 U U U U U U)) (tn (sr (mv U U (ne' U (nn (cd U (λc3=>?_) (λc3=>?_)))))));exact sr (mv U U (asg U (kpL [(4,_)] (.cons U .nil) (nn (rt (rb (tr (tr (rb (tr (r1 results146 U ⟨_,rfl,MRet.err (by unfold y2w;rw[y7d (i:=i) (e:=(goE (m.ys.getD i yq0).p (m.ys.getD i yq0).pl (z6z m.q.p m.rk d (m.ys.getD i yq0).pl))) (by simp only[List.length_map];omega) (λj hj=>⟨_,by rw[u2p];exact a6 j hj⟩) (by rw[u2p];unfold z8g;rw[if_neg (by simpa using c1),if_pos c3])]) c3 b7⟩)))))))))));have hM:=d9 (Classical.not_not.1 c3);have a0:=hM;exact sk (bn' (tn (rg (z0z U (wi6 oo) (mv U U (nl (lpE (i+1) (.c5 U U U U U) ⟨((((Fr.refl [ka.gy] _).z6 q1 q2 q3 q4 q5 q6).n1 q7).z1 q8),⟨oo,⟨M.set i qn,by rw[List.length_set];exact a4,u0l a4 oo a6 (by unfold z8g;rw[if_neg (by simpa using c1),if_neg (λe=>e (Classical.not_not.1 c3)),(b8 (Classical.not_not.1 c3)).1]),v9n a4 oo a5,hM⟩⟩⟩ oo)))))));obtain rfl:i=6:=by omega
 have c9:=u0y a4 b9 a6;refine ex (te (te (xh (tn (sq ?_)))));intro a h;refine z0h none (λwb w'=>Fr [] wb w') z2m ?_;intro w9 q9;have z9:=q9.size;replace hM:=hM.ext q9;replace O:=O.ext q9;have hC:Fr [] w9 w9:=Fr.refl _ _;have Z:=hM;have I:=O;refine z0e 0 h U λa h=>z0l 1 h U λa h=>z0c 2 h U z3d U λa h=>z1b (vs:=[_,_]) 3 h U (λ_ hw=>(I.ext hw)) z4s U U λa h=>z0e 4 h U λa h=>z0l 5 h U λa h=>z0c 6 h U z3q U λa h=>z0j 7 h U (λ_ hw=>I.ext hw) U na3 U λa h=>z0e 8 h U λa h=>z0d 9 U (z0o h (z0a U (z0a U (z0a U z0g))) (mkC func197) (u6v m.q m.rk d _ hM.b.at hI.B (b3.ext hM.fr.fr) hI.rk hd d1) ?_);rintro _ g7 ⟨⟨gl,rfl,f8,hX⟩,q10⟩ a h;have h2:=q10.size;replace hM:=hM.ext q10;replace O:=O.ext q10;replace hC:=hC.next q10;refine z0b (z0e 10 h U λa h=>z0n 11 h U λa h=>z0n 12 h U λa h=>z0d 13 U (z0s h U λa h=>?_));refine z0b (z0d 14 U (z0s h U λa h=>?_));refine z0b (z0q ?_);clear hC Z I;refine bk (h.sub (L':=[(0,_),(9,_),(10,_)]) (.c3 U U U)) (tn (sq (sr (mv U U (ne' U (nn (cd U (λc4=>?_) (λc4=>?_))))))));exact sr (mv U U (asg U (nn (rt (tr (r1 results146 U (absurd U c4)))))));refine sk (tn (sq (sr (mv U U (lnS U underlying288 (mv U U (nn (bl (lpK (ι:=Nat) [(0,_),(79,_),(80,_)] (λi=>[(81,.int .i64 (i:Int))]) (λi w'=>i<=(z4h m.q.p m.rk d).length/\(∃(mi:MQ) (li:List Cx),z5y m.cr ((z4h m.q.p m.rk d).take i)=.ok li/\mi.p={ m.p with ys:=M.map YQ.p,cr:=li }/\MkM τd 183 wS ka w' mi/\Lw.Own z5p 292 w0.heap.size w' (.slice (some ⟨gl,0,none⟩) (z4h m.q.p m.rk d).length (z4h m.q.p m.rk d).length) (z4h m.q.p m.rk d))) (λi=>(z4h m.q.p m.rk d).length-i) 0 (.c4 U U U U) ⟨Nat.zero_le _,⟨{ m with ys:=M },m.cr,rfl,rfl,hM,hX.low oo⟩⟩ ?_)))))))));rintro i g8 ⟨hi,⟨mi,li,a2,a3,hM,hX⟩⟩;have a0:=hM;refine kpC [(0,_),(79,_),(80,_),(81,_)] (.c4 U U U U) (sr (lt' U (nn (sq (cd U (λc5=>?_) (λc5=>?_))))));have a9:i<(z4h m.q.p m.rk d).length:=by omega
 refine sk (tn (sq (bl (sr (z1d (cx0) U hX.sl U y2d z1i (λe8 b6=>?_))))));refine z1k U (b6 _ hX.sl) x9n (al j6a U (λf5 g9 e9 a1 d4 h3=>?_));refine z0k (vs:=[_,_,_,_,_]) U a1 v6s (λe5 a1 d5 h4=>?_) (h1:=(by first|(simp[Value.oneCell',S];done)|exact z2z.one (m.ys.getD i yq0)));refine nn (sr (mv U U (z0m U a1 x9n ?_)));replace hM:=a0.ext (d4.z1 d5);replace hX:=(hX.ext d4).fr d5 (by first|exact z7z hX oo|simp[z0u]<;>omega);have b0:=hM.fr;have e1:mi.cr=li:=congrArg MSt.cr a3;refine cl (z0a U (z0a U z0g)) (mkC func198) (j0l wS { ka with wk:=e5 } mi ((z4h m.q.p m.rk d).getD i cx0) _ hM.mark (by rw[e1];exact y8p hI.cv a2) (k0k _ (z0y oo))) U ?_;intro _ h0 hR;obtain⟨rfl,a8,m2,e2⟩:=hR.split;have e6:=a8.kp.size;simp only at e6;replace hX:=a8.kp.own hX (hM.gcneO hX) dd;refine asg U (nn (sr (mv U U (ne' U (nn (cd U (λc6=>?_) (λc6=>?_)))))));refine sr (mv U U (asg U (kpL [(4,_)] (.cons U .nil) (nn (rt (rb (tr (tr (rb (tr (r1 results146 U ?_)))))))))));exact⟨_,rfl,MRet.err (by unfold y2w;rw[c9];simp only;rw[v0f a2 a9 (by have x:=u2n (y1h c6);rw[show mi.p.cr=li from congrArg MSt.cr a3]at x;exact x)]) c6 (a8.un b0)⟩;obtain⟨d6,e4⟩:=e2 (Classical.not_not.1 c6);have d7:=d6.unmark b0;obtain⟨l2,e0,e3⟩:=j1j e4;refine sk (bn' (tn (rg (z0z U (wi6 oo) (mv U U (nl ?_))))));exact lpE (i+1) (.c4 U U U U) ⟨oo,⟨m2,l2,by rw[y1l a9,y2c a2,<-(show mi.cr=li from congrArg MSt.cr a3)];exact e0,by rw[e3,a3],d7,hX⟩⟩ oo;obtain rfl:i=(z4h m.q.p m.rk d).length:=by omega
 exact ex (te (te (xh (tn (sr (asg U (nn (rt (r1 results146 U ⟨_,rfl,MRet.ok (by rw[List.take_length]at a2;unfold y2w;rw[c9,a3];simp only;rw[show z5y m.p.cr (z4h m.p.B m.p.rk d)=.ok li from a2]) hM⟩)))))))))
theorem y8o (p:MSt)(d:Int):z8p p d=match y2w p d with
    | .error e=>.error e
    | .ok q=>.ok { q with rk:=p.rk+stI d }:=by
  unfold z8p y2w
  cases z4v p d p.ys with
  | error e=>rfl
  | ok ys=>
    simp only
    cases z5y p.cr (z4h p.B p.rk d) with
    | error e=>rfl
    | ok cr=>rfl
theorem v9q {p:MSt}{r:Int}(n:Nat)(h:p.rk=r):z4y n p r=.ok p:=by
 cases n with
 | zero=>rfl
 | succ n=>unfold z4y;rw[if_pos h]
theorem u2i {p:MSt}{r e:Int}{n:Nat}(h:p.rk≠r)(hn:1<=n)(D:y2w p (if r<p.rk then 0 else 1)=.error e):z4y n p r=.error e:=by
 obtain⟨k,rfl⟩:∃k,n=k+1:=⟨n-1,oo⟩;unfold z4y;rw[if_neg h,y8o,D]
theorem j1u {p q:MSt}{r:Int}{n:Nat}(h:p.rk≠r)(hn:1<=n)(D:y2w p (if r<p.rk then 0 else 1)=.ok q):z4y n p r=z4y (n-1) { q with rk:=p.rk+stI (if r<p.rk then 0 else 1) } r/\z8p p (if r<p.rk then 0 else 1)=.ok { q with rk:=p.rk+stI (if r<p.rk then 0 else 1) }:=by
 obtain⟨k,rfl⟩:∃k,n=k+1:=⟨n-1,oo⟩
 constructor
 ·conv=>lhs;unfold z4y
  rw[if_neg h,y8o,D];rfl
 rw[y8o,D]
theorem j1p (wS:World)(ka:MA)(m:MQ)(o:MOp)(w0:World)(hM:MkM τd 183 wS ka w0 m)(hi:MInv m.p)(a9:StT wS)(d0:-4<=o.r/\o.r<=4):Rets prog 94 #[.pointer (some ⟨ka.gk,0,none⟩),opV o] w0 λr w'=>MRet τd 183 wS ka (v9c m.p o) r w':=by
 have d3:=hM.fr.size;have b5:=hM.gk;have c9:=hM.k.lt;have d1:-4<=m.rk/\m.rk<=4:=hi.rk;refine we [(0,.pointer (some ⟨ka.gk,0,none⟩)),(1,opV o)] func94 U ntmps94 U (.c2 U U) ?_;have a0:=hM;refine sr (bx U (λg3 w1 b9 I q1 z1=>(asg U (nn (sq (bl ?_))))));replace hM:=a0.ext q1;refine lpK (ι:=Nat) [(0,_),(3,_)] (λn=>[]) (λn w'=>∃D:MQ,(z4y 8 m.p o.r=z4y n D.p o.r/\MInv D.p/\-(n:Int)<=o.r-D.rk/\o.r-D.rk<=n)/\MkM τd 183 wS ka w' D/\Blk w' g3 47 [.int .u8 o.k,.int .u8 o.d,.int .u8 o.b,.int .i64 o.p,.int .u8 o.y,.int .i64 o.r]) (λn=>n) 8 (.c2 U U) ⟨m,⟨rfl,hi,oo,oo⟩,hM,I⟩ ?_;rintro n w2 ⟨D,⟨a2,Z,b7,b8⟩,hM,I⟩;have a0:=hM;have a6:=I.lt;refine kpC [(0,_),(3,_)] (.c2 U U) ?_;have O:=hM.k;have b6:-4<=D.rk/\D.rk<=4:=Z.rk;refine sq (sq ?_);intro a h;refine z0h none (λwb w'=>Fr [] wb w') z2m ?_;intro w3 q3;replace I:=I.ext q3;replace O:=O.ext q3;have hC:Fr [] w3 w3:=Fr.refl _ _;have M:=I;have J:=O;refine z0e 0 h U λa h=>z0l 1 h U λa h=>z0c 2 h U z3q U λa h=>z0j 3 h U (λ_ hw=>J.ext hw) U na3 U λa h=>z0c 4 h U y2s U λa h=>z0j 5 h U (λ_ hw=>M.ext hw) U na3 U λa h=>u8b 6 hC h wn U U U U λa h=>z0q ?_;clear hC M J;refine bk (h.sub (L':=[(0,_),(3,_),(14,_)]) (.c3 U U U)) (tn (cd U (λc0=>?_) (λc0=>?_)));have a4:D.p.rk≠o.r:=c0;refine sk (tn (bl (sq ?_)));intro a h;refine z0h none (λwb w'=>Fr [] wb w') z2m ?_;intro w4 q4;replace O:=O.ext q4;have hC:Fr [] w4 w4:=Fr.refl _ _;have J:=O;refine z0e 0 h U λa h=>z0l 1 h U λa h=>z0c 2 h U z3q U λa h=>z0j 3 h U (λ_ hw=>J.ext hw) U na3 U λa h=>z4m 4 h U (by first|exact i6 oo|rfl) U λa h=>z0d 5 U (z0s h U λa h=>?_);refine z0b (z0d 6 U (z0s h U λa h=>?_));refine z0b (z0q ?_);clear hC J;refine bk (h.sub (L':=[(0,_),(3,_),(5,_),(6,_)]) (.c4 U U U U)) (tn (jn (ι:=Unit) [(0,_),(3,_)] (λ_j=>[(5,.int .u8 (if o.r<D.rk then (0:Int) else 1)),(6,.int .i64 (D.rk+stI (if o.r<D.rk then (0:Int) else 1)))]) (λ_j w'=>Fr [] w4 w') (.c2 U U) ?_ ?_));refine sq ?_;intro a h;refine z0h none (λwb w'=>Fr [] wb w') z2m ?_;intro w5 q5;replace I:=I.ext (q4.n1 q5);replace O:=O.ext q5;have hC:Fr [] w5 w5:=Fr.refl _ _;have M:=I;have J:=O;refine z0c 0 h U y2s U λa h=>z0j 1 h U (λ_ hw=>M.ext hw) U na3 U λa h=>z0e 2 h U λa h=>z0l 3 h U λa h=>z0c 4 h U z3q U λa h=>z0j 5 h U (λ_ hw=>J.ext hw) U na3 U λa h=>v0u 6 hC h wn U U λa h=>z0q ?_;clear hC M J;refine bk (h.sub (L':=[(0,_),(3,_),(5,_),(6,_),(26,_)]) (.c5 U U U U U)) (tn (cd U (λc1=>?_) (λc1=>?_)));intro a h;refine z0h none (λwb w'=>Fr [] wb w') z2m ?_;intro w6 q6;replace O:=O.ext q6;have hC:Fr [] w6 w6:=Fr.refl _ _;have J:=O;refine z0e 0 h U λa h=>z0l 1 h U λa h=>z0c 2 h U z3q U λa h=>z0j 3 h U (λ_ hw=>J.ext hw) U na3 U λa h=>z2t 4 h wn U (by first|exact i6 oo|rfl) U λa h=>z0d 5 U (z0s h U λa h=>?_);refine z0b (z0d 6 U (z0s h U λa h=>?_));refine z0b (z0q ?_);clear hC J;refine bk (h.sub (L':=[(0,_),(3,_),(5,_),(6,_)]) (.c4 U U U U)) ?_;exact jE (()) (.c4 U U (congrArg (λz=>some (Value.int .u8 z)) (by first|exact(if_pos c1).symm|exact(if_neg c1).symm)) (congrArg (λz=>some (Value.int .i64 z)) (by first|(rw[show (if o.r<D.rk then (0:Int) else 1)=0 from if_pos c1,show stI 0 = -1 from U];omega)|(rw[show (if o.r<D.rk then (0:Int) else 1)=1 from if_neg c1];rfl)))) (q5.n1 q6);refine sk ?_;exact jE (()) (.c4 U U (congrArg (λz=>some (Value.int .u8 z)) (by first|exact(if_pos c1).symm|exact(if_neg c1).symm)) (congrArg (λz=>some (Value.int .i64 z)) (by first|(rw[show (if o.r<D.rk then (0:Int) else 1)=0 from if_pos c1,show stI 0 = -1 from U];omega)|(rw[show (if o.r<D.rk then (0:Int) else 1)=1 from if_neg c1];rfl)))) q5;rintro _j w7 q7;refine kpC [(0,_),(3,_),(5,_),(6,_)] (.c4 U U U U) (sq (sr (mv U U (mv U U ?_))));replace hM:=a0.ext (q3.n2 q4 q7);replace I:=I.ext (q4.n1 q7);have a3:=hM.fr;refine cl (z0a U (z0a U z0g)) (mkC func146) (u9e wS { ka with wk:=w7 } D (if o.r<D.rk then (0:Int) else 1) _ hM.mark Z a9 (by split<;>simp) (by have hx:-4<=D.rk/\D.rk<=4:=Z.rk;unfold stI;split<;>split at *<;>omega)) U ?_;intro _ w8 hR;obtain⟨rfl,a1,m2,b3⟩:=hR.split;have z8:=a1.kp.size;simp only at z8;replace I:=a1.kp.blk I (by have:=hM.gcne I;exact this) dd;refine asg U (nn (sr (mv U U (ne' U (nn (cd U (λc2=>?_) (λc2=>?_)))))));exact sr (mv U U (asg U (kpL [(4,_)] (.cons U .nil) (nn (rt (tr (rb (tr (rb (tr (r1 results94 U ⟨_,rfl,MRet.err (by unfold v9c;rw[a2];exact u2i a4 oo (y1h c2)) c2 (a1.un a3)⟩)))))))))));obtain⟨a8,b4⟩:=b3 (Classical.not_not.1 c2);replace hM:=a8.unmark a3;have a0:=hM;have O:=hM.k;have a5:=j1u (p:=D.p) (r:=o.r) (n:=n) a4 oo b4;have a7:=y8m Z (by have hx:-4<=D.rk/\D.rk<=4:=Z.rk;show -4<=D.rk+stI (if o.r<D.rk then (0:Int) else 1)/\D.rk+stI (if o.r<D.rk then (0:Int) else 1)<=4;unfold stI;split<;>split at *<;>omega) a5.2;refine sk (tn (rg (mv U U (mv U U (nlc U (fad U z3q (z3c U O U sz3 (λw9 b0 q9 z9=>?_))))))));replace hM:=hM.beds mtd (q:=m2.q) (r:=D.rk+stI (if o.r<D.rk then (0:Int) else 1)) hM.b b0 q9 hM.fb;refine kpL [(0,_),(3,_)] (.c2 U U) (nl (bn' ?_));replace I:=I.fr q9;exact lpE ((n-1)) (.c2 U U) ⟨{ m2 with rk:=D.rk+stI (if o.r<D.rk then (0:Int) else 1) },⟨by rw[a2,a5.1],a7.1,by show -((n-1:Nat):Int)<=o.r-(D.rk+stI (if o.r<D.rk then (0:Int) else 1));unfold stI;split<;>split at *<;>omega,by show o.r-(D.rk+stI (if o.r<D.rk then (0:Int) else 1))<=((n-1:Nat):Int);unfold stI;split<;>split at *<;>omega⟩,hM,I⟩ oo;refine ex (te (te (xh (tn (sr (asg U (nn (rt (r1 results94 U ?_)))))))));replace hM:=a0.ext q3;exact⟨_,rfl,MRet.ok (by unfold v9c;rw[a2];exact v9q n (show D.rk=o.r by omega)) hM⟩
theorem j8u (w:World):(zeroValue 185).run prog w=.ok .nilFunc w:=kr
abbrev v8l (F:Nat):Value:=.func (.func F) #[] #[]
def j5i:Int->Option Value:=λk'=>if k'=8 then some (v8l 99) else (if k'=7 then some (v8l 98) else (if k'=6 then some (v8l 97) else (if k'=5 then some (v8l 96) else (if k'=4 then some (v8l 95) else (if k'=3 then some (v8l 94) else (if k'=2 then some (v8l 93) else (if k'=1 then some (v8l 92) else (none))))))))
theorem u7m (w0:World):Rets prog 40 #[] w0 λr w'=>(∃g,r=.map (some g)/\w0.heap.size<=g/\MapF kV w' g j5i)/\Fr [] w0 w':=by
 refine we [] func40 U ntmps40 U .nil (sr (asg U (nn (sr (z8l kV U (λI w1 J D M z1=>(z3b (V:=kV) (k:=1) U D y5y underlying110 (λw2 D O z2=>(z3b (V:=kV) (k:=2) U D y5y underlying110 (λw3 D Z z3=>(z3b (V:=kV) (k:=3) U D y5y underlying110 (λw4 D q4 z4=>?_))))))))))));exact z3b (V:=kV) (k:=4) U D y5y underlying110 (λw5 D q5 z5=>(z3b (V:=kV) (k:=5) U D y5y underlying110 (λw6 D q6 z6=>(z3b (V:=kV) (k:=6) U D y5y underlying110 (λw7 D q7 z7=>(z3b (V:=kV) (k:=7) U D y5y underlying110 (λw8 D q8 z8=>(z3b (V:=kV) (k:=8) U D y5y underlying110 (λw9 D q9 z9=>(mv U U (asg U (nn (rt (r1 results40 U ⟨_,rfl,⟨I,rfl,oo,D⟩,(((M.z6 O Z q4 q5 q6 q7).z1 q8).z1 q9)⟩))))))))))))))
theorem j2t (wS:World)(D:MA)(m:MQ)(o:MOp)(w0:World)(hM:MkM τd 183 wS D w0 m)(I:MInv m.p)(O:StT wS)(hc:y7h o=0):∃F:Nat,j5i o.k=some (v8l F)/\CallOf prog F/\Rets prog F #[.pointer (some ⟨D.gk,0,none⟩),opV o] w0 λr w'=>MRet τd 183 wS D (opM m.p o) r w':=by
 obtain⟨hk,Z,M,a0,J,hr⟩:=z6d hc;unfold opM;rcases hk with e|e|e|e|e|e|e|e<;>rw[e]at Z M a0 J hr ⊢
 exact⟨_,rfl,(mkC func92),j5g wS D m o w0 hM (M sp0)⟩;exact⟨_,rfl,(mkC func93),j1i wS D m o w0 hM (M sp0)⟩;exact⟨_,rfl,(mkC func94),j1p wS D m o w0 hM I O (hr sp0)⟩;exact⟨_,rfl,(mkC func95),j0y wS D m o w0 hM I (M sp0) (J sp0)⟩;exact⟨_,rfl,(mkC func96),j0n wS D m o w0 hM I (M sp0) (J sp0)⟩;exact⟨_,rfl,(mkC func97),j2c wS D m o w0 hM I (M sp0) (J sp0)⟩;exact⟨_,rfl,(mkC func98),j0s wS D m o w0 hM I (J sp0)⟩;exact⟨_,rfl,(mkC func99),j1o wS D m o w0 hM I (J sp0)⟩
theorem j4x (wS:World)(J:MA)(m:MQ)(o:MOp)(gl:Nat)(w0:World)(hM:MkM τd 183 wS J w0 m)(hi:MInv m.p)(a1:StT wS)(hl:MapF kV w0 gl j5i):Rets prog 41 #[.pointer (some ⟨J.gk,0,none⟩),.map (some gl),opV o] w0 λr w'=>MRet τd 183 wS J (doM m.p o) r w':=by
 refine we [(0,.pointer (some ⟨J.gk,0,none⟩)),(1,.map (some gl)),(2,opV o)] func41 U ntmps41 U (.c3 U U U) ?_;have a0:=hM;have a3:=hl;refine sr (bx U (λg5 w1 a4 D q1 z1=>(asg U (nn (sq (sr (z0m U D y3g (cl (ev1 U) (mkC func100) (y8z _ _) U ?_))))))));rintro _ w2 ⟨rfl,q2⟩;refine asg U (nn (sr (mv U U (ne' U (nn (cd U (λO=>?_) (λO=>?_)))))));refine sr (mv U U (asg U (kpL [(6,_)] (.cons U .nil) (nn (rt (tr (r1 results41 U ?_)))))));replace hM:=a0.ext (q1.n1 q2);exact⟨_,rfl,MRet.err (by unfold doM;rw[if_pos O]) O hM.fr⟩;replace hM:=a0.ext (q1.n1 q2);have hc:y7h o=0:=Classical.not_not.1 O;have I:=λw hM=>j2t wS J m o w hM hi a1 hc;obtain⟨F,hF,a2,-⟩:=I _ hM;have M:∀w,MkM τd 183 wS J w m->Rets prog F #[.pointer (some ⟨J.gk,0,none⟩),opV o] w λr w'=>MRet τd 183 wS J (opM m.p o) r w':=λw hM=>by
  obtain⟨F',Z,-,h'⟩:=I w hM;rw[hF]at Z;cases Z;exact h'
 refine sk (tn (sr (mv U U (fad U z6s ?_))));replace D:=D.ext q2;refine z0i U D U v0j ?_;replace hl:=a3.ext (q1.n1 q2);refine y3w (V:=kV) (k:=o.k) (f:=j5i) (v:=v8l F) U U hl y5y underlying110 j8u (by rw[hF];rfl) U (mv U U (z0m U D y3g (clv (us:=[]) (ws:=[]) U (ev2 U) a2 (M w2 hM) U (by intro g e;cases e) ?_)));rintro a5 w3 hR;exact asg U (kpL [(6,_)] (.cons U .nil) (nn (rt (r1 results41 U ⟨_,rfl,by rw[show doM m.p o=opM m.p o from if_neg O];exact hR⟩))))
end Go.Proofs.YtjilcnmaefhmeaaGreatDoor
namespace Go.G08
open Go.Lw Go.G21
theorem u0a (l:List Cx)(a b:LId)(n:Int):(x0m l a b n).length<=l.length+1:=by
 unfold x0m;split<;>simp
theorem u1u (l:List Cx)(a b:LId):(v5d l a b).length<=l.length+1:=Nat.le_trans (List.length_filter_le _ _) oo
theorem u3h {l l':List Cx}{c:Cx}(h:x2n l c=.ok l'):l'.length<=l.length+1:=by
 rw[v3e]at h;split at h;cases h;split at h;cases h;exact u1u ..;cases h;exact u0a ..
theorem x1p:∀ {r l l':List Cx},z5y l r=.ok l'->l'.length<=l.length+r.length
 | [],l,l',h=>by cases h;exact Nat.le_refl _
 | c::r,l,l',h=>by
  unfold z5y at h
  split at h
  ·cases h
  rename_i I D
  have:=u3h D
  have:=x1p h
  simp only[List.length_cons];omega
theorem v6w {B:Bd}(h:BdOk B)(r d:Int):(z4h B r d).length<=640:=Nat.le_trans (y4j h r d) (by have:=h.lb;omega)
theorem v6z {p q:MSt}{d:Int}(h:BdOk p.B)(e:z8p p d=.ok q):q.B=p.B/\q.cr.length<=p.cr.length+640:=by
 unfold z8p at e;split at e;cases e;split at e;cases e;rename_i ys J I D;cases e;have:=x1p D;have:=v6w h p.rk d;exact⟨rfl,sm⟩
theorem x2a:∀ {n:Nat} {p q:MSt} {r:Int},BdOk p.B->z4y n p r=.ok q->q.cr.length<=p.cr.length+n*640
 | 0,p,q,r,h,e=>by cases e;omega
 | n+1,p,q,r,h,e=>by
  unfold z4y at e
  split at e
  ·cases e;omega
  split at e
  ·cases e
  rename_i M D
  obtain⟨I,J⟩:=v6z h D
  have:=x2a (I▸h) e
  rw[Nat.add_mul];omega
theorem x3w {p q:MSt}{y D en:Int}(e:y3j p y D en=.ok q):q.cr=p.cr:=by
 unfold y3j at e;split at e;cases e;cases e;rfl
theorem v6v {p q:MSt}{o:MOp}{D st:List LId}(e:x0h p o D st=.ok q):q.cr=p.cr:=by
 unfold x0h at e;split at e;cases e;split at e;cases e;cases e;rfl
theorem u8w {p q:MSt}{o:MOp}(h:BdOk p.B)(e:opM p o=.ok q):q.cr.length<=p.cr.length+5120:=by
 have s:∀ {x:MSt},x.cr=p.cr->x.cr.length<=p.cr.length+5120:=λI=>by rw[I];omega
 unfold opM at e;split at e;unfold inM at e;split at e;cases e;cases e;exact s U;split at e;unfold v0s at e;split at e;cases e;cases e;exact s U;split at e;have:=x2a h e;omega;split at e;unfold y2k at e;split at e;cases e;split at e;cases e;rename_i J D;exact s ((v6v e).trans (x3w D));split at e;unfold y0v at e;split at e;cases e;split at e;cases e;rename_i J D;split at e;cases e;exact s ((v6v e).trans (x3w D));split at e;unfold y5m at e;split at e;cases e;exact s (x3w e);split at e;unfold z9l at e;repeat (split at e;· cases e)
 cases e;exact s U;unfold y3h at e;split at e;cases e;cases e;exact s U
theorem x8q:∀ {l:List MOp} {i:Nat} {p q:MSt},MInv p->z3y i p l=.ok q->q.cr.length<=p.cr.length+l.length*5120
 | [],i,p,q,h,e=>by cases e;simp
 | o::l,i,p,q,h,e=>by
  unfold z3y at e
  split at e
  ·cases e
  rename_i J D
  have I:=v3l h D
  have M:=x8q I e
  have O:J.cr.length<=p.cr.length+5120:=by
   unfold doM at D
   split at D
   ·cases D
   exact u8w h.B D
  rw[List.length_cons,Nat.add_mul];omega
theorem z6w {a b:LId}:z6n a b<0↔a.y<b.y\/a.y=b.y/\a.n<b.n:=by
 unfold z6n;(repeat' split)<;>constructor<;>intro h<;>omega
theorem x0s {a b:LId}:z6n a b=0↔a=b:=by
 obtain⟨J,I⟩:=a;obtain⟨D,bn⟩:=b;rw[LId.mk.injEq];unfold z6n;dsimp only;(repeat' split)<;>constructor<;>intro h<;>omega
theorem y5e {T T':Tb}{l:Lp}(h:y5l T l)(I:∀i,z3p T i->z3p T' i):y5l T' l:=⟨h.1,h.2.1,λi D=>I i (h.2.2.1 i D),h.2.2.2⟩
theorem x9g {T:Tb}(h6:T.length=6){i:LId}(h:z3p T i):∃y n:Nat,y<6/\n<z3a T y/\i=⟨(y:Int)+1,(n:Int)⟩:=by
 obtain⟨J,M,O,Z⟩:=h;obtain⟨I,D⟩:=i;simp only at J M O Z;exact⟨(I-1).toNat,D.toNat,oo,oo,by rw[show (((I-1).toNat:Nat):Int)+1=I by omega,show ((D.toNat:Nat):Int)=D by omega]⟩
theorem y3v {T:Tb}{j:Nat}(J:T.length=6)(M:j<6){l:Lp}{i:LId}:z3p (T.set j (T.getD j []++[l])) i↔z3p T i\/i=⟨(j:Int)+1,(z3a T j:Int)⟩:=by
 have D:j<T.length:=by omega
 constructor;intro h;obtain⟨y,n,O,I,rfl⟩:=x9g (by rw[List.length_set];exact J) h;rw[z9g D]at I;by_cases e:j=y;subst e;rw[if_pos U,List.length_append,List.length_singleton,show (T.getD j []).length=z3a T j from U]at I;by_cases e2:n<z3a T j;exact .inl (y0j D e2);exact .inr (by rw[show n=z3a T j by omega]);rw[if_neg e]at I;exact .inl (y0j oo I);rintro(h|rfl);exact y8r D h;exact y0j (by rw[List.length_set];exact D) (by rw[z9g D,if_pos U,List.length_append,List.length_singleton];exact Nat.lt_succ_self _)
structure TabR (T:Tb) (rk:LId->Nat):Prop where
  six:T.length=6
  rts:∀y,y<6->∀n,n<z3a T y->y5l T (lpA T y n)/\(n=0->(lpA T y n).nw=true)
  rkd:Ranked T rk
  top:∀i,z3p T i->rk i<z5r T
theorem TabR.add {T:Tb}{rk:LId->Nat}(h:TabR T rk){j:Nat}(hj:j<6){l:Lp}(hr:y5l T l)(h0:z3a T j=0->l.nw=true) :
    TabR (T.set j (T.getD j []++[l])) (rkX rk j (z3a T j) (z5r T)):=by
  have h6:=h.six
  have a0:j<T.length:=by omega
  have a2:z5r (T.set j (T.getD j []++[l]))=z5r T+1:=by
    have:=y4t T j (T.getD j []++[l]) a0
    rw[List.length_append,List.length_singleton,show (T.getD j []).length=z3a T j from U]at this
    omega
  have D:∀i,z3p T i->rkX rk j (z3a T j) (z5r T) i=rk i:=λi J=>by
    obtain⟨y,n,I,M,rfl⟩:=x9g h6 J
    unfold rkX
    rw[if_neg]
    rintro⟨e1,e2⟩
    simp only at e1 e2
    have:y=j:=by omega
    subst this;omega
  have O:rkX rk j (z3a T j) (z5r T) ⟨(j:Int)+1,(z3a T j:Int)⟩=z5r T:=by
    unfold rkX
    rw[if_pos ⟨rfl,sp0⟩]
    show z5r T+((z3a T j:Int)-(z3a T j:Int)).toNat=z5r T
    omega
  have hm:∀i,z3p T i->z3p (T.set j (T.getD j []++[l])) i:=λi J=>(y3v h6 hj).2 (.inl J)
  -- an old loop,or the new one
  have a1:∀y,y<6->∀n,n<z3a (T.set j (T.getD j []++[l])) y->(n<z3a T y/\lpA (T.set j (T.getD j []++[l])) y n=lpA T y n)\/(y=j/\n=z3a T j/\lpA (T.set j (T.getD j []++[l])) y n=l):=λy I n M=>by
    rw[z9g a0]at M
    rw[j1h a0]
    by_cases e:j=y
    · subst e
      rw[if_pos U,List.length_append,List.length_singleton,show (T.getD j []).length=z3a T j from U]at M
      rw[if_pos U]
      by_cases e2:n<z3a T j
      · exact .inl ⟨e2,if_pos e2⟩
      · obtain rfl:n=z3a T j:=by omega
        exact .inr ⟨rfl,rfl,by rw[if_neg e2,Nat.sub_self];rfl⟩
    · rw[if_neg e]at M
      exact .inl ⟨M,by rw[if_neg e]⟩
  have hp:∀ {y n:Nat},y<6->n<z3a T y->z3p T ⟨(y:Int)+1,(n:Int)⟩:=λI M=>y0j oo M
  refine⟨by rw[List.length_set];exact h6,λy I n M=>?_,⟨λy I n M i J=>?_,λy I n m Z a3=>?_⟩,λi J=>?_⟩
  · rcases a1 y I n M with ⟨k,e⟩|⟨rfl,rfl,e⟩
    · rw[e];exact⟨y5e (h.rts y I n k).1 hm,(h.rts y I n k).2⟩
    · rw[e];exact⟨y5e hr hm,h0⟩
  · rcases a1 y I n M with ⟨k,e⟩|⟨rfl,rfl,e⟩
    · rw[e]at J
      rw[D _ (hp I k),D _ ((h.rts y I n k).1.2.2.1 i J)]
      exact h.rkd.need y I n k i J
    · rw[e]at J
      rw[O,D _ (hr.2.2.1 i J)]
      exact h.top i (hr.2.2.1 i J)
  · rcases a1 y I m a3 with ⟨k,_⟩|⟨rfl,rfl,_⟩
    · rw[D _ (hp I k),D _ (hp I (show n<z3a T y by omega))]
      exact h.rkd.mono y I n m Z k
    · rw[O,D _ (hp I Z)]
      exact h.top _ (hp I Z)
  · rw[a2]
    rcases(y3v h6 hj).1 J with k|rfl
    · rw[D _ k];have:=h.top i k;omega
    · rw[O];omega
theorem v9z {T:Tb}{j:Nat}(D:j<T.length)(l:Lp)(i:LId):(z9v (T.set j (T.getD j []++[l]))).count i=(z9v T).count i+l.th.count i:=by
 have h:=z7v x7a T j [] (T.getD j []++[l]) i D;have e:x7a (T.getD j []++[l])=x7a (T.getD j [])++l.th:=by unfold x7a;simp
 unfold z9v;rw[e,List.count_append]at h;omega
theorem x7s {T:Tb}{rk:LId->Nat}(h:TabR T rk){i:LId}(D:i∈z9v T):z3p T i:=by
 unfold z9v at D;obtain⟨r,O,D⟩:=List.mem_flatMap.1 D;unfold x7a at D;obtain⟨l,M,D⟩:=List.mem_flatMap.1 D;obtain⟨y,Z,rfl⟩:=List.getElem_of_mem O;obtain⟨n,J,rfl⟩:=List.getElem_of_mem M;have I:T.getD y []=T[y]:=by rw[List.getD,List.getElem?_eq_getElem Z];rfl
 have en:lpA T y n=T[y][n]:=by unfold lpA;rw[I,List.getD,List.getElem?_eq_getElem J];rfl
 have h6:=h.six;have:=(h.rts y oo n (by unfold z3a;rw[I];exact J)).1.2.2.1 i (by rw[en];exact List.mem_append_left _ D);exact this
theorem v6l {T:Tb}{st:List Pa}{p:Pa}(h:∀q∈st,z3p T q.id)(hp:z3p T p.id):∀q∈z9x st p,z3p T q.id:=by
 unfold z9x;split;exact λq D=>h q (List.mem_of_mem_take D);intro q D;rcases List.mem_append.1 D with k|k
 exact h q k;rw[List.mem_singleton.1 k];exact hp
theorem x1o {T:Tb}:∀ {l st:List Pa},(∀q∈st,z3p T q.id)->(∀q∈l,z3p T q.id)->∀q∈z4t st l,z3p T q.id
 | [],_,h,_=>h
 | p::l,st,h,hl=>x1o (l:=l) (v6l h (hl p sp0)) (λq D=>hl q (List.mem_cons_of_mem _ D))
theorem x0v:∀(l st:List Pa),y6h (st++l)->z4t st l=st++l
 | [],st,_=>by simp[z4t]
 | p::l,st,h=>by
  have I:z9x st p=st++[p]:=by
   unfold z9x
   rw[if_neg]
   rintro⟨O,Z⟩
   have D:=(h st.length sp0).2 O
   have J:(st++p::l).getD (st.length-1) pa0=st.getD (st.length-1) pa0:=by
    rw[List.getD,List.getElem?_append_left oo,List.getD]
   have M:(st++p::l).getD st.length pa0=p:=by simp[List.getD]
   rw[J,M]at D
   exact D Z
  show z4t (z9x st p) l=_
  rw[I,x0v l (st++[p]) (by simpa using h)]
  simp
theorem j1q {l:List Pa}(h:y6h l):(z4t [] l).length=l.length:=by rw[x0v l [] (by simpa using h)];rfl
theorem v3r {l:List Pa}(h:y6h l):∀p∈l,z5x p.d:=λp I=>by
 obtain⟨i,D,rfl⟩:=List.getElem_of_mem I
 have:=(h i D).1.2
 rwa [List.getD,List.getElem?_eq_getElem D]at this
theorem x1a (h:Hd):∀l:List Hd,(y1r h l).Perm (h::l)
 | []=>.refl _
 | x::l=>by
  unfold y1r
  split
  ·exact .refl _
  exact((x1a h l).cons x).trans (.swap h x l)
theorem v4f (l:List Hd):(z5b l).Perm l:=by
 have h:∀(l st:List Hd),(l.foldl (λa h=>y1r h a) st).Perm (st++l):=by
  intro l;induction l with
  | nil=>intro st;simp
  | cons x l ih=>
   intro st;show (l.foldl _ (y1r x st)).Perm _;exact(ih _).trans (((x1a x st).append_right l).trans (by simpa using (List.perm_middle (a:=x) (l₁:=st) (l₂:=l)).symm))
 have e:=h l [];rw[List.nil_append]at e;exact e
theorem y7p (B:Bd)(r:Int):(z2q B r).Perm (v7d B r):=v4f _
theorem v2g (b r:Int)(l:Bed):(hds b r l l.length).map Hd.id=l.flatten:=by
 have h:∀i,i<=l.length->(hds b r l i).map Hd.id=(l.take i).flatten:=by
  intro i;induction i with
  | zero=>intro _;simp[hds]
  | succ i ih=>
   intro D;rw[y9a,List.map_append,ih oo,List.take_add_one,List.flatten_append,List.getElem?_eq_getElem oo,List.getD,List.getElem?_eq_getElem oo];simp[hdS,Function.comp_def]
 rw[h _ (Nat.le_refl _),List.take_length]
theorem y9l (B:Bd)(r:Int):((z2q B r).map Hd.id).Perm B.flat:=by
 refine((y7p B r).map _).trans ?_;unfold v7d Bd.flat;rw[List.map_append,v2g,v2g]
theorem u8g {B:Bd}{r f t:Int}{q:Pa}(h:q∈btw (z2q B r) f t):q.id∈B.flat:=by
 have I:∀x∈z2q B r,x.id∈B.flat:=λx D=>(y9l B r).mem_iff.1 (List.mem_map_of_mem D);unfold btw at h;split at h;obtain⟨x,D,rfl⟩:=List.mem_map.1 h;exact I x (List.mem_filter.1 D).1;obtain⟨x,D,rfl⟩:=List.mem_map.1 (List.mem_reverse.1 h);exact I x (List.mem_filter.1 D).1
theorem x7m {B:Bd}{k:Nat}{x:LId}(h:x∈B.b.getD k []):x∈B.b.flatten:=by
 by_cases e:k<B.b.length;rw[List.getD,List.getElem?_eq_getElem e]at h;exact List.mem_flatten.2 ⟨_,List.getElem_mem e,h⟩;rw[List.getD,List.getElem?_eq_none oo]at h;cases h
theorem x3f {B:Bd}{r d p:Int}{i:Nat}{q:Pa}(h:q∈y6e B r d p i):q.id∈B.flat:=by
 unfold y6e at h;obtain⟨k,_,h⟩:=List.mem_flatMap.1 h;unfold x2y at h;split at h;cases h;obtain⟨x,D,rfl⟩:=List.mem_map.1 h;exact List.mem_append_right _ (x7m D)
theorem v2h {B:Bd}{r d p:Int}{q:Pa}(h:q∈z6z B r d p):q.id∈B.flat:=by
 unfold z6z at h;split at h;exact x3f (List.mem_reverse.1 h);exact x3f h
theorem v5r {B:Bd}{n:Int}{x:LId}(h:x∈B.atC 0 n):x∈B.f.flatten:=by
 unfold Bd.atC at h;split at h;unfold Bd.at at h;rw[if_pos U]at h;have D:atB B.f n≠[]:=λe=>by rw[e]at h;cases h
 exact List.mem_flatten.2 ⟨_,v5y D,h⟩;cases h
theorem x6y {B:Bd}{r d:Int}{i:Nat}{c:Cx}(hn:B.flat.Nodup)(h:c∈v0c B r d i):c.a∈B.flat/\c.b∈B.flat/\c.a≠c.b/\(c.n=1\/c.n = -1):=by
 unfold v0c at h;obtain⟨k,_,h⟩:=List.mem_flatMap.1 h;unfold u3r at h;obtain⟨x,O,h⟩:=List.mem_flatMap.1 h;obtain⟨o,M,rfl⟩:=List.mem_map.1 h;have I:x∈B.b.flatten:=x7m O;have J:o∈B.f.flatten:=v5r (List.mem_reverse.1 M);have D:o≠x:=(List.nodup_append.1 hn).2.2 o J x I;unfold x9e;split;exact⟨List.mem_append_left _ J,List.mem_append_right _ I,D,.inl U⟩;exact⟨List.mem_append_right _ I,List.mem_append_left _ J,D.symm,.inr U⟩
theorem v3s {B:Bd}{r d:Int}{c:Cx}(hn:B.flat.Nodup)(h:c∈z4h B r d):c.a∈B.flat/\c.b∈B.flat/\c.a≠c.b/\(c.n=1\/c.n = -1):=by
 unfold z4h at h;split at h;exact x6y hn (List.mem_reverse.1 h);exact x6y hn h
structure CrsOk (T:Tb) (l:List Cx):Prop where
  has:∀c∈l,z3p T c.a/\z3p T c.b/\z6n c.a c.b<0/\(-1048576<=c.n/\c.n<=1048576)/\c.n≠0
  nd:(l.map λc=>(c.a,c.b)).Nodup
theorem CrsOk.mono {T T':Tb}{l:List Cx}(h:CrsOk T l)(I:∀i,z3p T i->z3p T' i):CrsOk T' l:=⟨λc D=>⟨I _ (h.has c D).1,I _ (h.has c D).2.1,(h.has c D).2.2⟩,h.nd⟩
theorem v9i {l:List Cx}{a b:LId}{n:Int}(h:l.any (isC a b)=true):(x0m l a b n).map (λc=>(c.a,c.b))=l.map λc=>(c.a,c.b):=by
 unfold x0m;rw[if_pos h,List.map_map];refine List.map_congr_left λc _=>?_;simp only[Function.comp_apply];split;rename_i e;obtain⟨D,I⟩:=z8b.1 e;rw[D,I];rfl
theorem u1n {l:List Cx}{a b:LId}{n:Int}{c:Cx}(h:c∈x0m l a b n):c=⟨a,b,n⟩\/c∈l:=by
 unfold x0m at h;split at h;obtain⟨z,D,rfl⟩:=List.mem_map.1 h;split;exact .inl U;exact .inr D;rcases List.mem_append.1 h with k|k
 exact .inr k;exact .inl (List.mem_singleton.1 k)
theorem u1r {a b:LId}(h:a≠b)(D:¬0<z6n a b):z6n a b<0:=by
 have:=mt x0s.1 h;omega
theorem v6y {a b:LId}(h:0<z6n a b):z6n b a<0:=by
 rw[z6w];unfold z6n at h;(repeat' split at h)<;>omega
theorem CrsOk.add {T:Tb}{l l':List Cx}{c:Cx}(h:CrsOk T l)(O:z3p T c.a)(hb:z3p T c.b)(I:c.a≠c.b)(e:x2n l c=.ok l'):CrsOk T l':=by
 unfold x2n at e;dsimp only at e;obtain⟨a,b,hk,h1,h2,h3⟩:∃a b,(if 0<z6n c.a c.b then (c.b,c.a) else (c.a,c.b))=(a,b)/\z3p T a/\z3p T b/\z6n a b<0:=by
  split;rename_i k;exact⟨_,_,rfl,hb,O,v6y k⟩;rename_i k;exact⟨_,_,rfl,O,hb,u1r I k⟩
 rw[hk]at e;split at e;cases e;rename_i hr;split at e;cases e;exact⟨λx D=>h.has x (List.mem_filter.1 D).1,h.nd.sublist (List.filter_sublist.map _)⟩;rename_i M;cases e;dsimp only at hr M ⊢;refine⟨λx D=>?_,?_⟩;rcases u1n D with rfl|k
 exact⟨h1,h2,h3,by dsimp only;omega,M⟩;exact h.has x k;by_cases k:l.any (isC a b)=true;rw[v9i k];exact h.nd;unfold x0m;rw[if_neg k,List.map_append,List.map_singleton,List.nodup_append];refine⟨h.nd,sp0,λx D y hy=>?_⟩;obtain⟨z,hz,rfl⟩:=List.mem_map.1 D;rw[List.mem_singleton.1 hy];intro J;have Z:=congrArg Prod.fst J;have e2:=congrArg Prod.snd J;exact k (List.any_eq_true.2 ⟨z,hz,z8b.2 ⟨Z,e2⟩⟩)
theorem CrsOk.adds {T:Tb}:∀ {r l l':List Cx},CrsOk T l->(∀c∈r,z3p T c.a/\z3p T c.b/\c.a≠c.b)->z5y l r=.ok l'->CrsOk T l'
 | [],l,l',h,_,e=>by cases e;exact h
 | c::r,l,l',h,hr,e=>by
  unfold z5y at e
  split at e
  ·cases e
  rename_i M I
  have D:=hr c sp0
  exact CrsOk.adds (h.add D.1 D.2.1 D.2.2 I) (λx J=>hr x (List.mem_cons_of_mem _ J)) e
def YnV (T:Tb)(y:Yn):Prop:=(∀q∈y.pe,z3p T q.id)/\(y.inn=true->y.ct=0->y.nw=true)
structure MVal (p:MSt):Prop where
  inv:MInv p
  yv:∀k,k<6->YnV p.tb (p.ys.getD k yn0)
  tab:∃rk,TabR p.tb rk
  once:∀i,z3p p.tb i->(p.B.flat++p.fa++z9v p.tb).count i=1
  fa:∀i∈p.fa,z3p p.tb i
  cr:CrsOk p.tb p.cr
theorem y5t:MVal start:=by
 have I:∀y,z3a start.tb y=0:=λy=>by
  simp only[start,z3a,List.getD,List.getElem?_replicate];split<;>rfl
 have J:∀i,¬z3p start.tb i:=λi D=>by
  obtain⟨_,_,h3,Z⟩:=D;rw[I]at Z;omega
 refine⟨y0l,λk hk=>?_,⟨λ_=>0,rfl,λy M n h=>by rw[I]at h;omega,⟨λy M n h=>by rw[I]at h;omega,λy M n m h O=>by rw[I]at O;omega⟩,λi D=>absurd D (J i)⟩,λi D=>absurd D (J i),(by intro i D;cases D),⟨(by intro c hc;cases hc),by simp[start]⟩⟩;have:start.ys.getD k yn0=yn0:=by
  simp only[start,List.getD,List.getElem?_replicate];split<;>rfl
 rw[this];exact⟨(by intro q hq;cases hq),(by intro h;cases h)⟩
theorem y8h {p:MSt}{y:Int}{q:Yn}(h:MVal p)(D:MInv (p.setY y q))(O:1<=y/\y<=6)(M:YnV p.tb q):MVal (p.setY y q):=by
 have J:(y-1).toNat<p.ys.length:=by rw[h.inv.ly];omega
 refine⟨D,λk I=>?_,h.tab,h.once,h.fa,h.cr⟩;show YnV p.tb ((p.ys.set (y-1).toNat q).getD k yn0);rw[z1j J];split;exact M;exact h.yv k I
theorem j3h {p:MSt}(h:MVal p){y:Int}(D:1<=y/\y<=6):YnV p.tb (p.y y):=h.yv (y-1).toNat oo
theorem go_v {T:Tb}{y:Yn}{D:Int}{l:List Pa}(h:YnV T y)(hl:∀q∈l,z3p T q.id):YnV T (goS y D l):=⟨x1o h.1 hl,h.2⟩
theorem x5f {p q:MSt}{y M en:Int}(h:MVal p)(D:1<=y/\y<=6)(e:y3j p y M en=.ok q):MVal q/\q.B=p.B/\q.rk=p.rk:=by
 have I:=y2p h.inv D e;refine⟨?_,I.2⟩;unfold y3j at e;split at e;cases e;cases e;exact y8h h I.1 D (go_v (j3h h D) λq J=>h.inv.has _ (u8g J))
theorem v5w {p q:MSt}{o:MOp}{th st:List LId}(h:MVal p)(I:MInv q)(hy:1<=o.y/\o.y<=6)(hn:z3v o.b o.p=0)(hs:th++st=p.B.at o.b o.p)(h4:th.length<=4)(e:x0h p o th st=.ok q):MVal q:=by
 unfold x0h at e;split at e;cases e;rename_i hm;split at e;cases e;cases e;have hm:=Classical.not_not.1 hm;obtain⟨j,hj,a9⟩:∃j:Nat,j<6/\o.y=(j:Int)+1:=⟨(o.y-1).toNat,oo,oo⟩;have M:(o.y-1).toNat=j:=by omega
 have D:=h.inv.yn j hj;have b3:p.y o.y=p.ys.getD j yn0:=by unfold MSt.y;rw[M]
 rw[<-b3]at D;have a4:=j3h h hy;have a7:j<p.ys.length:=by rw[h.inv.ly];exact hj
 have a6:j<p.tb.length:=by rw[h.inv.lt];exact hj
 have a1:(p.y o.y).inn=true:=by
  unfold mkE at hm;split at hm;exact absurd hm (by assumption);split at hm;omega;rename_i k;simpa using k
 have O:=D.1.2;rw[if_pos a1]at O;have a2:p.row o.y=p.tb.getD j []:=by unfold MSt.row;rw[M]
 simp only[M,a2]at I ⊢;obtain⟨rk,ht⟩:=h.tab;have h6:=h.inv.lt;have a3:∀i∈th,z3p p.tb i:=λi I=>h.inv.has i (z6g (b:=o.b) (n:=o.p) (by rw[<-hs];exact List.mem_append_left _ I));have b0:y5l p.tb ⟨o.b,(p.y o.y).nw,th,(p.y o.y).pe⟩:=by
  refine⟨(z2p hn).1,⟨h4,O.2.1⟩,λi I=>?_,v3r O.2.2,j1q O.2.2⟩;rcases List.mem_append.1 I with k|k
  exact a3 i k;obtain⟨q,hq,rfl⟩:=List.mem_map.1 k;exact a4.1 q hq
 have a0:∀ {l:Lp} (i:LId),z3p p.tb i->z3p (p.tb.set j (p.tb.getD j []++[l])) i:=λi I=>(y3v h6 hj).2 (.inl I);refine⟨I,λk hk=>?_,⟨_,ht.add hj b0 (λe0=>a4.2 a1 (by rw[D.2,e0];rfl))⟩,λi I=>?_,λi I=>a0 i (h.fa i I),h.cr.mono a0⟩;show YnV (p.tb.set j _) ((p.ys.set j (mkS (p.y o.y))).getD k yn0);rw[z1j a7];split;refine⟨(by intro q hq;cases hq),λ_ h0=>?_⟩;have h1:(p.y o.y).ct+1=0:=h0;have:=D.1.1;omega;exact⟨λq hq=>a0 _ ((h.yv k hk).1 q hq),(h.yv k hk).2⟩;show ((p.B.put o.b o.p (st++[⟨o.y,(p.y o.y).ct⟩])).flat++p.fa++z9v (p.tb.set j (p.tb.getD j []++[_]))).count i=1;rw[List.count_append,List.count_append,v9z a6];have h1:=z3w p.B hn (st++[⟨o.y,(p.y o.y).ct⟩]) i;have h2:th.count i+st.count i=(p.B.at o.b o.p).count i:=by rw[<-hs,List.count_append]
 rw[List.count_append,List.count_singleton]at h1;dsimp only;rcases(y3v h6 hj).1 I with k|k
 have h3:=h.once i k;rw[List.count_append,List.count_append]at h3;have a8:¬((⟨o.y,(p.y o.y).ct⟩:LId) == i)=true:=by
  intro ee;have ee:(⟨o.y,(p.y o.y).ct⟩:LId)=i:=by simpa using ee
  obtain⟨_,_,_,Z⟩:=k;rw[<-ee]at Z;simp only at Z;rw[M,D.2]at Z;omega
 rw[if_neg a8]at h1;omega;have J:¬z3p p.tb i:=λZ=>by
  rw[k]at Z;obtain⟨_,_,_,Z⟩:=Z;simp only at Z;rw[show ((j:Int)+1-1).toNat=j by omega]at Z;omega
 have z1:p.B.flat.count i=0:=List.count_eq_zero.2 λz=>J (h.inv.has i z);have z2:p.fa.count i=0:=List.count_eq_zero.2 λz=>J (h.fa i z);have z3:(z9v p.tb).count i=0:=List.count_eq_zero.2 λz=>J (x7s ht z);have z4:th.count i=0:=List.count_eq_zero.2 λz=>J (a3 i z);have z5:(p.B.at o.b o.p).count i=0:=List.count_eq_zero.2 λz=>J (h.inv.has i (z6g z));have a5:((⟨o.y,(p.y o.y).ct⟩:LId) == i)=true:=by rw[k,D.2,a9];simp
 rw[if_pos a5]at h1;omega
theorem y6z {p:MSt}{d:Int}:∀ {l l':List Yn},z4v p d l=.ok l'->MVal p->∀k,YnV p.tb (l.getD k yn0)->YnV p.tb (l'.getD k yn0)
 | [],l',e,_,k,hk=>by cases e;exact hk
 | y::l,l',e,h,k,hk=>by
  unfold z4v at e
  split at e
  ·cases e
  rename_i O D
  split at e
  ·cases e
  rename_i M I
  cases e
  cases k with
  | succ k=>simpa only[List.getD_cons_succ] using y6z I h k (by simpa only[List.getD_cons_succ] using hk)
  | zero=>
   simp only[List.getD_cons_zero]at hk ⊢
   unfold z8g at D
   split at D
   ·cases D;exact hk
   split at D
   ·cases D
   cases D
   exact go_v hk λq J=>h.inv.has _ (v2h J)
theorem v4e {p q:MSt}{d:Int}(h:MVal p)(M:-4<=p.rk+stI d/\p.rk+stI d<=4)(e:z8p p d=.ok q):MVal q:=by
 have O:=(y8m h.inv M e).1;unfold z8p at e;split at e;cases e;rename_i ys I;split at e;cases e;rename_i cr D;cases e;refine⟨O,λk Z=>y6z I h k (h.yv k Z),h.tab,h.once,h.fa,h.cr.adds (λc J=>?_) D⟩;obtain⟨k1,k2,k3,_⟩:=v3s h.inv.B.nd J;exact⟨h.inv.has _ k1,h.inv.has _ k2,k3⟩
theorem x2u {r:Int}(J:-4<=r/\r<=4):∀ {n:Nat} {p q:MSt},MVal p->z4y n p r=.ok q->MVal q
 | 0,p,q,h,e=>by cases e;exact h
 | n+1,p,q,h,e=>by
  unfold z4y at e
  split at e
  ·cases e;exact h
  rename_i I
  split at e
  ·cases e
  rename_i O D
  have M:=h.inv.rk
  refine x2u J (v4e h ?_ D) e
  unfold stI
  split<;>split<;>omega
theorem u2z {p q:MSt}{o:MOp}(h:MVal p)(hi:MInv q)(hn:z3v o.b o.p=0)(e:z9l p o=.ok q):MVal q:=by
 unfold z9l at e;split at e;cases e;split at e;cases e;rename_i D;have D:=Classical.not_not.1 D;split at e;cases e;split at e;cases e;cases e;refine⟨hi,h.yv,h.tab,λi hh=>?_,h.fa,h.cr⟩;have Z:=(z2p hn).1;have hc:=y4x (p:=p) (o:=o) Z i;have I:(p.B.put o.b o.p []).at (1-o.b) (z6o o.b o.p p.rk)=p.B.at (1-o.b) (z6o o.b o.p p.rk):=by
  rw[y8q p.B hn D,if_neg oo]
 have J:=z3w p.B hn [] i;have M:=z3w (p.B.put o.b o.p []) D (z9j p o) i;have O:=h.once i hh;rw[I]at M;show (((p.B.put o.b o.p []).put (1-o.b) (z6o o.b o.p p.rk) (z9j p o)).flat++p.fa++z9v p.tb).count i=1;simp only[List.count_append]at O ⊢;simp only[List.count_nil]at J;omega
theorem u0j {p q:MSt}{o:MOp}(h:MVal p)(M:MInv q)(hn:z3v o.b o.p=0)(e:y3h p o=.ok q):MVal q:=by
 unfold y3h at e;split at e;cases e;cases e;refine⟨M,h.yv,h.tab,λi D=>?_,λi D=>?_,h.cr⟩;have I:=z3w p.B hn [] i;have J:=h.once i D;show ((p.B.put o.b o.p []).flat++(p.fa++p.B.at o.b o.p)++z9v p.tb).count i=1;simp only[List.count_append]at J ⊢;simp only[List.count_nil]at I;omega;rcases List.mem_append.1 D with k|k
 exact h.fa i k;exact h.inv.has i (z6g k)
theorem v5k {p q:MSt}{o:MOp}(h:MVal p)(e:doM p o=.ok q):MVal q:=by
 have I:=v3l h.inv e;unfold doM at e;split at e;cases e;rename_i hc;obtain⟨_,h1,J,h3,M,h5⟩:=z6d (Classical.not_not.1 hc);unfold opM at e;split at e;have D:=J oo;unfold inM at e;split at e;cases e;cases e;exact y8h h I D ⟨(by intro q Z;cases Z),λ_ _=>rfl⟩;split at e;have D:=J oo;unfold v0s at e;split at e;cases e;cases e;exact y8h h I D ⟨(by intro q Z;cases Z),(by intro k;cases k)⟩;split at e;exact x2u (h5 oo) h e;split at e;have D:=J oo;have O:=M oo;unfold y2k at e;split at e;cases e;split at e;cases e;rename_i r hr;obtain⟨v1,v2,v3⟩:=x5f h D hr;exact v5w v1 I D O sp0 (z9r v1.inv.B _ _) e;split at e;have D:=J oo;have O:=M oo;unfold y0v at e;split at e;cases e;split at e;cases e;rename_i r hr;obtain⟨v1,v2,v3⟩:=x5f h D hr;split at e;cases e;exact v5w v1 I D O sp0 sp0 e;split at e;have D:=J oo;unfold y5m at e;split at e;cases e;exact(x5f h D e).1;split at e;exact u2z h I (M oo) e;exact u0j h I (M oo) e
theorem x4i:∀ {l:List MOp} {i:Nat} {p q:MSt},MVal p->z3y i p l=.ok q->MVal q
 | [],i,p,q,h,e=>by cases e;exact h
 | o::l,i,p,q,h,e=>by
  unfold z3y at e
  split at e
  ·cases e
  rename_i I D
  exact x4i (v5k h D) e
structure StQ where
  rk:Int
  q:BdQ
  yv:SV
  ys:List YQ
  fb:FbQ
structure St where
  rk:Int
  B:Bd
  ys:List Yn
  fb:Fb
abbrev StQ.p (s:StQ):St:=⟨s.rk,s.q.p,s.ys.map YQ.p,s.fb.p⟩
def YsA (w:World)(ys:List YQ):Prop:=∀i,Sl z2f w (slv (ys.getD i yq0).pe) (ys.getD i yq0).pes
theorem YsA.ext {w w':World}{ys:List YQ}(h:YsA w ys)(hf:Fr [] w w'):YsA w' ys:=λi=>(h i).ext hf
structure StAt (w:World) (s:StQ):Prop where
  b:BdAt w s.q
  y:Sl z2z w (slv s.yv) s.ys
  ya:YsA w s.ys
  f:FbAt w s.fb
theorem StAt.ext {w w':World}{s:StQ}(h:StAt w s)(hf:Fr [] w w'):StAt w' s:=⟨h.b.ext hf,h.y.ext hf,h.ya.ext hf,h.f.ext hf⟩
theorem v9s {κ:Type}[DecidableEq κ]{V:κ->Value}{w:World}{g:Nat}(h:MapF V w g λ_=>none):MapL V w g []:=by
 obtain⟨J,c,m,M,O,Z⟩:=h;have D:m=[]:=by
  cases m with
  | nil=>rfl
  | cons p m=>have:=Z p.1;simp[z1h]at this
 subst D;have I:J.toList=[]:=List.map_eq_nil_iff.1 O;refine⟨J,c,M,by rw[I];rfl,sp0,by rw[I];simp,λe D=>by rw[I]at D;cases D⟩
theorem z8j {κ:Type}[DecidableEq κ]{m:List (κ×Value)}{k:κ}{v:Value}(h:k∉m.map (·.1)):z1u m k v=m++[(k,v)]:=by
 unfold z1u;have:(m.map (·.1)).findIdx? (λx=>decide (k=x))=none:=by
  rw[List.findIdx?_eq_none_iff];intro x D;have:k≠x:=λe=>h (e▸D);simpa using this
 rw[this]
abbrev cxK (c:Cx):LId×LId:=(c.a,c.b)
theorem y9x (l:List Cx):(crM l).map (·.1)=l.map cxK:=by unfold crM;rw[List.map_map];rfl
theorem u3a {l:List Cx}{i:Nat}(hn:(l.map cxK).Nodup)(I:i<l.length):z1u (crM (l.take i)) (cxK (l.getD i cx0)) (.int .i64 (l.getD i cx0).n)=crM (l.take (i+1)):=by
 have e:l.take (i+1)=l.take i++[l.getD i cx0]:=by rw[List.take_add_one,List.getD,List.getElem?_eq_getElem I];rfl
 rw[z8j,e];unfold crM;rw[List.map_append];rfl;rw[y9x];intro J;have D:(((l.take i)++[l.getD i cx0]).map cxK).Nodup:=by
  rw[<-e];exact List.Nodup.sublist (List.Sublist.map _ (List.take_sublist _ _)) hn
 rw[List.map_append]at D;exact(List.nodup_append.1 D).2.2 _ J _ (List.mem_singleton.2 U) U
theorem y7f {τ:TyK}{Mt:Nat}{w0 w:World}{s:StQ}{fs bs:List IQ}{Z O gy gt M gk I:Nat}{ps:List YQ}{us:List TQ}
    (hk:Blk w gk Mt [.int .i64 s.rk,.slice (some ⟨Z,0,none⟩) fs.length fs.length,.slice (some ⟨O,0,none⟩) bs.length bs.length,.slice (some ⟨gy,0,none⟩) s.ys.length s.ys.length,.slice (some ⟨gt,0,none⟩) s.fb.ts.length s.fb.ts.length,.map (some M),.slice (some ⟨I,0,none⟩) s.fb.fs.length s.fb.fs.length])
    (hF:RwO τ.S τ.I w0.heap.size w (.slice (some ⟨Z,0,none⟩) fs.length fs.length) fs) (hB:RwO τ.S τ.I w0.heap.size w (.slice (some ⟨O,0,none⟩) bs.length bs.length) bs)
    (hY:YsO τ w0.heap.size w (.slice (some ⟨gy,0,none⟩) s.ys.length s.ys.length) ps) (hpl:ps.length=s.ys.length) (hpm:ps.map YQ.p=s.ys.map YQ.p)
    (hT:TbO τ w0.heap.size w (.slice (some ⟨gt,0,none⟩) s.fb.ts.length s.fb.ts.length) us) (hul:us.length=s.fb.ts.length) (htm:z1s us=z1s s.fb.ts)
    (hm:MapF crK w M λ_=>none) (hf:Lw.Own z1f τ.I w0.heap.size w (.slice (some ⟨I,0,none⟩) s.fb.fs.length s.fb.fs.length) s.fb.fs) (hly:s.ys.length=6) (hlt:s.fb.ts.length=6)
    (hfr:Fr [] w0 w) (hgc:w0.heap.size<=M) (hgk:w0.heap.size<=gk) (hfb:∀x∈fs++bs,I∉z0u (slv x.1)) (hft:∀i,i<6->∀q∈(us.getD i tq0).2,I∉z0u (slv q.th)) (hpF:plB fs=trimB (plB s.q.fs)) (hpB:plB bs=trimB (plB s.q.bs)) :
    ∃m:MQ,MkM τ Mt w0 ⟨gk,gy,6,gt,6,M,w⟩ w m/\m.p=⟨s.rk,⟨trimB (plB s.q.fs),trimB (plB s.q.bs)⟩,s.ys.map YQ.p,z1s s.fb.ts,[],s.fb.fs⟩:=by
  refine⟨⟨s.rk,⟨(some ⟨Z,0,none⟩,fs.length,fs.length),(some ⟨O,0,none⟩,bs.length,bs.length),fs,bs⟩,ps,us,[],(some ⟨I,0,none⟩,s.fb.fs.length,s.fb.fs.length),s.fb.fs⟩,⟨?_,⟨hF,hB⟩,?_,?_,v9s hm,hf,λx hx k D J=>?_,λi hi q hq k D J=>?_,by rw[hpl,hly],by rw[hul,hlt],hgk,hgc,⟨hfr,KpM.refl _ _ _⟩⟩,?_⟩
  · rw[hly,hlt]at hk;exact hk
  · rw[hly]at hY;exact hY
  · rw[hlt]at hT;exact hT
  · simp[z0u,slv]at J;subst J;exact hfb x hx D
  · simp[z0u,slv]at J;subst J;exact hft i hi q hq D
  · show (⟨s.rk,⟨plB fs,plB bs⟩,ps.map YQ.p,z1s us,[],s.fb.fs⟩:MSt)=_
    rw[hpF,hpB,hpm,htm]
end Go.G08
namespace Go.G08
open Go.Lw Go.G21 Go.Proofs Go.Sort
theorem v9x (X:World)(o:Obj)(b:Nat)(h:X.heap.size=b):(X.alloc o).drew.heap[b]?=some o:=by subst h;show (X.heap.push o)[X.heap.size]?=some o;simp
theorem j6h (X:World)(o:Obj)(b:Nat)(h:X.heap.size=b):(X.alloc o).heap[b]?=some o:=by subst h;show (X.heap.push o)[X.heap.size]?=some o;simp
def DG (w w':World):Prop:=∃q os',w'=grow (w.drewN q) os'
theorem DG.refl (w:World):DG w w:=⟨0,#[],by rw[grow_empty];rfl⟩
theorem DG.alloc {w w':World}(h:DG w w')(o:Obj):DG w (w'.alloc o):=by
 obtain⟨q,D,rfl⟩:=h;exact⟨q,D++#[o],by rw[alloc_eq_grow,grow_grow]⟩
theorem DG.drew {w w':World}(h:DG w w'):DG w w'.drew:=by
 obtain⟨q,D,rfl⟩:=h;exact⟨q+1,D,rfl⟩
theorem DG.trans {a b c:World}(h:DG a b)(I:DG b c):DG a c:=by
 obtain⟨q,J,rfl⟩:=h;obtain⟨M,D,rfl⟩:=I;exact⟨q+M,J++D,by rw[<-grow_grow];unfold grow World.drewN;simp[Nat.add_assoc]⟩
theorem DG.cell {w w':World}(h:DG w w'){p:Addr}{v:Value}(hb:w.cell? p=some v):w'.cell? p=some v:=by
 obtain⟨q,I,rfl⟩:=h;have D:=block_lt_of_cell hb;refine(World.cell?_of_block (w:=w) ?_).trans hb;show (w.heap++I)[p.block]?=_;rw[Array.getElem?_append_left D]
theorem j3f {X:World}{b T:Nat}{x y:Int}(h:X.heap[b]?=some (.cells #[.int .i64 x,.int .i64 y] T (0,0))):Sl Enc.i64 X (.slice (some ⟨b,0,none⟩) 2 2) [x,y]:=
 Lw.Own.sl (E:=Enc.i64) (T:=T) (base:=b) (.inr ⟨b,2,_,rfl,Nat.le_refl _,h,Nat.le_refl _,dd,Nat.le_refl 2,rfl⟩)
def x5u (x y:Cx):Int:=if z6n x.a y.a≠0 then z6n x.a y.a else z6n x.b y.b
abbrev j2j (c:Cx):Value:=.agg #[.int .u8 c.a.y,.int .i64 c.a.n,.int .u8 c.b.y,.int .i64 c.b.n,.int .i64 c.n]
section
variable {α:Type} [Inhabited α] (E:Enc α)
theorem y6m (ys:Array α):(flatK E.enc E.sz ys).toList=ys.toList.flatMap E.enc:=by
 refine List.ext_getElem? λt=>?_;have O:=E.pos;by_cases ht:t<ys.size*E.sz;have M:t / E.sz<ys.size:=Nat.div_lt_of_lt_mul (by rw[Nat.mul_comm];exact ht);have D:t % E.sz<E.sz:=Nat.mod_lt _ O;have I:=get_flatK E.enc E.sz ys t ht;have J:=E.flat_get ys.toList (t / E.sz) ys[t / E.sz] (by simp[M]) (t % E.sz) D;rw[show t / E.sz*E.sz+t % E.sz=t by rw[Nat.mul_comm];exact Nat.div_add_mod t E.sz]at J;rw[J,Array.getElem?_toList];rw[getElem!_pos (flatK E.enc E.sz ys) t (by simpa using ht),getElem!_pos ys (t / E.sz) M,getElem!_pos (E.enc ys[t / E.sz]) (t % E.sz) (by rw[E.len];exact D)]at I;rw[Array.getElem?_eq_getElem (by simpa using ht),I,List.getElem?_eq_getElem (by rw[E.len];exact D)];rw[List.getElem?_eq_none so,List.getElem?_eq_none (by rw[E.flat_len];simp;omega)]
variable {E} {w:World} {g T cap base:Nat} {cur:Array Value}
theorem v7l {ys:List α}(h:w.heap[g]?=some (.cells cur T (0,0)))(O:ys.length*E.sz<=cur.size)(M:cur.toList.take (ys.length*E.sz)=ys.flatMap E.enc):HoldsK E.enc E.sz w g 0 ys.toArray:=by
 intro j I;have J:j<ys.length*E.sz:=by simpa using I
 have e:=y6m E ys.toArray;rw[<-show cur.toList.take (ys.length*E.sz)=ys.toArray.toList.flatMap E.enc from M]at e;have D:=congrArg (λl:List Value=>l[j]?) e;simp only[Array.getElem?_toList,List.getElem?_take,J,if_true]at D;constructor;rw[Nat.zero_add,getElem!_pos _ j I];rw[Array.getElem?_eq_getElem I]at D;simp only[World.cell?,h];exact D.symm;simp only[World.frozen?,h];simp
theorem u1a {ys:List α}(h:w.heap[g]?=some (.cells cur T (0,0)))(hs:ys.length*E.sz<=cur.size)(hb:base<=g)(hc:ys.length<=cap)(hM:cap<=maxLen)(M:cap*E.sz<=cur.size)(d:Array α)(I:d.size=ys.length)(n:Nat)(J:Array Obj) :
    Lw.Own E T base (sortWorldK E.enc E.sz w g 0 n d J) (.slice (some ⟨g,0,none⟩) ys.length cap) d.toList/\Fr [g] w (sortWorldK E.enc E.sz w g 0 n d J):=by
  have hg:g<w.heap.size:=(Array.getElem?_eq_some_iff.1 h).1
  have D:∀k,k<w.heap.size->(sortWorldK E.enc E.sz w g 0 n d J).heap[k]?=(w.heap.modify g (onCells (putCells id 0 (flatK E.enc E.sz d))))[k]?:=λk Z=>by
    show ((w.heap.modify g _)++J)[k]?=_
    rw[Array.getElem?_append_left (by simpa using Z)]
  refine⟨.inr ⟨g,cap,putCells id 0 (flatK E.enc E.sz d) cur,by rw[show d.toList.length=ys.length by simpa using I],hb,?_,by simpa[I] using hc,hM,by simpa[putCells] using M,?_⟩,rfl,rfl,rfl,?_,λk Z hn=>?_⟩
  · rw[D g hg,Array.getElem?_modify,if_pos U,h];rfl
  · rw[<-y6m E d]
    refine List.ext_getElem? λt=>?_
    have O:d.toList.length=ys.length:=by simpa using I
    rw[List.getElem?_take,O]
    by_cases ht:t<ys.length*E.sz
    · rw[if_pos ht,Array.getElem?_toList,Array.getElem?_toList]
      unfold putCells
      rw[Array.getElem?_mapIdx,Array.getElem?_eq_getElem (show t<cur.size by omega),Array.getElem?_eq_getElem (show t<(flatK E.enc E.sz d).size by simpa[I] using ht)]
      simp only[Option.map_some,Nat.zero_le,Nat.zero_add,true_and,Nat.sub_zero,id]
      rw[if_pos (by simpa[I] using ht),getElem!_pos _ t (by simpa[I] using ht)]
    · rw[if_neg ht,List.getElem?_eq_none (by simp[I];omega)]
  · show w.heap.size<=((w.heap.modify g _)++J).size
    simp
  · rw[D k Z,Array.getElem?_modify,if_neg (λe=>hn (by simp[e]))]
open Go.Shelf in
theorem y8d {P:Program}{ρ:Ren}(L:SlLaysF0.n6 P ρ){f cl:Nat}(hf:ρ.f 6=f)(aE:∀w,(isAgg (ρ.t 24)).run P w=.ok true w)(zE:∀w,(Go.sizeOf (ρ.t 24)).run P w=.ok E.sz w)(cf:α->α->Int)(hO:SWO (ltOf cf))
    (eg:∀D w,(callFunc cl D).run P w=.ok (.enter cl D) w)
    (hcmp:∀x y W,Calls P cl #[.agg (E.enc x).toArray,.agg (E.enc y).toArray] W λe w'=>e=.returned (.int .i64 (cf x y))/\DG W w')
    (hnil:∀W,Calls P f #[.slice none 0 0,.func (.func cl) #[] #[]] W λe w'=>e=.returned (.tuple #[])/\Fr [] W w')
    {v:Value} {ys:List α} (ho:Lw.Own E T base w v ys) (hl:ys.length<4611686018427387904):Rets P f #[v,.func (.func cl) #[] #[]] w λr w'=>r=.tuple #[]/\∃ys',ys'.Perm ys/\ys'.Pairwise (λa b=>¬cf b a<0)/\Lw.Own E T base w' v ys'/\Fr (z0u v) w w':=by
  subst hf
  rcases ho with ⟨rfl,rfl⟩|⟨g,cap,cur,rfl,h2,J,h4,h5,h6,h7⟩
  · exact Calls.mono (hnil w) (by rintro e w' ⟨rfl,h⟩;exact⟨_,rfl,rfl,[],.refl _,.nil,Lw.Own.nil _,h.weak sp0⟩)
  · have hs:ys.length*E.sz<=cur.size:=Nat.le_trans (Nat.mul_le_mul_right _ h4) h6
    have h:=AnyQ.slices_SortFunc L E.sz aE zE E.enc E.len E.one cf hO cl #[] g 0 cap ys.toArray w eg (λm os dk _ x y=>hcmp x y _) (v7l J hs h7) (Array.getElem?_eq_some_iff.1 J).1 (by simpa using hl)
    rw[show ys.toArray.size=ys.length by simp]at h
    refine Calls.mono h ?_
    rintro e w' ⟨rfl,I,n,os,hp,a1,rfl⟩
    have M:I.size=ys.length:=by simpa using hp.1
    obtain⟨k1,k2⟩:=u1a (base:=base) J hs h2 h4 h5 h6 I M n os
    refine⟨_,rfl,rfl,I.toList,?_,?_,k1,by simpa[z0u] using k2⟩
    · have:=hp.2.2
      simp[M]at this
      rwa [List.take_of_length_le (by simpa using Nat.le_of_eq M)]at this
    · rw[List.pairwise_iff_getElem]
      intro i j hi hj Z
      have O:i<I.size:=by simpa using hi
      have a0:j<I.size:=by simpa using hj
      have:=a1 i j (Nat.zero_le _) Z oo
      rw[getElem!_pos I i O,getElem!_pos I j a0]at this
      simpa[ltOf] using this
end
theorem y2e {x y:Cx}:x5u x y<0↔(x.a.y<y.a.y\/x.a.y=y.a.y/\x.a.n<y.a.n)\/(x.a.y=y.a.y/\x.a.n=y.a.n)/\(x.b.y<y.b.y\/x.b.y=y.b.y/\x.b.n<y.b.n):=by
 unfold x5u;have e:z6n x.a y.a=0↔x.a.y=y.a.y/\x.a.n=y.a.n:=by rw[x0s];obtain⟨⟨_,_⟩,_,_⟩:=x;obtain⟨⟨_,_⟩,_,_⟩:=y;simp
 split;rename_i h;rw[z6w];rw[Ne,e]at h;omega;rename_i h;rw[Decidable.not_not,e]at h;rw[z6w];omega
theorem swoI:SWO (ltOf z6n):=by
 constructor;intro x;simp only[ltOf,decide_eq_false_iff_not,z6w];omega;intro x y z;simp only[ltOf,decide_eq_true_eq,z6w];omega;intro x y z;simp only[ltOf,decide_eq_false_iff_not,z6w];omega
theorem swoX:SWO (ltOf x5u):=by
 constructor;intro x;simp only[ltOf,decide_eq_false_iff_not,y2e];omega;intro x y z;simp only[ltOf,decide_eq_true_eq,y2e];omega;intro x y z;simp only[ltOf,decide_eq_false_iff_not,y2e];omega
def z7n (l:List LId):List LId:=l.mergeSort λa b=>decide (¬z6n b a<0)
def x2z (l:List Cx):List Cx:=l.mergeSort λa b=>decide (¬x5u b a<0)
theorem z5i (l:List LId):(z7n l).Perm l:=List.mergeSort_perm ..
theorem z8n (l:List Cx):(x2z l).Perm l:=List.mergeSort_perm ..
theorem u0m (l:List LId):(z7n l).Pairwise λa b=>¬z6n b a<0:=
 (List.pairwise_mergeSort (le:=λa b=>decide (¬z6n b a<0)) (λa b c=>by simp only[decide_eq_true_eq,z6w];omega) (λa b=>by simp only[Bool.or_eq_true,decide_eq_true_eq,z6w];omega) l).imp sp0
theorem x6i (l:List Cx):(x2z l).Pairwise λa b=>¬x5u b a<0:=
 (List.pairwise_mergeSort (le:=λa b=>decide (¬x5u b a<0)) (λa b c=>by simp only[decide_eq_true_eq,y2e];omega) (λa b=>by simp only[Bool.or_eq_true,decide_eq_true_eq,y2e];omega) l).imp sp0
theorem u9k {l l':List LId}(hp:l'.Perm l)(J:l'.Pairwise λa b=>¬z6n b a<0):l'=z7n l:=by
 refine List.Perm.eq_of_pairwise (λa b _ _ D I=>?_) J (u0m l) (hp.trans (z5i l).symm);rw[z6w]at D I;obtain⟨_,_⟩:=a;obtain⟨_,_⟩:=b;simp only at D I;rw[LId.mk.injEq];omega
theorem v1v {l l':List Cx}(hn:(l.map λc=>(c.a,c.b)).Nodup)(hp:l'.Perm l)(hs:l'.Pairwise λa b=>¬x5u b a<0):l'=x2z l:=by
 refine List.Perm.eq_of_pairwise (λa b ha hb M O=>?_) hs (x6i l) (hp.trans (z8n l).symm);have I:=hp.mem_iff.1 ha;have J:=(z8n l).mem_iff.1 hb;have hk:(a.a,a.b)=(b.a,b.b):=by
  rw[y2e]at M O;obtain⟨⟨_,_⟩,⟨_,_⟩,_⟩:=a;obtain⟨⟨_,_⟩,⟨_,_⟩,_⟩:=b;simp only at M O;simp only[Prod.mk.injEq,LId.mk.injEq];omega
 have D:=List.pairwise_iff_getElem.1 (List.pairwise_map.1 hn);obtain⟨i,Z,rfl⟩:=List.getElem_of_mem I;obtain⟨j,hj,rfl⟩:=List.getElem_of_mem J;rcases Nat.lt_trichotomy i j with h|h|h
 exact absurd hk (D i j Z hj h);subst h;rfl;exact absurd hk.symm (D j i hj Z h)
end Go.G08
namespace Go.Lw
section
variable {P:Program} {ops:Array Oper} {Q:Exit->Act->World->Prop} {rest:List Oper} {n:Nat} {ds:List Nat} {L:List (Nat×Value)} {w:World} {d:Nat} {x:Operand} {t K E g ty:Nat} {pos:String} {after:Array Edge} {κ:Type} [DecidableEq κ] {V:κ->Value} {m:List (κ×Value)}
theorem j6t (hx:ev L x=some (.map (some g)))(O:MapL V w g m)(Z:P.underlying t=some (.map K E))(hn:Nat.blt d n=true)(q:WL P ops Q rest n ds w ((d,.int .i64 (m.length:Int))::L)):WL P ops Q (⟨some d,.call ⟨.builtin .len,#[x],#[t]⟩,ty,pos,after,none⟩::rest) n ds w L:=λa h=>by
 obtain⟨D,c,I,J,_⟩:=O
 have M:D.size=m.length:=by have:=congrArg List.length J;simpa using this
 refine z2a h U hn (w':=w) (v:=.int .i64 (m.length:Int)) ?_ q
 rw[z2k];unfold builtin
 simp[h.eval hx,Builtin.len_,run_underlying Z,z2h I,M]
 rfl
theorem MapIt.no {gi:Nat}{rem:List (κ×Value)}{cur:Option (κ×Value)}(h:MapIt V w gi g m rem cur):MapIt V w gi g m rem none:=by
 obtain⟨I,c,D,M,O,k3,Z,k5,k6,_⟩:=h;exact⟨I,c,D,M,O,k3,Z,k5,k6,λp J=>by cases J⟩
end
end Go.Lw
namespace Go.G08
open Go.Lw Go.G21
theorem u6h (a b:List Cx):crM (a++b)=crM a++crM b:=by unfold crM;rw[List.map_append]
theorem v4z {l:List Cx}{r1 r2:List ((LId×LId)×Value)}{p:(LId×LId)×Value}(h:crM l=r1++p::r2):∃D c I,l=D++c::I/\r1=crM D/\p=((c.a,c.b),.int .i64 c.n)/\r2=crM I:=by
 unfold crM at h;obtain⟨D,l',rfl,J,M⟩:=List.map_eq_append_iff.1 h;obtain⟨c,I,rfl,O,Z⟩:=List.map_eq_cons_iff.1 M;exact⟨D,c,I,rfl,J.symm,O.symm,Z.symm⟩
section
variable {P:Program} {ops:Array Oper} {Q:Exit->Act->World->Prop} {rest:List Oper} {n:Nat} {ds:List Nat} {L:List (Nat×Value)} {w:World} {d:Nat} {x:Operand} {t g gi ty:Nat} {pos:String} {after:Array Edge} {em:List ((LId×LId)×Value)} {rem:List Cx}
def CrIt (w:World)(gi g:Nat)(em:List ((LId×LId)×Value))(rem:List Cx)(cur:Option Cx):Prop:=MapIt crK w gi g em (crM rem) (cur.map λc=>((c.a,c.b),.int .i64 c.n))
theorem CrIt.fr {w':World}{S:List Nat}{cur:Option Cx}(h:CrIt w gi g em rem cur)(hf:Fr S w w')(hn:∀k∈S,k≠g/\k≠gi):CrIt w' gi g em rem cur:=MapIt.fr h hf (λe=>(hn g e).1 U) (λe=>(hn gi e).2 U)
theorem CrIt.ext {w':World}{cur:Option Cx}(h:CrIt w gi g em rem cur)(hf:Fr [] w w'):CrIt w' gi g em rem cur:=h.fr hf sp0
theorem CrIt.no {cur:Option Cx}(h:CrIt w gi g em rem cur):CrIt w gi g em rem none:=MapIt.no h
theorem CrIt.lt {cur:Option Cx}(h:CrIt w gi g em rem cur):gi<w.heap.size:=MapIt.lt h
theorem CrIt.neO {α:Type}{E:Enc α}{T base:Nat}{v:Value}{ys:List α}{cur:Option Cx}(h:CrIt w gi g em rem cur)(ho:Lw.Own E T base w v ys):∀k∈z0u v,k≠g/\k≠gi:=λk I=>by
 obtain⟨es,c,M,O,_,_,_,Z,_⟩:=h
 rcases ho with ⟨rfl,_⟩|⟨g',cap,J,rfl,_,D,_⟩
 ·simp[z0u]at I
 simp only[z0u,List.mem_singleton]at I
 subst I
 exact⟨λe=>(by rw[e,O]at D;cases D),λe=>(by rw[e,Z]at D;cases D)⟩
theorem v9a {K E:Nat}{l:List Cx}(J:ev L x=some (.map (some g)))(D:MapL crK w g (crM l))(I:P.underlying t=some (.map K E))(hn:Nat.blt d n=true)
 (q:∀gi w',gi=w.heap.size->CrIt w' gi g (crM l) l none->Fr [] w w'->w'.heap.size=gi+1->WL P ops Q rest n ds w' ((d,.pointer (some ⟨gi,0,none⟩))::L)):WL P ops Q (⟨some d,.range t x,ty,pos,after,none⟩::rest) n ds w L:=x8g J D I hn q
theorem u9p {cur:Option Cx}(Z:ev L x=some (.pointer (some ⟨gi,0,none⟩)))(O:CrIt w gi g em rem cur)(hn:Nat.blt d n=true)
    (qt:∀D c I,rem=D++c::I->∀w',CrIt w' gi g em (D++I) (some c)->Fr [gi] w w'->w'.heap.size=w.heap.size->WL P ops Q rest n ds w' ((d,.tuple #[.bool true,crK (c.a,c.b),.int .i64 c.n])::L))
    (qf:rem=[]->WL P ops Q rest n ds w ((d,.tuple #[.bool false])::L)):WL P ops Q (⟨some d,.next x false,ty,pos,after,none⟩::rest) n ds w L:=
  v2v Z O hn (λr1 p r2 J w' M hf hz=>by
    obtain⟨D,c,I,rfl,rfl,rfl,rfl⟩:=v4z J
    exact qt D c I U w' (by unfold CrIt;rw[u6h];exact M) hf hz) (λJ=>qf (List.map_eq_nil_iff.1 J))
theorem v9l {c:Cx}(I:ev L x=some (.pointer (some ⟨gi,0,none⟩)))(D:CrIt w gi g em rem (some c))(hn:Nat.blt d n=true)
 (q:WL P ops Q rest n ds w ((d,.tuple #[.agg #[.int .u8 c.a.y,.int .i64 c.a.n,.int .u8 c.b.y,.int .i64 c.b.n],.int .i64 c.n])::L)):WL P ops Q (⟨some d,.entry x,ty,pos,after,none⟩::rest) n ds w L:=x8d (p:=((c.a,c.b),.int .i64 c.n)) I D hn q
end
section
variable {τ:TyK} {Mt:Nat} {wS w w':World} {a:MA} {m:MQ} {j:Nat} {u:SV}
theorem MkM.tabh (h:MkM τ Mt wS a w m)(I:MtOk τ Mt)(hj:j<6)(h1:Lw.Own z6q τ.L wS.heap.size w (slv u) (m.ts.getD j tq0).2)(M:∀i,i<6->∀b∈z0u (slv (m.ts.getD i tq0).1),b∉z0u (slv u))
    (h2:Lw.Own z4c τ.T wS.heap.size w' a.TV (m.ts.set j (u,(m.ts.getD j tq0).2))) (f2:Fr [a.gt] w w'):MkM τ Mt wS a w' { m with ts:=m.ts.set j (u,(m.ts.getD j tq0).2) }:=by
  have hl:j<m.ts.length:=by rw[h.lt];exact hj
  have J:∀T,T≠τ.T->OffT w T [a.gt]:=λT hT=>z4z h.t.out (Ne.symm hT)
  refine⟨y1o h.k f2 (J _ I.t),BdO.tf h.b f2 (J _ (Ne.symm I.o.ts)) (J _ (Ne.symm I.o.ti)),h.y.tf f2 (J _ I.o.yt) (J _ (Ne.symm I.o.tp)),⟨h2,λi D=>?_,λi k D Z a2=>?_,λi D q hq=>?_⟩,h.c.tf f2 (J _ I.t),z1v h.f f2 (J _ (Ne.symm I.o.ti)),h.fb,λi D p O=>?_,h.ly,by rw[List.length_set];exact h.lt,h.gk,h.gc,h.fr.step f2 (y4y h.t.out (by simp[v8k])) λk Z a3=>?_⟩
  · simp only[List.length_set]at D
    rw[z1j hl]
    split
    · exact z1v h1 f2 (J _ (Ne.symm I.o.tl))
    · exact z1v (h.t.ins i D) f2 (J _ (Ne.symm I.o.tl))
  · simp only[List.length_set]at D Z
    rw[z1j hl,z1j hl]
    split
    · rw[if_neg oo];exact λb hb a1=>M k (by rw[<-h.lt];exact Z) b a1 hb
    · split
      · exact M i (by rw[<-h.lt];exact D)
      · exact h.t.off i k D Z a2
  · simp only[List.length_set]at D
    rw[z1j hl]at hq
    have a0:q∈(m.ts.getD i tq0).2:=by split at hq;(rename_i e;subst e;exact hq);exact hq
    exact⟨z1v (h.t.lps i D q a0).1 f2 (J _ (Ne.symm I.o.ti)),z1v (h.t.lps i D q a0).2 f2 (J _ (Ne.symm I.o.tp))⟩
  · simp only at O
    rw[z1j hl]at O
    split at O
    · rename_i e;subst e;first|exact h.ft _ D p O|exact h.ft _ hj p O
    · exact h.ft i D p O
  · have:=(h.t.out.blk k Z).1;omega
theorem MkM.fallS {l:List LId}(h:MkM τ Mt wS a w m)(M:MtOk τ Mt)(D:τ.I≠τ.P)(h1:Lw.Own z1f τ.I wS.heap.size w' (slv m.fa) l)(J:Fr (z0u (slv m.fa)) w w'):MkM τ Mt wS a w' { m with fl:=l }:=by
 have I:=y1o h.k J (z4z h.f (Ne.symm M.i));exact MkM.fall (u:=m.fa) h M D h1 J (λk I=>.inl I) I ((Fr.refl [] w').weak sp0)
def stM (p:MSt):St:=⟨p.rk,p.B,p.ys,⟨p.tb,x2z p.cr,(z2q p.B p.rk).map Hd.id,z7n p.fa⟩⟩
structure MkW (τ:TyK) (base:Nat) (a:MA) (w:World) (m:MQ):Prop where
  b:BdO τ.S τ.I base w m.q
  y:YsO τ base w a.YV m.ys
  t:TbO τ base w a.TV m.ts
theorem MkM.toW (h:MkM τ Mt wS a w m):MkW τ wS.heap.size a w m:=⟨h.b,h.y,h.t⟩
theorem MkW.ext {base:Nat}(h:MkW τ base a w m)(hf:Fr [] w w'):MkW τ base a w' m:=⟨h.b.ext hf,h.y.ext hf,h.t.ext hf⟩
theorem MkW.off {base g T:Nat}{cs:List Value}(h:MkW τ base a w m)(D:Blk w g T cs)(hT:T≠τ.S/\T≠τ.I/\T≠τ.Y/\T≠τ.P/\T≠τ.T/\T≠τ.L)(hf:Fr [g] w w'):MkW τ base a w' m:=by
 obtain⟨M,I,O,J,Z,h6⟩:=hT;exact⟨BdO.tf h.b hf (OffT.one D M) (OffT.one D I),h.y.tf hf (OffT.one D O) (OffT.one D J),h.t.tf hf (OffT.one D Z) (OffT.one D h6) (OffT.one D I) (OffT.one D J)⟩
def SepH (s:StQ):Prop:=∀k∈z0u (slv s.fb.h),(∀q∈s.q.fs++s.q.bs,k∉z0u (slv q.1))/\(∀t∈s.fb.ts,∀l∈t.2,k∉z0u (slv l.th))/\k∉z0u (slv s.fb.f)
structure StO (τ:TyK) (Tc base:Nat) (w:World) (s:StQ):Prop where
  b:BdO τ.S τ.I base w s.q
  y:YsO τ base w (slv s.yv) s.ys
  t:TbO τ base w (slv s.fb.t) s.fb.ts
  c:Lw.Own z5p Tc base w (slv s.fb.c) s.fb.cs
  h:Lw.Own z1f τ.I base w (slv s.fb.h) s.fb.hs
  f:Lw.Own z1f τ.I base w (slv s.fb.f) s.fb.fs
  sp:SepH s
theorem StO.ext {D base:Nat}{s:StQ}(h:StO τ D base w s)(hf:Fr [] w w'):StO τ D base w' s:=⟨h.b.ext hf,h.y.ext hf,h.t.ext hf,h.c.ext hf,h.h.ext hf,h.f.ext hf,h.sp⟩
theorem StO.off {J base g T:Nat}{cs:List Value}{s:StQ}(h:StO τ J base w s)(D:Blk w g T cs)(hT:T≠τ.S/\T≠τ.I/\T≠τ.Y/\T≠τ.P/\T≠τ.T/\T≠τ.L/\T≠J)(hf:Fr [g] w w'):StO τ J base w' s:=by
 obtain⟨O,I,Z,M,h5,h6,h7⟩:=hT;exact⟨BdO.tf h.b hf (OffT.one D O) (OffT.one D I),h.y.tf hf (OffT.one D Z) (OffT.one D M),h.t.tf hf (OffT.one D h5) (OffT.one D h6) (OffT.one D I) (OffT.one D M),z1v h.c hf (OffT.one D h7),z1v h.h hf (OffT.one D I),z1v h.f hf (OffT.one D I),h.sp⟩
theorem StO.low {J base M:Nat}{s:StQ}(h:StO τ J base w s)(hb:M<=base):StO τ J M w s:=
 ⟨⟨⟨h.b.f.1.low hb,λq I=>(h.b.f.2 q I).low hb⟩,⟨h.b.b.1.low hb,λq I=>(h.b.b.2 q I).low hb⟩⟩,⟨h.y.out.low hb,λi D=>(h.y.ins i D).low hb⟩,⟨h.t.out.low hb,λi D=>(h.t.ins i D).low hb,h.t.off,λi D q I=>⟨(h.t.lps i D q I).1.low hb,(h.t.lps i D q I).2.low hb⟩⟩,h.c.low hb,h.h.low hb,h.f.low hb,h.sp⟩
theorem StO.at {J base:Nat}{s:StQ}(h:StO τ J base w s):StAt w s:=by
 refine⟨h.b.at,h.y.out.sl,λi=>?_,⟨h.t.out.sl,λp M=>?_,h.c.sl,h.h.sl,h.f.sl⟩⟩;by_cases D:i<s.ys.length;exact(h.y.ins i D).sl;rw[List.getD,List.getElem?_eq_none oo];exact Sl.nil w;obtain⟨i,D,rfl⟩:=List.getElem_of_mem M;have e:s.fb.ts.getD i tq0=s.fb.ts[i]:=by rw[List.getD,List.getElem?_eq_getElem D];rfl
 rw[<-e];exact⟨(h.t.ins i D).sl,λq I=>⟨(h.t.lps i D q I).1.sl,(h.t.lps i D q I).2.sl⟩⟩
end
end Go.G08
namespace Go.G08
open Go.Lw Go.G21
structure PlaceV (T:Tb) (H F:List LId):Prop where
  has:∀i∈H++F,z3p T i
  asc:∀i,0<i->i<F.length->z6n (F.getD (i-1) id0) (F.getD i id0)<0
  once:∀y,y<6->∀n,n<z3a T y->(H++F++z9v T).count ⟨(y:Int)+1,(n:Int)⟩=1
  le:∀i,(H++F++z9v T).count i<=1
structure PlaceW (T:Tb) (H F:List LId):Prop where
  has:∀i∈H++F,z3p T i
  asc:∀i,0<i->i<F.length->z6n (F.getD (i-1) id0) (F.getD i id0)<0
  le:∀i,(H++F++z9v T).count i<=1
theorem PlaceV.w {T:Tb}{H F:List LId}(h:PlaceV T H F):PlaceW T H F:=⟨h.has,h.asc,h.le⟩
open Classical in
noncomputable def v8p (T:Tb)(H F:List LId):Int:=if ∃y,y<6/\∃n,n<z3a T y/\(H++F++z9v T).count ⟨(y:Int)+1,(n:Int)⟩≠1 then 6 else 0
theorem v6a {T:Tb}{H F:List LId}(h:∀y,y<6->∀n,n<z3a T y->(H++F++z9v T).count ⟨(y:Int)+1,(n:Int)⟩=1):v8p T H F=0:=if_neg λ⟨y,hy,n,hn,e⟩=>e (h y hy n hn)
theorem u7l {T:Tb}{H F:List LId}{y n:Nat}(D:y<6)(hn:n<z3a T y)(h:(H++F++z9v T).count ⟨(y:Int)+1,(n:Int)⟩≠1):v8p T H F=6:=if_pos ⟨y,D,n,hn,h⟩
structure CrsV (T:Tb) (l:List Cx):Prop where
  has:∀i,i<l.length->z3p T (l.getD i cx0).a/\z3p T (l.getD i cx0).b/\z6n (l.getD i cx0).a (l.getD i cx0).b<0/\(-1048576<=(l.getD i cx0).n/\(l.getD i cx0).n<=1048576)/\(l.getD i cx0).n≠0
  asc:∀i,0<i->i<l.length->x5u (l.getD (i-1) cx0) (l.getD i cx0)<0
theorem MVal.le {p:MSt}(h:MVal p)(i:LId):(p.B.flat++p.fa++z9v p.tb).count i<=1:=by
 by_cases k:z3p p.tb i;exact Nat.le_of_eq (h.once i k);obtain⟨J,I⟩:=h.tab;rw[List.count_eq_zero.2];omega;intro D;rcases List.mem_append.1 D with z|z
 rcases List.mem_append.1 z with z|z
 exact k (h.inv.has i z);exact k (h.fa i z);exact k (x7s I z)
theorem MVal.tabV {p:MSt}(h:MVal p):TabV p.tb:=by
 obtain⟨I,D⟩:=h.tab;refine⟨⟨h.inv.lt,h.inv.all,D.rts,I,D.rkd⟩,λi=>?_⟩;have:=h.le i;rw[List.count_append]at this;omega
end Go.G08
namespace Go.Proofs.YtjilcnmaefhmeaaGreatDoor
open Go.Lw Go.G21 Go.G08 _root_.Go.Proofs.Tryz
theorem v8x:z3o prog 117 5:=⟨λ_=>kr,λ_=>kr⟩
theorem u3w:ElemOf prog 36 117 z5p 40:=ElemOf.mk' (z:=(.agg #[.int .u8 0,.int .i64 0,.int .u8 0,.int .i64 0,.int .i64 0])) underlying36 kr U
theorem y4e:z0x prog 117 0 0:=λ_ _=>kr
theorem y4k:z0x prog 117 1 2:=λ_ _=>kr
theorem y9p:z0x prog 117 2 4:=λ_ _=>kr
theorem j3s:z1r prog 117 5:=λ_=>kr
theorem u1p (w:World):(zeroValue 117).run prog w=.ok (.agg #[(.int .u8 0),(.int .i64 0),(.int .u8 0),(.int .i64 0),(.int .i64 0)]) w:=kr
theorem u3i (x y:Cx):orZ [z6n x.a y.a,z6n x.b y.b]=x5u x y:=by
 unfold orZ orZ orZ x5u
 repeat' split
 all_goals first|rfl|omega
theorem u2e (x y:Cx)(w0:World):Rets prog 108 #[.agg #[.int .u8 x.a.y,.int .i64 x.a.n,.int .u8 x.b.y,.int .i64 x.b.n,.int .i64 x.n],.agg #[.int .u8 y.a.y,.int .i64 y.a.n,.int .u8 y.b.y,.int .i64 y.b.n,.int .i64 y.n]] w0 λr w'=>r=.int .i64 (x5u x y)/\Fr [] w0 w':=by
 refine we [(0,.agg #[.int .u8 x.a.y,.int .i64 x.a.n,.int .u8 x.b.y,.int .i64 x.b.n,.int .i64 x.n]),(1,.agg #[.int .u8 y.a.y,.int .i64 y.a.n,.int .u8 y.b.y,.int .i64 y.b.n,.int .i64 y.n])] func108 U ntmps108 U (.c2 U U) (sr (bx U (λg2 w1 a1 J q1 z1=>(bx U (λg3 w2 a2 M q2 z2=>(asg U (nn (sq ?_))))))));intro a h;refine z0h none (λwb w'=>Fr [] wb w') z2m ?_;intro w3 q3;replace J:=J.ext (q2.n1 q3);replace M:=M.ext q3;have hC:Fr [] w3 w3:=Fr.refl _ _;have D:=J;have I:=M;refine z0c 0 h U y4e U λa h=>z1b (vs:=[_,_]) 1 h U (λ_ hw=>(D.ext hw)) z2w U U λa h=>z0c 2 h U y4e U λa h=>z1b (vs:=[_,_]) 3 h U (λ_ hw=>(I.ext hw)) z2w U U λa h=>z0c 5 h U y4k U λa h=>z1b (vs:=[_,_]) 6 h U (λ_ hw=>(D.ext hw)) z2w U U λa h=>z0c 7 h U y4k U λa h=>z1b (vs:=[_,_]) 8 h U (λ_ hw=>(I.ext hw)) z2w U U λa h=>z0d 4 U (z0o h (z0a U (z0a U z0g)) j4j (y1d x.a y.a _) ?_);rintro _ w4 ⟨rfl,q4⟩ a h;replace hC:=hC.next q4;refine z0b (z0d 9 U (z0o h (z0a U (z0a U z0g)) j4j (y1d x.b y.b _) ?_));rintro _ w5 ⟨rfl,q5⟩ a h;replace J:=J.ext (q4.n1 q5);replace M:=M.ext (q4.n1 q5);replace hC:=hC.next q5;refine z0b (z0d 10 U (z2y ([z6n x.a y.a,z6n x.b y.b]) h (z0a U (z0a U z0g)) U z7m λZ w6 hg a0 q6 hz a h=>?_));have O:g2<Z:=by have:=J.lt;omega
 have O:g3<Z:=by have:=M.lt;omega
 replace hC:=hC.next q6;refine z0b (z0d 11 U (z0o h (z0a U z0g) (mkC func66) (j3q _ [z6n x.a y.a,z6n x.b y.b] _ a0.sl sp0) ?_));rintro _ w7 ⟨rfl,q7⟩ a h;replace hC:=hC.next q7;refine z0b (z0d 12 U (z0s h U λa h=>?_));refine z0b (z0q ?_);clear hC D I;refine bk (h.sub (L':=[(4,_)]) (.cons U .nil)) (tn (rt (r1 results108 U ?_)));exact⟨_,rfl,congrArg (Value.int .i64) (u3i x y),(q1.n6 q2 q3 q4 q5 q6 q7)⟩
theorem v0e (q:FbQ)(w0:World)(M:FbAt w0 q)(h6:q.ts.length=6)(hv:CrsV (z1s q.ts) q.cs):Rets prog 115 #[.agg #[.slice q.t.1 q.t.2.1 q.t.2.2,.slice q.c.1 q.c.2.1 q.c.2.2,.slice q.h.1 q.h.2.1 q.h.2.2,.slice q.f.1 q.f.2.1 q.f.2.2]] w0 λr w'=>r=.int .i64 0/\Fr [] w0 w':=by
 have c9:=M.len;have b9:=z8o q.ts;have hM:=M.c.len_le;unfold maxLen at hM;refine we [(0,.agg #[.slice q.t.1 q.t.2.1 q.t.2.2,.slice q.c.1 q.c.2.1 q.c.2.2,.slice q.h.1 q.h.2.1 q.h.2.2,.slice q.f.1 q.f.2.1 q.f.2.2])] func115 U ntmps115 U (.cons U .nil) ?_;have a3:=M;refine sr (bx U (λg1 w1 b7 J q1 z1=>(asg U (nn (sq (sr (fad U x8h (z0i U J U j7z (lnS U underlying36 (mv U U (nn (bl (lpK (ι:=Nat) [(1,_),(6,_),(7,_)] (λi=>[(8,.int .i64 (i:Int))]) (λi w'=>Fr [] w1 w'/\i<=q.cs.length) (λi=>q.cs.length-i) 0 (.c4 U U U U) ⟨Fr.refl _ _,Nat.zero_le _⟩ ?_)))))))))))));rintro i w2 ⟨q2,hi⟩;have z2:=q2.size;refine kpC [(1,_),(6,_),(7,_),(8,_)] (.c4 U U U U) (sr (lt' U (nn (sq (cd U (λc0=>?_) (λc0=>?_))))));have a0:=hv.has i oo;have a6:=a0.1;have a7:=a0.2.1;have b3:=a6.1;have b4:=a6.2.1;have b5:=a7.1;have b6:=a7.2.1;have a8:=hv.asc i;refine sk (tn (sq (bl (sr (mv U U ?_)))));replace M:=a3.ext (q1.n1 q2);refine z1d (cx0) U M.c U u3w z1i (λa9 a4=>?_);refine z1k U (a4 _ M.c) v8x (al u1p U (λg4 w3 b8 I q3 z3=>?_));refine asg U (z0k (vs:=[_,_,_,_,_]) U I j3s (λw4 I q4 z4=>?_) (h1:=(by first|(simp[Value.oneCell',S];done)|exact z5p.one _)));refine nn (sq (sq (x4j (r:=34) (L':=[(1,_),(3,_),(4,_),(6,_),(7,_),(8,_)]) ((((¬z3p (z1s q.ts) (q.cs.getD i cx0).a)\/(¬z3p (z1s q.ts) (q.cs.getD i cx0).b))\/(0<=(z6n (q.cs.getD i cx0).a (q.cs.getD i cx0).b)))) (.c6 U U U U U U) ?_ ?_)));refine fad U z9q ?_;replace J:=(J.ext (q2.n1 q3)).fr q4;refine z0i U J U x3s (fad U y4e (z1w (vs:=[_,_]) U I z2w U ?_));replace M:=a3.ext (q1.z3 q2 q3 q4);refine cl (ev2 U) (mkC func159) (y9o (q.cs.getD i cx0).a _ _ _ M.t M.tt oo oo) U ?_;rintro _ w5 ⟨rfl,q5⟩;have z5:=q5.size;refine nt' U (mv U U (gs 19 U (λhh=>absurd hh (by exact λe=>e a0.1)) (λg0=>(gY U (fad U z9q (gY U ?_))))));replace J:=J.ext q5;refine z0i U J U x3s (gY U (fad U y4k (gY U ?_)));replace I:=I.ext q5;refine z1w (vs:=[_,_]) U I z2w U (gY U ?_);replace M:=a3.ext (q1.z4 q2 q3 q4 q5);refine cl (ev2 U) (mkC func159) (y9o (q.cs.getD i cx0).b _ _ _ M.t M.tt oo oo) U ?_;rintro _ w6 ⟨rfl,q6⟩;have z6:=q6.size;refine gY U (nt' U (pkf U (mv U U (gs 27 U (λhh=>absurd hh (by exact λe=>e a0.2.1)) (λg1=>(gY U (fad U y4e (gY U ?_))))))));replace I:=I.ext q6;refine z1w (vs:=[_,_]) U I z2w U (gY U (fad U y4k (gY U (z1w (vs:=[_,_]) U I z2w U (gY U (cl (ev2 U) j4j (y1d (q.cs.getD i cx0).a (q.cs.getD i cx0).b _) U ?_))))));rintro _ w7 ⟨rfl,q7⟩;have z7:=q7.size;exact gY U (ge' U U (pkf U (z8i U (.c6 U U U U U U) (q5.n2 q6 q7))));intro w8 q8;have z8:=q8.size;refine tn (cd U (λc1=>?_) (λc1=>?_));refine sr (asg U (kpL [(2,_)] (.cons U .nil) (nn (rt (tr (rb (tr (tr (rb (tr (r1 results115 U ?_)))))))))));exfalso;rcases c1 with (hh|hh)|hh
 exact hh a0.1;exact hh a0.2.1;omega;refine sk (tn (sq (sq (rbo (r:=47) (L':=[(1,_),(3,_),(4,_),(6,_),(7,_),(8,_)]) (((((q.cs.getD i cx0).n < -1048576)\/(1048576<(q.cs.getD i cx0).n))\/((q.cs.getD i cx0).n=0))) (.c6 U U U U U U) ?_ ?_))));refine fad U y9p ?_;replace I:=I.ext q8;refine z0i U I U na3 (lt' U (mv U U (gs 38 U (λhh=>absurd hh oo) (λg2=>(gY U (fad U y9p (gY U (z0i U I U na3 (gY U (gt' U (pkf U (mv U U (gs 43 U (λhh=>absurd hh oo) (λg3=>?_))))))))))))));exact gY U (fad U y9p (gY U (z0i U I U na3 (gY U (eq' U (pkf U (rbe U (.c6 U U U U U U))))))));refine tn (cd U (λc2=>?_) (λc2=>?_));refine sr (asg U (kpL [(2,_)] (.cons U .nil) (nn (rt (tr (rb (tr (tr (rb (tr (r1 results115 U ?_)))))))))));exfalso;omega;refine sk (tn (sq ?_));replace M:=a3.ext (q1.z4 q2 q3 q4 q8);replace J:=((J.ext (q2.n1 q3)).fr q4).ext q8;intro a h;refine z0h none (λwb w'=>Fr [] wb w') z2m ?_;intro w9 q9;have z9:=q9.size;replace M:=M.ext q9;replace J:=J.ext q9;replace I:=I.ext (q8.n1 q9);have hC:Fr [] w9 w9:=Fr.refl _ _;have a2:=M;have O:=J;have Z:=I;refine z0e 0 h U λa h=>v0z 1 hC h wn U U λa h=>z0e 2 h U λa h=>gSp (D:=50) h U ?_ ?_;clear h;intro g4 h;refine z0c 3 h U x8h U ?_ (hG:=(wy U));clear h a;intro a h;refine z0j 4 h U (λ_ hw=>O.ext hw) U j7z U ?_ (hG:=(wy U));clear h a;intro a h;refine z0e 5 h U ?_ (hG:=(wy U));clear h a;intro a h;refine z2t 6 h (wy U) U (by first|exact i6 oo|rfl) U λa h=>z1g (p:=(i-1)) (cx0) 7 h U M.c U u3w U ?_ (hG:=(wy U));clear h a;intro b0 a5 a h;refine z2o 8 h (wy U) U (λ_ hw=>a5 _ (a2.c.ext hw)) v8x U λa h=>z0v 9 h U (λ_ hw=>Z.ext hw) v8x U ?_ (hG:=(wy U));clear h a;intro a h;refine z0d 10 U (y5c h U U U U U U (z0o h (z0a U (z0a U z0g)) (mkC func108) (u2e (q.cs.getD (i-1) cx0) (q.cs.getD i cx0) _) ?_));rintro _ d0 ⟨rfl,a1⟩ a h;have d1:=a1.size;replace M:=M.ext a1;replace J:=J.ext a1;replace I:=I.ext a1;replace hC:=hC.next a1;refine z0b (u0f 11 hC h (wy U) U U U U λa h=>z0d 12 U (z5h h U λa h=>?_));refine z0b (z0q ?_);clear hC a2 O Z;refine bk (h.sub (L':=[(1,_),(6,_),(7,_),(8,_),(60,_)]) (.c5 U U U U U)) (tn (cd U (λc3=>?_) (λc3=>?_)));refine sr (asg U (nn (rt (rb (tr (tr (rb (tr (r1 results115 U ?_)))))))));exfalso;first|omega|(have:=a8 oo oo;omega)
 exact sk (bn' (tn (rg (z0z U (wi6 oo) (mv U U (nl (lpE (i+1) (.c4 U U U U) ⟨(q2.z5 q3 q4 q8 q9 a1),oo⟩ oo)))))));clear h;intro g4 h;refine z2l 3 h U U λa h=>z2l 4 h U U λa h=>z2l 5 h U U λa h=>z2l 6 h U U λa h=>z2l 7 h U U λa h=>z2l 8 h U U λa h=>z2l 9 h U U λa h=>z2l 10 h U U λa h=>z2l 11 h U U λa h=>z0d 12 U (z4b h U U λa h=>?_);refine z0b (z0q ?_);clear hC a2 O Z;exact bk (h.sub (L':=[(1,_),(6,_),(7,_),(8,_),(60,_)]) (.c5 U U U U U)) (tn (cf U (sk (bn' (tn (rg (z0z U (wi6 oo) (mv U U (nl (lpE (i+1) (.c4 U U U U) ⟨(q2.z4 q3 q4 q8 q9),oo⟩ oo))))))))));obtain rfl:i=q.cs.length:=by omega
 exact ex (te (te (xh (tn (sr (asg U (nn (rt (r1 results115 U ⟨_,rfl,rfl,(q1.n1 q2)⟩)))))))))
theorem v5h {a b:List LId}{k:Nat}(h:∀i,(a++b).count i<=1)(c:List LId)(D:∃d,a++b=c++d):c.count (b.getD k id0)<=100000:=by
 obtain⟨d,e⟩:=D;have:=h (b.getD k id0);rw[e,List.count_append]at this;omega
theorem v1g (q:FbQ)(w0:World)(M:FbAt w0 q)(h6:q.ts.length=6)(hv:TabV (z1s q.ts))(hp:PlaceW (z1s q.ts) q.hs q.fs):Rets prog 116 #[.agg #[.slice q.t.1 q.t.2.1 q.t.2.2,.slice q.c.1 q.c.2.1 q.c.2.2,.slice q.h.1 q.h.2.1 q.h.2.2,.slice q.f.1 q.f.2.1 q.f.2.2]] w0 λr w'=>r=.int .i64 (v8p (z1s q.ts) q.hs q.fs)/\Fr [] w0 w':=by
 have i2:=M.len;have i0:=z8o q.ts;have hM:=M.f.len_le;unfold maxLen at hM;refine we [(0,.agg #[.slice q.t.1 q.t.2.1 q.t.2.2,.slice q.c.1 q.c.2.1 q.c.2.2,.slice q.h.1 q.h.2.1 q.h.2.2,.slice q.f.1 q.f.2.1 q.f.2.2])] func116 U ntmps116 U (.cons U .nil) ?_;have J:=M;refine sr (bx U (λg1 w1 h4 I q1 z1=>?_));refine asg U (nn (sq (sr (fad U x6j (z0i U I U z8h (fad U y6x (z0i U I U z8h (z1p (cs:=[_,_]) (ev2 U) j8l (z0f U (z0f U z0p)) U ?_))))))));refine mv U U (nn (bl (lpK (ι:=Nat) [(1,_),(22,_)] (λz=>[(23,.int .i64 (z:Int))]) (λz w'=>Fr [] w1 w'/\z<=2) (λz=>2-z) 0 (.c3 U U U) ⟨Fr.refl _ _,Nat.zero_le _⟩ ?_)));rintro z w2 ⟨q2,hz⟩;have z2:=q2.size;refine kpC [(1,_),(22,_),(23,_)] (.c3 U U U) (sr (lt' U (nn (sq (cd U (λc0=>?_) (λc0=>?_))))));have i1:=z1x (u0p J z);have e0:=(u0p J z).len_le;unfold maxLen at e0;refine sk (tn (sq (bl (sr (u3z U U underlying251 u6s z8h (j8j oo) U (asg U (nn (sr (mv U U (lnS U underlying27 (mv U U (nn (bl (lpK (ι:=Nat) [(1,_),(22,_),(23,_),(26,_),(27,_)] (λn=>[(28,.int .i64 (n:Int))]) (λn w'=>Fr [] w2 w'/\n<=(hfl q z).length) (λn=>(hfl q z).length-n) 0 (.c6 U U U U U U) ⟨Fr.refl _ _,Nat.zero_le _⟩ ?_))))))))))))));rintro n w3 ⟨q3,hn⟩;have z3:=q3.size;refine kpC [(1,_),(22,_),(23,_),(26,_),(27,_),(28,_)] (.c6 U U U U U U) (sr (lt' U (nn (sq (cd U (λc1=>?_) (λc1=>?_))))));refine sk (tn (sq (bl (sr ?_))));replace M:=J.ext (q1.n2 q2 q3);refine z1d (id0) U (u0p M z) U z4u z1i (λf3 d3=>?_);refine z1k U (d3 _ (u0p M z)) z2w (al y0b U (λg6 w4 h5 d1 q4 z4=>?_));refine z0k (vs:=[_,_]) U d1 z9m (λw5 d1 q5 z5=>?_) (h1:=(by first|(simp[Value.oneCell',S];done)|exact z6q.one _|exact z1f.one _));refine nn (sr (fad U z9q ?_));replace I:=(I.ext (q2.n2 q3 q4)).fr q5;refine z0i U I U x3s (z0m U d1 z2w ?_);replace M:=J.ext (q1.z4 q2 q3 q4 q5);refine cl (ev2 U) (mkC func159) (y9o ((hfl q z).getD n id0) _ _ _ M.t M.tt oo (by have h:=hp.has _ (j6p z (z0y (d:=id0) (i:=n) oo));have:=h.1;have:=h.2.1;omega)) U ?_;rintro _ w6 ⟨rfl,q6⟩;have z6:=q6.size;refine nt' U (nn (cd U (λc2=>?_) (λc2=>?_)));exact sr (asg U (kpL [(2,_)] (.cons U .nil) (nn (rt (rb (tr (tr (rb (rb (tr (tr (rb (tr (r1 results116 U (absurd (hp.has _ (j6p z (z0y (d:=id0) (i:=n) oo))) (by simpa using c2))))))))))))))));exact sk (bn' (tn (rg (z0z U (wi6 oo) (mv U U (nl (lpE (n+1) (.c6 U U U U U U) ⟨(q3.z3 q4 q5 q6),oo⟩ oo)))))));obtain rfl:n=(hfl q z).length:=by omega
 exact ex (te (te (xh (bn' (tn (rg (z0z U (wi6 oo) (mv U U (nl (lpE (z+1) (.c3 U U U) ⟨(q2.n1 q3),oo⟩ oo))))))))));obtain rfl:z=2:=by omega
 refine ex (te (te (xh (tn (sq (sr (fad U y6x ?_)))))));replace I:=I.ext q2;refine z0i U I U z8h (lnS U underlying27 (mv U U (nn (bl (lpK (ι:=Nat) [(1,_),(40,_),(41,_)] (λi=>[(42,.int .i64 (i:Int))]) (λi w'=>Fr [] w2 w'/\i<=q.fs.length) (λi=>q.fs.length-i) 0 (.c4 U U U U) ⟨Fr.refl _ _,Nat.zero_le _⟩ ?_)))));rintro i w7 ⟨q7,hi⟩;have z7:=q7.size;refine kpC [(1,_),(40,_),(41,_),(42,_)] (.c4 U U U U) (sr (lt' U (nn (sq (cd U (λc3=>?_) (λc3=>?_))))));have e9:=hp.asc i;refine sk (tn (sq (bl (sr (mv U U ?_)))));replace M:=J.ext (q1.n2 q2 q7);refine z1d (id0) U M.f U z4u z1i (λf4 d4=>?_);refine z1k U (d4 _ M.f) z2w (al y0b U (λg8 w8 h7 a7 q8 z8=>?_));refine asg U (z0k (vs:=[_,_]) U a7 z9m (λw9 a7 q9 z9=>?_) (h1:=(by first|(simp[Value.oneCell',S];done)|exact z6q.one _|exact z1f.one _)));refine nn (sq ?_);replace M:=J.ext (q1.z4 q2 q7 q8 q9);replace I:=(I.ext (q7.n1 q8)).fr q9;intro a h;refine z0h none (λwb w'=>Fr [] wb w') z2m ?_;intro e4 b0;have j4:=b0.size;replace M:=M.ext b0;replace I:=I.ext b0;replace a7:=a7.ext b0;have hC:Fr [] e4 e4:=Fr.refl _ _;have b6:=M;have a6:=I;have a8:=a7;refine z0e 0 h U λa h=>v0z 1 hC h wn U U λa h=>z0e 2 h U λa h=>gSp (D:=49) h U ?_ ?_;clear h;intro g0 h;refine z0c 3 h U y6x U ?_ (hG:=(wy U));clear h a;intro a h;refine z0j 4 h U (λ_ hw=>a6.ext hw) U z8h U ?_ (hG:=(wy U));clear h a;intro a h;refine z0e 5 h U ?_ (hG:=(wy U));clear h a;intro a h;refine z2t 6 h (wy U) U (by first|exact i6 oo|rfl) U λa h=>z1g (p:=(i-1)) (id0) 7 h U M.f U z4u U ?_ (hG:=(wy U));clear h a;intro f5 d5 a h;refine z2o 8 h (wy U) U (λ_ hw=>d5 _ (b6.f.ext hw)) z2w U λa h=>z0v 9 h U (λ_ hw=>a8.ext hw) z2w U ?_ (hG:=(wy U));clear h a;intro a h;refine z0d 10 U (y5c h U U U U U U (z0o h (z0a U (z0a U z0g)) j4j (y1d (q.fs.getD (i-1) id0) (q.fs.getD i id0) _) ?_));rintro _ i3 ⟨rfl,b3⟩ a h;have j5:=b3.size;replace M:=M.ext b3;replace I:=I.ext b3;replace a7:=a7.ext b3;replace hC:=hC.next b3;refine z0b (u0f 11 hC h (wy U) U U U U λa h=>z0d 12 U (z5h h U λa h=>?_));refine z0b (z0q ?_);clear hC b6 a6 a8;refine bk (h.sub (L':=[(1,_),(40,_),(41,_),(42,_),(59,_)]) (.c5 U U U U U)) (tn (cd U (λc4=>?_) (λc4=>?_)));refine sr (asg U (nn (rt (rb (tr (tr (rb (tr (r1 results116 U ?_)))))))));exfalso;first|omega|(have:=e9 oo oo;omega)
 exact sk (bn' (tn (rg (z0z U (wi6 oo) (mv U U (nl (lpE (i+1) (.c4 U U U U) ⟨(q7.z4 q8 q9 b0 b3),oo⟩ oo)))))));clear h;intro g0 h;refine z2l 3 h U U λa h=>z2l 4 h U U λa h=>z2l 5 h U U λa h=>z2l 6 h U U λa h=>z2l 7 h U U λa h=>z2l 8 h U U λa h=>z2l 9 h U U λa h=>z2l 10 h U U λa h=>z2l 11 h U U λa h=>z0d 12 U (z4b h U U λa h=>?_);refine z0b (z0q ?_);clear hC b6 a6 a8;exact bk (h.sub (L':=[(1,_),(40,_),(41,_),(42,_),(59,_)]) (.c5 U U U U U)) (tn (cf U (sk (bn' (tn (rg (z0z U (wi6 oo) (mv U U (nl (lpE (i+1) (.c4 U U U U) ⟨(q7.z3 q8 q9 b0),oo⟩ oo))))))))));obtain rfl:i=q.fs.length:=by omega
 refine ex (te (te (xh (tn (sr (y6o idV (.int .i64 0) U (λa4 i4 g3 hm a5 j6=>(al j9k U (λg9 i5 h8 O a0 j7=>(z5n U U O U j8n (λi7 O a1 j8=>(nn (sr (z9h z0g (ev1 U) U (asg U (nn (sr (mv U U (fad U x6j ?_)))))))))))))))))));replace I:=(I.ext (q7.n2 a5 a0)).fr a1;refine z0i U I U z8h ?_;replace M:=J.ext (q1.z5 q2 q7 a5 a0 a1);replace hm:=(hm.ext a0).fr a1 (by intro k hk hb;simp at hk hb;omega);refine clv (us:=[]) (ws:=[.pointer (some ⟨g9,0,none⟩)]) U (ev1 U) (mkC func160) (x5v g9 a4 [] _ _ w0 _ J.h oo M.h O hm (λk hk=>v5h (a:=[]) (b:=q.hs) (λi=>(by have:=hp.le i;simp only[List.count_append,List.nil_append]at this ⊢;omega)) _ ⟨q.hs.drop k,sp0⟩)) U (by intro g e;cases e) ?_;rintro g7 i8 ⟨hm,a2⟩;have j9:=a2.size;refine nn (sr (mv U U (fad U y6x ?_)));replace I:=I.fr a2;refine z0i U I U z8h ?_;replace M:=J.ext (q1.z6 q2 q7 a5 a0 a1 a2);replace O:=O.fr a2;refine clv (us:=[]) (ws:=[.pointer (some ⟨g9,0,none⟩)]) U (ev1 U) (mkC func160) (x5v g9 a4 ([]++q.hs) _ _ w0 _ J.f oo M.f O hm (λk hk=>v5h (a:=q.hs) (b:=q.fs) (λi=>(by have:=hp.le i;simp only[List.count_append]at this ⊢;omega)) _ ⟨q.fs.drop k,sp0⟩)) U (by intro g e;cases e) ?_;rintro h0 f1 ⟨hm,a3⟩;have k0:=a3.size;refine nn (sq (sr (fad U z9q ?_)));replace I:=I.fr a3;refine z0i U I U x3s (lnS U underlying53 (mv U U (nn (bl (lpK (ι:=Nat) [(1,_),(9,_),(10,_),(72,_),(73,_)] (λy=>[(74,.int .i64 (y:Int))]) (λy w'=>Fr [a4] f1 w'/\y<=q.ts.length/\MapZ idV w' a4 (.int .i64 0) (y7z ((q.hs++q.fs)++(z9o (z1s q.ts) y 0)))) (λy=>q.ts.length-y) 0 (.c6 U U U U U U) ⟨Fr.refl _ _,⟨Nat.zero_le _,by rw[v1y,List.append_nil];exact hm⟩⟩ ?_)))));rintro y e5 ⟨Z,⟨hy,hm⟩⟩;have k1:=Z.size;refine kpC [(1,_),(9,_),(10,_),(72,_),(73,_),(74,_)] (.c6 U U U U U U) (sr (lt' U (nn (sq (cd U (λc5=>?_) (λc5=>?_))))));have f0:=z5a J.tt y;have d0:=(J.tt _ (z0y (d:=tq0) (i:=y) oo)).1.len_le;unfold maxLen at d0;refine sk (tn (sq (bl (sr ?_))));replace M:=J.ext (((q1.z6 q2 q7 a5 a0 a1 a2).z1 a3).z1 Z);refine z1d (tq0) U M.t U y5z z1i (λf6 d6=>?_);refine z1l U (d6 _ M.t) x1u (asg U (nn (sr (mv U U (lnS U underlying34 (mv U U (nn (bl (lpK (ι:=Nat) [(1,_),(9,_),(10,_),(72,_),(73,_),(74,_),(78,_),(79,_)] (λn=>[(80,.int .i64 (n:Int))]) (λn w'=>Fr [a4] e5 w'/\n<=(q.ts.getD y tq0).2.length/\MapZ idV w' a4 (.int .i64 0) (y7z ((q.hs++q.fs)++(z9o (z1s q.ts) y n)))) (λn=>(q.ts.getD y tq0).2.length-n) 0 (.d8 U U U U U U U U (.cons U .nil)) ⟨Fr.refl _ _,⟨Nat.zero_le _,hm⟩⟩ ?_)))))))));rintro n i9 ⟨b4,⟨hn,hm⟩⟩;have k2:=b4.size;refine kpC [(1,_),(9,_),(10,_),(72,_),(73,_),(74,_),(78,_),(79,_),(80,_)] (.d8 U U U U U U U U (.cons U .nil)) (sr (lt' U (nn (sq (cd U (λc6=>?_) (λc6=>?_))))));have h9:=z1x (z7i J.tt (y:=y) (n:=n) oo oo).1;have e8:∀k,k<((q.ts.getD y tq0).2.getD n lq0).ths.length->(((q.hs++q.fs)++z9o (z1s q.ts) y n)++((q.ts.getD y tq0).2.getD n lq0).ths.take k).count (((q.ts.getD y tq0).2.getD n lq0).ths.getD k id0)<=100000:=λk hk=>by
  have e6:=x6l (k:=k) hv.thr (y:=y) (n:=n) oo oo hk;have e7:=hp.le (((q.ts.getD y tq0).2.getD n lq0).ths.getD k id0);rw[List.count_append]at e7;rw[List.count_append,List.count_append];rw[List.count_append,List.count_append,List.count_singleton,if_pos sp0]at e6;omega
 refine sk (tn (sq (bl (sr ?_))));replace M:=J.ext ((((q1.z6 q2 q7 a5 a0 a1 a2).z1 a3).z1 Z).z1 b4);refine z1d (lq0) U (M.tt _ (z0y (d:=tq0) (i:=y) oo)).1 U x9w z1i (λf7 d7=>?_);refine z1k U (d7 _ (M.tt _ (z0y (d:=tq0) (i:=y) oo)).1) x2j (al x4h U (λh3 j0 f9 b7 b8 k4=>?_));refine z0k (vs:=[_,_,_,_]) U b7 v0o (λj1 b7 b9 k5=>?_) (h1:=(by first|(simp[Value.oneCell',S];done)|exact z6q.one _|exact z1f.one _));refine nn (rg (mv U U (fad U z6b (z0i U b7 U z8h ?_))));replace M:=J.ext ((((q1.z6 q2 q7 a5 a0 a1 a2).z1 a3).z1 Z).z3 b4 b8 b9);replace O:=((((O.fr a3).fr Z).fr b4).ext b8).fr b9;replace hm:=(hm.ext b8).fr b9 (by intro k hk hb;simp at hk hb;omega);refine clv (us:=[]) (ws:=[.pointer (some ⟨g9,0,none⟩)]) U (ev1 U) (mkC func160) (x5v g9 a4 ((q.hs++q.fs)++z9o (z1s q.ts) y n) _ _ w0 _ (z7i J.tt (y:=y) (n:=n) oo oo).1 oo (z7i M.tt (y:=y) (n:=n) oo oo).1 O hm (λk hk=>e8 k hk)) U (by intro g e;cases e) ?_;rintro h2 j2 ⟨hm,e3⟩;have k6:=e3.size;exact nl (bn' (tn (rg (z0z U (wi6 oo) (mv U U (nl (lpE (n+1) (.d8 U U U U U U U U (.cons U .nil)) ⟨((Fr.refl [a4] _).z4 b4 b8 b9 e3),⟨oo,by rw[y7j oo,<-List.append_assoc];exact hm⟩⟩ oo)))))));obtain rfl:n=(q.ts.getD y tq0).2.length:=by omega
 exact ex (te (te (xh (bn' (tn (rg (z0z U (wi6 oo) (mv U U (nl (lpE (y+1) (.c6 U U U U U U) ⟨((Fr.refl [a4] _).z2 Z b4),⟨oo,by rw[y6r oo];exact hm⟩⟩ oo))))))))));obtain rfl:y=q.ts.length:=by omega
 rw[u2t (by rw[z8o];omega)]at hm;refine ex (te (te (xh (tn (sq (sr (fad U z9q ?_)))))));replace I:=I.fr Z;refine z0i U I U x3s (lnS U underlying53 (mv U U (kpL [(9,_),(91,_),(92,_),(93,_)] (.c4 U U U U) (nn (bl (lpK (ι:=Nat) [(9,_),(91,_),(92,_)] (λy=>[(93,.int .i64 (y:Int))]) (λy w'=>Fr [] e5 w'/\y<=q.ts.length/\∀y',y'<y->∀n,n<z3a (z1s q.ts) y'->(q.hs++q.fs++z9v (z1s q.ts)).count ⟨(y':Int)+1,(n:Int)⟩=1) (λy=>q.ts.length-y) 0 (.c4 U U U U) ⟨Fr.refl _ _,⟨Nat.zero_le _,λk h=>absurd h oo⟩⟩ ?_))))));rintro y f2 ⟨a9,⟨hy,e2⟩⟩;have k7:=a9.size;refine kpC [(9,_),(91,_),(92,_),(93,_)] (.c4 U U U U) (sr (lt' U (nn (sq (cd U (λc7=>?_) (λc7=>?_))))));have f0:=z5a J.tt y;have d0:=(J.tt _ (z0y (d:=tq0) (i:=y) oo)).1.len_le;unfold maxLen at d0;refine sk (tn (sq (bl (sr (mv U U ?_)))));replace M:=J.ext ((((q1.z6 q2 q7 a5 a0 a1 a2).z1 a3).z1 Z).n1 a9);refine z1d (tq0) U M.t U y5z z1i (λf8 d9=>?_);refine z1l U (d9 _ M.t) x1u (asg U (asg U (nn (sr (mv U U (lnS U underlying34 (mv U U (nn (bl (lpK (ι:=Nat) [(9,_),(15,_),(91,_),(92,_),(93,_),(99,_)] (λn=>[(100,.int .i64 (n:Int))]) (λn w'=>Fr [] f2 w'/\n<=(q.ts.getD y tq0).2.length/\∀n',n'<n->(q.hs++q.fs++z9v (z1s q.ts)).count ⟨(y:Int)+1,(n':Int)⟩=1) (λn=>(q.ts.getD y tq0).2.length-n) 0 (.c7 U U U U U U U) ⟨Fr.refl _ _,⟨Nat.zero_le _,λk h=>absurd h oo⟩⟩ ?_))))))))));rintro n j3 ⟨b5,⟨hn,e1⟩⟩;have k8:=b5.size;refine kpC [(9,_),(15,_),(91,_),(92,_),(93,_),(99,_),(100,_)] (.c7 U U U U U U U) (sr (lt' U (nn (sq (cd U (λc8=>?_) (λc8=>?_))))));refine sk (tn (sq (bl (sr (mv U U (asg U (nn (sr ?_))))))));replace O:=((O.fr a3).fr Z).ext (a9.n1 b5);refine z4d U O v1a (mv U U (z0z U (wi6 oo) (z5k U (us underlying3) underlying5 (wi8 oo) (mv U U (z1p (cs:=[_,_]) (ev2 U) j3j (z0f U (z0f U z0p)) U ?_)))));replace hm:=hm.ext (a9.n1 b5);refine y4h (V:=idV) (z:=(.int .i64 0)) (k:=(⟨(y:Int)+1,(n:Int)⟩:LId)) (v:=.int .i64 (((((q.hs++q.fs)++z9v (z1s q.ts))).count (⟨(y:Int)+1,(n:Int)⟩:LId):Nat):Int)) U U hm z4a underlying137 zvI U U (ne' U (kpL [(9,_),(15,_),(91,_),(92,_),(93,_),(99,_),(100,_),(110,_)] (.c8 U U U U U U U U) (nn (cd U (λc9=>?_) (λc9=>?_)))));exact sr (asg U (kpL [(2,_)] (.cons U .nil) (nn (rt (rb (tr (tr (rb (rb (tr (tr (rb (tr (r1 results116 U ⟨_,rfl,by rw[u7l (y:=y) (n:=n) oo (by rw[z3u];omega) oo],((((q1.z6 q2 q7 a5 a0 a1 a2).z1 a3).z1 Z).n2 a9 b5)⟩))))))))))))));refine sk (bn' (tn (rg (z0z U (wi6 oo) (mv U U (nl ?_))))));exact lpE (n+1) (.c7 U U U U U U U) ⟨b5,⟨oo,λk h=>by
  by_cases e:k=n;subst e;omega;exact e1 k oo⟩⟩ oo
 obtain rfl:n=(q.ts.getD y tq0).2.length:=by omega
 refine ex (te (te (xh (bn' (tn (rg (z0z U (wi6 oo) (mv U U (nl ?_)))))))));exact lpE (y+1) (.c4 U U U U) ⟨(a9.n1 b5),⟨oo,λk h=>by
  by_cases e:k=y;subst e;exact λn h=>e1 n (by rw[z3u]at h;omega);exact e2 k oo⟩⟩ oo
 obtain rfl:y=q.ts.length:=by omega
 exact ex (te (te (xh (tn (sr (asg U (nn (rt (r1 results116 U ⟨_,rfl,by rw[v6a λy hy n hn=>e2 y oo n hn],((((q1.z6 q2 q7 a5 a0 a1 a2).z1 a3).z1 Z).n1 a9)⟩)))))))))
theorem v9y (q:FbQ)(w0:World)(I:FbAt w0 q)(h6:q.ts.length=6)(hv:TabV (z1s q.ts))(hc:CrsV (z1s q.ts) q.cs)(hp:PlaceW (z1s q.ts) q.hs q.fs):Rets prog 50 #[.agg #[.slice q.t.1 q.t.2.1 q.t.2.2,.slice q.c.1 q.c.2.1 q.c.2.2,.slice q.h.1 q.h.2.1 q.h.2.2,.slice q.f.1 q.f.2.1 q.f.2.2]] w0 λr w'=>r=.int .i64 (v8p (z1s q.ts) q.hs q.fs)/\Fr [] w0 w':=by
 refine we [(0,.agg #[.slice q.t.1 q.t.2.1 q.t.2.2,.slice q.c.1 q.c.2.1 q.c.2.2,.slice q.h.1 q.h.2.1 q.h.2.2,.slice q.f.1 q.f.2.1 q.f.2.2])] func50 U ntmps50 U (.cons U .nil) ?_;have J:=I;refine sr (bx U (λg1 w1 a0 D O z1=>(asg U (nn (sq (sr (fad U z9q (z0i U D U x3s ?_))))))));replace I:=J.ext O;refine cl (ev1 U) (mkC func114) (u8j _ _ _ I.t I.tt h6 hv) U ?_;rintro _ w2 ⟨rfl,M⟩;have z2:=M.size;refine asg U (nn (sr (mv U U (ne' U (nn (cd U (λc0=>?_) (λc0=>?_)))))));exact sr (mv U U (asg U (nn (rt (tr (r1 results50 U (absurd U (by assumption))))))));refine sk (tn (sq (sr ?_)));replace D:=D.ext M;refine z0m U D v8j ?_;replace I:=J.ext (O.n1 M);refine cl (ev1 U) (mkC func115) (v0e q _ I h6 hc) U ?_;rintro _ w3 ⟨rfl,Z⟩;have z3:=Z.size;refine asg U (nn (sr (mv U U (ne' U (nn (cd U (λc1=>?_) (λc1=>?_)))))));exact sr (mv U U (asg U (nn (rt (tr (r1 results50 U (absurd U (by assumption))))))));refine sk (tn (sr ?_));replace D:=D.ext Z;refine z0m U D v8j ?_;replace I:=J.ext (O.n2 M Z);refine cl (ev1 U) (mkC func116) (v1g q _ I h6 hv hp) U ?_;rintro _ w4 ⟨rfl,q4⟩;have z4:=q4.size;exact asg U (nn (rt (r1 results50 U ⟨_,rfl,rfl,(O.n3 M Z q4)⟩)))
theorem u0v (q:FbQ)(w0:World)(I:FbAt w0 q)(D:q.ts.length=6)(M:TabV (z1s q.ts))(J:CrsV (z1s q.ts) q.cs)(hp:PlaceV (z1s q.ts) q.hs q.fs):Rets prog 50 #[.agg #[.slice q.t.1 q.t.2.1 q.t.2.2,.slice q.c.1 q.c.2.1 q.c.2.2,.slice q.h.1 q.h.2.1 q.h.2.2,.slice q.f.1 q.f.2.1 q.f.2.2]] w0 λr w'=>r=.int .i64 0/\Fr [] w0 w':=by
 have x:=v9y q w0 I D M J hp.w;rw[v6a hp.once]at x;exact x
theorem v4p (v:Value)(l:List Pa)(w0:World)(I:Sl z2f w0 v l)(hl:l.length<=100000):Rets prog 143 #[v] w0 λr w'=>∃g,r=.slice (some ⟨g,0,none⟩) l.length l.length/\w0.heap.size<=g/\Lw.Own z2f 97 w0.heap.size w' r l/\Fr [] w0 w':=by
 obtain⟨A,c,rfl,a0,hM,Z⟩:=id I;clear Z;unfold maxLen at hM;refine we [(0,.slice A l.length c)] func143 U ntmps143 U (.cons U .nil) ?_;have J:=I;refine sr (asg U (nn (sr (mv U U (lnS U underlying30 (z1e (m:=l.length) (c:=l.length) (pa0) U y0d u3c U (λO w1 a1 D M z1=>(asg U (nn (sr (mv U U (mv U U ?_))))))))))));replace I:=J.ext M;refine z6c (zs:=List.replicate l.length pa0) (by rw[List.length_replicate];rfl) U (by rw[List.length_replicate];exact D) I (by rw[List.length_replicate]) y0d (λw2 D q2 z2=>?_);rw[List.length_replicate]at D;exact nn (sr (mv U U (asg U (nn (rt (r1 results143 U ⟨_,rfl,O,rfl,oo,D.low oo,(M.z1 q2)⟩))))))
theorem v2c (v:Value)(l:List LpQ)(w0:World)(I:Sl z6q w0 v l)(hl:l.length<=100000):Rets prog 103 #[v] w0 λr w'=>∃g,r=.slice (some ⟨g,0,none⟩) l.length l.length/\w0.heap.size<=g/\Lw.Own z6q 107 w0.heap.size w' r l/\Fr [] w0 w':=by
 obtain⟨A,c,rfl,a0,hM,Z⟩:=id I;clear Z;unfold maxLen at hM;refine we [(0,.slice A l.length c)] func103 U ntmps103 U (.cons U .nil) ?_;have J:=I;refine sr (asg U (nn (sr (mv U U (lnS U underlying34 (z1e (m:=l.length) (c:=l.length) (lq0) U x9w x4h U (λO w1 a1 D M z1=>(asg U (nn (sr (mv U U (mv U U ?_))))))))))));replace I:=J.ext M;refine z6c (zs:=List.replicate l.length lq0) (by rw[List.length_replicate];rfl) U (by rw[List.length_replicate];exact D) I (by rw[List.length_replicate]) x9w (λw2 D q2 z2=>?_);rw[List.length_replicate]at D;exact nn (sr (mv U U (asg U (nn (rt (r1 results103 U ⟨_,rfl,O,rfl,oo,D.low oo,(M.z1 q2)⟩))))))
theorem v3d (v:Value)(l:List Cx)(w0:World)(I:Sl z5p w0 v l)(hl:l.length<=100000000):Rets prog 105 #[v] w0 λr w'=>∃g,r=.slice (some ⟨g,0,none⟩) l.length l.length/\w0.heap.size<=g/\Lw.Own z5p 117 w0.heap.size w' r l/\Fr [] w0 w':=by
 obtain⟨A,c,rfl,a0,hM,Z⟩:=id I;clear Z;unfold maxLen at hM;refine we [(0,.slice A l.length c)] func105 U ntmps105 U (.cons U .nil) ?_;have J:=I;refine sr (asg U (nn (sr (mv U U (lnS U underlying36 (z1e (m:=l.length) (c:=l.length) (cx0) U u3w u1p U (λO w1 a1 D M z1=>(asg U (nn (sr (mv U U (mv U U ?_))))))))))));replace I:=J.ext M;refine z6c (zs:=List.replicate l.length cx0) (by rw[List.length_replicate];rfl) U (by rw[List.length_replicate];exact D) I (by rw[List.length_replicate]) u3w (λw2 D q2 z2=>?_);rw[List.length_replicate]at D;exact nn (sr (mv U U (asg U (nn (rt (r1 results105 U ⟨_,rfl,O,rfl,oo,D.low oo,(M.z1 q2)⟩))))))
theorem j1n (v:Value)(l:List YQ)(w0:World)(I:Sl z2z w0 v l)(hl:l.length<=100000):Rets prog 142 #[v] w0 λr w'=>∃g,r=.slice (some ⟨g,0,none⟩) l.length l.length/\w0.heap.size<=g/\Lw.Own z2z 95 w0.heap.size w' r l/\Fr [] w0 w':=by
 obtain⟨A,c,rfl,a0,hM,Z⟩:=id I;clear Z;unfold maxLen at hM;refine we [(0,.slice A l.length c)] func142 U ntmps142 U (.cons U .nil) ?_;have J:=I;refine sr (asg U (nn (sr (mv U U (lnS U underlying51 (z1e (m:=l.length) (c:=l.length) (yq0) U y4b y3c U (λO w1 a1 D M z1=>(asg U (nn (sr (mv U U (mv U U ?_))))))))))));replace I:=J.ext M;refine z6c (zs:=List.replicate l.length yq0) (by rw[List.length_replicate];rfl) U (by rw[List.length_replicate];exact D) I (by rw[List.length_replicate]) y4b (λw2 D q2 z2=>?_);rw[List.length_replicate]at D;exact nn (sr (mv U U (asg U (nn (rt (r1 results142 U ⟨_,rfl,O,rfl,oo,D.low oo,(M.z1 q2)⟩))))))
theorem u7p {I qs:List IQ}{n:Nat}(hn:n<=qs.length)(D:(plB qs).take n=trimB (plB qs))(hl:I.length=n)(h:∀j,j<n->(I.getD j iq0).2=(qs.getD j iq0).2):plB I=trimB (plB qs):=by
 rw[<-D];refine List.ext_getElem (by simp[hl,hn]) λj J O=>?_;have M:j<n:=by simpa[hl] using J
 have:=h j M;rw[List.getD,List.getD,List.getElem?_eq_getElem oo,List.getElem?_eq_getElem oo]at this;simpa[plB] using this
theorem y4o (v:Value)(qs:List IQ)(w0:World)(Z:Sl z6x w0 v qs)(hk:IqAt w0 qs)(hl:qs.length<=40)(h4:z9k qs):Rets prog 88 #[v] w0 λr w'=>(∃fs,RwO 27 73 w0.heap.size w' r fs/\plB fs=trimB (plB qs)/\∃g,r=.slice (some ⟨g,0,none⟩) fs.length fs.length)/\Fr [] w0 w':=by
 obtain⟨A,c,rfl,b5,hM,hA⟩:=id Z;clear hA;unfold maxLen at hM;refine we [(0,.slice A qs.length c)] func88 U ntmps88 U (.cons U .nil) ?_;have a7:=Z;have a5:=hk;refine sr (asg U (nn (sr (mv U U (lnS U underlying48 (asg U (nn (sq (bl (lpK (ι:=Nat) [(0,_)] (λn=>[(3,.int .i64 (n:Int))]) (λn w'=>Fr [] w0 w'/\n<=qs.length/\∀j,n<=j->(qs.getD j iq0).2=[]) (λn=>n) qs.length (.c2 U U) ⟨Fr.refl _ _,⟨Nat.le_refl _,λj O=>x7i O⟩⟩ ?_))))))))));rintro n w1 ⟨q1,⟨hn,a4⟩⟩;have z1:=q1.size;refine kpC [(0,_),(3,_)] (.c2 U U) ?_;have a6:=z1x (z2g a5 (n-1));refine sq (sq (rbo (r:=18) (L':=[(0,_),(3,_)]) (((0<(n:Int))/\(((qs.getD (n-1) iq0).1.2.1:Int)=0))) (.c2 U U) ?_ ?_));refine mv U U (gt' U (mv U U (gs 10 U (λg0=>?_) (λg0=>?_))));refine gY U (mv U U (gY U (mv U U (gY U (z2r U (wi6 oo) (gY U ?_))))));replace Z:=a7.ext q1;refine z1d (p:=n-1) (iq0) U Z U y6j oo (λa9 a2=>?_);exact gY U (z1l U (a2 _ Z) z8h (gY U (lnS U underlying27 (gY U (eq' U (pkt U (rbe U (.c2 U U))))))));exact gN U (gN U (gN U (gN U (gN U (gN U (gN U (pkf U (rbe U (.c2 U U)))))))));refine tn (cd U (λc0=>?_) (λc0=>?_));refine sk (tn (bl (rg (mv U U (z2r U (wi6 oo) (asg U (nl (bn' ?_))))))));exact lpE (n-1) (.c2 U (congrArg (λz=>some (Value.int .i64 z)) (show (n:Int)-1=((n-1:Nat):Int) by omega))) ⟨q1,⟨oo,λj O=>by
  by_cases e:n<=j;exact a4 j e;obtain rfl:j=n-1:=by omega
  exact List.eq_nil_of_length_eq_zero oo⟩⟩ oo
 have a8:=y1v (plB qs) n (by rw[List.length_map];exact hn) (λj O=>by rw[z4f];exact a4 j O) (by
  by_cases e:n=0;exact .inl e;refine .inr λh=>c0 ⟨oo,?_⟩;rw[z4f]at h;rw[h]at a6;rw[a6];rfl)
 refine ex (te (te (xh (tn (sr (mv U U (z1e (m:=n) (c:=n) (iq0) U y6j j9h U (λI w2 b3 M q2 z2=>(asg U (nn (sq (sr (mv U U (mv U U (nn (bl (lpK (ι:=Nat×List IQ) [(0,_),(4,_),(23,_)] (λp=>[(24,.int .i64 (p.1:Int))]) (λp w'=>Fr [I] w2 w'/\p.1<=n/\p.2.length=n/\Lw.Own z6x 27 w0.heap.size w' (.slice (some ⟨I,0,none⟩) n n) p.2/\(∀j,j<p.1->(p.2.getD j iq0).2=(qs.getD j iq0).2)/\PreO 73 (I+1) w' p.2 p.1) (λp=>n-p.1) (0,List.replicate n iq0) (.c4 U U U U) ⟨Fr.refl _ _,⟨Nat.zero_le _,sp0,M.low oo,λj O=>absurd O sp0,PreO.zero⟩⟩ ?_)))))))))))))))));rintro⟨i,ps⟩ w3 ⟨q3,⟨hi,D,M,a0,J⟩⟩;simp only at hi M a0 J D;have z3:=q3.size;refine kpC [(0,_),(4,_),(23,_),(24,.int .i64 (i:Int))] (.c4 U U U U) (sr (lt' U (nn (sq (cd U (λc1=>?_) (λc1=>?_))))));refine sk (tn (sq (bl (sr (mv U U (asg U (nn (rg (mv U U (mv U U (mv U U (mv U U ?_))))))))))));replace Z:=a7.ext (q1.z2 q2 q3);refine z1d (iq0) U Z U y6j z1i (λb0 a3=>?_);refine z1l U (a3 _ Z) z8h ?_;replace hk:=a5.ext (q1.z2 q2 q3);refine cl (ev1 U) x0n (z3s _ (qs.getD i iq0).2 _ (z2g hk i) (by have:=z3n h4 i;omega)) U ?_;rintro _ w4 ⟨a1,rfl,b4,hX,q4⟩;have z4:=q4.size;replace M:=M.ext q4;refine z9t (p:=i) (E:=z6x) U U y6j (z5w (i:=i) ((((some ⟨a1,0,none⟩,(qs.getD i iq0).2.length,(qs.getD i iq0).2.length),(qs.getD i iq0).2):IQ)) U U M oo U u6s (λw5 M q5 z5=>(kpL [(0,_),(4,_),(23,_),(24,_)] (.c4 U U U U) (nl (bn' (tn (rg (z0z U (wi6 oo) (mv U U (nl ?_))))))))));replace J:=(J.ext q4).fr q5 (by intro k hk;simp at hk;omega);replace hX:=hX.fr q5 (by intro k hk hb;simp[z0u]at hk hb;omega);exact lpE ((i+1,ps.set i (((some ⟨a1,0,none⟩,(qs.getD i iq0).2.length,(qs.getD i iq0).2.length),(qs.getD i iq0).2):IQ))) (.c4 U U U U) ⟨((Fr.refl [I] _).z3 q3 q4 q5),⟨sm,by simp only[List.length_set];exact D,M,λj O=>by
  simp only at O ⊢;rw[z1j oo];split;rename_i e;subst e;rfl;exact a0 j oo,J.put oo (hX.low oo)⟩⟩ sm
 obtain rfl:i=n:=by omega
 exact ex (te (te (xh (tn (sr (mv U U (asg U (kpL [(2,_)] (.cons U .nil) (nn (rt (r1 results88 U ⟨_,rfl,⟨ps,⟨D▸M,(D.symm▸J).all oo⟩,u7p hn a8 D a0,I,by rw[D]⟩,(q1.z2 q2 q3)⟩)))))))))))
def PreY (base:Nat)(w:World)(ys:List YQ)(i:Nat):Prop:=∀j,j<i->Lw.Own z2f 97 base w (slv (ys.getD j yq0).pe) (ys.getD j yq0).pes
theorem PreY.ext {base i:Nat}{w w':World}{ys:List YQ}(h:PreY base w ys i)(hf:Fr [] w w'):PreY base w' ys i:=λj D=>(h j D).ext hf
theorem PreY.fr {base i:Nat}{w w':World}{ys:List YQ}{S:List Nat}(h:PreY base w ys i)(hf:Fr S w w')(I:∀k∈S,k<base):PreY base w' ys i:=λj D=>(h j D).fr hf λk M J=>by
 have:=I k M;have:=((h j D).blk k J).1;omega
theorem PreY.put {base i:Nat}{w:World}{ys:List YQ}{q:YQ}(h:PreY base w ys i)(D:i<ys.length)(I:Lw.Own z2f 97 base w (slv q.pe) q.pes):PreY base w (ys.set i q) (i+1):=λj J=>by
 rw[z1j D]
 split
 ·exact I
 exact h j oo
theorem y4n {α:Type}{l:List α}{i:Nat}(d:α)(h:i<l.length):l[i]?=some (l.getD i d):=by rw[List.getD,List.getElem?_eq_getElem h];rfl
theorem y2v {α β:Type}{f:α->β}{l:List α}{i:Nat}{x d:α}(h:f x=f (l.getD i d)):(l.set i x).map f=l.map f:=by
 rw[List.map_set];apply List.ext_getElem?;intro j;rw[List.getElem?_set];split;rename_i e;subst e;split;rename_i D;rw[List.length_map]at D;rw[List.getElem?_map,List.getElem?_eq_getElem D,h,List.getD,List.getElem?_eq_getElem D];rfl;rename_i D;rw[List.getElem?_eq_none oo];rfl
theorem v5s {α:Type}{l m:List α}{i:Nat}{q d:α}(h:∀j,i<=j->l.getD j d=m.getD j d)(D:i<l.length):∀j,i+1<=j->(l.set i q).getD j d=m.getD j d:=λj I=>by
 rw[z1j D,if_neg oo];exact h j oo
theorem y9m (v:Value)(ys:List YQ)(w0:World)(hs:Sl z2z w0 v ys)(hp:YsA w0 ys)(hl:ys.length<=1000)(a3:∀i,(ys.getD i yq0).pes.length<=100000):Rets prog 89 #[v] w0 λr w'=>(∃g ps,r=.slice (some ⟨g,0,none⟩) ys.length ys.length/\w0.heap.size<=g/\YsO τd w0.heap.size w' r ps/\ps.length=ys.length/\ps.map YQ.p=ys.map YQ.p)/\Fr [] w0 w':=by
 obtain⟨A,c,rfl,a7,hM,hA⟩:=id hs;clear hA;unfold maxLen at hM;refine we [(0,.slice A ys.length c)] func89 U ntmps89 U (.cons U .nil) ?_;have a9:=hs;have a2:=hp;refine sr (asg U (nn (sr (mv U U (cl (ev1 U) (mkC func142) (j1n _ ys _ hs oo) U ?_)))));rintro _ w1 ⟨Z,rfl,a8,I,q1⟩;have z1:=q1.size;have a6:=(I.blk Z (by simp[z0u])).2;refine asg U (nn (sq (sr (mv U U (lnS U underlying51 (mv U U (nn (bl (lpK (ι:=Nat×List YQ) [(3,_),(8,_)] (λp=>[(9,.int .i64 (p.1:Int))]) (λp w'=>Fr [Z] w1 w'/\p.1<=ys.length/\Lw.Own z2z 95 w0.heap.size w' (.slice (some ⟨Z,0,none⟩) ys.length ys.length) p.2/\p.2.length=ys.length/\p.2.map YQ.p=ys.map YQ.p/\(∀j,p.1<=j->p.2.getD j yq0=ys.getD j yq0)/\PreY (Z+1) w' p.2 p.1) (λp=>ys.length-p.1) (0,ys) (.c3 U U U) ⟨Fr.refl _ _,⟨Nat.zero_le _,I.low oo,rfl,rfl,λ_ _=>rfl,λj hj=>absurd hj sp0⟩⟩ ?_)))))))));rintro⟨i,ps⟩ w2 ⟨q2,⟨hi,I,D,O,J,M⟩⟩;simp only at hi I D O J M;have z2:=q2.size;refine kpC [(3,_),(8,_),(9,.int .i64 (i:Int))] (.c3 U U U) (sr (lt' U (nn (sq (cd U (λc0=>?_) (λc0=>?_))))));refine sk (tn (sq (bl (sr (mv U U (asg U (nn (rg (mv U U (mv U U (mv U U (mv U U (z1d (yq0) U I.sl U y4b z1i (λa4 a1=>?_))))))))))))));refine fad U z9s (y0e U (a1 _ I.sl) U x3t U ?_);replace hp:=a2.ext (q1.z1 q2);refine cl (ev1 U) (mkC func143) (v4p _ (ys.getD i yq0).pes _ (by rw[J i (Nat.le_refl _)];exact hp i) (a3 i)) U ?_;rintro _ w3 ⟨a0,rfl,a5,hX,q3⟩;have z3:=q3.size;replace I:=I.ext q3;refine z9t (p:=i) (E:=z2z) U U y4b (y7l U z9s U (u0q (E:=z2z) (i:=i) (f:=4) (ys.getD i yq0) ({ (ys.getD i yq0) with pe:=(some ⟨a0,0,none⟩,(ys.getD i yq0).pes.length,(ys.getD i yq0).pes.length) }:YQ) U U I (by rw[<-J i (Nat.le_refl _)];exact y4n _ oo) dd U U U j9f (λw4 I q4 z4=>?_)));refine kpL [(3,_),(8,_),(9,_)] (.c3 U U U) (nl (bn' (tn (rg (z0z U (wi6 oo) (mv U U (nl ?_)))))));replace M:=(M.ext q3).fr q4 (by intro k hk;simp at hk;omega);replace hX:=hX.fr q4 (by intro k hk hb;simp[z0u]at hk hb;omega);exact lpE ((i+1,ps.set i ({ (ys.getD i yq0) with pe:=(some ⟨a0,0,none⟩,(ys.getD i yq0).pes.length,(ys.getD i yq0).pes.length) }:YQ))) (.c3 U U U) ⟨((Fr.refl [Z] _).z3 q2 q3 q4),⟨sm,I,by simp only[List.length_set];exact D,(y2v (d:=yq0) (by rw[J i (Nat.le_refl _)])).trans O,v5s J oo,M.put oo (hX.low oo)⟩⟩ sm;obtain rfl:i=ys.length:=by omega
 exact ex (te (te (xh (tn (sr (mv U U (asg U (nn (rt (r1 results89 U ⟨_,rfl,⟨Z,ps,rfl,oo,⟨D▸I,λj hj=>(M j oo).low oo⟩,D,O⟩,(q1.z1 q2)⟩))))))))))
theorem zv34 (w:World):(zeroValue 34).run prog w=.ok (.slice none 0 0) w:=kr
def PreT (base:Nat)(w:World)(us:List TQ)(i:Nat):Prop:=(∀j,j<i->Lw.Own z6q 107 base w (slv (us.getD j tq0).1) (us.getD j tq0).2)/\(∀j k,j<i->k<i->j≠k->∀b∈z0u (slv (us.getD j tq0).1),b∉z0u (slv (us.getD k tq0).1))/\∀j,j<i->∀q∈(us.getD j tq0).2,LpO τd base w q
theorem PreT.fr {base i:Nat}{w w':World}{us:List TQ}{S:List Nat}(h:PreT base w us i)(hf:Fr S w w')(M:∀k∈S,k<base):PreT base w' us i:=by
 have o:∀ {α:Type} {E:Enc α} {T:Nat} {v:Value} {ys:List α},Lw.Own E T base w v ys->Lw.Own E T base w' v ys:=λI=>I.fr hf λk Z O=>by have:=M k Z;have:=(I.blk k O).1;omega
 exact⟨λj D=>o (h.1 j D),h.2.1,λj D q J=>⟨o (h.2.2 j D q J).1,o (h.2.2 j D q J).2⟩⟩
theorem PreT.put {base i:Nat}{w:World}{us:List TQ}{u:SV}{M:List LpQ}(h:PreT base w us i)(D:i<us.length)(ho:Lw.Own z6q 107 base w (slv u) M)(hq:∀q∈M,LpO τd base w q)(hn:∀j,j<i->∀b∈z0u (slv (us.getD j tq0).1),b∉z0u (slv u)):PreT base w (us.set i (u,M)) (i+1):=by
 refine⟨λj O=>?_,λj k O hk J=>?_,λj O=>?_⟩;rw[z1j D];split;exact ho;exact h.1 j oo;rw[z1j D,z1j D];split;rw[if_neg oo];exact λb Z I=>hn k oo b I Z;split;exact hn j oo;exact h.2.1 j k oo oo J;rw[z1j D];split;exact hq;exact h.2.2 j oo
def PreL (base:Nat)(w:World)(rs:List LpQ)(i:Nat):Prop:=∀j,j<i->LpO τd base w (rs.getD j lq0)
theorem PreL.fr {base i:Nat}{w w':World}{J:List LpQ}{S:List Nat}(h:PreL base w J i)(hf:Fr S w w')(M:∀k∈S,k<base):PreL base w' J i:=λj I=>by
 have o:∀ {α:Type} {E:Enc α} {T:Nat} {v:Value} {ys:List α},Lw.Own E T base w v ys->Lw.Own E T base w' v ys:=λD=>D.fr hf λk Z O=>by have:=M k Z;have:=(D.blk k O).1;omega
 exact⟨o (h j I).1,o (h j I).2⟩
theorem PreL.put {base i:Nat}{w:World}{D:List LpQ}{x y:LpQ}(h:PreL base w D i)(I:i<D.length)(J:LpO τd base w y):PreL base w ((D.set i x).set i y) (i+1):=λj M=>by
 rw[List.set_set,z1j I]
 split
 ·exact J
 exact h j oo
theorem j7j {base i:Nat}{w:World}{v:Value}{us:List TQ}{u:SV}{r r':List LpQ}(h:Lw.Own z4c 34 base w v (us.set i (u,r))):Lw.Own z4c 34 base w v (us.set i (u,r')):=by
 have e:∀x:List LpQ,(us.set i (u,x)).flatMap z4c.enc=(us.set i (u,r)).flatMap z4c.enc:=λx=>by
  rw[List.flatMap_def,List.flatMap_def,List.map_set,List.map_set];rfl
 rcases h with ⟨D,I⟩|⟨g,cap,cur,D,I,J,M,O,Z,h7⟩
 refine .inl ⟨D,?_⟩;have:=congrArg List.length I;simp only[List.length_set,List.length_nil]at this;exact List.length_eq_zero_iff.1 (by rw[List.length_set];exact this);refine .inr ⟨g,cap,cur,by rw[D];simp,I,J,by simpa using M,O,Z,?_⟩;rw[e r',<-h7];simp
theorem u9m {us ts:List TQ}{i:Nat}{x:TQ}(h:∀j,j<i->(us.getD j tq0).2.map LpQ.p=(ts.getD j tq0).2.map LpQ.p)(D:i<us.length)(I:x.2.map LpQ.p=(ts.getD i tq0).2.map LpQ.p):∀j,j<i+1->((us.set i x).getD j tq0).2.map LpQ.p=(ts.getD j tq0).2.map LpQ.p:=λj J=>by
 rw[z1j D]
 split
 ·rename_i e;subst e;exact I
 exact h j oo
theorem y5b {us ts:List TQ}(hl:us.length=ts.length)(h:∀j,j<ts.length->(us.getD j tq0).2.map LpQ.p=(ts.getD j tq0).2.map LpQ.p):z1s us=z1s ts:=by
 refine List.ext_getElem (by simp[hl]) λj J I=>?_;have D:j<ts.length:=by simpa using I
 have:=h j D;rw[List.getD,List.getD,List.getElem?_eq_getElem oo,List.getElem?_eq_getElem D]at this;simpa using this
theorem PreT.tbo {b base:Nat}{w:World}{v:Value}{us:List TQ}(ho:Lw.Own z4c 34 b w v us)(h:PreT base w us us.length)(hb:b<=base):TbO τd b w v us:=
 ⟨ho,λi D=>(h.1 i D).low hb,λi j D J I=>h.2.1 i j D J I,λi D q M=>(h.2.2 i D q M).low hb⟩
theorem y5o (v:Value)(ts:List TQ)(w0:World)(hs:Sl z4c w0 v ts)(D:TabAt w0 ts)(hl:ts.length<=1000)(c9:∀p∈ts,p.2.length<=100000/\∀q∈p.2,q.ths.length<=100000/\q.pas.length<=100000):Rets prog 90 #[v] w0 λr w'=>(∃g us,r=.slice (some ⟨g,0,none⟩) ts.length ts.length/\w0.heap.size<=g/\TbO τd w0.heap.size w' r us/\us.length=ts.length/\z1s us=z1s ts)/\Fr [] w0 w':=by
 obtain⟨A,c,rfl,g8,hM,hA⟩:=id hs;clear hA;unfold maxLen at hM;refine we [(0,.slice A ts.length c)] func90 U ntmps90 U (.cons U .nil) ?_;have f3:=hs;have b4:=D;refine sr (asg U (nn (sr (mv U U (lnS U underlying53 (z1e (m:=ts.length) (c:=ts.length) (tq0) U y5z zv34 U (λa2 w1 f8 M q1 z1=>?_)))))));have f0:=(M.blk a2 (by simp[z0u])).2;refine asg U (nn (sq (sr (mv U U (lnS U underlying53 (mv U U (nn (bl (lpK (ι:=Nat×List TQ) [(3,_),(11,_),(12,_)] (λp=>[(13,.int .i64 (p.1:Int))]) (λp w'=>Fr [a2] w1 w'/\p.1<=ts.length/\p.2.length=ts.length/\Lw.Own z4c 34 w0.heap.size w' (.slice (some ⟨a2,0,none⟩) ts.length ts.length) p.2/\(∀j,j<p.1->(p.2.getD j tq0).2.map LpQ.p=(ts.getD j tq0).2.map LpQ.p)/\PreT (a2+1) w' p.2 p.1) (λp=>ts.length-p.1) (0,List.replicate ts.length tq0) (.c4 U U U U) ⟨Fr.refl _ _,⟨Nat.zero_le _,sp0,M.low oo,λj hj=>absurd hj sp0,⟨λj hj=>absurd hj sp0,λj k hj=>absurd hj sp0,λj hj=>absurd hj sp0⟩⟩⟩ ?_)))))))));rintro⟨i,us⟩ w2 ⟨q2,⟨hi,a8,M,d6,a7⟩⟩;simp only at hi a8 M d6 a7;have z2:=q2.size;have e6:=a7;refine kpC [(3,_),(11,_),(12,_),(13,.int .i64 (i:Int))] (.c4 U U U U) ?_;have e7:∀j,j<i->∀b∈z0u (slv (us.getD j tq0).1),b<w2.heap.size:=λj hj b hb=>((a7.1 j hj).blk b hb).2;refine sr (lt' U (nn (sq (cd U (λc0=>?_) (λc0=>?_)))));have g3:=z1x (b4 _ (z0y (d:=tq0) (i:=i) oo)).1;have h0:=(c9 _ (z0y (d:=tq0) (i:=i) oo)).1;refine sk (tn (sq (bl (sr (mv U U ?_)))));replace hs:=f3.ext (q1.z1 q2);refine z1d (tq0) U hs U y5z z1i (λf4 e1=>?_);refine z1l U (e1 _ hs) x1u (asg U (asg U (nn (sr (mv U U (mv U U (mv U U ?_)))))));replace D:=b4.ext (q1.z1 q2);refine cl (ev1 U) (mkC func103) (v2c _ (ts.getD i tq0).2 _ (D _ (z0y (d:=tq0) (i:=i) oo)).1 (c9 _ (z0y (d:=tq0) (i:=i) oo)).1) U ?_;rintro _ w3 ⟨O,rfl,f9,Z,q3⟩;have z3:=q3.size;have f1:=(Z.blk O (by simp[z0u])).2;replace M:=M.ext q3;refine z9t (p:=i) (E:=z4c) U U y5z (z5w (i:=i) (((((some ⟨O,0,none⟩,(ts.getD i tq0).2.length,(ts.getD i tq0).2.length):SV),(ts.getD i tq0).2):TQ)) U U M oo U k0l (λw4 M q4 z4=>?_));obtain⟨b7,d0⟩:∃u,u=us.set i (((some ⟨O,0,none⟩,(ts.getD i tq0).2.length,(ts.getD i tq0).2.length):SV),(ts.getD i tq0).2):=⟨_,rfl⟩;rw[<-d0]at M;have d7:b7.getD i tq0=(((some ⟨O,0,none⟩,(ts.getD i tq0).2.length,(ts.getD i tq0).2.length):SV),(ts.getD i tq0).2):=by rw[d0,z1j oo,if_pos U]
 have d1:(b7.getD i tq0).1.1=some ⟨O,0,none⟩:=by rw[d7]
 have d3:(b7.getD i tq0).1.2.1=(ts.getD i tq0).2.length:=by rw[d7]
 have d4:(b7.getD i tq0).1.2.2=(ts.getD i tq0).2.length:=by rw[d7]
 have g6:b7.length=ts.length:=by rw[d0,List.length_set];exact a8
 refine nn (sr (mv U U (lnS U underlying34 (mv U U (nn (bl ?_))))));replace Z:=Z.fr q4 (by intro k D hb;simp[z0u]at D hb;omega);refine lpK (ι:=Nat×List LpQ) [(3,_),(4,_),(11,_),(12,_),(13,_),(23,_),(24,_)] (λp=>[(25,.int .i64 (p.1:Int))]) (λp w'=>Fr [O] w4 w'/\p.1<=(ts.getD i tq0).2.length/\p.2.length=(ts.getD i tq0).2.length/\Lw.Own z6q 107 (a2+1) w' (.slice (some ⟨O,0,none⟩) (ts.getD i tq0).2.length (ts.getD i tq0).2.length) p.2/\p.2.map LpQ.p=(ts.getD i tq0).2.map LpQ.p/\(∀j,p.1<=j->p.2.getD j lq0=(ts.getD i tq0).2.getD j lq0)/\PreL (O+1) w' p.2 p.1) (λp=>(ts.getD i tq0).2.length-p.1) (0,(ts.getD i tq0).2) (.c8 U U U U U U U U) ⟨Fr.refl _ _,⟨Nat.zero_le _,rfl,Z.low oo,rfl,λ_ _=>rfl,λj hj=>absurd hj sp0⟩⟩ ?_;rintro⟨J,rs⟩ w5 ⟨q5,⟨hj,b9,Z,d5,b8,b6⟩⟩;simp only at hj b9 Z d5 b8 b6;have z5:=q5.size;have e5:=b6;refine kpC [(3,_),(4,_),(11,_),(12,_),(13,_),(23,_),(24,_),(25,.int .i64 (J:Int))] (.c8 U U U U U U U U) (sr (lt' U (nn (sq (cd U (λc1=>?_) (λc1=>?_))))));refine sk (tn (sq (bl (sr (mv U U ?_)))));replace D:=b4.ext (q1.z4 q2 q3 q4 q5);refine z1d (lq0) U (D _ (z0y (d:=tq0) (i:=i) oo)).1 U x9w z1i (λf5 e2=>?_);refine z1k U (e2 _ (D _ (z0y (d:=tq0) (i:=i) oo)).1) x2j (al x4h U (λg7 w6 g9 I q6 z6=>?_));refine asg U (z0k (vs:=[_,_,_,_]) U I v0o (λw7 I q7 z7=>?_) (h1:=(by first|(simp[Value.oneCell',S];done)|exact z4c.one (ts.getD i tq0))));refine nn (sq ?_);replace D:=b4.ext (q1.z6 q2 q3 q4 q5 q6 q7);replace M:=((M.fr q5 (by intro k D hb;simp[z0u]at D hb;omega)).ext q6).fr q7 (by intro k D hb;simp[z0u]at D hb;omega);replace Z:=(Z.ext q6).fr q7 (by intro k D hb;simp[z0u]at D hb;omega);intro a h;refine z0h (some 10) (λwb w'=>Fr [] wb w') z2m ?_;intro w8 q8;have z8:=q8.size;replace D:=D.ext q8;replace M:=M.ext q8;replace Z:=Z.ext q8;replace I:=I.ext q8;have hC:Fr [] w8 w8:=Fr.refl _ _;have b5:=D;have a3:=M;have b3:=Z;have a0:=I;refine z0e 0 h U λa h=>z0e 1 h U λa h=>z1g (p:=i) (tq0) 2 h U M.sl U y5z U λf6 e3 a h=>z2u 3 h wn U (λ_ hw=>e3 _ ((a3.ext hw).sl)) x1u U λa h=>?_;rw[d1,d3,d4]at h;refine z0e 4 h U λa h=>z0c 5 h U z6b U λa h=>z0j 6 h U (λ_ hw=>a0.ext hw) U z8h U λa h=>z0d 7 U (z0o h (z0a U z0g) x0n (z3s _ ((ts.getD i tq0).2.getD J lq0).ths _ ((D _ (z0y (d:=tq0) (i:=i) oo)).2 _ (z0y oo)).1 ((c9 _ (z0y (d:=tq0) (i:=i) oo)).2 _ (z0y oo)).1) ?_);rintro _ w9 ⟨a9,rfl,g0,hX,q9⟩ a h;have z9:=q9.size;replace D:=D.ext q9;replace M:=M.ext q9;replace Z:=Z.ext q9;replace I:=I.ext q9;replace hC:=hC.next q9;refine z0b (z1q 8 kr kr kr hC (p:=J) h wn U x9w oo oo oo U U λa h=>z5s 9 h U z6b U λa h=>z0d 10 U (y4i (E:=z6q) (i:=J) (f:=2) (((ts.getD i tq0).2.getD J lq0)) ({ ((ts.getD i tq0).2.getD J lq0) with th:=(some ⟨a9,0,none⟩,((ts.getD i tq0).2.getD J lq0).ths.length,((ts.getD i tq0).2.getD J lq0).ths.length) }:LpQ) h U U Z (by rw[<-b8 J (Nat.le_refl _)];exact y4n _ oo) dd U U U u6s λh2 b0 a5 _hz a h=>?_));have h5:=a5.size;replace M:=M.fr a5 (by intro k D hb;simp[z0u]at D hb;omega);replace I:=I.fr a5;replace hX:=hX.fr a5 (by intro k D hb;simp[z0u]at D hb;omega);clear _hz Z;have Z:=b0;clear b0;refine z1m (z0q ?_);clear hC b5 a3 b3 a0;refine bk (h.sub (L':=[(3,_),(4,_),(6,_),(7,_),(11,_),(12,_),(13,_),(23,_),(24,_),(25,_)]) (.d8 U U U U U U U U (.c2 U U))) (tn ?_);replace D:=b4.ext ((((q1.z6 q2 q3 q4 q5 q6 q7).n1 q8).n1 q9).z1 a5);intro a h;refine z0h (some 10) (λwb w'=>Fr [] wb w') z2m ?_;intro e8 a4;have h6:=a4.size;replace D:=D.ext a4;replace M:=M.ext a4;replace Z:=Z.ext a4;replace I:=I.ext a4;replace hX:=hX.ext a4;have hC:Fr [] e8 e8:=Fr.refl _ _;have b5:=D;have a3:=M;have b3:=Z;have a0:=I;have e0:=hX;refine z0e 0 h U λa h=>z0e 1 h U λa h=>z1g (p:=i) (tq0) 2 h U M.sl U y5z U λf7 e4 a h=>z2u 3 h wn U (λ_ hw=>e4 _ ((a3.ext hw).sl)) x1u U λa h=>?_;rw[d1,d3,d4]at h;refine z0e 4 h U λa h=>z0c 5 h U z8x U λa h=>z0j 6 h U (λ_ hw=>a0.ext hw) U x3t U λa h=>z0d 7 U (z0o h (z0a U z0g) (mkC func143) (v4p _ ((ts.getD i tq0).2.getD J lq0).pas _ ((D _ (z0y (d:=tq0) (i:=i) oo)).2 _ (z0y oo)).2 ((c9 _ (z0y (d:=tq0) (i:=i) oo)).2 _ (z0y oo)).2) ?_);rintro _ h3 ⟨d9,rfl,g1,hY,a1⟩ a h;have h7:=a1.size;replace D:=D.ext a1;replace M:=M.ext a1;replace Z:=Z.ext a1;replace I:=I.ext a1;replace hX:=hX.ext a1;replace hC:=hC.next a1;refine z0b (z1q 8 kr kr kr hC (p:=J) h wn U x9w oo oo oo U U λa h=>z5s 9 h U z8x U λa h=>z0d 10 U (y4i (E:=z6q) (i:=J) (f:=3) (({ ((ts.getD i tq0).2.getD J lq0) with th:=(some ⟨a9,0,none⟩,((ts.getD i tq0).2.getD J lq0).ths.length,((ts.getD i tq0).2.getD J lq0).ths.length) }:LpQ)) ({ ((ts.getD i tq0).2.getD J lq0) with th:=(some ⟨a9,0,none⟩,((ts.getD i tq0).2.getD J lq0).ths.length,((ts.getD i tq0).2.getD J lq0).ths.length),pa:=(some ⟨d9,0,none⟩,((ts.getD i tq0).2.getD J lq0).pas.length,((ts.getD i tq0).2.getD J lq0).pas.length) }:LpQ) h U U Z (by rw[y4n lq0 (by rw[List.length_set];omega),z1j oo,if_pos U]) dd U U U j9f λh4 b0 a6 _hz a h=>?_));have h8:=a6.size;replace M:=M.fr a6 (by intro k D hb;simp[z0u]at D hb;omega);replace I:=I.fr a6;replace hX:=hX.fr a6 (by intro k D hb;simp[z0u]at D hb;omega);replace hY:=hY.fr a6 (by intro k D hb;simp[z0u]at D hb;omega);clear _hz Z;have Z:=b0;clear b0;refine z1m (z0q ?_);clear hC b5 a3 b3 a0 e0;refine bk (h.sub (L':=[(3,_),(4,_),(11,_),(12,_),(13,_),(23,_),(24,_),(25,_)]) (.c8 U U U U U U U U)) (bn' (tn (rg (z0z U (wi6 oo) (mv U U (nl ?_))))));replace b6:=e5.fr ((((Fr.refl [O] _).z6 q6 q7 q8 q9 a5 a4).n1 a1).z1 a6) (by intro k D;simp at D;omega);exact lpE ((J+1,(rs.set J ({ ((ts.getD i tq0).2.getD J lq0) with th:=(some ⟨a9,0,none⟩,((ts.getD i tq0).2.getD J lq0).ths.length,((ts.getD i tq0).2.getD J lq0).ths.length) }:LpQ)).set J ({ ((ts.getD i tq0).2.getD J lq0) with th:=(some ⟨a9,0,none⟩,((ts.getD i tq0).2.getD J lq0).ths.length,((ts.getD i tq0).2.getD J lq0).ths.length),pa:=(some ⟨d9,0,none⟩,((ts.getD i tq0).2.getD J lq0).pas.length,((ts.getD i tq0).2.getD J lq0).pas.length) }:LpQ))) (.c8 U U U U U U U U) ⟨((((Fr.refl [O] _).z6 q5 q6 q7 q8 q9 a5).n1 a4).z2 a1 a6),⟨sm,by simp only[List.length_set];exact b9,Z,by rw[List.set_set];exact(y2v (d:=lq0) (by rw[b8 J (Nat.le_refl _)])).trans d5,λj f2=>by
  simp only at f2 ⊢;rw[List.set_set,z1j oo,if_neg oo];exact b8 j oo,b6.put oo ⟨hX.low oo,hY.low oo⟩⟩⟩ sm
 obtain rfl:J=(ts.getD i tq0).2.length:=by omega
 refine ex (te (te (xh (bn' (tn (rg (z0z U (wi6 oo) (mv U U (kpL [(3,_),(11,_),(12,_),(13,_)] (.c4 U U U U) (nl ?_))))))))));replace a7:=e6.fr ((Fr.refl [a2] _).z3 q3 q4 q5) (by intro k D;simp at D;omega);replace M:=M.fr q5 (by intro k D hb;simp[z0u]at D hb;omega);exact lpE ((i+1,us.set i (((some ⟨O,0,none⟩,(ts.getD i tq0).2.length,(ts.getD i tq0).2.length):SV),rs))) (.c4 U U U U) ⟨((Fr.refl [a2] _).z4 q2 q3 q4 q5),⟨sm,by simp only[List.length_set];exact a8,j7j (d0▸M),u9m d6 oo d5,a7.put oo (by rw[show slv ((some ⟨O,0,none⟩,(ts.getD i tq0).2.length,(ts.getD i tq0).2.length):SV)=(.slice (some ⟨O,0,none⟩) rs.length rs.length) by rw[b9];rfl];exact(b9.symm▸Z).low oo) (λq hq=>by
  obtain⟨j,hj,rfl⟩:=List.getElem_of_mem hq;have:=b6 j oo;rw[List.getD,List.getElem?_eq_getElem hj]at this;exact this.low oo) (λj hj b hb e9=>by have:=e7 j hj b hb;simp[z0u,slv]at e9;omega)⟩⟩ sm
 obtain rfl:i=ts.length:=by omega
 exact ex (te (te (xh (tn (sr (mv U U (asg U (kpL [(2,_)] (.cons U .nil) (nn (rt (r1 results90 U ⟨_,rfl,⟨a2,us,rfl,oo,PreT.tbo M (a8.symm▸a7) oo,a8,y5b a8 d6⟩,(q1.z1 q2)⟩)))))))))))
theorem v0q:BuildAt prog 183 [(0,1),(1,2),(3,1),(4,1),(5,1),(6,1)] [(.int .i64 0),(.slice none 0 0),(.slice none 0 0),(.slice none 0 0),(.slice none 0 0),(.map none),(.slice none 0 0)]:=BuildAt.struct underlying183 (λ_=>kr) (λ_=>kr)
theorem j5n:CallOf prog 88:=mkC func88
theorem j7i:CallOf prog 90:=mkC func90
theorem x8c:z0x prog 57 0 0:=λ_ _=>kr
theorem x8j:z0x prog 57 1 1:=λ_ _=>kr
theorem x6g:z0x prog 57 2 3:=λ_ _=>kr
theorem z9u:z0x prog 57 3 4:=λ_ _=>kr
structure StSz (s:StQ):Prop where
  bf:s.q.fs.length<=40
  bb:s.q.bs.length<=40
  f4:z9k s.q.fs
  b4:z9k s.q.bs
  ly:s.ys.length=6
  lt:s.fb.ts.length=6
  pe:∀i,(s.ys.getD i yq0).pes.length<=100000
  tb:∀p∈s.fb.ts,p.2.length<=100000/\∀q∈p.2,q.ths.length<=100000/\q.pas.length<=100000
  fl:s.fb.fs.length<=100000
  cs:s.fb.cs.length<=100000000
  hs:s.fb.hs.length<=100000
theorem y1u {τ:TyK}{b base:Nat}{w:World}{v:Value}{ys:List YQ}(h:YsO τ base w v ys)(hb:b<=base):YsO τ b w v ys:=⟨h.out.low hb,λi D=>(h.ins i D).low hb⟩
theorem y1w {τ:TyK}{b base:Nat}{w:World}{v:Value}{ts:List TQ}(h:TbO τ base w v ts)(hb:b<=base):TbO τ b w v ts:=⟨h.out.low hb,λi D=>(h.ins i D).low hb,h.off,λi D q I=>⟨(h.lps i D q I).1.low hb,(h.lps i D q I).2.low hb⟩⟩
theorem u8t (s:StQ)(w0:World)(I:StAt w0 s)(D:StSz s)(g6:(s.fb.cs.map cxK).Nodup):Rets prog 39 #[.agg #[.int .i64 s.rk,.slice s.q.f.1 s.q.f.2.1 s.q.f.2.2,.slice s.q.b.1 s.q.b.2.1 s.q.b.2.2,.slice s.yv.1 s.yv.2.1 s.yv.2.2,.slice s.fb.t.1 s.fb.t.2.1 s.fb.t.2.2,.slice s.fb.c.1 s.fb.c.2.1 s.fb.c.2.2,.slice s.fb.h.1 s.fb.h.2.1 s.fb.h.2.2,.slice s.fb.f.1 s.fb.f.2.1 s.fb.f.2.2]] w0 λr w'=>∃ka m,r=.pointer (some ⟨ka.gk,0,none⟩)/\MkM τd 183 w0 ka w' m/\m.p=(⟨s.rk,⟨trimB (plB s.q.fs),trimB (plB s.q.bs)⟩,s.ys.map YQ.p,z1s s.fb.ts,s.fb.cs,s.fb.fs⟩:MSt):=by
 have i0:=z1x I.f.c;have i1:=D.cs;refine we [(0,.agg #[.int .i64 s.rk,.slice s.q.f.1 s.q.f.2.1 s.q.f.2.2,.slice s.q.b.1 s.q.b.2.1 s.q.b.2.2,.slice s.yv.1 s.yv.2.1 s.yv.2.2,.slice s.fb.t.1 s.fb.t.2.1 s.fb.t.2.2,.slice s.fb.c.1 s.fb.c.2.1 s.fb.c.2.2,.slice s.fb.h.1 s.fb.h.2.1 s.fb.h.2.2,.slice s.fb.f.1 s.fb.f.2.1 s.fb.f.2.2])] func39 U ntmps39 U (.cons U .nil) ?_;have f2:=I;refine sr (bx U (λg1 w1 i2 J q1 z1=>(asg U (nn (jn (ι:=MA) [(1,_)] (λka=>[(3,.pointer (some ⟨ka.gk,0,none⟩))]) (λka w'=>Fr [] w1 w'/\∃m:MQ,MkM τd 183 w0 ka w' m/\m.p=(⟨s.rk,⟨trimB (plB s.q.fs),trimB (plB s.q.bs)⟩,s.ys.map YQ.p,z1s s.fb.ts,[],s.fb.fs⟩:MSt)) (.cons U .nil) ?_ ?_)))));replace I:=f2.ext q1;intro a h;refine z0h none (λwb w'=>Fr [] wb w') z2m ?_;intro w2 q2;have z2:=q2.size;replace I:=I.ext q2;replace J:=J.ext q2;have hC:Fr [] w2 w2:=Fr.refl _ _;have c1:=I;have Z:=J;refine z0c 0 h U x8c U λa h=>z0j 1 h U (λ_ hw=>Z.ext hw) U na3 U λa h=>z0c 2 h U x8j U λa h=>z5s 3 h U y6p U λa h=>z0j 4 h U (λ_ hw=>Z.ext hw) U x8b U λa h=>z0c 6 h U x8j U λa h=>z5s 7 h U y2r U λa h=>z0j 8 h U (λ_ hw=>Z.ext hw) U x8b U λa h=>z0c 11 h U x6g U λa h=>z0j 12 h U (λ_ hw=>Z.ext hw) U y3q U λa h=>z0c 14 h U z9u U λa h=>z5s 15 h U z9q U λa h=>z0j 16 h U (λ_ hw=>Z.ext hw) U x3s U λa h=>z0c 18 h U z9u U λa h=>z5s 19 h U x8h U λa h=>z0j 20 h U (λ_ hw=>Z.ext hw) U j7z U λa h=>z6l 21 h wn U underlying36 U λa h=>z0c 23 h U z9u U λa h=>z5s 24 h U y6x U λa h=>z0j 25 h U (λ_ hw=>Z.ext hw) U z8h U λa h=>z1y 5 22 kr U ?_ ?_;refine z0o h (z0a U z0g) j5n (y4o _ s.q.fs _ I.b.f I.b.fi D.bf D.f4) ?_;rintro _ w3 ⟨⟨f1,O,e0,gF,rfl⟩,q3⟩ a h;have z3:=q3.size;replace I:=I.ext q3;replace J:=J.ext q3;replace hC:=hC.next q3;have d9:∀x∈f1,∀k∈z0u (slv x.1),k<w3.heap.size:=λx hx k hk=>((O.2 x hx).blk k hk).2;refine z0b (z1y 9 22 kr U ?_ ?_);refine z0o h (z0a U z0g) j5n (y4o _ s.q.bs _ I.b.b I.b.bi D.bb D.b4) ?_;rintro _ w4 ⟨⟨e3,M,d6,gB,rfl⟩,q4⟩ a h;have z4:=q4.size;replace I:=I.ext q4;replace J:=J.ext q4;replace O:=O.ext q4;replace hC:=hC.next q4;have d5:∀x∈e3,∀k∈z0u (slv x.1),k<w4.heap.size:=λx hx k hk=>((M.2 x hx).blk k hk).2;refine z0b (z2x (cs:=[_,_]) 10 h (z0a U (z0a U z0g)) j2o (z0f U (z0f U z0p)) U U λa h=>z1y 13 22 kr U ?_ ?_);refine z0o h (z0a U z0g) (mkC func89) (y9m _ s.ys _ I.y I.ya (by have:=D.ly;omega) D.pe) ?_;rintro _ w5 ⟨⟨gy,ps,rfl,f3,hY,d0,d1⟩,q5⟩ a h;have z5:=q5.size;replace I:=I.ext q5;replace J:=J.ext q5;replace O:=O.ext q5;replace M:=M.ext q5;replace hC:=hC.next q5;refine z0b (z1y 17 22 kr U ?_ ?_);refine z0o h (z0a U z0g) j7i (y5o _ s.fb.ts _ I.f.t I.f.tt (by have:=D.lt;omega) D.tb) ?_;rintro _ w6 ⟨⟨gt,us,rfl,e8,hT,a7,a6⟩,q6⟩ a h;have z6:=q6.size;replace I:=I.ext q6;replace J:=J.ext q6;replace O:=O.ext q6;replace M:=M.ext q6;replace hY:=hY.ext q6;replace hC:=hC.next q6;have a5:∀i,i<us.length->∀q∈(us.getD i tq0).2,∀k∈z0u (slv q.th),k<w6.heap.size:=λi hi q hq k hk=>((hT.lps i hi q hq).1.blk k hk).2;refine z0b (z1y 22 26 kr U ?_ ?_);refine z4j (K:=184) (E:=3) crK h U underlying181 U λgm w7 e6 a2 q7 _hz a h=>?_;have z7:=q7.size;replace I:=I.ext q7;replace hC:=hC.next q7;clear _hz;refine z0b (z0d 26 U (z0o h (z0a U z0g) x0n (z3s _ s.fb.fs _ I.f.f D.fl) ?_));rintro _ w8 ⟨gf,rfl,e5,a3,q8⟩ a h;have z8:=q8.size;replace J:=J.ext (q7.n1 q8);replace hC:=hC.next q8;refine z0b (z2x (cs:=[_,_,_,_,_,_,_]) 27 h (z0a U (z0a U (z0a U (z0a U (z0a U (z0a U z0g)))))) v0q (z0f U (z0f U (z0f U (z0f U (z0f U (z0f U z0p)))))) U U λa h=>z0d 28 U ?_);refine y4g h U U U λw9 a1 q9 hz a h=>?_;obtain⟨a0,hg⟩:∃g,g=w8.heap.size:=⟨_,rfl⟩;rw[<-hg]at a1 h hz;have a4:g1<a0:=by have:=J.lt;omega
 have z9:=q9.size;replace O:=O.ext (q7.n2 q8 q9);replace M:=M.ext (q7.n2 q8 q9);replace hY:=hY.ext (q7.n2 q8 q9);replace hT:=hT.ext (q7.n2 q8 q9);replace a2:=a2.ext (q8.n1 q9);replace a3:=a3.ext q9;replace hC:=hC.next q9;refine z0b (z0d 29 U (z0s h U λa h=>?_));refine z0b (z0q ?_);clear hC c1 Z;exact bk (h.sub (L':=[(1,_),(3,_)]) (.c2 U U)) (jE ((⟨a0,gy,6,gt,6,gm,_⟩:MA)) (.c2 U U) ⟨((q2.n6 q3 q4 q5 q6 q7 q8).n1 q9),(y7f a1 (O.low oo) (M.low oo) (y1u hY oo) d0 d1 (y1w hT oo) a7 a6 a2 (a3.low oo) D.ly D.lt (((q1.n6 q2 q3 q4 q5 q6 q7).n1 q8).n1 q9) oo oo (λx hx hb=>by rcases List.mem_append.1 hx with k|k;have:=d9 x k _ hb;omega;have:=d5 x k _ hb;omega) (λi hi q hq hb=>by have:=a5 i (by have:=D.lt;omega) q hq _ hb;omega) e0 d6)⟩);refine z0o h (z0a U z0g) x0n (z3s _ s.fb.fs _ I.f.f D.fl) ?_;rintro _ i5 ⟨gf,rfl,e5,a3,d3⟩ a h;have k5:=d3.size;replace hC:=hC.next d3;refine z0b (z0d 22 U (z4j (K:=184) (E:=3) crK h U underlying181 U λgm g7 e6 a2 a8 _hz a h=>?_));have k6:=a8.size;replace J:=J.ext (d3.n1 a8);replace hC:=hC.next a8;clear _hz;refine z0b (z2x (cs:=[_,_,_,_,_,_,_]) 27 h (z0a U (z0a U (z0a U (z0a U (z0a U (z0a U z0g)))))) v0q (z0f U (z0f U (z0f U (z0f U (z0f U (z0f U z0p)))))) U U λa h=>z0d 28 U ?_);refine y4g h U U U λi7 a1 a9 hz a h=>?_;obtain⟨a0,hg⟩:∃g,g=g7.heap.size:=⟨_,rfl⟩;rw[<-hg]at a1 h hz;have a4:g1<a0:=by have:=J.lt;omega
 have k7:=a9.size;replace O:=O.ext (d3.n2 a8 a9);replace M:=M.ext (d3.n2 a8 a9);replace hY:=hY.ext (d3.n2 a8 a9);replace hT:=hT.ext (d3.n2 a8 a9);replace a3:=a3.ext (a8.n1 a9);replace a2:=a2.ext a9;replace hC:=hC.next a9;refine z0b (z0d 29 U (z0s h U λa h=>?_));refine z0b (z0q ?_);clear hC c1 Z;exact bk (h.sub (L':=[(1,_),(3,_)]) (.c2 U U)) (jE ((⟨a0,gy,6,gt,6,gm,_⟩:MA)) (.c2 U U) ⟨((q2.n6 q3 q4 q5 q6 d3 a8).n1 a9),(y7f a1 (O.low oo) (M.low oo) (y1u hY oo) d0 d1 (y1w hT oo) a7 a6 a2 (a3.low oo) D.ly D.lt (((q1.n6 q2 q3 q4 q5 q6 d3).n1 a8).n1 a9) oo oo (λx hx hb=>by rcases List.mem_append.1 hx with k|k;have:=d9 x k _ hb;omega;have:=d5 x k _ hb;omega) (λi hi q hq hb=>by have:=a5 i (by have:=D.lt;omega) q hq _ hb;omega) e0 d6)⟩);refine z4j (K:=184) (E:=3) crK h U underlying181 U λgm i8 e6 a2 d4 _hz a h=>?_;have k8:=d4.size;replace I:=I.ext d4;replace hC:=hC.next d4;clear _hz;refine z0b (z0d 17 U (z0o h (z0a U z0g) j7i (y5o _ s.fb.ts _ I.f.t I.f.tt (by have:=D.lt;omega) D.tb) ?_));rintro _ g8 ⟨⟨gt,us,rfl,e8,hT,a7,a6⟩,q14⟩ a h;have k9:=q14.size;replace I:=I.ext q14;replace hC:=hC.next q14;have a5:∀i,i<us.length->∀q∈(us.getD i tq0).2,∀k∈z0u (slv q.th),k<g8.heap.size:=λi hi q hq k hk=>((hT.lps i hi q hq).1.blk k hk).2;refine z0b (z0d 26 U (z0o h (z0a U z0g) x0n (z3s _ s.fb.fs _ I.f.f D.fl) ?_));rintro _ g9 ⟨gf,rfl,e5,a3,b0⟩ a h;have l0:=b0.size;replace J:=J.ext (d4.n2 q14 b0);replace hC:=hC.next b0;refine z0b (z2x (cs:=[_,_,_,_,_,_,_]) 27 h (z0a U (z0a U (z0a U (z0a U (z0a U (z0a U z0g)))))) v0q (z0f U (z0f U (z0f U (z0f U (z0f U (z0f U z0p)))))) U U λa h=>z0d 28 U ?_);refine y4g h U U U λi9 a1 b3 hz a h=>?_;obtain⟨a0,hg⟩:∃g,g=g9.heap.size:=⟨_,rfl⟩;rw[<-hg]at a1 h hz;have a4:g1<a0:=by have:=J.lt;omega
 have l1:=b3.size;replace O:=O.ext (d4.n3 q14 b0 b3);replace M:=M.ext (d4.n3 q14 b0 b3);replace hY:=hY.ext (d4.n3 q14 b0 b3);replace a2:=a2.ext (q14.n2 b0 b3);replace hT:=hT.ext (b0.n1 b3);replace a3:=a3.ext b3;replace hC:=hC.next b3;refine z0b (z0d 29 U (z0s h U λa h=>?_));refine z0b (z0q ?_);clear hC c1 Z;exact bk (h.sub (L':=[(1,_),(3,_)]) (.c2 U U)) (jE ((⟨a0,gy,6,gt,6,gm,_⟩:MA)) (.c2 U U) ⟨((q2.n6 q3 q4 q5 d4 q14 b0).n1 b3),(y7f a1 (O.low oo) (M.low oo) (y1u hY oo) d0 d1 (y1w hT oo) a7 a6 a2 (a3.low oo) D.ly D.lt (((q1.n6 q2 q3 q4 q5 d4 q14).n1 b0).n1 b3) oo oo (λx hx hb=>by rcases List.mem_append.1 hx with k|k;have:=d9 x k _ hb;omega;have:=d5 x k _ hb;omega) (λi hi q hq hb=>by have:=a5 i (by have:=D.lt;omega) q hq _ hb;omega) e0 d6)⟩);refine z4j (K:=184) (E:=3) crK h U underlying181 U λgm j0 e6 a2 d7 _hz a h=>?_;have l2:=d7.size;replace I:=I.ext d7;replace hC:=hC.next d7;clear _hz;refine z0b (z0d 13 U (z0o h (z0a U z0g) (mkC func89) (y9m _ s.ys _ I.y I.ya (by have:=D.ly;omega) D.pe) ?_));rintro _ j1 ⟨⟨gy,ps,rfl,f3,hY,d0,d1⟩,q18⟩ a h;have l3:=q18.size;replace I:=I.ext q18;replace hC:=hC.next q18;refine z0b (z0d 17 U (z0o h (z0a U z0g) j7i (y5o _ s.fb.ts _ I.f.t I.f.tt (by have:=D.lt;omega) D.tb) ?_));rintro _ h0 ⟨⟨gt,us,rfl,e8,hT,a7,a6⟩,q19⟩ a h;have l4:=q19.size;replace I:=I.ext q19;replace hC:=hC.next q19;have a5:∀i,i<us.length->∀q∈(us.getD i tq0).2,∀k∈z0u (slv q.th),k<h0.heap.size:=λi hi q hq k hk=>((hT.lps i hi q hq).1.blk k hk).2;refine z0b (z0d 26 U (z0o h (z0a U z0g) x0n (z3s _ s.fb.fs _ I.f.f D.fl) ?_));rintro _ h1 ⟨gf,rfl,e5,a3,b4⟩ a h;have l5:=b4.size;replace J:=J.ext (d7.n3 q18 q19 b4);replace hC:=hC.next b4;refine z0b (z2x (cs:=[_,_,_,_,_,_,_]) 27 h (z0a U (z0a U (z0a U (z0a U (z0a U (z0a U z0g)))))) v0q (z0f U (z0f U (z0f U (z0f U (z0f U (z0f U z0p)))))) U U λa h=>z0d 28 U ?_);refine y4g h U U U λj2 a1 b5 hz a h=>?_;obtain⟨a0,hg⟩:∃g,g=h1.heap.size:=⟨_,rfl⟩;rw[<-hg]at a1 h hz;have a4:g1<a0:=by have:=J.lt;omega
 have l6:=b5.size;replace O:=O.ext (d7.n4 q18 q19 b4 b5);replace M:=M.ext (d7.n4 q18 q19 b4 b5);replace a2:=a2.ext (q18.n3 q19 b4 b5);replace hY:=hY.ext (q19.n2 b4 b5);replace hT:=hT.ext (b4.n1 b5);replace a3:=a3.ext b5;replace hC:=hC.next b5;refine z0b (z0d 29 U (z0s h U λa h=>?_));refine z0b (z0q ?_);clear hC c1 Z;exact bk (h.sub (L':=[(1,_),(3,_)]) (.c2 U U)) (jE ((⟨a0,gy,6,gt,6,gm,_⟩:MA)) (.c2 U U) ⟨((q2.n6 q3 q4 d7 q18 q19 b4).n1 b5),(y7f a1 (O.low oo) (M.low oo) (y1u hY oo) d0 d1 (y1w hT oo) a7 a6 a2 (a3.low oo) D.ly D.lt (((q1.n6 q2 q3 q4 d7 q18 q19).n1 b4).n1 b5) oo oo (λx hx hb=>by rcases List.mem_append.1 hx with k|k;have:=d9 x k _ hb;omega;have:=d5 x k _ hb;omega) (λi hi q hq hb=>by have:=a5 i (by have:=D.lt;omega) q hq _ hb;omega) e0 d6)⟩);refine z4j (K:=184) (E:=3) crK h U underlying181 U λgm j3 e6 a2 e1 _hz a h=>?_;have l7:=e1.size;replace I:=I.ext e1;replace hC:=hC.next e1;clear _hz;refine z0b (z0d 9 U (z0o h (z0a U z0g) j5n (y4o _ s.q.bs _ I.b.b I.b.bi D.bb D.b4) ?_));rintro _ h2 ⟨⟨e3,M,d6,gB,rfl⟩,q23⟩ a h;have l8:=q23.size;replace I:=I.ext q23;replace hC:=hC.next q23;have d5:∀x∈e3,∀k∈z0u (slv x.1),k<h2.heap.size:=λx hx k hk=>((M.2 x hx).blk k hk).2;refine z0b (z2x (cs:=[_,_]) 10 h (z0a U (z0a U z0g)) j2o (z0f U (z0f U z0p)) U U λa h=>z0d 13 U ?_);refine z0o h (z0a U z0g) (mkC func89) (y9m _ s.ys _ I.y I.ya (by have:=D.ly;omega) D.pe) ?_;rintro _ j4 ⟨⟨gy,ps,rfl,f3,hY,d0,d1⟩,q24⟩ a h;have l9:=q24.size;replace I:=I.ext q24;replace hC:=hC.next q24;refine z0b (z0d 17 U (z0o h (z0a U z0g) j7i (y5o _ s.fb.ts _ I.f.t I.f.tt (by have:=D.lt;omega) D.tb) ?_));rintro _ h3 ⟨⟨gt,us,rfl,e8,hT,a7,a6⟩,q25⟩ a h;have m0:=q25.size;replace I:=I.ext q25;replace hC:=hC.next q25;have a5:∀i,i<us.length->∀q∈(us.getD i tq0).2,∀k∈z0u (slv q.th),k<h3.heap.size:=λi hi q hq k hk=>((hT.lps i hi q hq).1.blk k hk).2;refine z0b (z0d 26 U (z0o h (z0a U z0g) x0n (z3s _ s.fb.fs _ I.f.f D.fl) ?_));rintro _ h4 ⟨gf,rfl,e5,a3,b6⟩ a h;have m4:=b6.size;replace J:=J.ext (e1.n4 q23 q24 q25 b6);replace hC:=hC.next b6;refine z0b (z2x (cs:=[_,_,_,_,_,_,_]) 27 h (z0a U (z0a U (z0a U (z0a U (z0a U (z0a U z0g)))))) v0q (z0f U (z0f U (z0f U (z0f U (z0f U (z0f U z0p)))))) U U λa h=>z0d 28 U ?_);refine y4g h U U U λj5 a1 b7 hz a h=>?_;obtain⟨a0,hg⟩:∃g,g=h4.heap.size:=⟨_,rfl⟩;rw[<-hg]at a1 h hz;have a4:g1<a0:=by have:=J.lt;omega
 have m5:=b7.size;replace O:=O.ext (e1.n5 q23 q24 q25 b6 b7);replace a2:=a2.ext (q23.n4 q24 q25 b6 b7);replace M:=M.ext (q24.n3 q25 b6 b7);replace hY:=hY.ext (q25.n2 b6 b7);replace hT:=hT.ext (b6.n1 b7);replace a3:=a3.ext b7;replace hC:=hC.next b7;refine z0b (z0d 29 U (z0s h U λa h=>?_));refine z0b (z0q ?_);clear hC c1 Z;exact bk (h.sub (L':=[(1,_),(3,_)]) (.c2 U U)) (jE ((⟨a0,gy,6,gt,6,gm,_⟩:MA)) (.c2 U U) ⟨((q2.n6 q3 e1 q23 q24 q25 b6).n1 b7),(y7f a1 (O.low oo) (M.low oo) (y1u hY oo) d0 d1 (y1w hT oo) a7 a6 a2 (a3.low oo) D.ly D.lt (((q1.n6 q2 q3 e1 q23 q24 q25).n1 b6).n1 b7) oo oo (λx hx hb=>by rcases List.mem_append.1 hx with k|k;have:=d9 x k _ hb;omega;have:=d5 x k _ hb;omega) (λi hi q hq hb=>by have:=a5 i (by have:=D.lt;omega) q hq _ hb;omega) e0 d6)⟩);refine z4j (K:=184) (E:=3) crK h U underlying181 U λgm j6 e6 a2 e2 _hz a h=>?_;have m6:=e2.size;replace I:=I.ext e2;replace hC:=hC.next e2;clear _hz;refine z0b (z0d 5 U (z0o h (z0a U z0g) j5n (y4o _ s.q.fs _ I.b.f I.b.fi D.bf D.f4) ?_));rintro _ h5 ⟨⟨f1,O,e0,gF,rfl⟩,q29⟩ a h;have m7:=q29.size;replace I:=I.ext q29;replace hC:=hC.next q29;have d9:∀x∈f1,∀k∈z0u (slv x.1),k<h5.heap.size:=λx hx k hk=>((O.2 x hx).blk k hk).2;refine z0b (z0d 9 U (z0o h (z0a U z0g) j5n (y4o _ s.q.bs _ I.b.b I.b.bi D.bb D.b4) ?_));rintro _ h6 ⟨⟨e3,M,d6,gB,rfl⟩,q30⟩ a h;have m8:=q30.size;replace I:=I.ext q30;replace hC:=hC.next q30;have d5:∀x∈e3,∀k∈z0u (slv x.1),k<h6.heap.size:=λx hx k hk=>((M.2 x hx).blk k hk).2;refine z0b (z2x (cs:=[_,_]) 10 h (z0a U (z0a U z0g)) j2o (z0f U (z0f U z0p)) U U λa h=>z0d 13 U ?_);refine z0o h (z0a U z0g) (mkC func89) (y9m _ s.ys _ I.y I.ya (by have:=D.ly;omega) D.pe) ?_;rintro _ j7 ⟨⟨gy,ps,rfl,f3,hY,d0,d1⟩,q31⟩ a h;have m9:=q31.size;replace I:=I.ext q31;replace hC:=hC.next q31;refine z0b (z0d 17 U (z0o h (z0a U z0g) j7i (y5o _ s.fb.ts _ I.f.t I.f.tt (by have:=D.lt;omega) D.tb) ?_));rintro _ h7 ⟨⟨gt,us,rfl,e8,hT,a7,a6⟩,q32⟩ a h;have n7:=q32.size;replace I:=I.ext q32;replace hC:=hC.next q32;have a5:∀i,i<us.length->∀q∈(us.getD i tq0).2,∀k∈z0u (slv q.th),k<h7.heap.size:=λi hi q hq k hk=>((hT.lps i hi q hq).1.blk k hk).2;refine z0b (z0d 26 U (z0o h (z0a U z0g) x0n (z3s _ s.fb.fs _ I.f.f D.fl) ?_));rintro _ h8 ⟨gf,rfl,e5,a3,b8⟩ a h;have n8:=b8.size;replace J:=J.ext (e2.n5 q29 q30 q31 q32 b8);replace hC:=hC.next b8;refine z0b (z2x (cs:=[_,_,_,_,_,_,_]) 27 h (z0a U (z0a U (z0a U (z0a U (z0a U (z0a U z0g)))))) v0q (z0f U (z0f U (z0f U (z0f U (z0f U (z0f U z0p)))))) U U λa h=>z0d 28 U ?_);refine y4g h U U U λj8 a1 b9 hz a h=>?_;obtain⟨a0,hg⟩:∃g,g=h8.heap.size:=⟨_,rfl⟩;rw[<-hg]at a1 h hz;have a4:g1<a0:=by have:=J.lt;omega
 have n9:=b9.size;replace a2:=a2.ext (q29.n5 q30 q31 q32 b8 b9);replace O:=O.ext (q30.n4 q31 q32 b8 b9);replace M:=M.ext (q31.n3 q32 b8 b9);replace hY:=hY.ext (q32.n2 b8 b9);replace hT:=hT.ext (b8.n1 b9);replace a3:=a3.ext b9;replace hC:=hC.next b9;refine z0b (z0d 29 U (z0s h U λa h=>?_));refine z0b (z0q ?_);clear hC c1 Z;exact bk (h.sub (L':=[(1,_),(3,_)]) (.c2 U U)) (jE ((⟨a0,gy,6,gt,6,gm,_⟩:MA)) (.c2 U U) ⟨((q2.n6 e2 q29 q30 q31 q32 b8).n1 b9),(y7f a1 (O.low oo) (M.low oo) (y1u hY oo) d0 d1 (y1w hT oo) a7 a6 a2 (a3.low oo) D.ly D.lt (((q1.n6 q2 e2 q29 q30 q31 q32).n1 b8).n1 b9) oo oo (λx hx hb=>by rcases List.mem_append.1 hx with k|k;have:=d9 x k _ hb;omega;have:=d5 x k _ hb;omega) (λi hi q hq hb=>by have:=a5 i (by have:=D.lt;omega) q hq _ hb;omega) e0 d6)⟩);rintro ka j9 ⟨f8,⟨m,hM,e7⟩⟩;have o0:=f8.size;have f4:=hM;refine kpC [(1,_),(3,.pointer (some ⟨ka.gk,0,none⟩))] (.c2 U U) (sq (sr (fad U z9u (y7l U x8h U ?_))));replace J:=J.ext f8;refine z0i U J U j7z (lnS U underlying36 (mv U U (nn (bl (lpK (ι:=Nat) [(3,_),(37,_),(38,_)] (λi=>[(39,.int .i64 (i:Int))]) (λi w'=>i<=s.fb.cs.length/\(∃m:MQ,m.p=(⟨s.rk,⟨trimB (plB s.q.fs),trimB (plB s.q.bs)⟩,s.ys.map YQ.p,z1s s.fb.ts,s.fb.cs.take i,s.fb.fs⟩:MSt)/\MkM τd 183 w0 ka w' m)) (λi=>s.fb.cs.length-i) 0 (.c4 U U U U) ⟨Nat.zero_le _,⟨m,e7,hM⟩⟩ ?_)))));rintro i k0 ⟨hi,⟨m,e7,hM⟩⟩;have f4:=hM;refine kpC [(3,_),(37,_),(38,_),(39,_)] (.c4 U U U U) ?_;have hk:=hM.k;have i4:=hk.lt;refine sr (lt' U (nn (sq (cd U (λc0=>?_) (λc0=>?_)))));refine sk (tn (sq (bl (sr (z1d (cx0) U (f2.f.c.ext hM.fr.fr) U u3w z1i (λh9 f6=>?_))))));refine z1k U (f6 _ (f2.f.c.ext hM.fr.fr)) v8x (al u1p U (λg5 k1 i3 e4 f9 o1=>(z0k (vs:=[_,_,_,_,_]) U e4 j3s (λk2 e4 g0 o2=>(nn ?_)))));replace hM:=f4.ext (f9.z1 g0);replace hk:=(hk.ext f9).fr g0;intro a h;refine z0h (some 11) (λwb w'=>Fr [] wb w') z2m ?_;intro g3 e9;have o3:=e9.size;replace hM:=hM.ext e9;replace hk:=hk.ext e9;replace e4:=e4.ext e9;have hC:Fr [] g3 g3:=Fr.refl _ _;have f5:=hM;have f0:=hk;have c9:=e4;refine z0e 0 h U λa h=>z0l 1 h U λa h=>z0c 2 h U y2g U λa h=>z0j 3 h U (λ_ hw=>f0.ext hw) U x9s U λa h=>z0c 4 h U y4e U λa h=>z1b (vs:=[_,_]) 5 h U (λ_ hw=>(c9.ext hw)) z2w U U λa h=>z0c 6 h U y4k U λa h=>z1b (vs:=[_,_]) 7 h U (λ_ hw=>(c9.ext hw)) z2w U U λa h=>z2x (cs:=[_,_,_,_]) 8 h (z0a U (z0a U z0g)) u7h (z0f U (z0f U z0p)) U U λa h=>z0c 9 h U y9p U λa h=>z0j 10 h U (λ_ hw=>c9.ext hw) U na3 U λa h=>?_;refine z0d 11 U (y1s (V:=crK) (k:=cxK (s.fb.cs.getD i cx0)) (v:=.int .i64 (s.fb.cs.getD i cx0).n) h U U U hM.c x8r underlying181 λk4 f7 hq _hz a h=>?_);rw[show m.cr=s.fb.cs.take i from congrArg MSt.cr e7]at f7;replace hM:=hM.cross (l:=s.fb.cs.take (i+1)) (by rw[<-u3a g6 oo];exact f7) hq;refine z1m (z0q ?_);clear hC f5 f0 c9;exact bk (h.sub (L':=[(3,_),(37,_),(38,_),(39,_)]) (.c4 U U U U)) (bn' (tn (rg (z0z U (wi6 oo) (mv U U (nl (lpE (i+1) (.c4 U U U U) ⟨oo,⟨{ m with cr:=s.fb.cs.take (i+1) },by rw[show ({ m with cr:=s.fb.cs.take (i+1) }:MQ).p={ m.p with cr:=s.fb.cs.take (i+1) } from U,e7],hM⟩⟩ oo)))))));obtain rfl:i=s.fb.cs.length:=by omega
 exact ex (te (te (xh (tn (sr (mv U U (asg U (kpL [(2,_)] (.cons U .nil) (nn (rt (r1 results39 U ⟨_,rfl,ka,m,rfl,hM,by rw[e7,List.take_length]⟩)))))))))))
theorem j5u (v:Value)(l:List Int)(w0:World)(J:Sl Enc.i64 w0 v l)(hl:l.length<=1000):Rets prog 66 #[v] w0 λr w'=>r=.int .i64 (orZ l)/\w'=w0:=by
 obtain⟨A,c,rfl,a0,hM,hA⟩:=id J;clear hA;unfold maxLen at hM;refine we [(0,.slice A l.length c)] func66 U ntmps66 U (.cons U .nil) ?_;have M:=J;refine sr (asg U (nn (sr (asg U (nn (sq (sr (mv U U (lnS U underlying154 (mv U U (nn (bl (lpK (ι:=Nat) [(3,_),(6,_),(7,_)] (λi=>[(8,.int .i64 (i:Int))]) (λi w'=>Fr [] w0 w'/\i<=l.length/\(∀j,j<i->l.getD j 0=0)/\w'=w0) (λi=>l.length-i) 0 (.c4 U U U U) ⟨Fr.refl _ _,⟨Nat.zero_le _,⟨λj h=>absurd h oo,rfl⟩⟩⟩ ?_)))))))))))));rintro i w1 ⟨q1,⟨hi,⟨O,D⟩⟩⟩;refine kpC [(3,_),(6,_),(7,_),(8,_)] (.c4 U U U U) (sr (lt' U (nn (sq (cd U (λc0=>?_) (λc0=>?_))))));refine sk (tn (sq (bl (sr ?_))));replace J:=M.ext q1;refine z1d (0) U J U z7m z1i (λZ I=>?_);refine z1l U (I _ J) na3 (asg U (nn (sr (mv U U (mv U U (ne' U (nn (cd U (λc1=>?_) (λc1=>?_)))))))));refine sr (mv U U (asg U (kpL [(2,_)] (.cons U .nil) (nn (rt (rb (tr (tr (rb (tr (r1 results66 U ?_)))))))))));exact⟨_,rfl,congrArg (Value.int .i64) (v8a oo O oo).symm,D⟩;refine sk (bn' (tn (rg (z0z U (wi6 oo) (mv U U (nl ?_))))));exact lpE (i+1) (.c4 U U U U) ⟨q1,⟨oo,⟨λj h=>by
  by_cases e:j=i;subst e;omega;exact O j oo,D⟩⟩⟩ oo
 obtain rfl:i=l.length:=by omega
 refine ex (te (te (xh (tn (sr (mv U U (asg U (kpL [(2,_)] (.cons U .nil) (nn (rt (r1 results66 U ?_)))))))))));exact⟨_,rfl,congrArg (Value.int .i64) (x0f O).symm,D⟩
theorem nanD (x:Int)(W:World):Calls prog 129 #[.int .i64 x] W λe w'=>e=.returned (.bool false)/\w'=W:=by
 go_enter func129,ntmps129;go_wp2;go_ret;exact⟨sp0,rfl⟩
theorem k0f (x:Int)(W:World):Calls prog 180 #[.int .u8 x] W λe w'=>e=.returned (.bool false)/\w'=W:=by
 go_enter func180,ntmps180;go_wp2;go_ret;exact⟨sp0,rfl⟩
theorem cmpD (x y:Int)(W:World):Calls prog 67 #[.int .i64 x,.int .i64 y] W λe w'=>e=.returned (.int .i64 (z6a x y))/\w'=W:=by
 go_enter func67,ntmps67
 go_wp2_with (go_at_call 129;refine(nanD _ _).mono ?_;rintro e w' ⟨rfl,D⟩;rw[D])
 all_goals (go_ret;refine⟨?_,rfl⟩;unfold z6a;(repeat' split)<;>first|rfl|(exfalso;omega))
theorem j9l (x y:Int)(W:World):Calls prog 131 #[.int .u8 x,.int .u8 y] W λe w'=>e=.returned (.int .i64 (z6a x y))/\w'=W:=by
 go_enter func131,ntmps131
 go_wp2_with (go_at_call 180;refine(k0f _ _).mono ?_;rintro e w' ⟨rfl,D⟩;rw[D])
 all_goals (go_ret;refine⟨?_,rfl⟩;unfold z6a;(repeat' split)<;>first|rfl|(exfalso;omega))
theorem orD (b T:Nat)(x y:Int)(W:World)(D:W.heap[b]?=some (.cells #[.int .i64 x,.int .i64 y] T (0,0))):Calls prog 66 #[.slice (some ⟨b,0,none⟩) 2 2] W λe w'=>e=.returned (.int .i64 (orZ [x,y]))/\w'=W:=
 Calls.mono (j5u _ _ W (j3f D) sp0) (by rintro e w' ⟨r,rfl,rfl,h⟩;exact⟨rfl,h⟩)
theorem u0c (x y:LId)(W:World):Calls prog 69 #[.agg #[.int .u8 x.y,.int .i64 x.n],.agg #[.int .u8 y.y,.int .i64 y.n]] W λe w'=>e=.returned (.int .i64 (z6n x y))/\DG W w':=by
 rw[<-x6s x y]
 go_enter func69,ntmps69
 go_wp2
 go_region_held3 (λw'=>w'.cell? ⟨W.heap.size,0,none⟩=some (.int .u8 x.y)/\w'.cell? ⟨W.heap.size,1,none⟩=some (.int .i64 x.n)/\w'.cell? ⟨W.heap.size+1,0,none⟩=some (.int .u8 y.y)/\w'.cell? ⟨W.heap.size+1,1,none⟩=some (.int .i64 y.n)) (go_keep)
  (first|(go_at_call 131;refine(j9l _ _ _).mono ?_;rintro e w' ⟨rfl,rfl⟩)|(go_at_call 67;refine(cmpD _ _ _).mono ?_;rintro e w' ⟨rfl,rfl⟩)|(go_at_call 66;refine(orD _ 3 (z6a x.y y.y) (z6a x.n y.n) _ (v9x _ _ _ sp0)).mono ?_;rintro e w' ⟨rfl,rfl⟩)|(go_at_call 66;refine(orD _ 3 (z6a x.y y.y) (z6a x.n y.n) _ (j6h _ _ _ sp0)).mono ?_;rintro e w' ⟨rfl,rfl⟩))
 all_goals go_wp2
 all_goals go_ret
 all_goals refine⟨rfl,?_⟩
 all_goals repeat first|exact DG.refl _|refine DG.drew ?_|refine DG.alloc ?_ _
theorem j6y (x y:Cx)(W:World):Calls prog 102 #[j2j x,j2j y] W λe w'=>e=.returned (.int .i64 (x5u x y))/\DG W w':=by
 go_enter func102,ntmps102
 go_wp2_with (first|(go_at_call 69;refine(u0c ⟨_,_⟩ ⟨_,_⟩ _).mono ?_;rintro e w' ⟨rfl,D⟩;have M:w'.cell? ⟨W.heap.size,2,none⟩=some (.int .u8 x.b.y):=D.cell (by simp[j2j]);have c2:w'.cell? ⟨W.heap.size,3,none⟩=some (.int .i64 x.b.n):=D.cell (by simp[j2j]);have c3:w'.cell? ⟨W.heap.size+1,2,none⟩=some (.int .u8 y.b.y):=D.cell (by simp[j2j]);have c4:w'.cell? ⟨W.heap.size+1,3,none⟩=some (.int .i64 y.b.n):=D.cell (by simp[j2j]))|(go_at_call 69;refine(u0c ⟨_,_⟩ ⟨_,_⟩ _).mono ?_;rintro e J ⟨rfl,I⟩))
 all_goals go_ret
 ·rename_i h
  refine⟨?_,(((DG.refl _).alloc _).alloc _).trans D⟩
  show Ending.returned (Value.int .i64 (z6n x.a y.a))=_
  unfold x5u;rw[if_pos (by simpa using h)]
 rename_i h
 refine⟨?_,((((DG.refl _).alloc _).alloc _).trans D).trans I⟩
 show Ending.returned (Value.int .i64 (z6n x.b y.b))=_
 unfold x5u;rw[if_neg (by simpa using h)]
end Go.Proofs.YtjilcnmaefhmeaaGreatDoor
namespace Go.Proofs
open Go.Shelf
def Tryz.sortHz_ren:Go.Shelf.Ren:=⟨fun|6=>64|15=>128|14=>127|28=>178|29=>179|20=>170|21=>171|22=>172|23=>173|24=>174|25=>175|26=>176|27=>177|46=>227|47=>228|48=>229|49=>230|50=>231|57=>269|n=>n,fun|22=>68|24=>75|25=>89|3=>3|39=>217|0=>0|53=>268|55=>270|4=>4|46=>262|45=>261|50=>259|5=>5|9=>9|66=>319|70=>323|76=>356|77=>220|n=>n,fun|n=>n⟩
theorem Tryz.sortHz:Go.Proofs.SlLaysF0.n6 Tryz.prog Tryz.sortHz_ren:={
 mixed:=by kernel_rfl
 f6:=⟨Tryz.f64.name,dd,Tryz.func64.trans (congrArg some kr)⟩
 f14:=⟨Tryz.f127.name,dd,Tryz.func127.trans (congrArg some kr)⟩
 f15:=Tryz.func128.trans (congrArg some kr)
 f20:=⟨Tryz.f170.name,dd,Tryz.func170.trans (congrArg some kr)⟩
 f21:=⟨Tryz.f171.name,dd,Tryz.func171.trans (congrArg some kr)⟩
 f22:=⟨Tryz.f172.name,dd,Tryz.func172.trans (congrArg some kr)⟩
 f23:=⟨Tryz.f173.name,dd,Tryz.func173.trans (congrArg some kr)⟩
 f24:=⟨Tryz.f174.name,dd,Tryz.func174.trans (congrArg some kr)⟩
 f25:=⟨Tryz.f175.name,dd,Tryz.func175.trans (congrArg some kr)⟩
 f26:=⟨Tryz.f176.name,dd,Tryz.func176.trans (congrArg some kr)⟩
 f27:=⟨Tryz.f177.name,dd,Tryz.func177.trans (congrArg some kr)⟩
 f28:=Tryz.func178.trans (congrArg some kr)
 f29:=Tryz.func179.trans (congrArg some kr)
 f46:=⟨Tryz.f227.name,dd,Tryz.func227.trans (congrArg some kr)⟩
 f47:=Tryz.func228.trans (congrArg some kr)
 f48:=Tryz.func229.trans (congrArg some kr)
 f49:=⟨Tryz.f230.name,dd,Tryz.func230.trans (congrArg some kr)⟩
 f50:=⟨Tryz.f231.name,dd,Tryz.func231.trans (congrArg some kr)⟩
 f57:=⟨Tryz.f269.name,dd,Tryz.func269.trans (congrArg some kr)⟩
 t0:=Tryz.underlying0
 a0:=Tryz.isAgg0
 z0:=Tryz.sizeOf0
 v0:=Tryz.zeroValue0
 t3:=Tryz.underlying3
 a3:=Tryz.isAgg3
 z3:=Tryz.sizeOf3
 v3:=Tryz.zeroValue3
 t4:=Tryz.underlying4
 a4:=Tryz.isAgg4
 z4:=Tryz.sizeOf4
 v4:=Tryz.zeroValue4
 t5:=Tryz.underlying5
 a5:=Tryz.isAgg5
 z5:=Tryz.sizeOf5
 v5:=Tryz.zeroValue5
 t9:=Tryz.underlying9
 a9:=Tryz.isAgg9
 z9:=Tryz.sizeOf9
 v9:=Tryz.zeroValue9
 t22:=Tryz.underlying68
 a22:=Tryz.isAgg68
 z22:=Tryz.sizeOf68
 v22:=Tryz.zeroValue68
 t25:=Tryz.underlying89
 a25:=Tryz.isAgg89
 z25:=Tryz.sizeOf89
 v25:=Tryz.zeroValue89
 t39:=Tryz.underlying217
 a39:=Tryz.isAgg217
 z39:=Tryz.sizeOf217
 v39:=Tryz.zeroValue217
 t45:=Tryz.underlying261
 a45:=Tryz.isAgg261
 z45:=Tryz.sizeOf261
 v45:=Tryz.zeroValue261
 t46:=Tryz.underlying262
 a46:=Tryz.isAgg262
 z46:=Tryz.sizeOf262
 v46:=Tryz.zeroValue262
 t50:=Tryz.underlying259
 a50:=Tryz.isAgg259
 z50:=Tryz.sizeOf259
 v50:=Tryz.zeroValue259
 t53:=Tryz.underlying268
 a53:=Tryz.isAgg268
 z53:=Tryz.sizeOf268
 v53:=Tryz.zeroValue268
 t55:=Tryz.underlying270
 a55:=Tryz.isAgg270
 z55:=Tryz.sizeOf270
 v55:=Tryz.zeroValue270
 t66:=Tryz.underlying319
 a66:=Tryz.isAgg319
 z66:=Tryz.sizeOf319
 v66:=Tryz.zeroValue319
 t70:=Tryz.underlying323
 a70:=Tryz.isAgg323
 z70:=Tryz.sizeOf323
 v70:=Tryz.zeroValue323
 t76:=Tryz.underlying356
 a76:=Tryz.isAgg356
 z76:=Tryz.sizeOf356
 v76:=Tryz.zeroValue356
 t77:=Tryz.underlying220
 a77:=Tryz.isAgg220
 z77:=Tryz.sizeOf220
 v77:=Tryz.zeroValue220 }
def Tryz.sortCx_ren:Go.Shelf.Ren:=⟨fun|6=>101|15=>128|14=>153|28=>178|29=>179|20=>203|21=>204|22=>205|23=>206|24=>207|25=>208|26=>209|27=>210|46=>257|47=>228|48=>229|49=>258|50=>259|57=>284|n=>n,fun|22=>36|24=>117|25=>188|3=>3|39=>217|0=>0|53=>268|55=>270|4=>4|46=>262|45=>261|50=>259|5=>5|9=>9|66=>319|70=>323|76=>356|77=>220|n=>n,fun|n=>n⟩
theorem Tryz.sortCx:Go.Proofs.SlLaysF0.n6 Tryz.prog Tryz.sortCx_ren:={
 mixed:=by kernel_rfl
 f6:=⟨Tryz.f101.name,dd,Tryz.func101.trans (congrArg some kr)⟩
 f14:=⟨Tryz.f153.name,dd,Tryz.func153.trans (congrArg some kr)⟩
 f15:=Tryz.func128.trans (congrArg some kr)
 f20:=⟨Tryz.f203.name,dd,Tryz.func203.trans (congrArg some kr)⟩
 f21:=⟨Tryz.f204.name,dd,Tryz.func204.trans (congrArg some kr)⟩
 f22:=⟨Tryz.f205.name,dd,Tryz.func205.trans (congrArg some kr)⟩
 f23:=⟨Tryz.f206.name,dd,Tryz.func206.trans (congrArg some kr)⟩
 f24:=⟨Tryz.f207.name,dd,Tryz.func207.trans (congrArg some kr)⟩
 f25:=⟨Tryz.f208.name,dd,Tryz.func208.trans (congrArg some kr)⟩
 f26:=⟨Tryz.f209.name,dd,Tryz.func209.trans (congrArg some kr)⟩
 f27:=⟨Tryz.f210.name,dd,Tryz.func210.trans (congrArg some kr)⟩
 f28:=Tryz.func178.trans (congrArg some kr)
 f29:=Tryz.func179.trans (congrArg some kr)
 f46:=⟨Tryz.f257.name,dd,Tryz.func257.trans (congrArg some kr)⟩
 f47:=Tryz.func228.trans (congrArg some kr)
 f48:=Tryz.func229.trans (congrArg some kr)
 f49:=⟨Tryz.f258.name,dd,Tryz.func258.trans (congrArg some kr)⟩
 f50:=⟨Tryz.f259.name,dd,Tryz.func259.trans (congrArg some kr)⟩
 f57:=⟨Tryz.f284.name,dd,Tryz.func284.trans (congrArg some kr)⟩
 t0:=Tryz.underlying0
 a0:=Tryz.isAgg0
 z0:=Tryz.sizeOf0
 v0:=Tryz.zeroValue0
 t3:=Tryz.underlying3
 a3:=Tryz.isAgg3
 z3:=Tryz.sizeOf3
 v3:=Tryz.zeroValue3
 t4:=Tryz.underlying4
 a4:=Tryz.isAgg4
 z4:=Tryz.sizeOf4
 v4:=Tryz.zeroValue4
 t5:=Tryz.underlying5
 a5:=Tryz.isAgg5
 z5:=Tryz.sizeOf5
 v5:=Tryz.zeroValue5
 t9:=Tryz.underlying9
 a9:=Tryz.isAgg9
 z9:=Tryz.sizeOf9
 v9:=Tryz.zeroValue9
 t22:=Tryz.underlying36
 a22:=Tryz.isAgg36
 z22:=Tryz.sizeOf36
 v22:=Tryz.zeroValue36
 t25:=Tryz.underlying188
 a25:=Tryz.isAgg188
 z25:=Tryz.sizeOf188
 v25:=Tryz.zeroValue188
 t39:=Tryz.underlying217
 a39:=Tryz.isAgg217
 z39:=Tryz.sizeOf217
 v39:=Tryz.zeroValue217
 t45:=Tryz.underlying261
 a45:=Tryz.isAgg261
 z45:=Tryz.sizeOf261
 v45:=Tryz.zeroValue261
 t46:=Tryz.underlying262
 a46:=Tryz.isAgg262
 z46:=Tryz.sizeOf262
 v46:=Tryz.zeroValue262
 t50:=Tryz.underlying259
 a50:=Tryz.isAgg259
 z50:=Tryz.sizeOf259
 v50:=Tryz.zeroValue259
 t53:=Tryz.underlying268
 a53:=Tryz.isAgg268
 z53:=Tryz.sizeOf268
 v53:=Tryz.zeroValue268
 t55:=Tryz.underlying270
 a55:=Tryz.isAgg270
 z55:=Tryz.sizeOf270
 v55:=Tryz.zeroValue270
 t66:=Tryz.underlying319
 a66:=Tryz.isAgg319
 z66:=Tryz.sizeOf319
 v66:=Tryz.zeroValue319
 t70:=Tryz.underlying323
 a70:=Tryz.isAgg323
 z70:=Tryz.sizeOf323
 v70:=Tryz.zeroValue323
 t76:=Tryz.underlying356
 a76:=Tryz.isAgg356
 z76:=Tryz.sizeOf356
 v76:=Tryz.zeroValue356
 t77:=Tryz.underlying220
 a77:=Tryz.isAgg220
 z77:=Tryz.sizeOf220
 v77:=Tryz.zeroValue220 }
def Tryz.sortId_ren:Go.Shelf.Ren:=⟨fun|6=>104|15=>128|14=>154|28=>178|29=>179|20=>211|21=>212|22=>213|23=>214|24=>215|25=>216|26=>217|27=>218|46=>260|47=>228|48=>229|49=>261|50=>262|57=>285|n=>n,fun|22=>27|24=>73|25=>151|3=>3|39=>217|0=>0|53=>268|55=>270|4=>4|46=>262|45=>261|50=>259|5=>5|9=>9|66=>319|70=>323|76=>356|77=>220|n=>n,fun|n=>n⟩
theorem Tryz.sortId:Go.Proofs.SlLaysF0.n6 Tryz.prog Tryz.sortId_ren:={
 mixed:=by kernel_rfl
 f6:=⟨Tryz.f104.name,dd,Tryz.func104.trans (congrArg some kr)⟩
 f14:=⟨Tryz.f154.name,dd,Tryz.func154.trans (congrArg some kr)⟩
 f15:=Tryz.func128.trans (congrArg some kr)
 f20:=⟨Tryz.f211.name,dd,Tryz.func211.trans (congrArg some kr)⟩
 f21:=⟨Tryz.f212.name,dd,Tryz.func212.trans (congrArg some kr)⟩
 f22:=⟨Tryz.f213.name,dd,Tryz.func213.trans (congrArg some kr)⟩
 f23:=⟨Tryz.f214.name,dd,Tryz.func214.trans (congrArg some kr)⟩
 f24:=⟨Tryz.f215.name,dd,Tryz.func215.trans (congrArg some kr)⟩
 f25:=⟨Tryz.f216.name,dd,Tryz.func216.trans (congrArg some kr)⟩
 f26:=⟨Tryz.f217.name,dd,Tryz.func217.trans (congrArg some kr)⟩
 f27:=⟨Tryz.f218.name,dd,Tryz.func218.trans (congrArg some kr)⟩
 f28:=Tryz.func178.trans (congrArg some kr)
 f29:=Tryz.func179.trans (congrArg some kr)
 f46:=⟨Tryz.f260.name,dd,Tryz.func260.trans (congrArg some kr)⟩
 f47:=Tryz.func228.trans (congrArg some kr)
 f48:=Tryz.func229.trans (congrArg some kr)
 f49:=⟨Tryz.f261.name,dd,Tryz.func261.trans (congrArg some kr)⟩
 f50:=⟨Tryz.f262.name,dd,Tryz.func262.trans (congrArg some kr)⟩
 f57:=⟨Tryz.f285.name,dd,Tryz.func285.trans (congrArg some kr)⟩
 t0:=Tryz.underlying0
 a0:=Tryz.isAgg0
 z0:=Tryz.sizeOf0
 v0:=Tryz.zeroValue0
 t3:=Tryz.underlying3
 a3:=Tryz.isAgg3
 z3:=Tryz.sizeOf3
 v3:=Tryz.zeroValue3
 t4:=Tryz.underlying4
 a4:=Tryz.isAgg4
 z4:=Tryz.sizeOf4
 v4:=Tryz.zeroValue4
 t5:=Tryz.underlying5
 a5:=Tryz.isAgg5
 z5:=Tryz.sizeOf5
 v5:=Tryz.zeroValue5
 t9:=Tryz.underlying9
 a9:=Tryz.isAgg9
 z9:=Tryz.sizeOf9
 v9:=Tryz.zeroValue9
 t22:=Tryz.underlying27
 a22:=Tryz.isAgg27
 z22:=Tryz.sizeOf27
 v22:=Tryz.zeroValue27
 t25:=Tryz.underlying151
 a25:=Tryz.isAgg151
 z25:=Tryz.sizeOf151
 v25:=Tryz.zeroValue151
 t39:=Tryz.underlying217
 a39:=Tryz.isAgg217
 z39:=Tryz.sizeOf217
 v39:=Tryz.zeroValue217
 t45:=Tryz.underlying261
 a45:=Tryz.isAgg261
 z45:=Tryz.sizeOf261
 v45:=Tryz.zeroValue261
 t46:=Tryz.underlying262
 a46:=Tryz.isAgg262
 z46:=Tryz.sizeOf262
 v46:=Tryz.zeroValue262
 t50:=Tryz.underlying259
 a50:=Tryz.isAgg259
 z50:=Tryz.sizeOf259
 v50:=Tryz.zeroValue259
 t53:=Tryz.underlying268
 a53:=Tryz.isAgg268
 z53:=Tryz.sizeOf268
 v53:=Tryz.zeroValue268
 t55:=Tryz.underlying270
 a55:=Tryz.isAgg270
 z55:=Tryz.sizeOf270
 v55:=Tryz.zeroValue270
 t66:=Tryz.underlying319
 a66:=Tryz.isAgg319
 z66:=Tryz.sizeOf319
 v66:=Tryz.zeroValue319
 t70:=Tryz.underlying323
 a70:=Tryz.isAgg323
 z70:=Tryz.sizeOf323
 v70:=Tryz.zeroValue323
 t76:=Tryz.underlying356
 a76:=Tryz.isAgg356
 z76:=Tryz.sizeOf356
 v76:=Tryz.zeroValue356
 t77:=Tryz.underlying220
 a77:=Tryz.isAgg220
 z77:=Tryz.sizeOf220
 v77:=Tryz.zeroValue220 }
end Go.Proofs
namespace Go.Proofs.YtjilcnmaefhmeaaGreatDoor
open Go.Lw Go.G21 Go.G08 _root_.Go.Proofs.Tryz
open Go.Shelf Go.Sort
theorem u5r (f:Value)(W:World):Calls prog 203 #[.slice none 0 0,.int .i64 0,.int .i64 0,f] W λe w'=>e=.returned (.tuple #[])/\Fr [] W w':=by
 go_enter func203,ntmps203
 go_wp2
 refine wp_loop_rounds 1 ?_
 simp only[rounds_succ]
 go_wp2
 all_goals first|go_end0|((try simp only[Exit.inBlock,Exit.then]);refine bodyPost_ret (results_none U _ _ _) U ?_)
 all_goals exact⟨rfl,Fr.refl _ _⟩
theorem u8v (f:Value)(W:World):Calls prog 153 #[.slice none 0 0,.int .i64 0,.int .i64 0,.int .i64 0,f] W λe w'=>e=.returned (.tuple #[])/\Fr [] W w':=by
 go_enter func153,ntmps153
 go_wp2
 refine wp_loop_rounds 1 ?_
 simp only[rounds_succ]
 go_wp2_with (go_at_call 203;refine(u5r _ _).mono ?_;rintro e w' ⟨rfl,D⟩)
 all_goals first|go_end0|((try simp only[Exit.inBlock,Exit.then]);refine bodyPost_ret (results_none U _ _ _) U ?_)
 all_goals exact⟨rfl,D⟩
theorem u6g (W:World):Calls prog 128 #[.int .u64 0] W λe w'=>e=.returned (.int .i64 0)/\w'=W:=
 Any.bits_Len (SlLaysF0.n15.bits (P:=prog) (ρ:=sortCx_ren) { sortCx with }) (0:Int) W oo oo
theorem u6n (f:Value)(W:World):Calls prog 101 #[.slice none 0 0,f] W λe w'=>e=.returned (.tuple #[])/\Fr [] W w':=by
 go_enter func101,ntmps101
 go_wp2_with (first|(go_at_call 128;refine(u6g _).mono ?_;rintro e w' ⟨rfl,rfl⟩)|(go_at_call 153;refine(u8v _ _).mono ?_;rintro e w' ⟨rfl,D⟩))
 all_goals go_end0
 all_goals exact⟨rfl,D⟩
theorem u9w (f:Value)(W:World):Calls prog 211 #[.slice none 0 0,.int .i64 0,.int .i64 0,f] W λe w'=>e=.returned (.tuple #[])/\Fr [] W w':=by
 go_enter func211,ntmps211
 go_wp2
 refine wp_loop_rounds 1 ?_
 simp only[rounds_succ]
 go_wp2
 all_goals first|go_end0|((try simp only[Exit.inBlock,Exit.then]);refine bodyPost_ret (results_none U _ _ _) U ?_)
 all_goals exact⟨rfl,Fr.refl _ _⟩
theorem u6f (f:Value)(W:World):Calls prog 154 #[.slice none 0 0,.int .i64 0,.int .i64 0,.int .i64 0,f] W λe w'=>e=.returned (.tuple #[])/\Fr [] W w':=by
 go_enter func154,ntmps154
 go_wp2
 refine wp_loop_rounds 1 ?_
 simp only[rounds_succ]
 go_wp2_with (go_at_call 211;refine(u9w _ _).mono ?_;rintro e w' ⟨rfl,D⟩)
 all_goals first|go_end0|((try simp only[Exit.inBlock,Exit.then]);refine bodyPost_ret (results_none U _ _ _) U ?_)
 all_goals exact⟨rfl,D⟩
theorem j2d (W:World):Calls prog 128 #[.int .u64 0] W λe w'=>e=.returned (.int .i64 0)/\w'=W:=
 Any.bits_Len (SlLaysF0.n15.bits (P:=prog) (ρ:=sortId_ren) { sortId with }) (0:Int) W oo oo
theorem u6p (f:Value)(W:World):Calls prog 104 #[.slice none 0 0,f] W λe w'=>e=.returned (.tuple #[])/\Fr [] W w':=by
 go_enter func104,ntmps104
 go_wp2_with (first|(go_at_call 128;refine(j2d _).mono ?_;rintro e w' ⟨rfl,rfl⟩)|(go_at_call 154;refine(u6f _ _).mono ?_;rintro e w' ⟨rfl,D⟩))
 all_goals go_end0
 all_goals exact⟨rfl,D⟩
instance:Inhabited Cx:=⟨cx0⟩
instance:Inhabited LId:=⟨id0⟩
theorem j7r {w0:World}{T base:Nat}{v:Value}{l:List Cx}(ho:Lw.Own z5p T base w0 v l)(hl:l.length<4611686018427387904)(hn:(l.map λc=>(c.a,c.b)).Nodup):Rets prog 101 #[v,.func (.func 102) #[] #[]] w0 λr w'=>r=.tuple #[]/\Lw.Own z5p T base w' v (x2z l)/\Fr (z0u v) w0 w':=
 Rets.mono (y8d (E:=z5p) (f:=101) sortCx U isAgg117 sizeOf117 x5u swoX (enters_of func102 kr U) (λx y W=>j6y x y W) (u6n _) ho hl) (by
  rintro r w' ⟨rfl,l',J,M,D,I⟩
  rw[v1v hn J M]at D
  exact⟨rfl,D,I⟩)
theorem j4d {w0:World}{T base:Nat}{v:Value}{l:List LId}(ho:Lw.Own z1f T base w0 v l)(hl:l.length<4611686018427387904):Rets prog 104 #[v,.func (.func 69) #[] #[]] w0 λr w'=>r=.tuple #[]/\Lw.Own z1f T base w' v (z7n l)/\Fr (z0u v) w0 w':=
 Rets.mono (y8d (E:=z1f) (f:=104) sortId U isAgg73 sizeOf73 z6n swoI (enters_of func69 kr U) (λx y W=>u0c x y W) (u6p _) ho hl) (by
  rintro r w' ⟨rfl,l',J,M,D,I⟩
  rw[u9k J M]at D
  exact⟨rfl,D,I⟩)
theorem j1t (f:Value)(W:World):Calls prog 170 #[.slice none 0 0,.int .i64 0,.int .i64 0,f] W λe w'=>e=.returned (.tuple #[])/\Fr [] W w':=by
 go_enter func170,ntmps170
 go_wp2
 refine wp_loop_rounds 1 ?_
 simp only[rounds_succ]
 go_wp2
 all_goals first|go_end0|((try simp only[Exit.inBlock,Exit.then]);refine bodyPost_ret (results_none U _ _ _) U ?_)
 all_goals exact⟨rfl,Fr.refl _ _⟩
theorem u9n (f:Value)(W:World):Calls prog 127 #[.slice none 0 0,.int .i64 0,.int .i64 0,.int .i64 0,f] W λe w'=>e=.returned (.tuple #[])/\Fr [] W w':=by
 go_enter func127,ntmps127
 go_wp2
 refine wp_loop_rounds 1 ?_
 simp only[rounds_succ]
 go_wp2_with (go_at_call 170;refine(j1t _ _).mono ?_;rintro e w' ⟨rfl,D⟩)
 all_goals first|go_end0|((try simp only[Exit.inBlock,Exit.then]);refine bodyPost_ret (results_none U _ _ _) U ?_)
 all_goals exact⟨rfl,D⟩
theorem u5m (W:World):Calls prog 128 #[.int .u64 0] W λe w'=>e=.returned (.int .i64 0)/\w'=W:=
 Any.bits_Len (SlLaysF0.n15.bits (P:=prog) (ρ:=sortHz_ren) { sortHz with }) (0:Int) W oo oo
theorem j0k (f:Value)(W:World):Calls prog 64 #[.slice none 0 0,f] W λe w'=>e=.returned (.tuple #[])/\Fr [] W w':=by
 go_enter func64,ntmps64
 go_wp2_with (first|(go_at_call 128;refine(u5m _).mono ?_;rintro e w' ⟨rfl,rfl⟩)|(go_at_call 127;refine(u9n _ _).mono ?_;rintro e w' ⟨rfl,D⟩))
 all_goals go_end0
 all_goals exact⟨rfl,D⟩
open Go.Lw Go.G21 Go.G08 _root_.Go.Proofs.Tryz
theorem x6r (q:BdQ)(r:Int)(w0:World)(M:BdAt w0 q)(D:BdOk q.p)(hr:-4<=r/\r<=4):Rets prog 117 #[.agg #[.slice q.f.1 q.f.2.1 q.f.2.2,.slice q.b.1 q.b.2.1 q.b.2.2],.int .i64 r] w0 λv w'=>(∃g l n,l=z2q q.p r/\n=l.length/\n<=320/\v=.tuple #[.slice (some ⟨g,0,none⟩) n n,.int .i64 0]/\w0.heap.size<=g/\Lw.Own z3i 206 w0.heap.size w' (.slice (some ⟨g,0,none⟩) n n) l)/\Fr [] w0 w':=
 Rets.mono (v6h q r w0 M D hr) (by
  rintro v w' ⟨⟨g,rfl,I,J⟩,h3⟩
  have hN:=y2f D
  have O:=y9b q.p r
  have Z:(z2q q.p r).length=(v7d q.p r).length:=z4e _
  exact⟨⟨g,_,_,rfl,rfl,oo,rfl,I,J⟩,h3⟩)
theorem u7r {l:List Hd}{ps:List LId}(hl:ps.length=l.length)(h:∀j,j<l.length->ps.getD j id0=(l.getD j hd0).id):ps=l.map Hd.id:=by
 refine List.ext_getElem (by simp[hl]) λj I J=>?_;have D:j<l.length:=by omega
 have:=h j D;rw[List.getD,List.getD,List.getElem?_eq_getElem I,List.getElem?_eq_getElem D]at this;simpa using this
theorem y3x (q:BdQ)(r:Int)(w0:World)(hB:BdAt w0 q)(hv:BdOk q.p)(hr:-4<=r/\r<=4):Rets prog 52 #[.agg #[.slice q.f.1 q.f.2.1 q.f.2.2,.slice q.b.1 q.b.2.1 q.b.2.2],.int .i64 r] w0 λv w'=>(∃g n,n=(z2q q.p r).length/\v=.slice (some ⟨g,0,none⟩) n n/\w0.heap.size<=g/\Lw.Own z1f 73 w0.heap.size w' v ((z2q q.p r).map Hd.id))/\Fr [] w0 w':=by
 obtain⟨⟨hf,hb⟩,h4,b3⟩:=z3t hv;refine we [(0,.agg #[.slice q.f.1 q.f.2.1 q.f.2.2,.slice q.b.1 q.b.2.1 q.b.2.2]),(1,.int .i64 r)] func52 U ntmps52 U (.c2 U U) ?_;have a3:=hB;refine sr (bx U (λg2 w1 b4 a4 q1 z1=>(asg U (nn (sr (z0m U a4 z4s (mv U U ?_)))))));replace hB:=a3.ext q1;refine cl (ev2 U) (mkC func117) (x6r q _ _ hB hv hr) U ?_;rintro _ w2 ⟨⟨a2,l,n,a6,a1,b6,rfl,a9,Z⟩,q2⟩;have z2:=q2.size;have a5:=(Z.blk a2 (by simp[z0u])).2;refine mv U U (xt U (xt U (asg U (asg U (kpL [(5,_)] (.cons U .nil) (nn (sr (mv U U (lnS U underlying202 (z1e (m:=n) (c:=n) (id0) U z4u y0b U (λJ w3 b0 I q3 z3=>(asg U (nn (sq (sr (mv U U (lnS U underlying202 (mv U U (nn (bl (lpK (ι:=Nat×List LId) [(7,_),(19,_),(20,_)] (λp=>[(21,.int .i64 (p.1:Int))]) (λp w'=>Fr [J] w3 w'/\p.1<=n/\p.2.length=n/\Lw.Own z1f 73 w0.heap.size w' (.slice (some ⟨J,0,none⟩) n n) p.2/\(∀j,j<p.1->p.2.getD j id0=(l.getD j hd0).id)) (λp=>n-p.1) (0,List.replicate n id0) (.c4 U U U U) ⟨Fr.refl _ _,⟨Nat.zero_le _,sp0,I.low oo,λj hj=>absurd hj sp0⟩⟩ ?_)))))))))))))))))))));rintro⟨i,ps⟩ w4 ⟨q4,⟨hi,D,I,O⟩⟩;simp only at hi I O D;have z4:=q4.size;refine kpC [(7,_),(19,_),(20,_),(21,.int .i64 (i:Int))] (.c4 U U U U) (sr (lt' U (nn (sq (cd U (λc0=>?_) (λc0=>?_))))));refine sk (tn (sq (bl (sr (mv U U ?_)))));replace Z:=(Z.ext q3).fr q4 (by intro k hk hb;simp[z0u]at hk hb;omega);refine z1d (hd0) U Z.sl U z3f z1i (λa8 a0=>?_);refine z1k U (a0 _ Z.sl) z4w (al v2p U (λg9 w5 b5 M q5 z5=>(asg U (z0k (vs:=[_,_,_,_,_]) U M z7x (λw6 M q6 z6=>(nn (rg (mv U U (mv U U (fad U y9i (z1w (vs:=[_,_]) U M z2w U ?_)))))))))));replace I:=(I.ext q5).fr q6 (by intro k hk hb;simp at hk;subst hk;have:=(I.blk _ hb);omega);refine z9t (p:=i) (E:=z1f) U U z4u (z5w (i:=i) (((l.getD i hd0).id)) U U I oo U z9m (λw7 I q7 z7=>(kpL [(7,_),(19,_),(20,_),(21,_)] (.c4 U U U U) (nl (bn' (tn (rg (z0z U (wi6 oo) (mv U U (nl ?_))))))))));exact lpE ((i+1,ps.set i ((l.getD i hd0).id))) (.c4 U U U U) ⟨((Fr.refl [J] _).z4 q4 q5 q6 q7),⟨sm,by simp only[List.length_set];exact D,I,λj hj=>by
  simp only at hj ⊢;rw[z1j oo];split;rename_i e;subst e;rfl;exact O j oo⟩⟩ sm
 obtain rfl:i=n:=by omega
 refine ex (te (te (xh (tn (sr (mv U U (asg U (kpL [(4,_)] (.cons U .nil) (nn (rt (r1 results52 U ?_)))))))))));have a7:=u7r (D.trans a1) (λj hj=>O j oo);subst a6;subst a7;exact⟨_,rfl,⟨J,_,a1,rfl,oo,I⟩,(q1.z3 q2 q3 q4)⟩
theorem v1j:z3o prog 57 8:=⟨λ_=>kr,λ_=>kr⟩
theorem j6b:BuildAt prog 55 [(0,1),(1,1),(2,1),(3,1)] [(.slice none 0 0),(.slice none 0 0),(.slice none 0 0),(.slice none 0 0)]:=BuildAt.struct underlying55 (λ_=>kr) (λ_=>kr)
theorem u0h:BuildAt prog 57 [(0,1),(1,2),(3,1),(4,4)] [(.int .i64 0),(.slice none 0 0),(.slice none 0 0),(.slice none 0 0),(.slice none 0 0),(.slice none 0 0),(.slice none 0 0),(.slice none 0 0)]:=BuildAt.struct underlying57 (λ_=>kr) (λ_=>kr)
theorem k0w:BuildAt prog 117 [(0,2),(2,2),(4,1)] [(.int .u8 0),(.int .i64 0),(.int .u8 0),(.int .i64 0),(.int .i64 0)]:=BuildAt.struct underlying117 (λ_=>kr) (λ_=>kr)
theorem j5c:z1r prog 55 4:=λ_=>kr
theorem v4d:z1r prog 57 8:=λ_=>kr
theorem j2z (w:World):(zeroValue 55).run prog w=.ok (.agg #[(.slice none 0 0),(.slice none 0 0),(.slice none 0 0),(.slice none 0 0)]) w:=kr
theorem j7t (w:World):(zeroValue 57).run prog w=.ok (.agg #[(.int .i64 0),(.slice none 0 0),(.slice none 0 0),(.slice none 0 0),(.slice none 0 0),(.slice none 0 0),(.slice none 0 0),(.slice none 0 0)]) w:=kr
theorem v8e (wS:World)(ka:MA)(m:MQ)(w0:World)(hM:MkM τd 183 wS ka w0 m)(hi:MInv m.p)(o3:m.cr.length<=100000000):Rets prog 42 #[.pointer (some ⟨ka.gk,0,none⟩)] w0 λr w'=>∃s:StQ,r=.agg #[.int .i64 s.rk,.slice s.q.f.1 s.q.f.2.1 s.q.f.2.2,.slice s.q.b.1 s.q.b.2.1 s.q.b.2.2,.slice s.yv.1 s.yv.2.1 s.yv.2.2,.slice s.fb.t.1 s.fb.t.2.1 s.fb.t.2.2,.slice s.fb.c.1 s.fb.c.2.1 s.fb.c.2.2,.slice s.fb.h.1 s.fb.h.2.1 s.fb.h.2.2,.slice s.fb.f.1 s.fb.f.2.1 s.fb.f.2.2]/\StO τd 117 wS.heap.size w' s/\s.p=stM m.p/\Fr [] wS w':=by
 have o9:=hM.fr.size;have D:=hM.k;have o7:=D.lt;have o8:=hM.ly;have f7:=hM.lt;have i4:=hM;have n9:=(hM.t.out.blk ka.gt (by simp[z0u])).2;have n8:=hM.c.lt;have i7:=λk D=>(hM.f.blk k D).2;have o4:(crM m.cr).length=m.cr.length:=List.length_map ..;have l4:∀j,(m.ts.getD j tq0).2.length<=2048:=λj=>Nat.le_trans (u4k m.ts j) hi.all;have hfl:m.fl.length<=2048:=by have x:=hi.cnt;have y:=hi.all;have z:m.p.fa=m.fl:=rfl;rw[z]at x;omega
 refine we [(0,.pointer (some ⟨ka.gk,0,none⟩))] func42 U ntmps42 U (.cons U .nil) ?_;have a2:=hM;refine sr (al j7t U (λg2 w1 o5 M q1 z1=>(nn (sr (mv U U (nlc U (fad U y2g ?_)))))));replace D:=D.ext q1;refine z0i U D U x9s ?_;replace hM:=a2.ext q1;refine j6t U hM.c underlying181 U (z1e (m:=0) (c:=(crM m.cr).length) (cx0) U u3w u1p U (λo1 w2 m7 ho q2 z2=>(asg U (kpL [(0,_),(2,_),(3,_)] (.c3 U U U) (nn (sq (sr (mv U U (nlc U (fad U y2g ?_))))))))));replace D:=D.ext q2;refine z0i U D U x9s ?_;replace hM:=a2.ext (q1.n1 q2);refine v9a U hM.c underlying181 U (λk4 w3 m8 a1 q3 z3=>(nn (bl ?_)));replace ho:=ho.ext q3;refine lpK (ι:=Value×List Cx×List Cx) [(0,_),(2,_),(19,_)] (λp=>[(3,p.1)]) (λp w'=>Fr [] w1 w'/\(p.2.1++p.2.2).Perm m.cr/\Lw.Own z5p 117 w1.heap.size w' p.1 p.2.1/\CrIt w' k4 ka.gc (crM m.cr) p.2.2 none) (λp=>p.2.2.length) (_,[],m.cr) (.c4 U U U U) ⟨(q2.n1 q3),⟨List.Perm.refl _,ho.low oo,a1⟩⟩ ?_;rintro⟨vP,a5,rem⟩ w4 ⟨q4,⟨f2,ho,a1⟩⟩;simp only at f2 ho a1;have z4:=q4.size;refine kpC [(0,_),(2,_),(19,_),(3,vP)] (.c4 U U U U) ?_;have f9:=a1.neO ho;have k7:=a1.lt;have l3:=f2.length_eq;rw[List.length_append]at l3;refine sr (u9p U a1 U (λl1 c l2 g7 w5 a1 q5 z5=>?_) (λg7=>?_));refine xt U (nn (sq (ct U ?_)));have j2:((a5++[c])++(l1++l2)).Perm m.cr:=by
  rw[g7]at f2;refine List.Perm.trans ?_ f2;rw[List.append_assoc];exact List.Perm.append_left _ (show (c::(l1++l2)).Perm (l1++c::l2) from List.perm_middle.symm)
 refine sk (tn (bl (sr (v9l U a1 U (xt U (xt U (al j7a U (λg4 w6 o6 g1 q6 z6=>(z0k (vs:=[_,_,_,_]) U g1 u8e (λw7 g1 q7 z7=>?_))))))))));refine asg U (nn (rg (mv U U (y3b U U underlying184 z9m (z1w (vs:=[_,_]) U g1 z2w U (y3b U U underlying184 z9m (z1w (vs:=[_,_]) U g1 z2w U (mv U U (z1p (cs:=[_,_,_,_,_]) (ev3 U) k0w (z0f U (z0f U (z0f U z0p))) U ?_)))))))));refine z2i ([c]) (ev1 U) U u3w (λo2 w8 m9 j0 q8 z8=>?_);replace a1:=((a1.ext q6).fr q7 (by intro k D;simp at D;subst D;exact⟨oo,oo⟩)).ext q8;replace ho:=(((ho.fr q5 (by intro k D I;simp at D;subst D;first|exact(f9 _ I).2 U|(have:=ho.blk _ I;omega))).ext q6).fr q7 (by intro k D I;simp at D;subst D;first|exact(f9 _ I).2 U|(have:=ho.blk _ I;omega))).ext q8;have g0:=ho;refine z2b U ho j0.sl u3w (by unfold maxLen;simp only[List.length_cons,List.length_nil];omega) (by simp only[List.length_cons,List.length_nil];omega) (λp0 w9 ho q9 l0=>?_);have z9:=q9.size;replace a1:=a1.fr q9 (a1.neO g0);exact asg U (kpL [(0,_),(2,_),(3,_),(19,_)] (.c4 U U U U) (nl (bn' (lpE ((_,a5++[c],l1++l2)) (.c4 U U U U) ⟨((q4.z4 q5 q6 q7 q8).step q9 (λk D f7=>absurd (g0.blk k D).1 oo)),⟨j2,ho,a1.no⟩⟩ (by simp only[g7,List.length_append,List.length_cons];omega)))));refine xt U (nn (sq (cf U ?_)));rw[g7,List.append_nil]at f2;have k9:(a5.map λc=>(c.a,c.b)).Nodup:=(f2.map _).nodup_iff.2 (by have x:=i4.c.nodup;rwa [y9x]at x);have g8:x2z a5=x2z m.cr:=v1v (by have x:=i4.c.nodup;rwa [y9x]at x) ((z8n a5).trans f2) (x6i a5);refine ex (te (te (xh (tn (sr (mv U U ?_))))));have j1:=ho;replace M:=M.ext q4;refine cl (ev2 U) (mkC func101) (j7r ho oo k9) U ?_;rintro _ l5 ⟨rfl,ho,i0⟩;replace M:=M.fr i0 (λD=>by have:=(j1.blk _ D).1;omega);have r8:=i0.size;replace hM:=a2.ext ((q1.n1 q4).step i0 (λk D f7=>absurd (j1.blk k D).1 oo));have D:=hM.k;refine nn (sq (sr (mv U U (nlc U (fad U y2l (z0i U D U x3s (lnS U underlying53 (mv U U (nn (bl (lpK (ι:=Nat×List TQ) [(0,_),(2,_),(3,_),(39,_),(40,_)] (λp=>[(41,.int .i64 (p.1:Int))]) (λp w'=>Fr [ka.gt] l5 w'/\p.1<=6/\(∀j,(p.2.getD j tq0).2=(m.ts.getD j tq0).2)/\MkM τd 183 wS ka w' { m with ts:=p.2 }) (λp=>6-p.1) (0,m.ts) (.c6 U U U U U U) ⟨Fr.refl _ _,⟨Nat.zero_le _,λ_=>rfl,hM⟩⟩ ?_)))))))))));rintro⟨i,ts⟩ p1 ⟨h0,⟨k8,e1,hM⟩⟩;simp only at k8 e1 hM;have r9:=h0.size;have a2:=hM;refine kpC [(0,_),(2,_),(3,_),(39,_),(40,_),(41,.int .i64 (i:Int))] (.c6 U U U U U U) ?_;have D:=hM.k;have g9:ts.length=6:=hM.lt;have o0:=hM.lt;refine sr (lt' U (nn (sq (cd U (λc1=>?_) (λc1=>?_)))));refine sk (tn (sq (bl (sr (mv U U (z1d (tq0) U hM.t.out.sl U y5z z1i (λm6 i5=>?_)))))));refine z1l U (i5 _ hM.t.out.sl) x1u (asg U (asg U (nn ?_)));intro a h;refine z0h (some 7) (λwb w'=>Fr [] wb w') z2m ?_;intro j4 h1;have s2:=h1.size;replace hM:=hM.ext h1;replace D:=D.ext h1;have hC:Fr [] j4 j4:=Fr.refl _ _;have b7:=hM;have J:=D;refine z0e 0 h U λa h=>z0l 1 h U λa h=>z0c 2 h U y2l U λa h=>z0j 3 h U (λ_ hw=>J.ext hw) U x3s U λa h=>z0e 4 h U λa h=>z0e 5 h U λa h=>z0d 6 U (z0o h (z0a U z0g) (mkC func103) (v2c _ (ts.getD i tq0).2 _ (hM.t.ins i (by rw[hM.lt];omega)).sl (by rw[e1 i];have:=l4 i;omega)) ?_);rintro _ p2 ⟨i3,rfl,n7,hX,h2⟩ a h;have s3:=h2.size;replace hM:=hM.ext h2;replace hC:=hC.next h2;have i9:∀j,j<6->∀b∈z0u (slv (ts.getD j tq0).1),b∉z0u (slv (((some ⟨i3,0,none⟩,(ts.getD i tq0).2.length,(ts.getD i tq0).2.length)):SV)):=λj hj b I k5=>by have:=((a2.t.ins j (by rw[a2.lt];omega)).blk b I).2;simp[z0u,slv]at k5;omega
 refine z0b (z0d 7 U (y8w (p:=i) (i:=(i:Int)) (m:=6) (E:=z4c) h U U y5z oo oo oo U λa h=>?_));refine z0b (z0d 8 U (z1c (i:=i) (((some ⟨i3,0,none⟩,(ts.getD i tq0).2.length,(ts.getD i tq0).2.length),(ts.getD i tq0).2):TQ) h U hM.t.out (by rw[hM.lt];omega) U k0l λp3 h6 i1 _hz a h=>?_));replace hM:=hM.tabh mtd oo (hX.low oo) i9 h6 i1;have a2:=hM;clear h6;have s4:=i1.size;clear _hz;refine z1m (z0q ?_);clear hC b7 J;refine bk (h.sub (L':=[(0,_),(2,_),(3,_),(39,_),(40,_),(41,_)]) (.c6 U U U U U U)) (bn' (tn (rg (z0z U (wi6 oo) (mv U U (nl ?_))))));exact lpE ((i+1,_)) (.c6 U U U U U U) ⟨((Fr.refl [ka.gt] _).z4 h0 h1 h2 i1),⟨sm,λj=>by
  simp only;rw[z1j oo];split;rename_i e;subst e;exact e1 _;exact e1 j,hM⟩⟩ sm
 obtain rfl:i=6:=by omega
 refine ex (te (te (xh (tn (sr (mv U U (nlc U (fad U y2h (z0i U D U z8h ?_)))))))));replace ho:=ho.fr h0 (by intro k D I;simp at D;subst D;have:=ho.blk _ I;omega);replace M:=M.fr h0;refine cl (z0a U (z0a U z0g)) (mkC func104) (j4d hM.f (by show m.fl.length<_;omega)) U ?_;rintro _ p4 ⟨rfl,k6,g6⟩;have s5:=g6.size;replace hM:=hM.fallS mtd dd k6 g6;have a2:=hM;have D:=hM.k;replace ho:=ho.fr g6 (λk D I=>by have:=i7 k D;have:=(ho.blk k I).1;omega);have g3:=λk D=>(ho.blk k D).2;replace M:=M.fr g6 (λD=>by have:=i7 _ D;omega);have f5:=M;refine kpL [(0,_),(2,_),(3,_)] (.c3 U U U) (nn (sq ?_));intro a h;refine z0h none (λwb w'=>Fr [] wb w') z2m ?_;intro i2 a9;have s6:=a9.size;replace hM:=hM.ext a9;replace D:=D.ext a9;replace ho:=ho.ext a9;have hC:Fr [] i2 i2:=Fr.refl _ _;have b7:=hM;have J:=D;have f6:=ho;refine z0e 0 h U λa h=>z0l 1 h U λa h=>z0c 2 h U y2l U λa h=>z0j 3 h U (λ_ hw=>J.ext hw) U x3s U λa h=>z0e 4 h U λa h=>z0e 6 h U λa h=>z0l 7 h U λa h=>z0c 8 h U z3d U λa h=>z1b (vs:=[_,_]) 9 h U (λ_ hw=>(J.ext hw)) z4s U U λa h=>z0e 10 h U λa h=>z0l 11 h U λa h=>z0c 12 h U z3q U λa h=>z0j 13 h U (λ_ hw=>J.ext hw) U na3 U λa h=>z0e 15 h U λa h=>z0l 16 h U λa h=>z0c 17 h U y2h U λa h=>z0j 18 h U (λ_ hw=>J.ext hw) U z8h U λa h=>z1y 5 21 kr U ?_ ?_;refine z0o h (z0a U z0g) (mkC func105) (v3d _ (x2z a5) _ ho.sl (by rw[(z8n a5).length_eq];omega)) ?_;rintro _ l6 ⟨e9,rfl,i8,Z,b6⟩ a h;have s7:=b6.size;replace hM:=hM.ext b6;replace D:=D.ext b6;replace ho:=ho.ext b6;replace hC:=hC.next b6;have h8:=(Z.blk e9 (by simp[z0u])).2;refine z0b (z1y 14 21 kr U ?_ ?_);refine z0o h (z0a U (z0a U z0g)) (mkC func52) (y3x m.q m.rk _ hM.b.at hi.B hi.rk) ?_;rintro _ l7 ⟨⟨a8,j3,h5,rfl,h3,hH⟩,q18⟩ a h;have s8:=q18.size;replace hM:=hM.ext q18;replace D:=D.ext q18;replace ho:=ho.ext q18;replace Z:=Z.ext q18;replace hC:=hC.next q18;have h4:=(hH.blk a8 (by simp[z0u])).2;refine z0b (z1y 19 21 kr U ?_ ?_);refine z0o h (z0a U z0g) x0n (z3s _ (z7n m.fl) _ hM.f.sl (by rw[(z5i _).length_eq];omega)) ?_;rintro _ l8 ⟨a6,rfl,f8,a0,e2⟩ a h;have s9:=e2.size;replace D:=D.ext e2;replace hC:=hC.next e2;have f1:=(a0.blk a6 (by simp[z0u])).2;refine z0b (z2x (cs:=[_,_,_,_]) 20 h (z0a U (z0a U (z0a U (z0a U z0g)))) j6b (z0f U (z0f U (z0f U (z0f U z0p)))) U U λa h=>z0d 21 U ?_);refine z0w h j2z U λp5 O b8 hz a h=>?_;obtain⟨b0,hg⟩:∃g,g=l8.heap.size:=⟨_,rfl⟩;rw[<-hg]at O h hz;have h9.gk_8:ka.gk<b0:=by have:=D.lt;omega
 have t8:=b8.size;replace D:=D.ext b8;replace ho:=ho.ext (e2.n1 b8);replace Z:=Z.ext (e2.n1 b8);replace hH:=hH.ext (e2.n1 b8);replace a0:=a0.ext b8;replace hC:=hC.next b8;refine z0b (z0d 22 U (z0t h U O U j5c λl9 a4 b9 hz a h=>?_));have t9:=b9.size;replace D:=D.fr b9;replace ho:=ho.fr b9 (by intro k D I;simp at D;subst D;have:=g3 _ I;omega);replace Z:=Z.fr b9 (by intro k D I;simp[z0u]at D I;omega);replace hH:=hH.fr b9 (by intro k D I;simp[z0u]at D I;omega);replace a0:=a0.fr b9 (by intro k D I;simp[z0u]at D I;omega);replace hC:=hC.sp b9;clear O hz;have O:Blk l9 b0 _ [_,_,_,_]:=a4;clear a4;refine z0b (z0q ?_);clear hC b7 J f6;refine bk (h.sub (L':=[(0,_),(2,_),(8,_)]) (.c3 U U U)) (tn (sq ?_));replace M:=(M.ext (a9.n4 b6 q18 e2 b8)).fr b9;intro a h;refine z0h none (λwb w'=>Fr [g2] wb w') z2m ?_;intro j5 e3;have u0:=e3.size;replace D:=D.ext e3;replace M:=M.ext e3;replace O:=O.ext e3;have hC:Fr [g2] j5 j5:=Fr.refl _ _;have J:=D;have a7:=M;have a3:=O;refine z0e 0 h U λa h=>z0l 1 h U λa h=>z0c 2 h U z3q U λa h=>z0j 3 h U (λ_ hw=>J.fr hw se) U na3 U λa h=>z0e 4 h U λa h=>z0l 5 h U λa h=>z0c 6 h U z3d U λa h=>z1b (vs:=[_,_]) 7 h U (λ_ hw=>(J.fr hw se)) z4s U U λa h=>z0e 8 h U λa h=>z0l 9 h U λa h=>z0c 10 h U z3e U λa h=>?_;refine z0j 11 h U (λ_ hw=>J.fr hw se) U y3q U λa h=>z0v 12 h U (λ_ hw=>a3.fr hw se) v8j U λa h=>z2x (cs:=[_,_,_,_,_,_,_,_]) 13 h (z0a U (z0a U (z0a U (z0a U z0g)))) u0h (z0f U (z0f U (z0f U (z0f U z0p)))) U U λa h=>z0d 14 U ?_;refine z0t h U M U v4d λj6 a4 c0 hz a h=>?_;have u2:=c0.size;replace D:=D.fr c0;replace O:=O.fr c0;replace hC:=hC.sp c0;clear M hz;have M:Blk j6 g2 _ [_,_,_,_,_,_,_,_]:=a4;clear a4;refine z0b (z0q ?_);clear hC J a7 a3;refine bk (h.sub (L':=[(2,_)]) (.cons U .nil)) (tn (rt (rC results42 U M v1j  ?_)));replace Z:=(Z.ext e3).fr c0 (by intro k D I;simp[z0u]at D I;omega);replace hH:=(hH.ext e3).fr c0 (by intro k D I;simp[z0u]at D I;omega);replace a0:=(a0.ext e3).fr c0 (by intro k D I;simp[z0u]at D I;omega);have b3:=(a9.z6 b6 q18 e2 b8 b9 e3);have b4:Fr [] _ j6:=(Fr.refl _ _);have b5:=a2.ext b3;have hW:=(b5.toW.off (f5.ext b3) dd c0).ext b4;have f0:=(b5.fr.fr.step c0 so).next b4;have f3:z1s ts=z1s m.ts:=y5b (g9.trans f7.symm) (λj _=>by rw[e1 j]);exact⟨_,rfl,⟨m.rk,m.q,(some ⟨ka.gy,0,none⟩,6,ka.cy),m.ys,⟨(some ⟨ka.gt,0,none⟩,6,ka.ct),(some ⟨e9,0,none⟩,_,_),(some ⟨a8,0,none⟩,_,_),(some ⟨a6,0,none⟩,_,_),ts,x2z a5,_,z7n m.fl⟩⟩,rfl,⟨hW.b,hW.y,hW.t,Z.low oo,hH.low oo,a0.low oo,(λk D=>by
  have h7:k=a8:=by simpa[z0u,slv] using D
  refine⟨λq hq I=>?_,λt ht l hl I=>?_,λI=>?_⟩;rcases List.mem_append.1 hq with hq|hq
  have:=((a2.b.f.2 q hq).blk _ I).2;omega;have:=((a2.b.b.2 q hq).blk _ I).2;omega;obtain⟨i,hi,rfl⟩:=List.getElem_of_mem ht;have e:ts.getD i tq0=ts[i]:=by rw[List.getD,List.getElem?_eq_getElem hi];rfl
  rw[<-e]at hl;have:=((a2.t.lps i hi l hl).1.blk _ I).2;omega;have:k=a6:=by simpa[z0u,slv] using I
  omega)⟩,by show (⟨m.rk,m.q.p,m.ys.map YQ.p,⟨z1s ts,x2z a5,(z2q m.q.p m.rk).map Hd.id,z7n m.fl⟩⟩:St)=_;rw[f3,g8];rfl,f0⟩
 refine z0w h j2z U λp6 O c9 hz a h=>?_;obtain⟨b0,hg⟩:∃g,g=l7.heap.size:=⟨_,rfl⟩;rw[<-hg]at O h hz;have h9.gk_8:ka.gk<b0:=by have:=D.lt;omega
 have u3:=c9.size;replace hM:=hM.ext c9;replace hC:=hC.next c9;refine z0b (z0d 19 U (z0o h (z0a U z0g) x0n (z3s _ (z7n m.fl) _ hM.f.sl (by rw[(z5i _).length_eq];omega)) ?_));rintro _ p7 ⟨a6,rfl,f8,a0,d0⟩ a h;have u4:=d0.size;replace D:=D.ext (c9.n1 d0);replace ho:=ho.ext (c9.n1 d0);replace Z:=Z.ext (c9.n1 d0);replace hH:=hH.ext (c9.n1 d0);replace O:=O.ext d0;replace hC:=hC.next d0;have f1:=(a0.blk a6 (by simp[z0u])).2;refine z0b (z2x (cs:=[_,_,_,_]) 20 h (z0a U (z0a U (z0a U (z0a U z0g)))) j6b (z0f U (z0f U (z0f U (z0f U z0p)))) U U λa h=>z0d 22 U ?_);refine z0t h U O U j5c λm0 a4 d1 hz a h=>?_;have u5:=d1.size;replace D:=D.fr d1;replace ho:=ho.fr d1 (by intro k D I;simp at D;subst D;have:=g3 _ I;omega);replace Z:=Z.fr d1 (by intro k D I;simp[z0u]at D I;omega);replace hH:=hH.fr d1 (by intro k D I;simp[z0u]at D I;omega);replace a0:=a0.fr d1 (by intro k D I;simp[z0u]at D I;omega);replace hC:=hC.sp d1;clear O hz;have O:Blk m0 b0 _ [_,_,_,_]:=a4;clear a4;refine z0b (z0q ?_);clear hC b7 J f6;refine bk (h.sub (L':=[(0,_),(2,_),(8,_)]) (.c3 U U U)) (tn (sq ?_));replace M:=(M.ext (a9.n4 b6 q18 c9 d0)).fr d1;intro a h;refine z0h none (λwb w'=>Fr [g2] wb w') z2m ?_;intro j7 e4;have u6:=e4.size;replace D:=D.ext e4;replace M:=M.ext e4;replace O:=O.ext e4;have hC:Fr [g2] j7 j7:=Fr.refl _ _;have J:=D;have a7:=M;have a3:=O;refine z0e 0 h U λa h=>z0l 1 h U λa h=>z0c 2 h U z3q U λa h=>z0j 3 h U (λ_ hw=>J.fr hw se) U na3 U λa h=>z0e 4 h U λa h=>z0l 5 h U λa h=>z0c 6 h U z3d U λa h=>z1b (vs:=[_,_]) 7 h U (λ_ hw=>(J.fr hw se)) z4s U U λa h=>z0e 8 h U λa h=>z0l 9 h U λa h=>z0c 10 h U z3e U λa h=>?_;refine z0j 11 h U (λ_ hw=>J.fr hw se) U y3q U λa h=>z0v 12 h U (λ_ hw=>a3.fr hw se) v8j U λa h=>z2x (cs:=[_,_,_,_,_,_,_,_]) 13 h (z0a U (z0a U (z0a U (z0a U z0g)))) u0h (z0f U (z0f U (z0f U (z0f U z0p)))) U U λa h=>z0d 14 U ?_;refine z0t h U M U v4d λj8 a4 d3 hz a h=>?_;have u7:=d3.size;replace D:=D.fr d3;replace O:=O.fr d3;replace hC:=hC.sp d3;clear M hz;have M:Blk j8 g2 _ [_,_,_,_,_,_,_,_]:=a4;clear a4;refine z0b (z0q ?_);clear hC J a7 a3;refine bk (h.sub (L':=[(2,_)]) (.cons U .nil)) (tn (rt (rC results42 U M v1j  ?_)));replace Z:=(Z.ext e4).fr d3 (by intro k D I;simp[z0u]at D I;omega);replace hH:=(hH.ext e4).fr d3 (by intro k D I;simp[z0u]at D I;omega);replace a0:=(a0.ext e4).fr d3 (by intro k D I;simp[z0u]at D I;omega);have b3:=(a9.z6 b6 q18 c9 d0 d1 e4);have b4:Fr [] _ j8:=(Fr.refl _ _);have b5:=a2.ext b3;have hW:=(b5.toW.off (f5.ext b3) dd d3).ext b4;have f0:=(b5.fr.fr.step d3 so).next b4;have f3:z1s ts=z1s m.ts:=y5b (g9.trans f7.symm) (λj _=>by rw[e1 j]);exact⟨_,rfl,⟨m.rk,m.q,(some ⟨ka.gy,0,none⟩,6,ka.cy),m.ys,⟨(some ⟨ka.gt,0,none⟩,6,ka.ct),(some ⟨e9,0,none⟩,_,_),(some ⟨a8,0,none⟩,_,_),(some ⟨a6,0,none⟩,_,_),ts,x2z a5,_,z7n m.fl⟩⟩,rfl,⟨hW.b,hW.y,hW.t,Z.low oo,hH.low oo,a0.low oo,(λk D=>by
  have h7:k=a8:=by simpa[z0u,slv] using D
  refine⟨λq hq I=>?_,λt ht l hl I=>?_,λI=>?_⟩;rcases List.mem_append.1 hq with hq|hq
  have:=((a2.b.f.2 q hq).blk _ I).2;omega;have:=((a2.b.b.2 q hq).blk _ I).2;omega;obtain⟨i,hi,rfl⟩:=List.getElem_of_mem ht;have e:ts.getD i tq0=ts[i]:=by rw[List.getD,List.getElem?_eq_getElem hi];rfl
  rw[<-e]at hl;have:=((a2.t.lps i hi l hl).1.blk _ I).2;omega;have:k=a6:=by simpa[z0u,slv] using I
  omega)⟩,by show (⟨m.rk,m.q.p,m.ys.map YQ.p,⟨z1s ts,x2z a5,(z2q m.q.p m.rk).map Hd.id,z7n m.fl⟩⟩:St)=_;rw[f3,g8];rfl,f0⟩
 refine z0w h j2z U λp8 O e5 hz a h=>?_;obtain⟨b0,hg⟩:∃g,g=l6.heap.size:=⟨_,rfl⟩;rw[<-hg]at O h hz;have h9.gk_8:ka.gk<b0:=by have:=D.lt;omega
 have u9:=e5.size;replace hM:=hM.ext e5;replace hC:=hC.next e5;refine z0b (z0d 14 U (z0o h (z0a U (z0a U z0g)) (mkC func52) (y3x m.q m.rk _ hM.b.at hi.B hi.rk) ?_));rintro _ p9 ⟨⟨a8,j3,h5,rfl,h3,hH⟩,q30⟩ a h;have v8:=q30.size;replace hM:=hM.ext q30;replace hC:=hC.next q30;have h4:=(hH.blk a8 (by simp[z0u])).2;refine z0b (z0d 19 U (z0o h (z0a U z0g) x0n (z3s _ (z7n m.fl) _ hM.f.sl (by rw[(z5i _).length_eq];omega)) ?_));rintro _ q0 ⟨a6,rfl,f8,a0,d4⟩ a h;have v9:=d4.size;replace D:=D.ext (e5.n2 q30 d4);replace ho:=ho.ext (e5.n2 q30 d4);replace Z:=Z.ext (e5.n2 q30 d4);replace O:=O.ext (q30.n1 d4);replace hH:=hH.ext d4;replace hC:=hC.next d4;have f1:=(a0.blk a6 (by simp[z0u])).2;refine z0b (z2x (cs:=[_,_,_,_]) 20 h (z0a U (z0a U (z0a U (z0a U z0g)))) j6b (z0f U (z0f U (z0f U (z0f U z0p)))) U U λa h=>z0d 22 U ?_);refine z0t h U O U j5c λm4 a4 d5 hz a h=>?_;have x0:=d5.size;replace D:=D.fr d5;replace ho:=ho.fr d5 (by intro k D I;simp at D;subst D;have:=g3 _ I;omega);replace Z:=Z.fr d5 (by intro k D I;simp[z0u]at D I;omega);replace hH:=hH.fr d5 (by intro k D I;simp[z0u]at D I;omega);replace a0:=a0.fr d5 (by intro k D I;simp[z0u]at D I;omega);replace hC:=hC.sp d5;clear O hz;have O:Blk m4 b0 _ [_,_,_,_]:=a4;clear a4;refine z0b (z0q ?_);clear hC b7 J f6;refine bk (h.sub (L':=[(0,_),(2,_),(8,_)]) (.c3 U U U)) (tn (sq ?_));replace M:=(M.ext (a9.n4 b6 e5 q30 d4)).fr d5;intro a h;refine z0h none (λwb w'=>Fr [g2] wb w') z2m ?_;intro j9 e6;have x1:=e6.size;replace D:=D.ext e6;replace M:=M.ext e6;replace O:=O.ext e6;have hC:Fr [g2] j9 j9:=Fr.refl _ _;have J:=D;have a7:=M;have a3:=O;refine z0e 0 h U λa h=>z0l 1 h U λa h=>z0c 2 h U z3q U λa h=>z0j 3 h U (λ_ hw=>J.fr hw se) U na3 U λa h=>z0e 4 h U λa h=>z0l 5 h U λa h=>z0c 6 h U z3d U λa h=>z1b (vs:=[_,_]) 7 h U (λ_ hw=>(J.fr hw se)) z4s U U λa h=>z0e 8 h U λa h=>z0l 9 h U λa h=>z0c 10 h U z3e U λa h=>?_;refine z0j 11 h U (λ_ hw=>J.fr hw se) U y3q U λa h=>z0v 12 h U (λ_ hw=>a3.fr hw se) v8j U λa h=>z2x (cs:=[_,_,_,_,_,_,_,_]) 13 h (z0a U (z0a U (z0a U (z0a U z0g)))) u0h (z0f U (z0f U (z0f U (z0f U z0p)))) U U λa h=>z0d 14 U ?_;refine z0t h U M U v4d λk0 a4 d6 hz a h=>?_;have x2:=d6.size;replace D:=D.fr d6;replace O:=O.fr d6;replace hC:=hC.sp d6;clear M hz;have M:Blk k0 g2 _ [_,_,_,_,_,_,_,_]:=a4;clear a4;refine z0b (z0q ?_);clear hC J a7 a3;refine bk (h.sub (L':=[(2,_)]) (.cons U .nil)) (tn (rt (rC results42 U M v1j  ?_)));replace Z:=(Z.ext e6).fr d6 (by intro k D I;simp[z0u]at D I;omega);replace hH:=(hH.ext e6).fr d6 (by intro k D I;simp[z0u]at D I;omega);replace a0:=(a0.ext e6).fr d6 (by intro k D I;simp[z0u]at D I;omega);have b3:=(a9.z6 b6 e5 q30 d4 d5 e6);have b4:Fr [] _ k0:=(Fr.refl _ _);have b5:=a2.ext b3;have hW:=(b5.toW.off (f5.ext b3) dd d6).ext b4;have f0:=(b5.fr.fr.step d6 so).next b4;have f3:z1s ts=z1s m.ts:=y5b (g9.trans f7.symm) (λj _=>by rw[e1 j]);exact⟨_,rfl,⟨m.rk,m.q,(some ⟨ka.gy,0,none⟩,6,ka.cy),m.ys,⟨(some ⟨ka.gt,0,none⟩,6,ka.ct),(some ⟨e9,0,none⟩,_,_),(some ⟨a8,0,none⟩,_,_),(some ⟨a6,0,none⟩,_,_),ts,x2z a5,_,z7n m.fl⟩⟩,rfl,⟨hW.b,hW.y,hW.t,Z.low oo,hH.low oo,a0.low oo,(λk D=>by
  have h7:k=a8:=by simpa[z0u,slv] using D
  refine⟨λq hq I=>?_,λt ht l hl I=>?_,λI=>?_⟩;rcases List.mem_append.1 hq with hq|hq
  have:=((a2.b.f.2 q hq).blk _ I).2;omega;have:=((a2.b.b.2 q hq).blk _ I).2;omega;obtain⟨i,hi,rfl⟩:=List.getElem_of_mem ht;have e:ts.getD i tq0=ts[i]:=by rw[List.getD,List.getElem?_eq_getElem hi];rfl
  rw[<-e]at hl;have:=((a2.t.lps i hi l hl).1.blk _ I).2;omega;have:k=a6:=by simpa[z0u,slv] using I
  omega)⟩,by show (⟨m.rk,m.q.p,m.ys.map YQ.p,⟨z1s ts,x2z a5,(z2q m.q.p m.rk).map Hd.id,z7n m.fl⟩⟩:St)=_;rw[f3,g8];rfl,f0⟩
 refine z0w h j2z U λr4 O f4 hz a h=>?_;obtain⟨b0,hg⟩:∃g,g=i2.heap.size:=⟨_,rfl⟩;rw[<-hg]at O h hz;have h9.gk_8:ka.gk<b0:=by have:=D.lt;omega
 have x3:=f4.size;replace ho:=ho.ext f4;replace hC:=hC.next f4;refine z0b (z0d 5 U (z0o h (z0a U z0g) (mkC func105) (v3d _ (x2z a5) _ ho.sl (by rw[(z8n a5).length_eq];omega)) ?_));rintro _ r5 ⟨e9,rfl,i8,Z,e7⟩ a h;have x4:=e7.size;replace hM:=hM.ext (f4.n1 e7);replace hC:=hC.next e7;have h8:=(Z.blk e9 (by simp[z0u])).2;refine z0b (z0d 14 U (z0o h (z0a U (z0a U z0g)) (mkC func52) (y3x m.q m.rk _ hM.b.at hi.B hi.rk) ?_));rintro _ r6 ⟨⟨a8,j3,h5,rfl,h3,hH⟩,q37⟩ a h;have x5:=q37.size;replace hM:=hM.ext q37;replace hC:=hC.next q37;have h4:=(hH.blk a8 (by simp[z0u])).2;refine z0b (z0d 19 U (z0o h (z0a U z0g) x0n (z3s _ (z7n m.fl) _ hM.f.sl (by rw[(z5i _).length_eq];omega)) ?_));rintro _ r7 ⟨a6,rfl,f8,a0,d7⟩ a h;have x6:=d7.size;replace D:=D.ext (f4.n3 e7 q37 d7);replace ho:=ho.ext (e7.n2 q37 d7);replace O:=O.ext (e7.n2 q37 d7);replace Z:=Z.ext (q37.n1 d7);replace hH:=hH.ext d7;replace hC:=hC.next d7;have f1:=(a0.blk a6 (by simp[z0u])).2;refine z0b (z2x (cs:=[_,_,_,_]) 20 h (z0a U (z0a U (z0a U (z0a U z0g)))) j6b (z0f U (z0f U (z0f U (z0f U z0p)))) U U λa h=>z0d 22 U ?_);refine z0t h U O U j5c λm5 a4 d9 hz a h=>?_;have x7:=d9.size;replace D:=D.fr d9;replace ho:=ho.fr d9 (by intro k D I;simp at D;subst D;have:=g3 _ I;omega);replace Z:=Z.fr d9 (by intro k D I;simp[z0u]at D I;omega);replace hH:=hH.fr d9 (by intro k D I;simp[z0u]at D I;omega);replace a0:=a0.fr d9 (by intro k D I;simp[z0u]at D I;omega);replace hC:=hC.sp d9;clear O hz;have O:Blk m5 b0 _ [_,_,_,_]:=a4;clear a4;refine z0b (z0q ?_);clear hC b7 J f6;refine bk (h.sub (L':=[(0,_),(2,_),(8,_)]) (.c3 U U U)) (tn (sq ?_));replace M:=(M.ext (a9.n4 f4 e7 q37 d7)).fr d9;intro a h;refine z0h none (λwb w'=>Fr [g2] wb w') z2m ?_;intro k1 e8;have x8:=e8.size;replace D:=D.ext e8;replace M:=M.ext e8;replace O:=O.ext e8;have hC:Fr [g2] k1 k1:=Fr.refl _ _;have J:=D;have a7:=M;have a3:=O;refine z0e 0 h U λa h=>z0l 1 h U λa h=>z0c 2 h U z3q U λa h=>z0j 3 h U (λ_ hw=>J.fr hw se) U na3 U λa h=>z0e 4 h U λa h=>z0l 5 h U λa h=>z0c 6 h U z3d U λa h=>z1b (vs:=[_,_]) 7 h U (λ_ hw=>(J.fr hw se)) z4s U U λa h=>z0e 8 h U λa h=>z0l 9 h U λa h=>z0c 10 h U z3e U λa h=>?_;refine z0j 11 h U (λ_ hw=>J.fr hw se) U y3q U λa h=>z0v 12 h U (λ_ hw=>a3.fr hw se) v8j U λa h=>z2x (cs:=[_,_,_,_,_,_,_,_]) 13 h (z0a U (z0a U (z0a U (z0a U z0g)))) u0h (z0f U (z0f U (z0f U (z0f U z0p)))) U U λa h=>z0d 14 U ?_;refine z0t h U M U v4d λk2 a4 e0 hz a h=>?_;have x9:=e0.size;replace D:=D.fr e0;replace O:=O.fr e0;replace hC:=hC.sp e0;clear M hz;have M:Blk k2 g2 _ [_,_,_,_,_,_,_,_]:=a4;clear a4;refine z0b (z0q ?_);clear hC J a7 a3;refine bk (h.sub (L':=[(2,_)]) (.cons U .nil)) (tn (rt (rC results42 U M v1j  ?_)));replace Z:=(Z.ext e8).fr e0 (by intro k D I;simp[z0u]at D I;omega);replace hH:=(hH.ext e8).fr e0 (by intro k D I;simp[z0u]at D I;omega);replace a0:=(a0.ext e8).fr e0 (by intro k D I;simp[z0u]at D I;omega);have b3:=(a9.z6 f4 e7 q37 d7 d9 e8);have b4:Fr [] _ k2:=(Fr.refl _ _);have b5:=a2.ext b3;have hW:=(b5.toW.off (f5.ext b3) dd e0).ext b4;have f0:=(b5.fr.fr.step e0 so).next b4;have f3:z1s ts=z1s m.ts:=y5b (g9.trans f7.symm) (λj _=>by rw[e1 j]);exact⟨_,rfl,⟨m.rk,m.q,(some ⟨ka.gy,0,none⟩,6,ka.cy),m.ys,⟨(some ⟨ka.gt,0,none⟩,6,ka.ct),(some ⟨e9,0,none⟩,_,_),(some ⟨a8,0,none⟩,_,_),(some ⟨a6,0,none⟩,_,_),ts,x2z a5,_,z7n m.fl⟩⟩,rfl,⟨hW.b,hW.y,hW.t,Z.low oo,hH.low oo,a0.low oo,(λk D=>by
  have h7:k=a8:=by simpa[z0u,slv] using D
  refine⟨λq hq I=>?_,λt ht l hl I=>?_,λI=>?_⟩;rcases List.mem_append.1 hq with hq|hq
  have:=((a2.b.f.2 q hq).blk _ I).2;omega;have:=((a2.b.b.2 q hq).blk _ I).2;omega;obtain⟨i,hi,rfl⟩:=List.getElem_of_mem ht;have e:ts.getD i tq0=ts[i]:=by rw[List.getD,List.getElem?_eq_getElem hi];rfl
  rw[<-e]at hl;have:=((a2.t.lps i hi l hl).1.blk _ I).2;omega;have:k=a6:=by simpa[z0u,slv] using I
  omega)⟩,by show (⟨m.rk,m.q.p,m.ys.map YQ.p,⟨z1s ts,x2z a5,(z2q m.q.p m.rk).map Hd.id,z7n m.fl⟩⟩:St)=_;rw[f3,g8];rfl,f0⟩
theorem v2k (w0:World):Rets prog 106 #[] w0 λr w'=>(∃g,r=(.slice (some ⟨g,0,none⟩) 6 6)/\w0.heap.size<=g/\Lw.Own z4c 34 w0.heap.size w' (.slice (some ⟨g,0,none⟩) 6 6) (List.replicate 6 tq0))/\Fr [] w0 w':=by
 exact we [] func106 U ntmps106 U .nil (sr (asg U (nn (sr (z1e (m:=6) (c:=6) (tq0) U y5z zv34 U (λD w1 I J M z1=>(asg U (nn (rt (r1 results106 U ⟨_,rfl,⟨D,rfl,oo,J.low oo⟩,M⟩))))))))))
theorem x2f (w0:World):Rets prog 43 #[] w0 λr w'=>(∃g,r=.agg #[(.slice (some ⟨g,0,none⟩) 6 6),.slice none 0 0,.slice none 0 0,.slice none 0 0]/\w0.heap.size<=g/\Lw.Own z4c 34 w0.heap.size w' (.slice (some ⟨g,0,none⟩) 6 6) (List.replicate 6 tq0))/\Fr [] w0 w':=by
 refine we [] func43 U ntmps43 U .nil (sr (al j2z U (λg0 w1 Z D q1 z1=>(nn (sr (cl z0g (mkC func106) (v2k _) U ?_))))));rintro _ w2 ⟨⟨M,rfl,a0,I⟩,q2⟩;refine z1p (cs:=[_,_,_,_]) (ev1 U) j6b (z0f U z0p) U ?_;replace D:=D.ext q2;refine z0k U D j5c (λw3 D J z3=>?_) (hl:=rfl);refine nn (rt (rC results43 U D v8j  ?_));replace I:=I.fr J (by intro k hk O;simp[z0u]at hk O;omega);exact⟨_,rfl,⟨M,rfl,oo,I.low oo⟩,(q1.z2 q2 J)⟩
abbrev st0 (gy gt:Nat):StQ:=(⟨0,⟨sv0,sv0,[],[]⟩,(some ⟨gy,0,none⟩,6,6),List.replicate 6 yq0,⟨(some ⟨gt,0,none⟩,6,6),sv0,sv0,sv0,List.replicate 6 tq0,[],[],[]⟩⟩:StQ)
theorem j5y {w:World}{J I b:Nat}(hy:Lw.Own z2z 95 b w (.slice (some ⟨J,0,none⟩) 6 6) (List.replicate 6 yq0))(ht:Lw.Own z4c 34 b w (.slice (some ⟨I,0,none⟩) 6 6) (List.replicate 6 tq0)):StO τd 117 b w (st0 J I):=by
 have Z:∀i,(st0 J I).ys.getD i yq0=yq0:=λi=>by
  show (List.replicate 6 yq0).getD i yq0=yq0;rw[List.getD,List.getElem?_replicate];split<;>rfl
 have O:∀i,(st0 J I).fb.ts.getD i tq0=tq0:=λi=>by
  show (List.replicate 6 tq0).getD i tq0=tq0;rw[List.getD,List.getElem?_replicate];split<;>rfl
 refine⟨⟨⟨Own.nil w,λq D=>(by cases D)⟩,⟨Own.nil w,λq D=>(by cases D)⟩⟩,⟨hy,λi _=>?_⟩,⟨ht,λi _=>?_,λi j _ _ _ k M=>?_,λi _ q D=>?_⟩,Own.nil w,Own.nil w,Own.nil w,λk M=>(by cases M)⟩;rw[Z i];exact Own.nil w;rw[O i];exact Own.nil w;rw[O i]at M;cases M;rw[O i]at D;cases D
theorem j3a (J I:Nat):StSz (st0 J I):=by
 refine⟨Nat.zero_le _,Nat.zero_le _,λq D=>(by cases D),λq D=>(by cases D),rfl,rfl,λi=>?_,λp M=>?_,Nat.zero_le _,Nat.zero_le _,Nat.zero_le _⟩;have e:(st0 J I).ys.getD i yq0=yq0:=by
  show (List.replicate 6 yq0).getD i yq0=yq0;rw[List.getD,List.getElem?_replicate];split<;>rfl
 rw[e];exact Nat.zero_le _;rw[List.eq_of_mem_replicate M];exact⟨Nat.zero_le _,λq D=>by cases D⟩
theorem v0g (w0:World):Rets prog 14 #[] w0 λr w'=>(∃J I,r=.agg #[.int .i64 (st0 J I).rk,.slice (st0 J I).q.f.1 (st0 J I).q.f.2.1 (st0 J I).q.f.2.2,.slice (st0 J I).q.b.1 (st0 J I).q.b.2.1 (st0 J I).q.b.2.2,.slice (st0 J I).yv.1 (st0 J I).yv.2.1 (st0 J I).yv.2.2,.slice (st0 J I).fb.t.1 (st0 J I).fb.t.2.1 (st0 J I).fb.t.2.2,.slice (st0 J I).fb.c.1 (st0 J I).fb.c.2.1 (st0 J I).fb.c.2.2,.slice (st0 J I).fb.h.1 (st0 J I).fb.h.2.1 (st0 J I).fb.h.2.2,.slice (st0 J I).fb.f.1 (st0 J I).fb.f.2.1 (st0 J I).fb.f.2.2]/\StO τd 117 w0.heap.size w' (st0 J I))/\Fr [] w0 w':=by
 refine we [] func14 U ntmps14 U .nil (sr (al j7t U (λg0 w1 a4 D q1 z1=>(nn (sq ?_)))));intro a h;refine z0h none (λwb w'=>Fr [g0] wb w') z2m ?_;intro w2 q2;have z2:=q2.size;replace D:=D.ext q2;have hC:Fr [g0] w2 w2:=Fr.refl _ _;have M:=D;refine z1y 0 1 kr U ?_ ?_;refine z8m (m:=6) (c:=6) (yq0) h U U y4b y3c U oo oo U λg1 w3 a0 hy q3 _hz a h=>?_;have z3:=q3.size;replace hC:=hC.next q3;have a3:=(hy.blk g1 (by simp[z0u])).2;refine z0b (z0d 1 U (z0o h z0g (mkC func43) (x2f _) ?_));rintro _ w4 ⟨⟨g2,rfl,a1,Z⟩,q4⟩ a h;have z4:=q4.size;replace D:=D.ext (q3.n1 q4);replace hy:=hy.ext q4;replace hC:=hC.next q4;have a2:=(Z.blk g2 (by simp[z0u])).2;refine z0b (z2x (cs:=[_,_,_,_,_,_,_,_]) 2 h (z0a U (z0a U z0g)) u0h (z0f U (z0f U z0p)) U U λa h=>z0d 3 U ?_);refine z0t h U D U v4d λw5 O q5 hz a h=>?_;have z5:=q5.size;replace hy:=hy.fr q5 (by intro k hk hb;simp[z0u]at hk hb;omega);replace Z:=Z.fr q5 (by intro k hk hb;simp[z0u]at hk hb;omega);replace hC:=hC.sp q5;clear D hz;have D:Blk w5 g0 _ [_,_,_,_,_,_,_,_]:=O;clear O;refine z0b (z0q ?_);clear hC M;exact bk (h.sub (L':=[(0,_)]) (.cons U .nil)) (tn (rt (rC results14 U D v1j  ⟨_,rfl,⟨g1,g2,rfl,j5y (hy.low oo) (Z.low oo)⟩,(q1.z4 q2 q3 q4 q5)⟩)));refine z0o h z0g (mkC func43) (x2f _) ?_;rintro _ w6 ⟨⟨g2,rfl,a1,Z⟩,q6⟩ a h;have z6:=q6.size;replace hC:=hC.next q6;have a2:=(Z.blk g2 (by simp[z0u])).2;refine z0b (z0d 0 U (z8m (m:=6) (c:=6) (yq0) h U U y4b y3c U oo oo U λg1 w7 a0 hy q7 _hz a h=>?_));have z7:=q7.size;replace D:=D.ext (q6.n1 q7);replace Z:=Z.ext q7;replace hC:=hC.next q7;have a3:=(hy.blk g1 (by simp[z0u])).2;refine z0b (z2x (cs:=[_,_,_,_,_,_,_,_]) 2 h (z0a U (z0a U z0g)) u0h (z0f U (z0f U z0p)) U U λa h=>z0d 3 U ?_);refine z0t h U D U v4d λw8 O q8 hz a h=>?_;have z8:=q8.size;replace Z:=Z.fr q8 (by intro k hk hb;simp[z0u]at hk hb;omega);replace hy:=hy.fr q8 (by intro k hk hb;simp[z0u]at hk hb;omega);replace hC:=hC.sp q8;clear D hz;have D:Blk w8 g0 _ [_,_,_,_,_,_,_,_]:=O;clear O;refine z0b (z0q ?_);clear hC M;exact bk (h.sub (L':=[(0,_)]) (.cons U .nil)) (tn (rt (rC results14 U D v1j  ⟨_,rfl,⟨g1,g2,rfl,j5y (hy.low oo) (Z.low oo)⟩,(q1.z4 q2 q6 q7 q8)⟩)))
theorem v3h (w0:World):Rets prog 14 #[] w0 λr w'=>(∃I D,r=.agg #[.int .i64 (st0 I D).rk,.slice (st0 I D).q.f.1 (st0 I D).q.f.2.1 (st0 I D).q.f.2.2,.slice (st0 I D).q.b.1 (st0 I D).q.b.2.1 (st0 I D).q.b.2.2,.slice (st0 I D).yv.1 (st0 I D).yv.2.1 (st0 I D).yv.2.2,.slice (st0 I D).fb.t.1 (st0 I D).fb.t.2.1 (st0 I D).fb.t.2.2,.slice (st0 I D).fb.c.1 (st0 I D).fb.c.2.1 (st0 I D).fb.c.2.2,.slice (st0 I D).fb.h.1 (st0 I D).fb.h.2.1 (st0 I D).fb.h.2.2,.slice (st0 I D).fb.f.1 (st0 I D).fb.f.2.1 (st0 I D).fb.f.2.2]/\StAt w' (st0 I D))/\Fr [] w0 w':=
 Rets.mono (v0g w0) (by rintro r w' ⟨⟨I,D,h,J⟩,hf⟩;exact⟨⟨I,D,h,J.at⟩,hf⟩)
theorem u9g {α:Type}{D I:List α}(d:α)(hl:D.length=I.length)(h:∀j,j<D.length->D.getD j d=I.getD j d):D=I:=by
 refine List.ext_getElem hl λj J M=>?_;have:=h j J;rwa [List.getD,List.getD,List.getElem?_eq_getElem J,List.getElem?_eq_getElem M]at this
theorem u6c (v1 v2:Value)(M l2:List LId)(w0:World)(h1:Sl z1f w0 v1 M)(O:Sl z1f w0 v2 l2)(hl:M.length<=100000):Rets prog 51 #[v1,v2] w0 λr w'=>r=.bool (decide (M=l2))/\Fr [] w0 w':=by
 obtain⟨A1,k1,rfl,a5⟩:=id h1.form;obtain⟨A2,k2,rfl,a6⟩:=id O.form;refine we [(0,.slice A1 M.length k1),(1,.slice A2 l2.length k2)] func51 U ntmps51 U (.c2 U U) ?_;have a1:=h1;have a2:=O;refine sr (asg U (nn (sq (sr (mv U U (lnS U underlying27 (mv U U (lnS U underlying27 (ne' U (nn (cd U (λc0=>?_) (λc0=>?_))))))))))));refine sr (asg U (nn (rt (tr (r1 results51 U ?_)))));exact⟨_,rfl,congrArg Value.bool (decide_eq_false (λe=>c0 (by rw[e]))).symm,(Fr.refl _ _)⟩;refine sk (tn (sq (sr (mv U U (lnS U underlying27 (mv U U (nn (bl (lpK (ι:=Nat) [(0,_),(1,_),(12,_)] (λi=>[(13,.int .i64 (i:Int))]) (λi w'=>Fr [] w0 w'/\i<=M.length/\∀j,j<i->M.getD j id0=l2.getD j id0) (λi=>M.length-i) 0 (.c4 U U U U) ⟨Fr.refl _ _,⟨Nat.zero_le _,λj h=>absurd h oo⟩⟩ ?_)))))))));rintro i w1 ⟨q1,⟨hi,hz⟩⟩;refine kpC [(0,_),(1,_),(12,_),(13,_)] (.c4 U U U U) (sr (lt' U (nn (sq (cd U (λc1=>?_) (λc1=>?_))))));refine sk (tn (sq (bl (sr (mv U U (asg U (nn (sq ?_))))))));replace h1:=a1.ext q1;replace O:=a2.ext q1;intro a h;have D:=Fr.refl [] w1;refine z4i (λwb w'=>Fr [] wb w') z2m ?_;intro w2 hq;replace h1:=h1.ext hq;replace O:=O.ext hq;replace D:=D.next hq;have a7:=hq.size;clear hq;have hC:Fr [] w2 w2:=Fr.refl _ _;have I:=h1;have J:=O;refine z0e 0 h U λa h=>z0e 1 h U λa h=>z1g (id0) 2 h U h1 U z4u U ?_ (hp:=rfl);clear h a;intro a3 Z a h;refine z2o 3 h wn U (λ_ hw=>Z _ (I.ext hw)) z2w U λa h=>z0e 4 h U λa h=>z0e 5 h U λa h=>z1g (id0) 6 h U O U z4u U ?_ (hp:=rfl);clear h a;intro a4 a0 a h;refine z2o 7 h wn U (λ_ hw=>a0 _ (J.ext hw)) z2w U λa h=>j6v (V:=idV) (e:=_) (f:=_) 8 kr kr kr hC h wn U U eqId U U λa h=>z0q ?_;clear hC I J;refine bk (h.sub (L':=[(0,_),(1,_),(12,_),(13,_),(24,_)]) (.c5 U U U U U)) (tn (cd U (λc2=>?_) (λc2=>?_)));refine sr (asg U (nn (rt (rb (tr (tr (rb (tr (r1 results51 U ?_)))))))));exact⟨_,rfl,congrArg Value.bool (decide_eq_false (λe=>c2 (by rw[e]))).symm,(q1.n1 D)⟩;refine sk (bn' (tn (rg (z0z U (wi6 oo) (mv U U (nl ?_))))));exact lpE (i+1) (.c4 U U U U) ⟨(q1.n1 D),⟨oo,λj h=>by
  by_cases e:j=i;subst e;exact Classical.not_not.1 c2;exact hz j oo⟩⟩ oo
 obtain rfl:i=M.length:=by omega
 refine ex (te (te (xh (tn (sr (asg U (nn (rt (r1 results51 U ?_)))))))));exact⟨_,rfl,congrArg Value.bool (decide_eq_true (u9g id0 oo (λj hj=>hz j oo))).symm,q1⟩
end Go.Proofs.YtjilcnmaefhmeaaGreatDoor
