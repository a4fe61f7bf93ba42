/- Texts of the proof, joined. -/
import Derived.Test.YtpgdchkdlgkmgaaGreatDoorRows
import Derived.Shelf.SlSortCmp.WholeK
import Derived.Deep.RegionHeld3
import Derived.WalkKit
import Derived.Shelf.SlGeneric
import Derived.Ground.SlsfProg
import Derived.Test.YtpgdchkdlgkmgaaGreatDoorProg
import Derived.Test.YtpgdchkdlgkmgaaGreatDoorJS4
set_option linter.unusedVariables false
set_option linter.unusedSimpArgs false
namespace Go.Proofs.YtpgdchkdlgkmgaaGreatDoor
open Go.Lw Go.G21 Go.G08 _root_.Go.Proofs.Tryz
set_option maxHeartbeats 1000000 in
theorem j0d (wS:World)(ka:MA)(m:MQ)(o:MOp)(w0:World)(hM:MkM τd 137 wS ka w0 m)(hi:MInv m.p)(hy:1<=o.y/\o.y<=6)(hn:z4q o.b o.p=0):Rets prog 68 #[.pointer (some ⟨ka.gk,0,none⟩),opV o] w0 λr w'=>MRet τd 137 wS ka (y2e m.p o) r w':=by
 have b7:=hM.fr.size;have a9:=hM.gk;have b1:=hM.k.lt;refine we [(0,.pointer (some ⟨ka.gk,0,none⟩)),(1,opV o)] func68 rfl ntmps68 rfl (.c2 rfl rfl) ?_;have M:=hM;refine sr (bx rfl rfl rfl (λg3 w1 b5 D q1 z1=>(asg rfl (nn (sr (mv rfl (z0k rfl D y1k ?_)))))));replace hM:=M.ext q1;refine cl (ev2 rfl rfl) (mkC func112) (x4n wS ka m o _ hM hi hy hn) rfl ?_;rintro _ w2 ⟨rfl,q2⟩;refine mv rfl (xt rfl rfl (xt rfl rfl (xt rfl rfl (asg rfl (asg rfl (asg rfl (kpL [(0,_),(3,_),(5,_),(6,_),(7,_)] (.c5 rfl rfl rfl rfl rfl) (nn (sq (sr (mv rfl (ne' rfl rfl (nn (cd rfl (λc0=>?_) (λc0=>?_)))))))))))))));refine sr (mv rfl (asg rfl (kpL [(4,_)] (.cons rfl .nil) (nn (rt (tr (r1 results68 rfl ?_)))))));replace hM:=M.ext (q1.n1 q2);exact⟨_,rfl,MRet.err (by unfold y2e;rw[if_pos c0]) c0 hM.fr⟩;have I:z6l m.p o=0:=Classical.not_not.1 c0;refine sk (tn (sq (sr (mv rfl (fad rfl z3e ?_)))));replace D:=D.ext q2;refine z0g rfl D rfl na5 (mv rfl (mv rfl ?_));replace hM:=M.ext (q1.n1 q2);have a3:=hM.fr;refine cl (z0a rfl (z0a rfl (z0a rfl (z0a rfl z0f)))) (mkC func113) (x5h wS { ka with wk:=w2 } m o.y (if z6l m.p o=0 then y3x m.p o else 0) (if z6l m.p o=0 then (z3h o.b o.p m.rk) else 0) _ hM.mark hi hy) rfl ?_;intro _ w3 hR;obtain⟨rfl,a0,m1,a7⟩:=hR.split;have z3:=a0.kp.size;simp only at z3;replace D:=a0.kp.blk D (by have:=hM.gcne D;exact this) (by decide);refine asg rfl (kpL [(0,_),(3,_),(8,_)] (.c3 rfl rfl rfl) (nn (sr (mv rfl (ne' rfl rfl (nn (cd rfl (λc1=>?_) (λc1=>?_))))))));refine sr (mv rfl (asg rfl (nn (rt (tr (r1 results68 rfl ?_))))));exact⟨_,rfl,MRet.err (by have hx:=z4j c1;unfold y2e;rw[if_neg c0];rw[if_pos I,if_pos I]at hx;rw[hx,if_pos I,if_pos I]) c1 (a0.un a3)⟩;obtain⟨a6,O⟩:=a7 (Classical.not_not.1 c1);rw[if_pos I,if_pos I]at O;obtain⟨a4,b4,b6⟩:=y1m hi hy O;obtain⟨⟨hf,hb⟩,h4,a5⟩:=z3n a4.B;replace hM:=a6.unmark a3;have M:=hM;have U:=hM.k;have b0:=U.lt;refine sk (tn (sq ?_));intro a h;refine z0i none (λwb w'=>Fr [] wb w') z2o ?_;intro w4 q4;replace D:=D.ext q4;replace hM:=hM.ext q4;replace U:=U.ext q4;have hC:Fr [] w4 w4:=Fr.refl _ _;have J:=D;have a2:=hM;have Z:=U;refine z0e 0 h rfl rfl λa h=>z0o 1 h rfl rfl λa h=>z0c 2 h rfl z3a rfl λa h=>z1e (vs:=[_,_]) 3 h rfl (λ_ hw=>(Z.ext hw)) z5s rfl rfl λa h=>z0c 4 h rfl z4h rfl λa h=>z1e (vs:=[_,_]) 5 h rfl (λ_ hw=>(J.ext hw)) z5z rfl rfl λa h=>z0d 6 rfl ?_;refine z0n h (z0a rfl (z0a rfl z0f)) u3q (x1j m1.q o.b o.p _ hM.b.at (by have:=z3k hn;omega) hf hb h4 a5) ?_;rintro b8 w5 ⟨a1,hq⟩ a h;replace D:=D.ext hq;replace hM:=hM.ext hq;replace U:=U.ext hq;replace hC:=hC.next hq;have q5:=hq;rw[y7h hn]at a1;obtain⟨b2,b3,rfl,a8⟩:=a1.sl.form;refine z0b ?_;refine z0d 7 rfl ?_;refine z0r h rfl λa h=>?_;refine z0b ?_;refine z0q ?_;clear hC J a2 Z;refine bk (h.sub (L':=[(0,_),(3,_),(9,_)]) (.c3 rfl rfl rfl)) (tn (sq (sr (mv rfl (lnS rfl underlying37 (ge' rfl rfl (nn (cd rfl (λc2=>?_) (λc2=>?_)))))))));refine sr (asg rfl (nn (rt (tr (r1 results68 rfl ?_)))));exact⟨_,rfl,MRet.err (by unfold y2e;rw[if_neg c0,O];simp only;rw[if_pos (show 4<=(m1.q.p.at o.b o.p).length by omega)]) (by decide) hM.fr⟩;refine sk (tn (sr (mv rfl (z0k rfl D y1k (mv rfl (cl (z0a rfl (z0a rfl (z0a rfl (z0a rfl z0f)))) (mkC func114) (v5v wS ka m1 o sv0 [] _ (m1.q.p.at o.b o.p) _ hM a4 hy hn (Own.nil _) (λk U=>by cases U) a1.sl (.inr ⟨rfl,by omega⟩)) rfl ?_))))));rintro b9 w6 hR;refine asg rfl (kpL [(4,_)] (.cons rfl .nil) (nn (rt (r1 results68 rfl ?_))));exact⟨_,rfl,by rw[show y2e m.p o=y3w m1.p o [] (m1.q.p.at o.b o.p) from by unfold y2e;rw[if_neg c0,O];simp only;rw[if_neg (show ¬4<=(m1.q.p.at o.b o.p).length by omega)]];exact hR⟩
theorem j0h:z3u prog 138 4:=⟨λ_=>by kernel_rfl,λ_=>by kernel_rfl⟩
theorem u7z:BuildAt prog 138 [(0,2),(2,2)] [(.int .u8 0),(.int .i64 0),(.int .u8 0),(.int .i64 0)]:=BuildAt.array (sz:=2) underlying138 (λ_=>by kernel_rfl) (λ_=>by kernel_rfl) (λi q h=>by match i,h with|0,h=>simpa using h.symm|1,h=>simpa using h.symm|(k+2),h=>simp at h)
theorem j2l:CallOf prog 74:=mkC func74
theorem y1x:z0z prog 137 4 5:=λ_ _=>by kernel_rfl
theorem x4t:z0z prog 246 0 0:=λ_ _=>by kernel_rfl
theorem x6a:z0z prog 246 1 2:=λ_ _=>by kernel_rfl
theorem u9x:z0z prog 246 2 4:=λ_ _=>by kernel_rfl
theorem v0j:z2c prog 135:=λ_=>by kernel_rfl
theorem u9n:z1p prog 138 4:=λ_=>by kernel_rfl
theorem j5f (w:World):(zeroValue 138).run prog w=.ok (.agg #[(.int .u8 0),(.int .i64 0),(.int .u8 0),(.int .i64 0)]) w:=by kernel_rfl
theorem j7k (p q:LId×LId)(w:World):(Op.equal 138 (crK p) (crK q)).run prog w=.ok (decide (p=q)) w:=by
 obtain⟨⟨O,n1⟩,⟨U,n2⟩⟩:=p;obtain⟨⟨Z,n3⟩,⟨y4,n4⟩⟩:=q;have D:prog.stoodInHeld 87=false:=by kernel_rfl
 have I:(sizeOf 87).run prog w=.ok 2 w:=by kernel_rfl
 unfold crK Op.equal Op.maxDepth Op.equalIn;simp only[Sem.run_bind,run_underlying underlying138,Result.andThen_ok,I];have J:∀a b c d:Value,(part 87 #[a,b,c,d] (0*2)).run prog w=.ok (.agg #[a,b]) w:=λa b c d=>by kernel_rfl
 have M:∀a b c d:Value,(part 87 #[a,b,c,d] (1*2)).run prog w=.ok (.agg #[c,d]) w:=λa b c d=>by kernel_rfl
 rw[Std.Legacy.Range.forIn_eq_forIn_range'];simp[List.range',List.forIn_cons,J,M,go_sem,D,underlying87];(repeat' split)<;>simp_all
theorem x7x:KeyLaw prog 138 crK:=KeyLaw.asking underlying138 (λ_ _=>rfl) (λ_ _ _=>by kernel_rfl) j7k (λ_=>by simp[crK,Instr.sameBits])
theorem zvI2 (w:World):(zeroValue 3).run prog w=.ok (.int .i64 0) w:=by kernel_rfl
set_option maxHeartbeats 1000000 in
theorem u4q (wS:World)(ka:MA)(m:MQ)(c:Cx)(w0:World)(hM:MkM τd 137 wS ka w0 m)(a6:∀x∈m.cr,-1048576<=x.n/\x.n<=1048576)(a7:-1<=c.n/\c.n<=1):Rets prog 148 #[.pointer (some ⟨ka.gk,0,none⟩),.agg #[.int .u8 c.a.y,.int .i64 c.a.n,.int .u8 c.b.y,.int .i64 c.b.n,.int .i64 c.n]] w0 λr w'=>MRet τd 137 wS ka (u5f m.p c) r w':=by
 have b2:=hM.fr.size;have Z:=hM.k;have b1:=Z.lt;have b0:=v9w (a:=(z5l c).1) (b:=(z5l c).2) a6;refine we [(0,.pointer (some ⟨ka.gk,0,none⟩)),(1,.agg #[.int .u8 c.a.y,.int .i64 c.a.n,.int .u8 c.b.y,.int .i64 c.b.n,.int .i64 c.n])] func148 rfl ntmps148 rfl (.c2 rfl rfl) ?_;have a5:=hM;refine sr (bx rfl rfl rfl (λg3 w1 a8 J q1 z1=>?_));refine asg rfl (nn (sr (fad rfl x4t (z1s (vs:=[_,_]) rfl J z3o rfl (fad rfl x6a (z1s (vs:=[_,_]) rfl J z3o rfl (z1v (cs:=[_,_,_,_]) (ev2 rfl rfl) u7z (z0h rfl rfl rfl (z0h rfl rfl rfl z0s)) rfl ?_)))))));refine al j5f rfl rfl (λg5 w2 a9 D q2 z2=>(z0j (vs:=[_,_,_,_]) rfl rfl D u9n (λw3 D q3 z3=>(nn ?_))));refine jn (ι:=Unit) [(0,_),(3,_),(5,_)] (λ_j=>[]) (λ_j w'=>Fr [g5] w3 w'/\Blk w' g5 138 [.int .u8 (z5l c).1.y,.int .i64 (z5l c).1.n,.int .u8 (z5l c).2.y,.int .i64 (z5l c).2.n]) (.c3 rfl rfl rfl) ?_ ?_;refine sr (fad rfl x4t ?_);replace J:=(J.ext q2).fr q3;refine z1s (vs:=[_,_]) rfl J z3o rfl (fad rfl x6a (z1s (vs:=[_,_]) rfl J z3o rfl (cl (ev2 rfl rfl) j2l (y0v ⟨_,_⟩ ⟨_,_⟩ _) rfl ?_)));rintro _ w4 ⟨rfl,q4⟩;refine gt' rfl rfl (nn (cd rfl (λc0=>?_) (λc0=>?_)));refine rg (fad rfl x6a ?_);replace J:=J.ext q4;refine z1s (vs:=[_,_]) rfl J z3o rfl (fad rfl x4t (z1s (vs:=[_,_]) rfl J z3o rfl (z1v (cs:=[_,_,_,_]) (ev2 rfl rfl) u7z (z0h rfl rfl rfl (z0h rfl rfl rfl z0s)) rfl ?_)));replace D:=D.ext q4;refine z0j (vs:=[_,_,_,_]) rfl rfl D u9n (λw5 D q5 z5=>(kpL [(0,_),(3,_),(5,_)] (.c3 rfl rfl rfl) (nl ?_)));exact jE (()) (.c3 rfl rfl rfl) ⟨((Fr.refl [g5] _).z2 q4 q5),(by rw[show z5l c=(c.b,c.a) from if_pos c0];exact D)⟩;refine sk ?_;replace D:=D.ext q4;exact jE (()) (.c3 rfl rfl rfl) ⟨((Fr.refl [g5] _).n1 q4),(by rw[show z5l c=(c.a,c.b) from if_neg c0];exact D)⟩;rintro _j w6 ⟨q6,D⟩;have a4:=D.lt;refine kpC [(0,_),(3,_),(5,_)] (.c3 rfl rfl rfl) (sq ?_);replace hM:=a5.ext (q1.z3 q2 q3 q6);replace Z:=((Z.ext (q1.n1 q2)).fr q3).fr q6;replace J:=((J.ext q2).fr q3).fr q6;intro a h;refine z0i none (λwb w'=>Fr [] wb w') z2o ?_;intro w7 q7;replace hM:=hM.ext q7;replace Z:=Z.ext q7;replace J:=J.ext q7;replace D:=D.ext q7;have hC:Fr [] w7 w7:=Fr.refl _ _;have O:=hM;have M:=Z;have a0:=J;have I:=D;refine z0e 0 h rfl rfl λa h=>z0o 1 h rfl rfl λa h=>z0c 2 h rfl y1x rfl λa h=>z0l 3 h rfl (λ_ U=>M.ext U) rfl v0j rfl λa h=>z0y 4 h rfl (λ_ U=>I.ext U) j0h rfl λa h=>z0c 6 h rfl u9x rfl λa h=>z0l 7 h rfl (λ_ U=>a0.ext U) rfl na3 rfl λa h=>z0d 5 rfl ?_;refine y0p (V:=crK) (k:=z5l c) (f:=z2k (crM m.cr)) h rfl rfl hM.c.f x7x underlying135 zvI2 (v5m (z5l c).1 (z5l c).2 m.cr) rfl λa h=>?_;refine z0b ?_;refine z4u 8 h rfl rfl (by first|exact i6 (by omega)|rfl) rfl λa h=>z0d 9 rfl ?_;refine z0r h rfl λa h=>?_;refine z0b ?_;refine z0q ?_;clear hC O M a0 I;refine bk (h.sub (L':=[(0,_),(5,_),(6,_)]) (.c3 rfl rfl rfl)) (tn (sq (sq ?_)));refine rbo (r:=37) (L':=[(0,_),(5,_),(6,_)]) (((((y4i m.cr (z5l c).1 (z5l c).2)+c.n) < -1048576)\/(1048576<((y4i m.cr (z5l c).1 (z5l c).2)+c.n)))) (.c3 rfl rfl rfl) ?_ ?_;refine mv rfl (lt' rfl rfl (mv rfl (gs 34 rfl (λg0=>?_) (λg0=>?_))));exact gN rfl rfl (gN rfl rfl (pkt rfl rfl (rbe rfl (.c3 rfl rfl rfl))));exact gY rfl (mv rfl (gY rfl (gt' rfl rfl (pkf rfl rfl (rbe rfl (.c3 rfl rfl rfl))))));refine tn (cd rfl (λc1=>?_) (λc1=>?_));refine sr (asg rfl (nn (rt (tr (r1 results148 rfl ?_)))));exact⟨_,rfl,MRet.err (by rw[x4k,if_pos c1]) (by decide) hM.fr⟩;refine sk (tn (sq (sr (mv rfl (eq' rfl rfl (nn (cd rfl (λc2=>?_) (λc2=>?_))))))));intro a h;refine z0i (some 5) (λwb w'=>Fr [] wb w') z2o ?_;intro w8 q8;replace hM:=hM.ext q8;replace Z:=Z.ext q8;replace D:=D.ext q8;have hC:Fr [] w8 w8:=Fr.refl _ _;have O:=hM;have M:=Z;have I:=D;refine z0e 0 h rfl rfl λa h=>z0o 1 h rfl rfl λa h=>z0c 2 h rfl y1x rfl λa h=>z0l 3 h rfl (λ_ U=>M.ext U) rfl v0j rfl λa h=>z0y 4 h rfl (λ_ U=>I.ext U) j0h rfl λa h=>z0d 5 rfl ?_;refine u6t (V:=crK) (k:=z5l c) h rfl rfl hM.c x7x underlying135 rfl λw9 a1 hq _hz a h=>?_;replace hM:=hM.cross (l:=v0r m.cr (z5l c).1 (z5l c).2) (by rw[v2m _ _ _ hM.c.nodup];exact a1) hq;refine z1n ?_;refine z0q ?_;clear hC O M I;refine bk (h.sub (L':=[]) .nil) (tn (sr (asg rfl (nn (rt (r1 results148 rfl ?_))))));exact⟨_,rfl,MRet.ok (by rw[x4k,if_neg c1,if_pos c2]) hM⟩;intro a h;refine z0i (some 6) (λwb w'=>Fr [] wb w') z2o ?_;intro a3 a2;replace hM:=hM.ext a2;replace Z:=Z.ext a2;replace D:=D.ext a2;have hC:Fr [] a3 a3:=Fr.refl _ _;have O:=hM;have M:=Z;have I:=D;refine z0e 0 h rfl rfl λa h=>z0o 1 h rfl rfl λa h=>z0c 2 h rfl y1x rfl λa h=>z0l 3 h rfl (λ_ U=>M.ext U) rfl v0j rfl λa h=>z0y 4 h rfl (λ_ U=>I.ext U) j0h rfl λa h=>z0e 5 h rfl rfl λa h=>z0d 6 rfl ?_;refine y7e (V:=crK) (k:=z5l c) (v:=.int .i64 ((y4i m.cr (z5l c).1 (z5l c).2)+c.n)) h rfl rfl rfl hM.c x7x underlying135 λb3 a1 hq _hz a h=>?_;replace hM:=hM.cross (l:=y4g m.cr (z5l c).1 (z5l c).2 (y4i m.cr (z5l c).1 (z5l c).2+c.n)) (by rw[v7b _ _ _ _ hM.c.nodup];exact a1) hq;refine z1n ?_;refine z0q ?_;clear hC O M I;refine bk (h.sub (L':=[]) .nil) (tn (sr (asg rfl (nn (rt (r1 results148 rfl ?_))))));exact⟨_,rfl,MRet.ok (by rw[x4k,if_neg c1,if_neg c2]) hM⟩
theorem v8h (m:MQ)(j:Nat):m.p.ys.getD j yn0=(m.ys.getD j yq0).p:=by
 show (m.ys.map YQ.p).getD j yn0=_;rw[List.getD,List.getD,List.getElem?_map];cases m.ys[j]?<;>rfl
theorem y0y {l:List Cx}{i:Nat}(h:i<l.length):l.take (i+1)=l.take i++[l.getD i cx0]:=by
 rw[List.take_add_one,List.getD,List.getElem?_eq_getElem h];rfl
theorem x9e {l r I:List Cx}{i:Nat}{e:Int}(h:z4r l (r.take i)=.ok I)(O:i<r.length)(M:y6j I (r.getD i cx0)=.error e):z4r l r=.error e:=by
 have D:=y1j (c:=r.getD i cx0) h;rw[<-y0y O,M]at D;have J:=x1q (r.drop (i+1)) D;rwa [List.take_append_drop]at J
theorem u0q {p:MSt}{c:Cx}{e:Int}(h:u5f p c=.error e):y6j p.cr c=.error e:=by
 unfold u5f at h;split at h;rename_i D;cases h;exact D;cases h
theorem u9g {p q:MSt}{c:Cx}(h:u5f p c=.ok q):∃l,y6j p.cr c=.ok l/\q={ p with cr:=l }:=by
 unfold u5f at h;split at h;cases h;rename_i l D;cases h;exact⟨l,D,rfl⟩
theorem v7w {m:MQ}{d:Int}{D:List YQ}(M:D.length=6)(I:m.ys.length=6)(O:∀j,j<6->z7g m.p d (m.ys.getD j yq0).p=.ok (D.getD j yq0).p):z4t m.p d m.p.ys=.ok (D.map YQ.p):=by
 refine y7c (by simp[M,I]) λj U=>?_;have J:j<6:=by simpa[I] using U
 rw[v8h,O j J];congr 1;rw[List.getD,List.getD,List.getElem?_map];cases D[j]?<;>rfl
theorem v9f {m:MQ}{d:Int}{D:List YQ}{J:YQ}{i:Nat}(M:D.length=6)(O:i<6)(I:∀j,j<i->z7g m.p d (m.ys.getD j yq0).p=.ok (D.getD j yq0).p)(h:z7g m.p d (m.ys.getD i yq0).p=.ok J.p):∀j,j<i+1->z7g m.p d (m.ys.getD j yq0).p=.ok ((D.set i J).getD j yq0).p:=λj U=>by
 rw[z1j (by omega)]
 by_cases e:i=j
 ·subst e;rw[if_pos rfl];exact h
 rw[if_neg e];exact I j (by omega)
theorem v2t {m:MQ}{d:Int}{D:List YQ}{i:Nat}(I:∀j,i<=j->D.getD j yq0=m.ys.getD j yq0)(J:∀j,j<i->z7g m.p d (m.ys.getD j yq0).p=.ok (D.getD j yq0).p)(h:(m.ys.getD i yq0).inn=false):∀j,j<i+1->z7g m.p d (m.ys.getD j yq0).p=.ok (D.getD j yq0).p:=λj M=>by
 by_cases e:j=i
 ·subst e;rw[I j (Nat.le_refl _)];unfold z7g;rw[if_pos h]
 exact J j (by omega)
theorem u1l {m:MQ}{D:List YQ}{M:YQ}{i:Nat}(J:D.length=6)(O:i<6)(I:∀j,i<=j->D.getD j yq0=m.ys.getD j yq0):∀j,i+1<=j->(D.set i M).getD j yq0=m.ys.getD j yq0:=λj U=>by
 rw[z1j (by omega),if_neg (by omega)];exact I j (by omega)
set_option maxHeartbeats 4000000 in
theorem j0g (wS:World)(Z:MA)(m:MQ)(d:Int)(w0:World)(hM:MkM τd 137 wS Z w0 m)(hi:MInv m.p)(b1:StT wS)(hd:d=0\/d=1)(c9:-4<=m.rk+stI d/\m.rk+stI d<=4):Rets prog 111 #[.pointer (some ⟨Z.gk,0,none⟩),.int .u8 d] w0 λr w'=>MRet τd 137 wS Z (y2n m.p d) r w':=by
 have g0:=hM.fr.size;have e9:=hM.gk;have O:=hM.k;have f8:=O.lt;have b7:=hM.ly;have f1:=(hM.y.out.blk Z.gy (by simp[z0x])).2;have hI:=hi;have f0:Z.gk≠Z.gy:=λe=>Own.neB hM.y.out hM.k (by decide) (by simp[z0x,e]);have f9:(z3r m.q.p m.rk d).length<=640:=by
  have x:(z3r m.q.p m.rk d).length<=16*m.p.B.b.length:=y4a hI.B m.rk d;have y:=hI.B.lb;omega
 refine we [(0,.pointer (some ⟨Z.gk,0,none⟩)),(1,.int .u8 d)] func111 rfl ntmps111 rfl (.c2 rfl rfl) ?_;have a0:=hM;refine sr (asg rfl (nn (sq (sr (mv rfl (nlc rfl (fad rfl z2z (z0g rfl O rfl y0i (lnS rfl underlying33 (mv rfl (nn (bl ?_))))))))))));refine lpK (ι:=Nat) [(0,_),(1,_),(17,_),(18,_)] (λi=>[(19,.int .i64 (i:Int))]) (λi w'=>Fr [Z.gy] w0 w'/\i<=6/\(∃M:List YQ,M.length=6/\(∀j,j<i->z7g m.p d (m.ys.getD j yq0).p=.ok (M.getD j yq0).p)/\(∀j,i<=j->M.getD j yq0=m.ys.getD j yq0)/\MkM τd 137 wS Z w' { m with ys:=M })) (λi=>6-i) 0 (.c5 rfl rfl rfl rfl rfl) ⟨Fr.refl _ _,⟨Nat.zero_le _,⟨m.ys,b7,λj hj=>by omega,λj _=>rfl,hM⟩⟩⟩ ?_;rintro i w1 ⟨q1,⟨hi,⟨M,a4,a6,a5,hM⟩⟩⟩;have z1:=q1.size;have a0:=hM;refine kpC [(0,_),(1,_),(17,_),(18,_),(19,_)] (.c5 rfl rfl rfl rfl rfl) ?_;have O:=hM.k;refine sr (lt' rfl rfl (nn (sq (cd rfl (λc0=>?_) (λc0=>?_)))));have f7:i<6:=by omega
 refine sk (tn (sq (bl (sr (mv rfl (z1a (yq0) rfl (show Sl z2r _ Z.YV M from hM.y.out.sl) rfl y1f z1d (λe5 b3=>?_)))))));refine z1i rfl (b3 _ (show Sl z2r _ Z.YV M from hM.y.out.sl)) z6f (al y1g rfl rfl (λg6 w2 f5 D q2 z2=>?_));refine asg rfl (z0j (vs:=[_,_,_,_,_]) rfl rfl D z6s (λw3 D q3 z3=>?_) (h1:=(by first|(simp[Value.oneCell',S];done)|exact z2r.one (m.ys.getD i yq0))));rw[a5 i (Nat.le_refl _)]at D;refine nn (sq (sr (fad rfl z9d (z0g rfl D rfl na4 (nt' rfl (nn (cd rfl (λc1=>?_) (λc1=>?_))))))));refine ex (te (xh (tn (rg (z0v rfl rfl (wi6 (by omega)) (mv rfl (nl ?_)))))));replace hM:=a0.ext (q2.z1 q3);exact lpE (i+1) (.c5 rfl rfl rfl rfl rfl) ⟨((Fr.refl [Z.gy] _).z3 q1 q2 q3),⟨by omega,⟨M,a4,v2t a5 a6 (by simpa using c1),λj hj=>a5 j (by omega),hM⟩⟩⟩ (by omega);have d0:=(hI.yn i (by omega)).1;rw[v8h]at d0;have b9:=j1m (by have:=d0.2;rw[if_pos (by simpa using c1)]at this;exact this.1);have f2:(z7d m.q.p m.rk d (m.ys.getD i yq0).pl).length<=50000:=by
  have x:(z7d m.q.p m.rk d (m.ys.getD i yq0).pl).length<=4*m.p.B.b.length:=x1p hI.B m.rk d _;have y:=hI.B.lb;omega
 refine sk (tn (sq ?_));replace hM:=a0.ext (q2.z1 q3);replace O:=(O.ext q2).fr q3;intro a h;refine z0i none (λwb w'=>Fr [] wb w') z2o ?_;intro w4 q4;have z4:=q4.size;replace hM:=hM.ext q4;replace O:=O.ext q4;replace D:=D.ext q4;have hC:Fr [] w4 w4:=Fr.refl _ _;have U:=hM;have I:=O;have J:=D;refine z0e 0 h rfl rfl λa h=>z0o 1 h rfl rfl λa h=>z0c 2 h rfl z3a rfl λa h=>z1e (vs:=[_,_]) 3 h rfl (λ_ hw=>(I.ext hw)) z5s rfl rfl λa h=>z0e 4 h rfl rfl λa h=>z0o 5 h rfl rfl λa h=>z0c 6 h rfl z3t rfl λa h=>z0l 7 h rfl (λ_ hw=>I.ext hw) rfl na3 rfl λa h=>z0e 8 h rfl rfl λa h=>z0c 9 h rfl z6c rfl λa h=>z0l 10 h rfl (λ_ hw=>J.ext hw) rfl na3 rfl λa h=>?_;refine z0d 11 rfl ?_;refine z0n h (z0a rfl (z0a rfl (z0a rfl (z0a rfl z0f)))) (mkC func145) (v9e m.q m.rk d (m.ys.getD i yq0).pl _ hM.b.at hI.B (b1.ext hM.fr.fr) hI.rk hd c9 b9.1 b9.2) ?_;rintro _ w5 ⟨⟨f4,rfl,e8,hW⟩,q5⟩ a h;have z5:=q5.size;replace hM:=hM.ext q5;replace O:=O.ext q5;replace D:=D.ext q5;replace hC:=hC.next q5;refine z0b ?_;refine z0e 12 h rfl rfl λa h=>z0m 13 h rfl rfl rfl λa h=>z0m 14 h rfl rfl rfl λa h=>z0d 15 rfl ?_;refine z0r h rfl λa h=>?_;refine z0b ?_;refine z0d 16 rfl ?_;refine z0r h rfl λa h=>?_;refine z0b ?_;refine z0q ?_;clear hC U I J;refine bk (h.sub (L':=[(0,_),(1,_),(5,_),(6,_),(7,_),(8,_),(17,_),(18,_),(19,_)]) (.d8 rfl rfl rfl rfl rfl rfl rfl rfl (.cons rfl .nil))) (tn (sq (sr (mv rfl (ne' rfl rfl (nn (cd rfl (λc2=>?_) (λc2=>?_))))))));refine sr (mv rfl (asg rfl (kpL [(4,_)] (.cons rfl .nil) (nn (rt (tr (rb (tr (tr (rb (tr (r1 results111 rfl ?_))))))))))));exact absurd rfl c2;refine sk (tn (sq ?_));intro a h;refine z0i (some 15) (λwb w'=>Fr [Z.gy] wb w') z2o ?_;intro w6 q6;have z6:=q6.size;replace hM:=hM.ext q6;replace O:=O.ext q6;replace D:=D.ext q6;replace hW:=hW.ext q6;have hC:Fr [Z.gy] w6 w6:=Fr.refl _ _;have U:=hM;have I:=O;have J:=D;have b2:=hW;refine z0e 0 h rfl rfl λa h=>z0o 1 h rfl rfl λa h=>z0c 2 h rfl z2z rfl λa h=>z0l 3 h rfl (λ_ hw=>I.fr hw (by simp<;>omega)) rfl y0i rfl λa h=>z0e 4 h rfl rfl λa h=>z0y 5 h rfl (λ_ hw=>J.fr hw (by simp<;>omega)) z6f rfl λa h=>z0c 6 h rfl z6c rfl λa h=>z0l 7 h rfl (λ_ hw=>J.fr hw (by simp<;>omega)) rfl na3 rfl λa h=>z0e 8 h rfl rfl λa h=>z0d 9 rfl ?_;refine z0n h (z0a rfl (z0a rfl (z0a rfl z0f))) (mkC func146) (x9d (m.ys.getD i yq0) (m.ys.getD i yq0).pl _ (z7d m.q.p m.rk d (m.ys.getD i yq0).pl) _ (by have x:=(hM.y.ins i (by rw[hM.ly];omega)).sl;rw[show ({ m with ys:=M }:MQ).ys.getD i yq0=m.ys.getD i yq0 from a5 i (Nat.le_refl _)]at x;exact x) hW.sl (λk O=>(hW.blk k O).2) (by omega)) ?_;rintro _ w7 ⟨qn,rfl,b6,q7⟩ a h;have z7:=q7.size;replace hM:=hM.ext q7;replace O:=O.ext q7;replace D:=D.ext q7;replace hW:=hW.ext q7;replace hC:=hC.next q7;refine z0b ?_;refine z0e 10 h rfl rfl λa h=>z0m 11 h rfl rfl rfl λa h=>z0m 12 h rfl rfl rfl λa h=>z1o 13 (by kernel_rfl) (by kernel_rfl) (by kernel_rfl) hC (p:=i) h wn rfl rfl y1f (by omega) (by omega) (by omega) rfl rfl λa h=>z0d 14 rfl ?_;refine z1b (i:=i) (qn:YQ) h rfl rfl hM.y.out (by rw[hM.ly];omega) rfl z6s λw8 a7 q8 _hz a h=>?_;have b5:=hM.fr.step q8 (y7w hM.y.out (by simp[v7q])) (λk O a9=>absurd (hM.y.out.blk k O).1 (by omega));have d6:=λhc:(goE (m.ys.getD i yq0).p (m.ys.getD i yq0).pl (z7d m.q.p m.rk d (m.ys.getD i yq0).pl))=0=>hM.yarn mtd (j:=i) (y:=qn) (by omega) a7 q8 ((b6 hc).2.low (by omega));clear a7 hM;have z8:=q8.size;replace D:=D.fr q8;replace hW:=hW.fr q8 (by simp[z0x]<;>omega);replace hC:=hC.sp q8;clear _hz;refine z0b ?_;refine z0d 15 rfl ?_;refine z0r h rfl λa h=>?_;refine z1n ?_;refine z0q ?_;clear hC U I J b2;refine bk (h.sub (L':=[(0,_),(1,_),(8,_),(17,_),(18,_),(19,_)]) (.c6 rfl rfl rfl rfl rfl rfl)) (tn (sr (mv rfl (ne' rfl rfl (nn (cd rfl (λc3=>?_) (λc3=>?_)))))));refine sr (mv rfl (asg rfl (kpL [(4,_)] (.cons rfl .nil) (nn (rt (rb (tr (tr (rb (tr (r1 results111 rfl ?_)))))))))));exact⟨_,rfl,MRet.err (by unfold y2n;rw[y7f (i:=i) (e:=(goE (m.ys.getD i yq0).p (m.ys.getD i yq0).pl (z7d m.q.p m.rk d (m.ys.getD i yq0).pl))) (by simp only[List.length_map];omega) (λj hj=>⟨_,by rw[v8h];exact a6 j hj⟩) (by rw[v8h];unfold z7g;rw[if_neg (by simpa using c1),if_pos c3])]) c3 b5⟩;have hM:=d6 (Classical.not_not.1 c3);have a0:=hM;refine sk (bn' (tn (rg (z0v rfl rfl (wi6 (by omega)) (mv rfl (nl ?_))))));exact lpE (i+1) (.c5 rfl rfl rfl rfl rfl) ⟨((((Fr.refl [Z.gy] _).z6 q1 q2 q3 q4 q5 q6).n1 q7).z1 q8),⟨by omega,⟨M.set i qn,by rw[List.length_set];exact a4,v9f a4 (by omega) a6 (by unfold z7g;rw[if_neg (by simpa using c1),if_neg (λe=>e (Classical.not_not.1 c3)),(b6 (Classical.not_not.1 c3)).1]),u1l a4 (by omega) a5,hM⟩⟩⟩ (by omega);obtain rfl:i=6:=by omega
 have b8:=v7w a4 b7 a6;refine ex (te (te (xh (tn (sq ?_)))));intro a h;refine z0i none (λwb w'=>Fr [] wb w') z2o ?_;intro w9 q9;have z9:=q9.size;replace hM:=hM.ext q9;replace O:=O.ext q9;have hC:Fr [] w9 w9:=Fr.refl _ _;have U:=hM;have I:=O;refine z0e 0 h rfl rfl λa h=>z0o 1 h rfl rfl λa h=>z0c 2 h rfl z3a rfl λa h=>z1e (vs:=[_,_]) 3 h rfl (λ_ hw=>(I.ext hw)) z5s rfl rfl λa h=>z0e 4 h rfl rfl λa h=>z0o 5 h rfl rfl λa h=>z0c 6 h rfl z3t rfl λa h=>z0l 7 h rfl (λ_ hw=>I.ext hw) rfl na3 rfl λa h=>z0e 8 h rfl rfl λa h=>z0d 9 rfl ?_;refine z0n h (z0a rfl (z0a rfl (z0a rfl z0f))) (mkC func147) (u8p m.q m.rk d _ hM.b.at hI.B (b1.ext hM.fr.fr) hI.rk hd c9) ?_;rintro _ g1 ⟨⟨gl,rfl,f6,hX⟩,q10⟩ a h;have g7:=q10.size;replace hM:=hM.ext q10;replace O:=O.ext q10;replace hC:=hC.next q10;refine z0b ?_;refine z0e 10 h rfl rfl λa h=>z0m 11 h rfl rfl rfl λa h=>z0m 12 h rfl rfl rfl λa h=>z0d 13 rfl ?_;refine z0r h rfl λa h=>?_;refine z0b ?_;refine z0d 14 rfl ?_;refine z0r h rfl λa h=>?_;refine z0b ?_;refine z0q ?_;clear hC U I;refine bk (h.sub (L':=[(0,_),(9,_),(10,_)]) (.c3 rfl rfl rfl)) (tn (sq (sr (mv rfl (ne' rfl rfl (nn (cd rfl (λc4=>?_) (λc4=>?_))))))));refine sr (mv rfl (asg rfl (nn (rt (tr (r1 results111 rfl ?_))))));exact absurd rfl c4;refine sk (tn (sq (sr (mv rfl (lnS rfl underlying242 (mv rfl (nn (bl ?_))))))));refine lpK (ι:=Nat) [(0,_),(79,_),(80,_)] (λi=>[(81,.int .i64 (i:Int))]) (λi w'=>i<=(z3r m.q.p m.rk d).length/\(∃(mi:MQ) (li:List Cx),z4r m.cr ((z3r m.q.p m.rk d).take i)=.ok li/\mi.p={ m.p with ys:=M.map YQ.p,cr:=li }/\MkM τd 137 wS Z w' mi/\Lw.Own z4o 246 w0.heap.size w' (.slice (some ⟨gl,0,none⟩) (z3r m.q.p m.rk d).length (z3r m.q.p m.rk d).length) (z3r m.q.p m.rk d))) (λi=>(z3r m.q.p m.rk d).length-i) 0 (.c4 rfl rfl rfl rfl) ⟨Nat.zero_le _,⟨{ m with ys:=M },m.cr,rfl,rfl,hM,hX.low (by omega)⟩⟩ ?_;rintro i g3 ⟨hi,⟨mi,li,a2,a3,hM,hX⟩⟩;have a0:=hM;refine kpC [(0,_),(79,_),(80,_),(81,_)] (.c4 rfl rfl rfl rfl) (sr (lt' rfl rfl (nn (sq (cd rfl (λc5=>?_) (λc5=>?_))))));have a9:i<(z3r m.q.p m.rk d).length:=by omega
 refine sk (tn (sq (bl (sr (z1a (cx0) rfl hX.sl rfl y1z z1d (λe6 b4=>?_))))));refine z1i rfl (b4 _ hX.sl) v0k (al j0s rfl rfl (λf3 g4 e7 a1 d1 g8=>?_));refine z0j (vs:=[_,_,_,_,_]) rfl rfl a1 v4t (λe3 a1 d3 g9=>?_) (h1:=(by first|(simp[Value.oneCell',S];done)|exact z2r.one (m.ys.getD i yq0)));refine nn (sr (mv rfl (z0k rfl a1 v0k ?_)));replace hM:=a0.ext (d1.z1 d3);replace hX:=(hX.ext d1).fr d3 (by first|exact z9k hX (by omega)|simp[z0x]<;>omega);have b0:=hM.fr;have d9:mi.cr=li:=congrArg MSt.cr a3;refine cl (z0a rfl (z0a rfl z0f)) (mkC func148) (u4q wS { Z with wk:=e3 } mi ((z3r m.q.p m.rk d).getD i cx0) _ hM.mark (by rw[d9];exact y8h hI.cv a2) (j7y _ (z0u (by omega)))) rfl ?_;intro _ g5 hR;obtain⟨rfl,a8,m2,e0⟩:=hR.split;have e4:=a8.kp.size;simp only at e4;replace hX:=a8.kp.own hX (hM.gcneO hX) (by decide);refine asg rfl (nn (sr (mv rfl (ne' rfl rfl (nn (cd rfl (λc6=>?_) (λc6=>?_)))))));refine sr (mv rfl (asg rfl (kpL [(4,_)] (.cons rfl .nil) (nn (rt (rb (tr (tr (rb (tr (r1 results111 rfl ?_)))))))))));exact⟨_,rfl,MRet.err (by unfold y2n;rw[b8];simp only;rw[x9e a2 a9 (by have x:=u0q (z4j c6);rw[show mi.p.cr=li from congrArg MSt.cr a3]at x;exact x)]) c6 (a8.un b0)⟩;obtain⟨d4,e2⟩:=e0 (Classical.not_not.1 c6);have d5:=d4.unmark b0;obtain⟨l2,d7,e1⟩:=u9g e2;refine sk (bn' (tn (rg (z0v rfl rfl (wi6 (by omega)) (mv rfl (nl ?_))))));exact lpE (i+1) (.c4 rfl rfl rfl rfl) ⟨by omega,⟨m2,l2,by rw[y0y a9,y1j a2,<-(show mi.cr=li from congrArg MSt.cr a3)];exact d7,by rw[e1,a3],d5,hX⟩⟩ (by omega);obtain rfl:i=(z3r m.q.p m.rk d).length:=by omega
 refine ex (te (te (xh (tn (sr (asg rfl (nn (rt (r1 results111 rfl ?_)))))))));exact⟨_,rfl,MRet.ok (by rw[List.take_length]at a2;unfold y2n;rw[b8,a3];simp only;rw[show z4r m.p.cr (z3r m.p.B m.p.rk d)=.ok li from a2]) hM⟩
theorem x0r (p:MSt)(d:Int):z8j p d=match y2n p d with
    | .error e=>.error e
    | .ok q=>.ok { q with rk:=p.rk+stI d }:=by
  unfold z8j y2n
  cases z4t p d p.ys with
  | error e=>rfl
  | ok ys=>
    simp only
    cases z4r p.cr (z3r p.B p.rk d) with
    | error e=>rfl
    | ok cr=>rfl
theorem u0u {p:MSt}{r:Int}(n:Nat)(h:p.rk=r):z6m n p r=.ok p:=by
 cases n with
 | zero=>rfl
 | succ n=>unfold z6m;rw[if_pos h]
theorem v8s {p:MSt}{r e:Int}{n:Nat}(h:p.rk≠r)(hn:1<=n)(D:y2n p (if r<p.rk then 0 else 1)=.error e):z6m n p r=.error e:=by
 obtain⟨k,rfl⟩:∃k,n=k+1:=⟨n-1,by omega⟩;unfold z6m;rw[if_neg h,x0r,D]
theorem u7k {p q:MSt}{r:Int}{n:Nat}(h:p.rk≠r)(hn:1<=n)(D:y2n p (if r<p.rk then 0 else 1)=.ok q):z6m n p r=z6m (n-1) { q with rk:=p.rk+stI (if r<p.rk then 0 else 1) } r/\z8j p (if r<p.rk then 0 else 1)=.ok { q with rk:=p.rk+stI (if r<p.rk then 0 else 1) }:=by
 obtain⟨k,rfl⟩:∃k,n=k+1:=⟨n-1,by omega⟩
 constructor
 ·conv=>lhs;unfold z6m
  rw[if_neg h,x0r,D];rfl
 rw[x0r,D]
set_option maxHeartbeats 2000000 in
theorem u7t (wS:World)(ka:MA)(m:MQ)(o:MOp)(w0:World)(hM:MkM τd 137 wS ka w0 m)(hi:MInv m.p)(a8:StT wS)(b8:-4<=o.r/\o.r<=4):Rets prog 66 #[.pointer (some ⟨ka.gk,0,none⟩),opV o] w0 λr w'=>MRet τd 137 wS ka (v8c m.p o) r w':=by
 have c9:=hM.fr.size;have b2:=hM.gk;have b7:=hM.k.lt;have b9:-4<=m.rk/\m.rk<=4:=hi.rk;refine we [(0,.pointer (some ⟨ka.gk,0,none⟩)),(1,opV o)] func66 rfl ntmps66 rfl (.c2 rfl rfl) ?_;have Z:=hM;refine sr (bx rfl rfl rfl (λg3 w1 b6 I q1 z1=>(asg rfl (nn (sq (bl ?_))))));replace hM:=Z.ext q1;refine lpK (ι:=Nat) [(0,_),(3,_)] (λn=>[]) (λn w'=>∃D:MQ,(z6m 8 m.p o.r=z6m n D.p o.r/\MInv D.p/\-(n:Int)<=o.r-D.rk/\o.r-D.rk<=n)/\MkM τd 137 wS ka w' D/\Blk w' g3 28 [.int .u8 o.k,.int .u8 o.d,.int .u8 o.b,.int .i64 o.p,.int .u8 o.y,.int .i64 o.r]) (λn=>n) 8 (.c2 rfl rfl) ⟨m,⟨rfl,hi,by omega,by omega⟩,hM,I⟩ ?_;rintro n w2 ⟨D,⟨a1,U,b4,b5⟩,hM,I⟩;have Z:=hM;have a5:=I.lt;refine kpC [(0,_),(3,_)] (.c2 rfl rfl) ?_;have O:=hM.k;have b3:-4<=D.rk/\D.rk<=4:=U.rk;refine sq (sq ?_);intro a h;refine z0i none (λwb w'=>Fr [] wb w') z2o ?_;intro w3 q3;replace I:=I.ext q3;replace O:=O.ext q3;have hC:Fr [] w3 w3:=Fr.refl _ _;have M:=I;have J:=O;refine z0e 0 h rfl rfl λa h=>z0o 1 h rfl rfl λa h=>z0c 2 h rfl z3t rfl λa h=>z0l 3 h rfl (λ_ hw=>J.ext hw) rfl na3 rfl λa h=>z0c 4 h rfl y2o rfl λa h=>z0l 5 h rfl (λ_ hw=>M.ext hw) rfl na3 rfl λa h=>j1z 6 hC h wn rfl rfl rfl rfl λa h=>z0q ?_;clear hC M J;refine bk (h.sub (L':=[(0,_),(3,_),(14,_)]) (.c3 rfl rfl rfl)) (tn (cd rfl (λc0=>?_) (λc0=>?_)));have a3:D.p.rk≠o.r:=c0;refine sk (tn (bl (sq ?_)));intro a h;refine z0i none (λwb w'=>Fr [] wb w') z2o ?_;intro w4 q4;replace O:=O.ext q4;have hC:Fr [] w4 w4:=Fr.refl _ _;have J:=O;refine z0e 0 h rfl rfl λa h=>z0o 1 h rfl rfl λa h=>z0c 2 h rfl z3t rfl λa h=>z0l 3 h rfl (λ_ hw=>J.ext hw) rfl na3 rfl λa h=>z4u 4 h rfl rfl (by first|exact i6 (by omega)|rfl) rfl λa h=>z0d 5 rfl ?_;refine z0r h rfl λa h=>?_;refine z0b ?_;refine z0d 6 rfl ?_;refine z0r h rfl λa h=>?_;refine z0b ?_;refine z0q ?_;clear hC J;refine bk (h.sub (L':=[(0,_),(3,_),(5,_),(6,_)]) (.c4 rfl rfl rfl rfl)) (tn ?_);refine jn (ι:=Unit) [(0,_),(3,_)] (λ_j=>[(5,.int .u8 (if o.r<D.rk then (0:Int) else 1)),(6,.int .i64 (D.rk+stI (if o.r<D.rk then (0:Int) else 1)))]) (λ_j w'=>Fr [] w4 w') (.c2 rfl rfl) ?_ ?_;refine sq ?_;intro a h;refine z0i none (λwb w'=>Fr [] wb w') z2o ?_;intro w5 q5;replace I:=I.ext (q4.n1 q5);replace O:=O.ext q5;have hC:Fr [] w5 w5:=Fr.refl _ _;have M:=I;have J:=O;refine z0c 0 h rfl y2o rfl λa h=>z0l 1 h rfl (λ_ hw=>M.ext hw) rfl na3 rfl λa h=>z0e 2 h rfl rfl λa h=>z0o 3 h rfl rfl λa h=>z0c 4 h rfl z3t rfl λa h=>z0l 5 h rfl (λ_ hw=>J.ext hw) rfl na3 rfl λa h=>v0f 6 hC h wn rfl rfl rfl rfl λa h=>z0q ?_;clear hC M J;refine bk (h.sub (L':=[(0,_),(3,_),(5,_),(6,_),(26,_)]) (.c5 rfl rfl rfl rfl rfl)) (tn (cd rfl (λc1=>?_) (λc1=>?_)));intro a h;refine z0i none (λwb w'=>Fr [] wb w') z2o ?_;intro w6 q6;replace O:=O.ext q6;have hC:Fr [] w6 w6:=Fr.refl _ _;have J:=O;refine z0e 0 h rfl rfl λa h=>z0o 1 h rfl rfl λa h=>z0c 2 h rfl z3t rfl λa h=>z0l 3 h rfl (λ_ hw=>J.ext hw) rfl na3 rfl λa h=>z3b 4 h wn rfl rfl (by first|exact i6 (by omega)|rfl) rfl λa h=>z0d 5 rfl ?_;refine z0r h rfl λa h=>?_;refine z0b ?_;refine z0d 6 rfl ?_;refine z0r h rfl λa h=>?_;refine z0b ?_;refine z0q ?_;clear hC J;refine bk (h.sub (L':=[(0,_),(3,_),(5,_),(6,_)]) (.c4 rfl rfl rfl rfl)) ?_;exact jE (()) (.c4 rfl rfl (congrArg (λz=>some (Value.int .u8 z)) (by first|exact(if_pos c1).symm|exact(if_neg c1).symm)) (congrArg (λz=>some (Value.int .i64 z)) (by first|(rw[show (if o.r<D.rk then (0:Int) else 1)=0 from if_pos c1,show stI 0 = -1 from rfl];omega)|(rw[show (if o.r<D.rk then (0:Int) else 1)=1 from if_neg c1];rfl)))) (q5.n1 q6);refine sk ?_;exact jE (()) (.c4 rfl rfl (congrArg (λz=>some (Value.int .u8 z)) (by first|exact(if_pos c1).symm|exact(if_neg c1).symm)) (congrArg (λz=>some (Value.int .i64 z)) (by first|(rw[show (if o.r<D.rk then (0:Int) else 1)=0 from if_pos c1,show stI 0 = -1 from rfl];omega)|(rw[show (if o.r<D.rk then (0:Int) else 1)=1 from if_neg c1];rfl)))) q5;rintro _j w7 q7;refine kpC [(0,_),(3,_),(5,_),(6,_)] (.c4 rfl rfl rfl rfl) (sq (sr (mv rfl (mv rfl ?_))));replace hM:=Z.ext (q3.n2 q4 q7);replace I:=I.ext (q4.n1 q7);have a2:=hM.fr;refine cl (z0a rfl (z0a rfl z0f)) (mkC func111) (j0g wS { ka with wk:=w7 } D (if o.r<D.rk then (0:Int) else 1) _ hM.mark U a8 (by split<;>simp) (by have hx:-4<=D.rk/\D.rk<=4:=U.rk;unfold stI;split<;>split at *<;>omega)) rfl ?_;intro _ w8 hR;obtain⟨rfl,a0,m2,b0⟩:=hR.split;have z8:=a0.kp.size;simp only at z8;replace I:=a0.kp.blk I (by have:=hM.gcne I;exact this) (by decide);refine asg rfl (nn (sr (mv rfl (ne' rfl rfl (nn (cd rfl (λc2=>?_) (λc2=>?_)))))));refine sr (mv rfl (asg rfl (kpL [(4,_)] (.cons rfl .nil) (nn (rt (tr (rb (tr (rb (tr (r1 results66 rfl ?_)))))))))));exact⟨_,rfl,MRet.err (by unfold v8c;rw[a1];exact v8s a3 (by omega) (z4j c2)) c2 (a0.un a2)⟩;obtain⟨a7,b1⟩:=b0 (Classical.not_not.1 c2);replace hM:=a7.unmark a2;have Z:=hM;have O:=hM.k;have a4:=u7k (p:=D.p) (r:=o.r) (n:=n) a3 (by omega) b1;have a6:=x0c U (by have hx:-4<=D.rk/\D.rk<=4:=U.rk;show -4<=D.rk+stI (if o.r<D.rk then (0:Int) else 1)/\D.rk+stI (if o.r<D.rk then (0:Int) else 1)<=4;unfold stI;split<;>split at *<;>omega) a4.2;refine sk (tn (rg (mv rfl (mv rfl (nlc rfl (fad rfl z3t (z3l rfl rfl O rfl sz3 (λw9 a9 q9 z9=>?_))))))));replace hM:=hM.beds mtd (q:=m2.q) (r:=D.rk+stI (if o.r<D.rk then (0:Int) else 1)) hM.b a9 q9 hM.fb;refine kpL [(0,_),(3,_)] (.c2 rfl rfl) (nl (bn' ?_));replace I:=I.fr q9;exact lpE ((n-1)) (.c2 rfl rfl) ⟨{ m2 with rk:=D.rk+stI (if o.r<D.rk then (0:Int) else 1) },⟨by rw[a1,a4.1],a6.1,by show -((n-1:Nat):Int)<=o.r-(D.rk+stI (if o.r<D.rk then (0:Int) else 1));unfold stI;split<;>split at *<;>omega,by show o.r-(D.rk+stI (if o.r<D.rk then (0:Int) else 1))<=((n-1:Nat):Int);unfold stI;split<;>split at *<;>omega⟩,hM,I⟩ (by omega);refine ex (te (te (xh (tn (sr (asg rfl (nn (rt (r1 results66 rfl ?_)))))))));replace hM:=Z.ext q3;exact⟨_,rfl,MRet.ok (by unfold v8c;rw[a1];exact u0u n (show D.rk=o.r by omega)) hM⟩
theorem j0z:CallOf prog 21:=mkC func21
theorem j5w (w:World):(zeroValue 139).run prog w=.ok .nilFunc w:=by kernel_rfl
abbrev v7m (F:Nat):Value:=.func (.func F) #[] #[]
def j2o:Int->Option Value:=λk'=>if k'=8 then some (v7m 71) else (if k'=7 then some (v7m 70) else (if k'=6 then some (v7m 69) else (if k'=5 then some (v7m 68) else (if k'=4 then some (v7m 67) else (if k'=3 then some (v7m 66) else (if k'=2 then some (v7m 65) else (if k'=1 then some (v7m 64) else (none))))))))
theorem v6p (w0:World):Rets prog 26 #[] w0 λr w'=>(∃g,r=.map (some g)/\w0.heap.size<=g/\MapF kV w' g j2o)/\Fr [] w0 w':=by
 refine we [] func26 rfl ntmps26 rfl .nil (sr (asg rfl (nn (sr (y6a kV rfl (λI w1 J D M z1=>(z2x (V:=kV) (k:=1) rfl rfl rfl D y6d underlying93 (λw2 D O z2=>(z2x (V:=kV) (k:=2) rfl rfl rfl D y6d underlying93 (λw3 D U z3=>(z2x (V:=kV) (k:=3) rfl rfl rfl D y6d underlying93 (λw4 D Z z4=>?_))))))))))));refine z2x (V:=kV) (k:=4) rfl rfl rfl D y6d underlying93 (λw5 D q5 z5=>(z2x (V:=kV) (k:=5) rfl rfl rfl D y6d underlying93 (λw6 D q6 z6=>(z2x (V:=kV) (k:=6) rfl rfl rfl D y6d underlying93 (λw7 D q7 z7=>(z2x (V:=kV) (k:=7) rfl rfl rfl D y6d underlying93 (λw8 D q8 z8=>(z2x (V:=kV) (k:=8) rfl rfl rfl D y6d underlying93 (λw9 D q9 z9=>(mv rfl (asg rfl (nn (rt (r1 results26 rfl ?_))))))))))))));exact⟨_,rfl,⟨I,rfl,by omega,D⟩,(((M.z6 O U Z q5 q6 q7).z1 q8).z1 q9)⟩
theorem j1g (wS:World)(D:MA)(m:MQ)(o:MOp)(w0:World)(hM:MkM τd 137 wS D w0 m)(I:MInv m.p)(O:StT wS)(hc:y3a o=0):∃F:Nat,j2o o.k=some (v7m F)/\CallOf prog F/\Rets prog F #[.pointer (some ⟨D.gk,0,none⟩),opV o] w0 λr w'=>MRet τd 137 wS D (opM m.p o) r w':=by
 obtain⟨hk,U,M,Z,J,hr⟩:=y5e hc;unfold opM;rcases hk with e|e|e|e|e|e|e|e<;>rw[e]at U M Z J hr ⊢
 exact⟨_,rfl,(mkC func64),j3v wS D m o w0 hM (M (by simp))⟩;exact⟨_,rfl,(mkC func65),u4p wS D m o w0 hM (M (by simp))⟩;exact⟨_,rfl,(mkC func66),u7t wS D m o w0 hM I O (hr (by simp))⟩;exact⟨_,rfl,(mkC func67),u6l wS D m o w0 hM I (M (by simp)) (J (by simp))⟩;exact⟨_,rfl,(mkC func68),j0d wS D m o w0 hM I (M (by simp)) (J (by simp))⟩;exact⟨_,rfl,(mkC func69),u9h wS D m o w0 hM I (M (by simp)) (J (by simp))⟩;exact⟨_,rfl,(mkC func70),u6z wS D m o w0 hM I (J (by simp))⟩;exact⟨_,rfl,(mkC func71),u6b wS D m o w0 hM I (J (by simp))⟩
theorem u3b (wS:World)(J:MA)(m:MQ)(o:MOp)(gl:Nat)(w0:World)(hM:MkM τd 137 wS J w0 m)(hi:MInv m.p)(a0:StT wS)(hl:MapF kV w0 gl j2o):Rets prog 27 #[.pointer (some ⟨J.gk,0,none⟩),.map (some gl),opV o] w0 λr w'=>MRet τd 137 wS J (doM m.p o) r w':=by
 refine we [(0,.pointer (some ⟨J.gk,0,none⟩)),(1,.map (some gl)),(2,opV o)] func27 rfl ntmps27 rfl (.c3 rfl rfl rfl) ?_;have Z:=hM;have a2:=hl;refine sr (bx rfl rfl rfl (λg5 w1 a3 D q1 z1=>(asg rfl (nn (sq (sr (z0k rfl D y1k (cl (ev1 rfl) j0z (y0x _ _) rfl ?_))))))));rintro _ w2 ⟨rfl,q2⟩;refine asg rfl (nn (sr (mv rfl (ne' rfl rfl (nn (cd rfl (λO=>?_) (λO=>?_)))))));refine sr (mv rfl (asg rfl (kpL [(6,_)] (.cons rfl .nil) (nn (rt (tr (r1 results27 rfl ?_)))))));replace hM:=Z.ext (q1.n1 q2);exact⟨_,rfl,MRet.err (by unfold doM;rw[if_pos O]) O hM.fr⟩;replace hM:=Z.ext (q1.n1 q2);have hc:y3a o=0:=Classical.not_not.1 O;have I:=λw hM=>j1g wS J m o w hM hi a0 hc;obtain⟨F,hF,a1,-⟩:=I _ hM;have M:∀w,MkM τd 137 wS J w m->Rets prog F #[.pointer (some ⟨J.gk,0,none⟩),opV o] w λr w'=>MRet τd 137 wS J (opM m.p o) r w':=λw hM=>by
  obtain⟨F',U,-,h'⟩:=I w hM;rw[hF]at U;cases U;exact h'
 refine sk (tn (sr (mv rfl (fad rfl z8m ?_))));replace D:=D.ext q2;refine z0g rfl D rfl v7o ?_;replace hl:=a2.ext (q1.n1 q2);refine y8o (V:=kV) (k:=o.k) (f:=j2o) (v:=v7m F) rfl rfl hl y6d underlying93 j5w (by rw[hF];rfl) rfl ?_;refine mv rfl (z0k rfl D y1k ?_);refine clv (us:=[]) (ws:=[]) rfl (ev2 rfl rfl) a1 (M w2 hM) rfl (by intro g e;cases e) ?_;rintro a4 w3 hR;refine asg rfl (kpL [(6,_)] (.cons rfl .nil) (nn (rt (r1 results27 rfl ?_))));exact⟨_,rfl,by rw[show doM m.p o=opM m.p o from if_neg O];exact hR⟩
end Go.Proofs.YtpgdchkdlgkmgaaGreatDoor
namespace Go.G08
open Go.Lw Go.G21
theorem v9h (l:List Cx)(a b:LId)(n:Int):(y4g l a b n).length<=l.length+1:=by
 unfold y4g;split<;>simp
theorem u2f (l:List Cx)(a b:LId):(v0r l a b).length<=l.length+1:=Nat.le_trans (List.length_filter_le _ _) (by omega)
theorem v8a {l l':List Cx}{c:Cx}(h:y6j l c=.ok l'):l'.length<=l.length+1:=by
 rw[x0d]at h;split at h;cases h;split at h;cases h;exact u2f ..;cases h;exact v9h ..
theorem x1w:∀ {r l l':List Cx},z4r l r=.ok l'->l'.length<=l.length+r.length
 | [],l,l',h=>by cases h;exact Nat.le_refl _
 | c::r,l,l',h=>by
  unfold z4r at h
  split at h
  ·cases h
  rename_i I D
  have:=v8a D
  have:=x1w h
  simp only[List.length_cons];omega
theorem v4x {B:Bd}(h:BdOk B)(r d:Int):(z3r B r d).length<=640:=Nat.le_trans (y4a h r d) (by have:=h.lb;omega)
theorem v5y {p q:MSt}{d:Int}(h:BdOk p.B)(e:z8j p d=.ok q):q.B=p.B/\q.cr.length<=p.cr.length+640:=by
 unfold z8j at e;split at e;cases e;split at e;cases e;rename_i ys J I D;cases e;have:=x1w D;have:=v4x h p.rk d;exact⟨rfl,by simp only;omega⟩
theorem x3b:∀ {n:Nat} {p q:MSt} {r:Int},BdOk p.B->z6m n p r=.ok q->q.cr.length<=p.cr.length+n*640
 | 0,p,q,r,h,e=>by cases e;omega
 | n+1,p,q,r,h,e=>by
  unfold z6m at e
  split at e
  ·cases e;omega
  split at e
  ·cases e
  rename_i J D
  obtain⟨I,hl⟩:=v5y h D
  have:=x3b (I▸h) e
  rw[Nat.add_mul];omega
theorem x4f {p q:MSt}{y D en:Int}(e:y0g p y D en=.ok q):q.cr=p.cr:=by
 unfold y0g at e;split at e;cases e;cases e;rfl
theorem v2g {p q:MSt}{o:MOp}{D st:List LId}(e:y3w p o D st=.ok q):q.cr=p.cr:=by
 unfold y3w at e;split at e;cases e;split at e;cases e;cases e;rfl
theorem v3e {p q:MSt}{o:MOp}(h:BdOk p.B)(e:opM p o=.ok q):q.cr.length<=p.cr.length+5120:=by
 have s:∀ {x:MSt},x.cr=p.cr->x.cr.length<=p.cr.length+5120:=λI=>by rw[I];omega
 unfold opM at e;split at e;unfold inM at e;split at e;cases e;cases e;exact s rfl;split at e;unfold v0s at e;split at e;cases e;cases e;exact s rfl;split at e;have:=x3b h e;omega;split at e;unfold y3c at e;split at e;cases e;split at e;cases e;rename_i J D;exact s ((v2g e).trans (x4f D));split at e;unfold y2e at e;split at e;cases e;split at e;cases e;rename_i J D;split at e;cases e;exact s ((v2g e).trans (x4f D));split at e;unfold y6n at e;split at e;cases e;exact s (x4f e);split at e;unfold z9y at e;repeat (split at e;· cases e)
 cases e;exact s rfl;unfold y5p at e;split at e;cases e;cases e;exact s rfl
theorem y3q:∀ {l:List MOp} {i:Nat} {p q:MSt},MInv p->z4c i p l=.ok q->q.cr.length<=p.cr.length+l.length*5120
 | [],i,p,q,h,e=>by cases e;simp
 | o::l,i,p,q,h,e=>by
  unfold z4c at e
  split at e
  ·cases e
  rename_i J D
  have I:=x8f h D
  have M:=y3q I e
  have O:J.cr.length<=p.cr.length+5120:=by
   unfold doM at D
   split at D
   ·cases D
   exact v3e h.B D
  rw[List.length_cons,Nat.add_mul];omega
theorem z6z {a b:LId}:z7c a b<0↔a.y<b.y\/a.y=b.y/\a.n<b.n:=by
 unfold z7c;(repeat' split)<;>constructor<;>intro h<;>omega
theorem y4r {a b:LId}:z7c a b=0↔a=b:=by
 obtain⟨J,I⟩:=a;obtain⟨D,bn⟩:=b;rw[LId.mk.injEq];unfold z7c;dsimp only;(repeat' split)<;>constructor<;>intro h<;>omega
theorem y3z {T T':Tb}{l:Lp}(h:y4v T l)(I:∀i,z4e T i->z4e T' i):y4v T' l:=⟨h.1,h.2.1,λi D=>I i (h.2.2.1 i D),h.2.2.2⟩
theorem x0w {T:Tb}(Z:T.length=6){i:LId}(h:z4e T i):∃y n:Nat,y<6/\n<z2t T y/\i=⟨(y:Int)+1,(n:Int)⟩:=by
 obtain⟨J,M,O,U⟩:=h;obtain⟨I,D⟩:=i;simp only at J M O U;exact⟨(I-1).toNat,D.toNat,by omega,by omega,by rw[show (((I-1).toNat:Nat):Int)+1=I by omega,show ((D.toNat:Nat):Int)=D by omega]⟩
theorem y3u {T:Tb}{j:Nat}(J:T.length=6)(M:j<6){l:Lp}{i:LId}:z4e (T.set j (T.getD j []++[l])) i↔z4e T i\/i=⟨(j:Int)+1,(z2t T j:Int)⟩:=by
 have D:j<T.length:=by omega
 constructor;intro h;obtain⟨y,n,O,I,rfl⟩:=x0w (by rw[List.length_set];exact J) h;rw[z9n D]at I;by_cases e:j=y;subst e;rw[if_pos rfl,List.length_append,List.length_singleton,show (T.getD j []).length=z2t T j from rfl]at I;by_cases e2:n<z2t T j;exact .inl (z7y D e2);exact .inr (by rw[show n=z2t T j by omega]);rw[if_neg e]at I;exact .inl (z7y (by omega) I);rintro(h|rfl);exact y9x D h;exact z7y (by rw[List.length_set];exact D) (by rw[z9n D,if_pos rfl,List.length_append,List.length_singleton];exact Nat.lt_succ_self _)
structure TabR (T:Tb) (rk:LId->Nat):Prop where
  six:T.length=6
  rts:∀y,y<6->∀n,n<z2t T y->y4v T (lpA T y n)/\(n=0->(lpA T y n).nw=true)
  rkd:Ranked T rk
  top:∀i,z4e T i->rk i<z4v T
theorem TabR.add {T:Tb}{rk:LId->Nat}(h:TabR T rk){j:Nat}(hj:j<6){l:Lp}(hr:y4v T l)(h0:z2t T j=0->l.nw=true) :
    TabR (T.set j (T.getD j []++[l])) (rkX rk j (z2t T j) (z4v T)):=by
  have h6:=h.six
  have Z:j<T.length:=by omega
  have a1:z4v (T.set j (T.getD j []++[l]))=z4v T+1:=by
    have:=y9a T j (T.getD j []++[l]) Z
    rw[List.length_append,List.length_singleton,show (T.getD j []).length=z2t T j from rfl]at this
    omega
  have D:∀i,z4e T i->rkX rk j (z2t T j) (z4v T) i=rk i:=λi J=>by
    obtain⟨y,n,I,M,rfl⟩:=x0w h6 J
    unfold rkX
    rw[if_neg]
    rintro⟨e1,e2⟩
    simp only at e1 e2
    have:y=j:=by omega
    subst this;omega
  have O:rkX rk j (z2t T j) (z4v T) ⟨(j:Int)+1,(z2t T j:Int)⟩=z4v T:=by
    unfold rkX
    rw[if_pos ⟨rfl,by simp⟩]
    show z4v T+((z2t T j:Int)-(z2t T j:Int)).toNat=z4v T
    omega
  have hm:∀i,z4e T i->z4e (T.set j (T.getD j []++[l])) i:=λi J=>(y3u h6 hj).2 (.inl J)
  -- an old loop,or the new one
  have a0:∀y,y<6->∀n,n<z2t (T.set j (T.getD j []++[l])) y->(n<z2t T y/\lpA (T.set j (T.getD j []++[l])) y n=lpA T y n)\/(y=j/\n=z2t T j/\lpA (T.set j (T.getD j []++[l])) y n=l):=λy I n M=>by
    rw[z9n Z]at M
    rw[u5x Z]
    by_cases e:j=y
    · subst e
      rw[if_pos rfl,List.length_append,List.length_singleton,show (T.getD j []).length=z2t T j from rfl]at M
      rw[if_pos rfl]
      by_cases e2:n<z2t T j
      · exact .inl ⟨e2,if_pos e2⟩
      · obtain rfl:n=z2t T j:=by omega
        exact .inr ⟨rfl,rfl,by rw[if_neg e2,Nat.sub_self];rfl⟩
    · rw[if_neg e]at M
      exact .inl ⟨M,by rw[if_neg e]⟩
  have hp:∀ {y n:Nat},y<6->n<z2t T y->z4e T ⟨(y:Int)+1,(n:Int)⟩:=λI M=>z7y (by omega) M
  refine⟨by rw[List.length_set];exact h6,λy I n M=>?_,⟨λy I n M i J=>?_,λy I n m U a2=>?_⟩,λi J=>?_⟩
  · rcases a0 y I n M with ⟨k,e⟩|⟨rfl,rfl,e⟩
    · rw[e];exact⟨y3z (h.rts y I n k).1 hm,(h.rts y I n k).2⟩
    · rw[e];exact⟨y3z hr hm,h0⟩
  · rcases a0 y I n M with ⟨k,e⟩|⟨rfl,rfl,e⟩
    · rw[e]at J
      rw[D _ (hp I k),D _ ((h.rts y I n k).1.2.2.1 i J)]
      exact h.rkd.need y I n k i J
    · rw[e]at J
      rw[O,D _ (hr.2.2.1 i J)]
      exact h.top i (hr.2.2.1 i J)
  · rcases a0 y I m a2 with ⟨k,_⟩|⟨rfl,rfl,_⟩
    · rw[D _ (hp I k),D _ (hp I (show n<z2t T y by omega))]
      exact h.rkd.mono y I n m U k
    · rw[O,D _ (hp I U)]
      exact h.top _ (hp I U)
  · rw[a1]
    rcases(y3u h6 hj).1 J with k|rfl
    · rw[D _ k];have:=h.top i k;omega
    · rw[O];omega
theorem u2e {T:Tb}{j:Nat}(D:j<T.length)(l:Lp)(i:LId):(y1c (T.set j (T.getD j []++[l]))).count i=(y1c T).count i+l.th.count i:=by
 have h:=z7w x8p T j [] (T.getD j []++[l]) i D;have e:x8p (T.getD j []++[l])=x8p (T.getD j [])++l.th:=by unfold x8p;simp
 unfold y1c;rw[e,List.count_append]at h;omega
theorem x7s {T:Tb}{U:LId->Nat}(h:TabR T U){i:LId}(D:i∈y1c T):z4e T i:=by
 unfold y1c at D;obtain⟨r,M,D⟩:=List.mem_flatMap.1 D;unfold x8p at D;obtain⟨l,hl,D⟩:=List.mem_flatMap.1 D;obtain⟨y,O,rfl⟩:=List.getElem_of_mem M;obtain⟨n,J,rfl⟩:=List.getElem_of_mem hl;have I:T.getD y []=T[y]:=by rw[List.getD,List.getElem?_eq_getElem O];rfl
 have en:lpA T y n=T[y][n]:=by unfold lpA;rw[I,List.getD,List.getElem?_eq_getElem J];rfl
 have Z:=h.six;have:=(h.rts y (by omega) n (by unfold z2t;rw[I];exact J)).1.2.2.1 i (by rw[en];exact List.mem_append_left _ D);exact this
theorem v3a {T:Tb}{st:List Pa}{p:Pa}(h:∀q∈st,z4e T q.id)(hp:z4e T p.id):∀q∈y0b st p,z4e T q.id:=by
 unfold y0b;split;exact λq D=>h q (List.mem_of_mem_take D);intro q D;rcases List.mem_append.1 D with k|k
 exact h q k;rw[List.mem_singleton.1 k];exact hp
theorem x1x {T:Tb}:∀ {l st:List Pa},(∀q∈st,z4e T q.id)->(∀q∈l,z4e T q.id)->∀q∈z4s st l,z4e T q.id
 | [],_,h,_=>h
 | p::l,st,h,hl=>x1x (l:=l) (v3a h (hl p (by simp))) (λq D=>hl q (List.mem_cons_of_mem _ D))
theorem x3f:∀(l st:List Pa),y6l (st++l)->z4s st l=st++l
 | [],st,_=>by simp[z4s]
 | p::l,st,h=>by
  have I:y0b st p=st++[p]:=by
   unfold y0b
   rw[if_neg]
   rintro⟨O,U⟩
   have D:=(h st.length (by simp)).2 O
   have J:(st++p::l).getD (st.length-1) pa0=st.getD (st.length-1) pa0:=by
    rw[List.getD,List.getElem?_append_left (by omega),List.getD]
   have M:(st++p::l).getD st.length pa0=p:=by simp[List.getD]
   rw[J,M]at D
   exact D U
  show z4s (y0b st p) l=_
  rw[I,x3f l (st++[p]) (by simpa using h)]
  simp
theorem u4r {l:List Pa}(h:y6l l):(z4s [] l).length=l.length:=by rw[x3f l [] (by simpa using h)];rfl
theorem v3r {l:List Pa}(h:y6l l):∀p∈l,z5x p.d:=λp I=>by
 obtain⟨i,D,rfl⟩:=List.getElem_of_mem I
 have:=(h i D).1.2
 rwa [List.getD,List.getElem?_eq_getElem D]at this
theorem x1s (h:Hd):∀l:List Hd,(y1w h l).Perm (h::l)
 | []=>.refl _
 | x::l=>by
  unfold y1w
  split
  ·exact .refl _
  exact((x1s h l).cons x).trans (.swap h x l)
theorem v3p (l:List Hd):(z5e l).Perm l:=by
 have h:∀(l st:List Hd),(l.foldl (λa h=>y1w h a) st).Perm (st++l):=by
  intro l;induction l with
  | nil=>intro st;simp
  | cons x l ih=>
   intro st;show (l.foldl _ (y1w x st)).Perm _;exact(ih _).trans (((x1s x st).append_right l).trans (by simpa using (List.perm_middle (a:=x) (l₁:=st) (l₂:=l)).symm))
 have e:=h l [];rw[List.nil_append]at e;exact e
theorem y7o (B:Bd)(r:Int):(z2w B r).Perm (v7k B r):=v3p _
theorem v1z (b r:Int)(l:Bed):(hds b r l l.length).map Hd.id=l.flatten:=by
 have h:∀i,i<=l.length->(hds b r l i).map Hd.id=(l.take i).flatten:=by
  intro i;induction i with
  | zero=>intro _;simp[hds]
  | succ i ih=>
   intro D;rw[y8s,List.map_append,ih (by omega),List.take_add_one,List.flatten_append,List.getElem?_eq_getElem (by omega),List.getD,List.getElem?_eq_getElem (by omega)];simp[hdS,Function.comp_def]
 rw[h _ (Nat.le_refl _),List.take_length]
theorem y8q (B:Bd)(r:Int):((z2w B r).map Hd.id).Perm B.flat:=by
 refine((y7o B r).map _).trans ?_;unfold v7k Bd.flat;rw[List.map_append,v1z,v1z]
theorem u8y {B:Bd}{r f t:Int}{q:Pa}(h:q∈btw (z2w B r) f t):q.id∈B.flat:=by
 have I:∀x∈z2w B r,x.id∈B.flat:=λx D=>(y8q B r).mem_iff.1 (List.mem_map_of_mem D);unfold btw at h;split at h;obtain⟨x,D,rfl⟩:=List.mem_map.1 h;exact I x (List.mem_filter.1 D).1;obtain⟨x,D,rfl⟩:=List.mem_map.1 (List.mem_reverse.1 h);exact I x (List.mem_filter.1 D).1
theorem x7l {B:Bd}{k:Nat}{x:LId}(h:x∈B.b.getD k []):x∈B.b.flatten:=by
 by_cases e:k<B.b.length;rw[List.getD,List.getElem?_eq_getElem e]at h;exact List.mem_flatten.2 ⟨_,List.getElem_mem e,h⟩;rw[List.getD,List.getElem?_eq_none (by omega)]at h;cases h
theorem x1m {B:Bd}{r d p:Int}{i:Nat}{q:Pa}(h:q∈y6o B r d p i):q.id∈B.flat:=by
 unfold y6o at h;obtain⟨k,_,h⟩:=List.mem_flatMap.1 h;unfold x3y at h;split at h;cases h;obtain⟨x,D,rfl⟩:=List.mem_map.1 h;exact List.mem_append_right _ (x7l D)
theorem v5a {B:Bd}{r d p:Int}{q:Pa}(h:q∈z7d B r d p):q.id∈B.flat:=by
 unfold z7d at h;split at h;exact x1m (List.mem_reverse.1 h);exact x1m h
theorem v3k {B:Bd}{n:Int}{x:LId}(h:x∈B.atC 0 n):x∈B.f.flatten:=by
 unfold Bd.atC at h;split at h;unfold Bd.at at h;rw[if_pos rfl]at h;have D:atB B.f n≠[]:=λe=>by rw[e]at h;cases h
 exact List.mem_flatten.2 ⟨_,v5j D,h⟩;cases h
theorem x6s {B:Bd}{r d:Int}{i:Nat}{c:Cx}(hn:B.flat.Nodup)(h:c∈x9t B r d i):c.a∈B.flat/\c.b∈B.flat/\c.a≠c.b/\(c.n=1\/c.n = -1):=by
 unfold x9t at h;obtain⟨k,_,h⟩:=List.mem_flatMap.1 h;unfold u2x at h;obtain⟨x,O,h⟩:=List.mem_flatMap.1 h;obtain⟨o,M,rfl⟩:=List.mem_map.1 h;have I:x∈B.b.flatten:=x7l O;have J:o∈B.f.flatten:=v3k (List.mem_reverse.1 M);have D:o≠x:=(List.nodup_append.1 hn).2.2 o J x I;unfold x7q;split;exact⟨List.mem_append_left _ J,List.mem_append_right _ I,D,.inl rfl⟩;exact⟨List.mem_append_right _ I,List.mem_append_left _ J,D.symm,.inr rfl⟩
theorem v1w {B:Bd}{r d:Int}{c:Cx}(hn:B.flat.Nodup)(h:c∈z3r B r d):c.a∈B.flat/\c.b∈B.flat/\c.a≠c.b/\(c.n=1\/c.n = -1):=by
 unfold z3r at h;split at h;exact x6s hn (List.mem_reverse.1 h);exact x6s hn h
structure CrsOk (T:Tb) (l:List Cx):Prop where
  has:∀c∈l,z4e T c.a/\z4e T c.b/\z7c c.a c.b<0/\(-1048576<=c.n/\c.n<=1048576)/\c.n≠0
  nd:(l.map λc=>(c.a,c.b)).Nodup
theorem CrsOk.mono {T T':Tb}{l:List Cx}(h:CrsOk T l)(I:∀i,z4e T i->z4e T' i):CrsOk T' l:=⟨λc D=>⟨I _ (h.has c D).1,I _ (h.has c D).2.1,(h.has c D).2.2⟩,h.nd⟩
theorem x8y {l:List Cx}{a b:LId}{n:Int}(h:l.any (isC a b)=true):(y4g l a b n).map (λc=>(c.a,c.b))=l.map λc=>(c.a,c.b):=by
 unfold y4g;rw[if_pos h,List.map_map];refine List.map_congr_left λc _=>?_;simp only[Function.comp_apply];split;rename_i e;obtain⟨D,I⟩:=z8e.1 e;rw[D,I];rfl
theorem v8w {l:List Cx}{a b:LId}{n:Int}{c:Cx}(h:c∈y4g l a b n):c=⟨a,b,n⟩\/c∈l:=by
 unfold y4g at h;split at h;obtain⟨z,D,rfl⟩:=List.mem_map.1 h;split;exact .inl rfl;exact .inr D;rcases List.mem_append.1 h with k|k
 exact .inr k;exact .inl (List.mem_singleton.1 k)
theorem u1i {a b:LId}(h:a≠b)(D:¬0<z7c a b):z7c a b<0:=by
 have:=mt y4r.1 h;omega
theorem v7c {a b:LId}(h:0<z7c a b):z7c b a<0:=by
 rw[z6z];unfold z7c at h;(repeat' split at h)<;>omega
theorem CrsOk.add {T:Tb}{l l':List Cx}{c:Cx}(h:CrsOk T l)(O:z4e T c.a)(hb:z4e T c.b)(I:c.a≠c.b)(e:y6j l c=.ok l'):CrsOk T l':=by
 unfold y6j at e;dsimp only at e;obtain⟨a,b,hk,h1,h2,h3⟩:∃a b,(if 0<z7c c.a c.b then (c.b,c.a) else (c.a,c.b))=(a,b)/\z4e T a/\z4e T b/\z7c a b<0:=by
  split;rename_i k;exact⟨_,_,rfl,hb,O,v7c k⟩;rename_i k;exact⟨_,_,rfl,O,hb,u1i I k⟩
 rw[hk]at e;split at e;cases e;rename_i hr;split at e;cases e;exact⟨λx D=>h.has x (List.mem_filter.1 D).1,h.nd.sublist (List.filter_sublist.map _)⟩;rename_i M;cases e;dsimp only at hr M ⊢;refine⟨λx D=>?_,?_⟩;rcases v8w D with rfl|k
 exact⟨h1,h2,h3,by dsimp only;omega,M⟩;exact h.has x k;by_cases k:l.any (isC a b)=true;rw[x8y k];exact h.nd;unfold y4g;rw[if_neg k,List.map_append,List.map_singleton,List.nodup_append];refine⟨h.nd,by simp,λx D y hy=>?_⟩;obtain⟨z,hz,rfl⟩:=List.mem_map.1 D;rw[List.mem_singleton.1 hy];intro J;have U:=congrArg Prod.fst J;have Z:=congrArg Prod.snd J;exact k (List.any_eq_true.2 ⟨z,hz,z8e.2 ⟨U,Z⟩⟩)
theorem CrsOk.adds {T:Tb}:∀ {r l l':List Cx},CrsOk T l->(∀c∈r,z4e T c.a/\z4e T c.b/\c.a≠c.b)->z4r l r=.ok l'->CrsOk T l'
 | [],l,l',h,_,e=>by cases e;exact h
 | c::r,l,l',h,hr,e=>by
  unfold z4r at e
  split at e
  ·cases e
  rename_i M I
  have D:=hr c (by simp)
  exact CrsOk.adds (h.add D.1 D.2.1 D.2.2 I) (λx J=>hr x (List.mem_cons_of_mem _ J)) e
def YnV (T:Tb)(y:Yn):Prop:=(∀q∈y.pe,z4e T q.id)/\(y.inn=true->y.ct=0->y.nw=true)
structure MVal (p:MSt):Prop where
  inv:MInv p
  yv:∀k,k<6->YnV p.tb (p.ys.getD k yn0)
  tab:∃rk,TabR p.tb rk
  once:∀i,z4e p.tb i->(p.B.flat++p.fa++y1c p.tb).count i=1
  fa:∀i∈p.fa,z4e p.tb i
  cr:CrsOk p.tb p.cr
theorem z8l:MVal start:=by
 have I:∀y,z2t start.tb y=0:=λy=>by
  simp only[start,z2t,List.getD,List.getElem?_replicate];split<;>rfl
 have J:∀i,¬z4e start.tb i:=λi D=>by
  obtain⟨_,_,h3,U⟩:=D;rw[I]at U;omega
 refine⟨y0z,λk hk=>?_,⟨λ_=>0,rfl,λy M n h=>by rw[I]at h;omega,⟨λy M n h=>by rw[I]at h;omega,λy M n m h O=>by rw[I]at O;omega⟩,λi D=>absurd D (J i)⟩,λi D=>absurd D (J i),(by intro i D;cases D),⟨(by intro c Z;cases Z),by simp[start]⟩⟩;have:start.ys.getD k yn0=yn0:=by
  simp only[start,List.getD,List.getElem?_replicate];split<;>rfl
 rw[this];exact⟨(by intro q hq;cases hq),(by intro h;cases h)⟩
theorem x0l {p:MSt}{y:Int}{q:Yn}(h:MVal p)(D:MInv (p.setY y q))(M:1<=y/\y<=6)(J:YnV p.tb q):MVal (p.setY y q):=by
 have hl:(y-1).toNat<p.ys.length:=by rw[h.inv.ly];omega
 refine⟨D,λk I=>?_,h.tab,h.once,h.fa,h.cr⟩;show YnV p.tb ((p.ys.set (y-1).toNat q).getD k yn0);rw[z1j hl];split;exact J;exact h.yv k I
theorem j1w {p:MSt}(h:MVal p){y:Int}(D:1<=y/\y<=6):YnV p.tb (p.y y):=h.yv (y-1).toNat (by omega)
theorem go_v {T:Tb}{y:Yn}{D:Int}{l:List Pa}(h:YnV T y)(hl:∀q∈l,z4e T q.id):YnV T (goS y D l):=⟨x1x h.1 hl,h.2⟩
theorem x4i {p q:MSt}{y M en:Int}(h:MVal p)(D:1<=y/\y<=6)(e:y0g p y M en=.ok q):MVal q/\q.B=p.B/\q.rk=p.rk:=by
 have I:=y1m h.inv D e;refine⟨?_,I.2⟩;unfold y0g at e;split at e;cases e;cases e;exact x0l h I.1 D (go_v (j1w h D) λq J=>h.inv.has _ (u8y J))
theorem v5s {p q:MSt}{o:MOp}{th st:List LId}(h:MVal p)(I:MInv q)(hy:1<=o.y/\o.y<=6)(hn:z4q o.b o.p=0)(hs:th++st=p.B.at o.b o.p)(h4:th.length<=4)(e:y3w p o th st=.ok q):MVal q:=by
 unfold y3w at e;split at e;cases e;rename_i hm;split at e;cases e;cases e;have hm:=Classical.not_not.1 hm;obtain⟨j,hj,a8⟩:∃j:Nat,j<6/\o.y=(j:Int)+1:=⟨(o.y-1).toNat,by omega,by omega⟩;have M:(o.y-1).toNat=j:=by omega
 have D:=h.inv.yn j hj;have b0:p.y o.y=p.ys.getD j yn0:=by unfold MSt.y;rw[M]
 rw[<-b0]at D;have a3:=j1w h hy;have a6:j<p.ys.length:=by rw[h.inv.ly];exact hj
 have a5:j<p.tb.length:=by rw[h.inv.lt];exact hj
 have a0:(p.y o.y).inn=true:=by
  unfold mkE at hm;split at hm;exact absurd hm (by assumption);split at hm;omega;rename_i k;simpa using k
 have O:=D.1.2;rw[if_pos a0]at O;have a1:p.row o.y=p.tb.getD j []:=by unfold MSt.row;rw[M]
 simp only[M,a1]at I ⊢;obtain⟨rk,ht⟩:=h.tab;have h6:=h.inv.lt;have a2:∀i∈th,z4e p.tb i:=λi I=>h.inv.has i (y0f (b:=o.b) (n:=o.p) (by rw[<-hs];exact List.mem_append_left _ I));have a9:y4v p.tb ⟨o.b,(p.y o.y).nw,th,(p.y o.y).pe⟩:=by
  refine⟨(z3k hn).1,⟨h4,O.2.1⟩,λi I=>?_,v3r O.2.2,u4r O.2.2⟩;rcases List.mem_append.1 I with k|k
  exact a2 i k;obtain⟨q,hq,rfl⟩:=List.mem_map.1 k;exact a3.1 q hq
 have Z:∀ {l:Lp} (i:LId),z4e p.tb i->z4e (p.tb.set j (p.tb.getD j []++[l])) i:=λi I=>(y3u h6 hj).2 (.inl I);refine⟨I,λk hk=>?_,⟨_,ht.add hj a9 (λe0=>a3.2 a0 (by rw[D.2,e0];rfl))⟩,λi I=>?_,λi I=>Z i (h.fa i I),h.cr.mono Z⟩;show YnV (p.tb.set j _) ((p.ys.set j (mkS (p.y o.y))).getD k yn0);rw[z1j a6];split;refine⟨(by intro q hq;cases hq),λ_ h0=>?_⟩;have h1:(p.y o.y).ct+1=0:=h0;have:=D.1.1;omega;exact⟨λq hq=>Z _ ((h.yv k hk).1 q hq),(h.yv k hk).2⟩;show ((p.B.put o.b o.p (st++[⟨o.y,(p.y o.y).ct⟩])).flat++p.fa++y1c (p.tb.set j (p.tb.getD j []++[_]))).count i=1;rw[List.count_append,List.count_append,u2e a5];have h1:=z4g p.B hn (st++[⟨o.y,(p.y o.y).ct⟩]) i;have h2:th.count i+st.count i=(p.B.at o.b o.p).count i:=by rw[<-hs,List.count_append]
 rw[List.count_append,List.count_singleton]at h1;dsimp only;rcases(y3u h6 hj).1 I with k|k
 have h3:=h.once i k;rw[List.count_append,List.count_append]at h3;have a7:¬((⟨o.y,(p.y o.y).ct⟩:LId) == i)=true:=by
  intro ee;have ee:(⟨o.y,(p.y o.y).ct⟩:LId)=i:=by simpa using ee
  obtain⟨_,_,_,U⟩:=k;rw[<-ee]at U;simp only at U;rw[M,D.2]at U;omega
 rw[if_neg a7]at h1;omega;have J:¬z4e p.tb i:=λU=>by
  rw[k]at U;obtain⟨_,_,_,U⟩:=U;simp only at U;rw[show ((j:Int)+1-1).toNat=j by omega]at U;omega
 have z1:p.B.flat.count i=0:=List.count_eq_zero.2 λz=>J (h.inv.has i z);have z2:p.fa.count i=0:=List.count_eq_zero.2 λz=>J (h.fa i z);have z3:(y1c p.tb).count i=0:=List.count_eq_zero.2 λz=>J (x7s ht z);have z4:th.count i=0:=List.count_eq_zero.2 λz=>J (a2 i z);have z5:(p.B.at o.b o.p).count i=0:=List.count_eq_zero.2 λz=>J (h.inv.has i (y0f z));have a4:((⟨o.y,(p.y o.y).ct⟩:LId) == i)=true:=by rw[k,D.2,a8];simp
 rw[if_pos a4]at h1;omega
theorem y6w {p:MSt}{d:Int}:∀ {l l':List Yn},z4t p d l=.ok l'->MVal p->∀k,YnV p.tb (l.getD k yn0)->YnV p.tb (l'.getD k yn0)
 | [],l',e,_,k,hk=>by cases e;exact hk
 | y::l,l',e,h,k,hk=>by
  unfold z4t at e
  split at e
  ·cases e
  rename_i M D
  split at e
  ·cases e
  rename_i J hl
  cases e
  cases k with
  | succ k=>simpa only[List.getD_cons_succ] using y6w hl h k (by simpa only[List.getD_cons_succ] using hk)
  | zero=>
   simp only[List.getD_cons_zero]at hk ⊢
   unfold z7g at D
   split at D
   ·cases D;exact hk
   split at D
   ·cases D
   cases D
   exact go_v hk λq I=>h.inv.has _ (v5a I)
theorem v7e {p q:MSt}{d:Int}(h:MVal p)(M:-4<=p.rk+stI d/\p.rk+stI d<=4)(e:z8j p d=.ok q):MVal q:=by
 have O:=(x0c h.inv M e).1;unfold z8j at e;split at e;cases e;rename_i ys I;split at e;cases e;rename_i cr D;cases e;refine⟨O,λk U=>y6w I h k (h.yv k U),h.tab,h.once,h.fa,h.cr.adds (λc J=>?_) D⟩;obtain⟨Z,k2,k3,_⟩:=v1w h.inv.B.nd J;exact⟨h.inv.has _ Z,h.inv.has _ k2,k3⟩
theorem x1d {r:Int}(J:-4<=r/\r<=4):∀ {n:Nat} {p q:MSt},MVal p->z6m n p r=.ok q->MVal q
 | 0,p,q,h,e=>by cases e;exact h
 | n+1,p,q,h,e=>by
  unfold z6m at e
  split at e
  ·cases e;exact h
  rename_i I
  split at e
  ·cases e
  rename_i O D
  have M:=h.inv.rk
  refine x1d J (v7e h ?_ D) e
  unfold stI
  split<;>split<;>omega
theorem u0a {p q:MSt}{o:MOp}(h:MVal p)(hi:MInv q)(hn:z4q o.b o.p=0)(e:z9y p o=.ok q):MVal q:=by
 unfold z9y at e;split at e;cases e;split at e;cases e;rename_i D;have D:=Classical.not_not.1 D;split at e;cases e;split at e;cases e;cases e;refine⟨hi,h.yv,h.tab,λi Z=>?_,h.fa,h.cr⟩;have U:=(z3k hn).1;have hc:=y5v (p:=p) (o:=o) U i;have I:(p.B.put o.b o.p []).at (1-o.b) (z7t o.b o.p p.rk)=p.B.at (1-o.b) (z7t o.b o.p p.rk):=by
  rw[v1y p.B hn D,if_neg (by omega)]
 have J:=z4g p.B hn [] i;have M:=z4g (p.B.put o.b o.p []) D (y0t p o) i;have O:=h.once i Z;rw[I]at M;show (((p.B.put o.b o.p []).put (1-o.b) (z7t o.b o.p p.rk) (y0t p o)).flat++p.fa++y1c p.tb).count i=1;simp only[List.count_append]at O ⊢;simp only[List.count_nil]at J;omega
theorem u2l {p q:MSt}{o:MOp}(h:MVal p)(M:MInv q)(hn:z4q o.b o.p=0)(e:y5p p o=.ok q):MVal q:=by
 unfold y5p at e;split at e;cases e;cases e;refine⟨M,h.yv,h.tab,λi D=>?_,λi D=>?_,h.cr⟩;have I:=z4g p.B hn [] i;have J:=h.once i D;show ((p.B.put o.b o.p []).flat++(p.fa++p.B.at o.b o.p)++y1c p.tb).count i=1;simp only[List.count_append]at J ⊢;simp only[List.count_nil]at I;omega;rcases List.mem_append.1 D with k|k
 exact h.fa i k;exact h.inv.has i (y0f k)
theorem u4d {p q:MSt}{o:MOp}(h:MVal p)(e:doM p o=.ok q):MVal q:=by
 have I:=x8f h.inv e;unfold doM at e;split at e;cases e;rename_i hc;obtain⟨_,h1,J,h3,M,h5⟩:=y5e (Classical.not_not.1 hc);unfold opM at e;split at e;have D:=J (by omega);unfold inM at e;split at e;cases e;cases e;exact x0l h I D ⟨(by intro q U;cases U),λ_ _=>rfl⟩;split at e;have D:=J (by omega);unfold v0s at e;split at e;cases e;cases e;exact x0l h I D ⟨(by intro q U;cases U),(by intro k;cases k)⟩;split at e;exact x1d (h5 (by omega)) h e;split at e;have D:=J (by omega);have O:=M (by omega);unfold y3c at e;split at e;cases e;split at e;cases e;rename_i r Z;obtain⟨v1,v2,v3⟩:=x4i h D Z;exact v5s v1 I D O (by simp) (y4o v1.inv.B _ _) e;split at e;have D:=J (by omega);have O:=M (by omega);unfold y2e at e;split at e;cases e;split at e;cases e;rename_i r Z;obtain⟨v1,v2,v3⟩:=x4i h D Z;split at e;cases e;exact v5s v1 I D O (by simp) (by simp) e;split at e;have D:=J (by omega);unfold y6n at e;split at e;cases e;exact(x4i h D e).1;split at e;exact u0a h I (M (by omega)) e;exact u2l h I (M (by omega)) e
theorem y2d:∀ {l:List MOp} {i:Nat} {p q:MSt},MVal p->z4c i p l=.ok q->MVal q
 | [],i,p,q,h,e=>by cases e;exact h
 | o::l,i,p,q,h,e=>by
  unfold z4c at e
  split at e
  ·cases e
  rename_i I D
  exact y2d (u4d h D) e
structure StQ where
  rk:Int
  q:BdQ
  yv:SV
  ys:List YQ
  fb:FbQ
abbrev stL (s:StQ):List Value:=[.int .i64 s.rk,.slice s.q.f.1 s.q.f.2.1 s.q.f.2.2,.slice s.q.b.1 s.q.b.2.1 s.q.b.2.2,.slice s.yv.1 s.yv.2.1 s.yv.2.2,.slice s.fb.t.1 s.fb.t.2.1 s.fb.t.2.2,.slice s.fb.c.1 s.fb.c.2.1 s.fb.c.2.2,.slice s.fb.h.1 s.fb.h.2.1 s.fb.h.2.2,.slice s.fb.f.1 s.fb.f.2.1 s.fb.f.2.2]
structure St where
  rk:Int
  B:Bd
  ys:List Yn
  fb:Fb
abbrev StQ.p (s:StQ):St:=⟨s.rk,s.q.p,s.ys.map YQ.p,s.fb.p⟩
def YsA (w:World)(ys:List YQ):Prop:=∀i,Sl z1r w (slv (ys.getD i yq0).pe) (ys.getD i yq0).pes
theorem YsA.ext {w w':World}{ys:List YQ}(h:YsA w ys)(hf:Fr [] w w'):YsA w' ys:=λi=>(h i).ext hf
structure StAt (w:World) (s:StQ):Prop where
  b:BdAt w s.q
  y:Sl z2r w (slv s.yv) s.ys
  ya:YsA w s.ys
  f:FbAt w s.fb
theorem StAt.ext {w w':World}{s:StQ}(h:StAt w s)(hf:Fr [] w w'):StAt w' s:=⟨h.b.ext hf,h.y.ext hf,h.ya.ext hf,h.f.ext hf⟩
theorem u0i {κ:Type}[DecidableEq κ]{V:κ->Value}{w:World}{g:Nat}(h:MapF V w g λ_=>none):MapL V w g []:=by
 obtain⟨J,c,m,M,O,U⟩:=h;have D:m=[]:=by
  cases m with
  | nil=>rfl
  | cons p m=>have:=U p.1;simp[z2k]at this
 subst D;have I:J.toList=[]:=List.map_eq_nil_iff.1 O;refine⟨J,c,M,by rw[I];rfl,by simp,by rw[I];simp,λe D=>by rw[I]at D;cases D⟩
theorem x3e {κ:Type}[DecidableEq κ]{m:List (κ×Value)}{k:κ}{v:Value}(h:k∉m.map (·.1)):z3x m k v=m++[(k,v)]:=by
 unfold z3x;have:(m.map (·.1)).findIdx? (λx=>decide (k=x))=none:=by
  rw[List.findIdx?_eq_none_iff];intro x D;have:k≠x:=λe=>h (e▸D);simpa using this
 rw[this]
abbrev cxK (c:Cx):LId×LId:=(c.a,c.b)
theorem y9s (l:List Cx):(crM l).map (·.1)=l.map cxK:=by unfold crM;rw[List.map_map];rfl
theorem v9y {l:List Cx}{i:Nat}(hn:(l.map cxK).Nodup)(I:i<l.length):z3x (crM (l.take i)) (cxK (l.getD i cx0)) (.int .i64 (l.getD i cx0).n)=crM (l.take (i+1)):=by
 have e:l.take (i+1)=l.take i++[l.getD i cx0]:=by rw[List.take_add_one,List.getD,List.getElem?_eq_getElem I];rfl
 rw[x3e,e];unfold crM;rw[List.map_append];rfl;rw[y9s];intro J;have D:(((l.take i)++[l.getD i cx0]).map cxK).Nodup:=by
  rw[<-e];exact List.Nodup.sublist (List.Sublist.map _ (List.take_sublist _ _)) hn
 rw[List.map_append]at D;exact(List.nodup_append.1 D).2.2 _ J _ (List.mem_singleton.2 rfl) rfl
theorem y6v {τ:TyK}{Mt:Nat}{w0 w:World}{s:StQ}{fs bs:List IQ}{U O gy gt M Z I:Nat}{ps:List YQ}{us:List TQ}
    (hk:Blk w Z Mt [.int .i64 s.rk,.slice (some ⟨U,0,none⟩) fs.length fs.length,.slice (some ⟨O,0,none⟩) bs.length bs.length,.slice (some ⟨gy,0,none⟩) s.ys.length s.ys.length,.slice (some ⟨gt,0,none⟩) s.fb.ts.length s.fb.ts.length,.map (some M),.slice (some ⟨I,0,none⟩) s.fb.fs.length s.fb.fs.length])
    (hF:RwO τ.S τ.I w0.heap.size w (.slice (some ⟨U,0,none⟩) fs.length fs.length) fs) (hB:RwO τ.S τ.I w0.heap.size w (.slice (some ⟨O,0,none⟩) bs.length bs.length) bs)
    (hY:YsO τ w0.heap.size w (.slice (some ⟨gy,0,none⟩) s.ys.length s.ys.length) ps) (hpl:ps.length=s.ys.length) (hpm:ps.map YQ.p=s.ys.map YQ.p)
    (hT:TbO τ w0.heap.size w (.slice (some ⟨gt,0,none⟩) s.fb.ts.length s.fb.ts.length) us) (hul:us.length=s.fb.ts.length) (htm:z2a us=z2a s.fb.ts)
    (hm:MapF crK w M λ_=>none) (hf:Lw.Own z1k τ.I w0.heap.size w (.slice (some ⟨I,0,none⟩) s.fb.fs.length s.fb.fs.length) s.fb.fs) (hly:s.ys.length=6) (hlt:s.fb.ts.length=6)
    (hfr:Fr [] w0 w) (hgc:w0.heap.size<=M) (hgk:w0.heap.size<=Z) (hfb:∀x∈fs++bs,I∉z0x (slv x.1)) (hft:∀i,i<6->∀q∈(us.getD i tq0).2,I∉z0x (slv q.th)) (hpF:plB fs=trimB (plB s.q.fs)) (hpB:plB bs=trimB (plB s.q.bs)) :
    ∃m:MQ,MkM τ Mt w0 ⟨Z,gy,6,gt,6,M,w⟩ w m/\m.p=⟨s.rk,⟨trimB (plB s.q.fs),trimB (plB s.q.bs)⟩,s.ys.map YQ.p,z2a s.fb.ts,[],s.fb.fs⟩:=by
  refine⟨⟨s.rk,⟨(some ⟨U,0,none⟩,fs.length,fs.length),(some ⟨O,0,none⟩,bs.length,bs.length),fs,bs⟩,ps,us,[],(some ⟨I,0,none⟩,s.fb.fs.length,s.fb.fs.length),s.fb.fs⟩,⟨?_,⟨hF,hB⟩,?_,?_,u0i hm,hf,λx hx k D J=>?_,λi hi q hq k D J=>?_,by rw[hpl,hly],by rw[hul,hlt],hgk,hgc,⟨hfr,KpM.refl _ _ _⟩⟩,?_⟩
  · rw[hly,hlt]at hk;exact hk
  · rw[hly]at hY;exact hY
  · rw[hlt]at hT;exact hT
  · simp[z0x,slv]at J;subst J;exact hfb x hx D
  · simp[z0x,slv]at J;subst J;exact hft i hi q hq D
  · show (⟨s.rk,⟨plB fs,plB bs⟩,ps.map YQ.p,z2a us,[],s.fb.fs⟩:MSt)=_
    rw[hpF,hpB,hpm,htm]
end Go.G08
namespace Go.G08
open Go.Lw Go.G21 Go.Proofs Go.Sort
theorem u6v (X:World)(o:Obj)(b:Nat)(h:X.heap.size=b):(X.alloc o).drew.heap[b]?=some o:=by subst h;show (X.heap.push o)[X.heap.size]?=some o;simp
theorem j6i (X:World)(o:Obj)(b:Nat)(h:X.heap.size=b):(X.alloc o).heap[b]?=some o:=by subst h;show (X.heap.push o)[X.heap.size]?=some o;simp
def DG (w w':World):Prop:=∃q os',w'=grow (w.drewN q) os'
theorem DG.refl (w:World):DG w w:=⟨0,#[],by rw[grow_empty];rfl⟩
theorem DG.alloc {w w':World}(h:DG w w')(o:Obj):DG w (w'.alloc o):=by
 obtain⟨q,D,rfl⟩:=h;exact⟨q,D++#[o],by rw[alloc_eq_grow,grow_grow]⟩
theorem DG.drew {w w':World}(h:DG w w'):DG w w'.drew:=by
 obtain⟨q,D,rfl⟩:=h;exact⟨q+1,D,rfl⟩
theorem DG.trans {a b c:World}(h:DG a b)(I:DG b c):DG a c:=by
 obtain⟨q,J,rfl⟩:=h;obtain⟨M,D,rfl⟩:=I;exact⟨q+M,J++D,by rw[<-grow_grow];unfold grow World.drewN;simp[Nat.add_assoc]⟩
theorem DG.cell {w w':World}(h:DG w w'){p:Addr}{v:Value}(hb:w.cell? p=some v):w'.cell? p=some v:=by
 obtain⟨q,D,rfl⟩:=h;have hl:=block_lt_of_cell hb;refine(World.cell?_of_block (w:=w) ?_).trans hb;show (w.heap++D)[p.block]?=_;rw[Array.getElem?_append_left hl]
theorem j3a {X:World}{b T:Nat}{x y:Int}(h:X.heap[b]?=some (.cells #[.int .i64 x,.int .i64 y] T (0,0))):Sl Enc.i64 X (.slice (some ⟨b,0,none⟩) 2 2) [x,y]:=
 Lw.Own.sl (E:=Enc.i64) (T:=T) (base:=b) (.inr ⟨b,2,_,rfl,Nat.le_refl _,h,Nat.le_refl _,by decide,Nat.le_refl 2,rfl⟩)
def x0x (x y:Cx):Int:=if z7c x.a y.a≠0 then z7c x.a y.a else z7c x.b y.b
abbrev j0m (c:Cx):Value:=.agg #[.int .u8 c.a.y,.int .i64 c.a.n,.int .u8 c.b.y,.int .i64 c.b.n,.int .i64 c.n]
section
variable {α:Type} [Inhabited α] (E:Enc α)
theorem y7a (ys:Array α):(flatK E.enc E.sz ys).toList=ys.toList.flatMap E.enc:=by
 refine List.ext_getElem? λt=>?_;have O:=E.pos;by_cases ht:t<ys.size*E.sz;have M:t / E.sz<ys.size:=Nat.div_lt_of_lt_mul (by rw[Nat.mul_comm];exact ht);have D:t % E.sz<E.sz:=Nat.mod_lt _ O;have I:=get_flatK E.enc E.sz ys t ht;have J:=E.flat_get ys.toList (t / E.sz) ys[t / E.sz] (by simp[M]) (t % E.sz) D;rw[show t / E.sz*E.sz+t % E.sz=t by rw[Nat.mul_comm];exact Nat.div_add_mod t E.sz]at J;rw[J,Array.getElem?_toList];rw[getElem!_pos (flatK E.enc E.sz ys) t (by simpa using ht),getElem!_pos ys (t / E.sz) M,getElem!_pos (E.enc ys[t / E.sz]) (t % E.sz) (by rw[E.len];exact D)]at I;rw[Array.getElem?_eq_getElem (by simpa using ht),I,List.getElem?_eq_getElem (by rw[E.len];exact D)];rw[List.getElem?_eq_none (by simp;omega),List.getElem?_eq_none (by rw[E.flat_len];simp;omega)]
variable {E} {w:World} {g T cap base:Nat} {cur:Array Value}
theorem v6k {ys:List α}(h:w.heap[g]?=some (.cells cur T (0,0)))(O:ys.length*E.sz<=cur.size)(M:cur.toList.take (ys.length*E.sz)=ys.flatMap E.enc):HoldsK E.enc E.sz w g 0 ys.toArray:=by
 intro j I;have J:j<ys.length*E.sz:=by simpa using I
 have e:=y7a E ys.toArray;rw[<-show cur.toList.take (ys.length*E.sz)=ys.toArray.toList.flatMap E.enc from M]at e;have D:=congrArg (λl:List Value=>l[j]?) e;simp only[Array.getElem?_toList,List.getElem?_take,J,if_true]at D;constructor;rw[Nat.zero_add,getElem!_pos _ j I];rw[Array.getElem?_eq_getElem I]at D;simp only[World.cell?,h];exact D.symm;simp only[World.frozen?,h];simp
theorem v9c {ys:List α}(h:w.heap[g]?=some (.cells cur T (0,0)))(hs:ys.length*E.sz<=cur.size)(hb:base<=g)(Z:ys.length<=cap)(hM:cap<=maxLen)(M:cap*E.sz<=cur.size)(d:Array α)(I:d.size=ys.length)(n:Nat)(J:Array Obj) :
    Lw.Own E T base (sortWorldK E.enc E.sz w g 0 n d J) (.slice (some ⟨g,0,none⟩) ys.length cap) d.toList/\Fr [g] w (sortWorldK E.enc E.sz w g 0 n d J):=by
  have hg:g<w.heap.size:=(Array.getElem?_eq_some_iff.1 h).1
  have D:∀k,k<w.heap.size->(sortWorldK E.enc E.sz w g 0 n d J).heap[k]?=(w.heap.modify g (onCells (putCells id 0 (flatK E.enc E.sz d))))[k]?:=λk U=>by
    show ((w.heap.modify g _)++J)[k]?=_
    rw[Array.getElem?_append_left (by simpa using U)]
  refine⟨.inr ⟨g,cap,putCells id 0 (flatK E.enc E.sz d) cur,by rw[show d.toList.length=ys.length by simpa using I],hb,?_,by simpa[I] using Z,hM,by simpa[putCells] using M,?_⟩,rfl,rfl,rfl,?_,λk U hn=>?_⟩
  · rw[D g hg,Array.getElem?_modify,if_pos rfl,h];rfl
  · rw[<-y7a E d]
    refine List.ext_getElem? λt=>?_
    have O:d.toList.length=ys.length:=by simpa using I
    rw[List.getElem?_take,O]
    by_cases ht:t<ys.length*E.sz
    · rw[if_pos ht,Array.getElem?_toList,Array.getElem?_toList]
      unfold putCells
      rw[Array.getElem?_mapIdx,Array.getElem?_eq_getElem (show t<cur.size by omega),Array.getElem?_eq_getElem (show t<(flatK E.enc E.sz d).size by simpa[I] using ht)]
      simp only[Option.map_some,Nat.zero_le,Nat.zero_add,true_and,Nat.sub_zero,id]
      rw[if_pos (by simpa[I] using ht),getElem!_pos _ t (by simpa[I] using ht)]
    · rw[if_neg ht,List.getElem?_eq_none (by simp[I];omega)]
  · show w.heap.size<=((w.heap.modify g _)++J).size
    simp
  · rw[D k U,Array.getElem?_modify,if_neg (λe=>hn (by simp[e]))]
open Go.Shelf in
theorem x8i {P:Program}{ρ:Ren}(L:SlLaysF0.n6 P ρ){f cl:Nat}(hf:ρ.f 6=f)(aE:∀w,(isAgg (ρ.t 24)).run P w=.ok true w)(zE:∀w,(Go.sizeOf (ρ.t 24)).run P w=.ok E.sz w)(cf:α->α->Int)(hO:SWO (ltOf cf))
    (eg:∀D w,(callFunc cl D).run P w=.ok (.enter cl D) w)
    (hcmp:∀x y W,Calls P cl #[.agg (E.enc x).toArray,.agg (E.enc y).toArray] W λe w'=>e=.returned (.int .i64 (cf x y))/\DG W w')
    (hnil:∀W,Calls P f #[.slice none 0 0,.func (.func cl) #[] #[]] W λe w'=>e=.returned (.tuple #[])/\Fr [] W w')
    {v:Value} {ys:List α} (ho:Lw.Own E T base w v ys) (hl:ys.length<4611686018427387904):Rets P f #[v,.func (.func cl) #[] #[]] w λr w'=>r=.tuple #[]/\∃ys',ys'.Perm ys/\ys'.Pairwise (λa b=>¬cf b a<0)/\Lw.Own E T base w' v ys'/\Fr (z0x v) w w':=by
  subst hf
  rcases ho with ⟨rfl,rfl⟩|⟨g,cap,cur,rfl,h2,J,h4,h5,h6,h7⟩
  · exact Calls.mono (hnil w) (by rintro e w' ⟨rfl,h⟩;exact⟨_,rfl,rfl,[],.refl _,.nil,Lw.Own.nil _,h.weak (by simp)⟩)
  · have hs:ys.length*E.sz<=cur.size:=Nat.le_trans (Nat.mul_le_mul_right _ h4) h6
    have h:=AnyQ.slices_SortFunc L E.sz aE zE E.enc E.len E.one cf hO cl #[] g 0 cap ys.toArray w eg (λm os dk _ x y=>hcmp x y _) (v6k J hs h7) (Array.getElem?_eq_some_iff.1 J).1 (by simpa using hl)
    rw[show ys.toArray.size=ys.length by simp]at h
    refine Calls.mono h ?_
    rintro e w' ⟨rfl,I,n,os,hp,a0,rfl⟩
    have M:I.size=ys.length:=by simpa using hp.1
    obtain⟨k1,k2⟩:=v9c (base:=base) J hs h2 h4 h5 h6 I M n os
    refine⟨_,rfl,rfl,I.toList,?_,?_,k1,by simpa[z0x] using k2⟩
    · have:=hp.2.2
      simp[M]at this
      rwa [List.take_of_length_le (by simpa using Nat.le_of_eq M)]at this
    · rw[List.pairwise_iff_getElem]
      intro i j hi hj U
      have O:i<I.size:=by simpa using hi
      have Z:j<I.size:=by simpa using hj
      have:=a0 i j (Nat.zero_le _) U (by omega)
      rw[getElem!_pos I i O,getElem!_pos I j Z]at this
      simpa[ltOf] using this
end
theorem y0c {x y:Cx}:x0x x y<0↔(x.a.y<y.a.y\/x.a.y=y.a.y/\x.a.n<y.a.n)\/(x.a.y=y.a.y/\x.a.n=y.a.n)/\(x.b.y<y.b.y\/x.b.y=y.b.y/\x.b.n<y.b.n):=by
 unfold x0x;have e:z7c x.a y.a=0↔x.a.y=y.a.y/\x.a.n=y.a.n:=by rw[y4r];obtain⟨⟨_,_⟩,_,_⟩:=x;obtain⟨⟨_,_⟩,_,_⟩:=y;simp
 split;rename_i h;rw[z6z];rw[Ne,e]at h;omega;rename_i h;rw[Decidable.not_not,e]at h;rw[z6z];omega
theorem swoI:SWO (ltOf z7c):=by
 constructor;intro x;simp only[ltOf,decide_eq_false_iff_not,z6z];omega;intro x y z;simp only[ltOf,decide_eq_true_eq,z6z];omega;intro x y z;simp only[ltOf,decide_eq_false_iff_not,z6z];omega
theorem swoX:SWO (ltOf x0x):=by
 constructor;intro x;simp only[ltOf,decide_eq_false_iff_not,y0c];omega;intro x y z;simp only[ltOf,decide_eq_true_eq,y0c];omega;intro x y z;simp only[ltOf,decide_eq_false_iff_not,y0c];omega
def z9s (l:List LId):List LId:=l.mergeSort λa b=>decide (¬z7c b a<0)
def z9z (l:List Cx):List Cx:=l.mergeSort λa b=>decide (¬x0x b a<0)
theorem z2v (l:List LId):(z9s l).Perm l:=List.mergeSort_perm ..
theorem z2q (l:List Cx):(z9z l).Perm l:=List.mergeSort_perm ..
theorem y8f (l:List LId):(z9s l).Pairwise λa b=>¬z7c b a<0:=
 (List.pairwise_mergeSort (le:=λa b=>decide (¬z7c b a<0)) (λa b c=>by simp only[decide_eq_true_eq,z6z];omega) (λa b=>by simp only[Bool.or_eq_true,decide_eq_true_eq,z6z];omega) l).imp (by simp)
theorem y3s (l:List Cx):(z9z l).Pairwise λa b=>¬x0x b a<0:=
 (List.pairwise_mergeSort (le:=λa b=>decide (¬x0x b a<0)) (λa b c=>by simp only[decide_eq_true_eq,y0c];omega) (λa b=>by simp only[Bool.or_eq_true,decide_eq_true_eq,y0c];omega) l).imp (by simp)
theorem v0x {l l':List LId}(hp:l'.Perm l)(J:l'.Pairwise λa b=>¬z7c b a<0):l'=z9s l:=by
 refine List.Perm.eq_of_pairwise (λa b _ _ D I=>?_) J (y8f l) (hp.trans (z2v l).symm);rw[z6z]at D I;obtain⟨_,_⟩:=a;obtain⟨_,_⟩:=b;simp only at D I;rw[LId.mk.injEq];omega
theorem x4x {l l':List Cx}(hn:(l.map λc=>(c.a,c.b)).Nodup)(hp:l'.Perm l)(hs:l'.Pairwise λa b=>¬x0x b a<0):l'=z9z l:=by
 refine List.Perm.eq_of_pairwise (λa b ha hb M O=>?_) hs (y3s l) (hp.trans (z2q l).symm);have I:=hp.mem_iff.1 ha;have J:=(z2q l).mem_iff.1 hb;have hk:(a.a,a.b)=(b.a,b.b):=by
  rw[y0c]at M O;obtain⟨⟨_,_⟩,⟨_,_⟩,_⟩:=a;obtain⟨⟨_,_⟩,⟨_,_⟩,_⟩:=b;simp only at M O;simp only[Prod.mk.injEq,LId.mk.injEq];omega
 have D:=List.pairwise_iff_getElem.1 (List.pairwise_map.1 hn);obtain⟨i,U,rfl⟩:=List.getElem_of_mem I;obtain⟨j,Z,rfl⟩:=List.getElem_of_mem J;rcases Nat.lt_trichotomy i j with h|h|h
 exact absurd hk (D i j U Z h);subst h;rfl;exact absurd hk.symm (D j i Z U h)
end Go.G08
namespace Go.Lw
section
variable {P:Program} {ops:Array Oper} {Q:Exit->Act->World->Prop} {rest:List Oper} {n:Nat} {ds:List Nat} {L:List (Nat×Value)} {w:World} {d:Nat} {x:Operand} {t K E g ty:Nat} {pos:String} {after:Array Edge} {κ:Type} [DecidableEq κ] {V:κ->Value} {m:List (κ×Value)}
theorem j3w (U:ev L x=some (.map (some g)))(M:MapL V w g m)(O:P.underlying t=some (.map K E))(hn:Nat.blt d n=true)(q:WL P ops Q rest n ds w ((d,.int .i64 (m.length:Int))::L)):WL P ops Q (⟨some d,.call ⟨.builtin .len,#[x],#[t]⟩,ty,pos,after,none⟩::rest) n ds w L:=λa h=>by
 obtain⟨D,c,I,J,_⟩:=M
 have hl:D.size=m.length:=by have:=congrArg List.length J;simpa using this
 refine z1t h rfl rfl hn (w':=w) (v:=.int .i64 (m.length:Int)) ?_ q
 rw[z1z];unfold builtin
 simp[h.eval U,Builtin.len_,run_underlying O,z2l I,hl]
 rfl
theorem MapIt.no {gi:Nat}{rem:List (κ×Value)}{cur:Option (κ×Value)}(h:MapIt V w gi g m rem cur):MapIt V w gi g m rem none:=by
 obtain⟨I,c,D,M,O,U,Z,k5,k6,_⟩:=h;exact⟨I,c,D,M,O,U,Z,k5,k6,λp J=>by cases J⟩
end
end Go.Lw
namespace Go.G08
open Go.Lw Go.G21
theorem u6o (a b:List Cx):crM (a++b)=crM a++crM b:=by unfold crM;rw[List.map_append]
theorem v3w {l:List Cx}{r1 r2:List ((LId×LId)×Value)}{p:(LId×LId)×Value}(h:crM l=r1++p::r2):∃D c I,l=D++c::I/\r1=crM D/\p=((c.a,c.b),.int .i64 c.n)/\r2=crM I:=by
 unfold crM at h;obtain⟨D,l',rfl,J,M⟩:=List.map_eq_append_iff.1 h;obtain⟨c,I,rfl,O,U⟩:=List.map_eq_cons_iff.1 M;exact⟨D,c,I,rfl,J.symm,O.symm,U.symm⟩
section
variable {P:Program} {ops:Array Oper} {Q:Exit->Act->World->Prop} {rest:List Oper} {n:Nat} {ds:List Nat} {L:List (Nat×Value)} {w:World} {d:Nat} {x:Operand} {t g gi ty:Nat} {pos:String} {after:Array Edge} {em:List ((LId×LId)×Value)} {rem:List Cx}
def CrIt (w:World)(gi g:Nat)(em:List ((LId×LId)×Value))(rem:List Cx)(cur:Option Cx):Prop:=MapIt crK w gi g em (crM rem) (cur.map λc=>((c.a,c.b),.int .i64 c.n))
theorem CrIt.fr {w':World}{S:List Nat}{cur:Option Cx}(h:CrIt w gi g em rem cur)(hf:Fr S w w')(hn:∀k∈S,k≠g/\k≠gi):CrIt w' gi g em rem cur:=MapIt.fr h hf (λe=>(hn g e).1 rfl) (λe=>(hn gi e).2 rfl)
theorem CrIt.ext {w':World}{cur:Option Cx}(h:CrIt w gi g em rem cur)(hf:Fr [] w w'):CrIt w' gi g em rem cur:=h.fr hf (by simp)
theorem CrIt.no {cur:Option Cx}(h:CrIt w gi g em rem cur):CrIt w gi g em rem none:=MapIt.no h
theorem CrIt.lt {cur:Option Cx}(h:CrIt w gi g em rem cur):gi<w.heap.size:=MapIt.lt h
theorem CrIt.neO {α:Type}{E:Enc α}{T base:Nat}{v:Value}{ys:List α}{cur:Option Cx}(h:CrIt w gi g em rem cur)(O:Lw.Own E T base w v ys):∀k∈z0x v,k≠g/\k≠gi:=λk I=>by
 obtain⟨es,c,M,U,_,_,_,Z,_⟩:=h
 rcases O with ⟨rfl,_⟩|⟨g',cap,J,rfl,_,D,_⟩
 ·simp[z0x]at I
 simp only[z0x,List.mem_singleton]at I
 subst I
 exact⟨λe=>(by rw[e,U]at D;cases D),λe=>(by rw[e,Z]at D;cases D)⟩
theorem u1c {K E:Nat}{l:List Cx}(J:ev L x=some (.map (some g)))(D:MapL crK w g (crM l))(I:P.underlying t=some (.map K E))(hn:Nat.blt d n=true)
 (q:∀gi w',gi=w.heap.size->CrIt w' gi g (crM l) l none->Fr [] w w'->w'.heap.size=gi+1->WL P ops Q rest n ds w' ((d,.pointer (some ⟨gi,0,none⟩))::L)):WL P ops Q (⟨some d,.range t x,ty,pos,after,none⟩::rest) n ds w L:=v8m J D I hn q
theorem u8n {cur:Option Cx}(U:ev L x=some (.pointer (some ⟨gi,0,none⟩)))(O:CrIt w gi g em rem cur)(hn:Nat.blt d n=true)
    (qt:∀D c I,rem=D++c::I->∀w',CrIt w' gi g em (D++I) (some c)->Fr [gi] w w'->w'.heap.size=w.heap.size->WL P ops Q rest n ds w' ((d,.tuple #[.bool true,crK (c.a,c.b),.int .i64 c.n])::L))
    (qf:rem=[]->WL P ops Q rest n ds w ((d,.tuple #[.bool false])::L)):WL P ops Q (⟨some d,.next x false,ty,pos,after,none⟩::rest) n ds w L:=
  u9i U O hn (λr1 p r2 J w' M hf Z=>by
    obtain⟨D,c,I,rfl,rfl,rfl,rfl⟩:=v3w J
    exact qt D c I rfl w' (by unfold CrIt;rw[u6o];exact M) hf Z) (λJ=>qf (List.map_eq_nil_iff.1 J))
theorem v9a {c:Cx}(I:ev L x=some (.pointer (some ⟨gi,0,none⟩)))(D:CrIt w gi g em rem (some c))(hn:Nat.blt d n=true)
 (q:WL P ops Q rest n ds w ((d,.tuple #[.agg #[.int .u8 c.a.y,.int .i64 c.a.n,.int .u8 c.b.y,.int .i64 c.b.n],.int .i64 c.n])::L)):WL P ops Q (⟨some d,.entry x,ty,pos,after,none⟩::rest) n ds w L:=v8d (p:=((c.a,c.b),.int .i64 c.n)) I D hn q
end
section
variable {τ:TyK} {Mt:Nat} {wS w w':World} {a:MA} {m:MQ} {j:Nat} {u:SV}
theorem MkM.tabh (h:MkM τ Mt wS a w m)(I:MtOk τ Mt)(hj:j<6)(h1:Lw.Own z4i τ.L wS.heap.size w (slv u) (m.ts.getD j tq0).2)(M:∀i,i<6->∀b∈z0x (slv (m.ts.getD i tq0).1),b∉z0x (slv u))
    (h2:Lw.Own z3y τ.T wS.heap.size w' a.TV (m.ts.set j (u,(m.ts.getD j tq0).2))) (f2:Fr [a.gt] w w'):MkM τ Mt wS a w' { m with ts:=m.ts.set j (u,(m.ts.getD j tq0).2) }:=by
  have hl:j<m.ts.length:=by rw[h.lt];exact hj
  have J:∀T,T≠τ.T->OffT w T [a.gt]:=λT hT=>z6d h.t.out (Ne.symm hT)
  refine⟨y7v h.k f2 (J _ I.t),BdO.tf h.b f2 (J _ (Ne.symm I.o.ts)) (J _ (Ne.symm I.o.ti)),h.y.tf f2 (J _ I.o.yt) (J _ (Ne.symm I.o.tp)),⟨h2,λi D=>?_,λi k D U a1=>?_,λi D q hq=>?_⟩,h.c.tf f2 (J _ I.t),z1w h.f f2 (J _ (Ne.symm I.o.ti)),h.fb,λi D p O=>?_,h.ly,by rw[List.length_set];exact h.lt,h.gk,h.gc,h.fr.step f2 (y7w h.t.out (by simp[v7q])) λk U a2=>?_⟩
  · simp only[List.length_set]at D
    rw[z1j hl]
    split
    · exact z1w h1 f2 (J _ (Ne.symm I.o.tl))
    · exact z1w (h.t.ins i D) f2 (J _ (Ne.symm I.o.tl))
  · simp only[List.length_set]at D U
    rw[z1j hl,z1j hl]
    split
    · rw[if_neg (by omega)];exact λb hb a0=>M k (by rw[<-h.lt];exact U) b a0 hb
    · split
      · exact M i (by rw[<-h.lt];exact D)
      · exact h.t.off i k D U a1
  · simp only[List.length_set]at D
    rw[z1j hl]at hq
    have Z:q∈(m.ts.getD i tq0).2:=by split at hq;(rename_i e;subst e;exact hq);exact hq
    exact⟨z1w (h.t.lps i D q Z).1 f2 (J _ (Ne.symm I.o.ti)),z1w (h.t.lps i D q Z).2 f2 (J _ (Ne.symm I.o.tp))⟩
  · simp only at O
    rw[z1j hl]at O
    split at O
    · rename_i e;subst e;first|exact h.ft _ D p O|exact h.ft _ hj p O
    · exact h.ft i D p O
  · have:=(h.t.out.blk k U).1;omega
theorem MkM.fallS {l:List LId}(h:MkM τ Mt wS a w m)(M:MtOk τ Mt)(D:τ.I≠τ.P)(h1:Lw.Own z1k τ.I wS.heap.size w' (slv m.fa) l)(J:Fr (z0x (slv m.fa)) w w'):MkM τ Mt wS a w' { m with fl:=l }:=by
 have I:=y7v h.k J (z6d h.f (Ne.symm M.i));exact MkM.fall (u:=m.fa) h M D h1 J (λk I=>.inl I) I ((Fr.refl [] w').weak (by simp))
def stM (p:MSt):St:=⟨p.rk,p.B,p.ys,⟨p.tb,z9z p.cr,(z2w p.B p.rk).map Hd.id,z9s p.fa⟩⟩
structure MkW (τ:TyK) (base:Nat) (a:MA) (w:World) (m:MQ):Prop where
  b:BdO τ.S τ.I base w m.q
  y:YsO τ base w a.YV m.ys
  t:TbO τ base w a.TV m.ts
theorem MkM.toW (h:MkM τ Mt wS a w m):MkW τ wS.heap.size a w m:=⟨h.b,h.y,h.t⟩
theorem MkW.ext {base:Nat}(h:MkW τ base a w m)(hf:Fr [] w w'):MkW τ base a w' m:=⟨h.b.ext hf,h.y.ext hf,h.t.ext hf⟩
theorem MkW.off {base g T:Nat}{cs:List Value}(h:MkW τ base a w m)(D:Blk w g T cs)(hT:T≠τ.S/\T≠τ.I/\T≠τ.Y/\T≠τ.P/\T≠τ.T/\T≠τ.L)(hf:Fr [g] w w'):MkW τ base a w' m:=by
 obtain⟨M,I,O,J,U,Z⟩:=hT;exact⟨BdO.tf h.b hf (OffT.one D M) (OffT.one D I),h.y.tf hf (OffT.one D O) (OffT.one D J),h.t.tf hf (OffT.one D U) (OffT.one D Z) (OffT.one D I) (OffT.one D J)⟩
structure StO (τ:TyK) (Tc base:Nat) (w:World) (s:StQ):Prop where
  b:BdO τ.S τ.I base w s.q
  y:YsO τ base w (slv s.yv) s.ys
  t:TbO τ base w (slv s.fb.t) s.fb.ts
  c:Lw.Own z4o Tc base w (slv s.fb.c) s.fb.cs
  h:Lw.Own z1k τ.I base w (slv s.fb.h) s.fb.hs
  f:Lw.Own z1k τ.I base w (slv s.fb.f) s.fb.fs
theorem StO.ext {Tc base:Nat}{s:StQ}(h:StO τ Tc base w s)(hf:Fr [] w w'):StO τ Tc base w' s:=⟨h.b.ext hf,h.y.ext hf,h.t.ext hf,h.c.ext hf,h.h.ext hf,h.f.ext hf⟩
theorem StO.off {Tc base g T:Nat}{cs:List Value}{s:StQ}(h:StO τ Tc base w s)(D:Blk w g T cs)(hT:T≠τ.S/\T≠τ.I/\T≠τ.Y/\T≠τ.P/\T≠τ.T/\T≠τ.L/\T≠Tc)(hf:Fr [g] w w'):StO τ Tc base w' s:=by
 obtain⟨M,I,O,J,U,Z,h7⟩:=hT;exact⟨BdO.tf h.b hf (OffT.one D M) (OffT.one D I),h.y.tf hf (OffT.one D O) (OffT.one D J),h.t.tf hf (OffT.one D U) (OffT.one D Z) (OffT.one D I) (OffT.one D J),z1w h.c hf (OffT.one D h7),z1w h.h hf (OffT.one D I),z1w h.f hf (OffT.one D I)⟩
theorem StO.low {Tc base J:Nat}{s:StQ}(h:StO τ Tc base w s)(hb:J<=base):StO τ Tc J w s:=
 ⟨⟨⟨h.b.f.1.low hb,λq I=>(h.b.f.2 q I).low hb⟩,⟨h.b.b.1.low hb,λq I=>(h.b.b.2 q I).low hb⟩⟩,⟨h.y.out.low hb,λi D=>(h.y.ins i D).low hb⟩,⟨h.t.out.low hb,λi D=>(h.t.ins i D).low hb,h.t.off,λi D q I=>⟨(h.t.lps i D q I).1.low hb,(h.t.lps i D q I).2.low hb⟩⟩,h.c.low hb,h.h.low hb,h.f.low hb⟩
theorem StO.at {Tc base:Nat}{s:StQ}(h:StO τ Tc base w s):StAt w s:=by
 refine⟨h.b.at,h.y.out.sl,λi=>?_,⟨h.t.out.sl,λp J=>?_,h.c.sl,h.h.sl,h.f.sl⟩⟩;by_cases D:i<s.ys.length;exact(h.y.ins i D).sl;rw[List.getD,List.getElem?_eq_none (by omega)];exact Sl.nil w;obtain⟨i,D,rfl⟩:=List.getElem_of_mem J;have e:s.fb.ts.getD i tq0=s.fb.ts[i]:=by rw[List.getD,List.getElem?_eq_getElem D];rfl
 rw[<-e];exact⟨(h.t.ins i D).sl,λq I=>⟨(h.t.lps i D q I).1.sl,(h.t.lps i D q I).2.sl⟩⟩
end
end Go.G08
namespace Go.G08
open Go.Lw Go.G21
structure PlaceV (T:Tb) (H F:List LId):Prop where
  has:∀i∈H++F,z4e T i
  asc:∀i,0<i->i<F.length->z7c (F.getD (i-1) id0) (F.getD i id0)<0
  once:∀y,y<6->∀n,n<z2t T y->(H++F++y1c T).count ⟨(y:Int)+1,(n:Int)⟩=1
  le:∀i,(H++F++y1c T).count i<=1
structure CrsV (T:Tb) (l:List Cx):Prop where
  has:∀i,i<l.length->z4e T (l.getD i cx0).a/\z4e T (l.getD i cx0).b/\z7c (l.getD i cx0).a (l.getD i cx0).b<0/\(-1048576<=(l.getD i cx0).n/\(l.getD i cx0).n<=1048576)/\(l.getD i cx0).n≠0
  asc:∀i,0<i->i<l.length->x0x (l.getD (i-1) cx0) (l.getD i cx0)<0
theorem v8t {a b:LId}(h:¬z7c b a<0)(D:a≠b):z7c a b<0:=by
 have M:=mt y4r.1 D;rw[z6z]at h ⊢;have O:¬(a.y=b.y/\a.n=b.n):=by
  rintro⟨I,J⟩;obtain⟨_,_⟩:=a;obtain⟨_,_⟩:=b;simp only at I J;subst I;subst J;exact D rfl
 omega
theorem u0z {a b:Cx}(h:¬x0x b a<0)(D:(a.a,a.b)≠(b.a,b.b)):x0x a b<0:=by
 rw[y0c]at h ⊢;have M:¬((a.a.y=b.a.y/\a.a.n=b.a.n)/\(a.b.y=b.b.y/\a.b.n=b.b.n)):=by
  obtain⟨⟨_,_⟩,⟨_,_⟩,_⟩:=a;obtain⟨⟨_,_⟩,⟨_,_⟩,_⟩:=b;rintro⟨⟨I,J⟩,e3,e4⟩;simp only at I J e3 e4;subst I;subst J;subst e3;subst e4;exact D rfl
 omega
theorem x3n {α:Type}{R:α->α->Prop}{l:List α}(d:α)(h:l.Pairwise R){i:Nat}(I:0<i)(D:i<l.length):R (l.getD (i-1) d) (l.getD i d):=by
 have:=List.pairwise_iff_getElem.1 h (i-1) i (by omega) D (by omega);rwa [List.getD,List.getElem?_eq_getElem (by omega),List.getD,List.getElem?_eq_getElem D]
theorem v7x {l:List LId}(hn:l.Nodup):(z9s l).Pairwise λa b=>z7c a b<0:=by
 have D:(z9s l).Pairwise (·≠·):=(z2v l).nodup_iff.2 hn;exact((y8f l).and D).imp λh=>v8t h.1 h.2
theorem v9d {l:List Cx}(hn:(l.map λc=>(c.a,c.b)).Nodup):(z9z l).Pairwise λa b=>x0x a b<0:=by
 have D:((z9z l).map λc=>(c.a,c.b)).Nodup:=((z2q l).map _).nodup_iff.2 hn;exact((y3s l).and (List.pairwise_map.1 D)).imp λh=>u0z h.1 h.2
theorem MVal.le {p:MSt}(h:MVal p)(i:LId):(p.B.flat++p.fa++y1c p.tb).count i<=1:=by
 by_cases k:z4e p.tb i;exact Nat.le_of_eq (h.once i k);obtain⟨J,I⟩:=h.tab;rw[List.count_eq_zero.2];omega;intro D;rcases List.mem_append.1 D with z|z
 rcases List.mem_append.1 z with z|z
 exact k (h.inv.has i z);exact k (h.fa i z);exact k (x7s I z)
theorem MVal.nodupF {p:MSt}(h:MVal p):p.fa.Nodup:=List.nodup_iff_count.2 λi=>by
 have:=h.le i
 rw[List.count_append,List.count_append]at this
 omega
theorem MVal.tabV {p:MSt}(h:MVal p):TabV p.tb:=by
 obtain⟨I,D⟩:=h.tab;refine⟨⟨h.inv.lt,h.inv.all,D.rts,I,D.rkd⟩,λi=>?_⟩;have:=h.le i;rw[List.count_append]at this;omega
theorem MVal.cntHF {p:MSt}(i:LId):(((z2w p.B p.rk).map Hd.id)++z9s p.fa++y1c p.tb).count i=(p.B.flat++p.fa++y1c p.tb).count i:=by
 simp only[List.count_append];rw[(y8q p.B p.rk).count_eq,(z2v p.fa).count_eq]
theorem MVal.place {p:MSt}(h:MVal p):PlaceV p.tb ((z2w p.B p.rk).map Hd.id) (z9s p.fa):=by
 refine⟨λi D=>?_,λi I D=>x3n id0 (v7x h.nodupF) I D,λy M n J=>?_,λi=>?_⟩;rcases List.mem_append.1 D with k|k
 exact h.inv.has i ((y8q p.B p.rk).mem_iff.1 k);exact h.fa i ((z2v p.fa).mem_iff.1 k);rw[MVal.cntHF];exact h.once _ (z7y (by rw[h.inv.lt];exact M) J);rw[MVal.cntHF];exact h.le i
theorem MVal.crs {p:MSt}(h:MVal p):CrsV p.tb (z9z p.cr):=
 ⟨λi D=>h.cr.has _ ((z2q p.cr).mem_iff.1 (z0u D)),λi I D=>x3n cx0 (v9d h.cr.nd) I D⟩
end Go.G08
namespace Go.Proofs.YtpgdchkdlgkmgaaGreatDoor
open Go.Lw Go.G21 Go.G08 _root_.Go.Proofs.Tryz
theorem x5o:z3u prog 109 5:=⟨λ_=>by kernel_rfl,λ_=>by kernel_rfl⟩
theorem v1j:ElemOf prog 36 109 z4o 40:=ElemOf.mk' (z:=(.agg #[.int .u8 0,.int .i64 0,.int .u8 0,.int .i64 0,.int .i64 0])) underlying36 (by kernel_rfl) rfl
theorem y2g:z0z prog 109 0 0:=λ_ _=>by kernel_rfl
theorem y2h:z0z prog 109 1 2:=λ_ _=>by kernel_rfl
theorem y5a:z0z prog 109 2 4:=λ_ _=>by kernel_rfl
theorem u6i:z1p prog 109 5:=λ_=>by kernel_rfl
theorem v2h (w:World):(zeroValue 109).run prog w=.ok (.agg #[(.int .u8 0),(.int .i64 0),(.int .u8 0),(.int .i64 0),(.int .i64 0)]) w:=by kernel_rfl
theorem u1t (x y:Cx):orZ [z7c x.a y.a,z7c x.b y.b]=x0x x y:=by
 unfold orZ orZ orZ x0x
 repeat' split
 all_goals first|rfl|omega
theorem u2n (x y:Cx)(w0:World):Rets prog 92 #[.agg #[.int .u8 x.a.y,.int .i64 x.a.n,.int .u8 x.b.y,.int .i64 x.b.n,.int .i64 x.n],.agg #[.int .u8 y.a.y,.int .i64 y.a.n,.int .u8 y.b.y,.int .i64 y.b.n,.int .i64 y.n]] w0 λr w'=>r=.int .i64 (x0x x y)/\Fr [] w0 w':=by
 refine we [(0,.agg #[.int .u8 x.a.y,.int .i64 x.a.n,.int .u8 x.b.y,.int .i64 x.b.n,.int .i64 x.n]),(1,.agg #[.int .u8 y.a.y,.int .i64 y.a.n,.int .u8 y.b.y,.int .i64 y.b.n,.int .i64 y.n])] func92 rfl ntmps92 rfl (.c2 rfl rfl) (sr (bx rfl rfl rfl (λg2 w1 a1 J q1 z1=>(bx rfl rfl rfl (λg3 w2 a2 M q2 z2=>(asg rfl (nn (sq ?_))))))));intro a h;refine z0i none (λwb w'=>Fr [] wb w') z2o ?_;intro w3 q3;replace J:=J.ext (q2.n1 q3);replace M:=M.ext q3;have hC:Fr [] w3 w3:=Fr.refl _ _;have D:=J;have I:=M;refine z0c 0 h rfl y2g rfl λa h=>z1e (vs:=[_,_]) 1 h rfl (λ_ Z=>(D.ext Z)) z3o rfl rfl λa h=>z0c 2 h rfl y2g rfl λa h=>z1e (vs:=[_,_]) 3 h rfl (λ_ Z=>(I.ext Z)) z3o rfl rfl λa h=>z0c 5 h rfl y2h rfl λa h=>z1e (vs:=[_,_]) 6 h rfl (λ_ Z=>(D.ext Z)) z3o rfl rfl λa h=>z0c 7 h rfl y2h rfl λa h=>z1e (vs:=[_,_]) 8 h rfl (λ_ Z=>(I.ext Z)) z3o rfl rfl λa h=>z0d 4 rfl ?_;refine z0n h (z0a rfl (z0a rfl z0f)) j2l (y0v x.a y.a _) ?_;rintro _ w4 ⟨rfl,q4⟩ a h;replace hC:=hC.next q4;refine z0b ?_;refine z0d 9 rfl ?_;refine z0n h (z0a rfl (z0a rfl z0f)) j2l (y0v x.b y.b _) ?_;rintro _ w5 ⟨rfl,q5⟩ a h;replace J:=J.ext (q4.n1 q5);replace M:=M.ext (q4.n1 q5);replace hC:=hC.next q5;refine z0b ?_;refine z0d 10 rfl ?_;refine z3c ([z7c x.a y.a,z7c x.b y.b]) h (z0a rfl (z0a rfl z0f)) rfl rfl rfl y8a λU w6 hg a0 q6 hz a h=>?_;have O:g2<U:=by have:=J.lt;omega
 have O:g3<U:=by have:=M.lt;omega
 replace hC:=hC.next q6;refine z0b ?_;refine z0d 11 rfl ?_;refine z0n h (z0a rfl z0f) (mkC func121) (j1b _ [z7c x.a y.a,z7c x.b y.b] _ a0.sl (by simp)) ?_;rintro _ w7 ⟨rfl,q7⟩ a h;replace hC:=hC.next q7;refine z0b ?_;refine z0d 12 rfl ?_;refine z0r h rfl λa h=>?_;refine z0b ?_;refine z0q ?_;clear hC D I;refine bk (h.sub (L':=[(4,_)]) (.cons rfl .nil)) (tn (rt (r1 results92 rfl ?_)));exact⟨_,rfl,congrArg (Value.int .i64) (u1t x y),(q1.n6 q2 q3 q4 q5 q6 q7)⟩
set_option maxHeartbeats 1000000 in
theorem x9k (q:FbQ)(w0:World)(M:FbAt w0 q)(h6:q.ts.length=6)(hv:CrsV (z2a q.ts) q.cs):Rets prog 100 #[.agg #[.slice q.t.1 q.t.2.1 q.t.2.2,.slice q.c.1 q.c.2.1 q.c.2.2,.slice q.h.1 q.h.2.1 q.h.2.2,.slice q.f.1 q.f.2.1 q.f.2.2]] w0 λr w'=>r=.int .i64 0/\Fr [] w0 w':=by
 have b7:=M.len;have b6:=z6i q.ts;have hM:=M.c.len_le;unfold maxLen at hM;refine we [(0,.agg #[.slice q.t.1 q.t.2.1 q.t.2.2,.slice q.c.1 q.c.2.1 q.c.2.2,.slice q.h.1 q.h.2.1 q.h.2.2,.slice q.f.1 q.f.2.1 q.f.2.2])] func100 rfl ntmps100 rfl (.cons rfl .nil) ?_;have a2:=M;refine sr (bx rfl rfl rfl (λg1 w1 b4 J q1 z1=>(asg rfl (nn (sq (sr (fad rfl y2v (z0g rfl J rfl u3f (lnS rfl underlying36 (mv rfl (nn (bl ?_))))))))))));refine lpK (ι:=Nat) [(1,_),(6,_),(7,_)] (λi=>[(8,.int .i64 (i:Int))]) (λi w'=>Fr [] w1 w'/\i<=q.cs.length) (λi=>q.cs.length-i) 0 (.c4 rfl rfl rfl rfl) ⟨Fr.refl _ _,Nat.zero_le _⟩ ?_;rintro i w2 ⟨q2,hi⟩;have z2:=q2.size;refine kpC [(1,_),(6,_),(7,_),(8,_)] (.c4 rfl rfl rfl rfl) (sr (lt' rfl rfl (nn (sq (cd rfl (λc0=>?_) (λc0=>?_))))));have Z:=hv.has i (by omega);have a5:=Z.1;have a6:=Z.2.1;have b0:=a5.1;have b1:=a5.2.1;have b2:=a6.1;have b3:=a6.2.1;have a7:=hv.asc i;refine sk (tn (sq (bl (sr (mv rfl ?_)))));replace M:=a2.ext (q1.n1 q2);refine z1a (cx0) rfl M.c rfl v1j z1d (λa8 a3=>?_);refine z1i rfl (a3 _ M.c) x5o (al v2h rfl rfl (λg4 w3 b5 I q3 z3=>?_));refine asg rfl (z0j (vs:=[_,_,_,_,_]) rfl rfl I u6i (λw4 I q4 z4=>?_) (h1:=(by first|(simp[Value.oneCell',S];done)|exact z4o.one _)));refine nn (sq (sq ?_));refine y6f (r:=34) (L':=[(1,_),(3,_),(4,_),(6,_),(7,_),(8,_)]) ((((¬z4e (z2a q.ts) (q.cs.getD i cx0).a)\/(¬z4e (z2a q.ts) (q.cs.getD i cx0).b))\/(0<=(z7c (q.cs.getD i cx0).a (q.cs.getD i cx0).b)))) (.c6 rfl rfl rfl rfl rfl rfl) ?_ ?_;refine fad rfl z8u ?_;replace J:=(J.ext (q2.n1 q3)).fr q4;refine z0g rfl J rfl x3m (fad rfl y2g (z1s (vs:=[_,_]) rfl I z3o rfl ?_));replace M:=a2.ext (q1.z3 q2 q3 q4);refine cl (ev2 rfl rfl) (mkC func138) (x5x (q.cs.getD i cx0).a _ _ _ M.t M.tt (by omega) (by omega)) rfl ?_;rintro _ w5 ⟨rfl,q5⟩;have z5:=q5.size;refine nt' rfl (mv rfl (gs 19 rfl (λhh=>absurd hh (by exact λe=>e Z.1)) (λg0=>(gY rfl (fad rfl z8u (gY rfl ?_))))));replace J:=J.ext q5;refine z0g rfl J rfl x3m (gY rfl (fad rfl y2h (gY rfl ?_)));replace I:=I.ext q5;refine z1s (vs:=[_,_]) rfl I z3o rfl (gY rfl ?_);replace M:=a2.ext (q1.z4 q2 q3 q4 q5);refine cl (ev2 rfl rfl) (mkC func138) (x5x (q.cs.getD i cx0).b _ _ _ M.t M.tt (by omega) (by omega)) rfl ?_;rintro _ w6 ⟨rfl,q6⟩;have z6:=q6.size;refine gY rfl (nt' rfl (pkf rfl rfl (mv rfl (gs 27 rfl (λhh=>absurd hh (by exact λe=>e Z.2.1)) (λg1=>(gY rfl (fad rfl y2g (gY rfl ?_))))))));replace I:=I.ext q6;refine z1s (vs:=[_,_]) rfl I z3o rfl (gY rfl (fad rfl y2h (gY rfl (z1s (vs:=[_,_]) rfl I z3o rfl (gY rfl (cl (ev2 rfl rfl) j2l (y0v (q.cs.getD i cx0).a (q.cs.getD i cx0).b _) rfl ?_))))));rintro _ w7 ⟨rfl,q7⟩;have z7:=q7.size;exact gY rfl (ge' rfl rfl (pkf rfl rfl (z6y rfl (.c6 rfl rfl rfl rfl rfl rfl) (q5.n2 q6 q7))));intro w8 q8;have z8:=q8.size;refine tn (cd rfl (λc1=>?_) (λc1=>?_));refine sr (asg rfl (kpL [(2,_)] (.cons rfl .nil) (nn (rt (tr (rb (tr (tr (rb (tr (r1 results100 rfl ?_)))))))))));exfalso;rcases c1 with (hh|hh)|hh
 exact hh Z.1;exact hh Z.2.1;omega;refine sk (tn (sq (sq ?_)));refine rbo (r:=47) (L':=[(1,_),(3,_),(4,_),(6,_),(7,_),(8,_)]) (((((q.cs.getD i cx0).n < -1048576)\/(1048576<(q.cs.getD i cx0).n))\/((q.cs.getD i cx0).n=0))) (.c6 rfl rfl rfl rfl rfl rfl) ?_ ?_;refine fad rfl y5a ?_;replace I:=I.ext q8;refine z0g rfl I rfl na3 (lt' rfl rfl (mv rfl (gs 38 rfl (λhh=>absurd hh (by omega)) (λg2=>(gY rfl (fad rfl y5a (gY rfl (z0g rfl I rfl na3 (gY rfl (gt' rfl rfl (pkf rfl rfl (mv rfl (gs 43 rfl (λhh=>absurd hh (by omega)) (λg3=>?_))))))))))))));exact gY rfl (fad rfl y5a (gY rfl (z0g rfl I rfl na3 (gY rfl (eq' rfl rfl (pkf rfl rfl (rbe rfl (.c6 rfl rfl rfl rfl rfl rfl))))))));refine tn (cd rfl (λc2=>?_) (λc2=>?_));refine sr (asg rfl (kpL [(2,_)] (.cons rfl .nil) (nn (rt (tr (rb (tr (tr (rb (tr (r1 results100 rfl ?_)))))))))));exfalso;omega;refine sk (tn (sq ?_));replace M:=a2.ext (q1.z4 q2 q3 q4 q8);replace J:=((J.ext (q2.n1 q3)).fr q4).ext q8;intro a h;refine z0i none (λwb w'=>Fr [] wb w') z2o ?_;intro w9 q9;have z9:=q9.size;replace M:=M.ext q9;replace J:=J.ext q9;replace I:=I.ext (q8.n1 q9);have hC:Fr [] w9 w9:=Fr.refl _ _;have a1:=M;have O:=J;have U:=I;refine z0e 0 h rfl rfl λa h=>v4k 1 hC h wn rfl rfl rfl rfl λa h=>z0e 2 h rfl rfl λa h=>?_;refine gSp (D:=50) h rfl ?_ ?_;clear h;intro g4 h;refine z0c 3 h rfl y2v rfl ?_ (hG:=(wy rfl));clear h a;intro a h;refine z0l 4 h rfl (λ_ hw=>O.ext hw) rfl u3f rfl ?_ (hG:=(wy rfl));clear h a;intro a h;refine z0e 5 h rfl rfl ?_ (hG:=(wy rfl));clear h a;intro a h;refine z3b 6 h (wy rfl) rfl rfl (by first|exact i6 (by omega)|rfl) rfl λa h=>z1h (p:=(i-1)) (cx0) 7 h rfl M.c rfl v1j rfl ?_ (hG:=(wy rfl));clear h a;intro a9 a4 a h;refine z1y 8 h (wy rfl) rfl (λ_ hw=>a4 _ (a1.c.ext hw)) x5o rfl λa h=>z0y 9 h rfl (λ_ hw=>U.ext hw) x5o rfl ?_ (hG:=(wy rfl));clear h a;intro a h;refine z0d 10 rfl ?_;refine y5y h rfl rfl rfl rfl rfl rfl ?_;refine z0n h (z0a rfl (z0a rfl z0f)) (mkC func92) (u2n (q.cs.getD (i-1) cx0) (q.cs.getD i cx0) _) ?_;rintro _ b8 ⟨rfl,a0⟩ a h;have b9:=a0.size;replace M:=M.ext a0;replace J:=J.ext a0;replace I:=I.ext a0;replace hC:=hC.next a0;refine z0b ?_;refine u2o 11 hC h (wy rfl) rfl rfl rfl rfl λa h=>z0d 12 rfl ?_;refine z5k h rfl rfl rfl rfl λa h=>?_;refine z0b ?_;refine z0q ?_;clear hC a1 O U;refine bk (h.sub (L':=[(1,_),(6,_),(7,_),(8,_),(60,_)]) (.c5 rfl rfl rfl rfl rfl)) (tn (cd rfl (λc3=>?_) (λc3=>?_)));refine sr (asg rfl (nn (rt (rb (tr (tr (rb (tr (r1 results100 rfl ?_)))))))));exfalso;first|omega|(have:=a7 (by omega) (by omega);omega)
 refine sk (bn' (tn (rg (z0v rfl rfl (wi6 (by omega)) (mv rfl (nl ?_))))));exact lpE (i+1) (.c4 rfl rfl rfl rfl) ⟨(q2.z5 q3 q4 q8 q9 a0),by omega⟩ (by omega);clear h;intro g4 h;refine z2i 3 h rfl rfl rfl λa h=>z2i 4 h rfl rfl rfl λa h=>z2i 5 h rfl rfl rfl λa h=>z2i 6 h rfl rfl rfl λa h=>z2i 7 h rfl rfl rfl λa h=>z2i 8 h rfl rfl rfl λa h=>z2i 9 h rfl rfl rfl λa h=>z2i 10 h rfl rfl rfl λa h=>z2i 11 h rfl rfl rfl λa h=>z0d 12 rfl ?_;refine z4k h rfl rfl rfl rfl λa h=>?_;refine z0b ?_;refine z0q ?_;clear hC a1 O U;refine bk (h.sub (L':=[(1,_),(6,_),(7,_),(8,_),(60,_)]) (.c5 rfl rfl rfl rfl rfl)) (tn (cf rfl (sk (bn' (tn (rg (z0v rfl rfl (wi6 (by omega)) (mv rfl (nl ?_)))))))));exact lpE (i+1) (.c4 rfl rfl rfl rfl) ⟨(q2.z4 q3 q4 q8 q9),by omega⟩ (by omega);obtain rfl:i=q.cs.length:=by omega
 refine ex (te (te (xh (tn (sr (asg rfl (nn (rt (r1 results100 rfl ?_)))))))));exact⟨_,rfl,rfl,(q1.n1 q2)⟩
theorem v2q {a b:List LId}{k:Nat}(h:∀i,(a++b).count i<=1)(c:List LId)(D:∃d,a++b=c++d):c.count (b.getD k id0)<=100000:=by
 obtain⟨d,e⟩:=D;have:=h (b.getD k id0);rw[e,List.count_append]at this;omega
set_option maxHeartbeats 2000000 in
theorem x9w (q:FbQ)(w0:World)(M:FbAt w0 q)(h6:q.ts.length=6)(hv:TabV (z2a q.ts))(hp:PlaceV (z2a q.ts) q.hs q.fs):Rets prog 101 #[.agg #[.slice q.t.1 q.t.2.1 q.t.2.2,.slice q.c.1 q.c.2.1 q.c.2.2,.slice q.h.1 q.h.2.1 q.h.2.2,.slice q.f.1 q.f.2.1 q.f.2.2]] w0 λr w'=>r=.int .i64 0/\Fr [] w0 w':=by
 have h7:=M.len;have h3:=z6i q.ts;have hM:=M.f.len_le;unfold maxLen at hM;refine we [(0,.agg #[.slice q.t.1 q.t.2.1 q.t.2.2,.slice q.c.1 q.c.2.1 q.c.2.2,.slice q.h.1 q.h.2.1 q.h.2.2,.slice q.f.1 q.f.2.1 q.f.2.2])] func101 rfl ntmps101 rfl (.cons rfl .nil) ?_;have J:=M;refine sr (bx rfl rfl rfl (λg1 w1 g4 I q1 z1=>?_));refine asg rfl (nn (sq (sr (fad rfl y5b (z0g rfl I rfl z5t (fad rfl z8v (z0g rfl I rfl z5t (z1v (cs:=[_,_]) (ev2 rfl rfl) j6x (z0h rfl rfl rfl (z0h rfl rfl rfl z0s)) rfl ?_))))))));refine mv rfl (nn (bl ?_));refine lpK (ι:=Nat) [(1,_),(22,_)] (λz=>[(23,.int .i64 (z:Int))]) (λz w'=>Fr [] w1 w'/\z<=2) (λz=>2-z) 0 (.c3 rfl rfl rfl) ⟨Fr.refl _ _,Nat.zero_le _⟩ ?_;rintro z w2 ⟨q2,hz⟩;have z2:=q2.size;refine kpC [(1,_),(22,_),(23,_)] (.c3 rfl rfl rfl) (sr (lt' rfl rfl (nn (sq (cd rfl (λc0=>?_) (λc0=>?_))))));have h4:=z1x (u1m J z);have d7:=(u1m J z).len_le;unfold maxLen at d7;refine sk (tn (sq (bl (sr (u4c rfl rfl underlying231 u5b z5t (j6k (by omega)) rfl (asg rfl (nn (sr (mv rfl (lnS rfl underlying37 (mv rfl (nn (bl ?_)))))))))))));refine lpK (ι:=Nat) [(1,_),(22,_),(23,_),(26,_),(27,_)] (λn=>[(28,.int .i64 (n:Int))]) (λn w'=>Fr [] w2 w'/\n<=(hfl q z).length) (λn=>(hfl q z).length-n) 0 (.c6 rfl rfl rfl rfl rfl rfl) ⟨Fr.refl _ _,Nat.zero_le _⟩ ?_;rintro n w3 ⟨q3,hn⟩;have z3:=q3.size;refine kpC [(1,_),(22,_),(23,_),(26,_),(27,_),(28,_)] (.c6 rfl rfl rfl rfl rfl rfl) (sr (lt' rfl rfl (nn (sq (cd rfl (λc1=>?_) (λc1=>?_))))));refine sk (tn (sq (bl (sr ?_))));replace M:=J.ext (q1.n2 q2 q3);refine z1a (id0) rfl (u1m M z) rfl z6j z1d (λe9 d0=>?_);refine z1i rfl (d0 _ (u1m M z)) z3o (al y3v rfl rfl (λg6 w4 g5 b9 q4 z4=>?_));refine z0j (vs:=[_,_]) rfl rfl b9 y1u (λw5 b9 q5 z5=>?_) (h1:=(by first|(simp[Value.oneCell',S];done)|exact z4i.one _|exact z1k.one _));refine nn (sr (fad rfl z8u ?_));replace I:=(I.ext (q2.n2 q3 q4)).fr q5;refine z0g rfl I rfl x3m (z0k rfl b9 z3o ?_);replace M:=J.ext (q1.z4 q2 q3 q4 q5);refine cl (ev2 rfl rfl) (mkC func138) (x5x ((hfl q z).getD n id0) _ _ _ M.t M.tt (by omega) (by have h:=hp.has _ (j5c z (z0u (d:=id0) (i:=n) (by omega)));have:=h.1;have:=h.2.1;omega)) rfl ?_;rintro _ w6 ⟨rfl,q6⟩;have z6:=q6.size;refine nt' rfl (nn (cd rfl (λc2=>?_) (λc2=>?_)));refine sr (asg rfl (kpL [(2,_)] (.cons rfl .nil) (nn (rt (rb (tr (tr (rb (rb (tr (tr (rb (tr (r1 results101 rfl ?_))))))))))))));exact absurd (hp.has _ (j5c z (z0u (d:=id0) (i:=n) (by omega)))) (by simpa using c2);refine sk (bn' (tn (rg (z0v rfl rfl (wi6 (by omega)) (mv rfl (nl ?_))))));exact lpE (n+1) (.c6 rfl rfl rfl rfl rfl rfl) ⟨(q3.z3 q4 q5 q6),by omega⟩ (by omega);obtain rfl:n=(hfl q z).length:=by omega
 refine ex (te (te (xh (bn' (tn (rg (z0v rfl rfl (wi6 (by omega)) (mv rfl (nl ?_)))))))));exact lpE (z+1) (.c3 rfl rfl rfl) ⟨(q2.n1 q3),by omega⟩ (by omega);obtain rfl:z=2:=by omega
 refine ex (te (te (xh (tn (sq (sr (fad rfl z8v ?_)))))));replace I:=I.ext q2;refine z0g rfl I rfl z5t (lnS rfl underlying37 (mv rfl (nn (bl ?_))));refine lpK (ι:=Nat) [(1,_),(40,_),(41,_)] (λi=>[(42,.int .i64 (i:Int))]) (λi w'=>Fr [] w2 w'/\i<=q.fs.length) (λi=>q.fs.length-i) 0 (.c4 rfl rfl rfl rfl) ⟨Fr.refl _ _,Nat.zero_le _⟩ ?_;rintro i w7 ⟨q7,hi⟩;have z7:=q7.size;refine kpC [(1,_),(40,_),(41,_),(42,_)] (.c4 rfl rfl rfl rfl) (sr (lt' rfl rfl (nn (sq (cd rfl (λc3=>?_) (λc3=>?_))))));have e5:=hp.asc i;refine sk (tn (sq (bl (sr (mv rfl ?_)))));replace M:=J.ext (q1.n2 q2 q7);refine z1a (id0) rfl M.f rfl z6j z1d (λf0 d1=>?_);refine z1i rfl (d1 _ M.f) z3o (al y3v rfl rfl (λg8 w8 g7 a7 q8 z8=>?_));refine asg rfl (z0j (vs:=[_,_]) rfl rfl a7 y1u (λw9 a7 q9 z9=>?_) (h1:=(by first|(simp[Value.oneCell',S];done)|exact z4i.one _|exact z1k.one _)));refine nn (sq ?_);replace M:=J.ext (q1.z4 q2 q7 q8 q9);replace I:=(I.ext (q7.n1 q8)).fr q9;intro a h;refine z0i none (λwb w'=>Fr [] wb w') z2o ?_;intro e0 a9;have i9:=a9.size;replace M:=M.ext a9;replace I:=I.ext a9;replace a7:=a7.ext a9;have hC:Fr [] e0 e0:=Fr.refl _ _;have b3:=M;have a6:=I;have a8:=a7;refine z0e 0 h rfl rfl λa h=>v4k 1 hC h wn rfl rfl rfl rfl λa h=>z0e 2 h rfl rfl λa h=>?_;refine gSp (D:=49) h rfl ?_ ?_;clear h;intro g0 h;refine z0c 3 h rfl z8v rfl ?_ (hG:=(wy rfl));clear h a;intro a h;refine z0l 4 h rfl (λ_ hw=>a6.ext hw) rfl z5t rfl ?_ (hG:=(wy rfl));clear h a;intro a h;refine z0e 5 h rfl rfl ?_ (hG:=(wy rfl));clear h a;intro a h;refine z3b 6 h (wy rfl) rfl rfl (by first|exact i6 (by omega)|rfl) rfl λa h=>z1h (p:=(i-1)) (id0) 7 h rfl M.f rfl z6j rfl ?_ (hG:=(wy rfl));clear h a;intro f1 d3 a h;refine z1y 8 h (wy rfl) rfl (λ_ hw=>d3 _ (b3.f.ext hw)) z3o rfl λa h=>z0y 9 h rfl (λ_ hw=>a8.ext hw) z3o rfl ?_ (hG:=(wy rfl));clear h a;intro a h;refine z0d 10 rfl ?_;refine y5y h rfl rfl rfl rfl rfl rfl ?_;refine z0n h (z0a rfl (z0a rfl z0f)) j2l (y0v (q.fs.getD (i-1) id0) (q.fs.getD i id0) _) ?_;rintro _ h8 ⟨rfl,b0⟩ a h;have j0:=b0.size;replace M:=M.ext b0;replace I:=I.ext b0;replace a7:=a7.ext b0;replace hC:=hC.next b0;refine z0b ?_;refine u2o 11 hC h (wy rfl) rfl rfl rfl rfl λa h=>z0d 12 rfl ?_;refine z5k h rfl rfl rfl rfl λa h=>?_;refine z0b ?_;refine z0q ?_;clear hC b3 a6 a8;refine bk (h.sub (L':=[(1,_),(40,_),(41,_),(42,_),(59,_)]) (.c5 rfl rfl rfl rfl rfl)) (tn (cd rfl (λc4=>?_) (λc4=>?_)));refine sr (asg rfl (nn (rt (rb (tr (tr (rb (tr (r1 results101 rfl ?_)))))))));exfalso;first|omega|(have:=e5 (by omega) (by omega);omega)
 refine sk (bn' (tn (rg (z0v rfl rfl (wi6 (by omega)) (mv rfl (nl ?_))))));exact lpE (i+1) (.c4 rfl rfl rfl rfl) ⟨(q7.z4 q8 q9 a9 b0),by omega⟩ (by omega);clear h;intro g0 h;refine z2i 3 h rfl rfl rfl λa h=>z2i 4 h rfl rfl rfl λa h=>z2i 5 h rfl rfl rfl λa h=>z2i 6 h rfl rfl rfl λa h=>z2i 7 h rfl rfl rfl λa h=>z2i 8 h rfl rfl rfl λa h=>z2i 9 h rfl rfl rfl λa h=>z2i 10 h rfl rfl rfl λa h=>z2i 11 h rfl rfl rfl λa h=>z0d 12 rfl ?_;refine z4k h rfl rfl rfl rfl λa h=>?_;refine z0b ?_;refine z0q ?_;clear hC b3 a6 a8;refine bk (h.sub (L':=[(1,_),(40,_),(41,_),(42,_),(59,_)]) (.c5 rfl rfl rfl rfl rfl)) (tn (cf rfl (sk (bn' (tn (rg (z0v rfl rfl (wi6 (by omega)) (mv rfl (nl ?_)))))))));exact lpE (i+1) (.c4 rfl rfl rfl rfl) ⟨(q7.z3 q8 q9 a9),by omega⟩ (by omega);obtain rfl:i=q.fs.length:=by omega
 refine ex (te (te (xh (tn (sr (y7l idV (.int .i64 0) rfl (λa0 h9 f6 Z a5 j1=>(al j5v rfl rfl (λg9 i0 h0 O a1 j2=>(z5i rfl rfl O rfl j6e (λi1 O a2 j3=>(nn (sr (z6b z0f (ev1 rfl) rfl (asg rfl (nn (sr (mv rfl (fad rfl y5b ?_)))))))))))))))))));replace I:=(I.ext (q7.n2 a5 a1)).fr a2;refine z0g rfl I rfl z5t ?_;replace M:=J.ext (q1.z5 q2 q7 a5 a1 a2);replace Z:=(Z.ext a1).fr a2 (by intro k hk hb;simp at hk hb;omega);refine clv (us:=[]) (ws:=[.pointer (some ⟨g9,0,none⟩)]) rfl (ev1 rfl) (mkC func139) (x4j g9 a0 [] _ _ w0 _ J.h (by omega) M.h O Z (λk hk=>v2q (a:=[]) (b:=q.hs) (λi=>(by have:=hp.le i;simp only[List.count_append,List.nil_append]at this ⊢;omega)) _ ⟨q.hs.drop k,by simp⟩)) rfl (by intro g e;cases e) ?_;rintro f7 i2 ⟨Z,a3⟩;have j4:=a3.size;refine nn (sr (mv rfl (fad rfl z8v ?_)));replace I:=I.fr a3;refine z0g rfl I rfl z5t ?_;replace M:=J.ext (q1.z6 q2 q7 a5 a1 a2 a3);replace O:=O.fr a3;refine clv (us:=[]) (ws:=[.pointer (some ⟨g9,0,none⟩)]) rfl (ev1 rfl) (mkC func139) (x4j g9 a0 ([]++q.hs) _ _ w0 _ J.f (by omega) M.f O Z (λk hk=>v2q (a:=q.hs) (b:=q.fs) (λi=>(by have:=hp.le i;simp only[List.count_append]at this ⊢;omega)) _ ⟨q.fs.drop k,by simp⟩)) rfl (by intro g e;cases e) ?_;rintro f8 e7 ⟨Z,a4⟩;have j5:=a4.size;refine nn (sq (sr (fad rfl z8u ?_)));replace I:=I.fr a4;refine z0g rfl I rfl x3m (lnS rfl underlying35 (mv rfl (nn (bl ?_))));refine lpK (ι:=Nat) [(1,_),(9,_),(10,_),(72,_),(73,_)] (λy=>[(74,.int .i64 (y:Int))]) (λy w'=>Fr [a0] e7 w'/\y<=q.ts.length/\MapZ idV w' a0 (.int .i64 0) (y8p ((q.hs++q.fs)++(z9r (z2a q.ts) y 0)))) (λy=>q.ts.length-y) 0 (.c6 rfl rfl rfl rfl rfl rfl) ⟨Fr.refl _ _,⟨Nat.zero_le _,by rw[v2c,List.append_nil];exact Z⟩⟩ ?_;rintro y e1 ⟨U,⟨hy,Z⟩⟩;have j6:=U.size;refine kpC [(1,_),(9,_),(10,_),(72,_),(73,_),(74,_)] (.c6 rfl rfl rfl rfl rfl rfl) (sr (lt' rfl rfl (nn (sq (cd rfl (λc5=>?_) (λc5=>?_))))));have e6:=z5o J.tt y;have b8:=(J.tt _ (z0u (d:=tq0) (i:=y) (by omega))).1.len_le;unfold maxLen at b8;refine sk (tn (sq (bl (sr ?_))));replace M:=J.ext (((q1.z6 q2 q7 a5 a1 a2 a3).z1 a4).z1 U);refine z1a (tq0) rfl M.t rfl y6e z1d (λf2 d4=>?_);refine z1g rfl (d4 _ M.t) x2c (asg rfl (nn (sr (mv rfl (lnS rfl underlying46 (mv rfl (nn (bl ?_))))))));refine lpK (ι:=Nat) [(1,_),(9,_),(10,_),(72,_),(73,_),(74,_),(78,_),(79,_)] (λn=>[(80,.int .i64 (n:Int))]) (λn w'=>Fr [a0] e1 w'/\n<=(q.ts.getD y tq0).2.length/\MapZ idV w' a0 (.int .i64 0) (y8p ((q.hs++q.fs)++(z9r (z2a q.ts) y n)))) (λn=>(q.ts.getD y tq0).2.length-n) 0 (.d8 rfl rfl rfl rfl rfl rfl rfl rfl (.cons rfl .nil)) ⟨Fr.refl _ _,⟨Nat.zero_le _,Z⟩⟩ ?_;rintro n i3 ⟨b1,⟨hn,Z⟩⟩;have j7:=b1.size;refine kpC [(1,_),(9,_),(10,_),(72,_),(73,_),(74,_),(78,_),(79,_),(80,_)] (.d8 rfl rfl rfl rfl rfl rfl rfl rfl (.cons rfl .nil)) (sr (lt' rfl rfl (nn (sq (cd rfl (λc6=>?_) (λc6=>?_))))));have h2:=z1x (z7i J.tt (y:=y) (n:=n) (by omega) (by omega)).1;have e4:∀k,k<((q.ts.getD y tq0).2.getD n lq0).ths.length->(((q.hs++q.fs)++z9r (z2a q.ts) y n)++((q.ts.getD y tq0).2.getD n lq0).ths.take k).count (((q.ts.getD y tq0).2.getD n lq0).ths.getD k id0)<=100000:=λk hk=>by
  have e2:=x8e (k:=k) hv.thr (y:=y) (n:=n) (by omega) (by omega) hk;have e3:=hp.le (((q.ts.getD y tq0).2.getD n lq0).ths.getD k id0);rw[List.count_append]at e3;rw[List.count_append,List.count_append];rw[List.count_append,List.count_append,List.count_singleton,if_pos (by simp)]at e2;omega
 refine sk (tn (sq (bl (sr ?_))));replace M:=J.ext ((((q1.z6 q2 q7 a5 a1 a2 a3).z1 a4).z1 U).z1 b1);refine z1a (lq0) rfl (M.tt _ (z0u (d:=tq0) (i:=y) (by omega))).1 rfl x8g z1d (λf3 d5=>?_);refine z1i rfl (d5 _ (M.tt _ (z0u (d:=tq0) (i:=y) (by omega))).1) x7p (al v7p rfl rfl (λg3 i4 f5 b4 b6 j8=>?_));refine z0j (vs:=[_,_,_,_]) rfl rfl b4 v8x (λi5 b4 b7 j9=>?_) (h1:=(by first|(simp[Value.oneCell',S];done)|exact z4i.one _|exact z1k.one _));refine nn (rg (mv rfl (fad rfl z6n (z0g rfl b4 rfl z5t ?_))));replace M:=J.ext ((((q1.z6 q2 q7 a5 a1 a2 a3).z1 a4).z1 U).z3 b1 b6 b7);replace O:=((((O.fr a4).fr U).fr b1).ext b6).fr b7;replace Z:=(Z.ext b6).fr b7 (by intro k hk hb;simp at hk hb;omega);refine clv (us:=[]) (ws:=[.pointer (some ⟨g9,0,none⟩)]) rfl (ev1 rfl) (mkC func139) (x4j g9 a0 ((q.hs++q.fs)++z9r (z2a q.ts) y n) _ _ w0 _ (z7i J.tt (y:=y) (n:=n) (by omega) (by omega)).1 (by omega) (z7i M.tt (y:=y) (n:=n) (by omega) (by omega)).1 O Z (λk hk=>e4 k hk)) rfl (by intro g e;cases e) ?_;rintro f9 i7 ⟨Z,d9⟩;have k0:=d9.size;refine nl (bn' (tn (rg (z0v rfl rfl (wi6 (by omega)) (mv rfl (nl ?_))))));exact lpE (n+1) (.d8 rfl rfl rfl rfl rfl rfl rfl rfl (.cons rfl .nil)) ⟨((Fr.refl [a0] _).z4 b1 b6 b7 d9),⟨by omega,by rw[y7u (by omega),<-List.append_assoc];exact Z⟩⟩ (by omega);obtain rfl:n=(q.ts.getD y tq0).2.length:=by omega
 refine ex (te (te (xh (bn' (tn (rg (z0v rfl rfl (wi6 (by omega)) (mv rfl (nl ?_)))))))));exact lpE (y+1) (.c6 rfl rfl rfl rfl rfl rfl) ⟨((Fr.refl [a0] _).z2 U b1),⟨by omega,by rw[y7s (by omega)];exact Z⟩⟩ (by omega);obtain rfl:y=q.ts.length:=by omega
 rw[v7s (by rw[z6i];omega)]at Z;refine ex (te (te (xh (tn (sq (sr (fad rfl z8u ?_)))))));replace I:=I.fr U;refine z0g rfl I rfl x3m (lnS rfl underlying35 (mv rfl (kpL [(9,_),(91,_),(92,_),(93,_)] (.c4 rfl rfl rfl rfl) (nn (bl ?_)))));refine lpK (ι:=Nat) [(9,_),(91,_),(92,_)] (λy=>[(93,.int .i64 (y:Int))]) (λy w'=>Fr [] e1 w'/\y<=q.ts.length) (λy=>q.ts.length-y) 0 (.c4 rfl rfl rfl rfl) ⟨Fr.refl _ _,Nat.zero_le _⟩ ?_;rintro y e8 ⟨b2,hy⟩;have k1:=b2.size;refine kpC [(9,_),(91,_),(92,_),(93,_)] (.c4 rfl rfl rfl rfl) (sr (lt' rfl rfl (nn (sq (cd rfl (λc7=>?_) (λc7=>?_))))));have e6:=z5o J.tt y;have b8:=(J.tt _ (z0u (d:=tq0) (i:=y) (by omega))).1.len_le;unfold maxLen at b8;refine sk (tn (sq (bl (sr (mv rfl ?_)))));replace M:=J.ext ((((q1.z6 q2 q7 a5 a1 a2 a3).z1 a4).z1 U).n1 b2);refine z1a (tq0) rfl M.t rfl y6e z1d (λf4 d6=>?_);refine z1g rfl (d6 _ M.t) x2c (asg rfl (asg rfl (nn (sr (mv rfl (lnS rfl underlying46 (mv rfl (nn (bl ?_)))))))));refine lpK (ι:=Nat) [(9,_),(15,_),(91,_),(92,_),(93,_),(99,_)] (λn=>[(100,.int .i64 (n:Int))]) (λn w'=>Fr [] e8 w'/\n<=(q.ts.getD y tq0).2.length) (λn=>(q.ts.getD y tq0).2.length-n) 0 (.c7 rfl rfl rfl rfl rfl rfl rfl) ⟨Fr.refl _ _,Nat.zero_le _⟩ ?_;rintro n i8 ⟨b5,hn⟩;have k2:=b5.size;refine kpC [(9,_),(15,_),(91,_),(92,_),(93,_),(99,_),(100,_)] (.c7 rfl rfl rfl rfl rfl rfl rfl) (sr (lt' rfl rfl (nn (sq (cd rfl (λc8=>?_) (λc8=>?_))))));have h5:=hp.once y (by omega) n (by rw[z2s];omega);refine sk (tn (sq (bl (sr (mv rfl (asg rfl (nn (sr ?_))))))));replace O:=((O.fr a4).fr U).ext (b2.n1 b5);refine z3v rfl O j5j (mv rfl (z0v rfl rfl (wi6 (by omega)) (z5m rfl (us underlying3) underlying5 (wi8 (by omega)) (mv rfl (z1v (cs:=[_,_]) (ev2 rfl rfl) j1p (z0h rfl rfl rfl (z0h rfl rfl rfl z0s)) rfl ?_)))));replace Z:=Z.ext (b2.n1 b5);refine y4n (V:=idV) (z:=(.int .i64 0)) (k:=(⟨(y:Int)+1,(n:Int)⟩:LId)) (v:=.int .i64 (((((q.hs++q.fs)++y1c (z2a q.ts))).count (⟨(y:Int)+1,(n:Int)⟩:LId):Nat):Int)) rfl rfl Z z5u underlying232 zvI rfl rfl (ne' rfl rfl (kpL [(9,_),(15,_),(91,_),(92,_),(93,_),(99,_),(100,_),(110,_)] (.c8 rfl rfl rfl rfl rfl rfl rfl rfl) (nn (cd rfl (λc9=>?_) (λc9=>?_)))));refine sr (asg rfl (kpL [(2,_)] (.cons rfl .nil) (nn (rt (rb (tr (tr (rb (rb (tr (tr (rb (tr (r1 results101 rfl ?_))))))))))))));exfalso;omega;refine sk (bn' (tn (rg (z0v rfl rfl (wi6 (by omega)) (mv rfl (nl ?_))))));exact lpE (n+1) (.c7 rfl rfl rfl rfl rfl rfl rfl) ⟨b5,by omega⟩ (by omega);obtain rfl:n=(q.ts.getD y tq0).2.length:=by omega
 refine ex (te (te (xh (bn' (tn (rg (z0v rfl rfl (wi6 (by omega)) (mv rfl (nl ?_)))))))));exact lpE (y+1) (.c4 rfl rfl rfl rfl) ⟨(b2.n1 b5),by omega⟩ (by omega);obtain rfl:y=q.ts.length:=by omega
 refine ex (te (te (xh (tn (sr (asg rfl (nn (rt (r1 results101 rfl ?_)))))))));exact⟨_,rfl,rfl,((((q1.z6 q2 q7 a5 a1 a2 a3).z1 a4).z1 U).n1 b2)⟩
theorem y9h (q:FbQ)(w0:World)(I:FbAt w0 q)(U:q.ts.length=6)(hv:TabV (z2a q.ts))(hc:CrsV (z2a q.ts) q.cs)(hp:PlaceV (z2a q.ts) q.hs q.fs):Rets prog 45 #[.agg #[.slice q.t.1 q.t.2.1 q.t.2.2,.slice q.c.1 q.c.2.1 q.c.2.2,.slice q.h.1 q.h.2.1 q.h.2.2,.slice q.f.1 q.f.2.1 q.f.2.2]] w0 λr w'=>r=.int .i64 0/\Fr [] w0 w':=by
 refine we [(0,.agg #[.slice q.t.1 q.t.2.1 q.t.2.2,.slice q.c.1 q.c.2.1 q.c.2.2,.slice q.h.1 q.h.2.1 q.h.2.2,.slice q.f.1 q.f.2.1 q.f.2.2])] func45 rfl ntmps45 rfl (.cons rfl .nil) ?_;have J:=I;refine sr (bx rfl rfl rfl (λg1 w1 a0 D M z1=>(asg rfl (nn (sq (sr (fad rfl z8u (z0g rfl D rfl x3m ?_))))))));replace I:=J.ext M;refine cl (ev1 rfl) (mkC func99) (u7h _ _ _ I.t I.tt U hv) rfl ?_;rintro _ w2 ⟨rfl,O⟩;refine asg rfl (nn (sr (mv rfl (ne' rfl rfl (nn (cd rfl (λc0=>?_) (λc0=>?_)))))));refine sr (mv rfl (asg rfl (nn (rt (tr (r1 results45 rfl ?_))))));exact absurd rfl (by assumption);refine sk (tn (sq (sr ?_)));replace D:=D.ext O;refine z0k rfl D x5i ?_;replace I:=J.ext (M.n1 O);refine cl (ev1 rfl) (mkC func100) (x9k q _ I U hc) rfl ?_;rintro _ w3 ⟨rfl,Z⟩;refine asg rfl (nn (sr (mv rfl (ne' rfl rfl (nn (cd rfl (λc1=>?_) (λc1=>?_)))))));refine sr (mv rfl (asg rfl (nn (rt (tr (r1 results45 rfl ?_))))));exact absurd rfl (by assumption);refine sk (tn (sr ?_));replace D:=D.ext Z;refine z0k rfl D x5i ?_;replace I:=J.ext (M.n2 O Z);refine cl (ev1 rfl) (mkC func101) (x9w q _ I U hv hp) rfl ?_;rintro _ w4 ⟨rfl,q4⟩;refine asg rfl (nn (rt (r1 results45 rfl ?_)));exact⟨_,rfl,rfl,(M.n3 O Z q4)⟩
theorem v6e (v:Value)(l:List Pa)(w0:World)(I:Sl z1r w0 v l)(hl:l.length<=100000):Rets prog 108 #[v] w0 λr w'=>∃g,r=.slice (some ⟨g,0,none⟩) l.length l.length/\w0.heap.size<=g/\Lw.Own z1r 100 w0.heap.size w' r l/\Fr [] w0 w':=by
 obtain⟨A,c,rfl,a0,Z,U⟩:=id I;clear U;unfold maxLen at Z;refine we [(0,.slice A l.length c)] func108 rfl ntmps108 rfl (.cons rfl .nil) ?_;have J:=I;refine sr (asg rfl (nn (sr (mv rfl (lnS rfl underlying54 (z1f (m:=l.length) (c:=l.length) (pa0) rfl rfl z8x y6p rfl (λO w1 a1 D M z1=>(asg rfl (nn (sr (mv rfl (mv rfl ?_))))))))))));replace I:=J.ext M;refine z7k (zs:=List.replicate l.length pa0) (by rw[List.length_replicate];rfl) rfl (by rw[List.length_replicate];exact D) I (by rw[List.length_replicate]) z8x (λw2 D q2 z2=>?_);rw[List.length_replicate]at D;refine nn (sr (mv rfl (asg rfl (nn (rt (r1 results108 rfl ?_))))));exact⟨_,rfl,O,rfl,by omega,D.low (by omega),(M.z1 q2)⟩
theorem v6g (v:Value)(l:List LpQ)(w0:World)(I:Sl z4i w0 v l)(hl:l.length<=100000):Rets prog 75 #[v] w0 λr w'=>∃g,r=.slice (some ⟨g,0,none⟩) l.length l.length/\w0.heap.size<=g/\Lw.Own z4i 89 w0.heap.size w' r l/\Fr [] w0 w':=by
 obtain⟨A,c,rfl,a0,Z,U⟩:=id I;clear U;unfold maxLen at Z;refine we [(0,.slice A l.length c)] func75 rfl ntmps75 rfl (.cons rfl .nil) ?_;have J:=I;refine sr (asg rfl (nn (sr (mv rfl (lnS rfl underlying46 (z1f (m:=l.length) (c:=l.length) (lq0) rfl rfl x8g v7p rfl (λO w1 a1 D M z1=>(asg rfl (nn (sr (mv rfl (mv rfl ?_))))))))))));replace I:=J.ext M;refine z7k (zs:=List.replicate l.length lq0) (by rw[List.length_replicate];rfl) rfl (by rw[List.length_replicate];exact D) I (by rw[List.length_replicate]) x8g (λw2 D q2 z2=>?_);rw[List.length_replicate]at D;refine nn (sr (mv rfl (asg rfl (nn (rt (r1 results75 rfl ?_))))));exact⟨_,rfl,O,rfl,by omega,D.low (by omega),(M.z1 q2)⟩
theorem v4p (v:Value)(l:List Cx)(w0:World)(I:Sl z4o w0 v l)(hl:l.length<=100000000):Rets prog 77 #[v] w0 λr w'=>∃g,r=.slice (some ⟨g,0,none⟩) l.length l.length/\w0.heap.size<=g/\Lw.Own z4o 109 w0.heap.size w' r l/\Fr [] w0 w':=by
 obtain⟨A,c,rfl,a0,Z,U⟩:=id I;clear U;unfold maxLen at Z;refine we [(0,.slice A l.length c)] func77 rfl ntmps77 rfl (.cons rfl .nil) ?_;have J:=I;refine sr (asg rfl (nn (sr (mv rfl (lnS rfl underlying36 (z1f (m:=l.length) (c:=l.length) (cx0) rfl rfl v1j v2h rfl (λO w1 a1 D M z1=>(asg rfl (nn (sr (mv rfl (mv rfl ?_))))))))))));replace I:=J.ext M;refine z7k (zs:=List.replicate l.length cx0) (by rw[List.length_replicate];rfl) rfl (by rw[List.length_replicate];exact D) I (by rw[List.length_replicate]) v1j (λw2 D q2 z2=>?_);rw[List.length_replicate]at D;refine nn (sr (mv rfl (asg rfl (nn (rt (r1 results77 rfl ?_))))));exact⟨_,rfl,O,rfl,by omega,D.low (by omega),(M.z1 q2)⟩
theorem u9t (v:Value)(l:List YQ)(w0:World)(I:Sl z2r w0 v l)(hl:l.length<=100000):Rets prog 107 #[v] w0 λr w'=>∃g,r=.slice (some ⟨g,0,none⟩) l.length l.length/\w0.heap.size<=g/\Lw.Own z2r 82 w0.heap.size w' r l/\Fr [] w0 w':=by
 obtain⟨A,c,rfl,a0,Z,U⟩:=id I;clear U;unfold maxLen at Z;refine we [(0,.slice A l.length c)] func107 rfl ntmps107 rfl (.cons rfl .nil) ?_;have J:=I;refine sr (asg rfl (nn (sr (mv rfl (lnS rfl underlying33 (z1f (m:=l.length) (c:=l.length) (yq0) rfl rfl y1f y1g rfl (λO w1 a1 D M z1=>(asg rfl (nn (sr (mv rfl (mv rfl ?_))))))))))));replace I:=J.ext M;refine z7k (zs:=List.replicate l.length yq0) (by rw[List.length_replicate];rfl) rfl (by rw[List.length_replicate];exact D) I (by rw[List.length_replicate]) y1f (λw2 D q2 z2=>?_);rw[List.length_replicate]at D;refine nn (sr (mv rfl (asg rfl (nn (rt (r1 results107 rfl ?_))))));exact⟨_,rfl,O,rfl,by omega,D.low (by omega),(M.z1 q2)⟩
theorem u5y {I qs:List IQ}{n:Nat}(hn:n<=qs.length)(D:(plB qs).take n=trimB (plB qs))(hl:I.length=n)(h:∀j,j<n->(I.getD j iq0).2=(qs.getD j iq0).2):plB I=trimB (plB qs):=by
 rw[<-D];refine List.ext_getElem (by simp[hl,hn]) λj J O=>?_;have M:j<n:=by simpa[hl] using J
 have:=h j M;rw[List.getD,List.getD,List.getElem?_eq_getElem (by omega),List.getElem?_eq_getElem (by omega)]at this;simpa[plB] using this
set_option maxHeartbeats 2000000 in
theorem y4u (v:Value)(qs:List IQ)(w0:World)(U:Sl z5p w0 v qs)(Z:IqAt w0 qs)(hl:qs.length<=40)(h4:z9j qs):Rets prog 60 #[v] w0 λr w'=>(∃fs,RwO 37 87 w0.heap.size w' r fs/\plB fs=trimB (plB qs)/\∃g,r=.slice (some ⟨g,0,none⟩) fs.length fs.length)/\Fr [] w0 w':=by
 obtain⟨A,c,rfl,b3,hM,hA⟩:=id U;clear hA;unfold maxLen at hM;refine we [(0,.slice A qs.length c)] func60 rfl ntmps60 rfl (.cons rfl .nil) ?_;have a7:=U;have a5:=Z;refine sr (asg rfl (nn (sr (mv rfl (lnS rfl underlying30 (asg rfl (nn (sq (bl ?_)))))))));refine lpK (ι:=Nat) [(0,_)] (λn=>[(3,.int .i64 (n:Int))]) (λn w'=>Fr [] w0 w'/\n<=qs.length/\∀j,n<=j->(qs.getD j iq0).2=[]) (λn=>n) qs.length (.c2 rfl rfl) ⟨Fr.refl _ _,⟨Nat.le_refl _,λj O=>x7e O⟩⟩ ?_;rintro n w1 ⟨q1,⟨hn,a4⟩⟩;have z1:=q1.size;refine kpC [(0,_),(3,_)] (.c2 rfl rfl) ?_;have a6:=z1x (z1u a5 (n-1));refine sq (sq ?_);refine rbo (r:=18) (L':=[(0,_),(3,_)]) (((0<(n:Int))/\(((qs.getD (n-1) iq0).1.2.1:Int)=0))) (.c2 rfl rfl) ?_ ?_;refine mv rfl (gt' rfl rfl (mv rfl (gs 10 rfl (λg0=>?_) (λg0=>?_))));refine gY rfl (mv rfl (gY rfl (mv rfl (gY rfl (z2u rfl rfl (wi6 (by omega)) (gY rfl ?_))))));replace U:=a7.ext q1;refine z1a (p:=n-1) (iq0) rfl U rfl y2z (by omega) (λa9 a2=>?_);exact gY rfl (z1g rfl (a2 _ U) z5t (gY rfl (lnS rfl underlying37 (gY rfl (eq' rfl rfl (pkt rfl rfl (rbe rfl (.c2 rfl rfl))))))));exact gN rfl rfl (gN rfl rfl (gN rfl rfl (gN rfl rfl (gN rfl rfl (gN rfl rfl (gN rfl rfl (pkf rfl rfl (rbe rfl (.c2 rfl rfl)))))))));refine tn (cd rfl (λc0=>?_) (λc0=>?_));refine sk (tn (bl (rg (mv rfl (z2u rfl rfl (wi6 (by omega)) (asg rfl (nl (bn' ?_))))))));exact lpE (n-1) (.c2 rfl (congrArg (λz=>some (Value.int .i64 z)) (show (n:Int)-1=((n-1:Nat):Int) by omega))) ⟨q1,⟨by omega,λj O=>by
  by_cases e:n<=j;exact a4 j e;obtain rfl:j=n-1:=by omega
  exact List.eq_nil_of_length_eq_zero (by omega)⟩⟩ (by omega)
 have a8:=y1l (plB qs) n (by rw[List.length_map];exact hn) (λj O=>by rw[z3m];exact a4 j O) (by
  by_cases e:n=0;exact .inl e;refine .inr λh=>c0 ⟨by omega,?_⟩;rw[z3m]at h;rw[h]at a6;rw[a6];rfl)
 refine ex (te (te (xh (tn (sr (mv rfl (z1f (m:=n) (c:=n) (iq0) rfl rfl y2z j7f rfl (λI w2 b1 M q2 z2=>(asg rfl (nn (sq (sr (mv rfl (mv rfl (nn (bl ?_))))))))))))))));refine lpK (ι:=Nat×List IQ) [(0,_),(4,_),(23,_)] (λp=>[(24,.int .i64 (p.1:Int))]) (λp w'=>Fr [I] w2 w'/\p.1<=n/\p.2.length=n/\Lw.Own z5p 37 w0.heap.size w' (.slice (some ⟨I,0,none⟩) n n) p.2/\(∀j,j<p.1->(p.2.getD j iq0).2=(qs.getD j iq0).2)/\PreO 87 (I+1) w' p.2 p.1) (λp=>n-p.1) (0,List.replicate n iq0) (.c4 rfl rfl rfl rfl) ⟨Fr.refl _ _,⟨Nat.zero_le _,by simp,M.low (by omega),λj O=>absurd O (by simp),PreO.zero⟩⟩ ?_;rintro⟨i,ps⟩ w3 ⟨q3,⟨hi,D,M,a0,J⟩⟩;simp only at hi M a0 J D;have z3:=q3.size;refine kpC [(0,_),(4,_),(23,_),(24,.int .i64 (i:Int))] (.c4 rfl rfl rfl rfl) (sr (lt' rfl rfl (nn (sq (cd rfl (λc1=>?_) (λc1=>?_))))));refine sk (tn (sq (bl (sr (mv rfl (asg rfl (nn (rg (mv rfl (mv rfl (mv rfl (mv rfl ?_))))))))))));replace U:=a7.ext (q1.z2 q2 q3);refine z1a (iq0) rfl U rfl y2z z1d (λb0 a3=>?_);refine z1g rfl (a3 _ U) z5t ?_;replace Z:=a5.ext (q1.z2 q2 q3);refine cl (ev1 rfl) x2f (z3q _ (qs.getD i iq0).2 _ (z1u Z i) (by have:=z3g h4 i;omega)) rfl ?_;rintro _ w4 ⟨a1,rfl,b2,hX,q4⟩;have z4:=q4.size;replace M:=M.ext q4;refine z9e (p:=i) (E:=z5p) rfl rfl y2z (z4y (i:=i) ((((some ⟨a1,0,none⟩,(qs.getD i iq0).2.length,(qs.getD i iq0).2.length),(qs.getD i iq0).2):IQ)) rfl rfl M (by omega) rfl u5b (λw5 M q5 z5=>(kpL [(0,_),(4,_),(23,_),(24,_)] (.c4 rfl rfl rfl rfl) (nl (bn' (tn (rg (z0v rfl rfl (wi6 (by omega)) (mv rfl (nl ?_))))))))));replace J:=(J.ext q4).fr q5 (by intro k Z;simp at Z;omega);replace hX:=hX.fr q5 (by intro k Z hb;simp[z0x]at Z hb;omega);exact lpE ((i+1,ps.set i (((some ⟨a1,0,none⟩,(qs.getD i iq0).2.length,(qs.getD i iq0).2.length),(qs.getD i iq0).2):IQ))) (.c4 rfl rfl rfl rfl) ⟨((Fr.refl [I] _).z3 q3 q4 q5),⟨by simp only;omega,by simp only[List.length_set];exact D,M,λj O=>by
  simp only at O ⊢;rw[z1j (by omega)];split;rename_i e;subst e;rfl;exact a0 j (by omega),J.put (by omega) (hX.low (by omega))⟩⟩ (by simp only;omega)
 obtain rfl:i=n:=by omega
 refine ex (te (te (xh (tn (sr (mv rfl (asg rfl (kpL [(2,_)] (.cons rfl .nil) (nn (rt (r1 results60 rfl ?_)))))))))));exact⟨_,rfl,⟨ps,⟨D▸M,(D.symm▸J).all (by omega)⟩,u5y hn a8 D a0,I,by rw[D]⟩,(q1.z2 q2 q3)⟩
def PreY (base:Nat)(w:World)(ys:List YQ)(i:Nat):Prop:=∀j,j<i->Lw.Own z1r 100 base w (slv (ys.getD j yq0).pe) (ys.getD j yq0).pes
theorem PreY.ext {base i:Nat}{w w':World}{ys:List YQ}(h:PreY base w ys i)(hf:Fr [] w w'):PreY base w' ys i:=λj D=>(h j D).ext hf
theorem PreY.fr {base i:Nat}{w w':World}{ys:List YQ}{S:List Nat}(h:PreY base w ys i)(hf:Fr S w w')(I:∀k∈S,k<base):PreY base w' ys i:=λj D=>(h j D).fr hf λk M J=>by
 have:=I k M;have:=((h j D).blk k J).1;omega
theorem PreY.put {base i:Nat}{w:World}{ys:List YQ}{q:YQ}(h:PreY base w ys i)(D:i<ys.length)(I:Lw.Own z1r 100 base w (slv q.pe) q.pes):PreY base w (ys.set i q) (i+1):=λj J=>by
 rw[z1j D]
 split
 ·exact I
 exact h j (by omega)
theorem y5u {α:Type}{l:List α}{i:Nat}(d:α)(h:i<l.length):l[i]?=some (l.getD i d):=by rw[List.getD,List.getElem?_eq_getElem h];rfl
theorem y2s {α β:Type}{f:α->β}{l:List α}{i:Nat}{x d:α}(h:f x=f (l.getD i d)):(l.set i x).map f=l.map f:=by
 rw[List.map_set];apply List.ext_getElem?;intro j;rw[List.getElem?_set];split;rename_i e;subst e;split;rename_i D;rw[List.length_map]at D;rw[List.getElem?_map,List.getElem?_eq_getElem D,h,List.getD,List.getElem?_eq_getElem D];rfl;rename_i D;rw[List.getElem?_eq_none (by omega)];rfl
theorem v3z {α:Type}{l m:List α}{i:Nat}{q d:α}(h:∀j,i<=j->l.getD j d=m.getD j d)(D:i<l.length):∀j,i+1<=j->(l.set i q).getD j d=m.getD j d:=λj I=>by
 rw[z1j D,if_neg (by omega)];exact h j (by omega)
set_option maxHeartbeats 1000000 in
theorem x0b (v:Value)(ys:List YQ)(w0:World)(hs:Sl z2r w0 v ys)(hp:YsA w0 ys)(hl:ys.length<=1000)(a2:∀i,(ys.getD i yq0).pes.length<=100000):Rets prog 61 #[v] w0 λr w'=>(∃g ps,r=.slice (some ⟨g,0,none⟩) ys.length ys.length/\w0.heap.size<=g/\YsO τd w0.heap.size w' r ps/\ps.length=ys.length/\ps.map YQ.p=ys.map YQ.p)/\Fr [] w0 w':=by
 obtain⟨A,c,rfl,a6,hM,hA⟩:=id hs;clear hA;unfold maxLen at hM;refine we [(0,.slice A ys.length c)] func61 rfl ntmps61 rfl (.cons rfl .nil) ?_;have a8:=hs;have a1:=hp;refine sr (asg rfl (nn (sr (mv rfl (cl (ev1 rfl) (mkC func107) (u9t _ ys _ hs (by omega)) rfl ?_)))));rintro _ w1 ⟨U,rfl,a7,I,q1⟩;have z1:=q1.size;have a5:=(I.blk U (by simp[z0x])).2;refine asg rfl (nn (sq (sr (mv rfl (lnS rfl underlying33 (mv rfl (nn (bl ?_))))))));refine lpK (ι:=Nat×List YQ) [(3,_),(8,_)] (λp=>[(9,.int .i64 (p.1:Int))]) (λp w'=>Fr [U] w1 w'/\p.1<=ys.length/\Lw.Own z2r 82 w0.heap.size w' (.slice (some ⟨U,0,none⟩) ys.length ys.length) p.2/\p.2.length=ys.length/\p.2.map YQ.p=ys.map YQ.p/\(∀j,p.1<=j->p.2.getD j yq0=ys.getD j yq0)/\PreY (U+1) w' p.2 p.1) (λp=>ys.length-p.1) (0,ys) (.c3 rfl rfl rfl) ⟨Fr.refl _ _,⟨Nat.zero_le _,I.low (by omega),rfl,rfl,λ_ _=>rfl,λj hj=>absurd hj (by simp)⟩⟩ ?_;rintro⟨i,ps⟩ w2 ⟨q2,⟨hi,I,D,O,J,M⟩⟩;simp only at hi I D O J M;have z2:=q2.size;refine kpC [(3,_),(8,_),(9,.int .i64 (i:Int))] (.c3 rfl rfl rfl) (sr (lt' rfl rfl (nn (sq (cd rfl (λc0=>?_) (λc0=>?_))))));refine sk (tn (sq (bl (sr (mv rfl (asg rfl (nn (rg (mv rfl (mv rfl (mv rfl (mv rfl (z1a (yq0) rfl I.sl rfl y1f z1d (λa3 a0=>?_))))))))))))));refine fad rfl z6o (z8b rfl (a0 _ I.sl) rfl y3f ?_);replace hp:=a1.ext (q1.z1 q2);refine cl (ev1 rfl) (mkC func108) (v6e _ (ys.getD i yq0).pes _ (by rw[J i (Nat.le_refl _)];exact hp i) (a2 i)) rfl ?_;rintro _ w3 ⟨Z,rfl,a4,hX,q3⟩;have z3:=q3.size;replace I:=I.ext q3;refine z9e (p:=i) (E:=z2r) rfl rfl y1f (x3p rfl z6o rfl ?_);refine u1y (E:=z2r) (i:=i) (f:=4) (ys.getD i yq0) ({ (ys.getD i yq0) with pe:=(some ⟨Z,0,none⟩,(ys.getD i yq0).pes.length,(ys.getD i yq0).pes.length) }:YQ) rfl rfl I (by rw[<-J i (Nat.le_refl _)];exact y5u _ (by omega)) (by decide) rfl rfl rfl j6r (λw4 I q4 z4=>?_);refine kpL [(3,_),(8,_),(9,_)] (.c3 rfl rfl rfl) (nl (bn' (tn (rg (z0v rfl rfl (wi6 (by omega)) (mv rfl (nl ?_)))))));replace M:=(M.ext q3).fr q4 (by intro k hk;simp at hk;omega);replace hX:=hX.fr q4 (by intro k hk hb;simp[z0x]at hk hb;omega);exact lpE ((i+1,ps.set i ({ (ys.getD i yq0) with pe:=(some ⟨Z,0,none⟩,(ys.getD i yq0).pes.length,(ys.getD i yq0).pes.length) }:YQ))) (.c3 rfl rfl rfl) ⟨((Fr.refl [U] _).z3 q2 q3 q4),⟨by simp only;omega,I,by simp only[List.length_set];exact D,(y2s (d:=yq0) (by rw[J i (Nat.le_refl _)])).trans O,v3z J (by omega),M.put (by omega) (hX.low (by omega))⟩⟩ (by simp only;omega);obtain rfl:i=ys.length:=by omega
 refine ex (te (te (xh (tn (sr (mv rfl (asg rfl (nn (rt (r1 results61 rfl ?_))))))))));exact⟨_,rfl,⟨U,ps,rfl,by omega,⟨D▸I,λj hj=>(M j (by omega)).low (by omega)⟩,D,O⟩,(q1.z1 q2)⟩
theorem zv46 (w:World):(zeroValue 46).run prog w=.ok (.slice none 0 0) w:=by kernel_rfl
def PreT (base:Nat)(w:World)(us:List TQ)(i:Nat):Prop:=(∀j,j<i->Lw.Own z4i 89 base w (slv (us.getD j tq0).1) (us.getD j tq0).2)/\(∀j k,j<i->k<i->j≠k->∀b∈z0x (slv (us.getD j tq0).1),b∉z0x (slv (us.getD k tq0).1))/\∀j,j<i->∀q∈(us.getD j tq0).2,LpO τd base w q
theorem PreT.fr {base i:Nat}{w w':World}{us:List TQ}{S:List Nat}(h:PreT base w us i)(hf:Fr S w w')(M:∀k∈S,k<base):PreT base w' us i:=by
 have o:∀ {α:Type} {E:Enc α} {T:Nat} {v:Value} {ys:List α},Lw.Own E T base w v ys->Lw.Own E T base w' v ys:=λI=>I.fr hf λk U O=>by have:=M k U;have:=(I.blk k O).1;omega
 exact⟨λj D=>o (h.1 j D),h.2.1,λj D q J=>⟨o (h.2.2 j D q J).1,o (h.2.2 j D q J).2⟩⟩
theorem PreT.put {base i:Nat}{w:World}{us:List TQ}{u:SV}{M:List LpQ}(h:PreT base w us i)(D:i<us.length)(Z:Lw.Own z4i 89 base w (slv u) M)(hq:∀q∈M,LpO τd base w q)(hn:∀j,j<i->∀b∈z0x (slv (us.getD j tq0).1),b∉z0x (slv u)):PreT base w (us.set i (u,M)) (i+1):=by
 refine⟨λj O=>?_,λj k O hk J=>?_,λj O=>?_⟩;rw[z1j D];split;exact Z;exact h.1 j (by omega);rw[z1j D,z1j D];split;rw[if_neg (by omega)];exact λb U I=>hn k (by omega) b I U;split;exact hn j (by omega);exact h.2.1 j k (by omega) (by omega) J;rw[z1j D];split;exact hq;exact h.2.2 j (by omega)
def PreL (base:Nat)(w:World)(rs:List LpQ)(i:Nat):Prop:=∀j,j<i->LpO τd base w (rs.getD j lq0)
theorem PreL.fr {base i:Nat}{w w':World}{J:List LpQ}{S:List Nat}(h:PreL base w J i)(hf:Fr S w w')(M:∀k∈S,k<base):PreL base w' J i:=λj I=>by
 have o:∀ {α:Type} {E:Enc α} {T:Nat} {v:Value} {ys:List α},Lw.Own E T base w v ys->Lw.Own E T base w' v ys:=λD=>D.fr hf λk U O=>by have:=M k U;have:=(D.blk k O).1;omega
 exact⟨o (h j I).1,o (h j I).2⟩
theorem PreL.put {base i:Nat}{w:World}{D:List LpQ}{x y:LpQ}(h:PreL base w D i)(I:i<D.length)(J:LpO τd base w y):PreL base w ((D.set i x).set i y) (i+1):=λj M=>by
 rw[List.set_set,z1j I]
 split
 ·exact J
 exact h j (by omega)
theorem j2a {base i:Nat}{w:World}{v:Value}{us:List TQ}{u:SV}{r r':List LpQ}(h:Lw.Own z3y 46 base w v (us.set i (u,r))):Lw.Own z3y 46 base w v (us.set i (u,r')):=by
 have e:∀x:List LpQ,(us.set i (u,x)).flatMap z3y.enc=(us.set i (u,r)).flatMap z3y.enc:=λx=>by
  rw[List.flatMap_def,List.flatMap_def,List.map_set,List.map_set];rfl
 rcases h with ⟨D,I⟩|⟨g,cap,cur,D,I,J,M,O,U,Z⟩
 refine .inl ⟨D,?_⟩;have:=congrArg List.length I;simp only[List.length_set,List.length_nil]at this;exact List.length_eq_zero_iff.1 (by rw[List.length_set];exact this);refine .inr ⟨g,cap,cur,by rw[D];simp,I,J,by simpa using M,O,U,?_⟩;rw[e r',<-Z];simp
theorem u5w {us ts:List TQ}{i:Nat}{x:TQ}(h:∀j,j<i->(us.getD j tq0).2.map LpQ.p=(ts.getD j tq0).2.map LpQ.p)(D:i<us.length)(I:x.2.map LpQ.p=(ts.getD i tq0).2.map LpQ.p):∀j,j<i+1->((us.set i x).getD j tq0).2.map LpQ.p=(ts.getD j tq0).2.map LpQ.p:=λj J=>by
 rw[z1j D]
 split
 ·rename_i e;subst e;exact I
 exact h j (by omega)
theorem y4k {us ts:List TQ}(hl:us.length=ts.length)(h:∀j,j<ts.length->(us.getD j tq0).2.map LpQ.p=(ts.getD j tq0).2.map LpQ.p):z2a us=z2a ts:=by
 refine List.ext_getElem (by simp[hl]) λj J I=>?_;have D:j<ts.length:=by simpa using I
 have:=h j D;rw[List.getD,List.getD,List.getElem?_eq_getElem (by omega),List.getElem?_eq_getElem D]at this;simpa using this
theorem PreT.tbo {b base:Nat}{w:World}{v:Value}{us:List TQ}(M:Lw.Own z3y 46 b w v us)(h:PreT base w us us.length)(hb:b<=base):TbO τd b w v us:=
 ⟨M,λi D=>(h.1 i D).low hb,λi j D J I=>h.2.1 i j D J I,λi D q O=>(h.2.2 i D q O).low hb⟩
set_option maxHeartbeats 4000000 in
theorem y6b (v:Value)(ts:List TQ)(w0:World)(hs:Sl z3y w0 v ts)(D:TabAt w0 ts)(hl:ts.length<=1000)(b8:∀p∈ts,p.2.length<=100000/\∀q∈p.2,q.ths.length<=100000/\q.pas.length<=100000):Rets prog 62 #[v] w0 λr w'=>(∃g us,r=.slice (some ⟨g,0,none⟩) ts.length ts.length/\w0.heap.size<=g/\TbO τd w0.heap.size w' r us/\us.length=ts.length/\z2a us=z2a ts)/\Fr [] w0 w':=by
 obtain⟨A,c,rfl,g3,hM,hA⟩:=id hs;clear hA;unfold maxLen at hM;refine we [(0,.slice A ts.length c)] func62 rfl ntmps62 rfl (.cons rfl .nil) ?_;have f1:=hs;have b2:=D;refine sr (asg rfl (nn (sr (mv rfl (lnS rfl underlying35 (z1f (m:=ts.length) (c:=ts.length) (tq0) rfl rfl y6e zv46 rfl (λa2 w1 f6 M q1 z1=>?_)))))));have e8:=(M.blk a2 (by simp[z0x])).2;refine asg rfl (nn (sq (sr (mv rfl (lnS rfl underlying35 (mv rfl (nn (bl ?_))))))));refine lpK (ι:=Nat×List TQ) [(3,_),(11,_),(12,_)] (λp=>[(13,.int .i64 (p.1:Int))]) (λp w'=>Fr [a2] w1 w'/\p.1<=ts.length/\p.2.length=ts.length/\Lw.Own z3y 46 w0.heap.size w' (.slice (some ⟨a2,0,none⟩) ts.length ts.length) p.2/\(∀j,j<p.1->(p.2.getD j tq0).2.map LpQ.p=(ts.getD j tq0).2.map LpQ.p)/\PreT (a2+1) w' p.2 p.1) (λp=>ts.length-p.1) (0,List.replicate ts.length tq0) (.c4 rfl rfl rfl rfl) ⟨Fr.refl _ _,⟨Nat.zero_le _,by simp,M.low (by omega),λj hj=>absurd hj (by simp),⟨λj hj=>absurd hj (by simp),λj k hj=>absurd hj (by simp),λj hj=>absurd hj (by simp)⟩⟩⟩ ?_;rintro⟨i,us⟩ w2 ⟨q2,⟨hi,a8,M,d4,a7⟩⟩;simp only at hi a8 M d4 a7;have z2:=q2.size;have e4:=a7;refine kpC [(3,_),(11,_),(12,_),(13,.int .i64 (i:Int))] (.c4 rfl rfl rfl rfl) ?_;have e5:∀j,j<i->∀b∈z0x (slv (us.getD j tq0).1),b<w2.heap.size:=λj hj b Z=>((a7.1 j hj).blk b Z).2;refine sr (lt' rfl rfl (nn (sq (cd rfl (λc0=>?_) (λc0=>?_)))));have g0:=z1x (b2 _ (z0u (d:=tq0) (i:=i) (by omega))).1;have g5:=(b8 _ (z0u (d:=tq0) (i:=i) (by omega))).1;refine sk (tn (sq (bl (sr (mv rfl ?_)))));replace hs:=f1.ext (q1.z1 q2);refine z1a (tq0) rfl hs rfl y6e z1d (λf2 d9=>?_);refine z1g rfl (d9 _ hs) x2c (asg rfl (asg rfl (nn (sr (mv rfl (mv rfl (mv rfl ?_)))))));replace D:=b2.ext (q1.z1 q2);refine cl (ev1 rfl) (mkC func75) (v6g _ (ts.getD i tq0).2 _ (D _ (z0u (d:=tq0) (i:=i) (by omega))).1 (b8 _ (z0u (d:=tq0) (i:=i) (by omega))).1) rfl ?_;rintro _ w3 ⟨O,rfl,f7,U,q3⟩;have z3:=q3.size;have e9:=(U.blk O (by simp[z0x])).2;replace M:=M.ext q3;refine z9e (p:=i) (E:=z3y) rfl rfl y6e (z4y (i:=i) (((((some ⟨O,0,none⟩,(ts.getD i tq0).2.length,(ts.getD i tq0).2.length):SV),(ts.getD i tq0).2):TQ)) rfl rfl M (by omega) rfl j7w (λw4 M q4 z4=>?_));obtain⟨b5,b9⟩:∃u,u=us.set i (((some ⟨O,0,none⟩,(ts.getD i tq0).2.length,(ts.getD i tq0).2.length):SV),(ts.getD i tq0).2):=⟨_,rfl⟩;rw[<-b9]at M;have d5:b5.getD i tq0=(((some ⟨O,0,none⟩,(ts.getD i tq0).2.length,(ts.getD i tq0).2.length):SV),(ts.getD i tq0).2):=by rw[b9,z1j (by omega),if_pos rfl]
 have c9:(b5.getD i tq0).1.1=some ⟨O,0,none⟩:=by rw[d5]
 have d0:(b5.getD i tq0).1.2.1=(ts.getD i tq0).2.length:=by rw[d5]
 have d1:(b5.getD i tq0).1.2.2=(ts.getD i tq0).2.length:=by rw[d5]
 have g1:b5.length=ts.length:=by rw[b9,List.length_set];exact a8
 refine nn (sr (mv rfl (lnS rfl underlying46 (mv rfl (nn (bl ?_))))));replace U:=U.fr q4 (by intro k D Z;simp[z0x]at D Z;omega);refine lpK (ι:=Nat×List LpQ) [(3,_),(4,_),(11,_),(12,_),(13,_),(23,_),(24,_)] (λp=>[(25,.int .i64 (p.1:Int))]) (λp w'=>Fr [O] w4 w'/\p.1<=(ts.getD i tq0).2.length/\p.2.length=(ts.getD i tq0).2.length/\Lw.Own z4i 89 (a2+1) w' (.slice (some ⟨O,0,none⟩) (ts.getD i tq0).2.length (ts.getD i tq0).2.length) p.2/\p.2.map LpQ.p=(ts.getD i tq0).2.map LpQ.p/\(∀j,p.1<=j->p.2.getD j lq0=(ts.getD i tq0).2.getD j lq0)/\PreL (O+1) w' p.2 p.1) (λp=>(ts.getD i tq0).2.length-p.1) (0,(ts.getD i tq0).2) (.c8 rfl rfl rfl rfl rfl rfl rfl rfl) ⟨Fr.refl _ _,⟨Nat.zero_le _,rfl,U.low (by omega),rfl,λ_ _=>rfl,λj hj=>absurd hj (by simp)⟩⟩ ?_;rintro⟨J,rs⟩ w5 ⟨q5,⟨hj,b7,U,d3,b6,b4⟩⟩;simp only at hj b7 U d3 b6 b4;have z5:=q5.size;have e3:=b4;refine kpC [(3,_),(4,_),(11,_),(12,_),(13,_),(23,_),(24,_),(25,.int .i64 (J:Int))] (.c8 rfl rfl rfl rfl rfl rfl rfl rfl) (sr (lt' rfl rfl (nn (sq (cd rfl (λc1=>?_) (λc1=>?_))))));refine sk (tn (sq (bl (sr (mv rfl ?_)))));replace D:=b2.ext (q1.z4 q2 q3 q4 q5);refine z1a (lq0) rfl (D _ (z0u (d:=tq0) (i:=i) (by omega))).1 rfl x8g z1d (λf3 e0=>?_);refine z1i rfl (e0 _ (D _ (z0u (d:=tq0) (i:=i) (by omega))).1) x7p (al v7p rfl rfl (λg7 w6 g4 I q6 z6=>?_));refine asg rfl (z0j (vs:=[_,_,_,_]) rfl rfl I v8x (λw7 I q7 z7=>?_) (h1:=(by first|(simp[Value.oneCell',S];done)|exact z3y.one (ts.getD i tq0))));refine nn (sq ?_);replace D:=b2.ext (q1.z6 q2 q3 q4 q5 q6 q7);replace M:=((M.fr q5 (by intro k D Z;simp[z0x]at D Z;omega)).ext q6).fr q7 (by intro k D Z;simp[z0x]at D Z;omega);replace U:=(U.ext q6).fr q7 (by intro k D Z;simp[z0x]at D Z;omega);intro a h;refine z0i (some 10) (λwb w'=>Fr [] wb w') z2o ?_;intro w8 q8;have z8:=q8.size;replace D:=D.ext q8;replace M:=M.ext q8;replace U:=U.ext q8;replace I:=I.ext q8;have hC:Fr [] w8 w8:=Fr.refl _ _;have b3:=D;have a3:=M;have b1:=U;have a0:=I;refine z0e 0 h rfl rfl λa h=>z0e 1 h rfl rfl λa h=>z1h (p:=i) (tq0) 2 h rfl M.sl rfl y6e rfl λf4 e1 a h=>z3j 3 h rfl (λ_ hw=>e1 _ ((a3.ext hw).sl)) x2c rfl λa h=>?_;rw[c9,d0,d1]at h;refine z0e 4 h rfl rfl λa h=>z0c 5 h rfl z6n rfl λa h=>z0l 6 h rfl (λ_ hw=>a0.ext hw) rfl z5t rfl λa h=>z0d 7 rfl ?_;refine z0n h (z0a rfl z0f) x2f (z3q _ ((ts.getD i tq0).2.getD J lq0).ths _ ((D _ (z0u (d:=tq0) (i:=i) (by omega))).2 _ (z0u (by omega))).1 ((b8 _ (z0u (d:=tq0) (i:=i) (by omega))).2 _ (z0u (by omega))).1) ?_;rintro _ w9 ⟨a9,rfl,f8,hX,q9⟩ a h;have z9:=q9.size;replace D:=D.ext q9;replace M:=M.ext q9;replace U:=U.ext q9;replace I:=I.ext q9;replace hC:=hC.next q9;refine z0b ?_;refine z1o 8 (by kernel_rfl) (by kernel_rfl) (by kernel_rfl) hC (p:=J) h wn rfl rfl x8g (by omega) (by omega) (by omega) rfl rfl λa h=>z8c 9 hC h wn rfl z6n rfl λa h=>z0d 10 rfl ?_;refine y4d (E:=z4i) (i:=J) (f:=2) (((ts.getD i tq0).2.getD J lq0)) ({ ((ts.getD i tq0).2.getD J lq0) with th:=(some ⟨a9,0,none⟩,((ts.getD i tq0).2.getD J lq0).ths.length,((ts.getD i tq0).2.getD J lq0).ths.length) }:LpQ) h rfl rfl U (by rw[<-b6 J (Nat.le_refl _)];exact y5u _ (by omega)) (by decide) rfl rfl rfl u5b λg6 b0 a5 _hz a h=>?_;have h0:=a5.size;replace M:=M.fr a5 (by intro k D Z;simp[z0x]at D Z;omega);replace I:=I.fr a5;replace hX:=hX.fr a5 (by intro k D Z;simp[z0x]at D Z;omega);clear _hz U;have U:=b0;clear b0;refine z1n ?_;refine z0q ?_;clear hC b3 a3 b1 a0;refine bk (h.sub (L':=[(3,_),(4,_),(6,_),(7,_),(11,_),(12,_),(13,_),(23,_),(24,_),(25,_)]) (.d8 rfl rfl rfl rfl rfl rfl rfl rfl (.c2 rfl rfl))) (tn ?_);replace D:=b2.ext ((((q1.z6 q2 q3 q4 q5 q6 q7).n1 q8).n1 q9).z1 a5);intro a h;refine z0i (some 10) (λwb w'=>Fr [] wb w') z2o ?_;intro e6 a4;have h2:=a4.size;replace D:=D.ext a4;replace M:=M.ext a4;replace U:=U.ext a4;replace I:=I.ext a4;replace hX:=hX.ext a4;have hC:Fr [] e6 e6:=Fr.refl _ _;have b3:=D;have a3:=M;have b1:=U;have a0:=I;have d7:=hX;refine z0e 0 h rfl rfl λa h=>z0e 1 h rfl rfl λa h=>z1h (p:=i) (tq0) 2 h rfl M.sl rfl y6e rfl λf5 e2 a h=>z3j 3 h rfl (λ_ hw=>e2 _ ((a3.ext hw).sl)) x2c rfl λa h=>?_;rw[c9,d0,d1]at h;refine z0e 4 h rfl rfl λa h=>z0c 5 h rfl z8g rfl λa h=>z0l 6 h rfl (λ_ hw=>a0.ext hw) rfl y3f rfl λa h=>z0d 7 rfl ?_;refine z0n h (z0a rfl z0f) (mkC func108) (v6e _ ((ts.getD i tq0).2.getD J lq0).pas _ ((D _ (z0u (d:=tq0) (i:=i) (by omega))).2 _ (z0u (by omega))).2 ((b8 _ (z0u (d:=tq0) (i:=i) (by omega))).2 _ (z0u (by omega))).2) ?_;rintro _ g8 ⟨d6,rfl,f9,hY,a1⟩ a h;have h3:=a1.size;replace D:=D.ext a1;replace M:=M.ext a1;replace U:=U.ext a1;replace I:=I.ext a1;replace hX:=hX.ext a1;replace hC:=hC.next a1;refine z0b ?_;refine z1o 8 (by kernel_rfl) (by kernel_rfl) (by kernel_rfl) hC (p:=J) h wn rfl rfl x8g (by omega) (by omega) (by omega) rfl rfl λa h=>z8c 9 hC h wn rfl z8g rfl λa h=>z0d 10 rfl ?_;refine y4d (E:=z4i) (i:=J) (f:=3) (({ ((ts.getD i tq0).2.getD J lq0) with th:=(some ⟨a9,0,none⟩,((ts.getD i tq0).2.getD J lq0).ths.length,((ts.getD i tq0).2.getD J lq0).ths.length) }:LpQ)) ({ ((ts.getD i tq0).2.getD J lq0) with th:=(some ⟨a9,0,none⟩,((ts.getD i tq0).2.getD J lq0).ths.length,((ts.getD i tq0).2.getD J lq0).ths.length),pa:=(some ⟨d6,0,none⟩,((ts.getD i tq0).2.getD J lq0).pas.length,((ts.getD i tq0).2.getD J lq0).pas.length) }:LpQ) h rfl rfl U (by rw[y5u lq0 (by rw[List.length_set];omega),z1j (by omega),if_pos rfl]) (by decide) rfl rfl rfl j6r λg9 b0 a6 _hz a h=>?_;have h4:=a6.size;replace M:=M.fr a6 (by intro k D Z;simp[z0x]at D Z;omega);replace I:=I.fr a6;replace hX:=hX.fr a6 (by intro k D Z;simp[z0x]at D Z;omega);replace hY:=hY.fr a6 (by intro k D Z;simp[z0x]at D Z;omega);clear _hz U;have U:=b0;clear b0;refine z1n ?_;refine z0q ?_;clear hC b3 a3 b1 a0 d7;refine bk (h.sub (L':=[(3,_),(4,_),(11,_),(12,_),(13,_),(23,_),(24,_),(25,_)]) (.c8 rfl rfl rfl rfl rfl rfl rfl rfl)) (bn' (tn (rg (z0v rfl rfl (wi6 (by omega)) (mv rfl (nl ?_))))));replace b4:=e3.fr ((((Fr.refl [O] _).z6 q6 q7 q8 q9 a5 a4).n1 a1).z1 a6) (by intro k D;simp at D;omega);exact lpE ((J+1,(rs.set J ({ ((ts.getD i tq0).2.getD J lq0) with th:=(some ⟨a9,0,none⟩,((ts.getD i tq0).2.getD J lq0).ths.length,((ts.getD i tq0).2.getD J lq0).ths.length) }:LpQ)).set J ({ ((ts.getD i tq0).2.getD J lq0) with th:=(some ⟨a9,0,none⟩,((ts.getD i tq0).2.getD J lq0).ths.length,((ts.getD i tq0).2.getD J lq0).ths.length),pa:=(some ⟨d6,0,none⟩,((ts.getD i tq0).2.getD J lq0).pas.length,((ts.getD i tq0).2.getD J lq0).pas.length) }:LpQ))) (.c8 rfl rfl rfl rfl rfl rfl rfl rfl) ⟨((((Fr.refl [O] _).z6 q5 q6 q7 q8 q9 a5).n1 a4).z2 a1 a6),⟨by simp only;omega,by simp only[List.length_set];exact b7,U,by rw[List.set_set];exact(y2s (d:=lq0) (by rw[b6 J (Nat.le_refl _)])).trans d3,λj f0=>by
  simp only at f0 ⊢;rw[List.set_set,z1j (by omega),if_neg (by omega)];exact b6 j (by omega),b4.put (by omega) ⟨hX.low (by omega),hY.low (by omega)⟩⟩⟩ (by simp only;omega)
 obtain rfl:J=(ts.getD i tq0).2.length:=by omega
 refine ex (te (te (xh (bn' (tn (rg (z0v rfl rfl (wi6 (by omega)) (mv rfl (kpL [(3,_),(11,_),(12,_),(13,_)] (.c4 rfl rfl rfl rfl) (nl ?_))))))))));replace a7:=e4.fr ((Fr.refl [a2] _).z3 q3 q4 q5) (by intro k D;simp at D;omega);replace M:=M.fr q5 (by intro k D Z;simp[z0x]at D Z;omega);exact lpE ((i+1,us.set i (((some ⟨O,0,none⟩,(ts.getD i tq0).2.length,(ts.getD i tq0).2.length):SV),rs))) (.c4 rfl rfl rfl rfl) ⟨((Fr.refl [a2] _).z4 q2 q3 q4 q5),⟨by simp only;omega,by simp only[List.length_set];exact a8,j2a (b9▸M),u5w d4 (by omega) d3,a7.put (by omega) (by rw[show slv ((some ⟨O,0,none⟩,(ts.getD i tq0).2.length,(ts.getD i tq0).2.length):SV)=(.slice (some ⟨O,0,none⟩) rs.length rs.length) by rw[b7];rfl];exact(b7.symm▸U).low (by omega)) (λq hq=>by
  obtain⟨j,hj,rfl⟩:=List.getElem_of_mem hq;have:=b4 j (by omega);rw[List.getD,List.getElem?_eq_getElem hj]at this;exact this.low (by omega)) (λj hj b Z e7=>by have:=e5 j hj b Z;simp[z0x,slv]at e7;omega)⟩⟩ (by simp only;omega)
 obtain rfl:i=ts.length:=by omega
 refine ex (te (te (xh (tn (sr (mv rfl (asg rfl (kpL [(2,_)] (.cons rfl .nil) (nn (rt (r1 results62 rfl ?_)))))))))));exact⟨_,rfl,⟨a2,us,rfl,by omega,PreT.tbo M (a8.symm▸a7) (by omega),a8,y4k a8 d4⟩,(q1.z1 q2)⟩
theorem x9m:BuildAt prog 137 [(0,1),(1,2),(3,1),(4,1),(5,1),(6,1)] [(.int .i64 0),(.slice none 0 0),(.slice none 0 0),(.slice none 0 0),(.slice none 0 0),(.map none),(.slice none 0 0)]:=BuildAt.struct underlying137 (λ_=>by kernel_rfl) (λ_=>by kernel_rfl)
theorem j3l:CallOf prog 60:=mkC func60
theorem j3y:CallOf prog 62:=mkC func62
theorem y7q:z0z prog 41 0 0:=λ_ _=>by kernel_rfl
theorem y4m:z0z prog 41 1 1:=λ_ _=>by kernel_rfl
theorem z9t:z0z prog 41 2 3:=λ_ _=>by kernel_rfl
theorem z8n:z0z prog 41 3 4:=λ_ _=>by kernel_rfl
structure StSz (s:StQ):Prop where
  bf:s.q.fs.length<=40
  bb:s.q.bs.length<=40
  f4:z9j s.q.fs
  b4:z9j s.q.bs
  ly:s.ys.length=6
  lt:s.fb.ts.length=6
  pe:∀i,(s.ys.getD i yq0).pes.length<=100000
  tb:∀p∈s.fb.ts,p.2.length<=100000/\∀q∈p.2,q.ths.length<=100000/\q.pas.length<=100000
  fl:s.fb.fs.length<=100000
  cs:s.fb.cs.length<=100000000
  hs:s.fb.hs.length<=100000
theorem y1o {τ:TyK}{b base:Nat}{w:World}{v:Value}{ys:List YQ}(h:YsO τ base w v ys)(hb:b<=base):YsO τ b w v ys:=⟨h.out.low hb,λi D=>(h.ins i D).low hb⟩
theorem y1y {τ:TyK}{b base:Nat}{w:World}{v:Value}{ts:List TQ}(h:TbO τ base w v ts)(hb:b<=base):TbO τ b w v ts:=⟨h.out.low hb,λi D=>(h.ins i D).low hb,h.off,λi D q I=>⟨(h.lps i D q I).1.low hb,(h.lps i D q I).2.low hb⟩⟩
set_option maxHeartbeats 4000000 in
theorem v5h (s:StQ)(w0:World)(I:StAt w0 s)(D:StSz s)(f9:(s.fb.cs.map cxK).Nodup):Rets prog 25 #[.agg #[.int .i64 s.rk,.slice s.q.f.1 s.q.f.2.1 s.q.f.2.2,.slice s.q.b.1 s.q.b.2.1 s.q.b.2.2,.slice s.yv.1 s.yv.2.1 s.yv.2.2,.slice s.fb.t.1 s.fb.t.2.1 s.fb.t.2.2,.slice s.fb.c.1 s.fb.c.2.1 s.fb.c.2.2,.slice s.fb.h.1 s.fb.h.2.1 s.fb.h.2.2,.slice s.fb.f.1 s.fb.f.2.1 s.fb.f.2.2]] w0 λr w'=>∃ka m,r=.pointer (some ⟨ka.gk,0,none⟩)/\MkM τd 137 w0 ka w' m/\m.p=(⟨s.rk,⟨trimB (plB s.q.fs),trimB (plB s.q.bs)⟩,s.ys.map YQ.p,z2a s.fb.ts,s.fb.cs,s.fb.fs⟩:MSt):=by
 have h6:=z1x I.f.c;have h7:=D.cs;refine we [(0,.agg #[.int .i64 s.rk,.slice s.q.f.1 s.q.f.2.1 s.q.f.2.2,.slice s.q.b.1 s.q.b.2.1 s.q.b.2.2,.slice s.yv.1 s.yv.2.1 s.yv.2.2,.slice s.fb.t.1 s.fb.t.2.1 s.fb.t.2.2,.slice s.fb.c.1 s.fb.c.2.1 s.fb.c.2.2,.slice s.fb.h.1 s.fb.h.2.1 s.fb.h.2.2,.slice s.fb.f.1 s.fb.f.2.1 s.fb.f.2.2])] func25 rfl ntmps25 rfl (.cons rfl .nil) ?_;have e9:=I;refine sr (bx rfl rfl rfl (λg1 w1 h8 J q1 z1=>(asg rfl (nn ?_))));refine jn (ι:=MA) [(1,_)] (λka=>[(3,.pointer (some ⟨ka.gk,0,none⟩))]) (λka w'=>Fr [] w1 w'/\∃m:MQ,MkM τd 137 w0 ka w' m/\m.p=(⟨s.rk,⟨trimB (plB s.q.fs),trimB (plB s.q.bs)⟩,s.ys.map YQ.p,z2a s.fb.ts,[],s.fb.fs⟩:MSt)) (.cons rfl .nil) ?_ ?_;replace I:=e9.ext q1;intro a h;refine z0i none (λwb w'=>Fr [] wb w') z2o ?_;intro w2 q2;have z2:=q2.size;replace I:=I.ext q2;replace J:=J.ext q2;have hC:Fr [] w2 w2:=Fr.refl _ _;have b7:=I;have U:=J;refine z0c 0 h rfl y7q rfl λa h=>z0l 1 h rfl (λ_ hw=>U.ext hw) rfl na3 rfl λa h=>z0c 2 h rfl y4m rfl λa h=>z8c 3 hC h wn rfl y2y rfl λa h=>z0l 4 h rfl (λ_ hw=>U.ext hw) rfl x0z rfl λa h=>z0c 6 h rfl y4m rfl λa h=>z8c 7 hC h wn rfl z9u rfl λa h=>z0l 8 h rfl (λ_ hw=>U.ext hw) rfl x0z rfl λa h=>z0c 11 h rfl z9t rfl λa h=>z0l 12 h rfl (λ_ hw=>U.ext hw) rfl y0i rfl λa h=>z0c 14 h rfl z8n rfl λa h=>?_;refine z8c 15 hC h wn rfl z8u rfl λa h=>z0l 16 h rfl (λ_ hw=>U.ext hw) rfl x3m rfl λa h=>z0c 18 h rfl z8n rfl λa h=>z8c 19 hC h wn rfl y2v rfl λa h=>z0l 20 h rfl (λ_ hw=>U.ext hw) rfl u3f rfl λa h=>z8f 21 hC h wn rfl underlying36 rfl λa h=>z0c 23 h rfl z8n rfl λa h=>z8c 24 hC h wn rfl z8v rfl λa h=>z0l 25 h rfl (λ_ hw=>U.ext hw) rfl z5t rfl λa h=>z2d 5 22 (by kernel_rfl) rfl rfl ?_ ?_;refine z0n h (z0a rfl z0f) j3l (y4u _ s.q.fs _ I.b.f I.b.fi D.bf D.f4) ?_;rintro _ w3 ⟨⟨e8,O,d6,gF,rfl⟩,q3⟩ a h;have z3:=q3.size;replace I:=I.ext q3;replace J:=J.ext q3;replace hC:=hC.next q3;have d5:∀x∈e8,∀k∈z0x (slv x.1),k<w3.heap.size:=λx hx k hk=>((O.2 x hx).blk k hk).2;refine z0b ?_;refine z2d 9 22 (by kernel_rfl) rfl rfl ?_ ?_;refine z0n h (z0a rfl z0f) j3l (y4u _ s.q.bs _ I.b.b I.b.bi D.bb D.b4) ?_;rintro _ w4 ⟨⟨e0,M,d3,gB,rfl⟩,q4⟩ a h;have z4:=q4.size;replace I:=I.ext q4;replace J:=J.ext q4;replace O:=O.ext q4;replace hC:=hC.next q4;have d1:∀x∈e0,∀k∈z0x (slv x.1),k<w4.heap.size:=λx hx k hk=>((M.2 x hx).blk k hk).2;refine z0b ?_;refine z2y (cs:=[_,_]) 10 h (z0a rfl (z0a rfl z0f)) j0p (z0h rfl rfl rfl (z0h rfl rfl rfl z0s)) rfl rfl λa h=>z2d 13 22 (by kernel_rfl) rfl rfl ?_ ?_;refine z0n h (z0a rfl z0f) (mkC func61) (x0b _ s.ys _ I.y I.ya (by have:=D.ly;omega) D.pe) ?_;rintro _ w5 ⟨⟨gy,ps,rfl,f0,hY,b9,c1⟩,q5⟩ a h;have z5:=q5.size;replace I:=I.ext q5;replace J:=J.ext q5;replace O:=O.ext q5;replace M:=M.ext q5;replace hC:=hC.next q5;refine z0b ?_;refine z2d 17 22 (by kernel_rfl) rfl rfl ?_ ?_;refine z0n h (z0a rfl z0f) j3y (y6b _ s.fb.ts _ I.f.t I.f.tt (by have:=D.lt;omega) D.tb) ?_;rintro _ w6 ⟨⟨gt,us,rfl,e5,hT,a6,a5⟩,q6⟩ a h;have z6:=q6.size;replace I:=I.ext q6;replace J:=J.ext q6;replace O:=O.ext q6;replace M:=M.ext q6;replace hY:=hY.ext q6;replace hC:=hC.next q6;have a4:∀i,i<us.length->∀q∈(us.getD i tq0).2,∀k∈z0x (slv q.th),k<w6.heap.size:=λi hi q hq k hk=>((hT.lps i hi q hq).1.blk k hk).2;refine z0b ?_;refine z2d 22 26 (by kernel_rfl) rfl rfl ?_ ?_;refine z4f (K:=138) (E:=3) crK h rfl underlying135 rfl λgm w7 e3 a1 q7 _hz a h=>?_;have z7:=q7.size;replace I:=I.ext q7;replace hC:=hC.next q7;clear _hz;refine z0b ?_;refine z0d 26 rfl ?_;refine z0n h (z0a rfl z0f) x2f (z3q _ s.fb.fs _ I.f.f D.fl) ?_;rintro _ w8 ⟨gf,rfl,e2,a2,q8⟩ a h;have z8:=q8.size;replace J:=J.ext (q7.n1 q8);replace hC:=hC.next q8;refine z0b ?_;refine z2y (cs:=[_,_,_,_,_,_,_]) 27 h (z0a rfl (z0a rfl (z0a rfl (z0a rfl (z0a rfl (z0a rfl z0f)))))) x9m (z0h rfl rfl rfl (z0h rfl rfl rfl (z0h rfl rfl rfl (z0h rfl rfl rfl (z0h rfl rfl rfl (z0h rfl rfl rfl z0s)))))) rfl rfl λa h=>z0d 28 rfl ?_;refine y5z h rfl rfl rfl λw9 a0 q9 hz a h=>?_;obtain⟨Z,hg⟩:∃g,g=w8.heap.size:=⟨_,rfl⟩;rw[<-hg]at a0 h hz;have a3:g1<Z:=by have:=J.lt;omega
 have z9:=q9.size;replace O:=O.ext (q7.n2 q8 q9);replace M:=M.ext (q7.n2 q8 q9);replace hY:=hY.ext (q7.n2 q8 q9);replace hT:=hT.ext (q7.n2 q8 q9);replace a1:=a1.ext (q8.n1 q9);replace a2:=a2.ext q9;replace hC:=hC.next q9;refine z0b ?_;refine z0d 29 rfl ?_;refine z0r h rfl λa h=>?_;refine z0b ?_;refine z0q ?_;clear hC b7 U;refine bk (h.sub (L':=[(1,_),(3,_)]) (.c2 rfl rfl)) ?_;exact jE ((⟨Z,gy,6,gt,6,gm,_⟩:MA)) (.c2 rfl rfl) ⟨((q2.n6 q3 q4 q5 q6 q7 q8).n1 q9),(y6v a0 (O.low (by omega)) (M.low (by omega)) (y1o hY (by omega)) b9 c1 (y1y hT (by omega)) a6 a5 a1 (a2.low (by omega)) D.ly D.lt (((q1.n6 q2 q3 q4 q5 q6 q7).n1 q8).n1 q9) (by omega) (by omega) (λx hx hb=>by rcases List.mem_append.1 hx with k|k;have:=d5 x k _ hb;omega;have:=d1 x k _ hb;omega) (λi hi q hq hb=>by have:=a4 i (by have:=D.lt;omega) q hq _ hb;omega) d6 d3)⟩;refine z0n h (z0a rfl z0f) x2f (z3q _ s.fb.fs _ I.f.f D.fl) ?_;rintro _ i1 ⟨gf,rfl,e2,a2,c9⟩ a h;have k0:=c9.size;replace hC:=hC.next c9;refine z0b ?_;refine z0d 22 rfl ?_;refine z4f (K:=138) (E:=3) crK h rfl underlying135 rfl λgm g0 e3 a1 a7 _hz a h=>?_;have k1:=a7.size;replace J:=J.ext (c9.n1 a7);replace hC:=hC.next a7;clear _hz;refine z0b ?_;refine z2y (cs:=[_,_,_,_,_,_,_]) 27 h (z0a rfl (z0a rfl (z0a rfl (z0a rfl (z0a rfl (z0a rfl z0f)))))) x9m (z0h rfl rfl rfl (z0h rfl rfl rfl (z0h rfl rfl rfl (z0h rfl rfl rfl (z0h rfl rfl rfl (z0h rfl rfl rfl z0s)))))) rfl rfl λa h=>z0d 28 rfl ?_;refine y5z h rfl rfl rfl λi2 a0 a8 hz a h=>?_;obtain⟨Z,hg⟩:∃g,g=g0.heap.size:=⟨_,rfl⟩;rw[<-hg]at a0 h hz;have a3:g1<Z:=by have:=J.lt;omega
 have k2:=a8.size;replace O:=O.ext (c9.n2 a7 a8);replace M:=M.ext (c9.n2 a7 a8);replace hY:=hY.ext (c9.n2 a7 a8);replace hT:=hT.ext (c9.n2 a7 a8);replace a2:=a2.ext (a7.n1 a8);replace a1:=a1.ext a8;replace hC:=hC.next a8;refine z0b ?_;refine z0d 29 rfl ?_;refine z0r h rfl λa h=>?_;refine z0b ?_;refine z0q ?_;clear hC b7 U;refine bk (h.sub (L':=[(1,_),(3,_)]) (.c2 rfl rfl)) ?_;exact jE ((⟨Z,gy,6,gt,6,gm,_⟩:MA)) (.c2 rfl rfl) ⟨((q2.n6 q3 q4 q5 q6 c9 a7).n1 a8),(y6v a0 (O.low (by omega)) (M.low (by omega)) (y1o hY (by omega)) b9 c1 (y1y hT (by omega)) a6 a5 a1 (a2.low (by omega)) D.ly D.lt (((q1.n6 q2 q3 q4 q5 q6 c9).n1 a7).n1 a8) (by omega) (by omega) (λx hx hb=>by rcases List.mem_append.1 hx with k|k;have:=d5 x k _ hb;omega;have:=d1 x k _ hb;omega) (λi hi q hq hb=>by have:=a4 i (by have:=D.lt;omega) q hq _ hb;omega) d6 d3)⟩;refine z4f (K:=138) (E:=3) crK h rfl underlying135 rfl λgm i3 e3 a1 d0 _hz a h=>?_;have k3:=d0.size;replace I:=I.ext d0;replace hC:=hC.next d0;clear _hz;refine z0b ?_;refine z0d 17 rfl ?_;refine z0n h (z0a rfl z0f) j3y (y6b _ s.fb.ts _ I.f.t I.f.tt (by have:=D.lt;omega) D.tb) ?_;rintro _ g3 ⟨⟨gt,us,rfl,e5,hT,a6,a5⟩,q14⟩ a h;have k4:=q14.size;replace I:=I.ext q14;replace hC:=hC.next q14;have a4:∀i,i<us.length->∀q∈(us.getD i tq0).2,∀k∈z0x (slv q.th),k<g3.heap.size:=λi hi q hq k hk=>((hT.lps i hi q hq).1.blk k hk).2;refine z0b ?_;refine z0d 26 rfl ?_;refine z0n h (z0a rfl z0f) x2f (z3q _ s.fb.fs _ I.f.f D.fl) ?_;rintro _ g4 ⟨gf,rfl,e2,a2,a9⟩ a h;have k5:=a9.size;replace J:=J.ext (d0.n2 q14 a9);replace hC:=hC.next a9;refine z0b ?_;refine z2y (cs:=[_,_,_,_,_,_,_]) 27 h (z0a rfl (z0a rfl (z0a rfl (z0a rfl (z0a rfl (z0a rfl z0f)))))) x9m (z0h rfl rfl rfl (z0h rfl rfl rfl (z0h rfl rfl rfl (z0h rfl rfl rfl (z0h rfl rfl rfl (z0h rfl rfl rfl z0s)))))) rfl rfl λa h=>z0d 28 rfl ?_;refine y5z h rfl rfl rfl λi4 a0 b0 hz a h=>?_;obtain⟨Z,hg⟩:∃g,g=g4.heap.size:=⟨_,rfl⟩;rw[<-hg]at a0 h hz;have a3:g1<Z:=by have:=J.lt;omega
 have k6:=b0.size;replace O:=O.ext (d0.n3 q14 a9 b0);replace M:=M.ext (d0.n3 q14 a9 b0);replace hY:=hY.ext (d0.n3 q14 a9 b0);replace a1:=a1.ext (q14.n2 a9 b0);replace hT:=hT.ext (a9.n1 b0);replace a2:=a2.ext b0;replace hC:=hC.next b0;refine z0b ?_;refine z0d 29 rfl ?_;refine z0r h rfl λa h=>?_;refine z0b ?_;refine z0q ?_;clear hC b7 U;refine bk (h.sub (L':=[(1,_),(3,_)]) (.c2 rfl rfl)) ?_;exact jE ((⟨Z,gy,6,gt,6,gm,_⟩:MA)) (.c2 rfl rfl) ⟨((q2.n6 q3 q4 q5 d0 q14 a9).n1 b0),(y6v a0 (O.low (by omega)) (M.low (by omega)) (y1o hY (by omega)) b9 c1 (y1y hT (by omega)) a6 a5 a1 (a2.low (by omega)) D.ly D.lt (((q1.n6 q2 q3 q4 q5 d0 q14).n1 a9).n1 b0) (by omega) (by omega) (λx hx hb=>by rcases List.mem_append.1 hx with k|k;have:=d5 x k _ hb;omega;have:=d1 x k _ hb;omega) (λi hi q hq hb=>by have:=a4 i (by have:=D.lt;omega) q hq _ hb;omega) d6 d3)⟩;refine z4f (K:=138) (E:=3) crK h rfl underlying135 rfl λgm i5 e3 a1 d4 _hz a h=>?_;have k7:=d4.size;replace I:=I.ext d4;replace hC:=hC.next d4;clear _hz;refine z0b ?_;refine z0d 13 rfl ?_;refine z0n h (z0a rfl z0f) (mkC func61) (x0b _ s.ys _ I.y I.ya (by have:=D.ly;omega) D.pe) ?_;rintro _ i7 ⟨⟨gy,ps,rfl,f0,hY,b9,c1⟩,q18⟩ a h;have k8:=q18.size;replace I:=I.ext q18;replace hC:=hC.next q18;refine z0b ?_;refine z0d 17 rfl ?_;refine z0n h (z0a rfl z0f) j3y (y6b _ s.fb.ts _ I.f.t I.f.tt (by have:=D.lt;omega) D.tb) ?_;rintro _ g6 ⟨⟨gt,us,rfl,e5,hT,a6,a5⟩,q19⟩ a h;have k9:=q19.size;replace I:=I.ext q19;replace hC:=hC.next q19;have a4:∀i,i<us.length->∀q∈(us.getD i tq0).2,∀k∈z0x (slv q.th),k<g6.heap.size:=λi hi q hq k hk=>((hT.lps i hi q hq).1.blk k hk).2;refine z0b ?_;refine z0d 26 rfl ?_;refine z0n h (z0a rfl z0f) x2f (z3q _ s.fb.fs _ I.f.f D.fl) ?_;rintro _ g7 ⟨gf,rfl,e2,a2,b1⟩ a h;have l0:=b1.size;replace J:=J.ext (d4.n3 q18 q19 b1);replace hC:=hC.next b1;refine z0b ?_;refine z2y (cs:=[_,_,_,_,_,_,_]) 27 h (z0a rfl (z0a rfl (z0a rfl (z0a rfl (z0a rfl (z0a rfl z0f)))))) x9m (z0h rfl rfl rfl (z0h rfl rfl rfl (z0h rfl rfl rfl (z0h rfl rfl rfl (z0h rfl rfl rfl (z0h rfl rfl rfl z0s)))))) rfl rfl λa h=>z0d 28 rfl ?_;refine y5z h rfl rfl rfl λi8 a0 b2 hz a h=>?_;obtain⟨Z,hg⟩:∃g,g=g7.heap.size:=⟨_,rfl⟩;rw[<-hg]at a0 h hz;have a3:g1<Z:=by have:=J.lt;omega
 have l1:=b2.size;replace O:=O.ext (d4.n4 q18 q19 b1 b2);replace M:=M.ext (d4.n4 q18 q19 b1 b2);replace a1:=a1.ext (q18.n3 q19 b1 b2);replace hY:=hY.ext (q19.n2 b1 b2);replace hT:=hT.ext (b1.n1 b2);replace a2:=a2.ext b2;replace hC:=hC.next b2;refine z0b ?_;refine z0d 29 rfl ?_;refine z0r h rfl λa h=>?_;refine z0b ?_;refine z0q ?_;clear hC b7 U;refine bk (h.sub (L':=[(1,_),(3,_)]) (.c2 rfl rfl)) ?_;exact jE ((⟨Z,gy,6,gt,6,gm,_⟩:MA)) (.c2 rfl rfl) ⟨((q2.n6 q3 q4 d4 q18 q19 b1).n1 b2),(y6v a0 (O.low (by omega)) (M.low (by omega)) (y1o hY (by omega)) b9 c1 (y1y hT (by omega)) a6 a5 a1 (a2.low (by omega)) D.ly D.lt (((q1.n6 q2 q3 q4 d4 q18 q19).n1 b1).n1 b2) (by omega) (by omega) (λx hx hb=>by rcases List.mem_append.1 hx with k|k;have:=d5 x k _ hb;omega;have:=d1 x k _ hb;omega) (λi hi q hq hb=>by have:=a4 i (by have:=D.lt;omega) q hq _ hb;omega) d6 d3)⟩;refine z4f (K:=138) (E:=3) crK h rfl underlying135 rfl λgm i9 e3 a1 d7 _hz a h=>?_;have l2:=d7.size;replace I:=I.ext d7;replace hC:=hC.next d7;clear _hz;refine z0b ?_;refine z0d 9 rfl ?_;refine z0n h (z0a rfl z0f) j3l (y4u _ s.q.bs _ I.b.b I.b.bi D.bb D.b4) ?_;rintro _ g8 ⟨⟨e0,M,d3,gB,rfl⟩,q23⟩ a h;have l3:=q23.size;replace I:=I.ext q23;replace hC:=hC.next q23;have d1:∀x∈e0,∀k∈z0x (slv x.1),k<g8.heap.size:=λx hx k hk=>((M.2 x hx).blk k hk).2;refine z0b ?_;refine z2y (cs:=[_,_]) 10 h (z0a rfl (z0a rfl z0f)) j0p (z0h rfl rfl rfl (z0h rfl rfl rfl z0s)) rfl rfl λa h=>z0d 13 rfl ?_;refine z0n h (z0a rfl z0f) (mkC func61) (x0b _ s.ys _ I.y I.ya (by have:=D.ly;omega) D.pe) ?_;rintro _ j0 ⟨⟨gy,ps,rfl,f0,hY,b9,c1⟩,q24⟩ a h;have l4:=q24.size;replace I:=I.ext q24;replace hC:=hC.next q24;refine z0b ?_;refine z0d 17 rfl ?_;refine z0n h (z0a rfl z0f) j3y (y6b _ s.fb.ts _ I.f.t I.f.tt (by have:=D.lt;omega) D.tb) ?_;rintro _ g9 ⟨⟨gt,us,rfl,e5,hT,a6,a5⟩,q25⟩ a h;have l5:=q25.size;replace I:=I.ext q25;replace hC:=hC.next q25;have a4:∀i,i<us.length->∀q∈(us.getD i tq0).2,∀k∈z0x (slv q.th),k<g9.heap.size:=λi hi q hq k hk=>((hT.lps i hi q hq).1.blk k hk).2;refine z0b ?_;refine z0d 26 rfl ?_;refine z0n h (z0a rfl z0f) x2f (z3q _ s.fb.fs _ I.f.f D.fl) ?_;rintro _ h0 ⟨gf,rfl,e2,a2,b3⟩ a h;have l6:=b3.size;replace J:=J.ext (d7.n4 q23 q24 q25 b3);replace hC:=hC.next b3;refine z0b ?_;refine z2y (cs:=[_,_,_,_,_,_,_]) 27 h (z0a rfl (z0a rfl (z0a rfl (z0a rfl (z0a rfl (z0a rfl z0f)))))) x9m (z0h rfl rfl rfl (z0h rfl rfl rfl (z0h rfl rfl rfl (z0h rfl rfl rfl (z0h rfl rfl rfl (z0h rfl rfl rfl z0s)))))) rfl rfl λa h=>z0d 28 rfl ?_;refine y5z h rfl rfl rfl λj1 a0 b4 hz a h=>?_;obtain⟨Z,hg⟩:∃g,g=h0.heap.size:=⟨_,rfl⟩;rw[<-hg]at a0 h hz;have a3:g1<Z:=by have:=J.lt;omega
 have l7:=b4.size;replace O:=O.ext (d7.n5 q23 q24 q25 b3 b4);replace a1:=a1.ext (q23.n4 q24 q25 b3 b4);replace M:=M.ext (q24.n3 q25 b3 b4);replace hY:=hY.ext (q25.n2 b3 b4);replace hT:=hT.ext (b3.n1 b4);replace a2:=a2.ext b4;replace hC:=hC.next b4;refine z0b ?_;refine z0d 29 rfl ?_;refine z0r h rfl λa h=>?_;refine z0b ?_;refine z0q ?_;clear hC b7 U;refine bk (h.sub (L':=[(1,_),(3,_)]) (.c2 rfl rfl)) ?_;exact jE ((⟨Z,gy,6,gt,6,gm,_⟩:MA)) (.c2 rfl rfl) ⟨((q2.n6 q3 d7 q23 q24 q25 b3).n1 b4),(y6v a0 (O.low (by omega)) (M.low (by omega)) (y1o hY (by omega)) b9 c1 (y1y hT (by omega)) a6 a5 a1 (a2.low (by omega)) D.ly D.lt (((q1.n6 q2 q3 d7 q23 q24 q25).n1 b3).n1 b4) (by omega) (by omega) (λx hx hb=>by rcases List.mem_append.1 hx with k|k;have:=d5 x k _ hb;omega;have:=d1 x k _ hb;omega) (λi hi q hq hb=>by have:=a4 i (by have:=D.lt;omega) q hq _ hb;omega) d6 d3)⟩;refine z4f (K:=138) (E:=3) crK h rfl underlying135 rfl λgm j2 e3 a1 d9 _hz a h=>?_;have l8:=d9.size;replace I:=I.ext d9;replace hC:=hC.next d9;clear _hz;refine z0b ?_;refine z0d 5 rfl ?_;refine z0n h (z0a rfl z0f) j3l (y4u _ s.q.fs _ I.b.f I.b.fi D.bf D.f4) ?_;rintro _ h1 ⟨⟨e8,O,d6,gF,rfl⟩,q29⟩ a h;have l9:=q29.size;replace I:=I.ext q29;replace hC:=hC.next q29;have d5:∀x∈e8,∀k∈z0x (slv x.1),k<h1.heap.size:=λx hx k hk=>((O.2 x hx).blk k hk).2;refine z0b ?_;refine z0d 9 rfl ?_;refine z0n h (z0a rfl z0f) j3l (y4u _ s.q.bs _ I.b.b I.b.bi D.bb D.b4) ?_;rintro _ h2 ⟨⟨e0,M,d3,gB,rfl⟩,q30⟩ a h;have m0:=q30.size;replace I:=I.ext q30;replace hC:=hC.next q30;have d1:∀x∈e0,∀k∈z0x (slv x.1),k<h2.heap.size:=λx hx k hk=>((M.2 x hx).blk k hk).2;refine z0b ?_;refine z2y (cs:=[_,_]) 10 h (z0a rfl (z0a rfl z0f)) j0p (z0h rfl rfl rfl (z0h rfl rfl rfl z0s)) rfl rfl λa h=>z0d 13 rfl ?_;refine z0n h (z0a rfl z0f) (mkC func61) (x0b _ s.ys _ I.y I.ya (by have:=D.ly;omega) D.pe) ?_;rintro _ j3 ⟨⟨gy,ps,rfl,f0,hY,b9,c1⟩,q31⟩ a h;have m1:=q31.size;replace I:=I.ext q31;replace hC:=hC.next q31;refine z0b ?_;refine z0d 17 rfl ?_;refine z0n h (z0a rfl z0f) j3y (y6b _ s.fb.ts _ I.f.t I.f.tt (by have:=D.lt;omega) D.tb) ?_;rintro _ h3 ⟨⟨gt,us,rfl,e5,hT,a6,a5⟩,q32⟩ a h;have m2:=q32.size;replace I:=I.ext q32;replace hC:=hC.next q32;have a4:∀i,i<us.length->∀q∈(us.getD i tq0).2,∀k∈z0x (slv q.th),k<h3.heap.size:=λi hi q hq k hk=>((hT.lps i hi q hq).1.blk k hk).2;refine z0b ?_;refine z0d 26 rfl ?_;refine z0n h (z0a rfl z0f) x2f (z3q _ s.fb.fs _ I.f.f D.fl) ?_;rintro _ h4 ⟨gf,rfl,e2,a2,b5⟩ a h;have m3:=b5.size;replace J:=J.ext (d9.n5 q29 q30 q31 q32 b5);replace hC:=hC.next b5;refine z0b ?_;refine z2y (cs:=[_,_,_,_,_,_,_]) 27 h (z0a rfl (z0a rfl (z0a rfl (z0a rfl (z0a rfl (z0a rfl z0f)))))) x9m (z0h rfl rfl rfl (z0h rfl rfl rfl (z0h rfl rfl rfl (z0h rfl rfl rfl (z0h rfl rfl rfl (z0h rfl rfl rfl z0s)))))) rfl rfl λa h=>z0d 28 rfl ?_;refine y5z h rfl rfl rfl λj4 a0 b6 hz a h=>?_;obtain⟨Z,hg⟩:∃g,g=h4.heap.size:=⟨_,rfl⟩;rw[<-hg]at a0 h hz;have a3:g1<Z:=by have:=J.lt;omega
 have m4:=b6.size;replace a1:=a1.ext (q29.n5 q30 q31 q32 b5 b6);replace O:=O.ext (q30.n4 q31 q32 b5 b6);replace M:=M.ext (q31.n3 q32 b5 b6);replace hY:=hY.ext (q32.n2 b5 b6);replace hT:=hT.ext (b5.n1 b6);replace a2:=a2.ext b6;replace hC:=hC.next b6;refine z0b ?_;refine z0d 29 rfl ?_;refine z0r h rfl λa h=>?_;refine z0b ?_;refine z0q ?_;clear hC b7 U;refine bk (h.sub (L':=[(1,_),(3,_)]) (.c2 rfl rfl)) ?_;exact jE ((⟨Z,gy,6,gt,6,gm,_⟩:MA)) (.c2 rfl rfl) ⟨((q2.n6 d9 q29 q30 q31 q32 b5).n1 b6),(y6v a0 (O.low (by omega)) (M.low (by omega)) (y1o hY (by omega)) b9 c1 (y1y hT (by omega)) a6 a5 a1 (a2.low (by omega)) D.ly D.lt (((q1.n6 q2 d9 q29 q30 q31 q32).n1 b5).n1 b6) (by omega) (by omega) (λx hx hb=>by rcases List.mem_append.1 hx with k|k;have:=d5 x k _ hb;omega;have:=d1 x k _ hb;omega) (λi hi q hq hb=>by have:=a4 i (by have:=D.lt;omega) q hq _ hb;omega) d6 d3)⟩;rintro ka j5 ⟨f5,⟨m,hM,e4⟩⟩;have m5:=f5.size;have f1:=hM;refine kpC [(1,_),(3,.pointer (some ⟨ka.gk,0,none⟩))] (.c2 rfl rfl) (sq (sr (fad rfl z8n (x3p rfl y2v rfl ?_))));replace J:=J.ext f5;refine z0g rfl J rfl u3f (lnS rfl underlying36 (mv rfl (nn (bl ?_))));refine lpK (ι:=Nat) [(3,_),(37,_),(38,_)] (λi=>[(39,.int .i64 (i:Int))]) (λi w'=>i<=s.fb.cs.length/\(∃m:MQ,m.p=(⟨s.rk,⟨trimB (plB s.q.fs),trimB (plB s.q.bs)⟩,s.ys.map YQ.p,z2a s.fb.ts,s.fb.cs.take i,s.fb.fs⟩:MSt)/\MkM τd 137 w0 ka w' m)) (λi=>s.fb.cs.length-i) 0 (.c4 rfl rfl rfl rfl) ⟨Nat.zero_le _,⟨m,e4,hM⟩⟩ ?_;rintro i j6 ⟨hi,⟨m,e4,hM⟩⟩;have f1:=hM;refine kpC [(3,_),(37,_),(38,_),(39,_)] (.c4 rfl rfl rfl rfl) ?_;have hk:=hM.k;have i0:=hk.lt;refine sr (lt' rfl rfl (nn (sq (cd rfl (λc0=>?_) (λc0=>?_)))));refine sk (tn (sq (bl (sr (z1a (cx0) rfl (e9.f.c.ext hM.fr.fr) rfl v1j z1d (λh5 f3=>?_))))));refine z1i rfl (f3 _ (e9.f.c.ext hM.fr.fr)) x5o (al v2h rfl rfl (λg5 j7 h9 e1 f6 m6=>(z0j (vs:=[_,_,_,_,_]) rfl rfl e1 u6i (λj8 e1 f7 m7=>(nn ?_)))));replace hM:=f1.ext (f6.z1 f7);replace hk:=(hk.ext f6).fr f7;intro a h;refine z0i (some 11) (λwb w'=>Fr [] wb w') z2o ?_;intro f8 e6;have m8:=e6.size;replace hM:=hM.ext e6;replace hk:=hk.ext e6;replace e1:=e1.ext e6;have hC:Fr [] f8 f8:=Fr.refl _ _;have f2:=hM;have e7:=hk;have b8:=e1;refine z0e 0 h rfl rfl λa h=>z0o 1 h rfl rfl λa h=>z0c 2 h rfl y1x rfl λa h=>z0l 3 h rfl (λ_ hw=>e7.ext hw) rfl v0j rfl λa h=>z0c 4 h rfl y2g rfl λa h=>z1e (vs:=[_,_]) 5 h rfl (λ_ hw=>(b8.ext hw)) z3o rfl rfl λa h=>z0c 6 h rfl y2h rfl λa h=>z1e (vs:=[_,_]) 7 h rfl (λ_ hw=>(b8.ext hw)) z3o rfl rfl λa h=>z2y (cs:=[_,_,_,_]) 8 h (z0a rfl (z0a rfl z0f)) u7z (z0h rfl rfl rfl (z0h rfl rfl rfl z0s)) rfl rfl λa h=>z0c 9 h rfl y5a rfl λa h=>z0l 10 h rfl (λ_ hw=>b8.ext hw) rfl na3 rfl λa h=>?_;refine z0d 11 rfl ?_;refine y7e (V:=crK) (k:=cxK (s.fb.cs.getD i cx0)) (v:=.int .i64 (s.fb.cs.getD i cx0).n) h rfl rfl rfl hM.c x7x underlying135 λj9 f4 hq _hz a h=>?_;rw[show m.cr=s.fb.cs.take i from congrArg MSt.cr e4]at f4;replace hM:=hM.cross (l:=s.fb.cs.take (i+1)) (by rw[<-v9y f9 (by omega)];exact f4) hq;refine z1n ?_;refine z0q ?_;clear hC f2 e7 b8;refine bk (h.sub (L':=[(3,_),(37,_),(38,_),(39,_)]) (.c4 rfl rfl rfl rfl)) (bn' (tn (rg (z0v rfl rfl (wi6 (by omega)) (mv rfl (nl ?_))))));exact lpE (i+1) (.c4 rfl rfl rfl rfl) ⟨by omega,⟨{ m with cr:=s.fb.cs.take (i+1) },by rw[show ({ m with cr:=s.fb.cs.take (i+1) }:MQ).p={ m.p with cr:=s.fb.cs.take (i+1) } from rfl,e4],hM⟩⟩ (by omega);obtain rfl:i=s.fb.cs.length:=by omega
 refine ex (te (te (xh (tn (sr (mv rfl (asg rfl (kpL [(2,_)] (.cons rfl .nil) (nn (rt (r1 results25 rfl ?_)))))))))));exact⟨_,rfl,ka,m,rfl,hM,by rw[e4,List.take_length]⟩
theorem j7j (v:Value)(l:List Int)(w0:World)(J:Sl Enc.i64 w0 v l)(hl:l.length<=1000):Rets prog 121 #[v] w0 λr w'=>r=.int .i64 (orZ l)/\w'=w0:=by
 obtain⟨A,c,rfl,a0,hM,hA⟩:=id J;clear hA;unfold maxLen at hM;refine we [(0,.slice A l.length c)] func121 rfl ntmps121 rfl (.cons rfl .nil) ?_;have M:=J;refine sr (asg rfl (nn (sr (asg rfl (nn (sq (sr (mv rfl (lnS rfl underlying85 (mv rfl (nn (bl ?_))))))))))));refine lpK (ι:=Nat) [(3,_),(6,_),(7,_)] (λi=>[(8,.int .i64 (i:Int))]) (λi w'=>Fr [] w0 w'/\i<=l.length/\(∀j,j<i->l.getD j 0=0)/\w'=w0) (λi=>l.length-i) 0 (.c4 rfl rfl rfl rfl) ⟨Fr.refl _ _,⟨Nat.zero_le _,⟨λj h=>absurd h (by omega),rfl⟩⟩⟩ ?_;rintro i w1 ⟨Z,⟨hi,⟨O,D⟩⟩⟩;refine kpC [(3,_),(6,_),(7,_),(8,_)] (.c4 rfl rfl rfl rfl) (sr (lt' rfl rfl (nn (sq (cd rfl (λc0=>?_) (λc0=>?_))))));refine sk (tn (sq (bl (sr ?_))));replace J:=M.ext Z;refine z1a (0) rfl J rfl y8a z1d (λU I=>?_);refine z1g rfl (I _ J) na3 (asg rfl (nn (sr (mv rfl (mv rfl (ne' rfl rfl (nn (cd rfl (λc1=>?_) (λc1=>?_)))))))));refine sr (mv rfl (asg rfl (kpL [(2,_)] (.cons rfl .nil) (nn (rt (rb (tr (tr (rb (tr (r1 results121 rfl ?_)))))))))));exact⟨_,rfl,congrArg (Value.int .i64) (v4a (by omega) O (by omega)).symm,D⟩;refine sk (bn' (tn (rg (z0v rfl rfl (wi6 (by omega)) (mv rfl (nl ?_))))));exact lpE (i+1) (.c4 rfl rfl rfl rfl) ⟨Z,⟨by omega,⟨λj h=>by
  by_cases e:j=i;subst e;omega;exact O j (by omega),D⟩⟩⟩ (by omega)
 obtain rfl:i=l.length:=by omega
 refine ex (te (te (xh (tn (sr (mv rfl (asg rfl (kpL [(2,_)] (.cons rfl .nil) (nn (rt (r1 results121 rfl ?_)))))))))));exact⟨_,rfl,congrArg (Value.int .i64) (x0g O).symm,D⟩
theorem nanD (x:Int)(W:World):Calls prog 165 #[.int .i64 x] W λe w'=>e=.returned (.bool false)/\w'=W:=by
 go_enter func165,ntmps165;go_wp2;go_ret;exact⟨by simp,rfl⟩
theorem j6y (x:Int)(W:World):Calls prog 164 #[.int .u8 x] W λe w'=>e=.returned (.bool false)/\w'=W:=by
 go_enter func164,ntmps164;go_wp2;go_ret;exact⟨by simp,rfl⟩
set_option maxHeartbeats 1000000 in
theorem cmpD (x y:Int)(W:World):Calls prog 123 #[.int .i64 x,.int .i64 y] W λe w'=>e=.returned (.int .i64 (z9v x y))/\w'=W:=by
 go_enter func123,ntmps123
 go_wp2_with (go_at_call 165;refine(nanD _ _).mono ?_;rintro e w' ⟨rfl,D⟩;rw[D])
 all_goals (go_ret;refine⟨?_,rfl⟩;unfold z9v;(repeat' split)<;>first|rfl|(exfalso;omega))
set_option maxHeartbeats 1000000 in
theorem j6u (x y:Int)(W:World):Calls prog 122 #[.int .u8 x,.int .u8 y] W λe w'=>e=.returned (.int .i64 (z9v x y))/\w'=W:=by
 go_enter func122,ntmps122
 go_wp2_with (go_at_call 164;refine(j6y _ _).mono ?_;rintro e w' ⟨rfl,D⟩;rw[D])
 all_goals (go_ret;refine⟨?_,rfl⟩;unfold z9v;(repeat' split)<;>first|rfl|(exfalso;omega))
theorem orD (b T:Nat)(x y:Int)(W:World)(D:W.heap[b]?=some (.cells #[.int .i64 x,.int .i64 y] T (0,0))):Calls prog 121 #[.slice (some ⟨b,0,none⟩) 2 2] W λe w'=>e=.returned (.int .i64 (orZ [x,y]))/\w'=W:=
 Calls.mono (j7j _ _ W (j3a D) (by simp)) (by rintro e w' ⟨r,rfl,rfl,h⟩;exact⟨rfl,h⟩)
set_option maxHeartbeats 4000000 in
theorem u5l (x y:LId)(W:World):Calls prog 74 #[.agg #[.int .u8 x.y,.int .i64 x.n],.agg #[.int .u8 y.y,.int .i64 y.n]] W λe w'=>e=.returned (.int .i64 (z7c x y))/\DG W w':=by
 rw[<-x8a x y]
 go_enter func74,ntmps74
 go_wp2
 go_region_held3 (λw'=>w'.cell? ⟨W.heap.size,0,none⟩=some (.int .u8 x.y)/\w'.cell? ⟨W.heap.size,1,none⟩=some (.int .i64 x.n)/\w'.cell? ⟨W.heap.size+1,0,none⟩=some (.int .u8 y.y)/\w'.cell? ⟨W.heap.size+1,1,none⟩=some (.int .i64 y.n)) (go_keep)
  (first|(go_at_call 122;refine(j6u _ _ _).mono ?_;rintro e w' ⟨rfl,rfl⟩)|(go_at_call 123;refine(cmpD _ _ _).mono ?_;rintro e w' ⟨rfl,rfl⟩)|(go_at_call 121;refine(orD _ 3 (z9v x.y y.y) (z9v x.n y.n) _ (u6v _ _ _ (by simp))).mono ?_;rintro e w' ⟨rfl,rfl⟩)|(go_at_call 121;refine(orD _ 3 (z9v x.y y.y) (z9v x.n y.n) _ (j6i _ _ _ (by simp))).mono ?_;rintro e w' ⟨rfl,rfl⟩))
 all_goals go_wp2
 all_goals go_ret
 all_goals refine⟨rfl,?_⟩
 all_goals repeat first|exact DG.refl _|refine DG.drew ?_|refine DG.alloc ?_ _
set_option maxHeartbeats 4000000 in
theorem j3r (x y:Cx)(W:World):Calls prog 73 #[j0m x,j0m y] W λe w'=>e=.returned (.int .i64 (x0x x y))/\DG W w':=by
 go_enter func73,ntmps73
 go_wp2_with (first|(go_at_call 74;refine(u5l ⟨_,_⟩ ⟨_,_⟩ _).mono ?_;rintro e w' ⟨rfl,D⟩;have M:w'.cell? ⟨W.heap.size,2,none⟩=some (.int .u8 x.b.y):=D.cell (by simp[j0m]);have c2:w'.cell? ⟨W.heap.size,3,none⟩=some (.int .i64 x.b.n):=D.cell (by simp[j0m]);have c3:w'.cell? ⟨W.heap.size+1,2,none⟩=some (.int .u8 y.b.y):=D.cell (by simp[j0m]);have c4:w'.cell? ⟨W.heap.size+1,3,none⟩=some (.int .i64 y.b.n):=D.cell (by simp[j0m]))|(go_at_call 74;refine(u5l ⟨_,_⟩ ⟨_,_⟩ _).mono ?_;rintro e J ⟨rfl,I⟩))
 all_goals go_ret
 ·rename_i h
  refine⟨?_,(((DG.refl _).alloc _).alloc _).trans D⟩
  show Ending.returned (Value.int .i64 (z7c x.a y.a))=_
  unfold x0x;rw[if_pos (by simpa using h)]
 rename_i h
 refine⟨?_,((((DG.refl _).alloc _).alloc _).trans D).trans I⟩
 show Ending.returned (Value.int .i64 (z7c x.b y.b))=_
 unfold x0x;rw[if_neg (by simpa using h)]
end Go.Proofs.YtpgdchkdlgkmgaaGreatDoor
namespace Go.Proofs
open Go.Shelf
def Tryz.sortCx_ren:Go.Shelf.Ren:=⟨fun|6=>72|15=>120|14=>119|28=>162|29=>163|20=>154|21=>155|22=>156|23=>157|24=>158|25=>159|26=>160|27=>161|46=>204|47=>205|48=>206|49=>207|50=>208|57=>234|n=>n,fun|22=>36|24=>109|25=>142|3=>3|39=>208|0=>0|53=>264|55=>266|4=>4|46=>257|45=>256|50=>261|5=>5|9=>9|66=>296|70=>300|76=>324|77=>325|n=>n,fun|n=>n⟩
theorem Tryz.sortCx:Go.Proofs.SlLaysF0.n6 Tryz.prog Tryz.sortCx_ren:={
 mixed:=by kernel_rfl
 f6:=⟨Tryz.f72.name,by decide,Tryz.func72.trans (congrArg some (by kernel_rfl))⟩
 f14:=⟨Tryz.f119.name,by decide,Tryz.func119.trans (congrArg some (by kernel_rfl))⟩
 f15:=Tryz.func120.trans (congrArg some (by kernel_rfl))
 f20:=⟨Tryz.f154.name,by decide,Tryz.func154.trans (congrArg some (by kernel_rfl))⟩
 f21:=⟨Tryz.f155.name,by decide,Tryz.func155.trans (congrArg some (by kernel_rfl))⟩
 f22:=⟨Tryz.f156.name,by decide,Tryz.func156.trans (congrArg some (by kernel_rfl))⟩
 f23:=⟨Tryz.f157.name,by decide,Tryz.func157.trans (congrArg some (by kernel_rfl))⟩
 f24:=⟨Tryz.f158.name,by decide,Tryz.func158.trans (congrArg some (by kernel_rfl))⟩
 f25:=⟨Tryz.f159.name,by decide,Tryz.func159.trans (congrArg some (by kernel_rfl))⟩
 f26:=⟨Tryz.f160.name,by decide,Tryz.func160.trans (congrArg some (by kernel_rfl))⟩
 f27:=⟨Tryz.f161.name,by decide,Tryz.func161.trans (congrArg some (by kernel_rfl))⟩
 f28:=Tryz.func162.trans (congrArg some (by kernel_rfl))
 f29:=Tryz.func163.trans (congrArg some (by kernel_rfl))
 f46:=⟨Tryz.f204.name,by decide,Tryz.func204.trans (congrArg some (by kernel_rfl))⟩
 f47:=Tryz.func205.trans (congrArg some (by kernel_rfl))
 f48:=Tryz.func206.trans (congrArg some (by kernel_rfl))
 f49:=⟨Tryz.f207.name,by decide,Tryz.func207.trans (congrArg some (by kernel_rfl))⟩
 f50:=⟨Tryz.f208.name,by decide,Tryz.func208.trans (congrArg some (by kernel_rfl))⟩
 f57:=⟨Tryz.f234.name,by decide,Tryz.func234.trans (congrArg some (by kernel_rfl))⟩
 t0:=Tryz.underlying0
 a0:=Tryz.isAgg0
 z0:=Tryz.sizeOf0
 v0:=Tryz.zeroValue0
 t3:=Tryz.underlying3
 a3:=Tryz.isAgg3
 z3:=Tryz.sizeOf3
 v3:=Tryz.zeroValue3
 t4:=Tryz.underlying4
 a4:=Tryz.isAgg4
 z4:=Tryz.sizeOf4
 v4:=Tryz.zeroValue4
 t5:=Tryz.underlying5
 a5:=Tryz.isAgg5
 z5:=Tryz.sizeOf5
 v5:=Tryz.zeroValue5
 t9:=Tryz.underlying9
 a9:=Tryz.isAgg9
 z9:=Tryz.sizeOf9
 v9:=Tryz.zeroValue9
 t22:=Tryz.underlying36
 a22:=Tryz.isAgg36
 z22:=Tryz.sizeOf36
 v22:=Tryz.zeroValue36
 t25:=Tryz.underlying142
 a25:=Tryz.isAgg142
 z25:=Tryz.sizeOf142
 v25:=Tryz.zeroValue142
 t39:=Tryz.underlying208
 a39:=Tryz.isAgg208
 z39:=Tryz.sizeOf208
 v39:=Tryz.zeroValue208
 t45:=Tryz.underlying256
 a45:=Tryz.isAgg256
 z45:=Tryz.sizeOf256
 v45:=Tryz.zeroValue256
 t46:=Tryz.underlying257
 a46:=Tryz.isAgg257
 z46:=Tryz.sizeOf257
 v46:=Tryz.zeroValue257
 t50:=Tryz.underlying261
 a50:=Tryz.isAgg261
 z50:=Tryz.sizeOf261
 v50:=Tryz.zeroValue261
 t53:=Tryz.underlying264
 a53:=Tryz.isAgg264
 z53:=Tryz.sizeOf264
 v53:=Tryz.zeroValue264
 t55:=Tryz.underlying266
 a55:=Tryz.isAgg266
 z55:=Tryz.sizeOf266
 v55:=Tryz.zeroValue266
 t66:=Tryz.underlying296
 a66:=Tryz.isAgg296
 z66:=Tryz.sizeOf296
 v66:=Tryz.zeroValue296
 t70:=Tryz.underlying300
 a70:=Tryz.isAgg300
 z70:=Tryz.sizeOf300
 v70:=Tryz.zeroValue300
 t76:=Tryz.underlying324
 a76:=Tryz.isAgg324
 z76:=Tryz.sizeOf324
 v76:=Tryz.zeroValue324
 t77:=Tryz.underlying325
 a77:=Tryz.isAgg325
 z77:=Tryz.sizeOf325
 v77:=Tryz.zeroValue325 }
def Tryz.sortId_ren:Go.Shelf.Ren:=⟨fun|6=>76|15=>120|14=>124|28=>162|29=>163|20=>166|21=>167|22=>168|23=>169|24=>170|25=>171|26=>172|27=>173|46=>209|47=>205|48=>206|49=>210|50=>211|57=>235|n=>n,fun|22=>37|24=>87|25=>141|3=>3|39=>208|0=>0|53=>264|55=>266|4=>4|46=>257|45=>256|50=>261|5=>5|9=>9|66=>296|70=>300|76=>324|77=>325|n=>n,fun|n=>n⟩
theorem Tryz.sortId:Go.Proofs.SlLaysF0.n6 Tryz.prog Tryz.sortId_ren:={
 mixed:=by kernel_rfl
 f6:=⟨Tryz.f76.name,by decide,Tryz.func76.trans (congrArg some (by kernel_rfl))⟩
 f14:=⟨Tryz.f124.name,by decide,Tryz.func124.trans (congrArg some (by kernel_rfl))⟩
 f15:=Tryz.func120.trans (congrArg some (by kernel_rfl))
 f20:=⟨Tryz.f166.name,by decide,Tryz.func166.trans (congrArg some (by kernel_rfl))⟩
 f21:=⟨Tryz.f167.name,by decide,Tryz.func167.trans (congrArg some (by kernel_rfl))⟩
 f22:=⟨Tryz.f168.name,by decide,Tryz.func168.trans (congrArg some (by kernel_rfl))⟩
 f23:=⟨Tryz.f169.name,by decide,Tryz.func169.trans (congrArg some (by kernel_rfl))⟩
 f24:=⟨Tryz.f170.name,by decide,Tryz.func170.trans (congrArg some (by kernel_rfl))⟩
 f25:=⟨Tryz.f171.name,by decide,Tryz.func171.trans (congrArg some (by kernel_rfl))⟩
 f26:=⟨Tryz.f172.name,by decide,Tryz.func172.trans (congrArg some (by kernel_rfl))⟩
 f27:=⟨Tryz.f173.name,by decide,Tryz.func173.trans (congrArg some (by kernel_rfl))⟩
 f28:=Tryz.func162.trans (congrArg some (by kernel_rfl))
 f29:=Tryz.func163.trans (congrArg some (by kernel_rfl))
 f46:=⟨Tryz.f209.name,by decide,Tryz.func209.trans (congrArg some (by kernel_rfl))⟩
 f47:=Tryz.func205.trans (congrArg some (by kernel_rfl))
 f48:=Tryz.func206.trans (congrArg some (by kernel_rfl))
 f49:=⟨Tryz.f210.name,by decide,Tryz.func210.trans (congrArg some (by kernel_rfl))⟩
 f50:=⟨Tryz.f211.name,by decide,Tryz.func211.trans (congrArg some (by kernel_rfl))⟩
 f57:=⟨Tryz.f235.name,by decide,Tryz.func235.trans (congrArg some (by kernel_rfl))⟩
 t0:=Tryz.underlying0
 a0:=Tryz.isAgg0
 z0:=Tryz.sizeOf0
 v0:=Tryz.zeroValue0
 t3:=Tryz.underlying3
 a3:=Tryz.isAgg3
 z3:=Tryz.sizeOf3
 v3:=Tryz.zeroValue3
 t4:=Tryz.underlying4
 a4:=Tryz.isAgg4
 z4:=Tryz.sizeOf4
 v4:=Tryz.zeroValue4
 t5:=Tryz.underlying5
 a5:=Tryz.isAgg5
 z5:=Tryz.sizeOf5
 v5:=Tryz.zeroValue5
 t9:=Tryz.underlying9
 a9:=Tryz.isAgg9
 z9:=Tryz.sizeOf9
 v9:=Tryz.zeroValue9
 t22:=Tryz.underlying37
 a22:=Tryz.isAgg37
 z22:=Tryz.sizeOf37
 v22:=Tryz.zeroValue37
 t25:=Tryz.underlying141
 a25:=Tryz.isAgg141
 z25:=Tryz.sizeOf141
 v25:=Tryz.zeroValue141
 t39:=Tryz.underlying208
 a39:=Tryz.isAgg208
 z39:=Tryz.sizeOf208
 v39:=Tryz.zeroValue208
 t45:=Tryz.underlying256
 a45:=Tryz.isAgg256
 z45:=Tryz.sizeOf256
 v45:=Tryz.zeroValue256
 t46:=Tryz.underlying257
 a46:=Tryz.isAgg257
 z46:=Tryz.sizeOf257
 v46:=Tryz.zeroValue257
 t50:=Tryz.underlying261
 a50:=Tryz.isAgg261
 z50:=Tryz.sizeOf261
 v50:=Tryz.zeroValue261
 t53:=Tryz.underlying264
 a53:=Tryz.isAgg264
 z53:=Tryz.sizeOf264
 v53:=Tryz.zeroValue264
 t55:=Tryz.underlying266
 a55:=Tryz.isAgg266
 z55:=Tryz.sizeOf266
 v55:=Tryz.zeroValue266
 t66:=Tryz.underlying296
 a66:=Tryz.isAgg296
 z66:=Tryz.sizeOf296
 v66:=Tryz.zeroValue296
 t70:=Tryz.underlying300
 a70:=Tryz.isAgg300
 z70:=Tryz.sizeOf300
 v70:=Tryz.zeroValue300
 t76:=Tryz.underlying324
 a76:=Tryz.isAgg324
 z76:=Tryz.sizeOf324
 v76:=Tryz.zeroValue324
 t77:=Tryz.underlying325
 a77:=Tryz.isAgg325
 z77:=Tryz.sizeOf325
 v77:=Tryz.zeroValue325 }
end Go.Proofs
namespace Go.Proofs.YtpgdchkdlgkmgaaGreatDoor
open Go.Lw Go.G21 Go.G08 _root_.Go.Proofs.Tryz
open Go.Shelf Go.Sort
theorem u7l (f:Value)(W:World):Calls prog 154 #[.slice none 0 0,.int .i64 0,.int .i64 0,f] W λe w'=>e=.returned (.tuple #[])/\Fr [] W w':=by
 go_enter func154,ntmps154
 go_wp2
 refine wp_loop_rounds 1 ?_
 simp only[rounds_succ]
 go_wp2
 all_goals first|go_end0|((try simp only[Exit.inBlock,Exit.then]);refine bodyPost_ret (results_none rfl _ _ _) rfl ?_)
 all_goals exact⟨rfl,Fr.refl _ _⟩
theorem u4o (f:Value)(W:World):Calls prog 119 #[.slice none 0 0,.int .i64 0,.int .i64 0,.int .i64 0,f] W λe w'=>e=.returned (.tuple #[])/\Fr [] W w':=by
 go_enter func119,ntmps119
 go_wp2
 refine wp_loop_rounds 1 ?_
 simp only[rounds_succ]
 go_wp2_with (go_at_call 154;refine(u7l _ _).mono ?_;rintro e w' ⟨rfl,D⟩)
 all_goals first|go_end0|((try simp only[Exit.inBlock,Exit.then]);refine bodyPost_ret (results_none rfl _ _ _) rfl ?_)
 all_goals exact⟨rfl,D⟩
theorem u7o (W:World):Calls prog 120 #[.int .u64 0] W λe w'=>e=.returned (.int .i64 0)/\w'=W:=
 Any.bits_Len (SlLaysF0.n15.bits (P:=prog) (ρ:=sortCx_ren) { sortCx with }) (0:Int) W (by omega) (by omega)
theorem u7j (f:Value)(W:World):Calls prog 72 #[.slice none 0 0,f] W λe w'=>e=.returned (.tuple #[])/\Fr [] W w':=by
 go_enter func72,ntmps72
 go_wp2_with (first|(go_at_call 120;refine(u7o _).mono ?_;rintro e w' ⟨rfl,rfl⟩)|(go_at_call 119;refine(u4o _ _).mono ?_;rintro e w' ⟨rfl,D⟩))
 all_goals go_end0
 all_goals exact⟨rfl,D⟩
theorem u6x (f:Value)(W:World):Calls prog 166 #[.slice none 0 0,.int .i64 0,.int .i64 0,f] W λe w'=>e=.returned (.tuple #[])/\Fr [] W w':=by
 go_enter func166,ntmps166
 go_wp2
 refine wp_loop_rounds 1 ?_
 simp only[rounds_succ]
 go_wp2
 all_goals first|go_end0|((try simp only[Exit.inBlock,Exit.then]);refine bodyPost_ret (results_none rfl _ _ _) rfl ?_)
 all_goals exact⟨rfl,Fr.refl _ _⟩
theorem u7a (f:Value)(W:World):Calls prog 124 #[.slice none 0 0,.int .i64 0,.int .i64 0,.int .i64 0,f] W λe w'=>e=.returned (.tuple #[])/\Fr [] W w':=by
 go_enter func124,ntmps124
 go_wp2
 refine wp_loop_rounds 1 ?_
 simp only[rounds_succ]
 go_wp2_with (go_at_call 166;refine(u6x _ _).mono ?_;rintro e w' ⟨rfl,D⟩)
 all_goals first|go_end0|((try simp only[Exit.inBlock,Exit.then]);refine bodyPost_ret (results_none rfl _ _ _) rfl ?_)
 all_goals exact⟨rfl,D⟩
theorem u6r (W:World):Calls prog 120 #[.int .u64 0] W λe w'=>e=.returned (.int .i64 0)/\w'=W:=
 Any.bits_Len (SlLaysF0.n15.bits (P:=prog) (ρ:=sortId_ren) { sortId with }) (0:Int) W (by omega) (by omega)
theorem u7d (f:Value)(W:World):Calls prog 76 #[.slice none 0 0,f] W λe w'=>e=.returned (.tuple #[])/\Fr [] W w':=by
 go_enter func76,ntmps76
 go_wp2_with (first|(go_at_call 120;refine(u6r _).mono ?_;rintro e w' ⟨rfl,rfl⟩)|(go_at_call 124;refine(u7a _ _).mono ?_;rintro e w' ⟨rfl,D⟩))
 all_goals go_end0
 all_goals exact⟨rfl,D⟩
instance:Inhabited Cx:=⟨cx0⟩
instance:Inhabited LId:=⟨id0⟩
theorem j3b {w0:World}{T base:Nat}{v:Value}{l:List Cx}(J:Lw.Own z4o T base w0 v l)(hl:l.length<4611686018427387904)(hn:(l.map λc=>(c.a,c.b)).Nodup):Rets prog 72 #[v,.func (.func 73) #[] #[]] w0 λr w'=>r=.tuple #[]/\Lw.Own z4o T base w' v (z9z l)/\Fr (z0x v) w0 w':=
 Rets.mono (x8i (E:=z4o) (f:=72) sortCx rfl isAgg109 sizeOf109 x0x swoX (enters_of func73 (by kernel_rfl) rfl) (λx y W=>j3r x y W) (u7j _) J hl) (by
  rintro r w' ⟨rfl,l',M,O,D,I⟩
  rw[x4x hn M O]at D
  exact⟨rfl,D,I⟩)
theorem j4c {w0:World}{T base:Nat}{v:Value}{l:List LId}(J:Lw.Own z1k T base w0 v l)(hl:l.length<4611686018427387904):Rets prog 76 #[v,.func (.func 74) #[] #[]] w0 λr w'=>r=.tuple #[]/\Lw.Own z1k T base w' v (z9s l)/\Fr (z0x v) w0 w':=
 Rets.mono (x8i (E:=z1k) (f:=76) sortId rfl isAgg87 sizeOf87 z7c swoI (enters_of func74 (by kernel_rfl) rfl) (λx y W=>u5l x y W) (u7d _) J hl) (by
  rintro r w' ⟨rfl,l',M,O,D,I⟩
  rw[v0x M O]at D
  exact⟨rfl,D,I⟩)
end Go.Proofs.YtpgdchkdlgkmgaaGreatDoor
namespace Go.Proofs.YtpgdchkdlgkmgaaGreatDoor
open Go.Lw Go.G21 Go.G08 _root_.Go.Proofs.Tryz
theorem v9g (q:BdQ)(r:Int)(w0:World)(M:BdAt w0 q)(D:BdOk q.p)(Z:-4<=r/\r<=4):Rets prog 102 #[.agg #[.slice q.f.1 q.f.2.1 q.f.2.2,.slice q.b.1 q.b.2.1 q.b.2.2],.int .i64 r] w0 λv w'=>(∃g l n,l=z2w q.p r/\n=l.length/\n<=320/\v=.tuple #[.slice (some ⟨g,0,none⟩) n n,.int .i64 0]/\w0.heap.size<=g/\Lw.Own z3p 183 w0.heap.size w' (.slice (some ⟨g,0,none⟩) n n) l)/\Fr [] w0 w':=
 Rets.mono (v1x q r w0 M D Z) (by
  rintro v w' ⟨⟨g,rfl,I,J⟩,h3⟩
  have hN:=y5n D
  have O:=y3r q.p r
  have U:(z2w q.p r).length=(v7k q.p r).length:=z4d _
  exact⟨⟨g,_,_,rfl,rfl,by omega,rfl,I,J⟩,h3⟩)
theorem u8s {l:List Hd}{ps:List LId}(hl:ps.length=l.length)(h:∀j,j<l.length->ps.getD j id0=(l.getD j hd0).id):ps=l.map Hd.id:=by
 refine List.ext_getElem (by simp[hl]) λj I J=>?_;have D:j<l.length:=by omega
 have:=h j D;rw[List.getD,List.getD,List.getElem?_eq_getElem I,List.getElem?_eq_getElem D]at this;simpa using this
set_option maxHeartbeats 2000000 in
theorem y3i (q:BdQ)(r:Int)(w0:World)(hB:BdAt w0 q)(hv:BdOk q.p)(hr:-4<=r/\r<=4):Rets prog 47 #[.agg #[.slice q.f.1 q.f.2.1 q.f.2.2,.slice q.b.1 q.b.2.1 q.b.2.2],.int .i64 r] w0 λv w'=>(∃g n,n=(z2w q.p r).length/\v=.slice (some ⟨g,0,none⟩) n n/\w0.heap.size<=g/\Lw.Own z1k 87 w0.heap.size w' v ((z2w q.p r).map Hd.id))/\Fr [] w0 w':=by
 obtain⟨⟨hf,hb⟩,h4,b0⟩:=z3n hv;refine we [(0,.agg #[.slice q.f.1 q.f.2.1 q.f.2.2,.slice q.b.1 q.b.2.1 q.b.2.2]),(1,.int .i64 r)] func47 rfl ntmps47 rfl (.c2 rfl rfl) ?_;have a2:=hB;refine sr (bx rfl rfl rfl (λg2 w1 b1 a3 q1 z1=>(asg rfl (nn (sr (z0k rfl a3 z5s (mv rfl ?_)))))));replace hB:=a2.ext q1;refine cl (ev2 rfl rfl) (mkC func102) (v9g q _ _ hB hv hr) rfl ?_;rintro _ w2 ⟨⟨a1,l,n,a5,a0,b3,rfl,a8,U⟩,q2⟩;have z2:=q2.size;have a4:=(U.blk a1 (by simp[z0x])).2;refine mv rfl (xt rfl rfl (xt rfl rfl (asg rfl (asg rfl (kpL [(5,_)] (.cons rfl .nil) (nn (sr (mv rfl (lnS rfl underlying179 (z1f (m:=n) (c:=n) (id0) rfl rfl z6j y3v rfl (λJ w3 a9 I q3 z3=>(asg rfl (nn (sq (sr (mv rfl (lnS rfl underlying179 (mv rfl (nn (bl ?_))))))))))))))))))));refine lpK (ι:=Nat×List LId) [(7,_),(19,_),(20,_)] (λp=>[(21,.int .i64 (p.1:Int))]) (λp w'=>Fr [J] w3 w'/\p.1<=n/\p.2.length=n/\Lw.Own z1k 87 w0.heap.size w' (.slice (some ⟨J,0,none⟩) n n) p.2/\(∀j,j<p.1->p.2.getD j id0=(l.getD j hd0).id)) (λp=>n-p.1) (0,List.replicate n id0) (.c4 rfl rfl rfl rfl) ⟨Fr.refl _ _,⟨Nat.zero_le _,by simp,I.low (by omega),λj hj=>absurd hj (by simp)⟩⟩ ?_;rintro⟨i,ps⟩ w4 ⟨q4,⟨hi,D,I,O⟩⟩;simp only at hi I O D;have z4:=q4.size;refine kpC [(7,_),(19,_),(20,_),(21,.int .i64 (i:Int))] (.c4 rfl rfl rfl rfl) (sr (lt' rfl rfl (nn (sq (cd rfl (λc0=>?_) (λc0=>?_))))));refine sk (tn (sq (bl (sr (mv rfl ?_)))));replace U:=(U.ext q3).fr q4 (by intro k hk hb;simp[z0x]at hk hb;omega);refine z1a (hd0) rfl U.sl rfl z3f z1d (λa7 Z=>?_);refine z1i rfl (Z _ U.sl) z5g (al u2c rfl rfl (λg9 w5 b2 M q5 z5=>(asg rfl (z0j (vs:=[_,_,_,_,_]) rfl rfl M z8i (λw6 M q6 z6=>(nn (rg (mv rfl (mv rfl (fad rfl v6y (z1s (vs:=[_,_]) rfl M z3o rfl ?_)))))))))));replace I:=(I.ext q5).fr q6 (by intro k hk hb;simp at hk;subst hk;have:=(I.blk _ hb);omega);refine z9e (p:=i) (E:=z1k) rfl rfl z6j (z4y (i:=i) (((l.getD i hd0).id)) rfl rfl I (by omega) rfl y1u (λw7 I q7 z7=>(kpL [(7,_),(19,_),(20,_),(21,_)] (.c4 rfl rfl rfl rfl) (nl (bn' (tn (rg (z0v rfl rfl (wi6 (by omega)) (mv rfl (nl ?_))))))))));exact lpE ((i+1,ps.set i ((l.getD i hd0).id))) (.c4 rfl rfl rfl rfl) ⟨((Fr.refl [J] _).z4 q4 q5 q6 q7),⟨by simp only;omega,by simp only[List.length_set];exact D,I,λj hj=>by
  simp only at hj ⊢;rw[z1j (by omega)];split;rename_i e;subst e;rfl;exact O j (by omega)⟩⟩ (by simp only;omega)
 obtain rfl:i=n:=by omega
 refine ex (te (te (xh (tn (sr (mv rfl (asg rfl (kpL [(4,_)] (.cons rfl .nil) (nn (rt (r1 results47 rfl ?_)))))))))));have a6:=u8s (D.trans a0) (λj hj=>O j (by omega));subst a5;subst a6;exact⟨_,rfl,⟨J,_,a0,rfl,by omega,I⟩,(q1.z3 q2 q3 q4)⟩
theorem z8k:z3u prog 41 8:=⟨λ_=>by kernel_rfl,λ_=>by kernel_rfl⟩
theorem j2w:BuildAt prog 39 [(0,1),(1,1),(2,1),(3,1)] [(.slice none 0 0),(.slice none 0 0),(.slice none 0 0),(.slice none 0 0)]:=BuildAt.struct underlying39 (λ_=>by kernel_rfl) (λ_=>by kernel_rfl)
theorem v6a:BuildAt prog 41 [(0,1),(1,2),(3,1),(4,4)] [(.int .i64 0),(.slice none 0 0),(.slice none 0 0),(.slice none 0 0),(.slice none 0 0),(.slice none 0 0),(.slice none 0 0),(.slice none 0 0)]:=BuildAt.struct underlying41 (λ_=>by kernel_rfl) (λ_=>by kernel_rfl)
theorem j6p:BuildAt prog 109 [(0,2),(2,2),(4,1)] [(.int .u8 0),(.int .i64 0),(.int .u8 0),(.int .i64 0),(.int .i64 0)]:=BuildAt.struct underlying109 (λ_=>by kernel_rfl) (λ_=>by kernel_rfl)
theorem v7n:z1p prog 39 4:=λ_=>by kernel_rfl
theorem z9w:z1p prog 41 8:=λ_=>by kernel_rfl
theorem v7r (w:World):(zeroValue 39).run prog w=.ok (.agg #[(.slice none 0 0),(.slice none 0 0),(.slice none 0 0),(.slice none 0 0)]) w:=by kernel_rfl
theorem y8v (w:World):(zeroValue 41).run prog w=.ok (.agg #[(.int .i64 0),(.slice none 0 0),(.slice none 0 0),(.slice none 0 0),(.slice none 0 0),(.slice none 0 0),(.slice none 0 0),(.slice none 0 0)]) w:=by kernel_rfl
set_option maxHeartbeats 4000000 in
theorem x3w (wS:World)(ka:MA)(m:MQ)(w0:World)(hM:MkM τd 137 wS ka w0 m)(hi:MInv m.p)(m7:m.cr.length<=100000000):Rets prog 28 #[.pointer (some ⟨ka.gk,0,none⟩)] w0 λr w'=>∃s:StQ,r=.agg #[.int .i64 s.rk,.slice s.q.f.1 s.q.f.2.1 s.q.f.2.2,.slice s.q.b.1 s.q.b.2.1 s.q.b.2.2,.slice s.yv.1 s.yv.2.1 s.yv.2.2,.slice s.fb.t.1 s.fb.t.2.1 s.fb.t.2.2,.slice s.fb.c.1 s.fb.c.2.1 s.fb.c.2.2,.slice s.fb.h.1 s.fb.h.2.1 s.fb.h.2.2,.slice s.fb.f.1 s.fb.f.2.1 s.fb.f.2.2]/\StO τd 109 wS.heap.size w' s/\s.p=stM m.p/\Fr [] wS w':=by
 have o0:=hM.fr.size;have D:=hM.k;have n8:=D.lt;have n9:=hM.ly;have f4:=hM.lt;have h9:=hM;have m3:=(hM.t.out.blk ka.gt (by simp[z0x])).2;have m2:=hM.c.lt;have i1:=λk D=>(hM.f.blk k D).2;have m8:(crM m.cr).length=m.cr.length:=List.length_map ..;have k6:∀j,(m.ts.getD j tq0).2.length<=2048:=λj=>Nat.le_trans (u4f m.ts j) hi.all;have hfl:m.fl.length<=2048:=by have x:=hi.cnt;have y:=hi.all;have z:m.p.fa=m.fl:=rfl;rw[z]at x;omega
 refine we [(0,.pointer (some ⟨ka.gk,0,none⟩))] func28 rfl ntmps28 rfl (.cons rfl .nil) ?_;have a5:=hM;refine sr (al y8v rfl rfl (λg2 w1 m9 J q1 z1=>(nn (sr (mv rfl (nlc rfl (fad rfl y1x ?_)))))));replace D:=D.ext q1;refine z0g rfl D rfl v0j ?_;replace hM:=a5.ext q1;refine j3w rfl hM.c underlying135 rfl (z1f (m:=0) (c:=(crM m.cr).length) (cx0) rfl rfl v1j v2h rfl (λm5 w2 l8 ho q2 z2=>(asg rfl (kpL [(0,_),(2,_),(3,_)] (.c3 rfl rfl rfl) (nn (sq (sr (mv rfl (nlc rfl (fad rfl y1x ?_))))))))));replace D:=D.ext q2;refine z0g rfl D rfl v0j ?_;replace hM:=a5.ext (q1.n1 q2);refine u1c rfl hM.c underlying135 rfl (λj8 w3 l9 a0 q3 z3=>(nn (bl ?_)));replace ho:=ho.ext q3;refine lpK (ι:=Value×List Cx×List Cx) [(0,_),(2,_),(19,_)] (λp=>[(3,p.1)]) (λp w'=>Fr [] w1 w'/\(p.2.1++p.2.2).Perm m.cr/\Lw.Own z4o 109 w1.heap.size w' p.1 p.2.1/\CrIt w' j8 ka.gc (crM m.cr) p.2.2 none) (λp=>p.2.2.length) (_,[],m.cr) (.c4 rfl rfl rfl rfl) ⟨(q2.n1 q3),⟨List.Perm.refl _,ho.low (by omega),a0⟩⟩ ?_;rintro⟨vP,a3,rem⟩ w4 ⟨q4,⟨e9,ho,a0⟩⟩;simp only at e9 ho a0;have z4:=q4.size;refine kpC [(0,_),(2,_),(19,_),(3,vP)] (.c4 rfl rfl rfl rfl) ?_;have f6:=a0.neO ho;have k1:=a0.lt;have k5:=e9.length_eq;rw[List.length_append]at k5;refine sr (u8n rfl a0 rfl (λl1 c l2 g1 w5 a0 q5 z5=>?_) (λg1=>?_));refine xt rfl rfl (nn (sq (ct rfl ?_)));have i7:((a3++[c])++(l1++l2)).Perm m.cr:=by
  rw[g1]at e9;refine List.Perm.trans ?_ e9;rw[List.append_assoc];exact List.Perm.append_left _ (show (c::(l1++l2)).Perm (l1++c::l2) from List.perm_middle.symm)
 refine sk (tn (bl (sr (v9a rfl a0 rfl (xt rfl rfl (xt rfl rfl (al j5f rfl rfl (λg4 w6 n7 f8 q6 z6=>(z0j (vs:=[_,_,_,_]) rfl rfl f8 u9n (λw7 f8 q7 z7=>?_))))))))));refine asg rfl (nn (rg (mv rfl (y2u rfl rfl underlying138 y1u (z1s (vs:=[_,_]) rfl f8 z3o rfl (y2u rfl rfl underlying138 y1u (z1s (vs:=[_,_]) rfl f8 z3o rfl (mv rfl (z1v (cs:=[_,_,_,_,_]) (ev3 rfl rfl rfl) j6p (z0h rfl rfl rfl (z0h rfl rfl rfl (z0h rfl rfl rfl z0s))) rfl ?_)))))))));refine z2h ([c]) (ev1 rfl) rfl rfl rfl v1j (λm6 w8 m0 i4 q8 z8=>?_);replace a0:=((a0.ext q6).fr q7 (by intro k D;simp at D;subst D;exact⟨by omega,by omega⟩)).ext q8;replace ho:=(((ho.fr q5 (by intro k D U;simp at D;subst D;first|exact(f6 _ U).2 rfl|(have:=ho.blk _ U;omega))).ext q6).fr q7 (by intro k D U;simp at D;subst D;first|exact(f6 _ U).2 rfl|(have:=ho.blk _ U;omega))).ext q8;have f7:=ho;refine z2e rfl rfl ho i4.sl v1j (by unfold maxLen;simp only[List.length_cons,List.length_nil];omega) (by simp only[List.length_cons,List.length_nil];omega) (λo1 w9 ho q9 k4=>?_);have z9:=q9.size;replace a0:=a0.fr q9 (a0.neO f7);refine asg rfl (kpL [(0,_),(2,_),(3,_),(19,_)] (.c4 rfl rfl rfl rfl) (nl (bn' ?_)));exact lpE ((_,a3++[c],l1++l2)) (.c4 rfl rfl rfl rfl) ⟨((q4.z4 q5 q6 q7 q8).step q9 (λk D f4=>absurd (f7.blk k D).1 (by omega))),⟨i7,ho,a0.no⟩⟩ (by simp only[g1,List.length_append,List.length_cons];omega);refine xt rfl rfl (nn (sq (cf rfl ?_)));rw[g1,List.append_nil]at e9;have k3:(a3.map λc=>(c.a,c.b)).Nodup:=(e9.map _).nodup_iff.2 (by have x:=h9.c.nodup;rwa [y9s]at x);have g3:z9z a3=z9z m.cr:=x4x (by have x:=h9.c.nodup;rwa [y9s]at x) ((z2q a3).trans e9) (y3s a3);refine ex (te (te (xh (tn (sr (mv rfl ?_))))));have i5:=ho;replace J:=J.ext q4;refine cl (ev2 rfl rfl) (mkC func72) (j3b ho (by omega) k3) rfl ?_;rintro _ k7 ⟨rfl,ho,h5⟩;replace J:=J.fr h5 (λD=>by have:=(i5.blk _ D).1;omega);have p6:=h5.size;replace hM:=a5.ext ((q1.n1 q4).step h5 (λk D f4=>absurd (i5.blk k D).1 (by omega)));have D:=hM.k;refine nn (sq (sr (mv rfl (nlc rfl (fad rfl y2b (z0g rfl D rfl x3m (lnS rfl underlying35 (mv rfl (nn (bl ?_))))))))));refine lpK (ι:=Nat×List TQ) [(0,_),(2,_),(3,_),(39,_),(40,_)] (λp=>[(41,.int .i64 (p.1:Int))]) (λp w'=>Fr [ka.gt] k7 w'/\p.1<=6/\(∀j,(p.2.getD j tq0).2=(m.ts.getD j tq0).2)/\MkM τd 137 wS ka w' { m with ts:=p.2 }) (λp=>6-p.1) (0,m.ts) (.c6 rfl rfl rfl rfl rfl rfl) ⟨Fr.refl _ _,⟨Nat.zero_le _,λ_=>rfl,hM⟩⟩ ?_;rintro⟨i,ts⟩ o2 ⟨g6,⟨k2,d7,hM⟩⟩;simp only at k2 d7 hM;have p7:=g6.size;have a5:=hM;refine kpC [(0,_),(2,_),(3,_),(39,_),(40,_),(41,.int .i64 (i:Int))] (.c6 rfl rfl rfl rfl rfl rfl) ?_;have D:=hM.k;have g5:ts.length=6:=hM.lt;have m4:=hM.lt;refine sr (lt' rfl rfl (nn (sq (cd rfl (λc1=>?_) (λc1=>?_)))));refine sk (tn (sq (bl (sr (mv rfl (z1a (tq0) rfl hM.t.out.sl rfl y6e z1d (λl7 i0=>?_)))))));refine z1g rfl (i0 _ hM.t.out.sl) x2c (asg rfl (asg rfl (nn ?_)));intro a h;refine z0i (some 7) (λwb w'=>Fr [] wb w') z2o ?_;intro i9 g7;have p8:=g7.size;replace hM:=hM.ext g7;replace D:=D.ext g7;have hC:Fr [] i9 i9:=Fr.refl _ _;have b3:=hM;have I:=D;refine z0e 0 h rfl rfl λa h=>z0o 1 h rfl rfl λa h=>z0c 2 h rfl y2b rfl λa h=>z0l 3 h rfl (λ_ hw=>I.ext hw) rfl x3m rfl λa h=>z0e 4 h rfl rfl λa h=>z0e 5 h rfl rfl λa h=>z0d 6 rfl ?_;refine z0n h (z0a rfl z0f) (mkC func75) (v6g _ (ts.getD i tq0).2 _ (hM.t.ins i (by rw[hM.lt];omega)).sl (by rw[d7 i];have:=k6 i;omega)) ?_;rintro _ o3 ⟨h8,rfl,m1,hX,g8⟩ a h;have p9:=g8.size;replace hM:=hM.ext g8;replace hC:=hC.next g8;have i3:∀j,j<6->∀b∈z0x (slv (ts.getD j tq0).1),b∉z0x (slv (((some ⟨h8,0,none⟩,(ts.getD i tq0).2.length,(ts.getD i tq0).2.length)):SV)):=λj hj b U j9=>by have:=((a5.t.ins j (by rw[a5.lt];omega)).blk b U).2;simp[z0x,slv]at j9;omega
 refine z0b ?_;refine z0d 7 rfl ?_;refine y9c (p:=i) (i:=(i:Int)) (m:=6) (E:=z3y) h rfl rfl y6e (by omega) (by omega) (by omega) rfl λa h=>?_;refine z0b ?_;refine z0d 8 rfl ?_;refine z1b (i:=i) (((some ⟨h8,0,none⟩,(ts.getD i tq0).2.length,(ts.getD i tq0).2.length),(ts.getD i tq0).2):TQ) h rfl rfl hM.t.out (by rw[hM.lt];omega) rfl j7w λo4 h2 h6 _hz a h=>?_;replace hM:=hM.tabh mtd (by omega) (hX.low (by omega)) i3 h2 h6;have a5:=hM;clear h2;have q0:=h6.size;clear _hz;refine z1n ?_;refine z0q ?_;clear hC b3 I;refine bk (h.sub (L':=[(0,_),(2,_),(3,_),(39,_),(40,_),(41,_)]) (.c6 rfl rfl rfl rfl rfl rfl)) (bn' (tn (rg (z0v rfl rfl (wi6 (by omega)) (mv rfl (nl ?_))))));exact lpE ((i+1,_)) (.c6 rfl rfl rfl rfl rfl rfl) ⟨((Fr.refl [ka.gt] _).z4 g6 g7 g8 h6),⟨by simp only;omega,λj=>by
  simp only;rw[z1j (by omega)];split;rename_i e;subst e;exact d7 _;exact d7 j,hM⟩⟩ (by simp only;omega)
 obtain rfl:i=6:=by omega
 refine ex (te (te (xh (tn (sr (mv rfl (nlc rfl (fad rfl y2i (z0g rfl D rfl z5t ?_)))))))));replace ho:=ho.fr g6 (by intro k D U;simp at D;subst D;have:=ho.blk _ U;omega);replace J:=J.fr g6;refine cl (z0a rfl (z0a rfl z0f)) (mkC func76) (j4c hM.f (by show m.fl.length<_;omega)) rfl ?_;rintro _ o5 ⟨rfl,k0,g0⟩;have r4:=g0.size;replace hM:=hM.fallS mtd (by decide) k0 g0;have a5:=hM;have D:=hM.k;replace ho:=ho.fr g0 (λk D U=>by have:=i1 k D;have:=(ho.blk k U).1;omega);have f9:=λk D=>(ho.blk k D).2;replace J:=J.fr g0 (λD=>by have:=i1 _ D;omega);have f2:=J;refine kpL [(0,_),(2,_),(3,_)] (.c3 rfl rfl rfl) (nn (sq ?_));intro a h;refine z0i none (λwb w'=>Fr [] wb w') z2o ?_;intro h7 a6;have r5:=a6.size;replace hM:=hM.ext a6;replace D:=D.ext a6;replace ho:=ho.ext a6;have hC:Fr [] h7 h7:=Fr.refl _ _;have b3:=hM;have I:=D;have f3:=ho;refine z0e 0 h rfl rfl λa h=>z0o 1 h rfl rfl λa h=>z0c 2 h rfl y2b rfl λa h=>z0l 3 h rfl (λ_ hw=>I.ext hw) rfl x3m rfl λa h=>z0e 4 h rfl rfl λa h=>z0e 6 h rfl rfl λa h=>z0o 7 h rfl rfl λa h=>z0c 8 h rfl z3a rfl λa h=>z1e (vs:=[_,_]) 9 h rfl (λ_ hw=>(I.ext hw)) z5s rfl rfl λa h=>z0e 10 h rfl rfl λa h=>z0o 11 h rfl rfl λa h=>?_;refine z0c 12 h rfl z3t rfl λa h=>z0l 13 h rfl (λ_ hw=>I.ext hw) rfl na3 rfl λa h=>z0e 15 h rfl rfl λa h=>z0o 16 h rfl rfl λa h=>z0c 17 h rfl y2i rfl λa h=>z0l 18 h rfl (λ_ hw=>I.ext hw) rfl z5t rfl λa h=>z2d 5 21 (by kernel_rfl) rfl rfl ?_ ?_;refine z0n h (z0a rfl z0f) (mkC func77) (v4p _ (z9z a3) _ ho.sl (by rw[(z2q a3).length_eq];omega)) ?_;rintro _ k8 ⟨e6,rfl,i2,O,b2⟩ a h;have r6:=b2.size;replace hM:=hM.ext b2;replace D:=D.ext b2;replace ho:=ho.ext b2;replace hC:=hC.next b2;have h3:=(O.blk e6 (by simp[z0x])).2;refine z0b ?_;refine z2d 14 21 (by kernel_rfl) rfl rfl ?_ ?_;refine z0n h (z0a rfl (z0a rfl z0f)) (mkC func47) (y3i m.q m.rk _ hM.b.at hi.B hi.rk) ?_;rintro _ k9 ⟨⟨b4,i8,h1,rfl,g9,hH⟩,q18⟩ a h;have r7:=q18.size;replace hM:=hM.ext q18;replace D:=D.ext q18;replace ho:=ho.ext q18;replace O:=O.ext q18;replace hC:=hC.next q18;have h0:=(hH.blk b4 (by simp[z0x])).2;refine z0b ?_;refine z2d 19 21 (by kernel_rfl) rfl rfl ?_ ?_;refine z0n h (z0a rfl z0f) x2f (z3q _ (z9s m.fl) _ hM.f.sl (by rw[(z2v _).length_eq];omega)) ?_;rintro _ l0 ⟨a7,rfl,f5,Z,d9⟩ a h;have r8:=d9.size;replace D:=D.ext d9;replace hC:=hC.next d9;have e8:=(Z.blk a7 (by simp[z0x])).2;refine z0b ?_;refine z2y (cs:=[_,_,_,_]) 20 h (z0a rfl (z0a rfl (z0a rfl (z0a rfl z0f)))) j2w (z0h rfl rfl rfl (z0h rfl rfl rfl (z0h rfl rfl rfl (z0h rfl rfl rfl z0s)))) rfl rfl λa h=>z0d 21 rfl ?_;refine z1c h v7r rfl λo6 M b5 hz a h=>?_;obtain⟨a8,hg⟩:∃g,g=l0.heap.size:=⟨_,rfl⟩;rw[<-hg]at M h hz;have h4.gk_8:ka.gk<a8:=by have:=D.lt;omega
 have r9:=b5.size;replace D:=D.ext b5;replace ho:=ho.ext (d9.n1 b5);replace O:=O.ext (d9.n1 b5);replace hH:=hH.ext (d9.n1 b5);replace Z:=Z.ext b5;replace hC:=hC.next b5;refine z0b ?_;refine z0d 22 rfl ?_;refine z0t h rfl rfl M rfl v7n λl3 a2 b6 hz a h=>?_;have s1:=b6.size;replace D:=D.fr b6;replace ho:=ho.fr b6 (by intro k D U;simp at D;subst D;have:=f9 _ U;omega);replace O:=O.fr b6 (by intro k D U;simp[z0x]at D U;omega);replace hH:=hH.fr b6 (by intro k D U;simp[z0x]at D U;omega);replace Z:=Z.fr b6 (by intro k D U;simp[z0x]at D U;omega);replace hC:=hC.sp b6;clear M hz;have M:Blk l3 a8 _ [_,_,_,_]:=a2;clear a2;refine z0b ?_;refine z0q ?_;clear hC b3 I f3;refine bk (h.sub (L':=[(0,_),(2,_),(8,_)]) (.c3 rfl rfl rfl)) (tn (sq ?_));replace J:=(J.ext (a6.n4 b2 q18 d9 b5)).fr b6;intro a h;refine z0i none (λwb w'=>Fr [g2] wb w') z2o ?_;intro j0 e0;have s2:=e0.size;replace D:=D.ext e0;replace J:=J.ext e0;replace M:=M.ext e0;have hC:Fr [g2] j0 j0:=Fr.refl _ _;have I:=D;have a4:=J;have a1:=M;refine z0e 0 h rfl rfl λa h=>z0o 1 h rfl rfl λa h=>z0c 2 h rfl z3t rfl λa h=>z0l 3 h rfl (λ_ hw=>I.fr hw (by simp<;>omega)) rfl na3 rfl λa h=>z0e 4 h rfl rfl λa h=>z0o 5 h rfl rfl λa h=>z0c 6 h rfl z3a rfl λa h=>z1e (vs:=[_,_]) 7 h rfl (λ_ hw=>(I.fr hw (by simp<;>omega))) z5s rfl rfl λa h=>z0e 8 h rfl rfl λa h=>z0o 9 h rfl rfl λa h=>z0c 10 h rfl z2z rfl λa h=>?_;refine z0l 11 h rfl (λ_ hw=>I.fr hw (by simp<;>omega)) rfl y0i rfl λa h=>z0y 12 h rfl (λ_ hw=>a1.fr hw (by simp<;>omega)) x5i rfl λa h=>z2y (cs:=[_,_,_,_,_,_,_,_]) 13 h (z0a rfl (z0a rfl (z0a rfl (z0a rfl z0f)))) v6a (z0h rfl rfl rfl (z0h rfl rfl rfl (z0h rfl rfl rfl (z0h rfl rfl rfl z0s)))) rfl rfl λa h=>z0d 14 rfl ?_;refine z0t h rfl rfl J rfl z9w λj1 a2 b7 hz a h=>?_;have s3:=b7.size;replace D:=D.fr b7;replace M:=M.fr b7;replace hC:=hC.sp b7;clear J hz;have J:Blk j1 g2 _ [_,_,_,_,_,_,_,_]:=a2;clear a2;refine z0b ?_;refine z0q ?_;clear hC I a4 a1;refine bk (h.sub (L':=[(2,_)]) (.cons rfl .nil)) (tn (rt (rC results28 rfl J z8k  ?_)));replace O:=(O.ext e0).fr b7 (by intro k D U;simp[z0x]at D U;omega);replace hH:=(hH.ext e0).fr b7 (by intro k D U;simp[z0x]at D U;omega);replace Z:=(Z.ext e0).fr b7 (by intro k D U;simp[z0x]at D U;omega);have a9:=(a6.z6 b2 q18 d9 b5 b6 e0);have b0:Fr [] _ j1:=(Fr.refl _ _);have b1:=a5.ext a9;have hW:=(b1.toW.off (f2.ext a9) (by decide) b7).ext b0;have e7:=(b1.fr.fr.step b7 (by simp;omega)).next b0;have f0:z2a ts=z2a m.ts:=y4k (g5.trans f4.symm) (λj _=>by rw[d7 j]);exact⟨_,rfl,⟨m.rk,m.q,(some ⟨ka.gy,0,none⟩,6,ka.cy),m.ys,⟨(some ⟨ka.gt,0,none⟩,6,ka.ct),(some ⟨e6,0,none⟩,_,_),(some ⟨b4,0,none⟩,_,_),(some ⟨a7,0,none⟩,_,_),ts,z9z a3,_,z9s m.fl⟩⟩,rfl,⟨hW.b,hW.y,hW.t,O.low (by omega),hH.low (by omega),Z.low (by omega)⟩,by show (⟨m.rk,m.q.p,m.ys.map YQ.p,⟨z2a ts,z9z a3,(z2w m.q.p m.rk).map Hd.id,z9s m.fl⟩⟩:St)=_;rw[f0,g3];rfl,e7⟩;refine z1c h v7r rfl λo7 M b8 hz a h=>?_;obtain⟨a8,hg⟩:∃g,g=k9.heap.size:=⟨_,rfl⟩;rw[<-hg]at M h hz;have h4.gk_8:ka.gk<a8:=by have:=D.lt;omega
 have s4:=b8.size;replace hM:=hM.ext b8;replace hC:=hC.next b8;refine z0b ?_;refine z0d 19 rfl ?_;refine z0n h (z0a rfl z0f) x2f (z3q _ (z9s m.fl) _ hM.f.sl (by rw[(z2v _).length_eq];omega)) ?_;rintro _ o8 ⟨a7,rfl,f5,Z,b9⟩ a h;have s5:=b9.size;replace D:=D.ext (b8.n1 b9);replace ho:=ho.ext (b8.n1 b9);replace O:=O.ext (b8.n1 b9);replace hH:=hH.ext (b8.n1 b9);replace M:=M.ext b9;replace hC:=hC.next b9;have e8:=(Z.blk a7 (by simp[z0x])).2;refine z0b ?_;refine z2y (cs:=[_,_,_,_]) 20 h (z0a rfl (z0a rfl (z0a rfl (z0a rfl z0f)))) j2w (z0h rfl rfl rfl (z0h rfl rfl rfl (z0h rfl rfl rfl (z0h rfl rfl rfl z0s)))) rfl rfl λa h=>z0d 22 rfl ?_;refine z0t h rfl rfl M rfl v7n λl4 a2 c0 hz a h=>?_;have s6:=c0.size;replace D:=D.fr c0;replace ho:=ho.fr c0 (by intro k D U;simp at D;subst D;have:=f9 _ U;omega);replace O:=O.fr c0 (by intro k D U;simp[z0x]at D U;omega);replace hH:=hH.fr c0 (by intro k D U;simp[z0x]at D U;omega);replace Z:=Z.fr c0 (by intro k D U;simp[z0x]at D U;omega);replace hC:=hC.sp c0;clear M hz;have M:Blk l4 a8 _ [_,_,_,_]:=a2;clear a2;refine z0b ?_;refine z0q ?_;clear hC b3 I f3;refine bk (h.sub (L':=[(0,_),(2,_),(8,_)]) (.c3 rfl rfl rfl)) (tn (sq ?_));replace J:=(J.ext (a6.n4 b2 q18 b8 b9)).fr c0;intro a h;refine z0i none (λwb w'=>Fr [g2] wb w') z2o ?_;intro j2 e1;have s7:=e1.size;replace D:=D.ext e1;replace J:=J.ext e1;replace M:=M.ext e1;have hC:Fr [g2] j2 j2:=Fr.refl _ _;have I:=D;have a4:=J;have a1:=M;refine z0e 0 h rfl rfl λa h=>z0o 1 h rfl rfl λa h=>z0c 2 h rfl z3t rfl λa h=>z0l 3 h rfl (λ_ hw=>I.fr hw (by simp<;>omega)) rfl na3 rfl λa h=>z0e 4 h rfl rfl λa h=>z0o 5 h rfl rfl λa h=>z0c 6 h rfl z3a rfl λa h=>z1e (vs:=[_,_]) 7 h rfl (λ_ hw=>(I.fr hw (by simp<;>omega))) z5s rfl rfl λa h=>z0e 8 h rfl rfl λa h=>z0o 9 h rfl rfl λa h=>z0c 10 h rfl z2z rfl λa h=>?_;refine z0l 11 h rfl (λ_ hw=>I.fr hw (by simp<;>omega)) rfl y0i rfl λa h=>z0y 12 h rfl (λ_ hw=>a1.fr hw (by simp<;>omega)) x5i rfl λa h=>z2y (cs:=[_,_,_,_,_,_,_,_]) 13 h (z0a rfl (z0a rfl (z0a rfl (z0a rfl z0f)))) v6a (z0h rfl rfl rfl (z0h rfl rfl rfl (z0h rfl rfl rfl (z0h rfl rfl rfl z0s)))) rfl rfl λa h=>z0d 14 rfl ?_;refine z0t h rfl rfl J rfl z9w λj3 a2 c9 hz a h=>?_;have s8:=c9.size;replace D:=D.fr c9;replace M:=M.fr c9;replace hC:=hC.sp c9;clear J hz;have J:Blk j3 g2 _ [_,_,_,_,_,_,_,_]:=a2;clear a2;refine z0b ?_;refine z0q ?_;clear hC I a4 a1;refine bk (h.sub (L':=[(2,_)]) (.cons rfl .nil)) (tn (rt (rC results28 rfl J z8k  ?_)));replace O:=(O.ext e1).fr c9 (by intro k D U;simp[z0x]at D U;omega);replace hH:=(hH.ext e1).fr c9 (by intro k D U;simp[z0x]at D U;omega);replace Z:=(Z.ext e1).fr c9 (by intro k D U;simp[z0x]at D U;omega);have a9:=(a6.z6 b2 q18 b8 b9 c0 e1);have b0:Fr [] _ j3:=(Fr.refl _ _);have b1:=a5.ext a9;have hW:=(b1.toW.off (f2.ext a9) (by decide) c9).ext b0;have e7:=(b1.fr.fr.step c9 (by simp;omega)).next b0;have f0:z2a ts=z2a m.ts:=y4k (g5.trans f4.symm) (λj _=>by rw[d7 j]);exact⟨_,rfl,⟨m.rk,m.q,(some ⟨ka.gy,0,none⟩,6,ka.cy),m.ys,⟨(some ⟨ka.gt,0,none⟩,6,ka.ct),(some ⟨e6,0,none⟩,_,_),(some ⟨b4,0,none⟩,_,_),(some ⟨a7,0,none⟩,_,_),ts,z9z a3,_,z9s m.fl⟩⟩,rfl,⟨hW.b,hW.y,hW.t,O.low (by omega),hH.low (by omega),Z.low (by omega)⟩,by show (⟨m.rk,m.q.p,m.ys.map YQ.p,⟨z2a ts,z9z a3,(z2w m.q.p m.rk).map Hd.id,z9s m.fl⟩⟩:St)=_;rw[f0,g3];rfl,e7⟩;refine z1c h v7r rfl λo9 M e2 hz a h=>?_;obtain⟨a8,hg⟩:∃g,g=k8.heap.size:=⟨_,rfl⟩;rw[<-hg]at M h hz;have h4.gk_8:ka.gk<a8:=by have:=D.lt;omega
 have s9:=e2.size;replace hM:=hM.ext e2;replace hC:=hC.next e2;refine z0b ?_;refine z0d 14 rfl ?_;refine z0n h (z0a rfl (z0a rfl z0f)) (mkC func47) (y3i m.q m.rk _ hM.b.at hi.B hi.rk) ?_;rintro _ p0 ⟨⟨b4,i8,h1,rfl,g9,hH⟩,q30⟩ a h;have t8:=q30.size;replace hM:=hM.ext q30;replace hC:=hC.next q30;have h0:=(hH.blk b4 (by simp[z0x])).2;refine z0b ?_;refine z0d 19 rfl ?_;refine z0n h (z0a rfl z0f) x2f (z3q _ (z9s m.fl) _ hM.f.sl (by rw[(z2v _).length_eq];omega)) ?_;rintro _ p1 ⟨a7,rfl,f5,Z,d0⟩ a h;have t9:=d0.size;replace D:=D.ext (e2.n2 q30 d0);replace ho:=ho.ext (e2.n2 q30 d0);replace O:=O.ext (e2.n2 q30 d0);replace M:=M.ext (q30.n1 d0);replace hH:=hH.ext d0;replace hC:=hC.next d0;have e8:=(Z.blk a7 (by simp[z0x])).2;refine z0b ?_;refine z2y (cs:=[_,_,_,_]) 20 h (z0a rfl (z0a rfl (z0a rfl (z0a rfl z0f)))) j2w (z0h rfl rfl rfl (z0h rfl rfl rfl (z0h rfl rfl rfl (z0h rfl rfl rfl z0s)))) rfl rfl λa h=>z0d 22 rfl ?_;refine z0t h rfl rfl M rfl v7n λl5 a2 d1 hz a h=>?_;have u0:=d1.size;replace D:=D.fr d1;replace ho:=ho.fr d1 (by intro k D U;simp at D;subst D;have:=f9 _ U;omega);replace O:=O.fr d1 (by intro k D U;simp[z0x]at D U;omega);replace hH:=hH.fr d1 (by intro k D U;simp[z0x]at D U;omega);replace Z:=Z.fr d1 (by intro k D U;simp[z0x]at D U;omega);replace hC:=hC.sp d1;clear M hz;have M:Blk l5 a8 _ [_,_,_,_]:=a2;clear a2;refine z0b ?_;refine z0q ?_;clear hC b3 I f3;refine bk (h.sub (L':=[(0,_),(2,_),(8,_)]) (.c3 rfl rfl rfl)) (tn (sq ?_));replace J:=(J.ext (a6.n4 b2 e2 q30 d0)).fr d1;intro a h;refine z0i none (λwb w'=>Fr [g2] wb w') z2o ?_;intro j4 e3;have u1:=e3.size;replace D:=D.ext e3;replace J:=J.ext e3;replace M:=M.ext e3;have hC:Fr [g2] j4 j4:=Fr.refl _ _;have I:=D;have a4:=J;have a1:=M;refine z0e 0 h rfl rfl λa h=>z0o 1 h rfl rfl λa h=>z0c 2 h rfl z3t rfl λa h=>z0l 3 h rfl (λ_ hw=>I.fr hw (by simp<;>omega)) rfl na3 rfl λa h=>z0e 4 h rfl rfl λa h=>z0o 5 h rfl rfl λa h=>z0c 6 h rfl z3a rfl λa h=>z1e (vs:=[_,_]) 7 h rfl (λ_ hw=>(I.fr hw (by simp<;>omega))) z5s rfl rfl λa h=>z0e 8 h rfl rfl λa h=>z0o 9 h rfl rfl λa h=>z0c 10 h rfl z2z rfl λa h=>?_;refine z0l 11 h rfl (λ_ hw=>I.fr hw (by simp<;>omega)) rfl y0i rfl λa h=>z0y 12 h rfl (λ_ hw=>a1.fr hw (by simp<;>omega)) x5i rfl λa h=>z2y (cs:=[_,_,_,_,_,_,_,_]) 13 h (z0a rfl (z0a rfl (z0a rfl (z0a rfl z0f)))) v6a (z0h rfl rfl rfl (z0h rfl rfl rfl (z0h rfl rfl rfl (z0h rfl rfl rfl z0s)))) rfl rfl λa h=>z0d 14 rfl ?_;refine z0t h rfl rfl J rfl z9w λj5 a2 d3 hz a h=>?_;have u2:=d3.size;replace D:=D.fr d3;replace M:=M.fr d3;replace hC:=hC.sp d3;clear J hz;have J:Blk j5 g2 _ [_,_,_,_,_,_,_,_]:=a2;clear a2;refine z0b ?_;refine z0q ?_;clear hC I a4 a1;refine bk (h.sub (L':=[(2,_)]) (.cons rfl .nil)) (tn (rt (rC results28 rfl J z8k  ?_)));replace O:=(O.ext e3).fr d3 (by intro k D U;simp[z0x]at D U;omega);replace hH:=(hH.ext e3).fr d3 (by intro k D U;simp[z0x]at D U;omega);replace Z:=(Z.ext e3).fr d3 (by intro k D U;simp[z0x]at D U;omega);have a9:=(a6.z6 b2 e2 q30 d0 d1 e3);have b0:Fr [] _ j5:=(Fr.refl _ _);have b1:=a5.ext a9;have hW:=(b1.toW.off (f2.ext a9) (by decide) d3).ext b0;have e7:=(b1.fr.fr.step d3 (by simp;omega)).next b0;have f0:z2a ts=z2a m.ts:=y4k (g5.trans f4.symm) (λj _=>by rw[d7 j]);exact⟨_,rfl,⟨m.rk,m.q,(some ⟨ka.gy,0,none⟩,6,ka.cy),m.ys,⟨(some ⟨ka.gt,0,none⟩,6,ka.ct),(some ⟨e6,0,none⟩,_,_),(some ⟨b4,0,none⟩,_,_),(some ⟨a7,0,none⟩,_,_),ts,z9z a3,_,z9s m.fl⟩⟩,rfl,⟨hW.b,hW.y,hW.t,O.low (by omega),hH.low (by omega),Z.low (by omega)⟩,by show (⟨m.rk,m.q.p,m.ys.map YQ.p,⟨z2a ts,z9z a3,(z2w m.q.p m.rk).map Hd.id,z9s m.fl⟩⟩:St)=_;rw[f0,g3];rfl,e7⟩;refine z1c h v7r rfl λp2 M f1 hz a h=>?_;obtain⟨a8,hg⟩:∃g,g=h7.heap.size:=⟨_,rfl⟩;rw[<-hg]at M h hz;have h4.gk_8:ka.gk<a8:=by have:=D.lt;omega
 have u3:=f1.size;replace ho:=ho.ext f1;replace hC:=hC.next f1;refine z0b ?_;refine z0d 5 rfl ?_;refine z0n h (z0a rfl z0f) (mkC func77) (v4p _ (z9z a3) _ ho.sl (by rw[(z2q a3).length_eq];omega)) ?_;rintro _ p3 ⟨e6,rfl,i2,O,e4⟩ a h;have u4:=e4.size;replace hM:=hM.ext (f1.n1 e4);replace hC:=hC.next e4;have h3:=(O.blk e6 (by simp[z0x])).2;refine z0b ?_;refine z0d 14 rfl ?_;refine z0n h (z0a rfl (z0a rfl z0f)) (mkC func47) (y3i m.q m.rk _ hM.b.at hi.B hi.rk) ?_;rintro _ p4 ⟨⟨b4,i8,h1,rfl,g9,hH⟩,q37⟩ a h;have u5:=q37.size;replace hM:=hM.ext q37;replace hC:=hC.next q37;have h0:=(hH.blk b4 (by simp[z0x])).2;refine z0b ?_;refine z0d 19 rfl ?_;refine z0n h (z0a rfl z0f) x2f (z3q _ (z9s m.fl) _ hM.f.sl (by rw[(z2v _).length_eq];omega)) ?_;rintro _ p5 ⟨a7,rfl,f5,Z,d4⟩ a h;have u6:=d4.size;replace D:=D.ext (f1.n3 e4 q37 d4);replace ho:=ho.ext (e4.n2 q37 d4);replace M:=M.ext (e4.n2 q37 d4);replace O:=O.ext (q37.n1 d4);replace hH:=hH.ext d4;replace hC:=hC.next d4;have e8:=(Z.blk a7 (by simp[z0x])).2;refine z0b ?_;refine z2y (cs:=[_,_,_,_]) 20 h (z0a rfl (z0a rfl (z0a rfl (z0a rfl z0f)))) j2w (z0h rfl rfl rfl (z0h rfl rfl rfl (z0h rfl rfl rfl (z0h rfl rfl rfl z0s)))) rfl rfl λa h=>z0d 22 rfl ?_;refine z0t h rfl rfl M rfl v7n λl6 a2 d5 hz a h=>?_;have u7:=d5.size;replace D:=D.fr d5;replace ho:=ho.fr d5 (by intro k D U;simp at D;subst D;have:=f9 _ U;omega);replace O:=O.fr d5 (by intro k D U;simp[z0x]at D U;omega);replace hH:=hH.fr d5 (by intro k D U;simp[z0x]at D U;omega);replace Z:=Z.fr d5 (by intro k D U;simp[z0x]at D U;omega);replace hC:=hC.sp d5;clear M hz;have M:Blk l6 a8 _ [_,_,_,_]:=a2;clear a2;refine z0b ?_;refine z0q ?_;clear hC b3 I f3;refine bk (h.sub (L':=[(0,_),(2,_),(8,_)]) (.c3 rfl rfl rfl)) (tn (sq ?_));replace J:=(J.ext (a6.n4 f1 e4 q37 d4)).fr d5;intro a h;refine z0i none (λwb w'=>Fr [g2] wb w') z2o ?_;intro j6 e5;have u9:=e5.size;replace D:=D.ext e5;replace J:=J.ext e5;replace M:=M.ext e5;have hC:Fr [g2] j6 j6:=Fr.refl _ _;have I:=D;have a4:=J;have a1:=M;refine z0e 0 h rfl rfl λa h=>z0o 1 h rfl rfl λa h=>z0c 2 h rfl z3t rfl λa h=>z0l 3 h rfl (λ_ hw=>I.fr hw (by simp<;>omega)) rfl na3 rfl λa h=>z0e 4 h rfl rfl λa h=>z0o 5 h rfl rfl λa h=>z0c 6 h rfl z3a rfl λa h=>z1e (vs:=[_,_]) 7 h rfl (λ_ hw=>(I.fr hw (by simp<;>omega))) z5s rfl rfl λa h=>z0e 8 h rfl rfl λa h=>z0o 9 h rfl rfl λa h=>z0c 10 h rfl z2z rfl λa h=>?_;refine z0l 11 h rfl (λ_ hw=>I.fr hw (by simp<;>omega)) rfl y0i rfl λa h=>z0y 12 h rfl (λ_ hw=>a1.fr hw (by simp<;>omega)) x5i rfl λa h=>z2y (cs:=[_,_,_,_,_,_,_,_]) 13 h (z0a rfl (z0a rfl (z0a rfl (z0a rfl z0f)))) v6a (z0h rfl rfl rfl (z0h rfl rfl rfl (z0h rfl rfl rfl (z0h rfl rfl rfl z0s)))) rfl rfl λa h=>z0d 14 rfl ?_;refine z0t h rfl rfl J rfl z9w λj7 a2 d6 hz a h=>?_;have v8:=d6.size;replace D:=D.fr d6;replace M:=M.fr d6;replace hC:=hC.sp d6;clear J hz;have J:Blk j7 g2 _ [_,_,_,_,_,_,_,_]:=a2;clear a2;refine z0b ?_;refine z0q ?_;clear hC I a4 a1;refine bk (h.sub (L':=[(2,_)]) (.cons rfl .nil)) (tn (rt (rC results28 rfl J z8k  ?_)));replace O:=(O.ext e5).fr d6 (by intro k D U;simp[z0x]at D U;omega);replace hH:=(hH.ext e5).fr d6 (by intro k D U;simp[z0x]at D U;omega);replace Z:=(Z.ext e5).fr d6 (by intro k D U;simp[z0x]at D U;omega);have a9:=(a6.z6 f1 e4 q37 d4 d5 e5);have b0:Fr [] _ j7:=(Fr.refl _ _);have b1:=a5.ext a9;have hW:=(b1.toW.off (f2.ext a9) (by decide) d6).ext b0;have e7:=(b1.fr.fr.step d6 (by simp;omega)).next b0;have f0:z2a ts=z2a m.ts:=y4k (g5.trans f4.symm) (λj _=>by rw[d7 j]);exact⟨_,rfl,⟨m.rk,m.q,(some ⟨ka.gy,0,none⟩,6,ka.cy),m.ys,⟨(some ⟨ka.gt,0,none⟩,6,ka.ct),(some ⟨e6,0,none⟩,_,_),(some ⟨b4,0,none⟩,_,_),(some ⟨a7,0,none⟩,_,_),ts,z9z a3,_,z9s m.fl⟩⟩,rfl,⟨hW.b,hW.y,hW.t,O.low (by omega),hH.low (by omega),Z.low (by omega)⟩,by show (⟨m.rk,m.q.p,m.ys.map YQ.p,⟨z2a ts,z9z a3,(z2w m.q.p m.rk).map Hd.id,z9s m.fl⟩⟩:St)=_;rw[f0,g3];rfl,e7⟩
theorem v3y (w0:World):Rets prog 78 #[] w0 λr w'=>(∃g,r=(.slice (some ⟨g,0,none⟩) 6 6)/\w0.heap.size<=g/\Lw.Own z3y 46 w0.heap.size w' (.slice (some ⟨g,0,none⟩) 6 6) (List.replicate 6 tq0))/\Fr [] w0 w':=by
 refine we [] func78 rfl ntmps78 rfl .nil (sr (asg rfl (nn (sr (z1f (m:=6) (c:=6) (tq0) rfl rfl y6e zv46 rfl (λD w1 I J M z1=>(asg rfl (nn (rt (r1 results78 rfl ?_))))))))));exact⟨_,rfl,⟨D,rfl,by omega,J.low (by omega)⟩,M⟩
theorem x1b (w0:World):Rets prog 29 #[] w0 λr w'=>(∃g,r=.agg #[(.slice (some ⟨g,0,none⟩) 6 6),.slice none 0 0,.slice none 0 0,.slice none 0 0]/\w0.heap.size<=g/\Lw.Own z3y 46 w0.heap.size w' (.slice (some ⟨g,0,none⟩) 6 6) (List.replicate 6 tq0))/\Fr [] w0 w':=by
 refine we [] func29 rfl ntmps29 rfl .nil (sr (al v7r rfl rfl (λg0 w1 U D q1 z1=>(nn (sr (cl z0f (mkC func78) (v3y _) rfl ?_))))));rintro _ w2 ⟨⟨M,rfl,Z,I⟩,q2⟩;refine z1v (cs:=[_,_,_,_]) (ev1 rfl) j2w (z0h rfl rfl rfl z0s) rfl ?_;replace D:=D.ext q2;refine z0j rfl rfl D v7n (λw3 D J z3=>?_) (hl:=rfl);refine nn (rt (rC results29 rfl D x5i  ?_));replace I:=I.fr J (by intro k hk O;simp[z0x]at hk O;omega);exact⟨_,rfl,⟨M,rfl,by omega,I.low (by omega)⟩,(q1.z2 q2 J)⟩
abbrev st0 (gy gt:Nat):StQ:=(⟨0,⟨sv0,sv0,[],[]⟩,(some ⟨gy,0,none⟩,6,6),List.replicate 6 yq0,⟨(some ⟨gt,0,none⟩,6,6),sv0,sv0,sv0,List.replicate 6 tq0,[],[],[]⟩⟩:StQ)
theorem j4h {w:World}{J I b:Nat}(hy:Lw.Own z2r 82 b w (.slice (some ⟨J,0,none⟩) 6 6) (List.replicate 6 yq0))(Z:Lw.Own z3y 46 b w (.slice (some ⟨I,0,none⟩) 6 6) (List.replicate 6 tq0)):StO τd 109 b w (st0 J I):=by
 have U:∀i,(st0 J I).ys.getD i yq0=yq0:=λi=>by
  show (List.replicate 6 yq0).getD i yq0=yq0;rw[List.getD,List.getElem?_replicate];split<;>rfl
 have M:∀i,(st0 J I).fb.ts.getD i tq0=tq0:=λi=>by
  show (List.replicate 6 tq0).getD i tq0=tq0;rw[List.getD,List.getElem?_replicate];split<;>rfl
 refine⟨⟨⟨Own.nil w,λq D=>(by cases D)⟩,⟨Own.nil w,λq D=>(by cases D)⟩⟩,⟨hy,λi _=>?_⟩,⟨Z,λi _=>?_,λi j _ _ _ k O=>?_,λi _ q D=>?_⟩,Own.nil w,Own.nil w,Own.nil w⟩;rw[U i];exact Own.nil w;rw[M i];exact Own.nil w;rw[M i]at O;cases O;rw[M i]at D;cases D
theorem j7e (M J:Nat):(st0 M J).p=G08.stM G08.start:=by
 have D:z9z []=[]:=by unfold z9z;simp
 have I:z9s []=[]:=by unfold z9s;simp
 show _=(⟨0,⟨[],[]⟩,List.replicate 6 yn0,⟨List.replicate 6 [],z9z [],(z2w ⟨[],[]⟩ 0).map Hd.id,z9s []⟩⟩:St);rw[D,I];rfl
theorem j1k (J I:Nat):StSz (st0 J I):=by
 refine⟨Nat.zero_le _,Nat.zero_le _,λq D=>(by cases D),λq D=>(by cases D),rfl,rfl,λi=>?_,λp M=>?_,Nat.zero_le _,Nat.zero_le _,Nat.zero_le _⟩;have e:(st0 J I).ys.getD i yq0=yq0:=by
  show (List.replicate 6 yq0).getD i yq0=yq0;rw[List.getD,List.getElem?_replicate];split<;>rfl
 rw[e];exact Nat.zero_le _;rw[List.eq_of_mem_replicate M];exact⟨Nat.zero_le _,λq D=>by cases D⟩
theorem y7i (w0:World):Rets prog 10 #[] w0 λr w'=>(∃J I,r=.agg #[.int .i64 (st0 J I).rk,.slice (st0 J I).q.f.1 (st0 J I).q.f.2.1 (st0 J I).q.f.2.2,.slice (st0 J I).q.b.1 (st0 J I).q.b.2.1 (st0 J I).q.b.2.2,.slice (st0 J I).yv.1 (st0 J I).yv.2.1 (st0 J I).yv.2.2,.slice (st0 J I).fb.t.1 (st0 J I).fb.t.2.1 (st0 J I).fb.t.2.2,.slice (st0 J I).fb.c.1 (st0 J I).fb.c.2.1 (st0 J I).fb.c.2.2,.slice (st0 J I).fb.h.1 (st0 J I).fb.h.2.1 (st0 J I).fb.h.2.2,.slice (st0 J I).fb.f.1 (st0 J I).fb.f.2.1 (st0 J I).fb.f.2.2]/\StO τd 109 w0.heap.size w' (st0 J I))/\Fr [] w0 w':=by
 refine we [] func10 rfl ntmps10 rfl .nil (sr (al y8v rfl rfl (λg0 w1 a4 D q1 z1=>(nn (sq ?_)))));intro a h;refine z0i none (λwb w'=>Fr [g0] wb w') z2o ?_;intro w2 q2;have z2:=q2.size;replace D:=D.ext q2;have hC:Fr [g0] w2 w2:=Fr.refl _ _;have M:=D;refine z2d 0 1 (by kernel_rfl) rfl rfl ?_ ?_;refine z8p (m:=6) (c:=6) (yq0) h rfl rfl y1f y1g rfl (by omega) (by omega) rfl λg1 w3 a0 Z q3 _hz a h=>?_;have z3:=q3.size;replace hC:=hC.next q3;have a3:=(Z.blk g1 (by simp[z0x])).2;refine z0b ?_;refine z0d 1 rfl ?_;refine z0n h z0f (mkC func29) (x1b _) ?_;rintro _ w4 ⟨⟨g2,rfl,a1,U⟩,q4⟩ a h;have z4:=q4.size;replace D:=D.ext (q3.n1 q4);replace Z:=Z.ext q4;replace hC:=hC.next q4;have a2:=(U.blk g2 (by simp[z0x])).2;refine z0b ?_;refine z2y (cs:=[_,_,_,_,_,_,_,_]) 2 h (z0a rfl (z0a rfl z0f)) v6a (z0h rfl rfl rfl (z0h rfl rfl rfl z0s)) rfl rfl λa h=>z0d 3 rfl ?_;refine z0t h rfl rfl D rfl z9w λw5 O q5 hz a h=>?_;have z5:=q5.size;replace Z:=Z.fr q5 (by intro k hk hb;simp[z0x]at hk hb;omega);replace U:=U.fr q5 (by intro k hk hb;simp[z0x]at hk hb;omega);replace hC:=hC.sp q5;clear D hz;have D:Blk w5 g0 _ [_,_,_,_,_,_,_,_]:=O;clear O;refine z0b ?_;refine z0q ?_;clear hC M;refine bk (h.sub (L':=[(0,_)]) (.cons rfl .nil)) (tn (rt (rC results10 rfl D z8k  ?_)));exact⟨_,rfl,⟨g1,g2,rfl,j4h (Z.low (by omega)) (U.low (by omega))⟩,(q1.z4 q2 q3 q4 q5)⟩;refine z0n h z0f (mkC func29) (x1b _) ?_;rintro _ w6 ⟨⟨g2,rfl,a1,U⟩,q6⟩ a h;have z6:=q6.size;replace hC:=hC.next q6;have a2:=(U.blk g2 (by simp[z0x])).2;refine z0b ?_;refine z0d 0 rfl ?_;refine z8p (m:=6) (c:=6) (yq0) h rfl rfl y1f y1g rfl (by omega) (by omega) rfl λg1 w7 a0 Z q7 _hz a h=>?_;have z7:=q7.size;replace D:=D.ext (q6.n1 q7);replace U:=U.ext q7;replace hC:=hC.next q7;have a3:=(Z.blk g1 (by simp[z0x])).2;refine z0b ?_;refine z2y (cs:=[_,_,_,_,_,_,_,_]) 2 h (z0a rfl (z0a rfl z0f)) v6a (z0h rfl rfl rfl (z0h rfl rfl rfl z0s)) rfl rfl λa h=>z0d 3 rfl ?_;refine z0t h rfl rfl D rfl z9w λw8 O q8 hz a h=>?_;have z8:=q8.size;replace U:=U.fr q8 (by intro k hk hb;simp[z0x]at hk hb;omega);replace Z:=Z.fr q8 (by intro k hk hb;simp[z0x]at hk hb;omega);replace hC:=hC.sp q8;clear D hz;have D:Blk w8 g0 _ [_,_,_,_,_,_,_,_]:=O;clear O;refine z0b ?_;refine z0q ?_;clear hC M;refine bk (h.sub (L':=[(0,_)]) (.cons rfl .nil)) (tn (rt (rC results10 rfl D z8k  ?_)));exact⟨_,rfl,⟨g1,g2,rfl,j4h (Z.low (by omega)) (U.low (by omega))⟩,(q1.z4 q2 q6 q7 q8)⟩
theorem y5l (w0:World):Rets prog 10 #[] w0 λr w'=>(∃I D,r=.agg #[.int .i64 (st0 I D).rk,.slice (st0 I D).q.f.1 (st0 I D).q.f.2.1 (st0 I D).q.f.2.2,.slice (st0 I D).q.b.1 (st0 I D).q.b.2.1 (st0 I D).q.b.2.2,.slice (st0 I D).yv.1 (st0 I D).yv.2.1 (st0 I D).yv.2.2,.slice (st0 I D).fb.t.1 (st0 I D).fb.t.2.1 (st0 I D).fb.t.2.2,.slice (st0 I D).fb.c.1 (st0 I D).fb.c.2.1 (st0 I D).fb.c.2.2,.slice (st0 I D).fb.h.1 (st0 I D).fb.h.2.1 (st0 I D).fb.h.2.2,.slice (st0 I D).fb.f.1 (st0 I D).fb.f.2.1 (st0 I D).fb.f.2.2]/\StAt w' (st0 I D))/\Fr [] w0 w':=
 Rets.mono (y7i w0) (by rintro r w' ⟨⟨I,D,h,J⟩,hf⟩;exact⟨⟨I,D,h,J.at⟩,hf⟩)
theorem x4r {α:Type}{D I:List α}(d:α)(hl:D.length=I.length)(h:∀j,j<D.length->D.getD j d=I.getD j d):D=I:=by
 refine List.ext_getElem hl λj J M=>?_;have:=h j J;rwa [List.getD,List.getD,List.getElem?_eq_getElem J,List.getElem?_eq_getElem M]at this
theorem y5f (v1 v2:Value)(M l2:List LId)(w0:World)(h1:Sl z1k w0 v1 M)(O:Sl z1k w0 v2 l2)(hl:M.length<=100000):Rets prog 46 #[v1,v2] w0 λr w'=>r=.bool (decide (M=l2))/\Fr [] w0 w':=by
 obtain⟨A1,k1,rfl,a4⟩:=id h1.form;obtain⟨A2,k2,rfl,a5⟩:=id O.form;refine we [(0,.slice A1 M.length k1),(1,.slice A2 l2.length k2)] func46 rfl ntmps46 rfl (.c2 rfl rfl) ?_;have a0:=h1;have a1:=O;refine sr (asg rfl (nn (sq (sr (mv rfl (lnS rfl underlying37 (mv rfl (lnS rfl underlying37 (ne' rfl rfl (nn (cd rfl (λc0=>?_) (λc0=>?_))))))))))));refine sr (asg rfl (nn (rt (tr (r1 results46 rfl ?_)))));exact⟨_,rfl,congrArg Value.bool (decide_eq_false (λe=>c0 (by rw[e]))).symm,(Fr.refl _ _)⟩;refine sk (tn (sq (sr (mv rfl (lnS rfl underlying37 (mv rfl (nn (bl ?_))))))));refine lpK (ι:=Nat) [(0,_),(1,_),(12,_)] (λi=>[(13,.int .i64 (i:Int))]) (λi w'=>Fr [] w0 w'/\i<=M.length/\∀j,j<i->M.getD j id0=l2.getD j id0) (λi=>M.length-i) 0 (.c4 rfl rfl rfl rfl) ⟨Fr.refl _ _,⟨Nat.zero_le _,λj h=>absurd h (by omega)⟩⟩ ?_;rintro i w1 ⟨q1,⟨hi,hz⟩⟩;refine kpC [(0,_),(1,_),(12,_),(13,_)] (.c4 rfl rfl rfl rfl) (sr (lt' rfl rfl (nn (sq (cd rfl (λc1=>?_) (λc1=>?_))))));refine sk (tn (sq (bl (sr (mv rfl (asg rfl (nn (sq ?_))))))));replace h1:=a0.ext q1;replace O:=a1.ext q1;intro a h;have D:=Fr.refl [] w1;refine z2p (λwb w'=>Fr [] wb w') z2o ?_;intro w2 hq;replace h1:=h1.ext hq;replace O:=O.ext hq;replace D:=D.next hq;have a6:=hq.size;clear hq;have hC:Fr [] w2 w2:=Fr.refl _ _;have I:=h1;have J:=O;refine z0e 0 h rfl rfl λa h=>z0e 1 h rfl rfl λa h=>z1h (id0) 2 h rfl h1 rfl z6j rfl ?_ (hp:=rfl);clear h a;intro a2 U a h;refine z1y 3 h wn rfl (λ_ hw=>U _ (I.ext hw)) z3o rfl λa h=>z0e 4 h rfl rfl λa h=>z0e 5 h rfl rfl λa h=>z1h (id0) 6 h rfl O rfl z6j rfl ?_ (hp:=rfl);clear h a;intro a3 Z a h;refine z1y 7 h wn rfl (λ_ hw=>Z _ (J.ext hw)) z3o rfl λa h=>v3h (V:=idV) (e:=_) (f:=_) 8 hC h wn rfl rfl eqId rfl rfl λa h=>z0q ?_;clear hC I J;refine bk (h.sub (L':=[(0,_),(1,_),(12,_),(13,_),(24,_)]) (.c5 rfl rfl rfl rfl rfl)) (tn (cd rfl (λc2=>?_) (λc2=>?_)));refine sr (asg rfl (nn (rt (rb (tr (tr (rb (tr (r1 results46 rfl ?_)))))))));exact⟨_,rfl,congrArg Value.bool (decide_eq_false (λe=>c2 (by rw[e]))).symm,(q1.n1 D)⟩;refine sk (bn' (tn (rg (z0v rfl rfl (wi6 (by omega)) (mv rfl (nl ?_))))));exact lpE (i+1) (.c4 rfl rfl rfl rfl) ⟨(q1.n1 D),⟨by omega,λj h=>by
  by_cases e:j=i;subst e;exact Classical.not_not.1 c2;exact hz j (by omega)⟩⟩ (by omega)
 obtain rfl:i=M.length:=by omega
 refine ex (te (te (xh (tn (sr (asg rfl (nn (rt (r1 results46 rfl ?_)))))))));exact⟨_,rfl,congrArg Value.bool (decide_eq_true (x4r id0 (by omega) (λj hj=>hz j (by omega)))).symm,q1⟩
theorem j3p:CallOf prog 46:=mkC func46
set_option maxHeartbeats 2000000 in
theorem v1m (s:StQ)(w0:World)(J:StAt w0 s)(hr:-4<=s.rk/\s.rk<=4)(hB:BdOk s.q.p)(d4:s.ys.length=6)(d3:s.fb.ts.length=6)(a9:∀i,i<6->x0y (s.ys.getD i yq0).p/\(s.ys.getD i yq0).ct=((s.fb.ts.getD i tq0).2.length:Int))(b1:∀w,FbAt w s.fb->Rets prog 45 #[.agg #[.slice s.fb.t.1 s.fb.t.2.1 s.fb.t.2.2,.slice s.fb.c.1 s.fb.c.2.1 s.fb.c.2.2,.slice s.fb.h.1 s.fb.h.2.1 s.fb.h.2.2,.slice s.fb.f.1 s.fb.f.2.1 s.fb.f.2.2]] w λr w'=>r=.int .i64 0/\Fr [] w w')(hh:s.fb.hs=(z2w s.q.p s.rk).map Hd.id)(b2:s.fb.hs.length<=100000):Rets prog 16 #[.agg #[.int .i64 s.rk,.slice s.q.f.1 s.q.f.2.1 s.q.f.2.2,.slice s.q.b.1 s.q.b.2.1 s.q.b.2.2,.slice s.yv.1 s.yv.2.1 s.yv.2.2,.slice s.fb.t.1 s.fb.t.2.1 s.fb.t.2.2,.slice s.fb.c.1 s.fb.c.2.1 s.fb.c.2.2,.slice s.fb.h.1 s.fb.h.2.1 s.fb.h.2.2,.slice s.fb.f.1 s.fb.f.2.1 s.fb.f.2.2]] w0 λr w'=>r=.int .i64 0/\Fr [] w0 w':=by
 have d6:=z1x J.y;have d5:=z1x J.f.t;refine we [(0,.agg #[.int .i64 s.rk,.slice s.q.f.1 s.q.f.2.1 s.q.f.2.2,.slice s.q.b.1 s.q.b.2.1 s.q.b.2.2,.slice s.yv.1 s.yv.2.1 s.yv.2.2,.slice s.fb.t.1 s.fb.t.2.1 s.fb.t.2.2,.slice s.fb.c.1 s.fb.c.2.1 s.fb.c.2.2,.slice s.fb.h.1 s.fb.h.2.1 s.fb.h.2.2,.slice s.fb.f.1 s.fb.f.2.1 s.fb.f.2.2])] func16 rfl ntmps16 rfl (.cons rfl .nil) ?_;have M:=J;refine sr (bx rfl rfl rfl (λg1 w1 c9 D q1 z1=>(asg rfl (nn (sq (sq ?_))))));refine rbo (r:=17) (L':=[(1,_)]) (((s.rk < -4)\/(4<s.rk))) (.cons rfl .nil) ?_ ?_;refine fad rfl y7q (z0g rfl D rfl na3 (lt' rfl rfl (mv rfl (gs 13 rfl (λg0=>?_) (λg0=>?_)))));exact gN rfl rfl (gN rfl rfl (gN rfl rfl (pkt rfl rfl (rbe rfl (.cons rfl .nil)))));exact gY rfl (fad rfl y7q (gY rfl (z0g rfl D rfl na3 (gY rfl (gt' rfl rfl (pkf rfl rfl (rbe rfl (.cons rfl .nil))))))));refine tn (cd rfl (λc0=>?_) (λc0=>?_));refine sr (asg rfl (nn (rt (tr (r1 results16 rfl ?_)))));exfalso;omega;refine sk (tn (sq (sr (fad rfl y4m (z1s (vs:=[_,_]) rfl D z5s rfl ?_)))));replace J:=M.ext q1;refine cl (ev1 rfl) (mkC func43) (y8n s.q _ J.b hB) rfl ?_;rintro _ w2 ⟨rfl,q2⟩;have z2:=q2.size;refine asg rfl (nn (sr (mv rfl (ne' rfl rfl (nn (cd rfl (λc1=>?_) (λc1=>?_)))))));refine sr (mv rfl (asg rfl (nn (rt (tr (r1 results16 rfl ?_))))));exact absurd rfl (by assumption);refine sk (tn (sq (sr (fad rfl z9t ?_))));replace D:=D.ext q2;refine z0g rfl D rfl y0i (lnS rfl underlying33 (ne' rfl rfl (nn (cd rfl (λc2=>?_) (λc2=>?_)))));refine sr (asg rfl (nn (rt (tr (r1 results16 rfl ?_)))));exfalso;omega;refine sk (tn (sq (sr (fad rfl z9t (z0g rfl D rfl y0i (lnS rfl underlying33 (mv rfl (nn (bl ?_)))))))));refine lpK (ι:=Nat) [(1,_),(29,_),(30,_)] (λi=>[(31,.int .i64 (i:Int))]) (λi w'=>Fr [] w2 w'/\i<=6) (λi=>6-i) 0 (.c4 rfl rfl rfl rfl) ⟨Fr.refl _ _,Nat.zero_le _⟩ ?_;rintro i w3 ⟨q3,hi⟩;have z3:=q3.size;refine kpC [(1,_),(29,_),(30,_),(31,_)] (.c4 rfl rfl rfl rfl) (sr (lt' rfl rfl (nn (sq (cd rfl (λc3=>?_) (λc3=>?_))))));refine sk (tn (sq (bl (sr ?_))));replace J:=M.ext (q1.n2 q2 q3);refine z1a (yq0) rfl J.y rfl y1f z1d (λb4 a6=>?_);refine z1i rfl (a6 _ J.y) z6f (al y1g rfl rfl (λg5 w4 d0 a3 q4 z4=>?_));refine z0j (vs:=[_,_,_,_,_]) rfl rfl a3 z6s (λw5 a3 q5 z5=>?_) (h1:=(by first|(simp[Value.oneCell',S];done)|exact z2r.one _));refine nn (sr (z0k rfl a3 z6f ?_));replace J:=M.ext (q1.z4 q2 q3 q4 q5);refine cl (ev1 rfl) j3o (z8q (s.ys.getD i yq0) _ (J.ya i)) rfl ?_;rintro _ w6 ⟨rfl,q6⟩;have z6:=q6.size;refine asg rfl (nn (sr (mv rfl (ne' rfl rfl (nn (cd rfl (λc4=>?_) (λc4=>?_)))))));refine sr (mv rfl (asg rfl (kpL [(2,_)] (.cons rfl .nil) (nn (rt (rb (tr (tr (rb (tr (r1 results16 rfl ?_)))))))))));exact absurd (by unfold ynE;rw[if_pos (a9 i (by omega)).1]) c4;refine sk (bn' (tn (rg (z0v rfl rfl (wi6 (by omega)) (mv rfl (nl ?_))))));exact lpE (i+1) (.c4 rfl rfl rfl rfl) ⟨(q3.z3 q4 q5 q6),by omega⟩ (by omega);obtain rfl:i=6:=by omega
 refine ex (te (te (xh (tn (sq (sr (fad rfl z8n ?_)))))));replace D:=D.ext q3;refine z1s (vs:=[_,_,_,_]) rfl D x5i rfl ?_;replace J:=M.ext (q1.n2 q2 q3);refine cl (ev1 rfl) (mkC func45) (b1 _ J.f) rfl ?_;rintro _ w7 ⟨rfl,q7⟩;have z7:=q7.size;refine asg rfl (kpL [(1,_),(7,_)] (.c2 rfl rfl) (nn (sr (mv rfl (ne' rfl rfl (nn (cd rfl (λc5=>?_) (λc5=>?_))))))));refine sr (mv rfl (asg rfl (nn (rt (tr (r1 results16 rfl ?_))))));exact absurd rfl (by assumption);refine sk (tn (sq (sq ?_)));replace J:=M.ext (q1.n3 q2 q3 q7);intro a h;refine z0i none (λwb w'=>Fr [] wb w') z2o ?_;intro w8 q8;have z8:=q8.size;replace J:=J.ext q8;replace D:=D.ext (q7.n1 q8);have hC:Fr [] w8 w8:=Fr.refl _ _;have U:=J;have I:=D;refine z0c 0 h rfl z8n rfl λa h=>z8c 1 hC h wn rfl y5b rfl λa h=>z0l 2 h rfl (λ_ hw=>I.ext hw) rfl z5t rfl λa h=>z0c 3 h rfl y4m rfl λa h=>z1e (vs:=[_,_]) 4 h rfl (λ_ hw=>(I.ext hw)) z5s rfl rfl λa h=>z0c 5 h rfl y7q rfl λa h=>z0l 6 h rfl (λ_ hw=>I.ext hw) rfl na3 rfl λa h=>z0d 7 rfl ?_;refine z0n h (z0a rfl (z0a rfl z0f)) (mkC func47) (y3i s.q s.rk _ J.b hB hr) ?_;rintro _ w9 ⟨⟨b9,d9,b8,rfl,b7,hH⟩,q9⟩ a h;have z9:=q9.size;replace J:=J.ext q9;replace hC:=hC.next q9;refine z0b ?_;refine z0d 8 rfl ?_;refine z0n h (z0a rfl (z0a rfl z0f)) j3p (y5f _ _ s.fb.hs ((z2w s.q.p s.rk).map Hd.id) _ J.f.h hH.sl b2) ?_;rintro _ b3 ⟨rfl,O⟩ a h;have e3:=O.size;replace J:=J.ext O;replace D:=D.ext (q9.n1 O);replace hH:=hH.ext O;replace hC:=hC.next O;refine z0b ?_;refine x7a 9 hC h wn rfl rfl rfl λa h=>z0q ?_;clear hC U I;refine bk (h.sub (L':=[(1,_),(56,_)]) (.c2 rfl rfl)) (tn (cd rfl (λc6=>?_) (λc6=>?_)));refine sr (asg rfl (nn (rt (tr (r1 results16 rfl ?_)))));exact absurd hh c6;refine sk (tn (sq (sr (fad rfl z9t (z0g rfl D rfl y0i (lnS rfl underlying33 (mv rfl (nn (bl ?_)))))))));refine lpK (ι:=Nat) [(1,_),(58,_),(59,_)] (λi=>[(60,.int .i64 (i:Int))]) (λi w'=>Fr [] b3 w'/\i<=6) (λi=>6-i) 0 (.c4 rfl rfl rfl rfl) ⟨Fr.refl _ _,Nat.zero_le _⟩ ?_;rintro i e0 ⟨Z,hi⟩;have e4:=Z.size;refine kpC [(1,_),(58,_),(59,_),(60,_)] (.c4 rfl rfl rfl rfl) (sr (lt' rfl rfl (nn (sq (cd rfl (λc7=>?_) (λc7=>?_))))));refine sk (tn (sq (bl (sr (mv rfl ?_)))));replace J:=M.ext ((q1.n6 q2 q3 q7 q8 q9 O).n1 Z);refine z1a (yq0) rfl J.y rfl y1f z1d (λb5 a7=>?_);refine z1i rfl (a7 _ J.y) z6f (al y1g rfl rfl (λg9 e1 d1 a0 a4 e5=>?_));refine asg rfl (z0j (vs:=[_,_,_,_,_]) rfl rfl a0 z6s (λe2 a0 a5 e6=>?_) (h1:=(by first|(simp[Value.oneCell',S];done)|exact z2r.one _)));refine nn (sq ?_);replace J:=M.ext ((((q1.n6 q2 q3 q7 q8 q9 O).n1 Z).n1 a4).z1 a5);replace D:=(D.ext (Z.n1 a4)).fr a5;intro a h;refine z0i none (λwb w'=>Fr [] wb w') z2o ?_;intro b0 a2;have e7:=a2.size;replace J:=J.ext a2;replace D:=D.ext a2;replace a0:=a0.ext a2;have hC:Fr [] b0 b0:=Fr.refl _ _;have U:=J;have I:=D;have a1:=a0;refine z0c 0 h rfl z9f rfl λa h=>z0l 1 h rfl (λ_ hw=>a1.ext hw) rfl na3 rfl λa h=>z0c 2 h rfl z8n rfl λa h=>z8c 3 hC h wn rfl z8u rfl λa h=>z0l 4 h rfl (λ_ hw=>I.ext hw) rfl x3m rfl λa h=>z0e 5 h rfl rfl λa h=>z1h (tq0) 6 h rfl J.f.t rfl y6e rfl ?_ (hp:=rfl);clear h a;intro b6 a8 a h;refine z3j 7 h rfl (λ_ hw=>a8 _ (U.f.t.ext hw)) x2c rfl λa h=>z8f 8 hC h wn rfl underlying46 rfl λa h=>j1z 9 hC h wn rfl rfl rfl rfl λa h=>z0q ?_;clear hC U I a1;refine bk (h.sub (L':=[(1,_),(58,_),(59,_),(60,_),(74,_)]) (.c5 rfl rfl rfl rfl rfl)) (tn (cd rfl (λc8=>?_) (λc8=>?_)));refine sr (asg rfl (nn (rt (rb (tr (tr (rb (tr (r1 results16 rfl ?_)))))))));exfalso;simp only[Int.toNat_natCast]at c8;have:=(a9 i (by omega)).2;have d7:=z1x (M.f.tt _ (z0u (d:=tq0) (i:=i) (by omega))).1;omega;refine sk (bn' (tn (rg (z0v rfl rfl (wi6 (by omega)) (mv rfl (nl ?_))))));exact lpE (i+1) (.c4 rfl rfl rfl rfl) ⟨(Z.z3 a4 a5 a2),by omega⟩ (by omega);obtain rfl:i=6:=by omega
 refine ex (te (te (xh (tn (sr (asg rfl (nn (rt (r1 results16 rfl ?_)))))))));exact⟨_,rfl,rfl,((q1.n6 q2 q3 q7 q8 q9 O).n1 Z)⟩
end Go.Proofs.YtpgdchkdlgkmgaaGreatDoor
