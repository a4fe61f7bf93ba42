/- Texts of the proof, joined. -/
import Derived.Test.YtlfdhllfmoplgaaGreatDoorRows
import Derived.Test.YtlfdhllfmoplgaaGreatDoorQD6
set_option linter.unusedVariables false
set_option linter.unusedSimpArgs false
set_option maxHeartbeats 4000000
namespace Go.Proofs.YtlfdhllfmoplgaaGreatDoor
open Go.Lw Go.G21 Go.G08 Go.G09 Go.G26 _root_.Go.Proofs.Tryz
theorem k1s:BuildAt prog 134 [(0,2),(2,1),(3,1)] [(.slice none 0 0),(.slice none 0 0),(.int .i64 0),.nilFunc]:=BuildAt.struct underlying134 (λ_=>kr) (λ_=>kr)
theorem k0x:z1u prog 132 1:=λ_=>kr
theorem k1d:z1u prog 134 4:=λ_=>kr
theorem zv22 (w:World):(zeroValue 22).run prog w=.ok (.slice none 0 0) w:=kr
theorem k2u (w:World):(zeroValue 134).run prog w=.ok (.agg #[(.slice none 0 0),(.slice none 0 0),(.int .i64 0),.nilFunc]) w:=kr
theorem u0r (A:Option Addr)(m c:Nat)(w0:World)(D:m<=c):Rets prog 61 #[.slice A m c] w0 λv w'=>v=.slice A m m/\w0=w':=by
 exact we [(0,.slice A m c)] func61 U ntmps61 U (.cons U .nil) (sr (asg U (nn (sr (mv U (mv U (lnS U underlying22 (mv U (lnS U underlying22 (v7k U U U z4w oo oo oo z1h z1h U (asg U (kpL (ll1 2) (csu U) (nn (rt (r1 results61 U ⟨_,rfl,rfl,rfl⟩)))))))))))))))
theorem y5m {α:Type}{E:Enc α}{T base:Nat}{w:World}{A:Option Addr}{n c:Nat}{ys:List α}(h:Lw.Own E T base w (.slice A n c) ys):n=ys.length/\Lw.Own E T base w (.slice A n n) ys:=by
 rcases h with ⟨e,rfl⟩|⟨g,cap,cur,e,I,O,D,Z,h5,h6⟩
 cases e;exact⟨rfl,.inl ⟨rfl,rfl⟩⟩;cases e;exact⟨rfl,.inr ⟨g,ys.length,cur,rfl,I,O,l21 _,l32 D Z,l32 (l42 _ D) h5,h6⟩⟩
theorem j0v (s:StQ)(p q:MSt)(N:Nat)(v:Value)(l:List MOp)(w0:World)(hS:StAt w0 s)(hP:StP s p N)(hv:Sl z4n w0 v l)(g5:StT w0)(g4:isP l=true)(hr:z3x 0 (nrm p) l=.ok q)(l3:l.length<=4096)(h8:p.B.flat.length<=8):Rets prog 25 #[svv s,v] w0 λr w'=>(∃A ws e,r=.tuple #[.slice A ws.length ws.length,.int .i64 e]/\Lw.Own Enc.i64 3 w0.heap.size w' (.slice A ws.length ws.length) ws/\((y1e (nrm p) l=none/\e=3/\ws=[])\/(y1e (nrm p) l=some ws/\e=0)))/\Fr [] w0 w':=by
 obtain⟨A,c,rfl,k9⟩:=id hv.form;have g3:BdOk s.q.p:=hP.BE▸hP.v.inv.B;have i8:-4<=s.rk/\s.rk<=4:=by rw[hP.rkE];exact hP.v.inv.rk
 have d1:z2i (nrm p).B (nrm p).rk=z2i s.q.p s.rk:=by rw[hP.BE,hP.rkE];rfl
 have f0:(z2i s.q.p s.rk).length<=8:=by rw[(z8h _ _).length_eq,z9e,hP.BE];exact h8
 refine we [(0,svv s),(1,.slice A l.length c)] func25 U ntmps25 U (.c2 U U) ?_;have d9:=hS;have j0:=hv;have e0:=g5;refine sr (bx U (λg2 w1 l0 a9 q1 z1=>(asg U (asg U (nn (sr (fad U z8g (z1t (vs:=[_,_]) U a9 z5a U (fad U y2q (z0i U a9 U na3 ?_))))))))));have hS:=d9.ext q1;refine cl (ev2 U) (mkC func56) (x8w s.q _ _ hS.b g3 i8) U ?_;rintro _ w2 ⟨⟨g1,lh,n,c9,d0,l5,rfl,k2,hH⟩,q2⟩;have z2:=q2.size;have g7:=(hH.blk g1 t10).2;have l6:n<=8:=by rw[d0,c9];exact f0
 refine mv U (xt U (xt U (asg U (asg U (kpL (ll4 1 2 6 7) (csu U) (nn (sq (sq (rbo (r:=29) (L':=ll4 1 2 6 7) (((0≠0)\/((n:Int)=0))) (csu U) ?_ ?_)))))))));refine mv U (ne' U (mv U (gs 25 U (λg0=>?_) (λg0=>?_))));exact gN U (gN U (gN U (pkt U (rbe U (csu U)))));exact gY U (mv U (gY U (lnS U underlying127 (gY U (eq' U (pkf U (rbe U (csu U))))))));refine tn (cd U (λc0=>?_) (λc0=>?_));have e6:z2i s.q.p s.rk=[]:=by rw[<-c9];exact l99.1 oo
 exact sr (mv U (asg U (asg U (kpL (ll2 4 5) (csu U) (nn (rt (tr (r2 results25 U U ⟨_,rfl,⟨none,[],0,rfl,Own.nil _,.inr ⟨by unfold y1e;rw[if_pos (d1.trans e6)],rfl⟩⟩,(q1.n1 q2)⟩))))))));have e8:z2i s.q.p s.rk≠[]:=λe=>by rw[<-c9]at e;rw[e]at d0;exact absurd d0 (by first|(simp only[l52];omega)|(intro h_;simp at h_;omega))
 refine sk (tn (sr (mv U (lnS U underlying127 (z1j (m:=n) (c:=n) (id0) U z3k z9f U (λO w3 k5 ho q3 z3=>(al k0c U (λg8 w4 l1 a5 q4 z4=>(z3b U a5 U u7h (λw5 a5 q5 z5=>(nn (sq (sr (mv U (lnS U underlying127 (mv U (nn (bl ?_))))))))))))))))));have ho:=(ho.ext q4).fr q5 (by intro k hk hb;simp at hk;subst hk;have:=(ho.blk _ hb);omega);refine lpK (ι:=Nat×List LId) (ll5 1 2 8 34 35) (λp_=>[(36,.int .i64 (p_.1:Int))]) (λp_ w'=>Fr [O] w5 w'/\p_.1<=n/\p_.2.length=n/\Lw.Own z1g 64 w0.heap.size w' (.slice (saa O) n n) p_.2/\(∀j,j<p_.1->p_.2.getD j id0=(lh.getD j hd0).id)) (λp_=>n-p_.1) (0,List.replicate n id0) (csu U) ⟨l12 _ _,⟨l15 _,sp0,ho.low oo,λj hj=>absurd hj sp0⟩⟩ ?_;rintro⟨i,ps⟩ w6 ⟨q6,⟨g9,a3,ho,d5⟩⟩;simp only at g9 ho d5 a3;have z6:=q6.size;refine kpC [(1,_),(2,_),(8,_),(34,_),(35,_),(36,.int .i64 (i:Int))] (csu U) (sr (lt' U (nn (sq (cd U (λc1=>?_) (λc1=>?_))))));refine sk (tn (sq (bl (sr (mv U ?_)))));have hH:=((hH.ext (q3.n1 q4)).fr q5 t11).fr q6 t11;refine z1b (hd0) U hH.sl U z3p z1h (λj7 e1=>?_);refine z1q U (e1 _ hH.sl) z5u (al u0a U (λk7 w7 j9 b2 q7 z7=>?_));refine asg U (z0j (vs:=[_,_,_,_,_]) U b2 z8u (λw8 b2 q8 z8=>?_) (h1:=t19));refine nn (rg ?_);have a5:=((a5.fr q6).ext q7).fr q8;refine z2j U a5 z4s (mv U (fad U x7w (z1t (vs:=[_,_]) U b2 z2h U ?_)));have ho:=(ho.ext q7).fr q8 (by intro k hk hb;simp at hk;subst hk;have:=(ho.blk _ hb);omega);refine z6v (p:=i) (E:=z1g) U z3k (z3t (i:=i) (((lh.getD i hd0).id)) U ho U z8r (λw9 ho q9 z9=>(kpL (ll6 1 2 8 34 35 36) (csu U) (nl (bn' (tn (rg (z0w U (wi6 oo) (mv U (nl ?_))))))))));exact lpE ((i+1,ps.set i ((lh.getD i hd0).id))) (csu U) ⟨((l12 [O] _).z4 q6 q7 q8 q9),⟨sm,by simp only[l19];exact a3,ho,λj hj=>by
  simp only at hj ⊢;rw[z1n oo];split;rename_i e;subst e;rfl;exact d5 j oo⟩⟩ sm
 obtain rfl:n=i:=by omega
 refine ex (te (te (xh (tn (sr (al zv22 U (λI m0 k0 a7 b4 m7=>(nn (sr (fad U z8g ?_))))))))));have a9:=(((a9.ext (q2.n2 q3 q4)).fr q5).fr q6).ext b4;refine z1t (vs:=[_,_]) U a9 z5a U (fad U y2q (z0i U a9 U na3 (z1v (cs:=[_,_,_,_]) (ev2 U) k1s (z0g U (z0g U z0r)) U ?_)));refine al k2u U (λa0 m1 k1 a1 b5 m8=>?_);refine z0j (vs:=[_,_,_,_]) U a1 k1d (λm2 a1 b6 m9=>?_) (h1:=t19);refine kpL (ll4 1 8 11 12) (csu U) (nn (sr (z5w z0f (ev2 U) (fad U v8q (z3v U a1 U k0x (λf7 a1 b7 n7=>?_))))));replace a1:Blk f7 a0 _ [_,_,_,_]:=a1;have a5:=(((a5.fr q6).ext (b4.n1 b5)).fr b6).fr b7;have ho:=((ho.ext (b4.n1 b5)).fr b6 (by intro k hk hb;simp at hk;subst hk;have:=(ho.blk _ hb);omega)).fr b7 (by intro k hk hb;simp at hk;subst hk;have:=(ho.blk _ hb);omega);have a7:=((a7.ext b5).fr b6).fr b7;have h9:=v5i (a3.trans d0) (λj hj=>d5 j oo);have hW:WdM τp (tvW (⟨a0,g8,I,O⟩:WdA)) w0 (⟨a0,g8,I,O⟩:WdA) f7 s.q s.rk (ps,[]):=⟨a1,.inl d9.b,by rw[show ((ps,([]:List Int)):G26.St).1.length=n from a3];exact a5,by rw[show ((ps,([]:List Int)):G26.St).1.length=n from a3];exact ho.low oo,⟨_,a7,Own.nil _⟩,((((q1.z6 q2 q3 q4 q5 q6 b4).n1 b5).z1 b6).z1 b7),sm,sm,sm⟩;have a8:=hW;refine nn (sq (sr (mv U (lnS U underlying45 (mv U (nn (bl (lpK (ι:=Nat) (ll4 11 12 54 55) (λi=>[(56,.int .i64 (i:Int))]) (λi w'=>Fr [] w0 w'/\i<=l.length/\∃(pi:MSt) (D:G26.St) (qi:BdQ) (lv:Value),(z3x i pi (l.drop i)=.ok q/\MInv pi/\qi.p=pi.B/\z9c (nrm p) (z5e (nrm p),[]) l=z9c pi D (l.drop i)/\D.1.length=n/\D.2.length<=64)/\WdM τp (tvW (⟨a0,g8,I,O⟩:WdA)) w0 (⟨a0,g8,I,O⟩:WdA) w' qi pi.rk D/\Blk w' I 22 [lv]/\Lw.Own Enc.i64 3 w0.heap.size w' lv D.2) (λi=>l.length-i) 0 (csu U) ⟨((((q1.z6 q2 q3 q4 q5 q6 b4).n1 b5).z1 b6).z1 b7),⟨l15 _,nrm p,(ps,[]),s.q,_,⟨by rw[List.drop_zero];exact hr,(z6r hP.v).inv,hP.BE,by rw[List.drop_zero,show z5e (nrm p)=ps from by unfold z5e;rw[d1,<-c9];exact h9.symm],a3,sp0⟩,(show s.rk=(nrm p).rk from hP.rkE)▸hW,a7,Own.nil _⟩⟩ ?_))))))));rintro i m3 ⟨d6,⟨l2,pi,D,qi,lv,⟨i5,a2,a6,d3,f1,i9⟩,hW,Z,hl⟩⟩;have n8:=d6.size;have a8:=hW;have d4:=Z.lt;refine kpC (ll5 11 12 54 55 56) (csu U) (sr (lt' U (nn (sq (cd U (λc2=>?_) (λc2=>?_))))));have e7:i<l.length:=by omega
 obtain⟨e5,m,b9,i7⟩:=v0p i5 e7;obtain⟨h5,h4⟩:=x7n g4 e7;have b8:=z3o h4;have h6:(opW pi (l.getD i op0) D).1.length=n:=by
  unfold opW;split;exact(x4d a2.B D a2.rk (b8.2.2.2.2.2 t12)).1.trans f1;exact f1
 have k6:(opW pi (l.getD i op0) D).2.length<=100000:=by
  unfold opW;split;have:=(x4d a2.B D a2.rk (b8.2.2.2.2.2 t12)).2;omega;omega
 refine sk (tn (sq (bl (sr ?_))));have hv:=j0.ext d6;refine z1b (op0) U hv U y5b z1h (λj8 e2=>?_);refine z1q U (e2 _ hv) y2s (al u0o U (λk8 m4 k4 a4 f3 n9=>?_));refine z0j (vs:=[_,_,_,_,_,_]) U a4 v2o (λm5 a4 f4 o0=>?_) (h1:=t19);refine nn (jn (ι:=Unit) (ll5 11 12 54 55 56) (λu_=>[]) (λu_ w'=>Fr [] w0 w'/\∃(qn:BdQ) (b0:Option Addr) (b1:Nat),qn.p=m.B/\WdM τp (tvW (⟨a0,g8,I,O⟩:WdA)) w0 (⟨a0,g8,I,O⟩:WdA) w' qn m.rk (opW pi (l.getD i op0) D)/\Blk w' I 22 [.slice b0 (opW pi (l.getD i op0) D).2.length b1]/\Lw.Own Enc.i64 3 w0.heap.size w' (.slice b0 (opW pi (l.getD i op0) D).2.length b1) (opW pi (l.getD i op0) D).2) (csu U) ?_ ?_);refine sr (fad U z7o (z0i U a4 U v2t (eq' U (nn (cd U (λc3=>?_) (λc3=>?_))))));have h7:=b8.2.2.2.2.2 c3;obtain⟨i2,i3,-⟩:=j4j a2.rk b9 c3;refine rg (fad U y1a (z0i U a4 U na3 ?_));have hW:=a8.ext (f3.z1 f4);refine cl (z0a U (z0a U z0f)) (mkC func59) (u2s w0 (⟨a0,g8,I,O⟩:WdA) qi pi.rk D (l.getD i op0).r _ hW (a6▸a2.B) e0 a2.rk h7 oo i9) U ?_;rintro _ f8 ⟨rfl,hW⟩;have f5:=hW.fr;have o1:=f5.size;replace hW:WdM τp (tvW (⟨a0,g8,I,O⟩:WdA)) w0 (⟨a0,g8,I,O⟩:WdA) f8 qi m.rk (opW pi (l.getD i op0) D):=by rw[i2,show opW pi (l.getD i op0) D=z7i qi.p pi.rk (l.getD i op0).r D from by rw[a6];exact if_pos c3];exact hW
 have b3:qi.p=m.B:=a6.trans i3.symm;have a8:=hW;obtain⟨lv,Z,hl⟩:=hW.l;obtain⟨b0,b1,rfl,e4⟩:=hl.sl.form;replace Z:Blk f8 I 22 [_]:=Z;exact nl (jE (()) (csu U) ⟨f5,⟨_,_,_,b3,hW,Z,hl⟩⟩);have h0:(l.getD i op0).k=7:=h5.resolve_left c3;have e9:=b8.2.2.2.2.1 oo;have l7:=z2t e9;obtain⟨j1,l8,j2,f2,j3,j4⟩:=v7w b9 h0;have l9:=z2t f2;obtain⟨j6,i1⟩:∃n:Nat,(l.getD i op0).p=(n:Int):=⟨(l.getD i op0).p.toNat,oo⟩;obtain⟨j5,i0⟩:∃m:Nat,z5t (l.getD i op0).b (l.getD i op0).p pi.rk=(m:Int):=⟨(z5t (l.getD i op0).b (l.getD i op0).p pi.rk).toNat,oo⟩;refine rg (fad U z5n (z1t (vs:=[_,_]) U a4 z5s U ?_));have hW:=a8.ext (f3.z1 f4);refine cl (z0a U (z0a U z0f)) (mkC func60) (u1w w0 (⟨a0,g8,I,O⟩:WdA) qi pi.rk D (l.getD i op0).b (l.getD i op0).p j6 j5 _ hW (a6▸a2.B) i1 i0 e9 f2 (a6▸j2) (by rw[a6];exact j3) a2.rk) U ?_;rintro _ f9 ⟨rfl,qn,hW,i4⟩;have f6:=hW.fr;have o2:=f6.size;replace hW:WdM τp (tvW (⟨a0,g8,I,O⟩:WdA)) w0 (⟨a0,g8,I,O⟩:WdA) f9 qn m.rk (opW pi (l.getD i op0) D):=by rw[j1,show opW pi (l.getD i op0) D=D from if_neg c3];exact hW
 have b3:qn.p=m.B:=by rw[i4,a6,j4]
 have a8:=hW;obtain⟨lv,Z,hl⟩:=hW.l;obtain⟨b0,b1,rfl,e4⟩:=hl.sl.form;replace Z:Blk f9 I 22 [_]:=Z;exact nl (jE (()) (csu U) ⟨f6,⟨_,_,_,b3,hW,Z,hl⟩⟩);rintro _u m6 ⟨d7,⟨qn,b0,b1,b3,hW,Z,hl⟩⟩;have o3:=d7.size;have a8:=hW;have d4:=Z.lt;refine kpC (ll5 11 12 54 55 56) (csu U) (sr (z2j U Z u7k (lnS U underlying22 (gt' U (nn (cd U (λc4=>?_) (λc4=>?_)))))));exact sr (asg U (asg U (kpL (ll2 4 5) (csu U) (nn (rt (rb (tr (tr (rb (tr (r2 results25 U U ⟨_,rfl,⟨none,[],3,rfl,Own.nil _,.inl ⟨by unfold y1e;rw[if_neg (λe=>e8 (d1.symm.trans e)),d3,e5,v3i oo];rfl,rfl,rfl⟩⟩,d7⟩)))))))))));have e3:¬64<(opW pi (l.getD i op0) D).2.length:=by omega
 exact sk (bn' (tn (rg (z0w U (wi6 oo) (mv U (nl (lpE ((i+1)) (csu U) ⟨d7,⟨oo,m,(opW pi (l.getD i op0) D),qn,_,⟨i7,z8p a2 b9,b3,by rw[d3,e5,v3j e3 b9],h6,oo⟩,hW,Z,hl⟩⟩ oo)))))));obtain rfl:i=l.length:=by omega
 rw[List.drop_length]at d3;refine ex (te (te (xh (tn (sr (z2j U Z u7k ?_))))));have h2:=hl;obtain⟨AL,cL,rfl,g6⟩:=hl.sl.form;refine cl (ev1 U) (mkC func61) (u0r AL _ cL _ g6) U ?_;rintro _ _ ⟨rfl,rfl⟩;refine asg U (asg U (kpL (ll2 4 5) (csu U) (nn (rt (r2 results25 U U ?_)))));obtain⟨l4,h3⟩:=y5m h2;exact⟨_,rfl,⟨_,_,0,rfl,h3,.inr ⟨by unfold y1e;rw[if_neg (λe=>e8 (d1.symm.trans e)),d3];rfl,rfl⟩⟩,d6⟩
end Go.Proofs.YtlfdhllfmoplgaaGreatDoor
namespace Go.Lw
section
variable {P:Program} {n:Nat} {L:List (Nat×Value)} {w:World} {v:Value} {a:Act} {g T:Nat} {cs:List Value}
theorem j9g {fn:Func}{R:Ending->World->Prop}{p pt q r:Nat}{u:Value}(h:Ag a n L)(hr:fn.results=#[.tmp q,.cell p pt,.tmp r])(hp:look L p=some (pta g))(hb:Blk w g T cs)(Z:z4b P pt cs.length)(hv:look L q=some v)(hu:look L r=some u)(k:R (.returned (.tuple #[v,.agg cs.toArray,u])) w):bodyPost P fn R .ret a w:=
 bodyPost_ret (v:=.tuple #[v,.agg cs.toArray,u]) (by
  have D:=h.at_ p _ hp
  have I:=h.at_ q _ hv
  have O:=h.at_ r _ hu
  simp only[l40]at D I O
  simp[results,hr,D,I,O,asAddr,loadVar,Z.1 w,Z.2 w,run_loadCells_list w _ cs hb.cells]) h.dfr k
theorem j9x {fn:Func}{R:Ending->World->Prop}{p pt q r:Nat}{u:Value}(I:fn.results=#[.tmp q,.cell p pt,.tmp r])(hp:look L p=some (pta g))(hb:Blk w g T cs)(D:z4b P pt cs.length)(Z:look L q=some v)(O:look L r=some u)(k:R (.returned (.tuple #[v,.agg cs.toArray,u])) w):EW (bodyPost P fn R) .ret n [] w L:=λ_ h=>j9g h I hp hb D Z O k
end
end Go.Lw
namespace Go.Proofs.YtlfdhllfmoplgaaGreatDoor
open Go.Lw Go.G21 Go.G08 Go.G09 Go.G26 _root_.Go.Proofs.Tryz
theorem j9d (v:Value)(l:List MOp)(w0:World)(hv:Sl z4n w0 v l)(a5:l.length<=1000000):Rets prog 19 #[v] w0 λr w'=>r=.bool (isP l)/\Fr [] w0 w':=by
 obtain⟨A,c,rfl,a3⟩:=id hv.form;refine we [(0,.slice A l.length c)] func19 U ntmps19 U (.cons U .nil) ?_;have a1:=hv;refine sr (asg U (nn (sq (sr (mv U (lnS U underlying45 (mv U (nn (bl (lpK (ι:=Nat) (ll2 5 6) (λi=>[(7,.int .i64 (i:Int))]) (λi w'=>Fr [] w0 w'/\i<=l.length/\∀j,j<i->((l.getD j op0).k=3\/(l.getD j op0).k=7)/\y1c (l.getD j op0)=0) (λi=>l.length-i) 0 (csu U) ⟨l12 _ _,⟨l15 _,λj h=>absurd h oo⟩⟩ ?_))))))))));rintro i w1 ⟨Z,⟨hi,O⟩⟩;have z1:=Z.size;refine kpC (ll3 5 6 7) (csu U) (sr (lt' U (nn (sq (cd U (λc0=>?_) (λc0=>?_))))));refine sk (tn (sq (bl (sr ?_))));have hv:=a1.ext Z;refine z1b (op0) U hv U y5b z1h (λa2 a0=>?_);refine z1q U (a0 _ hv) y2s (al u0o U (λg4 w2 a4 I q2 z2=>(z0j (vs:=[_,_,_,_,_,_]) U I v2o (λw3 I q3 z3=>(nn (sr (fad U z7o (z0i U I U v2t (ne' U (mv U (gs 14 U (λg0=>?_) (λg0=>?_))))))))))));refine gY U (fad U z7o (gY U (z0i U I U v2t (gY U (ne' U (pkt U (mv U (gs 19 U (λg1=>?_) (λg1=>?_)))))))));refine gN U (gN U (gN U (pkt U (kpL (ll4 5 6 7 23) (csu U) (nn (ct U (sr (asg U (nn (rt (rb (tr (tr (rb (tr (r1 results19 U ?_))))))))))))))));exact⟨_,rfl,by first|exact congrArg Value.bool (v0e (i:=i) oo (λh=>by obtain⟨D,h2⟩:=h;rcases D with D|D<;>simp_all)).symm|exact congrArg Value.bool (y9w (λj hj=>O j oo)).symm,(Z.z2 q2 q3)⟩;refine gY U (z0k U I y2s (gY U (cl (ev1 U) j9s (y2d _ _) U ?_)));rintro _ w4 ⟨rfl,q4⟩;have z4:=q4.size;refine gY U (ne' U (pkf U (kpL (ll4 5 6 7 23) (csu U) (nn (cd U (λc1=>?_) (λc1=>?_))))));refine sr (asg U (nn (rt (rb (tr (tr (rb (tr (r1 results19 U ?_)))))))));exact⟨_,rfl,by first|exact congrArg Value.bool (v0e (i:=i) oo (λh=>by obtain⟨D,h2⟩:=h;rcases D with D|D<;>simp_all)).symm|exact congrArg Value.bool (y9w (λj hj=>O j oo)).symm,(Z.z3 q2 q3 q4)⟩;refine sk (bn' (tn (rg (z0w U (wi6 oo) (mv U (nl ?_))))));exact lpE (i+1) (csu U) ⟨(Z.z3 q2 q3 q4),⟨oo,λj h=>by
  by_cases e:j=i;subst e;by_cases h3:(l.getD j op0).k=3<;>by_cases h7:(l.getD j op0).k=7<;>simp_all
  exact O j oo⟩⟩ oo
 refine gN U (gN U (gN U (pkf U (mv U (gY U (z0k U I y2s (gY U (cl (ev1 U) j9s (y2d _ _) U ?_))))))));rintro _ w5 ⟨rfl,q5⟩;have z5:=q5.size;refine gY U (ne' U (pkf U (kpL (ll4 5 6 7 23) (csu U) (nn (cd U (λc1=>?_) (λc1=>?_))))));refine sr (asg U (nn (rt (rb (tr (tr (rb (tr (r1 results19 U ?_)))))))));exact⟨_,rfl,by first|exact congrArg Value.bool (v0e (i:=i) oo (λh=>by obtain⟨D,h2⟩:=h;rcases D with D|D<;>simp_all)).symm|exact congrArg Value.bool (y9w (λj hj=>O j oo)).symm,(Z.z3 q2 q3 q5)⟩;refine sk (bn' (tn (rg (z0w U (wi6 oo) (mv U (nl ?_))))));exact lpE (i+1) (csu U) ⟨(Z.z3 q2 q3 q5),⟨oo,λj h=>by
  by_cases e:j=i;subst e;by_cases h3:(l.getD j op0).k=3<;>by_cases h7:(l.getD j op0).k=7<;>simp_all
  exact O j oo⟩⟩ oo
 obtain rfl:i=l.length:=by omega
 refine ex (te (te (xh (tn (sr (asg U (nn (rt (r1 results19 U ?_)))))))));exact⟨_,rfl,by first|exact congrArg Value.bool (v0e (i:=i) oo (λh=>by obtain⟨D,h2⟩:=h;rcases D with D|D<;>simp_all)).symm|exact congrArg Value.bool (y9w (λj hj=>O j oo)).symm,Z⟩
theorem u1a (p:MSt)(l:List MOp):x6s p l<=l.length/\∃m,z3x 0 p (l.take (x6s p l))=.ok m:=by
 unfold x6s;cases e:z3x 0 p l with
 | error x=>
  obtain⟨I,n⟩:=x;obtain⟨O,Z,m,D⟩:=y5w e;exact⟨sm,m,D⟩
 | ok q=>exact⟨l21 _,q,by simp only[l34];exact e⟩
theorem x9o {p:MSt}{l:List MOp}(h:u0l p l=0):x6s p l=l.length:=by
 cases e:z3x 0 p l with
 | error x=>exact absurd ((y9q e).1.symm.trans h) (v6y e)
 | ok q=>exact(y4y e).2
theorem v9w {p:MSt}{l:List MOp}(a0:isP l=true)(h4:l.length<=4096)(h8:p.B.flat.length<=8){ws:List Int}{D:Int}(I:(y1e p (l.take (x6s p l))=none/\D=3/\ws=[])\/(y1e p (l.take (x6s p l))=some ws/\D=0)) :
    ((if D=0 then u0l p l else D)≠0->z5m p l=.error (if D=0 then u0l p l else D))/\((if D=0 then u0l p l else D)=0->∃q,z3x 0 p l=.ok q/\z5m p l=.ok (ws,q)):=by
  have hb:z5m p l=(match z3x 0 p l with
    | .error x=>(match y1e p (l.take x.2) with
      | none=>.error 3
      | some _=>.error x.1)
    | .ok q=>(match y1e p l with
      | none=>.error 3
      | some w=>.ok (w,q))):=by
    unfold z5m
    rw[if_neg (by rw[a0];decide),if_neg oo,if_neg oo]
    all_goals cases z3x 0 p l
    all_goals first|rfl|(split<;>rfl)
  rw[hb]
  cases e:z3x 0 p l with
  | error x=>
    obtain⟨x1,n⟩:=x
    obtain⟨O,Z⟩:=y9q e
    have hx:=v6y e
    rw[Z]at I
    rw[O]
    simp only
    rcases I with ⟨h,rfl,rfl⟩|⟨h,rfl⟩
    · rw[h];exact⟨λ_=>rfl,λh=>by simp at h⟩
    · rw[h];exact⟨λ_=>rfl,λh=>absurd h hx⟩
  | ok q=>
    obtain⟨O,Z⟩:=y4y e
    rw[Z,l34]at I
    rw[O]
    simp only
    rcases I with ⟨h,rfl,rfl⟩|⟨h,rfl⟩
    · rw[h];exact⟨λ_=>rfl,λh=>by simp at h⟩
    · rw[h];exact⟨λh=>absurd U h,λ_=>⟨q,rfl,rfl⟩⟩
theorem v1i {p:MSt}{l:List MOp}(h:isP l=false):z5m p l=.error 1:=by unfold z5m;rw[if_pos h]
theorem v2p {p:MSt}{l:List MOp}(h:isP l=true)(I:l.length<=4096)(D:8<p.B.flat.length):z5m p l=.error 3:=by
 unfold z5m;rw[if_neg (by rw[h];decide),if_neg oo,if_pos D]
structure BrR (w':World) (p:MSt) (l:List MOp) (N base:Nat) (A:Option Addr) (ws:List Int) (s':StQ) (e:Int):Prop where
  o:Lw.Own Enc.i64 3 base w' (.slice A ws.length ws.length) ws
  k:StK UK w' s'
  er:∀x,z5m p l=.error x->e=x/\ws=[]/\s'=stZ
  ok:∀u q,z5m p l=.ok (u,q)->e=0/\ws=u/\StP s' q N
theorem BrR.no {w':World}{p:MSt}{l:List MOp}{N base:Nat}{x:Int}(h:z5m p l=.error x):BrR w' p l N base none [] stZ x:=
 ⟨Own.nil _,(j1c base w').k,λy I=>by rw[h]at I;cases I;exact⟨rfl,rfl,rfl⟩,λu q D=>by rw[h]at D;cases D⟩
theorem z7j (s:StQ)(p:MSt)(N:Nat)(v:Value)(l:List MOp)(w0:World)(hS:StAt w0 s)(hP:StP s p N)(hn:N+l.length<=1000)(hv:Sl z4n w0 v l)(a5:StT w0):Rets prog 6 #[svv s,v] w0 λr w'=>(∃A ws s' e,r=.tuple #[.slice A ws.length ws.length,svv s',.int .i64 e]/\BrR w' (nrm p) l (N+l.length) w0.heap.size A ws s' e)/\Fr [] w0 w':=by
 obtain⟨A,c,rfl,e4,b9,-⟩:=id hv;have a8:s.q.p=p.B:=hP.BE;have d3:BdOk s.q.p:=a8▸hP.v.inv.B;obtain⟨⟨hf,hb⟩,h4,d1⟩:=z3u d3;obtain⟨d6,mr,d5⟩:=u1a (nrm p) l;refine we [(0,svv s),(1,.slice A l.length c)] func6 U ntmps6 U (.c2 U U) ?_;have a9:=hS;have b5:=hv;have b0:=a5;refine sr (bx U (λg2 w1 e5 I q1 z1=>(asg U (al y8y U (λg5 w2 e6 D q2 z2=>(asg U (nn (sq (sr (mv U ?_))))))))));have hv:=b5.ext (q1.n1 q2);refine cl (ev1 U) (mkC func19) (j9d _ l _ hv oo) U ?_;rintro _ w3 ⟨rfl,q3⟩;have z3:=q3.size;refine nt' U (nn (cd U (λc0=>?_) (λc0=>?_)));refine sr (z1v (cs:=[_,_,_,_,_,_,_,_]) z0f x9d z0r U ?_);refine asg U ?_;have D:=D.ext q3;exact z0j (vs:=[_,_,_,_,_,_,_,_]) U D z9q (λw4 D q4 z4=>(asg U (nn (rt (tr (j9x results6 U D z8a U U ⟨_,rfl,⟨none,[],stZ,1,rfl,BrR.no (v1i (by simpa using c0))⟩,(q1.z3 q2 q3 q4)⟩))))));have b2:isP l=true:=by simpa using c0
 refine sk (tn (sq (sr (mv U (lnS U underlying45 (gt' U (nn (cd U (λc1=>?_) (λc1=>?_)))))))));exfalso;omega;refine sk (tn (sq (sr ?_)));have I:=I.ext (q2.n1 q3);refine z0k U I z8a ?_;have hS:=a9.ext (q1.n2 q2 q3);refine cl (ev1 U) (mkC func23) (x0r _ hS hP) U ?_;rintro _ w5 ⟨rfl,q5⟩;have z5:=q5.size;refine asg U (nn (sr (mv U (ne' U (nn (cd U (λc2=>?_) (λc2=>?_)))))));exact absurd U c2;refine sk (tn (sq (sr (fad U z8g ?_))));have I:=I.ext q5;refine z1t (vs:=[_,_]) U I z5a U ?_;have hS:=a9.ext (q1.n3 q2 q3 q5);refine cl (ev1 U) (mkC func24) (y5y s.q _ hS.b hf hb h4 d1) U ?_;rintro _ w6 ⟨rfl,q6⟩;have z6:=q6.size;refine gt' U (nn (cd U (λc3=>?_) (λc3=>?_)));refine sr (z1v (cs:=[_,_,_,_,_,_,_,_]) z0f x9d z0r U ?_);refine asg U ?_;have D:=D.ext (q3.n2 q5 q6);exact z0j (vs:=[_,_,_,_,_,_,_,_]) U D z9q (λw7 D q7 z7=>(asg U (nn (rt (tr (j9x results6 U D z8a U U ⟨_,rfl,⟨none,[],stZ,3,rfl,BrR.no (v2p b2 oo (by show 8<p.B.flat.length;rw[<-a8];omega))⟩,(q1.z5 q2 q3 q5 q6 q7)⟩))))));refine sk (tn (sr ?_));have I:=I.ext q6;refine z0k U I z8a (mv U ?_);have hS:=a9.ext (q1.n4 q2 q3 q5 q6);have hv:=b5.ext (q1.n4 q2 q3 q5 q6);have a5:=b0.ext (q1.n4 q2 q3 q5 q6);refine cl (ev2 U) (mkC func7) (x7v _ l _ hS hP hn hv a5) U ?_;rintro _ w8 ⟨⟨s8,rfl,b6,d4,e8⟩,q8⟩;have z8:=q8.size;have a0:=b6.k;clear b6;refine mv U (xt U (xt U (xt U (al y8y U (λg8 w9 e7 a2 q9 z9=>(z0j (vs:=[_,_,_,_,_,_,_,_]) U a2 z9q (λe1 a2 Z f2=>(asg U (asg U (kpL (ll6 1 2 5 8 9 10) (csu U) (nn (jn (ι:=Unit) (ll4 2 5 8 10) (λ_j=>[(1,.slice A (x6s (nrm p) l) c)]) (λ_j w'=>Fr [] e1 w') (csu U) ?_ ?_))))))))))));refine sr (mv U (ne' U (nn (cd U (λc4=>?_) (λc4=>?_)))));refine rg (mv U (mv U (u7s (p:=(x6s (nrm p) l)) U U y5b oo oo oo U (asg U (nl ?_)))));exact jE (()) (.c5 U U U U (congrArg (λz=>some (Value.slice A z c)) (by first|rfl|exact(x9o (l16.1 c4)).symm))) (l12 _ _);refine sk ?_;exact jE (()) (.c5 U U U U (congrArg (λz=>some (Value.slice A z c)) (by first|rfl|exact(x9o (l16.1 c4)).symm))) (l12 _ _);rintro _j e9 O;have f3:=O.size;refine kpC (ll5 2 5 8 10 1) (csu U) (sr ?_);have I:=((I.ext (q8.n1 q9)).fr Z).ext O;refine z0k U I z8a (mv U ?_);have hv:=b5.ext (((q1.n6 q2 q3 q5 q6 q8 q9).z1 Z).n1 O);have d9:=hv.take U (m:=(x6s (nrm p) l)) d6 (B:=A) (c':=c) oo b9 (λ_=>rfl);have hS:=a9.ext (((q1.n6 q2 q3 q5 q6 q8 q9).z1 Z).n1 O);have a5:=b0.ext (((q1.n6 q2 q3 q5 q6 q8 q9).z1 Z).n1 O);refine cl (ev2 U) (mkC func25) (j0v s p mr N _ (l.take (x6s (nrm p) l)) _ hS hP d9 a5 (u3x b2 _) d5 t27 (by rw[<-a8];omega)) U ?_;rintro _ e2 ⟨⟨d0,ws,ew,rfl,a3,hw⟩,q12⟩;have f4:=q12.size;have b1:=v9w b2 oo (by show p.B.flat.length<=8;rw[<-a8];omega) hw;refine mv U (xt U (xt U (asg U (asg U (kpL (ll5 5 8 10 11 12) (csu U) (nn (jn (ι:=Unit) (ll3 5 8 11) (λ_j=>[(12,.int .i64 (if ew=0 then (u0l (nrm p) l) else ew))]) (λ_j w'=>Fr [] e2 w') (csu U) ?_ ?_)))))));refine sr (mv U (eq' U (nn (cd U (λc5=>?_) (λc5=>?_)))));refine rg (mv U (asg U (nl ?_)));exact jE (()) (.c4 U U U (congrArg (λz=>some (Value.int .i64 z)) (by first|exact(if_pos c5).symm|exact(if_neg c5).symm))) (l12 _ _);refine sk ?_;exact jE (()) (.c4 U U U (congrArg (λz=>some (Value.int .i64 z)) (by first|exact(if_pos c5).symm|exact(if_neg c5).symm))) (l12 _ _);rintro _j f0 a1;have f5:=a1.size;refine kpC (ll4 5 8 11 12) (csu U) (sq (sr (mv U (ne' U (nn (cd U (λc6=>?_) (λc6=>?_)))))));refine sr (z1v (cs:=[_,_,_,_,_,_,_,_]) z0f x9d z0r U ?_);refine mv U (asg U ?_);have D:=((D.ext (q3.n4 q5 q6 q8 q9)).fr Z).ext (O.n2 q12 a1);exact z0j (vs:=[_,_,_,_,_,_,_,_]) U D z9q (λf1 D e0 f6=>(asg U (kpL (ll3 4 5 6) (csu U) (nn (rt (tr (j9x results6 U D z8a U U ⟨_,rfl,⟨none,[],stZ,_,rfl,BrR.no (b1.1 c6)⟩,((((q1.n6 q2 q3 q5 q6 q8 q9).z1 Z).n1 O).z3 q12 a1 e0)⟩)))))));refine sk (tn (sq ?_));have D:=((D.ext (q3.n4 q5 q6 q8 q9)).fr Z).ext (O.n2 q12 a1);have a0:=((a0.ext q9).fr Z t32).ext (O.n2 q12 a1);intro a h;refine z0h (some 3) (λwb w'=>Fr [g5] wb w') z2o ?_;intro c9 a4;have f7:=a4.size;have D:=D.ext a4;have a0:=a0.ext a4;have a2:=a2.ext (O.n3 q12 a1 a4);have hC:Fr [g5] c9 c9:=l12 _ _;have b4:=D;have b3:=a0;have a6:=a2;refine z0d 0 h U λa h=>z0v 1 h U (λ_ hw=>a6.fr hw (λk_=>by simp at k_;omega)) z8a U λa h=>z0e 2 U (z0q h U λa h=>?_);refine z0b (z0e 3 U (z0t h U D U z9q λe3 b8 a7 hz a h=>?_));have f8:=a7.size;have a0:=a0.fr a7 t32;have a2:=a2.fr a7;clear D hz;have D:Blk e3 g5 _ [_,_,_,_,_,_,_,_]:=b8;clear b8;refine z1l (z0e 4 U (z0q h U λa h=>?_));refine z1l (z0o ?_);clear hC b4 b3 a6;refine bk (h.sub (L':=ll3 4 5 6) (csu U)) (tn (rt (j9x results6 U D z8a U U ?_)));have a3:=(a3.ext (a1.n1 a4)).fr a7 (by first|exact z9n a3 oo|simp[z0u]<;>omega);obtain⟨qf,d7,b7⟩:=b1.2 (l16.1 c6);exact⟨_,rfl,⟨d0,ws,s8,0,rfl,a3.low oo,a0,(λx hx=>by rw[b7]at hx;cases hx),(λu q hq=>by rw[b7]at hq;cases hq;exact⟨rfl,rfl,d4 _ d7⟩)⟩,((((q1.n6 q2 q3 q5 q6 q8 q9).z1 Z).n1 O).z4 q12 a1 a4 a7)⟩
open Go.Lw Go.G21 Go.G08 _root_.Go.Proofs.Tryz
open Go.Lw Go.G21 Go.G08 Go.G09 Go.G26 _root_.Go.Proofs.Tryz
end Go.Proofs.YtlfdhllfmoplgaaGreatDoor
namespace Go.G26
open Go.Lw Go.G21 Go.G08
def bdS (at_:Nat):Int:=if at_ % 2=1 then 0 else 1
def opS (k d:Int)(at_:Nat):MOp:=⟨k,d,bdS at_,10+((at_ / 2:Nat):Int),1,0⟩
def u0k (at_ n:Nat)(p:Int):Prop:=(p % 8=((at_ / 2:Nat):Int)/\(p / 8 % 2=1↔at_ % 2=0))/\n<6
instance (at_ n:Nat) (p:Int):Decidable (u0k at_ n p):=by unfold u0k;infer_instance
def v3o (at_:Nat)(p:Int)(s:List MOp×Nat):List MOp×Nat:=if p / 16 % 2=1/\s.2+1<6 then (s.1++[opS 4 1 at_]++[opS 6 0 at_,opS 5 1 at_],s.2+2) else (s.1++[opS 4 1 at_],s.2+1)
def x2d (at_:Nat):List Int->List MOp×Nat->List MOp×Nat
  | [],s=>s
  | p::r,s=>if u0k at_ s.2 p then v3o at_ p s else x2d at_ r s
def z9p (xs:List Int):Nat->List MOp×Nat
  | 0=>([⟨1,0,0,0,1,0⟩],0)
  | n+1=>x2d n (xs.take 6) (z9p xs n)
def j4t (xs:List Int):List MOp:=(z9p xs 16).1++[⟨2,0,0,0,1,0⟩]
theorem y0j (D:Nat)(p:Int)(s:List MOp×Nat):(v3o D p s).1.length<=s.1.length+3/\(s.2<6->(v3o D p s).2<=6):=by
 unfold v3o;split;exact⟨sp0,λh=>by show s.2+2<=6;omega⟩;exact⟨sp0,λh=>by show s.2+1<=6;omega⟩
theorem v1r (D:Nat):∀(l:List Int) (s:List MOp×Nat),s.2<=6->(x2d D l s).1.length<=s.1.length+3/\(x2d D l s).2<=6
 | [],s,h=>⟨Nat.le_add_right _ _,h⟩
 | p::r,s,h=>by
  unfold x2d;split
  ·rename_i Z
   obtain⟨I,O⟩:=y0j D p s
   exact⟨I,O Z.2⟩
  exact v1r D r s h
theorem x0d (xs:List Int):∀n,(z9p xs n).1.length<=1+3*n/\(z9p xs n).2<=6
 | 0=>⟨by simp[z9p],by simp[z9p]⟩
 | n+1=>by
  obtain⟨O,D⟩:=x0d xs n
  obtain⟨Z,I⟩:=v1r n (xs.take 6) (z9p xs n) D
  exact⟨by show (x2d n (xs.take 6) (z9p xs n)).1.length<=_;omega,I⟩
theorem y9a {xs:List Int}{i:Nat}(h:i<xs.length)(D:i<6):(xs.take 6).drop i=xs.getD i 0::(xs.take 6).drop (i+1):=by
 have hl:i<(xs.take 6).length:=by rw[l28];omega
 rw[l50 hl,List.getElem_take,List.getD,l10 h];rfl
theorem u4f {D:Nat}{xs:List Int}{i:Nat}{s:List MOp×Nat}(h:i<xs.length)(I:i<6)(O:u0k D s.2 (xs.getD i 0)):x2d D ((xs.take 6).drop i) s=v3o D (xs.getD i 0) s:=by
 rw[y9a h I];exact if_pos O
theorem v5k {D:Nat}{xs:List Int}{i:Nat}{s:List MOp×Nat}(h:i<xs.length)(I:i<6)(O:¬u0k D s.2 (xs.getD i 0)):x2d D ((xs.take 6).drop i) s=x2d D ((xs.take 6).drop (i+1)) s:=by
 rw[y9a h I];exact if_neg O
theorem u3i {D:Nat}{xs:List Int}{i:Nat}{s:List MOp×Nat}(h:¬(i<xs.length/\i<6)):x2d D ((xs.take 6).drop i) s=s:=by
 rw[l105 t27];rfl
theorem j9n:j4t [0,1,2]=exO:=by decide +kernel
end Go.G26
namespace Go.Proofs.YtlfdhllfmoplgaaGreatDoor
open Go.Lw Go.G21 Go.G08 Go.G09 Go.G26 _root_.Go.Proofs.Tryz
theorem u6j:z1e prog 53 0 0:=λ_ _=>kr
theorem k0l:z2a prog 51:=λ_=>kr
theorem nrm0:nrm G08.start=G08.start:=by simp[nrm,G08.start,y3k,y2w]
theorem y8d (A:Option Addr)(c:Nat)(bs:List UInt8)(M:Option Addr)(nM cM:Nat)(w0:World)(hs:Sl Enc.b w0 (.slice A bs.length c) bs)(b2:StT w0):Rets prog 10 #[.agg #[.slice A bs.length c,.slice M nM cM]] w0 λr w'=>(∃s:StQ,r=(svv s)/\StK UK w' s/\∀q,z3x 0 G08.start (j4t (bs.map λb=>(b.toNat:Int)))=.ok q->StP s q 50)/\Fr [] w0 w':=by
 obtain⟨O,b6⟩:∃O:List Int,O=bs.map (λb=>(b.toNat:Int)):=⟨_,rfl⟩;rw[<-b6];have i3:O.length=bs.length:=by rw[b6,l18]
 have f5:=hs.len_le;unfold maxLen at f5;have f6:∀i,i<bs.length->O.getD i 0=((bs.getD i 0).toNat:Int):=λi h=>by rw[b6,List.getD,List.getD,l23,l10 h];rfl
 refine we [(0,.agg #[.slice A bs.length c,.slice M nM cM])] func10 U ntmps10 U (.cons U .nil) ?_;have f4:=hs;have d1:=b2;refine sr (bx U (λg1 w1 h5 a1 q1 z1=>(al y8y U (λg2 w2 h6 a4 q2 z2=>?_))));have a1:=a1.ext q2;obtain⟨bS,h4⟩:∃b:Nat,b=w2.heap.size:=⟨_,rfl⟩;have b0:=a1;have d4:=a4;refine nn (sr (z1v (cs:=[_,_,_,_,_,_]) (ev2 U) u0d (z0g U (z0g U z0r)) U ?_));refine z1m ([⟨1,0,0,0,1,0⟩]) (ev1 U) U y5b (λg8 w3 f8 e0 q3 z3=>(asg U (nn (sr (asg U (nn (sq (sr (asg U (nn (bl (lpK (ι:=Nat×Value) (ll2 1 2) (λp_=>[(5,.int .i64 (p_.1:Int)),(3,p_.2),(4,.int .i64 ((z9p O p_.1).2:Int))]) (λp_ w'=>Fr [] w2 w'/\p_.1<=16/\Lw.Own z4n 44 bS w' p_.2 (z9p O p_.1).1) (λp_=>16-p_.1) (0,_) (csu U) ⟨q3,⟨l15 _,e0.low oo⟩⟩ ?_))))))))))));rintro⟨n,vP⟩ w4 ⟨q4,⟨d9,Z⟩⟩;simp only at d9 Z;have z4:=q4.size;refine kpC [(1,_),(2,_),(5,.int .i64 (n:Int)),(3,vP),(4,.int .i64 ((z9p O n).2:Int))] (csu U) ?_;obtain⟨i0,i1⟩:=x0d O n;refine sq (sr (mv U (lt' U (nn (cd U (λc0=>?_) (λc0=>?_))))));refine sk (tn (sq (bl (sr (mv U (v4f U U (by first|exact IntWalk.i64_quo _ _ oo|rfl) U (z0w U (wi6 oo) (z1v (cs:=[_,_]) (ev2 U) y7p (z0g U (z0g U z0r)) U ?_))))))));refine al x9x U (λg6 w5 h7 I q5 z5=>?_);refine z0j (vs:=[_,_]) U I y4e (λw6 I q6 z6=>?_) (h1:=t36);refine nn (jn (ι:=Unit) (ll6 1 2 3 4 5 6) (λu_=>[]) (λu_ w'=>Fr [g6] w6 w'/\Blk w' g6 42 [.int .u8 (bdS n),.int .i64 (10+((n / 2:Nat):Int))]) (csu U) ?_ ?_);refine sr (mv U (x1r U U t38 (eq' U (nn (cd U (λc1=>?_) (λc1=>?_))))));refine rg (fad U z6u (z3v U I U k0t (λw7 I q7 z7=>?_)));replace I:Blk w7 g6 _ [_,_]:=I;exact nl (jE (()) (csu U) ⟨((l12 [g6] _).z1 q7),by rw[show bdS n=0 from if_pos oo,show (10:Int)+((n / 2:Nat):Int)=10+(n:Int) / 2 by omega];exact I⟩);exact sk (jE (()) (csu U) ⟨(l12 _ _),by rw[show bdS n=1 from if_neg oo,show (10:Int)+((n / 2:Nat):Int)=10+(n:Int) / 2 by omega];exact I⟩);rintro _u w8 ⟨q8,I⟩;have z8:=q8.size;have e8:=I.lt;refine kpC (ll6 1 2 3 4 5 6) (csu U) (sr (asg U (nn (bl (lpK (ι:=Nat) (ll6 1 2 3 4 5 6) (λi=>[(7,.int .i64 (i:Int))]) (λi w'=>Fr [] w8 w'/\(i<=O.length/\i<=6)/\x2d n ((O.take 6).drop i) (z9p O n)=z9p O (n+1)) (λi=>6-i) 0 (csu U) ⟨l12 _ _,⟨⟨l15 _,l15 _⟩,by rw[List.drop_zero];rfl⟩⟩ ?_)))));rintro i w9 ⟨q9,⟨h9,b5⟩⟩;have z9:=q9.size;refine kpC (ll7 1 2 3 4 5 6 7) (csu U) (sq (sq (rbo (r:=34) (L':=ll7 1 2 3 4 5 6 7) ((((i:Int)<(bs.length:Int))/\((i:Int)<6))) (csu U) ?_ ?_)));refine mv U (fad U u6j ?_);have a1:=b0.ext (q4.z4 q5 q6 q8 q9);refine z0i U a1 U k0l (lnS U underlying51 (lt' U (mv U (gs 31 U (λg0=>?_) (λg0=>?_)))));exact gY U (mv U (gY U (lt' U (pkt U (rbe U (csu U))))));exact gN U (gN U (pkf U (rbe U (csu U))));refine tn (cd U (λc2=>?_) (λc2=>?_));have i2:=f6 i oo;have i4:=(bs.getD i 0).toNat_lt;refine sk (tn (sq (bl (sr (fad U u6j ?_)))));have a1:=b0.ext (q4.z4 q5 q6 q8 q9);refine z0i U a1 U k0l (mv U ?_);have hs:=f4.ext (q1.z6 q2 q4 q5 q6 q8 q9);refine z1b (0) U hs U u8d z1h (λf7 d5=>?_);refine z1d U (d5 _ hs) na5 (asg U (kpL (ll8 1 2 3 4 5 6 7 8) (csu U) (nn (sq (sq (rbo (r:=61) (L':=ll8 1 2 3 4 5 6 7 8) (((((((bs.getD i 0).toNat:Int) % 8)≠((n:Int) / 2))\/(¬((((((bs.getD i 0).toNat:Int) / 8) % 2)=1)↔(((n:Int) % 2)=0))))\/(6<=((z9p O n).2:Int)))) (csu U) ?_ ?_))))));refine mv U (x1r U U t38 (z6i U (us underlying5) underlying3 (wi6 oo) (mv U (v4f U U (by first|exact IntWalk.i64_quo _ _ oo|rfl) U (ne' U (mv U (gs 48 U (λg1=>?_) (λg1=>?_))))))));exact gN U (gN U (gN U (gN U (gN U (gN U (gN U (gN U (pkt U (mv U (gN U (gN U (pkt U (rbe U (csu U))))))))))))));refine gY U (mv U (gY U (v4f U U t78 U (gY U (x1r U U t38 (gY U (eq' U (gY U (mv U (gY U (x1r U U t38 (gY U (eq' U (gY U (k2t U U underlying4 U (pkf U (mv U (gs 58 U (λg2=>?_) (λg2=>?_)))))))))))))))))));exact gN U (gN U (pkt U (rbe U (csu U))));exact gY U (mv U (gY U (ge' U U (pkf U (rbe U (csu U))))));refine tn (cd U (λc3=>?_) (λc3=>?_));have d7:¬u0k n (z9p O n).2 (O.getD i 0):=by unfold u0k;omega
 exact ex (te (xh (tn (rg (mv U (z0w U (wi6 oo) (asg U (nl (lpE ((i+1)) (csu U) ⟨q9,⟨⟨oo,oo⟩,by rw[<-b5,v5k oo oo d7]⟩⟩ oo)))))))));have d6:u0k n (z9p O n).2 (O.getD i 0):=by unfold u0k;omega
 have d0:z9p O (n+1)=v3o n (O.getD i 0) (z9p O n):=by rw[<-b5,u4f oo oo d6]
 refine sk (tn (sr (mv U ?_)));have I:=I.ext q9;refine z0k U I z5s (z1v (cs:=[_,_,_,_,_,_]) (ev4 U) u0d (z0g U (z0g U (z0g U (z0g U z0r)))) U ?_);refine z1m ([opS 4 1 n]) (ev1 U) U y5b (λh0 j0 f9 e1 a8 k1=>?_);have I:=I.ext a8;have Z:=(((Z.ext q5).fr q6 (by first|exact z9n Z oo|simp[z0u]<;>omega)).fr q8 (by first|exact z9n Z oo|simp[z0u]<;>omega)).ext (q9.n1 a8);have a2:=Z;refine z2e U Z e1.sl y5b (λi7 j1 Z a9 f1=>?_) (hM:=t61) (hb:=t54);have k2:=a9.size;have I:=I.fr a9 (λhk=>a2.neB I dd hk);refine asg U (kpL (ll7 1 2 3 4 5 6 8) (csu U) (nn (sr (mv U (z0w U (wi6 oo) (asg U (nn (sq (sq (rbo (r:=76) (L':=ll6 1 2 3 4 5 6) (((((((bs.getD i 0).toNat:Int) / 16) % 2)=1)/\((((z9p O n).2:Int)+1)<6))) (csu U) ?_ ?_))))))))));refine mv U (v4f U U t78 U (x1r U U t38 (eq' U (mv U (gs 73 U (λg3=>?_) (λg3=>?_))))));exact gY U (mv U (gY U (lt' U (pkt U (rbe U (csu U))))));exact gN U (gN U (pkf U (rbe U (csu U))));refine tn (cd U (λc4=>?_) (λc4=>?_));have D:z9p O (n+1)=((z9p O n).1++[opS 4 1 n]++[opS 6 0 n,opS 5 1 n],(z9p O n).2+2):=by rw[d0];unfold v3o;rw[if_pos oo]
 refine sr (mv U (z0k U I z5s (z1v (cs:=[_,_,_,_,_,_]) (ev4 U) u0d (z0g U (z0g U (z0g U (z0g U z0r)))) U ?_)));refine z0k U I z5s (z1v (cs:=[_,_,_,_,_,_]) (ev4 U) u0d (z0g U (z0g U (z0g U (z0g U z0r)))) U ?_);refine z1m ([opS 6 0 n,opS 5 1 n]) (ev2 U) U y5b (λh2 j2 g4 e2 e5 k4=>?_);have Z:=Z.ext e5;have b4:=Z;refine z2e U Z e2.sl y5b (λi8 j3 Z e6 f2=>?_) (hM:=t61) (hb:=t54);have k5:=e6.size;refine asg U (kpL (ll5 1 2 3 4 5) (csu U) (nn (rg (mv U (z0w U (wi6 oo) (asg U (nl (tn (ex (xo U (te (te (xh (bn' (tn (rg (mv U (z0w U (wi6 oo) (asg U (nl ?_))))))))))))))))))));exact lpE ((n+1,_)) (.c5 U U U U (congrArg (λz=>some (Value.int .i64 z)) (by first|(rw[D];done)|(simp only;rw[D];done)|(rw[D];omega)|(rw[D];simp only;omega)|(simp only;rw[D];omega)|(simp only;rw[D];simp only;omega)))) ⟨((((q4.z5 q5 q6 q8 q9 a8).step a9 (λk hk a5=>absurd (a2.blk k hk).1 oo)).n1 e5).step e6 (λk hk a5=>absurd (b4.blk k hk).1 oo)),⟨sm,by simp only;rw[D];exact Z⟩⟩ sm;have D:z9p O (n+1)=((z9p O n).1++[opS 4 1 n],(z9p O n).2+1):=by rw[d0];unfold v3o;rw[if_neg oo]
 refine sk (tn (ex (xo U (te (te (xh (bn' (tn (rg (mv U (z0w U (wi6 oo) (asg U (nl ?_)))))))))))));exact lpE ((n+1,_)) (.c5 U U U U (congrArg (λz=>some (Value.int .i64 z)) (by first|(rw[D];done)|(simp only;rw[D];done)|(rw[D];omega)|(rw[D];simp only;omega)|(simp only;rw[D];omega)|(simp only;rw[D];simp only;omega)))) ⟨((q4.z5 q5 q6 q8 q9 a8).step a9 (λk hk a5=>absurd (a2.blk k hk).1 oo)),⟨sm,by simp only;rw[D];exact Z⟩⟩ sm;have D:z9p O (n+1)=(z9p O n):=by rw[<-b5,u3i oo]
 refine ex (te (te (xh (bn' (tn (rg (mv U (z0w U (wi6 oo) (asg U (nl ?_))))))))));have Z:=(((Z.ext q5).fr q6 (by first|exact z9n Z oo|simp[z0u]<;>omega)).fr q8 (by first|exact z9n Z oo|simp[z0u]<;>omega)).ext q9;exact lpE ((n+1,_)) (.c5 U U U U (congrArg (λz=>some (Value.int .i64 z)) (by first|(rw[D];done)|(simp only;rw[D];done)|(rw[D];omega)|(rw[D];simp only;omega)|(simp only;rw[D];omega)|(simp only;rw[D];simp only;omega)))) ⟨(q4.z4 q5 q6 q8 q9),⟨sm,by simp only;rw[D];exact Z⟩⟩ sm;obtain rfl:n=16:=by omega
 refine ex (te (te (xh (tn (sr (cl z0f (mkC func8) (v1w _) U ?_))))));rintro _ j4 ⟨⟨gy,gt,rfl,c9⟩,q14⟩;have k6:=q14.size;have a3:=c9.k;clear c9;refine mv U (z1v (cs:=[_,_,_,_,_,_]) (ev2 U) u0d (z0g U (z0g U z0r)) U ?_);refine z1m ([⟨2,0,0,0,1,0⟩]) (ev1 U) U y5b (λh3 j5 g5 e3 a6 k7=>?_);have a3:=a3.ext a6;have Z:=Z.ext (q14.n1 a6);have a0:=Z;refine z2e U Z e3.sl y5b (λi9 j6 Z a7 f3=>?_) (hM:=t61) (hb:=t54);have k8:=a7.size;have a3:=a3.fr a7 (λk_ e9 _=>by obtain⟨g7,f0⟩:=z7q a0 k_ e9;exact⟨_,_,f0,dd⟩);have e4:(j4t O).length=(z9p O 16).1.length+1:=by unfold j4t;rw[l13];rfl
 have b2:=d1.ext ((q1.n4 q2 q4 q14 a6).step a7 (λk hk a5=>absurd (a0.blk k hk).1 oo));refine cl (ev2 U) (mkC func7) (x7v _ (j4t O) _ a3.at (stp0 gy gt) (by rw[e4];omega) Z.sl b2) U ?_;rintro _ j7 ⟨⟨s5,rfl,b9,d3,i5⟩,q17⟩;have k9:=q17.size;have b1:=b9.k;clear b9;refine mv U (xt U (xt U (xt U (al y8y U (λg9 j8 h8 b3 b7 l0=>?_)))));refine z0j (vs:=[_,_,_,_,_,_,_,_]) U b3 z9q (λj9 b3 b8 l1=>?_) (h1:=t36);refine asg U (asg U (kpL (ll2 2 9) (csu U) (nn (sr (z0k U b3 z8a ?_)))));have a4:=d4.ext (((q4.n2 q14 a6).step a7 (λk hk a5=>absurd (a0.blk k hk).1 oo)).z3 q17 b7 b8);refine z0j (vs:=[_,_,_,_,_,_,_,_]) U a4 z9q (λk0 a4 e7 l2=>?_) (h1:=t36);refine nn (rt (rC results10 U a4 z8a  ?_));have b1:=((b1.ext b7).fr b8 t32).fr e7 t32;exact⟨_,rfl,⟨s5,rfl,b1,λq hq=>by rw[nrm0]at d3;exact(d3 q hq).mono (by rw[e4];omega)⟩,(((q1.n4 q2 q4 q14 a6).step a7 (λk hk a5=>absurd (a0.blk k hk).1 oo)).z4 q17 b7 b8 e7)⟩
end Go.Proofs.YtlfdhllfmoplgaaGreatDoor
namespace Go.G26
open Go.Lw Go.G21 Go.G08
def exP:List (List MOp):=[[xfP 0 10,rkP 1,rkP 0,xfP 1 10],[xfP 0 10,rkP 2,xfP 1 10,rkP 0],[xfP 0 10,rkP 3,xfP 1 10,rkP 0],[xfP 0 11,rkP (-1),xfP 1 11,rkP 0],[xfP 0 11,rkP (-1),rkP 0,xfP 1 11]]
def exW:List (List Int):=[[],[-1],[-1,-2],[1],[1,-1]]
def xa:LId:=⟨1,0⟩
def xb:LId:=⟨1,1⟩
def xc:LId:=⟨1,2⟩
def exH:List (List LId):=[[xa,xb,xc],[xb,xa,xc],[xb,xc,xa],[xb,xa,xc],[xa,xb,xc]]
def exA (p:MSt)(i:Nat):Bool:=match z5m (nrm p) (exP.getD i []) with
  | .error _=>false
  | .ok (w,q)=>decide (w=exW.getD i []/\z5e q=exH.getD i []/\(i=1->q.B.at 0 12=[xa,xc])/\(i=3->q.B.at 0 10=[xb,xa]))
def j4z (p:MSt)(l:List MOp):Int:=match z5m p l with
  | .error e=>e
  | .ok _=>0
def exB:Bool:=match z3x 0 G08.start exO with
  | .error _=>false
  | .ok p=>decide (z5e p=[xa,xb,xc]) && exA p 0 && exA p 1 && exA p 2 && exA p 3 && exA p 4 && decide (j4z (nrm p) [rkP 5]=1) && decide (j4z (nrm p) [xfP 0 13]=13)
theorem ex_b:exB=true:=by decide +kernel
theorem j9k:∃p,z3x 0 G08.start exO=.ok p/\z5e p=[xa,xb,xc]/\j4z (nrm p) [rkP 5]=1/\j4z (nrm p) [xfP 0 13]=13/\
    ∀i,i<5->∃q,z5m (nrm p) (exP.getD i [])=.ok (exW.getD i [],q)/\z5e q=exH.getD i []/\(i=1->q.B.at 0 12=[xa,xc])/\(i=3->q.B.at 0 10=[xb,xa]):=by
  have h:=ex_b
  unfold exB at h
  split at h
  · cases h
  · rename_i p Z
    simp only[l121,decide_eq_true_eq]at h
    obtain⟨⟨⟨⟨⟨⟨⟨D,h2⟩,h3⟩,h4⟩,h5⟩,h6⟩,I⟩,O⟩:=h
    refine⟨p,Z,D,I,O,λi hi=>?_⟩
    have k:exA p i=true:=by
      rcases(show i=0\/i=1\/i=2\/i=3\/i=4 by omega) with rfl|rfl|rfl|rfl|rfl<;>assumption
    unfold exA at k
    split at k
    · cases k
    · rename_i w q hq
      obtain⟨k1,k2,k3,k4⟩:=of_decide_eq_true k
      exact⟨q,by rw[hq,k1],k2,k3,k4⟩
def exT:List (List (List UInt8)):=[[[120,102,101,114,32,102,49,48],[114,97,99,107,32,49],[114,97,99,107,32,48],[120,102,101,114,32,98,49,48]],[[120,102,101,114,32,102,49,48],[114,97,99,107,32,50],[120,102,101,114,32,98,49,48],[114,97,99,107,32,48]],[[120,102,101,114,32,102,49,48],[114,97,99,107,32,51],[120,102,101,114,32,98,49,48],[114,97,99,107,32,48]],[[120,102,101,114,32,102,49,49],[114,97,99,107,32,45,49],[120,102,101,114,32,98,49,49],[114,97,99,107,32,48]],[[120,102,101,114,32,102,49,49],[114,97,99,107,32,45,49],[114,97,99,107,32,48],[120,102,101,114,32,98,49,49]]]
theorem j8h:∀i,i<5->(exT.getD i []).length=4/\(exP.getD i []).length=4/\∀k,k<4->y8v ((exT.getD i []).getD k [])=((exP.getD i []).getD k op0,0)/\((exT.getD i []).getD k []).length<=100:=by decide +kernel
theorem j6g:∀i,i<5->(exW.getD i []).length<=2:=dd
theorem u6g:y8v [120,102,101,114,32,102,49,51]=(xfP 0 13,0):=by decide +kernel
theorem y2x {p:MSt}{l:List MOp}{e:Int}(h:j4z p l=e)(D:e≠0):z5m p l=.error e:=by
 unfold j4z at h;split at h;rename_i x I;rw[I,h];exact absurd h.symm D
abbrev SQ (α:Type):=SV×List α
def k0i (α:Type):Enc (SQ α):=⟨λp=>[.slice p.1.1 p.1.2.1 p.1.2.2],1,λ_=>rfl,λ_ u h=>by simp at h;subst h;rfl,dd⟩
abbrev j7r:=k0i Int
abbrev k2d:=k0i (List UInt8)
abbrev sqi:SQ Int:=(sv0,[])
abbrev sqs:SQ (List UInt8):=(sv0,[])
def QAt {α:Type}(E:Enc α)(w:World)(l:List (SQ α)):Prop:=∀q∈l,Sl E w (slv q.1) q.2
theorem QAt.ext {α:Type}{E:Enc α}{w w':World}{l:List (SQ α)}(h:QAt E w l)(hf:Fr [] w w'):QAt E w' l:=λq D=>(h q D).ext hf
theorem QAt.get {α:Type}{E:Enc α}{w:World}{l:List (SQ α)}{d:SQ α}(h:QAt E w l){i:Nat}(hi:i<l.length):Sl E w (slv (l.getD i d).1) (l.getD i d).2:=h _ (z1a hi)
theorem QAt.five {α:Type}{E:Enc α}{w:World}{a b c d e:SQ α}(h1:Sl E w (slv a.1) a.2)(I:Sl E w (slv b.1) b.2)(O:Sl E w (slv c.1) c.2)(Z:Sl E w (slv d.1) d.2)(h5:Sl E w (slv e.1) e.2):QAt E w [a,b,c,d,e]:=λq D=>by
 simp only[l66,List.not_mem_nil,or_false]at D
 rcases D with rfl|rfl|rfl|rfl|rfl<;>assumption
end Go.G26
namespace Go.Proofs.YtlfdhllfmoplgaaGreatDoor
open Go.Lw Go.G21 Go.G08 Go.G09 Go.G26 _root_.Go.Proofs.Tryz
theorem x6i (l:List UInt8)(o:MOp)(e:Int)(w0:World)(hG:Glob w0)(h:y8v l=(o,e))(hl:l.length<=1000):Rets prog 31 #[S l] w0 λr w'=>r=opV o/\Fr [] w0 w':=by
 have a0:=hG.sz;refine we [(0,S l)] func31 U ntmps31 U (.cons U .nil) ?_;have O:=hG;refine sr (al u0o U (λg2 w1 a1 D q1 z1=>(nn (sr (mv U ?_)))));have hG:=O.ext q1;refine cl (ev1 U) (mkC func81) (u3o l _ hG oo) U ?_;rintro _ w2 ⟨o',e',Z,rfl,q2⟩;have z2:=q2.size;cases Z.symm.trans h;refine mv U (xt U (xt U (al u0o U (λg3 w3 a2 I q3 z3=>(z0j (vs:=[_,_,_,_,_,_]) U I v2o (λw4 I q4 z4=>(asg U (kpL (ll2 2 3) (csu U) (nn (sr (z0k U I y2s ?_)))))))))));have D:=(D.ext (q2.n1 q3)).fr q4;exact z0j (vs:=[_,_,_,_,_,_]) U D v2o (λw5 D q5 z5=>(nn (rt (rC results31 U D y2s  ⟨_,rfl,rfl,(q1.z4 q2 q3 q4 q5)⟩))))
theorem x4g (v1 v2:Value)(Z l2:List Int)(w0:World)(h1:Sl Enc.i64 w0 v1 Z)(h2:Sl Enc.i64 w0 v2 l2)(hl:Z.length<=100000):Rets prog 14 #[v1,v2] w0 λr w'=>r=.bool (decide (Z=l2))/\Fr [] w0 w':=by
 obtain⟨A1,k1,rfl,a6⟩:=id h1.form;obtain⟨A2,k2,rfl,a7⟩:=id h2.form;refine we [(0,.slice A1 Z.length k1),(1,.slice A2 l2.length k2)] func14 U ntmps14 U (.c2 U U) ?_;have a2:=h1;have a3:=h2;refine sr (asg U (nn (sq (sr (mv U (lnS U underlying22 (mv U (lnS U underlying22 (ne' U (nn (cd U (λc0=>?_) (λc0=>?_))))))))))));refine sr (asg U (nn (rt (tr (r1 results14 U ?_)))));exact⟨_,rfl,congrArg Value.bool (decide_eq_false (λe=>c0 (by rw[e]))).symm,(l12 _ _)⟩;refine sk (tn (sq (sr (asg U (nn (bl (lpK (ι:=Nat) (ll2 0 1) (λi=>[(5,.int .i64 (i:Int))]) (λi w'=>Fr [] w0 w'/\i<=Z.length/\∀j,j<i->Z.getD j 0=l2.getD j 0) (λi=>Z.length-i) 0 (csu U) ⟨l12 _ _,⟨l15 _,λj h=>absurd h oo⟩⟩ ?_)))))));rintro i w1 ⟨q1,⟨hi,hz⟩⟩;refine kpC (ll3 0 1 5) (csu U) (sq (sr (mv U (mv U (lnS U underlying22 (lt' U (nn (cd U (λc1=>?_) (λc1=>?_)))))))));refine sk (tn (sq (bl (sq ?_))));have h1:=a2.ext q1;have h2:=a3.ext q1;intro a h;have D:=l12 [] w1;refine z2w (λwb w'=>Fr [] wb w') z2o ?_;intro w2 hq;have h1:=h1.ext hq;have h2:=h2.ext hq;have D:=D.next hq;have a8:=hq.size;clear hq;have hC:Fr [] w2 w2:=l12 _ _;have I:=h1;have O:=h2;refine z0d 0 h U λa h=>z0d 1 h U λa h=>z0z (0) 2 h U h1 U z4w U ?_ (hp:=rfl);clear h a;intro a4 a0 a h;refine z2b 3 h wn U (λ_ hw=>a0 _ (I.ext hw)) na3 U λa h=>z0d 4 h U λa h=>z0d 5 h U λa h=>z0z (0) 6 h U h2 U z4w U ?_ (hp:=rfl);clear h a;intro a5 a1 a h;refine z2b 7 h wn U (λ_ hw=>a1 _ (O.ext hw)) na3 U λa h=>v2x 8 hC h wn U U λa h=>z0o ?_;clear hC I O;refine bk (h.sub (L':=ll4 0 1 5 25) (csu U)) (tn (cd U (λc2=>?_) (λc2=>?_)));refine sr (asg U (nn (rt (rb (tr (tr (rb (tr (r1 results14 U ?_)))))))));exact⟨_,rfl,congrArg Value.bool (decide_eq_false (λe=>c2 (by rw[e]))).symm,(q1.n1 D)⟩;refine sk (bn' (tn (rg (mv U (z0w U (wi6 oo) (asg U (nl ?_)))))));exact lpE (i+1) (csu U) ⟨(q1.n1 D),⟨oo,λj h=>by
  by_cases e:j=i;subst e;exact l16.1 c2;exact hz j oo⟩⟩ oo
 obtain rfl:i=Z.length:=by omega
 refine ex (te (te (xh (tn (sr (asg U (nn (rt (r1 results14 U ?_)))))))));exact⟨_,rfl,congrArg Value.bool (decide_eq_true (y6m 0 oo (λj hj=>hz j oo))).symm,q1⟩
theorem z9r (v1 v2:Value)(Z l2:List LId)(w0:World)(h1:Sl z1g w0 v1 Z)(h2:Sl z1g w0 v2 l2)(hl:Z.length<=100000):Rets prog 32 #[v1,v2] w0 λr w'=>r=.bool (decide (Z=l2))/\Fr [] w0 w':=by
 obtain⟨A1,k1,rfl,a6⟩:=id h1.form;obtain⟨A2,k2,rfl,a7⟩:=id h2.form;refine we [(0,.slice A1 Z.length k1),(1,.slice A2 l2.length k2)] func32 U ntmps32 U (.c2 U U) ?_;have a2:=h1;have a3:=h2;refine sr (asg U (nn (sq (sr (mv U (lnS U underlying30 (mv U (lnS U underlying30 (ne' U (nn (cd U (λc0=>?_) (λc0=>?_))))))))))));refine sr (asg U (nn (rt (tr (r1 results32 U ?_)))));exact⟨_,rfl,congrArg Value.bool (decide_eq_false (λe=>c0 (by rw[e]))).symm,(l12 _ _)⟩;refine sk (tn (sq (sr (asg U (nn (bl (lpK (ι:=Nat) (ll2 0 1) (λi=>[(5,.int .i64 (i:Int))]) (λi w'=>Fr [] w0 w'/\i<=Z.length/\∀j,j<i->Z.getD j id0=l2.getD j id0) (λi=>Z.length-i) 0 (csu U) ⟨l12 _ _,⟨l15 _,λj h=>absurd h oo⟩⟩ ?_)))))));rintro i w1 ⟨q1,⟨hi,hz⟩⟩;refine kpC (ll3 0 1 5) (csu U) (sq (sr (mv U (mv U (lnS U underlying30 (lt' U (nn (cd U (λc1=>?_) (λc1=>?_)))))))));refine sk (tn (sq (bl (sq ?_))));have h1:=a2.ext q1;have h2:=a3.ext q1;intro a h;have D:=l12 [] w1;refine z2w (λwb w'=>Fr [] wb w') z2o ?_;intro w2 hq;have h1:=h1.ext hq;have h2:=h2.ext hq;have D:=D.next hq;have a8:=hq.size;clear hq;have hC:Fr [] w2 w2:=l12 _ _;have I:=h1;have O:=h2;refine z0d 0 h U λa h=>z0d 1 h U λa h=>z0z (id0) 2 h U h1 U z3k U ?_ (hp:=rfl);clear h a;intro a4 a0 a h;refine z1o 3 h wn U (λ_ hw=>a0 _ (I.ext hw)) z2h U λa h=>z0d 4 h U λa h=>z0d 5 h U λa h=>z0z (id0) 6 h U h2 U z3k U ?_ (hp:=rfl);clear h a;intro a5 a1 a h;refine z1o 7 h wn U (λ_ hw=>a1 _ (O.ext hw)) z2h U λa h=>x3a (V:=idV) (e:=_) (f:=_) 8 hC h wn U U j2a U U λa h=>z0o ?_;clear hC I O;refine bk (h.sub (L':=ll4 0 1 5 25) (csu U)) (tn (cd U (λc2=>?_) (λc2=>?_)));refine sr (asg U (nn (rt (rb (tr (tr (rb (tr (r1 results32 U ?_)))))))));exact⟨_,rfl,congrArg Value.bool (decide_eq_false (λe=>c2 (by rw[e]))).symm,(q1.n1 D)⟩;refine sk (bn' (tn (rg (mv U (z0w U (wi6 oo) (asg U (nl ?_)))))));exact lpE (i+1) (csu U) ⟨(q1.n1 D),⟨oo,λj h=>by
  by_cases e:j=i;subst e;exact l16.1 c2;exact hz j oo⟩⟩ oo
 obtain rfl:i=Z.length:=by omega
 refine ex (te (te (xh (tn (sr (asg U (nn (rt (r1 results32 U ?_)))))))));exact⟨_,rfl,congrArg Value.bool (decide_eq_true (y6m id0 oo (λj hj=>hz j oo))).symm,q1⟩
theorem bo53:BuildAt prog 53 [(0,1),(1,1)] [(.slice none 0 0),(.slice none 0 0)]:=BuildAt.struct underlying53 (λ_=>kr) (λ_=>kr)
theorem co6:CallOf prog 6:=mkC func6
theorem j6x:CallOf prog 32:=mkC func32
theorem k0z:ElemOf prog 60 22 j7r 24:=ElemOf.mk' (z:=(.slice none 0 0)) underlying60 kr U
theorem k0h:ElemOf prog 89 88 k2d 24:=ElemOf.mk' (z:=(.slice none 0 0)) underlying89 kr U
theorem na88:z2a prog 88:=λ_=>kr
set_option maxRecDepth 10000 in
theorem y3t (w0:World)(hG:Glob w0)(a4:StT w0):Rets prog 9 #[] w0 λr w'=>r=.bool true/\Fr [] w0 w':=by
 have R6:=hG.sz;refine we [] func9 U ntmps9 U .nil ?_;have r5:=hG;have i3:=a4;refine sr (asg U (nn (sr (z1m ([0,1,2]) (ev3 U) U u8d (λR2 w1 D5 G0 q1 z1=>?_)))));refine z1v (cs:=[_,_]) (ev1 U) bo53 (z0g U z0r) U ?_;have a4:=i3.ext q1;refine cl (ev1 U) (mkC func10) (y8d _ _ [0,1,2] none 0 0 _ G0.sl a4) U ?_;rintro _ w2 ⟨⟨s,rfl,C4,I4⟩,q2⟩;have a3:=C4.at;clear C4;have z2:=q2.size;have i2:=a3;obtain⟨p,hp,J4,I8,l3,I9⟩:=j9k;have hP:=I4 p (by rw[show (([0,1,2]:List UInt8).map λb=>(b.toNat:Int))=[0,1,2] from by decide,j9n];exact hp);have hh:s.fb.hs=[xa,xb,xc]:=hP.hsE.trans J4;have T9:s.fb.h.2.1=3:=by rw[z1x a3.f.h,hh];rfl
 have Q0:s.fb.hs.length=3:=by rw[hh];rfl
 have k4:(s.fb.hs.getD 0 id0)=xa:=by rw[hh];rfl
 have x4:(s.fb.hs.getD 1 id0)=xb:=by rw[hh];rfl
 have m9:(s.fb.hs.getD 2 id0)=xc:=by rw[hh];rfl
 refine al y8y U (λg1 w3 J0 d1 q3 z3=>?_);refine z0j (vs:=[_,_,_,_,_,_,_,_]) U d1 z9q (λw4 d1 q4 z4=>?_) (h1:=t40);have j8:=d1;refine nn (sq (sr (fad U z3r (y2r U z4z (z0i U d1 U z4s (lnS U underlying30 (ne' U (nn (cd U (λc0=>?_) (λc0=>?_))))))))));exfalso;omega;refine sk (tn (jn (ι:=Nat×Nat×Nat) (ll1 1) (λz_=>[(2,pta z_.1),(3,pta z_.2.1),(4,pta z_.2.2)]) (λz_ w'=>Fr [] w4 w'/\Blk w' z_.1 64 [.int .u8 (s.fb.hs.getD 0 id0).y,.int .i64 (s.fb.hs.getD 0 id0).n]/\Blk w' z_.2.1 64 [.int .u8 (s.fb.hs.getD 1 id0).y,.int .i64 (s.fb.hs.getD 1 id0).n]/\Blk w' z_.2.2 64 [.int .u8 (s.fb.hs.getD 2 id0).y,.int .i64 (s.fb.hs.getD 2 id0).n]) (csu U) ?_ ?_));have a3:=i2.ext (q3.z1 q4);intro a h;refine z0h none (λwb w'=>Fr [] wb w') z2o ?_;intro w5 q5;have z5:=q5.size;have a3:=a3.ext q5;have d1:=d1.ext q5;have hC:Fr [] w5 w5:=l12 _ _;have b6:=a3;have b2:=d1;refine y1y (ι:=Nat×Nat×Nat) h (ll2 1 27) (csu U) #[true,true,true,true,true,true,true,true,true,true,true,true,true,true,true,true,true,true,false,false,false] 3 (λp_=>[(2,pta p_.1),(3,pta p_.2.1),(4,pta p_.2.2),(32,ivv (s.fb.hs.getD 0 id0)),(37,ivv (s.fb.hs.getD 1 id0)),(42,ivv (s.fb.hs.getD 2 id0))]) (λp_ w'=>Fr [] w5 w'/\(w5.heap.size<=p_.1/\w5.heap.size<=p_.2.1/\w5.heap.size<=p_.2.2/\p_.1≠p_.2.1/\p_.1≠p_.2.2/\p_.2.1≠p_.2.2)/\Blk w' p_.1 64 [.int .u8 0,.int .i64 0]/\Blk w' p_.2.1 64 [.int .u8 0,.int .i64 0]/\Blk w' p_.2.2 64 [.int .u8 0,.int .i64 0]) (λe6=>?_) ?_;refine z0c 0 h U z3r U λa h=>z3w 1 h wn U z4z U λa h=>z0m 2 h U (λ_ hw=>b2.ext hw) U z4s U λa h=>z0z (p:=0) (id0) 3 h U a3.f.h U z3k U ?_ (hp:=rfl);clear h a;intro P0 C8 a h;refine z1o 4 h wn U (λ_ hw=>C8 _ (b6.f.h.ext hw)) z2h U λa h=>z0c 5 h U z3r U λa h=>z3w 6 h wn U z4z U λa h=>z0m 7 h U (λ_ hw=>b2.ext hw) U z4s U λa h=>z0z (p:=1) (id0) 8 h U a3.f.h U z3k U ?_ (hp:=rfl);clear h a;intro P1 C9 a h;refine z1o 9 h wn U (λ_ hw=>C9 _ (b6.f.h.ext hw)) z2h U λa h=>z0c 10 h U z3r U λa h=>z3w 11 h wn U z4z U λa h=>z0m 12 h U (λ_ hw=>b2.ext hw) U z4s U λa h=>z0z (p:=2) (id0) 13 h U a3.f.h U z3k U ?_ (hp:=rfl);clear h a;intro P2 D0 a h;refine z1o 14 h wn U (λ_ hw=>D0 _ (b6.f.h.ext hw)) z2h U λa h=>x1w 15 16 17 kr U U U ?_ ?_ ?_;refine z0y h z9f U λw6 I q6 hz a h=>?_;obtain⟨a8,hg⟩:∃g,g=w5.heap.size:=⟨_,rfl⟩;rw[<-hg]at I h hz;have z6:=q6.size;have hC:=hC.next q6;refine z0b (z1w 16 17 kr U ?_ ?_);refine z0y h z9f U λw7 O q7 hz a h=>?_;obtain⟨a9,hg⟩:∃g,g=w6.heap.size:=⟨_,rfl⟩;rw[<-hg]at O h hz;have i7:a8<a9:=by have:=I.lt;omega
 have z7:=q7.size;have I:=I.ext q7;have hC:=hC.next q7;refine z0b (z0e 17 U (z0y h z9f U λw8 Z q8 hz a h=>?_));obtain⟨b0,hg⟩:∃g,g=w7.heap.size:=⟨_,rfl⟩;rw[<-hg]at Z h hz;have i8:a8<b0:=by have:=I.lt;omega
 have j0:a9<b0:=by have:=O.lt;omega
 have z8:=q8.size;have I:=I.ext q8;have O:=O.ext q8;have hC:=hC.next q8;exact z0b (e6 (a8,a9,b0) _ _ _ kr (h.sub (csu U)) ⟨hC,⟨sm,sm,sm,sm,sm,sm⟩,I,O,Z⟩);refine z0y h z9f U λw9 Z q9 hz a h=>?_;obtain⟨b0,hg⟩:∃g,g=w6.heap.size:=⟨_,rfl⟩;rw[<-hg]at Z h hz;have i8:a8<b0:=by have:=I.lt;omega
 have z9:=q9.size;have I:=I.ext q9;have hC:=hC.next q9;refine z0b (z0e 16 U (z0y h z9f U λU3 O r8 hz a h=>?_));obtain⟨a9,hg⟩:∃g,g=w9.heap.size:=⟨_,rfl⟩;rw[<-hg]at O h hz;have i7:a8<a9:=by have:=I.lt;omega
 have j2:b0<a9:=by have:=Z.lt;omega
 have L6:=r8.size;have I:=I.ext r8;have Z:=Z.ext r8;have hC:=hC.next r8;exact z0b (e6 (a8,a9,b0) _ _ _ kr (h.sub (csu U)) ⟨hC,⟨sm,sm,sm,sm,sm,sm⟩,I,O,Z⟩);refine z0y h z9f U λH3 O G5 hz a h=>?_;obtain⟨a9,hg⟩:∃g,g=w5.heap.size:=⟨_,rfl⟩;rw[<-hg]at O h hz;have L7:=G5.size;have hC:=hC.next G5;refine z0b (z1w 15 17 kr U ?_ ?_);refine z0y h z9f U λJ9 I y3 hz a h=>?_;obtain⟨a8,hg⟩:∃g,g=H3.heap.size:=⟨_,rfl⟩;rw[<-hg]at I h hz;have i9:a9<a8:=by have:=O.lt;omega
 have L8:=y3.size;have O:=O.ext y3;have hC:=hC.next y3;refine z0b (z0e 17 U (z0y h z9f U λU4 Z r9 hz a h=>?_));obtain⟨b0,hg⟩:∃g,g=J9.heap.size:=⟨_,rfl⟩;rw[<-hg]at Z h hz;have j0:a9<b0:=by have:=O.lt;omega
 have i8:a8<b0:=by have:=I.lt;omega
 have L9:=r9.size;have O:=O.ext r9;have I:=I.ext r9;have hC:=hC.next r9;exact z0b (e6 (a8,a9,b0) _ _ _ kr (h.sub (csu U)) ⟨hC,⟨sm,sm,sm,sm,sm,sm⟩,I,O,Z⟩);refine z0y h z9f U λK0 Z y4 hz a h=>?_;obtain⟨b0,hg⟩:∃g,g=H3.heap.size:=⟨_,rfl⟩;rw[<-hg]at Z h hz;have j0:a9<b0:=by have:=O.lt;omega
 have M0:=y4.size;have O:=O.ext y4;have hC:=hC.next y4;refine z0b (z0e 15 U (z0y h z9f U λU5 I s1 hz a h=>?_));obtain⟨a8,hg⟩:∃g,g=K0.heap.size:=⟨_,rfl⟩;rw[<-hg]at I h hz;have i9:a9<a8:=by have:=O.lt;omega
 have j1:b0<a8:=by have:=Z.lt;omega
 have M1:=s1.size;have O:=O.ext s1;have Z:=Z.ext s1;have hC:=hC.next s1;exact z0b (e6 (a8,a9,b0) _ _ _ kr (h.sub (csu U)) ⟨hC,⟨sm,sm,sm,sm,sm,sm⟩,I,O,Z⟩);refine z0y h z9f U λH4 Z G6 hz a h=>?_;obtain⟨b0,hg⟩:∃g,g=w5.heap.size:=⟨_,rfl⟩;rw[<-hg]at Z h hz;have M2:=G6.size;have hC:=hC.next G6;refine z0b (z1w 15 16 kr U ?_ ?_);refine z0y h z9f U λK1 I y5 hz a h=>?_;obtain⟨a8,hg⟩:∃g,g=H4.heap.size:=⟨_,rfl⟩;rw[<-hg]at I h hz;have j1:b0<a8:=by have:=Z.lt;omega
 have M3:=y5.size;have Z:=Z.ext y5;have hC:=hC.next y5;refine z0b (z0e 16 U (z0y h z9f U λU6 O s2 hz a h=>?_));obtain⟨a9,hg⟩:∃g,g=K1.heap.size:=⟨_,rfl⟩;rw[<-hg]at O h hz;have j2:b0<a9:=by have:=Z.lt;omega
 have i7:a8<a9:=by have:=I.lt;omega
 have M4:=s2.size;have Z:=Z.ext s2;have I:=I.ext s2;have hC:=hC.next s2;exact z0b (e6 (a8,a9,b0) _ _ _ kr (h.sub (csu U)) ⟨hC,⟨sm,sm,sm,sm,sm,sm⟩,I,O,Z⟩);refine z0y h z9f U λK2 O y6 hz a h=>?_;obtain⟨a9,hg⟩:∃g,g=H4.heap.size:=⟨_,rfl⟩;rw[<-hg]at O h hz;have j2:b0<a9:=by have:=Z.lt;omega
 have M5:=y6.size;have Z:=Z.ext y6;have hC:=hC.next y6;refine z0b (z0e 15 U (z0y h z9f U λU7 I s3 hz a h=>?_));obtain⟨a8,hg⟩:∃g,g=K2.heap.size:=⟨_,rfl⟩;rw[<-hg]at I h hz;have j1:b0<a8:=by have:=Z.lt;omega
 have i9:a9<a8:=by have:=O.lt;omega
 have M6:=s3.size;have Z:=Z.ext s3;have O:=O.ext s3;have hC:=hC.next s3;exact z0b (e6 (a8,a9,b0) _ _ _ kr (h.sub (csu U)) ⟨hC,⟨sm,sm,sm,sm,sm,sm⟩,I,O,Z⟩);rintro⟨a8,a9,b0⟩ a U8 ⟨hC,⟨J6,J7,J8,G2,G3,G4⟩,I,O,Z⟩ h;simp only at J6 J7 J8 G2 G3 G4 I O Z;have G7:=hC;have M7:=G7.size;have R9:=I.lt;have S0:=O.lt;have S7:=Z.lt;refine z0e 18 U (z0t h U I U z8r ?_ (h1:=t40));clear h a;intro K3 b3 p3 hz a h;have M8:=p3.size;have O:=O.fr p3;have Z:=Z.fr p3;have hC:=hC.sp p3;clear I hz;have I:Blk K3 a8 _ [_,_]:=b3;clear b3;refine z0b (z0e 19 U (z0t h U O U z8r ?_ (h1:=t40)));clear h a;intro K4 b3 p4 hz a h;have M9:=p4.size;have I:=I.fr p4;have Z:=Z.fr p4;have hC:=hC.sp p4;clear O hz;have O:Blk K4 a9 _ [_,_]:=b3;clear b3;refine z0b (z0e 20 U (z0t h U Z U z8r ?_ (h1:=t40)));clear h a;intro K5 b3 p5 hz a h;have N0:=p5.size;have I:=I.fr p5;have O:=O.fr p5;have hC:=hC.sp p5;clear Z hz;have Z:Blk K5 b0 _ [_,_]:=b3;clear b3;refine z0b (z0o ?_);clear hC b6 b2;exact bk (h.sub (L':=ll4 1 2 3 4) (csu U)) (jE ((a8,a9,b0)) (csu U) ⟨(q5.z4 G7 p3 p4 p5),⟨I,O,Z⟩⟩);rintro⟨g2,g3,g4⟩ U9 ⟨l5,⟨I,O,Z⟩⟩;have N1:=l5.size;have H9:=I.lt;have I0:=O.lt;have I1:=Z.lt;simp only at I O Z;refine kpC [(1,_),(2,pta g2),(3,pta g3),(4,pta g4)] (csu U) (sr (z1m ([[120,102,101,114,32,102,49,48],[114,97,99,107,32,49],[114,97,99,107,32,48],[120,102,101,114,32,98,49,48]]) (ev4 U) U y4m (λA7 V0 D6 n7 j9 N2=>(z1m ([[120,102,101,114,32,102,49,48],[114,97,99,107,32,50],[120,102,101,114,32,98,49,48],[114,97,99,107,32,48]]) (ev4 U) U y4m (λA8 V1 D7 n8 j3 N3=>(z1m ([[120,102,101,114,32,102,49,48],[114,97,99,107,32,51],[120,102,101,114,32,98,49,48],[114,97,99,107,32,48]]) (ev4 U) U y4m (λB0 V2 D8 n9 h8 N4=>(z1m ([[120,102,101,114,32,102,49,49],[114,97,99,107,32,45,49],[120,102,101,114,32,98,49,49],[114,97,99,107,32,48]]) (ev4 U) U y4m (λB1 V3 D9 o0 h0 N5=>(z1m ([[120,102,101,114,32,102,49,49],[114,97,99,107,32,45,49],[114,97,99,107,32,48],[120,102,101,114,32,98,49,49]]) (ev4 U) U y4m (λB2 V4 E0 o1 f4 N6=>?_)))))))))));refine z1m ([((some ⟨A7,0,none⟩,4,4),[[120,102,101,114,32,102,49,48],[114,97,99,107,32,49],[114,97,99,107,32,48],[120,102,101,114,32,98,49,48]]),((some ⟨A8,0,none⟩,4,4),[[120,102,101,114,32,102,49,48],[114,97,99,107,32,50],[120,102,101,114,32,98,49,48],[114,97,99,107,32,48]]),((some ⟨B0,0,none⟩,4,4),[[120,102,101,114,32,102,49,48],[114,97,99,107,32,51],[120,102,101,114,32,98,49,48],[114,97,99,107,32,48]]),((some ⟨B1,0,none⟩,4,4),[[120,102,101,114,32,102,49,49],[114,97,99,107,32,45,49],[120,102,101,114,32,98,49,49],[114,97,99,107,32,48]]),((some ⟨B2,0,none⟩,4,4),[[120,102,101,114,32,102,49,49],[114,97,99,107,32,45,49],[114,97,99,107,32,48],[120,102,101,114,32,98,49,49]])]) (z0a U (z0a U (z0a U (z0a U (z0a U z0f))))) U k0h (λR3 K6 E1 u3 e9 N7=>(asg U ?_));have n7:=n7.ext (j3.n4 h8 h0 f4 e9);have n8:=n8.ext (h8.n3 h0 f4 e9);have n9:=n9.ext (h0.n2 f4 e9);have o0:=o0.ext (f4.n1 e9);have o1:=o1.ext e9;obtain⟨m1,l0⟩:∃L:List (SQ (List UInt8)),L=[((some ⟨A7,0,none⟩,4,4),[[120,102,101,114,32,102,49,48],[114,97,99,107,32,49],[114,97,99,107,32,48],[120,102,101,114,32,98,49,48]]),((some ⟨A8,0,none⟩,4,4),[[120,102,101,114,32,102,49,48],[114,97,99,107,32,50],[120,102,101,114,32,98,49,48],[114,97,99,107,32,48]]),((some ⟨B0,0,none⟩,4,4),[[120,102,101,114,32,102,49,48],[114,97,99,107,32,51],[120,102,101,114,32,98,49,48],[114,97,99,107,32,48]]),((some ⟨B1,0,none⟩,4,4),[[120,102,101,114,32,102,49,49],[114,97,99,107,32,45,49],[120,102,101,114,32,98,49,49],[114,97,99,107,32,48]]),((some ⟨B2,0,none⟩,4,4),[[120,102,101,114,32,102,49,49],[114,97,99,107,32,45,49],[114,97,99,107,32,48],[120,102,101,114,32,98,49,49]])]:=⟨_,rfl⟩;rw[<-l0]at u3;have l4:QAt Enc.str K6 m1:=by rw[l0];exact QAt.five n7.sl n8.sl n9.sl o0.sl o1.sl
 have j7:=u3.sl;have S8:m1.length=5:=by rw[l0];rfl
 have I7:∀i,i<5->(m1.getD i sqs).2=exT.getD i []/\(m1.getD i sqs).1.2.1=4:=by
  rw[l0];intro i hi;rcases(show i=0\/i=1\/i=2\/i=3\/i=4 by omega) with rfl|rfl|rfl|rfl|rfl<;>exact⟨rfl,rfl⟩
 have m3:=l4;have m5:=j7;refine kpL (ll5 1 2 3 4 5) (csu U) (nn (sr (z1m ([]) z0f U z4w (λB3 V5 E2 o2 h9 N8=>(z1m ([-1]) (ev1 U) U z4w (λB4 V6 E3 o3 h2 N9=>(z1m ([-1,-2]) (ev2 U) U z4w (λB5 V7 E4 o4 f5 O0=>(z1m ([1]) (ev1 U) U z4w (λB6 V8 E5 o5 f0 O1=>(z1m ([1,-1]) (ev2 U) U z4w (λB7 V9 E6 o6 e2 O2=>(z1m ([((some ⟨B3,0,none⟩,0,0),[]),((some ⟨B4,0,none⟩,1,1),[-1]),((some ⟨B5,0,none⟩,2,2),[-1,-2]),((some ⟨B6,0,none⟩,1,1),[1]),((some ⟨B7,0,none⟩,2,2),[1,-1])]) (z0a U (z0a U (z0a U (z0a U (z0a U z0f))))) U k0z (λR4 K7 E7 u4 e0 O3=>?_))))))))))))));refine asg U ?_;have o2:=o2.ext (h2.n4 f5 f0 e2 e0);have o3:=o3.ext (f5.n3 f0 e2 e0);have o4:=o4.ext (f0.n2 e2 e0);have o5:=o5.ext (e2.n1 e0);have o6:=o6.ext e0;obtain⟨q0,l1⟩:∃L:List (SQ Int),L=[((some ⟨B3,0,none⟩,0,0),[]),((some ⟨B4,0,none⟩,1,1),[-1]),((some ⟨B5,0,none⟩,2,2),[-1,-2]),((some ⟨B6,0,none⟩,1,1),[1]),((some ⟨B7,0,none⟩,2,2),[1,-1])]:=⟨_,rfl⟩;rw[<-l1]at u4;have h6:QAt Enc.i64 K7 q0:=by rw[l1];exact QAt.five o2.sl o3.sl o4.sl o5.sl o6.sl
 have h7:=u4.sl;have S9:q0.length=5:=by rw[l1];rfl
 have x9:∀i,i<5->(q0.getD i sqi).2=exW.getD i []:=by
  rw[l1];intro i hi;rcases(show i=0\/i=1\/i=2\/i=3\/i=4 by omega) with rfl|rfl|rfl|rfl|rfl<;>rfl
 have m4:=h6;have m6:=h7;refine kpL (ll6 1 2 3 4 5 6) (csu U) (nn (sr ?_));have I:=I.ext ((((j9.n6 j3 h8 h0 f4 e9 h9).n1 h2).n1 f5).n3 f0 e2 e0);refine z0k U I z2h ?_;have O:=O.ext ((((j9.n6 j3 h8 h0 f4 e9 h9).n1 h2).n1 f5).n3 f0 e2 e0);refine z0k U O z2h ?_;have Z:=Z.ext ((((j9.n6 j3 h8 h0 f4 e9 h9).n1 h2).n1 f5).n3 f0 e2 e0);refine z0k U Z z2h (z1m ([(s.fb.hs.getD 0 id0),(s.fb.hs.getD 1 id0),(s.fb.hs.getD 2 id0)]) (ev3 U) U z3k (λB8 W0 E8 o7 f6 O4=>?_));have O:=O.ext f6;refine z0k U O z2h ?_;have I:=I.ext f6;refine z0k U I z2h ?_;have Z:=Z.ext f6;refine z0k U Z z2h (z1m ([(s.fb.hs.getD 1 id0),(s.fb.hs.getD 0 id0),(s.fb.hs.getD 2 id0)]) (ev3 U) U z3k (λB9 W1 E9 o8 f1 O5=>?_));have O:=O.ext f1;refine z0k U O z2h ?_;have Z:=Z.ext f1;refine z0k U Z z2h ?_;have I:=I.ext f1;refine z0k U I z2h (z1m ([(s.fb.hs.getD 1 id0),(s.fb.hs.getD 2 id0),(s.fb.hs.getD 0 id0)]) (ev3 U) U z3k (λC0 W2 F0 o9 e3 O6=>?_));have O:=O.ext e3;refine z0k U O z2h ?_;have I:=I.ext e3;refine z0k U I z2h ?_;have Z:=Z.ext e3;refine z0k U Z z2h (z1m ([(s.fb.hs.getD 1 id0),(s.fb.hs.getD 0 id0),(s.fb.hs.getD 2 id0)]) (ev3 U) U z3k (λC1 W3 F1 p0 e1 O7=>?_));have I:=I.ext e1;refine z0k U I z2h ?_;have O:=O.ext e1;refine z0k U O z2h ?_;have Z:=Z.ext e1;refine z0k U Z z2h (z1m ([(s.fb.hs.getD 0 id0),(s.fb.hs.getD 1 id0),(s.fb.hs.getD 2 id0)]) (ev3 U) U z3k (λC2 W4 F2 p1 d6 O8=>(z1m ([((some ⟨B8,0,none⟩,3,3),[(s.fb.hs.getD 0 id0),(s.fb.hs.getD 1 id0),(s.fb.hs.getD 2 id0)]),((some ⟨B9,0,none⟩,3,3),[(s.fb.hs.getD 1 id0),(s.fb.hs.getD 0 id0),(s.fb.hs.getD 2 id0)]),((some ⟨C0,0,none⟩,3,3),[(s.fb.hs.getD 1 id0),(s.fb.hs.getD 2 id0),(s.fb.hs.getD 0 id0)]),((some ⟨C1,0,none⟩,3,3),[(s.fb.hs.getD 1 id0),(s.fb.hs.getD 0 id0),(s.fb.hs.getD 2 id0)]),((some ⟨C2,0,none⟩,3,3),[(s.fb.hs.getD 0 id0),(s.fb.hs.getD 1 id0),(s.fb.hs.getD 2 id0)])]) (z0a U (z0a U (z0a U (z0a U (z0a U z0f))))) U y3m (λR5 A1 F3 u5 d3 O9=>(asg U ?_)))));have o7:=o7.ext (f1.n4 e3 e1 d6 d3);have o8:=o8.ext (e3.n3 e1 d6 d3);have o9:=o9.ext (e1.n2 d6 d3);have p0:=p0.ext (d6.n1 d3);have p1:=p1.ext d3;obtain⟨m2,l2⟩:∃L:List IQ,L=[((some ⟨B8,0,none⟩,3,3),[(s.fb.hs.getD 0 id0),(s.fb.hs.getD 1 id0),(s.fb.hs.getD 2 id0)]),((some ⟨B9,0,none⟩,3,3),[(s.fb.hs.getD 1 id0),(s.fb.hs.getD 0 id0),(s.fb.hs.getD 2 id0)]),((some ⟨C0,0,none⟩,3,3),[(s.fb.hs.getD 1 id0),(s.fb.hs.getD 2 id0),(s.fb.hs.getD 0 id0)]),((some ⟨C1,0,none⟩,3,3),[(s.fb.hs.getD 1 id0),(s.fb.hs.getD 0 id0),(s.fb.hs.getD 2 id0)]),((some ⟨C2,0,none⟩,3,3),[(s.fb.hs.getD 0 id0),(s.fb.hs.getD 1 id0),(s.fb.hs.getD 2 id0)])]:=⟨_,rfl⟩;rw[<-l2]at u5;have f8:QAt z1g A1 m2:=by rw[l2];exact QAt.five o7.sl o8.sl o9.sl p0.sl p1.sl
 have f9:=u5.sl;have T3:m2.length=5:=by rw[l2];rfl
 have D1:∀i,i<5->(m2.getD i iq0).2=exH.getD i []:=by
  rw[l2];intro i hi;rcases(show i=0\/i=1\/i=2\/i=3\/i=4 by omega) with rfl|rfl|rfl|rfl|rfl<;>(rw[k4,x4,m9];rfl)
 have u0:=f8;have u1:=f9;refine kpL (ll7 1 2 3 4 5 6 7) (csu U) (nn (sq (sr (asg U ?_))));have hG:=r5.ext ((((((((((((q1.z6 q2 q3 q4 l5 j9 j3).n1 h8).n1 h0).n6 f4 e9 h9 h2 f5 f0).next e2).next e0).next f6).next f1).next e3).next e1).next d6).next d3);have a4:=i3.ext ((((((((((((q1.z6 q2 q3 q4 l5 j9 j3).n1 h8).n1 h0).n6 f4 e9 h9 h2 f5 f0).next e2).next e0).next f6).next f1).next e3).next e1).next d6).next d3);have a3:=i2.ext ((((((((((q3.z6 q4 l5 j9 j3 h8 h0).n1 f4).n1 e9).n6 h9 h2 f5 f0 e2 e0).next f6).next f1).next e3).next e1).next d6).next d3);have d1:=j8.ext ((((((((l5.n6 j9 j3 h8 h0 f4 e9).n1 h9).n1 h2).n6 f5 f0 e2 e0 f6 f1).next e3).next e1).next d6).next d3);have I:=I.ext (d6.n1 d3);have O:=O.ext (d6.n1 d3);have Z:=Z.ext (d6.n1 d3);have l4:=m3.ext ((((h9.n6 h2 f5 f0 e2 e0 f6).n1 f1).n1 e3).n3 e1 d6 d3);have j7:=m5.ext ((((h9.n6 h2 f5 f0 e2 e0 f6).n1 f1).n1 e3).n3 e1 d6 d3);have h6:=m4.ext (f6.n5 f1 e3 e1 d6 d3);have h7:=m6.ext (f6.n5 f1 e3 e1 d6 d3);have u6:Fr [] w0 A1:=((((((((((((q1.z6 q2 q3 q4 l5 j9 j3).n1 h8).n1 h0).n6 f4 e9 h9 h2 f5 f0).next e2).next e0).next f6).next f1).next e3).next e1).next d6).next d3);have r5:=hG;have i3:=a4;have i2:=a3;have j8:=d1;have C5:=I;have C6:=O;have C7:=Z;have m3:=l4;have m5:=j7;have m4:=h6;have m6:=h7;have u0:=f8;have u1:=f9;have Q5:=u6.size;(try clear J0);(try clear D5);(try clear D6);(try clear D7);(try clear D8);(try clear D9);(try clear E0);(try clear E1);(try clear E2);(try clear E3);(try clear E4);(try clear E5);(try clear E6);(try clear E7);(try clear E8);(try clear E9);(try clear F0);(try clear F1);(try clear F2);(try clear F3);(try clear i7);(try clear i8);(try clear i9);(try clear j0);(try clear j1);(try clear j2);(try clear z1);(try clear L6);(try clear L7);(try clear L8);(try clear L9);(try clear M0);(try clear M1);(try clear M2);(try clear M3);(try clear M4);(try clear M5);(try clear z2);(try clear M6);(try clear M7);(try clear M8);(try clear M9);(try clear N0);(try clear N1);(try clear N2);(try clear N3);(try clear N4);(try clear N5);(try clear z3);(try clear N6);(try clear N7);(try clear N8);(try clear N9);(try clear O0);(try clear O1);(try clear O2);(try clear O3);(try clear O4);(try clear O5);(try clear z4);(try clear O6);(try clear O7);(try clear O8);(try clear O9);(try clear z5);(try clear z6);(try clear z7);(try clear z8);(try clear z9);refine nn (bl (lpK (ι:=Nat) (ll7 1 2 3 4 5 6 7) (λi=>[(8,.int .i64 (i:Int))]) (λi w'=>Fr [] A1 w'/\i<=5) (λi=>5-i) 0 (csu U) ⟨l12 _ _,l15 _⟩ ?_));rintro i H5 ⟨a6,Q1⟩;have z44:=a6.size;refine kpC (ll8 1 2 3 4 5 6 7 8) (csu U) (sq (sr (mv U (mv U (lnS U underlying89 (lt' U (nn (cd U (λc1=>?_) (λc1=>?_)))))))));have i5:i<5:=by omega
 obtain⟨J5,U1,G1⟩:=j8h i i5;obtain⟨y2,T5⟩:=I7 i i5;have T6:(m1.getD i sqs).2.length=4:=by rw[y2];exact J5
 have T7:=x9 i i5;have T8:=D1 i i5;refine sk (tn (sq (bl (sr (asg U (nn (sq (sr (asg U ?_)))))))));obtain⟨bK,R7⟩:∃b:Nat,b=H5.heap.size:=⟨_,rfl⟩;refine nn (bl (lpK (ι:=Nat×Value) (ll8 1 2 3 4 5 6 7 8) (λp_=>[(10,.int .i64 (p_.1:Int)),(9,p_.2)]) (λp_ w'=>Fr [] H5 w'/\p_.1<=4/\Lw.Own z4n 44 bK w' p_.2 ((exP.getD i []).take p_.1)) (λp_=>4-p_.1) (0,_) (csu U) ⟨l12 _ _,⟨l15 _,by rw[l79];exact Own.nil _⟩⟩ ?_));rintro⟨k,vP⟩ W5 ⟨b4,⟨F9,ho⟩⟩;simp only at F9 ho;have z45:=b4.size;refine kpC [(1,_),(2,_),(3,_),(4,_),(5,_),(6,_),(7,_),(8,_),(10,.int .i64 (k:Int)),(9,vP)] (csu U) (sq (sr (mv U (mv U (mv U ?_)))));have j7:=m5.ext (a6.n1 b4);refine z1b (p:=i) (sqs) U j7 U k0h oo (λP3 D2=>(z1d U (D2 _ j7) na88 (lnS U underlying88 (lt' U (kpL (ll11 1 2 3 4 5 6 7 8 9 10 88) (csu U) (nn (cd U (λc2=>?_) (λc2=>?_))))))));have F8:k<4:=by omega
 refine sk (tn (sq (bl (rg (mv U (mv U (mv U (z1b (p:=i) (sqs) U j7 U k0h oo (λP4 D3=>(z1d U (D3 _ j7) na88 (mv U ?_)))))))))));have l4:=m3.ext (a6.n1 b4);refine z1b (p:=k) ([]) U (l4.get (d:=sqs) oo) U y4m oo (λP5 D4=>(z1d U (D4 _ (l4.get (d:=sqs) oo)) na9 ?_));have hG:=r5.ext (a6.n1 b4);refine cl (ev1 U) (mkC func31) (x6i _ ((exP.getD i []).getD k op0) 0 _ hG (by rw[y2];exact(G1 k F8).1) (by rw[y2];have:=(G1 k F8).2;omega)) U ?_;rintro _ W6 ⟨rfl,y7⟩;have z46:=y7.size;refine z1m ([(exP.getD i []).getD k op0]) (ev1 U) U y5b (λP6 W7 J1 y0 G8 z47=>?_);have ho:=ho.ext (y7.n1 G8);have r7:=ho;refine z2e U ho y0.sl y5b (λQ3 W8 ho G9 H8=>?_) (hM:=(by unfold maxLen;simp only[l28,l30,l52];omega)) (hb:=(by simp only[l28,l30,l52];omega));have z48:=G9.size;exact asg U (kpL (ll10 1 2 3 4 5 6 7 8 9 10) (csu U) (nl (bn' (tn (rg (mv U (z0w U (wi6 oo) (asg U (nl (lpE ((k+1,_)) (csu U) ⟨((b4.n2 y7 G8).step G9 (λk hk T4=>absurd (r7.blk k hk).1 oo)),⟨sm,by rw[z5g op0 oo];exact ho⟩⟩ sm))))))))));obtain rfl:k=4:=by omega
 rw[l82 oo]at ho;obtain⟨A9,c9,rfl,R8⟩:=ho.sl.form;refine ex (te (te (xh (tn (sr ?_)))));have d1:=j8.ext (a6.n1 b4);refine z0k U d1 z8a (mv U ?_);have a3:=i2.ext (a6.n1 b4);have a4:=i3.ext (a6.n1 b4);refine cl (ev2 U) co6 (z7j s p 50 _ (exP.getD i []) _ a3 hP oo ho.sl a4) U ?_;rintro _ W9 ⟨⟨Q6,ws,h5,Q8,rfl,hB⟩,q49⟩;obtain⟨qi,I6,J3,F6,F7⟩:=I9 i i5;obtain⟨rfl,rfl,f2⟩:=hB.ok _ _ I6;have a2:=hB.k.at;have f3:=hB.o.sl;obtain⟨⟨hf,hb⟩,h4,r4⟩:=z3u (show BdOk h5.q.p from f2.BE▸f2.v.inv.B);have F5:h5.fb.hs=(m2.getD i iq0).2:=by rw[D1 i i5,<-J3];exact f2.hsE
 have Q2:=f2.hl;have U0:=j6g i i5;have z49:=q49.size;have x2:=a2;have x3:=f3;refine mv U (xt U (xt U (xt U (al y8y U (λR0 X0 P8 b1 e4 z50=>?_)))));refine asg U (z0j (vs:=[_,_,_,_,_,_,_,_]) U b1 z9q (λX1 b1 e5 z51=>?_) (h1:=t40));refine asg U ?_;have I5:=b1;refine kpL (ll11 1 2 3 4 5 6 7 8 11 12 13) (csu U) (nn (sq (sq ?_)));have h6:=m4.ext (a6.z4 b4 q49 e4 e5);have h7:=m6.ext (a6.z4 b4 q49 e4 e5);have f8:=u0.ext (a6.z4 b4 q49 e4 e5);have f9:=u1.ext (a6.z4 b4 q49 e4 e5);have a2:=x2.ext (e4.z1 e5);have f3:=x3.ext (e4.z1 e5);intro a h;refine z0h none (λwb w'=>Fr [] wb w') z2o ?_;intro H6 d7;have z52:=d7.size;have h6:=h6.ext d7;have h7:=h7.ext d7;have f8:=f8.ext d7;have f9:=f9.ext d7;have a2:=a2.ext d7;have f3:=f3.ext d7;have b1:=b1.ext d7;have hC:Fr [] H6 H6:=l12 _ _;have x0:=h6;have m7:=h7;have x1:=f8;have m8:=f9;have b5:=a2;have r6:=f3;have a7:=b1;refine z0d 0 h U λa h=>v2x 1 hC h wn U U λa h=>z0d 2 h U λa h=>?_;first|refine z8m (D:=111) h U (λhh=>absurd hh t44) ?_|refine z7b (D:=111) h U (λhh=>absurd hh t44) ?_
 clear h;intro g0 h;refine z0d 3 h U ?_ (hG:=(wy U));clear h a;intro a h;refine z0d 4 h U ?_ (hG:=(wy U));clear h a;intro a h;refine z0d 5 h U ?_ (hG:=(wy U));clear h a;intro a h;refine z0z (p:=i) (sqi) 6 h U h7 U k0z U ?_ (hG:=(wy U));clear h a;intro I2 x5 a h;refine z2b 7 h (wy U) U (λ_ hw=>x5 _ (m7.ext hw)) u7k U λa h=>z0e 8 U (z4l h U U U U (z0n h (z0a U (z0a U z0f)) (mkC func14) (x4g _ _ (exW.getD i []) (q0.getD i sqi).2 _ f3 (h6.get (d:=sqi) oo) oo) ?_));rintro _ X2 ⟨rfl,d4⟩ a h;have z53:=d4.size;have f8:=f8.ext d4;have f9:=f9.ext d4;have a2:=a2.ext d4;have hC:=hC.next d4;refine z0b (y0x 9 hC h (wy U) U U λa h=>z0e 10 U (z2n h U λa h=>?_));refine z0b (z0d 11 h U λa h=>?_);first|refine z8m (D:=120) h U (λhh=>absurd hh (by exact λh=>h (x9 i i5).symm)) ?_|refine z7b (D:=120) h U (λhh=>absurd hh (by exact λh=>h (x9 i i5).symm)) ?_
 clear h;intro g1 h;refine z0c 12 h U z3r U ?_ (hG:=(wy U));clear h a;intro a h;refine z3w 13 h (wy U) U z4z U λa h=>z0m 14 h U (λ_ hw=>a7.ext hw) U z4s U ?_ (hG:=(wy U));clear h a;intro a h;refine z0d 15 h U ?_ (hG:=(wy U));clear h a;intro a h;refine z0d 16 h U ?_ (hG:=(wy U));clear h a;intro a h;refine z0z (p:=i) (iq0) 17 h U f9 U y3m U ?_ (hG:=(wy U));clear h a;intro I3 x6 a h;refine z2b 18 h (wy U) U (λ_ hw=>x6 _ (m8.ext hw)) z4s U λa h=>z0e 19 U (z4l h U U U U (z0n h (z0a U (z0a U z0f)) j6x (z9r _ _ h5.fb.hs (m2.getD i iq0).2 _ a2.f.h (QAt.get f8 (d:=iq0) oo) oo) ?_));rintro _ X3 ⟨rfl,d5⟩ a h;have z54:=d5.size;have h6:=h6.ext (d4.n1 d5);have h7:=h7.ext (d4.n1 d5);have f8:=f8.ext d5;have f9:=f9.ext d5;have a2:=a2.ext d5;have f3:=f3.ext (d4.n1 d5);have b1:=b1.ext (d4.n1 d5);have hC:=hC.next d5;refine z0b (y0x 20 hC h (wy U) U U λa h=>z0e 21 U (z2n h U λa h=>?_));refine z0b (z0o ?_);clear hC x0 m7 x1 m8 b5 r6 a7;refine bk (h.sub (L':=ll10 1 2 3 4 5 6 7 8 12 130) (csu U)) (tn (cd U (λc3=>?_) (λc3=>?_)));exact absurd F5 c3;refine sk (tn (sq ?_));have I:=C5.ext ((a6.z6 b4 q49 e4 e5 d7 d4).n1 d5);have O:=C6.ext ((a6.z6 b4 q49 e4 e5 d7 d4).n1 d5);have Z:=C7.ext ((a6.z6 b4 q49 e4 e5 d7 d4).n1 d5);intro a h;refine z0h none (λwb w'=>Fr [] wb w') z2o ?_;intro H7 h3;have z55:=h3.size;have I:=I.ext h3;have O:=O.ext h3;have Z:=Z.ext h3;have a2:=a2.ext h3;have b1:=b1.ext h3;have hC:Fr [] H7 H7:=l12 _ _;have d9:=I;have e7:=O;have e8:=Z;have b5:=a2;have a7:=b1;refine z0d 0 h U λa h=>x4o 1 hC h wn U λa h=>z0d 2 h U λa h=>gSp (D:=133) h U ?_ ?_;clear h;intro g2 h;refine z0c 3 h U z8g U ?_ (hG:=(wy U));clear h a;intro a h;refine z1i (vs:=[_,_]) 4 h U (λ_ hw=>(a7.ext hw)) z5a U U ?_ (hG:=(wy U));clear h a;intro a h;refine z3e (cs:=[_,_]) 5 h (z0a U z0f) y7p (z0g U z0r) U U ?_ (hG:=(wy U));clear h a;intro a h;refine z0v 7 h U (λ_ hw=>d9.ext hw) z2h U ?_ (hG:=(wy U));clear h a;intro a h;refine z0v 8 h U (λ_ hw=>e8.ext hw) z2h U ?_ (hG:=(wy U));clear h a;intro a h;refine z1w 6 9 kr U ?_ ?_;refine z4l h U U U U (z0n h (z0a U (z0a U z0f)) v3r (y5u h5.q 0 12 _ a2.b oo hf hb h4 r4) ?_);rintro H1 X4 ⟨b7,y8⟩ a h;have z56:=y8.size;have hC:=hC.next y8;rw[show h5.q.p.atC 0 12=[xa,xc] from by rw[f2.BE,y0y (show z4d 0 12=0 by decide)];exact F6 t68]at b7;obtain⟨A3,A5,rfl,x7⟩:=b7.sl.form;refine z0b (z0e 9 U (z4l h U U U U (z2r ([(s.fb.hs.getD 0 id0),(s.fb.hs.getD 2 id0)]) h (z0a U (z0a U z0f)) U z3k λv8 X5 hg g9 s4 hz a h=>?_)));have z57:=s4.size;have b7:=b7.ext s4;have hC:=hC.next s4;refine z0b (z0e 10 U (z4l h U U U U (z0n h (z0a U (z0a U z0f)) j6x (z9r _ _ [xa,xc] [(s.fb.hs.getD 0 id0),(s.fb.hs.getD 2 id0)] _ b7.sl g9.sl dd) ?_)));rintro _ X6 ⟨rfl,y9⟩ a h;have z58:=y9.size;have hC:=hC.next y9;refine z0b (y0x 11 hC h (wy U) U U λa h=>z0e 12 U (z3z h U U λa h=>?_));refine z0b (z0d 13 h U λa h=>?_);first|refine z8m (D:=144) h U (λhh=>absurd hh (by exact λh=>h (by rw[k4,m9]))) ?_|refine z7b (D:=144) h U (λhh=>absurd hh (by exact λh=>h (by rw[k4,m9]))) ?_
 clear h;intro g3 h;refine z0d 14 h U ?_ (hG:=(wy U));clear h a;intro a h;refine x4o 15 hC h (wy U) U λa h=>z0d 16 h U ?_ (hG:=(wy U));clear h a;intro a h;first|refine z8m (D:=147) h U (λhh=>absurd hh oo) ?_|refine z7b (D:=147) h U (λhh=>absurd hh oo) ?_
 clear h;intro g4 h;refine z1f 17 h U U λa h=>z1f 18 h U U λa h=>z1f 19 h U U λa h=>z1f 20 h U U λa h=>z1f 21 h U U λa h=>z1f 22 h U U λa h=>z1f 23 h U U λa h=>z1f 24 h U U λa h=>z1f 25 h U U λa h=>z0e 26 U (tW h (kY U (pkf U ?_)));clear h a;intro a h;refine z0b (z0e 27 U (z2n h U λa h=>?_));refine z0b (z0o ?_);clear hC d9 e7 e8 b5 a7;exact bk (h.sub (L':=ll9 1 2 3 4 5 6 7 8 158) (csu U)) (tn (cf U (sk (bn' (tn (rg (mv U (z0w U (wi6 oo) (asg U (nl (lpE ((i+1)) (csu U) ⟨((((a6.z6 b4 q49 e4 e5 d7 d4).n1 d5).n1 h3).n3 y8 s4 y9),oo⟩ oo)))))))))));refine z4l h U U U U (z2r ([(s.fb.hs.getD 0 id0),(s.fb.hs.getD 2 id0)]) h (z0a U (z0a U z0f)) U z3k λv8 X7 hg g9 s5 hz a h=>?_);have z59:=s5.size;have a2:=a2.ext s5;have hC:=hC.next s5;refine z0b (z0e 6 U (z4l h U U U U (z0n h (z0a U (z0a U z0f)) v3r (y5u h5.q 0 12 _ a2.b oo hf hb h4 r4) ?_)));rintro H1 X8 ⟨b7,s6⟩ a h;have z60:=s6.size;have g9:=g9.ext s6;have hC:=hC.next s6;rw[show h5.q.p.atC 0 12=[xa,xc] from by rw[f2.BE,y0y (show z4d 0 12=0 by decide)];exact F6 t68]at b7;obtain⟨A3,A5,rfl,x7⟩:=b7.sl.form;refine z0b (z0e 10 U (z4l h U U U U (z0n h (z0a U (z0a U z0f)) j6x (z9r _ _ [xa,xc] [(s.fb.hs.getD 0 id0),(s.fb.hs.getD 2 id0)] _ b7.sl g9.sl dd) ?_)));rintro _ X9 ⟨rfl,z0⟩ a h;have z61:=z0.size;have hC:=hC.next z0;refine z0b (y0x 11 hC h (wy U) U U λa h=>z0e 12 U (z3z h U U λa h=>?_));refine z0b (z0d 13 h U λa h=>?_);first|refine z8m (D:=144) h U (λhh=>absurd hh (by exact λh=>h (by rw[k4,m9]))) ?_|refine z7b (D:=144) h U (λhh=>absurd hh (by exact λh=>h (by rw[k4,m9]))) ?_
 clear h;intro g5 h;refine z0d 14 h U ?_ (hG:=(wy U));clear h a;intro a h;refine x4o 15 hC h (wy U) U λa h=>z0d 16 h U ?_ (hG:=(wy U));clear h a;intro a h;first|refine z8m (D:=147) h U (λhh=>absurd hh oo) ?_|refine z7b (D:=147) h U (λhh=>absurd hh oo) ?_
 clear h;intro g6 h;refine z1f 17 h U U λa h=>z1f 18 h U U λa h=>z1f 19 h U U λa h=>z1f 20 h U U λa h=>z1f 21 h U U λa h=>z1f 22 h U U λa h=>z1f 23 h U U λa h=>z1f 24 h U U λa h=>z1f 25 h U U λa h=>z0e 26 U (tW h (kY U (pkf U ?_)));clear h a;intro a h;refine z0b (z0e 27 U (z2n h U λa h=>?_));refine z0b (z0o ?_);clear hC d9 e7 e8 b5 a7;exact bk (h.sub (L':=ll9 1 2 3 4 5 6 7 8 158) (csu U)) (tn (cf U (sk (bn' (tn (rg (mv U (z0w U (wi6 oo) (asg U (nl (lpE ((i+1)) (csu U) ⟨((((a6.z6 b4 q49 e4 e5 d7 d4).n1 d5).n1 h3).n3 s5 s6 z0),oo⟩ oo)))))))))));clear h;intro g2 h;refine z1f 3 h U U λa h=>z1f 4 h U U λa h=>z1f 5 h U U λa h=>z1f 6 h U U λa h=>z1f 7 h U U λa h=>z1f 8 h U U λa h=>z1f 9 h U U λa h=>z1f 10 h U U λa h=>z1f 11 h U U λa h=>z0e 12 U (z2n h U λa h=>?_);refine z0b (z0d 13 h U λa h=>z0d 14 h U ?_ (hG:=(wy U)));clear h a;intro a h;refine x4o 15 hC h (wy U) U λa h=>z0d 16 h U ?_ (hG:=(wy U));clear h a;intro a h;refine gSp (D:=147) h U ?_ ?_;clear h;intro g7 h;refine z0c 17 h U z8g U ?_ (hG:=(wy U));clear h a;intro a h;refine z1i (vs:=[_,_]) 18 h U (λ_ hw=>(a7.ext hw)) z5a U U ?_ (hG:=(wy U));clear h a;intro a h;refine z3e (cs:=[_,_]) 19 h (z0a U z0f) y7p (z0g U z0r) U U ?_ (hG:=(wy U));clear h a;intro a h;refine z0v 21 h U (λ_ hw=>e7.ext hw) z2h U ?_ (hG:=(wy U));clear h a;intro a h;refine z0v 22 h U (λ_ hw=>d9.ext hw) z2h U ?_ (hG:=(wy U));clear h a;intro a h;refine z1w 20 23 kr U ?_ ?_;refine z4l h U U U U (z0n h (z0a U (z0a U z0f)) v3r (y5u h5.q 0 10 _ a2.b oo hf hb h4 r4) ?_);rintro H2 Y0 ⟨a5,k0⟩ a h;have z62:=k0.size;have hC:=hC.next k0;rw[show h5.q.p.atC 0 10=[xb,xa] from by rw[f2.BE,y0y (show z4d 0 10=0 by decide)];exact F7 t68]at a5;obtain⟨A4,A6,rfl,x8⟩:=a5.sl.form;refine z0b (z0e 23 U (z4l h U U U U (z2r ([(s.fb.hs.getD 1 id0),(s.fb.hs.getD 0 id0)]) h (z0a U (z0a U z0f)) U z3k λv9 Y1 hg b8 j4 hz a h=>?_)));have z63:=j4.size;have a5:=a5.ext j4;have hC:=hC.next j4;refine z0b (z0e 24 U (z4l h U U U U (z0n h (z0a U (z0a U z0f)) j6x (z9r _ _ [xb,xa] [(s.fb.hs.getD 1 id0),(s.fb.hs.getD 0 id0)] _ a5.sl b8.sl dd) ?_)));rintro _ Y2 ⟨rfl,i0⟩ a h;have z64:=i0.size;have I:=I.ext (k0.n2 j4 i0);have O:=O.ext (k0.n2 j4 i0);have Z:=Z.ext (k0.n2 j4 i0);have a2:=a2.ext (k0.n2 j4 i0);have b1:=b1.ext (k0.n2 j4 i0);have a5:=a5.ext i0;have b8:=b8.ext i0;have hC:=hC.next i0;refine z0b (y0x 25 hC h (wy U) U U λa h=>z0e 26 U (tW h (kY U (pkt U ?_))));clear h a;intro a h;refine z0b (z0e 27 U (z2n h U λa h=>?_));refine z0b (z0o ?_);clear hC d9 e7 e8 b5 a7;refine bk (h.sub (L':=ll9 1 2 3 4 5 6 7 8 158) (csu U)) (tn (cd U (λc4=>?_) (λc4=>?_)));exact absurd (by rw[x4,k4]) c4;exact sk (bn' (tn (rg (mv U (z0w U (wi6 oo) (asg U (nl (lpE ((i+1)) (csu U) ⟨((((a6.z6 b4 q49 e4 e5 d7 d4).n1 d5).n1 h3).n3 k0 j4 i0),oo⟩ oo))))))));refine z4l h U U U U (z2r ([(s.fb.hs.getD 1 id0),(s.fb.hs.getD 0 id0)]) h (z0a U (z0a U z0f)) U z3k λv9 Y3 hg b8 k1 hz a h=>?_);have z65:=k1.size;have a2:=a2.ext k1;have hC:=hC.next k1;refine z0b (z0e 20 U (z4l h U U U U (z0n h (z0a U (z0a U z0f)) v3r (y5u h5.q 0 10 _ a2.b oo hf hb h4 r4) ?_)));rintro H2 Y4 ⟨a5,j5⟩ a h;have z66:=j5.size;have b8:=b8.ext j5;have hC:=hC.next j5;rw[show h5.q.p.atC 0 10=[xb,xa] from by rw[f2.BE,y0y (show z4d 0 10=0 by decide)];exact F7 t68]at a5;obtain⟨A4,A6,rfl,x8⟩:=a5.sl.form;refine z0b (z0e 24 U (z4l h U U U U (z0n h (z0a U (z0a U z0f)) j6x (z9r _ _ [xb,xa] [(s.fb.hs.getD 1 id0),(s.fb.hs.getD 0 id0)] _ a5.sl b8.sl dd) ?_)));rintro _ Y5 ⟨rfl,i1⟩ a h;have z67:=i1.size;have I:=I.ext (k1.n2 j5 i1);have O:=O.ext (k1.n2 j5 i1);have Z:=Z.ext (k1.n2 j5 i1);have a2:=a2.ext (j5.n1 i1);have b1:=b1.ext (k1.n2 j5 i1);have b8:=b8.ext i1;have a5:=a5.ext i1;have hC:=hC.next i1;refine z0b (y0x 25 hC h (wy U) U U λa h=>z0e 26 U (tW h (kY U (pkt U ?_))));clear h a;intro a h;refine z0b (z0e 27 U (z2n h U λa h=>?_));refine z0b (z0o ?_);clear hC d9 e7 e8 b5 a7;refine bk (h.sub (L':=ll9 1 2 3 4 5 6 7 8 158) (csu U)) (tn (cd U (λc4=>?_) (λc4=>?_)));exact absurd (by rw[x4,k4]) c4;exact sk (bn' (tn (rg (mv U (z0w U (wi6 oo) (asg U (nl (lpE ((i+1)) (csu U) ⟨((((a6.z6 b4 q49 e4 e5 d7 d4).n1 d5).n1 h3).n3 k1 j5 i1),oo⟩ oo))))))));clear h;intro g7 h;refine z1f 17 h U U λa h=>z1f 18 h U U λa h=>z1f 19 h U U λa h=>z1f 20 h U U λa h=>z1f 21 h U U λa h=>z1f 22 h U U λa h=>z1f 23 h U U λa h=>z1f 24 h U U λa h=>z1f 25 h U U λa h=>z0e 26 U (tW h (kY U (pkf U ?_)));clear h a;intro a h;refine z0b (z0e 27 U (z2n h U λa h=>?_));refine z0b (z0o ?_);clear hC d9 e7 e8 b5 a7;exact bk (h.sub (L':=ll9 1 2 3 4 5 6 7 8 158) (csu U)) (tn (cf U (sk (bn' (tn (rg (mv U (z0w U (wi6 oo) (asg U (nl (lpE ((i+1)) (csu U) ⟨(((a6.z6 b4 q49 e4 e5 d7 d4).n1 d5).n1 h3),oo⟩ oo)))))))))));refine ex (te (te (xh (tn (sr ?_)))));have d1:=j8.ext a6;refine z0k U d1 z8a (z1v (cs:=[_,_,_,_,_,_]) (ev2 U) u0d (z0g U (z0g U z0r)) U ?_);refine z1m ([rkP 5]) (ev1 U) U y5b (λP7 Y6 J2 y1 k7 z68=>?_);have a3:=i2.ext (a6.n1 k7);have a4:=i3.ext (a6.n1 k7);refine cl (ev2 U) co6 (z7j s p 50 _ [rkP 5] _ a3 hP t47 y1.sl a4) U ?_;rintro _ Y7 ⟨⟨Q7,Q4,U2,Q9,rfl,C3⟩,q69⟩;have z69:=q69.size;obtain⟨rfl,rfl,rfl⟩:=C3.er _ (y2x I8 dd);refine mv U (xt U (xt U (xt U (al y8y U (λR1 Y8 P9 u2 p6 z70=>?_)))));refine asg U (z0j (vs:=[_,_,_,_,_,_,_,_]) U u2 z9q (λK8 u2 p7 z71=>?_) (h1:=t40));refine asg U (kpL (ll2 1 16) (csu U) (nn (jn (ι:=Unit) (ll1 16) (λ_j=>[(19,.int .i64 13)]) (λ_j w'=>Fr [] K8 w'/\True) (csu U) ?_ ?_)));have hG:=r5.ext (a6.z4 k7 q69 p6 p7);have a4:=i3.ext (a6.z4 k7 q69 p6 p7);have a3:=i2.ext (a6.z4 k7 q69 p6 p7);have d1:=j8.ext (a6.z4 k7 q69 p6 p7);intro a h;refine z0h none (λwb w'=>Fr [] wb w') z2o ?_;intro A2 j6;have z72:=j6.size;have hG:=hG.ext j6;have a4:=a4.ext j6;have a3:=a3.ext j6;have d1:=d1.ext j6;have hC:Fr [] A2 A2:=l12 _ _;have k9:=hG;have i4:=a4;have b6:=a3;have b2:=d1;refine z0v 0 h U (λ_ hw=>b2.ext hw) z8a U λa h=>z1w 1 8 kr U ?_ ?_;refine z0n h (z0a U z0f) (mkC func31) (x6i _ (xfP 0 13) 0 _ hG u6g dd) ?_;rintro _ K9 ⟨rfl,k2⟩ a h;have z73:=k2.size;have hG:=hG.ext k2;have a4:=a4.ext k2;have a3:=a3.ext k2;have hC:=hC.next k2;refine z0b (z1w 2 8 kr U ?_ ?_);refine z2r ([xfP 0 13]) h (z0a U z0f) U y5b λb9 L0 hg a0 k8 hz a h=>?_;have z74:=k8.size;have hG:=hG.ext k8;have a4:=a4.ext k8;have a3:=a3.ext k8;have hC:=hC.next k8;refine z0b (z1w 3 8 kr U ?_ ?_);refine z0n h (z0a U (z0a U z0f)) co6 (z7j s p 50 _ [xfP 0 13] _ a3 hP t47 a0.sl a4) ?_;rintro _ L1 ⟨⟨u7,p9,A0,u9,rfl,f7⟩,q75⟩ a h;have z75:=q75.size;have a0:=a0.ext q75;have hC:=hC.next q75;obtain⟨rfl,rfl,rfl⟩:=f7.er _ (y2x l3 dd);refine z0b (z0d 4 h U λa h=>z0l 5 h U λa h=>z0l 6 h U λa h=>z0l 7 h U λa h=>z0e 8 U (z0y h y8y U λY9 a1 s7 hz a h=>?_));obtain⟨d0,hg⟩:∃g,g=L1.heap.size:=⟨_,rfl⟩;rw[<-hg]at a1 h hz;have k5:b9<d0:=by have:=(a0.blk b9 t10).2;omega
 have z76:=s7.size;have a0:=a0.ext s7;have hC:=hC.next s7;refine z0b (z0e 9 U (z0q h U λa h=>?_));refine z0b (z0e 10 U (z0t h U a1 U z9q ?_ (h1:=t40)));clear h a;intro L2 b3 s8 hz a h;have z77:=s8.size;have a0:=a0.fr s8 t26;have hC:=hC.sp s8;clear a1 hz;have a1:Blk L2 d0 _ [_,_,_,_,_,_,_,_]:=b3;clear b3;refine z0b (z0e 11 U (z0q h U λa h=>?_));refine z0b (z0o ?_);clear hC k9 i4 b6 b2;exact bk (h.sub (L':=ll2 16 19) (csu U)) (jE (()) (csu U) ⟨(j6.z5 k2 k8 q75 s7 s8),trivial⟩);refine z0y h y8y U λZ0 a1 l6 hz a h=>?_;obtain⟨d0,hg⟩:∃g,g=L0.heap.size:=⟨_,rfl⟩;rw[<-hg]at a1 h hz;have k5:b9<d0:=by have:=(a0.blk b9 t10).2;omega
 have z78:=l6.size;have a4:=a4.ext l6;have a3:=a3.ext l6;have a0:=a0.ext l6;have hC:=hC.next l6;refine z0b (z0e 3 U (z0n h (z0a U (z0a U z0f)) co6 (z7j s p 50 _ [xfP 0 13] _ a3 hP t47 a0.sl a4) ?_));rintro _ Z1 ⟨⟨u7,p9,A0,u9,rfl,f7⟩,q79⟩ a h;have z79:=q79.size;have a0:=a0.ext q79;have a1:=a1.ext q79;have hC:=hC.next q79;obtain⟨rfl,rfl,rfl⟩:=f7.er _ (y2x l3 dd);refine z0b (z0d 4 h U λa h=>z0l 5 h U λa h=>z0l 6 h U λa h=>z0l 7 h U λa h=>z0e 9 U (z0q h U λa h=>?_));refine z0b (z0e 10 U (z0t h U a1 U z9q ?_ (h1:=t40)));clear h a;intro L3 b3 s9 hz a h;have z80:=s9.size;have a0:=a0.fr s9 t26;have hC:=hC.sp s9;clear a1 hz;have a1:Blk L3 d0 _ [_,_,_,_,_,_,_,_]:=b3;clear b3;refine z0b (z0e 11 U (z0q h U λa h=>?_));refine z0b (z0o ?_);clear hC k9 i4 b6 b2;exact bk (h.sub (L':=ll2 16 19) (csu U)) (jE (()) (csu U) ⟨(j6.z5 k2 k8 l6 q79 s9),trivial⟩);refine z0y h y8y U λZ2 a1 p8 hz a h=>?_;obtain⟨d0,hg⟩:∃g,g=K9.heap.size:=⟨_,rfl⟩;rw[<-hg]at a1 h hz;have z81:=p8.size;have hC:=hC.next p8;refine z0b (z0e 2 U (z2r ([xfP 0 13]) h (z0a U z0f) U y5b λb9 Z3 hg a0 l7 hz a h=>?_));have k6:d0<b9:=by have:=a1.lt;omega
 have z82:=l7.size;have a4:=a4.ext (p8.n1 l7);have a3:=a3.ext (p8.n1 l7);have hC:=hC.next l7;refine z0b (z0e 3 U (z0n h (z0a U (z0a U z0f)) co6 (z7j s p 50 _ [xfP 0 13] _ a3 hP t47 a0.sl a4) ?_));rintro _ Z4 ⟨⟨u7,p9,A0,u9,rfl,f7⟩,q83⟩ a h;have z83:=q83.size;have a1:=a1.ext (l7.n1 q83);have a0:=a0.ext q83;have hC:=hC.next q83;obtain⟨rfl,rfl,rfl⟩:=f7.er _ (y2x l3 dd);refine z0b (z0d 4 h U λa h=>z0l 5 h U λa h=>z0l 6 h U λa h=>z0l 7 h U λa h=>z0e 9 U (z0q h U λa h=>?_));refine z0b (z0e 10 U (z0t h U a1 U z9q ?_ (h1:=t40)));clear h a;intro L4 b3 t8 hz a h;have z84:=t8.size;have a0:=a0.fr t8 t26;have hC:=hC.sp t8;clear a1 hz;have a1:Blk L4 d0 _ [_,_,_,_,_,_,_,_]:=b3;clear b3;refine z0b (z0e 11 U (z0q h U λa h=>?_));refine z0b (z0o ?_);clear hC k9 i4 b6 b2;exact bk (h.sub (L':=ll2 16 19) (csu U)) (jE (()) (csu U) ⟨(j6.z5 k2 p8 l7 q83 t8),trivial⟩);refine z0y h y8y U λZ5 a1 l8 hz a h=>?_;obtain⟨d0,hg⟩:∃g,g=A2.heap.size:=⟨_,rfl⟩;rw[<-hg]at a1 h hz;have z85:=l8.size;have hG:=hG.ext l8;have hC:=hC.next l8;refine z0b (z0e 1 U (z0n h (z0a U z0f) (mkC func31) (x6i _ (xfP 0 13) 0 _ hG u6g dd) ?_));rintro _ Z6 ⟨rfl,l9⟩ a h;have z86:=l9.size;have a1:=a1.ext l9;have hC:=hC.next l9;refine z0b (z0e 2 U (z2r ([xfP 0 13]) h (z0a U z0f) U y5b λb9 Z7 hg a0 m0 hz a h=>?_));have k6:d0<b9:=by have:=a1.lt;omega
 have z87:=m0.size;have a4:=a4.ext (l8.n2 l9 m0);have a3:=a3.ext (l8.n2 l9 m0);have hC:=hC.next m0;refine z0b (z0e 3 U (z0n h (z0a U (z0a U z0f)) co6 (z7j s p 50 _ [xfP 0 13] _ a3 hP t47 a0.sl a4) ?_));rintro _ Z8 ⟨⟨u7,p9,A0,u9,rfl,f7⟩,q88⟩ a h;have z88:=q88.size;have a1:=a1.ext (m0.n1 q88);have a0:=a0.ext q88;have hC:=hC.next q88;obtain⟨rfl,rfl,rfl⟩:=f7.er _ (y2x l3 dd);refine z0b (z0d 4 h U λa h=>z0l 5 h U λa h=>z0l 6 h U λa h=>z0l 7 h U λa h=>z0e 9 U (z0q h U λa h=>?_));refine z0b (z0e 10 U (z0t h U a1 U z9q ?_ (h1:=t40)));clear h a;intro L5 b3 t9 hz a h;have z89:=t9.size;have a0:=a0.fr t9 t26;have hC:=hC.sp t9;clear a1 hz;have a1:Blk L5 d0 _ [_,_,_,_,_,_,_,_]:=b3;clear b3;refine z0b (z0e 11 U (z0q h U λa h=>?_));refine z0b (z0o ?_);clear hC k9 i4 b6 b2;exact bk (h.sub (L':=ll2 16 19) (csu U)) (jE (()) (csu U) ⟨(j6.z5 l8 l9 m0 q88 t9),trivial⟩);rintro _u Z9 ⟨H0,_⟩;have z90:=H0.size;refine kpC (ll2 16 19) (csu U) (sq (rbo (r:=0) (L':=[]) (((1=1)/\(13=13))) .nil ?_ ?_));refine mv U (eq' U (mv U (gs 177 U (λg8=>?_) (λg8=>?_))));exact gY U (mv U (gY U (eq' U (pkt U (asg U (rbe U .nil))))));exact gN U (gN U (pkf U (asg U (rbe U .nil))));refine tn (rt (r1 results9 U ?_));exact⟨_,rfl,by first|rfl|exact congrArg Value.bool (decide_eq_true sp0),(u6.z6 a6 k7 q69 p6 p7 H0)⟩
end Go.Proofs.YtlfdhllfmoplgaaGreatDoor
namespace Go.G26
open Go.Lw Go.G21 Go.G08
abbrev Asc (l:List Hd):Prop:=l.Pairwise λx y=>x.s<=y.s
theorem v1b {h x:Hd}:∀ {l:List Hd},x∈z9m h l↔x=h\/x∈l
 | []=>by simp[z9m]
 | y::l=>by
  unfold z9m
  split
  ·simp
  simp only[l66,v1b]
  constructor
  ·rintro(e|e|e)
   ·exact .inr (.inl e)
   ·exact .inl e
   exact .inr (.inr e)
  rintro(e|e|e)
  ·exact .inr (.inl e)
  ·exact .inl e
  exact .inr (.inr e)
theorem v1p {h:Hd}:∀ {l:List Hd},Asc l->Asc (z9m h l)
 | [],_=>by simp[z9m,Asc]
 | y::l,a=>by
  unfold z9m
  have I:=l75.1 a
  split
  ·rename_i c
   refine l75.2 ⟨λz D=>?_,a⟩
   rcases l66.1 D with rfl|D
   ·omega
   have:=I.1 z D;omega
  rename_i c
  refine l75.2 ⟨λz D=>?_,v1p I.2⟩
  rcases v1b.1 D with rfl|D
  ·omega
  exact I.1 z D
theorem v1a {h:Hd}{v:Int}:∀ {l:List Hd},Asc l->(z9m h l).filter (λx=>decide (x.s=v))=l.filter (λx=>decide (x.s=v))++(if h.s=v then [h] else [])
 | [],_=>by simp only[z9m,l54,List.filter_nil,l43,decide_eq_true_eq]
 | y::l,a=>by
  have I:=l75.1 a
  unfold z9m
  split
  ·rename_i c
   by_cases e:h.s=v
   ·have n:(y::l).filter (λx=>decide (x.s=v))=[]:=List.filter_eq_nil_iff.2 λz D=>by
     have:h.s<z.s:=by
      rcases l66.1 D with rfl|D
      ·exact c
      have:=I.1 z D;omega
     simp only[decide_eq_true_eq];omega
    rw[l54,n,if_pos (by simpa using e),if_pos e,l43]
   rw[l54 (x:=h),if_neg (by simpa using e),if_neg e,l27]
  rw[l54,l54,v1a I.2]
  split<;>simp
theorem x0g {v:Int}:∀ {l a:List Hd},Asc a->Asc (l.foldl (λa h=>z9m h a) a)/\(l.foldl (λa h=>z9m h a) a).filter (λx=>decide (x.s=v))=a.filter (λx=>decide (x.s=v))++l.filter (λx=>decide (x.s=v))
 | [],a,h=>⟨h,sp0⟩
 | x::l,a,h=>by
  obtain⟨D,I⟩:=x0g (v:=v) (l:=l) (v1p (h:=x) h)
  refine⟨D,?_⟩
  rw[List.foldl_cons,I,v1a h,l54,l17]
  congr 1
  by_cases e:x.s=v
  ·rw[if_pos e,if_pos (by simpa using e)];rfl
  rw[if_neg e,if_neg (by simpa using e)];rfl
theorem u1i (B:Bd)(r:Int):Asc (z2i B r):=(x0g (v:=0) (l:=x5v B r) (a:=[]) List.Pairwise.nil).1
theorem x9w (B:Bd)(r v:Int):(z2i B r).filter (λx=>decide (x.s=v))=(x5v B r).filter (λx=>decide (x.s=v)):=by
 have:=(x0g (v:=v) (l:=x5v B r) (a:=[]) List.Pairwise.nil).2;unfold z2i z5x;simpa using this
theorem v7f:∀ {l:List Hd} {a:Int},Asc l->(∀x∈l,a<=x.s)->l=l.filter (λx=>decide (x.s=a))++l.filter (λx=>decide (x.s≠a))
 | [],_,_,_=>by simp
 | x::l,a,h,hb=>by
  have I:=l75.1 h
  have D:=v7f I.2 λy O=>hb y (l46 _ O)
  by_cases e:x.s=a
  ·rw[l54,if_pos (by simpa using e),l54 (p:=λx:Hd=>decide (x.s≠a)),if_neg (by simpa using e),l87,<-D]
  have n:l.filter (λx=>decide (x.s=a))=[]:=List.filter_eq_nil_iff.2 λz Z=>by
   have h2:=I.1 z Z
   have h3:=hb x l45
   simp only[decide_eq_true_eq];omega
  rw[n,l43]at D
  rw[l54,if_neg (by simpa using e),n,l43,l54,if_pos (by simpa using e),<-D]
theorem v0h:∀ {n:Nat} {l:List Hd} {a:Int},Asc l->(∀x∈l,a<=x.s/\x.s<a+n)->l=(List.range n).flatMap λ(i:Nat)=>l.filter (λx=>decide (x.s=a+(i:Int)))
 | 0,l,a,_,hb=>by
  cases l with
  | nil=>rfl
  | cons x l=>have:=hb x l45;omega
 | n+1,l,a,h,hb=>by
  have I:=v7f h λx D=>(hb x D).1
  have ih:=v0h (n:=n) (l:=l.filter (λx=>decide (x.s≠a))) (a:=a+1) (h.filter _) λx D=>by
   obtain⟨O,Z⟩:=l91.1 D
   have:=hb x O
   have:x.s≠a:=by simpa using Z
   omega
  rw[List.range_succ_eq_map,l33,l94]
  show l=l.filter (λx=>decide (x.s=a+((0:Nat):Int)))++_
  rw[show a+((0:Nat):Int)=a by omega]
  refine I.trans ?_
  congr 1
  refine ih.trans ?_
  congr 1
  funext i
  rw[List.filter_filter]
  congr 1
  funext x
  rw[show a+((i+1:Nat):Int)=a+1+(i:Int) by omega]
  by_cases e:x.s=a+1+(i:Int)
  ·have:x.s≠a:=by omega
   simp[e];omega
  simp[e]
theorem flat_one {α:Type}{X:List α}:∀ {n k:Nat},((List.range n).flatMap λi=>if i=k then X else [])=if k<n then X else []
 | 0,k=>by simp
 | n+1,k=>by
  rw[l73,l35,flat_one (n:=n) (k:=k)]
  simp only[l33,l102,l27]
  by_cases e:n=k
  ·subst e;simp
  rw[if_neg e,l27]
  by_cases h:k<n
  ·rw[if_pos h,if_pos oo]
  rw[if_neg h,if_neg oo]
theorem j4d (b r v:Int)(l:Bed)(i:Nat):(hds b r l i).filter (λx=>decide (x.s=v))=(List.range i).flatMap λ(k:Nat)=>if z2c b ((k:Int)+1) r=v then (l.getD k []).map (hdS b r k) else []:=by
 unfold hds;rw[List.filter_flatMap];congr 1;funext k;by_cases e:z2c b ((k:Int)+1) r=v;rw[if_pos e];refine List.filter_eq_self.2 λx D=>?_;obtain⟨y,_,rfl⟩:=l48.1 D;exact decide_eq_true e;rw[if_neg e];refine List.filter_eq_nil_iff.2 λx D=>?_;obtain⟨y,_,rfl⟩:=l48.1 D;exact λh=>e (of_decide_eq_true h)
theorem z5z {α β:Type}{f g:α->List β}:∀ {l:List α},(∀x∈l,f x=g x)->l.flatMap f=l.flatMap g
 | [],_=>rfl
 | x::l,h=>by rw[l33,l33,h x l45,z5z λy D=>h y (l46 _ D)]
theorem y9p (b r v:Int)(l:Bed)(i:Nat):((hds b r l i).filter (λx=>decide (x.s=v))).map Hd.id=(List.range i).flatMap λ(k:Nat)=>if z2c b ((k:Int)+1) r=v then l.getD k [] else []:=by
 rw[j4d,List.map_flatMap];congr 1;funext k;split;rw[l81];exact(List.map_congr_left λx _=>rfl).trans (List.map_id _);rfl
def stk (l:Bed)(n:Int):List LId:=if 1<=n/\n<=40 then l.getD (n-1).toNat [] else []
theorem x2o {n r:Int}(hn:1<=n/\n<=40)(D:-4<=r/\r<=4):z2c 0 n r=4*n+2:=by
 unfold z2c;rw[if_neg,if_pos U];intro h;rcases h with h|h
 exact h (y7c ⟨.inl U,hn.1,hn.2⟩);exact h D
theorem x4w {n r:Int}(hn:1<=n/\n<=40)(D:-4<=r/\r<=4):z2c 1 n r=4*(n+r):=by
 unfold z2c;rw[if_neg,if_neg dd];intro h;rcases h with h|h
 exact h (y7c ⟨.inr U,hn.1,hn.2⟩);exact h D
theorem y0f {b r v n:Int}{l:Bed}(hl:l.length<=40)(Z:∀m:Int,1<=m->m<=40->(z2c b m r=v↔m=n)):((hds b r l l.length).filter (λx=>decide (x.s=v))).map Hd.id=stk l n:=by
 rw[y9p];unfold stk;by_cases hn:1<=n/\n<=40;rw[if_pos hn,z5z (g:=λ(k:Nat)=>if k=(n-1).toNat then l.getD (n-1).toNat [] else []) (λk I=>by
  have O:=l61.1 I;have h:=Z ((k:Int)+1) oo oo;by_cases e:z2c b ((k:Int)+1) r=v;have D:k=(n-1).toNat:=by have:=h.1 e;omega
  rw[if_pos e,if_pos D,<-D];rw[if_neg e,if_neg (λD=>e (h.2 oo))]),flat_one]
 split;rfl;rw[List.getD,l26 oo];rfl;rw[if_neg hn];refine List.flatMap_eq_nil_iff.2 λk I=>?_;have O:=l61.1 I;rw[if_neg];intro h;have:=(Z ((k:Int)+1) oo oo).1 h;omega
theorem z5y {l:Bed}{n:Int}(h:¬(1<=n/\n<=40):=by omega):stk l n=[]:=if_neg h
theorem x5j {α:Type}{f:Nat->List α}:∀n:Nat,(List.range (4*n)).flatMap f=(List.range n).flatMap λj=>f (4*j)++f (4*j+1)++f (4*j+2)++f (4*j+3)
 | 0=>rfl
 | n+1=>by
  rw[show 4*(n+1)=4*n+1+1+1+1 by omega,l73,l73,l73,l73,l73 (n:=n)]
  simp only[l35,x5j n,l33,l102,l27,l17]
theorem y4v {B:Bd}{r:Int}(hf:B.f.length<=40)(hb:B.b.length<=40)(O:-4<=r/\r<=4):(z2i B r).map Hd.id=(List.range 50).flatMap λ(j:Nat)=>stk B.b ((j:Int)-3-r)++stk B.f ((j:Int)-3):=by
 have a0:∀x∈z2i B r,-12<=x.s/\x.s < -12+((4*50:Nat):Int):=λx hx=>by
  have D:x∈(z2i B r).filter (λy=>decide (y.s=x.s)):=l91.2 ⟨hx,sp0⟩;rw[x9w]at D;have I:=(l91.1 D).1;unfold x5v hds at I;rcases l22.1 I with h|h
  obtain⟨k,hk,Z⟩:=l68.1 h;obtain⟨y,_,rfl⟩:=l48.1 Z;have a1:=l61.1 hk;show -12<=z2c 0 ((k:Int)+1) r/\z2c 0 ((k:Int)+1) r<_;rw[x2o oo O];omega;obtain⟨k,hk,Z⟩:=l68.1 h;obtain⟨y,_,rfl⟩:=l48.1 Z;have a1:=l61.1 hk;show -12<=z2c 1 ((k:Int)+1) r/\z2c 1 ((k:Int)+1) r<_;rw[x4w oo O];omega
 have e:=v0h (u1i B r) a0;rw[e,List.map_flatMap,x5j];refine z5z λj _=>?_;have a2:∀v:Int,((z2i B r).filter (λx=>decide (x.s=v))).map Hd.id=((hds 0 r B.f B.f.length).filter (λx=>decide (x.s=v))).map Hd.id++((hds 1 r B.b B.b.length).filter (λx=>decide (x.s=v))).map Hd.id:=λv=>by
  rw[x9w];unfold x5v;rw[List.filter_append,l39]
 simp only[a2];rw[y0f (n:=0) hf (λm D I=>by rw[x2o ⟨D,I⟩ O];omega),y0f (n:=(j:Int)-3-r) hb (λm D I=>by rw[x4w ⟨D,I⟩ O];omega),
  y0f (n:=0) hf (λm D I=>by rw[x2o ⟨D,I⟩ O];omega),y0f (n:=0) hb (λm D I=>by rw[x4w ⟨D,I⟩ O];omega),
  y0f (n:=(j:Int)-3) hf (λm D I=>by rw[x2o ⟨D,I⟩ O];omega),y0f (n:=0) hb (λm D I=>by rw[x4w ⟨D,I⟩ O];omega),
  y0f (n:=0) hf (λm D I=>by rw[x2o ⟨D,I⟩ O];omega),y0f (n:=0) hb (λm D I=>by rw[x4w ⟨D,I⟩ O];omega)]
 simp only[z5y (h:=(show ¬(1<=(0:Int)/\(0:Int)<=40) by omega)),l27,l43]
def Adj:List LId->List Cx->List LId->Prop
  | o,[],o'=>o=o'
  | o,c::cs,o'=>∃P S,o=P++c.a::c.b::S/\Adj (P++c.b::c.a::S) cs o'
theorem Adj.app:∀ {cs ds:List Cx} {o o1 D:List LId},Adj o cs o1->Adj o1 ds D->Adj o (cs++ds) D
 | [],_,_,_,_,h1,h2=>by cases h1;exact h2
 | _::_,_,_,_,_,⟨P,S,e,h1⟩,h2=>⟨P,S,e,h1.app h2⟩
theorem j6k {n:Int}{x:LId}:∀ {t P S:List LId},Adj (P++x::(t++S)) (t.map λo=>⟨x,o,n⟩) (P++(t++x::S))
 | [],_,_=>rfl
 | o::t,P,S=>⟨P,t++S,rfl,by
  have:=j6k (n:=n) (x:=x) (t:=t) (P:=P++[o]) (S:=S)
  simpa using this⟩
theorem x4u {n:Int}{t:List LId}:∀ {xs P S:List LId},Adj (P++(xs++(t++S))) ((xs.flatMap λx=>t.reverse.map λo=>(⟨x,o,n⟩:Cx)).reverse) (P++(t++(xs++S)))
 | [],_,_=>rfl
 | x::xs,P,S=>by
  have D:=x4u (n:=n) (t:=t) (xs:=xs) (P:=P++[x]) (S:=S)
  have I:=j6k (n:=n) (x:=x) (t:=t) (P:=P) (S:=xs++S)
  rw[l33,List.reverse_append]
  have e:(t.reverse.map λo=>(⟨x,o,n⟩:Cx)).reverse=t.map λo=>⟨x,o,n⟩:=by rw[<-List.map_reverse,List.reverse_reverse]
  rw[e]
  refine Adj.app (o1:=P++x::(t++(xs++S))) ?_ (by simpa using I)
  simpa using D
theorem j7z {n:Int}{x:LId}:∀ {t P S:List LId},Adj (P++(t++x::S)) (t.reverse.map λo=>⟨o,x,n⟩) (P++x::(t++S))
 | [],_,_=>rfl
 | o::t,P,S=>by
  have D:=j7z (n:=n) (x:=x) (t:=t) (P:=P++[o]) (S:=S)
  rw[List.reverse_cons,l39]
  refine Adj.app (o1:=P++o::x::(t++S)) (by simpa using D) ⟨P,t++S,rfl,?_⟩
  exact U
theorem x3z {n:Int}{t:List LId}:∀ {xs P S:List LId},Adj (P++(t++(xs++S))) (xs.flatMap λx=>t.reverse.map λo=>(⟨o,x,n⟩:Cx)) (P++(xs++(t++S)))
 | [],_,_=>rfl
 | x::xs,P,S=>by
  have D:=j7z (n:=n) (x:=x) (t:=t) (P:=P) (S:=xs++S)
  have I:=x3z (n:=n) (t:=t) (xs:=xs) (P:=P++[x]) (S:=S)
  rw[l33]
  refine Adj.app (o1:=P++x::(t++(xs++S))) (by simpa using D) ?_
  simpa using I
abbrev Bk:=List LId×List LId
theorem j6q {n:Int}:∀ {bs:List Bk} {P:List LId},Adj (P++bs.flatMap λb=>b.1++b.2) ((bs.flatMap λb=>b.1.flatMap λx=>b.2.reverse.map λo=>(⟨x,o,n⟩:Cx)).reverse) (P++bs.flatMap λb=>b.2++b.1)
 | [],_=>rfl
 | b::bs,P=>by
  have D:=j6q (n:=n) (bs:=bs) (P:=P++b.1++b.2)
  have I:=x4u (n:=n) (t:=b.2) (xs:=b.1) (P:=P) (S:=bs.flatMap λb=>b.2++b.1)
  rw[l33,l33,l33,List.reverse_append]
  refine Adj.app (o1:=P++(b.1++(b.2++bs.flatMap λb=>b.2++b.1))) ?_ (by simpa using I)
  simpa using D
theorem j7o {n:Int}:∀ {bs:List Bk} {P:List LId},Adj (P++bs.flatMap λb=>b.2++b.1) (bs.flatMap λb=>b.1.flatMap λx=>b.2.reverse.map λo=>(⟨o,x,n⟩:Cx)) (P++bs.flatMap λb=>b.1++b.2)
 | [],_=>rfl
 | b::bs,P=>by
  have D:=x3z (n:=n) (t:=b.2) (xs:=b.1) (P:=P) (S:=bs.flatMap λb=>b.2++b.1)
  have I:=j7o (n:=n) (bs:=bs) (P:=P++b.1++b.2)
  rw[l33,l33,l33]
  refine Adj.app (o1:=P++(b.1++(b.2++bs.flatMap λb=>b.2++b.1))) (by simpa using D) ?_
  simpa using I
theorem y6a {α:Type}{F:Nat->List α}{n c m:Nat}(hm:n+c<=m)(h1:∀j,j<c->F j=[])(O:∀j,n+c<=j->j<m->F j=[]):(List.range m).flatMap F=(List.range n).flatMap λk=>F (k+c):=by
 obtain⟨e,rfl⟩:∃e,m=n+c+e:=⟨m-(n+c),oo⟩;have D:∀ {k:Nat},k<=e->(List.range (n+c+k)).flatMap F=(List.range (n+c)).flatMap F:=by
  intro k;induction k with
  | zero=>intro _;rfl
  | succ k ih=>
   intro hk;rw[show n+c+(k+1)=(n+c+k)+1 by omega,l73,l35,ih oo];simp only[l33,l102,O (n+c+k) oo oo,l27]
 have I:∀ {k:Nat},(List.range (k+c)).flatMap F=(List.range k).flatMap λk=>F (k+c):=by
  intro k;induction k with
  | zero=>
   rw[l67];exact List.flatMap_eq_nil_iff.2 λj Z=>h1 j (l61.1 Z)
  | succ k ih=>
   rw[show k+1+c=(k+c)+1 by omega,l73,l73,l35,l35,ih];rfl
 rw[D (l21 _),I]
theorem v0f {l:Bed}{k:Nat}(D:k<40):stk l ((k:Int)+1)=l.getD k []:=by
 unfold stk;rw[if_pos oo,show ((k:Int)+1-1).toNat=k by omega]
theorem v5v (B:Bd)(n:Int):B.atC 0 n=stk B.f n:=by
 unfold Bd.atC stk;by_cases h:1<=n/\n<=40;rw[if_pos (y7c ⟨.inl U,h.1,h.2⟩),if_pos h];rfl;rw[if_neg h,if_neg (λe=>h ⟨(z2t e).2.1,(z2t e).2.2⟩)]
theorem u4d {B:Bd}{r d:Int}(hf:B.f.length<=40)(hb:B.b.length<=40)(hr:-4<=r/\r<=4)(hd:d=0\/d=1)(I:-4<=r+stI d/\r+stI d<=4):Adj ((z2i B r).map Hd.id) (z2m B r d) ((z2i B (r+stI d)).map Hd.id):=by
 rw[y4v hf hb hr,y4v hf hb I];rcases hd with rfl|rfl
 have hs:stI 0 = -1:=rfl;rw[hs]at I ⊢;let bs:List Bk:=(List.range 50).map λ(j:Nat)=>(stk B.b ((j:Int)-2-r),stk B.f ((j:Int)-3));have O:((List.range 50).flatMap λ(j:Nat)=>stk B.b ((j:Int)-3-r)++stk B.f ((j:Int)-3))=[]++bs.flatMap λb=>b.2++b.1:=by
  have k:∀n:Nat,((List.range n).flatMap λ(j:Nat)=>stk B.b ((j:Int)-3-r)++stk B.f ((j:Int)-3))++stk B.b ((n:Int)-3-r)=(List.range n).flatMap λ(j:Nat)=>stk B.f ((j:Int)-3)++stk B.b ((j:Int)-2-r):=by
   intro n;induction n with
   | zero=>simp only[List.range_zero,l102,l43];exact z5y
   | succ n ih=>
    rw[l73,l35,l35,<-ih];simp only[l33,l102,l27,l17];rw[show ((n+1:Nat):Int)-3-r=(n:Int)-2-r by omega]
  have D:=k 50;rw[z5y (l:=B.b) (n:=((50:Nat):Int)-3-r),l27]at D;rw[D,l43,l94]
 have Z:((List.range 50).flatMap λ(j:Nat)=>stk B.b ((j:Int)-3-(r + -1))++stk B.f ((j:Int)-3))=[]++bs.flatMap λb=>b.1++b.2:=by
  rw[l43,l94];refine z5z λj _=>?_;rw[show (j:Int)-3-(r + -1)=(j:Int)-2-r by omega]
 have e3:z2m B r 0=bs.flatMap λb=>b.1.flatMap λx=>b.2.reverse.map λo=>(⟨o,x,1⟩:Cx):=by
  rw[l94,y6a (n:=B.b.length) (c:=(3+r).toNat) oo (λj hj=>by rw[z5y (l:=B.b)];rfl) (λj h1 h2=>by
   by_cases h:(j:Int)-2-r<=40;have:stk B.b ((j:Int)-2-r)=[]:=by
    unfold stk;rw[if_pos oo,List.getD,l26 oo];rfl
   rw[this];rfl;rw[z5y (l:=B.b)];rfl)]
  unfold z2m x5r;rw[if_neg dd];refine z5z λk hk=>?_;have a0:=l61.1 hk;unfold u0j y1d;rw[if_pos U,v5v,show (((k+(3+r).toNat:Nat):Int)-2-r)=(k:Int)+1 by omega,v0f oo,show (((k+(3+r).toNat:Nat):Int)-3)=(k:Int)+1+r-1 by omega];rfl
 rw[O,Z,e3];exact j7o;have hs:stI 1=1:=rfl;rw[hs]at I ⊢;let bs:List Bk:=(List.range 50).map λ(j:Nat)=>(stk B.b ((j:Int)-3-r),stk B.f ((j:Int)-3));have O:((List.range 50).flatMap λ(j:Nat)=>stk B.b ((j:Int)-3-r)++stk B.f ((j:Int)-3))=[]++bs.flatMap λb=>b.1++b.2:=by
  rw[l43,l94]
 have Z:((List.range 50).flatMap λ(j:Nat)=>stk B.b ((j:Int)-3-(r+1))++stk B.f ((j:Int)-3))=[]++bs.flatMap λb=>b.2++b.1:=by
  have k:∀n:Nat,(List.range n).flatMap (λ(j:Nat)=>stk B.f ((j:Int)-3)++stk B.b ((j:Int)-3-r))=((List.range n).flatMap λ(j:Nat)=>stk B.b ((j:Int)-3-(r+1))++stk B.f ((j:Int)-3))++stk B.b ((n:Int)-3-(r+1)):=by
   intro n;induction n with
   | zero=>simp only[List.range_zero,l102,l43];exact(z5y).symm
   | succ n ih=>
    rw[l73,l35,l35,ih];simp only[l33,l102,l27,l17];rw[show ((n+1:Nat):Int)-3-(r+1)=(n:Int)-3-r by omega]
  have D:=k 50;rw[z5y (l:=B.b) (n:=((50:Nat):Int)-3-(r+1)),l27]at D;rw[l43,l94];exact D.symm
 have e3:z2m B r 1=(bs.flatMap λb=>b.1.flatMap λx=>b.2.reverse.map λo=>(⟨x,o,-1⟩:Cx)).reverse:=by
  rw[l94,y6a (n:=B.b.length) (c:=(4+r).toNat) oo (λj hj=>by rw[z5y (l:=B.b)];rfl) (λj h1 h2=>by
   by_cases h:(j:Int)-3-r<=40;have:stk B.b ((j:Int)-3-r)=[]:=by
    unfold stk;rw[if_pos oo,List.getD,l26 oo];rfl
   rw[this];rfl;rw[z5y (l:=B.b)];rfl)]
  unfold z2m x5r;rw[if_pos U];congr 1;refine z5z λk hk=>?_;have a0:=l61.1 hk;unfold u0j y1d;rw[if_neg dd,v5v,show (((k+(4+r).toNat:Nat):Int)-3-r)=(k:Int)+1 by omega,v0f oo,show (((k+(4+r).toNat:Nat):Int)-3)=(k:Int)+1+r by omega];rfl
 rw[O,Z,e3];exact j6q
theorem j8t {P S:List LId}{a:LId}(h:a∉P):y3r (P++a::S) a=(P.length:Int):=by
 unfold y3r;rw[if_pos sp0,List.idxOf_append,if_neg h,List.idxOf_cons_self,l67]
theorem x6x {P S:List LId}{a b:LId}:y7s (P++a::b::S) (P.length+1)=P++b::a::S:=by
 unfold y7s;have D:(P++a::b::S).getD (P.length+1) id0=b:=by
  rw[List.getD,l29 oo,l115];rfl
 have I:(P++a::b::S).getD P.length id0=a:=by
  rw[List.getD,l29 oo,Nat.sub_self];rfl
 rw[l70,D,I,l84 _ _ oo,Nat.sub_self,l84 _ _ oo,l115];rfl
theorem j0f {P S:List LId}{w:List Int}{c:Cx}(h:c.a∉P):y2n (P++c.a::c.b::S,w) c=(P++c.b::c.a::S,w++[((P.length:Int)+1)*c.n]):=by
 unfold y2n;simp only[j8t h];rw[if_pos ⟨oo,by simp only[l13,l30];omega⟩,show ((P.length:Int)+1).toNat=P.length+1 by omega,x6x]
theorem v2m {P S:List LId}{a b:LId}(h:(P++a::b::S).Nodup):(P++b::a::S).Nodup:=by
 have p:(P++b::a::S).Perm (P++a::b::S):=List.Perm.append_left P (List.Perm.swap a b S);exact p.nodup_iff.2 h
theorem u3f {P S:List LId}{a:LId}(h:(P++a::S).Nodup):a∉P:=λD=>by
 have:=(l78.1 h).2.2 a D a sp0
 exact this U
def nbr (o:List LId)(a b:LId):Option Nat:=(List.range (o.length-1)).find? λn=>decide (o.getD n id0=a/\o.getD (n+1) id0=b)
def x4v (st:St)(c:Cx):St:=match nbr st.1 c.a c.b with
  | some n=>(y7s st.1 (n+1),st.2++[c.n*((n:Int)+1)])
  | none=>st
theorem v0v {P S:List LId}{a:LId}:(P++a::S).getD P.length id0=a:=by
 rw[List.getD,l29 oo,Nat.sub_self];rfl
theorem x4f {P S:List LId}{a b:LId}:(P++a::b::S).getD (P.length+1) id0=b:=by
 rw[List.getD,l29 oo,l115];rfl
theorem j9q {P S:List LId}{a b:LId}(h:a∉P):nbr (P++a::b::S) a b=some P.length:=by
 unfold nbr;rw[List.find?_range_eq_some];refine⟨by simp only[v0v,x4f];simp,l61.2 (by simp only[l13,l30];omega),λj D=>?_⟩;have I:(P++a::b::S).getD j id0≠a:=λe=>h (by
  rw[List.getD,l38 D,l10 D]at e;exact e▸l95 D)
 rw[decide_eq_false λe=>I e.1];rfl
def y2v (l:List Nat)(k:Nat):List Nat:=(l.set (k-1) (l.getD k 0)).set k (l.getD (k-1) 0)
def flw (l:List Nat)(w:List Int):List Nat:=w.foldl (λl k=>y2v l k.natAbs) l
theorem u5d {f:Nat->LId}{l:List Nat}{k:Nat}(I:1<=k/\k<l.length):y7s (l.map f) k=(y2v l k).map f:=by
 unfold y7s y2v;have e:∀j,j<l.length->(l.map f).getD j id0=f (l.getD j 0):=λj D=>by
  rw[List.getD,List.getD,l23,l10 D];rfl
 rw[e k I.2,e (k-1) oo,l108,l108]
theorem y5g (l:List Nat)(k:Nat):(y2v l k).length=l.length:=by unfold y2v;simp
def sgn (k:Int):Int:=if k<0 then -1 else 1
def lnk:List Nat->List Int->Nat->Nat->Int
  | _,[],_,_=>0
  | l,x::u,i,k=>(if (l.getD (x.natAbs-1) 0=i/\l.getD x.natAbs 0=k)\/(l.getD (x.natAbs-1) 0=k/\l.getD x.natAbs 0=i) then sgn x else 0)+lnk (y2v l x.natAbs) u i k
def crS (cs:List Cx)(a b:LId):Int:=(cs.map λc=>if (c.a=a/\c.b=b)\/(c.a=b/\c.b=a) then c.n else 0).sum
abbrev Sg (cs:List Cx):Prop:=∀c∈cs,c.n=1\/c.n = -1
theorem x2j {f:Nat->LId}:∀ {cs:List Cx} {o o':List LId} {l:List Nat} {w:List Int},o=l.map f->o.Nodup->Adj o cs o'->Sg cs->
    ∃u,z3f (o,w) cs=(o',w++u)/\cs.foldl x4v (o,w)=(o',w++u)/\o'=(flw l u).map f/\(flw l u).length=l.length/\u.length=cs.length/\(∀k∈u,1<=k.natAbs/\k.natAbs<o.length)/\o'.Nodup/\o'.Perm o/\
      ∀i k,i∈l->k∈l->lnk l u i k=crS cs (f i) (f k)
  | [],o,o',l,w,e,hn,h,_=>by
    cases h
    exact⟨[],by simp[z3f],sp0,e,rfl,rfl,λk D=>(by cases D),hn,.refl _,λ_ _ _ _=>rfl⟩
  | c::cs,o,o',l,w,e,hn,⟨P,S,e1,h⟩,hs=>by
    have a0:=hs c l45
    have b3:c.a∉P:=u3f (e1▸hn)
    have h1:=j0f (w:=w) (S:=S) b3
    have b0:o.length=l.length:=by rw[e,l18]
    have b1:P.length+1<l.length:=by rw[<-b0,e1];simp only[l13,l30];omega
    have O:(((P.length:Int)+1)*c.n).natAbs=P.length+1:=by
      rcases a0 with h|h<;>rw[h]<;>omega
    have b4:sgn (((P.length:Int)+1)*c.n)=c.n:=by
      unfold sgn
      rcases a0 with h|h<;>rw[h]
      · rw[if_neg oo]
      · rw[if_pos oo]
    have e2:P++c.b::c.a::S=(y2v l (P.length+1)).map f:=by
      rw[<-u5d ⟨oo,b1⟩,<-e,e1,x6x]
    obtain⟨u,a1,a2,a3,a4,a5,a6,a7,a8,a9⟩:=x2j (w:=w++[((P.length:Int)+1)*c.n]) e2 (v2m (e1▸hn)) h λx O=>hs x (l46 _ O)
    have hf:∀j,j<l.length->f (l.getD j 0)=o.getD j id0:=λj Z=>by
      rw[e,List.getD,List.getD,l23,l10 Z];rfl
    have fa:f (l.getD P.length 0)=c.a:=by rw[hf _ oo,e1,v0v]
    have fb:f (l.getD (P.length+1) 0)=c.b:=by rw[hf _ b1,e1,x4f]
    refine⟨(((P.length:Int)+1)*c.n)::u,?_,?_,?_,?_,?_,?_,a7,?_,?_⟩
    · rw[e1]
      show z3f (y2n (P++c.a::c.b::S,w) c) cs=_
      rw[h1,a1,l17];rfl
    · rw[e1,List.foldl_cons]
      have:x4v (P++c.a::c.b::S,w) c=(P++c.b::c.a::S,w++[((P.length:Int)+1)*c.n]):=by
        unfold x4v
        simp only[j9q b3,x6x,Int.mul_comm]
      rw[this,a2,l17];rfl
    · show o'=(flw (y2v l (((P.length:Int)+1)*c.n).natAbs) u).map f
      rw[O];exact a3
    · show (flw (y2v l (((P.length:Int)+1)*c.n).natAbs) u).length=_
      rw[O,a4,y5g]
    · rw[l30,a5,l30]
    · intro k D
      rcases l66.1 D with rfl|D
      · rw[O];omega
      · have:=a6 k D
        rw[e1];simp only[l13,l30]at this ⊢;omega
    · exact e1▸a8.trans (List.Perm.append_left P (List.Perm.swap ..))
    · intro i k hi D
      have hm:∀ {z},z∈l->z∈y2v l (P.length+1):=λ{z} hz=>by
        obtain⟨j,Z,rfl⟩:=l25 hz
        have g:∀m,m<l.length->l.getD m 0=l[m]!:=λm hm=>by rw[List.getD,l10 hm,List.getElem!_eq_getElem?_getD,l10 hm];rfl
        unfold y2v
        by_cases j1:j=P.length+1
        · refine l109.2 ⟨P.length,?_⟩
          subst j1
          rw[l113 oo,l70,l104 oo,List.getD,l10 Z];rfl
        · by_cases j2:j=P.length
          · refine l109.2 ⟨P.length+1,?_⟩
            subst j2
            rw[l104 t23,l70,List.getD,l10 Z];rfl
          · refine l109.2 ⟨j,?_⟩
            rw[l113 oo,l113 oo,l10 Z]
      have I:∀ {x z},x∈l->z∈l->(f x=f z↔x=z):=λ{x z} O hz=>⟨λhe=>by
        obtain⟨j,Z,rfl⟩:=l25 O
        obtain⟨m,hm,rfl⟩:=l25 hz
        have b2:=hn
        rw[e]at b2
        have:=(List.getElem_inj (h₀:=by rw[l18];exact Z) (h₁:=by rw[l18];exact hm) b2).1 (by rw[List.getElem_map,List.getElem_map];exact he)
        subst this;rfl,λhe=>he▸rfl⟩
      have ga:l.getD P.length 0∈l:=by rw[List.getD,l10 oo];exact l95 oo
      have gb:l.getD (P.length+1) 0∈l:=by rw[List.getD,l10 oo];exact l95 oo
      show (if _ then sgn _ else 0)+lnk (y2v l (((P.length:Int)+1)*c.n).natAbs) u i k=(_::_:List Int).sum
      rw[O,b4,a9 i k (hm hi) (hm D),List.sum_cons,l70]
      congr 1
      have q1:(l.getD P.length 0=i↔c.a=f i):=by rw[<-fa];exact(I ga hi).symm
      have q2:(l.getD P.length 0=k↔c.a=f k):=by rw[<-fa];exact(I ga D).symm
      have q3:(l.getD (P.length+1) 0=i↔c.b=f i):=by rw[<-fb];exact(I gb hi).symm
      have q4:(l.getD (P.length+1) 0=k↔c.b=f k):=by rw[<-fb];exact(I gb D).symm
      simp only[q1,q2,q3,q4]
end Go.G26
namespace Go.G26
open Go.Lw Go.G21 Go.G08 Go.G09
def lkC (l:List Cx)(a b:LId):Int:=z6q l (z3q ⟨a,b,0⟩).1 (z3q ⟨a,b,0⟩).2
theorem v0y {c:Cx}{a b:LId}(h:a≠b):z3q c=z3q ⟨a,b,0⟩↔(c.a=a/\c.b=b)\/(c.a=b/\c.b=a):=by
 have O:=x5m h;have Z:=x5m (l44 h);unfold z3q;by_cases k:0<z5o a b;rw[if_pos (c:=0<z5o (⟨a,b,0⟩:Cx).a (⟨a,b,0⟩:Cx).b) k];by_cases k2:0<z5o c.a c.b;rw[if_pos k2];simp only[l93];constructor;rintro⟨D,I⟩;exact .inl ⟨I,D⟩;rintro(⟨D,I⟩|⟨D,I⟩);exact⟨I,D⟩;rw[D,I]at k2;exact absurd k2 (O.1 k);rw[if_neg k2];simp only[l93];constructor;rintro⟨D,I⟩;exact .inr ⟨D,I⟩;rintro(⟨D,I⟩|⟨D,I⟩);rw[D,I]at k2;exact absurd k k2;exact⟨D,I⟩;rw[if_neg (c:=0<z5o (⟨a,b,0⟩:Cx).a (⟨a,b,0⟩:Cx).b) k];by_cases k2:0<z5o c.a c.b;rw[if_pos k2];simp only[l93];constructor;rintro⟨D,I⟩;exact .inr ⟨I,D⟩;rintro(⟨D,I⟩|⟨D,I⟩);rw[D,I]at k2;exact absurd k2 k;exact⟨I,D⟩;rw[if_neg k2];simp only[l93];constructor;rintro⟨D,I⟩;exact .inl ⟨D,I⟩;rintro(⟨D,I⟩|⟨D,I⟩);exact⟨D,I⟩;rw[D,I]at k2;exact absurd (Z.2 k) k2
theorem v6p {a b:LId}(h:a≠b):∀ {cs l l':List Cx},z4i l cs=.ok l'->lkC l' a b=lkC l a b+crS cs a b
 | [],l,l',e=>by cases e;simp[crS]
 | c::cs,l,l',e=>by
  rw[v2e]at e
  cases e1:y4n l c with
  | error x=>rw[e1]at e;cases e
  | ok l1=>
   rw[e1]at e
   have D:=u1n e1 (z3q ⟨a,b,0⟩).1 (z3q ⟨a,b,0⟩).2
   rw[v6p h e]
   unfold lkC crS at *
   rw[D,l36,List.sum_cons]
   by_cases k:(c.a=a/\c.b=b)\/(c.a=b/\c.b=a)
   ·rw[if_pos k,if_pos ((v0y h).2 k)];omega
   rw[if_neg k,if_neg (λe=>k ((v0y h).1 e))];omega
theorem j0j (B:Bd)(r d:Int):Sg (z2m B r d):=by
 have h:∀c∈x5r B r d B.b.length,c.n=1\/c.n = -1:=λc D=>by
  obtain⟨k,_,I⟩:=l68.1 D;obtain⟨x,_,O⟩:=l68.1 I;obtain⟨o,_,rfl⟩:=l48.1 O;unfold x7k;split;exact .inl U;exact .inr U
 intro c D;unfold z2m at D;split at D;exact h c (l119.1 D);exact h c D
def j6y (B:Bd)(d:Int):Nat->Int->St->St
  | 0,_,st=>st
  | n+1,r,st=>j6y B d n (r+stI d) ((z2m B r d).foldl x4v st)
def y2z (B:Bd)(r ro:Int)(st:St):St:=j6y B (if ro<r then 0 else 1) (if ro<r then r-ro else ro-r).toNat r st
def z7n:MSt->St->List MOp->St
  | _,st,[]=>st
  | p,st,o::l=>
    let st':=if o.k=3 then y2z p.B p.rk o.r st else st
    match doM p o with
      | .error _=>z7n p st' l
      | .ok q=>z7n q st' l
theorem x2g {p:MSt}(h:MInv p):(z5e p).Nodup:=(y4u p.B p.rk).nodup_iff.2 h.B.nd
theorem x6a:∀ {u v:List Int} {l:List Nat} {i k:Nat},lnk l (u++v) i k=lnk l u i k+lnk (flw l u) v i k
 | [],v,l,i,k=>by simp[lnk,flw]
 | x::u,v,l,i,k=>by
  show (if _ then sgn x else 0)+lnk (y2v l x.natAbs) (u++v) i k=(if _ then sgn x else 0)+lnk (y2v l x.natAbs) u i k+lnk (flw (y2v l x.natAbs) u) v i k
  rw[x6a,Int.add_assoc]
theorem j3x (l:List Nat)(u v:List Int):flw l (u++v)=flw (flw l u) v:=by unfold flw;rw[l117]
theorem y1j:∀ {u:List Int} {l:List Nat},(flw l u).length=l.length
 | [],_=>rfl
 | x::u,l=>by show (flw (y2v l x.natAbs) u).length=_;rw[y1j,y5g]
theorem v4p {l:List Nat}{i:Nat}{u:List Int}(hb:∀k∈u,1<=k.natAbs/\k.natAbs<l.length)(hi:i∈l):i∈flw l u:=by
 induction u generalizing l with
 | nil=>exact hi
 | cons x u ih=>
  have O:=hb x l45;refine ih (l:=y2v l x.natAbs) (λk I=>by rw[y5g];exact hb k (l46 _ I)) ?_;obtain⟨j,D,rfl⟩:=l25 hi;unfold y2v;by_cases j1:j=x.natAbs;refine l109.2 ⟨x.natAbs-1,?_⟩;subst j1;rw[l113 oo,l104 oo,List.getD,l10 D];rfl;by_cases j2:j=x.natAbs-1;refine l109.2 ⟨x.natAbs,?_⟩;subst j2;rw[l104 t23,List.getD,l10 D];rfl;refine l109.2 ⟨j,?_⟩;rw[l113 oo,l113 oo,l10 D]
structure Wd (f:Nat->LId) (l:List Nat) (u:List Int) (p q:MSt):Prop where
  ord:z5e q=(flw l u).map f
  bd:∀k∈u,1<=k.natAbs/\k.natAbs<l.length
  lk:∀i k,i∈l->k∈l->f i≠f k->lkC q.cr (f i) (f k)=lkC p.cr (f i) (f k)+lnk l u i k
theorem Wd.app {f:Nat->LId}{l:List Nat}{u v:List Int}{p q r:MSt}(h1:Wd f l u p q)(O:Wd f (flw l u) v q r):Wd f l (u++v) p r:=
 ⟨by rw[O.ord,j3x],λk I=>by
  rcases l22.1 I with h|h
  ·exact h1.bd k h
  ·have:=O.bd k h;rw[y1j]at this;exact this,λi k Z I D=>by
  rw[O.lk i k (v4p h1.bd Z) (v4p h1.bd I) D,h1.lk i k Z I D,x6a];omega⟩
theorem Wd.nil {f:Nat->LId}{l:List Nat}{p q:MSt}(h:z5e q=l.map f)(D:q.cr=p.cr):Wd f l [] p q:=⟨h,λk I=>(by cases I),λi k _ _ _=>by rw[D];show _=_+(0:Int);omega⟩
theorem v3b {f:Nat->LId}{p q:MSt}{d:Int}{l:List Nat}{w:List Int}(h:MInv p)(hd:d=0\/d=1)(hr:-4<=p.rk+stI d/\p.rk+stI d<=4)(e:z6h p d=.ok q)(ho:z5e p=l.map f) :
    ∃u,z3f (z5e p,w) (z2m p.B p.rk d)=(z5e q,w++u)/\(z2m p.B p.rk d).foldl x4v (z5e p,w)=(z5e q,w++u)/\Wd f l u p q:=by
  have Z:q.rk=p.rk+stI d/\q.B=p.B/\z4i p.cr (z2m p.B p.rk d)=.ok q.cr:=by
    unfold z6h at e
    split at e
    · cases e
    · split at e
      · cases e
      · rename_i hh;cases e;exact⟨rfl,rfl,hh⟩
  have ha:=u4d h.B.lf h.B.lb h.rk hd hr
  have O:z5e q=(z2i p.B (p.rk+stI d)).map Hd.id:=by unfold z5e;rw[Z.1,Z.2.1]
  obtain⟨u,h1,h2,h3,_,_,h6,_,_,h9⟩:=x2j (f:=f) (w:=w) (l:=l) ho (x2g h) ha (j0j _ _ _)
  rw[<-O]at h1 h2 h3
  refine⟨u,h1,h2,h3,λk D=>by have:=h6 k D;rw[ho,l18]at this;exact this,λi k hi D I=>?_⟩
  rw[v6p I Z.2.2,h9 i k hi D]
theorem v3a {B:Bd}{r ro:Int}(h:r≠ro)(st:St):z7i B r ro st=z7i B (r+stI (if ro<r then 0 else 1)) ro (z3f st (z2m B r (if ro<r then 0 else 1))):=by
 unfold z7i;by_cases c:ro<r;simp only[if_pos c];obtain⟨m,I⟩:∃m:Nat,(r-ro).toNat=m+1:=⟨(r-ro).toNat-1,oo⟩;rw[I];have D:stI 0 = -1:=rfl;by_cases c2:ro<r+stI 0;rw[if_pos c2,if_pos c2,show (r+stI 0-ro).toNat=m by rw[D] at *;omega];rfl;rw[if_neg c2,if_neg c2,show (ro-(r+stI 0)).toNat=0 by rw[D] at *;omega,show m=0 by rw[D] at *;omega];rfl;simp only[if_neg c];obtain⟨m,I⟩:∃m:Nat,(ro-r).toNat=m+1:=⟨(ro-r).toNat-1,oo⟩;rw[I];have D:stI 1=1:=rfl;have c2:¬ro<r+stI 1:=by rw[D];omega
 rw[if_neg c2,if_neg c2,show (ro-(r+stI 1)).toNat=m by rw[D] at *;omega];rfl
theorem x8f {B:Bd}{r:Int}{st:St}:z7i B r r st=st:=by
 unfold z7i;rw[if_neg oo,if_neg oo,show (r-r).toNat=0 by omega];rfl
theorem y9b {B:Bd}{r ro:Int}(h:r≠ro)(st:St):y2z B r ro st=y2z B (r+stI (if ro<r then 0 else 1)) ro ((z2m B r (if ro<r then 0 else 1)).foldl x4v st):=by
 unfold y2z;by_cases c:ro<r;simp only[if_pos c];obtain⟨m,I⟩:∃m:Nat,(r-ro).toNat=m+1:=⟨(r-ro).toNat-1,oo⟩;rw[I];have D:stI 0 = -1:=rfl;by_cases c2:ro<r+stI 0;rw[if_pos c2,if_pos c2,show (r+stI 0-ro).toNat=m by rw[D] at *;omega];rfl;rw[if_neg c2,if_neg c2,show (ro-(r+stI 0)).toNat=0 by rw[D] at *;omega,show m=0 by rw[D] at *;omega];rfl;simp only[if_neg c];obtain⟨m,I⟩:∃m:Nat,(ro-r).toNat=m+1:=⟨(ro-r).toNat-1,oo⟩;rw[I];have D:stI 1=1:=rfl;have c2:¬ro<r+stI 1:=by rw[D];omega
 rw[if_neg c2,if_neg c2,show (ro-(r+stI 1)).toNat=m by rw[D] at *;omega];rfl
theorem y9n {B:Bd}{r:Int}{st:St}:y2z B r r st=st:=by
 unfold y2z;rw[if_neg oo,if_neg oo,show (r-r).toNat=0 by omega];rfl
theorem x3i {f:Nat->LId}{r:Int}(hr:-4<=r/\r<=4):∀ {n:Nat} {p q:MSt} {l:List Nat} {w:List Int},MInv p->p.rk-r<=n->r-p.rk<=n->z4t n p r=.ok q->z5e p=l.map f->
    ∃u,z7i p.B p.rk r (z5e p,w)=(z5e q,w++u)/\y2z p.B p.rk r (z5e p,w)=(z5e q,w++u)/\Wd f l u p q
  | 0,p,q,l,w,h,h1,h2,e,ho=>by
    cases e
    have:p.rk=r:=by omega
    rw[<-this,x8f,y9n]
    exact⟨[],t48,t48,Wd.nil ho U⟩
  | n+1,p,q,l,w,h,h1,h2,e,ho=>by
    unfold z4t at e
    by_cases e0:p.rk=r
    · rw[if_pos e0]at e
      cases e
      rw[<-e0,x8f,y9n]
      exact⟨[],t48,t48,Wd.nil ho U⟩
    · rw[if_neg e0]at e
      obtain⟨d,D⟩:∃d:Int,d=if r<p.rk then 0 else 1:=⟨_,rfl⟩
      rw[<-D]at e
      have hd:d=0\/d=1:=by rw[D];split<;>simp
      have a0:-4<=p.rk+stI d/\p.rk+stI d<=4:=by
        have:=h.rk
        rw[D];unfold stI
        split
        · rw[if_pos U];omega
        · rw[if_neg dd];omega
      have I:p.rk+stI d-r<=n/\r-(p.rk+stI d)<=n:=by
        rw[D];unfold stI
        split
        · rw[if_pos U];omega
        · rw[if_neg dd];omega
      split at e
      · cases e
      · rename_i p1 O
        obtain⟨hi,Z⟩:=y5i h a0 O
        have hB:p1.B=p.B:=by
          unfold z6h at O
          split at O
          · cases O
          · split at O
            · cases O
            · cases O;rfl
        obtain⟨u,a1,a2,a3⟩:=v3b (w:=w) h hd a0 O ho
        obtain⟨v,b1,b2,b3⟩:=x3i (f:=f) hr (w:=w++u) hi (by rw[Z];exact I.1) (by rw[Z];exact I.2) e a3.ord
        rw[Z,hB]at b1 b2
        rw[v3a e0,y9b e0,<-D,a1,a2,b1,b2,l17]
        exact⟨u++v,rfl,rfl,a3.app b3⟩
theorem u2a (B:Bd){n:Int}(h:1<=n/\n<=40):stk B.f n=B.at 0 n:=by unfold stk;rw[if_pos h];rfl
theorem u4s (B:Bd){n:Int}(h:1<=n/\n<=40):stk B.b n=B.at 1 n:=by unfold stk;rw[if_pos h];rfl
theorem x8n (B:Bd){b n:Int}(h:z4d b n=0)(s:List LId){m:Int}:stk (B.put b n s).f m=if 0=b/\m=n then s else stk B.f m:=by
 by_cases hm:1<=m/\m<=40;rw[u2a _ hm,u2a _ hm,y7n B h (y7c ⟨.inl U,hm.1,hm.2⟩)];have D:¬(0=b/\m=n):=λe=>hm (by have:=z2t h;omega);rw[if_neg D,z5y (h:=hm),z5y (h:=hm)]
theorem x9v (B:Bd){b n:Int}(h:z4d b n=0)(s:List LId){m:Int}:stk (B.put b n s).b m=if 1=b/\m=n then s else stk B.b m:=by
 by_cases hm:1<=m/\m<=40;rw[u4s _ hm,u4s _ hm,y7n B h (y7c ⟨.inr U,hm.1,hm.2⟩)];have D:¬(1=b/\m=n):=λe=>hm (by have:=z2t h;omega);rw[if_neg D,z5y (h:=hm),z5y (h:=hm)]
theorem u2v {p q:MSt}{o:MOp}(h:MInv p)(hq:MInv q)(e:doM p o=.ok q)(hk:o.k=7):z5e q=z5e p/\q.cr=p.cr:=by
 have a3:q.cr=p.cr:=by
  obtain⟨hc,e⟩:=x2l e;unfold opM at e;rw[if_neg oo,if_neg oo,if_neg oo,if_neg oo,if_neg oo,if_neg oo,if_pos hk]at e;unfold z8t at e;split at e;cases e;split at e;cases e;split at e;cases e;split at e;cases e;cases e;rfl
 refine⟨?_,a3⟩;have hc:=(x2l e).1;have hn:=(z3o hc).2.2.2.2.1 oo;obtain⟨h1,_,h3,h4,_,h6⟩:=v7w e hk;obtain⟨O,Z,a2⟩:=z2t hn;obtain⟨_,D,I⟩:=z2t h4;unfold z5e;rw[h1,y4v h.B.lf h.B.lb h.rk,y4v hq.B.lf hq.B.lb h.rk,h6];refine z5z λj _=>?_;rw[x8n _ h4,x8n _ hn,x9v _ h4,x9v _ hn];unfold y1q;rcases O with O|O
 rw[O];rw[O]at D I;have ho:z5t 0 o.p p.rk=o.p-p.rk:=rfl;rw[ho]at D I ⊢;have a0:=u2a p.B ⟨Z,a2⟩;have a1:=u4s p.B ⟨D,I⟩;by_cases c:(j:Int)-3=o.p;rw[if_neg (c:=(0:Int)=1-0/\_) oo,if_pos (c:=(0:Int)=0/\_) ⟨rfl,c⟩,if_pos (c:=(1:Int)=1-0/\_) ⟨oo,oo⟩,if_neg (c:=(0:Int)=1) oo,show (1:Int)-0=1 from U,<-a0,<-a1,l27,c];rw[if_neg (c:=(0:Int)=1-0/\_) oo,if_neg (c:=(0:Int)=0/\_) (λx=>c x.2),if_neg (c:=(1:Int)=1-0/\_) (λx=>c oo),if_neg (c:=(1:Int)=0/\_) oo];rw[O];rw[O]at D I;have ho:z5t 1 o.p p.rk=o.p+p.rk:=rfl;rw[ho]at D I ⊢;have a0:=u4s p.B ⟨Z,a2⟩;have a1:=u2a p.B ⟨D,I⟩;by_cases c:(j:Int)-3-p.rk=o.p;rw[if_pos (c:=(0:Int)=1-1/\_) ⟨oo,oo⟩,if_neg (c:=(1:Int)=1-1/\_) oo,if_pos (c:=(1:Int)=1/\_) ⟨rfl,c⟩,if_pos (c:=(1:Int)=1) U,show (1:Int)-1=0 from U,<-a0,<-a1,l43,c,show o.p+p.rk=(j:Int)-3 by omega];rw[if_neg (c:=(0:Int)=1-1/\_) (λx=>c oo),if_neg (c:=(0:Int)=1/\_) oo,if_neg (c:=(1:Int)=1-1/\_) oo,if_neg (c:=(1:Int)=1/\_) (λx=>c x.2)]
theorem v8m {f:Nat->LId}{p q:MSt}{o:MOp}{l:List Nat}{w:List Int}(h:MInv p)(e:doM p o=.ok q)(D:o.k=3\/o.k=7)(O:z5e p=l.map f) :
    ∃u,(if o.k=3 then z7i p.B p.rk o.r (z5e p,w) else (z5e p,w))=(z5e q,w++u)/\(if o.k=3 then y2z p.B p.rk o.r (z5e p,w) else (z5e p,w))=(z5e q,w++u)/\Wd f l u p q:=by
  rcases D with D|D
  · obtain⟨hc,e⟩:=x2l e
    have h6:=(z3o hc).2.2.2.2.2 D
    unfold opM at e
    rw[if_neg oo,if_neg oo,if_pos D]at e
    have:=h.rk
    rw[if_pos D,if_pos D]
    exact x3i h6 (n:=8) h oo oo e O
  · obtain⟨I,Z⟩:=u2v h (z8p h e) e D
    rw[if_neg oo,if_neg oo,I]
    exact⟨[],t48,t48,Wd.nil (I.trans O) Z⟩
theorem x8x {f:Nat->LId}:∀ {m:List MOp} {i:Nat} {p q:MSt} {l:List Nat} {w:List Int},MInv p->(∀o∈m,o.k=3\/o.k=7)->z3x i p m=.ok q->z5e p=l.map f->w.length<=64->
    ∃u,z9c p (z5e p,w) m=(if (w++u).length<=64 then some (z5e q,w++u) else none)/\z7n p (z5e p,w) m=(z5e q,w++u)/\Wd f l u p q
  | [],i,p,q,l,w,h,_,e,O,hw=>by
    cases e
    exact⟨[],by rw[l27,if_pos hw];rfl,by rw[l27];rfl,Wd.nil O U⟩
  | o::m,i,p,q,l,w,h,Z,e,O,hw=>by
    unfold z3x at e
    split at e
    · cases e
    · rename_i p1 D
      obtain⟨u,a1,a2,I⟩:=v8m (w:=w) h D (Z o l45) O
      unfold z9c z7n
      simp only[a1,a2,D]
      by_cases c:64<(w++u).length
      · have a0:∀ {m:List MOp} {i:Nat} {p q:MSt} {l:List Nat} {w:List Int},MInv p->(∀o∈m,o.k=3\/o.k=7)->z3x i p m=.ok q->z5e p=l.map f->∃u,z7n p (z5e p,w) m=(z5e q,w++u)/\Wd f l u p q:=by
          intro m
          induction m with
          | nil=>intro i p q l w h _ e O;cases e;exact⟨[],by rw[l27];rfl,Wd.nil O U⟩
          | cons o m ih=>
            intro i p q l w h Z e O
            unfold z3x at e
            split at e
            · cases e
            · rename_i p1 D
              obtain⟨u,_,a2,I⟩:=v8m (w:=w) h D (Z o l45) O
              unfold z7n
              simp only[a2,D]
              obtain⟨v,b2,b3⟩:=ih (w:=w++u) (z8p h D) (λx hx=>Z x (l46 _ hx)) e I.ord
              exact⟨u++v,by rw[b2,l17],I.app b3⟩
        obtain⟨v,b2,b3⟩:=a0 (w:=w++u) (z8p h D) (λx hx=>Z x (l46 _ hx)) e I.ord
        refine⟨u++v,?_,by rw[b2,l17],I.app b3⟩
        rw[if_pos c,if_neg]
        rw[<-l17,l13];omega
      · rw[if_neg c]
        obtain⟨v,b1,b2,b3⟩:=x8x (w:=w++u) (z8p h D) (λx hx=>Z x (l46 _ hx)) e I.ord oo
        exact⟨u++v,by rw[b1,l17],by rw[b2,l17],I.app b3⟩
end Go.G26
namespace Go.G26
open Go.Lw Go.G21 Go.G08
theorem u5k {l:List Nat}{k:Nat}(h:1<=k/\k<l.length):∃P a b S,l=P++a::b::S/\P.length=k-1/\y2v l k=P++b::a::S:=by
 obtain⟨m,rfl⟩:∃m,k=m+1:=⟨k-1,oo⟩;have D:m<l.length:=by omega
 refine⟨l.take m,l[m],l[m+1],l.drop (m+2),?_,t27,?_⟩;rw[<-l50 h.2,<-l50 D,l31];have e:l=l.take m++l[m]::l[m+1]::l.drop (m+2):=by
  rw[<-l50 h.2,<-l50 D,l31]
 have hl:(l.take m).length=m:=by rw[l28];omega
 unfold y2v;have I:l.getD (m+1) 0=l[m+1]:=by rw[List.getD,l10 h.2];rfl
 have O:l.getD (m+1-1) 0=l[m]:=by rw[l70,List.getD,l10 D];rfl
 rw[I,O,l70];clear I O;generalize l[m]=x,l[m+1]=y at e ⊢;generalize l.take m=P,l.drop (m+2)=S at e hl ⊢;subst e;rw[l84 _ _ oo,hl,Nat.sub_self,l84 _ _ oo,hl,l115];rfl
theorem v7p {l:List Nat}{k:Nat}(h:1<=k/\k<l.length):(y2v l k).Perm l:=by
 obtain⟨P,a,b,S,e,_,D⟩:=u5k h;rw[D,e];exact List.Perm.append_left P (List.Perm.swap ..)
theorem x0s:∀ {u:List Int} {l:List Nat},(∀k∈u,1<=k.natAbs/\k.natAbs<l.length)->(flw l u).Perm l
 | [],_,_=>.refl _
 | x::u,l,h=>by
  have I:=h x l45
  show (flw (y2v l x.natAbs) u).Perm l
  exact(x0s (l:=y2v l x.natAbs) λk D=>by rw[y5g];exact h k (l46 _ D)).trans (v7p I)
def x5n (l:List Nat)(j:Nat):List Nat:=(List.range l.length).map λi=>if l.idxOf i<j then l.idxOf i+1 else 0
def x6y (l:List Nat):List Nat:=x5n l l.length
theorem j7d (l:List Nat):x5n l 0=List.replicate l.length 0:=by
 unfold x5n;refine l65 sp0 λi D I=>?_;rw[List.getElem_map,List.getElem_replicate,if_neg oo]
theorem u2c {l:List Nat}(hn:l.Nodup){j:Nat}(I:j<l.length):l.idxOf l[j]=j:=by
 have D:l.idxOf l[j]<l.length:=List.idxOf_lt_length_iff.2 (l95 I);exact(List.getElem_inj (h₀:=D) (h₁:=I) hn).1 (List.getElem_idxOf D)
theorem x9h {l:List Nat}{j i:Nat}(h:i<(x5n l j).length):(x5n l j)[i]=if l.idxOf i<j then l.idxOf i+1 else 0:=by
 simp[x5n]
theorem v7x {l:List Nat}(hp:l.Perm (List.range l.length)){j:Nat}(O:j<l.length):(x5n l j).set l[j] (j+1)=x5n l (j+1):=by
 have hn:l.Nodup:=hp.nodup_iff.2 List.nodup_range;have hm:l[j]<l.length:=l61.1 (hp.mem_iff.1 (l95 O));refine l65 (by simp[x5n]) λi h1 Z=>?_;have hi:i<l.length:=by simpa[x5n] using Z
 rw[List.getElem_set,x9h,x9h];by_cases e:l[j]=i;rw[if_pos e,<-e,u2c hn O,if_pos oo];rw[if_neg e];have a0:l.idxOf i≠j:=λh=>e (by
  have D:i∈l:=hp.mem_iff.2 (l61.2 hi);have I:=List.getElem_idxOf (List.idxOf_lt_length_iff.2 D);simp only[h]at I;exact I)
 by_cases c:l.idxOf i<j;rw[if_pos c,if_pos oo];rw[if_neg c,if_neg oo]
theorem z7s {l:List Nat}(hp:l.Perm (List.range l.length)){f:Nat->LId}{i:Nat}(hi:i<l.length):1<=(x6y l).getD i 0/\(x6y l).getD i 0<=l.length/\(l.map f).getD ((x6y l).getD i 0-1) id0=f i:=by
 have D:i∈l:=hp.mem_iff.2 (l61.2 hi);have I:l.idxOf i<l.length:=List.idxOf_lt_length_iff.2 D;have e:(x6y l).getD i 0=l.idxOf i+1:=by
  unfold x6y x5n;rw[List.getD,l23,List.getElem?_range hi];show (if _ then _ else _)=_;rw[if_pos I]
 rw[e];refine⟨oo,oo,?_⟩;rw[l70,List.getD,l23,l10 I];show f l[l.idxOf i]=f i;rw[List.getElem_idxOf I]
end Go.G26
namespace Go.Proofs.YtlfdhllfmoplgaaGreatDoor
open Go.Lw Go.G21 Go.G08 Go.G09 Go.G26 _root_.Go.Proofs.Tryz
theorem v7a (k:Int):sgn k=1\/sgn k = -1:=by unfold sgn;split<;>simp
theorem v4i (k:Int):sgn k*k=(k.natAbs:Int):=by unfold sgn;split<;>omega
def j4v (n:Nat)(u:List Int):Prop:=∀k∈u,1<=k.natAbs/\k.natAbs<n
theorem v6w (k:Int)(w0:World):Rets prog 97 #[.int .i64 k] w0 λr w'=>r=.int .i64 (sgn k)/\Fr [] w0 w':=by
 refine we [(0,.int .i64 k)] func97 U ntmps97 U (.cons U .nil) (sr (asg U (nn (sq (sr (mv U (lt' U (nn (cd U (λD=>?_) (λD=>?_))))))))));exact sr (asg U (nn (rt (tr (r1 results97 U ⟨_,rfl,by unfold sgn;first|rw[if_pos D]|rw[if_neg D],(l12 _ _)⟩)))));exact sk (tn (sr (asg U (nn (rt (r1 results97 U ⟨_,rfl,by unfold sgn;first|rw[if_pos D]|rw[if_neg D],(l12 _ _)⟩))))))
theorem v4t (n:Nat)(v:Value)(u:List Int)(w0:World)(I:Sl Enc.i64 w0 v u)(hn:1<=n/\n<=8)(hl:u.length<=64)(hk:j4v n u):Rets prog 42 #[.int .i64 (n:Int),v] w0 λr w'=>r=.int .i64 0/\Fr [] w0 w':=by
 obtain⟨A,c,rfl,a1⟩:=id I.form;refine we [(0,.int .i64 (n:Int)),(1,.slice A u.length c)] func42 U ntmps42 U (.c2 U U) ?_;have O:=I;refine sr (asg U (nn (sq (sq (rbo (r:=12) (L':=ll2 0 1) ((((n:Int)<1)\/(8<(n:Int)))) (csu U) ?_ ?_)))));refine mv U (lt' U (mv U (gs 9 U (λg0=>?_) (λg0=>?_))));exact gN U (gN U (pkt U (rbe U (csu U))));exact gY U (mv U (gY U (gt' U (pkf U (rbe U (csu U))))));refine tn (cd U (λc0=>?_) (λc0=>?_));exfalso;omega;refine sk (tn (sq (sr (mv U (lnS U underlying22 (gt' U (nn (cd U (λc1=>?_) (λc1=>?_)))))))));exfalso;omega;refine sk (tn (sq (sr (mv U (lnS U underlying22 (mv U (nn (bl (lpK (ι:=Nat) (ll3 0 16 17) (λi=>[(18,.int .i64 (i:Int))]) (λi w'=>Fr [] w0 w'/\i<=u.length/\True) (λi=>u.length-i) 0 (csu U) ⟨l12 _ _,⟨l15 _,trivial⟩⟩ ?_)))))))));rintro i w1 ⟨Z,⟨hi,_⟩⟩;refine kpC (ll4 0 16 17 18) (csu U) (sr (lt' U (nn (sq (cd U (λc2=>?_) (λc2=>?_))))));have a2:=hk (u.getD i 0) (z1a (d:=0) oo);refine sk (tn (sq (bl (sr ?_))));have I:=O.ext Z;refine z1b (0) U I U z4w z1h (λa0 D=>?_);refine z1d U (D _ I) na3 (asg U (nn (sq (rbo (r:=35) (L':=ll4 0 16 17 18) (((((u.getD i 0)=0)\/((u.getD i 0)<(1-(n:Int))))\/(((n:Int)-1)<(u.getD i 0)))) (csu U) ?_ ?_))));refine mv U (eq' U (mv U (gs 24 U (λg1=>?_) (λg1=>?_))));exact gN U (gN U (gN U (gN U (pkt U (mv U (gN U (gN U (gN U (gN U (pkt U (rbe U (csu U))))))))))));refine gY U (mv U (gY U (mv U (gY U (z2x U (wi6 oo) (gY U (lt' U (pkf U (mv U (gs 30 U (λg2=>?_) (λg2=>?_)))))))))));exact gN U (gN U (gN U (gN U (pkt U (rbe U (csu U))))));exact gY U (mv U (gY U (mv U (gY U (z2x U (wi6 oo) (gY U (gt' U (pkf U (rbe U (csu U))))))))));refine tn (cd U (λc3=>?_) (λc3=>?_));exfalso;omega;exact sk (bn' (tn (rg (z0w U (wi6 oo) (mv U (nl (lpE (i+1) (csu U) ⟨Z,⟨oo,trivial⟩⟩ oo)))))));obtain rfl:i=u.length:=by omega
 exact ex (te (te (xh (tn (sr (asg U (nn (rt (r1 results42 U ⟨_,rfl,rfl,Z⟩)))))))))
theorem y2m {l:List Nat}{i:Nat}:(l.map λx:Nat=>(x:Int)).getD i 0=((l.getD i 0:Nat):Int):=by
 rw[List.getD,List.getD,l23];cases l[i]?<;>rfl
theorem y5k {l:List Nat}{k:Nat}:((l.map λx:Nat=>(x:Int)).set (k-1) ((l.map λx:Nat=>(x:Int)).getD k 0)).set k ((l.map λx:Nat=>(x:Int)).getD (k-1) 0)=(y2v l k).map λx:Nat=>(x:Int):=by
 unfold y2v;rw[y2m,y2m,l108,l108]
theorem y4w {l:List Nat}{u:List Int}{i:Nat}(h:i<u.length):flw l (u.take (i+1))=y2v (flw l (u.take i)) (u.getD i 0).natAbs:=by
 unfold flw;rw[l47,l10 h,l117,List.getD,l10 h];rfl
theorem v6z {n:Nat}{l:List Int}(hl:l.length=n)(h:∀j,j<n->l.getD j 0=(j:Int)):l=(List.range n).map λx:Nat=>(x:Int):=by
 refine l65 (by simp[hl]) λj D I=>?_;have:=h j oo;rw[List.getD,l10 D]at this;simpa using this
theorem j8m (a b s:Int)(w0:World):Rets prog 44 #[.int .i64 a,.int .i64 b,.int .i64 s] w0 λr w'=>r=.tuple #[]/\Fr [] w0 w':=by
 exact we [(0,.int .i64 a),(1,.int .i64 b),(2,.int .i64 s)] func44 U ntmps44 U (.c3 U U U) (sk (r0n results44  ⟨_,rfl,rfl,(l12 _ _)⟩))
theorem zv5 (w:World):(zeroValue 5).run prog w=.ok (.int .u8 0) w:=kr
theorem j2z (n:Nat)(v:Value)(u:List Int)(w0:World)(hu:Sl Enc.i64 w0 v u)(hn:1<=n/\n<=8)(hl:u.length<=64)(hk:j4v n u):Rets prog 43 #[.int .i64 (n:Int),v,.func (.func 44) #[] #[]] w0 λr w'=>(∃g,r=.slice (saa g) n n/\Lw.Own Enc.i64 3 w0.heap.size w' r ((flw (List.range n) (u.take u.length)).map λx:Nat=>(x:Int)))/\Fr [] w0 w':=by
 obtain⟨A,c,rfl,b9⟩:=id hu.form;refine we [(0,.int .i64 (n:Int)),(1,.slice A u.length c),(2,.func (.func 44) #[] #[])] func43 U ntmps43 U (.c3 U U U) ?_;have a8:=hu;refine sr (asg U (nn (sr (mv U (z1j (m:=n) (c:=n) (0) U z4w zv3 U (λZ w1 c9 D q1 z1=>(asg U (nn (sq (sr (mv U (lnS U underlying22 (mv U (nn (bl (lpK (ι:=Nat×List Int) (ll4 1 2 7 16) (λp_=>[(17,.int .i64 (p_.1:Int))]) (λp_ w'=>Fr [Z] w1 w'/\p_.1<=n/\p_.2.length=n/\Lw.Own Enc.i64 3 w0.heap.size w' (.slice (saa Z) n n) p_.2/\(∀j,j<p_.1->p_.2.getD j 0=(j:Int))) (λp_=>n-p_.1) (0,List.replicate n 0) (csu U) ⟨l12 _ _,⟨l15 _,sp0,D.low oo,λj hj=>absurd hj sp0⟩⟩ ?_))))))))))))))));rintro⟨i,ps⟩ w2 ⟨q2,⟨b1,a3,D,a4⟩⟩;simp only at b1 D a4 a3;refine kpC [(1,_),(2,_),(7,_),(16,_),(17,.int .i64 (i:Int))] (csu U) (sr (lt' U (nn (sq (cd U (λc0=>?_) (λc0=>?_))))));refine sk (tn (sq (bl (sr (mv U (asg U (nn (rg (mv U (mv U (mv U (z6v (p:=i) (E:=Enc.i64) U z4w (z3t (i:=i) ((i:Int)) U D U sz3 (λw3 D q3 z3=>(nl (bn' (tn (rg (z0w U (wi6 oo) (mv U (nl ?_)))))))))))))))))))));exact lpE ((i+1,ps.set i (i:Int))) (csu U) ⟨((l12 [Z] _).z2 q2 q3),⟨sm,by simp only[l19];exact a3,D,λj hj=>by
  simp only at hj ⊢;rw[z1n oo];split;rename_i e;subst e;rfl;exact a4 j oo⟩⟩ sm
 obtain rfl:n=i:=by omega
 refine ex (te (te (xh (tn (sq (sr (mv U (lnS U underlying22 (mv U (nn (bl (lpK (ι:=Nat) (ll4 2 7 25 26) (λi=>[(27,.int .i64 (i:Int))]) (λi w'=>Fr [Z] w2 w'/\i<=u.length/\Lw.Own Enc.i64 3 w0.heap.size w' (.slice (saa Z) n n) ((flw (List.range n) (u.take i)).map λx:Nat=>(x:Int))) (λi=>u.length-i) 0 (csu U) ⟨l12 _ _,⟨l15 _,by rw[l79,show flw (List.range n) []=List.range n from U,<-v6z a3 (λj hj=>a4 j oo)];exact D⟩⟩ ?_))))))))))));rintro i w4 ⟨q4,⟨d0,D⟩⟩;refine kpC (ll5 2 7 25 26 27) (csu U) (sr (lt' U (nn (sq (cd U (λc1=>?_) (λc1=>?_))))));have a2:i<u.length:=by omega
 have d1:=hk (u.getD i 0) (z1a (d:=0) a2);have d4:=v4i (u.getD i 0);have d5:=v7a (u.getD i 0);have d3:((flw (List.range n) (u.take i)).map λx:Nat=>(x:Int)).length=n:=by rw[l18,y1j,l53]
 refine sk (tn (sq (bl (sr ?_))));have hu:=a8.ext (q1.z2 q2 q4);refine z1b (0) U hu U z4w z1h (λb4 a5=>?_);refine z1d U (a5 _ hu) na3 (asg U (nn (sr (mv U (cl (ev1 U) (mkC func97) (v6w (u.getD i 0) _) U ?_)))));rintro _ w5 ⟨rfl,q5⟩;refine asg U (nn (sr (mv U (mv U (y4q U (wi6 oo) (z2x U (wi6 oo) (asg U (nn (sq ?_)))))))));have hu:=a8.ext (q1.z3 q2 q4 q5);intro a h;refine z0h none (λwb w'=>Fr [] wb w') z2o ?_;intro w6 q6;have hu:=hu.ext q6;have D:=D.ext (q5.n1 q6);have hC:Fr [] w6 w6:=l12 _ _;have a9:=hu;have O:=D;refine z0d 0 h U λa h=>z0d 1 h U λa h=>z0d 2 h U λa h=>z0z (p:=((u.getD i 0).natAbs-1)) (0) 3 h U D.sl U z4w U λb5 a6 a h=>z2b 4 h wn U (λ_ hw=>a6 _ (O.sl.ext hw)) na3 U λa h=>z0d 5 h U λa h=>z0d 6 h U λa h=>z3s 7 h U t13 U λa h=>z0z (p:=(((u.getD i 0).natAbs-1)+1)) (0) 8 h U D.sl U z4w U λb6 a7 a h=>z2b 9 h wn U (λ_ hw=>a7 _ (O.sl.ext hw)) na3 U λa h=>z0d 10 h U λa h=>z0e 11 U (z9b (us:=[]) (ws:=[]) h U (z0a U (z0a U (z0a U z0f))) (mkC func44) (j8m _ _ _ _) U t14 ?_);rintro _ w7 ⟨rfl,q7⟩ a h;have hC:=hC.next q7;refine z0b (z0o ?_);clear hC a9 O;refine bk (h.sub (L':=ll6 2 7 12 25 26 27) (csu U)) (tn ?_);intro a h;refine z0h (some 17) (λwb w'=>Fr [Z] wb w') z2o ?_;intro w8 q8;have D:=D.ext (q7.n1 q8);have hC:Fr [Z] w8 w8:=l12 _ _;have O:=D;refine z0d 0 h U λa h=>z0d 1 h U λa h=>z0d 2 h U λa h=>z0d 3 h U λa h=>z3s 4 h U t13 U λa h=>z0d 5 h U λa h=>z0d 6 h U λa h=>z3s 7 h U t13 U λa h=>z0z (p:=(((u.getD i 0).natAbs-1)+1)) (0) 8 h U D.sl U z4w U λb7 a0 a h=>z0d 10 h U λa h=>z0d 11 h U λa h=>z0z (p:=((u.getD i 0).natAbs-1)) (0) 12 h U D.sl U z4w U λb8 a1 a h=>z1w 9 13 kr U ?_ ?_;refine z5j h U (a0 _ D.sl) na3 U λa h=>z0b (z0e 13 U (z5j h U (a1 _ D.sl) na3 U λa h=>?_));refine z0b (z1k 14 kr kr kr hC (p:=((u.getD i 0).natAbs-1)) h wn U z4w oo oo oo U U λa h=>z0e 15 U (z0x (i:=((u.getD i 0).natAbs-1)) ((((flw (List.range n) (u.take i)).map λx:Nat=>(x:Int)).getD (((u.getD i 0).natAbs-1)+1) 0)) h U D oo U sz3 λw9 I q9 _hz a h=>?_));have hC:=hC.sp q9;clear _hz D;have D:=I;clear I;refine z0b (z1k 16 kr kr kr hC (p:=(((u.getD i 0).natAbs-1)+1)) h wn U z4w oo oo oo U U λa h=>z0e 17 U (z0x (i:=(((u.getD i 0).natAbs-1)+1)) ((((flw (List.range n) (u.take i)).map λx:Nat=>(x:Int)).getD ((u.getD i 0).natAbs-1) 0)) h U D t23 U sz3 λd6 I b2 _hz a h=>?_));clear _hz D;have D:=I;clear I;refine z1l (z0o ?_);clear hC O;exact bk (h.sub (L':=ll5 2 7 25 26 27) (csu U)) (bn' (tn (rg (z0w U (wi6 oo) (mv U (nl (lpE ((i+1)) (csu U) ⟨(((l12 [Z] _).z6 q4 q5 q6 q7 q8 q9).z1 b2),⟨oo,by rw[show ((flw (List.range n) (u.take (i+1))).map λx:Nat=>(x:Int))=(((flw (List.range n) (u.take i)).map λx:Nat=>(x:Int)).set ((u.getD i 0).natAbs-1) (((flw (List.range n) (u.take i)).map λx:Nat=>(x:Int)).getD (((u.getD i 0).natAbs-1)+1) 0)).set (((u.getD i 0).natAbs-1)+1) (((flw (List.range n) (u.take i)).map λx:Nat=>(x:Int)).getD ((u.getD i 0).natAbs-1) 0) from by rw[y4w a2,<-y5k,show (u.getD i 0).natAbs=((u.getD i 0).natAbs-1)+1 by omega,l70]];exact D⟩⟩ oo)))))));refine z5j h U (a1 _ D.sl) na3 U λa h=>z0b (z0e 9 U (z5j h U (a0 _ D.sl) na3 U λa h=>?_));refine z0b (z1k 14 kr kr kr hC (p:=((u.getD i 0).natAbs-1)) h wn U z4w oo oo oo U U λa h=>z0e 15 U (z0x (i:=((u.getD i 0).natAbs-1)) ((((flw (List.range n) (u.take i)).map λx:Nat=>(x:Int)).getD (((u.getD i 0).natAbs-1)+1) 0)) h U D oo U sz3 λd7 I b0 _hz a h=>?_));have hC:=hC.sp b0;clear _hz D;have D:=I;clear I;refine z0b (z1k 16 kr kr kr hC (p:=(((u.getD i 0).natAbs-1)+1)) h wn U z4w oo oo oo U U λa h=>z0e 17 U (z0x (i:=(((u.getD i 0).natAbs-1)+1)) ((((flw (List.range n) (u.take i)).map λx:Nat=>(x:Int)).getD ((u.getD i 0).natAbs-1) 0)) h U D t23 U sz3 λd9 I b3 _hz a h=>?_));clear _hz D;have D:=I;clear I;refine z1l (z0o ?_);clear hC O;exact bk (h.sub (L':=ll5 2 7 25 26 27) (csu U)) (bn' (tn (rg (z0w U (wi6 oo) (mv U (nl (lpE ((i+1)) (csu U) ⟨(((l12 [Z] _).z6 q4 q5 q6 q7 q8 b0).z1 b3),⟨oo,by rw[show ((flw (List.range n) (u.take (i+1))).map λx:Nat=>(x:Int))=(((flw (List.range n) (u.take i)).map λx:Nat=>(x:Int)).set ((u.getD i 0).natAbs-1) (((flw (List.range n) (u.take i)).map λx:Nat=>(x:Int)).getD (((u.getD i 0).natAbs-1)+1) 0)).set (((u.getD i 0).natAbs-1)+1) (((flw (List.range n) (u.take i)).map λx:Nat=>(x:Int)).getD ((u.getD i 0).natAbs-1) 0) from by rw[y4w a2,<-y5k,show (u.getD i 0).natAbs=((u.getD i 0).natAbs-1)+1 by omega,l70]];exact D⟩⟩ oo)))))));obtain rfl:u.length=i:=by omega
 rw[l34]at D;exact ex (te (te (xh (tn (sr (mv U (asg U (kpL (ll1 6) (csu U) (nn (rt (r1 results43 U ⟨_,rfl,⟨Z,rfl,by rw[l34];exact D⟩,(q1.z2 q2 q4)⟩)))))))))))
theorem u1y {l:List Nat}(hp:l.Perm (List.range l.length)){j:Nat}(D:j<l.length):((x5n l j).map UInt8.ofNat).set (l.getD j 0) (UInt8.ofNat (j+1))=(x5n l (j+1)).map UInt8.ofNat:=by
 have:=v7x hp D;rw[<-this,l108,List.getD,l10 D];rfl
theorem v5t {n:Nat}{u:List Int}(D:j4v n u):(flw (List.range n) u).length=n/\(flw (List.range n) u).Perm (List.range (flw (List.range n) u).length):=by
 have h:=x0s (u:=u) (l:=List.range n) (λk I=>by rw[l53];exact D k I);have hl:=h.length_eq;rw[l53]at hl;exact⟨hl,by rw[hl];exact h⟩
theorem x6n {l:List Nat}(hp:l.Perm (List.range l.length)){j:Nat}(D:j<l.length):l.getD j 0<l.length:=l61.1 (hp.mem_iff.1 (z1a D))
theorem j2m (n:Nat)(v:Value)(u:List Int)(w0:World)(hu:Sl Enc.i64 w0 v u)(hn:1<=n/\n<=8)(hl:u.length<=64)(hk:j4v n u):Rets prog 15 #[.int .i64 (n:Int),v] w0 λr w'=>(∃g,r=.tuple #[.slice (saa g) n n,.int .i64 0]/\Lw.Own Enc.b 5 w0.heap.size w' (.slice (saa g) n n) ((x6y (flw (List.range n) u)).map UInt8.ofNat))/\Fr [] w0 w':=by
 obtain⟨A,c,rfl,a7⟩:=id hu.form;obtain⟨O,a0⟩:∃O,O=flw (List.range n) u:=⟨_,rfl⟩;obtain⟨D,Z⟩:=v5t hk;rw[<-a0]at D Z ⊢;have a5:(O.map λx:Nat=>(x:Int)).length=n:=by rw[l18];exact D
 refine we [(0,.int .i64 (n:Int)),(1,.slice A u.length c)] func15 U ntmps15 U (.c2 U U) ?_;have a3:=hu;refine sr (asg U (asg U (nn (sq (sr (mv U (mv U (cl (ev2 U) (mkC func42) (v4t n _ u _ hu hn hl hk) U ?_))))))));rintro _ w1 ⟨rfl,q1⟩;have z1:=q1.size;refine asg U (nn (sr (mv U (ne' U (nn (cd U (λc0=>?_) (λc0=>?_)))))));exact absurd U c0;refine sk (tn (sr (mv U (z1j (m:=n) (c:=n) ((0:UInt8)) U u8d zv5 U (λgP w2 a8 I q2 z2=>(asg U (nn (sq (sr (mv U (mv U ?_)))))))))));have hu:=a3.ext (q1.n1 q2);refine cl (ev3 U) (mkC func43) (j2z n _ u _ hu hn hl hk) U ?_;rintro _ w3 ⟨⟨gA,rfl,hA⟩,q3⟩;have z3:=q3.size;rw[l34,<-a0]at hA;refine lnS U underlying22 (mv U (nn (bl ?_)));have I:=I.ext q3;refine lpK (ι:=Nat) (ll3 7 20 21) (λj=>[(22,.int .i64 (j:Int))]) (λj w'=>Fr [gP] w3 w'/\j<=n/\Lw.Own Enc.b 5 w0.heap.size w' (.slice (saa gP) n n) ((x5n O j).map UInt8.ofNat)) (λj=>n-j) 0 (csu U) ⟨l12 _ _,⟨l15 _,by rw[j7d,D,List.map_replicate];exact I.low oo⟩⟩ ?_;rintro j w4 ⟨q4,⟨a9,I⟩⟩;have z4:=q4.size;refine kpC (ll4 7 20 21 22) (csu U) (sr (lt' U (nn (sq (cd U (λc1=>?_) (λc1=>?_))))));have a6:j<n:=by omega
 have b1:=y2m (l:=O) (i:=j);have b0:=x6n Z (j:=j) oo;have a2:((UInt8.ofNat (j+1)).toNat:Int)=(j:Int)+1:=by rw[UInt8.toNat_ofNat'];omega
 refine sk (tn (sq (bl (sr (mv U ?_)))));have hA:=hA.fr q4 (by first|exact z9n hA oo|simp[z0u]<;>omega);refine z1b (0) U hA.sl U z4w z1h (λa4 a1=>?_);refine z1d U (a1 _ hA.sl) na3 (asg U (asg U (nn (rg (mv U (mv U (mv U (z0w U (wi6 oo) (z6i U (us underlying3) underlying5 (show IntKind.u8.wrap ((j:Int)+1)=((UInt8.ofNat (j+1)).toNat:Int) from by rw[a2];exact wi8 oo) (z6v (p:=(O.getD j 0)) (E:=Enc.b) U u8d (z3t (i:=(O.getD j 0)) ((UInt8.ofNat (j+1))) U I U sz5 (λw5 I q5 z5=>?_) (hi:=(by rw[l18];unfold x5n;rw[l18,l53];omega)))))))))))));exact kpL (ll4 7 20 21 22) (csu U) (nl (bn' (tn (rg (z0w U (wi6 oo) (mv U (nl (lpE ((j+1)) (csu U) ⟨((l12 [gP] _).z2 q4 q5),⟨oo,by rw[<-u1y Z oo];exact I⟩⟩ oo))))))));obtain rfl:n=j:=by omega
 exact ex (te (te (xh (tn (sr (mv U (asg U (asg U (kpL (ll2 4 5) (csu U) (nn (rt (r2 results15 U U ⟨_,rfl,⟨gP,rfl,by unfold x6y;rw[D];exact I⟩,(q1.z3 q2 q3 q4)⟩))))))))))))
end Go.Proofs.YtlfdhllfmoplgaaGreatDoor
namespace Go.G26
open Go.Lw Go.G21 Go.G08
structure LkA where
  gb:Nat
  gT:Nat
  n:Nat
  b0:Nat
  HS:List SV
  G:Nat->Nat
abbrev LkA.TV (a:LkA):Value:=.slice (some ⟨a.gT,0,none⟩) a.n a.n
abbrev LkA.RV (a:LkA)(i:Nat):Value:=.slice (some ⟨a.G i,0,none⟩) a.n a.n
structure LkT (T2 T1 T0:Nat) (a:LkA) (w:World) (M:Nat->Nat->Int):Prop where
  b:Blk w a.gb T2 [a.TV]
  t:Lw.Own Enc.sl T1 0 w a.TV a.HS
  h:∀i,i<a.n->a.HS.getD i sv0=(some ⟨a.G i,0,none⟩,a.n,a.n)
  r:∀i,i<a.n->Lw.Own Enc.i64 T0 0 w (a.RV i) ((List.range a.n).map (M i))
  d:∀i j,i<a.n->j<a.n->a.G i=a.G j->i=j
  lt:a.gb<a.b0/\a.gT<a.b0/\∀i,i<a.n->a.G i<a.b0
section
variable {T2 T1 T0:Nat} {a:LkA} {w w':World} {M M':Nat->Nat->Int} {S:List Nat}
theorem LkT.fr (h:LkT T2 T1 T0 a w M)(hf:Fr S w w')(O:∀k∈S,a.b0<=k):LkT T2 T1 T0 a w' M:=
 ⟨h.b.fr hf (λI=>by have:=O _ I;have:=h.lt.1;omega),h.t.fr hf (λk I D=>by simp[z0u]at D;subst D;have:=O _ I;have:=h.lt.2.1;omega),h.h,λi Z=>(h.r i Z).fr hf (λk I D=>by simp[z0u]at D;subst D;have:=O _ I;have:=h.lt.2.2 i Z;omega),h.d,h.lt⟩
theorem LkT.ext (h:LkT T2 T1 T0 a w M)(hf:Fr [] w w'):LkT T2 T1 T0 a w' M:=h.fr hf sp0
theorem LkT.upd (h:LkT T2 T1 T0 a w M)(a0:T2≠T0)(Z:T1≠T0){i j:Nat}(hi:i<a.n)(hj:j<a.n)(hf:Fr [a.G i,a.G j] w w')(ri:Lw.Own Enc.i64 T0 0 w' (a.RV i) ((List.range a.n).map (M' i)))(rj:Lw.Own Enc.i64 T0 0 w' (a.RV j) ((List.range a.n).map (M' j)))(hM:∀k,k≠i->k≠j->M' k=M k):LkT T2 T1 T0 a w' M':=by
 have o:∀k∈[a.G i,a.G j],∃x,x<a.n/\k=a.G x:=λk D=>by
  simp only[l66,List.not_mem_nil,or_false]at D;rcases D with rfl|rfl
  exact⟨i,hi,rfl⟩;exact⟨j,hj,rfl⟩
 refine⟨h.b.fr hf λD=>?_,h.t.fr hf λk D O=>?_,h.h,λk D=>?_,h.d,h.lt⟩;obtain⟨x,I,e⟩:=o _ D;exact Own.neB (h.r x I) h.b (l44 a0) t30;obtain⟨x,I,rfl⟩:=o _ D;exact Own.neO (h.r x I) h.t (l44 Z) _ t10 O;by_cases e1:k=i;rw[e1];exact ri;by_cases e2:k=j;rw[e2];exact rj;rw[hM k e1 e2];refine(h.r k D).fr hf λx I O=>?_;simp[z0u]at O;subst O;simp only[l66,List.not_mem_nil,or_false]at I;rcases I with e|e
 exact e1 (h.d k i D hi e);exact e2 (h.d k j D hj e)
end
structure LkR (T0 base n:Nat) (w:World) (G:Nat->Nat) (m:Nat):Prop where
  r:∀k,k<m->Lw.Own Enc.i64 T0 base w (.slice (some ⟨G k,0,none⟩) n n) (List.replicate n 0)
  d:∀i j,i<m->j<m->G i=G j->i=j
section
variable {T0 base n m:Nat} {w w':World} {G:Nat->Nat} {S:List Nat}
theorem LkR.fr (h:LkR T0 base n w G m)(hf:Fr S w w')(D:OffT w T0 S):LkR T0 base n w' G m:=⟨λk I=>z1z (h.r k I) hf D,h.d⟩
theorem LkR.ext (h:LkR T0 base n w G m)(hf:Fr [] w w'):LkR T0 base n w' G m:=h.fr hf OffT.nil
theorem LkR.add {g:Nat}(h:LkR T0 base n w G m)(D:Lw.Own Enc.i64 T0 base w (.slice (saa g) n n) (List.replicate n 0))(hn:∀k,k<m->G k≠g):LkR T0 base n w (λk=>if k=m then g else G k) (m+1):=by
 refine⟨λk Z=>?_,λi j I O e=>?_⟩;by_cases e:k=m;simp only[if_pos e];exact D;simp only[if_neg e];exact h.r k oo;by_cases e1:i=m<;>by_cases e2:j=m
 omega;simp only[if_pos e1,if_neg e2]at e;exact absurd e.symm (hn j oo);simp only[if_neg e1,if_pos e2]at e;exact absurd e (hn i oo);simp only[if_neg e1,if_neg e2]at e;exact h.d i j oo oo e
end
def lkM (n:Nat)(u:List Int)(i:Nat):Nat->Nat->Int:=λa b=>lnk (List.range n) (u.take i) a b
theorem k2e (n:Nat)(u:List Int):lkM n u 0=λ_ _=>0:=by funext a b;unfold lkM;rw[l79];rfl
theorem u2d {n:Nat}{u:List Int}{i a b:Nat}{x:Int}(h:i<u.length)(D:u.getD i 0=x)(p q:Nat)(hp:(flw (List.range n) (u.take i)).getD (x.natAbs-1) 0=p)(I:(flw (List.range n) (u.take i)).getD x.natAbs 0=q) :
    lkM n u (i+1) a b=lkM n u i a b+if (p=a/\q=b)\/(p=b/\q=a) then sgn x else 0:=by
  unfold lkM
  rw[l47,l10 h,Option.toList_some,x6a]
  rw[List.getD,l10 h,l51]at D
  rw[D]
  congr 1
  show (if _ then sgn x else 0)+(0:Int)=_
  rw[hp,I,Int.add_zero]
theorem v6s {n:Nat}{s:Int}{M M':Nat->Int}{k:Nat}(O:k<n)(h1:M' k=M k+s)(I:∀j,j≠k->M' j=M j):((List.range n).map M).set k (((List.range n).map M).getD k 0+s)=(List.range n).map M':=by
 refine l65 sp0 λj Z D=>?_;rw[List.getElem_set];have hj:j<n:=by simpa using D
 split;rename_i e;subst e;rw[List.getD,l10 (by simpa using O)];simp[h1];rename_i e;simp[I j (l44 e)]
theorem u7u {n:Nat}{u:List Int}{i:Nat}(a b:Nat):-(i:Int)<=lkM n u i a b/\lkM n u i a b<=i:=by
 have D:∀(v:List Int) (l:List Nat),-(v.length:Int)<=lnk l v a b/\lnk l v a b<=v.length:=by
  intro v;induction v with
  | nil=>intro l;simp[lnk]
  | cons x v ih=>
   intro l;have:=ih (y2v l x.natAbs);have I:sgn x=1\/sgn x = -1:=by unfold sgn;split<;>simp
   show _<=(if _ then sgn x else 0)+lnk (y2v l x.natAbs) v a b/\(if _ then sgn x else 0)+lnk (y2v l x.natAbs) v a b<=_;rw[l30];split<;>omega
 have:=D (u.take i) (List.range n);rw[l28]at this;unfold lkM;omega
theorem j5k (n:Nat)(u:List Int)(k:Nat):(List.range n).map (lkM n u 0 k)=List.replicate n 0:=by
 rw[k2e];refine l65 sp0 λj D I=>sp0
def lkL (a:LkA)(M:Nat->Nat->Int):List (SV×List Int):=(List.range a.n).map λi=>((some ⟨a.G i,0,none⟩,a.n,a.n),(List.range a.n).map (M i))
theorem u8i {a:LkA}{M:Nat->Nat->Int}{i:Nat}(h:i<a.n){d:SV×List Int}:(lkL a M).getD i d=((some ⟨a.G i,0,none⟩,a.n,a.n),(List.range a.n).map (M i)):=by
 unfold lkL;rw[List.getD,l23,List.getElem?_range h];rfl
theorem j9w {T2 T1 T0:Nat}{a:LkA}{w:World}{M:Nat->Nat->Int}(h:LkT T2 T1 T0 a w M)(hl:a.HS.length=a.n):a.HS=(lkL a M).map Prod.fst:=by
 refine l65 (by simp[lkL,hl]) λj D O=>?_;have I:j<a.n:=by omega
 have:=h.h j I;rw[List.getD,l10 D]at this;simpa[lkL] using this
end Go.G26
namespace Go.Proofs.YtlfdhllfmoplgaaGreatDoor
open Go.Lw Go.G21 Go.G08 Go.G09 Go.G26 _root_.Go.Proofs.Tryz
theorem j5b:z2a prog 60:=λ_=>kr
theorem slE:ElemOf prog 60 22 Enc.sl 24:=ElemOf.mk' (z:=(.slice none 0 0)) underlying60 kr U
theorem j5x (gb gT Z gc n A B:Nat)(HS:List SV)(s:Int)(ra rb:List Int)(w0:World)(hb:Blk w0 gb 60 [.slice (saa gT) n n])(hT:Lw.Own Enc.sl 22 0 w0 (.slice (saa gT) n n) HS)(hA:HS.getD A sv0=(some ⟨Z,0,none⟩,n,n))(hB:HS.getD B sv0=(some ⟨gc,0,none⟩,n,n))(D:Lw.Own Enc.i64 3 0 w0 (.slice (saa Z) n n) ra)(I:Lw.Own Enc.i64 3 0 w0 (.slice (saa gc) n n) rb)(b2:Z≠gc)(a7:A<n)(a8:B<n)(hs:-1<=s/\s<=1)(h1:-1000<=ra.getD B 0/\ra.getD B 0<=1000)(h2:-1000<=rb.getD A 0/\rb.getD A 0<=1000):Rets prog 45 #[.int .i64 (A:Int),.int .i64 (B:Int),.int .i64 s,pta gb] w0 λr w'=>r=.tuple #[]/\Lw.Own Enc.i64 3 0 w' (.slice (saa Z) n n) (ra.set B (ra.getD B 0+s))/\Lw.Own Enc.i64 3 0 w' (.slice (saa gc) n n) (rb.set A (rb.getD A 0+s))/\Fr [Z,gc] w0 w':=by
 have a9:=(y5m hT).1;have b0:=(y5m D).1;have b1:=(y5m I).1;have x1:gb≠Z:=λe=>Own.neB D hb dd t30;have x2:gb≠gc:=λe=>Own.neB I hb dd t30;have x3:gT≠Z:=λe=>Own.neO D hT dd Z t10 t30;have x4:gT≠gc:=λe=>Own.neO I hT dd gc t10 t30;refine we [(0,.int .i64 (A:Int)),(1,.int .i64 (B:Int)),(2,.int .i64 s),(3,pta gb)] func45 U ntmps45 U (.c4 U U U U) (sr (z2j U hb j5b (mv U (z1b (p:=A) (sv0) U hT.sl U slE oo (λa4 a0=>?_)))));rw[hA]at a0;replace a0:∀W:World,Sl Enc.sl W (.slice (saa gT) n n) HS->Cells W a4 [.slice (saa Z) n n]:=a0;refine z1d U (a0 _ hT.sl) u7k (mv U (z1b (p:=B) (0) U D.sl U z4w oo (λa5 a2=>(z1d U (a2 _ D.sl) na3 (mv U (z0w U (wi6 oo) (z6v (p:=B) (E:=Enc.i64) U z4w (z3t (i:=B) ((ra.getD B 0+s)) U D U sz3 (λw1 D q1 z1=>(kpL (ll4 0 1 2 3) (csu U) (nn (rg ?_))))))))))));have hb:=hb.fr q1;refine z2j U hb j5b (mv U ?_);have hT:=hT.fr q1 t11;refine z1b (p:=B) (sv0) U hT.sl U slE oo (λa1 O=>?_);rw[hB]at O;replace O:∀W:World,Sl Enc.sl W (.slice (saa gT) n n) HS->Cells W a1 [.slice (saa gc) n n]:=O;refine z1d U (O _ hT.sl) u7k (mv U ?_);have I:=I.fr q1 t11;refine z1b (p:=A) (0) U I.sl U z4w oo (λa6 a3=>(z1d U (a3 _ I.sl) na3 (mv U (z0w U (wi6 oo) (z6v (p:=A) (E:=Enc.i64) U z4w (z3t (i:=A) ((rb.getD A 0+s)) U I U sz3 (λw2 I q2 z2=>(kpL [] .nil (nl (r0n results45  ?_))))))))));have D:=D.fr q2 t11;exact⟨_,rfl,rfl,D,I,((l12 [Z,gc] _).z2 q1 q2)⟩
theorem j3k {l:List Nat}(hp:l.Perm (List.range l.length)){i j:Nat}(hi:i<l.length)(D:j<l.length)(h:i≠j):l.getD i 0≠l.getD j 0:=λe=>by
 have I:l.Nodup:=hp.nodup_iff.2 List.nodup_range
 rw[List.getD,List.getD,l10 hi,l10 D]at e
 exact h ((List.getElem_inj (h₀:=hi) (h₁:=D) I).1 e)
theorem x7d {n k:Nat}{M:Nat->Int}(h:k<n):((List.range n).map M).getD k 0=M k:=by
 rw[List.getD,l23,List.getElem?_range h];rfl
theorem j1u (gb gT n b0:Nat)(HS:List SV)(G:Nat->Nat)(v:Value)(u:List Int)(wS w0:World)(hF:Fr [] wS w0)(hu:Sl Enc.i64 wS v u)(hn:1<=n/\n<=8)(hl:u.length<=64)(O:j4v n u)(Z:LkT 60 22 3 (⟨gb,gT,n,b0,HS,G⟩:LkA) w0 (lkM n u 0))(f9:(⟨gb,gT,n,b0,HS,G⟩:LkA).b0<=w0.heap.size)(d3:wS.heap.size<=(⟨gb,gT,n,b0,HS,G⟩:LkA).gb/\∀i,i<n->wS.heap.size<=G i):Rets prog 43 #[.int .i64 (n:Int),v,.func (.func 45) #[] #[pta gb]] w0 λr w'=>(∃g,r=.slice (saa g) n n)/\LkT 60 22 3 (⟨gb,gT,n,b0,HS,G⟩:LkA) w' (lkM n u u.length)/\Fr [] wS w':=by
 obtain⟨A0,c,rfl,h3⟩:=id hu.form;have i0:=hF.size;have e1:=d3.1;simp only at e1 f9;refine we [(0,.int .i64 (n:Int)),(1,.slice A0 u.length c),(2,.func (.func 45) #[] #[pta gb])] func43 U ntmps43 U (.c3 U U U) ?_;have e9:=hu;refine sr (asg U (nn (sr (mv U (z1j (m:=n) (c:=n) (0) U z4w zv3 U (λgA w1 h4 D q1 z1=>(asg U (nn (sq (sr (mv U (lnS U underlying22 (mv U (nn (bl (lpK (ι:=Nat×List Int) (ll4 1 2 7 16) (λp_=>[(17,.int .i64 (p_.1:Int))]) (λp_ w'=>Fr [gA] w1 w'/\p_.1<=n/\p_.2.length=n/\Lw.Own Enc.i64 3 w0.heap.size w' (.slice (saa gA) n n) p_.2/\(∀j,j<p_.1->p_.2.getD j 0=(j:Int))) (λp_=>n-p_.1) (0,List.replicate n 0) (csu U) ⟨l12 _ _,⟨l15 _,sp0,D.low oo,λj hj=>absurd hj sp0⟩⟩ ?_))))))))))))))));rintro⟨i,ps⟩ w2 ⟨q2,⟨g0,d4,D,d5⟩⟩;simp only at g0 D d5 d4;refine kpC [(1,_),(2,_),(7,_),(16,_),(17,.int .i64 (i:Int))] (csu U) (sr (lt' U (nn (sq (cd U (λc0=>?_) (λc0=>?_))))));refine sk (tn (sq (bl (sr (mv U (asg U (nn (rg (mv U (mv U (mv U (z6v (p:=i) (E:=Enc.i64) U z4w (z3t (i:=i) ((i:Int)) U D U sz3 (λw3 D q3 z3=>(nl (bn' (tn (rg (z0w U (wi6 oo) (mv U (nl ?_)))))))))))))))))))));exact lpE ((i+1,ps.set i (i:Int))) (csu U) ⟨((l12 [gA] _).z2 q2 q3),⟨sm,by simp only[l19];exact d4,D,λj hj=>by
  simp only at hj ⊢;rw[z1n oo];split;rename_i e;subst e;rfl;exact d5 j oo⟩⟩ sm
 obtain rfl:n=i:=by omega
 refine ex (te (te (xh (tn (sq (sr (mv U (lnS U underlying22 (mv U (nn (bl ?_)))))))))));have Z:=(Z.ext q1).fr q2 t60;refine lpK (ι:=Nat) (ll4 2 7 25 26) (λi=>[(27,.int .i64 (i:Int))]) (λi w'=>Fr [] wS w'/\i<=u.length/\w0.heap.size<=gA/\Lw.Own Enc.i64 3 w0.heap.size w' (.slice (saa gA) n n) ((flw (List.range n) (u.take i)).map λx:Nat=>(x:Int))/\LkT 60 22 3 (⟨gb,gT,n,b0,HS,G⟩:LkA) w' (lkM n u i)) (λi=>u.length-i) 0 (csu U) ⟨(hF.z2 q1 q2),⟨l15 _,oo,by rw[l79,show flw (List.range n) []=List.range n from U,<-v6z d4 (λj hj=>d5 j oo)];exact D,Z⟩⟩ ?_;rintro i w4 ⟨q4,⟨h5,b2,D,Z⟩⟩;refine kpC (ll5 2 7 25 26 27) (csu U) (sr (lt' U (nn (sq (cd U (λc1=>?_) (λc1=>?_))))));have a8:i<u.length:=by omega
 have h6:=O (u.getD i 0) (z1a (d:=0) a8);have h8:=v4i (u.getD i 0);have h9:=v7a (u.getD i 0);have h7:((flw (List.range n) (u.take i)).map λx:Nat=>(x:Int)).length=n:=by rw[l18,y1j,l53]
 have f8:=Z;obtain⟨h2,c9⟩:=v5t (u:=u.take i) (n:=n) (λk hm=>O k (l114 hm));obtain⟨A,hA⟩:∃A,A=(flw (List.range n) (u.take i)).getD ((u.getD i 0).natAbs-1) 0:=⟨_,rfl⟩;obtain⟨B,hB⟩:∃B,B=(flw (List.range n) (u.take i)).getD (((u.getD i 0).natAbs-1)+1) 0:=⟨_,rfl⟩;have f3:(((flw (List.range n) (u.take i)).map λx:Nat=>(x:Int)).getD ((u.getD i 0).natAbs-1) 0)=(A:Int):=by rw[y2m,<-hA]
 have f4:(((flw (List.range n) (u.take i)).map λx:Nat=>(x:Int)).getD (((u.getD i 0).natAbs-1)+1) 0)=(B:Int):=by rw[y2m,<-hB]
 have a1:A<n:=by rw[hA];have:=x6n c9 (j:=((u.getD i 0).natAbs-1)) oo;omega
 have a2:B<n:=by rw[hB];have:=x6n c9 (j:=((u.getD i 0).natAbs-1)+1) oo;omega
 have b9:A≠B:=by rw[hA,hB];exact j3k c9 oo oo oo
 obtain⟨ga,a5⟩:∃g,g=G A:=⟨_,rfl⟩;obtain⟨gc,a6⟩:∃g,g=G B:=⟨_,rfl⟩;have g4:ga≠gc:=λe=>b9 (Z.d A B a1 a2 (by rw[a5,a6]at e;exact e));have b3:=d3.2 A a1;have b5:=d3.2 B a2;have b4:=Z.lt.2.2 A a1;have b6:=Z.lt.2.2 B a2;have e8:=Z.lt.1;have e7:=Z.lt.2.1;simp only at b3 b5 b4 b6 e8 e7;rw[<-a5]at b3 b4;rw[<-a6]at b5 b6;obtain⟨RA,d0⟩:∃R,R=(List.range n).map (lkM n u i A):=⟨_,rfl⟩;obtain⟨RB,d1⟩:∃R,R=(List.range n).map (lkM n u i B):=⟨_,rfl⟩;have a3:Lw.Own Enc.i64 3 0 w4 (.slice (saa ga) n n) RA:=by rw[d0,a5];exact Z.r A a1
 have a4:Lw.Own Enc.i64 3 0 w4 (.slice (saa gc) n n) RB:=by rw[d1,a6];exact Z.r B a2
 have hb:=Z.b;have hT:=Z.t;have x1:gb≠ga:=λe=>Own.neB a3 hb dd t30;have x2:gb≠gc:=λe=>Own.neB a4 hb dd t30;have x3:gT≠ga:=λe=>Own.neO a3 hT dd ga t10 t30;have x4:gT≠gc:=λe=>Own.neO a4 hT dd gc t10 t30;have f6:HS.getD A sv0=(some ⟨ga,0,none⟩,n,n):=by rw[a5];exact Z.h A a1
 have f7:HS.getD B sv0=(some ⟨gc,0,none⟩,n,n):=by rw[a6];exact Z.h B a2
 have g5:-1000<=RA.getD B 0/\RA.getD B 0<=1000:=by rw[d0,x7d a2];have:=u7u (n:=n) (u:=u) (i:=i) A B;omega
 have g6:-1000<=RB.getD A 0/\RB.getD A 0<=1000:=by rw[d1,x7d a1];have:=u7u (n:=n) (u:=u) (i:=i) B A;omega
 refine sk (tn (sq (bl (sr ?_))));have hu:=e9.ext q4;refine z1b (0) U hu U z4w z1h (λg7 e4=>?_);refine z1d U (e4 _ hu) na3 (asg U (nn (sr (mv U (cl (ev1 U) (mkC func97) (v6w (u.getD i 0) _) U ?_)))));rintro _ w5 ⟨rfl,q5⟩;refine asg U (nn (sr (mv U (mv U (y4q U (wi6 oo) (z2x U (wi6 oo) (asg U (nn (sq ?_)))))))));have hu:=e9.ext (q4.n1 q5);intro a h;refine z0h (some 11) (λwb w'=>Fr [ga,gc] wb w') z2o ?_;intro w6 q6;have hu:=hu.ext q6;have D:=D.ext (q5.n1 q6);have hb:=hb.ext (q5.n1 q6);have hT:=hT.ext (q5.n1 q6);have a3:=a3.ext (q5.n1 q6);have a4:=a4.ext (q5.n1 q6);have hC:Fr [ga,gc] w6 w6:=l12 _ _;have f0:=hu;have a0:=D;have e3:=hb;have e0:=hT;have d6:=a3;have d7:=a4;refine z0d 0 h U λa h=>z0d 1 h U λa h=>z0d 2 h U λa h=>z0z (p:=((u.getD i 0).natAbs-1)) (0) 3 h U D.sl U z4w U λg8 e5 a h=>z2b 4 h wn U (λ_ hw=>e5 _ (a0.sl.fr hw t11)) na3 U λa h=>z0d 5 h U λa h=>z0d 6 h U λa h=>z3s 7 h U t13 U λa h=>z0z (p:=(((u.getD i 0).natAbs-1)+1)) (0) 8 h U D.sl U z4w U λg9 e6 a h=>z2b 9 h wn U (λ_ hw=>e6 _ (a0.sl.fr hw t11)) na3 U λa h=>z0d 10 h U λa h=>z0e 11 U (z9b (us:=[]) (ws:=[pta gb]) h U (z0a U (z0a U (z0a U z0f))) (mkC func45) (by have x:=j5x gb gT ga gc n A B HS (sgn (u.getD i 0)) RA RB _ hb hT f6 f7 a3 a4 g4 a1 a2 oo g5 g6;rw[<-f3,<-f4]at x;exact x) U t14 ?_);rintro _ w7 ⟨rfl,b7,b8,q7⟩ a h;have D:=D.fr q7 t11;have hb:=hb.fr q7;have hT:=hT.fr q7 t11;have a3:=b7;have a4:=b8;clear b7 b8;refine z1l (z0o ?_);clear hC f0 a0 e3 e0 d6 d7;have f5:Fr [(⟨gb,gT,n,b0,HS,G⟩:LkA).G A,(⟨gb,gT,n,b0,HS,G⟩:LkA).G B] w4 w7:=by rw[show (⟨gb,gT,n,b0,HS,G⟩:LkA).G A=ga from a5.symm,show (⟨gb,gT,n,b0,HS,G⟩:LkA).G B=gc from a6.symm];exact((l12 [ga,gc] _).z3 q5 q6 q7)
 have a7:=λa b=>u2d (n:=n) (u:=u) (i:=i) (a:=a) (b:=b) a8 U A B hA.symm (by rw[show (u.getD i 0).natAbs=((u.getD i 0).natAbs-1)+1 by omega];exact hB.symm);have Z:LkT 60 22 3 (⟨gb,gT,n,b0,HS,G⟩:LkA) w7 (lkM n u (i+1)):=f8.upd dd dd (i:=A) (j:=B) a1 a2 f5 (by
  show Lw.Own Enc.i64 3 0 _ (.slice (some ⟨G A,0,none⟩) n n) _;rw[<-a5,<-v6s (M:=lkM n u i A) (s:=sgn (u.getD i 0)) a2 (by rw[a7];simp) (λj hj=>by rw[a7,if_neg (by rintro(⟨_,e⟩|⟨e,e2⟩);exact hj e.symm;exact b9 e2.symm)];omega),<-d0];exact a3) (by
  show Lw.Own Enc.i64 3 0 _ (.slice (some ⟨G B,0,none⟩) n n) _;rw[<-a6,<-v6s (M:=lkM n u i B) (s:=sgn (u.getD i 0)) a1 (by rw[a7];simp) (λj hj=>by rw[a7,if_neg (by rintro(⟨e,_⟩|⟨e,_⟩);exact b9 e;exact hj e.symm)];omega),<-d1];exact a4) (λk g1 g3=>by funext b;rw[a7,if_neg (by rintro(⟨e,_⟩|⟨_,e⟩);exact g1 e.symm;exact g3 e.symm)];omega)
 refine bk (h.sub (L':=ll6 2 7 12 25 26 27) (csu U)) (tn ?_);intro a h;refine z0h (some 17) (λwb w'=>Fr [gA] wb w') z2o ?_;intro w8 q8;have D:=D.ext q8;have hC:Fr [gA] w8 w8:=l12 _ _;have a0:=D;refine z0d 0 h U λa h=>z0d 1 h U λa h=>z0d 2 h U λa h=>z0d 3 h U λa h=>z3s 4 h U t13 U λa h=>z0d 5 h U λa h=>z0d 6 h U λa h=>z3s 7 h U t13 U λa h=>z0z (p:=(((u.getD i 0).natAbs-1)+1)) (0) 8 h U D.sl U z4w U λh0 a9 a h=>z0d 10 h U λa h=>z0d 11 h U λa h=>z0z (p:=((u.getD i 0).natAbs-1)) (0) 12 h U D.sl U z4w U λh1 b1 a h=>z1w 9 13 kr U ?_ ?_;refine z5j h U (a9 _ D.sl) na3 U λa h=>z0b (z0e 13 U (z5j h U (b1 _ D.sl) na3 U λa h=>?_));refine z0b (z1k 14 kr kr kr hC (p:=((u.getD i 0).natAbs-1)) h wn U z4w oo oo oo U U λa h=>z0e 15 U (z0x (i:=((u.getD i 0).natAbs-1)) ((((flw (List.range n) (u.take i)).map λx:Nat=>(x:Int)).getD (((u.getD i 0).natAbs-1)+1) 0)) h U D oo U sz3 λw9 I q9 _hz a h=>?_));have hC:=hC.sp q9;clear _hz D;have D:=I;clear I;refine z0b (z1k 16 kr kr kr hC (p:=(((u.getD i 0).natAbs-1)+1)) h wn U z4w oo oo oo U U λa h=>z0e 17 U (z0x (i:=(((u.getD i 0).natAbs-1)+1)) ((((flw (List.range n) (u.take i)).map λx:Nat=>(x:Int)).getD ((u.getD i 0).natAbs-1) 0)) h U D t23 U sz3 λi1 I f1 _hz a h=>?_));clear _hz D;have D:=I;clear I;refine z1l (z0o ?_);clear hC a0;refine bk (h.sub (L':=ll5 2 7 25 26 27) (csu U)) (bn' (tn (rg (z0w U (wi6 oo) (mv U (nl ?_))))));have Z:=((Z.ext q8).fr q9 t60).fr f1 t60;exact lpE ((i+1)) (csu U) ⟨(q4.z6 q5 q6 q7 q8 q9 f1),⟨oo,b2,by rw[show ((flw (List.range n) (u.take (i+1))).map λx:Nat=>(x:Int))=(((flw (List.range n) (u.take i)).map λx:Nat=>(x:Int)).set ((u.getD i 0).natAbs-1) (((flw (List.range n) (u.take i)).map λx:Nat=>(x:Int)).getD (((u.getD i 0).natAbs-1)+1) 0)).set (((u.getD i 0).natAbs-1)+1) (((flw (List.range n) (u.take i)).map λx:Nat=>(x:Int)).getD ((u.getD i 0).natAbs-1) 0) from by rw[y4w a8,<-y5k,show (u.getD i 0).natAbs=((u.getD i 0).natAbs-1)+1 by omega,l70]];exact D,Z⟩⟩ oo;refine z5j h U (b1 _ D.sl) na3 U λa h=>z0b (z0e 9 U (z5j h U (a9 _ D.sl) na3 U λa h=>?_));refine z0b (z1k 14 kr kr kr hC (p:=((u.getD i 0).natAbs-1)) h wn U z4w oo oo oo U U λa h=>z0e 15 U (z0x (i:=((u.getD i 0).natAbs-1)) ((((flw (List.range n) (u.take i)).map λx:Nat=>(x:Int)).getD (((u.getD i 0).natAbs-1)+1) 0)) h U D oo U sz3 λi2 I d9 _hz a h=>?_));have hC:=hC.sp d9;clear _hz D;have D:=I;clear I;refine z0b (z1k 16 kr kr kr hC (p:=(((u.getD i 0).natAbs-1)+1)) h wn U z4w oo oo oo U U λa h=>z0e 17 U (z0x (i:=(((u.getD i 0).natAbs-1)+1)) ((((flw (List.range n) (u.take i)).map λx:Nat=>(x:Int)).getD ((u.getD i 0).natAbs-1) 0)) h U D t23 U sz3 λi3 I f2 _hz a h=>?_));clear _hz D;have D:=I;clear I;refine z1l (z0o ?_);clear hC a0;refine bk (h.sub (L':=ll5 2 7 25 26 27) (csu U)) (bn' (tn (rg (z0w U (wi6 oo) (mv U (nl ?_))))));have Z:=((Z.ext q8).fr d9 t60).fr f2 t60;exact lpE ((i+1)) (csu U) ⟨(q4.z6 q5 q6 q7 q8 d9 f2),⟨oo,b2,by rw[show ((flw (List.range n) (u.take (i+1))).map λx:Nat=>(x:Int))=(((flw (List.range n) (u.take i)).map λx:Nat=>(x:Int)).set ((u.getD i 0).natAbs-1) (((flw (List.range n) (u.take i)).map λx:Nat=>(x:Int)).getD (((u.getD i 0).natAbs-1)+1) 0)).set (((u.getD i 0).natAbs-1)+1) (((flw (List.range n) (u.take i)).map λx:Nat=>(x:Int)).getD ((u.getD i 0).natAbs-1) 0) from by rw[y4w a8,<-y5k,show (u.getD i 0).natAbs=((u.getD i 0).natAbs-1)+1 by omega,l70]];exact D,Z⟩⟩ oo;obtain rfl:u.length=i:=by omega
 exact ex (te (te (xh (tn (sr (mv U (asg U (kpL (ll1 6) (csu U) (nn (rt (r1 results43 U ⟨_,rfl,⟨gA,rfl⟩,Z,q4⟩)))))))))))
end Go.Proofs.YtlfdhllfmoplgaaGreatDoor
namespace Go.G26
open Go.Lw Go.G21 Go.G08
theorem j2w {α:Type}{w:World}{v:Value}{l:List (SQ α)}(h:Sl Enc.sl w v (l.map Prod.fst)):Sl (k0i α) w v l:=by
 obtain⟨A,c,D,I,O,Z⟩:=h;rw[l18]at D I;refine⟨A,c,D,I,O,λi y hy=>?_⟩;exact Z i y.1 (by rw[l23,hy];rfl)
end Go.G26
namespace Go.Proofs.YtlfdhllfmoplgaaGreatDoor
open Go.Lw Go.G21 Go.G08 Go.G09 Go.G26 _root_.Go.Proofs.Tryz
theorem sz60:z1u prog 60 1:=λ_=>kr
theorem zv60 (w:World):(zeroValue 60).run prog w=.ok (.slice none 0 0) w:=kr
theorem u2z (n:Nat)(v:Value)(u:List Int)(w0:World)(hu:Sl Enc.i64 w0 v u)(hn:1<=n/\n<=8)(hl:u.length<=64)(I:j4v n u):Rets prog 16 #[.int .i64 (n:Int),v] w0 λr w'=>(∃(g:Nat) (LL:List (SQ Int)),r=.tuple #[.slice (saa g) n n,.int .i64 0]/\LL.length=n/\Sl j7r w' (.slice (saa g) n n) LL/\QAt Enc.i64 w' LL/\∀i,i<n->(LL.getD i sqi).2=(List.range n).map (lkM n u u.length i))/\Fr [] w0 w':=by
 obtain⟨A,c,rfl,b4⟩:=id hu.form;refine we [(0,.int .i64 (n:Int)),(1,.slice A u.length c)] func16 U ntmps16 U (.c2 U U) ?_;have b1:=hu;refine sr (asg U (asg U (nn (sq (sr (mv U (mv U (cl (ev2 U) (mkC func42) (v4t n _ u _ hu hn hl I) U ?_))))))));rintro _ w1 ⟨rfl,q1⟩;have z1:=q1.size;refine asg U (nn (sr (mv U (ne' U (nn (cd U (λc0=>?_) (λc0=>?_)))))));exact absurd U c0;refine sk (tn (sr (mv U (z1j (m:=n) (c:=n) (sv0) U slE zv22 U (λgT w2 b6 O q2 z2=>(al zv60 U (λg7 w3 b5 D q3 z3=>(z3b U D U sz60 (λw4 D q4 z4=>(nn (sq (sr (z2j U D j5b (lnS U underlying60 (mv U (nn (bl ?_)))))))))))))))));have O:=(O.ext q3).fr q4 t11;refine lpK (ι:=Nat) (ll4 0 1 7 18) (λi=>[(19,.int .i64 (i:Int))]) (λi w'=>Fr [gT] w4 w'/\i<=n/\∃(HS:List SV) (G:Nat->Nat),(HS.length=n/\(∀k,k<i->HS.getD k sv0=(some ⟨G k,0,none⟩,n,n))/\(∀k,k<i->w0.heap.size<=G k))/\Lw.Own Enc.sl 22 w0.heap.size w' (.slice (saa gT) n n) HS/\LkR 3 w0.heap.size n w' G i) (λi=>n-i) 0 (csu U) ⟨l12 _ _,⟨l15 _,List.replicate n sv0,λ_=>0,⟨sp0,λk I=>absurd I oo,λk I=>absurd I oo⟩,O.low oo,⟨λk I=>absurd I oo,λi j hi=>absurd hi oo⟩⟩⟩ ?_;rintro i w5 ⟨q5,⟨b7,HS,G,⟨a3,a6,a4⟩,O,hR⟩⟩;have z5:=q5.size;refine kpC (ll5 0 1 7 18 19) (csu U) (sr (lt' U (nn (sq (cd U (λc1=>?_) (λc1=>?_))))));have a5:∀k,k<i->G k<w5.heap.size:=λk I=>((hR.r k I).blk (G k) t10).2;have b3:=a3;refine sk (tn (sq (bl (sr (mv U (asg U (nn ?_)))))));have D:=D.fr q5;intro a h;refine z0h (some 5) (λwb w'=>Fr [gT] wb w') z2o ?_;intro w6 q6;have z6:=q6.size;have D:=D.ext q6;have O:=O.ext q6;have hR:=hR.ext q6;have hC:Fr [gT] w6 w6:=l12 _ _;have a1:=D;have b0:=O;have a7:=hR;refine z6f 0 hC h wn U (λ_ hw=>a1.fr hw (λk_=>by simp at k_;omega)) j5b U λa h=>z0d 1 h U λa h=>z0d 2 h U λa h=>z0e 3 U (z7k (m:=n) (c:=n) ((0:Int)) h U U z4w zv3 U (l21 _) oo U λa0 w7 b2 Z q7 hz a h=>?_);have z7:=q7.size;have D:=D.ext q7;have O:=O.ext q7;have hR:=hR.ext q7;have hC:=hC.next q7;clear hz;refine z0b (z1k 4 kr kr kr hC (p:=i) h wn U slE oo oo oo U U λa h=>z0e 5 U (z0x (i:=i) ((some ⟨a0,0,none⟩,n,n)) h U O oo U k2r λw8 a2 q8 _hz a h=>?_));have z8:=q8.size;have D:=D.fr q8;have hR:=hR.fr q8 (z6o O dd);have Z:=Z.fr q8 (by intro k I hb;rw[l11.1 I]at hb;have:=(Z.blk _ hb).1;omega);clear _hz O;have O:=a2;clear a2;refine z1l (z0o ?_);clear hC a1 b0 a7;refine bk (h.sub (L':=ll5 0 1 7 18 19) (csu U)) (bn' (tn (rg (z0w U (wi6 oo) (mv U (nl ?_))))));exact lpE ((i+1)) (csu U) ⟨((l12 [gT] _).z4 q5 q6 q7 q8),⟨oo,HS.set i (some ⟨a0,0,none⟩,n,n),λk=>if k=i then a0 else G k,⟨by rw[l19];exact a3,λk I=>by
  dsimp only;rw[z1n oo];by_cases e:i=k;subst e;rw[if_pos U,if_pos U];rw[if_neg e,if_neg (λh:k=i=>e h.symm)];exact a6 k oo,λk I=>by
  dsimp only;by_cases e:k=i;rw[if_pos e];omega;rw[if_neg e];exact a4 k oo⟩,O,hR.add (Z.low oo) (λk I e=>by have:=a5 k I;omega)⟩⟩ oo
 have D:=D.fr q5;obtain rfl:n=i:=by omega
 have a9:=(O.blk gT t10).2;have hK:LkT 60 22 3 (⟨g7,gT,n,w5.heap.size,HS,G⟩:LkA) w5 (lkM n u 0):=⟨D,O.low (l15 _),a6,λk I=>by rw[j5k];exact(hR.r k I).low (l15 _),hR.d,D.lt,a9,λk I=>((hR.r k I).blk (G k) t10).2⟩;refine ex (te (te (xh (tn (sr (mv U (mv U (z5w z0f (ev1 U) ?_))))))));have hu:=b1.ext (q1.z4 q2 q3 q4 q5);refine cl (ev3 U) (mkC func43) (j1u g7 gT n w5.heap.size HS G _ u w0 _ (q1.z4 q2 q3 q4 q5) b1 hn hl I hK (l21 _) ⟨sm,a4⟩) U ?_;rintro _ w9 ⟨⟨gq,rfl⟩,hK2,q9⟩;have z9:=q9.size;have D:=hK2.b;have a8:=hK2.t;simp only at D a8;refine kpL (ll1 7) (csu U) (nn (sr (z2j U D j5b (asg U (asg U (nn (rt (r2 results16 U U ?_))))))));exact⟨_,rfl,⟨gT,lkL ⟨g7,gT,n,_,HS,G⟩ (lkM n u u.length),rfl,by simp[lkL],j2w (by rw[<-j9w hK2 a3];exact a8.sl),λq hq=>by
  obtain⟨j,hj,rfl⟩:=l48.1 hq;exact(hK2.r j (l61.1 hj)).sl,λi hi=>by rw[u8i hi]⟩,q9⟩
theorem j0e (x y:LId)(w0:World):Rets prog 98 #[ivv x,ivv y] w0 λr w'=>r=.agg #[.int .u8 (⟨(z3q (⟨x,y,0⟩:Cx)).1,(z3q (⟨x,y,0⟩:Cx)).2,0⟩:Cx).a.y,.int .i64 (⟨(z3q (⟨x,y,0⟩:Cx)).1,(z3q (⟨x,y,0⟩:Cx)).2,0⟩:Cx).a.n,.int .u8 (⟨(z3q (⟨x,y,0⟩:Cx)).1,(z3q (⟨x,y,0⟩:Cx)).2,0⟩:Cx).b.y,.int .i64 (⟨(z3q (⟨x,y,0⟩:Cx)).1,(z3q (⟨x,y,0⟩:Cx)).2,0⟩:Cx).b.n,.int .i64 (⟨(z3q (⟨x,y,0⟩:Cx)).1,(z3q (⟨x,y,0⟩:Cx)).2,0⟩:Cx).n]/\Fr [] w0 w':=by
 refine we [(0,ivv x),(1,ivv y)] func98 U ntmps98 U (.c2 U U) (sr (bx U (λg2 w1 a0 D q1 z1=>(bx U (λg3 w2 a1 I q2 z2=>(al x7j U (λg4 w3 a2 O q3 z3=>(nn (sq (sr ?_))))))))));have D:=D.ext (q2.n1 q3);refine z0k U D z2h ?_;have I:=I.ext q3;refine z0k U I z2h (cl (ev2 U) j4s (y0n x y _) U ?_);rintro _ w4 ⟨rfl,Z⟩;refine gt' U (nn (cd U (λc0=>?_) (λc0=>?_)));refine rg ?_;have I:=I.ext Z;refine z0k U I z2h ?_;have D:=D.ext Z;refine z0k U D z2h (z0j (vs:=[_,_]) U D z8r (λw5 D q5 z5=>?_));have I:=I.fr q5;refine z0j (vs:=[_,_]) U I z8r (λw6 I q6 z6=>(nl (tn (sr ?_))));have D:=D.fr q6;refine z0k U D z2h (z0k U I z2h (z1v (cs:=[_,_,_,_,_]) (ev2 U) j4l (z0g U (z0g U z0r)) U ?_));have O:=((O.ext Z).fr q5).fr q6;exact z0j (vs:=[_,_,_,_,_]) U O v2a (λw7 O q7 z7=>(nn (rt (rC results98 U O y5o  ⟨_,rfl,by simp only[z3q];first|rw[if_pos c0]|rw[if_neg c0],(q1.z6 q2 q3 Z q5 q6 q7)⟩))));refine sk (tn (sr ?_));have D:=D.ext Z;refine z0k U D z2h ?_;have I:=I.ext Z;refine z0k U I z2h (z1v (cs:=[_,_,_,_,_]) (ev2 U) j4l (z0g U (z0g U z0r)) U ?_);have O:=O.ext Z;exact z0j (vs:=[_,_,_,_,_]) U O v2a (λw8 O q8 z8=>(kpL (ll1 4) (csu U) (nn (rt (rC results98 U O y5o  ⟨_,rfl,by simp only[z3q];first|rw[if_pos c0]|rw[if_neg c0],(q1.z4 q2 q3 Z q8)⟩)))))
theorem x1m {a b:LId}:z5o a b=0↔a=b:=by
 constructor;intro h;unfold z5o at h;obtain⟨y,n⟩:=a;obtain⟨I,D⟩:=b;simp only at h;split at h;omega;split at h;omega;split at h;omega;split at h;omega;rw[show y=I by omega,show n=D by omega];rintro rfl;unfold z5o;simp
theorem x9t {c:Cx}{a b:LId}{n:Int}:y8r c ⟨a,b,n⟩=0↔isC a b c=true:=by
 unfold y8r isC;simp only[decide_eq_true_eq];by_cases h:z5o c.a a=0;rw[if_neg (not_not_intro h),x1m];exact⟨λe=>⟨x1m.1 h,e⟩,λe=>e.2⟩;rw[if_pos h];exact⟨λe=>absurd e h,λe=>absurd (x1m.2 e.1) h⟩
theorem u3q {l:List Cx}{a b:LId}{i:Nat}(hi:i<l.length)(h:isC a b (l.getD i cx0)=true)(hn:∀j,j<i->isC a b (l.getD j cx0)=false):z6q l a b=(l.getD i cx0).n:=by
 unfold z6q;rw[List.getD,l10 hi,l51]at h ⊢;have:l.find? (isC a b)=some l[i]:=by
  rw[List.find?_eq_some_iff_getElem];refine⟨h,i,hi,rfl,λj D=>?_⟩;have:=hn j D;rw[List.getD,l10 oo,l51]at this;rw[this];rfl
 rw[this];rfl
theorem y1x {l:List Cx}{a b:LId}(hn:∀j,j<l.length->isC a b (l.getD j cx0)=false):z6q l a b=0:=by
 unfold z6q;rw[List.find?_eq_none.2 λc I=>?_];rfl;obtain⟨j,D,rfl⟩:=l25 I;have:=hn j D;rw[List.getD,l10 D,l51]at this;rw[this];decide
theorem u7q (q:FbQ)(x y:LId)(w0:World)(hF:FbAt w0 q)(a6:q.cs.length<=1000000000):Rets prog 46 #[fvv q,ivv x,ivv y] w0 λr w'=>r=.int .i64 (lkC q.cs x y)/\Fr [] w0 w':=by
 have a7:=z1x hF.c;refine we [(0,fvv q),(1,ivv x),(2,ivv y)] func46 U ntmps46 U (.c3 U U U) ?_;have a3:=hF;refine sr (bx U (λg3 w1 a8 Z q1 z1=>(bx U (λg4 w2 a9 a0 q2 z2=>(bx U (λg5 w3 b0 a4 q3 z3=>(asg U (nn (sr ?_)))))))));have a0:=a0.ext q3;refine z0k U a0 z2h (z0k U a4 z2h (cl (ev2 U) (mkC func98) (j0e x y _) U ?_));rintro _ w4 ⟨rfl,q4⟩;have z4:=q4.size;refine al x7j U (λg7 w5 b1 I q5 z5=>?_);refine z0j (vs:=[_,_,_,_,_]) U I v2a (λw6 I q6 z6=>?_) (h1:=t73);refine nn (sq (sr (fad U y6t ?_)));have Z:=(Z.ext (q2.n3 q3 q4 q5)).fr q6;refine z0i U Z U j1p (lnS U underlying29 (mv U (nn (bl (lpK (ι:=Nat) (ll3 7 14 15) (λi=>[(16,.int .i64 (i:Int))]) (λi w'=>Fr [] w6 w'/\i<=q.cs.length/\∀j,j<i->isC (z3q (⟨x,y,0⟩:Cx)).1 (z3q (⟨x,y,0⟩:Cx)).2 (q.cs.getD j cx0)=false) (λi=>q.cs.length-i) 0 (csu U) ⟨l12 _ _,⟨l15 _,λj h=>absurd h oo⟩⟩ ?_)))));rintro i w7 ⟨q7,⟨hi,a1⟩⟩;have z7:=q7.size;refine kpC (ll4 7 14 15 16) (csu U) (sr (lt' U (nn (sq (cd U (λc0=>?_) (λc0=>?_))))));refine sk (tn (sq (bl (sr ?_))));have hF:=a3.ext (q1.z6 q2 q3 q4 q5 q6 q7);refine z1b (cx0) U hF.c U v7s z1h (λa5 a2=>?_);refine z1q U (a2 _ hF.c) y5o (al x7j U (λg9 w8 b2 D q8 z8=>?_));refine z0j (vs:=[_,_,_,_,_]) U D v2a (λw9 D q9 z9=>?_) (h1:=t73);refine nn (sr (z0k U D y5o ?_));have I:=(I.ext (q7.n1 q8)).fr q9;refine z0k U I y5o (cl (ev2 U) (mkC func99) (v1f (q.cs.getD i cx0) (⟨(z3q (⟨x,y,0⟩:Cx)).1,(z3q (⟨x,y,0⟩:Cx)).2,0⟩:Cx) _) U ?_);rintro _ b3 ⟨rfl,O⟩;have b4:=O.size;refine eq' U (nn (cd U (λc1=>?_) (λc1=>?_)));refine sr (fad U y6v ?_);have D:=D.ext O;refine z0i U D U na3 (asg U (kpL (ll1 6) (csu U) (nn (rt (rb (tr (tr (rb (tr (r1 results46 U ?_))))))))));exact⟨_,rfl,congrArg (Value.int .i64) (u3q oo (x9t.1 c1) a1).symm,((((q1.z6 q2 q3 q4 q5 q6 q7).n1 q8).z1 q9).n1 O)⟩;refine sk (bn' (tn (rg (z0w U (wi6 oo) (mv U (nl ?_))))));exact lpE (i+1) (csu U) ⟨(q7.z3 q8 q9 O),⟨oo,λj h=>by
  by_cases e:j=i;subst e;exact Bool.eq_false_iff.2 λh=>c1 (x9t.2 h);exact a1 j oo⟩⟩ oo
 obtain rfl:i=q.cs.length:=by omega
 refine ex (te (te (xh (tn (sr (asg U (nn (rt (r1 results46 U ?_)))))))));exact⟨_,rfl,congrArg (Value.int .i64) (y1x (λj hj=>a1 j oo)).symm,(q1.z6 q2 q3 q4 q5 q6 q7)⟩
theorem j0k (D I:FbQ)(x y:LId)(w0:World)(O:FbAt w0 D)(a1:FbAt w0 I)(b2:D.cs.length<=1000000000)(b3:I.cs.length<=1000000000)(h1:-10000000<=lkC D.cs x y/\lkC D.cs x y<=10000000)(h2:-10000000<=lkC I.cs x y/\lkC I.cs x y<=10000000):Rets prog 17 #[fvv D,fvv I,ivv x,ivv y] w0 λr w'=>r=.int .i64 (lkC I.cs x y-lkC D.cs x y)/\Fr [] w0 w':=by
 refine we [(0,fvv D),(1,fvv I),(2,ivv x),(3,ivv y)] func17 U ntmps17 U (.c4 U U U U) ?_;have b0:=O;have b1:=a1;refine sr (bx U (λg4 w1 b4 a6 q1 z1=>(bx U (λg5 w2 b5 a7 q2 z2=>(bx U (λg6 w3 b6 a8 q3 z3=>(bx U (λg7 w4 b7 a9 q4 z4=>(asg U (nn (sq ?_)))))))))));have O:=b0.ext (q1.n3 q2 q3 q4);have a1:=b1.ext (q1.n3 q2 q3 q4);intro a h;refine z0h none (λwb w'=>Fr [] wb w') z2o ?_;intro w5 q5;have O:=O.ext q5;have a1:=a1.ext q5;have a6:=a6.ext (q2.n3 q3 q4 q5);have a7:=a7.ext (q3.n2 q4 q5);have a8:=a8.ext (q4.n1 q5);have a9:=a9.ext q5;have hC:Fr [] w5 w5:=l12 _ _;have a4:=O;have a5:=a1;have a2:=a6;have a3:=a7;have Z:=a8;have a0:=a9;refine z0v 0 h U (λ_ hw=>a3.ext hw) x8v U λa h=>z0v 1 h U (λ_ hw=>Z.ext hw) z2h U λa h=>z0v 2 h U (λ_ hw=>a0.ext hw) z2h U λa h=>z0v 4 h U (λ_ hw=>a2.ext hw) x8v U λa h=>z0v 5 h U (λ_ hw=>Z.ext hw) z2h U λa h=>z0v 6 h U (λ_ hw=>a0.ext hw) z2h U λa h=>z0e 3 U (z0n h (z0a U (z0a U (z0a U z0f))) (mkC func46) (u7q I x y _ a1 b3) ?_);rintro _ w6 ⟨rfl,q6⟩ a h;have O:=O.ext q6;have hC:=hC.next q6;refine z0b (z0e 7 U (z0n h (z0a U (z0a U (z0a U z0f))) (mkC func46) (u7q D x y _ O b2) ?_));rintro _ w7 ⟨rfl,q7⟩ a h;have hC:=hC.next q7;refine z0b (z3a 8 h U t13 U λa h=>z0e 9 U (z0q h U λa h=>?_));refine z0b (z0o ?_);clear hC a4 a5 a2 a3 Z a0;exact bk (h.sub (L':=ll1 8) (csu U)) (tn (rt (r1 results17 U ⟨_,rfl,rfl,(q1.n6 q2 q3 q4 q5 q6 q7)⟩)))
end Go.Proofs.YtlfdhllfmoplgaaGreatDoor
namespace Go.Lw
open Go.RowKit
section
variable {P:Program} {n N:Nat} {L:List (Nat×Value)} {ds:List Nat} {w:World} {R:Ending->World->Prop} {fn:Func} {p pt p2 pt2 g g2:Nat} {T T2:TypeId} {cs:List Value} {z:Value}
theorem rMCN (hr:fn.results=#[.cell p pt,.cell p2 pt2])(hp:look L p=some (pta g))(hb:Blk w g T cs)(hg:z4b P pt cs.length)(a1:look L p2=some (pta g2))(O:Blk w g2 T2 [z])(Z:z2a P pt2)(I:∀D∈ds,w.heap[D]?=some (.deferred (some [])))(a0:ds.Nodup)(k:∀w',Fr ds w w'->R (.returned (.tuple #[.agg cs.toArray,z])) w'):EW (bodyPostM (Fo none) N P fn R) .ret n ds w L:=λa h=>by
 show LeavesInM _ _ _ _ _ _ a.defers _ _
 rw[h.dfr]
 refine z6z ds w I a0 (λw' hf=>?_) k
 have h1:=h.at_ p _ hp
 have h2:=h.at_ p2 _ a1
 simp only[l40]at h1 h2
 have hc:w'.cell? ⟨g2,0,none⟩=some z:=(y2i O I hf).cells 0 z U
 simp[results,hr,h1,h2,asAddr,loadVar,hg.1 w',hg.2 w',Z w',hc,run_loadCells_list w' _ cs (y2i hb I hf).cells]
end
end Go.Lw
namespace Go.Proofs.YtlfdhllfmoplgaaGreatDoor
open Go.Lw Go.G21 Go.G08 Go.G09 Go.G26 _root_.Go.Proofs.Tryz
theorem j3l (v:Value)(l:List LId)(x:LId)(w0:World)(D:Sl z1g w0 v l)(hl:l.length<=100000):Rets prog 84 #[v,ivv x] w0 λr w'=>r=.bool (decide (0<=y3r l x))/\Fr [] w0 w':=by
 obtain⟨A,k,rfl,hk⟩:=id D.form;refine we [(0,.slice A l.length k),(1,ivv x)] func84 U ntmps84 U (.c2 U U) ?_;have O:=D;refine sr (bx U (λg3 w1 a0 I Z z1=>(asg U (nn (sr (mv U (z0k U I z2h ?_)))))));have D:=O.ext Z;refine cl (ev2 U) (mkC func58) (u6i _ l x _ D hl) U ?_;rintro _ w2 ⟨rfl,q2⟩;exact ge' U U (asg U (kpL (ll1 4) (csu U) (nn (rt (r1 results84 U ⟨_,rfl,rfl,(Z.n1 q2)⟩)))))
theorem v9s (q:BdQ)(y:LId)(w0:World)(hB:BdAt w0 q)(hv:BdOk q.p):Rets prog 34 #[bvv q,ivv y] w0 λr w'=>(∃b p e:Int,r=.tuple #[.agg #[.int .u8 b,.int .i64 p],.int .i64 e])/\Fr [] w0 w':=by
 obtain⟨⟨hf,hb⟩,h4,d1⟩:=z3u hv;refine weM [(0,bvv q),(1,ivv y)] func34 U ntmps34 U (.c2 U U) ?_;have a3:=hB;refine isq (irg U (bx U (λg2 w1 d3 a5 q1 z1=>(bx U (λg3 w2 d4 a6 q2 z2=>(al x9x U (λg4 w3 d5 D q3 z3=>(al zv35 U (λg5 w4 d6 I q4 z4=>(inl (itn (isq (isq (irg U ?_))))))))))))));have a5:=a5.ext (q2.n2 q3 q4);refine z0k U a5 z5a (cl (ev1 U) (mkC func55) (y3i q _) U ?_);rintro _ w5 ⟨g9,rfl,d0,b1,q5⟩;have z5:=q5.size;refine inl (itn (ibl ?_));have b6:∀b∈bdB q,b<w0.heap.size:=BdS.lt a3.s;have hB:=a3.ext (q1.n4 q2 q3 q4 q5);refine j5y (α:=Bool×Nat) U (mkC func116) dd (y1r 8 g9 q w5 dd b1 hB.s hf hb) (BdS.lt hB.s) (λ_=>rfl) (λx=>[(11,.slice ((q.r x.1).getD x.2 iq0).1.1 ((q.r x.1).getD x.2 iq0).1.2.1 ((q.r x.1).getD x.2 iq0).1.2.2),(10,.agg #[.int .u8 (y2l x.1),.int .i64 ((x.2:Int)+1)])]) (λx=>by simp[ndE,slv]) (λ_=>rfl) (λ(s:List (Bool×Nat)) (W:World)=>Fr [] w5 W/\True) (λ(_:List (Bool×Nat)) (W:World)=>Fr [g4,g5] w5 W/\(∃b p:Int,Blk W g4 42 [.int .u8 b,.int .i64 p])/\Blk W g5 35 [.int .i64 0]) (λs W W' ht h=>⟨h.1.turn ht (l21 _),h.2⟩) (λs W W' ht h=>⟨h.1.turn ht (l21 _),⟨⟨h.2.1.choose,h.2.1.choose_spec.choose,h.2.1.choose_spec.choose_spec.turn ht⟩,h.2.2.turn ht⟩⟩) (λs W h=>h.1.size) ⟨l12 _ _,trivial⟩ 42 (λx=>[.int .u8 (y2l x.1),.int .i64 ((x.2:Int)+1)]) (λg x=>[(6,pta g),(7,.slice ((q.r x.1).getD x.2 iq0).1.1 ((q.r x.1).getD x.2 iq0).1.2.1 ((q.r x.1).getD x.2 iq0).1.2.2)]) (ll3 3 4 5) (csu U) ?_ ?_ ?_ ?_;rintro lN b9 x w6 ⟨q6,-⟩ e2;refine x3u [(10,.agg #[.int .u8 (y2l x.1),.int .i64 ((x.2:Int)+1)]),(11,.slice ((q.r x.1).getD x.2 iq0).1.1 ((q.r x.1).getD x.2 iq0).1.2.1 ((q.r x.1).getD x.2 iq0).1.2.2),(3,_),(4,_),(5,_)] (csu U) (isq (irg U (al x9x U (λg6 w7 b8 Z q7 z7=>?_))));refine z0j (vs:=[_,_]) U Z y4e (λw8 Z q8 z8=>?_) (h1:=t19);exact inl (itn (irg U (asg U (inl (asE g6 oo (csu U) Z (q7.z1 q8))))));rintro lN b9 x g6 w9 d7 b8 Z ⟨q9,-⟩ d9 e0;have z9:=q9.size;have b5:=Z.lt;have e1:(q.r x.1).length<=40:=by cases x.1<;>assumption
 have e3:=z3j (show z9o (q.r x.1) by cases x.1<;>assumption) x.2;have e4:((q.r x.1).getD x.2 iq0).1.2.1=((q.r x.1).getD x.2 iq0).2.length:=z1x (z1y (a3.iq x.1) x.2);refine ibl (isq (irg U (mv U ?_)));have a6:=a6.ext (q3.n3 q4 q5 q9);refine z0k U a6 z2h ?_;have hB:=a3.ext (q1.n5 q2 q3 q4 q5 q9);refine cl (ev2 U) (mkC func84) (j3l _ ((q.r x.1).getD x.2 iq0).2 y _ (z1y (hB.iq x.1) x.2) oo) U ?_;rintro _ e5 ⟨rfl,a0⟩;have f5:=a0.size;refine inl (itn (icd U (λc0=>?_) (λc0=>?_)));refine isq (irg U ?_);have Z:=Z.ext a0;refine z0k U Z z5s ?_;have D:=D.ext (q4.n3 q5 q9 a0);refine z0j (vs:=[_,_]) U D y4e (λe6 D a7 f6=>?_) (h1:=t19);have I:=(I.ext (q5.n2 q9 a0)).fr a7;refine z3b U I U j9y (λe7 I a8 f7=>(inl (itn (irt (rb ?_)))));have D:=D.fr a8;exact rndR (S:=[g4,g5]) ((l12 [g4,g5] _).z3 a0 a7 a8) (by intro k hk _;right;simp at hk;omega) ⟨((l12 [g4,g5] _).z4 q9 a0 a7 a8),⟨⟨_,_,D⟩,I⟩⟩;exact isk (bn' (j2x (S:=[]) a0 sp0 (λb hb=>l64 (b6 b hb) oo) (λb hb e=>by simp at e) ⟨(q9.n1 a0),trivial⟩));rintro D1 f4 e8 b7 hS ⟨a4,-⟩ O;have f8:=a4.size;have a1:=O;have a2:=O.lt;refine bn' (itn (isq (irg U (z1v (cs:=[_,_]) z0f y7p z0r U ?_))));have D:=D.ext (q4.n2 q5 a4);refine z0j (vs:=[_,_]) U D y4e (λe9 D a9 f9=>?_) (h1:=t19);have I:=(I.ext (q5.n1 a4)).fr a9;refine z3b U I U j9y (λf0 I b0 g0=>(inl (itn (irt ?_))));have D:=D.fr b0;have O:=a1.fr ((l12 [g4,g5] _).z2 a9 b0) so;refine rMCN results34 U D z5s U I j9z (y8w O) sp0 ?_;intro f1 c1;exact⟨_,rfl,⟨_,_,_,rfl⟩,(((q1.z6 q2 q3 q4 q5 a4 a9).z1 b0).z1 c1)⟩;rintro D1 _ f2 b7 _ ⟨b2,⟨⟨b_,p_,D⟩,I⟩⟩ O;have g1:=b2.size;have a1:=O;have a2:=O.lt;have b3:=D.lt;have b4:=I.lt;refine rb (tr (rMCN results34 U D z5s U I j9z (y8w O) sp0 ?_));intro f3 c9;exact⟨_,rfl,⟨_,_,_,rfl⟩,(q1.z6 q2 q3 q4 q5 b2 c9)⟩
open Go.Lw Go.G21 Go.G08 _root_.Go.Proofs.Tryz
def cxV (c:Cx):Value:=.agg (cxL c).toArray
theorem eqCx:v1n prog 147 cxV:=by
 intro e f Z oy w;have O:∀D,(eqGuard D 147 Z oy (cxV e) (cxV f)).run prog w=.ok () w:=λD=>run_eqGuard_agg w D 147 Z oy _ _ kr;have I:prog.stoodInHeld 147=false:=by kernel_rfl
 obtain⟨⟨y,n⟩,⟨y2,n2⟩,k⟩:=e;obtain⟨⟨y',n'⟩,⟨a1,a0⟩,k'⟩:=f;refine⟨O _,O _,?_,?_⟩;unfold cxV;simp[go_sem,I,underlying147];(repeat' split)<;>simp_all
 unfold cxV;simp[go_sem,I,underlying147];(repeat' split)<;>simp_all
theorem v5x (v1 v2:Value)(Z l2:List Pa)(w0:World)(h1:Sl z2d w0 v1 Z)(h2:Sl z2d w0 v2 l2):Rets prog 38 #[v1,v2] w0 λr w'=>r=.bool (decide (Z=l2))/\Fr [] w0 w':=by
 obtain⟨A1,k1,rfl,a7⟩:=id h1.form;obtain⟨A2,k2,rfl,a8⟩:=id h2.form;have a4:=h1.len_le;unfold maxLen at a4;refine we [(0,.slice A1 Z.length k1),(1,.slice A2 l2.length k2)] func38 U ntmps38 U (.c2 U U) ?_;have a2:=h1;have a3:=h2;refine sr (asg U (nn (sq (sr (mv U (lnS U underlying102 (mv U (lnS U underlying102 (ne' U (nn (cd U (λc0=>?_) (λc0=>?_))))))))))));refine sr (asg U (nn (rt (tr (r1 results38 U ?_)))));exact⟨_,rfl,congrArg Value.bool (decide_eq_false (λe=>c0 (by rw[e]))).symm,(l12 _ _)⟩;refine sk (tn (sq (sr (mv U (lnS U underlying102 (mv U (nn (bl (lpK (ι:=Nat) (ll3 0 1 12) (λi=>[(13,.int .i64 (i:Int))]) (λi w'=>Fr [] w0 w'/\i<=Z.length/\∀j,j<i->Z.getD j pa0=l2.getD j pa0) (λi=>Z.length-i) 0 (csu U) ⟨l12 _ _,⟨l15 _,λj h=>absurd h oo⟩⟩ ?_)))))))));rintro i w1 ⟨q1,⟨hi,hz⟩⟩;refine kpC (ll4 0 1 12 13) (csu U) (sr (lt' U (nn (sq (cd U (λc1=>?_) (λc1=>?_))))));refine sk (tn (sq (bl (sr (mv U (asg U (nn (sq ?_))))))));have h1:=a2.ext q1;have h2:=a3.ext q1;intro a h;have D:=l12 [] w1;refine z2w (λwb w'=>Fr [] wb w') z2o ?_;intro w2 hq;have h1:=h1.ext hq;have h2:=h2.ext hq;have D:=D.next hq;have a9:=hq.size;clear hq;have hC:Fr [] w2 w2:=l12 _ _;have I:=h1;have O:=h2;refine z0d 0 h U λa h=>z0d 1 h U λa h=>z0z (pa0) 2 h U h1 U z4q U ?_ (hp:=rfl);clear h a;intro a5 a0 a h;refine z1o 3 h wn U (λ_ hw=>a0 _ (I.ext hw)) z8j U λa h=>z0d 4 h U λa h=>z0d 5 h U λa h=>z0z (pa0) 6 h U h2 U z4q U ?_ (hp:=rfl);clear h a;intro a6 a1 a h;refine z1o 7 h wn U (λ_ hw=>a1 _ (O.ext hw)) z8j U λa h=>x3a (V:=paV) (e:=(Z.getD i pa0)) (f:=(l2.getD i pa0)) 8 hC h wn U U eqPa U U λa h=>z0o ?_;clear hC I O;refine bk (h.sub (L':=ll5 0 1 12 13 24) (csu U)) (tn (cd U (λc2=>?_) (λc2=>?_)));refine sr (asg U (nn (rt (rb (tr (tr (rb (tr (r1 results38 U ?_)))))))));exact⟨_,rfl,congrArg Value.bool (decide_eq_false (λe=>c2 (by rw[e]))).symm,(q1.n1 D)⟩;refine sk (bn' (tn (rg (z0w U (wi6 oo) (mv U (nl ?_))))));exact lpE (i+1) (csu U) ⟨(q1.n1 D),⟨oo,λj h=>by
  by_cases e:j=i;subst e;exact l16.1 c2;exact hz j oo⟩⟩ oo
 obtain rfl:i=Z.length:=by omega
 refine ex (te (te (xh (tn (sr (asg U (nn (rt (r1 results38 U ?_)))))))));exact⟨_,rfl,congrArg Value.bool (decide_eq_true (y6m pa0 oo (λj hj=>hz j oo))).symm,q1⟩
theorem j4c (v1 v2:Value)(Z l2:List Cx)(w0:World)(h1:Sl z4m w0 v1 Z)(h2:Sl z4m w0 v2 l2):Rets prog 96 #[v1,v2] w0 λr w'=>r=.bool (decide (Z=l2))/\Fr [] w0 w':=by
 obtain⟨A1,k1,rfl,a7⟩:=id h1.form;obtain⟨A2,k2,rfl,a8⟩:=id h2.form;have a4:=h1.len_le;unfold maxLen at a4;refine we [(0,.slice A1 Z.length k1),(1,.slice A2 l2.length k2)] func96 U ntmps96 U (.c2 U U) ?_;have a2:=h1;have a3:=h2;refine sr (asg U (nn (sq (sr (mv U (lnS U underlying29 (mv U (lnS U underlying29 (ne' U (nn (cd U (λc0=>?_) (λc0=>?_))))))))))));refine sr (asg U (nn (rt (tr (r1 results96 U ?_)))));exact⟨_,rfl,congrArg Value.bool (decide_eq_false (λe=>c0 (by rw[e]))).symm,(l12 _ _)⟩;refine sk (tn (sq (sr (mv U (lnS U underlying29 (mv U (nn (bl (lpK (ι:=Nat) (ll3 0 1 12) (λi=>[(13,.int .i64 (i:Int))]) (λi w'=>Fr [] w0 w'/\i<=Z.length/\∀j,j<i->Z.getD j cx0=l2.getD j cx0) (λi=>Z.length-i) 0 (csu U) ⟨l12 _ _,⟨l15 _,λj h=>absurd h oo⟩⟩ ?_)))))))));rintro i w1 ⟨q1,⟨hi,hz⟩⟩;refine kpC (ll4 0 1 12 13) (csu U) (sr (lt' U (nn (sq (cd U (λc1=>?_) (λc1=>?_))))));refine sk (tn (sq (bl (sr (mv U (asg U (nn (sq ?_))))))));have h1:=a2.ext q1;have h2:=a3.ext q1;intro a h;have D:=l12 [] w1;refine z2w (λwb w'=>Fr [] wb w') z2o ?_;intro w2 hq;have h1:=h1.ext hq;have h2:=h2.ext hq;have D:=D.next hq;have a9:=hq.size;clear hq;have hC:Fr [] w2 w2:=l12 _ _;have I:=h1;have O:=h2;refine z0d 0 h U λa h=>z0d 1 h U λa h=>z0z (cx0) 2 h U h1 U v7s U ?_ (hp:=rfl);clear h a;intro a5 a0 a h;refine z1o 3 h wn U (λ_ hw=>a0 _ (I.ext hw)) y5o U λa h=>z0d 4 h U λa h=>z0d 5 h U λa h=>z0z (cx0) 6 h U h2 U v7s U ?_ (hp:=rfl);clear h a;intro a6 a1 a h;refine z1o 7 h wn U (λ_ hw=>a1 _ (O.ext hw)) y5o U λa h=>x3a (V:=cxV) (e:=(Z.getD i cx0)) (f:=(l2.getD i cx0)) 8 hC h wn U U eqCx U U λa h=>z0o ?_;clear hC I O;refine bk (h.sub (L':=ll5 0 1 12 13 24) (csu U)) (tn (cd U (λc2=>?_) (λc2=>?_)));refine sr (asg U (nn (rt (rb (tr (tr (rb (tr (r1 results96 U ?_)))))))));exact⟨_,rfl,congrArg Value.bool (decide_eq_false (λe=>c2 (by rw[e]))).symm,(q1.n1 D)⟩;refine sk (bn' (tn (rg (z0w U (wi6 oo) (mv U (nl ?_))))));exact lpE (i+1) (csu U) ⟨(q1.n1 D),⟨oo,λj h=>by
  by_cases e:j=i;subst e;exact l16.1 c2;exact hz j oo⟩⟩ oo
 obtain rfl:i=Z.length:=by omega
 refine ex (te (te (xh (tn (sr (asg U (nn (rt (r1 results96 U ?_)))))))));exact⟨_,rfl,congrArg Value.bool (decide_eq_true (y6m cx0 oo (λj hj=>hz j oo))).symm,q1⟩
theorem v3q (D I:LpQ)(w0:World)(h1:LpAt w0 D)(h2:LpAt w0 I)(hl:D.ths.length<=100000)(he:D.p=I.p):Rets prog 92 #[lvv D,lvv I] w0 λr w'=>r=.bool true/\Fr [] w0 w':=by
 have e1:D.b=I.b:=congrArg Lp.b he;have e2:D.nw=I.nw:=congrArg Lp.nw he;have e3:D.ths=I.ths:=congrArg Lp.th he;have e4:D.pas=I.pas:=congrArg Lp.pa he;refine we [(0,lvv D),(1,lvv I)] func92 U ntmps92 U (.c2 U U) ?_;have a0:=h1;have a1:=h2;refine sr (bx U (λg2 w1 a2 O q1 z1=>(bx U (λg3 w2 a3 Z q2 z2=>(asg U (nn (sq (x7a (r:=4) (L':=[]) (((((D.b=I.b)/\( (D.nw=true↔I.nw=true)))/\D.ths=I.ths)/\D.pas=I.pas)) .nil ?_ ?_))))))));refine fad U x2c ?_;have O:=O.ext q2;refine z0i U O U x3d (fad U x2c (z0i U Z U x3d (eq' U (mv U (gs 10 U (λg0=>?_) (λhh=>absurd (by exact e1) hh))))));refine gY U (fad U x7x (gY U (z0i U O U na4 (gY U (fad U x7x (gY U (z0i U Z U na4 (gY U (u8h U U underlying4 U (pkt U (mv U (gs 17 U (λg1=>?_) (λhh=>absurd (by exact(by rw[e2])) hh)))))))))))));refine gY U (fad U z6m (gY U (z0i U O U z4s (gY U (fad U z6m (gY U (z0i U Z U z4s (gY U ?_))))))));have h1:=a0.ext (q1.n1 q2);have h2:=a1.ext (q1.n1 q2);refine cl (ev2 U) j8x (y6y _ _ D.ths I.ths _ h1.1 h2.1 hl) U ?_;rintro _ w3 ⟨rfl,q3⟩;refine pkt U (mv U (gs 24 U (λg2=>?_) (λhh=>absurd (by exact e3) hh)));refine gY U (fad U z7r (gY U ?_));have O:=O.ext q3;refine z0i U O U z8o (gY U (fad U z7r (gY U ?_)));have Z:=Z.ext q3;refine z0i U Z U z8o (gY U ?_);have h1:=a0.ext (q1.n2 q2 q3);have h2:=a1.ext (q1.n2 q2 q3);refine cl (ev2 U) (mkC func38) (v5x _ _ D.pas I.pas _ h1.2 h2.2) U ?_;rintro _ w4 ⟨rfl,q4⟩;exact pkt U (asg U (z9u U .nil (q3.n1 q4)));intro w5 q5;have z5:=q5.size;refine tn (rt (r1 results92 U ?_));exact⟨_,rfl,congrArg Value.bool (decide_eq_true ⟨⟨⟨e1,by rw[e2]⟩,e3⟩,e4⟩),(q1.n2 q2 q5)⟩
theorem v5r (D I:YQ)(w0:World)(h1:Sl z2d w0 (slv D.pe) D.pes)(h2:Sl z2d w0 (slv I.pe) I.pes)(he:D.p=I.p):Rets prog 37 #[yvv D,yvv I] w0 λr w'=>r=.bool true/\Fr [] w0 w':=by
 have e1:D.inn=I.inn:=congrArg Yn.inn he;have e2:D.pl=I.pl:=congrArg Yn.pl he;have e3:D.ct=I.ct:=congrArg Yn.ct he;have e4:D.nw=I.nw:=congrArg Yn.nw he;have e5:D.pes=I.pes:=congrArg Yn.pe he;refine we [(0,yvv D),(1,yvv I)] func37 U ntmps37 U (.c2 U U) ?_;have a0:=h1;have a1:=h2;refine sr (bx U (λg2 w1 a2 O q1 z1=>(bx U (λg3 w2 a3 Z q2 z2=>(asg U (nn (sq (x7a (r:=4) (L':=[]) (((((( (D.inn=true↔I.inn=true))/\(D.pl=I.pl))/\(D.ct=I.ct))/\( (D.nw=true↔I.nw=true)))/\D.pes=I.pes)) .nil ?_ ?_))))))));refine fad U z7f ?_;have O:=O.ext q2;refine z0i U O U na4 (fad U z7f (z0i U Z U na4 (u8h U U underlying4 U (mv U (gs 10 U (λg0=>?_) (λhh=>absurd (by exact(by rw[e1])) hh))))));refine gY U (fad U z4x (gY U (z0i U O U na3 (gY U (fad U z4x (gY U (z0i U Z U na3 (gY U (eq' U (pkt U (mv U (gs 17 U (λg1=>?_) (λhh=>absurd (by exact e2) hh)))))))))))));refine gY U (fad U z7e (gY U (z0i U O U na3 (gY U (fad U z7e (gY U (z0i U Z U na3 (gY U (eq' U (pkt U (mv U (gs 24 U (λg2=>?_) (λhh=>absurd (by exact e3) hh)))))))))))));refine gY U (fad U x1g (gY U (z0i U O U na4 (gY U (fad U x1g (gY U (z0i U Z U na4 (gY U (u8h U U underlying4 U (pkt U (mv U (gs 31 U (λg3=>?_) (λhh=>absurd (by exact(by rw[e4])) hh)))))))))))));refine gY U (fad U z6n (gY U (z0i U O U z8o (gY U (fad U z6n (gY U (z0i U Z U z8o (gY U ?_))))))));have h1:=a0.ext (q1.n1 q2);have h2:=a1.ext (q1.n1 q2);refine cl (ev2 U) (mkC func38) (v5x _ _ D.pes I.pes _ h1 h2) U ?_;rintro _ w3 ⟨rfl,q3⟩;exact pkt U (asg U (z9u U .nil q3));intro w4 q4;have z4:=q4.size;refine tn (rt (r1 results37 U ?_));exact⟨_,rfl,congrArg Value.bool (decide_eq_true ⟨⟨⟨⟨by rw[e1],e2⟩,e3⟩,by rw[e4]⟩,e5⟩),(q1.n2 q2 q4)⟩
theorem u2u (v1 v2:Value)(I l2:List LpQ)(w0:World)(h1:Sl z5q w0 v1 I)(h2:Sl z5q w0 v2 l2)(Z:LpsAt w0 I)(a0:LpsAt w0 l2)(hl:I.length=l2.length)(he:∀i,i<I.length->(I.getD i lq0).p=(l2.getD i lq0).p/\(I.getD i lq0).ths.length<=100000):Rets prog 94 #[v1,v2,.func (.func 92) #[] #[]] w0 λr w'=>r=.bool true/\Fr [] w0 w':=by
 obtain⟨A1,k1,rfl,b3⟩:=id h1.form;obtain⟨A2,k2,rfl,b4⟩:=id h2.form;have a8:=h1.len_le;unfold maxLen at a8;refine we [(0,.slice A1 I.length k1),(1,.slice A2 l2.length k2),(2,.func (.func 92) #[] #[])] func94 U ntmps94 U (.c3 U U U) ?_;have a6:=h1;have a7:=h2;have a4:=Z;have a5:=a0;refine sr (asg U (nn (sq (sr (mv U (lnS U underlying123 (mv U (lnS U underlying123 (ne' U (nn (cd U (λc0=>?_) (λc0=>?_))))))))))));exfalso;omega;refine sk (tn (sq (sr (mv U (lnS U underlying123 (mv U (nn (bl (lpK (ι:=Nat) (ll4 1 2 15 16) (λi=>[(17,.int .i64 (i:Int))]) (λi w'=>Fr [] w0 w'/\i<=I.length) (λi=>I.length-i) 0 (csu U) ⟨l12 _ _,l15 _⟩ ?_)))))))));rintro i w1 ⟨q1,hi⟩;have z1:=q1.size;refine kpC (ll5 1 2 15 16 17) (csu U) (sr (lt' U (nn (sq (cd U (λc1=>?_) (λc1=>?_))))));have a3:=he i oo;refine sk (tn (sq (bl (sr (mv U ?_)))));have h1:=a6.ext q1;refine z1b (lq0) U h1 U y3d z1h (λa9 a1=>?_);refine z1q U (a1 _ h1) y4o (al x1l U (λg8 w2 b1 D q2 z2=>?_));refine asg U (z0j (vs:=[_,_,_,_]) U D x3j (λw3 D q3 z3=>?_) (h1:=(by first|(simp[Value.oneCell',S];done)|exact z5q.one _)));refine nn (sr (mv U (mv U ?_)));have h2:=a7.ext (q1.z2 q2 q3);refine z1b (lq0) U h2 U y3d z1h (λb0 a2=>?_);refine z1q U (a2 _ h2) y4o (al x1l U (λg9 w4 b2 O q4 z4=>?_));refine z0j (vs:=[_,_,_,_]) U O x3j (λw5 O q5 z5=>?_) (h1:=(by first|(simp[Value.oneCell',S];done)|exact z5q.one _));refine nn (sr (mv U ?_));have D:=(D.ext q4).fr q5;refine z0k U D y4o (z0k U O y4o ?_);have Z:=a4.ext (q1.z4 q2 q3 q4 q5);have a0:=a5.ext (q1.z4 q2 q3 q4 q5);refine clv (us:=[]) (ws:=[]) U (ev2 U) (mkC func92) (v3q (I.getD i lq0) (l2.getD i lq0) _ (Z _ (z1a oo)) (a0 _ (z1a oo)) a3.2 a3.1) U t14 ?_;rintro _ w6 ⟨rfl,q6⟩;have z6:=q6.size;refine nt' U (kpL (ll6 1 2 15 16 17 30) (csu U) (nn (cd U (λc2=>?_) (λc2=>?_))));exact absurd c2 dd;exact sk (bn' (tn (rg (z0w U (wi6 oo) (mv U (nl (lpE (i+1) (csu U) ⟨(q1.z5 q2 q3 q4 q5 q6),oo⟩ oo)))))));obtain rfl:i=I.length:=by omega
 exact ex (te (te (xh (tn (sr (asg U (kpL (ll1 6) (csu U) (nn (rt (r1 results94 U ⟨_,rfl,rfl,q1⟩))))))))))
theorem u1g (v1 v2:Value)(I l2:List YQ)(w0:World)(h1:Sl z3d w0 v1 I)(h2:Sl z3d w0 v2 l2)(Z:YsA w0 I)(a0:YsA w0 l2)(hl:I.length=l2.length)(he:∀i,i<I.length->(I.getD i yq0).p=(l2.getD i yq0).p):Rets prog 40 #[v1,v2,.func (.func 37) #[] #[]] w0 λr w'=>r=.bool true/\Fr [] w0 w':=by
 obtain⟨A1,k1,rfl,b3⟩:=id h1.form;obtain⟨A2,k2,rfl,b4⟩:=id h2.form;have a7:=h1.len_le;unfold maxLen at a7;refine we [(0,.slice A1 I.length k1),(1,.slice A2 l2.length k2),(2,.func (.func 37) #[] #[])] func40 U ntmps40 U (.c3 U U U) ?_;have a5:=h1;have a6:=h2;have a3:=Z;have a4:=a0;refine sr (asg U (nn (sq (sr (mv U (lnS U underlying26 (mv U (lnS U underlying26 (ne' U (nn (cd U (λc0=>?_) (λc0=>?_))))))))))));exfalso;omega;refine sk (tn (sq (sr (mv U (lnS U underlying26 (mv U (nn (bl (lpK (ι:=Nat) (ll4 1 2 15 16) (λi=>[(17,.int .i64 (i:Int))]) (λi w'=>Fr [] w0 w'/\i<=I.length) (λi=>I.length-i) 0 (csu U) ⟨l12 _ _,l15 _⟩ ?_)))))))));rintro i w1 ⟨q1,hi⟩;have z1:=q1.size;refine kpC (ll5 1 2 15 16 17) (csu U) (sr (lt' U (nn (sq (cd U (λc1=>?_) (λc1=>?_))))));have a8:=he i oo;refine sk (tn (sq (bl (sr (mv U ?_)))));have h1:=a5.ext q1;refine z1b (yq0) U h1 U y4l z1h (λa9 a1=>?_);refine z1q U (a1 _ h1) z3c (al z5p U (λg8 w2 b1 D q2 z2=>?_));refine asg U (z0j (vs:=[_,_,_,_,_]) U D z3h (λw3 D q3 z3=>?_) (h1:=t65));refine nn (sr (mv U (mv U ?_)));have h2:=a6.ext (q1.z2 q2 q3);refine z1b (yq0) U h2 U y4l z1h (λb0 a2=>?_);refine z1q U (a2 _ h2) z3c (al z5p U (λg9 w4 b2 O q4 z4=>?_));refine z0j (vs:=[_,_,_,_,_]) U O z3h (λw5 O q5 z5=>?_) (h1:=t65);refine nn (sr (mv U ?_));have D:=(D.ext q4).fr q5;refine z0k U D z3c (z0k U O z3c ?_);have Z:=a3.ext (q1.z4 q2 q3 q4 q5);have a0:=a4.ext (q1.z4 q2 q3 q4 q5);refine clv (us:=[]) (ws:=[]) U (ev2 U) (mkC func37) (v5r (I.getD i yq0) (l2.getD i yq0) _ (Z i) (a0 i) a8) U t14 ?_;rintro _ w6 ⟨rfl,q6⟩;have z6:=q6.size;refine nt' U (kpL (ll6 1 2 15 16 17 30) (csu U) (nn (cd U (λc2=>?_) (λc2=>?_))));exact absurd c2 dd;exact sk (bn' (tn (rg (z0w U (wi6 oo) (mv U (nl (lpE (i+1) (csu U) ⟨(q1.z5 q2 q3 q4 q5 q6),oo⟩ oo)))))));obtain rfl:i=I.length:=by omega
 exact ex (te (te (xh (tn (sr (asg U (kpL (ll1 6) (csu U) (nn (rt (r1 results40 U ⟨_,rfl,rfl,q1⟩))))))))))
theorem k0w:z2a prog 169:=λ_=>kr
theorem v2h (v1 v2:Value)(D I:List LpQ)(gf:Nat)(w0:World)(h1:Sl z5q w0 v1 D)(h2:Sl z5q w0 v2 I)(O:LpsAt w0 D)(Z:LpsAt w0 I)(a0:Blk w0 gf 169 [.func (.func 92) #[] #[]])(hl:D.length=I.length)(he:∀i,i<D.length->(D.getD i lq0).p=(I.getD i lq0).p/\(D.getD i lq0).ths.length<=100000):Rets prog 93 #[v1,v2,pta gf] w0 λr w'=>r=.bool true/\Fr [] w0 w':=by
 obtain⟨A1,k1,rfl,a5⟩:=id h1.form;obtain⟨A2,k2,rfl,a6⟩:=id h2.form;refine we [(0,.slice A1 D.length k1),(1,.slice A2 I.length k2),(2,pta gf)] func93 U ntmps93 U (.c3 U U U) ?_;have a3:=h1;have a4:=h2;have a1:=O;have a2:=Z;refine sr (asg U (nn (sr (mv U (mv U (z2j U a0 k0w (cl (ev3 U) (mkC func94) (u2u _ _ D I _ h1 h2 O Z hl he) U ?_)))))));rintro _ w1 ⟨rfl,q1⟩;exact asg U (kpL (ll1 5) (csu U) (nn (rt (r1 results93 U ⟨_,rfl,rfl,q1⟩))))
theorem u8p (v1 v2:Value)(D l2:List TQ)(w0:World)(h1:Sl z4o w0 v1 D)(h2:Sl z4o w0 v2 l2)(gf:Nat)(I:TabAt w0 D)(O:TabAt w0 l2)(Z:Blk w0 gf 169 [.func (.func 92) #[] #[]])(hl:D.length=l2.length)(he:∀i,i<D.length->(D.getD i tq0).2.length=(l2.getD i tq0).2.length/\∀k,k<(D.getD i tq0).2.length->((D.getD i tq0).2.getD k lq0).p=((l2.getD i tq0).2.getD k lq0).p/\((D.getD i tq0).2.getD k lq0).ths.length<=100000):Rets prog 95 #[v1,v2,.func (.func 93) #[] #[pta gf]] w0 λr w'=>r=.bool true/\Fr [] w0 w':=by
 obtain⟨A1,k1,rfl,b1⟩:=id h1.form;obtain⟨A2,k2,rfl,b2⟩:=id h2.form;have a8:=h1.len_le;unfold maxLen at a8;refine we [(0,.slice A1 D.length k1),(1,.slice A2 l2.length k2),(2,.func (.func 93) #[] #[pta gf])] func95 U ntmps95 U (.c3 U U U) ?_;have a6:=h1;have a7:=h2;have a4:=I;have a5:=O;have a0:=Z;refine sr (asg U (nn (sq (sr (mv U (lnS U underlying28 (mv U (lnS U underlying28 (ne' U (nn (cd U (λc0=>?_) (λc0=>?_))))))))))));exfalso;omega;refine sk (tn (sq (sr (mv U (lnS U underlying28 (mv U (nn (bl (lpK (ι:=Nat) (ll4 1 2 15 16) (λi=>[(17,.int .i64 (i:Int))]) (λi w'=>Fr [] w0 w'/\i<=D.length) (λi=>D.length-i) 0 (csu U) ⟨l12 _ _,l15 _⟩ ?_)))))))));rintro i w1 ⟨q1,hi⟩;refine kpC (ll5 1 2 15 16 17) (csu U) (sr (lt' U (nn (sq (cd U (λc1=>?_) (λc1=>?_))))));have a3:=he i oo;refine sk (tn (sq (bl (sr (mv U ?_)))));have h1:=a6.ext q1;refine z1b (tq0) U h1 U y7v z1h (λa9 a1=>?_);refine z1d U (a1 _ h1) y0s (asg U (asg U (nn (sr (mv U (mv U ?_))))));have h2:=a7.ext q1;refine z1b (tq0) U h2 U y7v z1h (λb0 a2=>?_);refine z1d U (a2 _ h2) y0s (asg U (nn (sr (mv U (mv U (mv U ?_))))));have I:=a4.ext q1;have O:=a5.ext q1;have Z:=a0.ext q1;refine clv (us:=[]) (ws:=[pta gf]) U (ev2 U) (mkC func93) (v2h _ _ (D.getD i tq0).2 (l2.getD i tq0).2 gf _ (I _ (z1a (d:=tq0) (i:=i) oo)).1 (O _ (z1a (d:=tq0) (i:=i) oo)).1 (I _ (z1a (d:=tq0) (i:=i) oo)).2 (O _ (z1a (d:=tq0) (i:=i) oo)).2 Z a3.1 a3.2) U t14 ?_;rintro _ w2 ⟨rfl,q2⟩;refine nt' U (kpL (ll6 1 2 15 16 17 30) (csu U) (nn (cd U (λc2=>?_) (λc2=>?_))));exact absurd c2 dd;exact sk (bn' (tn (rg (z0w U (wi6 oo) (mv U (nl (lpE (i+1) (csu U) ⟨(q1.n1 q2),oo⟩ oo)))))));obtain rfl:i=D.length:=by omega
 exact ex (te (te (xh (tn (sr (asg U (kpL (ll1 6) (csu U) (nn (rt (r1 results95 U ⟨_,rfl,rfl,q1⟩))))))))))
end Go.Proofs.YtlfdhllfmoplgaaGreatDoor
