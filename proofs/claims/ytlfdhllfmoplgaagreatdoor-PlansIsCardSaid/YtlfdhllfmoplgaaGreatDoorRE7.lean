/- Texts of the proof, joined. -/
import Derived.Test.YtlfdhllfmoplgaaGreatDoorRows
import Derived.Laws.BitsAllLaws
import Derived.Laws.BitsLemmas
import Derived.Test.YtlfdhllfmoplgaaGreatDoorRE6
set_option linter.unusedVariables false
set_option linter.unusedSimpArgs false
set_option maxHeartbeats 4000000
namespace Go.G09
open Go.Lw Go.G21 Go.G08
def ctL (p:MSt):List Int:=p.ys.map Yn.ct
theorem v0c {p:MSt}{d:Int}:∀ {l l':List Yn},z4c p d l=.ok l'->l'.map Yn.ct=l.map Yn.ct
 | [],l',h=>by cases h;rfl
 | y::l,l',h=>by
  unfold z4c at h
  split at h
  ·cases h
  rename_i O D
  split at h
  ·cases h
  rename_i I hl
  cases h
  rw[l32,l32,v0c hl,(x9n D).2]
theorem u0k {r:Int}:∀ {n:Nat} {p q:MSt},z4l n p r=.ok q->ctL q=ctL p
 | 0,p,q,e=>by cases e;rfl
 | n+1,p,q,e=>by
  unfold z4l at e
  split at e
  ·cases e;rfl
  split at e
  ·cases e
  rename_i O D
  refine(u0k e).trans ?_
  unfold z5x at D
  split at D
  ·cases D
  rename_i ys I
  split at D
  ·cases D
  cases D;exact v0c I
theorem x3i {p q:MSt}{o:MOp}(e:doM p o=.ok q):z9i o=0/\opM p o=.ok q:=by
 unfold doM at e;split at e;cases e;rename_i h;exact⟨Decidable.not_not.1 h,e⟩
theorem j1n {p q:MSt}{o:MOp}(hr:-4<=p.rk/\p.rk<=4)(e:doM p o=.ok q)(I:o.k=3):q.rk=o.r/\q.B=p.B/\ctL q=ctL p:=by
 obtain⟨Z,e⟩:=x3i e;have h6:=(z3s Z).2.2.2.2.2 I;unfold opM at e;rw[if_neg oo,if_neg oo,if_pos I]at e;have D:∀ {k:Nat} {p q:MSt},(p.rk-o.r<=k/\o.r-p.rk<=k)->z4l k p o.r=.ok q->q.rk=o.r:=by
  intro k;induction k with
  | zero=>intro p q h e;cases e;omega
  | succ k ih=>
   intro p q h e;unfold z4l at e;by_cases e0:p.rk=o.r;rw[if_pos e0]at e;cases e;exact e0;rw[if_neg e0]at e;split at e;cases e;rename_i p1 O;refine ih ?_ e;rw[j2b O];unfold stI;split;rw[if_pos U];omega;rw[if_neg dd];omega
 exact⟨D (k:=8) oo e,x6p e,u0k e⟩
theorem v8z {p q:MSt}{o:MOp}(e:doM p o=.ok q)(hk:o.k=7):q.rk=p.rk/\ctL q=ctL p/\p.B.at o.b o.p≠[]/\z4d (1-o.b) (z5q o.b o.p p.rk)=0/\(p.B.at o.b o.p).length+(p.B.at (1-o.b)<|z5q o.b o.p p.rk).length<=4/\q.B=(p.B.put o.b o.p []).put (1-o.b) (z5q o.b o.p p.rk) (y1w p.B o.b o.p<|z5q o.b o.p p.rk):=by
 obtain⟨Z,e⟩:=x3i e;obtain⟨D,_,_⟩:=z2t<|(z3s Z).2.2.2.2.1 oo;unfold opM at e;rw[if_neg oo,if_neg oo,if_neg oo,if_neg oo,if_neg oo,if_neg oo,if_pos hk]at e;unfold z8i at e;split at e;cases e;rename_i I;split at e;cases e;rename_i O;split at e;cases e;split at e;cases e;rename_i h4;cases e;refine⟨rfl,rfl,I,Decidable.not_not.1 O,oo,?_⟩;show (p.B.put o.b o.p []).put _ _ (y0z p o)=_;congr 1;unfold y0z y1w;rcases D with D|D<;>rw[D]
 rw[if_neg dd,if_neg dd];rfl;rw[if_pos U,if_pos U];rfl
theorem x7n {p:MSt}{y a b e:Int}(h:z8v p y a b=.error e):e≠0:=by
 unfold z8v at h;split at h;rename_i D;cases h;exact D;cases h
theorem u0m {p:MSt}{o:MOp}{t s:List LId}{e:Int}(h:y1z p o t s=.error e):e≠0:=by
 unfold y1z at h;split at h;rename_i D;cases h;exact D;split at h;cases h;decide;cases h
theorem x5a {p:MSt}{d e:Int}:∀ {l:List Yn},z4c p d l=.error e->e≠0
 | [],h=>by cases h
 | y::l,h=>by
  unfold z4c at h;split at h
  ·rename_i e1 D
   cases h
   unfold z7i at D;split at D
   ·cases D
   split at D
   ·rename_i I;cases D;exact I
   cases D
  split at h
  ·rename_i e1 D
   cases h;exact x5a D
  cases h
theorem v1m {e:Int}:∀ {r l:List Cx},z4e l r=.error e->e≠0
 | [],l,h=>by cases h
 | c::r,l,h=>by
  unfold z4e at h;split at h
  ·rename_i e1 D
   cases h
   unfold y3z at D
   simp only at D
   generalize (if 0<z6m c.a c.b then (c.b,c.a) else (c.a,c.b))=k at D
   by_cases c1:z6w l k.1 k.2+c.n < -1048576\/1048576<z6w l k.1 k.2+c.n
   ·rw[if_pos c1]at D;cases D;decide
   rw[if_neg c1]at D;split at D<;>cases D
  exact v1m h
theorem x9l {r e:Int}:∀ {n:Nat} {p:MSt},z4l n p r=.error e->e≠0
 | 0,p,h=>by cases h
 | n+1,p,h=>by
  unfold z4l at h;split at h
  ·cases h
  split at h
  ·rename_i e1 D
   cases h
   unfold z5x at D;split at D
   ·rename_i e2 I;cases D;exact x5a I
   split at D
   ·rename_i e2 I;cases D;exact v1m I
   cases D
  exact x9l h
theorem k4y {p:MSt}{o:MOp}{e:Int}(h:doM p o=.error e):e≠0:=by
 unfold doM at h;split at h;rename_i D;cases h;exact D;unfold opM at h;split at h;unfold inM at h;split at h;rename_i D;cases h;exact D;cases h;split at h;unfold x6h at h;split at h;rename_i D;cases h;exact D;cases h;split at h;exact x9l h;split at h;unfold y1i at h;split at h;rename_i D;cases h;exact D;split at h;rename_i e1 I;cases h;exact x7n I;exact u0m h;split at h;unfold y0x at h;split at h;rename_i D;cases h;exact D;split at h;rename_i e1 I;cases h;exact x7n I;split at h;cases h;decide;exact u0m h;split at h;unfold y3h at h;split at h;rename_i D;cases h;exact D;exact x7n h;split at h;unfold z8i at h;split at h;cases h;decide;split at h;cases h;decide;split at h;cases h;decide;split at h;cases h;decide;cases h;unfold y3p at h;split at h;cases h;decide;cases h
theorem x9i {e:Int}{n:Nat}:∀ {l:List MOp} {i:Nat} {p:MSt},z3u i p l=.error (e,n)->e≠0
 | [],i,p,h=>by cases h
 | o::l,i,p,h=>by
  unfold z3u at h;split at h
  ·rename_i e1 D;cases h;exact k4y D
  exact x9i h
end Go.G09
namespace Go.Proofs.YtlfdhllfmoplgaaGreatDoor
open Go.Lw Go.G21 Go.G08 Go.G09 Go.G26 _root_.Go.Proofs.Tryz
theorem k6m:BuildAt prog 134 [(0,2),(2,1),(3,1)] [(.slice none 0 0),(.slice none 0 0),(.int .i64 0),.nilFunc]:=BuildAt.struct underlying134 (λ_=>kr)<|λ_=>kr
theorem k5u:z1r prog 132 1:=λ_=>kr
theorem k5l:z1r prog 134 4:=λ_=>kr
theorem zv22 (w:World):(zeroValue 22).run prog w=.ok (.slice none 0 0) w:=kr
theorem k4u (w:World):(zeroValue 134).run prog w=.ok (.agg #[(.slice none 0 0),(.slice none 0 0),(.int .i64 0),.nilFunc]) w:=kr
theorem u2j (A:Option Addr)(m c:Nat)(w0:World)(D:m<=c):Rets prog 61 #[.slice A m c] w0 λv w'=>v=.slice A m m/\w0=w':=by
 exact we [(0,.slice A m c)] func61 U ntmps61 U (.cons U .nil)<|sr<|asg U<|nn<|sr<|mv U U<|mv U U<|lnS U underlying22<|mv U U<|lnS U underlying22<|v5g U U U y0j oo oo oo z1j z1j U<|asg U<|kpL (ll1 2) (csu U)<|nn<|rt<|r1 results61 U ⟨_,rfl,rfl,rfl⟩
theorem u2v {α:Type}{E:Enc α}{T base:Nat}{w:World}{A:Option Addr}{n c:Nat}{ys:List α}(h:Lw.Own E T base w (.slice A n c) ys):n=ys.length/\Lw.Own E T base w (.slice A n n) ys:=by
 rcases h with ⟨e,rfl⟩|⟨g,cap,cur,e,I,O,D,Z,h5,h6⟩
 cases e;exact⟨rfl,.inl ⟨rfl,rfl⟩⟩;cases e;exact⟨rfl,.inr ⟨g,ys.length,cur,rfl,I,O,l20 _,l37 D Z,l37 (l48 _ D) h5,h6⟩⟩
theorem j3r (s:StQ)(p q:MSt)(N:Nat)(v:Value)(l:List MOp)(w0:World)(hS:StAt w0 s)(hP:StP s p N)(hv:Sl z3d w0 v l)(g6:StT w0)(g5:isP l=true)(hr:z3u 0 (nrm p) l=.ok q)(l4:l.length<=4096)(h8:p.B.flat.length<=8):Rets prog 25 #[svv s,v] w0 λr w'=>(∃A ws e,r=.tuple #[.slice A ws.length ws.length,.int .i64 e]/\Lw.Own Enc.i64 3 w0.heap.size w' (.slice A ws.length ws.length) ws/\((y0v (nrm p) l=none/\e=3/\ws=[])\/(y0v (nrm p) l=some ws/\e=0)))/\Fr [] w0 w':=by
 obtain⟨A,c,rfl,l0⟩:=id hv.form;have g4:BdOk s.q.p:=hP.BE▸hP.v.inv.B;have i9:-4<=s.rk/\s.rk<=4:=by rw[hP.rkE];exact hP.v.inv.rk
 have d1:z2l (nrm p).B (nrm p).rk=z2l s.q.p s.rk:=by rw[hP.BE,hP.rkE];rfl
 have f1:(z2l s.q.p s.rk).length<=8:=by rw[(z8g _ _).length_eq,z8o,hP.BE];exact h8
 refine we [(0,svv s),(1,.slice A l.length c)] func25 U ntmps25 U (.c2 U U) ?_;have d9:=hS;have j1:=hv;have e0:=g6;refine sr<|bx U<|λg2 w1 l1 a9 q1 z1=>(asg U<|asg U<|nn<|sr<|fad U z7m<|z1v (vs:=[_,_]) U a9 z5a U<|fad U y2i<|z0j U a9 U na3 ?_);have hS:=d9.ext q1;refine cl (ev2 U) (mkC func56) (v0r s.q _ _ hS.b g4 i9) U ?_;rintro _ w2 ⟨⟨g3,lh,n,c9,d0,l6,rfl,k4,hH⟩,q2⟩;have z2:=q2.size;have g9:=(hH.blk g3 t10).2;have l7:n<=8:=by rw[d0,c9];exact f1
 refine mv U U<|xt U<|xt U<|asg U<|asg U<|kpL (ll4 1 2 6 7) (csu U)<|nn<|sq<|sq<|rbo (r:=29) (L':=ll4 1 2 6 7) (((0≠0)\/((n:Int)=0))) (csu U) ?_ ?_;refine mv U U<|ne' U<|mv U U<|gs 25 U (λg0=>?_)<|λg0=>?_;exact gN U<|gN U<|gN U<|pkt U<|rbe U<|csu U;exact gY U<|mv U U<|gY U<|lnS U underlying127<|gY U<|eq' U<|pkf U<|rbe U<|csu U;refine tn<|cd U (λc0=>?_)<|λc0=>?_;have e7:z2l s.q.p s.rk=[]:=by rw[<-c9];exact l105.1 oo
 exact sr<|mv U U<|asg U<|asg U<|kpL (ll2 4 5) (csu U)<|nn<|rt<|tr<|r2 results25 U U ⟨_,rfl,⟨none,[],0,rfl,Own.nil _,.inr ⟨by unfold y0v;rw[if_pos (d1.trans e7)],rfl⟩⟩,(q1.n1 q2)⟩;have e9:z2l s.q.p s.rk≠[]:=λe=>by rw[<-c9]at e;rw[e]at d0;exact absurd d0 (by first|(simp only[l64];omega)|(intro h_;simp at h_;omega))
 refine sk<|tn<|sr<|mv U U<|lnS U underlying127<|z1f (m:=n) (c:=n) (id0) U z4k z8q U<|λO w3 k6 ho q3 z3=>(al k3h U<|λg8 w4 l2 a5 q4 z4=>(z3g U a5 U u9s<|λw5 a5 q5 z5=>(nn<|sq<|sr<|mv U U<|lnS U underlying127<|mv U U<|nn<|bl ?_)));have ho:=(ho.ext q4).fr q5 (by intro k hk hb;simp at hk;subst hk;have:=(ho.blk _ hb);omega);refine lpK (ι:=Nat×List LId) (ll5 1 2 8 34 35) (λp_=>[(36,.int .i64 (p_.1:Int))]) (λp_ w'=>Fr [O] w5 w'/\p_.1<=n/\p_.2.length=n/\Lw.Own z1g 64 w0.heap.size w' (.slice (saa O) n n) p_.2/\(∀j,j<p_.1->p_.2.getD j id0=(lh.getD j hd0).id)) (λp_=>n-p_.1) (0,List.replicate n id0) (csu U) ⟨l12 _ _,⟨l17 _,sp0,ho.low oo,λj hj=>absurd hj sp0⟩⟩ ?_;rintro⟨i,ps⟩ w6 ⟨q6,⟨h0,a3,ho,d5⟩⟩;simp only at h0 ho d5 a3;have z6:=q6.size;refine kpC [(1,_),(2,_),(8,_),(34,_),(35,_),(36,.int .i64 (i:Int))] (csu U)<|sr<|lt' U<|nn<|sq<|cd U (λc1=>?_)<|λc1=>?_;refine sk<|tn<|sq<|bl<|sr<|mv U U ?_;have hH:=((hH.ext<|q3.n1 q4).fr q5 t11).fr q6 t11;refine z1b (hd0) U hH.sl U z3t z1j<|λj8 e3=>?_;refine z1q U (e3 _ hH.sl) z5y<|al v6g U<|λk8 w7 k0 b2 q7 z7=>?_;refine asg U<|z0i (vs:=[_,_,_,_,_]) U b2 z8u (λw8 b2 q8 z8=>?_) (h1:=t23);refine nn<|rg ?_;have a5:=((a5.fr q6).ext q7).fr q8;refine z1x U a5 z6f<|mv U U<|fad U x5w<|z1v (vs:=[_,_]) U b2 z2z U ?_;have ho:=(ho.ext q7).fr q8 (by intro k hk hb;simp at hk;subst hk;have:=(ho.blk _ hb);omega);refine z5p (p:=i) (E:=z1g) U z4k<|z3i (i:=i) (((lh.getD i hd0).id)) U ho oo U y0i<|λw9 ho q9 z9=>(kpL (ll6 1 2 8 34 35 36) (csu U)<|nl<|bn'<|tn<|rg<|z0v U (wi6 oo)<|mv U U<|nl ?_);exact lpE ((i+1,ps.set i<|(lh.getD i hd0).id)) (csu U) ⟨((l12 [O] _).z4 q6 q7 q8 q9),⟨sm,by simp only[l19];exact a3,ho,λj hj=>by
  simp only at hj ⊢;rw[z1k oo];split;rename_i e;subst e;rfl;exact d5 j oo⟩⟩ sm
 obtain rfl:n=i:=by omega
 refine ex<|te<|te<|xh<|tn<|sr<|al zv22 U<|λI m1 k1 a7 b4 m8=>(nn<|sr<|fad U z7m ?_);have a9:=(((a9.ext<|q2.n2 q3 q4).fr q5).fr q6).ext b4;refine z1v (vs:=[_,_]) U a9 z5a U<|fad U y2i<|z0j U a9 U na3<|z1u (cs:=[_,_,_,_]) (ev2 U) k6m (z0g U<|z0g U z0r) U ?_;refine al k4u U<|λa0 m2 k2 a1 b5 m9=>?_;refine z0i (vs:=[_,_,_,_]) U a1 k5l (λm3 a1 b6 n7=>?_) (h1:=t23);refine kpL (ll4 1 8 11 12) (csu U)<|nn<|sr<|z5b z0f (ev2 U)<|fad U v6r<|z3j U a1 U k5u<|λf8 a1 b7 n8=>?_;replace a1:Blk f8 a0 _ [_,_,_,_]:=a1;have a5:=(((a5.fr q6).ext<|b4.n1 b5).fr b6).fr b7;have ho:=((ho.ext<|b4.n1 b5).fr b6 (by intro k hk hb;simp at hk;subst hk;have:=(ho.blk _ hb);omega)).fr b7 (by intro k hk hb;simp at hk;subst hk;have:=(ho.blk _ hb);omega);have a7:=((a7.ext b5).fr b6).fr b7;have i0:=v5c (a3.trans d0)<|λj hj=>d5 j oo;have hW:WdM τp (tvW (⟨a0,g8,I,O⟩:WdA)) w0 (⟨a0,g8,I,O⟩:WdA) f8 s.q s.rk (ps,[]):=⟨a1,.inl d9.b,by rw[show ((ps,([]:List Int)):G26.St).1.length=n from a3];exact a5,by rw[show ((ps,([]:List Int)):G26.St).1.length=n from a3];exact ho.low oo,⟨_,a7,Own.nil _⟩,((((q1.z6 q2 q3 q4 q5 q6 b4).n1 b5).z1 b6).z1 b7),sm,sm,sm⟩;have a8:=hW;refine nn<|sq<|sr<|mv U U<|lnS U underlying45<|mv U U<|nn<|bl<|lpK (ι:=Nat) (ll4 11 12 54 55) (λi=>[(56,.int .i64 (i:Int))]) (λi w'=>Fr [] w0 w'/\i<=l.length/\∃(pi:MSt) (D:G26.St) (qi:BdQ) (lv:Value),(z3u i pi (l.drop i)=.ok q/\MInv pi/\qi.p=pi.B/\z8n (nrm p) (z4u<|nrm p,[]) l=z8n pi D (l.drop i)/\D.1.length=n/\D.2.length<=64)/\WdM τp (tvW (⟨a0,g8,I,O⟩:WdA)) w0 (⟨a0,g8,I,O⟩:WdA) w' qi pi.rk D/\Blk w' I 22 [lv]/\Lw.Own Enc.i64 3 w0.heap.size w' lv D.2) (λi=>l.length-i) 0 (csu U) ⟨((((q1.z6 q2 q3 q4 q5 q6 b4).n1 b5).z1 b6).z1 b7),⟨l17 _,nrm p,(ps,[]),s.q,_,⟨by rw[List.drop_zero];exact hr,(z4x hP.v).inv,hP.BE,by rw[List.drop_zero,show z4u (nrm p)=ps from by unfold z4u;rw[d1,<-c9];exact i0.symm],a3,sp0⟩,(show s.rk=(nrm p).rk from hP.rkE)▸hW,a7,Own.nil _⟩⟩ ?_;rintro i m4 ⟨d6,⟨l3,pi,D,qi,lv,⟨i7,a2,a6,d3,f2,j0⟩,hW,Z,hl⟩⟩;have n9:=d6.size;have a8:=hW;have d4:=Z.lt;refine kpC (ll5 11 12 54 55 56) (csu U)<|sr<|lt' U<|nn<|sq<|cd U (λc2=>?_)<|λc2=>?_;have e8:i<l.length:=by omega
 obtain⟨hdr,m,b9,i8⟩:=u4t i7 e8;obtain⟨h6,h5⟩:=x6f g5 e8;have b8:=z3s h5;have h7:(opW pi (l.getD i op0) D).1.length=n:=by
  unfold opW;split;exact(x5e a2.B D a2.rk<|b8.2.2.2.2.2 t12).1.trans f2;exact f2
 have k7:(opW pi (l.getD i op0) D).2.length<=100000:=by
  unfold opW;split;have:=(x5e a2.B D a2.rk<|b8.2.2.2.2.2 t12).2;omega;omega
 refine sk<|tn<|sq<|bl<|sr ?_;have hv:=j1.ext d6;refine z1b (op0) U hv U y0y z1j<|λj9 e4=>?_;refine z1q U (e4 _ hv) y2a<|al u1r U<|λk9 m5 k5 a4 f4 o0=>?_;refine z0i (vs:=[_,_,_,_,_,_]) U a4 v3b (λm6 a4 f5 o1=>?_) (h1:=t23);refine nn<|jn (ι:=Unit) (ll5 11 12 54 55 56) (λu_=>[]) (λu_ w'=>Fr [] w0 w'/\∃(qn:BdQ) (b0:Option Addr) (b1:Nat),qn.p=m.B/\WdM τp (tvW (⟨a0,g8,I,O⟩:WdA)) w0 (⟨a0,g8,I,O⟩:WdA) w' qn m.rk (opW pi (l.getD i op0) D)/\Blk w' I 22 [.slice b0 (opW pi (l.getD i op0) D).2.length b1]/\Lw.Own Enc.i64 3 w0.heap.size w' (.slice b0 (opW pi (l.getD i op0) D).2.length b1) (opW pi (l.getD i op0) D).2) (csu U) ?_ ?_;refine sr<|fad U z7e<|z0j U a4 U x9e<|eq' U<|nn<|cd U (λc3=>?_)<|λc3=>?_;have h9:=b8.2.2.2.2.2 c3;obtain⟨i3,i4,-⟩:=j1n a2.rk b9 c3;refine rg<|fad U y4e<|z0j U a4 U na3 ?_;have hW:=a8.ext<|f4.z1 f5;refine cl (z0a U<|z0a U z0f) (mkC func59) (u2b w0 (⟨a0,g8,I,O⟩:WdA) qi pi.rk D (l.getD i op0).r _ hW (a6▸a2.B) e0 a2.rk h9 oo j0) U ?_;rintro _ f9 ⟨rfl,hW⟩;have f6:=hW.fr;have o2:=f6.size;replace hW:WdM τp (tvW (⟨a0,g8,I,O⟩:WdA)) w0 (⟨a0,g8,I,O⟩:WdA) f9 qi m.rk (opW pi (l.getD i op0) D):=by rw[i3,show opW pi (l.getD i op0) D=z7j qi.p pi.rk (l.getD i op0).r D from by rw[a6];exact if_pos c3];exact hW
 have b3:qi.p=m.B:=a6.trans i4.symm;have a8:=hW;obtain⟨lv,Z,hl⟩:=hW.l;obtain⟨b0,b1,rfl,e6⟩:=hl.sl.form;replace Z:Blk f9 I 22 [_]:=Z;exact nl<|jE (()) (csu U) ⟨f6,⟨_,_,_,b3,hW,Z,hl⟩⟩;have h2:(l.getD i op0).k=7:=h6.resolve_left c3;have f0:=b8.2.2.2.2.1 oo;have l8:=z2t f0;obtain⟨j2,l9,j3,f3,j4,j5⟩:=v8z b9 h2;have m0:=z2t f3;obtain⟨j7,i2⟩:∃n:Nat,(l.getD i op0).p=(n:Int):=⟨(l.getD i op0).p.toNat,oo⟩;obtain⟨j6,i1⟩:∃m:Nat,z5q (l.getD i op0).b (l.getD i op0).p pi.rk=(m:Int):=⟨(z5q (l.getD i op0).b (l.getD i op0).p pi.rk).toNat,oo⟩;refine rg<|fad U z5k<|z1v (vs:=[_,_]) U a4 z5n U ?_;have hW:=a8.ext<|f4.z1 f5;refine cl (z0a U<|z0a U z0f) (mkC func60) (u6q w0 (⟨a0,g8,I,O⟩:WdA) qi pi.rk D (l.getD i op0).b (l.getD i op0).p j7 j6 _ hW (a6▸a2.B) i2 i1 f0 f3 (a6▸j3) (by rw[a6];exact j4) a2.rk) U ?_;rintro _ g1 ⟨rfl,qn,hW,i5⟩;have f7:=hW.fr;have o3:=f7.size;replace hW:WdM τp (tvW (⟨a0,g8,I,O⟩:WdA)) w0 (⟨a0,g8,I,O⟩:WdA) g1 qn m.rk (opW pi (l.getD i op0) D):=by rw[j2,show opW pi (l.getD i op0) D=D from if_neg c3];exact hW
 have b3:qn.p=m.B:=by rw[i5,a6,j5]
 have a8:=hW;obtain⟨lv,Z,hl⟩:=hW.l;obtain⟨b0,b1,rfl,e6⟩:=hl.sl.form;replace Z:Blk g1 I 22 [_]:=Z;exact nl<|jE (()) (csu U) ⟨f7,⟨_,_,_,b3,hW,Z,hl⟩⟩;rintro _u m7 ⟨d7,⟨qn,b0,b1,b3,hW,Z,hl⟩⟩;have o4:=d7.size;have a8:=hW;have d4:=Z.lt;refine kpC (ll5 11 12 54 55 56) (csu U)<|sr<|z1x U Z k1u<|lnS U underlying22<|gt' U<|nn<|cd U (λc4=>?_)<|λc4=>?_;exact sr<|asg U<|asg U<|kpL (ll2 4 5) (csu U)<|nn<|rt<|rb<|tr<|tr<|rb<|tr<|r2 results25 U U ⟨_,rfl,⟨none,[],3,rfl,Own.nil _,.inl ⟨by unfold y0v;rw[if_neg (λe=>e9<|d1.symm.trans e),d3,hdr,v2x oo];rfl,rfl,rfl⟩⟩,d7⟩;have e5:¬64<(opW pi (l.getD i op0) D).2.length:=by omega
 exact sk<|bn'<|tn<|rg<|z0v U (wi6 oo)<|mv U U<|nl<|lpE ((i+1)) (csu U) ⟨d7,⟨oo,m,(opW pi (l.getD i op0) D),qn,_,⟨i8,z7l a2 b9,b3,by rw[d3,hdr,v3p e5 b9],h7,oo⟩,hW,Z,hl⟩⟩ oo;obtain rfl:i=l.length:=by omega
 rw[List.drop_length]at d3;refine ex<|te<|te<|xh<|tn<|sr<|z1x U Z k1u ?_;have h3:=hl;obtain⟨AL,cL,rfl,g7⟩:=hl.sl.form;refine cl (ev1 U) (mkC func61) (u2j AL _ cL _ g7) U ?_;rintro _ _ ⟨rfl,rfl⟩;refine asg U<|asg U<|kpL (ll2 4 5) (csu U)<|nn<|rt<|r2 results25 U U ?_;obtain⟨l5,h4⟩:=u2v h3;exact⟨_,rfl,⟨_,_,0,rfl,h4,.inr ⟨by unfold y0v;rw[if_neg (λe=>e9<|d1.symm.trans e),d3];rfl,rfl⟩⟩,d6⟩
end Go.Proofs.YtlfdhllfmoplgaaGreatDoor
namespace Go.Lw
section
variable {P:Program} {n:Nat} {L:List (Nat×Value)} {w:World} {v:Value} {a:Act} {g T:Nat} {cs:List Value}
theorem j8f {fn:Func}{R:Ending->World->Prop}{p pt q r:Nat}{u:Value}(h:Ag a n L)(hr:fn.results=#[.tmp q,.cell p pt,.tmp r])(hp:look L p=some (pta g))(hb:Blk w g T cs)(Z:z3y P pt cs.length)(hv:look L q=some v)(hu:look L r=some u)(k:R (.returned<|.tuple #[v,.agg cs.toArray,u]) w):bodyPost P fn R .ret a w:=
 bodyPost_ret (v:=.tuple #[v,.agg cs.toArray,u]) (by
  have D:=h.at_ p _ hp
  have I:=h.at_ q _ hv
  have O:=h.at_ r _ hu
  simp only[l45]at D I O
  simp[results,hr,D,I,O,asAddr,loadVar,Z.1 w,Z.2 w,run_loadCells_list w _ cs hb.cells]) h.dfr k
theorem k3i {fn:Func}{R:Ending->World->Prop}{p pt q r:Nat}{u:Value}(I:fn.results=#[.tmp q,.cell p pt,.tmp r])(hp:look L p=some (pta g))(hb:Blk w g T cs)(D:z3y P pt cs.length)(Z:look L q=some v)(O:look L r=some u)(k:R (.returned<|.tuple #[v,.agg cs.toArray,u]) w):EW (bodyPost P fn R) .ret n [] w L:=λ_ h=>j8f h I hp hb D Z O k
end
end Go.Lw
namespace Go.Proofs.YtlfdhllfmoplgaaGreatDoor
open Go.Lw Go.G21 Go.G08 Go.G09 Go.G26 _root_.Go.Proofs.Tryz
theorem v7h (v:Value)(l:List MOp)(w0:World)(hv:Sl z3d w0 v l)(a5:l.length<=1000000):Rets prog 19 #[v] w0 λr w'=>r=.bool (isP l)/\Fr [] w0 w':=by
 obtain⟨A,c,rfl,a3⟩:=id hv.form;refine we [(0,.slice A l.length c)] func19 U ntmps19 U (.cons U .nil) ?_;have a1:=hv;refine sr<|asg U<|nn<|sq<|sr<|mv U U<|lnS U underlying45<|mv U U<|nn<|bl<|lpK (ι:=Nat) (ll2 5 6) (λi=>[(7,.int .i64 (i:Int))]) (λi w'=>Fr [] w0 w'/\i<=l.length/\∀j,j<i->((l.getD j op0).k=3\/(l.getD j op0).k=7)/\z9i (l.getD j op0)=0) (λi=>l.length-i) 0 (csu U) ⟨l12 _ _,⟨l17 _,λj h=>absurd h oo⟩⟩ ?_;rintro i w1 ⟨Z,⟨hi,O⟩⟩;have z1:=Z.size;refine kpC (ll3 5 6 7) (csu U)<|sr<|lt' U<|nn<|sq<|cd U (λc0=>?_)<|λc0=>?_;refine sk<|tn<|sq<|bl<|sr ?_;have hv:=a1.ext Z;refine z1b (op0) U hv U y0y z1j<|λa2 a0=>?_;refine z1q U (a0 _ hv) y2a<|al u1r U<|λg4 w2 a4 I q2 z2=>(z0i (vs:=[_,_,_,_,_,_]) U I v3b<|λw3 I q3 z3=>(nn<|sr<|fad U z7e<|z0j U I U x9e<|ne' U<|mv U U<|gs 14 U (λg0=>?_)<|λg0=>?_));refine gY U<|fad U z7e<|gY U<|z0j U I U x9e<|gY U<|ne' U<|pkt U<|mv U U<|gs 19 U (λg1=>?_)<|λg1=>?_;refine gN U<|gN U<|gN U<|pkt U<|kpL (ll4 5 6 7 23) (csu U)<|nn<|ct U<|sr<|asg U<|nn<|rt<|rb<|tr<|tr<|rb<|tr<|r1 results19 U ?_;exact⟨_,rfl,by first|exact congrArg Value.bool (v0u (i:=i) oo (λh=>by obtain⟨D,h2⟩:=h;rcases D with D|D<;>simp_all)).symm|exact congrArg Value.bool (y9g<|λj hj=>O j oo).symm,(Z.z2 q2 q3)⟩;refine gY U<|z0k U I y2a<|gY U<|cl (ev1 U) j6q (y0u _ _) U ?_;rintro _ w4 ⟨rfl,q4⟩;have z4:=q4.size;refine gY U<|ne' U<|pkf U<|kpL (ll4 5 6 7 23) (csu U)<|nn<|cd U (λc1=>?_)<|λc1=>?_;refine sr<|asg U<|nn<|rt<|rb<|tr<|tr<|rb<|tr<|r1 results19 U ?_;exact⟨_,rfl,by first|exact congrArg Value.bool (v0u (i:=i) oo (λh=>by obtain⟨D,h2⟩:=h;rcases D with D|D<;>simp_all)).symm|exact congrArg Value.bool (y9g<|λj hj=>O j oo).symm,(Z.z3 q2 q3 q4)⟩;refine sk<|bn'<|tn<|rg<|z0v U (wi6 oo)<|mv U U<|nl ?_;exact lpE (i+1) (csu U) ⟨(Z.z3 q2 q3 q4),⟨oo,λj h=>by
  by_cases e:j=i;subst e;by_cases h3:(l.getD j op0).k=3<;>by_cases h7:(l.getD j op0).k=7<;>simp_all
  exact O j oo⟩⟩ oo
 refine gN U<|gN U<|gN U<|pkf U<|mv U U<|gY U<|z0k U I y2a<|gY U<|cl (ev1 U) j6q (y0u _ _) U ?_;rintro _ w5 ⟨rfl,q5⟩;have z5:=q5.size;refine gY U<|ne' U<|pkf U<|kpL (ll4 5 6 7 23) (csu U)<|nn<|cd U (λc1=>?_)<|λc1=>?_;refine sr<|asg U<|nn<|rt<|rb<|tr<|tr<|rb<|tr<|r1 results19 U ?_;exact⟨_,rfl,by first|exact congrArg Value.bool (v0u (i:=i) oo (λh=>by obtain⟨D,h2⟩:=h;rcases D with D|D<;>simp_all)).symm|exact congrArg Value.bool (y9g<|λj hj=>O j oo).symm,(Z.z3 q2 q3 q5)⟩;refine sk<|bn'<|tn<|rg<|z0v U (wi6 oo)<|mv U U<|nl ?_;exact lpE (i+1) (csu U) ⟨(Z.z3 q2 q3 q5),⟨oo,λj h=>by
  by_cases e:j=i;subst e;by_cases h3:(l.getD j op0).k=3<;>by_cases h7:(l.getD j op0).k=7<;>simp_all
  exact O j oo⟩⟩ oo
 obtain rfl:i=l.length:=by omega
 refine ex<|te<|te<|xh<|tn<|sr<|asg U<|nn<|rt<|r1 results19 U ?_;exact⟨_,rfl,by first|exact congrArg Value.bool (v0u (i:=i) oo (λh=>by obtain⟨D,h2⟩:=h;rcases D with D|D<;>simp_all)).symm|exact congrArg Value.bool (y9g<|λj hj=>O j oo).symm,Z⟩
theorem u7j (p:MSt)(l:List MOp):x7g p l<=l.length/\∃m,z3u 0 p (l.take<|x7g p l)=.ok m:=by
 unfold x7g;cases e:z3u 0 p l with
 | error x=>
  obtain⟨e1,n⟩:=x;obtain⟨I,O,m,D⟩:=y7m e;exact⟨sm,m,D⟩
 | ok q=>exact⟨l20 _,q,by simp only[l39];exact e⟩
theorem v1j {p:MSt}{l:List MOp}(h:u1q p l=0):x7g p l=l.length:=by
 cases e:z3u 0 p l with
 | error x=>exact absurd ((y9y e).1.symm.trans h)<|x9i e
 | ok q=>exact(x1v e).2
theorem v9k {p:MSt}{l:List MOp}(a0:isP l=true)(h4:l.length<=4096)(h8:p.B.flat.length<=8){ws:List Int}{D:Int}(I:(y0v p (l.take<|x7g p l)=none/\D=3/\ws=[])\/(y0v p (l.take<|x7g p l)=some ws/\D=0)) :
    ((if D=0 then u1q p l else D)≠0->z1t p l=.error (if D=0 then u1q p l else D))/\((if D=0 then u1q p l else D)=0->∃q,z3u 0 p l=.ok q/\z1t p l=.ok (ws,q)):=by
  have hb:z1t p l=(match z3u 0 p l with
    | .error x=>(match y0v p (l.take x.2) with
      | none=>.error 3
      | some _=>.error x.1)
    | .ok q=>(match y0v p l with
      | none=>.error 3
      | some w=>.ok (w,q))):=by
    unfold z1t
    rw[if_neg (by rw[a0];decide),if_neg oo,if_neg oo]
    all_goals cases z3u 0 p l
    all_goals first|rfl|(split<;>rfl)
  rw[hb]
  cases e:z3u 0 p l with
  | error x=>
    obtain⟨x1,n⟩:=x
    obtain⟨O,Z⟩:=y9y e
    have hx:=x9i e
    rw[Z]at I
    rw[O]
    simp only
    rcases I with ⟨h,rfl,rfl⟩|⟨h,rfl⟩
    · rw[h];exact⟨λ_=>rfl,λh=>by simp at h⟩
    · rw[h];exact⟨λ_=>rfl,λh=>absurd h hx⟩
  | ok q=>
    obtain⟨O,Z⟩:=x1v e
    rw[Z,l39]at I
    rw[O]
    simp only
    rcases I with ⟨h,rfl,rfl⟩|⟨h,rfl⟩
    · rw[h];exact⟨λ_=>rfl,λh=>by simp at h⟩
    · rw[h];exact⟨λh=>absurd U h,λ_=>⟨q,rfl,rfl⟩⟩
theorem x0o {p:MSt}{l:List MOp}(h:isP l=false):z1t p l=.error 1:=by unfold z1t;rw[if_pos h]
theorem v3i {p:MSt}{l:List MOp}(h:isP l=true)(I:l.length<=4096)(D:8<p.B.flat.length):z1t p l=.error 3:=by
 unfold z1t;rw[if_neg (by rw[h];decide),if_neg oo,if_pos D]
structure BrR (w':World) (p:MSt) (l:List MOp) (N base:Nat) (A:Option Addr) (ws:List Int) (s':StQ) (e:Int):Prop where
  o:Lw.Own Enc.i64 3 base w' (.slice A ws.length ws.length) ws
  k:StK UK w' s'
  er:∀x,z1t p l=.error x->e=x/\ws=[]/\s'=stZ
  ok:∀u q,z1t p l=.ok (u,q)->e=0/\ws=u/\StP s' q N
theorem BrR.no {w':World}{p:MSt}{l:List MOp}{N base:Nat}{x:Int}(h:z1t p l=.error x):BrR w' p l N base none [] stZ x:=
 ⟨Own.nil _,(j2k base w').k,λy I=>by rw[h]at I;cases I;exact⟨rfl,rfl,rfl⟩,λu q D=>by rw[h]at D;cases D⟩
theorem z4t (s:StQ)(p:MSt)(N:Nat)(v:Value)(l:List MOp)(w0:World)(hS:StAt w0 s)(hP:StP s p N)(hn:N+l.length<=1000)(hv:Sl z3d w0 v l)(a5:StT w0):Rets prog 6 #[svv s,v] w0 λr w'=>(∃A ws s' e,r=.tuple #[.slice A ws.length ws.length,svv s',.int .i64 e]/\BrR w' (nrm p) l (N+l.length) w0.heap.size A ws s' e)/\Fr [] w0 w':=by
 obtain⟨A,c,rfl,e6,b9,-⟩:=id hv;have a8:s.q.p=p.B:=hP.BE;have d3:BdOk s.q.p:=a8▸hP.v.inv.B;obtain⟨⟨hf,hb⟩,h4,d1⟩:=z3b d3;obtain⟨d6,mr,d5⟩:=u7j (nrm p) l;refine we [(0,svv s),(1,.slice A l.length c)] func6 U ntmps6 U (.c2 U U) ?_;have a9:=hS;have b5:=hv;have b0:=a5;refine sr<|bx U<|λg2 w1 e7 I q1 z1=>(asg U<|al y6l U<|λg5 w2 e8 D q2 z2=>(asg U<|nn<|sq<|sr<|mv U U ?_));have hv:=b5.ext<|q1.n1 q2;refine cl (ev1 U) (mkC func19) (v7h _ l _ hv oo) U ?_;rintro _ w3 ⟨rfl,q3⟩;have z3:=q3.size;refine nt' U<|nn<|cd U (λc0=>?_)<|λc0=>?_;refine sr<|z1u (cs:=[_,_,_,_,_,_,_,_]) z0f x9k z0r U ?_;refine asg U ?_;have D:=D.ext q3;exact z0i (vs:=[_,_,_,_,_,_,_,_]) U D z9m<|λw4 D q4 z4=>(asg U<|nn<|rt<|tr<|k3i results6 U D z7r U U ⟨_,rfl,⟨none,[],stZ,1,rfl,BrR.no<|x0o (by simpa using c0)⟩,(q1.z3 q2 q3 q4)⟩);have b2:isP l=true:=by simpa using c0
 refine sk<|tn<|sq<|sr<|mv U U<|lnS U underlying45<|gt' U<|nn<|cd U (λc1=>?_)<|λc1=>?_;exfalso;omega;refine sk<|tn<|sq<|sr ?_;have I:=I.ext<|q2.n1 q3;refine z0k U I z7r ?_;have hS:=a9.ext<|q1.n2 q2 q3;refine cl (ev1 U) (mkC func23) (x1y _ hS hP) U ?_;rintro _ w5 ⟨rfl,q5⟩;have z5:=q5.size;refine asg U<|nn<|sr<|mv U U<|ne' U<|nn<|cd U (λc2=>?_)<|λc2=>?_;exact absurd U c2;refine sk<|tn<|sq<|sr<|fad U z7m ?_;have I:=I.ext q5;refine z1v (vs:=[_,_]) U I z5a U ?_;have hS:=a9.ext<|q1.n3 q2 q3 q5;refine cl (ev1 U) j9u (z9u s.q _ hS.b hf hb h4 d1) U ?_;rintro _ w6 ⟨rfl,q6⟩;have z6:=q6.size;refine gt' U<|nn<|cd U (λc3=>?_)<|λc3=>?_;refine sr<|z1u (cs:=[_,_,_,_,_,_,_,_]) z0f x9k z0r U ?_;refine asg U ?_;have D:=D.ext<|q3.n2 q5 q6;exact z0i (vs:=[_,_,_,_,_,_,_,_]) U D z9m<|λw7 D q7 z7=>(asg U<|nn<|rt<|tr<|k3i results6 U D z7r U U ⟨_,rfl,⟨none,[],stZ,3,rfl,BrR.no<|v3i b2 oo (by show 8<p.B.flat.length;rw[<-a8];omega)⟩,(q1.z5 q2 q3 q5 q6 q7)⟩);refine sk<|tn<|sr ?_;have I:=I.ext q6;refine z0k U I z7r<|mv U U ?_;have hS:=a9.ext<|q1.n4 q2 q3 q5 q6;have hv:=b5.ext<|q1.n4 q2 q3 q5 q6;have a5:=b0.ext<|q1.n4 q2 q3 q5 q6;refine cl (ev2 U) (mkC func7) (v8u _ l _ hS hP hn hv a5) U ?_;rintro _ w8 ⟨⟨s8,rfl,b6,d4,f0⟩,q8⟩;have z8:=q8.size;have a0:=b6.k;clear b6;refine mv U U<|xt U<|xt U<|xt U<|al y6l U<|λg8 w9 e9 a2 q9 z9=>(z0i (vs:=[_,_,_,_,_,_,_,_]) U a2 z9m<|λe3 a2 Z f4=>(asg U<|asg U<|kpL (ll6 1 2 5 8 9 10) (csu U)<|nn<|jn (ι:=Unit) (ll4 2 5 8 10) (λ_j=>[(1,.slice A (x7g (nrm p) l) c)]) (λ_j w'=>Fr [] e3 w') (csu U) ?_ ?_));refine sr<|mv U U<|ne' U<|nn<|cd U (λc4=>?_)<|λc4=>?_;refine rg<|mv U U<|mv U U<|v1i (p:=(x7g (nrm p) l)) U U y0y U<|asg U<|nl ?_;exact jE (()) (.c5 U U U U<|congrArg (λz=>some<|Value.slice A z c) (by first|rfl|exact(v1j<|l16.1 c4).symm))<|l12 _ _;refine sk ?_;exact jE (()) (.c5 U U U U<|congrArg (λz=>some<|Value.slice A z c) (by first|rfl|exact(v1j<|l16.1 c4).symm))<|l12 _ _;rintro _j f1 O;have f5:=O.size;refine kpC (ll5 2 5 8 10 1) (csu U)<|sr ?_;have I:=((I.ext<|q8.n1 q9).fr Z).ext O;refine z0k U I z7r<|mv U U ?_;have hv:=b5.ext<|((q1.n6 q2 q3 q5 q6 q8 q9).z1 Z).n1 O;have d9:=hv.take U (m:=(x7g (nrm p) l)) d6 (B:=A) (c':=c) oo b9<|λ_=>rfl;have hS:=a9.ext<|((q1.n6 q2 q3 q5 q6 q8 q9).z1 Z).n1 O;have a5:=b0.ext<|((q1.n6 q2 q3 q5 q6 q8 q9).z1 Z).n1 O;refine cl (ev2 U) (mkC func25) (j3r s p mr N _ (l.take<|x7g (nrm p) l) _ hS hP d9 a5 (x8n b2 _) d5 t18 (by rw[<-a8];omega)) U ?_;rintro _ e4 ⟨⟨d0,ws,ew,rfl,a3,hw⟩,q12⟩;have f6:=q12.size;have b1:=v9k b2 oo (by show p.B.flat.length<=8;rw[<-a8];omega) hw;refine mv U U<|xt U<|xt U<|asg U<|asg U<|kpL (ll5 5 8 10 11 12) (csu U)<|nn<|jn (ι:=Unit) (ll3 5 8 11) (λ_j=>[(12,.int .i64 (if ew=0 then (u1q (nrm p) l) else ew))]) (λ_j w'=>Fr [] e4 w') (csu U) ?_ ?_;refine sr<|mv U U<|eq' U<|nn<|cd U (λc5=>?_)<|λc5=>?_;refine rg<|mv U U<|asg U<|nl ?_;exact jE (()) (.c4 U U U<|congrArg (λz=>some<|Value.int .i64 z) (by first|exact(if_pos c5).symm|exact(if_neg c5).symm))<|l12 _ _;refine sk ?_;exact jE (()) (.c4 U U U<|congrArg (λz=>some<|Value.int .i64 z) (by first|exact(if_pos c5).symm|exact(if_neg c5).symm))<|l12 _ _;rintro _j f2 a1;have f7:=a1.size;refine kpC (ll4 5 8 11 12) (csu U)<|sq<|sr<|mv U U<|ne' U<|nn<|cd U (λc6=>?_)<|λc6=>?_;refine sr<|z1u (cs:=[_,_,_,_,_,_,_,_]) z0f x9k z0r U ?_;refine mv U U<|asg U ?_;have D:=((D.ext<|q3.n4 q5 q6 q8 q9).fr Z).ext<|O.n2 q12 a1;exact z0i (vs:=[_,_,_,_,_,_,_,_]) U D z9m<|λf3 D e0 f8=>(asg U<|kpL (ll3 4 5 6) (csu U)<|nn<|rt<|tr<|k3i results6 U D z7r U U ⟨_,rfl,⟨none,[],stZ,_,rfl,BrR.no<|b1.1 c6⟩,((((q1.n6 q2 q3 q5 q6 q8 q9).z1 Z).n1 O).z3 q12 a1 e0)⟩);refine sk<|tn<|sq ?_;have D:=((D.ext<|q3.n4 q5 q6 q8 q9).fr Z).ext<|O.n2 q12 a1;have a0:=((a0.ext q9).fr Z t32).ext<|O.n2 q12 a1;intro a h;refine z0h (some 3) (λwb w'=>Fr [g5] wb w') z2r ?_;intro c9 a4;have f9:=a4.size;have D:=D.ext a4;have a0:=a0.ext a4;have a2:=a2.ext<|O.n3 q12 a1 a4;have hC:Fr [g5] c9 c9:=l12 _ _;have b4:=D;have b3:=a0;have a6:=a2;refine z0e 0 h U λa h=>z0x 1 h U (λ_ hw=>a6.fr hw (λk_=>by simp at k_;omega)) z7r U λa h=>z0d 2 U<|z0q h U λa h=>?_;refine z0b<|z0d 3 U<|z0t h U D U z9m λe5 b8 a7 hz a h=>?_;have g0:=a7.size;have a0:=a0.fr a7 t32;have a2:=a2.fr a7;have D:Blk e5 g5 _ [_,_,_,_,_,_,_,_]:=b8;clear b8;refine z1m<|z0d 4 U<|z0q h U λa h=>?_;refine z1m<|z0p ?_;clear hC b4 b3 a6;refine bk (h.sub (L':=ll3 4 5 6)<|csu U)<|tn<|rt<|k3i results6 U D z7r U U ?_;have a3:=(a3.ext<|a1.n1 a4).fr a7 (by first|exact z9l a3 oo|simp[z0u]<;>omega);obtain⟨qf,d7,b7⟩:=b1.2<|l16.1 c6;exact⟨_,rfl,⟨d0,ws,s8,0,rfl,a3.low oo,a0,(λx hx=>by rw[b7]at hx;cases hx),(λu q hq=>by rw[b7]at hq;cases hq;exact⟨rfl,rfl,d4 _ d7⟩)⟩,((((q1.n6 q2 q3 q5 q6 q8 q9).z1 Z).n1 O).z4 q12 a1 a4 a7)⟩
open Go.Lw Go.G21 Go.G08 _root_.Go.Proofs.Tryz
open Go.Lw Go.G21 Go.G08 Go.G09 Go.G26 _root_.Go.Proofs.Tryz
end Go.Proofs.YtlfdhllfmoplgaaGreatDoor
namespace Go.G26
open Go.Lw Go.G21 Go.G08
def bdS (at_:Nat):Int:=if at_ % 2=1 then 0 else 1
def opS (k d:Int)(at_:Nat):MOp:=⟨k,d,bdS at_,10+((at_ / 2:Nat):Int),1,0⟩
def u1m (at_ n:Nat)(p:Int):Prop:=(p % 8=((at_ / 2:Nat):Int)/\(p / 8 % 2=1↔at_ % 2=0))/\n<6
instance (at_ n:Nat) (p:Int):Decidable (u1m at_ n p):=by unfold u1m;infer_instance
def v4c (at_:Nat)(p:Int)(s:List MOp×Nat):List MOp×Nat:=if p / 16 % 2=1/\s.2+1<6 then (s.1++[opS 4 1 at_]++[opS 6 0 at_,opS 5 1 at_],s.2+2) else (s.1++[opS 4 1 at_],s.2+1)
def x2a (at_:Nat):List Int->List MOp×Nat->List MOp×Nat
  | [],s=>s
  | p::r,s=>if u1m at_ s.2 p then v4c at_ p s else x2a at_ r s
def z9n (xs:List Int):Nat->List MOp×Nat
  | 0=>([⟨1,0,0,0,1,0⟩],0)
  | n+1=>x2a n (xs.take 6)<|z9n xs n
def j6u (xs:List Int):List MOp:=(z9n xs 16).1++[⟨2,0,0,0,1,0⟩]
theorem y0r (D:Nat)(p:Int)(s:List MOp×Nat):(v4c D p s).1.length<=s.1.length+3/\(s.2<6->(v4c D p s).2<=6):=by
 unfold v4c;split;exact⟨sp0,λh=>by show s.2+2<=6;omega⟩;exact⟨sp0,λh=>by show s.2+1<=6;omega⟩
theorem v1u (D:Nat):∀(l:List Int) (s:List MOp×Nat),s.2<=6->(x2a D l s).1.length<=s.1.length+3/\(x2a D l s).2<=6
 | [],s,h=>⟨Nat.le_add_right _ _,h⟩
 | p::r,s,h=>by
  unfold x2a;split
  ·rename_i Z
   obtain⟨I,O⟩:=y0r D p s
   exact⟨I,O Z.2⟩
  exact v1u D r s h
theorem x1t (xs:List Int):∀n,(z9n xs n).1.length<=1+3*n/\(z9n xs n).2<=6
 | 0=>⟨by simp[z9n],by simp[z9n]⟩
 | n+1=>by
  obtain⟨O,D⟩:=x1t xs n
  obtain⟨Z,I⟩:=v1u n (xs.take 6) (z9n xs n) D
  exact⟨by show (x2a n (xs.take 6)<|z9n xs n).1.length<=_;omega,I⟩
theorem y9f {xs:List Int}{i:Nat}(h:i<xs.length)(D:i<6):(xs.take 6).drop i=xs.getD i 0::(xs.take 6).drop (i+1):=by
 have hl:i<(xs.take 6).length:=by rw[l25];omega
 rw[l31 hl,List.getElem_take,List.getD,l10 h];rfl
theorem u1u {D:Nat}{xs:List Int}{i:Nat}{s:List MOp×Nat}(h:i<xs.length)(I:i<6)(O:u1m D s.2 (xs.getD i 0)):x2a D ((xs.take 6).drop i) s=v4c D (xs.getD i 0) s:=by
 rw[y9f h I];exact if_pos O
theorem v8b {D:Nat}{xs:List Int}{i:Nat}{s:List MOp×Nat}(h:i<xs.length)(I:i<6)(O:¬u1m D s.2 (xs.getD i 0)):x2a D ((xs.take 6).drop i) s=x2a D ((xs.take 6).drop<|i+1) s:=by
 rw[y9f h I];exact if_neg O
theorem u6y {D:Nat}{xs:List Int}{i:Nat}{s:List MOp×Nat}(h:¬(i<xs.length/\i<6)):x2a D ((xs.take 6).drop i) s=s:=by
 rw[l97 t18];rfl
theorem k1x:j6u [0,1,2]=exO:=by decide +kernel
end Go.G26
namespace Go.Proofs.YtlfdhllfmoplgaaGreatDoor
open Go.Lw Go.G21 Go.G08 Go.G09 Go.G26 _root_.Go.Proofs.Tryz
theorem u8k:z1d prog 53 0 0:=λ_ _=>kr
theorem v3l:z2d prog 51:=λ_=>kr
theorem nrm0:nrm G08.start=G08.start:=by simp[nrm,G08.start,y4c,y2g]
theorem y8k (A:Option Addr)(c:Nat)(bs:List UInt8)(M:Option Addr)(nM cM:Nat)(w0:World)(hs:Sl Enc.b w0 (.slice A bs.length c) bs)(b2:StT w0):Rets prog 10 #[.agg #[.slice A bs.length c,.slice M nM cM]] w0 λr w'=>(∃s:StQ,r=(svv s)/\StK UK w' s/\∀q,z3u 0 G08.start (j6u<|bs.map λb=>(b.toNat:Int))=.ok q->StP s q 50)/\Fr [] w0 w':=by
 obtain⟨O,b6⟩:∃O:List Int,O=bs.map (λb=>(b.toNat:Int)):=⟨_,rfl⟩;rw[<-b6];have i5:O.length=bs.length:=by rw[b6,l18]
 have f7:=hs.len_le;unfold maxLen at f7;have f8:∀i,i<bs.length->O.getD i 0=((bs.getD i 0).toNat:Int):=λi h=>by rw[b6,List.getD,List.getD,l24,l10 h];rfl
 refine we [(0,.agg #[.slice A bs.length c,.slice M nM cM])] func10 U ntmps10 U (.cons U .nil) ?_;have f6:=hs;have d1:=b2;refine sr<|bx U<|λg1 w1 h7 a1 q1 z1=>(al y6l U<|λg2 w2 h8 a4 q2 z2=>?_);have a1:=a1.ext q2;obtain⟨bS,h6⟩:∃b:Nat,b=w2.heap.size:=⟨_,rfl⟩;have b0:=a1;have d4:=a4;refine nn<|sr<|z1u (cs:=[_,_,_,_,_,_]) (ev2 U) v5n (z0g U<|z0g U z0r) U ?_;refine z1i ([⟨1,0,0,0,1,0⟩]) (ev1 U) U y0y<|λh2 w3 g4 e0 q3 z3=>(asg U<|nn<|sr<|asg U<|nn<|sq<|sr<|asg U<|nn<|bl<|lpK (ι:=Nat×Value) (ll2 1 2) (λp_=>[(5,.int .i64 (p_.1:Int)),(3,p_.2),(4,.int .i64 ((z9n O p_.1).2:Int))]) (λp_ w'=>Fr [] w2 w'/\p_.1<=16/\Lw.Own z3d 44 bS w' p_.2 (z9n O p_.1).1) (λp_=>16-p_.1) (0,_) (csu U) ⟨q3,⟨l17 _,e0.low oo⟩⟩ ?_);rintro⟨n,vP⟩ w4 ⟨q4,⟨d9,Z⟩⟩;simp only at d9 Z;have z4:=q4.size;refine kpC [(1,_),(2,_),(5,.int .i64 (n:Int)),(3,vP),(4,.int .i64 ((z9n O n).2:Int))] (csu U) ?_;obtain⟨i2,i3⟩:=x1t O n;refine sq<|sr<|mv U U<|lt' U<|nn<|cd U (λc0=>?_)<|λc0=>?_;refine sk<|tn<|sq<|bl<|sr<|mv U U<|v7z U U (by first|exact IntWalk.i64_quo _ _ oo|rfl) U<|z0v U (wi6 oo)<|z1u (cs:=[_,_]) (ev2 U) y7p (z0g U<|z0g U z0r) U ?_;refine al x9o U<|λg6 w5 h9 I q5 z5=>?_;refine z0i (vs:=[_,_]) U I y4h (λw6 I q6 z6=>?_) (h1:=t33);refine nn<|jn (ι:=Unit) (ll6 1 2 3 4 5 6) (λu_=>[]) (λu_ w'=>Fr [g6] w6 w'/\Blk w' g6 42 [.int .u8 (bdS n),.int .i64 (10+((n / 2:Nat):Int))]) (csu U) ?_ ?_;refine sr<|mv U U<|y7v U U t38<|eq' U<|nn<|cd U (λc1=>?_)<|λc1=>?_;refine rg<|fad U z6s<|z3j U I U k6g<|λw7 I q7 z7=>?_;replace I:Blk w7 g6 _ [_,_]:=I;exact nl<|jE (()) (csu U) ⟨((l12 [g6] _).z1 q7),by rw[show bdS n=0 from if_pos oo,show (10:Int)+((n / 2:Nat):Int)=10+(n:Int) / 2 by omega];exact I⟩;exact sk<|jE (()) (csu U) ⟨(l12 _ _),by rw[show bdS n=1 from if_neg oo,show (10:Int)+((n / 2:Nat):Int)=10+(n:Int) / 2 by omega];exact I⟩;rintro _u w8 ⟨q8,I⟩;have z8:=q8.size;have f0:=I.lt;refine kpC (ll6 1 2 3 4 5 6) (csu U)<|sr<|asg U<|nn<|bl<|lpK (ι:=Nat) (ll6 1 2 3 4 5 6) (λi=>[(7,.int .i64 (i:Int))]) (λi w'=>Fr [] w8 w'/\(i<=O.length/\i<=6)/\x2a n ((O.take 6).drop i) (z9n O n)=z9n O (n+1)) (λi=>6-i) 0 (csu U) ⟨l12 _ _,⟨⟨l17 _,l17 _⟩,by rw[List.drop_zero];rfl⟩⟩ ?_;rintro i w9 ⟨q9,⟨i1,b5⟩⟩;have z9:=q9.size;refine kpC (ll7 1 2 3 4 5 6 7) (csu U)<|sq<|sq<|rbo (r:=34) (L':=ll7 1 2 3 4 5 6 7) ((((i:Int)<(bs.length:Int))/\((i:Int)<6))) (csu U) ?_ ?_;refine mv U U<|fad U u8k ?_;have a1:=b0.ext<|q4.z4 q5 q6 q8 q9;refine z0j U a1 U v3l<|lnS U underlying51<|lt' U<|mv U U<|gs 31 U (λg0=>?_)<|λg0=>?_;exact gY U<|mv U U<|gY U<|lt' U<|pkt U<|rbe U<|csu U;exact gN U<|gN U<|pkf U<|rbe U<|csu U;refine tn<|cd U (λc2=>?_)<|λc2=>?_;have i4:=f8 i oo;have i7:=(bs.getD i 0).toNat_lt;refine sk<|tn<|sq<|bl<|sr<|fad U u8k ?_;have a1:=b0.ext<|q4.z4 q5 q6 q8 q9;refine z0j U a1 U v3l<|mv U U ?_;have hs:=f6.ext<|q1.z6 q2 q4 q5 q6 q8 q9;refine z1b (0) U hs U y4i z1j<|λf9 d5=>?_;refine z1c U (d5 _ hs) na5<|asg U<|kpL (ll8 1 2 3 4 5 6 7 8) (csu U)<|nn<|sq<|sq<|rbo (r:=61) (L':=ll8 1 2 3 4 5 6 7 8) (((((((bs.getD i 0).toNat:Int) % 8)≠((n:Int) / 2))\/(¬((((((bs.getD i 0).toNat:Int) / 8) % 2)=1)↔(((n:Int) % 2)=0))))\/(6<=((z9n O n).2:Int)))) (csu U) ?_ ?_;refine mv U U<|y7v U U t38<|z3v U (us underlying5) underlying3 (wi6 oo)<|mv U U<|v7z U U (by first|exact IntWalk.i64_quo _ _ oo|rfl) U<|ne' U<|mv U U<|gs 48 U (λg1=>?_)<|λg1=>?_;exact gN U<|gN U<|gN U<|gN U<|gN U<|gN U<|gN U<|gN U<|pkt U<|mv U U<|gN U<|gN U<|pkt U<|rbe U<|csu U;refine gY U<|mv U U<|gY U<|v7z U U t71 U<|gY U<|y7v U U t38<|gY U<|eq' U<|gY U<|mv U U<|gY U<|y7v U U t38<|gY U<|eq' U<|gY U<|j8d U U underlying4 U<|pkf U<|mv U U<|gs 58 U (λg2=>?_)<|λg2=>?_;exact gN U<|gN U<|pkt U<|rbe U<|csu U;exact gY U<|mv U U<|gY U<|ge' U<|pkf U<|rbe U<|csu U;refine tn<|cd U (λc3=>?_)<|λc3=>?_;have d7:¬u1m n (z9n O n).2 (O.getD i 0):=by unfold u1m;omega
 exact ex<|te<|xh<|tn<|rg<|mv U U<|z0v U (wi6 oo)<|asg U<|nl<|lpE ((i+1)) (csu U) ⟨q9,⟨⟨oo,oo⟩,by rw[<-b5,v8b oo oo d7]⟩⟩ oo;have d6:u1m n (z9n O n).2 (O.getD i 0):=by unfold u1m;omega
 have d0:z9n O (n+1)=v4c n (O.getD i 0) (z9n O n):=by rw[<-b5,u1u oo oo d6]
 refine sk<|tn<|sr<|mv U U ?_;have I:=I.ext q9;refine z0k U I z5n<|z1u (cs:=[_,_,_,_,_,_]) (ev4 U) v5n (z0g U<|z0g U<|z0g U<|z0g U z0r) U ?_;refine z1i ([opS 4 1 n]) (ev1 U) U y0y<|λh3 j2 g5 e3 a8 k4=>?_;have I:=I.ext a8;have Z:=(((Z.ext q5).fr q6 (by first|exact z9l Z oo|simp[z0u]<;>omega)).fr q8 (by first|exact z9l Z oo|simp[z0u]<;>omega)).ext<|q9.n1 a8;have a2:=Z;refine z2k U Z e3.sl y0y (λi9 j3 Z a9 f3=>?_) (hM:=t59) (hb:=t52);have k5:=a9.size;have I:=I.fr a9<|λhk=>a2.neB I dd hk;refine asg U<|kpL (ll7 1 2 3 4 5 6 8) (csu U)<|nn<|sr<|mv U U<|z0v U (wi6 oo)<|asg U<|nn<|sq<|sq<|rbo (r:=76) (L':=ll6 1 2 3 4 5 6) (((((((bs.getD i 0).toNat:Int) / 16) % 2)=1)/\((((z9n O n).2:Int)+1)<6))) (csu U) ?_ ?_;refine mv U U<|v7z U U t71 U<|y7v U U t38<|eq' U<|mv U U<|gs 73 U (λg3=>?_)<|λg3=>?_;exact gY U<|mv U U<|gY U<|lt' U<|pkt U<|rbe U<|csu U;exact gN U<|gN U<|pkf U<|rbe U<|csu U;refine tn<|cd U (λc4=>?_)<|λc4=>?_;have D:z9n O (n+1)=((z9n O n).1++[opS 4 1 n]++[opS 6 0 n,opS 5 1 n],(z9n O n).2+2):=by rw[d0];unfold v4c;rw[if_pos oo]
 refine sr<|mv U U<|z0k U I z5n<|z1u (cs:=[_,_,_,_,_,_]) (ev4 U) v5n (z0g U<|z0g U<|z0g U<|z0g U z0r) U ?_;refine z0k U I z5n<|z1u (cs:=[_,_,_,_,_,_]) (ev4 U) v5n (z0g U<|z0g U<|z0g U<|z0g U z0r) U ?_;refine z1i ([opS 6 0 n,opS 5 1 n]) (ev2 U) U y0y<|λh4 j4 g7 e4 e7 k6=>?_;have Z:=Z.ext e7;have b4:=Z;refine z2k U Z e4.sl y0y (λj0 j5 Z e8 f4=>?_) (hM:=t59) (hb:=t52);have k7:=e8.size;refine asg U<|kpL (ll5 1 2 3 4 5) (csu U)<|nn<|rg<|mv U U<|z0v U (wi6 oo)<|asg U<|nl<|tn<|ex<|xo U<|te<|te<|xh<|bn'<|tn<|rg<|mv U U<|z0v U (wi6 oo)<|asg U<|nl ?_;exact lpE ((n+1,_)) (.c5 U U U U<|congrArg (λz=>some<|Value.int .i64 z) (by first|(rw[D];done)|(simp only;rw[D];done)|(rw[D];omega)|(rw[D];simp only;omega)|(simp only;rw[D];omega)|(simp only;rw[D];simp only;omega))) ⟨((((q4.z5 q5 q6 q8 q9 a8).step a9<|λk hk a5=>absurd (a2.blk k hk).1 oo).n1 e7).step e8<|λk hk a5=>absurd (b4.blk k hk).1 oo),⟨sm,by simp only;rw[D];exact Z⟩⟩ sm;have D:z9n O (n+1)=((z9n O n).1++[opS 4 1 n],(z9n O n).2+1):=by rw[d0];unfold v4c;rw[if_neg oo]
 refine sk<|tn<|ex<|xo U<|te<|te<|xh<|bn'<|tn<|rg<|mv U U<|z0v U (wi6 oo)<|asg U<|nl ?_;exact lpE ((n+1,_)) (.c5 U U U U<|congrArg (λz=>some<|Value.int .i64 z) (by first|(rw[D];done)|(simp only;rw[D];done)|(rw[D];omega)|(rw[D];simp only;omega)|(simp only;rw[D];omega)|(simp only;rw[D];simp only;omega))) ⟨((q4.z5 q5 q6 q8 q9 a8).step a9<|λk hk a5=>absurd (a2.blk k hk).1 oo),⟨sm,by simp only;rw[D];exact Z⟩⟩ sm;have D:z9n O (n+1)=(z9n O n):=by rw[<-b5,u6y oo]
 refine ex<|te<|te<|xh<|bn'<|tn<|rg<|mv U U<|z0v U (wi6 oo)<|asg U<|nl ?_;have Z:=(((Z.ext q5).fr q6 (by first|exact z9l Z oo|simp[z0u]<;>omega)).fr q8 (by first|exact z9l Z oo|simp[z0u]<;>omega)).ext q9;exact lpE ((n+1,_)) (.c5 U U U U<|congrArg (λz=>some<|Value.int .i64 z) (by first|(rw[D];done)|(simp only;rw[D];done)|(rw[D];omega)|(rw[D];simp only;omega)|(simp only;rw[D];omega)|(simp only;rw[D];simp only;omega))) ⟨(q4.z4 q5 q6 q8 q9),⟨sm,by simp only;rw[D];exact Z⟩⟩ sm;obtain rfl:n=16:=by omega
 refine ex<|te<|te<|xh<|tn<|sr<|cl z0f (mkC func8) (v3x _) U ?_;rintro _ j6 ⟨⟨gy,gt,rfl,c9⟩,q14⟩;have k8:=q14.size;have a3:=c9.k;clear c9;refine mv U U<|z1u (cs:=[_,_,_,_,_,_]) (ev2 U) v5n (z0g U<|z0g U z0r) U ?_;refine z1i ([⟨2,0,0,0,1,0⟩]) (ev1 U) U y0y<|λh5 j7 g8 e5 a6 k9=>?_;have a3:=a3.ext a6;have Z:=Z.ext<|q14.n1 a6;have a0:=Z;refine z2k U Z e5.sl y0y (λj1 j8 Z a7 f5=>?_) (hM:=t59) (hb:=t52);have l0:=a7.size;have a3:=a3.fr a7 (λk_ f1 _=>by obtain⟨h0,f2⟩:=z9z a0 k_ f1;exact⟨_,_,f2,dd⟩);have e6:(j6u O).length=(z9n O 16).1.length+1:=by unfold j6u;rw[l13];rfl
 have b2:=d1.ext<|(q1.n4 q2 q4 q14 a6).step a7<|λk hk a5=>absurd (a0.blk k hk).1 oo;refine cl (ev2 U) (mkC func7) (v8u _ (j6u O) _ a3.at (stp0 gy gt) (by rw[e6];omega) Z.sl b2) U ?_;rintro _ j9 ⟨⟨s5,rfl,b9,d3,i8⟩,q17⟩;have l1:=q17.size;have b1:=b9.k;clear b9;refine mv U U<|xt U<|xt U<|xt U<|al y6l U<|λg9 k0 i0 b3 b7 l2=>?_;refine z0i (vs:=[_,_,_,_,_,_,_,_]) U b3 z9m (λk1 b3 b8 l3=>?_) (h1:=t33);refine asg U<|asg U<|kpL (ll2 2 9) (csu U)<|nn<|sr<|z0k U b3 z7r ?_;have a4:=d4.ext<|((q4.n2 q14 a6).step a7<|λk hk a5=>absurd (a0.blk k hk).1 oo).z3 q17 b7 b8;refine z0i (vs:=[_,_,_,_,_,_,_,_]) U a4 z9m (λk2 a4 e9 l4=>?_) (h1:=t33);refine nn<|rt<|rC results10 U a4 z7r  ?_;have b1:=((b1.ext b7).fr b8 t32).fr e9 t32;exact⟨_,rfl,⟨s5,rfl,b1,λq hq=>by rw[nrm0]at d3;exact(d3 q hq).mono (by rw[e6];omega)⟩,(((q1.n4 q2 q4 q14 a6).step a7<|λk hk a5=>absurd (a0.blk k hk).1 oo).z4 q17 b7 b8 e9)⟩
end Go.Proofs.YtlfdhllfmoplgaaGreatDoor
namespace Go.G26
open Go.Lw Go.G21 Go.G08
def exP:List (List MOp):=[[xfP 0 10,rkP 1,rkP 0,xfP 1 10],[xfP 0 10,rkP 2,xfP 1 10,rkP 0],[xfP 0 10,rkP 3,xfP 1 10,rkP 0],[xfP 0 11,rkP (-1),xfP 1 11,rkP 0],[xfP 0 11,rkP (-1),rkP 0,xfP 1 11]]
def exW:List (List Int):=[[],[-1],[-1,-2],[1],[1,-1]]
def xa:LId:=⟨1,0⟩
def xb:LId:=⟨1,1⟩
def xc:LId:=⟨1,2⟩
def exH:List (List LId):=[[xa,xb,xc],[xb,xa,xc],[xb,xc,xa],[xb,xa,xc],[xa,xb,xc]]
def exA (p:MSt)(i:Nat):Bool:=match z1t (nrm p) (exP.getD i []) with
  | .error _=>false
  | .ok (w,q)=>decide (w=exW.getD i []/\z4u q=exH.getD i []/\(i=1->q.B.at 0 12=[xa,xc])/\(i=3->q.B.at 0 10=[xb,xa]))
def j6v (p:MSt)(l:List MOp):Int:=match z1t p l with
  | .error e=>e
  | .ok _=>0
def exB:Bool:=match z3u 0 G08.start exO with
  | .error _=>false
  | .ok p=>decide (z4u p=[xa,xb,xc]) && exA p 0 && exA p 1 && exA p 2 && exA p 3 && exA p 4 && decide (j6v (nrm p) [rkP 5]=1) && decide (j6v (nrm p) [xfP 0 13]=13)
theorem ex_b:exB=true:=by decide +kernel
theorem j8b:∃p,z3u 0 G08.start exO=.ok p/\z4u p=[xa,xb,xc]/\j6v (nrm p) [rkP 5]=1/\j6v (nrm p) [xfP 0 13]=13/\
    ∀i,i<5->∃q,z1t (nrm p) (exP.getD i [])=.ok (exW.getD i [],q)/\z4u q=exH.getD i []/\(i=1->q.B.at 0 12=[xa,xc])/\(i=3->q.B.at 0 10=[xb,xa]):=by
  have h:=ex_b
  unfold exB at h
  split at h
  · cases h
  · rename_i p Z
    simp only[l107,decide_eq_true_eq]at h
    obtain⟨⟨⟨⟨⟨⟨⟨D,h2⟩,h3⟩,h4⟩,h5⟩,h6⟩,I⟩,O⟩:=h
    refine⟨p,Z,D,I,O,λi hi=>?_⟩
    have k:exA p i=true:=by
      rcases(show i=0\/i=1\/i=2\/i=3\/i=4 by omega) with rfl|rfl|rfl|rfl|rfl<;>assumption
    unfold exA at k
    split at k
    · cases k
    · rename_i w q hq
      obtain⟨k1,k2,k3,k4⟩:=of_decide_eq_true k
      exact⟨q,by rw[hq,k1],k2,k3,k4⟩
def exT:List (List<|List UInt8):=[[[120,102,101,114,32,102,49,48],[114,97,99,107,32,49],[114,97,99,107,32,48],[120,102,101,114,32,98,49,48]],[[120,102,101,114,32,102,49,48],[114,97,99,107,32,50],[120,102,101,114,32,98,49,48],[114,97,99,107,32,48]],[[120,102,101,114,32,102,49,48],[114,97,99,107,32,51],[120,102,101,114,32,98,49,48],[114,97,99,107,32,48]],[[120,102,101,114,32,102,49,49],[114,97,99,107,32,45,49],[120,102,101,114,32,98,49,49],[114,97,99,107,32,48]],[[120,102,101,114,32,102,49,49],[114,97,99,107,32,45,49],[114,97,99,107,32,48],[120,102,101,114,32,98,49,49]]]
theorem k1p:∀i,i<5->(exT.getD i []).length=4/\(exP.getD i []).length=4/\∀k,k<4->y8n ((exT.getD i []).getD k [])=((exP.getD i []).getD k op0,0)/\((exT.getD i []).getD k []).length<=100:=by decide +kernel
theorem j8m:∀i,i<5->(exW.getD i []).length<=2:=dd
theorem u8d:y8n [120,102,101,114,32,102,49,51]=(xfP 0 13,0):=by decide +kernel
theorem y2t {p:MSt}{l:List MOp}{e:Int}(h:j6v p l=e)(D:e≠0):z1t p l=.error e:=by
 unfold j6v at h;split at h;rename_i x I;rw[I,h];exact absurd h.symm D
abbrev SQ (α:Type):=SV×List α
def encQ (α:Type):Enc (SQ α):=⟨λp=>[.slice p.1.1 p.1.2.1 p.1.2.2],1,λ_=>rfl,λ_ u h=>by simp at h;subst h;rfl,dd⟩
abbrev k4t:=encQ Int
abbrev k6f:=encQ<|List UInt8
abbrev sqi:SQ Int:=(sv0,[])
abbrev sqs:SQ (List UInt8):=(sv0,[])
def QAt {α:Type}(E:Enc α)(w:World)(l:List (SQ α)):Prop:=∀q∈l,Sl E w (slv q.1) q.2
theorem QAt.ext {α:Type}{E:Enc α}{w w':World}{l:List (SQ α)}(h:QAt E w l)(hf:Fr [] w w'):QAt E w' l:=λq D=>(h q D).ext hf
theorem QAt.get {α:Type}{E:Enc α}{w:World}{l:List (SQ α)}{d:SQ α}(h:QAt E w l){i:Nat}(hi:i<l.length):Sl E w (slv (l.getD i d).1) (l.getD i d).2:=h _<|z0z hi
theorem QAt.five {α:Type}{E:Enc α}{w:World}{a b c d e:SQ α}(h1:Sl E w (slv a.1) a.2)(I:Sl E w (slv b.1) b.2)(O:Sl E w (slv c.1) c.2)(Z:Sl E w (slv d.1) d.2)(h5:Sl E w (slv e.1) e.2):QAt E w [a,b,c,d,e]:=λq D=>by
 simp only[l55,l120,or_false]at D
 rcases D with rfl|rfl|rfl|rfl|rfl<;>assumption
end Go.G26
namespace Go.Proofs.YtlfdhllfmoplgaaGreatDoor
open Go.Lw Go.G21 Go.G08 Go.G09 Go.G26 _root_.Go.Proofs.Tryz
theorem x8i (l:List UInt8)(o:MOp)(e:Int)(w0:World)(hG:Glob w0)(h:y8n l=(o,e))(hl:l.length<=1000):Rets prog 31 #[S l] w0 λr w'=>r=opV o/\Fr [] w0 w':=by
 have a0:=hG.sz;refine we [(0,S l)] func31 U ntmps31 U (.cons U .nil) ?_;have O:=hG;refine sr<|al u1r U<|λg2 w1 a1 D q1 z1=>(nn<|sr<|mv U U ?_);have hG:=O.ext q1;refine cl (ev1 U) (mkC func81) (u5m l _ hG oo) U ?_;rintro _ w2 ⟨o',e',Z,rfl,q2⟩;have z2:=q2.size;cases Z.symm.trans h;refine mv U U<|xt U<|xt U<|al u1r U<|λg3 w3 a2 I q3 z3=>(z0i (vs:=[_,_,_,_,_,_]) U I v3b<|λw4 I q4 z4=>(asg U<|kpL (ll2 2 3) (csu U)<|nn<|sr<|z0k U I y2a ?_));have D:=(D.ext<|q2.n1 q3).fr q4;exact z0i (vs:=[_,_,_,_,_,_]) U D v3b<|λw5 D q5 z5=>(nn<|rt<|rC results31 U D y2a  ⟨_,rfl,rfl,(q1.z4 q2 q3 q4 q5)⟩)
theorem v8y (v1 v2:Value)(Z l2:List Int)(w0:World)(h1:Sl Enc.i64 w0 v1 Z)(h2:Sl Enc.i64 w0 v2 l2)(hl:Z.length<=100000):Rets prog 14 #[v1,v2] w0 λr w'=>r=.bool (decide (Z=l2))/\Fr [] w0 w':=by
 obtain⟨A1,k1,rfl,a6⟩:=id h1.form;obtain⟨A2,k2,rfl,a7⟩:=id h2.form;refine we [(0,.slice A1 Z.length k1),(1,.slice A2 l2.length k2)] func14 U ntmps14 U (.c2 U U) ?_;have a2:=h1;have a3:=h2;refine sr<|asg U<|nn<|sq<|sr<|mv U U<|lnS U underlying22<|mv U U<|lnS U underlying22<|ne' U<|nn<|cd U (λc0=>?_)<|λc0=>?_;refine sr<|asg U<|nn<|rt<|tr<|r1 results14 U ?_;exact⟨_,rfl,congrArg Value.bool (decide_eq_false<|λe=>c0 t30).symm,(l12 _ _)⟩;refine sk<|tn<|sq<|sr<|asg U<|nn<|bl<|lpK (ι:=Nat) (ll2 0 1) (λi=>[(5,.int .i64 (i:Int))]) (λi w'=>Fr [] w0 w'/\i<=Z.length/\∀j,j<i->Z.getD j 0=l2.getD j 0) (λi=>Z.length-i) 0 (csu U) ⟨l12 _ _,⟨l17 _,λj h=>absurd h oo⟩⟩ ?_;rintro i w1 ⟨q1,⟨hi,hz⟩⟩;refine kpC (ll3 0 1 5) (csu U)<|sq<|sr<|mv U U<|mv U U<|lnS U underlying22<|lt' U<|nn<|cd U (λc1=>?_)<|λc1=>?_;refine sk<|tn<|sq<|bl<|sq ?_;have h1:=a2.ext q1;have h2:=a3.ext q1;intro a h;have D:=l12 [] w1;refine z2y (λwb w'=>Fr [] wb w') z2r ?_;intro w2 hq;have h1:=h1.ext hq;have h2:=h2.ext hq;have D:=D.next hq;have a8:=hq.size;have hC:Fr [] w2 w2:=l12 _ _;have I:=h1;have O:=h2;refine z0e 0 h U λa h=>z0e 1 h U λa h=>z1e (0) 2 h U h1 U y0j U ?_ (hp:=rfl);intro a4 a0 a h;refine z2g 3 h U (λ_ hw=>a0 _<|I.ext hw) na3 U λa h=>z0e 4 h U λa h=>z0e 5 h U λa h=>z1e (0) 6 h U h2 U y0j U ?_ (hp:=rfl);intro a5 a1 a h;refine z2g 7 h U (λ_ hw=>a1 _<|O.ext hw) na3 U λa h=>u0n 8 hC h wn U U U U λa h=>z0p ?_;clear hC I O;refine bk (h.sub (L':=ll4 0 1 5 25)<|csu U)<|tn<|cd U (λc2=>?_)<|λc2=>?_;refine sr<|asg U<|nn<|rt<|rb<|tr<|tr<|rb<|tr<|r1 results14 U ?_;exact⟨_,rfl,congrArg Value.bool (decide_eq_false<|λe=>c2 t30).symm,(q1.n1 D)⟩;refine sk<|bn'<|tn<|rg<|mv U U<|z0v U (wi6 oo)<|asg U<|nl ?_;exact lpE (i+1) (csu U) ⟨(q1.n1 D),⟨oo,λj h=>by
  by_cases e:j=i;subst e;exact l16.1 c2;exact hz j oo⟩⟩ oo
 obtain rfl:i=Z.length:=by omega
 refine ex<|te<|te<|xh<|tn<|sr<|asg U<|nn<|rt<|r1 results14 U ?_;exact⟨_,rfl,congrArg Value.bool (decide_eq_true<|y5l 0 oo<|λj hj=>hz j oo).symm,q1⟩
theorem z9v (v1 v2:Value)(Z l2:List LId)(w0:World)(h1:Sl z1g w0 v1 Z)(h2:Sl z1g w0 v2 l2)(hl:Z.length<=100000):Rets prog 32 #[v1,v2] w0 λr w'=>r=.bool (decide (Z=l2))/\Fr [] w0 w':=by
 obtain⟨A1,k1,rfl,a6⟩:=id h1.form;obtain⟨A2,k2,rfl,a7⟩:=id h2.form;refine we [(0,.slice A1 Z.length k1),(1,.slice A2 l2.length k2)] func32 U ntmps32 U (.c2 U U) ?_;have a2:=h1;have a3:=h2;refine sr<|asg U<|nn<|sq<|sr<|mv U U<|lnS U underlying30<|mv U U<|lnS U underlying30<|ne' U<|nn<|cd U (λc0=>?_)<|λc0=>?_;refine sr<|asg U<|nn<|rt<|tr<|r1 results32 U ?_;exact⟨_,rfl,congrArg Value.bool (decide_eq_false<|λe=>c0 t30).symm,(l12 _ _)⟩;refine sk<|tn<|sq<|sr<|asg U<|nn<|bl<|lpK (ι:=Nat) (ll2 0 1) (λi=>[(5,.int .i64 (i:Int))]) (λi w'=>Fr [] w0 w'/\i<=Z.length/\∀j,j<i->Z.getD j id0=l2.getD j id0) (λi=>Z.length-i) 0 (csu U) ⟨l12 _ _,⟨l17 _,λj h=>absurd h oo⟩⟩ ?_;rintro i w1 ⟨q1,⟨hi,hz⟩⟩;refine kpC (ll3 0 1 5) (csu U)<|sq<|sr<|mv U U<|mv U U<|lnS U underlying30<|lt' U<|nn<|cd U (λc1=>?_)<|λc1=>?_;refine sk<|tn<|sq<|bl<|sq ?_;have h1:=a2.ext q1;have h2:=a3.ext q1;intro a h;have D:=l12 [] w1;refine z2y (λwb w'=>Fr [] wb w') z2r ?_;intro w2 hq;have h1:=h1.ext hq;have h2:=h2.ext hq;have D:=D.next hq;have a8:=hq.size;have hC:Fr [] w2 w2:=l12 _ _;have I:=h1;have O:=h2;refine z0e 0 h U λa h=>z0e 1 h U λa h=>z1e (id0) 2 h U h1 U z4k U ?_ (hp:=rfl);intro a4 a0 a h;refine z2e 3 h wn U (λ_ hw=>a0 _<|I.ext hw) z2z U λa h=>z0e 4 h U λa h=>z0e 5 h U λa h=>z1e (id0) 6 h U h2 U z4k U ?_ (hp:=rfl);intro a5 a1 a h;refine z2e 7 h wn U (λ_ hw=>a1 _<|O.ext hw) z2z U λa h=>u9u (V:=idV) (e:=_) (f:=_) 8 hC h wn U U k3n U U λa h=>z0p ?_;clear hC I O;refine bk (h.sub (L':=ll4 0 1 5 25)<|csu U)<|tn<|cd U (λc2=>?_)<|λc2=>?_;refine sr<|asg U<|nn<|rt<|rb<|tr<|tr<|rb<|tr<|r1 results32 U ?_;exact⟨_,rfl,congrArg Value.bool (decide_eq_false<|λe=>c2 t30).symm,(q1.n1 D)⟩;refine sk<|bn'<|tn<|rg<|mv U U<|z0v U (wi6 oo)<|asg U<|nl ?_;exact lpE (i+1) (csu U) ⟨(q1.n1 D),⟨oo,λj h=>by
  by_cases e:j=i;subst e;exact l16.1 c2;exact hz j oo⟩⟩ oo
 obtain rfl:i=Z.length:=by omega
 refine ex<|te<|te<|xh<|tn<|sr<|asg U<|nn<|rt<|r1 results32 U ?_;exact⟨_,rfl,congrArg Value.bool (decide_eq_true<|y5l id0 oo<|λj hj=>hz j oo).symm,q1⟩
theorem bo53:BuildAt prog 53 [(0,1),(1,1)] [(.slice none 0 0),(.slice none 0 0)]:=BuildAt.struct underlying53 (λ_=>kr)<|λ_=>kr
theorem co6:CallOf prog 6:=mkC func6
theorem k2u:CallOf prog 32:=mkC func32
theorem el60:ElemOf prog 60 22 k4t 24:=ElemOf.mk' (z:=(.slice none 0 0)) underlying60 kr U
theorem k5h:ElemOf prog 89 88 k6f 24:=ElemOf.mk' (z:=(.slice none 0 0)) underlying89 kr U
theorem na88:z2d prog 88:=λ_=>kr
set_option maxRecDepth 10000 in
theorem y8i (w0:World)(hG:Glob w0)(a4:StT w0):Rets prog 9 #[] w0 λr w'=>r=.bool true/\Fr [] w0 w':=by
 have R8:=hG.sz;refine we [] func9 U ntmps9 U .nil ?_;have r7:=hG;have i5:=a4;refine sr<|asg U<|nn<|sr<|z1i ([0,1,2]) (ev3 U) U y4i<|λR4 w1 D7 G2 q1 z1=>?_;refine z1u (cs:=[_,_]) (ev1 U) bo53 (z0g U z0r) U ?_;have a4:=i5.ext q1;refine cl (ev1 U) (mkC func10) (y8k _ _ [0,1,2] none 0 0 _ G2.sl a4) U ?_;rintro _ w2 ⟨⟨s,rfl,C6,I6⟩,q2⟩;have a3:=C6.at;clear C6;have z2:=q2.size;have i4:=a3;obtain⟨p,hp,J6,J0,l5,J1⟩:=j8b;have hP:=I6 p (by rw[show (([0,1,2]:List UInt8).map λb=>(b.toNat:Int))=[0,1,2] from by decide,k1x];exact hp);have hh:s.fb.hs=[xa,xb,xc]:=hP.hsE.trans J6;have U1:s.fb.h.2.1=3:=by rw[z2c a3.f.h,hh];rfl
 have Q2:s.fb.hs.length=3:=by rw[hh];rfl
 have k6:(s.fb.hs.getD 0 id0)=xa:=by rw[hh];rfl
 have x6:(s.fb.hs.getD 1 id0)=xb:=by rw[hh];rfl
 have n8:(s.fb.hs.getD 2 id0)=xc:=by rw[hh];rfl
 refine al y6l U<|λg1 w3 J2 d1 q3 z3=>?_;refine z0i (vs:=[_,_,_,_,_,_,_,_]) U d1 z9m (λw4 d1 q4 z4=>?_) (h1:=t40);have k0:=d1;refine nn<|sq<|sr<|fad U z6t<|y6p U z9f U<|z0j U d1 U z6f<|lnS U underlying30<|ne' U<|nn<|cd U (λc0=>?_)<|λc0=>?_;exfalso;omega;refine sk<|tn<|jn (ι:=Nat×Nat×Nat) (ll1 1) (λz_=>[(2,pta z_.1),(3,pta z_.2.1),(4,pta z_.2.2)]) (λz_ w'=>Fr [] w4 w'/\Blk w' z_.1 64 [.int .u8 (s.fb.hs.getD 0 id0).y,.int .i64 (s.fb.hs.getD 0 id0).n]/\Blk w' z_.2.1 64 [.int .u8 (s.fb.hs.getD 1 id0).y,.int .i64 (s.fb.hs.getD 1 id0).n]/\Blk w' z_.2.2 64 [.int .u8 (s.fb.hs.getD 2 id0).y,.int .i64 (s.fb.hs.getD 2 id0).n]) (csu U) ?_ ?_;have a3:=i4.ext<|q3.z1 q4;intro a h;refine z0h none (λwb w'=>Fr [] wb w') z2r ?_;intro w5 q5;have z5:=q5.size;have a3:=a3.ext q5;have d1:=d1.ext q5;have hC:Fr [] w5 w5:=l12 _ _;have b6:=a3;have b2:=d1;refine y0o (ι:=Nat×Nat×Nat) h (ll2 1 27) (csu U) #[true,true,true,true,true,true,true,true,true,true,true,true,true,true,true,true,true,true,false,false,false] 3 (λp_=>[(2,pta p_.1),(3,pta p_.2.1),(4,pta p_.2.2),(32,ivv<|s.fb.hs.getD 0 id0),(37,ivv<|s.fb.hs.getD 1 id0),(42,ivv<|s.fb.hs.getD 2 id0)]) (λp_ w'=>Fr [] w5 w'/\(w5.heap.size<=p_.1/\w5.heap.size<=p_.2.1/\w5.heap.size<=p_.2.2/\p_.1≠p_.2.1/\p_.1≠p_.2.2/\p_.2.1≠p_.2.2)/\Blk w' p_.1 64 [.int .u8 0,.int .i64 0]/\Blk w' p_.2.1 64 [.int .u8 0,.int .i64 0]/\Blk w' p_.2.2 64 [.int .u8 0,.int .i64 0]) (λe8=>?_) ?_;refine z0c 0 h U z6t U λa h=>z4y 1 h U z9f U λa h=>z0m 2 h U (λ_ hw=>b2.ext hw) U z6f U λa h=>z1e (p:=0) (id0) 3 h U a3.f.h U z4k U ?_ (hp:=rfl);intro P2 D0 a h;refine z2e 4 h wn U (λ_ hw=>D0 _<|b6.f.h.ext hw) z2z U λa h=>z0c 5 h U z6t U λa h=>z4y 6 h U z9f U λa h=>z0m 7 h U (λ_ hw=>b2.ext hw) U z6f U λa h=>z1e (p:=1) (id0) 8 h U a3.f.h U z4k U ?_ (hp:=rfl);intro P3 D1 a h;refine z2e 9 h wn U (λ_ hw=>D1 _<|b6.f.h.ext hw) z2z U λa h=>z0c 10 h U z6t U λa h=>z4y 11 h U z9f U λa h=>z0m 12 h U (λ_ hw=>b2.ext hw) U z6f U λa h=>z1e (p:=2) (id0) 13 h U a3.f.h U z4k U ?_ (hp:=rfl);intro P4 D2 a h;refine z2e 14 h wn U (λ_ hw=>D2 _<|b6.f.h.ext hw) z2z U λa h=>y9p 15 16 17 kr U U U ?_ ?_ ?_;refine z0w h z8q U λw6 I q6 hz a h=>?_;obtain⟨a8,hg⟩:∃g,g=w5.heap.size:=⟨_,rfl⟩;rw[<-hg]at I h hz;have z6:=q6.size;have hC:=hC.next q6;refine z0b<|z1w 16 17 kr U ?_ ?_;refine z0w h z8q U λw7 O q7 hz a h=>?_;obtain⟨a9,hg⟩:∃g,g=w6.heap.size:=⟨_,rfl⟩;rw[<-hg]at O h hz;have i9:a8<a9:=by have:=I.lt;omega
 have z7:=q7.size;have I:=I.ext q7;have hC:=hC.next q7;refine z0b<|z0d 17 U<|z0w h z8q U λw8 Z q8 hz a h=>?_;obtain⟨b0,hg⟩:∃g,g=w7.heap.size:=⟨_,rfl⟩;rw[<-hg]at Z h hz;have j0:a8<b0:=by have:=I.lt;omega
 have j2:a9<b0:=by have:=O.lt;omega
 have z8:=q8.size;have I:=I.ext q8;have O:=O.ext q8;have hC:=hC.next q8;exact z0b<|e8 (a8,a9,b0) _ _ _ kr (h.sub<|csu U) ⟨hC,⟨sm,sm,sm,sm,sm,sm⟩,I,O,Z⟩;refine z0w h z8q U λw9 Z q9 hz a h=>?_;obtain⟨b0,hg⟩:∃g,g=w6.heap.size:=⟨_,rfl⟩;rw[<-hg]at Z h hz;have j0:a8<b0:=by have:=I.lt;omega
 have z9:=q9.size;have I:=I.ext q9;have hC:=hC.next q9;refine z0b<|z0d 16 U<|z0w h z8q U λU5 O s1 hz a h=>?_;obtain⟨a9,hg⟩:∃g,g=w9.heap.size:=⟨_,rfl⟩;rw[<-hg]at O h hz;have i9:a8<a9:=by have:=I.lt;omega
 have j4:b0<a9:=by have:=Z.lt;omega
 have L8:=s1.size;have I:=I.ext s1;have Z:=Z.ext s1;have hC:=hC.next s1;exact z0b<|e8 (a8,a9,b0) _ _ _ kr (h.sub<|csu U) ⟨hC,⟨sm,sm,sm,sm,sm,sm⟩,I,O,Z⟩;refine z0w h z8q U λH5 O G7 hz a h=>?_;obtain⟨a9,hg⟩:∃g,g=w5.heap.size:=⟨_,rfl⟩;rw[<-hg]at O h hz;have L9:=G7.size;have hC:=hC.next G7;refine z0b<|z1w 15 17 kr U ?_ ?_;refine z0w h z8q U λK1 I y5 hz a h=>?_;obtain⟨a8,hg⟩:∃g,g=H5.heap.size:=⟨_,rfl⟩;rw[<-hg]at I h hz;have j1:a9<a8:=by have:=O.lt;omega
 have M0:=y5.size;have O:=O.ext y5;have hC:=hC.next y5;refine z0b<|z0d 17 U<|z0w h z8q U λU6 Z s2 hz a h=>?_;obtain⟨b0,hg⟩:∃g,g=K1.heap.size:=⟨_,rfl⟩;rw[<-hg]at Z h hz;have j2:a9<b0:=by have:=O.lt;omega
 have j0:a8<b0:=by have:=I.lt;omega
 have M1:=s2.size;have O:=O.ext s2;have I:=I.ext s2;have hC:=hC.next s2;exact z0b<|e8 (a8,a9,b0) _ _ _ kr (h.sub<|csu U) ⟨hC,⟨sm,sm,sm,sm,sm,sm⟩,I,O,Z⟩;refine z0w h z8q U λK2 Z y6 hz a h=>?_;obtain⟨b0,hg⟩:∃g,g=H5.heap.size:=⟨_,rfl⟩;rw[<-hg]at Z h hz;have j2:a9<b0:=by have:=O.lt;omega
 have M2:=y6.size;have O:=O.ext y6;have hC:=hC.next y6;refine z0b<|z0d 15 U<|z0w h z8q U λU7 I s3 hz a h=>?_;obtain⟨a8,hg⟩:∃g,g=K2.heap.size:=⟨_,rfl⟩;rw[<-hg]at I h hz;have j1:a9<a8:=by have:=O.lt;omega
 have j3:b0<a8:=by have:=Z.lt;omega
 have M3:=s3.size;have O:=O.ext s3;have Z:=Z.ext s3;have hC:=hC.next s3;exact z0b<|e8 (a8,a9,b0) _ _ _ kr (h.sub<|csu U) ⟨hC,⟨sm,sm,sm,sm,sm,sm⟩,I,O,Z⟩;refine z0w h z8q U λH6 Z G8 hz a h=>?_;obtain⟨b0,hg⟩:∃g,g=w5.heap.size:=⟨_,rfl⟩;rw[<-hg]at Z h hz;have M4:=G8.size;have hC:=hC.next G8;refine z0b<|z1w 15 16 kr U ?_ ?_;refine z0w h z8q U λK3 I y7 hz a h=>?_;obtain⟨a8,hg⟩:∃g,g=H6.heap.size:=⟨_,rfl⟩;rw[<-hg]at I h hz;have j3:b0<a8:=by have:=Z.lt;omega
 have M5:=y7.size;have Z:=Z.ext y7;have hC:=hC.next y7;refine z0b<|z0d 16 U<|z0w h z8q U λU8 O s4 hz a h=>?_;obtain⟨a9,hg⟩:∃g,g=K3.heap.size:=⟨_,rfl⟩;rw[<-hg]at O h hz;have j4:b0<a9:=by have:=Z.lt;omega
 have i9:a8<a9:=by have:=I.lt;omega
 have M6:=s4.size;have Z:=Z.ext s4;have I:=I.ext s4;have hC:=hC.next s4;exact z0b<|e8 (a8,a9,b0) _ _ _ kr (h.sub<|csu U) ⟨hC,⟨sm,sm,sm,sm,sm,sm⟩,I,O,Z⟩;refine z0w h z8q U λK4 O y8 hz a h=>?_;obtain⟨a9,hg⟩:∃g,g=H6.heap.size:=⟨_,rfl⟩;rw[<-hg]at O h hz;have j4:b0<a9:=by have:=Z.lt;omega
 have M7:=y8.size;have Z:=Z.ext y8;have hC:=hC.next y8;refine z0b<|z0d 15 U<|z0w h z8q U λU9 I s5 hz a h=>?_;obtain⟨a8,hg⟩:∃g,g=K4.heap.size:=⟨_,rfl⟩;rw[<-hg]at I h hz;have j3:b0<a8:=by have:=Z.lt;omega
 have j1:a9<a8:=by have:=O.lt;omega
 have M8:=s5.size;have Z:=Z.ext s5;have O:=O.ext s5;have hC:=hC.next s5;exact z0b<|e8 (a8,a9,b0) _ _ _ kr (h.sub<|csu U) ⟨hC,⟨sm,sm,sm,sm,sm,sm⟩,I,O,Z⟩;rintro⟨a8,a9,b0⟩ a V0 ⟨hC,⟨J8,J9,K0,G4,G5,G6⟩,I,O,Z⟩ h;simp only at J8 J9 K0 G4 G5 G6 I O Z;have G9:=hC;have M9:=G9.size;have S7:=I.lt;have S8:=O.lt;have S9:=Z.lt;refine z0d 18 U<|z0t h U I U y0i ?_ (h1:=t40);intro K5 b3 p5 hz a h;have N0:=p5.size;have O:=O.fr p5;have Z:=Z.fr p5;have hC:=hC.sp p5;have I:Blk K5 a8 _ [_,_]:=b3;clear b3;refine z0b<|z0d 19 U<|z0t h U O U y0i ?_ (h1:=t40);intro K6 b3 p6 hz a h;have N1:=p6.size;have I:=I.fr p6;have Z:=Z.fr p6;have hC:=hC.sp p6;have O:Blk K6 a9 _ [_,_]:=b3;clear b3;refine z0b<|z0d 20 U<|z0t h U Z U y0i ?_ (h1:=t40);intro K7 b3 p7 hz a h;have N2:=p7.size;have I:=I.fr p7;have O:=O.fr p7;have hC:=hC.sp p7;have Z:Blk K7 b0 _ [_,_]:=b3;clear b3;refine z0b<|z0p ?_;clear hC b6 b2;exact bk (h.sub (L':=ll4 1 2 3 4)<|csu U)<|jE ((a8,a9,b0)) (csu U) ⟨(q5.z4 G9 p5 p6 p7),⟨I,O,Z⟩⟩;rintro⟨g2,g3,g4⟩ V1 ⟨l7,⟨I,O,Z⟩⟩;have N3:=l7.size;have I1:=I.lt;have I2:=O.lt;have I3:=Z.lt;simp only at I O Z;refine kpC [(1,_),(2,pta g2),(3,pta g3),(4,pta g4)] (csu U)<|sr<|z1i ([[120,102,101,114,32,102,49,48],[114,97,99,107,32,49],[114,97,99,107,32,48],[120,102,101,114,32,98,49,48]]) (ev4 U) U y4a<|λB0 V2 D8 n9 k1 N4=>(z1i ([[120,102,101,114,32,102,49,48],[114,97,99,107,32,50],[120,102,101,114,32,98,49,48],[114,97,99,107,32,48]]) (ev4 U) U y4a<|λB1 V3 D9 o0 j5 N5=>(z1i ([[120,102,101,114,32,102,49,48],[114,97,99,107,32,51],[120,102,101,114,32,98,49,48],[114,97,99,107,32,48]]) (ev4 U) U y4a<|λB2 V4 E0 o1 i0 N6=>(z1i ([[120,102,101,114,32,102,49,49],[114,97,99,107,32,45,49],[120,102,101,114,32,98,49,49],[114,97,99,107,32,48]]) (ev4 U) U y4a<|λB3 V5 E1 o2 h3 N7=>(z1i ([[120,102,101,114,32,102,49,49],[114,97,99,107,32,45,49],[114,97,99,107,32,48],[120,102,101,114,32,98,49,49]]) (ev4 U) U y4a<|λB4 V6 E2 o3 f6 N8=>?_))));refine z1i ([((some ⟨B0,0,none⟩,4,4),[[120,102,101,114,32,102,49,48],[114,97,99,107,32,49],[114,97,99,107,32,48],[120,102,101,114,32,98,49,48]]),((some ⟨B1,0,none⟩,4,4),[[120,102,101,114,32,102,49,48],[114,97,99,107,32,50],[120,102,101,114,32,98,49,48],[114,97,99,107,32,48]]),((some ⟨B2,0,none⟩,4,4),[[120,102,101,114,32,102,49,48],[114,97,99,107,32,51],[120,102,101,114,32,98,49,48],[114,97,99,107,32,48]]),((some ⟨B3,0,none⟩,4,4),[[120,102,101,114,32,102,49,49],[114,97,99,107,32,45,49],[120,102,101,114,32,98,49,49],[114,97,99,107,32,48]]),((some ⟨B4,0,none⟩,4,4),[[120,102,101,114,32,102,49,49],[114,97,99,107,32,45,49],[114,97,99,107,32,48],[120,102,101,114,32,98,49,49]])]) (z0a U<|z0a U<|z0a U<|z0a U<|z0a U z0f) U k5h<|λR5 K8 E3 u5 f1 N9=>(asg U ?_);have n9:=n9.ext<|j5.n4 i0 h3 f6 f1;have o0:=o0.ext<|i0.n3 h3 f6 f1;have o1:=o1.ext<|h3.n2 f6 f1;have o2:=o2.ext<|f6.n1 f1;have o3:=o3.ext f1;obtain⟨m3,l2⟩:∃L:List (SQ<|List UInt8),L=[((some ⟨B0,0,none⟩,4,4),[[120,102,101,114,32,102,49,48],[114,97,99,107,32,49],[114,97,99,107,32,48],[120,102,101,114,32,98,49,48]]),((some ⟨B1,0,none⟩,4,4),[[120,102,101,114,32,102,49,48],[114,97,99,107,32,50],[120,102,101,114,32,98,49,48],[114,97,99,107,32,48]]),((some ⟨B2,0,none⟩,4,4),[[120,102,101,114,32,102,49,48],[114,97,99,107,32,51],[120,102,101,114,32,98,49,48],[114,97,99,107,32,48]]),((some ⟨B3,0,none⟩,4,4),[[120,102,101,114,32,102,49,49],[114,97,99,107,32,45,49],[120,102,101,114,32,98,49,49],[114,97,99,107,32,48]]),((some ⟨B4,0,none⟩,4,4),[[120,102,101,114,32,102,49,49],[114,97,99,107,32,45,49],[114,97,99,107,32,48],[120,102,101,114,32,98,49,49]])]:=⟨_,rfl⟩;rw[<-l2]at u5;have l6:QAt Enc.str K8 m3:=by rw[l2];exact QAt.five n9.sl o0.sl o1.sl o2.sl o3.sl
 have j9:=u5.sl;have T3:m3.length=5:=by rw[l2];rfl
 have I9:∀i,i<5->(m3.getD i sqs).2=exT.getD i []/\(m3.getD i sqs).1.2.1=4:=by
  rw[l2];intro i hi;rcases(show i=0\/i=1\/i=2\/i=3\/i=4 by omega) with rfl|rfl|rfl|rfl|rfl<;>exact⟨rfl,rfl⟩
 have m5:=l6;have m7:=j9;refine kpL (ll5 1 2 3 4 5) (csu U)<|nn<|sr<|z1i ([]) z0f U y0j<|λB5 V7 E4 o4 i1 O0=>(z1i ([-1]) (ev1 U) U y0j<|λB6 V8 E5 o5 h5 O1=>(z1i ([-1,-2]) (ev2 U) U y0j<|λB7 V9 E6 o6 f7 O2=>(z1i ([1]) (ev1 U) U y0j<|λB8 W0 E7 o7 f2 O3=>(z1i ([1,-1]) (ev2 U) U y0j<|λB9 W1 E8 o8 e4 O4=>(z1i ([((some ⟨B5,0,none⟩,0,0),[]),((some ⟨B6,0,none⟩,1,1),[-1]),((some ⟨B7,0,none⟩,2,2),[-1,-2]),((some ⟨B8,0,none⟩,1,1),[1]),((some ⟨B9,0,none⟩,2,2),[1,-1])]) (z0a U<|z0a U<|z0a U<|z0a U<|z0a U z0f) U el60<|λR6 K9 E9 u6 e0 O5=>?_)))));refine asg U ?_;have o4:=o4.ext<|h5.n4 f7 f2 e4 e0;have o5:=o5.ext<|f7.n3 f2 e4 e0;have o6:=o6.ext<|f2.n2 e4 e0;have o7:=o7.ext<|e4.n1 e0;have o8:=o8.ext e0;obtain⟨r5,l3⟩:∃L:List (SQ Int),L=[((some ⟨B5,0,none⟩,0,0),[]),((some ⟨B6,0,none⟩,1,1),[-1]),((some ⟨B7,0,none⟩,2,2),[-1,-2]),((some ⟨B8,0,none⟩,1,1),[1]),((some ⟨B9,0,none⟩,2,2),[1,-1])]:=⟨_,rfl⟩;rw[<-l3]at u6;have h8:QAt Enc.i64 K9 r5:=by rw[l3];exact QAt.five o4.sl o5.sl o6.sl o7.sl o8.sl
 have h9:=u6.sl;have T4:r5.length=5:=by rw[l3];rfl
 have y1:∀i,i<5->(r5.getD i sqi).2=exW.getD i []:=by
  rw[l3];intro i hi;rcases(show i=0\/i=1\/i=2\/i=3\/i=4 by omega) with rfl|rfl|rfl|rfl|rfl<;>rfl
 have m6:=h8;have m8:=h9;refine kpL (ll6 1 2 3 4 5 6) (csu U)<|nn<|sr ?_;have I:=I.ext<|(((k1.n6 j5 i0 h3 f6 f1 i1).n1 h5).n1 f7).n3 f2 e4 e0;refine z0k U I z2z ?_;have O:=O.ext<|(((k1.n6 j5 i0 h3 f6 f1 i1).n1 h5).n1 f7).n3 f2 e4 e0;refine z0k U O z2z ?_;have Z:=Z.ext<|(((k1.n6 j5 i0 h3 f6 f1 i1).n1 h5).n1 f7).n3 f2 e4 e0;refine z0k U Z z2z<|z1i ([(s.fb.hs.getD 0 id0),(s.fb.hs.getD 1 id0),(s.fb.hs.getD 2 id0)]) (ev3 U) U z4k<|λC0 W2 F0 o9 f8 O6=>?_;have O:=O.ext f8;refine z0k U O z2z ?_;have I:=I.ext f8;refine z0k U I z2z ?_;have Z:=Z.ext f8;refine z0k U Z z2z<|z1i ([(s.fb.hs.getD 1 id0),(s.fb.hs.getD 0 id0),(s.fb.hs.getD 2 id0)]) (ev3 U) U z4k<|λC1 W3 F1 p0 f3 O7=>?_;have O:=O.ext f3;refine z0k U O z2z ?_;have Z:=Z.ext f3;refine z0k U Z z2z ?_;have I:=I.ext f3;refine z0k U I z2z<|z1i ([(s.fb.hs.getD 1 id0),(s.fb.hs.getD 2 id0),(s.fb.hs.getD 0 id0)]) (ev3 U) U z4k<|λC2 W4 F2 p1 e5 O8=>?_;have O:=O.ext e5;refine z0k U O z2z ?_;have I:=I.ext e5;refine z0k U I z2z ?_;have Z:=Z.ext e5;refine z0k U Z z2z<|z1i ([(s.fb.hs.getD 1 id0),(s.fb.hs.getD 0 id0),(s.fb.hs.getD 2 id0)]) (ev3 U) U z4k<|λC3 W5 F3 p3 e3 O9=>?_;have I:=I.ext e3;refine z0k U I z2z ?_;have O:=O.ext e3;refine z0k U O z2z ?_;have Z:=Z.ext e3;refine z0k U Z z2z<|z1i ([(s.fb.hs.getD 0 id0),(s.fb.hs.getD 1 id0),(s.fb.hs.getD 2 id0)]) (ev3 U) U z4k<|λC4 W6 F5 p4 d6 P0=>(z1i ([((some ⟨C0,0,none⟩,3,3),[(s.fb.hs.getD 0 id0),(s.fb.hs.getD 1 id0),(s.fb.hs.getD 2 id0)]),((some ⟨C1,0,none⟩,3,3),[(s.fb.hs.getD 1 id0),(s.fb.hs.getD 0 id0),(s.fb.hs.getD 2 id0)]),((some ⟨C2,0,none⟩,3,3),[(s.fb.hs.getD 1 id0),(s.fb.hs.getD 2 id0),(s.fb.hs.getD 0 id0)]),((some ⟨C3,0,none⟩,3,3),[(s.fb.hs.getD 1 id0),(s.fb.hs.getD 0 id0),(s.fb.hs.getD 2 id0)]),((some ⟨C4,0,none⟩,3,3),[(s.fb.hs.getD 0 id0),(s.fb.hs.getD 1 id0),(s.fb.hs.getD 2 id0)])]) (z0a U<|z0a U<|z0a U<|z0a U<|z0a U z0f) U y3e<|λR7 A3 F6 u7 d3 P1=>(asg U ?_));have o9:=o9.ext<|f3.n4 e5 e3 d6 d3;have p0:=p0.ext<|e5.n3 e3 d6 d3;have p1:=p1.ext<|e3.n2 d6 d3;have p3:=p3.ext<|d6.n1 d3;have p4:=p4.ext d3;obtain⟨m4,l4⟩:∃L:List IQ,L=[((some ⟨C0,0,none⟩,3,3),[(s.fb.hs.getD 0 id0),(s.fb.hs.getD 1 id0),(s.fb.hs.getD 2 id0)]),((some ⟨C1,0,none⟩,3,3),[(s.fb.hs.getD 1 id0),(s.fb.hs.getD 0 id0),(s.fb.hs.getD 2 id0)]),((some ⟨C2,0,none⟩,3,3),[(s.fb.hs.getD 1 id0),(s.fb.hs.getD 2 id0),(s.fb.hs.getD 0 id0)]),((some ⟨C3,0,none⟩,3,3),[(s.fb.hs.getD 1 id0),(s.fb.hs.getD 0 id0),(s.fb.hs.getD 2 id0)]),((some ⟨C4,0,none⟩,3,3),[(s.fb.hs.getD 0 id0),(s.fb.hs.getD 1 id0),(s.fb.hs.getD 2 id0)])]:=⟨_,rfl⟩;rw[<-l4]at u7;have g9:QAt z1g A3 m4:=by rw[l4];exact QAt.five o9.sl p0.sl p1.sl p3.sl p4.sl
 have h0:=u7.sl;have T5:m4.length=5:=by rw[l4];rfl
 have D3:∀i,i<5->(m4.getD i iq0).2=exH.getD i []:=by
  rw[l4];intro i hi;rcases(show i=0\/i=1\/i=2\/i=3\/i=4 by omega) with rfl|rfl|rfl|rfl|rfl<;>(rw[k6,x6,n8];rfl)
 have u2:=g9;have u3:=h0;refine kpL (ll7 1 2 3 4 5 6 7) (csu U)<|nn<|sq<|sr<|asg U ?_;have hG:=r7.ext<|(((((((((((q1.z6 q2 q3 q4 l7 k1 j5).n1 i0).n1 h3).n6 f6 f1 i1 h5 f7 f2).next e4).next e0).next f8).next f3).next e5).next e3).next d6).next d3;have a4:=i5.ext<|(((((((((((q1.z6 q2 q3 q4 l7 k1 j5).n1 i0).n1 h3).n6 f6 f1 i1 h5 f7 f2).next e4).next e0).next f8).next f3).next e5).next e3).next d6).next d3;have a3:=i4.ext<|(((((((((q3.z6 q4 l7 k1 j5 i0 h3).n1 f6).n1 f1).n6 i1 h5 f7 f2 e4 e0).next f8).next f3).next e5).next e3).next d6).next d3;have d1:=k0.ext<|(((((((l7.n6 k1 j5 i0 h3 f6 f1).n1 i1).n1 h5).n6 f7 f2 e4 e0 f8 f3).next e5).next e3).next d6).next d3;have I:=I.ext<|d6.n1 d3;have O:=O.ext<|d6.n1 d3;have Z:=Z.ext<|d6.n1 d3;have l6:=m5.ext<|(((i1.n6 h5 f7 f2 e4 e0 f8).n1 f3).n1 e5).n3 e3 d6 d3;have j9:=m7.ext<|(((i1.n6 h5 f7 f2 e4 e0 f8).n1 f3).n1 e5).n3 e3 d6 d3;have h8:=m6.ext<|f8.n5 f3 e5 e3 d6 d3;have h9:=m8.ext<|f8.n5 f3 e5 e3 d6 d3;have u9:Fr [] w0 A3:=((((((((((((q1.z6 q2 q3 q4 l7 k1 j5).n1 i0).n1 h3).n6 f6 f1 i1 h5 f7 f2).next e4).next e0).next f8).next f3).next e5).next e3).next d6).next d3);have r7:=hG;have i5:=a4;have i4:=a3;have k0:=d1;have C7:=I;have C8:=O;have C9:=Z;have m5:=l6;have m7:=j9;have m6:=h8;have m8:=h9;have u2:=g9;have u3:=h0;have Q7:=u9.size;refine nn<|bl<|lpK (ι:=Nat) (ll7 1 2 3 4 5 6 7) (λi=>[(8,.int .i64 (i:Int))]) (λi w'=>Fr [] A3 w'/\i<=5) (λi=>5-i) 0 (csu U) ⟨l12 _ _,l17 _⟩ ?_;rintro i H7 ⟨a6,Q3⟩;have z44:=a6.size;refine kpC (ll8 1 2 3 4 5 6 7 8) (csu U)<|sq<|sr<|mv U U<|mv U U<|lnS U underlying89<|lt' U<|nn<|cd U (λc1=>?_)<|λc1=>?_;have i8:i<5:=by omega
 obtain⟨J7,U3,G3⟩:=k1p i i8;obtain⟨y4,T7⟩:=I9 i i8;have T8:(m3.getD i sqs).2.length=4:=by rw[y4];exact J7
 have T9:=y1 i i8;have U0:=D3 i i8;refine sk<|tn<|sq<|bl<|sr<|asg U<|nn<|sq<|sr<|asg U ?_;obtain⟨bK,R9⟩:∃b:Nat,b=H7.heap.size:=⟨_,rfl⟩;refine nn<|bl<|lpK (ι:=Nat×Value) (ll8 1 2 3 4 5 6 7 8) (λp_=>[(10,.int .i64 (p_.1:Int)),(9,p_.2)]) (λp_ w'=>Fr [] H7 w'/\p_.1<=4/\Lw.Own z3d 44 bK w' p_.2 ((exP.getD i []).take p_.1)) (λp_=>4-p_.1) (0,_) (csu U) ⟨l12 _ _,⟨l17 _,by rw[l98];exact Own.nil _⟩⟩ ?_;rintro⟨k,vP⟩ W7 ⟨b4,⟨G1,ho⟩⟩;simp only at G1 ho;have z45:=b4.size;refine kpC [(1,_),(2,_),(3,_),(4,_),(5,_),(6,_),(7,_),(8,_),(10,.int .i64 (k:Int)),(9,vP)] (csu U)<|sq<|sr<|mv U U<|mv U U<|mv U U ?_;have j9:=m7.ext<|a6.n1 b4;refine z1b (p:=i) (sqs) U j9 U k5h oo<|λP5 D4=>(z1c U (D4 _ j9) na88<|lnS U underlying88<|lt' U<|kpL (ll11 1 2 3 4 5 6 7 8 9 10 88) (csu U)<|nn<|cd U (λc2=>?_)<|λc2=>?_);have G0:k<4:=by omega
 refine sk<|tn<|sq<|bl<|rg<|mv U U<|mv U U<|mv U U<|z1b (p:=i) (sqs) U j9 U k5h oo<|λP6 D5=>(z1c U (D5 _ j9) na88<|mv U U ?_);have l6:=m5.ext<|a6.n1 b4;refine z1b (p:=k) ([]) U (l6.get (d:=sqs) oo) U y4a oo<|λP7 D6=>(z1c U (D6 _<|l6.get (d:=sqs) oo) na9 ?_);have hG:=r7.ext<|a6.n1 b4;refine cl (ev1 U) (mkC func31) (x8i _ ((exP.getD i []).getD k op0) 0 _ hG (by rw[y4];exact(G3 k G0).1) (by rw[y4];have:=(G3 k G0).2;omega)) U ?_;rintro _ W8 ⟨rfl,y9⟩;have z46:=y9.size;refine z1i ([(exP.getD i []).getD k op0]) (ev1 U) U y0y<|λP8 W9 J3 y2 H0 z47=>?_;have ho:=ho.ext<|y9.n1 H0;have r9:=ho;refine z2k U ho y2.sl y0y (λQ5 X0 ho H1 I0=>?_) (hM:=(by unfold maxLen;simp only[l25,l34,l64];omega)) (hb:=(by simp only[l25,l34,l64];omega));have z48:=H1.size;exact asg U<|kpL (ll10 1 2 3 4 5 6 7 8 9 10) (csu U)<|nl<|bn'<|tn<|rg<|mv U U<|z0v U (wi6 oo)<|asg U<|nl<|lpE ((k+1,_)) (csu U) ⟨((b4.n2 y9 H0).step H1<|λk hk T6=>absurd (r9.blk k hk).1 oo),⟨sm,by rw[z5l op0 oo];exact ho⟩⟩ sm;obtain rfl:k=4:=by omega
 rw[l82 oo]at ho;obtain⟨A9,c9,rfl,S0⟩:=ho.sl.form;refine ex<|te<|te<|xh<|tn<|sr ?_;have d1:=k0.ext<|a6.n1 b4;refine z0k U d1 z7r<|mv U U ?_;have a3:=i4.ext<|a6.n1 b4;have a4:=i5.ext<|a6.n1 b4;refine cl (ev2 U) co6 (z4t s p 50 _ (exP.getD i []) _ a3 hP oo ho.sl a4) U ?_;rintro _ X1 ⟨⟨Q8,ws,h7,R0,rfl,hB⟩,q49⟩;obtain⟨qi,I8,J5,F8,F9⟩:=J1 i i8;obtain⟨rfl,rfl,f4⟩:=hB.ok _ _ I8;have a2:=hB.k.at;have f5:=hB.o.sl;obtain⟨⟨hf,hb⟩,h4,r6⟩:=z3b (show BdOk h7.q.p from f4.BE▸f4.v.inv.B);have F7:h7.fb.hs=(m4.getD i iq0).2:=by rw[D3 i i8,<-J5];exact f4.hsE
 have Q4:=f4.hl;have U2:=j8m i i8;have z49:=q49.size;have x4:=a2;have x5:=f5;refine mv U U<|xt U<|xt U<|xt U<|al y6l U<|λR2 X2 Q0 b1 e6 z50=>?_;refine asg U<|z0i (vs:=[_,_,_,_,_,_,_,_]) U b1 z9m (λX3 b1 e7 z51=>?_) (h1:=t40);refine asg U ?_;have I7:=b1;refine kpL (ll11 1 2 3 4 5 6 7 8 11 12 13) (csu U)<|nn<|sq<|sq ?_;have h8:=m6.ext<|a6.z4 b4 q49 e6 e7;have h9:=m8.ext<|a6.z4 b4 q49 e6 e7;have g9:=u2.ext<|a6.z4 b4 q49 e6 e7;have h0:=u3.ext<|a6.z4 b4 q49 e6 e7;have a2:=x4.ext<|e6.z1 e7;have f5:=x5.ext<|e6.z1 e7;intro a h;refine z0h none (λwb w'=>Fr [] wb w') z2r ?_;intro H8 d7;have z52:=d7.size;have h8:=h8.ext d7;have h9:=h9.ext d7;have g9:=g9.ext d7;have h0:=h0.ext d7;have a2:=a2.ext d7;have f5:=f5.ext d7;have b1:=b1.ext d7;have hC:Fr [] H8 H8:=l12 _ _;have x2:=h8;have m9:=h9;have x3:=g9;have n7:=h0;have b5:=a2;have r8:=f5;have a7:=b1;refine z0e 0 h U λa h=>u0n 1 hC h wn U U U U λa h=>z0e 2 h U λa h=>?_;first|refine z8k (D:=111) h U (λhh=>absurd hh (by exact λh=>h U)) ?_|refine z6z (D:=111) h U (λhh=>absurd hh (by exact λh=>h U)) ?_
 clear h;intro g0 h;refine z0e 3 h U ?_ (hG:=(wy U));intro a h;refine z0e 4 h U ?_ (hG:=(wy U));intro a h;refine z0e 5 h U ?_ (hG:=(wy U));intro a h;refine z1e (p:=i) (sqi) 6 h U h9 U el60 U ?_ (hG:=(wy U));intro I4 x7 a h;refine z2g 7 h U (λ_ hw=>x7 _<|m9.ext hw) k1u U ?_ (hG:=(wy U));intro a h;refine z0d 8 U<|z4p h U U U U<|z0n h (z0a U<|z0a U z0f) (mkC func14) (v8y _ _ (exW.getD i []) (r5.getD i sqi).2 _ f5 (h8.get (d:=sqi) oo) oo) ?_;rintro _ X4 ⟨rfl,d4⟩ a h;have z53:=d4.size;have g9:=g9.ext d4;have h0:=h0.ext d4;have a2:=a2.ext d4;have hC:=hC.next d4;refine z0b<|y1e 9 hC h (wy U) U U λa h=>z0d 10 U<|z2u h U λa h=>?_;refine z0b<|z0e 11 h U λa h=>?_;first|refine z8k (D:=120) h U (λhh=>absurd hh (by exact λh=>h (y1 i i8).symm)) ?_|refine z6z (D:=120) h U (λhh=>absurd hh (by exact λh=>h (y1 i i8).symm)) ?_
 clear h;intro g1 h;refine z0c 12 h U z6t U ?_ (hG:=(wy U));intro a h;refine z4y 13 h U z9f U ?_ (hG:=(wy U));intro a h;refine z0m 14 h U (λ_ hw=>a7.ext hw) U z6f U ?_ (hG:=(wy U));intro a h;refine z0e 15 h U ?_ (hG:=(wy U));intro a h;refine z0e 16 h U ?_ (hG:=(wy U));intro a h;refine z1e (p:=i) (iq0) 17 h U h0 U y3e U ?_ (hG:=(wy U));intro I5 x8 a h;refine z2g 18 h U (λ_ hw=>x8 _<|n7.ext hw) z6f U ?_ (hG:=(wy U));intro a h;refine z0d 19 U<|z4p h U U U U<|z0n h (z0a U<|z0a U z0f) k2u (z9v _ _ h7.fb.hs (m4.getD i iq0).2 _ a2.f.h (QAt.get g9 (d:=iq0) oo) oo) ?_;rintro _ X5 ⟨rfl,d5⟩ a h;have z54:=d5.size;have h8:=h8.ext<|d4.n1 d5;have h9:=h9.ext<|d4.n1 d5;have g9:=g9.ext d5;have h0:=h0.ext d5;have a2:=a2.ext d5;have f5:=f5.ext<|d4.n1 d5;have b1:=b1.ext<|d4.n1 d5;have hC:=hC.next d5;refine z0b<|y1e 20 hC h (wy U) U U λa h=>z0d 21 U<|z2u h U λa h=>?_;refine z0b<|z0p ?_;clear hC x2 m9 x3 n7 b5 r8 a7;refine bk (h.sub (L':=ll10 1 2 3 4 5 6 7 8 12 130)<|csu U)<|tn<|cd U (λc3=>?_)<|λc3=>?_;exact absurd F7 c3;refine sk<|tn<|sq ?_;have I:=C7.ext<|(a6.z6 b4 q49 e6 e7 d7 d4).n1 d5;have O:=C8.ext<|(a6.z6 b4 q49 e6 e7 d7 d4).n1 d5;have Z:=C9.ext<|(a6.z6 b4 q49 e6 e7 d7 d4).n1 d5;intro a h;refine z0h none (λwb w'=>Fr [] wb w') z2r ?_;intro H9 h6;have z55:=h6.size;have I:=I.ext h6;have O:=O.ext h6;have Z:=Z.ext h6;have a2:=a2.ext h6;have b1:=b1.ext h6;have hC:Fr [] H9 H9:=l12 _ _;have d9:=I;have e9:=O;have f0:=Z;have b5:=a2;have a7:=b1;refine z0e 0 h U λa h=>x4x 1 hC h wn U λa h=>z0e 2 h U λa h=>gSp (D:=133) h U ?_ ?_;intro g2 h;refine z0c 3 h U z7m U ?_ (hG:=(wy U));intro a h;refine z1h (vs:=[_,_]) 4 h U (λ_ hw=>(a7.ext hw)) z5a U U ?_ (hG:=(wy U));intro a h;refine z3f (cs:=[_,_]) 5 h (z0a U z0f) y7p (z0g U z0r) U U ?_ (hG:=(wy U));intro a h;refine z0x 7 h U (λ_ hw=>d9.ext hw) z2z U ?_ (hG:=(wy U));intro a h;refine z0x 8 h U (λ_ hw=>f0.ext hw) z2z U ?_ (hG:=(wy U));intro a h;refine z1w 6 9 kr U ?_ ?_;refine z4p h U U U U<|z0n h (z0a U<|z0a U z0f) v6v (y6u h7.q 0 12 _ a2.b oo hf hb h4 r6) ?_;rintro H3 X6 ⟨b7,z0⟩ a h;have z56:=z0.size;have hC:=hC.next z0;rw[show h7.q.p.atC 0 12=[xa,xc] from by rw[f4.BE,y1g (show z4d 0 12=0 by decide)];exact F8 t64]at b7;obtain⟨A5,A7,rfl,x9⟩:=b7.sl.form;refine z0b<|z0d 9 U<|z4p h U U U U<|z2b ([(s.fb.hs.getD 0 id0),(s.fb.hs.getD 2 id0)]) h (z0a U<|z0a U z0f) U z4k λx0 X7 hg h2 s6 hz a h=>?_;have z57:=s6.size;have b7:=b7.ext s6;have hC:=hC.next s6;refine z0b<|z0d 10 U<|z4p h U U U U<|z0n h (z0a U<|z0a U z0f) k2u (z9v _ _ [xa,xc] [(s.fb.hs.getD 0 id0),(s.fb.hs.getD 2 id0)] _ b7.sl h2.sl dd) ?_;rintro _ X8 ⟨rfl,A0⟩ a h;have z58:=A0.size;have hC:=hC.next A0;refine z0b<|y1e 11 hC h (wy U) U U λa h=>z0d 12 U<|z4q h U λa h=>?_;refine z0b<|z0e 13 h U λa h=>?_;first|refine z8k (D:=144) h U (λhh=>absurd hh (by exact λh=>h (by rw[k6,n8]))) ?_|refine z6z (D:=144) h U (λhh=>absurd hh (by exact λh=>h (by rw[k6,n8]))) ?_
 clear h;intro g3 h;refine z0e 14 h U ?_ (hG:=(wy U));intro a h;refine x4x 15 hC h (wy U) U λa h=>z0e 16 h U ?_ (hG:=(wy U));intro a h;first|refine z8k (D:=147) h U (λhh=>absurd hh oo) ?_|refine z6z (D:=147) h U (λhh=>absurd hh oo) ?_
 clear h;intro g4 h;refine z1n 17 h U U λa h=>z1n 18 h U U λa h=>z1n 19 h U U λa h=>z1n 20 h U U λa h=>z1n 21 h U U λa h=>z1n 22 h U U λa h=>z1n 23 h U U λa h=>z1n 24 h U U λa h=>z1n 25 h U U λa h=>z0d 26 U<|tW h<|kY U<|pkf U ?_;intro a h;refine z0b<|z0d 27 U<|z2u h U λa h=>?_;refine z0b<|z0p ?_;clear hC d9 e9 f0 b5 a7;exact bk (h.sub (L':=ll9 1 2 3 4 5 6 7 8 158)<|csu U)<|tn<|cf U<|sk<|bn'<|tn<|rg<|mv U U<|z0v U (wi6 oo)<|asg U<|nl<|lpE ((i+1)) (csu U) ⟨((((a6.z6 b4 q49 e6 e7 d7 d4).n1 d5).n1 h6).n3 z0 s6 A0),oo⟩ oo;refine z4p h U U U U<|z2b ([(s.fb.hs.getD 0 id0),(s.fb.hs.getD 2 id0)]) h (z0a U<|z0a U z0f) U z4k λx0 X9 hg h2 s7 hz a h=>?_;have z59:=s7.size;have a2:=a2.ext s7;have hC:=hC.next s7;refine z0b<|z0d 6 U<|z4p h U U U U<|z0n h (z0a U<|z0a U z0f) v6v (y6u h7.q 0 12 _ a2.b oo hf hb h4 r6) ?_;rintro H3 Y0 ⟨b7,s8⟩ a h;have z60:=s8.size;have h2:=h2.ext s8;have hC:=hC.next s8;rw[show h7.q.p.atC 0 12=[xa,xc] from by rw[f4.BE,y1g (show z4d 0 12=0 by decide)];exact F8 t64]at b7;obtain⟨A5,A7,rfl,x9⟩:=b7.sl.form;refine z0b<|z0d 10 U<|z4p h U U U U<|z0n h (z0a U<|z0a U z0f) k2u (z9v _ _ [xa,xc] [(s.fb.hs.getD 0 id0),(s.fb.hs.getD 2 id0)] _ b7.sl h2.sl dd) ?_;rintro _ Y1 ⟨rfl,A1⟩ a h;have z61:=A1.size;have hC:=hC.next A1;refine z0b<|y1e 11 hC h (wy U) U U λa h=>z0d 12 U<|z4q h U λa h=>?_;refine z0b<|z0e 13 h U λa h=>?_;first|refine z8k (D:=144) h U (λhh=>absurd hh (by exact λh=>h (by rw[k6,n8]))) ?_|refine z6z (D:=144) h U (λhh=>absurd hh (by exact λh=>h (by rw[k6,n8]))) ?_
 clear h;intro g5 h;refine z0e 14 h U ?_ (hG:=(wy U));intro a h;refine x4x 15 hC h (wy U) U λa h=>z0e 16 h U ?_ (hG:=(wy U));intro a h;first|refine z8k (D:=147) h U (λhh=>absurd hh oo) ?_|refine z6z (D:=147) h U (λhh=>absurd hh oo) ?_
 clear h;intro g6 h;refine z1n 17 h U U λa h=>z1n 18 h U U λa h=>z1n 19 h U U λa h=>z1n 20 h U U λa h=>z1n 21 h U U λa h=>z1n 22 h U U λa h=>z1n 23 h U U λa h=>z1n 24 h U U λa h=>z1n 25 h U U λa h=>z0d 26 U<|tW h<|kY U<|pkf U ?_;intro a h;refine z0b<|z0d 27 U<|z2u h U λa h=>?_;refine z0b<|z0p ?_;clear hC d9 e9 f0 b5 a7;exact bk (h.sub (L':=ll9 1 2 3 4 5 6 7 8 158)<|csu U)<|tn<|cf U<|sk<|bn'<|tn<|rg<|mv U U<|z0v U (wi6 oo)<|asg U<|nl<|lpE ((i+1)) (csu U) ⟨((((a6.z6 b4 q49 e6 e7 d7 d4).n1 d5).n1 h6).n3 s7 s8 A1),oo⟩ oo;intro g2 h;refine z1n 3 h U U λa h=>z1n 4 h U U λa h=>z1n 5 h U U λa h=>z1n 6 h U U λa h=>z1n 7 h U U λa h=>z1n 8 h U U λa h=>z1n 9 h U U λa h=>z1n 10 h U U λa h=>z1n 11 h U U λa h=>z0d 12 U<|z2u h U λa h=>?_;refine z0b<|z0e 13 h U λa h=>z0e 14 h U ?_ (hG:=(wy U));intro a h;refine x4x 15 hC h (wy U) U λa h=>z0e 16 h U ?_ (hG:=(wy U));intro a h;refine gSp (D:=147) h U ?_ ?_;intro g7 h;refine z0c 17 h U z7m U ?_ (hG:=(wy U));intro a h;refine z1h (vs:=[_,_]) 18 h U (λ_ hw=>(a7.ext hw)) z5a U U ?_ (hG:=(wy U));intro a h;refine z3f (cs:=[_,_]) 19 h (z0a U z0f) y7p (z0g U z0r) U U ?_ (hG:=(wy U));intro a h;refine z0x 21 h U (λ_ hw=>e9.ext hw) z2z U ?_ (hG:=(wy U));intro a h;refine z0x 22 h U (λ_ hw=>d9.ext hw) z2z U ?_ (hG:=(wy U));intro a h;refine z1w 20 23 kr U ?_ ?_;refine z4p h U U U U<|z0n h (z0a U<|z0a U z0f) v6v (y6u h7.q 0 10 _ a2.b oo hf hb h4 r6) ?_;rintro H4 Y2 ⟨a5,k2⟩ a h;have z62:=k2.size;have hC:=hC.next k2;rw[show h7.q.p.atC 0 10=[xb,xa] from by rw[f4.BE,y1g (show z4d 0 10=0 by decide)];exact F9 t64]at a5;obtain⟨A6,A8,rfl,y0⟩:=a5.sl.form;refine z0b<|z0d 23 U<|z4p h U U U U<|z2b ([(s.fb.hs.getD 1 id0),(s.fb.hs.getD 0 id0)]) h (z0a U<|z0a U z0f) U z4k λx1 Y3 hg b8 j6 hz a h=>?_;have z63:=j6.size;have a5:=a5.ext j6;have hC:=hC.next j6;refine z0b<|z0d 24 U<|z4p h U U U U<|z0n h (z0a U<|z0a U z0f) k2u (z9v _ _ [xb,xa] [(s.fb.hs.getD 1 id0),(s.fb.hs.getD 0 id0)] _ a5.sl b8.sl dd) ?_;rintro _ Y4 ⟨rfl,i2⟩ a h;have z64:=i2.size;have I:=I.ext<|k2.n2 j6 i2;have O:=O.ext<|k2.n2 j6 i2;have Z:=Z.ext<|k2.n2 j6 i2;have a2:=a2.ext<|k2.n2 j6 i2;have b1:=b1.ext<|k2.n2 j6 i2;have a5:=a5.ext i2;have b8:=b8.ext i2;have hC:=hC.next i2;refine z0b<|y1e 25 hC h (wy U) U U λa h=>z0d 26 U<|tW h<|kY U<|pkt U ?_;intro a h;refine z0b<|z0d 27 U<|z2u h U λa h=>?_;refine z0b<|z0p ?_;clear hC d9 e9 f0 b5 a7;refine bk (h.sub (L':=ll9 1 2 3 4 5 6 7 8 158)<|csu U)<|tn<|cd U (λc4=>?_)<|λc4=>?_;exact absurd (by rw[x6,k6]) c4;exact sk<|bn'<|tn<|rg<|mv U U<|z0v U (wi6 oo)<|asg U<|nl<|lpE ((i+1)) (csu U) ⟨((((a6.z6 b4 q49 e6 e7 d7 d4).n1 d5).n1 h6).n3 k2 j6 i2),oo⟩ oo;refine z4p h U U U U<|z2b ([(s.fb.hs.getD 1 id0),(s.fb.hs.getD 0 id0)]) h (z0a U<|z0a U z0f) U z4k λx1 Y5 hg b8 k4 hz a h=>?_;have z65:=k4.size;have a2:=a2.ext k4;have hC:=hC.next k4;refine z0b<|z0d 20 U<|z4p h U U U U<|z0n h (z0a U<|z0a U z0f) v6v (y6u h7.q 0 10 _ a2.b oo hf hb h4 r6) ?_;rintro H4 Y6 ⟨a5,j7⟩ a h;have z66:=j7.size;have b8:=b8.ext j7;have hC:=hC.next j7;rw[show h7.q.p.atC 0 10=[xb,xa] from by rw[f4.BE,y1g (show z4d 0 10=0 by decide)];exact F9 t64]at a5;obtain⟨A6,A8,rfl,y0⟩:=a5.sl.form;refine z0b<|z0d 24 U<|z4p h U U U U<|z0n h (z0a U<|z0a U z0f) k2u (z9v _ _ [xb,xa] [(s.fb.hs.getD 1 id0),(s.fb.hs.getD 0 id0)] _ a5.sl b8.sl dd) ?_;rintro _ Y7 ⟨rfl,i3⟩ a h;have z67:=i3.size;have I:=I.ext<|k4.n2 j7 i3;have O:=O.ext<|k4.n2 j7 i3;have Z:=Z.ext<|k4.n2 j7 i3;have a2:=a2.ext<|j7.n1 i3;have b1:=b1.ext<|k4.n2 j7 i3;have b8:=b8.ext i3;have a5:=a5.ext i3;have hC:=hC.next i3;refine z0b<|y1e 25 hC h (wy U) U U λa h=>z0d 26 U<|tW h<|kY U<|pkt U ?_;intro a h;refine z0b<|z0d 27 U<|z2u h U λa h=>?_;refine z0b<|z0p ?_;clear hC d9 e9 f0 b5 a7;refine bk (h.sub (L':=ll9 1 2 3 4 5 6 7 8 158)<|csu U)<|tn<|cd U (λc4=>?_)<|λc4=>?_;exact absurd (by rw[x6,k6]) c4;exact sk<|bn'<|tn<|rg<|mv U U<|z0v U (wi6 oo)<|asg U<|nl<|lpE ((i+1)) (csu U) ⟨((((a6.z6 b4 q49 e6 e7 d7 d4).n1 d5).n1 h6).n3 k4 j7 i3),oo⟩ oo;intro g7 h;refine z1n 17 h U U λa h=>z1n 18 h U U λa h=>z1n 19 h U U λa h=>z1n 20 h U U λa h=>z1n 21 h U U λa h=>z1n 22 h U U λa h=>z1n 23 h U U λa h=>z1n 24 h U U λa h=>z1n 25 h U U λa h=>z0d 26 U<|tW h<|kY U<|pkf U ?_;intro a h;refine z0b<|z0d 27 U<|z2u h U λa h=>?_;refine z0b<|z0p ?_;clear hC d9 e9 f0 b5 a7;exact bk (h.sub (L':=ll9 1 2 3 4 5 6 7 8 158)<|csu U)<|tn<|cf U<|sk<|bn'<|tn<|rg<|mv U U<|z0v U (wi6 oo)<|asg U<|nl<|lpE ((i+1)) (csu U) ⟨(((a6.z6 b4 q49 e6 e7 d7 d4).n1 d5).n1 h6),oo⟩ oo;refine ex<|te<|te<|xh<|tn<|sr ?_;have d1:=k0.ext a6;refine z0k U d1 z7r<|z1u (cs:=[_,_,_,_,_,_]) (ev2 U) v5n (z0g U<|z0g U z0r) U ?_;refine z1i ([rkP 5]) (ev1 U) U y0y<|λP9 Y8 J4 y3 k9 z68=>?_;have a3:=i4.ext<|a6.n1 k9;have a4:=i5.ext<|a6.n1 k9;refine cl (ev2 U) co6 (z4t s p 50 _ [rkP 5] _ a3 hP t41 y3.sl a4) U ?_;rintro _ Y9 ⟨⟨Q9,Q6,U4,R1,rfl,C5⟩,q69⟩;have z69:=q69.size;obtain⟨rfl,rfl,rfl⟩:=C5.er _<|y2t J0 dd;refine mv U U<|xt U<|xt U<|xt U<|al y6l U<|λR3 Z0 Q1 u4 p8 z70=>?_;refine asg U<|z0i (vs:=[_,_,_,_,_,_,_,_]) U u4 z9m (λL0 u4 p9 z71=>?_) (h1:=t40);refine asg U<|kpL (ll2 1 16) (csu U)<|nn<|jn (ι:=Unit) (ll1 16) (λ_j=>[(19,.int .i64 13)]) (λ_j w'=>Fr [] L0 w'/\True) (csu U) ?_ ?_;have hG:=r7.ext<|a6.z4 k9 q69 p8 p9;have a4:=i5.ext<|a6.z4 k9 q69 p8 p9;have a3:=i4.ext<|a6.z4 k9 q69 p8 p9;have d1:=k0.ext<|a6.z4 k9 q69 p8 p9;intro a h;refine z0h none (λwb w'=>Fr [] wb w') z2r ?_;intro A4 j8;have z72:=j8.size;have hG:=hG.ext j8;have a4:=a4.ext j8;have a3:=a3.ext j8;have d1:=d1.ext j8;have hC:Fr [] A4 A4:=l12 _ _;have l1:=hG;have i7:=a4;have b6:=a3;have b2:=d1;refine z0x 0 h U (λ_ hw=>b2.ext hw) z7r U λa h=>z1w 1 8 kr U ?_ ?_;refine z0n h (z0a U z0f) (mkC func31) (x8i _ (xfP 0 13) 0 _ hG u8d dd) ?_;rintro _ L1 ⟨rfl,k5⟩ a h;have z73:=k5.size;have hG:=hG.ext k5;have a4:=a4.ext k5;have a3:=a3.ext k5;have hC:=hC.next k5;refine z0b<|z1w 2 8 kr U ?_ ?_;refine z2b ([xfP 0 13]) h (z0a U z0f) U y0y λb9 L2 hg a0 l0 hz a h=>?_;have z74:=l0.size;have hG:=hG.ext l0;have a4:=a4.ext l0;have a3:=a3.ext l0;have hC:=hC.next l0;refine z0b<|z1w 3 8 kr U ?_ ?_;refine z0n h (z0a U<|z0a U z0f) co6 (z4t s p 50 _ [xfP 0 13] _ a3 hP t41 a0.sl a4) ?_;rintro _ L3 ⟨⟨v8,r4,A2,v9,rfl,f9⟩,q75⟩ a h;have z75:=q75.size;have a0:=a0.ext q75;have hC:=hC.next q75;obtain⟨rfl,rfl,rfl⟩:=f9.er _<|y2t l5 dd;refine z0b<|z0e 4 h U λa h=>z0l 5 h U λa h=>z0l 6 h U λa h=>z0l 7 h U λa h=>z0d 8 U<|z0w h y6l U λZ1 a1 s9 hz a h=>?_;obtain⟨d0,hg⟩:∃g,g=L3.heap.size:=⟨_,rfl⟩;rw[<-hg]at a1 h hz;have k7:b9<d0:=by have:=(a0.blk b9 t10).2;omega
 have z76:=s9.size;have a0:=a0.ext s9;have hC:=hC.next s9;refine z0b<|z0d 9 U<|z0q h U λa h=>?_;refine z0b<|z0d 10 U<|z0t h U a1 U z9m ?_ (h1:=t40);intro L4 b3 t8 hz a h;have z77:=t8.size;have a0:=a0.fr t8 t26;have hC:=hC.sp t8;have a1:Blk L4 d0 _ [_,_,_,_,_,_,_,_]:=b3;clear b3;refine z0b<|z0d 11 U<|z0q h U λa h=>?_;refine z0b<|z0p ?_;clear hC l1 i7 b6 b2;exact bk (h.sub (L':=ll2 16 19)<|csu U)<|jE (()) (csu U) ⟨(j8.z5 k5 l0 q75 s9 t8),trivial⟩;refine z0w h y6l U λZ2 a1 l8 hz a h=>?_;obtain⟨d0,hg⟩:∃g,g=L2.heap.size:=⟨_,rfl⟩;rw[<-hg]at a1 h hz;have k7:b9<d0:=by have:=(a0.blk b9 t10).2;omega
 have z78:=l8.size;have a4:=a4.ext l8;have a3:=a3.ext l8;have a0:=a0.ext l8;have hC:=hC.next l8;refine z0b<|z0d 3 U<|z0n h (z0a U<|z0a U z0f) co6 (z4t s p 50 _ [xfP 0 13] _ a3 hP t41 a0.sl a4) ?_;rintro _ Z3 ⟨⟨v8,r4,A2,v9,rfl,f9⟩,q79⟩ a h;have z79:=q79.size;have a0:=a0.ext q79;have a1:=a1.ext q79;have hC:=hC.next q79;obtain⟨rfl,rfl,rfl⟩:=f9.er _<|y2t l5 dd;refine z0b<|z0e 4 h U λa h=>z0l 5 h U λa h=>z0l 6 h U λa h=>z0l 7 h U λa h=>z0d 9 U<|z0q h U λa h=>?_;refine z0b<|z0d 10 U<|z0t h U a1 U z9m ?_ (h1:=t40);intro L5 b3 t9 hz a h;have z80:=t9.size;have a0:=a0.fr t9 t26;have hC:=hC.sp t9;have a1:Blk L5 d0 _ [_,_,_,_,_,_,_,_]:=b3;clear b3;refine z0b<|z0d 11 U<|z0q h U λa h=>?_;refine z0b<|z0p ?_;clear hC l1 i7 b6 b2;exact bk (h.sub (L':=ll2 16 19)<|csu U)<|jE (()) (csu U) ⟨(j8.z5 k5 l0 l8 q79 t9),trivial⟩;refine z0w h y6l U λZ4 a1 q0 hz a h=>?_;obtain⟨d0,hg⟩:∃g,g=L1.heap.size:=⟨_,rfl⟩;rw[<-hg]at a1 h hz;have z81:=q0.size;have hC:=hC.next q0;refine z0b<|z0d 2 U<|z2b ([xfP 0 13]) h (z0a U z0f) U y0y λb9 Z5 hg a0 l9 hz a h=>?_;have k8:d0<b9:=by have:=a1.lt;omega
 have z82:=l9.size;have a4:=a4.ext<|q0.n1 l9;have a3:=a3.ext<|q0.n1 l9;have hC:=hC.next l9;refine z0b<|z0d 3 U<|z0n h (z0a U<|z0a U z0f) co6 (z4t s p 50 _ [xfP 0 13] _ a3 hP t41 a0.sl a4) ?_;rintro _ Z6 ⟨⟨v8,r4,A2,v9,rfl,f9⟩,q83⟩ a h;have z83:=q83.size;have a1:=a1.ext<|l9.n1 q83;have a0:=a0.ext q83;have hC:=hC.next q83;obtain⟨rfl,rfl,rfl⟩:=f9.er _<|y2t l5 dd;refine z0b<|z0e 4 h U λa h=>z0l 5 h U λa h=>z0l 6 h U λa h=>z0l 7 h U λa h=>z0d 9 U<|z0q h U λa h=>?_;refine z0b<|z0d 10 U<|z0t h U a1 U z9m ?_ (h1:=t40);intro L6 b3 u0 hz a h;have z84:=u0.size;have a0:=a0.fr u0 t26;have hC:=hC.sp u0;have a1:Blk L6 d0 _ [_,_,_,_,_,_,_,_]:=b3;clear b3;refine z0b<|z0d 11 U<|z0q h U λa h=>?_;refine z0b<|z0p ?_;clear hC l1 i7 b6 b2;exact bk (h.sub (L':=ll2 16 19)<|csu U)<|jE (()) (csu U) ⟨(j8.z5 k5 q0 l9 q83 u0),trivial⟩;refine z0w h y6l U λZ7 a1 m0 hz a h=>?_;obtain⟨d0,hg⟩:∃g,g=A4.heap.size:=⟨_,rfl⟩;rw[<-hg]at a1 h hz;have z85:=m0.size;have hG:=hG.ext m0;have hC:=hC.next m0;refine z0b<|z0d 1 U<|z0n h (z0a U z0f) (mkC func31) (x8i _ (xfP 0 13) 0 _ hG u8d dd) ?_;rintro _ Z8 ⟨rfl,m1⟩ a h;have z86:=m1.size;have a1:=a1.ext m1;have hC:=hC.next m1;refine z0b<|z0d 2 U<|z2b ([xfP 0 13]) h (z0a U z0f) U y0y λb9 Z9 hg a0 m2 hz a h=>?_;have k8:d0<b9:=by have:=a1.lt;omega
 have z87:=m2.size;have a4:=a4.ext<|m0.n2 m1 m2;have a3:=a3.ext<|m0.n2 m1 m2;have hC:=hC.next m2;refine z0b<|z0d 3 U<|z0n h (z0a U<|z0a U z0f) co6 (z4t s p 50 _ [xfP 0 13] _ a3 hP t41 a0.sl a4) ?_;rintro _ w88 ⟨⟨v8,r4,A2,v9,rfl,f9⟩,q88⟩ a h;have z88:=q88.size;have a1:=a1.ext<|m2.n1 q88;have a0:=a0.ext q88;have hC:=hC.next q88;obtain⟨rfl,rfl,rfl⟩:=f9.er _<|y2t l5 dd;refine z0b<|z0e 4 h U λa h=>z0l 5 h U λa h=>z0l 6 h U λa h=>z0l 7 h U λa h=>z0d 9 U<|z0q h U λa h=>?_;refine z0b<|z0d 10 U<|z0t h U a1 U z9m ?_ (h1:=t40);intro L7 b3 u1 hz a h;have z89:=u1.size;have a0:=a0.fr u1 t26;have hC:=hC.sp u1;have a1:Blk L7 d0 _ [_,_,_,_,_,_,_,_]:=b3;clear b3;refine z0b<|z0d 11 U<|z0q h U λa h=>?_;refine z0b<|z0p ?_;clear hC l1 i7 b6 b2;exact bk (h.sub (L':=ll2 16 19)<|csu U)<|jE (()) (csu U) ⟨(j8.z5 m0 m1 m2 q88 u1),trivial⟩;rintro _u w90 ⟨H2,_⟩;have z90:=H2.size;refine kpC (ll2 16 19) (csu U)<|sq<|rbo (r:=0) (L':=[]) (((1=1)/\(13=13))) .nil ?_ ?_;refine mv U U<|eq' U<|mv U U<|gs 177 U (λg8=>?_)<|λg8=>?_;exact gY U<|mv U U<|gY U<|eq' U<|pkt U<|asg U<|rbe U .nil;exact gN U<|gN U<|pkf U<|asg U<|rbe U .nil;refine tn<|rt<|r1 results9 U ?_;exact⟨_,rfl,by first|rfl|exact congrArg Value.bool<|decide_eq_true sp0,(u9.z6 a6 k9 q69 p8 p9 H2)⟩
end Go.Proofs.YtlfdhllfmoplgaaGreatDoor
namespace Go.G26
open Go.Lw Go.G21 Go.G08
abbrev Asc (l:List Hd):Prop:=l.Pairwise λx y=>x.s<=y.s
theorem v0e {h x:Hd}:∀ {l:List Hd},x∈z9c h l↔x=h\/x∈l
 | []=>by simp[z9c]
 | y::l=>by
  unfold z9c
  split
  ·simp
  simp only[l55,v0e]
  constructor
  ·rintro(e|e|e)
   ·exact .inr<|.inl e
   ·exact .inl e
   exact .inr<|.inr e
  rintro(e|e|e)
  ·exact .inr<|.inl e
  ·exact .inl e
  exact .inr<|.inr e
theorem v0x {h:Hd}:∀ {l:List Hd},Asc l->Asc (z9c h l)
 | [],_=>by simp[z9c,Asc]
 | y::l,a=>by
  unfold z9c
  have I:=l76.1 a
  split
  ·rename_i c
   refine l76.2 ⟨λz D=>?_,a⟩
   rcases l55.1 D with rfl|D
   ·omega
   have:=I.1 z D;omega
  rename_i c
  refine l76.2 ⟨λz D=>?_,v0x I.2⟩
  rcases v0e.1 D with rfl|D
  ·omega
  exact I.1 z D
theorem v1b {h:Hd}{v:Int}:∀ {l:List Hd},Asc l->(z9c h l).filter (λx=>decide (x.s=v))=l.filter (λx=>decide (x.s=v))++(if h.s=v then [h] else [])
 | [],_=>by simp only[z9c,l57,List.filter_nil,l46,decide_eq_true_eq]
 | y::l,a=>by
  have I:=l76.1 a
  unfold z9c
  split
  ·rename_i c
   by_cases e:h.s=v
   ·have n:(y::l).filter (λx=>decide (x.s=v))=[]:=List.filter_eq_nil_iff.2 λz D=>by
     have:h.s<z.s:=by
      rcases l55.1 D with rfl|D
      ·exact c
      have:=I.1 z D;omega
     simp only[decide_eq_true_eq];omega
    rw[l57,n,if_pos (by simpa using e),if_pos e,l46]
   rw[l57 (x:=h),if_neg (by simpa using e),if_neg e,l27]
  rw[l57,l57,v1b I.2]
  split<;>simp
theorem x1n {v:Int}:∀ {l a:List Hd},Asc a->Asc (l.foldl (λa h=>z9c h a) a)/\(l.foldl (λa h=>z9c h a) a).filter (λx=>decide (x.s=v))=a.filter (λx=>decide (x.s=v))++l.filter (λx=>decide (x.s=v))
 | [],a,h=>⟨h,sp0⟩
 | x::l,a,h=>by
  obtain⟨D,I⟩:=x1n (v:=v) (l:=l)<|v0x (h:=x) h
  refine⟨D,?_⟩
  rw[List.foldl_cons,I,v1b h,l57,l14]
  congr 1
  by_cases e:x.s=v
  ·rw[if_pos e,if_pos (by simpa using e)];rfl
  rw[if_neg e,if_neg (by simpa using e)];rfl
theorem u2d (B:Bd)(r:Int):Asc (z2l B r):=(x1n (v:=0) (l:=x8c B r) (a:=[]) List.Pairwise.nil).1
theorem v1p (B:Bd)(r v:Int):(z2l B r).filter (λx=>decide (x.s=v))=(x8c B r).filter (λx=>decide (x.s=v)):=by
 have:=(x1n (v:=v) (l:=x8c B r) (a:=[]) List.Pairwise.nil).2;unfold z2l z5r;simpa using this
theorem u0d:∀ {l:List Hd} {a:Int},Asc l->(∀x∈l,a<=x.s)->l=l.filter (λx=>decide (x.s=a))++l.filter (λx=>decide (x.s≠a))
 | [],_,_,_=>by simp
 | x::l,a,h,hb=>by
  have I:=l76.1 h
  have D:=u0d I.2 λy O=>hb y<|l38 _ O
  by_cases e:x.s=a
  ·rw[l57,if_pos (by simpa using e),l57 (p:=λx:Hd=>decide (x.s≠a)),if_neg (by simpa using e),l72,<-D]
  have n:l.filter (λx=>decide (x.s=a))=[]:=List.filter_eq_nil_iff.2 λz Z=>by
   have h2:=I.1 z Z
   have h3:=hb x l43
   simp only[decide_eq_true_eq];omega
  rw[n,l46]at D
  rw[l57,if_neg (by simpa using e),n,l46,l57,if_pos (by simpa using e),<-D]
theorem x8v:∀ {n:Nat} {l:List Hd} {a:Int},Asc l->(∀x∈l,a<=x.s/\x.s<a+n)->l=(List.range n).flatMap λ(i:Nat)=>l.filter (λx=>decide (x.s=a+(i:Int)))
 | 0,l,a,_,hb=>by
  cases l with
  | nil=>rfl
  | cons x l=>have:=hb x l43;omega
 | n+1,l,a,h,hb=>by
  have e1:=u0d h λx D=>(hb x D).1
  have Z:=x8v (n:=n) (l:=l.filter (λx=>decide (x.s≠a))) (a:=a+1) (h.filter _) λx D=>by
   obtain⟨I,O⟩:=l99.1 D
   have:=hb x I
   have:x.s≠a:=by simpa using O
   omega
  rw[List.range_succ_eq_map,l36,l101]
  show l=l.filter (λx=>decide (x.s=a+((0:Nat):Int)))++_
  rw[show a+((0:Nat):Int)=a by omega]
  refine e1.trans ?_
  congr 1
  refine Z.trans ?_
  congr 1
  funext i
  rw[List.filter_filter]
  congr 1
  funext x
  rw[show a+((i+1:Nat):Int)=a+1+(i:Int) by omega]
  by_cases e:x.s=a+1+(i:Int)
  ·have:x.s≠a:=by omega
   simp[e];omega
  simp[e]
theorem flat_one {α:Type}{X:List α}:∀ {n k:Nat},((List.range n).flatMap λi=>if i=k then X else [])=if k<n then X else []
 | 0,k=>by simp
 | n+1,k=>by
  rw[l70,l41,flat_one (n:=n) (k:=k)]
  simp only[l36,l108,l27]
  by_cases e:n=k
  ·subst e;simp
  rw[if_neg e,l27]
  by_cases h:k<n
  ·rw[if_pos h,if_pos oo]
  rw[if_neg h,if_neg oo]
theorem j5t (b r v:Int)(l:Bed)(i:Nat):(hds b r l i).filter (λx=>decide (x.s=v))=(List.range i).flatMap λ(k:Nat)=>if z2f b ((k:Int)+1) r=v then (l.getD k []).map (hdS b r k) else []:=by
 unfold hds;rw[List.filter_flatMap];congr 1;funext k;by_cases e:z2f b ((k:Int)+1) r=v;rw[if_pos e];refine List.filter_eq_self.2 λx D=>?_;obtain⟨y,_,rfl⟩:=l54.1 D;exact decide_eq_true e;rw[if_neg e];refine List.filter_eq_nil_iff.2 λx D=>?_;obtain⟨y,_,rfl⟩:=l54.1 D;exact λh=>e<|of_decide_eq_true h
theorem z5w {α β:Type}{f g:α->List β}:∀ {l:List α},(∀x∈l,f x=g x)->l.flatMap f=l.flatMap g
 | [],_=>rfl
 | x::l,h=>by rw[l36,l36,h x l43,z5w λy D=>h y<|l38 _ D]
theorem y9w (b r v:Int)(l:Bed)(i:Nat):((hds b r l i).filter (λx=>decide (x.s=v))).map Hd.id=(List.range i).flatMap λ(k:Nat)=>if z2f b ((k:Int)+1) r=v then l.getD k [] else []:=by
 rw[j5t,List.map_flatMap];congr 1;funext k;split;rw[l80];exact(l114 λx _=>rfl).trans<|List.map_id _;rfl
def stk (l:Bed)(n:Int):List LId:=if 1<=n/\n<=40 then l.getD (n-1).toNat [] else []
theorem x5i {n r:Int}(hn:1<=n/\n<=40)(D:-4<=r/\r<=4):z2f 0 n r=4*n+2:=by
 unfold z2f;rw[if_neg,if_pos U];intro h;rcases h with h|h
 exact h<|y5i ⟨.inl U,hn.1,hn.2⟩;exact h D
theorem x5l {n r:Int}(hn:1<=n/\n<=40)(D:-4<=r/\r<=4):z2f 1 n r=4*(n+r):=by
 unfold z2f;rw[if_neg,if_neg dd];intro h;rcases h with h|h
 exact h<|y5i ⟨.inr U,hn.1,hn.2⟩;exact h D
theorem z9x {b r v n:Int}{l:Bed}(hl:l.length<=40)(O:∀m:Int,1<=m->m<=40->(z2f b m r=v↔m=n)):((hds b r l l.length).filter (λx=>decide (x.s=v))).map Hd.id=stk l n:=by
 rw[y9w];unfold stk;by_cases hn:1<=n/\n<=40;rw[if_pos hn,z5w (g:=λ(k:Nat)=>if k=(n-1).toNat then l.getD (n-1).toNat [] else []) (λk D=>by
  have I:=l100.1 D;have h:=O ((k:Int)+1) oo oo;by_cases e:z2f b ((k:Int)+1) r=v;have e2:k=(n-1).toNat:=by have:=h.1 e;omega
  rw[if_pos e,if_pos e2,<-e2];rw[if_neg e,if_neg (λe2=>e<|h.2 oo)]),flat_one]
 split;rfl;rw[List.getD,l30 oo];rfl;rw[if_neg hn];refine List.flatMap_eq_nil_iff.2 λk D=>?_;have I:=l100.1 D;rw[if_neg];intro h;have:=(O ((k:Int)+1) oo oo).1 h;omega
theorem z5u {l:Bed}{n:Int}(h:¬(1<=n/\n<=40):=by omega):stk l n=[]:=if_neg h
theorem x3j {α:Type}{f:Nat->List α}:∀n:Nat,(List.range<|4*n).flatMap f=(List.range n).flatMap λj=>f (4*j)++f (4*j+1)++f (4*j+2)++f (4*j+3)
 | 0=>rfl
 | n+1=>by
  rw[show 4*(n+1)=4*n+1+1+1+1 by omega,l70,l70,l70,l70,l70 (n:=n)]
  simp only[l41,x3j n,l36,l108,l27,l14]
theorem y5a {B:Bd}{r:Int}(hf:B.f.length<=40)(hb:B.b.length<=40)(O:-4<=r/\r<=4):(z2l B r).map Hd.id=(List.range 50).flatMap λ(j:Nat)=>stk B.b ((j:Int)-3-r)++stk B.f ((j:Int)-3):=by
 have a0:∀x∈z2l B r,-12<=x.s/\x.s < -12+((4*50:Nat):Int):=λx hx=>by
  have D:x∈(z2l B r).filter (λy=>decide (y.s=x.s)):=l99.2 ⟨hx,sp0⟩;rw[v1p]at D;have I:=(l99.1 D).1;unfold x8c hds at I;rcases l23.1 I with h|h
  obtain⟨k,hk,Z⟩:=l68.1 h;obtain⟨y,_,rfl⟩:=l54.1 Z;have a1:=l100.1 hk;show -12<=z2f 0 ((k:Int)+1) r/\z2f 0 ((k:Int)+1) r<_;rw[x5i oo O];omega;obtain⟨k,hk,Z⟩:=l68.1 h;obtain⟨y,_,rfl⟩:=l54.1 Z;have a1:=l100.1 hk;show -12<=z2f 1 ((k:Int)+1) r/\z2f 1 ((k:Int)+1) r<_;rw[x5l oo O];omega
 have e:=x8v (u2d B r) a0;rw[e,List.map_flatMap,x3j];refine z5w λj _=>?_;have a2:∀v:Int,((z2l B r).filter (λx=>decide (x.s=v))).map Hd.id=((hds 0 r B.f B.f.length).filter (λx=>decide (x.s=v))).map Hd.id++((hds 1 r B.b B.b.length).filter (λx=>decide (x.s=v))).map Hd.id:=λv=>by
  rw[v1p];unfold x8c;rw[List.filter_append,l33]
 simp only[a2];rw[z9x (n:=0) hf (λm D I=>by rw[x5i ⟨D,I⟩ O];omega),z9x (n:=(j:Int)-3-r) hb (λm D I=>by rw[x5l ⟨D,I⟩ O];omega),
  z9x (n:=0) hf (λm D I=>by rw[x5i ⟨D,I⟩ O];omega),z9x (n:=0) hb (λm D I=>by rw[x5l ⟨D,I⟩ O];omega),
  z9x (n:=(j:Int)-3) hf (λm D I=>by rw[x5i ⟨D,I⟩ O];omega),z9x (n:=0) hb (λm D I=>by rw[x5l ⟨D,I⟩ O];omega),
  z9x (n:=0) hf (λm D I=>by rw[x5i ⟨D,I⟩ O];omega),z9x (n:=0) hb (λm D I=>by rw[x5l ⟨D,I⟩ O];omega)]
 simp only[z5u (h:=(show ¬(1<=(0:Int)/\(0:Int)<=40) by omega)),l27,l46]
def Adj:List LId->List Cx->List LId->Prop
  | o,[],o'=>o=o'
  | o,c::cs,o'=>∃P S,o=P++c.a::c.b::S/\Adj (P++c.b::c.a::S) cs o'
theorem Adj.app:∀ {cs ds:List Cx} {o o1 D:List LId},Adj o cs o1->Adj o1 ds D->Adj o (cs++ds) D
 | [],_,_,_,_,h1,h2=>by cases h1;exact h2
 | _::_,_,_,_,_,⟨P,S,e,h1⟩,h2=>⟨P,S,e,h1.app h2⟩
theorem k0a {n:Int}{x:LId}:∀ {t P S:List LId},Adj (P++x::(t++S)) (t.map λo=>⟨x,o,n⟩) (P++(t++x::S))
 | [],_,_=>rfl
 | o::t,P,S=>⟨P,t++S,rfl,by
  have:=k0a (n:=n) (x:=x) (t:=t) (P:=P++[o]) (S:=S)
  simpa using this⟩
theorem x3f {n:Int}{t:List LId}:∀ {xs P S:List LId},Adj (P++(xs++(t++S))) ((xs.flatMap λx=>t.reverse.map λo=>(⟨x,o,n⟩:Cx)).reverse) (P++(t++(xs++S)))
 | [],_,_=>rfl
 | x::xs,P,S=>by
  have D:=x3f (n:=n) (t:=t) (xs:=xs) (P:=P++[x]) (S:=S)
  have I:=k0a (n:=n) (x:=x) (t:=t) (P:=P) (S:=xs++S)
  rw[l36,List.reverse_append]
  have e:(t.reverse.map λo=>(⟨x,o,n⟩:Cx)).reverse=t.map λo=>⟨x,o,n⟩:=by rw[<-List.map_reverse,List.reverse_reverse]
  rw[e]
  refine Adj.app (o1:=P++x::(t++(xs++S))) ?_ (by simpa using I)
  simpa using D
theorem j8u {n:Int}{x:LId}:∀ {t P S:List LId},Adj (P++(t++x::S)) (t.reverse.map λo=>⟨o,x,n⟩) (P++x::(t++S))
 | [],_,_=>rfl
 | o::t,P,S=>by
  have D:=j8u (n:=n) (x:=x) (t:=t) (P:=P++[o]) (S:=S)
  rw[List.reverse_cons,l33]
  refine Adj.app (o1:=P++o::x::(t++S)) (by simpa using D) ⟨P,t++S,rfl,?_⟩
  exact U
theorem x4a {n:Int}{t:List LId}:∀ {xs P S:List LId},Adj (P++(t++(xs++S))) (xs.flatMap λx=>t.reverse.map λo=>(⟨o,x,n⟩:Cx)) (P++(xs++(t++S)))
 | [],_,_=>rfl
 | x::xs,P,S=>by
  have D:=j8u (n:=n) (x:=x) (t:=t) (P:=P) (S:=xs++S)
  have I:=x4a (n:=n) (t:=t) (xs:=xs) (P:=P++[x]) (S:=S)
  rw[l36]
  refine Adj.app (o1:=P++x::(t++(xs++S))) (by simpa using D) ?_
  simpa using I
abbrev Bk:=List LId×List LId
theorem j7m {n:Int}:∀ {bs:List Bk} {P:List LId},Adj (P++bs.flatMap λb=>b.1++b.2) ((bs.flatMap λb=>b.1.flatMap λx=>b.2.reverse.map λo=>(⟨x,o,n⟩:Cx)).reverse) (P++bs.flatMap λb=>b.2++b.1)
 | [],_=>rfl
 | b::bs,P=>by
  have D:=j7m (n:=n) (bs:=bs) (P:=P++b.1++b.2)
  have I:=x3f (n:=n) (t:=b.2) (xs:=b.1) (P:=P) (S:=bs.flatMap λb=>b.2++b.1)
  rw[l36,l36,l36,List.reverse_append]
  refine Adj.app (o1:=P++(b.1++(b.2++bs.flatMap λb=>b.2++b.1))) ?_ (by simpa using I)
  simpa using D
theorem k0d {n:Int}:∀ {bs:List Bk} {P:List LId},Adj (P++bs.flatMap λb=>b.2++b.1) (bs.flatMap λb=>b.1.flatMap λx=>b.2.reverse.map λo=>(⟨o,x,n⟩:Cx)) (P++bs.flatMap λb=>b.1++b.2)
 | [],_=>rfl
 | b::bs,P=>by
  have D:=x4a (n:=n) (t:=b.2) (xs:=b.1) (P:=P) (S:=bs.flatMap λb=>b.2++b.1)
  have I:=k0d (n:=n) (bs:=bs) (P:=P++b.1++b.2)
  rw[l36,l36,l36]
  refine Adj.app (o1:=P++(b.1++(b.2++bs.flatMap λb=>b.2++b.1))) (by simpa using D) ?_
  simpa using I
theorem y7f {α:Type}{F:Nat->List α}{n c m:Nat}(hm:n+c<=m)(h1:∀j,j<c->F j=[])(O:∀j,n+c<=j->j<m->F j=[]):(List.range m).flatMap F=(List.range n).flatMap λk=>F (k+c):=by
 obtain⟨e,rfl⟩:∃e,m=n+c+e:=⟨m-(n+c),oo⟩;have D:∀ {k:Nat},k<=e->(List.range<|n+c+k).flatMap F=(List.range<|n+c).flatMap F:=by
  intro k;induction k with
  | zero=>intro _;rfl
  | succ k ih=>
   intro hk;rw[show n+c+(k+1)=(n+c+k)+1 by omega,l70,l41,ih oo];simp only[l36,l108,O (n+c+k) oo oo,l27]
 have I:∀ {k:Nat},(List.range<|k+c).flatMap F=(List.range k).flatMap λk=>F (k+c):=by
  intro k;induction k with
  | zero=>
   rw[l71];exact List.flatMap_eq_nil_iff.2 λj Z=>h1 j<|l100.1 Z
  | succ k ih=>
   rw[show k+1+c=(k+c)+1 by omega,l70,l70,l41,l41,ih];rfl
 rw[D (l20 _),I]
theorem v2g {l:Bed}{k:Nat}(D:k<40):stk l ((k:Int)+1)=l.getD k []:=by
 unfold stk;rw[if_pos oo,show ((k:Int)+1-1).toNat=k by omega]
theorem v8d (B:Bd)(n:Int):B.atC 0 n=stk B.f n:=by
 unfold Bd.atC stk;by_cases h:1<=n/\n<=40;rw[if_pos (y5i ⟨.inl U,h.1,h.2⟩),if_pos h];rfl;rw[if_neg h,if_neg (λe=>h ⟨(z2t e).2.1,(z2t e).2.2⟩)]
theorem u4z {B:Bd}{r d:Int}(hf:B.f.length<=40)(hb:B.b.length<=40)(hr:-4<=r/\r<=4)(hd:d=0\/d=1)(I:-4<=r+stI d/\r+stI d<=4):Adj ((z2l B r).map Hd.id) (z2o B r d) ((z2l B<|r+stI d).map Hd.id):=by
 rw[y5a hf hb hr,y5a hf hb I];rcases hd with rfl|rfl
 have hs:stI 0 = -1:=rfl;rw[hs]at I ⊢;let bs:List Bk:=(List.range 50).map λ(j:Nat)=>(stk B.b<|(j:Int)-2-r,stk B.f<|(j:Int)-3);have e1:((List.range 50).flatMap λ(j:Nat)=>stk B.b ((j:Int)-3-r)++stk B.f ((j:Int)-3))=[]++bs.flatMap λb=>b.2++b.1:=by
  have k:∀n:Nat,((List.range n).flatMap λ(j:Nat)=>stk B.b ((j:Int)-3-r)++stk B.f ((j:Int)-3))++stk B.b ((n:Int)-3-r)=(List.range n).flatMap λ(j:Nat)=>stk B.f ((j:Int)-3)++stk B.b ((j:Int)-2-r):=by
   intro n;induction n with
   | zero=>simp only[List.range_zero,l108,l46];exact z5u
   | succ n ih=>
    rw[l70,l41,l41,<-ih];simp only[l36,l108,l27,l14];rw[show ((n+1:Nat):Int)-3-r=(n:Int)-2-r by omega]
  have D:=k 50;rw[z5u (l:=B.b) (n:=((50:Nat):Int)-3-r),l27]at D;rw[D,l46,l101]
 have e2:((List.range 50).flatMap λ(j:Nat)=>stk B.b ((j:Int)-3-(r + -1))++stk B.f ((j:Int)-3))=[]++bs.flatMap λb=>b.1++b.2:=by
  rw[l46,l101];refine z5w λj _=>?_;rw[show (j:Int)-3-(r + -1)=(j:Int)-2-r by omega]
 have O:z2o B r 0=bs.flatMap λb=>b.1.flatMap λx=>b.2.reverse.map λo=>(⟨o,x,1⟩:Cx):=by
  rw[l101,y7f (n:=B.b.length) (c:=(3+r).toNat) oo (λj hj=>by rw[z5u (l:=B.b)];rfl) (λj h1 h2=>by
   by_cases h:(j:Int)-2-r<=40;have:stk B.b ((j:Int)-2-r)=[]:=by
    unfold stk;rw[if_pos oo,List.getD,l30 oo];rfl
   rw[this];rfl;rw[z5u (l:=B.b)];rfl)]
  unfold z2o x5r;rw[if_neg dd];refine z5w λk Z=>?_;have a0:=l100.1 Z;unfold u1p y1f;rw[if_pos U,v8d,show (((k+(3+r).toNat:Nat):Int)-2-r)=(k:Int)+1 by omega,v2g oo,show (((k+(3+r).toNat:Nat):Int)-3)=(k:Int)+1+r-1 by omega];rfl
 rw[e1,e2,O];exact k0d;have hs:stI 1=1:=rfl;rw[hs]at I ⊢;let bs:List Bk:=(List.range 50).map λ(j:Nat)=>(stk B.b<|(j:Int)-3-r,stk B.f<|(j:Int)-3);have e1:((List.range 50).flatMap λ(j:Nat)=>stk B.b ((j:Int)-3-r)++stk B.f ((j:Int)-3))=[]++bs.flatMap λb=>b.1++b.2:=by
  rw[l46,l101]
 have e2:((List.range 50).flatMap λ(j:Nat)=>stk B.b ((j:Int)-3-(r+1))++stk B.f ((j:Int)-3))=[]++bs.flatMap λb=>b.2++b.1:=by
  have k:∀n:Nat,(List.range n).flatMap (λ(j:Nat)=>stk B.f ((j:Int)-3)++stk B.b ((j:Int)-3-r))=((List.range n).flatMap λ(j:Nat)=>stk B.b ((j:Int)-3-(r+1))++stk B.f ((j:Int)-3))++stk B.b ((n:Int)-3-(r+1)):=by
   intro n;induction n with
   | zero=>simp only[List.range_zero,l108,l46];exact(z5u).symm
   | succ n ih=>
    rw[l70,l41,l41,ih];simp only[l36,l108,l27,l14];rw[show ((n+1:Nat):Int)-3-(r+1)=(n:Int)-3-r by omega]
  have D:=k 50;rw[z5u (l:=B.b) (n:=((50:Nat):Int)-3-(r+1)),l27]at D;rw[l46,l101];exact D.symm
 have O:z2o B r 1=(bs.flatMap λb=>b.1.flatMap λx=>b.2.reverse.map λo=>(⟨x,o,-1⟩:Cx)).reverse:=by
  rw[l101,y7f (n:=B.b.length) (c:=(4+r).toNat) oo (λj hj=>by rw[z5u (l:=B.b)];rfl) (λj h1 h2=>by
   by_cases h:(j:Int)-3-r<=40;have:stk B.b ((j:Int)-3-r)=[]:=by
    unfold stk;rw[if_pos oo,List.getD,l30 oo];rfl
   rw[this];rfl;rw[z5u (l:=B.b)];rfl)]
  unfold z2o x5r;rw[if_pos U];congr 1;refine z5w λk Z=>?_;have a0:=l100.1 Z;unfold u1p y1f;rw[if_neg dd,v8d,show (((k+(4+r).toNat:Nat):Int)-3-r)=(k:Int)+1 by omega,v2g oo,show (((k+(4+r).toNat:Nat):Int)-3)=(k:Int)+1+r by omega];rfl
 rw[e1,e2,O];exact j7m
theorem j7e {P S:List LId}{a:LId}(h:a∉P):y3c (P++a::S) a=(P.length:Int):=by
 unfold y3c;rw[if_pos sp0,List.idxOf_append,if_neg h,List.idxOf_cons_self,l71]
theorem x6v {P S:List LId}{a b:LId}:x2p (P++a::b::S) (P.length+1)=P++b::a::S:=by
 unfold x2p;have e1:(P++a::b::S).getD (P.length+1) id0=b:=by
  rw[List.getD,l28 oo,l123];rfl
 have e2:(P++a::b::S).getD P.length id0=a:=by
  rw[List.getD,l28 oo,l95];rfl
 rw[l83,e1,e2,l52 _ _ oo,l95,l52 _ _ oo,l123];rfl
theorem j1x {P S:List LId}{w:List Int}{c:Cx}(h:c.a∉P):y2v (P++c.a::c.b::S,w) c=(P++c.b::c.a::S,w++[((P.length:Int)+1)*c.n]):=by
 unfold y2v;simp only[j7e h];rw[if_pos ⟨oo,by simp only[l13,l34];omega⟩,show ((P.length:Int)+1).toNat=P.length+1 by omega,x6v]
theorem v3n {P S:List LId}{a b:LId}(h:(P++a::b::S).Nodup):(P++b::a::S).Nodup:=by
 have p:(P++b::a::S).Perm (P++a::b::S):=List.Perm.append_left P<|List.Perm.swap a b S;exact p.nodup_iff.2 h
theorem u7a {P S:List LId}{a:LId}(h:(P++a::S).Nodup):a∉P:=λD=>by
 have:=(l61.1 h).2.2 a D a sp0
 exact this U
def nbr (o:List LId)(a b:LId):Option Nat:=(List.range<|o.length-1).find? λn=>decide (o.getD n id0=a/\o.getD (n+1) id0=b)
def j6p (st:St)(c:Cx):St:=match nbr st.1 c.a c.b with
  | some n=>(x2p st.1<|n+1,st.2++[c.n*((n:Int)+1)])
  | none=>st
theorem v1q {P S:List LId}{a:LId}:(P++a::S).getD P.length id0=a:=by
 rw[List.getD,l28 oo,l95];rfl
theorem x3w {P S:List LId}{a b:LId}:(P++a::b::S).getD (P.length+1) id0=b:=by
 rw[List.getD,l28 oo,l123];rfl
theorem k2x {P S:List LId}{a b:LId}(h:a∉P):nbr (P++a::b::S) a b=some P.length:=by
 unfold nbr;rw[List.find?_range_eq_some];refine⟨by simp only[v1q,x3w];simp,l100.2 (by simp only[l13,l34];omega),λj D=>?_⟩;have I:(P++a::b::S).getD j id0≠a:=λe=>h (by
  rw[List.getD,l44 D,l10 D]at e;exact e▸l109 D)
 rw[decide_eq_false λe=>I e.1];rfl
def y6e (l:List Nat)(k:Nat):List Nat:=(l.set (k-1)<|l.getD k 0).set k<|l.getD (k-1) 0
def flw (l:List Nat)(w:List Int):List Nat:=w.foldl (λl k=>y6e l k.natAbs) l
theorem u7e {f:Nat->LId}{l:List Nat}{k:Nat}(I:1<=k/\k<l.length):x2p (l.map f) k=(y6e l k).map f:=by
 unfold x2p y6e;have e:∀j,j<l.length->(l.map f).getD j id0=f (l.getD j 0):=λj D=>by
  rw[List.getD,List.getD,l24,l10 D];rfl
 rw[e k I.2,e (k-1) oo,l124,l124]
theorem y5c (l:List Nat)(k:Nat):(y6e l k).length=l.length:=by unfold y6e;simp
def sgn (k:Int):Int:=if k<0 then -1 else 1
def lnk:List Nat->List Int->Nat->Nat->Int
  | _,[],_,_=>0
  | l,x::u,i,k=>(if (l.getD (x.natAbs-1) 0=i/\l.getD x.natAbs 0=k)\/(l.getD (x.natAbs-1) 0=k/\l.getD x.natAbs 0=i) then sgn x else 0)+lnk (y6e l x.natAbs) u i k
def crS (cs:List Cx)(a b:LId):Int:=(cs.map λc=>if (c.a=a/\c.b=b)\/(c.a=b/\c.b=a) then c.n else 0).sum
abbrev Sg (cs:List Cx):Prop:=∀c∈cs,c.n=1\/c.n = -1
theorem x3r {f:Nat->LId}:∀ {cs:List Cx} {o o':List LId} {l:List Nat} {w:List Int},o=l.map f->o.Nodup->Adj o cs o'->Sg cs->
    ∃u,z3h (o,w) cs=(o',w++u)/\cs.foldl j6p (o,w)=(o',w++u)/\o'=(flw l u).map f/\(flw l u).length=l.length/\u.length=cs.length/\(∀k∈u,1<=k.natAbs/\k.natAbs<o.length)/\o'.Nodup/\o'.Perm o/\
      ∀i k,i∈l->k∈l->lnk l u i k=crS cs (f i) (f k)
  | [],o,o',l,w,e,hn,h,_=>by
    cases h
    exact⟨[],by simp[z3h],sp0,e,rfl,rfl,λk D=>(by cases D),hn,.refl _,λ_ _ _ _=>rfl⟩
  | c::cs,o,o',l,w,e,hn,⟨P,S,e1,h⟩,hs=>by
    have a0:=hs c l43
    have b3:c.a∉P:=u7a (e1▸hn)
    have h1:=j1x (w:=w) (S:=S) b3
    have b0:o.length=l.length:=by rw[e,l18]
    have b1:P.length+1<l.length:=by rw[<-b0,e1];simp only[l13,l34];omega
    have O:(((P.length:Int)+1)*c.n).natAbs=P.length+1:=by
      rcases a0 with h|h<;>rw[h]<;>omega
    have b4:sgn (((P.length:Int)+1)*c.n)=c.n:=by
      unfold sgn
      rcases a0 with h|h<;>rw[h]
      · rw[if_neg oo]
      · rw[if_pos oo]
    have e2:P++c.b::c.a::S=(y6e l<|P.length+1).map f:=by
      rw[<-u7e ⟨oo,b1⟩,<-e,e1,x6v]
    obtain⟨u,a1,a2,a3,a4,a5,a6,a7,a8,a9⟩:=x3r (w:=w++[((P.length:Int)+1)*c.n]) e2 (v3n (e1▸hn)) h λx O=>hs x<|l38 _ O
    have hf:∀j,j<l.length->f (l.getD j 0)=o.getD j id0:=λj Z=>by
      rw[e,List.getD,List.getD,l24,l10 Z];rfl
    have fa:f (l.getD P.length 0)=c.a:=by rw[hf _ oo,e1,v1q]
    have fb:f (l.getD (P.length+1) 0)=c.b:=by rw[hf _ b1,e1,x3w]
    refine⟨(((P.length:Int)+1)*c.n)::u,?_,?_,?_,?_,?_,?_,a7,?_,?_⟩
    · rw[e1]
      show z3h (y2v (P++c.a::c.b::S,w) c) cs=_
      rw[h1,a1,l14];rfl
    · rw[e1,List.foldl_cons]
      have:j6p (P++c.a::c.b::S,w) c=(P++c.b::c.a::S,w++[((P.length:Int)+1)*c.n]):=by
        unfold j6p
        simp only[k2x b3,x6v,Int.mul_comm]
      rw[this,a2,l14];rfl
    · show o'=(flw (y6e l (((P.length:Int)+1)*c.n).natAbs) u).map f
      rw[O];exact a3
    · show (flw (y6e l (((P.length:Int)+1)*c.n).natAbs) u).length=_
      rw[O,a4,y5c]
    · rw[l34,a5,l34]
    · intro k D
      rcases l55.1 D with rfl|D
      · rw[O];omega
      · have:=a6 k D
        rw[e1];simp only[l13,l34]at this ⊢;omega
    · exact e1▸a8.trans (List.Perm.append_left P (List.Perm.swap ..))
    · intro i k hi D
      have hm:∀ {z},z∈l->z∈y6e l (P.length+1):=λ{z} hz=>by
        obtain⟨j,Z,rfl⟩:=l29 hz
        have g:∀m,m<l.length->l.getD m 0=l[m]!:=λm hm=>by rw[List.getD,l10 hm,List.getElem!_eq_getElem?_getD,l10 hm];rfl
        unfold y6e
        by_cases j1:j=P.length+1
        · refine l116.2 ⟨P.length,?_⟩
          subst j1
          rw[l122 oo,l83,l111 oo,List.getD,l10 Z];rfl
        · by_cases j2:j=P.length
          · refine l116.2 ⟨P.length+1,?_⟩
            subst j2
            rw[l111 t29,l83,List.getD,l10 Z];rfl
          · refine l116.2 ⟨j,?_⟩
            rw[l122 oo,l122 oo,l10 Z]
      have I:∀ {x z},x∈l->z∈l->(f x=f z↔x=z):=λ{x z} O hz=>⟨λhe=>by
        obtain⟨j,Z,rfl⟩:=l29 O
        obtain⟨m,hm,rfl⟩:=l29 hz
        have b2:=hn
        rw[e]at b2
        have:=(List.getElem_inj (h₀:=by rw[l18];exact Z) (h₁:=by rw[l18];exact hm) b2).1 (by rw[List.getElem_map,List.getElem_map];exact he)
        subst this;rfl,λhe=>he▸rfl⟩
      have ga:l.getD P.length 0∈l:=by rw[List.getD,l10 oo];exact l109 oo
      have gb:l.getD (P.length+1) 0∈l:=by rw[List.getD,l10 oo];exact l109 oo
      show (if _ then sgn _ else 0)+lnk (y6e l (((P.length:Int)+1)*c.n).natAbs) u i k=(_::_:List Int).sum
      rw[O,b4,a9 i k (hm hi) (hm D),List.sum_cons,l83]
      congr 1
      have q1:(l.getD P.length 0=i↔c.a=f i):=by rw[<-fa];exact(I ga hi).symm
      have q2:(l.getD P.length 0=k↔c.a=f k):=by rw[<-fa];exact(I ga D).symm
      have q3:(l.getD (P.length+1) 0=i↔c.b=f i):=by rw[<-fb];exact(I gb hi).symm
      have q4:(l.getD (P.length+1) 0=k↔c.b=f k):=by rw[<-fb];exact(I gb D).symm
      simp only[q1,q2,q3,q4]
end Go.G26
namespace Go.G26
open Go.Lw Go.G21 Go.G08 Go.G09
def lkC (l:List Cx)(a b:LId):Int:=z6w l (z5d ⟨a,b,0⟩).1 (z5d ⟨a,b,0⟩).2
theorem v0d {c:Cx}{a b:LId}(h:a≠b):z5d c=z5d ⟨a,b,0⟩↔(c.a=a/\c.b=b)\/(c.a=b/\c.b=a):=by
 have D:=x3d h;have I:=x3d<|l50 h;unfold z5d;by_cases k:0<z6m a b;rw[if_pos (c:=0<z6m (⟨a,b,0⟩:Cx).a (⟨a,b,0⟩:Cx).b) k];by_cases k2:0<z6m c.a c.b;rw[if_pos k2];simp only[l102];constructor;rintro⟨e1,e2⟩;exact .inl ⟨e2,e1⟩;rintro(⟨e1,e2⟩|⟨e1,e2⟩);exact⟨e2,e1⟩;rw[e1,e2]at k2;exact absurd k2<|D.1 k;rw[if_neg k2];simp only[l102];constructor;rintro⟨e1,e2⟩;exact .inr ⟨e1,e2⟩;rintro(⟨e1,e2⟩|⟨e1,e2⟩);rw[e1,e2]at k2;exact absurd k k2;exact⟨e1,e2⟩;rw[if_neg (c:=0<z6m (⟨a,b,0⟩:Cx).a (⟨a,b,0⟩:Cx).b) k];by_cases k2:0<z6m c.a c.b;rw[if_pos k2];simp only[l102];constructor;rintro⟨e1,e2⟩;exact .inr ⟨e2,e1⟩;rintro(⟨e1,e2⟩|⟨e1,e2⟩);rw[e1,e2]at k2;exact absurd k2 k;exact⟨e2,e1⟩;rw[if_neg k2];simp only[l102];constructor;rintro⟨e1,e2⟩;exact .inl ⟨e1,e2⟩;rintro(⟨e1,e2⟩|⟨e1,e2⟩);exact⟨e1,e2⟩;rw[e1,e2]at k2;exact absurd (I.2 k) k2
theorem u1d {a b:LId}(h:a≠b):∀ {cs l l':List Cx},z4e l cs=.ok l'->lkC l' a b=lkC l a b+crS cs a b
 | [],l,l',e=>by cases e;simp[crS]
 | c::cs,l,l',e=>by
  rw[v2h]at e
  cases e1:y3z l c with
  | error x=>rw[e1]at e;cases e
  | ok l1=>
   rw[e1]at e
   have D:=u6g e1 (z5d ⟨a,b,0⟩).1 (z5d ⟨a,b,0⟩).2
   rw[u1d h e]
   unfold lkC crS at *
   rw[D,l32,List.sum_cons]
   by_cases k:(c.a=a/\c.b=b)\/(c.a=b/\c.b=a)
   ·rw[if_pos k,if_pos ((v0d h).2 k)];omega
   rw[if_neg k,if_neg (λe=>k<|(v0d h).1 e)];omega
theorem j1o (B:Bd)(r d:Int):Sg (z2o B r d):=by
 have h:∀c∈x5r B r d B.b.length,c.n=1\/c.n = -1:=λc D=>by
  obtain⟨k,_,I⟩:=l68.1 D;obtain⟨x,_,O⟩:=l68.1 I;obtain⟨o,_,rfl⟩:=l54.1 O;unfold x6a;split;exact .inl U;exact .inr U
 intro c D;unfold z2o at D;split at D;exact h c<|l121.1 D;exact h c D
def j9k (B:Bd)(d:Int):Nat->Int->St->St
  | 0,_,st=>st
  | n+1,r,st=>j9k B d n (r+stI d)<|(z2o B r d).foldl j6p st
def x3g (B:Bd)(r ro:Int)(st:St):St:=j9k B (if ro<r then 0 else 1) (if ro<r then r-ro else ro-r).toNat r st
def y4g:MSt->St->List MOp->St
  | _,st,[]=>st
  | p,st,o::l=>
    let st':=if o.k=3 then x3g p.B p.rk o.r st else st
    match doM p o with
      | .error _=>y4g p st' l
      | .ok q=>y4g q st' l
theorem x3v {p:MSt}(h:MInv p):(z4u p).Nodup:=(y5b p.B p.rk).nodup_iff.2 h.B.nd
theorem v4k:∀ {u v:List Int} {l:List Nat} {i k:Nat},lnk l (u++v) i k=lnk l u i k+lnk (flw l u) v i k
 | [],v,l,i,k=>by simp[lnk,flw]
 | x::u,v,l,i,k=>by
  show (if _ then sgn x else 0)+lnk (y6e l x.natAbs) (u++v) i k=(if _ then sgn x else 0)+lnk (y6e l x.natAbs) u i k+lnk (flw (y6e l x.natAbs) u) v i k
  rw[v4k,Int.add_assoc]
theorem j3b (l:List Nat)(u v:List Int):flw l (u++v)=flw (flw l u) v:=by unfold flw;rw[List.foldl_append]
theorem x7o:∀ {u:List Int} {l:List Nat},(flw l u).length=l.length
 | [],_=>rfl
 | x::u,l=>by show (flw (y6e l x.natAbs) u).length=_;rw[x7o,y5c]
theorem v6w {l:List Nat}{i:Nat}{u:List Int}(hb:∀k∈u,1<=k.natAbs/\k.natAbs<l.length)(hi:i∈l):i∈flw l u:=by
 induction u generalizing l with
 | nil=>exact hi
 | cons x u ih=>
  have O:=hb x l43;refine ih (l:=y6e l x.natAbs) (λk I=>by rw[y5c];exact hb k<|l38 _ I) ?_;obtain⟨j,D,rfl⟩:=l29 hi;unfold y6e;by_cases j1:j=x.natAbs;refine l116.2 ⟨x.natAbs-1,?_⟩;subst j1;rw[l122 oo,l111 oo,List.getD,l10 D];rfl;by_cases j2:j=x.natAbs-1;refine l116.2 ⟨x.natAbs,?_⟩;subst j2;rw[l111 t29,List.getD,l10 D];rfl;refine l116.2 ⟨j,?_⟩;rw[l122 oo,l122 oo,l10 D]
structure Wd (f:Nat->LId) (l:List Nat) (u:List Int) (p q:MSt):Prop where
  ord:z4u q=(flw l u).map f
  bd:∀k∈u,1<=k.natAbs/\k.natAbs<l.length
  lk:∀i k,i∈l->k∈l->f i≠f k->lkC q.cr (f i) (f k)=lkC p.cr (f i) (f k)+lnk l u i k
theorem Wd.app {f:Nat->LId}{l:List Nat}{u v:List Int}{p q r:MSt}(h1:Wd f l u p q)(O:Wd f (flw l u) v q r):Wd f l (u++v) p r:=
 ⟨by rw[O.ord,j3b],λk I=>by
  rcases l23.1 I with h|h
  ·exact h1.bd k h
  ·have:=O.bd k h;rw[x7o]at this;exact this,λi k hi I D=>by
  rw[O.lk i k (v6w h1.bd hi) (v6w h1.bd I) D,h1.lk i k hi I D,v4k];omega⟩
theorem Wd.nil {f:Nat->LId}{l:List Nat}{p q:MSt}(h:z4u q=l.map f)(D:q.cr=p.cr):Wd f l [] p q:=⟨h,λk I=>(by cases I),λi k _ _ _=>by rw[D];show _=_+(0:Int);omega⟩
theorem v3e {f:Nat->LId}{p q:MSt}{d:Int}{l:List Nat}{w:List Int}(h:MInv p)(hd:d=0\/d=1)(hr:-4<=p.rk+stI d/\p.rk+stI d<=4)(e:z5x p d=.ok q)(ho:z4u p=l.map f) :
    ∃u,z3h (z4u p,w) (z2o p.B p.rk d)=(z4u q,w++u)/\(z2o p.B p.rk d).foldl j6p (z4u p,w)=(z4u q,w++u)/\Wd f l u p q:=by
  have Z:q.rk=p.rk+stI d/\q.B=p.B/\z4e p.cr (z2o p.B p.rk d)=.ok q.cr:=by
    unfold z5x at e
    split at e
    · cases e
    · split at e
      · cases e
      · rename_i hh;cases e;exact⟨rfl,rfl,hh⟩
  have ha:=u4z h.B.lf h.B.lb h.rk hd hr
  have O:z4u q=(z2l p.B<|p.rk+stI d).map Hd.id:=by unfold z4u;rw[Z.1,Z.2.1]
  obtain⟨u,h1,h2,h3,_,_,h6,_,_,h9⟩:=x3r (f:=f) (w:=w) (l:=l) ho (x3v h) ha<|j1o _ _ _
  rw[<-O]at h1 h2 h3
  refine⟨u,h1,h2,h3,λk D=>by have:=h6 k D;rw[ho,l18]at this;exact this,λi k hi D I=>?_⟩
  rw[u1d I Z.2.2,h9 i k hi D]
theorem v3o {B:Bd}{r ro:Int}(h:r≠ro)(st:St):z7j B r ro st=z7j B (r+stI (if ro<r then 0 else 1)) ro (z3h st<|z2o B r (if ro<r then 0 else 1)):=by
 unfold z7j;by_cases c:ro<r;simp only[if_pos c];obtain⟨m,I⟩:∃m:Nat,(r-ro).toNat=m+1:=⟨(r-ro).toNat-1,oo⟩;rw[I];have D:stI 0 = -1:=rfl;by_cases c2:ro<r+stI 0;rw[if_pos c2,if_pos c2,show (r+stI 0-ro).toNat=m by rw[D] at *;omega];rfl;rw[if_neg c2,if_neg c2,show (ro-(r+stI 0)).toNat=0 by rw[D] at *;omega,show m=0 by rw[D] at *;omega];rfl;simp only[if_neg c];obtain⟨m,I⟩:∃m:Nat,(ro-r).toNat=m+1:=⟨(ro-r).toNat-1,oo⟩;rw[I];have D:stI 1=1:=rfl;have c2:¬ro<r+stI 1:=by rw[D];omega
 rw[if_neg c2,if_neg c2,show (ro-(r+stI 1)).toNat=m by rw[D] at *;omega];rfl
theorem x9b {B:Bd}{r:Int}{st:St}:z7j B r r st=st:=by
 unfold z7j;rw[if_neg oo,if_neg oo,show (r-r).toNat=0 by omega];rfl
theorem v2v {B:Bd}{r ro:Int}(h:r≠ro)(st:St):x3g B r ro st=x3g B (r+stI (if ro<r then 0 else 1)) ro ((z2o B r (if ro<r then 0 else 1)).foldl j6p st):=by
 unfold x3g;by_cases c:ro<r;simp only[if_pos c];obtain⟨m,I⟩:∃m:Nat,(r-ro).toNat=m+1:=⟨(r-ro).toNat-1,oo⟩;rw[I];have D:stI 0 = -1:=rfl;by_cases c2:ro<r+stI 0;rw[if_pos c2,if_pos c2,show (r+stI 0-ro).toNat=m by rw[D] at *;omega];rfl;rw[if_neg c2,if_neg c2,show (ro-(r+stI 0)).toNat=0 by rw[D] at *;omega,show m=0 by rw[D] at *;omega];rfl;simp only[if_neg c];obtain⟨m,I⟩:∃m:Nat,(ro-r).toNat=m+1:=⟨(ro-r).toNat-1,oo⟩;rw[I];have D:stI 1=1:=rfl;have c2:¬ro<r+stI 1:=by rw[D];omega
 rw[if_neg c2,if_neg c2,show (ro-(r+stI 1)).toNat=m by rw[D] at *;omega];rfl
theorem v2f {B:Bd}{r:Int}{st:St}:x3g B r r st=st:=by
 unfold x3g;rw[if_neg oo,if_neg oo,show (r-r).toNat=0 by omega];rfl
theorem x4r {f:Nat->LId}{r:Int}(hr:-4<=r/\r<=4):∀ {n:Nat} {p q:MSt} {l:List Nat} {w:List Int},MInv p->p.rk-r<=n->r-p.rk<=n->z4l n p r=.ok q->z4u p=l.map f->
    ∃u,z7j p.B p.rk r (z4u p,w)=(z4u q,w++u)/\x3g p.B p.rk r (z4u p,w)=(z4u q,w++u)/\Wd f l u p q
  | 0,p,q,l,w,h,h1,h2,e,ho=>by
    cases e
    have:p.rk=r:=by omega
    rw[<-this,x9b,v2f]
    exact⟨[],t47,t47,Wd.nil ho U⟩
  | n+1,p,q,l,w,h,h1,h2,e,ho=>by
    unfold z4l at e
    by_cases e0:p.rk=r
    · rw[if_pos e0]at e
      cases e
      rw[<-e0,x9b,v2f]
      exact⟨[],t47,t47,Wd.nil ho U⟩
    · rw[if_neg e0]at e
      obtain⟨d,D⟩:∃d:Int,d=if r<p.rk then 0 else 1:=⟨_,rfl⟩
      rw[<-D]at e
      have hd:d=0\/d=1:=by rw[D];split<;>simp
      have Z:-4<=p.rk+stI d/\p.rk+stI d<=4:=by
        have:=h.rk
        rw[D];unfold stI
        split
        · rw[if_pos U];omega
        · rw[if_neg dd];omega
      have I:p.rk+stI d-r<=n/\r-(p.rk+stI d)<=n:=by
        rw[D];unfold stI
        split
        · rw[if_pos U];omega
        · rw[if_neg dd];omega
      split at e
      · cases e
      · rename_i p1 e1
        obtain⟨hi,O⟩:=z7n h Z e1
        have hB:p1.B=p.B:=by
          unfold z5x at e1
          split at e1
          · cases e1
          · split at e1
            · cases e1
            · cases e1;rfl
        obtain⟨u,a1,a2,a3⟩:=v3e (w:=w) h hd Z e1 ho
        obtain⟨v,b1,b2,b3⟩:=x4r (f:=f) hr (w:=w++u) hi (by rw[O];exact I.1) (by rw[O];exact I.2) e a3.ord
        rw[O,hB]at b1 b2
        rw[v3o e0,v2v e0,<-D,a1,a2,b1,b2,l14]
        exact⟨u++v,rfl,rfl,a3.app b3⟩
theorem u4p (B:Bd){n:Int}(h:1<=n/\n<=40):stk B.f n=B.at 0 n:=by unfold stk;rw[if_pos h];rfl
theorem u2x (B:Bd){n:Int}(h:1<=n/\n<=40):stk B.b n=B.at 1 n:=by unfold stk;rw[if_pos h];rfl
theorem v0g (B:Bd){b n:Int}(h:z4d b n=0)(s:List LId){m:Int}:stk (B.put b n s).f m=if 0=b/\m=n then s else stk B.f m:=by
 by_cases hm:1<=m/\m<=40;rw[u4p _ hm,u4p _ hm,y6i B h (y5i ⟨.inl U,hm.1,hm.2⟩)];have D:¬(0=b/\m=n):=λe=>hm (by have:=z2t h;omega);rw[if_neg D,z5u (h:=hm),z5u (h:=hm)]
theorem x9v (B:Bd){b n:Int}(h:z4d b n=0)(s:List LId){m:Int}:stk (B.put b n s).b m=if 1=b/\m=n then s else stk B.b m:=by
 by_cases hm:1<=m/\m<=40;rw[u2x _ hm,u2x _ hm,y6i B h (y5i ⟨.inr U,hm.1,hm.2⟩)];have D:¬(1=b/\m=n):=λe=>hm (by have:=z2t h;omega);rw[if_neg D,z5u (h:=hm),z5u (h:=hm)]
theorem u4x {p q:MSt}{o:MOp}(h:MInv p)(hq:MInv q)(e:doM p o=.ok q)(hk:o.k=7):z4u q=z4u p/\q.cr=p.cr:=by
 have a3:q.cr=p.cr:=by
  obtain⟨hc,e⟩:=x3i e;unfold opM at e;rw[if_neg oo,if_neg oo,if_neg oo,if_neg oo,if_neg oo,if_neg oo,if_pos hk]at e;unfold z8i at e;split at e;cases e;split at e;cases e;split at e;cases e;split at e;cases e;cases e;rfl
 refine⟨?_,a3⟩;have hc:=(x3i e).1;have hn:=(z3s hc).2.2.2.2.1 oo;obtain⟨h1,_,h3,h4,_,h6⟩:=v8z e hk;obtain⟨O,Z,a2⟩:=z2t hn;obtain⟨_,D,I⟩:=z2t h4;unfold z4u;rw[h1,y5a h.B.lf h.B.lb h.rk,y5a hq.B.lf hq.B.lb h.rk,h6];refine z5w λj _=>?_;rw[v0g _ h4,v0g _ hn,x9v _ h4,x9v _ hn];unfold y1w;rcases O with O|O
 rw[O];rw[O]at D I;have ho:z5q 0 o.p p.rk=o.p-p.rk:=rfl;rw[ho]at D I ⊢;have a0:=u4p p.B ⟨Z,a2⟩;have a1:=u2x p.B ⟨D,I⟩;by_cases c:(j:Int)-3=o.p;rw[if_neg (c:=(0:Int)=1-0/\_) oo,if_pos (c:=(0:Int)=0/\_) ⟨rfl,c⟩,if_pos (c:=(1:Int)=1-0/\_) ⟨oo,oo⟩,if_neg (c:=(0:Int)=1) oo,show (1:Int)-0=1 from U,<-a0,<-a1,l27,c];rw[if_neg (c:=(0:Int)=1-0/\_) oo,if_neg (c:=(0:Int)=0/\_) (λx=>c x.2),if_neg (c:=(1:Int)=1-0/\_) (λx=>c oo),if_neg (c:=(1:Int)=0/\_) oo];rw[O];rw[O]at D I;have ho:z5q 1 o.p p.rk=o.p+p.rk:=rfl;rw[ho]at D I ⊢;have a0:=u2x p.B ⟨Z,a2⟩;have a1:=u4p p.B ⟨D,I⟩;by_cases c:(j:Int)-3-p.rk=o.p;rw[if_pos (c:=(0:Int)=1-1/\_) ⟨oo,oo⟩,if_neg (c:=(1:Int)=1-1/\_) oo,if_pos (c:=(1:Int)=1/\_) ⟨rfl,c⟩,if_pos (c:=(1:Int)=1) U,show (1:Int)-1=0 from U,<-a0,<-a1,l46,c,show o.p+p.rk=(j:Int)-3 by omega];rw[if_neg (c:=(0:Int)=1-1/\_) (λx=>c oo),if_neg (c:=(0:Int)=1/\_) oo,if_neg (c:=(1:Int)=1-1/\_) oo,if_neg (c:=(1:Int)=1/\_) (λx=>c x.2)]
theorem v4m {f:Nat->LId}{p q:MSt}{o:MOp}{l:List Nat}{w:List Int}(h:MInv p)(e:doM p o=.ok q)(D:o.k=3\/o.k=7)(ho:z4u p=l.map f) :
    ∃u,(if o.k=3 then z7j p.B p.rk o.r (z4u p,w) else (z4u p,w))=(z4u q,w++u)/\(if o.k=3 then x3g p.B p.rk o.r (z4u p,w) else (z4u p,w))=(z4u q,w++u)/\Wd f l u p q:=by
  rcases D with D|D
  · obtain⟨hc,e⟩:=x3i e
    have Z:=(z3s hc).2.2.2.2.2 D
    unfold opM at e
    rw[if_neg oo,if_neg oo,if_pos D]at e
    have:=h.rk
    rw[if_pos D,if_pos D]
    exact x4r Z (n:=8) h oo oo e ho
  · obtain⟨I,O⟩:=u4x h (z7l h e) e D
    rw[if_neg oo,if_neg oo,I]
    exact⟨[],t47,t47,Wd.nil (I.trans ho) O⟩
theorem x9c {f:Nat->LId}:∀ {m:List MOp} {i:Nat} {p q:MSt} {l:List Nat} {w:List Int},MInv p->(∀o∈m,o.k=3\/o.k=7)->z3u i p m=.ok q->z4u p=l.map f->w.length<=64->
    ∃u,z8n p (z4u p,w) m=(if (w++u).length<=64 then some (z4u q,w++u) else none)/\y4g p (z4u p,w) m=(z4u q,w++u)/\Wd f l u p q
  | [],i,p,q,l,w,h,_,e,I,hw=>by
    cases e
    exact⟨[],by rw[l27,if_pos hw];rfl,by rw[l27];rfl,Wd.nil I U⟩
  | o::m,i,p,q,l,w,h,O,e,I,hw=>by
    unfold z3u at e
    split at e
    · cases e
    · rename_i p1 e1
      obtain⟨u,a1,a2,D⟩:=v4m (w:=w) h e1 (O o l43) I
      unfold z8n y4g
      simp only[a1,a2,e1]
      by_cases c:64<(w++u).length
      · have a0:∀ {m:List MOp} {i:Nat} {p q:MSt} {l:List Nat} {w:List Int},MInv p->(∀o∈m,o.k=3\/o.k=7)->z3u i p m=.ok q->z4u p=l.map f->∃u,y4g p (z4u p,w) m=(z4u q,w++u)/\Wd f l u p q:=by
          intro m
          induction m with
          | nil=>intro i p q l w h _ e I;cases e;exact⟨[],by rw[l27];rfl,Wd.nil I U⟩
          | cons o m ih=>
            intro i p q l w h O e I
            unfold z3u at e
            split at e
            · cases e
            · rename_i p1 e1
              obtain⟨u,_,a2,D⟩:=v4m (w:=w) h e1 (O o l43) I
              unfold y4g
              simp only[a2,e1]
              obtain⟨v,Z,b3⟩:=ih (w:=w++u) (z7l h e1) (λx hx=>O x<|l38 _ hx) e D.ord
              exact⟨u++v,by rw[Z,l14],D.app b3⟩
        obtain⟨v,Z,b3⟩:=a0 (w:=w++u) (z7l h e1) (λx hx=>O x<|l38 _ hx) e D.ord
        refine⟨u++v,?_,by rw[Z,l14],D.app b3⟩
        rw[if_pos c,if_neg]
        rw[<-l14,l13];omega
      · rw[if_neg c]
        obtain⟨v,b1,Z,b3⟩:=x9c (w:=w++u) (z7l h e1) (λx hx=>O x<|l38 _ hx) e D.ord oo
        exact⟨u++v,by rw[b1,l14],by rw[Z,l14],D.app b3⟩
end Go.G26
namespace Go.G26
open Go.Lw Go.G21 Go.G08
theorem u1t {l:List Nat}{k:Nat}(h:1<=k/\k<l.length):∃P a b S,l=P++a::b::S/\P.length=k-1/\y6e l k=P++b::a::S:=by
 obtain⟨m,rfl⟩:∃m,k=m+1:=⟨k-1,oo⟩;have D:m<l.length:=by omega
 refine⟨l.take m,l[m],l[m+1],l.drop<|m+2,?_,t18,?_⟩;rw[<-l31 h.2,<-l31 D,l26];have e:l=l.take m++l[m]::l[m+1]::l.drop (m+2):=by
  rw[<-l31 h.2,<-l31 D,l26]
 have hl:(l.take m).length=m:=by rw[l25];omega
 unfold y6e;have e1:l.getD (m+1) 0=l[m+1]:=by rw[List.getD,l10 h.2];rfl
 have e2:l.getD (m+1-1) 0=l[m]:=by rw[l83,List.getD,l10 D];rfl
 rw[e1,e2,l83];clear e1 e2;generalize l[m]=x,l[m+1]=y at e ⊢;generalize l.take m=P,l.drop (m+2)=S at e hl ⊢;subst e;rw[l52 _ _ oo,hl,l95,l52 _ _ oo,hl,l123];rfl
theorem v6n {l:List Nat}{k:Nat}(h:1<=k/\k<l.length):(y6e l k).Perm l:=by
 obtain⟨P,a,b,S,e,_,e2⟩:=u1t h;rw[e2,e];exact List.Perm.append_left P (List.Perm.swap ..)
theorem x8k:∀ {u:List Int} {l:List Nat},(∀k∈u,1<=k.natAbs/\k.natAbs<l.length)->(flw l u).Perm l
 | [],_,_=>.refl _
 | x::u,l,h=>by
  have I:=h x l43
  show (flw (y6e l x.natAbs) u).Perm l
  exact(x8k (l:=y6e l x.natAbs) λk D=>by rw[y5c];exact h k<|l38 _ D).trans<|v6n I
def prmJ (l:List Nat)(j:Nat):List Nat:=(List.range l.length).map λi=>if l.idxOf i<j then l.idxOf i+1 else 0
def u7l (l:List Nat):List Nat:=prmJ l l.length
theorem z7q {l:List Nat}(hp:l.Perm (List.range l.length)){f:Nat->LId}{i:Nat}(hi:i<l.length):1<=(u7l l).getD i 0/\(u7l l).getD i 0<=l.length/\(l.map f).getD ((u7l l).getD i 0-1) id0=f i:=by
 have D:i∈l:=hp.mem_iff.2<|l100.2 hi;have I:l.idxOf i<l.length:=List.idxOf_lt_length_iff.2 D;have e:(u7l l).getD i 0=l.idxOf i+1:=by
  unfold u7l prmJ;rw[List.getD,l24,List.getElem?_range hi];show (if _ then _ else _)=_;rw[if_pos I]
 rw[e];refine⟨oo,oo,?_⟩;rw[l83,List.getD,l24,l10 I];show f l[l.idxOf i]=f i;rw[List.getElem_idxOf I]
end Go.G26
namespace Go.Proofs.YtlfdhllfmoplgaaGreatDoor
open Go.Lw Go.G21 Go.G08 Go.G09 Go.G26 _root_.Go.Proofs.Tryz
def k3g (n:Nat)(u:List Int):Prop:=∀k∈u,1<=k.natAbs/\k.natAbs<n
theorem j5c (n:Nat)(v:Value)(u:List Int)(w0:World)(I:Sl Enc.i64 w0 v u)(hn:1<=n/\n<=8)(hl:u.length<=64)(hk:k3g n u):Rets prog 42 #[.int .i64 (n:Int),v] w0 λr w'=>r=.int .i64 0/\Fr [] w0 w':=by
 obtain⟨A,c,rfl,a1⟩:=id I.form;refine we [(0,.int .i64 (n:Int)),(1,.slice A u.length c)] func42 U ntmps42 U (.c2 U U) ?_;have O:=I;refine sr<|asg U<|nn<|sq<|sq<|rbo (r:=12) (L':=ll2 0 1) ((((n:Int)<1)\/(8<(n:Int)))) (csu U) ?_ ?_;refine mv U U<|lt' U<|mv U U<|gs 9 U (λg0=>?_)<|λg0=>?_;exact gN U<|gN U<|pkt U<|rbe U<|csu U;exact gY U<|mv U U<|gY U<|gt' U<|pkf U<|rbe U<|csu U;refine tn<|cd U (λc0=>?_)<|λc0=>?_;exfalso;omega;refine sk<|tn<|sq<|sr<|mv U U<|lnS U underlying22<|gt' U<|nn<|cd U (λc1=>?_)<|λc1=>?_;exfalso;omega;refine sk<|tn<|sq<|sr<|mv U U<|lnS U underlying22<|mv U U<|nn<|bl<|lpK (ι:=Nat) (ll3 0 16 17) (λi=>[(18,.int .i64 (i:Int))]) (λi w'=>Fr [] w0 w'/\i<=u.length/\True) (λi=>u.length-i) 0 (csu U) ⟨l12 _ _,⟨l17 _,trivial⟩⟩ ?_;rintro i w1 ⟨Z,⟨hi,_⟩⟩;refine kpC (ll4 0 16 17 18) (csu U)<|sr<|lt' U<|nn<|sq<|cd U (λc2=>?_)<|λc2=>?_;have a2:=hk (u.getD i 0)<|z0z (d:=0) oo;refine sk<|tn<|sq<|bl<|sr ?_;have I:=O.ext Z;refine z1b (0) U I U y0j z1j<|λa0 D=>?_;refine z1c U (D _ I) na3<|asg U<|nn<|sq<|rbo (r:=35) (L':=ll4 0 16 17 18) (((((u.getD i 0)=0)\/((u.getD i 0)<(1-(n:Int))))\/(((n:Int)-1)<(u.getD i 0)))) (csu U) ?_ ?_;refine mv U U<|eq' U<|mv U U<|gs 24 U (λg1=>?_)<|λg1=>?_;exact gN U<|gN U<|gN U<|gN U<|pkt U<|mv U U<|gN U<|gN U<|gN U<|gN U<|pkt U<|rbe U<|csu U;refine gY U<|mv U U<|gY U<|mv U U<|gY U<|z2j U (wi6 oo)<|gY U<|lt' U<|pkf U<|mv U U<|gs 30 U (λg2=>?_)<|λg2=>?_;exact gN U<|gN U<|gN U<|gN U<|pkt U<|rbe U<|csu U;exact gY U<|mv U U<|gY U<|mv U U<|gY U<|z2j U (wi6 oo)<|gY U<|gt' U<|pkf U<|rbe U<|csu U;refine tn<|cd U (λc3=>?_)<|λc3=>?_;exfalso;omega;exact sk<|bn'<|tn<|rg<|z0v U (wi6 oo)<|mv U U<|nl<|lpE (i+1) (csu U) ⟨Z,⟨oo,trivial⟩⟩ oo;obtain rfl:i=u.length:=by omega
 exact ex<|te<|te<|xh<|tn<|sr<|asg U<|nn<|rt<|r1 results42 U ⟨_,rfl,rfl,Z⟩
theorem zv5 (w:World):(zeroValue 5).run prog w=.ok (.int .u8 0) w:=kr
end Go.Proofs.YtlfdhllfmoplgaaGreatDoor
namespace Go.G26
open Go.Lw Go.G21 Go.G08
structure LkA where
  gb:Nat
  gT:Nat
  n:Nat
  b0:Nat
  HS:List SV
  G:Nat->Nat
abbrev LkA.TV (a:LkA):Value:=.slice (some ⟨a.gT,0,none⟩) a.n a.n
section
variable {T2 T1 T0:Nat} {a:LkA} {w w':World} {M M':Nat->Nat->Int} {S:List Nat}
end
section
variable {T0 base n m:Nat} {w w':World} {G:Nat->Nat} {S:List Nat}
end
def lkM (n:Nat)(u:List Int)(i:Nat):Nat->Nat->Int:=λa b=>lnk (List.range n) (u.take i) a b
end Go.G26
namespace Go.Proofs.YtlfdhllfmoplgaaGreatDoor
open Go.Lw Go.G21 Go.G08 Go.G09 Go.G26 _root_.Go.Proofs.Tryz
end Go.Proofs.YtlfdhllfmoplgaaGreatDoor
namespace Go.G26
open Go.Lw Go.G21 Go.G08
end Go.G26
namespace Go.Proofs.YtlfdhllfmoplgaaGreatDoor
open Go.Lw Go.G21 Go.G08 Go.G09 Go.G26 _root_.Go.Proofs.Tryz
theorem y7a {l:List Cx}{a b:LId}(hn:∀j,j<l.length->isC a b (l.getD j cx0)=false):z6w l a b=0:=by
 unfold z6w;rw[List.find?_eq_none.2 λc I=>?_];rfl;obtain⟨j,D,rfl⟩:=l29 I;have:=hn j D;rw[List.getD,l10 D,l63]at this;rw[this];decide
end Go.Proofs.YtlfdhllfmoplgaaGreatDoor
namespace Go.Lw
open Go.RowKit
section
variable {P:Program} {n N:Nat} {L:List (Nat×Value)} {ds:List Nat} {w:World} {R:Ending->World->Prop} {fn:Func} {p pt p2 pt2 g g2:Nat} {T T2:TypeId} {cs:List Value} {z:Value}
theorem rMCN (hr:fn.results=#[.cell p pt,.cell p2 pt2])(hp:look L p=some (pta g))(hb:Blk w g T cs)(hg:z3y P pt cs.length)(a1:look L p2=some (pta g2))(O:Blk w g2 T2 [z])(Z:z2d P pt2)(I:∀D∈ds,w.heap[D]?=some (.deferred<|some []))(a0:ds.Nodup)(k:∀w',Fr ds w w'->R (.returned<|.tuple #[.agg cs.toArray,z]) w'):EW (bodyPostM (Fo none) N P fn R) .ret n ds w L:=λa h=>by
 show LeavesInM _ _ _ _ _ _ a.defers _ _
 rw[h.dfr]
 refine z6x ds w I a0 (λw' hf=>?_) k
 have h1:=h.at_ p _ hp
 have h2:=h.at_ p2 _ a1
 simp only[l45]at h1 h2
 have hc:w'.cell? ⟨g2,0,none⟩=some z:=(y2r O I hf).cells 0 z U
 simp[results,hr,h1,h2,asAddr,loadVar,hg.1 w',hg.2 w',Z w',hc,run_loadCells_list w' _ cs (y2r hb I hf).cells]
end
end Go.Lw
namespace Go.Proofs.YtlfdhllfmoplgaaGreatDoor
open Go.Lw Go.G21 Go.G08 Go.G09 Go.G26 _root_.Go.Proofs.Tryz
theorem u9x (v:Value)(l:List LId)(x:LId)(w0:World)(D:Sl z1g w0 v l)(hl:l.length<=100000):Rets prog 84 #[v,ivv x] w0 λr w'=>r=.bool (decide (0<=y3c l x))/\Fr [] w0 w':=by
 obtain⟨A,k,rfl,hk⟩:=id D.form;refine we [(0,.slice A l.length k),(1,ivv x)] func84 U ntmps84 U (.c2 U U) ?_;have O:=D;refine sr<|bx U<|λg3 w1 a0 I Z z1=>(asg U<|nn<|sr<|mv U U<|z0k U I z2z ?_);have D:=O.ext Z;refine cl (ev2 U) (mkC func58) (u8q _ l x _ D hl) U ?_;rintro _ w2 ⟨rfl,q2⟩;exact ge' U<|asg U<|kpL (ll1 4) (csu U)<|nn<|rt<|r1 results84 U ⟨_,rfl,rfl,(Z.n1 q2)⟩
theorem v9w (q:BdQ)(y:LId)(w0:World)(hB:BdAt w0 q)(hv:BdOk q.p):Rets prog 34 #[bvv q,ivv y] w0 λr w'=>(∃b p e:Int,r=.tuple #[.agg #[.int .u8 b,.int .i64 p],.int .i64 e])/\Fr [] w0 w':=by
 obtain⟨⟨hf,hb⟩,h4,d0⟩:=z3b hv;refine weM [(0,bvv q),(1,ivv y)] func34 U ntmps34 U (.c2 U U) ?_;have a3:=hB;refine isq<|irg U<|bx U<|λg2 w1 d1 a5 q1 z1=>(bx U<|λg3 w2 d3 a6 q2 z2=>(al x9o U<|λg4 w3 d4 D q3 z3=>(al zv35 U<|λg5 w4 d5 I q4 z4=>(inl<|itn<|isq<|isq<|irg U ?_))));have a5:=a5.ext<|q2.n2 q3 q4;refine z0k U a5 z5a<|cl (ev1 U) (mkC func55) (y3u q _) U ?_;rintro _ w5 ⟨g9,rfl,c9,b1,q5⟩;have z5:=q5.size;refine inl<|itn<|ibl ?_;have b6:∀b∈bdB q,b<w0.heap.size:=BdS.lt a3.s;have hB:=a3.ext<|q1.n4 q2 q3 q4 q5;refine k1b (α:=Bool×Nat) U (mkC func116) dd (y1r 8 g9 q w5 dd b1 hB.s hf hb) (BdS.lt hB.s) (λ_=>rfl) (λx=>[(11,.slice ((q.r x.1).getD x.2 iq0).1.1 ((q.r x.1).getD x.2 iq0).1.2.1 ((q.r x.1).getD x.2 iq0).1.2.2),(10,.agg #[.int .u8 (y2x x.1),.int .i64 ((x.2:Int)+1)])]) (λx=>by simp[ndE,slv]) (λ_=>rfl) (λ(s:List (Bool×Nat)) (W:World)=>Fr [] w5 W/\True) (λ(_:List (Bool×Nat)) (W:World)=>Fr [g4,g5] w5 W/\(∃b p:Int,Blk W g4 42 [.int .u8 b,.int .i64 p])/\Blk W g5 35 [.int .i64 0]) (λs W W' ht h=>⟨h.1.turn ht<|l20 _,h.2⟩) (λs W W' ht h=>⟨h.1.turn ht<|l20 _,⟨⟨h.2.1.choose,h.2.1.choose_spec.choose,h.2.1.choose_spec.choose_spec.turn ht⟩,h.2.2.turn ht⟩⟩) (λs W h=>h.1.size) ⟨l12 _ _,trivial⟩ 42 (λx=>[.int .u8 (y2x x.1),.int .i64 ((x.2:Int)+1)]) (λg x=>[(6,pta g),(7,.slice ((q.r x.1).getD x.2 iq0).1.1 ((q.r x.1).getD x.2 iq0).1.2.1 ((q.r x.1).getD x.2 iq0).1.2.2)]) (ll3 3 4 5) (csu U) ?_ ?_ ?_ ?_;rintro lN pre x w6 ⟨q6,-⟩ e3;refine x4b [(10,.agg #[.int .u8 (y2x x.1),.int .i64 ((x.2:Int)+1)]),(11,.slice ((q.r x.1).getD x.2 iq0).1.1 ((q.r x.1).getD x.2 iq0).1.2.1 ((q.r x.1).getD x.2 iq0).1.2.2),(3,_),(4,_),(5,_)] (csu U)<|isq<|irg U<|al x9o U<|λg6 w7 b8 Z q7 z7=>?_;refine z0i (vs:=[_,_]) U Z y4h (λw8 Z q8 z8=>?_) (h1:=t23);exact inl<|itn<|irg U<|asg U<|inl<|asE g6 oo (csu U) Z<|q7.z1 q8;rintro lN pre x g6 w9 d6 b8 Z ⟨q9,-⟩ d7 d9;have z9:=q9.size;have b5:=Z.lt;have e0:(q.r x.1).length<=40:=by cases x.1<;>assumption
 have e4:=z3n (show z9j (q.r x.1) by cases x.1<;>assumption) x.2;have e5:((q.r x.1).getD x.2 iq0).1.2.1=((q.r x.1).getD x.2 iq0).2.length:=z2c<|z1y (a3.iq x.1) x.2;refine ibl<|isq<|irg U<|mv U U ?_;have a6:=a6.ext<|q3.n3 q4 q5 q9;refine z0k U a6 z2z ?_;have hB:=a3.ext<|q1.n5 q2 q3 q4 q5 q9;refine cl (ev2 U) (mkC func84) (u9x _ ((q.r x.1).getD x.2 iq0).2 y _ (z1y (hB.iq x.1) x.2) oo) U ?_;rintro _ e6 ⟨rfl,a0⟩;have f6:=a0.size;refine inl<|itn<|icd U (λc0=>?_)<|λc0=>?_;refine isq<|irg U ?_;have Z:=Z.ext a0;refine z0k U Z z5n ?_;have D:=D.ext<|q4.n3 q5 q9 a0;refine z0i (vs:=[_,_]) U D y4h (λe7 D a7 f7=>?_) (h1:=t23);have I:=(I.ext<|q5.n2 q9 a0).fr a7;refine z3g U I U k3m<|λe8 I a8 f8=>(inl<|itn<|irt<|rb ?_);have D:=D.fr a8;exact rndR (S:=[g4,g5]) ((l12 [g4,g5] _).z3 a0 a7 a8) (by intro k hk _;right;simp at hk;omega) ⟨((l12 [g4,g5] _).z4 q9 a0 a7 a8),⟨⟨_,_,D⟩,I⟩⟩;exact isk<|bn'<|j1p (S:=[]) a0 sp0 (λb hb=>l77 (b6 b hb) oo) (λb hb e=>by simp at e) ⟨(q9.n1 a0),trivial⟩;rintro D1 f5 e9 b7 hS ⟨a4,-⟩ O;have f9:=a4.size;have a1:=O;have a2:=O.lt;refine bn'<|itn<|isq<|irg U<|z1u (cs:=[_,_]) z0f y7p z0r U ?_;have D:=D.ext<|q4.n2 q5 a4;refine z0i (vs:=[_,_]) U D y4h (λf0 D a9 g0=>?_) (h1:=t23);have I:=(I.ext<|q5.n1 a4).fr a9;refine z3g U I U k3m<|λf1 I b0 g1=>(inl<|itn<|irt ?_);have D:=D.fr b0;have O:=a1.fr ((l12 [g4,g5] _).z2 a9 b0) so;refine rMCN results34 U D z5n U I k3o (y8q O) sp0 ?_;intro f2 b9;exact⟨_,rfl,⟨_,_,_,rfl⟩,(((q1.z6 q2 q3 q4 q5 a4 a9).z1 b0).z1 b9)⟩;rintro D1 _ f3 b7 _ ⟨b2,⟨⟨b_,p_,D⟩,I⟩⟩ O;have g7:=b2.size;have a1:=O;have a2:=O.lt;have b3:=D.lt;have b4:=I.lt;refine rb<|tr<|rMCN results34 U D z5n U I k3o (y8q O) sp0 ?_;intro f4 c1;exact⟨_,rfl,⟨_,_,_,rfl⟩,(q1.z6 q2 q3 q4 q5 b2 c1)⟩
open Go.Lw Go.G21 Go.G08 _root_.Go.Proofs.Tryz
theorem v0h {D I:List IQ}{O Z:Nat}(h1:O<=D.length)(h2:Z<=I.length)(e1:(plB D).take O=trimB (plB D))(e2:(plB I).take Z=trimB (plB I))(he:trimB (plB D)=trimB (plB I)):(D.take O).length=(I.take Z).length/\∀i,((D.take O).getD i iq0).2=((I.take Z).getD i iq0).2:=by
 have e:plB (D.take O)=plB (I.take Z):=by
  show (D.take O).map Prod.snd=(I.take Z).map Prod.snd;rw[List.map_take,List.map_take];exact e1.trans<|he.trans e2.symm
 refine⟨by have:=congrArg List.length e;simpa only[plB,l18] using this,λi=>?_⟩;rw[<-z4b,<-z4b,e]
theorem StSz.ths {s:StQ}(h:StSz s)(y n:Nat):((s.fb.ts.getD y tq0).2.getD n lq0).ths.length<=100000:=by
 by_cases hy:y<s.fb.ts.length;by_cases hn:n<(s.fb.ts.getD y tq0).2.length;exact((h.tb _<|z0z (d:=tq0) hy).2 _<|z0z (d:=lq0) hn).1;rw[List.getD,l30 oo];exact l17 _;rw[show s.fb.ts.getD y tq0=tq0 by rw[List.getD,l30 oo];rfl];exact l17 _
open Go.Lw Go.G21 Go.G08 Go.G09 Go.G26 _root_.Go.Proofs.Tryz
theorem u6t {l:List MOp}{o:MOp}(h:isP l=true)(ho:isP [o]=true):isP (l++[o])=true:=by
 unfold isP at *;rw[List.all_append,h,ho];rfl
theorem j6z {w':World}{p:MSt}{o:MOp}{N base:Nat}{A:Option Addr}{ws:List Int}{s':StQ}(h:BrR w' p [o] N base A ws s' 0):isP [o]=true:=by
 cases e:isP [o] with
 | true=>rfl
 | false=>exact absurd (h.er 1<|x0o e).1 dd
theorem j5l (s:StQ)(p:MSt)(N:Nat)(M:Option Addr)(cM:Nat)(bs:List UInt8)(w0:World)(Z:StK UK w0 s)(hP:StP s p N)(hN:N<=100)(hs:Sl Enc.b w0 (.slice M bs.length cM) bs)(b3:StT w0):Rets prog 11 #[svv s,.slice M bs.length cM] w0 λr w'=>(∃(A:Option Addr) (l:List MOp) (c:Nat),r=.slice A l.length c/\Lw.Own z3d 44 w0.heap.size w' (.slice A l.length c) l/\isP l=true/\l.length<=24/\∃m,z3u 0 (nrm p) l=.ok m)/\Fr [] w0 w':=by
 have f4:=hs.len_le;unfold maxLen at f4;refine we [(0,svv s),(1,.slice M bs.length cM)] func11 U ntmps11 U (.c2 U U) ?_;have e8:=hs;have d0:=b3;refine sr<|bx U<|λg2 w1 i8 D q1 z1=>(asg U<|nn<|sr<|asg U<|nn<|sq<|sr<|asg U<|nn<|bl ?_);have Z:=Z.ext q1;refine lpK (ι:=Nat×StQ×Value) (ll2 1 2) (λp_=>[(6,.int .i64 (p_.1:Int)),(5,p_.2.2)]) (λp_ w'=>Fr [] w0 w'/\(p_.1<=bs.length/\p_.1<=24)/\Blk w' g2 34 (stL p_.2.1)/\StK UK w' p_.2.1/\∃(l:List MOp) (qi m:MSt),(isP l=true/\l.length<=p_.1/\z3u 0 (nrm p) l=.ok m/\Eqv m qi/\StP p_.2.1 qi (N+p_.1))/\Lw.Own z3d 44 w0.heap.size w' p_.2.2 l) (λp_=>24-p_.1) (0,s,_) (csu U) ⟨q1,⟨⟨l17 _,l17 _⟩,D,Z,[],p,nrm p,⟨rfl,l20 _,rfl,(v8q hP.v).symm,hP⟩,Own.nil _⟩⟩ ?_;rintro⟨i,si,vP⟩ w2 ⟨q2,⟨⟨e3,e4⟩,D,Z,l,qi,m,⟨hil,hll,hru,hE,hPi⟩,ho⟩⟩;simp only at e3 e4 D Z hll hPi ho;have z2:=q2.size;have e9:=D.lt;refine kpC [(1,_),(2,_),(6,.int .i64 (i:Int)),(5,vP)] (csu U)<|sq<|sq<|rbo (r:=23) (L':=ll4 1 2 5 6) ((((i:Int)<(bs.length:Int))/\((i:Int)<24))) (csu U) ?_ ?_;refine mv U U<|mv U U<|lnS U underlying51<|lt' U<|mv U U<|gs 20 U (λg0=>?_)<|λg0=>?_;exact gY U<|mv U U<|gY U<|lt' U<|pkt U<|rbe U<|csu U;exact gN U<|gN U<|pkf U<|rbe U<|csu U;refine tn<|cd U (λc0=>?_)<|λc0=>?_;have a5:g2∉z0u vP:=ho.neB D dd;have f6:=(bs.getD i 0).toNat_lt;refine sk<|tn<|sq<|bl<|sr<|mv U U<|mv U U ?_;have hs:=e8.ext q2;refine z1b (0) U hs U y4i z1j<|λh2 d6=>?_;refine z1c U (d6 _ hs) na5<|v7z U U t71 U<|z3v U (us underlying5) underlying3 (wi6 oo)<|asg U<|kpL (ll5 1 2 5 6 7) (csu U)<|nn<|sr<|mv U U<|y7v U U t38<|z2j U (wi6 oo)<|z1u (cs:=[_,_,_,_,_,_]) (ev2 U) v5n (z0g U<|z0g U z0r) U ?_;refine al u1r U<|λg8 w3 i9 O q3 z3=>?_;refine z0i (vs:=[_,_,_,_,_,_]) U O v3b (λw4 O q4 z4=>?_) (h1:=t33);refine nn<|jn (ι:=MOp) (ll5 1 2 5 6 8) (λo_=>[]) (λo_ w'=>Fr [g8] w4 w'/\Blk w' g8 44 [.int .u8 o_.k,.int .u8 o_.d,.int .u8 o_.b,.int .i64 o_.p,.int .u8 o_.y,.int .i64 o_.r]) (csu U) ?_ ?_;refine sq<|rbo (r:=48) (L':=ll6 1 2 5 6 7 8) ((((((bs.getD i 0).toNat:Int) % 2)=1)/\(0<(si.fb.h.2.1:Int)))) (csu U) ?_ ?_;refine mv U U<|mv U U ?_;have hs:=e8.ext<|q2.z2 q3 q4;refine z1b (0) U hs U y4i z1j<|λh3 d7=>?_;refine z1c U (d7 _ hs) na5<|y7v U U t38<|eq' U<|mv U U<|gs 42 U (λg1=>?_)<|λg1=>?_;refine gY U<|fad U z6t<|gY U<|y6p U z9f U<|gY U ?_;have D:=(D.ext q3).fr q4;exact z0j U D U z6f<|gY U<|lnS U underlying30<|gY U<|gt' U<|pkt U<|rbe U<|csu U;exact gN U<|gN U<|gN U<|gN U<|gN U<|pkf U<|rbe U<|csu U;refine tn<|cd U (λc1=>?_)<|λc1=>?_;have Z:=(Z.ext q3).fr q4 t32;have j0:=z2c Z.at.f.h;have f6:=(bs.getD i 0).toNat_lt;obtain⟨jj,j1⟩:∃jj:Nat,(jj:Int)=((bs.getD i 0).toNat:Int) / 2 % (si.fb.h.2.1:Int):=⟨(((bs.getD i 0).toNat:Int) / 2 % (si.fb.h.2.1:Int)).toNat,Int.toNat_of_nonneg<|Int.emod_nonneg _ oo⟩;have j2:=Int.emod_lt_of_pos (((bs.getD i 0).toNat:Int) / 2) (show (0:Int)<(si.fb.h.2.1:Int) by omega);refine sq ?_;have D:=(D.ext q3).fr q4;intro a h;refine z0h none (λwb w'=>Fr [] wb w') z2r ?_;intro w5 q5;have z5:=q5.size;have D:=D.ext q5;have Z:=Z.ext q5;have hC:Fr [] w5 w5:=l12 _ _;have a1:=D;have b2:=Z;refine z0c 0 h U z7m U λa h=>z1h (vs:=[_,_]) 1 h U (λ_ hw=>(a1.ext hw)) z5a U U λa h=>z0c 2 h U z6t U λa h=>z4y 3 h U z9f U λa h=>z0m 4 h U (λ_ hw=>a1.ext hw) U z6f U λa h=>z0e 5 h U λa h=>z0c 6 h U z6t U λa h=>z4y 7 h U z9f U λa h=>z0m 8 h U (λ_ hw=>a1.ext hw) U z6f U λa h=>z7v 9 hC h wn U underlying30 U λa h=>k1a 10 kr kr kr hC h wn U U oo t38 U U λa h=>z1e (p:=jj) (id0) 11 h U Z.at.f.h U z4k U λh4 d9 a h=>z2e 12 h wn U (λ_ hw=>d9 _<|b2.at.f.h.ext hw) z2z U λa h=>z1w 13 17 kr U ?_ ?_;refine z0n h (z0a U<|z0a U z0f) (mkC func34) (v9w si.q (si.fb.hs.getD jj id0) _ Z.at.b (hPi.BE▸hPi.v.inv.B)) ?_;rintro _ w6 ⟨⟨b_,p_,e_,rfl⟩,q6⟩ a h;have z6:=q6.size;have hC:=hC.next q6;refine z0b<|z0e 14 h U λa h=>z0l 15 h U λa h=>z0l 16 h U λa h=>z0d 17 U<|z0w h x9o U λw7 a0 q7 hz a h=>?_;obtain⟨d3,hg⟩:∃g,g=w6.heap.size:=⟨_,rfl⟩;rw[<-hg]at a0 h hz;have z7:=q7.size;have Z:=Z.ext<|q6.n1 q7;have hC:=hC.next q7;refine z0b<|z0d 18 U<|z0t h U a0 U y4h ?_ (h1:=t33);intro w8 b4 q8 hz a h;have z8:=q8.size;have Z:=Z.fr q8 t32;have hC:=hC.sp q8;have a0:Blk w8 d3 _ [_,_]:=b4;clear b4;refine z0b<|z0d 19 U<|z0q h U λa h=>?_;refine z0b<|z0p ?_;clear hC a1 b2;refine bk (h.sub (L':=ll6 1 2 5 6 8 9)<|csu U)<|tn<|rg<|z0k U a0 z5n<|z1u (cs:=[_,_,_,_,_,_]) (ev2 U) v5n (z0g U<|z0g U z0r) U ?_;have O:=(O.ext<|q5.n2 q6 q7).fr q8;refine z0i (vs:=[_,_,_,_,_,_]) U O v3b (λw9 O q9 z9=>?_) (h1:=t33);exact nl<|jE (_) (csu U) ⟨((l12 [g8] _).z5 q5 q6 q7 q8 q9),(show Blk _ g8 _ [.int .u8 (⟨7,0,b_,p_,0,0⟩:MOp).k,.int .u8 (⟨7,0,b_,p_,0,0⟩:MOp).d,.int .u8 (⟨7,0,b_,p_,0,0⟩:MOp).b,.int .i64 (⟨7,0,b_,p_,0,0⟩:MOp).p,.int .u8 (⟨7,0,b_,p_,0,0⟩:MOp).y,.int .i64 (⟨7,0,b_,p_,0,0⟩:MOp).r] from O)⟩;refine z0w h x9o U λj7 a0 b5 hz a h=>?_;obtain⟨d3,hg⟩:∃g,g=w5.heap.size:=⟨_,rfl⟩;rw[<-hg]at a0 h hz;have l2:=b5.size;have Z:=Z.ext b5;have hC:=hC.next b5;refine z0b<|z0d 13 U<|z0n h (z0a U<|z0a U z0f) (mkC func34) (v9w si.q (si.fb.hs.getD jj id0) _ Z.at.b (hPi.BE▸hPi.v.inv.B)) ?_;rintro _ j8 ⟨⟨b_,p_,e_,rfl⟩,q11⟩ a h;have l3:=q11.size;have Z:=Z.ext q11;have a0:=a0.ext q11;have hC:=hC.next q11;refine z0b<|z0e 14 h U λa h=>z0l 15 h U λa h=>z0l 16 h U λa h=>z0d 18 U<|z0t h U a0 U y4h ?_ (h1:=t33);intro h0 b4 b6 hz a h;have l4:=b6.size;have Z:=Z.fr b6 t32;have hC:=hC.sp b6;have a0:Blk h0 d3 _ [_,_]:=b4;clear b4;refine z0b<|z0d 19 U<|z0q h U λa h=>?_;refine z0b<|z0p ?_;clear hC a1 b2;refine bk (h.sub (L':=ll6 1 2 5 6 8 9)<|csu U)<|tn<|rg<|z0k U a0 z5n<|z1u (cs:=[_,_,_,_,_,_]) (ev2 U) v5n (z0g U<|z0g U z0r) U ?_;have O:=(O.ext<|q5.n2 b5 q11).fr b6;refine z0i (vs:=[_,_,_,_,_,_]) U O v3b (λj9 O g7 l5=>?_) (h1:=t33);exact nl<|jE (_) (csu U) ⟨((l12 [g8] _).z5 q5 b5 q11 b6 g7),(show Blk _ g8 _ [.int .u8 (⟨7,0,b_,p_,0,0⟩:MOp).k,.int .u8 (⟨7,0,b_,p_,0,0⟩:MOp).d,.int .u8 (⟨7,0,b_,p_,0,0⟩:MOp).b,.int .i64 (⟨7,0,b_,p_,0,0⟩:MOp).p,.int .u8 (⟨7,0,b_,p_,0,0⟩:MOp).y,.int .i64 (⟨7,0,b_,p_,0,0⟩:MOp).r] from O)⟩;exact sk<|jE (_) (csu U) ⟨(l12 _ _),(show Blk _ g8 _ [.int .u8 (⟨3,0,0,0,0,((bs.getD i 0).toNat:Int) / 2 % 9-4⟩:MOp).k,.int .u8 (⟨3,0,0,0,0,((bs.getD i 0).toNat:Int) / 2 % 9-4⟩:MOp).d,.int .u8 (⟨3,0,0,0,0,((bs.getD i 0).toNat:Int) / 2 % 9-4⟩:MOp).b,.int .i64 (⟨3,0,0,0,0,((bs.getD i 0).toNat:Int) / 2 % 9-4⟩:MOp).p,.int .u8 (⟨3,0,0,0,0,((bs.getD i 0).toNat:Int) / 2 % 9-4⟩:MOp).y,.int .i64 (⟨3,0,0,0,0,((bs.getD i 0).toNat:Int) / 2 % 9-4⟩:MOp).r] from O)⟩;rintro o k0 ⟨a6,O⟩;have l6:=a6.size;have f0:=O.lt;refine kpC (ll5 1 2 5 6 8) (csu U)<|sr ?_;have D:=((D.ext q3).fr q4).fr a6;refine z0k U D z7r<|z0k U O y2a ?_;have Z:=((Z.ext q3).fr q4 t32).fr a6 t32;have b3:=d0.ext<|q2.z3 q3 q4 a6;refine cl (ev2 U) (mkC func35) (u4r si qi (N+i) o _ Z.at hPi oo b3) U ?_;rintro _ k1 ⟨⟨g9,rfl,c9,d5,h9,e0⟩,q15⟩;have l7:=q15.size;have a9:=c9.k;clear c9;refine mv U U<|xt U<|xt U<|al y6l U<|λi2 k2 h5 b0 a7 l8=>?_;refine z0i (vs:=[_,_,_,_,_,_,_,_]) U b0 z9m (λk4 b0 a8 l9=>?_) (h1:=t33);refine asg U<|kpL (ll7 1 2 5 6 8 11 12) (csu U)<|nn<|sr ?_;have D:=(D.ext<|q15.n1 a7).fr a8;refine z0k U D z7r ?_;have O:=(O.ext<|q15.n1 a7).fr a8;refine z0k U O y2a<|z1i ([o]) (ev1 U) U y0y<|λi4 k5 h7 e5 a2 m0=>?_;have Z:=((Z.ext<|q15.n1 a7).fr a8 t32).ext a2;have b3:=d0.ext<|(q2.z6 q3 q4 a6 q15 a7 a8).n1 a2;refine cl (ev2 U) co6 (z4t si qi (N+i) _ [o] _ Z.at hPi t41 e5.sl b3) U ?_;rintro _ k6 ⟨⟨i0,ws,j5,f1,rfl,hB⟩,q19⟩;have m1:=q19.size;have g4:=hB.o.sl.len_le;unfold maxLen at g4;refine mv U U<|xt U<|xt U<|xt U<|al y6l U<|λi3 k7 h6 d1 a3 m2=>?_;refine asg U<|z0i (vs:=[_,_,_,_,_,_,_,_]) U d1 z9m (λk8 d1 a4 m3=>?_) (h1:=t33);refine asg U<|kpL (ll9 1 2 5 6 8 11 12 13 15) (csu U)<|nn<|sq<|rbo (r:=92) (L':=ll6 1 2 5 6 8 11) (((((u6r<|doM (nrm qi) o)=0)/\(f1=0))/\((ws.length:Int)<=12))) (csu U) ?_ ?_;refine mv U U<|eq' U<|mv U U<|gs 84 U (λg2=>?_)<|λg2=>?_;refine gY U<|mv U U<|gY U<|eq' U<|pkt U<|mv U U<|gs 88 U (λg3=>?_)<|λg3=>?_;exact gY U<|mv U U<|gY U<|lnS U underlying22<|gY U<|le' U U<|pkt U<|rbe U<|csu U;exact gN U<|gN U<|gN U<|pkf U<|rbe U<|csu U;exact gN U<|gN U<|pkf U<|mv U U<|gN U<|gN U<|gN U<|pkf U<|rbe U<|csu U;refine tn<|cd U (λc2=>?_)<|λc2=>?_;obtain⟨⟨g5,g6⟩,j4⟩:=c2;obtain⟨r',e7⟩:=e0 g5;have d4:=d5 r' e7;obtain⟨m',f8,f3⟩:=k2q (hE.trans<|v8q hPi.v).symm e7;rw[g6]at hB;have f7:=j6z hB;refine sr ?_;have b0:=(b0.ext<|a2.n2 q19 a3).fr a4;refine z0k U b0 z7r ?_;have D:=(D.ext<|a2.n2 q19 a3).fr a4;refine z0i (vs:=[_,_,_,_,_,_,_,_]) U D z9m (λk9 D b7 m4=>?_) (h1:=t33);refine nn<|rg<|mv U U ?_;have O:=((O.ext<|a2.n2 q19 a3).fr a4).fr b7;refine z0k U O y2a<|z1i ([o]) (ev1 U) U y0y<|λi5 l0 h8 e6 b8 m5=>?_;have D:=D.ext b8;have a9:=(((((a9.ext a7).fr a8 t32).ext<|a2.n2 q19 a3).fr a4 t32).fr b7 t32).ext b8;have ho:=((((((((ho.ext q3).fr q4 (by intro k I hb;rw[l11]at I;subst I;first|exact a5 hb|(have:=ho.blk _ hb;omega))).fr a6 (by intro k I hb;rw[l11]at I;subst I;first|exact a5 hb|(have:=ho.blk _ hb;omega))).ext<|q15.n1 a7).fr a8 (by intro k I hb;rw[l11]at I;subst I;first|exact a5 hb|(have:=ho.blk _ hb;omega))).ext<|a2.n2 q19 a3).fr a4 (by intro k I hb;rw[l11]at I;subst I;first|exact a5 hb|(have:=ho.blk _ hb;omega))).fr b7 (by intro k I hb;rw[l11]at I;subst I;first|exact a5 hb|(have:=ho.blk _ hb;omega))).ext b8;have b1:=ho;refine z2k U ho e6.sl y0y<|λj6 l1 ho b9 f9=>?_;have m6:=b9.size;have D:=D.fr b9<|λI=>b1.neB D dd I;have a9:=a9.fr b9 (λk_ f2 _=>by obtain⟨i1,f5⟩:=z9z b1 k_ f2;exact⟨_,_,f5,dd⟩);exact asg U<|nl<|bn'<|tn<|rg<|mv U U<|z0v U (wi6 oo)<|asg U<|nl<|lpE ((i+1,g9,_)) (csu U) ⟨(((((q2.z6 q3 q4 a6 q15 a7 a8).n1 a2).n1 q19).z4 a3 a4 b7 b8).step b9<|λk I j3=>absurd (b1.blk k I).1 oo),⟨⟨sm,sm⟩,D,a9,l++[o],r',m',⟨u6t hil f7,by rw[l13];simp only[l34,l64];omega,y9n hru f8,f3.symm,by rw[<-Nat.add_assoc];exact d4⟩,ho⟩⟩ sm;refine sk<|bn'<|tn<|rg<|mv U U<|z0v U (wi6 oo)<|asg U<|nl ?_;have D:=(D.ext<|a2.n2 q19 a3).fr a4;have Z:=(Z.ext<|q19.n1 a3).fr a4 t32;have ho:=((((((ho.ext q3).fr q4 (by intro k I hb;rw[l11]at I;subst I;first|exact a5 hb|(have:=ho.blk _ hb;omega))).fr a6 (by intro k I hb;rw[l11]at I;subst I;first|exact a5 hb|(have:=ho.blk _ hb;omega))).ext<|q15.n1 a7).fr a8 (by intro k I hb;rw[l11]at I;subst I;first|exact a5 hb|(have:=ho.blk _ hb;omega))).ext<|a2.n2 q19 a3).fr a4 (by intro k I hb;rw[l11]at I;subst I;first|exact a5 hb|(have:=ho.blk _ hb;omega));exact lpE ((i+1,si,_)) (csu U) ⟨((((q2.z6 q3 q4 a6 q15 a7 a8).n1 a2).n1 q19).z2 a3 a4),⟨⟨sm,sm⟩,D,Z,l,qi,m,⟨hil,sm,hru,hE,hPi.mono sm⟩,ho⟩⟩ sm;obtain⟨A5,c5,rfl,i7⟩:=ho.sl.form;exact ex<|te<|te<|xh<|tn<|sr<|mv U U<|asg U<|kpL (ll1 4) (csu U)<|nn<|rt<|r1 results11 U ⟨_,rfl,⟨A5,l,c5,rfl,ho,hil,oo,m,hru⟩,q2⟩
end Go.Proofs.YtlfdhllfmoplgaaGreatDoor
namespace Go.G26
open Go.Lw Go.G21 Go.G08 Go.G09
theorem v1s {p q:MSt}{l:List MOp}(hv:MVal p)(hs:isP l=true)(hr:z3u 0 p l=.ok q)(h4:l.length<=4096)(h8:p.B.flat.length<=8){n:Nat}(hn:(z4u p).length=n) :
    ∃u:List Int,(y4g p (z4u p,[]) l).2=u/\(64<u.length->z1t p l=.error 3)/\(u.length<=64->z1t p l=.ok (u,q))/\(∀k∈u,1<=k.natAbs/\k.natAbs<n)/\(n=0->u=[])/\(z4u q).length=n/\
      (∀i,i<n->1<=(u7l<|flw (List.range n) u).getD i 0/\(u7l<|flw (List.range n) u).getD i 0<=n/\(z4u q).getD ((u7l<|flw (List.range n) u).getD i 0-1) id0=(z4u p).getD i id0)/\
      ∀i k,i<n->k<n->i≠k->lkC q.cr ((z4u p).getD i id0) ((z4u p).getD k id0)=lkC p.cr ((z4u p).getD i id0) ((z4u p).getD k id0)+lkM n u u.length i k:=by
  have ho:z4u p=(List.range n).map λi=>(z4u p).getD i id0:=by
    refine l73 (by simp[hn]) λi h1 h2=>?_
    rw[List.getElem_map,List.getElem_range,List.getD,l10 h1];rfl
  have hk:∀o∈l,o.k=3\/o.k=7:=λo ho=>by
    have:=l89.1 hs o ho
    simp only[decide_eq_true_eq]at this
    exact this.1
  obtain⟨u,a1,a2,Z⟩:=x9c (w:=[]) hv.inv hk hr ho sp0
  simp only[l46]at a1 a2
  have D:=Z.bd
  rw[List.length_range]at D
  have O:n=0->u=[]:=λe=>by
    cases u with
    | nil=>rfl
    | cons x u=>have:=D x l43;omega
  have I:y0v p l=if u.length<=64 then some u else none:=by
    unfold y0v
    by_cases c:z2l p.B p.rk=[]
    · have e:n=0:=by rw[<-hn];unfold z4u;rw[c];rfl
      rw[if_pos c,O e];rfl
    · rw[if_neg c,a1]
      by_cases k:u.length<=64
      · rw[if_pos k,if_pos k];rfl
      · rw[if_neg k,if_neg k];rfl
  have hb:∀x,y0v p l=x->z1t p l=match x with
      | none=>.error 3
      | some w=>.ok (w,q):=λx hx=>by
    unfold z1t
    rw[if_neg (by rw[hs];decide),if_neg oo,if_neg oo,hr]
    show (match y0v p l with
      | none=>_
      | some w=>_)=_
    rw[hx]
    all_goals (cases x<;>rfl)
  have hfl:(flw (List.range n) u).length=n:=by rw[x7o,List.length_range]
  have a0:(flw (List.range n) u).Perm (List.range (flw (List.range n) u).length):=by
    rw[hfl]
    exact x8k λk hm=>by rw[List.length_range];exact D k hm
  refine⟨u,by rw[a2],λh=>?_,λh=>?_,D,O,by rw[Z.ord,l18,hfl],λi hi=>?_,λi k hi hk a4=>?_⟩
  · rw[if_neg oo]at I;exact hb _ I
  · rw[if_pos h]at I;exact hb _ I
  · have:=z7q a0 (f:=λi=>(z4u p).getD i id0) (i:=i) (by rw[hfl];exact hi)
    rw[hfl]at this
    rw[Z.ord];exact this
  · rw[Z.lk i k (l100.2 hi) (l100.2 hk) λe=>?_]
    · show _=_+lnk (List.range n) (u.take u.length) i k
      rw[l39]
    · have hd:=x3v hv.inv
      rw[List.getD,l10 oo,List.getD,l10 oo]at e
      exact a4<|(List.getElem_inj (h₀:=by omega) (h₁:=by omega) hd).1 e
end Go.G26
namespace Go.G26
def v6e (n:Nat)(f:List UInt8):Prop:=f.length=n/\f.Nodup/\∀x∈f,1<=x.toNat/\x.toNat<=n
def y3b:List UInt8->Nat
  | []=>0
  | x::l=>l.countP (λy=>decide (y<x))+y3b l
def swK (k:Nat)(x:UInt8):UInt8:=if x.toNat=k then UInt8.ofNat (k+1) else if x.toNat=k+1 then UInt8.ofNat k else x
def swA (f:List UInt8)(k:Nat):List UInt8:=(f.set (k-1)<|f.getD k 0).set k<|f.getD (k-1) 0
def flF (n:Nat)(f:List UInt8):List UInt8:=(f.map λx=>UInt8.ofNat (n+1)-x).reverse
theorem y5v {k:Nat}(D:k<200)(x:UInt8):(swK k x).toNat=if x.toNat=k then k+1 else if x.toNat=k+1 then k else x.toNat:=by
 unfold swK;split;rw[l40];omega;split;rw[l40];omega;rfl
theorem x2w {l:List UInt8}{p q:UInt8->Bool}(h:∀x∈l,p x=true->q x=true):l.countP p<=l.countP q:=List.countP_mono_left h
theorem u9f {k:Nat}(D:k<200)(x y:UInt8):swK k y<swK k x↔(swK k y).toNat<(swK k x).toNat:=l87
theorem j1d {l:List UInt8}(h:l.Nodup)(k:Nat)(hk:k<200)(p:UInt8->Bool)(x:UInt8)(hx:x.toNat=k)(hp:∀y∈l,p (swK k y)=true->y<x\/y.toNat=k+1):(l.map<|swK k).countP p<=l.countP (λy=>decide (y<x))+1:=by
 induction l with
 | nil=>simp
 | cons a l ih=>
  have Z:=l104.1 h;rw[l32,List.countP_cons,List.countP_cons];by_cases ha:a.toNat=k+1;have:(l.map<|swK k).countP p<=l.countP (λy=>decide (y<x)):=by
   rw[List.countP_map];refine x2w λy I O=>?_;rcases hp y (l38 _ I) O with D|D
   exact decide_eq_true D;exact absurd (UInt8.toNat.inj (D.trans ha.symm)▸I) Z.1
  split<;>omega
  have:=ih Z.2<|λy I=>hp y<|l38 _ I;have h3:p (swK k a)=true->decide (a<x)=true:=λO=>by
   rcases hp a l43 O with D|D
   exact decide_eq_true D;exact absurd D ha
  by_cases h4:p (swK k a)=true;rw[if_pos h4,if_pos (h3 h4)];omega;rw[if_neg h4];omega
theorem u0r {k:Nat}(D:k<200):∀ {l:List UInt8},l.Nodup->y3b (l.map<|swK k)<=y3b l+(if ∃x∈l,x.toNat=k then 1 else 0)
 | [],_=>by simp[y3b]
 | x::l,h=>by
  have hd:=l104.1 h
  have ih:=u0r D hd.2
  simp only[l32,y3b]
  by_cases hx:x.toNat=k
  ·have a1:¬ ∃y∈l,y.toNat=k:=λ⟨y,O,e⟩=>hd.1 (UInt8.toNat.inj (hx.trans e.symm)▸O)
   rw[if_neg a1]at ih
   rw[if_pos ⟨x,l43,hx⟩]
   have:=j1d hd.2 k D (λy=>decide (y<swK k x)) x hx (λy O Z=>by
    have I:=of_decide_eq_true Z
    rw[u9f D,y5v D,y5v D,if_pos hx]at I
    rw[l87]
    have a0:y.toNat≠k:=λe=>a1 ⟨y,O,e⟩
    rw[if_neg a0]at I
    split at I<;>omega)
   omega
  have I:(l.map<|swK k).countP (λy=>decide (y<swK k x))<=l.countP (λy=>decide (y<x)):=by
   rw[List.countP_map]
   refine x2w λy O Z=>?_
   have I:=of_decide_eq_true Z
   rw[u9f D,y5v D,y5v D,if_neg hx]at I
   refine decide_eq_true<|l87.2 ?_
   have a0:y.toNat≠x.toNat:=λe=>hd.1 (UInt8.toNat.inj e▸O)
   repeat' split at I
   all_goals omega
  have h2:(if ∃y∈l,y.toNat=k then 1 else 0)<=(if ∃y∈x::l,y.toNat=k then 1 else 0:Nat):=by
   split
   ·rename_i Z
    rw[if_pos (by obtain⟨y,O,e⟩:=Z;exact⟨y,l38 _ O,e⟩)];exact l20 _
   omega
  omega
theorem k0x {n k:Nat}{f:List UInt8}(h:v6e n f)(D:k<n)(hn:n<=8):y3b (f.map<|swK k)<=y3b f+1:=by
 have:=u0r (k:=k) oo h.2.1;split at this<;>omega
theorem v8o {f:List UInt8}{k:Nat}(Z:1<=k/\k<f.length):∃(u v:List UInt8) (x y:UInt8),f=u++x::y::v/\u.length=k-1/\swA f k=u++y::x::v/\f.getD (k-1) 0=x/\f.getD k 0=y:=by
 have O:k-1<f.length:=by omega
 have e:f=f.take (k-1)++f[k-1]::f[k]::f.drop (k+1):=by
  have D:f.drop (k-1)=f[k-1]::f.drop (k-1+1):=(l31 O);rw[show k-1+1=k by omega,l31 Z.2]at D;rw[<-D,l26]
 have hl:(f.take<|k-1).length=k-1:=by rw[l25];omega
 have I:f.getD (k-1) 0=f[k-1]:=by rw[List.getD,l10 O];rfl
 have g2:f.getD k 0=f[k]:=by rw[List.getD,l10 Z.2];rfl
 refine⟨f.take<|k-1,f.drop<|k+1,f[k-1],f[k],e,hl,?_,I,g2⟩;unfold swA;rw[I,g2];generalize hx:f[k-1]=x at e;generalize hy:f[k]=y at e;generalize f.take (k-1)=u at e hl;generalize f.drop (k+1)=v at e;subst e;rw[l52 _ _ oo,hl,l95,l128,l52 _ _ oo,hl,show k-(k-1)=1 by omega,List.set_cons_succ,l128]
theorem j2u (u:List UInt8):∀ {a b:List UInt8},a.Perm b->y3b b<=y3b a->∀ {t:Nat},y3b b+t<=y3b a->y3b (u++b)+t<=y3b (u++a):=by
 induction u with
 | nil=>intro a b _ _ t h;exact h
 | cons x u ih=>
  intro a b p h t D;simp only[l72,y3b];have:=ih p h D;rw[((p.append_left u).countP_eq (λy=>decide (y<x)))];omega
theorem j0z {f:List UInt8}{k:Nat}(Z:1<=k/\k<f.length)(D:f.getD k 0<f.getD (k-1) 0):y3b (swA f k)+1<=y3b f:=by
 obtain⟨u,v,x,y,e1,-,e2,I,O⟩:=v8o Z;rw[I,O]at D;rw[e2,e1];have hx:¬x<y:=by rw[l87]at D ⊢;omega
 have:y3b (y::x::v)+1<=y3b (x::y::v):=by
  simp only[y3b,List.countP_cons];rw[if_pos (decide_eq_true D),if_neg (by simpa using hx)];omega
 exact j2u u (List.Perm.swap y x v) oo this
def idN (n:Nat):List UInt8:=(List.range n).map λi=>UInt8.ofNat<|i+1
def hfN (n:Nat):List UInt8:=(List.range n).map λi=>UInt8.ofNat<|n-i
end Go.G26
namespace Go.G26
structure Pm (n:Nat) where
  f:Fin n->Fin n
  b:Fin n->Fin n
  fb:∀x,f (b x)=x
  bf:∀x,b (f x)=x
abbrev Lt (n:Nat):={k:Nat // k+1<n}
abbrev Lt.lo {n:Nat}(k:Lt n):Fin n:=⟨k.1,by have:=k.2;omega⟩
abbrev Lt.hi {n:Nat}(k:Lt n):Fin n:=⟨k.1+1,k.2⟩
def swL {n:Nat}(k:Lt n)(x:Fin n):Fin n:=if x=k.lo then k.hi else if x=k.hi then k.lo else x
section
variable {n:Nat}
theorem k5t (k:Lt n):k.hi≠k.lo:=λe=>by have:=congrArg Fin.val e;simp at this
theorem v8v (k:Lt n):swL k k.lo=k.hi:=if_pos U
theorem u0y (k:Lt n):swL k k.hi=k.lo:=by unfold swL;rw[if_neg (k5t k),if_pos U]
theorem j2f {k:Lt n}{x:Fin n}(h1:x≠k.lo)(D:x≠k.hi):swL k x=x:=by unfold swL;rw[if_neg h1,if_neg D]
theorem v7l (k:Lt n)(x:Fin n):swL k (swL k x)=x:=by
 by_cases h1:x=k.lo;rw[h1,v8v,u0y];by_cases h2:x=k.hi;rw[h2,u0y,v8v];rw[j2f h1 h2,j2f h1 h2]
namespace Pm
theorem ext {p q:Pm n}(h:∀x,p.f x=q.f x):p=q:=by
 obtain⟨f,b,fb,bf⟩:=p;obtain⟨Z,I,D,O⟩:=q;have e:f=Z:=funext h;subst e;have e2:b=I:=funext λx=>by rw[<-D x,bf,D]
 subst e2;rfl
def one:Pm n:=⟨λx=>x,λx=>x,λ_=>rfl,λ_=>rfl⟩
def half:Pm n:=⟨Fin.rev,Fin.rev,Fin.rev_rev,Fin.rev_rev⟩
def sL (k:Lt n)(p:Pm n):Pm n:=⟨λx=>p.f<|swL k x,λx=>swL k<|p.b x,λx=>by rw [v7l,p.fb],λx=>by rw [p.bf,v7l]⟩
def sR (k:Lt n)(p:Pm n):Pm n:=⟨λx=>swL k<|p.f x,λx=>p.b<|swL k x,λx=>by rw [p.fb,v7l],λx=>by rw [v7l,p.bf]⟩
def flip (p:Pm n):Pm n:=⟨λx=>(p.f x.rev).rev,λx=>(p.b x.rev).rev,λx=>by rw [Fin.rev_rev,p.fb,Fin.rev_rev],λx=>by rw [Fin.rev_rev,p.bf,Fin.rev_rev]⟩
def mul (p q:Pm n):Pm n:=⟨λx=>q.f<|p.f x,λx=>p.b<|q.b x,λx=>by rw [p.fb,q.fb],λx=>by rw [q.bf,p.bf]⟩
def Sb (p:Pm n)(k:Lt n):Prop:=p.f k.hi<p.f k.lo
def Eb (p:Pm n)(k:Lt n):Prop:=p.b k.hi<p.b k.lo
theorem u5a (k:Lt n)(p q:Pm n):(sR k p).mul (sL k q)=p.mul q:=ext λx=>by show q.f (swL k<|swL k<|p.f x)=_;rw[v7l];rfl
theorem f_inj (p:Pm n){x y:Fin n}(h:p.f x=p.f y):x=y:=by rw[<-p.bf x,h,p.bf]
theorem b_inj (p:Pm n){x y:Fin n}(h:p.b x=p.b y):x=y:=by rw[<-p.fb x,h,p.fb]
end Pm
open Pm
inductive Mv:List (Pm n)->List (Pm n)->Prop
  | here {f g:Pm n} {r:List (Pm n)} (k:Lt n) (hs:Sb g k) (he:¬Eb f k):Mv (f::g::r) (sR k f::sL k g::r)
  | next {f:Pm n} {l m:List (Pm n)}:Mv l m->Mv (f::l) (f::m)
inductive Mvs:List (Pm n)->List (Pm n)->Prop
  | refl {l:List (Pm n)}:Mvs l l
  | cons {l m r:List (Pm n)}:Mv l m->Mvs m r->Mvs l r
theorem Mvs.one {l m:List (Pm n)}(h:Mv l m):Mvs l m:=.cons h .refl
theorem Mvs.trans {l m r:List (Pm n)}(h:Mvs l m)(D:Mvs m r):Mvs l r:=by
 induction h with
 | refl=>exact D
 | cons a _ ih=>exact .cons a<|ih D
theorem Mvs.next {f:Pm n}{l m:List (Pm n)}(h:Mvs l m):Mvs (f::l) (f::m):=by
 induction h with
 | refl=>exact .refl
 | cons a _ ih=>exact .cons (.next a) ih
theorem Mv.app {l m:List (Pm n)}(h:Mv l m)(r:List (Pm n)):Mv (l++r) (m++r):=by
 induction h with
 | here k hs he=>exact .here k hs he
 | next _ ih=>exact .next ih
theorem Mvs.app {l m:List (Pm n)}(h:Mvs l m)(r:List (Pm n)):Mvs (l++r) (m++r):=by
 induction h with
 | refl=>exact .refl
 | cons a _ ih=>exact .cons (a.app r) ih
theorem Mvs.pre {l m:List (Pm n)}(h:Mvs l m):∀u:List (Pm n),Mvs (u++l) (u++m)
 | []=>h
 | _::u=>(Mvs.pre h u).next
theorem Mvs.len {l m:List (Pm n)}(h:Mvs l m):m.length=l.length:=by
 have one:∀ {l m:List (Pm n)},Mv l m->m.length=l.length:=λh=>by induction h with
  | here=>rfl
  | next _ ih=>simp[ih]
 induction h with
 | refl=>rfl
 | cons a _ ih=>rw[ih,one a]
theorem k6s {p:Pm n}{k:Lt n}:¬Eb p k↔p.b k.lo<p.b k.hi:=by
 unfold Eb;have:p.b k.hi≠p.b k.lo:=λe=>k5t k<|p.b_inj e;have D:(p.b k.hi).1≠(p.b k.lo).1:=λe=>this<|Fin.ext e;rw[l127,l127];omega
theorem k3a {p:Pm n}{k:Lt n}:¬Sb p k↔p.f k.lo<p.f k.hi:=by
 unfold Sb;have:p.f k.hi≠p.f k.lo:=λe=>k5t k<|p.f_inj e;have D:(p.f k.hi).1≠(p.f k.lo).1:=λe=>this<|Fin.ext e;rw[l127,l127];omega
def Pm.l (p:Pm n):List UInt8:=List.ofFn λx=>UInt8.ofNat<|(p.f x).1+1
def Pm.bl (p:Pm n):List UInt8:=List.ofFn λx=>UInt8.ofNat (p.b x).1
theorem z3a (p:Pm n):p.l.length=n:=List.length_ofFn
theorem x3z (p:Pm n):p.bl.length=n:=List.length_ofFn
theorem y6s (p:Pm n){i:Nat}(h:i<n):p.l.getD i 0=UInt8.ofNat ((p.f ⟨i,h⟩).1+1):=by
 rw[List.getD,l10 (by rw[z3a];exact h)];exact List.getElem_ofFn ..
theorem v9h (p:Pm n){i:Nat}(h:i<n):p.bl.getD i 0=UInt8.ofNat (p.b ⟨i,h⟩).1:=by
 rw[List.getD,l10 (by rw[x3z];exact h)];exact List.getElem_ofFn ..
theorem x8q (p:Pm n){i:Nat}(h:i<n){D:i<p.l.length}:p.l[i]=UInt8.ofNat ((p.f ⟨i,h⟩).1+1):=List.getElem_ofFn ..
theorem y8o {n:Nat}{a b:List UInt8}(O:a.length=n)(hb:b.length=n)(h:∀i,i<n->a.getD i 0=b.getD i 0):a=b:=by
 refine l73 (O.trans hb.symm) λi D I=>?_;have:=h i oo;rw[List.getD,List.getD,l10 D,l10 I]at this;exact this
theorem v7a (hn:n<=8)(p:Pm n):v6e n p.l:=by
 refine⟨z3a p,l78.2 λi j D I O e=>?_,λx Z=>?_⟩;rw[z3a]at D I;have e2:=congrArg UInt8.toNat<|(x8q p D).symm.trans<|e.trans<|x8q p I;rw[l40,l40]at e2;have:=(p.f ⟨i,D⟩).2;have:=(p.f ⟨j,I⟩).2;have:=congrArg Fin.val<|p.f_inj (Fin.ext oo:p.f ⟨i,D⟩=p.f ⟨j,I⟩);simp only at this;omega;obtain⟨i,rfl⟩:=List.mem_ofFn.1 Z;have:=(p.f i).2;simp only[l40];omega
theorem k3l (hn:n<=8)(k:Lt n)(p:Pm n):(sR k p).l=p.l.map (swK<|k.1+1):=by
 refine y8o (z3a _) (by rw[l18,z3a]) λi hi=>?_
 rw[y6s _ hi,List.getD,l24,l10 (by rw[z3a];exact hi)]
 refine UInt8.toNat.inj ?_
 have Z:=k.2
 have O:=(p.f ⟨i,hi⟩).2
 show _=(swK (k.1+1)<|p.l[i]'(by rw[z3a];exact hi)).toNat
 rw[y5v oo,x8q p hi,l40,l40]
 show ((swL k<|p.f ⟨i,hi⟩).1+1) % 256=_
 generalize p.f ⟨i,hi⟩=x at *
 have I:(x=k.lo)=(x.1=k.1):=propext ⟨λe=>t30,λe=>Fin.ext e⟩
 have D:(x=k.hi)=(x.1=k.1+1):=propext ⟨λe=>t30,λe=>Fin.ext e⟩
 unfold swL
 simp only[I,D]
 repeat' split
 all_goals first|omega|(simp only;omega)
theorem j4w {α:Type}{l:List α}{i j:Nat}{a d:α}(h:i<l.length):(l.set i a).getD j d=if i=j then a else l.getD j d:=by
 rw[List.getD,l112];split;rename_i e;subst e;simp;rfl
theorem k4v (k:Lt n)(p:Pm n):(sL k p).l=swA p.l (k.1+1):=by
 have D:=k.2;refine y8o (z3a _) (by unfold swA;rw[l19,l19,z3a]) λi hi=>?_;unfold swA;rw[j4w (by rw[l19,z3a];omega),j4w t48,l83,y6s p hi,y6s p k.2,y6s p (show k.1<n by omega),y6s _ hi];show UInt8.ofNat ((p.f<|swL k ⟨i,hi⟩).1+1)=_;split;rename_i e;rw[show (⟨i,hi⟩:Fin n)=k.hi from Fin.ext e.symm,u0y];split;rename_i e;rw[show (⟨i,hi⟩:Fin n)=k.lo from Fin.ext e.symm,v8v];rename_i e1 e2;rw[j2f (λe=>e2 (congrArg Fin.val e).symm) (λe=>e1 (congrArg Fin.val e).symm)]
theorem j7a (hn:n<=8)(p:Pm n):p.flip.l=flF n p.l:=by
 refine y8o (z3a _) (by unfold flF;rw[l85,l18,z3a]) λi hi=>?_;rw[y6s _ hi];unfold flF;rw[List.getD,List.getElem?_reverse (by rw[l18,z3a];exact hi),l18,z3a,l24,l10 t48];show _=UInt8.ofNat (n+1)-(p.l[n-1-i]' t48);rw[x8q p (show n-1-i<n by omega)];show UInt8.ofNat (((p.f (⟨i,hi⟩:Fin n).rev).rev).1+1)=_;rw[show (⟨i,hi⟩:Fin n).rev=⟨n-1-i,oo⟩ from Fin.ext (by simp[Fin.rev];omega)];generalize p.f ⟨n-1-i,oo⟩=x;have D:=x.2;refine UInt8.toNat.inj ?_;rw[UInt8.toNat_sub_of_le _ _ (by rw[UInt8.le_iff_toNat_le,l40,l40];omega),l40,l40,l40,Fin.val_rev];omega
theorem k4l:(one:Pm n).l=idN n:=by
 refine y8o (z3a _) (by simp[idN]) λi hi=>?_;rw[y6s _ hi];simp[idN,one,hi]
theorem k3f:(half:Pm n).l=hfN n:=by
 refine y8o (z3a _) (by simp[hfN]) λi hi=>?_;rw[y6s _ hi,show (hfN n).getD i 0=UInt8.ofNat (n-i) by simp[hfN,hi]];show UInt8.ofNat ((Fin.rev ⟨i,hi⟩).1+1)=_;rw[Fin.val_rev];show UInt8.ofNat (n-(i+1)+1)=_;rw[show n-(i+1)+1=n-i by omega]
theorem j3i (hn:n<=8){p:Pm n}{k:Nat}(h:k+1<n):Sb p ⟨k,h⟩↔p.l.getD (k+1) 0<p.l.getD k 0:=by
 rw[y6s p h,y6s p (show k<n by omega),l87,l40,l40];unfold Sb;rw[l127];have:=(p.f<|Lt.hi ⟨k,h⟩).2;have:=(p.f<|Lt.lo ⟨k,h⟩).2;show _↔((p.f<|Lt.hi ⟨k,h⟩).1+1) % 2 ^ 8<((p.f<|Lt.lo ⟨k,h⟩).1+1) % 2 ^ 8;omega
theorem En_l (hn:n<=8){p:Pm n}{k:Nat}(h:k+1<n):Eb p ⟨k,h⟩↔p.bl.getD (k+1) 0<p.bl.getD k 0:=by
 rw[v9h p h,v9h p (show k<n by omega),l87,l40,l40];unfold Eb;rw[l127];have:=(p.b<|Lt.hi ⟨k,h⟩).2;have:=(p.b<|Lt.lo ⟨k,h⟩).2;show _↔(p.b<|Lt.hi ⟨k,h⟩).1 % 2 ^ 8<(p.b<|Lt.lo ⟨k,h⟩).1 % 2 ^ 8;omega
theorem v6q (hn:n<=8){p:Pm n}{k:Lt n}(h:Sb p k):y3b (sL k p).l+1<=y3b p.l:=by
 rw[k4v];exact j0z (by rw[z3a];have:=k.2;omega) (by rw[l83];exact(j3i hn k.2).1 h)
theorem j8g (hn:n<=8)(p:Pm n)(k:Lt n):y3b (sR k p).l<=y3b p.l+1:=by
 rw[k3l hn];exact k0x (v7a hn p) k.2 hn
def ms:Nat->List (Pm n)->Nat
  | _,[]=>0
  | s,p::l=>s*y3b p.l+ms (s+1) l
theorem Mv.less (hn:n<=8){a b:List (Pm n)}(h:Mv a b):∀s,ms s b<ms s a:=by
 induction h with
 | @here f g r k hs he=>
  intro s
  have D:=Nat.mul_le_mul_left s<|j8g hn f k
  have I:=Nat.mul_le_mul_left (s+1)<|v6q hn hs
  rw[Nat.mul_add]at D I
  simp only[ms]
  omega
 | next _ ih=>intro s;simp only[ms];have:=ih<|s+1;omega
def Ir (l:List (Pm n)):Prop:=∀m,¬Mv l m
theorem Mvs.ir {l d:List (Pm n)}(h:Mvs l d)(hi:Ir l):d=l:=by
 cases h with
 | refl=>rfl
 | cons a _=>exact absurd a<|hi _
end
end Go.G26
namespace Go.Lw
theorem Fr.ext {S:List Nat}{a b c:World}(h:Fr S a b)(D:Fr [] b c):Fr S a c:=h.next D
theorem Fr.fr {S S':List Nat}{a b c:World}(h:Fr S a b)(D:Fr S' b c)(I:∀k∈S',k<a.heap.size->k∈S):Fr S a c:=h.step D I
end Go.Lw
namespace Go.G26
open Go.Lw Go.G21 Go.G08
structure FacT (T n:Nat) (wS w:World) (A:List Nat) (F:Nat->Pm n):Prop where
  f:Fr A wS w
  r:∀g∈A,Lw.Own Enc.b T 0 w (.slice (some ⟨g,0,none⟩) n n) (F g).l
def hdr (n g:Nat):SV:=(some ⟨g,0,none⟩,n,n)
def upF {α:Type}(F:Nat->α)(g:Nat)(f:α):Nat->α:=λx=>if x=g then f else F x
theorem y8l {α:Type}(F:Nat->α)(g:Nat)(f:α):upF F g f g=f:=if_pos U
theorem y5u {α:Type}{F:Nat->α}{g x:Nat}{f:α}(h:x≠g):upF F g f x=F x:=if_neg h
section
variable {T n:Nat} {wS w w':World} {A:List Nat} {F:Nat->Pm n} {S:List Nat} {g:Nat} {f:Pm n}
theorem FacT.fr (h:FacT T n wS w A F)(hf:Fr S w w')(I:∀k∈S,k∉A/\wS.heap.size<=k):FacT T n wS w' A F:=
 ⟨h.f.step hf λk D a0=>by have:=(I k D).2;omega,λg Z=>(h.r g Z).fr hf λk D O=>by
  simp[z0u]at O;subst O;exact(I _ D).1 Z⟩
theorem FacT.ext (h:FacT T n wS w A F)(hf:Fr [] w w'):FacT T n wS w' A F:=h.fr hf sp0
theorem FacT.upd (h:FacT T n wS w A F)(O:g∈A)(hf:Fr [g] w w')(ho:Lw.Own Enc.b T 0 w' (.slice (saa g) n n) f.l):FacT T n wS w' A (upF F g f):=
 ⟨h.f.step hf λk D _=>by rw[l11]at D;rw[D];exact O,λx Z=>by
  by_cases e:x=g
  ·subst e;rw[y8l];exact ho
  rw[y5u e];exact(h.r x Z).fr hf λk D I=>by
   simp[z0u]at I;subst I;rw[l11]at D;exact e D⟩
theorem FacT.lt (h:FacT T n wS w A F)(D:g∈A):g<w.heap.size:=((h.r g D).blk g t10).2
theorem FacT.add (h:FacT T n wS w A F)(ho:Lw.Own Enc.b T 0 w (.slice (saa g) n n) f.l)(O:g∉A):FacT T n wS w (g::A) (upF F g f):=
 ⟨h.f.weak λk D _=>l38 _ D,λx I=>by
  by_cases e:x=g
  ·subst e;rw[y8l];exact ho
  rw[y5u e];exact h.r x<|(l55.1 I).resolve_left e⟩
theorem FacT.ne {T' base:Nat}{α:Type}{E:Enc α}{v:Value}{ys:List α}(h:FacT T n wS w A F)(ho:Lw.Own E T' base w v ys)(D:T'≠T):∀k∈z0u v,k∉A:=λk O I=>
 Own.neO (h.r k I) ho (l50 D) k t10 O
theorem FacT.start (h:FacT T n wS w A F):FacT T n w w A F:=⟨l12 _ _,h.r⟩
end
theorem v9n {n g r:Nat}{A:List Nat}:(List.replicate (r+1) sv0++A.map (hdr n)).set r (hdr n g)=List.replicate r sv0++(g::A).map (hdr n):=by
 rw[List.replicate_succ',l14,l52 _ _ sp0,l22,l95];rfl
theorem j0o {n i:Nat}{A:List Nat}(h:i<A.length):(A.map<|hdr n).getD i sv0=(some ⟨A.getD i 0,0,none⟩,n,n):=by
 rw[List.getD,l24,l10 h,List.getD,l10 h];rfl
theorem z6d {A:List Nat}{i:Nat}(h:i<A.length):A.getD i 0∈A:=by
 rw[List.getD,l10 h];exact l109 _
theorem v9c {A:List Nat}(I:A.Nodup){i j:Nat}(hi:i<A.length)(D:j<A.length)(h:i≠j):A.getD i 0≠A.getD j 0:=λe=>by
 rw[List.getD,l10 hi,List.getD,l10 D]at e
 exact h<|(List.getElem_inj (h₀:=hi) (h₁:=D) I).1 e
end Go.G26
namespace Go.Lw
open Go.RowKit
section
variable {P:Program} {n:Nat} {L:List (Nat×Value)} {ds:List Nat} {w w':World} {Q:Exit->Act->World->Prop} {ops:Array Oper} {rest:List Oper} {d:Nat} {ty T:TypeId} {pos:String} {after:Array Edge} {v:Value} {x y:Operand} {t t':TypeId}
theorem u7t {k':IntKind}{m:Nat}(O:ev L x=some (.int .u8 1))(Z:ev L y=some (.int k' (m:Int)))(I:m<8)(hn:lbt d n)(q:WL P ops Q rest n ds w ((d,.int .u8 ((2 ^ m:Nat):Int))::L)):WL P ops Q (⟨some d,.binOp .shl t x y t',ty,pos,after,none⟩::rest) n ds w L:=
 λa h=>z1z h U hn (by
  have D:¬((m:Nat):Int)<0:=by omega
  have e:IntKind.u8.wrap ((1:Int)*2 ^ m)=((2 ^ m:Nat):Int):=by
   match m,I with
   | 0,_=>rfl
   | 1,_=>rfl
   | 2,_=>rfl
   | 3,_=>rfl
   | 4,_=>rfl
   | 5,_=>rfl
   | 6,_=>rfl
   | 7,_=>rfl
  simp only[execOp,h.eval O,h.eval Z,eqGuard_shl,binOp_shl,shift_shl .u8 k' 1 (m:Int) oo (show ((m:Nat):Int)<=8 by omega),l90,e]
  rfl) q
theorem k5g {p q':Nat}(I:ev L x=some (.int .u8 (p:Int)))(O:ev L y=some (.int .u8 (q':Int)))(hp:p<256)(D:q'<256)(hn:lbt d n)(q:WL P ops Q rest n ds w ((d,.int .u8 ((p ||| q':Nat):Int))::L)):WL P ops Q (⟨some d,.binOp .or t x y t',ty,pos,after,none⟩::rest) n ds w L:=
 λa h=>z1z h U hn (by simp[execOp,h.eval I,h.eval O,eqGuard_or,binOp_or,intBits_or,Go.u8_or_nat p q' hp D]) q
theorem x6m {p q':Nat}(I:ev L x=some (.int .u8 (p:Int)))(O:ev L y=some (.int .u8 (q':Int)))(hp:p<256)(D:q'<256)(hn:lbt d n)(q:WL P ops Q rest n ds w ((d,.int .u8 ((p &&& (255-q'):Nat):Int))::L)):WL P ops Q (⟨some d,.binOp .andNot t x y t',ty,pos,after,none⟩::rest) n ds w L:=
 λa h=>z1z h U hn (by simp[execOp,h.eval I,h.eval O,eqGuard_andNot,binOp_andNot,intBits_andNot,Go.u8_andNot_nat p q' hp D]) q
theorem k5p {k:IntKind}{i j:Int}(D:ev L x=some (.int k i))(I:ev L y=some (.int k j))(hn:lbt d n)(q:WL P ops Q rest n ds w ((d,.int k<|bits .and k i j)::L)):WL P ops Q (⟨some d,.binOp .and t x y t',ty,pos,after,none⟩::rest) n ds w L:=
 λa h=>z1z h U hn (by simp[execOp,h.eval D,h.eval I,eqGuard_and,binOp_and,intBits_and]) q
theorem v0o (i:Int):bits .and .i64 i 1=i % 2:=by
 have I:(BitVec.ofInt 64 1).toNat=2 ^ 1-1:=by decide
 have D:(BitVec.ofInt 64 i &&& BitVec.ofInt 64 1).toNat=(i % ((2 ^ 64:Nat):Int)).toNat % 2 ^ 1:=by
  rw[BitVec.toNat_and,BitVec.toNat_ofInt,I,Nat.and_two_pow_sub_one_eq_mod]
 show IntKind.i64.wrap ((BitVec.ofInt 64 i &&& BitVec.ofInt 64 1).toNat:Nat)=i % 2;rw[D,IntKind.wrap_i64];omega
theorem j9i {ad:Addr}{N sz m:Nat}{k:IntKind}{i:Int}(hx:ev L x=some (.pointer<|some ad))(hy:ev L y=some (.int k i))(hi:i=(m:Int))(I:m<=N)(Z:P.underlying t=some (.array N T))(O:z1r P T sz)(hn:lbt d n)(q:WL P ops Q rest n ds w ((d,.slice (some ad) m N)::L)):WL P ops Q (⟨some d,.slice t x none (some y) none,ty,pos,after,none⟩::rest) n ds w L:=λa h=>
 z1z h U hn (by
  subst hi
  have D:ad.add 0=ad:=by simp[Addr.add]
  simp[execOp,h.eval hx,h.eval hy,Instr.sliceAt,run_underlying Z,Instr.sureAddr,Instr.sliceBounds,Instr.sliceBound,asIntOf,O w,D,I]
  ) (λa h=>q a h)
theorem j4g {g N m:Nat}{zs:List UInt8}(hb:Blk w g T (zs.map λz=>Value.int .u8 (z.toNat:Int)))(Z:zs.length=N)(hM:N<=maxLen)(O:m<=N):Sl Enc.b w (.slice (saa g) m N) (zs.take m):=by
 have hl:(zs.take m).length=m:=by rw[l25];omega
 refine⟨some ⟨g,0,none⟩,N,by rw[hl],by rw[hl];exact O,hM,λi y I=>⟨_,rfl,λj u D=>?_⟩⟩;have hi:i<(zs.take m).length:=(l49.1 I).1;rw[l51,if_pos oo]at I;match j,D with
 | 0,D=>
  cases D;rw[z8y];refine hb.cellAdd ?_;show (zs.map _)[i*1+0]?=_;rw[Nat.mul_one,Nat.add_zero,l24,I];rfl
 | j+1,D=>simp[Enc.b]at D
def bls (T:List Bool):List Value:=T.map Value.bool
theorem k5o {zs:List Bool}{j off:Nat}(D:j<zs.length)(ho:off=j):(bls zs)[off]?=some (.bool<|zs.getD j false):=by
 subst ho;rw[bls,l24,l10 D,List.getD,l10 D];rfl
end
end Go.Lw
namespace Go.G26
open Pm
section
variable {n:Nat}
theorem k6d (k:Lt n){x y:Fin n}(h:x<y)(D:¬(x=k.lo/\y=k.hi)):swL k x<swL k y:=by
 rw[l127]at h ⊢
 have Z:(x=k.lo)=(x.1=k.1):=propext ⟨λe=>t30,λe=>Fin.ext e⟩
 have I:(x=k.hi)=(x.1=k.1+1):=propext ⟨λe=>t30,λe=>Fin.ext e⟩
 have hy:(y=k.lo)=(y.1=k.1):=propext ⟨λe=>t30,λe=>Fin.ext e⟩
 have O:(y=k.hi)=(y.1=k.1+1):=propext ⟨λe=>t30,λe=>Fin.ext e⟩
 unfold swL
 simp only[Z,I,hy,O]at D ⊢
 repeat' split
 all_goals first|omega|(simp only;omega)
theorem x8x (hn:n<=8)(R:Bool):∀(c:Nat) (f g:Pm n),y3b g.l<c->(∀x y:Fin n,x<y->if R then f.b x<f.b y->g.f y<g.f x else g.f y<g.f x->f.b x<f.b y)->
    ∃D I,Mvs [f,g] [D,I]/\D.mul I=f.mul g/\(∀k:Lt n,Sb I k->Eb D k)/\∀x y:Fin n,x<y->if R then D.b x<D.b y->I.f y<I.f x else I.f y<I.f x->D.b x<D.b y
  | 0,_,_,h,_=>by omega
  | c+1,f,g,h,hJ=>by
    by_cases hk:∃k:Lt n,Sb g k/\¬Eb f k
    · obtain⟨k,O,Z⟩:=hk
      have hi:=v6q hn O
      obtain⟨D,I,a1,a2,a3,a4⟩:=x8x hn R c (sR k f) (sL k g) oo (λx y a0=>by
        by_cases hq:x=k.lo/\y=k.hi
        · obtain⟨rfl,rfl⟩:=hq
          rw[k6s]at Z
          have e1:(sR k f).b k.lo=f.b k.hi:=congrArg f.b<|v8v k
          have e2:(sR k f).b k.hi=f.b k.lo:=congrArg f.b<|u0y k
          have e3:(sL k g).f k.lo=g.f k.hi:=congrArg g.f<|v8v k
          have e4:(sL k g).f k.hi=g.f k.lo:=congrArg g.f<|u0y k
          rw[e1,e2,e3,e4]
          unfold Sb at O
          split
          · intro h';exact absurd h'<|Fin.lt_asymm Z
          · intro h';exact absurd h'<|Fin.lt_asymm O
        · exact hJ (swL k x) (swL k y)<|k6d k a0 hq)
      exact⟨D,I,.cons (.here k O Z) a1,a2.trans<|u5a k f g,a3,a4⟩
    · exact⟨f,g,.refl,rfl,λk O=>Classical.byContradiction λZ=>hk ⟨k,O,Z⟩,hJ⟩
theorem v8a {u:Fin n->Fin n}(h:∀k:Lt n,u k.lo<u k.hi):∀x:Fin n,u x=x:=by
 have up:∀(d:Nat) (x:Fin n),x.1=d->d<=(u x).1:=by
  intro d;induction d with
  | zero=>intros;omega
  | succ d ih=>
   intro x I;have O:=ih ⟨d,oo⟩ U;have D:=h ⟨d,oo⟩;rw[l127]at D;rw[show x=(Lt.hi ⟨d,oo⟩:Fin n) from Fin.ext I];exact Nat.lt_of_le_of_lt O D
 have Z:∀(d:Nat) (x:Fin n),x.1+d+1=n->(u x).1+d+1<=n:=by
  intro d;induction d with
  | zero=>intro x I;have:=(u x).2;omega
  | succ d ih=>
   intro x I;have O:=ih ⟨x.1+1,oo⟩ sm;have D:=h ⟨x.1,oo⟩;rw[l127]at D;have h3:(u x).1<(u ⟨x.1+1,oo⟩).1:=D;omega
 intro x;have a:=up x.1 x U;have b:=Z (n-1-x.1) x oo;exact Fin.ext oo
theorem u9l {p:Pm n}(h:∀k:Lt n,¬Sb p k):p=one:=Pm.ext λx=>v8a (λk=>k3a.1<|h k) x
theorem mul_one (p:Pm n):p.mul one=p:=rfl
theorem one_mul (p:Pm n):one.mul p=p:=rfl
theorem j4r (hn:n<=8)(f:Pm n):Mvs [one,f] [f,one]:=by
 obtain⟨f',g',D,I,a3,a4⟩:=x8x hn false _ one f (Nat.lt_succ_self _) (λx y h=>by simpa[one] using λ_=>h);have Z:g'=one:=u9l λk hk=>by
  have O:=a4 k.lo k.hi (by rw[l127];simp);rw[if_neg dd]at O;exact absurd (O hk)<|Fin.lt_asymm<|a3 k hk
 rw[Z,mul_one,one_mul]at I;rw[Z,I]at D;exact D
def Lt.rev (k:Lt n):Lt n:=⟨n-2-k.1,by have:=k.2;omega⟩
def sg (k:Lt n):Pm n:=sR k one
abbrev BrN (n:Nat):=Int×List (Pm n)
def flB (d:Int)(p:Pm n):Pm n:=if d % 2=0 then p else p.flip
def Cn (a c:BrN n):Prop:=∃s t:Nat,Mvs a.2 (List.replicate s half++(c.2++List.replicate t one))/\Ir (List.replicate s half++(c.2++List.replicate t one))/\c.1=a.1+s/\(∀x r,c.2=x::r->x≠half)/\∀x r,c.2=r++[x]->x≠one
theorem v9b:∀ {l:List (Pm n)},Ir l->Ir (l++[one])
 | [],_=>λm D=>by cases D with|next h=>cases h
 | [f],_=>λm D=>by
  cases D with
  | here k hs he=>exact Fin.lt_asymm hs (by show k.lo<k.hi;rw[l127];simp)
  | next h=>cases h with|next h=>cases h
 | f::g::l,h=>λm D=>by
  cases D with
  | here k hs he=>exact h _<|.here k hs he
  | next h'=>exact v9b (l:=g::l) (λm D=>h _<|.next D) _ h'
def plF (n:Nat)(k:Int):Pm n:=if h:k.natAbs-1+1<n then (if 0<k then sg ⟨k.natAbs-1,h⟩ else sR ⟨k.natAbs-1,h⟩ half) else one
def fac (n:Nat):List Int->Int×List (Pm n)
  | []=>(0,[])
  | k::w=>((fac n w).1-(if 0<k then 0 else 1),flB (fac n w).1 (plF n k)::(fac n w).2)
theorem Mvs.less (hn:n<=8){a b:List (Pm n)}(h:Mvs a b):ms 0 b<=ms 0 a:=by
 induction h with
 | refl=>exact l20 _
 | cons h _ ih=>have:=h.less hn 0;omega
def Mvp (a b:List (Pm n)):Prop:=∃m,Mv a m/\Mvs m b
theorem Mvp.less (hn:n<=8){a b:List (Pm n)}(h:Mvp a b):ms 0 b<ms 0 a:=by
 obtain⟨m,D,I⟩:=h;have:=D.less hn 0;have:=I.less hn;omega
theorem Mvp.mvs {a b:List (Pm n)}(h:Mvp a b):Mvs a b:=let ⟨_,h1,h2⟩:=h;.cons h1 h2
theorem Mv.pre {l m:List (Pm n)}(h:Mv l m):∀u:List (Pm n),Mv (u++l) (u++m)
 | []=>h
 | _::u=>.next<|Mv.pre h u
theorem u2o {p:Pm n}(h:∀k:Lt n,Sb p k):p=half:=by
 have D:=v8a (u:=λx=>(p.f x).rev)<|λk=>Fin.rev_lt_rev.2<|h k;refine Pm.ext λx=>?_;have:=congrArg Fin.rev<|D x;rwa [Fin.rev_rev]at this
theorem j5x (k:Lt n):Sb (half:Pm n) k:=by show Fin.rev k.hi<Fin.rev k.lo;rw[Fin.rev_lt_rev,l127];simp
theorem j8l (k:Lt n):¬Sb (one:Pm n) k:=by rw[k3a];show k.lo<k.hi;rw[l127];simp
theorem k2c {l:List (Pm n)}(h:∀i f g,l[i]?=some f->l[i+1]?=some g->∀k,Sb g k->Eb f k):Ir l:=by
 intro m O
 induction O with
 | @here f g r k hs he=>exact he<|h 0 f g U U k hs
 | next _ ih=>exact ih λi f g D I=>h (i+1) f g D I
theorem k2p {a b:List (Pm n)}(h:Ir (a++b)):Ir a:=λm D=>h _<|D.app b
theorem v0w {l:List (Pm n)}(h:Ir l):∀t:Nat,Ir (l++List.replicate t one)
 | 0=>by simpa using h
 | t+1=>by rw[List.replicate_succ',<-l14];exact v9b<|v0w h t
theorem y8x (hn:n<=8)(f:Pm n):∀t:Nat,Mvs (List.replicate t one++[f]) (f::List.replicate t one)
 | 0=>.refl
 | t+1=>by
  rw[List.replicate_succ,l72]
  exact(y8x hn f t).next.trans<|(j4r hn f).app<|List.replicate t one
theorem u5z {F F':Nat->Pm n}{a b:Nat}(ho:∀g,g≠a->g≠b->F' g=F g){l:List Nat}{i:Nat}(hd:l.Nodup)(h:i+1<l.length)(e1:l.getD i 0=a)(e2:l.getD (i+1) 0=b) :
    l.map F=(l.take i).map F++([F a,F b]++(l.drop<|i+2).map F)/\l.map F'=(l.take i).map F++([F' a,F' b]++(l.drop<|i+2).map F):=by
  rw[List.getD,l10 oo]at e1
  rw[List.getD,l10 h]at e2
  have e:l=l.take i++([a,b]++l.drop (i+2)):=by
    have a1:l.drop i=l[i]::l.drop (i+1):=l31 oo
    rw[l31 h]at a1
    rw[<-e1,<-e2]
    show l=l.take i++l[i]::l[i+1]::l.drop (i+1+1)
    rw[<-a1,l26]
  have D:=hd
  rw[e]at D
  obtain⟨-,a0,I⟩:=l61.1 D
  have d1:∀g∈l.take i,F' g=F g:=λg Z=>ho g (λe=>I g Z a sp0 e)<|λe=>I g Z b sp0 e
  obtain⟨-,-,O⟩:=l61.1 a0
  have d2:∀g∈l.drop (i+2),F' g=F g:=λg Z=>ho g (λe=>O a sp0 g Z e.symm)<|λe=>O b sp0 g Z e.symm
  have c1:=congrArg (List.map F) e
  have c2:=congrArg (List.map F') e
  simp only[l33,l32,List.map_nil]at c1 c2
  rw[l114 d1,l114 d2]at c2
  exact⟨c1,c2⟩
end
end Go.G26
namespace Go.Proofs.YtlfdhllfmoplgaaGreatDoor
open Go.Lw Go.G21 Go.G08 Go.G09 Go.G26 _root_.Go.Proofs.Tryz
def StB (l:List UInt8)(k s:Nat):Prop:=s<256/\∀j,s.testBit j=decide (j<k/\j+1<l.length/\l.getD (j+1) 0<l.getD j 0)
theorem j8p (l:List UInt8):StB l 0 0:=⟨dd,λj=>by rw[Nat.zero_testBit];exact(decide_eq_false<|λh=>oo).symm⟩
theorem v5f {l:List UInt8}{k s:Nat}(h:StB l k s)(I:k<8)(hl:k+1<l.length)(O:((l.getD (k+1) 0).toNat:Int)<((l.getD k 0).toNat:Int)):StB l (k+1) (s ||| 2 ^ k):=by
 refine⟨Nat.or_lt_two_pow (n:=8) h.1<|Nat.pow_lt_pow_right dd I,λj=>?_⟩;rw[Nat.testBit_or,h.2 j,Nat.testBit_two_pow];have D:l.getD (k+1) 0<l.getD k 0:=by rw[l87];omega
 by_cases e:k=j;subst e;rw[decide_eq_false (λh=>absurd h.1<|Nat.lt_irrefl _),decide_eq_true U,decide_eq_true ⟨Nat.lt_succ_self _,hl,D⟩];rfl;rw[decide_eq_false e,Bool.or_false];exact decide_eq_decide.2 ⟨λh=>⟨oo,h.2⟩,λh=>⟨oo,h.2⟩⟩
theorem u9a {l:List UInt8}{k s:Nat}(h:StB l k s)(I:¬((l.getD (k+1) 0).toNat:Int)<((l.getD k 0).toNat:Int)):StB l (k+1) s:=by
 refine⟨h.1,λj=>?_⟩;rw[h.2 j];have D:¬l.getD (k+1) 0<l.getD k 0:=by rw[l87];omega
 by_cases e:k=j;subst e;rw[decide_eq_false (λh=>absurd h.1<|Nat.lt_irrefl _),decide_eq_false (λh=>D h.2.2)];exact decide_eq_decide.2 ⟨λh=>⟨oo,h.2⟩,λh=>⟨oo,h.2⟩⟩
theorem v7v {l:List UInt8}{k s:Nat}(h:StB l k s)(D:¬k+1<l.length):StB l l.length s:=⟨h.1,λj=>by
 rw[h.2 j]
 exact decide_eq_decide.2 ⟨λh=>⟨oo,h.2⟩,λh=>⟨oo,h.2⟩⟩⟩
theorem x2o (v:Value)(l:List UInt8)(w0:World)(hs:Sl Enc.b w0 v l)(hl:l.length<=8):Rets prog 150 #[v] w0 λr w'=>(∃s:Nat,r=.int .u8 (s:Int)/\StB l l.length s)/\Fr [] w0 w':=by
 obtain⟨A,c,rfl,a7⟩:=id hs.form;refine we [(0,.slice A l.length c)] func150 U ntmps150 U (.cons U .nil) ?_;have a3:=hs;refine sr<|asg U<|nn<|sr<|asg U<|nn<|sq<|sr<|asg U<|nn<|bl<|lpK (ι:=Nat×Nat) (ll1 0) (λO=>[(3,.int .u8 (O.2:Int)),(4,.int .i64<|(O.1:Int)+1)]) (λO w'=>Fr [] w0 w'/\(O.1=0\/O.1<l.length)/\StB l O.1 O.2) (λO=>l.length-O.1) (0,0) (csu U) ⟨l12 _ _,⟨.inl U,j8p l⟩⟩ ?_;rintro⟨k,s⟩ w1 ⟨q1,⟨a2,I⟩⟩;simp only at a2 I;refine kpC [(0,_),(3,.int .u8 (s:Int)),(4,.int .i64<|(k:Int)+1)] (csu U)<|sq<|sr<|mv U U<|mv U U<|lnS U underlying51<|lt' U<|nn<|cd U (λc0=>?_)<|λc0=>?_;refine sk<|tn<|sq<|bl<|sq ?_;have hs:=a3.ext q1;intro a h;have Z:=l12 [] w1;refine z2y (λwb w'=>Fr [] wb w') z2r ?_;intro w2 hq;have hs:=hs.ext hq;have Z:=Z.next hq;have a8:=hq.size;have hC:Fr [] w2 w2:=l12 _ _;have D:=hs;refine z0e 0 h U λa h=>z0e 1 h U λa h=>z2v 2 h U t13 U λa h=>z1e (p:=k) (0) 3 h U hs U y4i U λa5 a0 a h=>z2g 4 h U (λ_ hw=>a0 _<|D.ext hw) na5 U λa h=>z0e 5 h U λa h=>z0e 6 h U λa h=>z1e (p:=(k+1)) (0) 7 h U hs U y4i U λa6 a1 a h=>z2g 8 h U (λ_ hw=>a1 _<|D.ext hw) na5 U λa h=>v3m 9 hC h wn U U λa h=>z0p ?_;clear hC D;refine bk (h.sub (L':=ll4 0 3 4 20)<|csu U)<|tn<|cd U (λc1=>?_)<|λc1=>?_;exact rg<|mv U U<|mv U U<|z2j U (show IntKind.i64.wrap ((k:Int)+1-1)=(k:Int) from (wi6 oo).trans oo)<|u7t (m:=k) U U oo U<|k5g U U I.1 (Nat.pow_lt_pow_right dd (show k<8 by omega)) U<|asg U<|kpL (ll3 0 3 4) (csu U)<|nl<|bn'<|tn<|rg<|mv U U<|z0v U (wi6 oo)<|asg U<|nl<|lpE ((k+1,s ||| 2 ^ k)) (csu U) ⟨(q1.n1 Z),⟨sm,v5f I oo oo c1⟩⟩ sm;exact sk<|bn'<|tn<|rg<|mv U U<|z0v U (wi6 oo)<|asg U<|nl<|lpE ((k+1,s)) (csu U) ⟨(q1.n1 Z),⟨sm,u9a I c1⟩⟩ sm;have a4:=v7v I oo;exact ex<|te<|te<|xh<|tn<|sr<|mv U U<|asg U<|nn<|rt<|r1 results150 U ⟨_,rfl,⟨s,rfl,a4⟩,q1⟩
theorem u8c {l:List UInt8}(hl:l.length<=8):∀k,k=0\/k<l.length->∃s,StB l k s
 | 0,_=>⟨0,j8p l⟩
 | k+1,h=>by
  obtain⟨s,D⟩:=u8c hl k oo
  by_cases c:((l.getD (k+1) 0).toNat:Int)<((l.getD k 0).toNat:Int)
  ·exact⟨_,v5f D oo oo c⟩
  exact⟨s,u9a D c⟩
noncomputable def stN (l:List UInt8):Nat:=Classical.epsilon<|StB l l.length
theorem j1b {l:List UInt8}(hl:l.length<=8):StB l l.length (stN l):=Classical.epsilon_spec (by
 obtain⟨s,D⟩:=u8c hl (l.length-1) oo
 exact⟨s,v7v D oo⟩)
theorem k0n {l:List UInt8}{s:Nat}(hl:l.length<=8)(h:StB l l.length s):s=stN l:=Nat.eq_of_testBit_eq λj=>by rw[h.2,(j1b hl).2]
theorem u8a (v:Value)(l:List UInt8)(w0:World)(D:Sl Enc.b w0 v l)(hl:l.length<=8):Rets prog 150 #[v] w0 λr w'=>r=.int .u8 (stN l:Int)/\Fr [] w0 w':=
 Rets.mono (x2o v l w0 D hl) (by
  rintro r w' ⟨⟨s,rfl,h⟩,hf⟩
  rw[k0n hl h]
  exact⟨rfl,hf⟩)
theorem k0q (n:Nat)(w0:World)(hn:1<=n/\n<=8):Rets prog 151 #[.int .i64 (n:Int)] w0 λr w'=>r=.int .u8 ((2 ^ (n-1)-1:Nat):Int)/\Fr [] w0 w':=by
 have D:1<=2 ^ (n-1)/\2 ^ (n-1)<256:=⟨Nat.one_le_two_pow,Nat.pow_lt_pow_right (n:=8) dd oo⟩;exact we [(0,.int .i64 (n:Int))] func151 U ntmps151 U (.cons U .nil)<|sr<|asg U<|nn<|sr<|mv U U<|z2j U (show IntKind.i64.wrap ((n:Int)-1)=((n-1:Nat):Int) from (wi6 oo).trans oo)<|u7t (m:=n-1) U U oo U<|z2j U (show IntKind.u8.wrap (((2 ^ (n-1):Nat):Int)-1)=((2 ^ (n-1)-1:Nat):Int) from (wi8 oo).trans oo)<|asg U<|nn<|rt<|r1 results151 U ⟨_,rfl,rfl,(l12 _ _)⟩
def tz8:List UInt8:=[8,0,1,0,2,0,1,0,3,0,1,0,2,0,1,0,4,0,1,0,2,0,1,0,3,0,1,0,2,0,1,0,5,0,1,0,2,0,1,0,3,0,1,0,2,0,1,0,4,0,1,0,2,0,1,0,3,0,1,0,2,0,1,0,6,0,1,0,2,0,1,0,3,0,1,0,2,0,1,0,4,0,1,0,2,0,1,0,3,0,1,0,2,0,1,0,5,0,1,0,2,0,1,0,3,0,1,0,2,0,1,0,4,0,1,0,2,0,1,0,3,0,1,0,2,0,1,0,7,0,1,0,2,0,1,0,3,0,1,0,2,0,1,0,4,0,1,0,2,0,1,0,3,0,1,0,2,0,1,0,5,0,1,0,2,0,1,0,3,0,1,0,2,0,1,0,4,0,1,0,2,0,1,0,3,0,1,0,2,0,1,0,6,0,1,0,2,0,1,0,3,0,1,0,2,0,1,0,4,0,1,0,2,0,1,0,3,0,1,0,2,0,1,0,5,0,1,0,2,0,1,0,3,0,1,0,2,0,1,0,4,0,1,0,2,0,1,0,3,0,1,0,2,0,1,0]
theorem j7q:∀s:Fin 256,s.1≠0->s.1.testBit (tz8.getD s.1 0).toNat=true/\(tz8.getD s.1 0).toNat<8:=by decide +kernel
set_option maxRecDepth 10000 in
theorem k4r (s:Nat)(w0:World)(O:s≠0)(h:s<256):Rets prog 199 #[.int .u8 (s:Int)] w0 λr w'=>(∃k:Nat,r=.int .i64 (k:Int)/\s.testBit k=true/\k<8)/\Fr [] w0 w':=by
 obtain⟨D,I⟩:=j7q ⟨s,h⟩ O;simp only at D I;exact we [(0,.int .u8 (s:Int))] func199 U ntmps199 U (.cons U .nil)<|sr<|asg U<|nn<|sr<|mv U U<|u0b (l:=tz8) (p:=s) U U underlying9 oo (show (s:Int)<((256:Nat):Int) by omega) U U<|λZ=>(z3v U (us underlying5) underlying3 (wi6 oo)<|asg U<|nn<|rt<|r1 results199 U ⟨_,rfl,⟨(tz8.getD s 0).toNat,rfl,D,I⟩,(l12 _ _)⟩)
theorem v6l {α:Type}{e:α}{n i:Nat}{u:Nat->α}(h:i<n):((List.range i).map u++List.replicate (n-i) e).set i (u i)=(List.range<|i+1).map u++List.replicate (n-(i+1)) e:=by
 rw[l52 _ _ sp0,l18,List.length_range,l95,show n-i=n-(i+1)+1 by omega,List.replicate_succ,l128,l70,l33,l14];rfl
theorem v0j {α:Type}{d:α}(l:List α):(List.range l.length).map (λi=>l.getD i d)=l:=by
 refine l73 sp0 λi I D=>?_;rw[List.getElem_map,List.getElem_range,List.getD,l10 D];rfl
theorem k0t (i:Nat)(w0:World)(hi:i<8):Rets prog 147 #[.int .i64 (i:Int)] w0 λr w'=>r=.int .u8 ((UInt8.ofNat<|i+1).toNat:Int)/\Fr [] w0 w':=by
 have D:((UInt8.ofNat<|i+1).toNat:Int)=(i:Int)+1:=by rw[l40];omega
 exact we [(0,.int .i64 (i:Int))] func147 U ntmps147 U (.cons U .nil)<|sr<|asg U<|nn<|sr<|mv U U<|z0v U (wi6 oo)<|z3v U (us underlying3) underlying5 ((wi8 oo).trans D.symm)<|asg U<|nn<|rt<|r1 results147 U ⟨_,rfl,rfl,(l12 _ _)⟩
theorem k0u (i n D:Nat)(w0:World)(hb:Blk w0 D 3 [.int .i64 (n:Int)])(hi:i<n)(hn:n<=8):Rets prog 148 #[.int .i64 (i:Int),pta D] w0 λr w'=>r=.int .u8 ((UInt8.ofNat<|n-i).toNat:Int)/\Fr [] w0 w':=by
 have I:((UInt8.ofNat<|n-i).toNat:Int)=(n:Int)-i:=by rw[l40];omega
 exact we [(0,.int .i64 (i:Int)),(1,pta D)] func148 U ntmps148 U (.c2 U U)<|sr<|asg U<|nn<|sr<|z1x U hb na3<|mv U U<|z2j U (wi6 oo)<|z3v U (us underlying3) underlying5 ((wi8 oo).trans I.symm)<|asg U<|kpL (ll1 3) (csu U)<|nn<|rt<|r1 results148 U ⟨_,rfl,rfl,(l12 _ _)⟩
theorem k2i (i I:Nat)(v:Value)(l:List UInt8)(w0:World)(D:Sl Enc.b w0 v l)(hb:Blk w0 I 51 [v])(hi:i<l.length):Rets prog 195 #[.int .i64 (i:Int),pta I] w0 λr w'=>r=.int .u8 ((l.getD i 0).toNat:Int)/\Fr [] w0 w':=by
 obtain⟨A,c,rfl,a0⟩:=id D.form;refine we [(0,.int .i64 (i:Int)),(1,pta I)] func195 U ntmps195 U (.c2 U U) ?_;have a1:=D;exact sr<|asg U<|nn<|sr<|z1x U hb v3l<|mv U U<|z1b (p:=i) (0) U D U y4i oo<|λZ O=>(z1c U (O _ D) na5<|asg U<|kpL (ll1 3) (csu U)<|nn<|rt<|r1 results195 U ⟨_,rfl,rfl,(l12 _ _)⟩)
theorem x6w (n f:Nat)(ws:List Value)(u:Nat->UInt8)(w0:World)(hn:n<=8)(hf:CallOf prog f)(I:∀i w,i<n->Fr [] w0 w->Rets prog f (Value.int .i64 (i:Int)::ws).toArray w λr w'=>r=.int .u8 ((u i).toNat:Int)/\Fr [] w w'):Rets prog 146 #[.int .i64 (n:Int),.func (.func f) #[] ws.toArray] w0 λr w'=>(∃g,r=.slice (saa g) n n/\Lw.Own Enc.b 5 w0.heap.size w' r ((List.range n).map u))/\Fr [] w0 w':=by
 refine we [(0,.int .i64 (n:Int)),(1,.func (.func f) #[] ws.toArray)] func146 U ntmps146 U (.c2 U U)<|sr<|asg U<|nn<|sr<|mv U U<|z1f (m:=n) (c:=n) ((0:UInt8)) U y4i zv5 U<|λO w1 a0 D q1 z1=>(asg U<|nn<|sq<|sr<|mv U U<|lnS U underlying51<|mv U U<|nn<|bl<|lpK (ι:=Nat) (ll3 1 5 10) (λi=>[(11,.int .i64 (i:Int))]) (λi w'=>Fr [O] w1 w'/\i<=n/\Lw.Own Enc.b 5 O w' (.slice (saa O) n n) ((List.range i).map u++List.replicate (n-i) 0)) (λi=>n-i) 0 (csu U) ⟨l12 _ _,⟨l17 _,by simpa using D⟩⟩ ?_);rintro i w2 ⟨Z,⟨hi,D⟩⟩;refine kpC (ll4 1 5 10 11) (csu U)<|sr<|lt' U<|nn<|sq<|cd U (λc0=>?_)<|λc0=>?_;refine sk<|tn<|sq<|bl<|sr<|mv U U<|asg U<|nn<|rg<|mv U U<|mv U U<|mv U U<|mv U U<|clv (us:=[]) (ws:=ws) U (ev1 U) hf (I i _ oo<|q1.z1 Z) U t14 ?_;rintro _ w3 ⟨rfl,q3⟩;have D:=D.ext q3;refine z5p (p:=i) (E:=Enc.b) U y4i<|z3i (i:=i) ((u i)) U D so U sz5<|λw4 D q4 z4=>?_;rw[v6l oo]at D;exact kpL (ll4 1 5 10 11) (csu U)<|nl<|bn'<|tn<|rg<|z0v U (wi6 oo)<|mv U U<|nl<|lpE (i+1) (csu U) ⟨((l12 [O] _).z3 Z q3 q4),⟨oo,D⟩⟩ oo;obtain rfl:i=n:=by omega
 rw[l95,List.replicate_zero,l27]at D;exact ex<|te<|te<|xh<|tn<|sr<|mv U U<|asg U<|kpL (ll1 4) (csu U)<|nn<|rt<|r1 results146 U ⟨_,rfl,⟨O,rfl,D.low oo⟩,(q1.z1 Z)⟩
theorem j8j (v:Value)(l:List UInt8)(w0:World)(O:Sl Enc.b w0 v l)(hl:l.length<=8):Rets prog 144 #[v] w0 λr w'=>(∃g,r=.slice (saa g) l.length l.length/\Lw.Own Enc.b 5 w0.heap.size w' r l)/\Fr [] w0 w':=by
 obtain⟨A,c,rfl,a0⟩:=id O.form;refine we [(0,.slice A l.length c)] func144 U ntmps144 U (.cons U .nil) ?_;have Z:=O;refine sr<|bx U<|λg1 w1 a1 D q1 z1=>(asg U<|nn<|sr<|z1x U D v3l<|lnS U underlying51<|z5b z0f (ev1 U) ?_);have O:=Z.ext q1;refine cl (ev2 U) (mkC func146) (x6w l.length 195 [pta g1] (λi=>l.getD i 0) _ hl (CallOf.mk' func195 kr kr)<|λi w hi hw=>k2i i g1 _ l w (O.ext hw) (D.fr hw sp0) hi) U ?_;rintro _ w2 ⟨⟨g6,rfl,I⟩,q2⟩;rw[v0j]at I;exact asg U<|nn<|rt<|r1 results144 U ⟨_,rfl,⟨g6,rfl,I.low oo⟩,(q1.n1 q2)⟩
theorem j8q (n:Nat)(w0:World)(hn:n<=8):Rets prog 103 #[.int .i64 (n:Int)] w0 λr w'=>(∃g,r=.slice (saa g) n n/\Lw.Own Enc.b 5 w0.heap.size w' r (idN n))/\Fr [] w0 w':=by
 refine we [(0,.int .i64 (n:Int))] func103 U ntmps103 U (.cons U .nil)<|sr<|asg U<|nn<|sr<|mv U U<|cl (ev2 U) (mkC func146) (x6w n 147 [] (λi=>UInt8.ofNat<|i+1) _ hn (CallOf.mk' func147 kr kr)<|λi w hi O=>k0t i w oo) U ?_;rintro _ w1 ⟨⟨I,rfl,D⟩,q1⟩;exact asg U<|nn<|rt<|r1 results103 U ⟨_,rfl,⟨I,rfl,D.low oo⟩,q1⟩
theorem k0h (n:Nat)(w0:World)(hn:n<=8):Rets prog 104 #[.int .i64 (n:Int)] w0 λr w'=>(∃g,r=.slice (saa g) n n/\Lw.Own Enc.b 5 w0.heap.size w' r (hfN n))/\Fr [] w0 w':=by
 refine we [(0,.int .i64 (n:Int))] func104 U ntmps104 U (.cons U .nil)<|sr<|bx U<|λO w1 a0 D q1 z1=>(asg U<|nn<|sr<|z1x U D na3<|z5b z0f (ev1 U)<|cl (ev2 U) (mkC func146) (x6w n 148 [pta O] (λi=>UInt8.ofNat<|n-i) _ hn (CallOf.mk' func148 kr kr)<|λi w hi hw=>k0u i n O w (D.fr hw sp0) hi hn) U ?_);rintro _ w2 ⟨⟨Z,rfl,I⟩,q2⟩;exact asg U<|nn<|rt<|r1 results104 U ⟨_,rfl,⟨Z,rfl,I.low oo⟩,(q1.n1 q2)⟩
end Go.Proofs.YtlfdhllfmoplgaaGreatDoor
