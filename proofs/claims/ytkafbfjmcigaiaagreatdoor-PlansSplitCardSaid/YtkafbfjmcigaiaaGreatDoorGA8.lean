/- Texts of the proof, joined. -/
import Derived.Test.YtkafbfjmcigaiaaGreatDoorRows
import Derived.Test.YtkafbfjmcigaiaaGreatDoorGA7
set_option linter.unusedVariables false
set_option linter.unusedSimpArgs false
set_option maxHeartbeats 4000000
namespace Go.Proofs.YtkafbfjmcigaiaaGreatDoor
open Go.Lw Go.G21 Go.G08 Go.G09 Go.G26 _root_.Go.Proofs.Tryz
variable {n:Nat}
structure GatS (F G:Nat->Pm n) (gs:List Nat) (i:Nat) (hs:List Nat):Prop where
  sub:∀x∈hs,x∈gs.take i
  nd:hs.Nodup
  le:hs.length<=i
  keep:∀x∈gs.drop i,G x=F x
  mv:Mvs ((gs.take i).map F) (hs.map G++List.replicate (i-hs.length) Pm.one)
  ir:Ir (hs.map G)
  ls:∀x r,hs.map G=r++[x]->x≠Pm.one
theorem GatS.start (F:Nat->Pm n)(gs:List Nat):GatS F F gs 0 []:=⟨λx I=>(by cases I),List.nodup_nil,l20 _,λ_ _=>rfl,Mvs.refl,λm D=>(by cases D),λx r h=>(by simp at h)⟩
theorem u2a {G:Nat->Pm n}:∀ {l:List Nat},(∀x∈l,G x=Pm.one)->l.map G=List.replicate l.length Pm.one
 | [],_=>rfl
 | x::l,h=>by rw[l28,h x l39,u2a λy D=>h y<|l41 _ D];rfl
theorem z6f {gs:List Nat}{i:Nat}(h:i<gs.length):gs.take (i+1)=gs.take i++[gs.getD i 0]:=by
 rw[l54,l10 h,List.getD,l10 h];rfl
theorem u8t {gs:List Nat}{i:Nat}(D:gs.Nodup)(h:i<gs.length):gs.getD i 0∉gs.take i:=λO=>by
 obtain⟨j,I,e⟩:=List.mem_iff_getElem.1 O
 rw[l27]at I
 rw[List.getElem_take]at e
 exact v8z D (i:=j) (j:=i) oo h oo (by rw[List.getD,l10 oo];exact e)
theorem GatS.nd1 {F G:Nat->Pm n}{gs hs:List Nat}{i:Nat}(h:GatS F G gs i hs)(D:gs.Nodup)(hi:i<gs.length):(hs++[gs.getD i 0]).Nodup:=by
 rw[l58];refine⟨h.nd,sp0,λx I y O e=>?_⟩;rw[l11.1 O]at e;exact u8t D hi (e▸h.sub x I)
theorem GatS.sub1 {F G:Nat->Pm n}{gs hs:List Nat}{i:Nat}(h:GatS F G gs i hs)(hi:i<gs.length):∀x∈hs++[gs.getD i 0],x∈gs.take (i+1):=λx D=>by
 rw[z6f hi]
 rcases l22.1 D with D|D
 ·exact l66 _<|h.sub x D
 exact l68 _ D
theorem GatS.step {F G I:Nat->Pm n}{gs hs:List Nat}{i m:Nat}(hn:n<=8)(h:GatS F G gs i hs)(hd:gs.Nodup)(hi:i<gs.length)(O:PutS G I (hs++[gs.getD i 0]) m)(hm:m<=(hs++[gs.getD i 0]).length):GatS F I gs (i+1) ((hs++[gs.getD i 0]).take m):=by
 have a0:=h.sub1 hi;have a1:=h.nd1 hd hi;have a3:=h.le;have Z:gs.getD i 0∈gs.drop i:=by rw[l32 hi,List.getD,l10 hi];exact l39
 rw[l13,l46]at hm;have D:((hs++[gs.getD i 0]).take m).length=m:=by rw[l27,l13,l46];omega
 refine⟨λx hx=>a0 x<|l114 hx,(List.take_sublist _ _).nodup a1,by rw[D];omega,λx hx=>?_,?_,?_,λx r e=>?_⟩;have a2:x∉hs++[gs.getD i 0]:=λhh=>by
  have h2:=a0 x hh;have h3:=hd;rw[<-l25 (i+1) gs,l58]at h3;exact h3.2.2 x h2 x hx U
 rw[O.o x a2];refine h.keep x ?_;rw[l32 hi];exact l41 _ hx;rw[z6f hi,l30];have e0:[gs.getD i 0].map F=[G (gs.getD i 0)]:=by rw[List.map_singleton,h.keep _ Z]
 rw[e0];refine(h.mv.app _).trans ?_;rw[l14];refine((y8k hn _ _).pre _).trans ?_;have e1:hs.map G++G (gs.getD i 0)::List.replicate (i-hs.length) Pm.one=(hs++[gs.getD i 0]).map G++List.replicate (i-hs.length) Pm.one:=by rw[l30,l14];rfl
 rw[e1];refine(O.mv.app _).trans ?_;have e2:(hs++[gs.getD i 0]).map I=((hs++[gs.getD i 0]).take m).map I++List.replicate (hs.length+1-m) Pm.one:=by
  have e3:=u2a O.z;rw[l35,l13,l46]at e3;rw[<-e3,<-l30,l25]
 rw[e2,l14,List.replicate_append_replicate,D,show hs.length+1-m+(i-hs.length)=i+1-m by omega];exact .refl;have:=O.ir;rw[<-l25 m (hs++[gs.getD i 0]),l30]at this;exact u9v this;have e4:=congrArg List.length e;rw[l15,D,l13,l46]at e4;have e5:(((hs++[gs.getD i 0]).take m).map I)[m-1]?=(r++[x])[m-1]?:=by rw[e]
 rw[l29 oo,show m-1-r.length=0 by omega,l24,l53,if_pos oo,l10 (by rw[l13,l46];omega)]at e5;have e6:=O.l oo;rw[List.getD,l10 (by rw[l13,l46];omega)]at e6;simp only[l60,List.getElem?_cons_zero,l69]at e5;rw[<-e5];exact e6
theorem GatS.fin {F G:Nat->Pm n}{gs hs:List Nat}{f:Nat}{Z:Int}(h:GatS F G gs gs.length hs)(hf:f<=hs.length)(h1:∀j,j<f->G (hs.getD j 0)=Pm.half)(h2:f<hs.length->G (hs.getD f 0)≠Pm.half):Cn (Z,gs.map F) (Z+(f:Int),(hs.drop f).map G):=by
 have e:hs.map G=List.replicate f Pm.half++(hs.drop f).map G:=by
  rw[<-l25 f hs,l30,l25];congr 1;refine l65 so λj a b=>?_;rw[l76,List.getElem_replicate,List.getElem_take];have:=h1 j (by simpa using b);rwa [List.getD,l10 (by simp at a;omega)]at this
 have O:=h.mv;rw[l38,e,l14]at O;refine⟨f,gs.length-hs.length,O,?_,rfl,λx r ex=>?_,λx r ex=>?_⟩;have:=v2w h.ir<|gs.length-hs.length;rwa [e,l14]at this;simp only at ex;match hh:hs.drop f,ex with
 | y::l,ex=>
  rw[l28]at ex;have D:f<hs.length:=by
   refine Nat.lt_of_not_le λI=>?_;rw[l101 I]at hh;cases hh
  rw[l32 D]at hh;have:=h2 D;rw[List.getD,l10 D,l64,(l137 hh).1]at this;rw[<-(l137 ex).1];exact this
 | [],ex=>cases ex
 simp only at ex;exact h.ls x (List.replicate f Pm.half++r) (by rw[e,ex,l14])
theorem x9d {α:Type}{E:Enc α}{w:World}{A:Option Addr}{m c:Nat}{ys:List α}(h:Sl E w (.slice A m c) ys):c<=maxLen:=by
 obtain⟨I,O,e,Z,D,h3⟩:=h;cases e;exact D
structure RwsB (T n:Nat) (w:World) (hs:List Nat) (F:Nat->Pm n):Prop where
  r:∀g∈hs,Lw.Own Enc.b T 0 w (.slice (some ⟨g,0,none⟩) n n) (F g).l
theorem RwsB.fr {T:Nat}{w w':World}{hs S:List Nat}{F:Nat->Pm n}(h:RwsB T n w hs F)(hf:Fr S w w')(O:∀k∈S,k∉hs):RwsB T n w' hs F:=⟨λg I=>(h.r g I).fr hf λk Z D=>by simp[z0v]at D;subst D;exact O _ Z I⟩
theorem RwsB.ext {T:Nat}{w w':World}{hs:List Nat}{F:Nat->Pm n}(h:RwsB T n w hs F)(hf:Fr [] w w'):RwsB T n w' hs F:=h.fr hf sp0
def NrmS (n:Nat)(b:Nat)(w:World)(v:Value)(c:BrN n):Prop:=∃(out:Value) (hs:List Nat) (F:Nat->Pm n),v=.agg #[.int .i64 (n:Int),.int .i64 c.1,out]/\Lw.Own Enc.sl 22 b w out (hs.map<|hdr n)/\RwsB 5 n w hs F/\hs.map F=c.2/\∀x∈hs,b<=x
theorem NrmS.ext {b:Nat}{w w':World}{v:Value}{c:BrN n}(h:NrmS n b w v c)(hf:Fr [] w w'):NrmS n b w' v c:=by
 obtain⟨D,hs,F,e,I,O,Z,h4⟩:=h;exact⟨D,hs,F,e,I.ext hf,O.ext hf,Z,h4⟩
theorem NrmS.fr {b:Nat}{w w':World}{v:Value}{c:BrN n}{S:List Nat}(h:NrmS n b w v c)(hf:Fr S w w')(hS:∀k∈S,k<b):NrmS n b w' v c:=by
 obtain⟨O,hs,F,e,Z,h2,h3,h4⟩:=h;exact⟨O,hs,F,e,Z.fr hf (λk I D=>by have:=(Z.blk k D).1;have:=hS k I;omega),h2.fr hf (λk I D=>by have:=h4 k D;have:=hS k I;omega),h3,h4⟩
theorem NrmS.low {b b':Nat}{w:World}{v:Value}{c:BrN n}(h:NrmS n b w v c)(hb:b'<=b):NrmS n b' w v c:=by
 obtain⟨D,hs,F,e,I,O,Z,h4⟩:=h;exact⟨D,hs,F,e,I.low hb,O,Z,λx hx=>l44 hb<|h4 x hx⟩
open Go.Lw Go.G21 Go.G08 Go.G09 Go.G26 _root_.Go.Proofs.Tryz
theorem x1z:z2a prog 65:=λ_=>kr
theorem k6e:z1r prog 22 1:=λ_=>kr
theorem k9e (w:World):(zeroValue 22).run prog w=.ok (.slice none 0 0) w:=kr
theorem j2d (n f:Nat)(ws:List Value)(u:Nat->SV)(w0:World)(hn:n<=1000)(hf:CallOf prog f)(I:∀i w,i<n->Fr [] w0 w->Rets prog f (Value.int .i64 (i:Int)::ws).toArray w λr w'=>r=.slice (u i).1 (u i).2.1 (u i).2.2/\Fr [] w w'):Rets prog 37 #[.int .i64 (n:Int),.func (.func f) #[] ws.toArray] w0 λr w'=>(∃g,r=.slice (saa g) n n/\Lw.Own Enc.sl 22 w0.heap.size w' r ((List.range n).map u))/\Fr [] w0 w':=by
 refine we [(0,.int .i64 (n:Int)),(1,.func (.func f) #[] ws.toArray)] func37 U ntmps37 U (.c2 U U)<|sr<|asg U<|nn<|sr<|mv U U<|z1f (m:=n) (c:=n) (sv0) U y5f k9e U<|λO w1 a0 D q1 z1=>(asg U<|nn<|sq<|sr<|mv U U<|lnS U underlying65<|mv U U<|nn<|bl<|lpK (ι:=Nat) (ll3 1 5 10) (λi=>[(11,.int .i64 (i:Int))]) (λi w'=>Fr [O] w1 w'/\i<=n/\Lw.Own Enc.sl 22 O w' (.slice (saa O) n n) ((List.range i).map u++List.replicate (n-i) sv0)) (λi=>n-i) 0 (csu U) ⟨l12 _ _,⟨l17 _,by simpa using D⟩⟩ ?_);rintro i w2 ⟨Z,⟨hi,D⟩⟩;refine kpC (ll4 1 5 10 11) (csu U)<|sr<|lt' U<|nn<|sq<|cd U (λc0=>?_)<|λc0=>?_;refine sk<|tn<|sq<|bl<|sr<|mv U U<|asg U<|nn<|rg<|mv U U<|mv U U<|mv U U<|mv U U<|clv (us:=[]) (ws:=ws) U (ev1 U) hf (I i _ oo<|q1.z1 Z) U t14 ?_;rintro _ w3 ⟨rfl,q3⟩;have D:=D.ext q3;refine z5h (p:=i) (E:=Enc.sl) U y5f<|z3g (i:=i) ((u i)) U D so U k6e<|λw4 D q4 z4=>?_;rw[u1u oo]at D;exact kpL (ll4 1 5 10 11) (csu U)<|nl<|bn'<|tn<|rg<|z0w U (wi6 oo)<|mv U U<|nl<|lpE (i+1) (csu U) ⟨((l12 [O] _).z3 Z q3 q4),⟨oo,D⟩⟩ oo;obtain rfl:i=n:=by omega
 rw[l80,l91,l26]at D;exact ex<|te<|te<|xh<|tn<|sr<|mv U U<|asg U<|kpL (ll1 4) (csu U)<|nn<|rt<|r1 results37 U ⟨_,rfl,⟨O,rfl,D.low oo⟩,(q1.z1 Z)⟩
theorem k0f (i D:Nat)(v:Value)(l:List SV)(w0:World)(hs:Sl Enc.sl w0 v l)(hb:Blk w0 D 65 [v])(hi:i<l.length):Rets prog 95 #[.int .i64 (i:Int),pta D] w0 λr w'=>r=.slice (l.getD i sv0).1 (l.getD i sv0).2.1 (l.getD i sv0).2.2/\Fr [] w0 w':=by
 obtain⟨A,c,rfl,Z⟩:=id hs.form;refine we [(0,.int .i64 (i:Int)),(1,pta D)] func95 U ntmps95 U (.c2 U U) ?_;have a0:=hs;exact sr<|asg U<|nn<|sr<|z1v U hb x1z<|mv U U<|z0z (p:=i) (sv0) U hs U y5f oo<|λO I=>(z1b U (I _ hs) x2s<|asg U<|kpL (ll1 3) (csu U)<|nn<|rt<|r1 results95 U ⟨_,rfl,rfl,(l12 _ _)⟩)
theorem x6o:z3z prog 67 3:=⟨λ_=>kr,λ_=>kr⟩
theorem k6r:BuildAt prog 67 [(0,1),(1,1),(2,1)] [(.int .i64 0),(.int .i64 0),(.slice none 0 0)]:=BuildAt.struct underlying67 (λ_=>kr)<|λ_=>kr
theorem sz65:z1r prog 65 1:=λ_=>kr
theorem v3t:z1r prog 67 3:=λ_=>kr
theorem zv65 (w:World):(zeroValue 65).run prog w=.ok (.slice none 0 0) w:=kr
theorem v8u (w:World):(zeroValue 67).run prog w=.ok (.agg #[(.int .i64 0),(.int .i64 0),(.slice none 0 0)]) w:=kr
theorem v5l (n:Nat)(pw:Int)(v:Value)(O:List Nat)(F:Nat->Pm n)(w0:World)(hv:Sl Enc.sl w0 v (O.map<|hdr n))(hF:FacT 5 n w0 w0 O F)(hd:O.Nodup)(b2:∀k∈O,k∉z0v v)(hl:O.length<=200)(hn:1<=n/\n<=8)(e9:-10000<=pw/\pw<=10000)(b:Nat)(e1:b<=w0.heap.size)(b7:∀x∈O,b<=x):Rets prog 42 #[.int .i64 (n:Int),.int .i64 pw,v] w0 λr w'=>(∃c:BrN n,NrmS n b w' r c/\Cn (pw,O.map F) c/\c.2.length<=O.length/\pw<=c.1/\c.1<=pw+O.length)/\Fr O w0 w':=by
 obtain⟨AV,cV,rfl,e4⟩:=id hv.form;have a3:∀x∈O,x<w0.heap.size:=λx hx=>hF.lt hx;have e7:(O.map<|hdr n).length=O.length:=l15 ..;refine we [(0,.int .i64 (n:Int)),(1,.int .i64 pw),(2,.slice AV (O.map<|hdr n).length cV)] func42 U ntmps42 U (.c3 U U U) ?_;have d0:=hv;refine sr<|al v8u U<|λg6 w1 e5 I q1 z1=>(nn<|sr<|al zv65 U<|λg7 w2 e6 D q2 z2=>(nn<|sq<|sr<|mv U U<|lnS U underlying65<|mv U U<|nn<|bl ?_));have hF:=hF.ext<|q1.n1 q2;have I:=I.ext q2;refine lpK (ι:=Nat×Value×List Nat×(Nat->Pm n)) (ll6 0 1 6 7 11 12) (λp_=>[(13,.int .i64 (p_.1:Int))]) (λp_ w'=>p_.1<=O.length/\GatS F p_.2.2.2 O p_.1 p_.2.2.1/\FacT 5 n w0 w' O p_.2.2.2/\Lw.Own Enc.sl 22 w0.heap.size w' (p_.2.1) (p_.2.2.1.map<|hdr n)/\Blk w' g7 65 [p_.2.1]/\Blk w' g6 67 [.int .i64 0,.int .i64 0,.slice none 0 0]) (λp_=>O.length-p_.1) (0,.slice none 0 0,[],F) (csu U) ⟨l17 _,GatS.start F O,hF,Own.nil _,D,I⟩ ?_;rintro⟨i,vL,hs,G⟩ w3 ⟨hi,hG,hF,ho,D,I⟩;simp only at hi hG hF ho D I;obtain⟨AL,cL,rfl,e2⟩:=ho.sl.form;have b6:=D.lt;have b5:=I.lt;refine kpC [(0,_),(1,_),(6,_),(7,_),(11,_),(12,_),(13,.int .i64 (i:Int))] (csu U)<|sr<|lt' U<|nn<|sq<|cd U (λc0=>?_)<|λc0=>?_;have b3:Sl Enc.sl w3 (.slice AV (O.map<|hdr n).length cV) (O.map<|hdr n):=d0.fr hF.f b2;have a2:i<O.length:=by omega
 have b9:=hG.nd1 hd a2;have hA:∀x∈hs++[O.getD i 0],x∈O:=λx hx=>l114<|hG.sub1 a2 x hx;have e8:=hG.le;refine sk<|tn<|sq<|bl<|sr<|z0z (p:=i) (sv0) U b3 U y5f oo<|λd3 a8=>(z1b U (a8 _ b3) x2s<|asg U<|nn<|rg<|z1v U D x1z<|mv U U<|cl (ev2 U) (mkC func94) (by have x:=j5t n w0 _ O G hs (O.getD i 0) _ hF b9 hA ho oo hn.2;rw[z6r (n:=n) (L:=O) a2]at x;exact x) U ?_);rintro f1 w4 ⟨G1,m,a7,hm,b1,hP,q4⟩;have z4:=q4.size;have a1:∀ {T:Nat} {cs:List Value} {k:Nat},Blk w3 k T cs->22≠T->5≠T->k∉z0v (.slice AL (hs.map<|hdr n).length cL)++(hs++[O.getD i 0]):=λhb h1 h2 hk=>(l22.1 hk).elim (Own.neB ho hb h1)<|λhk=>Own.neB (hF.r _<|hA _ hk) hb h2 t10;have D:=D.fr q4<|a1 D dd dd;have I:=I.fr q4<|a1 I dd dd;clear a1 hF ho;have hF:=a7;have ho:=b1;clear a7 b1;obtain⟨d7,d9,rfl,d5⟩:=ho.sl.form;have a4:=Own.neB ho D dd;refine z3f U D U sz65<|λw5 D q5 z5=>(nl<|bn'<|tn<|rg<|z0w U (wi6 oo)<|mv U U<|nl ?_);have hF:=hF.fr q5 (by intro k hk;rw[l11.1 hk];exact⟨λhg=>(by have:=a3 _ hg;omega),oo⟩);have ho:=ho.fr q5 (by intro k hk;rw[l11.1 hk];exact a4);have I:=I.fr q5;exact lpE ((i+1,_,(hs++[O.getD i 0]).take m,G1)) (csu U) ⟨sm,hG.step hn.2 hd a2 hP hm,hF,ho,D,I⟩ sm;obtain rfl:i=O.length:=by omega
 have a5:∀x∈hs,x∈O:=λx hx=>l114<|hG.sub x hx;have f0:(hs.map<|hdr n).length=hs.length:=l15 ..;have d6:=hG.le;have a4:=Own.neB ho D dd;refine ex<|te<|te<|xh<|tn<|sr<|asg U<|nn<|sq<|bl<|lpK (ι:=Nat) (ll4 0 1 6 7) (λZ=>[(10,.int .i64 (Z:Int))]) (λZ w'=>Fr [] w3 w'/\Z<=hs.length/\∀j,j<Z->G (hs.getD j 0)=Pm.half) (λZ=>hs.length-Z) 0 (csu U) ⟨l12 _ _,⟨l17 _,λj h=>absurd h oo⟩⟩ ?_;rintro Z w6 ⟨q6,⟨hf,b0⟩⟩;have z6:=q6.size;refine kpC (ll5 0 1 6 7 10) (csu U)<|sq<|sq<|v7n (r:=34) (L':=ll5 0 1 6 7 10) ((((Z:Int)<((hs.map<|hdr n).length:Int))/\((stN (G<|hs.getD Z 0).l:Int)=((2 ^ (n-1)-1:Nat):Int)))) (csu U) ?_ ?_;refine mv U U ?_;have D:=D.ext q6;refine z1v U D x1z<|lnS U underlying65<|lt' U<|mv U U<|gs 25 U (λg0=>?_)<|λg0=>?_;refine gY U<|z1v U D x1z<|gY U<|mv U U<|gY U ?_;have ho:=ho.ext q6;refine z0z (p:=Z) (sv0) U ho.sl U y5f oo<|λd4 a9=>(gY U<|z1b U (a9 _ ho.sl) x2s<|gY U ?_);have hF:=hF.ext q6;refine cl (ev1 U) j6h (by have x:=v7v (.slice (some ⟨(hs.getD Z 0),0,none⟩) n n) (G<|hs.getD Z 0).l _ (hF.r _<|a5 _<|z3q oo).sl (by rw[z2m];exact hn.2);rw[z6r (n:=n) (L:=hs) oo]at x;exact x) U ?_;rintro _ w7 ⟨rfl,q7⟩;have z7:=q7.size;refine gY U<|mv U U<|gY U<|cl (ev1 U) (mkC func89) (j0r n _ hn) U ?_;rintro _ w8 ⟨rfl,q8⟩;have z8:=q8.size;exact gY U<|eq' U<|pkt U<|y3a U (csu U)<|q7.n1 q8;exact gN U<|gN U<|gN U<|gN U<|gN U<|gN U<|gN U<|gN U<|pkf U<|y3a U (csu U)<|l12 _ _;intro w9 q9;have z9:=q9.size;refine tn<|cd U (λc1=>?_)<|λc1=>?_;refine sk<|tn<|bl<|rg<|mv U U<|z0w U (wi6 oo)<|asg U<|nl<|bn' ?_;exact lpE ((Z+1)) (csu U) ⟨(q6.n1 q9),⟨oo,λj hj=>by
  by_cases e:j=Z;subst e;exact(j3s hn.2 hn.1).1 oo;exact b0 j oo⟩⟩ oo
 have b8:Z<hs.length->G (hs.getD Z 0)≠Pm.half:=λh e=>c1 ⟨oo,by rw[(j3s hn.2 hn.1).2 e]⟩;refine ex<|te<|te<|xh<|tn<|sr ?_;have D:=D.ext<|q6.n1 q9;refine z1v U D x1z<|mv U U<|k5g (p:=Z) U U y5f oo oo oo U<|z3f U D U sz65<|λd1 D a6 f4=>?_;have ho:=(ho.ext<|q6.n1 q9).fr a6 (by intro k hk;rw[l11.1 hk];exact a4);have e3:=x9d ho.sl;have c9:Sl Enc.sl d1 (.slice (if cL=Z then AL else AL.map (·.add (Z*Enc.sl.sz))) ((hs.map<|hdr n).length-Z)<|cL-Z) ((hs.map<|hdr n).drop Z):=ho.sl.drop U oo oo oo<|λh=>if_neg oo;refine nn<|sr<|mv U U<|mv U U<|mv U U<|z0w U (wi6 oo)<|z1v U D x1z<|lnS U underlying65<|z4m z0f (ev1 U)<|cl (ev2 U) (mkC func37) (j2d ((hs.map<|hdr n).length-Z) 95 [pta g7] (λi=>((hs.map<|hdr n).drop Z).getD i sv0) _ oo (CallOf.mk' func95 kr kr)<|λi w hi hw=>k0f i g7 _ _ w (c9.ext hw) (D.fr hw sp0) (by rw[l35];exact hi)) U ?_;rintro _ f2 ⟨⟨e0,rfl,a0⟩,q11⟩;have f5:=q11.size;rw[<-l35,v1q]at a0;refine z1t (cs:=[_,_,_]) (ev3 U) k6r (z0g U<|z0g U<|z0g U z0r) U ?_;have I:=((I.ext<|q6.n1 q9).fr a6).ext q11;refine z0j (vs:=[_,_,_]) U I v3t<|λf3 I b4 f6=>(kpL (ll1 6) (csu U)<|nn<|rt<|rC results42 U I x6o  ?_);have a0:=a0.fr b4 (by first|exact z9m a0 oo|simp[z0v]<;>omega);have hF:=(((hF.ext<|q6.n1 q9).fr a6 (by intro k hk;rw[l11.1 hk];exact⟨λhg=>(by have:=a3 _ hg;omega),oo⟩)).ext q11).fr b4 (by intro k hk;rw[l11.1 hk];exact⟨λhg=>(by have:=a3 _ hg;omega),oo⟩);exact⟨_,rfl,⟨(pw+(Z:Int),(hs.drop Z).map G),⟨_,hs.drop Z,G,rfl,by have y:=a0.low (b':=b) oo;rw[l35]at y;rw[List.map_drop];exact y,⟨λg hg=>hF.r g<|a5 g<|List.mem_of_mem_drop hg⟩,rfl,λx hx=>b7 x<|a5 x<|List.mem_of_mem_drop hx⟩,hG.fin hf b0 b8,by rw[l15,l35];omega,sm,sm⟩,hF.f⟩
open Go.Lw Go.G21 Go.G08 Go.G09 Go.G26 _root_.Go.Proofs.Tryz
variable {n:Nat}
theorem x7s (n:Nat):(idN n).length=n:=by simp[idN]
theorem x9c (n:Nat):(hfN n).length=n:=by simp[hfN]
theorem j4g (hn:n<=8)(d:Int)(p:Pm n):(flB d p).l=if d % 2=0 then p.l else flF n p.l:=by
 unfold flB;split;rfl;exact k2x hn p
theorem v8s (d:Int):(flB (-d):Pm n->Pm n)=flB d:=by
 funext p;unfold flB;by_cases h:d % 2=0;rw[if_pos h,if_pos oo];rw[if_neg h,if_neg oo]
theorem j5w (hn:n<=8){k:Int}{K:Nat}(I:k=(K:Int))(h1:1<=K)(D:K<n):(plF n k).l=(idN n).map (swK K):=by
 have h:k.natAbs-1+1<n:=by omega
 have e:plF n k=sg ⟨k.natAbs-1,h⟩:=(dif_pos h).trans<|if_pos oo;rw[e];show (Pm.sR _ Pm.one).l=_;rw[k5w hn,k6p];show (idN n).map (swK<|k.natAbs-1+1)=_;rw[show k.natAbs-1+1=K by omega]
theorem j7k (hn:n<=8){k:Int}{K:Nat}(I:0-k=(K:Int))(h1:1<=K)(D:K<n):(plF n k).l=(hfN n).map (swK K):=by
 have h:k.natAbs-1+1<n:=by omega
 have e:plF n k=Pm.sR ⟨k.natAbs-1,h⟩ Pm.half:=(dif_pos h).trans<|if_neg oo;rw[e,k5w hn,k5s];show (hfN n).map (swK<|k.natAbs-1+1)=_;rw[show k.natAbs-1+1=K by omega]
structure OfS (F:Nat->Pm n) (A:List Nat) (u:List Int) (r b:Nat):Prop where
  l:A.length+r=u.length
  nd:A.Nodup
  lo:∀x∈A,b<=x
  e:A.map F=(fac n<|u.drop r).2
theorem k4b (u:List Int):-(u.length:Int)<=(fac n u).1/\(fac n u).1<=0:=by
 induction u with
 | nil=>simp[fac]
 | cons k u ih=>simp only[fac,l33];split<;>omega
theorem OfS.step {F:Nat->Pm n}{A:List Nat}{u:List Int}{r b g:Nat}(h:OfS F A u r b)(Z:0<r)(O:g∉A)(hb:b<=g):OfS (upF F g<|flB (fac n<|u.drop r).1<|plF n<|u.getD (r-1) 0) (g::A) u (r-1) b:=by
 have hl:=h.l;have D:r-1<u.length:=by omega
 refine⟨by rw[l33];omega,l112.2 ⟨O,h.nd⟩,λx I=>(l56.1 I).elim (λe=>by rw[e];exact hb)<|h.lo x,?_⟩;rw[l32 D,Nat.sub_add_cancel Z,List.getD,l10 D];simp only[fac,l28,y8u,l64];rw[<-h.e];congr 1;exact l107 λx I=>y7j<|λe=>O (e▸I)
theorem u3o {u:List Int}{r:Nat}(I:0<r)(hl:r<=u.length):(fac n<|u.drop<|r-1).1=(fac n<|u.drop r).1-(if 0<u.getD (r-1) 0 then 0 else 1):=by
 have D:r-1<u.length:=by omega
 rw[l32 D,Nat.sub_add_cancel I,List.getD,l10 D];rfl
theorem j2t (n:Nat)(v:Value)(u:List Int)(w0:World)(hu:Sl Enc.i64 w0 v u)(hn:1<=n/\n<=8)(hl:u.length<=64)(D:WdOk n u):Rets prog 35 #[.int .i64 (n:Int),v] w0 λr w'=>(∃(nv:Value) (c:BrN n),r=.tuple #[nv,.int .i64 0]/\NrmS n w0.heap.size w' nv c/\Cn (fac n u) c/\c.2.length<=64/\-64<=c.1/\c.1<=64)/\Fr [] w0 w':=by
 obtain⟨AU,cU,rfl,f3⟩:=id hu.form;refine we [(0,.int .i64 (n:Int)),(1,.slice AU u.length cU)] func35 U ntmps35 U (.c2 U U) ?_;have d9:=hu;refine sr<|al v8u U<|λg4 w1 f4 I q1 z1=>(asg U<|nn<|sq<|sr<|mv U U<|mv U U ?_);have hu:=d9.ext q1;refine cl (ev2 U) (mkC func82) (j5d n _ u _ hu hn hl D) U ?_;rintro _ w2 ⟨rfl,q2⟩;have z2:=q2.size;refine asg U<|nn<|sr<|mv U U<|ne' U<|nn<|cd U (λc0=>?_)<|λc0=>?_;exact absurd U c0;refine sk<|tn<|sr<|asg U<|nn<|sr<|mv U U<|lnS U underlying58<|z1f (m:=u.length) (c:=u.length) (sv0) U y5f k9e U<|λa7 w3 e8 Z q3 z3=>(asg U<|nn<|sq<|sr<|mv U U<|lnS U underlying58<|z2f U (wi6 oo)<|asg U<|nn<|bl<|lpK (ι:=Nat×Int×List Nat×(Nat->Pm n)) (ll4 0 1 4 8) (λp_=>[(9,.int .i64<|(p_.1:Int)-1),(7,.int .i64 p_.2.1)]) (λp_ w'=>Fr [a7] w3 w'/\(p_.1<=u.length/\p_.2.1 = -(fac n<|u.drop p_.1).1)/\OfS p_.2.2.2 p_.2.2.1 u p_.1 w0.heap.size/\FacT 5 n w0 w' p_.2.2.1 p_.2.2.2/\Lw.Own Enc.sl 22 w0.heap.size w' (.slice (saa a7) u.length u.length) (List.replicate p_.1 sv0++p_.2.2.1.map (hdr n))) (λp_=>p_.1) (u.length,0,[],λ_=>Pm.one) (csu U) ⟨l12 _ _,⟨⟨l20 _,by simp only;rw[List.drop_length];rfl⟩,⟨sp0,List.nodup_nil,λx hx=>(by cases hx),by simp only;rw[List.drop_length];rfl⟩,⟨(q1.n2 q2 q3),λx hx=>(by cases hx)⟩,by simpa using Z.low oo⟩⟩ ?_);rintro⟨r,b_,A,F⟩ w4 ⟨q4,⟨⟨d7,a3⟩,hO,hF,Z⟩⟩;simp only at d7 a3 hO hF Z;have z4:=q4.size;refine kpC [(0,_),(1,_),(4,_),(8,_),(9,.int .i64<|(r:Int)-1),(7,.int .i64 b_)] (csu U)<|sq<|sr<|mv U U<|ge' U<|nn<|cd U (λc1=>?_)<|λc1=>?_;have b3:0<r:=by omega
 have f5:=D (u.getD (r-1) 0)<|z1c (d:=0) oo;have a0:=λx (hx:x∈A)=>hF.lt hx;have a4:a7∉A:=hF.ne Z dd _ t10;have d3:=u3o (n:=n) b3 d7;have d1:=k4b (n:=n)<|u.drop r;rw[l35]at d1;have d6:List.replicate r sv0=List.replicate (r-1+1) sv0:=by rw[Nat.sub_add_cancel b3]
 have d4:(List.replicate r sv0++A.map (hdr n)).length=u.length:=by rw[l13,l23,l15];have:=hO.l;omega
 refine sk<|tn<|sq<|bl<|sr<|mv U U<|mv U U ?_;have hu:=d9.ext<|q1.z3 q2 q3 q4;refine z0z (p:=(r-1)) (0) U hu U y0l oo<|λe7 b9=>(z1b U (b9 _ hu) na3<|asg U<|nn<|sr<|mv U U<|gt' U<|nn<|cd U (λc2=>?_)<|λc2=>?_);obtain⟨K,a9⟩:∃K:Nat,(u.getD (r-1) 0)=(K:Int):=⟨(u.getD (r-1) 0).toNat,oo⟩;have hK:1<=K/\K<n:=⟨oo,oo⟩;refine rg<|mv U U<|mv U U<|mv U U<|cl (ev1 U) (mkC func84) (j9q n _ hn.2) U ?_;rintro _ w5 ⟨⟨b7,rfl,a1⟩,q5⟩;have z5:=q5.size;refine mv U U ?_;have e0:=a1.blk b7 t10;refine cl (ev2 U) (mkC func83) (by have x:=x8v (idN n) b7 K _ _ (by have y:=a1;rw[x7s];exact y) oo (by rw[x7s];exact hn.2);rw[x7s,<-a9]at x;exact x) U ?_;rintro _ w6 ⟨rfl,a1,q6⟩;have z6:=q6.size;rw[<-j5w hn.2 a9 hK.1 hK.2]at a1;refine mv U U<|cl (ev2 U) (mkC func39) (by have x:=x7y _ (plF n<|u.getD (r-1) 0).l b_ _ a1.sl (by rw[z2m];exact x5v hn.2 _) (by rw[z2m];exact hn);rw[z2m,<-j4g hn.2,a3,show (flB (-(fac n<|u.drop r).1):Pm n->Pm n)=flB (fac n<|u.drop r).1 from v8s _]at x;rw[a3];exact x) U ?_;rintro _ w7 ⟨⟨b0,rfl,a5⟩,q7⟩;have z7:=q7.size;have e9:=a5.blk b0 t10;have Z:=((Z.ext q5).fr q6 t11).ext q7;refine z5h (p:=(r-1)) (E:=Enc.sl) U y5f<|z3g (i:=(r-1)) ((hdr n b0)) U Z (by rw[d4];omega) U k6e<|λw8 Z q8 z8=>?_;rw[d6,v7a]at Z;refine kpL (ll6 0 1 4 7 8 9) (csu U)<|nl<|bn'<|tn<|rg<|mv U U<|z2f U (show IntKind.i64.wrap ((r:Int)-1-1)=((r-1:Nat):Int)-1 from (wi6 oo).trans oo)<|asg U<|nl ?_;have hF:=(((hF.ext q5).fr q6 (by intro k D;rw[l11.1 D];first|exact⟨a4,oo⟩|exact⟨λO=>(by have:=a0 _ O;omega),oo⟩)).ext q7).fr q8 (by intro k D;rw[l11.1 D];first|exact⟨a4,oo⟩|exact⟨λO=>(by have:=a0 _ O;omega),oo⟩);have a5:=a5.fr q8 t11;exact lpE ((r-1,b_,b0::A,upF F b0<|flB (fac n<|u.drop r).1<|plF n<|u.getD (r-1) 0)) (csu U) ⟨((l12 [a7] _).z5 q4 q5 q6 q7 q8),⟨⟨sm,by simp only;rw[d3,if_pos c2];omega⟩,hO.step b3 (λO=>by have:=a0 _ O;omega) oo,hF.add (a5.low<|l17 _) (λO=>by have:=a0 _ O;omega),Z⟩⟩ sm;obtain⟨K,a9⟩:∃K:Nat,0-(u.getD (r-1) 0)=(K:Int):=⟨(0-(u.getD (r-1) 0)).toNat,oo⟩;have hK:1<=K/\K<n:=⟨oo,oo⟩;refine sr<|mv U U<|mv U U<|mv U U<|cl (ev1 U) (mkC func85) (k3a n _ hn.2) U ?_;rintro _ w9 ⟨⟨b8,rfl,a2⟩,q9⟩;have z9:=q9.size;refine mv U U<|k0n U (wi6 oo) U ?_;have e1:=a2.blk b8 t10;refine cl (ev2 U) (mkC func83) (by have x:=x8v (hfN n) b8 K _ _ (by have y:=a2;rw[x9c];exact y) oo (by rw[x9c];exact hn.2);rw[x9c,<-a9]at x;exact x) U ?_;rintro _ f8 ⟨rfl,a2,b4⟩;have g3:=b4.size;rw[<-j7k hn.2 a9 hK.1 hK.2]at a2;refine mv U U<|cl (ev2 U) (mkC func39) (by have x:=x7y _ (plF n<|u.getD (r-1) 0).l b_ _ a2.sl (by rw[z2m];exact x5v hn.2 _) (by rw[z2m];exact hn);rw[z2m,<-j4g hn.2,a3,show (flB (-(fac n<|u.drop r).1):Pm n->Pm n)=flB (fac n<|u.drop r).1 from v8s _]at x;rw[a3];exact x) U ?_;rintro _ f9 ⟨⟨b1,rfl,a6⟩,q11⟩;have g5:=q11.size;have f0:=a6.blk b1 t10;have Z:=((Z.ext q9).fr b4 t11).ext q11;refine z5h (p:=(r-1)) (E:=Enc.sl) U y5f<|z3g (i:=(r-1)) ((hdr n b1)) U Z (by rw[d4];omega) U k6e<|λg0 Z b5 g6=>?_;rw[d6,v7a]at Z;refine kpL (ll6 0 1 4 7 8 9) (csu U)<|nn<|rg<|mv U U<|z0w U (wi6 oo)<|asg U<|nl<|bn'<|tn<|rg<|mv U U<|z2f U (show IntKind.i64.wrap ((r:Int)-1-1)=((r-1:Nat):Int)-1 from (wi6 oo).trans oo)<|asg U<|nl ?_;have hF:=(((hF.ext q9).fr b4 (by intro k D;rw[l11.1 D];first|exact⟨a4,oo⟩|exact⟨λO=>(by have:=a0 _ O;omega),oo⟩)).ext q11).fr b5 (by intro k D;rw[l11.1 D];first|exact⟨a4,oo⟩|exact⟨λO=>(by have:=a0 _ O;omega),oo⟩);have a6:=a6.fr b5 t11;exact lpE ((r-1,b_+1,b1::A,upF F b1<|flB (fac n<|u.drop r).1<|plF n<|u.getD (r-1) 0)) (csu U) ⟨((l12 [a7] _).z5 q4 q9 b4 q11 b5),⟨⟨sm,by simp only;rw[d3,if_neg c2];omega⟩,hO.step b3 (λO=>by have:=a0 _ O;omega) oo,hF.add (a6.low<|l17 _) (λO=>by have:=a0 _ O;omega),Z⟩⟩ sm;obtain rfl:r=0:=by omega
 rw[l91,l45]at Z;rw[List.drop_zero]at a3;have d1:=k4b (n:=n) u;have f1:=hO.l;refine ex<|te<|te<|xh<|tn<|sr<|mv U U<|mv U U<|k0n U (wi6 oo) U<|mv U U ?_;have I:=(I.ext<|q2.n1 q3).fr q4;refine cl (ev3 U) (mkC func42) (v5l n _ _ A F _ Z.sl hF.start hO.nd (λk D hb=>hF.ne Z dd k hb D) oo hn oo w0.heap.size oo hO.lo) U ?_;rintro _ e6 ⟨⟨c,⟨f7,hs,G,rfl,a8,b2,e2,e3⟩,hC,hc1,hc2,hc3⟩,qA⟩;have e5:Fr [] w0 e6:=(q1.z3 q2 q3 q4).step qA<|λk D f6=>absurd (hO.lo k D) oo;have g7:=qA.size;have I:=I.fr qA<|λD=>Own.neB (hF.r _ D) I dd t10;obtain⟨A9,c9,rfl,f2⟩:=a8.sl.form;clear hF Z;have e4:=Own.neB a8 I dd;have d5:g4∉hs:=λO=>Own.neB (b2.r _ O) I dd t10;refine z0j (vs:=[_,_,_]) U I v3t<|λg1 I b6 g8=>(asg U<|kpL (ll2 4 5) (csu U)<|nn<|rt<|rCT results35 U I x6o U ?_);have a8:=a8.fr b6 (by intro k D;rw[l11.1 D];exact e4);have b2:=b2.fr b6 (by intro k D O;rw[l11.1 D]at O;exact d5 O);have d0:=hO.e;rw[List.drop_zero]at d0;rw[a3,show (0 - -(fac n u).1:Int)=(fac n u).1 by omega,d0]at hC;exact⟨_,rfl,⟨_,c,rfl,⟨_,hs,G,rfl,a8,b2,e2,e3⟩,hC,oo,oo,oo⟩,(e5.z1 b6)⟩
open Go.Lw Go.G21 Go.G08 Go.G09 Go.G26 _root_.Go.Proofs.Tryz
theorem y1a:z1d prog 67 0 0:=λ_ _=>kr
theorem y4d:z1d prog 67 1 1:=λ_ _=>kr
theorem z8e:z1d prog 67 2 2:=λ_ _=>kr
theorem k3z (v1 v2:Value)(l1 l2:List UInt8)(w0:World)(h1:Sl Enc.b w0 v1 l1)(Z:Sl Enc.b w0 v2 l2)(hl:l1.length<=100000):Rets prog 44 #[v1,v2] w0 λr w'=>r=.bool (decide (l1=l2))/\Fr [] w0 w':=by
 obtain⟨A1,k1,rfl,a6⟩:=id h1.form;obtain⟨A2,k2,rfl,a7⟩:=id Z.form;refine we [(0,.slice A1 l1.length k1),(1,.slice A2 l2.length k2)] func44 U ntmps44 U (.c2 U U) ?_;have a2:=h1;have a3:=Z;refine sr<|asg U<|nn<|sq<|sr<|mv U U<|lnS U underlying22<|mv U U<|lnS U underlying22<|ne' U<|nn<|cd U (λc0=>?_)<|λc0=>?_;refine sr<|asg U<|nn<|rt<|tr<|r1 results44 U ?_;exact⟨_,rfl,congrArg Value.bool (decide_eq_false<|λe=>c0 t18).symm,(l12 _ _)⟩;refine sk<|tn<|sq<|sr<|mv U U<|lnS U underlying22<|mv U U<|nn<|bl<|lpK (ι:=Nat) (ll3 0 1 12) (λi=>[(13,.int .i64 (i:Int))]) (λi w'=>Fr [] w0 w'/\i<=l1.length/\∀j,j<i->l1.getD j 0=l2.getD j 0) (λi=>l1.length-i) 0 (csu U) ⟨l12 _ _,⟨l17 _,λj h=>absurd h oo⟩⟩ ?_;rintro i w1 ⟨q1,⟨hi,hz⟩⟩;refine kpC (ll4 0 1 12 13) (csu U)<|sr<|lt' U<|nn<|sq<|cd U (λc1=>?_)<|λc1=>?_;refine sk<|tn<|sq<|bl<|sr<|mv U U<|asg U<|nn<|sq ?_;have h1:=a2.ext q1;have Z:=a3.ext q1;intro a h;have D:=l12 [] w1;refine z2t (λwb w'=>Fr [] wb w') z2s ?_;intro w2 hq;have h1:=h1.ext hq;have Z:=Z.ext hq;have D:=D.next hq;have a8:=hq.size;have hC:Fr [] w2 w2:=l12 _ _;have I:=h1;have O:=Z;refine z0e 0 h U λa h=>z0e 1 h U λa h=>z1e (p:=i) (0) 2 h U h1 U y4n U λa4 a0 a h=>z1z 3 h U (λ_ hw=>a0 _<|I.ext hw) na5 U λa h=>z0e 4 h U λa h=>z0e 5 h U λa h=>z1e (p:=i) (0) 6 h U Z U y4n U λa5 a1 a h=>z1z 7 h U (λ_ hw=>a1 _<|O.ext hw) na5 U λa h=>u0x 8 hC h wn U U U U λa h=>z0q ?_;clear hC I O;refine bk (h.sub (L':=ll5 0 1 12 13 24)<|csu U)<|tn<|cd U (λc2=>?_)<|λc2=>?_;refine sr<|asg U<|nn<|rt<|rb<|tr<|tr<|rb<|tr<|r1 results44 U ?_;exact⟨_,rfl,congrArg Value.bool (decide_eq_false<|λe=>c2 t18).symm,(q1.n1 D)⟩;refine sk<|bn'<|tn<|rg<|z0w U (wi6 oo)<|mv U U<|nl ?_;exact lpE (i+1) (csu U) ⟨(q1.n1 D),⟨oo,λj h=>by
  by_cases e:j=i;subst e;exact UInt8.toNat.inj oo;exact hz j oo⟩⟩ oo
 obtain rfl:i=l1.length:=by omega
 refine ex<|te<|te<|xh<|tn<|sr<|asg U<|nn<|rt<|r1 results44 U ?_;exact⟨_,rfl,congrArg Value.bool (decide_eq_true<|y7m 0 oo<|λj hj=>hz j oo).symm,q1⟩
variable {n:Nat}
def z3h (F:Nat->Pm n)(hs:List Nat):List (List UInt8):=hs.map λg=>(F g).l
theorem k7w (hn:n<=8){p q:Pm n}(h:p.l=q.l):p=q:=Pm.ext λx=>by
 have D:=v9g hn p x.2
 rw[h,v9g hn q x.2]at D
 have I:(q.f x).1+1=(p.f x).1+1:=D
 exact l108 oo
theorem x1i (hn:n<=8){F G:Nat->Pm n}:∀ {a b:List Nat},z3h F a=z3h G b↔a.map F=b.map G
 | [],[]=>⟨λ_=>rfl,λ_=>rfl⟩
 | [],_::_=>⟨λh=>(by cases h),λh=>(by cases h)⟩
 | _::_,[]=>⟨λh=>(by cases h),λh=>(by cases h)⟩
 | x::a,y::b=>by
  have D:=x1i hn (F:=F) (G:=G) (a:=a) (b:=b)
  unfold z3h at D ⊢
  rw[l28,l28,l28,l28,List.cons.injEq,List.cons.injEq,D]
  exact⟨λh=>⟨k7w hn h.1,h.2⟩,λh=>⟨by rw[h.1],h.2⟩⟩
theorem y5a {F:Nat->Pm n}{a:List Nat}{i:Nat}(h:i<a.length):(z3h F a).getD i []=(F<|a.getD i 0).l:=by
 unfold z3h;rw[List.getD,l24,l10 h,List.getD,l10 h];rfl
theorem k3x (n a7 a8:Nat)(D I:List Nat)(F1 F2:Nat->Pm n)(v1 v2:Value)(w0:World)(h1:Lw.Own Enc.sl 22 a7 w0 v1 (D.map<|hdr n))(h2:Lw.Own Enc.sl 22 a8 w0 v2 (I.map<|hdr n))(Z:RwsB 5 n w0 D F1)(a0:RwsB 5 n w0 I F2)(hn:n<=8)(hl:D.length<=1000):Rets prog 43 #[v1,v2,.func (.func 44) #[] #[]] w0 λr w'=>r=.bool (decide (z3h F1 D=z3h F2 I))/\Fr [] w0 w':=by
 obtain⟨A1,k1,rfl,b3⟩:=id h1.sl.form;obtain⟨A2,k2,rfl,b4⟩:=id h2.sl.form;have e1:(D.map<|hdr n).length=D.length:=l15 ..;have e2:(I.map<|hdr n).length=I.length:=l15 ..;refine we [(0,.slice A1 (D.map<|hdr n).length k1),(1,.slice A2 (I.map<|hdr n).length k2),(2,.func (.func 44) #[] #[])] func43 U ntmps43 U (.c3 U U U) ?_;have a9:=h1;have b0:=h2;have a5:=Z;have a6:=a0;refine sr<|asg U<|nn<|sq<|sr<|mv U U<|lnS U underlying65<|mv U U<|lnS U underlying65<|ne' U<|nn<|cd U (λc0=>?_)<|λc0=>?_;refine sr<|asg U<|nn<|rt<|tr<|r1 results43 U ?_;exact⟨_,rfl,congrArg Value.bool (decide_eq_false<|λe=>c0 (by have y:=congrArg List.length e;simp only[z3h,l15]at y;rw[e1,e2,y])).symm,(l12 _ _)⟩;refine sk<|tn<|sq<|sr<|mv U U<|lnS U underlying65<|mv U U<|nn<|bl<|lpK (ι:=Nat) (ll4 1 2 15 16) (λi=>[(17,.int .i64 (i:Int))]) (λi w'=>Fr [] w0 w'/\i<=(D.map<|hdr n).length/\∀j,j<i->(F1<|D.getD j 0).l=(F2<|I.getD j 0).l) (λi=>(D.map<|hdr n).length-i) 0 (csu U) ⟨l12 _ _,⟨l17 _,λj h=>absurd h oo⟩⟩ ?_;rintro i w1 ⟨O,⟨hi,hz⟩⟩;refine kpC (ll5 1 2 15 16 17) (csu U)<|sr<|lt' U<|nn<|sq<|cd U (λc1=>?_)<|λc1=>?_;refine sk<|tn<|sq<|bl<|sr<|mv U U ?_;have h1:=a9.ext O;refine z0z (p:=i) (sv0) U h1.sl U y5f oo<|λb1 a3=>(z1b U (a3 _ h1.sl) x2s<|asg U<|asg U<|nn<|sr<|mv U U<|mv U U ?_);have h2:=b0.ext O;refine z0z (p:=i) (sv0) U h2.sl U y5f oo<|λb2 a4=>(z1b U (a4 _ h2.sl) x2s<|asg U<|nn<|sr<|mv U U<|mv U U<|mv U U ?_);have Z:=a5.ext O;have a0:=a6.ext O;refine clv (us:=[]) (ws:=[]) U (ev2 U) (mkC func44) (by have x:=k3z (.slice (some ⟨(D.getD i 0),0,none⟩) n n) (.slice (some ⟨(I.getD i 0),0,none⟩) n n) (F1<|D.getD i 0).l (F2<|I.getD i 0).l _ (Z.r _<|z3q oo).sl (a0.r _<|z3q oo).sl t48;rw[z6r (n:=n) (L:=D) oo,z6r (n:=n) (L:=I) oo]at x;exact x) U t14 ?_;rintro _ w2 ⟨rfl,q2⟩;refine nt' U<|kpL (ll6 1 2 15 16 17 30) (csu U)<|nn<|cd U (λc2=>?_)<|λc2=>?_;refine sr<|asg U<|kpL (ll1 6) (csu U)<|nn<|rt<|rb<|tr<|tr<|rb<|tr<|r1 results43 U ?_;exact⟨_,rfl,congrArg Value.bool (decide_eq_false<|λe=>c2 (by rw[<-y5a (F:=F1) oo,<-y5a (F:=F2) oo,e])).symm,(O.n1 q2)⟩;refine sk<|bn'<|tn<|rg<|z0w U (wi6 oo)<|mv U U<|nl ?_;exact lpE (i+1) (csu U) ⟨(O.n1 q2),⟨oo,λj h=>by
  by_cases e:j=i;subst e;exact l18.1 c2;exact hz j oo⟩⟩ oo
 obtain rfl:i=(D.map<|hdr n).length:=by omega
 refine ex<|te<|te<|xh<|tn<|sr<|asg U<|kpL (ll1 6) (csu U)<|nn<|rt<|r1 results43 U ?_;exact⟨_,rfl,congrArg Value.bool (decide_eq_true<|y7m [] (by simp only[z3h,l15];omega) (λj hj=>by rw[z3h,l15]at hj;rw[y5a oo,y5a oo];exact hz j oo)).symm,O⟩
theorem u6s (n b1 b2:Nat)(v1 v2:Value)(c d:BrN n)(w0:World)(hc:NrmS n b1 w0 v1 c)(hd:NrmS n b2 w0 v2 d)(hn:n<=8)(hl:c.2.length<=1000):Rets prog 17 #[v1,v2] w0 λr w'=>(∃b:Bool,r=.bool b/\(c=d->b=true))/\Fr [] w0 w':=by
 obtain⟨o1,a1,F1,rfl,h1,a0,e1,-⟩:=hc;obtain⟨o2,a2,F2,rfl,h2,a3,e2,-⟩:=hd;obtain⟨A1,k1,rfl,b3⟩:=id h1.sl.form;obtain⟨A2,k2,rfl,b4⟩:=id h2.sl.form;have a8:a1.length<=1000:=by have:=congrArg List.length e1;rw[l15]at this;omega
 refine we [(0,.agg #[.int .i64 (n:Int),.int .i64 c.1,.slice A1 (a1.map<|hdr n).length k1]),(1,.agg #[.int .i64 (n:Int),.int .i64 d.1,.slice A2 (a2.map<|hdr n).length k2])] func17 U ntmps17 U (.c2 U U) ?_;have a6:=h1;have a7:=h2;have a4:=a0;have a5:=a3;refine sr<|bx U<|λg2 w1 a9 D Z z1=>(bx U<|λg3 w2 b0 O I z2=>(asg U<|nn<|sr<|fad U y1a ?_));have D:=D.ext I;refine z0i U D U na3<|fad U y1a<|z0i U O U na3<|eq' U<|mv U U<|gs 10 U (λg0=>?_)<|λg0=>?_;refine gY U<|fad U y4d<|gY U<|z0i U D U na3<|gY U<|fad U y4d<|gY U<|z0i U O U na3<|gY U<|eq' U<|pkt U<|mv U U<|gs 17 U (λg1=>?_)<|λg1=>?_;refine gY U<|fad U z8e<|gY U<|z0i U D U x1z<|gY U<|fad U z8e<|gY U<|z0i U O U x1z<|gY U ?_;have h1:=a6.ext<|Z.n1 I;have h2:=a7.ext<|Z.n1 I;have a0:=a4.ext<|Z.n1 I;have a3:=a5.ext<|Z.n1 I;refine cl (ev3 U) (mkC func43) (k3x n b1 b2 a1 a2 F1 F2 _ _ _ h1 h2 a0 a3 hn a8) U ?_;rintro _ w3 ⟨rfl,q3⟩;refine pkt U<|asg U<|kpL (ll1 4) (csu U)<|nn<|rt<|r1 results17 U ?_;exact⟨_,rfl,⟨_,rfl,λe=>by first|exact decide_eq_true<|(x1i hn).2 (by rw[e1,e2,e])|exact absurd (congrArg Prod.fst e) g1|exact absurd U g0⟩,(Z.n2 I q3)⟩;refine gN U<|gN U<|gN U<|gN U<|gN U<|pkf U<|asg U<|kpL (ll1 4) (csu U)<|nn<|rt<|r1 results17 U ?_;exact⟨_,rfl,⟨_,rfl,λe=>by first|exact decide_eq_true<|(x1i hn).2 (by rw[e1,e2,e])|exact absurd (congrArg Prod.fst e) g1|exact absurd U g0⟩,(Z.n1 I)⟩;refine gN U<|gN U<|gN U<|gN U<|gN U<|pkf U<|mv U U<|gN U<|gN U<|gN U<|gN U<|gN U<|pkf U<|asg U<|kpL (ll1 4) (csu U)<|nn<|rt<|r1 results17 U ?_;exact⟨_,rfl,⟨_,rfl,λe=>by first|exact decide_eq_true<|(x1i hn).2 (by rw[e1,e2,e])|exact absurd (congrArg Prod.fst e) g1|exact absurd U g0⟩,(Z.n1 I)⟩
open Go.Lw Go.G21 Go.G08 Go.G09 Go.G26 _root_.Go.Proofs.Tryz
end Go.Proofs.YtkafbfjmcigaiaaGreatDoor
namespace Go.Lw
theorem v9p {c:UInt8}:∀ {l:List UInt8},c∉l->Lib.index l [c] = -1
 | [],_=>by simp[Lib.index]
 | b::l,h=>by
  have D:¬c=b:=λe=>h (by rw[e];simp)
  have hl:c∉l:=λe=>h (by simp[e])
  rw[Lib.index,v9p hl]
  simp[List.isPrefixOf,D]
theorem j1g {c:UInt8}(y:List UInt8):∀ {x:List UInt8},c∉x->Lib.index (x++c::y) [c]=x.length
 | [],_=>by simp[Lib.index,List.isPrefixOf]
 | b::x,h=>by
  have D:¬c=b:=λe=>h (by rw[e];simp)
  have hl:c∉x:=λe=>h (by simp[e])
  rw[l48,Lib.index,j1g y hl]
  simp only[List.isPrefixOf,beq_eq_false_iff_ne.2 D,Bool.false_and,Bool.false_eq_true,if_false]
  rw[if_neg se];simp
theorem cnt {c:UInt8}:∀(f:Nat) (s:List UInt8),s.length<f->Lib.countFrom [c] f s=s.count c
 | 0,s,h=>by omega
 | f+1,s,h=>by
  rw[Lib.countFrom]
  by_cases hm:c∈s
  ·obtain⟨x,y,rfl,D⟩:=List.eq_append_cons_of_mem hm
   rw[j1g y D,if_neg se]
   have e:(x++c::y).drop ((x.length:Int).toNat + [c].length)=y:=by
    rw[l96,show x++c::y=(x++[c])++y by simp,show x.length + [c].length=(x++[c]).length by simp,List.drop_left]
   rw[e,cnt f y (by simp at h;omega)]
   simp[l75.2 D];omega
  rw[v9p hm,if_pos dd,l75.2 hm]
end Go.Lw
namespace Go.G08
open Go.Lw Go.G21
theorem x2v {p:MSt}{o:MOp}(h:y1b o=0):doM p o=opM p o:=by unfold doM;rw[if_neg (by rw[h];simp)]
end Go.G08
namespace Go.G09
open Go.Lw Go.G21 Go.G08
theorem j3v {B:Bd}{r d x:Int}(Z:BdOk B)(hd:d=0\/d=1):j0a (z7g B r d x):=λq D=>by
 refine⟨Z.nm _<|x5z D,?_⟩
 have I:q∈y4r B r d x B.b.length:=by
  unfold z7g at D
  split at D
  ·exact l126.1 D
  exact D
 unfold y4r at I
 obtain⟨k,_,O⟩:=l74.1 I
 unfold x2i at O
 split at O
 ·cases O
 obtain⟨y,_,rfl⟩:=l55.1 O
 show z6k (1-d)
 unfold z6k;omega
end Go.G09
namespace Go.G26
open Go.Lw Go.G21 Go.G08 Go.G09
theorem y0r {p:MSt}{d x:Int}(hB:BdOk p.B)(hd:d=0\/d=1):∀ {l:List Yn},(∀y∈l,y1v y)->z4e p d l=.error x->x=3
 | [],_,e=>by cases e
 | y::l,hl,e=>by
  unfold z4e at e
  split at e
  ·rename_i z O
   cases e
   unfold z7i at O
   split at O
   ·cases O
   rename_i a0
   split at O
   ·cases O
    have Z:=hl y l39
    rename_i D
    unfold goE at D ⊢
    have I:y.inn=true:=by simpa using a0
    have a1:x3r y.pl:=by
     have h2:=Z.2
     rw[if_pos I]at h2
     exact h2.1
    rw[j1s Z,if_neg dd,if_neg (λh=>h a1),if_neg (λh=>h<|j3v hB hd),if_neg (by rw[I];decide)]at D ⊢
    split
    ·rfl
    rename_i h4;rw[if_neg h4]at D;exact absurd U D
   cases O
  split at e
  ·rename_i z O
   cases e
   exact y0r hB hd (λy Z=>hl y<|l41 _ Z) O
  cases e
theorem u6r {p:MSt}{l:List MOp}{x:Int}(e:z2j p l=.error x):x≠0:=λD=>by
 subst D
 unfold z2j at e
 split at e
 ·cases e
 split at e
 ·cases e
 split at e
 ·cases e
 split at e
 ·rename_i y I
  split at e
  ·cases e
  exact v0x (n:=y.2) (e:=y.1) I<|Except.error.inj e
 split at e<;>cases e
theorem y6w {p q:MSt}{l:List MOp}{u:List Int}(e:z2j p l=.ok (u,q)):isP l=true/\l.length<=4096/\p.B.flat.length<=8/\z3d 0 p l=.ok q:=by
 unfold z2j at e;split at e;cases e;rename_i D;split at e;cases e;split at e;cases e;split at e;split at e<;>cases e
 rename_i q' I;split at e;cases e;cases e;exact⟨by simpa using D,oo,oo,I⟩
theorem z7a {p q:MSt}{l:List MOp}{u:List Int}(hv:MVal p)(e:z2j p l=.ok (u,q)):u.length<=64/\(z4f p (z3v p,[]) l).2=u/\(∀k∈u,1<=k.natAbs/\k.natAbs<(z3v p).length)/\(z3v p=[]->u=[])/\(z3v q).length=(z3v p).length:=by
 obtain⟨h1,h2,h3,h4⟩:=y6w e;obtain⟨w,I,O,Z,a4,a5,a6,-⟩:=x0d hv h1 h4 h2 h3 U;have hl:w.length<=64:=Nat.le_of_not_lt λD=>by rw[O D]at e;cases e
 rw[Z hl]at e;cases e;exact⟨hl,I,a4,λD=>a5 (by rw[D];rfl),a6⟩
theorem v6c {p q:MSt}{l:List MOp}(hv:MVal p)(hs:isP l=true)(O:l.length<=4096)(Z:p.B.flat.length<=8)(hr:z3d 0 p l=.ok q):z2j p l=.error 3\/∃u,z2j p l=.ok (u,q):=by
 obtain⟨w,-,D,I,-⟩:=x0d hv hs hr O Z U;by_cases c:64<w.length;exact .inl<|D c;exact .inr ⟨w,I oo⟩
theorem v7j {p:MSt}(D:MVal p)(I:p.B.flat.length<=8):z2j p []=.ok ([],p):=by
 rcases v6c (q:=p) D (l:=[]) U sp0 I U with h|⟨u,h⟩
 unfold z2j at h;rw[if_neg dd,if_neg sp0,if_neg oo]at h;simp only[z3d]at h;unfold y0v at h;split at h;rename_i e;split at e<;>cases e
 cases h;have O:=z7a D h;rw[show u=[] from O.2.1.symm]at h;exact h
theorem y3d (p:MSt):(z3v p).length=p.B.flat.length:=by unfold z3v;rw[l15,(z7z _ _).length_eq,z8q]
end Go.G26
namespace Go.Proofs.YtkafbfjmcigaiaaGreatDoor
open Go.Lw Go.G21 Go.G08 Go.G09 Go.G26 _root_.Go.Proofs.Tryz
theorem v1t {w':World}{p:MSt}{l:List MOp}{N base:Nat}{A:Option Addr}{ws:List Int}{s':StQ}{e:Int}(D:BrR w' p l N base A ws s' e):(∃x,z2j p l=.error x/\e=x/\x≠0/\ws=[]/\s'=stZ)\/(∃q,z2j p l=.ok (ws,q)/\e=0/\StP s' q N):=by
 cases hX:z2j p l with
 | error x=>
  obtain⟨a,b,c⟩:=D.er x hX;exact .inl ⟨x,rfl,a,u6r hX,b,c⟩
 | ok r=>
  obtain⟨u,q⟩:=r;obtain⟨a,b,c⟩:=D.ok u q hX;subst b;exact .inr ⟨q,rfl,a,c⟩
theorem k0d {w':World}{p:MSt}{l:List MOp}{N base:Nat}{A:Option Addr}{ws:List Int}{s':StQ}{e:Int}(Z:BrR w' p l N base A ws s' e)(he:e≠0):z2j p l=.error e/\ws=[]/\s'=stZ:=by
 rcases v1t Z with ⟨x,I,D,-,O⟩|⟨q,-,D,-⟩
 subst D;exact⟨I,O⟩;exact absurd D he
theorem v7k {w':World}{p:MSt}{l:List MOp}{N base:Nat}{A:Option Addr}{ws:List Int}{s':StQ}{e:Int}(Z:BrR w' p l N base A ws s' e)(he:e=0):∃q,z2j p l=.ok (ws,q)/\StP s' q N:=by
 rcases v1t Z with ⟨x,-,D,O,-⟩|⟨q,I,-,D⟩
 exact absurd (D▸he) O;exact⟨q,I,D⟩
theorem j5s (s:StQ)(p q:MSt)(N:Nat)(A:Option Addr)(c:Nat)(l:List MOp)(mo:Int)(w0:World)(hS:StAt w0 s)(hP:StP s p N)(hv:Sl z3i w0 (.slice A l.length c) l)(I:StT w0)(hN:N+l.length<=1000)(h8:p.B.flat.length<=8)(a4:0<=mo):Rets prog 6 #[svv s,.slice A l.length c,.int .i64 mo] w0 λr w'=>(∃(m:Nat) (u:List Int) (q':MSt),m<=l.length/\r=.slice A m c/\z2j (nrm p) (l.take m)=.ok (u,q')/\(u.length:Int)<=mo)/\Fr [] w0 w':=by
 have a2:=x9d hv;obtain⟨_,c_,a3,a9⟩:=id hv.form;cases a3;refine we [(0,svv s),(1,.slice A l.length c),(2,.int .i64 mo)] func6 U ntmps6 U (.c3 U U U) ?_;have a1:=hS;have a6:=hv;have Z:=I;refine sr<|bx U<|λg3 w1 b0 O q1 z1=>(asg U<|nn<|sq<|bl<|lpK (ι:=Nat) (ll2 2 3) (λm=>[(1,.slice A m c)]) (λm w'=>Fr [] w1 w'/\m<=l.length) (λm=>m) l.length (csu U) ⟨l12 _ _,l20 _⟩ ?_);rintro m w2 ⟨D,hm⟩;have z2:=D.size;refine kpC (ll3 2 3 1) (csu U)<|sq<|sr<|mv U U<|lnS U underlying38<|gt' U<|nn<|cd U (λc0=>?_)<|λc0=>?_;refine sk<|tn<|bl<|sr ?_;have O:=O.ext D;refine z0l U O z8f<|mv U U ?_;have hv:=a6.ext<|q1.n1 D;have a7:=hv.take U (m:=m) hm (B:=A) (c':=c) oo a2<|λ_=>rfl;have hS:=a1.ext<|q1.n1 D;have I:=Z.ext<|q1.n1 D;refine cl (ev2 U) u2g (z5k s p N _ (l.take m) _ hS hP t19 a7 I) U ?_;rintro _ w3 ⟨⟨A7,ws,t8,e9,rfl,hB⟩,q3⟩;have z3:=q3.size;have a8:=hB.o.sl.len_le;unfold maxLen at a8;refine mv U U<|xt U<|xt U<|xt U<|al y7t U<|λg8 w4 b1 a0 q4 z4=>(asg U<|z0j (vs:=[_,_,_,_,_,_,_,_]) U a0 z9z<|λw5 a0 q5 z5=>(asg U<|kpL (ll5 1 2 3 7 9) (csu U)<|nn<|sq<|sq<|rbo (r:=27) (L':=ll3 1 2 3) (((e9=0)/\((ws.length:Int)<=mo))) (csu U) ?_ ?_));refine mv U U<|eq' U<|mv U U<|gs 22 U (λg0=>?_)<|λg0=>?_;exact gY U<|mv U U<|gY U<|lnS U underlying58<|gY U<|mv U U<|gY U<|le' U U<|pkt U<|rbe U<|csu U;exact gN U<|gN U<|gN U<|gN U<|pkf U<|rbe U<|csu U;refine tn<|cd U (λc1=>?_)<|λc1=>?_;obtain⟨q',a5,-⟩:=v7k hB c1.1;exact ex<|te<|xo U<|te<|xh<|tn<|sr<|mv U U<|asg U<|nn<|rt<|r1 results6 U ⟨_,rfl,⟨m,ws,q',hm,rfl,a5,c1.2⟩,(q1.z4 D q3 q4 q5)⟩;exact sk<|tn<|rg<|mv U U<|mv U U<|lnS U underlying38<|z2f U (wi6 oo)<|v0s (p:=(m-1)) U U y5d U<|asg U<|kpL (ll3 1 2 3) (csu U)<|nl<|bn'<|lpE ((m-1)) (csu U) ⟨(D.z3 q3 q4 q5),oo⟩ oo;obtain rfl:m=0:=by omega
 exact ex<|te<|te<|xh<|tn<|sr<|mv U U<|asg U<|nn<|rt<|r1 results6 U ⟨_,rfl,⟨0,[],nrm p,l17 _,rfl,by rw[l93];exact v7j (z4p hP.v) h8,by simpa using a4⟩,(q1.n1 D)⟩
def NmlR (b:Nat)(w':World)(p:MSt)(l:List MOp)(n:Nat)(nv:Value)(f:Int):Prop:=(∀x,z2j (nrm p) l=.error x->f=x)/\∀u q,z2j (nrm p) l=.ok (u,q)->(n=0->f=13)/\(n≠0->f=0/\∃c:BrN n,NrmS n b w' nv c/\Cn (fac n u) c/\c.2.length<=64/\-64<=c.1/\c.1<=64)
theorem x3e (s:StQ)(p:MSt)(N:Nat)(v:Value)(l:List MOp)(w0:World)(hS:StAt w0 s)(hP:StP s p N)(hn:N+l.length<=1000)(hv:Sl z3i w0 v l)(a4:StT w0)(h8:p.B.flat.length<=8):Rets prog 15 #[svv s,v] w0 λr w'=>(∃(x1 x2:Int) (X:SV) (f:Int),r=.tuple #[.agg #[.int .i64 x1,.int .i64 x2,.slice X.1 X.2.1 X.2.2],.int .i64 f]/\NmlR w0.heap.size w' p l s.q.p.flat.length (.agg #[.int .i64 x1,.int .i64 x2,.slice X.1 X.2.1 X.2.2]) f)/\Fr [] w0 w':=by
 obtain⟨A,c,rfl,e7⟩:=id hv.form;have a2:s.q.p=p.B:=hP.BE;have d1:BdOk s.q.p:=a2▸hP.v.inv.B;obtain⟨⟨hf,hb⟩,h4,d0⟩:=z3o d1;have d9:(z3v<|nrm p).length=s.q.p.flat.length:=by rw[y3d,a2];rfl
 refine we [(0,svv s),(1,.slice A l.length c)] func15 U ntmps15 U (.c2 U U) ?_;have b1:=hS;have e1:=hv;have b3:=a4;refine sr<|bx U<|λg2 w1 e8 O q1 z1=>(al v8u U<|λg4 w2 f0 D q2 z2=>(asg U<|nn<|sr ?_));have O:=O.ext q2;refine z0l U O z8f<|mv U U ?_;have hS:=b1.ext<|q1.n1 q2;have hv:=e1.ext<|q1.n1 q2;have a4:=b3.ext<|q1.n1 q2;refine cl (ev2 U) u2g (z5k s p N _ l _ hS hP hn hv a4) U ?_;rintro _ w3 ⟨⟨A7,ws,t8,e9,rfl,hB⟩,q3⟩;have a3:=hB.o.sl;have z3:=q3.size;have b2:=a3;refine mv U U<|xt U<|xt U<|xt U<|al y7t U<|λg7 w4 f1 b5 q4 z4=>(asg U<|z0j (vs:=[_,_,_,_,_,_,_,_]) U b5 z9z<|λw5 b5 q5 z5=>(asg U<|kpL (ll4 2 4 6 8) (csu U)<|nn<|sq<|sr<|mv U U<|ne' U<|nn<|cd U (λc0=>?_)<|λc0=>?_));obtain⟨b4,-⟩:=k0d hB c0;refine sr<|z1t (cs:=[_,_,_]) z0f k6r z0r U ?_;refine mv U U ?_;have D:=(D.ext<|q3.n1 q4).fr q5;exact z0j (vs:=[_,_,_]) U D v3t<|λw6 D q6 z6=>(asg U<|kpL (ll2 4 5) (csu U)<|nn<|rt<|tr<|rCT results15 U D x6o U ⟨_,rfl,⟨_,_,(_,_,_),_,rfl,λx Z=>(by rw[b4]at Z;cases Z;rfl),λu q hX=>(by rw[b4]at hX;cases hX)⟩,(q1.z5 q2 q3 q4 q5 q6)⟩);obtain⟨q',hX,-⟩:=v7k hB<|l18.1 c0;obtain⟨b7,-,a1,e3,-⟩:=z7a (z4p hP.v) hX;rw[d9]at a1;refine sk<|tn<|sr<|fad U z9s ?_;have O:=(O.ext<|q3.n1 q4).fr q5;refine z1w (vs:=[_,_]) U O z5e U ?_;have hS:=b1.ext<|q1.z4 q2 q3 q4 q5;refine cl (ev1 U) (mkC func29) (y2k s.q _ hS.b hf hb h4 d0) U ?_;rintro _ w7 ⟨rfl,q7⟩;have z7:=q7.size;refine asg U<|kpL (ll3 4 6 9) (csu U)<|nn<|sq<|sr<|mv U U<|eq' U<|nn<|cd U (λc1=>?_)<|λc1=>?_;refine sr<|z1t (cs:=[_,_,_]) z0f k6r z0r U ?_;have D:=((D.ext<|q3.n1 q4).fr q5).ext q7;exact z0j (vs:=[_,_,_]) U D v3t<|λw8 D q8 z8=>(asg U<|nn<|rt<|tr<|rCT results15 U D x6o U ⟨_,rfl,⟨_,_,(_,_,_),_,rfl,λx Z=>(by rw[hX]at Z;cases Z),λu q hq=>⟨λ_=>rfl,λh=>absurd oo h⟩⟩,(q1.z6 q2 q3 q4 q5 q7 q8)⟩);have d7:1<=s.q.p.flat.length/\s.q.p.flat.length<=8:=⟨oo,by rw[a2];exact h8⟩;refine sk<|tn<|sr<|mv U U<|mv U U ?_;have a3:=b2.ext<|q4.z2 q5 q7;refine cl (ev2 U) (mkC func35) (j2t s.q.p.flat.length _ ws _ a3 d7 b7 a1) U ?_;rintro _ w9 ⟨⟨f2,b8,rfl,d5,d3,a5,a6,a7⟩,q9⟩;have z9:=q9.size;obtain⟨e4,b6,G1,rfl,I,a0,d4,b0⟩:=d5;obtain⟨e5,e6,rfl,e2⟩:=I.sl.form;have e0:=λk (hk:k∈z0v _)=>(I.blk k hk).2;have d6:=λx (Z:x∈b6)=>((a0.r x Z).blk x t10).2;refine xt U<|xt U ?_;have D:=((D.ext<|q3.n1 q4).fr q5).ext<|q7.n1 q9;refine z0j (vs:=[_,_,_]) U D v3t<|λf3 D a9 f4=>(asg U<|kpL (ll2 4 5) (csu U)<|nn<|rt<|rCT results15 U D x6o U ?_);have I:=I.fr a9 (by intro k hk a8;rw[l11.1 hk]at a8;have b9:=(I.blk _ a8).1;have c9:=e0 _ a8;omega);have a0:=a0.fr a9 (λk hk hh=>by rw[l11.1 hk]at hh;have b9:=b0 _ hh;have c9:=d6 _ hh;omega);exact⟨_,rfl,⟨_,_,(_,_,_),_,rfl,λx Z=>(by rw[hX]at Z;cases Z),λu q hq=>(by rw[hX]at hq;cases hq;exact⟨λh=>absurd h oo,λ_=>⟨rfl,b8,⟨_,b6,G1,rfl,I.low oo,a0,d4,λx Z=>by have:=b0 x Z;omega⟩,d3,a5,a6,a7⟩⟩)⟩,((q1.z6 q2 q3 q4 q5 q7 q9).z1 a9)⟩
end Go.Proofs.YtkafbfjmcigaiaaGreatDoor
namespace Go.G26
open Pm
section
variable {n:Nat}
theorem v0o {u l:List (Pm n)}(h:Ir (u++l)):Ir l:=λ_ D=>h _<|Mv.pre D u
theorem v5n {f g:Pm n}{r:List (Pm n)}(h:Ir (f::g::r))(k:Lt n)(hs:Sb g k):Eb f k:=l104 λD=>h _<|.here k hs D
def NfG (l:List (Pm n)):Prop:=∀u f r,l=u++f::r->f≠one/\f≠half/\∀u' g,u=u'++[g]->∀k,Sb f k->Eb g k
theorem u9m {l:List (Pm n)}(h:Ir l)(D:∀x r,l=r++[x]->x≠one):∀(r u:List (Pm n)),l≠u++one::r
 | [],u,e=>D one u e U
 | g::r,u,e=>by
  have I:g=one:=v9z λk hs=>u9r k (by
   have:=v5n (v0o (e▸h)) k hs
   exact this)
  rw[I]at e
  exact u9m h D r (u++[one]) (by rw[e,l14];rfl)
theorem v8d {l:List (Pm n)}(h:Ir l)(D:∀x r,l=x::r->x≠half):∀(m:Nat) (u r:List (Pm n)),u.length=m->l≠u++half::r
 | 0,u,r,hm,e=>D half r (by rw[l82 hm]at e;exact e) U
 | m+1,u,r,hm,e=>by
  obtain⟨u',x,rfl⟩:∃u' x,u=u'++[x]:=⟨u.dropLast,u.getLast (λh=>by rw[h]at hm;cases hm),(List.dropLast_concat_getLast _).symm⟩
  rw[l14]at e
  have I:x=half:=v5q λk=>v5n (v0o (e▸h)) k<|v6u k
  subst I
  exact v8d h D m u' (half::r) (by simpa using hm) e
theorem v6r {a c:BrN n}(h:Cn a c):NfG c.2:=by
 obtain⟨s,t,-,hi,-,O,Z⟩:=h;have D:Ir c.2:=u9v<|v0o hi;intro u f r e;refine⟨λh=>u9m D Z r u (h▸e),λh=>v8d D O _ u r U (h▸e),λu' g I k hs=>?_⟩;rw[I,l14]at e;exact v5n (v0o (e▸D)) k hs
theorem k4q {u:List Int}(h:∀k∈u,1<=k.natAbs/\k.natAbs<1):u=[]:=by
 cases u with
 | nil=>rfl
 | cons k u=>have:=h k l39;omega
theorem x4t {u:List Int}(h1:n=1)(h:∀k∈u,1<=k.natAbs/\k.natAbs<n){c:BrN n}(D:Cn (fac n u) c):c=(0,[]):=by
 subst h1;rw[k4q h]at D;exact u9s D
theorem k1v (hn:1<=n/\n<=8){u v:List Int}(hu:∀k∈u,1<=k.natAbs/\k.natAbs<n)(hv:∀k∈v,1<=k.natAbs/\k.natAbs<n){a b c d:BrN n}(I:Cn (fac n u) a)(hb:Cn (fac n v) b)(O:Cn (fac n<|u++v) c)(Z:Cn (a.1+b.1,a.2.map (flB b.1)++b.2) d):c=d:=by
 by_cases h2:2<=n;exact j5b h2 hn.2 (j3a hn.2 (cn_e I)<|cn_e hb) O Z;have D:n=1:=by omega
 have ea:=x4t D hu I;have eb:=x4t D hv hb;have ec:=x4t D (λk hk=>(l22.1 hk).elim (hu k)<|hv k) O;subst ea eb;rw[ec];exact(u9s Z).symm
end
end Go.G26
namespace Go.G26
open Go.Lw Go.G21 Go.G08
section
variable {T n b:Nat} {w w':World} {hs S:List Nat} {u:Nat->Pm n} {g:Nat}
structure LsR (T n b:Nat) (w:World) (hs:List Nat) (u:Nat->Pm n):Prop where
  nd:hs.Nodup
  r:∀j,j<hs.length->Lw.Own Enc.b T b w (.slice (some ⟨hs.getD j 0,0,none⟩) n n) (u j).l
theorem LsR.start:LsR T n b w [] u:=⟨List.nodup_nil,λj h=>absurd h<|Nat.not_lt_zero _⟩
theorem v9b {hs:List Nat}{k:Nat}(h:k∈hs):∃j,j<hs.length/\hs.getD j 0=k:=by
 obtain⟨j,D,rfl⟩:=l31 h;exact⟨j,D,by rw[List.getD,l10 D];rfl⟩
theorem LsR.blk (h:LsR T n b w hs u){k:Nat}(I:k∈hs):b<=k/\k<w.heap.size:=by
 obtain⟨j,D,rfl⟩:=v9b I;exact(h.r j D).blk _ t10
theorem LsR.fr (h:LsR T n b w hs u)(hf:Fr S w w')(O:∀k∈S,k∉hs):LsR T n b w' hs u:=⟨h.nd,λj I=>(h.r j I).fr hf λk Z D=>by
 simp[z0v]at D;subst D;exact O _ Z<|z3q I⟩
theorem LsR.ext (h:LsR T n b w hs u)(hf:Fr [] w w'):LsR T n b w' hs u:=h.fr hf sp0
theorem LsR.ne {T' b':Nat}{α:Type}{E:Enc α}{v:Value}{ys:List α}(h:LsR T n b w hs u)(ho:Lw.Own E T' b' w v ys)(D:T'≠T):∀k∈z0v v,k∉hs:=λk Z I=>by
 obtain⟨j,O,rfl⟩:=v9b I
 exact Own.neO (h.r j O) ho (l51 D) _ t10 Z
theorem LsR.neB {T':Nat}{cs:List Value}(h:LsR T n b w hs u)(hb:Blk w g T' cs)(D:T≠T'):g∉hs:=λI=>by
 obtain⟨j,O,rfl⟩:=v9b I
 exact Own.neB (h.r j O) hb D t10
theorem LsR.snoc {b':Nat}(h:LsR T n b w hs u)(ho:Lw.Own Enc.b T b' w (.slice (saa g) n n) (u hs.length).l)(hb:b<=b')(I:g∉hs):LsR T n b w (hs++[g]) u:=
 ⟨l58.2 ⟨h.nd,sp0,λx Z y D e=>I (by rw[l11]at D;rw[<-D,<-e];exact Z)⟩,λj O=>by
  rw[l13,l46]at O
  by_cases e:j=hs.length
  ·subst e
   rw[List.getD,l29 (l20 _),l80]
   exact ho.low hb
  rw[List.getD,l40 oo]
  exact h.r j oo⟩
theorem LsR.fac (h:LsR T n b w hs u):∃G:Nat->Pm n,FacT T n w w hs G/\hs.map G=(List.range hs.length).map u:=by
 refine⟨λx=>u<|hs.idxOf x,⟨l12 _ _,λg O=>?_⟩,?_⟩;have D:=List.idxOf_lt_length_of_mem O;have:=h.r _ D;rw[List.getD,l10 D,List.getElem_idxOf D]at this;exact this.low<|l17 _;refine l65 sp0 λi I Z=>?_;rw[l15]at I;rw[l76,l76,l139,h.nd.idxOf_getElem _ I]
end
theorem u8u {n m g:Nat}{hs:List Nat}(h:hs.length<m):(hs.map (hdr n)++List.replicate (m-hs.length) sv0).set hs.length (hdr n g)=(hs++[g]).map (hdr n)++List.replicate (m-(hs.length+1)) sv0:=by
 rw[l52 _ _ sp0,l15,l80,show m-hs.length=(m-(hs.length+1))+1 by omega,l71,l30,l14];rfl
theorem k7u {n:Nat}{hs:List Nat}{F:Nat->Pm n}{l:List (Pm n)}(hE:hs.map F=l)(hg:NfG l){j:Nat}(hj:j<hs.length):F (hs.getD j 0)≠Pm.one/\F (hs.getD j 0)≠Pm.half/\(0<j->∀k,Pm.Sb (F<|hs.getD j 0) k->Pm.Eb (F<|hs.getD (j-1) 0) k):=by
 subst hE
 have D:∀i,i<hs.length->hs=hs.take i++hs.getD i 0::hs.drop (i+1):=λi hi=>by
  rw[List.getD,l10 hi]
  show hs=hs.take i++hs[i]::hs.drop (i+1)
  rw[List.getElem_cons_drop,l25]
 have e:hs.map F=(hs.take j).map F++F (hs.getD j 0)::(hs.drop<|j+1).map F:=by
  conv=>lhs;rw[D j hj]
  rw[l30,l28]
 obtain⟨O,Z,h3⟩:=hg _ _ _ e
 refine⟨O,Z,λh0=>h3 ((hs.take<|j-1).map F) _ ?_⟩
 have I:hs.take j=hs.take (j-1)++[hs.getD (j-1) 0]:=by
  have:=List.take_append_getElem (l:=hs) (i:=j-1) oo
  rw[show j-1+1=j by omega]at this
  rw[<-this,List.getD,l10 (show j-1<hs.length by omega)];rfl
 rw[I,l30];rfl
def tmP {n:Nat}(F1 F2:Nat->Pm n)(d:Int)(h1 h2:List Nat)(i:Nat):Pm n:=if i<h1.length then flB d (F1<|h1.getD i 0) else F2 (h2.getD (i-h1.length) 0)
theorem j6k {n:Nat}{I O:Nat->Pm n}{d:Int}{h1 D:List Nat}:(List.range<|h1.length+D.length).map (tmP I O d h1 D)=(h1.map I).map (flB d)++D.map O:=by
 refine l65 sp0 λi Z a2=>?_;simp only[l15,l135]at Z;rw[l76,l139];unfold tmP;by_cases c:i<h1.length;rw[if_pos c,List.getElem_append_left (by simpa using c),l76,l76,List.getD,l10 c];rfl;rw[if_neg c,List.getElem_append_right (by simpa using c),l76,List.getD];simp only[l15];rw[l10 (show i-h1.length<D.length by omega)];rfl
end Go.G26
namespace Go.Proofs.YtkafbfjmcigaiaaGreatDoor
open Go.Lw Go.G21 Go.G08 Go.G09 Go.G26 _root_.Go.Proofs.Tryz
variable {n:Nat}
theorem j7q {p q:Pm n}{s:Nat}(h:k6f p q s)(D:∀k,Pm.Sb q k->Pm.Eb p k):s=0:=Nat.eq_of_testBit_eq λj=>by
 rw[Nat.zero_testBit]
 cases hb:s.testBit j with
 | false=>rfl
 | true=>obtain⟨I,a,b⟩:=(h.2 j).1 hb;exact absurd (D _ a) b
theorem u9p (a I:Int)(A:Option Addr)(m c:Nat)(w0:World)(hp:-1024<=I/\I<=1024)(hm:m<=256):Rets prog 86 #[.agg #[.int .i64 a,.int .i64 I,.slice A m c]] w0 λr w'=>r=.bool false/\Fr [] w0 w':=by
 refine we [(0,.agg #[.int .i64 a,.int .i64 I,.slice A m c])] func86 U ntmps86 U (.cons U .nil)<|sr<|bx U<|λZ w1 a0 D q1 z1=>(asg U<|nn<|sq<|rbo (r:=2) (L':=[]) ((((I < -1024)\/(1024<I))\/(256<(m:Int)))) .nil ?_ ?_);refine fad U y4d<|z0i U D U na3<|lt' U<|mv U U<|gs 6 U (λO=>absurd O oo)<|λg0=>(gY U<|fad U y4d<|gY U<|z0i U D U na3<|gY U<|gt' U<|pkf U<|mv U U<|gs 11 U (λO=>absurd O oo)<|λZ=>?_);exact gY U<|fad U z8e<|gY U<|z0i U D U x1z<|gY U<|lnS U underlying65<|gY U<|gt' U<|pkf U<|asg U<|rbe U .nil;refine tn<|rt<|r1 results86 U ?_;exact⟨_,rfl,congrArg Value.bool<|decide_eq_false oo,q1⟩
theorem k0m (a O:Int)(A:Option Addr)(m c:Nat)(w0:World)(hp:-1024<=O/\O<=1024)(hm:m<=256):Rets prog 41 #[.agg #[.int .i64 a,.int .i64 O,.slice A m c]] w0 λr w'=>r=.tuple #[.agg #[.int .i64 a,.int .i64 O,.slice A m c],.int .i64 0]/\Fr [] w0 w':=by
 refine we [(0,.agg #[.int .i64 a,.int .i64 O,.slice A m c])] func41 U ntmps41 U (.cons U .nil)<|sr<|bx U<|λg1 w1 a0 D q1 z1=>(al v8u U<|λg2 w2 a1 I q2 z2=>(asg U<|nn<|sq<|sr ?_));have D:=D.ext q2;refine z0l U D x6o<|cl (ev1 U) (mkC func86) (u9p _ _ _ _ _ _ hp hm) U ?_;rintro _ w3 ⟨rfl,Z⟩;have z3:=Z.size;refine nn<|cd U (λc0=>?_)<|λc0=>?_;cases c0;refine sk<|tn<|sr ?_;have D:=D.ext Z;refine z0l U D x6o ?_;have I:=I.ext Z;exact z0j (vs:=[_,_,_]) U I v3t<|λw4 I q4 z4=>(asg U<|nn<|rt<|rCT results41 U I x6o U ⟨_,rfl,rfl,(q1.z3 q2 Z q4)⟩)
set_option maxRecDepth 10000 in
theorem u9n (n b:Nat)(v:Value)(c:BrN n)(w0:World)(hN:NrmS n b w0 v c)(hg:NfG c.2)(h1:n=1->c=(0,[]))(hn:1<=n/\n<=8)(hl:c.2.length<=64/\-64<=c.1/\c.1<=64):Rets prog 36 #[v] w0 λr w'=>r=.int .i64 0/\Fr [] w0 w':=by
 obtain⟨b9,hs,F,rfl,O,hR,hE,-⟩:=hN;obtain⟨A,k,rfl,hk⟩:=id O.sl.form;have b4:(hs.map<|hdr n).length=hs.length:=l15 ..;have a9:hs.length=c.2.length:=by rw[<-hE,l15]
 refine we [(0,.agg #[.int .i64 (n:Int),.int .i64 c.1,.slice A (hs.map<|hdr n).length k])] func36 U ntmps36 U (.cons U .nil) ?_;have a3:=O;have a0:=hR;refine sr<|bx U<|λg1 w1 b8 D q1 z1=>(asg U<|nn<|sq<|sq<|rbo (r:=15) (L':=ll1 1) ((((n:Int)<1)\/(8<(n:Int)))) (csu U) ?_ ?_);refine fad U y1a<|z0i U D U na3<|lt' U<|mv U U<|gs 11 U (λhh=>absurd hh oo)<|λg0=>?_;exact gY U<|fad U y1a<|gY U<|z0i U D U na3<|gY U<|gt' U<|pkf U<|rbe U<|csu U;refine tn<|cd U (λc0=>?_)<|λc0=>?_;exfalso;omega;refine sk<|tn<|sq<|sr<|z0l U D x6o<|cl (ev1 U) (mkC func86) (u9p _ _ _ _ _ _ oo oo) U ?_;rintro _ w2 ⟨rfl,Z⟩;have z2:=Z.size;refine nn<|cd U (λc1=>?_)<|λc1=>?_;cases c1;refine sk<|tn<|sq<|sr<|fad U z8e ?_;have D:=D.ext Z;refine z0i U D U x1z<|lnS U underlying65<|mv U U<|nn<|bl<|lpK (ι:=Nat) (ll3 1 19 20) (λi=>[(21,.int .i64 (i:Int))]) (λi w'=>Fr [] w2 w'/\i<=(hs.map<|hdr n).length) (λi=>(hs.map<|hdr n).length-i) 0 (csu U) ⟨l12 _ _,l17 _⟩ ?_;rintro i w3 ⟨I,hi⟩;have z3:=I.size;refine kpC (ll4 1 19 20 21) (csu U)<|sr<|lt' U<|nn<|sq<|cd U (λc2=>?_)<|λc2=>?_;have a1:i<hs.length:=by omega
 have b3:=v7h (n:=n) (A:=hs) a1;refine sk<|tn<|sq<|bl<|sr ?_;have O:=a3.ext<|q1.n2 Z I;refine z0z (p:=i) (sv0) U O.sl U y5f oo<|λb5 a5=>(z1b U (a5 _ O.sl) x2s<|asg U<|nn<|sr<|mv U U<|lnS U underlying22<|fad U y1a ?_);have D:=D.ext I;refine z0i U D U na3<|ne' U<|mv U U<|gs 30 U (λhh=>absurd hh (by exact λh=>h (by rw[b3])))<|λg1=>?_;refine gY U<|mv U U<|gY U ?_;have hR:=a0.ext<|q1.n2 Z I;refine cl (ev1 U) (mkC func87) (by have x:=v5k (.slice (some ⟨(hs.getD i 0),0,none⟩) n n) (F<|hs.getD i 0).l _ (hR.r _<|z3q a1).sl (by rw[z2m];exact x5v hn.2 _) (by rw[z2m];exact hn);rw[z6r (n:=n) (L:=hs) a1]at x;exact x) U ?_;rintro _ w4 ⟨rfl,q4⟩;have z4:=q4.size;refine gY U<|ne' U<|pkf U<|kpL (ll5 1 19 20 21 34) (csu U)<|nn<|cd U (λc3=>?_)<|λc3=>?_;exact absurd U c3;exact sk<|bn'<|tn<|rg<|z0w U (wi6 oo)<|mv U U<|nl<|lpE (i+1) (csu U) ⟨(I.n1 q4),oo⟩ oo;obtain rfl:i=(hs.map<|hdr n).length:=by omega
 refine ex<|te<|te<|xh<|tn<|sq<|sq<|rbo (r:=49) (L':=ll1 1) ((((n:Int)=1)/\((c.1≠0)\/(0<((hs.map<|hdr n).length:Int))))) (csu U) ?_ ?_;refine fad U y1a ?_;have D:=D.ext I;refine z0i U D U na3<|eq' U<|mv U U<|gs 39 U (λg2=>?_)<|λg2=>?_;refine gY U<|fad U y4d<|gY U<|z0i U D U na3<|gY U<|ne' U<|gY U<|mv U U<|gs 43 U (λg3=>?_)<|λg3=>?_;exact gN U<|gN U<|gN U<|gN U<|gY U<|pkt U<|pkt U<|rbe U<|csu U;exact gY U<|fad U z8e<|gY U<|z0i U D U x1z<|gY U<|lnS U underlying65<|gY U<|gt' U<|gY U<|pkf U<|pkt U<|rbe U<|csu U;exact gN U<|gN U<|gN U<|gN U<|gS U<|gS U<|gS U<|gS U<|gN U<|pkf U<|rbe U<|csu U;refine tn<|cd U (λc4=>?_)<|λc4=>?_;exact(c4.2.elim (λh=>h (by rw[h1 oo])) (λh=>by rw[b4,a9,h1 oo]at h;simp at h):False).elim;refine sk<|tn<|sq<|sr<|fad U z8e ?_;have D:=D.ext I;refine z0i U D U x1z<|lnS U underlying65<|mv U U<|nn<|bl<|lpK (ι:=Nat) (ll3 1 51 52) (λj=>[(53,.int .i64 (j:Int))]) (λj w'=>Fr [] w3 w'/\j<=(hs.map<|hdr n).length) (λj=>(hs.map<|hdr n).length-j) 0 (csu U) ⟨l12 _ _,l17 _⟩ ?_;rintro j w5 ⟨q5,hj⟩;have z5:=q5.size;refine kpC (ll4 1 51 52 53) (csu U)<|sr<|lt' U<|nn<|sq<|cd U (λc5=>?_)<|λc5=>?_;have a2:j<hs.length:=by omega
 obtain⟨b0,b1,b2⟩:=k7u hE hg a2;have a4:=u4w (l:=(F<|hs.getD j 0).l) (by rw[z2m];exact hn.2);rw[z2m]at a4;refine sk<|tn<|sq<|bl<|sr<|mv U U ?_;have O:=a3.ext<|q1.n3 Z I q5;refine z0z (sv0) U O.sl U y5f z1j<|λb6 a6=>?_;refine z1b U (a6 _ O.sl) x2s<|asg U<|asg U<|nn<|sr<|mv U U ?_;have hR:=a0.ext<|q1.n3 Z I q5;refine cl (ev1 U) j6h (by have x:=v7v (.slice (some ⟨(hs.getD j 0),0,none⟩) n n) (F<|hs.getD j 0).l _ (hR.r _<|z3q a2).sl (by rw[z2m];exact hn.2);rw[z6r (n:=n) (L:=hs) a2]at x;exact x) U ?_;rintro _ w6 ⟨rfl,q6⟩;have z6:=q6.size;refine asg U<|nn<|sr<|mv U U<|eq' U<|mv U U<|gs 62 U (λhh=>absurd hh (by exact λh=>b0<|(j5n hn.2).1 oo))<|λg4=>(gY U<|mv U U<|gY U<|fad U y1a<|gY U ?_);have D:=D.ext<|q5.n1 q6;refine z0i U D U na3<|gY U<|cl (ev1 U) (mkC func89) (j0r n _ hn) U ?_;rintro _ w7 ⟨rfl,q7⟩;have z7:=q7.size;refine gY U<|eq' U<|pkf U<|mv U U<|gs 69 U (λhh=>absurd hh (by exact λh=>b1<|(j3s hn.2 hn.1).1 oo))<|λg5=>(gY U<|mv U U<|gY U<|gt' U<|gY U<|mv U U<|gs 72 U (λg6=>?_)<|λg6=>?_);refine gY U<|mv U U<|gY U<|fad U z8e<|gY U ?_;have D:=D.ext q7;refine z0i U D U x1z<|gY U<|mv U U<|gY U<|z2f U (wi6 oo)<|gY U ?_;have O:=a3.ext<|q1.n5 Z I q5 q6 q7;refine z0z (p:=(j-1)) (sv0) U O.sl U y5f oo<|λb7 a7=>(gY U<|z1b U (a7 _ O.sl) x2s<|gY U ?_);have hR:=a0.ext<|q1.n5 Z I q5 q6 q7;refine cl (ev1 U) (mkC func90) (by have x:=x1x n (F<|hs.getD (j-1) 0) _ _ (hR.r _<|z3q oo).sl hn.2;rw[z6r (n:=n) (L:=hs) (show j-1<hs.length by omega)]at x;exact x) U ?_;rintro _ w8 ⟨⟨s2,rfl,a8⟩,q8⟩;have z8:=q8.size;refine gY U<|x1o U U a4.1 a8.1 U<|gY U<|ne' U<|gY U<|pkt U<|pkf U<|kpL (ll5 1 51 52 53 84) (csu U)<|nn<|cd U (λc6=>?_)<|λc6=>?_;exact absurd (by rw[j7q (y9s hn.2 a4 a8) (b2 oo)];rfl) c6;exact sk<|bn'<|tn<|rg<|z0w U (wi6 oo)<|mv U U<|nl<|lpE (j+1) (csu U) ⟨(q5.n3 q6 q7 q8),oo⟩ oo;exact gN U<|gN U<|gN U<|gN U<|gN U<|gN U<|gN U<|gN U<|gN U<|gN U<|gY U<|pkf U<|pkf U<|kpL (ll5 1 51 52 53 84) (csu U)<|nn<|cf U<|sk<|bn'<|tn<|rg<|z0w U (wi6 oo)<|mv U U<|nl<|lpE (j+1) (csu U) ⟨(q5.n2 q6 q7),oo⟩ oo;obtain rfl:j=(hs.map<|hdr n).length:=by omega
 exact ex<|te<|te<|xh<|tn<|sr<|asg U<|nn<|rt<|r1 results36 U ⟨_,rfl,rfl,(q1.n3 Z I q5)⟩
open Go.Lw Go.G21 Go.G08 Go.G09 Go.G26 _root_.Go.Proofs.Tryz
theorem k5b (n:Nat)(a b:BrN n)(gA gB:Nat)(Aa Ab:Option Addr)(ka kb:Nat)(D hb:List Nat)(Fa Fb:Nat->Pm n)(i:Nat)(w0:World)(oa:Sl Enc.sl w0 (.slice Aa (D.map<|hdr n).length ka) (D.map<|hdr n))(ob:Sl Enc.sl w0 (.slice Ab (hb.map<|hdr n).length kb) (hb.map<|hdr n))(Ra:RwsB 5 n w0 D Fa)(Rb:RwsB 5 n w0 hb Fb)(bA:Blk w0 gA 67 [.int .i64 (n:Int),.int .i64 a.1,.slice Aa (D.map<|hdr n).length ka])(bB:Blk w0 gB 67 [.int .i64 (n:Int),.int .i64 b.1,.slice Ab (hb.map<|hdr n).length kb])(hi:i<D.length+hb.length)(hl:D.length+hb.length<=1000)(hn:1<=n/\n<=8):Rets prog 38 #[.int .i64 (i:Int),pta gA,pta gB] w0 λr w'=>(∃g,r=.slice (saa g) n n/\Lw.Own Enc.b 5 w0.heap.size w' r (tmP Fa Fb b.1 D hb i).l)/\Fr [] w0 w':=by
 have ea:(D.map<|hdr n).length=D.length:=l15 ..;have eb:(hb.map<|hdr n).length=hb.length:=l15 ..;refine we [(0,.int .i64 (i:Int)),(1,pta gA),(2,pta gB)] func38 U ntmps38 U (.c3 U U U) ?_;have b5:=oa;have b6:=ob;have b2:=Ra;have b3:=Rb;refine sr<|asg U<|nn<|sq<|sr<|mv U U<|fad U z8e<|z0i U bA U x1z<|lnS U underlying65<|lt' U<|nn<|cd U (λc0=>?_)<|λc0=>?_;have a2:i<D.length:=by omega
 refine sq ?_;intro a h;have O:=l12 [] w0;refine z2t (λwb w'=>Fr [] wb w') z2s ?_;intro w1 I;have z1:=I.size;have oa:=oa.ext I;have Ra:=Ra.ext I;have bA:=bA.ext I;have bB:=bB.ext I;have O:=O.next I;have b4:=I.size;clear I;have hC:Fr [] w1 w1:=l12 _ _;have a1:=oa;have a3:=Ra;have Z:=bA;have a0:=bB;refine z0c 0 h U z8e U λa h=>z0m 1 h U (λ_ hw=>Z.ext hw) U x1z U λa h=>z0e 2 h U λa h=>z1e (p:=i) (sv0) 3 h U oa U y5f U λb0 a4 a h=>z1z 4 h U (λ_ hw=>a4 _<|a1.ext hw) x2s U λa h=>z0c 5 h U y4d U λa h=>z0m 6 h U (λ_ hw=>a0.ext hw) U na3 U λa h=>z0d 7 U<|z0n h (z0a U<|z0a U z0f) (mkC func39) (by have x:=x7y (.slice (some ⟨(D.getD i 0),0,none⟩) n n) (Fa<|D.getD i 0).l b.1 _ (Ra.r _<|z3q a2).sl (by rw[z2m];exact x5v hn.2 _) (by rw[z2m];exact hn);rw[z2m,<-j4g hn.2,z6r (n:=n) (L:=D) a2]at x;exact x) ?_;rintro _ w2 ⟨⟨a8,rfl,a6⟩,I⟩ a h;have z2:=I.size;have oa:=oa.ext I;have Ra:=Ra.ext I;have bA:=bA.ext I;have bB:=bB.ext I;have O:=O.next I;have hC:=hC.next I;clear I;refine z0b<|z0d 8 U<|z0o h U λa h=>?_;refine z0b<|z0q ?_;clear hC a1 a3 Z a0;have z2:=O.size;exact bk (h.sub (L':=ll1 4)<|csu U)<|tn<|rt<|tr<|r1 results38 U ⟨_,rfl,⟨a8,rfl,by unfold tmP;rw[if_pos a2];exact a6.low oo⟩,O⟩;refine sk<|tn<|sr<|fad U z8e<|z0i U bB U x1z<|mv U U<|fad U z8e<|z0i U bA U x1z<|lnS U underlying65<|z2f U (show IntKind.i64.wrap ((i:Int)-((D.map<|hdr n).length:Int))=((i-D.length:Nat):Int) from (wi6 oo).trans oo)<|z0z (p:=(i-D.length)) (sv0) U ob U y5f oo<|λb1 a5=>(z1b U (a5 _ ob) x2s<|cl (ev1 U) (mkC func40) (by have x:=j0d (.slice (some ⟨(hb.getD (i-D.length) 0),0,none⟩) n n) (Fb<|hb.getD (i-D.length) 0).l _ (Rb.r _<|z3q oo).sl (by rw[z2m];exact hn.2);rw[z2m,z6r (n:=n) (L:=hb) (show i-D.length<hb.length by omega)]at x;exact x) U ?_);rintro _ w3 ⟨⟨a9,rfl,a7⟩,q3⟩;have z3:=q3.size;exact asg U<|kpL (ll1 4) (csu U)<|nn<|rt<|r1 results38 U ⟨_,rfl,⟨a9,rfl,by unfold tmP;rw[if_neg oo];exact a7.low oo⟩,q3⟩
theorem j3k (m n f:Nat)(ws:List Value)(u:Nat->Pm n)(w0:World)(hm:m<=1000)(hf:CallOf prog f)(a0:∀i w,i<m->Fr [] w0 w->Rets prog f (Value.int .i64 (i:Int)::ws).toArray w λr w'=>(∃g,r=.slice (saa g) n n/\Lw.Own Enc.b 5 w.heap.size w' r (u i).l)/\Fr [] w w'):Rets prog 37 #[.int .i64 (m:Int),.func (.func f) #[] ws.toArray] w0 λr w'=>(∃g hs,r=.slice (saa g) m m/\hs.length=m/\Lw.Own Enc.sl 22 w0.heap.size w' r (hs.map<|hdr n)/\LsR 5 n w0.heap.size w' hs u)/\Fr [] w0 w':=by
 refine we [(0,.int .i64 (m:Int)),(1,.func (.func f) #[] ws.toArray)] func37 U ntmps37 U (.c2 U U)<|sr<|asg U<|nn<|sr<|mv U U<|z1f (m:=m) (c:=m) (sv0) U y5f k9e U<|λO w1 a2 D q1 z1=>(asg U<|nn<|sq<|sr<|mv U U<|lnS U underlying65<|mv U U<|nn<|bl<|lpK (ι:=List Nat) (ll3 1 5 10) (λp_=>[(11,.int .i64 (p_.length:Int))]) (λp_ w'=>Fr [O] w1 w'/\p_.length<=m/\LsR 5 n w0.heap.size w' p_ u/\Lw.Own Enc.sl 22 O w' (.slice (saa O) m m) (p_.map (hdr n)++List.replicate (m-p_.length) sv0)) (λp_=>m-p_.length) [] (csu U) ⟨l12 _ _,⟨l17 _,LsR.start,by simpa using D⟩⟩ ?_);rintro hs w2 ⟨q2,⟨a5,hL,D⟩⟩;have z2:=q2.size;refine kpC [(1,_),(5,_),(10,_),(11,.int .i64 (hs.length:Int))] (csu U)<|sr<|lt' U<|nn<|sq<|cd U (λc0=>?_)<|λc0=>?_;have a1:O∉hs:=hL.ne D dd O t10;refine sk<|tn<|sq<|bl<|sr<|mv U U<|asg U<|nn<|rg<|mv U U<|mv U U<|mv U U<|mv U U<|clv (us:=[]) (ws:=ws) U (ev1 U) hf (a0 hs.length _ oo<|q1.z1 q2) U t14 ?_;rintro _ w3 ⟨⟨gn,rfl,I⟩,q3⟩;have z3:=q3.size;have a4:=(I.blk gn t10).1;have a3:gn∉hs:=λhh=>by have:=(hL.blk hh).2;omega
 have a2:=(D.blk O t10).2;have D:=D.ext q3;refine z5h (p:=hs.length) (E:=Enc.sl) U y5f<|z3g (i:=hs.length) ((hdr n gn)) U D so U k6e<|λw4 D q4 z4=>?_;rw[u8u oo]at D;refine kpL (ll4 1 5 10 11) (csu U)<|nl<|bn'<|tn<|rg<|z0w U (wi6 oo)<|mv U U<|nl ?_;have hL:=(hL.ext q3).fr q4 (by intro k hk;rw[l11.1 hk];exact a1);have I:=I.fr q4 t11;exact lpE ((hs++[gn])) (.c4 U U U (by rw[l13];rfl)) ⟨((l12 [O] _).z3 q2 q3 q4),⟨t71,hL.snoc I oo a3,by rw[l13];exact D⟩⟩ t71;have Z:hs.length=m:=by omega
 rw[Z,l80,l91,l26]at D;exact ex<|te<|te<|xh<|tn<|sr<|mv U U<|asg U<|kpL (ll1 4) (csu U)<|nn<|rt<|r1 results37 U ⟨_,rfl,⟨O,hs,rfl,Z,D.low oo,hL⟩,(q1.z1 q2)⟩
theorem k2t (n ba bb:Nat)(va vb:Value)(a b:BrN n)(w0:World)(hA:NrmS n ba w0 va a)(hB:NrmS n bb w0 vb b)(b3:NfG a.2)(b4:NfG b.2)(a9:n=1->a=(0,[]))(b0:n=1->b=(0,[]))(hn:1<=n/\n<=8)(b5:a.2.length<=64/\-64<=a.1/\a.1<=64)(b6:b.2.length<=64/\-64<=b.1/\b.1<=64):Rets prog 16 #[va,vb] w0 λr w'=>(∃(X:SV) (d:BrN n),r=.tuple #[.agg #[.int .i64 (n:Int),.int .i64 d.1,.slice X.1 X.2.1 X.2.2],.int .i64 0]/\NrmS n w0.heap.size w' (.agg #[.int .i64 (n:Int),.int .i64 d.1,.slice X.1 X.2.1 X.2.2]) d/\Cn (a.1+b.1,a.2.map (flB b.1)++b.2) d)/\Fr [] w0 w':=by
 obtain⟨o1,ha,Fa,rfl,oa,Ra,Ea,La⟩:=hA;obtain⟨o2,Z,Fb,rfl,ob,Rb,Eb,Lb⟩:=hB;obtain⟨Aa,ka,rfl,d6⟩:=id oa.sl.form;obtain⟨Ab,kb,rfl,d7⟩:=id ob.sl.form;have ea:(ha.map<|hdr n).length=ha.length:=l15 ..;have eb:(Z.map<|hdr n).length=Z.length:=l15 ..;have la:ha.length=a.2.length:=by rw[<-Ea,l15]
 have lb:Z.length=b.2.length:=by rw[<-Eb,l15]
 refine we [(0,.agg #[.int .i64 (n:Int),.int .i64 a.1,.slice Aa (ha.map<|hdr n).length ka]),(1,.agg #[.int .i64 (n:Int),.int .i64 b.1,.slice Ab (Z.map<|hdr n).length kb])] func16 U ntmps16 U (.c2 U U) ?_;have a7:=oa;have a8:=ob;have a3:=Ra;have a4:=Rb;refine sr<|bx U<|λg2 w1 d1 D q1 z1=>(bx U<|λg3 w2 d3 O q2 z2=>(al v8u U<|λg4 w3 d4 I q3 z3=>(asg U<|nn<|sq<|sr ?_)));have D:=D.ext<|q2.n1 q3;refine z0l U D x6o ?_;have oa:=a7.ext<|q1.n2 q2 q3;have Ra:=a3.ext<|q1.n2 q2 q3;refine cl (ev1 U) (mkC func36) (u9n n _ _ a _ ⟨_,ha,Fa,rfl,oa,Ra,Ea,La⟩ b3 a9 hn b5) U ?_;rintro _ w4 ⟨rfl,q4⟩;have z4:=q4.size;refine asg U<|nn<|sr<|mv U U<|ne' U<|nn<|cd U (λc0=>?_)<|λc0=>?_;exact absurd U c0;refine sk<|tn<|sq<|sr ?_;have O:=O.ext<|q3.n1 q4;refine z0l U O x6o ?_;have ob:=a8.ext<|q1.n3 q2 q3 q4;have Rb:=a4.ext<|q1.n3 q2 q3 q4;refine cl (ev1 U) (mkC func36) (u9n n _ _ b _ ⟨_,Z,Fb,rfl,ob,Rb,Eb,Lb⟩ b4 b0 hn b6) U ?_;rintro _ w5 ⟨rfl,q5⟩;have z5:=q5.size;refine asg U<|nn<|sr<|mv U U<|ne' U<|nn<|cd U (λc1=>?_)<|λc1=>?_;exact absurd U c1;refine sk<|tn<|sq<|sr<|fad U y1a ?_;have D:=D.ext<|q4.n1 q5;refine z0i U D U na3<|fad U y1a ?_;have O:=O.ext q5;refine z0i U O U na3<|ne' U<|kpL (ll4 2 3 4 25) (csu U)<|nn<|cd U (λc2=>?_)<|λc2=>?_;exact absurd U c2;refine sk<|tn<|sr<|fad U z8e<|z0i U D U x1z<|lnS U underlying65<|fad U z8e<|z0i U O U x1z<|lnS U underlying65<|z0w U (show IntKind.i64.wrap (((ha.map<|hdr n).length:Int)+((Z.map<|hdr n).length:Int))=((ha.length+Z.length:Nat):Int) from (wi6 oo).trans oo)<|z4m z0f (ev2 U) ?_;have oa:=a7.ext<|q1.n4 q2 q3 q4 q5;have ob:=a8.ext<|q1.n4 q2 q3 q4 q5;have Ra:=a3.ext<|q1.n4 q2 q3 q4 q5;have Rb:=a4.ext<|q1.n4 q2 q3 q4 q5;refine cl (ev2 U) (mkC func37) (j3k (ha.length+Z.length) n 38 [pta g2,pta g3] (tmP Fa Fb b.1 ha Z) _ oo (CallOf.mk' func38 kr kr)<|λi w hi hw=>k5b n a b g2 g3 _ _ _ _ ha Z Fa Fb i w (oa.sl.ext hw) (ob.sl.ext hw) (Ra.ext hw) (Rb.ext hw) (D.fr hw sp0) (O.fr hw sp0) hi oo hn) U ?_;rintro _ w6 ⟨⟨b9,hs,rfl,b8,a2,hL⟩,q6⟩;have z6:=q6.size;have e0:(hs.map<|hdr n).length=hs.length:=l15 ..;refine asg U<|kpL (ll4 2 3 4 8) (csu U)<|nn<|sr<|fad U y1a ?_;have D:=D.ext q6;refine z0i U D U na3<|fad U y4d<|z0i U D U na3<|fad U y4d ?_;have O:=O.ext q6;refine z0i U O U na3<|z0w U (wi6 oo)<|mv U U ?_;have I:=I.ext<|q4.n2 q5 q6;obtain⟨G,hF,b1⟩:=hL.fac;refine cl (ev3 U) (mkC func42) (v5l n (a.1+b.1) _ hs G _ a2.sl hF hL.nd (λk hk Z=>hL.ne a2 dd k Z hk) oo hn oo w0.heap.size oo (λx hx=>by have:=(hL.blk hx).1;omega)) U ?_;rintro _ w7 ⟨⟨d,⟨e1,gs,H,rfl,a0,a1,a5,b2⟩,hC,hc1,hc2,hc3⟩,qA⟩;have q7:Fr [] w0 w7:=(q1.n5 q2 q3 q4 q5 q6).step qA<|λk hk d9=>absurd (hL.blk hk).1 oo;have z7:=qA.size;have I:=I.fr qA<|λhk=>hL.neB I dd hk;obtain⟨A9,c9,rfl,d0⟩:=a0.sl.form;have d5:(gs.map<|hdr n).length=d.2.length:=by rw[<-a5,l15,l15]
 have b7:=Own.neB a0 I dd;have a6:g4∉gs:=λhh=>Own.neB (a1.r _ hh) I dd t10;refine cl (ev1 U) (mkC func41) (k0m _ _ _ _ _ _ oo oo) U ?_;rintro _ w8 ⟨rfl,q8⟩;have z8:=q8.size;refine xt U<|xt U ?_;have I:=I.ext q8;refine z0j (vs:=[_,_,_]) U I v3t<|λw9 I q9 z9=>(asg U<|kpL (ll2 4 5) (csu U)<|nn<|rt<|rCT results16 U I x6o U ?_);have a0:=(a0.ext q8).fr q9 (by intro k hk;rw[l11.1 hk];exact b7);have a1:=(a1.ext q8).fr q9 (by intro k hk hh;rw[l11.1 hk]at hh;exact a6 hh);rw[b1,b8,j6k,Ea,Eb]at hC;exact⟨_,rfl,⟨(_,_,_),d,rfl,⟨_,gs,H,rfl,a0,a1,a5,b2⟩,hC⟩,(q7.z2 q8 q9)⟩
end Go.Proofs.YtkafbfjmcigaiaaGreatDoor
namespace Go.G09
open Go.Lw Go.G21 Go.G08
theorem j7m {b n r:Int}(hn:z4a b n=0)(D:-4<=r/\r<=4):(z2c b n r=if b=0 then 4*n+2 else 4*(n+r))/\-12<=z2c b n r/\z2c b n r<=176/\z2c b n r % 2=0:=by
 obtain⟨Z,I,O⟩:=z2w hn;have e:z2c b n r=if b=0 then 4*n+2 else 4*(n+r):=by
  unfold z2c;rw[if_neg (by rintro(h|h);exact h hn;exact h D)]
 refine⟨e,?_⟩;rw[e];split<;>omega
theorem y5g {p:MSt}{o:MOp}(hn:z4a o.b o.p=0)(D:-4<=p.rk/\p.rk<=4):x3r (z6p p o):=by
 obtain⟨_,I,O,Z⟩:=j7m hn D;unfold z6p x3r;split<;>refine⟨?_,oo,oo⟩<;>intro e<;>have:=Int.dvd_of_tmod_eq_zero e<;>omega
theorem k7r {B:Bd}(I:BdOk B){r f t:Int}:j0a (btw (z2k B r) f t):=λq D=>by
 refine⟨I.nm _<|u2k D,?_⟩
 unfold btw at D
 split at D
 ·obtain⟨h,_,rfl⟩:=l55.1 D;exact .inr U
 obtain⟨h,_,rfl⟩:=l55.1<|l126.1 D;exact .inl U
theorem y5l {p:MSt}{y pl en:Int}(h:MInv p)(hy:1<=y/\y<=6)(I:x3r pl)(D:(p.y y).inn=true)(O:(p.y y).pe.length+p.B.flat.length<=4096) :
    z9d p y pl en=.ok (p.setY y<|goS (p.y y) pl<|y2f p y en):=by
  refine j3q<|k9d (h.yn (y-1).toNat oo).1 I (k7r h.B) D ?_
  have Z:=z8b (y2f p y en) (p.y y).pe
  have h2:(y2f p y en).length<=p.B.flat.length:=v1x
  omega
structure Mk (p q:MSt) (o:MOp) (st:List LId):Prop where
  rk:q.rk=p.rk
  B:q.B=p.B.put o.b o.p (st++[⟨o.y,(p.y o.y).ct⟩])
  tb:∃th pe,q.tb=p.tb.set (o.y-1).toNat (p.row o.y++[⟨o.b,(p.y o.y).nw,th,pe⟩])
  ys:q.ys=p.ys.set (o.y-1).toNat ⟨true,z6p p o,(p.y o.y).ct+1,false,[]⟩
  cr:q.cr=p.cr
  fa:q.fa=p.fa
theorem j1c {p:MSt}(h:MInv p){o:MOp}(hy:1<=o.y/\o.y<=6)(hn:z4a o.b o.p=0)(D:(p.y o.y).inn=true)(a1:(p.y o.y).ct<2048)(a0:z4r p.tb<2048)(Z:(p.y o.y).pe.length+p.B.flat.length<=4096)(th st:List LId) :
    ∃q,y1y (p.setY o.y<|goS (p.y o.y) (z6p p o)<|y2f p o.y<|z2c o.b o.p p.rk) o th st=.ok q/\Mk p q o st:=by
  have hl:(o.y-1).toNat<p.ys.length:=by rw[h.ly];omega
  have hc:=y5l (en:=z2c o.b o.p p.rk) h hy (y5g hn h.rk) D Z
  have hi:=(y1i h hy hc).1
  have I:(p.setY o.y<|goS (p.y o.y) (z6p p o)<|y2f p o.y<|z2c o.b o.p p.rk).y o.y=goS (p.y o.y) (z6p p o) (y2f p o.y<|z2c o.b o.p p.rk):=u0t hl
  have O:y1v ((p.setY o.y<|goS (p.y o.y) (z6p p o)<|y2f p o.y<|z2c o.b o.p p.rk).y o.y):=(hi.yn (o.y-1).toNat oo).1
  have hm:mkE (goS (p.y o.y) (z6p p o)<|y2f p o.y<|z2c o.b o.p p.rk)=0:=by
    unfold mkE
    rw[<-I,if_neg (by rw[j1s O];decide),I]
    rw[if_neg (by show ¬(p.y o.y).inn=false;rw[D];decide),if_neg (by show ¬(p.y o.y).ct=2048;omega)]
  unfold y1y
  rw[I,if_neg (by rw[hm];decide),if_neg (by show ¬2048<=z4r p.tb;omega)]
  refine⟨_,rfl,rfl,rfl,⟨th,_,rfl⟩,?_,rfl,rfl⟩
  show (p.ys.set _ _).set _ _=_
  rw[List.set_set]
  rfl
theorem x4r {p:MSt}(h:MInv p){o:MOp}(hc:y1b o=0)(hk:o.k=4)(hb:z5q p o=0)(D:(p.y o.y).inn=true)(Z:(p.y o.y).ct<2048)(O:z4r p.tb<2048)(I:(p.y o.y).pe.length+p.B.flat.length<=4096) :
    ∃q,doM p o=.ok q/\Mk p q o []:=by
  obtain⟨_,_,f3,_,f5,_⟩:=z4c hc
  have hy:=f3 oo;have hn:=f5 oo
  rw[x2v hc]
  unfold opM
  rw[if_neg oo,if_neg oo,if_neg oo,if_pos hk]
  unfold y1q
  rw[if_neg (by rw[hb];decide),y5l h hy (y5g hn h.rk) D I]
  exact j1c h hy hn D Z O I _ _
theorem u2y {p:MSt}(h:MInv p){o:MOp}(hc:y1b o=0)(hk:o.k=5)(hb:z5q p o=0)(D:(p.y o.y).inn=true)(Z:(p.y o.y).ct<2048)(O:z4r p.tb<2048)(I:(p.y o.y).pe.length+p.B.flat.length<=4096)(a0:(p.B.at o.b o.p).length<4) :
    ∃q,doM p o=.ok q/\Mk p q o (p.B.at o.b o.p):=by
  obtain⟨_,_,f3,_,f5,_⟩:=z4c hc
  have hy:=f3 oo;have hn:=f5 oo
  rw[x2v hc]
  unfold opM
  rw[if_neg oo,if_neg oo,if_neg oo,if_neg oo,if_pos hk]
  unfold y0t
  rw[if_neg (by rw[hb];decide),y5l h hy (y5g hn h.rk) D I]
  simp only
  rw[if_neg (by show ¬4<=(p.B.at o.b o.p).length;omega)]
  exact j1c h hy hn D Z O I _ _
theorem j3l {p:MSt}(h:MInv p){o:MOp}(O:y1b o=0)(Z:o.k=1)(D:(p.y o.y).inn=false):doM p o=.ok (p.setY o.y<|enS (p.y o.y) o.d):=by
 obtain⟨_,f2,f3,_,_,_⟩:=z4c O;have hy:=f3 oo;rw[x2v O];unfold opM inM;have he:enE (p.y o.y) o.d=0:=by
  have I:y1v (p.y o.y):=(h.yn (o.y-1).toNat oo).1;unfold enE;rw[if_neg (by rw[j1s I];decide),if_neg (λx=>x<|f2 Z),if_neg (by rw[D];decide)]
 rw[if_pos Z,if_neg (by rw[he];decide)]
theorem u5f {p:MSt}(h:MInv p){o:MOp}(O:y1b o=0)(hk:o.k=2)(D:(p.y o.y).inn=true):doM p o=.ok (p.setY o.y<|lvS<|p.y o.y):=by
 obtain⟨_,_,Z,_,_,_⟩:=z4c O;have hy:=Z oo;rw[x2v O];unfold opM x6z;have he:lvE (p.y o.y)=0:=by
  have I:y1v (p.y o.y):=(h.yn (o.y-1).toNat oo).1;unfold lvE;rw[if_neg (by rw[j1s I];decide),if_neg (by rw[D];decide)]
 rw[if_neg oo,if_pos hk,if_neg (by rw[he];decide)]
end Go.G09
namespace Go.G26
open Go.Lw Go.G21 Go.G08 Go.G09
theorem y7p {D p q:MSt}{o:MOp}:∀ {l:List MOp} {i:Nat},z3d i D l=.ok p->doM p o=.ok q->z3d i D (l++[o])=.ok q
 | [],i,h,e=>by cases h;show z3d i D [o]=_;unfold z3d;rw[e];rfl
 | x::l,i,h,e=>by
  rw[l48]
  unfold z3d at h ⊢
  split at h
  ·cases h
  rename_i O I
  exact y7p h e
structure RI (p:MSt) (b:Int) (m:Nat):Prop where
  v:MInv p
  rk:p.rk=0
  inn:(p.y 1).inn=true
  pl:(p.y 1).pl<=b
  pe:(p.y 1).pe.length<=6
  cnt:z4r p.tb<=m
theorem v2j:∀n:Nat,n<16->y1b (opS 4 1 n)=0/\y1b (opS 6 0 n)=0/\y1b (opS 5 1 n)=0/\z2c (bdS n) (10+((n / 2:Nat):Int)) 0=40+2*(n:Int)/\z4a (bdS n) (10+((n / 2:Nat):Int))=0:=by decide +kernel
theorem RI.fl {p:MSt}{b:Int}{m:Nat}(h:RI p b m):p.B.flat.length<=m:=by have:=h.v.cnt;have:=h.cnt;omega
theorem RI.ct {p:MSt}{b:Int}{m:Nat}(h:RI p b m):(p.y 1).ct<=m:=by
 have e:(p.y 1).ct=z3h p.tb 0:=(h.v.yn 0 oo).2;have D:=x7u p.tb 0;have:=h.cnt;rw[e];omega
theorem j7g {p q:MSt}{z:Yn}(h:MInv p)(e:q.ys=p.ys.set 0 z):q.y 1=z:=by
 unfold MSt.y;rw[e,List.getD,show ((1:Int)-1).toNat=0 from U,l120 (by rw[h.ly];omega)];rfl
theorem j6r {p:MSt}{n m:Nat}(h:RI p (40+2*(n:Int)) m)(hn:n<16)(hm:m<6) :
    ∃q,doM p (opS 4 1 n)=.ok q/\RI q (41+2*(n:Int)) (m+1)/\(q.y 1).pl=41+2*(n:Int)/\(q.B.at (bdS n)<|10+((n / 2:Nat):Int)).length=1:=by
  obtain⟨O,_,_,Z,I⟩:=v2j n hn
  have hs:z2c (opS 4 1 n).b (opS 4 1 n).p p.rk=40+2*(n:Int):=by rw[h.rk];exact Z
  have a1:=h.ct;have hfl:=h.fl;have a2:=h.pe;have a0:=h.cnt;have a3:=h.pl
  have hb:z5q p (opS 4 1 n)=0:=by
    unfold z5q
    rw[show (opS 4 1 n).y=1 from U,if_neg (by rw[h.inn];decide),if_pos (show (opS 4 1 n).d=1 from U),hs,if_neg oo]
  obtain⟨q,e,k⟩:=x4r h.v O U hb h.inn (show (p.y 1).ct<2048 by omega) oo (show (p.y 1).pe.length+_<=4096 by omega)
  have D:=j7g h.v k.ys
  have hp:z6p p (opS 4 1 n)=41+2*(n:Int):=by unfold z6p;rw[if_pos (show (opS 4 1 n).d=1 from U),hs];omega
  refine⟨q,e,⟨z8h h.v e,k.rk.trans h.rk,by rw[D],by rw[D];show z6p p (opS 4 1 n)<=_;omega,by rw[D];exact l17 _,l44 (j2a e) oo⟩,by rw[D];exact hp,?_⟩
  rw[k.B]
  show ((p.B.put (bdS n) (10+((n / 2:Nat):Int)) _).at _ _).length=1
  rw[y6k _ I I,if_pos ⟨rfl,rfl⟩];rfl
theorem j5l {p:MSt}{n m:Nat}(h:RI p (41+2*(n:Int)) m)(hn:n<16)(hm:m<=6)(a1:(p.y 1).pl=41+2*(n:Int))(a0:(p.y 1).pe.length=0) :
    ∃q,doM p (opS 6 0 n)=.ok q/\RI q (40+2*(n:Int)) m/\q.B=p.B:=by
  obtain⟨_,I,_,O,Z⟩:=v2j n hn
  have hs:z2c (opS 6 0 n).b (opS 6 0 n).p p.rk=40+2*(n:Int):=by rw[h.rk];exact O
  have hfl:=h.fl
  have hb:z5q p (opS 6 0 n)=0:=by
    unfold z5q
    rw[show (opS 6 0 n).y=1 from U,if_neg (by rw[h.inn];decide),if_neg (show ¬(opS 6 0 n).d=1 from (by decide:¬(0:Int)=1)),hs,if_neg oo]
  have hp:z6p p (opS 6 0 n)=39+2*(n:Int):=by unfold z6p;rw[if_neg (show ¬(opS 6 0 n).d=1 from (by decide:¬(0:Int)=1)),hs];omega
  have hc:=y5l (y:=1) (pl:=z6p p<|opS 6 0 n) (en:=z6p p<|opS 6 0 n) h.v oo (y5g Z h.v.rk) h.inn oo
  have e:doM p (opS 6 0 n)=.ok (p.setY 1<|goS (p.y 1) (z6p p<|opS 6 0 n)<|y2f p 1<|z6p p<|opS 6 0 n):=by
    rw[x2v I]
    unfold opM
    rw[if_neg (show ¬(opS 6 0 n).k=1 from (by decide:¬(6:Int)=1)),if_neg (show ¬(opS 6 0 n).k=2 from (by decide:¬(6:Int)=2)),if_neg (show ¬(opS 6 0 n).k=3 from (by decide:¬(6:Int)=3)),if_neg (show ¬(opS 6 0 n).k=4 from (by decide:¬(6:Int)=4)),if_neg (show ¬(opS 6 0 n).k=5 from (by decide:¬(6:Int)=5)),if_pos (show (opS 6 0 n).k=6 from U)]
    unfold y3h
    rw[if_neg (by rw[hb];decide)]
    exact hc
  have D:(p.setY 1<|goS (p.y 1) (z6p p<|opS 6 0 n)<|y2f p 1<|z6p p<|opS 6 0 n).y 1=goS (p.y 1) (z6p p<|opS 6 0 n) (y2f p 1<|z6p p<|opS 6 0 n):=u0t (by rw[h.v.ly];decide)
  refine⟨_,e,⟨z8h h.v e,h.rk,by rw[D];exact h.inn,by rw[D];show z6p p (opS 6 0 n)<=_;omega,?_,h.cnt⟩,rfl⟩
  rw[D]
  have h6:=z8b (y2f p 1<|z6p p<|opS 6 0 n) (p.y 1).pe
  have h7:(y2f p 1<|z6p p<|opS 6 0 n).length<=p.B.flat.length:=v1x
  show (z5d _ _).length<=6
  omega
theorem j7l {p:MSt}{n m:Nat}(h:RI p (40+2*(n:Int)) m)(hn:n<16)(hm:m<6)(hl:(p.B.at (bdS n)<|10+((n / 2:Nat):Int)).length=1) :
    ∃q,doM p (opS 5 1 n)=.ok q/\RI q (41+2*(n:Int)) (m+1):=by
  obtain⟨_,_,I,O,h5⟩:=v2j n hn
  have hs:z2c (opS 5 1 n).b (opS 5 1 n).p p.rk=40+2*(n:Int):=by rw[h.rk];exact O
  have a1:=h.ct;have hfl:=h.fl;have a2:=h.pe;have a0:=h.cnt;have a3:=h.pl
  have Z:z5q p (opS 5 1 n)=0:=by
    unfold z5q
    rw[show (opS 5 1 n).y=1 from U,if_neg (by rw[h.inn];decide),if_pos (show (opS 5 1 n).d=1 from U),hs,if_neg oo]
  obtain⟨q,e,k⟩:=u2y h.v I U Z h.inn (show (p.y 1).ct<2048 by omega) oo (show (p.y 1).pe.length+_<=4096 by omega) (by show (p.B.at (bdS n)<|10+((n / 2:Nat):Int)).length<4;omega)
  have D:=j7g h.v k.ys
  have hp:z6p p (opS 5 1 n)=41+2*(n:Int):=by unfold z6p;rw[if_pos (show (opS 5 1 n).d=1 from U),hs];omega
  exact⟨q,e,⟨z8h h.v e,k.rk.trans h.rk,by rw[D],by rw[D];show z6p p (opS 5 1 n)<=_;omega,by rw[D];exact l17 _,l44 (j2a e) oo⟩⟩
theorem u1b (n:Nat):∀(l:List Int) (s:List MOp×Nat),x2q n l s=s\/∃p,u3e n s.2 p/\x2q n l s=v5a n p s
 | [],s=>.inl U
 | p::r,s=>by
  unfold x2q
  split
  ·rename_i h;exact .inr ⟨p,h,rfl⟩
  exact u1b n r s
theorem RI.more {p:MSt}{b b':Int}{m:Nat}(h:RI p b m)(hb:b<=b'):RI p b' m:=⟨h.v,h.rk,h.inn,by have:=h.pl;omega,h.pe,h.cnt⟩
theorem u9h {n:Nat}{x:Int}{s:List MOp×Nat}(hn:n<16)(hm:s.2<6)(h:∃p,z3d 0 G08.start s.1=.ok p/\RI p (40+2*(n:Int)) s.2):∃p,z3d 0 G08.start (v5a n x s).1=.ok p/\RI p (42+2*(n:Int)) (v5a n x s).2:=by
 obtain⟨p,hp,D⟩:=h;obtain⟨q,e1,Z,I,O⟩:=j6r D hn hm;have r1:z3d 0 G08.start (s.1++[opS 4 1 n])=.ok q:=y7p hp e1;unfold v5a;split;rename_i c;obtain⟨q2,e2,a0,hB⟩:=j5l Z hn oo I (by
  have hy:=Z.pe;obtain⟨h1,_,_,h4,h5⟩:=v2j n hn;have hs:z2c (opS 4 1 n).b (opS 4 1 n).p p.rk=40+2*(n:Int):=by rw[D.rk];exact h4
  have a3:=D.ct;have hfl:=D.fl;have a4:=D.pe;have a2:=D.cnt;have I:=D.pl;have hb:z5q p (opS 4 1 n)=0:=by
   unfold z5q;rw[show (opS 4 1 n).y=1 from U,if_neg (by rw[D.inn];decide),if_pos (show (opS 4 1 n).d=1 from U),hs,if_neg oo]
  obtain⟨q',e',k⟩:=x4r D.v h1 U hb D.inn (show (p.y 1).ct<2048 by omega) oo (show (p.y 1).pe.length+_<=4096 by omega);rw[e1]at e';cases e';rw[j7g D.v k.ys];rfl)
 obtain⟨q3,e3,a1⟩:=j7l a0 hn oo (by rw[hB];exact O);refine⟨q3,?_,a1.more oo⟩;have r2:=y7p r1 e2;have r3:=y7p r2 e3;simpa[l14] using r3;exact⟨q,r1,Z.more oo⟩
theorem x5d (xs:List Int):∀n,n<=16->∃p,z3d 0 G08.start (z9n xs n).1=.ok p/\RI p (40+2*(n:Int)) (z9n xs n).2
 | 0,_=>by
  have e:∃p,doM G08.start ⟨1,0,0,0,1,0⟩=.ok p/\p=G08.start.setY 1 (enS (G08.start.y 1) 0):=⟨_,j3l y5y dd U dd,rfl⟩
  obtain⟨p,e,rfl⟩:=e
  have I:(G08.start.setY 1<|enS (G08.start.y 1) 0).y 1=enS (G08.start.y 1) 0:=u0t dd
  refine⟨_,by show z3d 0 G08.start [_]=_;unfold z3d;rw[e];rfl,z8h y5y e,rfl,by rw[I];rfl,by rw[I];show (if (0:Int)=1 then (179:Int) else -13)<=_;rw[if_neg dd];omega,by rw[I];exact l17 _,(by decide:z4r G08.start.tb<=0)⟩
 | n+1,h=>by
  obtain⟨p,Z,O⟩:=x5d xs n oo
  rcases u1b n (xs.take 6) (z9n xs n) with e|⟨x,hx,e⟩
  ·refine⟨p,by show z3d 0 G08.start (x2q n (xs.take 6)<|z9n xs n).1=_;rw[e];exact Z,?_⟩
   show RI p _ (x2q n (xs.take 6)<|z9n xs n).2
   rw[e];exact O.more oo
  obtain⟨q,hq,D⟩:=u9h (x:=x) (s:=z9n xs n) oo hx.2 ⟨p,Z,O⟩
  refine⟨q,by show z3d 0 G08.start (x2q n (xs.take 6)<|z9n xs n).1=_;rw[e];exact hq,?_⟩
  show RI q _ (x2q n (xs.take 6)<|z9n xs n).2
  rw[e];exact D.more oo
theorem u4r (xs:List Int):∃p,z3d 0 G08.start (j9k xs)=.ok p/\p.B.flat.length<=6/\p.rk=0:=by
 obtain⟨p,O,D⟩:=x5d xs 16<|l20 _;have I:=(x1v xs 16).2;have e:=u5f (o:=⟨2,0,0,0,1,0⟩) D.v dd U D.inn;exact⟨_,y7p O e,l44 D.fl I,D.rk⟩
theorem u8w (o:List LId)(w v:List Int)(c:Cx):v4e (o,w++v) c=((v4e (o,v) c).1,w++(v4e (o,v) c).2):=by
 unfold v4e;cases nbr o c.a c.b with
 | none=>rfl
 | some n=>simp only[l14]
theorem v1c:∀(cs:List Cx) (o:List LId) (w v:List Int),cs.foldl v4e (o,w++v)=((cs.foldl v4e (o,v)).1,w++(cs.foldl v4e (o,v)).2)
 | [],_,_,_=>rfl
 | c::cs,o,w,v=>by
  rw[l136,l136,u8w]
  exact v1c cs _ w _
theorem x5i (B:Bd)(d:Int):∀(n:Nat) (r:Int) (o:List LId) (w v:List Int),v4d B d n r (o,w++v)=((v4d B d n r (o,v)).1,w++(v4d B d n r (o,v)).2)
 | 0,_,_,_,_=>rfl
 | n+1,r,o,w,v=>by
  unfold v4d
  rw[v1c]
  exact x5i B d n _ _ w _
theorem y3m:∀(l:List MOp) (p:MSt) (o:List LId) (w v:List Int),z4f p (o,w++v) l=((z4f p (o,v) l).1,w++(z4f p (o,v) l).2)
 | [],_,_,_,_=>rfl
 | x::l,p,o,w,v=>by
  have h:(if x.k=3 then y4q p.B p.rk x.r (o,w++v) else (o,w++v))=((if x.k=3 then y4q p.B p.rk x.r (o,v) else (o,v)).1,w++(if x.k=3 then y4q p.B p.rk x.r (o,v) else (o,v)).2):=by
   by_cases c:x.k=3
   ·rw[if_pos c,if_pos c];exact x5i _ _ _ _ _ _ _
   rw[if_neg c,if_neg c]
  unfold z4f
  simp only[h]
  cases doM p x with
  | error _=>exact y3m l _ _ w _
  | ok q=>exact y3m l _ _ w _
theorem x5y {p q:MSt}{o:MOp}{l:List MOp}{st:St}(h:doM p o=.ok q):z4f p st (o::l)=z4f q (if o.k=3 then y4q p.B p.rk o.r st else st) l:=by
 conv=>lhs;unfold z4f
 rw[h]
theorem y8v:∀ {l1 l2:List MOp} {i:Nat} {p D:MSt} {st:St},z3d i p l1=.ok D->z4f p st (l1++l2)=z4f D (z4f p st l1) l2
 | [],l2,i,p,D,st,e=>by cases e;rfl
 | o::l1,l2,i,p,D,st,e=>by
  unfold z3d at e
  split at e
  ·cases e
  rename_i q I
  rw[l48,x5y I,x5y I]
  exact y8v e
theorem v9j:∀ {l:List MOp} {i j:Nat} {p q:MSt},z3d i p l=.ok q->z3d j p l=.ok q
 | [],_,_,_,_,e=>by cases e;rfl
 | o::l,i,j,p,q,e=>by
  unfold z3d at e ⊢
  split at e
  ·cases e
  exact v9j e
theorem u0r:∀ {l:List MOp} {i:Nat} {p p' q:MSt},Eqv p p'->z3d i p l=.ok q->∃q',z3d i p' l=.ok q'/\Eqv q q'
 | [],i,p,p',q,h,e=>by cases e;exact⟨p',rfl,h⟩
 | o::l,i,p,p',q,h,e=>by
  unfold z3d at e
  split at e
  ·cases e
  rename_i r hr
  obtain⟨r',D,Z⟩:=u0m h hr
  obtain⟨q',I,O⟩:=u0r Z e
  exact⟨q',by unfold z3d;rw[D];exact I,O⟩
theorem x5h:∀ {l:List MOp} {i:Nat} {p p' q:MSt} {st:St},Eqv p p'->z3d i p l=.ok q->z4f p st l=z4f p' st l
 | [],_,_,_,_,_,_,_=>rfl
 | o::l,i,p,p',q,st,h,e=>by
  unfold z3d at e
  split at e
  ·cases e
  rename_i r I
  obtain⟨r',D,O⟩:=u0m h I
  unfold z4f
  simp only[I,D,h.B,h.rk]
  exact x5h O e
def wdQ (p:MSt)(l:List MOp):List Int:=(z4f p (z3v p,[]) l).2
theorem v0t {p q:MSt}{l:List MOp}(hv:MVal p)(hs:isP l=true)(O:l.length<=4096)(Z:p.B.flat.length<=8)(hr:z3d 0 p l=.ok q):(64<(wdQ p l).length->z2j p l=.error 3)/\((wdQ p l).length<=64->z2j p l=.ok (wdQ p l,q)):=by
 obtain⟨w,e,D,I,-⟩:=x0d hv hs hr O Z U;unfold wdQ;rw[e];exact⟨D,I⟩
theorem v7q {p q:MSt}{l:List MOp}(hv:MVal p)(hs:isP l=true)(hr:z3d 0 p l=.ok q):z4f p (z3v p,[]) l=(z3v q,wdQ p l):=by
 have D:z3v p=(List.range (z3v p).length).map λi=>(z3v p).getD i id0:=by
  refine l65 sp0 λi O h2=>?_;rw[l76,l139,List.getD,l10 O];rfl
 have Z:∀o∈l,o.k=3\/o.k=7:=λo D=>by
  have:=l127.1 hs o D;simp only[decide_eq_true_eq]at this;exact this.1
 obtain⟨u,-,I,-⟩:=x0m (w:=[]) hv.inv Z hr D sp0;unfold wdQ;rw[I]
theorem u6z {p D:MSt}{l1 l2:List MOp}(hv:MVal p)(hs:isP l1=true)(Z:z3d 0 p l1=.ok D):wdQ p (l1++l2)=wdQ p l1++wdQ D l2:=by
 have h1:=v7q hv hs Z;have I:=y8v (l2:=l2) (st:=(z3v p,[])) Z;rw[h1]at I;have O:=y3m l2 D (z3v D) (wdQ p l1) [];rw[l26]at O;show (z4f p (z3v p,[])<|l1++l2).2=_;rw[I,O];rfl
theorem u7l {p p' q:MSt}{l:List MOp}(h:Eqv p p')(I:z3d 0 p l=.ok q):wdQ p l=wdQ p' l:=by
 have D:z3v p=z3v p':=by unfold z3v;rw[h.B,h.rk]
 unfold wdQ;rw[<-D,x5h h I]
theorem j4e {l1 l2:List MOp}:isP (l1++l2)=true↔isP l1=true/\isP l2=true:=by unfold isP;rw[List.all_append,l92]
theorem v3p {p q:MSt}{l1 l2:List MOp}{u:List Int}(Z:MVal p)(e:z2j p (l1++l2)=.ok (u,q)):∃u1 D u2 q2,z2j p l1=.ok (u1,D)/\z2j (nrm D) l2=.ok (u2,q2)/\u=u1++u2/\(z3v<|nrm D).length=(z3v p).length:=by
 obtain⟨hs,h4,h8,hr⟩:=y6w e;obtain⟨O,a2⟩:=j4e.1 hs;rw[l13]at h4;obtain⟨D,r1,r2⟩:=x3c (n:=l1.length) hr sp0;rw[l110]at r1;rw[List.drop_left]at r2;have a0:=x8h Z r1;have hE:=x8j a0;obtain⟨q2,r3,-⟩:=u0r hE<|v9j (j:=0) r2;have hw:=u6z (l2:=l2) Z O r1;rw[u7l hE (v9j r2)]at hw;obtain⟨hl,hu,-,-,-⟩:=z7a Z e;have I:wdQ p (l1++l2)=u:=hu;rw[hw]at I;have a3:(wdQ p l1).length+(wdQ (nrm D) l2).length<=64:=by rw[<-l13,I];exact hl
 have b1:=(v0t Z O oo h8 r1).2 oo;have ol:=(z7a Z b1).2.2.2.2;have a1:(nrm D).B.flat.length<=8:=by
  have e1:=y3d D;have e2:=y3d p;show D.B.flat.length<=8;omega
 exact⟨_,D,_,q2,b1,(v0t (z4p a0) a2 oo a1 r3).2 oo,I.symm,ol⟩
end Go.G26
namespace Go.Proofs.YtkafbfjmcigaiaaGreatDoor
open Go.Lw Go.G21 Go.G08 Go.G09 Go.G26 _root_.Go.Proofs.Tryz
theorem ag24:z3z prog 24 2:=⟨λ_=>kr,λ_=>kr⟩
theorem k1b:CallOf prog 15:=mkC func15
theorem k2o:z1d prog 24 1 1:=λ_ _=>kr
def NmF (n:Nat)(w:World)(u:List Int)(nv:Value)(f:Int):Prop:=(n=0->f=13)/\(n≠0->f=0/\∃c:BrN n,NrmS n 0 w nv c/\Cn (fac n u) c/\c.2.length<=64/\-64<=c.1/\c.1<=64)
theorem NmF.ext {n:Nat}{w w':World}{u:List Int}{D:Value}{f:Int}(h:NmF n w u D f)(hf:Fr [] w w'):NmF n w' u D f:=⟨h.1,λZ=>by
 obtain⟨a,c,I,O⟩:=h.2 Z
 exact⟨a,c,I.ext hf,O⟩⟩
theorem NmF.tf {n g T:Nat}{w w':World}{u:List Int}{nv:Value}{f:Int}{cs:List Value}(h:NmF n w u nv f)(hf:Fr [g] w w')(hb:Blk w g T cs)(h1:22≠T)(h2:5≠T):NmF n w' u nv f:=⟨h.1,λhn=>by
 obtain⟨a,c,⟨O,hs,F,e,Z,k2,k3,k4⟩,h4⟩:=h.2 hn
 exact⟨a,c,⟨O,hs,F,e,Z.fr hf (λk D I=>by rw[l11]at D;subst D;exact Own.neB Z hb h1 I),k2.fr hf (λk D I=>by rw[l11]at D;subst D;exact Own.neB (k2.r _ I) hb h2 t10),k3,k4⟩,h4⟩⟩
theorem NmlR.nf {b n:Nat}{w:World}{p q:MSt}{l:List MOp}{D:Value}{f:Int}{u:List Int}(h:NmlR b w p l n D f)(e:z2j (nrm p) l=.ok (u,q)):NmF n w u D f:=⟨(h.2 u q e).1,λZ=>by
 obtain⟨a,c,I,O⟩:=(h.2 u q e).2 Z
 exact⟨a,c,I.low<|l17 _,O⟩⟩
theorem j2z (A M:Option Addr)(c cM:Nat)(bs ms:List UInt8)(e5:Int)(w0:World)(v8:0<=e5/\e5<=255)(hG:Glob w0)(D:StT w0)(hs:Sl Enc.b w0 (.slice A bs.length c) bs)(hm:Sl Enc.b w0 (.slice M ms.length cM) ms):Rets prog 4 #[.agg #[.slice A bs.length c,.slice M ms.length cM],.int .u8 e5] w0 λr w'=>r=.bool true/\Fr [] w0 w':=by
 have u9:=hG.sz;refine we [(0,.agg #[.slice A bs.length c,.slice M ms.length cM]),(1,.int .u8 e5)] func4 U ntmps4 U (.c2 U U) ?_;have f7:=hG;have b0:=D;have n7:=hs;have o7:=hm;refine sr<|bx U<|λg2 w1 v9 e4 q1 z1=>(asg U<|nn<|sr<|z0l U e4 ag24 ?_);have hs:=n7.ext q1;have D:=b0.ext q1;refine cl (ev1 U) (mkC func5) (y8l A c bs M ms.length cM _ hs D) U ?_;rintro _ w2 ⟨⟨s,rfl,hK,o5⟩,q2⟩;have hS:=hK.at;have z2:=q2.size;have o4:=hK;have e6:=hS;have hs:=n7.ext<|q1.n1 q2;obtain⟨p,hp,h6,-⟩:=u4r<|bs.map λb=>(b.toNat:Int);have hP:=o5 p hp;have x7:=z2e hS.f.h;have m9:s.fb.hs=z3v (nrm p):=hP.hsE;have h8:p.B.flat.length<=8:=by omega
 have m3:(z3v<|nrm p).length=s.q.p.flat.length:=by rw[y3d,show s.q.p=p.B from hP.BE];rfl
 have u7:s.fb.hs.length=s.q.p.flat.length:=by rw[m9];exact m3
 have u6:s.q.p.flat.length<=8:=by rw[show s.q.p=p.B from hP.BE];exact h8
 refine al y7t U<|λg5 w3 x0 Z q3 z3=>?_;refine z0j (vs:=[_,_,_,_,_,_,_,_]) U Z z9z (λw4 Z q4 z4=>?_) (h1:=t24);refine nn<|sq ?_;have D:=b0.ext<|q1.z3 q2 q3 q4;have hm:=o7.ext<|q1.z3 q2 q3 q4;have e4:=(e4.ext<|q2.n1 q3).fr q4;have hK:=o4.ext<|q3.z1 q4;have hS:=e6.ext<|q3.z1 q4;intro a h;refine z0h none (λwb w'=>Fr [] wb w') z2s ?_;intro w5 q5;have z5:=q5.size;have D:=D.ext q5;have hm:=hm.ext q5;have e4:=e4.ext q5;have hK:=hK.ext q5;have hS:=hS.ext q5;have Z:=Z.ext q5;have hC:Fr [] w5 w5:=l12 _ _;have a4:=D;have m7:=hm;have h2:=e4;have m4:=hK;have b8:=hS;have a3:=Z;refine z0x 0 h U (λ_ hw=>a3.ext hw) z8f U λa h=>z0x 1 h U (λ_ hw=>a3.ext hw) z8f U λa h=>z0c 2 h U k2o U λa h=>z0m 3 h U (λ_ hw=>h2.ext hw) U x2s U λa h=>z0d 4 U<|z0n h (z0a U<|z0a U z0f) (mkC func7) (j8i s p 50 M cM ms _ hK hP oo hm D) ?_;rintro _ w6 ⟨⟨A4,l,c4,rfl,e8,x1,s8,q,x8⟩,q6⟩ a h;have z6:=q6.size;have D:=D.ext q6;have hS:=hS.ext q6;have hC:=hC.next q6;refine z0b<|z0d 5 U<|z0n h (z0a U<|z0a U<|z0a U z0f) (mkC func6) (j5s s p q 50 A4 c4 l 64 _ hS hP e8.sl D oo h8 dd) ?_;rintro _ w7 ⟨⟨m,ul,qs,o8,rfl,l3,x9⟩,q7⟩ a h;have z7:=q7.size;have D:=D.ext q7;have hm:=hm.ext<|q6.n1 q7;have e4:=e4.ext<|q6.n1 q7;have hK:=hK.ext<|q6.n1 q7;have hS:=hS.ext q7;have Z:=Z.ext<|q6.n1 q7;have e8:=e8.ext q7;have hC:=hC.next q7;refine z0b<|z0d 6 U<|z0o h U λa h=>?_;refine z0b<|z0q ?_;clear hC a4 m7 h2 m4 b8 a3;have m6:=x9d e8.sl;obtain⟨_,_,p3,s5⟩:=id e8.sl.form;cases p3;obtain⟨lm,l4⟩:∃lm,lm=l.take m:=⟨_,rfl⟩;have o9:lm.length=m:=by rw[l4,l27];omega
 rw[<-l4]at l3;have d3:Sl z3i w7 (.slice A4 m c4) lm:=by rw[l4];exact e8.sl.take U o8 oo m6<|λ_=>rfl
 have e0:=d3;subst o9;have x4:=λk (hk:k∈z0v (.slice A4 l.length c4))=>(e8.blk k hk).2;refine bk (h.sub (L':=ll3 1 5 6)<|csu U)<|tn<|sr<|mv U U<|z3u U (us underlying5) underlying3 (wi6 oo)<|mv U U<|lnS U underlying38<|z0w U (wi6 oo)<|y8b U U t38<|asg U ?_;obtain⟨jj,x2⟩:∃jj:Nat,(jj:Int)=e5 % ((lm.length:Int)+1):=⟨(e5 % ((lm.length:Int)+1)).toNat,Int.toNat_of_nonneg<|Int.emod_nonneg _ oo⟩;have x3:=Int.emod_lt_of_pos e5 (show (0:Int)<(lm.length:Int)+1 by omega);have a5:Sl z3i w7 (.slice A4 jj c4) (lm.take jj):=d3.take U oo oo m6<|λ_=>rfl;have b6:Sl z3i w7 (.slice (if c4=jj then A4 else A4.map (·.add (jj*z3i.sz))) (lm.length-jj)<|c4-jj) (lm.drop jj):=d3.drop U oo oo oo<|λh=>if_neg oo;have e1:=a5;have e2:=b6;have x5:(lm.take jj).length=jj:=by rw[l27];omega
 have x6:(lm.drop jj).length=lm.length-jj:=l35 ..;obtain⟨u1,p1,u2,y1,g8,h0,hu,j2⟩:=v3p (l1:=lm.take jj) (l2:=lm.drop jj) (z4p hP.v) (by rw[l25];exact l3);have p0:(z3v<|nrm p).length=s.q.p.flat.length:=m3;have h4:=(z7a (z4p hP.v) g8).2.2.1;rw[p0]at h4 j2;refine kpL (ll3 5 6 7) (csu U)<|nn<|jn (ι:=StQ×Nat) (ll3 5 6 7) (λv_=>[(9,pta v_.2),(10,.int .i64 0)]) (λv_ w'=>Fr [] w7 w'/\StAt w' v_.1/\StP v_.1 p1 (50+(lm.take jj).length)/\Blk w' v_.2 36 (stL v_.1)) (csu U) ?_ ?_;intro a h;refine z0h none (λwb w'=>Fr [] wb w') z2s ?_;intro w8 q8;have z8:=q8.size;have D:=D.ext q8;have hS:=hS.ext q8;have Z:=Z.ext q8;have a5:=a5.ext q8;have hC:Fr [] w8 w8:=l12 _ _;have a4:=D;have b8:=hS;have a3:=Z;have b9:=a5;refine z0x 0 h U (λ_ hw=>a3.ext hw) z8f U λa h=>z0e 1 h U λa h=>z0e 2 h U λa h=>v9l (p:=jj) 3 hC h wn U U y5d U U λa h=>z1u 4 9 kr U ?_ ?_;refine z0n h (z0a U<|z0a U z0f) u2g (z5k s p 50 _ (lm.take jj) _ hS hP oo a5 D) ?_;rintro _ w9 ⟨⟨o0,ws,t9,o1,rfl,hB⟩,q9⟩ a h;have z9:=q9.size;have Z:=Z.ext q9;have hC:=hC.next q9;have d0:=hB.k;obtain⟨rfl,-,d1⟩:=hB.ok _ _ g8;clear hB;refine z0b<|z0e 5 h U λa h=>z0k 6 h U λa h=>z0k 7 h U λa h=>z0k 8 h U λa h=>z0d 9 U<|z0u h y7t U λy2 a0 j5 hz a h=>?_;obtain⟨b7,hg⟩:∃g,g=w9.heap.size:=⟨_,rfl⟩;rw[<-hg]at a0 h hz;have l7:g5<b7:=by have:=Z.lt;omega
 have A8:=j5.size;have d0:=d0.ext j5;have hC:=hC.next j5;refine z0b<|z0d 10 U<|z0o h U λa h=>?_;refine z0b<|z0d 11 U<|z0t h U a0 U z9z ?_ (h1:=t24);intro q0 a8 j6 hz a h;have A9:=j6.size;have d0:=d0.fr j6 t30;have hC:=hC.sp j6;have a0:Blk q0 b7 _ [_,_,_,_,_,_,_,_]:=a8;clear a8;refine z0b<|z0d 12 U<|z0o h U λa h=>?_;refine z0b<|z0q ?_;clear hC a4 b8 a3 b9;exact bk (h.sub (L':=ll5 5 6 7 9 10)<|csu U)<|jE ((t9,b7)) (csu U) ⟨(q8.z3 q9 j5 j6),⟨d0.at,d1,a0⟩⟩;refine z0u h y7t U λy3 a0 f2 hz a h=>?_;obtain⟨b7,hg⟩:∃g,g=w8.heap.size:=⟨_,rfl⟩;rw[<-hg]at a0 h hz;have l7:g5<b7:=by have:=Z.lt;omega
 have B0:=f2.size;have D:=D.ext f2;have hS:=hS.ext f2;have a5:=a5.ext f2;have hC:=hC.next f2;refine z0b<|z0d 4 U<|z0n h (z0a U<|z0a U z0f) u2g (z5k s p 50 _ (lm.take jj) _ hS hP oo a5 D) ?_;rintro _ y4 ⟨⟨o0,ws,t9,o1,rfl,hB⟩,q13⟩ a h;have B1:=q13.size;have a0:=a0.ext q13;have hC:=hC.next q13;have d0:=hB.k;obtain⟨rfl,-,d1⟩:=hB.ok _ _ g8;clear hB;refine z0b<|z0e 5 h U λa h=>z0k 6 h U λa h=>z0k 7 h U λa h=>z0k 8 h U λa h=>z0d 10 U<|z0o h U λa h=>?_;refine z0b<|z0d 11 U<|z0t h U a0 U z9z ?_ (h1:=t24);intro r4 a8 j7 hz a h;have B2:=j7.size;have d0:=d0.fr j7 t30;have hC:=hC.sp j7;have a0:Blk r4 b7 _ [_,_,_,_,_,_,_,_]:=a8;clear a8;refine z0b<|z0d 12 U<|z0o h U λa h=>?_;refine z0b<|z0q ?_;clear hC a4 b8 a3 b9;exact bk (h.sub (L':=ll5 5 6 7 9 10)<|csu U)<|jE ((t9,b7)) (csu U) ⟨(q8.z3 f2 q13 j7),⟨d0.at,d1,a0⟩⟩;rintro⟨t9,b7⟩ r5 ⟨a9,⟨b5,d1,a0⟩⟩;have B3:=a9.size;have c9:=b5;have j4:=a0.lt;simp only at b5 c9 d1 a0 j4;have k7:p1.B.flat.length<=8:=by have:=y3d<|nrm p1;rw[j2]at this;show (nrm p1).B.flat.length<=8;omega
 have m8:t9.q.p.flat.length=s.q.p.flat.length:=by rw[show t9.q.p=p1.B from d1.BE];exact(y3d<|nrm p1).symm.trans j2
 have h5:=(z7a (z4p d1.v) h0).2.2.1;rw[j2]at h5;refine kpC [(5,_),(6,_),(7,_),(9,pta b7),(10,_)] (csu U)<|sq<|sr<|mv U U<|ne' U<|nn<|cd U (λc0=>?_)<|λc0=>?_;exact absurd U c0;refine sk<|tn<|jn (ι:=(Int×Int×SV)×Int×Nat) (ll4 5 6 7 9) (λv_=>[(11,pta v_.2.2),(12,.int .i64 v_.2.1)]) (λv_ w'=>Fr [] r5 w'/\NmF s.q.p.flat.length w' u1 (.agg #[.int .i64 v_.1.1,.int .i64 v_.1.2.1,.slice v_.1.2.2.1 v_.1.2.2.2.1 v_.1.2.2.2.2]) v_.2.1/\Blk w' v_.2.2 67 [.int .i64 v_.1.1,.int .i64 v_.1.2.1,.slice v_.1.2.2.1 v_.1.2.2.2.1 v_.1.2.2.2.2]) (csu U) ?_ ?_;have D:=b0.ext<|(q1.z6 q2 q3 q4 q5 q6 q7).n1 a9;have hS:=e6.ext<|q3.z5 q4 q5 q6 q7 a9;have a5:=e1.ext a9;intro a h;refine z0h none (λwb w'=>Fr [] wb w') z2s ?_;intro m1 e9;have B4:=e9.size;have D:=D.ext e9;have hS:=hS.ext e9;have Z:=Z.ext<|a9.n1 e9;have a5:=a5.ext e9;have hC:Fr [] m1 m1:=l12 _ _;have a4:=D;have b8:=hS;have a3:=Z;have b9:=a5;refine z0x 0 h U (λ_ hw=>a3.ext hw) z8f U λa h=>z0e 1 h U λa h=>z0e 2 h U λa h=>v9l (p:=jj) 3 hC h wn U U y5d U U λa h=>z1u 4 8 kr U ?_ ?_;refine z0n h (z0a U<|z0a U z0f) k1b (x3e s p 50 _ (lm.take jj) _ hS hP oo a5 D h8) ?_;rintro _ r6 ⟨⟨j8,j9,X_,f5,rfl,d5⟩,q17⟩ a h;have B5:=q17.size;have Z:=Z.ext q17;have hC:=hC.next q17;have a2:=d5.nf g8;clear d5;refine z0b<|z0e 5 h U λa h=>z0k 6 h U λa h=>z0k 7 h U λa h=>z0d 8 U<|z0u h v8u U λy5 I i0 hz a h=>?_;obtain⟨b3,hg⟩:∃g,g=r6.heap.size:=⟨_,rfl⟩;rw[<-hg]at I h hz;have j3:g5<b3:=by have:=Z.lt;omega
 have B6:=i0.size;first|have a2:=NmF.ext a2 i0|have a2:=NmF.tf a2 i0 I dd dd
 have hC:=hC.next i0;refine z0b<|z0d 9 U<|z0t h U I U v3t ?_ (h1:=t24);intro r7 a8 i1 hz a h;have B7:=i1.size;first|have a2:=NmF.ext a2 i1|have a2:=NmF.tf a2 i1 I dd dd
 have hC:=hC.sp i1;have I:Blk r7 b3 _ [_,_,_]:=a8;clear a8;refine z0b<|z0d 10 U<|z0o h U λa h=>?_;refine z0b<|z0q ?_;clear hC a4 b8 a3 b9;exact bk (h.sub (L':=ll6 5 6 7 9 11 12)<|csu U)<|jE (((j8,j9,X_),f5,b3)) (csu U) ⟨(e9.z3 q17 i0 i1),⟨a2,I⟩⟩;refine z0u h v8u U λy6 I f3 hz a h=>?_;obtain⟨b3,hg⟩:∃g,g=m1.heap.size:=⟨_,rfl⟩;rw[<-hg]at I h hz;have j3:g5<b3:=by have:=Z.lt;omega
 have B9:=f3.size;have D:=D.ext f3;have hS:=hS.ext f3;have a5:=a5.ext f3;have hC:=hC.next f3;refine z0b<|z0d 4 U<|z0n h (z0a U<|z0a U z0f) k1b (x3e s p 50 _ (lm.take jj) _ hS hP oo a5 D h8) ?_;rintro _ y7 ⟨⟨j8,j9,X_,f5,rfl,d5⟩,q21⟩ a h;have C0:=q21.size;have I:=I.ext q21;have hC:=hC.next q21;have a2:=d5.nf g8;clear d5;refine z0b<|z0e 5 h U λa h=>z0k 6 h U λa h=>z0k 7 h U λa h=>z0d 9 U<|z0t h U I U v3t ?_ (h1:=t24);intro r8 a8 i2 hz a h;have C1:=i2.size;first|have a2:=NmF.ext a2 i2|have a2:=NmF.tf a2 i2 I dd dd
 have hC:=hC.sp i2;have I:Blk r8 b3 _ [_,_,_]:=a8;clear a8;refine z0b<|z0d 10 U<|z0o h U λa h=>?_;refine z0b<|z0q ?_;clear hC a4 b8 a3 b9;exact bk (h.sub (L':=ll6 5 6 7 9 11 12)<|csu U)<|jE (((j8,j9,X_),f5,b3)) (csu U) ⟨(e9.z3 f3 q21 i2),⟨a2,I⟩⟩;rintro⟨⟨j8,j9,X_⟩,f5,b3⟩ w23 ⟨q23,⟨a2,I⟩⟩;have C2:=q23.size;have d4:=a2;have h7:=I.lt;simp only at a2 d4 I h7;refine kpC [(5,_),(6,_),(7,_),(9,_),(11,pta b3),(12,.int .i64 f5)] (csu U)<|jn (ι:=(Int×Int×SV)×Int×Nat) (ll4 5 6 11 12) (λv_=>[(13,pta v_.2.2),(14,.int .i64 v_.2.1)]) (λv_ w'=>Fr [] w23 w'/\NmF s.q.p.flat.length w' u2 (.agg #[.int .i64 v_.1.1,.int .i64 v_.1.2.1,.slice v_.1.2.2.1 v_.1.2.2.2.1 v_.1.2.2.2.2]) v_.2.1/\Blk w' v_.2.2 67 [.int .i64 v_.1.1,.int .i64 v_.1.2.1,.slice v_.1.2.2.1 v_.1.2.2.2.1 v_.1.2.2.2.2]) (csu U) ?_ ?_;have D:=b0.ext<|((q1.z6 q2 q3 q4 q5 q6 q7).n1 a9).n1 q23;have b6:=e2.ext<|a9.n1 q23;have b5:=c9.ext q23;intro a h;refine z0h none (λwb w'=>Fr [] wb w') z2s ?_;intro m2 f0;have C3:=f0.size;have D:=D.ext f0;have b6:=b6.ext f0;have b5:=b5.ext f0;have a0:=a0.ext<|q23.n1 f0;have hC:Fr [] m2 m2:=l12 _ _;have a4:=D;have f9:=b6;have f8:=b5;have e7:=a0;refine z0x 0 h U (λ_ hw=>e7.ext hw) z8f U λa h=>z0e 1 h U λa h=>z0e 2 h U λa h=>j9a (p:=jj) 3 kr hC h wn U U y5d oo oo oo U U λa h=>z1u 4 8 kr U ?_ ?_;refine z0n h (z0a U<|z0a U z0f) k1b (x3e t9 p1 _ _ (lm.drop jj) _ b5 d1 oo b6 D k7) ?_;rintro _ r9 ⟨⟨k0,k1,Y_,f6,rfl,d7⟩,q25⟩ a h;have C4:=q25.size;have a0:=a0.ext q25;have hC:=hC.next q25;have a1:=d7.nf h0;rw[m8]at a1;clear d7;refine z0b<|z0e 5 h U λa h=>z0k 6 h U λa h=>z0k 7 h U λa h=>z0d 8 U<|z0u h v8u U λy8 O i3 hz a h=>?_;obtain⟨b4,hg⟩:∃g,g=r9.heap.size:=⟨_,rfl⟩;rw[<-hg]at O h hz;have h3:b7<b4:=by have:=a0.lt;omega
 have C5:=i3.size;first|have a1:=NmF.ext a1 i3|have a1:=NmF.tf a1 i3 O dd dd
 have hC:=hC.next i3;refine z0b<|z0d 9 U<|z0t h U O U v3t ?_ (h1:=t24);intro s1 a8 i4 hz a h;have C6:=i4.size;first|have a1:=NmF.ext a1 i4|have a1:=NmF.tf a1 i4 O dd dd
 have hC:=hC.sp i4;have O:Blk s1 b4 _ [_,_,_]:=a8;clear a8;refine z0b<|z0d 10 U<|z0o h U λa h=>?_;refine z0b<|z0q ?_;clear hC a4 f9 f8 e7;exact bk (h.sub (L':=ll6 5 6 11 12 13 14)<|csu U)<|jE (((k0,k1,Y_),f6,b4)) (csu U) ⟨(f0.z3 q25 i3 i4),⟨a1,O⟩⟩;refine z0u h v8u U λy9 O f4 hz a h=>?_;obtain⟨b4,hg⟩:∃g,g=m2.heap.size:=⟨_,rfl⟩;rw[<-hg]at O h hz;have h3:b7<b4:=by have:=a0.lt;omega
 have C7:=f4.size;have D:=D.ext f4;have b6:=b6.ext f4;have b5:=b5.ext f4;have hC:=hC.next f4;refine z0b<|z0d 4 U<|z0n h (z0a U<|z0a U z0f) k1b (x3e t9 p1 _ _ (lm.drop jj) _ b5 d1 oo b6 D k7) ?_;rintro _ z0 ⟨⟨k0,k1,Y_,f6,rfl,d7⟩,q29⟩ a h;have C8:=q29.size;have O:=O.ext q29;have hC:=hC.next q29;have a1:=d7.nf h0;rw[m8]at a1;clear d7;refine z0b<|z0e 5 h U λa h=>z0k 6 h U λa h=>z0k 7 h U λa h=>z0d 9 U<|z0t h U O U v3t ?_ (h1:=t24);intro s2 a8 i5 hz a h;have D0:=i5.size;first|have a1:=NmF.ext a1 i5|have a1:=NmF.tf a1 i5 O dd dd
 have hC:=hC.sp i5;have O:Blk s2 b4 _ [_,_,_]:=a8;clear a8;refine z0b<|z0d 10 U<|z0o h U λa h=>?_;refine z0b<|z0q ?_;clear hC a4 f9 f8 e7;exact bk (h.sub (L':=ll6 5 6 11 12 13 14)<|csu U)<|jE (((k0,k1,Y_),f6,b4)) (csu U) ⟨(f0.z3 f4 q29 i5),⟨a1,O⟩⟩;rintro⟨⟨k0,k1,Y_⟩,f6,b4⟩ w31 ⟨q31,⟨a1,O⟩⟩;have D1:=q31.size;have d6:=a1;have h9:=O.lt;simp only at a1 d6 O h9;refine kpC [(5,_),(6,_),(11,_),(12,_),(13,pta b4),(14,.int .i64 f6)] (csu U)<|sr ?_;have Z:=Z.ext<|a9.n2 q23 q31;refine z0l U Z z8f<|mv U U ?_;have hS:=e6.ext<|(q3.z6 q4 q5 q6 q7 a9 q23).n1 q31;have d3:=e0.ext<|a9.n2 q23 q31;have D:=b0.ext<|(((q1.z6 q2 q3 q4 q5 q6 q7).n1 a9).n1 q23).n1 q31;refine cl (ev2 U) k1b (x3e s p 50 _ lm _ hS hP oo d3 D h8) U ?_;rintro _ A0 ⟨⟨B8,C9,Z_,u3,rfl,m5⟩,q32⟩;have d9:=m5.nf l3;rw[hu]at d9;have D2:=q32.size;have f1:=d9;refine mv U U<|xt U<|xt U<|al v8u U<|λu4 A1 s6 e3 b1 D3=>?_;refine z0j (vs:=[_,_,_]) U e3 v3t (λs3 e3 b2 D4=>?_) (h1:=t24);refine asg U ?_;have hG:=f7.ext<|(((q1.z6 q2 q3 q4 q5 q6 q7).n1 a9).n1 q23).z4 q31 q32 b1 b2;have D:=b0.ext<|(((q1.z6 q2 q3 q4 q5 q6 q7).n1 a9).n1 q23).z4 q31 q32 b1 b2;have hS:=e6.ext<|(((q3.z6 q4 q5 q6 q7 a9 q23).n1 q31).n1 q32).z2 b1 b2;have Z:=(Z.ext<|q32.n1 b1).fr b2;have d3:=e0.ext<|a9.z5 q23 q31 q32 b1 b2;have a5:=e1.ext<|a9.z5 q23 q31 q32 b1 b2;have b6:=e2.ext<|a9.z5 q23 q31 q32 b1 b2;have b5:=c9.ext<|q23.z4 q31 q32 b1 b2;have a0:=(a0.ext<|q23.n3 q31 q32 b1).fr b2;have a2:=d4.ext<|q31.z3 q32 b1 b2;have I:=(I.ext<|q31.n2 q32 b1).fr b2;have a1:=d6.ext<|q32.z2 b1 b2;have O:=(O.ext<|q32.n1 b1).fr b2;have d9:=f1.ext<|b1.z1 b2;have i7:Fr [] w0 s3:=((((q1.z6 q2 q3 q4 q5 q6 q7).n1 a9).n1 q23).z4 q31 q32 b1 b2);have f7:=hG;have b0:=D;have e6:=hS;have e0:=d3;have e1:=a5;have e2:=b6;have c9:=b5;have d4:=a2;have d6:=a1;have f1:=d9;have s9:=i7.size;refine kpL (ll7 5 11 12 13 14 15 16) (csu U)<|nn<|sq<|sr<|fad U z6t<|y7i U z9h U<|z0i U Z U z6q<|lnS U underlying32<|eq' U<|nn<|cd U (λc1=>?_)<|λc1=>?_;have l5:s.q.p.flat.length=0:=by omega
 have l8:=a2.1 l5;have l9:=a1.1 l5;have m0:=d9.1 l5;refine sr<|mv U U<|eq' U<|mv U U<|gs 73 U (λg0=>?_)<|λhh=>absurd (by exact l8) hh;refine gY U<|mv U U<|gY U<|eq' U<|pkt U<|mv U U<|gs 77 U (λg1=>?_)<|λhh=>absurd (by exact l9) hh;refine gY U<|mv U U<|gY U<|eq' U<|pkt U<|mv U U<|gs 81 U (λg2=>?_)<|λhh=>absurd (by exact m0) hh;refine gY U<|cl z0f (mkC func13) (y8f _ hG D) U ?_;rintro _ A2 ⟨rfl,n8⟩;have D5:=n8.size;refine pkt U<|asg U<|kpL (ll1 4) (csu U)<|nn<|rt<|tr<|r1 results4 U ?_;exact⟨_,rfl,by first|rfl|exact congrArg Value.bool<|decide_eq_true sp0,(i7.n1 n8)⟩;have l6:1<=s.q.p.flat.length/\s.q.p.flat.length<=8:=⟨oo,oo⟩;obtain⟨l8,ca,i8,k9,p4,p5,p6⟩:=a2.2 oo;obtain⟨l9,cb,i9,l0,p7,p8,p9⟩:=a1.2 oo;obtain⟨m0,cc,j0,o2,y0,-,-⟩:=d9.2 oo;have k2:=i8;have k4:=i9;have k5:=j0;refine sk<|tn<|sr<|z0l U I x6o<|z0l U O x6o<|cl (ev2 U) (mkC func16) (k2t s.q.p.flat.length _ _ _ _ ca cb _ i8 i9 (v6r k9) (v6r l0) (λh=>x4t h h4 k9) (λh=>x4t h h5 l0) l6 ⟨p4,p5,p6⟩ ⟨p7,p8,p9⟩) U ?_;rintro _ A3 ⟨⟨D_,cd,rfl,j1,o3⟩,q36⟩;have D6:=q36.size;have k6:=j1;refine mv U U<|xt U<|xt U<|al v8u U<|λu5 A5 s7 g9 a6 D7=>?_;refine z0j (vs:=[_,_,_]) U g9 v3t (λs4 g9 a7 D8=>?_) (h1:=t24);refine asg U ?_;have hG:=f7.ext<|q36.z2 a6 a7;have D:=b0.ext<|q36.z2 a6 a7;have hS:=e6.ext<|q36.z2 a6 a7;have Z:=(Z.ext<|q36.n1 a6).fr a7;have d3:=e0.ext<|q36.z2 a6 a7;have a5:=e1.ext<|q36.z2 a6 a7;have b6:=e2.ext<|q36.z2 a6 a7;have b5:=c9.ext<|q36.z2 a6 a7;have a0:=(a0.ext<|q36.n1 a6).fr a7;have a2:=d4.ext<|q36.z2 a6 a7;have I:=(I.ext<|q36.n1 a6).fr a7;have a1:=d6.ext<|q36.z2 a6 a7;have O:=(O.ext<|q36.n1 a6).fr a7;have d9:=f1.ext<|q36.z2 a6 a7;have e3:=(e3.ext<|q36.n1 a6).fr a7;have i8:=k2.ext<|q36.z2 a6 a7;have i9:=k4.ext<|q36.z2 a6 a7;have j0:=k5.ext<|q36.z2 a6 a7;have j1:=k6.ext<|a6.z1 a7;have k8:Fr [] w0 s4:=(i7.z3 q36 a6 a7);have f7:=hG;have b0:=D;have e6:=hS;have e0:=d3;have e1:=a5;have e2:=b6;have c9:=b5;have d4:=a2;have d6:=a1;have f1:=d9;have k2:=i8;have k4:=i9;have k5:=j0;have k6:=j1;have t8:=k8.size;refine kpL (ll6 12 14 15 16 17 18) (csu U)<|nn<|sr<|mv U U<|eq' U<|mv U U<|gs 92 U (λg3=>?_)<|λhh=>absurd (by exact l8) hh;refine gY U<|mv U U<|gY U<|eq' U<|pkt U<|mv U U<|gs 96 U (λg4=>?_)<|λhh=>absurd (by exact l9) hh;refine gY U<|mv U U<|gY U<|eq' U<|pkt U<|mv U U<|gs 100 U (λg5=>?_)<|λhh=>absurd (by exact m0) hh;refine gY U<|mv U U<|gY U<|eq' U<|pkt U<|mv U U<|gs 104 U (λg6=>?_)<|λhh=>absurd (by exact U) hh;refine gY U<|z0l U e3 x6o<|gY U<|z0l U g9 x6o<|gY U<|cl (ev2 U) (mkC func17) (u6s s.q.p.flat.length _ _ _ _ cc cd _ j0 j1 l6.2 oo) U ?_;rintro _ A6 ⟨⟨u0,rfl,a8⟩,q39⟩;have D9:=q39.size;have o6:=a8<|k1v l6 h4 h5 k9 l0 o2 o3;refine pkt U<|mv U U<|gs 109 U (λg7=>?_)<|λhh=>absurd (by exact o6) hh;refine gY U ?_;have hG:=f7.ext q39;have D:=b0.ext q39;refine cl z0f (mkC func13) (y8f _ hG D) U ?_;rintro _ A7 ⟨rfl,n9⟩;have E0:=n9.size;refine pkt U<|asg U<|kpL (ll1 4) (csu U)<|nn<|rt<|r1 results4 U ?_;exact⟨_,rfl,by first|rfl|exact congrArg Value.bool<|decide_eq_true sp0,(k8.n2 q39 n9)⟩
theorem k4p (x:SV×SV)(bs ms:List UInt8)(D:Int)(w0:World)(O:0<=D/\D<=255)(hG:Glob w0)(I:StT w0)(hs:Sl Enc.b w0 (slv x.1) bs)(Z:Sl Enc.b w0 (slv x.2) ms):Rets prog 4 #[.agg #[slv x.1,slv x.2],.int .u8 D] w0 λr w'=>r=.bool true/\Fr [] w0 w':=by
 obtain⟨⟨A,n,c⟩,M,m,d⟩:=x;have e1:n=bs.length:=z2e hs;have e2:m=ms.length:=z2e Z;subst e1 e2;exact j2z A M c d bs ms D w0 O hG I hs Z
end Go.Proofs.YtkafbfjmcigaiaaGreatDoor
