/- Texts of the proof, joined. -/
import Derived.Test.YtkafbfjmcigaiaaGreatDoorHB7
set_option linter.unusedVariables false
set_option linter.unusedSimpArgs false
set_option maxHeartbeats 4000000
namespace Go.Proofs.YtkafbfjmcigaiaaGreatDoor
open Go.Lw Go.G21 Go.G08 Go.G09 Go.G26 _root_.Go.Proofs.Tryz
theorem x4o:ElemOf prog 65 22 Enc.sl 24:=ElemOf.mk' (z:=(.slice none 0 0)) underlying65 kr U
variable {n:Nat}
theorem k5p {p:Pm n}(hn:n<=8):stN p.l=0↔p=Pm.one:=by
 have I:=j6b (l:=p.l) (by rw[z3e];exact hn);constructor;intro h;rw[h]at I;refine j2i λk O=>?_;have:=I.2 k.1;rw[Nat.zero_testBit,z3e]at this;have D:=k.2;exact absurd this.symm (by simp only[decide_eq_false_iff_not];exact λh=>h ⟨oo,D,(k1a hn D).1 O⟩);intro h;subst h;refine Nat.eq_of_testBit_eq λj=>?_;rw[I.2,Nat.zero_testBit,z3e];exact decide_eq_false λh=>k6a ⟨j,h.2.1⟩<|(k1a hn h.2.1).2 h.2.2
theorem k8d {p:Pm n}(hn:n<=8)(h1:1<=n):stN p.l=2 ^ (n-1)-1↔p=Pm.half:=by
 have D:=j6b (l:=p.l) (by rw[z3e];exact hn);constructor;intro h;rw[h]at D;refine u9t λk=>?_;have:=D.2 k.1;have I:=k.2;rw[Nat.testBit_two_pow_sub_one,z3e,decide_eq_true oo]at this;exact(k1a hn I).2 (of_decide_eq_true this.symm).2.2;intro h;subst h;refine Nat.eq_of_testBit_eq λj=>?_;rw[D.2,Nat.testBit_two_pow_sub_one,z3e];exact decide_eq_decide.2 ⟨λh=>oo,λh=>⟨oo,oo,(k1a hn (by omega:j+1<n)).1<|j8h _⟩⟩
structure PutP (F H G:Nat->Pm n) (L:List Nat) (i:Nat) (ag:Bool):Prop where
  o:∀x,x∉L->G x=F x
  m:Mvs (L.map F) (L.map G)
  y:ag=true->ms 0 (L.map G)<ms 0 (L.map H)
  no:ag=false->G=H/\∀j,i<j->j<L.length->∀k,Pm.Sb (G<|L.getD j 0) k->Pm.Eb (G<|L.getD (j-1) 0) k
theorem PutP.step {F H G D:Nat->Pm n}{L:List Nat}{i:Nat}{O t:Bool}(hn:n<=8)(h:PutP F H G L i O)(hd:L.Nodup)(h0:0<i)(hi:i<L.length)(hM:MvS G D (L.getD (i-1) 0) (L.getD i 0) t)(he:∀k,Pm.Sb (D<|L.getD i 0) k->Pm.Eb (D<|L.getD (i-1) 0) k):PutP F H D L (i-1) (O || t):=by
 have Z:=u8b (i:=i-1) hM.o hd oo U (by rw[Nat.sub_add_cancel h0]);have hG:Mvs (L.map G) (L.map D):=by rw[Z.1,Z.2];exact((hM.mvs).app _).pre _
 have a1:=hG.less hn;refine⟨λx hx=>by rw[hM.o x (λe=>hx (e▸z6o oo)) (λe=>hx (e▸z6o hi))];exact h.o x hx,h.m.trans hG,λha=>?_,λha=>?_⟩;cases O with
 | true=>have:=h.y U;omega
 | false=>
  obtain⟨m,m1,m2⟩:=hM.y (by simpa using ha);have e:ms 0 (L.map D)<ms 0 (L.map G):=by rw[Z.1,Z.2];exact Mvp.less hn ⟨_,(m1.app _).pre _,(m2.app _).pre _⟩
  rw[(h.no U).1]at e;exact e
 have I:O=false/\t=false:=by simpa using ha
 obtain⟨e1,e2⟩:=h.no I.1;have e3:=hM.no I.2;refine⟨e3.trans e1,λj hj a0=>?_⟩;by_cases e:j=i;subst e;exact he;rw[e3];exact e2 j oo a0
theorem PutP.fin {F H G:Nat->Pm n}{L:List Nat}(h:PutP F H G L 0 false):Ir (L.map G):=k2r λi f g hf D k=>by
 rw[l26]at hf D
 have hl:i+1<L.length:=by
  cases e:L[i+1]? with
  | none=>rw[e]at D;cases D
  | some x=>exact(l50.1 e).1
 have:=(h.no U).2 (i+1) oo hl k
 rw[l87,List.getD,List.getD]at this
 rw[l10 hl]at D this
 rw[l10 oo]at hf this
 cases hf;cases D
 exact this
structure PutS (F G:Nat->Pm n) (L:List Nat) (m:Nat):Prop where
  o:∀x,x∉L->G x=F x
  mv:Mvs (L.map F) (L.map G)
  ir:Ir (L.map G)
  z:∀x∈L.drop m,G x=Pm.one
  l:0<m->G (L.getD (m-1) 0)≠Pm.one
theorem y2d {L:List Nat}{i:Nat}(h:i<L.length):(Value.slice (some ⟨L.getD i 0,0,none⟩) n n:Value)=.slice ((L.map<|hdr n).getD i sv0).1 ((L.map<|hdr n).getD i sv0).2.1 ((L.map<|hdr n).getD i sv0).2.2:=by rw[k0q h]
theorem u5w {G:Nat->Pm n}{L:List Nat}{m:Nat}(I:0<m)(O:m<=L.length)(h:∀x∈L.drop m,G x=Pm.one)(e:G (L.getD (m-1) 0)=Pm.one):∀x∈L.drop (m-1),G x=Pm.one:=λx D=>by
 rw[l33 (show m-1<L.length by omega),Nat.sub_add_cancel I]at D
 rcases l57.1 D with rfl|D
 ·rw[List.getD,l10 (show m-1<L.length by omega)]at e;exact e
 exact h x D
theorem j8k {T b m c:Nat}{w:World}{A:Option Addr}{L:List Nat}(h:Lw.Own Enc.sl T b w (.slice A m c) ((L.take m).map<|hdr n))(D:0<m)(O:m<=L.length)(I:m<=c):Lw.Own Enc.sl T b w (.slice A (m-1) c) ((L.take<|m-1).map<|hdr n):=by
 have x:=h.take U (m:=m-1) (by rw[l18,l27];omega) (l20 c) oo;rwa [<-List.map_take,List.take_take,Nat.min_eq_left oo]at x
theorem y8e {L:List Nat}{m i:Nat}(h:i<m):(L.take m).getD i 0=L.getD i 0:=by rw[List.getD,List.getD,l53,if_pos h]
theorem j5e (n:Nat)(wS w0:World)(A:List Nat)(F:Nat->Pm n)(hs:List Nat)(gx:Nat)(v:Value)(I:FacT 5 n wS w0 A F)(hd:(hs++[gx]).Nodup)(hA:∀x∈hs++[gx],x∈A)(hv:Lw.Own Enc.sl 22 wS.heap.size w0 (v) (hs.map<|hdr n))(hl:hs.length<=200)(hn:n<=8):Rets prog 94 #[v,.slice (saa gx) n n] w0 λr w'=>∃(G:Nat->Pm n) (m:Nat),FacT 5 n wS w' A G/\m<=(hs++[gx]).length/\Lw.Own Enc.sl 22 wS.heap.size w' (r) (((hs++[gx]).take m).map<|hdr n)/\PutS F G (hs++[gx]) m/\Fr (z0v v++(hs++[gx])) w0 w':=by
 obtain⟨AV,cV,rfl,e7⟩:=id hv.sl.form;obtain⟨L,hL⟩:∃L,L=hs++[gx]:=⟨_,rfl⟩;have e6:L.length=hs.length+1:=by rw[hL,l13];rfl
 rw[<-hL]at hd hA ⊢;have b8:(hs.map<|hdr n).length=hs.length:=l18 ..;have f0:=I.f.size;refine wf func94 U<|sr<|asg U<|nn<|sr<|mv U<|mv U<|z1i ([hdr n gx]) (ev1 U) U x4o<|λe5 w1 e4 c9 q1 z1=>?_;have I:=I.ext q1;have hv:=hv.ext q1;have a3:=hv;refine z2l U hv c9.sl x4o (λf1 w2 O q2 d7=>?_) (hM:=(by unfold maxLen;rw[b8];simp only[l34,l52];omega)) (hb:=(by rw[b8];simp only[l34,l52];omega));have I:=I.fr q2<|λk hk=>⟨I.ne a3 dd k hk,(a3.blk k hk).1⟩;refine asg U ?_;have d1:hs.map (hdr n)++[hdr n gx]=L.map (hdr n):=by rw[hL,l31];rfl
 rw[d1]at O;obtain⟨a4,a5,rfl,b4⟩:=O.sl.form;have a8:(L.map<|hdr n).length=L.length:=l18 ..;rw[a8]at b4;refine nn<|sr<|asg U<|nn<|sq<|sr<|asg U<|nn<|bl<|lpK (ι:=Bool×(Nat->Pm n)) (ll2 0 5) (λZ=>[(6,.bool Z.1)]) (λZ w'=>Fr L w2 w'/\FacT 5 n wS w' A Z.2/\Lw.Own Enc.sl 22 wS.heap.size w' (.slice a4 (L.map<|hdr n).length a5) (L.map<|hdr n)/\(∀x,x∉L->Z.2 x=F x)/\Mvs (L.map F) (L.map Z.2)/\(Z.1=false->Ir (L.map Z.2))) (λZ=>2*ms 0 (L.map Z.2)+(if Z.1=true then 1 else 0)) (true,F) U ⟨l12 _ _,I,O,λ_ _=>rfl,.refl,λh=>by cases h⟩ ?_;rintro⟨d0,H⟩ w3 ⟨D,I,O,a6,a7,b3⟩;simp only at I O a6 a7 b3 D;refine kpC [(0,_),(5,_),(6,.bool d0)] U<|sq<|sr<|mv U<|nn<|cd U (λc0=>?_)<|λc0=>?_;refine sk<|tn<|bl<|sr<|asg U<|nn<|sr<|mv U<|lnS U<|z2i U (show IntKind.i64.wrap (((L.map<|hdr n).length:Int)-1)=((L.length-1:Nat):Int) from (wi6 oo).trans oo)<|asg U<|nn<|bl<|lpK (ι:=Nat×Bool×(Nat->Pm n)) (ll2 0 5) (λZ=>[(7,.int .i64 (Z.1:Int)),(6,.bool Z.2.1)]) (λZ w'=>Fr L w2 w'/\Z.1<L.length/\PutP F H Z.2.2 L Z.1 Z.2.1/\FacT 5 n wS w' A Z.2.2/\Lw.Own Enc.sl 22 wS.heap.size w' (.slice a4 (L.map<|hdr n).length a5) (L.map<|hdr n)) (λZ=>Z.1) (L.length-1,false,H) U ⟨D,sm,⟨a6,a7,λh=>(by cases h),λ_=>⟨rfl,λj hj e8=>by simp only at hj;omega⟩⟩,I,O⟩ ?_;rintro⟨i,ag,G⟩ w4 ⟨D,a1,hP,I,O⟩;simp only at a1 hP I O D;refine kpC [(0,_),(5,_),(7,.int .i64 (i:Int)),(6,.bool ag)] U<|sq<|sr<|mv U<|gt' U<|nn<|cd U (λc1=>?_)<|λc1=>?_;have d3:=hA _<|z6o (A:=L) (i:=i-1) oo;have d4:=hA _<|z6o a1;have d5:=u1w hd (i:=i-1) (j:=i) oo a1 oo;refine sk<|tn<|sq<|bl<|sq ?_;intro a h;refine z0h (some 10) (λwb w'=>Fr [(L.getD (i-1) 0),(L.getD i 0)] wb w') z2s ?_;intro w5 q5;have D:=D.ext q5;have I:=I.ext q5;have O:=O.ext q5;have hC:Fr [(L.getD (i-1) 0),(L.getD i 0)] w5 w5:=l12 _ _;have a9:=D;have b2:=I;have a2:=O;refine z0e 0 h U λa h=>z0e 1 h U λa h=>z0e 2 h U λa h=>z3a 3 h U t12 U λa h=>z1d (p:=(i-1)) (sv0) 4 h U O.sl U x4o U λd9 b5 a h=>z2h 5 h U (λ_ hw=>b5 _<|a2.sl.fr hw (by intro k hk hb;exact I.ne O dd k hb (by simp only[l57,l128,or_false]at hk;rcases hk with rfl|rfl<;>assumption))) v5f U λa h=>z0e 6 h U λa h=>z0e 7 h U λa h=>z1d (p:=i) (sv0) 8 h U O.sl U x4o U λe0 b6 a h=>z2h 9 h U (λ_ hw=>b6 _<|a2.sl.fr hw (by intro k hk hb;exact I.ne O dd k hb (by simp only[l57,l128,or_false]at hk;rcases hk with rfl|rfl<;>assumption))) v5f U λa h=>z0d 10 U ?_;refine y1f (us:=[]) (ws:=[]) h U (z0a U<|z0a U z0f) cO (by have x:=k0y n wS _ A G (L.getD (i-1) 0) (L.getD i 0) I d3 d4 d5 hn;rw[y2d (n:=n) (show i-1<L.length by omega),y2d (n:=n) (show i<L.length by omega)]at x;exact x) U t14 ?_;rintro _ w6 ⟨t,G1,rfl,b1,hM,hE,hq⟩ a h;have D:=D.fr hq (λk hk _=>by simp only[l57,l128,or_false]at hk;rcases hk with rfl|rfl;exact z6o oo;exact z6o a1);have O:=O.fr hq (by intro k hk hb;exact I.ne O dd k hb (by simp only[l57,l128,or_false]at hk;rcases hk with rfl|rfl<;>assumption));have q6:=hq;have I:=b1;clear b1;refine z1m<|z0q ?_;clear hC a9 b2 a2;refine xB (ll5 0 5 6 7 30) h U<|tn<|cd U (λc2=>?_)<|λc2=>?_;exact rg<|asg U<|nl<|bn'<|tn<|rg<|mv U<|z2i U (show IntKind.i64.wrap ((i:Int)-1)=((i-1:Nat):Int) from (wi6 oo).trans oo)<|asg U<|nl<|lpE ((i-1,true,G1)) U ⟨D,sm,by have x:=hP.step hn hd oo a1 hM hE;rw[c2,Bool.or_true]at x;exact x,I,O⟩ sm;exact sk<|bn'<|tn<|rg<|mv U<|z2i U (show IntKind.i64.wrap ((i:Int)-1)=((i-1:Nat):Int) from (wi6 oo).trans oo)<|asg U<|nl<|lpE ((i-1,ag,G1)) U ⟨D,sm,by have x:=hP.step hn hd oo a1 hM hE;rw[show t=false by simpa using c2,Bool.or_false]at x;exact x,I,O⟩ sm;obtain rfl:i=0:=by omega
 refine ex<|te<|te<|xh<|bn' ?_;exact lpE ((ag,G)) U ⟨D,I,O,hP.o,hP.m,λe=>by simp only at e;subst e;exact hP.fin⟩ (by
  have hy:=hP.y;have d6:=hP.no;simp only[c0,if_true];by_cases e:ag=true;have:=hy e;rw[if_pos e];omega;rw[if_neg e,(d6 (by simpa using e)).1];omega)
 have b9:=b3 (by simpa using c0);refine ex<|te<|te<|xh<|tn<|sq<|bl<|lpK (ι:=Nat) [] (λm=>[(0,.slice a4 m a5)]) (λm w'=>Fr L w2 w'/\m<=L.length/\(∀x∈L.drop m,H x=Pm.one)/\FacT 5 n wS w' A H/\Lw.Own Enc.sl 22 wS.heap.size w' (.slice a4 m a5) ((L.take m).map<|hdr n)) (λm=>m) (L.map<|hdr n).length U ⟨D,by rw[a8];exact l20 _,λx hx=>(by rw[a8,List.drop_length]at hx;cases hx),I,by have y:=O;rw[a8]at y ⊢;rw[l40];exact y⟩ ?_;rintro m w7 ⟨D,hm,b0,I,a0⟩;refine kpC (ll1 0) U ?_;have e9:((L.take m).map<|hdr n).length=m:=by rw[l18,l27];omega
 refine sq<|sr<|mv U<|lnS U<|gt' U<|mv U<|gs 34 U (λg0=>?_)<|λg0=>?_;refine gY U<|mv U<|gY U<|mv U<|gY U<|lnS U<|gY U<|z2i U (wi6 oo)<|gY U<|z1a (p:=(m-1)) (sv0) U a0.sl U x4o oo<|λe3 b7=>(gY U<|z1c U (b7 _ a0.sl) v5f<|gY U<|cl (ev1 U) k1p (by have x:=j2p (.slice (some ⟨((L.take m).getD (m-1) 0),0,none⟩) n n) (H<|(L.take m).getD (m-1) 0).l _ (I.r _ (by rw[y8e oo];exact hA _<|z6o oo)).sl (by rw[z3e];exact hn);rw[y2d (n:=n) (L:=L.take m) t19]at x;exact x) ?_);rintro _ w8 ⟨rfl,q8⟩;refine gY U<|eq' U<|pkt U<|kpL (ll2 0 43) U<|nn<|cd U (λc3=>?_)<|λc3=>?_;refine sk<|tn<|bl<|rg<|mv U<|mv U<|lnS U<|z2i U (wi6 oo)<|v2p (p:=(m-1)) U U x4o U<|asg U<|kpL (ll1 0) U<|nl<|bn' ?_;have D:=D.ext q8;have I:=I.ext q8;have a0:=a0.ext q8;exact lpE (m-1) U ⟨D,oo,u5w oo hm b0<|(k5p hn).1 (by rw[y8e oo]at c3;omega),I,j8k a0 oo hm oo⟩ oo;refine ex<|te<|te<|xh<|tn<|sr<|mv U<|asg U<|nn<|rt<|r1 U ?_;have I:=I.ext q8;have a0:=a0.ext q8;have D:=D.ext q8;exact⟨_,rfl,H,m,I,hm,a0,⟨a6,a7,b9,b0,λh0 e=>c3 (by rw[y8e oo,(k5p hn).2 e];rfl)⟩,(q1.trans q2).trans D⟩;exact gN U<|gN U<|gN U<|gN U<|gN U<|gN U<|gN U<|gN U<|pkf U<|kpL (ll2 0 43) U<|nn<|cf U<|ex<|te<|te<|xh<|tn<|sr<|mv U<|asg U<|nn<|rt<|r1 U ⟨_,rfl,H,m,I,hm,a0,⟨a6,a7,b9,b0,λh0 _=>absurd h0 oo⟩,(q1.trans q2).trans D⟩
open Go.Lw Go.G21 Go.G08 Go.G09 Go.G26 _root_.Go.Proofs.Tryz
variable {n:Nat}
structure GatS (F G:Nat->Pm n) (gs:List Nat) (i:Nat) (hs:List Nat):Prop where
  sub:∀x∈hs,x∈gs.take i
  nd:hs.Nodup
  le:hs.length<=i
  keep:∀x∈gs.drop i,G x=F x
  mv:Mvs ((gs.take i).map F) (hs.map G++List.replicate (i-hs.length) Pm.one)
  ir:Ir (hs.map G)
  ls:∀x r,hs.map G=r++[x]->x≠Pm.one
theorem GatS.start (F:Nat->Pm n)(gs:List Nat):GatS F F gs 0 []:=⟨λx I=>(by cases I),List.nodup_nil,l20 _,λ_ _=>rfl,Mvs.refl,λm D=>(by cases D),λx r h=>(by simp at h)⟩
theorem v9s {G:Nat->Pm n}:∀ {l:List Nat},(∀x∈l,G x=Pm.one)->l.map G=List.replicate l.length Pm.one
 | [],_=>rfl
 | x::l,h=>by rw[l28,h x l35,v9s λy D=>h y<|l36 _ D];rfl
theorem z6x {gs:List Nat}{i:Nat}(h:i<gs.length):gs.take (i+1)=gs.take i++[gs.getD i 0]:=by
 rw[l54,l10 h,List.getD,l10 h];rfl
theorem j0r {gs:List Nat}{i:Nat}(D:gs.Nodup)(h:i<gs.length):gs.getD i 0∉gs.take i:=λO=>by
 obtain⟨j,I,e⟩:=List.mem_iff_getElem.1 O
 rw[l27]at I
 rw[List.getElem_take]at e
 exact u1w D (i:=j) (j:=i) oo h oo (by rw[List.getD,l10 oo];exact e)
theorem GatS.nd1 {F G:Nat->Pm n}{gs D:List Nat}{i:Nat}(h:GatS F G gs i D)(I:gs.Nodup)(hi:i<gs.length):(D++[gs.getD i 0]).Nodup:=by
 rw[l67];refine⟨h.nd,sp0,λx O y Z e=>?_⟩;rw[l11.1 Z]at e;exact j0r I hi (e▸h.sub x O)
theorem GatS.sub1 {F G:Nat->Pm n}{gs I:List Nat}{i:Nat}(h:GatS F G gs i I)(hi:i<gs.length):∀x∈I++[gs.getD i 0],x∈gs.take (i+1):=λx D=>by
 rw[z6x hi]
 rcases l23.1 D with D|D
 ·exact l60 _<|h.sub x D
 exact l64 _ D
theorem GatS.step {F G O:Nat->Pm n}{gs D:List Nat}{i m:Nat}(hn:n<=8)(h:GatS F G gs i D)(hd:gs.Nodup)(hi:i<gs.length)(Z:PutS G O (D++[gs.getD i 0]) m)(hm:m<=(D++[gs.getD i 0]).length):GatS F O gs (i+1) ((D++[gs.getD i 0]).take m):=by
 have a1:=h.sub1 hi;have a2:=h.nd1 hd hi;have a4:=h.le;have a0:gs.getD i 0∈gs.drop i:=by rw[l33 hi,List.getD,l10 hi];exact l35
 rw[l13,l44]at hm;have I:((D++[gs.getD i 0]).take m).length=m:=by rw[l27,l13,l44];omega
 refine⟨λx hx=>a1 x<|l98 hx,(List.take_sublist _ _).nodup a2,by rw[I];omega,λx hx=>?_,?_,?_,λx r e=>?_⟩;have a3:x∉D++[gs.getD i 0]:=λhh=>by
  have h2:=a1 x hh;have h3:=hd;rw[<-l25 (i+1) gs,l67]at h3;exact h3.2.2 x h2 x hx U
 rw[Z.o x a3];refine h.keep x ?_;rw[l33 hi];exact l36 _ hx;rw[z6x hi,l31];have e0:[gs.getD i 0].map F=[G (gs.getD i 0)]:=by rw[List.map_singleton,h.keep _ a0]
 rw[e0];refine(h.mv.app _).trans ?_;rw[l14];refine((x0b hn _ _).pre _).trans ?_;have e1:D.map G++G (gs.getD i 0)::List.replicate (i-D.length) Pm.one=(D++[gs.getD i 0]).map G++List.replicate (i-D.length) Pm.one:=by rw[l31,l14];rfl
 rw[e1];refine(Z.mv.app _).trans ?_;have e2:(D++[gs.getD i 0]).map O=((D++[gs.getD i 0]).take m).map O++List.replicate (D.length+1-m) Pm.one:=by
  have e3:=v9s Z.z;rw[l39,l13,l44]at e3;rw[<-e3,<-l31,l25]
 rw[e2,l14,List.replicate_append_replicate,I,show D.length+1-m+(i-D.length)=i+1-m by omega];exact .refl;have:=Z.ir;rw[<-l25 m (D++[gs.getD i 0]),l31]at this;exact k6s this;have e4:=congrArg List.length e;rw[l18,I,l13,l44]at e4;have e5:(((D++[gs.getD i 0]).take m).map O)[m-1]?=(r++[x])[m-1]?:=by rw[e]
 rw[l30 oo,show m-1-r.length=0 by omega,l26,l53,if_pos oo,l10 (by rw[l13,l44];omega)]at e5;have e6:=Z.l oo;rw[List.getD,l10 (by rw[l13,l44];omega)]at e6;simp only[l65,List.getElem?_cons_zero,l70]at e5;rw[<-e5];exact e6
theorem GatS.fin {F G:Nat->Pm n}{gs D:List Nat}{f:Nat}{pw:Int}(h:GatS F G gs gs.length D)(hf:f<=D.length)(h1:∀j,j<f->G (D.getD j 0)=Pm.half)(h2:f<D.length->G (D.getD f 0)≠Pm.half):Cn (pw,gs.map F) (pw+(f:Int),(D.drop f).map G):=by
 have e:D.map G=List.replicate f Pm.half++(D.drop f).map G:=by
  rw[<-l25 f D,l31,l25];congr 1;refine l71 so λj a b=>?_;rw[l130,List.getElem_replicate,List.getElem_take];have:=h1 j (by simpa using b);rwa [List.getD,l10 (by simp at a;omega)]at this
 have Z:=h.mv;rw[l40,e,l14]at Z;refine⟨f,gs.length-D.length,Z,?_,rfl,λx r ex=>?_,λx r ex=>?_⟩;have:=v1t h.ir<|gs.length-D.length;rwa [e,l14]at this;simp only at ex;match hh:D.drop f,ex with
 | y::l,ex=>
  rw[l28]at ex;have I:f<D.length:=by
   refine Nat.lt_of_not_le λO=>?_;rw[l102 O]at hh;cases hh
  rw[l33 I]at hh;have:=h2 I;rw[List.getD,l10 I,l59,(l139 hh).1]at this;rw[<-(l139 ex).1];exact this
 | [],ex=>cases ex
 simp only at ex;exact h.ls x (List.replicate f Pm.half++r) (by rw[e,ex,l14])
theorem x9j {α:Type}{E:Enc α}{w:World}{A:Option Addr}{m c:Nat}{ys:List α}(h:Sl E w (.slice A m c) ys):c<=maxLen:=by
 obtain⟨I,O,e,Z,D,h3⟩:=h;cases e;exact D
structure RwsB (T n:Nat) (w:World) (hs:List Nat) (F:Nat->Pm n):Prop where
  r:∀g∈hs,Lw.Own Enc.b T 0 w (.slice (some ⟨g,0,none⟩) n n) (F g).l
theorem RwsB.fr {T:Nat}{w w':World}{D S:List Nat}{F:Nat->Pm n}(h:RwsB T n w D F)(hf:Fr S w w')(Z:∀k∈S,k∉D):RwsB T n w' D F:=⟨λg O=>(h.r g O).fr hf λk hk I=>by simp[z0v]at I;subst I;exact Z _ hk O⟩
theorem RwsB.ext {T:Nat}{w w':World}{D:List Nat}{F:Nat->Pm n}(h:RwsB T n w D F)(hf:Fr [] w w'):RwsB T n w' D F:=h.fr hf sp0
def NrmS (n:Nat)(b:Nat)(w:World)(v:Value)(c:BrN n):Prop:=∃(out:Value) (hs:List Nat) (F:Nat->Pm n),v=.agg #[.int .i64 (n:Int),.int .i64 c.1,out]/\Lw.Own Enc.sl 22 b w out (hs.map<|hdr n)/\RwsB 5 n w hs F/\hs.map F=c.2/\∀x∈hs,b<=x
theorem NrmS.fr {b:Nat}{w w':World}{v:Value}{c:BrN n}{S:List Nat}(h:NrmS n b w v c)(hf:Fr S w w')(hS:∀k∈S,k<b):NrmS n b w' v c:=by
 obtain⟨O,hs,F,e,Z,h2,h3,h4⟩:=h;exact⟨O,hs,F,e,Z.fr hf (λk I D=>by have:=(Z.blk k D).1;have:=hS k I;omega),h2.fr hf (λk I D=>by have:=h4 k D;have:=hS k I;omega),h3,h4⟩
open Go.Lw Go.G21 Go.G08 Go.G09 Go.G26 _root_.Go.Proofs.Tryz
theorem j3m:z2e prog 65:=λ_=>kr
theorem k8z:z1s prog 22 1:=λ_=>kr
theorem zv22 (w:World):(zeroValue 22).run prog w=.ok (.slice none 0 0) w:=kr
theorem k1l (n f:Nat)(ws:List Value)(u:Nat->SV)(w0:World)(hn:n<=1000)(hf:CallOf prog f)(I:∀i w,i<n->Fr [] w0 w->Rets prog f (Value.int .i64 (i:Int)::ws).toArray w λr w'=>r=.slice (u i).1 (u i).2.1 (u i).2.2/\Fr [] w w'):Rets prog 37 #[.int .i64 (n:Int),.func (.func f) #[] ws.toArray] w0 λr w'=>(∃g,r=.slice (saa g) n n/\Lw.Own Enc.sl 22 w0.heap.size w' r ((List.range n).map u))/\Fr [] w0 w':=by
 refine wf func37 U<|sr<|asg U<|nn<|sr<|mv U<|z1g (m:=n) (c:=n) (sv0) U x4o zv22 U<|λO w1 a0 D q1 z1=>(asg U<|nn<|sq<|sr<|mv U<|lnS U<|mv U<|nn<|bl<|lpK (ι:=Nat) (ll3 1 5 10) (λi=>[(11,.int .i64 (i:Int))]) (λi w'=>Fr [O] w1 w'/\i<=n/\Lw.Own Enc.sl 22 O w' (.slice (saa O) n n) ((List.range i).map u++List.replicate (n-i) sv0)) (λi=>n-i) 0 U ⟨l12 _ _,⟨l16 _,by simpa using D⟩⟩ ?_);rintro i w2 ⟨Z,⟨hi,D⟩⟩;refine kpC (ll4 1 5 10 11) U<|sr<|lt' U<|nn<|sq<|cd U (λc0=>?_)<|λc0=>?_;refine sk<|tn<|sq<|bl<|sr<|mv U<|asg U<|nn<|rg<|mv U<|mv U<|mv U<|mv U<|clv (us:=[]) (ws:=ws) U (ev1 U) hf (I i _ oo<|q1.z1 Z) U t14 ?_;rintro _ w3 ⟨rfl,q3⟩;have D:=D.ext q3;refine z6a (p:=i) (E:=Enc.sl) U x4o<|z3t (i:=i) ((u i)) U D so U k8z<|λw4 D q4 z4=>?_;rw[v9j oo]at D;exact kpL (ll4 1 5 10 11) U<|nl<|bn'<|tn<|rg<|ad6 U<|mv U<|nl<|lpE (i+1) U ⟨((l12 [O] _).z3 Z q3 q4),⟨oo,D⟩⟩ oo;obtain rfl:i=n:=by omega
 rw[l100,l110,l24]at D;exact ex<|te<|te<|xh<|tn<|sr<|mv U<|asg U<|kpL (ll1 4) U<|nn<|rt<|r1 U ⟨_,rfl,⟨O,rfl,D.low oo⟩,(q1.z1 Z)⟩
theorem k6g (i I:Nat)(v:Value)(l:List SV)(w0:World)(D:Sl Enc.sl w0 v l)(hb:Blk w0 I 65 [v])(hi:i<l.length):Rets prog 95 #[.int .i64 (i:Int),pta I] w0 λr w'=>r=.slice (l.getD i sv0).1 (l.getD i sv0).2.1 (l.getD i sv0).2.2/\Fr [] w0 w':=by
 obtain⟨A,c,rfl,a0⟩:=id D.form;refine wf func95 U ?_;have a1:=D;exact sr<|asg U<|nn<|sr<|z2a U hb j3m<|mv U<|z1a (p:=i) (sv0) U D U x4o oo<|λZ O=>(z1c U (O _ D) v5f<|asg U<|kpL (ll1 3) U<|nn<|rt<|r1 U ⟨_,rfl,rfl,(l12 _ _)⟩)
theorem k8o:z4f prog 67 3:=⟨λ_=>kr,λ_=>kr⟩
theorem bo67:BuildAt prog 67 [(0,1),(1,1),(2,1)] [(.int .i64 0),(.int .i64 0),(.slice none 0 0)]:=BuildAt.struct underlying67 (λ_=>kr)<|λ_=>kr
theorem sz65:z1s prog 65 1:=λ_=>kr
theorem k8n:z1s prog 67 3:=λ_=>kr
theorem zv65 (w:World):(zeroValue 65).run prog w=.ok (.slice none 0 0) w:=kr
theorem k8v (w:World):(zeroValue 67).run prog w=.ok (.agg #[(.int .i64 0),(.int .i64 0),(.slice none 0 0)]) w:=kr
theorem j4i (n:Nat)(pw:Int)(v:Value)(O:List Nat)(F:Nat->Pm n)(w0:World)(hv:Sl Enc.sl w0 v (O.map<|hdr n))(hF:FacT 5 n w0 w0 O F)(hd:O.Nodup)(b2:∀k∈O,k∉z0v v)(hl:O.length<=200)(hn:1<=n/\n<=8)(f1:-10000<=pw/\pw<=10000)(b:Nat)(e3:b<=w0.heap.size)(b7:∀x∈O,b<=x):Rets prog 42 #[.int .i64 (n:Int),.int .i64 pw,v] w0 λr w'=>(∃c:BrN n,NrmS n b w' r c/\Cn (pw,O.map F) c/\c.2.length<=O.length/\pw<=c.1/\c.1<=pw+O.length)/\Fr O w0 w':=by
 obtain⟨AV,cV,rfl,e6⟩:=id hv.form;have a3:∀x∈O,x<w0.heap.size:=λx hx=>hF.lt hx;have e9:(O.map<|hdr n).length=O.length:=l18 ..;refine wf func42 U ?_;have d0:=hv;refine sr<|al k8v U<|λg6 w1 e7 I q1 z1=>(nn<|sr<|al zv65 U<|λg7 w2 e8 D q2 z2=>(nn<|sq<|sr<|mv U<|lnS U<|mv U<|nn<|bl ?_));have hF:=hF.ext<|q1.n1 q2;have I:=I.ext q2;refine lpK (ι:=Nat×Value×List Nat×(Nat->Pm n)) (ll6 0 1 6 7 11 12) (λp_=>[(13,.int .i64 (p_.1:Int))]) (λp_ w'=>p_.1<=O.length/\GatS F p_.2.2.2 O p_.1 p_.2.2.1/\FacT 5 n w0 w' O p_.2.2.2/\Lw.Own Enc.sl 22 w0.heap.size w' (p_.2.1) (p_.2.2.1.map<|hdr n)/\Blk w' g7 65 [p_.2.1]/\Blk w' g6 67 [.int .i64 0,.int .i64 0,.slice none 0 0]) (λp_=>O.length-p_.1) (0,.slice none 0 0,[],F) U ⟨l16 _,GatS.start F O,hF,Own.nil _,D,I⟩ ?_;rintro⟨i,vL,hs,G⟩ w3 ⟨hi,hG,hF,ho,D,I⟩;simp only at hi hG hF ho D I;obtain⟨AL,cL,rfl,e4⟩:=ho.sl.form;have b6:=D.lt;have b5:=I.lt;refine kpC [(0,_),(1,_),(6,_),(7,_),(11,_),(12,_),(13,.int .i64 (i:Int))] U<|sr<|lt' U<|nn<|sq<|cd U (λc0=>?_)<|λc0=>?_;have b3:Sl Enc.sl w3 (.slice AV (O.map<|hdr n).length cV) (O.map<|hdr n):=d0.fr hF.f b2;have a2:i<O.length:=by omega
 have b9:=hG.nd1 hd a2;have hA:∀x∈hs++[O.getD i 0],x∈O:=λx hx=>l98<|hG.sub1 a2 x hx;have f0:=hG.le;refine sk<|tn<|sq<|bl<|sr<|z1a (p:=i) (sv0) U b3 U x4o oo<|λd3 a8=>(z1c U (a8 _ b3) v5f<|asg U<|nn<|rg<|z2a U D j3m<|mv U<|cl (ev2 U) cO (by have x:=j5e n w0 _ O G hs (O.getD i 0) _ hF b9 hA ho oo hn.2;rw[y2d (n:=n) (L:=O) a2]at x;exact x) ?_);rintro f3 w4 ⟨G1,m,a7,hm,b1,hP,q4⟩;have z4:=q4.size;have a1:∀ {T:Nat} {cs:List Value} {k:Nat},Blk w3 k T cs->22≠T->5≠T->k∉z0v (.slice AL (hs.map<|hdr n).length cL)++(hs++[O.getD i 0]):=λhb h1 h2 hk=>(l23.1 hk).elim (Own.neB ho hb h1)<|λhk=>Own.neB (hF.r _<|hA _ hk) hb h2 t10;have D:=D.fr q4<|a1 D dd dd;have I:=I.fr q4<|a1 I dd dd;clear a1 hF ho;have hF:=a7;have ho:=b1;clear a7 b1;obtain⟨d7,d9,rfl,d5⟩:=ho.sl.form;have a4:=Own.neB ho D dd;refine z3i U D U sz65<|λw5 D q5 z5=>(nl<|bn'<|tn<|rg<|ad6 U<|mv U<|nl ?_);have hF:=hF.fr q5 (by intro k hk;rw[l11.1 hk];exact⟨λhg=>(by have:=a3 _ hg;omega),oo⟩);have ho:=ho.fr q5 (by intro k hk;rw[l11.1 hk];exact a4);have I:=I.fr q5;exact lpE ((i+1,_,(hs++[O.getD i 0]).take m,G1)) U ⟨sm,hG.step hn.2 hd a2 hP hm,hF,ho,D,I⟩ sm;obtain rfl:i=O.length:=by omega
 have a5:∀x∈hs,x∈O:=λx hx=>l98<|hG.sub x hx;have f2:(hs.map<|hdr n).length=hs.length:=l18 ..;have d6:=hG.le;have a4:=Own.neB ho D dd;refine ex<|te<|te<|xh<|tn<|sr<|asg U<|nn<|sq<|bl<|lpK (ι:=Nat) (ll4 0 1 6 7) (λZ=>[(10,.int .i64 (Z:Int))]) (λZ w'=>Fr [] w3 w'/\Z<=hs.length/\∀j,j<Z->G (hs.getD j 0)=Pm.half) (λZ=>hs.length-Z) 0 U ⟨l12 _ _,⟨l16 _,λj h=>absurd h oo⟩⟩ ?_;rintro Z w6 ⟨q6,⟨hf,b0⟩⟩;have z6:=q6.size;refine kpC (ll5 0 1 6 7 10) U<|sq<|sq<|u0i (r:=34) (L':=ll5 0 1 6 7 10) ((((Z:Int)<((hs.map<|hdr n).length:Int))/\((stN (G<|hs.getD Z 0).l:Int)=((2 ^ (n-1)-1:Nat):Int)))) U ?_ ?_;refine mv U ?_;have D:=D.ext q6;refine z2a U D j3m<|lnS U<|lt' U<|mv U<|gs 25 U (λg0=>?_)<|λg0=>?_;refine gY U<|z2a U D j3m<|gY U<|mv U<|gY U ?_;have ho:=ho.ext q6;refine z1a (p:=Z) (sv0) U ho.sl U x4o oo<|λd4 a9=>(gY U<|z1c U (a9 _ ho.sl) v5f<|gY U ?_);have hF:=hF.ext q6;refine cl (ev1 U) k1p (by have x:=j2p (.slice (some ⟨(hs.getD Z 0),0,none⟩) n n) (G<|hs.getD Z 0).l _ (hF.r _<|a5 _<|z6o oo).sl (by rw[z3e];exact hn.2);rw[y2d (n:=n) (L:=hs) oo]at x;exact x) ?_;rintro _ w7 ⟨rfl,q7⟩;have z7:=q7.size;refine gY U<|mv U<|gY U<|cl (ev1 U) cO (k7o n _ hn) ?_;rintro _ w8 ⟨rfl,q8⟩;have z8:=q8.size;exact gY U<|eq' U<|pkt U<|y3v U U<|q7.n1 q8;exact gN U<|gN U<|gN U<|gN U<|gN U<|gN U<|gN U<|gN U<|pkf U<|y3v U U<|l12 _ _;intro w9 q9;have z9:=q9.size;refine tn<|cd U (λc1=>?_)<|λc1=>?_;refine sk<|tn<|bl<|rg<|mv U<|ad6 U<|asg U<|nl<|bn' ?_;exact lpE ((Z+1)) U ⟨(q6.n1 q9),⟨oo,λj hj=>by
  by_cases e:j=Z;subst e;exact(k8d hn.2 hn.1).1 oo;exact b0 j oo⟩⟩ oo
 have b8:Z<hs.length->G (hs.getD Z 0)≠Pm.half:=λh e=>c1 ⟨oo,by rw[(k8d hn.2 hn.1).2 e]⟩;refine ex<|te<|te<|xh<|tn<|sr ?_;have D:=D.ext<|q6.n1 q9;refine z2a U D j3m<|mv U<|k6k (p:=Z) U U x4o oo oo oo U<|z3i U D U sz65<|λd1 D a6 f6=>?_;have ho:=(ho.ext<|q6.n1 q9).fr a6 (by intro k hk;rw[l11.1 hk];exact a4);have e5:=x9j ho.sl;have c9:Sl Enc.sl d1 (.slice (if cL=Z then AL else AL.map (·.add (Z*Enc.sl.sz))) ((hs.map<|hdr n).length-Z)<|cL-Z) ((hs.map<|hdr n).drop Z):=ho.sl.drop U oo oo oo<|λh=>if_neg oo;refine nn<|sr<|mv U<|mv U<|mv U<|ad6 U<|z2a U D j3m<|lnS U<|z5j z0f (ev1 U)<|cl (ev2 U) cO (k1l ((hs.map<|hdr n).length-Z) 95 [pta g7] (λi=>((hs.map<|hdr n).drop Z).getD i sv0) _ oo (CallOf.mk' func95 kr kr)<|λi w hi hw=>k6g i g7 _ _ w (c9.ext hw) (D.fr hw sp0) (by rw[l39];exact hi)) ?_;rintro _ f4 ⟨⟨e0,rfl,a0⟩,q11⟩;have f7:=q11.size;rw[<-l39,v3n]at a0;refine z1r (cs:=[_,_,_]) (ev3 U) bo67 (z0g U<|z0g U<|z0g U z0r) U ?_;have I:=((I.ext<|q6.n1 q9).fr a6).ext q11;refine z0j (vs:=[_,_,_]) U I k8n<|λf5 I b4 f8=>(kpL (ll1 6) U<|nn<|rt<|rC U U I k8o  ?_);have a0:=a0.fr b4 (by first|exact z9x a0 oo|simp[z0v]<;>omega);have hF:=(((hF.ext<|q6.n1 q9).fr a6 (by intro k hk;rw[l11.1 hk];exact⟨λhg=>(by have:=a3 _ hg;omega),oo⟩)).ext q11).fr b4 (by intro k hk;rw[l11.1 hk];exact⟨λhg=>(by have:=a3 _ hg;omega),oo⟩);exact⟨_,rfl,⟨(pw+(Z:Int),(hs.drop Z).map G),⟨_,hs.drop Z,G,rfl,by have y:=a0.low (b':=b) oo;rw[l39]at y;rw[List.map_drop];exact y,⟨λg hg=>hF.r g<|a5 g<|List.mem_of_mem_drop hg⟩,rfl,λx hx=>b7 x<|a5 x<|List.mem_of_mem_drop hx⟩,hG.fin hf b0 b8,by rw[l18,l39];omega,sm,sm⟩,hF.f⟩
open Go.Lw Go.G21 Go.G08 Go.G09 Go.G26 _root_.Go.Proofs.Tryz
variable {n:Nat}
theorem v0f (n:Nat):(idN n).length=n:=by simp[idN]
theorem x9y (n:Nat):(hfN n).length=n:=by simp[hfN]
theorem k4j (hn:n<=8)(d:Int)(p:Pm n):(flB d p).l=if d % 2=0 then p.l else flF n p.l:=by
 unfold flB;split;rfl;exact k2j hn p
theorem v9v (d:Int):(flB (-d):Pm n->Pm n)=flB d:=by
 funext p;unfold flB;by_cases h:d % 2=0;rw[if_pos h,if_pos oo];rw[if_neg h,if_neg oo]
theorem k1j (hn:n<=8){k:Int}{K:Nat}(I:k=(K:Int))(h1:1<=K)(D:K<n):(plF n k).l=(idN n).map (swK K):=by
 have h:k.natAbs-1+1<n:=by omega
 have e:plF n k=sg ⟨k.natAbs-1,h⟩:=(dif_pos h).trans<|if_pos oo;rw[e];show (Pm.sR _ Pm.one).l=_;rw[k8p hn,k9k];show (idN n).map (swK<|k.natAbs-1+1)=_;rw[show k.natAbs-1+1=K by omega]
theorem j8n (hn:n<=8){k:Int}{K:Nat}(I:0-k=(K:Int))(h1:1<=K)(D:K<n):(plF n k).l=(hfN n).map (swK K):=by
 have h:k.natAbs-1+1<n:=by omega
 have e:plF n k=Pm.sR ⟨k.natAbs-1,h⟩ Pm.half:=(dif_pos h).trans<|if_neg oo;rw[e,k8p hn,k3s];show (hfN n).map (swK<|k.natAbs-1+1)=_;rw[show k.natAbs-1+1=K by omega]
structure OfS (F:Nat->Pm n) (A:List Nat) (u:List Int) (r b:Nat):Prop where
  l:A.length+r=u.length
  nd:A.Nodup
  lo:∀x∈A,b<=x
  e:A.map F=(fac n<|u.drop r).2
theorem k2n (u:List Int):-(u.length:Int)<=(fac n u).1/\(fac n u).1<=0:=by
 induction u with
 | nil=>simp[fac]
 | cons k u ih=>simp only[fac,l34];split<;>omega
theorem OfS.step {F:Nat->Pm n}{A:List Nat}{u:List Int}{r b g:Nat}(h:OfS F A u r b)(Z:0<r)(O:g∉A)(hb:b<=g):OfS (upF F g<|flB (fac n<|u.drop r).1<|plF n<|u.getD (r-1) 0) (g::A) u (r-1) b:=by
 have hl:=h.l;have D:r-1<u.length:=by omega
 refine⟨by rw[l34];omega,l115.2 ⟨O,h.nd⟩,λx I=>(l57.1 I).elim (λe=>by rw[e];exact hb)<|h.lo x,?_⟩;rw[l33 D,Nat.sub_add_cancel Z,List.getD,l10 D];simp only[fac,l28,x0r,l59];rw[<-h.e];congr 1;exact l109 λx I=>y8n<|λe=>O (e▸I)
theorem u8i {u:List Int}{r:Nat}(I:0<r)(hl:r<=u.length):(fac n<|u.drop<|r-1).1=(fac n<|u.drop r).1-(if 0<u.getD (r-1) 0 then 0 else 1):=by
 have D:r-1<u.length:=by omega
 rw[l33 D,Nat.sub_add_cancel I,List.getD,l10 D];rfl
theorem u3k (n:Nat)(v:Value)(u:List Int)(w0:World)(hu:Sl Enc.i64 w0 v u)(hn:1<=n/\n<=8)(hl:u.length<=64)(D:k8s n u):Rets prog 35 #[.int .i64 (n:Int),v] w0 λr w'=>(∃(nv:Value) (c:BrN n),r=.tuple #[nv,.int .i64 0]/\NrmS n w0.heap.size w' nv c/\Cn (fac n u) c/\c.2.length<=64/\-64<=c.1/\c.1<=64)/\Fr [] w0 w':=by
 obtain⟨AU,cU,rfl,f5⟩:=id hu.form;refine wf func35 U ?_;have d9:=hu;refine sr<|al k8v U<|λg4 w1 f6 I q1 z1=>(asg U<|nn<|sq<|sr<|mv U<|mv U ?_);have hu:=d9.ext q1;refine cl (ev2 U) cO (j7r n _ u _ hu hn hl D) ?_;rintro _ w2 ⟨rfl,q2⟩;have z2:=q2.size;refine asg U<|nn<|sr<|mv U<|ne' U<|nn<|cd U (λc0=>?_)<|λc0=>?_;exact absurd U c0;refine sk<|tn<|sr<|asg U<|nn<|sr<|mv U<|lnS U<|z1g (m:=u.length) (c:=u.length) (sv0) U x4o zv22 U<|λa7 w3 f0 Z q3 z3=>(asg U<|nn<|sq<|sr<|mv U<|lnS U<|z2i U (wi6 oo)<|asg U<|nn<|bl<|lpK (ι:=Nat×Int×List Nat×(Nat->Pm n)) (ll4 0 1 4 8) (λp_=>[(9,.int .i64<|(p_.1:Int)-1),(7,.int .i64 p_.2.1)]) (λp_ w'=>Fr [a7] w3 w'/\(p_.1<=u.length/\p_.2.1 = -(fac n<|u.drop p_.1).1)/\OfS p_.2.2.2 p_.2.2.1 u p_.1 w0.heap.size/\FacT 5 n w0 w' p_.2.2.1 p_.2.2.2/\Lw.Own Enc.sl 22 w0.heap.size w' (.slice (saa a7) u.length u.length) (List.replicate p_.1 sv0++p_.2.2.1.map (hdr n))) (λp_=>p_.1) (u.length,0,[],λ_=>Pm.one) U ⟨l12 _ _,⟨⟨l20 _,by simp only;rw[List.drop_length];rfl⟩,⟨sp0,List.nodup_nil,λx hx=>(by cases hx),by simp only;rw[List.drop_length];rfl⟩,⟨(q1.n2 q2 q3),λx hx=>(by cases hx)⟩,by simpa using Z.low oo⟩⟩ ?_);rintro⟨r,b_,A,F⟩ w4 ⟨q4,⟨⟨d7,a3⟩,hO,hF,Z⟩⟩;simp only at d7 a3 hO hF Z;have z4:=q4.size;refine kpC [(0,_),(1,_),(4,_),(8,_),(9,.int .i64<|(r:Int)-1),(7,.int .i64 b_)] U<|sq<|sr<|mv U<|ge' U<|nn<|cd U (λc1=>?_)<|λc1=>?_;have b3:0<r:=by omega
 have f7:=D (u.getD (r-1) 0)<|z1b (d:=0) oo;have a0:=λx (hx:x∈A)=>hF.lt hx;have a4:a7∉A:=hF.ne Z dd _ t10;have d3:=u8i (n:=n) b3 d7;have d1:=k2n (n:=n)<|u.drop r;rw[l39]at d1;have d6:List.replicate r sv0=List.replicate (r-1+1) sv0:=by rw[Nat.sub_add_cancel b3]
 have d4:(List.replicate r sv0++A.map (hdr n)).length=u.length:=by rw[l13,l22,l18];have:=hO.l;omega
 refine sk<|tn<|sq<|bl<|sr<|mv U<|mv U ?_;have hu:=d9.ext<|q1.z3 q2 q3 q4;refine z1a (p:=(r-1)) (0) U hu U y1e oo<|λe9 b9=>(z1c U (b9 _ hu) na3<|asg U<|nn<|sr<|mv U<|gt' U<|nn<|cd U (λc2=>?_)<|λc2=>?_);obtain⟨K,a9⟩:∃K:Nat,(u.getD (r-1) 0)=(K:Int):=⟨(u.getD (r-1) 0).toNat,oo⟩;have hK:1<=K/\K<n:=⟨oo,oo⟩;refine rg<|mv U<|mv U<|mv U<|cl (ev1 U) cO (k6v n _ hn.2) ?_;rintro _ w5 ⟨⟨b7,rfl,a1⟩,q5⟩;have z5:=q5.size;refine mv U ?_;have e0:=a1.blk b7 t10;refine cl (ev2 U) cO (by have x:=x8v (idN n) b7 K _ _ (by have y:=a1;rw[v0f];exact y) oo (by rw[v0f];exact hn.2);rw[v0f,<-a9]at x;exact x) ?_;rintro _ w6 ⟨rfl,a1,q6⟩;have z6:=q6.size;rw[<-k1j hn.2 a9 hK.1 hK.2]at a1;refine mv U<|cl (ev2 U) cO (by have x:=v8g _ (plF n<|u.getD (r-1) 0).l b_ _ a1.sl (by rw[z3e];exact v8j hn.2 _) (by rw[z3e];exact hn);rw[z3e,<-k4j hn.2,a3,show (flB (-(fac n<|u.drop r).1):Pm n->Pm n)=flB (fac n<|u.drop r).1 from v9v _]at x;rw[a3];exact x) ?_;rintro _ w7 ⟨⟨b0,rfl,a5⟩,q7⟩;have z7:=q7.size;have f1:=a5.blk b0 t10;have Z:=((Z.ext q5).fr q6 t11).ext q7;refine z6a (p:=(r-1)) (E:=Enc.sl) U x4o<|z3t (i:=(r-1)) ((hdr n b0)) U Z (by rw[d4];omega) U k8z<|λw8 Z q8 z8=>?_;rw[d6,v9u]at Z;refine kpL (ll6 0 1 4 7 8 9) U<|nl<|bn'<|tn<|rg<|mv U<|z2i U (show IntKind.i64.wrap ((r:Int)-1-1)=((r-1:Nat):Int)-1 from (wi6 oo).trans oo)<|asg U<|nl ?_;have hF:=(((hF.ext q5).fr q6 (by intro k D;rw[l11.1 D];first|exact⟨a4,oo⟩|exact⟨λO=>(by have:=a0 _ O;omega),oo⟩)).ext q7).fr q8 (by intro k D;rw[l11.1 D];first|exact⟨a4,oo⟩|exact⟨λO=>(by have:=a0 _ O;omega),oo⟩);have a5:=a5.fr q8 t11;exact lpE ((r-1,b_,b0::A,upF F b0<|flB (fac n<|u.drop r).1<|plF n<|u.getD (r-1) 0)) U ⟨((l12 [a7] _).z5 q4 q5 q6 q7 q8),⟨⟨sm,by simp only;rw[d3,if_pos c2];omega⟩,hO.step b3 (λO=>by have:=a0 _ O;omega) oo,hF.add (a5.low<|l16 _) (λO=>by have:=a0 _ O;omega),Z⟩⟩ sm;obtain⟨K,a9⟩:∃K:Nat,0-(u.getD (r-1) 0)=(K:Int):=⟨(0-(u.getD (r-1) 0)).toNat,oo⟩;have hK:1<=K/\K<n:=⟨oo,oo⟩;refine sr<|mv U<|mv U<|mv U<|cl (ev1 U) cO (k4h n _ hn.2) ?_;rintro _ w9 ⟨⟨b8,rfl,a2⟩,q9⟩;have z9:=q9.size;refine mv U<|k4i U (wi6 oo) U ?_;have e3:=a2.blk b8 t10;refine cl (ev2 U) cO (by have x:=x8v (hfN n) b8 K _ _ (by have y:=a2;rw[x9y];exact y) oo (by rw[x9y];exact hn.2);rw[x9y,<-a9]at x;exact x) ?_;rintro _ g0 ⟨rfl,a2,b4⟩;have g6:=b4.size;rw[<-j8n hn.2 a9 hK.1 hK.2]at a2;refine mv U<|cl (ev2 U) cO (by have x:=v8g _ (plF n<|u.getD (r-1) 0).l b_ _ a2.sl (by rw[z3e];exact v8j hn.2 _) (by rw[z3e];exact hn);rw[z3e,<-k4j hn.2,a3,show (flB (-(fac n<|u.drop r).1):Pm n->Pm n)=flB (fac n<|u.drop r).1 from v9v _]at x;rw[a3];exact x) ?_;rintro _ g1 ⟨⟨b1,rfl,a6⟩,q11⟩;have g7:=q11.size;have f2:=a6.blk b1 t10;have Z:=((Z.ext q9).fr b4 t11).ext q11;refine z6a (p:=(r-1)) (E:=Enc.sl) U x4o<|z3t (i:=(r-1)) ((hdr n b1)) U Z (by rw[d4];omega) U k8z<|λg3 Z b5 g8=>?_;rw[d6,v9u]at Z;refine kpL (ll6 0 1 4 7 8 9) U<|nn<|rg<|mv U<|ad6 U<|asg U<|nl<|bn'<|tn<|rg<|mv U<|z2i U (show IntKind.i64.wrap ((r:Int)-1-1)=((r-1:Nat):Int)-1 from (wi6 oo).trans oo)<|asg U<|nl ?_;have hF:=(((hF.ext q9).fr b4 (by intro k D;rw[l11.1 D];first|exact⟨a4,oo⟩|exact⟨λO=>(by have:=a0 _ O;omega),oo⟩)).ext q11).fr b5 (by intro k D;rw[l11.1 D];first|exact⟨a4,oo⟩|exact⟨λO=>(by have:=a0 _ O;omega),oo⟩);have a6:=a6.fr b5 t11;exact lpE ((r-1,b_+1,b1::A,upF F b1<|flB (fac n<|u.drop r).1<|plF n<|u.getD (r-1) 0)) U ⟨((l12 [a7] _).z5 q4 q9 b4 q11 b5),⟨⟨sm,by simp only;rw[d3,if_neg c2];omega⟩,hO.step b3 (λO=>by have:=a0 _ O;omega) oo,hF.add (a6.low<|l16 _) (λO=>by have:=a0 _ O;omega),Z⟩⟩ sm;obtain rfl:r=0:=by omega
 rw[l110,l43]at Z;rw[List.drop_zero]at a3;have d1:=k2n (n:=n) u;have f3:=hO.l;refine ex<|te<|te<|xh<|tn<|sr<|mv U<|mv U<|k4i U (wi6 oo) U<|mv U ?_;have I:=(I.ext<|q2.n1 q3).fr q4;refine cl (ev3 U) cO (j4i n _ _ A F _ Z.sl hF.start hO.nd (λk D hb=>hF.ne Z dd k hb D) oo hn oo w0.heap.size oo hO.lo) ?_;rintro _ e8 ⟨⟨c,⟨f9,hs,G,rfl,a8,b2,e4,e5⟩,hC,hc1,hc2,hc3⟩,qA⟩;have e7:Fr [] w0 e8:=(q1.z3 q2 q3 q4).step qA<|λk D f8=>absurd (hO.lo k D) oo;have g9:=qA.size;have I:=I.fr qA<|λD=>Own.neB (hF.r _ D) I dd t10;obtain⟨A9,c9,rfl,f4⟩:=a8.sl.form;clear hF Z;have e6:=Own.neB a8 I dd;have d5:g4∉hs:=λO=>Own.neB (b2.r _ O) I dd t10;refine z0j (vs:=[_,_,_]) U I k8n<|λg5 I b6 h0=>(asg U<|kpL (ll2 4 5) U<|nn<|rt<|rCT U U I k8o U ?_);have a8:=a8.fr b6 (by intro k D;rw[l11.1 D];exact e6);have b2:=b2.fr b6 (by intro k D O;rw[l11.1 D]at O;exact d5 O);have d0:=hO.e;rw[List.drop_zero]at d0;rw[a3,show (0 - -(fac n u).1:Int)=(fac n u).1 by omega,d0]at hC;exact⟨_,rfl,⟨_,c,rfl,⟨_,hs,G,rfl,a8,b2,e4,e5⟩,hC,oo,oo,oo⟩,(e7.z1 b6)⟩
open Go.Lw Go.G21 Go.G08 Go.G09 Go.G26 _root_.Go.Proofs.Tryz
theorem j2f:z1e prog 67 0 0:=λ_ _=>kr
theorem j3h:z1e prog 67 1 1:=λ_ _=>kr
theorem j3x:z1e prog 67 2 2:=λ_ _=>kr
theorem k8i (v1 v2:Value)(l1 l2:List UInt8)(w0:World)(h1:Sl Enc.b w0 v1 l1)(Z:Sl Enc.b w0 v2 l2)(hl:l1.length<=100000):Rets prog 44 #[v1,v2] w0 λr w'=>r=.bool (decide (l1=l2))/\Fr [] w0 w':=by
 obtain⟨A1,k1,rfl,a6⟩:=id h1.form;obtain⟨A2,k2,rfl,a7⟩:=id Z.form;refine wf func44 U ?_;have a2:=h1;have a3:=Z;refine sr<|asg U<|nn<|sq<|sr<|mv U<|lnS U<|mv U<|lnS U<|ne' U<|nn<|cd U (λc0=>?_)<|λc0=>?_;refine sr<|asg U<|nn<|rt<|tr<|r1 U ?_;exact⟨_,rfl,congrArg Value.bool (decide_eq_false<|λe=>c0 t15).symm,(l12 _ _)⟩;refine sk<|tn<|sq<|sr<|mv U<|lnS U<|mv U<|nn<|bl<|lpK (ι:=Nat) (ll3 0 1 12) (λi=>[(13,.int .i64 (i:Int))]) (λi w'=>Fr [] w0 w'/\i<=l1.length/\∀j,j<i->l1.getD j 0=l2.getD j 0) (λi=>l1.length-i) 0 U ⟨l12 _ _,⟨l16 _,λj h=>absurd h oo⟩⟩ ?_;rintro i w1 ⟨q1,⟨hi,hz⟩⟩;refine kpC (ll4 0 1 12 13) U<|sr<|lt' U<|nn<|sq<|cd U (λc1=>?_)<|λc1=>?_;refine sk<|tn<|sq<|bl<|sr<|mv U<|asg U<|nn<|sq ?_;have h1:=a2.ext q1;have Z:=a3.ext q1;intro a h;have D:=l12 [] w1;refine z3d (Fr []) z2s ?_;intro w2 hq;have h1:=h1.ext hq;have Z:=Z.ext hq;have D:=D.next hq;have a8:=hq.size;have hC:Fr [] w2 w2:=l12 _ _;have I:=h1;have O:=Z;refine z0e 0 h U λa h=>z0e 1 h U λa h=>z1d (p:=i) (0) 2 h U h1 U y5c U λa4 a0 a h=>z2h 3 h U (λ_ hw=>a0 _<|I.ext hw) na5 U λa h=>z0e 4 h U λa h=>z0e 5 h U λa h=>z1d (p:=i) (0) 6 h U Z U y5c U λa5 a1 a h=>z2h 7 h U (λ_ hw=>a1 _<|O.ext hw) na5 U λa h=>u3b 8 hC h wn U U U U λa h=>z0q ?_;clear hC I O;refine xB (ll5 0 1 12 13 24) h U<|tn<|cd U (λc2=>?_)<|λc2=>?_;refine sr<|asg U<|nn<|rt<|rb<|tr<|tr<|rb<|tr<|r1 U ?_;exact⟨_,rfl,congrArg Value.bool (decide_eq_false<|λe=>c2 t15).symm,(q1.n1 D)⟩;refine sk<|bn'<|tn<|rg<|ad6 U<|mv U<|nl ?_;exact lpE (i+1) U ⟨(q1.n1 D),⟨oo,λj h=>by
  by_cases e:j=i;subst e;exact UInt8.toNat.inj oo;exact hz j oo⟩⟩ oo
 obtain rfl:i=l1.length:=by omega
 refine ex<|te<|te<|xh<|tn<|sr<|asg U<|nn<|rt<|r1 U ?_;exact⟨_,rfl,congrArg Value.bool (decide_eq_true<|y8k 0 oo<|λj hj=>hz j oo).symm,q1⟩
variable {n:Nat}
def z3k (F:Nat->Pm n)(hs:List Nat):List (List UInt8):=hs.map λg=>(F g).l
theorem k9o (hn:n<=8){p q:Pm n}(h:p.l=q.l):p=q:=Pm.ext λx=>by
 have D:=u1m hn p x.2
 rw[h,u1m hn q x.2]at D
 have I:(q.f x).1+1=(p.f x).1+1:=D
 exact l112 oo
theorem x2v (hn:n<=8){F G:Nat->Pm n}:∀ {a b:List Nat},z3k F a=z3k G b↔a.map F=b.map G
 | [],[]=>⟨λ_=>rfl,λ_=>rfl⟩
 | [],_::_=>⟨λh=>(by cases h),λh=>(by cases h)⟩
 | _::_,[]=>⟨λh=>(by cases h),λh=>(by cases h)⟩
 | x::a,y::b=>by
  have D:=x2v hn (F:=F) (G:=G) (a:=a) (b:=b)
  unfold z3k at D ⊢
  rw[l28,l28,l28,l28,List.cons.injEq,List.cons.injEq,D]
  exact⟨λh=>⟨k9o hn h.1,h.2⟩,λh=>⟨by rw[h.1],h.2⟩⟩
theorem y5x {F:Nat->Pm n}{a:List Nat}{i:Nat}(h:i<a.length):(z3k F a).getD i []=(F<|a.getD i 0).l:=by
 unfold z3k;rw[List.getD,l26,l10 h,List.getD,l10 h];rfl
theorem k7c (n a7 a8:Nat)(D I:List Nat)(F1 F2:Nat->Pm n)(v1 v2:Value)(w0:World)(h1:Lw.Own Enc.sl 22 a7 w0 v1 (D.map<|hdr n))(h2:Lw.Own Enc.sl 22 a8 w0 v2 (I.map<|hdr n))(Z:RwsB 5 n w0 D F1)(a0:RwsB 5 n w0 I F2)(hn:n<=8)(hl:D.length<=1000):Rets prog 43 #[v1,v2,.func (.func 44) #[] #[]] w0 λr w'=>r=.bool (decide (z3k F1 D=z3k F2 I))/\Fr [] w0 w':=by
 obtain⟨A1,k1,rfl,b3⟩:=id h1.sl.form;obtain⟨A2,k2,rfl,b4⟩:=id h2.sl.form;have e1:(D.map<|hdr n).length=D.length:=l18 ..;have e2:(I.map<|hdr n).length=I.length:=l18 ..;refine wf func43 U ?_;have a9:=h1;have b0:=h2;have a5:=Z;have a6:=a0;refine sr<|asg U<|nn<|sq<|sr<|mv U<|lnS U<|mv U<|lnS U<|ne' U<|nn<|cd U (λc0=>?_)<|λc0=>?_;refine sr<|asg U<|nn<|rt<|tr<|r1 U ?_;exact⟨_,rfl,congrArg Value.bool (decide_eq_false<|λe=>c0 (by have y:=congrArg List.length e;simp only[z3k,l18]at y;rw[e1,e2,y])).symm,(l12 _ _)⟩;refine sk<|tn<|sq<|sr<|mv U<|lnS U<|mv U<|nn<|bl<|lpK (ι:=Nat) (ll4 1 2 15 16) (λi=>[(17,.int .i64 (i:Int))]) (λi w'=>Fr [] w0 w'/\i<=(D.map<|hdr n).length/\∀j,j<i->(F1<|D.getD j 0).l=(F2<|I.getD j 0).l) (λi=>(D.map<|hdr n).length-i) 0 U ⟨l12 _ _,⟨l16 _,λj h=>absurd h oo⟩⟩ ?_;rintro i w1 ⟨O,⟨hi,hz⟩⟩;refine kpC (ll5 1 2 15 16 17) U<|sr<|lt' U<|nn<|sq<|cd U (λc1=>?_)<|λc1=>?_;refine sk<|tn<|sq<|bl<|sr<|mv U ?_;have h1:=a9.ext O;refine z1a (p:=i) (sv0) U h1.sl U x4o oo<|λb1 a3=>(z1c U (a3 _ h1.sl) v5f<|asg U<|asg U<|nn<|sr<|mv U<|mv U ?_);have h2:=b0.ext O;refine z1a (p:=i) (sv0) U h2.sl U x4o oo<|λb2 a4=>(z1c U (a4 _ h2.sl) v5f<|asg U<|nn<|sr<|mv U<|mv U<|mv U ?_);have Z:=a5.ext O;have a0:=a6.ext O;refine clv (us:=[]) (ws:=[]) U (ev2 U) cO (by have x:=k8i (.slice (some ⟨(D.getD i 0),0,none⟩) n n) (.slice (some ⟨(I.getD i 0),0,none⟩) n n) (F1<|D.getD i 0).l (F2<|I.getD i 0).l _ (Z.r _<|z6o oo).sl (a0.r _<|z6o oo).sl t49;rw[y2d (n:=n) (L:=D) oo,y2d (n:=n) (L:=I) oo]at x;exact x) U t14 ?_;rintro _ w2 ⟨rfl,q2⟩;refine nt' U<|kpL (ll6 1 2 15 16 17 30) U<|nn<|cd U (λc2=>?_)<|λc2=>?_;refine sr<|asg U<|kpL (ll1 6) U<|nn<|rt<|rb<|tr<|tr<|rb<|tr<|r1 U ?_;exact⟨_,rfl,congrArg Value.bool (decide_eq_false<|λe=>c2 (by rw[<-y5x (F:=F1) oo,<-y5x (F:=F2) oo,e])).symm,(O.n1 q2)⟩;refine sk<|bn'<|tn<|rg<|ad6 U<|mv U<|nl ?_;exact lpE (i+1) U ⟨(O.n1 q2),⟨oo,λj h=>by
  by_cases e:j=i;subst e;exact l15.1 c2;exact hz j oo⟩⟩ oo
 obtain rfl:i=(D.map<|hdr n).length:=by omega
 refine ex<|te<|te<|xh<|tn<|sr<|asg U<|kpL (ll1 6) U<|nn<|rt<|r1 U ?_;exact⟨_,rfl,congrArg Value.bool (decide_eq_true<|y8k [] (by simp only[z3k,l18];omega) (λj hj=>by rw[z3k,l18]at hj;rw[y5x oo,y5x oo];exact hz j oo)).symm,O⟩
theorem u6k (n b1 b2:Nat)(v1 v2:Value)(c d:BrN n)(w0:World)(hc:NrmS n b1 w0 v1 c)(hd:NrmS n b2 w0 v2 d)(hn:n<=8)(hl:c.2.length<=1000):Rets prog 17 #[v1,v2] w0 λr w'=>(∃b:Bool,r=.bool b/\(c=d->b=true))/\Fr [] w0 w':=by
 obtain⟨o1,a1,F1,rfl,h1,a0,e1,-⟩:=hc;obtain⟨o2,a2,F2,rfl,h2,a3,e2,-⟩:=hd;obtain⟨A1,k1,rfl,b3⟩:=id h1.sl.form;obtain⟨A2,k2,rfl,b4⟩:=id h2.sl.form;have a8:a1.length<=1000:=by have:=congrArg List.length e1;rw[l18]at this;omega
 refine wf func17 U ?_;have a6:=h1;have a7:=h2;have a4:=a0;have a5:=a3;refine sr<|bx U<|λg2 w1 a9 D Z z1=>(bx U<|λg3 w2 b0 O I z2=>(asg U<|nn<|sr<|fad U j2f ?_));have D:=D.ext I;refine z0i U D U na3<|fad U j2f<|z0i U O U na3<|eq' U<|mv U<|gs 10 U (λg0=>?_)<|λg0=>?_;refine gY U<|fad U j3h<|gY U<|z0i U D U na3<|gY U<|fad U j3h<|gY U<|z0i U O U na3<|gY U<|eq' U<|pkt U<|mv U<|gs 17 U (λg1=>?_)<|λg1=>?_;refine gY U<|fad U j3x<|gY U<|z0i U D U j3m<|gY U<|fad U j3x<|gY U<|z0i U O U j3m<|gY U ?_;have h1:=a6.ext<|Z.n1 I;have h2:=a7.ext<|Z.n1 I;have a0:=a4.ext<|Z.n1 I;have a3:=a5.ext<|Z.n1 I;refine cl (ev3 U) cO (k7c n b1 b2 a1 a2 F1 F2 _ _ _ h1 h2 a0 a3 hn a8) ?_;rintro _ w3 ⟨rfl,q3⟩;refine pkt U<|asg U<|kpL (ll1 4) U<|nn<|rt<|r1 U ?_;exact⟨_,rfl,⟨_,rfl,λe=>by first|exact decide_eq_true<|(x2v hn).2 (by rw[e1,e2,e])|exact absurd (congrArg Prod.fst e) g1|exact absurd U g0⟩,(Z.n2 I q3)⟩;refine gN U<|gN U<|gN U<|gN U<|gN U<|pkf U<|asg U<|kpL (ll1 4) U<|nn<|rt<|r1 U ?_;exact⟨_,rfl,⟨_,rfl,λe=>by first|exact decide_eq_true<|(x2v hn).2 (by rw[e1,e2,e])|exact absurd (congrArg Prod.fst e) g1|exact absurd U g0⟩,(Z.n1 I)⟩;refine gN U<|gN U<|gN U<|gN U<|gN U<|pkf U<|mv U<|gN U<|gN U<|gN U<|gN U<|gN U<|pkf U<|asg U<|kpL (ll1 4) U<|nn<|rt<|r1 U ?_;exact⟨_,rfl,⟨_,rfl,λe=>by first|exact decide_eq_true<|(x2v hn).2 (by rw[e1,e2,e])|exact absurd (congrArg Prod.fst e) g1|exact absurd U g0⟩,(Z.n1 I)⟩
open Go.Lw Go.G21 Go.G08 Go.G09 Go.G26 _root_.Go.Proofs.Tryz
theorem v8b (v1 v2:Value)(l1 l2:List IQ)(w0:World)(h1:Sl z7a w0 v1 l1)(Z:Sl z7a w0 v2 l2)(D:IqAt w0 l1)(I:IqAt w0 l2)(h4:∀i,(l1.getD i iq0).2.length<=100000):Rets prog 80 #[v1,v2,.func (.func 49) #[] #[]] w0 λr w'=>(∃b:Bool,r=.bool b/\((l1.length=l2.length/\∀i,(l1.getD i iq0).2=(l2.getD i iq0).2)->b=true))/\Fr [] w0 w':=by
 obtain⟨A1,k1,rfl,a9⟩:=id h1.form;obtain⟨A2,k2,rfl,b0⟩:=id Z.form;have a6:=h1.len_le;unfold maxLen at a6;refine wf func80 U ?_;have a4:=h1;have a5:=Z;have a2:=D;have a3:=I;refine sr<|asg U<|nn<|sq<|sr<|mv U<|lnS U<|mv U<|lnS U<|ne' U<|nn<|cd U (λc0=>?_)<|λc0=>?_;refine sr<|asg U<|nn<|rt<|tr<|r1 U ?_;exact⟨_,rfl,⟨_,rfl,λe=>absurd (congrArg (λx:Nat=>(x:Int)) e.1) c0⟩,(l12 _ _)⟩;refine sk<|tn<|sq<|sr<|mv U<|lnS U<|mv U<|nn<|bl<|lpK (ι:=Nat) (ll4 1 2 15 16) (λi=>[(17,.int .i64 (i:Int))]) (λi w'=>Fr [] w0 w'/\i<=l1.length/\True) (λi=>l1.length-i) 0 U ⟨l12 _ _,⟨l16 _,trivial⟩⟩ ?_;rintro i w1 ⟨O,⟨hi,_⟩⟩;refine kpC (ll5 1 2 15 16 17) U<|sr<|lt' U<|nn<|sq<|cd U (λc1=>?_)<|λc1=>?_;refine sk<|tn<|sq<|bl<|sr<|mv U ?_;have h1:=a4.ext O;refine z1a (p:=i) (iq0) U h1 U y4d oo<|λa7 a0=>(z1c U (a0 _ h1) z6k<|asg U<|asg U<|nn<|sr<|mv U<|mv U ?_);have Z:=a5.ext O;refine z1a (p:=i) (iq0) U Z U y4d oo<|λa8 a1=>(z1c U (a1 _ Z) z6k<|asg U<|nn<|sr<|mv U<|mv U<|mv U ?_);have D:=a2.ext O;have I:=a3.ext O;refine clv (us:=[]) (ws:=[]) U (ev2 U) cO (u1v _ _ (l1.getD i iq0).2 (l2.getD i iq0).2 _ (z1y D i) (z1y I i)<|h4 i) U t14 ?_;rintro _ w2 ⟨rfl,q2⟩;refine nt' U<|kpL (ll6 1 2 15 16 17 30) U<|nn<|cd U (λc2=>?_)<|λc2=>?_;exact sr<|asg U<|kpL (ll1 6) U<|nn<|rt<|rb<|tr<|tr<|rb<|tr<|r1 U ⟨_,rfl,⟨_,rfl,λe=>absurd (e.2 i) c2⟩,(O.n1 q2)⟩;exact sk<|bn'<|tn<|rg<|ad6 U<|mv U<|nl<|lpE (i+1) U ⟨(O.n1 q2),⟨oo,trivial⟩⟩ oo;obtain rfl:i=l1.length:=by omega
 exact ex<|te<|te<|xh<|tn<|sr<|asg U<|kpL (ll1 6) U<|nn<|rt<|r1 U ⟨_,rfl,⟨_,rfl,λ_=>rfl⟩,O⟩
theorem y6x (v1 v2:Value)(l1 l2:List IQ)(w0:World)(h1:Sl z7a w0 v1 l1)(D:Sl z7a w0 v2 l2)(O:IqAt w0 l1)(I:IqAt w0 l2)(b4:l1.length<=40)(b5:l2.length<=40)(h4:z9v l1):Rets prog 79 #[v1,v2] w0 λr w'=>(∃b:Bool,r=.bool b/\(z1x (plB l1)=z1x (plB l2)->b=true))/\Fr [] w0 w':=by
 obtain⟨A1,c1,rfl,b6,a9,a7⟩:=id h1;obtain⟨A2,c2,rfl,b7,b0,a8⟩:=id D;clear a7 a8;unfold maxLen at a9 b0;refine wf func79 U ?_;have b2:=h1;have b3:=D;have b8:=O;have b9:=I;refine sr<|asg U<|nn<|sq ?_;intro a h;refine rgh none (Fr []) ?_;intro w1 q1 hC;have h1:=h1.ext q1;have D:=D.ext q1;have O:=O.ext q1;have I:=I.ext q1;have a1:=h1;have a2:=D;have a5:=O;have a6:=I;refine z0e 0 h U λa h=>z0e 1 h U λa h=>z0e 4 h U λa h=>z0e 5 h U λa h=>z0d 2 U<|z0n h (z0a U z0f) cO (x1u _ l1 _ h1 O) ?_;rintro _ w2 ⟨m1,rfl,Z,a3,q2⟩ a h;have D:=D.ext q2;have I:=I.ext q2;have hC:=hC.next q2;refine z0b<|x1a (p:=m1) 3 hC h wn U U y4d U U λa h=>z0d 6 U<|z0n h (z0a U z0f) cO (x1u _ l2 _ D I) ?_;rintro _ w3 ⟨m2,rfl,a0,a4,q3⟩ a h;have h1:=h1.ext<|q2.n1 q3;have D:=D.ext q3;have O:=O.ext<|q2.n1 q3;have I:=I.ext q3;have hC:=hC.next q3;refine z0b<|x1a (p:=m2) 7 hC h wn U U y4d U U λa h=>z0d 8 U<|z0n h (z0a U<|z0a U<|z0a U z0f) cO (v8b _ _ (l1.take m1) (l2.take m2) _ (h1.take U Z oo t40<|λ_=>rfl) (D.take U a0 oo t40<|λ_=>rfl) (y6r U O) (y6r U I)<|λi=>l42 (z4a (λq q4=>h4 q<|l98 q4) i) oo) ?_;rintro _ w4 ⟨⟨be,rfl,b1⟩,q4⟩ a h;have hC:=hC.next q4;refine z0b<|z0d 9 U<|z0o h U λa h=>?_;refine z0b<|z0q ?_;clear hC a1 a2 a5 a6;exact xB (ll1 4) h U<|tn<|rt<|r1 U ⟨_,rfl,⟨be,rfl,λhe=>b1 ⟨(v1g Z a0 a3 a4 he).1,(v1g Z a0 a3 a4 he).2⟩⟩,(q1.n3 q2 q3 q4)⟩
theorem v7b (D I:BdQ)(w0:World)(h1:BdAt w0 D)(h2:BdAt w0 I)(a7:D.fs.length<=40)(a8:I.fs.length<=40)(a9:z9v D.fs)(a4:D.bs.length<=40)(a5:I.bs.length<=40)(a6:z9v D.bs):Rets prog 34 #[bvv D,bvv I] w0 λr w'=>(∃b:Bool,r=.bool b/\(z1x (plB D.fs)=z1x (plB I.fs)->z1x (plB D.bs)=z1x (plB I.bs)->b=true))/\Fr [] w0 w':=by
 refine wf func34 U ?_;have a2:=h1;have a3:=h2;refine sr<|bx U<|λg2 w1 b2 a0 q1 z1=>(bx U<|λg3 w2 b3 a1 q2 z2=>(asg U<|nn<|sr<|asg U<|nn<|sr<|mv U<|fad U y5d ?_));have a0:=a0.ext q2;refine z0i U a0 U x4d<|fad U y5d<|z0i U a1 U x4d ?_;have h1:=a2.ext<|q1.n1 q2;have h2:=a3.ext<|q1.n1 q2;refine clv (us:=[]) (ws:=[]) U (ev2 U) cO (y6x _ _ D.fs I.fs _ h1.f h2.f h1.fi h2.fi a7 a8 a9) U t14 ?_;rintro _ w3 ⟨⟨b1,rfl,Z⟩,q3⟩;refine mv U<|gs 12 U (λg0=>?_)<|λg0=>?_;refine gY U<|mv U<|gY U<|fad U y1o<|gY U ?_;have a0:=a0.ext q3;refine z0i U a0 U x4d<|gY U<|fad U y1o<|gY U ?_;have a1:=a1.ext q3;refine z0i U a1 U x4d<|gY U ?_;have h1:=a2.ext<|q1.n2 q2 q3;have h2:=a3.ext<|q1.n2 q2 q3;refine clv (us:=[]) (ws:=[]) U (ev2 U) cO (y6x _ _ D.bs I.bs _ h1.b h2.b h1.bi h2.bi a4 a5 a6) U t14 ?_;rintro _ w4 ⟨⟨b0,rfl,O⟩,q4⟩;refine pkt U<|asg U<|kpL (ll1 4) U<|nn<|rt<|r1 U ?_;exact(by exact⟨_,rfl,⟨_,rfl,λe1 e2=>by first|(exact O e2)|exact absurd (Z e1) g0|(rw[Z e1,O e2];done)⟩,(q1.n3 q2 q3 q4)⟩);refine gN U<|gN U<|gN U<|gN U<|gN U<|gN U<|pkf U<|asg U<|kpL (ll1 4) U<|nn<|rt<|r1 U ?_;exact(by exact⟨_,rfl,⟨_,rfl,λe1 e2=>by first|(exact O e2)|exact absurd (Z e1) g0|(rw[Z e1,O e2];done)⟩,(q1.n2 q2 q3)⟩)
end Go.Proofs.YtkafbfjmcigaiaaGreatDoor
namespace Go.Lw
theorem v7p {c:UInt8}:∀ {l:List UInt8},c∉l->Lib.index l [c] = -1
 | [],_=>by simp[Lib.index]
 | b::l,h=>by
  have D:¬c=b:=λe=>h (by rw[e];simp)
  have hl:c∉l:=λe=>h (by simp[e])
  rw[Lib.index,v7p hl]
  simp[List.isPrefixOf,D]
theorem j2e {c:UInt8}(y:List UInt8):∀ {x:List UInt8},c∉x->Lib.index (x++c::y) [c]=x.length
 | [],_=>by simp[Lib.index,List.isPrefixOf]
 | b::x,h=>by
  have D:¬c=b:=λe=>h (by rw[e];simp)
  have hl:c∉x:=λe=>h (by simp[e])
  rw[l48,Lib.index,j2e y hl]
  simp only[List.isPrefixOf,beq_eq_false_iff_ne.2 D,Bool.false_and,Bool.false_eq_true,if_false]
  rw[if_neg se];simp
theorem cnt {c:UInt8}:∀(f:Nat) (s:List UInt8),s.length<f->Lib.countFrom [c] f s=s.count c
 | 0,s,h=>by omega
 | f+1,s,h=>by
  rw[Lib.countFrom]
  by_cases hm:c∈s
  ·obtain⟨x,y,rfl,D⟩:=List.eq_append_cons_of_mem hm
   rw[j2e y D,if_neg se]
   have e:(x++c::y).drop ((x.length:Int).toNat + [c].length)=y:=by
    rw[l95,show x++c::y=(x++[c])++y by simp,show x.length + [c].length=(x++[c]).length by simp,l142]
   rw[e,cnt f y (by simp at h;omega)]
   simp[l74.2 D];omega
  rw[v7p hm,if_pos dd,l74.2 hm]
end Go.Lw
namespace Go.G08
open Go.Lw Go.G21
theorem y1p {p:MSt}{o:MOp}(h:z8v o=0):doM p o=opM p o:=by unfold doM;rw[if_neg (by rw[h];simp)]
end Go.G08
namespace Go.G09
open Go.Lw Go.G21 Go.G08
def CrB (l:List Cx)(n:Int):Prop:=∀a b,-n<=z5l l a b/\z5l l a b<=n
theorem CrB.mono {l:List Cx}{n m:Int}(h:CrB l n)(D:n<=m):CrB l m:=λa b=>⟨by have:=(h a b).1;omega,by have:=(h a b).2;omega⟩
theorem x7g:∀ {r l:List Cx} {n:Int},CrB l n->(∀c∈r,c.n=1\/c.n = -1)->n+r.length<=1048576->∃l',z3s l r=.ok l'/\CrB l' (n+r.length)
 | [],l,n,h,_,_=>⟨l,rfl,h.mono sp0⟩
 | c::r,l,n,h,hr,hn=>by
  have h1:=hr c (l35 ..)
  have hl:((c::r).length:Int)=r.length+1:=by simp
  rw[hl]at hn ⊢
  have hk:=h (z4j c).1 (z4j c).2
  obtain⟨Z,e1⟩:=u0d (l:=l) (c:=c) oo
  have I:CrB Z (n+1):=λa b=>by
   rw[y2z e1]
   have:=h a b
   split<;>omega
  obtain⟨l2,e2,D⟩:=x7g I (λc O=>hr c<|l36 _ O) oo
  exact⟨l2,by rw[y1g,e1];exact e2,D.mono oo⟩
theorem u2l {B:Bd}{r d x:Int}(Z:BdOk B)(hd:d=0\/d=1):v7e (z4q B r d x):=λq D=>by
 refine⟨Z.nm _<|x4z D,?_⟩
 have I:q∈z7u B r d x B.b.length:=by
  unfold z4q at D
  split at D
  ·exact l120.1 D
  exact D
 unfold z7u at I
 obtain⟨k,_,O⟩:=l73.1 I
 unfold y3d at O
 split at O
 ·cases O
 obtain⟨y,_,rfl⟩:=l55.1 O
 show z4w (1-d)
 unfold z4w;omega
theorem y9e {p:MSt}{d:Int}(O:BdOk p.B)(Z:d=0\/d=1)(hr:-4<=p.rk/\p.rk<=4):∀ {l:List Yn},(∀y∈l,y0z y/\y.pe.length+4<=4096)->∃l',z3g p d l=.ok l'
 | [],_=>⟨_,rfl⟩
 | y::l,h=>by
  obtain⟨l1,h1⟩:=y9e O Z hr (l:=l) λy I=>h y<|l36 _ I
  obtain⟨I,hl⟩:=h y (l35 ..)
  have:∃y',z6g p d y=.ok y':=by
   unfold z6g
   split
   ·exact⟨_,rfl⟩
   rename_i hi
   have D:y.inn=true:=by simpa using hi
   have h4:=v9g (x:=y.pl) O Z hr
   have h5:=z5u (z4q p.B p.rk d y.pl) y.pe
   rw[if_neg (by rw[j9i I (k5u I D).2.2 (u2l O Z) D oo];decide)]
   exact⟨_,rfl⟩
  obtain⟨y',h2⟩:=this
  exact⟨y'::l1,by unfold z3g;rw[h2];simp only;rw[h1]⟩
theorem v9k {p:MSt}{d n:Int}(h:MVal p)(hd:d=0\/d=1)(O:∀k,(p.ys.getD k yn0).pe.length+4<=4096)(hc:CrB p.cr n)(hn:n+640<=1048576):∃q,z3l p d=.ok q/\CrB q.cr (n+640):=by
 have hi:=h.inv;obtain⟨l1,h1⟩:=y9e hi.B hd hi.rk (l:=p.ys) λy hy=>by
  obtain⟨k,Z,rfl⟩:=l29 hy;have e:p.ys.getD k yn0=p.ys[k]:=by rw[List.getD,l10 Z];rfl
  have:=O k;have D:=(hi.yn k (by rw[<-hi.ly];exact Z)).1;rw[e]at this D;exact⟨D,this⟩
 have hl:=y3h hi.B p.rk d;have a0:=hi.B.lb;obtain⟨l2,D,h3⟩:=x7g hc (λc I=>(y7f hi.B.nd I).2.2.2) (r:=z2g p.B p.rk d) oo;exact⟨{ p with ys:=l1,cr:=l2,rk:=p.rk+stI d },by unfold z3l;rw[h1];simp only;rw[D],CrB.mono (m:=n+640) h3 oo⟩
theorem x6l {r:Int}(hr:-4<=r/\r<=4):∀ {k:Nat} {p:MSt} {n:Int},MVal p->(∀j,(p.ys.getD j yn0).pe.length+4*k<=4096)->CrB p.cr n->n+640*k<=1048576->∃q,z3p k p r=.ok q/\CrB q.cr (n+640*k)
 | 0,p,n,_,_,hc,_=>⟨p,rfl,hc.mono sp0⟩
 | k+1,p,n,h,hpe,hc,hn=>by
  unfold z3p
  by_cases e0:p.rk=r
  ·rw[if_pos e0];exact⟨p,rfl,hc.mono oo⟩
  rw[if_neg e0]
  have a0:=h.inv.rk
  have hd:(if r<p.rk then 0 else 1:Int)=0\/(if r<p.rk then 0 else 1:Int)=1:=by split<;>simp
  have Z:-4<=p.rk+stI (if r<p.rk then 0 else 1)/\p.rk+stI (if r<p.rk then 0 else 1)<=4:=by
   unfold stI;split
   ·rw[if_pos U];omega
   rw[if_neg dd];omega
  obtain⟨q,I,h2⟩:=v9k h hd (λj=>by have:=hpe j;omega) hc oo
  have D:=I
  unfold z3l at D
  split at D
  ·cases D
  rename_i ys a1
  split at D
  ·cases D
  have hm:=x8o h.inv.B hd a0 a1
  have O:q.ys=ys:=by cases D;rfl
  obtain⟨q2,h3,h4⟩:=x6l (k:=k) hr (y0b h Z I) (λj=>by rw[O];have:=hm j;have:=hpe j;omega) h2 oo
  rw[I]
  exact⟨q2,h3,h4.mono oo⟩
theorem u3r {r:Int}:∀ {k:Nat} {p q:MSt},(p.rk-r<=k/\r-p.rk<=k)->z3p k p r=.ok q->q.rk=r
 | 0,p,q,h,e=>by cases e;omega
 | k+1,p,q,h,e=>by
  unfold z3p at e
  by_cases e0:p.rk=r
  ·rw[if_pos e0]at e;cases e;exact e0
  rw[if_neg e0]at e
  split at e
  ·cases e
  rename_i I D
  refine u3r ?_ e
  rw[y8p D]
  unfold stI
  split
  ·rw[if_pos U];omega
  rw[if_neg dd];omega
end Go.G09
namespace Go.G26
open Go.Lw Go.G21 Go.G08 Go.G09
theorem y0w {p:MSt}{d x:Int}(hB:BdOk p.B)(hd:d=0\/d=1):∀ {l:List Yn},(∀y∈l,y0z y)->z3g p d l=.error x->x=3
 | [],_,e=>by cases e
 | y::l,hl,e=>by
  unfold z3g at e
  split at e
  ·rename_i z O
   cases e
   unfold z6g at O
   split at O
   ·cases O
   rename_i a0
   split at O
   ·cases O
    have Z:=hl y l35
    rename_i D
    unfold goE at D ⊢
    have I:y.inn=true:=by simpa using a0
    have a1:x2y y.pl:=by
     have h2:=Z.2
     rw[if_pos I]at h2
     exact h2.1
    rw[j1v Z,if_neg dd,if_neg (λh=>h a1),if_neg (λh=>h<|u2l hB hd),if_neg (by rw[I];decide)]at D ⊢
    split
    ·rfl
    rename_i h4;rw[if_neg h4]at D;exact absurd U D
   cases O
  split at e
  ·rename_i z O
   cases e
   exact y0w hB hd (λy Z=>hl y<|l36 _ Z) O
  cases e
theorem u8g {p:MSt}{l:List MOp}{x:Int}(e:z1w p l=.error x):x≠0:=λD=>by
 subst D
 unfold z1w at e
 split at e
 ·cases e
 split at e
 ·cases e
 split at e
 ·cases e
 split at e
 ·rename_i y I
  split at e
  ·cases e
  exact v3s (n:=y.2) (e:=y.1) I<|Except.error.inj e
 split at e<;>cases e
theorem z9a {p q:MSt}{l:List MOp}{u:List Int}(e:z1w p l=.ok (u,q)):isP l=true/\l.length<=4096/\p.B.flat.length<=8/\z2u 0 p l=.ok q:=by
 unfold z1w at e;split at e;cases e;rename_i D;split at e;cases e;split at e;cases e;split at e;split at e<;>cases e
 rename_i q' I;split at e;cases e;cases e;exact⟨by simpa using D,oo,oo,I⟩
theorem z5i {p q:MSt}{l:List MOp}{u:List Int}(hv:MVal p)(e:z1w p l=.ok (u,q)):u.length<=64/\(z4k p (z3n p,[]) l).2=u/\(∀k∈u,1<=k.natAbs/\k.natAbs<(z3n p).length)/\(z3n p=[]->u=[])/\(z3n q).length=(z3n p).length:=by
 obtain⟨h1,h2,h3,h4⟩:=z9a e;obtain⟨w,I,O,Z,a4,a5,a6,-⟩:=x1r hv h1 h4 h2 h3 U;have hl:w.length<=64:=Nat.le_of_not_lt λD=>by rw[O D]at e;cases e
 rw[Z hl]at e;cases e;exact⟨hl,I,a4,λD=>a5 (by rw[D];rfl),a6⟩
theorem v9z {p q:MSt}{l:List MOp}(hv:MVal p)(hs:isP l=true)(O:l.length<=4096)(Z:p.B.flat.length<=8)(hr:z2u 0 p l=.ok q):z1w p l=.error 3\/∃u,z1w p l=.ok (u,q):=by
 obtain⟨w,-,D,I,-⟩:=x1r hv hs hr O Z U;by_cases c:64<w.length;exact .inl<|D c;exact .inr ⟨w,I oo⟩
theorem u2o {p:MSt}(D:MVal p)(I:p.B.flat.length<=8):z1w p []=.ok ([],p):=by
 rcases v9z (q:=p) D (l:=[]) U sp0 I U with h|⟨u,h⟩
 unfold z1w at h;rw[if_neg dd,if_neg sp0,if_neg oo]at h;simp only[z2u]at h;unfold y1h at h;split at h;rename_i e;split at e<;>cases e
 cases h;have O:=z5i D h;rw[show u=[] from O.2.1.symm]at h;exact h
theorem y2a (p:MSt):(z3n p).length=p.B.flat.length:=by unfold z3n;rw[l18,(z8t _ _).length_eq,z9k]
end Go.G26
namespace Go.Proofs.YtkafbfjmcigaiaaGreatDoor
open Go.Lw Go.G21 Go.G08 Go.G09 Go.G26 _root_.Go.Proofs.Tryz
theorem v5b {w':World}{p:MSt}{l:List MOp}{N base:Nat}{A:Option Addr}{ws:List Int}{s':StQ}{e:Int}(D:BrR w' p l N base A ws s' e):(∃x,z1w p l=.error x/\e=x/\x≠0/\ws=[]/\s'=stZ)\/(∃q,z1w p l=.ok (ws,q)/\e=0/\StP s' q N):=by
 cases hX:z1w p l with
 | error x=>
  obtain⟨a,b,c⟩:=D.er x hX;exact .inl ⟨x,rfl,a,u8g hX,b,c⟩
 | ok r=>
  obtain⟨u,q⟩:=r;obtain⟨a,b,c⟩:=D.ok u q hX;subst b;exact .inr ⟨q,rfl,a,c⟩
theorem v9l {w':World}{p:MSt}{l:List MOp}{N base:Nat}{A:Option Addr}{ws:List Int}{s':StQ}{e:Int}(Z:BrR w' p l N base A ws s' e)(he:e≠0):z1w p l=.error e/\ws=[]/\s'=stZ:=by
 rcases v5b Z with ⟨x,I,D,-,O⟩|⟨q,-,D,-⟩
 subst D;exact⟨I,O⟩;exact absurd D he
theorem x9o {w':World}{p:MSt}{l:List MOp}{N base:Nat}{A:Option Addr}{ws:List Int}{s':StQ}{e:Int}(Z:BrR w' p l N base A ws s' e)(he:e=0):∃q,z1w p l=.ok (ws,q)/\StP s' q N:=by
 rcases v5b Z with ⟨x,-,D,O,-⟩|⟨q,I,-,D⟩
 exact absurd (D▸he) O;exact⟨q,I,D⟩
theorem j7i (s:StQ)(p q:MSt)(N:Nat)(A:Option Addr)(c:Nat)(l:List MOp)(mo:Int)(w0:World)(hS:StAt w0 s)(hP:StP s p N)(hv:Sl z3c w0 (.slice A l.length c) l)(I:StT w0)(hN:N+l.length<=1000)(h8:p.B.flat.length<=8)(a4:0<=mo):Rets prog 6 #[svv s,.slice A l.length c,.int .i64 mo] w0 λr w'=>(∃(m:Nat) (u:List Int) (q':MSt),m<=l.length/\r=.slice A m c/\z1w (nrm p) (l.take m)=.ok (u,q')/\(u.length:Int)<=mo)/\Fr [] w0 w':=by
 have a2:=x9j hv;obtain⟨_,c_,a3,a9⟩:=id hv.form;cases a3;refine wf func6 U ?_;have a1:=hS;have a6:=hv;have Z:=I;refine sr<|bx U<|λg3 w1 b0 O q1 z1=>(asg U<|nn<|sq<|bl<|lpK (ι:=Nat) (ll2 2 3) (λm=>[(1,.slice A m c)]) (λm w'=>Fr [] w1 w'/\m<=l.length) (λm=>m) l.length U ⟨l12 _ _,l20 _⟩ ?_);rintro m w2 ⟨D,hm⟩;have z2:=D.size;refine kpC (ll3 2 3 1) U<|sq<|sr<|mv U<|lnS U<|gt' U<|nn<|cd U (λc0=>?_)<|λc0=>?_;refine sk<|tn<|bl<|sr ?_;have O:=O.ext D;refine z0l U O z8i<|mv U ?_;have hv:=a6.ext<|q1.n1 D;have a7:=hv.take U (m:=m) hm (B:=A) (c':=c) oo a2<|λ_=>rfl;have hS:=a1.ext<|q1.n1 D;have I:=Z.ext<|q1.n1 D;refine cl (ev2 U) v9p (z5n s p N _ (l.take m) _ hS hP t19 a7 I) ?_;rintro _ w3 ⟨⟨A7,ws,t8,e9,rfl,hB⟩,q3⟩;have z3:=q3.size;have a8:=hB.o.sl.len_le;unfold maxLen at a8;refine mv U<|xt U<|xt U<|xt U<|al y5r U<|λg8 w4 b1 a0 q4 z4=>(asg U<|z0j (vs:=[_,_,_,_,_,_,_,_]) U a0 z9q<|λw5 a0 q5 z5=>(asg U<|kpL (ll5 1 2 3 7 9) U<|nn<|sq<|sq<|rbo (r:=27) (L':=ll3 1 2 3) (((e9=0)/\((ws.length:Int)<=mo))) U ?_ ?_));refine mv U<|eq' U<|mv U<|gs 22 U (λg0=>?_)<|λg0=>?_;exact gY U<|mv U<|gY U<|lnS U<|gY U<|mv U<|gY U<|le' U U<|pkt U<|rbe U<|U;exact gN U<|gN U<|gN U<|gN U<|pkf U<|rbe U<|U;refine tn<|cd U (λc1=>?_)<|λc1=>?_;obtain⟨q',a5,-⟩:=x9o hB c1.1;exact ex<|te<|xo U<|te<|xh<|tn<|sr<|mv U<|asg U<|nn<|rt<|r1 U ⟨_,rfl,⟨m,ws,q',hm,rfl,a5,c1.2⟩,(q1.z4 D q3 q4 q5)⟩;exact sk<|tn<|rg<|mv U<|mv U<|lnS U<|z2i U (wi6 oo)<|v2p (p:=(m-1)) U U y2n U<|asg U<|kpL (ll3 1 2 3) U<|nl<|bn'<|lpE ((m-1)) U ⟨(D.z3 q3 q4 q5),oo⟩ oo;obtain rfl:m=0:=by omega
 exact ex<|te<|te<|xh<|tn<|sr<|mv U<|asg U<|nn<|rt<|r1 U ⟨_,rfl,⟨0,[],nrm p,l16 _,rfl,by rw[l90];exact u2o (z2v hP.v) h8,by simpa using a4⟩,(q1.n1 D)⟩
def SamR (K:List Int->List Int->Prop)(p:MSt)(l1 l2:List MOp)(b:Bool)(f:Int):Prop:=(∀x,z1w (nrm p) l1=.error x->f=x)/\∀u q,z1w (nrm p) l1=.ok (u,q)->(∀x,z1w (nrm p) l2=.error x->f=x)/\∀v r,z1w (nrm p) l2=.ok (v,r)->f=0/\(q.rk=r.rk->z1x q.B.f=z1x r.B.f->z1x q.B.b=z1x r.B.b->K u v->b=true)
theorem SamR.e1 {K:List Int->List Int->Prop}{p:MSt}{l1 l2:List MOp}{b:Bool}{f:Int}(h:z1w (nrm p) l1=.error f):SamR K p l1 l2 b f:=⟨λx I=>(by rw[h]at I;cases I;rfl),λu q D=>(by rw[h]at D;cases D)⟩
theorem SamR.e2 {K:List Int->List Int->Prop}{p q:MSt}{l1 l2:List MOp}{b:Bool}{u:List Int}{f:Int}(h1:z1w (nrm p) l1=.ok (u,q))(h:z1w (nrm p) l2=.error f):SamR K p l1 l2 b f:=
 ⟨λx D=>(by rw[h1]at D;cases D),λ_ _ _=>⟨λx D=>(by rw[h]at D;cases D;rfl),λv r I=>(by rw[h]at I;cases I)⟩⟩
theorem SamR.ok {K:List Int->List Int->Prop}{p q r:MSt}{l1 l2:List MOp}{b:Bool}{u v:List Int}(h1:z1w (nrm p) l1=.ok (u,q))(I:z1w (nrm p) l2=.ok (v,r))(h:q.rk=r.rk->z1x q.B.f=z1x r.B.f->z1x q.B.b=z1x r.B.b->K u v->b=true):SamR K p l1 l2 b 0:=
 ⟨λx D=>(by rw[h1]at D;cases D),λu' q' O=>⟨λx D=>(by rw[I]at D;cases D),λv' r' Z=>(by rw[h1]at O;rw[I]at Z;cases O;cases Z;exact⟨rfl,h⟩)⟩⟩
theorem x7j {s:StQ}{p:MSt}{N:Nat}(h:StP s p N):plB s.q.fs=p.B.f/\plB s.q.bs=p.B.b:=⟨congrArg Bd.f h.BE,congrArg Bd.b h.BE⟩
theorem u9f (s:StQ)(p:MSt)(N:Nat)(v v2:Value)(l l2:List MOp)(w0:World)(hS:StAt w0 s)(hP:StP s p N)(hn:N+l.length<=1000)(j6:N+l2.length<=1000)(hv:Sl z3c w0 v l)(b9:Sl z3c w0 v2 l2)(b1:StT w0)(h8:p.B.flat.length<=8)(K:List Int->List Int->Prop)(h7:∀u v (c d:BrN s.q.p.flat.length),(1<=s.q.p.flat.length/\s.q.p.flat.length<=8)->k8s s.q.p.flat.length u->k8s s.q.p.flat.length v->K u v->Cn (fac s.q.p.flat.length u) c->Cn (fac s.q.p.flat.length v) d->c=d):Rets prog 14 #[svv s,v,v2] w0 λr w'=>(∃(b:Bool) (f:Int),r=.tuple #[.bool b,.int .i64 f]/\SamR K p l l2 b f)/\Fr [] w0 w':=by
 obtain⟨A,c,rfl,m3⟩:=id hv.form;obtain⟨A2,e3,rfl,k2⟩:=id b9.form;have d4:s.q.p=p.B:=hP.BE;have g5:BdOk s.q.p:=d4▸hP.v.inv.B;obtain⟨⟨hf,hb⟩,h4,g1⟩:=z3f g5;have f0:(z3n<|nrm p).length=s.q.p.flat.length:=by rw[y2a,d4];rfl
 refine wf func14 U ?_;have d5:=hS;have j8:=hv;have f4:=b9;have d1:=b1;refine sr<|bx U<|λg3 w1 m4 a1 q1 z1=>(asg U<|asg U<|nn<|sr<|z0l U a1 z8i<|mv U ?_);have hS:=d5.ext q1;have hv:=j8.ext q1;have b1:=d1.ext q1;refine cl (ev2 U) v9p (z5n s p N _ l _ hS hP hn hv b1) ?_;rintro _ w2 ⟨⟨A8,ws,t9,l8,rfl,hB⟩,q2⟩;have e0:=hB.o.sl;have d7:=hB.k.at;have z2:=q2.size;have e7:=e0;have e6:=d7;refine mv U<|xt U<|xt U<|xt U<|al y5r U<|λg9 w3 m5 a4 q3 z3=>(asg U<|z0j (vs:=[_,_,_,_,_,_,_,_]) U a4 z9q<|λw4 a4 q4 z4=>(asg U<|kpL (ll5 2 3 8 9 10) U<|nn<|sq<|sr<|mv U<|ne' U<|nn<|cd U (λc0=>?_)<|λc0=>?_));obtain⟨i2,-⟩:=v9l hB c0;exact sr<|mv U<|asg U<|asg U<|kpL (ll2 6 7) U<|nn<|rt<|tr<|r2 U U U ⟨_,rfl,⟨_,_,rfl,SamR.e1 i2⟩,(q1.z3 q2 q3 q4)⟩;obtain⟨qx,hX,I⟩:=x9o hB<|l15.1 c0;obtain⟨f5,-,b3,k7,-⟩:=z5i (z2v hP.v) hX;rw[f0]at b3;refine sk<|tn<|sr ?_;have a1:=(a1.ext<|q2.n1 q3).fr q4;refine z0l U a1 z8i<|mv U ?_;have hS:=d5.ext<|q1.z3 q2 q3 q4;have b9:=f4.ext<|q1.z3 q2 q3 q4;have b1:=d1.ext<|q1.z3 q2 q3 q4;refine cl (ev2 U) v9p (z5n s p N _ l2 _ hS hP j6 b9 b1) ?_;rintro _ w5 ⟨⟨l1,j9,f7,l9,rfl,b5⟩,q5⟩;have b0:=b5.o.sl;have a9:=b5.k.at;have z5:=q5.size;have d9:=b0;have d6:=a9;refine mv U<|xt U<|xt U<|xt U<|al y5r U<|λm0 w6 k4 a2 q6 z6=>(asg U<|z0j (vs:=[_,_,_,_,_,_,_,_]) U a2 z9q<|λw7 a2 q7 z7=>(asg U<|kpL (ll6 3 8 9 10 11 12) U<|nn<|sq<|sr<|mv U<|ne' U<|nn<|cd U (λc1=>?_)<|λc1=>?_));obtain⟨i3,-⟩:=v9l b5 c1;exact sr<|mv U<|asg U<|asg U<|kpL (ll2 6 7) U<|nn<|rt<|tr<|r2 U U U ⟨_,rfl,⟨_,_,rfl,SamR.e2 hX i3⟩,(q1.z6 q2 q3 q4 q5 q6 q7)⟩;obtain⟨qy,hY,O⟩:=x9o b5<|l15.1 c1;obtain⟨f6,-,b4,k8,-⟩:=z5i (z2v hP.v) hY;rw[f0]at b4;have g6:BdOk t9.q.p:=I.BE▸I.v.inv.B;have g7:BdOk f7.q.p:=O.BE▸O.v.inv.B;obtain⟨⟨j4,j2⟩,g4,e4⟩:=z3f g6;obtain⟨⟨j5,j3⟩,-,-⟩:=z3f g7;refine sk<|tn<|sq<|sr<|fad U y2s ?_;have a4:=(a4.ext<|q5.n1 q6).fr q7;refine z0i U a4 U na3<|fad U y2s<|z0i U a2 U na3<|ne' U<|mv U<|gs 41 U (λg0=>?_)<|λg0=>?_;exact gN U<|gN U<|gN U<|gN U<|gN U<|gN U<|pkt U<|kpL (ll4 3 8 11 48) U<|nn<|ct U<|sr<|asg U<|asg U<|nn<|rt<|tr<|r2 U U U ⟨_,rfl,⟨_,_,rfl,SamR.ok hX hY (λh1 h2 h3 _=>by first|exact absurd (I.rkE.trans<|h1.trans O.rkE.symm) g0|exact absurd (e9 (by rw[(x7j I).1,(x7j O).1];exact h2) (by rw[(x7j I).2,(x7j O).2];exact h3)) (by simpa using c2))⟩,(q1.z6 q2 q3 q4 q5 q6 q7)⟩;refine gY U<|fad U z7f<|gY U<|z1u (vs:=[_,_]) U a4 z4y U<|gY U<|fad U z7f<|gY U<|z1u (vs:=[_,_]) U a2 z4y U<|gY U ?_;have d7:=e6.ext<|q3.z4 q4 q5 q6 q7;have a9:=d6.ext<|q6.z1 q7;refine cl (ev2 U) cO (v7b t9.q f7.q _ d7.b a9.b j4 j5 g4 j2 j3 e4) ?_;rintro _ w8 ⟨⟨l6,rfl,e9⟩,q8⟩;have z8:=q8.size;refine gY U<|nt' U<|pkf U<|kpL (ll4 3 8 11 48) U<|nn<|cd U (λc2=>?_)<|λc2=>?_;exact sr<|asg U<|asg U<|nn<|rt<|tr<|r2 U U U ⟨_,rfl,⟨_,_,rfl,SamR.ok hX hY (λh1 h2 h3 _=>by first|exact absurd (I.rkE.trans<|h1.trans O.rkE.symm) g0|exact absurd (e9 (by rw[(x7j I).1,(x7j O).1];exact h2) (by rw[(x7j I).2,(x7j O).2];exact h3)) (by simpa using c2))⟩,((q1.z6 q2 q3 q4 q5 q6 q7).n1 q8)⟩;refine sk<|tn<|sr<|fad U z7f ?_;have a1:=((a1.ext<|q5.n1 q6).fr q7).ext q8;refine z1u (vs:=[_,_]) U a1 z4y U ?_;have hS:=d5.ext<|(q1.z6 q2 q3 q4 q5 q6 q7).n1 q8;refine cl (ev1 U) cO (y3r s.q _ hS.b hf hb h4 g1) ?_;rintro _ w9 ⟨rfl,q9⟩;have z9:=q9.size;refine asg U<|nn<|sq<|sr<|mv U<|eq' U<|nn<|cd U (λc3=>?_)<|λc3=>?_;exact sr<|asg U<|asg U<|nn<|rt<|tr<|r2 U U U ⟨_,rfl,⟨_,_,rfl,SamR.ok hX hY<|λ_ _ _ _=>rfl⟩,(((q1.z6 q2 q3 q4 q5 q6 q7).n1 q8).n1 q9)⟩;have b8:1<=s.q.p.flat.length/\s.q.p.flat.length<=8:=⟨oo,by rw[d4];exact h8⟩;refine sk<|tn<|sr<|mv U<|mv U ?_;have e0:=e7.ext<|q3.z6 q4 q5 q6 q7 q8 q9;refine cl (ev2 U) cO (u3k s.q.p.flat.length _ ws _ e0 b8 f5 b3) ?_;rintro _ m8 ⟨⟨m6,f8,rfl,h9,g8,i4,i7,i9⟩,q10⟩;have o2:=q10.size;obtain⟨k9,f1,G1,rfl,a0,b6,h5,d3⟩:=h9;obtain⟨l3,l7,rfl,k0⟩:=a0.sl.form;have f3:=λk (hk:k∈z0v _)=>(a0.blk k hk).2;have e8:=λx (hx:x∈f1)=>((b6.r x hx).blk x t10).2;refine mv U<|xt U<|xt U<|al k8v U<|λm1 m9 k5 Z c9 o3=>(z0j (vs:=[_,_,_]) U Z k8n<|λn7 Z d0 o4=>(asg U<|kpL (ll4 10 11 13 14) U<|nn<|sq<|sr<|mv U<|ne' U<|nn<|cd U (λc4=>?_)<|λc4=>?_));exact absurd U c4;refine sk<|tn<|sr<|mv U<|mv U ?_;have b0:=d9.ext<|q6.z6 q7 q8 q9 q10 c9 d0;refine cl (ev2 U) cO (u3k s.q.p.flat.length _ j9 _ b0 b8 f6 b4) ?_;rintro _ n8 ⟨⟨m7,f9,rfl,i0,h0,i5,i8,j0⟩,q13⟩;have o5:=q13.size;obtain⟨l0,f2,G2,rfl,a3,b7,h6,e5⟩:=i0;obtain⟨l4,e3,rfl,k1⟩:=a3.sl.form;have j7:=λk (hk:k∈z0v _)=>(a3.blk k hk).2;have i1:=λx (hx:x∈f2)=>((b7.r x hx).blk x t10).2;refine mv U<|xt U<|xt U<|al k8v U<|λm2 n9 k6 b2 a5 o6=>(z0j (vs:=[_,_,_]) U b2 k8n<|λo0 b2 a6 o7=>(asg U<|kpL (ll3 10 14 15) U<|nn<|sq<|sr<|mv U<|ne' U<|nn<|cd U (λc5=>?_)<|λc5=>?_));exact absurd U c5;refine sk<|tn<|sr ?_;have Z:=(Z.ext<|q13.n1 a5).fr a6;refine z0l U Z k8o<|z0l U b2 k8o ?_;have a0:=(((a0.ext c9).fr d0 (by intro k hk D;rw[l11.1 hk]at D;have a7:=(a0.blk _ D).1;have a8:=f3 _ D;omega)).ext<|q13.n1 a5).fr a6 (by intro k hk D;rw[l11.1 hk]at D;have a7:=(a0.blk _ D).1;have a8:=f3 _ D;omega);have b6:=(((b6.ext c9).fr d0 (λk hk hh=>by rw[l11.1 hk]at hh;have a7:=d3 _ hh;have a8:=e8 _ hh;omega)).ext<|q13.n1 a5).fr a6 (λk hk hh=>by rw[l11.1 hk]at hh;have a7:=d3 _ hh;have a8:=e8 _ hh;omega);have a3:=(a3.ext a5).fr a6 (by intro k hk D;rw[l11.1 hk]at D;have a7:=(a3.blk _ D).1;have a8:=j7 _ D;omega);have b7:=(b7.ext a5).fr a6 (λk hk hh=>by rw[l11.1 hk]at hh;have a7:=e5 _ hh;have a8:=i1 _ hh;omega);refine cl (ev2 U) cO (u6k s.q.p.flat.length _ _ _ _ f8 f9 _ ⟨_,f1,G1,rfl,a0,b6,h5,d3⟩ ⟨_,f2,G2,rfl,a3,b7,h6,e5⟩ b8.2 oo) ?_;rintro _ o1 ⟨⟨l5,rfl,j1⟩,q16⟩;have o8:=q16.size;exact asg U<|asg U<|kpL (ll2 6 7) U<|nn<|rt<|r2 U U U ⟨_,rfl,⟨_,_,rfl,SamR.ok hX hY<|λ_ _ _ hE=>j1<|h7 _ _ _ _ b8 b3 b4 hE g8 h0⟩,(((((q1.z6 q2 q3 q4 q5 q6 q7).n1 q8).n1 q9).z6 q10 c9 d0 q13 a5 a6).next q16)⟩
end Go.Proofs.YtkafbfjmcigaiaaGreatDoor
namespace Go.G09
open Go.Lw Go.G21 Go.G08
theorem j5x {b n r:Int}(hn:z3m b n=0)(D:-4<=r/\r<=4):(z2b b n r=if b=0 then 4*n+2 else 4*(n+r))/\-12<=z2b b n r/\z2b b n r<=176/\z2b b n r % 2=0:=by
 obtain⟨Z,I,O⟩:=z2t hn;have e:z2b b n r=if b=0 then 4*n+2 else 4*(n+r):=by
  unfold z2b;rw[if_neg (by rintro(h|h);exact h hn;exact h D)]
 refine⟨e,?_⟩;rw[e];split<;>omega
theorem y6e {p:MSt}{o:MOp}(hn:z3m o.b o.p=0)(D:-4<=p.rk/\p.rk<=4):x2y (z7b p o):=by
 obtain⟨_,I,O,Z⟩:=j5x hn D;unfold z7b x2y;split<;>refine⟨?_,oo,oo⟩<;>intro e<;>have:=Int.dvd_of_tmod_eq_zero e<;>omega
theorem q1s {B:Bd}(I:BdOk B){r f t:Int}:v7e (btw (z2m B r) f t):=λq D=>by
 refine⟨I.nm _<|v7m D,?_⟩
 unfold btw at D
 split at D
 ·obtain⟨h,_,rfl⟩:=l55.1 D;exact .inr U
 obtain⟨h,_,rfl⟩:=l55.1<|l120.1 D;exact .inl U
theorem y5y {p:MSt}{y pl en:Int}(h:MInv p)(hy:1<=y/\y<=6)(I:x2y pl)(D:(p.y y).inn=true)(O:(p.y y).pe.length+p.B.flat.length<=4096) :
    z8x p y pl en=.ok (p.setY y<|goS (p.y y) pl<|y1r p y en):=by
  refine j7d<|j9i (h.yn (y-1).toNat oo).1 I (q1s h.B) D ?_
  have Z:=z5u (y1r p y en) (p.y y).pe
  have h2:(y1r p y en).length<=p.B.flat.length:=x3s
  omega
structure Mk (p q:MSt) (o:MOp) (st:List LId):Prop where
  rk:q.rk=p.rk
  B:q.B=p.B.put o.b o.p (st++[⟨o.y,(p.y o.y).ct⟩])
  tb:∃th pe,q.tb=p.tb.set (o.y-1).toNat (p.row o.y++[⟨o.b,(p.y o.y).nw,th,pe⟩])
  ys:q.ys=p.ys.set (o.y-1).toNat ⟨true,z7b p o,(p.y o.y).ct+1,false,[]⟩
  cr:q.cr=p.cr
  fa:q.fa=p.fa
theorem j3e {p:MSt}(h:MInv p){o:MOp}(hy:1<=o.y/\o.y<=6)(hn:z3m o.b o.p=0)(D:(p.y o.y).inn=true)(a1:(p.y o.y).ct<2048)(a0:z4x p.tb<2048)(Z:(p.y o.y).pe.length+p.B.flat.length<=4096)(th st:List LId) :
    ∃q,y1m (p.setY o.y<|goS (p.y o.y) (z7b p o)<|y1r p o.y<|z2b o.b o.p p.rk) o th st=.ok q/\Mk p q o st:=by
  have hl:(o.y-1).toNat<p.ys.length:=by rw[h.ly];omega
  have hc:=y5y (en:=z2b o.b o.p p.rk) h hy (y6e hn h.rk) D Z
  have hi:=(y1u h hy hc).1
  have I:(p.setY o.y<|goS (p.y o.y) (z7b p o)<|y1r p o.y<|z2b o.b o.p p.rk).y o.y=goS (p.y o.y) (z7b p o) (y1r p o.y<|z2b o.b o.p p.rk):=u3y hl
  have O:y0z ((p.setY o.y<|goS (p.y o.y) (z7b p o)<|y1r p o.y<|z2b o.b o.p p.rk).y o.y):=(hi.yn (o.y-1).toNat oo).1
  have hm:mkE (goS (p.y o.y) (z7b p o)<|y1r p o.y<|z2b o.b o.p p.rk)=0:=by
    unfold mkE
    rw[<-I,if_neg (by rw[j1v O];decide),I]
    rw[if_neg (by show ¬(p.y o.y).inn=false;rw[D];decide),if_neg (by show ¬(p.y o.y).ct=2048;omega)]
  unfold y1m
  rw[I,if_neg (by rw[hm];decide),if_neg (by show ¬2048<=z4x p.tb;omega)]
  refine⟨_,rfl,rfl,rfl,⟨th,_,rfl⟩,?_,rfl,rfl⟩
  show (p.ys.set _ _).set _ _=_
  rw[List.set_set]
  rfl
theorem x4m {p:MSt}(h:MInv p){o:MOp}(hc:z8v o=0)(hk:o.k=4)(hb:z5z p o=0)(D:(p.y o.y).inn=true)(Z:(p.y o.y).ct<2048)(O:z4x p.tb<2048)(I:(p.y o.y).pe.length+p.B.flat.length<=4096) :
    ∃q,doM p o=.ok q/\Mk p q o []:=by
  obtain⟨_,_,f3,_,f5,_⟩:=z3u hc
  have hy:=f3 oo;have hn:=f5 oo
  rw[y1p hc]
  unfold opM
  rw[if_neg oo,if_neg oo,if_neg oo,if_pos hk]
  unfold y0f
  rw[if_neg (by rw[hb];decide),y5y h hy (y6e hn h.rk) D I]
  exact j3e h hy hn D Z O I _ _
theorem v8w {p:MSt}(h:MInv p){o:MOp}(hc:z8v o=0)(hk:o.k=5)(hb:z5z p o=0)(D:(p.y o.y).inn=true)(Z:(p.y o.y).ct<2048)(O:z4x p.tb<2048)(I:(p.y o.y).pe.length+p.B.flat.length<=4096)(a0:(p.B.at o.b o.p).length<4) :
    ∃q,doM p o=.ok q/\Mk p q o (p.B.at o.b o.p):=by
  obtain⟨_,_,f3,_,f5,_⟩:=z3u hc
  have hy:=f3 oo;have hn:=f5 oo
  rw[y1p hc]
  unfold opM
  rw[if_neg oo,if_neg oo,if_neg oo,if_neg oo,if_pos hk]
  unfold z9w
  rw[if_neg (by rw[hb];decide),y5y h hy (y6e hn h.rk) D I]
  simp only
  rw[if_neg (by show ¬4<=(p.B.at o.b o.p).length;omega)]
  exact j3e h hy hn D Z O I _ _
theorem k0w {p:MSt}(h:MInv p){o:MOp}(O:z8v o=0)(Z:o.k=1)(D:(p.y o.y).inn=false):doM p o=.ok (p.setY o.y<|enS (p.y o.y) o.d):=by
 obtain⟨_,f2,f3,_,_,_⟩:=z3u O;have hy:=f3 oo;rw[y1p O];unfold opM inM;have he:enE (p.y o.y) o.d=0:=by
  have I:y0z (p.y o.y):=(h.yn (o.y-1).toNat oo).1;unfold enE;rw[if_neg (by rw[j1v I];decide),if_neg (λx=>x<|f2 Z),if_neg (by rw[D];decide)]
 rw[if_pos Z,if_neg (by rw[he];decide)]
theorem u5o {p:MSt}(h:MInv p){o:MOp}(O:z8v o=0)(hk:o.k=2)(D:(p.y o.y).inn=true):doM p o=.ok (p.setY o.y<|lvS<|p.y o.y):=by
 obtain⟨_,_,Z,_,_,_⟩:=z3u O;have hy:=Z oo;rw[y1p O];unfold opM x7f;have he:lvE (p.y o.y)=0:=by
  have I:y0z (p.y o.y):=(h.yn (o.y-1).toNat oo).1;unfold lvE;rw[if_neg (by rw[j1v I];decide),if_neg (by rw[D];decide)]
 rw[if_neg oo,if_pos hk,if_neg (by rw[he];decide)]
theorem x6c {p:MSt}{o:MOp}{n:Int}(h:MVal p)(Z:z8v o=0)(hk:o.k=3)(O:∀j,(p.ys.getD j yn0).pe.length+32<=4096)(I:CrB p.cr n)(hn:n+5120<=1048576) :
    ∃q,doM p o=.ok q/\q.rk=o.r/\q.B=p.B/\(∀j,(q.ys.getD j yn0).pe.length<=(p.ys.getD j yn0).pe.length+32)/\CrB q.cr (n+5120):=by
  obtain⟨_,_,_,_,_,f6⟩:=z3u Z
  have hr:=f6 hk
  have a0:=h.inv.rk
  obtain⟨q,D,h2⟩:=x6l (r:=o.r) hr (k:=8) h (λj=>by have:=O j;omega) I oo
  obtain⟨h3,h4⟩:=v7i hr h.inv D
  refine⟨q,?_,u3r oo D,h3,λj=>by have:=h4 j;omega,h2.mono oo⟩
  rw[y1p Z]
  unfold opM
  rw[if_neg oo,if_neg oo,if_pos hk]
  exact D
end Go.G09
namespace Go.G26
open Go.Lw Go.G21 Go.G08 Go.G09
theorem y7p {D p q:MSt}{o:MOp}:∀ {l:List MOp} {i:Nat},z2u i D l=.ok p->doM p o=.ok q->z2u i D (l++[o])=.ok q
 | [],i,h,e=>by cases h;show z2u i D [o]=_;unfold z2u;rw[e];rfl
 | x::l,i,h,e=>by
  rw[l48]
  unfold z2u at h ⊢
  split at h
  ·cases h
  rename_i O I
  exact y7p h e
structure RI (p:MSt) (b:Int) (m:Nat):Prop where
  v:MInv p
  rk:p.rk=0
  inn:(p.y 1).inn=true
  pl:(p.y 1).pl<=b
  pe:(p.y 1).pe.length<=6
  cnt:z4x p.tb<=m
theorem v2c:∀n:Nat,n<16->z8v (opS 4 1 n)=0/\z8v (opS 6 0 n)=0/\z8v (opS 5 1 n)=0/\z2b (bdS n) (10+((n / 2:Nat):Int)) 0=40+2*(n:Int)/\z3m (bdS n) (10+((n / 2:Nat):Int))=0:=by decide +kernel
theorem RI.fl {p:MSt}{b:Int}{m:Nat}(h:RI p b m):p.B.flat.length<=m:=by have:=h.v.cnt;have:=h.cnt;omega
theorem RI.ct {p:MSt}{b:Int}{m:Nat}(h:RI p b m):(p.y 1).ct<=m:=by
 have e:(p.y 1).ct=z3k p.tb 0:=(h.v.yn 0 oo).2;have D:=x9l p.tb 0;have:=h.cnt;rw[e];omega
theorem j9e {p q:MSt}{z:Yn}(h:MInv p)(e:q.ys=p.ys.set 0 z):q.y 1=z:=by
 unfold MSt.y;rw[e,List.getD,show ((1:Int)-1).toNat=0 from U,l122 (by rw[h.ly];omega)];rfl
theorem j5y {p:MSt}{n m:Nat}(h:RI p (40+2*(n:Int)) m)(hn:n<16)(hm:m<6) :
    ∃q,doM p (opS 4 1 n)=.ok q/\RI q (41+2*(n:Int)) (m+1)/\(q.y 1).pl=41+2*(n:Int)/\(q.B.at (bdS n)<|10+((n / 2:Nat):Int)).length=1:=by
  obtain⟨Z,_,_,h4,I⟩:=v2c n hn
  have O:z2b (opS 4 1 n).b (opS 4 1 n).p p.rk=40+2*(n:Int):=by rw[h.rk];exact h4
  have a1:=h.ct;have hfl:=h.fl;have a2:=h.pe;have a0:=h.cnt;have a3:=h.pl
  have hb:z5z p (opS 4 1 n)=0:=by
    unfold z5z
    rw[show (opS 4 1 n).y=1 from U,if_neg (by rw[h.inn];decide),if_pos (show (opS 4 1 n).d=1 from U),O,if_neg oo]
  obtain⟨q,e,k⟩:=x4m h.v Z U hb h.inn (show (p.y 1).ct<2048 by omega) oo (show (p.y 1).pe.length+_<=4096 by omega)
  have D:=j9e h.v k.ys
  have hp:z7b p (opS 4 1 n)=41+2*(n:Int):=by unfold z7b;rw[if_pos (show (opS 4 1 n).d=1 from U),O];omega
  refine⟨q,e,⟨z8m h.v e,k.rk.trans h.rk,by rw[D],by rw[D];show z7b p (opS 4 1 n)<=_;omega,by rw[D];exact l16 _,l42 (j4c e) oo⟩,by rw[D];exact hp,?_⟩
  rw[k.B]
  show ((p.B.put (bdS n) (10+((n / 2:Nat):Int)) _).at _ _).length=1
  rw[z5d _ I I,if_pos ⟨rfl,rfl⟩];rfl
theorem j6u {p:MSt}{n m:Nat}(h:RI p (41+2*(n:Int)) m)(hn:n<16)(hm:m<=6)(a1:(p.y 1).pl=41+2*(n:Int))(a0:(p.y 1).pe.length=0) :
    ∃q,doM p (opS 6 0 n)=.ok q/\RI q (40+2*(n:Int)) m/\q.B=p.B:=by
  obtain⟨_,O,_,Z,h5⟩:=v2c n hn
  have I:z2b (opS 6 0 n).b (opS 6 0 n).p p.rk=40+2*(n:Int):=by rw[h.rk];exact Z
  have hfl:=h.fl
  have hb:z5z p (opS 6 0 n)=0:=by
    unfold z5z
    rw[show (opS 6 0 n).y=1 from U,if_neg (by rw[h.inn];decide),if_neg (show ¬(opS 6 0 n).d=1 from (by decide:¬(0:Int)=1)),I,if_neg oo]
  have hp:z7b p (opS 6 0 n)=39+2*(n:Int):=by unfold z7b;rw[if_neg (show ¬(opS 6 0 n).d=1 from (by decide:¬(0:Int)=1)),I];omega
  have hc:=y5y (y:=1) (pl:=z7b p<|opS 6 0 n) (en:=z7b p<|opS 6 0 n) h.v oo (y6e h5 h.v.rk) h.inn oo
  have e:doM p (opS 6 0 n)=.ok (p.setY 1<|goS (p.y 1) (z7b p<|opS 6 0 n)<|y1r p 1<|z7b p<|opS 6 0 n):=by
    rw[y1p O]
    unfold opM
    rw[if_neg (show ¬(opS 6 0 n).k=1 from (by decide:¬(6:Int)=1)),if_neg (show ¬(opS 6 0 n).k=2 from (by decide:¬(6:Int)=2)),if_neg (show ¬(opS 6 0 n).k=3 from (by decide:¬(6:Int)=3)),if_neg (show ¬(opS 6 0 n).k=4 from (by decide:¬(6:Int)=4)),if_neg (show ¬(opS 6 0 n).k=5 from (by decide:¬(6:Int)=5)),if_pos (show (opS 6 0 n).k=6 from U)]
    unfold y1x
    rw[if_neg (by rw[hb];decide)]
    exact hc
  have D:(p.setY 1<|goS (p.y 1) (z7b p<|opS 6 0 n)<|y1r p 1<|z7b p<|opS 6 0 n).y 1=goS (p.y 1) (z7b p<|opS 6 0 n) (y1r p 1<|z7b p<|opS 6 0 n):=u3y (by rw[h.v.ly];decide)
  refine⟨_,e,⟨z8m h.v e,h.rk,by rw[D];exact h.inn,by rw[D];show z7b p (opS 6 0 n)<=_;omega,?_,h.cnt⟩,rfl⟩
  rw[D]
  have h6:=z5u (y1r p 1<|z7b p<|opS 6 0 n) (p.y 1).pe
  have h7:(y1r p 1<|z7b p<|opS 6 0 n).length<=p.B.flat.length:=x3s
  show (z3x _ _).length<=6
  omega
theorem k0z {p:MSt}{n m:Nat}(h:RI p (40+2*(n:Int)) m)(hn:n<16)(hm:m<6)(hl:(p.B.at (bdS n)<|10+((n / 2:Nat):Int)).length=1) :
    ∃q,doM p (opS 5 1 n)=.ok q/\RI q (41+2*(n:Int)) (m+1):=by
  obtain⟨_,_,O,Z,h5⟩:=v2c n hn
  have I:z2b (opS 5 1 n).b (opS 5 1 n).p p.rk=40+2*(n:Int):=by rw[h.rk];exact Z
  have a1:=h.ct;have hfl:=h.fl;have a2:=h.pe;have a0:=h.cnt;have a3:=h.pl
  have hb:z5z p (opS 5 1 n)=0:=by
    unfold z5z
    rw[show (opS 5 1 n).y=1 from U,if_neg (by rw[h.inn];decide),if_pos (show (opS 5 1 n).d=1 from U),I,if_neg oo]
  obtain⟨q,e,k⟩:=v8w h.v O U hb h.inn (show (p.y 1).ct<2048 by omega) oo (show (p.y 1).pe.length+_<=4096 by omega) (by show (p.B.at (bdS n)<|10+((n / 2:Nat):Int)).length<4;omega)
  have D:=j9e h.v k.ys
  have hp:z7b p (opS 5 1 n)=41+2*(n:Int):=by unfold z7b;rw[if_pos (show (opS 5 1 n).d=1 from U),I];omega
  exact⟨q,e,⟨z8m h.v e,k.rk.trans h.rk,by rw[D],by rw[D];show z7b p (opS 5 1 n)<=_;omega,by rw[D];exact l16 _,l42 (j4c e) oo⟩⟩
theorem x8s (n:Nat):∀(l:List Int) (s:List MOp×Nat),y9h n l s=s\/∃p,u5g n s.2 p/\y9h n l s=v0u n p s
 | [],s=>.inl U
 | p::r,s=>by
  unfold y9h
  split
  ·rename_i h;exact .inr ⟨p,h,rfl⟩
  exact x8s n r s
theorem RI.more {p:MSt}{b b':Int}{m:Nat}(h:RI p b m)(hb:b<=b'):RI p b' m:=⟨h.v,h.rk,h.inn,by have:=h.pl;omega,h.pe,h.cnt⟩
theorem u8q {n:Nat}{x:Int}{s:List MOp×Nat}(hn:n<16)(hm:s.2<6)(h:∃p,z2u 0 G08.start s.1=.ok p/\RI p (40+2*(n:Int)) s.2):∃p,z2u 0 G08.start (v0u n x s).1=.ok p/\RI p (42+2*(n:Int)) (v0u n x s).2:=by
 obtain⟨p,hp,D⟩:=h;obtain⟨q,e1,Z,I,O⟩:=j5y D hn hm;have r1:z2u 0 G08.start (s.1++[opS 4 1 n])=.ok q:=y7p hp e1;unfold v0u;split;rename_i c;obtain⟨q2,e2,a0,hB⟩:=j6u Z hn oo I (by
  have hy:=Z.pe;obtain⟨h1,_,_,h4,h5⟩:=v2c n hn;have hs:z2b (opS 4 1 n).b (opS 4 1 n).p p.rk=40+2*(n:Int):=by rw[D.rk];exact h4
  have a3:=D.ct;have hfl:=D.fl;have a4:=D.pe;have a2:=D.cnt;have I:=D.pl;have hb:z5z p (opS 4 1 n)=0:=by
   unfold z5z;rw[show (opS 4 1 n).y=1 from U,if_neg (by rw[D.inn];decide),if_pos (show (opS 4 1 n).d=1 from U),hs,if_neg oo]
  obtain⟨q',e',k⟩:=x4m D.v h1 U hb D.inn (show (p.y 1).ct<2048 by omega) oo (show (p.y 1).pe.length+_<=4096 by omega);rw[e1]at e';cases e';rw[j9e D.v k.ys];rfl)
 obtain⟨q3,e3,a1⟩:=k0z a0 hn oo (by rw[hB];exact O);refine⟨q3,?_,a1.more oo⟩;have r2:=y7p r1 e2;have r3:=y7p r2 e3;simpa[l14] using r3;exact⟨q,r1,Z.more oo⟩
theorem x4i (xs:List Int):∀n,n<=16->∃p,z2u 0 G08.start (z9j xs n).1=.ok p/\RI p (40+2*(n:Int)) (z9j xs n).2
 | 0,_=>by
  have e:∃p,doM G08.start ⟨1,0,0,0,1,0⟩=.ok p/\p=G08.start.setY 1 (enS (G08.start.y 1) 0):=⟨_,k0w y7v dd U dd,rfl⟩
  obtain⟨p,e,rfl⟩:=e
  have I:(G08.start.setY 1<|enS (G08.start.y 1) 0).y 1=enS (G08.start.y 1) 0:=u3y dd
  refine⟨_,by show z2u 0 G08.start [_]=_;unfold z2u;rw[e];rfl,z8m y7v e,rfl,by rw[I];rfl,by rw[I];show (if (0:Int)=1 then (179:Int) else -13)<=_;rw[if_neg dd];omega,by rw[I];exact l16 _,(by decide:z4x G08.start.tb<=0)⟩
 | n+1,h=>by
  obtain⟨p,Z,O⟩:=x4i xs n oo
  rcases x8s n (xs.take 6) (z9j xs n) with e|⟨x,hx,e⟩
  ·refine⟨p,by show z2u 0 G08.start (y9h n (xs.take 6)<|z9j xs n).1=_;rw[e];exact Z,?_⟩
   show RI p _ (y9h n (xs.take 6)<|z9j xs n).2
   rw[e];exact O.more oo
  obtain⟨q,hq,D⟩:=u8q (x:=x) (s:=z9j xs n) oo hx.2 ⟨p,Z,O⟩
  refine⟨q,by show z2u 0 G08.start (y9h n (xs.take 6)<|z9j xs n).1=_;rw[e];exact hq,?_⟩
  show RI q _ (y9h n (xs.take 6)<|z9j xs n).2
  rw[e];exact D.more oo
theorem u5l (xs:List Int):∃p,z2u 0 G08.start (j0n xs)=.ok p/\p.B.flat.length<=6/\p.rk=0:=by
 obtain⟨p,O,D⟩:=x4i xs 16<|l20 _;have I:=(y6g xs 16).2;have e:=u5o (o:=⟨2,0,0,0,1,0⟩) D.v dd U D.inn;exact⟨_,y7p O e,l42 D.fl I,D.rk⟩
theorem u8m (o:List LId)(w v:List Int)(c:Cx):y7m (o,w++v) c=((y7m (o,v) c).1,w++(y7m (o,v) c).2):=by
 unfold y7m;cases nbr o c.a c.b with
 | none=>rfl
 | some n=>simp only[l14]
theorem v2z:∀(cs:List Cx) (o:List LId) (w v:List Int),cs.foldl y7m (o,w++v)=((cs.foldl y7m (o,v)).1,w++(cs.foldl y7m (o,v)).2)
 | [],_,_,_=>rfl
 | c::cs,o,w,v=>by
  rw[l126,l126,u8m]
  exact v2z cs _ w _
theorem x5h (B:Bd)(d:Int):∀(n:Nat) (r:Int) (o:List LId) (w v:List Int),y4u B d n r (o,w++v)=((y4u B d n r (o,v)).1,w++(y4u B d n r (o,v)).2)
 | 0,_,_,_,_=>rfl
 | n+1,r,o,w,v=>by
  unfold y4u
  rw[v2z]
  exact x5h B d n _ _ w _
theorem y4f:∀(l:List MOp) (p:MSt) (o:List LId) (w v:List Int),z4k p (o,w++v) l=((z4k p (o,v) l).1,w++(z4k p (o,v) l).2)
 | [],_,_,_,_=>rfl
 | x::l,p,o,w,v=>by
  have h:(if x.k=3 then z7s p.B p.rk x.r (o,w++v) else (o,w++v))=((if x.k=3 then z7s p.B p.rk x.r (o,v) else (o,v)).1,w++(if x.k=3 then z7s p.B p.rk x.r (o,v) else (o,v)).2):=by
   by_cases c:x.k=3
   ·rw[if_pos c,if_pos c];exact x5h _ _ _ _ _ _ _
   rw[if_neg c,if_neg c]
  unfold z4k
  simp only[h]
  cases doM p x with
  | error _=>exact y4f l _ _ w _
  | ok q=>exact y4f l _ _ w _
theorem y2u {p q:MSt}{o:MOp}{l:List MOp}{st:St}(h:doM p o=.ok q):z4k p st (o::l)=z4k q (if o.k=3 then z7s p.B p.rk o.r st else st) l:=by
 conv=>lhs;unfold z4k
 rw[h]
theorem x0m:∀ {l1 l2:List MOp} {i:Nat} {p D:MSt} {st:St},z2u i p l1=.ok D->z4k p st (l1++l2)=z4k D (z4k p st l1) l2
 | [],l2,i,p,D,st,e=>by cases e;rfl
 | o::l1,l2,i,p,D,st,e=>by
  unfold z2u at e
  split at e
  ·cases e
  rename_i q I
  rw[l48,y2u I,y2u I]
  exact x0m e
theorem x6e:∀ {l:List MOp} {i j:Nat} {p q:MSt},z2u i p l=.ok q->z2u j p l=.ok q
 | [],_,_,_,_,e=>by cases e;rfl
 | o::l,i,j,p,q,e=>by
  unfold z2u at e ⊢
  split at e
  ·cases e
  exact x6e e
theorem v0k:∀ {l1 l2:List MOp} {i j:Nat} {p D q:MSt},z2u i p l1=.ok D->z2u j D l2=.ok q->z2u i p (l1++l2)=.ok q
 | [],l2,i,j,p,D,q,e,e2=>by cases e;exact x6e e2
 | o::l1,l2,i,j,p,D,q,e,e2=>by
  rw[l48]
  unfold z2u at e ⊢
  split at e
  ·cases e
  exact v0k e e2
theorem x3v:∀ {l:List MOp} {i:Nat} {p p' q:MSt},Eqv p p'->z2u i p l=.ok q->∃q',z2u i p' l=.ok q'/\Eqv q q'
 | [],i,p,p',q,h,e=>by cases e;exact⟨p',rfl,h⟩
 | o::l,i,p,p',q,h,e=>by
  unfold z2u at e
  split at e
  ·cases e
  rename_i r hr
  obtain⟨r',D,Z⟩:=u3f h hr
  obtain⟨q',I,O⟩:=x3v Z e
  exact⟨q',by unfold z2u;rw[D];exact I,O⟩
theorem x7x:∀ {l:List MOp} {i:Nat} {p p' q:MSt} {st:St},Eqv p p'->z2u i p l=.ok q->z4k p st l=z4k p' st l
 | [],_,_,_,_,_,_,_=>rfl
 | o::l,i,p,p',q,st,h,e=>by
  unfold z2u at e
  split at e
  ·cases e
  rename_i r I
  obtain⟨r',D,O⟩:=u3f h I
  unfold z4k
  simp only[I,D,h.B,h.rk]
  exact x7x O e
def wdQ (p:MSt)(l:List MOp):List Int:=(z4k p (z3n p,[]) l).2
theorem x2t {p q:MSt}{l:List MOp}(hv:MVal p)(hs:isP l=true)(O:l.length<=4096)(Z:p.B.flat.length<=8)(hr:z2u 0 p l=.ok q):(64<(wdQ p l).length->z1w p l=.error 3)/\((wdQ p l).length<=64->z1w p l=.ok (wdQ p l,q)):=by
 obtain⟨w,e,D,I,-⟩:=x1r hv hs hr O Z U;unfold wdQ;rw[e];exact⟨D,I⟩
theorem v9d {p q:MSt}{l:List MOp}(hv:MVal p)(hs:isP l=true)(hr:z2u 0 p l=.ok q):z4k p (z3n p,[]) l=(z3n q,wdQ p l):=by
 have D:z3n p=(List.range (z3n p).length).map λi=>(z3n p).getD i id0:=by
  refine l71 sp0 λi O h2=>?_;rw[l130,List.getElem_range,List.getD,l10 O];rfl
 have Z:∀o∈l,o.k=3\/o.k=7:=λo D=>by
  have:=l129.1 hs o D;simp only[decide_eq_true_eq]at this;exact this.1
 obtain⟨u,-,I,-⟩:=y6j (w:=[]) hv.inv Z hr D sp0;unfold wdQ;rw[I]
theorem y5t {p D:MSt}{l1 l2:List MOp}(hv:MVal p)(hs:isP l1=true)(Z:z2u 0 p l1=.ok D):wdQ p (l1++l2)=wdQ p l1++wdQ D l2:=by
 have h1:=v9d hv hs Z;have I:=x0m (l2:=l2) (st:=(z3n p,[])) Z;rw[h1]at I;have O:=y4f l2 D (z3n D) (wdQ p l1) [];rw[l24]at O;show (z4k p (z3n p,[])<|l1++l2).2=_;rw[I,O];rfl
theorem x1t {p p' q:MSt}{l:List MOp}(h:Eqv p p')(I:z2u 0 p l=.ok q):wdQ p l=wdQ p' l:=by
 have D:z3n p=z3n p':=by unfold z3n;rw[h.B,h.rk]
 unfold wdQ;rw[<-D,x7x h I]
theorem y4q {l1 l2:List MOp}:isP (l1++l2)=true↔isP l1=true/\isP l2=true:=by unfold isP;rw[List.all_append,l93]
theorem v6p {p q:MSt}{l1 l2:List MOp}{u:List Int}(Z:MVal p)(e:z1w p (l1++l2)=.ok (u,q)):∃u1 D u2 q2,z1w p l1=.ok (u1,D)/\z1w (nrm D) l2=.ok (u2,q2)/\u=u1++u2/\(z3n<|nrm D).length=(z3n p).length:=by
 obtain⟨hs,h4,h8,hr⟩:=z9a e;obtain⟨O,a2⟩:=y4q.1 hs;rw[l13]at h4;obtain⟨D,r1,r2⟩:=y7j (n:=l1.length) hr sp0;rw[l104]at r1;rw[l142]at r2;have a0:=x2c Z r1;have hE:=y4k a0;obtain⟨q2,r3,-⟩:=x3v hE<|x6e (j:=0) r2;have hw:=y5t (l2:=l2) Z O r1;rw[x1t hE (x6e r2)]at hw;obtain⟨hl,hu,-,-,-⟩:=z5i Z e;have I:wdQ p (l1++l2)=u:=hu;rw[hw]at I;have a3:(wdQ p l1).length+(wdQ (nrm D) l2).length<=64:=by rw[<-l13,I];exact hl
 have b1:=(x2t Z O oo h8 r1).2 oo;have ol:=(z5i Z b1).2.2.2.2;have a1:(nrm D).B.flat.length<=8:=by
  have e1:=y2a D;have e2:=y2a p;show D.B.flat.length<=8;omega
 exact⟨_,D,_,q2,b1,(x2t (z2v a0) a2 oo a1 r3).2 oo,I.symm,ol⟩
end Go.G26
namespace Go.G26
open Pm
section
variable {n:Nat}
end
end Go.G26
namespace Go.G26
open Go.Lw Go.G21 Go.G08 Go.G09
def x9k (x:List Int):List Int:=(x.map λk=>-k).reverse
theorem u7p (x y:List Int):x9k (x++y)=x9k y++x9k x:=by unfold x9k;rw[l31,List.reverse_append]
theorem u4f {P S:List LId}{a b:LId}{n:Int}{w:List Int}(h:a∉P):y7m (P++a::b::S,w) ⟨a,b,n⟩=(P++b::a::S,w++[((P.length:Int)+1)*n]):=by
 unfold y7m;simp only[j1p h,x1g,Int.mul_comm]
theorem j1x:∀ {cs:List Cx} {o o':List LId},o.Nodup->Adj o cs o'->∃x,(∀w,cs.foldl y7m (o,w)=(o',w++x))/\∀w,(cs.map u8w).reverse.foldl y7m (o',w)=(o,w++x9k x)
 | [],o,o',hn,h=>by
  cases h
  exact⟨[],λw=>t67,λw=>by show _=(_,w++[]);rw[l24];rfl⟩
 | ⟨a,b,n⟩::cs,o,o',hn,⟨P,S,e,h⟩=>by
  subst e
  dsimp only at h hn
  have D:=x0t hn
  obtain⟨x,I,O⟩:=j1x D h
  refine⟨(((P.length:Int)+1)*n)::x,λw=>?_,λw=>?_⟩
  ·rw[l126]
   dsimp only
   rw[u4f (x1d hn),I,l14];rfl
  rw[l28,List.reverse_cons,l123,O]
  show y7m (P++b::a::S,w++x9k x) ⟨b,a,-n⟩=_
  rw[u4f (x1d D),Int.mul_neg,l14]
  unfold x9k
  rw[l28,List.reverse_cons]
abbrev oB (B:Bd)(r:Int):List LId:=(z2m B r).map Hd.id
theorem y9o {B:Bd}{d:Int}:∀ {n:Nat} {r:Int} {st:St},y4u B d (n+1) r st=(z2g B (r+n*stI d) d).foldl y7m (y4u B d n r st)
 | 0,r,st=>by show (z2g B r d).foldl y7m st=(z2g B (r+(0:Nat)*stI d) d).foldl y7m st;simp
 | n+1,r,st=>by
  show y4u B d (n+1) (r+stI d) _=(z2g B (r+(n+1:Nat)*stI d) d).foldl y7m (y4u B d n (r+stI d) _)
  rw[y9o,show r+stI d+(n:Int)*stI d=r+((n+1:Nat):Int)*stI d by rw[Int.natCast_add,Int.add_mul];simp;omega]
theorem v4m {B:Bd}(D:BdOk B){d:Int}(I:d=0\/d=1):∀ {n:Nat} {r:Int},(-4<=r/\r<=4)->(-4<=r+n*stI d/\r+n*stI d<=4)->
    ∃x,(∀w,y4u B d n r (oB B r,w)=(oB B<|r+n*stI d,w++x))/\∀w,y4u B (1-d) n (r+n*stI d) (oB B<|r+n*stI d,w)=(oB B r,w++x9k x)
  | 0,r,hr,_=>by
    have e:r+((0:Nat):Int)*stI d=r:=by simp
    rw[e]
    exact⟨[],λw=>t67,λw=>by show _=(_,w++[]);rw[l24];rfl⟩
  | n+1,r,hr,hr2=>by
    have O:((n+1:Nat):Int)*stI d=n*stI d+stI d:=by rw[Int.natCast_add,Int.add_mul];simp
    obtain⟨a0,hs⟩:=y1z I
    have h1:-4<=r+stI d/\r+stI d<=4:=by
      rw[O]at hr2
      rcases hs with e|e<;>rw[e]at hr2 ⊢<;>simp at hr2<;>omega
    have h2:r+stI d+(n:Int)*stI d=r+((n+1:Nat):Int)*stI d:=by rw[O];omega
    obtain⟨x2,a1,a2⟩:=v4m D I (n:=n) h1 (by rw[h2];exact hr2)
    have Z:(oB B r).Nodup:=(z7w B r).nodup_iff.2 D.nd
    obtain⟨x1,b1,b2⟩:=j1x Z<|v3x D.lf D.lb hr I h1
    rw[h2]at a1 a2
    refine⟨x1++x2,λw=>?_,λw=>?_⟩
    · show y4u B d n (r+stI d) ((z2g B r d).foldl y7m (oB B r,w))=_
      rw[b1,a1,l14]
    · rw[y9o,a2,show r+((n+1:Nat):Int)*stI d+(n:Int)*stI (1-d)=r+stI d by rw[a0,O,Int.mul_neg];omega,v2d I,b2,u7p,l14]
theorem j1a {B:Bd}(hB:BdOk B){r ro:Int}(hr:-4<=r/\r<=4)(ho:-4<=ro/\ro<=4):∃x,(∀w,z7s B r ro (oB B r,w)=(oB B ro,w++x))/\∀w,z7s B ro r (oB B ro,w)=(oB B r,w++x9k x):=by
 by_cases e:r=ro;subst e;exact⟨[],λw=>by rw[y5s,l24],λw=>by rw[y5s];show _=(_,w++[]);rw[l24]⟩;have D:∀d:Int,(d=0\/d=1)->∀n:Nat,ro=r+n*stI d->(if ro<r then 0 else 1:Int)=d->(if ro<r then r-ro else ro-r).toNat=n->(if r<ro then 0 else 1:Int)=1-d->(if r<ro then ro-r else r-ro).toNat=n->∃x,(∀w,z7s B r ro (oB B r,w)=(oB B ro,w++x))/\∀w,z7s B ro r (oB B ro,w)=(oB B r,w++x9k x):=λd hd n Z h2 h3 h4 h5=>by
  unfold z7s;rw[h2,h3,h4,h5];obtain⟨x,I,O⟩:=v4m hB hd (n:=n) hr (by rw[<-Z];exact ho);rw[<-Z]at I O;exact⟨x,I,O⟩
 have s0:stI 0 = -1:=rfl;have s1:stI 1=1:=rfl;by_cases c:ro<r;exact D 0 (.inl U) (r-ro).toNat (by rw[s0];omega) (if_pos c) (by rw[if_pos c]) (by rw[if_neg oo];rfl) (by rw[if_neg oo]);exact D 1 (.inr U) (ro-r).toNat (by rw[s1];omega) (if_neg c) (by rw[if_neg c]) (by rw[if_pos oo];rfl) (by rw[if_pos oo])
structure DtOk (t:MSt) (put:List MOp) (t':MSt) (n:Nat):Prop where
  run:z2u 0 t put=.ok t'
  eqv:Eqv t' t
  isp:isP put=true
  len:put.length<=2
  wd:BrE (fac n<|wdQ t put) (0,[])
theorem v9o {n:Nat}(hn:n<=8):∀ {x:List Int},(∀k∈x,1<=k.natAbs/\k.natAbs<n)->BrE (fac n<|x++x9k x) (0,[])
 | [],_=>.refl
 | k::x,h=>by
  have e:(k::x)++x9k (k::x)=[k]++((x++x9k x)++[-k]):=by
   unfold x9k
   rw[l28,List.reverse_cons]
   simp
  rw[e]
  have I:=v9o hn λk Z=>h k<|l36 _ Z
  have D:=h k l35
  have O:BrE (fac n<|(x++x9k x)++[-k]) (fac n<|[]++[-k]):=v3b hn I [-k]
  exact(v7q hn O [k]).trans<|u0r hn D.1 D.2
theorem j4f {r:Int}(h:-4<=r/\r<=4):z8v (rkP r)=0/\isP [rkP r]=true:=by
 have:∀k:Nat,k<9->z8v (rkP<|(k:Int)-4)=0:=by decide +kernel
 have D:=this (r+4).toNat oo;rw[show (((r+4).toNat:Nat):Int)-4=r by omega]at D;exact⟨D,by unfold isP;simp[rkP]at D ⊢;exact D⟩
theorem j7b {p q:MSt}{r:Int}(h:doM p (rkP r)=.ok q)(D:-4<=r/\r<=4):z3p 8 p r=.ok q:=by
 rw[y1p (j4f D).1]at h;exact h
theorem j3r {t q q':MSt}{o o':MOp}(h:doM t o=.ok q)(D:doM q o'=.ok q'):wdQ t [o,o']=(if o'.k=3 then z7s q.B q.rk o'.r (if o.k=3 then z7s t.B t.rk o.r (z3n t,[]) else (z3n t,[])) else (if o.k=3 then z7s t.B t.rk o.r (z3n t,[]) else (z3n t,[]))).2:=by
 unfold wdQ;rw[y2u h,y2u D];rfl
theorem k9b {t q q':MSt}{r s:Int}(h:doM t (rkP r)=.ok q)(D:doM q (rkP s)=.ok q'):wdQ t [rkP r,rkP s]=(z7s q.B q.rk s<|z7s t.B t.rk r (z3n t,[])).2:=j3r h D
theorem v8q {t q q':MSt}{o o':MOp}(h:doM t o=.ok q)(D:doM q o'=.ok q'):z2u 0 t [o,o']=.ok q':=by
 simp only[z2u,h,D]
theorem j0p {t:MSt}{r m:Int}(I:MVal t)(hr:-4<=r/\r<=4)(a1:∀j,(t.ys.getD j yn0).pe.length+32<=4096)(a0:CrB t.cr m)(hm:m+5120<=1048576)(h8:t.B.flat.length<=8):∃t',DtOk t [rkP r,rkP t.rk] t' (z3n t).length:=by
 obtain⟨c1,i1⟩:=j4f hr;obtain⟨c2,i2⟩:=j4f I.inv.rk;obtain⟨q,d1,k1,b1,-,-⟩:=x6c I c1 U a1 a0 hm;obtain⟨t',d2,hE⟩:=j6t I hr<|j7b d1 hr;have d3:doM q (rkP t.rk)=.ok t':=by rw[y1p c2];exact d2
 have hi:isP [rkP r,rkP t.rk]=true:=y4q.2 ⟨i1,i2⟩;have D:=v8q d1 d3;refine⟨t',D,hE.symm,hi,l20 _,?_⟩;obtain⟨x,x1,x2⟩:=j1a I.inv.B I.inv.rk hr;have hw:=k9b d1 d3;rw[b1,show q.rk=r from k1,show z3n t=oB t.B t.rk from U,x1,x2,l43]at hw;have O:∀k∈wdQ t [rkP r,rkP t.rk],1<=k.natAbs/\k.natAbs<(z3n t).length:=by
  have h1:t.B.flat.length<=8:=h8;intro k Z;have ho:z3n t=(List.range (z3n t).length).map λi=>(z3n t).getD i id0:=by
   refine l71 sp0 λi h1 h2=>?_;rw[l130,List.getElem_range,List.getD,l10 h1];rfl
  obtain⟨u,-,a2,a3⟩:=y6j (w:=[]) I.inv (λo ho=>by
   rcases l57.1 ho with rfl|ho
   exact .inl U;cases l11.1 ho;exact .inl U) D ho sp0
  unfold wdQ at Z;rw[a2]at Z;have:=a3.bd k (by simpa using Z);simpa using this
 rw[hw]at O ⊢;exact v9o (by rw[y2a];exact h8) λk Z=>O k<|l60 _ Z
theorem k6i {b p:Int}(h:z3m b p=0):z8v (xfP b p)=0/\isP [xfP b p]=true:=by
 have O:(b=0\/b=1)/\1<=p/\p<=40:=by
  unfold z3m at h;split at h;cases h;split at h;cases h;omega
 have D:z8v (xfP b p)=0:=by
  have:∀k:Nat,k<40->z8v (xfP 0<|(k:Int)+1)=0/\z8v (xfP 1<|(k:Int)+1)=0:=by decide +kernel
  have I:=this (p-1).toNat oo;rw[show (((p-1).toNat:Nat):Int)+1=p by omega]at I;rcases O.1 with rfl|rfl
  exact I.1;exact I.2
 exact⟨D,by unfold isP;simp[xfP]at D ⊢;exact D⟩
theorem k1k {t a:MSt}{b p b' p':Int}(h:z3m b p=0)(I:z3m b' p'=0)(e:z5v t (xfP b p)=.ok a)(h1:a.B.at b' p'≠[])(O:t.B.at b' p'=[]):b'=1-b/\p'=z4l b p t.rk:=by
 unfold z5v at e;split at e;cases e;split at e;cases e;rename_i k1 D;split at e;cases e;split at e;cases e;cases e;refine l63 λZ=>h1 ?_;have D:z3m (1-b) (z4l b p t.rk)=0:=l15.1 D;show ((t.B.put b p []).put (1-b) (z4l b p t.rk) _).at b' p'=[];rw[z5d _ D I,if_neg Z,z5d _ h I];split;rfl;exact O
theorem u6q {t a:MSt}{b p b' p':Int}(O:MVal t)(hT:TrB t.B)(e:doM t (xfP b p)=.ok a)(h:z3m b p=0)(D:z3m b' p'=0)(h1:a.B.at b' p'≠[])(I:t.B.at b' p'=[])(n:Nat):DtOk t [xfP b p,xfP b' p'] t n:=by
 obtain⟨Z,i1⟩:=k6i h;obtain⟨c2,i2⟩:=k6i D;have e1:z5v t (xfP b p)=.ok a:=by rw[y1p Z]at e;exact e
 obtain⟨rfl,rfl⟩:=k1k h D e1 h1 I;have e2:=j8z (o':=xfP (1-b)<|z4l b p t.rk) O.inv hT h U U I e1;have d2:doM a (xfP (1-b)<|z4l b p t.rk)=.ok t:=by rw[y1p c2];exact e2
 refine⟨v8q e d2,Eqv.refl O.cr.nd,y4q.2 ⟨i1,i2⟩,l20 _,?_⟩;rw[show wdQ t [xfP b p,xfP (1-b) (z4l b p t.rk)]=[] from j3r e d2];exact .refl
theorem v0n {t:MSt}(D:MVal t)(n:Nat):DtOk t [] t n:=⟨rfl,Eqv.refl D.cr.nd,rfl,l16 _,.refl⟩
theorem j1i {p q t t':MSt}{l1 l2 put:List MOp}{u:List Int}{n:Nat}(Z:MVal p)(hb:z1w p (l1++l2)=.ok (u,q))(O:z2u 0 p l1=.ok t)(D:DtOk t put t' n)(hn:n<=8)(h4:(l1++l2).length<=4000) :
    z1w p (l1++put++l2)=.error 3\/∃v r,z1w p (l1++put++l2)=.ok (v,r)/\q.rk=r.rk/\q.B=r.B/\BrE (fac n u) (fac n v):=by
  obtain⟨hs,-,h8,hr⟩:=z9a hb
  obtain⟨I,a0⟩:=y4q.1 hs
  obtain⟨t0,r1,r2⟩:=y7j (n:=l1.length) hr sp0
  rw[l104]at r1
  rw[l142]at r2
  rw[O]at r1
  cases r1
  have a2:=x2c Z O
  have r2:=x6e (j:=0) r2
  obtain⟨q',r3,hq⟩:=x3v D.eqv.symm r2
  have r4:=v0k (j:=0) (v0k O D.run) r3
  have a1:isP (l1++put++l2)=true:=y4q.2 ⟨y4q.2 ⟨I,D.isp⟩,a0⟩
  have hu:wdQ p (l1++l2)=u:=(z5i Z hb).2.1
  rw[y5t Z I O]at hu
  have hw:wdQ p (l1++put++l2)=wdQ p l1++(wdQ t put++wdQ t l2):=by
    rw[l14,y5t Z I O,y5t a2 D.isp D.run,<-x1t D.eqv.symm r2]
  have hl:(l1++put++l2).length<=4096:=by
    have:=D.len
    rw[l13]at h4
    rw[l13,l13];omega
  obtain⟨b1,b2⟩:=x2t Z a1 hl h8 r4
  by_cases c:64<(wdQ p<|l1++put++l2).length
  · exact .inl<|b1 c
  · refine .inr ⟨_,q',b2 oo,hq.rk,hq.B,?_⟩
    rw[hw,<-hu]
    exact(v7q hn (v3b (u':=[]) hn D.wd<|wdQ t l2)<|wdQ p l1).symm
theorem k8x {p q:MSt}{o:MOp}(D:o.k≠3)(e:doM p o=.ok q):q.cr=p.cr:=by
 unfold doM at e;split at e;cases e;unfold opM at e;split at e;unfold inM at e;split at e;cases e;cases e;rfl;split at e;unfold x7f at e;split at e;cases e;cases e;rfl;split at e;unfold y0f at e;split at e;cases e;split at e;cases e;rename_i h;rw[x2x e,y3y h];split at e;unfold z9w at e;split at e;cases e;split at e;cases e;split at e;cases e;rename_i h _;rw[x2x e,y3y h];split at e;unfold y1x at e;split at e;cases e;rw[y3y e];split at e;unfold z5v at e;split at e;cases e;split at e;cases e;split at e;cases e;split at e;cases e;cases e;rfl;unfold y2l at e;split at e;cases e;cases e;rfl
structure Bnd (p:MSt) (n:Nat):Prop where
  v:MVal p
  e:PBd p n
  c:CrB p.cr (5120*n)
theorem Bnd.op {p q:MSt}{o:MOp}{n:Nat}(h:Bnd p n)(hn:n<=60)(e:doM p o=.ok q):Bnd q (n+1):=by
 refine⟨v1l h.v e,k7q h.e h.v.inv oo e,?_⟩;by_cases hk:o.k=3;have D:z8v o=0:=l63 λD=>by
  unfold doM at e;rw[if_pos D]at e;cases e
 obtain⟨q',I,-,-,-,O⟩:=x6c (n:=5120*n) h.v D hk (λj=>by have:=h.e.e j;omega) h.c oo;rw[I]at e;cases e;exact O.mono oo;rw[k8x hk e];exact h.c.mono oo
theorem Bnd.run:∀ {l:List MOp} {i n:Nat} {p q:MSt},Bnd p n->n+l.length<=61->z2u i p l=.ok q->Bnd q (n+l.length)
 | [],_,_,_,_,h,_,e=>by cases e;exact h
 | o::l,i,n,p,q,h,hn,e=>by
  unfold z2u at e
  split at e
  ·cases e
  rename_i r D
  rw[l34]at hn ⊢
  rw[show n+(l.length+1)=n+1+l.length by omega]
  exact(h.op oo D).run oo e
theorem Bnd.start:Bnd G08.start 0:=⟨y8i,(k1x (l:=[]) (i:=0) (l16 _)<|l16 _).1,λa b=>by show -_<=(0:Int)/\(0:Int)<=_;omega⟩
theorem Bnd.eqv {p q:MSt}{n:Nat}(h:Bnd p n)(I:MVal q)(D:Eqv p q):Bnd q n:=⟨I,⟨by rw[<-D.B];exact h.e.f,by rw[<-D.ys];exact h.e.e⟩,λa b=>by
 rw[<-x7y D.cr D.nd];exact h.c a b⟩
theorem u9a (D:Nat)(p:Int)(s:List MOp×Nat)(h:s.1.length<=1+2*s.2):(v0u D p s).1.length<=1+2*(v0u D p s).2:=by
 unfold v0u;split<;>simp<;>omega
theorem u6c (D:Nat)(l:List Int)(s:List MOp×Nat)(h:s.1.length<=1+2*s.2):(y9h D l s).1.length<=1+2*(y9h D l s).2:=by
 rcases x8s D l s with e|⟨p,-,e⟩
 rw[e];exact h;rw[e];exact u9a _ _ _ h
theorem j0z (xs:List Int):(j0n xs).length<=14:=by
 have h:∀n,(z9j xs n).1.length<=1+2*(z9j xs n).2:=λn=>by
  induction n with
  | zero=>simp[z9j]
  | succ n ih=>exact u6c _ _ _ ih
 have D:=h 16;have I:=(y6g xs 16).2;unfold j0n;rw[l13,l44];omega
theorem Bnd.mono {p:MSt}{n m:Nat}(h:Bnd p n)(D:n<=m):Bnd p m:=⟨h.v,⟨l42 h.e.f D,λk=>by have:=h.e.e k;omega⟩,CrB.mono h.c oo⟩
theorem k0o {p O:MSt}{xs:List Int}{l:List MOp}(hp:z2u 0 G08.start (j0n xs)=.ok p)(Z:z2u 0 (nrm p) l=.ok O)(hl:l.length<=30):Bnd (nrm O) 44:=by
 have h1:=j0z xs;have D:=(Bnd.start.run oo hp).mono (m:=14) oo;have I:=(D.eqv (z2v D.v)<|y4k D.v).run oo Z;exact(I.eqv (z2v I.v)<|y4k I.v).mono oo
theorem k6p {t:MSt}{r:Int}{n:Nat}(h:Bnd t 44)(I:-4<=r/\r<=4)(D:t.B.flat.length<=8)(hn:(z3n t).length=n):∃t',DtOk t [rkP r,rkP t.rk] t' n:=by
 subst hn;exact j0p h.v I (λj=>by have:=h.e.e j;omega) h.c oo D
theorem DtOk.to {t t' s:MSt}{put:List MOp}{n:Nat}(h:DtOk t put t' n)(D:Eqv t s):∃s',DtOk s put s' n:=by
 obtain⟨s',I,O⟩:=x3v D h.run;exact⟨s',I,(O.symm.trans h.eqv).trans D,h.isp,h.len,by rw[<-x1t D h.run];exact h.wd⟩
theorem k6r {t a:MSt}{b p:Int}{y:LId}(O:MInv t)(I:MInv a)(e:doM t (xfP b p)=.ok a)(h:y∈t.B.flat):y∈a.B.flat:=by
 have D:y∈z3n t:=(z7w t.B t.rk).mem_iff.2 h;rw[<-(v3w O I e U).1]at D;exact(z7w a.B a.rk).mem_iff.1 D
theorem j9m {b p:Int}(h:z3m b p=0):1<=p/\p<=40:=by
 unfold z3m at h;split at h;cases h;split at h;cases h;omega
end Go.G26
namespace Go.Proofs.YtkafbfjmcigaiaaGreatDoor
open Go.Lw Go.G21 Go.G08 Go.G09 Go.G26 _root_.Go.Proofs.Tryz
theorem ag24:z4f prog 24 2:=⟨λ_=>kr,λ_=>kr⟩
theorem k7a:z1e prog 24 1 1:=λ_ _=>kr
theorem j6a {A:Option Addr}{q:Prop}[Decidable q]{n m c I c':Nat}:∀k∈z0v (.slice (if q then A else A.map (·.add n)) m c),k∈z0v (.slice A I c'):=λk D=>by
 cases A with
 | none=>split at D<;>exact D
 | some a=>
  split at D
  ·exact D
  simp[z0v,z7n]at D ⊢;exact D
theorem v9q {s:StQ}{p q:MSt}{n:Nat}{v:Value}{l:List MOp}{w0:World}(hS:StAt w0 s)(Z:StP s p n)(hv:Sl z3c w0 v l)(D:StT w0)(hl:n+l.length<=1000)(h:z2u 0 (nrm p) l=.ok q):Rets prog 8 #[svv s,v] w0 λr w'=>(∃s':StQ,r=.tuple #[svv s',.int .i64 (l.length:Int),.int .i64 0]/\StK UK w' s'/\StP s' q (n+l.length))/\Fr [] w0 w':=
 Rets.mono (v0c v l w0 hS Z hl hv D) (by
  rintro r w' ⟨⟨s',rfl,I,O,-⟩,hf⟩
  obtain⟨e1,e2⟩:=y6k h
  rw[e1,e2]
  exact⟨⟨s',rfl,I.k,O q h⟩,hf⟩)
theorem j4u (A M:Option Addr)(c cM:Nat)(bs ms:List UInt8)(e7 wt:Int)(w0:World)(D4:0<=e7/\e7<=255)(E7:0<=wt/\wt<=255)(hG:Glob w0)(I:StT w0)(hs:Sl Enc.b w0 (.slice A bs.length c) bs)(hm:Sl Enc.b w0 (.slice M ms.length cM) ms):Rets prog 3 #[.agg #[.slice A bs.length c,.slice M ms.length cM],.int .u8 e7,.int .u8 wt] w0 λr w'=>r=.bool true/\Fr [] w0 w':=by
 have D1:=hG.sz;refine wf func3 U ?_;have j2:=hG;have b6:=I;have j5:=hs;have x2:=hm;refine sr<|bx U<|λg3 w1 D6 e5 q1 z1=>(asg U<|nn<|sr<|z0l U e5 ag24 ?_);have hs:=j5.ext q1;have I:=b6.ext q1;refine cl (ev1 U) cO (x0f A c bs M ms.length cM _ hs I) ?_;rintro _ w2 ⟨⟨s,rfl,hK,u6⟩,q2⟩;have hS:=hK.at;have z2:=q2.size;have u5:=hK;have g4:=hS;have hs:=j5.ext<|q1.n1 q2;obtain⟨p,hp,h6,-⟩:=u5l<|bs.map λb=>(b.toNat:Int);have hP:=u6 p hp;have E2:=z2f hS.f.h;have B6:s.fb.hs=z3n (nrm p):=hP.hsE;have h8:p.B.flat.length<=8:=by omega
 have u4:(z3n<|nrm p).length=s.q.p.flat.length:=by rw[y2a,show s.q.p=p.B from hP.BE];rfl
 have u3:s.q.p.flat.length<=8:=by rw[show s.q.p=p.B from hP.BE];exact h8
 refine al y5r U<|λg7 w3 D7 a4 q3 z3=>?_;refine z0j (vs:=[_,_,_,_,_,_,_,_]) U a4 z9q (λw4 a4 q4 z4=>?_) (h1:=t24);refine nn<|sq ?_;have I:=b6.ext<|q1.z3 q2 q3 q4;have hm:=x2.ext<|q1.z3 q2 q3 q4;have e5:=(e5.ext<|q2.n1 q3).fr q4;have hK:=u5.ext<|q3.z1 q4;have hS:=g4.ext<|q3.z1 q4;intro a h;refine rgh none (Fr []) ?_;intro w5 q5 hC;have z5:=q5.size;have I:=I.ext q5;have hm:=hm.ext q5;have e5:=e5.ext q5;have hK:=hK.ext q5;have hS:=hS.ext q5;have a4:=a4.ext q5;have d6:=I;have q0:=hm;have h0:=e5;have o1:=hK;have f6:=hS;have b0:=a4;refine z0x 0 h U (fx b0.ext) z8i U λa h=>z0x 1 h U (fx b0.ext) z8i U λa h=>z0c 2 h U k7a U λa h=>z0m 3 h U (fx h0.ext) U v5f U λa h=>z0d 4 U<|z0n h (z0a U<|z0a U z0f) cO (k0x s p 50 M cM ms _ hK hP oo hm I) ?_;rintro _ w6 ⟨⟨A4,l,c4,rfl,f0,D8,B5,q,E4⟩,q6⟩ a h;have z6:=q6.size;have I:=I.ext q6;have hS:=hS.ext q6;have hC:=hC.next q6;refine z0b<|z0d 5 U<|z0n h (z0a U<|z0a U<|z0a U z0f) cO (j7i s p q 50 A4 c4 l 20 _ hS hP f0.sl I oo h8 dd) ?_;rintro _ w7 ⟨⟨m,ul,qs,x3,rfl,j3,E6⟩,q7⟩ a h;have z7:=q7.size;have I:=I.ext q7;have hm:=hm.ext<|q6.n1 q7;have e5:=e5.ext<|q6.n1 q7;have hK:=hK.ext<|q6.n1 q7;have hS:=hS.ext q7;have a4:=a4.ext<|q6.n1 q7;have f0:=f0.ext q7;have hC:=hC.next q7;refine z0b<|z0d 6 U<|z0o h U λa h=>?_;refine z0b<|z0q ?_;clear hC d6 q0 h0 o1 f6 b0;have p4:=x9j f0.sl;obtain⟨_,_,x6,A9⟩:=id f0.sl.form;cases x6;obtain⟨lm,l7⟩:∃lm,lm=l.take m:=⟨_,rfl⟩;have x4:lm.length=m:=by rw[l7,l27];omega
 rw[<-l7]at j3;have e4:Sl z3c w7 (.slice A4 m c4) lm:=by rw[l7];exact f0.sl.take U x3 oo p4<|λ_=>rfl
 have f8:=e4;subst x4;have x0:=λk (hk:k∈z0v (.slice A4 l.length c4))=>(f0.blk k hk).2;refine xB (ll4 1 2 7 8) h U<|tn<|sr<|mv U<|z4c U (us underlying5) underlying3 (wi6 oo)<|mv U<|lnS U<|ad6 U<|y5q U t32<|asg U ?_;obtain⟨jj,D9⟩:∃jj:Nat,(jj:Int)=e7 % ((lm.length:Int)+1):=⟨(e7 % ((lm.length:Int)+1)).toNat,Int.toNat_of_nonneg<|Int.emod_nonneg _ oo⟩;have E0:=Int.emod_lt_of_pos e7 (show (0:Int)<(lm.length:Int)+1 by omega);have a9:Sl z3c w7 (.slice A4 jj c4) (lm.take jj):=e4.take U oo oo p4<|λ_=>rfl;have b7:Sl z3c w7 (.slice (if c4=jj then A4 else A4.map (·.add (jj*z3c.sz))) (lm.length-jj)<|c4-jj) (lm.drop jj):=e4.drop U oo oo oo<|λh=>if_neg oo;have o3:=a9;have o4:=b7;have x1:(lm.take jj).length=jj:=by rw[l27];omega
 have E1:(lm.drop jj).length=lm.length-jj:=l39 ..;have p8:∀k∈z0v (.slice (if c4=jj then A4 else A4.map (·.add (jj*z3c.sz))) (lm.length-jj)<|c4-jj),k<w7.heap.size:=λk hk=>x0 k<|j6a k hk;obtain⟨u1,p1,u2,E8,o6,o7,hu,h2⟩:=v6p (l1:=lm.take jj) (l2:=lm.drop jj) (z2v hP.v) (by rw[l25];exact j3);have x5:(z3n<|nrm p).length=s.q.p.flat.length:=u4;have r5:=(z5i (z2v hP.v) o6).2.2.1;rw[x5]at r5 h2;have ht:=(z9a o6).2.2.2;have o8:=k0o hp ht oo;refine kpL (ll4 2 7 8 9) U<|nn<|jn (ι:=StQ×Nat) (ll4 2 7 8 9) (λv_=>[(10,pta v_.2),(12,.int .i64 0)]) (λv_ w'=>Fr [] w7 w'/\StAt w' v_.1/\StP v_.1 p1 (50+(lm.take jj).length)/\Blk w' v_.2 36 (stL v_.1)) U ?_ ?_;intro a h;refine rgh none (Fr []) ?_;intro w8 q8 hC;have z8:=q8.size;have I:=I.ext q8;have hS:=hS.ext q8;have a4:=a4.ext q8;have a9:=a9.ext q8;have d6:=I;have f6:=hS;have b0:=a4;have d7:=a9;refine z0x 0 h U (fx b0.ext) z8i U λa h=>z0e 1 h U λa h=>z0e 2 h U λa h=>x1a (p:=jj) 3 hC h wn U U y2n U U λa h=>z1v 4 9 kr U ?_ ?_;refine z0n h (z0a U<|z0a U z0f) cO (v9q hS hP a9 I oo ht) ?_;rintro _ w9 ⟨⟨ta,rfl,d5,a0⟩,q9⟩ a h;have z9:=q9.size;have a4:=a4.ext q9;have hC:=hC.next q9;refine z0b<|z0e 5 h U λa h=>z0k 6 h U λa h=>z0k 7 h U λa h=>z0k 8 h U λa h=>z0d 9 U<|z0u h y5r U λF3 D j6 hz a h=>?_;obtain⟨a2,hg⟩:∃g,g=w9.heap.size:=⟨_,rfl⟩;rw[<-hg]at D h hz;have j4:g7<a2:=by have:=a4.lt;omega
 have H7:=j6.size;have d5:=d5.ext j6;have hC:=hC.next j6;refine z0b<|z0d 10 U<|z0t h U D U z9q ?_ (h1:=t24);intro y3 a6 j7 hz a h;have H8:=j7.size;have d5:=d5.fr j7 t30;have hC:=hC.sp j7;have D:Blk y3 a2 _ [_,_,_,_,_,_,_,_]:=a6;clear a6;refine z0b<|z0d 11 U<|z0o h U λa h=>?_;refine z0b<|z0d 12 U<|z0o h U λa h=>?_;refine z0b<|z0q ?_;clear hC d6 f6 b0 d7;exact xB (ll6 2 7 8 9 10 12) h U<|jE ((ta,a2)) U ⟨(q8.z3 q9 j6 j7),⟨d5.at,a0,D⟩⟩;refine z0u h y5r U λF5 D g8 hz a h=>?_;obtain⟨a2,hg⟩:∃g,g=w8.heap.size:=⟨_,rfl⟩;rw[<-hg]at D h hz;have j4:g7<a2:=by have:=a4.lt;omega
 have H9:=g8.size;have I:=I.ext g8;have hS:=hS.ext g8;have a9:=a9.ext g8;have hC:=hC.next g8;refine z0b<|z0d 4 U<|z0n h (z0a U<|z0a U z0f) cO (v9q hS hP a9 I oo ht) ?_;rintro _ F6 ⟨⟨ta,rfl,d5,a0⟩,q13⟩ a h;have I0:=q13.size;have D:=D.ext q13;have hC:=hC.next q13;refine z0b<|z0e 5 h U λa h=>z0k 6 h U λa h=>z0k 7 h U λa h=>z0k 8 h U λa h=>z0d 10 U<|z0t h U D U z9q ?_ (h1:=t24);intro y4 a6 j8 hz a h;have I1:=j8.size;have d5:=d5.fr j8 t30;have hC:=hC.sp j8;have D:Blk y4 a2 _ [_,_,_,_,_,_,_,_]:=a6;clear a6;refine z0b<|z0d 11 U<|z0o h U λa h=>?_;refine z0b<|z0d 12 U<|z0o h U λa h=>?_;refine z0b<|z0q ?_;clear hC d6 f6 b0 d7;exact xB (ll6 2 7 8 9 10 12) h U<|jE ((ta,a2)) U ⟨(q8.z3 g8 q13 j8),⟨d5.at,a0,D⟩⟩;rintro⟨ta,a2⟩ s1 ⟨b4,⟨a3,a0,D⟩⟩;have I2:=b4.size;have f7:=a3;have i2:=D.lt;simp only at a3 f7 a0 D i2;have r4:p1.B.flat.length<=8:=by have:=y2a<|nrm p1;rw[h2]at this;show (nrm p1).B.flat.length<=8;omega
 have E3:ta.q.p.flat.length=s.q.p.flat.length:=by rw[show ta.q.p=p1.B from a0.BE];exact(y2a<|nrm p1).symm.trans h2
 have r6:=(z5i (z2v a0.v) o7).2.2.1;rw[h2]at r6;refine kpC [(2,_),(7,_),(8,_),(9,_),(10,pta a2),(12,_)] U<|sq<|sr<|mv U<|ne' U<|nn<|cd U (λc0=>?_)<|λc0=>?_;exact absurd U c0;refine sk<|tn<|sr<|asg U<|nn<|jn (ι:=Value×List MOp×MSt) (ll3 7 8 9) (λv_=>[(13,v_.1)]) (λv_ w'=>Fr [] s1 w'/\(DtOk (nrm p1) v_.2.1 v_.2.2 s.q.p.flat.length/\∀k∈z0v v_.1,k<w'.heap.size)/\Sl z3c w' v_.1 v_.2.1) U ?_ ?_;refine sr<|mv U<|y5q U t32<|eq' U<|nn<|cd U (λc1=>?_)<|λc1=>?_;obtain⟨F0,o0⟩:=k6p (r:=wt / 2 % 9-4) o8 oo r4 h2;rw[show (nrm p1).rk=ta.rk from a0.rkE.symm]at o0;refine rg<|mv U<|v6v U U t44 U<|z4c U (us underlying5) underlying3 (wi6 oo)<|y5q U t32<|z2i U (wi6 oo)<|z1r (cs:=[_,_,_,_,_,_]) (ev2 U) x8f (z0g U<|z0g U z0r) U ?_;refine fad U y2s<|z0i U D U na3<|z1r (cs:=[_,_,_,_,_,_]) (ev2 U) x8f (z0g U<|z0g U z0r) U ?_;exact z1i ([rkP (wt / 2 % 9-4),rkP ta.rk]) (ev2 U) U y2n<|λC9 F7 B2 k6 y1 I3=>(asg U<|kpL (ll4 7 8 9 13) U<|nl<|jE ((_,_,_)) U ⟨y1,⟨⟨o0,λk hk=>(k6.blk k hk).2⟩,k6.sl⟩⟩);refine sr<|fad U z6b<|y8g U z8a U<|z0i U D U z6k<|lnS U<|asg U<|nn<|sr<|mv U<|gt' U<|nn<|cd U (λc2=>?_)<|λc2=>?_;have hs:=j5.ext<|(q1.z6 q2 q3 q4 q5 q6 q7).n1 b4;have E5:=z2f a3.f.h;obtain⟨b5,B3⟩:∃b5:Nat,(b5:Int)=wt / 2 % (ta.fb.h.2.1:Int):=⟨(wt / 2 % (ta.fb.h.2.1:Int)).toNat,Int.toNat_of_nonneg<|Int.emod_nonneg _ oo⟩;have B4:=Int.emod_lt_of_pos (wt / 2) (show (0:Int)<(ta.fb.h.2.1:Int) by omega);have r7:(ta.fb.hs.getD b5 id0)∈p1.B.flat:=(z7w p1.B p1.rk).mem_iff.1 (by rw[<-a0.hsE];exact z1b oo);refine jn (ι:=(Int×Int×Int)×Nat) (ll7 2 7 8 9 10 13 14) (λv_=>[(15,pta v_.2)]) (λv_ w'=>Fr [] s1 w'/\((ta.fb.hs.getD b5 id0)∈ta.q.p.flat->z3m v_.1.1 v_.1.2.1=0/\(ta.fb.hs.getD b5 id0)∈ta.q.p.at v_.1.1 v_.1.2.1)/\Blk w' v_.2 48 [.int .u8 v_.1.1,.int .i64 v_.1.2.1]) U ?_ ?_;intro a h;refine rgh none (Fr []) ?_;intro m7 i5 hC;have I4:=i5.size;have a3:=a3.ext i5;have D:=D.ext i5;have a7:=a3;have a1:=D;refine z0c 0 h U z7f U λa h=>z1f (vs:=[_,_]) 1 h U (fx a1.ext) z4y U U λa h=>z0c 2 h U z6b U λa h=>z4r 3 h U z8a U λa h=>z0m 4 h U (fx a1.ext) U z6k U λa h=>z0e 5 h U λa h=>j3j 6 hC h wn U U oo t44 U U λa h=>x2r 7 hC h wn U (by rw[underlying5];rfl) underlying3 t12 U U λa h=>z0e 8 h U λa h=>u0s 9 hC h wn U U t32 U U λa h=>z1d (p:=b5) (id0) 10 h U a3.f.h U z4m U λA6 p3 a h=>z1z 11 h wn U (λ_ hw=>p3 _<|a7.f.h.ext hw) z2y U λa h=>z1v 12 16 kr U ?_ ?_;refine z0n h (z0a U<|z0a U z0f) co9 (y4x ta.q (ta.fb.hs.getD b5 id0) _ a3.b (a0.BE▸a0.v.inv.B)) ?_;rintro _ y5 ⟨⟨b_,p_,e_,rfl,e6⟩,q18⟩ a h;have I5:=q18.size;have D:=D.ext q18;have hC:=hC.next q18;refine z0b<|z0e 13 h U λa h=>z0k 14 h U λa h=>z0k 15 h U λa h=>z0d 16 U<|z0u h x4f U λF8 O m0 hz a h=>?_;obtain⟨b1,hg⟩:∃g,g=y5.heap.size:=⟨_,rfl⟩;rw[<-hg]at O h hz;have g5:a2<b1:=by have:=D.lt;omega
 have I6:=m0.size;have hC:=hC.next m0;refine z0b<|z0d 17 U<|z0t h U O U y2m ?_ (h1:=t24);intro y6 a6 m1 hz a h;have I7:=m1.size;have hC:=hC.sp m1;have O:Blk y6 b1 _ [_,_]:=a6;clear a6;refine z0b<|z0d 18 U<|z0o h U λa h=>?_;refine z0b<|z0q ?_;clear hC a7 a1;exact xB (ll8 2 7 8 9 10 13 14 15) h U<|jE (((b_,p_,e_),b1)) U ⟨(i5.z3 q18 m0 m1),⟨e6,O⟩⟩;refine z0u h x4f U λF9 O j9 hz a h=>?_;obtain⟨b1,hg⟩:∃g,g=m7.heap.size:=⟨_,rfl⟩;rw[<-hg]at O h hz;have g5:a2<b1:=by have:=D.lt;omega
 have I8:=j9.size;have a3:=a3.ext j9;have hC:=hC.next j9;refine z0b<|z0d 12 U<|z0n h (z0a U<|z0a U z0f) co9 (y4x ta.q (ta.fb.hs.getD b5 id0) _ a3.b (a0.BE▸a0.v.inv.B)) ?_;rintro _ G0 ⟨⟨b_,p_,e_,rfl,e6⟩,q22⟩ a h;have I9:=q22.size;have O:=O.ext q22;have hC:=hC.next q22;refine z0b<|z0e 13 h U λa h=>z0k 14 h U λa h=>z0k 15 h U λa h=>z0d 17 U<|z0t h U O U y2m ?_ (h1:=t24);intro y7 a6 m2 hz a h;have J0:=m2.size;have hC:=hC.sp m2;have O:Blk y7 b1 _ [_,_]:=a6;clear a6;refine z0b<|z0d 18 U<|z0o h U λa h=>?_;refine z0b<|z0q ?_;clear hC a7 a1;exact xB (ll8 2 7 8 9 10 13 14 15) h U<|jE (((b_,p_,e_),b1)) U ⟨(i5.z3 j9 q22 m2),⟨e6,O⟩⟩;rintro⟨⟨b_,p_,e_⟩,b1⟩ w24 ⟨q24,⟨e6,O⟩⟩;have J1:=q24.size;have i3:=O.lt;simp only at e6 O i3;refine kpC [(2,_),(7,_),(8,_),(9,_),(10,_),(13,_),(14,_),(15,pta b1)] U<|sr ?_;have D:=D.ext q24;refine z0l U D z8i<|z0l U O z5k<|z1r (cs:=[_,_,_,_,_,_]) (ev2 U) x8f (z0g U<|z0g U z0r) U ?_;have a3:=f7.ext q24;have I:=b6.ext<|((q1.z6 q2 q3 q4 q5 q6 q7).n1 b4).n1 q24;refine cl (ev2 U) cO (v4i ta p1 (50+(lm.take jj).length) (xfP b_ p_) _ a3 a0 oo I) ?_;rintro _ G1 ⟨⟨k2,rfl,k4,o5,B7,p6⟩,q25⟩;have b2:=k4.k.at;clear k4;have J2:=q25.size;have l3:=b2;refine mv U<|xt U<|xt U<|al y5r U<|λm9 G2 B0 b3 d3 J3=>?_;refine z0j (vs:=[_,_,_,_,_,_,_,_]) U b3 z9q (λy8 b3 d4 J4=>?_) (h1:=t24);refine asg U<|kpL (ll10 2 7 8 9 10 13 14 15 17 18) U<|nn<|sr<|mv U<|eq' U<|nn<|cd U (λc3=>?_)<|λc3=>?_;obtain⟨r_,l9⟩:=p6 c3;have e9:=o5 r_ l9;have e6:=e6 (by rw[a0.BE];exact r7);have y0:=k6r (z2v a0.v).inv e9.v.inv l9 r7;obtain⟨⟨v8,o9⟩,s8,n7⟩:=z3f (show BdOk ta.q.p from a0.BE▸a0.v.inv.B);have hs:=j5.ext<|(((q1.z6 q2 q3 q4 q5 q6 q7).n1 b4).n1 q24).z3 q25 d3 d4;refine jn (ι:=(Int×Int×Int)×Nat) (ll6 7 8 9 10 13 15) (λv_=>[(19,pta v_.2)]) (λv_ w'=>Fr [] y8 w'/\((ta.fb.hs.getD b5 id0)∈k2.q.p.flat->z3m v_.1.1 v_.1.2.1=0/\(ta.fb.hs.getD b5 id0)∈k2.q.p.at v_.1.1 v_.1.2.1)/\Blk w' v_.2 48 [.int .u8 v_.1.1,.int .i64 v_.1.2.1]) U ?_ ?_;have a3:=f7.ext<|q24.z3 q25 d3 d4;have D:=(D.ext<|q25.n1 d3).fr d4;have b2:=l3.ext<|d3.z1 d4;intro a h;refine rgh none (Fr []) ?_;intro m8 f2 hC;have J5:=f2.size;have a3:=a3.ext f2;have D:=D.ext f2;have b2:=b2.ext f2;have b3:=b3.ext f2;have a7:=a3;have a1:=D;have f5:=b2;have d9:=b3;refine z0c 0 h U z7f U λa h=>z1f (vs:=[_,_]) 1 h U (fx d9.ext) z4y U U λa h=>z0c 2 h U z6b U λa h=>z4r 3 h U z8a U λa h=>z0m 4 h U (fx a1.ext) U z6k U λa h=>z0e 5 h U λa h=>j3j 6 hC h wn U U oo t44 U U λa h=>x2r 7 hC h wn U (by rw[underlying5];rfl) underlying3 t12 U U λa h=>z0e 8 h U λa h=>u0s 9 hC h wn U U t32 U U λa h=>z1d (p:=b5) (id0) 10 h U a3.f.h U z4m U λs6 l6 a h=>z1z 11 h wn U (λ_ hw=>l6 _<|a7.f.h.ext hw) z2y U λa h=>z1v 12 16 kr U ?_ ?_;refine z0n h (z0a U<|z0a U z0f) co9 (y4x k2.q (ta.fb.hs.getD b5 id0) _ b2.b (e9.BE▸e9.v.inv.B)) ?_;rintro _ y9 ⟨⟨e8,f1,j1,rfl,d0⟩,q29⟩ a h;have J6:=q29.size;have D:=D.ext q29;have b3:=b3.ext q29;have hC:=hC.next q29;refine z0b<|z0e 13 h U λa h=>z0k 14 h U λa h=>z0k 15 h U λa h=>z0d 16 U<|z0u h x4f U λG3 Z m3 hz a h=>?_;obtain⟨a5,hg⟩:∃g,g=y9.heap.size:=⟨_,rfl⟩;rw[<-hg]at Z h hz;have g6:a2<a5:=by have:=D.lt;omega
 have h4:m9<a5:=by have:=b3.lt;omega
 have J7:=m3.size;have hC:=hC.next m3;refine z0b<|z0d 17 U<|z0t h U Z U y2m ?_ (h1:=t24);intro z0 a6 m4 hz a h;have J8:=m4.size;have hC:=hC.sp m4;have Z:Blk z0 a5 _ [_,_]:=a6;clear a6;refine z0b<|z0d 18 U<|z0o h U λa h=>?_;refine z0b<|z0q ?_;clear hC a7 a1 f5 d9;exact xB (ll7 7 8 9 10 13 15 19) h U<|jE (((e8,f1,j1),a5)) U ⟨(f2.z3 q29 m3 m4),⟨d0,Z⟩⟩;refine z0u h x4f U λG4 Z k0 hz a h=>?_;obtain⟨a5,hg⟩:∃g,g=m8.heap.size:=⟨_,rfl⟩;rw[<-hg]at Z h hz;have g6:a2<a5:=by have:=D.lt;omega
 have h4:m9<a5:=by have:=b3.lt;omega
 have J9:=k0.size;have b2:=b2.ext k0;have hC:=hC.next k0;refine z0b<|z0d 12 U<|z0n h (z0a U<|z0a U z0f) co9 (y4x k2.q (ta.fb.hs.getD b5 id0) _ b2.b (e9.BE▸e9.v.inv.B)) ?_;rintro _ G5 ⟨⟨e8,f1,j1,rfl,d0⟩,q33⟩ a h;have K0:=q33.size;have Z:=Z.ext q33;have hC:=hC.next q33;refine z0b<|z0e 13 h U λa h=>z0k 14 h U λa h=>z0k 15 h U λa h=>z0d 17 U<|z0t h U Z U y2m ?_ (h1:=t24);intro A0 a6 m5 hz a h;have K1:=m5.size;have hC:=hC.sp m5;have Z:Blk A0 a5 _ [_,_]:=a6;clear a6;refine z0b<|z0d 18 U<|z0o h U λa h=>?_;refine z0b<|z0q ?_;clear hC a7 a1 f5 d9;exact xB (ll7 7 8 9 10 13 15 19) h U<|jE (((e8,f1,j1),a5)) U ⟨(f2.z3 k0 q33 m5),⟨d0,Z⟩⟩;rintro⟨⟨e8,f1,j1⟩,a5⟩ w35 ⟨q35,⟨d0,Z⟩⟩;have K2:=q35.size;have i4:=Z.lt;simp only at d0 Z i4;have d0:=d0 (by rw[e9.BE];exact y0);refine kpC [(7,_),(8,_),(9,_),(10,_),(13,_),(15,_),(19,pta a5)] U<|sr<|fad U z7f ?_;have D:=((D.ext<|q25.n1 d3).fr d4).ext q35;refine z1u (vs:=[_,_]) U D z4y U<|z0l U Z z5k ?_;have a3:=f7.ext<|q24.z4 q25 d3 d4 q35;refine cl (ev2 U) v7c (y5m ta.q e8 f1 _ a3.b (by have:=j9m d0.1;omega) v8 o9 s8 n7) ?_;rintro B8 G6 ⟨h5,i7⟩;have K3:=i7.size;obtain⟨A5,A7,rfl,u9⟩:=h5.sl.form;have k9:=h5.sl.len_le;unfold maxLen at k9;refine lnS U<|eq' U<|kpL (ll7 7 8 9 13 15 19 117) U<|nn<|cd U (λc4=>?_)<|λc4=>?_;refine rg ?_;have O:=((O.ext<|q25.n1 d3).fr d4).ext<|q35.n1 i7;refine z0l U O z5k<|z1r (cs:=[_,_,_,_,_,_]) (ev2 U) x8f (z0g U<|z0g U z0r) U ?_;have Z:=Z.ext i7;refine z0l U Z z5k<|z1r (cs:=[_,_,_,_,_,_]) (ev2 U) x8f (z0g U<|z0g U z0r) U ?_;exact z1i ([xfP b_ p_,xfP e8 f1]) (ev2 U) U y2n<|λA8 G7 v9 h7 y2 K4=>(asg U<|kpL (ll4 7 8 9 13) U<|nl<|jE ((_,_,_)) U ⟨(q24.z6 q25 d3 d4 q35 i7 y2),⟨⟨u6q (z2v a0.v) a0.t l9 e6.1 d0.1 (λe=>by have h_:=d0.2;rw[e9.BE,e]at h_;cases h_) (by show p1.B.at e8 f1=[];rw[<-a0.BE,<-y0h d0.1];exact l82 oo) _,λk hk=>(h7.blk k hk).2⟩,h7.sl⟩⟩);exact sk<|jE ((_,_,_)) U ⟨(q24.z5 q25 d3 d4 q35 i7),⟨⟨v0n (z2v a0.v) _,λk hk=>(by cases hk)⟩,Sl.nil _⟩⟩;exact sk<|jE ((_,_,_)) U ⟨(q24.z3 q25 d3 d4),⟨⟨v0n (z2v a0.v) _,λk hk=>(by cases hk)⟩,Sl.nil _⟩⟩;exact sk<|jE ((_,_,_)) U ⟨(l12 _ _),⟨⟨v0n (z2v a0.v) _,λk hk=>(by cases hk)⟩,Sl.nil _⟩⟩;rintro⟨vP,put,t_⟩ A1 ⟨d1,⟨⟨k8,p9⟩,c9⟩⟩;have K5:=d1.size;have o2:=c9;simp only at k8 p9 c9 o2;obtain⟨AP,cP,rfl,D5⟩:=id c9.form;have D3:=k8.len;have D0:([]:List MOp).length=0:=rfl;have s9:(([]:List MOp)++lm.take jj).length=jj:=x1;have t8:((([]:List MOp)++lm.take jj)++put).length=jj+put.length:=by rw[l13,s9]
 have D2:((([]++lm.take jj)++put)++lm.drop jj).length=lm.length+put.length:=by rw[l13,t8];omega
 refine kpC [(7,_),(8,_),(9,_),(13,.slice AP put.length cP)] U<|jn (ι:=Value) (ll2 7 8) (λv_=>[(21,v_)]) (λv_ w'=>Fr [] A1 w'/\Sl z3c w' v_ ((([]++lm.take jj)++put)++lm.drop jj)) U ?_ ?_;have a9:=o3.ext<|b4.n1 d1;have b7:=o4.ext<|b4.n1 d1;intro a h;refine rgh none (Fr []) ?_;intro s2 i8 hC;have K6:=i8.size;have a9:=a9.ext i8;have b7:=b7.ext i8;have c9:=c9.ext i8;have d7:=a9;have l4:=b7;have l0:=c9;refine z0e 1 h U λa h=>z0e 2 h U λa h=>x1a (p:=jj) 3 hC h wn U U y2n U U λa h=>z0e 5 h U λa h=>z0e 7 h U λa h=>z0e 8 h U λa h=>j8e (p:=jj) 9 kr hC h wn U U y2n oo oo oo U U λa h=>z0d 0 U<|z2p ([]) h z0f U y2n λs7 G8 hg h9 g9 hz a h=>?_;have K7:=g9.size;have a9:=a9.ext g9;have b7:=b7.ext g9;have c9:=c9.ext g9;have hC:=hC.next g9;refine z0b<|z0d 4 U ?_;have b9:=h9;refine z5s h U U h9 a9 y2n U ?_ (hM:=t40) (hb:=oo);intro B9 G9 i0 i9 s3 a h;have K8:=i9.size;have b7:=b7.fr i9<|λk hk hb=>absurd (p8 k hb) (by have:=(b9.blk k hk).1;omega);have c9:=c9.fr i9<|λk hk hb=>absurd (p9 k hb) (by have:=(b9.blk k hk).1;omega);have hC:=hC.step i9<|λk hk h3=>absurd (b9.blk k hk).1 oo;refine z0b<|z0d 6 U ?_;have e0:=i0;refine z5s h U U i0 c9 y2n U ?_ (hM:=t40) (hb:=oo);intro C0 H0 i1 k1 s4 a h;have K9:=k1.size;have b7:=b7.fr k1<|λk hk hb=>absurd (p8 k hb) (by have:=(e0.blk k hk).1;omega);have hC:=hC.step k1<|λk hk h3=>absurd (e0.blk k hk).1 oo;refine z0b<|z0d 10 U ?_;have f9:=i1;refine z5s h U U i1 b7 y2n U ?_ (hM:=t40) (hb:=oo);intro C1 H1 l8 m6 s5 a h;have L0:=m6.size;have hC:=hC.step m6<|λk hk h3=>absurd (f9.blk k hk).1 oo;refine z0b<|z0d 11 U<|z0o h U λa h=>?_;refine z0b<|z0q ?_;clear hC d7 l4 l0;exact xB (ll3 7 8 21) h U<|jE (_) U ⟨((((i8.n1 g9).step i9<|λk hk h3=>absurd (b9.blk k hk).1 oo).step k1<|λk hk h3=>absurd (e0.blk k hk).1 oo).step m6<|λk hk h3=>absurd (f9.blk k hk).1 oo),l8.sl⟩;rintro vA H2 ⟨e3,a8⟩;have L1:=e3.size;have b8:=a8;refine kpC (ll3 7 8 21) U<|sr ?_;have a4:=a4.ext<|b4.n2 d1 e3;refine z0l U a4 z8i<|mv U ?_;have hS:=g4.ext<|(q3.z6 q4 q5 q6 q7 b4 d1).n1 e3;have I:=b6.ext<|(((q1.z6 q2 q3 q4 q5 q6 q7).n1 b4).n1 d1).n1 e3;refine cl (ev2 U) v9p (z5n s p 50 _ ((([]++lm.take jj)++put)++lm.drop jj) _ hS hP oo a8 I) ?_;rintro _ H3 ⟨⟨C4,ws,F1,C6,rfl,hB⟩,q45⟩;obtain⟨s_,u0⟩:=k8.to (y4k a0.v).symm;have t9:=j1i (l1:=lm.take jj) (l2:=lm.drop jj) (z2v hP.v) (by rw[l25];exact j3) ht u0 u3 (by rw[l25];omega);have x9:=hB.o.sl.len_le;unfold maxLen at x9;have L2:=q45.size;refine mv U<|xt U<|xt U<|xt U<|al y5r U<|λC8 H4 B1 k5 f3 L3=>?_;refine asg U<|z0j (vs:=[_,_,_,_,_,_,_,_]) U k5 z9q (λA2 k5 f4 L4=>?_) (h1:=t24);refine asg U ?_;have hG:=j2.ext<|(((q1.z6 q2 q3 q4 q5 q6 q7).n1 b4).n1 d1).z4 e3 q45 f3 f4;have I:=b6.ext<|(((q1.z6 q2 q3 q4 q5 q6 q7).n1 b4).n1 d1).z4 e3 q45 f3 f4;have hS:=g4.ext<|(((q3.z6 q4 q5 q6 q7 b4 d1).n1 e3).n1 q45).z2 f3 f4;have a4:=(a4.ext<|q45.n1 f3).fr f4;have e4:=f8.ext<|b4.z5 d1 e3 q45 f3 f4;have a8:=b8.ext<|q45.z2 f3 f4;have j0:Fr [] w0 A2:=((((q1.z6 q2 q3 q4 q5 q6 q7).n1 b4).n1 d1).z4 e3 q45 f3 f4);have j2:=hG;have b6:=I;have g4:=hS;have f8:=e4;have b8:=a8;have C2:=j0.size;refine kpL (ll5 7 8 21 22 24) U<|nn<|sq<|sr<|mv U<|eq' U<|nn<|cd U (λc5=>?_)<|λc5=>?_;have x8:ws=[]:=(v9l hB oo).2.1;refine sr<|mv U<|lnS U<|eq' U<|mv U<|gs 146 U (λg0=>?_)<|λhh=>absurd (by rw[x8];rfl) hh;refine gY U<|cl z0f cO (y9v _ hG I) ?_;rintro _ H5 ⟨rfl,r8⟩;have L5:=r8.size;refine pkt U<|asg U<|kpL (ll1 6) U<|nn<|rt<|tr<|r1 U ?_;exact⟨_,rfl,by first|rfl|exact congrArg Value.bool<|decide_eq_true sp0,(j0.n1 r8)⟩;obtain⟨F2,E9,p0,x7,n8,n9⟩:=t9.resolve_left<|λh=>c5 (hB.er _ h).1;have p5:=(hB.ok _ _ p0).1;refine sk<|tn<|sr<|z0l U a4 z8i<|mv U<|mv U<|cl (ev3 U) cO (u9f s p 50 _ _ lm ((([]++lm.take jj)++put)++lm.drop jj) _ hS hP oo oo e4 a8 I h8 (λu v=>BrE (fac s.q.p.flat.length u)<|fac s.q.p.flat.length v)<|λu v c d hn hu hv hk hc hd=>k0e hn hu hv hk hc hd) ?_;rintro _ A3 ⟨⟨C5,C7,rfl,u7⟩,q49⟩;have L6:=q49.size;obtain⟨p7,l5⟩:=(u7.2 _ _ j3).2 _ _ p0;have l5:=l5 x7 (by rw[n8]) (by rw[n8]) n9;refine mv U<|xt U<|xt U<|asg U<|asg U ?_;have hG:=j2.ext q49;have I:=b6.ext q49;have hS:=g4.ext q49;have e4:=f8.ext q49;have a8:=b8.ext q49;have k7:Fr [] w0 A3:=(j0.n1 q49);have j2:=hG;have b6:=I;have g4:=hS;have f8:=e4;have b8:=a8;have C3:=k7.size;refine kpL (ll3 24 25 26) U<|nn<|sr<|mv U<|eq' U<|mv U<|gs 158 U (λg1=>?_)<|λhh=>absurd (by exact p5) hh;refine gY U<|mv U<|gY U<|eq' U<|pkt U<|mv U<|gs 162 U (λg2=>?_)<|λhh=>absurd (by exact p7) hh;refine gY U<|mv U<|pkt U<|mv U<|gs 165 U (λg3=>?_)<|λhh=>absurd (by exact l5) hh;refine gY U<|cl z0f cO (y9v _ hG I) ?_;rintro _ H6 ⟨rfl,r9⟩;have L7:=r9.size;refine pkt U<|asg U<|kpL (ll1 6) U<|nn<|rt<|r1 U ?_;exact⟨_,rfl,by first|rfl|exact congrArg Value.bool<|decide_eq_true sp0,(k7.n1 r9)⟩
theorem k4f (x:SV×SV)(bs ms:List UInt8)(D I:Int)(w0:World)(Z:0<=D/\D<=255)(a0:0<=I/\I<=255)(hG:Glob w0)(O:StT w0)(hs:Sl Enc.b w0 (slv x.1) bs)(hm:Sl Enc.b w0 (slv x.2) ms):Rets prog 3 #[.agg #[slv x.1,slv x.2],.int .u8 D,.int .u8 I] w0 λr w'=>r=.bool true/\Fr [] w0 w':=by
 obtain⟨⟨A,n,c⟩,M,m,d⟩:=x;have e1:n=bs.length:=z2f hs;have e2:m=ms.length:=z2f hm;subst e1 e2;exact j4u A M c d bs ms D I w0 Z a0 hG O hs hm
end Go.Proofs.YtkafbfjmcigaiaaGreatDoor
