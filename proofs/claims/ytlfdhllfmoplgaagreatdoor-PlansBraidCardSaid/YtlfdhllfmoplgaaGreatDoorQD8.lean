/- Texts of the proof, joined. -/
import Derived.Test.YtlfdhllfmoplgaaGreatDoorRows
import Derived.Test.YtlfdhllfmoplgaaGreatDoorQD7
set_option linter.unusedVariables false
set_option linter.unusedSimpArgs false
set_option maxHeartbeats 4000000
namespace Go.Proofs.YtlfdhllfmoplgaaGreatDoor
open Go.Lw Go.G21 Go.G08 _root_.Go.Proofs.Tryz
theorem k2g:z1u prog 169 1:=λ_=>kr
theorem k1k (w:World):(zeroValue 169).run prog w=.ok .nilFunc w:=kr
theorem u2x {t1 t2:List TQ}(h:z2l t1=z2l t2):t1.length=t2.length/\∀y,(t1.getD y tq0).2.length=(t2.getD y tq0).2.length/\∀n,((t1.getD y tq0).2.getD n lq0).p=((t2.getD y tq0).2.getD n lq0).p:=by
 refine⟨?_,λy=>⟨?_,λn=>?_⟩⟩;rw[<-z9a,h,z9a];rw[<-z3g,h,z3g];rw[<-z9z,h,z9z]
theorem u4h (v1 v2:Value)(D I:List LId)(w0:World)(h1:Sl z1g w0 v1 D)(O:Sl z1g w0 v2 I)(hl:D.length<=100000)(Z:D=I):Rets prog 53 #[v1,v2] w0 λr w'=>r=.bool true/\Fr [] w0 w':=
 Rets.mono (y6y v1 v2 D I w0 h1 O hl) (by rintro r w' ⟨rfl,hf⟩;exact⟨congrArg Value.bool (decide_eq_true Z),hf⟩)
theorem v9k (D I:FbQ)(w0:World)(h1:FbAt w0 D)(h2:FbAt w0 I)(a9:∀y n,((D.ts.getD y tq0).2.getD n lq0).ths.length<=100000)(a7:D.hs.length<=100000)(a8:D.fs.length<=100000)(he:D.p=I.p):Rets prog 41 #[fvv D,fvv I] w0 λr w'=>r=.bool true/\Fr [] w0 w':=by
 have ht:z2l D.ts=z2l I.ts:=congrArg Fb.t he;have a3:D.cs=I.cs:=congrArg Fb.c he;have a4:D.hs=I.hs:=congrArg Fb.h he;have a6:D.fs=I.fs:=congrArg Fb.f he;obtain⟨b0,a5⟩:=u2x ht;refine we [(0,fvv D),(1,fvv I)] func41 U ntmps41 U (.c2 U U) ?_;have a0:=h1;have a1:=h2;refine sr (bx U (λg2 w1 b1 O q1 z1=>(bx U (λg3 w2 b2 Z q2 z2=>(asg U (nn (sr (al k1k U (λg5 w3 b3 a2 q3 z3=>(z3b U a2 U k2g (λw4 a2 q4 z4=>(nn (sr (z5w z0f (ev1 U) (asg U (nn (sq (x7a (r:=4) (L':=[]) ((((True/\D.cs=I.cs)/\D.hs=I.hs)/\D.fs=I.fs)) .nil ?_ ?_))))))))))))))))));refine fad U y0v ?_;have O:=(O.ext (q2.n1 q3)).fr q4;refine z0i U O U x5s (fad U y0v ?_);have Z:=(Z.ext q3).fr q4;refine z0i U Z U x5s (mv U ?_);have h1:=a0.ext (q1.z3 q2 q3 q4);have h2:=a1.ext (q1.z3 q2 q3 q4);refine cl (ev3 U) (mkC func95) (u8p _ _ D.ts I.ts _ h1.t h2.t g5 h1.tt h2.tt a2 b0 (λi _=>⟨(a5 i).1,λk _=>⟨(a5 i).2 k,a9 i k⟩⟩)) U ?_;rintro _ w5 ⟨rfl,q5⟩;refine mv U (gs 14 U (λg0=>?_) (λhh=>absurd (by trivial) hh));refine gY U (fad U y6t (gY U ?_));have O:=O.ext q5;refine z0i U O U j1p (gY U (fad U y6t (gY U ?_)));have Z:=Z.ext q5;refine z0i U Z U j1p (gY U ?_);have h1:=a0.ext (q1.z4 q2 q3 q4 q5);have h2:=a1.ext (q1.z4 q2 q3 q4 q5);refine cl (ev2 U) (mkC func96) (j4c _ _ D.cs I.cs _ h1.c h2.c) U ?_;rintro _ w6 ⟨rfl,q6⟩;refine pkt U (mv U (gs 21 U (λg1=>?_) (λhh=>absurd (by exact a3) hh)));refine gY U (fad U z4z (gY U ?_));have O:=O.ext q6;refine z0i U O U z4s (gY U (fad U z4z (gY U ?_)));have Z:=Z.ext q6;refine z0i U Z U z4s (gY U ?_);have h1:=a0.ext (q1.z5 q2 q3 q4 q5 q6);have h2:=a1.ext (q1.z5 q2 q3 q4 q5 q6);refine cl (ev2 U) j8x (y6y _ _ D.hs I.hs _ h1.h h2.h a7) U ?_;rintro _ w7 ⟨rfl,q7⟩;refine pkt U (mv U (gs 28 U (λg2=>?_) (λhh=>absurd (by exact a4) hh)));refine gY U (fad U y5s (gY U ?_));have O:=O.ext q7;refine z0i U O U z4s (gY U (fad U y5s (gY U ?_)));have Z:=Z.ext q7;refine z0i U Z U z4s (gY U ?_);have h1:=a0.ext (q1.z6 q2 q3 q4 q5 q6 q7);have h2:=a1.ext (q1.z6 q2 q3 q4 q5 q6 q7);refine cl (ev2 U) j8x (y6y _ _ D.fs I.fs _ h1.f h2.f a8) U ?_;rintro _ w8 ⟨rfl,q8⟩;exact pkt U (asg U (z9u U .nil (q5.n3 q6 q7 q8)));intro w9 q9;have z9:=q9.size;exact tn (rt (r1 results41 U ⟨_,rfl,by simp[a3,a4,a6],(q1.z4 q2 q3 q4 q9)⟩))
theorem u6f (v1 v2:Value)(D Z:List IQ)(w0:World)(h1:Sl z6l w0 v1 D)(h2:Sl z6l w0 v2 Z)(I:IqAt w0 D)(O:IqAt w0 Z)(hl:D.length=Z.length)(he:∀i,i<D.length->(D.getD i iq0).2=(Z.getD i iq0).2/\(D.getD i iq0).2.length<=100000):Rets prog 90 #[v1,v2,.func (.func 53) #[] #[]] w0 λr w'=>r=.bool true/\Fr [] w0 w':=by
 obtain⟨A1,k1,rfl,b0⟩:=id h1.form;obtain⟨A2,k2,rfl,b1⟩:=id h2.form;have a7:=h1.len_le;unfold maxLen at a7;refine we [(0,.slice A1 D.length k1),(1,.slice A2 Z.length k2),(2,.func (.func 53) #[] #[])] func90 U ntmps90 U (.c3 U U U) ?_;have a5:=h1;have a6:=h2;have a3:=I;have a4:=O;refine sr (asg U (nn (sq (sr (mv U (lnS U underlying23 (mv U (lnS U underlying23 (ne' U (nn (cd U (λc0=>?_) (λc0=>?_))))))))))));exfalso;omega;refine sk (tn (sq (sr (mv U (lnS U underlying23 (mv U (nn (bl (lpK (ι:=Nat) (ll4 1 2 15 16) (λi=>[(17,.int .i64 (i:Int))]) (λi w'=>Fr [] w0 w'/\i<=D.length) (λi=>D.length-i) 0 (csu U) ⟨l12 _ _,l15 _⟩ ?_)))))))));rintro i w1 ⟨q1,hi⟩;refine kpC (ll5 1 2 15 16 17) (csu U) (sr (lt' U (nn (sq (cd U (λc1=>?_) (λc1=>?_))))));have a2:=he i oo;refine sk (tn (sq (bl (sr (mv U ?_)))));have h1:=a5.ext q1;refine z1b (iq0) U h1 U y3m z1h (λa8 a0=>?_);refine z1d U (a0 _ h1) z4s (asg U (asg U (nn (sr (mv U (mv U ?_))))));have h2:=a6.ext q1;refine z1b (iq0) U h2 U y3m z1h (λa9 a1=>?_);refine z1d U (a1 _ h2) z4s (asg U (nn (sr (mv U (mv U (mv U ?_))))));have I:=a3.ext q1;have O:=a4.ext q1;refine clv (us:=[]) (ws:=[]) U (ev2 U) j8x (u4h _ _ (D.getD i iq0).2 (Z.getD i iq0).2 _ (z1y I i) (z1y O i) a2.2 a2.1) U t14 ?_;rintro _ w2 ⟨rfl,q2⟩;refine nt' U (kpL (ll6 1 2 15 16 17 30) (csu U) (nn (cd U (λc2=>?_) (λc2=>?_))));exact absurd c2 dd;exact sk (bn' (tn (rg (z0w U (wi6 oo) (mv U (nl (lpE (i+1) (csu U) ⟨(q1.n1 q2),oo⟩ oo)))))));obtain rfl:i=D.length:=by omega
 exact ex (te (te (xh (tn (sr (asg U (kpL (ll1 6) (csu U) (nn (rt (r1 results90 U ⟨_,rfl,rfl,q1⟩))))))))))
theorem x8q {D I:List IQ}{O Z:Nat}(h1:O<=D.length)(h2:Z<=I.length)(e1:(plB D).take O=trimB (plB D))(e2:(plB I).take Z=trimB (plB I))(he:trimB (plB D)=trimB (plB I)):(D.take O).length=(I.take Z).length/\∀i,((D.take O).getD i iq0).2=((I.take Z).getD i iq0).2:=by
 have e:plB (D.take O)=plB (I.take Z):=by
  show (D.take O).map Prod.snd=(I.take Z).map Prod.snd;rw[List.map_take,List.map_take];exact e1.trans (he.trans e2.symm)
 refine⟨by have:=congrArg List.length e;simpa only[plB,l18] using this,λi=>?_⟩;rw[<-z4c,<-z4c,e]
theorem y9f (v1 v2:Value)(Z l2:List IQ)(w0:World)(h1:Sl z6l w0 v1 Z)(D:Sl z6l w0 v2 l2)(O:IqAt w0 Z)(I:IqAt w0 l2)(b4:Z.length<=40)(b5:l2.length<=40)(h4:z9o Z)(he:trimB (plB Z)=trimB (plB l2)):Rets prog 89 #[v1,v2] w0 λr w'=>r=.bool true/\Fr [] w0 w':=by
 obtain⟨A1,c1,rfl,b6,b0,a8⟩:=id h1;obtain⟨A2,c2,rfl,b7,b1,a9⟩:=id D;clear a8 a9;unfold maxLen at b0 b1;refine we [(0,.slice A1 Z.length c1),(1,.slice A2 l2.length c2)] func89 U ntmps89 U (.c2 U U) ?_;have b2:=h1;have b3:=D;have b8:=O;have b9:=I;refine sr (asg U (nn (sq ?_)));intro a h;refine z0h none (λwb w'=>Fr [] wb w') z2o ?_;intro w1 q1;have h1:=h1.ext q1;have D:=D.ext q1;have O:=O.ext q1;have I:=I.ext q1;have hC:Fr [] w1 w1:=l12 _ _;have a2:=h1;have a3:=D;have a6:=O;have a7:=I;refine z0d 0 h U λa h=>z0d 1 h U λa h=>z0d 4 h U λa h=>z0d 5 h U λa h=>z0e 2 U (z0n h (z0a U z0f) (mkC func91) (y9l _ Z _ h1 O) ?_);rintro _ w2 ⟨m1,rfl,a0,a4,q2⟩ a h;have D:=D.ext q2;have I:=I.ext q2;have hC:=hC.next q2;refine z0b (v6c (p:=m1) 3 hC h wn U U y3m oo oo oo U U λa h=>z0e 6 U (z0n h (z0a U z0f) (mkC func91) (y9l _ l2 _ D I) ?_));rintro _ w3 ⟨m2,rfl,a1,a5,q3⟩ a h;have h1:=h1.ext (q2.n1 q3);have D:=D.ext q3;have O:=O.ext (q2.n1 q3);have I:=I.ext q3;have hC:=hC.next q3;refine z0b (v6c (p:=m2) 7 hC h wn U U y3m oo oo oo U U λa h=>z0e 8 U (z0n h (z0a U (z0a U (z0a U z0f))) (mkC func90) (u6f _ _ (Z.take m1) (l2.take m2) _ (h1.take U a0 oo t41 (λ_=>rfl)) (D.take U a1 oo t41 (λ_=>rfl)) (y5n U O) (y5n U I) (x8q a0 a1 a4 a5 he).1 (λi _=>⟨(x8q a0 a1 a4 a5 he).2 i,l32 (z3j (λq q4=>h4 q (l114 q4)) i) oo⟩)) ?_));rintro _ w4 ⟨rfl,q4⟩ a h;have hC:=hC.next q4;refine z0b (z0e 9 U (z0q h U λa h=>?_));refine z0b (z0o ?_);clear hC a2 a3 a6 a7;exact bk (h.sub (L':=ll1 4) (csu U)) (tn (rt (r1 results89 U ⟨_,rfl,rfl,(q1.n3 q2 q3 q4)⟩)))
theorem v9z (D I:BdQ)(w0:World)(h1:BdAt w0 D)(h2:BdAt w0 I)(a5:D.fs.length<=40)(a6:I.fs.length<=40)(a7:z9o D.fs)(a2:D.bs.length<=40)(a3:I.bs.length<=40)(a4:z9o D.bs)(ef:trimB (plB D.fs)=trimB (plB I.fs))(eb:trimB (plB D.bs)=trimB (plB I.bs)):Rets prog 39 #[bvv D,bvv I] w0 λr w'=>r=.bool true/\Fr [] w0 w':=by
 refine we [(0,bvv D),(1,bvv I)] func39 U ntmps39 U (.c2 U U) ?_;have a0:=h1;have a1:=h2;refine sr (bx U (λg2 w1 a8 O q1 z1=>(bx U (λg3 w2 a9 Z q2 z2=>(asg U (nn (sr (asg U (nn (sq (x7a (r:=4) (L':=[]) ((True\/False)) .nil ?_ ?_)))))))))));refine mv U (fad U y4g ?_);have O:=O.ext q2;refine z0i U O U x2f (fad U y4g (z0i U Z U x2f ?_));have h1:=a0.ext (q1.n1 q2);have h2:=a1.ext (q1.n1 q2);refine clv (us:=[]) (ws:=[]) U (ev2 U) (mkC func89) (y9f _ _ D.fs I.fs _ h1.f h2.f h1.fi h2.fi a5 a6 a7 ef) U t14 ?_;rintro _ w3 ⟨rfl,q3⟩;refine mv U (gs 12 U (λg0=>?_) (λg0=>?_));refine gY U (mv U (gY U (fad U y1b (gY U ?_))));have O:=O.ext q3;refine z0i U O U x2f (gY U (fad U y1b (gY U ?_)));have Z:=Z.ext q3;refine z0i U Z U x2f (gY U ?_);have h1:=a0.ext (q1.n2 q2 q3);have h2:=a1.ext (q1.n2 q2 q3);refine clv (us:=[]) (ws:=[]) U (ev2 U) (mkC func89) (y9f _ _ D.bs I.bs _ h1.b h2.b h1.bi h2.bi a2 a3 a4 eb) U t14 ?_;rintro _ w4 ⟨rfl,q4⟩;exact pkt U (asg U (z9u U .nil (q3.n1 q4)));exact gN U (gN U (gN U (gN U (gN U (gN U (pkf U (asg U (z9u U .nil q3))))))));intro w5 q5;have z5:=q5.size;exact tn (rt (r1 results39 U ⟨_,rfl,rfl,(q1.n2 q2 q5)⟩))
theorem StSz.ths {s:StQ}(h:StSz s)(y n:Nat):((s.fb.ts.getD y tq0).2.getD n lq0).ths.length<=100000:=by
 by_cases hy:y<s.fb.ts.length;by_cases hn:n<(s.fb.ts.getD y tq0).2.length;exact((h.tb _ (z1a (d:=tq0) hy)).2 _ (z1a (d:=lq0) hn)).1;rw[List.getD,l26 oo];exact l15 _;rw[show s.fb.ts.getD y tq0=tq0 by rw[List.getD,l26 oo];rfl];exact l15 _
theorem sz1:z1u prog 1 1:=λ_=>kr
theorem sz2:z1u prog 2 1:=λ_=>kr
theorem u3s (D I:StQ)(w0:World)(h1:StAt w0 D)(h2:StAt w0 I)(sz1:StSz D)(sz2:StSz I)(er:D.rk=I.rk)(ef:trimB (plB D.q.fs)=trimB (plB I.q.fs))(eb:trimB (plB D.q.bs)=trimB (plB I.q.bs))(ey:D.ys.map YQ.p=I.ys.map YQ.p)(a2:D.fb.p=I.fb.p):Rets prog 13 #[svv D,svv I] w0 λr w'=>r=.bool true/\Fr [] w0 w':=by
 have a5:D.ys.length=I.ys.length:=by have:=congrArg List.length ey;simpa only[l18] using this
 have a4:∀i,i<D.ys.length->(D.ys.getD i yq0).p=(I.ys.getD i yq0).p:=λi hi=>by
  have:=congrArg (λl=>l.getD i yn0) ey;simp only[List.getD,l23]at this;rw[l10 hi,l10 oo]at this;rw[List.getD,List.getD,l10 hi,l10 oo];exact this
 have a3:∀y n,((D.fb.ts.getD y tq0).2.getD n lq0).ths.length<=100000:=sz1.ths;refine we [(0,svv D),(1,svv I)] func13 U ntmps13 U (.c2 U U) ?_;have a0:=h1;have a1:=h2;refine sr (bx U (λg2 w1 a6 O q1 z1=>(bx U (λg3 w2 a7 Z q2 z2=>(asg U (nn (sr (asg U (nn (sq (x7a (r:=4) (L':=[]) (((((D.rk=I.rk)\/False)\/False)\/False)) .nil ?_ ?_)))))))))));refine fad U y2q ?_;have O:=O.ext q2;refine z0i U O U na3 (fad U y2q (z0i U Z U na3 (eq' U (mv U (gs 11 U (λg0=>?_) (λg0=>?_))))));refine gY U (fad U z8g (gY U (z1t (vs:=[_,_]) U O z5a U (gY U (fad U z8g (gY U (z1t (vs:=[_,_]) U Z z5a U (gY U ?_))))))));have h1:=a0.ext (q1.n1 q2);have h2:=a1.ext (q1.n1 q2);refine cl (ev2 U) (mkC func39) (v9z D.q I.q _ h1.b h2.b sz1.bf sz2.bf sz1.f4 sz1.bb sz2.bb sz1.b4 ef eb) U ?_;rintro _ w3 ⟨rfl,q3⟩;refine pkt U (mv U (gs 18 U (λg1=>?_) (λg1=>?_)));refine gY U (fad U y8g (gY U ?_));have O:=O.ext q3;refine z0i U O U y4a (gY U (fad U y8g (gY U ?_)));have Z:=Z.ext q3;refine z0i U Z U y4a (gY U (mv U (gY U ?_)));have h1:=a0.ext (q1.n2 q2 q3);have h2:=a1.ext (q1.n2 q2 q3);refine cl (ev3 U) (mkC func40) (u1g _ _ D.ys I.ys _ h1.y h2.y h1.ya h2.ya a5 a4) U ?_;rintro _ w4 ⟨rfl,q4⟩;refine pkt U (mv U (gs 26 U (λg2=>?_) (λg2=>?_)));refine gY U (fad U z3r (gY U ?_));have O:=O.ext q4;refine z1t (vs:=[_,_,_,_]) U O x8v U (gY U (fad U z3r (gY U ?_)));have Z:=Z.ext q4;refine z1t (vs:=[_,_,_,_]) U Z x8v U (gY U ?_);have h1:=a0.ext (q1.n3 q2 q3 q4);have h2:=a1.ext (q1.n3 q2 q3 q4);refine cl (ev2 U) (mkC func41) (v9k D.fb I.fb _ h1.f h2.f a3 sz1.hs sz1.fl a2) U ?_;rintro _ w5 ⟨rfl,q5⟩;exact pkt U (asg U (z9u U .nil (q3.n2 q4 q5)));exact gN U (gN U (gN U (gN U (gN U (pkf U (asg U (z9u U .nil (q3.n1 q4))))))));exact gN U (gN U (gN U (gN U (gN U (gN U (pkf U (mv U (gN U (gN U (gN U (gN U (gN U (pkf U (asg U (z9u U .nil q3)))))))))))))));exact gN U (gN U (gN U (gN U (gN U (pkf U (mv U (gN U (gN U (gN U (gN U (gN U (gN U (pkf U (mv U (gN U (gN U (gN U (gN U (gN U (pkf U (asg U (z9u U .nil (l12 _ _)))))))))))))))))))))));intro w6 q6;have z6:=q6.size;exact tn (rt (r1 results13 U ⟨_,rfl,by simp[er],(q1.n2 q2 q6)⟩))
open Go.Lw Go.G21 Go.G08 Go.G09 Go.G26 _root_.Go.Proofs.Tryz
theorem u4a {l:List MOp}{o:MOp}(h:isP l=true)(D:isP [o]=true):isP (l++[o])=true:=by
 unfold isP at *;rw[List.all_append,h,D];rfl
theorem j5d {w':World}{p:MSt}{o:MOp}{N base:Nat}{A:Option Addr}{ws:List Int}{s':StQ}(h:BrR w' p [o] N base A ws s' 0):isP [o]=true:=by
 cases e:isP [o] with
 | true=>rfl
 | false=>exact absurd (h.er 1 (v1i e)).1 dd
theorem u8s (s:StQ)(p:MSt)(N:Nat)(M:Option Addr)(cM:Nat)(bs:List UInt8)(w0:World)(Z:StK UK w0 s)(hP:StP s p N)(hN:N<=100)(hs:Sl Enc.b w0 (.slice M bs.length cM) bs)(b3:StT w0):Rets prog 11 #[svv s,.slice M bs.length cM] w0 λr w'=>(∃(A:Option Addr) (l:List MOp) (c:Nat),r=.slice A l.length c/\Lw.Own z4n 44 w0.heap.size w' (.slice A l.length c) l/\isP l=true/\l.length<=24/\∃m,z3x 0 (nrm p) l=.ok m)/\Fr [] w0 w':=by
 have f2:=hs.len_le;unfold maxLen at f2;refine we [(0,svv s),(1,.slice M bs.length cM)] func11 U ntmps11 U (.c2 U U) ?_;have e6:=hs;have d0:=b3;refine sr (bx U (λg2 w1 i5 D q1 z1=>(asg U (nn (sr (asg U (nn (sq (sr (asg U (nn (bl ?_))))))))))));have Z:=Z.ext q1;refine lpK (ι:=Nat×StQ×Value) (ll2 1 2) (λp_=>[(6,.int .i64 (p_.1:Int)),(5,p_.2.2)]) (λp_ w'=>Fr [] w0 w'/\(p_.1<=bs.length/\p_.1<=24)/\Blk w' g2 34 (stL p_.2.1)/\StK UK w' p_.2.1/\∃(l:List MOp) (qi m:MSt),(isP l=true/\l.length<=p_.1/\z3x 0 (nrm p) l=.ok m/\Eqv m qi/\StP p_.2.1 qi (N+p_.1))/\Lw.Own z4n 44 w0.heap.size w' p_.2.2 l) (λp_=>24-p_.1) (0,s,_) (csu U) ⟨q1,⟨⟨l15 _,l15 _⟩,D,Z,[],p,nrm p,⟨rfl,l21 _,rfl,(x0t hP.v).symm,hP⟩,Own.nil _⟩⟩ ?_;rintro⟨i,si,vP⟩ w2 ⟨q2,⟨⟨e1,e2⟩,D,Z,l,qi,m,⟨hil,hll,hru,hE,hPi⟩,ho⟩⟩;simp only at e1 e2 D Z hll hPi ho;have z2:=q2.size;have e7:=D.lt;refine kpC [(1,_),(2,_),(6,.int .i64 (i:Int)),(5,vP)] (csu U) (sq (sq (rbo (r:=23) (L':=ll4 1 2 5 6) ((((i:Int)<(bs.length:Int))/\((i:Int)<24))) (csu U) ?_ ?_)));refine mv U (mv U (lnS U underlying51 (lt' U (mv U (gs 20 U (λg0=>?_) (λg0=>?_))))));exact gY U (mv U (gY U (lt' U (pkt U (rbe U (csu U))))));exact gN U (gN U (pkf U (rbe U (csu U))));refine tn (cd U (λc0=>?_) (λc0=>?_));have a5:g2∉z0u vP:=ho.neB D dd;have f4:=(bs.getD i 0).toNat_lt;refine sk (tn (sq (bl (sr (mv U (mv U ?_))))));have hs:=e6.ext q2;refine z1b (0) U hs U u8d z1h (λg9 d6=>?_);refine z1d U (d6 _ hs) na5 (v4f U U t78 U (z6i U (us underlying5) underlying3 (wi6 oo) (asg U (kpL (ll5 1 2 5 6 7) (csu U) (nn (sr (mv U (x1r U U t38 (z2x U (wi6 oo) (z1v (cs:=[_,_,_,_,_,_]) (ev2 U) u0d (z0g U (z0g U z0r)) U ?_))))))))));refine al u0o U (λg8 w3 i7 O q3 z3=>?_);refine z0j (vs:=[_,_,_,_,_,_]) U O v2o (λw4 O q4 z4=>?_) (h1:=t36);refine nn (jn (ι:=MOp) (ll5 1 2 5 6 8) (λo_=>[]) (λo_ w'=>Fr [g8] w4 w'/\Blk w' g8 44 [.int .u8 o_.k,.int .u8 o_.d,.int .u8 o_.b,.int .i64 o_.p,.int .u8 o_.y,.int .i64 o_.r]) (csu U) ?_ ?_);refine sq (rbo (r:=48) (L':=ll6 1 2 5 6 7 8) ((((((bs.getD i 0).toNat:Int) % 2)=1)/\(0<(si.fb.h.2.1:Int)))) (csu U) ?_ ?_);refine mv U (mv U ?_);have hs:=e6.ext (q2.z2 q3 q4);refine z1b (0) U hs U u8d z1h (λh0 d7=>?_);refine z1d U (d7 _ hs) na5 (x1r U U t38 (eq' U (mv U (gs 42 U (λg1=>?_) (λg1=>?_)))));refine gY U (fad U z3r (gY U (y2r U z4z (gY U ?_))));have D:=(D.ext q3).fr q4;exact z0i U D U z4s (gY U (lnS U underlying30 (gY U (gt' U (pkt U (rbe U (csu U)))))));exact gN U (gN U (gN U (gN U (gN U (pkf U (rbe U (csu U)))))));refine tn (cd U (λc1=>?_) (λc1=>?_));have Z:=(Z.ext q3).fr q4 t32;have i8:=z1x Z.at.f.h;have f4:=(bs.getD i 0).toNat_lt;obtain⟨jj,i9⟩:∃jj:Nat,(jj:Int)=((bs.getD i 0).toNat:Int) / 2 % (si.fb.h.2.1:Int):=⟨(((bs.getD i 0).toNat:Int) / 2 % (si.fb.h.2.1:Int)).toNat,Int.toNat_of_nonneg (Int.emod_nonneg _ oo)⟩;have j0:=Int.emod_lt_of_pos (((bs.getD i 0).toNat:Int) / 2) (show (0:Int)<(si.fb.h.2.1:Int) by omega);refine sq ?_;have D:=(D.ext q3).fr q4;intro a h;refine z0h none (λwb w'=>Fr [] wb w') z2o ?_;intro w5 q5;have z5:=q5.size;have D:=D.ext q5;have Z:=Z.ext q5;have hC:Fr [] w5 w5:=l12 _ _;have a1:=D;have b2:=Z;refine z0c 0 h U z8g U λa h=>z1i (vs:=[_,_]) 1 h U (λ_ hw=>(a1.ext hw)) z5a U U λa h=>z0c 2 h U z3r U λa h=>z3w 3 h wn U z4z U λa h=>z0m 4 h U (λ_ hw=>a1.ext hw) U z4s U λa h=>z0d 5 h U λa h=>z0c 6 h U z3r U λa h=>z3w 7 h wn U z4z U λa h=>z0m 8 h U (λ_ hw=>a1.ext hw) U z4s U λa h=>z7x 9 hC h wn U underlying30 U λa h=>j6a 10 kr kr kr hC h wn U U oo t38 U U λa h=>z0z (p:=jj) (id0) 11 h U Z.at.f.h U z3k U λh2 d9 a h=>z1o 12 h wn U (λ_ hw=>d9 _ (b2.at.f.h.ext hw)) z2h U λa h=>z1w 13 17 kr U ?_ ?_;refine z0n h (z0a U (z0a U z0f)) (mkC func34) (v9s si.q (si.fb.hs.getD jj id0) _ Z.at.b (hPi.BE▸hPi.v.inv.B)) ?_;rintro _ w6 ⟨⟨b_,p_,e_,rfl⟩,q6⟩ a h;have z6:=q6.size;have hC:=hC.next q6;refine z0b (z0d 14 h U λa h=>z0l 15 h U λa h=>z0l 16 h U λa h=>z0e 17 U (z0y h x9x U λw7 a0 q7 hz a h=>?_));obtain⟨d3,hg⟩:∃g,g=w6.heap.size:=⟨_,rfl⟩;rw[<-hg]at a0 h hz;have z7:=q7.size;have Z:=Z.ext (q6.n1 q7);have hC:=hC.next q7;refine z0b (z0e 18 U (z0t h U a0 U y4e ?_ (h1:=t36)));clear h a;intro w8 b4 q8 hz a h;have z8:=q8.size;have Z:=Z.fr q8 t32;have hC:=hC.sp q8;clear a0 hz;have a0:Blk w8 d3 _ [_,_]:=b4;clear b4;refine z0b (z0e 19 U (z0q h U λa h=>?_));refine z0b (z0o ?_);clear hC a1 b2;refine bk (h.sub (L':=ll6 1 2 5 6 8 9) (csu U)) (tn (rg (z0k U a0 z5s (z1v (cs:=[_,_,_,_,_,_]) (ev2 U) u0d (z0g U (z0g U z0r)) U ?_))));have O:=(O.ext (q5.n2 q6 q7)).fr q8;refine z0j (vs:=[_,_,_,_,_,_]) U O v2o (λw9 O q9 z9=>?_) (h1:=t36);exact nl (jE (_) (csu U) ⟨((l12 [g8] _).z5 q5 q6 q7 q8 q9),(show Blk _ g8 _ [.int .u8 (⟨7,0,b_,p_,0,0⟩:MOp).k,.int .u8 (⟨7,0,b_,p_,0,0⟩:MOp).d,.int .u8 (⟨7,0,b_,p_,0,0⟩:MOp).b,.int .i64 (⟨7,0,b_,p_,0,0⟩:MOp).p,.int .u8 (⟨7,0,b_,p_,0,0⟩:MOp).y,.int .i64 (⟨7,0,b_,p_,0,0⟩:MOp).r] from O)⟩);refine z0y h x9x U λj5 a0 b5 hz a h=>?_;obtain⟨d3,hg⟩:∃g,g=w5.heap.size:=⟨_,rfl⟩;rw[<-hg]at a0 h hz;have l0:=b5.size;have Z:=Z.ext b5;have hC:=hC.next b5;refine z0b (z0e 13 U (z0n h (z0a U (z0a U z0f)) (mkC func34) (v9s si.q (si.fb.hs.getD jj id0) _ Z.at.b (hPi.BE▸hPi.v.inv.B)) ?_));rintro _ j6 ⟨⟨b_,p_,e_,rfl⟩,q11⟩ a h;have l1:=q11.size;have Z:=Z.ext q11;have a0:=a0.ext q11;have hC:=hC.next q11;refine z0b (z0d 14 h U λa h=>z0l 15 h U λa h=>z0l 16 h U λa h=>z0e 18 U (z0t h U a0 U y4e ?_ (h1:=t36)));clear h a;intro g7 b4 b6 hz a h;have l2:=b6.size;have Z:=Z.fr b6 t32;have hC:=hC.sp b6;clear a0 hz;have a0:Blk g7 d3 _ [_,_]:=b4;clear b4;refine z0b (z0e 19 U (z0q h U λa h=>?_));refine z0b (z0o ?_);clear hC a1 b2;refine bk (h.sub (L':=ll6 1 2 5 6 8 9) (csu U)) (tn (rg (z0k U a0 z5s (z1v (cs:=[_,_,_,_,_,_]) (ev2 U) u0d (z0g U (z0g U z0r)) U ?_))));have O:=(O.ext (q5.n2 b5 q11)).fr b6;refine z0j (vs:=[_,_,_,_,_,_]) U O v2o (λj7 O g5 l3=>?_) (h1:=t36);exact nl (jE (_) (csu U) ⟨((l12 [g8] _).z5 q5 b5 q11 b6 g5),(show Blk _ g8 _ [.int .u8 (⟨7,0,b_,p_,0,0⟩:MOp).k,.int .u8 (⟨7,0,b_,p_,0,0⟩:MOp).d,.int .u8 (⟨7,0,b_,p_,0,0⟩:MOp).b,.int .i64 (⟨7,0,b_,p_,0,0⟩:MOp).p,.int .u8 (⟨7,0,b_,p_,0,0⟩:MOp).y,.int .i64 (⟨7,0,b_,p_,0,0⟩:MOp).r] from O)⟩);exact sk (jE (_) (csu U) ⟨(l12 _ _),(show Blk _ g8 _ [.int .u8 (⟨3,0,0,0,0,((bs.getD i 0).toNat:Int) / 2 % 9-4⟩:MOp).k,.int .u8 (⟨3,0,0,0,0,((bs.getD i 0).toNat:Int) / 2 % 9-4⟩:MOp).d,.int .u8 (⟨3,0,0,0,0,((bs.getD i 0).toNat:Int) / 2 % 9-4⟩:MOp).b,.int .i64 (⟨3,0,0,0,0,((bs.getD i 0).toNat:Int) / 2 % 9-4⟩:MOp).p,.int .u8 (⟨3,0,0,0,0,((bs.getD i 0).toNat:Int) / 2 % 9-4⟩:MOp).y,.int .i64 (⟨3,0,0,0,0,((bs.getD i 0).toNat:Int) / 2 % 9-4⟩:MOp).r] from O)⟩);rintro o j8 ⟨a6,O⟩;have l4:=a6.size;have e8:=O.lt;refine kpC (ll5 1 2 5 6 8) (csu U) (sr ?_);have D:=((D.ext q3).fr q4).fr a6;refine z0k U D z8a (z0k U O y2s ?_);have Z:=((Z.ext q3).fr q4 t32).fr a6 t32;have b3:=d0.ext (q2.z3 q3 q4 a6);refine cl (ev2 U) (mkC func35) (v0j si qi (N+i) o _ Z.at hPi oo b3) U ?_;rintro _ j9 ⟨⟨g6,rfl,c9,d5,h7,e0⟩,q15⟩;have l5:=q15.size;have a9:=c9.k;clear c9;refine mv U (xt U (xt U (al y8y U (λi0 k0 h3 b0 a7 l6=>?_))));refine z0j (vs:=[_,_,_,_,_,_,_,_]) U b0 z9q (λk1 b0 a8 l7=>?_) (h1:=t36);refine asg U (kpL (ll7 1 2 5 6 8 11 12) (csu U) (nn (sr ?_)));have D:=(D.ext (q15.n1 a7)).fr a8;refine z0k U D z8a ?_;have O:=(O.ext (q15.n1 a7)).fr a8;refine z0k U O y2s (z1m ([o]) (ev1 U) U y5b (λi2 k2 h5 e3 a2 l8=>?_));have Z:=((Z.ext (q15.n1 a7)).fr a8 t32).ext a2;have b3:=d0.ext ((q2.z6 q3 q4 a6 q15 a7 a8).n1 a2);refine cl (ev2 U) co6 (z7j si qi (N+i) _ [o] _ Z.at hPi t47 e3.sl b3) U ?_;rintro _ k4 ⟨⟨h8,ws,j3,e9,rfl,hB⟩,q19⟩;have l9:=q19.size;have f8:=hB.o.sl.len_le;unfold maxLen at f8;refine mv U (xt U (xt U (xt U (al y8y U (λi1 k5 h4 d1 a3 m0=>?_)))));refine asg U (z0j (vs:=[_,_,_,_,_,_,_,_]) U d1 z9q (λk6 d1 a4 m1=>?_) (h1:=t36));refine asg U (kpL (ll9 1 2 5 6 8 11 12 13 15) (csu U) (nn (sq (rbo (r:=92) (L':=ll6 1 2 5 6 8 11) (((((u5a (doM (nrm qi) o))=0)/\(e9=0))/\((ws.length:Int)<=12))) (csu U) ?_ ?_))));refine mv U (eq' U (mv U (gs 84 U (λg2=>?_) (λg2=>?_))));refine gY U (mv U (gY U (eq' U (pkt U (mv U (gs 88 U (λg3=>?_) (λg3=>?_)))))));exact gY U (mv U (gY U (lnS U underlying22 (gY U (le' U (pkt U (rbe U (csu U))))))));exact gN U (gN U (gN U (pkf U (rbe U (csu U)))));exact gN U (gN U (pkf U (mv U (gN U (gN U (gN U (pkf U (rbe U (csu U)))))))));refine tn (cd U (λc2=>?_) (λc2=>?_));obtain⟨⟨f9,g4⟩,j2⟩:=c2;obtain⟨r',e5⟩:=e0 f9;have d4:=d5 r' e5;obtain⟨m',f6,f1⟩:=u7t (hE.trans (x0t hPi.v)).symm e5;rw[g4]at hB;have f5:=j5d hB;refine sr ?_;have b0:=(b0.ext (a2.n2 q19 a3)).fr a4;refine z0k U b0 z8a ?_;have D:=(D.ext (a2.n2 q19 a3)).fr a4;refine z0j (vs:=[_,_,_,_,_,_,_,_]) U D z9q (λk7 D b7 m2=>?_) (h1:=t36);refine nn (rg (mv U ?_));have O:=((O.ext (a2.n2 q19 a3)).fr a4).fr b7;refine z0k U O y2s (z1m ([o]) (ev1 U) U y5b (λi3 k8 h6 e4 b8 m3=>?_));have D:=D.ext b8;have a9:=(((((a9.ext a7).fr a8 t32).ext (a2.n2 q19 a3)).fr a4 t32).fr b7 t32).ext b8;have ho:=((((((((ho.ext q3).fr q4 (by intro k I hb;rw[l11]at I;subst I;first|exact a5 hb|(have:=ho.blk _ hb;omega))).fr a6 (by intro k I hb;rw[l11]at I;subst I;first|exact a5 hb|(have:=ho.blk _ hb;omega))).ext (q15.n1 a7)).fr a8 (by intro k I hb;rw[l11]at I;subst I;first|exact a5 hb|(have:=ho.blk _ hb;omega))).ext (a2.n2 q19 a3)).fr a4 (by intro k I hb;rw[l11]at I;subst I;first|exact a5 hb|(have:=ho.blk _ hb;omega))).fr b7 (by intro k I hb;rw[l11]at I;subst I;first|exact a5 hb|(have:=ho.blk _ hb;omega))).ext b8;have b1:=ho;refine z2e U ho e4.sl y5b (λj4 k9 ho b9 f7=>?_);have m4:=b9.size;have D:=D.fr b9 (λI=>b1.neB D dd I);have a9:=a9.fr b9 (λk_ f0 _=>by obtain⟨h9,f3⟩:=z7q b1 k_ f0;exact⟨_,_,f3,dd⟩);exact asg U (nl (bn' (tn (rg (mv U (z0w U (wi6 oo) (asg U (nl (lpE ((i+1,g6,_)) (csu U) ⟨(((((q2.z6 q3 q4 a6 q15 a7 a8).n1 a2).n1 q19).z4 a3 a4 b7 b8).step b9 (λk I j1=>absurd (b1.blk k I).1 oo)),⟨⟨sm,sm⟩,D,a9,l++[o],r',m',⟨u4a hil f5,by rw[l13];simp only[l30,l52];omega,x2a hru f6,f1.symm,by rw[<-Nat.add_assoc];exact d4⟩,ho⟩⟩ sm)))))))));refine sk (bn' (tn (rg (mv U (z0w U (wi6 oo) (asg U (nl ?_)))))));have D:=(D.ext (a2.n2 q19 a3)).fr a4;have Z:=(Z.ext (q19.n1 a3)).fr a4 t32;have ho:=((((((ho.ext q3).fr q4 (by intro k I hb;rw[l11]at I;subst I;first|exact a5 hb|(have:=ho.blk _ hb;omega))).fr a6 (by intro k I hb;rw[l11]at I;subst I;first|exact a5 hb|(have:=ho.blk _ hb;omega))).ext (q15.n1 a7)).fr a8 (by intro k I hb;rw[l11]at I;subst I;first|exact a5 hb|(have:=ho.blk _ hb;omega))).ext (a2.n2 q19 a3)).fr a4 (by intro k I hb;rw[l11]at I;subst I;first|exact a5 hb|(have:=ho.blk _ hb;omega));exact lpE ((i+1,si,_)) (csu U) ⟨((((q2.z6 q3 q4 a6 q15 a7 a8).n1 a2).n1 q19).z2 a3 a4),⟨⟨sm,sm⟩,D,Z,l,qi,m,⟨hil,sm,hru,hE,hPi.mono sm⟩,ho⟩⟩ sm;obtain⟨A5,c5,rfl,i4⟩:=ho.sl.form;exact ex (te (te (xh (tn (sr (mv U (asg U (kpL (ll1 4) (csu U) (nn (rt (r1 results11 U ⟨_,rfl,⟨A5,l,c5,rfl,ho,hil,oo,m,hru⟩,q2⟩)))))))))))
end Go.Proofs.YtlfdhllfmoplgaaGreatDoor
namespace Go.G26
open Go.Lw Go.G21 Go.G08 Go.G09
section
variable {w w':World} {S:List Nat}
theorem j1m {τ:TyK}{O base:Nat}{s:StQ}(h:StO τ O base w s)(hf:Fr S w w')(hS:∀k∈S,k<w.heap.size->k<base\/∃(T:Nat) (cs:List Value),Blk w k T cs/\T∉[τ.S,τ.I,τ.Y,τ.P,τ.T,τ.L,O]):StO τ O base w' s:=by
 have m:∀ {α:Type} {E:Enc α} {T:Nat} {v:Value} {ys:List α},Lw.Own E T base w v ys->T∈[τ.S,τ.I,τ.Y,τ.P,τ.T,τ.L,O]->Lw.Own E T base w' v ys:=λh hT=>h.fr hf λk hk hb=>by
  have Z:=h.blk k hb;rcases hS k hk Z.2 with h1|⟨T',cs,h1,h2⟩
  omega;obtain⟨a0,h3⟩:=z7q h k hb;exact h2 (by rw[<-v1u h3 h1];exact hT)
 exact⟨⟨⟨m h.b.f.1 sp0,λq I=>m (h.b.f.2 q I) sp0⟩,⟨m h.b.b.1 sp0,λq I=>m (h.b.b.2 q I) sp0⟩⟩,
  ⟨m h.y.out sp0,λi D=>m (h.y.ins i D) sp0⟩,
  ⟨m h.t.out sp0,λi D=>m (h.t.ins i D) sp0,h.t.off,λi D q I=>⟨m (h.t.lps i D q I).1 sp0,m (h.t.lps i D q I).2 sp0⟩⟩,
  m h.c sp0,m h.h sp0,m h.f sp0,h.sp⟩
end
def StL (Us:List Nat)(L H:Nat)(w:World)(s:StQ):Prop:=H<=w.heap.size/\∀(S:List Nat) (w':World),Fr S w w'->(∀k∈S,k<w.heap.size->(L<=k/\k<H)\/∃T cs,Blk w k T cs/\T∉Us)->StAt w' s
section
variable {Us:List Nat} {L H:Nat} {w w':World} {s:StQ} {S:List Nat}
theorem StL.at (h:StL Us L H w s):StAt w s:=h.2 [] w (l12 _ _) λk D=>by cases D
theorem StL.fr (h:StL Us L H w s)(hf:Fr S w w')(I:∀k∈S,k<w.heap.size->(L<=k/\k<H)\/∃T cs,Blk w k T cs/\T∉Us):StL Us L H w' s:=⟨l32 h.1 hf.size,λS2 w2 D O=>h.2 (S++S2) w2 (hf.trans D) λk Z hl=>by
 by_cases hm:k∈S
 ·exact I k hm hl
 exact(O k ((l22.1 Z).resolve_left hm) (l64 hl hf.size)).imp id λ⟨T,cs,hb,hT⟩=>⟨T,cs,(hf.block k hl hm).symm.trans hb,hT⟩⟩
theorem StL.ext (h:StL Us L H w s)(hf:Fr [] w w'):StL Us L H w' s:=h.fr hf λk D=>by cases D
theorem k2q {w0:World}(h:StK Us w0 s)(hf:Fr [] w0 w)(hL:w0.heap.size<=L)(I:H<=w.heap.size):StL Us L H w s:=⟨I,λS w' D hd=>h S w' (hf.trans D) λk hk hl=>by
 rcases hd k hk (l64 hl hf.size) with x|⟨T,cs,Z,O⟩
 ·omega
 exact⟨T,cs,(hf.block k hl sp0).symm.trans Z,O⟩⟩
theorem k2c {τ:TyK}{D base:Nat}(h:StO τ D base w s)(hb:H<=base)(I:base<=w.heap.size):StL [τ.S,τ.I,τ.Y,τ.P,τ.T,τ.L,D] L H w s:=⟨l32 hb I,λ_ _ hf O=>(j1m h hf λk Z hl=>(O k Z hl).imp (λx=>oo) id).at⟩
theorem u1j {α:Type}{E:Enc α}{T base n c:Nat}{A:Option Addr}{ys:List α}(h:Lw.Own E T base w (.slice A n c) ys)(hn:ys.length≠0):∃g,A=some ⟨g,0,none⟩:=by
 rcases h with ⟨_,rfl⟩|⟨g,cap,cur,e,_⟩
 exact absurd U hn;cases e;exact⟨g,rfl⟩
end
theorem j3j {o:List LId}{a b:LId}{n:Nat}(hn:n+1<o.length)(h1:o.getD n id0=a)(I:o.getD (n+1) id0=b)(D:∀j,j<n->¬(o.getD j id0=a/\o.getD (j+1) id0=b)):nbr o a b=some n:=by
 unfold nbr;rw[List.find?_range_eq_some];exact⟨by simp only[h1,I];simp,l61.2 oo,λj O=>by have:=D j O;simpa only[Bool.not_eq_true',decide_eq_false_iff_not] using this⟩
theorem u3v {o:List LId}{a b:LId}(D:∀j,j+1<o.length->¬(o.getD j id0=a/\o.getD (j+1) id0=b)):nbr o a b=none:=by
 unfold nbr;rw[List.find?_eq_none];intro j I;have:=D j (by have:=l61.1 I;omega);simpa using this
theorem u5q {st:St}{c:Cx}{n:Nat}(h:nbr st.1 c.a c.b=some n):x4v st c=((st.1.set n (st.1.getD (n+1) id0)).set (n+1) (st.1.getD n id0),st.2++[c.n*((n:Int)+1)]):=by
 unfold x4v y7s;rw[h];simp only[l70]
theorem j1f {st:St}{c:Cx}(h:nbr st.1 c.a c.b=none):x4v st c=st:=by unfold x4v;rw[h]
theorem u5w (st:St)(c:Cx):(x4v st c).1.length=st.1.length/\(x4v st c).2.length<=st.2.length+1:=by
 unfold x4v;split;simp[y7s];exact⟨rfl,Nat.le_succ _⟩
def x7p (st:St)(cs:List Cx):St:=cs.foldl x4v st
theorem v4q {st:St}{cs:List Cx}{i:Nat}(h:i<cs.length):x7p st (cs.take (i+1))=x4v (x7p st (cs.take i)) (cs.getD i cx0):=by
 unfold x7p;rw[l47,l10 h,l117,List.getD,l10 h];rfl
theorem y5f:∀(cs:List Cx) (st:St),(x7p st cs).1.length=st.1.length/\(x7p st cs).2.length<=st.2.length+cs.length
 | [],st=>⟨rfl,l21 _⟩
 | c::cs,st=>by
  obtain⟨D,O⟩:=u5w st c
  obtain⟨I,Z⟩:=y5f cs (x4v st c)
  exact⟨I.trans D,by show (x7p (x4v st c) cs).2.length<=_;rw[l30];omega⟩
theorem v2d {B:Bd}{r ro:Int}(h:r≠ro)(st:St):y2z B r ro st=y2z B (r+stI (if ro<r then 0 else 1)) ro (x7p st (z2m B r (if ro<r then 0 else 1))):=y9b h st
def opQ (p:MSt)(o:MOp)(st:St):St:=if o.k=3 then y2z p.B p.rk o.r st else st
theorem y6d {p q:MSt}{o:MOp}{l:List MOp}{st:St}(e:doM p o=.ok q):z7n p st (o::l)=z7n q (opQ p o st) l:=by
 unfold opQ
 conv=>lhs;unfold z7n
 simp only
 rw[e]
end Go.G26
namespace Go.Proofs.YtlfdhllfmoplgaaGreatDoor
open Go.Lw Go.G21 Go.G08 Go.G09 Go.G26 _root_.Go.Proofs.Tryz
theorem x9n (s:StQ)(p q:MSt)(N:Nat)(v:Value)(l:List MOp)(w0:World)(hK:StK UK w0 s)(hP:StP s p N)(hN:N<=200)(hv:Sl z4n w0 v l)(a9:StT w0)(k4:isP l=true)(hr:z3x 0 (nrm p) l=.ok q)(p6:l.length<=100){u:List Int}(hu:(z7n (nrm p) (z5e (nrm p),[]) l).2=u):Rets prog 12 #[svv s,v] w0 λr w'=>(∃(A:Option Addr) (c:Nat),r=.slice A u.length c/\u.length<=5120*l.length/\Lw.Own Enc.i64 3 w0.heap.size w' (.slice A u.length c) u)/\Fr [] w0 w':=by
 obtain⟨A,c,rfl,o5⟩:=id hv.form;have hS:=hK.at;have p3:=hP.hl;have p9:=z1x hS.f.h;refine we [(0,svv s),(1,.slice A l.length c)] func12 U ntmps12 U (.c2 U U) ?_;have h0:=hv;have f6:=a9;have k6:=hS;refine sr (bx U (λg2 w1 o9 I q1 z1=>(asg U (nn (sr (asg U (nn (sr (z1m (([]:List LId)) z0f U z3k (λo2 w2 n9 a6 q2 z2=>(fad U z3r (y2r U z4z ?_))))))))))));have I:=I.ext q2;refine z0i U I U z4s ?_;have hS:=k6.ext (q1.n1 q2);have d0:=a6;refine z2e U a6 hS.f.h z3k (λr5 w3 a6 q3 l7=>?_) (hM:=(by unfold maxLen;simp only[l52];omega)) (hb:=(by simp only[l52];omega));rw[l43]at a6;obtain⟨AO,cO,rfl,o6⟩:=a6.sl.form;have z3:=q3.size;have I:=I.fr q3 (λZ=>d0.neB I dd Z);refine asg U (nn (sq (sr (asg U (nn (bl ?_))))));obtain⟨GB,k2⟩:∃x,x=w3.heap.size:=⟨_,rfl⟩;have k5:∀k∈z0u (.slice AO s.fb.hs.length cO),w0.heap.size<=k/\k<GB:=λk Z=>by have:=a6.blk k Z;omega
 refine lpK (ι:=Nat×StQ×Value) (ll3 1 2 6) (λp_=>[(7,.int .i64 (p_.1:Int)),(5,p_.2.2)]) (λp_ w'=>Fr [] w0 w'/\p_.1<=l.length/\Blk w' g2 34 (stL p_.2.1)/\StL UK w0.heap.size GB w' p_.2.1/\∃(a7:G26.St) (qi m:MSt),(z3x p_.1 m (l.drop p_.1)=.ok q/\Eqv m qi/\StP p_.2.1 qi (N+p_.1)/\z7n (nrm p) (z5e (nrm p),[]) l=z7n m a7 (l.drop p_.1)/\a7.1.length=s.fb.hs.length/\a7.2.length<=5120*p_.1)/\Lw.Own z1g 64 w0.heap.size w' (.slice AO s.fb.hs.length cO) a7.1/\Lw.Own Enc.i64 3 w0.heap.size w' p_.2.2 a7.2) (λp_=>l.length-p_.1) (0,s,_) (csu U) ⟨((q1.n1 q2).step q3 (λk Z e0=>absurd (d0.blk k Z).1 oo)),⟨l15 _,I,k2q hK ((q1.n1 q2).step q3 (λk Z e0=>absurd (d0.blk k Z).1 oo)) (l21 _) (Nat.le_of_eq k2),(s.fb.hs,[]),p,nrm p,⟨by rw[List.drop_zero];exact hr,(x0t hP.v).symm,hP,by rw[List.drop_zero,show z5e (nrm p)=s.fb.hs from hP.hsE.symm],rfl,sp0⟩,a6.low oo,Own.nil _⟩⟩ ?_;rintro⟨i,si,vP⟩ w4 ⟨q4,⟨l0,I,hM,a7,qi,m,⟨i8,hE,b3,d1,j0,m0⟩,O,hl⟩⟩;simp only at l0 I hM i8 b3 d1 j0 m0 O hl;have z4:=q4.size;have b4:=I.lt;refine kpC [(1,_),(2,_),(6,_),(7,.int .i64 (i:Int)),(5,vP)] (csu U) (sq (sr (mv U (mv U (lnS U underlying45 (lt' U (nn (cd U (λc0=>?_) (λc0=>?_)))))))));have e0:i<l.length:=by omega
 obtain⟨i3,m',g6,i9⟩:=v0p i8 e0;obtain⟨p7,l6⟩:=x7n k4 e0;have i2:=z3o l6;have f8:BdOk si.q.p:=b3.BE▸b3.v.inv.B;have l9:-4<=si.rk/\si.rk<=4:=by rw[b3.rkE];exact b3.v.inv.rk
 have l8:m.rk=si.rk:=hE.rk.trans b3.rkE.symm;have l4:m.B=si.q.p:=hE.B.trans b3.BE.symm;obtain⟨r',i5,h3⟩:=u7t (hE.trans (x0t b3.v)) g6;have e9:g2∉z0u (.slice AO s.fb.hs.length cO):=O.neB I dd;have c9:g2∉z0u vP:=hl.neB I dd;refine sk (tn (sq (bl (sq (sr (fad U y2q (z0i U I U na3 (asg U (nn (bl (lpK (ι:=Int×Value) (ll4 1 2 6 7) (λy_=>[(8,.int .i64 y_.1),(5,y_.2)]) (λy_ w'=>Fr [] w0 w'/\(-4<=y_.1/\y_.1<=4)/\Blk w' g2 34 (stL si)/\StL UK w0.heap.size GB w' si/\∃a0:G26.St,(((l.getD i op0).k≠3->a0=a7)/\((l.getD i op0).k=3->y2z si.q.p si.rk (l.getD i op0).r a7=y2z si.q.p y_.1 (l.getD i op0).r a0/\a0.2.length+640*((l.getD i op0).r-y_.1).natAbs<=5120*(i+1))/\a0.1.length=s.fb.hs.length)/\Lw.Own z1g 64 w0.heap.size w' (.slice AO s.fb.hs.length cO) a0.1/\Lw.Own Enc.i64 3 w0.heap.size w' y_.2 a0.2) (λy_=>((l.getD i op0).r-y_.1).natAbs) (si.rk,vP) (csu U) ⟨q4,⟨l9,I,hM,a7,⟨λ_=>rfl,λe=>⟨rfl,by have:=i2.2.2.2.2.2 e;simp only;omega⟩,j0⟩,O,hl⟩⟩ ?_)))))))))));rintro⟨r,vR⟩ w5 ⟨q5,⟨i7,I,hM,a0,⟨g7,f3,b9⟩,O,hl⟩⟩;simp only at i7 I hM g7 f3 b9 O hl;have z5:=q5.size;have b4:=I.lt;refine kpC [(1,_),(2,_),(6,_),(7,_),(8,.int .i64 r),(5,vR)] (csu U) (sq (sq (rbo (r:=42) (L':=ll6 1 2 5 6 7 8) ((l.getD i op0).k=3/\¬r=(l.getD i op0).r) (csu U) ?_ ?_)));refine mv U (mv U ?_);have hv:=h0.ext q5;refine z1b (op0) U hv U y5b z1h (λm4 h5=>?_);refine fad U z7o (z7c U (h5 _ hv) U v2t (eq' U (mv U (gs 34 U (λg0=>?_) (λg0=>?_)))));refine gY U (mv U (gY U (mv U (gY U (mv U (gY U (z1b (op0) U hv U y5b z1h (λm5 h6=>?_))))))));exact gY U (fad U y1a (gY U (z7c U (h6 _ hv) U na3 (gY U (ne' U (pkt U (rbe U (csu U))))))));exact gN U (gN U (gN U (gN U (gN U (gN U (gN U (pkf U (rbe U (csu U)))))))));refine tn (cd U (λc1=>?_) (λc1=>?_));obtain⟨g8,l5⟩:=c1;obtain⟨l2,l1⟩:=f3 g8;have p8:=i2.2.2.2.2.2 g8;obtain⟨D,hD⟩:∃x:Int,x=if (l.getD i op0).r<r then 0 else 1:=⟨_,rfl⟩
 have h2:D=0\/D=1:=by rw[hD];split<;>simp
 have d7:-4<=r+stI D/\r+stI D<=4/\((l.getD i op0).r-(r+stI D)).natAbs+1=((l.getD i op0).r-r).natAbs:=by rw[hD];unfold stI;split<;>split at *<;>omega
 obtain⟨CS,e4⟩:∃x,x=z2m si.q.p r D:=⟨_,rfl⟩;refine sk (tn (bl (sr (mv U (z0w U (wi6 oo) (asg U (asg U (nn (jn (ι:=Unit) (ll6 1 2 5 6 7 8) (λ_j=>[(9,.int .u8 D),(10,.int .i64 (r+stI D))]) (λ_j w'=>Fr [] w5 w') (csu U) ?_ ?_)))))))));refine sr (mv U (mv U ?_));have hv:=h0.ext q5;refine z1b (op0) U hv U y5b z1h (λm6 h7=>?_);refine fad U y1a (z7c U (h7 _ hv) U na3 (mv U (lt' U (kpL (ll9 1 2 5 6 7 8 9 10 51) (csu U) (nn (cd U (λc2=>?_) (λc2=>?_)))))));refine rg (mv U (z2x U (wi6 oo) (asg U (asg U (nl ?_)))));exact jE (()) (.c8 U U U U U U (congrArg (λz=>some (Value.int .u8 z)) (by rw[hD];first|exact(if_pos c2).symm|exact(if_neg c2).symm)) (congrArg (λz=>some (Value.int .i64 z)) (by rw[hD];first|(rw[if_pos c2];rfl)|(rw[if_neg c2];rfl)))) (l12 _ _);refine sk ?_;exact jE (()) (.c8 U U U U U U (congrArg (λz=>some (Value.int .u8 z)) (by rw[hD];first|exact(if_pos c2).symm|exact(if_neg c2).symm)) (congrArg (λz=>some (Value.int .i64 z)) (by rw[hD];first|(rw[if_pos c2];rfl)|(rw[if_neg c2];rfl)))) (l12 _ _);rintro _j w6 q6;have z6:=q6.size;refine kpC (ll8 1 2 5 6 7 8 9 10) (csu U) (sr (fad U z8g ?_));have I:=I.ext q6;refine z1t (vs:=[_,_]) U I z5a U (mv U (mv U ?_));have hM:=hM.ext q6;have a9:=f6.ext (q5.n1 q6);refine cl (ev3 U) (mkC func36) (by have x:=x6r si.q r D _ hM.at.b f8 a9 i7 h2 ⟨d7.1,d7.2.1⟩;rw[<-e4]at x;exact x) U ?_;rintro _ w7 ⟨⟨gx,rfl,p1,hX⟩,q7⟩;have z7:=q7.size;refine mv U (xt U (xt U (asg U (asg U (kpL (ll7 1 2 5 6 7 10 11) (csu U) (nn (sq (sr (asg U (nn (bl ?_)))))))))));have I:=I.ext q7;have hM:=hM.ext q7;have O:=O.ext (q6.n1 q7);have hl:=hl.ext (q6.n1 q7);refine lpK (ι:=Nat×Value) (ll6 1 2 6 7 10 11) (λz_=>[(13,.int .i64 (z_.1:Int)),(5,z_.2)]) (λz_ w'=>Fr [] w0 w'/\z_.1<=CS.length/\Blk w' g2 34 (stL si)/\StL UK w0.heap.size GB w' si/\Lw.Own z4m 101 0 w' (.slice (saa gx) CS.length CS.length) CS/\Lw.Own z1g 64 w0.heap.size w' (.slice AO s.fb.hs.length cO) (x7p a0 (CS.take z_.1)).1/\Lw.Own Enc.i64 3 w0.heap.size w' z_.2 (x7p a0 (CS.take z_.1)).2) (λz_=>CS.length-z_.1) (0,vR) (csu U) ⟨(q5.n2 q6 q7),⟨l15 _,I,hM,hX.low (l15 _),O,hl⟩⟩ ?_;rintro⟨k,vK⟩ w8 ⟨q8,⟨l3,I,hM,hX,O,hl⟩⟩;simp only at l3 I hM hX O hl;have z8:=q8.size;have b4:=I.lt;refine kpC [(1,_),(2,_),(6,_),(7,_),(10,_),(11,_),(13,.int .i64 (k:Int)),(5,vK)] (csu U) (sq (sr (mv U (mv U (lnS U underlying97 (lt' U (nn (cd U (λc3=>?_) (λc3=>?_)))))))));have f7:k<CS.length:=by omega
 obtain⟨f5,j1⟩:=y5f (CS.take k) a0;rw[List.length_take_of_le oo]at j1;have o7:=u9k (B:=si.q.p) (r:=r) (d:=D) (CS.getD k cx0) (by rw[<-e4];exact z1a (d:=cx0) f7);have g5:=y0a f8 r D;rw[<-e4]at g5;have f9:=v4q (st:=a0) f7;obtain⟨ST,k7⟩:∃x,x=x7p a0 (CS.take k):=⟨_,rfl⟩;rw[<-k7]at O hl f5 j1 f9;refine sk (tn (jn (ι:=Value) (ll7 1 2 6 7 10 11 13) (λe_=>[(5,e_)]) (λe_ w'=>Fr [] w0 w'/\Blk w' g2 34 (stL si)/\StL UK w0.heap.size GB w' si/\Lw.Own z4m 101 0 w' (.slice (saa gx) CS.length CS.length) CS/\Lw.Own z1g 64 w0.heap.size w' (.slice AO s.fb.hs.length cO) (x7p a0 (CS.take (k+1))).1/\Lw.Own Enc.i64 3 w0.heap.size w' e_ (x7p a0 (CS.take (k+1))).2) (csu U) ?_ ?_));refine bl (sr (asg U (nn (bl (lpK (ι:=Nat) (ll8 1 2 5 6 7 10 11 13) (λj=>[(14,.int .i64 (j:Int))]) (λj w'=>Fr [] w8 w'/\j<=s.fb.hs.length/\∀t,t<j->¬(ST.1.getD t id0=(CS.getD k cx0).a/\ST.1.getD (t+1) id0=(CS.getD k cx0).b)) (λj=>s.fb.hs.length-j) 0 (csu U) ⟨l12 _ _,⟨l15 _,λt ht=>absurd ht oo⟩⟩ ?_)))));rintro j w9 ⟨q9,⟨l1,f4⟩⟩;have z9:=q9.size;refine kpC (ll9 1 2 5 6 7 10 11 13 14) (csu U) (sq (sr (mv U (z0w U (wi6 oo) (mv U (lnS U underlying30 (lt' U (nn (cd U (λc4=>?_) (λc4=>?_))))))))));have O:=O.ext q9;have hX:=hX.ext q9;obtain⟨gO,rfl⟩:=u1j O (by rw[f5,b9];omega);have p0:=k5 gO t10;have o0:g2≠gO:=λe=>e9 t30;have q0:gx≠gO:=λe=>Own.neO hX O dd gO t30 t10;have p5:-1000000<=(CS.getD k cx0).n*((j:Int)+1)/\(CS.getD k cx0).n*((j:Int)+1)<=1000000:=by
  rcases(show (CS.getD k cx0).n = -1\/(CS.getD k cx0).n=0\/(CS.getD k cx0).n=1 by omega) with e|e|e<;>rw[e]<;>omega
 refine sk (tn (sq (bl (sq ?_))));intro a h;refine z0h none (λwb w'=>Fr [] wb w') z2o ?_;intro j4 b0;have s4:=b0.size;have hX:=hX.ext b0;have O:=O.ext b0;have hC:Fr [] j4 j4:=l12 _ _;have a5:=hX;have a3:=O;refine z0d 0 h U λa h=>z0d 1 h U λa h=>z0z (p:=j) (id0) 2 h U O.sl U z3k U λm7 h8 a h=>z1o 3 h wn U (λ_ hw=>h8 _ (a3.sl.ext hw)) z2h U λa h=>z0d 4 h U λa h=>z0d 5 h U λa h=>z0z (p:=k) (cx0) 6 h U hX.sl U x2r U λm8 h9 a h=>z0c 7 h U y6w U λa h=>z1o 8 h wn U (λ_ hw=>y3p (vs:=[_,_]) (h9 _ (a5.sl.ext hw)) U) z2h U λa h=>v8k (V:=idV) (e:=_) (f:=_) 9 hC h wn U U j2a U U λa h=>z0d 10 h U λa h=>gSp (D:=85) h U ?_ ?_;clear h;intro g1 h;refine z0d 11 h U ?_ (hG:=(wy U));clear h a;intro a h;refine z0d 12 h U ?_ (hG:=(wy U));clear h a;intro a h;refine z3s 13 h U t13 U ?_ (hG:=(wy U));clear h a;intro a h;refine z0z (p:=(j+1)) (id0) 14 h U O.sl U z3k U ?_ (hG:=(wy U));clear h a;intro m9 i0 a h;refine z1o 15 h (wy U) U (λ_ hw=>i0 _ (a3.sl.ext hw)) z2h U λa h=>z0d 16 h U ?_ (hG:=(wy U));clear h a;intro a h;refine z0d 17 h U ?_ (hG:=(wy U));clear h a;intro a h;refine z0z (p:=k) (cx0) 18 h U hX.sl U x2r U ?_ (hG:=(wy U));clear h a;intro n7 i1 a h;refine z0c 19 h U x0a U ?_ (hG:=(wy U));clear h a;intro a h;refine z1o 20 h (wy U) U (λ_ hw=>y3p (vs:=[_,_]) (i1 _ (a5.sl.ext hw)) U) z2h U λa h=>v8k (V:=idV) (e:=_) (f:=_) 21 hC h (wy U) U U j2a U U λa h=>z0e 22 U (z3z h U U λa h=>?_);refine z0b (z0o ?_);clear hC a5 a3;refine bk (h.sub (L':=ll10 1 2 5 6 7 10 11 13 14 97) (csu U)) (tn (cd U (λc5=>?_) (λc5=>?_)));have b8:x7p a0 (CS.take (k+1))=((ST.1.set j (ST.1.getD (j+1) id0)).set (j+1) (ST.1.getD j id0),ST.2++[(CS.getD k cx0).n*((j:Int)+1)]):=by rw[f9,u5q (j3j (n:=j) (by rw[f5,b9];omega) t12 t12 λt ht=>f4 t ht)]
 refine sr (mv U (mv U (mv U (z1b (p:=k) (cx0) U hX.sl U x2r oo (λj8 g3=>(fad U x1p (z7c U (g3 _ hX.sl) U na3 (mv U (z0w U (wi6 oo) (y4q U (wi6 oo) (z1m ([(CS.getD k cx0).n*((j:Int)+1)]) (ev1 U) U z4w (λn8 r6 k9 g9 d3 s5=>?_))))))))))));have I:=I.ext (q9.n2 b0 d3);have hM:=hM.ext (q9.n2 b0 d3);have O:=O.ext d3;have hX:=hX.ext d3;have hl:=hl.ext (q9.n2 b0 d3);have a2:=hl;refine z2e U hl g9.sl z4w (λj3 r7 hl d4 j7=>?_);have s6:=d4.size;have I:=I.fr d4 (λZ=>a2.neB I dd Z);have hM:=hM.fr d4 (λk_ a8 _=>.inr (by obtain⟨o1,k8⟩:=z7q a2 k_ a8;exact⟨_,_,k8,dd⟩));have O:=O.fr d4 (λk_ a8 b2=>(Own.neO a2 O dd) k_ a8 b2);have hX:=hX.fr d4 (λk_ a8 b2=>(Own.neO a2 hX dd) k_ a8 b2);have d9:gO∉z0u j3:=λZ=>Own.neO hl O dd gO Z t10;refine asg U (kpL (ll9 1 2 5 6 7 10 11 13 14) (csu U) (nn (sq ?_)));intro a h;refine z0h (some 17) (λwb w'=>Fr [gO] wb w') z2o ?_;intro j5 b7;have s7:=b7.size;have I:=I.ext b7;have hM:=hM.ext b7;have hX:=hX.ext b7;have O:=O.ext b7;have hl:=hl.ext b7;have hC:Fr [gO] j5 j5:=l12 _ _;have a4:=I;have b1:=hM;have a5:=hX;have a3:=O;have b6:=hl;refine z0d 0 h U λa h=>z0d 1 h U λa h=>z0d 2 h U λa h=>z0d 3 h U λa h=>z3s 4 h U t13 U λa h=>z0d 5 h U λa h=>z0d 6 h U λa h=>z3s 7 h U t13 U λa h=>z0z (p:=(j+1)) (id0) 8 h U O.sl U z3k U λj9 e7 a h=>z0d 10 h U λa h=>z0d 11 h U λa h=>z0z (p:=j) (id0) 12 h U O.sl U z3k U λk0 e8 a h=>z1w 9 13 kr U ?_ ?_;refine z1p h U (e7 _ O.sl) z2h U λa h=>z0b (z0e 13 U (z1p h U (e8 _ O.sl) z2h U λa h=>?_));refine z0b (z1k 14 kr kr kr hC (p:=j) h wn U z3k oo oo oo U U λa h=>z0e 15 U (z0x (i:=j) ((ST.1.getD (j+1) id0)) h U O oo U z8r λr8 a1 d5 _hz a h=>?_));have s8:=d5.size;have I:=I.fr d5;have hM:=hM.fr d5 t49;have hX:=hX.fr d5 t11;have hl:=hl.fr d5 (by intro k_ Z hb;rw[l11]at Z;subst Z;first|exact d9 hb|exact c9 hb);have hC:=hC.sp d5;clear _hz O;have O:=a1;clear a1;refine z0b (z1k 16 kr kr kr hC (p:=(j+1)) h wn U z3k oo oo oo U U λa h=>z0e 17 U (z0x (i:=(j+1)) ((ST.1.getD j id0)) h U O t23 U z8r λr9 a1 e1 _hz a h=>?_));have s9:=e1.size;have I:=I.fr e1;have hM:=hM.fr e1 t49;have hX:=hX.fr e1 t11;have hl:=hl.fr e1 (by intro k_ Z hb;rw[l11]at Z;subst Z;first|exact d9 hb|exact c9 hb);clear _hz O;have O:=a1;clear a1;refine z1l (z0o ?_);clear hC a4 b1 a5 a3 b6;exact bk (h.sub (L':=ll8 1 2 5 6 7 10 11 13) (csu U)) (tn (ex (xo U (te (te (xh (bn' (jE (_) (csu U) ⟨(((q8.n3 q9 b0 d3).step d4 (λk Z e0=>absurd (a2.blk k Z).1 oo)).z3 b7 d5 e1),⟨I,hM,hX,by rw[b8];exact O,by rw[b8];exact hl⟩⟩))))))));refine z1p h U (e8 _ O.sl) z2h U λa h=>z0b (z0e 9 U (z1p h U (e7 _ O.sl) z2h U λa h=>?_));refine z0b (z1k 14 kr kr kr hC (p:=j) h wn U z3k oo oo oo U U λa h=>z0e 15 U (z0x (i:=j) ((ST.1.getD (j+1) id0)) h U O oo U z8r λs1 a1 d6 _hz a h=>?_));have t8:=d6.size;have I:=I.fr d6;have hM:=hM.fr d6 t49;have hX:=hX.fr d6 t11;have hl:=hl.fr d6 (by intro k_ Z hb;rw[l11]at Z;subst Z;first|exact d9 hb|exact c9 hb);have hC:=hC.sp d6;clear _hz O;have O:=a1;clear a1;refine z0b (z1k 16 kr kr kr hC (p:=(j+1)) h wn U z3k oo oo oo U U λa h=>z0e 17 U (z0x (i:=(j+1)) ((ST.1.getD j id0)) h U O t23 U z8r λs2 a1 e3 _hz a h=>?_));have t9:=e3.size;have I:=I.fr e3;have hM:=hM.fr e3 t49;have hX:=hX.fr e3 t11;have hl:=hl.fr e3 (by intro k_ Z hb;rw[l11]at Z;subst Z;first|exact d9 hb|exact c9 hb);clear _hz O;have O:=a1;clear a1;refine z1l (z0o ?_);clear hC a4 b1 a5 a3 b6;exact bk (h.sub (L':=ll8 1 2 5 6 7 10 11 13) (csu U)) (tn (ex (xo U (te (te (xh (bn' (jE (_) (csu U) ⟨(((q8.n3 q9 b0 d3).step d4 (λk Z e0=>absurd (a2.blk k Z).1 oo)).z3 b7 d6 e3),⟨I,hM,hX,by rw[b8];exact O,by rw[b8];exact hl⟩⟩))))))));refine sk (bn' (tn (rg (mv U (z0w U (wi6 oo) (asg U (nl ?_)))))));exact lpE ((j+1)) (csu U) ⟨(q9.n1 b0),⟨oo,λt ht=>by
  by_cases e:t=j;subst e;rintro⟨a8,b2⟩;first|exact c5 b2|exact absurd a8 t12
  exact f4 t oo⟩⟩ oo
 clear h;intro g1 h;refine z1f 11 h U U λa h=>z1f 12 h U U λa h=>z1f 13 h U U λa h=>z1f 14 h U U λa h=>z1f 15 h U U λa h=>z1f 16 h U U λa h=>z1f 17 h U U λa h=>z1f 18 h U U λa h=>z1f 19 h U U λa h=>z1f 20 h U U λa h=>z1f 21 h U U λa h=>z0e 22 U (z2n h U λa h=>?_);refine z0b (z0o ?_);clear hC a5 a3;refine bk (h.sub (L':=ll10 1 2 5 6 7 10 11 13 14 97) (csu U)) (tn (cf U (sk (bn' (tn (rg (mv U (z0w U (wi6 oo) (asg U (nl ?_))))))))));exact lpE ((j+1)) (csu U) ⟨(q9.n1 b0),⟨oo,λt ht=>by
  by_cases e:t=j;subst e;rintro⟨a8,b2⟩;first|exact c5 b2|exact absurd a8 t12
  exact f4 t oo⟩⟩ oo
 have b8:x7p a0 (CS.take (k+1))=ST:=by rw[f9,j1f (u3v λt ht=>f4 t (by rw[f5,b9]at ht;omega))]
 refine ex (te (te (xh (bn' ?_))));have I:=I.ext q9;have hM:=hM.ext q9;have hX:=hX.ext q9;have O:=O.ext q9;have hl:=hl.ext q9;exact jE (_) (csu U) ⟨(q8.n1 q9),⟨I,hM,hX,by rw[b8];exact O,by rw[b8];exact hl⟩⟩;rintro vE s3 ⟨j2,⟨I,hM,hX,O,hl⟩⟩;have u0:=j2.size;have b4:=I.lt;exact kpC [(1,_),(2,_),(6,_),(7,_),(10,_),(11,_),(13,_),(5,vE)] (csu U) (rg (mv U (z0w U (wi6 oo) (asg U (nl (lpE ((k+1,vE)) (csu U) ⟨j2,⟨sm,I,hM,hX,O,hl⟩⟩ sm))))));obtain rfl:k=CS.length:=by omega
 rw[l34]at O hl;refine ex (te (te (xh (tn (rg (mv U (asg U (nl (bn' ?_)))))))));exact lpE ((r+stI D,vK)) (csu U) ⟨q8,⟨⟨d7.1,d7.2.1⟩,I,hM,x7p a0 CS,⟨λe=>absurd g8 e,λ_=>⟨by rw[l2,v2d l5,<-hD,<-e4],by
  have a8:=(y5f CS a0).2;have b2:=y0a f8 r D;rw[<-e4]at b2;have o3:=d7.2.2;simp only;omega⟩,(y5f CS a0).1.trans b9⟩,O,hl⟩⟩ (by have:=d7.2.2;simp only;omega)
 have i4:opQ m (l.getD i op0) a7=a0:=by
  unfold opQ;by_cases e:(l.getD i op0).k=3;have e2:r=(l.getD i op0).r:=Classical.byContradiction λh_=>c1 ⟨e,h_⟩;rw[if_pos e,l4,l8,(f3 e).1,e2,y9n];rw[if_neg e,g7 e]
 have p4:a0.2.length<=5120*(i+1):=by
  by_cases e:(l.getD i op0).k=3;have:=(f3 e).2;omega;rw[g7 e];omega
 have c9:g2∉z0u vR:=hl.neB I dd;refine ex (te (te (xh (tn ?_))));have hv:=h0.ext q5;have a9:=f6.ext q5;intro a h;refine z0h (some 9) (λwb w'=>Fr [] wb w') z2o ?_;intro j6 b5;have u1:=b5.size;have hv:=hv.ext b5;have a9:=a9.ext b5;have I:=I.ext b5;have hM:=hM.ext b5;have O:=O.ext b5;have hl:=hl.ext b5;have hC:Fr [] j6 j6:=l12 _ _;have f0:=hv;have e5:=a9;have a4:=I;have b1:=hM;have a3:=O;have b6:=hl;refine z0v 0 h U (λ_ hw=>a4.ext hw) z8a U λa h=>z0d 1 h U λa h=>z0d 2 h U λa h=>z0z (op0) 3 h U hv U y5b U ?_ (hp:=rfl);clear h a;intro k1 g4 a h;refine z1o 4 h wn U (λ_ hw=>g4 _ (f0.ext hw)) y2s U λa h=>z0e 5 U (z0n h (z0a U (z0a U z0f)) (mkC func35) (v0j si qi (N+i) (l.getD i op0) _ hM.at b3 oo a9) ?_);rintro _ m1 ⟨⟨s',rfl,hO,h4,r4,o8⟩,q20⟩ a h;have u2:=q20.size;have hv:=hv.ext q20;have a9:=a9.ext q20;have I:=I.ext q20;have hM:=hM.ext q20;have O:=O.ext q20;have hl:=hl.ext q20;have hC:=hC.next q20;have hN:StL UK w0.heap.size GB m1 s':=k2c hO b1.1 oo;clear hO;refine z0b (z0d 6 h U λa h=>z0l 7 h U λa h=>z1w 8 9 kr U ?_ ?_);refine y3x h U U U λa h=>z0b (z0e 9 U (z0t h U I U z9q ?_ (h1:=t19)));clear h a;intro m2 e6 f1 hz a h;have u3:=f1.size;have O:=O.fr f1 (by intro k_ Z hb;rw[l11]at Z;subst Z;exact e9 hb);have hl:=hl.fr f1 (by intro k_ Z hb;rw[l11]at Z;subst Z;first|exact d9 hb|exact c9 hb);have hN:=hN.fr f1 t49;clear I hz;have I:Blk m2 g2 _ [_,_,_,_,_,_,_,_]:=e6;clear e6;refine z1l (z0o ?_);clear hC f0 e5 a4 b1 a3 b6;exact bk (h.sub (L':=ll5 1 2 5 6 7) (csu U)) (bn' (tn (rg (mv U (z0w U (wi6 oo) (asg U (nl (lpE ((i+1,s',vR)) (csu U) ⟨(q5.z3 b5 q20 f1),⟨sm,I,hN,a0,r',m',⟨i9,h3,h4 r' i5,by rw[d1,i3,y6d g6,i4],b9,sm⟩,O,hl⟩⟩ sm))))))));refine z0t h U I U z9q ?_ (h1:=t19);clear h a;intro m3 e6 f2 hz a h;have u4:=f2.size;have O:=O.fr f2 (by intro k_ Z hb;rw[l11]at Z;subst Z;exact e9 hb);have hl:=hl.fr f2 (by intro k_ Z hb;rw[l11]at Z;subst Z;first|exact d9 hb|exact c9 hb);have hN:=hN.fr f2 t49;clear I hz;have I:Blk m3 g2 _ [_,_,_,_,_,_,_,_]:=e6;clear e6;refine z1l (z0e 8 U (y3x h U U U λa h=>?_));refine z1l (z0o ?_);clear hC f0 e5 a4 b1 a3 b6;exact bk (h.sub (L':=ll5 1 2 5 6 7) (csu U)) (bn' (tn (rg (mv U (z0w U (wi6 oo) (asg U (nl (lpE ((i+1,s',vR)) (csu U) ⟨(q5.z3 b5 q20 f2),⟨sm,I,hN,a0,r',m',⟨i9,h3,h4 r' i5,by rw[d1,i3,y6d g6,i4],b9,sm⟩,O,hl⟩⟩ sm))))))));obtain rfl:i=l.length:=by omega
 rw[List.drop_length]at d1;replace d1:z7n (nrm p) (z5e (nrm p),[]) l=a7:=d1;rw[d1]at hu;subst hu;obtain⟨A5,c5,rfl,o4⟩:=hl.sl.form;exact ex (te (te (xh (tn (sr (mv U (asg U (kpL (ll1 4) (csu U) (nn (rt (r1 results12 U ⟨_,rfl,⟨A5,c5,rfl,oo,hl⟩,q4⟩)))))))))))
end Go.Proofs.YtlfdhllfmoplgaaGreatDoor
namespace Go.G26
open Go.Lw Go.G21 Go.G08 Go.G09
theorem u5s {p q:MSt}{l:List MOp}(hv:MVal p)(hs:isP l=true)(hr:z3x 0 p l=.ok q)(h4:l.length<=4096)(h8:p.B.flat.length<=8){n:Nat}(hn:(z5e p).length=n) :
    ∃u:List Int,(z7n p (z5e p,[]) l).2=u/\(64<u.length->z5m p l=.error 3)/\(u.length<=64->z5m p l=.ok (u,q))/\(∀k∈u,1<=k.natAbs/\k.natAbs<n)/\(n=0->u=[])/\(z5e q).length=n/\
      (∀i,i<n->1<=(x6y (flw (List.range n) u)).getD i 0/\(x6y (flw (List.range n) u)).getD i 0<=n/\(z5e q).getD ((x6y (flw (List.range n) u)).getD i 0-1) id0=(z5e p).getD i id0)/\
      ∀i k,i<n->k<n->i≠k->lkC q.cr ((z5e p).getD i id0) ((z5e p).getD k id0)=lkC p.cr ((z5e p).getD i id0) ((z5e p).getD k id0)+lkM n u u.length i k:=by
  have ho:z5e p=(List.range n).map λi=>(z5e p).getD i id0:=by
    refine l65 (by simp[hn]) λi h1 h2=>?_
    rw[List.getElem_map,List.getElem_range,List.getD,l10 h1];rfl
  have hk:∀o∈l,o.k=3\/o.k=7:=λo ho=>by
    have:=l120.1 hs o ho
    simp only[decide_eq_true_eq]at this
    exact this.1
  obtain⟨u,a1,a2,Z⟩:=x8x (w:=[]) hv.inv hk hr ho sp0
  simp only[l43]at a1 a2
  have D:=Z.bd
  rw[l53]at D
  have O:n=0->u=[]:=λe=>by
    cases u with
    | nil=>rfl
    | cons x u=>have:=D x l45;omega
  have I:y1e p l=if u.length<=64 then some u else none:=by
    unfold y1e
    by_cases c:z2i p.B p.rk=[]
    · have e:n=0:=by rw[<-hn];unfold z5e;rw[c];rfl
      rw[if_pos c,O e];rfl
    · rw[if_neg c,a1]
      by_cases k:u.length<=64
      · rw[if_pos k,if_pos k];rfl
      · rw[if_neg k,if_neg k];rfl
  have hb:∀x,y1e p l=x->z5m p l=match x with
      | none=>.error 3
      | some w=>.ok (w,q):=λx hx=>by
    unfold z5m
    rw[if_neg (by rw[hs];decide),if_neg oo,if_neg oo,hr]
    show (match y1e p l with
      | none=>_
      | some w=>_)=_
    rw[hx]
    all_goals (cases x<;>rfl)
  have hfl:(flw (List.range n) u).length=n:=by rw[y1j,l53]
  have a0:(flw (List.range n) u).Perm (List.range (flw (List.range n) u).length):=by
    rw[hfl]
    exact x0s λk hm=>by rw[l53];exact D k hm
  refine⟨u,by rw[a2],λh=>?_,λh=>?_,D,O,by rw[Z.ord,l18,hfl],λi hi=>?_,λi k hi hk a4=>?_⟩
  · rw[if_neg oo]at I;exact hb _ I
  · rw[if_pos h]at I;exact hb _ I
  · have:=z7s a0 (f:=λi=>(z5e p).getD i id0) (i:=i) (by rw[hfl];exact hi)
    rw[hfl]at this
    rw[Z.ord];exact this
  · rw[Z.lk i k (l61.2 hi) (l61.2 hk) λe=>?_]
    · show _=_+lnk (List.range n) (u.take u.length) i k
      rw[l34]
    · have hd:=x2g hv.inv
      rw[List.getD,l10 oo,List.getD,l10 oo]at e
      exact a4 ((List.getElem_inj (h₀:=by omega) (h₁:=by omega) hd).1 e)
theorem j2f {q:MSt}(D:MVal q)(a b:LId):lkC (y3k q.cr) a b=lkC q.cr a b:=
 x4i (z2y q.cr) (((z2y q.cr).map _).nodup_iff.2 D.cr.nd)
theorem v6m {q:MSt}(D:MInv q)(a b:LId):-10000000<=lkC q.cr a b/\lkC q.cr a b<=10000000:=by
 have:=x9m (a:=(z3q ⟨a,b,0⟩).1) (b:=(z3q ⟨a,b,0⟩).2) D.cv;unfold lkC;omega
end Go.G26
namespace Go.Lw
theorem u0c {c:UInt8}:∀ {l:List UInt8},c∉l->Lib.index l [c] = -1
 | [],_=>by simp[Lib.index]
 | b::l,h=>by
  have D:¬c=b:=λe=>h (by rw[e];simp)
  have hl:c∉l:=λe=>h (by simp[e])
  rw[Lib.index,u0c hl]
  simp[List.isPrefixOf,D]
theorem u8b {c:UInt8}(y:List UInt8):∀ {x:List UInt8},c∉x->Lib.index (x++c::y) [c]=x.length
 | [],_=>by simp[Lib.index,List.isPrefixOf]
 | b::x,h=>by
  have D:¬c=b:=λe=>h (by rw[e];simp)
  have hl:c∉x:=λe=>h (by simp[e])
  rw[l87,Lib.index,u8b y hl]
  simp only[List.isPrefixOf,beq_eq_false_iff_ne.2 D,Bool.false_and,Bool.false_eq_true,if_false]
  rw[if_neg se];simp
theorem cnt {c:UInt8}:∀(f:Nat) (s:List UInt8),s.length<f->Lib.countFrom [c] f s=s.count c
 | 0,s,h=>by omega
 | f+1,s,h=>by
  rw[Lib.countFrom]
  by_cases hm:c∈s
  ·obtain⟨x,y,rfl,D⟩:=List.eq_append_cons_of_mem hm
   rw[u8b y D,if_neg se]
   have e:(x++c::y).drop ((x.length:Int).toNat + [c].length)=y:=by
    rw[l98,show x++c::y=(x++[c])++y by simp,show x.length + [c].length=(x++[c]).length by simp,List.drop_left]
   rw[e,cnt f y (by simp at h;omega)]
   simp[l62.2 D];omega
  rw[u0c hm,if_pos dd,l62.2 hm]
end Go.Lw
namespace Go.G08
open Go.Lw Go.G21
theorem x3o {p:MSt}{o:MOp}(h:y1c o=0):doM p o=opM p o:=by unfold doM;rw[if_neg (by rw[h];simp)]
end Go.G08
namespace Go.G09
open Go.Lw Go.G21 Go.G08
theorem u9q {b n r:Int}(hn:z4d b n=0)(D:-4<=r/\r<=4):(z2c b n r=if b=0 then 4*n+2 else 4*(n+r))/\-12<=z2c b n r/\z2c b n r<=176/\z2c b n r % 2=0:=by
 obtain⟨Z,I,O⟩:=z2t hn;have e:z2c b n r=if b=0 then 4*n+2 else 4*(n+r):=by
  unfold z2c;rw[if_neg (by rintro(h|h);exact h hn;exact h D)]
 refine⟨e,?_⟩;rw[e];split<;>omega
theorem y5d {p:MSt}{o:MOp}(hn:z4d o.b o.p=0)(D:-4<=p.rk/\p.rk<=4):x5p (z6p p o):=by
 obtain⟨_,I,O,Z⟩:=u9q hn D;unfold z6p x5p;split<;>refine⟨?_,oo,oo⟩<;>intro e<;>have:=Int.dvd_of_tmod_eq_zero e<;>omega
theorem k2o {B:Bd}(I:BdOk B){r f t:Int}:j2u (btw (z2i B r) f t):=λq D=>by
 refine⟨I.nm _ (v9m D),?_⟩
 unfold btw at D
 split at D
 ·obtain⟨h,_,rfl⟩:=l48.1 D;exact .inr U
 obtain⟨h,_,rfl⟩:=l48.1 (l119.1 D);exact .inl U
theorem y5e {p:MSt}{y pl en:Int}(h:MInv p)(hy:1<=y/\y<=6)(I:x5p pl)(D:(p.y y).inn=true)(O:(p.y y).pe.length+p.B.flat.length<=4096) :
    z8y p y pl en=.ok (p.setY y (goS (p.y y) pl (y2a p y en))):=by
  refine j4r (k1u (h.yn (y-1).toNat oo).1 I (k2o h.B) D ?_)
  have Z:=z7z (y2a p y en) (p.y y).pe
  have h2:(y2a p y en).length<=p.B.flat.length:=v1q
  omega
structure Mk (p q:MSt) (o:MOp) (st:List LId):Prop where
  rk:q.rk=p.rk
  B:q.B=p.B.put o.b o.p (st++[⟨o.y,(p.y o.y).ct⟩])
  tb:∃th pe,q.tb=p.tb.set (o.y-1).toNat (p.row o.y++[⟨o.b,(p.y o.y).nw,th,pe⟩])
  ys:q.ys=p.ys.set (o.y-1).toNat ⟨true,z6p p o,(p.y o.y).ct+1,false,[]⟩
  cr:q.cr=p.cr
  fa:q.fa=p.fa
theorem u7i {p:MSt}(h:MInv p){o:MOp}(hy:1<=o.y/\o.y<=6)(hn:z4d o.b o.p=0)(D:(p.y o.y).inn=true)(a1:(p.y o.y).ct<2048)(a0:z4r p.tb<2048)(Z:(p.y o.y).pe.length+p.B.flat.length<=4096)(th st:List LId) :
    ∃q,y1u (p.setY o.y (goS (p.y o.y) (z6p p o) (y2a p o.y (z2c o.b o.p p.rk)))) o th st=.ok q/\Mk p q o st:=by
  have hl:(o.y-1).toNat<p.ys.length:=by rw[h.ly];omega
  have hc:=y5e (en:=z2c o.b o.p p.rk) h hy (y5d hn h.rk) D Z
  have hi:=(y1i h hy hc).1
  have I:(p.setY o.y (goS (p.y o.y) (z6p p o) (y2a p o.y (z2c o.b o.p p.rk)))).y o.y=goS (p.y o.y) (z6p p o) (y2a p o.y (z2c o.b o.p p.rk)):=v7m hl
  have O:y1t ((p.setY o.y (goS (p.y o.y) (z6p p o) (y2a p o.y (z2c o.b o.p p.rk)))).y o.y):=(hi.yn (o.y-1).toNat oo).1
  have hm:mkE (goS (p.y o.y) (z6p p o) (y2a p o.y (z2c o.b o.p p.rk)))=0:=by
    unfold mkE
    rw[<-I,if_neg (by rw[j0l O];decide),I]
    rw[if_neg (by show ¬(p.y o.y).inn=false;rw[D];decide),if_neg (by show ¬(p.y o.y).ct=2048;omega)]
  unfold y1u
  rw[I,if_neg (by rw[hm];decide),if_neg (by show ¬2048<=z4r p.tb;omega)]
  refine⟨_,rfl,rfl,rfl,⟨th,_,rfl⟩,?_,rfl,rfl⟩
  show (p.ys.set _ _).set _ _=_
  rw[List.set_set]
  rfl
theorem x4h {p:MSt}(h:MInv p){o:MOp}(hc:y1c o=0)(hk:o.k=4)(hb:z5r p o=0)(D:(p.y o.y).inn=true)(Z:(p.y o.y).ct<2048)(O:z4r p.tb<2048)(I:(p.y o.y).pe.length+p.B.flat.length<=4096) :
    ∃q,doM p o=.ok q/\Mk p q o []:=by
  obtain⟨_,_,f3,_,f5,_⟩:=z3o hc
  have hy:=f3 oo;have hn:=f5 oo
  rw[x3o hc]
  unfold opM
  rw[if_neg oo,if_neg oo,if_neg oo,if_pos hk]
  unfold y1h
  rw[if_neg (by rw[hb];decide),y5e h hy (y5d hn h.rk) D I]
  exact u7i h hy hn D Z O I _ _
theorem v7u {p:MSt}(h:MInv p){o:MOp}(hc:y1c o=0)(hk:o.k=5)(hb:z5r p o=0)(D:(p.y o.y).inn=true)(Z:(p.y o.y).ct<2048)(O:z4r p.tb<2048)(I:(p.y o.y).pe.length+p.B.flat.length<=4096)(a0:(p.B.at o.b o.p).length<4) :
    ∃q,doM p o=.ok q/\Mk p q o (p.B.at o.b o.p):=by
  obtain⟨_,_,f3,_,f5,_⟩:=z3o hc
  have hy:=f3 oo;have hn:=f5 oo
  rw[x3o hc]
  unfold opM
  rw[if_neg oo,if_neg oo,if_neg oo,if_neg oo,if_pos hk]
  unfold y0t
  rw[if_neg (by rw[hb];decide),y5e h hy (y5d hn h.rk) D I]
  simp only
  rw[if_neg (by show ¬4<=(p.B.at o.b o.p).length;omega)]
  exact u7i h hy hn D Z O I _ _
theorem j0g {p:MSt}(h:MInv p){o:MOp}(O:y1c o=0)(Z:o.k=1)(D:(p.y o.y).inn=false):doM p o=.ok (p.setY o.y (enS (p.y o.y) o.d)):=by
 obtain⟨_,f2,f3,_,_,_⟩:=z3o O;have hy:=f3 oo;rw[x3o O];unfold opM inM;have he:enE (p.y o.y) o.d=0:=by
  have I:y1t (p.y o.y):=(h.yn (o.y-1).toNat oo).1;unfold enE;rw[if_neg (by rw[j0l I];decide),if_neg (λx=>x (f2 Z)),if_neg (by rw[D];decide)]
 rw[if_pos Z,if_neg (by rw[he];decide)]
theorem u5r {p:MSt}(h:MInv p){o:MOp}(O:y1c o=0)(hk:o.k=2)(D:(p.y o.y).inn=true):doM p o=.ok (p.setY o.y (lvS (p.y o.y))):=by
 obtain⟨_,_,Z,_,_,_⟩:=z3o O;have hy:=Z oo;rw[x3o O];unfold opM x7b;have he:lvE (p.y o.y)=0:=by
  have I:y1t (p.y o.y):=(h.yn (o.y-1).toNat oo).1;unfold lvE;rw[if_neg (by rw[j0l I];decide),if_neg (by rw[D];decide)]
 rw[if_neg oo,if_pos hk,if_neg (by rw[he];decide)]
end Go.G09
namespace Go.G26
open Go.Lw Go.G21 Go.G08 Go.G09
theorem y7i {D p q:MSt}{o:MOp}:∀ {l:List MOp} {i:Nat},z3x i D l=.ok p->doM p o=.ok q->z3x i D (l++[o])=.ok q
 | [],i,h,e=>by cases h;show z3x i D [o]=_;unfold z3x;rw[e];rfl
 | x::l,i,h,e=>by
  rw[l87]
  unfold z3x at h ⊢
  split at h
  ·cases h
  rename_i O I
  exact y7i h e
structure RI (p:MSt) (b:Int) (m:Nat):Prop where
  v:MInv p
  rk:p.rk=0
  inn:(p.y 1).inn=true
  pl:(p.y 1).pl<=b
  pe:(p.y 1).pe.length<=6
  cnt:z4r p.tb<=m
theorem v0r:∀n:Nat,n<16->y1c (opS 4 1 n)=0/\y1c (opS 6 0 n)=0/\y1c (opS 5 1 n)=0/\z2c (bdS n) (10+((n / 2:Nat):Int)) 0=40+2*(n:Int)/\z4d (bdS n) (10+((n / 2:Nat):Int))=0:=by decide +kernel
theorem RI.fl {p:MSt}{b:Int}{m:Nat}(h:RI p b m):p.B.flat.length<=m:=by have:=h.v.cnt;have:=h.cnt;omega
theorem RI.ct {p:MSt}{b:Int}{m:Nat}(h:RI p b m):(p.y 1).ct<=m:=by
 have e:(p.y 1).ct=z3i p.tb 0:=(h.v.yn 0 oo).2;have D:=x6p p.tb 0;have:=h.cnt;rw[e];omega
theorem j2y {p q:MSt}{z:Yn}(h:MInv p)(e:q.ys=p.ys.set 0 z):q.y 1=z:=by
 unfold MSt.y;rw[e,List.getD,show ((1:Int)-1).toNat=0 from U,l104 (by rw[h.ly];omega)];rfl
theorem j1d {p:MSt}{n m:Nat}(h:RI p (40+2*(n:Int)) m)(hn:n<16)(hm:m<6) :
    ∃q,doM p (opS 4 1 n)=.ok q/\RI q (41+2*(n:Int)) (m+1)/\(q.y 1).pl=41+2*(n:Int)/\(q.B.at (bdS n) (10+((n / 2:Nat):Int))).length=1:=by
  obtain⟨Z,_,_,h4,I⟩:=v0r n hn
  have O:z2c (opS 4 1 n).b (opS 4 1 n).p p.rk=40+2*(n:Int):=by rw[h.rk];exact h4
  have a1:=h.ct;have hfl:=h.fl;have a2:=h.pe;have a0:=h.cnt;have a3:=h.pl
  have hb:z5r p (opS 4 1 n)=0:=by
    unfold z5r
    rw[show (opS 4 1 n).y=1 from U,if_neg (by rw[h.inn];decide),if_pos (show (opS 4 1 n).d=1 from U),O,if_neg oo]
  obtain⟨q,e,k⟩:=x4h h.v Z U hb h.inn (show (p.y 1).ct<2048 by omega) oo (show (p.y 1).pe.length+_<=4096 by omega)
  have D:=j2y h.v k.ys
  have hp:z6p p (opS 4 1 n)=41+2*(n:Int):=by unfold z6p;rw[if_pos (show (opS 4 1 n).d=1 from U),O];omega
  refine⟨q,e,⟨z8p h.v e,k.rk.trans h.rk,by rw[D],by rw[D];show z6p p (opS 4 1 n)<=_;omega,by rw[D];exact l15 _,l32 (u6v e) oo⟩,by rw[D];exact hp,?_⟩
  rw[k.B]
  show ((p.B.put (bdS n) (10+((n / 2:Nat):Int)) _).at _ _).length=1
  rw[y7n _ I I,if_pos ⟨rfl,rfl⟩];rfl
theorem u9c {p:MSt}{n m:Nat}(h:RI p (41+2*(n:Int)) m)(hn:n<16)(hm:m<=6)(a1:(p.y 1).pl=41+2*(n:Int))(a0:(p.y 1).pe.length=0) :
    ∃q,doM p (opS 6 0 n)=.ok q/\RI q (40+2*(n:Int)) m/\q.B=p.B:=by
  obtain⟨_,O,_,Z,h5⟩:=v0r n hn
  have I:z2c (opS 6 0 n).b (opS 6 0 n).p p.rk=40+2*(n:Int):=by rw[h.rk];exact Z
  have hfl:=h.fl
  have hb:z5r p (opS 6 0 n)=0:=by
    unfold z5r
    rw[show (opS 6 0 n).y=1 from U,if_neg (by rw[h.inn];decide),if_neg (show ¬(opS 6 0 n).d=1 from (by decide:¬(0:Int)=1)),I,if_neg oo]
  have hp:z6p p (opS 6 0 n)=39+2*(n:Int):=by unfold z6p;rw[if_neg (show ¬(opS 6 0 n).d=1 from (by decide:¬(0:Int)=1)),I];omega
  have hc:=y5e (y:=1) (pl:=z6p p (opS 6 0 n)) (en:=z6p p (opS 6 0 n)) h.v oo (y5d h5 h.v.rk) h.inn oo
  have e:doM p (opS 6 0 n)=.ok (p.setY 1 (goS (p.y 1) (z6p p (opS 6 0 n)) (y2a p 1 (z6p p (opS 6 0 n))))):=by
    rw[x3o O]
    unfold opM
    rw[if_neg (show ¬(opS 6 0 n).k=1 from (by decide:¬(6:Int)=1)),if_neg (show ¬(opS 6 0 n).k=2 from (by decide:¬(6:Int)=2)),if_neg (show ¬(opS 6 0 n).k=3 from (by decide:¬(6:Int)=3)),if_neg (show ¬(opS 6 0 n).k=4 from (by decide:¬(6:Int)=4)),if_neg (show ¬(opS 6 0 n).k=5 from (by decide:¬(6:Int)=5)),if_pos (show (opS 6 0 n).k=6 from U)]
    unfold y3q
    rw[if_neg (by rw[hb];decide)]
    exact hc
  have D:(p.setY 1 (goS (p.y 1) (z6p p (opS 6 0 n)) (y2a p 1 (z6p p (opS 6 0 n))))).y 1=goS (p.y 1) (z6p p (opS 6 0 n)) (y2a p 1 (z6p p (opS 6 0 n))):=v7m (by rw[h.v.ly];decide)
  refine⟨_,e,⟨z8p h.v e,h.rk,by rw[D];exact h.inn,by rw[D];show z6p p (opS 6 0 n)<=_;omega,?_,h.cnt⟩,rfl⟩
  rw[D]
  have h6:=z7z (y2a p 1 (z6p p (opS 6 0 n))) (p.y 1).pe
  have h7:(y2a p 1 (z6p p (opS 6 0 n))).length<=p.B.flat.length:=v1q
  show (z5d _ _).length<=6
  omega
theorem u9l {p:MSt}{n m:Nat}(h:RI p (40+2*(n:Int)) m)(hn:n<16)(hm:m<6)(hl:(p.B.at (bdS n) (10+((n / 2:Nat):Int))).length=1) :
    ∃q,doM p (opS 5 1 n)=.ok q/\RI q (41+2*(n:Int)) (m+1):=by
  obtain⟨_,_,O,Z,h5⟩:=v0r n hn
  have I:z2c (opS 5 1 n).b (opS 5 1 n).p p.rk=40+2*(n:Int):=by rw[h.rk];exact Z
  have a1:=h.ct;have hfl:=h.fl;have a2:=h.pe;have a0:=h.cnt;have a3:=h.pl
  have hb:z5r p (opS 5 1 n)=0:=by
    unfold z5r
    rw[show (opS 5 1 n).y=1 from U,if_neg (by rw[h.inn];decide),if_pos (show (opS 5 1 n).d=1 from U),I,if_neg oo]
  obtain⟨q,e,k⟩:=v7u h.v O U hb h.inn (show (p.y 1).ct<2048 by omega) oo (show (p.y 1).pe.length+_<=4096 by omega) (by show (p.B.at (bdS n) (10+((n / 2:Nat):Int))).length<4;omega)
  have D:=j2y h.v k.ys
  have hp:z6p p (opS 5 1 n)=41+2*(n:Int):=by unfold z6p;rw[if_pos (show (opS 5 1 n).d=1 from U),I];omega
  exact⟨q,e,⟨z8p h.v e,k.rk.trans h.rk,by rw[D],by rw[D];show z6p p (opS 5 1 n)<=_;omega,by rw[D];exact l15 _,l32 (u6v e) oo⟩⟩
theorem v9c (n:Nat):∀(l:List Int) (s:List MOp×Nat),x2d n l s=s\/∃p,u0k n s.2 p/\x2d n l s=v3o n p s
 | [],s=>.inl U
 | p::r,s=>by
  unfold x2d
  split
  ·rename_i h;exact .inr ⟨p,h,rfl⟩
  exact v9c n r s
theorem RI.more {p:MSt}{b b':Int}{m:Nat}(h:RI p b m)(hb:b<=b'):RI p b' m:=⟨h.v,h.rk,h.inn,by have:=h.pl;omega,h.pe,h.cnt⟩
theorem u3g {n:Nat}{x:Int}{s:List MOp×Nat}(hn:n<16)(hm:s.2<6)(h:∃p,z3x 0 G08.start s.1=.ok p/\RI p (40+2*(n:Int)) s.2):∃p,z3x 0 G08.start (v3o n x s).1=.ok p/\RI p (42+2*(n:Int)) (v3o n x s).2:=by
 obtain⟨p,hp,D⟩:=h;obtain⟨q,e1,Z,I,O⟩:=j1d D hn hm;have r1:z3x 0 G08.start (s.1++[opS 4 1 n])=.ok q:=y7i hp e1;unfold v3o;split;rename_i c;obtain⟨q2,e2,a0,hB⟩:=u9c Z hn oo I (by
  have hy:=Z.pe;obtain⟨h1,_,_,h4,h5⟩:=v0r n hn;have hs:z2c (opS 4 1 n).b (opS 4 1 n).p p.rk=40+2*(n:Int):=by rw[D.rk];exact h4
  have a3:=D.ct;have hfl:=D.fl;have a4:=D.pe;have a2:=D.cnt;have I:=D.pl;have hb:z5r p (opS 4 1 n)=0:=by
   unfold z5r;rw[show (opS 4 1 n).y=1 from U,if_neg (by rw[D.inn];decide),if_pos (show (opS 4 1 n).d=1 from U),hs,if_neg oo]
  obtain⟨q',e',k⟩:=x4h D.v h1 U hb D.inn (show (p.y 1).ct<2048 by omega) oo (show (p.y 1).pe.length+_<=4096 by omega);rw[e1]at e';cases e';rw[j2y D.v k.ys];rfl)
 obtain⟨q3,e3,a1⟩:=u9l a0 hn oo (by rw[hB];exact O);refine⟨q3,?_,a1.more oo⟩;have r2:=y7i r1 e2;have r3:=y7i r2 e3;simpa[l17] using r3;exact⟨q,r1,Z.more oo⟩
theorem x2p (xs:List Int):∀n,n<=16->∃p,z3x 0 G08.start (z9p xs n).1=.ok p/\RI p (40+2*(n:Int)) (z9p xs n).2
 | 0,_=>by
  have e:∃p,doM G08.start ⟨1,0,0,0,1,0⟩=.ok p/\p=G08.start.setY 1 (enS (G08.start.y 1) 0):=⟨_,j0g y6x dd U dd,rfl⟩
  obtain⟨p,e,rfl⟩:=e
  have I:(G08.start.setY 1 (enS (G08.start.y 1) 0)).y 1=enS (G08.start.y 1) 0:=v7m dd
  refine⟨_,by show z3x 0 G08.start [_]=_;unfold z3x;rw[e];rfl,z8p y6x e,rfl,by rw[I];rfl,by rw[I];show (if (0:Int)=1 then (179:Int) else -13)<=_;rw[if_neg dd];omega,by rw[I];exact l15 _,(by decide:z4r G08.start.tb<=0)⟩
 | n+1,h=>by
  obtain⟨p,Z,O⟩:=x2p xs n oo
  rcases v9c n (xs.take 6) (z9p xs n) with e|⟨x,hx,e⟩
  ·refine⟨p,by show z3x 0 G08.start (x2d n (xs.take 6) (z9p xs n)).1=_;rw[e];exact Z,?_⟩
   show RI p _ (x2d n (xs.take 6) (z9p xs n)).2
   rw[e];exact O.more oo
  obtain⟨q,hq,D⟩:=u3g (x:=x) (s:=z9p xs n) oo hx.2 ⟨p,Z,O⟩
  refine⟨q,by show z3x 0 G08.start (x2d n (xs.take 6) (z9p xs n)).1=_;rw[e];exact hq,?_⟩
  show RI q _ (x2d n (xs.take 6) (z9p xs n)).2
  rw[e];exact D.more oo
theorem u5v (xs:List Int):∃p,z3x 0 G08.start (j4t xs)=.ok p/\p.B.flat.length<=6/\p.rk=0:=by
 obtain⟨p,O,D⟩:=x2p xs 16 (l21 _);have I:=(x0d xs 16).2;have e:=u5r (o:=⟨2,0,0,0,1,0⟩) D.v dd U D.inn;exact⟨_,y7i O e,l32 D.fl I,D.rk⟩
end Go.G26
namespace Go.Proofs.YtlfdhllfmoplgaaGreatDoor
open Go.Lw Go.G21 Go.G08 Go.G09 Go.G26 _root_.Go.Proofs.Tryz
theorem ag53:z4b prog 53 2:=⟨λ_=>kr,λ_=>kr⟩
theorem j8c:z1e prog 53 1 1:=λ_ _=>kr
theorem j2q {D I:StQ}{p q:MSt}{n m:Nat}(w0:World)(h1:StAt w0 D)(h2:StAt w0 I)(Z:StP D p n)(k2:StP I q m)(e:Eqv p q)(hn:n<=10000)(hm:m<=10000):Rets prog 13 #[svv D,svv I] w0 λr w'=>r=.bool true/\Fr [] w0 w':=by
 have O:D.p=I.p:=by rw[Z.e,k2.e,e.stM]
 exact u3s D I w0 h1 h2 (v1g Z hn) (v1g k2 hm) (congrArg St.rk O) (congrArg (λx=>trimB x.B.f) O) (congrArg (λx=>trimB x.B.b) O) (congrArg St.ys O) (congrArg St.fb O)
theorem u4q {s:StQ}{p q:MSt}{n:Nat}{v:Value}{l:List MOp}{w0:World}(hS:StAt w0 s)(hP:StP s p n)(hv:Sl z4n w0 v l)(D:StT w0)(hl:n+l.length<=1000)(h:z3x 0 (nrm p) l=.ok q):Rets prog 7 #[svv s,v] w0 λr w'=>(∃s':StQ,r=.tuple #[svv s',.int .i64 (l.length:Int),.int .i64 0]/\StK UK w' s'/\StP s' q (n+l.length))/\Fr [] w0 w':=
 Rets.mono (x7v v l w0 hS hP hl hv D) (by
  rintro r w' ⟨⟨s',rfl,Z,h2,-⟩,hf⟩
  obtain⟨I,O⟩:=y4y h
  rw[I,O]
  exact⟨⟨s',rfl,Z.k,h2 q h⟩,hf⟩)
theorem prm8 {l:List Nat}{i n:Nat}(hi:i<l.length)(h:l.getD i 0<=n)(hn:n<=8):((l.map UInt8.ofNat).getD i 0).toNat=l.getD i 0:=by
 rw[List.getD,List.getD,l23,l10 hi] at *
 simp only[l55,l51,UInt8.toNat_ofNat'] at *
 omega
theorem v2g (A M:Option Addr)(c cM:Nat)(bs ms:List UInt8)(w0:World)(hG:Glob w0)(a1:StT w0)(hs:Sl Enc.b w0 (.slice A bs.length c) bs)(hm:Sl Enc.b w0 (.slice M ms.length cM) ms):Rets prog 4 #[.agg #[.slice A bs.length c,.slice M ms.length cM]] w0 λr w'=>r=.bool true/\Fr [] w0 w':=by
 have o4:=hG.sz;refine we [(0,.agg #[.slice A bs.length c,.slice M ms.length cM])] func4 U ntmps4 U (.cons U .nil) ?_;have f1:=hG;have a7:=a1;have e0:=hs;have l9:=hm;refine sr (bx U (λg1 w1 o6 e3 q1 z1=>(asg U (nn (sr (z0k U e3 ag53 ?_))))));have hs:=e0.ext q1;have a1:=a7.ext q1;refine cl (ev1 U) (mkC func10) (y8d A c bs M ms.length cM _ hs a1) U ?_;rintro _ w2 ⟨⟨s,rfl,hK,l5⟩,q2⟩;have hS:=hK.at;have z2:=q2.size;have f2:=hK;have e1:=hS;have hs:=e0.ext (q1.n1 q2);obtain⟨p,hp,h6,-⟩:=u5v (bs.map λb=>(b.toNat:Int));have hP:=l5 p hp;have m0:=z1x hS.f.h;have d9:s.fb.hs=z5e (nrm p):=hP.hsE;have p4:s.fb.hs.length<=6:=by rw[hP.hsE,l18,(z8h _ _).length_eq,z9e];exact h6
 refine al y8y U (λg3 w3 o7 I q3 z3=>(z0j (vs:=[_,_,_,_,_,_,_,_]) U I z9q (λw4 I q4 z4=>(nn (sr (z0k U I z8a (fad U j8c ?_)))))));have e3:=(e3.ext (q2.n1 q3)).fr q4;refine z0i U e3 U k0l ?_;have hK:=f2.ext (q3.z1 q4);have hm:=l9.ext (q1.z3 q2 q3 q4);have a1:=a7.ext (q1.z3 q2 q3 q4);refine cl (ev2 U) (mkC func11) (u8s s p 50 M cM ms _ hK hP oo hm a1) U ?_;rintro _ w5 ⟨⟨A4,l,c4,rfl,ho,h4,m8,q,e5⟩,q5⟩;have b8:=ho.sl;clear ho;have z5:=q5.size;have d6:=b8;have hs:=e0.ext (q1.z4 q2 q3 q4 q5);obtain⟨u,hu,f0,e9,e4,j8,h9,h8,h5⟩:=u5s (z6r hP.v) h4 e5 oo (show p.B.flat.length<=8 by omega) (n:=s.fb.hs.length) (by rw[<-d9]);refine asg U (nn (sr ?_));have I:=I.ext q5;refine z0k U I z8a (mv U ?_);have hS:=e1.ext (q3.z2 q4 q5);have a1:=a7.ext (q1.z4 q2 q3 q4 q5);refine cl (ev2 U) co6 (z7j s p 50 _ l _ hS hP oo b8 a1) U ?_;rintro _ w6 ⟨⟨A5,ws,t,e7,rfl,hB⟩,q6⟩;have a3:=hB.k.at;have b9:=hB.o.sl;have m5:=b9.len_le;unfold maxLen at m5;have i3:e7=3->64<u.length/\ws=[]:=λe=>by
  by_cases c:64<u.length;exact⟨c,(hB.er _ (f0 c)).2.1⟩;have:=(hB.ok _ _ (e9 oo)).1;omega
 have l3:e7≠3->e7=0/\ws=u/\u.length<=64/\StP t q (50+l.length):=λe=>by
  by_cases c:64<u.length;exact absurd (hB.er _ (f0 c)).1 e;have h:=hB.ok _ _ (e9 oo);exact⟨h.1,h.2.1,oo,h.2.2⟩
 clear hB;have z6:=q6.size;have d0:=a3;have d7:=b9;refine mv U (xt U (xt U (xt U (al y8y U (λg6 w7 o8 a5 q7 z7=>(asg U (z0j (vs:=[_,_,_,_,_,_,_,_]) U a5 z9q (λw8 a5 q8 z8=>(asg U (kpL (ll5 3 4 5 6 7) (csu U) (nn (sq (sr (mv U (eq' U (nn (cd U (λc0=>?_) (λc0=>?_))))))))))))))))));refine sr ?_;have I:=(I.ext (q6.n1 q7)).fr q8;refine z0k U I z8a (mv U ?_);have hK:=f2.ext (q3.z5 q4 q5 q6 q7 q8);have b8:=d6.ext (q6.z2 q7 q8);have a1:=a7.ext ((q1.z6 q2 q3 q4 q5 q6 q7).z1 q8);refine cl (ev2 U) (mkC func12) (x9n s p q 50 _ l _ hK hP oo b8 a1 h4 e5 oo hu) U ?_;rintro _ w9 ⟨⟨o0,o2,rfl,m9,n8⟩,q9⟩;have z9:=q9.size;refine lnS U underlying22 (gt' U (mv U (gs 38 U (λg0=>?_) (λhh=>absurd (by have:=(i3 c0).1;omega) hh))));refine gY U (mv U (gY U (lnS U underlying22 (gY U (eq' U (pkt U (mv U (gs 43 U (λg1=>?_) (λhh=>absurd (by rw[(i3 c0).2];rfl) hh)))))))));refine gY U ?_;have hG:=f1.ext (((q1.z6 q2 q3 q4 q5 q6 q7).z1 q8).n1 q9);have a1:=a7.ext (((q1.z6 q2 q3 q4 q5 q6 q7).z1 q8).n1 q9);refine cl z0f (mkC func9) (y3t _ hG a1) U ?_;rintro _ p7 ⟨rfl,k0⟩;have s4:=k0.size;refine pkt U (asg U (kpL (ll1 2) (csu U) (nn (rt (tr (r1 results4 U ?_))))));exact⟨_,rfl,by first|rfl|exact congrArg Value.bool (decide_eq_true sp0),((((q1.z6 q2 q3 q4 q5 q6 q7).z1 q8).n1 q9).n1 k0)⟩;obtain⟨l7,m6,j9,b7⟩:=l3 c0;rw[<-m6]at hu e4 j8 h8 h5 j9;refine sk (tn (sr ?_));have I:=(I.ext (q6.n1 q7)).fr q8;refine z0k U I z8a (mv U ?_);have hS:=e1.ext (q3.z5 q4 q5 q6 q7 q8);have b8:=d6.ext (q6.z2 q7 q8);have a1:=a7.ext ((q1.z6 q2 q3 q4 q5 q6 q7).z1 q8);refine cl (ev2 U) (mkC func7) (u4q hS hP b8 a1 oo e5) U ?_;rintro _ p8 ⟨⟨s8,rfl,i4,l4⟩,q11⟩;have f4:=i4.at;clear i4;have s5:=q11.size;have i9:=f4;refine mv U (xt U (xt U (xt U (al y8y U (λg8 p9 o9 f5 O s6=>(z0j (vs:=[_,_,_,_,_,_,_,_]) U f5 z9q (λq0 f5 Z s7=>(asg U (asg U (kpL (ll8 3 4 5 6 7 8 9 10) (csu U) (nn (sq (sr (mv U (ne' U (mv U (gs 55 U (λhh=>absurd hh (by exact λh=>h l7)) (λg2=>(gY U (mv U (gY U (ne' U (pkf U (mv U (gs 59 U (λhh=>absurd hh t44) (λg3=>?_))))))))))))))))))))))))));refine gY U (mv U (gY U (mv U (gY U (lnS U underlying45 (gY U (ne' U (pkf U (mv U (gs 65 U (λhh=>absurd hh t44) (λg4=>(gY U ?_))))))))))));have a5:=(a5.ext (q11.n1 O)).fr Z;refine z0k U a5 z8a (gY U (z0k U f5 z8a (gY U ?_)));have a3:=d0.ext (q7.z4 q8 q11 O Z);have f4:=i9.ext (O.z1 Z);refine cl (ev2 U) (mkC func13) (j2q _ a3 f4 b7 l4 (Eqv.refl b7.v.cr.nd) oo oo) U ?_;rintro _ r4 ⟨rfl,a0⟩;have s9:=a0.size;refine gY U (nt' U (pkf U (mv U (gs 71 U (λhh=>absurd hh (by exact λh=>absurd h dd)) (λg5=>(gY U (mv U (gY U ?_))))))));have I:=((I.ext (q11.n1 O)).fr Z).ext a0;refine z0k U I z8a (gY U (mv U (gY U ?_)));have hK:=f2.ext ((((q3.z6 q4 q5 q6 q7 q8 q11).n1 O).z1 Z).n1 a0);have b8:=d6.ext (q6.z6 q7 q8 q11 O Z a0);have a1:=a7.ext ((((q1.z6 q2 q3 q4 q5 q6 q7).z1 q8).n1 q11).z3 O Z a0);refine cl (ev2 U) (mkC func12) (x9n s p q 50 _ l _ hK hP oo b8 a1 h4 e5 oo hu) U ?_;rintro _ r5 ⟨⟨o1,o3,rfl,n7,j4⟩,q15⟩;have e8:=j4.sl;have t8:=q15.size;have l6:=e8;refine gY U ?_;have b9:=d7.ext (q7.z6 q8 q11 O Z a0 q15);refine cl (ev2 U) (mkC func14) (x4g _ _ ws ws _ b9 e8 oo) U ?_;rintro _ r6 ⟨rfl,a2⟩;have t9:=a2.size;refine gY U (nt' U (pkf U (mv U (gs 79 U (λhh=>absurd hh t44) (λg6=>(gY U (mv U (gY U (u7c U underlying22 U (gY U (mv U (gY U (lnS U underlying22 (gY U (ne' U (pkf U (kpL (ll4 3 5 6 85) (csu U) (nn (cd U (λc1=>?_) (λc1=>?_))))))))))))))))))));exact absurd U c1;refine sk (tn (sr (fad U z3r (y2r U z4z ?_))));have I:=I.ext (q15.n1 a2);refine z0i U I U z4s (lnS U underlying30 (asg U (nn (sq (sr (mv U (eq' U (nn (cd U (λc2=>?_) (λc2=>?_))))))))));have m4:ws=[]:=j8 oo;refine sr (mv U (lnS U underlying22 (eq' U (mv U (gs 95 U (λg7=>?_) (λhh=>absurd (by rw[m4];rfl) hh))))));refine gY U ?_;have hG:=f1.ext ((((q1.z6 q2 q3 q4 q5 q6 q7).z1 q8).n1 q11).z5 O Z a0 q15 a2);have a1:=a7.ext ((((q1.z6 q2 q3 q4 q5 q6 q7).z1 q8).n1 q11).z5 O Z a0 q15 a2);refine cl z0f (mkC func9) (y3t _ hG a1) U ?_;rintro _ r7 ⟨rfl,k1⟩;have u0:=k1.size;refine pkt U (asg U (kpL (ll1 2) (csu U) (nn (rt (tr (r1 results4 U ?_))))));exact⟨_,rfl,by first|rfl|exact congrArg Value.bool (decide_eq_true sp0),((((q1.z6 q2 q3 q4 q5 q6 q7).z1 q8).n1 q11).z6 O Z a0 q15 a2 k1)⟩;have hs:=e0.ext ((((q1.z6 q2 q3 q4 q5 q6 q7).z1 q8).n1 q11).z5 O Z a0 q15 a2);have a3:=d0.ext ((q7.z6 q8 q11 O Z a0 q15).n1 a2);have h7:1<=s.fb.h.2.1/\s.fb.h.2.1<=8:=⟨oo,oo⟩;rw[<-m0]at e4 h9 h8 h5;have i0:t.fb.hs=z5e q:=b7.hsE;have m3:t.fb.h.2.1=s.fb.h.2.1:=(z1x a3.f.h).trans ((congrArg List.length i0).trans h9);have p6:t.fb.hs.length=s.fb.h.2.1:=(congrArg List.length i0).trans h9;have h3:s.fb.cs=(nrm p).cr:=hP.csE;have j0:∀a b,lkC t.fb.cs a b=lkC q.cr a b:=λa b=>by rw[b7.csE];exact j2f b7.v a b
 have j1:s.fb.cs.length<=1000000000:=by have:=hP.c;rw[h3,x3e];omega
 have j2:t.fb.cs.length<=1000000000:=by have:=b7.c;rw[b7.csE,(z2y _).length_eq];omega
 refine sk (tn (sr (mv U (mv U ?_))));have b9:=d7.ext ((q7.z6 q8 q11 O Z a0 q15).n1 a2);refine cl (ev2 U) (mkC func15) (j2m s.fb.h.2.1 _ ws _ b9 h7 oo e4) U ?_;rintro _ r8 ⟨⟨gp,rfl,i8⟩,q18⟩;have d1:=i8.sl;clear i8;have u1:=q18.size;have i7:=d1;refine mv U (xt U (xt U (asg U (asg U (kpL (ll6 3 5 6 11 12 13) (csu U) (nn (sr (mv U (mv U ?_)))))))));have b9:=d7.ext (((q7.z6 q8 q11 O Z a0 q15).n1 a2).n1 q18);refine cl (ev2 U) (mkC func16) (u2z s.fb.h.2.1 _ ws _ b9 h7 oo e4) U ?_;rintro _ m7 ⟨⟨gl,LL,rfl,o5,b6,b0,f3⟩,q19⟩;have u2:=q19.size;have i5:=b6;have e6:=b0;refine mv U (xt U (xt U (asg U (asg U (kpL (ll7 3 6 11 12 13 14 15) (csu U) (nn (sq (sq (rbo (r:=123) (L':=ll5 3 6 11 12 14) ((((0≠0)\/(0≠0))\/((t.fb.h.2.1:Int)≠(s.fb.h.2.1:Int)))) (csu U) ?_ ?_)))))))));refine mv U (ne' U (mv U (gs 112 U (λhh=>absurd hh t44) (λg8=>(gY U (mv U (gY U (ne' U (pkf U (mv U (gs 116 U (λhh=>absurd hh t44) (λg9=>(gY U (fad U z3r (gY U (y2r U z4z (gY U ?_)))))))))))))))));have a5:=a5.ext (a0.n4 q15 a2 q18 q19);exact z0i U a5 U z4s (gY U (lnS U underlying30 (gY U (mv U (gY U (ne' U (pkf U (rbe U (csu U)))))))));refine tn (cd U (λc3=>?_) (λc3=>?_));exact absurd c3 (λh=>h.elim (λh=>h.elim (λh=>h U) (λh=>h U)) (λh=>h (congrArg (λx:Nat=>(x:Int)) m3)));refine sk (tn (sq (sr (asg U (nn (bl (lpK (ι:=Nat) (ll5 3 6 11 12 14) (λi=>[(16,.int .i64 (i:Int))]) (λi w'=>Fr [] m7 w'/\i<=s.fb.h.2.1) (λi=>s.fb.h.2.1-i) 0 (csu U) ⟨l12 _ _,l15 _⟩ ?_)))))));rintro i r9 ⟨a6,p0⟩;have u3:=a6.size;refine kpC (ll6 3 6 11 12 14 16) (csu U) (sq (sr (mv U (mv U (lt' U (nn (cd U (λc4=>?_) (λc4=>?_))))))));have b0:=e6.ext a6;have d3:i<s.fb.h.2.1:=by omega
 obtain⟨m1,j5,j6⟩:=h8 i d3;have m2:i<(x6y (flw (List.range s.fb.h.2.1) ws)).length:=by unfold x6y x5n;rw[l18,l53,y1j,l53];exact d3
 have j7:=prm8 m2 j5 h7.2;rw[<-j7,<-i0,<-d9]at j6;rw[<-j7]at m1 j5;have p3:((x6y (flw (List.range s.fb.h.2.1) ws)).map UInt8.ofNat).length=s.fb.h.2.1:=by rw[l18];unfold x6y x5n;rw[l18,l53,y1j,l53]
 have p5:(LL.getD i sqi).1.2.1=s.fb.h.2.1:=by rw[z1x (b0.get (d:=sqi) (i:=i) oo),f3 i d3,l18,l53]
 have n9:(LL.getD i sqi).2.length=s.fb.h.2.1:=by rw[f3 i d3,l18,l53]
 refine sk (tn (sq (bl (sq (sq ?_)))));have hS:=e1.ext ((((q3.z6 q4 q5 q6 q7 q8 q11).n1 O).z1 Z).n6 a0 q15 a2 q18 q19 a6);have a3:=d0.ext ((((q7.z6 q8 q11 O Z a0 q15).n1 a2).n1 q18).n2 q19 a6);have d1:=i7.ext (q19.n1 a6);intro a h;refine z0h none (λwb w'=>Fr [] wb w') z2o ?_;intro i1 a9;have u4:=a9.size;have hS:=hS.ext a9;have I:=I.ext (q18.n3 q19 a6 a9);have a3:=a3.ext a9;have a5:=a5.ext (a0.n6 q15 a2 q18 q19 a6 a9);have d1:=d1.ext a9;have hC:Fr [] i1 i1:=l12 _ _;have b2:=hS;have a4:=I;have b1:=a3;have a8:=a5;have d5:=d1;refine z0c 0 h U z3r U λa h=>z3w 1 h wn U z4z U λa h=>z0m 2 h U (λ_ hw=>a8.ext hw) U z4s U λa h=>z0d 3 h U λa h=>z0d 4 h U λa h=>z0z (p:=i) (0) 5 h U d1 U u8d U λk5 f6 a h=>z2b 6 h wn U (λ_ hw=>f6 _ (d5.ext hw)) na5 U λa h=>z3a 7 h U t18 U λa h=>z0z (p:=((((x6y (flw (List.range s.fb.h.2.1) ws)).map UInt8.ofNat).getD i 0).toNat-1)) (id0) 8 h U a3.f.h U z3k U λk6 f7 a h=>z1o 9 h wn U (λ_ hw=>f7 _ (b1.f.h.ext hw)) z2h U λa h=>z0c 10 h U z3r U λa h=>z3w 11 h wn U z4z U λa h=>z0m 12 h U (λ_ hw=>a4.ext hw) U z4s U λa h=>z0d 13 h U λa h=>z0z (p:=i) (id0) 14 h U hS.f.h U z3k U λk7 f8 a h=>z1o 15 h wn U (λ_ hw=>f8 _ (b2.f.h.ext hw)) z2h U λa h=>x3a (V:=idV) (e:=_) (f:=_) 16 hC h wn U U j2a U U λa h=>z0o ?_;clear hC b2 a4 b1 a8 d5;refine bk (h.sub (L':=ll7 3 6 11 12 14 16 145) (csu U)) (tn (cd U (λc5=>?_) (λc5=>?_)));exact absurd j6 c5;refine sk (tn (sr (asg U (nn (bl (lpK (ι:=Nat) (ll6 3 6 11 12 14 16) (λk=>[(17,.int .i64 (k:Int))]) (λk w'=>Fr [] i1 w'/\k<=s.fb.h.2.1) (λk=>s.fb.h.2.1-k) 0 (csu U) ⟨l12 _ _,l15 _⟩ ?_))))));rintro k s1 ⟨b3,p1⟩;have u5:=b3.size;refine kpC (ll7 3 6 11 12 14 16 17) (csu U) (sq (sr (mv U (mv U (lt' U (nn (cd U (λc6=>?_) (λc6=>?_))))))));have hs:=e0.ext ((((((((q1.z6 q2 q3 q4 q5 q6 q7).z1 q8).n1 q11).z6 O Z a0 q15 a2 q18).next q19).next a6).next a9).next b3);have j3:k<s.fb.h.2.1:=by omega
 have l8:(i:Int)≠k->lkC t.fb.cs (s.fb.hs.getD i id0) (s.fb.hs.getD k id0)-lkC s.fb.cs (s.fb.hs.getD i id0) (s.fb.hs.getD k id0)=(LL.getD i sqi).2.getD k 0:=λe=>by
  have i2:=h5 i k d3 j3 (λe2=>e (by rw[e2]));rw[<-d9]at i2;rw[j0,h3,f3 i d3,x7d j3,i2];omega
 refine sk (tn (sq (bl (sq ?_))));have hS:=e1.ext ((((((q3.z6 q4 q5 q6 q7 q8 q11).n1 O).z1 Z).n6 a0 q15 a2 q18 q19 a6).next a9).next b3);have a3:=d0.ext ((((q7.z6 q8 q11 O Z a0 q15).n1 a2).n1 q18).n4 q19 a6 a9 b3);have b6:=i5.ext (a6.n2 a9 b3);have b0:=e6.ext (a6.n2 a9 b3);intro a h;refine z0h none (λwb w'=>Fr [] wb w') z2o ?_;intro k4 b4;have u6:=b4.size;have hS:=hS.ext b4;have I:=I.ext (b3.n1 b4);have a3:=a3.ext b4;have a5:=a5.ext (b3.n1 b4);have b6:=b6.ext b4;have b0:=b0.ext b4;have hC:Fr [] k4 k4:=l12 _ _;have b2:=hS;have a4:=I;have b1:=a3;have a8:=a5;have c9:=b6;have d4:=b0;refine z0d 0 h U λa h=>z0d 1 h U λa h=>v2x 2 hC h wn U U λa h=>z0d 3 h U λa h=>gSp (D:=154) h U ?_ ?_;clear h;intro l2 h;refine z0c 4 h U z3r U ?_ (hG:=(wy U));clear h a;intro a h;refine z1i (vs:=[_,_,_,_]) 5 h U (λ_ hw=>(a4.ext hw)) x8v U U ?_ (hG:=(wy U));clear h a;intro a h;refine z0c 6 h U z3r U ?_ (hG:=(wy U));clear h a;intro a h;refine z1i (vs:=[_,_,_,_]) 7 h U (λ_ hw=>(a8.ext hw)) x8v U U ?_ (hG:=(wy U));clear h a;intro a h;refine z0c 8 h U z3r U ?_ (hG:=(wy U));clear h a;intro a h;refine z3w 9 h (wy U) U z4z U λa h=>z0m 10 h U (λ_ hw=>a4.ext hw) U z4s U ?_ (hG:=(wy U));clear h a;intro a h;refine z0d 11 h U ?_ (hG:=(wy U));clear h a;intro a h;refine z0z (p:=i) (id0) 12 h U hS.f.h U z3k U ?_ (hG:=(wy U));clear h a;intro k8 f9 a h;refine z1o 13 h (wy U) U (λ_ hw=>f9 _ (b2.f.h.ext hw)) z2h U λa h=>z0c 14 h U z3r U ?_ (hG:=(wy U));clear h a;intro a h;refine z3w 15 h (wy U) U z4z U λa h=>z0m 16 h U (λ_ hw=>a4.ext hw) U z4s U ?_ (hG:=(wy U));clear h a;intro a h;refine z0d 17 h U ?_ (hG:=(wy U));clear h a;intro a h;refine z0z (p:=k) (id0) 18 h U hS.f.h U z3k U ?_ (hG:=(wy U));clear h a;intro k9 h0 a h;refine z1o 19 h (wy U) U (λ_ hw=>h0 _ (b2.f.h.ext hw)) z2h U λa h=>z0d 21 h U ?_ (hG:=(wy U));clear h a;intro a h;refine z0d 22 h U ?_ (hG:=(wy U));clear h a;intro a h;refine z0z (p:=i) (sqi) 23 h U b6 U k0z U ?_ (hG:=(wy U));clear h a;intro l0 h1 a h;refine z2b 24 h (wy U) U (λ_ hw=>h1 _ (c9.ext hw)) u7k U λa h=>z0d 25 h U ?_ (hG:=(wy U));clear h a;intro a h;refine z0z (p:=k) (0) 26 h U (b0.get (d:=sqi) oo) U z4w U ?_ (hG:=(wy U));clear h a;intro l1 h2 a h;refine z2b 27 h (wy U) U (λ_ hw=>h2 _ ((b0.get (d:=sqi) oo).ext hw)) na3 U λa h=>z0e 20 U (z4l h U U U U (z0n h (z0a U (z0a U (z0a U (z0a U z0f)))) (mkC func17) (j0k s.fb t.fb (s.fb.hs.getD i id0) (s.fb.hs.getD k id0) _ hS.f a3.f j1 j2 (by rw[h3];exact v6m (z6r hP.v).inv _ _) (by rw[j0];exact v6m b7.v.inv _ _)) ?_));rintro _ s2 ⟨rfl,b5⟩ a h;have u7:=b5.size;have hS:=hS.ext b5;have I:=I.ext b5;have a3:=a3.ext b5;have a5:=a5.ext b5;have b6:=b6.ext b5;have b0:=b0.ext b5;have hC:=hC.next b5;refine z0b (v2x 28 hC h (wy U) U U λa h=>z0e 29 U (z3z h U U λa h=>?_));refine z0b (z0o ?_);clear hC b2 a4 b1 a8 c9 d4;refine bk (h.sub (L':=ll8 3 6 11 12 14 16 17 180) (csu U)) (tn (cd U (λc7=>?_) (λc7=>?_)));exact absurd (l8 t12) c7;exact sk (bn' (tn (rg (mv U (z0w U (wi6 oo) (asg U (nl (lpE ((k+1)) (csu U) ⟨(b3.n2 b4 b5),oo⟩ oo))))))));clear h;intro l2 h;refine z1f 4 h U U λa h=>z1f 5 h U U λa h=>z1f 6 h U U λa h=>z1f 7 h U U λa h=>z1f 8 h U U λa h=>z1f 9 h U U λa h=>z1f 10 h U U λa h=>z1f 11 h U U λa h=>z1f 12 h U U λa h=>z1f 13 h U U λa h=>z1f 14 h U U λa h=>z1f 15 h U U λa h=>z1f 16 h U U λa h=>z1f 17 h U U λa h=>z1f 18 h U U λa h=>z1f 19 h U U λa h=>z1f 20 h U U λa h=>z1f 21 h U U λa h=>z1f 22 h U U λa h=>z1f 23 h U U λa h=>z1f 24 h U U λa h=>z1f 25 h U U λa h=>z1f 26 h U U λa h=>z1f 27 h U U λa h=>z1f 28 h U U λa h=>z0e 29 U (z2n h U λa h=>?_);refine z0b (z0o ?_);clear hC b2 a4 b1 a8 c9 d4;exact bk (h.sub (L':=ll8 3 6 11 12 14 16 17 180) (csu U)) (tn (cf U (sk (bn' (tn (rg (mv U (z0w U (wi6 oo) (asg U (nl (lpE ((k+1)) (csu U) ⟨(b3.n1 b4),oo⟩ oo)))))))))));exact ex (te (te (xh (bn' (tn (rg (mv U (z0w U (wi6 oo) (asg U (nl (lpE ((i+1)) (csu U) ⟨(a6.n2 a9 b3),oo⟩ oo)))))))))));refine ex (te (te (xh (tn (sr ?_)))));have hG:=f1.ext ((((((q1.z6 q2 q3 q4 q5 q6 q7).z1 q8).n1 q11).z6 O Z a0 q15 a2 q18).next q19).next a6);have a1:=a7.ext ((((((q1.z6 q2 q3 q4 q5 q6 q7).z1 q8).n1 q11).z6 O Z a0 q15 a2 q18).next q19).next a6);refine cl z0f (mkC func9) (y3t _ hG a1) U ?_;rintro _ s3 ⟨rfl,k2⟩;have u9:=k2.size;refine asg U (kpL (ll1 2) (csu U) (nn (rt (r1 results4 U ?_))));exact⟨_,rfl,by first|rfl|exact congrArg Value.bool (decide_eq_true sp0),(((((((q1.z6 q2 q3 q4 q5 q6 q7).z1 q8).n1 q11).z6 O Z a0 q15 a2 q18).next q19).next a6).next k2)⟩
theorem j9i (x:SV×SV)(bs ms:List UInt8)(w0:World)(hG:Glob w0)(D:StT w0)(O:Sl Enc.b w0 (slv x.1) bs)(I:Sl Enc.b w0 (slv x.2) ms):Rets prog 4 #[.agg #[slv x.1,slv x.2]] w0 λr w'=>r=.bool true/\Fr [] w0 w':=by
 obtain⟨⟨A,n,c⟩,M,m,d⟩:=x;have Z:n=bs.length:=z1x O;have e2:m=ms.length:=z1x I;subst Z e2;exact v2g A M c d bs ms w0 hG D O I
end Go.Proofs.YtlfdhllfmoplgaaGreatDoor
