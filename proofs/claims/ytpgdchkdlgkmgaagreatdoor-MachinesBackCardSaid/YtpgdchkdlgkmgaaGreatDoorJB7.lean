/- Texts of the proof, joined. -/
import Derived.Test.YtpgdchkdlgkmgaaGreatDoorRows
import Derived.Test.YtpgdchkdlgkmgaaGreatDoorJB6
set_option linter.unusedVariables false
set_option linter.unusedSimpArgs false
namespace Go.G08
open Go.Lw Go.G21
theorem y6q:∀l:Bed,trimB (trimB l)=trimB l
 | []=>rfl
 | s::l=>by
  by_cases h:trimB l=[]/\s=[]
  ·rw[show trimB (s::l)=[] from if_pos h];rfl
  rw[show trimB (s::l)=s::trimB l from if_neg h]
  show (if trimB (trimB l)=[]/\s=[] then [] else s::trimB (trimB l))=_
  rw[y6q l,if_neg h]
def TrB (B:Bd):Prop:=trimB B.f=B.f/\trimB B.b=B.b
theorem y9r (B:Bd)(b n:Int)(s:List LId):TrB (B.put b n s):=by
 unfold Bd.put y7k TrB;split<;>exact⟨y6q _,y6q _⟩
theorem j7s {p q:MSt}{y D en:Int}(e:z8z p y D en=.ok q):q.B=p.B:=by
 unfold z8z at e;split at e;cases e;cases e;rfl
theorem v2z {p q:MSt}{o:MOp}{D st:List LId}(e:y3x p o D st=.ok q):TrB q.B:=by
 unfold y3x at e;split at e;cases e;split at e;cases e;cases e;exact y9r ..
theorem v7p {p q:MSt}{d:Int}(e:z3q p d=.ok q):q.B=p.B:=by
 unfold z3q at e;split at e;cases e;split at e;cases e;cases e;rfl
theorem v7z:∀ {n:Nat} {p q:MSt} {r:Int},z4m n p r=.ok q->q.B=p.B
 | 0,p,q,r,e=>by cases e;rfl
 | n+1,p,q,r,e=>by
  unfold z4m at e
  split at e
  ·cases e;rfl
  split at e
  ·cases e
  rename_i I D
  exact(v7z e).trans (v7p D)
theorem k0n {p q:MSt}{o:MOp}(h:TrB p.B)(e:doM p o=.ok q):TrB q.B:=by
 have s:∀ {x:MSt},x.B=p.B->TrB x.B:=λD=>by rw[D];exact h
 unfold doM at e;split at e;cases e;unfold opM at e;split at e;unfold inM at e;split at e;cases e;cases e;exact s U;split at e;unfold v1h at e;split at e;cases e;cases e;exact s U;split at e;exact s (v7z e);split at e;unfold y2r at e;split at e;cases e;split at e;cases e;exact v2z e;split at e;unfold y1l at e;split at e;cases e;split at e;cases e;split at e;cases e;exact v2z e;split at e;unfold z7x at e;split at e;cases e;exact s (j7s e);split at e;unfold z7b at e;repeat (split at e;· cases e)
 cases e;exact y9r ..;unfold y4i at e;split at e;cases e;cases e;exact y9r ..
theorem j6d {p q:MSt}{o:MOp}(h:MInv p)(e:doM p o=.ok q):q.cr.length<=p.cr.length+5120:=by
 unfold doM at e;split at e;cases e;exact v7s h.B e
def nrm (p:MSt):MSt:=⟨p.rk,p.B,p.ys,p.tb,y0v p.cr,y0k p.fa⟩
theorem z7s {p:MSt}(h:MVal p):MVal (nrm p):=by
 have I:=z2u p.cr;have D:=z2x p.fa;refine⟨⟨h.inv.rk,h.inv.B,h.inv.ly,h.inv.lt,h.inv.yn,h.inv.has,?_,h.inv.all,λc J=>h.inv.cv c (I.mem_iff.1 J)⟩,h.yv,h.tab,λi M=>?_,λi M=>h.fa i (D.mem_iff.1 M),⟨λc J=>h.cr.has c (I.mem_iff.1 J),?_⟩⟩;show p.B.flat.length+(y0k p.fa).length<=_;rw[D.length_eq];exact h.inv.cnt;show (p.B.flat++y0k p.fa++z9f p.tb).count i=1;rw[<-h.once i M];simp only[List.count_append];rw[D.count_eq];exact(I.map λc=>(c.a,c.b)).nodup_iff.2 h.cr.nd
structure StP (s:StQ) (p:MSt) (n:Nat):Prop where
  e:s.p=stM p
  v:MVal p
  t:TrB p.B
  c:p.cr.length<=n*5120
theorem StP.mono {s:StQ}{p:MSt}{n m:Nat}(h:StP s p n)(D:n<=m):StP s p m:=⟨h.e,h.v,h.t,Nat.le_trans h.c (Nat.mul_le_mul_right _ D)⟩
theorem u5v (p:MSt):(nrm p).cr.length=p.cr.length:=(z2u p.cr).length_eq
theorem StP.do {s s':StQ}{p q:MSt}{o:MOp}{n:Nat}(h:StP s p n)(e:doM (nrm p) o=.ok q)(D:s'.p=stM q):StP s' q (n+1):=
 ⟨D,y8j (z7s h.v) e,k0n (p:=nrm p) h.t e,by have:=j6d (z7s h.v).inv e;have:=h.c;rw[u5v] at *;rw[Nat.add_mul];omega⟩
theorem StP.rkE {s:StQ}{p:MSt}{n:Nat}(h:StP s p n):s.rk=p.rk:=congrArg St.rk h.e
theorem StP.BE {s:StQ}{p:MSt}{n:Nat}(h:StP s p n):s.q.p=p.B:=congrArg St.B h.e
theorem StP.ysE {s:StQ}{p:MSt}{n:Nat}(h:StP s p n):s.ys.map YQ.p=p.ys:=congrArg St.ys h.e
theorem StP.tbE {s:StQ}{p:MSt}{n:Nat}(h:StP s p n):z1v s.fb.ts=p.tb:=congrArg (λx=>x.fb.t) h.e
theorem StP.csE {s:StQ}{p:MSt}{n:Nat}(h:StP s p n):s.fb.cs=y0v p.cr:=congrArg (λx=>x.fb.c) h.e
theorem StP.hsE {s:StQ}{p:MSt}{n:Nat}(h:StP s p n):s.fb.hs=(z2f p.B p.rk).map Hd.id:=congrArg (λx=>x.fb.h) h.e
theorem StP.fsE {s:StQ}{p:MSt}{n:Nat}(h:StP s p n):s.fb.fs=y0k p.fa:=congrArg (λx=>x.fb.f) h.e
theorem StP.ly {s:StQ}{p:MSt}{n:Nat}(h:StP s p n):s.ys.length=6:=by
 have:=congrArg List.length h.ysE;rw[List.length_map]at this;rw[this];exact h.v.inv.ly
theorem StP.lt {s:StQ}{p:MSt}{n:Nat}(h:StP s p n):s.fb.ts.length=6:=by
 have:=congrArg List.length h.tbE;rw[z1v,List.length_map]at this;rw[this];exact h.v.inv.lt
theorem StP.yE {s:StQ}{p:MSt}{n:Nat}(h:StP s p n){i:Nat}(D:i<6):(s.ys.getD i yq0).p=p.ys.getD i yn0:=by
 rw[<-h.ysE,List.getD,List.getD,List.getElem?_map,List.getElem?_eq_getElem (by rw[h.ly];exact D)];rfl
theorem StP.hl {s:StQ}{p:MSt}{n:Nat}(h:StP s p n):s.fb.hs.length<=320:=by
 rw[h.hsE,List.length_map,(z8h _ _).length_eq,y0e];exact y5f h.v.inv.B
theorem StP.fl {s:StQ}{p:MSt}{n:Nat}(h:StP s p n):s.fb.fs.length<=2048:=by
 rw[h.fsE,(z2x _).length_eq];have:=h.v.inv.cnt;have:=h.v.inv.all;omega
theorem v6f:∀(T:Tb) (y:Nat),z2t T y<=z5d T
 | [],y=>Nat.zero_le _
 | r::T,0=>Nat.le_add_right _ _
 | r::T,y+1=>Nat.le_trans (v6f T y) (Nat.le_add_left _ _)
theorem StP.cn {s:StQ}{p:MSt}{n:Nat}(h:StP s p n):(s.fb.cs.map cxK).Nodup:=by
 rw[h.csE];exact((z2u p.cr).map _).nodup_iff.2 h.v.cr.nd
def StK (Us:List Nat)(w:World)(s:StQ):Prop:=∀(S:List Nat) (w':World),Fr S w w'->(∀k∈S,k<w.heap.size->∃T cs,Blk w k T cs/\T∉Us)->StAt w' s
theorem StK.at {D:List Nat}{w:World}{s:StQ}(h:StK D w s):StAt w s:=h [] w (Fr.refl _ _) λk I=>by cases I
theorem StK.fr {D:List Nat}{w w':World}{s:StQ}{S:List Nat}(h:StK D w s)(hf:Fr S w w')(J:∀k∈S,k<w.heap.size->∃T cs,Blk w k T cs/\T∉D):StK D w' s:=λS2 w2 I Z=>h (S++S2) w2 (hf.trans I) λk hk hl=>by
 by_cases hm:k∈S
 ·exact J k hm hl
 obtain⟨T,cs,O,M⟩:=Z k ((List.mem_append.1 hk).resolve_left hm) (Nat.lt_of_lt_of_le hl hf.size)
 exact⟨T,cs,(hf.block k hl hm).symm.trans O,M⟩
theorem StK.ext {D:List Nat}{w w':World}{s:StQ}(h:StK D w s)(hf:Fr [] w w'):StK D w' s:=h.fr hf λk I=>by cases I
theorem StO.k {τ:TyK}{Tc base:Nat}{w:World}{s:StQ}(h:StO τ Tc base w s):StK [τ.S,τ.I,τ.Y,τ.P,τ.T,τ.L,Tc] w s:=λS w' hf hd=>by
 have D:Fr (S.filter λk=>decide (k<w.heap.size)) w w':=hf.weak λk J hl=>List.mem_filter.2 ⟨J,by simpa using hl⟩
 have o:∀T',T'∈[τ.S,τ.I,τ.Y,τ.P,τ.T,τ.L,Tc]->OffT w T' (S.filter λk=>decide (k<w.heap.size)):=λT' I k J=>by
  obtain⟨M,O⟩:=List.mem_filter.1 J
  obtain⟨T,cs,hb,Z⟩:=hd k M (by simpa using O)
  exact⟨T,cs,hb,λe=>Z (e▸I)⟩
 exact StO.at (base:=base) (τ:=τ) (Tc:=Tc) ⟨BdO.tf h.b D (o _ (by simp)) (o _ (by simp)),h.y.tf D (o _ (by simp)) (o _ (by simp)),h.t.tf D (o _ (by simp)) (o _ (by simp)) (o _ (by simp)) (o _ (by simp)),z1y h.c D (o _ (by simp)),z1y h.h D (o _ (by simp)),z1y h.f D (o _ (by simp))⟩
def u5f (p:MSt)(o:MOp):MSt:=match doM (nrm p) o with
  | .ok q=>q
  | .error _=>p
def sOf (l:List MOp)(i:Nat):MSt:=(l.take i).foldl u5f start
theorem x9k {l:List MOp}{i:Nat}(h:i<l.length):sOf l (i+1)=u5f (sOf l i) (l.getD i op0):=by
 unfold sOf;rw[List.take_add_one,List.getElem?_eq_getElem h,List.getD,List.getElem?_eq_getElem h,List.foldl_append];rfl
theorem y2n {D:List MOp}{i:Nat}(h:i<D.length:=by omega):sOf (D.map ofO) (i+1)=u5f (sOf (D.map ofO) i) (ofO (D.getD i op0)):=by
 rw[x9k (by rw[List.length_map];exact h),List.getD,List.getD,List.getElem?_map,List.getElem?_eq_getElem h];rfl
theorem x6w {p q:MSt}{o:MOp}(h:doM (nrm p) o=.ok q):u5f p o=q:=by unfold u5f;rw[h]
theorem y9w {p:MSt}{o:MOp}{e:Int}(h:doM (nrm p) o=.error e):u5f p o=p:=by unfold u5f;rw[h]
theorem u0s:TrB start.B:=⟨rfl,rfl⟩
end Go.G08
namespace Go.Proofs.YtpgdchkdlgkmgaaGreatDoor
open Go.Lw Go.G21 Go.G08 _root_.Go.Proofs.Tryz
abbrev UK:List Nat:=[τd.S,τd.I,τd.Y,τd.P,τd.T,τd.L,109]
theorem v3c {s:StQ}{p:MSt}{n:Nat}(h:StP s p n)(hn:n<=10000):StSz s:=by
 have hB:BdOk s.q.p:=h.BE▸h.v.inv.B;have hc:=h.c;obtain⟨⟨O,Z⟩,h3,h4⟩:=z3k hB;refine⟨O,Z,h3,h4,h.ly,h.lt,λi=>?_,λt ht=>?_,Nat.le_trans h.fl (by omega),?_,Nat.le_trans h.hl (by omega)⟩;by_cases hi:i<6;have:=(h.v.inv.yn i hi).1;rw[<-h.yE hi]at this;have D:=this.2;split at D;exact Nat.le_trans D.2.1 (by omega);rw[D.2.2];omega;rw[List.getD,List.getElem?_eq_none (by rw[h.ly];omega)];exact Nat.zero_le _;obtain⟨y,hy,rfl⟩:=List.getElem_of_mem ht;have h6:=h.lt;have e:∀n,lpA p.tb y n=((s.fb.ts.getD y tq0).2.getD n lq0).p:=λn=>by rw[<-h.tbE];exact z7l ..
 have M:z2t p.tb y=(s.fb.ts.getD y tq0).2.length:=by rw[<-h.tbE];exact z2p ..
 have J:s.fb.ts.getD y tq0=s.fb.ts[y]:=by rw[List.getD,List.getElem?_eq_getElem hy];rfl
 rw[J]at M e;refine⟨by have:=v6f p.tb y;have:=h.v.inv.all;omega,λq hq=>?_⟩;obtain⟨k,hk,rfl⟩:=List.getElem_of_mem hq;have I:=(h.v.tabV.ok.rts y (by omega) k (by omega)).1;rw[e,List.getD,List.getElem?_eq_getElem hk]at I;exact⟨Nat.le_trans I.2.1.1 (by omega),Nat.le_trans I.2.1.2 (by omega)⟩;rw[h.csE,(z2u _).length_eq];omega
theorem j2a {s:StQ}{p:MSt}{n:Nat}(h:StP s p n):(⟨s.rk,⟨trimB (plB s.q.fs),trimB (plB s.q.bs)⟩,s.ys.map YQ.p,z1v s.fb.ts,s.fb.cs,s.fb.fs⟩:MSt)=nrm p:=by
 have hf:plB s.q.fs=p.B.f:=congrArg Bd.f h.BE;have D:plB s.q.bs=p.B.b:=congrArg Bd.b h.BE;unfold nrm;rw[h.rkE,hf,D,h.t.1,h.t.2,h.ysE,h.tbE,h.csE,h.fsE]
theorem u3r {s:StQ}{p:MSt}{n:Nat}(w0:World)(M:StAt w0 s)(h:StP s p n):Rets prog 16 #[.agg #[.int .i64 s.rk,.slice s.q.f.1 s.q.f.2.1 s.q.f.2.2,.slice s.q.b.1 s.q.b.2.1 s.q.b.2.2,.slice s.yv.1 s.yv.2.1 s.yv.2.2,.slice s.fb.t.1 s.fb.t.2.1 s.fb.t.2.2,.slice s.fb.c.1 s.fb.c.2.1 s.fb.c.2.2,.slice s.fb.h.1 s.fb.h.2.1 s.fb.h.2.2,.slice s.fb.f.1 s.fb.f.2.1 s.fb.f.2.2]] w0 λr w'=>r=.int .i64 0/\Fr [] w0 w':=
 v6s s w0 M (by rw[h.rkE];exact h.v.inv.rk) (h.BE▸h.v.inv.B) h.ly h.lt (λi D=>by
  rw[h.yE D]
  have:=h.v.inv.yn i D
  refine⟨this.1,?_⟩
  have e:=h.yE D
  have I:(s.ys.getD i yq0).ct=(p.ys.getD i yn0).ct:=congrArg Yn.ct e
  rw[I,this.2,<-h.tbE]
  exact congrArg _ (z2p ..)) (λw J=>y8z s.fb w J h.lt (h.tbE▸h.v.tabV) (by rw[h.tbE,h.csE];exact h.v.crs) (by rw[h.tbE,h.hsE,h.fsE];exact h.v.place)) (by rw[h.hsE,h.rkE,h.BE]) (Nat.le_trans h.hl (by omega))
set_option maxHeartbeats 2000000 in
theorem z8s (s:StQ)(p:MSt)(n:Nat)(o:MOp)(w0:World)(hS:StAt w0 s)(hP:StP s p n)(hn:n<=1000)(b6:StT w0):Rets prog 19 #[.agg #[.int .i64 s.rk,.slice s.q.f.1 s.q.f.2.1 s.q.f.2.2,.slice s.q.b.1 s.q.b.2.1 s.q.b.2.2,.slice s.yv.1 s.yv.2.1 s.yv.2.2,.slice s.fb.t.1 s.fb.t.2.1 s.fb.t.2.2,.slice s.fb.c.1 s.fb.c.2.1 s.fb.c.2.2,.slice s.fb.h.1 s.fb.h.2.1 s.fb.h.2.2,.slice s.fb.f.1 s.fb.f.2.1 s.fb.f.2.2],opV o] w0 λr w'=>(∃s':StQ,r=.tuple #[.agg #[.int .i64 s'.rk,.slice s'.q.f.1 s'.q.f.2.1 s'.q.f.2.2,.slice s'.q.b.1 s'.q.b.2.1 s'.q.b.2.2,.slice s'.yv.1 s'.yv.2.1 s'.yv.2.2,.slice s'.fb.t.1 s'.fb.t.2.1 s'.fb.t.2.2,.slice s'.fb.c.1 s'.fb.c.2.1 s'.fb.c.2.2,.slice s'.fb.h.1 s'.fb.h.2.1 s'.fb.h.2.2,.slice s'.fb.f.1 s'.fb.f.2.1 s'.fb.f.2.2],.int .i64 (v2a (doM (nrm p) o))]/\StO τd 109 w0.heap.size w' s'/\(∀q,doM (nrm p) o=.ok q->StP s' q (n+1))/\(v2a (doM (nrm p) o)≠0->s'=stZ)/\(v2a (doM (nrm p) o)=0->∃q,doM (nrm p) o=.ok q))/\Fr [] w0 w':=by
 have b5:=v3c hP (by omega);refine we [(0,.agg #[.int .i64 s.rk,.slice s.q.f.1 s.q.f.2.1 s.q.f.2.2,.slice s.q.b.1 s.q.b.2.1 s.q.b.2.2,.slice s.yv.1 s.yv.2.1 s.yv.2.2,.slice s.fb.t.1 s.fb.t.2.1 s.fb.t.2.2,.slice s.fb.c.1 s.fb.c.2.1 s.fb.c.2.2,.slice s.fb.h.1 s.fb.h.2.1 s.fb.h.2.2,.slice s.fb.f.1 s.fb.f.2.1 s.fb.f.2.2]),(1,opV o)] func19 U ntmps19 U (.c2 U U) ?_;have a5:=hS;refine sr (bx U (λg2 w1 d4 J q1 z1=>(bx U (λg3 w2 d5 M q2 z2=>(al x2t U (λg4 w3 d6 D q3 z3=>(asg U (nn (sq (sr ?_))))))))));replace J:=J.ext (q2.n1 q3);refine z0k U J z9a ?_;replace hS:=a5.ext (q1.n2 q2 q3);refine cl (ev1 U) (mkC func16) (u3r _ hS hP) U ?_;rintro _ w4 ⟨rfl,q4⟩;have z4:=q4.size;refine asg U (nn (sr (mv U (ne' U (nn (cd U (λc0=>?_) (λc0=>?_)))))));refine sr (z1s (cs:=[_,_,_,_,_,_,_,_]) z0f v4f z0q U ?_);refine mv U ?_;replace D:=D.ext q4;refine z0i (vs:=[_,_,_,_,_,_,_,_]) U D y1b (λw5 D q5 z5=>(asg U (kpL [(4,_),(5,_)] (.c2 U U) (nn (rt (tr (rCT results19 U D z9a U ?_)))))));exact absurd U (by assumption);refine sk (tn (sr ?_));replace J:=J.ext q4;refine z0k U J z9a ?_;replace hS:=a5.ext (q1.n3 q2 q3 q4);replace D:=D.ext q4;refine cl (z0a U z0f) (mkC func25) (v3n s _ hS b5 hP.cn) U ?_;rintro _ w6 ⟨ka,m,rfl,Z,b7⟩;have q6:=Z.fr.fr;have z6:=q6.size;have a0:=D;have a9:m.p=nrm p:=b7.trans (j2a hP);have b3:MInv m.p:=by rw[a9];exact(z7s hP.v).inv
 have d0:=Z.c.lt;have d1:=Z;refine asg U (nn (sq (sq ?_)));intro a h;refine z0j (some 3) (λwb w'=>Fr [] wb w') z2s ?_;intro w7 q7;have z7:=q7.size;replace M:=M.ext (q3.n3 q4 q6 q7);replace Z:=Z.ext q7;have hC:Fr [] w7 w7:=Fr.refl _ _;have O:=M;have a3:=Z;refine z0e 0 h U λa h=>z0z 2 h U (λ_ hw=>O.ext hw) y2a U λa h=>z0d 1 U ?_;refine z0m h z0f (mkC func26) (v8i _) ?_;rintro _ w8 ⟨⟨gl,rfl,d7,hl⟩,q8⟩ a h;have z8:=q8.size;replace M:=M.ext q8;replace Z:=Z.ext q8;replace hC:=hC.next q8;refine z0b ?_;refine z0d 3 U ?_;have d3:=Z.fr;refine z0m h (z0a U (z0a U (z0a U z0f))) (mkC func27) (u4u w4 { ka with wk:=w8 } m o gl _ Z.mark b3 (b6.ext (q1.n3 q2 q3 q4)) hl) λ_ w9 hR a h=>?_;obtain⟨rfl,a1,m1,a8⟩:=hR.split;have z9:=a1.kp.size;simp only at z9;have q9:=a1.fr;rw[a9]at a8 h;refine z1n ?_;refine z0d 4 U ?_;refine z0s h U λa h=>?_;refine z1n ?_;refine z0r ?_;clear hC O a3;refine bk (h.sub (L':=[(4,_),(7,_),(8,_)]) (.c3 U U U)) (tn (sr (mv U (ne' U (nn (cd U (λc1=>?_) (λc1=>?_)))))));have D:=a0.ext a1.fr;refine sr (z1s (cs:=[_,_,_,_,_,_,_,_]) z0f v4f z0q U ?_);refine mv U (z0i (vs:=[_,_,_,_,_,_,_,_]) U D y1b (λd9 D b9 e1=>(asg U (nn (rt (tr (rCT results19 U D z9a U ?_)))))));exact⟨_,rfl,⟨stZ,rfl,j1x _ _,λq hq=>(by rw[z6i c1]at hq;cases hq),λ_=>rfl,λe=>absurd e c1⟩,(q1.z5 q2 q3 q4 q9 b9)⟩;obtain⟨b2,I⟩:=a8 (Classical.not_not.1 c1);have a4:=x7r (z7s hP.v).inv I;have a7:m1.cr.length<=100000000:=by have x:=j6d (z7s hP.v).inv I;have y:=hP.c;rw[u5v]at x;exact Nat.le_trans x (by omega)
 refine sk (tn (sr (mv U (cl (z0a U z0f) (mkC func28) (x3s w4 { ka with wk:=w8 } m1 _ b2 a4 a7) U ?_))));rintro _ e0 ⟨s',rfl,b4,b8,a2⟩;have e2:=a2.size;have D:=a0.ext a2;have a6:=D;refine z0i (vs:=[_,_,_,_,_,_,_,_]) U D y1b (λc9 D b0 e3=>(asg U (nn (rt (rCT results19 U D z9a U ?_)))));have b1:Fr [] _ c9:=(Fr.refl _ _);exact⟨_,rfl,⟨s',by rw[I];rfl,((b4.off a6 (by decide) b0).ext b1).low (by omega),λq hq=>(by rw[I]at hq;cases hq;exact hP.do I b8),λe=>absurd (by rw[I];rfl) e,λ_=>⟨_,I⟩⟩,(q1.z5 q2 q3 q4 a2 b0)⟩
end Go.Proofs.YtpgdchkdlgkmgaaGreatDoor
namespace Go.Proofs.YtpgdchkdlgkmgaaGreatDoor
open Go.Lw _root_.Go.Proofs.Tryz
theorem ag76:z3y prog 76 6:=⟨λ_=>by kernel_rfl,λ_=>by kernel_rfl⟩
end Go.Proofs.YtpgdchkdlgkmgaaGreatDoor
namespace Go.Proofs.YtpgdchkdlgkmgaaGreatDoor
open Go.Lw Go.G21 Go.G08 _root_.Go.Proofs.Tryz
theorem u9w:CallOf prog 19:=mkC func19
theorem el69:ElemOf prog 69 76 u2o 6:=ElemOf.mk' (z:=(.agg #[.int .u8 0,.int .u8 0,.int .u8 0,.int .u8 0,.int .u8 0,.int .u8 0])) underlying69 (by kernel_rfl) U
theorem stp0 (I D:Nat):StP (st0 I D) G08.start 0:=⟨j8y I D,z8a,u0s,Nat.zero_le _⟩
set_option maxHeartbeats 2000000 in
theorem j7w (v:Value)(xs:List MOp)(w0:World)(hs:Sl u2o w0 v xs)(hb:∀x∈xs,x.Bytes)(J:StT w0):Rets prog 18 #[v] w0 λr w'=>(∃s:StQ,r=.agg #[.int .i64 s.rk,.slice s.q.f.1 s.q.f.2.1 s.q.f.2.2,.slice s.q.b.1 s.q.b.2.1 s.q.b.2.2,.slice s.yv.1 s.yv.2.1 s.yv.2.2,.slice s.fb.t.1 s.fb.t.2.1 s.fb.t.2.2,.slice s.fb.c.1 s.fb.c.2.1 s.fb.c.2.2,.slice s.fb.h.1 s.fb.h.2.1 s.fb.h.2.2,.slice s.fb.f.1 s.fb.f.2.1 s.fb.f.2.2]/\StK UK w' s/\StP s (sOf (xs.map ofO) (min 60 xs.length)) 60)/\Fr [] w0 w':=by
 obtain⟨A,c,rfl,e3,d6,hA⟩:=id hs;clear hA;unfold maxLen at d6;refine we [(0,.slice A xs.length c)] func18 U ntmps18 U (.cons U .nil) ?_;have d7:=hs;have b7:=J;refine sr (al x2t U (λg2 w1 e4 b3 q1 z1=>(nn (sr (cl z0f (mkC func10) (y8a _) U ?_)))));rintro _ w2 ⟨⟨gy,gt,rfl,hO⟩,q2⟩;have z2:=q2.size;have M:=hO.k;clear hO;refine al x2t U (λg3 w3 e5 D q3 z3=>(z0i (vs:=[_,_,_,_,_,_,_,_]) U D y1b (λw4 D q4 z4=>(nn (sq (sr (asg U (nn (bl ?_)))))))));replace M:=(M.ext q3).fr q4 (by intro k O _;rw[List.mem_singleton]at O;subst O;exact⟨_,_,by assumption,by decide⟩);refine lpK (ι:=Nat×StQ) [(0,_),(2,_),(3,_)] (λp=>[(4,.int .i64 (p.1:Int))]) (λp w'=>Fr [g3] w4 w'/\(p.1<=xs.length/\p.1<=60)/\Blk w' g3 41 (stL p.2)/\StK UK w' p.2/\StP p.2 (sOf (xs.map ofO) p.1) p.1) (λp=>60-p.1) (0,st0 gy gt) (.c4 U U U U) ⟨Fr.refl _ _,⟨⟨Nat.zero_le _,Nat.zero_le _⟩,D,M,stp0 gy gt⟩⟩ ?_;rintro⟨i,s⟩ w5 ⟨q5,⟨b9,D,M,hP⟩⟩;simp only at b9 D M hP;have z5:=q5.size;have d5:=D.lt;refine kpC [(0,_),(2,_),(3,_),(4,.int .i64 (i:Int))] (.c4 U U U U) (sq (sq ?_));refine rbo (r:=15) (L':=[(0,_),(2,_),(3,_),(4,_)]) ((((i:Int)<(xs.length:Int))/\((i:Int)<60))) (.c4 U U U U) ?_ ?_;refine mv U (mv U (lnS U underlying69 (lt' U (mv U (gs 12 U (λg0=>?_) (λg0=>?_))))));exact gY U (mv U (gY U (lt' U (pkt U (rbe U (.c4 U U U U))))));exact gN U (gN U (pkf U (rbe U (.c4 U U U U))));refine tn (cd U (λc0=>?_) (λc0=>?_));refine sk (tn (sq (bl (sq ?_))));replace hs:=d7.ext (q1.z4 q2 q3 q4 q5);replace J:=b7.ext (q1.z4 q2 q3 q4 q5);intro a h;refine z0j none (λwb w'=>Fr [] wb w') z2s ?_;intro w6 q6;have z6:=q6.size;replace hs:=hs.ext q6;replace J:=J.ext q6;replace D:=D.ext q6;replace M:=M.ext q6;have hC:Fr [] w6 w6:=Fr.refl _ _;have b1:=hs;have a7:=J;have a0:=D;have b2:=M;refine z0z 0 h U (λ_ hw=>a0.ext hw) z9a U λa h=>z0e 1 h U λa h=>z0e 2 h U λa h=>z1h (op0) 3 h U hs U el69 U ?_ (hp:=rfl);clear h a;intro e2 b8 a h;refine z2c 4 h wn U (λ_ hw=>b8 _ (b1.ext hw)) ag76 U λa h=>z2e 5 10 (by kernel_rfl) U ?_ ?_;refine z0m h (z0a U z0f) (mkC func22) (u8n (xs.getD i op0) _ (hb _ (z0t (d:=op0) (by omega)))) ?_;rintro _ w7 ⟨rfl,q7⟩ a h;have z7:=q7.size;replace hs:=hs.ext q7;replace J:=J.ext q7;replace D:=D.ext q7;replace M:=M.ext q7;replace hC:=hC.next q7;refine z0b ?_;refine z2e 6 10 (by kernel_rfl) U ?_ ?_;refine z0m h (z0a U (z0a U z0f)) u9w (z8s s (sOf (xs.map ofO) i) i (ofO (xs.getD i op0)) _ M.at hP (by omega) J) ?_;rintro _ w8 ⟨⟨s',rfl,hO,b5,c9,b6⟩,q8⟩ a h;have z8:=q8.size;replace D:=D.ext q8;replace hC:=hC.next q8;have hN:=hO.k;clear hO;refine z0b ?_;refine z0e 7 h U λa h=>z0n 8 h U λa h=>z0n 9 h U λa h=>z0d 10 U ?_;refine z1c h x2t U λw9 I q9 hz a h=>?_;obtain⟨a2,hg⟩:∃g,g=w8.heap.size:=⟨_,rfl⟩;rw[<-hg]at I h hz;have b4:g3<a2:=by have:=D.lt;omega
 have z9:=q9.size;replace hs:=hs.ext (q8.n1 q9);replace J:=J.ext (q8.n1 q9);replace D:=D.ext q9;replace M:=M.ext (q8.n1 q9);replace hN:=hN.ext q9;replace hC:=hC.next q9;refine z0b ?_;refine z0d 11 U ?_;refine z0u h U I U y1b λd9 a3 a8 hz a h=>?_;have f5:=a8.size;replace D:=D.fr a8;replace M:=M.fr a8 (by intro k O _;rw[List.mem_singleton]at O;subst O;exact⟨_,_,by assumption,by decide⟩);replace hN:=hN.fr a8 (by intro k O _;rw[List.mem_singleton]at O;subst O;exact⟨_,_,by assumption,by decide⟩);replace hC:=hC.sp a8;clear I hz;have I:Blk d9 a2 _ [_,_,_,_,_,_,_,_]:=a3;clear a3;refine z0b ?_;refine z0d 12 U ?_;refine z0s h U λa h=>?_;refine z0b ?_;refine z0r ?_;clear hC b1 a7 a0 b2;refine bk (h.sub (L':=[(0,_),(2,_),(3,_),(4,_),(5,_),(6,_)]) (.c6 U U U U U U)) (tn (sr (mv U (eq' U (nn (cd U (λc1=>?_) (λc1=>?_)))))));obtain⟨pq,a4⟩:=b6 c1;have Z:StP s' (sOf (xs.map ofO) (i+1)) (i+1):=by rw[y2n,x6w a4];exact b5 _ a4
 refine rg (z0k U I z9a (z0i (vs:=[_,_,_,_,_,_,_,_]) U D y1b (λe6 D d0 f6=>(nl (bn' (tn (rg (mv U (z0v U (wi6 (by omega)) (asg U (nl ?_)))))))))));replace hN:=hN.fr d0 (by intro k O _;rw[List.mem_singleton]at O;subst O;exact⟨_,_,by assumption,by decide⟩);exact lpE ((i+1,s')) (.c4 U U U U) ⟨(((Fr.refl [g3] _).z6 q5 q6 q7 q8 q9 a8).z1 d0),⟨by simp only;omega,D,hN,Z⟩⟩ (by omega);have Z:StP s (sOf (xs.map ofO) (i+1)) (i+1):=by rw[y2n,y9w (z6i c1)];exact hP.mono (Nat.le_succ i)
 refine sk (bn' (tn (rg (mv U (z0v U (wi6 (by omega)) (asg U (nl ?_)))))));exact lpE ((i+1,s)) (.c4 U U U U) ⟨((Fr.refl [g3] _).z6 q5 q6 q7 q8 q9 a8),⟨by simp only;omega,D,M,Z⟩⟩ (by omega);refine z1c h x2t U λe7 I a5 hz a h=>?_;obtain⟨a2,hg⟩:∃g,g=w7.heap.size:=⟨_,rfl⟩;rw[<-hg]at I h hz;have b4:g3<a2:=by have:=D.lt;omega
 have f7:=a5.size;replace J:=J.ext a5;replace M:=M.ext a5;replace hC:=hC.next a5;refine z0b ?_;refine z0d 6 U ?_;refine z0m h (z0a U (z0a U z0f)) u9w (z8s s (sOf (xs.map ofO) i) i (ofO (xs.getD i op0)) _ M.at hP (by omega) J) ?_;rintro _ e8 ⟨⟨s',rfl,hO,b5,c9,b6⟩,q13⟩ a h;have f8:=q13.size;replace hs:=hs.ext (a5.n1 q13);replace J:=J.ext q13;replace D:=D.ext (a5.n1 q13);replace M:=M.ext q13;replace I:=I.ext q13;replace hC:=hC.next q13;have hN:=hO.k;clear hO;refine z0b ?_;refine z0e 7 h U λa h=>z0n 8 h U λa h=>z0n 9 h U λa h=>z0d 11 U ?_;refine z0u h U I U y1b λe0 a3 a9 hz a h=>?_;have f9:=a9.size;replace D:=D.fr a9;replace M:=M.fr a9 (by intro k O _;rw[List.mem_singleton]at O;subst O;exact⟨_,_,by assumption,by decide⟩);replace hN:=hN.fr a9 (by intro k O _;rw[List.mem_singleton]at O;subst O;exact⟨_,_,by assumption,by decide⟩);replace hC:=hC.sp a9;clear I hz;have I:Blk e0 a2 _ [_,_,_,_,_,_,_,_]:=a3;clear a3;refine z0b ?_;refine z0d 12 U ?_;refine z0s h U λa h=>?_;refine z0b ?_;refine z0r ?_;clear hC b1 a7 a0 b2;refine bk (h.sub (L':=[(0,_),(2,_),(3,_),(4,_),(5,_),(6,_)]) (.c6 U U U U U U)) (tn (sr (mv U (eq' U (nn (cd U (λc1=>?_) (λc1=>?_)))))));obtain⟨pq,a4⟩:=b6 c1;have Z:StP s' (sOf (xs.map ofO) (i+1)) (i+1):=by rw[y2n,x6w a4];exact b5 _ a4
 refine rg (z0k U I z9a (z0i (vs:=[_,_,_,_,_,_,_,_]) U D y1b (λe9 D d1 g1=>(nl (bn' (tn (rg (mv U (z0v U (wi6 (by omega)) (asg U (nl ?_)))))))))));replace hN:=hN.fr d1 (by intro k O _;rw[List.mem_singleton]at O;subst O;exact⟨_,_,by assumption,by decide⟩);exact lpE ((i+1,s')) (.c4 U U U U) ⟨(((Fr.refl [g3] _).z6 q5 q6 q7 a5 q13 a9).z1 d1),⟨by simp only;omega,D,hN,Z⟩⟩ (by omega);have Z:StP s (sOf (xs.map ofO) (i+1)) (i+1):=by rw[y2n,y9w (z6i c1)];exact hP.mono (Nat.le_succ i)
 refine sk (bn' (tn (rg (mv U (z0v U (wi6 (by omega)) (asg U (nl ?_)))))));exact lpE ((i+1,s)) (.c4 U U U U) ⟨((Fr.refl [g3] _).z6 q5 q6 q7 a5 q13 a9),⟨by simp only;omega,D,M,Z⟩⟩ (by omega);refine z1c h x2t U λf0 I a6 hz a h=>?_;obtain⟨a2,hg⟩:∃g,g=w6.heap.size:=⟨_,rfl⟩;rw[<-hg]at I h hz;have b4:g3<a2:=by have:=D.lt;omega
 have g4:=a6.size;replace hC:=hC.next a6;refine z0b ?_;refine z0d 5 U ?_;refine z0m h (z0a U z0f) (mkC func22) (u8n (xs.getD i op0) _ (hb _ (z0t (d:=op0) (by omega)))) ?_;rintro _ f1 ⟨rfl,a1⟩ a h;have g5:=a1.size;replace J:=J.ext (a6.n1 a1);replace M:=M.ext (a6.n1 a1);replace hC:=hC.next a1;refine z0b ?_;refine z0d 6 U ?_;refine z0m h (z0a U (z0a U z0f)) u9w (z8s s (sOf (xs.map ofO) i) i (ofO (xs.getD i op0)) _ M.at hP (by omega) J) ?_;rintro _ f2 ⟨⟨s',rfl,hO,b5,c9,b6⟩,q18⟩ a h;have g6:=q18.size;replace hs:=hs.ext (a6.n2 a1 q18);replace J:=J.ext q18;replace D:=D.ext (a6.n2 a1 q18);replace M:=M.ext q18;replace I:=I.ext (a1.n1 q18);replace hC:=hC.next q18;have hN:=hO.k;clear hO;refine z0b ?_;refine z0e 7 h U λa h=>z0n 8 h U λa h=>z0n 9 h U λa h=>z0d 11 U ?_;refine z0u h U I U y1b λe1 a3 b0 hz a h=>?_;have g7:=b0.size;replace D:=D.fr b0;replace M:=M.fr b0 (by intro k O _;rw[List.mem_singleton]at O;subst O;exact⟨_,_,by assumption,by decide⟩);replace hN:=hN.fr b0 (by intro k O _;rw[List.mem_singleton]at O;subst O;exact⟨_,_,by assumption,by decide⟩);replace hC:=hC.sp b0;clear I hz;have I:Blk e1 a2 _ [_,_,_,_,_,_,_,_]:=a3;clear a3;refine z0b ?_;refine z0d 12 U ?_;refine z0s h U λa h=>?_;refine z0b ?_;refine z0r ?_;clear hC b1 a7 a0 b2;refine bk (h.sub (L':=[(0,_),(2,_),(3,_),(4,_),(5,_),(6,_)]) (.c6 U U U U U U)) (tn (sr (mv U (eq' U (nn (cd U (λc1=>?_) (λc1=>?_)))))));obtain⟨pq,a4⟩:=b6 c1;have Z:StP s' (sOf (xs.map ofO) (i+1)) (i+1):=by rw[y2n,x6w a4];exact b5 _ a4
 refine rg (z0k U I z9a (z0i (vs:=[_,_,_,_,_,_,_,_]) U D y1b (λf3 D d3 g8=>(nl (bn' (tn (rg (mv U (z0v U (wi6 (by omega)) (asg U (nl ?_)))))))))));replace hN:=hN.fr d3 (by intro k O _;rw[List.mem_singleton]at O;subst O;exact⟨_,_,by assumption,by decide⟩);exact lpE ((i+1,s')) (.c4 U U U U) ⟨(((Fr.refl [g3] _).z6 q5 q6 a6 a1 q18 b0).z1 d3),⟨by simp only;omega,D,hN,Z⟩⟩ (by omega);have Z:StP s (sOf (xs.map ofO) (i+1)) (i+1):=by rw[y2n,y9w (z6i c1)];exact hP.mono (Nat.le_succ i)
 refine sk (bn' (tn (rg (mv U (z0v U (wi6 (by omega)) (asg U (nl ?_)))))));exact lpE ((i+1,s)) (.c4 U U U U) ⟨((Fr.refl [g3] _).z6 q5 q6 a6 a1 q18 b0),⟨by simp only;omega,D,M,Z⟩⟩ (by omega);refine ex (te (te (xh (tn (sr (z0k U D z9a ?_))))));replace b3:=((b3.ext (q2.n1 q3)).fr q4).fr q5;refine z0i (vs:=[_,_,_,_,_,_,_,_]) U b3 y1b (λf4 b3 d4 g9=>(nn (rt (rC results18 U b3 z9a  ?_))));replace M:=M.fr d4 (by intro k O _;rw[List.mem_singleton]at O;subst O;exact⟨_,_,by assumption,by decide⟩);exact⟨_,rfl,⟨s,rfl,M,by rw[show min 60 xs.length=i by omega];exact hP.mono b9.2⟩,(q1.z5 q2 q3 q4 q5 d4)⟩
end Go.Proofs.YtpgdchkdlgkmgaaGreatDoor
namespace Go.G08
open Go.Lw Go.G21
structure Eqv (p q:MSt):Prop where
  rk:p.rk=q.rk
  B:p.B=q.B
  ys:p.ys=q.ys
  tb:p.tb=q.tb
  cr:p.cr.Perm q.cr
  fa:p.fa.Perm q.fa
  nd:(p.cr.map λc=>(c.a,c.b)).Nodup
theorem Eqv.refl {p:MSt}(h:(p.cr.map λc=>(c.a,c.b)).Nodup):Eqv p p:=⟨rfl,rfl,rfl,rfl,.refl _,.refl _,h⟩
theorem Eqv.trans {p q r:MSt}(h:Eqv p q)(D:Eqv q r):Eqv p r:=⟨h.rk.trans D.rk,h.B.trans D.B,h.ys.trans D.ys,h.tb.trans D.tb,h.cr.trans D.cr,h.fa.trans D.fa,h.nd⟩
theorem Eqv.symm {p q:MSt}(h:Eqv p q):Eqv q p:=⟨h.rk.symm,h.B.symm,h.ys.symm,h.tb.symm,h.cr.symm,h.fa.symm,(h.cr.map _).nodup_iff.1 h.nd⟩
theorem y2d {p:MSt}(h:MVal p):Eqv p (nrm p):=⟨rfl,rfl,rfl,rfl,(z2u _).symm,(z2x _).symm,h.cr.nd⟩
theorem Eqv.stM {p q:MSt}(h:Eqv p q):stM p=stM q:=by
 unfold G08.stM;rw[h.rk,h.B,h.ys,h.tb,x6t h.symm.nd ((z2u p.cr).trans h.cr) (y4z p.cr),v4i ((z2x p.fa).trans h.fa) (x0p p.fa)]
def u1o:MR->MR->Prop
  | .error e,.error e'=>e=e'
  | .ok p,.ok q=>Eqv p q
  | _,_=>False
theorem z9t {a b:LId}{c:Cx}:isC a b c=true↔(c.a,c.b)=(a,b):=by unfold isC;simp[Prod.ext_iff]
theorem y4j {a b:LId}:∀ {l:List Cx} {c:Cx},(l.map λc=>(c.a,c.b)).Nodup->c∈l->(c.a,c.b)=(a,b)->l.find? (isC a b)=some c
 | x::l,c,hn,D,hk=>by
  rw[List.map_cons,List.nodup_cons]at hn
  rw[List.find?_cons]
  rcases List.mem_cons.1 D with rfl|D
  ·rw[z9t.2 hk]
  have:isC a b x=false:=by
   rw[<-Bool.not_eq_true,z9t]
   intro e
   exact hn.1 (e▸hk▸List.mem_map.2 ⟨c,D,rfl⟩)
  rw[this]
  exact y4j hn.2 D hk
theorem v2r {l l':List Cx}{a b:LId}(hp:l.Perm l')(hn:(l.map λc=>(c.a,c.b)).Nodup):z5o l a b=z5o l' a b:=by
 have I:=(hp.map λc=>(c.a,c.b)).nodup_iff.1 hn;unfold z5o;by_cases h:∃c∈l,(c.a,c.b)=(a,b);obtain⟨c,D,J⟩:=h;rw[y4j hn D J,y4j I (hp.mem_iff.1 D) J];have e:∀m:List Cx,(∀c∈m,c∈l)->m.find? (isC a b)=none:=λm M=>List.find?_eq_none.2 λc D e=>h ⟨c,M c D,z9t.1 e⟩;rw[e l (λ_ D=>D),e l' λ_ D=>hp.mem_iff.2 D]
theorem u0j {l l':List Cx}{f:Cx->Bool}(hp:l.Perm l'):l.any f=l'.any f:=by
 rw[Bool.eq_iff_iff,List.any_eq_true,List.any_eq_true];exact⟨λ⟨c,hc,h⟩=>⟨c,hp.mem_iff.1 hc,h⟩,λ⟨c,hc,h⟩=>⟨c,hp.mem_iff.2 hc,h⟩⟩
theorem v2i {l l':List Cx}{a b:LId}{n:Int}(hp:l.Perm l'):(y4h l a b n).Perm (y4h l' a b n):=by
 unfold y4h;rw[u0j hp];split;exact hp.map _;exact hp.append_right _
theorem u9d {l:List Cx}{a b:LId}{n:Int}(hn:(l.map λc=>(c.a,c.b)).Nodup):((y4h l a b n).map λc=>(c.a,c.b)).Nodup:=by
 by_cases h:l.any (isC a b)=true;rw[x9l h];exact hn;unfold y4h;rw[if_neg h,List.map_append,List.nodup_append];refine⟨hn,by simp,λx I y J e=>h ?_⟩;obtain⟨c,D,rfl⟩:=List.mem_map.1 I;obtain rfl:y=(a,b):=by simpa using J
 exact List.any_eq_true.2 ⟨c,D,z9t.2 e⟩
theorem j1a {l:List Cx}{a b:LId}(hn:(l.map λc=>(c.a,c.b)).Nodup):((x6i l a b).map λc=>(c.a,c.b)).Nodup:=hn.sublist (List.Sublist.map _ List.filter_sublist)
def CEqv:Except Int (List Cx)->Except Int (List Cx)->Prop
  | .error e,.error e'=>e=e'
  | .ok l,.ok l'=>l.Perm l'/\(l.map λc=>(c.a,c.b)).Nodup
  | _,_=>False
theorem v4l {l l':List Cx}{c:Cx}(hp:l.Perm l')(hn:(l.map λc=>(c.a,c.b)).Nodup):CEqv (y4g l c) (y4g l' c):=by
 rw[y2o,y2o,v2r hp hn];generalize z5o l' (z4g c).1 (z4g c).2+c.n=n;by_cases h1:n < -1048576\/1048576<n;rw[if_pos h1,if_pos h1];rfl;rw[if_neg h1,if_neg h1];by_cases h2:n=0;rw[if_pos h2,if_pos h2];exact⟨hp.filter _,j1a hn⟩;rw[if_neg h2,if_neg h2];exact⟨v2i hp,u9d hn⟩
theorem y7l:∀ {r l l':List Cx},l.Perm l'->(l.map λc=>(c.a,c.b)).Nodup->CEqv (z3l l r) (z3l l' r)
 | [],l,l',hp,hn=>⟨hp,hn⟩
 | c::r,l,l',hp,hn=>by
  have h:=v4l (c:=c) hp hn
  unfold z3l
  revert h
  cases y4g l c with
  | error e=>cases y4g l' c with
   | error e'=>exact λh=>h
   | ok m'=>exact λh=>h.elim
  | ok m=>cases y4g l' c with
   | error e'=>exact λh=>h.elim
   | ok m'=>exact λh=>y7l h.1 h.2
theorem x5p {p q:MSt}(D:p.B=q.B)(I:p.rk=q.rk)(d:Int)(y:Yn):z6t p d y=z6t q d y:=by unfold z6t;rw[D,I]
theorem y3s {p q:MSt}(D:p.B=q.B)(I:p.rk=q.rk)(d:Int):∀l,z3s p d l=z3s q d l
 | []=>rfl
 | y::l=>by unfold z3s;rw[x5p D I,y3s D I d l]
theorem x2l {p q:MSt}(h:Eqv p q)(d:Int):u1o (z3q p d) (z3q q d):=by
 unfold z3q;rw[y3s h.B h.rk,h.ys];cases z3s q d q.ys with
 | error e=>rfl
 | ok ys=>
  have D:=y7l (r:=z3m q.B q.rk d) h.cr h.nd;rw[<-h.B,<-h.rk]at D ⊢;revert D;dsimp only;cases z3l p.cr (z3m p.B p.rk d) with
  | error e=>cases z3l q.cr (z3m p.B p.rk d) with
   | error e'=>exact λh=>h
   | ok m'=>exact λh=>h.elim
  | ok m=>cases z3l q.cr (z3m p.B p.rk d) with
   | error e'=>exact λh=>h.elim
   | ok m'=>exact λD=>⟨rfl,rfl,rfl,h.tb,D.1,h.fa,D.2⟩
theorem x2w {r:Int}:∀ {n:Nat} {p q:MSt},Eqv p q->u1o (z4m n p r) (z4m n q r)
 | 0,p,q,h=>h
 | n+1,p,q,h=>by
  unfold z4m
  rw[h.rk]
  by_cases e:q.rk=r
  ·rw[if_pos e,if_pos e];exact h
  rw[if_neg e,if_neg e]
  have D:=x2l h (if r<q.rk then 0 else 1)
  revert D
  cases z3q p (if r<q.rk then 0 else 1) with
  | error e=>cases z3q q (if r<q.rk then 0 else 1) with
   | error e'=>exact λh=>h
   | ok m'=>exact λh=>h.elim
  | ok m=>cases z3q q (if r<q.rk then 0 else 1) with
   | error e'=>exact λh=>h.elim
   | ok m'=>exact λh=>x2w h
abbrev wth (p:MSt)(c:List Cx)(f:List LId):MSt:=⟨p.rk,p.B,p.ys,p.tb,c,f⟩
theorem Eqv.wth {p q:MSt}(h:Eqv p q):q=wth p q.cr q.fa:=by
 obtain⟨_,_,_,_,_,_⟩:=q;obtain⟨D,I,J,M,_,_,_⟩:=h;simp only at D I J M;subst D;subst I;subst J;subst M;rfl
theorem x0c {p:MSt}{c:List Cx}{f:List LId}(h:Eqv p (wth p c f))(y:Int)(q:Yn):Eqv (p.setY y q) ((wth p c f).setY y q):=⟨rfl,rfl,rfl,rfl,h.cr,h.fa,h.nd⟩
theorem x9u {p:MSt}{c:List Cx}{f:List LId}(h:Eqv p (wth p c f))(y D en:Int):u1o (z8z p y D en) (z8z (wth p c f) y D en):=by
 unfold z8z;by_cases e:goE (p.y y) D (y3l p y en)≠0;rw[if_pos e,if_pos (show goE ((wth p c f).y y) D (y3l (wth p c f) y en)≠0 from e)];rfl;rw[if_neg e,if_neg (show ¬goE ((wth p c f).y y) D (y3l (wth p c f) y en)≠0 from e)];exact x0c h _ _
theorem v0f {p q:MSt}(h:Eqv p q)(o:MOp)(I st:List LId):u1o (y3x p o I st) (y3x q o I st):=by
 have D:=h.wth;generalize q.cr=c at D;generalize q.fa=f at D;subst D;unfold y3x;by_cases e:mkE (p.y o.y)≠0;rw[if_pos e,if_pos (show mkE ((G08.wth p c f).y o.y)≠0 from e)];rfl;rw[if_neg e,if_neg (show ¬mkE ((G08.wth p c f).y o.y)≠0 from e)];by_cases e2:2048<=z5d p.tb;rw[if_pos e2,if_pos e2];rfl;rw[if_neg e2,if_neg e2];exact⟨rfl,rfl,rfl,rfl,h.cr,h.fa,h.nd⟩
theorem k0f {m D:MSt}(h:Eqv m D)(o:MOp):u1o (if 4<=(m.B.at o.b o.p).length then .error 9 else y3x m o [] (m.B.at o.b o.p)) (if 4<=(D.B.at o.b o.p).length then .error 9 else y3x D o [] (D.B.at o.b o.p)):=by
 rw[<-h.B];by_cases e4:4<=(m.B.at o.b o.p).length;rw[if_pos e4,if_pos e4];rfl;rw[if_neg e4,if_neg e4];exact v0f h _ _ _
theorem j1y {p q:MSt}(h:Eqv p q)(o:MOp):u1o (opM p o) (opM q o):=by
 have D:=h.wth;generalize q.cr=c at D;generalize q.fa=f at D;subst D;unfold opM;by_cases k1:o.k=1;rw[if_pos k1,if_pos k1];unfold inM;by_cases e:enE (p.y o.y) o.d≠0;rw[if_pos e,if_pos (show enE ((G08.wth p c f).y o.y) o.d≠0 from e)];rfl;rw[if_neg e,if_neg (show ¬enE ((G08.wth p c f).y o.y) o.d≠0 from e)];exact x0c h _ _;rw[if_neg k1,if_neg k1];by_cases k2:o.k=2;rw[if_pos k2,if_pos k2];unfold v1h;by_cases e:lvE (p.y o.y)≠0;rw[if_pos e,if_pos (show lvE ((G08.wth p c f).y o.y)≠0 from e)];rfl;rw[if_neg e,if_neg (show ¬lvE ((G08.wth p c f).y o.y)≠0 from e)];exact x0c h _ _;rw[if_neg k2,if_neg k2];by_cases k3:o.k=3;rw[if_pos k3,if_pos k3];exact x2w h;rw[if_neg k3,if_neg k3];have I:=x9u h o.y (z9b p o) (z2r o.b o.p p.rk);by_cases k4:o.k=4;rw[if_pos k4,if_pos k4];unfold y2r;by_cases e:z6a p o≠0;rw[if_pos e,if_pos (show z6a (G08.wth p c f) o≠0 from e)];rfl;rw[if_neg e,if_neg (show ¬z6a (G08.wth p c f) o≠0 from e)];show u1o (match z8z p o.y (z9b p o) (z2r o.b o.p p.rk) with|.error e=>.error e|.ok q=>y3x q o (q.B.at o.b o.p) []) (match z8z (G08.wth p c f) o.y (z9b p o) (z2r o.b o.p p.rk) with|.error e=>.error e|.ok q=>y3x q o (q.B.at o.b o.p) []);revert I;cases z8z p o.y (z9b p o) (z2r o.b o.p p.rk) with
 | error e=>cases z8z (G08.wth p c f) o.y (z9b p o) (z2r o.b o.p p.rk) with
  | error e'=>exact λh=>h
  | ok m'=>exact λh=>h.elim
 | ok m=>cases z8z (G08.wth p c f) o.y (z9b p o) (z2r o.b o.p p.rk) with
  | error e'=>exact λh=>h.elim
  | ok m'=>exact λh=>by dsimp only;rw[<-h.B];exact v0f h _ _ _
 rw[if_neg k4,if_neg k4];by_cases k5:o.k=5;rw[if_pos k5,if_pos k5];unfold y1l;by_cases e:z6a p o≠0;rw[if_pos e,if_pos (show z6a (G08.wth p c f) o≠0 from e)];rfl;rw[if_neg e,if_neg (show ¬z6a (G08.wth p c f) o≠0 from e)];show u1o (match z8z p o.y (z9b p o) (z2r o.b o.p p.rk) with|.error e=>.error e|.ok q=>if 4<=(q.B.at o.b o.p).length then .error 9 else y3x q o [] (q.B.at o.b o.p)) (match z8z (G08.wth p c f) o.y (z9b p o) (z2r o.b o.p p.rk) with|.error e=>.error e|.ok q=>if 4<=(q.B.at o.b o.p).length then .error 9 else y3x q o [] (q.B.at o.b o.p));revert I;cases z8z p o.y (z9b p o) (z2r o.b o.p p.rk) with
 | error e=>cases z8z (G08.wth p c f) o.y (z9b p o) (z2r o.b o.p p.rk) with
  | error e'=>exact λh=>h
  | ok m'=>exact λh=>h.elim
 | ok m=>cases z8z (G08.wth p c f) o.y (z9b p o) (z2r o.b o.p p.rk) with
  | error e'=>exact λh=>h.elim
  | ok m'=>exact λh=>k0f h o
 rw[if_neg k5,if_neg k5];by_cases k6:o.k=6;rw[if_pos k6,if_pos k6];unfold z7x;by_cases e:z6a p o≠0;rw[if_pos e,if_pos (show z6a (G08.wth p c f) o≠0 from e)];rfl;rw[if_neg e,if_neg (show ¬z6a (G08.wth p c f) o≠0 from e)];exact x9u h _ _ _;rw[if_neg k6,if_neg k6];by_cases k7:o.k=7;rw[if_pos k7,if_pos k7];unfold z7b;by_cases e1:p.B.at o.b o.p=[];rw[if_pos e1,if_pos e1];rfl;rw[if_neg e1,if_neg e1];by_cases e2:z3z (1-o.b) (z3i o.b o.p p.rk)≠0;rw[if_pos e2,if_pos e2];rfl;rw[if_neg e2,if_neg e2];by_cases e3:∃y∈p.ys,y.inn=true/\y.pl=y7g p o;rw[if_pos e3,if_pos (show ∃y∈(G08.wth p c f).ys,y.inn=true/\y.pl=y7g (G08.wth p c f) o from e3)];rfl;rw[if_neg e3,if_neg (show ¬ ∃y∈(G08.wth p c f).ys,y.inn=true/\y.pl=y7g (G08.wth p c f) o from e3)];by_cases e4:4<(p.B.at o.b o.p).length+(p.B.at (1-o.b) (z3i o.b o.p p.rk)).length;rw[if_pos e4,if_pos e4];rfl;rw[if_neg e4,if_neg e4];exact⟨rfl,rfl,rfl,rfl,h.cr,h.fa,h.nd⟩;rw[if_neg k7,if_neg k7];unfold y4i;by_cases e1:p.B.at o.b o.p=[];rw[if_pos e1,if_pos e1];rfl;rw[if_neg e1,if_neg e1];exact⟨rfl,rfl,rfl,rfl,h.cr,h.fa.append_right _,h.nd⟩
theorem u9a {p q:MSt}(h:Eqv p q)(o:MOp):u1o (doM p o) (doM q o):=by
 unfold doM;by_cases e:y3r o≠0;rw[if_pos e,if_pos e];rfl;rw[if_neg e,if_neg e];exact j1y h o
theorem v5e {p q r:MSt}{o:MOp}(h:Eqv p q)(e:doM p o=.ok r):∃r',doM q o=.ok r'/\Eqv r r':=by
 have:=u9a h o;rw[e]at this;cases k:doM q o with
 | error e'=>rw[k]at this;exact this.elim
 | ok r'=>rw[k]at this;exact⟨r',rfl,this⟩
end Go.G08
namespace Go.Proofs.YtpgdchkdlgkmgaaGreatDoor
open Go.Lw Go.G21 Go.G08 _root_.Go.Proofs.Tryz
theorem x0m {D I:StQ}{p q:MSt}{n m:Nat}(w0:World)(h1:StAt w0 D)(Z:StAt w0 I)(M:StP D p n)(O:StP I q m)(e:Eqv p q)(hn:n<=10000:=by omega)(hm:m<=10000:=by omega):Rets prog 20 #[.agg #[.int .i64 D.rk,.slice D.q.f.1 D.q.f.2.1 D.q.f.2.2,.slice D.q.b.1 D.q.b.2.1 D.q.b.2.2,.slice D.yv.1 D.yv.2.1 D.yv.2.2,.slice D.fb.t.1 D.fb.t.2.1 D.fb.t.2.2,.slice D.fb.c.1 D.fb.c.2.1 D.fb.c.2.2,.slice D.fb.h.1 D.fb.h.2.1 D.fb.h.2.2,.slice D.fb.f.1 D.fb.f.2.1 D.fb.f.2.2],.agg #[.int .i64 I.rk,.slice I.q.f.1 I.q.f.2.1 I.q.f.2.2,.slice I.q.b.1 I.q.b.2.1 I.q.b.2.2,.slice I.yv.1 I.yv.2.1 I.yv.2.2,.slice I.fb.t.1 I.fb.t.2.1 I.fb.t.2.2,.slice I.fb.c.1 I.fb.c.2.1 I.fb.c.2.2,.slice I.fb.h.1 I.fb.h.2.1 I.fb.h.2.2,.slice I.fb.f.1 I.fb.f.2.1 I.fb.f.2.2]] w0 λr w'=>r=.bool true/\Fr [] w0 w':=by
 have J:D.p=I.p:=by rw[M.e,O.e,e.stM]
 exact u2s D I w0 h1 Z (v3c M hn) (v3c O hm) (congrArg St.rk J) (congrArg (λx=>trimB x.B.f) J) (congrArg (λx=>trimB x.B.b) J) (congrArg St.ys J) (congrArg St.fb J)
theorem j5s:CallOf prog 11:=mkC func11
end Go.Proofs.YtpgdchkdlgkmgaaGreatDoor
namespace Go.G08
open Go.Lw Go.G21
def v1z (p:Pa):Pa:=⟨p.id,p.f,1-p.d⟩
theorem u4f {p:Pa}(h:z4e p.d):v8r p (v1z p):=by
 unfold z4e at h;exact⟨⟨h,by unfold z4e v1z;simp only;omega,by unfold v1z;simp only;omega⟩,rfl,rfl⟩
theorem u9x {p q:Pa}(h:v8r p q):p=v1z q:=by
 obtain⟨⟨D,M,O⟩,I,J⟩:=h;obtain⟨i,f,d⟩:=p;unfold z4e at D M;simp only at D O I J;unfold v1z;rw[I,J,show d=1-q.d by omega]
theorem v0u {st:List Pa}{p:Pa}(h:y3d st)(hp:z4e p.d):z7a (z7a st p) (v1z p)=st:=by
 by_cases c:0<st.length/\v8r (st.getD (st.length-1) pa0) p;rw[show z7a st p=st.take (st.length-1) from if_pos c];obtain⟨O,J⟩:=c;have D:=u9x J;have hl:(st.take (st.length-1)).length=st.length-1:=by rw[List.length_take];omega
 unfold z7a;rw[hl,if_neg,<-D,List.getD,List.getElem?_eq_getElem (by omega),Option.getD_some,List.take_append_getElem];rw[show st.length-1+1=st.length by omega,List.take_length];rintro⟨M,I⟩;rw[List.getD,List.getElem?_take,if_pos (by omega),<-List.getD,<-D]at I;exact(h (st.length-1) (by omega)).2 M I;rw[show z7a st p=st++[p] from if_neg c];unfold z7a;have e:(st++[p]).getD ((st++[p]).length-1) pa0=p:=by simp
 rw[if_pos ⟨by simp,by rw[e];exact u4f hp⟩];simp
theorem y1v (st l m:List Pa):z2k st (l++m)=z2k (z2k st l) m:=by unfold z2k;rw[List.foldl_append]
def y1z (l:List Pa):List Pa:=(l.map v1z).reverse
theorem y2q:∀ {l st:List Pa},y3d st->v2b l->z2k (z2k st l) (y1z l)=st
 | [],st,_,_=>rfl
 | p::l,st,h,hv=>by
  have I:=x1z h (hv p (List.mem_cons_self ..))
  have D:=y2q (l:=l) I λq J=>hv q (List.mem_cons_of_mem _ J)
  unfold y1z at D ⊢
  rw[List.map_cons,List.reverse_cons,y1v,show z2k st (p::l)=z2k (z7a st p) l from U,D]
  exact v0u h (hv p (List.mem_cons_self ..)).2
theorem x7v {l:List Pa}(h:v2b l):v2b (y1z l):=λp J=>by
 obtain⟨q,M,rfl⟩:=List.mem_map.1 (List.mem_reverse.1 J)
 obtain⟨D,I⟩:=h q M
 unfold z4e at I
 exact⟨D,by unfold z4e v1z;simp only;omega⟩
theorem u9j {y:Yn}{D:Int}{l:List Pa}(h1:y1q y)(I:x1v D)(J:v2b l)(M:y.inn=true)(O:(z2k y.pe l).length<=4096):goE y D l=0:=by
 unfold goE;rw[if_neg (by rw[j8k h1];simp),if_neg (not_not_intro I),if_neg (not_not_intro J),if_neg (by rw[M];simp),if_neg (by omega)]
theorem v6v {y:Yn}{D:Int}{l:List Pa}(h:goE y D l=0):y1q y/\x1v D/\v2b l/\y.inn=true/\(z2k y.pe l).length<=4096:=by
 unfold goE at h;split at h;contradiction;rename_i I;split at h;cases h;rename_i J;split at h;cases h;rename_i M;split at h;cases h;rename_i O;split at h;cases h;rename_i Z;refine⟨Classical.byContradiction λe=>I (by rw[u9f e];decide),Classical.not_not.1 J,Classical.not_not.1 M,by simpa using O,by omega⟩
theorem j2v {y:Yn}(h:y1q y)(D:y.inn=true):y3d y.pe/\y.pe.length<=4096/\x1v y.pl:=by
 have:=h.2;rw[if_pos D]at this;exact⟨this.2.2,this.2.1,this.1⟩
theorem u8h {y:Yn}{D:Int}{l:List Pa}(h:goE y D l=0):goE (goS y D l) y.pl (y1z l)=0/\goS (goS y D l) y.pl (y1z l)=y:=by
 obtain⟨M,h2,I,J,h5⟩:=v6v h;obtain⟨O,Z,k3⟩:=j2v M J;have e:z2k (goS y D l).pe (y1z l)=y.pe:=y2q O I;refine⟨u9j (v8f h) k3 (x7v I) J (by rw[e];exact Z),?_⟩;unfold goS at e ⊢;simp only at e ⊢;rw[e]
theorem y3a {d:Int}(h:d=0\/d=1):stI (1-d) = - stI d/\(stI d=1\/stI d = -1):=by
 rcases h with rfl|rfl<;>exact⟨rfl,by decide⟩
theorem x6u {r:Int}{k:Nat}(I:k<40)(D:-4<=r/\r<=4):z2r 1 ((k:Int)+1) r=4*((k:Int)+1+r):=by
 unfold z2r;rw[if_neg (λe=>by rcases e with e|e;exact e (x6s ⟨.inr U,by omega,by omega⟩);exact e D),if_neg (by decide)]
theorem u1x {B:Bd}{r d x:Int}{k:Nat}(I:k<40)(M:d=0\/d=1)(O:-4<=r/\r<=4)(D:-4<=r+stI d/\r+stI d<=4):y2y B (r+stI d) (1-d) x k=(y2y B r d x k).map v1z:=by
 obtain⟨J,Z⟩:=y3a M;unfold y2y;rw[x6u I O,x6u I D,J];by_cases e:x≠4*((k:Int)+1+r)+stI d/\x≠4*((k:Int)+1+r)+3*stI d;rw[if_pos e,if_pos (by omega)];rfl;rw[if_neg e,if_neg (by omega),List.map_map];rfl
theorem x8y {B:Bd}{r d x:Int}(I:d=0\/d=1)(J:-4<=r/\r<=4)(D:-4<=r+stI d/\r+stI d<=4):∀ {i:Nat},i<=40->z7u B (r+stI d) (1-d) x i=(z7u B r d x i).map v1z
 | 0,_=>rfl
 | i+1,hi=>by
  have M:=x8y (B:=B) (x:=x) I J D (i:=i) (by omega)
  unfold z7u at M ⊢
  rw[List.range_succ,List.flatMap_append,List.flatMap_append,List.map_append,M]
  simp only[List.flatMap_cons,List.flatMap_nil,List.append_nil]
  rw[u1x (by omega) I J D]
theorem u4m {B:Bd}{r d x:Int}(J:BdOk B)(I:d=0\/d=1)(M:-4<=r/\r<=4)(D:-4<=r+stI d/\r+stI d<=4):z4j B (r+stI d) (1-d) x=y1z (z4j B r d x):=by
 have h:=x8y (B:=B) (x:=x) I M D J.lb;unfold z4j y1z;rw[h];rcases I with rfl|rfl
 rw[if_pos (by decide),if_neg (by decide)];rw[if_neg (by decide),if_pos U,List.map_reverse,List.reverse_reverse]
theorem x9m {p q:MSt}{d:Int}(Z:BdOk p.B)(hd:d=0\/d=1)(hr:-4<=p.rk/\p.rk<=4)(I:-4<=p.rk+stI d/\p.rk+stI d<=4)(M:q.B=p.B)(O:q.rk=p.rk+stI d):∀ {l l':List Yn},z3s p d l=.ok l'->z3s q (1-d) l'=.ok l
 | [],l',h=>by cases h;rfl
 | y::l,l',h=>by
  unfold z3s at h
  split at h
  ·cases h
  rename_i y' D
  split at h
  ·cases h
  rename_i l1 hl
  cases h
  have ih:=x9m Z hd hr I M O hl
  have J:z6t q (1-d) y'=.ok y:=by
   unfold z6t at D ⊢
   rw[M,O]
   by_cases hi:y.inn=false
   ·rw[if_pos hi]at D;cases D;exact if_pos hi
   rw[if_neg hi]at D
   split at D
   ·cases D
   rename_i hg
   cases D
   obtain⟨g1,g2⟩:=u8h (Classical.not_not.1 hg)
   rw[if_neg (show ¬(goS y y.pl (z4j p.B p.rk d y.pl)).inn=false from hi),u4m Z hd hr I]
   show (if goE (goS y y.pl (z4j p.B p.rk d y.pl)) y.pl (y1z (z4j p.B p.rk d y.pl))≠0 then _ else Except.ok (goS (goS y y.pl (z4j p.B p.rk d y.pl)) y.pl (y1z (z4j p.B p.rk d y.pl))))=_
   rw[if_neg (not_not_intro g1),g2]
  unfold z3s
  rw[J,ih]
def u4r (c:Cx):Cx:=⟨c.b,c.a,-c.n⟩
theorem j1z {B:Bd}{r d:Int}(D:d=0\/d=1)(k:Nat):v3h B (r+stI d) (1-d) k=(v3h B r d k).map u4r:=by
 unfold v3h;rw[List.map_flatMap,show y0l (r+stI d) (1-d) k=y0l r d k by rcases D with rfl|rfl<;>(simp[y0l,stI];try omega)];congr 1;funext x;rw[List.map_map];congr 1;funext o;rcases D with rfl|rfl<;>rfl
theorem u1h {B:Bd}{r d:Int}(D:d=0\/d=1):z3m B (r+stI d) (1-d)=((z3m B r d).map u4r).reverse:=by
 have h:∀i,x4x B (r+stI d) (1-d) i=(x4x B r d i).map u4r:=λi=>by
  unfold x4x;rw[List.map_flatMap];congr 1;funext k;exact j1z D k
 unfold z3m;rw[h];rcases D with rfl|rfl
 rw[if_pos (by decide),if_neg (by decide)];rw[if_neg (by decide),if_pos U,List.map_reverse,List.reverse_reverse]
theorem z5p {a b:LId}{c:Cx}{l:List Cx}:z5o (c::l) a b=if isC a b c=true then c.n else z5o l a b:=by
 unfold z5o;rw[List.find?_cons];split<;>rename_i h<;>rw[h]<;>rfl
theorem u5g {a b a' b':LId}{n:Int}(h:¬(a'=a/\b'=b)):isC a b ⟨a',b',n⟩=false:=by unfold isC;simpa using h
theorem x9e {a b a' b':LId}{n:Int}:∀l:List Cx,z5o (l++[⟨a',b',n⟩]) a b=if l.any (isC a b)=true then z5o l a b else if a'=a/\b'=b then n else 0
 | []=>by
  rw[List.nil_append,z5p]
  by_cases h:a'=a/\b'=b
  ·rw[if_pos (by unfold isC;simpa using h),if_neg (by simp),if_pos h]
  rw[if_neg (by rw[u5g h];simp),if_neg (by simp),if_neg h];rfl
 | c::l=>by
  rw[List.cons_append,z5p,z5p,List.any_cons,x9e l]
  cases isC a b c<;>simp
theorem x1y {a b:LId}:∀ {l:List Cx},¬l.any (isC a b)=true->z5o l a b=0
 | [],_=>rfl
 | c::l,h=>by
  rw[List.any_cons,Bool.or_eq_true,not_or]at h
  rw[z5p,if_neg h.1,x1y h.2]
theorem x8j {a b a' b':LId}{n:Int}:∀l:List Cx,z5o (l.map λc=>if isC a' b' c then ⟨a',b',n⟩ else c) a b=if a'=a/\b'=b then (if l.any (isC a b)=true then n else 0) else z5o l a b
 | []=>by simp[z5o]
 | c::l=>by
  have J:=x8j (a:=a) (b:=b) (a':=a') (b':=b') (n:=n) l
  rw[List.map_cons,z5p,J,z5p]
  by_cases e:a'=a/\b'=b
  ·obtain⟨rfl,rfl⟩:=e
   have D:a'=a'/\b'=b':=⟨rfl,rfl⟩
   by_cases h:isC a' b' c=true
   ·rw[if_pos h,if_pos (by simp[isC]),if_pos D,if_pos (by rw[List.any_cons,h];rfl)]
   rw[if_neg h,if_neg h,if_pos D,if_pos D]
   by_cases k:l.any (isC a' b')=true
   ·rw[if_pos k,if_pos (by rw[List.any_cons,k,Bool.or_true])]
   rw[if_neg k,if_neg (by rw[List.any_cons,Bool.or_eq_true];rintro(x|x);exact h x;exact k x)]
  rw[if_neg e,if_neg e]
  cases h:isC a' b' c
  ·simp
  rw[if_pos U,u5g e]
  have:isC a b c=false:=by
   rw[<-Bool.not_eq_true,z9t];rw[z9t]at h
   intro I;rw[h]at I;exact e (by simpa using I)
  rw[this,if_neg (by simp),if_neg (by simp)]
theorem x7s {l:List Cx}{a b a' b':LId}{n:Int}:z5o (y4h l a' b' n) a b=if a'=a/\b'=b then n else z5o l a b:=by
 unfold y4h;by_cases h:l.any (isC a' b')=true;rw[if_pos h,x8j];by_cases e:a'=a/\b'=b;rw[if_pos e,if_pos e,if_pos (by rw[<-e.1,<-e.2];exact h)];rw[if_neg e,if_neg e];rw[if_neg h,x9e];by_cases e:a'=a/\b'=b;rw[if_pos e,if_neg (by rw[<-e.1,<-e.2];exact h),if_pos e];rw[if_neg e];split;rfl;rename_i D;rw[x1y D]
theorem x1o {a b a' b':LId}:∀l:List Cx,z5o (x6i l a' b') a b=if a'=a/\b'=b then 0 else z5o l a b
 | []=>by simp[z5o,x6i]
 | c::l=>by
  have D:=x1o (a:=a) (b:=b) (a':=a') (b':=b') l
  unfold x6i at D ⊢
  rw[List.filter_cons,z5p]
  cases h:isC a' b' c
  ·simp only[Bool.not_false,if_true]
   rw[z5p,D]
   by_cases e:a'=a/\b'=b
   ·rw[if_pos e,if_pos e,if_neg (by rw[<-e.1,<-e.2,h];simp)]
   rw[if_neg e,if_neg e]
  simp only[Bool.not_true,Bool.false_eq_true,if_false]
  rw[D]
  by_cases e:a'=a/\b'=b
  ·rw[if_pos e,if_pos e]
  rw[if_neg e,if_neg e,if_neg]
  rw[z9t]at h ⊢
  intro I;rw[h]at I;exact e (by simpa using I)
theorem x1d {l l':List Cx}{c:Cx}(h:y4g l c=.ok l')(a b:LId):z5o l' a b=if z4g c=(a,b) then z5o l a b+c.n else z5o l a b:=by
 rw[y2o]at h;generalize z4g c=k at h ⊢;obtain⟨x,y⟩:=k;simp only at h;by_cases h1:z5o l x y+c.n < -1048576\/1048576<z5o l x y+c.n;rw[if_pos h1]at h;cases h;rw[if_neg h1]at h;by_cases e:x=a/\y=b;obtain⟨rfl,rfl⟩:=e;rw[if_pos U];by_cases h2:z5o l x y+c.n=0;rw[if_pos h2]at h;cases h;rw[x1o,if_pos ⟨rfl,rfl⟩];omega;rw[if_neg h2]at h;cases h;rw[x7s,if_pos ⟨rfl,rfl⟩];rw[if_neg (by simpa using e)];by_cases h2:z5o l x y+c.n=0;rw[if_pos h2]at h;cases h;rw[x1o,if_neg e];rw[if_neg h2]at h;cases h;rw[x7s,if_neg e]
theorem u9k {l:List Cx}{c:Cx}(h:-1048576<=z5o l (z4g c).1 (z4g c).2+c.n/\z5o l (z4g c).1 (z4g c).2+c.n<=1048576):∃l',y4g l c=.ok l':=by
 rw[y2o,if_neg (by omega)];split<;>exact⟨_,rfl⟩
theorem v5a {a b:LId}(h:a≠b):(0<z6k a b↔¬0<z6k b a):=by
 constructor;intro D I;have:=x4b D;omega;intro D;have I:=x7z (Ne.symm h) D;unfold z6k at I ⊢;(repeat' split at I)<;>(repeat' split)<;>omega
theorem u2h {c:Cx}(h:c.a≠c.b):z4g (u4r c)=z4g c:=by
 unfold z4g u4r;have:=v5a h;by_cases e:0<z6k c.a c.b;rw[if_pos e,if_neg (this.1 e)];rw[if_neg e,if_pos (Classical.byContradiction λk=>e (this.2 k))]
theorem y7o {l r:List Cx}{c:Cx}:z3l l (c::r)=match y4g l c with|.error e=>.error e|.ok l'=>z3l l' r:=rfl
theorem x4f:∀ {x y l:List Cx},z3l l (x++y)=match z3l l x with|.error e=>.error e|.ok l'=>z3l l' y
 | [],y,l=>rfl
 | c::x,y,l=>by
  rw[List.cons_append,y7o,y7o]
  cases y4g l c with
  | error e=>rfl
  | ok l'=>exact x4f
theorem v8u:∀ {L l l':List Cx},j3t l->z3l l L=.ok l'->(∀c∈L,c.a≠c.b)->∃D,z3l l' (L.map u4r).reverse=.ok D/\∀a b,z5o D a b=z5o l a b
 | [],l,l',_,h,_=>by cases h;exact⟨_,rfl,λ_ _=>rfl⟩
 | c::L,l,l',hv,h,hne=>by
  unfold z3l at h
  split at h
  ·cases h
  rename_i l1 I
  obtain⟨D,h2,J⟩:=v8u (v2k hv I) h λx hx=>hne x (List.mem_cons_of_mem _ hx)
  have Z:=u2h (hne c (List.mem_cons_self ..))
  have O:=x1d I (z4g c).1 (z4g c).2
  rw[if_pos U]at O
  have hr:=x7q (a:=(z4g c).1) (b:=(z4g c).2) hv
  obtain⟨l3,M⟩:=u9k (l:=D) (c:=u4r c) (by rw[Z,J,O];show _<=_ + -c.n/\_ + -c.n<=_;omega)
  refine⟨l3,?_,λa b=>?_⟩
  ·rw[List.map_cons,List.reverse_cons,x4f,h2]
   show z3l D [u4r c]=_
   unfold z3l
   rw[M];rfl
  rw[x1d M,Z,J,x1d I]
  split
  ·show _+c.n + -c.n=_;omega
  rfl
theorem x7w {l:List Cx}{c:Cx}(hn:(l.map λc=>(c.a,c.b)).Nodup)(J:∀x∈l,x.n≠0):c∈l↔c.n≠0/\z5o l c.a c.b=c.n:=by
 constructor;intro h;refine⟨J c h,?_⟩;unfold z5o;rw[y4j hn h U];rfl;rintro⟨M,D⟩;unfold z5o at D;cases e:l.find? (isC c.a c.b) with
 | none=>rw[e]at D;exact absurd D.symm M
 | some x=>
  rw[e]at D;have I:=z9t.1 (List.find?_some e);have O:=List.mem_of_find?_eq_some e;obtain⟨xa,xb,Z⟩:=x;obtain⟨ca,cb,cn⟩:=c;simp only[Prod.mk.injEq]at I;obtain⟨rfl,rfl⟩:=I;obtain rfl:Z=cn:=D;exact O
theorem y3y {l:List Cx}(h:(l.map λc=>(c.a,c.b)).Nodup):l.Nodup:=List.Pairwise.of_map _ (λ_ _ h e=>h (by rw[e])) h
theorem v8p {T T':Tb}{l l':List Cx}(h:CrsOk T l)(D:CrsOk T' l')(e:∀a b,z5o l' a b=z5o l a b):l'.Perm l:=by
 refine(List.perm_ext_iff_of_nodup (y3y D.nd) (y3y h.nd)).2 λc=>?_;rw[x7w h.nd λx I=>(h.has x I).2.2.2.2,x7w D.nd λx I=>(D.has x I).2.2.2.2,e]
theorem j2f {p q:MSt}{d:Int}(h:MVal p)(M:d=0\/d=1)(I:-4<=p.rk+stI d/\p.rk+stI d<=4)(e:z3q p d=.ok q):∃p',z3q q (1-d)=.ok p'/\Eqv p p':=by
 have hq:=y1m h I e;have hr:=h.inv.rk;have hs:=y3a M;have O:(p.rk+stI d)+stI (1-d)=p.rk:=by omega
 have e0:=e;unfold z3q at e;split at e;cases e;rename_i ys Z;split at e;cases e;rename_i D J;cases e;have h1:=x9m (q:={ p with ys:=ys,cr:=D,rk:=p.rk+stI d }) h.inv.B M hr I U U Z;obtain⟨l2,h2,h3⟩:=v8u h.inv.cv J λc hc=>(x3l h.inv.B.nd hc).2.2.1;rw[<-u1h M]at h2;have h4:z3q { p with ys:=ys,cr:=D,rk:=p.rk+stI d } (1-d)=.ok { p with cr:=l2,rk:=p.rk+stI d+stI (1-d) }:=by
  unfold z3q;rw[h1];show (match z3l D (z3m p.B (p.rk+stI d) (1-d)) with|.error e=>(.error e:MR)|.ok D=>.ok { p with cr:=D,rk:=p.rk+stI d+stI (1-d) })=_;rw[h2]
 have h5:=(y1m hq (show -4<=p.rk+stI d+stI (1-d)/\p.rk+stI d+stI (1-d)<=4 by omega) h4).cr;exact⟨_,h4,O.symm,rfl,rfl,rfl,(v8p h.cr h5 h3).symm,.refl _,h.cr.nd⟩
def itS:Nat->MSt->Int->MR
  | 0,p,_=>.ok p
  | n+1,p,d=>match z3q p d with
    | .error e=>.error e
    | .ok q=>itS n q d
theorem x6d {p q:MSt}{d:Int}(e:z3q p d=.ok q):q.rk=p.rk+stI d:=by
 unfold z3q at e;split at e;cases e;split at e;cases e;cases e;rfl
theorem x7a {r d:Int}(D:d=0\/d=1):∀ {k n:Nat} {p:MSt},k<=n->r=p.rk+k*stI d->z4m n p r=itS k p d
 | 0,0,p,_,_=>rfl
 | 0,n+1,p,_,h=>by unfold z4m;rw[if_pos (by simpa using h.symm)];rfl
 | k+1,n+1,p,hk,h=>by
  have J:=(y3a D).2
  have Z:((k+1:Nat):Int)*stI d=k*stI d+stI d:=by rw[Int.natCast_add,Int.add_mul];simp
  rw[Z]at h
  have O:(k:Int)*stI d=k\/(k:Int)*stI d = -k:=by rcases J with e|e<;>rw[e]<;>simp
  have M:(k:Int)*stI d=k↔(stI d=1\/k=0):=by rcases J with e|e<;>rw[e]<;>simp<;>omega
  unfold z4m itS
  rw[if_neg (by rcases J with e|e<;>rw[e]at h<;>simp at h<;>omega)]
  have I:(if r<p.rk then 0 else 1:Int)=d:=by
   rcases D with rfl|rfl
   ·have:stI 0 = -1:=rfl
    rw[this]at h;rw[if_pos (by simp at h;omega)]
   have:stI 1=1:=rfl
   rw[this]at h;rw[if_neg (by simp at h;omega)]
  rw[I]
  cases e:z3q p d with
  | error x=>rfl
  | ok q=>exact x7a D (by omega) (by rw[x6d e];omega)
theorem v3a {d:Int}:∀ {k:Nat} {p:MSt},itS (k+1) p d=match itS k p d with|.error e=>.error e|.ok q=>z3q q d
 | 0,p=>by
  show (match z3q p d with|.error e=>(.error e:MR)|.ok q=>itS 0 q d)=z3q p d
  cases z3q p d<;>rfl
 | k+1,p=>by
  show (match z3q p d with|.error e=>(.error e:MR)|.ok q=>itS (k+1) q d)=match (match z3q p d with|.error e=>(.error e:MR)|.ok q=>itS k q d) with|.error e=>(.error e:MR)|.ok q=>z3q q d
  cases z3q p d with
  | error e=>rfl
  | ok q=>exact v3a
theorem j3n {d:Int}(J:d=0\/d=1):∀ {k:Nat} {p q:MSt},MVal p->(-4<=p.rk+k*stI d/\p.rk+k*stI d<=4)->itS k p d=.ok q->∃Z,itS k q (1-d)=.ok Z/\Eqv p Z
 | 0,p,q,h,_,e=>by cases e;exact⟨_,rfl,Eqv.refl h.cr.nd⟩
 | k+1,p,q,h,hr,e=>by
  have hm:((k+1:Nat):Int)*stI d=k*stI d+stI d:=by rw[Int.natCast_add,Int.add_mul];simp
  rw[hm]at hr
  have hs:=(y3a J).2
  have h0:=h.inv.rk
  have D:-4<=p.rk+stI d/\p.rk+stI d<=4:=by
   rcases hs with e|e<;>rw[e]at hr ⊢<;>simp at hr<;>omega
  unfold itS at e
  split at e
  ·cases e
  rename_i p1 I
  obtain⟨M,h2,h3⟩:=j3n J (y1m h D I) (by rw[x6d I];omega) e
  obtain⟨p2,h4,h5⟩:=j2f h J D I
  have O:=x2l h3 (1-d)
  rw[h4]at O
  rw[v3a,h2]
  dsimp only
  revert O
  cases z3q M (1-d) with
  | error x=>exact λh=>h.elim
  | ok p3=>exact λh=>⟨_,rfl,h5.trans h⟩
theorem u9i {p q:MSt}{r:Int}(h:MVal p)(hr:-4<=r/\r<=4)(e:z4m 8 p r=.ok q):∃I,z4m 8 q p.rk=.ok I/\Eqv p I:=by
 have h0:=h.inv.rk;have J:∀d:Int,(d=0\/d=1)->∀k:Nat,k<=8->r=p.rk+k*stI d->∃I,z4m 8 q p.rk=.ok I/\Eqv p I:=λd Z k hk D=>by
  rw[x7a Z hk D]at e;obtain⟨I,O,h2⟩:=j3n Z h (by rw[<-D];exact hr) e;have hq:q.rk=r:=by
   have M:∀ {k:Nat} {p q:MSt},itS k p d=.ok q->q.rk=p.rk+k*stI d:=by
    intro k;induction k with
    | zero=>intro p q e;cases e;simp
    | succ k ih=>
     intro p q e;unfold itS at e;split at e;cases e;rename_i p1 O;rw[ih e,x6d O,Int.natCast_add,Int.add_mul];simp;omega
   rw[M e,<-D]
  refine⟨I,?_,h2⟩;rw[<-O];refine x7a (d:=1-d) (by omega) hk ?_;rw[hq,(y3a Z).1,D,Int.mul_neg];omega
 by_cases c:p.rk<=r;exact J 1 (.inr U) (r-p.rk).toNat (by omega) (by rw[show stI 1=1 from U];omega);exact J 0 (.inl U) (p.rk-r).toNat (by omega) (by rw[show stI 0 = -1 from U];omega)
theorem v4j {B:Bd}{r:Int}{h:Hd}(M:h∈z2f B r):h.s % 2=0:=by
 have D:=(z8h B r).mem_iff.1 M;have I:∀ {b:Int} {l:Bed} {i:Nat},h∈hds b r l i->h.s % 2=0:=λJ=>by
  unfold hds at J;obtain⟨k,_,O⟩:=List.mem_flatMap.1 J;obtain⟨x,_,rfl⟩:=List.mem_map.1 O;show z2r _ _ _ % 2=0;unfold z2r;(repeat' split)<;>omega
 rcases List.mem_append.1 D with D|D<;>exact I D
def fwP (H:List Hd)(a b:Int):List Pa:=(H.filter λh=>decide (a<h.s/\h.s<b)).map λh=>⟨h.id,decide (h.b=1),1⟩
theorem v8d {H:List Hd}{a b:Int}(h:a<=b):btw H a b=fwP H a b:=by
 unfold btw fwP;by_cases e:a<b;rw[if_pos e];rw[if_neg e];have D:∀x:Hd,¬(b<x.s/\x.s<a):=λx=>by omega
 have I:∀x:Hd,¬(a<x.s/\x.s<b):=λx=>by omega
 rw[List.filter_eq_nil_iff.2 λx _=>by simpa using D x,List.filter_eq_nil_iff.2 λx _=>by simpa using I x];rfl
theorem v9o {H:List Hd}{a b:Int}(h:b<=a):btw H a b=y1z (fwP H b a):=by
 unfold btw fwP y1z;rw[if_neg (by omega),List.map_map];rfl
theorem y6i {a m b:Int}(M:a<=m)(hb:m<=b):∀ {H:List Hd},x1j H->(∀h∈H,h.s≠m)->fwP H a b=fwP H a m++fwP H m b
 | [],_,_=>rfl
 | h::H,hs,hm=>by
  have D:=y6i M hb (List.pairwise_cons.1 hs).2 λx I=>hm x (List.mem_cons_of_mem _ I)
  have O:=hm h (List.mem_cons_self ..)
  have J:=(List.pairwise_cons.1 hs).1
  unfold fwP at D ⊢
  rw[List.filter_cons,List.filter_cons,List.filter_cons]
  by_cases c:h.s<m
  ·rw[if_neg (show ¬decide (m<h.s/\h.s<b)=true by simp;omega)]
   by_cases c2:a<h.s
   ·rw[if_pos (by simp;omega),if_pos (by simp;omega),List.map_cons,List.map_cons,List.cons_append,D]
   rw[if_neg (by simp;omega),if_neg (by simp;omega),D]
  have e:H.filter (λh=>decide (a<h.s/\h.s<m))=[]:=List.filter_eq_nil_iff.2 λx I=>by
   have:=J x I;simp;omega
  rw[if_neg (show ¬decide (a<h.s/\h.s<m)=true by simp;omega),e]
  rw[e,List.map_nil,List.nil_append]at D
  by_cases c2:h.s<b
  ·rw[if_pos (by simp;omega),if_pos (by simp;omega),List.map_cons,List.map_cons,D];rfl
  rw[if_neg (by simp;omega),if_neg (by simp;omega),D];rfl
theorem j0y {l:List Pa}:y1z (y1z l)=l:=by
 unfold y1z;rw[List.map_reverse,List.reverse_reverse,List.map_map];have:v1z ∘ v1z=id:=by
  funext p;obtain⟨i,f,d⟩:=p;show (⟨i,f,1-(1-d)⟩:Pa)=_;rw[show 1-(1-d)=d by omega];rfl
 rw[this,List.map_id]
theorem u8v {l m:List Pa}:y1z (l++m)=y1z m++y1z l:=by unfold y1z;rw[List.map_append,List.reverse_append]
theorem go_3 {y:Yn}{z w:Int}{D T2:List Pa}(h:goE y z (D++T2)=0)(hw:x1v w)(hl:(z2k y.pe D).length<=4096) :
    goE (goS y z (D++T2)) w (y1z T2)=0/\goS (goS y z (D++T2)) w (y1z T2)=⟨y.inn,w,y.ct,y.nw,z2k y.pe D⟩/\goE ⟨y.inn,w,y.ct,y.nw,z2k y.pe D⟩ z T2=0/\goS ⟨y.inn,w,y.ct,y.nw,z2k y.pe D⟩ z T2=goS y z (D++T2):=by
  obtain⟨Z,h2,O,I,h5⟩:=v6v h
  obtain⟨k1,k2,k3⟩:=j2v Z I
  have v1:v2b D:=λp J=>O p (List.mem_append_left _ J)
  have v2:v2b T2:=λp J=>O p (List.mem_append_right _ J)
  have e:z2k (goS y z (D++T2)).pe (y1z T2)=z2k y.pe D:=by
    show z2k (z2k y.pe (D++T2)) (y1z T2)=_
    rw[y1v];exact y2q (y6m k1 v1) v2
  have M:goE (goS y z (D++T2)) w (y1z T2)=0:=u9j (v8f h) hw (x7v v2) I (by rw[e];exact hl)
  have g2:goS (goS y z (D++T2)) w (y1z T2)=⟨y.inn,w,y.ct,y.nw,z2k y.pe D⟩:=by
    unfold goS at e ⊢
    simp only at e ⊢
    rw[e]
  refine⟨M,g2,u9j (g2▸v8f M) h2 v2 I (by rw[<-y1v];exact h5),?_⟩
  unfold goS
  simp only
  rw[<-y1v]
theorem u5c {p:MSt}{y:Int}{q:Yn}(h:(y-1).toNat<p.ys.length):(p.setY y q).y y=q:=by
 unfold MSt.setY MSt.y;simp only;rw[List.getD,List.getElem?_set_self (by exact h)];rfl
theorem u6e {p:MSt}{y:Int}{q r:Yn}:(p.setY y q).setY y r=p.setY y r:=by unfold MSt.setY;simp only[List.set_set]
theorem j0j {p:MSt}{y:Int}(h:(y-1).toNat<p.ys.length):p.setY y (p.y y)=p:=by
 unfold MSt.setY MSt.y;rw[List.getD,List.getElem?_eq_getElem h];show ({ p with ys:=p.ys.set (y-1).toNat (p.ys[(y-1).toNat]) }:MSt)=p;rw[List.set_getElem_self]
theorem v5b {p q:MSt}{y D en:Int}(e:z8z p y D en=.ok q):goE (p.y y) D (y3l p y en)=0/\q=p.setY y (goS (p.y y) D (y3l p y en)):=by
 unfold z8z at e;split at e;cases e;rename_i h;cases e;exact⟨Classical.not_not.1 h,rfl⟩
theorem v8a {p:MSt}{y D en:Int}(h:goE (p.y y) D (y3l p y en)=0):z8z p y D en=.ok (p.setY y (goS (p.y y) D (y3l p y en))):=by
 unfold z8z;rw[if_neg (not_not_intro h)]
theorem j1t {p a:MSt}{o o':MOp}(h:MInv p)(hy:1<=o.y/\o.y<=6)(hn:z3z o.b o.p=0)(hd:z4e o.d)(eb:o'.b=o.b)(ep:o'.p=o.p)(ey:o'.y=o.y)(ed:o'.d=1-o.d)
    (hl:(p.y o.y).pe.length+p.B.flat.length<=4096) (e:z7x p o=.ok a):∃b,z7x a o'=.ok b/\z7x b o=.ok a/\((b.y o.y).pl=(p.y o.y).pl->b=p):=by
  have hj:(o.y-1).toNat<p.ys.length:=by rw[h.ly];omega
  unfold z7x at e
  split at e
  · cases e
  · rename_i hb
    obtain⟨hg,rfl⟩:=v5b e
    obtain⟨h1,h2,h3,h4,h5⟩:=v6v hg
    have D:=Classical.not_not.1 hb
    have hr:=h.rk
    obtain⟨n1,n2⟩:=z2y hn
    have a4:z2r o.b o.p p.rk=if o.b=0 then 4*o.p+2 else 4*(o.p+p.rk):=by
      unfold z2r;rw[if_neg (λe=>by rcases e with e|e;exact e hn;exact e hr)]
    generalize hs:z2r o.b o.p p.rk=sp at a4
    have b4:sp % 2=0/\-12<=sp/\sp<=176:=by rw[a4];split<;>omega
    obtain⟨k1,k2,k3⟩:=j2v h1 h4
    have hx:Int.tmod (p.y o.y).pl 2≠0:=k3.1
    generalize hxx:(p.y o.y).pl=x at hx
    have b5:x % 2≠0:=λe=>hx (Int.tmod_eq_zero_of_dvd (Int.dvd_of_emod_eq_zero e))
    have pl:∀w,w=sp+1\/w=sp-1->x1v w:=λw hw=>⟨λe=>by have:=Int.dvd_of_tmod_eq_zero e;omega,by omega⟩
    have hH:x1j (z2f p.B p.rk):=z7j (v7o p.B p.rk)
    have he:∀m:Int,m % 2≠0->∀h∈z2f p.B p.rk,h.s≠m:=λm hm h hh e=>hm (e▸v4j hh)
    have a3:∀T,T=btw (z2f p.B p.rk) x (2*sp-z9b p o)->(z2k (p.y o.y).pe T).length<=4096:=λT hT=>by
      have a1:=z6s T (p.y o.y).pe
      have a2:T.length<=p.B.flat.length:=by
        have b1:(z2f p.B p.rk).length=p.B.flat.length:=by rw[(z8h _ _).length_eq,y0e]
        rw[hT,<-b1];unfold btw;split
        · rw[List.length_map];exact List.length_filter_le _ _
        · rw[List.length_reverse,List.length_map];exact List.length_filter_le _ _
      omega
    have a6:∀z w,z9b p o=z->(∀r:MSt,r.rk=p.rk->z9b r o'=w)->w=2*sp-z->x1v w->(∃T1 T2,btw (z2f p.B p.rk) x z=T1++T2/\T1=btw (z2f p.B p.rk) x w/\btw (z2f p.B p.rk) z w=y1z T2/\btw (z2f p.B p.rk) w z=T2)->
        (∀r:MSt,r.rk=p.rk->(r.y o.y).inn=true->(r.y o.y).pl=z->z6a r o'=0)->(∀r:MSt,r.rk=p.rk->(r.y o.y).inn=true->(r.y o.y).pl=w->z6a r o=0)->(∀r:MSt,r.rk=p.rk->z9b r o=z)->
        ∃b,z7x (p.setY o.y (goS (p.y o.y) (z9b p o) (y3l p o.y (z9b p o)))) o'=.ok b/\z7x b o=.ok (p.setY o.y (goS (p.y o.y) (z9b p o) (y3l p o.y (z9b p o))))/\((b.y o.y).pl=x->b=p):=λz w ez ew b0 hw hT a7 a8 a9=>by
      obtain⟨T1,T2,t1,t2,t3,t4⟩:=hT
      have hc:y3l p o.y (z9b p o)=T1++T2:=by unfold y3l;rw[ez,hxx,t1]
      rw[hc,ez]at hg ⊢
      obtain⟨g1,g2,g3,g4⟩:=go_3 hg hw (a3 T1 (by rw[t2,b0,ez]))
      obtain⟨ya,a5⟩:∃ya,ya=goS (p.y o.y) z (T1++T2):=⟨_,rfl⟩
      obtain⟨Z,a0⟩:∃Z:Yn,Z=⟨(p.y o.y).inn,w,(p.y o.y).ct,(p.y o.y).nw,z2k (p.y o.y).pe T1⟩:=⟨_,rfl⟩
      rw[<-a5]at g1 g2 g4 ⊢
      rw[<-a0]at g2 g3 g4
      have ia:ya.inn=true/\ya.pl=z:=by rw[a5];exact⟨h4,rfl⟩
      have ib:Z.inn=true/\Z.pl=w:=by rw[a0];exact⟨h4,rfl⟩
      have ja:(p.setY o.y ya).y o.y=ya:=u5c hj
      have b3:(o.y-1).toNat<(p.setY o.y ya).ys.length:=by show _<(p.ys.set _ _).length;rw[List.length_set];exact hj
      have jb:(p.setY o.y Z).y o.y=Z:=u5c hj
      refine⟨p.setY o.y Z,?_,?_,λhp=>?_⟩
      · unfold z7x
        rw[a7 (p.setY o.y ya) U (by rw[ja];exact ia.1) (by rw[ja];exact ia.2),if_neg (by decide),ew (p.setY o.y ya) U,ey]
        have I:y3l (p.setY o.y ya) o.y w=y1z T2:=by unfold y3l;rw[ja,ia.2];exact t3
        rw[v8a (by rw[ja,I];exact g1),I,ja,g2,u6e]
      · unfold z7x
        rw[a8 (p.setY o.y Z) U (by rw[jb];exact ib.1) (by rw[jb];exact ib.2),if_neg (by decide),a9 (p.setY o.y Z) U]
        have I:y3l (p.setY o.y Z) o.y z=T2:=by unfold y3l;rw[jb,ib.2];exact t4
        rw[v8a (by rw[jb,I];exact g3),I,jb,g4,u6e]
      · rw[jb,ib.2]at hp
        have:T1=[]:=by rw[t2,hp,v8d (Int.le_refl _)];unfold fwP;rw[List.filter_eq_nil_iff.2 λh _=>by simp;omega];rfl
        have e2:Z=p.y o.y:=by
          rw[a0,this,hp];show (⟨_,x,_,_,(p.y o.y).pe⟩:Yn)=_
          rw[<-hxx]
        rw[e2,j0j hj]
    have bp:∀r:MSt,∀q:MOp,q.b=o.b->q.p=o.p->r.rk=p.rk->z9b r q=if q.d=1 then sp+1 else sp-1:=λr q J M O=>by unfold z9b;rw[J,M,O,hs]
    have be:∀r:MSt,∀q:MOp,q.b=o.b->q.p=o.p->q.y=o.y->r.rk=p.rk->(r.y o.y).inn=true->z6a r q=if q.d=1 then (if sp<(r.y o.y).pl then 12 else 0) else if (r.y o.y).pl<sp then 12 else 0:=λr q J M O q4 q5=>by unfold z6a;rw[O,J,M,q4,hs,if_neg (by rw[q5];decide)]
    rw[be p o U U U U h4,hxx]at D
    unfold z4e at hd
    rcases hd with hd|hd
    · rw[if_neg (by omega)]at D
      have b2:sp<x:=by split at D<;>omega
      refine a6 (sp-1) (sp+1) (by rw[bp p o U U U,if_neg (by omega)]) (λr hr=>by rw[bp r o' eb ep hr,if_pos (by omega)]) (by omega) (pl _ (.inl U)) ⟨btw (z2f p.B p.rk) x (sp+1),y1z (fwP (z2f p.B p.rk) (sp-1) (sp+1)),?_,rfl,?_,?_⟩ (λr J M O=>by rw[be r o' eb ep ey J M,O,if_pos (by omega),if_neg (by omega)]) (λr J M O=>by rw[be r o U U U J M,O,if_neg (by omega),if_neg (by omega)]) (λr hr=>by rw[bp r o U U hr,if_neg (by omega)])
      · rw[v9o (by omega),v9o (by omega),y6i (m:=sp+1) (by omega) (by omega) hH (he _ (by omega)),u8v]
      · rw[j0y,v8d (by omega)]
      · rw[v9o (by omega)]
    · rw[if_pos hd]at D
      have b2:x<sp:=by split at D<;>omega
      refine a6 (sp+1) (sp-1) (by rw[bp p o U U U,if_pos hd]) (λr hr=>by rw[bp r o' eb ep hr,if_neg (by omega)]) (by omega) (pl _ (.inr U)) ⟨btw (z2f p.B p.rk) x (sp-1),fwP (z2f p.B p.rk) (sp-1) (sp+1),?_,rfl,?_,?_⟩ (λr J M O=>by rw[be r o' eb ep ey J M,O,if_neg (by omega),if_neg (by omega)]) (λr J M O=>by rw[be r o U U U J M,O,if_pos hd,if_neg (by omega)]) (λr hr=>by rw[bp r o U U hr,if_pos hd])
      · rw[v8d (by omega),v8d (by omega),y6i (m:=sp-1) (by omega) (by omega) hH (he _ (by omega))]
      · rw[v9o (by omega)]
      · rw[v8d (by omega)]
theorem x0w:∀ {l l':Bed},(∀i,l.getD i []=l'.getD i [])->trimB l=trimB l'
 | [],l',h=>(y4u l' λs J=>by
  obtain⟨i,D,rfl⟩:=List.getElem_of_mem J
  have:=h i
  rw[List.getD,List.getD,List.getElem?_eq_getElem D]at this
  exact this.symm).symm
 | s::l,[],h=>y4u _ λt M=>by
  obtain⟨i,D,rfl⟩:=List.getElem_of_mem M
  have:=h i
  rw[List.getD,List.getElem?_eq_getElem D]at this
  exact this
 | s::l,s'::l',h=>by
  have I:=h 0
  simp only[List.getD_cons_zero]at I
  have O:=x0w (l:=l) (l':=l') λi=>by have:=h (i+1);simpa only[List.getD_cons_succ] using this
  unfold trimB
  rw[O,I]
theorem j6i {B C:Bd}(hB:TrB B)(hC:TrB C)(lB:BdOk B)(lC:BdOk C)(h:∀b n,z3z b n=0->B.at b n=C.at b n):B=C:=by
 have I:∀(l l':Bed),l.length<=40->l'.length<=40->(∀i:Nat,i<40->atB l ((i:Int)+1)=atB l' ((i:Int)+1))->∀i,l.getD i []=l'.getD i []:=λl l' h1 h2 h3 i=>by
  by_cases D:i<40;have:=h3 i D;unfold atB at this;rw[show ((i:Int)+1-1).toNat=i by omega]at this;exact this;rw[List.getD,List.getD,List.getElem?_eq_none (by omega),List.getElem?_eq_none (by omega)]
 have e:∀b:Int,(b=0\/b=1)->∀i:Nat,i<40->B.at b ((i:Int)+1)=C.at b ((i:Int)+1):=λb hb i D=>h _ _ (x6s ⟨hb,by omega,by omega⟩);obtain⟨f,b⟩:=B;obtain⟨M,J⟩:=C;have O:=x0w (I f M lB.lf lC.lf λi D=>e 0 (.inl U) i D);have Z:=x0w (I b J lB.lb lC.lb λi D=>e 1 (.inr U) i D);have t1:trimB f=f:=hB.1;have t2:trimB b=b:=hB.2;have t3:trimB M=M:=hC.1;have t4:trimB J=J:=hC.2;rw[t1,t3]at O;rw[t2,t4]at Z;rw[O,Z]
theorem j2m {p a:MSt}{o o':MOp}(h:MInv p)(hT:TrB p.B)(hn:z3z o.b o.p=0)(M:o'.b=1-o.b)(ep:o'.p=z3i o.b o.p p.rk)(O:p.B.at o'.b o'.p=[])(e:z7b p o=.ok a):z7b a o'=.ok p:=by
 have hi:=x0v h hn e;unfold z7b at e;rw[<-M,<-ep]at e;split at e;cases e;rename_i k1;split at e;cases e;rename_i J;split at e;cases e;rename_i k3;split at e;cases e;rename_i k4;have J:=Classical.not_not.1 J;obtain⟨n1,n2⟩:=z2y hn;have hS:z7c p o=p.B.at o.b o.p:=by
  unfold z7c;rw[ep]at O;rcases n1 with n1|n1
  rw[n1]at M O ⊢;rw[if_neg (by decide),show p.B.at 1 (z3i 0 o.p p.rk)=[] by rw[<-O,M];rfl];rfl;rw[n1]at M O ⊢;rw[if_pos U,show p.B.at 0 (z3i 1 o.p p.rk)=[] by rw[<-O,M];rfl,List.append_nil]
 rw[hS]at e;cases e;have a0:¬(o'.b=o.b/\o'.p=o.p):=λx=>by omega
 have D:z3i o'.b o'.p p.rk=o.p:=by
  rw[ep];unfold z3i;rw[M];rcases n1 with n1|n1
  rw[n1];simp;rw[n1];simp
 have Z:1-o'.b=o.b:=by omega
 have a1:((p.B.put o.b o.p []).put o'.b o'.p (p.B.at o.b o.p)).at o'.b o'.p=p.B.at o.b o.p:=by rw[z7p _ J J,if_pos ⟨rfl,rfl⟩]
 have a2:((p.B.put o.b o.p []).put o'.b o'.p (p.B.at o.b o.p)).at o.b o.p=[]:=by
  rw[z7p _ J hn,if_neg (λx=>a0 ⟨x.1.symm,x.2.symm⟩),z7p _ hn hn,if_pos ⟨rfl,rfl⟩]
 have a4:z7c { p with B:=(p.B.put o.b o.p []).put o'.b o'.p (p.B.at o.b o.p) } o'=p.B.at o.b o.p:=by
  unfold z7c;rcases n1 with n1|n1
  rw[if_pos (by omega)];rw[show (1:Int)=o'.b by omega];show (Bd.at _ o'.b o'.p)++(Bd.at _ 0 (z3i o'.b o'.p p.rk))=_;rw[D,a1,<-n1,a2,List.append_nil];rw[if_neg (by omega)];rw[show (0:Int)=o'.b by omega];show (Bd.at _ 1 (z3i o'.b o'.p p.rk))++(Bd.at _ o'.b o'.p)=_;rw[D,a1,<-n1,a2];rfl
 have a3:y7g { p with B:=(p.B.put o.b o.p []).put o'.b o'.p (p.B.at o.b o.p) } o'=y7g p o:=by
  unfold y7g;show min (z2r o'.b o'.p p.rk) (z2r (1-o'.b) (z3i o'.b o'.p p.rk) p.rk)+1=_;rw[D,Z,M,ep,Int.min_comm]
 have ex:z7b { p with B:=(p.B.put o.b o.p []).put o'.b o'.p (p.B.at o.b o.p) } o'=.ok { p with B:=(((p.B.put o.b o.p []).put o'.b o'.p (p.B.at o.b o.p)).put o'.b o'.p []).put o.b o.p (p.B.at o.b o.p) }:=by
  unfold z7b;rw[a4,a3];show (if Bd.at _ o'.b o'.p=[] then _ else if z3z (1-o'.b) (z3i o'.b o'.p p.rk)≠0 then _ else if _ then _ else if 4<(Bd.at _ o'.b o'.p).length+(Bd.at _ (1-o'.b) (z3i o'.b o'.p p.rk)).length then _ else _)=_;rw[D,Z,a1,a2,if_neg k1,if_neg (by rw[hn];simp),if_neg k3,if_neg (by rw[O]at k4;simpa using k4)]
 rw[ex];have hB:(((p.B.put o.b o.p []).put o'.b o'.p (p.B.at o.b o.p)).put o'.b o'.p []).put o.b o.p (p.B.at o.b o.p)=p.B:=by
  refine j6i (y9r ..) hT (x0v hi J ex).B h.B λb n I=>?_;rw[z7p _ hn I,z7p _ J I,z7p _ J I,z7p _ hn I];by_cases c1:b=o.b/\n=o.p;rw[if_pos c1,c1.1,c1.2];rw[if_neg c1,if_neg c1];by_cases c2:b=o'.b/\n=o'.p;rw[if_pos c2,c2.1,c2.2,O];rw[if_neg c2,if_neg c2]
 rw[hB]
structure PBd (p:MSt) (n:Nat):Prop where
  f:p.B.flat.length<=n
  e:∀k,(p.ys.getD k yn0).pe.length<=64*n
theorem u6t {B:Bd}{r d x:Int}(Z:BdOk B)(hd:d=0\/d=1)(hr:-4<=r/\r<=4):(z4j B r d x).length<=4:=by
 have D:=(y3a hd).2;have h4:∀k,(B.b.getD k []).length<=4:=λk=>by
  by_cases hk:k<B.b.length;rw[List.getD,List.getElem?_eq_getElem hk];exact Z.ss _ (List.mem_append_right _ (List.getElem_mem hk));rw[List.getD,List.getElem?_eq_none (by omega)];simp
 have J:∀i,i<=40->(z7u B r d x i).length<=4/\(0<(z7u B r d x i).length->∃k:Nat,k<i/\(x=4*((k:Int)+1+r)+stI d\/x=4*((k:Int)+1+r)+3*stI d)):=by
  intro i;induction i with
  | zero=>intro _;exact⟨Nat.zero_le _,λh=>absurd h (by simp[z7u])⟩
  | succ i ih=>
   intro hi;obtain⟨h1,M⟩:=ih (by omega);have e:z7u B r d x (i+1)=z7u B r d x i++y2y B r d x i:=by
    unfold z7u;rw[List.range_succ,List.flatMap_append];simp
   rw[e,List.length_append];unfold y2y;rw[x6u (by omega) hr];by_cases c:x≠4*((i:Int)+1+r)+stI d/\x≠4*((i:Int)+1+r)+3*stI d;rw[if_pos c];refine⟨by simpa using h1,λh=>?_⟩;obtain⟨k,k1,I⟩:=M (by simpa using h);exact⟨k,by omega,I⟩;rw[if_neg c,List.length_map];have h3:(z7u B r d x i).length=0:=Classical.byContradiction λh=>by
    obtain⟨k,k1,I⟩:=M (by omega);rcases D with D|D<;>rw[D]at I c<;>omega
   exact⟨by have:=h4 i;omega,λ_=>⟨i,by omega,by omega⟩⟩
 have O:=(J B.b.length Z.lb).1;unfold z4j;split;rw[List.length_reverse];exact O;exact O
theorem u4l {B:Bd}{r a b:Int}:(btw (z2f B r) a b).length<=B.flat.length:=by
 have D:(z2f B r).length=B.flat.length:=by rw[(z8h _ _).length_eq,y0e]
 rw[<-D];unfold btw;split;rw[List.length_map];exact List.length_filter_le _ _;rw[List.length_reverse,List.length_map];exact List.length_filter_le _ _
theorem v3m {p:MSt}{d:Int}(I:BdOk p.B)(J:d=0\/d=1)(M:-4<=p.rk/\p.rk<=4):∀ {l l':List Yn},z3s p d l=.ok l'->∀k,(l'.getD k yn0).pe.length<=(l.getD k yn0).pe.length+4
 | [],l',h,k=>by cases h;simp
 | y::l,l',h,k=>by
  unfold z3s at h
  split at h
  ·cases h
  rename_i Z D
  split at h
  ·cases h
  rename_i O hl
  cases h
  cases k with
  | zero=>
   simp only[List.getD_cons_zero]
   unfold z6t at D
   split at D
   ·cases D;omega
   split at D
   ·cases D
   cases D
   have:=z6s (z4j p.B p.rk d y.pl) y.pe
   have:=u6t (x:=y.pl) I J M
   show (z2k _ _).length<=_
   omega
  | succ k=>simpa only[List.getD_cons_succ] using v3m I J M hl k
theorem u5r {r:Int}(I:-4<=r/\r<=4):∀ {n:Nat} {p q:MSt},MInv p->z4m n p r=.ok q->q.B=p.B/\∀k,(q.ys.getD k yn0).pe.length<=(p.ys.getD k yn0).pe.length+4*n
 | 0,p,q,_,e=>by cases e;exact⟨rfl,λ_=>by omega⟩
 | n+1,p,q,hi,e=>by
  unfold z4m at e
  by_cases e0:p.rk=r
  ·rw[if_pos e0]at e;cases e;exact⟨rfl,λ_=>by omega⟩
  rw[if_neg e0]at e
  have M:=hi.rk
  have hd:(if r<p.rk then 0 else 1:Int)=0\/(if r<p.rk then 0 else 1:Int)=1:=by split<;>simp
  have J:-4<=p.rk+stI (if r<p.rk then 0 else 1)/\p.rk+stI (if r<p.rk then 0 else 1)<=4:=by
   unfold stI;split
   ·rw[if_pos U];omega
   rw[if_neg (by decide)];omega
  split at e
  ·cases e
  rename_i p1 D
  obtain⟨Z,h4⟩:=u5r I (y4o hi J D).1 e
  refine⟨Z.trans (v7p D),λk=>Nat.le_trans (h4 k) ?_⟩
  unfold z3q at D
  split at D
  ·cases D
  rename_i ys O
  split at D
  ·cases D
  cases D
  have:=v3m hi.B hd M O k
  show (ys.getD k yn0).pe.length+_<=_
  omega
theorem x8k {ys:List Yn}{j:Nat}{q:Yn}{m:Nat}(h:∀k,(ys.getD k yn0).pe.length<=m)(D:q.pe.length<=m):∀k,((ys.set j q).getD k yn0).pe.length<=m:=λk=>by
 rw[List.getD,List.getElem?_set]
 split
 ·split
  ·exact D
  exact Nat.zero_le _
 exact h k
theorem j8o {p q:MSt}{o:MOp}{n:Nat}(h:PBd p n)(hi:MInv p)(hn:n<=64)(e:doM p o=.ok q):PBd q (n+1):=by
 have he:∀k,(p.ys.getD k yn0).pe.length<=64*(n+1):=λk=>by have:=h.e k;omega
 have hf:=h.f;have D:∀ {pl en:Int} {r:MSt},z8z p o.y pl en=.ok r->r.B=p.B/\∀k,(r.ys.getD k yn0).pe.length<=64*(n+1):=λe=>by
  obtain⟨_,rfl⟩:=v5b e;refine⟨rfl,x8k he ?_⟩;have a1:=z6s (y3l p o.y ‹_›) (p.y o.y).pe;have a2:(y3l p o.y ‹_›).length<=p.B.flat.length:=u4l;have a3:=h.e (o.y-1).toNat;show (z2k _ _).length<=_;unfold MSt.y at a1 ⊢;omega
 have O:∀ {r:MSt} {th st:List LId},z3z o.b o.p=0->r.B=p.B->(∀k,(r.ys.getD k yn0).pe.length<=64*(n+1))->(st=[]\/st=p.B.at o.b o.p)->y3x r o th st=.ok q->PBd q (n+1):=λI hB hr a4 e=>by
  unfold y3x at e;split at e;cases e;split at e;cases e;cases e;refine⟨?_,x8k hr (Nat.zero_le _)⟩;have:=z7i p.B I (‹List LId›++[⟨o.y,(‹MSt›.y o.y).ct⟩]);show ((Bd.put _ _ _ _).flat).length<=_;rw[hB];rw[List.length_append,List.length_singleton]at this;rcases a4 with rfl|rfl
  simp only[List.length_nil]at this;omega;omega
 unfold doM at e;by_cases hc:y3r o≠0;rw[if_pos hc]at e;cases e;rw[if_neg hc]at e;obtain⟨hk,_,_,_,J,hr⟩:=y0a (Classical.not_not.1 hc);unfold opM at e;split at e;unfold inM at e;split at e;cases e;cases e;exact⟨Nat.le_succ_of_le hf,x8k he (Nat.zero_le _)⟩;split at e;unfold v1h at e;split at e;cases e;cases e;exact⟨Nat.le_succ_of_le hf,x8k he (Nat.zero_le _)⟩;split at e;rename_i k3;obtain⟨M,Z⟩:=u5r (hr k3) hi e;exact⟨by rw[M];omega,λk=>by have:=Z k;have:=h.e k;omega⟩;split at e;rename_i k4;unfold y2r at e;split at e;cases e;split at e;cases e;rename_i r a0;obtain⟨M,Z⟩:=D a0;exact O (J (by omega)) M Z (.inl U) e;split at e;rename_i k5;unfold y1l at e;split at e;cases e;split at e;cases e;rename_i r a0;obtain⟨M,Z⟩:=D a0;split at e;cases e;exact O (J (by omega)) M Z (.inr (by rw[M])) e;split at e;unfold z7x at e;split at e;cases e;obtain⟨M,Z⟩:=D e;exact⟨by rw[M];omega,Z⟩;split at e;rename_i k7;have I:=J (by omega);unfold z7b at e;split at e;cases e;split at e;cases e;rename_i k2;split at e;cases e;split at e;cases e;cases e;refine⟨?_,he⟩;have k2:=Classical.not_not.1 k2;have a1:=z7i p.B I [];have a2:=z7i (p.B.put o.b o.p []) k2 (z7c p o);have a3:(z7c p o).length=(p.B.at o.b o.p).length+(p.B.at (1-o.b) (z3i o.b o.p p.rk)).length:=by
  obtain⟨n1,_⟩:=z2y I;unfold z7c;rcases n1 with n1|n1
  rw[n1,if_neg (by decide),List.length_append,Nat.add_comm];rfl;rw[n1,if_pos U,List.length_append];rfl
 rw[z7p _ I k2,if_neg (λx=>by omega)]at a2;simp only[List.length_nil]at a1;show ((p.B.put o.b o.p []).put (1-o.b) (z3i o.b o.p p.rk) (z7c p o)).flat.length<=n+1;omega;rename_i k8;unfold y4i at e;split at e;cases e;cases e;refine⟨?_,he⟩;have a1:=z7i p.B (J (by omega)) [];simp only[List.length_nil]at a1;show (p.B.put o.b o.p []).flat.length<=n+1;omega
theorem j7z {p:MSt}{n:Nat}(h:PBd p n):PBd (nrm p) n:=⟨h.f,h.e⟩
theorem j4l {l:List MOp}:∀ {i:Nat},i<=l.length->i<=60->PBd (sOf l i) i/\MVal (sOf l i)
 | 0,_,_=>⟨⟨by simp[sOf,start,Bd.flat],λk=>by
  have:start.ys.getD k yn0=yn0:=by simp only[start,List.getD,List.getElem?_replicate];split<;>rfl
  show (start.ys.getD k yn0).pe.length<=_
  rw[this];exact Nat.zero_le _⟩,z8a⟩
 | i+1,hi,h60=>by
  obtain⟨D,I⟩:=j4l (l:=l) (i:=i) (by omega) (by omega)
  rw[x9k (by omega)]
  unfold u5f
  cases e:doM (nrm (sOf l i)) (l.getD i op0) with
  | error x=>exact⟨⟨Nat.le_succ_of_le D.f,λk=>by have:=D.e k;show ((sOf l i).ys.getD k yn0).pe.length<=64*(i+1);omega⟩,I⟩
  | ok q=>exact⟨j8o (j7z D) (z7s I).inv (by omega) e,y8j (z7s I) e⟩
end Go.G08
namespace Go.Lw
theorem v6l {c:UInt8}:∀ {l:List UInt8},c∉l->Lib.index l [c] = -1
 | [],_=>by simp[Lib.index]
 | b::l,h=>by
  have D:¬c=b:=λe=>h (by rw[e];simp)
  have hl:c∉l:=λe=>h (by simp[e])
  rw[Lib.index,v6l hl]
  simp[List.isPrefixOf,D]
theorem u4s {c:UInt8}(y:List UInt8):∀ {x:List UInt8},c∉x->Lib.index (x++c::y) [c]=x.length
 | [],_=>by simp[Lib.index,List.isPrefixOf]
 | b::x,h=>by
  have D:¬c=b:=λe=>h (by rw[e];simp)
  have hl:c∉x:=λe=>h (by simp[e])
  rw[List.cons_append,Lib.index,u4s y hl]
  simp only[List.isPrefixOf,beq_eq_false_iff_ne.2 D,Bool.false_and,Bool.false_eq_true,if_false]
  rw[if_neg (by simp<;>omega)];simp
theorem cnt {c:UInt8}:∀(f:Nat) (s:List UInt8),s.length<f->Lib.countFrom [c] f s=s.count c
 | 0,s,h=>by omega
 | f+1,s,h=>by
  rw[Lib.countFrom]
  by_cases hm:c∈s
  ·obtain⟨x,y,rfl,D⟩:=List.eq_append_cons_of_mem hm
   rw[u4s y D,if_neg (by simp<;>omega)]
   have e:(x++c::y).drop ((x.length:Int).toNat + [c].length)=y:=by
    rw[Int.toNat_natCast,show x++c::y=(x++[c])++y by simp,show x.length + [c].length=(x++[c]).length by simp,List.drop_left]
   rw[e,cnt f y (by simp at h;omega)]
   simp[List.count_eq_zero.2 D];omega
  rw[v6l hm,if_pos (by decide),List.count_eq_zero.2 hm]
theorem y6r {o:MOp}(hp:z4z o)(D:-4<=o.r/\o.r<=4):y3r o=0:=by rw[j6l,if_pos hp,if_neg (by omega)]
theorem r00:(-4:Int)<=0/\(0:Int)<=4:=by decide
theorem x8i {x:MOp}(hx:x.Bytes):y3r (ofO x)=0:=by
 obtain⟨⟨_,_⟩,⟨_,_⟩,⟨_,_⟩,⟨_,_⟩,⟨_,_⟩,⟨_,_⟩⟩:=hx;unfold ofO ofK;generalize hk:1+x.k % 8=k;have J:x.d % 2=0\/x.d % 2=1:=by omega
 have I:x.b % 2=0\/x.b % 2=1:=by omega
 have M:1<=1+x.p % 40/\1+x.p % 40<=40:=by omega
 have D:1<=1+x.y % 6/\1+x.y % 6<=6:=by omega
 have Z:-4<=x.r % 9-4/\x.r % 9-4<=4:=by omega
 have O:1<=k/\k<=8:=by omega
 generalize x.d % 2=d at *
 generalize x.b % 2=b at *
 generalize 1+x.p % 40=p at *
 generalize 1+x.y % 6=y at *
 generalize x.r % 9-4=r at *
 split;rename_i h;exact y6r ((j5l (o:=⟨k,d,0,0,y,0⟩) h).2 ⟨⟨J,D⟩,⟨rfl,rfl⟩,rfl⟩) r00;split;rename_i h;exact y6r ((j6m (o:=⟨k,0,0,0,y,0⟩) h).2 ⟨⟨rfl,D⟩,⟨rfl,rfl⟩,rfl⟩) r00;split;rename_i h;exact y6r ((j7t (o:=⟨k,0,0,0,0,r⟩) h).2 ⟨⟨rfl,rfl⟩,⟨rfl,rfl⟩⟩) Z;split;rename_i h;exact y6r ((u9r (o:=⟨k,0,b,p,0,0⟩) h).2 ⟨⟨rfl,rfl⟩,⟨I,M⟩,rfl⟩) r00;exact y6r ((j2i (o:=⟨k,d,b,p,y,0⟩) (show 4<=k/\k<=6 by omega)).2 ⟨⟨J,D⟩,⟨I,M⟩,rfl⟩) r00
end Go.Lw
namespace Go.G08
open Go.Lw Go.G21
structure BkR (p:MSt) (wh:Int) (t b:MOp):Prop where
  k:t.k=b.k
  c:y3r b=0
  m:wh % 3=0->t.k=6/\b.b=t.b/\b.p=t.p/\b.y=t.y/\b.d=1-t.d
  r:wh % 3=1->t.k=3/\b.r=p.rk
  x:wh % 3=2->t.k=7/\b.b=1-t.b/\b.p=z3i t.b t.p p.rk/\p.B.at b.b b.p=[]
theorem y7v {p:MSt}{o:MOp}(h:y3r o=0):doM p o=opM p o:=by unfold doM;rw[if_neg (by rw[h];simp)]
theorem j6b {p a:MSt}{t b:MOp}{wh:Int}(hv:MVal p)(hT:TrB p.B)(hp:PBd p 60)(h:BkR p wh t b)(e:doM (nrm p) t=.ok a) :
    ∃q,doM (nrm a) b=.ok q/\(wh % 3≠0->Eqv q p)/\(wh % 3=0->(1<=t.y/\t.y<=6)/\((q.y t.y).pl=(p.y t.y).pl->Eqv q p)/\∃c d,doM (nrm q) t=.ok c/\doM (nrm c) b=.ok d/\Eqv c a/\Eqv d q):=by
  have I:=z7s hv
  have va:=y8j I e
  have hc:y3r t=0:=Classical.byContradiction λx=>by unfold doM at e;rw[if_pos x]at e;cases e
  obtain⟨_,_,f3,f4,f5,f6⟩:=y0a hc
  have Z:∀ {J:MSt},doM a b=.ok J->∃q,doM (nrm a) b=.ok q/\Eqv J q:=λh=>v5e (y2d va) h
  have O:=e
  rw[y7v hc]at O
  have hw:wh % 3=0\/wh % 3=1\/wh % 3=2:=by omega
  rcases hw with w|w|w
  · obtain⟨k,eb,ep,ey,ed⟩:=h.m w
    have hy:=f3 (by omega)
    have D:∀ {s:MSt} {o:MOp},o.k=6->opM s o=z7x s o:=λhk=>by
      unfold opM;rw[if_neg (by omega),if_neg (by omega),if_neg (by omega),if_neg (by omega),if_neg (by omega),if_pos hk]
    rw[D k]at O
    have hl:((nrm p).y t.y).pe.length+(nrm p).B.flat.length<=4096:=by
      have a1:=hp.e (t.y-1).toNat
      have a2:=hp.f
      show (p.ys.getD (t.y-1).toNat yn0).pe.length+p.B.flat.length<=4096
      omega
    obtain⟨J,g1,g2,g3⟩:=j1t I.inv hy (f5 (by omega)) (f4 (by omega)) eb ep ey ed hl O
    obtain⟨q,q1,M⟩:=@Z J (by rw[y7v h.c,D (h.k▸k)];exact g1)
    have vq:=y8j (z7s va) q1
    obtain⟨c,c1,c2⟩:=v5e (M.trans (y2d vq)) (show doM J t=.ok a by rw[y7v hc,D k];exact g2)
    have vc:=y8j (z7s vq) c1
    obtain⟨d,d1,d2⟩:=v5e (c2.trans (y2d vc)) (show doM a b=.ok J by rw[y7v h.c,D (h.k▸k)];exact g1)
    refine⟨q,q1,λx=>absurd w x,λ_=>⟨hy,λa5=>?_,c,d,c1,d1,c2.symm,d2.symm.trans M⟩⟩
    have:J=nrm p:=g3 (by
      have:J.y t.y=q.y t.y:=by unfold MSt.y;rw[M.ys]
      rw[this,a5];rfl)
    subst this
    exact M.symm.trans (y2d hv).symm
  · obtain⟨k,er⟩:=h.r w
    have a0:∀ {s:MSt} {o:MOp},o.k=3->opM s o=z4m 8 s o.r:=λhk=>by
      unfold opM;rw[if_neg (by omega),if_neg (by omega),if_pos hk];rfl
    rw[a0 k]at O
    obtain⟨p',g1,g2⟩:=u9i I (f6 k) O
    obtain⟨q,q1,M⟩:=@Z p' (by rw[y7v h.c,a0 (h.k▸k),er];exact g1)
    exact⟨q,q1,λ_=>(g2.trans M).symm.trans (y2d hv).symm,λx=>by omega⟩
  · obtain⟨k,eb,ep,a4⟩:=h.x w
    have a3:∀ {s:MSt} {o:MOp},o.k=7->opM s o=z7b s o:=λhk=>by
      unfold opM;rw[if_neg (by omega),if_neg (by omega),if_neg (by omega),if_neg (by omega),if_neg (by omega),if_neg (by omega),if_pos hk]
    rw[a3 k]at O
    have g1:=j2m (p:=nrm p) I.inv hT (f5 (by omega)) eb ep a4 O
    obtain⟨q,q1,M⟩:=@Z (nrm p) (by rw[y7v h.c,a3 (h.k▸k)];exact g1)
    exact⟨q,q1,λ_=>M.symm.trans (y2d hv).symm,λx=>by omega⟩
theorem v9l {p:MSt}{D:Int}{y:MOp}(I:y.Bytes)(J:D % 3=0):BkR p D ⟨6,y.d % 2,y.b % 2,1+y.p % 40,1+y.y % 6,0⟩ ⟨6,1-y.d % 2,y.b % 2,1+y.p % 40,1+y.y % 6,0⟩:=by
 unfold MOp.Bytes at I;refine⟨rfl,?_,λ_=>⟨rfl,rfl,rfl,rfl,rfl⟩,λh=>by omega,λh=>by omega⟩;have h:=x8i (x:=⟨5,1-y.d % 2,y.b,y.p,y.y,0⟩) (by unfold MOp.Bytes;dsimp only;omega);have e:ofO ⟨5,1-y.d % 2,y.b,y.p,y.y,0⟩=⟨6,1-y.d % 2,y.b % 2,1+y.p % 40,1+y.y % 6,0⟩:=by
  show (⟨6,(1-y.d % 2) % 2,_,_,_,_⟩:MOp)=_;rw[show (1-y.d % 2) % 2=1-y.d % 2 by omega]
 rw[e]at h;exact h
theorem u4c {p:MSt}{D r:Int}(I:-4<=p.rk/\p.rk<=4)(J:D % 3=1):BkR p D ⟨3,0,0,0,0,r⟩ ⟨3,0,0,0,0,p.rk⟩:=by
 refine⟨rfl,?_,λh=>by omega,λ_=>⟨rfl,rfl⟩,λh=>by omega⟩;have h:=x8i (x:=⟨2,0,0,0,0,p.rk+4⟩) (by unfold MOp.Bytes;dsimp only;omega);have e:ofO ⟨2,0,0,0,0,p.rk+4⟩=⟨3,0,0,0,0,p.rk⟩:=by
  show (⟨3,0,0,0,0,(p.rk+4) % 9-4⟩:MOp)=_;rw[show (p.rk+4) % 9-4=p.rk by omega]
 rw[e]at h;exact h
theorem u1f {p:MSt}{D:Int}{y:MOp}(M:y.Bytes)(J:D % 3=2)(hn:z3z (1-y.b % 2) (z3i (y.b % 2) (1+y.p % 40) p.rk)=0)(I:p.B.at (1-y.b % 2) (z3i (y.b % 2) (1+y.p % 40) p.rk)=[]) :
    BkR p D ⟨7,0,y.b % 2,1+y.p % 40,0,0⟩ ⟨7,0,1-y.b % 2,z3i (y.b % 2) (1+y.p % 40) p.rk,0,0⟩:=by
  refine⟨rfl,?_,λh=>by omega,λh=>by omega,λ_=>⟨rfl,rfl,rfl,I⟩⟩
  obtain⟨n1,n2⟩:=z2y hn
  generalize z3i (y.b % 2) (1+y.p % 40) p.rk=n at n2 ⊢
  have h:=x8i (x:=⟨6,0,1-y.b % 2,n-1,0,0⟩) (by unfold MOp.Bytes;dsimp only;omega)
  have e:ofO ⟨6,0,1-y.b % 2,n-1,0,0⟩=⟨7,0,1-y.b % 2,n,0,0⟩:=by
    show (⟨7,0,(1-y.b % 2) % 2,1+(n-1) % 40,0,0⟩:MOp)=_
    rw[show (1-y.b % 2) % 2=1-y.b % 2 by omega,show 1+(n-1) % 40=n by omega]
  rw[e]at h;exact h
end Go.G08
namespace Go.Proofs.YtpgdchkdlgkmgaaGreatDoor
open Go.Lw Go.G21 Go.G08 _root_.Go.Proofs.Tryz
theorem u8u (b p r:Int)(w0:World)(a1:(b=0\/b=1)/\1<=p/\p<=40)(hr:-4<=r/\r<=4):Rets prog 23 #[.agg #[.int .u8 b,.int .i64 p],.int .i64 r] w0 λv w'=>v=.tuple #[.agg #[.int .u8 (1-b),.int .i64 (z3i b p r)],.int .i64 (if z3z (1-b) (z3i b p r)≠0 then 1 else 0)]/\Fr [] w0 w':=by
 have M:z3z (1-b) (z3i b p r)=0↔(1<=z3i b p r/\z3i b p r<=40):=⟨λh=>(z2y h).2,λh=>x6s ⟨by omega,h⟩⟩;have a5:-3<=z3i b p r/\z3i b p r<=44:=by unfold z3i;split<;>omega
 refine we [(0,.agg #[.int .u8 b,.int .i64 p]),(1,.int .i64 r)] func23 U ntmps23 U (.c2 U U) (sr (bx U (λg2 w1 a2 J q1 z1=>(al v1n U (λg4 w2 a3 I q2 z2=>(asg U (nn (sr (fad U z6d ?_)))))))));replace J:=J.ext q2;refine z0g U J U x1e (z2o U (wi8 (by omega)) (fad U z4s (z0g U J U na3 (mv U (z2o U (wi6 (by omega)) (z1s (cs:=[_,_]) (ev2 U) y7w (z0h U (z0h U z0q)) U ?_))))));refine al v1n U (λg6 w3 a4 D O z3=>(z0i (vs:=[_,_]) U D y3v (λw4 D Z z4=>(kpL [(1,_),(2,_),(4,_),(6,_)] (.c4 U U U U) (nn ?_)))));refine jn (ι:=Unit) [(4,_),(6,_)] (λ_j=>[]) (λ_j w'=>Fr [g6] w4 w'/\Blk w' g6 24 [.int .u8 (1-b),.int .i64 (z3i b p r)]) (.c2 U U) ?_ ?_;refine sr (fad U z6d ?_);replace J:=(J.ext O).fr Z;refine z0g U J U x1e (eq' U (nn (cd U (λc0=>?_) (λc0=>?_))));refine rg (fad U z4s (z0g U J U na3 (mv U (z0v U (wi6 (by omega)) (fad U z4s (z3b U D U sz3 (λw5 D q5 z5=>?_)))))));replace D:Blk w5 g6 _ [_,_]:=D;refine kpL [(4,_),(6,_)] (.c2 U U) (nl ?_);exact jE (()) (.c2 U U) ⟨((Fr.refl [g6] _).z1 q5),(by rw[show z3i b p r=p+r from if_pos c0];exact D)⟩;refine sk ?_;exact jE (()) (.c2 U U) ⟨(Fr.refl _ _),(by rw[show z3i b p r=p-r from if_neg c0];exact D)⟩;rintro _j w6 ⟨q6,D⟩;have z6:=q6.size;have a0:=D.lt;refine kpC [(4,_),(6,_)] (.c2 U U) (sq (sq ?_));refine rbo (r:=30) (L':=[(4,_),(6,_)]) ((((z3i b p r)<1)\/(40<(z3i b p r)))) (.c2 U U) ?_ ?_;refine fad U z4s (z0g U D U na3 (lt' U (mv U (gs 26 U (λg0=>?_) (λg0=>?_)))));exact gN U (gN U (gN U (pkt U (rbe U (.c2 U U)))));exact gY U (fad U z4s (gY U (z0g U D U na3 (gY U (gt' U (pkf U (rbe U (.c2 U U))))))));refine tn (cd U (λc1=>?_) (λc1=>?_));refine sr (z0k U D z5b ?_);replace I:=((I.ext O).fr Z).fr q6;refine z0i (vs:=[_,_]) U I y3v (λw7 I q7 z7=>(asg U (nn (rt (tr (rCT results23 U I z5b U ?_))))));exact⟨_,rfl,by rw[if_pos (λe=>by have:=M.1 e;omega)],(q1.z5 q2 O Z q6 q7)⟩;refine sk (tn (sr (z0k U D z5b ?_)));replace I:=((I.ext O).fr Z).fr q6;refine z0i (vs:=[_,_]) U I y3v (λw8 I q8 z8=>(asg U (nn (rt (rCT results23 U I z5b U ?_)))));exact⟨_,rfl,by rw[if_neg (λe=>e (M.2 (by omega)))],(q1.z5 q2 O Z q6 q8)⟩
theorem pb60 {l:List MOp}:PBd (sOf l (min 60 l.length)) 60:=by
 have h:=(j4l (l:=l) (i:=min 60 l.length) (by omega) (by omega)).1;exact⟨Nat.le_trans h.f (by omega),λk=>Nat.le_trans (h.e k) (by omega)⟩
theorem j5j {s s':StQ}{p q:MSt}{n m:Nat}{y:Int}{j:Nat}(h:StP s p n)(I:StP s' q m)(J:y=(j:Int)+1)(D:j<6):(s.ys.getD j yq0).pl=(p.y y).pl/\(s'.ys.getD j yq0).pl=(q.y y).pl:=by
 subst J;unfold MSt.y;rw[show ((j:Int)+1-1).toNat=j by omega,<-h.yE D,<-I.yE D];exact⟨rfl,rfl⟩
set_option maxHeartbeats 8000000 in
theorem u0a (v1:Value)(xs:List MOp)(y:MOp)(wh:Int)(w0:World)(hG:Glob w0)(a2:StT w0)(e9:Sl u2o w0 v1 xs)(h8:∀x∈xs,x.Bytes)(e8:y.Bytes)(u0:0<=wh/\wh<=255):Rets prog 6 #[v1,oxV y,.int .u8 wh] w0 λr w'=>r=.bool true/\Fr [] w0 w':=by
 obtain⟨A1,c1,rfl,s6,l1,l0⟩:=id e9;clear l0;unfold maxLen at l1;obtain⟨p,hp⟩:∃p,p=sOf (xs.map ofO) (min 60 xs.length):=⟨_,rfl⟩;have m0:PBd p 60:=by rw[hp];have:=pb60 (l:=xs.map ofO);rwa [List.length_map]at this
 have m1:=id e8;unfold MOp.Bytes at m1;have s5:=hG.sz;refine we [(0,.slice A1 xs.length c1),(1,oxV y),(2,.int .u8 wh)] func6 U ntmps6 U (.c3 U U U) ?_;have e4:=hG;have a6:=a2;have i9:=e9;refine sr (bx U (λg4 w1 s8 b0 q1 z1=>(asg U (nn (sr (mv U ?_))))));replace e9:=i9.ext q1;replace a2:=a6.ext q1;refine cl (ev1 U) (mkC func18) (j7w _ xs _ e9 h8 a2) U ?_;rintro _ w2 ⟨⟨s7,rfl,a9,a8⟩,q2⟩;have z2:=q2.size;rw[<-hp]at a8;have g0:s7.rk=p.rk:=a8.rkE;have o7:=a8.v.inv.rk;have i7:s7.q.p=p.B:=a8.BE;have e2:=z3k (q:=s7.q) (i7▸a8.v.inv.B);have p0:s7.yv.2.1=6:=by rw[<-a8.ly];exact z1u a9.at.y
 refine al x2t U (λg7 w3 s9 O q3 z3=>?_);refine z0i (vs:=[_,_,_,_,_,_,_,_]) U O y1b (λw4 O q4 z4=>?_) (h1:=(by first|(simp[Value.oneCell',S];done)|exact z4n.one _));replace a9:=(a9.ext q3).fr q4 (by intro k hk _;rw[List.mem_singleton]at hk;subst hk;exact⟨_,_,by assumption,by decide⟩);have e1:=a9;refine nn (sr ?_);replace b0:=(b0.ext (q2.n1 q3)).fr q4;refine z0k U b0 ag76 (cl (ev1 U) (mkC func22) (u8n y _ e8) U ?_);rintro _ w5 ⟨rfl,q5⟩;have z5:=q5.size;refine al v1y U (λg8 w6 t8 e6 q6 z6=>?_);refine z0i (vs:=[_,_,_,_,_,_]) U e6 x4y (λw7 e6 q7 z7=>?_) (h1:=(by first|(simp[Value.oneCell',S];done)|exact z4n.one _));refine nn (sr (fad U u6j ?_));replace b0:=(b0.ext (q5.n1 q6)).fr q7;refine z0g U b0 U na5 (y1g U (by first|exact IntWalk.rem_in _ _ (by omega)|rfl) (fad U u6c (z0g U b0 U na5 (y1g U (by first|exact IntWalk.rem_in _ _ (by omega)|rfl) (z5a U (us underlying5) underlying3 (wi6 (by omega)) (z0v U (wi6 (by omega)) (z1s (cs:=[_,_]) (ev2 U) y7w (z0h U (z0h U z0q)) U ?_)))))));refine al v1n U (λg9 w8 t9 b2 q8 z8=>?_);refine z0i (vs:=[_,_]) U b2 y3v (λw9 b2 q9 z9=>?_) (h1:=(by first|(simp[Value.oneCell',S];done)|exact z4n.one _));refine kpL [(2,_),(4,_),(7,_),(8,_),(9,_)] (.c5 U U U U U) (nn (sr (al v1y U (λe3 u3 n8 D M B1=>(al v1y U (λe0 m5 n9 I J B2=>(nn ?_)))))));refine jn (ι:=MOp×MOp) [(2,_),(7,_),(8,_),(10,_),(11,_)] (λz_=>[]) (λz_ w'=>Fr [e3,e0] m5 w'/\Blk w' e3 28 (z4n.enc z_.1)/\Blk w' e0 28 (z4n.enc z_.2)/\BkR p wh z_.1 z_.2) (.c5 U U U U U) ?_ ?_;refine sr (mv U (y1g U (by first|exact IntWalk.rem_in _ _ (by omega)|rfl) (nn (bl (sr (eq' U (asg U (nn ?_))))))));refine cd U (λc0=>?_) (λc0=>?_);refine sr (fad U v6y ?_);replace b0:=((b0.ext q8).fr q9).ext (M.n1 J);refine z0g U b0 U na5 (y1g U (by first|exact IntWalk.rem_in _ _ (by omega)|rfl) ?_);replace b2:=b2.ext (M.n1 J);refine z0k U b2 z5b (fad U x9h (z0g U b0 U na5 (y1g U (by first|exact IntWalk.rem_in _ _ (by omega)|rfl) (z0v U (wi8 (by omega)) (z1s (cs:=[_,_,_,_,_,_]) (ev4 U) u5y (z0h U (z0h U (z0h U (z0h U z0q)))) U ?_)))));replace D:=D.ext J;refine z0i (vs:=[_,_,_,_,_,_]) U D x4y (λu4 D j2 B3=>?_) (h1:=(by first|(simp[Value.oneCell',S];done)|exact z4n.one _));refine kpL [(2,_),(7,_),(8,_),(10,_),(11,_)] (.c5 U U U U U) (nn (sr (z0k U D y2a ?_)));replace I:=I.fr j2;refine z0i (vs:=[_,_,_,_,_,_]) U I x4y (λu5 I j3 B4=>?_) (h1:=(by first|(simp[Value.oneCell',S];done)|exact z4n.one _));refine nn (rg (fad U z6e ?_));replace D:=D.fr j3;refine z0g U D U y7t (z2o U (wi8 (by omega)) (fad U z6e (z3b U I U j2z (λm6 I j4 B5=>?_))));replace I:Blk m6 e0 _ [_,_,_,_,_,_]:=I;refine nl (bn' ?_);replace D:=D.fr j4;exact jE ((⟨6,y.d % 2,y.b % 2,1+y.p % 40,1+y.y % 6,0⟩,⟨6,1-y.d % 2,y.b % 2,1+y.p % 40,1+y.y % 6,0⟩)) (.c5 U U U U U) ⟨((Fr.refl [e3,e0] _).z3 j2 j3 j4),⟨D,I,v9l e8 (by omega)⟩⟩;refine sr (eq' U (asg U (nn (cd U (λc1=>?_) (λc1=>?_)))));refine sr (fad U u5o ?_);replace b0:=((b0.ext q8).fr q9).ext (M.n1 J);refine z0g U b0 U na5 (y1g U (by first|exact IntWalk.rem_in _ _ (by omega)|rfl) (z5a U (us underlying5) underlying3 (wi6 (by omega)) (z2o U (wi6 (by omega)) (z1s (cs:=[_,_,_,_,_,_]) (ev2 U) u5y (z0h U (z0h U z0q)) U ?_))));replace D:=D.ext J;refine z0i (vs:=[_,_,_,_,_,_]) U D x4y (λu6 D g5 B6=>?_) (h1:=(by first|(simp[Value.oneCell',S];done)|exact z4n.one _));refine kpL [(2,_),(7,_),(8,_),(10,_),(11,_)] (.c5 U U U U U) (nn (rg (fad U y3u ?_)));replace O:=(((((O.ext (q5.n1 q6)).fr q7).ext q8).fr q9).ext (M.n1 J)).fr g5;refine z0g U O U na3 (z1s (cs:=[_,_,_,_,_,_]) (ev2 U) u5y (z0h U (z0h U z0q)) U ?_);replace I:=I.fr g5;refine z0i (vs:=[_,_,_,_,_,_]) U I x4y (λu7 I j5 B7=>?_) (h1:=(by first|(simp[Value.oneCell',S];done)|exact z4n.one _));refine nl (bn' ?_);replace D:=D.fr j5;exact jE ((⟨3,0,0,0,0,y.r % 9-4⟩,⟨3,0,0,0,0,s7.rk⟩)) (.c5 U U U U U) ⟨((Fr.refl [e3,e0] _).z2 g5 j5),⟨D,I,(by rw[g0];exact u4c a8.v.inv.rk (by omega))⟩⟩;refine sr ?_;replace b2:=b2.ext (M.n1 J);refine z0k U b2 z5b (z1s (cs:=[_,_,_,_,_,_]) (ev2 U) u5y (z0h U (z0h U z0q)) U ?_);replace D:=D.ext J;refine z0i (vs:=[_,_,_,_,_,_]) U D x4y (λu9 D d4 B8=>?_) (h1:=(by first|(simp[Value.oneCell',S];done)|exact z4n.one _));refine nn (sr ?_);replace b2:=b2.fr d4;refine z0k U b2 z5b (fad U y3u ?_);replace O:=(((((O.ext (q5.n1 q6)).fr q7).ext q8).fr q9).ext (M.n1 J)).fr d4;refine z0g U O U na3 (cl (ev2 U) (mkC func23) (u8u (y.b % 2) (1+y.p % 40) s7.rk _ (by omega) (by omega)) U ?_);rintro _ v8 ⟨rfl,d1⟩;have B9:=d1.size;have o6:-3<=(z3i (y.b % 2) (1+y.p % 40) s7.rk)/\(z3i (y.b % 2) (1+y.p % 40) s7.rk)<=44:=by unfold z3i;split<;>omega
 refine mv U (xt U (xt U (al v1n U (λp7 v9 o0 b9 d5 C0=>?_))));refine z0i (vs:=[_,_]) U b9 y3v (λx0 b9 d6 C1=>?_) (h1:=(by first|(simp[Value.oneCell',S];done)|exact z4n.one _));refine asg U (kpL [(2,_),(7,_),(8,_),(10,_),(11,_),(12,_),(13,_)] (.c7 U U U U U U U) (nn (sq (sq ?_))));refine y7c (r:=55) (L':=[(2,_),(7,_),(8,_),(10,_),(11,_),(12,_)]) ((((if z3z (1-y.b % 2) (z3i (y.b % 2) (1+y.p % 40) s7.rk)≠0 then 1 else 0)=1)\/(0<((s7.q.p.atC (1-y.b % 2) (z3i (y.b % 2) (1+y.p % 40) s7.rk)).length:Int)))) (.c6 U U U U U U) ?_ ?_;refine mv U (eq' U (mv U (gs 48 U (λk9=>?_) (λk9=>?_))));exact gN U (gN U (gN U (gN U (gN U (gN U (pkt U (z7q U (.c6 U U U U U U) (Fr.refl _ _))))))));refine gY U (fad U y4a (gY U ?_));replace O:=(O.ext (d1.n1 d5)).fr d6;refine z1q (vs:=[_,_]) U O z5x U (gY U (z0k U b9 z5b (gY U ?_)));replace a9:=e1.ext ((((q5.z6 q6 q7 q8 q9 M J).z1 d4).n1 d1).z2 d5 d6);refine cl (ev2 U) u2q (y9k s7.q (1-y.b % 2) (z3i (y.b % 2) (1+y.p % 40) s7.rk) _ a9.at.b (by omega) e2.1.1 e2.1.2 e2.2.1 e2.2.2) U ?_;rintro u2 x1 ⟨i5,j6⟩;have C2:=j6.size;obtain⟨p5,p6,rfl,m7⟩:=i5.sl.form;exact gY U (lnS U underlying37 (gY U (gt' U (pkf U (z7q U (.c6 U U U U U U) j6)))));intro x2 d7;have C3:=d7.size;refine tn (cd U (λc2=>?_) (λc2=>?_));refine sr ?_;replace hG:=e4.ext (((((q1.z6 q2 q3 q4 q5 q6 q7).n1 q8).z1 q9).z6 M J d4 d1 d5 d6).next d7);replace a2:=a6.ext (((((q1.z6 q2 q3 q4 q5 q6 q7).n1 q8).z1 q9).z6 M J d4 d1 d5 d6).next d7);refine cl z0f j5s (y1e _ hG a2) U ?_;rintro _ x3 ⟨rfl,j7⟩;have C4:=j7.size;refine asg U (kpL [(6,_)] (.cons U .nil) (nn (rt (tr (rb (tr (r1 results6 U ?_)))))));exact⟨_,rfl,rfl,((((((q1.z6 q2 q3 q4 q5 q6 q7).n1 q8).z1 q9).z6 M J d4 d1 d5 d6).next d7).next j7)⟩;have i4:z3z (1-y.b % 2) (z3i (y.b % 2) (1+y.p % 40) s7.rk)=0:=Classical.byContradiction λe=>c2 (.inl (if_pos e));have h7:p.B.at (1-y.b % 2) (z3i (y.b % 2) (1+y.p % 40) s7.rk)=[]:=by
  rw[<-i7];have x:(s7.q.p.atC (1-y.b % 2) (z3i (y.b % 2) (1+y.p % 40) s7.rk)).length=0:=by omega
  unfold Bd.atC at x;rw[if_pos i4]at x;exact List.length_eq_zero_iff.1 x
 refine sk (tn (rg ?_));replace b9:=b9.ext d7;refine z0k U b9 z5b (z1s (cs:=[_,_,_,_,_,_]) (ev2 U) u5y (z0h U (z0h U z0q)) U ?_);replace I:=(((I.fr d4).ext (d1.n1 d5)).fr d6).ext d7;refine z0i (vs:=[_,_,_,_,_,_]) U I x4y (λx4 I j8 C5=>?_) (h1:=(by first|(simp[Value.oneCell',S];done)|exact z4n.one _));refine nl (bn' ?_);replace D:=(((D.ext (d1.n1 d5)).fr d6).ext d7).fr j8;exact jE ((⟨7,0,y.b % 2,1+y.p % 40,0,0⟩,⟨7,0,1-y.b % 2,z3i (y.b % 2) (1+y.p % 40) s7.rk,0,0⟩)) (.c5 U U U U U) ⟨((Fr.refl [e3,e0] _).z6 d4 d1 d5 d6 d7 j8),⟨D,I,(by rw[g0] at *;exact u1f e8 (by omega) i4 h7)⟩⟩;rintro⟨T,K⟩ x5 ⟨a1,⟨D,I,e7⟩⟩;have C6:=a1.size;have j0:=D.lt;have j1:=I.lt;refine kpC [(2,_),(7,_),(8,_),(10,_),(11,_)] (.c5 U U U U U) ?_;replace e7:BkR p wh T K:=e7;replace D:Blk _ e3 _ (z4n.enc T):=D;replace I:Blk _ e0 _ (z4n.enc K):=I;refine sr ?_;replace O:=(((((O.ext (q5.n1 q6)).fr q7).ext q8).fr q9).ext (M.n1 J)).fr a1;refine z0k U O z9a (z0k U D y2a ?_);replace a9:=e1.ext ((q5.z6 q6 q7 q8 q9 M J).z1 a1);replace a2:=a6.ext ((((q1.z6 q2 q3 q4 q5 q6 q7).n1 q8).z1 q9).z3 M J a1);refine cl (ev2 U) u9w (z8s s7 p 60 (T) _ a9.at a8 (by omega) a2) U ?_;rintro _ x6 ⟨⟨m3,rfl,f4,h3,p1,i1⟩,q26⟩;have C7:=q26.size;have b7:=f4.k;clear f4;refine mv U (xt U (xt U (al x2t U (λp8 x7 o1 c9 Z C8=>?_))));refine z0i (vs:=[_,_,_,_,_,_,_,_]) U c9 y1b (λx8 c9 a0 C9=>?_) (h1:=(by first|(simp[Value.oneCell',S];done)|exact z4n.one _));refine asg U (kpL [(2,_),(7,_),(8,_),(10,_),(11,_),(14,_),(15,_)] (.c7 U U U U U U U) (nn (sq (sr (mv U (ne' U (nn (cd U (λc3=>?_) (λc3=>?_)))))))));refine sq ?_;refine y7c (r:=6) (L':=[]) (True) .nil ?_ ?_;replace e6:=(((((e6.ext q8).fr q9).ext (M.n1 J)).fr a1).ext (q26.n1 Z)).fr a0;refine z0k U e6 y2a (cl (ev1 U) (mkC func21) (y4m _ _) U ?_);rintro _ x9 ⟨rfl,f0⟩;have D0:=f0.size;refine eq' U (mv U (gs 97 U (λr5=>?_) (λhh=>absurd (by exact x8i e8) hh)));refine gY U ?_;replace hG:=e4.ext (((((q1.z6 q2 q3 q4 q5 q6 q7).n1 q8).z1 q9).z6 M J a1 q26 Z a0).next f0);replace a2:=a6.ext (((((q1.z6 q2 q3 q4 q5 q6 q7).n1 q8).z1 q9).z6 M J a1 q26 Z a0).next f0);refine cl z0f j5s (y1e _ hG a2) U ?_;rintro _ y0 ⟨rfl,j9⟩;have D1:=j9.size;exact pkt U (asg U (z7q U .nil (f0.n1 j9)));intro y1 k0;have D2:=k0.size;refine tn (rt (tr (r1 results6 U ?_)));exact⟨_,rfl,rfl,(((((q1.z6 q2 q3 q4 q5 q6 q7).n1 q8).z1 q9).z6 M J a1 q26 Z a0).next k0)⟩;replace e7:BkR p wh T K:=e7;obtain⟨a',h2⟩:=i1 (Classical.not_not.1 c3);have f8:=h3 a' h2;obtain⟨q,i8,l4,l5⟩:=j6b a8.v a8.t m0 e7 h2;refine sk (tn (sr (z0k U c9 z9a ?_)));replace I:=(I.ext (q26.n1 Z)).fr a0;refine z0k U I y2a ?_;replace b7:=(b7.ext Z).fr a0 (by intro k hk _;rw[List.mem_singleton]at hk;subst hk;exact⟨_,_,by assumption,by decide⟩);replace a2:=a6.ext ((((q1.z6 q2 q3 q4 q5 q6 q7).n1 q8).z1 q9).z6 M J a1 q26 Z a0);refine cl (ev2 U) u9w (z8s m3 a' 61 (K) _ b7.at f8 (by omega) a2) U ?_;rintro _ y2 ⟨⟨g6,rfl,f5,h4,p2,m8⟩,q32⟩;have D3:=q32.size;have a5:=f5.k;clear f5;refine mv U (xt U (xt U (al x2t U (λp9 y3 o2 a7 a3 D4=>?_))));refine z0i (vs:=[_,_,_,_,_,_,_,_]) U a7 y1b (λy4 a7 a4 D5=>?_) (h1:=(by first|(simp[Value.oneCell',S];done)|exact z4n.one _));refine asg U ?_;replace a5:=(a5.ext a3).fr a4 (by intro k hk _;rw[List.mem_singleton]at hk;subst hk;exact⟨_,_,by assumption,by decide⟩);have b1:=h4 q i8;have m2:g6.yv.2.1=6:=by rw[<-b1.ly];exact z1u a5.at.y
 have i2:v2a (doM (nrm a') K)=0:=by rw[i8];rfl
 refine kpL [(2,_),(7,_),(10,_),(11,_),(14,_),(15,_),(16,_)] (.c7 U U U U U U U) (nn (sq (sq ?_)));refine rbo (r:=119) (L':=[(2,_),(7,_),(10,_),(11,_),(14,_),(16,_)]) (((((v2a (doM (nrm a') K))≠0)\/((g6.yv.2.1:Int)≠6))\/((s7.yv.2.1:Int)≠6))) (.c6 U U U U U U) ?_ ?_;refine mv U (ne' U (mv U (gs 108 U (λhh=>absurd hh (by exact λh=>h i2)) (λr6=>(gY U (fad U z8v (gY U (z0g U a7 U y0q (gY U (lnS U underlying33 (gY U (ne' U (pkf U (mv U (gs 114 U (λhh=>absurd hh (by omega)) (λr7=>(gY U (fad U z8v (gY U ?_)))))))))))))))))));replace O:=(((O.ext (q26.n1 Z)).fr a0).ext (q32.n1 a3)).fr a4;exact z0g U O U y0q (gY U (lnS U underlying33 (gY U (ne' U (pkf U (rbe U (.c6 U U U U U U)))))));refine tn (cd U (λc4=>?_) (λc4=>?_));exact absurd c4 (by rintro((h|h)|h)<;>first|exact h i2|omega);refine sk (tn (sq (sr (mv U (y1g U (by first|exact IntWalk.rem_in _ _ (by omega)|rfl) (ne' U (nn ?_)))))));refine cd U (λc5=>?_) (λc5=>?_);refine sq ?_;refine y7c (r:=6) (L':=[]) (True) .nil ?_ ?_;refine z0k U a7 z9a ?_;replace O:=(((O.ext (q26.n1 Z)).fr a0).ext (q32.n1 a3)).fr a4;refine z0k U O z9a ?_;replace a9:=e1.ext ((((q5.z6 q6 q7 q8 q9 M J).z1 a1).n1 q26).z5 Z a0 q32 a3 a4);refine cl (ev2 U) (mkC func20) (x0m _ a5.at a9.at b1 a8 (l4 (by omega))) U ?_;rintro _ y5 ⟨rfl,f1⟩;have D6:=f1.size;refine mv U (gs 126 U (λr8=>?_) (λhh=>absurd (by trivial) hh));refine gY U ?_;replace hG:=e4.ext ((((((((q1.z6 q2 q3 q4 q5 q6 q7).n1 q8).z1 q9).z6 M J a1 q26 Z a0).next q32).next a3).sp a4).next f1);replace a2:=a6.ext ((((((((q1.z6 q2 q3 q4 q5 q6 q7).n1 q8).z1 q9).z6 M J a1 q26 Z a0).next q32).next a3).sp a4).next f1);refine cl z0f j5s (y1e _ hG a2) U ?_;rintro _ y6 ⟨rfl,k1⟩;have D7:=k1.size;exact pkt U (asg U (z7q U .nil (f1.n1 k1)));intro y7 k2;have D8:=k2.size;refine tn (rt (tr (r1 results6 U ?_)));exact⟨_,rfl,rfl,((((((((q1.z6 q2 q3 q4 q5 q6 q7).n1 q8).z1 q9).z6 M J a1 q26 Z a0).next q32).next a3).sp a4).next k2)⟩;obtain⟨⟨o8,o9⟩,l6,e',d',h9,i0,l7,l8⟩:=l5 (by omega);obtain⟨j,hj⟩:∃j:Nat,T.y=(j:Int)+1:=⟨(T.y-1).toNat,by omega⟩;have i3:j<6:=by omega
 have l9:=b1.ly;have o5:=a8.ly;refine sk (tn (sr (fad U z8v (z0g U a7 U y0q (fad U z2z ?_)))));replace D:=(((D.ext (q26.n1 Z)).fr a0).ext (q32.n1 a3)).fr a4;refine z0g U D U na5 (z2o U (wi8 (by omega)) (z1a (p:=j) (yq0) U a5.at.y U y0y (by omega) (λk7 g1=>(fad U z5w (z6x U (g1 _ a5.at.y) U na3 (asg U (kpL [(7,_),(10,_),(11,_),(14,_),(16,_),(17,_)] (.c6 U U U U U U) (nn (sq (sr (mv U (fad U z8v ?_))))))))))));replace O:=(((O.ext (q26.n1 Z)).fr a0).ext (q32.n1 a3)).fr a4;refine z0g U O U y0q (fad U z2z (z0g U D U na5 (z2o U (wi8 (by omega)) ?_)));replace a9:=e1.ext ((((q5.z6 q6 q7 q8 q9 M J).z1 a1).n1 q26).z5 Z a0 q32 a3 a4);refine z1a (p:=j) (yq0) U a9.at.y U y0y (by omega) (λk8 g3=>(fad U z5w (z6x U (g3 _ a9.at.y) U na3 (ne' U (kpL [(7,_),(10,_),(11,_),(14,_),(16,_),(146,_)] (.c6 U U U U U U) (nn (cd U (λc6=>?_) (λc6=>?_))))))));refine sr (z0k U a7 z9a (z0k U D y2a ?_));replace a2:=a6.ext (((((((q1.z6 q2 q3 q4 q5 q6 q7).n1 q8).z1 q9).z6 M J a1 q26 Z a0).next q32).next a3).sp a4);refine cl (ev2 U) u9w (z8s g6 q 62 (T) _ a5.at b1 (by omega) a2) U ?_;rintro _ y8 ⟨⟨m4,rfl,f6,h5,p3,m9⟩,q38⟩;have D9:=q38.size;have b8:=f6.k;clear f6;refine mv U (xt U (xt U (al x2t U (λq0 y9 o3 d0 b3 E0=>?_))));refine z0i (vs:=[_,_,_,_,_,_,_,_]) U d0 y1b (λz0 d0 b4 E1=>?_) (h1:=(by first|(simp[Value.oneCell',S];done)|exact z4n.one _));refine asg U ?_;have f9:=h5 e' h9;have l3:v2a (doM (nrm q) T)=0:=by rw[h9];rfl
 refine kpL [(11,_),(14,_),(16,_),(18,_),(19,_)] (.c5 U U U U U) (nn (sr (z0k U d0 z9a ?_)));replace I:=(((I.ext (q32.n1 a3)).fr a4).ext (q38.n1 b3)).fr b4;refine z0k U I y2a ?_;replace b8:=(b8.ext b3).fr b4 (by intro k hk _;rw[List.mem_singleton]at hk;subst hk;exact⟨_,_,by assumption,by decide⟩);replace a2:=a6.ext ((((((((((q1.z6 q2 q3 q4 q5 q6 q7).n1 q8).z1 q9).z6 M J a1 q26 Z a0).next q32).next a3).sp a4).next q38).next b3).sp b4);refine cl (ev2 U) u9w (z8s m4 e' 63 (K) _ b8.at f9 (by omega) a2) U ?_;rintro _ A0 ⟨⟨u1,rfl,f7,h6,p4,n7⟩,q41⟩;have E2:=q41.size;have e5:=f7.k;clear f7;refine mv U (xt U (xt U (al x2t U (λr4 A2 o4 d3 b5 E3=>?_))));refine z0i (vs:=[_,_,_,_,_,_,_,_]) U d3 y1b (λA3 d3 b6 E4=>?_) (h1:=(by first|(simp[Value.oneCell',S];done)|exact z4n.one _));refine asg U ?_;have h0:=h6 d' i0;have l2:v2a (doM (nrm e') K)=0:=by rw[i0];rfl
 refine kpL [(14,_),(16,_),(18,_),(19,_),(20,_),(21,_)] (.c6 U U U U U U) (nn (sq ?_));refine y7c (r:=6) (L':=[]) (True) .nil ?_ ?_;refine mv U (eq' U (mv U (gs 161 U (λr9=>?_) (λhh=>absurd (by exact l3) hh))));refine gY U (mv U (gY U (eq' U (pkt U (mv U (gs 165 U (λs1=>?_) (λhh=>absurd (by exact l2) hh)))))));refine gY U ?_;replace d0:=(d0.ext (q41.n1 b5)).fr b6;refine z0k U d0 z9a (gY U ?_);replace c9:=(((((c9.ext (q32.n1 a3)).fr a4).ext (q38.n1 b3)).fr b4).ext (q41.n1 b5)).fr b6;refine z0k U c9 z9a (gY U ?_);replace b8:=(b8.ext (q41.n1 b5)).fr b6 (by intro k hk _;rw[List.mem_singleton]at hk;subst hk;exact⟨_,_,by assumption,by decide⟩);replace b7:=(((((b7.ext (q32.n1 a3)).fr a4 (by intro k hk _;rw[List.mem_singleton]at hk;subst hk;exact⟨_,_,by assumption,by decide⟩)).ext (q38.n1 b3)).fr b4 (by intro k hk _;rw[List.mem_singleton]at hk;subst hk;exact⟨_,_,by assumption,by decide⟩)).ext (q41.n1 b5)).fr b6 (by intro k hk _;rw[List.mem_singleton]at hk;subst hk;exact⟨_,_,by assumption,by decide⟩);refine cl (ev2 U) (mkC func20) (x0m _ b8.at b7.at f9 f8 l7) U ?_;rintro _ A4 ⟨rfl,d9⟩;have E5:=d9.size;refine pkt U (mv U (gs 170 U (λs2=>?_) (λhh=>absurd (by trivial) hh)));refine gY U ?_;replace d3:=d3.ext d9;refine z0k U d3 z9a (gY U ?_);replace a7:=((((a7.ext (q38.n1 b3)).fr b4).ext (q41.n1 b5)).fr b6).ext d9;refine z0k U a7 z9a (gY U ?_);replace e5:=((e5.ext b5).fr b6 (by intro k hk _;rw[List.mem_singleton]at hk;subst hk;exact⟨_,_,by assumption,by decide⟩)).ext d9;replace a5:=((((a5.ext (q38.n1 b3)).fr b4 (by intro k hk _;rw[List.mem_singleton]at hk;subst hk;exact⟨_,_,by assumption,by decide⟩)).ext (q41.n1 b5)).fr b6 (by intro k hk _;rw[List.mem_singleton]at hk;subst hk;exact⟨_,_,by assumption,by decide⟩)).ext d9;refine cl (ev2 U) (mkC func20) (x0m _ e5.at a5.at h0 b1 l8) U ?_;rintro _ A5 ⟨rfl,f2⟩;have E6:=f2.size;refine pkt U (mv U (gs 175 U (λs3=>?_) (λhh=>absurd (by trivial) hh)));refine gY U ?_;replace hG:=e4.ext (((((((((((((((q1.z6 q2 q3 q4 q5 q6 q7).n1 q8).z1 q9).z6 M J a1 q26 Z a0).next q32).next a3).sp a4).next q38).next b3).sp b4).next q41).next b5).sp b6).next d9).next f2);replace a2:=a6.ext (((((((((((((((q1.z6 q2 q3 q4 q5 q6 q7).n1 q8).z1 q9).z6 M J a1 q26 Z a0).next q32).next a3).sp a4).next q38).next b3).sp b4).next q41).next b5).sp b6).next d9).next f2);refine cl z0f j5s (y1e _ hG a2) U ?_;rintro _ A6 ⟨rfl,k3⟩;have E7:=k3.size;exact pkt U (asg U (z7q U .nil (d9.n2 f2 k3)));intro A7 k4;have E8:=k4.size;refine tn (rt (tr (r1 results6 U ?_)));exact⟨_,rfl,rfl,((((((((((((((q1.z6 q2 q3 q4 q5 q6 q7).n1 q8).z1 q9).z6 M J a1 q26 Z a0).next q32).next a3).sp a4).next q38).next b3).sp b4).next q41).next b5).sp b6).next k4)⟩;refine sk (tn (sq ?_));refine y7c (r:=6) (L':=[]) (True) .nil ?_ ?_;refine z0k U a7 z9a (z0k U O z9a ?_);refine cl (ev2 U) (mkC func20) (x0m _ a5.at a9.at b1 a8 (l6 (by rw[<-(j5j a8 b1 hj i3).1,<-(j5j a8 b1 hj i3).2];omega))) U ?_;rintro _ A8 ⟨rfl,f3⟩;have E9:=f3.size;refine mv U (gs 181 U (λs4=>?_) (λhh=>absurd (by trivial) hh));refine gY U ?_;replace hG:=e4.ext ((((((((q1.z6 q2 q3 q4 q5 q6 q7).n1 q8).z1 q9).z6 M J a1 q26 Z a0).next q32).next a3).sp a4).next f3);replace a2:=a6.ext ((((((((q1.z6 q2 q3 q4 q5 q6 q7).n1 q8).z1 q9).z6 M J a1 q26 Z a0).next q32).next a3).sp a4).next f3);refine cl z0f j5s (y1e _ hG a2) U ?_;rintro _ A9 ⟨rfl,k5⟩;have F0:=k5.size;exact pkt U (asg U (z7q U .nil (f3.n1 k5)));intro B0 k6;have F1:=k6.size;refine tn (rt (r1 results6 U ?_));exact⟨_,rfl,rfl,((((((((q1.z6 q2 q3 q4 q5 q6 q7).n1 q8).z1 q9).z6 M J a1 q26 Z a0).next q32).next a3).sp a4).next k6)⟩
end Go.Proofs.YtpgdchkdlgkmgaaGreatDoor
