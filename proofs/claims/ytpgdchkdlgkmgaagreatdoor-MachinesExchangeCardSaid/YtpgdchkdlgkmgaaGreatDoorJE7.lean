/- Texts of the proof, joined. -/
import Derived.Test.YtpgdchkdlgkmgaaGreatDoorRows
import Derived.Test.YtpgdchkdlgkmgaaGreatDoorJE6
set_option linter.unusedVariables false
set_option linter.unusedSimpArgs false
namespace Go.Proofs.YtpgdchkdlgkmgaaGreatDoor
open Go.Lw Go.G21 Go.G08 _root_.Go.Proofs.Tryz
theorem el69:ElemOf prog 69 76 v8w 6:=ElemOf.mk' (z:=(.agg #[.int .u8 0,.int .u8 0,.int .u8 0,.int .u8 0,.int .u8 0,.int .u8 0])) underlying69 (by kernel_rfl) U
theorem stp0 (I D:Nat):StP (st0 I D) G08.start 0:=⟨j7d I D,z8w,u1e,Nat.zero_le _⟩
set_option maxHeartbeats 2000000 in
theorem j3v (v:Value)(xs:List MOp)(w0:World)(hs:Sl v8w w0 v xs)(hb:∀x∈xs,x.Bytes)(J:StT w0):Rets prog 18 #[v] w0 λr w'=>(∃s:StQ,r=.agg #[.int .i64 s.rk,.slice s.q.f.1 s.q.f.2.1 s.q.f.2.2,.slice s.q.b.1 s.q.b.2.1 s.q.b.2.2,.slice s.yv.1 s.yv.2.1 s.yv.2.2,.slice s.fb.t.1 s.fb.t.2.1 s.fb.t.2.2,.slice s.fb.c.1 s.fb.c.2.1 s.fb.c.2.2,.slice s.fb.h.1 s.fb.h.2.1 s.fb.h.2.2,.slice s.fb.f.1 s.fb.f.2.1 s.fb.f.2.2]/\StK UK w' s/\StP s (sOf (xs.map ofO) (min 60 xs.length)) 60)/\Fr [] w0 w':=by
 obtain⟨A,c,rfl,e3,d6,hA⟩:=id hs;clear hA;unfold maxLen at d6;refine we [(0,.slice A xs.length c)] func18 U ntmps18 U (.cons U .nil) ?_;have d7:=hs;have b7:=J;refine sr (al x5v U (λg2 w1 e4 b3 q1 z1=>(nn (sr (cl z0e (mkC func10) (y7j _) U ?_)))));rintro _ w2 ⟨⟨gy,gt,rfl,hO⟩,q2⟩;have z2:=q2.size;have M:=hO.k;clear hO;refine al x5v U (λg3 w3 e5 D q3 z3=>(z0j (vs:=[_,_,_,_,_,_,_,_]) U D y2j (λw4 D q4 z4=>(nn (sq (sr (asg U (nn (bl ?_)))))))));replace M:=(M.ext q3).fr q4 (by intro k O _;rw[List.mem_singleton]at O;subst O;exact⟨_,_,by assumption,by decide⟩);refine lpK (ι:=Nat×StQ) [(0,_),(2,_),(3,_)] (λp=>[(4,.int .i64 (p.1:Int))]) (λp w'=>Fr [g3] w4 w'/\(p.1<=xs.length/\p.1<=60)/\Blk w' g3 41 (stL p.2)/\StK UK w' p.2/\StP p.2 (sOf (xs.map ofO) p.1) p.1) (λp=>60-p.1) (0,st0 gy gt) (.c4 U U U U) ⟨Fr.refl _ _,⟨⟨Nat.zero_le _,Nat.zero_le _⟩,D,M,stp0 gy gt⟩⟩ ?_;rintro⟨i,s⟩ w5 ⟨q5,⟨b9,D,M,hP⟩⟩;simp only at b9 D M hP;have z5:=q5.size;have d5:=D.lt;refine kpC [(0,_),(2,_),(3,_),(4,.int .i64 (i:Int))] (.c4 U U U U) (sq (sq ?_));refine rbo (r:=15) (L':=[(0,_),(2,_),(3,_),(4,_)]) ((((i:Int)<(xs.length:Int))/\((i:Int)<60))) (.c4 U U U U) ?_ ?_;refine mv U (mv U (lnS U underlying69 (lt' U (mv U (gs 12 U (λg0=>?_) (λg0=>?_))))));exact gY U (mv U (gY U (lt' U (pkt U (rbe U (.c4 U U U U))))));exact gN U (gN U (pkf U (rbe U (.c4 U U U U))));refine tn (cd U (λc0=>?_) (λc0=>?_));refine sk (tn (sq (bl (sq ?_))));replace hs:=d7.ext (q1.z4 q2 q3 q4 q5);replace J:=b7.ext (q1.z4 q2 q3 q4 q5);intro a h;refine z0i none (λwb w'=>Fr [] wb w') z2m ?_;intro w6 q6;have z6:=q6.size;replace hs:=hs.ext q6;replace J:=J.ext q6;replace D:=D.ext q6;replace M:=M.ext q6;have hC:Fr [] w6 w6:=Fr.refl _ _;have b1:=hs;have a7:=J;have a0:=D;have b2:=M;refine z0z 0 h U (λ_ hw=>a0.ext hw) y1r U λa h=>z0f 1 h U λa h=>z0f 2 h U λa h=>z1h (op0) 3 h U hs U el69 U ?_ (hp:=rfl);clear h a;intro e2 b8 a h;refine z2d 4 h wn U (λ_ hw=>b8 _ (b1.ext hw)) j7j U λa h=>z1t 5 10 (by kernel_rfl) U ?_ ?_;refine z0k h (z0a U z0e) x0s (z8i (xs.getD i op0) _ (hb _ (z0v (d:=op0) (by omega)))) ?_;rintro _ w7 ⟨rfl,q7⟩ a h;have z7:=q7.size;replace hs:=hs.ext q7;replace J:=J.ext q7;replace D:=D.ext q7;replace M:=M.ext q7;replace hC:=hC.next q7;refine z0b ?_;refine z1t 6 10 (by kernel_rfl) U ?_ ?_;refine z0k h (z0a U (z0a U z0e)) (mkC func19) (y8a s (sOf (xs.map ofO) i) i (ofO (xs.getD i op0)) _ M.at hP (by omega) J) ?_;rintro _ w8 ⟨⟨s',rfl,hO,b5,c9,b6⟩,q8⟩ a h;have z8:=q8.size;replace D:=D.ext q8;replace hC:=hC.next q8;have hN:=hO.k;clear hO;refine z0b ?_;refine z0f 7 h U λa h=>z0n 8 h U λa h=>z0n 9 h U λa h=>z0d 10 U ?_;refine z0u h x5v U λw9 I q9 hz a h=>?_;obtain⟨a2,hg⟩:∃g,g=w8.heap.size:=⟨_,rfl⟩;rw[<-hg]at I h hz;have b4:g3<a2:=by have:=D.lt;omega
 have z9:=q9.size;replace hs:=hs.ext (q8.n1 q9);replace J:=J.ext (q8.n1 q9);replace D:=D.ext q9;replace M:=M.ext (q8.n1 q9);replace hN:=hN.ext q9;replace hC:=hC.next q9;refine z0b ?_;refine z0d 11 U ?_;refine z0t h U I U y2j λd9 a3 a8 hz a h=>?_;have f5:=a8.size;replace D:=D.fr a8;replace M:=M.fr a8 (by intro k O _;rw[List.mem_singleton]at O;subst O;exact⟨_,_,by assumption,by decide⟩);replace hN:=hN.fr a8 (by intro k O _;rw[List.mem_singleton]at O;subst O;exact⟨_,_,by assumption,by decide⟩);replace hC:=hC.sp a8;clear I hz;have I:Blk d9 a2 _ [_,_,_,_,_,_,_,_]:=a3;clear a3;refine z0b ?_;refine z0d 12 U ?_;refine z0s h U λa h=>?_;refine z0b ?_;refine z0q ?_;clear hC b1 a7 a0 b2;refine bk (h.sub (L':=[(0,_),(2,_),(3,_),(4,_),(5,_),(6,_)]) (.c6 U U U U U U)) (tn (sr (mv U (eq' U (nn (cd U (λc1=>?_) (λc1=>?_)))))));obtain⟨pq,a4⟩:=b6 c1;have Z:StP s' (sOf (xs.map ofO) (i+1)) (i+1):=by rw[y2m,x4c a4];exact b5 _ a4
 refine rg (z0m U I y1r (z0j (vs:=[_,_,_,_,_,_,_,_]) U D y2j (λe6 D d0 f6=>(nl (bn' (tn (rg (mv U (z0x U (wi6 (by omega)) (asg U (nl ?_)))))))))));replace hN:=hN.fr d0 (by intro k O _;rw[List.mem_singleton]at O;subst O;exact⟨_,_,by assumption,by decide⟩);exact lpE ((i+1,s')) (.c4 U U U U) ⟨(((Fr.refl [g3] _).z6 q5 q6 q7 q8 q9 a8).z1 d0),⟨by simp only;omega,D,hN,Z⟩⟩ (by omega);have Z:StP s (sOf (xs.map ofO) (i+1)) (i+1):=by rw[y2m,x0e (z5u c1)];exact hP.mono (Nat.le_succ i)
 refine sk (bn' (tn (rg (mv U (z0x U (wi6 (by omega)) (asg U (nl ?_)))))));exact lpE ((i+1,s)) (.c4 U U U U) ⟨((Fr.refl [g3] _).z6 q5 q6 q7 q8 q9 a8),⟨by simp only;omega,D,M,Z⟩⟩ (by omega);refine z0u h x5v U λe7 I a5 hz a h=>?_;obtain⟨a2,hg⟩:∃g,g=w7.heap.size:=⟨_,rfl⟩;rw[<-hg]at I h hz;have b4:g3<a2:=by have:=D.lt;omega
 have f7:=a5.size;replace J:=J.ext a5;replace M:=M.ext a5;replace hC:=hC.next a5;refine z0b ?_;refine z0d 6 U ?_;refine z0k h (z0a U (z0a U z0e)) (mkC func19) (y8a s (sOf (xs.map ofO) i) i (ofO (xs.getD i op0)) _ M.at hP (by omega) J) ?_;rintro _ e8 ⟨⟨s',rfl,hO,b5,c9,b6⟩,q13⟩ a h;have f8:=q13.size;replace hs:=hs.ext (a5.n1 q13);replace J:=J.ext q13;replace D:=D.ext (a5.n1 q13);replace M:=M.ext q13;replace I:=I.ext q13;replace hC:=hC.next q13;have hN:=hO.k;clear hO;refine z0b ?_;refine z0f 7 h U λa h=>z0n 8 h U λa h=>z0n 9 h U λa h=>z0d 11 U ?_;refine z0t h U I U y2j λe0 a3 a9 hz a h=>?_;have f9:=a9.size;replace D:=D.fr a9;replace M:=M.fr a9 (by intro k O _;rw[List.mem_singleton]at O;subst O;exact⟨_,_,by assumption,by decide⟩);replace hN:=hN.fr a9 (by intro k O _;rw[List.mem_singleton]at O;subst O;exact⟨_,_,by assumption,by decide⟩);replace hC:=hC.sp a9;clear I hz;have I:Blk e0 a2 _ [_,_,_,_,_,_,_,_]:=a3;clear a3;refine z0b ?_;refine z0d 12 U ?_;refine z0s h U λa h=>?_;refine z0b ?_;refine z0q ?_;clear hC b1 a7 a0 b2;refine bk (h.sub (L':=[(0,_),(2,_),(3,_),(4,_),(5,_),(6,_)]) (.c6 U U U U U U)) (tn (sr (mv U (eq' U (nn (cd U (λc1=>?_) (λc1=>?_)))))));obtain⟨pq,a4⟩:=b6 c1;have Z:StP s' (sOf (xs.map ofO) (i+1)) (i+1):=by rw[y2m,x4c a4];exact b5 _ a4
 refine rg (z0m U I y1r (z0j (vs:=[_,_,_,_,_,_,_,_]) U D y2j (λe9 D d1 g1=>(nl (bn' (tn (rg (mv U (z0x U (wi6 (by omega)) (asg U (nl ?_)))))))))));replace hN:=hN.fr d1 (by intro k O _;rw[List.mem_singleton]at O;subst O;exact⟨_,_,by assumption,by decide⟩);exact lpE ((i+1,s')) (.c4 U U U U) ⟨(((Fr.refl [g3] _).z6 q5 q6 q7 a5 q13 a9).z1 d1),⟨by simp only;omega,D,hN,Z⟩⟩ (by omega);have Z:StP s (sOf (xs.map ofO) (i+1)) (i+1):=by rw[y2m,x0e (z5u c1)];exact hP.mono (Nat.le_succ i)
 refine sk (bn' (tn (rg (mv U (z0x U (wi6 (by omega)) (asg U (nl ?_)))))));exact lpE ((i+1,s)) (.c4 U U U U) ⟨((Fr.refl [g3] _).z6 q5 q6 q7 a5 q13 a9),⟨by simp only;omega,D,M,Z⟩⟩ (by omega);refine z0u h x5v U λf0 I a6 hz a h=>?_;obtain⟨a2,hg⟩:∃g,g=w6.heap.size:=⟨_,rfl⟩;rw[<-hg]at I h hz;have b4:g3<a2:=by have:=D.lt;omega
 have g4:=a6.size;replace hC:=hC.next a6;refine z0b ?_;refine z0d 5 U ?_;refine z0k h (z0a U z0e) x0s (z8i (xs.getD i op0) _ (hb _ (z0v (d:=op0) (by omega)))) ?_;rintro _ f1 ⟨rfl,a1⟩ a h;have g5:=a1.size;replace J:=J.ext (a6.n1 a1);replace M:=M.ext (a6.n1 a1);replace hC:=hC.next a1;refine z0b ?_;refine z0d 6 U ?_;refine z0k h (z0a U (z0a U z0e)) (mkC func19) (y8a s (sOf (xs.map ofO) i) i (ofO (xs.getD i op0)) _ M.at hP (by omega) J) ?_;rintro _ f2 ⟨⟨s',rfl,hO,b5,c9,b6⟩,q18⟩ a h;have g6:=q18.size;replace hs:=hs.ext (a6.n2 a1 q18);replace J:=J.ext q18;replace D:=D.ext (a6.n2 a1 q18);replace M:=M.ext q18;replace I:=I.ext (a1.n1 q18);replace hC:=hC.next q18;have hN:=hO.k;clear hO;refine z0b ?_;refine z0f 7 h U λa h=>z0n 8 h U λa h=>z0n 9 h U λa h=>z0d 11 U ?_;refine z0t h U I U y2j λe1 a3 b0 hz a h=>?_;have g7:=b0.size;replace D:=D.fr b0;replace M:=M.fr b0 (by intro k O _;rw[List.mem_singleton]at O;subst O;exact⟨_,_,by assumption,by decide⟩);replace hN:=hN.fr b0 (by intro k O _;rw[List.mem_singleton]at O;subst O;exact⟨_,_,by assumption,by decide⟩);replace hC:=hC.sp b0;clear I hz;have I:Blk e1 a2 _ [_,_,_,_,_,_,_,_]:=a3;clear a3;refine z0b ?_;refine z0d 12 U ?_;refine z0s h U λa h=>?_;refine z0b ?_;refine z0q ?_;clear hC b1 a7 a0 b2;refine bk (h.sub (L':=[(0,_),(2,_),(3,_),(4,_),(5,_),(6,_)]) (.c6 U U U U U U)) (tn (sr (mv U (eq' U (nn (cd U (λc1=>?_) (λc1=>?_)))))));obtain⟨pq,a4⟩:=b6 c1;have Z:StP s' (sOf (xs.map ofO) (i+1)) (i+1):=by rw[y2m,x4c a4];exact b5 _ a4
 refine rg (z0m U I y1r (z0j (vs:=[_,_,_,_,_,_,_,_]) U D y2j (λf3 D d3 g8=>(nl (bn' (tn (rg (mv U (z0x U (wi6 (by omega)) (asg U (nl ?_)))))))))));replace hN:=hN.fr d3 (by intro k O _;rw[List.mem_singleton]at O;subst O;exact⟨_,_,by assumption,by decide⟩);exact lpE ((i+1,s')) (.c4 U U U U) ⟨(((Fr.refl [g3] _).z6 q5 q6 a6 a1 q18 b0).z1 d3),⟨by simp only;omega,D,hN,Z⟩⟩ (by omega);have Z:StP s (sOf (xs.map ofO) (i+1)) (i+1):=by rw[y2m,x0e (z5u c1)];exact hP.mono (Nat.le_succ i)
 refine sk (bn' (tn (rg (mv U (z0x U (wi6 (by omega)) (asg U (nl ?_)))))));exact lpE ((i+1,s)) (.c4 U U U U) ⟨((Fr.refl [g3] _).z6 q5 q6 a6 a1 q18 b0),⟨by simp only;omega,D,M,Z⟩⟩ (by omega);refine ex (te (te (xh (tn (sr (z0m U D y1r ?_))))));replace b3:=((b3.ext (q2.n1 q3)).fr q4).fr q5;refine z0j (vs:=[_,_,_,_,_,_,_,_]) U b3 y2j (λf4 b3 d4 g9=>(nn (rt (rC results18 U b3 y1r  ?_))));replace M:=M.fr d4 (by intro k O _;rw[List.mem_singleton]at O;subst O;exact⟨_,_,by assumption,by decide⟩);exact⟨_,rfl,⟨s,rfl,M,by rw[show min 60 xs.length=i by omega];exact hP.mono b9.2⟩,(q1.z5 q2 q3 q4 q5 d4)⟩
end Go.Proofs.YtpgdchkdlgkmgaaGreatDoor
namespace Go.G08
open Go.Lw Go.G21
structure Eqv (p q:MSt):Prop where
  rk:p.rk=q.rk
  B:p.B=q.B
  ys:p.ys=q.ys
  tb:p.tb=q.tb
  cr:p.cr.Perm q.cr
  fa:p.fa.Perm q.fa
  nd:(p.cr.map λc=>(c.a,c.b)).Nodup
theorem Eqv.refl {p:MSt}(h:(p.cr.map λc=>(c.a,c.b)).Nodup):Eqv p p:=⟨rfl,rfl,rfl,rfl,.refl _,.refl _,h⟩
theorem Eqv.trans {p q r:MSt}(h:Eqv p q)(D:Eqv q r):Eqv p r:=⟨h.rk.trans D.rk,h.B.trans D.B,h.ys.trans D.ys,h.tb.trans D.tb,h.cr.trans D.cr,h.fa.trans D.fa,h.nd⟩
theorem Eqv.symm {p q:MSt}(h:Eqv p q):Eqv q p:=⟨h.rk.symm,h.B.symm,h.ys.symm,h.tb.symm,h.cr.symm,h.fa.symm,(h.cr.map _).nodup_iff.1 h.nd⟩
theorem Eqv.stM {p q:MSt}(h:Eqv p q):stM p=stM q:=by
 unfold G08.stM;rw[h.rk,h.B,h.ys,h.tb,x4t h.symm.nd ((z2t p.cr).trans h.cr) (y3k p.cr),v6k ((z3a p.fa).trans h.fa) (y8w p.fa)]
theorem x5s {p q:MSt}(D:p.B=q.B)(I:p.rk=q.rk)(d:Int)(y:Yn):z6f p d y=z6f q d y:=by unfold z6f;rw[D,I]
theorem y3a {p q:MSt}(D:p.B=q.B)(I:p.rk=q.rk)(d:Int):∀l,z3r p d l=z3r q d l
 | []=>rfl
 | y::l=>by unfold z3r;rw[x5s D I,y3a D I d l]
end Go.G08
namespace Go.Proofs.YtpgdchkdlgkmgaaGreatDoor
open Go.Lw Go.G21 Go.G08 _root_.Go.Proofs.Tryz
def u1t (p:MSt)(l:List MOp):Int:=match z4i 0 p l with
  | .error (e,_)=>e
  | .ok _=>0
def j3a (p:MSt)(l:List MOp):Nat:=match z4i 0 p l with
  | .error (_,n)=>n
  | .ok _=>l.length
theorem y9t {p:MSt}{l:List MOp}{e:Int}{n:Nat}(h:z4i 0 p l=.error (e,n)):u1t p l=e/\j3a p l=n:=by unfold u1t j3a;rw[h];exact⟨rfl,rfl⟩
theorem u0z {p q:MSt}{l:List MOp}(h:z4i 0 p l=.ok q):u1t p l=0/\j3a p l=l.length:=by unfold u1t j3a;rw[h];exact⟨rfl,rfl⟩
theorem u3q:∀ {l:List MOp} {i:Nat} {p q:MSt},TrB p.B->z4i i p l=.ok q->TrB q.B
 | [],i,p,q,h,e=>by cases e;exact h
 | o::l,i,p,q,h,e=>by
  unfold z4i at e
  split at e
  ·cases e
  rename_i I D
  exact u3q (j4o h D) e
theorem v2i {s:StQ}{p:MSt}{n:Nat}(v:Value)(l:List MOp)(w0:World)(hS:StAt w0 s)(D:StP s p n)(hn:n+l.length<=1000)(hv:Sl z8c w0 v l)(M:StT w0):Rets prog 9 #[.agg #[.int .i64 s.rk,.slice s.q.f.1 s.q.f.2.1 s.q.f.2.2,.slice s.q.b.1 s.q.b.2.1 s.q.b.2.2,.slice s.yv.1 s.yv.2.1 s.yv.2.2,.slice s.fb.t.1 s.fb.t.2.1 s.fb.t.2.2,.slice s.fb.c.1 s.fb.c.2.1 s.fb.c.2.2,.slice s.fb.h.1 s.fb.h.2.1 s.fb.h.2.2,.slice s.fb.f.1 s.fb.f.2.1 s.fb.f.2.2],v] w0 λr w'=>(∃s':StQ,r=.tuple #[.agg #[.int .i64 s'.rk,.slice s'.q.f.1 s'.q.f.2.1 s'.q.f.2.2,.slice s'.q.b.1 s'.q.b.2.1 s'.q.b.2.2,.slice s'.yv.1 s'.yv.2.1 s'.yv.2.2,.slice s'.fb.t.1 s'.fb.t.2.1 s'.fb.t.2.2,.slice s'.fb.c.1 s'.fb.c.2.1 s'.fb.c.2.2,.slice s'.fb.h.1 s'.fb.h.2.1 s'.fb.h.2.2,.slice s'.fb.f.1 s'.fb.f.2.1 s'.fb.f.2.2],.int .i64 (j3a (nrm p) l:Int),.int .i64 (u1t (nrm p) l)]/\StO τd 109 w0.heap.size w' s'/\(∀q,z4i 0 (nrm p) l=.ok q->StP s' q (n+l.length))/\(∀e i,z4i 0 (nrm p) l=.error (e,i)->s'=stZ))/\Fr [] w0 w':=
 Rets.mono (v3n s v l (nrm p) w0 hS (x6j D (by omega)) D.cn (v6b D).symm (z6w D.v).inv hv M (by omega) (λw h=>x7e w h D) (λq e=>by
  have x:=y3t (z6w D.v).inv e
  have y:=D.c
  rw[x7f]at x
  omega)) (by
  rintro r w' ⟨h,hf⟩
  refine⟨?_,hf⟩
  cases e:z4i 0 (nrm p) l with
  | error x=>
   obtain⟨e1,i⟩:=x
   rw[e]at h
   obtain⟨I,J⟩:=y9t e
   exact⟨stZ,by rw[I,J];exact h,v8x _ _,λq O=>(by cases O),λ_ _ _=>rfl⟩
  | ok q=>
   rw[e]at h
   obtain⟨s',I,J,Z⟩:=h
   obtain⟨h4,h5⟩:=u0z e
   refine⟨s',by rw[h4,h5];exact I,J,λq' O=>?_,λ_ _ hp=>(by cases hp)⟩
   cases O
   refine⟨Z,y1q (z6w D.v) e,u3q (p:=nrm p) D.t e,?_⟩
   have x:=y3t (z6w D.v).inv e
   have y:=D.c
   rw[x7f]at x
   rw[Nat.add_mul];omega)
theorem u4x {D I:StQ}{p q:MSt}{n m:Nat}(w0:World)(h1:StAt w0 D)(Z:StAt w0 I)(M:StP D p n)(O:StP I q m)(e:Eqv p q)(hn:n<=10000)(hm:m<=10000):Rets prog 20 #[.agg #[.int .i64 D.rk,.slice D.q.f.1 D.q.f.2.1 D.q.f.2.2,.slice D.q.b.1 D.q.b.2.1 D.q.b.2.2,.slice D.yv.1 D.yv.2.1 D.yv.2.2,.slice D.fb.t.1 D.fb.t.2.1 D.fb.t.2.2,.slice D.fb.c.1 D.fb.c.2.1 D.fb.c.2.2,.slice D.fb.h.1 D.fb.h.2.1 D.fb.h.2.2,.slice D.fb.f.1 D.fb.f.2.1 D.fb.f.2.2],.agg #[.int .i64 I.rk,.slice I.q.f.1 I.q.f.2.1 I.q.f.2.2,.slice I.q.b.1 I.q.b.2.1 I.q.b.2.2,.slice I.yv.1 I.yv.2.1 I.yv.2.2,.slice I.fb.t.1 I.fb.t.2.1 I.fb.t.2.2,.slice I.fb.c.1 I.fb.c.2.1 I.fb.c.2.2,.slice I.fb.h.1 I.fb.h.2.1 I.fb.h.2.2,.slice I.fb.f.1 I.fb.f.2.1 I.fb.f.2.2]] w0 λr w'=>r=.bool true/\Fr [] w0 w':=by
 have J:D.p=I.p:=by rw[M.e,O.e,e.stM]
 exact u0t D I w0 h1 Z (x6j M hn) (x6j O hm) (congrArg St.rk J) (congrArg (λx=>trimB x.B.f) J) (congrArg (λx=>trimB x.B.b) J) (congrArg St.ys J) (congrArg St.fb J)
end Go.Proofs.YtpgdchkdlgkmgaaGreatDoor
namespace Go.G08
open Go.Lw Go.G21
section
variable {p q:MSt} {a:Int} {Y:Yn}
theorem v3f {b:Int}(h:(b-1).toNat≠(a-1).toNat):(p.setY a Y).y b=p.y b:=by
 unfold MSt.y MSt.setY;rw[List.getD,List.getD,List.getElem?_set_ne (Ne.symm h)]
theorem set_set {b:Int}{Z:Yn}(h:(b-1).toNat≠(a-1).toNat):(p.setY a Y).setY b Z=(p.setY b Z).setY a Y:=by
 unfold MSt.setY;rw[List.set_comm _ _ h.symm]
def v2q (a:Int)(Y:Yn):MR->MR
  | .error e=>.error e
  | .ok q=>.ok (q.setY a Y)
theorem j1e {o:MOp}(h:(o.y-1).toNat≠(a-1).toNat):inM (p.setY a Y) o=v2q a Y (inM p o):=by
 unfold inM;rw[v3f h];split;rfl;exact congrArg _ (set_set h)
theorem u8h {o:MOp}(h:(o.y-1).toNat≠(a-1).toNat):x1e (p.setY a Y) o=v2q a Y (x1e p o):=by
 unfold x1e;rw[v3f h];split;rfl;exact congrArg _ (set_set h)
theorem x4r {b D en:Int}(h:(b-1).toNat≠(a-1).toNat):y0h (p.setY a Y) b D en=v2q a Y (y0h p b D en):=by
 unfold y0h v2c;rw[v3f h];show (if goE (p.y b) D (btw (z2u p.B p.rk) (p.y b).pl en)≠0 then _ else _)=_;split;rfl;exact congrArg _ (set_set h)
theorem v6z {o:MOp}{D st:List LId}(h:(o.y-1).toNat≠(a-1).toNat):y3d (p.setY a Y) o D st=v2q a Y (y3d p o D st):=by
 unfold y3d;rw[v3f h];show (if mkE (p.y o.y)≠0 then _ else if 2048<=z4s p.tb then _ else _)=_;split;rfl;split;rfl;show Except.ok _=Except.ok _;unfold MSt.setY;rw[List.set_comm _ _ h.symm];rfl
theorem x5z {o:MOp}(h:(o.y-1).toNat≠(a-1).toNat):z6x (p.setY a Y) o=z6x p o:=by
 unfold z6x;rw[v3f h];rfl
theorem u0c {o:MOp}(h:(o.y-1).toNat≠(a-1).toNat):z9r (p.setY a Y) o=v2q a Y (z9r p o):=by
 unfold z9r;rw[x5z h,x4r h];show (if z6x p o≠0 then _ else match v2q a Y (y0h p o.y (y9s p o) (z3t o.b o.p p.rk)) with|.error e=>(.error e:MR)|.ok q=>y3d q o (q.B.at o.b o.p) [])=_;split;rfl;cases y0h p o.y (y9s p o) (z3t o.b o.p p.rk) with
 | error e=>rfl
 | ok q=>exact v6z h
theorem u0m {o:MOp}(h:(o.y-1).toNat≠(a-1).toNat):z8v (p.setY a Y) o=v2q a Y (z8v p o):=by
 unfold z8v;rw[x5z h,x4r h];show (if z6x p o≠0 then _ else match v2q a Y (y0h p o.y (y9s p o) (z3t o.b o.p p.rk)) with|.error e=>(.error e:MR)|.ok q=>if 4<=(q.B.at o.b o.p).length then .error 9 else y3d q o [] (q.B.at o.b o.p))=_;split;rfl;cases y0h p o.y (y9s p o) (z3t o.b o.p p.rk) with
 | error e=>rfl
 | ok q=>
  show (if 4<=(q.B.at o.b o.p).length then _ else y3d (q.setY a Y) o [] (q.B.at o.b o.p))=v2q a Y (if 4<=(q.B.at o.b o.p).length then _ else _);split;rfl;exact v6z h
theorem u1o {o:MOp}(h:(o.y-1).toNat≠(a-1).toNat):y0w (p.setY a Y) o=v2q a Y (y0w p o):=by
 unfold y0w;rw[x5z h,show y9s (p.setY a Y) o=y9s p o from U,x4r h];split<;>rfl
def v0g (Y:Yn):Prop:=Y.inn=true->(Y.pl = -13\/Y.pl=179)/\Y.pe=[]
theorem u1p {B:Bd}{r d x:Int}(O:BdOk B)(hr:-4<=r/\r<=4)(Z:d=0\/d=1)(a0:-4<=r+stI d/\r+stI d<=4)(hx:x = -13\/x=179):z6h B r d x=[]:=by
 have I:∀k,k<B.b.length->y6b B r d x k=[]:=λk D=>by
  unfold y6b;have M:=O.lb;have hs:z3t 1 ((k:Int)+1) r=4*((k:Int)+1+r):=by
   unfold z3t;rw[if_neg (λe=>by rcases e with e|e;exact e (u5l ⟨.inr U,by omega,by omega⟩);exact e hr),if_neg (by decide)]
  rw[hs];refine if_pos ?_;unfold stI at *
  rcases Z with rfl|rfl
  rw[if_pos U] at *;omega;rw[if_neg (by decide)] at *;omega
 have J:∀i,i<=B.b.length->y3g B r d x i=[]:=λi hi=>by
  unfold y3g;rw[List.flatMap_eq_nil_iff];exact λk D=>I k (by have:=List.mem_range.1 D;omega)
 unfold z6h;rw[J _ (Nat.le_refl _)];split<;>rfl
theorem v0c {d:Int}(M:BdOk p.B)(hr:-4<=p.rk/\p.rk<=4)(hd:d=0\/d=1)(D:-4<=p.rk+stI d/\p.rk+stI d<=4)(O:v0g Y){Z:Yn}(e:z6f p d Y=.ok Z):Z=Y:=by
 unfold z6f at e;split at e;exact(Except.ok.inj e).symm;rename_i hi;obtain⟨J,I⟩:=O (by simpa using hi);rw[u1p M hr hd D J]at e;split at e;cases e;rw[<-Except.ok.inj e];obtain⟨i,pl,ct,nw,pe⟩:=Y;simp only at I;subst I;rfl
theorem x2e {d:Int}(I:BdOk p.B)(O:-4<=p.rk/\p.rk<=4)(M:d=0\/d=1)(D:-4<=p.rk+stI d/\p.rk+stI d<=4)(J:v0g Y):∀ {l:List Yn} {j:Nat} {l1 l2:List Yn},z3r p d l=.ok l1->z3r p d (l.set j Y)=.ok l2->l2=l1.set j Y
 | [],j,l1,l2,e1,e2=>by
  rw[List.set_nil]at e2
  cases e1;cases e2;rfl
 | y::l,0,l1,l2,e1,e2=>by
  rw[List.set_cons_zero]at e2
  unfold z3r at e1 e2
  split at e1
  ·cases e1
  split at e1
  ·cases e1
  rename_i h1
  split at e2
  ·cases e2
  rename_i Z hZ
  rw[h1]at e2
  cases e1;cases e2
  rw[v0c I O M D J hZ];rfl
 | y::l,j+1,l1,l2,e1,e2=>by
  rw[List.set_cons_succ]at e2
  unfold z3r at e1 e2
  split at e1
  ·cases e1
  rename_i y1 hy
  rw[hy]at e2
  split at e1
  ·cases e1
  rename_i l3 h3
  dsimp only at e2
  split at e2
  ·cases e2
  rename_i l4 h4
  cases e1;cases e2
  rw[x2e I O M D J h3 h4];rfl
theorem v8y {d:Int}{q1 q2:MSt}(hB:BdOk p.B)(hr:-4<=p.rk/\p.rk<=4)(hd:d=0\/d=1)(O:-4<=p.rk+stI d/\p.rk+stI d<=4)(hY:v0g Y)(D:z8o p d=.ok q1)(I:z8o (p.setY a Y) d=.ok q2):q2=q1.setY a Y:=by
 unfold z8o at D I;split at D;cases D;rename_i ys Z;split at D;cases D;rename_i cr M;cases D;split at I;cases I;rename_i zs J;rw[show z5m (p.setY a Y).cr (z3z (p.setY a Y).B (p.setY a Y).rk d)=.ok cr from M]at I;cases I;rw[y3a (p:=p.setY a Y) (q:=p) U U]at J;rw[x2e hB hr hd O hY Z J];rfl
theorem x6x {r:Int}(J:-4<=r/\r<=4)(Z:v0g Y):∀ {n:Nat} {p q1 q2:MSt},MInv p->z5s n p r=.ok q1->z5s n (p.setY a Y) r=.ok q2->q2=q1.setY a Y/\∀k,(q1.ys.getD k yn0).ct=(p.ys.getD k yn0).ct
 | 0,p,q1,q2,_,e1,e2=>by cases e1;cases e2;exact⟨rfl,λ_=>rfl⟩
 | n+1,p,q1,q2,hi,e1,e2=>by
  unfold z5s at e1 e2
  rw[show (p.setY a Y).rk=p.rk from U]at e2
  by_cases e:p.rk=r
  ·rw[if_pos e]at e1 e2;cases e1;cases e2;exact⟨rfl,λ_=>rfl⟩
  rw[if_neg e]at e1 e2
  have M:=hi.rk
  have hd:(if r<p.rk then 0 else 1:Int)=0\/(if r<p.rk then 0 else 1:Int)=1:=by split<;>simp
  have I:-4<=p.rk+stI (if r<p.rk then 0 else 1)/\p.rk+stI (if r<p.rk then 0 else 1)<=4:=by
   unfold stI;split
   ·rw[if_pos U];omega
   rw[if_neg (by decide)];omega
  split at e1
  ·cases e1
  rename_i p1 D
  split at e2
  ·cases e2
  rename_i p2 h2
  obtain rfl:=v8y hi.B M hd I Z D h2
  obtain⟨h3,h4⟩:=x6x J Z (y3j hi I D).1 e1 e2
  refine⟨h3,λk=>(h4 k).trans ?_⟩
  unfold z8o at D
  split at D
  ·cases D
  rename_i ys O
  split at D
  ·cases D
  cases D;exact((y5u O).2 k).2
theorem j1w {o:MOp}{q1 q2:MSt}(hi:MInv p)(hY:v0g Y)(ha:1<=a/\a<=6)(h:o.y≠a)(D:doM p o=.ok q1)(I:doM (p.setY a Y) o=.ok q2):q2=q1.setY a Y/\(q1.y a).ct=(p.y a).ct:=by
 unfold doM at D I;by_cases hc:y9a o≠0;rw[if_pos hc]at D;cases D;rw[if_neg hc]at D I;obtain⟨hk,_,hy,_,_,hr⟩:=z9c (Classical.not_not.1 hc);have hs:(o.k=1\/o.k=2\/o.k=4\/o.k=5\/o.k=6)->(o.y-1).toNat≠(a-1).toNat:=λk=>by have:=hy k;omega
 have sm:∀ {x y:MR},y=v2q a Y x->x=.ok q1->y=.ok q2->q2=q1.setY a Y:=λh1 h2 h3=>by subst h2;rw[h1]at h3;exact(Except.ok.inj h3).symm
 have yy:∀ {b:Int} {Z:Yn} {J:MSt},(b-1).toNat≠(a-1).toNat->J.ys=p.ys.set (b-1).toNat Z->(J.y a).ct=(p.y a).ct:=λhb e=>by
  unfold MSt.y;rw[e,List.getD,List.getD,List.getElem?_set_ne hb]
 have y0:∀ {J:MSt},J.ys=p.ys->(J.y a).ct=(p.y a).ct:=λe=>by unfold MSt.y;rw[e]
 have M:∀ {b pl en:Int} {J:MSt},y0h p b pl en=.ok J->J.ys=p.ys.set (b-1).toNat (goS (p.y b) pl (v2c p b en)):=λe=>by
  unfold y0h at e;split at e;cases e;cases e;rfl
 have a0:∀ {J a1:MSt} {th st:List LId},y3d J o th st=.ok a1->a1.ys=J.ys.set (o.y-1).toNat (mkS (J.y o.y)):=λe=>by
  unfold y3d at e;split at e;cases e;split at e;cases e;cases e;rfl
 unfold opM at D I;by_cases k1:o.k=1;rw[if_pos k1]at D I;refine⟨sm (j1e (hs (.inl k1))) D I,?_⟩;unfold inM at D;split at D;cases D;cases D;exact yy (hs (.inl k1)) U;rw[if_neg k1]at D I;by_cases k2:o.k=2;rw[if_pos k2]at D I;refine⟨sm (u8h (hs (.inr (.inl k2)))) D I,?_⟩;unfold x1e at D;split at D;cases D;cases D;exact yy (hs (.inr (.inl k2))) U;rw[if_neg k2]at D I;by_cases k3:o.k=3;rw[if_pos k3]at D I;obtain⟨h1,h2⟩:=x6x (hr k3) hY hi D I;exact⟨h1,h2 _⟩;rw[if_neg k3]at D I;by_cases k4:o.k=4;rw[if_pos k4]at D I;have O:=hs (.inr (.inr (.inl k4)));refine⟨sm (u0c O) D I,?_⟩;unfold z9r at D;split at D;cases D;split at D;cases D;rename_i J hp;refine yy (Z:=mkS (J.y o.y)) O ?_;rw[a0 D,M hp,List.set_set];rw[if_neg k4]at D I;by_cases k5:o.k=5;rw[if_pos k5]at D I;have O:=hs (.inr (.inr (.inr (.inl k5))));refine⟨sm (u0m O) D I,?_⟩;unfold z8v at D;split at D;cases D;split at D;cases D;rename_i J hp;split at D;cases D;refine yy (Z:=mkS (J.y o.y)) O ?_;rw[a0 D,M hp,List.set_set];rw[if_neg k5]at D I;by_cases k6:o.k=6;rw[if_pos k6]at D I;have O:=hs (.inr (.inr (.inr (.inr k6))));refine⟨sm (u1o O) D I,?_⟩;unfold y0w at D;split at D;cases D;exact yy O (M D);rw[if_neg k6]at D I;by_cases k7:o.k=7;rw[if_pos k7]at D I;unfold z9v at D I;repeat (split at D;· cases D)
 repeat (split at I;· cases I)
 cases D;cases I;exact⟨rfl,y0 U⟩;rw[if_neg k7]at D I;unfold y3c at D I;split at D;cases D;split at I;cases I;cases D;cases I;exact⟨rfl,y0 U⟩
end
theorem exc {p p1 Z q1 q2:MSt}{o x:MOp}(hi:MInv p)(D:o.k=1\/o.k=2)(hy:x.y≠o.y)(J:doM p o=.ok p1)(e2:doM p1 x=.ok Z)(f1:doM p x=.ok q1)(M:doM q1 o=.ok q2):Z=q2:=by
 have hc:∀ {s t:MSt},doM s o=.ok t->y9a o=0/\opM s o=.ok t:=λe=>by
  unfold doM at e;split at e;cases e;rename_i h;exact⟨Classical.not_not.1 h,e⟩
 obtain⟨h0,J⟩:=hc J;obtain⟨-,M⟩:=hc M;have ha:=(z9c h0).2.2.1 (by omega);have I:∀ {F:Yn->Yn},(∀ {s t:MSt},opM s o=.ok t->t=s.setY o.y (F (s.y o.y)))->(∀y,v0g (F y))->(∀y z,y.ct=z.ct->F y=F z)->Z=q2:=λhF hS O=>by
  obtain rfl:=hF J;obtain rfl:=hF M;obtain⟨h1,h2⟩:=j1w hi (hS _) ha hy f1 e2;rw[h1,O _ _ h2]
 rcases D with D|D
 refine I (F:=λy=>enS y o.d) (λe=>?_) (λy _=>⟨?_,rfl⟩) (λy z e=>by unfold enS;rw[e]);unfold opM at e;rw[if_pos D]at e;unfold inM at e;split at e;cases e;exact(Except.ok.inj e).symm;unfold enS;simp only;split<;>simp
 refine I (F:=lvS) (λe=>?_) (λy h=>by cases h) (λy z e=>by unfold lvS;rw[e]);unfold opM at e;rw[if_neg (by omega),if_pos D]at e;unfold x1e at e;split at e;cases e;exact(Except.ok.inj e).symm
end Go.G08
namespace Go.G08
open Go.Lw Go.G21
theorem x6c {p:MSt}{y D en:Int}:y0h p y D en≠.error 0:=λe=>by
 unfold y0h at e;split at e
 ·exact absurd (Except.error.inj e) (by assumption)
 cases e
theorem v5s {p:MSt}{o:MOp}{D st:List LId}:y3d p o D st≠.error 0:=λe=>by
 unfold y3d at e;split at e
 ·exact absurd (Except.error.inj e) (by assumption)
 split at e<;>cases e
theorem x2t {p:MSt}{d:Int}:∀ {l:List Yn},z3r p d l≠.error 0
 | [],e=>by cases e
 | y::l,e=>by
  unfold z3r at e
  split at e
  ·rename_i x D
   unfold z6f at D
   split at D
   ·cases D
   split at D
   ·rename_i h;cases D;exact h (Except.error.inj e)
   cases D
  split at e
  ·rename_i h;exact x2t (by rw[h,Except.error.inj e])
  cases e
theorem x8u:∀ {r l:List Cx},z5m l r≠.error 0
 | [],l,e=>by cases e
 | c::r,l,e=>by
  unfold z5m at e
  split at e
  ·rename_i x D
   have h:=Except.error.inj e
   subst h
   unfold x2f at D
   dsimp only at D
   (repeat' split at D)<;>cases D
  exact x8u e
theorem x7i {r:Int}:∀ {n:Nat} {p:MSt},z5s n p r≠.error 0
 | 0,p,e=>by cases e
 | n+1,p,e=>by
  unfold z5s at e
  split at e
  ·cases e
  split at e
  ·rename_i x D
   have h:=Except.error.inj e
   subst h
   unfold z8o at D
   split at D
   ·rename_i y I;cases D;exact x2t I
   split at D
   ·rename_i y I;cases D;exact x8u I
   cases D
  exact x7i e
theorem u4g {p:MSt}{o:MOp}:doM p o≠.error 0:=λe=>by
 have E:∀ {x:Int} {P:Prop},(Except.error x:MR)=.error 0->x≠0->P:=λh k=>absurd (Except.error.inj h) k
 unfold doM at e;split at e
 ·exact E e (by assumption)
 unfold opM at e
 split at e
 ·unfold inM at e;split at e
  ·exact E e (by assumption)
  cases e
 split at e
 ·unfold x1e at e;split at e
  ·exact E e (by assumption)
  cases e
 split at e
 ·exact x7i e
 split at e
 ·unfold z9r at e;split at e
  ·exact E e (by assumption)
  split at e
  ·rename_i h;exact x6c (by rw[h,Except.error.inj e])
  exact v5s e
 split at e
 ·unfold z8v at e;split at e
  ·exact E e (by assumption)
  split at e
  ·rename_i h;exact x6c (by rw[h,Except.error.inj e])
  split at e
  ·cases e
  exact v5s e
 split at e
 ·unfold y0w at e;split at e
  ·exact E e (by assumption)
  exact x6c e
 split at e
 ·unfold z9v at e
  repeat (split at e;· cases e)
  cases e
 unfold y3c at e;split at e<;>cases e
theorem j4j {p:MSt}{a b:MOp}(h:∀e n,z4i 0 p [a,b]=.error (e,n)->e=0):∃q r,doM p a=.ok q/\doM q b=.ok r/\z4i 0 p [a,b]=.ok r:=by
 unfold z4i at h ⊢;cases e1:doM p a with
 | error x=>rw[e1]at h;exact absurd (h _ _ U▸e1) u4g
 | ok q=>
  rw[e1]at h;simp only at h ⊢;unfold z4i at h ⊢;cases e2:doM q b with
  | error x=>rw[e2]at h;exact absurd (h _ _ U▸e2) u4g
  | ok r=>exact⟨q,r,rfl,e2,rfl⟩
end Go.G08
namespace Go.Proofs.YtpgdchkdlgkmgaaGreatDoor
open Go.Lw Go.G21 Go.G08 _root_.Go.Proofs.Tryz
theorem u9y {p:MSt}{o x:MOp}(hi:MInv p)(hk:o.k=1\/o.k=2)(hy:x.y≠o.y)(h1:u1t p [o,x]=0)(h2:u1t p [x,o]=0):∃q,z4i 0 p [o,x]=.ok q/\z4i 0 p [x,o]=.ok q:=by
 obtain⟨p1,p2,D,I,J⟩:=j4j (p:=p) (a:=o) (b:=x) λe n h=>(y9t h).1.symm.trans h1;obtain⟨q1,q2,M,O,Z⟩:=j4j (p:=p) (a:=x) (b:=o) λe n h=>(y9t h).1.symm.trans h2;obtain rfl:=exc hi hk hy D I M O;exact⟨_,J,Z⟩
theorem byt2 {y:MOp}(h:y.Bytes):(⟨y.k % 2,y.d,y.b,y.p,y.y,y.r⟩:MOp).Bytes:=by
 unfold MOp.Bytes at h ⊢;dsimp only;omega
theorem k12 {y:MOp}(h:y.Bytes):(ofO ⟨y.k % 2,y.d,y.b,y.p,y.y,y.r⟩).k=1\/(ofO ⟨y.k % 2,y.d,y.b,y.p,y.y,y.r⟩).k=2:=by
 have e:∀k x,(ofK k x).k=k:=λk x=>by unfold ofK;(repeat' split)<;>rfl
 unfold ofO;rw[e];dsimp only;omega
set_option maxHeartbeats 4000000 in
theorem x1k (v1:Value)(xs:List MOp)(y z:MOp)(w0:World)(hG:Glob w0)(a8:StT w0)(e5:Sl v8w w0 v1 xs)(i7:∀x∈xs,x.Bytes)(h2:y.Bytes)(b2:z.Bytes):Rets prog 7 #[v1,oxV y,oxV z] w0 λr w'=>r=.bool true/\Fr [] w0 w':=by
 obtain⟨A1,c1,rfl,n7,k1,k0⟩:=id e5;clear k0;unfold maxLen at k1;obtain⟨p,hp⟩:∃p,p=sOf (xs.map ofO) (min 60 xs.length):=⟨_,rfl⟩;have d6:=byt2 h2;have i8:=k12 h2;have o3:(0<=y.k/\y.k<=255):=h2.1;have m9:=hG.sz;refine we [(0,.slice A1 xs.length c1),(1,oxV y),(2,oxV z)] func7 U ntmps7 U (.c3 U U U) ?_;have g9:=hG;have b4:=a8;have j2:=e5;refine sr (bx U (λg4 w1 n8 J q1 z1=>(bx U (λg5 w2 n9 M q2 z2=>(asg U (nn (sr (mv U ?_))))))));replace e5:=j2.ext (q1.n1 q2);replace a8:=b4.ext (q1.n1 q2);refine cl (ev1 U) (mkC func18) (j3v _ xs _ e5 i7 a8) U ?_;rintro _ w3 ⟨⟨s7,rfl,b9,h0⟩,q3⟩;have z3:=q3.size;refine al x5v U (λg7 w4 o0 b8 q4 z4=>?_);refine z0j (vs:=[_,_,_,_,_,_,_,_]) U b8 y2j (λw5 b8 q5 z5=>?_) (h1:=(by first|(simp[Value.oneCell',S];done)|exact z8c.one _));replace J:=(J.ext (q2.n2 q3 q4)).fr q5;have g8:=J;refine nn (sr (fad U v1i (z0g U J U na5 (x2d U U (by first|exact IntWalk.rem_in _ _ (by omega)|rfl) (fad U v1i (z3g U J U sz5 (λw6 J q6 z6=>?_)))))));replace J:Blk w6 g4 _ [_,_,_,_,_,_]:=J;replace b9:=((b9.ext q4).fr q5 (by intro k hk _;rw[List.mem_singleton]at hk;subst hk;first|exact⟨_,_,g8,by decide⟩|exact⟨_,_,by assumption,by decide⟩)).fr q6 (by intro k hk _;rw[List.mem_singleton]at hk;subst hk;first|exact⟨_,_,g8,by decide⟩|exact⟨_,_,by assumption,by decide⟩);have g0:=b9;refine nn (sq ?_);replace M:=((M.ext (q3.n1 q4)).fr q5).fr q6;intro a h;refine z0i none (λwb w'=>Fr [] wb w') z2m ?_;intro w7 q7;have z7:=q7.size;replace J:=J.ext q7;replace M:=M.ext q7;have hC:Fr [] w7 w7:=Fr.refl _ _;have d3:=J;have d4:=M;refine y0t (ι:=Nat×Nat) h [(4,_),(5,_),(7,_)] (.c3 U U U) #[true,true,true,true,true,true,false,false] 2 (λp_=>[(8,.pointer (some ⟨p_.1,0,none⟩)),(9,.pointer (some ⟨p_.2,0,none⟩)),(23,opV (ofO ⟨y.k % 2,y.d,y.b,y.p,y.y,y.r⟩)),(25,opV (ofO z))]) (λp_ w'=>Fr [] w7 w'/\(w7.heap.size<=p_.1/\w7.heap.size<=p_.2/\p_.1≠p_.2)/\Blk w' p_.1 28 [.int .u8 0,.int .u8 0,.int .u8 0,.int .i64 0,.int .u8 0,.int .i64 0]/\Blk w' p_.2 28 [.int .u8 0,.int .u8 0,.int .u8 0,.int .i64 0,.int .u8 0,.int .i64 0]) (λa2=>?_) ?_;refine z0z 0 h U (λ_ hw=>d3.ext hw) j7j U λa h=>z0z 2 h U (λ_ hw=>d4.ext hw) j7j U λa h=>y3i 1 4 5 (by kernel_rfl) U U U ?_ ?_ ?_;refine z0k h (z0a U z0e) x0s (z8i ⟨y.k % 2,y.d,y.b,y.p,y.y,y.r⟩ _ d6) ?_;rintro _ w8 ⟨rfl,q8⟩ a h;have z8:=q8.size;replace J:=J.ext q8;replace M:=M.ext q8;replace hC:=hC.next q8;refine z0b ?_;refine y3i 3 4 5 (by kernel_rfl) U U U ?_ ?_ ?_;refine z0k h (z0a U z0e) x0s (z8i z _ b2) ?_;rintro _ w9 ⟨rfl,q9⟩ a h;have z9:=q9.size;replace J:=J.ext q9;replace M:=M.ext q9;replace hC:=hC.next q9;refine z0b ?_;refine z1t 4 5 (by kernel_rfl) U ?_ ?_;refine z0u h y1z U λk5 D e6 hz a h=>?_;obtain⟨O,hg⟩:∃g,g=w9.heap.size:=⟨_,rfl⟩;rw[<-hg]at D h hz;have a0:g4<O:=by have:=J.lt;omega
 have a0:g5<O:=by have:=M.lt;omega
 have u3:=e6.size;replace J:=J.ext e6;replace M:=M.ext e6;replace hC:=hC.next e6;refine z0b ?_;refine z0d 5 U ?_;refine z0u h y1z U λo6 I h3 hz a h=>?_;obtain⟨Z,hg⟩:∃g,g=k5.heap.size:=⟨_,rfl⟩;rw[<-hg]at I h hz;have a1:g4<Z:=by have:=J.lt;omega
 have a1:g5<Z:=by have:=M.lt;omega
 have a6:O<Z:=by have:=D.lt;omega
 have u4:=h3.size;replace D:=D.ext h3;replace hC:=hC.next h3;refine z0b ?_;exact a2 (O,Z) _ _ _ (by kernel_rfl) (h.sub (.c7 U U U U U U U)) ⟨hC,⟨by simp only;omega,by simp only;omega,by simp only;omega⟩,D,I⟩;refine z0u h y1z U λk6 I e7 hz a h=>?_;obtain⟨Z,hg⟩:∃g,g=w9.heap.size:=⟨_,rfl⟩;rw[<-hg]at I h hz;have a1:g4<Z:=by have:=J.lt;omega
 have a1:g5<Z:=by have:=M.lt;omega
 have u5:=e7.size;replace J:=J.ext e7;replace M:=M.ext e7;replace hC:=hC.next e7;refine z0b ?_;refine z0d 4 U ?_;refine z0u h y1z U λo7 D h4 hz a h=>?_;obtain⟨O,hg⟩:∃g,g=k6.heap.size:=⟨_,rfl⟩;rw[<-hg]at D h hz;have a0:g4<O:=by have:=J.lt;omega
 have a0:g5<O:=by have:=M.lt;omega
 have a7:Z<O:=by have:=I.lt;omega
 have u6:=h4.size;replace I:=I.ext h4;replace hC:=hC.next h4;refine z0b ?_;exact a2 (O,Z) _ _ _ (by kernel_rfl) (h.sub (.c7 U U U U U U U)) ⟨hC,⟨by simp only;omega,by simp only;omega,by simp only;omega⟩,D,I⟩;refine z0u h y1z U λk7 D e8 hz a h=>?_;obtain⟨O,hg⟩:∃g,g=w8.heap.size:=⟨_,rfl⟩;rw[<-hg]at D h hz;have a0:g4<O:=by have:=J.lt;omega
 have a0:g5<O:=by have:=M.lt;omega
 have u7:=e8.size;replace J:=J.ext e8;replace M:=M.ext e8;replace hC:=hC.next e8;refine z0b ?_;refine z1t 3 5 (by kernel_rfl) U ?_ ?_;refine z0k h (z0a U z0e) x0s (z8i z _ b2) ?_;rintro _ k8 ⟨rfl,d7⟩ a h;have u9:=d7.size;replace J:=J.ext d7;replace M:=M.ext d7;replace D:=D.ext d7;replace hC:=hC.next d7;refine z0b ?_;refine z0d 5 U ?_;refine z0u h y1z U λo8 I h5 hz a h=>?_;obtain⟨Z,hg⟩:∃g,g=k8.heap.size:=⟨_,rfl⟩;rw[<-hg]at I h hz;have a1:g4<Z:=by have:=J.lt;omega
 have a1:g5<Z:=by have:=M.lt;omega
 have a6:O<Z:=by have:=D.lt;omega
 have v8:=h5.size;replace D:=D.ext h5;replace hC:=hC.next h5;refine z0b ?_;exact a2 (O,Z) _ _ _ (by kernel_rfl) (h.sub (.c7 U U U U U U U)) ⟨hC,⟨by simp only;omega,by simp only;omega,by simp only;omega⟩,D,I⟩;refine z0u h y1z U λo9 I h6 hz a h=>?_;obtain⟨Z,hg⟩:∃g,g=k7.heap.size:=⟨_,rfl⟩;rw[<-hg]at I h hz;have a1:g4<Z:=by have:=J.lt;omega
 have a1:g5<Z:=by have:=M.lt;omega
 have a6:O<Z:=by have:=D.lt;omega
 have v9:=h6.size;replace hC:=hC.next h6;refine z0b ?_;refine z0d 3 U ?_;refine z0k h (z0a U z0e) x0s (z8i z _ b2) ?_;rintro _ p0 ⟨rfl,e9⟩ a h;have x0:=e9.size;replace D:=D.ext (h6.n1 e9);replace I:=I.ext e9;replace hC:=hC.next e9;refine z0b ?_;exact a2 (O,Z) _ _ _ (by kernel_rfl) (h.sub (.c7 U U U U U U U)) ⟨hC,⟨by simp only;omega,by simp only;omega,by simp only;omega⟩,D,I⟩;refine z0u h y1z U λk9 I f0 hz a h=>?_;obtain⟨Z,hg⟩:∃g,g=w8.heap.size:=⟨_,rfl⟩;rw[<-hg]at I h hz;have a1:g4<Z:=by have:=J.lt;omega
 have a1:g5<Z:=by have:=M.lt;omega
 have x1:=f0.size;replace J:=J.ext f0;replace M:=M.ext f0;replace hC:=hC.next f0;refine z0b ?_;refine z1t 3 4 (by kernel_rfl) U ?_ ?_;refine z0k h (z0a U z0e) x0s (z8i z _ b2) ?_;rintro _ l0 ⟨rfl,d9⟩ a h;have x2:=d9.size;replace J:=J.ext d9;replace M:=M.ext d9;replace I:=I.ext d9;replace hC:=hC.next d9;refine z0b ?_;refine z0d 4 U ?_;refine z0u h y1z U λp1 D h7 hz a h=>?_;obtain⟨O,hg⟩:∃g,g=l0.heap.size:=⟨_,rfl⟩;rw[<-hg]at D h hz;have a0:g4<O:=by have:=J.lt;omega
 have a0:g5<O:=by have:=M.lt;omega
 have a7:Z<O:=by have:=I.lt;omega
 have x3:=h7.size;replace I:=I.ext h7;replace hC:=hC.next h7;refine z0b ?_;exact a2 (O,Z) _ _ _ (by kernel_rfl) (h.sub (.c7 U U U U U U U)) ⟨hC,⟨by simp only;omega,by simp only;omega,by simp only;omega⟩,D,I⟩;refine z0u h y1z U λp2 D h8 hz a h=>?_;obtain⟨O,hg⟩:∃g,g=k9.heap.size:=⟨_,rfl⟩;rw[<-hg]at D h hz;have a0:g4<O:=by have:=J.lt;omega
 have a0:g5<O:=by have:=M.lt;omega
 have a7:Z<O:=by have:=I.lt;omega
 have x4:=h8.size;replace hC:=hC.next h8;refine z0b ?_;refine z0d 3 U ?_;refine z0k h (z0a U z0e) x0s (z8i z _ b2) ?_;rintro _ p3 ⟨rfl,f1⟩ a h;have x5:=f1.size;replace I:=I.ext (h8.n1 f1);replace D:=D.ext f1;replace hC:=hC.next f1;refine z0b ?_;exact a2 (O,Z) _ _ _ (by kernel_rfl) (h.sub (.c7 U U U U U U U)) ⟨hC,⟨by simp only;omega,by simp only;omega,by simp only;omega⟩,D,I⟩;refine z0u h y1z U λl1 D f2 hz a h=>?_;obtain⟨O,hg⟩:∃g,g=w7.heap.size:=⟨_,rfl⟩;rw[<-hg]at D h hz;have a0:g4<O:=by have:=J.lt;omega
 have a0:g5<O:=by have:=M.lt;omega
 have x6:=f2.size;replace J:=J.ext f2;replace M:=M.ext f2;replace hC:=hC.next f2;refine z0b ?_;refine z1t 1 5 (by kernel_rfl) U ?_ ?_;refine z0k h (z0a U z0e) x0s (z8i ⟨y.k % 2,y.d,y.b,y.p,y.y,y.r⟩ _ d6) ?_;rintro _ l2 ⟨rfl,e0⟩ a h;have x7:=e0.size;replace J:=J.ext e0;replace M:=M.ext e0;replace D:=D.ext e0;replace hC:=hC.next e0;refine z0b ?_;refine z1t 3 5 (by kernel_rfl) U ?_ ?_;refine z0k h (z0a U z0e) x0s (z8i z _ b2) ?_;rintro _ l3 ⟨rfl,e1⟩ a h;have x8:=e1.size;replace J:=J.ext e1;replace M:=M.ext e1;replace D:=D.ext e1;replace hC:=hC.next e1;refine z0b ?_;refine z0d 5 U ?_;refine z0u h y1z U λp4 I h9 hz a h=>?_;obtain⟨Z,hg⟩:∃g,g=l3.heap.size:=⟨_,rfl⟩;rw[<-hg]at I h hz;have a1:g4<Z:=by have:=J.lt;omega
 have a1:g5<Z:=by have:=M.lt;omega
 have a6:O<Z:=by have:=D.lt;omega
 have x9:=h9.size;replace D:=D.ext h9;replace hC:=hC.next h9;refine z0b ?_;exact a2 (O,Z) _ _ _ (by kernel_rfl) (h.sub (.c7 U U U U U U U)) ⟨hC,⟨by simp only;omega,by simp only;omega,by simp only;omega⟩,D,I⟩;refine z0u h y1z U λp5 I i0 hz a h=>?_;obtain⟨Z,hg⟩:∃g,g=l2.heap.size:=⟨_,rfl⟩;rw[<-hg]at I h hz;have a1:g4<Z:=by have:=J.lt;omega
 have a1:g5<Z:=by have:=M.lt;omega
 have a6:O<Z:=by have:=D.lt;omega
 have y0:=i0.size;replace hC:=hC.next i0;refine z0b ?_;refine z0d 3 U ?_;refine z0k h (z0a U z0e) x0s (z8i z _ b2) ?_;rintro _ p6 ⟨rfl,f3⟩ a h;have y1:=f3.size;replace D:=D.ext (i0.n1 f3);replace I:=I.ext f3;replace hC:=hC.next f3;refine z0b ?_;exact a2 (O,Z) _ _ _ (by kernel_rfl) (h.sub (.c7 U U U U U U U)) ⟨hC,⟨by simp only;omega,by simp only;omega,by simp only;omega⟩,D,I⟩;refine z0u h y1z U λp7 I i1 hz a h=>?_;obtain⟨Z,hg⟩:∃g,g=l1.heap.size:=⟨_,rfl⟩;rw[<-hg]at I h hz;have a1:g4<Z:=by have:=J.lt;omega
 have a1:g5<Z:=by have:=M.lt;omega
 have a6:O<Z:=by have:=D.lt;omega
 have y2:=i1.size;replace hC:=hC.next i1;refine z0b ?_;refine z0d 1 U ?_;refine z0k h (z0a U z0e) x0s (z8i ⟨y.k % 2,y.d,y.b,y.p,y.y,y.r⟩ _ d6) ?_;rintro _ p8 ⟨rfl,f4⟩ a h;have y3:=f4.size;replace hC:=hC.next f4;refine z0b ?_;refine z0d 3 U ?_;refine z0k h (z0a U z0e) x0s (z8i z _ b2) ?_;rintro _ p9 ⟨rfl,f5⟩ a h;have y4:=f5.size;replace D:=D.ext (i1.n2 f4 f5);replace I:=I.ext (f4.n1 f5);replace hC:=hC.next f5;refine z0b ?_;exact a2 (O,Z) _ _ _ (by kernel_rfl) (h.sub (.c7 U U U U U U U)) ⟨hC,⟨by simp only;omega,by simp only;omega,by simp only;omega⟩,D,I⟩;refine z0u h y1z U λl4 I f6 hz a h=>?_;obtain⟨Z,hg⟩:∃g,g=w7.heap.size:=⟨_,rfl⟩;rw[<-hg]at I h hz;have a1:g4<Z:=by have:=J.lt;omega
 have a1:g5<Z:=by have:=M.lt;omega
 have y5:=f6.size;replace J:=J.ext f6;replace M:=M.ext f6;replace hC:=hC.next f6;refine z0b ?_;refine z1t 1 4 (by kernel_rfl) U ?_ ?_;refine z0k h (z0a U z0e) x0s (z8i ⟨y.k % 2,y.d,y.b,y.p,y.y,y.r⟩ _ d6) ?_;rintro _ l5 ⟨rfl,e2⟩ a h;have y6:=e2.size;replace J:=J.ext e2;replace M:=M.ext e2;replace I:=I.ext e2;replace hC:=hC.next e2;refine z0b ?_;refine z1t 3 4 (by kernel_rfl) U ?_ ?_;refine z0k h (z0a U z0e) x0s (z8i z _ b2) ?_;rintro _ l6 ⟨rfl,e3⟩ a h;have y7:=e3.size;replace J:=J.ext e3;replace M:=M.ext e3;replace I:=I.ext e3;replace hC:=hC.next e3;refine z0b ?_;refine z0d 4 U ?_;refine z0u h y1z U λq0 D i2 hz a h=>?_;obtain⟨O,hg⟩:∃g,g=l6.heap.size:=⟨_,rfl⟩;rw[<-hg]at D h hz;have a0:g4<O:=by have:=J.lt;omega
 have a0:g5<O:=by have:=M.lt;omega
 have a7:Z<O:=by have:=I.lt;omega
 have y8:=i2.size;replace I:=I.ext i2;replace hC:=hC.next i2;refine z0b ?_;exact a2 (O,Z) _ _ _ (by kernel_rfl) (h.sub (.c7 U U U U U U U)) ⟨hC,⟨by simp only;omega,by simp only;omega,by simp only;omega⟩,D,I⟩;refine z0u h y1z U λr4 D i3 hz a h=>?_;obtain⟨O,hg⟩:∃g,g=l5.heap.size:=⟨_,rfl⟩;rw[<-hg]at D h hz;have a0:g4<O:=by have:=J.lt;omega
 have a0:g5<O:=by have:=M.lt;omega
 have a7:Z<O:=by have:=I.lt;omega
 have y9:=i3.size;replace hC:=hC.next i3;refine z0b ?_;refine z0d 3 U ?_;refine z0k h (z0a U z0e) x0s (z8i z _ b2) ?_;rintro _ r5 ⟨rfl,f7⟩ a h;have z0:=f7.size;replace I:=I.ext (i3.n1 f7);replace D:=D.ext f7;replace hC:=hC.next f7;refine z0b ?_;exact a2 (O,Z) _ _ _ (by kernel_rfl) (h.sub (.c7 U U U U U U U)) ⟨hC,⟨by simp only;omega,by simp only;omega,by simp only;omega⟩,D,I⟩;refine z0u h y1z U λr6 D i4 hz a h=>?_;obtain⟨O,hg⟩:∃g,g=l4.heap.size:=⟨_,rfl⟩;rw[<-hg]at D h hz;have a0:g4<O:=by have:=J.lt;omega
 have a0:g5<O:=by have:=M.lt;omega
 have a7:Z<O:=by have:=I.lt;omega
 have A0:=i4.size;replace hC:=hC.next i4;refine z0b ?_;refine z0d 1 U ?_;refine z0k h (z0a U z0e) x0s (z8i ⟨y.k % 2,y.d,y.b,y.p,y.y,y.r⟩ _ d6) ?_;rintro _ r7 ⟨rfl,f8⟩ a h;have A2:=f8.size;replace hC:=hC.next f8;refine z0b ?_;refine z0d 3 U ?_;refine z0k h (z0a U z0e) x0s (z8i z _ b2) ?_;rintro _ r8 ⟨rfl,f9⟩ a h;have A3:=f9.size;replace I:=I.ext (i4.n2 f8 f9);replace D:=D.ext (f8.n1 f9);replace hC:=hC.next f9;refine z0b ?_;exact a2 (O,Z) _ _ _ (by kernel_rfl) (h.sub (.c7 U U U U U U U)) ⟨hC,⟨by simp only;omega,by simp only;omega,by simp only;omega⟩,D,I⟩;rintro⟨O,Z⟩ a r9 ⟨hC,⟨k3,k4,j3⟩,D,I⟩ h;simp only at k3 k4 j3 D I;have a5:=hC;have A4:=a5.size;replace J:=J.ext a5;replace M:=M.ext a5;have o1:=D.lt;have o2:=I.lt;refine z0d 6 U ?_;refine z0t h U D U v4h ?_ (h1:=(by first|(simp[Value.oneCell',S];done)|exact z8c.one _));clear h a;intro l7 d5 a3 hz a h;have A5:=a3.size;replace J:=J.fr a3;replace M:=M.fr a3;replace I:=I.fr a3;replace hC:=hC.sp a3;clear D hz;have D:Blk l7 O _ [_,_,_,_,_,_]:=d5;clear d5;refine z0b ?_;refine z0d 7 U ?_;refine z0t h U I U v4h ?_ (h1:=(by first|(simp[Value.oneCell',S];done)|exact z8c.one _));clear h a;intro l8 d5 a4 hz a h;have A6:=a4.size;replace J:=J.fr a4;replace M:=M.fr a4;replace D:=D.fr a4;replace hC:=hC.sp a4;clear I hz;have I:Blk l8 Z _ [_,_,_,_,_,_]:=d5;clear d5;refine z0b ?_;refine z0q ?_;clear hC d3 d4;refine bk (h.sub (L':=[(7,_),(8,_),(9,_)]) (.c3 U U U)) (tn (sq (sr (fad U z2v (z0g U D U na5 (fad U z2v (z0g U I U na5 (eq' U (nn (cd U (λc0=>?_) (λc0=>?_)))))))))));refine sr ?_;replace hG:=g9.ext ((((q1.z6 q2 q3 q4 q5 q6 q7).n1 a5).z1 a3).z1 a4);replace a8:=b4.ext ((((q1.z6 q2 q3 q4 q5 q6 q7).n1 a5).z1 a3).z1 a4);refine cl z0e (mkC func11) (y8s _ hG a8) U ?_;rintro _ s1 ⟨rfl,j4⟩;have A7:=j4.size;refine asg U (nn (rt (tr (r1 results7 U ?_))));exact⟨_,rfl,rfl,((((q1.z6 q2 q3 q4 q5 q6 q7).n1 a5).z1 a3).z2 a4 j4)⟩;refine sk (tn (sr ?_));replace b8:=(((b8.fr q6).ext (q7.n1 a5)).fr a3).fr a4;refine z0m U b8 y1r (z0m U D y2x (z0m U I y2x (z2h ([ofO ⟨y.k % 2,y.d,y.b,y.p,y.y,y.r⟩,ofO z]) (ev2 U) U u8k (λm7 s2 m1 i9 a9 A8=>?_))));replace b9:=g0.ext (q7.z4 a5 a3 a4 a9);replace a8:=b4.ext ((((q1.z6 q2 q3 q4 q5 q6 q7).n1 a5).z1 a3).z2 a4 a9);refine cl (ev2 U) co9 (v2i _ [ofO ⟨y.k % 2,y.d,y.b,y.p,y.y,y.r⟩,ofO z] _ b9.at (hp▸h0) (by first|omega|(simp only[List.length_cons,List.length_nil];omega)) i9.sl a8) U ?_;rintro _ s3 ⟨⟨o4,rfl,g1,g6,m3⟩,q47⟩;have A9:=q47.size;have c9:=g1.k;clear g1;refine mv U (xt U (xt U (xt U (al x5v U (λm5 s4 l9 b7 b0 B0=>?_)))));refine z0j (vs:=[_,_,_,_,_,_,_,_]) U b7 y2j (λs5 b7 b1 B1=>?_) (h1:=(by first|(simp[Value.oneCell',S];done)|exact z8c.one _));refine asg U (asg U (kpL [(7,_),(8,_),(9,_),(10,_),(12,_)] (.c5 U U U U U) (nn (sr ?_))));replace b8:=(b8.ext (a9.n2 q47 b0)).fr b1;refine z0m U b8 y1r ?_;replace I:=(I.ext (a9.n2 q47 b0)).fr b1;refine z0m U I y2x ?_;replace D:=(D.ext (a9.n2 q47 b0)).fr b1;refine z0m U D y2x (z2h ([ofO z,ofO ⟨y.k % 2,y.d,y.b,y.p,y.y,y.r⟩]) (ev2 U) U u8k (λm8 s6 m2 j0 b3 B2=>?_));replace b9:=g0.ext (((q7.z6 a5 a3 a4 a9 q47 b0).z1 b1).n1 b3);replace a8:=b4.ext ((((q1.z6 q2 q3 q4 q5 q6 q7).n1 a5).z1 a3).z6 a4 a9 q47 b0 b1 b3);refine cl (ev2 U) co9 (v2i _ [ofO z,ofO ⟨y.k % 2,y.d,y.b,y.p,y.y,y.r⟩] _ b9.at (hp▸h0) (by first|omega|(simp only[List.length_cons,List.length_nil];omega)) j0.sl a8) U ?_;rintro _ s8 ⟨⟨o5,rfl,g3,i5,m4⟩,q51⟩;have B3:=q51.size;have d0:=g3.k;clear g3;refine mv U (xt U (xt U (xt U (al x5v U (λm6 s9 m0 d1 b5 B4=>?_)))));refine z0j (vs:=[_,_,_,_,_,_,_,_]) U d1 y2j (λt8 d1 b6 B5=>?_) (h1:=(by first|(simp[Value.oneCell',S];done)|exact z8c.one _));refine asg U (asg U (kpL [(10,_),(12,_),(13,_),(15,_)] (.c4 U U U U) (nn (sq (sq ?_)))));refine rbo (r:=55) (L':=[(10,_),(13,_)]) ((((u1t (nrm p) [ofO ⟨y.k % 2,y.d,y.b,y.p,y.y,y.r⟩,ofO z])≠0)\/((u1t (nrm p) [ofO z,ofO ⟨y.k % 2,y.d,y.b,y.p,y.y,y.r⟩])≠0))) (.c2 U U) ?_ ?_;refine mv U (ne' U (mv U (gs 52 U (λj8=>?_) (λj8=>?_))));exact gN U (gN U (pkt U (rbe U (.c2 U U))));exact gY U (mv U (gY U (ne' U (pkf U (rbe U (.c2 U U))))));refine tn (cd U (λc1=>?_) (λc1=>?_));refine sr ?_;replace hG:=g9.ext (((((((q1.z6 q2 q3 q4 q5 q6 q7).n1 a5).z1 a3).z6 a4 a9 q47 b0 b1 b3).next q51).next b5).sp b6);replace a8:=b4.ext (((((((q1.z6 q2 q3 q4 q5 q6 q7).n1 a5).z1 a3).z6 a4 a9 q47 b0 b1 b3).next q51).next b5).sp b6);refine cl z0e (mkC func11) (y8s _ hG a8) U ?_;rintro _ t9 ⟨rfl,j5⟩;have B6:=j5.size;refine asg U (nn (rt (tr (r1 results7 U ?_))));exact⟨_,rfl,rfl,((((((((q1.z6 q2 q3 q4 q5 q6 q7).n1 a5).z1 a3).z6 a4 a9 q47 b0 b1 b3).next q51).next b5).sp b6).next j5)⟩;obtain⟨q,j1,k2⟩:=u9y (z6w (hp▸h0:StP s7 p 60).v).inv i8 (λe=>c0 e.symm) (Classical.not_not.1 λe=>c1 (.inl e)) (Classical.not_not.1 λe=>c1 (.inr e));refine sk (tn (sq ?_));refine x0o (r:=6) (L':=[]) ((True\/False)) .nil ?_ ?_;replace b7:=(b7.ext (b3.n2 q51 b5)).fr b6;refine z0m U b7 y1r (z0m U d1 y1r ?_);replace c9:=(((c9.ext b0).fr b1 (by intro k hk _;rw[List.mem_singleton]at hk;subst hk;exact⟨_,_,by assumption,by decide⟩)).ext (b3.n2 q51 b5)).fr b6 (by intro k hk _;rw[List.mem_singleton]at hk;subst hk;exact⟨_,_,by assumption,by decide⟩);replace d0:=(d0.ext b5).fr b6 (by intro k hk _;rw[List.mem_singleton]at hk;subst hk;exact⟨_,_,by assumption,by decide⟩);refine cl (ev2 U) (mkC func20) (u4x _ c9.at d0.at (g6 _ j1) (i5 _ k2) (Eqv.refl (g6 _ j1).v.cr.nd) (by simp) (by simp)) U ?_;rintro _ u0 ⟨rfl,e4⟩;have B7:=e4.size;refine mv U (gs 60 U (λj9=>?_) (λj9=>?_));refine gY U ?_;replace hG:=g9.ext ((((((((q1.z6 q2 q3 q4 q5 q6 q7).n1 a5).z1 a3).z6 a4 a9 q47 b0 b1 b3).next q51).next b5).sp b6).next e4);replace a8:=b4.ext ((((((((q1.z6 q2 q3 q4 q5 q6 q7).n1 a5).z1 a3).z6 a4 a9 q47 b0 b1 b3).next q51).next b5).sp b6).next e4);refine cl z0e (mkC func11) (y8s _ hG a8) U ?_;rintro _ u1 ⟨rfl,j6⟩;have B8:=j6.size;exact pkt U (asg U (z7s U .nil (e4.n1 j6)));exact gN U (pkf U (asg U (z7s U .nil e4)));intro u2 j7;have B9:=j7.size;refine tn (rt (r1 results7 U ?_));exact⟨_,rfl,rfl,((((((((q1.z6 q2 q3 q4 q5 q6 q7).n1 a5).z1 a3).z6 a4 a9 q47 b0 b1 b3).next q51).next b5).sp b6).next j7)⟩
end Go.Proofs.YtpgdchkdlgkmgaaGreatDoor
