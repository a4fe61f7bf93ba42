/- Texts of the proof, joined. -/
import Derived.Test.YtpgdchkdlgkmgaaGreatDoorRows
import Derived.Shelf.Strings.Builder1
import Derived.Shelf.Strings.Builder2
import Derived.Shelf.Strings.OnBuilder
import Derived.Shelf.Strings.Trim
import Derived.Shelf.Small.Utf8
import Derived.Shelf.Small.Bits
import Derived.Shelf.Small.Strs
import Derived.Shelf.Strconv.Atoi
import Derived.Shelf.Strconv.Itoa0
import Derived.Shelf.Strconv.Itoa1
import Derived.Shelf.LaysM
import Derived.Shelf.Strconv.Itoa2
import Derived.Shelf.Strconv.Itoa3
import Derived.Shelf.Strconv.AtoiErrFast
import Derived.Shelf.Strconv.ParseIntEmpty
import Derived.Shelf.Strconv.AtoiFail
import Derived.Shelf.Strconv.Clone
import Derived.Shelf.Strconv.SyntaxError
import Derived.Shelf.LaysC
import Derived.Shelf.Strconv.ToError
import Derived.Shelf.Strconv.AtoiErr
import Derived.Shelf.Strconv.ErrVar
import Derived.Shelf.Strconv.Lower
import Derived.Shelf.Strconv.ParseUint10
import Derived.Shelf.Strconv.ParseUint10Empty
import Derived.Shelf.Strconv.ParseUint10Any
import Derived.Shelf.Strconv.ParseInt10
import Derived.Shelf.Strconv.AtoiLong
import Derived.Shelf.Strconv.AtoiInnerAll
import Derived.Shelf.Strconv.RangeError
import Derived.Shelf.Strconv.ToErrorRange
import Derived.Shelf.Strconv.AtoiAll
import Derived.Shelf.Strconv.ErrVarAll
import Derived.Shelf.Strings.Search1
import Derived.Shelf.Strings.Search2
import Derived.Shelf.Strings.Search3
import Derived.Shelf.Strings.Cut
import Derived.Shelf.Strings.Count
import Derived.Shelf.Strings.Shaped
import Derived.Shelf.Strings.Split
import Derived.Shelf.Strings.SplitShaped
import Derived.Shelf.Strings.Runes
import Derived.Shelf.Strings.AsciiSet
import Derived.Shelf.Unicode.DecodeSlow
import Derived.Test.YtpgdchkdlgkmgaaGreatDoorProg
import Derived.Lib.LaidTab
import Derived.LaidSub
import Derived.Test.YtpgdchkdlgkmgaaGreatDoorCards
import Derived.Test.YtpgdchkdlgkmgaaGreatDoorTie
import Derived.ChangeMaps5
import Derived.Test.YtpgdchkdlgkmgaaGreatDoorJS5
set_option linter.unusedVariables false
set_option linter.unusedSimpArgs false
namespace Go.Proofs.YtpgdchkdlgkmgaaGreatDoor
open Go.Lw Go.G21 Go.G08 _root_.Go.Proofs.Tryz
theorem u1d:ElemOf prog 29 28 z5r 40:=ElemOf.mk' (z:=(.agg #[.int .u8 0,.int .u8 0,.int .u8 0,.int .i64 0,.int .u8 0,.int .i64 0])) underlying29 (by kernel_rfl) rfl
theorem u1k:z1p prog 28 6:=λ_=>by kernel_rfl
theorem u1j (w:World):(zeroValue 28).run prog w=.ok (.agg #[(.int .u8 0),(.int .u8 0),(.int .u8 0),(.int .i64 0),(.int .u8 0),(.int .i64 0)]) w:=by kernel_rfl
theorem y8z {D p q:MSt}{o:MOp}:∀ {l:List MOp} {i:Nat},z4c i D l=.ok p->doM p o=.ok q->z4c i D (l++[o])=.ok q
 | [],i,h,h2=>by cases h;show z4c i D [o]=_;unfold z4c;rw[h2];rfl
 | x::l,i,h,h2=>by
  unfold z4c at h
  show z4c i D (x::(l++[o]))=_
  unfold z4c
  split at h
  ·cases h
  rename_i J I
  exact y8z h h2
theorem x4w {D p:MSt}{e:Int}{o:MOp}:∀ {l r:List MOp} {i:Nat},z4c i D l=.ok p->doM p o=.error e->z4c i D (l++o::r)=.error (e,i+l.length)
 | [],r,i,h,h2=>by cases h;show z4c i D (o::r)=_;unfold z4c;rw[h2];rfl
 | x::l,r,i,h,h2=>by
  unfold z4c at h
  show z4c i D (x::(l++o::r))=_
  unfold z4c
  split at h
  ·cases h
  rename_i J I
  have:=x4w (r:=r) h h2
  simp only[this,List.length_cons]
  congr 2;omega
set_option maxHeartbeats 2000000 in
theorem v4r (s:StQ)(v:Value)(l:List MOp)(p0:MSt)(w0:World)(hS:StAt w0 s)(d1:StSz s)(d5:(s.fb.cs.map cxK).Nodup)(b2:p0=(⟨s.rk,⟨trimB (plB s.q.fs),trimB (plB s.q.bs)⟩,s.ys.map YQ.p,z2a s.fb.ts,s.fb.cs,s.fb.fs⟩:MSt))(d6:MInv p0)(hv:Sl z5r w0 v l)(d3:StT w0)(f7:l.length<=4096)(b0:∀w,StAt w s->Rets prog 16 #[.agg #[.int .i64 s.rk,.slice s.q.f.1 s.q.f.2.1 s.q.f.2.2,.slice s.q.b.1 s.q.b.2.1 s.q.b.2.2,.slice s.yv.1 s.yv.2.1 s.yv.2.2,.slice s.fb.t.1 s.fb.t.2.1 s.fb.t.2.2,.slice s.fb.c.1 s.fb.c.2.1 s.fb.c.2.2,.slice s.fb.h.1 s.fb.h.2.1 s.fb.h.2.2,.slice s.fb.f.1 s.fb.f.2.1 s.fb.f.2.2]] w λr w'=>r=.int .i64 0/\Fr [] w w')(d4:∀p,z4c 0 p0 l=.ok p->p.cr.length<=100000000):Rets prog 9 #[.agg #[.int .i64 s.rk,.slice s.q.f.1 s.q.f.2.1 s.q.f.2.2,.slice s.q.b.1 s.q.b.2.1 s.q.b.2.2,.slice s.yv.1 s.yv.2.1 s.yv.2.2,.slice s.fb.t.1 s.fb.t.2.1 s.fb.t.2.2,.slice s.fb.c.1 s.fb.c.2.1 s.fb.c.2.2,.slice s.fb.h.1 s.fb.h.2.1 s.fb.h.2.2,.slice s.fb.f.1 s.fb.f.2.1 s.fb.f.2.2],v] w0 λr w'=>(match z4c 0 p0 l with|.error (e,n)=>r=.tuple #[.agg #[.int .i64 0,.slice none 0 0,.slice none 0 0,.slice none 0 0,.slice none 0 0,.slice none 0 0,.slice none 0 0,.slice none 0 0],.int .i64 (n:Int),.int .i64 e]|.ok p=>∃s':StQ,r=.tuple #[.agg #[.int .i64 s'.rk,.slice s'.q.f.1 s'.q.f.2.1 s'.q.f.2.2,.slice s'.q.b.1 s'.q.b.2.1 s'.q.b.2.2,.slice s'.yv.1 s'.yv.2.1 s'.yv.2.2,.slice s'.fb.t.1 s'.fb.t.2.1 s'.fb.t.2.2,.slice s'.fb.c.1 s'.fb.c.2.1 s'.fb.c.2.2,.slice s'.fb.h.1 s'.fb.h.2.1 s'.fb.h.2.2,.slice s'.fb.f.1 s'.fb.f.2.1 s'.fb.f.2.2],.int .i64 (l.length:Int),.int .i64 0]/\StO τd 109 w0.heap.size w' s'/\s'.p=stM p)/\Fr [] w0 w':=by
 obtain⟨A,c,rfl,f2,c9,hA⟩:=id hv;clear hA;unfold maxLen at c9;refine we [(0,.agg #[.int .i64 s.rk,.slice s.q.f.1 s.q.f.2.1 s.q.f.2.2,.slice s.q.b.1 s.q.b.2.1 s.q.b.2.2,.slice s.yv.1 s.yv.2.1 s.yv.2.2,.slice s.fb.t.1 s.fb.t.2.1 s.fb.t.2.2,.slice s.fb.c.1 s.fb.c.2.1 s.fb.c.2.2,.slice s.fb.h.1 s.fb.h.2.1 s.fb.h.2.2,.slice s.fb.f.1 s.fb.f.2.1 s.fb.f.2.2]),(1,.slice A l.length c)] func9 rfl ntmps9 rfl (.c2 rfl rfl) ?_;have a7:=hS;have e2:=hv;refine sr (bx rfl rfl rfl (λg2 w1 f3 I q1 z1=>(al y8v rfl rfl (λg4 w2 f4 D q2 z2=>(asg rfl (asg rfl (nn (sq (sr (mv rfl (lnS rfl underlying29 (gt' rfl rfl (nn (cd rfl (λc0=>?_) (λc0=>?_)))))))))))))));refine sr (z1v (cs:=[_,_,_,_,_,_,_,_]) z0f v6a z0s rfl ?_);refine z0j (vs:=[_,_,_,_,_,_,_,_]) rfl rfl D z9w (λw3 D q3 z3=>(asg rfl (asg rfl (nn (rt (tr (j5r results9 rfl D z8k rfl rfl ?_)))))));exfalso;omega;refine sk (tn (sq (sr ?_)));replace I:=I.ext q2;refine z0k rfl I z8k ?_;replace hS:=a7.ext (q1.n1 q2);refine cl (ev1 rfl) (mkC func16) (b0 _ hS) rfl ?_;rintro _ w4 ⟨rfl,Z⟩;have z4:=Z.size;refine asg rfl (nn (sr (mv rfl (ne' rfl rfl (nn (cd rfl (λc1=>?_) (λc1=>?_)))))));refine sr (z1v (cs:=[_,_,_,_,_,_,_,_]) z0f v6a z0s rfl ?_);refine mv rfl ?_;replace D:=D.ext Z;refine z0j (vs:=[_,_,_,_,_,_,_,_]) rfl rfl D z9w (λw5 D q5 z5=>(asg rfl (asg rfl (kpL [(4,_),(5,_),(6,_)] (.c3 rfl rfl rfl) (nn (rt (tr (j5r results9 rfl D z8k rfl rfl ?_))))))));exact absurd rfl (by assumption);refine sk (tn (sr ?_));replace I:=I.ext Z;refine z0k rfl I z8k ?_;replace hS:=a7.ext (q1.n2 q2 Z);replace D:=D.ext Z;refine cl (z0a rfl z0f) (mkC func25) (v5h s _ hS d1 d5) rfl ?_;rintro _ w6 ⟨ka,m,rfl,J,b1⟩;have q6:=J.fr.fr;have z6:=q6.size;have a0:=D;have e9:=J.c.lt;have a1:=J;refine cl z0f (mkC func26) (v6p _) rfl ?_;rintro _ w7 ⟨⟨gl,rfl,f5,hl⟩,q7⟩;have z7:=q7.size;refine asg rfl (asg rfl (kpL [(1,_),(4,_),(8,_),(9,_)] (.c4 rfl rfl rfl rfl) (nn (sq (sr (mv rfl (lnS rfl underlying29 (mv rfl (nn (bl ?_))))))))));replace J:=a1.ext q7;refine lpK (ι:=Nat) [(1,_),(4,_),(8,_),(9,_),(26,_),(27,_)] (λi=>[(28,.int .i64 (i:Int))]) (λi w'=>Fr [] w4 w'/\i<=l.length/\∃m:MQ,MkM τd 137 w4 ka w' m/\z4c 0 p0 (l.take i)=.ok m.p/\MInv m.p/\MapF kV w' gl j2o) (λi=>l.length-i) 0 (.c7 rfl rfl rfl rfl rfl rfl rfl) ⟨(q6.n1 q7),⟨Nat.zero_le _,m,J,by rw[b1,<-b2];rfl,by rw[b1,<-b2];exact d6,hl⟩⟩ ?_;rintro i w8 ⟨q8,⟨f6,m,J,O,a2,hl⟩⟩;have z8:=q8.size;have a1:=J;refine kpC [(1,_),(4,_),(8,_),(9,_),(26,_),(27,_),(28,_)] (.c7 rfl rfl rfl rfl rfl rfl rfl) ?_;have f0:gl<w8.heap.size:=by obtain⟨_,_,_,b6,_⟩:=hl;exact(Array.getElem?_eq_some_iff.1 b6).1
 refine sr (lt' rfl rfl (nn (sq (cd rfl (λc2=>?_) (λc2=>?_)))));have a4:i<l.length:=by omega
 refine sk (tn (sq (bl (sr (mv rfl ?_)))));replace hv:=e2.ext (q1.n3 q2 Z q8);refine z1a (op0) rfl hv rfl u1d z1d (λe7 a9=>?_);refine z1i rfl (a9 _ hv) y1k (al u1j rfl rfl (λf1 w9 e8 M q9 z9=>(asg rfl (z0j (vs:=[_,_,_,_,_,_]) rfl rfl M u1k (λe4 M b3 g1=>(nn (sr (mv rfl (mv rfl (z0k rfl M y1k ?_))))))))));replace J:=a1.ext (q9.z1 b3);replace hl:=(hl.ext q9).fr b3 (by simp only[List.mem_singleton];omega);have b9:=J.fr;refine cl (z0a rfl (z0a rfl (z0a rfl z0f))) (mkC func27) (u3b w4 { ka with wk:=e4 } m (l.getD i op0) gl _ J.mark a2 (d3.ext (q1.n2 q2 Z)) hl) rfl ?_;intro _ f8 hR;obtain⟨rfl,U,m1,d7⟩:=hR.split;have e6:=U.kp.size;simp only at e6;have b4:=U.fr;replace hl:=U.kp.mapF hl (by simp only;omega);refine asg rfl (nn (sr (mv rfl (ne' rfl rfl (nn (cd rfl (λc3=>?_) (λc3=>?_)))))));have D:=a0.ext U.fr;refine sr (z1v (cs:=[_,_,_,_,_,_,_,_]) z0f v6a z0s rfl ?_);refine mv rfl (mv rfl (z0j (vs:=[_,_,_,_,_,_,_,_]) rfl rfl D z9w (λf9 D e3 g3=>(asg rfl (asg rfl (kpL [(4,_),(5,_),(6,_)] (.c3 rfl rfl rfl) (nn (rt (rb (tr (tr (rb (tr (j5r results9 rfl D z8k rfl rfl ?_))))))))))))));have e0:z4c 0 p0 l=.error (x4a (doM m.p (l.getD i op0)),i):=by
  have x:=x4w (r:=l.drop (i+1)) O (z4j c3);have e:l.take i++l.getD i op0::l.drop (i+1)=l:=by
   rw[List.getD,List.getElem?_eq_getElem a4,Option.getD_some,<-List.drop_eq_getElem_cons a4,List.take_append_drop]
  rw[e,List.length_take,Nat.min_eq_left (by omega),Nat.zero_add]at x;exact x
 exact⟨_,rfl,by rw[e0],(q1.z4 q2 Z b4 e3)⟩;obtain⟨b8,a3⟩:=d7 (Classical.not_not.1 c3);have a6:=b8.unmark b9;obtain⟨m2,d9⟩:∃m2,m2=m1:=⟨_,rfl⟩;rw[<-d9]at a6 a3;refine sk (bn' (tn (rg (z0v rfl rfl (wi6 (by omega)) (mv rfl (nl ?_))))));exact lpE ((i+1)) (.c7 rfl rfl rfl rfl rfl rfl rfl) ⟨b4,⟨by omega,m2,a6,by rw[show l.take (i+1)=l.take i++[l.getD i op0] by rw[List.take_add_one,List.getD,List.getElem?_eq_getElem a4];rfl];exact y8z O a3,x8f a2 a3,hl⟩⟩ (by omega);obtain rfl:i=l.length:=by omega
 rw[List.take_length]at O;refine ex (te (te (xh (tn (sr (mv rfl (cl (z0a rfl z0f) (mkC func28) (x3w w4 ka m _ J a2 (d4 _ O)) rfl ?_)))))));rintro _ g0 ⟨s',rfl,d0,e1,a5⟩;have g5:=a5.size;have D:=a0.ext a5;have a8:=D;refine mv rfl (lnS rfl underlying29 (z0j (vs:=[_,_,_,_,_,_,_,_]) rfl rfl D z9w (λe5 D b5 g6=>(asg rfl (asg rfl (kpL [(4,_),(5,_),(6,_)] (.c3 rfl rfl rfl) (nn (rt (j5r results9 rfl D z8k rfl rfl ?_)))))))));have b7:Fr [] _ e5:=(Fr.refl _ _);exact⟨_,rfl,by rw[O];exact⟨s',rfl,((d0.off a8 (by decide) b5).ext b7).low (by omega),e1⟩,(q1.z4 q2 Z a5 b5)⟩
theorem y3n (y:Nat):z2t (z2a (List.replicate 6 tq0)) y=0:=by
 unfold z2t;show ((List.replicate 6 ([]:List Lp)).getD y []).length=0;rw[List.getD,List.getElem?_replicate];split<;>rfl
theorem u3c:TabV (z2a (List.replicate 6 tq0)):=by
 refine⟨⟨rfl,by decide,λy _ n D=>(by rw[y3n y]at D;omega),⟨λ_=>0,?_⟩⟩,λi=>?_⟩;exact⟨λy _ n D=>(by rw[y3n y]at D;omega),λy _ n m _ I=>(by rw[y3n y]at I;omega)⟩;have e:y1c (z2a (List.replicate 6 tq0))=[]:=by rfl
 rw[e];exact Nat.zero_le _
theorem u7m (I D:Nat)(w:World)(h:StAt w (st0 I D)):Rets prog 16 #[.agg #[.int .i64 (st0 I D).rk,.slice (st0 I D).q.f.1 (st0 I D).q.f.2.1 (st0 I D).q.f.2.2,.slice (st0 I D).q.b.1 (st0 I D).q.b.2.1 (st0 I D).q.b.2.2,.slice (st0 I D).yv.1 (st0 I D).yv.2.1 (st0 I D).yv.2.2,.slice (st0 I D).fb.t.1 (st0 I D).fb.t.2.1 (st0 I D).fb.t.2.2,.slice (st0 I D).fb.c.1 (st0 I D).fb.c.2.1 (st0 I D).fb.c.2.2,.slice (st0 I D).fb.h.1 (st0 I D).fb.h.2.1 (st0 I D).fb.h.2.2,.slice (st0 I D).fb.f.1 (st0 I D).fb.f.2.1 (st0 I D).fb.f.2.2]] w λr w'=>r=.int .i64 0/\Fr [] w w':=
 v1m (st0 I D) w h (by show (-4:Int)<=0/\(0:Int)<=4;omega) y0z.B rfl rfl (λi _=>by
  have M:(st0 I D).ys.getD i yq0=yq0:=by
   show (List.replicate 6 yq0).getD i yq0=yq0
   rw[List.getD,List.getElem?_replicate];split<;>rfl
  have O:(st0 I D).fb.ts.getD i tq0=tq0:=by
   show (List.replicate 6 tq0).getD i tq0=tq0
   rw[List.getD,List.getElem?_replicate];split<;>rfl
  rw[M,O];exact⟨by decide,rfl⟩) (λw U=>y9h (st0 I D).fb w U rfl u3c ⟨λi J=>absurd J (Nat.not_lt_zero i),λi _ J=>absurd J (Nat.not_lt_zero i)⟩ ⟨λi J=>(by cases J),λi _ J=>absurd J (Nat.not_lt_zero i),λy _ n Z=>(by rw[show z2t (z2a (st0 I D).fb.ts) y=0 from y3n y]at Z;omega),u3c.thr⟩) rfl (Nat.zero_le _)
theorem v5d (I D:Nat)(v:Value)(l:List MOp)(w0:World)(O:StAt w0 (st0 I D))(U:Sl z5r w0 v l)(J:StT w0)(M:l.length<=4096):Rets prog 9 #[.agg #[.int .i64 (st0 I D).rk,.slice (st0 I D).q.f.1 (st0 I D).q.f.2.1 (st0 I D).q.f.2.2,.slice (st0 I D).q.b.1 (st0 I D).q.b.2.1 (st0 I D).q.b.2.2,.slice (st0 I D).yv.1 (st0 I D).yv.2.1 (st0 I D).yv.2.2,.slice (st0 I D).fb.t.1 (st0 I D).fb.t.2.1 (st0 I D).fb.t.2.2,.slice (st0 I D).fb.c.1 (st0 I D).fb.c.2.1 (st0 I D).fb.c.2.2,.slice (st0 I D).fb.h.1 (st0 I D).fb.h.2.1 (st0 I D).fb.h.2.2,.slice (st0 I D).fb.f.1 (st0 I D).fb.f.2.1 (st0 I D).fb.f.2.2],v] w0 λr w'=>(match z4c 0 G08.start l with|.error (e,n)=>r=.tuple #[.agg #[.int .i64 0,.slice none 0 0,.slice none 0 0,.slice none 0 0,.slice none 0 0,.slice none 0 0,.slice none 0 0,.slice none 0 0],.int .i64 (n:Int),.int .i64 e]|.ok p=>∃s':StQ,r=.tuple #[.agg #[.int .i64 s'.rk,.slice s'.q.f.1 s'.q.f.2.1 s'.q.f.2.2,.slice s'.q.b.1 s'.q.b.2.1 s'.q.b.2.2,.slice s'.yv.1 s'.yv.2.1 s'.yv.2.2,.slice s'.fb.t.1 s'.fb.t.2.1 s'.fb.t.2.2,.slice s'.fb.c.1 s'.fb.c.2.1 s'.fb.c.2.2,.slice s'.fb.h.1 s'.fb.h.2.1 s'.fb.h.2.2,.slice s'.fb.f.1 s'.fb.f.2.1 s'.fb.f.2.2],.int .i64 (l.length:Int),.int .i64 0]/\StO τd 109 w0.heap.size w' s'/\s'.p=stM p)/\Fr [] w0 w':=
 v4r (st0 I D) v l G08.start w0 O (j1k I D) List.nodup_nil rfl y0z U J M (u7m I D) (λp e=>by
  have x:=y3q y0z e
  have y:(G08.start).cr.length=0:=rfl
  omega)
def v9r (l:List MOp):Int:=match z4c 0 G08.start l with
  | .error (e,_)=>e
  | .ok _=>0
abbrev stZ:StQ:=⟨0,⟨sv0,sv0,[],[]⟩,sv0,[],⟨sv0,sv0,sv0,sv0,[],[],[],[]⟩⟩
theorem u1v (base:Nat)(w:World):StO τd 109 base w stZ:=
 ⟨⟨⟨Own.nil w,λq I=>(by cases I)⟩,⟨Own.nil w,λq I=>(by cases I)⟩⟩,⟨Own.nil w,λi D=>(by cases D)⟩,⟨Own.nil w,λi D=>(by cases D),λi j D=>(by cases D),λi D=>(by cases D)⟩,Own.nil w,Own.nil w,Own.nil w⟩
theorem u9z (I D:Nat)(v:Value)(l:List MOp)(w0:World)(hS:StAt w0 (st0 I D))(hv:Sl z5r w0 v l)(J:StT w0)(M:l.length<=4096):Rets prog 9 #[.agg #[.int .i64 (st0 I D).rk,.slice (st0 I D).q.f.1 (st0 I D).q.f.2.1 (st0 I D).q.f.2.2,.slice (st0 I D).q.b.1 (st0 I D).q.b.2.1 (st0 I D).q.b.2.2,.slice (st0 I D).yv.1 (st0 I D).yv.2.1 (st0 I D).yv.2.2,.slice (st0 I D).fb.t.1 (st0 I D).fb.t.2.1 (st0 I D).fb.t.2.2,.slice (st0 I D).fb.c.1 (st0 I D).fb.c.2.1 (st0 I D).fb.c.2.2,.slice (st0 I D).fb.h.1 (st0 I D).fb.h.2.1 (st0 I D).fb.h.2.2,.slice (st0 I D).fb.f.1 (st0 I D).fb.f.2.1 (st0 I D).fb.f.2.2],v] w0 λr w'=>(∃(s':StQ) (n:Nat),r=.tuple #[.agg #[.int .i64 s'.rk,.slice s'.q.f.1 s'.q.f.2.1 s'.q.f.2.2,.slice s'.q.b.1 s'.q.b.2.1 s'.q.b.2.2,.slice s'.yv.1 s'.yv.2.1 s'.yv.2.2,.slice s'.fb.t.1 s'.fb.t.2.1 s'.fb.t.2.2,.slice s'.fb.c.1 s'.fb.c.2.1 s'.fb.c.2.2,.slice s'.fb.h.1 s'.fb.h.2.1 s'.fb.h.2.2,.slice s'.fb.f.1 s'.fb.f.2.1 s'.fb.f.2.2],.int .i64 (n:Int),.int .i64 (v9r l)]/\StO τd 109 w0.heap.size w' s'/\∀p,z4c 0 G08.start l=.ok p->s'.p=stM p)/\Fr [] w0 w':=
 Rets.mono (v5d I D v l w0 hS hv J M) (by
  rintro r w' ⟨h,hf⟩
  refine⟨?_,hf⟩
  unfold v9r
  cases e:z4c 0 G08.start l with
  | error x=>
   obtain⟨e1,n⟩:=x
   rw[e]at h
   exact⟨stZ,n,h,u1v _ _,λp hp=>by cases hp⟩
  | ok p=>
   rw[e]at h
   obtain⟨s',O,U,Z⟩:=h
   exact⟨s',l.length,O,U,λq hq=>by cases hq;exact Z⟩)
theorem co9:CallOf prog 9:=mkC func9
theorem x8x (v:Value)(l:List MOp)(w0:World)(O:Sl z5r w0 v l)(a1:StT w0)(a2:l.length<=4096):Rets prog 14 #[v] w0 λr w'=>(∃s':StQ,r=.tuple #[.agg #[.slice s'.fb.t.1 s'.fb.t.2.1 s'.fb.t.2.2,.slice s'.fb.c.1 s'.fb.c.2.1 s'.fb.c.2.2,.slice s'.fb.h.1 s'.fb.h.2.1 s'.fb.h.2.2,.slice s'.fb.f.1 s'.fb.f.2.1 s'.fb.f.2.2],.int .i64 (v9r l)]/\StO τd 109 w0.heap.size w' s'/\∀p,z4c 0 G08.start l=.ok p->s'.p=stM p)/\Fr [] w0 w':=by
 obtain⟨A,c,rfl,a6,Z,hA⟩:=id O;clear hA;unfold maxLen at Z;refine we [(0,.slice A l.length c)] func14 rfl ntmps14 rfl (.cons rfl .nil) ?_;have a4:=O;refine sr (al v7r rfl rfl (λg2 w1 a7 D q1 z1=>(asg rfl (nn (sr (cl z0f (mkC func10) (y5l _) rfl ?_))))));rintro _ w2 ⟨⟨gy,gt,rfl,hS⟩,q2⟩;have z2:=q2.size;have a5:=hS;refine mv rfl ?_;replace O:=a4.ext (q1.n1 q2);refine cl (ev2 rfl rfl) co9 (u9z gy gt _ l _ hS O (a1.ext (q1.n1 q2)) a2) rfl ?_;rintro _ w3 ⟨⟨s',n,rfl,hO,a3⟩,q3⟩;have z3:=q3.size;replace D:=D.ext (q2.n1 q3);have M:=D;have a0:=hO;refine mv rfl (xt rfl rfl (xt rfl rfl (xt rfl rfl (al y8v rfl rfl (λg4 w4 a8 I q4 z4=>(z0j (vs:=[_,_,_,_,_,_,_,_]) rfl rfl I z9w (λw5 I q5 z5=>(asg rfl (asg rfl (kpL [(2,_),(4,_),(6,_)] (.c3 rfl rfl rfl) (nn (sr (fad rfl z8n (z1s (vs:=[_,_,_,_]) rfl I x5i rfl (mv rfl ?_)))))))))))))));replace D:=(D.ext q4).fr q5;refine z0j (vs:=[_,_,_,_]) rfl rfl D v7n (λw6 D q6 z6=>(asg rfl (nn (rt (rCT results14 rfl D x5i rfl ?_)))));have J:Fr [] _ _:=(q4.z1 q5);have U:Fr [] _ w6:=(Fr.refl _ _);exact⟨_,rfl,⟨s',rfl,(((a0.ext J).off (M.ext J) (by decide) q6).ext U).low (by omega),a3⟩,(q1.z5 q2 q3 q4 q5 q6)⟩
end Go.Proofs.YtpgdchkdlgkmgaaGreatDoor
namespace Go.Proofs
open Go.Shelf
def Tryz.lays169_ren:Go.Shelf.Ren:=⟨fun|169=>88|n=>n,fun|70=>149|9=>9|0=>0|72=>152|37=>150|127=>221|3=>3|5=>5|n=>n,fun|n=>n⟩
theorem Tryz.lays169:Go.Proofs.Lays.n169 Tryz.prog Tryz.lays169_ren:={
 mixed:=by kernel_rfl
 f169:=Tryz.func88.trans (congrArg some (by kernel_rfl))
 t0:=Tryz.underlying0
 a0:=Tryz.isAgg0
 z0:=Tryz.sizeOf0
 v0:=Tryz.zeroValue0
 t3:=Tryz.underlying3
 a3:=Tryz.isAgg3
 z3:=Tryz.sizeOf3
 v3:=Tryz.zeroValue3
 t9:=Tryz.underlying9
 a9:=Tryz.isAgg9
 z9:=Tryz.sizeOf9
 v9:=Tryz.zeroValue9
 t37:=Tryz.underlying150
 a37:=Tryz.isAgg150
 z37:=Tryz.sizeOf150
 v37:=Tryz.zeroValue150
 t70:=Tryz.underlying149
 a70:=Tryz.isAgg149
 z70:=Tryz.sizeOf149
 v70:=Tryz.zeroValue149
 t72:=Tryz.underlying152
 a72:=Tryz.isAgg152
 z72:=Tryz.sizeOf152
 v72:=Tryz.zeroValue152
 t127:=Tryz.underlying221
 a127:=Tryz.isAgg221
 z127:=Tryz.sizeOf221
 v127:=Tryz.zeroValue221 }
theorem Tryz.Builder_Extra_169:Builder.Extra Tryz.prog Tryz.lays169_ren:={
 sizeBuilder:=by kernel_rfl
 liesBuilder:=by kernel_rfl
 t5:=Tryz.underlying5
 a5:=Tryz.isAgg5
 z5:=Tryz.sizeOf5
 v5:=Tryz.zeroValue5
 infoByte:=by kernel_rfl
 cellsByte:=by kernel_rfl
 sizeByte:=by kernel_rfl
 neB5:=by decide }
open Go.RowKit in
theorem Tryz.Builder_String_any (B b:Nat)(l:List UInt8)(w:World)(h:Lib.IsBuilder 152 5 B b (Lib.byteCells l) w)(D:B<=w.heap.size) :
 Calls Tryz.prog 88 #[.pointer (some ⟨b,0,none⟩)] w λe w'=>e=.returned (.string ⟨l.toArray⟩)/\Below B w w':=Any.Builder_String_any Tryz.lays169 Tryz.Builder_Extra_169 B b l w h D
def Tryz.lays156_ren:Go.Shelf.Ren:=⟨fun|156=>82|165=>130|166=>81|169=>88|240=>129|241=>186|276=>185|277=>224|n=>n,fun|31=>153|9=>9|3=>3|4=>4|0=>0|20=>20|72=>152|76=>156|70=>149|37=>150|75=>155|127=>221|164=>283|5=>5|80=>165|n=>n,fun|n=>n⟩
theorem Tryz.lays156:Go.Proofs.Lays.n156 Tryz.prog Tryz.lays156_ren:={
 mixed:=by kernel_rfl
 f156:=Tryz.func82.trans (congrArg some (by kernel_rfl))
 f165:=Tryz.func130.trans (congrArg some (by kernel_rfl))
 f166:=Tryz.func81.trans (congrArg some (by kernel_rfl))
 f169:=Tryz.func88.trans (congrArg some (by kernel_rfl))
 f240:=Tryz.func129.trans (congrArg some (by kernel_rfl))
 f241:=Tryz.func186.trans (congrArg some (by kernel_rfl))
 f276:=Tryz.func185.trans (congrArg some (by kernel_rfl))
 f277:=Tryz.func224.trans (congrArg some (by kernel_rfl))
 t0:=Tryz.underlying0
 a0:=Tryz.isAgg0
 z0:=Tryz.sizeOf0
 v0:=Tryz.zeroValue0
 t3:=Tryz.underlying3
 a3:=Tryz.isAgg3
 z3:=Tryz.sizeOf3
 v3:=Tryz.zeroValue3
 t4:=Tryz.underlying4
 a4:=Tryz.isAgg4
 z4:=Tryz.sizeOf4
 v4:=Tryz.zeroValue4
 t9:=Tryz.underlying9
 a9:=Tryz.isAgg9
 z9:=Tryz.sizeOf9
 v9:=Tryz.zeroValue9
 t20:=Tryz.underlying20
 a20:=Tryz.isAgg20
 z20:=Tryz.sizeOf20
 v20:=Tryz.zeroValue20
 t31:=Tryz.underlying153
 a31:=Tryz.isAgg153
 z31:=Tryz.sizeOf153
 v31:=Tryz.zeroValue153
 t37:=Tryz.underlying150
 a37:=Tryz.isAgg150
 z37:=Tryz.sizeOf150
 v37:=Tryz.zeroValue150
 t70:=Tryz.underlying149
 a70:=Tryz.isAgg149
 z70:=Tryz.sizeOf149
 v70:=Tryz.zeroValue149
 t72:=Tryz.underlying152
 a72:=Tryz.isAgg152
 z72:=Tryz.sizeOf152
 v72:=Tryz.zeroValue152
 t75:=Tryz.underlying155
 a75:=Tryz.isAgg155
 z75:=Tryz.sizeOf155
 v75:=Tryz.zeroValue155
 t76:=Tryz.underlying156
 a76:=Tryz.isAgg156
 z76:=Tryz.sizeOf156
 v76:=Tryz.zeroValue156
 t127:=Tryz.underlying221
 a127:=Tryz.isAgg221
 z127:=Tryz.sizeOf221
 v127:=Tryz.zeroValue221
 t164:=Tryz.underlying283
 a164:=Tryz.isAgg283
 z164:=Tryz.sizeOf283
 v164:=Tryz.zeroValue283 }
theorem Tryz.Builder_Extra_156:Builder.Extra Tryz.prog Tryz.lays156_ren:={
 sizeBuilder:=by kernel_rfl
 liesBuilder:=by kernel_rfl
 t5:=Tryz.underlying5
 a5:=Tryz.isAgg5
 z5:=Tryz.sizeOf5
 v5:=Tryz.zeroValue5
 infoByte:=by kernel_rfl
 cellsByte:=by kernel_rfl
 sizeByte:=by kernel_rfl
 neB5:=by decide }
open Go.RowKit in
theorem Tryz.strings_Join (bk o c:Nat)(J:List ByteArray)(I:ByteArray)(w:World)(D:∀(j:Nat) x,J[j]?=some x->w.cell? ⟨bk,o+j,none⟩=some (.string x))(U:bk<w.heap.size)(Z:J.length<=140737488355328)(M:J.length<=c)(O:(Lib.join (J.map (·.data.toList)) I.data.toList).length<=140737488355328) :
 Calls Tryz.prog 82 #[.slice (some ⟨bk,o,none⟩) J.length c,.string I] w λe w'=>e=.returned (.string ⟨(Lib.join (J.map (·.data.toList)) I.data.toList).toArray⟩)/\Below w.heap.size w w':=Any.strings_Join Tryz.lays156 Tryz.Builder_Extra_156 bk o c J I w D U Z M O
def Tryz.lays160_ren:Go.Shelf.Ren:=⟨fun|160=>127|232=>177|231=>176|227=>178|234=>180|233=>179|236=>182|235=>181|228=>216|271=>219|151=>218|197=>217|120=>244|152=>243|260=>242|137=>255|119=>256|224=>240|225=>239|217=>238|266=>253|n=>n,fun|9=>9|4=>4|3=>3|5=>5|117=>277|116=>276|0=>0|124=>280|21=>21|105=>306|46=>208|119=>336|139=>339|138=>338|n=>n,fun|3=>5|4=>6|n=>n⟩
theorem Tryz.lays160:Go.Proofs.Lays.n160 Tryz.prog Tryz.lays160_ren:={
 mixed:=by kernel_rfl
 f119:=Tryz.func256.trans (congrArg some (by kernel_rfl))
 f120:=Tryz.func244.trans (congrArg some (by kernel_rfl))
 f137:=Tryz.func255.trans (congrArg some (by kernel_rfl))
 f151:=Tryz.func218.trans (congrArg some (by kernel_rfl))
 f152:=Tryz.func243.trans (congrArg some (by kernel_rfl))
 f160:=Tryz.func127.trans (congrArg some (by kernel_rfl))
 f197:=Tryz.func217.trans (congrArg some (by kernel_rfl))
 f217:=Tryz.func238.trans (congrArg some (by kernel_rfl))
 f224:=Tryz.func240.trans (congrArg some (by kernel_rfl))
 f225:=Tryz.func239.trans (congrArg some (by kernel_rfl))
 f227:=Tryz.func178.trans (congrArg some (by kernel_rfl))
 f228:=Tryz.func216.trans (congrArg some (by kernel_rfl))
 f231:=Tryz.func176.trans (congrArg some (by kernel_rfl))
 f232:=Tryz.func177.trans (congrArg some (by kernel_rfl))
 f233:=Tryz.func179.trans (congrArg some (by kernel_rfl))
 f234:=Tryz.func180.trans (congrArg some (by kernel_rfl))
 f235:=Tryz.func181.trans (congrArg some (by kernel_rfl))
 f236:=Tryz.func182.trans (congrArg some (by kernel_rfl))
 f260:=Tryz.func242.trans (congrArg some (by kernel_rfl))
 f266:=Tryz.func253.trans (congrArg some (by kernel_rfl))
 f271:=Tryz.func219.trans (congrArg some (by kernel_rfl))
 t0:=Tryz.underlying0
 a0:=Tryz.isAgg0
 z0:=Tryz.sizeOf0
 v0:=Tryz.zeroValue0
 t3:=Tryz.underlying3
 a3:=Tryz.isAgg3
 z3:=Tryz.sizeOf3
 v3:=Tryz.zeroValue3
 t4:=Tryz.underlying4
 a4:=Tryz.isAgg4
 z4:=Tryz.sizeOf4
 v4:=Tryz.zeroValue4
 t5:=Tryz.underlying5
 a5:=Tryz.isAgg5
 z5:=Tryz.sizeOf5
 v5:=Tryz.zeroValue5
 t9:=Tryz.underlying9
 a9:=Tryz.isAgg9
 z9:=Tryz.sizeOf9
 v9:=Tryz.zeroValue9
 t21:=Tryz.underlying21
 a21:=Tryz.isAgg21
 z21:=Tryz.sizeOf21
 v21:=Tryz.zeroValue21
 t46:=Tryz.underlying208
 a46:=Tryz.isAgg208
 z46:=Tryz.sizeOf208
 v46:=Tryz.zeroValue208
 t105:=Tryz.underlying306
 a105:=Tryz.isAgg306
 z105:=Tryz.sizeOf306
 v105:=Tryz.zeroValue306
 t116:=Tryz.underlying276
 a116:=Tryz.isAgg276
 z116:=Tryz.sizeOf276
 t117:=Tryz.underlying277
 a117:=Tryz.isAgg277
 z117:=Tryz.sizeOf277
 v117:=Tryz.zeroValue277
 t119:=Tryz.underlying336
 a119:=Tryz.isAgg336
 z119:=Tryz.sizeOf336
 t124:=Tryz.underlying280
 a124:=Tryz.isAgg280
 z124:=Tryz.sizeOf280
 v124:=Tryz.zeroValue280
 t138:=Tryz.underlying338
 a138:=Tryz.isAgg338
 z138:=Tryz.sizeOf338
 v138:=Tryz.zeroValue338
 t139:=Tryz.underlying339
 a139:=Tryz.isAgg339
 z139:=Tryz.sizeOf339
 v139:=Tryz.zeroValue339
 g3:=by kernel_rfl
 g4:=by kernel_rfl }
open Go.RowKit in
theorem Tryz.strings_Trim_one (s:ByteArray)(c:UInt8)(D:c.toNat<128)(w:World)(I:s.size<=9223372036854775807) :
 Calls Tryz.prog 127 #[.string s,.string ⟨#[c]⟩] w λe w'=>e=.returned (.string ⟨(Lib.trimB s.data.toList c).toArray⟩)/\(w'=w\/w'=w.drew):=Any.strings_Trim_one Tryz.lays160 s c D w I
def Tryz.laysM171_ren:Go.Shelf.Ren:=⟨fun|171=>86|243=>132|246=>187|283=>225|284=>226|285=>227|286=>228|129=>163|317=>246|318=>247|319=>248|320=>249|337=>259|338=>260|n=>n,fun|3=>3|9=>9|2=>2|4=>4|171=>316|0=>0|53=>266|37=>150|5=>5|173=>318|212=>332|51=>264|20=>20|213=>333|46=>208|232=>348|233=>349|n=>n,fun|17=>4|18=>7|19=>8|n=>n⟩
theorem Tryz.laysM171:Go.Proofs.LaysM.n171 Tryz.prog Tryz.laysM171_ren:={
 mixed:=by kernel_rfl
 f129:=Tryz.func163.trans (congrArg some (by kernel_rfl))
 f171:=Tryz.func86.trans (congrArg some (by kernel_rfl))
 f243:=Tryz.func132.trans (congrArg some (by kernel_rfl))
 f246:=Tryz.func187.trans (congrArg some (by kernel_rfl))
 f283:=Tryz.func225.trans (congrArg some (by kernel_rfl))
 f284:=Tryz.func226.trans (congrArg some (by kernel_rfl))
 f285:=Tryz.func227.trans (congrArg some (by kernel_rfl))
 f286:=Tryz.func228.trans (congrArg some (by kernel_rfl))
 f317:=Tryz.func246.trans (congrArg some (by kernel_rfl))
 f318:=Tryz.func247.trans (congrArg some (by kernel_rfl))
 f319:=Tryz.func248.trans (congrArg some (by kernel_rfl))
 f320:=Tryz.func249.trans (congrArg some (by kernel_rfl))
 f337:=Tryz.func259.trans (congrArg some (by kernel_rfl))
 f338:=Tryz.func260.trans (congrArg some (by kernel_rfl))
 t0:=Tryz.underlying0
 a0:=Tryz.isAgg0
 z0:=Tryz.sizeOf0
 v0:=Tryz.zeroValue0
 t2:=Tryz.underlying2
 a2:=Tryz.isAgg2
 z2:=Tryz.sizeOf2
 v2:=Tryz.zeroValue2
 t3:=Tryz.underlying3
 a3:=Tryz.isAgg3
 z3:=Tryz.sizeOf3
 v3:=Tryz.zeroValue3
 t4:=Tryz.underlying4
 a4:=Tryz.isAgg4
 z4:=Tryz.sizeOf4
 v4:=Tryz.zeroValue4
 t5:=Tryz.underlying5
 a5:=Tryz.isAgg5
 z5:=Tryz.sizeOf5
 v5:=Tryz.zeroValue5
 t9:=Tryz.underlying9
 a9:=Tryz.isAgg9
 z9:=Tryz.sizeOf9
 v9:=Tryz.zeroValue9
 t20:=Tryz.underlying20
 a20:=Tryz.isAgg20
 z20:=Tryz.sizeOf20
 v20:=Tryz.zeroValue20
 t37:=Tryz.underlying150
 a37:=Tryz.isAgg150
 z37:=Tryz.sizeOf150
 v37:=Tryz.zeroValue150
 t46:=Tryz.underlying208
 a46:=Tryz.isAgg208
 z46:=Tryz.sizeOf208
 v46:=Tryz.zeroValue208
 t51:=Tryz.underlying264
 a51:=Tryz.isAgg264
 z51:=Tryz.sizeOf264
 v51:=Tryz.zeroValue264
 t53:=Tryz.underlying266
 a53:=Tryz.isAgg266
 z53:=Tryz.sizeOf266
 v53:=Tryz.zeroValue266
 t171:=Tryz.underlying316
 a171:=Tryz.isAgg316
 z171:=Tryz.sizeOf316
 v171:=Tryz.zeroValue316
 t173:=Tryz.underlying318
 a173:=Tryz.isAgg318
 z173:=Tryz.sizeOf318
 v173:=Tryz.zeroValue318
 t212:=Tryz.underlying332
 a212:=Tryz.isAgg332
 z212:=Tryz.sizeOf332
 v212:=Tryz.zeroValue332
 t213:=Tryz.underlying333
 a213:=Tryz.isAgg333
 z213:=Tryz.sizeOf333
 t232:=Tryz.underlying348
 a232:=Tryz.isAgg348
 z232:=Tryz.sizeOf348
 v232:=Tryz.zeroValue348
 t233:=Tryz.underlying349
 a233:=Tryz.isAgg349
 z233:=Tryz.sizeOf349
 v233:=Tryz.zeroValue349
 g17:=by kernel_rfl
 g18:=by kernel_rfl
 g19:=by kernel_rfl
 i0:=by kernel_rfl
 i2:=by kernel_rfl
 i3:=by kernel_rfl
 i4:=by kernel_rfl
 i5:=by kernel_rfl
 i9:=by kernel_rfl
 i20:=by kernel_rfl
 i37:=by kernel_rfl
 i46:=by kernel_rfl
 i51:=by kernel_rfl
 i53:=by kernel_rfl
 i171:=by kernel_rfl
 i173:=by kernel_rfl
 i212:=by kernel_rfl
 i232:=by kernel_rfl
 i233:=by kernel_rfl
 m17:=by kernel_rfl
 m18:=by kernel_rfl
 m19:=by kernel_rfl }
open Go.RowKit Go.Sort Go.Lib in
theorem Tryz.strconv_Itoa (n:Int)(I:-9223372036854775808<=n)(h1:n<=9223372036854775807)(w:World)(D:Lib.TabIs Tryz.prog w "internal/strconv.uint64pow10" .u64 Lib.pow10Tab) :
 Calls Tryz.prog 86 #[.int .i64 n] w λe w'=>e=.returned (.string ⟨(Lib.itoa n).toArray⟩)/\∃k J,w'=grow (w.drewN k) J:=Any.strconv_Itoa Tryz.laysM171 n I h1 w D
def Tryz.laysC172_ren:Go.Shelf.Ren:=⟨fun|172=>245|244=>257|245=>258|247=>262|279=>263|280=>264|281=>265|282=>266|287=>267|316=>268|171=>86|205=>269|321=>270|322=>271|243=>132|246=>187|283=>225|284=>226|285=>227|286=>228|129=>163|317=>246|318=>247|319=>248|320=>249|337=>259|338=>260|n=>n,fun|9=>9|3=>3|75=>155|76=>156|4=>4|5=>5|167=>342|37=>150|0=>0|85=>343|2=>2|168=>345|53=>266|175=>350|46=>208|210=>354|127=>221|145=>360|143=>358|21=>21|171=>316|173=>318|212=>332|51=>264|20=>20|213=>333|232=>348|233=>349|80=>165|n=>n,fun|15=>9|16=>10|17=>4|18=>7|19=>8|n=>n⟩
theorem Tryz.laysC172:Go.Proofs.LaysC.n172 Tryz.prog Tryz.laysC172_ren:={
 mixed:=by kernel_rfl
 f129:=Tryz.func163.trans (congrArg some (by kernel_rfl))
 f171:=Tryz.func86.trans (congrArg some (by kernel_rfl))
 f172:=Tryz.func245.trans (congrArg some (by kernel_rfl))
 f205:=Tryz.func269.trans (congrArg some (by kernel_rfl))
 f243:=Tryz.func132.trans (congrArg some (by kernel_rfl))
 f244:=Tryz.func257.trans (congrArg some (by kernel_rfl))
 f245:=Tryz.func258.trans (congrArg some (by kernel_rfl))
 f246:=Tryz.func187.trans (congrArg some (by kernel_rfl))
 f247:=Tryz.func262.trans (congrArg some (by kernel_rfl))
 f279:=Tryz.func263.trans (congrArg some (by kernel_rfl))
 f280:=Tryz.func264.trans (congrArg some (by kernel_rfl))
 f281:=Tryz.func265.trans (congrArg some (by kernel_rfl))
 f282:=Tryz.func266.trans (congrArg some (by kernel_rfl))
 f283:=Tryz.func225.trans (congrArg some (by kernel_rfl))
 f284:=Tryz.func226.trans (congrArg some (by kernel_rfl))
 f285:=Tryz.func227.trans (congrArg some (by kernel_rfl))
 f286:=Tryz.func228.trans (congrArg some (by kernel_rfl))
 f287:=Tryz.func267.trans (congrArg some (by kernel_rfl))
 f316:=Tryz.func268.trans (congrArg some (by kernel_rfl))
 f317:=Tryz.func246.trans (congrArg some (by kernel_rfl))
 f318:=Tryz.func247.trans (congrArg some (by kernel_rfl))
 f319:=Tryz.func248.trans (congrArg some (by kernel_rfl))
 f320:=Tryz.func249.trans (congrArg some (by kernel_rfl))
 f321:=Tryz.func270.trans (congrArg some (by kernel_rfl))
 f322:=Tryz.func271.trans (congrArg some (by kernel_rfl))
 f337:=Tryz.func259.trans (congrArg some (by kernel_rfl))
 f338:=Tryz.func260.trans (congrArg some (by kernel_rfl))
 t0:=Tryz.underlying0
 a0:=Tryz.isAgg0
 z0:=Tryz.sizeOf0
 v0:=Tryz.zeroValue0
 t2:=Tryz.underlying2
 a2:=Tryz.isAgg2
 z2:=Tryz.sizeOf2
 v2:=Tryz.zeroValue2
 t3:=Tryz.underlying3
 a3:=Tryz.isAgg3
 z3:=Tryz.sizeOf3
 v3:=Tryz.zeroValue3
 t4:=Tryz.underlying4
 a4:=Tryz.isAgg4
 z4:=Tryz.sizeOf4
 v4:=Tryz.zeroValue4
 t5:=Tryz.underlying5
 a5:=Tryz.isAgg5
 z5:=Tryz.sizeOf5
 v5:=Tryz.zeroValue5
 t9:=Tryz.underlying9
 a9:=Tryz.isAgg9
 z9:=Tryz.sizeOf9
 v9:=Tryz.zeroValue9
 t20:=Tryz.underlying20
 a20:=Tryz.isAgg20
 z20:=Tryz.sizeOf20
 v20:=Tryz.zeroValue20
 t21:=Tryz.underlying21
 a21:=Tryz.isAgg21
 z21:=Tryz.sizeOf21
 v21:=Tryz.zeroValue21
 t37:=Tryz.underlying150
 a37:=Tryz.isAgg150
 z37:=Tryz.sizeOf150
 v37:=Tryz.zeroValue150
 t46:=Tryz.underlying208
 a46:=Tryz.isAgg208
 z46:=Tryz.sizeOf208
 v46:=Tryz.zeroValue208
 t51:=Tryz.underlying264
 a51:=Tryz.isAgg264
 z51:=Tryz.sizeOf264
 v51:=Tryz.zeroValue264
 t53:=Tryz.underlying266
 a53:=Tryz.isAgg266
 z53:=Tryz.sizeOf266
 v53:=Tryz.zeroValue266
 t75:=Tryz.underlying155
 a75:=Tryz.isAgg155
 z75:=Tryz.sizeOf155
 v75:=Tryz.zeroValue155
 t76:=Tryz.underlying156
 a76:=Tryz.isAgg156
 z76:=Tryz.sizeOf156
 v76:=Tryz.zeroValue156
 t85:=Tryz.underlying343
 a85:=Tryz.isAgg343
 z85:=Tryz.sizeOf343
 v85:=Tryz.zeroValue343
 t127:=Tryz.underlying221
 a127:=Tryz.isAgg221
 z127:=Tryz.sizeOf221
 v127:=Tryz.zeroValue221
 t143:=Tryz.underlying358
 a143:=Tryz.isAgg358
 z143:=Tryz.sizeOf358
 v143:=Tryz.zeroValue358
 t145:=Tryz.underlying360
 a145:=Tryz.isAgg360
 z145:=Tryz.sizeOf360
 v145:=Tryz.zeroValue360
 t167:=Tryz.underlying342
 a167:=Tryz.isAgg342
 z167:=Tryz.sizeOf342
 v167:=Tryz.zeroValue342
 t168:=Tryz.underlying345
 a168:=Tryz.isAgg345
 z168:=Tryz.sizeOf345
 v168:=Tryz.zeroValue345
 t171:=Tryz.underlying316
 a171:=Tryz.isAgg316
 z171:=Tryz.sizeOf316
 v171:=Tryz.zeroValue316
 t173:=Tryz.underlying318
 a173:=Tryz.isAgg318
 z173:=Tryz.sizeOf318
 v173:=Tryz.zeroValue318
 t175:=Tryz.underlying350
 a175:=Tryz.isAgg350
 z175:=Tryz.sizeOf350
 v175:=Tryz.zeroValue350
 t210:=Tryz.underlying354
 a210:=Tryz.isAgg354
 z210:=Tryz.sizeOf354
 v210:=Tryz.zeroValue354
 t212:=Tryz.underlying332
 a212:=Tryz.isAgg332
 z212:=Tryz.sizeOf332
 v212:=Tryz.zeroValue332
 t213:=Tryz.underlying333
 a213:=Tryz.isAgg333
 z213:=Tryz.sizeOf333
 t232:=Tryz.underlying348
 a232:=Tryz.isAgg348
 z232:=Tryz.sizeOf348
 v232:=Tryz.zeroValue348
 t233:=Tryz.underlying349
 a233:=Tryz.isAgg349
 z233:=Tryz.sizeOf349
 v233:=Tryz.zeroValue349
 g15:=by kernel_rfl
 g16:=by kernel_rfl
 g17:=by kernel_rfl
 g18:=by kernel_rfl
 g19:=by kernel_rfl
 t80:=Tryz.underlying165
 a80:=Tryz.isAgg165
 z80:=Tryz.sizeOf165
 v80:=Tryz.zeroValue165
 i0:=by kernel_rfl
 i2:=by kernel_rfl
 i3:=by kernel_rfl
 i4:=by kernel_rfl
 i5:=by kernel_rfl
 i9:=by kernel_rfl
 i20:=by kernel_rfl
 i21:=by kernel_rfl
 i37:=by kernel_rfl
 i46:=by kernel_rfl
 i51:=by kernel_rfl
 i53:=by kernel_rfl
 i75:=by kernel_rfl
 i76:=by kernel_rfl
 i80:=by kernel_rfl
 i85:=by kernel_rfl
 i127:=by kernel_rfl
 i143:=by kernel_rfl
 i145:=by kernel_rfl
 i167:=by kernel_rfl
 i168:=by kernel_rfl
 i171:=by kernel_rfl
 i173:=by kernel_rfl
 i175:=by kernel_rfl
 i210:=by kernel_rfl
 i212:=by kernel_rfl
 i232:=by kernel_rfl
 i233:=by kernel_rfl
 m15:=by kernel_rfl
 m16:=by kernel_rfl
 m17:=by kernel_rfl
 m18:=by kernel_rfl
 m19:=by kernel_rfl
 c0:=by kernel_rfl
 c2:=by kernel_rfl
 c3:=by kernel_rfl
 c4:=by kernel_rfl
 c5:=by kernel_rfl
 c9:=by kernel_rfl
 c20:=by kernel_rfl
 c21:=by kernel_rfl
 c37:=by kernel_rfl
 c46:=by kernel_rfl
 c51:=by kernel_rfl
 c53:=by kernel_rfl
 c75:=by kernel_rfl
 c76:=by kernel_rfl
 c80:=by kernel_rfl
 c85:=by kernel_rfl
 c127:=by kernel_rfl
 c143:=by kernel_rfl
 c145:=by kernel_rfl
 c167:=by kernel_rfl
 c168:=by kernel_rfl
 c171:=by kernel_rfl
 c173:=by kernel_rfl
 c175:=by kernel_rfl
 c210:=by kernel_rfl
 c212:=by kernel_rfl
 c213:=by kernel_rfl
 c232:=by kernel_rfl
 c233:=by kernel_rfl }
open Go.RowKit in
theorem Tryz.strconv_Atoi_ok (s:ByteArray)(D:s.size<=9223372036854775806)(v:Int)(h:Lib.atoiAll s.data.toList=.ok v)(w:World) :
 Calls Tryz.prog 245 #[.string s] w λe w'=>e=.returned (.tuple #[.int .i64 v,.nilIface])/\(w'=w\/∃t,w'=Lib.bytesWorld w 5 t):=Any.strconv_Atoi_ok Tryz.laysC172 s D v h w
open Go.RowKit in
theorem Tryz.strconv_Atoi_syntax (s:ByteArray)(D:s.size<=281474976710656)(h:Lib.atoiAll s.data.toList=Lib.atoiAll [])(ev:Value)(w:World)(J:w.cell? ⟨9,0,none⟩=some ev)(I:ev=.nilIface\/∃te M,ev=.iface te M) :
 Calls Tryz.prog 245 #[.string s] w λe w'=>∃N,e=.returned (.tuple #[.int .i64 (0),.iface 345 (.pointer (some ⟨N,0,none⟩))])/\w.heap.size<=N/\w'.heap[N]?=some (.cells #[.string ⟨#[65,116,111,105]⟩,.string s,ev] 354 (0,0))/\Below w.heap.size w w':=Any.strconv_Atoi_syntax Tryz.laysC172 s D h ev w J I
open Go.RowKit in
theorem Tryz.strconv_Atoi_range (s:ByteArray)(D:s.size<=281474976710656)(h:Lib.atoiAll s.data.toList=.range)(ev:Value)(w:World)(J:w.cell? ⟨10,0,none⟩=some ev)(I:ev=.nilIface\/∃te M,ev=.iface te M) :
 Calls Tryz.prog 245 #[.string s] w λe w'=>∃N,e=.returned (.tuple #[.int .i64 (Lib.atoiSat s.data.toList),.iface 345 (.pointer (some ⟨N,0,none⟩))])/\w.heap.size<=N/\w'.heap[N]?=some (.cells #[.string ⟨#[65,116,111,105]⟩,.string s,ev] 354 (0,0))/\Below w.heap.size w w':=Any.strconv_Atoi_range Tryz.laysC172 s D h ev w J I
def Tryz.lays145_ren:Go.Shelf.Ren:=⟨fun|145=>126|220=>175|219=>215|217=>238|225=>239|224=>240|267=>241|266=>253|314=>254|n=>n,fun|9=>9|4=>4|59=>214|3=>3|5=>5|46=>208|146=>334|51=>264|n=>n,fun|1=>3|n=>n⟩
theorem Tryz.lays145:Go.Proofs.Lays.n145 Tryz.prog Tryz.lays145_ren:={
 mixed:=by kernel_rfl
 f145:=Tryz.func126.trans (congrArg some (by kernel_rfl))
 f217:=Tryz.func238.trans (congrArg some (by kernel_rfl))
 f219:=Tryz.func215.trans (congrArg some (by kernel_rfl))
 f220:=Tryz.func175.trans (congrArg some (by kernel_rfl))
 f224:=Tryz.func240.trans (congrArg some (by kernel_rfl))
 f225:=Tryz.func239.trans (congrArg some (by kernel_rfl))
 f266:=Tryz.func253.trans (congrArg some (by kernel_rfl))
 f267:=Tryz.func241.trans (congrArg some (by kernel_rfl))
 f314:=Tryz.func254.trans (congrArg some (by kernel_rfl))
 t3:=Tryz.underlying3
 a3:=Tryz.isAgg3
 z3:=Tryz.sizeOf3
 v3:=Tryz.zeroValue3
 t4:=Tryz.underlying4
 a4:=Tryz.isAgg4
 z4:=Tryz.sizeOf4
 v4:=Tryz.zeroValue4
 t5:=Tryz.underlying5
 a5:=Tryz.isAgg5
 z5:=Tryz.sizeOf5
 v5:=Tryz.zeroValue5
 t9:=Tryz.underlying9
 a9:=Tryz.isAgg9
 z9:=Tryz.sizeOf9
 v9:=Tryz.zeroValue9
 t46:=Tryz.underlying208
 a46:=Tryz.isAgg208
 z46:=Tryz.sizeOf208
 v46:=Tryz.zeroValue208
 t51:=Tryz.underlying264
 a51:=Tryz.isAgg264
 z51:=Tryz.sizeOf264
 v51:=Tryz.zeroValue264
 t59:=Tryz.underlying214
 a59:=Tryz.isAgg214
 z59:=Tryz.sizeOf214
 v59:=Tryz.zeroValue214
 t146:=Tryz.underlying334
 a146:=Tryz.isAgg334
 z146:=Tryz.sizeOf334
 v146:=Tryz.zeroValue334
 g1:=by kernel_rfl }
open Go.RowKit Go.Lib in
theorem Tryz.strings_Cut (s D:ByteArray)(m:Int)(w:World)(J:s.size<4294967281)(I:w.cell? ⟨3,0,none⟩=some (.int .i64 m)) :
 Calls Tryz.prog 126 #[.string s,.string D] w λe w'=>e=.returned (.tuple #[.string ⟨(Lib.cut s.data.toList D.data.toList).1.toArray⟩,.string ⟨(Lib.cut s.data.toList D.data.toList).2.1.toArray⟩,.bool (Lib.cut s.data.toList D.data.toList).2.2])/\∃n,w'=w.drewN n:=Any.strings_Cut Tryz.lays145 s D m w J I
def Tryz.lays146_ren:Go.Shelf.Ren:=⟨fun|146=>125|221=>174|268=>212|138=>213|143=>214|195=>236|197=>217|218=>237|219=>215|260=>242|217=>238|225=>239|224=>240|267=>241|266=>253|314=>254|n=>n,fun|9=>9|31=>153|3=>3|4=>4|0=>0|105=>306|21=>21|5=>5|46=>208|119=>336|139=>339|138=>338|146=>334|51=>264|n=>n,fun|1=>3|3=>5|4=>6|n=>n⟩
theorem Tryz.lays146:Go.Proofs.Lays.n146 Tryz.prog Tryz.lays146_ren:={
 mixed:=by kernel_rfl
 f138:=Tryz.func213.trans (congrArg some (by kernel_rfl))
 f143:=Tryz.func214.trans (congrArg some (by kernel_rfl))
 f146:=Tryz.func125.trans (congrArg some (by kernel_rfl))
 f195:=Tryz.func236.trans (congrArg some (by kernel_rfl))
 f197:=Tryz.func217.trans (congrArg some (by kernel_rfl))
 f217:=Tryz.func238.trans (congrArg some (by kernel_rfl))
 f218:=Tryz.func237.trans (congrArg some (by kernel_rfl))
 f219:=Tryz.func215.trans (congrArg some (by kernel_rfl))
 f221:=Tryz.func174.trans (congrArg some (by kernel_rfl))
 f224:=Tryz.func240.trans (congrArg some (by kernel_rfl))
 f225:=Tryz.func239.trans (congrArg some (by kernel_rfl))
 f260:=Tryz.func242.trans (congrArg some (by kernel_rfl))
 f266:=Tryz.func253.trans (congrArg some (by kernel_rfl))
 f267:=Tryz.func241.trans (congrArg some (by kernel_rfl))
 f268:=Tryz.func212.trans (congrArg some (by kernel_rfl))
 f314:=Tryz.func254.trans (congrArg some (by kernel_rfl))
 t0:=Tryz.underlying0
 a0:=Tryz.isAgg0
 z0:=Tryz.sizeOf0
 v0:=Tryz.zeroValue0
 t3:=Tryz.underlying3
 a3:=Tryz.isAgg3
 z3:=Tryz.sizeOf3
 v3:=Tryz.zeroValue3
 t4:=Tryz.underlying4
 a4:=Tryz.isAgg4
 z4:=Tryz.sizeOf4
 v4:=Tryz.zeroValue4
 t5:=Tryz.underlying5
 a5:=Tryz.isAgg5
 z5:=Tryz.sizeOf5
 v5:=Tryz.zeroValue5
 t9:=Tryz.underlying9
 a9:=Tryz.isAgg9
 z9:=Tryz.sizeOf9
 v9:=Tryz.zeroValue9
 t21:=Tryz.underlying21
 a21:=Tryz.isAgg21
 z21:=Tryz.sizeOf21
 v21:=Tryz.zeroValue21
 t31:=Tryz.underlying153
 a31:=Tryz.isAgg153
 z31:=Tryz.sizeOf153
 v31:=Tryz.zeroValue153
 t46:=Tryz.underlying208
 a46:=Tryz.isAgg208
 z46:=Tryz.sizeOf208
 v46:=Tryz.zeroValue208
 t51:=Tryz.underlying264
 a51:=Tryz.isAgg264
 z51:=Tryz.sizeOf264
 v51:=Tryz.zeroValue264
 t105:=Tryz.underlying306
 a105:=Tryz.isAgg306
 z105:=Tryz.sizeOf306
 v105:=Tryz.zeroValue306
 t119:=Tryz.underlying336
 a119:=Tryz.isAgg336
 z119:=Tryz.sizeOf336
 t138:=Tryz.underlying338
 a138:=Tryz.isAgg338
 z138:=Tryz.sizeOf338
 v138:=Tryz.zeroValue338
 t139:=Tryz.underlying339
 a139:=Tryz.isAgg339
 z139:=Tryz.sizeOf339
 v139:=Tryz.zeroValue339
 t146:=Tryz.underlying334
 a146:=Tryz.isAgg334
 z146:=Tryz.sizeOf334
 v146:=Tryz.zeroValue334
 g1:=by kernel_rfl
 g3:=by kernel_rfl
 g4:=by kernel_rfl }
open Go.RowKit Go.Lib in
theorem Tryz.strings_Split (s D:ByteArray)(m:Int)(w:World)(J:s.size<4294967281)(I:w.cell? ⟨3,0,none⟩=some (.int .i64 m))(h1:1<=D.size) :
 Calls Tryz.prog 125 #[.string s,.string D] w λe w'=>
  e=.returned (.slice (some ⟨w.heap.size,0,none⟩) (Lib.countB s D+1) (Lib.countB s D+1))/\w'=w.alloc (.cells ((Lib.splitB D 0 (Lib.countB s D) s).map Value.string).toArray 9):=Any.strings_Split Tryz.lays146 (by kernel_rfl) s D m w J I h1
end Go.Proofs
namespace Go.Proofs.YtpgdchkdlgkmgaaGreatDoor
open Go.Lw _root_.Go.Proofs.Tryz
theorem u6a:CallOf prog 86:=mkC func86
theorem j1a {w w':World}{D:String}{k:IntKind}{zs:List Int}{S:List Nat}(h:Lib.TabIs prog w D k zs)(hf:Fr S w w')(M:∀g,prog.globalNamed D=some g->g∉S):Lib.TabIs prog w' D k zs:=by
 unfold Lib.TabIs World.var? at *
 cases hg:prog.globalNamed D with
 | none=>simp[hg]at h
 | some g=>
  simp only[hg,Option.bind_some]at h ⊢;have J:g<w.heap.size:=by
   rcases Nat.lt_or_ge g w.heap.size with I|I
   exact I;rw[Array.getElem?_eq_none I]at h;simp at h
  rw[hf.block g J (M g hg)];exact h
theorem gPow:prog.globalNamed "internal/strconv.uint64pow10" =some 4:=by kernel_rfl
structure Glob (w:World):Prop where
  wd:Cells w ⟨1,0,none⟩ (z8h.map S)
  dr:Cells w ⟨2,0,none⟩ (x2v.map S)
  ml:IntAt 3 w
  tab:Lib.TabIs prog w "internal/strconv.uint64pow10" .u64 Lib.pow10Tab
  es:∃te pe,w.cell? ⟨9,0,none⟩=some (.iface te pe)
  er:∃te pe,w.cell? ⟨10,0,none⟩=some (.iface te pe)
  sz:11<=w.heap.size
theorem Glob.fr {w w':World}{S:List Nat}(h:Glob w)(hf:Fr S w w')(J:∀k∈S,11<=k):Glob w':=by
 have D:∀g,g<11->g∉S:=λg I e=>by have:=J g e;omega
 exact⟨h.wd.fr hf (D _ (by decide)),h.dr.fr hf (D _ (by decide)),h.ml.fr hf (D _ (by decide)),j1a h.tab hf (λg I=>by rw[gPow]at I;cases I;exact D _ (by decide)),let ⟨a,b,e⟩:=h.es;⟨a,b,hf.cell e (D _ (by decide))⟩,let ⟨a,b,e⟩:=h.er;⟨a,b,hf.cell e (D _ (by decide))⟩,Nat.le_trans h.sz hf.size⟩
theorem Glob.ext {w w':World}(h:Glob w)(hf:Fr [] w w'):Glob w':=h.fr hf (by simp)
theorem v4h (w:World)(k:Nat)(l:Array Obj):Fr [] w (Sort.grow (w.drewN k) l):=
 (Fr.drewN [] w k).next ⟨rfl,rfl,rfl,by simp[Sort.grow],λk D _=>by simp only[Sort.grow];exact Array.getElem?_append_left D⟩
theorem y9v (n:Int)(w0:World)(hG:Glob w0)(h:-99<=n/\n<=99):Rets prog 86 #[.int .i64 n] w0 λv w'=>v=S (x4y n)/\Fr [] w0 w':=by
 refine Calls.mono (strconv_Itoa n (by omega) (by omega) w0 hG.tab) ?_;rintro e w' ⟨rfl,k,D,rfl⟩;exact⟨_,rfl,by rw[u9p h];rfl,v4h _ _ _⟩
theorem x0h (b p:Int)(w0:World)(hG:Glob w0):Rets prog 223 #[.agg #[.int .u8 b,.int .i64 p]] w0 λv w'=>v=S (v6b b p)/\Fr [] w0 w':=by
 have U:=hG.sz;refine we [(0,.agg #[.int .u8 b,.int .i64 p])] func223 rfl ntmps223 rfl (.cons rfl .nil) (sr (bx rfl rfl rfl (λg1 w1 Z D M z1=>(asg rfl (nn (sq (sr (z0k rfl D z5z (cl (ev1 rfl) u0o (z4p _ _ _) rfl ?_)))))))));rintro _ w2 ⟨rfl,I⟩;refine ne' rfl rfl (nn (cd rfl (λJ=>?_) (λJ=>?_)));refine sr (asg rfl (nn (rt (tr (r1 results223 rfl ?_)))));exact⟨_,rfl,by rw[v6b,if_pos J]<;>rfl,(M.n1 I)⟩;have hr:=x7h.1 (Classical.not_not.1 J);refine sk (tn (sq (sr (fad rfl z6t ?_))));replace D:=D.ext I;refine z0g rfl D rfl x1z (eq' rfl rfl (nn (cd rfl (λO=>?_) (λO=>?_))));refine sr (fad rfl z6v (z0g rfl D rfl na3 ?_));replace hG:=hG.ext (M.n1 I);refine cl (ev1 rfl) u6a (y9v _ _ hG (by omega)) rfl ?_;rintro _ w3 ⟨rfl,q3⟩;refine y8b rfl rfl (by have:=y5m p;simp;omega) rfl (asg rfl (kpL [(2,_)] (.cons rfl .nil) (nn (rt (tr (r1 results223 rfl ?_))))));exact⟨_,rfl,by rw[v6b,if_neg J,if_pos O]<;>rfl,(M.n2 I q3)⟩;refine sk (tn (sr (fad rfl z6v (z0g rfl D rfl na3 ?_))));replace hG:=hG.ext (M.n1 I);refine cl (ev1 rfl) u6a (y9v _ _ hG (by omega)) rfl ?_;rintro _ w4 ⟨rfl,q4⟩;refine y8b rfl rfl (by have:=y5m p;simp;omega) rfl (asg rfl (kpL [(2,_)] (.cons rfl .nil) (nn (rt (r1 results223 rfl ?_)))));exact⟨_,rfl,by rw[v6b,if_neg J,if_neg O]<;>rfl,(M.n2 I q4)⟩
theorem x6o (v:Value)(ys:List (List UInt8))(D:List UInt8)(base T:Nat)(w0:World)(I:Lw.Own Enc.str T base w0 v ys)(M:ys≠[])(hl:(Lib.join ys D).length<=1000000)(a0:ys.length<=1000000):Rets prog 82 #[v,S D] w0 λr w'=>r=S (Lib.join ys D)/\Fr [] w0 w':=by
 rcases I with ⟨_,e⟩|⟨g,cap,cur,rfl,J,O,h1,h2,h3,h4⟩
 exact absurd e M;have Z:(ys.map (λy=>(⟨y.toArray⟩:ByteArray))).map (·.data.toList)=ys:=by rw[List.map_map];simp[Function.comp_def]
 have I:Lw.Own Enc.str T base w0 (.slice (some ⟨g,0,none⟩) ys.length cap) ys:=.inr ⟨g,cap,cur,rfl,J,O,h1,h2,h3,h4⟩;have U:=strings_Join g 0 cap (ys.map (λy=>(⟨y.toArray⟩:ByteArray))) ⟨D.toArray⟩ w0 (λj x hx=>by
  rw[List.getElem?_map,Option.map_eq_some_iff]at hx;obtain⟨y,hy,rfl⟩:=hx;obtain⟨A,c,e,_,_,hA⟩:=I.sl;cases e;obtain⟨ad,e1,hc⟩:=hA j y hy;cases e1;have:=hc 0 (S y) rfl;rw[z3s,z3s,Nat.add_zero,show Enc.str.sz=1 from rfl,Nat.mul_one]at this;exact this) ((Array.getElem?_eq_some_iff.1 O).1) (by simp;omega) (by simp;omega) (by rw[Z];simp;omega)
 rw[Z,List.length_map]at U;refine Calls.mono U ?_;rintro e w' ⟨rfl,J⟩;exact⟨_,rfl,by simp[S],Fr.of_below J⟩
theorem v9z (w:World)(t:ByteArray):Fr [] w (Lib.bytesWorld w 5 t):=Fr.of_below (Lib.bytesWorld_below w 5 t)
theorem u7n (l:List UInt8)(w0:World)(hG:Glob w0)(hl:l.length<=1000000):Rets prog 245 #[S l] w0 λr w'=>∃n e,∃b:Bool,r=.tuple #[.int .i64 n,e]/\(e=.nilIface/\b=false\/(∃t p,e=.iface t p)/\b=true)/\u0s l=(if b=true then 0 else n)/\Fr [] w0 w':=by
 have O:(⟨l.toArray⟩:ByteArray).size=l.length:=by simp[ByteArray.size]
 rcases h:Lib.atoiAll l with v|_|_
 refine Calls.mono (strconv_Atoi_ok ⟨l.toArray⟩ (by omega) v (by simpa using h) w0) ?_;rintro e w' ⟨rfl,J⟩;refine⟨_,rfl,v,.nilIface,false,rfl,.inl ⟨rfl,rfl⟩,by simp[u0s,h],?_⟩;rcases J with rfl|⟨t,rfl⟩
 exact Fr.refl _ _;exact v9z w0 t;obtain⟨te,M,I⟩:=hG.es;refine Calls.mono (strconv_Atoi_syntax ⟨l.toArray⟩ (by omega) (show Lib.atoiAll l=Lib.atoiAll [] from h) _ w0 I (.inr ⟨_,_,rfl⟩)) ?_;rintro e w' ⟨N,rfl,_,_,D⟩;exact⟨_,rfl,_,_,true,rfl,.inr ⟨⟨_,_,rfl⟩,rfl⟩,by simp[u0s,h],Fr.of_below D⟩;obtain⟨te,M,I⟩:=hG.er;refine Calls.mono (strconv_Atoi_range ⟨l.toArray⟩ (by omega) (by simpa using h) _ w0 I (.inr ⟨_,_,rfl⟩)) ?_;rintro e w' ⟨N,rfl,_,_,D⟩;exact⟨_,rfl,_,_,true,rfl,.inr ⟨⟨_,_,rfl⟩,rfl⟩,by simp[u0s,h],Fr.of_below D⟩
theorem x7c (l D:List UInt8)(w0:World)(hG:Glob w0)(hl:l.length<4294967281)(h1:1<=D.length):Rets prog 125 #[S l,S D] w0 λr w'=>Lw.Own Enc.str 9 w0.heap.size w' r (Lib.split l D)/\Fr [] w0 w':=by
 obtain⟨k,Z⟩:=hG.ml;have hs:(⟨l.toArray⟩:ByteArray).size=l.length:=by simp[ByteArray.size]
 have a0:(⟨D.toArray⟩:ByteArray).size=D.length:=by simp[ByteArray.size]
 refine Calls.mono (strings_Split ⟨l.toArray⟩ ⟨D.toArray⟩ k w0 (by omega) Z (by omega)) ?_;rintro e w' ⟨rfl,rfl⟩;have U:=Lib.splitB_data ⟨D.toArray⟩ 0 (Lib.countB ⟨l.toArray⟩ ⟨D.toArray⟩) ⟨l.toArray⟩;have O:Lib.countB ⟨l.toArray⟩ ⟨D.toArray⟩=Lib.count l D:=by simp[Lib.countB]
 have I:=Lib.splitB_all ⟨D.toArray⟩ (by omega) 0 _ ⟨l.toArray⟩ rfl;have J:=Lib.countB_le ⟨D.toArray⟩ (by omega) _ ⟨l.toArray⟩ (Nat.le_refl _);rw[hs]at J;have M:Lib.split l D=(Lib.splitB ⟨D.toArray⟩ 0 (Lib.countB ⟨l.toArray⟩ ⟨D.toArray⟩) ⟨l.toArray⟩).map (·.data.toList):=by rw[U,O];rfl
 have hz:∀zs:List ByteArray,zs.map Value.string=(zs.map (·.data.toList)).flatMap Enc.str.enc:=λzs=>by
  induction zs with
  | nil=>rfl
  | cons z zs ih=>rw[List.map_cons,List.map_cons,List.flatMap_cons,<-ih];rfl
 refine⟨_,rfl,.inr ⟨w0.heap.size,Lib.countB ⟨l.toArray⟩ ⟨D.toArray⟩+1,_,by rw[M,List.length_map,I],Nat.le_refl _,heap_alloc_new w0 _,by rw[M,List.length_map,I];exact Nat.le_refl _,by unfold maxLen;omega,?_,?_⟩,Fr.alloc [] w0 _⟩;rw[show Enc.str.sz=1 from rfl,Nat.mul_one,List.size_toArray,List.length_map,I];exact Nat.le_refl _;rw[M,List.length_map,I,show Enc.str.sz=1 from rfl,Nat.mul_one,<-hz];exact List.take_of_length_le (by rw[List.length_map,I];exact Nat.le_refl _)
theorem u8l (l:List UInt8)(w0:World)(hl:l.length<=1000000000):Rets prog 127 #[S l,S [32]] w0 λr w'=>r=S (Lib.trimB l 32)/\Fr [] w0 w':=by
 refine Calls.mono (strings_Trim_one ⟨l.toArray⟩ 32 (by decide) w0 (by simp[ByteArray.size];omega)) ?_;rintro e w' ⟨rfl,rfl|rfl⟩;exact⟨_,rfl,by simp[S],Fr.refl _ _⟩;exact⟨_,rfl,by simp[S],Fr.drew _ _⟩
theorem u4x (l m:List UInt8)(w0:World)(hG:Glob w0)(hl:l.length<4294967281):Rets prog 126 #[S l,S m] w0 λv w'=>v=.tuple #[S (Lib.cut l m).1,S (Lib.cut l m).2.1,.bool (Lib.cut l m).2.2]/\Fr [] w0 w':=by
 obtain⟨k,D⟩:=hG.ml;refine Calls.mono (strings_Cut ⟨l.toArray⟩ ⟨m.toArray⟩ k w0 (by simpa[ByteArray.size] using hl) D) ?_;rintro e w' ⟨rfl,n,rfl⟩;exact⟨_,rfl,rfl,Fr.drewN _ _ _⟩
end Go.Proofs.YtpgdchkdlgkmgaaGreatDoor
namespace Go.Lw
theorem y1h {P:Program}{W:World}{n:String}{d:DataW Unit}:∀ {l:List (String×DataW Unit)} {ps:List MemPlace},DataW.LaidVars P W l ps->(n,d)∈l->
    ∃g t cs D p,P.globalNamed n=some g/\(P.globals[g]?).map (·.type)=some t/\W.var? P n=some cs/\DataW.trod (λ_=>()) P W 0 (λ_=>true) false D t cs.toList=some (d,p)
  | [],_,_,I=>by simp at I
  | (m,e)::r,ps,h,I=>by
    obtain⟨g,t,cs,D,p,q,J,M,O,U,Z,_⟩:=h
    rcases List.mem_cons.1 I with e|I
    · cases e;exact⟨g,t,cs,D,p,J,M,O,U⟩
    · exact y1h Z I
theorem y9r {H:Type}{enc:TypeId×Value->H}{P:Program}{w:World}{base:Nat}{sp:Nat->Bool}{J:Bool}{D:Nat}{t e:TypeId}{n:Nat}{cs:List Value}{zs:List (List UInt8)}{p:List MemPlace}
    (ht:P.underlying t=some (.array n e)) (he:P.underlying e=some .string) (hce:P.cellsOf e=1) (hct:P.cellsOf t=n)
    (h:DataW.trod enc P w base sp J D t cs=some (.agg (zs.map λz=>.lit (.string z)),p)):cs=zs.map S:=by
  cases D with
  | zero=>simp[DataW.trod]at h
  | succ D=>
    simp only[DataW.trod,ht,hce,hct,Nat.mul_one]at h
    split at h
    · rename_i hl
      obtain⟨O,Z,hx⟩:=Option.map_eq_some_iff.1 h
      have M:O.map (·.1)=zs.map λz=>(DataW.lit (.string z):DataW H):=by
        have:=congrArg Prod.fst hx
        simpa using this
      have a0:O.length=n:=by simpa using Lib.mapM_length Z
      have a1:zs.length=n:=by
        have:=congrArg List.length M
        simp at this
        omega
      apply List.ext_getElem?
      intro i
      by_cases hi:i<n
      · obtain⟨b,hb,hf⟩:=Lib.mapM_at Z i i (by simp[hi])
        obtain⟨s,hc,h2,_⟩:=DataW.trod_string he hf
        have h1:cs[i]?=some (.string s):=by
          have:=congrArg (·[0]?) hc
          simpa[List.getElem?_take,List.getElem?_drop] using this
        have U:(O.map (·.1))[i]?=some b.1:=by simp[hb]
        rw[M,List.getElem?_map,Option.map_eq_some_iff]at U
        obtain⟨z,hz,I⟩:=U
        rw[h2]at I
        simp only[DataW.lit.injEq,Lit.string.injEq]at I
        rw[h1,List.getElem?_map,hz,I]
        simp[S]
      · rw[List.getElem?_eq_none (by omega),List.getElem?_eq_none (by simp;omega)]
    · cases h
theorem v8e {H:Type}{enc:TypeId×Value->H}{P:Program}{w:World}{base:Nat}{sp:Nat->Bool}{I:Bool}{D:Nat}{t:TypeId}{ms}{cs:List Value}{nm:String}{d:DataW H}{p:List MemPlace}
    (ht:P.underlying t=some (.interface ms)) (h:DataW.trod enc P w base sp I D t cs=some (.iface nm d,p)):∃u v,cs=[.iface u v]:=by
  cases D with
  | zero=>simp[DataW.trod]at h
  | succ D=>
    simp only[DataW.trod,ht]at h
    split at h<;>simp_all
theorem j1l {P:Program}{W:World}{n:String}{g:Nat}{cs:Array Value}(I:P.globalNamed n=some g)(h:W.var? P n=some cs):g<W.heap.size:=by
 unfold World.var? at h;simp only[I,Option.bind_some]at h;rcases Nat.lt_or_ge g W.heap.size with D|D
 exact D;rw[Array.getElem?_eq_none D]at h;simp at h
end Go.Lw
namespace Go.Proofs.YtpgdchkdlgkmgaaGreatDoor
open Go.ChangeShapes Go.WideShapes Go.ChangeAt Go.RowKit Go.Lw
theorem own:ownKnob Tryz.prog.godebug=none:=by kernel_rfl
theorem u9v:laidOutB Tryz.prog=true:=by kernel_rfl
def y3d:List (String×DataW Unit):=[("math/bits.deBruijn32tab",Rows.laid_math_bits_deBruijn32tab),("math/bits.deBruijn64tab",Rows.laid_math_bits_deBruijn64tab),("internal/strconv.uint64pow10",Rows.laid_internal_strconv_uint64pow10),("unicode/utf8.acceptRanges",Rows.laid_unicode_utf8_acceptRanges),("strconv.ErrRange",Rows.laid_strconv_ErrRange),("strconv.ErrSyntax",Rows.laid_strconv_ErrSyntax),("gansey/orders.steps",Rows.laid_gansey_orders_steps),("gansey/operations.words",Rows.laid_gansey_operations_words),("gansey/operations.dirs",Rows.laid_gansey_operations_dirs),("unicode/utf8.first",Rows.laid_unicode_utf8_first)]
theorem v2v {n:String}{zs:List (List UInt8)}{W:World}{l:List (String×DataW Unit)}{ps:List MemPlace}{g t m:Nat}(hL:DataW.LaidVars Tryz.prog W l ps)(hm:(n,.agg (zs.map λz=>.lit (.string z)))∈l)(ht:Tryz.prog.underlying t=some (.array m 9))(M:Tryz.prog.globalNamed n=some g:=by kernel_rfl)(I:(Tryz.prog.globals[g]?).map (·.type)=some t:=by kernel_rfl)(D:Tryz.prog.cellsOf t=m:=by kernel_rfl):Cells W ⟨g,0,none⟩ (zs.map S):=by
 obtain⟨g',t',cs,J,p,O,U,Z,e4⟩:=y1h hL hm;cases M.symm.trans O;cases I.symm.trans U;have hc:=y9r ht Tryz.underlying9 (by kernel_rfl) D e4;intro j u hu;rw[z3s,Nat.zero_add,World.var?_cell M Z j,<-Array.getElem?_toList,hc];exact hu
theorem u3i {n nm:String}{d:DataW Unit}{W:World}{l:List (String×DataW Unit)}{ps:List MemPlace}{g:Nat}(hL:DataW.LaidVars Tryz.prog W l ps)(hm:(n,.iface nm d)∈l)(J:Tryz.prog.globalNamed n=some g)(D:(Tryz.prog.globals[g]?).map (·.type)=some 155):∃te pe,W.cell? ⟨g,0,none⟩=some (.iface te pe):=by
 obtain⟨g',t',cs,I,p,M,O,U,Z⟩:=y1h hL hm;cases J.symm.trans M;cases D.symm.trans O;obtain⟨u,v,hc⟩:=v8e Tryz.underlying155 Z;exact⟨u,v,by rw[World.var?_cell J U 0,<-Array.getElem?_toList,hc];rfl⟩
theorem u6p {W:World}(h:laidMetH Tryz.prog y3d W)(M:W.ShapedOpen Tryz.prog):Glob W:=by
 have h':laidMet Tryz.prog y3d W:=h;obtain⟨ps,D,_,_⟩:=h';refine⟨?_,?_,(Go.Proofs.cell_of_shapedOpen_int (zero:=#[.int .i64 0]) (t:=3) M (of_decide_eq_true (by kernel_rfl)) (by kernel_rfl) rfl (by kernel_rfl) (by kernel_rfl) Tryz.underlying3),?_,?_,?_,?_⟩;exact v2v (zs:=z8h) (n:= "gansey/operations.words") (t:=309) (m:=9) D (by simp[y3d];rfl) Tryz.underlying309;exact v2v (zs:=x2v) (n:= "gansey/operations.dirs") (t:=313) (m:=2) D (by simp[y3d];rfl) Tryz.underlying313;obtain⟨g',t',cs,I,p,O,U,J,Z⟩:=y1h (n:= "internal/strconv.uint64pow10") (d:=Rows.laid_internal_strconv_uint64pow10) D (by simp[y3d]);cases gPow.symm.trans O;cases (show (Tryz.prog.globals[4]?).map (·.type)=some 332 by kernel_rfl).symm.trans U;unfold Lib.TabIs;rw[J];have:=Lib.cells_of_tab (zs:=Lib.pow10Tab) Tryz.underlying332 Tryz.underlying266 (by kernel_rfl) (by kernel_rfl) Z;rw[<-this];exact u3i (n:= "strconv.ErrSyntax") D (by unfold y3d;simp only[Rows.laid_strconv_ErrSyntax];simp;exact⟨rfl,rfl⟩) (by kernel_rfl) (by kernel_rfl);exact u3i (n:= "strconv.ErrRange") D (by unfold y3d;simp only[Rows.laid_strconv_ErrRange];simp;exact⟨rfl,rfl⟩) (by kernel_rfl) (by kernel_rfl);obtain⟨g',t',cs,I,p,O,U,J,Z⟩:=y1h (n:= "strconv.ErrRange") (d:=Rows.laid_strconv_ErrRange) D (by simp[y3d]);have:=j1l (show Tryz.prog.globalNamed "strconv.ErrRange" =some 10 by kernel_rfl) J;omega
theorem j2j {W:World}(h:laidMetH Tryz.prog y3d W):StT W:=by
 have Z:laidMet Tryz.prog y3d W:=h;obtain⟨ps,hL,_,_⟩:=Z;obtain⟨g',t',cs,D,p,J,M,O,U⟩:=y1h (n:= "gansey/orders.steps") (d:=Rows.laid_gansey_orders_steps) hL (by simp[y3d]);have I:Tryz.prog.globalNamed "gansey/orders.steps" =some 0:=by kernel_rfl
 cases I.symm.trans J;cases (show (Tryz.prog.globals[0]?).map (·.type)=some 290 by kernel_rfl).symm.trans M;have hc:=Lib.cells_of_tab (zs:=[-1,1]) Tryz.underlying290 Tryz.underlying3 (by kernel_rfl) (by kernel_rfl) U;constructor;intro j u hu;rw[z3s,Nat.zero_add,World.var?_cell I O j,<-Array.getElem?_toList,hc];exact hu
def j2u:List (String×DataW Unit):=y3d.filter λp=>match p.2 with|.iface _ _=>false|_=>true
noncomputable def witP (os:Os):World:=j6w Tryz.prog os j2u
noncomputable def u3p (w:World)(g:Nat)(s:List UInt8):World:=layW (w.alloc (.cells #[.string ⟨s.toArray⟩] 360)) g #[.iface 358 (.pointer (some ⟨w.heap.size,0,none⟩))]
noncomputable def j7s (os:Os):World:=u3p (u3p (witP os) 10 [118,97,108,117,101,32,111,117,116,32,111,102,32,114,97,110,103,101]) 9 [105,110,118,97,108,105,100,32,115,121,110,116,97,120]
end Go.Proofs.YtpgdchkdlgkmgaaGreatDoor
namespace Go.Proofs.YtpgdchkdlgkmgaaGreatDoor
open Go.Lw
def j7r:Enc (Int×Int):=⟨λp=>[.int .u8 p.1,.int .i64 p.2],2,λ_=>rfl,λ_ u h=>by simp at h;rcases h with rfl|rfl<;>rfl,by decide⟩
def _root_.Go.Lw.MOp.Rng (o:MOp):Prop:=(0<=o.k/\o.k<=255)/\(0<=o.d/\o.d<=255)/\(0<=o.b/\o.b<=255)/\(-9223372036854775808<=o.p/\o.p<=9223372036854775807)/\(0<=o.y/\o.y<=255)/\(-9223372036854775808<=o.r/\o.r<=9223372036854775807)
theorem u2s {cs:List Value}(h:cs.length=6):∃D I c2 c3 c4 c5,cs=[D,I,c2,c3,c4,c5]:=match cs,h with|[D,I,c2,c3,c4,c5],_=>⟨D,I,c2,c3,c4,c5,rfl⟩
theorem opOX:y4z Tryz.prog 76 x4q (λ_ s=>s.Bytes):=by
 intro H enc w base sp D U cs x h;obtain⟨O,n,_,_,hl,I,hf⟩:=DataW.trod_struct Tryz.underlying76 h;rw[show Tryz.prog.cellsOf 76=6 by kernel_rfl]at hl;obtain⟨J,M,c2,c3,c4,c5,rfl⟩:=u2s hl;have Z:DataW.trod enc Tryz.prog w base sp D n 5 (([J,M,c2,c3,c4,c5].drop 0).take (Tryz.prog.cellsOf 5))=O[0]?:=hf 0 _ rfl;rw[show Tryz.prog.cellsOf 5=1 by kernel_rfl]at Z;obtain⟨y0,e0,r0⟩:=z2j (cs:=[J]) Z I (by decide) (z5a Tryz.underlying5);have h1:DataW.trod enc Tryz.prog w base sp D n 5 (([J,M,c2,c3,c4,c5].drop 1).take (Tryz.prog.cellsOf 5))=O[1]?:=hf 1 _ rfl;rw[show Tryz.prog.cellsOf 5=1 by kernel_rfl]at h1;obtain⟨y1,e1,r1⟩:=z2j (cs:=[M]) h1 I (by decide) (z5a Tryz.underlying5);have h2:DataW.trod enc Tryz.prog w base sp D n 5 (([J,M,c2,c3,c4,c5].drop 2).take (Tryz.prog.cellsOf 5))=O[2]?:=hf 2 _ rfl;rw[show Tryz.prog.cellsOf 5=1 by kernel_rfl]at h2;obtain⟨y2,e2,r2⟩:=z2j (cs:=[c2]) h2 I (by decide) (z5a Tryz.underlying5);have h3:DataW.trod enc Tryz.prog w base sp D n 5 (([J,M,c2,c3,c4,c5].drop 3).take (Tryz.prog.cellsOf 5))=O[3]?:=hf 3 _ rfl;rw[show Tryz.prog.cellsOf 5=1 by kernel_rfl]at h3;obtain⟨y3,e3,r3⟩:=z2j (cs:=[c3]) h3 I (by decide) (z5a Tryz.underlying5);have h4:DataW.trod enc Tryz.prog w base sp D n 5 (([J,M,c2,c3,c4,c5].drop 4).take (Tryz.prog.cellsOf 5))=O[4]?:=hf 4 _ rfl;rw[show Tryz.prog.cellsOf 5=1 by kernel_rfl]at h4;obtain⟨y4,e4,r4⟩:=z2j (cs:=[c4]) h4 I (by decide) (z5a Tryz.underlying5);have h5:DataW.trod enc Tryz.prog w base sp D n 5 (([J,M,c2,c3,c4,c5].drop 5).take (Tryz.prog.cellsOf 5))=O[5]?:=hf 5 _ rfl;rw[show Tryz.prog.cellsOf 5=1 by kernel_rfl]at h5;obtain⟨y5,e5,r5⟩:=z2j (cs:=[c5]) h5 I (by decide) (z5a Tryz.underlying5);cases e0;cases e1;cases e2;cases e3;cases e4;cases e5;exact⟨⟨y0,y1,y2,y3,y4,y5⟩,rfl,⟨r0,r1,r2,r3,r4,r5⟩⟩
theorem v9k {cs:List Value}(h:cs.length=2):∃D I,cs=[D,I]:=match cs,h with|[D,I],_=>⟨D,I,rfl⟩
theorem opNd:y4z Tryz.prog 24 j7r (λ_ s=>(0<=s.1/\s.1<=255)/\(-9223372036854775808<=s.2/\s.2<=9223372036854775807)):=by
 intro H enc w base sp D O cs x h;obtain⟨xs,n,_,_,hl,I,hf⟩:=DataW.trod_struct Tryz.underlying24 h;rw[show Tryz.prog.cellsOf 24=2 by kernel_rfl]at hl;obtain⟨J,M,rfl⟩:=v9k hl;have U:DataW.trod enc Tryz.prog w base sp D n 22 (([J,M].drop 0).take (Tryz.prog.cellsOf 22))=xs[0]?:=hf 0 _ rfl;rw[show Tryz.prog.cellsOf 22=1 by kernel_rfl]at U;obtain⟨y0,e0,r0⟩:=z2j (cs:=[J]) U I (by decide) (z5a Tryz.underlying22);have Z:DataW.trod enc Tryz.prog w base sp D n 3 (([J,M].drop 1).take (Tryz.prog.cellsOf 3))=xs[1]?:=hf 1 _ rfl;rw[show Tryz.prog.cellsOf 3=1 by kernel_rfl]at Z;obtain⟨y1,e1,r1⟩:=z2j (cs:=[M]) Z I (by decide) (x2i Tryz.underlying3);cases e0;cases e1;exact⟨(y0,y1),rfl,⟨r0,r1⟩⟩
theorem u2j {cs:List Value}(h:cs.length=6):∃D I c2 c3 c4 c5,cs=[D,I,c2,c3,c4,c5]:=match cs,h with|[D,I,c2,c3,c4,c5],_=>⟨D,I,c2,c3,c4,c5,rfl⟩
theorem opOp:y4z Tryz.prog 28 z5r (λ_ s=>s.Rng):=by
 intro H enc w base sp D U cs x h;obtain⟨O,n,_,_,hl,I,hf⟩:=DataW.trod_struct Tryz.underlying28 h;rw[show Tryz.prog.cellsOf 28=6 by kernel_rfl]at hl;obtain⟨J,M,c2,c3,c4,c5,rfl⟩:=u2j hl;have Z:DataW.trod enc Tryz.prog w base sp D n 25 (([J,M,c2,c3,c4,c5].drop 0).take (Tryz.prog.cellsOf 25))=O[0]?:=hf 0 _ rfl;rw[show Tryz.prog.cellsOf 25=1 by kernel_rfl]at Z;obtain⟨y0,e0,r0⟩:=z2j (cs:=[J]) Z I (by decide) (z5a Tryz.underlying25);have h1:DataW.trod enc Tryz.prog w base sp D n 26 (([J,M,c2,c3,c4,c5].drop 1).take (Tryz.prog.cellsOf 26))=O[1]?:=hf 1 _ rfl;rw[show Tryz.prog.cellsOf 26=1 by kernel_rfl]at h1;obtain⟨y1,e1,r1⟩:=z2j (cs:=[M]) h1 I (by decide) (z5a Tryz.underlying26);have h2:DataW.trod enc Tryz.prog w base sp D n 24 (([J,M,c2,c3,c4,c5].drop 2).take (Tryz.prog.cellsOf 24))=O[2]?:=hf 2 _ rfl;rw[show Tryz.prog.cellsOf 24=2 by kernel_rfl]at h2;obtain⟨y2,e2,r2⟩:=z2j (cs:=[c2,c3]) h2 I (by decide) opNd;have h3:DataW.trod enc Tryz.prog w base sp D n 5 (([J,M,c2,c3,c4,c5].drop 4).take (Tryz.prog.cellsOf 5))=O[3]?:=hf 3 _ rfl;rw[show Tryz.prog.cellsOf 5=1 by kernel_rfl]at h3;obtain⟨y3,e3,r3⟩:=z2j (cs:=[c4]) h3 I (by decide) (z5a Tryz.underlying5);have h4:DataW.trod enc Tryz.prog w base sp D n 3 (([J,M,c2,c3,c4,c5].drop 5).take (Tryz.prog.cellsOf 3))=O[4]?:=hf 4 _ rfl;rw[show Tryz.prog.cellsOf 3=1 by kernel_rfl]at h4;obtain⟨y4,e4,r4⟩:=z2j (cs:=[c5]) h4 I (by decide) (x2i Tryz.underlying3);cases e0;cases e1;cases e2;cases e3;cases e4;exact⟨⟨y0,y1,y2.1,y2.2,y3,y4⟩,rfl,⟨r0,r1,r2.1,r2.2,r3,r4⟩⟩
end Go.Proofs.YtpgdchkdlgkmgaaGreatDoor
namespace Go.Proofs.YtpgdchkdlgkmgaaGreatDoor
open Go.Lw _root_.Go.Proofs.Tryz
theorem z3w:ElemOf prog 153 9 Enc.str 16:=ElemOf.mk' (z:=(.string ⟨#[]⟩)) underlying153 (by kernel_rfl) rfl
theorem na9:z2c prog 9:=λ_=>by kernel_rfl
theorem sz9:z1p prog 9 1:=λ_=>by kernel_rfl
theorem y0r (l:List UInt8)(w0:World)(hG:Glob w0)(hl:l.length<=1000000):Rets prog 220 #[S l] w0 λv w'=>v=.int .i64 (u0s l)/\Fr [] w0 w':=by
 have M:=hG.sz;refine we [(0,S l)] func220 rfl ntmps220 rfl (.cons rfl .nil) (sr (asg rfl (nn (sr (mv rfl (cl (ev1 rfl) (mkC func245) (u7n _ _ hG (by omega)) rfl ?_))))));rintro _ w1 ⟨n,e,b,rfl,O,I,J⟩;refine mv rfl (xt rfl rfl (xt rfl rfl (asg rfl (asg rfl (kpL [(3,_),(4,_)] (.c2 rfl rfl) (nn (sq (sr (mv rfl (u4w rfl underlying155 O rfl (nn (cd rfl (λD=>?_) (λD=>?_)))))))))))));refine sr (asg rfl (nn (rt (tr (r1 results220 rfl ?_)))));exact⟨_,rfl,by simp[I,D],J⟩;refine sk (tn (sr (mv rfl (asg rfl (nn (rt (r1 results220 rfl ?_)))))));exact⟨_,rfl,by simp[I,D],J⟩
theorem u4l (l:List UInt8)(w0:World)(hG:Glob w0):Rets prog 221 #[S l] w0 λv w'=>v=.int .u8 (j0t l)/\Fr [] w0 w':=by
 have I:=hG.sz;refine we [(0,S l)] func221 rfl ntmps221 rfl (.cons rfl .nil) (sr (asg rfl (nn (sq (sr (mv rfl (y2u rfl rfl underlying313 sz9 (z8b rfl hG.dr rfl na9 (u1n rfl rfl rfl (nn (cd rfl (λD=>?_) (λD=>?_))))))))))));refine sr (asg rfl (nn (rt (tr (r1 results221 rfl ?_)))));exact⟨_,rfl,by rw[j0t,if_pos D],(Fr.refl _ _)⟩;refine sk (tn (sr (asg rfl (nn (rt (r1 results221 rfl ?_))))));exact⟨_,rfl,by rw[j0t,if_neg D],(Fr.refl _ _)⟩
theorem j0a (o:MOp)(w0:World)(hG:Glob w0):Rets prog 184 #[opV o] w0 λv w'=>v=S (j1x o)/\Fr [] w0 w':=by
 have e8:=hG.sz;refine we [(0,opV o)] func184 rfl ntmps184 rfl (.cons rfl .nil) (sr (bx rfl rfl rfl (λg1 w1 e9 I q1 z1=>(asg rfl (nn (sq (sr (z0k rfl I y1k (cl (ev1 rfl) j0z (y0x o _) rfl ?_)))))))));rintro _ w2 ⟨rfl,q2⟩;have z2:=q2.size;refine ne' rfl rfl (nn (cd rfl (λc0=>?_) (λc0=>?_)));refine sr (asg rfl (nn (rt (tr (r1 results184 rfl ?_)))));exact⟨_,rfl,by rw[j1x,if_pos c0]<;>rfl,(q1.n1 q2)⟩;have hr:=v4w (Classical.not_not.1 c0);refine sk (tn (sr (fad rfl z3e ?_)));replace I:=I.ext q2;refine z0g rfl I rfl na5 (z5m rfl (us underlying5) underlying3 (wi6 (by omega)) ?_);replace hG:=hG.ext (q1.n1 q2);refine cl (ev1 rfl) u6a (y9v _ _ hG (by omega)) rfl ?_;rintro _ w3 ⟨rfl,q3⟩;have z3:=q3.size;refine asg rfl (nn (sr (fad rfl z8m ?_)));replace I:=I.ext q3;refine z0g rfl I rfl v7o (y2u rfl rfl underlying309 sz9 ?_);replace hG:=hG.ext q3;refine z8b rfl hG.wd (v1r (by omega)) na9 (z2h ([x6m o.k]) (ev1 rfl) rfl rfl rfl z3w (λJ w4 d9 D q4 z4=>(asg rfl ?_)));replace D:=D.low (show w0.heap.size<=J by omega);refine nn ?_;refine jn (ι:=Value) [] (λv4=>[(4,v4)]) (λv4 w'=>Fr [J] w4 w'/\Lw.Own Enc.str 9 w0.heap.size w' v4 (x6m o.k::y3b o)) .nil ?_ ?_;refine sr (fad rfl z8m ?_);replace I:=I.ext q4;refine z0g rfl I rfl v7o (nn (bl (sr (eq' rfl rfl (asg rfl (nn (cd rfl (λc1=>?_) (λc1=>?_))))))));refine rg (mv rfl (mv rfl (fad rfl z6p (z0g rfl I rfl y9j (y2u rfl rfl underlying313 sz9 ?_)))));replace hG:=hG.ext q4;refine z8b rfl hG.dr (x7v (by omega)) na9 (z2h ([x4y o.y,u8b o.d]) (ev2 rfl rfl) rfl rfl rfl z3w (λe4 w5 e0 a9 q5 z5=>?_));replace D:=D.ext q5;refine z2e (base:=w0.heap.size) rfl rfl D a9.sl z3w (by unfold maxLen;first|(simp;done)|(simp;omega)) (by simp<;>omega) (λf1 w6 U q6 d1=>?_);replace q6:Fr [J] _ _:=q6;have z6:=q6.size;refine asg rfl (kpL [(4,_)] (.cons rfl .nil) (nl (bn' ?_)));exact jE (_) (.cons rfl .nil) ⟨((Fr.refl [J] _).z2 q5 q6),by first|(rw[y3b,if_pos c1];exact U)|(exfalso;omega)⟩;refine sr (eq' rfl rfl (asg rfl (nn (cd rfl (λc2=>?_) (λc2=>?_)))));refine rg (mv rfl (mv rfl (z2h ([x4y o.y]) (ev1 rfl) rfl rfl rfl z3w (λe5 w7 e1 b0 q7 z7=>?_))));replace D:=D.ext q7;refine z2e (base:=w0.heap.size) rfl rfl D b0.sl z3w (by unfold maxLen;first|(simp;done)|(simp;omega)) (by simp<;>omega) (λf2 w8 U q8 d3=>?_);replace q8:Fr [J] _ _:=q8;have z8:=q8.size;refine asg rfl (kpL [(4,_)] (.cons rfl .nil) (nl (bn' ?_)));exact jE (_) (.cons rfl .nil) ⟨((Fr.refl [J] _).z2 q7 q8),by first|(rw[y3b,if_neg c1,if_pos c2];exact U)|(exfalso;omega)⟩;refine sr (eq' rfl rfl (asg rfl (nn (cd rfl (λc3=>?_) (λc3=>?_)))));refine rg (mv rfl (fad rfl y2o (z0g rfl I rfl na3 ?_)));replace hG:=hG.ext q4;refine cl (ev1 rfl) u6a (y9v _ _ hG (by omega)) rfl ?_;rintro _ w9 ⟨rfl,q9⟩;have z9:=q9.size;refine z2h ([x4y o.r]) (ev1 rfl) rfl rfl rfl z3w (λe6 f6 e2 b1 b3 g9=>?_);replace D:=D.ext (q9.n1 b3);refine z2e (base:=w0.heap.size) rfl rfl D b1.sl z3w (by unfold maxLen;first|(simp;done)|(simp;omega)) (by simp<;>omega) (λf3 f7 U a4 d4=>?_);replace a4:Fr [J] _ _:=a4;have h0:=a4.size;refine asg rfl (kpL [(4,_)] (.cons rfl .nil) (nl (bn' ?_)));exact jE (_) (.cons rfl .nil) ⟨((Fr.refl [J] _).z3 q9 b3 a4),by first|(rw[y3b,if_neg c1,if_neg c2,if_pos c3];exact U)|(exfalso;omega)⟩;refine jn (ι:=Bool) [(1,_),(3,_),(4,_),(18,_)] (λb4=>[(43,.bool b4)]) (λb4 w'=>Fr [] w4 w'/\b4=decide ((o.k=4\/o.k=5)\/o.k=6)) (.c4 rfl rfl rfl rfl) ?_ ?_;refine sr (eq' rfl rfl (asg rfl (nn (cd rfl (λc4=>?_) (λc4=>?_)))));refine sk ?_;exact jE (_) (.c5 rfl rfl rfl rfl rfl) ⟨(Fr.refl _ _),by first|exact bi (by omega)|exact bt (by omega)|exact bf (by omega)⟩;refine sr (eq' rfl rfl (asg rfl (nn (cd rfl (λc5=>?_) (λc5=>?_)))));refine sk ?_;exact jE (_) (.c5 rfl rfl rfl rfl rfl) ⟨(Fr.refl _ _),by first|exact bi (by omega)|exact bt (by omega)|exact bf (by omega)⟩;refine rg (eq' rfl rfl (asg rfl (nl ?_)));exact jE (_) (.c5 rfl rfl rfl rfl rfl) ⟨(Fr.refl _ _),by first|exact bi (by omega)|exact bt (by omega)|exact bf (by omega)⟩;rintro b4 b9 ⟨Z,rfl⟩;have h1:=Z.size;refine kpC [(1,_),(3,_),(4,_),(18,_),(43,_)] (.c5 rfl rfl rfl rfl rfl) (cd rfl (λc6=>?_) (λc6=>?_));replace hG:=hG.ext (q4.n1 Z);replace I:=I.ext Z;replace D:=D.ext Z;intro a h;have O:=Fr.refl [J] b9;refine z2p (λwb w'=>Fr [J] wb w') z2o ?_;intro c9 M;have h2:=M.size;replace hG:=hG.ext M;replace I:=I.ext M;replace D:=D.ext M;replace O:=O.next M;have f0:=M.size;clear M;have hC:Fr [J] c9 c9:=Fr.refl _ _;have a6:=hG;have a0:=I;have a3:=D;refine z0e 0 h rfl rfl λa h=>z0c 1 h rfl z6p rfl λa h=>z0l 2 h rfl (λ_ hw=>a0.fr hw (by simp<;>omega)) rfl y9j rfl λa h=>u8t 3 (by kernel_rfl) (by kernel_rfl) (by kernel_rfl) hC h wn rfl rfl underlying313 sz9 (by omega) (by omega) rfl rfl λa h=>u0n 4 (by kernel_rfl) (by kernel_rfl) (by kernel_rfl) hC h wn rfl (λ_ hw=>(a6.fr hw (by simp<;>omega)).dr) (x7v (by omega)) na9 rfl rfl λa h=>z0c 5 h rfl z4h rfl λa h=>z1e (vs:=[_,_]) 6 h rfl (λ_ hw=>(a0.fr hw (by simp<;>omega))) z5z rfl rfl λa h=>z0e 8 h rfl rfl λa h=>z0d 7 rfl ?_;refine z0n h (z0a rfl z0f) (mkC func223) (x0h _ _ _ hG) ?_;rintro _ f8 ⟨rfl,M⟩ a h;have h3:=M.size;replace hG:=hG.ext M;replace I:=I.ext M;replace D:=D.ext M;replace O:=O.next M;replace hC:=hC.next M;clear M;refine z0b ?_;refine z0d 9 rfl ?_;refine z3c ([u8b o.d,v6b o.b o.p,x4y o.y]) h (z0a rfl (z0a rfl (z0a rfl z0f))) rfl rfl rfl z3w λa8 f9 hg a2 M hz a h=>?_;have d0:g1<a8:=by have:=I.lt;omega
 have h4:=M.size;replace hG:=hG.ext M;replace I:=I.ext M;replace D:=D.ext M;replace O:=O.next M;replace hC:=hC.next M;clear M;refine z0b ?_;refine z0d 10 rfl ?_;refine z7p (base:=w0.heap.size) h rfl rfl D a2.sl z3w rfl ?_ (hM:=(by unfold maxLen;first|(simp;done)|(simp;omega))) (hb:=(by simp<;>omega));clear h a;intro f4 g0 U M d5 a h;replace M:Fr [J] _ _:=M;have d7:=M.size;replace hG:=hG.fr M (by simp[z0x]<;>omega);replace I:=I.fr M;replace O:=O.sp M;replace hC:=hC.sp M;replace a2:=a2.fr M (by simp[z0x]<;>omega);clear M;refine z0b ?_;refine z0d 11 rfl ?_;refine z0r h rfl λa h=>?_;refine z0b ?_;refine z0q ?_;clear hC a6 a0 a3;have d7:=O.size;refine bk (h.sub (L':=[(4,_)]) (.cons rfl .nil)) (bn' ?_);exact jE (_) (.cons rfl .nil) ⟨((Fr.refl [J] _).z2 Z O),by first|(rw[y3b,if_neg c1,if_neg c2,if_neg c3,if_pos c6];exact U)|(exfalso;omega)⟩;refine jn (ι:=Bool) [(1,_),(4,_)] (λb7=>[(58,.bool b7)]) (λb7 w'=>Fr [] b9 w'/\b7=decide (o.k=7\/o.k=8)) (.c2 rfl rfl) ?_ ?_;refine sr (eq' rfl rfl (asg rfl (nn (cd rfl (λc7=>?_) (λc7=>?_)))));refine sk ?_;exact jE (_) (.c3 rfl rfl rfl) ⟨(Fr.refl _ _),by first|exact bi (by omega)|exact bt (by omega)|exact bf (by omega)⟩;refine rg (eq' rfl rfl (asg rfl (nl ?_)));exact jE (_) (.c3 rfl rfl rfl) ⟨(Fr.refl _ _),by first|exact bi (by omega)|exact bt (by omega)|exact bf (by omega)⟩;rintro b7 g3 ⟨a1,rfl⟩;have h5:=a1.size;refine kpC [(1,_),(4,_),(58,_)] (.c3 rfl rfl rfl) (cd rfl (λc8=>?_) (λc8=>?_));refine rg (mv rfl (fad rfl z4h ?_));replace I:=I.ext (Z.n1 a1);refine z1s (vs:=[_,_]) rfl I z5z rfl ?_;replace hG:=hG.ext (q4.n2 Z a1);refine cl (ev1 rfl) (mkC func223) (x0h _ _ _ hG) rfl ?_;rintro _ g4 ⟨rfl,a7⟩;have h6:=a7.size;refine z2h ([v6b o.b o.p]) (ev1 rfl) rfl rfl rfl z3w (λe7 g5 e3 b2 b5 h7=>?_);replace D:=D.ext (Z.n3 a1 a7 b5);refine z2e (base:=w0.heap.size) rfl rfl D b2.sl z3w (by unfold maxLen;first|(simp;done)|(simp;omega)) (by simp<;>omega) (λf5 g6 U a5 d6=>?_);replace a5:Fr [J] _ _:=a5;have h8:=a5.size;refine asg rfl (kpL [(4,_)] (.cons rfl .nil) (nl (bn' ?_)));exact jE (_) (.cons rfl .nil) ⟨((Fr.refl [J] _).z5 Z a1 a7 b5 a5),by first|(rw[y3b,if_neg c1,if_neg c2,if_neg c3,if_neg c6,if_pos c8];exact U)|(exfalso;omega)⟩;refine sk (bn' ?_);exact jE (_) (.cons rfl .nil) ⟨((Fr.refl [J] _).n2 Z a1),by first|(rw[y3b,if_neg c1,if_neg c2,if_neg c3,if_neg c6,if_neg c8];exact U)|(exfalso;omega)⟩;rintro v4 g7 ⟨b6,U⟩;have h9:=b6.size;refine kpC [(4,_)] (.cons rfl .nil) (sr (mv rfl ?_));refine cl (ev2 rfl rfl) (mkC func82) (x6o _ _ _ _ _ _ U (by simp) (by have:=u1q o (Classical.not_not.1 c0);omega) (by have:=j2p o;simp;omega)) rfl ?_;rintro _ g8 ⟨rfl,b8⟩;have i0:=b8.size;refine asg rfl (nn (rt (r1 results184 rfl ?_)));exact⟨_,rfl,by rw[j1x,if_neg c0],(q1.z5 q2 q3 q4 b6 b8)⟩
theorem j6g:BuildAt prog 28 [(0,1),(1,1),(2,2),(4,1),(5,1)] [(.int .u8 0),(.int .u8 0),(.int .u8 0),(.int .i64 0),(.int .u8 0),(.int .i64 0)]:=BuildAt.struct underlying28 (λ_=>by kernel_rfl) (λ_=>by kernel_rfl)
theorem j4o:z0z prog 76 0 0:=λ_ _=>by kernel_rfl
theorem u3y:z0z prog 76 1 1:=λ_ _=>by kernel_rfl
theorem j3u:z0z prog 76 2 2:=λ_ _=>by kernel_rfl
theorem j3s:z0z prog 76 3 3:=λ_ _=>by kernel_rfl
theorem v3l:z0z prog 76 4 4:=λ_ _=>by kernel_rfl
theorem j2r:z0z prog 76 5 5:=λ_ _=>by kernel_rfl
theorem sz5:z1p prog 5 1:=λ_=>by kernel_rfl
theorem u4u (x:MOp)(w0:World)(hx:x.Bytes):Rets prog 22 #[oxV x] w0 λv w'=>v=opV (ofO x)/\Fr [] w0 w':=by
 obtain⟨⟨_,_⟩,⟨_,_⟩,⟨_,_⟩,⟨_,_⟩,⟨_,_⟩,⟨_,_⟩⟩:=hx;refine we [(0,oxV x)] func22 rfl ntmps22 rfl (.cons rfl .nil) (sr (bx rfl rfl rfl (λg1 w1 c9 I q1 z1=>(al u1j rfl rfl (λg2 w2 d0 J q2 z2=>(nn (sr (fad rfl j4o ?_))))))));replace I:=I.ext q2;refine z0g rfl I rfl na5 (x5g rfl rfl (by first|exact IntWalk.rem_in _ _ (by omega)|rfl) rfl (z0v rfl rfl (wi8 (by omega)) (z1v (cs:=[_,_,_,_,_,_]) (ev1 rfl) j6g (z0h rfl rfl rfl z0s) rfl (al u1j rfl rfl (λg3 w3 d1 D q3 z3=>?_)))));refine z0j rfl rfl D u1k (λw4 D q4 z4=>?_) (hl:=rfl);refine nn (sr (fad rfl j3u ?_));replace I:=(I.ext q3).fr q4;refine z0g rfl I rfl na5 (x5g rfl rfl (by first|exact IntWalk.rem_in _ _ (by omega)|rfl) rfl (fad rfl j3s (z0g rfl I rfl na5 (x5g rfl rfl (by first|exact IntWalk.rem_in _ _ (by omega)|rfl) rfl (z5m rfl (us underlying5) underlying3 (wi6 (by omega)) (z0v rfl rfl (wi6 (by omega)) (z1v (cs:=[_,_]) (ev2 rfl rfl) x1a (z0h rfl rfl rfl (z0h rfl rfl rfl z0s)) rfl (al u0x rfl rfl (λg4 w5 d3 O q5 z5=>?_)))))))));refine z0j rfl rfl O y6i (λw6 O q6 z6=>?_) (hl:=rfl);refine kpL [(1,_),(2,_),(3,_),(4,_)] (.c4 rfl rfl rfl rfl) (nn ?_);refine jn (ι:=Unit) [(2,_),(3,_)] (λ_j=>[]) (λ_j w'=>Fr [g3] w6 w'/\Blk w' g3 28 [.int .u8 (ofO x).k,.int .u8 (ofO x).d,.int .u8 (ofO x).b,.int .i64 (ofO x).p,.int .u8 (ofO x).y,.int .i64 (ofO x).r]) (.c2 rfl rfl) ?_ ?_;refine sr (fad rfl z8m ?_);replace D:=(D.ext q5).fr q6;refine z0g rfl D rfl v7o (nn (bl (sr (eq' rfl rfl (asg rfl (nn (cd rfl (λc0=>?_) (λc0=>?_))))))));replace I:=(I.ext q5).fr q6;replace J:=(((J.ext q3).fr q4).ext q5).fr q6;intro a h;have a5:=Fr.refl [g3] w6;refine z2p (λwb w'=>Fr [g3] wb w') z2o ?_;intro w7 M;replace I:=I.ext M;replace J:=J.ext M;replace D:=D.ext M;replace O:=O.ext M;replace a5:=a5.next M;have a9:=M.size;clear M;have hC:Fr [g3] w7 w7:=Fr.refl _ _;have U:=I;have a3:=J;have a4:=D;have a0:=O;refine z0c 0 h rfl u3y rfl λa h=>z0l 1 h rfl (λ_ hw=>U.fr hw (by simp<;>omega)) rfl na5 rfl λa h=>x8d 2 hC h wn rfl rfl (by first|exact IntWalk.rem_in _ _ (by omega)|rfl) rfl rfl λa h=>z0c 3 h rfl v3l rfl λa h=>z0l 4 h rfl (λ_ hw=>U.fr hw (by simp<;>omega)) rfl na5 rfl λa h=>x8d 5 hC h wn rfl rfl (by first|exact IntWalk.rem_in _ _ (by omega)|rfl) rfl rfl λa h=>z4u 6 h rfl rfl (by first|exact IntWalk.u8_in _ (by omega)|rfl) rfl λa h=>z0c 7 h rfl z6p rfl λa h=>z0d 8 rfl ?_;refine z3d h rfl rfl D rfl rfl rfl j2z λw8 Z M hz a h=>?_;replace I:=I.fr M;replace J:=J.fr M;replace O:=O.fr M;replace a5:=a5.sp M;replace hC:=hC.sp M;clear D M hz;have D:Blk w8 g3 _ [_,_,_,_,_,_]:=Z;clear Z;refine z0b ?_;refine z0c 9 h rfl z3e rfl λa h=>z0d 10 rfl ?_;refine z3d h rfl rfl D rfl rfl rfl sz5 λw9 Z M hz a h=>?_;replace I:=I.fr M;replace J:=J.fr M;replace O:=O.fr M;replace a5:=a5.sp M;replace hC:=hC.sp M;clear D M hz;have D:Blk w9 g3 _ [_,_,_,_,_,_]:=Z;clear Z;refine z0b ?_;refine z0q ?_;clear hC U a3 a4 a0;refine bk (h.sub (L':=[(2,_),(3,_)]) (.c2 rfl rfl)) (bn' ?_);exact jE (()) (.c2 rfl rfl) ⟨((Fr.refl [g3] _).z1 a5),by rw[ofO,ofK,if_pos c0];exact D⟩;refine sr (eq' rfl rfl (asg rfl (nn (cd rfl (λc1=>?_) (λc1=>?_)))));refine rg (fad rfl v3l ?_);replace I:=(I.ext q5).fr q6;refine z0g rfl I rfl na5 (x5g rfl rfl (by first|exact IntWalk.rem_in _ _ (by omega)|rfl) rfl (z0v rfl rfl (wi8 (by omega)) (fad rfl z3e (z3l rfl rfl D rfl sz5 (λb5 D b0 d9=>?_)))));replace D:Blk b5 g3 _ [_,_,_,_,_,_]:=D;refine kpL [(2,_),(3,_)] (.c2 rfl rfl) (nl (bn' ?_));exact jE (()) (.c2 rfl rfl) ⟨((Fr.refl [g3] _).z1 b0),by rw[ofO,ofK,if_neg c0,if_pos c1];exact D⟩;refine sr (eq' rfl rfl (asg rfl (nn (cd rfl (λc2=>?_) (λc2=>?_)))));refine rg (fad rfl j2r ?_);replace I:=(I.ext q5).fr q6;refine z0g rfl I rfl na5 (x5g rfl rfl (by first|exact IntWalk.rem_in _ _ (by omega)|rfl) rfl (z5m rfl (us underlying5) underlying3 (wi6 (by omega)) (z2u rfl rfl (wi6 (by omega)) (fad rfl y2o (z3l rfl rfl D rfl sz3 (λb6 D b1 e0=>?_))))));replace D:Blk b6 g3 _ [_,_,_,_,_,_]:=D;refine kpL [(2,_),(3,_)] (.c2 rfl rfl) (nl (bn' ?_));exact jE (()) (.c2 rfl rfl) ⟨((Fr.refl [g3] _).z1 b1),by rw[ofO,ofK,if_neg c0,if_neg c1,if_pos c2];exact D⟩;refine jn (ι:=Bool) [(1,_),(2,_),(3,_),(4,_)] (λb3=>[(58,.bool b3)]) (λb3 w'=>Fr [] w6 w'/\b3=decide ((1+x.k % 8)=7\/(1+x.k % 8)=8)) (.c4 rfl rfl rfl rfl) ?_ ?_;refine sr (eq' rfl rfl (asg rfl (nn (cd rfl (λc3=>?_) (λc3=>?_)))));refine sk ?_;exact jE (_) (.c5 rfl rfl rfl rfl rfl) ⟨(Fr.refl _ _),by first|exact bi (by omega)|exact bt (by omega)|exact bf (by omega)⟩;refine rg (eq' rfl rfl (asg rfl (nl ?_)));exact jE (_) (.c5 rfl rfl rfl rfl rfl) ⟨(Fr.refl _ _),by first|exact bi (by omega)|exact bt (by omega)|exact bf (by omega)⟩;rintro b3 b7 ⟨a2,rfl⟩;refine kpC [(1,_),(2,_),(3,_),(4,_),(58,_)] (.c5 rfl rfl rfl rfl rfl) (cd rfl (λc4=>?_) (λc4=>?_));refine rg ?_;replace O:=O.ext a2;refine z0k rfl O z5z (fad rfl z4h ?_);replace D:=D.ext a2;refine z5h (cs':=[_,_,_,_,_,_]) rfl rfl D (by first|(simp[Value.oneCell',S];done)|exact Enc.one _ _) y6i rfl (λd4 D b2 e1=>?_);refine nl (bn' ?_);exact jE (()) (.c2 rfl rfl) ⟨((Fr.refl [g3] _).z2 a2 b2),by rw[ofO,ofK,if_neg c0,if_neg c1,if_neg c2,if_pos c4];exact D⟩;replace I:=((I.ext q5).fr q6).ext a2;replace J:=((((J.ext q3).fr q4).ext q5).fr q6).ext a2;replace D:=D.ext a2;replace O:=O.ext a2;intro a h;have a1:=Fr.refl [g3] b7;refine z2p (λwb w'=>Fr [g3] wb w') z2o ?_;intro a7 M;replace I:=I.ext M;replace J:=J.ext M;replace D:=D.ext M;replace O:=O.ext M;replace a1:=a1.next M;have a9:=M.size;clear M;have hC:Fr [g3] a7 a7:=Fr.refl _ _;have U:=I;have a3:=J;have a4:=D;have a0:=O;refine z0c 0 h rfl u3y rfl λa h=>z0l 1 h rfl (λ_ hw=>U.fr hw (by simp<;>omega)) rfl na5 rfl λa h=>x8d 2 hC h wn rfl rfl (by first|exact IntWalk.rem_in _ _ (by omega)|rfl) rfl rfl λa h=>z0y 3 h rfl (λ_ hw=>a0.fr hw (by simp<;>omega)) z5z rfl λa h=>z0c 4 h rfl v3l rfl λa h=>z0l 5 h rfl (λ_ hw=>U.fr hw (by simp<;>omega)) rfl na5 rfl λa h=>x8d 6 hC h wn rfl rfl (by first|exact IntWalk.rem_in _ _ (by omega)|rfl) rfl rfl λa h=>z4u 7 h rfl rfl (by first|exact IntWalk.u8_in _ (by omega)|rfl) rfl λa h=>z0c 8 h rfl z6p rfl λa h=>z0d 9 rfl ?_;refine z3d h rfl rfl D rfl rfl rfl j2z λb8 Z M hz a h=>?_;replace I:=I.fr M;replace J:=J.fr M;replace O:=O.fr M;replace a1:=a1.sp M;replace hC:=hC.sp M;clear D M hz;have D:Blk b8 g3 _ [_,_,_,_,_,_]:=Z;clear Z;refine z0b ?_;refine z0c 10 h rfl z4h rfl λa h=>z0d 11 rfl ?_;refine y7p (cs':=[_,_,_,_,_,_]) h rfl rfl D rfl (by first|(simp[Value.oneCell',S];done)|exact Enc.one _ _) y6i rfl λd5 Z M hz a h=>?_;replace I:=I.fr M;replace J:=J.fr M;replace O:=O.fr M;replace a1:=a1.sp M;replace hC:=hC.sp M;clear D M hz;have D:=Z;clear Z;refine z0b ?_;refine z0c 12 h rfl z3e rfl λa h=>z0d 13 rfl ?_;refine z3d h rfl rfl D rfl rfl rfl sz5 λb9 Z M hz a h=>?_;replace I:=I.fr M;replace J:=J.fr M;replace O:=O.fr M;replace a1:=a1.sp M;replace hC:=hC.sp M;clear D M hz;have D:Blk b9 g3 _ [_,_,_,_,_,_]:=Z;clear Z;refine z0b ?_;refine z0q ?_;clear hC U a3 a4 a0;refine bk (h.sub (L':=[(2,_),(3,_)]) (.c2 rfl rfl)) (bn' ?_);exact jE (()) (.c2 rfl rfl) ⟨((Fr.refl [g3] _).z2 a2 a1),by rw[ofO,ofK,if_neg c0,if_neg c1,if_neg c2,if_neg c4];exact D⟩;rintro _j d6 ⟨a6,D⟩;have a8:=D.lt;refine kpC [(2,_),(3,_)] (.c2 rfl rfl) (sr (z0k rfl D y1k ?_));replace J:=((((J.ext q3).fr q4).ext q5).fr q6).fr a6;refine z0j rfl rfl J u1k (λd7 J b4 e2=>?_) (hl:=rfl);refine nn (rt (rC results22 rfl J y1k  ?_));exact⟨_,rfl,rfl,((q1.z6 q2 q3 q4 q5 q6 a6).z1 b4)⟩
theorem j1h:ElemOf prog 150 5 Enc.b 1:=ElemOf.mk' (z:=(.int .u8 0)) underlying150 (by kernel_rfl) rfl
theorem sz22:z1p prog 22 1:=λ_=>by kernel_rfl
theorem x2e (l:List UInt8)(w0:World)(hG:Glob w0)(hl:l.length<=1000000):Rets prog 222 #[S l] w0 λv w'=>∃e,v=.tuple #[.agg #[.int .u8 (x4c l).1,.int .i64 (x4c l).2],e]/\Fr [] w0 w':=by
 have b5:=hG.sz;refine we [(0,S l)] func222 rfl ntmps222 rfl (.cons rfl .nil) (sr (al u0x rfl rfl (λg2 w1 b7 I q1 z1=>(asg rfl (nn (sq (sq ?_)))))));refine rbo (r:=14) (L':=[(0,_),(2,_)]) ((((l.length:Int)<2)\/(3<(l.length:Int)))) (.c2 rfl rfl) ?_ ?_;refine mv rfl (ln rfl underlying9 rfl (lt' rfl rfl (mv rfl (gs 10 rfl (λg0=>?_) (λg0=>?_)))));exact gN rfl rfl (gN rfl rfl (gN rfl rfl (pkt rfl rfl (rbe rfl (.c2 rfl rfl)))));exact gY rfl (mv rfl (gY rfl (ln rfl underlying9 rfl (gY rfl (gt' rfl rfl (pkf rfl rfl (rbe rfl (.c2 rfl rfl))))))));refine tn (cd rfl (λc0=>?_) (λc0=>?_));refine sr (z1v (cs:=[_,_]) z0f x1a z0s rfl (z0j rfl rfl I y6i (λw2 I q2 z2=>?_) (hl:=rfl)));refine asg rfl (nn (rt (tr (rCT results222 rfl I z5z rfl ?_))));exact⟨_,rfl,_,by rw[show x4c l=(0,0) from by rw[x4c,if_pos c0]],(q1.z1 q2)⟩;refine sk (tn (sr (z1v (cs:=[_,_]) z0f x1a z0s rfl (al u0x rfl rfl (λZ w3 b8 D q3 z3=>?_)))));refine z0j rfl rfl D y6i (λw4 D q4 z4=>?_) (hl:=rfl);refine nn ?_;refine jn (ι:=Int) [(0,_),(2,_),(4,_)] (λb=>[]) (λb w'=>Fr [Z] w4 w'/\j0l l=some b/\(b=0\/b=1)/\Blk w' Z 24 [.int .u8 b,.int .i64 0]) (.c3 rfl rfl rfl) ?_ ?_;refine sr (mv rfl (u7v (p:=0) rfl rfl underlying9 (by omega) (by omega) rfl rfl (λb2=>(nn (bl (sr (eq' rfl rfl (asg rfl (nn (cd rfl (λc1=>?_) (λc1=>?_)))))))))));refine rg (fad rfl z6t (z3l rfl rfl D rfl sz22 (λw5 D q5 z5=>?_)));replace D:Blk w5 Z _ [_,_]:=D;refine nl (bn' ?_);exact jE (_) (.c3 rfl rfl rfl) ⟨((Fr.refl [Z] _).z1 q5),⟨by rw[j0l,if_pos c1],by omega,D⟩⟩;skip;refine sr (eq' rfl rfl (asg rfl (nn (cd rfl (λc2=>?_) (λc2=>?_)))));refine rg (fad rfl z6t (z3l rfl rfl D rfl sz22 (λw6 D q6 z6=>?_)));replace D:Blk w6 Z _ [_,_]:=D;refine nl (bn' ?_);exact jE (_) (.c3 rfl rfl rfl) ⟨((Fr.refl [Z] _).z1 q6),⟨by rw[j0l,if_neg c1,if_pos c2],by omega,D⟩⟩;refine sr (z1v (cs:=[_,_]) z0f x1a z0s rfl ?_);replace I:=(I.ext q3).fr q4;refine z0j rfl rfl I y6i (λw7 I q7 z7=>?_) (hl:=rfl);refine asg rfl (nn (rt (rb (tr (rCT results222 rfl I z5z rfl ?_)))));exact⟨_,rfl,_,by rw[show x4c l=(0,0) from by rw[x4c,if_neg c0,show j0l l=none from by rw[j0l,if_neg c1,if_neg c2]]],(q1.z3 q3 q4 q7)⟩;rintro b w8 ⟨q8,⟨a1,b0,D⟩⟩;have a0:=D.lt;refine kpC [(0,_),(2,_),(4,_)] (.c3 rfl rfl rfl) ?_;have b6:(l.drop 1).length=l.length-1:=List.length_drop;refine sq (sr (mv rfl (j2b (p:=1) rfl rfl underlying9 (by omega) (by omega) rfl rfl (j6z rfl underlying9 underlying150 underlying5 (by unfold maxLen;simp;omega) rfl (λb4 b3 w9 b1 O q9 z9=>?_)))));refine lnS rfl underlying150 (mv rfl (nn (bl ?_)));replace D:=D.ext q9;refine lpK (ι:=Nat) [(0,_),(2,_),(4,_),(28,_),(29,_)] (λi=>[(30,.int .i64 (i:Int))]) (λi w'=>Fr [Z] w9 w'/\i<=(l.drop 1).length/\((l.drop 1).take i).all v7l=true/\Blk w' Z 24 [.int .u8 b,.int .i64 (y5d ((l.drop 1).take i))]) (λi=>(l.drop 1).length-i) 0 (.c6 rfl rfl rfl rfl rfl rfl) ⟨Fr.refl _ _,⟨by omega,rfl,D⟩⟩ ?_;rintro i c9 ⟨M,⟨hi,J,D⟩⟩;have a0:=D.lt;refine kpC [(0,_),(2,_),(4,_),(28,_),(29,_),(30,_)] (.c6 rfl rfl rfl rfl rfl rfl) (sr (lt' rfl rfl (nn (sq (cd rfl (λc3=>?_) (λc3=>?_))))));have b9:=x8u ((l.drop 1).getD i 0);refine sk (tn (sq (bl (sr ?_))));replace O:=O.fr M (by simp[z0x]<;>omega);refine z1a (p:=i) (0) rfl O rfl j1h (by omega) (λa9 a2=>(z1g rfl (a2 _ O) na5 (asg rfl (nn (sq (sq ?_))))));refine rbo (r:=39) (L':=[(0,_),(2,_),(4,_),(6,_),(28,_),(29,_),(30,_)]) ((((((l.drop 1).getD i 0).toNat:Int)<48)\/(57<(((l.drop 1).getD i 0).toNat:Int)))) (.c7 rfl rfl rfl rfl rfl rfl rfl) ?_ ?_;refine mv rfl (lt' rfl rfl (mv rfl (gs 36 rfl (λg1=>?_) (λg1=>?_))));exact gN rfl rfl (gN rfl rfl (pkt rfl rfl (rbe rfl (.c7 rfl rfl rfl rfl rfl rfl rfl))));exact gY rfl (mv rfl (gY rfl (gt' rfl rfl (pkf rfl rfl (rbe rfl (.c7 rfl rfl rfl rfl rfl rfl rfl))))));refine tn (cd rfl (λc4=>?_) (λc4=>?_));refine sr (z1v (cs:=[_,_]) z0f x1a z0s rfl ?_);replace I:=((((I.ext q3).fr q4).fr q8).ext q9).fr M;refine z0j rfl rfl I y6i (λd0 I a4 d5=>?_) (hl:=rfl);refine asg rfl (kpL [(2,_),(3,_)] (.c2 rfl rfl) (nn (rt (tr (rb (tr (tr (rb (tr (rCT results222 rfl I z5z rfl ?_))))))))));exact⟨_,rfl,_,by rw[show x4c l=(0,0) from by rw[x4c,if_neg c0,a1];simp only;rw[if_pos (u8f _ i (by omega) (by omega))]],(q1.z6 q3 q4 q8 q9 M a4)⟩;have a3:=x2a J (by simp;omega);refine sk (tn (rg (fad rfl z6v (z0g rfl D rfl na3 (x5q rfl rfl (wi6 (by omega)) rfl (mv rfl (z2u rfl rfl (wi8 (by omega)) (z5m rfl (us underlying5) underlying3 (wi6 (by omega)) (z0v rfl rfl (wi6 (by omega)) (fad rfl z6v (z3l rfl rfl D rfl sz3 (λa8 D a5 d6=>?_))))))))))));replace D:Blk a8 Z _ [_,_]:=D;refine kpL [(0,_),(2,_),(4,_),(28,_),(29,_),(30,_)] (.c6 rfl rfl rfl rfl rfl rfl) (nl (bn' (tn (rg (z0v rfl rfl (wi6 (by omega)) (mv rfl (nl ?_)))))));exact lpE (i+1) (.c6 rfl rfl rfl rfl rfl rfl) ⟨((Fr.refl [Z] _).z2 M a5),⟨by omega,v9j _ _ (by omega) J (by omega),by rw[x9i _ _ (by omega)];exact D⟩⟩ (by omega);obtain rfl:i=(l.drop 1).length:=by omega
 rw[List.take_length]at J D;have a3:=x2a J (by omega);refine ex (te (te (xh (tn (sq (sr (z0k rfl D z5z ?_)))))));replace hG:=((((hG.ext (q1.n1 q3)).fr q4 (by first|exact z9k hG (by omega)|simp[z0x]<;>omega)).fr q8 (by first|exact z9k hG (by omega)|simp[z0x]<;>omega)).ext q9).fr M (by first|exact z9k hG (by omega)|simp[z0x]<;>omega);refine cl (ev1 rfl) (mkC func223) (x0h _ _ _ hG) rfl ?_;rintro _ d1 ⟨rfl,U⟩;refine mv rfl (u7y rfl rfl rfl (kpL [(2,_),(4,_),(53,_)] (.c3 rfl rfl rfl) (nn (cd rfl (λc5=>?_) (λc5=>?_)))));refine sr (z1v (cs:=[_,_]) z0f x1a z0s rfl ?_);replace I:=(((((I.ext q3).fr q4).fr q8).ext q9).fr M).ext U;refine z0j rfl rfl I y6i (λd3 I a6 d7=>?_) (hl:=rfl);refine asg rfl (nn (rt (tr (rCT results222 rfl I z5z rfl ?_))));exact⟨_,rfl,_,by rw[show x4c l=(0,0) from by rw[x4c,if_neg c0,a1];simp only;rw[if_neg (by rw[J];exact λe=>Bool.noConfusion e),if_pos c5]],((q1.z6 q3 q4 q8 q9 M U).z1 a6)⟩;refine sk (tn (sr ?_));replace D:=D.ext U;refine z0k rfl D z5z ?_;replace I:=(((((I.ext q3).fr q4).fr q8).ext q9).fr M).ext U;refine z0j rfl rfl I y6i (λd4 I a7 d9=>?_) (hl:=rfl);refine asg rfl (nn (rt (rCT results222 rfl I z5z rfl ?_)));exact⟨_,rfl,_,by rw[show x4c l=(b,y5d (l.drop 1)) from by rw[x4c,if_neg c0,a1];simp only;rw[if_neg (by rw[J];exact λe=>Bool.noConfusion e),if_neg c5]],((q1.z6 q3 q4 q8 q9 M U).z1 a7)⟩
theorem j7v:z3u prog 309 9:=⟨λ_=>by kernel_rfl,λ_=>by kernel_rfl⟩
theorem sz25:z1p prog 25 1:=λ_=>by kernel_rfl
theorem fld0 (f:F4)(w:World):(Instr.field 188 (.agg (f4L f).toArray) 0).run prog w=.ok (.bool f.1) w:=by kernel_rfl
theorem fld1 (f:F4)(w:World):(Instr.field 188 (.agg (f4L f).toArray) 1).run prog w=.ok (.bool f.2.1) w:=by kernel_rfl
set_option maxHeartbeats 1000000 in
theorem u0t (v:Value)(ws:List (List UInt8))(w0:World)(hG:Glob w0)(U:Sl Enc.str w0 v ws)(e9:1<=ws.length)(b0:∀i,(ws.getD i []).length<=1000000):Rets prog 183 #[v] w0 λr w'=>r=opV (z4b ws)/\Fr [] w0 w':=by
 obtain⟨A,c,rfl,hc,hM,hA⟩:=id U;clear hA;have Z:=U.blk (by intro e;simp[e]at e9);have h3:=hG.sz;refine we [(0,.slice A ws.length c)] func183 rfl ntmps183 rfl (.cons rfl .nil) (sr (al u1j rfl rfl (λg2 w1 h4 M q1 z1=>?_)));refine nn (sr (z1v (cs:=[_,_,_,_,_,_]) z0f j6g z0s rfl (al u1j rfl rfl (λg3 w2 h5 I q2 z2=>?_))));refine z0j rfl rfl I u1k (λw3 I q3 z3=>?_) (hl:=rfl);refine nn (sq (sr ?_));replace hG:=(hG.ext (q1.n1 q2)).fr q3 (by first|exact z9k hG (by omega)|simp[z0x]<;>omega);refine z1i rfl hG.wd j7v (mv rfl (nn (bl ?_)));refine lpK (ι:=Nat) [(0,_),(2,_),(3,_),(7,_)] (λi=>[(8,.int .i64 (i:Int))]) (λi w'=>Fr [g3] w3 w'/\i<=9/\Blk w' g3 28 [.int .u8 (y4x (ws.getD 0 []) i),.int .u8 0,.int .u8 0,.int .i64 0,.int .u8 0,.int .i64 0]) (λi=>9-i) 0 (.c5 rfl rfl rfl rfl rfl) ⟨Fr.refl _ _,⟨by omega,I⟩⟩ ?_;rintro i w4 ⟨q4,⟨hi,I⟩⟩;have b5:=I.lt;refine kpC [(0,_),(2,_),(3,_),(7,_),(8,_)] (.c5 rfl rfl rfl rfl rfl) (sr (lt' rfl rfl (nn (sq (cd rfl (λc0=>?_) (λc0=>?_))))));refine sk (tn (sq (bl (sr (mv rfl (u4c rfl rfl underlying309 sz9 na9 (u0v (by omega)) rfl (asg rfl (asg rfl (nn (sr (mv rfl (mv rfl ?_))))))))))));replace U:=((U.ext (q1.n1 q2)).fr q3 (by intro k O hb;simp at O;subst O;have:=Z _ hb;omega)).fr q4 (by intro k O hb;simp at O;subst O;have:=Z _ hb;omega);refine z1a (p:=0) ([]) rfl U rfl z3w rfl (λg5 b9=>(z1g rfl (b9 _ U) na9 (u1n rfl rfl rfl (nn (cd rfl (λc1=>?_) (λc1=>?_))))));refine rg (mv rfl (z5m rfl (us underlying3) underlying25 (wi8 (by omega)) (fad rfl z8m (z3l rfl rfl I rfl sz25 (λw5 I q5 z5=>?_)))));replace I:Blk w5 g3 _ [_,_,_,_,_,_]:=I;refine nl (bn' (tn (rg (z0v rfl rfl (wi6 (by omega)) (mv rfl (nl ?_))))));exact lpE (i+1) (.c5 rfl rfl rfl rfl rfl) ⟨((Fr.refl [g3] _).z2 q4 q5),⟨by omega,by first|(rw[y4x,if_pos c1];exact I)|(rw[y4x,if_neg c1];exact I)⟩⟩ (by omega);refine sk (bn' (tn (rg (z0v rfl rfl (wi6 (by omega)) (mv rfl (nl ?_))))));exact lpE (i+1) (.c5 rfl rfl rfl rfl rfl) ⟨((Fr.refl [g3] _).z1 q4),⟨by omega,by first|(rw[y4x,if_pos c1];exact I)|(rw[y4x,if_neg c1];exact I)⟩⟩ (by omega);obtain rfl:i=9:=by omega
 have h6:=x3s (ws.getD 0 []) 9;replace I:Blk w4 g3 28 [.int .u8 (y9u (ws.getD 0 [])),.int .u8 0,.int .u8 0,.int .i64 0,.int .u8 0,.int .i64 0]:=I;refine ex (te (te (xh (tn ?_))));refine jn (ι:=Unit) [(2,_),(3,_)] (λ_j=>[]) (λ_j w'=>Fr [g3] w4 w'/\Blk w' g3 28 [.int .u8 (z4b ws).k,.int .u8 (z4b ws).d,.int .u8 (z4b ws).b,.int .i64 (z4b ws).p,.int .u8 (z4b ws).y,.int .i64 (z4b ws).r]) (.c2 rfl rfl) ?_ ?_;refine bl (sq ?_);refine rbo (r:=21) (L':=[(0,_),(2,_),(3,_)]) ((((y9u (ws.getD 0 []))=1)/\((ws.length:Int)=3))) (.c3 rfl rfl rfl) ?_ ?_;refine fad rfl z8m (z0g rfl I rfl v7o (eq' rfl rfl (mv rfl (gs 25 rfl (λg0=>?_) (λg0=>?_)))));exact gY rfl (mv rfl (gY rfl (lnS rfl underlying153 (gY rfl (eq' rfl rfl (pkt rfl rfl (asg rfl (rbe rfl (.c3 rfl rfl rfl)))))))));exact gN rfl rfl (gN rfl rfl (gN rfl rfl (pkf rfl rfl (asg rfl (rbe rfl (.c3 rfl rfl rfl))))));refine tn (cd rfl (λc2=>?_) (λc2=>?_));replace hG:=hG.fr q4 (by first|exact z9k hG (by omega)|simp[z0x]<;>omega);replace U:=((U.ext (q1.n1 q2)).fr q3 (by intro k O hb;simp at O;subst O;have:=Z _ hb;omega)).fr q4 (by intro k O hb;simp at O;subst O;have:=Z _ hb;omega);replace M:=((M.ext q2).fr q3).fr q4;intro a h;have a7:=Fr.refl [g3] w4;refine z2p (λwb w'=>Fr [g3] wb w') z2o ?_;intro w6 J;replace hG:=hG.ext J;replace U:=U.ext J;replace M:=M.ext J;replace I:=I.ext J;replace a7:=a7.next J;have b8:=J.size;clear J;have hC:Fr [g3] w6 w6:=Fr.refl _ _;have a5:=hG;have a1:=U;have a2:=M;have a0:=I;refine z0e 0 h rfl rfl λa h=>z1h (p:=1) ([]) 1 h rfl U rfl z3w rfl ?_ (hp:=rfl);clear h a;intro g6 c9 a h;refine z3j 2 h rfl (λ_ hw=>c9 _ (a1.fr hw (by intro k O hb;simp at O;subst O;have:=Z _ hb;omega))) na9 rfl λa h=>z0e 5 h rfl rfl λa h=>z1h (p:=2) ([]) 6 h rfl U rfl z3w rfl ?_ (hp:=rfl);clear h a;intro g7 d0 a h;refine z3j 7 h rfl (λ_ hw=>d0 _ (a1.fr hw (by intro k O hb;simp at O;subst O;have:=Z _ hb;omega))) na9 rfl λa h=>z0d 3 rfl ?_;refine z0n h (z0a rfl z0f) (mkC func220) (y0r _ _ hG (b0 _)) ?_;rintro _ w7 ⟨rfl,J⟩ a h;replace hG:=hG.ext J;replace U:=U.ext J;replace M:=M.ext J;replace I:=I.ext J;replace a7:=a7.next J;replace hC:=hC.next J;clear J;refine z0b ?_;refine x6j 4 hC h wn rfl (by rw[underlying3];rfl) underlying5 (by first|exact IntWalk.u8_in _ (by omega)|rfl) rfl rfl λa h=>z0c 9 h rfl z3e rfl λa h=>z0d 8 rfl ?_;refine z0n h (z0a rfl z0f) (mkC func221) (u4l _ _ hG) ?_;rintro _ w8 ⟨rfl,J⟩ a h;replace hG:=hG.ext J;replace U:=U.ext J;replace M:=M.ext J;replace I:=I.ext J;replace a7:=a7.next J;replace hC:=hC.next J;clear J;refine z0b ?_;refine z0d 10 rfl ?_;refine z3d h rfl rfl I rfl rfl rfl sz5 λw9 a6 J hz a h=>?_;replace hG:=hG.fr J (by simp[z0x]<;>omega);replace U:=U.fr J (by intro k O hb;simp at O;subst O;have:=Z _ hb;omega);replace M:=M.fr J;replace a7:=a7.sp J;replace hC:=hC.sp J;clear I J hz;have I:Blk w9 g3 _ [_,_,_,_,_,_]:=a6;clear a6;refine z0b ?_;refine z0c 11 h rfl z6p rfl λa h=>z0d 12 rfl ?_;refine z3d h rfl rfl I rfl rfl rfl j2z λf4 a6 J hz a h=>?_;replace hG:=hG.fr J (by simp[z0x]<;>omega);replace U:=U.fr J (by intro k O hb;simp at O;subst O;have:=Z _ hb;omega);replace M:=M.fr J;replace a7:=a7.sp J;replace hC:=hC.sp J;clear I J hz;have I:Blk f4 g3 _ [_,_,_,_,_,_]:=a6;clear a6;refine z0b ?_;refine z0q ?_;clear hC a5 a1 a2 a0;refine bk (h.sub (L':=[(2,_),(3,_)]) (.c2 rfl rfl)) (bn' ?_);exact jE (()) (.c2 rfl rfl) ⟨((Fr.refl [g3] _).z1 a7),by rw[z4b,y4w,if_pos c2];exact I⟩;refine sq ?_;refine rbo (r:=41) (L':=[(0,_),(2,_),(3,_)]) ((((y9u (ws.getD 0 []))=2)/\((ws.length:Int)=2))) (.c3 rfl rfl rfl) ?_ ?_;refine fad rfl z8m (z0g rfl I rfl v7o (eq' rfl rfl (mv rfl (gs 45 rfl (λg1=>?_) (λg1=>?_)))));exact gY rfl (mv rfl (gY rfl (lnS rfl underlying153 (gY rfl (eq' rfl rfl (pkt rfl rfl (asg rfl (rbe rfl (.c3 rfl rfl rfl)))))))));exact gN rfl rfl (gN rfl rfl (gN rfl rfl (pkf rfl rfl (asg rfl (rbe rfl (.c3 rfl rfl rfl))))));refine tn (cd rfl (λc3=>?_) (λc3=>?_));refine rg (mv rfl ?_);replace U:=((U.ext (q1.n1 q2)).fr q3 (by intro k O hb;simp at O;subst O;have:=Z _ hb;omega)).fr q4 (by intro k O hb;simp at O;subst O;have:=Z _ hb;omega);refine z1a (p:=1) ([]) rfl U rfl z3w rfl (λg8 d1=>(z1g rfl (d1 _ U) na9 ?_));replace hG:=hG.fr q4 (by first|exact z9k hG (by omega)|simp[z0x]<;>omega);refine cl (ev1 rfl) (mkC func220) (y0r _ _ hG (b0 _)) rfl ?_;rintro _ h7 ⟨rfl,e0⟩;refine z5m rfl (us underlying3) underlying5 (IntKind.wrap_u8 _) (fad rfl z3e ?_);replace I:=I.ext e0;refine z3l rfl rfl I rfl sz5 (λf5 I f0 j0=>?_);replace I:Blk f5 g3 _ [_,_,_,_,_,_]:=I;refine kpL [(2,_),(3,_)] (.c2 rfl rfl) (nl (bn' ?_));exact jE (()) (.c2 rfl rfl) ⟨((Fr.refl [g3] _).z2 e0 f0),by rw[z4b,y4w,if_neg c2,if_pos c3];exact I⟩;refine sq ?_;refine rbo (r:=56) (L':=[(0,_),(2,_),(3,_)]) ((((y9u (ws.getD 0 []))=3)/\((ws.length:Int)=2))) (.c3 rfl rfl rfl) ?_ ?_;refine fad rfl z8m (z0g rfl I rfl v7o (eq' rfl rfl (mv rfl (gs 60 rfl (λg2=>?_) (λg2=>?_)))));exact gY rfl (mv rfl (gY rfl (lnS rfl underlying153 (gY rfl (eq' rfl rfl (pkt rfl rfl (asg rfl (rbe rfl (.c3 rfl rfl rfl)))))))));exact gN rfl rfl (gN rfl rfl (gN rfl rfl (pkf rfl rfl (asg rfl (rbe rfl (.c3 rfl rfl rfl))))));refine tn (cd rfl (λc4=>?_) (λc4=>?_));refine rg (mv rfl ?_);replace U:=((U.ext (q1.n1 q2)).fr q3 (by intro k O hb;simp at O;subst O;have:=Z _ hb;omega)).fr q4 (by intro k O hb;simp at O;subst O;have:=Z _ hb;omega);refine z1a (p:=1) ([]) rfl U rfl z3w rfl (λg9 d3=>(z1g rfl (d3 _ U) na9 ?_));replace hG:=hG.fr q4 (by first|exact z9k hG (by omega)|simp[z0x]<;>omega);refine cl (ev1 rfl) (mkC func220) (y0r _ _ hG (b0 _)) rfl ?_;rintro _ h8 ⟨rfl,e1⟩;refine fad rfl y2o ?_;replace I:=I.ext e1;refine z3l rfl rfl I rfl sz3 (λf6 I f1 j1=>?_);replace I:Blk f6 g3 _ [_,_,_,_,_,_]:=I;refine kpL [(2,_),(3,_)] (.c2 rfl rfl) (nl (bn' ?_));exact jE (()) (.c2 rfl rfl) ⟨((Fr.refl [g3] _).z2 e1 f1),by rw[z4b,y4w,if_neg c2,if_neg c3,if_pos c4];exact I⟩;refine jn (ι:=Bool) [(0,_),(2,_),(3,_)] (λb4=>[(70,.bool b4)]) (λb4 w'=>Fr [] w4 w'/\b4=decide (fD (y9u (ws.getD 0 []))=true/\(ws.length:Int)=4)) (.c3 rfl rfl rfl) ?_ ?_;replace hG:=hG.fr q4 (by first|exact z9k hG (by omega)|simp[z0x]<;>omega);replace U:=((U.ext (q1.n1 q2)).fr q3 (by intro k O hb;simp at O;subst O;have:=Z _ hb;omega)).fr q4 (by intro k O hb;simp at O;subst O;have:=Z _ hb;omega);replace M:=((M.ext q2).fr q3).fr q4;intro a h;have a8:=Fr.refl [] w4;refine z2p (λwb w'=>Fr [] wb w') z2o ?_;intro e4 J;replace hG:=hG.ext J;replace U:=U.ext J;replace M:=M.ext J;replace I:=I.ext J;replace a8:=a8.next J;have b8:=J.size;clear J;have hC:Fr [] e4 e4:=Fr.refl _ _;have a5:=hG;have a1:=U;have a2:=M;have a0:=I;refine z0c 1 h rfl z8m rfl λa h=>z0l 2 h rfl (λ_ hw=>a0.ext hw) rfl v7o rfl λa h=>z0d 0 rfl ?_;refine z0n h z0f (mkC func106) (y8i _) ?_;rintro _ h9 ⟨gm,rfl,d7,d9,hm,J⟩ a h;replace hG:=hG.ext J;replace U:=U.ext J;replace M:=M.ext J;replace I:=I.ext J;replace a8:=a8.next J;replace hC:=hC.next J;clear J;refine z0b ?_;refine z0d 3 rfl ?_;refine y0p (V:=kV) (k:=(y9u (ws.getD 0 []))) h rfl rfl hm y6d underlying190 x3l (z7r _) rfl λa h=>?_;refine z0b ?_;refine z0d 4 rfl ?_;refine x7k h rfl (λw=>fld0 _ w) rfl λa h=>?_;refine z0b ?_;refine z0e 5 h rfl rfl λa h=>?_;refine gSp (D:=76) h rfl ?_ ?_;clear h;intro g3 h;refine z0e 6 h rfl rfl ?_ (hG:=(wy rfl));clear h a;intro a h;refine z8f 7 hC h (wy rfl) rfl underlying153 rfl λa h=>v8k 8 hC h (wy rfl) rfl rfl rfl rfl λa h=>z0d 9 rfl ?_;refine z5k h rfl rfl rfl rfl λa h=>?_;refine z0b ?_;refine z0d 10 rfl ?_;refine z0r h rfl λa h=>?_;refine z0b ?_;refine z0q ?_;clear hC a5 a1 a2 a0;refine bk (h.sub (L':=[(0,_),(2,_),(3,_),(70,_)]) (.c4 rfl rfl rfl rfl)) ?_;exact jE (_) (.c4 rfl rfl rfl rfl) ⟨a8,by simp_all [fD]⟩;clear h;intro g3 h;refine z2i 6 h rfl rfl rfl λa h=>z2i 7 h rfl rfl rfl λa h=>z2i 8 h rfl rfl rfl λa h=>z0d 9 rfl ?_;refine z4k h rfl rfl rfl rfl λa h=>?_;refine z0b ?_;refine z0d 10 rfl ?_;refine z0r h rfl λa h=>?_;refine z0b ?_;refine z0q ?_;clear hC a5 a1 a2 a0;refine bk (h.sub (L':=[(0,_),(2,_),(3,_),(70,_)]) (.c4 rfl rfl rfl rfl)) ?_;exact jE (_) (.c4 rfl rfl rfl rfl) ⟨a8,by simp_all [fD]⟩;rintro b4 e5 ⟨a4,rfl⟩;refine kpC [(0,_),(2,_),(3,_),(70,_)] (.c4 rfl rfl rfl rfl) (cd rfl (λc5=>?_) (λc5=>?_));refine sr (mv rfl ?_);replace U:=(((U.ext (q1.n1 q2)).fr q3 (by intro k O hb;simp at O;subst O;have:=Z _ hb;omega)).fr q4 (by intro k O hb;simp at O;subst O;have:=Z _ hb;omega)).ext a4;refine z1a (p:=2) ([]) rfl U rfl z3w rfl (λh0 d4=>(z1g rfl (d4 _ U) na9 ?_));replace hG:=(hG.fr q4 (by first|exact z9k hG (by omega)|simp[z0x]<;>omega)).ext a4;refine cl (ev1 rfl) (mkC func222) (x2e _ _ hG (b0 _)) rfl ?_;rintro _ i0 ⟨e,rfl,b2⟩;refine mv rfl (xt rfl rfl (xt rfl rfl (fad rfl z4h ?_)));replace I:=I.ext (a4.n1 b2);refine z5h (cs':=[_,_,_,_,_,_]) rfl rfl I (by first|(simp[Value.oneCell',S];done)|exact Enc.one _ _) y6i rfl (λf7 I b6 j2=>?_);refine kpL [(0,_),(2,_),(3,_)] (.c3 rfl rfl rfl) (nn ?_);replace hG:=(hG.ext b2).fr b6 (by first|exact z9k hG (by omega)|simp[z0x]<;>omega);replace U:=(U.ext b2).fr b6 (by intro k O hb;simp at O;subst O;have:=Z _ hb;omega);replace M:=((((M.ext q2).fr q3).fr q4).ext (a4.n1 b2)).fr b6;intro a h;have a3:=Fr.refl [g3] f7;refine z2p (λwb w'=>Fr [g3] wb w') z2o ?_;intro e6 J;replace hG:=hG.ext J;replace U:=U.ext J;replace M:=M.ext J;replace I:=I.ext J;replace a3:=a3.next J;have b8:=J.size;clear J;have hC:Fr [g3] e6 e6:=Fr.refl _ _;have a5:=hG;have a1:=U;have a2:=M;have a0:=I;refine z0e 0 h rfl rfl λa h=>z1h (p:=1) ([]) 1 h rfl U rfl z3w rfl ?_ (hp:=rfl);clear h a;intro h1 d5 a h;refine z3j 2 h rfl (λ_ hw=>d5 _ (a1.fr hw (by intro k O hb;simp at O;subst O;have:=Z _ hb;omega))) na9 rfl λa h=>z0e 4 h rfl rfl λa h=>z1h (p:=3) ([]) 5 h rfl U rfl z3w rfl ?_ (hp:=rfl);clear h a;intro h2 d6 a h;refine z3j 6 h rfl (λ_ hw=>d6 _ (a1.fr hw (by intro k O hb;simp at O;subst O;have:=Z _ hb;omega))) na9 rfl λa h=>z0d 3 rfl ?_;refine z0n h (z0a rfl z0f) (mkC func221) (u4l _ _ hG) ?_;rintro _ i1 ⟨rfl,J⟩ a h;replace hG:=hG.ext J;replace U:=U.ext J;replace M:=M.ext J;replace I:=I.ext J;replace a3:=a3.next J;replace hC:=hC.next J;clear J;refine z0b ?_;refine z0c 9 h rfl z6p rfl λa h=>z0d 7 rfl ?_;refine z0n h (z0a rfl z0f) (mkC func220) (y0r _ _ hG (b0 _)) ?_;rintro _ i2 ⟨rfl,J⟩ a h;replace hG:=hG.ext J;replace U:=U.ext J;replace M:=M.ext J;replace I:=I.ext J;replace a3:=a3.next J;replace hC:=hC.next J;clear J;refine z0b ?_;refine x6j 8 hC h wn rfl (by rw[underlying3];rfl) underlying5 (by first|exact IntWalk.u8_in _ (by omega)|rfl) rfl rfl λa h=>z0d 10 rfl ?_;refine z3d h rfl rfl I rfl rfl rfl j2z λf8 a6 J hz a h=>?_;replace hG:=hG.fr J (by simp[z0x]<;>omega);replace U:=U.fr J (by intro k O hb;simp at O;subst O;have:=Z _ hb;omega);replace M:=M.fr J;replace a3:=a3.sp J;replace hC:=hC.sp J;clear I J hz;have I:Blk f8 g3 _ [_,_,_,_,_,_]:=a6;clear a6;refine z0b ?_;refine z0c 11 h rfl z3e rfl λa h=>z0d 12 rfl ?_;refine z3d h rfl rfl I rfl rfl rfl sz5 λf9 a6 J hz a h=>?_;replace hG:=hG.fr J (by simp[z0x]<;>omega);replace U:=U.fr J (by intro k O hb;simp at O;subst O;have:=Z _ hb;omega);replace M:=M.fr J;replace a3:=a3.sp J;replace hC:=hC.sp J;clear I J hz;have I:Blk f9 g3 _ [_,_,_,_,_,_]:=a6;clear a6;refine z0b ?_;refine z0q ?_;clear hC a5 a1 a2 a0;refine bk (h.sub (L':=[(2,_),(3,_)]) (.c2 rfl rfl)) (bn' ?_);exact jE (()) (.c2 rfl rfl) ⟨((Fr.refl [g3] _).z4 a4 b2 b6 a3),by rw[z4b,y4w,if_neg c2,if_neg c3,if_neg c4,if_pos c5];exact I⟩;refine jn (ι:=Bool) [(0,_),(2,_),(3,_)] (λb3=>[(100,.bool b3)]) (λb3 w'=>Fr [] e5 w'/\b3=decide (fN (y9u (ws.getD 0 []))=true/\(ws.length:Int)=2)) (.c3 rfl rfl rfl) ?_ ?_;replace hG:=(hG.fr q4 (by first|exact z9k hG (by omega)|simp[z0x]<;>omega)).ext a4;replace U:=(((U.ext (q1.n1 q2)).fr q3 (by intro k O hb;simp at O;subst O;have:=Z _ hb;omega)).fr q4 (by intro k O hb;simp at O;subst O;have:=Z _ hb;omega)).ext a4;replace M:=(((M.ext q2).fr q3).fr q4).ext a4;replace I:=I.ext a4;intro a h;have a9:=Fr.refl [] e5;refine z2p (λwb w'=>Fr [] wb w') z2o ?_;intro e7 J;replace hG:=hG.ext J;replace U:=U.ext J;replace M:=M.ext J;replace I:=I.ext J;replace a9:=a9.next J;have b8:=J.size;clear J;have hC:Fr [] e7 e7:=Fr.refl _ _;have a5:=hG;have a1:=U;have a2:=M;have a0:=I;refine z0c 1 h rfl z8m rfl λa h=>z0l 2 h rfl (λ_ hw=>a0.ext hw) rfl v7o rfl λa h=>z0d 0 rfl ?_;refine z0n h z0f (mkC func106) (y8i _) ?_;rintro _ i3 ⟨gm,rfl,d7,d9,hm,J⟩ a h;replace hG:=hG.ext J;replace U:=U.ext J;replace M:=M.ext J;replace I:=I.ext J;replace a9:=a9.next J;replace hC:=hC.next J;clear J;refine z0b ?_;refine z0d 3 rfl ?_;refine y0p (V:=kV) (k:=(y9u (ws.getD 0 []))) h rfl rfl hm y6d underlying190 x3l (z7r _) rfl λa h=>?_;refine z0b ?_;refine z0d 4 rfl ?_;refine x7k h rfl (λw=>fld1 _ w) rfl λa h=>?_;refine z0b ?_;refine z0e 5 h rfl rfl λa h=>?_;refine gSp (D:=106) h rfl ?_ ?_;clear h;intro g4 h;refine z0e 6 h rfl rfl ?_ (hG:=(wy rfl));clear h a;intro a h;refine z8f 7 hC h (wy rfl) rfl underlying153 rfl λa h=>v8k 8 hC h (wy rfl) rfl rfl rfl rfl λa h=>z0d 9 rfl ?_;refine z5k h rfl rfl rfl rfl λa h=>?_;refine z0b ?_;refine z0d 10 rfl ?_;refine z0r h rfl λa h=>?_;refine z0b ?_;refine z0q ?_;clear hC a5 a1 a2 a0;refine bk (h.sub (L':=[(0,_),(2,_),(3,_),(100,_)]) (.c4 rfl rfl rfl rfl)) ?_;exact jE (_) (.c4 rfl rfl rfl rfl) ⟨a9,by simp_all [fN]⟩;clear h;intro g4 h;refine z2i 6 h rfl rfl rfl λa h=>z2i 7 h rfl rfl rfl λa h=>z2i 8 h rfl rfl rfl λa h=>z0d 9 rfl ?_;refine z4k h rfl rfl rfl rfl λa h=>?_;refine z0b ?_;refine z0d 10 rfl ?_;refine z0r h rfl λa h=>?_;refine z0b ?_;refine z0q ?_;clear hC a5 a1 a2 a0;refine bk (h.sub (L':=[(0,_),(2,_),(3,_),(100,_)]) (.c4 rfl rfl rfl rfl)) ?_;exact jE (_) (.c4 rfl rfl rfl rfl) ⟨a9,by simp_all [fN]⟩;rintro b3 i4 ⟨b1,rfl⟩;refine kpC [(0,_),(2,_),(3,_),(100,_)] (.c4 rfl rfl rfl rfl) (cd rfl (λc6=>?_) (λc6=>?_));refine rg (mv rfl ?_);replace U:=(((U.ext (q1.n1 q2)).fr q3 (by intro k O hb;simp at O;subst O;have:=Z _ hb;omega)).fr q4 (by intro k O hb;simp at O;subst O;have:=Z _ hb;omega)).ext (a4.n1 b1);refine z1a (p:=1) ([]) rfl U rfl z3w rfl (λe8 b7=>(z1g rfl (b7 _ U) na9 ?_));replace hG:=(hG.fr q4 (by first|exact z9k hG (by omega)|simp[z0x]<;>omega)).ext (a4.n1 b1);refine cl (ev1 rfl) (mkC func222) (x2e _ _ hG (b0 _)) rfl ?_;rintro _ i5 ⟨e,rfl,e2⟩;refine mv rfl (xt rfl rfl (xt rfl rfl (fad rfl z4h ?_)));replace I:=I.ext (a4.n2 b1 e2);refine z5h (cs':=[_,_,_,_,_,_]) rfl rfl I (by first|(simp[Value.oneCell',S];done)|exact Enc.one _ _) y6i rfl (λi7 I f2 j3=>?_);refine kpL [(2,_),(3,_)] (.c2 rfl rfl) (nl (bn' ?_));exact jE (()) (.c2 rfl rfl) ⟨((Fr.refl [g3] _).z4 a4 b1 e2 f2),by rw[z4b,y4w,if_neg c2,if_neg c3,if_neg c4,if_neg c5,if_pos c6];exact I⟩;refine sk (bn' ?_);replace I:=I.ext (a4.n1 b1);exact jE (()) (.c2 rfl rfl) ⟨((Fr.refl [g3] _).n2 a4 b1),by rw[z4b,y4w,if_neg c2,if_neg c3,if_neg c4,if_neg c5,if_neg c6];exact I⟩;rintro _j i8 ⟨e3,I⟩;have b5:=I.lt;refine kpC [(2,_),(3,_)] (.c2 rfl rfl) (sr (z0k rfl I y1k ?_));replace M:=(((M.ext q2).fr q3).fr q4).fr e3;refine z0j rfl rfl M u1k (λi9 M f3 j4=>?_) (hl:=rfl);refine nn (rt (rC results183 rfl M y1k  ?_));exact⟨_,rfl,rfl,(q1.z5 q2 q3 q4 e3 f3)⟩
theorem v9i (l:List UInt8)(w0:World)(hG:Glob w0)(hl:l.length<=1000000):Rets prog 128 #[S l] w0 λr w'=>∃o e,y5r l=(o,e)/\r=.tuple #[opV o,.int .i64 e]/\Fr [] w0 w':=by
 have a2:=hG.sz;refine we [(0,S l)] func128 rfl ntmps128 rfl (.cons rfl .nil) (sr (al u1j rfl rfl (λg2 w1 a3 D q1 z1=>(asg rfl (nn (sr (mv rfl ?_)))))));replace hG:=hG.ext q1;refine cl (ev2 rfl rfl) (mkC func125) (x7c _ _ _ hG (by omega) (by decide)) rfl ?_;rintro v6 w2 ⟨a0,J⟩;have z2:=J.size;replace hG:=hG.ext J;refine cl (ev1 rfl) (mkC func183) (u0t _ _ _ hG a0.sl (v1h _ _) (λi=>Nat.le_trans (x1f _ _ i) hl)) rfl ?_;rintro _ w3 ⟨rfl,M⟩;have z3:=M.size;refine al u1j rfl rfl (λg4 w4 a4 I U z4=>(z0j rfl rfl I u1k (λw5 I Z z5=>?_) (hl:=rfl)));refine nn (sq (sq ?_));refine y6f (r:=16) (L':=[(2,_),(4,_)]) ((((y3a (z4b (Lib.split l [32])))≠0)\/((j1x (z4b (Lib.split l [32])))≠l))) (.c2 rfl rfl) ?_ ?_;refine z0k rfl I y1k (cl (ev1 rfl) j0z (y0x (z4b (Lib.split l [32])) _) rfl ?_);rintro _ w6 ⟨rfl,q6⟩;have z6:=q6.size;refine ne' rfl rfl (mv rfl (gs 11 rfl (λg0=>?_) (λg0=>?_)));exact gN rfl rfl (gN rfl rfl (gN rfl rfl (gN rfl rfl (pkt rfl rfl (z6y rfl (.c2 rfl rfl) q6)))));refine gY rfl ?_;replace I:=I.ext q6;refine z0k rfl I y1k (gY rfl ?_);replace hG:=((hG.ext (M.n1 U)).fr Z (by first|exact z9k hG (by omega)|simp[z0x]<;>omega)).ext q6;refine cl (ev1 rfl) (mkC func184) (j0a (z4b (Lib.split l [32])) _ hG) rfl ?_;rintro _ w7 ⟨rfl,q7⟩;have z7:=q7.size;exact gY rfl (mv rfl (gY rfl (u7y rfl rfl rfl (pkf rfl rfl (z6y rfl (.c2 rfl rfl) (q6.n1 q7))))));intro w8 O;have z8:=O.size;refine tn (cd rfl (λc0=>?_) (λc0=>?_));refine sr (z1v (cs:=[_,_,_,_,_,_]) z0f j6g z0s rfl ?_);replace D:=((D.ext (J.n2 M U)).fr Z).ext O;refine z0j rfl rfl D u1k (λw9 D q9 z9=>?_) (hl:=rfl);refine asg rfl (nn (rt (tr (rCT results128 rfl D y1k rfl ?_))));exact⟨_,rfl,op0,4,by rw[y5r,if_pos c0],rfl,(q1.z6 J M U Z O q9)⟩;refine sk (tn (sr ?_));replace I:=I.ext O;refine z0k rfl I y1k ?_;replace D:=((D.ext (J.n2 M U)).fr Z).ext O;refine z0j rfl rfl D u1k (λa5 D a1 a6=>?_) (hl:=rfl);refine asg rfl (nn (rt (rCT results128 rfl D y1k rfl ?_)));exact⟨_,rfl,(z4b (Lib.split l [32])),0,by rw[y5r,if_neg c0],rfl,(q1.z6 J M U Z O a1)⟩
theorem v0g (l:List UInt8)(w0:World)(hG:Glob w0)(hl:l.length<=1000000):Rets prog 79 #[S l] w0 λr w'=>∃A os n e,y8l l=(os,n,e)/\r=.tuple #[.slice A os.length os.length,.int .i64 n,.int .i64 e]/\Lw.Own z5r 28 w0.heap.size w' (.slice A os.length os.length) os/\Fr [] w0 w':=by
 have Z:=λi=>x1f l [10] i;have b8:=hG.sz;refine we [(0,S l)] func79 rfl ntmps79 rfl (.cons rfl .nil) (sr (asg rfl (asg rfl (asg rfl (nn (sr (asg rfl (nn (sq (sr (mv rfl (cl (ev2 rfl rfl) (mkC func125) (x7c _ _ _ hG (by omega) (by decide)) rfl ?_))))))))))));rintro d3 w1 ⟨D,q1⟩;have z1:=q1.size;obtain⟨b5,b6,rfl,b2⟩:=D.sl.form;have a6:=λk hk=>(D.blk k hk).2;have a7:=D.sl.len_le;unfold maxLen at a7;refine lnS rfl underlying153 (mv rfl (nn (bl ?_)));refine lpK (ι:=Nat×List MOp×Option Addr×Nat) [(12,_),(13,_)] (λp=>[(5,.slice p.2.2.1 p.2.1.length p.2.2.2),(14,.int .i64 (p.1:Int))]) (λp w'=>Fr [] w1 w'/\p.1<=(Lib.split l [10]).length/\Lw.Own z5r 28 w1.heap.size w' (.slice p.2.2.1 p.2.1.length p.2.2.2) p.2.1/\v0m ((Lib.split l [10]).drop p.1) p.1 p.2.1=y8l l/\p.2.1.length<=4096) (λp=>(Lib.split l [10]).length-p.1) (0,[],none,0) (.c4 rfl rfl rfl rfl) ⟨Fr.refl _ _,⟨Nat.zero_le _,Own.nil _,rfl,by decide⟩⟩ ?_;rintro⟨i,M,A5,c5⟩ w2 ⟨q2,⟨hi,J,I,a1⟩⟩;simp only at hi J I a1;have z2:=q2.size;refine kpC [(12,_),(13,_),(5,.slice A5 M.length c5),(14,.int .i64 (i:Int))] (.c4 rfl rfl rfl rfl) (sr (lt' rfl rfl (nn (sq (cd rfl (λc0=>?_) (λc0=>?_))))));rw[v0z (Lib.split l [10]) i [] (by omega),v0m]at I;have c9:=Z i;refine sk (tn (sq (bl (sr (mv rfl ?_)))));replace D:=D.ext q2;refine z1a (p:=i) ([]) rfl D.sl rfl z3w (by omega) (λb1 a2=>(z1g rfl (a2 _ D.sl) na9 (asg rfl (asg rfl (nn (sr (mv rfl ?_)))))));replace hG:=hG.ext (q1.n1 q2);refine cl (ev2 rfl rfl) (mkC func126) (u4x _ _ _ hG (by have:=Z i;omega)) rfl ?_;rintro _ w3 ⟨rfl,q3⟩;have z3:=q3.size;refine mv rfl (xt rfl rfl (xt rfl rfl (xt rfl rfl (asg rfl (kpL [(5,_),(6,_),(7,_),(12,_),(13,_),(14,_)] (.c6 rfl rfl rfl rfl rfl rfl) (nn (sr (mv rfl ?_))))))));refine cl (ev2 rfl rfl) (mkC func127) (u8l _ _ (by have:=Z i;have:=v6w ((Lib.split l [10]).getD i []) [35];omega)) rfl ?_;rintro _ w4 ⟨rfl,q4⟩;have z4:=q4.size;refine asg rfl (nn (sq (sr (mv rfl (u1n rfl rfl rfl (nn (cd rfl (λc1=>?_) (λc1=>?_))))))));rw[if_pos (show y9f ((Lib.split l [10]).getD i [])=[] from c1)]at I;refine ex (te (xh (tn (rg (z0v rfl rfl (wi6 (by omega)) (mv rfl (nl ?_)))))));replace J:=J.ext (q3.n1 q4);exact lpE ((i+1,M,A5,c5)) (.c4 rfl rfl rfl rfl) ⟨(q2.n2 q3 q4),⟨by omega,J,by simpa using I,a1⟩⟩ (by omega);rw[if_neg (show ¬y9f ((Lib.split l [10]).getD i [])=[] from c1)]at I;refine sk (tn (sr (mv rfl ?_)));replace hG:=hG.ext (q3.n1 q4);refine cl (ev1 rfl) (mkC func128) (v9i _ _ hG (by have:=Z i;have:=u0h ((Lib.split l [10]).getD i []);unfold y9f at this;omega)) rfl ?_;rintro _ w5 ⟨o,e,a9,rfl,q5⟩;have z5:=q5.size;rw[show y5r (y9f ((Lib.split l [10]).getD i []))=(o,e) from a9]at I;simp only at I;refine mv rfl (xt rfl rfl (xt rfl rfl (al u1j rfl rfl (λg8 w6 d0 a0 q6 z6=>(z0j rfl rfl a0 u1k (λw7 a0 q7 z7=>?_) (hl:=rfl))))));refine asg rfl (kpL [(5,_),(6,_),(8,_),(9,_),(12,_),(13,_),(14,_)] (.c7 rfl rfl rfl rfl rfl rfl rfl) (nn (sq (sr (mv rfl (ne' rfl rfl (nn (cd rfl (λc2=>?_) (λc2=>?_)))))))));rw[if_pos c2]at I;refine sr (mv rfl (z0v rfl rfl (wi6 (by omega)) (mv rfl (asg rfl (asg rfl (asg rfl (kpL [(2,_),(3,_),(4,_)] (.c3 rfl rfl rfl) (nn (rt (tr (rb (tr (tr (rb (tr (r3 results79 rfl rfl rfl ?_))))))))))))))));exact⟨_,rfl,none,[],_,_,I.symm,rfl,Own.nil _,(q1.z6 q2 q3 q4 q5 q6 q7)⟩;rw[if_neg c2]at I;refine sk (tn (sq (sr (mv rfl (lnS rfl underlying29 (eq' rfl rfl (nn (cd rfl (λc3=>?_) (λc3=>?_)))))))));rw[if_pos c3]at I;refine sr (mv rfl (z0v rfl rfl (wi6 (by omega)) (asg rfl (asg rfl (asg rfl (kpL [(2,_),(3,_),(4,_)] (.c3 rfl rfl rfl) (nn (rt (tr (rb (tr (tr (rb (tr (r3 results79 rfl rfl rfl ?_)))))))))))))));exact⟨_,rfl,none,[],_,_,I.symm,rfl,Own.nil _,(q1.z6 q2 q3 q4 q5 q6 q7)⟩;rw[if_neg c3]at I;refine sk (tn (rg (mv rfl (z0k rfl a0 y1k (z2h ([o]) (ev1 rfl) rfl rfl rfl u1d (λb7 w8 b3 a3 q8 z8=>?_))))));replace hG:=((hG.ext (q5.n1 q6)).fr q7 (by first|exact z9k hG (by omega)|simp[z0x]<;>omega)).ext q8;replace D:=((D.ext (q3.n3 q4 q5 q6)).fr q7 (by first|exact z9k D (by omega)|simp[z0x]<;>omega)).ext q8;replace J:=((J.ext (q3.n3 q4 q5 q6)).fr q7 (by first|exact z9k J (by omega)|simp[z0x]<;>omega)).ext q8;have O:=J;refine z2e rfl rfl J a3.sl u1d (by unfold maxLen;simp;omega) (by simp;omega) (λd4 w9 J q9 a8=>?_);have z9:=q9.size;replace hG:=hG.fr q9 (λk hk=>by have:=(O.blk k hk).1;omega);replace D:=D.fr q9 (λk hk hb=>by have:=(O.blk k hk).1;have:=a6 k hb;omega);obtain⟨A7,c7,rfl,b9⟩:=J.sl.form;refine asg rfl (kpL [(5,_),(12,_),(13,_),(14,_)] (.c4 rfl rfl rfl rfl) (nl (bn' (tn (rg (z0v rfl rfl (wi6 (by omega)) (mv rfl (nl ?_))))))));exact lpE ((i+1,M++[o],A7,c7)) (.c4 rfl rfl rfl rfl) ⟨((q2.z6 q3 q4 q5 q6 q7 q8).step q9 (λk hk d1=>absurd (O.blk k hk).1 (by omega))),⟨by omega,J,by simpa using I,by simp;omega⟩⟩ (by omega);obtain rfl:i=(Lib.split l [10]).length:=by omega
 rw[List.drop_length,v0m]at I;refine ex (te (te (xh (tn (sr (mv rfl (lnS rfl underlying29 (z1f (m:=M.length) (c:=M.length) op0 rfl rfl u1d u1j rfl (λa5 d5 b4 U a4 d7=>?_) (hmc:=(Nat.le_refl _))))))))));refine asg rfl (kpL [(5,_),(10,_)] (.c2 rfl rfl) (nn (sr (mv rfl (mv rfl ?_)))));replace J:=J.ext a4;refine z7k (zs:=List.replicate M.length op0) (by rw[List.length_replicate];rfl) rfl (by rw[List.length_replicate];exact U) J.sl (by rw[List.length_replicate]) u1d (λd6 U b0 d9=>?_);rw[List.length_replicate]at U;refine nn (sr (mv rfl (asg rfl (asg rfl (asg rfl (nn (rt (r3 results79 rfl rfl rfl ?_))))))));exact⟨_,rfl,some ⟨a5,0,none⟩,M,0,0,I.symm,rfl,U.low (by omega),(q1.z3 q2 a4 b0)⟩
end Go.Proofs.YtpgdchkdlgkmgaaGreatDoor
namespace Go.G08
open Go.Lw Go.G21
def u3w:Nat->Nat->List UInt8
  | 0,_=>[]
  | f+1,u=>if u<10 then [UInt8.ofNat (48+u)] else u3w f (u / 10)++[UInt8.ofNat (48+u % 10)]
theorem v2j:∀f u,u<10 ^ (f+1)->Lib.decDigits u=u3w (f+1) u
 | f,u,h=>by
  rw[Lib.decDigits,u3w]
  by_cases k:u<10
  ·rw[dif_pos k,if_pos k]
  rw[dif_neg k,if_neg k]
  cases f with
  | zero=>omega
  | succ f=>rw[v2j f (u / 10) (by rw[Nat.pow_succ]at h;omega)]
theorem y8t:∀f u,(u3w f u).length<=f
 | 0,_=>by simp[u3w]
 | f+1,u=>by
  rw[u3w];split
  ·simp
  have:=y8t f (u / 10);simp;omega
def v2z (n:Int):List UInt8:=if n<0 then 45::u3w 8 n.natAbs else u3w 8 n.toNat
theorem u8q {n:Int}(h:-99999999<=n/\n<=99999999):Lib.itoa n=v2z n:=by
 unfold Lib.itoa v2z;split<;>rw[v2j 7 _ (by omega)]
theorem z9o (n:Int):(v2z n).length<=9:=by
 unfold v2z;split;have:=y8t 8 n.natAbs;simp;omega;have:=y8t 8 n.toNat;omega
def z6w (i:LId):List UInt8:=v2z i.y++[46]++v2z i.n
theorem y1b (i:LId):(z6w i).length<=19:=by
 unfold z6w;have D:=z9o i.y;have I:=z9o i.n;simp;omega
def z4n (wd:List UInt8)(l:List LId):List (List UInt8):=wd::l.map z6w
def x0m (p:Pa):List UInt8:=if p.f=true then (z6w p.id++(if p.d=1 then [62] else [60]))++[43] else z6w p.id++(if p.d=1 then [62] else [60])
def x3o:List UInt8:=[102,114,111,110,116]
def v6c:List UInt8:=[98,97,99,107]
def j7a:List UInt8:=[110,101,119]
def j5q:List UInt8:=[116,104,114,111,117,103,104]
def u8o:List UInt8:=[112,97,115,116]
def x8b:List UInt8:=[99,114,111,115,115]
def v7u:List UInt8:=[104,101,108,100]
def y1i:List UInt8:=[102,97,108,108,101,110]
def y5k (i:LId)(l:Lp):List (List UInt8):=[z6w i,if l.b=1 then v6c else x3o]++(if l.nw=true then [j7a] else [])
def y6c (i:LId)(l:Lp):List (List UInt8):=y5k i l++(if l.th=[] then [] else z4n j5q l.th)
def y6g (i:LId)(l:Lp):List (List UInt8):=y6c i l++(if l.pa=[] then [] else [u8o])
def x0s (i:LId)(l:Lp):List (List UInt8):=y6g i l++l.pa.map x0m
def y2c (ws:List (List UInt8)):List UInt8:=Lib.join ws [32]++[10]
def x5p (y:Nat):Nat->List Lp->List UInt8
  | _,[]=>[]
  | n,l::r=>y2c (x0s ⟨(y:Int)+1,(n:Int)⟩ l)++x5p y (n+1) r
def y9m:Nat->Tb->List UInt8
  | _,[]=>[]
  | y,r::T=>x5p y 0 r++y9m (y+1) T
def y4j:List Cx->List UInt8
  | []=>[]
  | c::l=>y2c [x8b,z6w c.a,z6w c.b,v2z c.n]++y4j l
def y5s (h:List LId):List UInt8:=if h=[] then [] else y2c (z4n v7u h)
def y4e (f:List LId):List UInt8:=if f=[] then [] else y2c (z4n y1i f)
def j0j (T:Tb)(c:List Cx)(h f:List LId):List UInt8:=y9m 0 T++(y4j c++(y5s h++y4e f))
theorem x9j {y n:Nat}{r:List Lp}(h:n<r.length):x5p y n (r.drop n)=y2c (x0s ⟨(y:Int)+1,(n:Int)⟩ (r.getD n lq0.p))++x5p y (n+1) (r.drop (n+1)):=by
 rw[List.drop_eq_getElem_cons h,x5p,List.getD,List.getElem?_eq_getElem h];rfl
theorem v0h {y:Nat}{T:Tb}(h:y<T.length):y9m y (T.drop y)=x5p y 0 (T.getD y [])++y9m (y+1) (T.drop (y+1)):=by
 rw[List.drop_eq_getElem_cons h,y9m,List.getD,List.getElem?_eq_getElem h];rfl
theorem x9n {i:Nat}{l:List Cx}(h:i<l.length):y4j (l.drop i)=y2c [x8b,z6w (l.getD i cx0).a,z6w (l.getD i cx0).b,v2z (l.getD i cx0).n]++y4j (l.drop (i+1)):=by
 rw[List.drop_eq_getElem_cons h,y4j,List.getD,List.getElem?_eq_getElem h];rfl
end Go.G08
namespace Go.G08
open Go.Lw Go.G21
def IdS (x:LId):Prop:=(-99999999<=x.y/\x.y<=99999999)/\(-99999999<=x.n/\x.n<=99999999)
theorem z5y (wd:List UInt8)(l:List LId):(z4n wd l).length=l.length+1:=by unfold z4n;simp
theorem x4v {wd:List UInt8}{l:List LId}{i:Nat}(h:i<l.length):z4n wd (l.take (i+1))=z4n wd (l.take i)++[z6w (l.getD i id0)]:=by
 unfold z4n;rw[z6g id0 h];simp
theorem u5c {x:LId}{l:Lp}(h:l.nw=true):y5k x l=[z6w x,if l.b=1 then v6c else x3o]++[j7a]:=by unfold y5k;rw[if_pos h]
theorem u5s {x:LId}{l:Lp}(h:¬l.nw=true):y5k x l=[z6w x,if l.b=1 then v6c else x3o]:=by unfold y5k;rw[if_neg h,List.append_nil]
theorem u6c {x:LId}{l:Lp}(h:0<l.th.length):y6c x l=y5k x l++z4n j5q l.th:=by
 unfold y6c;rw[if_neg];intro e;rw[e]at h;cases h
theorem u8g {x:LId}{l:Lp}(h:¬0<l.th.length):y6c x l=y5k x l:=by
 unfold y6c;rw[if_pos (List.length_eq_zero_iff.1 (by omega)),List.append_nil]
theorem u5p {x:LId}{l:Lp}(h:0<l.pa.length):y6g x l=y6c x l++[u8o]:=by
 unfold y6g;rw[if_neg];intro e;rw[e]at h;cases h
theorem u5t {x:LId}{l:Lp}(h:¬0<l.pa.length):y6g x l=y6c x l:=by
 unfold y6g;rw[if_pos (List.length_eq_zero_iff.1 (by omega)),List.append_nil]
theorem x1e (x:LId)(l:Lp):(y5k x l).length<=3:=by unfold y5k;(repeat' split)<;>simp
theorem x2l (x:LId)(l:Lp):(y6c x l).length<=4+l.th.length:=by
 have:=x1e x l;unfold y6c;split;simp;omega;rw[List.length_append,z5y];omega
theorem x3z (x:LId)(l:Lp):(y6g x l).length<=5+l.th.length:=by
 have:=x2l x l;unfold y6g;split;simp;omega;rw[List.length_append,List.length_singleton];omega
theorem v1o (x:LId)(l:Lp):(x0s x l).length<=5+l.th.length+l.pa.length:=by
 have:=x3z x l;unfold x0s;rw[List.length_append,List.length_map];omega
theorem v9x (x:LId)(l:Lp):x0s x l≠[]:=by
 intro e;have:=congrArg List.length e;unfold x0s y6g y6c y5k at this;simp at this
end Go.G08
namespace Go.G08
open Go.Lw Go.G21
theorem z8s:∀(T:Tb) (y:Nat),z2t T y<=z4v T
 | [],y=>by simp[z2t]
 | r::T,0=>by simp[z2t,z4v]
 | r::T,y+1=>by
  have:=z8s T y
  simp only[z2t,z4v,List.getD_cons_succ,List.map_cons,List.sum_cons]at this ⊢;omega
theorem z6r {T:Tb}(h:TabOk T){x:LId}(D:z4e T x):IdS x:=by
 obtain⟨I,J,M,O⟩:=D;have:=z8s T (x.y-1).toNat;have U:=h.six;have Z:=h.cnt;exact⟨by omega,by omega⟩
theorem u9f {h:List LId}(k:0<h.length):y5s h=y2c (z4n v7u h):=by
 unfold y5s;rw[if_neg];intro e;rw[e]at k;cases k
theorem u5e {h:List LId}(k:¬0<h.length):y5s h=[]:=if_pos (List.length_eq_zero_iff.1 (by omega))
theorem v0v {h:List LId}(k:0<h.length):y4e h=y2c (z4n y1i h):=by
 unfold y4e;rw[if_neg];intro e;rw[e]at k;cases k
theorem v4j {h:List LId}(k:¬0<h.length):y4e h=[]:=if_pos (List.length_eq_zero_iff.1 (by omega))
def j6q (T:Tb):List LId:=(List.range 6).flatMap λy=>(List.range (z2t T y)).map λ(n:Nat)=>(⟨(y:Int)+1,(n:Int)⟩:LId)
theorem x2p:∀ {l m:List LId},l.Nodup->(∀x∈l,x∈m)->l.length<=m.length
 | [],_,_,_=>Nat.zero_le _
 | x::l,m,hn,hs=>by
  have I:=hs x (by simp)
  have D:=List.nodup_cons.1 hn
  have:=x2p (l:=l) (m:=m.erase x) D.2 (λy J=>(List.mem_erase_of_ne (λe=>D.1 (by rw[<-e];exact J))).2 (hs y (List.mem_cons_of_mem _ J)))
  rw[List.length_erase_of_mem I]at this
  have M:=List.length_pos_of_mem I
  rw[List.length_cons];omega
theorem y4t {T:Tb}(h:TabOk T){l:List LId}(I:∀x∈l,z4e T x)(hn:∀x,l.count x<=1):l.length<=100000:=by
 have M:∀x∈l,x∈j6q T:=λx O=>by
  obtain⟨y,n,U,hn,rfl⟩:=x0w h.six (I x O);exact List.mem_flatMap.2 ⟨y,List.mem_range.2 U,List.mem_map.2 ⟨n,List.mem_range.2 hn,rfl⟩⟩
 have D:l.Nodup:=List.nodup_iff_count.2 hn;have J:=x2p D M;have e:(j6q T).length=z2t T 0+(z2t T 1+(z2t T 2+(z2t T 3+(z2t T 4+z2t T 5)))):=by
  unfold j6q;rw[show List.range 6=[0,1,2,3,4,5] from rfl];simp
 have Z:=z8s T 0;have h1:=z8s T 1;have h2:=z8s T 2;have h3:=z8s T 3;have h4:=z8s T 4;have h5:=z8s T 5;have:=h.cnt;omega
end Go.G08
namespace Go.Proofs.YtpgdchkdlgkmgaaGreatDoor
open Go.Lw Go.G21 Go.G08 _root_.Go.Proofs.Tryz
theorem x5b (n:Int)(w0:World)(hG:Glob w0)(h:-99999999<=n/\n<=99999999):Rets prog 86 #[.int .i64 n] w0 λv w'=>v=S (v2z n)/\Fr [] w0 w':=by
 refine Calls.mono (strconv_Itoa n (by omega) (by omega) w0 hG.tab) ?_;rintro e w' ⟨rfl,k,D,rfl⟩;exact⟨_,rfl,by rw[u8q h];rfl,v4h _ _ _⟩
theorem y4l (x:LId)(w0:World)(hG:Glob w0)(M:IdS x):Rets prog 85 #[.agg #[.int .u8 x.y,.int .i64 x.n]] w0 λr w'=>r=S (z6w x)/\Fr [] w0 w':=by
 have a2:=M.1;have a3:=M.2;have a0:=hG.sz;refine we [(0,.agg #[.int .u8 x.y,.int .i64 x.n])] func85 rfl ntmps85 rfl (.cons rfl .nil) ?_;have Z:=hG;refine sr (bx rfl rfl rfl (λg1 w1 a1 I q1 z1=>(asg rfl (nn (sq ?_)))));replace hG:=Z.ext q1;intro a h;refine z0i none (λwb w'=>Fr [] wb w') z2o ?_;intro w2 q2;replace hG:=hG.ext q2;replace I:=I.ext q2;have hC:Fr [] w2 w2:=Fr.refl _ _;have J:=hG;have D:=I;refine z0c 0 h rfl z7o rfl λa h=>z0l 1 h rfl (λ_ hw=>D.ext hw) rfl na5 rfl λa h=>x6j 2 hC h wn rfl (by rw[underlying5];rfl) underlying3 (by first|exact i6 (by omega)|rfl) rfl rfl λa h=>z0c 5 h rfl z8y rfl λa h=>z0l 6 h rfl (λ_ hw=>D.ext hw) rfl na3 rfl λa h=>z0d 3 rfl ?_;refine z0n h (z0a rfl z0f) u6a (x5b x.y _ hG M.1) ?_;rintro _ w3 ⟨rfl,q3⟩ a h;replace hG:=hG.ext q3;replace hC:=hC.next q3;refine z0b ?_;refine v6m 4 hC h wn rfl rfl (by have O:=z9o x.y;have U:=z9o x.n;simp;omega) rfl rfl λa h=>z0d 7 rfl ?_;refine z0n h (z0a rfl z0f) u6a (x5b x.n _ hG M.2) ?_;rintro _ w4 ⟨rfl,q4⟩ a h;replace hC:=hC.next q4;refine z0b ?_;refine v6m 8 hC h wn rfl rfl (by have O:=z9o x.y;have U:=z9o x.n;simp;omega) rfl rfl λa h=>z0d 9 rfl ?_;refine z0r h rfl λa h=>?_;refine z0b ?_;refine z0q ?_;clear hC J D;refine bk (h.sub (L':=[(2,_)]) (.cons rfl .nil)) (tn (rt (r1 results85 rfl ?_)));exact⟨_,rfl,rfl,(q1.n3 q2 q3 q4)⟩
theorem j4x:CallOf prog 85:=mkC func85
theorem v3j:z0z prog 100 1 2:=λ_ _=>by kernel_rfl
theorem y3p (wd:List UInt8)(v:Value)(l:List LId)(w0:World)(hG:Glob w0)(U:Sl z1k w0 v l)(hb:∀x∈l,IdS x)(hl:l.length<=100000):Rets prog 87 #[S wd,v] w0 λr w'=>Lw.Own Enc.str 9 w0.heap.size w' r (z4n wd l)/\Fr [] w0 w':=by
 obtain⟨A,c,rfl,a9,hM,hA⟩:=id U;clear hA;unfold maxLen at hM;have a8:=hG.sz;refine we [(0,S wd),(1,.slice A l.length c)] func87 rfl ntmps87 rfl (.c2 rfl rfl) ?_;have a4:=U;have a0:=hG;refine sr (asg rfl (nn (sr (mv rfl (z2h ([wd]) (ev1 rfl) rfl rfl rfl z3w (λg9 w1 b1 a2 q1 z1=>(asg rfl (nn (sq (sr (mv rfl (lnS rfl underlying37 (mv rfl (nn (bl ?_)))))))))))))));refine lpK (ι:=Nat×Value) [(10,_),(11,_)] (λp=>[(12,.int .i64 (p.1:Int)),(5,p.2)]) (λp w'=>Fr [] w0 w'/\p.1<=l.length/\Lw.Own Enc.str 9 w0.heap.size w' p.2 (z4n wd (l.take p.1))) (λp=>l.length-p.1) (0,_) (.c4 rfl rfl rfl rfl) ⟨q1,⟨Nat.zero_le _,by rw[List.take_zero];exact a2.low (by omega)⟩⟩ ?_;rintro⟨i,vP⟩ w2 ⟨Z,⟨a1,D⟩⟩;simp only at a1 D;have z2:=Z.size;refine kpC [(10,_),(11,_),(12,.int .i64 (i:Int)),(5,vP)] (.c4 rfl rfl rfl rfl) ?_;have b3:=z5y wd (l.take i);have b4:(l.take i).length<=i:=by rw[List.length_take];omega
 refine sr (lt' rfl rfl (nn (sq (cd rfl (λc0=>?_) (λc0=>?_)))));refine sk (tn (sq (bl (sr ?_))));replace U:=a4.ext Z;refine z1a (id0) rfl U rfl z6j z1d (λa5 M=>?_);refine z1i rfl (M _ U) z3o (al y3v rfl rfl (λg7 w3 b0 I q3 z3=>?_));refine z0j (vs:=[_,_]) rfl rfl I y1u (λw4 I q4 z4=>?_) (h1:=(by first|(simp[Value.oneCell',S];done)|exact z1k.one _));refine nn (rg (mv rfl (z0k rfl I z3o ?_)));replace hG:=a0.ext (Z.z2 q3 q4);refine cl (ev1 rfl) j4x (y4l (l.getD i id0) _ hG (hb _ (z0u (by omega)))) rfl ?_;rintro _ w5 ⟨rfl,q5⟩;have z5:=q5.size;refine z2h ([z6w (l.getD i id0)]) (ev1 rfl) rfl rfl rfl z3w (λa7 w6 a6 O q6 z6=>?_);replace D:=((D.ext q3).fr q4 (by first|exact z9k D (by omega)|simp[z0x]<;>omega)).ext (q5.n1 q6);have J:=D;refine z2e rfl rfl D O.sl z3w (by unfold maxLen;first|(simp only[List.length_append,List.length_cons,List.length_nil];omega)|omega) (by first|(simp only[List.length_append,List.length_cons,List.length_nil];omega)|omega) (λb5 w7 D q7 a3=>?_);have z7:=q7.size;refine asg rfl (kpL [(5,_),(10,_),(11,_),(12,_)] (.c4 rfl rfl rfl rfl) (nl (bn' (tn (rg (z0v rfl rfl (wi6 (by omega)) (mv rfl (nl ?_))))))));exact lpE ((i+1,_)) (.c4 rfl rfl rfl rfl) ⟨((Z.z4 q3 q4 q5 q6).step q7 (λk hk b2=>absurd (J.blk k hk).1 (by omega))),⟨by simp only;omega,by rw[x4v (by omega)];exact D⟩⟩ (by simp only;omega);obtain rfl:i=l.length:=by omega
 rw[List.take_length]at D;refine ex (te (te (xh (tn (sr (mv rfl (asg rfl (kpL [(4,_)] (.cons rfl .nil) (nn (rt (r1 results87 rfl ?_)))))))))));exact⟨_,rfl,D,Z⟩
theorem u6f (p:Pa)(w0:World)(hG:Glob w0)(hx:IdS p.id):Rets prog 131 #[.agg #[.int .u8 p.id.y,.int .i64 p.id.n,.bool p.f,.int .u8 p.d]] w0 λr w'=>r=S (x0m p)/\Fr [] w0 w':=by
 have a0:=hG.sz;refine we [(0,.agg #[.int .u8 p.id.y,.int .i64 p.id.n,.bool p.f,.int .u8 p.d])] func131 rfl ntmps131 rfl (.cons rfl .nil) ?_;have Z:=hG;refine sr (bx rfl rfl rfl (λg1 w1 a1 J O z1=>(asg rfl (nn (sr (fad rfl y9i (z1s (vs:=[_,_]) rfl J z3o rfl ?_)))))));replace hG:=Z.ext O;refine cl (ev1 rfl) j4x (y4l p.id _ hG hx) rfl ?_;rintro _ w2 ⟨rfl,U⟩;refine asg rfl (nn (sq (sr (fad rfl z7a ?_))));replace J:=J.ext U;refine z0g rfl J rfl y9j (eq' rfl rfl (nn (cd rfl (λI=>?_) (λI=>?_))));refine rg (mv rfl (y8b rfl rfl (by have M:=y1b p.id;simp;omega) rfl (asg rfl (nl (tn (sq (sr (fad rfl v3j (z0g rfl J rfl na4 (nn ?_))))))))));refine cd rfl (λD=>?_) (λD=>?_);refine rg (mv rfl (y8b rfl rfl (by have M:=y1b p.id;simp;omega) rfl (asg rfl (nl (tn (sr (mv rfl (asg rfl (nn (rt (r1 results131 rfl ?_)))))))))));exact⟨_,rfl,by unfold x0m;first|rw[if_pos D,if_pos I]|rw[if_pos D,if_neg I]|rw[if_neg D,if_pos I]|rw[if_neg D,if_neg I],(O.n1 U)⟩;refine sk (tn (sr (mv rfl (asg rfl (nn (rt (r1 results131 rfl ?_)))))));exact⟨_,rfl,by unfold x0m;first|rw[if_pos D,if_pos I]|rw[if_pos D,if_neg I]|rw[if_neg D,if_pos I]|rw[if_neg D,if_neg I],(O.n1 U)⟩;refine rg (mv rfl (y8b rfl rfl (by have M:=y1b p.id;simp;omega) rfl (asg rfl (nl (tn (sq (sr (fad rfl v3j (z0g rfl J rfl na4 (nn ?_))))))))));refine cd rfl (λD=>?_) (λD=>?_);refine rg (mv rfl (y8b rfl rfl (by have M:=y1b p.id;simp;omega) rfl (asg rfl (nl (tn (sr (mv rfl (asg rfl (nn (rt (r1 results131 rfl ?_)))))))))));exact⟨_,rfl,by unfold x0m;first|rw[if_pos D,if_pos I]|rw[if_pos D,if_neg I]|rw[if_neg D,if_pos I]|rw[if_neg D,if_neg I],(O.n1 U)⟩;refine sk (tn (sr (mv rfl (asg rfl (nn (rt (r1 results131 rfl ?_)))))));exact⟨_,rfl,by unfold x0m;first|rw[if_pos D,if_pos I]|rw[if_pos D,if_neg I]|rw[if_neg D,if_pos I]|rw[if_neg D,if_neg I],(O.n1 U)⟩
set_option maxHeartbeats 1000000 in
theorem u8v (x:LId)(q:LpQ)(w0:World)(hG:Glob w0)(U:LpAt w0 q)(hx:IdS x)(e1:∀y∈q.ths,IdS y)(e0:∀y∈q.pas,IdS y.id)(hl:q.ths.length<=100000/\q.pas.length<=100000):Rets prog 84 #[.agg #[.int .u8 x.y,.int .i64 x.n],.agg #[.int .u8 q.b,.bool q.nw,.slice q.th.1 q.th.2.1 q.th.2.2,.slice q.pa.1 q.pa.2.1 q.pa.2.2]] w0 λr w'=>Lw.Own Enc.str 9 w0.heap.size w' r (x0s x q.p)/\Fr [] w0 w':=by
 have g6:=z1x U.1;have g8:=z1x U.2;have g0:=x3z x q.p;have f1:=x2l x q.p;have f0:=x1e x q.p;have h0:q.p.th.length=q.ths.length:=rfl;have d9:=U.2.len_le;unfold maxLen at d9;have f9:=hG.sz;refine we [(0,.agg #[.int .u8 x.y,.int .i64 x.n]),(1,.agg #[.int .u8 q.b,.bool q.nw,.slice q.th.1 q.th.2.1 q.th.2.2,.slice q.pa.1 q.pa.2.1 q.pa.2.2])] func84 rfl ntmps84 rfl (.c2 rfl rfl) ?_;have b6:=U;have a4:=hG;refine sr (bx rfl rfl rfl (λg2 w1 g1 Z q1 z1=>(bx rfl rfl rfl (λg3 w2 g4 I q2 z2=>(asg rfl ?_)))));replace Z:=Z.ext q2;have e9:=Z;have J:=I;refine nn (sr (z0k rfl Z z3o ?_));replace hG:=a4.ext (q1.n1 q2);refine cl (ev1 rfl) j4x (y4l x _ hG hx) rfl ?_;rintro _ w3 ⟨rfl,q3⟩;have z3:=q3.size;refine z2h ([z6w x,x3o]) (ev2 rfl rfl) rfl rfl rfl z3w (λd7 w4 f2 M q4 z4=>(asg rfl (nn ?_)));refine jn (ι:=Unit) [(3,_),(5,_)] (λ_j=>[]) (λ_j w'=>Fr [] w2 w'/\Lw.Own Enc.str 9 w2.heap.size w' (.slice (some ⟨d7,0,none⟩) 2 2) ([z6w x,if q.b=1 then v6c else x3o])) (.c2 rfl rfl) ?_ ?_;refine sr (fad rfl x2k ?_);replace I:=J.ext (q3.n1 q4);refine z0g rfl I rfl x1z (eq' rfl rfl (nn (cd rfl (λc0=>?_) (λc0=>?_))));refine rg (mv rfl (z9e (p:=1) (E:=Enc.str) rfl rfl z3w (z4y (i:=1) (v6c) rfl rfl M (by simp) rfl sz9 (λw5 M q5 z5=>(nl ?_)))));exact jE (()) (.c2 rfl rfl) ⟨(q3.z2 q4 q5),by rw[if_pos c0];exact M.low (by omega)⟩;refine sk ?_;exact jE (()) (.c2 rfl rfl) ⟨(q3.n1 q4),by rw[if_neg c0];exact M.low (by omega)⟩;rintro _j w6 ⟨q6,D⟩;have z6:=q6.size;refine kpC [(3,_),(5,_)] (.c2 rfl rfl) ?_;refine jn (ι:=Value) [(3,_)] (λa1=>[(5,a1)]) (λa1 w'=>Fr [] w2 w'/\Lw.Own Enc.str 9 w2.heap.size w' a1 (y5k x q.p)) (.cons rfl .nil) ?_ ?_;refine sr (fad rfl x8c ?_);replace I:=J.ext q6;refine z0g rfl I rfl na4 (nn (cd rfl (λc1=>?_) (λc1=>?_)));refine rg (mv rfl (z2h ([j7a]) (ev1 rfl) rfl rfl rfl z3w (λf6 w7 f3 b8 q7 z7=>?_)));replace D:=D.ext q7;have a7:=D;refine z2e rfl rfl D b8.sl z3w (by unfold maxLen;first|(simp only[List.length_append,List.length_cons,List.length_nil];omega)|omega) (by first|(simp only[List.length_append,List.length_cons,List.length_nil];omega)|omega) (λh3 w8 D q8 e4=>?_);have z8:=q8.size;refine asg rfl (nl ?_);exact jE (_) (.c2 rfl rfl) ⟨((q6.n1 q7).step q8 (λk hk a6=>absurd (a7.blk k hk).1 (by omega))),by rw[u5c c1];exact D⟩;refine sk ?_;exact jE (_) (.c2 rfl rfl) ⟨q6,by rw[u5s c1];exact D⟩;rintro a1 w9 ⟨q9,D⟩;have z9:=q9.size;refine kpC [(3,_),(5,_)] (.c2 rfl rfl) ?_;refine jn (ι:=Value) [(3,_)] (λa2=>[(5,a2)]) (λa2 w'=>Fr [] w2 w'/\Lw.Own Enc.str 9 w2.heap.size w' a2 (y6c x q.p)) (.cons rfl .nil) ?_ ?_;refine sr (fad rfl z6n ?_);replace I:=J.ext q9;refine z0g rfl I rfl z5t (lnS rfl underlying37 (gt' rfl rfl (nn (cd rfl (λc2=>?_) (λc2=>?_)))));refine rg (mv rfl (fad rfl z6n (z0g rfl I rfl z5t ?_)));replace hG:=a4.ext (q1.n2 q2 q9);replace U:=b6.ext (q1.n2 q2 q9);refine cl (ev2 rfl rfl) (mkC func87) (y3p j5q _ q.ths _ hG U.1 e1 hl.1) rfl ?_;rintro h4 h8 ⟨b9,b1⟩;have j1:=b1.size;have e3:=z5y j5q q.ths;replace D:=D.ext b1;have a8:=D;refine z2e rfl rfl D b9.sl z3w (by unfold maxLen;first|(simp only[List.length_append,List.length_cons,List.length_nil];omega)|omega) (by first|(simp only[List.length_append,List.length_cons,List.length_nil];omega)|omega) (λh5 h9 D d1 e5=>?_);have j2:=d1.size;refine asg rfl (kpL [(3,_),(5,_)] (.c2 rfl rfl) (nl ?_));exact jE (_) (.c2 rfl rfl) ⟨((q9.n1 b1).step d1 (λk hk a6=>absurd (a8.blk k hk).1 (by omega))),by rw[u6c (show 0<q.ths.length by omega)];exact D⟩;refine sk ?_;exact jE (_) (.c2 rfl rfl) ⟨q9,by rw[u8g (show ¬0<q.ths.length by omega)];exact D⟩;rintro a2 i0 ⟨a0,D⟩;have j3:=a0.size;refine kpC [(3,_),(5,_)] (.c2 rfl rfl) ?_;refine jn (ι:=Value) [(3,_)] (λa3=>[(5,a3)]) (λa3 w'=>Fr [] w2 w'/\Lw.Own Enc.str 9 w2.heap.size w' a3 (y6g x q.p)) (.cons rfl .nil) ?_ ?_;refine sr (fad rfl z8g ?_);replace I:=J.ext a0;refine z0g rfl I rfl y3f (lnS rfl underlying54 (gt' rfl rfl (nn (cd rfl (λc3=>?_) (λc3=>?_)))));refine rg (mv rfl (z2h ([u8o]) (ev1 rfl) rfl rfl rfl z3w (λf7 i1 f4 c9 d3 j4=>?_)));replace D:=D.ext d3;have a9:=D;refine z2e rfl rfl D c9.sl z3w (by unfold maxLen;first|(simp only[List.length_append,List.length_cons,List.length_nil];omega)|omega) (by first|(simp only[List.length_append,List.length_cons,List.length_nil];omega)|omega) (λh6 i2 D d4 e6=>?_);have j5:=d4.size;refine asg rfl (nl ?_);exact jE (_) (.c2 rfl rfl) ⟨((a0.n1 d3).step d4 (λk hk a6=>absurd (a9.blk k hk).1 (by omega))),by rw[u5p (show 0<q.pas.length by omega)];exact D⟩;refine sk ?_;exact jE (_) (.c2 rfl rfl) ⟨a0,by rw[u5t (show ¬0<q.pas.length by omega)];exact D⟩;rintro a3 i3 ⟨b2,D⟩;have j6:=b2.size;refine kpC [(3,_),(5,_)] (.c2 rfl rfl) (sq (sr (fad rfl z8g ?_)));replace I:=J.ext b2;refine z0g rfl I rfl y3f (lnS rfl underlying54 (mv rfl (nn (bl ?_))));refine lpK (ι:=Nat×Value) [(38,_),(39,_)] (λp=>[(40,.int .i64 (p.1:Int)),(5,p.2)]) (λp w'=>Fr [] w2 w'/\p.1<=q.pas.length/\Lw.Own Enc.str 9 w2.heap.size w' p.2 (y6g x q.p++(q.pas.take p.1).map x0m)) (λp=>q.pas.length-p.1) (0,_) (.c4 rfl rfl rfl rfl) ⟨b2,⟨Nat.zero_le _,by rw[List.take_zero,List.map_nil,List.append_nil];exact D⟩⟩ ?_;rintro⟨i,vP⟩ i4 ⟨O,⟨e2,D⟩⟩;simp only at e2 D;have j7:=O.size;refine kpC [(38,_),(39,_),(40,.int .i64 (i:Int)),(5,vP)] (.c4 rfl rfl rfl rfl) ?_;have h2:(q.pas.take i).length<=i:=by rw[List.length_take];omega
 have g9:((q.pas.take i).map x0m).length=(q.pas.take i).length:=List.length_map ..;refine sr (lt' rfl rfl (nn (sq (cd rfl (λc4=>?_) (λc4=>?_)))));refine sk (tn (sq (bl (sr ?_))));replace U:=b6.ext (q1.n2 q2 O);refine z1a (pa0) rfl U.2 rfl z8x z1d (λe8 b7=>?_);refine z1i rfl (b7 _ U.2) z6k (al y6p rfl rfl (λg7 i5 g5 a5 b3 j8=>?_));refine z0j (vs:=[_,_,_,_]) rfl rfl a5 x0a (λi7 a5 b4 j9=>?_) (h1:=(by first|(simp[Value.oneCell',S];done)|exact z1r.one _));refine nn (rg (mv rfl (z0k rfl a5 z6k ?_)));replace hG:=a4.ext (q1.z4 q2 O b3 b4);refine cl (ev1 rfl) (mkC func131) (u6f (q.pas.getD i pa0) _ hG (e0 _ (z0u (by omega)))) rfl ?_;rintro _ i8 ⟨rfl,b5⟩;have k0:=b5.size;refine z2h ([x0m (q.pas.getD i pa0)]) (ev1 rfl) rfl rfl rfl z3w (λf8 i9 f5 d0 d5 k1=>?_);replace D:=((D.ext b3).fr b4 (by first|exact z9k D (by omega)|simp[z0x]<;>omega)).ext (b5.n1 d5);have b0:=D;refine z2e rfl rfl D d0.sl z3w (by unfold maxLen;first|(simp only[List.length_append,List.length_cons,List.length_nil];omega)|omega) (by first|(simp only[List.length_append,List.length_cons,List.length_nil];omega)|omega) (λh7 j0 D d6 e7=>?_);have k2:=d6.size;refine asg rfl (kpL [(5,_),(38,_),(39,_),(40,_)] (.c4 rfl rfl rfl rfl) (nl (bn' (tn (rg (z0v rfl rfl (wi6 (by omega)) (mv rfl (nl ?_))))))));exact lpE ((i+1,_)) (.c4 rfl rfl rfl rfl) ⟨((O.z4 b3 b4 b5 d5).step d6 (λk hk a6=>absurd (b0.blk k hk).1 (by omega))),⟨by simp only;omega,by rw[z6g pa0 (by omega),List.map_append,<-List.append_assoc];exact D⟩⟩ (by simp only;omega);obtain rfl:i=q.pas.length:=by omega
 rw[List.take_length]at D;refine ex (te (te (xh (tn (sr (mv rfl (asg rfl (kpL [(4,_)] (.cons rfl .nil) (nn (rt (r1 results84 rfl ?_)))))))))));exact⟨_,rfl,D.low (by omega),(q1.n2 q2 O)⟩
end Go.Proofs.YtpgdchkdlgkmgaaGreatDoor
namespace Go.Lw
open Go.RowKit
def Bld (T e b:Nat)(l:List UInt8)(w:World):Prop:=Lib.IsBuilder T e b b (Lib.byteCells l) w
theorem Bld.ext {T e b:Nat}{l:List UInt8}{w w':World}(h:Bld T e b l w)(hf:Fr [] w w'):Bld T e b l w':=j4f h hf
theorem Bld.lt {T e b:Nat}{l:List UInt8}{w:World}(h:Bld T e b l w):b<w.heap.size:=h.elim Lib.BuilderAt.lt Lib.BuilderAt.lt
theorem Bld.new {T e b:Nat}{w:World}(h:Blk w b T [.pointer none,.slice none 0 0]):Bld T e b [] w:=.inl ⟨Nat.le_refl _,.slice none 0 0,h,⟨rfl,.inl ⟨rfl,rfl⟩⟩,by simp[Value.ownBlock]⟩
theorem y5i {w w':World}{B:Nat}(h:Below B w w'):∃S:List Nat,(∀k∈S,B<=k)/\Fr S w w':=
 ⟨(List.range w.heap.size).filter (λk=>decide (B<=k)),λk I=>by simpa using (List.mem_filter.1 I).2,⟨h.os,h.tape,h.output,h.size,λk I J=>h.block k (by
  rcases Nat.lt_or_ge k B with D|D
  ·exact D
  exact absurd (List.mem_filter.2 ⟨List.mem_range.2 I,by simpa using D⟩) J)⟩⟩
end Go.Lw
namespace Go.Proofs.YtpgdchkdlgkmgaaGreatDoor
open Go.Lw Go.G21 Go.G08 _root_.Go.Proofs.Tryz
theorem x5a:z0z prog 152 0 0:=λ_ _=>by kernel_rfl
theorem y8y:z0z prog 152 1 1:=λ_ _=>by kernel_rfl
theorem j3k:z2c prog 149:=λ_=>by kernel_rfl
theorem j2h:z2c prog 150:=λ_=>by kernel_rfl
theorem j5z:z1p prog 149 1:=λ_=>by kernel_rfl
theorem j4m:z1p prog 150 1:=λ_=>by kernel_rfl
theorem j2c:∃j,prog.info? 152=some j/\j.size=2:=Option.map_eq_some_iff.1 (show (prog.info? 152).map (·.size)=some 2 by kernel_rfl)
theorem u4k:(prog.info? 5).map (λi=>(i.zero,i.size,i.bytes))=some (some (.int .u8 0),1,1):=by kernel_rfl
theorem j0q:liesAt prog prog.depth 152 (2 / prog.cellsOf 152) 0 152 1=true:=by kernel_rfl
theorem u0e (u:Value)(w:World):(callFunc 185 #[u]).run prog w=.ok (.value u) w:=by
 rw[run_callFunc_extern func185 (by kernel_rfl) (by kernel_rfl) (by kernel_rfl) (e:=Extern.AbiNoEscape.same) (by kernel_rfl),Lib.run_noEscape];rfl
theorem y2x (B b:Nat)(bs:List Value)(w0:World)(hI:Lib.IsBuilder 152 5 B b bs w0):Rets prog 129 #[.pointer (some ⟨b,0,none⟩)] w0 λv w'=>Lib.BuilderAt 152 5 B b (.pointer (some ⟨b,0,none⟩)) bs w'/\RowKit.Below B w0 w':=by
 obtain⟨po,a1,J⟩:∃po,(po=none\/po=some ⟨b,0,none⟩)/\Lib.BuilderAt 152 5 B b (.pointer po) bs w0:=hI.elim (λh=>⟨none,.inl rfl,h⟩) (λh=>⟨_,.inr rfl,h⟩);have U:=J.shape;obtain⟨j,hj,a2⟩:=j2c;obtain⟨hB,v,M,I,O⟩:=J;have D:Blk w0 b 152 [.pointer po,v]:=M;refine enter [(0,.pointer (some ⟨b,0,none⟩))] func129 rfl ntmps129 rfl (.cons rfl .nil) ?_;intro a h;refine wp_seq (wp_region_lit ?_);refine tW h (mv rfl (nlc rfl (fad rfl x5a (z0g rfl D rfl j3k (v7z rfl underlying149 rfl (kL [(0,_),(6,_)] (.c2 rfl rfl) ?_))))));clear h a;intro a h;refine wpList_nil (z4a (cS h rfl (λZ=>?_) (λZ=>?_)));obtain rfl:po=none:=by cases po with|none=>rfl|some x=>cases Z
 refine wp_region_lit ?_;refine tW h (mv rfl (mv rfl (x9p rfl underlying149 underlying283 hj (by omega) U Nat.zero_lt_two rfl (j5k rfl u0e rfl (x1n rfl underlying283 underlying149 hj U j0q rfl (nlc rfl (fad rfl x5a ?_)))))));clear h a;intro a h;refine z3d h rfl rfl D rfl rfl rfl j5z λw1 a0 hq hz a h=>?_;replace h:Ag a 20 []:=h.sub .nil;refine wpList_nil (u6h h results129  ?_);exact⟨_,rfl,v1n hB a0 I hq O,z4x hq (by simpa using hB) (Nat.le_trans hB (Nat.le_of_lt D.lt))⟩;obtain rfl:po=some ⟨b,0,none⟩:=a1.resolve_left (λe=>by rw[e]at Z;cases Z);refine wp_seq (wp_region_lit ?_);refine tW h (mv rfl (nlc rfl (fad rfl x5a (z0g rfl D rfl j3k (mv rfl (v1d rfl rfl underlying149 hj rfl (kL [(19,_)] (.cons rfl .nil) ?_)))))));clear h a;intro a h;refine wpList_nil (z4a (y7t h rfl (wp_skip (u6h h results129  ?_))));exact⟨_,rfl,⟨hB,v,M,I,O⟩,RowKit.Below.refl _ _⟩
theorem j4j (b:Nat)(l s:List UInt8)(w0:World)(Z:Bld 152 5 b l w0)(hM:l.length+s.length<=16777216):Rets prog 81 #[.pointer (some ⟨b,0,none⟩),S s] w0 λv w'=>Bld 152 5 b (l++s) w'/\∃S,(∀k∈S,b<=k)/\Fr S w0 w':=by
 have a0:=Z;replace Z:Lib.IsBuilder 152 5 b b (Lib.byteCells l) w0:=a0;refine enter [(0,.pointer (some ⟨b,0,none⟩)),(1,S s)] func81 rfl ntmps81 rfl (.c2 rfl rfl) ?_;intro a h;refine wp_seq (wp_region_lit ?_);refine tW h (asg rfl (asg rfl (kL [(0,_),(1,_)] (.c2 rfl rfl) ?_)));clear h a;intro a h;refine wpList_nil (z4a (wp_seq (wp_region_lit (x4g h rfl rfl λa h=>?_))));refine z0n h (z0a rfl z0f) (mkC func129) (y2x _ _ _ _ Z) ?_;rintro _ w1 ⟨U,a5⟩ a h;obtain⟨hB,v,a1,I,a4⟩:=U;have M:Blk w1 b 152 [.pointer (some ⟨b,0,none⟩),v]:=a1;have a6:=M.lt;rw[Lib.byteCells_length]at I;replace h:Ag a 19 [(0,_),(1,_)]:=h.sub (.c2 rfl rfl);refine wpList_nil (z4a (wp_seq (wp_region_lit ?_)));refine tW h (mv rfl (mv rfl (nlc rfl (fad rfl y8y (z0g rfl M rfl j2h (mv rfl ?_))))));clear h a;intro a h;refine x2q h rfl rfl underlying150 underlying9 u4k I (by unfold maxLen;omega) (by omega) (by omega) rfl λv2 w2 D a3 a h=>?_;have O:=x6y a3;have J:=M.fr O (by simpa using a4);have a7:=O.size;refine tW h (nlc rfl (fad rfl y8y ?_));clear h a;intro a h;refine z3d h rfl rfl J rfl (x0f D).1 (x0f D).2 j4m λw3 a2 hq hz a h=>?_;replace h:Ag a 19 [(1,_)]:=h.sub (.cons rfl .nil);refine wpList_nil (z4a (wp_seq (wp_region_lit ?_)));refine tW h (mv rfl (ln rfl underlying9 rfl (asg rfl (asg rfl (kL [(4,_),(5,_)] (.c2 rfl rfl) ?_)))));clear h a;intro a h;refine wpList_nil (z4a (wp_ret (ret2 h results81 rfl rfl ?_)));exact⟨_,rfl,.inr (v1n hB a2 (v2p D) hq (Lib.ownBlock_ne D J (by decide))),y5i (a5.trans ((z4x O (u3d I) (by omega)).trans (z4x hq (by simp) (by omega))))⟩
theorem j4p (b:Nat)(l:List UInt8)(c:UInt8)(w0:World)(hI:Bld 152 5 b l w0)(hM:l.length+1<=16777216):Rets prog 83 #[.pointer (some ⟨b,0,none⟩),.int .u8 (c.toNat:Int)] w0 λv w'=>Bld 152 5 b (l++[c]) w'/\∃S,(∀k∈S,b<=k)/\Fr S w0 w':=by
 have a0:=hI;replace hI:Lib.IsBuilder 152 5 b b (Lib.byteCells l) w0:=a0;refine enter [(0,.pointer (some ⟨b,0,none⟩)),(1,.int .u8 (c.toNat:Int))] func83 rfl ntmps83 rfl (.c2 rfl rfl) ?_;intro a h;refine wp_seq (wp_region_lit ?_);refine tW h (asg rfl (kL [(0,_),(1,_)] (.c2 rfl rfl) ?_));clear h a;intro a h;refine wpList_nil (z4a (wp_seq (wp_region_lit (x4g h rfl rfl λa h=>?_))));refine z0n h (z0a rfl z0f) (mkC func129) (y2x _ _ _ _ hI) ?_;rintro _ w1 ⟨Z,a6⟩ a h;obtain⟨hB,v,a1,I,a4⟩:=Z;have J:Blk w1 b 152 [.pointer (some ⟨b,0,none⟩),v]:=a1;have a7:=J.lt;rw[Lib.byteCells_length]at I;replace h:Ag a 17 [(0,_),(1,_)]:=h.sub (.c2 rfl rfl);refine wpList_nil (z4a (wp_seq (wp_region_lit ?_)));refine tW h (mv rfl (mv rfl (nlc rfl (fad rfl y8y (z0g rfl J rfl j2h (mv rfl ?_))))));clear h a;intro a h;refine z3c [c] h (z0a rfl z0f) rfl rfl rfl j1h ?_ (hsm:=(by decide));clear h a;intro gV w2 hg a5 M b0 a h;replace I:=u3g I M (by simp);replace J:=J.ext M;have a9:=M.size;refine x1c h rfl rfl underlying150 u4k I rfl (v8g a5) (by simp[Lib.strCells,Value.oneCell']) (by unfold maxLen;omega) (by omega) (by omega) rfl λv2 w3 D a3 a h=>?_;have U:=x6y a3;have O:=J.fr U (by simpa using a4);have a8:=U.size;refine tW h (nlc rfl (fad rfl y8y ?_));clear h a;intro a h;refine z3d h rfl rfl O rfl (x0f D).1 (x0f D).2 j4m λw4 a2 hq hz a h=>?_;replace h:Ag a 17 []:=h.sub .nil;refine wpList_nil (z4a (wp_seq (wp_region_lit (z0r h rfl λa h=>wpList_nil (z4a (wp_ret (ret1 h results83 rfl ?_)))))));exact⟨_,rfl,.inr (v1n hB a2 (v2p D) hq (Lib.ownBlock_ne D O (by decide))),y5i (a6.trans ((z4x M (by simp) (by omega)).trans ((z4x U (u3d I) (by omega)).trans (z4x hq (by simp) (by omega)))))⟩
theorem x6z (b:Nat)(l:List UInt8)(w0:World)(D:Bld 152 5 b l w0):Rets prog 88 #[.pointer (some ⟨b,0,none⟩)] w0 λv w'=>v=S l/\∃S,(∀k∈S,b<=k)/\Fr S w0 w':=by
 refine Calls.mono (Builder_String_any b b l w0 D (Nat.le_of_lt D.lt)) ?_;rintro e w' ⟨rfl,I⟩;exact⟨_,rfl,rfl,y5i I⟩
theorem y5q (v:Value)(ys:List (List UInt8))(O base T:Nat)(cur:List UInt8)(w0:World)(hO:Lw.Own Enc.str T base w0 v ys)(D:Bld 152 5 O cur w0)(a0:ys≠[])(hl:cur.length+(y2c ys).length<=1000000)(hy:ys.length<=1000000):Rets prog 80 #[v,.pointer (some ⟨O,0,none⟩)] w0 λr w'=>Bld 152 5 O (cur++y2c ys) w'/\∃S,(∀k∈S,O<=k)/\Fr S w0 w':=by
 have a1:(y2c ys).length=(Lib.join ys [32]).length+1:=by unfold y2c;rw[List.length_append];rfl
 refine we [(0,v),(1,.pointer (some ⟨O,0,none⟩))] func80 rfl ntmps80 rfl (.c2 rfl rfl) ?_;have I:=D;refine sr (mv rfl (cl (ev2 rfl rfl) (mkC func82) (x6o _ ys [32] base T _ hO a0 (by omega) hy) rfl ?_));rintro _ w1 ⟨rfl,q1⟩;replace D:=I.ext q1;refine cl (ev2 rfl rfl) (mkC func81) (j4j _ _ _ _ D (by omega)) rfl ?_;rintro _ w2 ⟨D,J,U,q2⟩;have I:=D;refine nn (rg ?_);refine cl (ev2 rfl rfl) (mkC func83) (j4p _ _ 10 _ D (by simp only[List.length_append];omega)) rfl ?_;rintro _ w3 ⟨D,M,Z,q3⟩;have I:=D;refine nl (r0n results80  ?_);exact⟨_,rfl,by unfold y2c;rw[<-List.append_assoc];exact D,J++M,(λk hk=>(List.mem_append.1 hk).elim (U k) (Z k)),(((Fr.refl (J++M) w0).n1 q1).step q2 (λk hk _=>List.mem_append_left _ hk)).step q3 (λk hk _=>List.mem_append_right _ hk)⟩
theorem j3m:CallOf prog 80:=mkC func80
theorem j7c (w:World):(zeroValue 152).run prog w=.ok (.agg #[(.pointer none),(.slice none 0 0)]) w:=by kernel_rfl
set_option maxHeartbeats 2000000 in
theorem v9n (q:FbQ)(w0:World)(Z:FbAt w0 q)(hG:Glob w0)(h6:q.ts.length=6)(hv:TabV (z2a q.ts))(hc:CrsV (z2a q.ts) q.cs)(hp:PlaceV (z2a q.ts) q.hs q.fs)(e6:(j0j (z2a q.ts) q.cs q.hs q.fs).length<=1000000):Rets prog 31 #[.agg #[.slice q.t.1 q.t.2.1 q.t.2.2,.slice q.c.1 q.c.2.1 q.c.2.2,.slice q.h.1 q.h.2.1 q.h.2.2,.slice q.f.1 q.f.2.1 q.f.2.2]] w0 λr w'=>r=S (j0j (z2a q.ts) q.cs q.hs q.fs)/\Fr [] w0 w':=by
 have j8:=Z.len;have j7:=z6i q.ts;obtain⟨TX,e2⟩:∃x,x=j0j (z2a q.ts) q.cs q.hs q.fs:=⟨_,rfl⟩;rw[<-e2]at e6 ⊢;have I:[]++(y9m 0 ((z2a q.ts).drop 0)++(y4j q.cs++(y5s q.hs++y4e q.fs)))=TX:=e2.symm;have g6:=Z.c.len_le;have g9:=Z.h.len_le;have g7:=Z.f.len_le;unfold maxLen at g6 g9 g7;have j3:=hG.sz;refine we [(0,.agg #[.slice q.t.1 q.t.2.1 q.t.2.2,.slice q.c.1 q.c.2.1 q.c.2.2,.slice q.h.1 q.h.2.1 q.h.2.2,.slice q.f.1 q.f.2.1 q.f.2.2])] func31 rfl ntmps31 rfl (.cons rfl .nil) ?_;have a3:=Z;have b1:=hG;refine sr (bx rfl rfl rfl (λg1 w1 j4 a7 q1 z1=>(asg rfl (nn (sq (sr (z0k rfl a7 x5i ?_)))))));replace Z:=a3.ext q1;refine cl (ev1 rfl) (mkC func45) (y9h q _ Z h6 hv hc hp) rfl ?_;rintro _ w2 ⟨rfl,q2⟩;have z2:=q2.size;refine ne' rfl rfl (nn (cd rfl (λc0=>?_) (λc0=>?_)));exact absurd rfl c0;refine sk (tn (sr (al j7c rfl rfl (λg3 w3 j5 h0 q3 z3=>?_))));replace a7:=a7.ext (q2.n1 q3);have c9:=a7;have U:=a7;have D:Bld 152 5 g3 [] w3:=Bld.new h0;have M:=D;refine nn (sr (z6b z0f (ev1 rfl) rfl (asg rfl (nn (sq (sr (fad rfl z8u (z0g rfl a7 rfl x3m (lnS rfl underlying35 (mv rfl (nn (bl ?_))))))))))));refine lpK (ι:=Nat×List UInt8) [(1,_),(3,_),(4,_),(16,_),(17,_)] (λp=>[(18,.int .i64 (p.1:Int))]) (λp w'=>Fr [g3] w3 w'/\p.1<=6/\Bld 152 5 g3 p.2 w'/\p.2++(y9m p.1 ((z2a q.ts).drop p.1)++(y4j q.cs++(y5s q.hs++y4e q.fs)))=TX) (λp=>6-p.1) (0,[]) (.c6 rfl rfl rfl rfl rfl rfl) ⟨(Fr.refl _ _),⟨Nat.zero_le _,D,I⟩⟩ ?_;rintro⟨y,cur⟩ w4 ⟨q4,⟨h7,D,I⟩⟩;simp only at h7 D I;have z4:=q4.size;have M:=D;refine kpC [(1,_),(3,_),(4,_),(16,_),(17,_),(18,.int .i64 (y:Int))] (.c6 rfl rfl rfl rfl rfl rfl) (sr (lt' rfl rfl (nn (sq (cd rfl (λc1=>?_) (λc1=>?_))))));rw[v0h (by omega),List.append_assoc]at I;have j9:=z5o a3.tt y;have g5:=(a3.tt _ (z0u (d:=tq0) (i:=y) (by omega))).1.len_le;unfold maxLen at g5;refine sk (tn (sq (bl (sr (mv rfl ?_)))));replace Z:=a3.ext (q1.z3 q2 q3 q4);refine z1a (tq0) rfl Z.t rfl y6e z1d (λh9 e3=>?_);refine z1g rfl (e3 _ Z.t) x2c (asg rfl (asg rfl (nn (sr (mv rfl (lnS rfl underlying46 (mv rfl (nn (bl ?_)))))))));refine lpK (ι:=Nat×List UInt8) [(1,_),(3,_),(4,_),(5,_),(16,_),(17,_),(18,_),(23,_),(24,_)] (λp=>[(25,.int .i64 (p.1:Int))]) (λp w'=>Fr [g3] w3 w'/\p.1<=(q.ts.getD y tq0).2.length/\Bld 152 5 g3 p.2 w'/\p.2++(x5p y p.1 (((z2a q.ts).getD y []).drop p.1)++(y9m (y+1) ((z2a q.ts).drop (y+1))++(y4j q.cs++(y5s q.hs++y4e q.fs))))=TX) (λp=>(q.ts.getD y tq0).2.length-p.1) (0,cur) (.d8 rfl rfl rfl rfl rfl rfl rfl rfl (.c2 rfl rfl)) ⟨((Fr.refl [g3] _).z1 q4),⟨Nat.zero_le _,D,(by rw[List.drop_zero];exact I)⟩⟩ ?_;rintro⟨n,cur⟩ w5 ⟨q5,⟨h5,D,I⟩⟩;simp only at h5 D I;have z5:=q5.size;have M:=D;refine kpC [(1,_),(3,_),(4,_),(5,_),(16,_),(17,_),(18,_),(23,_),(24,_),(25,.int .i64 (n:Int))] (.d8 rfl rfl rfl rfl rfl rfl rfl rfl (.c2 rfl rfl)) (sr (lt' rfl rfl (nn (sq (cd rfl (λc2=>?_) (λc2=>?_))))));have h3:z4e (z2a q.ts) (⟨(y:Int)+1,(n:Int)⟩:LId):=z7y (by omega) (by rw[z2s];omega);have b4:=(hv.ok.rts y (by omega) n (by rw[z2s];omega)).1;rw[z7b]at b4;have i2:((q.ts.getD y tq0).2.getD n lq0).ths.length<=4:=b4.2.1.1;have i3:((q.ts.getD y tq0).2.getD n lq0).pas.length<=4096:=b4.2.1.2;have i4:(x0s (⟨(y:Int)+1,(n:Int)⟩:LId) ((q.ts.getD y tq0).2.getD n lq0).p).length<=5+((q.ts.getD y tq0).2.getD n lq0).ths.length+((q.ts.getD y tq0).2.getD n lq0).pas.length:=v1o _ _;rw[x9j (by rw[x0n,List.length_map];omega),show ((z2a q.ts).getD y []).getD n lq0.p=((q.ts.getD y tq0).2.getD n lq0).p from z7b q.ts y n,List.append_assoc]at I;refine sk (tn (sq (bl (sr (mv rfl ?_)))));replace Z:=a3.ext (q1.z3 q2 q3 q5);refine z1a (lq0) rfl (Z.tt _ (z0u (d:=tq0) (i:=y) (by omega))).1 rfl x8g z1d (λi0 e4=>?_);refine z1i rfl (e4 _ (Z.tt _ (z0u (d:=tq0) (i:=y) (by omega))).1) x7p (al v7p rfl rfl (λg8 w6 j6 b9 q6 z6=>?_));refine asg rfl (z0j (vs:=[_,_,_,_]) rfl rfl b9 v8x (λw7 b9 q7 z7=>?_) (h1:=(by first|(simp[Value.oneCell',S];done)|exact z4i.one _|exact z4o.one _)));refine nn (rg (mv rfl (mv rfl (z0v rfl rfl (wi6 (by omega)) (z5m rfl (us underlying3) underlying5 (wi8 (by omega)) (mv rfl (z1v (cs:=[_,_]) (ev2 rfl rfl) j1p (z0h rfl rfl rfl (z0h rfl rfl rfl z0s)) rfl ?_)))))));refine z0k rfl b9 x7p ?_;replace hG:=b1.ext (q1.z5 q2 q3 q5 q6 q7);replace Z:=a3.ext (q1.z5 q2 q3 q5 q6 q7);refine cl (ev2 rfl rfl) (mkC func84) (u8v (⟨(y:Int)+1,(n:Int)⟩:LId) ((q.ts.getD y tq0).2.getD n lq0) _ hG (z7i Z.tt (y:=y) (n:=n) (by omega) (by omega)) (z6r hv.ok h3) (λx hx=>z6r hv.ok (b4.2.2.1 _ (List.mem_append_left _ hx))) (λx hx=>z6r hv.ok (b4.2.2.1 _ (List.mem_append_right _ (List.mem_map_of_mem hx)))) ⟨by omega,by omega⟩) rfl ?_;rintro k0 w8 ⟨e8,q8⟩;have z8:=q8.size;replace D:=M.ext (q6.z2 q7 q8);refine clv (us:=[]) (ws:=[.pointer (some ⟨g3,0,none⟩)]) rfl (ev1 rfl) j3m (y5q _ (x0s (⟨(y:Int)+1,(n:Int)⟩:LId) ((q.ts.getD y tq0).2.getD n lq0).p) g3 _ _ cur _ e8 D (v9x _ _) (by have a4:=congrArg List.length I;simp only[List.length_append]at a4;omega) (by omega)) rfl (by intro g e;cases e) ?_;rintro j0 w9 ⟨D,i9,e1,q9⟩;have z9:=q9.size;have M:=D;refine kpL [(1,_),(3,_),(4,_),(5,_),(16,_),(17,_),(18,_),(23,_),(24,_),(25,_)] (.d8 rfl rfl rfl rfl rfl rfl rfl rfl (.c2 rfl rfl)) (nl (bn' (tn (rg (z0v rfl rfl (wi6 (by omega)) (mv rfl (nl ?_)))))));exact lpE ((n+1,_)) (.d8 rfl rfl rfl rfl rfl rfl rfl rfl (.c2 rfl rfl)) ⟨(((Fr.refl [g3] _).z4 q5 q6 q7 q8).step q9 (λk hk a2=>by have:=e1 k hk;first|(exfalso;omega)|(simp;omega))),⟨by simp only;omega,D,(by simp only[List.append_assoc]at I ⊢;exact I)⟩⟩ (by simp only;omega);obtain rfl:n=(q.ts.getD y tq0).2.length:=by omega
 rw[List.drop_of_length_le (by rw[x0n,List.length_map];omega)]at I;replace I:cur++(y9m (y+1) ((z2a q.ts).drop (y+1))++(y4j q.cs++(y5s q.hs++y4e q.fs)))=TX:=I;refine ex (te (te (xh (bn' (tn (rg (z0v rfl rfl (wi6 (by omega)) (mv rfl (kpL [(1,_),(3,_),(4,_),(16,_),(17,_),(18,_)] (.c6 rfl rfl rfl rfl rfl rfl) (nl ?_))))))))));exact lpE ((y+1,cur)) (.c6 rfl rfl rfl rfl rfl rfl) ⟨((Fr.refl [g3] _).z1 q5),⟨by simp only;omega,D,I⟩⟩ (by simp only;omega);obtain rfl:y=6:=by omega
 rw[List.drop_of_length_le (by omega)]at I;replace I:cur++(y4j q.cs++(y5s q.hs++y4e q.fs))=TX:=I;refine ex (te (te (xh (tn (sq (sr (fad rfl y2v ?_)))))));replace c9:=c9.fr q4;refine z0g rfl c9 rfl u3f (lnS rfl underlying36 (mv rfl (nn (bl ?_))));refine lpK (ι:=Nat×List UInt8) [(1,_),(3,_),(4,_),(42,_),(43,_)] (λp=>[(44,.int .i64 (p.1:Int))]) (λp w'=>Fr [g3] w3 w'/\p.1<=q.cs.length/\Bld 152 5 g3 p.2 w'/\p.2++(y4j (q.cs.drop p.1)++(y5s q.hs++y4e q.fs))=TX) (λp=>q.cs.length-p.1) (0,cur) (.c6 rfl rfl rfl rfl rfl rfl) ⟨((Fr.refl [g3] _).z1 q4),⟨Nat.zero_le _,D,(by rw[List.drop_zero];exact I)⟩⟩ ?_;rintro⟨i,cur⟩ k2 ⟨J,⟨h4,D,I⟩⟩;simp only at h4 D I;have m0:=J.size;have M:=D;refine kpC [(1,_),(3,_),(4,_),(42,_),(43,_),(44,.int .i64 (i:Int))] (.c6 rfl rfl rfl rfl rfl rfl) (sr (lt' rfl rfl (nn (sq (cd rfl (λc3=>?_) (λc3=>?_))))));rw[x9n (by omega),List.append_assoc]at I;have d0:=hc.has i (by omega);refine sk (tn (sq (bl (sr ?_))));replace Z:=a3.ext (q1.z3 q2 q3 J);refine z1a (cx0) rfl Z.c rfl v1j z1d (λi1 e5=>?_);refine z1i rfl (e5 _ Z.c) x5o (al v2h rfl rfl (λg4 k3 i5 O d1 m1=>?_));refine z0j (vs:=[_,_,_,_,_]) rfl rfl O u6i (λk4 O d3 m2=>?_) (h1:=(by first|(simp[Value.oneCell',S];done)|exact z4i.one _|exact z4o.one _));refine nn ?_;replace hG:=b1.ext (q1.z5 q2 q3 J d1 d3);replace D:=M.ext (d1.z1 d3);intro a h;refine z0i (some 11) (λwb w'=>Fr [] wb w') z2o ?_;intro f8 b5;have m3:=b5.size;replace hG:=hG.ext b5;replace D:=D.ext b5;replace O:=O.ext b5;have hC:Fr [] f8 f8:=Fr.refl _ _;have d9:=hG;have d7:=D;have a0:=O;refine z0e 0 h rfl rfl λa h=>z0c 1 h rfl y2g rfl λa h=>z1e (vs:=[_,_]) 2 h rfl (λ_ hw=>(a0.ext hw)) z3o rfl rfl λa h=>z0c 4 h rfl y2h rfl λa h=>z1e (vs:=[_,_]) 5 h rfl (λ_ hw=>(a0.ext hw)) z3o rfl rfl λa h=>z0c 7 h rfl y5a rfl λa h=>z0l 8 h rfl (λ_ hw=>a0.ext hw) rfl na3 rfl λa h=>z0d 3 rfl ?_;refine z0n h (z0a rfl z0f) j4x (y4l (q.cs.getD i cx0).a _ hG (z6r hv.ok d0.1)) ?_;rintro _ k5 ⟨rfl,a8⟩ a h;have m4:=a8.size;replace hG:=hG.ext a8;replace hC:=hC.next a8;refine z0b ?_;refine z0d 6 rfl ?_;refine z0n h (z0a rfl z0f) j4x (y4l (q.cs.getD i cx0).b _ hG (z6r hv.ok d0.2.1)) ?_;rintro _ k6 ⟨rfl,a9⟩ a h;have m5:=a9.size;replace hG:=hG.ext a9;replace hC:=hC.next a9;refine z0b ?_;refine z0d 9 rfl ?_;refine z0n h (z0a rfl z0f) u6a (x5b (q.cs.getD i cx0).n _ hG (by have:=d0.2.2.2.1;omega)) ?_;rintro _ k7 ⟨rfl,b6⟩ a h;have m6:=b6.size;replace O:=O.ext (a8.n2 a9 b6);replace hC:=hC.next b6;refine z0b ?_;refine z0d 10 rfl ?_;refine z3c ([x8b,z6w (q.cs.getD i cx0).a,z6w (q.cs.getD i cx0).b,v2z (q.cs.getD i cx0).n]) h (z0a rfl (z0a rfl (z0a rfl (z0a rfl z0f)))) rfl rfl rfl z3w λd6 k8 hg e9 b7 hz a h=>?_;have e7:g4<d6:=by have:=O.lt;omega
 have m7:=b7.size;replace D:=D.ext (a8.n3 a9 b6 b7);replace hC:=hC.next b7;refine z0b ?_;refine z0d 11 rfl ?_;refine z9q (us:=[]) (ws:=[.pointer (some ⟨g3,0,none⟩)]) h rfl (z0a rfl z0f) j3m (y5q _ ([x8b,z6w (q.cs.getD i cx0).a,z6w (q.cs.getD i cx0).b,v2z (q.cs.getD i cx0).n]) g3 _ _ cur _ e9 D (by simp) (by have a4:=congrArg List.length I;simp only[List.length_append]at a4;omega) (by simp)) rfl (by intro g e;cases e) ?_;rintro j1 k9 ⟨D,i7,e0,f1⟩ a h;have m8:=f1.size;refine z1n ?_;refine z0q ?_;clear hC d9 d7 a0;have M:=D;refine bk (h.sub (L':=[(1,_),(3,_),(4,_),(42,_),(43,_),(44,_)]) (.c6 rfl rfl rfl rfl rfl rfl)) (bn' (tn (rg (z0v rfl rfl (wi6 (by omega)) (mv rfl (nl ?_))))));exact lpE ((i+1,_)) (.c6 rfl rfl rfl rfl rfl rfl) ⟨(((((Fr.refl [g3] _).z6 J d1 d3 b5 a8 a9).n1 b6).n1 b7).step f1 (λk hk a2=>by have:=e0 k hk;first|(exfalso;omega)|(simp;omega))),⟨by simp only;omega,D,(by simp only[List.append_assoc]at I ⊢;exact I)⟩⟩ (by simp only;omega);obtain rfl:i=q.cs.length:=by omega
 rw[List.drop_of_length_le (by omega)]at I;replace I:cur++(y5s q.hs++y4e q.fs)=TX:=I;refine ex (te (te (xh (tn (sq (sr (fad rfl y5b ?_)))))));replace U:=U.fr J;refine z0g rfl U rfl z5t (lnS rfl underlying37 (gt' rfl rfl (kpL [(1,_),(3,_),(4,_),(64,_)] (.c4 rfl rfl rfl rfl) (nn (cd rfl (λc4=>?_) (λc4=>?_))))));have h2:q.hs.length<=100000:=y4t hv.ok (λx hx=>hp.has x (List.mem_append_left _ hx)) (λx=>by have:=hp.le x;simp only[List.count_append]at this;omega);rw[u9f (by omega)]at I;refine rg (mv rfl (fad rfl y5b (z0g rfl U rfl z5t ?_)));replace hG:=b1.ext (q1.z3 q2 q3 J);replace Z:=a3.ext (q1.z3 q2 q3 J);refine cl (ev2 rfl rfl) (mkC func87) (y3p v7u _ q.hs _ hG Z.h (λx hx=>z6r hv.ok (hp.has x (List.mem_append_left _ hx))) h2) rfl ?_;rintro k1 l0 ⟨f0,a6⟩;have m9:=a6.size;replace U:=U.ext a6;replace D:=M.ext a6;refine clv (us:=[]) (ws:=[.pointer (some ⟨g3,0,none⟩)]) rfl (ev1 rfl) j3m (y5q _ (z4n v7u q.hs) g3 _ _ cur _ f0 D (by simp[z4n]) (by have a4:=congrArg List.length I;simp only[List.length_append]at a4;omega) (by rw[z5y];omega)) rfl (by intro g e;cases e) ?_;rintro j2 l1 ⟨D,i8,a5,b0⟩;replace U:=U.fr b0 (λhh=>absurd (a5 _ hh) (by omega));have n7:=b0.size;have M:=D;refine kpL [(1,_),(3,_),(4,_)] (.c3 rfl rfl rfl) (nl (tn (sq (sr (fad rfl z8v (z0g rfl U rfl z5t (lnS rfl underlying37 (gt' rfl rfl (nn (cd rfl (λc5=>?_) (λc5=>?_)))))))))));have hfl:q.fs.length<=100000:=y4t hv.ok (λx hx=>hp.has x (List.mem_append_right _ hx)) (λx=>by have:=hp.le x;simp only[List.count_append]at this;omega);rw[v0v (by omega)]at I;refine rg (mv rfl (fad rfl z8v (z0g rfl U rfl z5t ?_)));replace hG:=b1.ext ((q1.z4 q2 q3 J a6).step b0 (λk hk a2=>by have:=a5 k hk;first|(exfalso;omega)|(simp;omega)));replace Z:=a3.ext ((q1.z4 q2 q3 J a6).step b0 (λk hk a2=>by have:=a5 k hk;first|(exfalso;omega)|(simp;omega)));refine cl (ev2 rfl rfl) (mkC func87) (y3p y1i _ q.fs _ hG Z.f (λx hx=>z6r hv.ok (hp.has x (List.mem_append_right _ hx))) hfl) rfl ?_;rintro h8 l2 ⟨b3,d4⟩;have n8:=d4.size;replace D:=M.ext d4;refine clv (us:=[]) (ws:=[.pointer (some ⟨g3,0,none⟩)]) rfl (ev1 rfl) j3m (y5q _ (z4n y1i q.fs) g3 _ _ _ _ b3 D (by simp[z4n]) (by have a4:=congrArg List.length I;simp only[List.length_append]at a4 ⊢;omega) (by rw[z5y];omega)) rfl (by intro g e;cases e) ?_;rintro g0 l3 ⟨D,f9,b2,f2⟩;have n9:=f2.size;have M:=D;refine kpL [(3,_)] (.cons rfl .nil) (nl (tn (sr (cl (ev1 rfl) (mkC func88) (x6z _ _ _ D) rfl ?_))));rintro _ l4 ⟨rfl,b8,a1,f3⟩;have o0:=f3.size;refine asg rfl (nn (rt (r1 results31 rfl ?_)));exact⟨_,rfl,by rw[<-I]<;>simp only[List.append_assoc,List.append_nil],(((((q1.z4 q2 q3 J a6).step b0 (λk hk a2=>by have:=a5 k hk;first|(exfalso;omega)|(simp;omega))).n1 d4).step f2 (λk hk a2=>by have:=b2 k hk;first|(exfalso;omega)|(simp;omega))).step f3 (λk hk a2=>by have:=a1 k hk;first|(exfalso;omega)|(simp;omega)))⟩;rw[v4j (by omega)]at I;refine sk (tn (sr (cl (ev1 rfl) (mkC func88) (x6z _ _ _ D) rfl ?_)));rintro _ l5 ⟨rfl,b8,a1,f4⟩;have o1:=f4.size;refine asg rfl (nn (rt (r1 results31 rfl ?_)));exact⟨_,rfl,by rw[<-I]<;>simp only[List.append_assoc,List.append_nil],(((q1.z4 q2 q3 J a6).step b0 (λk hk a2=>by have:=a5 k hk;first|(exfalso;omega)|(simp;omega))).step f4 (λk hk a2=>by have:=a1 k hk;first|(exfalso;omega)|(simp;omega)))⟩;rw[u5e (by omega),List.nil_append]at I;refine sk (tn (sq (sr (fad rfl z8v (z0g rfl U rfl z5t (lnS rfl underlying37 (gt' rfl rfl (nn (cd rfl (λc5=>?_) (λc5=>?_))))))))));have hfl:q.fs.length<=100000:=y4t hv.ok (λx hx=>hp.has x (List.mem_append_right _ hx)) (λx=>by have:=hp.le x;simp only[List.count_append]at this;omega);rw[v0v (by omega)]at I;refine rg (mv rfl (fad rfl z8v (z0g rfl U rfl z5t ?_)));replace hG:=b1.ext (q1.z3 q2 q3 J);replace Z:=a3.ext (q1.z3 q2 q3 J);refine cl (ev2 rfl rfl) (mkC func87) (y3p y1i _ q.fs _ hG Z.f (λx hx=>z6r hv.ok (hp.has x (List.mem_append_right _ hx))) hfl) rfl ?_;rintro h8 l6 ⟨b3,d5⟩;have o2:=d5.size;replace D:=M.ext d5;refine clv (us:=[]) (ws:=[.pointer (some ⟨g3,0,none⟩)]) rfl (ev1 rfl) j3m (y5q _ (z4n y1i q.fs) g3 _ _ _ _ b3 D (by simp[z4n]) (by have a4:=congrArg List.length I;simp only[List.length_append]at a4 ⊢;omega) (by rw[z5y];omega)) rfl (by intro g e;cases e) ?_;rintro g0 l7 ⟨D,f9,b2,f5⟩;have o3:=f5.size;have M:=D;refine kpL [(3,_)] (.cons rfl .nil) (nl (tn (sr (cl (ev1 rfl) (mkC func88) (x6z _ _ _ D) rfl ?_))));rintro _ l8 ⟨rfl,b8,a1,f6⟩;have o4:=f6.size;refine asg rfl (nn (rt (r1 results31 rfl ?_)));exact⟨_,rfl,by rw[<-I]<;>simp only[List.append_assoc,List.append_nil],(((q1.z4 q2 q3 J d5).step f5 (λk hk a2=>by have:=b2 k hk;first|(exfalso;omega)|(simp;omega))).step f6 (λk hk a2=>by have:=a1 k hk;first|(exfalso;omega)|(simp;omega)))⟩;rw[v4j (by omega)]at I;refine sk (tn (sr (cl (ev1 rfl) (mkC func88) (x6z _ _ _ D) rfl ?_)));rintro _ l9 ⟨rfl,b8,a1,f7⟩;have o5:=f7.size;refine asg rfl (nn (rt (r1 results31 rfl ?_)));exact⟨_,rfl,by rw[<-I]<;>simp only[List.append_assoc,List.append_nil],((q1.z3 q2 q3 J).step f7 (λk hk a2=>by have:=a1 k hk;first|(exfalso;omega)|(simp;omega)))⟩
end Go.Proofs.YtpgdchkdlgkmgaaGreatDoor
namespace Go.G08
open Go.Lw Go.G21
def errN:Except (Int×Nat) MSt->Int×Nat
  | .error e=>e
  | .ok _=>(0,0)
theorem y2m {l:List Cx}(h:l.length<=1):z9z l=l:=by
 match l,h with
 | [],_=>exact List.perm_nil.1 (z2q [])
 | [c],_=>exact List.perm_singleton.1 (z2q [c])
theorem y6x {l:List LId}(h:l.length<=1):z9s l=l:=by
 match l,h with
 | [],_=>exact List.perm_nil.1 (z2v [])
 | [c],_=>exact List.perm_singleton.1 (z2v [c])
def okM:Except (Int×Nat) MSt->MSt
  | .ok p=>p
  | .error _=>start
def isOk:Except (Int×Nat) MSt->Bool
  | .ok _=>true
  | .error _=>false
theorem v5u {x:Except (Int×Nat) MSt}(h:isOk x=true):x=.ok (okM x):=by
 cases x with
 | ok p=>rfl
 | error e=>cases h
theorem u6m {x:Except (Int×Nat) MSt}(h:isOk x=false):x=.error (errN x):=by
 cases x with
 | ok p=>cases h
 | error e=>rfl
def j3c:List MOp:=[⟨1,0,0,0,1,0⟩,⟨4,1,0,1,1,0⟩,⟨4,1,0,2,1,0⟩,⟨4,0,0,2,1,0⟩,⟨4,0,0,1,1,0⟩]
theorem prgA:y8l [105,110,32,49,32,108,101,102,116,10,107,110,105,116,32,114,105,103,104,116,32,102,49,32,49,10,107,110,105,116,32,114,105,103,104,116,32,102,50,32,49,10,107,110,105,116,32,108,101,102,116,32,102,50,32,49,10,107,110,105,116,32,108,101,102,116,32,102,49,32,49]=(j3c,0,0):=by decide +kernel
def j5b:List MOp:=[⟨1,0,0,0,1,0⟩,⟨4,1,0,1,1,0⟩,⟨7,0,0,1,0,0⟩,⟨3,0,0,0,0,1⟩,⟨7,0,1,1,0,0⟩,⟨3,0,0,0,0,0⟩]
theorem prgB:y8l [105,110,32,49,32,108,101,102,116,10,107,110,105,116,32,114,105,103,104,116,32,102,49,32,49,10,120,102,101,114,32,102,49,10,114,97,99,107,32,49,10,120,102,101,114,32,98,49,10,114,97,99,107,32,48]=(j5b,0,0):=by decide +kernel
def j3g:List MOp:=[⟨1,0,0,0,1,0⟩,⟨4,1,0,1,1,0⟩,⟨4,1,0,2,1,0⟩,⟨6,1,0,40,1,0⟩,⟨7,0,0,1,0,0⟩,⟨3,0,0,0,0,1⟩,⟨3,0,0,0,0,2⟩,⟨7,0,1,1,0,0⟩]
theorem prgC:y8l [105,110,32,49,32,108,101,102,116,10,107,110,105,116,32,114,105,103,104,116,32,102,49,32,49,10,107,110,105,116,32,114,105,103,104,116,32,102,50,32,49,10,109,105,115,115,32,114,105,103,104,116,32,102,52,48,32,49,10,120,102,101,114,32,102,49,10,114,97,99,107,32,49,10,114,97,99,107,32,50,10,120,102,101,114,32,98,49]=(j3g,0,0):=by decide +kernel
def j5o:List MOp:=[⟨4,1,0,1,1,0⟩]
theorem prgD:y8l [107,110,105,116,32,114,105,103,104,116,32,102,49,32,49]=(j5o,0,0):=by decide +kernel
def j5p:List MOp:=[⟨7,0,0,1,0,0⟩]
theorem prgE:y8l [120,102,101,114,32,102,49]=(j5p,0,0):=by decide +kernel
def j5n:List MOp:=[⟨1,0,0,0,1,0⟩,⟨3,0,0,0,0,0⟩,⟨1,1,0,0,1,0⟩]
theorem prgF:y8l [105,110,32,49,32,108,101,102,116,10,114,97,99,107,32,48,10,105,110,32,49,32,114,105,103,104,116]=(j5n,0,0):=by decide +kernel
def msA:MSt:=okM (z4c 0 start j3c)
theorem rnA:z4c 0 start j3c=.ok msA:=v5u (by decide +kernel)
def msB:MSt:=okM (z4c 0 start j5b)
theorem rnB:z4c 0 start j5b=.ok msB:=v5u (by decide +kernel)
def msC:MSt:=okM (z4c 0 start j3g)
theorem rnC:z4c 0 start j3g=.ok msC:=v5u (by decide +kernel)
theorem rnD:z4c 0 start j5o=.error (12,0):=(u6m (by decide +kernel)).trans (congrArg Except.error (by decide +kernel))
theorem rnE:z4c 0 start j5p=.error (13,0):=(u6m (by decide +kernel)).trans (congrArg Except.error (by decide +kernel))
theorem rnF:z4c 0 start j5n=.error (12,2):=(u6m (by decide +kernel)).trans (congrArg Except.error (by decide +kernel))
theorem txA:j0j msA.tb (z9z msA.cr) ((z2w msA.B msA.rk).map Hd.id) (z9s msA.fa)=[49,46,48,32,102,114,111,110,116,32,110,101,119,10,49,46,49,32,102,114,111,110,116,10,49,46,50,32,102,114,111,110,116,32,116,104,114,111,117,103,104,32,49,46,49,10,49,46,51,32,102,114,111,110,116,32,116,104,114,111,117,103,104,32,49,46,48,10,104,101,108,100,32,49,46,51,32,49,46,50,10]:=by
 rw[y2m (by decide +kernel),y6x (by decide +kernel)];decide +kernel
theorem txC:j0j msC.tb (z9z msC.cr) ((z2w msC.B msC.rk).map Hd.id) (z9s msC.fa)=[49,46,48,32,102,114,111,110,116,32,110,101,119,10,49,46,49,32,102,114,111,110,116,10,99,114,111,115,115,32,49,46,48,32,49,46,49,32,45,49,10,104,101,108,100,32,49,46,49,32,49,46,48,10]:=by
 rw[y2m (by decide +kernel),y6x (by decide +kernel)];decide +kernel
theorem at2:(msB.B.atC 0 2).length=1:=by decide +kernel
theorem cr2:msB.cr=[]:=by decide +kernel
theorem pe2:(msB.ys.getD 0 yn0).pe=[⟨⟨1,0⟩,true,0⟩]:=by decide +kernel
theorem st2 {s:StQ}(h:s.p=stM msB):(s.ys.length=6/\s.fb.cs=[])/\(s.ys.getD 0 yq0).pes=[⟨⟨1,0⟩,true,0⟩]/\s.q.p=msB.B:=by
 have D:s.ys.map YQ.p=msB.ys:=congrArg St.ys h;have J:s.fb.cs=z9z msB.cr:=congrArg (λz=>z.fb.c) h;have M:s.q.p=msB.B:=congrArg St.B h;have I:=y2d z8l rnB;refine⟨⟨?_,?_⟩,?_,M⟩;have:=congrArg List.length D;rw[List.length_map,I.inv.ly]at this;exact this;rw[J,cr2];exact y2m (by simp);have e:=congrArg (λz=>(z.getD 0 yn0).pe) D;rw[show (s.ys.map YQ.p).getD 0 yn0=(s.ys.getD 0 yq0).p from x2b YQ.p s.ys 0 yq0 yn0 (by have:=congrArg List.length D;rw[List.length_map,I.inv.ly]at this;omega)]at e;rw[pe2]at e;exact e
end Go.G08
namespace Go.Proofs.YtpgdchkdlgkmgaaGreatDoor
open Go.Lw Go.G21 Go.G08 _root_.Go.Proofs.Tryz
def j0i (l:List MOp):Nat:=match z4c 0 G08.start l with
  | .error (_,n)=>n
  | .ok _=>l.length
theorem v3m (I D:Nat)(v:Value)(l:List MOp)(w0:World)(hS:StAt w0 (st0 I D))(hv:Sl z5r w0 v l)(J:StT w0)(M:l.length<=4096):Rets prog 9 #[.agg #[.int .i64 (st0 I D).rk,.slice (st0 I D).q.f.1 (st0 I D).q.f.2.1 (st0 I D).q.f.2.2,.slice (st0 I D).q.b.1 (st0 I D).q.b.2.1 (st0 I D).q.b.2.2,.slice (st0 I D).yv.1 (st0 I D).yv.2.1 (st0 I D).yv.2.2,.slice (st0 I D).fb.t.1 (st0 I D).fb.t.2.1 (st0 I D).fb.t.2.2,.slice (st0 I D).fb.c.1 (st0 I D).fb.c.2.1 (st0 I D).fb.c.2.2,.slice (st0 I D).fb.h.1 (st0 I D).fb.h.2.1 (st0 I D).fb.h.2.2,.slice (st0 I D).fb.f.1 (st0 I D).fb.f.2.1 (st0 I D).fb.f.2.2],v] w0 λr w'=>(∃s':StQ,r=.tuple #[.agg #[.int .i64 s'.rk,.slice s'.q.f.1 s'.q.f.2.1 s'.q.f.2.2,.slice s'.q.b.1 s'.q.b.2.1 s'.q.b.2.2,.slice s'.yv.1 s'.yv.2.1 s'.yv.2.2,.slice s'.fb.t.1 s'.fb.t.2.1 s'.fb.t.2.2,.slice s'.fb.c.1 s'.fb.c.2.1 s'.fb.c.2.2,.slice s'.fb.h.1 s'.fb.h.2.1 s'.fb.h.2.2,.slice s'.fb.f.1 s'.fb.f.2.1 s'.fb.f.2.2],.int .i64 (j0i l:Int),.int .i64 (v9r l)]/\StO τd 109 w0.heap.size w' s'/\∀p,z4c 0 G08.start l=.ok p->s'.p=stM p)/\Fr [] w0 w':=
 Rets.mono (v5d I D v l w0 hS hv J M) (by
  rintro r w' ⟨h,hf⟩
  refine⟨?_,hf⟩
  unfold v9r j0i
  cases e:z4c 0 G08.start l with
  | error x=>
   obtain⟨e1,n⟩:=x
   rw[e]at h
   exact⟨stZ,h,u1v _ _,λp hp=>by cases hp⟩
  | ok p=>
   rw[e]at h
   obtain⟨s',O,U,Z⟩:=h
   exact⟨s',O,U,λq hq=>by cases hq;exact Z⟩)
theorem v4o {l:List MOp}{p:MSt}(h:z4c 0 G08.start l=.ok p):v9r l=0/\j0i l=l.length:=by
 unfold v9r j0i;rw[h];exact⟨rfl,rfl⟩
theorem v3q {l:List MOp}{e:Int}{n:Nat}(h:z4c 0 G08.start l=.error (e,n)):v9r l=e/\j0i l=n:=by
 unfold v9r j0i;rw[h];exact⟨rfl,rfl⟩
theorem j4q {p:MSt}{n:Nat}(I D:Nat)(v:Value)(l:List MOp)(w0:World)(Z:StAt w0 (st0 I D))(hv:Sl z5r w0 v l)(J:StT w0)(M:l.length<=4096)(h:z4c 0 G08.start l=.ok p)(hn:l.length=n):Rets prog 9 #[.agg #[.int .i64 (st0 I D).rk,.slice (st0 I D).q.f.1 (st0 I D).q.f.2.1 (st0 I D).q.f.2.2,.slice (st0 I D).q.b.1 (st0 I D).q.b.2.1 (st0 I D).q.b.2.2,.slice (st0 I D).yv.1 (st0 I D).yv.2.1 (st0 I D).yv.2.2,.slice (st0 I D).fb.t.1 (st0 I D).fb.t.2.1 (st0 I D).fb.t.2.2,.slice (st0 I D).fb.c.1 (st0 I D).fb.c.2.1 (st0 I D).fb.c.2.2,.slice (st0 I D).fb.h.1 (st0 I D).fb.h.2.1 (st0 I D).fb.h.2.2,.slice (st0 I D).fb.f.1 (st0 I D).fb.f.2.1 (st0 I D).fb.f.2.2],v] w0 λr w'=>(∃s':StQ,r=.tuple #[.agg #[.int .i64 s'.rk,.slice s'.q.f.1 s'.q.f.2.1 s'.q.f.2.2,.slice s'.q.b.1 s'.q.b.2.1 s'.q.b.2.2,.slice s'.yv.1 s'.yv.2.1 s'.yv.2.2,.slice s'.fb.t.1 s'.fb.t.2.1 s'.fb.t.2.2,.slice s'.fb.c.1 s'.fb.c.2.1 s'.fb.c.2.2,.slice s'.fb.h.1 s'.fb.h.2.1 s'.fb.h.2.2,.slice s'.fb.f.1 s'.fb.f.2.1 s'.fb.f.2.2],.int .i64 (n:Int),.int .i64 0]/\StO τd 109 w0.heap.size w' s'/\s'.p=stM p)/\Fr [] w0 w':=
 Rets.mono (v3m I D v l w0 Z hv J M) (by
  rintro r w' ⟨⟨s',rfl,O,U⟩,hf⟩
  rw[(v4o h).1,(v4o h).2,hn]
  exact⟨⟨s',rfl,O,U p h⟩,hf⟩)
theorem j1n {e:Int}{n:Nat}(I D:Nat)(v:Value)(l:List MOp)(w0:World)(U:StAt w0 (st0 I D))(Z:Sl z5r w0 v l)(J:StT w0)(M:l.length<=4096)(h:z4c 0 G08.start l=.error (e,n)):Rets prog 9 #[.agg #[.int .i64 (st0 I D).rk,.slice (st0 I D).q.f.1 (st0 I D).q.f.2.1 (st0 I D).q.f.2.2,.slice (st0 I D).q.b.1 (st0 I D).q.b.2.1 (st0 I D).q.b.2.2,.slice (st0 I D).yv.1 (st0 I D).yv.2.1 (st0 I D).yv.2.2,.slice (st0 I D).fb.t.1 (st0 I D).fb.t.2.1 (st0 I D).fb.t.2.2,.slice (st0 I D).fb.c.1 (st0 I D).fb.c.2.1 (st0 I D).fb.c.2.2,.slice (st0 I D).fb.h.1 (st0 I D).fb.h.2.1 (st0 I D).fb.h.2.2,.slice (st0 I D).fb.f.1 (st0 I D).fb.f.2.1 (st0 I D).fb.f.2.2],v] w0 λr w'=>(∃s':StQ,r=.tuple #[.agg #[.int .i64 s'.rk,.slice s'.q.f.1 s'.q.f.2.1 s'.q.f.2.2,.slice s'.q.b.1 s'.q.b.2.1 s'.q.b.2.2,.slice s'.yv.1 s'.yv.2.1 s'.yv.2.2,.slice s'.fb.t.1 s'.fb.t.2.1 s'.fb.t.2.2,.slice s'.fb.c.1 s'.fb.c.2.1 s'.fb.c.2.2,.slice s'.fb.h.1 s'.fb.h.2.1 s'.fb.h.2.2,.slice s'.fb.f.1 s'.fb.f.2.1 s'.fb.f.2.2],.int .i64 (n:Int),.int .i64 e]/\StO τd 109 w0.heap.size w' s')/\Fr [] w0 w':=
 Rets.mono (v3m I D v l w0 U Z J M) (by
  rintro r w' ⟨⟨s',rfl,O,h2⟩,hf⟩
  rw[(v3q h).1,(v3q h).2]
  exact⟨⟨s',rfl,O⟩,hf⟩)
theorem v1c {p:MSt}(v:Value)(l:List MOp)(w0:World)(O:Sl z5r w0 v l)(D:StT w0)(I:l.length<=4096)(h:z4c 0 G08.start l=.ok p):Rets prog 14 #[v] w0 λr w'=>(∃s':StQ,r=.tuple #[.agg #[.slice s'.fb.t.1 s'.fb.t.2.1 s'.fb.t.2.2,.slice s'.fb.c.1 s'.fb.c.2.1 s'.fb.c.2.2,.slice s'.fb.h.1 s'.fb.h.2.1 s'.fb.h.2.2,.slice s'.fb.f.1 s'.fb.f.2.1 s'.fb.f.2.2],.int .i64 0]/\StO τd 109 w0.heap.size w' s'/\s'.p=stM p)/\Fr [] w0 w':=
 Rets.mono (x8x v l w0 O D I) (by
  rintro r w' ⟨⟨s',rfl,J,M⟩,hf⟩
  rw[(v4o h).1]
  exact⟨⟨s',rfl,J,M p h⟩,hf⟩)
theorem v3x {e:Int}{n:Nat}(v:Value)(l:List MOp)(w0:World)(M:Sl z5r w0 v l)(D:StT w0)(I:l.length<=4096)(h:z4c 0 G08.start l=.error (e,n)):Rets prog 14 #[v] w0 λr w'=>(∃s':StQ,r=.tuple #[.agg #[.slice s'.fb.t.1 s'.fb.t.2.1 s'.fb.t.2.2,.slice s'.fb.c.1 s'.fb.c.2.1 s'.fb.c.2.2,.slice s'.fb.h.1 s'.fb.h.2.1 s'.fb.h.2.2,.slice s'.fb.f.1 s'.fb.f.2.1 s'.fb.f.2.2],.int .i64 e]/\StO τd 109 w0.heap.size w' s')/\Fr [] w0 w':=
 Rets.mono (x8x v l w0 M D I) (by
  rintro r w' ⟨⟨s',rfl,J,O⟩,hf⟩
  rw[(v3q h).1]
  exact⟨⟨s',rfl,J⟩,hf⟩)
theorem v2i (q:FbQ)(p:MSt)(B:List UInt8)(w0:World)(hF:FbAt w0 q)(hG:Glob w0)(J:MVal p)(I:q.p=(stM p).fb)(Z:j0j p.tb (z9z p.cr) ((z2w p.B p.rk).map Hd.id) (z9s p.fa)=B)(hl:B.length<=1000000):Rets prog 31 #[.agg #[.slice q.t.1 q.t.2.1 q.t.2.2,.slice q.c.1 q.c.2.1 q.c.2.2,.slice q.h.1 q.h.2.1 q.h.2.2,.slice q.f.1 q.f.2.1 q.f.2.2]] w0 λr w'=>r=S B/\Fr [] w0 w':=by
 have D:z2a q.ts=p.tb:=congrArg Fb.t I;have M:q.cs=z9z p.cr:=congrArg Fb.c I;have O:q.hs=(z2w p.B p.rk).map Hd.id:=congrArg Fb.h I;have U:q.fs=z9s p.fa:=congrArg Fb.f I;have h6:q.ts.length=6:=by rw[<-z6i,D];exact J.inv.lt
 have x:=v9n q w0 hF hG h6 (by rw[D];exact J.tabV) (by rw[D,M];exact J.crs) (by rw[D,O,U];exact J.place) (by rw[D,M,O,U,Z];exact hl);rw[D,M,O,U,Z]at x;exact x
theorem y1s (l:List UInt8)(D:List MOp)(n e:Int)(w0:World)(hG:Glob w0)(h:y8l l=(D,n,e))(hl:l.length<=1000000):Rets prog 30 #[S l] w0 λr w'=>(∃A,r=.slice A D.length D.length/\Lw.Own z5r 28 w0.heap.size w' r D)/\Fr [] w0 w':=by
 have O:=hG.sz;refine we [(0,S l)] func30 rfl ntmps30 rfl (.cons rfl .nil) ?_;have M:=hG;refine sr (asg rfl (nn (sr (mv rfl (cl (ev1 rfl) (mkC func79) (v0g l _ hG hl) rfl ?_)))));rintro _ w1 ⟨A,U,n',e',J,rfl,I,Z⟩;cases J.symm.trans h;refine mv rfl (xt rfl rfl (xt rfl rfl (xt rfl rfl (asg rfl (asg rfl (asg rfl (kpL [(3,_)] (.cons rfl .nil) (nn (sr (mv rfl (asg rfl (nn (rt (r1 results30 rfl ?_))))))))))))));exact⟨_,rfl,⟨A,rfl,I.low (by omega)⟩,Z⟩
theorem j0o:CallOf prog 30:=mkC func30
set_option maxHeartbeats 2000000 in
set_option maxRecDepth 10000 in
theorem y0k (w0:World)(hG:Glob w0)(I:StT w0):Rets prog 11 #[] w0 λr w'=>r=.bool true/\Fr [] w0 w':=by
 have i8:=hG.sz;refine we [] func11 rfl ntmps11 rfl .nil ?_;have a5:=hG;have Z:=I;refine sr (asg rfl (nn (sr (cl (ev1 rfl) j0o (y1s _ j3c 0 0 _ hG prgA (by decide)) rfl ?_))));rintro _ w1 ⟨⟨h9,rfl,e5⟩,q1⟩;have z1:=q1.size;replace I:=Z.ext q1;refine cl (ev1 rfl) (mkC func14) (v1c _ j3c _ e5.sl I (by decide) rnA) rfl ?_;rintro _ w2 ⟨⟨s1,rfl,c9,f6⟩,q2⟩;have z2:=q2.size;have d7:=c9;refine mv rfl (xt rfl rfl (xt rfl rfl (al v7r rfl rfl (λg1 w3 i9 d1 q3 z3=>?_))));refine z0j (vs:=[_,_,_,_]) rfl rfl d1 v7n (λw4 d1 q4 z4=>?_) (h1:=(by first|(simp[Value.oneCell',S];done)|exact z1r.one _));refine asg rfl (nn (sq (sq ?_)));refine y6f (r:=24) (L':=[]) (((0≠0)\/([49,46,48,32,102,114,111,110,116,32,110,101,119,10,49,46,49,32,102,114,111,110,116,10,49,46,50,32,102,114,111,110,116,32,116,104,114,111,117,103,104,32,49,46,49,10,49,46,51,32,102,114,111,110,116,32,116,104,114,111,117,103,104,32,49,46,48,10,104,101,108,100,32,49,46,51,32,49,46,50,10]≠[49,46,48,32,102,114,111,110,116,32,110,101,119,10,49,46,49,32,102,114,111,110,116,10,49,46,50,32,102,114,111,110,116,32,116,104,114,111,117,103,104,32,49,46,49,10,49,46,51,32,102,114,111,110,116,32,116,104,114,111,117,103,104,32,49,46,48,10,104,101,108,100,32,49,46,51,32,49,46,50,10]))) .nil ?_ ?_;refine mv rfl (ne' rfl rfl (mv rfl (gs 20 rfl (λU=>absurd U (by decide)) (λg0=>(gY rfl (z0k rfl d1 x5i (gY rfl ?_)))))));replace c9:=d7.ext (q3.z1 q4);replace hG:=a5.ext (q1.z3 q2 q3 q4);refine cl (ev1 rfl) (mkC func31) (v2i s1.fb msA _ _ c9.at.f hG (y2d z8l rnA) (congrArg St.fb f6) txA (by decide)) rfl ?_;rintro _ w5 ⟨rfl,q5⟩;have z5:=q5.size;exact gY rfl (u7y rfl rfl rfl (pkf rfl rfl (z6y rfl .nil q5)));intro w6 q6;have z6:=q6.size;refine tn (cd rfl (λc0=>?_) (λc0=>?_));rcases c0 with U|U<;>exact absurd rfl U
 refine sk (tn (sr (cl z0f (mkC func10) (y5l _) rfl ?_)));rintro _ w7 ⟨⟨d5,d3,rfl,a6⟩,q7⟩;have z7:=q7.size;have b3:=a6;replace hG:=a5.ext (q1.z5 q2 q3 q4 q6 q7);refine cl (ev1 rfl) j0o (y1s _ j5b 0 0 _ hG prgB (by decide)) rfl ?_;rintro _ w8 ⟨⟨i0,rfl,e6⟩,q8⟩;have z8:=q8.size;replace a6:=b3.ext q8;replace I:=Z.ext (q1.z6 q2 q3 q4 q6 q7 q8);refine cl (ev2 rfl rfl) co9 (j4q d5 d3 _ j5b _ a6 e6.sl I (by decide) rnB (n:=6) rfl) rfl ?_;rintro _ w9 ⟨⟨s2,rfl,D,f7⟩,q9⟩;have z9:=q9.size;have b7:=D;obtain⟨⟨j4,f5⟩,b2,f1⟩:=st2 f7;have a8:=z3n (q:=s2.q) (by rw[f1];exact(y2d z8l rnB).inv.B);have h8:=z1x D.at.y;have h4:s2.fb.c.2.1=0:=by rw[z1x D.at.f.c,f5];rfl
 have h6:(s2.ys.getD 0 yq0).pe.2.1=1:=by rw[z1x (D.at.ya 0),b2];rfl
 have h7:(s2.ys.getD 0 yq0).pes.length=1:=by rw[b2];rfl
 refine mv rfl (xt rfl rfl (xt rfl rfl (xt rfl rfl (al y8v rfl rfl (λg3 j6 j0 a2 M l8=>?_)))));refine z0j (vs:=[_,_,_,_,_,_,_,_]) rfl rfl a2 z9w (λj7 a2 O l9=>?_) (h1:=(by first|(simp[Value.oneCell',S];done)|exact z1r.one _));refine asg rfl (asg rfl (kpL [(2,_),(3,_),(4,_)] (.c3 rfl rfl rfl) (nn (sq (sr (mv rfl (ne' rfl rfl (mv rfl (gs 34 rfl (λU=>absurd U (by decide)) (λg1=>(gY rfl (mv rfl (gY rfl (ne' rfl rfl (pkf rfl rfl (mv rfl (gs 38 rfl (λU=>absurd U (by decide)) (λg2=>?_))))))))))))))))));refine gY rfl (fad rfl y4m (gY rfl (z1s (vs:=[_,_]) rfl a2 z5s rfl (gY rfl (z1v (cs:=[_,_]) (ev1 rfl) x1a (z0h rfl rfl rfl z0s) rfl ?_)))));refine gY rfl ?_;replace D:=b7.ext (M.z1 O);refine cl (ev2 rfl rfl) u3q (x1j s2.q 0 2 _ D.at.b (by decide) a8.1.1 a8.1.2 a8.2.1 a8.2.2) rfl ?_;rintro j5 j8 ⟨b9,J⟩;have m0:=J.size;rw[f1]at b9;obtain⟨i1,i7,rfl,h3⟩:=b9.sl.form;refine gY rfl (lnS rfl underlying37 (gY rfl (ne' rfl rfl (pkf rfl rfl (mv rfl ?_)))));refine gs 46 rfl (λU=>absurd U (by rw[at2];decide)) (λg3=>?_);refine gY rfl (fad rfl z8n (gY rfl (x3p rfl y2v rfl (gY rfl ?_))));replace a2:=a2.ext J;refine z0g rfl a2 rfl u3f (gY rfl (lnS rfl underlying36 (gY rfl (ne' rfl rfl (pkf rfl rfl (mv rfl (gs 53 rfl (λU=>absurd U (by omega)) (λg4=>(gY rfl (fad rfl z9t (gY rfl (z0g rfl a2 rfl y0i (gY rfl ?_)))))))))))));replace D:=b7.ext (M.z2 O J);refine z1a (p:=0) (yq0) rfl D.at.y rfl y1f rfl (λf9 e2=>(gY rfl (fad rfl z6o (gY rfl (z8b rfl (e2 _ D.at.y) rfl y3f (gY rfl (lnS rfl underlying54 (gY rfl (ne' rfl rfl (pkf rfl rfl (mv rfl (gs 62 rfl (λU=>absurd U (by omega)) (λg5=>(gY rfl (fad rfl z9t (gY rfl (z0g rfl a2 rfl y0i (gY rfl (z1a (p:=0) (yq0) rfl D.at.y rfl y1f rfl (λh0 e3=>(gY rfl (fad rfl z6o (gY rfl (z8b rfl (e3 _ D.at.y) rfl y3f (gY rfl (z1a (p:=0) (pa0) rfl (D.at.ya 0) rfl z8x rfl (λh2 e4=>?_)))))))))))))))))))))))))));refine gY rfl (z1i rfl (e4 _ (D.at.ya 0)) z6k (gY rfl (z1v (cs:=[_,_]) (ev1 rfl) j1p (z0h rfl rfl rfl z0s) rfl ?_)));refine gY rfl (z1v (cs:=[_,_,_,_]) (ev3 rfl rfl rfl) u5m (z0h rfl rfl rfl (z0h rfl rfl rfl (z0h rfl rfl rfl z0s))) rfl ?_);refine gY rfl (u1b (V:=paV) (e:=((s2.ys.getD 0 yq0).pes.getD 0 pa0)) (f:=⟨⟨1,0⟩,true,0⟩) rfl rfl j5t rfl (pkf rfl rfl (kpL [(73,_)] (.cons rfl .nil) (nn (cd rfl (λc1=>?_) (λc1=>?_))))));exact absurd (by rw[b2];rfl) c1;refine sk (tn (sr ?_));replace hG:=a5.ext ((((q1.z6 q2 q3 q4 q6 q7 q8).n1 q9).n1 M).z2 O J);refine cl (ev1 rfl) j0o (y1s _ j3g 0 0 _ hG prgC (by decide)) rfl ?_;rintro _ j9 ⟨⟨i2,rfl,e7⟩,q13⟩;have m1:=q13.size;replace I:=Z.ext ((((q1.z6 q2 q3 q4 q6 q7 q8).n1 q9).n1 M).z3 O J q13);refine cl (ev1 rfl) (mkC func14) (v1c _ j3g _ e7.sl I (by decide) rnC) rfl ?_;rintro _ k0 ⟨⟨s3,rfl,d0,f8⟩,q14⟩;have m2:=q14.size;have d9:=d0;refine mv rfl (xt rfl rfl (xt rfl rfl (al v7r rfl rfl (λg5 k1 j1 b1 a0 m3=>?_))));refine z0j (vs:=[_,_,_,_]) rfl rfl b1 v7n (λk2 b1 a1 m4=>?_) (h1:=(by first|(simp[Value.oneCell',S];done)|exact z1r.one _));refine asg rfl (kpL [(2,_),(5,_)] (.c2 rfl rfl) (nn (sr ?_)));replace hG:=a5.ext ((((q1.z6 q2 q3 q4 q6 q7 q8).n1 q9).n1 M).z6 O J q13 q14 a0 a1);refine cl (ev1 rfl) j0o (y1s _ j5o 0 0 _ hG prgD (by decide)) rfl ?_;rintro _ k3 ⟨⟨i3,rfl,e8⟩,q17⟩;have m5:=q17.size;replace I:=Z.ext (((((q1.z6 q2 q3 q4 q6 q7 q8).n1 q9).n1 M).z6 O J q13 q14 a0 a1).next q17);refine cl (ev1 rfl) (mkC func14) (v3x _ j5o _ e8.sl I (by decide) rnD) rfl ?_;rintro _ k4 ⟨⟨s4,rfl,_⟩,q18⟩;have m6:=q18.size;refine mv rfl (xt rfl rfl (xt rfl rfl (al v7r rfl rfl (λg6 k5 j2 e0 a3 m7=>?_))));refine z0j (vs:=[_,_,_,_]) rfl rfl e0 v7n (λk6 e0 a4 m8=>?_) (h1:=(by first|(simp[Value.oneCell',S];done)|exact z1r.one _));refine asg rfl (kpL [(2,_),(5,_),(7,_)] (.c3 rfl rfl rfl) (nn (sr ?_)));replace hG:=a5.ext ((((((((q1.z6 q2 q3 q4 q6 q7 q8).n1 q9).n1 M).z6 O J q13 q14 a0 a1).next q17).next q18).next a3).sp a4);refine cl (ev1 rfl) j0o (y1s _ j5p 0 0 _ hG prgE (by decide)) rfl ?_;rintro _ k7 ⟨⟨i4,rfl,e9⟩,q21⟩;have m9:=q21.size;replace I:=Z.ext (((((((((q1.z6 q2 q3 q4 q6 q7 q8).n1 q9).n1 M).z6 O J q13 q14 a0 a1).next q17).next q18).next a3).sp a4).next q21);refine cl (ev1 rfl) (mkC func14) (v3x _ j5p _ e9.sl I (by decide) rnE) rfl ?_;rintro _ k8 ⟨⟨s5,rfl,_⟩,q22⟩;have n7:=q22.size;refine mv rfl (xt rfl rfl (xt rfl rfl (al v7r rfl rfl (λg8 k9 j3 e1 a9 n8=>?_))));refine z0j (vs:=[_,_,_,_]) rfl rfl e1 v7n (λl0 e1 b0 n9=>?_) (h1:=(by first|(simp[Value.oneCell',S];done)|exact z1r.one _));refine asg rfl (kpL [(2,_),(5,_),(7,_),(9,_)] (.c4 rfl rfl rfl rfl) (nn (sr (cl z0f (mkC func10) (y5l _) rfl ?_))));rintro _ l1 ⟨⟨d6,d4,rfl,a7⟩,q25⟩;have o0:=q25.size;have b4:=a7;replace hG:=a5.ext (((((((((((((q1.z6 q2 q3 q4 q6 q7 q8).n1 q9).n1 M).z6 O J q13 q14 a0 a1).next q17).next q18).next a3).sp a4).next q21).next q22).next a9).sp b0).next q25);refine cl (ev1 rfl) j0o (y1s _ j5n 0 0 _ hG prgF (by decide)) rfl ?_;rintro _ l2 ⟨⟨i5,rfl,f0⟩,q26⟩;have o1:=q26.size;replace a7:=b4.ext q26;replace I:=Z.ext ((((((((((((((q1.z6 q2 q3 q4 q6 q7 q8).n1 q9).n1 M).z6 O J q13 q14 a0 a1).next q17).next q18).next a3).sp a4).next q21).next q22).next a9).sp b0).next q25).next q26);refine cl (ev2 rfl rfl) co9 (j1n d6 d4 _ j5n _ a7 f0.sl I (by decide) rnF) rfl ?_;rintro _ l3 ⟨⟨s6,rfl,_⟩,q27⟩;have o2:=q27.size;refine mv rfl (xt rfl rfl (xt rfl rfl (xt rfl rfl (al y8v rfl rfl (λf4 l4 h5 b8 b5 o3=>?_)))));refine z0j (vs:=[_,_,_,_,_,_,_,_]) rfl rfl b8 z9w (λl5 b8 b6 o4=>?_) (h1:=(by first|(simp[Value.oneCell',S];done)|exact z1r.one _));refine asg rfl (asg rfl (kpL [(2,_),(5,_),(7,_),(9,_),(11,_),(12,_)] (.c6 rfl rfl rfl rfl rfl rfl) (nn (sq ?_))));refine y6f (r:=0) (L':=[]) (((((((0=0)/\([49,46,48,32,102,114,111,110,116,32,110,101,119,10,49,46,49,32,102,114,111,110,116,10,99,114,111,115,115,32,49,46,48,32,49,46,49,32,45,49,10,104,101,108,100,32,49,46,49,32,49,46,48,10]=[49,46,48,32,102,114,111,110,116,32,110,101,119,10,49,46,49,32,102,114,111,110,116,10,99,114,111,115,115,32,49,46,48,32,49,46,49,32,45,49,10,104,101,108,100,32,49,46,49,32,49,46,48,10]))/\(12=12))/\(13=13))/\(12=12))/\(((2:Nat):Int)=2))) .nil ?_ ?_;refine mv rfl (eq' rfl rfl (mv rfl (gs 98 rfl (λg6=>?_) (λU=>absurd (by decide) U))));refine gY rfl ?_;replace b1:=(((((b1.ext (q17.n2 q18 a3)).fr a4).ext (q21.n2 q22 a9)).fr b0).ext (q25.n3 q26 q27 b5)).fr b6;refine z0k rfl b1 x5i (gY rfl ?_);replace d0:=d9.ext ((((a0.z6 a1 q17 q18 a3 a4 q21).n1 q22).n1 a9).z6 b0 q25 q26 q27 b5 b6);replace hG:=a5.ext (((((((((((((((((q1.z6 q2 q3 q4 q6 q7 q8).n1 q9).n1 M).z6 O J q13 q14 a0 a1).next q17).next q18).next a3).sp a4).next q21).next q22).next a9).sp b0).next q25).next q26).next q27).next b5).sp b6);refine cl (ev1 rfl) (mkC func31) (v2i s3.fb msC _ _ d0.at.f hG (y2d z8l rnC) (congrArg St.fb f8) txC (by decide)) rfl ?_;rintro _ l6 ⟨rfl,f2⟩;have o5:=f2.size;refine gY rfl (u1n rfl rfl rfl (pkt rfl rfl (mv rfl (gs 103 rfl (λg7=>?_) (λU=>absurd (by rfl) U)))));refine gY rfl (mv rfl (gY rfl (eq' rfl rfl (pkt rfl rfl (mv rfl (gs 107 rfl (λg8=>?_) (λU=>absurd (by decide) U)))))));refine gY rfl (mv rfl (gY rfl (eq' rfl rfl (pkt rfl rfl (mv rfl (gs 111 rfl (λg9=>?_) (λU=>absurd (by decide) U)))))));refine gY rfl (mv rfl (gY rfl (eq' rfl rfl (pkt rfl rfl (mv rfl (gs 115 rfl (λf4=>?_) (λU=>absurd (by decide) U)))))));exact gY rfl (mv rfl (gY rfl (eq' rfl rfl (pkt rfl rfl (asg rfl (z6y rfl .nil f2))))));intro l7 f3;have o6:=f3.size;refine tn (rt (r1 results11 rfl ?_));exact⟨_,rfl,congrArg Value.bool (decide_eq_true (by decide)),((((((((((((((((((q1.z6 q2 q3 q4 q6 q7 q8).n1 q9).n1 M).z6 O J q13 q14 a0 a1).next q17).next q18).next a3).sp a4).next q21).next q22).next a9).sp b0).next q25).next q26).next q27).next b5).sp b6).next f3)⟩
def cxV (c:Cx):Value:=.agg (cxL c).toArray
theorem eqCx:v0q prog 109 cxV:=by
 intro e f M O w;have J:∀D,(eqGuard D 109 M O (cxV e) (cxV f)).run prog w=.ok () w:=λD=>run_eqGuard_agg w D 109 M O _ _ (by kernel_rfl);have I:prog.stoodInHeld 109=false:=by kernel_rfl
 obtain⟨⟨y,n⟩,⟨y2,n2⟩,k⟩:=e;obtain⟨⟨y',n'⟩,⟨Z,U⟩,k'⟩:=f;refine⟨J _,J _,?_,?_⟩;unfold cxV;simp[go_sem,I,underlying109];(repeat' split)<;>simp_all
 unfold cxV;simp[go_sem,I,underlying109];(repeat' split)<;>simp_all
theorem v1q (v1 v2:Value)(M l2:List Pa)(w0:World)(h1:Sl z1r w0 v1 M)(O:Sl z1r w0 v2 l2):Rets prog 49 #[v1,v2] w0 λr w'=>r=.bool (decide (M=l2))/\Fr [] w0 w':=by
 obtain⟨A1,k1,rfl,a7⟩:=id h1.form;obtain⟨A2,k2,rfl,a8⟩:=id O.form;have a4:=h1.len_le;unfold maxLen at a4;refine we [(0,.slice A1 M.length k1),(1,.slice A2 l2.length k2)] func49 rfl ntmps49 rfl (.c2 rfl rfl) ?_;have a2:=h1;have a3:=O;refine sr (asg rfl (nn (sq (sr (mv rfl (lnS rfl underlying54 (mv rfl (lnS rfl underlying54 (ne' rfl rfl (nn (cd rfl (λc0=>?_) (λc0=>?_))))))))))));refine sr (asg rfl (nn (rt (tr (r1 results49 rfl ?_)))));exact⟨_,rfl,congrArg Value.bool (decide_eq_false (λe=>c0 (by rw[e]))).symm,(Fr.refl _ _)⟩;refine sk (tn (sq (sr (mv rfl (lnS rfl underlying54 (mv rfl (nn (bl ?_))))))));refine lpK (ι:=Nat) [(0,_),(1,_),(12,_)] (λi=>[(13,.int .i64 (i:Int))]) (λi w'=>Fr [] w0 w'/\i<=M.length/\∀j,j<i->M.getD j pa0=l2.getD j pa0) (λi=>M.length-i) 0 (.c4 rfl rfl rfl rfl) ⟨Fr.refl _ _,⟨Nat.zero_le _,λj h=>absurd h (by omega)⟩⟩ ?_;rintro i w1 ⟨Z,⟨hi,hz⟩⟩;have z1:=Z.size;refine kpC [(0,_),(1,_),(12,_),(13,_)] (.c4 rfl rfl rfl rfl) (sr (lt' rfl rfl (nn (sq (cd rfl (λc1=>?_) (λc1=>?_))))));refine sk (tn (sq (bl (sr (mv rfl (asg rfl (nn (sq ?_))))))));replace h1:=a2.ext Z;replace O:=a3.ext Z;intro a h;have D:=Fr.refl [] w1;refine z2p (λwb w'=>Fr [] wb w') z2o ?_;intro w2 U;have z2:=U.size;replace h1:=h1.ext U;replace O:=O.ext U;replace D:=D.next U;have a9:=U.size;clear U;have hC:Fr [] w2 w2:=Fr.refl _ _;have I:=h1;have J:=O;refine z0e 0 h rfl rfl λa h=>z0e 1 h rfl rfl λa h=>z1h (pa0) 2 h rfl h1 rfl z8x rfl ?_ (hp:=rfl);clear h a;intro a5 a0 a h;refine z1y 3 h wn rfl (λ_ hw=>a0 _ (I.ext hw)) z6k rfl λa h=>z0e 4 h rfl rfl λa h=>z0e 5 h rfl rfl λa h=>z1h (pa0) 6 h rfl O rfl z8x rfl ?_ (hp:=rfl);clear h a;intro a6 a1 a h;refine z1y 7 h wn rfl (λ_ hw=>a1 _ (J.ext hw)) z6k rfl λa h=>v3h (V:=paV) (e:=(M.getD i pa0)) (f:=(l2.getD i pa0)) 8 hC h wn rfl rfl j5t rfl rfl λa h=>z0q ?_;clear hC I J;have z2:=D.size;refine bk (h.sub (L':=[(0,_),(1,_),(12,_),(13,_),(24,_)]) (.c5 rfl rfl rfl rfl rfl)) (tn (cd rfl (λc2=>?_) (λc2=>?_)));refine sr (asg rfl (nn (rt (rb (tr (tr (rb (tr (r1 results49 rfl ?_)))))))));exact⟨_,rfl,congrArg Value.bool (decide_eq_false (λe=>c2 (by rw[e]))).symm,(Z.n1 D)⟩;refine sk (bn' (tn (rg (z0v rfl rfl (wi6 (by omega)) (mv rfl (nl ?_))))));exact lpE (i+1) (.c4 rfl rfl rfl rfl) ⟨(Z.n1 D),⟨by omega,λj h=>by
  by_cases e:j=i;subst e;exact Classical.not_not.1 c2;exact hz j (by omega)⟩⟩ (by omega)
 obtain rfl:i=M.length:=by omega
 refine ex (te (te (xh (tn (sr (asg rfl (nn (rt (r1 results49 rfl ?_)))))))));exact⟨_,rfl,congrArg Value.bool (decide_eq_true (x4r pa0 (by omega) (λj hj=>hz j (by omega)))).symm,Z⟩
theorem u4y (v1 v2:Value)(M l2:List Cx)(w0:World)(h1:Sl z4o w0 v1 M)(O:Sl z4o w0 v2 l2):Rets prog 53 #[v1,v2] w0 λr w'=>r=.bool (decide (M=l2))/\Fr [] w0 w':=by
 obtain⟨A1,k1,rfl,a7⟩:=id h1.form;obtain⟨A2,k2,rfl,a8⟩:=id O.form;have a4:=h1.len_le;unfold maxLen at a4;refine we [(0,.slice A1 M.length k1),(1,.slice A2 l2.length k2)] func53 rfl ntmps53 rfl (.c2 rfl rfl) ?_;have a2:=h1;have a3:=O;refine sr (asg rfl (nn (sq (sr (mv rfl (lnS rfl underlying36 (mv rfl (lnS rfl underlying36 (ne' rfl rfl (nn (cd rfl (λc0=>?_) (λc0=>?_))))))))))));refine sr (asg rfl (nn (rt (tr (r1 results53 rfl ?_)))));exact⟨_,rfl,congrArg Value.bool (decide_eq_false (λe=>c0 (by rw[e]))).symm,(Fr.refl _ _)⟩;refine sk (tn (sq (sr (mv rfl (lnS rfl underlying36 (mv rfl (nn (bl ?_))))))));refine lpK (ι:=Nat) [(0,_),(1,_),(12,_)] (λi=>[(13,.int .i64 (i:Int))]) (λi w'=>Fr [] w0 w'/\i<=M.length/\∀j,j<i->M.getD j cx0=l2.getD j cx0) (λi=>M.length-i) 0 (.c4 rfl rfl rfl rfl) ⟨Fr.refl _ _,⟨Nat.zero_le _,λj h=>absurd h (by omega)⟩⟩ ?_;rintro i w1 ⟨Z,⟨hi,hz⟩⟩;have z1:=Z.size;refine kpC [(0,_),(1,_),(12,_),(13,_)] (.c4 rfl rfl rfl rfl) (sr (lt' rfl rfl (nn (sq (cd rfl (λc1=>?_) (λc1=>?_))))));refine sk (tn (sq (bl (sr (mv rfl (asg rfl (nn (sq ?_))))))));replace h1:=a2.ext Z;replace O:=a3.ext Z;intro a h;have D:=Fr.refl [] w1;refine z2p (λwb w'=>Fr [] wb w') z2o ?_;intro w2 U;have z2:=U.size;replace h1:=h1.ext U;replace O:=O.ext U;replace D:=D.next U;have a9:=U.size;clear U;have hC:Fr [] w2 w2:=Fr.refl _ _;have I:=h1;have J:=O;refine z0e 0 h rfl rfl λa h=>z0e 1 h rfl rfl λa h=>z1h (cx0) 2 h rfl h1 rfl v1j rfl ?_ (hp:=rfl);clear h a;intro a5 a0 a h;refine z1y 3 h wn rfl (λ_ hw=>a0 _ (I.ext hw)) x5o rfl λa h=>z0e 4 h rfl rfl λa h=>z0e 5 h rfl rfl λa h=>z1h (cx0) 6 h rfl O rfl v1j rfl ?_ (hp:=rfl);clear h a;intro a6 a1 a h;refine z1y 7 h wn rfl (λ_ hw=>a1 _ (J.ext hw)) x5o rfl λa h=>v3h (V:=cxV) (e:=(M.getD i cx0)) (f:=(l2.getD i cx0)) 8 hC h wn rfl rfl eqCx rfl rfl λa h=>z0q ?_;clear hC I J;have z2:=D.size;refine bk (h.sub (L':=[(0,_),(1,_),(12,_),(13,_),(24,_)]) (.c5 rfl rfl rfl rfl rfl)) (tn (cd rfl (λc2=>?_) (λc2=>?_)));refine sr (asg rfl (nn (rt (rb (tr (tr (rb (tr (r1 results53 rfl ?_)))))))));exact⟨_,rfl,congrArg Value.bool (decide_eq_false (λe=>c2 (by rw[e]))).symm,(Z.n1 D)⟩;refine sk (bn' (tn (rg (z0v rfl rfl (wi6 (by omega)) (mv rfl (nl ?_))))));exact lpE (i+1) (.c4 rfl rfl rfl rfl) ⟨(Z.n1 D),⟨by omega,λj h=>by
  by_cases e:j=i;subst e;exact Classical.not_not.1 c2;exact hz j (by omega)⟩⟩ (by omega)
 obtain rfl:i=M.length:=by omega
 refine ex (te (te (xh (tn (sr (asg rfl (nn (rt (r1 results53 rfl ?_)))))))));exact⟨_,rfl,congrArg Value.bool (decide_eq_true (x4r cx0 (by omega) (λj hj=>hz j (by omega)))).symm,Z⟩
theorem v7i (D I:LpQ)(w0:World)(h1:LpAt w0 D)(h2:LpAt w0 I)(hl:D.ths.length<=100000)(he:D.p=I.p):Rets prog 48 #[.agg #[.int .u8 D.b,.bool D.nw,.slice D.th.1 D.th.2.1 D.th.2.2,.slice D.pa.1 D.pa.2.1 D.pa.2.2],.agg #[.int .u8 I.b,.bool I.nw,.slice I.th.1 I.th.2.1 I.th.2.2,.slice I.pa.1 I.pa.2.1 I.pa.2.2]] w0 λr w'=>r=.bool true/\Fr [] w0 w':=by
 have e1:D.b=I.b:=congrArg Lp.b he;have e2:D.nw=I.nw:=congrArg Lp.nw he;have e3:D.ths=I.ths:=congrArg Lp.th he;have e4:D.pas=I.pas:=congrArg Lp.pa he;refine we [(0,.agg #[.int .u8 D.b,.bool D.nw,.slice D.th.1 D.th.2.1 D.th.2.2,.slice D.pa.1 D.pa.2.1 D.pa.2.2]),(1,.agg #[.int .u8 I.b,.bool I.nw,.slice I.th.1 I.th.2.1 I.th.2.2,.slice I.pa.1 I.pa.2.1 I.pa.2.2])] func48 rfl ntmps48 rfl (.c2 rfl rfl) ?_;have Z:=h1;have a0:=h2;refine sr (bx rfl rfl rfl (λg2 w1 a1 J q1 z1=>(bx rfl rfl rfl (λg3 w2 a2 M O z2=>(asg rfl (nn (sq ?_)))))));refine y6f (r:=4) (L':=[]) (((((D.b=I.b)/\( (D.nw=true↔I.nw=true)))/\D.ths=I.ths)/\D.pas=I.pas)) .nil ?_ ?_;refine fad rfl x2k ?_;replace J:=J.ext O;refine z0g rfl J rfl x1z (fad rfl x2k (z0g rfl M rfl x1z (eq' rfl rfl (mv rfl (gs 10 rfl (λg0=>?_) (λhh=>absurd (by exact e1) hh))))));refine gY rfl (fad rfl x8c (gY rfl (z0g rfl J rfl na4 (gY rfl (fad rfl x8c (gY rfl (z0g rfl M rfl na4 (gY rfl (u4s rfl rfl underlying4 rfl (pkt rfl rfl (mv rfl (gs 17 rfl (λg1=>?_) (λhh=>absurd (by exact(by rw[e2])) hh)))))))))))));refine gY rfl (fad rfl z6n (gY rfl (z0g rfl J rfl z5t (gY rfl (fad rfl z6n (gY rfl (z0g rfl M rfl z5t (gY rfl ?_))))))));replace h1:=Z.ext (q1.n1 O);replace h2:=a0.ext (q1.n1 O);refine cl (ev2 rfl rfl) j3p (y5f _ _ D.ths I.ths _ h1.1 h2.1 hl) rfl ?_;rintro _ w3 ⟨rfl,U⟩;have z3:=U.size;refine pkt rfl rfl (mv rfl (gs 24 rfl (λg2=>?_) (λhh=>absurd (by exact e3) hh)));refine gY rfl (fad rfl z8g (gY rfl ?_));replace J:=J.ext U;refine z0g rfl J rfl y3f (gY rfl (fad rfl z8g (gY rfl ?_)));replace M:=M.ext U;refine z0g rfl M rfl y3f (gY rfl ?_);replace h1:=Z.ext (q1.n2 O U);replace h2:=a0.ext (q1.n2 O U);refine cl (ev2 rfl rfl) (mkC func49) (v1q _ _ D.pas I.pas _ h1.2 h2.2) rfl ?_;rintro _ w4 ⟨rfl,q4⟩;have z4:=q4.size;exact pkt rfl rfl (asg rfl (z6y rfl .nil (U.n1 q4)));intro w5 q5;have z5:=q5.size;refine tn (rt (r1 results48 rfl ?_));exact⟨_,rfl,congrArg Value.bool (decide_eq_true ⟨⟨⟨e1,by rw[e2]⟩,e3⟩,e4⟩),(q1.n2 O q5)⟩
theorem v3v (D I:YQ)(w0:World)(h1:Sl z1r w0 (slv D.pe) D.pes)(h2:Sl z1r w0 (slv I.pe) I.pes)(U:D.p=I.p):Rets prog 54 #[.agg #[.bool D.inn,.int .i64 D.pl,.int .i64 D.ct,.bool D.nw,.slice D.pe.1 D.pe.2.1 D.pe.2.2],.agg #[.bool I.inn,.int .i64 I.pl,.int .i64 I.ct,.bool I.nw,.slice I.pe.1 I.pe.2.1 I.pe.2.2]] w0 λr w'=>r=.bool true/\Fr [] w0 w':=by
 have e1:D.inn=I.inn:=congrArg Yn.inn U;have e2:D.pl=I.pl:=congrArg Yn.pl U;have e3:D.ct=I.ct:=congrArg Yn.ct U;have e4:D.nw=I.nw:=congrArg Yn.nw U;have e5:D.pes=I.pes:=congrArg Yn.pe U;refine we [(0,.agg #[.bool D.inn,.int .i64 D.pl,.int .i64 D.ct,.bool D.nw,.slice D.pe.1 D.pe.2.1 D.pe.2.2]),(1,.agg #[.bool I.inn,.int .i64 I.pl,.int .i64 I.ct,.bool I.nw,.slice I.pe.1 I.pe.2.1 I.pe.2.2])] func54 rfl ntmps54 rfl (.c2 rfl rfl) ?_;have a0:=h1;have a1:=h2;refine sr (bx rfl rfl rfl (λg2 w1 a2 J q1 z1=>(bx rfl rfl rfl (λg3 w2 a3 M Z z2=>(asg rfl (nn (sq ?_)))))));refine y6f (r:=4) (L':=[]) (((((( (D.inn=true↔I.inn=true))/\(D.pl=I.pl))/\(D.ct=I.ct))/\( (D.nw=true↔I.nw=true)))/\D.pes=I.pes)) .nil ?_ ?_;refine fad rfl z9d ?_;replace J:=J.ext Z;refine z0g rfl J rfl na4 (fad rfl z9d (z0g rfl M rfl na4 (u4s rfl rfl underlying4 rfl (mv rfl (gs 10 rfl (λg0=>?_) (λO=>absurd (by exact(by rw[e1])) O))))));refine gY rfl (fad rfl z6c (gY rfl (z0g rfl J rfl na3 (gY rfl (fad rfl z6c (gY rfl (z0g rfl M rfl na3 (gY rfl (eq' rfl rfl (pkt rfl rfl (mv rfl (gs 17 rfl (λg1=>?_) (λO=>absurd (by exact e2) O)))))))))))));refine gY rfl (fad rfl z9f (gY rfl (z0g rfl J rfl na3 (gY rfl (fad rfl z9f (gY rfl (z0g rfl M rfl na3 (gY rfl (eq' rfl rfl (pkt rfl rfl (mv rfl (gs 24 rfl (λg2=>?_) (λO=>absurd (by exact e3) O)))))))))))));refine gY rfl (fad rfl x8l (gY rfl (z0g rfl J rfl na4 (gY rfl (fad rfl x8l (gY rfl (z0g rfl M rfl na4 (gY rfl (u4s rfl rfl underlying4 rfl (pkt rfl rfl (mv rfl (gs 31 rfl (λg3=>?_) (λO=>absurd (by exact(by rw[e4])) O)))))))))))));refine gY rfl (fad rfl z6o (gY rfl (z0g rfl J rfl y3f (gY rfl (fad rfl z6o (gY rfl (z0g rfl M rfl y3f (gY rfl ?_))))))));replace h1:=a0.ext (q1.n1 Z);replace h2:=a1.ext (q1.n1 Z);refine cl (ev2 rfl rfl) (mkC func49) (v1q _ _ D.pes I.pes _ h1 h2) rfl ?_;rintro _ w3 ⟨rfl,q3⟩;have z3:=q3.size;exact pkt rfl rfl (asg rfl (z6y rfl .nil q3));intro w4 q4;have z4:=q4.size;refine tn (rt (r1 results54 rfl ?_));exact⟨_,rfl,congrArg Value.bool (decide_eq_true ⟨⟨⟨⟨by rw[e1],e2⟩,e3⟩,by rw[e4]⟩,e5⟩),(q1.n2 Z q4)⟩
theorem u2q (v1 v2:Value)(I Z:List LpQ)(w0:World)(h1:Sl z4i w0 v1 I)(h2:Sl z4i w0 v2 Z)(M:LpsAt w0 I)(O:LpsAt w0 Z)(hl:I.length=Z.length)(he:∀i,i<I.length->(I.getD i lq0).p=(Z.getD i lq0).p/\(I.getD i lq0).ths.length<=100000):Rets prog 51 #[v1,v2,.func (.func 48) #[] #[]] w0 λr w'=>r=.bool true/\Fr [] w0 w':=by
 obtain⟨A1,k1,rfl,b2⟩:=id h1.form;obtain⟨A2,k2,rfl,b3⟩:=id h2.form;have a7:=h1.len_le;unfold maxLen at a7;refine we [(0,.slice A1 I.length k1),(1,.slice A2 Z.length k2),(2,.func (.func 48) #[] #[])] func51 rfl ntmps51 rfl (.c3 rfl rfl rfl) ?_;have a5:=h1;have a6:=h2;have a3:=M;have a4:=O;refine sr (asg rfl (nn (sq (sr (mv rfl (lnS rfl underlying46 (mv rfl (lnS rfl underlying46 (ne' rfl rfl (nn (cd rfl (λc0=>?_) (λc0=>?_))))))))))));exfalso;omega;refine sk (tn (sq (sr (mv rfl (lnS rfl underlying46 (mv rfl (nn (bl ?_))))))));refine lpK (ι:=Nat) [(1,_),(2,_),(15,_),(16,_)] (λi=>[(17,.int .i64 (i:Int))]) (λi w'=>Fr [] w0 w'/\i<=I.length) (λi=>I.length-i) 0 (.c5 rfl rfl rfl rfl rfl) ⟨Fr.refl _ _,Nat.zero_le _⟩ ?_;rintro i w1 ⟨U,hi⟩;have z1:=U.size;refine kpC [(1,_),(2,_),(15,_),(16,_),(17,_)] (.c5 rfl rfl rfl rfl rfl) (sr (lt' rfl rfl (nn (sq (cd rfl (λc1=>?_) (λc1=>?_))))));have a2:=he i (by omega);refine sk (tn (sq (bl (sr (mv rfl ?_)))));replace h1:=a5.ext U;refine z1a (lq0) rfl h1 rfl x8g z1d (λa8 a0=>?_);refine z1i rfl (a0 _ h1) x7p (al v7p rfl rfl (λg8 w2 b0 D q2 z2=>?_));refine asg rfl (z0j (vs:=[_,_,_,_]) rfl rfl D v8x (λw3 D q3 z3=>?_) (h1:=(by first|(simp[Value.oneCell',S];done)|exact z4i.one _)));refine nn (sr (mv rfl (mv rfl ?_)));replace h2:=a6.ext (U.z2 q2 q3);refine z1a (lq0) rfl h2 rfl x8g z1d (λa9 a1=>?_);refine z1i rfl (a1 _ h2) x7p (al v7p rfl rfl (λg9 w4 b1 J q4 z4=>?_));refine z0j (vs:=[_,_,_,_]) rfl rfl J v8x (λw5 J q5 z5=>?_) (h1:=(by first|(simp[Value.oneCell',S];done)|exact z4i.one _));refine nn (sr (mv rfl ?_));replace D:=(D.ext q4).fr q5;refine z0k rfl D x7p (z0k rfl J x7p ?_);replace M:=a3.ext (U.z4 q2 q3 q4 q5);replace O:=a4.ext (U.z4 q2 q3 q4 q5);refine clv (us:=[]) (ws:=[]) rfl (ev2 rfl rfl) (mkC func48) (v7i (I.getD i lq0) (Z.getD i lq0) _ (M _ (z0u (by omega))) (O _ (z0u (by omega))) a2.2 a2.1) rfl (by intro g e;cases e) ?_;rintro _ w6 ⟨rfl,q6⟩;have z6:=q6.size;refine nt' rfl (kpL [(1,_),(2,_),(15,_),(16,_),(17,_),(30,_)] (.c6 rfl rfl rfl rfl rfl rfl) (nn (cd rfl (λc2=>?_) (λc2=>?_))));exact absurd c2 (by decide);refine sk (bn' (tn (rg (z0v rfl rfl (wi6 (by omega)) (mv rfl (nl ?_))))));exact lpE (i+1) (.c5 rfl rfl rfl rfl rfl) ⟨(U.z5 q2 q3 q4 q5 q6),by omega⟩ (by omega);obtain rfl:i=I.length:=by omega
 refine ex (te (te (xh (tn (sr (asg rfl (kpL [(6,_)] (.cons rfl .nil) (nn (rt (r1 results51 rfl ?_))))))))));exact⟨_,rfl,rfl,U⟩
theorem u0m (v1 v2:Value)(I Z:List YQ)(w0:World)(h1:Sl z2r w0 v1 I)(h2:Sl z2r w0 v2 Z)(M:YsA w0 I)(O:YsA w0 Z)(hl:I.length=Z.length)(he:∀i,i<I.length->(I.getD i yq0).p=(Z.getD i yq0).p):Rets prog 56 #[v1,v2,.func (.func 54) #[] #[]] w0 λr w'=>r=.bool true/\Fr [] w0 w':=by
 obtain⟨A1,k1,rfl,b2⟩:=id h1.form;obtain⟨A2,k2,rfl,b3⟩:=id h2.form;have a6:=h1.len_le;unfold maxLen at a6;refine we [(0,.slice A1 I.length k1),(1,.slice A2 Z.length k2),(2,.func (.func 54) #[] #[])] func56 rfl ntmps56 rfl (.c3 rfl rfl rfl) ?_;have a4:=h1;have a5:=h2;have a2:=M;have a3:=O;refine sr (asg rfl (nn (sq (sr (mv rfl (lnS rfl underlying33 (mv rfl (lnS rfl underlying33 (ne' rfl rfl (nn (cd rfl (λc0=>?_) (λc0=>?_))))))))))));exfalso;omega;refine sk (tn (sq (sr (mv rfl (lnS rfl underlying33 (mv rfl (nn (bl ?_))))))));refine lpK (ι:=Nat) [(1,_),(2,_),(15,_),(16,_)] (λi=>[(17,.int .i64 (i:Int))]) (λi w'=>Fr [] w0 w'/\i<=I.length) (λi=>I.length-i) 0 (.c5 rfl rfl rfl rfl rfl) ⟨Fr.refl _ _,Nat.zero_le _⟩ ?_;rintro i w1 ⟨U,hi⟩;have z1:=U.size;refine kpC [(1,_),(2,_),(15,_),(16,_),(17,_)] (.c5 rfl rfl rfl rfl rfl) (sr (lt' rfl rfl (nn (sq (cd rfl (λc1=>?_) (λc1=>?_))))));have a7:=he i (by omega);refine sk (tn (sq (bl (sr (mv rfl ?_)))));replace h1:=a4.ext U;refine z1a (yq0) rfl h1 rfl y1f z1d (λa8 a0=>?_);refine z1i rfl (a0 _ h1) z6f (al y1g rfl rfl (λg8 w2 b0 D q2 z2=>?_));refine asg rfl (z0j (vs:=[_,_,_,_,_]) rfl rfl D z6s (λw3 D q3 z3=>?_) (h1:=(by first|(simp[Value.oneCell',S];done)|exact z2r.one _)));refine nn (sr (mv rfl (mv rfl ?_)));replace h2:=a5.ext (U.z2 q2 q3);refine z1a (yq0) rfl h2 rfl y1f z1d (λa9 a1=>?_);refine z1i rfl (a1 _ h2) z6f (al y1g rfl rfl (λg9 w4 b1 J q4 z4=>?_));refine z0j (vs:=[_,_,_,_,_]) rfl rfl J z6s (λw5 J q5 z5=>?_) (h1:=(by first|(simp[Value.oneCell',S];done)|exact z2r.one _));refine nn (sr (mv rfl ?_));replace D:=(D.ext q4).fr q5;refine z0k rfl D z6f (z0k rfl J z6f ?_);replace M:=a2.ext (U.z4 q2 q3 q4 q5);replace O:=a3.ext (U.z4 q2 q3 q4 q5);refine clv (us:=[]) (ws:=[]) rfl (ev2 rfl rfl) (mkC func54) (v3v (I.getD i yq0) (Z.getD i yq0) _ (M i) (O i) a7) rfl (by intro g e;cases e) ?_;rintro _ w6 ⟨rfl,q6⟩;have z6:=q6.size;refine nt' rfl (kpL [(1,_),(2,_),(15,_),(16,_),(17,_),(30,_)] (.c6 rfl rfl rfl rfl rfl rfl) (nn (cd rfl (λc2=>?_) (λc2=>?_))));exact absurd c2 (by decide);refine sk (bn' (tn (rg (z0v rfl rfl (wi6 (by omega)) (mv rfl (nl ?_))))));exact lpE (i+1) (.c5 rfl rfl rfl rfl rfl) ⟨(U.z5 q2 q3 q4 q5 q6),by omega⟩ (by omega);obtain rfl:i=I.length:=by omega
 refine ex (te (te (xh (tn (sr (asg rfl (kpL [(6,_)] (.cons rfl .nil) (nn (rt (r1 results56 rfl ?_))))))))));exact⟨_,rfl,rfl,U⟩
theorem j7g:z2c prog 121:=λ_=>by kernel_rfl
theorem v0n (v1 v2:Value)(D I:List LpQ)(O:Nat)(w0:World)(h1:Sl z4i w0 v1 D)(U:Sl z4i w0 v2 I)(J:LpsAt w0 D)(M:LpsAt w0 I)(Z:Blk w0 O 121 [.func (.func 48) #[] #[]])(hl:D.length=I.length)(he:∀i,i<D.length->(D.getD i lq0).p=(I.getD i lq0).p/\(D.getD i lq0).ths.length<=100000):Rets prog 50 #[v1,v2,.pointer (some ⟨O,0,none⟩)] w0 λr w'=>r=.bool true/\Fr [] w0 w':=by
 obtain⟨A1,k1,rfl,a4⟩:=id h1.form;obtain⟨A2,k2,rfl,a5⟩:=id U.form;refine we [(0,.slice A1 D.length k1),(1,.slice A2 I.length k2),(2,.pointer (some ⟨O,0,none⟩))] func50 rfl ntmps50 rfl (.c3 rfl rfl rfl) ?_;have a2:=h1;have a3:=U;have a0:=J;have a1:=M;refine sr (asg rfl (nn (sr (mv rfl (mv rfl (z3v rfl Z j7g (cl (ev3 rfl rfl rfl) (mkC func51) (u2q _ _ D I _ h1 U J M hl he) rfl ?_)))))));rintro _ w1 ⟨rfl,q1⟩;have z1:=q1.size;refine asg rfl (kpL [(5,_)] (.cons rfl .nil) (nn (rt (r1 results50 rfl ?_))));exact⟨_,rfl,rfl,q1⟩
theorem u9d (v1 v2:Value)(D U:List TQ)(w0:World)(h1:Sl z3y w0 v1 D)(h2:Sl z3y w0 v2 U)(Z:Nat)(I:TabAt w0 D)(J:TabAt w0 U)(O:Blk w0 Z 121 [.func (.func 48) #[] #[]])(hl:D.length=U.length)(he:∀i,i<D.length->(D.getD i tq0).2.length=(U.getD i tq0).2.length/\∀k,k<(D.getD i tq0).2.length->((D.getD i tq0).2.getD k lq0).p=((U.getD i tq0).2.getD k lq0).p/\((D.getD i tq0).2.getD k lq0).ths.length<=100000):Rets prog 52 #[v1,v2,.func (.func 50) #[] #[.pointer (some ⟨Z,0,none⟩)]] w0 λr w'=>r=.bool true/\Fr [] w0 w':=by
 obtain⟨A1,k1,rfl,b1⟩:=id h1.form;obtain⟨A2,k2,rfl,b2⟩:=id h2.form;have a8:=h1.len_le;unfold maxLen at a8;refine we [(0,.slice A1 D.length k1),(1,.slice A2 U.length k2),(2,.func (.func 50) #[] #[.pointer (some ⟨Z,0,none⟩)])] func52 rfl ntmps52 rfl (.c3 rfl rfl rfl) ?_;have a6:=h1;have a7:=h2;have a4:=I;have a5:=J;have a0:=O;refine sr (asg rfl (nn (sq (sr (mv rfl (lnS rfl underlying35 (mv rfl (lnS rfl underlying35 (ne' rfl rfl (nn (cd rfl (λc0=>?_) (λc0=>?_))))))))))));exfalso;omega;refine sk (tn (sq (sr (mv rfl (lnS rfl underlying35 (mv rfl (nn (bl ?_))))))));refine lpK (ι:=Nat) [(1,_),(2,_),(15,_),(16,_)] (λi=>[(17,.int .i64 (i:Int))]) (λi w'=>Fr [] w0 w'/\i<=D.length) (λi=>D.length-i) 0 (.c5 rfl rfl rfl rfl rfl) ⟨Fr.refl _ _,Nat.zero_le _⟩ ?_;rintro i w1 ⟨M,hi⟩;have z1:=M.size;refine kpC [(1,_),(2,_),(15,_),(16,_),(17,_)] (.c5 rfl rfl rfl rfl rfl) (sr (lt' rfl rfl (nn (sq (cd rfl (λc1=>?_) (λc1=>?_))))));have a3:=he i (by omega);refine sk (tn (sq (bl (sr (mv rfl ?_)))));replace h1:=a6.ext M;refine z1a (tq0) rfl h1 rfl y6e z1d (λa9 a1=>?_);refine z1g rfl (a1 _ h1) x2c (asg rfl (asg rfl (nn (sr (mv rfl (mv rfl ?_))))));replace h2:=a7.ext M;refine z1a (tq0) rfl h2 rfl y6e z1d (λb0 a2=>?_);refine z1g rfl (a2 _ h2) x2c (asg rfl (nn (sr (mv rfl (mv rfl (mv rfl ?_))))));replace I:=a4.ext M;replace J:=a5.ext M;replace O:=a0.ext M;refine clv (us:=[]) (ws:=[.pointer (some ⟨Z,0,none⟩)]) rfl (ev2 rfl rfl) (mkC func50) (v0n _ _ (D.getD i tq0).2 (U.getD i tq0).2 Z _ (I _ (z0u (d:=tq0) (i:=i) (by omega))).1 (J _ (z0u (d:=tq0) (i:=i) (by omega))).1 (I _ (z0u (d:=tq0) (i:=i) (by omega))).2 (J _ (z0u (d:=tq0) (i:=i) (by omega))).2 O a3.1 a3.2) rfl (by intro g e;cases e) ?_;rintro _ w2 ⟨rfl,q2⟩;have z2:=q2.size;refine nt' rfl (kpL [(1,_),(2,_),(15,_),(16,_),(17,_),(30,_)] (.c6 rfl rfl rfl rfl rfl rfl) (nn (cd rfl (λc2=>?_) (λc2=>?_))));exact absurd c2 (by decide);refine sk (bn' (tn (rg (z0v rfl rfl (wi6 (by omega)) (mv rfl (nl ?_))))));exact lpE (i+1) (.c5 rfl rfl rfl rfl rfl) ⟨(M.n1 q2),by omega⟩ (by omega);obtain rfl:i=D.length:=by omega
 refine ex (te (te (xh (tn (sr (asg rfl (kpL [(6,_)] (.cons rfl .nil) (nn (rt (r1 results52 rfl ?_))))))))));exact⟨_,rfl,rfl,M⟩
theorem j6v:z1p prog 121 1:=λ_=>by kernel_rfl
theorem j7x (w:World):(zeroValue 121).run prog w=.ok .nilFunc w:=by kernel_rfl
theorem v9o {t1 t2:List TQ}(h:z2a t1=z2a t2):t1.length=t2.length/\∀y,(t1.getD y tq0).2.length=(t2.getD y tq0).2.length/\∀n,((t1.getD y tq0).2.getD n lq0).p=((t2.getD y tq0).2.getD n lq0).p:=by
 refine⟨?_,λy=>⟨?_,λn=>?_⟩⟩;rw[<-z6i,h,z6i];rw[<-z2s,h,z2s];rw[<-z7b,h,z7b]
theorem v8l (v1 v2:Value)(D I:List LId)(w0:World)(h1:Sl z1k w0 v1 D)(J:Sl z1k w0 v2 I)(hl:D.length<=100000)(M:D=I):Rets prog 46 #[v1,v2] w0 λr w'=>r=.bool true/\Fr [] w0 w':=
 Rets.mono (y5f v1 v2 D I w0 h1 J hl) (by rintro r w' ⟨rfl,hf⟩;exact⟨congrArg Value.bool (decide_eq_true M),hf⟩)
set_option maxHeartbeats 1000000 in
theorem v3d (D I:FbQ)(w0:World)(h1:FbAt w0 D)(Z:FbAt w0 I)(a9:∀y n,((D.ts.getD y tq0).2.getD n lq0).ths.length<=100000)(a7:D.hs.length<=100000)(a8:D.fs.length<=100000)(he:D.p=I.p):Rets prog 17 #[.agg #[.slice D.t.1 D.t.2.1 D.t.2.2,.slice D.c.1 D.c.2.1 D.c.2.2,.slice D.h.1 D.h.2.1 D.h.2.2,.slice D.f.1 D.f.2.1 D.f.2.2],.agg #[.slice I.t.1 I.t.2.1 I.t.2.2,.slice I.c.1 I.c.2.1 I.c.2.2,.slice I.h.1 I.h.2.1 I.h.2.2,.slice I.f.1 I.f.2.1 I.f.2.2]] w0 λr w'=>r=.bool true/\Fr [] w0 w':=by
 have ht:z2a D.ts=z2a I.ts:=congrArg Fb.t he;have a3:D.cs=I.cs:=congrArg Fb.c he;have a4:D.hs=I.hs:=congrArg Fb.h he;have a6:D.fs=I.fs:=congrArg Fb.f he;obtain⟨b0,a5⟩:=v9o ht;refine we [(0,.agg #[.slice D.t.1 D.t.2.1 D.t.2.2,.slice D.c.1 D.c.2.1 D.c.2.2,.slice D.h.1 D.h.2.1 D.h.2.2,.slice D.f.1 D.f.2.1 D.f.2.2]),(1,.agg #[.slice I.t.1 I.t.2.1 I.t.2.2,.slice I.c.1 I.c.2.1 I.c.2.2,.slice I.h.1 I.h.2.1 I.h.2.2,.slice I.f.1 I.f.2.1 I.f.2.2])] func17 rfl ntmps17 rfl (.c2 rfl rfl) ?_;have a0:=h1;have a1:=Z;refine sr (bx rfl rfl rfl (λg2 w1 b1 J q1 z1=>(bx rfl rfl rfl (λg3 w2 b2 M q2 z2=>(asg rfl (nn (sr (al j7x rfl rfl (λg5 w3 b3 a2 O z3=>(z5i rfl rfl a2 rfl j6v (λw4 a2 U z4=>(nn (sr (z6b z0f (ev1 rfl) rfl (asg rfl (nn (sq ?_)))))))))))))))));refine y6f (r:=4) (L':=[]) ((((True/\D.cs=I.cs)/\D.hs=I.hs)/\D.fs=I.fs)) .nil ?_ ?_;refine fad rfl z8u ?_;replace J:=(J.ext (q2.n1 O)).fr U;refine z0g rfl J rfl x3m (fad rfl z8u ?_);replace M:=(M.ext O).fr U;refine z0g rfl M rfl x3m (mv rfl ?_);replace h1:=a0.ext (q1.z3 q2 O U);replace Z:=a1.ext (q1.z3 q2 O U);refine cl (ev3 rfl rfl rfl) (mkC func52) (u9d _ _ D.ts I.ts _ h1.t Z.t g5 h1.tt Z.tt a2 b0 (λi _=>⟨(a5 i).1,λk _=>⟨(a5 i).2 k,a9 i k⟩⟩)) rfl ?_;rintro _ w5 ⟨rfl,q5⟩;have z5:=q5.size;refine mv rfl (gs 14 rfl (λg0=>?_) (λhh=>absurd (by trivial) hh));refine gY rfl (fad rfl y2v (gY rfl ?_));replace J:=J.ext q5;refine z0g rfl J rfl u3f (gY rfl (fad rfl y2v (gY rfl ?_)));replace M:=M.ext q5;refine z0g rfl M rfl u3f (gY rfl ?_);replace h1:=a0.ext (q1.z4 q2 O U q5);replace Z:=a1.ext (q1.z4 q2 O U q5);refine cl (ev2 rfl rfl) (mkC func53) (u4y _ _ D.cs I.cs _ h1.c Z.c) rfl ?_;rintro _ w6 ⟨rfl,q6⟩;have z6:=q6.size;refine pkt rfl rfl (mv rfl (gs 21 rfl (λg1=>?_) (λhh=>absurd (by exact a3) hh)));refine gY rfl (fad rfl y5b (gY rfl ?_));replace J:=J.ext q6;refine z0g rfl J rfl z5t (gY rfl (fad rfl y5b (gY rfl ?_)));replace M:=M.ext q6;refine z0g rfl M rfl z5t (gY rfl ?_);replace h1:=a0.ext (q1.z5 q2 O U q5 q6);replace Z:=a1.ext (q1.z5 q2 O U q5 q6);refine cl (ev2 rfl rfl) j3p (y5f _ _ D.hs I.hs _ h1.h Z.h a7) rfl ?_;rintro _ w7 ⟨rfl,q7⟩;have z7:=q7.size;refine pkt rfl rfl (mv rfl (gs 28 rfl (λg2=>?_) (λhh=>absurd (by exact a4) hh)));refine gY rfl (fad rfl z8v (gY rfl ?_));replace J:=J.ext q7;refine z0g rfl J rfl z5t (gY rfl (fad rfl z8v (gY rfl ?_)));replace M:=M.ext q7;refine z0g rfl M rfl z5t (gY rfl ?_);replace h1:=a0.ext (q1.z6 q2 O U q5 q6 q7);replace Z:=a1.ext (q1.z6 q2 O U q5 q6 q7);refine cl (ev2 rfl rfl) j3p (y5f _ _ D.fs I.fs _ h1.f Z.f a8) rfl ?_;rintro _ w8 ⟨rfl,q8⟩;have z8:=q8.size;exact pkt rfl rfl (asg rfl (z6y rfl .nil (q5.n3 q6 q7 q8)));intro w9 q9;have z9:=q9.size;refine tn (rt (r1 results17 rfl ?_));exact⟨_,rfl,by simp[a3,a4,a6],(q1.z4 q2 O U q9)⟩
theorem v9b (v1 v2:Value)(D O:List IQ)(w0:World)(h1:Sl z5p w0 v1 D)(U:Sl z5p w0 v2 O)(I:IqAt w0 D)(J:IqAt w0 O)(hl:D.length=O.length)(he:∀i,i<D.length->(D.getD i iq0).2=(O.getD i iq0).2/\(D.getD i iq0).2.length<=100000):Rets prog 104 #[v1,v2,.func (.func 46) #[] #[]] w0 λr w'=>r=.bool true/\Fr [] w0 w':=by
 obtain⟨A1,k1,rfl,a9⟩:=id h1.form;obtain⟨A2,k2,rfl,b0⟩:=id U.form;have a6:=h1.len_le;unfold maxLen at a6;refine we [(0,.slice A1 D.length k1),(1,.slice A2 O.length k2),(2,.func (.func 46) #[] #[])] func104 rfl ntmps104 rfl (.c3 rfl rfl rfl) ?_;have a4:=h1;have a5:=U;have a2:=I;have a3:=J;refine sr (asg rfl (nn (sq (sr (mv rfl (lnS rfl underlying30 (mv rfl (lnS rfl underlying30 (ne' rfl rfl (nn (cd rfl (λc0=>?_) (λc0=>?_))))))))))));exfalso;omega;refine sk (tn (sq (sr (mv rfl (lnS rfl underlying30 (mv rfl (nn (bl ?_))))))));refine lpK (ι:=Nat) [(1,_),(2,_),(15,_),(16,_)] (λi=>[(17,.int .i64 (i:Int))]) (λi w'=>Fr [] w0 w'/\i<=D.length) (λi=>D.length-i) 0 (.c5 rfl rfl rfl rfl rfl) ⟨Fr.refl _ _,Nat.zero_le _⟩ ?_;rintro i w1 ⟨M,hi⟩;have z1:=M.size;refine kpC [(1,_),(2,_),(15,_),(16,_),(17,_)] (.c5 rfl rfl rfl rfl rfl) (sr (lt' rfl rfl (nn (sq (cd rfl (λc1=>?_) (λc1=>?_))))));have a1:=he i (by omega);refine sk (tn (sq (bl (sr (mv rfl ?_)))));replace h1:=a4.ext M;refine z1a (iq0) rfl h1 rfl y2z z1d (λa7 Z=>?_);refine z1g rfl (Z _ h1) z5t (asg rfl (asg rfl (nn (sr (mv rfl (mv rfl ?_))))));replace U:=a5.ext M;refine z1a (iq0) rfl U rfl y2z z1d (λa8 a0=>?_);refine z1g rfl (a0 _ U) z5t (asg rfl (nn (sr (mv rfl (mv rfl (mv rfl ?_))))));replace I:=a2.ext M;replace J:=a3.ext M;refine clv (us:=[]) (ws:=[]) rfl (ev2 rfl rfl) j3p (v8l _ _ (D.getD i iq0).2 (O.getD i iq0).2 _ (z1u I i) (z1u J i) a1.2 a1.1) rfl (by intro g e;cases e) ?_;rintro _ w2 ⟨rfl,q2⟩;have z2:=q2.size;refine nt' rfl (kpL [(1,_),(2,_),(15,_),(16,_),(17,_),(30,_)] (.c6 rfl rfl rfl rfl rfl rfl) (nn (cd rfl (λc2=>?_) (λc2=>?_))));exact absurd c2 (by decide);refine sk (bn' (tn (rg (z0v rfl rfl (wi6 (by omega)) (mv rfl (nl ?_))))));exact lpE (i+1) (.c5 rfl rfl rfl rfl rfl) ⟨(M.n1 q2),by omega⟩ (by omega);obtain rfl:i=D.length:=by omega
 refine ex (te (te (xh (tn (sr (asg rfl (kpL [(6,_)] (.cons rfl .nil) (nn (rt (r1 results104 rfl ?_))))))))));exact⟨_,rfl,rfl,M⟩
theorem x9c {D I:List IQ}{J M:Nat}(h1:J<=D.length)(h2:M<=I.length)(O:(plB D).take J=trimB (plB D))(U:(plB I).take M=trimB (plB I))(Z:trimB (plB D)=trimB (plB I)):(D.take J).length=(I.take M).length/\∀i,((D.take J).getD i iq0).2=((I.take M).getD i iq0).2:=by
 have e:plB (D.take J)=plB (I.take M):=by
  show (D.take J).map Prod.snd=(I.take M).map Prod.snd;rw[List.map_take,List.map_take];exact O.trans (Z.trans U.symm)
 refine⟨by have:=congrArg List.length e;simpa only[plB,List.length_map] using this,λi=>?_⟩;rw[<-z3m,<-z3m,e]
set_option maxHeartbeats 1000000 in
theorem y7x (v1 v2:Value)(M Z:List IQ)(w0:World)(h1:Sl z5p w0 v1 M)(D:Sl z5p w0 v2 Z)(J:IqAt w0 M)(I:IqAt w0 Z)(b2:M.length<=40)(b3:Z.length<=40)(h4:z9j M)(he:trimB (plB M)=trimB (plB Z)):Rets prog 103 #[v1,v2] w0 λr w'=>r=.bool true/\Fr [] w0 w':=by
 obtain⟨A1,c1,rfl,b4,a8,a6⟩:=id h1;obtain⟨A2,c2,rfl,b5,a9,a7⟩:=id D;clear a6 a7;unfold maxLen at a8 a9;refine we [(0,.slice A1 M.length c1),(1,.slice A2 Z.length c2)] func103 rfl ntmps103 rfl (.c2 rfl rfl) ?_;have b0:=h1;have b1:=D;have b6:=J;have b7:=I;refine sr (asg rfl (nn (sq ?_)));intro a h;refine z0i none (λwb w'=>Fr [] wb w') z2o ?_;intro w1 q1;have z1:=q1.size;replace h1:=h1.ext q1;replace D:=D.ext q1;replace J:=J.ext q1;replace I:=I.ext q1;have hC:Fr [] w1 w1:=Fr.refl _ _;have a0:=h1;have a1:=D;have a4:=J;have a5:=I;refine z0e 0 h rfl rfl λa h=>z0e 1 h rfl rfl λa h=>z0e 4 h rfl rfl λa h=>z0e 5 h rfl rfl λa h=>z0d 2 rfl ?_;refine z0n h (z0a rfl z0f) (mkC func105) (y8e _ M _ h1 J) ?_;rintro _ w2 ⟨m1,rfl,O,a2,q2⟩ a h;have z2:=q2.size;replace D:=D.ext q2;replace I:=I.ext q2;replace hC:=hC.next q2;refine z0b ?_;refine v5t (p:=m1) 3 hC h wn rfl rfl y2z (by omega) (by omega) (by omega) rfl rfl λa h=>z0d 6 rfl ?_;refine z0n h (z0a rfl z0f) (mkC func105) (y8e _ Z _ D I) ?_;rintro _ w3 ⟨m2,rfl,U,a3,q3⟩ a h;have z3:=q3.size;replace h1:=h1.ext (q2.n1 q3);replace D:=D.ext q3;replace J:=J.ext (q2.n1 q3);replace I:=I.ext q3;replace hC:=hC.next q3;refine z0b ?_;refine v5t (p:=m2) 7 hC h wn rfl rfl y2z (by omega) (by omega) (by omega) rfl rfl λa h=>z0d 8 rfl ?_;refine z0n h (z0a rfl (z0a rfl (z0a rfl z0f))) (mkC func104) (v9b _ _ (M.take m1) (Z.take m2) _ (h1.take rfl O (by omega) (by unfold maxLen;omega) (λ_=>rfl)) (D.take rfl U (by omega) (by unfold maxLen;omega) (λ_=>rfl)) (y5g rfl J) (y5g rfl I) (x9c O U a2 a3 he).1 (λi _=>⟨(x9c O U a2 a3 he).2 i,Nat.le_trans (z3g (λq q4=>h4 q (List.mem_of_mem_take q4)) i) (by omega)⟩)) ?_;rintro _ w4 ⟨rfl,q4⟩ a h;have z4:=q4.size;replace hC:=hC.next q4;refine z0b ?_;refine z0d 9 rfl ?_;refine z0r h rfl λa h=>?_;refine z0b ?_;refine z0q ?_;clear hC a0 a1 a4 a5;refine bk (h.sub (L':=[(4,_)]) (.cons rfl .nil)) (tn (rt (r1 results103 rfl ?_)));exact⟨_,rfl,rfl,(q1.n3 q2 q3 q4)⟩
theorem v6r (D I:BdQ)(w0:World)(h1:BdAt w0 D)(O:BdAt w0 I)(a5:D.fs.length<=40)(a6:I.fs.length<=40)(a7:z9j D.fs)(a2:D.bs.length<=40)(a3:I.bs.length<=40)(a4:z9j D.bs)(ef:trimB (plB D.fs)=trimB (plB I.fs))(eb:trimB (plB D.bs)=trimB (plB I.bs)):Rets prog 55 #[.agg #[.slice D.f.1 D.f.2.1 D.f.2.2,.slice D.b.1 D.b.2.1 D.b.2.2],.agg #[.slice I.f.1 I.f.2.1 I.f.2.2,.slice I.b.1 I.b.2.1 I.b.2.2]] w0 λr w'=>r=.bool true/\Fr [] w0 w':=by
 refine we [(0,.agg #[.slice D.f.1 D.f.2.1 D.f.2.2,.slice D.b.1 D.b.2.1 D.b.2.2]),(1,.agg #[.slice I.f.1 I.f.2.1 I.f.2.2,.slice I.b.1 I.b.2.1 I.b.2.2])] func55 rfl ntmps55 rfl (.c2 rfl rfl) ?_;have a0:=h1;have a1:=O;refine sr (bx rfl rfl rfl (λg2 w1 a8 J q1 z1=>(bx rfl rfl rfl (λg3 w2 a9 M Z z2=>(asg rfl (nn (sr (asg rfl (nn (sq ?_))))))))));refine y6f (r:=4) (L':=[]) ((True\/False)) .nil ?_ ?_;refine mv rfl (fad rfl y2y ?_);replace J:=J.ext Z;refine z0g rfl J rfl x0z (fad rfl y2y (z0g rfl M rfl x0z ?_));replace h1:=a0.ext (q1.n1 Z);replace O:=a1.ext (q1.n1 Z);refine clv (us:=[]) (ws:=[]) rfl (ev2 rfl rfl) (mkC func103) (y7x _ _ D.fs I.fs _ h1.f O.f h1.fi O.fi a5 a6 a7 ef) rfl (by intro g e;cases e) ?_;rintro _ w3 ⟨rfl,U⟩;have z3:=U.size;refine mv rfl (gs 12 rfl (λg0=>?_) (λg0=>?_));refine gY rfl (mv rfl (gY rfl (fad rfl z9u (gY rfl ?_))));replace J:=J.ext U;refine z0g rfl J rfl x0z (gY rfl (fad rfl z9u (gY rfl ?_)));replace M:=M.ext U;refine z0g rfl M rfl x0z (gY rfl ?_);replace h1:=a0.ext (q1.n2 Z U);replace O:=a1.ext (q1.n2 Z U);refine clv (us:=[]) (ws:=[]) rfl (ev2 rfl rfl) (mkC func103) (y7x _ _ D.bs I.bs _ h1.b O.b h1.bi O.bi a2 a3 a4 eb) rfl (by intro g e;cases e) ?_;rintro _ w4 ⟨rfl,q4⟩;have z4:=q4.size;exact pkt rfl rfl (asg rfl (z6y rfl .nil (U.n1 q4)));exact gN rfl rfl (gN rfl rfl (gN rfl rfl (gN rfl rfl (gN rfl rfl (gN rfl rfl (pkf rfl rfl (asg rfl (z6y rfl .nil U))))))));intro w5 q5;have z5:=q5.size;refine tn (rt (r1 results55 rfl ?_));exact⟨_,rfl,rfl,(q1.n2 Z q5)⟩
theorem StSz.ths {s:StQ}(h:StSz s)(y n:Nat):((s.fb.ts.getD y tq0).2.getD n lq0).ths.length<=100000:=by
 by_cases hy:y<s.fb.ts.length;by_cases hn:n<(s.fb.ts.getD y tq0).2.length;exact((h.tb _ (z0u (d:=tq0) hy)).2 _ (z0u (d:=lq0) hn)).1;rw[List.getD,List.getElem?_eq_none (by omega)];exact Nat.zero_le _;rw[show s.fb.ts.getD y tq0=tq0 by rw[List.getD,List.getElem?_eq_none (by omega)];rfl];exact Nat.zero_le _
theorem sz1:z1p prog 1 1:=λ_=>by kernel_rfl
theorem sz2:z1p prog 2 1:=λ_=>by kernel_rfl
set_option maxHeartbeats 1000000 in
theorem u0k (D I:StQ)(w0:World)(h1:StAt w0 D)(U:StAt w0 I)(sz1:StSz D)(sz2:StSz I)(er:D.rk=I.rk)(ef:trimB (plB D.q.fs)=trimB (plB I.q.fs))(eb:trimB (plB D.q.bs)=trimB (plB I.q.bs))(ey:D.ys.map YQ.p=I.ys.map YQ.p)(a2:D.fb.p=I.fb.p):Rets prog 20 #[.agg #[.int .i64 D.rk,.slice D.q.f.1 D.q.f.2.1 D.q.f.2.2,.slice D.q.b.1 D.q.b.2.1 D.q.b.2.2,.slice D.yv.1 D.yv.2.1 D.yv.2.2,.slice D.fb.t.1 D.fb.t.2.1 D.fb.t.2.2,.slice D.fb.c.1 D.fb.c.2.1 D.fb.c.2.2,.slice D.fb.h.1 D.fb.h.2.1 D.fb.h.2.2,.slice D.fb.f.1 D.fb.f.2.1 D.fb.f.2.2],.agg #[.int .i64 I.rk,.slice I.q.f.1 I.q.f.2.1 I.q.f.2.2,.slice I.q.b.1 I.q.b.2.1 I.q.b.2.2,.slice I.yv.1 I.yv.2.1 I.yv.2.2,.slice I.fb.t.1 I.fb.t.2.1 I.fb.t.2.2,.slice I.fb.c.1 I.fb.c.2.1 I.fb.c.2.2,.slice I.fb.h.1 I.fb.h.2.1 I.fb.h.2.2,.slice I.fb.f.1 I.fb.f.2.1 I.fb.f.2.2]] w0 λr w'=>r=.bool true/\Fr [] w0 w':=by
 have a5:D.ys.length=I.ys.length:=by have:=congrArg List.length ey;simpa only[List.length_map] using this
 have a4:∀i,i<D.ys.length->(D.ys.getD i yq0).p=(I.ys.getD i yq0).p:=λi hi=>by
  have:=congrArg (λl=>l.getD i yn0) ey;simp only[List.getD,List.getElem?_map]at this;rw[List.getElem?_eq_getElem hi,List.getElem?_eq_getElem (by omega)]at this;rw[List.getD,List.getD,List.getElem?_eq_getElem hi,List.getElem?_eq_getElem (by omega)];exact this
 have a3:∀y n,((D.fb.ts.getD y tq0).2.getD n lq0).ths.length<=100000:=sz1.ths;refine we [(0,.agg #[.int .i64 D.rk,.slice D.q.f.1 D.q.f.2.1 D.q.f.2.2,.slice D.q.b.1 D.q.b.2.1 D.q.b.2.2,.slice D.yv.1 D.yv.2.1 D.yv.2.2,.slice D.fb.t.1 D.fb.t.2.1 D.fb.t.2.2,.slice D.fb.c.1 D.fb.c.2.1 D.fb.c.2.2,.slice D.fb.h.1 D.fb.h.2.1 D.fb.h.2.2,.slice D.fb.f.1 D.fb.f.2.1 D.fb.f.2.2]),(1,.agg #[.int .i64 I.rk,.slice I.q.f.1 I.q.f.2.1 I.q.f.2.2,.slice I.q.b.1 I.q.b.2.1 I.q.b.2.2,.slice I.yv.1 I.yv.2.1 I.yv.2.2,.slice I.fb.t.1 I.fb.t.2.1 I.fb.t.2.2,.slice I.fb.c.1 I.fb.c.2.1 I.fb.c.2.2,.slice I.fb.h.1 I.fb.h.2.1 I.fb.h.2.2,.slice I.fb.f.1 I.fb.f.2.1 I.fb.f.2.2])] func20 rfl ntmps20 rfl (.c2 rfl rfl) ?_;have a0:=h1;have a1:=U;refine sr (bx rfl rfl rfl (λg2 w1 a6 J q1 z1=>(bx rfl rfl rfl (λg3 w2 a7 M Z z2=>(asg rfl (nn (sr (asg rfl (nn (sq ?_))))))))));refine y6f (r:=4) (L':=[]) (((((D.rk=I.rk)\/False)\/False)\/False)) .nil ?_ ?_;refine fad rfl y7q ?_;replace J:=J.ext Z;refine z0g rfl J rfl na3 (fad rfl y7q (z0g rfl M rfl na3 (eq' rfl rfl (mv rfl (gs 11 rfl (λg0=>?_) (λg0=>?_))))));refine gY rfl (fad rfl y4m (gY rfl (z1s (vs:=[_,_]) rfl J z5s rfl (gY rfl (fad rfl y4m (gY rfl (z1s (vs:=[_,_]) rfl M z5s rfl (gY rfl ?_))))))));replace h1:=a0.ext (q1.n1 Z);replace U:=a1.ext (q1.n1 Z);refine cl (ev2 rfl rfl) (mkC func55) (v6r D.q I.q _ h1.b U.b sz1.bf sz2.bf sz1.f4 sz1.bb sz2.bb sz1.b4 ef eb) rfl ?_;rintro _ w3 ⟨rfl,O⟩;have z3:=O.size;refine pkt rfl rfl (mv rfl (gs 18 rfl (λg1=>?_) (λg1=>?_)));refine gY rfl (fad rfl z9t (gY rfl ?_));replace J:=J.ext O;refine z0g rfl J rfl y0i (gY rfl (fad rfl z9t (gY rfl ?_)));replace M:=M.ext O;refine z0g rfl M rfl y0i (gY rfl (mv rfl (gY rfl ?_)));replace h1:=a0.ext (q1.n2 Z O);replace U:=a1.ext (q1.n2 Z O);refine cl (ev3 rfl rfl rfl) (mkC func56) (u0m _ _ D.ys I.ys _ h1.y U.y h1.ya U.ya a5 a4) rfl ?_;rintro _ w4 ⟨rfl,q4⟩;have z4:=q4.size;refine pkt rfl rfl (mv rfl (gs 26 rfl (λg2=>?_) (λg2=>?_)));refine gY rfl (fad rfl z8n (gY rfl ?_));replace J:=J.ext q4;refine z1s (vs:=[_,_,_,_]) rfl J x5i rfl (gY rfl (fad rfl z8n (gY rfl ?_)));replace M:=M.ext q4;refine z1s (vs:=[_,_,_,_]) rfl M x5i rfl (gY rfl ?_);replace h1:=a0.ext (q1.n3 Z O q4);replace U:=a1.ext (q1.n3 Z O q4);refine cl (ev2 rfl rfl) (mkC func17) (v3d D.fb I.fb _ h1.f U.f a3 sz1.hs sz1.fl a2) rfl ?_;rintro _ w5 ⟨rfl,q5⟩;have z5:=q5.size;exact pkt rfl rfl (asg rfl (z6y rfl .nil (O.n2 q4 q5)));exact gN rfl rfl (gN rfl rfl (gN rfl rfl (gN rfl rfl (gN rfl rfl (pkf rfl rfl (asg rfl (z6y rfl .nil (O.n1 q4))))))));refine gN rfl rfl (gN rfl rfl (gN rfl rfl (gN rfl rfl (gN rfl rfl (gN rfl rfl (pkf rfl rfl (mv rfl (gN rfl rfl (gN rfl rfl (gN rfl rfl (gN rfl rfl ?_)))))))))));exact gN rfl rfl (pkf rfl rfl (asg rfl (z6y rfl .nil O)));refine gN rfl rfl (gN rfl rfl (gN rfl rfl (gN rfl rfl (gN rfl rfl (pkf rfl rfl (mv rfl (gN rfl rfl (gN rfl rfl (gN rfl rfl (gN rfl rfl (gN rfl rfl ?_)))))))))));exact gN rfl rfl (pkf rfl rfl (mv rfl (gN rfl rfl (gN rfl rfl (gN rfl rfl (gN rfl rfl (gN rfl rfl (pkf rfl rfl (asg rfl (z6y rfl .nil (Fr.refl _ _)))))))))));intro w6 q6;have z6:=q6.size;refine tn (rt (r1 results20 rfl ?_));exact⟨_,rfl,by simp[er],(q1.n2 Z q6)⟩
end Go.Proofs.YtpgdchkdlgkmgaaGreatDoor
namespace Go.G08
open Go.Lw Go.G21
theorem y5h:∀l:Bed,trimB (trimB l)=trimB l
 | []=>rfl
 | s::l=>by
  by_cases h:trimB l=[]/\s=[]
  ·rw[show trimB (s::l)=[] from if_pos h];rfl
  rw[show trimB (s::l)=s::trimB l from if_neg h]
  show (if trimB (trimB l)=[]/\s=[] then [] else s::trimB (trimB l))=_
  rw[y5h l,if_neg h]
def TrB (B:Bd):Prop:=trimB B.f=B.f/\trimB B.b=B.b
theorem x6f (B:Bd)(b n:Int)(s:List LId):TrB (B.put b n s):=by
 unfold Bd.put y6k TrB;split<;>exact⟨y5h _,y5h _⟩
theorem j3i {p q:MSt}{y D en:Int}(e:y0g p y D en=.ok q):q.B=p.B:=by
 unfold y0g at e;split at e;cases e;cases e;rfl
theorem v1k {p q:MSt}{o:MOp}{D st:List LId}(e:y3w p o D st=.ok q):TrB q.B:=by
 unfold y3w at e;split at e;cases e;split at e;cases e;cases e;exact x6f ..
theorem u8x {p q:MSt}{d:Int}(e:z8j p d=.ok q):q.B=p.B:=by
 unfold z8j at e;split at e;cases e;split at e;cases e;cases e;rfl
theorem v6t:∀ {n:Nat} {p q:MSt} {r:Int},z6m n p r=.ok q->q.B=p.B
 | 0,p,q,r,e=>by cases e;rfl
 | n+1,p,q,r,e=>by
  unfold z6m at e
  split at e
  ·cases e;rfl
  split at e
  ·cases e
  rename_i I D
  exact(v6t e).trans (u8x D)
theorem j1u {p q:MSt}{o:MOp}(h:TrB p.B)(e:doM p o=.ok q):TrB q.B:=by
 have s:∀ {x:MSt},x.B=p.B->TrB x.B:=λD=>by rw[D];exact h
 unfold doM at e;split at e;cases e;unfold opM at e;split at e;unfold inM at e;split at e;cases e;cases e;exact s rfl;split at e;unfold v0s at e;split at e;cases e;cases e;exact s rfl;split at e;exact s (v6t e);split at e;unfold y3c at e;split at e;cases e;split at e;cases e;exact v1k e;split at e;unfold y2e at e;split at e;cases e;split at e;cases e;split at e;cases e;exact v1k e;split at e;unfold y6n at e;split at e;cases e;exact s (j3i e);split at e;unfold z9y at e;repeat (split at e;· cases e)
 cases e;exact x6f ..;unfold y5p at e;split at e;cases e;cases e;exact x6f ..
theorem j3q {p q:MSt}{o:MOp}(h:MInv p)(e:doM p o=.ok q):q.cr.length<=p.cr.length+5120:=by
 unfold doM at e;split at e;cases e;exact v3e h.B e
def nrm (p:MSt):MSt:=⟨p.rk,p.B,p.ys,p.tb,z9z p.cr,z9s p.fa⟩
theorem z8d {p:MSt}(h:MVal p):MVal (nrm p):=by
 have I:=z2q p.cr;have D:=z2v p.fa;refine⟨⟨h.inv.rk,h.inv.B,h.inv.ly,h.inv.lt,h.inv.yn,h.inv.has,?_,h.inv.all,λc J=>h.inv.cv c (I.mem_iff.1 J)⟩,h.yv,h.tab,λi M=>?_,λi M=>h.fa i (D.mem_iff.1 M),⟨λc J=>h.cr.has c (I.mem_iff.1 J),?_⟩⟩;show p.B.flat.length+(z9s p.fa).length<=_;rw[D.length_eq];exact h.inv.cnt;show (p.B.flat++z9s p.fa++y1c p.tb).count i=1;rw[<-h.once i M];simp only[List.count_append];rw[D.count_eq];exact(I.map λc=>(c.a,c.b)).nodup_iff.2 h.cr.nd
structure StP (s:StQ) (p:MSt) (n:Nat):Prop where
  e:s.p=stM p
  v:MVal p
  t:TrB p.B
  c:p.cr.length<=n*5120
theorem StP.mono {s:StQ}{p:MSt}{n m:Nat}(h:StP s p n)(D:n<=m):StP s p m:=⟨h.e,h.v,h.t,Nat.le_trans h.c (Nat.mul_le_mul_right _ D)⟩
theorem x6t (p:MSt):(nrm p).cr.length=p.cr.length:=(z2q p.cr).length_eq
theorem StP.do {s s':StQ}{p q:MSt}{o:MOp}{n:Nat}(h:StP s p n)(e:doM (nrm p) o=.ok q)(D:s'.p=stM q):StP s' q (n+1):=
 ⟨D,u4d (z8d h.v) e,j1u (p:=nrm p) h.t e,by have:=j3q (z8d h.v).inv e;have:=h.c;rw[x6t] at *;rw[Nat.add_mul];omega⟩
theorem StP.rkE {s:StQ}{p:MSt}{n:Nat}(h:StP s p n):s.rk=p.rk:=congrArg St.rk h.e
theorem StP.BE {s:StQ}{p:MSt}{n:Nat}(h:StP s p n):s.q.p=p.B:=congrArg St.B h.e
theorem StP.ysE {s:StQ}{p:MSt}{n:Nat}(h:StP s p n):s.ys.map YQ.p=p.ys:=congrArg St.ys h.e
theorem StP.tbE {s:StQ}{p:MSt}{n:Nat}(h:StP s p n):z2a s.fb.ts=p.tb:=congrArg (λx=>x.fb.t) h.e
theorem StP.csE {s:StQ}{p:MSt}{n:Nat}(h:StP s p n):s.fb.cs=z9z p.cr:=congrArg (λx=>x.fb.c) h.e
theorem StP.hsE {s:StQ}{p:MSt}{n:Nat}(h:StP s p n):s.fb.hs=(z2w p.B p.rk).map Hd.id:=congrArg (λx=>x.fb.h) h.e
theorem StP.fsE {s:StQ}{p:MSt}{n:Nat}(h:StP s p n):s.fb.fs=z9s p.fa:=congrArg (λx=>x.fb.f) h.e
theorem StP.ly {s:StQ}{p:MSt}{n:Nat}(h:StP s p n):s.ys.length=6:=by
 have:=congrArg List.length h.ysE;rw[List.length_map]at this;rw[this];exact h.v.inv.ly
theorem StP.lt {s:StQ}{p:MSt}{n:Nat}(h:StP s p n):s.fb.ts.length=6:=by
 have:=congrArg List.length h.tbE;rw[z2a,List.length_map]at this;rw[this];exact h.v.inv.lt
theorem StP.yE {s:StQ}{p:MSt}{n:Nat}(h:StP s p n){i:Nat}(D:i<6):(s.ys.getD i yq0).p=p.ys.getD i yn0:=by
 rw[<-h.ysE,List.getD,List.getD,List.getElem?_map,List.getElem?_eq_getElem (by rw[h.ly];exact D)];rfl
theorem StP.hl {s:StQ}{p:MSt}{n:Nat}(h:StP s p n):s.fb.hs.length<=320:=by
 rw[h.hsE,List.length_map,(y7o _ _).length_eq,y3r];exact y5n h.v.inv.B
theorem StP.fl {s:StQ}{p:MSt}{n:Nat}(h:StP s p n):s.fb.fs.length<=2048:=by
 rw[h.fsE,(z2v _).length_eq];have:=h.v.inv.cnt;have:=h.v.inv.all;omega
theorem v7g:∀(T:Tb) (y:Nat),z2t T y<=z4v T
 | [],y=>Nat.zero_le _
 | r::T,0=>Nat.le_add_right _ _
 | r::T,y+1=>Nat.le_trans (v7g T y) (Nat.le_add_left _ _)
theorem StP.cn {s:StQ}{p:MSt}{n:Nat}(h:StP s p n):(s.fb.cs.map cxK).Nodup:=by
 rw[h.csE];exact((z2q p.cr).map _).nodup_iff.2 h.v.cr.nd
def StK (U:List Nat)(w:World)(s:StQ):Prop:=∀(S:List Nat) (w':World),Fr S w w'->(∀k∈S,k<w.heap.size->∃T cs,Blk w k T cs/\T∉U)->StAt w' s
theorem StK.at {U:List Nat}{w:World}{s:StQ}(h:StK U w s):StAt w s:=h [] w (Fr.refl _ _) λk D=>by cases D
theorem StK.fr {U:List Nat}{w w':World}{s:StQ}{S:List Nat}(h:StK U w s)(hf:Fr S w w')(I:∀k∈S,k<w.heap.size->∃T cs,Blk w k T cs/\T∉U):StK U w' s:=λS2 w2 D O=>h (S++S2) w2 (hf.trans D) λk Z hl=>by
 by_cases hm:k∈S
 ·exact I k hm hl
 obtain⟨T,cs,M,J⟩:=O k ((List.mem_append.1 Z).resolve_left hm) (Nat.lt_of_lt_of_le hl hf.size)
 exact⟨T,cs,(hf.block k hl hm).symm.trans M,J⟩
theorem StK.ext {U:List Nat}{w w':World}{s:StQ}(h:StK U w s)(hf:Fr [] w w'):StK U w' s:=h.fr hf λk D=>by cases D
theorem StO.k {τ:TyK}{Tc base:Nat}{w:World}{s:StQ}(h:StO τ Tc base w s):StK [τ.S,τ.I,τ.Y,τ.P,τ.T,τ.L,Tc] w s:=λS w' hf hd=>by
 have D:Fr (S.filter λk=>decide (k<w.heap.size)) w w':=hf.weak λk J hl=>List.mem_filter.2 ⟨J,by simpa using hl⟩
 have o:∀T',T'∈[τ.S,τ.I,τ.Y,τ.P,τ.T,τ.L,Tc]->OffT w T' (S.filter λk=>decide (k<w.heap.size)):=λT' I k J=>by
  obtain⟨M,O⟩:=List.mem_filter.1 J
  obtain⟨T,cs,Z,U⟩:=hd k M (by simpa using O)
  exact⟨T,cs,Z,λe=>U (e▸I)⟩
 exact StO.at (base:=base) (τ:=τ) (Tc:=Tc) ⟨BdO.tf h.b D (o _ (by simp)) (o _ (by simp)),h.y.tf D (o _ (by simp)) (o _ (by simp)),h.t.tf D (o _ (by simp)) (o _ (by simp)) (o _ (by simp)) (o _ (by simp)),z1w h.c D (o _ (by simp)),z1w h.h D (o _ (by simp)),z1w h.f D (o _ (by simp))⟩
def u4v (p:MSt)(o:MOp):MSt:=match doM (nrm p) o with
  | .ok q=>q
  | .error _=>p
def sOf (l:List MOp)(i:Nat):MSt:=(l.take i).foldl u4v start
theorem v9v {l:List MOp}{i:Nat}(h:i<l.length):sOf l (i+1)=u4v (sOf l i) (l.getD i op0):=by
 unfold sOf;rw[List.take_add_one,List.getElem?_eq_getElem h,List.getD,List.getElem?_eq_getElem h,List.foldl_append];rfl
theorem y1v {D:List MOp}{i:Nat}(h:i<D.length:=by omega):sOf (D.map ofO) (i+1)=u4v (sOf (D.map ofO) i) (ofO (D.getD i op0)):=by
 rw[v9v (by rw[List.length_map];exact h),List.getD,List.getD,List.getElem?_map,List.getElem?_eq_getElem h];rfl
theorem x6h {p q:MSt}{o:MOp}(h:doM (nrm p) o=.ok q):u4v p o=q:=by unfold u4v;rw[h]
theorem y8k {p:MSt}{o:MOp}{e:Int}(h:doM (nrm p) o=.error e):u4v p o=p:=by unfold u4v;rw[h]
theorem u1z:TrB start.B:=⟨rfl,rfl⟩
end Go.G08
namespace Go.Proofs.YtpgdchkdlgkmgaaGreatDoor
open Go.Lw Go.G21 Go.G08 _root_.Go.Proofs.Tryz
abbrev UK:List Nat:=[τd.S,τd.I,τd.Y,τd.P,τd.T,τd.L,109]
theorem x6u {s:StQ}{p:MSt}{n:Nat}(h:StP s p n)(hn:n<=10000):StSz s:=by
 have hB:BdOk s.q.p:=h.BE▸h.v.inv.B;have hc:=h.c;obtain⟨⟨O,U⟩,Z,h4⟩:=z3n hB;refine⟨O,U,Z,h4,h.ly,h.lt,λi=>?_,λt ht=>?_,Nat.le_trans h.fl (by omega),?_,Nat.le_trans h.hl (by omega)⟩;by_cases hi:i<6;have:=(h.v.inv.yn i hi).1;rw[<-h.yE hi]at this;have D:=this.2;split at D;exact Nat.le_trans D.2.1 (by omega);rw[D.2.2];omega;rw[List.getD,List.getElem?_eq_none (by rw[h.ly];omega)];exact Nat.zero_le _;obtain⟨y,hy,rfl⟩:=List.getElem_of_mem ht;have h6:=h.lt;have e:∀n,lpA p.tb y n=((s.fb.ts.getD y tq0).2.getD n lq0).p:=λn=>by rw[<-h.tbE];exact z7b ..
 have M:z2t p.tb y=(s.fb.ts.getD y tq0).2.length:=by rw[<-h.tbE];exact z2s ..
 have J:s.fb.ts.getD y tq0=s.fb.ts[y]:=by rw[List.getD,List.getElem?_eq_getElem hy];rfl
 rw[J]at M e;refine⟨by have:=v7g p.tb y;have:=h.v.inv.all;omega,λq hq=>?_⟩;obtain⟨k,hk,rfl⟩:=List.getElem_of_mem hq;have I:=(h.v.tabV.ok.rts y (by omega) k (by omega)).1;rw[e,List.getD,List.getElem?_eq_getElem hk]at I;exact⟨Nat.le_trans I.2.1.1 (by omega),Nat.le_trans I.2.1.2 (by omega)⟩;rw[h.csE,(z2q _).length_eq];omega
theorem v3f {s:StQ}{p:MSt}{n:Nat}(h:StP s p n):(⟨s.rk,⟨trimB (plB s.q.fs),trimB (plB s.q.bs)⟩,s.ys.map YQ.p,z2a s.fb.ts,s.fb.cs,s.fb.fs⟩:MSt)=nrm p:=by
 have hf:plB s.q.fs=p.B.f:=congrArg Bd.f h.BE;have D:plB s.q.bs=p.B.b:=congrArg Bd.b h.BE;unfold nrm;rw[h.rkE,hf,D,h.t.1,h.t.2,h.ysE,h.tbE,h.csE,h.fsE]
theorem y3j {s:StQ}{p:MSt}{n:Nat}(w0:World)(M:StAt w0 s)(h:StP s p n):Rets prog 16 #[.agg #[.int .i64 s.rk,.slice s.q.f.1 s.q.f.2.1 s.q.f.2.2,.slice s.q.b.1 s.q.b.2.1 s.q.b.2.2,.slice s.yv.1 s.yv.2.1 s.yv.2.2,.slice s.fb.t.1 s.fb.t.2.1 s.fb.t.2.2,.slice s.fb.c.1 s.fb.c.2.1 s.fb.c.2.2,.slice s.fb.h.1 s.fb.h.2.1 s.fb.h.2.2,.slice s.fb.f.1 s.fb.f.2.1 s.fb.f.2.2]] w0 λr w'=>r=.int .i64 0/\Fr [] w0 w':=
 v1m s w0 M (by rw[h.rkE];exact h.v.inv.rk) (h.BE▸h.v.inv.B) h.ly h.lt (λi D=>by
  rw[h.yE D]
  have:=h.v.inv.yn i D
  refine⟨this.1,?_⟩
  have e:=h.yE D
  have I:(s.ys.getD i yq0).ct=(p.ys.getD i yn0).ct:=congrArg Yn.ct e
  rw[I,this.2,<-h.tbE]
  exact congrArg _ (z2s ..)) (λw J=>y9h s.fb w J h.lt (h.tbE▸h.v.tabV) (by rw[h.tbE,h.csE];exact h.v.crs) (by rw[h.tbE,h.hsE,h.fsE];exact h.v.place)) (by rw[h.hsE,h.rkE,h.BE]) (Nat.le_trans h.hl (by omega))
set_option maxHeartbeats 2000000 in
theorem z9i (s:StQ)(p:MSt)(n:Nat)(o:MOp)(w0:World)(hS:StAt w0 s)(Z:StP s p n)(hn:n<=1000)(b6:StT w0):Rets prog 19 #[.agg #[.int .i64 s.rk,.slice s.q.f.1 s.q.f.2.1 s.q.f.2.2,.slice s.q.b.1 s.q.b.2.1 s.q.b.2.2,.slice s.yv.1 s.yv.2.1 s.yv.2.2,.slice s.fb.t.1 s.fb.t.2.1 s.fb.t.2.2,.slice s.fb.c.1 s.fb.c.2.1 s.fb.c.2.2,.slice s.fb.h.1 s.fb.h.2.1 s.fb.h.2.2,.slice s.fb.f.1 s.fb.f.2.1 s.fb.f.2.2],opV o] w0 λr w'=>(∃s':StQ,r=.tuple #[.agg #[.int .i64 s'.rk,.slice s'.q.f.1 s'.q.f.2.1 s'.q.f.2.2,.slice s'.q.b.1 s'.q.b.2.1 s'.q.b.2.2,.slice s'.yv.1 s'.yv.2.1 s'.yv.2.2,.slice s'.fb.t.1 s'.fb.t.2.1 s'.fb.t.2.2,.slice s'.fb.c.1 s'.fb.c.2.1 s'.fb.c.2.2,.slice s'.fb.h.1 s'.fb.h.2.1 s'.fb.h.2.2,.slice s'.fb.f.1 s'.fb.f.2.1 s'.fb.f.2.2],.int .i64 (x4a (doM (nrm p) o))]/\StO τd 109 w0.heap.size w' s'/\(∀q,doM (nrm p) o=.ok q->StP s' q (n+1))/\(x4a (doM (nrm p) o)≠0->s'=stZ)/\(x4a (doM (nrm p) o)=0->∃q,doM (nrm p) o=.ok q))/\Fr [] w0 w':=by
 have b5:=x6u Z (by omega);refine we [(0,.agg #[.int .i64 s.rk,.slice s.q.f.1 s.q.f.2.1 s.q.f.2.2,.slice s.q.b.1 s.q.b.2.1 s.q.b.2.2,.slice s.yv.1 s.yv.2.1 s.yv.2.2,.slice s.fb.t.1 s.fb.t.2.1 s.fb.t.2.2,.slice s.fb.c.1 s.fb.c.2.1 s.fb.c.2.2,.slice s.fb.h.1 s.fb.h.2.1 s.fb.h.2.2,.slice s.fb.f.1 s.fb.f.2.1 s.fb.f.2.2]),(1,opV o)] func19 rfl ntmps19 rfl (.c2 rfl rfl) ?_;have a5:=hS;refine sr (bx rfl rfl rfl (λg2 w1 d4 J q1 z1=>(bx rfl rfl rfl (λg3 w2 d5 M q2 z2=>(al y8v rfl rfl (λg4 w3 d6 D q3 z3=>(asg rfl (nn (sq (sr ?_))))))))));replace J:=J.ext (q2.n1 q3);refine z0k rfl J z8k ?_;replace hS:=a5.ext (q1.n2 q2 q3);refine cl (ev1 rfl) (mkC func16) (y3j _ hS Z) rfl ?_;rintro _ w4 ⟨rfl,q4⟩;have z4:=q4.size;refine asg rfl (nn (sr (mv rfl (ne' rfl rfl (nn (cd rfl (λc0=>?_) (λc0=>?_)))))));refine sr (z1v (cs:=[_,_,_,_,_,_,_,_]) z0f v6a z0s rfl ?_);refine mv rfl ?_;replace D:=D.ext q4;refine z0j (vs:=[_,_,_,_,_,_,_,_]) rfl rfl D z9w (λw5 D q5 z5=>(asg rfl (kpL [(4,_),(5,_)] (.c2 rfl rfl) (nn (rt (tr (rCT results19 rfl D z8k rfl ?_)))))));exact absurd rfl (by assumption);refine sk (tn (sr ?_));replace J:=J.ext q4;refine z0k rfl J z8k ?_;replace hS:=a5.ext (q1.n3 q2 q3 q4);replace D:=D.ext q4;refine cl (z0a rfl z0f) (mkC func25) (v5h s _ hS b5 Z.cn) rfl ?_;rintro _ w6 ⟨ka,m,rfl,U,b7⟩;have q6:=U.fr.fr;have z6:=q6.size;have a0:=D;have a9:m.p=nrm p:=b7.trans (v3f Z);have b3:MInv m.p:=by rw[a9];exact(z8d Z.v).inv
 have d0:=U.c.lt;have d1:=U;refine asg rfl (nn (sq (sq ?_)));intro a h;refine z0i (some 3) (λwb w'=>Fr [] wb w') z2o ?_;intro w7 q7;have z7:=q7.size;replace M:=M.ext (q3.n3 q4 q6 q7);replace U:=U.ext q7;have hC:Fr [] w7 w7:=Fr.refl _ _;have O:=M;have a3:=U;refine z0e 0 h rfl rfl λa h=>z0y 2 h rfl (λ_ hw=>O.ext hw) y1k rfl λa h=>z0d 1 rfl ?_;refine z0n h z0f (mkC func26) (v6p _) ?_;rintro _ w8 ⟨⟨gl,rfl,d7,hl⟩,q8⟩ a h;have z8:=q8.size;replace M:=M.ext q8;replace U:=U.ext q8;replace hC:=hC.next q8;refine z0b ?_;refine z0d 3 rfl ?_;have d3:=U.fr;refine z0n h (z0a rfl (z0a rfl (z0a rfl z0f))) (mkC func27) (u3b w4 { ka with wk:=w8 } m o gl _ U.mark b3 (b6.ext (q1.n3 q2 q3 q4)) hl) λ_ w9 hR a h=>?_;obtain⟨rfl,a1,m1,a8⟩:=hR.split;have z9:=a1.kp.size;simp only at z9;have q9:=a1.fr;rw[a9]at a8 h;refine z1n ?_;refine z0d 4 rfl ?_;refine z0r h rfl λa h=>?_;refine z1n ?_;refine z0q ?_;clear hC O a3;refine bk (h.sub (L':=[(4,_),(7,_),(8,_)]) (.c3 rfl rfl rfl)) (tn (sr (mv rfl (ne' rfl rfl (nn (cd rfl (λc1=>?_) (λc1=>?_)))))));have D:=a0.ext a1.fr;refine sr (z1v (cs:=[_,_,_,_,_,_,_,_]) z0f v6a z0s rfl ?_);refine mv rfl (z0j (vs:=[_,_,_,_,_,_,_,_]) rfl rfl D z9w (λd9 D b9 e1=>(asg rfl (nn (rt (tr (rCT results19 rfl D z8k rfl ?_)))))));exact⟨_,rfl,⟨stZ,rfl,u1v _ _,λq hq=>(by rw[z4j c1]at hq;cases hq),λ_=>rfl,λe=>absurd e c1⟩,(q1.z5 q2 q3 q4 q9 b9)⟩;obtain⟨b2,I⟩:=a8 (Classical.not_not.1 c1);have a4:=x8f (z8d Z.v).inv I;have a7:m1.cr.length<=100000000:=by have x:=j3q (z8d Z.v).inv I;have y:=Z.c;rw[x6t]at x;exact Nat.le_trans x (by omega)
 refine sk (tn (sr (mv rfl (cl (z0a rfl z0f) (mkC func28) (x3w w4 { ka with wk:=w8 } m1 _ b2 a4 a7) rfl ?_))));rintro _ e0 ⟨s',rfl,b4,b8,a2⟩;have e2:=a2.size;have D:=a0.ext a2;have a6:=D;refine z0j (vs:=[_,_,_,_,_,_,_,_]) rfl rfl D z9w (λc9 D b0 e3=>(asg rfl (nn (rt (rCT results19 rfl D z8k rfl ?_)))));have b1:Fr [] _ c9:=(Fr.refl _ _);exact⟨_,rfl,⟨s',by rw[I];rfl,((b4.off a6 (by decide) b0).ext b1).low (by omega),λq hq=>(by rw[I]at hq;cases hq;exact Z.do I b8),λe=>absurd (by rw[I];rfl) e,λ_=>⟨_,I⟩⟩,(q1.z5 q2 q3 q4 a2 b0)⟩
end Go.Proofs.YtpgdchkdlgkmgaaGreatDoor
