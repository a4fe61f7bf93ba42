/- Texts of the proof, joined. -/
import Derived.Laws.CopyRow
import Derived.Lib.AppendZerosOnto
import Derived.Test.YtkafbfjmcigaiaaGreatDoorRows
import Derived.Laws.RangeString
import Derived.Test.YtkafbfjmcigaiaaGreatDoorHB1
set_option linter.unusedVariables false
set_option linter.unusedSimpArgs false
set_option maxHeartbeats 4000000
namespace Go.G08
open Go.Lw Go.G21
abbrev Bed:=List<|List LId
structure Bd where
  f:Bed
  b:Bed
deriving DecidableEq
def z1x:Bed->Bed
  | []=>[]
  | s::l=>if z1x l=[]/\s=[] then [] else s::z1x l
def atB (l:Bed)(n:Int):List LId:=l.getD (n-1).toNat []
def Bd.at (B:Bd)(b n:Int):List LId:=if b=0 then atB B.f n else atB B.b n
def Bd.atC (B:Bd)(b n:Int):List LId:=if z3m b n=0 then B.at b n else []
def x8d (l:Bed)(n:Nat):Bed:=l++List.replicate (n-l.length) []
def y9a (l:Bed)(n:Nat)(s:List LId):Bed:=z1x (if n=0 then l else (x8d l n).set (n-1) s)
def Bd.put (B:Bd)(b n:Int)(s:List LId):Bd:=if b=0 then ⟨y9a B.f n.toNat s,z1x B.b⟩ else ⟨z1x B.f,y9a B.b n.toNat s⟩
def Bd.flat (B:Bd):List LId:=B.f.flatten++B.b.flatten
structure BdOk (B:Bd):Prop where
  lf:B.f.length<=40
  lb:B.b.length<=40
  ss:∀s∈B.f++B.b,s.length<=4
  nm:∀i∈B.flat,y2t i
  nd:B.flat.Nodup
structure BdW (B:Bd):Prop where
  lf:B.f.length<=40
  lb:B.b.length<=40
  ss:∀s∈B.f++B.b,s.length<=4
  nm:∀i∈B.flat,y2t i
theorem BdOk.w {B:Bd}(h:BdOk B):BdW B:=⟨h.lf,h.lb,h.ss,h.nm⟩
def z2b (b n r:Int):Int:=if z3m b n≠0\/¬(-4<=r/\r<=4) then 0 else if b=0 then 4*n+2 else 4*(n+r)
structure Hd where
  id:LId
  b:Int
  n:Int
  s:Int
deriving DecidableEq
def hd0:Hd:=⟨id0,0,0,0⟩
def hdS (b r:Int)(k:Nat)(x:LId):Hd:=⟨x,b,(k:Int)+1,z2b b ((k:Int)+1) r⟩
def hds (b r:Int)(l:Bed)(i:Nat):List Hd:=(List.range i).flatMap λk=>(l.getD k []).map<|hdS b r k
def x8l (B:Bd)(r:Int):List Hd:=hds 0 r B.f B.f.length++hds 1 r B.b B.b.length
def z9u (h:Hd):List Hd->List Hd
  | []=>[h]
  | x::l=>if h.s<x.s then h::x::l else x::z9u h l
def z6h (l:List Hd):List Hd:=l.foldl (λa h=>z9u h a) []
def z2m (B:Bd)(r:Int):List Hd:=z6h<|x8l B r
def btw (l:List Hd)(fr to:Int):List Pa:=
  if fr<to then (l.filter λh=>decide (fr<h.s/\h.s<to)).map λh=>⟨h.id,decide (h.b=1),1⟩
  else ((l.filter λh=>decide (to<h.s/\h.s<fr)).map λh=>⟨h.id,decide (h.b=1),0⟩).reverse
def x9c (d:Int)(x o:LId):Cx:=if d=0 then ⟨o,x,1⟩ else ⟨x,o,-1⟩
def y0d (r d:Int)(k:Nat):Int:=if d=0 then (k:Int)+1+r-1 else (k:Int)+1+r
def v5x (B:Bd)(r d:Int)(k:Nat):List Cx:=(B.b.getD k []).flatMap λx=>(B.atC 0<|y0d r d k).reverse.map<|x9c d x
def x2d (B:Bd)(r d:Int)(i:Nat):List Cx:=(List.range i).flatMap<|v5x B r d
def z2g (B:Bd)(r d:Int):List Cx:=if d=1 then (x2d B r d B.b.length).reverse else x2d B r d B.b.length
def stI (d:Int):Int:=if d=0 then -1 else 1
def y3d (B:Bd)(r d p:Int)(k:Nat):List Pa:=if p≠z2b 1 ((k:Int)+1) r+stI d/\p≠z2b 1 ((k:Int)+1) r+3*stI d then [] else (B.b.getD k []).map λx=>⟨x,true,1-d⟩
def z7u (B:Bd)(r d p:Int)(i:Nat):List Pa:=(List.range i).flatMap<|y3d B r d p
def z4q (B:Bd)(r d p:Int):List Pa:=if d=1 then (z7u B r d p B.b.length).reverse else z7u B r d p B.b.length
def z6q (a b:LId):Int:=if a.y<b.y then -1 else if b.y<a.y then 1 else if a.n<b.n then -1 else if b.n<a.n then 1 else 0
def isC (a b:LId)(c:Cx):Bool:=decide (c.a=a/\c.b=b)
def z5l (l:List Cx)(a b:LId):Int:=((l.find?<|isC a b).map Cx.n).getD 0
def y5o (l:List Cx)(a b:LId)(n:Int):List Cx:=if l.any (isC a b) then l.map (λc=>if isC a b c then ⟨a,b,n⟩ else c) else l++[⟨a,b,n⟩]
def x9a (l:List Cx)(a b:LId):List Cx:=l.filter λc=>!isC a b c
def y4i (l:List Cx)(c:Cx):Except Int (List Cx):=
  let k:LId×LId:=if 0<z6q c.a c.b then (c.b,c.a) else (c.a,c.b)
  let n:=z5l l k.1 k.2+c.n
  if n < -1048576\/1048576<n then .error 3 else if n=0 then .ok (x9a l k.1 k.2) else .ok (y5o l k.1 k.2 n)
def z3s:List Cx->List Cx->Except Int (List Cx)
  | l,[]=>.ok l
  | l,c::r=>match y4i l c with|.error e=>.error e|.ok l'=>z3s l' r
structure MSt where
  rk:Int
  B:Bd
  ys:List Yn
  tb:Tb
  cr:List Cx
  fa:List LId
def yn0:Yn:=⟨false,0,0,false,[]⟩
def MSt.y (p:MSt)(y:Int):Yn:=p.ys.getD (y-1).toNat yn0
def MSt.setY (p:MSt)(y:Int)(q:Yn):MSt:={ p with ys:=p.ys.set (y-1).toNat q }
abbrev MR:=Except Int MSt
def lvS (y:Yn):Yn:=⟨false,0,y.ct,false,[]⟩
def mkS (y:Yn):Yn:=⟨true,y.pl,y.ct+1,false,[]⟩
def inM (p:MSt)(o:MOp):MR:=if enE (p.y o.y) o.d≠0 then .error (enE (p.y o.y) o.d) else .ok (p.setY o.y<|enS (p.y o.y) o.d)
def x7f (p:MSt)(o:MOp):MR:=if lvE (p.y o.y)≠0 then .error (lvE<|p.y o.y) else .ok (p.setY o.y<|lvS<|p.y o.y)
def z5z (p:MSt)(o:MOp):Int:=if (p.y o.y).inn=false then 12 else if o.d=1 then (if z2b o.b o.p p.rk<(p.y o.y).pl then 12 else 0) else if (p.y o.y).pl<z2b o.b o.p p.rk then 12 else 0
def z7b (p:MSt)(o:MOp):Int:=if o.d=1 then z2b o.b o.p p.rk+1 else z2b o.b o.p p.rk-1
def y1r (p:MSt)(y en:Int):List Pa:=btw (z2m p.B p.rk) (p.y y).pl en
def z8x (p:MSt)(y pl en:Int):MR:=if goE (p.y y) pl (y1r p y en)≠0 then .error (goE (p.y y) pl<|y1r p y en) else .ok (p.setY y<|goS (p.y y) pl<|y1r p y en)
def MSt.row (p:MSt)(y:Int):List Lp:=p.tb.getD (y-1).toNat []
def y1m (p:MSt)(o:MOp)(th st:List LId):MR:=
  if mkE (p.y o.y)≠0 then .error (mkE<|p.y o.y) else if 2048<=z4x p.tb then .error 3
  else .ok { p with B:=p.B.put o.b o.p<|st++[⟨o.y,(p.y o.y).ct⟩],ys:=p.ys.set (o.y-1).toNat<|mkS<|p.y o.y,tb:=p.tb.set (o.y-1).toNat (p.row o.y++[⟨o.b,(p.y o.y).nw,th,(p.y o.y).pe⟩]) }
def y0f (p:MSt)(o:MOp):MR:=if z5z p o≠0 then .error (z5z p o) else match z8x p o.y (z7b p o) (z2b o.b o.p p.rk) with
  | .error e=>.error e
  | .ok q=>y1m q o (q.B.at o.b o.p) []
def z9w (p:MSt)(o:MOp):MR:=if z5z p o≠0 then .error (z5z p o) else match z8x p o.y (z7b p o) (z2b o.b o.p p.rk) with
  | .error e=>.error e
  | .ok q=>if 4<=(q.B.at o.b o.p).length then .error 9 else y1m q o [] (q.B.at o.b o.p)
def y1x (p:MSt)(o:MOp):MR:=if z5z p o≠0 then .error (z5z p o) else z8x p o.y (z7b p o) (z7b p o)
def z4l (b n r:Int):Int:=if b=1 then n+r else n-r
def y8x (p:MSt)(o:MOp):Int:=min (z2b o.b o.p p.rk) (z2b (1-o.b) (z4l o.b o.p p.rk) p.rk)+1
def z7h (p:MSt)(o:MOp):List LId:=if o.b=1 then p.B.at 1 o.p++p.B.at 0 (z4l 1 o.p p.rk) else p.B.at 1 (z4l 0 o.p p.rk)++p.B.at 0 o.p
def z5v (p:MSt)(o:MOp):MR:=
  if p.B.at o.b o.p=[] then .error 13
  else if z3m (1-o.b) (z4l o.b o.p p.rk)≠0 then .error 11
  else if ∃y∈p.ys,y.inn=true/\y.pl=y8x p o then .error 12
  else if 4<(p.B.at o.b o.p).length+(p.B.at (1-o.b)<|z4l o.b o.p p.rk).length then .error 9
  else .ok { p with B:=(p.B.put o.b o.p []).put (1-o.b) (z4l o.b o.p p.rk) (z7h p o) }
def y2l (p:MSt)(o:MOp):MR:=if p.B.at o.b o.p=[] then .error 13 else .ok { p with B:=p.B.put o.b o.p [],fa:=p.fa++p.B.at o.b o.p }
def z6g (p:MSt)(d:Int)(y:Yn):Except Int Yn:=if y.inn=false then .ok y else if goE y y.pl (z4q p.B p.rk d y.pl)≠0 then .error (goE y y.pl<|z4q p.B p.rk d y.pl) else .ok (goS y y.pl<|z4q p.B p.rk d y.pl)
def z3g (p:MSt)(d:Int):List Yn->Except Int (List Yn)
  | []=>.ok []
  | y::l=>match z6g p d y with
    | .error e=>.error e
    | .ok y'=>match z3g p d l with
      | .error e=>.error e
      | .ok l'=>.ok<|y'::l'
def z3l (p:MSt)(d:Int):MR:=match z3g p d p.ys with
  | .error e=>.error e
  | .ok ys=>match z3s p.cr (z2g p.B p.rk d) with
    | .error e=>.error e
    | .ok cr=>.ok { p with ys:=ys,cr:=cr,rk:=p.rk+stI d }
def z3p:Nat->MSt->Int->MR
  | 0,p,_=>.ok p
  | n+1,p,r=>if p.rk=r then .ok p else match z3l p (if r<p.rk then 0 else 1) with
    | .error e=>.error e
    | .ok q=>z3p n q r
def u9k (p:MSt)(o:MOp):MR:=z3p 8 p o.r
def opM (p:MSt)(o:MOp):MR:=
  if o.k=1 then inM p o else if o.k=2 then x7f p o else if o.k=3 then u9k p o else if o.k=4 then y0f p o
  else if o.k=5 then z9w p o else if o.k=6 then y1x p o else if o.k=7 then z5v p o else y2l p o
def doM (p:MSt)(o:MOp):MR:=if z8v o≠0 then .error (z8v o) else opM p o
def z2u:Nat->MSt->List MOp->Except (Int×Nat) MSt
  | _,p,[]=>.ok p
  | i,p,o::l=>match doM p o with
    | .error e=>.error (e,i)
    | .ok q=>z2u (i+1) q l
def start:MSt:=⟨0,⟨[],[]⟩,List.replicate 6 yn0,List.replicate 6 [],[],[]⟩
theorem y3p:∀(l:Bed) (i:Nat),(z1x l).getD i []=l.getD i []
 | [],i=>rfl
 | s::l,i=>by
  have D:=y3p l
  unfold z1x
  split
  ·rename_i h
   cases i with
   | zero=>simp[h.2]
   | succ i=>have:=D i;rw[h.1]at this;simpa using this
  cases i with
  | zero=>simp
  | succ i=>simpa using D i
theorem y3b:∀l:Bed,(z1x l).flatten=l.flatten
 | []=>rfl
 | s::l=>by
  have D:=y3b l
  unfold z1x
  split
  ·rename_i h
   rw[h.1]at D
   simp only[List.flatten_cons,<-D,h.2];rfl
  simp only[List.flatten_cons,D]
theorem y6l:∀l:Bed,(z1x l).length<=l.length
 | []=>l20 _
 | s::l=>by
  have D:=y6l l
  unfold z1x
  split
  ·simp
  simp only[l34];omega
theorem y6f:∀(l:Bed) {s:List LId},s∈z1x l->s∈l
 | [],s,h=>h
 | t::l,s,h=>by
  unfold z1x at h
  split at h
  ·cases h
  rcases l57.1 h with rfl|h
  ·exact l35 ..
  exact l36 _<|y6f l h
theorem y6a:∀l:Bed,(∀s∈l,s=[])->z1x l=[]
 | [],_=>rfl
 | s::l,h=>by
  unfold z1x
  rw[if_pos ⟨y6a l λt D=>h t<|l36 _ D,h s (l35 ..)⟩]
theorem y4p:∀(l:Bed) (n:Nat),n<=l.length->(∀j,n<=j->l.getD j []=[])->(n=0\/l.getD (n-1) []≠[])->l.take n=z1x l
 | [],n,h,_,_=>by simp[z1x]
 | s::l,0,_,h,_=>by
  rw[y6a]
  ·rfl
  intro t ht
  obtain⟨i,hi,rfl⟩:=l29 ht
  have:=h i<|l16 _
  rwa [List.getD,l10 hi]at this
 | s::l,n+1,hl,h,hn=>by
  have O:=y4p l n (by simpa using hl) (λj hj=>by have:=h (j+1) oo;simpa using this)
  unfold z1x
  cases n with
  | zero=>
   have Z:s≠[]:=by simpa using hn
   rw[if_neg (λe=>Z e.2)]
   have:=O<|.inl U
   simp only[List.take_succ_cons,l90,this] at *
  | succ n=>
   have D:l.getD n []≠[]:=by simpa using hn
   have:=O<|.inr D
   rw[if_neg,List.take_succ_cons,this]
   rintro⟨e,-⟩
   have I:=y3p l n
   rw[e]at I
   exact D (by simpa using I.symm)
theorem v3a (l:Bed)(n i:Nat):(x8d l n).getD i []=l.getD i []:=by
 unfold x8d;by_cases h:i<l.length;simp only[List.getD,l46 h];rw[List.getD,List.getD,l30 oo,l62,l32 oo];split<;>rfl
theorem u7r (l:Bed)(n:Nat):(x8d l n).flatten=l.flatten:=by
 unfold x8d;rw[List.flatten_append];have:(List.replicate (n-l.length) ([]:List LId)).flatten=[]:=by simp
 rw[this,l24]
theorem x2q (l:Bed)(n:Nat):(x8d l n).length=max l.length n:=by
 unfold x8d;rw[l13,l22];omega
theorem j0u (l:Bed){n:Nat}(hn:1<=n)(s:List LId)(i:Nat):(y9a l n s).getD i []=if i=n-1 then s else l.getD i []:=by
 unfold y9a;rw[y3p,if_neg oo,z1k (by rw[x2q];omega),v3a];split;rename_i e;rw[if_pos e.symm];rename_i e;rw[if_neg (λh=>e h.symm)]
theorem j2q {l:Bed}{n m:Int}(hn:1<=n)(D:1<=m)(s:List LId):atB (y9a l n.toNat s) m=if m=n then s else atB l m:=by
 unfold atB;rw[j0u _ oo];by_cases e:m=n;subst e;rw[if_pos oo,if_pos U];rw[if_neg oo,if_neg e]
theorem v8k (l:Bed)(n:Int):atB (z1x l) n=atB l n:=y3p l _
theorem x7s (l:Bed){n:Int}(hn:1<=n)(s:List LId)(i:LId):(y9a l n.toNat s).flatten.count i+(atB l n).count i=l.flatten.count i+s.count i:=by
 unfold y9a;rw[y3b,if_neg oo];have h:=z9d (α:=List LId) (λx=>x) (x8d l n.toNat) (n.toNat-1) [] s i (by rw[x2q];omega);simp only[List.flatMap_id']at h;rw[u7r,v3a]at h;have e:n.toNat-1=(n-1).toNat:=by omega
 unfold atB;rw[e]at h ⊢;omega
theorem v8s (l:Bed)(n:Nat)(s:List LId):(y9a l n s).length<=max l.length n:=by
 unfold y9a;refine l42 (y6l _) ?_;split;omega;rw[l19,x2q];exact l20 _
theorem j6q (l:Bed)(n:Nat)(s:List LId){t:List LId}(h:t∈y9a l n s):t=s\/t∈l\/t=[]:=by
 unfold y9a at h;have h:=y6f _ h;split at h;exact .inr<|.inl h;rcases List.mem_or_eq_of_mem_set h with h|h
 unfold x8d at h;rcases l23.1 h with h|h
 exact .inr<|.inl h;exact .inr<|.inr<|List.eq_of_mem_replicate h;exact .inl h
theorem z2t {b n:Int}(h:z3m b n=0):(b=0\/b=1)/\1<=n/\n<=40:=by
 unfold z3m at h;split at h;omega;split at h<;>omega
theorem y2i {b n:Int}(h:(b=0\/b=1)/\1<=n/\n<=40):z3m b n=0:=by
 unfold z3m;rw[if_neg oo,if_neg oo]
theorem z5h (B:Bd){b n:Int}(h:z3m b n=0)(s:List LId)(i:LId):(B.put b n s).flat.count i+(B.at b n).count i=B.flat.count i+s.count i:=by
 obtain⟨I,D,O⟩:=z2t h;unfold Bd.put Bd.at Bd.flat;split;simp only[l21,y3b];have:=x7s B.f D s i;omega;simp only[l21,y3b];have:=x7s B.b D s i;omega
theorem z5d (B:Bd){b n b' D:Int}(h:z3m b n=0)(Z:z3m b' D=0)(s:List LId):(B.put b n s).at b' D=if b'=b/\D=n then s else B.at b' D:=by
 obtain⟨h1,I,h3⟩:=z2t h;obtain⟨h4,O,h6⟩:=z2t Z;unfold Bd.put Bd.at;by_cases e:b=0;rw[if_pos e];by_cases e':b'=0;rw[if_pos e',j2q I O];by_cases e2:D=n;rw[if_pos e2,if_pos ⟨oo,e2⟩];rw[if_neg e2,if_neg (λk=>e2 k.2),if_pos e'];rw[if_neg e',v8k,if_neg (λk=>oo),if_neg e'];rw[if_neg e];by_cases e':b'=0;rw[if_pos e',v8k,if_neg (λk=>oo),if_pos e'];rw[if_neg e',j2q I O];by_cases e2:D=n;rw[if_pos e2,if_pos ⟨oo,e2⟩];rw[if_neg e2,if_neg (λk=>e2 k.2),if_neg e']
theorem v7x {l:Bed}{n:Int}(h:atB l n≠[]):atB l n∈l:=by
 unfold atB at *
 by_cases e:(n-1).toNat<l.length;exact z1b e;exact absurd (by rw[List.getD,l32 oo];rfl) h
theorem u2f {B:Bd}{b n:Int}(h:B.at b n≠[]):B.at b n∈B.f++B.b:=by
 unfold Bd.at at *
 split;rename_i e;rw[if_pos e]at h;exact l60 _<|v7x h;rename_i e;rw[if_neg e]at h;exact l64 _<|v7x h
theorem y8l {B:Bd}(h:BdOk B)(b n:Int):(B.at b n).length<=4:=by
 by_cases e:B.at b n=[];rw[e];simp;exact h.ss _<|u2f e
theorem j6w (B:Bd):B.flat=(B.f++B.b).flatten:=by unfold Bd.flat;rw[List.flatten_append]
theorem y1w {B:Bd}{b n:Int}{i:LId}(h:i∈B.at b n):i∈B.flat:=by
 rw[j6w];exact List.mem_flatten.2 ⟨_,u2f (λe=>by rw[e]at h;cases h),h⟩
theorem y3a {B:Bd}{b n:Int}(h:z3m b n=0){s:List LId}{i:LId}(hi:i∈(B.put b n s).flat):i∈s\/i∈B.flat:=by
 have:=z5h B h s i;have D:=l127.2 hi;by_cases e:0<s.count i;exact .inl<|l127.1 e;exact .inr<|l127.1 oo
theorem BdOk.put {B:Bd}(h:BdOk B){b n:Int}(hn:z3m b n=0){s:List LId}(h4:s.length<=4)(a0:∀i∈s,y2t i)(Z:∀i,B.flat.count i+s.count i<=(B.at b n).count i+1):BdOk (B.put b n s):=by
 obtain⟨h1,h2,h3⟩:=z2t hn;have hl:=h.lf;have O:=h.lb;refine⟨?_,?_,?_,?_,?_⟩;unfold Bd.put;split;have:=v8s B.f n.toNat s;simp only;omega;have:=y6l B.f;simp only;omega;unfold Bd.put;split;have:=y6l B.b;simp only;omega;have:=v8s B.b n.toNat s;simp only;omega;intro t D;unfold Bd.put at D;have I:∀l:Bed,(∀s∈l,s.length<=4)->∀t∈y9a l n.toNat s,t.length<=4:=λl hl t D=>by
  rcases j6q l _ s D with rfl|D|rfl
  exact h4;exact hl t D;simp
 have hf:∀s∈B.f,s.length<=4:=λs hs=>h.ss s<|l60 _ hs;have O:∀s∈B.b,s.length<=4:=λs hs=>h.ss s<|l64 _ hs;split at D;rcases l23.1 D with D|D
 exact I _ hf _ D;exact O _<|y6f _ D;rcases l23.1 D with D|D
 exact hf _<|y6f _ D;exact I _ O _ D;intro i hi;rcases y3a hn hi with hi|hi
 exact a0 i hi;exact h.nm i hi;rw[l85];intro i;have:=z5h B hn s i;have:=Z i;omega
structure MInv (p:MSt):Prop where
  rk:-4<=p.rk/\p.rk<=4
  B:BdOk p.B
  ly:p.ys.length=6
  lt:p.tb.length=6
  yn:∀y,y<6->y0z (p.ys.getD y yn0)/\(p.ys.getD y yn0).ct=z3k p.tb y
  has:∀i∈p.B.flat,z5t p.tb i
  cnt:p.B.flat.length+p.fa.length<=z4x p.tb
  all:z4x p.tb<=2048
  cv:∀c∈p.cr,-1048576<=c.n/\c.n<=1048576
theorem y7v:MInv start:=by
 refine⟨dd,⟨dd,dd,by intro s I;simp[start]at I,by intro i hi;simp[start,Bd.flat]at hi,by simp[start,Bd.flat]⟩,rfl,rfl,λy O=>?_,by intro i hi;simp[start,Bd.flat]at hi,dd,dd,by intro c D;simp[start]at D⟩;have:start.ys.getD y yn0=yn0:=by
  simp only[start,List.getD,l62];split<;>rfl
 rw[this];refine⟨dd,?_⟩;simp only[start,z3k,List.getD,l62];rw[if_pos O];rfl
theorem z3u {o:MOp}(h:z8v o=0):(o.k=1\/o.k=2\/o.k=3\/o.k=4\/o.k=5\/o.k=6\/o.k=7\/o.k=8)/\(o.k=1->z4w o.d)/\((o.k=1\/o.k=2\/o.k=4\/o.k=5\/o.k=6)->1<=o.y/\o.y<=6)/\((o.k=4\/o.k=5\/o.k=6)->z4w o.d)/\((4<=o.k)->z3m o.b o.p=0)/\(o.k=3->-4<=o.r/\o.r<=4):=by
 unfold z8v at h
 split at h
 ·omega
 rename_i I
 have I:=l15.1 I
 split at h
 ·omega
 rename_i hr
 obtain⟨D,O,Z,h4,h5⟩:=I
 unfold z9n at D O Z h4 h5
 unfold z4w
 unfold pl1 at O
 unfold pl2 at Z
 unfold pl3 at h4
 unfold pl4 at h5
 have a0:∀a:Int,¬(a≠0)->a=0:=λa h=>by omega
 repeat' split at D
 all_goals first|(simp at D;done)|skip
 all_goals simp_all
 all_goals omega
structure BdQ where
  f:SV
  b:SV
  fs:List IQ
  bs:List IQ
abbrev _root_.bvv (s:BdQ):Value:=.agg #[.slice s.f.1 s.f.2.1 s.f.2.2,.slice s.b.1 s.b.2.1 s.b.2.2]
abbrev plB (l:List IQ):Bed:=l.map Prod.snd
abbrev BdQ.p (q:BdQ):Bd:=⟨plB q.fs,plB q.bs⟩
abbrev bdL (q:BdQ):List Value:=[.slice q.f.1 q.f.2.1 q.f.2.2,.slice q.b.1 q.b.2.1 q.b.2.2]
structure BdAt (w:World) (q:BdQ):Prop where
  f:Sl z7a w (slv q.f) q.fs
  fi:IqAt w q.fs
  b:Sl z7a w (slv q.b) q.bs
  bi:IqAt w q.bs
theorem BdAt.ext {w w':World}{q:BdQ}(h:BdAt w q)(hf:Fr [] w w'):BdAt w' q:=⟨h.f.ext hf,h.fi.ext hf,h.b.ext hf,h.bi.ext hf⟩
def RwO (S I base:Nat)(w:World)(v:Value)(l:List IQ):Prop:=Lw.Own z7a S base w v l/\∀q∈l,Lw.Own z1h I base w (slv q.1) q.2
theorem RwO.ext {S I base:Nat}{w w':World}{v:Value}{l:List IQ}(h:RwO S I base w v l)(hf:Fr [] w w'):RwO S I base w' v l:=⟨h.1.ext hf,λq D=>(h.2 q D).ext hf⟩
theorem RwO.low {S I base b:Nat}{w:World}{v:Value}{l:List IQ}(h:RwO S I base w v l)(hb:b<=base):RwO S I b w v l:=⟨h.1.low hb,λq D=>(h.2 q D).low hb⟩
theorem RwO.at {S I base:Nat}{w:World}{v:Value}{l:List IQ}(h:RwO S I base w v l):IqAt w l:=λq D=>(h.2 q D).sl
theorem RwO.fr {S I base:Nat}{w w':World}{v:Value}{l:List IQ}{T:List Nat}(h:RwO S I base w v l)(hf:Fr T w w')(Z:∀k∈T,k<base):RwO S I base w' v l:=
 ⟨h.1.fr hf λk O D=>by have:=Z k O;have:=(h.1.blk k D).1;omega,λq hq=>(h.2 q hq).fr hf λk O D=>by have:=Z k O;have:=((h.2 q hq).blk k D).1;omega⟩
structure BdO (S I base:Nat) (w:World) (q:BdQ):Prop where
  f:RwO S I base w (slv q.f) q.fs
  b:RwO S I base w (slv q.b) q.bs
theorem BdO.ext {S I base:Nat}{w w':World}{q:BdQ}(h:BdO S I base w q)(hf:Fr [] w w'):BdO S I base w' q:=⟨h.f.ext hf,h.b.ext hf⟩
theorem BdO.low {S I base b:Nat}{w:World}{q:BdQ}(h:BdO S I base w q)(hb:b<=base):BdO S I b w q:=⟨h.f.low hb,h.b.low hb⟩
theorem BdO.at {S I base:Nat}{w:World}{q:BdQ}(h:BdO S I base w q):BdAt w q:=⟨h.f.1.sl,h.f.at,h.b.1.sl,h.b.at⟩
theorem z3q (l:List IQ)(i:Nat):(plB l).getD i []=(l.getD i iq0).2:=by
 unfold plB;rw[List.getD,List.getD,l26];cases l[i]?<;>rfl
theorem x7c {l:List IQ}{i:Nat}(h:l.length<=i):(l.getD i iq0).2=[]:=by rw[List.getD,l32 h];rfl
theorem u3m (l:List IQ)(n M:Nat)(hM:M=max l.length n):plB (l++List.replicate (M-l.length) iq0)=x8d (plB l) n:=by
 unfold x8d plB;rw[l31,List.map_replicate,l18];congr 2;omega
theorem j2l (w:World):Sl z1h w (slv iq0.1) iq0.2:=Sl.nil w
theorem v2y {w:World}{l:List IQ}{k:Nat}(h:IqAt w l):IqAt w (l++List.replicate k iq0):=λq D=>by
 rcases l23.1 D with D|D
 ·exact h q D
 rw[List.eq_of_mem_replicate D];exact j2l w
theorem u6o {w:World}{l:List IQ}{i:Nat}{q:IQ}(h:IqAt w l)(I:Sl z1h w (slv q.1) q.2):IqAt w (l.set i q):=λp D=>by
 rcases List.mem_or_eq_of_mem_set D with D|rfl
 ·exact h p D
 exact I
def z9v (l:List IQ):Prop:=∀q∈l,q.2.length<=4
theorem v2b {l:List IQ}{k:Nat}(h:z9v l):z9v (l++List.replicate k iq0):=λq D=>by
 rcases l23.1 D with D|D
 ·exact h q D
 rw[List.eq_of_mem_replicate D];exact l16 _
theorem j0x {l:List IQ}{i:Nat}{q:IQ}(h:z9v l)(I:q.2.length<=4):z9v (l.set i q):=λp D=>by
 rcases List.mem_or_eq_of_mem_set D with D|rfl
 ·exact h p D
 exact I
theorem z4a {l:List IQ}(h:z9v l)(i:Nat):(l.getD i iq0).2.length<=4:=by
 by_cases e:i<l.length;exact h _<|z1b e;rw[x7c oo];simp
theorem z1y {w:World}{l:List IQ}(h:IqAt w l)(i:Nat):Sl z1h w (slv (l.getD i iq0).1) (l.getD i iq0).2:=by
 by_cases e:i<l.length;exact h _<|z1b e;rw[List.getD,l32 oo];exact j2l w
theorem j5z {l m:List IQ}(h:z9v l)(e:plB m=plB l):z9v m:=λq O=>by
 have:q.2∈plB l:=by rw[<-e];exact l88 O
 obtain⟨q',D,I⟩:=l55.1 this
 rw[<-I];exact h q' D
theorem j5a {l:List IQ}{i:Nat}{q:IQ}(h:q.2=(l.getD i iq0).2):plB (l.set i q)=plB l:=by
 unfold plB;rw[l136];apply l69;intro j;rw[l114];split;rename_i e;subst e;split;rename_i D;rw[l18]at D;rw[l26,l10 D,h,List.getD,l10 D];rfl;rename_i D;rw[l32 oo];rfl
def BdQ.sv (q:BdQ)(b:Int):SV:=if b=1 then q.b else q.f
def BdQ.l (q:BdQ)(b:Int):List IQ:=if b=1 then q.bs else q.fs
theorem BdAt.sel {w:World}{q:BdQ}(h:BdAt w q)(b:Int):Sl z7a w (slv<|q.sv b) (q.l b)/\IqAt w (q.l b):=by
 unfold BdQ.sv BdQ.l;split;exact⟨h.b,h.bi⟩;exact⟨h.f,h.fi⟩
theorem BdQ.at_l (q:BdQ){b p:Int}(hn:z3m b p=0):((q.l b).getD (p-1).toNat iq0).2=q.p.at b p:=by
 obtain⟨D,_,_⟩:=z2t hn;unfold BdQ.l Bd.at atB;split;rw[if_neg oo,z3q];rw[if_pos oo,z3q]
theorem j3g (l:Bed):y9a l 0 []=z1x l:=by unfold y9a;rw[if_pos U]
theorem q0j (B:Bd){b:Int}(n:Nat)(s:List LId)(h:b=0):(⟨y9a B.f n s,y9a B.b 0 []⟩:Bd)=B.put b (n:Int) s:=by
 unfold Bd.put;rw[if_pos h,j3g,l95]
theorem q0h (B:Bd){b:Int}(n:Nat)(s:List LId)(h:¬b=0):(⟨y9a B.f 0 [],y9a B.b n s⟩:Bd)=B.put b (n:Int) s:=by
 unfold Bd.put;rw[if_neg h,j3g,l95]
def PreO (I base:Nat)(w:World)(l:List IQ)(i:Nat):Prop:=∀j,j<i->Lw.Own z1h I base w (slv (l.getD j iq0).1) (l.getD j iq0).2
theorem PreO.zero {I base:Nat}{w:World}{l:List IQ}:PreO I base w l 0:=λj D=>absurd D oo
theorem PreO.ext {I base i:Nat}{w w':World}{l:List IQ}(h:PreO I base w l i)(hf:Fr [] w w'):PreO I base w' l i:=λj D=>(h j D).ext hf
theorem PreO.fr {I base i:Nat}{w w':World}{l:List IQ}{S:List Nat}(h:PreO I base w l i)(hf:Fr S w w')(O:∀k∈S,k<base):PreO I base w' l i:=λj D=>(h j D).fr hf λk hk Z=>by
 have:=O k hk;have:=((h j D).blk k Z).1;omega
theorem PreO.put {I base i:Nat}{w:World}{l:List IQ}{q:IQ}(h:PreO I base w l i)(hi:i<l.length)(D:Lw.Own z1h I base w (slv q.1) q.2):PreO I base w (l.set i q) (i+1):=λj O=>by
 rw[z1k hi]
 split
 ·exact D
 exact h j oo
theorem PreO.all {I base b:Nat}{w:World}{l:List IQ}(h:PreO I base w l l.length)(hb:b<=base):∀q∈l,Lw.Own z1h I b w (slv q.1) q.2:=λq O=>by
 obtain⟨j,D,rfl⟩:=l29 O
 have:=h j D
 rw[List.getD,l10 D]at this
 exact this.low hb
theorem y6r {w:World}{l m:List IQ}{n:Nat}(e:m=l.take n)(h:IqAt w l):IqAt w m:=λq D=>h q<|l98 (e▸D)
theorem u5s {l m:List IQ}{i:Nat}{q:IQ}(h:∀j,i<=j->l.getD j iq0=m.getD j iq0)(hi:i<l.length):∀j,i+1<=j->(l.set i q).getD j iq0=m.getD j iq0:=λj D=>by
 rw[z1k hi,if_neg oo];exact h j oo
theorem j7m {D ls qs:List IQ}{m n:Nat}{s:List LId}(I:ls=D.take m)(O:(plB D).take m=z1x (plB D))(Z:plB D=if n=0 then plB qs else (x8d (plB qs) n).set (n-1) s):plB ls=y9a (plB qs) n s:=by
 rw[I];unfold plB at *
 rw[List.map_take,O,Z];rfl
theorem u7i {qs:List IQ}{n M:Nat}{s:List LId}(hn:n=0)(hM:M=max qs.length n):plB (qs++List.replicate (M-qs.length) iq0)=(if n=0 then plB qs else (x8d (plB qs) n).set (n-1) s):=by
 subst hn;rw[if_pos U,u3m qs 0 M hM];unfold x8d;simp
theorem j9v {qs:List IQ}{n M:Nat}{q:IQ}(hn:0<n)(hM:M=max qs.length n):plB ((qs++List.replicate (M-qs.length) iq0).set (n-1) q)=(if n=0 then plB qs else (x8d (plB qs) n).set (n-1) q.2):=by
 rw[if_neg oo,<-u3m qs n M hM];exact l136
end Go.G08
namespace Go.Lw
open Go.RowKit
structure KeyLaw {κ:Type} [DecidableEq κ] (P:Program) (K:TypeId) (V:κ->Value):Prop where
  check:∀b k (w:World),(Instr.checkKey b 10000 K<|V k).run P w=.ok () w
  find:∀k (es:List MapEntry) (ks:List κ) (w:World),es.map (·.key)=ks.map V->
    (Instr.findKey K (V k) es).run P w=.ok ((ks.findIdx? (λx=>decide (k=x))).bind λi=>(es[i]?).map λe=>(i,e.val)) w
  bits:∀k,Instr.sameBits 10000 (V k) (V k)=true
def z2w {κ:Type}[DecidableEq κ]:List (κ×Value)->κ->Option Value
  | [],_=>none
  | p::r,k=>if k=p.1 then some p.2 else z2w r k
def MapF {κ:Type}[DecidableEq κ](V:κ->Value)(w:World)(g:Nat)(f:κ->Option Value):Prop:=
  ∃(es:Array MapEntry) (c:Nat) (m:List (κ×Value)),w.heap[g]?=some (.map es c)/\es.toList.map (λe=>(e.key,e.val))=m.map (λp=>(V p.1,p.2))/\∀k,z2w m k=f k
section
variable {κ:Type} [DecidableEq κ] {V:κ->Value} {P:Program} {K:TypeId}
theorem y2v (I:∀k k' (w:World),(Op.equal K (V k)<|V k').run P w=.ok (decide (k=k')) w)(k:κ):∀(D:List MapEntry) (ks:List κ) (i:Nat) (w:World),D.map (·.key)=ks.map V->
    (Instr.findAsking K (V k) D i).run P w=.ok ((ks.findIdx? (λx=>decide (k=x))).bind λj=>(D[j]?).map λe=>(i+j,e.val)) w
  | [],[],i,w,_=>by simp[Instr.findAsking]
  | [],_::_,_,_,h=>by simp at h
  | _::_,[],_,_,h=>by simp at h
  | e::D,x::ks,i,w,h=>by
    simp only[l28,List.cons.injEq]at h
    have O:=y2v I k D ks (i+1) w h.2
    simp only[Instr.findAsking,h.1,Sem.run_bind,I k x w,Result.andThen_ok]
    by_cases hx:k=x
    · simp[hx,l68]
    · simp only[hx,decide_false,Bool.false_eq_true,if_false,O,l68,Option.bind_map]
      congr 1
      cases hf:ks.findIdx? (λx=>decide (k=x)) with
      | none=>simp
      | some j=>simp[Nat.add_assoc,Nat.add_comm 1 j]
theorem KeyLaw.asking {d:TypeDesc}(O:P.underlying K=some d)(hs:∀k k',Instr.sameNow d (V k) (V k')=none)(Z:∀b k (w:World),(Instr.checkKey b 10000 K<|V k).run P w=.ok () w)
    (heq:∀k k' (w:World),(Op.equal K (V k)<|V k').run P w=.ok (decide (k=k')) w) (hb:∀k,Instr.sameBits 10000 (V k) (V k)=true):KeyLaw P K V:=by
  refine⟨Z,λk I D w h=>?_,hb⟩
  cases I with
  | nil=>
    cases D with
    | nil=>simp[Instr.findKey,run_underlying O,Instr.findNow]
    | cons x D=>simp at h
  | cons e I=>
    cases D with
    | nil=>simp at h
    | cons x D=>
      have hn:Instr.findNow d (V k) (e::I) 0=none:=by
        simp only[l28,List.cons.injEq]at h
        simp[Instr.findNow,h.1,hs]
      have:=y2v heq k (e::I) (x::D) 0 w h
      simp only[Instr.findKey,Sem.run_bind,run_underlying O,Result.andThen_ok,hn,this,l72]
theorem x0u {d:TypeDesc}(I:∀k k',Instr.sameNow d (V k) (V k')=some (decide (k=k')))(k:κ):∀(D:List MapEntry) (ks:List κ) (i:Nat),D.map (·.key)=ks.map V->
    Instr.findNow d (V k) D i=some ((ks.findIdx? (λx=>decide (k=x))).bind λj=>(D[j]?).map λe=>(i+j,e.val))
  | [],[],i,_=>by simp[Instr.findNow]
  | [],_::_,_,h=>by simp at h
  | _::_,[],_,h=>by simp at h
  | e::D,x::ks,i,h=>by
    simp only[l28,List.cons.injEq]at h
    have O:=x0u I k D ks (i+1) h.2
    simp only[Instr.findNow,h.1,I]
    by_cases hx:k=x
    · simp[hx,l68]
    · simp only[hx,decide_false,O,l68,Bool.false_eq_true,if_false,Option.bind_map]
      congr 2
      funext j;simp[Nat.add_assoc,Nat.add_comm 1 j]
theorem KeyLaw.now {d:TypeDesc}(Z:P.underlying K=some d)(O:∀k k',Instr.sameNow d (V k) (V k')=some (decide (k=k')))(I:∀b k (w:World),(Instr.checkKey b 10000 K<|V k).run P w=.ok () w)
    (hb:∀k,Instr.sameBits 10000 (V k) (V k)=true):KeyLaw P K V:=by
  refine⟨I,λk D ks w h=>?_,hb⟩
  have:=x0u O k D ks 0 h
  simp only[Instr.findKey,Sem.run_bind,run_underlying Z,Result.andThen_ok,this,l72,Sem.run_pure]
theorem y4m (m:List (κ×Value))(k:κ):∀(D:List MapEntry),D.map (λe=>(e.key,e.val))=m.map (λp=>(V p.1,p.2))->
    (((m.map (·.1)).findIdx? (λx=>decide (k=x))).bind λi=>(D[i]?).map λe=>(i,e.val)).map (·.2)=z2w m k:=by
  induction m with
  | nil=>intro D h;simp[z2w]
  | cons p m ih=>
    intro D h
    match D,h with
    | e::D,h=>
      simp only[l28,List.cons.injEq,l94]at h
      have:=ih D h.2
      unfold z2w
      by_cases hk:k=p.1
      · simp[hk,l68,h.1.2]
      · simp only[l28,l68,hk,decide_false,if_false,Bool.false_eq_true]
        rw[<-this]
        cases (m.map (·.1)).findIdx? (λx=>decide (k=x)) with
        | none=>simp
        | some j=>
          simp
          rfl
def z4u (m:List (κ×Value))(k:κ)(v:Value):List (κ×Value):=
  match (m.map (·.1)).findIdx? (λx=>decide (k=x)) with
  | some i=>m.modify i λp=>(p.1,v)
  | none=>m++[(k,v)]
theorem y5h (m:List (κ×Value))(k k':κ)(v:Value):(m.map (·.1)).findIdx? (λx=>decide (k=x))=none->z2w (m++[(k,v)]) k'=if k'=k then some v else z2w m k':=by
 induction m with
 | nil=>intro _;simp[z2w]
 | cons p m ih=>
  intro h;simp only[l28,l68]at h;split at h;cases h;rename_i I;have D:¬k=p.1:=by simpa using I
  have:=ih (by simpa using h);simp only[l48,z2w,this];by_cases e:k'=p.1;subst e;simp[l51 D];simp[e]
theorem y0g (k k':κ)(v:Value):∀(m:List (κ×Value)) (i:Nat),(m.map (·.1)).findIdx? (λx=>decide (k=x))=some i->z2w (m.modify i λp=>(p.1,v)) k'=if k'=k then some v else z2w m k'
 | [],i,h=>by simp at h
 | p::m,i,h=>by
  simp only[l28,l68]at h
  split at h
  ·rename_i I
   have D:k=p.1:=by simpa using I
   simp at h;subst h
   simp only[List.modify_zero_cons,z2w,D]
   by_cases e:k'=p.1<;>simp[e]
  rename_i I
  have D:¬k=p.1:=by simpa using I
  cases hf:(m.map (·.1)).findIdx? (λx=>decide (k=x)) with
  | none=>rw[hf]at h;simp at h
  | some j=>
   rw[hf]at h;simp at h;subst h
   have:=y0g k k' v m j hf
   simp only[List.modify_succ_cons,z2w,this]
   by_cases e:k'=p.1
   ·subst e;simp[l51 D]
   simp[e]
theorem MapF.fr {w w':World}{g:Nat}{f:κ->Option Value}{S:List Nat}(h:MapF V w g f)(hf:Fr S w w')(hn:g∉S:=by simp[z0v]<;>omega):MapF V w' g f:=by
 obtain⟨I,c,m,D,O,Z⟩:=h;exact⟨I,c,m,(hf.block g (l17.1 D).1 hn).trans D,O,Z⟩
theorem MapF.ext {w w':World}{g:Nat}{f:κ->Option Value}(h:MapF V w g f)(hf:Fr [] w w'):MapF V w' g f:=h.fr hf sp0
theorem MapF.lt {w:World}{g:Nat}{f:κ->Option Value}(h:MapF V w g f):g<w.heap.size:=let ⟨_,_,_,h1,_⟩:=h;(l17.1 h1).1
theorem MapF.ne_blk {w:World}{g D T:Nat}{f:κ->Option Value}{cs:List Value}(h:MapF V w g f)(I:Blk w D T cs):g≠D:=by
 rintro rfl;obtain⟨_,_,_,O,_⟩:=h;unfold Blk at I;rw[I]at O;cases O
theorem z3b {w:World}{g:Nat}{D:Array MapEntry}{c:Nat}(h:w.heap[g]?=some (.map D c)):(getObj g).run P w=.ok (.map D c) w:=by
 simp[getObj,Sem.run,h]
theorem y9j {w:World}{g:Nat}{f:κ->Option Value}{t E:TypeId}{z:Value}(h:MapF V w g f)(hk:KeyLaw P K V)(hu:P.underlying t=some (.map K E))(hz:(zeroValue E).run P w=.ok z w)(k:κ) :
    (Instr.lookup t (.map<|some g) (V k) false).run P w=.ok ((f k).getD z) w:=by
  obtain⟨Z,c,m,h1,h2,h3⟩:=h
  have O:Z.toList.map (·.key)=(m.map (·.1)).map V:=by
    have:=congrArg (List.map Prod.fst) h2
    simpa[l75,l113] using this
  have I:=hk.find k Z.toList (m.map (·.1)) w O
  have D:=y4m (V:=V) m k Z.toList h2
  rw[h3]at D
  generalize ((m.map (·.1)).findIdx? (λx=>decide (k=x))).bind (λi=>(Z.toList[i]?).map λe=>(i,e.val))=r at I D
  cases r with
  | none=>simp at D;simp[Instr.lookup,run_underlying hu,z3b h1,hk.check,I,hz,<-D]
  | some p=>simp at D;simp[Instr.lookup,run_underlying hu,z3b h1,hk.check,I,<-D]
theorem v0s {w:World}{g:Nat}{f:κ->Option Value}{t E:TypeId}{z:Value}(h:MapF V w g f)(hk:KeyLaw P K V)(hu:P.underlying t=some (.map K E))(hz:(zeroValue E).run P w=.ok z w)(k:κ) :
    (Instr.lookup t (.map<|some g) (V k) true).run P w=.ok (.tuple #[(f k).getD z,.bool (f k).isSome]) w:=by
  obtain⟨Z,c,m,h1,h2,h3⟩:=h
  have O:Z.toList.map (·.key)=(m.map (·.1)).map V:=by
    have:=congrArg (List.map Prod.fst) h2
    simpa[l75,l113] using this
  have I:=hk.find k Z.toList (m.map (·.1)) w O
  have D:=y4m (V:=V) m k Z.toList h2
  rw[h3]at D
  generalize ((m.map (·.1)).findIdx? (λx=>decide (k=x))).bind (λi=>(Z.toList[i]?).map λe=>(i,e.val))=r at I D
  cases r with
  | none=>simp at D;simp[Instr.lookup,run_underlying hu,z3b h1,hk.check,I,hz,<-D]
  | some p=>simp at D;simp[Instr.lookup,run_underlying hu,z3b h1,hk.check,I,<-D]
theorem y3q {w:World}{g:Nat}{f:κ->Option Value}{t E:TypeId}(h:MapF V w g f)(hk:KeyLaw P K V)(hu:P.underlying t=some (.map K E))(k:κ)(v:Value) :
    ∃w',(Instr.mapUpdate t (.map<|some g) (V k) v).run P w=.ok () w'/\MapF V w' g (λk'=>if k'=k then some v else f k')/\Fr [g] w w'/\w'.heap.size=w.heap.size:=by
  obtain⟨D,c,m,h1,h2,h3⟩:=h
  have a7:=(l17.1 h1).1
  have Z:D.toList.map (·.key)=(m.map (·.1)).map V:=by
    have:=congrArg (List.map Prod.fst) h2
    simpa[l75,l113] using this
  have I:=hk.find k D.toList (m.map (·.1)) w Z
  have a1:∀o,(setObj g o).run P w=.ok () { w with heap:=w.heap.setIfInBounds g o }:=by intro o;simp[setObj,Sem.run,h1]
  have a4:∀o,Fr [g] w { w with heap:=w.heap.setIfInBounds g o }:=λo=>⟨rfl,rfl,rfl,sp0,λi _ hn=>by
    simp only
    rw[l78 (by intro e;subst e;simp at hn)]⟩
  have O:∀o,({ w with heap:=w.heap.setIfInBounds g o }:World).heap[g]?=some o:=by intro o;simp[a7]
  have a9:D.toList.length=m.length:=by have:=congrArg List.length h2;simpa using this
  cases hf:(m.map (·.1)).findIdx? (λx=>decide (k=x)) with
  | none=>
    refine⟨_,?_,⟨_,_,m++[(k,v)],O<|.map (D.push { key:=V k,val:=v,born:=c })<|c+1,?_,λk'=>?_⟩,a4 _,sp0⟩
    · rw[hf]at I
      simp only[Instr.mapUpdate,Sem.run_bind,run_underlying hu,Result.andThen_ok,z3b h1,hk.check,I,Option.bind_none,a1]
    · simp[h2]
    · rw[y5h m k k' v hf,h3]
  | some i=>
    have hi:i<m.length:=by
      have:=l79.1 hf
      simpa using this.1
    have a0:i<D.toList.length:=by omega
    have a5:V k=(D.toList[i]).key:=by
      have a6:=List.findIdx?_eq_some_iff_getElem.1 hf
      obtain⟨b0,hp,_⟩:=a6
      have a8:k=(m.map (·.1))[i]:=by simpa using hp
      have e1:(D.toList.map (·.key))[i]?=((m.map (·.1)).map V)[i]?:=by rw[Z]
      simp only[l26,l10 a0,l10 hi,l65,l70]at e1
      rw[e1,a8];simp
    refine⟨_,?_,⟨_,_,m.modify i λp=>(p.1,v),O<|.map (D.modify i λe=>{ e with key:=V k,val:=v }) c,?_,λk'=>?_⟩,a4 _,sp0⟩
    · rw[hf]at I
      have a2:D[i]?=some D.toList[i]:=by rw[<-l45,l10 a0]
      simp only[Option.bind_some,l10 a0,l65]at I
      have a3:(Instr.keyThatStays (((D[i]?).map (·.key)).getD<|V k)<|V k).run P w=.ok (V k) w:=by
        rw[a2]
        simp only[l65,l59,<-a5,Instr.keyThatStays,hk.bits,if_true,Sem.run_pure]
      simp only[Instr.mapUpdate,Sem.run_bind,run_underlying hu,Result.andThen_ok,z3b h1,hk.check,I,a3,a1]
    · apply l69
      intro j
      have e2:=congrArg (·[j]?) h2
      simp only[l26]at e2 ⊢
      rw[l45,Array.getElem?_modify,l117]
      rw[l45]at e2
      by_cases hj:i=j
      · subst hj
        have e3:=l10 hi
        have a2:D[i]?=some D.toList[i]:=by rw[<-l45,l10 a0]
        rw[a2,e3]at e2 ⊢
        simp only[l65,l70,l94]at e2
        simp only[if_true,l65]
        rw[a5,e2.1];rfl
      · simp only[hj,if_false]
        rw[e2];simp
    · rw[y0g k k' v m i hf,h3]
variable {a:Act} {n:Nat} {L:List (Nat×Value)} {ds:List Nat} {w w':World} {Q:Exit->Act->World->Prop} {C:World->Prop} {Qa:Act->Prop} {ops:Array Oper} {rest:List Oper}
variable {d:Nat} {ty:TypeId} {pos:String} {after:Array Edge} {x y z:Operand} {t E:TypeId} {g:Nat} {f:κ->Option Value} {k:κ} {v zv:Value}
theorem v5q (V:κ->Value)(h:AgM ds a n L)(hn:lbt d n)
    (q:∀g w',g=w.heap.size->MapF V w' g (λ_=>none)->Fr [] w w'->w'.heap.size=g+1->∀a,AgM ds a n ((d,.map<|some g)::L)->wpList P ops Q rest a w'):wpList P ops Q (⟨some d,.makeMap t none,ty,pos,after,none⟩::rest) a w:=
  z2c h U hn (w':=w.alloc<|.map #[] 0) (by simp[execOp,Instr.makeMap]) (q _ _ U ⟨_,_,[],heap_alloc_new w _,sp0,λ_=>rfl⟩ (Fr.alloc [] w _) sp0)
theorem y7z (V:κ->Value)(hn:lbt d n)(q:∀g w',g=w.heap.size->MapF V w' g (λ_=>none)->Fr [] w w'->w'.heap.size=g+1->WL P ops Q rest n ds w' ((d,.map<|some g)::L)):WL P ops Q (⟨some d,.makeMap t none,ty,pos,after,none⟩::rest) n ds w L:=λa h=>v5q V h hn q
theorem u2a (h:AgM ds a n L)(Z:ev L x=some (.map<|some g))(hy:ev L y=some (V k))(I:MapF V w g f)(D:KeyLaw P K V)(O:P.underlying t=some (.map K E))(hz:∀w:World,(zeroValue E).run P w=.ok zv w) :
    (execOp a.eval ⟨some d,.lookup t x y false,ty,pos,after,none⟩).run P w=.ok (.value<|(f k).getD zv) w:=by
  simp[execOp,h.eval Z,h.eval hy,y9j I D O (hz w) k]
theorem y2p (h:AgM ds a n L)(hx:ev L x=some (.map<|some g))(hy:ev L y=some (V k))(I:MapF V w g f)(D:KeyLaw P K V)(O:P.underlying t=some (.map K E))(hz:∀w:World,(zeroValue E).run P w=.ok zv w)(Z:(f k).getD zv=v)(hn:lbt d n)
    (q:∀a,AgM ds a n ((d,v)::L)->wpList P ops Q rest a w):wpList P ops Q (⟨some d,.lookup t x y false,ty,pos,after,none⟩::rest) a w:=
  z2c h U hn (by rw[<-Z];exact u2a h hx hy I D O hz) q
theorem x3g (hx:ev L x=some (.map<|some g))(hy:ev L y=some (V k))(I:MapF V w g f)(D:KeyLaw P K V)(O:P.underlying t=some (.map K E))(hz:∀w:World,(zeroValue E).run P w=.ok zv w)(Z:(f k).getD zv=v)(hn:lbt d n)(q:WL P ops Q rest n ds w ((d,v)::L)):WL P ops Q (⟨some d,.lookup t x y false,ty,pos,after,none⟩::rest) n ds w L:=λa h=>y2p h hx hy I D O hz Z hn q
theorem v5r (h:AgM ds a n L)(Z:ev L x=some (.map<|some g))(hy:ev L y=some (V k))(I:MapF V w g f)(D:KeyLaw P K V)(O:P.underlying t=some (.map K E))(hz:∀w:World,(zeroValue E).run P w=.ok zv w) :
    (execOp a.eval ⟨some d,.lookup t x y true,ty,pos,after,none⟩).run P w=.ok (.value<|.tuple #[(f k).getD zv,.bool (f k).isSome]) w:=by
  simp[execOp,h.eval Z,h.eval hy,v0s I D O (hz w) k]
theorem y4n {D:Bool}(h:AgM ds a n L)(hx:ev L x=some (.map<|some g))(hy:ev L y=some (V k))(O:MapF V w g f)(I:KeyLaw P K V)(Z:P.underlying t=some (.map K E))(hz:∀w:World,(zeroValue E).run P w=.ok zv w)(hv:(f k).getD zv=v)(hb:(f k).isSome=D)(hn:lbt d n)
    (q:∀a,AgM ds a n ((d,.tuple #[v,.bool D])::L)->wpList P ops Q rest a w):wpList P ops Q (⟨some d,.lookup t x y true,ty,pos,after,none⟩::rest) a w:=
  z2c h U hn (by rw[<-hv,<-hb];exact v5r h hx hy O I Z hz) q
theorem z3z (H0:(ev L x,ev L y,ev L z)=(some<|.map<|some g,some<|V k,some v))(hm:MapF V w g f)(Z:KeyLaw P K V)(hu:P.underlying t=some (.map K E))(q:∀w',MapF V w' g (λk'=>if k'=k then some v else f k')->Fr [g] w w'->w'.heap.size=w.heap.size->WL P ops Q rest n ds w' L):WL P ops Q (⟨none,.insert t x y z,ty,pos,after,none⟩::rest) n ds w L:=let⟨hx,hy,hz⟩:=qi3 H0;λa h=>by
  obtain⟨w',hr,D,I,O⟩:=y3q hm Z hu k v
  exact y0a h U U (w':=w') (by simp[execOp,h.eval hx,h.eval hy,h.eval hz,hr])<|q w' D I O
theorem x1y (hx:ev L x=some (.map<|some g))(hy:ev L y=some (V k))(hz:ev L z=some v)(hm:MapF V w g f)(Z:KeyLaw P K V)(hu:P.underlying t=some (.map K E))(q:∀w',MapF V w' g (λk'=>if k'=k then some v else f k')->Fr [g] w w'->w'.heap.size=w.heap.size->WL P ops Q rest n ds w' L):WL P ops Q (⟨none,.mapUpdate t x y z,ty,pos,after,none⟩::rest) n ds w L:=λa h=>by
  obtain⟨w',hr,D,I,O⟩:=y3q hm Z hu k v
  exact y0a h U U (w':=w') (by simp[execOp,h.eval hx,h.eval hy,h.eval hz,hr])<|q w' D I O
end
end Go.Lw
namespace Go.Lw
open Go.RowKit
section
variable {P:Program} {n:Nat} {L:List (Nat×Value)} {ds:List Nat} {w w':World} {Q:Exit->Act->World->Prop} {ops:Array Oper} {rest:List Oper} {a:Act} {d:Nat} {ty T t:TypeId} {pos:String} {after:Array Edge} {v:Value} {x y:Operand}
theorem k0a {α:Type}{E:Enc α}{a0 base g cap:Nat}{zs ys:List α}(h:AgM ds a n L)(hx:ev L x=some (.slice (saa g) zs.length cap))(hy:ev L y=some v)(ho:Own E T base w (.slice (saa g) zs.length cap) zs)(hs:Sl E w v ys)(hl:ys.length=zs.length)(he:ElemOf P t T E a0)(hn:lbt d n)
    (q:∀w',Own E T base w' (.slice (saa g) zs.length cap) ys->Fr [g] w w'->w'.heap.size=w.heap.size->∀a,AgM ds a n ((d,.int .i64 (zs.length:Int))::L)->wpList P ops Q rest a w'):wpList P ops Q (⟨some d,.call ⟨.builtin .copy,#[x,y],#[t,t]⟩,ty,pos,after,none⟩::rest) a w:=by
  obtain⟨i,z,h1,h2,h3,h4,h5⟩:=he.info
  obtain⟨A,c,rfl,hc,hM,hA⟩:=hs.flat
  rcases ho with ⟨e,_⟩|⟨g',a7,cur,e,hb,hg,r1,r2,r3,r4⟩
  · cases e
  cases e
  have a2:ys.length*E.sz<=cur.size:=by rw[hl];exact l42 (l49 _ r1) r3
  obtain⟨cs,D⟩:∃cs,ys.flatMap E.enc=cs:=⟨_,rfl⟩
  have I:cs.length=zs.length*E.sz:=by rw[<-D,E.flat_len,hl]
  have Z:=E.flat_one ys
  rw[D]at Z hA
  have a3:=run_storeCells_at P g 0 T cs 0 cur w hg (by rw[I];rw[hl]at a2;simpa using a2) Z
  simp only[l72,l90,l43]at a3
  have a6:(Builtin.copy_ #[t,t] ty #[.slice (saa g) zs.length cap,.slice A ys.length c]).run P w=.ok (.int .i64 (zs.length:Int)) (w.setRow g (cs++cur.toList.drop cs.length).toArray):=by
    have a1:(Builtin.firstCells E.sz zs.length<|.slice A ys.length c).run P w=.ok cs.toArray w:=by
      by_cases hys:ys=[]
      · have h0:zs.length=0:=by rw[<-hl,hys];rfl
        have a4:cs=[]:=by rw[<-D,hys];rfl
        rw[h0,a4]
        cases A with
        | none=>simp[Builtin.firstCells]
        | some ad=>simp[Builtin.firstCells,loadCells,loadCellsFrom]
      · obtain⟨ad,rfl,a5⟩:=hA hys
        have O:=run_loadCells_list (P:=P) w ad cs a5
        rw[I]at O
        simpa[Builtin.firstCells] using O
    rw[hl]at a1
    simp only[Builtin.copy_,List.getElem?_toArray,List.getElem?_cons_zero,List.getElem?_cons_succ,Sem.run_bind,run_underlying he.und,Result.andThen_ok,Builtin.lenOf,Sem.run_pure,hl,Nat.min_self,show ∀m:Nat,Nat.min m m=m from Nat.min_self,sizeOf,typeInfo]
    simp[h1,h3,a1,a3,goInt]
  refine z2c h U hn (w':=w.setRow g (cs++cur.toList.drop cs.length).toArray) ?_<|q _ (.inr ⟨g,cap,_,by rw[hl],hb,setRow_heap w g cur _ T (0,0) hg,by rw[hl];exact r1,r2,?_,?_⟩) (Fr.setRow w g _) sp0
  · rw[z2q];unfold builtin
    simp only[l92,l28,l138,h.eval hx,h.eval hy,Sem.run_bind,a6,Result.andThen_ok,Sem.run_pure]
  · simp only[l137,l13,l39,l124];omega
  · rw[hl,<-I,D];simp
theorem z9p {α:Type}{E:Enc α}{D base g cap:Nat}{zs ys:List α}(Z:ev L x=some (.slice (saa g) zs.length cap))(hy:ev L y=some v)(ho:Own E T base w (.slice (saa g) zs.length cap) zs)(O:Sl E w v ys)(hl:ys.length=zs.length)(I:ElemOf P t T E D)(q:∀w',Own E T base w' (.slice (saa g) zs.length cap) ys->Fr [g] w w'->w'.heap.size=w.heap.size->WL P ops Q rest n ds w' ((d,.int .i64 (zs.length:Int))::L))(hn:lbt d n:=by exact U):WL P ops Q (⟨some d,.call ⟨.builtin .copy,#[x,y],#[t,t]⟩,ty,pos,after,none⟩::rest) n ds w L:=λa h=>k0a h Z hy ho O hl I hn q
end
end Go.Lw
namespace Go.Lw
open Go.RowKit
section
variable {P:Program} {n:Nat} {L:List (Nat×Value)} {ds:List Nat} {w w':World} {Q:Exit->Act->World->Prop} {ops:Array Oper} {rest:List Oper} {a:Act} {d:Nat} {ty T t:TypeId} {pos:String} {after:Array Edge} {v:Value} {x y:Operand}
theorem u7t {α:Type}{E:Enc α}{a5 base g m cap p k:Nat}{zs ys:List α}(h:AgM ds a n L)(hx:ev L x=some (.slice (some<|(⟨g,0,none⟩:Addr).add<|p*E.sz) (m-p)<|cap-p))(hy:ev L y=some v)(ho:Own E T base w (.slice (saa g) m cap) zs)(hs:Sl E w v ys)(hp:p<=m)(hk:k=min (m-p) ys.length)(he:ElemOf P t T E a5)(hn:lbt d n)
    (q:∀w',Own E T base w' (.slice (saa g) m cap) (zs.take p++ys.take k++zs.drop (p+k))->Fr [g] w w'->w'.heap.size=w.heap.size->∀a,AgM ds a n ((d,.int .i64 (k:Int))::L)->wpList P ops Q rest a w'):wpList P ops Q (⟨some d,.call ⟨.builtin .copy,#[x,y],#[t,t]⟩,ty,pos,after,none⟩::rest) a w:=by
  obtain⟨i,z,h1,h2,h3,h4,h5⟩:=he.info
  rcases ho with ⟨e,_⟩|⟨g',d4,cur,e,hb,hg,r1,r2,r3,r4⟩
  · cases e
  cases e
  obtain⟨A0,c0,e0,_,b5,_⟩:=id hs
  subst e0
  have d0:k<=ys.length:=by omega
  have d3:=hs.take U (m:=k) d0 (B:=A0) (c':=c0) oo b5<|λ_=>rfl
  obtain⟨A,c,e2,hc,hM,hA⟩:=d3.flat
  have a2:(ys.take k).length=k:=by rw[l27];omega
  rw[a2]at e2
  simp only[Value.slice.injEq]at e2
  obtain⟨rfl,-,rfl⟩:=e2
  obtain⟨cs,O⟩:∃cs,(ys.take k).flatMap E.enc=cs:=⟨_,rfl⟩
  have a0:cs.length=k*E.sz:=by rw[<-O,E.flat_len,a2]
  have a4:=E.flat_one<|ys.take k
  rw[O]at a4 hA
  have d1:p+k<=zs.length:=by omega
  have d5:p*E.sz+k*E.sz<=zs.length*E.sz:=by rw[<-l97];exact l49 _ d1
  have b8:zs.length*E.sz<=cur.size:=l42 (l49 _ r1) r3
  have b2:=run_storeCells_at P g (p*E.sz) T cs 0 cur w hg (by rw[a0];omega) a4
  rw[Nat.add_zero,a0]at b2
  have c9:(Builtin.firstCells E.sz k<|.slice A0 ys.length c0).run P w=.ok cs.toArray w:=by
    by_cases hys:ys.take k=[]
    · have h0:k=0:=by have:=congrArg List.length hys;rw[a2]at this;simpa using this
      have b6:cs=[]:=by rw[<-O,hys];rfl
      rw[h0,b6]
      cases A0 with
      | none=>simp[Builtin.firstCells]
      | some ad=>simp[Builtin.firstCells,loadCells,loadCellsFrom]
    · obtain⟨ad,rfl,b7⟩:=hA hys
      have a1:=run_loadCells_list (P:=P) w ad cs b7
      rw[a0]at a1
      simpa[Builtin.firstCells] using a1
  have b4:(Builtin.copy_ #[t,t] ty #[.slice (some<|(⟨g,0,none⟩:Addr).add<|p*E.sz) (zs.length-p) (cap-p),.slice A0 ys.length c0]).run P w=.ok (.int .i64 (k:Int)) (w.setRow g (cur.toList.take (p*E.sz)++cs++cur.toList.drop (p*E.sz+k*E.sz)).toArray):=by
    rw[z5r,l72]
    have a9:Nat.min (zs.length-p) ys.length=k:=hk.symm
    have a7:Nat.min ys.length (zs.length-p)=k:=(Nat.min_comm _ _).trans hk.symm
    simp only[Builtin.copy_,List.getElem?_toArray,List.getElem?_cons_zero,List.getElem?_cons_succ,Sem.run_bind,run_underlying he.und,Result.andThen_ok,Builtin.lenOf,Sem.run_pure,a9,sizeOf,typeInfo]
    simp[h1,h3,c9,b2,goInt,a7]
  obtain⟨D,Z,I,rfl,b3,a8⟩:∃D Z I,zs=D++(Z++I)/\D.length=p/\Z.length=k:=⟨zs.take p,(zs.drop p).take k,(zs.drop p).drop k,by rw[l25,l25],t19,by rw[l27,l39];omega⟩
  have b0:(D++(Z++I)).take p++ys.take k++(D++(Z++I)).drop (p+k)=D++(ys.take k++I):=by
    rw[<-b3,l104,<-a8,<-List.drop_drop,l142,l142,l14]
  rw[b0]at q
  have a6:(D++(ys.take k++I)).length=(D++(Z++I)).length:=by simp only[l13,a2,a8]
  have a3:cur.toList=(D++(Z++I)).flatMap E.enc++cur.toList.drop ((D++(Z++I)).length*E.sz):=by
    rw[<-r4,l25]
  have b9:(D.flatMap E.enc).length=p*E.sz:=by rw[E.flat_len,b3]
  have c1:(Z.flatMap E.enc).length=k*E.sz:=by rw[E.flat_len,a8]
  have b1:cur.toList.take (p*E.sz)++cs++cur.toList.drop (p*E.sz+k*E.sz)=(D++(ys.take k++I)).flatMap E.enc++cur.toList.drop ((D++(Z++I)).length*E.sz):=by
    generalize cur.toList.drop ((D++(Z++I)).length*E.sz)=R at a3 ⊢
    rw[a3]
    simp only[l38,l14]
    rw[<-b9,l104,<-c1,<-List.drop_drop,l142,l142,O]
  rw[b1]at b4
  refine z2c h U hn (w':=w.setRow g ((D++(ys.take k++I)).flatMap E.enc++cur.toList.drop ((D++(Z++I)).length*E.sz)).toArray) ?_<|q _ (.inr ⟨g,cap,_,by rw[a6],hb,setRow_heap w g cur _ T (0,0) hg,by rw[a6];exact r1,r2,?_,?_⟩) (Fr.setRow w g _) sp0
  · rw[z2q];unfold builtin
    simp only[l92,l28,l138,h.eval hx,h.eval hy,Sem.run_bind,b4,Result.andThen_ok,Sem.run_pure]
  · have e1:((D++(ys.take k++I)).flatMap E.enc).length=(D++(Z++I)).length*E.sz:=by rw[E.flat_len,a6]
    generalize (D++(ys.take k++I)).flatMap E.enc=X at e1
    generalize (D++(Z++I)).length*E.sz=M at e1 b8
    simp only[l137,l13,l39,l124]
    omega
  · show List.take _ _=_
    rw[show (D++(ys.take k++I)).length*E.sz=((D++(ys.take k++I)).flatMap E.enc).length by rw[E.flat_len]]
    exact l104
theorem j8r {α:Type}{E:Enc α}{D base g m cap p k:Nat}{zs ys:List α}(hx:ev L x=some (.slice (some<|(⟨g,0,none⟩:Addr).add<|p*E.sz) (m-p)<|cap-p))(hy:ev L y=some v)(ho:Own E T base w (.slice (saa g) m cap) zs)(Z:Sl E w v ys)(hp:p<=m)(O:k=min (m-p) ys.length)(I:ElemOf P t T E D)(hn:lbt d n)
 (q:∀w',Own E T base w' (.slice (saa g) m cap) (zs.take p++ys.take k++zs.drop (p+k))->Fr [g] w w'->w'.heap.size=w.heap.size->WL P ops Q rest n ds w' ((d,.int .i64 (k:Int))::L)):WL P ops Q (⟨some d,.call ⟨.builtin .copy,#[x,y],#[t,t]⟩,ty,pos,after,none⟩::rest) n ds w L:=λa h=>u7t h hx hy ho Z hp O I hn q
end
end Go.Lw
namespace Go.Lw
open Go.RowKit
theorem u1k {α:Type}{E:Enc α}{ys:List α}{i f:Nat}{z y:α}{v:Value}(I:ys[i]?=some y)(hf:f<E.sz)(Z:(E.enc y).set f v=E.enc z)(rest:List Value) :
    (ys.flatMap E.enc++rest).set (i*E.sz+f) v=(ys.set i z).flatMap E.enc++rest:=by
  have hi:=(l50.1 I).1
  have e1:ys.set i y=ys:=by
    apply l69
    intro k
    rw[l114]
    by_cases e:i=k
    · subst e;rw[if_pos U,if_pos hi,I]
    · rw[if_neg e]
  have D:=z9d (E:=E) ys y rest i hi
  have O:=z9d (E:=E) ys z rest i hi
  rw[e1]at D
  rw[<-O]
  conv=>lhs;rw[<-D]
  have hl:((ys.flatMap E.enc++rest).take<|i*E.sz).length=i*E.sz:=by
    rw[l27,l13,E.flat_len]
    have:i*E.sz+E.sz<=ys.length*E.sz:=by rw[<-Nat.succ_mul];exact l49 _ hi
    omega
  rw[l14,l56 _ _ oo,hl,l133,List.set_append_left _ _ (by rw[E.len];exact hf),Z,l14]
section
variable {P:Program} {a:Act} {n:Nat} {L:List (Nat×Value)} {ds:List Nat} {w:World} {Q:Exit->Act->World->Prop} {ops:Array Oper} {rest:List Oper} {d:Nat} {ty t T:TypeId} {pos:String} {after:Array Edge} {x y:Operand} {v:Value}
theorem y8s {α:Type}{E:Enc α}{base g m c i f:Nat}{ys:List α}(u z:α)(h:AgM ds a n L)(hx:ev L x=some (.pointer<|some<|(⟨g,0,none⟩:Addr).add<|i*E.sz+f))(hy:ev L y=some v)(ho:Own E T base w (.slice (saa g) m c) ys)(hi:ys[i]?=some u)(hf:f<E.sz)
    (hz:(E.enc u).set f v=E.enc z) (h1:v.oneCell'=true) (hc:v.cells=#[v]) (hs:z1s P t 1)
    (q:∀w',Own E T base w' (.slice (saa g) m c) (ys.set i z)->Fr [g] w w'->w'.heap.size=w.heap.size->∀a,AgM ds a n L->wpList P ops Q rest a w'):wpList P ops Q (⟨none,.store t x y,ty,pos,after,none⟩::rest) a w:=by
  rcases ho with ⟨e,_⟩|⟨g',cap,cur,e,hb,hg,r1,r2,r3,r4⟩
  · cases e
  cases e
  have O:=(l50.1 hi).1
  have h5:i*E.sz+E.sz<=ys.length*E.sz:=by rw[<-Nat.succ_mul];exact l49 _ O
  have a0:ys.length*E.sz<=cur.size:=l42 (l49 _ r1) r3
  have I:Blk w g T cur.toList:=hg
  have D:cur.toList=ys.flatMap E.enc++cur.toList.drop (ys.length*E.sz):=by rw[<-r4,l25]
  refine z8p h hx hy I (by rw[Nat.blt_eq,l124];omega) h1 hc hs λw' Z k2 k3 a h=>q w' ?_ k2 k3 a h
  have e1:cur.toList.set (i*E.sz+f) v=(ys.set i z).flatMap E.enc++cur.toList.drop (ys.length*E.sz):=by
    conv=>lhs;rw[D]
    exact u1k hi hf hz _
  rw[e1]at Z
  refine .inr ⟨g,c,_,by rw[l19],hb,Z,by rw[l19];exact r1,r2,?_,?_⟩
  · simp only[l137,l13,E.flat_len,l19,l39,l124];omega
  · rw[l19,show ys.length*E.sz=((ys.set i z).flatMap E.enc).length by rw[E.flat_len,l19]]
    exact l104
theorem u7y {α:Type}{E:Enc α}{base g m c i f:Nat}{ys:List α}(u z:α)(D:ev L x=some (.pointer<|some<|(⟨g,0,none⟩:Addr).add<|i*E.sz+f))(I:ev L y=some v)(ho:Own E T base w (.slice (saa g) m c) ys)(hi:ys[i]?=some u)(hf:f<E.sz)
 (hz:(E.enc u).set f v=E.enc z) (h1:v.oneCell'=true) (hc:v.cells=#[v]) (hs:z1s P t 1)
 (q:∀w',Own E T base w' (.slice (saa g) m c) (ys.set i z)->Fr [g] w w'->w'.heap.size=w.heap.size->WL P ops Q rest n ds w' L):WL P ops Q (⟨none,.store t x y,ty,pos,after,none⟩::rest) n ds w L:=λ_ h=>y8s u z h D I ho hi hf hz h1 hc hs q
end
end Go.Lw
namespace Go.Lw
open Go.RowKit
section
variable {P:Program} {a:Act} {n:Nat} {L:List (Nat×Value)} {w:World} {v:Value} {g g2:Nat} {T T2:TypeId} {cs cs2:List Value}
theorem k4k {fn:Func}{R:Ending->World->Prop}{p pt p2 pt2 q:Nat}(h:Ag a n L)(hr:fn.results=#[.cell p pt,.cell p2 pt2,.tmp q])(hp:look L p=some (pta g))(hb:Blk w g T cs)(Z:z4f P pt cs.length)
    (hp2:look L p2=some (pta g2)) (hb2:Blk w g2 T2 cs2) (hg2:z4f P pt2 cs2.length) (hv:look L q=some v) (k:R (.returned<|.tuple #[.agg cs.toArray,.agg cs2.toArray,v]) w):bodyPost P fn R .ret a w:=
  bodyPost_ret (v:=.tuple #[.agg cs.toArray,.agg cs2.toArray,v]) (by
    have D:=h.at_ p _ hp
    have I:=h.at_ q _ hv
    have O:=h.at_ p2 _ hp2
    simp only[l47]at D I O
    simp[results,hr,D,I,O,asAddr,loadVar,Z.1 w,Z.2 w,hg2.1 w,hg2.2 w,run_loadCells_list w _ cs hb.cells,run_loadCells_list w _ cs2 hb2.cells]) h.dfr k
theorem k5h {fn:Func}{R:Ending->World->Prop}{p pt p2 pt2 q:Nat}(I:fn.results=#[.cell p pt,.cell p2 pt2,.tmp q])(hp:look L p=some (pta g))(hb:Blk w g T cs)(D:z4f P pt cs.length)
 (hp2:look L p2=some (pta g2)) (hb2:Blk w g2 T2 cs2) (hg2:z4f P pt2 cs2.length) (hv:look L q=some v) (k:R (.returned<|.tuple #[.agg cs.toArray,.agg cs2.toArray,v]) w):EW (bodyPost P fn R) .ret n [] w L:=λ_ h=>k4k h I hp hb D hp2 hb2 hg2 hv k
end
end Go.Lw
namespace Go.Lw
open Go.RowKit
section
variable {P:Program} {n:Nat} {L:List (Nat×Value)} {ds:List Nat} {w w':World} {Q:Exit->Act->World->Prop} {ops:Array Oper} {rest:List Oper} {a:Act} {d:Nat} {ty T t:TypeId} {pos:String} {after:Array Edge} {v:Value} {x y:Operand}
end
end Go.Lw
namespace Go.Lw
open Go.RowKit
section
variable {P:Program} {n:Nat} {L:List (Nat×Value)} {ds:List Nat} {w w':World} {Q:Exit->Act->World->Prop} {ops:Array Oper} {rest:List Oper} {a:Act} {d:Nat} {ty T t tn:TypeId} {pos:String} {after:Array Edge} {v:Value} {x y:Operand}
end
end Go.Lw
namespace Go.Proofs.YtkafbfjmcigaiaaGreatDoor
open Go.Lw _root_.Go.Proofs.Tryz
theorem z5k:z4f prog 48 2:=⟨λ_=>kr,λ_=>kr⟩
theorem y3t:z4f prog 50 6:=⟨λ_=>kr,λ_=>kr⟩
theorem y8v:BuildAt prog 48 [(0,1),(1,1)] [(.int .u8 0),(.int .i64 0)]:=BuildAt.struct underlying48 (λ_=>kr)<|λ_=>kr
theorem x5b:BuildAt prog 232 [(0,1),(1,1),(2,1),(3,1)] [(.bool false),(.bool false),(.bool false),(.bool false)]:=BuildAt.struct underlying232 (λ_=>kr)<|λ_=>kr
theorem u8u:CallOf prog 26:=cO
theorem z7e:z1e prog 48 0 0:=λ_ _=>kr
theorem z7d:z1e prog 48 1 1:=λ_ _=>kr
theorem z8s:z1e prog 50 0 0:=λ_ _=>kr
theorem z9o:z1e prog 50 1 1:=λ_ _=>kr
theorem z5w:z1e prog 50 2 2:=λ_ _=>kr
theorem z4t:z1e prog 50 3 4:=λ_ _=>kr
theorem y4y:z1e prog 50 4 5:=λ_ _=>kr
theorem x2k:z1e prog 232 0 0:=λ_ _=>kr
theorem v0q:z1e prog 232 1 1:=λ_ _=>kr
theorem x9f:z1e prog 232 2 2:=λ_ _=>kr
theorem k1e:z1e prog 232 3 3:=λ_ _=>kr
theorem z2s:prog.follows .mixedOrders=true:=kr
theorem na3:z2e prog 3:=λ_=>kr
theorem na4:z2e prog 4:=λ_=>kr
theorem na5:z2e prog 5:=λ_=>kr
theorem v7d:z2e prog 44:=λ_=>kr
theorem x4g:z2e prog 45:=λ_=>kr
theorem x9t:z2e prog 46:=λ_=>kr
theorem j8c:z1s prog 232 4:=λ_=>kr
theorem x6j (w:World):(zeroValue 232).run prog w=.ok (.agg #[(.bool false),(.bool false),(.bool false),(.bool false)]) w:=kr
theorem z5m (b p:Int)(w0:World):Rets prog 26 #[.agg #[.int .u8 b,.int .i64 p]] w0 λv w'=>v=.int .i64 (z3m b p)/\Fr [] w0 w':=by
 refine wf func26 U<|sr<|bx U<|λg1 w1 a0 D Z z1=>(asg U<|nn<|sq<|sq<|rbo (r:=10) (L':=ll1 1) (((b≠0)/\(b≠1))) U ?_ ?_);refine fad U z7e<|z0i U D U x9t<|ne' U<|mv U<|gs 6 U (λg0=>?_)<|λg0=>?_;exact gY U<|fad U z7e<|gY U<|z0i U D U x9t<|gY U<|ne' U<|pkt U<|rbe U<|U;exact gN U<|gN U<|gN U<|pkf U<|rbe U<|U;refine tn<|cd U (λI=>?_)<|λI=>?_;exact sr<|asg U<|nn<|rt<|tr<|r1 U ⟨_,rfl,by rw[z3m,if_pos I],Z⟩;refine sk<|tn<|sq<|sq<|rbo (r:=18) (L':=[]) (((p<1)\/(40<p))) .nil ?_ ?_;refine fad U z7d<|z0i U D U na3<|lt' U<|mv U<|gs 14 U (λg1=>?_)<|λg1=>?_;exact gN U<|gN U<|gN U<|pkt U<|rbe U .nil;exact gY U<|fad U z7d<|gY U<|z0i U D U na3<|gY U<|gt' U<|pkf U<|rbe U .nil;refine tn<|cd U (λO=>?_)<|λO=>?_;exact sr<|asg U<|nn<|rt<|tr<|r1 U ⟨_,rfl,by rw[z3m,if_neg I,if_pos O],Z⟩;exact sk<|tn<|sr<|asg U<|nn<|rt<|r1 U ⟨_,rfl,by rw[z3m,if_neg I,if_neg O],Z⟩
def kV (k:Int):Value:=.int .u8 k
theorem y8w:KeyLaw prog 44 kV:=KeyLaw.now underlying44 (λk k'=>by simp[kV,Instr.sameNow,y8f]) (λ_ _ _=>kr) (λ_=>by simp[kV,Instr.sameBits])
theorem x1f (w0:World):Rets prog 150 #[] w0 λv w'=>∃g,v=.map (some g)/\w0.heap.size<=g/\g<w'.heap.size/\MapF kV w' g x8x/\Fr [] w0 w':=by
 refine wf func150 U<|sr<|asg U<|nn<|sr<|y7z kV U<|λI w1 O D Z z1=>?_
 refine z1r (cs:=[_,_,_,_]) (ev2 U) x5b (z0g U<|z0g U z0r) U ?_
 refine z3z (V:=kV) (k:=1) U D y8w underlying234<|λw2 D q2 z2=>?_
 refine z1r (cs:=[_,_,_,_]) (ev1 U) x5b (z0g U z0r) U ?_
 refine z3z (V:=kV) (k:=2) U D y8w underlying234<|λw3 D q3 z3=>?_
 refine z1r (cs:=[_,_,_,_]) (ev1 U) x5b (z0g U z0r) U ?_
 refine z3z (V:=kV) (k:=3) U D y8w underlying234<|λw4 D q4 z4=>?_
 refine z1r (cs:=[_,_,_,_]) (ev3 U) x5b (z0g U<|z0g U<|z0g U z0r) U ?_
 refine z3z (V:=kV) (k:=4) U D y8w underlying234<|λw5 D q5 z5=>?_
 refine z1r (cs:=[_,_,_,_]) (ev3 U) x5b (z0g U<|z0g U<|z0g U z0r) U ?_
 refine z3z (V:=kV) (k:=5) U D y8w underlying234<|λw6 D q6 z6=>?_
 refine z1r (cs:=[_,_,_,_]) (ev3 U) x5b (z0g U<|z0g U<|z0g U z0r) U ?_
 refine z3z (V:=kV) (k:=6) U D y8w underlying234<|λw7 D q7 z7=>?_
 refine z1r (cs:=[_,_,_,_]) (ev1 U) x5b (z0g U z0r) U ?_
 refine z3z (V:=kV) (k:=7) U D y8w underlying234<|λw8 D q8 z8=>?_
 refine z1r (cs:=[_,_,_,_]) (ev1 U) x5b (z0g U z0r) U ?_
 refine z3z (V:=kV) (k:=8) U D y8w underlying234<|λw9 D q9 z9=>(mv U<|asg U<|nn<|rt<|r1 U ?_)
 exact⟨_,rfl,I,rfl,oo,oo,by
  refine(funext λk=>?_:x8x=_)▸D
  unfold x8x z9n;repeat' split
  all_goals first|rfl|(simp_all [f4V];done),(((Z.z6 q2 q3 q4 q5 q6 q7).z1 q8).z1 q9)⟩
theorem q1b:v6c prog 48 ndV:=by
 intro e f O Z w;have I:∀op,(eqGuard op 48 O Z (ndV e)<|ndV f).run prog w=.ok () w:=λop=>run_eqGuard_agg w op 48 O Z _ _ kr;have D:prog.stoodInHeld 48=false:=by kernel_rfl
 obtain⟨k,y⟩:=e;obtain⟨k',y'⟩:=f;refine⟨I _,I _,?_,?_⟩;unfold ndV;simp[go_sem,D,underlying48];(repeat' split)<;>simp_all
 unfold ndV;simp[go_sem,D,underlying48];(repeat' split)<;>simp_all
theorem j0m (o:MOp)(w0:World):Rets prog 116 #[opV o] w0 λv w'=>v=.bool (decide (y9z o))/\Fr [] w0 w':=by
 refine wf func116 U<|sr<|bx U<|λg1 w1 d0 D q1 z1=>(asg U<|nn<|jn (ι:=Nat) (ll1 1) (λg3=>[(3,pta g3),(4,.bool (z9n o.k).isSome)]) (λg3 w'=>Fr [] w1 w'/\w1.heap.size<=g3/\Blk w' g3 232 (f4L<|(z9n o.k).getD f40)) U ?_ ?_);intro a h;have Z:=l12 [] w1;refine z3d (Fr []) z2s ?_;intro w2 O;have D:=D.ext O;have Z:=Z.next O;have d3:=O.size;clear O;have hC:Fr [] w2 w2:=l12 _ _;have a3:=D;refine z0c 1 h U z8s U λa h=>z0m 2 h U (fx a3.ext) U v7d U λa h=>z1v 0 7 kr U ?_ ?_;refine z0n h z0f cO (x1f _) ?_;rintro _ w3 ⟨gm,rfl,b0,b1,hm,O⟩ a h;have D:=D.ext O;have Z:=Z.next O;have hC:=hC.next O;clear O;refine z0b<|z1v 3 7 kr U ?_ ?_;refine y4n (V:=kV) (k:=o.k) h U U hm y8w underlying234 x6j (z8r _) (y4r _) U λa h=>z0b<|z0e 4 h U λa h=>z0k 5 h U λa h=>z0k 6 h U λa h=>z0d 7 U<|z0u h x6j U λw4 I O hz a h=>?_;obtain⟨a0,hg⟩:∃g,g=w3.heap.size:=⟨_,rfl⟩;rw[<-hg]at I h hz;have a8:g1<a0:=by have:=D.lt;omega
 have a2:w1.heap.size<=a0:=by have:=Z.size;omega
 have a6:w2.heap.size<=a0:=by have:=hC.size;omega
 have D:=D.ext O;have Z:=Z.next O;have hC:=hC.next O;have hm:=hm.ext O;clear O;refine z0b<|z0d 8 U<|z0t h U I U j8c ?_ (h1:=t69);intro w5 a5 O hz a h;have D:=D.fr O;have Z:=Z.sp O;have hC:=hC.sp O;have hm:=hm.fr O (by simp;exact hm.ne_blk I);clear I O hz;have I:Blk w5 a0 _ [_,_,_,_]:=a5;clear a5;refine z0b<|z0d 9 U<|z0o h U λa h=>?_;refine z0b<|z0q ?_;clear hC a3;exact xB (ll3 1 3 4) h U<|jE (a0) U ⟨Z,⟨oo,I⟩⟩;refine z0u h x6j U λw6 I O hz a h=>?_;obtain⟨a0,hg⟩:∃g,g=w3.heap.size:=⟨_,rfl⟩;rw[<-hg]at I h hz;have a8:g1<a0:=by have:=D.lt;omega
 have a2:w1.heap.size<=a0:=by have:=Z.size;omega
 have a6:w2.heap.size<=a0:=by have:=hC.size;omega
 have D:=D.ext O;have Z:=Z.next O;have hC:=hC.next O;have hm:=hm.ext O;clear O;refine z0b<|z0d 3 U<|y4n (V:=kV) (k:=o.k) h U U hm y8w underlying234 x6j (z8r _) (y4r _) U λa h=>?_;refine z0b<|z0e 4 h U λa h=>z0k 5 h U λa h=>z0k 6 h U λa h=>z0d 8 U<|z0t h U I U j8c ?_ (h1:=t69);intro w7 a5 O hz a h;have D:=D.fr O;have Z:=Z.sp O;have hC:=hC.sp O;have hm:=hm.fr O (by simp;exact hm.ne_blk I);clear I O hz;have I:Blk w7 a0 _ [_,_,_,_]:=a5;clear a5;refine z0b<|z0d 9 U<|z0o h U λa h=>?_;refine z0b<|z0q ?_;clear hC a3;exact xB (ll3 1 3 4) h U<|jE (a0) U ⟨Z,⟨oo,I⟩⟩;refine z0u h x6j U λw8 I O hz a h=>?_;obtain⟨a0,hg⟩:∃g,g=w2.heap.size:=⟨_,rfl⟩;rw[<-hg]at I h hz;have a8:g1<a0:=by have:=D.lt;omega
 have a2:w1.heap.size<=a0:=by have:=Z.size;omega
 have a6:w2.heap.size<=a0:=by have:=hC.size;omega
 have D:=D.ext O;have Z:=Z.next O;have hC:=hC.next O;clear O;refine z0b<|z0d 0 U<|z0n h z0f cO (x1f _) ?_;rintro _ w9 ⟨gm,rfl,b0,b1,hm,O⟩ a h;have D:=D.ext O;have Z:=Z.next O;have hC:=hC.next O;have I:=I.ext O;clear O;refine z0b<|z0d 3 U<|y4n (V:=kV) (k:=o.k) h U U hm y8w underlying234 x6j (z8r _) (y4r _) U λa h=>?_;refine z0b<|z0e 4 h U λa h=>z0k 5 h U λa h=>z0k 6 h U λa h=>z0d 8 U<|z0t h U I U j8c ?_ (h1:=t69);intro b9 a5 O hz a h;have D:=D.fr O;have Z:=Z.sp O;have hC:=hC.sp O;have hm:=hm.fr O (by simp;exact hm.ne_blk I);clear I O hz;have I:Blk b9 a0 _ [_,_,_,_]:=a5;clear a5;refine z0b<|z0d 9 U<|z0o h U λa h=>?_;refine z0b<|z0q ?_;clear hC a3;exact xB (ll3 1 3 4) h U<|jE (a0) U ⟨Z,⟨oo,I⟩⟩;rintro g3 c9 ⟨a1,⟨d1,I⟩⟩;have b2:=I.lt;refine kpC (ll3 1 3 4) U ?_;obtain⟨f,hf⟩:∃f,(z9n o.k).getD f40=f:=⟨_,rfl⟩;rw[hf]at I;have a7:y9z o↔(z9n o.k).isSome=true/\v4s f o:=by rw[<-hf];rfl
 replace I:Blk c9 g3 _ [.bool f.1,.bool f.2.1,.bool f.2.2.1,.bool f.2.2.2]:=I;refine sq<|sr<|mv U<|nt' U<|nn<|cd U (λc0=>?_)<|λc0=>?_;refine sr<|asg U<|nn<|rt<|tr<|r1 U ?_;exact⟨_,rfl,congrArg Value.bool (decide_eq_false (λh=>by simp[(a7.1 h).1]at c0)).symm,(q1.n1 a1)⟩;refine sk<|tn<|sq<|sq<|rbo (r:=35) (L':=ll2 1 3) ((((f.1=true/\(o.d≠0))/\(o.d≠1))\/((¬f.1=true)/\(o.d≠0)))) U ?_ ?_;refine fad U x2k<|z0i U I U na4<|mv U<|gs 16 U (λg0=>?_)<|λg0=>?_;refine gY U<|fad U z9o<|gY U ?_;have D:=D.ext a1;refine z0i U D U x4g<|gY U<|ne' U<|pkt U<|mv U<|gs 21 U (λg1=>?_)<|λg1=>?_;refine gY U<|fad U z9o<|gY U<|z0i U D U x4g<|gY U<|ne' U<|pkt U<|mv U<|gs 26 U (λg2=>?_)<|λg2=>?_;exact gN U<|gN U<|gN U<|gN U<|gS U<|gS U<|gS U<|gN U<|pkt U<|rbe U<|U;refine gY U<|fad U x2k<|gY U<|z0i U I U na4<|gY U<|nt' U<|gY U<|mv U<|gs 30 U (λg3=>?_)<|λg3=>?_;exact gY U<|fad U z9o<|gY U<|z0i U D U x4g<|gY U<|ne' U<|gY U<|pkt U<|pkf U<|rbe U<|U;exact gN U<|gN U<|gN U<|gY U<|pkf U<|pkf U<|rbe U<|U;refine gN U<|gN U<|gN U<|pkf U<|mv U<|gY U<|fad U x2k<|gY U<|z0i U I U na4<|gY U<|nt' U<|gY U<|mv U<|gs 30 U (λg4=>?_)<|λg4=>?_;exact gY U<|fad U z9o<|gY U<|z0i U D U x4g<|gY U<|ne' U<|gY U<|pkt U<|pkf U<|rbe U<|U;exact gN U<|gN U<|gN U<|gY U<|pkf U<|pkf U<|rbe U<|U;refine gN U<|gN U<|gN U<|pkf U<|mv U<|gN U<|gN U<|gN U<|pkf U<|mv U<|gY U<|fad U x2k<|gY U<|z0i U I U na4<|gY U<|nt' U<|gY U<|mv U<|gs 30 U (λg5=>?_)<|λg5=>?_;refine gY U<|fad U z9o<|gY U ?_;have D:=D.ext a1;exact z0i U D U x4g<|gY U<|ne' U<|gY U<|pkt U<|pkf U<|rbe U<|U;exact gN U<|gN U<|gN U<|gY U<|pkf U<|pkf U<|rbe U<|U;refine tn<|cd U (λc1=>?_)<|λc1=>?_;refine sr<|asg U<|nn<|rt<|tr<|r1 U ?_;exact⟨_,rfl,congrArg Value.bool (decide_eq_false<|λh=>(a7.1 h).2.1 c1).symm,(q1.n1 a1)⟩;refine sk<|tn<|sq<|sq<|u0i (r:=54) (L':=ll2 1 3) (((f.2.1=true/\((z3m o.b o.p)≠0))\/((¬f.2.1=true)/\(¬(o.b=0/\o.p=0))))) U ?_ ?_;refine fad U v0q<|z0i U I U na4<|mv U<|gs 38 U (λg6=>?_)<|λg6=>?_;refine gY U<|fad U z5w<|gY U ?_;have D:=D.ext a1;refine z1u (vs:=[_,_]) U D z5k U<|gY U<|cl (ev1 U) u8u (z5m _ _ _) ?_;rintro _ d4 ⟨rfl,a9⟩;refine gY U<|ne' U<|pkt U<|mv U<|gs 44 U (λg7=>?_)<|λg7=>?_;exact gN U<|gN U<|gN U<|gN U<|gS U<|gS U<|gS U<|gS U<|gN U<|pkt U<|y3v U U a9;refine gY U<|fad U v0q<|gY U ?_;have I:=I.ext a9;refine z0i U I U na4<|gY U<|nt' U<|gY U<|mv U<|gs 48 U (λg8=>?_)<|λg8=>?_;refine gY U<|fad U z5w<|gY U ?_;have D:=D.ext a9;exact z1u (vs:=[_,_]) U D z5k U<|gY U<|z1r (cs:=[_,_]) z0f y8v z0r U<|gY U<|j6l (V:=ndV) (e:=(_,_)) (f:=(_,_)) U U q1b U<|gY U<|pkt U<|pkf U<|y3v U U a9;exact gN U<|gN U<|gN U<|gN U<|gY U<|pkf U<|pkf U<|y3v U U a9;refine gN U<|gN U<|gN U<|gN U<|pkf U<|mv U<|gY U<|fad U v0q<|gY U<|z0i U I U na4<|gY U<|nt' U<|gY U<|mv U<|gs 48 U (λg9=>?_)<|λg9=>?_;refine gY U<|fad U z5w<|gY U ?_;have D:=D.ext a1;exact z1u (vs:=[_,_]) U D z5k U<|gY U<|z1r (cs:=[_,_]) z0f y8v z0r U<|gY U<|j6l (V:=ndV) (e:=(_,_)) (f:=(_,_)) U U q1b U<|gY U<|pkt U<|pkf U<|y3v U U<|l12 _ _;exact gN U<|gN U<|gN U<|gN U<|gY U<|pkf U<|pkf U<|y3v U U<|l12 _ _;intro d5 a4;have d6:=a4.size;refine tn<|cd U (λc2=>?_)<|λc2=>?_;refine sr<|asg U<|nn<|rt<|tr<|r1 U ?_;exact⟨_,rfl,congrArg Value.bool (decide_eq_false<|λh=>(a7.1 h).2.2.1 c2).symm,(q1.n2 a1 a4)⟩;refine sk<|tn<|sq<|sq<|rbo (r:=76) (L':=ll2 1 3) (((f.2.2.1=true/\((o.y<1)\/(6<o.y)))\/((¬f.2.2.1=true)/\(o.y≠0)))) U ?_ ?_;refine fad U x9f ?_;have I:=I.ext a4;refine z0i U I U na4<|mv U<|gs 57 U (λb3=>?_)<|λb3=>?_;refine gY U<|fad U z4t<|gY U ?_;have D:=D.ext<|a1.n1 a4;refine z0i U D U na5<|gY U<|lt' U<|gY U<|mv U<|gs 61 U (λb4=>?_)<|λb4=>?_;exact gN U<|gN U<|gN U<|gY U<|pkt U<|pkt U<|mv U<|gN U<|gN U<|gN U<|gN U<|gS U<|gS U<|gS U<|gN U<|pkt U<|rbe U<|U;refine gY U<|fad U z4t<|gY U<|z0i U D U na5<|gY U<|gt' U<|gY U<|pkf U<|pkt U<|mv U<|gs 67 U (λb5=>?_)<|λb5=>?_;exact gN U<|gN U<|gN U<|gN U<|gS U<|gS U<|gS U<|gN U<|pkt U<|rbe U<|U;refine gY U<|fad U x9f<|gY U<|z0i U I U na4<|gY U<|nt' U<|gY U<|mv U<|gs 71 U (λb6=>?_)<|λb6=>?_;exact gY U<|fad U z4t<|gY U<|z0i U D U na5<|gY U<|ne' U<|gY U<|pkt U<|pkf U<|rbe U<|U;exact gN U<|gN U<|gN U<|gY U<|pkf U<|pkf U<|rbe U<|U;refine gN U<|gN U<|gN U<|gN U<|gS U<|gS U<|gS U<|gN U<|pkf U<|mv U<|gY U<|fad U x9f<|gY U<|z0i U I U na4<|gY U<|nt' U<|gY U<|mv U<|gs 71 U (λb7=>?_)<|λb7=>?_;refine gY U<|fad U z4t<|gY U ?_;have D:=D.ext<|a1.n1 a4;exact z0i U D U na5<|gY U<|ne' U<|gY U<|pkt U<|pkf U<|rbe U<|U;exact gN U<|gN U<|gN U<|gY U<|pkf U<|pkf U<|rbe U<|U;refine tn<|cd U (λc3=>?_)<|λc3=>?_;refine sr<|asg U<|nn<|rt<|tr<|r1 U ?_;exact⟨_,rfl,congrArg Value.bool (decide_eq_false<|λh=>(a7.1 h).2.2.2.1 c3).symm,(q1.n2 a1 a4)⟩;refine sk<|tn<|sq<|rbo (r:=2) (L':=[]) ((f.2.2.2=true\/(o.r=0))) .nil ?_ ?_;refine fad U k1e ?_;have I:=I.ext a4;refine z0i U I U na4<|mv U<|gs 79 U (λb8=>?_)<|λb8=>?_;exact gN U<|gN U<|gN U<|pkt U<|asg U<|rbe U .nil;refine gY U<|fad U y4y<|gY U ?_;have D:=D.ext<|a1.n1 a4;exact z0i U D U na3<|gY U<|eq' U<|pkf U<|asg U<|rbe U .nil;refine tn<|rt<|r1 U ?_;exact⟨_,rfl,congrArg Value.bool<|decide_eq_decide.2 ⟨λh=>a7.2 ⟨by revert c0;cases (z9n o.k).isSome<;>simp,c1,c2,c3,h⟩,λh=>(a7.1 h).2.2.2.2⟩,(q1.n2 a1 a4)⟩
theorem y3m (o:MOp)(w0:World):Rets prog 63 #[opV o] w0 λv w'=>v=.int .i64 (z8v o)/\Fr [] w0 w':=by
 refine wf func63 U<|sr<|bx U<|λg1 w1 a0 D q1 z1=>(asg U<|nn<|sq<|sr<|z0l U D y3t<|cl (ev1 U) cO (j0m o _) ?_);rintro _ w2 ⟨rfl,O⟩;refine nt' U<|nn<|cd U (λI=>?_)<|λI=>?_;exact sr<|asg U<|nn<|rt<|tr<|r1 U ⟨_,rfl,by rw[z8v,if_pos I],(q1.n1 O)⟩;refine sk<|tn<|sq<|sq<|rbo (r:=13) (L':=[]) (((o.r < -4)\/(4<o.r))) .nil ?_ ?_;refine fad U y4y ?_;have D:=D.ext O;refine z0i U D U na3<|lt' U<|mv U<|gs 9 U (λg0=>?_)<|λg0=>?_;exact gN U<|gN U<|gN U<|pkt U<|rbe U .nil;exact gY U<|fad U y4y<|gY U<|z0i U D U na3<|gY U<|gt' U<|pkf U<|rbe U .nil;refine tn<|cd U (λZ=>?_)<|λZ=>?_;exact sr<|asg U<|nn<|rt<|tr<|r1 U ⟨_,rfl,by rw[z8v,if_neg I,if_pos Z],(q1.n1 O)⟩;exact sk<|tn<|sr<|asg U<|nn<|rt<|r1 U ⟨_,rfl,by rw[z8v,if_neg I,if_neg Z],(q1.n1 O)⟩
open Go.Lw Go.G21 Go.G08 _root_.Go.Proofs.Tryz
theorem z2y:z4f prog 54 2:=⟨λ_=>kr,λ_=>kr⟩
theorem z9y:z4f prog 172 4:=⟨λ_=>kr,λ_=>kr⟩
theorem z9r:z1e prog 54 0 0:=λ_ _=>kr
theorem y1k:z1e prog 54 1 1:=λ_ _=>kr
theorem x8i:z1e prog 172 0 0:=λ_ _=>kr
theorem z8z:z1e prog 172 2 3:=λ_ _=>kr
theorem q0t:z1s prog 45 1:=λ_=>kr
def idV (i:LId):Value:=.agg (idL i).toArray
def paV (p:Pa):Value:=.agg (paL p).toArray
theorem k8w:v6c prog 54 idV:=by
 intro e f O Z w;have I:∀op,(eqGuard op 54 O Z (idV e)<|idV f).run prog w=.ok () w:=λop=>run_eqGuard_agg w op 54 O Z _ _ kr;have D:prog.stoodInHeld 54=false:=by kernel_rfl
 obtain⟨y,n⟩:=e;obtain⟨y',n'⟩:=f;refine⟨I _,I _,?_,?_⟩;unfold idV;simp[go_sem,D,underlying54];(repeat' split)<;>simp_all
 unfold idV;simp[go_sem,D,underlying54];(repeat' split)<;>simp_all
theorem eqPa:v6c prog 172 paV:=by
 intro e f O Z w;have I:∀op,(eqGuard op 172 O Z (paV e)<|paV f).run prog w=.ok () w:=λop=>run_eqGuard_agg w op 172 O Z _ _ kr;have D:prog.stoodInHeld 172=false:=by kernel_rfl
 obtain⟨⟨y,n⟩,b,d⟩:=e;obtain⟨⟨y',n'⟩,b',d'⟩:=f;refine⟨I _,I _,?_,?_⟩;unfold paV;simp[go_sem,D,underlying172];(repeat' split)<;>simp_all
 unfold paV;simp[go_sem,D,underlying172];(repeat' split)<;>simp_all
theorem x3d (i:LId)(w0:World):Rets prog 97 #[ivv i] w0 λr w'=>r=.bool (decide (y2t i))/\Fr [] w0 w':=by
 refine wf func97 U<|sr<|bx U<|λI w1 Z D q1 z1=>(asg U<|nn<|sq<|rbo (r:=2) (L':=[]) (((((1<=i.y)/\(i.y<=6))/\(0<=i.n))/\(i.n<2048))) .nil ?_ ?_);refine fad U z9r<|z0i U D U na5<|ge' U<|mv U<|gs 6 U (λO=>?_)<|λO=>?_;refine gY U<|fad U z9r<|gY U<|z0i U D U na5<|gY U<|le' U U<|pkt U<|mv U<|gs 11 U (λI=>?_)<|λI=>?_;refine gY U<|fad U y1k<|gY U<|z0i U D U na3<|gY U<|ge' U<|pkt U<|mv U<|gs 16 U (λg2=>?_)<|λg2=>?_;exact gY U<|fad U y1k<|gY U<|z0i U D U na3<|gY U<|lt' U<|pkt U<|asg U<|rbe U .nil;exact gN U<|gN U<|gN U<|pkf U<|asg U<|rbe U .nil;exact gN U<|gN U<|gN U<|pkf U<|mv U<|gN U<|gN U<|gN U<|pkf U<|asg U<|rbe U .nil;exact gN U<|gN U<|gN U<|pkf U<|mv U<|gN U<|gN U<|gN U<|pkf U<|mv U<|gN U<|gN U<|gN U<|pkf U<|asg U<|rbe U .nil;refine tn<|rt<|r1 U ?_;exact⟨_,rfl,congrArg Value.bool<|decide_eq_decide.2 (by unfold y2t;omega),q1⟩
theorem y6b (d:Int)(w0:World):Rets prog 137 #[.int .u8 d] w0 λr w'=>r=.bool (decide (z4w d))/\Fr [] w0 w':=by
 refine wf func137 U<|sr<|asg U<|nn<|sq<|rbo (r:=2) (L':=[]) (((d=0)\/(d=1))) .nil ?_ ?_;refine mv U<|eq' U<|mv U<|gs 5 U (λD=>?_)<|λD=>?_;exact gN U<|gN U<|pkt U<|asg U<|rbe U .nil;exact gY U<|mv U<|gY U<|eq' U<|pkf U<|asg U<|rbe U .nil;refine tn<|rt<|r1 U ?_;exact⟨_,rfl,congrArg Value.bool<|decide_eq_decide.2 (by unfold z4w;omega),(l12 _ _)⟩
theorem v2f (p:Pa)(w0:World):Rets prog 99 #[.agg #[.int .u8 p.id.y,.int .i64 p.id.n,.bool p.f,.int .u8 p.d]] w0 λr w'=>r=.bool (decide (y2w p))/\Fr [] w0 w':=by
 refine wf func99 U<|sr<|bx U<|λg1 w1 a0 D q1 z1=>(asg U<|nn<|sq<|u0i (r:=2) (L':=[]) (((y2t ⟨p.id.y,p.id.n⟩)/\(z4w p.d))) .nil ?_ ?_);refine fad U x8i<|z1u (vs:=[_,_]) U D z2y U<|cl (ev1 U) cO (x3d ⟨_,_⟩ _) ?_;rintro _ w2 ⟨rfl,I⟩;refine mv U<|gs 6 U (λZ=>?_)<|λZ=>?_;refine gY U<|fad U z8z<|gY U ?_;have D:=D.ext I;refine z0i U D U x4g<|gY U<|cl (ev1 U) cO (y6b _ _) ?_;rintro _ w3 ⟨rfl,q3⟩;exact pkt U<|asg U<|y3v U .nil<|I.n1 q3;exact gN U<|gN U<|gN U<|pkf U<|asg U<|y3v U .nil I;intro w4 O;have z4:=O.size;refine tn<|rt<|r1 U ?_;exact⟨_,rfl,congrArg Value.bool<|decide_eq_decide.2 (by rfl),(q1.n1 O)⟩
theorem y9f (x:Int)(w0:World):Rets prog 98 #[.int .i64 x] w0 λr w'=>r=.bool (decide (x2y x))/\Fr [] w0 w':=by
 refine wf func98 U<|sr<|asg U<|nn<|sq<|rbo (r:=2) (L':=[]) (((((Int.tmod x 2)≠0)/\(-13<=x))/\(x<=179))) .nil ?_ ?_;refine mv U<|y5q U t32<|ne' U<|mv U<|gs 6 U (λD=>?_)<|λD=>?_;refine gY U<|mv U<|gY U<|ge' U<|pkt U<|mv U<|gs 10 U (λI=>?_)<|λI=>?_;exact gY U<|mv U<|gY U<|le' U U<|pkt U<|asg U<|rbe U .nil;exact gN U<|gN U<|pkf U<|asg U<|rbe U .nil;exact gN U<|gN U<|pkf U<|mv U<|gN U<|gN U<|pkf U<|asg U<|rbe U .nil;refine tn<|rt<|r1 U ?_;exact⟨_,rfl,congrArg Value.bool<|decide_eq_decide.2 (by unfold x2y;exact and_assoc),(l12 _ _)⟩
theorem x7m (p q:Pa)(w0:World):Rets prog 100 #[.agg #[.int .u8 p.id.y,.int .i64 p.id.n,.bool p.f,.int .u8 p.d],.agg #[.int .u8 q.id.y,.int .i64 q.id.n,.bool q.f,.int .u8 q.d]] w0 λr w'=>r=.bool (decide (u1z p q))/\Fr [] w0 w':=by
 refine wf func100 U<|sr<|bx U<|λg2 w1 a0 I q1 z1=>(bx U<|λg3 w2 a1 D q2 z2=>(asg U<|nn<|sq<|sq<|u0i (r:=21) (L':=ll2 2 3) ((((¬(z4w p.d))\/(¬(z4w q.d)))\/(p.d=q.d))) U ?_ ?_));refine fad U z8z ?_;have I:=I.ext q2;refine z0i U I U x4g<|cl (ev1 U) cO (y6b _ _) ?_;rintro _ w3 ⟨rfl,O⟩;refine nt' U<|mv U<|gs 9 U (λg0=>?_)<|λg0=>?_;exact gN U<|gN U<|gN U<|gN U<|pkt U<|mv U<|gN U<|gN U<|gN U<|gN U<|gN U<|pkt U<|y3v U U O;refine gY U<|fad U z8z<|gY U ?_;have D:=D.ext O;refine z0i U D U x4g<|gY U<|cl (ev1 U) cO (y6b _ _) ?_;rintro _ w4 ⟨rfl,q4⟩;refine gY U<|nt' U<|pkf U<|mv U<|gs 15 U (λg1=>?_)<|λg1=>?_;exact gN U<|gN U<|gN U<|gN U<|gN U<|pkt U<|y3v U U<|O.n1 q4;refine gY U<|fad U z8z<|gY U ?_;have I:=I.ext<|O.n1 q4;refine z0i U I U x4g<|gY U<|fad U z8z<|gY U ?_;have D:=D.ext q4;exact z0i U D U x4g<|gY U<|eq' U<|pkf U<|y3v U U<|O.n1 q4;intro w5 Z;have z5:=Z.size;refine tn<|cd U (λc0=>?_)<|λc0=>?_;refine sr<|asg U<|nn<|rt<|tr<|r1 U ?_;exact⟨_,rfl,congrArg Value.bool (decide_eq_false<|j4k c0).symm,(q1.n2 q2 Z)⟩;refine sk<|tn<|sr<|fad U z8z ?_;have I:=I.ext<|q2.n1 Z;refine z0i U I U x4g<|fad U z8z ?_;have D:=D.ext Z;refine z3r U D U q0t<|λw6 D q6 z6=>?_;replace D:Blk w6 g3 _ [_,_,_,_]:=D;refine nn<|sr ?_;have I:=I.fr q6;refine z0l U I z9y<|z0l U D z9y<|q1a (V:=paV) (e:=p) (f:=(⟨q.id,q.f,p.d⟩:Pa)) U U eqPa U<|asg U<|nn<|rt<|r1 U ?_;exact⟨_,rfl,congrArg Value.bool<|decide_eq_decide.2<|j6c c0,(q1.z3 q2 Z q6)⟩
theorem z5g:ElemOf prog 108 172 z2k 24:=ElemOf.mk' (z:=(.agg #[.int .u8 0,.int .i64 0,.bool false,.int .u8 0])) underlying108 kr U
theorem x3t (w:World):(zeroValue 172).run prog w=.ok (.agg #[(.int .u8 0),(.int .i64 0),(.bool false),(.int .u8 0)]) w:=kr
theorem y0y (v:Value)(l:List Pa)(w0:World)(I:Sl z2k w0 v l)(hl:l.length<=100000):Rets prog 191 #[v] w0 λr w'=>∃A,r=.slice A l.length l.length/\Lw.Own z2k 172 w0.heap.size w' r l/\Fr [] w0 w':=by
 obtain⟨A,c,rfl,a0,hM,hA⟩:=id I;clear hA;unfold maxLen at hM;refine wf func191 U ?_;have O:=I;refine sr<|asg U<|nn<|sr<|mv U<|lnS U<|z1g (m:=l.length) (c:=l.length) (pa0) U z5g x3t U<|λg6 w1 a1 D Z z1=>(asg U<|nn<|sr<|mv U<|mv U ?_);have I:=O.ext Z;refine z9p (zs:=List.replicate l.length pa0) t35 U (by rw[l22];exact D) I t36 z5g<|λw2 D q2 z2=>?_;rw[l22]at D;exact nn<|sr<|mv U<|asg U<|nn<|rt<|r1 U ⟨_,rfl,some ⟨g6,0,none⟩,rfl,D.low oo,(Z.z1 q2)⟩
theorem x6i:z1s prog 172 4:=λ_=>kr
theorem u0e (base:Nat)(u v:Value)(st l:List Pa)(w0:World)(ho:Lw.Own z2k 172 base w0 u st)(hs:Sl z2k w0 v l)(hd:∀k∈z0v v,k<base)(hb:base<=w0.heap.size)(hn:st.length+l.length<=100000):Rets prog 190 #[u,v] w0 λr w'=>∃S,Lw.Own z2k 172 base w' r (z3x st l)/\(∀k∈S,base<=k)/\Fr S w0 w':=by
 obtain⟨A,c,rfl,b8,hM,hA⟩:=id hs;clear hA;unfold maxLen at hM;refine wf func190 U ?_;have b3:=hs;refine sr<|asg U<|nn<|sq<|sr<|mv U<|lnS U<|mv U<|nn<|bl<|lpK (ι:=Nat×Value) (ll2 8 9) (λp=>[(10,.int .i64 (p.1:Int)),(0,p.2)]) (λp w'=>p.1<=l.length/\Lw.Own z2k 172 base w' p.2 (z3x st<|l.take p.1)/\base<=w'.heap.size/\(∃S,(∀k∈S,base<=k)/\Fr S w0 w')) (λp=>l.length-p.1) (0,u) U ⟨l16 _,ho,hb,[],sp0,l12 _ _⟩ ?_;rintro⟨i,vT⟩ w1 ⟨hi,ho,hb,⟨S,hS,qS⟩⟩;simp only at hi ho;refine kpC [(8,_),(9,_),(10,.int .i64 (i:Int)),(0,vT)] U ?_;have hs:=b3.fr qS (λk O b2=>by have:=hS k O;have:=hd k b2;omega);have a9:=z5u (l.take i) st;rw[l27]at a9;obtain⟨ps,a0⟩:∃x,x=z3x st (l.take i):=⟨_,rfl⟩;rw[<-a0]at ho a9;obtain⟨AT,cT,rfl,b7⟩:=ho.sl.form;have a3:=ho;have b1:=ho.sl.len_le;unfold maxLen at b1;refine sr<|lt' U<|nn<|sq<|cd U (λc0=>?_)<|λc0=>?_;refine sk<|tn<|sq<|bl<|sr<|z1a (pa0) U hs U z5g z1j<|λb5 a6=>?_;refine z1q U (a6 _ hs) z9y<|al x3t U<|λg6 w2 b9 I q2 z2=>?_;refine z0j (vs:=[_,_,_,_]) U I x6i (λw3 I q3 z3=>?_) (h1:=(by first|(simp[Value.oneCell',S];done)|exact z2k.one<|l.getD i pa0));refine nn<|sr<|mv U<|lnS U<|asg U<|nn<|sq ?_;have ho:=(ho.ext q2).fr q3 (by first|exact z9x ho oo|simp[z0v]<;>omega);intro a h;refine rgh none (Fr []) ?_;intro w4 q4 hC;have z4:=q4.size;have ho:=ho.ext q4;have I:=I.ext q4;have a2:=ho;have Z:=I;refine z0e 0 h U λa h=>v6y 1 hC h wn U U λa h=>z0e 2 h U λa h=>gSp (D:=18) h U ?_ ?_;intro g0 h;refine z0e 3 h U ?_ (hG:=(wy U));intro a h;refine z0e 4 h U ?_ (hG:=(wy U));intro a h;refine z3a 5 h U t12 U ?_ (hG:=(wy U));intro a h;refine z1d (p:=(ps.length-1)) (pa0) 6 h U ho.sl U z5g U ?_ (hG:=(wy U));intro b6 a7 a h;refine z1z 7 h (wy U) U (λ_ hw=>a7 _<|a2.sl.ext hw) z9y U λa h=>z0x 8 h U (fx Z.ext) z9y U ?_ (hG:=(wy U));intro a h;refine z0d 9 U<|z5a h U U U U<|z0n h (z0a U<|z0a U z0f) cO (x7m (ps.getD (ps.length-1) pa0) (l.getD i pa0) _) ?_;rintro _ w5 ⟨rfl,q5⟩ a h;have z5:=q5.size;have ho:=ho.ext q5;have I:=I.ext q5;have hC:=hC.next q5;refine z0b<|z0d 10 U<|z4z h U λa h=>?_;refine z0b<|z0q ?_;clear hC a2 Z;refine xB (ll7 0 6 7 8 9 10 26) h U<|tn<|cd U (λc1=>?_)<|λc1=>?_;exact rg<|mv U<|mv U<|z2i U (wi6 oo)<|mv U<|k7n U underlying108 U<|u4s (p:=(ps.length-1)) (p':=cT) U U U z5g oo oo oo oo oo U<|asg U<|kpL (ll4 0 8 9 10) U<|nl<|bn'<|tn<|rg<|ad6 U<|mv U<|nl<|lpE ((i+1,_)) U ⟨sm,by rw[y4a st l i oo,<-a0,z7r,if_pos ⟨oo,c1⟩];exact ho.take U oo oo oo,oo,S++z0v (.slice AT ps.length cT),(λk O=>(l23.1 O).elim (hS k)<|λO=>(a3.blk k O).1),qS.trans ((l12 (z0v<|.slice AT ps.length cT) _).z4 q2 q3 q4 q5)⟩ sm;refine rg<|mv U<|z0l U I z9y<|z1i ([l.getD i pa0]) (ev1 U) U z5g<|λb0 w6 a8 a1 q6 z6=>?_;have ho:=ho.ext q6;have a4:=ho;refine z2l U ho a1.sl z5g<|λb4 w7 ho q7 a5=>?_;have z7:=q7.size;exact asg U<|kpL (ll4 0 8 9 10) U<|nl<|bn'<|tn<|rg<|ad6 U<|mv U<|nl<|lpE ((i+1,_)) U ⟨sm,by rw[y4a st l i oo,<-a0,z7r,if_neg (by first|exact λe=>c1 e.2|exact λe=>absurd e.1 oo)];exact ho,oo,S++z0v (.slice AT ps.length cT),(λk O=>(l23.1 O).elim (hS k)<|λO=>(a3.blk k O).1),qS.trans (((l12 (z0v<|.slice AT ps.length cT) _).z5 q2 q3 q4 q5 q6).step q7<|λk O _=>O)⟩ sm;intro g0 h;refine z1n 3 h U U λa h=>z1n 4 h U U λa h=>z1n 5 h U U λa h=>z1n 6 h U U λa h=>z1n 7 h U U λa h=>z1n 8 h U U λa h=>z1n 9 h U U λa h=>z0d 10 U<|z2x h U λa h=>?_;refine z0b<|z0q ?_;clear hC a2 Z;refine xB (ll7 0 6 7 8 9 10 26) h U<|tn<|cf U<|rg<|mv U<|z0l U I z9y<|z1i ([l.getD i pa0]) (ev1 U) U z5g<|λb0 w8 a8 a1 q8 z8=>?_;have ho:=ho.ext q8;have a4:=ho;refine z2l U ho a1.sl z5g<|λb4 w9 ho q9 a5=>?_;have z9:=q9.size;exact asg U<|kpL (ll4 0 8 9 10) U<|nl<|bn'<|tn<|rg<|ad6 U<|mv U<|nl<|lpE ((i+1,_)) U ⟨sm,by rw[y4a st l i oo,<-a0,z7r,if_neg (by first|exact λe=>c1 e.2|exact λe=>absurd e.1 oo)];exact ho,oo,S++z0v (.slice AT ps.length cT),(λk O=>(l23.1 O).elim (hS k)<|λO=>(a3.blk k O).1),qS.trans (((l12 (z0v<|.slice AT ps.length cT) _).z4 q2 q3 q4 q8).step q9<|λk O _=>O)⟩ sm;exact ex<|te<|te<|xh<|tn<|sr<|mv U<|asg U<|kpL (ll1 4) U<|nn<|rt<|r1 U ⟨_,rfl,S,by rw[l86 oo]at a0;rw[<-a0];exact ho,hS,qS⟩
theorem z9m:z1e prog 110 0 0:=λ_ _=>kr
theorem z6i:z1e prog 110 1 1:=λ_ _=>kr
theorem z9g:z1e prog 110 2 2:=λ_ _=>kr
theorem u4c:z1e prog 110 3 3:=λ_ _=>kr
theorem z8d:z1e prog 110 4 4:=λ_ _=>kr
theorem y1j:z2e prog 108:=λ_=>kr
theorem y0e (q:YQ)(w0:World)(hp:Sl z2k w0 (slv q.pe) q.pes):Rets prog 47 #[yvv q] w0 λr w'=>r=.int .i64 (ynE q.p)/\Fr [] w0 w':=by
 have a3:=z2f hp;have a7:=hp.len_le;unfold maxLen at a7;refine wf func47 U ?_;have a6:=hp;refine sr<|bx U<|λg1 w1 b0 I q1 z1=>(asg U<|nn<|sq<|sq<|rbo (r:=12) (L':=ll1 1) (((q.ct<0)\/(2048<q.ct))) U ?_ ?_);refine fad U z9g<|z0i U I U na3<|lt' U<|mv U<|gs 8 U (λg0=>?_)<|λg0=>?_;exact gN U<|gN U<|gN U<|pkt U<|rbe U<|U;exact gY U<|fad U z9g<|gY U<|z0i U I U na3<|gY U<|gt' U<|pkf U<|rbe U<|U;refine tn<|cd U (λc0=>?_)<|λc0=>?_;exact sr<|asg U<|nn<|rt<|tr<|r1 U ⟨_,rfl,by rw[yn_a c0],q1⟩;refine sk<|tn<|sq<|sr<|fad U z9m<|z0i U I U na4<|nt' U<|nn<|cd U (λc1=>?_)<|λc1=>?_;refine sq<|sq<|rbo (r:=28) (L':=[]) ((((q.pl≠0)\/q.nw=true)\/(0<(q.pe.2.1:Int)))) .nil ?_ ?_;refine fad U z6i<|z0i U I U na3<|ne' U<|mv U<|gs 19 U (λg1=>?_)<|λg1=>?_;exact gN U<|gN U<|pkt U<|mv U<|gN U<|gN U<|gN U<|gN U<|pkt U<|rbe U .nil;refine gY U<|fad U u4c<|gY U<|z0i U I U na4<|pkf U<|mv U<|gs 23 U (λg2=>?_)<|λg2=>?_;exact gN U<|gN U<|gN U<|gN U<|pkt U<|rbe U .nil;exact gY U<|fad U z8d<|gY U<|z0i U I U y1j<|gY U<|lnS U<|gY U<|gt' U<|pkf U<|rbe U .nil;refine tn<|cd U (λc2=>?_)<|λc2=>?_;refine sr<|asg U<|nn<|rt<|tr<|tr<|r1 U ?_;have Z:q.inn=false:=(by simpa using c1);exact⟨_,rfl,by rw[yn_b Z (by simpa[a3] using c2)],q1⟩;refine sk<|tn<|sr<|asg U<|nn<|rt<|tr<|r1 U ?_;have Z:q.inn=false:=(by simpa using c1);exact⟨_,rfl,by rw[yn_c c0 Z (by simpa[a3] using c2)],q1⟩;refine sk<|tn<|sq<|sq<|u0i (r:=38) (L':=ll1 1) (((¬(x2y q.pl))\/(4096<(q.pe.2.1:Int)))) U ?_ ?_;refine fad U z6i<|z0i U I U na3<|cl (ev1 U) cO (y9f _ _) ?_;rintro _ w2 ⟨rfl,q2⟩;have z2:=q2.size;refine nt' U<|mv U<|gs 33 U (λg3=>?_)<|λg3=>?_;exact gN U<|gN U<|gN U<|gN U<|pkt U<|y3v U U q2;refine gY U<|fad U z8d<|gY U ?_;have I:=I.ext q2;exact z0i U I U y1j<|gY U<|lnS U<|gY U<|gt' U<|pkf U<|y3v U U q2;intro w3 q3;have z3:=q3.size;refine tn<|cd U (λc3=>?_)<|λc3=>?_;refine sr<|asg U<|nn<|rt<|tr<|r1 U ?_;have Z:q.inn=true:=(by simpa using c1);exact⟨_,rfl,by rw[yn_d Z (by simpa[a3] using c3)],(q1.n1 q3)⟩;refine sk<|tn<|sq<|sr<|fad U z8d ?_;have I:=I.ext q3;refine z0i U I U y1j<|lnS U<|mv U<|nn<|bl<|lpK (ι:=Nat) (ll3 1 40 41) (λi=>[(42,.int .i64 (i:Int))]) (λi w'=>Fr [] w3 w'/\i<=q.pes.length/\∀j,j<i->u2x q.pes j) (λi=>q.pes.length-i) 0 U ⟨l12 _ _,⟨l16 _,λj h=>absurd h oo⟩⟩ ?_;rintro i w4 ⟨q4,⟨hi,hg⟩⟩;have z4:=q4.size;refine kpC (ll4 1 40 41 42) U<|sr<|lt' U<|nn<|sq<|cd U (λc4=>?_)<|λc4=>?_;refine sk<|tn<|sq<|bl<|sr<|mv U ?_;have hp:=a6.ext<|q1.n2 q3 q4;refine z1a (p:=i) (pa0) U hp U z5g oo<|λa8 a4=>(z1q U (a4 _ hp) z9y<|al x3t U<|λg4 w5 b1 a1 q5 z5=>?_);refine asg U<|z0j (vs:=[_,_,_,_]) U a1 x6i (λw6 a1 q6 z6=>?_) (h1:=(by first|(simp[Value.oneCell',S];done)|exact z2k.one<|q.pes.getD i pa0));refine nn<|sq ?_;have hp:=a6.ext<|q1.z4 q3 q4 q5 q6;have I:=(I.ext<|q4.n1 q5).fr q6;intro a h;refine rgh none (Fr []) ?_;intro w7 q7 hC;have z7:=q7.size;have hp:=hp.ext q7;have I:=I.ext q7;have a1:=a1.ext q7;have a2:=hp;have a0:=I;have O:=a1;refine z0x 0 h U (fx O.ext) z9y U λa h=>z0d 1 U<|z0n h (z0a U z0f) cO (v2f (q.pes.getD i pa0) _) ?_;rintro _ w8 ⟨rfl,q8⟩ a h;have z8:=q8.size;have hp:=hp.ext q8;have I:=I.ext q8;have a1:=a1.ext q8;have hC:=hC.next q8;refine z0b<|y1l 2 hC h wn U U λa h=>z0e 3 h U λa h=>?_;refine gSp (D:=50) h U ?_ ?_;intro g4 h;refine z1n 4 h U U λa h=>z1n 5 h U U λa h=>z1n 6 h U U λa h=>x6w 7 hC h U U U λa h=>x6w 8 hC h U U U λa h=>x6w 9 hC h U U U λa h=>x6w 10 hC h U U U λa h=>x6w 11 hC h U U U λa h=>x6w 12 hC h U U U λa h=>x6w 13 hC h U U U λa h=>x6w 14 hC h U U U λa h=>z1n 15 h U U λa h=>z0d 16 U<|z4z h U λa h=>?_;refine z0b<|z0q ?_;clear hC a2 a0 O;refine xB (ll5 1 40 41 42 63) h U<|tn<|ct U<|sr<|asg U<|nn<|rt<|rb<|tr<|tr<|rb<|tr<|r1 U ?_;have Z:q.inn=true:=(by simpa using c1);exact⟨_,rfl,by rw[yn_e Z (i:=i) (by show i<q.pes.length;omega) (λh=>by first|exact absurd h.1 t13|exact h.2 oo c5)],(q1.z6 q3 q4 q5 q6 q7 q8)⟩;intro g4 h;refine z0e 4 h U ?_ (hG:=(wy U));intro a h;refine v6y 5 hC h (wy U) U U λa h=>z0e 6 h U ?_ (hG:=(wy U));intro a h;refine gSp (D:=53) h U ?_ ?_;intro g5 h;refine z0c 7 h U z8d U ?_ (hG:=(wy U));intro a h;refine z0m 8 h U (fx a0.ext) U y1j U ?_ (hG:=(wy U));intro a h;refine z0e 9 h U ?_ (hG:=(wy U));intro a h;refine z3a 10 h U t12 U ?_ (hG:=(wy U));intro a h;refine z1d (p:=(i-1)) (pa0) 11 h U hp U z5g U ?_ (hG:=(wy U));intro a9 a5 a h;refine z1z 12 h (wy U) U (λ_ hw=>a5 _<|a2.ext hw) z9y U λa h=>z0x 13 h U (fx O.ext) z9y U ?_ (hG:=(wy U));intro a h;refine z0d 14 U<|z5a h U U U U<|z0n h (z0a U<|z0a U z0f) cO (x7m (q.pes.getD (i-1) pa0) (q.pes.getD i pa0) _) ?_;rintro _ w9 ⟨rfl,q9⟩ a h;have z9:=q9.size;have hp:=hp.ext q9;have I:=I.ext q9;have a1:=a1.ext q9;have hC:=hC.next q9;refine z0b<|z0d 15 U<|tW h<|kY U<|pkt U ?_;intro a h;refine z0b<|z0d 16 U<|z2x h U λa h=>?_;refine z0b<|z0q ?_;clear hC a2 a0 O;refine xB (ll5 1 40 41 42 63) h U<|tn<|cd U (λc5=>?_)<|λc5=>?_;refine sr<|asg U<|nn<|rt<|rb<|tr<|tr<|rb<|tr<|r1 U ?_;have Z:q.inn=true:=(by simpa using c1);exact⟨_,rfl,by rw[yn_e Z (i:=i) (by show i<q.pes.length;omega) (λh=>by first|exact absurd h.1 t13|exact h.2 oo c5)],((q1.z6 q3 q4 q5 q6 q7 q8).n1 q9)⟩;refine sk<|bn'<|tn<|rg<|ad6 U<|mv U<|nl ?_;exact lpE (i+1) U ⟨(q4.z5 q5 q6 q7 q8 q9),⟨oo,λj hj=>by
  by_cases e:j<i;exact hg j e;obtain rfl:j=i:=by omega
  exact⟨t13,λh0=>by first|exact c5|exact absurd h0 oo⟩⟩⟩ oo
 clear h;intro g5 h;refine z1n 7 h U U λa h=>z1n 8 h U U λa h=>z1n 9 h U U λa h=>z1n 10 h U U λa h=>z1n 11 h U U λa h=>z1n 12 h U U λa h=>z1n 13 h U U λa h=>z1n 14 h U U λa h=>z0d 15 U<|tW h<|kY U<|pkf U ?_;intro a h;refine z0b<|z0d 16 U<|z2x h U λa h=>?_;refine z0b<|z0q ?_;clear hC a2 a0 O;refine xB (ll5 1 40 41 42 63) h U<|tn<|cf U<|sk<|bn'<|tn<|rg<|ad6 U<|mv U<|nl ?_;exact lpE (i+1) U ⟨(q4.z4 q5 q6 q7 q8),⟨oo,λj hj=>by
  by_cases e:j<i;exact hg j e;obtain rfl:j=i:=by omega
  exact⟨t13,λh0=>by first|exact c5|exact absurd h0 oo⟩⟩⟩ oo
 obtain rfl:i=q.pes.length:=by omega
 refine ex<|te<|te<|xh<|tn<|sr<|asg U<|nn<|rt<|r1 U ?_;have Z:q.inn=true:=(by simpa using c1);exact⟨_,rfl,by rw[yn_f c0 Z (by simpa[a3] using c3) hg],(q1.n2 q3 q4)⟩
theorem z3v:z4f prog 110 5:=⟨λ_=>kr,λ_=>kr⟩
theorem y0p:BuildAt prog 110 [(0,1),(1,1),(2,1),(3,1),(4,1)] [(.bool false),(.int .i64 0),(.int .i64 0),(.bool false),(.slice none 0 0)]:=BuildAt.struct underlying110 (λ_=>kr)<|λ_=>kr
theorem k5g:CallOf prog 47:=cO
theorem sz3:z1s prog 3 1:=λ_=>kr
theorem k1i:z1s prog 108 1:=λ_=>kr
theorem z3y:z1s prog 110 5:=λ_=>kr
theorem z6w (w:World):(zeroValue 110).run prog w=.ok (.agg #[(.bool false),(.int .i64 0),(.int .i64 0),(.bool false),(.slice none 0 0)]) w:=kr
theorem v4e (q:YQ)(pl:Int)(v:Value)(l:List Pa)(w0:World)(hp:Sl z2k w0 (slv q.pe) q.pes)(hs:Sl z2k w0 v l)(hv:∀k∈z0v v,k<w0.heap.size)(hl:l.length<=50000):Rets prog 143 #[yvv q,.int .i64 pl,v] w0 λr w'=>∃q':YQ,r=.tuple #[yvv q',.int .i64 (goE q.p pl l)]/\(goE q.p pl l=0->q'.p=goS q.p pl l/\Lw.Own z2k 172 w0.heap.size w' (slv q'.pe) q'.pes)/\Fr [] w0 w':=by
 have f7:=z2f hp;have d1:=hp.len_le;unfold maxLen at d1;obtain⟨A,c,rfl,f3,hM,hA⟩:=id hs;clear hA;unfold maxLen at hM;refine wf func143 U ?_;have b4:=hp;have b5:=hs;refine sr<|bx U<|λg3 w1 f4 I q1 z1=>(al z6w U<|λg6 w2 f5 D q2 z2=>(asg U<|nn<|sq<|sr ?_));have I:=I.ext q2;refine z0l U I z3v ?_;have hp:=b4.ext<|q1.n1 q2;refine cl (ev1 U) k5g (y0e q _ hp) ?_;rintro _ w3 ⟨rfl,q3⟩;have z3:=q3.size;refine asg U<|nn<|sr<|mv U<|ne' U<|nn<|cd U (λc0=>?_)<|λc0=>?_;refine sr<|z1r (cs:=[_,_,_,_,_]) z0f y0p z0r U ?_;refine mv U ?_;have D:=D.ext q3;refine z0j (vs:=[_,_,_,_,_]) U D z3y (λw4 D q4 z4=>?_) (h1:=(by first|(simp[Value.oneCell',S];done)|exact z2k.one<|l.getD i pa0));refine asg U<|kpL (ll2 6 7) U<|nn<|rt<|tr<|rCT U U D z3v U ?_;have he:goE q.p pl l=ynE q.p:=by unfold goE;rw[if_pos c0]
 exact⟨_,rfl,yq0,by rw[he];rfl,(λh=>absurd h (by rw[he];exact c0)),(q1.z3 q2 q3 q4)⟩;have d4:=u2u<|l15.1 c0;refine sk<|tn<|sq<|sr<|mv U<|cl (ev1 U) cO (y9f _ _) ?_;rintro _ w5 ⟨rfl,q5⟩;have z5:=q5.size;refine nt' U<|nn<|cd U (λc1=>?_)<|λc1=>?_;refine sr<|z1r (cs:=[_,_,_,_,_]) z0f y0p z0r U ?_;have D:=D.ext<|q3.n1 q5;refine z0j (vs:=[_,_,_,_,_]) U D z3y (λw6 D q6 z6=>?_) (h1:=(by first|(simp[Value.oneCell',S];done)|exact z2k.one<|l.getD i pa0));refine asg U<|nn<|rt<|tr<|rCT U U D z3v U ?_;have he:goE q.p pl l=1:=by unfold goE;rw[if_neg c0,if_pos (by simpa using c1)]
 exact⟨_,rfl,yq0,by rw[he];rfl,(λh=>absurd h (by rw[he];decide)),(q1.z4 q2 q3 q5 q6)⟩;refine sk<|tn<|sq<|sr<|mv U<|lnS U<|mv U<|nn<|bl<|lpK (ι:=Nat) (ll6 1 2 3 6 22 23) (λi=>[(24,.int .i64 (i:Int))]) (λi w'=>Fr [] w5 w'/\i<=l.length/\∀j,j<i->y2w (l.getD j pa0)) (λi=>l.length-i) 0 U ⟨l12 _ _,⟨l16 _,λj h=>absurd h oo⟩⟩ ?_;rintro i w7 ⟨q7,⟨hi,hg⟩⟩;have z7:=q7.size;refine kpC (ll7 1 2 3 6 22 23 24) U<|sr<|lt' U<|nn<|sq<|cd U (λc2=>?_)<|λc2=>?_;refine sk<|tn<|sq<|bl<|sr ?_;have hs:=b5.ext<|q1.n4 q2 q3 q5 q7;refine z1a (pa0) U hs U z5g z1j<|λe4 b3=>?_;refine z1q U (b3 _ hs) z9y<|al x3t U<|λf2 w8 e6 a5 q8 z8=>?_;refine z0j (vs:=[_,_,_,_]) U a5 x6i (λw9 a5 q9 z9=>?_) (h1:=(by first|(simp[Value.oneCell',S];done)|exact z2k.one<|l.getD i pa0));refine nn<|sr<|z0l U a5 z9y<|cl (ev1 U) cO (v2f (l.getD i pa0) _) ?_;rintro _ f9 ⟨rfl,a8⟩;have h0:=a8.size;refine nt' U<|nn<|cd U (λc3=>?_)<|λc3=>?_;refine sr<|z1r (cs:=[_,_,_,_,_]) z0f y0p z0r U ?_;have D:=((D.ext<|q3.n3 q5 q7 q8).fr q9).ext a8;refine z0j (vs:=[_,_,_,_,_]) U D z3y (λg0 D d5 h2=>?_) (h1:=(by first|(simp[Value.oneCell',S];done)|exact z2k.one<|l.getD i pa0));refine asg U<|kpL (ll2 6 7) U<|nn<|rt<|rb<|tr<|tr<|rb<|tr<|rCT U U D z3v U ?_;have he:goE q.p pl l=1:=by unfold goE;rw[if_neg c0,if_neg (by simpa using c1),if_pos (λa4=>(by simpa using c3:¬y2w (l.getD i pa0))<|a4 _<|z1b oo)]
 exact⟨_,rfl,yq0,by rw[he];rfl,(λh=>absurd h (by rw[he];decide)),(((q1.z6 q2 q3 q5 q7 q8 q9).n1 a8).z1 d5)⟩;refine sk<|bn'<|tn<|rg<|ad6 U<|mv U<|nl ?_;exact lpE (i+1) U ⟨(q7.z3 q8 q9 a8),⟨oo,λj hj=>by
  by_cases e:j<i;exact hg j e;obtain rfl:j=i:=by omega
  exact l15.1 (by simpa using c3)⟩⟩ oo
 obtain rfl:i=l.length:=by omega
 have a4:v7e l:=λp d3=>by
  obtain⟨j,hj,rfl⟩:=l29 d3;have:=hg j hj;rwa [List.getD,l10 hj]at this
 refine ex<|te<|te<|xh<|tn<|sq<|sr<|fad U z9m ?_;have I:=I.ext<|q3.n2 q5 q7;refine z0i U I U na4<|nt' U<|kpL (ll5 1 2 3 6 35) U<|nn<|cd U (λc4=>?_)<|λc4=>?_;refine sr<|z1r (cs:=[_,_,_,_,_]) z0f y0p z0r U ?_;have D:=D.ext<|q3.n2 q5 q7;refine z0j (vs:=[_,_,_,_,_]) U D z3y (λg1 D d6 h3=>?_) (h1:=(by first|(simp[Value.oneCell',S];done)|exact z2k.one<|l.getD i pa0));refine asg U<|nn<|rt<|tr<|rCT U U D z3v U ?_;have he:goE q.p pl l=12:=by unfold goE;rw[if_neg c0,if_neg (by simpa using c1),if_neg (λe=>e a4),if_pos (by simpa using c4)]
 exact⟨_,rfl,yq0,by rw[he];rfl,(λh=>absurd h (by rw[he];decide)),(q1.z5 q2 q3 q5 q7 d6)⟩;have c9:q.inn=true:=(by simpa using c4);have b6:=d4.2;rw[if_pos c9]at b6;have f6:q.pes.length<=4096:=b6.2.1;refine sk<|tn<|sr<|fad U z8d<|z0i U I U y1j<|lnS U<|mv U<|lnS U<|ad6 U<|z1g (m:=0) (c:=(q.pe.2.1+l.length)) (pa0) U z5g x3t U<|λb2 g4 e7 ho a2 h4=>(asg U<|kpL (ll5 1 2 3 6 11) U<|nn<|sr<|mv U<|fad U z8d ?_);have I:=I.ext a2;refine z0i U I U y1j ?_;have D:=D.ext<|q3.n3 q5 q7 a2;have hp:=b4.ext<|q1.n5 q2 q3 q5 q7 a2;have O:=ho;refine z2l U ho hp z5g (λb8 d9 ho a3 d0=>?_) (hM:=(by unfold maxLen;simp only[l22];omega)) (hb:=(by simp only[l22];omega));have h5:=a3.size;have I:=I.fr a3 (λZ=>by have:=(O.blk _ Z).1;omega);have D:=D.fr a3 (λZ=>by have:=(O.blk _ Z).1;omega);replace ho:Lw.Own z2k 172 b2 d9 b8 q.pes:=ho;refine mv U ?_;have hs:=b5.ext<|(q1.n5 q2 q3 q5 q7 a2).step a3<|λk Z a7=>absurd (O.blk k Z).1 oo;refine cl (ev2 U) cO (u0e b2 b8 _ q.pes l _ ho hs (λk Z=>by have:=hv k Z;omega) oo oo) ?_;rintro f0 g5 ⟨e9,ho,a1,a6⟩;have I:=I.fr a6 (λZ=>by have:=a1 _ Z;omega);have D:=D.fr a6 (λZ=>by have:=a1 _ Z;omega);have h6:=a6.size;have f8:=z5u l q.pes;obtain⟨e8,f1,rfl,e5⟩:=ho.sl.form;refine asg U<|kpL (ll4 1 3 6 11) U<|nn<|sq<|sr<|mv U<|lnS U<|gt' U<|nn<|cd U (λc5=>?_)<|λc5=>?_;refine sr<|z1r (cs:=[_,_,_,_,_]) z0f y0p z0r U ?_;refine z0j (vs:=[_,_,_,_,_]) U D z3y (λg7 D d7 h7=>?_) (h1:=(by first|(simp[Value.oneCell',S];done)|exact z2k.one<|l.getD i pa0));refine asg U<|nn<|rt<|tr<|rCT U U D z3v U ?_;have he:goE q.p pl l=3:=by unfold goE;rw[if_neg c0,if_neg (by simpa using c1),if_neg (λe=>e a4),if_neg (by simpa using c4),if_pos (by show 4096<(z3x q.pes l).length;omega)]
 exact⟨_,rfl,yq0,by rw[he];rfl,(λh=>absurd h (by rw[he];decide)),((((q1.n5 q2 q3 q5 q7 a2).step a3<|λk Z a7=>absurd (O.blk k Z).1 oo).step a6<|λk Z a7=>absurd (a1 k Z) oo).sp d7)⟩;refine sk<|tn<|sr<|mv U<|fad U z6i<|z3r U I U sz3<|λe0 I b0 h8=>?_;replace I:Blk e0 g3 _ [_,_,_,_,_]:=I;refine nn<|sr<|mv U ?_;have ho:=ho.fr b0 (by first|exact z9x ho oo|simp[z0v]<;>omega);refine cl (ev1 U) cO (y0y _ _ _ ho.sl oo) ?_;rintro _ g8 ⟨b9,rfl,a0,a9⟩;have h9:=a9.size;refine fad U z8d ?_;have I:=I.ext a9;refine z3r U I U k1i<|λe3 I b1 i0=>?_;replace I:Blk e3 g3 _ [_,_,_,_,_]:=I;refine nn<|sr<|z0l U I z3v ?_;have D:=((D.fr b0).ext a9).fr b1;refine z0j (vs:=[_,_,_,_,_]) U D z3y (λg9 D b7 i1=>?_) (h1:=(by first|(simp[Value.oneCell',S];done)|exact z2k.one<|l.getD i pa0));refine asg U<|nn<|rt<|rCT U U D z3v U ?_;have a0:=(a0.fr b1 (by first|exact z9x a0 oo|simp[z0v]<;>omega)).fr b7 (by first|exact z9x a0 oo|simp[z0v]<;>omega);have he:goE q.p pl l=0:=by unfold goE;rw[if_neg c0,if_neg (by simpa using c1),if_neg (λe=>e a4),if_neg (by simpa using c4),if_neg (by show ¬4096<(z3x q.pes l).length;omega)]
 exact⟨_,rfl,⟨q.inn,pl,q.ct,q.nw,(b9,(z3x q.pes l).length,(z3x q.pes l).length),z3x q.pes l⟩,by rw[he],(λ_=>⟨rfl,a0.low oo⟩),(((((((q1.n5 q2 q3 q5 q7 a2).step a3<|λk Z a7=>absurd (O.blk k Z).1 oo).step a6<|λk Z a7=>absurd (a1 k Z) oo).sp b0).next a9).sp b1).sp b7)⟩
theorem v0h:z4f prog 226 3:=⟨λ_=>kr,λ_=>kr⟩
theorem u4r:BuildAt prog 226 [(0,1),(1,1),(2,1)] [(.int .i64 0),(.bool false),(.slice none 0 0)]:=BuildAt.struct underlying226 (λ_=>kr)<|λ_=>kr
theorem x7l:z1s prog 226 3:=λ_=>kr
theorem x5r (w:World):(zeroValue 226).run prog w=.ok (.agg #[(.int .i64 0),(.bool false),(.slice none 0 0)]) w:=kr
theorem y2o (q:YQ)(w0:World)(hp:Sl z2k w0 (slv q.pe) q.pes)(hv:∀k∈z0v (slv q.pe),k<w0.heap.size):Rets prog 146 #[yvv q] w0 λr w'=>∃(q':YQ) (n:Int) (nw:Bool) (s:SV) (ps:List Pa),r=.tuple #[yvv q',.agg #[.int .i64 n,.bool nw,.slice s.1 s.2.1 s.2.2],.int .i64 (mkE q.p)]/\(mkE q.p=0->q'=⟨true,q.pl,q.ct+1,false,sv0,[]⟩/\n=q.ct/\nw=q.nw/\ps=q.pes/\Lw.Own z2k 172 w0.heap.size w' (slv s) ps)/\Fr [] w0 w':=by
 have g4:=z2f hp;have e8:=hp.len_le;unfold maxLen at e8;refine wf func146 U ?_;have d9:=hp;refine sr<|bx U<|λg1 w1 f7 Z q1 z1=>(al z6w U<|λg2 w2 f8 D q2 z2=>(al x5r U<|λg3 w3 f9 I q3 z3=>(asg U<|nn<|sq<|sr ?_)));have Z:=Z.ext<|q2.n1 q3;refine z0l U Z z3v ?_;have hp:=d9.ext<|q1.n2 q2 q3;refine cl (ev1 U) k5g (y0e q _ hp) ?_;rintro _ w4 ⟨rfl,q4⟩;have z4:=q4.size;refine asg U<|nn<|sr<|mv U<|ne' U<|nn<|cd U (λc0=>?_)<|λc0=>?_;refine sr<|z1r (cs:=[_,_,_,_,_]) z0f y0p z0r U ?_;refine z1r (cs:=[_,_,_]) z0f u4r z0r U ?_;refine mv U ?_;have D:=D.ext<|q3.n1 q4;refine z0j (vs:=[_,_,_,_,_]) U D z3y<|λw5 D q5 z5=>?_;have I:=(I.ext q4).fr q5;refine z0j (vs:=[_,_,_]) U I x7l<|λw6 I q6 z6=>(asg U<|kpL (ll3 2 3 4) U<|nn<|rt<|tr ?_);have D:=D.fr q6;refine k5h U U D z3v U I v0h U ?_;have he:mkE q.p=ynE q.p:=by unfold mkE;rw[if_pos c0]
 exact⟨_,rfl,yq0,0,false,sv0,[],by rw[he];rfl,(λh=>absurd h (by rw[he];exact c0)),(q1.z5 q2 q3 q4 q5 q6)⟩;have e0:=u2u<|l15.1 c0;refine sk<|tn<|sq<|sr<|fad U z9m ?_;have Z:=Z.ext q4;refine z0i U Z U na4<|nt' U<|nn<|cd U (λc1=>?_)<|λc1=>?_;refine sr<|z1r (cs:=[_,_,_,_,_]) z0f y0p z0r U ?_;refine z1r (cs:=[_,_,_]) z0f u4r z0r U ?_;have D:=D.ext<|q3.n1 q4;refine z0j (vs:=[_,_,_,_,_]) U D z3y<|λw7 D q7 z7=>?_;have I:=(I.ext q4).fr q7;refine z0j (vs:=[_,_,_]) U I x7l<|λw8 I q8 z8=>(asg U<|nn<|rt<|tr ?_);have D:=D.fr q8;refine k5h U U D z3v U I v0h U ?_;have he:mkE q.p=12:=by unfold mkE;rw[if_neg c0,if_pos (by simpa using c1)]
 exact⟨_,rfl,yq0,0,false,sv0,[],by rw[he];rfl,(λh=>absurd h (by rw[he];decide)),(q1.z5 q2 q3 q4 q7 q8)⟩;have e7:q.inn=true:=(by simpa using c1);have e3:=e0.2;rw[if_pos e7]at e3;have g0:q.pes.length<=4096:=e3.2.1;have f6:0<=q.ct/\q.ct<=2048:=e0.1;refine sk<|tn<|sq<|sr<|fad U z9g<|z0i U Z U na3<|eq' U<|nn<|cd U (λc2=>?_)<|λc2=>?_;refine sr<|z1r (cs:=[_,_,_,_,_]) z0f y0p z0r U ?_;refine z1r (cs:=[_,_,_]) z0f u4r z0r U ?_;have D:=D.ext<|q3.n1 q4;refine z0j (vs:=[_,_,_,_,_]) U D z3y<|λw9 D q9 z9=>?_;have I:=(I.ext q4).fr q9;refine z0j (vs:=[_,_,_]) U I x7l<|λg5 I e4 g9=>(asg U<|nn<|rt<|tr ?_);have D:=D.fr e4;refine k5h U U D z3v U I v0h U ?_;have he:mkE q.p=3:=by unfold mkE;rw[if_neg c0,if_neg (by simpa using c1),if_pos c2]
 exact⟨_,rfl,yq0,0,false,sv0,[],by rw[he];rfl,(λh=>absurd h (by rw[he];decide)),(q1.z5 q2 q3 q4 q9 e4)⟩;refine sk<|tn<|sq ?_;have hp:=d9.ext<|q1.n3 q2 q3 q4;intro a h;refine rgh none (Fr []) ?_;intro d7 b5 hC;have h0:=b5.size;have hp:=hp.ext b5;have Z:=Z.ext b5;have D:=D.ext<|q3.n2 q4 b5;have I:=I.ext<|q4.n1 b5;have d5:=hp;have a0:=Z;have a4:=D;have a5:=I;refine z0c 0 h U z9g U λa h=>z0m 1 h U (fx a0.ext) U na3 U λa h=>z0c 2 h U u4c U λa h=>z0m 3 h U (fx a0.ext) U na4 U λa h=>z0c 4 h U z8d U λa h=>z0m 5 h U (fx a0.ext) U y1j U λa h=>z1v 6 8 kr U ?_ ?_;refine z0n h (z0a U z0f) cO (y0y _ _ _ hp oo) ?_;rintro _ e9 ⟨d6,rfl,O,b6⟩ a h;have h1:=b6.size;have Z:=Z.ext b6;have D:=D.ext b6;have I:=I.ext b6;have hC:=hC.next b6;have b4:=λk hk=>(O.blk k hk).2;refine z0b<|z3j (cs:=[_,_,_]) 7 h (z0a U<|z0a U<|z0a U z0f) u4r (z0g U<|z0g U<|z0g U z0r) U U λa h=>z0d 8 U ?_;refine z0u h x5r U λg6 a1 b0 hz a h=>?_;obtain⟨a8,hg⟩:∃g,g=e9.heap.size:=⟨_,rfl⟩;rw[<-hg]at a1 h hz;have a7:g1<a8:=by have:=Z.lt;omega
 have a7:g2<a8:=by have:=D.lt;omega
 have a7:g3<a8:=by have:=I.lt;omega
 have h2:=b0.size;have hp:=hp.ext<|b6.n1 b0;have Z:=Z.ext b0;have D:=D.ext b0;have I:=I.ext b0;have O:=O.ext b0;have hC:=hC.next b0;refine z0b<|z0d 9 U<|z0t h U a1 U x7l λf0 a3 b1 hz a h=>?_;have h3:=b1.size;have hp:=hp.fr b1 (by intro k hk a2;simp at hk;subst hk;have:=hv _ a2;omega);have Z:=Z.fr b1;have D:=D.fr b1;have I:=I.fr b1;have O:=O.fr b1 (by intro k hk a2;simp at hk;subst hk;have d4:=b4 _ a2;have:=O.blk _ a2;omega);have hC:=hC.sp b1;have a1:Blk f0 a8 _ [_,_,_]:=a3;clear a3;refine z0b<|z0q ?_;clear hC d5 a0 a4 a5;refine xB (ll4 1 2 3 6) h U<|tn<|sq ?_;intro a h;refine rgh none (Fr [g2,g3]) ?_;intro e5 b7 hC;have h4:=b7.size;have Z:=Z.ext b7;have D:=D.ext b7;have I:=I.ext b7;have O:=O.ext b7;have a1:=a1.ext b7;have a0:=Z;have a4:=D;have a5:=I;have a9:=O;have a6:=a1;refine z0c 0 h U z6i U λa h=>z0m 1 h U (λ_ hw=>a0.fr hw so) U na3 U λa h=>z0c 2 h U z9g U λa h=>z0m 3 h U (λ_ hw=>a0.fr hw so) U na3 U λa h=>z6t 4 h U t12 U λa h=>z3j (cs:=[_,_,_,_,_]) 5 h (z0a U<|z0a U<|z0a U z0f) y0p (z0g U<|z0g U<|z0g U z0r) U U λa h=>z0x 6 h U (λ_ hw=>a6.fr hw so) v0h U λa h=>z0d 7 U ?_;refine z0t h U D U z3y λf1 a3 b8 hz a h=>?_;have h5:=b8.size;have Z:=Z.fr b8;have I:=I.fr b8;have O:=O.fr b8 (by intro k hk a2;simp at hk;subst hk;have d4:=b4 _ a2;have:=O.blk _ a2;omega);have a1:=a1.fr b8;have hC:=hC.sp b8;have D:Blk f1 g2 _ [_,_,_,_,_]:=a3;clear a3;refine z0b<|z0d 8 U<|z0t h U I U x7l λf2 a3 b9 hz a h=>?_;have h6:=b9.size;have Z:=Z.fr b9;have D:=D.fr b9;have O:=O.fr b9 (by intro k hk a2;simp at hk;subst hk;have d4:=b4 _ a2;have:=O.blk _ a2;omega);have a1:=a1.fr b9;have hC:=hC.sp b9;have I:Blk f2 g3 _ [_,_,_]:=a3;clear a3;refine z0b<|z0d 9 U<|z0o h U λa h=>?_;refine z0b<|z0q ?_;clear hC a0 a4 a5 a9 a6;refine xB (ll3 2 3 4) h U<|tn<|rt<|k5h U U D z3v U I v0h U ?_;have he:mkE q.p=0:=by unfold mkE;rw[if_neg c0,if_neg (by simpa using c1),if_neg c2]
 exact⟨_,rfl,⟨true,q.pl,q.ct+1,false,sv0,[]⟩,q.ct,q.nw,(d6,q.pes.length,q.pes.length),q.pes,by rw[he];rfl,(λ_=>⟨rfl,rfl,rfl,rfl,O.low oo⟩),((((q1.n6 q2 q3 q4 b5 b6 b0).z1 b1).n1 b7).z2 b8 b9)⟩;refine z0u h x5r U λg7 a1 c9 hz a h=>?_;obtain⟨a8,hg⟩:∃g,g=d7.heap.size:=⟨_,rfl⟩;rw[<-hg]at a1 h hz;have a7:g1<a8:=by have:=Z.lt;omega
 have a7:g2<a8:=by have:=D.lt;omega
 have a7:g3<a8:=by have:=I.lt;omega
 have h7:=c9.size;have hp:=hp.ext c9;have hC:=hC.next c9;refine z0b<|z0d 6 U<|z0n h (z0a U z0f) cO (y0y _ _ _ hp oo) ?_;rintro _ g8 ⟨d6,rfl,O,b2⟩ a h;have h8:=b2.size;have hp:=hp.ext b2;have Z:=Z.ext<|c9.n1 b2;have D:=D.ext<|c9.n1 b2;have I:=I.ext<|c9.n1 b2;have a1:=a1.ext b2;have hC:=hC.next b2;have b4:=λk hk=>(O.blk k hk).2;refine z0b<|z3j (cs:=[_,_,_]) 7 h (z0a U<|z0a U<|z0a U z0f) u4r (z0g U<|z0g U<|z0g U z0r) U U λa h=>z0d 9 U ?_;refine z0t h U a1 U x7l λf3 a3 b3 hz a h=>?_;have h9:=b3.size;have hp:=hp.fr b3 (by intro k hk a2;simp at hk;subst hk;have:=hv _ a2;omega);have Z:=Z.fr b3;have D:=D.fr b3;have I:=I.fr b3;have O:=O.fr b3 (by intro k hk a2;simp at hk;subst hk;have d4:=b4 _ a2;have:=O.blk _ a2;omega);have hC:=hC.sp b3;have a1:Blk f3 a8 _ [_,_,_]:=a3;clear a3;refine z0b<|z0q ?_;clear hC d5 a0 a4 a5;refine xB (ll4 1 2 3 6) h U<|tn<|sq ?_;intro a h;refine rgh none (Fr [g2,g3]) ?_;intro e6 d0 hC;have i0:=d0.size;have Z:=Z.ext d0;have D:=D.ext d0;have I:=I.ext d0;have a1:=a1.ext d0;have O:=O.ext d0;have a0:=Z;have a4:=D;have a5:=I;have a6:=a1;have a9:=O;refine z0c 0 h U z6i U λa h=>z0m 1 h U (λ_ hw=>a0.fr hw so) U na3 U λa h=>z0c 2 h U z9g U λa h=>z0m 3 h U (λ_ hw=>a0.fr hw so) U na3 U λa h=>z6t 4 h U t12 U λa h=>z3j (cs:=[_,_,_,_,_]) 5 h (z0a U<|z0a U<|z0a U z0f) y0p (z0g U<|z0g U<|z0g U z0r) U U λa h=>z0x 6 h U (λ_ hw=>a6.fr hw so) v0h U λa h=>z0d 7 U ?_;refine z0t h U D U z3y λf4 a3 d1 hz a h=>?_;have i1:=d1.size;have Z:=Z.fr d1;have I:=I.fr d1;have a1:=a1.fr d1;have O:=O.fr d1 (by intro k hk a2;simp at hk;subst hk;have d4:=b4 _ a2;have:=O.blk _ a2;omega);have hC:=hC.sp d1;have D:Blk f4 g2 _ [_,_,_,_,_]:=a3;clear a3;refine z0b<|z0d 8 U<|z0t h U I U x7l λf5 a3 d3 hz a h=>?_;have i2:=d3.size;have Z:=Z.fr d3;have D:=D.fr d3;have a1:=a1.fr d3;have O:=O.fr d3 (by intro k hk a2;simp at hk;subst hk;have d4:=b4 _ a2;have:=O.blk _ a2;omega);have hC:=hC.sp d3;have I:Blk f5 g3 _ [_,_,_]:=a3;clear a3;refine z0b<|z0d 9 U<|z0o h U λa h=>?_;refine z0b<|z0q ?_;clear hC a0 a4 a5 a6 a9;refine xB (ll3 2 3 4) h U<|tn<|rt<|k5h U U D z3v U I v0h U ?_;have he:mkE q.p=0:=by unfold mkE;rw[if_neg c0,if_neg (by simpa using c1),if_neg c2]
 exact⟨_,rfl,⟨true,q.pl,q.ct+1,false,sv0,[]⟩,q.ct,q.nw,(d6,q.pes.length,q.pes.length),q.pes,by rw[he];rfl,(λ_=>⟨rfl,rfl,rfl,rfl,O.low oo⟩),((((q1.n6 q2 q3 q4 b5 c9 b2).z1 b3).n1 d0).z2 d1 d3)⟩
theorem x7o (q:YQ)(d:Int)(w0:World)(hp:Sl z2k w0 (slv q.pe) q.pes):Rets prog 106 #[yvv q,.int .u8 d] w0 λr w'=>∃q':YQ,r=.tuple #[yvv q',.int .i64 (enE q.p d)]/\(enE q.p d=0->q'=⟨true,if d=1 then 179 else -13,q.ct,true,sv0,[]⟩)/\Fr [] w0 w':=by
 have a4:=z2f hp;have a1:=hp.len_le;unfold maxLen at a1;refine wf func106 U ?_;have a0:=hp;refine sr<|bx U<|λg2 w1 a2 I q1 z1=>(al z6w U<|λg4 w2 a3 D q2 z2=>(asg U<|nn<|sq<|sr ?_));have I:=I.ext q2;refine z0l U I z3v ?_;have hp:=a0.ext<|q1.n1 q2;refine cl (ev1 U) k5g (y0e q _ hp) ?_;rintro _ w3 ⟨rfl,Z⟩;refine asg U<|nn<|sr<|mv U<|ne' U<|nn<|cd U (λc0=>?_)<|λc0=>?_;refine sr<|z1r (cs:=[_,_,_,_,_]) z0f y0p z0r U ?_;refine mv U ?_;have D:=D.ext Z;refine z0j (vs:=[_,_,_,_,_]) U D z3y<|λw4 D q4 z4=>(asg U<|kpL (ll2 4 5) U<|nn<|rt<|tr<|rCT U U D z3v U ?_);have O:enE q.p d=ynE q.p:=by unfold enE;rw[if_pos c0]
 exact⟨_,rfl,yq0,by rw[O];rfl,(λh=>absurd h (by rw[O];exact c0)),(q1.z3 q2 Z q4)⟩;refine sk<|tn<|sq<|sr<|mv U<|cl (ev1 U) cO (y6b _ _) ?_;rintro _ w5 ⟨rfl,q5⟩;refine nt' U<|nn<|cd U (λc1=>?_)<|λc1=>?_;refine sr<|z1r (cs:=[_,_,_,_,_]) z0f y0p z0r U ?_;have D:=D.ext<|Z.n1 q5;refine z0j (vs:=[_,_,_,_,_]) U D z3y<|λw6 D q6 z6=>(asg U<|nn<|rt<|tr<|rCT U U D z3v U ?_);have O:enE q.p d=1:=by unfold enE;rw[if_neg c0,if_pos (by simpa using c1)]
 exact⟨_,rfl,yq0,by rw[O];rfl,(λh=>absurd h (by rw[O];decide)),(q1.z4 q2 Z q5 q6)⟩;refine sk<|tn<|sq<|sr<|fad U z9m ?_;have I:=I.ext<|Z.n1 q5;refine z0i U I U na4<|nn<|cd U (λc2=>?_)<|λc2=>?_;refine sr<|z1r (cs:=[_,_,_,_,_]) z0f y0p z0r U ?_;have D:=D.ext<|Z.n1 q5;refine z0j (vs:=[_,_,_,_,_]) U D z3y<|λw7 D q7 z7=>(asg U<|nn<|rt<|tr<|rCT U U D z3v U ?_);have O:enE q.p d=12:=by unfold enE;rw[if_neg c0,if_neg (by simpa using c1),if_pos (by simpa using c2)]
 exact⟨_,rfl,yq0,by rw[O];rfl,(λh=>absurd h (by rw[O];decide)),(q1.z4 q2 Z q5 q7)⟩;refine sk<|tn<|sr<|asg U<|nn<|jn (ι:=Unit) (ll2 2 4) (λ_j=>[(7,.int .i64 (if d=1 then 179 else -13))]) (λ_j w'=>Fr [] w5 w') U ?_ ?_;refine sr<|mv U<|eq' U<|nn<|cd U (λc3=>?_)<|λc3=>?_;refine rg<|asg U<|nl ?_;exact jE (()) (.c3 U U<|congrArg (λq=>some<|Value.int .i64 q) (by first|exact(if_pos c3).symm|exact(if_neg c3).symm))<|l12 _ _;refine sk ?_;exact jE (()) (.c3 U U<|congrArg (λq=>some<|Value.int .i64 q) (by first|exact(if_pos c3).symm|exact(if_neg c3).symm))<|l12 _ _;rintro _j w8 q8;refine kpC (ll3 2 4 7) U<|sr<|mv U<|fad U z9g ?_;have I:=I.ext q8;refine z0i U I U na3<|z1r (cs:=[_,_,_,_,_]) (ev4 U) y0p (z0g U<|z0g U<|z0g U<|z0g U z0r) U ?_;have D:=D.ext<|Z.n2 q5 q8;refine z0j (vs:=[_,_,_,_,_]) U D z3y<|λw9 D q9 z9=>(asg U<|kpL (ll2 4 5) U<|nn<|rt<|rCT U U D z3v U ?_);have O:enE q.p d=0:=by unfold enE;rw[if_neg c0,if_neg (by simpa using c1),if_neg (by simpa using c2)]
 exact⟨_,rfl,⟨true,if d=1 then 179 else -13,q.ct,true,sv0,[]⟩,by rw[O];rfl,(λ_=>rfl),(q1.z5 q2 Z q5 q8 q9)⟩
end Go.Proofs.YtkafbfjmcigaiaaGreatDoor
namespace Go.G21
open Go.Lw
def nd (T:Tb)(y:Nat)(n:Int):List LId:=z5x<|lpA T y n.toNat
def InM (ms:List Int)(i:LId):Prop:=i.n<ms.getD (i.y-1).toNat 0
def Has (T:Tb):Prop:=T.length=6/\∀y,y<6->∀n,n<z3k T y->∀i∈z5x (lpA T y n),z5t T i
theorem Has.nm {T:Tb}(h:Has T){y n:Nat}(hy:y<6)(hn:n<z3k T y){i:LId}(hi:i∈z5x (lpA T y n)):∃O Z:Nat,O<6/\Z<z3k T O/\i=⟨(O:Int)+1,(Z:Int)⟩:=by
 obtain⟨h1,h2,h3,h4⟩:=h.2 y hy n hn i hi;have:=h.1;obtain⟨I,D⟩:=i;simp only at h1 h2 h3 h4;refine⟨(I-1).toNat,D.toNat,oo,oo,?_⟩;rw[show (((I-1).toNat:Nat):Int)+1=I by omega,show ((D.toNat:Nat):Int)=D by omega]
theorem x0o {ms:List Int}{y n:Nat}:InM ms ⟨(y:Int)+1,(n:Int)⟩↔(n:Int)<ms.getD y 0:=by
 unfold InM;show (n:Int)<ms.getD ((y:Int)+1-1).toNat 0↔_;rw[show ((y:Int)+1-1).toNat=y by omega]
theorem v4o:∀(l:List Int) (j:Nat) (v:Int),j<l.length->(l.set j v).sum=l.sum-l.getD j 0+v
 | a::l,0,v,_=>by simp;omega
 | a::l,j+1,v,h=>by
  have:=v4o l j v (by simpa using h)
  simp only[List.set_cons_succ,List.sum_cons,l58]at this ⊢;omega
theorem x2o:∀(l:List Int) (T:Tb),l.length=T.length->(∀i,i<l.length->l.getD i 0<=(z3k T i:Int))->l.sum<=(z4x T:Int)/\(l.sum=(z4x T:Int)->∀i,i<l.length->l.getD i 0=(z3k T i:Int))/\((∀i,i<l.length->l.getD i 0=(z3k T i:Int))->l.sum=(z4x T:Int))
 | [],[],_,_=>⟨by simp[z4x],λ_ i hi=>by simp at hi,λ_=>by simp[z4x]⟩
 | [],_::_,h,_=>by simp at h
 | _::_,[],h,_=>by simp at h
 | a::l,r::T,h,hb=>by
  obtain⟨h1,I,O⟩:=x2o l T (by simpa using h) (λi hi=>by simpa[z3k] using hb (i+1) (by simpa using hi))
  have h0:a<=(r.length:Int):=by simpa[z3k] using hb 0 sp0
  have e:(z4x (r::T):Int)=(r.length:Int)+(z4x T:Int):=by simp[z4x]
  rw[List.sum_cons,e]
  refine⟨oo,λhs i hi=>?_,λD=>?_⟩
  ·cases i with
   | zero=>show a=(r.length:Int);omega
   | succ i=>simpa[z3k] using I oo i (by simpa using hi)
  have Z:a=(r.length:Int):=by simpa[z3k] using D 0 sp0
  have e1:=O (λi hi=>by simpa[z3k] using D (i+1) (by simpa using hi))
  omega
structure FstI (T:Tb) (ms ts:List Int) (N:Nat):Prop where
  lm:ms.length=6
  lt:ts.length=6
  mb:∀y,y<6->0<=ms.getD y 0/\ms.getD y 0<=(z3k T y:Int)
  tb:∀y,y<6->0<=ts.getD y 0
  td:∀y,y<6->∀k:Nat,(k:Int)<ts.getD y 0->k<(nd T y<|ms.getD y 0).length->InM ms ((nd T y<|ms.getD y 0).getD k id0)
  sum:ms.sum=(N:Int)
  rk:∃rk:LId->Nat,(∀y,y<6->∀n:Nat,(n:Int)<ms.getD y 0->rk ⟨(y:Int)+1,(n:Int)⟩<N/\∀i∈z5x (lpA T y n),InM ms i/\rk i<rk ⟨(y:Int)+1,(n:Int)⟩)/\∀y,y<6->∀n m:Nat,n<m->(m:Int)<ms.getD y 0->rk ⟨(y:Int)+1,(n:Int)⟩<rk ⟨(y:Int)+1,(m:Int)⟩
theorem k3t (y:Nat):(List.replicate 6 (0:Int)).getD y 0=0:=by rw[List.getD,l62];split<;>rfl
theorem FstI.init {T:Tb}:FstI T (List.replicate 6 0) (List.replicate 6 0) 0:=
 ⟨rfl,rfl,λy _=>by rw[k3t];omega,λy _=>by rw[k3t];omega,λy _ k I=>by rw[k3t]at I;omega,rfl,λ_=>0,λy _ n D=>by rw[k3t]at D;omega,λy _ n m _ D=>by rw[k3t]at D;omega⟩
theorem z5q {l:List Int}{i:Nat}(h:i<l.length)(v:Int)(j:Nat):(l.set i v).getD j 0=if i=j then v else l.getD j 0:=by
 rw[List.getD,List.getD,l114];split;rename_i e;subst e;first|rfl|(rw[if_pos h];rfl)
 rfl
variable {T:Tb} {ms ts:List Int} {N:Nat}
theorem FstI.there (h:FstI T ms ts N){y:Nat}(I:y<6)(O:InM ms ((nd T y<|ms.getD y 0).getD (ts.getD y 0).toNat id0)):FstI T ms (ts.set y<|ts.getD y 0+1) N:=by
 have hl:y<ts.length:=by rw[h.lt];exact I
 refine⟨h.lm,by rw[l19];exact h.lt,h.mb,λz hz=>?_,λz hz k Z D=>?_,h.sum,h.rk⟩;rw[z5q hl];split;have:=h.tb y I;omega;exact h.tb z hz;rw[z5q hl]at Z;split at Z;rename_i e;subst e;have:=h.tb y I;by_cases e:k=(ts.getD y 0).toNat;rw[e];exact O;exact h.td y I k oo D;exact h.td z hz k Z D
theorem FstI.push (h:FstI T ms ts N)(hH:Has T){y:Nat}(hy:y<6)(a8:ms.getD y 0<(z3k T y:Int))(a5:((nd T y<|ms.getD y 0).length:Int)<=ts.getD y 0):FstI T (ms.set y<|ms.getD y 0+1) (ts.set y 0) (N+1):=by
 have I:y<ms.length:=by rw[h.lm];exact hy
 have a0:y<ts.length:=by rw[h.lt];exact hy
 have h0:=h.mb y hy;obtain⟨m,hm⟩:=Int.eq_ofNat_of_zero_le h0.1;rw[hm]at a8 a5 ⊢;have a4:∀i,InM ms i->InM (ms.set y<|(m:Int)+1) i:=λi hi=>by
  unfold InM at hi ⊢;rw[z5q I];split;rename_i e;rw[<-e,hm]at hi;omega;exact hi
 have a3:∀i∈z5x (lpA T y m),InM ms i:=λi hi=>by
  obtain⟨k,O,rfl⟩:=l29 hi;have e:nd T y (ms.getD y 0)=z5x (lpA T y m):=by unfold nd;rw[hm,l95]
  have:=h.td y hy k (by
   have e2:((nd T y (m:Int)).length:Int)<=ts.getD y 0:=a5;rw[<-hm,e]at e2;omega) (by rw[e];exact O)
  rw[e,List.getD,l10 O]at this;exact this
 obtain⟨rk,h1,h2⟩:=h.rk;have D:∀i,InM ms i->¬i=(⟨(y:Int)+1,(m:Int)⟩:LId):=λi hi e=>by
  subst e;rw[x0o,hm]at hi;omega
 refine⟨by rw[l19];exact h.lm,by rw[l19];exact h.lt,λz hz=>?_,λz hz=>?_,λz hz k O a7=>?_,?_,λi=>if i=⟨(y:Int)+1,(m:Int)⟩ then N else rk i,λz hz n hn=>?_,λz hz n k a9 O=>?_⟩;rw[z5q I];split;rename_i e;subst e;omega;exact h.mb z hz;rw[z5q a0];split;omega;exact h.tb z hz;rw[z5q a0]at O;split at O;omega;rename_i e;rw[z5q I,if_neg e]at a7 ⊢;exact a4 _<|h.td z hz k O a7;rw[v4o _ _ _ I,h.sum,hm];omega;rw[z5q I]at hn;simp only;by_cases e:z=y/\n=m;obtain⟨rfl,rfl⟩:=e;rw[if_pos U];refine⟨oo,λi hi=>⟨a4 i<|a3 i hi,?_⟩⟩;rw[if_neg (D i<|a3 i hi)];obtain⟨y',n',b0,_,rfl⟩:=hH.nm hy oo hi;exact(h1 y' b0 n'<|x0o.1<|a3 _ hi).1;have Z:(n:Int)<ms.getD z 0:=by
  split at hn;rename_i e2;subst e2;have:n≠m:=λe3=>e ⟨rfl,e3⟩;rw[hm];omega;exact hn
 rw[if_neg (D _<|x0o.2 Z)];obtain⟨a1,a2⟩:=h1 z hz n Z;refine⟨oo,λi hi=>?_⟩;obtain⟨b1,b2⟩:=a2 i hi;rw[if_neg (D i b1)];exact⟨a4 i b1,b2⟩;rw[z5q I]at O;simp only;have Z:(n:Int)<ms.getD z 0:=by
  split at O;rename_i e2;subst e2;rw[hm];omega;omega
 rw[if_neg (D _<|x0o.2 Z)];by_cases e:z=y/\k=m;obtain⟨rfl,rfl⟩:=e;rw[if_pos U];exact(h1 z hz n Z).1;have a6:(k:Int)<ms.getD z 0:=by
  split at O;rename_i e2;subst e2;have:k≠m:=λe3=>e ⟨rfl,e3⟩;rw[hm];omega;exact O
 rw[if_neg (D _<|x0o.2 a6)];exact h2 z hz n k a9 a6
theorem FstI.leI (h:FstI T ms ts N)(D:T.length=6):N<=z4x T:=by
 have:=(x2o ms T (by rw[h.lm,D])<|λi hi=>(h.mb i (by rw[<-h.lm];exact hi)).2).1;rw[h.sum]at this;omega
def u1f (T:Tb)(ms:List Int)(y:Nat):Prop:=ms.getD y 0=(z3k T y:Int)\/(ms.getD y 0<(z3k T y:Int)/\∃i∈nd T y (ms.getD y 0),¬InM ms i)
theorem FstI.done (h:FstI T ms ts N)(hH:Has T)(hs:∀y,y<6->u1f T ms y)(ho:∃rk,Ranked T rk):N=z4x T:=by
 obtain⟨rk,hr⟩:=ho;have a3:∀k y,y<6->ms.getD y 0<(z3k T y:Int)->rk ⟨(y:Int)+1,ms.getD y 0⟩=k->False:=λk=>by
  induction k using Nat.strongRecOn with
  | ind k ih=>
   intro y hy a0 hk;obtain⟨m,hm⟩:=Int.eq_ofNat_of_zero_le (h.mb y hy).1;rcases hs y hy with e|⟨_,i,hi,hn⟩
   omega;have O:i∈z5x (lpA T y m):=by unfold nd at hi;rw[hm,l95]at hi;exact hi
   rw[hm]at a0 hk;obtain⟨I,n',D,a2,rfl⟩:=hH.nm hy oo O;rw[x0o]at hn;obtain⟨m',a1⟩:=Int.eq_ofNat_of_zero_le (h.mb I D).1;have h1:=hr.need y hy m oo _ O;have h2:rk ⟨(I:Int)+1,(m':Int)⟩<=rk ⟨(I:Int)+1,(n':Int)⟩:=by
    rcases l121 m' n' with h3|h3
    exact Nat.le_of_lt<|hr.mono I D m' n' h3 a2;have:m'=n':=by omega
    rw[this];exact l20 _
   refine ih (rk ⟨(I:Int)+1,(m':Int)⟩) oo I D oo (by rw[a1])
 have:=(x2o ms T (by rw[h.lm,hH.1])<|λi hi=>(h.mb i (by rw[<-h.lm];exact hi)).2).2.2 (λi hi=>by
  have Z:i<6:=by rw[<-h.lm];exact hi
  have h1:=(h.mb i Z).2;rcases Decidable.em (ms.getD i 0<(z3k T i:Int)) with h2|h2
  exact(a3 _ i Z h2 U).elim;omega)
 rw[h.sum]at this;omega
theorem FstI.ord (h:FstI T ms ts N)(hH:Has T)(hN:N=z4x T):∃rk,Ranked T rk:=by
 have D:=(x2o ms T (by rw[h.lm,hH.1])<|λi hi=>(h.mb i (by rw[<-h.lm];exact hi)).2).2.1 (by rw[h.sum,hN]);obtain⟨rk,Z,h2⟩:=h.rk;refine⟨rk,⟨λy I n hn i hi=>?_,λy I n m O hm=>?_⟩⟩;exact((Z y I n (by rw[D y (by rw[h.lm];exact I)];omega)).2 i hi).2;exact h2 y I n m O (by rw[D y (by rw[h.lm];exact I)];omega)
end Go.G21
namespace Go.G21
open Go.Lw
def StN (W:Nat)(s:Lst)(i:LId):Prop:=match s with
  | none=>False
  | some (y,f)=>i.y=y/\(f:Int)<=i.n/\i.n<((f+2*W:Nat):Int)
instance (W:Nat) (s:Lst) (i:LId):Decidable (StN W s i):=by unfold StN;split<;>infer_instance
end Go.G21
namespace Go.G21
open Go.Lw
end Go.G21
namespace Go.G21
open Go.Lw
theorem v9f (ts:List TQ)(y:Nat):(z2o ts).getD y []=(ts.getD y tq0).2.map LpQ.p:=by
 rcases l121 y ts.length with h|h
 exact u1t (λp:TQ=>p.2.map LpQ.p) ts y tq0 [] h;rw[List.getD,l32 (by simpa[z2o] using h),List.getD,l32 h];rfl
theorem z4g (ts:List TQ)(y:Nat):z3k (z2o ts) y=(ts.getD y tq0).2.length:=by
 unfold z3k;rw[v9f,l18]
theorem y4l (ts:List TQ)(y n:Nat):lpA (z2o ts) y n=((ts.getD y tq0).2.getD n lq0).p:=by
 unfold lpA;rw[v9f];generalize (ts.getD y tq0).2=l;rw[List.getD,l26,List.getD];cases l[n]?<;>rfl
theorem z2n {ts:List TQ}{i:LId}:z5t (z2o ts) i↔1<=i.y/\i.y<=(ts.length:Int)/\0<=i.n/\i.n<((ts.getD (i.y-1).toNat tq0).2.length:Int):=by
 unfold z5t;rw[z4g];simp only[z2o,l18]
theorem z7p {w:World}{ts:List TQ}(h:TabAt w ts)(y:Nat):(ts.getD y tq0).1.2.1=(ts.getD y tq0).2.length:=by
 rcases l121 y ts.length with e|e
 exact z2f (h _<|z1b e).1;rw[List.getD,l32 e];rfl
theorem z9t {w:World}{ts:List TQ}(h:TabAt w ts){y n:Nat}(D:y<ts.length)(hn:n<(ts.getD y tq0).2.length):LpAt w ((ts.getD y tq0).2.getD n lq0):=(h _<|z1b D).2 _<|z1b hn
theorem y1v (ts:List TQ):(z2o ts).length=ts.length:=by simp[z2o]
def y1i (T:Tb)(y n:Nat):List LId:=(T.take y).flatMap v6d++((T.getD y []).take n).flatMap Lp.th
theorem u0t (T:Tb):y1i T 0 0=[]:=by simp[y1i]
theorem x4q {T:Tb}{y n:Nat}(h:n<z3k T y):y1i T y (n+1)=y1i T y n++(lpA T y n).th:=by
 unfold y1i lpA;have D:n<(T.getD y []).length:=h;rw[x5m Lp.th _ n lq0.p D,l14]
theorem u3x {T:Tb}{y:Nat}(h:y<T.length):y1i T (y+1) 0=y1i T y (z3k T y):=by
 unfold y1i z3k;rw[x5m v6d _ y [] h,l90,l40];simp[v6d]
theorem u6e {T:Tb}{y:Nat}(h:T.length<=y):y1i T y 0=y2f T:=by
 unfold y1i y2f;rw[l86 h];simp
theorem u6p {T:Tb}{y n:Nat}(D:y<T.length)(i:LId):(y1i T y n).count i<=(y2f T).count i:=by
 have I:y2f T=(T.take y).flatMap v6d++(T.drop y).flatMap v6d:=by unfold y2f;rw[<-l38,l25]
 have O:T.drop y=T.getD y []::T.drop (y+1):=by
  rw[l33 D,List.getD,l10 D];rfl
 have Z:v6d (T.getD y [])=((T.getD y []).take n).flatMap Lp.th++((T.getD y []).drop n).flatMap Lp.th:=by
  unfold v6d;rw[<-l38,l25]
 rw[I,O,l37,Z];unfold y1i;simp only[l21];omega
theorem j6j {T:Tb}{y n k:Nat}(Z:y<T.length)(hn:n<z3k T y)(D:k<(lpA T y n).th.length):(y1i T y n++(lpA T y n).th.take k).count ((lpA T y n).th.getD k id0)+1<=(y2f T).count ((lpA T y n).th.getD k id0):=by
 have h:=u6p (n:=n+1) Z<|(lpA T y n).th.getD k id0
 rw[x4q hn]at h
 generalize lpA T y n=l at *
 generalize y1i T y n=u at *
 have I:l.th=l.th.take k++l.th.getD k id0::l.th.drop (k+1):=by
  conv=>lhs;rw[<-l25 k l.th,l33 D]
  rw[List.getD,l10 D];rfl
 have O:=congrArg (List.count<|l.th.getD k id0) I
 rw[l21,List.count_cons_self]at O
 rw[l21]at h ⊢
 omega
def x2p (p:List LId)(i:LId):Value:=.int .i64 ((p.count i:Nat):Int)
theorem x0w (p:List LId)(k:LId):(λk'=>if k'=k then Value.int .i64 (((p.count k:Nat):Int)+1) else x2p p k')=x2p (p++[k]):=by
 funext k';unfold x2p;rw[l21,l96];by_cases h:k'=k;subst h;rw[if_pos U,if_pos sp0];rfl;rw[if_neg h,if_neg (by simpa using λe=>h e.symm),Nat.add_zero]
theorem z6x {α:Type}{l:List α}{k:Nat}(d:α)(h:k<l.length):l.take (k+1)=l.take k++[l.getD k d]:=by
 rw[l54,l10 h,List.getD,l10 h];rfl
structure TabV (T:Tb):Prop where
  ok:TabOk T
  thr:∀i,(y2f T).count i<=1
theorem thq (ts:List TQ)(y n:Nat):(lpA (z2o ts) y n).th=((ts.getD y tq0).2.getD n lq0).ths:=by rw[y4l]
theorem x0j {ts:List TQ}{y n:Nat}(h:n<(ts.getD y tq0).2.length):y1i (z2o ts) y (n+1)=y1i (z2o ts) y n++((ts.getD y tq0).2.getD n lq0).ths:=by
 rw[x4q (by rw[z4g];exact h),thq]
theorem x0d {ts:List TQ}{y:Nat}(h:y<ts.length):y1i (z2o ts) (y+1) 0=y1i (z2o ts) y (ts.getD y tq0).2.length:=by
 rw[u3x (by rw[y1v];exact h),z4g]
theorem v2n {ts:List TQ}{y n k:Nat}(D:∀i,(y2f<|z2o ts).count i<=1)(O:y<ts.length)(hn:n<(ts.getD y tq0).2.length)(I:k<((ts.getD y tq0).2.getD n lq0).ths.length) :
    ((y1i (z2o ts) y n++((ts.getD y tq0).2.getD n lq0).ths.take k++[((ts.getD y tq0).2.getD n lq0).ths.getD k id0]).count<|((ts.getD y tq0).2.getD n lq0).ths.getD k id0)<=1:=by
  have h:=j6j (T:=z2o ts) (n:=n) (k:=k) (by rw[y1v];exact O) (by rw[z4g];exact hn) (by rw[thq];exact I)
  rw[thq]at h
  have Z:=D<|((ts.getD y tq0).2.getD n lq0).ths.getD k id0
  rw[l21,l96,if_pos sp0]
  omega
def j2n (ts:List TQ)(i:Nat):Nat:=((ts.take i).map λp:TQ=>p.2.length).sum
theorem v9b {ts:List TQ}{i:Nat}(h:i<ts.length):j2n ts (i+1)=j2n ts i+(ts.getD i tq0).2.length:=by
 unfold j2n;rw[z6x tq0 h,l31,List.sum_append];simp
theorem v1f (ts:List TQ):z4x (z2o ts)=(ts.map λp:TQ=>p.2.length).sum:=by
 unfold z4x z2o;rw[l75];congr 1;apply l109;intro p _;simp
theorem j6n (ts:List TQ)(i:Nat):j2n ts i<=z4x (z2o ts):=by
 rw[v1f]
 conv=>rhs;rw[<-l25 i ts,l31,List.sum_append]
 unfold j2n;omega
theorem u6l (ts:List TQ):j2n ts ts.length=z4x (z2o ts):=by
 unfold j2n;rw[l40,v1f]
theorem j5n {q:LpQ}{n:Nat}(h:n<q.ths.length):(z5x q.p).getD n id0=q.ths.getD n id0:=by
 show (q.ths++q.pas.map Pa.id).getD n id0=_;simp only[List.getD,l46 h]
theorem j7k {q:LpQ}{n:Nat}(h:q.ths.length<=n)(I:n<(z5x q.p).length):(z5x q.p).getD n id0=(q.pas.getD (n-q.ths.length) pa0).id:=by
 have D:n-q.ths.length<q.pas.length:=by
  have:(z5x q.p).length=q.ths.length+q.pas.length:=by simp[z5x]
  omega
 show (q.ths++q.pas.map Pa.id).getD n id0=_;simp only[List.getD,l30 h,l26,l10 D];rfl
theorem v4l (q:LpQ):(z5x q.p).length=q.ths.length+q.pas.length:=by simp[z5x]
theorem TabV.has {T:Tb}(h:TabV T):Has T:=⟨h.ok.six,λy I n D i hi=>(h.ok.rts y I n D).1.2.2.1 i hi⟩
end Go.G21
namespace Go.Lw
open Go.RowKit
def MapZ {κ:Type}[DecidableEq κ](V:κ->Value)(w:World)(g:Nat)(z:Value)(f:κ->Value):Prop:=
  ∃(es:Array MapEntry) (c:Nat) (m:List (κ×Value)),w.heap[g]?=some (.map es c)/\es.toList.map (λe=>(e.key,e.val))=m.map (λp=>(V p.1,p.2))/\(∀k,(z2w m k).getD z=f k)/\(es.toList.map (·.born)).Nodup/\∀e∈es.toList,e.born<c
def MapE {κ:Type}[DecidableEq κ](V:κ->Value)(w:World)(g:Nat)(z:Value)(f:κ->Value)(k:κ)(st:Nat):Prop:=
  ∃(es:Array MapEntry) (c:Nat) (m:List (κ×Value)) (j:Nat),w.heap[g]?=some (.map es c)/\es.toList.map (λe=>(e.key,e.val))=m.map (λp=>(V p.1,p.2))/\(∀k,(z2w m k).getD z=f k)/\(es.toList.map (·.born)).Nodup/\(∀e∈es.toList,e.born<c)/\(m.map (·.1)).findIdx? (λx=>decide (k=x))=some j/\(es.toList[j]?).map (·.born)=some st
section
variable {κ:Type} [DecidableEq κ] {V:κ->Value} {P:Program} {K:TypeId}
theorem MapZ.fr {w w':World}{g:Nat}{z:Value}{f:κ->Value}{S:List Nat}(h:MapZ V w g z f)(hf:Fr S w w')(hn:∀k∈S,k∉[g]:=by simp[z0v]<;>omega):MapZ V w' g z f:=by
 obtain⟨I,c,m,D,O⟩:=h;exact⟨I,c,m,(hf.block g (l17.1 D).1<|λh=>hn g h sp0).trans D,O⟩
theorem MapZ.ext {w w':World}{g:Nat}{z:Value}{f:κ->Value}(h:MapZ V w g z f)(hf:Fr [] w w'):MapZ V w' g z f:=h.fr hf sp0
theorem MapZ.lt {w:World}{g:Nat}{z:Value}{f:κ->Value}(h:MapZ V w g z f):g<w.heap.size:=let ⟨_,_,_,h1,_⟩:=h;(l17.1 h1).1
theorem MapZ.ne_blk {w:World}{g D T:Nat}{z:Value}{f:κ->Value}{cs:List Value}(h:MapZ V w g z f)(I:Blk w D T cs):g≠D:=by
 rintro rfl;obtain⟨_,_,_,O,_⟩:=h;unfold Blk at I;rw[I]at O;cases O
theorem MapE.map {w:World}{g st:Nat}{z:Value}{f:κ->Value}{k:κ}(h:MapE V w g z f k st):MapZ V w g z f:=
 let ⟨es,c,m,_,h1,h2,h3,h4,h5,_⟩:=h;⟨es,c,m,h1,h2,h3,h4,h5⟩
theorem v5i {l:List MapEntry}(hn:(l.map (·.born)).Nodup){j st:Nat}(h:(l[j]?).map (·.born)=some st):l.findIdx? (λe=>((e.born:Nat):Int) == ((st:Nat):Int))=some j:=by
 induction l generalizing j with
 | nil=>simp at h
 | cons a r ih=>
  simp only[l28,l115]at hn;cases j with
  | zero=>simp at h;subst h;simp[l68]
  | succ j=>
   simp only[List.getElem?_cons_succ]at h;obtain⟨I,Z,hs⟩:=Option.map_eq_some_iff.1 h;have D:a.born≠st:=λe1=>hn.1<|l55.2 ⟨I,List.mem_of_getElem? Z,hs.trans e1.symm⟩;have O:(((a.born:Nat):Int) == ((st:Nat):Int))=false:=by
    simp only[beq_eq_false_iff_ne,ne_eq,Int.natCast_inj];exact D
   rw[l68,O];simp[ih hn.2 h]
theorem x9r {w:World}{g:Nat}{z:Value}{f:κ->Value}{t E:TypeId}(h:MapZ V w g z f)(hk:KeyLaw P K V)(hu:P.underlying t=some (.map K E))(hz:(zeroValue E).run P w=.ok z w)(k:κ) :
    (Instr.lookup t (.map<|some g) (V k) false).run P w=.ok (f k) w:=by
  obtain⟨D,c,m,I,O,Z,_⟩:=h
  rw[<-Z k]
  exact y9j (f:=z2w m) ⟨D,c,m,I,O,λ_=>rfl⟩ hk hu hz k
theorem x4b {w:World}{g:Nat}{z:Value}{f:κ->Value}{t E:TypeId}(h:MapZ V w g z f)(hk:KeyLaw P K V)(hu:P.underlying t=some (.map K E))(hz:∀w:World,(zeroValue E).run P w=.ok z w)(k:κ) :
    ∃w' st,(Instr.mapEntry t (.map<|some g)<|V k).run P w=.ok (.tuple #[f k,.int .i64 (st:Nat)]) w'/\MapE V w' g z f k st/\Fr [g] w w'/\w'.heap.size=w.heap.size:=by
  obtain⟨I,c,m,h1,h2,h3,h4,h5⟩:=h
  have b0:=(l17.1 h1).1
  have a1:I.toList.map (·.key)=(m.map (·.1)).map V:=by
    have:=congrArg (List.map Prod.fst) h2
    simpa[l75,l113] using this
  have O:=hk.find k I.toList (m.map (·.1)) w a1
  have a2:∀o,(setObj g o).run P w=.ok () { w with heap:=w.heap.setIfInBounds g o }:=by intro o;simp[setObj,Sem.run,h1]
  have a6:∀o,Fr [g] w { w with heap:=w.heap.setIfInBounds g o }:=λo=>⟨rfl,rfl,rfl,sp0,λi _ hn=>by
    simp only
    rw[l78 (by intro e;subst e;simp at hn)]⟩
  have Z:∀o,({ w with heap:=w.heap.setIfInBounds g o }:World).heap[g]?=some o:=by intro o;simp[b0]
  have a8:I.toList.length=m.length:=by have:=congrArg List.length h2;simpa using this
  have D:=y4m (V:=V) m k I.toList h2
  cases hf:(m.map (·.1)).findIdx? (λx=>decide (k=x)) with
  | none=>
    rw[hf]at O D
    simp only[Option.bind_none,Option.map_none]at D
    have e0:f k=z:=by rw[<-h3 k,<-D];rfl
    refine⟨{ w with heap:=w.heap.setIfInBounds g (.map (I.push { key:=V k,val:=z,born:=c })<|c+1) },c,?_,⟨_,_,m++[(k,z)],m.length,Z<|.map (I.push { key:=V k,val:=z,born:=c })<|c+1,?_,λk'=>?_,?_,?_,?_,?_⟩,a6 _,sp0⟩
    · simp only[Instr.mapEntry,Sem.run_bind,run_underlying hu,Result.andThen_ok,z3b h1,hk.check,O,Option.bind_none,hz w,a2,Sem.run_pure,e0]
      rfl
    · simp[h2]
    · rw[y5h m k k' z hf,<-h3 k']
      split
      · rename_i e;subst e;rw[h3,e0];rfl
      · rfl
    · simp only[Array.toList_push,l31,l28,l138]
      refine l67.2 ⟨h4,sp0,λa ha b hb e=>?_⟩
      simp only[l11]at hb
      obtain⟨x,hx,rfl⟩:=l55.1 ha
      have:=h5 x hx;omega
    · intro e he
      simp only[Array.toList_push,l23,l11]at he
      rcases he with he|rfl
      · have:=h5 e he;omega
      · simp
    · rw[l31,List.findIdx?_append,hf];simp
    · simp only[Array.toList_push]
      rw[<-a8,l30 (l20 _)];simp
  | some i=>
    have hi:i<m.length:=by
      have:=l79.1 hf
      simpa using this.1
    have a0:i<I.toList.length:=by omega
    have a7:V k=(I.toList[i]).key:=by
      have a9:=List.findIdx?_eq_some_iff_getElem.1 hf
      obtain⟨b2,hp,_⟩:=a9
      have b1:k=(m.map (·.1))[i]:=by simpa using hp
      have e1:(I.toList.map (·.key))[i]?=((m.map (·.1)).map V)[i]?:=by rw[a1]
      simp only[l26,l10 a0,l10 hi,l65,l70]at e1
      rw[e1,b1];simp
    have a5:I[i]?=some I.toList[i]:=by rw[<-l45,l10 a0]
    have a4:(Instr.keyThatStays (((I[i]?).map (·.key)).getD<|V k)<|V k).run P w=.ok (V k) w:=by
      rw[a5]
      simp only[l65,l59,<-a7,Instr.keyThatStays,hk.bits,if_true,Sem.run_pure]
    have a3:I.modify i (λe=>{ e with key:=V k })=I:=by
      apply Array.ext'
      rw[Array.toList_modify]
      apply l69
      intro j
      rw[l117]
      by_cases hj:i=j
      · subst hj
        rw[l10 a0]
        simp only[Option.map_eq_map,l65,if_pos,l70]
        rw[a7]
      · simp[hj]
    rw[hf]at O D
    simp only[Option.bind_some,l10 a0,l65]at O D
    have e0:f k=I.toList[i].val:=by rw[<-h3 k,<-D];rfl
    refine⟨{ w with heap:=w.heap.setIfInBounds g (.map I c) },I.toList[i].born,?_,⟨I,c,m,i,Z _,h2,h3,h4,h5,hf,?_⟩,a6 _,sp0⟩
    · simp only[Instr.mapEntry,Sem.run_bind,run_underlying hu,Result.andThen_ok,z3b h1,hk.check,O,a4,a2,a3,Sem.run_pure,e0]
      rw[a5];rfl
    · rw[l10 a0];rfl
theorem y8m {w:World}{g st:Nat}{z v:Value}{f:κ->Value}{t:TypeId}{k:κ}(h:MapE V w g z f k st) :
    ∃w',(Instr.entryStore t (.map<|some g) (.int .i64 (st:Nat)) v).run P w=.ok () w'/\MapZ V w' g z (λk'=>if k'=k then v else f k')/\Fr [g] w w'/\w'.heap.size=w.heap.size:=by
  obtain⟨D,c,m,j,h1,h2,h3,h4,h5,h6,h7⟩:=h
  have a3:=(l17.1 h1).1
  have a1:∀o,(setObj g o).run P w=.ok () { w with heap:=w.heap.setIfInBounds g o }:=by intro o;simp[setObj,Sem.run,h1]
  have a2:∀o,Fr [g] w { w with heap:=w.heap.setIfInBounds g o }:=λo=>⟨rfl,rfl,rfl,sp0,λi _ hn=>by
    simp only
    rw[l78 (by intro e;subst e;simp at hn)]⟩
  have I:∀o,({ w with heap:=w.heap.setIfInBounds g o }:World).heap[g]?=some o:=by intro o;simp[a3]
  have a0:D.findIdx? (λe=>((e.born:Nat):Int) == ((st:Nat):Int))=some j:=by
    have e:D.findIdx? (λe=>((e.born:Nat):Int) == ((st:Nat):Int))=D.toList.findIdx? (λe=>((e.born:Nat):Int) == ((st:Nat):Int)):=by cases D;simp
    rw[e];exact v5i h4 h7
  have hi:j<m.length:=by
    have:=l79.1 h6
    simpa using this.1
  refine⟨{ w with heap:=w.heap.setIfInBounds g (.map (D.modify j λe=>{ e with val:=v }) c) },?_,⟨_,c,m.modify j λp=>(p.1,v),I _,?_,λk'=>?_,?_,?_⟩,a2 _,sp0⟩
  · simp only[Instr.entryStore,Sem.run_bind,Result.andThen_ok,z3b h1,asInt,asIntOf,Sem.run_pure,a0,a1]
  · rw[Array.toList_modify]
    apply l69
    intro i
    have e2:=congrArg (·[i]?) h2
    simp only[l26]at e2 ⊢
    rw[l117,l117]
    by_cases hj:j=i
    · subst hj
      simp only[Option.map_eq_map,if_pos]
      cases O:D.toList[j]? with
      | none=>rw[O]at e2;cases hm:m[j]? with
        | none=>rfl
        | some p=>rw[hm]at e2;cases e2
      | some e=>rw[O]at e2;cases hm:m[j]? with
        | none=>rw[hm]at e2;cases e2
        | some p=>
          rw[hm]at e2
          simp only[l65,l70,l94]at e2 ⊢
          first|exact⟨e2.1,rfl⟩|exact⟨e2.1,trivial⟩|simp[e2.1]
    · simp only[Option.map_eq_map,if_neg hj];simpa using e2
  · rw[y0g k k' v m j h6]
    show _=if k'=k then v else f k'
    split
    · rfl
    · exact h3 k'
  · rw[Array.toList_modify]
    have e:(D.toList.modify j λe=>{ e with val:=v }).map (·.born)=D.toList.map (·.born):=by
      apply l69
      intro i
      rw[l26,l26,l117]
      split
      · cases D.toList[i]?<;>rfl
      · simp
    rw[e];exact h4
  · intro e O
    rw[Array.toList_modify]at O
    obtain⟨i,Z,rfl⟩:=l29 O
    rw[List.length_modify]at Z
    rw[List.getElem_modify]
    have:=h5 _<|l106 Z
    split<;>exact this
variable {a:Act} {n:Nat} {L:List (Nat×Value)} {ds:List Nat} {w w':World} {Q:Exit->Act->World->Prop} {ops:Array Oper} {rest:List Oper}
variable {d:Nat} {ty:TypeId} {pos:String} {after:Array Edge} {x y z':Operand} {t E:TypeId} {g st:Nat} {f:κ->Value} {k:κ} {v z:Value}
theorem v0a (V:κ->Value)(z:Value)(h:AgM ds a n L)(hn:lbt d n)
    (q:∀g w',g=w.heap.size->MapZ V w' g z (λ_=>z)->Fr [] w w'->w'.heap.size=g+1->∀a,AgM ds a n ((d,.map<|some g)::L)->wpList P ops Q rest a w'):wpList P ops Q (⟨some d,.makeMap t none,ty,pos,after,none⟩::rest) a w:=
  z2c h U hn (w':=w.alloc<|.map #[] 0) (by simp[execOp,Instr.makeMap]) (q _ _ U ⟨_,_,[],heap_alloc_new w _,sp0,λ_=>rfl,sp0,sp0⟩ (Fr.alloc [] w _) sp0)
theorem x0k (V:κ->Value)(z:Value)(hn:lbt d n)(q:∀g w',g=w.heap.size->MapZ V w' g z (λ_=>z)->Fr [] w w'->w'.heap.size=g+1->WL P ops Q rest n ds w' ((d,.map<|some g)::L)):WL P ops Q (⟨some d,.makeMap t none,ty,pos,after,none⟩::rest) n ds w L:=λa h=>v0a V z h hn q
theorem z8j (h:AgM ds a n L)(hx:ev L x=some (.map<|some g))(hy:ev L y=some (V k))(I:MapZ V w g z f)(D:KeyLaw P K V)(O:P.underlying t=some (.map K E))(hz:∀w:World,(zeroValue E).run P w=.ok z w)(Z:f k=v)(hn:lbt d n)
    (q:∀a,AgM ds a n ((d,v)::L)->wpList P ops Q rest a w):wpList P ops Q (⟨some d,.lookup t x y false,ty,pos,after,none⟩::rest) a w:=
  z2c h U hn (by rw[<-Z];simp[execOp,h.eval hx,h.eval hy,x9r I D O (hz w) k]) q
theorem y7x (hx:ev L x=some (.map<|some g))(hy:ev L y=some (V k))(I:MapZ V w g z f)(D:KeyLaw P K V)(O:P.underlying t=some (.map K E))(hz:∀w:World,(zeroValue E).run P w=.ok z w)(Z:f k=v)(hn:lbt d n)
 (q:WL P ops Q rest n ds w ((d,v)::L)):WL P ops Q (⟨some d,.lookup t x y false,ty,pos,after,none⟩::rest) n ds w L:=λa h=>z8j h hx hy I D O hz Z hn q
theorem z7y (h:AgM ds a n L)(hx:ev L x=some (.map<|some g))(hy:ev L y=some (V k))(hm:MapZ V w g z f)(Z:KeyLaw P K V)(hu:P.underlying t=some (.map K E))(hz:∀w:World,(zeroValue E).run P w=.ok z w)(hn:lbt d n)
    (q:∀w' st,MapE V w' g z f k st->Fr [g] w w'->w'.heap.size=w.heap.size->∀a,AgM ds a n ((d,.tuple #[f k,.int .i64 (st:Nat)])::L)->wpList P ops Q rest a w'):wpList P ops Q (⟨some d,.mapEntry t x y,ty,pos,after,none⟩::rest) a w:=by
  obtain⟨w',st,hr,D,I,O⟩:=x4b hm Z hu hz k
  exact z2c h U hn (w':=w') (by simp[execOp,h.eval hx,h.eval hy,hr])<|q w' st D I O
theorem z6m {s:Operand}(h:AgM ds a n L)(hx:ev L x=some (.map<|some g))(hs:ev L s=some (.int .i64 (st:Nat)))(hy:ev L y=some v)(Z:MapE V w g z f k st)
    (q:∀w',MapZ V w' g z (λk'=>if k'=k then v else f k')->Fr [g] w w'->w'.heap.size=w.heap.size->∀a,AgM ds a n L->wpList P ops Q rest a w'):wpList P ops Q (⟨none,.entryStore t x s y,ty,pos,after,none⟩::rest) a w:=by
  obtain⟨w',hr,D,I,O⟩:=y8m (P:=P) (t:=t) (v:=v) Z
  exact y0a h U U (w':=w') (by simp[execOp,h.eval hx,h.eval hs,h.eval hy,hr])<|q w' D I O
end
end Go.Lw
namespace Go.Lw
open Go.RowKit
theorem v6l {w:World}{ad:Addr}{cs vs:List Value}{off:Nat}(h:Cells w ad cs)(I:(cs.drop off).take vs.length=vs):Cells w (ad.add off) vs:=λj u D=>by
 rw[<-I]at D
 rw[l53]at D
 split at D
 ·rw[l101]at D
  rw[z9i];exact h _ u D
 cases D
section
variable {P:Program} {a:Act} {n:Nat} {L:List (Nat×Value)} {ds:List Nat} {w:World} {Q:Exit->Act->World->Prop} {ops:Array Oper} {rest:List Oper} {d g p:Nat} {ty t:TypeId} {pos:String} {after:Array Edge} {x:Operand} {l:List UInt8}
end
end Go.Lw
namespace Go.Lw
open Go.RowKit
section
variable {P:Program} {a:Act} {n:Nat} {L:List (Nat×Value)} {ds:List Nat} {w:World} {Q:Exit->Act->World->Prop} {ops:Array Oper} {rest:List Oper} {d:Nat} {ty t T:TypeId} {pos:String} {after:Array Edge} {x:Operand}
end
section
variable {P:Program} {a:Act} {n:Nat} {L:List (Nat×Value)} {ds:List Nat} {w:World} {Q:Exit->Act->World->Prop} {ops:Array Oper} {rest:List Oper} {d:Nat} {ty t T:TypeId} {pos:String} {after:Array Edge} {x y:Operand} {k:IntKind} {i:Int}
end
end Go.Lw
namespace Go.Proofs.YtkafbfjmcigaiaaGreatDoor
open Go.Lw Go.G21 Go.G08 _root_.Go.Proofs.Tryz
theorem x3c:ElemOf prog 30 114 z5e 24:=ElemOf.mk' (z:=(.slice none 0 0)) underlying30 kr U
theorem y2x:z2e prog 114:=λ_=>kr
theorem v8i (i:LId)(v:Value)(ts:List TQ)(w0:World)(hs:Sl z5e w0 v ts)(hk:TabAt w0 ts)(hl:ts.length<=200)(hi:0<=i.y/\i.y<=255):Rets prog 226 #[v,ivv i] w0 λr w'=>r=.bool (decide (z5t (z2o ts) i))/\Fr [] w0 w':=by
 obtain⟨A,c,rfl,a5,hM,hA⟩:=id hs;clear hA;unfold maxLen at hM;have a2:=z7p hk;have a7:=a2 (i.y-1).toNat;refine wf func226 U ?_;have a3:=hs;have a1:=hk;refine sr<|bx U<|λg3 w1 a6 I Z z1=>(asg U<|nn<|sq ?_);have hs:=a3.ext Z;have hk:=a1.ext Z;intro a h;refine y4z z2s kr<|z3h h U z9r U λa h=>z6s h U (λ_ O=>I.ext O) U na5 U λa h=>u6b h U U U λa h=>z4v h U λa h=>gSp (D:=8) h U ?_ ?_;intro g0 h;refine z2r h U U U U<|z3h h U z9r U λa h=>z2r h U U U U<|z6s h U (λ_ O=>I.ext O) U na5 U λa h=>z2r h U U U U<|u5a h U (by rw[underlying5];rfl) underlying3 t12 U λa h=>?_;refine z2r h U U U U<|z4v h U λa h=>z2r h U U U U<|x2h h U underlying30 U λa h=>z2r h U U U U<|k7w h U U U λa h=>?_;refine z8k h U λa h=>z4v h U λa h=>gSp (D:=16) h U ?_ ?_;intro g1 h;refine z2r h U U U U<|z3h h U y1k U λa h=>z2r h U U U U<|z6s h U (λ_ O=>I.ext O) U na3 U λa h=>z2r h U U U U<|u6b h U U U λa h=>?_;refine z8k h U λa h=>z4v h U λa h=>gSp (D:=21) h U ?_ ?_;intro g2 h;refine z2r h U U U U<|z3h h U y1k U λa h=>z2r h U U U U<|z6s h U (λ_ O=>I.ext O) U na3 U λa h=>z2r h U U U U<|z4v h U λa h=>?_;refine z2r h U U U U<|z3h h U z9r U λa h=>z2r h U U U U<|z6s h U (λ_ O=>I.ext O) U na5 U λa h=>z2r h U U U U<|j4d h U U t23 U λa h=>?_;refine z2r h U U U U<|v8c (tq0) h U hs U x3c oo oo U U λa4 a0 a h=>z2r h U U U U<|x6q h U (λ_ O=>a0 _<|hs.ext O) y2x U λa h=>z2r h U U U U<|x2h h U underlying114 U λa h=>?_;refine z2r h U U U U<|k6x h U U U λa h=>z8k h U λa h=>z6v h U U λa h=>wpQuiet_nil ?_;intro w2 q2;refine xB (ll1 4) h U<|tn<|rt<|r1 U ?_;exact⟨_,rfl,by first|exact congrArg Value.bool<|decide_eq_decide.2 t16|exact congrArg Value.bool (decide_eq_false t16).symm|exact congrArg Value.bool (decide_eq_true t16).symm,(Z.n1 q2)⟩;intro g2 h;refine z1t h U U U U λa h=>z1t h U U U U λa h=>z1t h U U U U λa h=>z1t h U U U U λa h=>z1t h U U U U λa h=>z1t h U U U U λa h=>z1t h U U U U λa h=>z1t h U U U U λa h=>z1t h U U U U λa h=>z1t h U U U U λa h=>z4h h U λa h=>z6v h U U λa h=>wpQuiet_nil ?_;intro w3 q3;refine xB (ll1 4) h U<|tn<|rt<|r1 U ?_;exact⟨_,rfl,by first|exact congrArg Value.bool<|decide_eq_decide.2 t16|exact congrArg Value.bool (decide_eq_false t16).symm|exact congrArg Value.bool (decide_eq_true t16).symm,(Z.n1 q3)⟩;intro g1 h;refine z1t h U U U U λa h=>z1t h U U U U λa h=>z1t h U U U U λa h=>z4h h U λa h=>z4v h U λa h=>z1t h U U U U λa h=>z1t h U U U U λa h=>z1t h U U U U λa h=>z1t h U U U U λa h=>z1t h U U U U λa h=>z1t h U U U U λa h=>z1t h U U U U λa h=>z1t h U U U U λa h=>z1t h U U U U λa h=>z1t h U U U U λa h=>z4h h U λa h=>z6v h U U λa h=>wpQuiet_nil ?_;intro w4 q4;refine xB (ll1 4) h U<|tn<|rt<|r1 U ?_;exact⟨_,rfl,by first|exact congrArg Value.bool<|decide_eq_decide.2 t16|exact congrArg Value.bool (decide_eq_false t16).symm|exact congrArg Value.bool (decide_eq_true t16).symm,(Z.n1 q4)⟩;intro g0 h;refine z1t h U U U U λa h=>z1t h U U U U λa h=>z1t h U U U U λa h=>z1t h U U U U λa h=>z1t h U U U U λa h=>z1t h U U U U λa h=>z4h h U λa h=>z4v h U λa h=>z1t h U U U U λa h=>z1t h U U U U λa h=>z1t h U U U U λa h=>z4h h U λa h=>z4v h U λa h=>z1t h U U U U λa h=>z1t h U U U U λa h=>z1t h U U U U λa h=>z1t h U U U U λa h=>z1t h U U U U λa h=>z1t h U U U U λa h=>z1t h U U U U λa h=>z1t h U U U U λa h=>z1t h U U U U λa h=>z1t h U U U U λa h=>z4h h U λa h=>z6v h U U λa h=>wpQuiet_nil ?_;intro w5 q5;refine xB (ll1 4) h U<|tn<|rt<|r1 U ?_;exact⟨_,rfl,by first|exact congrArg Value.bool<|decide_eq_decide.2 t16|exact congrArg Value.bool (decide_eq_false t16).symm|exact congrArg Value.bool (decide_eq_true t16).symm,(Z.n1 q5)⟩
theorem x9e (i:LId)(v:Value)(ts:List TQ)(w0:World)(hs:Sl z5e w0 v ts)(hk:TabAt w0 ts)(hl:ts.length<=200)(hi:0<=i.y/\i.y<=255):Rets prog 139 #[v,ivv i] w0 λr w'=>r=.bool (decide (z5t (z2o ts) i))/\Fr [] w0 w':=by
 obtain⟨A,c,rfl,a5,hM,hA⟩:=id hs;clear hA;unfold maxLen at hM;have a2:=z7p hk;have a7:=a2 (i.y-1).toNat;refine wf func139 U ?_;have a3:=hs;have a1:=hk;refine sr<|bx U<|λg3 w1 a6 I Z z1=>(asg U<|nn<|sq ?_);have hs:=a3.ext Z;have hk:=a1.ext Z;intro a h;refine y4z z2s kr<|z3h h U z9r U λa h=>z6s h U (λ_ O=>I.ext O) U na5 U λa h=>u6b h U U U λa h=>z4v h U λa h=>gSp (D:=8) h U ?_ ?_;intro g0 h;refine z2r h U U U U<|z3h h U z9r U λa h=>z2r h U U U U<|z6s h U (λ_ O=>I.ext O) U na5 U λa h=>z2r h U U U U<|u5a h U (by rw[underlying5];rfl) underlying3 t12 U λa h=>?_;refine z2r h U U U U<|z4v h U λa h=>z2r h U U U U<|x2h h U underlying30 U λa h=>z2r h U U U U<|k7w h U U U λa h=>?_;refine z8k h U λa h=>z4v h U λa h=>gSp (D:=16) h U ?_ ?_;intro g1 h;refine z2r h U U U U<|z3h h U y1k U λa h=>z2r h U U U U<|z6s h U (λ_ O=>I.ext O) U na3 U λa h=>z2r h U U U U<|u6b h U U U λa h=>?_;refine z8k h U λa h=>z4v h U λa h=>gSp (D:=21) h U ?_ ?_;intro g2 h;refine z2r h U U U U<|z3h h U y1k U λa h=>z2r h U U U U<|z6s h U (λ_ O=>I.ext O) U na3 U λa h=>z2r h U U U U<|z4v h U λa h=>?_;refine z2r h U U U U<|z3h h U z9r U λa h=>z2r h U U U U<|z6s h U (λ_ O=>I.ext O) U na5 U λa h=>z2r h U U U U<|j4d h U U t23 U λa h=>?_;refine z2r h U U U U<|v8c (tq0) h U hs U x3c oo oo U U λa4 a0 a h=>z2r h U U U U<|x6q h U (λ_ O=>a0 _<|hs.ext O) y2x U λa h=>z2r h U U U U<|x2h h U underlying114 U λa h=>?_;refine z2r h U U U U<|k6x h U U U λa h=>z8k h U λa h=>z6v h U U λa h=>wpQuiet_nil ?_;intro w2 q2;refine xB (ll1 4) h U<|tn<|rt<|r1 U ?_;exact⟨_,rfl,by first|exact congrArg Value.bool<|decide_eq_decide.2 t16|exact congrArg Value.bool (decide_eq_false t16).symm|exact congrArg Value.bool (decide_eq_true t16).symm,(Z.n1 q2)⟩;intro g2 h;refine z1t h U U U U λa h=>z1t h U U U U λa h=>z1t h U U U U λa h=>z1t h U U U U λa h=>z1t h U U U U λa h=>z1t h U U U U λa h=>z1t h U U U U λa h=>z1t h U U U U λa h=>z1t h U U U U λa h=>z1t h U U U U λa h=>z4h h U λa h=>z6v h U U λa h=>wpQuiet_nil ?_;intro w3 q3;refine xB (ll1 4) h U<|tn<|rt<|r1 U ?_;exact⟨_,rfl,by first|exact congrArg Value.bool<|decide_eq_decide.2 t16|exact congrArg Value.bool (decide_eq_false t16).symm|exact congrArg Value.bool (decide_eq_true t16).symm,(Z.n1 q3)⟩;intro g1 h;refine z1t h U U U U λa h=>z1t h U U U U λa h=>z1t h U U U U λa h=>z4h h U λa h=>z4v h U λa h=>z1t h U U U U λa h=>z1t h U U U U λa h=>z1t h U U U U λa h=>z1t h U U U U λa h=>z1t h U U U U λa h=>z1t h U U U U λa h=>z1t h U U U U λa h=>z1t h U U U U λa h=>z1t h U U U U λa h=>z1t h U U U U λa h=>z4h h U λa h=>z6v h U U λa h=>wpQuiet_nil ?_;intro w4 q4;refine xB (ll1 4) h U<|tn<|rt<|r1 U ?_;exact⟨_,rfl,by first|exact congrArg Value.bool<|decide_eq_decide.2 t16|exact congrArg Value.bool (decide_eq_false t16).symm|exact congrArg Value.bool (decide_eq_true t16).symm,(Z.n1 q4)⟩;intro g0 h;refine z1t h U U U U λa h=>z1t h U U U U λa h=>z1t h U U U U λa h=>z1t h U U U U λa h=>z1t h U U U U λa h=>z1t h U U U U λa h=>z4h h U λa h=>z4v h U λa h=>z1t h U U U U λa h=>z1t h U U U U λa h=>z1t h U U U U λa h=>z4h h U λa h=>z4v h U λa h=>z1t h U U U U λa h=>z1t h U U U U λa h=>z1t h U U U U λa h=>z1t h U U U U λa h=>z1t h U U U U λa h=>z1t h U U U U λa h=>z1t h U U U U λa h=>z1t h U U U U λa h=>z1t h U U U U λa h=>z1t h U U U U λa h=>z4h h U λa h=>z6v h U U λa h=>wpQuiet_nil ?_;intro w5 q5;refine xB (ll1 4) h U<|tn<|rt<|r1 U ?_;exact⟨_,rfl,by first|exact congrArg Value.bool<|decide_eq_decide.2 t16|exact congrArg Value.bool (decide_eq_false t16).symm|exact congrArg Value.bool (decide_eq_true t16).symm,(Z.n1 q5)⟩
theorem u7k (u:Value)(A:Option Addr)(m c:Nat)(w0:World)(I:m=0):Rets prog 190 #[u,.slice A m c] w0 λr w'=>r=u/\Fr [] w0 w':=by
 refine wf func190 U<|sr<|asg U<|nn<|sq<|sr<|mv U<|lnS U<|mv U<|nn<|bl<|lpK (ι:=Nat) (ll3 0 8 9) (λk=>[(10,.int .i64 (k:Int))]) (λk w'=>Fr [] w0 w'/\k<=m) (λk=>m-k) 0 U ⟨l12 _ _,l16 _⟩ ?_;rintro k w1 ⟨D,hi⟩;refine kpC (ll4 0 8 9 10) U<|sr<|lt' U ?_;rw[show decide ((k:Int)<(m:Int))=false from decide_eq_false oo];exact nn<|sq<|cf U<|ex<|te<|te<|xh<|tn<|sr<|mv U<|asg U<|kpL (ll1 4) U<|nn<|rt<|r1 U ⟨_,rfl,rfl,D⟩
theorem j0d (base:Nat)(u v:Value)(l:List Pa)(wS w0:World)(ho:Lw.Own z2k 172 base w0 u [])(O:Sl z2k wS v l)(I:Sl z2k w0 v l)(hb:wS.heap.size<=base)(D:base<=w0.heap.size)(hn:l.length<=100000):Rets prog 190 #[u,v] w0 λr w'=>∃S,Lw.Own z2k 172 base w' r (z3x [] l)/\(∀k∈S,base<=k)/\Fr S w0 w':=by
 by_cases e:l=[];subst e;obtain⟨A,c,rfl,_⟩:=I.form;refine Rets.mono (u7k u A _ c w0 U) ?_;rintro r w' ⟨rfl,hf⟩;exact⟨[],ho.ext hf,sp0,hf⟩;exact u0e base u v [] l w0 ho I (λk Z=>by have:=O.blk e k Z;omega) D (by simpa using hn)
theorem v7f (v:Value)(l:List Pa)(w0:World)(O:Sl z2k w0 v l)(hl:l.length<=50000):Rets prog 227 #[v] w0 λr w'=>∃A,r=.slice A (z3x [] l).length (z3x [] l).length/\Fr [] w0 w':=by
 obtain⟨A,c,rfl,a2,hM,hA⟩:=id O;clear hA;unfold maxLen at hM;refine wf func227 U ?_;have I:=O;refine sr<|asg U<|nn<|sr<|mv U<|lnS U<|z1g (m:=0) (c:=l.length) (pa0) U z5g x3t U<|λg5 w1 a3 ho q1 z1=>(mv U ?_);have O:=I.ext q1;refine cl (ev2 U) cO (j0d g5 _ _ l w0 _ (by simpa using ho) I O oo oo oo) ?_;rintro V7 w2 ⟨S7,D,Z,q2⟩;have a0:=z5u l [];obtain⟨A7,c7,rfl,a1⟩:=D.sl.form;refine cl (ev1 U) cO (y0y _ _ _ D.sl (by simp only[l52]at a0;omega)) ?_;rintro _ w3 ⟨A8,rfl,a5,q3⟩;exact asg U<|kpL (ll1 2) U<|nn<|rt<|r1 U ⟨_,rfl,A8,rfl,((q1.step q2<|λk hk a4=>absurd (Z k hk) oo).n1 q3)⟩
theorem y5z (v:Value)(ts:List TQ)(w0:World)(I:Sl z5e w0 v ts)(hk:TabAt w0 ts)(hN:z4x (z2o ts)<=100000):Rets prog 147 #[v] w0 λr w'=>r=.int .i64 (z4x (z2o ts):Int)/\Fr [] w0 w':=by
 obtain⟨A,c,rfl,a3,hM,hA⟩:=id I;clear hA;unfold maxLen at hM;have O:=z7p hk;refine wf func147 U ?_;have Z:=I;have a4:=hk;refine sr<|asg U<|nn<|sr<|asg U<|nn<|sq<|sr<|mv U<|lnS U<|mv U<|nn<|bl<|lpK (ι:=Nat) (ll2 6 7) (λi=>[(8,.int .i64 (i:Int)),(3,.int .i64 (j2n ts i:Int))]) (λi w'=>Fr [] w0 w'/\i<=ts.length) (λi=>ts.length-i) 0 U ⟨l12 _ _,l16 _⟩ ?_;rintro i w1 ⟨q1,hi⟩;refine kpC (ll4 6 7 8 3) U<|sr<|lt' U<|nn<|sq<|cd U (λc0=>?_)<|λc0=>?_;have a5:=O i;have a1:=v9b (ts:=ts) (i:=i) oo;have a2:=j6n ts<|i+1;refine sk<|tn<|sq<|bl<|sr ?_;have I:=Z.ext q1;refine z1a (tq0) U I U x3c z1j<|λa0 D=>?_;refine z1c U (D _ I) y2x<|asg U<|nn<|rg<|mv U<|mv U<|lnS U<|ad6 U<|asg U<|nl<|bn'<|tn<|rg<|ad6 U<|mv U<|nl ?_;exact lpE (i+1) (.c4 U U U<|congrArg (λz=>some<|Value.int .i64 z) oo) ⟨q1,oo⟩ oo;obtain rfl:i=ts.length:=by omega
 exact ex<|te<|te<|xh<|tn<|sr<|mv U<|asg U<|kpL (ll1 2) U<|nn<|rt<|r1 U ⟨_,rfl,by rw[u6l],q1⟩
theorem z4m:ElemOf prog 32 54 z1h 16:=ElemOf.mk' (z:=(.agg #[.int .u8 0,.int .i64 0])) underlying32 kr U
theorem u4v:z1e prog 131 0 0:=λ_ _=>kr
theorem z8c:z1e prog 131 2 2:=λ_ _=>kr
theorem y0c:z1e prog 131 3 3:=λ_ _=>kr
theorem z6k:z2e prog 32:=λ_=>kr
theorem y1b:z1s prog 54 2:=λ_=>kr
theorem z9l (w:World):(zeroValue 54).run prog w=.ok (.agg #[(.int .u8 0),(.int .i64 0)]) w:=kr
theorem j0i (q:LpQ)(v:Value)(ts:List TQ)(w0:World)(hs:Sl z5e w0 v ts)(hk:TabAt w0 ts)(hl:ts.length=6)(Z:LpAt w0 q)(hv:y8u (z2o ts) q.p):Rets prog 211 #[v,lvv q] w0 λr w'=>r=.bool true/\Fr [] w0 w':=by
 obtain⟨A,c,rfl,b7,hM,hA⟩:=id hs;clear hA;unfold maxLen at hM;have d9:=z7p hk;have d1:=z2f Z.1;have d3:=z2f Z.2;have hb:q.b=0\/q.b=1:=hv.1;have d5:q.ths.length<=4:=hv.2.1.1;have d6:q.pas.length<=4096:=hv.2.1.2;have b3:∀p∈q.pas,z4w p.d:=hv.2.2.2.1;have d7:(z3x [] q.pas).length=q.pas.length:=hv.2.2.2.2;have a9:∀i,i<q.ths.length->z5t (z2o ts) (q.ths.getD i id0):=λi hi=>hv.2.2.1 _<|l60 _<|z1b hi;have a8:∀i,i<q.pas.length->z5t (z2o ts) (q.pas.getD i pa0).id:=λi hi=>hv.2.2.1 _<|l64 _<|l88<|z1b hi;have d4:=y1v ts;refine wf func211 U ?_;have b0:=hs;have a7:=hk;have a1:=Z;refine sr<|bx U<|λg3 w1 b8 D q1 z1=>(asg U<|nn<|sq<|sq<|rbo (r:=16) (L':=ll2 0 3) (((q.b≠0)/\(q.b≠1))) U ?_ ?_);refine fad U u4v<|z0i U D U x9t<|ne' U<|mv U<|gs 12 U (λg0=>?_)<|λg0=>?_;exact gY U<|fad U u4v<|gY U<|z0i U D U x9t<|gY U<|ne' U<|pkt U<|rbe U<|U;exact gN U<|gN U<|gN U<|pkf U<|rbe U<|U;refine tn<|cd U (λc0=>?_)<|λc0=>?_;refine sr<|asg U<|nn<|rt<|tr<|r1 U ?_;exfalso;omega;refine sk<|tn<|sq<|sq<|rbo (r:=26) (L':=ll2 0 3) (((4<(q.th.2.1:Int))\/(4096<(q.pa.2.1:Int)))) U ?_ ?_;refine fad U z8c<|z0i U D U z6k<|lnS U<|gt' U<|mv U<|gs 21 U (λg1=>?_)<|λg1=>?_;exact gN U<|gN U<|gN U<|gN U<|pkt U<|rbe U<|U;exact gY U<|fad U y0c<|gY U<|z0i U D U y1j<|gY U<|lnS U<|gY U<|gt' U<|pkf U<|rbe U<|U;refine tn<|cd U (λc1=>?_)<|λc1=>?_;refine sr<|asg U<|nn<|rt<|tr<|r1 U ?_;exfalso;omega;refine sk<|tn<|sq<|sr<|fad U z8c<|z0i U D U z6k<|lnS U<|mv U<|nn<|bl<|lpK (ι:=Nat) (ll4 0 3 28 29) (λi=>[(30,.int .i64 (i:Int))]) (λi w'=>Fr [] w1 w'/\i<=q.ths.length) (λi=>q.ths.length-i) 0 U ⟨l12 _ _,l16 _⟩ ?_;rintro i w2 ⟨q2,hi⟩;have z2:=q2.size;refine kpC (ll5 0 3 28 29 30) U<|sr<|lt' U<|nn<|sq<|cd U (λc2=>?_)<|λc2=>?_;refine sk<|tn<|sq<|bl<|sr ?_;have Z:=a1.ext<|q1.n1 q2;refine z1a (id0) U Z.1 U z4m z1j<|λb4 a5=>?_;refine z1q U (a5 _ Z.1) z2y<|al z9l U<|λg6 w3 b9 a2 q3 z3=>(z0j (vs:=[_,_]) U a2 y1b<|λw4 a2 q4 z4=>(nn<|sr<|mv U<|z0l U a2 z2y ?_));have hs:=b0.ext<|q1.z3 q2 q3 q4;have hk:=a7.ext<|q1.z3 q2 q3 q4;refine cl (ev2 U) cO (v8i (q.ths.getD i id0) _ _ _ hs hk oo (by have h:=a9 i oo;have:=h.1;have:=h.2.1;omega)) ?_;rintro _ w5 ⟨rfl,q5⟩;have z5:=q5.size;refine nt' U<|nn<|cd U (λc3=>?_)<|λc3=>?_;exact sr<|asg U<|kpL (ll1 4) U<|nn<|rt<|rb<|tr<|tr<|rb<|tr<|r1 U<|absurd (a9 i oo) (by simpa using c3);exact sk<|bn'<|tn<|rg<|ad6 U<|mv U<|nl<|lpE (i+1) U ⟨(q2.z3 q3 q4 q5),oo⟩ oo;obtain rfl:i=q.ths.length:=by omega
 refine ex<|te<|te<|xh<|tn<|sq<|sr<|fad U y0c ?_;have D:=D.ext q2;refine z0i U D U y1j<|lnS U<|mv U<|nn<|bl<|lpK (ι:=Nat) (ll4 0 3 40 41) (λi=>[(42,.int .i64 (i:Int))]) (λi w'=>Fr [] w2 w'/\i<=q.pas.length) (λi=>q.pas.length-i) 0 U ⟨l12 _ _,l16 _⟩ ?_;rintro i w6 ⟨q6,hi⟩;have z6:=q6.size;refine kpC (ll5 0 3 40 41 42) U<|sr<|lt' U<|nn<|sq<|cd U (λc4=>?_)<|λc4=>?_;have e0:(q.pas.getD i pa0).d=0\/(q.pas.getD i pa0).d=1:=b3 _<|z1b oo;have d0:=a8 i oo;refine sk<|tn<|sq<|bl<|sr ?_;have Z:=a1.ext<|q1.n2 q2 q6;refine z1a (pa0) U Z.2 U z5g z1j<|λb5 a6=>?_;refine z1q U (a6 _ Z.2) z9y<|al x3t U<|λg8 w7 c9 O q7 z7=>(z0j (vs:=[_,_,_,_]) U O x6i<|λw8 O q8 z8=>(nn<|sq<|u0i (r:=60) (L':=ll5 0 3 40 41 42) (((¬z5t (z2o ts) (q.pas.getD i pa0).id)\/(((q.pas.getD i pa0).d≠0)/\((q.pas.getD i pa0).d≠1)))) U ?_ ?_));refine mv U<|fad U x8i<|z1u (vs:=[_,_]) U O z2y U ?_;have hs:=b0.ext<|q1.z4 q2 q6 q7 q8;have hk:=a7.ext<|q1.z4 q2 q6 q7 q8;refine cl (ev2 U) cO (v8i (q.pas.getD i pa0).id _ _ _ hs hk oo (by have h:=a8 i oo;have:=h.1;have:=h.2.1;omega)) ?_;rintro _ w9 ⟨rfl,q9⟩;have z9:=q9.size;refine nt' U<|mv U<|gs 51 U (λg2=>?_)<|λg2=>?_;exact gN U<|gN U<|gN U<|gN U<|gS U<|gS U<|gS U<|gN U<|pkt U<|y3v U U q9;refine gY U<|fad U z8z<|gY U ?_;have O:=O.ext q9;refine z0i U O U x4g<|gY U<|ne' U<|gY U<|mv U<|gs 55 U (λg3=>?_)<|λg3=>?_;exact gY U<|fad U z8z<|gY U<|z0i U O U x4g<|gY U<|ne' U<|gY U<|pkt U<|pkf U<|y3v U U q9;exact gN U<|gN U<|gN U<|gY U<|pkf U<|pkf U<|y3v U U q9;intro e3 b1;have e5:=b1.size;refine tn<|cd U (λc5=>?_)<|λc5=>?_;refine sr<|asg U<|kpL (ll1 4) U<|nn<|rt<|rb<|tr<|tr<|rb<|tr<|r1 U ?_;exact(by exfalso;first|omega|(simp_all;done)|(simp_all;omega));exact sk<|bn'<|tn<|rg<|ad6 U<|mv U<|nl<|lpE (i+1) U ⟨(q6.z3 q7 q8 b1),oo⟩ oo;obtain rfl:i=q.pas.length:=by omega
 refine ex<|te<|te<|xh<|tn<|sq ?_;have Z:=a1.ext<|q1.n2 q2 q6;intro a h;refine rgh none (Fr []) ?_;intro b2 a0 hC;have e6:=a0.size;have Z:=Z.ext a0;have D:=D.ext<|q6.n1 a0;have a4:=Z;have I:=D;refine z0c 0 h U y0c U λa h=>z0m 1 h U (fx I.ext) U y1j U λa h=>z0c 4 h U y0c U λa h=>z0m 5 h U (fx I.ext) U y1j U λa h=>z8b 6 hC h wn U underlying108 U λa h=>z0d 2 U<|z0n h (z0a U z0f) cO (v7f _ q.pas _ Z.2 oo) ?_;rintro _ e4 ⟨b6,rfl,a3⟩ a h;have e7:=a3.size;have hC:=hC.next a3;refine z0b<|z8b 3 hC h wn U underlying108 U λa h=>x5z 7 hC h wn U λa h=>z0d 8 U<|z0o h U λa h=>?_;refine z0b<|z0q ?_;clear hC a4 I;refine xB (ll1 4) h U<|tn<|rt<|r1 U ?_;exact⟨_,rfl,congrArg Value.bool<|decide_eq_true oo,(q1.n4 q2 q6 a0 a3)⟩
theorem x5s:z4f prog 131 4:=⟨λ_=>kr,λ_=>kr⟩
theorem y7n:ElemOf prog 114 131 z7t 56:=ElemOf.mk' (z:=(.agg #[.int .u8 0,.bool false,.slice none 0 0,.slice none 0 0])) underlying114 kr U
theorem j6e:z1e prog 131 1 1:=λ_ _=>kr
theorem v5p:z1s prog 131 4:=λ_=>kr
theorem v0e (w:World):(zeroValue 131).run prog w=.ok (.agg #[(.int .u8 0),(.bool false),(.slice none 0 0),(.slice none 0 0)]) w:=kr
theorem u1n (v:Value)(ts:List TQ)(w0:World)(hs:Sl z5e w0 v ts)(I:TabAt w0 ts)(hl:ts.length=6)(hv:TabOk (z2o ts)):Rets prog 184 #[v] w0 λr w'=>r=.int .i64 0/\Fr [] w0 w':=by
 obtain⟨A,c,rfl,a8,hM,hA⟩:=id hs;clear hA;unfold maxLen at hM;have a5:=z7p I;refine wf func184 U ?_;have a2:=hs;have Z:=I;refine sr<|asg U<|nn<|sq<|sr<|mv U<|lnS U<|mv U<|nn<|bl<|lpK (ι:=Nat) (ll3 0 7 8) (λy=>[(9,.int .i64 (y:Int))]) (λy w'=>Fr [] w0 w'/\y<=ts.length) (λy=>ts.length-y) 0 U ⟨l12 _ _,l16 _⟩ ?_;rintro y w1 ⟨O,hy⟩;have z1:=O.size;refine kpC (ll4 0 7 8 9) U<|sr<|lt' U<|nn<|sq<|cd U (λc0=>?_)<|λc0=>?_;have I:=Z.ext O;have b0:=a5 y;have a3:=(I _<|z1b (d:=tq0) (i:=y) oo).1.len_le;unfold maxLen at a3;refine sk<|tn<|sq<|bl<|sr ?_;have hs:=a2.ext O;refine z1a (tq0) U hs U x3c z1j<|λa6 a0=>?_;refine z1c U (a0 _ hs) y2x<|asg U<|nn<|sr<|mv U<|lnS U<|mv U<|nn<|bl<|lpK (ι:=Nat) (ll6 0 7 8 9 13 14) (λn=>[(15,.int .i64 (n:Int))]) (λn w'=>Fr [] w1 w'/\n<=(ts.getD y tq0).2.length) (λn=>(ts.getD y tq0).2.length-n) 0 U ⟨l12 _ _,l16 _⟩ ?_;rintro n w2 ⟨q2,hn⟩;have z2:=q2.size;refine kpC (ll7 0 7 8 9 13 14 15) U<|sr<|lt' U<|nn<|sq<|cd U (λc1=>?_)<|λc1=>?_;have a4:n=0->((ts.getD y tq0).2.getD n lq0).nw=true:=λe=>by
  have h:=(hv.rts y oo n (by rw[z4g];omega)).2 e;rw[y4l]at h;exact h
 refine sk<|tn<|sq<|bl<|sr<|mv U ?_;have I:=Z.ext<|O.n1 q2;refine z1a (lq0) U (I _<|z1b (d:=tq0) (i:=y) oo).1 U y7n z1j<|λa7 a1=>?_;refine z1q U (a1 _ (I _<|z1b (d:=tq0) (i:=y) oo).1) x5s<|al v0e U<|λg6 w3 a9 D q3 z3=>?_;refine asg U<|z0j (vs:=[_,_,_,_]) U D v5p (λw4 D q4 z4=>?_) (h1:=(by first|(simp[Value.oneCell',S];done)|exact z7t.one<|(ts.getD y tq0).2.getD n lq0));refine nn<|sq<|u0i (r:=32) (L':=ll7 0 7 8 9 13 14 15) (((¬(0:Int)=0)\/(((n:Int)=0)/\(¬((ts.getD y tq0).2.getD n lq0).nw=true)))) U ?_ ?_;refine mv U<|z0l U D x5s ?_;have hs:=a2.ext<|O.z3 q2 q3 q4;have I:=Z.ext<|O.z3 q2 q3 q4;refine cl (ev2 U) cO (j0i ((ts.getD y tq0).2.getD n lq0) _ _ _ hs I hl (z9t I oo oo) (by have h:=(hv.rts y oo n (by rw[z4g];omega)).1;rw[y4l]at h;exact h)) ?_;rintro _ w5 ⟨rfl,q5⟩;have z5:=q5.size;refine nt' U<|mv U<|gs 24 U (λg0=>?_)<|λg0=>?_;exact gN U<|gN U<|gN U<|gS U<|gS U<|gS U<|gN U<|pkt U<|y3v U U q5;refine gY U<|mv U<|gY U<|eq' U<|gY U<|mv U<|gs 27 U (λg1=>?_)<|λg1=>?_;refine gY U<|fad U j6e<|gY U ?_;have D:=D.ext q5;exact z0i U D U na4<|gY U<|nt' U<|gY U<|pkt U<|pkf U<|y3v U U q5;exact gN U<|gN U<|gN U<|gY U<|pkf U<|pkf U<|y3v U U q5;intro w6 q6;have z6:=q6.size;refine tn<|cd U (λc2=>?_)<|λc2=>?_;refine sr<|asg U<|kpL (ll1 2) U<|nn<|rt<|rb<|tr<|tr<|rb<|rb<|tr<|tr<|rb<|tr<|r1 U ?_;rcases c2 with h|h
 exact absurd U h;exact absurd (a4 oo) h.2;exact sk<|bn'<|tn<|rg<|ad6 U<|mv U<|nl<|lpE (n+1) U ⟨(q2.z3 q3 q4 q6),oo⟩ oo;obtain rfl:n=(ts.getD y tq0).2.length:=by omega
 exact ex<|te<|te<|xh<|bn'<|tn<|rg<|ad6 U<|mv U<|nl<|lpE (y+1) U ⟨(O.n1 q2),oo⟩ oo;obtain rfl:y=ts.length:=by omega
 exact ex<|te<|te<|xh<|tn<|sr<|asg U<|nn<|rt<|r1 U ⟨_,rfl,rfl,O⟩
theorem q1m (p q:LId)(w:World):(Op.equal 54 (idV p)<|idV q).run prog w=.ok (decide (p=q)) w:=by
 have h:=(k8w p q (.tmp 0) (.tmp 0) w).2.2.1;have e:(binOp .eql 54 (idV p)<|idV q).run prog w=((Op.equal 54 (idV p)<|idV q).run prog w).andThen λb w'=>.ok (.bool b) w':=by
  have e2:binOp .eql 54 (idV p) (idV q)=(Op.equal 54 (idV p) (idV q) >>= λb=>pure<|.bool b):=by
   unfold binOp idV;simp only
  rw[e2];simp only[Sem.run_bind,Sem.run_pure]
 rw[e]at h;generalize (Op.equal 54 (idV p)<|idV q).run prog w=r at h;cases r with
 | ok b w'=>simp only[Result.andThen]at h;cases h;rfl
 | halt x w'=>simp only[Result.andThen]at h;cases h
theorem z7c:KeyLaw prog 54 idV:=KeyLaw.asking underlying54 (λ_ _=>rfl) (λ_ _ _=>kr) q1m (λ_=>by simp[idV,Instr.sameBits])
theorem zvI (w:World):(zeroValue 3).run prog w=.ok (.int .i64 0) w:=kr
theorem j7s (v:Value)(ts:List TQ)(w0:World)(hs:Sl z5e w0 v ts)(Z:TabAt w0 ts)(hl:ts.length=6)(hv:TabV (z2o ts)):Rets prog 185 #[v] w0 λr w'=>r=.int .i64 0/\Fr [] w0 w':=by
 obtain⟨A,c,rfl,d6,hM,hA⟩:=id hs;clear hA;unfold maxLen at hM;have b5:=z7p Z;refine wf func185 U ?_;have b6:=hs;have a3:=Z;refine sr<|asg U<|nn<|sr<|x0k idV (.int .i64 0) U<|λO w1 d1 D q1 z1=>(asg U<|nn<|sq<|sr<|mv U<|lnS U<|mv U<|nn<|bl<|lpK (ι:=Nat) (ll3 3 11 12) (λy=>[(13,.int .i64 (y:Int))]) (λy w'=>Fr [O] w1 w'/\y<=ts.length/\MapZ idV w' O (.int .i64 0) (x2p<|y1i (z2o ts) y 0)) (λy=>ts.length-y) 0 U ⟨l12 _ _,⟨l16 _,D⟩⟩ ?_);rintro y w2 ⟨q2,⟨hy,D⟩⟩;have z2:=q2.size;refine kpC (ll4 3 11 12 13) U<|sr<|lt' U<|nn<|sq<|cd U (λc0=>?_)<|λc0=>?_;have Z:=a3.ext<|q1.z1 q2;have e3:=b5 y;have b1:=(Z _<|z1b (d:=tq0) (i:=y) oo).1.len_le;unfold maxLen at b1;refine sk<|tn<|sq<|bl<|sr ?_;have hs:=b6.ext<|q1.z1 q2;refine z1a (tq0) U hs U x3c z1j<|λb9 a8=>?_;refine z1c U (a8 _ hs) y2x<|asg U<|nn<|sr<|mv U<|lnS U<|mv U<|nn<|bl<|lpK (ι:=Nat) (ll6 3 11 12 13 17 18) (λn=>[(19,.int .i64 (n:Int))]) (λn w'=>Fr [O] w2 w'/\n<=(ts.getD y tq0).2.length/\MapZ idV w' O (.int .i64 0) (x2p<|y1i (z2o ts) y n)) (λn=>(ts.getD y tq0).2.length-n) 0 U ⟨l12 _ _,⟨l16 _,D⟩⟩ ?_;rintro n w3 ⟨q3,⟨hn,D⟩⟩;have z3:=q3.size;refine kpC (ll7 3 11 12 13 17 18 19) U<|sr<|lt' U<|nn<|sq<|cd U (λc1=>?_)<|λc1=>?_;have Z:=a3.ext<|q1.z2 q2 q3;have e0:=z2f (z9t Z (y:=y) (n:=n) oo oo).1;have b2:=(z9t Z (y:=y) (n:=n) oo oo).1.len_le;unfold maxLen at b2;refine sk<|tn<|sq<|bl<|sr<|z1a (lq0) U (Z _<|z1b (d:=tq0) (i:=y) oo).1 U y7n z1j<|λc9 a9=>?_;refine z1q U (a9 _ (Z _<|z1b (d:=tq0) (i:=y) oo).1) x5s<|al v0e U<|λg7 w4 d7 a2 q4 z4=>?_;refine z0j (vs:=[_,_,_,_]) U a2 v5p (λw5 a2 q5 z5=>?_) (h1:=(by first|(simp[Value.oneCell',S];done)|exact z7t.one<|(ts.getD y tq0).2.getD n lq0));refine nn<|sr<|fad U z8c<|z0i U a2 U z6k<|lnS U<|mv U<|nn<|bl ?_;have D:=(D.ext q4).fr q5 t52;refine lpK (ι:=Nat) (ll9 3 11 12 13 17 18 19 24 25) (λk=>[(26,.int .i64 (k:Int))]) (λk w'=>Fr [O] w5 w'/\k<=((ts.getD y tq0).2.getD n lq0).ths.length/\MapZ idV w' O (.int .i64 0) (x2p<|y1i (z2o ts) y n++((ts.getD y tq0).2.getD n lq0).ths.take k)) (λk=>((ts.getD y tq0).2.getD n lq0).ths.length-k) 0 U ⟨l12 _ _,⟨l16 _,by rw[l90,l24];exact D⟩⟩ ?_;rintro k w6 ⟨q6,⟨Z,D⟩⟩;have z6:=q6.size;refine kpC (ll10 3 11 12 13 17 18 19 24 25 26) U<|sr<|lt' U<|nn<|sq<|cd U (λc2=>?_)<|λc2=>?_;have b3:=v2n (k:=k) hv.thr (y:=y) (n:=n) oo oo oo;have d5:((y1i (z2o ts) y n++((ts.getD y tq0).2.getD n lq0).ths.take k)).count (((ts.getD y tq0).2.getD n lq0).ths.getD k id0)=0:=by
  have h:=b3;rw[l21,l96,if_pos sp0]at h;omega
 refine sk<|tn<|sq<|bl<|sr ?_;have Z:=a3.ext<|q1.z5 q2 q3 q4 q5 q6;refine z1a (id0) U (z9t Z (y:=y) (n:=n) oo oo).1 U z4m z1j<|λd0 b0=>?_;refine z1q U (b0 _ (z9t Z (y:=y) (n:=n) oo oo).1) z2y<|al z9l U<|λg9 w7 d9 I q7 z7=>?_;refine z0j (vs:=[_,_]) U I y1b (λw8 I q8 z8=>?_) (h1:=(by first|(simp[Value.oneCell',S];done)|exact z7t.one<|(ts.getD y tq0).2.getD n lq0));refine nn<|sq ?_;have D:=(D.ext q7).fr q8 t52;intro a h;refine rgh none (Fr [O]) ?_;intro w9 q9 hC;have z9:=q9.size;have D:=D.ext q9;have I:=I.ext q9;have a1:=D;have a0:=I;refine z0e 0 h U λa h=>z0x 1 h U (λ_ hw=>a0.fr hw t29) z2y U λa h=>z1v 2 4 kr U ?_ ?_;refine z8j (V:=idV) (z:=(.int .i64 0)) (k:=(((ts.getD y tq0).2.getD n lq0).ths.getD k id0)) (v:=.int .i64 ((((y1i (z2o ts) y n++((ts.getD y tq0).2.getD n lq0).ths.take k)).count (((ts.getD y tq0).2.getD n lq0).ths.getD k id0):Nat):Int)) h U U D z7c underlying218 zvI U U λa h=>z0b<|z6t 3 h U t12 U λa h=>z0d 4 U ?_;have b4:=D.ne_blk I;refine z7y (V:=idV) (z:=(.int .i64 0)) (k:=(((ts.getD y tq0).2.getD n lq0).ths.getD k id0)) h U U D z7c underlying218 zvI U λe4 d3 he a4 e6 a h=>?_;have D:=he.map;have I:=I.fr a4 t29;have hC:=hC.step a4 sp0;refine z0b<|z0k 5 h U λa h=>z0d 6 U<|z6m (V:=idV) (z:=(.int .i64 0)) (k:=(((ts.getD y tq0).2.getD n lq0).ths.getD k id0)) h U U U he ?_;clear h a he D;intro b7 D a5 e7 a h;replace D:MapZ idV b7 O (.int .i64 0) (x2p<|(y1i (z2o ts) y n++((ts.getD y tq0).2.getD n lq0).ths.take k)++[(((ts.getD y tq0).2.getD n lq0).ths.getD k id0)]):=by rw[<-x0w];exact D
 have I:=I.fr a5 t29;have hC:=hC.step a5 sp0;refine z0b<|z0q ?_;clear hC a1 a0;refine xB (ll11 3 9 11 12 13 17 18 19 24 25 26) h U<|tn<|sr<|mv U<|z0l U I z2y<|y7x (V:=idV) (z:=(.int .i64 0)) (k:=(((ts.getD y tq0).2.getD n lq0).ths.getD k id0)) (v:=.int .i64 ((((y1i (z2o ts) y n++((ts.getD y tq0).2.getD n lq0).ths.take k)++[(((ts.getD y tq0).2.getD n lq0).ths.getD k id0)]).count (((ts.getD y tq0).2.getD n lq0).ths.getD k id0):Nat):Int)) U U D z7c underlying218 zvI U U<|gt' U<|nn<|cd U (λc3=>?_)<|λc3=>?_;refine sr<|asg U<|kpL (ll1 2) U<|nn<|rt<|rb<|tr<|tr<|rb<|rb<|tr<|tr<|rb<|rb<|tr<|tr<|rb<|tr<|r1 U ?_;exfalso;omega;exact sk<|bn'<|tn<|rg<|ad6 U<|mv U<|nl<|lpE (k+1) U ⟨((l12 [O] _).z6 q6 q7 q8 q9 a4 a5),⟨oo,by rw[z6x id0 oo,<-l14];exact D⟩⟩ oo;have b4:=D.ne_blk I;refine z7y (V:=idV) (z:=(.int .i64 0)) (k:=(((ts.getD y tq0).2.getD n lq0).ths.getD k id0)) h U U D z7c underlying218 zvI U λe5 d4 he a6 e8 a h=>?_;have D:=he.map;have I:=I.fr a6 t29;have hC:=hC.step a6 sp0;refine z0b<|z0k 5 h U λa h=>z0d 2 U<|z8j (V:=idV) (z:=(.int .i64 0)) (k:=(((ts.getD y tq0).2.getD n lq0).ths.getD k id0)) (v:=.int .i64 ((((y1i (z2o ts) y n++((ts.getD y tq0).2.getD n lq0).ths.take k)).count (((ts.getD y tq0).2.getD n lq0).ths.getD k id0):Nat):Int)) h U U D z7c underlying218 zvI U U λa h=>?_;refine z0b<|z6t 3 h U t12 U λa h=>z0d 6 U<|z6m (V:=idV) (z:=(.int .i64 0)) (k:=(((ts.getD y tq0).2.getD n lq0).ths.getD k id0)) h U U U he ?_;clear h a he D;intro b8 D a7 e9 a h;replace D:MapZ idV b8 O (.int .i64 0) (x2p<|(y1i (z2o ts) y n++((ts.getD y tq0).2.getD n lq0).ths.take k)++[(((ts.getD y tq0).2.getD n lq0).ths.getD k id0)]):=by rw[<-x0w];exact D
 have I:=I.fr a7 t29;have hC:=hC.step a7 sp0;refine z0b<|z0q ?_;clear hC a1 a0;refine xB (ll11 3 9 11 12 13 17 18 19 24 25 26) h U<|tn<|sr<|mv U<|z0l U I z2y<|y7x (V:=idV) (z:=(.int .i64 0)) (k:=(((ts.getD y tq0).2.getD n lq0).ths.getD k id0)) (v:=.int .i64 ((((y1i (z2o ts) y n++((ts.getD y tq0).2.getD n lq0).ths.take k)++[(((ts.getD y tq0).2.getD n lq0).ths.getD k id0)]).count (((ts.getD y tq0).2.getD n lq0).ths.getD k id0):Nat):Int)) U U D z7c underlying218 zvI U U<|gt' U<|nn<|cd U (λc3=>?_)<|λc3=>?_;refine sr<|asg U<|kpL (ll1 2) U<|nn<|rt<|rb<|tr<|tr<|rb<|rb<|tr<|tr<|rb<|rb<|tr<|tr<|rb<|tr<|r1 U ?_;exfalso;omega;exact sk<|bn'<|tn<|rg<|ad6 U<|mv U<|nl<|lpE (k+1) U ⟨((l12 [O] _).z6 q6 q7 q8 q9 a6 a7),⟨oo,by rw[z6x id0 oo,<-l14];exact D⟩⟩ oo;obtain rfl:k=((ts.getD y tq0).2.getD n lq0).ths.length:=by omega
 rw[l40]at D;exact ex<|te<|te<|xh<|bn'<|tn<|rg<|ad6 U<|mv U<|nl<|lpE (n+1) U ⟨((l12 [O] _).z4 q3 q4 q5 q6),⟨oo,by rw[x0j oo];exact D⟩⟩ oo;obtain rfl:n=(ts.getD y tq0).2.length:=by omega
 exact ex<|te<|te<|xh<|bn'<|tn<|rg<|ad6 U<|mv U<|nl<|lpE (y+1) U ⟨((l12 [O] _).z2 q2 q3),⟨oo,by rw[x0d oo];exact D⟩⟩ oo;obtain rfl:y=ts.length:=by omega
 exact ex<|te<|te<|xh<|tn<|sr<|asg U<|nn<|rt<|r1 U ⟨_,rfl,rfl,(q1.z1 q2)⟩
theorem v9n (q:LpQ)(n:Int)(w0:World)(O:LpAt w0 q)(h0:0<=n)(hn:n.toNat<(z5x q.p).length)(hb:q.ths.length<=4/\q.pas.length<=4096):Rets prog 212 #[lvv q,.int .i64 n] w0 λr w'=>r=(ivv<|(z5x q.p).getD n.toNat id0)/\Fr [] w0 w':=by
 have a7:=z2f O.1;have a8:=z2f O.2;have a2:=O.1.len_le;unfold maxLen at a2;have a9:=v4l q;refine wf func212 U ?_;have Z:=O;refine sr<|bx U<|λg2 w1 a5 D q1 z1=>(al z9l U<|λg4 w2 a6 I q2 z2=>(nn<|sq<|sr<|mv U<|fad U z8c ?_));have D:=D.ext q2;refine z0i U D U z6k<|lnS U<|lt' U<|nn<|cd U (λc0=>?_)<|λc0=>?_;refine sr<|fad U z8c<|z0i U D U z6k<|mv U ?_;have O:=Z.ext<|q1.n1 q2;refine z1a (p:=n.toNat) (id0) U O.1 U z4m oo<|λa3 a0=>?_;refine z1q U (a0 _ O.1) z2y<|z0j (vs:=[_,_]) U I y1b (λw3 I q3 z3=>?_) (h1:=t26);exact kpL (ll1 4) U<|nn<|rt<|tr<|rC U U I z2y  ⟨_,rfl,by rw[j5n oo],(q1.z2 q2 q3)⟩;refine sk<|tn<|sr<|fad U y0c<|z0i U D U y1j<|mv U<|fad U z8c<|z0i U D U z6k<|lnS U<|z2i U (wi6 oo) ?_;have O:=Z.ext<|q1.n1 q2;refine z1a (p:=(n.toNat-q.ths.length)) (pa0) U O.2 U z5g oo<|λa4 a1=>?_;refine fad U x8i<|z1q U (v6l (vs:=[_,_]) (a1 _ O.2) U) z2y<|z0j (vs:=[_,_]) U I y1b (λw4 I q4 z4=>?_) (h1:=t26);exact kpL (ll1 4) U<|nn<|rt<|rC U U I z2y  ⟨_,rfl,by rw[j7k oo hn],(q1.z2 q2 q4)⟩
theorem q1l:BuildAt prog 54 [(0,1),(1,1)] [(.int .u8 0),(.int .i64 0)]:=BuildAt.struct underlying54 (λ_=>kr)<|λ_=>kr
theorem y1e:ElemOf prog 58 3 Enc.i64 8:=ElemOf.mk' (z:=(.int .i64 0)) underlying58 kr U
theorem zv3 (w:World):(zeroValue 3).run prog w=.ok (.int .i64 0) w:=kr
theorem v4p {α β:Type}{E:Enc α}{O:Enc β}{T T' b b':Nat}{w:World}{v I:Value}{l:List α}{l':List β}(h:Lw.Own E T b w v l)(Z:Lw.Own O T' b' w I l')(hT:T'≠T):∀k∈z0v v,k∉z0v I:=λk hk D=>by
 obtain⟨cs,hb⟩:=y0r h k hk
 exact Z.neB hb hT D
theorem u8c (v:Value)(ts:List TQ)(w0:World)(hs:Sl z5e w0 v ts)(D:TabAt w0 ts)(hl:ts.length=6)(hv:TabV (z2o ts)):Rets prog 186 #[v] w0 λr w'=>∃l,Lw.Own z1h 54 w0.heap.size w' r l/\l.length=z4x (z2o ts)/\Fr [] w0 w':=by
 obtain⟨A,c,rfl,l8,hM,hA⟩:=id hs;clear hA;unfold maxLen at hM;have i4:=z7p D;have hH:=hv.has;have l9:z4x (z2o ts)<=2048:=hv.ok.cnt;have h2:=y1v ts;refine wf func186 U ?_;have i5:=hs;have g9:=D;refine sr<|asg U<|nn<|sr<|mv U<|cl (ev1 U) cO (y5z _ _ _ hs D oo) ?_;rintro _ w1 ⟨rfl,q1⟩;have z1:=q1.size;refine asg U<|nn<|sr<|mv U<|z1g (m:=0) (c:=z4x<|z2o ts) (id0) U z4m z9l U<|λl1 w2 k1 hR q2 z2=>(asg U<|nn<|sr<|mv U<|lnS U<|z1g (m:=ts.length) (c:=ts.length) ((0:Int)) U y1e zv3 U<|λa4 w3 k2 hM q3 z3=>(asg U<|nn<|sr<|mv U<|lnS U<|z1g (m:=ts.length) (c:=ts.length) ((0:Int)) U y1e zv3 U<|λa1 w4 k4 Z q4 z4=>?_));refine asg U<|nn<|sq<|bl ?_;have hR:=hR.ext<|q3.n1 q4;have hM:=hM.ext q4;refine lpK (ι:=Value×List Int×List Int×List LId) (ll4 0 3 5 6) (λp=>[(4,p.1)]) (λp w'=>Fr [] w0 w'/\FstI (z2o ts) p.2.1 p.2.2.1 p.2.2.2.length/\Lw.Own z1h 54 w0.heap.size w' p.1 p.2.2.2/\Lw.Own Enc.i64 3 w0.heap.size w' (.slice (saa a4) ts.length ts.length) p.2.1/\Lw.Own Enc.i64 3 w0.heap.size w' (.slice (saa a1) ts.length ts.length) p.2.2.1) (λp=>z4x (z2o ts)-p.2.2.2.length) (_,List.replicate ts.length 0,List.replicate ts.length 0,[]) U ⟨(q1.n3 q2 q3 q4),⟨by simp only;rw[hl];exact FstI.init,by simpa using hR.low oo,hM.low oo,Z.low oo⟩⟩ ?_;rintro⟨vR,ms,uu,l⟩ w5 ⟨q5,⟨hF,hR,hM,Z⟩⟩;simp only at hF hR hM Z;have z5:=q5.size;refine kpC [(0,_),(3,_),(5,_),(6,_),(4,vR)] U ?_;have a9:a4∉z0v vR:=λh=>v4p hR hM dd a4 h<|l11.2 U;have b0:a1∉z0v vR:=λh=>v4p hR Z dd a1 h<|l11.2 U;have l3:=(hM.blk a4<|l11.2 U).2;have l4:=(Z.blk a1<|l11.2 U).2;obtain⟨AR,cR,rfl,l7⟩:=hR.sl.form;refine sq<|sr<|mv U<|lnS U<|mv U<|lt' U<|nn<|cd U (λc0=>?_)<|λc0=>?_;refine sk<|tn<|bl<|sc<|sr<|mv U<|lnS U<|asg U<|nn<|sq<|lb<|tn<|sq<|sr<|mv U<|lnS U<|mv U<|nn<|bl<|lpK (ι:=Nat×List Int) (ll8 0 3 4 5 6 7 28 29) (λp=>[(30,.int .i64 (p.1:Int))]) (λp w'=>Fr [a1] w5 w'/\p.1<=6/\FstI (z2o ts) ms p.2 l.length/\(∀z,z<p.1->u1f (z2o ts) ms z)/\Lw.Own Enc.i64 3 w0.heap.size w' (.slice (saa a1) ts.length ts.length) p.2) (λp=>6-p.1) (0,uu) U ⟨l12 _ _,⟨l16 _,hF,λz h=>absurd h sp0,Z⟩⟩ ?_;rintro⟨y,vs⟩ w6 ⟨q6,⟨hy,hF,e6,Z⟩⟩;simp only at hy hF e6 Z;have z6:=q6.size;refine kpC [(0,_),(3,_),(4,_),(5,_),(6,_),(7,_),(28,_),(29,_),(30,.int .i64 (y:Int))] U<|sr<|lt' U<|nn<|sq<|cd U (λc1=>?_)<|λc1=>?_;have D:=g9.ext<|q5.z1 q6;have a6:y<6:=by omega
 have m1:=i4 y;have h0:=hF.lm;have i2:=hF.mb y a6;have i0:=(D _<|z1b (d:=tq0) (i:=y) oo).1.len_le;unfold maxLen at i0;refine sk<|tn<|sq<|bl<|sr<|mv U ?_;have hs:=i5.ext<|q5.z1 q6;refine z1a (tq0) U hs U x3c z1j<|λj2 f8=>?_;refine z1c U (f8 _ hs) y2x<|asg U<|asg U<|nn<|sq<|sr<|mv U<|mv U ?_;have hM:=hM.fr q6 (by intro k D I;have D:=l11.1 D;have I:=l11.1 (show k∈[a4] from I);omega);refine z1a (0) U hM.sl U y1e z1j<|λj3 f9=>?_;refine z1c U (f9 _ hM.sl) na3<|mv U<|lnS U<|eq' U<|kpL (ll12 0 3 4 5 6 7 8 9 28 29 30 41) U<|nn<|cd U (λc2=>?_)<|λc2=>?_;have e5:u1f (z2o ts) ms y:=.inl (by rw[z4g];omega);refine ex<|te<|xh<|tn<|rg<|ad6 U<|mv U<|nl ?_;exact lpE ((y+1,_)) U ⟨((l12 [a1] _).z1 q6),⟨sm,hF,λz h=>(by
  by_cases e:z<y;exact e6 z e;obtain rfl:z=y:=by simp only at h;omega
  exact e5),Z⟩⟩ sm
 have d9:ms.getD y 0<(z3k (z2o ts) y:Int):=by rw[z4g];rw[z4g]at i2;omega
 have b4:(ms.getD y 0).toNat<(ts.getD y tq0).2.length:=by rw[z4g]at d9;omega
 have e3:nd (z2o ts) y (ms.getD y 0)=z5x ((ts.getD y tq0).2.getD (ms.getD y 0).toNat lq0).p:=by unfold nd;rw[y4l]
 have h3:=v4l<|(ts.getD y tq0).2.getD (ms.getD y 0).toNat lq0;have b5:=(hv.ok.rts y a6 _ (by rw[z4g];exact b4)).1;rw[y4l]at b5;have k7:=z2f (z9t D (y:=y) (n:=(ms.getD y 0).toNat) oo b4).1;have k8:=z2f (z9t D (y:=y) (n:=(ms.getD y 0).toNat) oo b4).2;have l5:((ts.getD y tq0).2.getD (ms.getD y 0).toNat lq0).ths.length<=4:=b5.2.1.1;have l6:((ts.getD y tq0).2.getD (ms.getD y 0).toNat lq0).pas.length<=4096:=b5.2.1.2;refine sk<|tn<|sr<|mv U<|mv U<|mv U<|z1a (0) U hM.sl U y1e z1j<|λj4 g0=>?_;refine z1c U (g0 _ hM.sl) na3<|z1a (lq0) U (D _<|z1b (d:=tq0) (i:=y) oo).1 U y7n z1j<|λj5 g1=>?_;refine z1q U (g1 _ (D _<|z1b (d:=tq0) (i:=y) oo).1) x5s<|al v0e U<|λf7 w7 k0 O q7 z7=>?_;refine z0j (vs:=[_,_,_,_]) U O v5p (λw8 O q8 z8=>?_) (h1:=(by first|(simp[Value.oneCell',S];done)|exact z7t.one<|(ts.getD y tq0).2.getD (ms.getD y 0).toNat lq0|exact z1h.one<|(z5x ((ts.getD y tq0).2.getD (ms.getD y 0).toNat lq0).p).getD (xs.getD y 0).toNat id0));refine kpL (ll11 0 3 4 5 6 7 8 10 28 29 30) U<|nn<|sq<|bl ?_;have Z:=(Z.ext q7).fr q8 (by intro k D I;have D:=l11.1 D;have I:=l11.1 (show k∈[a1] from I);omega);refine lpK (ι:=List Int) (ll11 0 3 4 5 6 7 8 10 28 29 30) (λp=>[]) (λp w'=>Fr [a1] w8 w'/\FstI (z2o ts) ms p l.length/\Lw.Own Enc.i64 3 w0.heap.size w' (.slice (saa a1) ts.length ts.length) p) (λp=>(z5x ((ts.getD y tq0).2.getD (ms.getD y 0).toNat lq0).p).length-(p.getD y 0).toNat) vs U ⟨l12 _ _,⟨hF,Z⟩⟩ ?_;rintro xs w9 ⟨q9,⟨hF,Z⟩⟩;have z9:=q9.size;refine kpC (ll11 0 3 4 5 6 7 8 10 28 29 30) U ?_;have h5:=hF.tb y a6;have h0:=hF.lm;have m0:=hF.lt;refine sq<|sq ?_;have O:=O.fr q9;intro a h;refine rgh none (Fr []) ?_;intro h7 a5 hC;have n8:=a5.size;have O:=O.ext a5;have Z:=Z.ext a5;have a2:=O;have a8:=Z;refine z0e 0 h U λa h=>z0e 1 h U λa h=>z1d (0) 2 h U Z.sl U y1e U ?_ (hp:=rfl);intro j6 g3 a h;refine z2h 3 h U (λ_ hw=>g3 _<|a8.sl.ext hw) na3 U λa h=>z0c 4 h U z8c U λa h=>z0m 5 h U (fx a2.ext) U z6k U λa h=>z8b 6 hC h wn U underlying32 U λa h=>z0c 7 h U y0c U λa h=>z0m 8 h U (fx a2.ext) U y1j U λa h=>z8b 9 hC h wn U underlying108 U λa h=>z6t 10 h U t12 U λa h=>v5o 11 hC h wn U U λa h=>z0q ?_;clear hC a2 a8;refine xB (ll12 0 3 4 5 6 7 8 10 28 29 30 60) h U<|tn<|cd U (λc3=>?_)<|λc3=>?_;have f0:xs.getD y 0<IntKind.i64.wrap ((((ts.getD y tq0).2.getD (ms.getD y 0).toNat lq0).th.2.1:Int)+(((ts.getD y tq0).2.getD (ms.getD y 0).toNat lq0).pa.2.1:Int)):=c3;rw[IntWalk.i64_in _ oo]at f0;have e4:(xs.getD y 0).toNat<(z5x ((ts.getD y tq0).2.getD (ms.getD y 0).toNat lq0).p).length:=by rw[h3];omega
 have g7:z5t (z2o ts) ((z5x ((ts.getD y tq0).2.getD (ms.getD y 0).toNat lq0).p).getD (xs.getD y 0).toNat id0):=b5.2.2.1 _<|z1b e4;have k6:=g7.1;have g8:=g7.2.1;rw[h2]at g8;have h0:=hF.lm;refine sk<|tn<|bl<|sq<|sq ?_;have D:=g9.ext<|q5.z5 q6 q7 q8 q9 a5;intro a h;refine rgh none (Fr []) ?_;intro f4 a7 hC;have n9:=a7.size;have D:=D.ext a7;have O:=O.ext a7;have Z:=Z.ext a7;have e9:=D;have a2:=O;have a8:=Z;refine z0x 0 h U (fx a2.ext) x5s U λa h=>z0e 1 h U λa h=>z0e 2 h U λa h=>z1d (0) 3 h U Z.sl U y1e U ?_ (hp:=rfl);intro j7 g4 a h;refine z2h 4 h U (λ_ hw=>g4 _<|a8.sl.ext hw) na3 U λa h=>z1v 5 6 kr U ?_ ?_;refine z0n h (z0a U<|z0a U z0f) cO (v9n ((ts.getD y tq0).2.getD (ms.getD y 0).toNat lq0) (xs.getD y 0) _ (z9t D (y:=y) (n:=(ms.getD y 0).toNat) oo b4) h5 e4 ⟨b5.2.1.1,b5.2.1.2⟩) ?_;rintro _ i9 ⟨rfl,b6⟩ a h;have o0:=b6.size;have O:=O.ext b6;have hC:=hC.next b6;refine z0b<|z0d 6 U<|z0u h z9l U λm2 a0 b7 hz a h=>?_;obtain⟨b2,hg⟩:∃g,g=i9.heap.size:=⟨_,rfl⟩;rw[<-hg]at a0 h hz;have e0:f7<b2:=by have:=O.lt;omega
 have o1:=b7.size;have D:=D.ext<|b6.n1 b7;have O:=O.ext b7;have Z:=Z.ext<|b6.n1 b7;have hC:=hC.next b7;refine z0b<|z0d 7 U<|z0t h U a0 U y1b ?_ (h1:=(by first|(simp[Value.oneCell',S];done)|exact z7t.one<|(ts.getD y tq0).2.getD (ms.getD y 0).toNat lq0|exact z1h.one<|(z5x ((ts.getD y tq0).2.getD (ms.getD y 0).toNat lq0).p).getD (xs.getD y 0).toNat id0));intro j0 d4 b9 hz a h;have o2:=b9.size;have O:=O.fr b9;have Z:=Z.fr b9 (by intro k D I;have D:=l11.1 D;have I:=l11.1 (show k∈[a1] from I);omega);have hC:=hC.sp b9;have a0:Blk j0 b2 _ [_,_]:=d4;clear d4;refine z0b<|z0q ?_;clear hC e9 a2 a8;refine xB (ll12 0 3 4 5 6 7 8 10 11 28 29 30) h U<|tn<|sq ?_;have hM:=((((hM.ext q7).fr q8 (by intro k D I;have D:=l11.1 D;have I:=l11.1 (show k∈[a4] from I);omega)).fr q9 (by intro k D I;have D:=l11.1 D;have I:=l11.1 (show k∈[a4] from I);omega)).ext<|a5.n3 a7 b6 b7).fr b9 (by intro k D I;have D:=l11.1 D;have I:=l11.1 (show k∈[a4] from I);omega);intro a h;refine rgh none (Fr []) ?_;intro h8 c9 hC;have o3:=c9.size;have hM:=hM.ext c9;have a0:=a0.ext c9;have b3:=hM;have a3:=a0;refine z0c 0 h U y1k U λa h=>z0m 1 h U (fx a3.ext) U na3 U λa h=>z0e 2 h U λa h=>z0c 3 h U z9r U λa h=>z0m 4 h U (fx a3.ext) U na5 U λa h=>z3a 5 h U t23 U λa h=>z1d (0) 6 h U hM.sl U y1e U ?_ (hp:=rfl);intro f5 d5 a h;refine z2h 7 h U (λ_ hw=>d5 _<|b3.sl.ext hw) na3 U λa h=>j0y 8 hC h wn U U U U λa h=>z0q ?_;clear hC b3 a3;refine xB (ll12 0 3 4 5 6 7 8 10 28 29 30 75) h U<|tn<|cd U (λc4=>?_)<|λc4=>?_;have e5:u1f (z2o ts) ms y:=.inr ⟨d9,((z5x ((ts.getD y tq0).2.getD (ms.getD y 0).toNat lq0).p).getD (xs.getD y 0).toNat id0),by rw[e3];exact z1b e4,by unfold InM;omega⟩;refine ex<|te<|xo U<|te<|xo U<|te<|xh<|tn<|rg<|ad6 U<|mv U<|nl ?_;have Z:=Z.ext c9;exact lpE ((y+1,_)) U ⟨((((l12 [a1] _).z6 q6 q7 q8 q9 a5 a7).n1 b6).z3 b7 b9 c9),⟨sm,hF,λz h=>(by
  by_cases e:z<y;exact e6 z e;obtain rfl:z=y:=by simp only at h;omega
  exact e5),Z⟩⟩ sm
 have d3:=hF.there a6 (by rw[e3];unfold InM;omega);refine sk<|tn<|rg<|mv U<|mv U ?_;have Z:=Z.ext c9;refine z1a (0) U Z.sl U y1e z1j<|λf6 d6=>?_;refine z1c U (d6 _ Z.sl) na3<|ad6 U<|z6a (p:=y) (E:=Enc.i64) U y1e<|z3t (i:=y) (xs.getD y 0+1) U Z (by rw[hF.lt];exact a6) U sz3<|λm3 Z i7 o4=>?_;exact kpL (ll11 0 3 4 5 6 7 8 10 28 29 30) U<|nl<|bn'<|lpE (_) U ⟨((((l12 [a1] _).z6 q9 a5 a7 b6 b7 b9).n1 c9).z1 i7),⟨d3,Z⟩⟩ (by rw[z5q (by rw[hF.lt];exact a6),if_pos U];omega);refine z0u h z9l U λm4 a0 b8 hz a h=>?_;obtain⟨b2,hg⟩:∃g,g=f4.heap.size:=⟨_,rfl⟩;rw[<-hg]at a0 h hz;have e0:f7<b2:=by have:=O.lt;omega
 have o5:=b8.size;have D:=D.ext b8;have hC:=hC.next b8;refine z0b<|z0d 5 U<|z0n h (z0a U<|z0a U z0f) cO (v9n ((ts.getD y tq0).2.getD (ms.getD y 0).toNat lq0) (xs.getD y 0) _ (z9t D (y:=y) (n:=(ms.getD y 0).toNat) oo b4) h5 e4 ⟨b5.2.1.1,b5.2.1.2⟩) ?_;rintro _ m5 ⟨rfl,b1⟩ a h;have o6:=b1.size;have D:=D.ext b1;have O:=O.ext<|b8.n1 b1;have Z:=Z.ext<|b8.n1 b1;have a0:=a0.ext b1;have hC:=hC.next b1;refine z0b<|z0d 7 U<|z0t h U a0 U y1b ?_ (h1:=(by first|(simp[Value.oneCell',S];done)|exact z7t.one<|(ts.getD y tq0).2.getD (ms.getD y 0).toNat lq0|exact z1h.one<|(z5x ((ts.getD y tq0).2.getD (ms.getD y 0).toNat lq0).p).getD (xs.getD y 0).toNat id0));intro j1 d4 d0 hz a h;have o7:=d0.size;have O:=O.fr d0;have Z:=Z.fr d0 (by intro k D I;have D:=l11.1 D;have I:=l11.1 (show k∈[a1] from I);omega);have hC:=hC.sp d0;have a0:Blk j1 b2 _ [_,_]:=d4;clear d4;refine z0b<|z0q ?_;clear hC e9 a2 a8;refine xB (ll12 0 3 4 5 6 7 8 10 11 28 29 30) h U<|tn<|sq ?_;have hM:=((((hM.ext q7).fr q8 (by intro k D I;have D:=l11.1 D;have I:=l11.1 (show k∈[a4] from I);omega)).fr q9 (by intro k D I;have D:=l11.1 D;have I:=l11.1 (show k∈[a4] from I);omega)).ext<|a5.n3 a7 b8 b1).fr d0 (by intro k D I;have D:=l11.1 D;have I:=l11.1 (show k∈[a4] from I);omega);intro a h;refine rgh none (Fr []) ?_;intro h9 d1 hC;have o8:=d1.size;have hM:=hM.ext d1;have a0:=a0.ext d1;have b3:=hM;have a3:=a0;refine z0c 0 h U y1k U λa h=>z0m 1 h U (fx a3.ext) U na3 U λa h=>z0e 2 h U λa h=>z0c 3 h U z9r U λa h=>z0m 4 h U (fx a3.ext) U na5 U λa h=>z3a 5 h U t23 U λa h=>z1d (0) 6 h U hM.sl U y1e U ?_ (hp:=rfl);intro f5 d5 a h;refine z2h 7 h U (λ_ hw=>d5 _<|b3.sl.ext hw) na3 U λa h=>j0y 8 hC h wn U U U U λa h=>z0q ?_;clear hC b3 a3;refine xB (ll12 0 3 4 5 6 7 8 10 28 29 30 75) h U<|tn<|cd U (λc4=>?_)<|λc4=>?_;have e5:u1f (z2o ts) ms y:=.inr ⟨d9,((z5x ((ts.getD y tq0).2.getD (ms.getD y 0).toNat lq0).p).getD (xs.getD y 0).toNat id0),by rw[e3];exact z1b e4,by unfold InM;omega⟩;refine ex<|te<|xo U<|te<|xo U<|te<|xh<|tn<|rg<|ad6 U<|mv U<|nl ?_;have Z:=Z.ext d1;exact lpE ((y+1,_)) U ⟨((((l12 [a1] _).z6 q6 q7 q8 q9 a5 a7).n1 b8).z3 b1 d0 d1),⟨sm,hF,λz h=>(by
  by_cases e:z<y;exact e6 z e;obtain rfl:z=y:=by simp only at h;omega
  exact e5),Z⟩⟩ sm
 have d3:=hF.there a6 (by rw[e3];unfold InM;omega);refine sk<|tn<|rg<|mv U<|mv U ?_;have Z:=Z.ext d1;refine z1a (0) U Z.sl U y1e z1j<|λf6 d6=>?_;refine z1c U (d6 _ Z.sl) na3<|ad6 U<|z6a (p:=y) (E:=Enc.i64) U y1e<|z3t (i:=y) (xs.getD y 0+1) U Z (by rw[hF.lt];exact a6) U sz3<|λm6 Z i8 o9=>?_;exact kpL (ll11 0 3 4 5 6 7 8 10 28 29 30) U<|nl<|bn'<|lpE (_) U ⟨((((l12 [a1] _).z6 q9 a5 a7 b8 b1 d0).n1 d1).z1 i8),⟨d3,Z⟩⟩ (by rw[z5q (by rw[hF.lt];exact a6),if_pos U];omega);have f0:¬xs.getD y 0<IntKind.i64.wrap ((((ts.getD y tq0).2.getD (ms.getD y 0).toNat lq0).th.2.1:Int)+(((ts.getD y tq0).2.getD (ms.getD y 0).toNat lq0).pa.2.1:Int)):=c3;rw[IntWalk.i64_in _ oo]at f0;have d3:=hF.push hH a6 d9 (by rw[e3,h3];omega);refine ex<|te<|te<|xh<|tn<|sr<|mv U<|mv U<|ad6 U<|z4c U (us underlying3) underlying5 (wi8 oo)<|mv U<|mv U ?_;have hM:=(((hM.ext q7).fr q8 (by intro k D I;have D:=l11.1 D;have I:=l11.1 (show k∈[a4] from I);omega)).fr q9 (by intro k D I;have D:=l11.1 D;have I:=l11.1 (show k∈[a4] from I);omega)).ext a5;refine z1a (0) U hM.sl U y1e z1j<|λj8 g5=>?_;refine z1c U (g5 _ hM.sl) na3<|z1r (cs:=[_,_]) (ev2 U) q1l (z0g U<|z0g U z0r) U ?_;refine z1i ([(⟨(y:Int)+1,ms.getD y 0⟩:LId)]) (ev1 U) U z4m<|λl2 m7 k5 h4 e7 p0=>?_;have hM:=hM.ext e7;have Z:=Z.ext e7;have hR:=((((hR.fr q6 (by intro k D I;rw[l11.1 D]at I;first|exact a9 I|exact b0 I|(have h_:=(hR.blk _ I).2;omega))).ext q7).fr q8 (by intro k D I;rw[l11.1 D]at I;first|exact a9 I|exact b0 I|(have h_:=(hR.blk _ I).2;omega))).fr q9 (by intro k D I;rw[l11.1 D]at I;first|exact a9 I|exact b0 I|(have h_:=(hR.blk _ I).2;omega))).ext<|a5.n1 e7;have f1:=hR;refine z2l U hR h4.sl z4m (λh6 m8 hR e8 i3=>?_) (hM:=t60) (hb:=t54);have p1:=e8.size;have hM:=hM.fr e8<|λk D I=>a9 (by have e:=l11.1 (show k∈[a4] from I);rw[<-e];exact D);have Z:=Z.fr e8<|λk D I=>b0 (by have e:=l11.1 (show k∈[a1] from I);rw[<-e];exact D);clear a9 b0;have a9:a4∉z0v h6:=λh=>v4p hR hM dd a4 h<|l11.2 U;have b0:a1∉z0v h6:=λh=>v4p hR Z dd a1 h<|l11.2 U;obtain⟨k9,l0,rfl,_⟩:=hR.sl.form;refine asg U<|kpL (ll7 0 3 4 5 6 7 8) U<|nn<|sr<|mv U<|mv U<|z1a (0) U hM.sl U y1e z1j<|λj9 g6=>?_;refine z1c U (g6 _ hM.sl) na3<|ad6 U<|z6a (p:=y) (E:=Enc.i64) U y1e<|z3t (i:=y) (ms.getD y 0+1) U hM (by rw[hF.lm];exact a6) U sz3<|λm9 hM f2 p3=>?_;refine kpL (ll7 0 3 4 5 6 7 8) U<|nn<|sr<|mv U<|mv U ?_;have Z:=Z.fr f2 (by intro k D I;have D:=l11.1 D;have I:=l11.1 (show k∈[a1] from I);omega);refine z6a (p:=y) (E:=Enc.i64) U y1e<|z3t (i:=y) (0) U Z (by rw[hF.lt];exact a6) U sz3<|λn7 Z f3 p4=>?_;refine nn<|ex<|xo U<|te<|te<|xh<|tn<|sr<|mv U<|lnS U<|mv U<|eq' U<|nn<|cd U (λc5=>?_)<|λc5=>?_;exfalso;simp only[l13,l34,l52]at c5;omega;skip;refine sk<|gn'<|bn' ?_;have hR:=(hR.fr f2 (by intro k D I;rw[l11.1 D]at I;first|exact a9 I|exact b0 I|(have h_:=(hR.blk _ I).2;omega))).fr f3 (by intro k D I;rw[l11.1 D]at I;first|exact a9 I|exact b0 I|(have h_:=(hR.blk _ I).2;omega));have hM:=hM.fr f3 (by intro k D I;have D:=l11.1 D;have I:=l11.1 (show k∈[a4] from I);omega);exact lpE ((_,_,_,_)) U ⟨(((q5.z6 q6 q7 q8 q9 a5 e7).step e8<|λk D d9=>absurd (f1.blk k D).1 oo).z2 f2 f3),⟨by simpa using d3,hR,hM,Z⟩⟩ t54;obtain rfl:y=6:=by omega
 have i1:=hF.done hH e6 hv.ok.ord;refine ex<|te<|te<|xh<|tn<|sr<|mv U<|lnS U<|mv U<|eq' U<|kpL (ll6 0 3 4 5 6 106) U<|nn<|cd U (λc5=>?_)<|λc5=>?_;have d7:l.length=z4x (z2o ts):=i1;refine ex<|gx'<|xo U<|te<|xh<|tn<|sr<|mv U<|asg U<|kpL (ll1 2) U<|nn<|rt<|r1 U ?_;have hR:=hR.fr q6 (by intro k D I;rw[l11.1 D]at I;first|exact a9 I|exact b0 I|(have h_:=(hR.blk _ I).2;omega));exact⟨_,rfl,l,hR,d7,(q5.z1 q6)⟩;exact absurd U c5;have d7:l.length=z4x (z2o ts):=by have:=hF.leI oo;omega
 exact ex<|te<|te<|xh<|tn<|sr<|mv U<|asg U<|kpL (ll1 2) U<|nn<|rt<|r1 U ⟨_,rfl,l,hR,d7,q5⟩
theorem v5c:z1e prog 34 1 1:=λ_ _=>kr
theorem k8t:z2e prog 31:=λ_=>kr
theorem k7d:z2e prog 218:=λ_=>kr
theorem v6e (v:Value)(l:List LId)(w0:World)(I:Sl z1h w0 v l)(hl:l.length<=100000):Rets prog 187 #[v] w0 λr w'=>∃A,r=.slice A l.length l.length/\Lw.Own z1h 54 w0.heap.size w' r l/\Fr [] w0 w':=by
 obtain⟨A,c,rfl,a0,hM,hA⟩:=id I;clear hA;unfold maxLen at hM;refine wf func187 U ?_;have O:=I;refine sr<|asg U<|nn<|sr<|mv U<|lnS U<|z1g (m:=l.length) (c:=l.length) (id0) U z4m z9l U<|λg6 w1 a1 D Z z1=>(asg U<|nn<|sr<|mv U<|mv U ?_);have I:=O.ext Z;refine z9p (zs:=List.replicate l.length id0) t35 U (by rw[l22];exact D) I t36 z4m<|λw2 D q2 z2=>?_;rw[l22]at D;exact nn<|sr<|mv U<|asg U<|nn<|rt<|r1 U ⟨_,rfl,some ⟨g6,0,none⟩,rfl,D.low oo,(Z.z1 q2)⟩
theorem v7y (v:Value)(ts:List TQ)(w0:World)(I:Sl z5e w0 v ts)(D:TabAt w0 ts)(hl:ts.length=6)(hv:TabV (z2o ts)):Rets prog 138 #[v] w0 λr w'=>∃u,r=.tuple #[u,.int .i64 0]/\Fr [] w0 w':=by
 obtain⟨A,c,rfl,a6,hM,hA⟩:=id I;clear hA;unfold maxLen at hM;have a9:=z7p D;have a7:z4x (z2o ts)<=2048:=hv.ok.cnt;refine wf func138 U ?_;have Z:=I;have O:=D;refine sr<|asg U<|asg U<|nn<|sq<|sr<|mv U<|lnS U<|ne' U<|nn<|cd U (λc0=>?_)<|λc0=>?_;refine sr<|asg U<|asg U<|nn<|rt<|tr<|r2 U U U ?_;exact t56;refine sk<|tn<|sq<|sr<|mv U<|cl (ev1 U) cO (y5z _ _ _ I D oo) ?_;rintro _ w1 ⟨rfl,q1⟩;refine gt' U<|nn<|cd U (λc1=>?_)<|λc1=>?_;refine sr<|asg U<|asg U<|nn<|rt<|tr<|r2 U U U ?_;exact t56;refine sk<|tn<|sq<|sr<|mv U ?_;have I:=Z.ext q1;have D:=O.ext q1;refine cl (ev1 U) cO (u1n _ _ _ I D hl hv.ok) ?_;rintro _ w2 ⟨rfl,q2⟩;refine asg U<|nn<|sr<|mv U<|ne' U<|nn<|cd U (λc2=>?_)<|λc2=>?_;refine sr<|mv U<|asg U<|asg U<|nn<|rt<|tr<|r2 U U U ?_;exact t56;refine sk<|tn<|sq<|sr<|mv U ?_;have I:=Z.ext<|q1.n1 q2;have D:=O.ext<|q1.n1 q2;refine cl (ev1 U) cO (j7s _ _ _ I D hl hv) ?_;rintro _ w3 ⟨rfl,q3⟩;refine asg U<|nn<|sr<|mv U<|ne' U<|nn<|cd U (λc3=>?_)<|λc3=>?_;refine sr<|mv U<|asg U<|asg U<|nn<|rt<|tr<|r2 U U U ?_;exact t56;refine sk<|tn<|sr<|mv U ?_;have I:=Z.ext<|q1.n2 q2 q3;have D:=O.ext<|q1.n2 q2 q3;refine cl (ev1 U) cO (u8c _ _ _ I D hl hv) ?_;rintro a4 w4 ⟨l,ho,a8,q4⟩;obtain⟨a2,a5,rfl,a0⟩:=ho.sl.form;refine asg U<|nn<|sq<|sr<|mv U<|lnS U<|mv U ?_;have I:=Z.ext<|q1.n3 q2 q3 q4;have D:=O.ext<|q1.n3 q2 q3 q4;refine cl (ev1 U) cO (y5z _ _ _ I D oo) ?_;rintro _ w5 ⟨rfl,q5⟩;refine lt' U<|nn<|cd U (λc4=>?_)<|λc4=>?_;refine sr<|asg U<|asg U<|nn<|rt<|tr<|r2 U U U ?_;exact t56;refine sk<|tn<|sr<|mv U ?_;have ho:=ho.ext q5;refine cl (ev1 U) cO (v6e _ _ _ ho.sl oo) ?_;rintro _ w6 ⟨a3,rfl,a1,q6⟩;exact asg U<|asg U<|nn<|rt<|r2 U U U ⟨_,rfl,_,rfl,(q1.n5 q2 q3 q4 q5 q6)⟩
theorem k0n (v:Value)(ts:List TQ)(w0:World)(I:Sl z5e w0 v ts)(D:TabAt w0 ts)(hl:ts.length=6)(hv:TabV (z2o ts)):Rets prog 101 #[v] w0 λr w'=>r=.int .i64 0/\Fr [] w0 w':=by
 obtain⟨A,c,rfl,a0,Z,O⟩:=id I;clear O;unfold maxLen at Z;have a2:=z7p D;refine wf func101 U ?_;have a3:=I;have a1:=D;refine sr<|asg U<|nn<|sr<|mv U<|cl (ev1 U) cO (v7y _ _ _ I D hl hv) ?_;rintro _ w1 ⟨v7,rfl,q1⟩;exact mv U<|xt U<|xt U<|asg U<|asg U<|kpL (ll1 4) U<|nn<|sr<|mv U<|asg U<|nn<|rt<|r1 U ⟨_,rfl,rfl,q1⟩
theorem k1g (D g:Nat)(p:List LId)(A:Option Addr)(m c:Nat)(w0:World)(a0:m=0)(O:Blk w0 D 218 [.map (some g)])(Z:MapZ idV w0 g (.int .i64 0) (x2p p)):Rets prog 141 #[.slice A m c,pta D] w0 λr w'=>MapZ idV w' g (.int .i64 0) (x2p p)/\Fr [g] w0 w':=by
 refine wf func141 U<|sr<|mv U<|lnS U<|mv U<|nn<|bl<|lpK (ι:=Nat) (ll3 1 5 6) (λk=>[(7,.int .i64 (k:Int))]) (λk w'=>Fr [] w0 w'/\k<=m) (λk=>m-k) 0 U ⟨l12 _ _,l16 _⟩ ?_;rintro k w1 ⟨I,hi⟩;refine kpC (ll4 1 5 6 7) U<|sr<|lt' U ?_;rw[show decide ((k:Int)<(m:Int))=false from decide_eq_false oo];exact nn<|sq<|cf U<|ex<|te<|te<|xh<|r0n U  ⟨_,rfl,Z.ext I,(l12 [g] _).next I⟩
theorem j9b (gp g:Nat)(p:List LId)(v:Value)(l:List LId)(w0:World)(hs:Sl z1h w0 v l)(I:Blk w0 gp 218 [.map (some g)])(O:MapZ idV w0 g (.int .i64 0) (x2p p))(a5:g∉z0v v)(a4:∀k,k<l.length->(p++l.take k).count (l.getD k id0)<=100000):Rets prog 141 #[v,pta gp] w0 λr w'=>MapZ idV w' g (.int .i64 0) (x2p<|p++l)/\Fr [g] w0 w':=by
 obtain⟨A,c,rfl,b3,hM,hA⟩:=id hs;clear hA;unfold maxLen at hM;have b1:=O.ne_blk I;have b5:=I.lt;have b0:=O.lt;refine wf func141 U ?_;have a8:=hs;refine sr<|mv U<|lnS U<|mv U<|nn<|bl<|lpK (ι:=Nat) (ll3 1 5 6) (λk=>[(7,.int .i64 (k:Int))]) (λk w'=>Fr [g] w0 w'/\k<=l.length/\MapZ idV w' g (.int .i64 0) (x2p<|p++l.take k)) (λk=>l.length-k) 0 U ⟨l12 _ _,⟨l16 _,by rw[l90,l24];exact O⟩⟩ ?_;rintro k w1 ⟨q1,⟨hk,O⟩⟩;have z1:=q1.size;refine kpC (ll4 1 5 6 7) U<|sr<|lt' U<|nn<|sq<|cd U (λc0=>?_)<|λc0=>?_;have a9:=a4 k oo;refine sk<|tn<|sq<|bl<|sr ?_;have hs:=a8.fr ((l12 [g] _).z1 q1) (by intro k_ a6 a2;rw[l11.1 a6]at a2;exact a5 a2);refine z1a (id0) U hs U z4m z1j<|λb2 a3=>?_;refine z1q U (a3 _ hs) z2y<|al z9l U<|λg4 w2 b4 D q2 z2=>?_;refine z0j (vs:=[_,_]) U D y1b (λw3 D q3 z3=>?_) (h1:=t26);refine nn ?_;have I:=((I.fr q1 t29).ext q2).fr q3 t29;have O:=(O.ext q2).fr q3 t52;intro a h;refine rgh none (Fr [g]) ?_;intro w4 q4 hC;have z4:=q4.size;have I:=I.ext q4;have O:=O.ext q4;have D:=D.ext q4;have a0:=I;have a1:=O;have Z:=D;refine z7l 0 hC h wn U (λ_ hw=>a0.fr hw t29) k7d U U λa h=>z0x 1 h U (λ_ hw=>Z.fr hw t29) z2y U λa h=>z1v 2 4 kr U ?_ ?_;refine z8j (V:=idV) (z:=(.int .i64 0)) (k:=(l.getD k id0)) (v:=.int .i64 ((((p++l.take k)).count (l.getD k id0):Nat):Int)) h U U O z7c underlying218 zvI U U λa h=>z0b<|z6t 3 h U t12 U λa h=>z0d 4 U ?_;have a7:=O.ne_blk D;refine z7y (V:=idV) (z:=(.int .i64 0)) (k:=(l.getD k id0)) h U U O z7c underlying218 zvI U λw5 b6 he q5 z5 a h=>?_;have O:=he.map;have D:=D.fr q5 t29;have I:=I.fr q5 t29;have hC:=hC.step q5 sp0;refine z0b<|z0k 5 h U λa h=>z0d 6 U<|z6m (V:=idV) (z:=(.int .i64 0)) (k:=(l.getD k id0)) h U U U he ?_;clear h a he O;intro w6 O q6 z6 a h;replace O:MapZ idV w6 g (.int .i64 0) (x2p<|(p++l.take k)++[(l.getD k id0)]):=by rw[<-x0w];exact O
 have D:=D.fr q6 t29;have I:=I.fr q6 t29;have hC:=hC.step q6 sp0;refine z0b<|z0q ?_;clear hC a0 a1 Z;exact xB (ll4 1 5 6 7) h U<|bn'<|tn<|rg<|ad6 U<|mv U<|nl<|lpE (k+1) U ⟨((l12 [g] _).z6 q1 q2 q3 q4 q5 q6),⟨oo,by rw[z6x id0 oo,<-l14];exact O⟩⟩ oo;have a7:=O.ne_blk D;refine z7y (V:=idV) (z:=(.int .i64 0)) (k:=(l.getD k id0)) h U U O z7c underlying218 zvI U λw7 b7 he q7 z7 a h=>?_;have O:=he.map;have D:=D.fr q7 t29;have I:=I.fr q7 t29;have hC:=hC.step q7 sp0;refine z0b<|z0k 5 h U λa h=>z0d 2 U<|z8j (V:=idV) (z:=(.int .i64 0)) (k:=(l.getD k id0)) (v:=.int .i64 ((((p++l.take k)).count (l.getD k id0):Nat):Int)) h U U O z7c underlying218 zvI U U λa h=>?_;refine z0b<|z6t 3 h U t12 U λa h=>z0d 6 U<|z6m (V:=idV) (z:=(.int .i64 0)) (k:=(l.getD k id0)) h U U U he ?_;clear h a he O;intro w8 O q8 z8 a h;replace O:MapZ idV w8 g (.int .i64 0) (x2p<|(p++l.take k)++[(l.getD k id0)]):=by rw[<-x0w];exact O
 have D:=D.fr q8 t29;have I:=I.fr q8 t29;have hC:=hC.step q8 sp0;refine z0b<|z0q ?_;clear hC a0 a1 Z;exact xB (ll4 1 5 6 7) h U<|bn'<|tn<|rg<|ad6 U<|mv U<|nl<|lpE (k+1) U ⟨((l12 [g] _).z6 q1 q2 q3 q4 q7 q8),⟨oo,by rw[z6x id0 oo,<-l14];exact O⟩⟩ oo;obtain rfl:k=l.length:=by omega
 rw[l40]at O;exact ex<|te<|te<|xh<|r0n U  ⟨_,rfl,O,((l12 [g] _).z1 q1)⟩
theorem v0l (I g:Nat)(p:List LId)(v:Value)(l:List LId)(wS w0:World)(hS:Sl z1h wS v l)(hg:wS.heap.size<=g)(hs:Sl z1h w0 v l)(D:Blk w0 I 218 [.map (some g)])(Z:MapZ idV w0 g (.int .i64 0) (x2p p))(O:∀k,k<l.length->(p++l.take k).count (l.getD k id0)<=100000):Rets prog 141 #[v,pta I] w0 λr w'=>MapZ idV w' g (.int .i64 0) (x2p<|p++l)/\Fr [g] w0 w':=by
 by_cases e:l=[];subst e;obtain⟨A,c,rfl,_⟩:=hs.form;rw[l24];exact k1g I g p A _ c w0 U D Z;exact j9b I g p v l w0 hs D Z (λh=>by have:=hS.blk e g h;omega) O
def hfv (q:FbQ)(z:Nat):SV:=if z=0 then q.h else q.f
def hfl (q:FbQ)(z:Nat):List LId:=if z=0 then q.hs else q.fs
theorem u5p {q:FbQ}{w:World}(h:FbAt w q)(z:Nat):Sl z1h w (slv<|hfv q z) (hfl q z):=by
 unfold hfv hfl;split;exact h.h;exact h.f
theorem k2i {q:FbQ}(z:Nat){i:LId}(h:i∈hfl q z):i∈q.hs++q.fs:=by
 unfold hfl at h;split at h;exact l60 _ h;exact l64 _ h
theorem q1g {q:FbQ}{z:Nat}(h:z<2):[Value.slice q.h.1 q.h.2.1 q.h.2.2,.slice q.f.1 q.f.2.1 q.f.2.2][(z:Int).toNat]?=some (.slice (hfv q z).1 (hfv q z).2.1 (hfv q z).2.2):=by
 obtain rfl|rfl:z=0\/z=1:=by omega
 rfl;rfl
theorem j2j:z4f prog 34 4:=⟨λ_=>kr,λ_=>kr⟩
theorem q0y:BuildAt prog 217 [(0,1),(1,1)] [(.slice none 0 0),(.slice none 0 0)]:=BuildAt.array (sz:=1) underlying217 (λ_=>kr) (λ_=>kr) (λi q h=>by match i,h with|0,h=>simpa using h.symm|1,h=>simpa using h.symm|(k+2),h=>simp at h)
theorem y5g:z1e prog 34 0 0:=λ_ _=>kr
theorem z8a:z1e prog 34 2 2:=λ_ _=>kr
theorem x5a:z1e prog 34 3 3:=λ_ _=>kr
theorem v4f:z2e prog 30:=λ_=>kr
theorem j1w:z1s prog 32 1:=λ_=>kr
theorem q0u:z1s prog 218 1:=λ_=>kr
theorem q1e (w:World):(zeroValue 218).run prog w=.ok (.map none) w:=kr
theorem y2m:z1s prog 48 2:=λ_=>kr
theorem x4f (w:World):(zeroValue 48).run prog w=.ok (.agg #[(.int .u8 0),(.int .i64 0)]) w:=kr
theorem x7z (r:Int)(w0:World):Rets prog 148 #[.int .i64 r] w0 λv w'=>v=.bool (decide (-4<=r/\r<=4))/\Fr [] w0 w':=by
 refine wf func148 U<|sr<|asg U<|nn<|sq<|rbo (r:=2) (L':=[]) (((-4<=r)/\(r<=4))) .nil ?_ ?_;refine mv U<|ge' U<|mv U<|gs 5 U (λD=>?_)<|λD=>?_;exact gY U<|mv U<|gY U<|le' U U<|pkt U<|asg U<|rbe U .nil;exact gN U<|gN U<|pkf U<|asg U<|rbe U .nil;exact tn<|rt<|r1 U ⟨_,rfl,rfl,(l12 _ _)⟩
theorem y4b (b p r:Int)(w0:World)(hp:-9223372036854775808<=p/\p<=9223372036854775807):Rets prog 113 #[.agg #[.int .u8 b,.int .i64 p],.int .i64 r] w0 λv w'=>v=.int .i64 (z2b b p r)/\Fr [] w0 w':=by
 refine wf func113 U<|sr<|bx U<|λg2 w1 a2 D q1 z1=>(asg U<|nn<|sq<|sq<|u0i (r:=12) (L':=ll2 1 2) ((((z3m b p)≠0)\/(¬(-4<=r/\r<=4)))) U ?_ ?_);refine z0l U D z5k<|cl (ev1 U) u8u (z5m _ _ _) ?_;rintro _ w2 ⟨rfl,q2⟩;refine ne' U<|mv U<|gs 8 U (λg0=>?_)<|λg0=>?_;exact gN U<|gN U<|gN U<|pkt U<|y3v U U q2;refine gY U<|mv U<|gY U<|cl (ev1 U) cO (x7z _ _) ?_;rintro _ w3 ⟨rfl,q3⟩;exact gY U<|nt' U<|pkf U<|y3v U U<|q2.n1 q3;intro w4 O;have z4:=O.size;refine tn<|cd U (λI=>?_)<|λI=>?_;exact sr<|asg U<|nn<|rt<|tr<|r1 U ⟨_,rfl,by rw[z2b,if_pos I],(q1.n1 O)⟩;have a0:z3m b p=0:=l15.1<|λe=>I<|.inl e;have a3:-4<=r/\r<=4:=l15.1<|λe=>I<|.inr e;have a1:=z2t a0;refine sk<|tn<|sq<|sr<|fad U z7e ?_;have D:=D.ext O;refine z0i U D U x9t<|eq' U<|nn<|cd U (λZ=>?_)<|λZ=>?_;exact sr<|fad U z7d<|z0i U D U na3<|x2e U U (wi6 oo)<|ad6 U<|asg U<|kpL (ll1 4) U<|nn<|rt<|tr<|r1 U ⟨_,rfl,by rw[z2b,if_neg I,if_pos Z],(q1.n1 O)⟩;exact sk<|tn<|sr<|fad U z7d<|z0i U D U na3<|mv U<|ad6 U<|x2e U U (wi6 oo)<|asg U<|kpL (ll1 4) U<|nn<|rt<|r1 U ⟨_,rfl,by rw[z2b,if_neg I,if_neg Z],(q1.n1 O)⟩
end Go.Proofs.YtkafbfjmcigaiaaGreatDoor
