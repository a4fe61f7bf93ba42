/- Texts of the proof, joined. -/
import Derived.Laws.CopyRow
import Derived.Lib.AppendZerosOnto
import Derived.Test.YtkafbfjmcigaiaaGreatDoorRows
import Derived.Laws.RangeString
import Derived.Test.YtkafbfjmcigaiaaGreatDoorGA1
set_option linter.unusedVariables false
set_option linter.unusedSimpArgs false
set_option maxHeartbeats 4000000
namespace Go.G08
open Go.Lw Go.G21
abbrev Bed:=List<|List LId
structure Bd where
  f:Bed
  b:Bed
deriving DecidableEq
def z2x:Bed->Bed
  | []=>[]
  | s::l=>if z2x l=[]/\s=[] then [] else s::z2x l
def atB (l:Bed)(n:Int):List LId:=l.getD (n-1).toNat []
def Bd.at (B:Bd)(b n:Int):List LId:=if b=0 then atB B.f n else atB B.b n
def Bd.atC (B:Bd)(b n:Int):List LId:=if z4a b n=0 then B.at b n else []
def x6p (l:Bed)(n:Nat):Bed:=l++List.replicate (n-l.length) []
def y7z (l:Bed)(n:Nat)(s:List LId):Bed:=z2x (if n=0 then l else (x6p l n).set (n-1) s)
def Bd.put (B:Bd)(b n:Int)(s:List LId):Bd:=if b=0 then ⟨y7z B.f n.toNat s,z2x B.b⟩ else ⟨z2x B.f,y7z B.b n.toNat s⟩
def Bd.flat (B:Bd):List LId:=B.f.flatten++B.b.flatten
structure BdOk (B:Bd):Prop where
  lf:B.f.length<=40
  lb:B.b.length<=40
  ss:∀s∈B.f++B.b,s.length<=4
  nm:∀i∈B.flat,y2n i
  nd:B.flat.Nodup
structure BdW (B:Bd):Prop where
  lf:B.f.length<=40
  lb:B.b.length<=40
  ss:∀s∈B.f++B.b,s.length<=4
  nm:∀i∈B.flat,y2n i
theorem BdOk.w {B:Bd}(h:BdOk B):BdW B:=⟨h.lf,h.lb,h.ss,h.nm⟩
def z2c (b n r:Int):Int:=if z4a b n≠0\/¬(-4<=r/\r<=4) then 0 else if b=0 then 4*n+2 else 4*(n+r)
structure Hd where
  id:LId
  b:Int
  n:Int
  s:Int
deriving DecidableEq
def hd0:Hd:=⟨id0,0,0,0⟩
def hdS (b r:Int)(k:Nat)(x:LId):Hd:=⟨x,b,(k:Int)+1,z2c b ((k:Int)+1) r⟩
def hds (b r:Int)(l:Bed)(i:Nat):List Hd:=(List.range i).flatMap λk=>(l.getD k []).map<|hdS b r k
def x9e (B:Bd)(r:Int):List Hd:=hds 0 r B.f B.f.length++hds 1 r B.b B.b.length
def z9f (h:Hd):List Hd->List Hd
  | []=>[h]
  | x::l=>if h.s<x.s then h::x::l else x::z9f h l
def z5x (l:List Hd):List Hd:=l.foldl (λa h=>z9f h a) []
def z2k (B:Bd)(r:Int):List Hd:=z5x<|x9e B r
def btw (l:List Hd)(fr to:Int):List Pa:=
  if fr<to then (l.filter λh=>decide (fr<h.s/\h.s<to)).map λh=>⟨h.id,decide (h.b=1),1⟩
  else ((l.filter λh=>decide (to<h.s/\h.s<fr)).map λh=>⟨h.id,decide (h.b=1),0⟩).reverse
def x7b (d:Int)(x o:LId):Cx:=if d=0 then ⟨o,x,1⟩ else ⟨x,o,-1⟩
def y1c (r d:Int)(k:Nat):Int:=if d=0 then (k:Int)+1+r-1 else (k:Int)+1+r
def u3j (B:Bd)(r d:Int)(k:Nat):List Cx:=(B.b.getD k []).flatMap λx=>(B.atC 0<|y1c r d k).reverse.map<|x7b d x
def x6n (B:Bd)(r d:Int)(i:Nat):List Cx:=(List.range i).flatMap<|u3j B r d
def z2n (B:Bd)(r d:Int):List Cx:=if d=1 then (x6n B r d B.b.length).reverse else x6n B r d B.b.length
def stI (d:Int):Int:=if d=0 then -1 else 1
def x2i (B:Bd)(r d p:Int)(k:Nat):List Pa:=if p≠z2c 1 ((k:Int)+1) r+stI d/\p≠z2c 1 ((k:Int)+1) r+3*stI d then [] else (B.b.getD k []).map λx=>⟨x,true,1-d⟩
def y4r (B:Bd)(r d p:Int)(i:Nat):List Pa:=(List.range i).flatMap<|x2i B r d p
def z7g (B:Bd)(r d p:Int):List Pa:=if d=1 then (y4r B r d p B.b.length).reverse else y4r B r d p B.b.length
def z6h (a b:LId):Int:=if a.y<b.y then -1 else if b.y<a.y then 1 else if a.n<b.n then -1 else if b.n<a.n then 1 else 0
def isC (a b:LId)(c:Cx):Bool:=decide (c.a=a/\c.b=b)
def z6x (l:List Cx)(a b:LId):Int:=((l.find?<|isC a b).map Cx.n).getD 0
def y4s (l:List Cx)(a b:LId)(n:Int):List Cx:=if l.any (isC a b) then l.map (λc=>if isC a b c then ⟨a,b,n⟩ else c) else l++[⟨a,b,n⟩]
def x6q (l:List Cx)(a b:LId):List Cx:=l.filter λc=>!isC a b c
def y4p (l:List Cx)(c:Cx):Except Int (List Cx):=
  let k:LId×LId:=if 0<z6h c.a c.b then (c.b,c.a) else (c.a,c.b)
  let n:=z6x l k.1 k.2+c.n
  if n < -1048576\/1048576<n then .error 3 else if n=0 then .ok (x6q l k.1 k.2) else .ok (y4s l k.1 k.2 n)
def z4o:List Cx->List Cx->Except Int (List Cx)
  | l,[]=>.ok l
  | l,c::r=>match y4p l c with|.error e=>.error e|.ok l'=>z4o l' r
structure MSt where
  rk:Int
  B:Bd
  ys:List Yn
  tb:Tb
  cr:List Cx
  fa:List LId
def yn0:Yn:=⟨false,0,0,false,[]⟩
def MSt.y (p:MSt)(y:Int):Yn:=p.ys.getD (y-1).toNat yn0
def MSt.setY (p:MSt)(y:Int)(q:Yn):MSt:={ p with ys:=p.ys.set (y-1).toNat q }
abbrev MR:=Except Int MSt
def lvS (y:Yn):Yn:=⟨false,0,y.ct,false,[]⟩
def mkS (y:Yn):Yn:=⟨true,y.pl,y.ct+1,false,[]⟩
def inM (p:MSt)(o:MOp):MR:=if enE (p.y o.y) o.d≠0 then .error (enE (p.y o.y) o.d) else .ok (p.setY o.y<|enS (p.y o.y) o.d)
def x6z (p:MSt)(o:MOp):MR:=if lvE (p.y o.y)≠0 then .error (lvE<|p.y o.y) else .ok (p.setY o.y<|lvS<|p.y o.y)
def z5q (p:MSt)(o:MOp):Int:=if (p.y o.y).inn=false then 12 else if o.d=1 then (if z2c o.b o.p p.rk<(p.y o.y).pl then 12 else 0) else if (p.y o.y).pl<z2c o.b o.p p.rk then 12 else 0
def z6p (p:MSt)(o:MOp):Int:=if o.d=1 then z2c o.b o.p p.rk+1 else z2c o.b o.p p.rk-1
def y2f (p:MSt)(y en:Int):List Pa:=btw (z2k p.B p.rk) (p.y y).pl en
def z9d (p:MSt)(y pl en:Int):MR:=if goE (p.y y) pl (y2f p y en)≠0 then .error (goE (p.y y) pl<|y2f p y en) else .ok (p.setY y<|goS (p.y y) pl<|y2f p y en)
def MSt.row (p:MSt)(y:Int):List Lp:=p.tb.getD (y-1).toNat []
def y1y (p:MSt)(o:MOp)(th st:List LId):MR:=
  if mkE (p.y o.y)≠0 then .error (mkE<|p.y o.y) else if 2048<=z4r p.tb then .error 3
  else .ok { p with B:=p.B.put o.b o.p<|st++[⟨o.y,(p.y o.y).ct⟩],ys:=p.ys.set (o.y-1).toNat<|mkS<|p.y o.y,tb:=p.tb.set (o.y-1).toNat (p.row o.y++[⟨o.b,(p.y o.y).nw,th,(p.y o.y).pe⟩]) }
def y1q (p:MSt)(o:MOp):MR:=if z5q p o≠0 then .error (z5q p o) else match z9d p o.y (z6p p o) (z2c o.b o.p p.rk) with
  | .error e=>.error e
  | .ok q=>y1y q o (q.B.at o.b o.p) []
def y0t (p:MSt)(o:MOp):MR:=if z5q p o≠0 then .error (z5q p o) else match z9d p o.y (z6p p o) (z2c o.b o.p p.rk) with
  | .error e=>.error e
  | .ok q=>if 4<=(q.B.at o.b o.p).length then .error 9 else y1y q o [] (q.B.at o.b o.p)
def y3h (p:MSt)(o:MOp):MR:=if z5q p o≠0 then .error (z5q p o) else z9d p o.y (z6p p o) (z6p p o)
def z5s (b n r:Int):Int:=if b=1 then n+r else n-r
def x7c (p:MSt)(o:MOp):Int:=min (z2c o.b o.p p.rk) (z2c (1-o.b) (z5s o.b o.p p.rk) p.rk)+1
def y0u (p:MSt)(o:MOp):List LId:=if o.b=1 then p.B.at 1 o.p++p.B.at 0 (z5s 1 o.p p.rk) else p.B.at 1 (z5s 0 o.p p.rk)++p.B.at 0 o.p
def z8w (p:MSt)(o:MOp):MR:=
  if p.B.at o.b o.p=[] then .error 13
  else if z4a (1-o.b) (z5s o.b o.p p.rk)≠0 then .error 11
  else if ∃y∈p.ys,y.inn=true/\y.pl=x7c p o then .error 12
  else if 4<(p.B.at o.b o.p).length+(p.B.at (1-o.b)<|z5s o.b o.p p.rk).length then .error 9
  else .ok { p with B:=(p.B.put o.b o.p []).put (1-o.b) (z5s o.b o.p p.rk) (y0u p o) }
def y3l (p:MSt)(o:MOp):MR:=if p.B.at o.b o.p=[] then .error 13 else .ok { p with B:=p.B.put o.b o.p [],fa:=p.fa++p.B.at o.b o.p }
def z7i (p:MSt)(d:Int)(y:Yn):Except Int Yn:=if y.inn=false then .ok y else if goE y y.pl (z7g p.B p.rk d y.pl)≠0 then .error (goE y y.pl<|z7g p.B p.rk d y.pl) else .ok (goS y y.pl<|z7g p.B p.rk d y.pl)
def z4e (p:MSt)(d:Int):List Yn->Except Int (List Yn)
  | []=>.ok []
  | y::l=>match z7i p d y with
    | .error e=>.error e
    | .ok y'=>match z4e p d l with
      | .error e=>.error e
      | .ok l'=>.ok<|y'::l'
def z6l (p:MSt)(d:Int):MR:=match z4e p d p.ys with
  | .error e=>.error e
  | .ok ys=>match z4o p.cr (z2n p.B p.rk d) with
    | .error e=>.error e
    | .ok cr=>.ok { p with ys:=ys,cr:=cr,rk:=p.rk+stI d }
def z4t:Nat->MSt->Int->MR
  | 0,p,_=>.ok p
  | n+1,p,r=>if p.rk=r then .ok p else match z6l p (if r<p.rk then 0 else 1) with
    | .error e=>.error e
    | .ok q=>z4t n q r
def u5j (p:MSt)(o:MOp):MR:=z4t 8 p o.r
def opM (p:MSt)(o:MOp):MR:=
  if o.k=1 then inM p o else if o.k=2 then x6z p o else if o.k=3 then u5j p o else if o.k=4 then y1q p o
  else if o.k=5 then y0t p o else if o.k=6 then y3h p o else if o.k=7 then z8w p o else y3l p o
def doM (p:MSt)(o:MOp):MR:=if y1b o≠0 then .error (y1b o) else opM p o
def z3d:Nat->MSt->List MOp->Except (Int×Nat) MSt
  | _,p,[]=>.ok p
  | i,p,o::l=>match doM p o with
    | .error e=>.error (e,i)
    | .ok q=>z3d (i+1) q l
def start:MSt:=⟨0,⟨[],[]⟩,List.replicate 6 yn0,List.replicate 6 [],[],[]⟩
theorem y2e:∀(l:Bed) (i:Nat),(z2x l).getD i []=l.getD i []
 | [],i=>rfl
 | s::l,i=>by
  have D:=y2e l
  unfold z2x
  split
  ·rename_i h
   cases i with
   | zero=>simp[h.2]
   | succ i=>have:=D i;rw[h.1]at this;simpa using this
  cases i with
  | zero=>simp
  | succ i=>simpa using D i
theorem y2v:∀l:Bed,(z2x l).flatten=l.flatten
 | []=>rfl
 | s::l=>by
  have D:=y2v l
  unfold z2x
  split
  ·rename_i h
   rw[h.1]at D
   simp only[List.flatten_cons,<-D,h.2];rfl
  simp only[List.flatten_cons,D]
theorem y4y:∀l:Bed,(z2x l).length<=l.length
 | []=>l20 _
 | s::l=>by
  have D:=y4y l
  unfold z2x
  split
  ·simp
  simp only[l33];omega
theorem y4u:∀(l:Bed) {s:List LId},s∈z2x l->s∈l
 | [],s,h=>h
 | t::l,s,h=>by
  unfold z2x at h
  split at h
  ·cases h
  rcases l56.1 h with rfl|h
  ·exact l39 ..
  exact l41 _<|y4u l h
theorem v0v:∀l:Bed,(∀s∈l,s=[])->z2x l=[]
 | [],_=>rfl
 | s::l,h=>by
  unfold z2x
  rw[if_pos ⟨v0v l λt D=>h t<|l41 _ D,h s (l39 ..)⟩]
theorem y3f:∀(l:Bed) (n:Nat),n<=l.length->(∀j,n<=j->l.getD j []=[])->(n=0\/l.getD (n-1) []≠[])->l.take n=z2x l
 | [],n,h,_,_=>by simp[z2x]
 | s::l,0,_,h,_=>by
  rw[v0v]
  ·rfl
  intro t Z
  obtain⟨i,hi,rfl⟩:=l31 Z
  have:=h i<|l17 _
  rwa [List.getD,l10 hi]at this
 | s::l,n+1,hl,h,hn=>by
  have O:=y3f l n (by simpa using hl) (λj hj=>by have:=h (j+1) oo;simpa using this)
  unfold z2x
  cases n with
  | zero=>
   have hs:s≠[]:=by simpa using hn
   rw[if_neg (λe=>hs e.2)]
   have:=O<|.inl U
   simp only[List.take_succ_cons,l93,this] at *
  | succ n=>
   have D:l.getD n []≠[]:=by simpa using hn
   have:=O<|.inr D
   rw[if_neg,List.take_succ_cons,this]
   rintro⟨e,-⟩
   have I:=y2e l n
   rw[e]at I
   exact D (by simpa using I.symm)
theorem x9o (l:Bed)(n i:Nat):(x6p l n).getD i []=l.getD i []:=by
 unfold x6p;by_cases h:i<l.length;simp only[List.getD,l40 h];rw[List.getD,List.getD,l29 oo,l67,l34 oo];split<;>rfl
theorem u8g (l:Bed)(n:Nat):(x6p l n).flatten=l.flatten:=by
 unfold x6p;rw[List.flatten_append];have:(List.replicate (n-l.length) ([]:List LId)).flatten=[]:=by simp
 rw[this,l26]
theorem x0a (l:Bed)(n:Nat):(x6p l n).length=max l.length n:=by
 unfold x6p;rw[l13,l23];omega
theorem u5k (l:Bed){n:Nat}(hn:1<=n)(s:List LId)(i:Nat):(y7z l n s).getD i []=if i=n-1 then s else l.getD i []:=by
 unfold y7z;rw[y2e,if_neg oo,z1k (by rw[x0a];omega),x9o];split;rename_i e;rw[if_pos e.symm];rename_i e;rw[if_neg (λh=>e h.symm)]
theorem j1d {l:Bed}{n m:Int}(hn:1<=n)(D:1<=m)(s:List LId):atB (y7z l n.toNat s) m=if m=n then s else atB l m:=by
 unfold atB;rw[u5k _ oo];by_cases e:m=n;subst e;rw[if_pos oo,if_pos U];rw[if_neg oo,if_neg e]
theorem u0n (l:Bed)(n:Int):atB (z2x l) n=atB l n:=y2e l _
theorem x5m (l:Bed){n:Int}(hn:1<=n)(s:List LId)(i:LId):(y7z l n.toNat s).flatten.count i+(atB l n).count i=l.flatten.count i+s.count i:=by
 unfold y7z;rw[y2v,if_neg oo];have h:=z9c (α:=List LId) (λx=>x) (x6p l n.toNat) (n.toNat-1) [] s i (by rw[x0a];omega);simp only[List.flatMap_id']at h;rw[u8g,x9o]at h;have e:n.toNat-1=(n-1).toNat:=by omega
 unfold atB;rw[e]at h ⊢;omega
theorem u1k (l:Bed)(n:Nat)(s:List LId):(y7z l n s).length<=max l.length n:=by
 unfold y7z;refine l44 (y4y _) ?_;split;omega;rw[l19,x0a];exact l20 _
theorem j8m (l:Bed)(n:Nat)(s:List LId){t:List LId}(h:t∈y7z l n s):t=s\/t∈l\/t=[]:=by
 unfold y7z at h;have h:=y4u _ h;split at h;exact .inr<|.inl h;rcases List.mem_or_eq_of_mem_set h with h|h
 unfold x6p at h;rcases l22.1 h with h|h
 exact .inr<|.inl h;exact .inr<|.inr<|List.eq_of_mem_replicate h;exact .inl h
theorem z2w {b n:Int}(h:z4a b n=0):(b=0\/b=1)/\1<=n/\n<=40:=by
 unfold z4a at h;split at h;omega;split at h<;>omega
theorem y6t {b n:Int}(h:(b=0\/b=1)/\1<=n/\n<=40):z4a b n=0:=by
 unfold z4a;rw[if_neg oo,if_neg oo]
theorem z5b (B:Bd){b n:Int}(h:z4a b n=0)(s:List LId)(i:LId):(B.put b n s).flat.count i+(B.at b n).count i=B.flat.count i+s.count i:=by
 obtain⟨I,D,O⟩:=z2w h;unfold Bd.put Bd.at Bd.flat;split;simp only[l21,y2v];have:=x5m B.f D s i;omega;simp only[l21,y2v];have:=x5m B.b D s i;omega
theorem y6k (B:Bd){b n b' D:Int}(h:z4a b n=0)(Z:z4a b' D=0)(s:List LId):(B.put b n s).at b' D=if b'=b/\D=n then s else B.at b' D:=by
 obtain⟨h1,I,h3⟩:=z2w h;obtain⟨h4,O,h6⟩:=z2w Z;unfold Bd.put Bd.at;by_cases e:b=0;rw[if_pos e];by_cases e':b'=0;rw[if_pos e',j1d I O];by_cases e2:D=n;rw[if_pos e2,if_pos ⟨oo,e2⟩];rw[if_neg e2,if_neg (λk=>e2 k.2),if_pos e'];rw[if_neg e',u0n,if_neg (λk=>oo),if_neg e'];rw[if_neg e];by_cases e':b'=0;rw[if_pos e',u0n,if_neg (λk=>oo),if_pos e'];rw[if_neg e',j1d I O];by_cases e2:D=n;rw[if_pos e2,if_pos ⟨oo,e2⟩];rw[if_neg e2,if_neg (λk=>e2 k.2),if_neg e']
theorem v7x {l:Bed}{n:Int}(h:atB l n≠[]):atB l n∈l:=by
 unfold atB at *
 by_cases e:(n-1).toNat<l.length;exact z1c e;exact absurd (by rw[List.getD,l34 oo];rfl) h
theorem v9q {B:Bd}{b n:Int}(h:B.at b n≠[]):B.at b n∈B.f++B.b:=by
 unfold Bd.at at *
 split;rename_i e;rw[if_pos e]at h;exact l66 _<|v7x h;rename_i e;rw[if_neg e]at h;exact l68 _<|v7x h
theorem y7a {B:Bd}(h:BdOk B)(b n:Int):(B.at b n).length<=4:=by
 by_cases e:B.at b n=[];rw[e];simp;exact h.ss _<|v9q e
theorem j6t (B:Bd):B.flat=(B.f++B.b).flatten:=by unfold Bd.flat;rw[List.flatten_append]
theorem y1k {B:Bd}{b n:Int}{i:LId}(h:i∈B.at b n):i∈B.flat:=by
 rw[j6t];exact List.mem_flatten.2 ⟨_,v9q (λe=>by rw[e]at h;cases h),h⟩
theorem y2z {B:Bd}{b n:Int}(h:z4a b n=0){s:List LId}{i:LId}(hi:i∈(B.put b n s).flat):i∈s\/i∈B.flat:=by
 have:=z5b B h s i;have D:=l125.2 hi;by_cases e:0<s.count i;exact .inl<|l125.1 e;exact .inr<|l125.1 oo
theorem BdOk.put {B:Bd}(h:BdOk B){b n:Int}(hn:z4a b n=0){s:List LId}(h4:s.length<=4)(a0:∀i∈s,y2n i)(Z:∀i,B.flat.count i+s.count i<=(B.at b n).count i+1):BdOk (B.put b n s):=by
 obtain⟨h1,h2,h3⟩:=z2w hn;have hl:=h.lf;have O:=h.lb;refine⟨?_,?_,?_,?_,?_⟩;unfold Bd.put;split;have:=u1k B.f n.toNat s;simp only;omega;have:=y4y B.f;simp only;omega;unfold Bd.put;split;have:=y4y B.b;simp only;omega;have:=u1k B.b n.toNat s;simp only;omega;intro t D;unfold Bd.put at D;have I:∀l:Bed,(∀s∈l,s.length<=4)->∀t∈y7z l n.toNat s,t.length<=4:=λl hl t D=>by
  rcases j8m l _ s D with rfl|D|rfl
  exact h4;exact hl t D;simp
 have hf:∀s∈B.f,s.length<=4:=λs hs=>h.ss s<|l66 _ hs;have O:∀s∈B.b,s.length<=4:=λs hs=>h.ss s<|l68 _ hs;split at D;rcases l22.1 D with D|D
 exact I _ hf _ D;exact O _<|y4u _ D;rcases l22.1 D with D|D
 exact hf _<|y4u _ D;exact I _ O _ D;intro i hi;rcases y2z hn hi with hi|hi
 exact a0 i hi;exact h.nm i hi;rw[l85];intro i;have:=z5b B hn s i;have:=Z i;omega
structure MInv (p:MSt):Prop where
  rk:-4<=p.rk/\p.rk<=4
  B:BdOk p.B
  ly:p.ys.length=6
  lt:p.tb.length=6
  yn:∀y,y<6->y1v (p.ys.getD y yn0)/\(p.ys.getD y yn0).ct=z3h p.tb y
  has:∀i∈p.B.flat,z5l p.tb i
  cnt:p.B.flat.length+p.fa.length<=z4r p.tb
  all:z4r p.tb<=2048
  cv:∀c∈p.cr,-1048576<=c.n/\c.n<=1048576
theorem y5y:MInv start:=by
 refine⟨dd,⟨dd,dd,by intro s hs;simp[start]at hs,by intro i hi;simp[start,Bd.flat]at hi,by simp[start,Bd.flat]⟩,rfl,rfl,λy I=>?_,by intro i hi;simp[start,Bd.flat]at hi,dd,dd,by intro c D;simp[start]at D⟩;have:start.ys.getD y yn0=yn0:=by
  simp only[start,List.getD,l67];split<;>rfl
 rw[this];refine⟨dd,?_⟩;simp only[start,z3h,List.getD,l67];rw[if_pos I];rfl
theorem z4c {o:MOp}(h:y1b o=0):(o.k=1\/o.k=2\/o.k=3\/o.k=4\/o.k=5\/o.k=6\/o.k=7\/o.k=8)/\(o.k=1->z6k o.d)/\((o.k=1\/o.k=2\/o.k=4\/o.k=5\/o.k=6)->1<=o.y/\o.y<=6)/\((o.k=4\/o.k=5\/o.k=6)->z6k o.d)/\((4<=o.k)->z4a o.b o.p=0)/\(o.k=3->-4<=o.r/\o.r<=4):=by
 unfold y1b at h
 split at h
 ·omega
 rename_i I
 have I:=l18.1 I
 split at h
 ·omega
 rename_i hr
 obtain⟨D,O,Z,h4,h5⟩:=I
 unfold z8y at D O Z h4 h5
 unfold z6k
 unfold pl1 at O
 unfold pl2 at Z
 unfold pl3 at h4
 unfold pl4 at h5
 have a0:∀a:Int,¬(a≠0)->a=0:=λa h=>by omega
 repeat' split at D
 all_goals first|(simp at D;done)|skip
 all_goals simp_all
 all_goals omega
structure BdQ where
  f:SV
  b:SV
  fs:List IQ
  bs:List IQ
abbrev _root_.bvv (s:BdQ):Value:=.agg #[.slice s.f.1 s.f.2.1 s.f.2.2,.slice s.b.1 s.b.2.1 s.b.2.2]
abbrev plB (l:List IQ):Bed:=l.map Prod.snd
abbrev BdQ.p (q:BdQ):Bd:=⟨plB q.fs,plB q.bs⟩
abbrev bdL (q:BdQ):List Value:=[.slice q.f.1 q.f.2.1 q.f.2.2,.slice q.b.1 q.b.2.1 q.b.2.2]
structure BdAt (w:World) (q:BdQ):Prop where
  f:Sl z7q w (slv q.f) q.fs
  fi:IqAt w q.fs
  b:Sl z7q w (slv q.b) q.bs
  bi:IqAt w q.bs
theorem BdAt.ext {w w':World}{q:BdQ}(h:BdAt w q)(hf:Fr [] w w'):BdAt w' q:=⟨h.f.ext hf,h.fi.ext hf,h.b.ext hf,h.bi.ext hf⟩
def RwO (S I base:Nat)(w:World)(v:Value)(l:List IQ):Prop:=Lw.Own z7q S base w v l/\∀q∈l,Lw.Own z1g I base w (slv q.1) q.2
theorem RwO.ext {S I base:Nat}{w w':World}{v:Value}{l:List IQ}(h:RwO S I base w v l)(hf:Fr [] w w'):RwO S I base w' v l:=⟨h.1.ext hf,λq D=>(h.2 q D).ext hf⟩
theorem RwO.low {S I base b:Nat}{w:World}{v:Value}{l:List IQ}(h:RwO S I base w v l)(hb:b<=base):RwO S I b w v l:=⟨h.1.low hb,λq D=>(h.2 q D).low hb⟩
theorem RwO.at {S I base:Nat}{w:World}{v:Value}{l:List IQ}(h:RwO S I base w v l):IqAt w l:=λq D=>(h.2 q D).sl
theorem RwO.fr {S I base:Nat}{w w':World}{v:Value}{l:List IQ}{T:List Nat}(h:RwO S I base w v l)(hf:Fr T w w')(Z:∀k∈T,k<base):RwO S I base w' v l:=
 ⟨h.1.fr hf λk O D=>by have:=Z k O;have:=(h.1.blk k D).1;omega,λq hq=>(h.2 q hq).fr hf λk O D=>by have:=Z k O;have:=((h.2 q hq).blk k D).1;omega⟩
structure BdO (S I base:Nat) (w:World) (q:BdQ):Prop where
  f:RwO S I base w (slv q.f) q.fs
  b:RwO S I base w (slv q.b) q.bs
theorem BdO.ext {S I base:Nat}{w w':World}{q:BdQ}(h:BdO S I base w q)(hf:Fr [] w w'):BdO S I base w' q:=⟨h.f.ext hf,h.b.ext hf⟩
theorem BdO.low {S I base b:Nat}{w:World}{q:BdQ}(h:BdO S I base w q)(hb:b<=base):BdO S I b w q:=⟨h.f.low hb,h.b.low hb⟩
theorem BdO.at {S I base:Nat}{w:World}{q:BdQ}(h:BdO S I base w q):BdAt w q:=⟨h.f.1.sl,h.f.at,h.b.1.sl,h.b.at⟩
theorem z3w (l:List IQ)(i:Nat):(plB l).getD i []=(l.getD i iq0).2:=by
 unfold plB;rw[List.getD,List.getD,l24];cases l[i]?<;>rfl
theorem x5n {l:List IQ}{i:Nat}(h:l.length<=i):(l.getD i iq0).2=[]:=by rw[List.getD,l34 h];rfl
theorem v6b (l:List IQ)(n M:Nat)(hM:M=max l.length n):plB (l++List.replicate (M-l.length) iq0)=x6p (plB l) n:=by
 unfold x6p plB;rw[l30,List.map_replicate,l15];congr 2;omega
theorem j1x (w:World):Sl z1g w (slv iq0.1) iq0.2:=Sl.nil w
theorem v0r {w:World}{l:List IQ}{k:Nat}(h:IqAt w l):IqAt w (l++List.replicate k iq0):=λq D=>by
 rcases l22.1 D with D|D
 ·exact h q D
 rw[List.eq_of_mem_replicate D];exact j1x w
theorem u4c {w:World}{l:List IQ}{i:Nat}{q:IQ}(h:IqAt w l)(I:Sl z1g w (slv q.1) q.2):IqAt w (l.set i q):=λp D=>by
 rcases List.mem_or_eq_of_mem_set D with D|rfl
 ·exact h p D
 exact I
def y0q (l:List IQ):Prop:=∀q∈l,q.2.length<=4
theorem v0i {l:List IQ}{k:Nat}(h:y0q l):y0q (l++List.replicate k iq0):=λq D=>by
 rcases l22.1 D with D|D
 ·exact h q D
 rw[List.eq_of_mem_replicate D];exact l17 _
theorem u6b {l:List IQ}{i:Nat}{q:IQ}(h:y0q l)(I:q.2.length<=4):y0q (l.set i q):=λp D=>by
 rcases List.mem_or_eq_of_mem_set D with D|rfl
 ·exact h p D
 exact I
theorem z3y {l:List IQ}(h:y0q l)(i:Nat):(l.getD i iq0).2.length<=4:=by
 by_cases e:i<l.length;exact h _<|z1c e;rw[x5n oo];simp
theorem z2b {w:World}{l:List IQ}(h:IqAt w l)(i:Nat):Sl z1g w (slv (l.getD i iq0).1) (l.getD i iq0).2:=by
 by_cases e:i<l.length;exact h _<|z1c e;rw[List.getD,l34 oo];exact j1x w
theorem j2n {l m:List IQ}(h:y0q l)(e:plB m=plB l):y0q m:=λq O=>by
 have:q.2∈plB l:=by rw[<-e];exact l88 O
 obtain⟨q',D,I⟩:=l55.1 this
 rw[<-I];exact h q' D
theorem j7a {l:List IQ}{i:Nat}{q:IQ}(h:q.2=(l.getD i iq0).2):plB (l.set i q)=plB l:=by
 unfold plB;rw[l133];apply l62;intro j;rw[l123];split;rename_i e;subst e;split;rename_i D;rw[l15]at D;rw[l24,l10 D,h,List.getD,l10 D];rfl;rename_i D;rw[l34 oo];rfl
def BdQ.sv (q:BdQ)(b:Int):SV:=if b=1 then q.b else q.f
def BdQ.l (q:BdQ)(b:Int):List IQ:=if b=1 then q.bs else q.fs
theorem BdAt.sel {w:World}{q:BdQ}(h:BdAt w q)(b:Int):Sl z7q w (slv<|q.sv b) (q.l b)/\IqAt w (q.l b):=by
 unfold BdQ.sv BdQ.l;split;exact⟨h.b,h.bi⟩;exact⟨h.f,h.fi⟩
theorem BdQ.at_l (q:BdQ){b p:Int}(hn:z4a b p=0):((q.l b).getD (p-1).toNat iq0).2=q.p.at b p:=by
 obtain⟨D,_,_⟩:=z2w hn;unfold BdQ.l Bd.at atB;split;rw[if_neg oo,z3w];rw[if_pos oo,z3w]
theorem j0s (l:Bed):y7z l 0 []=z2x l:=by unfold y7z;rw[if_pos U]
theorem k6q (B:Bd){b:Int}(n:Nat)(s:List LId)(h:b=0):(⟨y7z B.f n s,y7z B.b 0 []⟩:Bd)=B.put b (n:Int) s:=by
 unfold Bd.put;rw[if_pos h,j0s,l96]
theorem k8v (B:Bd){b:Int}(n:Nat)(s:List LId)(h:¬b=0):(⟨y7z B.f 0 [],y7z B.b n s⟩:Bd)=B.put b (n:Int) s:=by
 unfold Bd.put;rw[if_neg h,j0s,l96]
def PreO (I base:Nat)(w:World)(l:List IQ)(i:Nat):Prop:=∀j,j<i->Lw.Own z1g I base w (slv (l.getD j iq0).1) (l.getD j iq0).2
theorem PreO.zero {I base:Nat}{w:World}{l:List IQ}:PreO I base w l 0:=λj D=>absurd D oo
theorem PreO.ext {I base i:Nat}{w w':World}{l:List IQ}(h:PreO I base w l i)(hf:Fr [] w w'):PreO I base w' l i:=λj D=>(h j D).ext hf
theorem PreO.fr {I base i:Nat}{w w':World}{l:List IQ}{S:List Nat}(h:PreO I base w l i)(hf:Fr S w w')(O:∀k∈S,k<base):PreO I base w' l i:=λj D=>(h j D).fr hf λk hk Z=>by
 have:=O k hk;have:=((h j D).blk k Z).1;omega
theorem PreO.put {I base i:Nat}{w:World}{l:List IQ}{q:IQ}(h:PreO I base w l i)(hi:i<l.length)(D:Lw.Own z1g I base w (slv q.1) q.2):PreO I base w (l.set i q) (i+1):=λj O=>by
 rw[z1k hi]
 split
 ·exact D
 exact h j oo
theorem PreO.all {I base b:Nat}{w:World}{l:List IQ}(h:PreO I base w l l.length)(hb:b<=base):∀q∈l,Lw.Own z1g I b w (slv q.1) q.2:=λq O=>by
 obtain⟨j,D,rfl⟩:=l31 O
 have:=h j D
 rw[List.getD,l10 D]at this
 exact this.low hb
theorem v8w {w:World}{l m:List IQ}{n:Nat}(e:m=l.take n)(h:IqAt w l):IqAt w m:=λq D=>h q<|l114 (e▸D)
theorem u7z {l m:List IQ}{i:Nat}{q:IQ}(h:∀j,i<=j->l.getD j iq0=m.getD j iq0)(hi:i<l.length):∀j,i+1<=j->(l.set i q).getD j iq0=m.getD j iq0:=λj D=>by
 rw[z1k hi,if_neg oo];exact h j oo
theorem j5c {D ls qs:List IQ}{m n:Nat}{s:List LId}(I:ls=D.take m)(O:(plB D).take m=z2x (plB D))(Z:plB D=if n=0 then plB qs else (x6p (plB qs) n).set (n-1) s):plB ls=y7z (plB qs) n s:=by
 rw[I];unfold plB at *
 rw[List.map_take,O,Z];rfl
theorem u7h {qs:List IQ}{n M:Nat}{s:List LId}(hn:n=0)(hM:M=max qs.length n):plB (qs++List.replicate (M-qs.length) iq0)=(if n=0 then plB qs else (x6p (plB qs) n).set (n-1) s):=by
 subst hn;rw[if_pos U,v6b qs 0 M hM];unfold x6p;simp
theorem j7z {qs:List IQ}{n M:Nat}{q:IQ}(hn:0<n)(hM:M=max qs.length n):plB ((qs++List.replicate (M-qs.length) iq0).set (n-1) q)=(if n=0 then plB qs else (x6p (plB qs) n).set (n-1) q.2):=by
 rw[if_neg oo,<-v6b qs n M hM];exact l133
end Go.G08
namespace Go.Lw
open Go.RowKit
structure KeyLaw {κ:Type} [DecidableEq κ] (P:Program) (K:TypeId) (V:κ->Value):Prop where
  check:∀b k (w:World),(Instr.checkKey b 10000 K<|V k).run P w=.ok () w
  find:∀k (es:List MapEntry) (ks:List κ) (w:World),es.map (·.key)=ks.map V->
    (Instr.findKey K (V k) es).run P w=.ok ((ks.findIdx? (λx=>decide (k=x))).bind λi=>(es[i]?).map λe=>(i,e.val)) w
  bits:∀k,Instr.sameBits 10000 (V k) (V k)=true
def z2u {κ:Type}[DecidableEq κ]:List (κ×Value)->κ->Option Value
  | [],_=>none
  | p::r,k=>if k=p.1 then some p.2 else z2u r k
def MapF {κ:Type}[DecidableEq κ](V:κ->Value)(w:World)(g:Nat)(f:κ->Option Value):Prop:=
  ∃(es:Array MapEntry) (c:Nat) (m:List (κ×Value)),w.heap[g]?=some (.map es c)/\es.toList.map (λe=>(e.key,e.val))=m.map (λp=>(V p.1,p.2))/\∀k,z2u m k=f k
section
variable {κ:Type} [DecidableEq κ] {V:κ->Value} {P:Program} {K:TypeId}
theorem y2y (I:∀k k' (w:World),(Op.equal K (V k)<|V k').run P w=.ok (decide (k=k')) w)(k:κ):∀(D:List MapEntry) (ks:List κ) (i:Nat) (w:World),D.map (·.key)=ks.map V->
    (Instr.findAsking K (V k) D i).run P w=.ok ((ks.findIdx? (λx=>decide (k=x))).bind λj=>(D[j]?).map λe=>(i+j,e.val)) w
  | [],[],i,w,_=>by simp[Instr.findAsking]
  | [],_::_,_,_,h=>by simp at h
  | _::_,[],_,_,h=>by simp at h
  | e::D,x::ks,i,w,h=>by
    simp only[l28,List.cons.injEq]at h
    have O:=y2y I k D ks (i+1) w h.2
    simp only[Instr.findAsking,h.1,Sem.run_bind,I k x w,Result.andThen_ok]
    by_cases hx:k=x
    · simp[hx,l61]
    · simp only[hx,decide_false,Bool.false_eq_true,if_false,O,l61,Option.bind_map]
      congr 1
      cases hf:ks.findIdx? (λx=>decide (k=x)) with
      | none=>simp
      | some j=>simp[Nat.add_assoc,Nat.add_comm 1 j]
theorem KeyLaw.asking {d:TypeDesc}(O:P.underlying K=some d)(hs:∀k k',Instr.sameNow d (V k) (V k')=none)(Z:∀b k (w:World),(Instr.checkKey b 10000 K<|V k).run P w=.ok () w)
    (heq:∀k k' (w:World),(Op.equal K (V k)<|V k').run P w=.ok (decide (k=k')) w) (hb:∀k,Instr.sameBits 10000 (V k) (V k)=true):KeyLaw P K V:=by
  refine⟨Z,λk I D w h=>?_,hb⟩
  cases I with
  | nil=>
    cases D with
    | nil=>simp[Instr.findKey,run_underlying O,Instr.findNow]
    | cons x D=>simp at h
  | cons e I=>
    cases D with
    | nil=>simp at h
    | cons x D=>
      have hn:Instr.findNow d (V k) (e::I) 0=none:=by
        simp only[l28,List.cons.injEq]at h
        simp[Instr.findNow,h.1,hs]
      have:=y2y heq k (e::I) (x::D) 0 w h
      simp only[Instr.findKey,Sem.run_bind,run_underlying O,Result.andThen_ok,hn,this,l72]
theorem y8d {d:TypeDesc}(hs:∀k k',Instr.sameNow d (V k) (V k')=some (decide (k=k')))(k:κ):∀(D:List MapEntry) (ks:List κ) (i:Nat),D.map (·.key)=ks.map V->
    Instr.findNow d (V k) D i=some ((ks.findIdx? (λx=>decide (k=x))).bind λj=>(D[j]?).map λe=>(i+j,e.val))
  | [],[],i,_=>by simp[Instr.findNow]
  | [],_::_,_,h=>by simp at h
  | _::_,[],_,h=>by simp at h
  | e::D,x::ks,i,h=>by
    simp only[l28,List.cons.injEq]at h
    have I:=y8d hs k D ks (i+1) h.2
    simp only[Instr.findNow,h.1,hs]
    by_cases hx:k=x
    · simp[hx,l61]
    · simp only[hx,decide_false,I,l61,Bool.false_eq_true,if_false,Option.bind_map]
      congr 2
      funext j;simp[Nat.add_assoc,Nat.add_comm 1 j]
theorem KeyLaw.now {d:TypeDesc}(O:P.underlying K=some d)(hs:∀k k',Instr.sameNow d (V k) (V k')=some (decide (k=k')))(I:∀b k (w:World),(Instr.checkKey b 10000 K<|V k).run P w=.ok () w)
    (hb:∀k,Instr.sameBits 10000 (V k) (V k)=true):KeyLaw P K V:=by
  refine⟨I,λk D Z w h=>?_,hb⟩
  have:=y8d hs k D Z 0 h
  simp only[Instr.findKey,Sem.run_bind,run_underlying O,Result.andThen_ok,this,l72,Sem.run_pure]
theorem y3r (m:List (κ×Value))(k:κ):∀(D:List MapEntry),D.map (λe=>(e.key,e.val))=m.map (λp=>(V p.1,p.2))->
    (((m.map (·.1)).findIdx? (λx=>decide (k=x))).bind λi=>(D[i]?).map λe=>(i,e.val)).map (·.2)=z2u m k:=by
  induction m with
  | nil=>intro D h;simp[z2u]
  | cons p m ih=>
    intro D h
    match D,h with
    | e::D,h=>
      simp only[l28,List.cons.injEq,l105]at h
      have:=ih D h.2
      unfold z2u
      by_cases hk:k=p.1
      · simp[hk,l61,h.1.2]
      · simp only[l28,l61,hk,decide_false,if_false,Bool.false_eq_true]
        rw[<-this]
        cases (m.map (·.1)).findIdx? (λx=>decide (k=x)) with
        | none=>simp
        | some j=>
          simp
          rfl
def z4n (m:List (κ×Value))(k:κ)(v:Value):List (κ×Value):=
  match (m.map (·.1)).findIdx? (λx=>decide (k=x)) with
  | some i=>m.modify i λp=>(p.1,v)
  | none=>m++[(k,v)]
theorem y4e (m:List (κ×Value))(k k':κ)(v:Value):(m.map (·.1)).findIdx? (λx=>decide (k=x))=none->z2u (m++[(k,v)]) k'=if k'=k then some v else z2u m k':=by
 induction m with
 | nil=>intro _;simp[z2u]
 | cons p m ih=>
  intro h;simp only[l28,l61]at h;split at h;cases h;rename_i I;have D:¬k=p.1:=by simpa using I
  have:=ih (by simpa using h);simp only[l48,z2u,this];by_cases e:k'=p.1;subst e;simp[l51 D];simp[e]
theorem y0f (k k':κ)(v:Value):∀(m:List (κ×Value)) (i:Nat),(m.map (·.1)).findIdx? (λx=>decide (k=x))=some i->z2u (m.modify i λp=>(p.1,v)) k'=if k'=k then some v else z2u m k'
 | [],i,h=>by simp at h
 | p::m,i,h=>by
  simp only[l28,l61]at h
  split at h
  ·rename_i I
   have D:k=p.1:=by simpa using I
   simp at h;subst h
   simp only[List.modify_zero_cons,z2u,D]
   by_cases e:k'=p.1<;>simp[e]
  rename_i I
  have D:¬k=p.1:=by simpa using I
  cases hf:(m.map (·.1)).findIdx? (λx=>decide (k=x)) with
  | none=>rw[hf]at h;simp at h
  | some j=>
   rw[hf]at h;simp at h;subst h
   have:=y0f k k' v m j hf
   simp only[List.modify_succ_cons,z2u,this]
   by_cases e:k'=p.1
   ·subst e;simp[l51 D]
   simp[e]
theorem MapF.fr {w w':World}{g:Nat}{f:κ->Option Value}{S:List Nat}(h:MapF V w g f)(hf:Fr S w w')(hn:g∉S:=by simp[z0v]<;>omega):MapF V w' g f:=by
 obtain⟨I,c,m,D,O,Z⟩:=h;exact⟨I,c,m,(hf.block g (l16.1 D).1 hn).trans D,O,Z⟩
theorem MapF.ext {w w':World}{g:Nat}{f:κ->Option Value}(h:MapF V w g f)(hf:Fr [] w w'):MapF V w' g f:=h.fr hf sp0
theorem MapF.lt {w:World}{g:Nat}{f:κ->Option Value}(h:MapF V w g f):g<w.heap.size:=let ⟨_,_,_,h1,_⟩:=h;(l16.1 h1).1
theorem MapF.ne_blk {w:World}{g D T:Nat}{f:κ->Option Value}{cs:List Value}(h:MapF V w g f)(I:Blk w D T cs):g≠D:=by
 rintro rfl;obtain⟨_,_,_,O,_⟩:=h;unfold Blk at I;rw[I]at O;cases O
theorem z2z {w:World}{g:Nat}{D:Array MapEntry}{c:Nat}(h:w.heap[g]?=some (.map D c)):(getObj g).run P w=.ok (.map D c) w:=by
 simp[getObj,Sem.run,h]
theorem y9m {w:World}{g:Nat}{f:κ->Option Value}{t E:TypeId}{z:Value}(h:MapF V w g f)(hk:KeyLaw P K V)(hu:P.underlying t=some (.map K E))(hz:(zeroValue E).run P w=.ok z w)(k:κ) :
    (Instr.lookup t (.map<|some g) (V k) false).run P w=.ok ((f k).getD z) w:=by
  obtain⟨Z,c,m,h1,h2,h3⟩:=h
  have O:Z.toList.map (·.key)=(m.map (·.1)).map V:=by
    have:=congrArg (List.map Prod.fst) h2
    simpa[l81,l109] using this
  have I:=hk.find k Z.toList (m.map (·.1)) w O
  have D:=y3r (V:=V) m k Z.toList h2
  rw[h3]at D
  generalize ((m.map (·.1)).findIdx? (λx=>decide (k=x))).bind (λi=>(Z.toList[i]?).map λe=>(i,e.val))=r at I D
  cases r with
  | none=>simp at D;simp[Instr.lookup,run_underlying hu,z2z h1,hk.check,I,hz,<-D]
  | some p=>simp at D;simp[Instr.lookup,run_underlying hu,z2z h1,hk.check,I,<-D]
theorem x8a {w:World}{g:Nat}{f:κ->Option Value}{t E:TypeId}{z:Value}(h:MapF V w g f)(hk:KeyLaw P K V)(hu:P.underlying t=some (.map K E))(hz:(zeroValue E).run P w=.ok z w)(k:κ) :
    (Instr.lookup t (.map<|some g) (V k) true).run P w=.ok (.tuple #[(f k).getD z,.bool (f k).isSome]) w:=by
  obtain⟨Z,c,m,h1,h2,h3⟩:=h
  have O:Z.toList.map (·.key)=(m.map (·.1)).map V:=by
    have:=congrArg (List.map Prod.fst) h2
    simpa[l81,l109] using this
  have I:=hk.find k Z.toList (m.map (·.1)) w O
  have D:=y3r (V:=V) m k Z.toList h2
  rw[h3]at D
  generalize ((m.map (·.1)).findIdx? (λx=>decide (k=x))).bind (λi=>(Z.toList[i]?).map λe=>(i,e.val))=r at I D
  cases r with
  | none=>simp at D;simp[Instr.lookup,run_underlying hu,z2z h1,hk.check,I,hz,<-D]
  | some p=>simp at D;simp[Instr.lookup,run_underlying hu,z2z h1,hk.check,I,<-D]
theorem y2r {w:World}{g:Nat}{f:κ->Option Value}{t E:TypeId}(h:MapF V w g f)(hk:KeyLaw P K V)(hu:P.underlying t=some (.map K E))(k:κ)(v:Value) :
    ∃w',(Instr.mapUpdate t (.map<|some g) (V k) v).run P w=.ok () w'/\MapF V w' g (λk'=>if k'=k then some v else f k')/\Fr [g] w w'/\w'.heap.size=w.heap.size:=by
  obtain⟨D,c,m,h1,h2,h3⟩:=h
  have a7:=(l16.1 h1).1
  have Z:D.toList.map (·.key)=(m.map (·.1)).map V:=by
    have:=congrArg (List.map Prod.fst) h2
    simpa[l81,l109] using this
  have I:=hk.find k D.toList (m.map (·.1)) w Z
  have a1:∀o,(setObj g o).run P w=.ok () { w with heap:=w.heap.setIfInBounds g o }:=by intro o;simp[setObj,Sem.run,h1]
  have a4:∀o,Fr [g] w { w with heap:=w.heap.setIfInBounds g o }:=λo=>⟨rfl,rfl,rfl,sp0,λi _ hn=>by
    simp only
    rw[l77 (by intro e;subst e;simp at hn)]⟩
  have O:∀o,({ w with heap:=w.heap.setIfInBounds g o }:World).heap[g]?=some o:=by intro o;simp[a7]
  have a9:D.toList.length=m.length:=by have:=congrArg List.length h2;simpa using this
  cases hf:(m.map (·.1)).findIdx? (λx=>decide (k=x)) with
  | none=>
    refine⟨_,?_,⟨_,_,m++[(k,v)],O<|.map (D.push { key:=V k,val:=v,born:=c })<|c+1,?_,λk'=>?_⟩,a4 _,sp0⟩
    · rw[hf]at I
      simp only[Instr.mapUpdate,Sem.run_bind,run_underlying hu,Result.andThen_ok,z2z h1,hk.check,I,Option.bind_none,a1]
    · simp[h2]
    · rw[y4e m k k' v hf,h3]
  | some i=>
    have hi:i<m.length:=by
      have:=l79.1 hf
      simpa using this.1
    have a0:i<D.toList.length:=by omega
    have a5:V k=(D.toList[i]).key:=by
      have a6:=List.findIdx?_eq_some_iff_getElem.1 hf
      obtain⟨b0,hp,_⟩:=a6
      have a8:k=(m.map (·.1))[i]:=by simpa using hp
      have e1:(D.toList.map (·.key))[i]?=((m.map (·.1)).map V)[i]?:=by rw[Z]
      simp only[l24,l10 a0,l10 hi,l60,l69]at e1
      rw[e1,a8];simp
    refine⟨_,?_,⟨_,_,m.modify i λp=>(p.1,v),O<|.map (D.modify i λe=>{ e with key:=V k,val:=v }) c,?_,λk'=>?_⟩,a4 _,sp0⟩
    · rw[hf]at I
      have a2:D[i]?=some D.toList[i]:=by rw[<-l43,l10 a0]
      simp only[Option.bind_some,l10 a0,l60]at I
      have a3:(Instr.keyThatStays (((D[i]?).map (·.key)).getD<|V k)<|V k).run P w=.ok (V k) w:=by
        rw[a2]
        simp only[l60,l64,<-a5,Instr.keyThatStays,hk.bits,if_true,Sem.run_pure]
      simp only[Instr.mapUpdate,Sem.run_bind,run_underlying hu,Result.andThen_ok,z2z h1,hk.check,I,a3,a1]
    · apply l62
      intro j
      have e2:=congrArg (·[j]?) h2
      simp only[l24]at e2 ⊢
      rw[l43,Array.getElem?_modify,l113]
      rw[l43]at e2
      by_cases hj:i=j
      · subst hj
        have e3:=l10 hi
        have a2:D[i]?=some D.toList[i]:=by rw[<-l43,l10 a0]
        rw[a2,e3]at e2 ⊢
        simp only[l60,l69,l105]at e2
        simp only[if_true,l60]
        rw[a5,e2.1];rfl
      · simp only[hj,if_false]
        rw[e2];simp
    · rw[y0f k k' v m i hf,h3]
variable {a:Act} {n:Nat} {L:List (Nat×Value)} {ds:List Nat} {w w':World} {Q:Exit->Act->World->Prop} {C:World->Prop} {Qa:Act->Prop} {ops:Array Oper} {rest:List Oper}
variable {d:Nat} {ty:TypeId} {pos:String} {after:Array Edge} {x y z:Operand} {t E:TypeId} {g:Nat} {f:κ->Option Value} {k:κ} {v zv:Value}
theorem v3w (V:κ->Value)(h:AgM ds a n L)(hn:lbt d n)
    (q:∀g w',g=w.heap.size->MapF V w' g (λ_=>none)->Fr [] w w'->w'.heap.size=g+1->∀a,AgM ds a n ((d,.map<|some g)::L)->wpList P ops Q rest a w'):wpList P ops Q (⟨some d,.makeMap t none,ty,pos,after,none⟩::rest) a w:=
  z1x h U hn (w':=w.alloc<|.map #[] 0) (by simp[execOp,Instr.makeMap]) (q _ _ U ⟨_,_,[],heap_alloc_new w _,sp0,λ_=>rfl⟩ (Fr.alloc [] w _) sp0)
theorem y6r (V:κ->Value)(hn:lbt d n)(q:∀g w',g=w.heap.size->MapF V w' g (λ_=>none)->Fr [] w w'->w'.heap.size=g+1->WL P ops Q rest n ds w' ((d,.map<|some g)::L)):WL P ops Q (⟨some d,.makeMap t none,ty,pos,after,none⟩::rest) n ds w L:=λa h=>v3w V h hn q
theorem u1z (h:AgM ds a n L)(Z:ev L x=some (.map<|some g))(hy:ev L y=some (V k))(I:MapF V w g f)(D:KeyLaw P K V)(O:P.underlying t=some (.map K E))(hz:∀w:World,(zeroValue E).run P w=.ok zv w) :
    (execOp a.eval ⟨some d,.lookup t x y false,ty,pos,after,none⟩).run P w=.ok (.value<|(f k).getD zv) w:=by
  simp[execOp,h.eval Z,h.eval hy,y9m I D O (hz w) k]
theorem y2s (h:AgM ds a n L)(hx:ev L x=some (.map<|some g))(hy:ev L y=some (V k))(I:MapF V w g f)(D:KeyLaw P K V)(O:P.underlying t=some (.map K E))(hz:∀w:World,(zeroValue E).run P w=.ok zv w)(Z:(f k).getD zv=v)(hn:lbt d n)
    (q:∀a,AgM ds a n ((d,v)::L)->wpList P ops Q rest a w):wpList P ops Q (⟨some d,.lookup t x y false,ty,pos,after,none⟩::rest) a w:=
  z1x h U hn (by rw[<-Z];exact u1z h hx hy I D O hz) q
theorem x2o (hx:ev L x=some (.map<|some g))(hy:ev L y=some (V k))(I:MapF V w g f)(D:KeyLaw P K V)(O:P.underlying t=some (.map K E))(hz:∀w:World,(zeroValue E).run P w=.ok zv w)(Z:(f k).getD zv=v)(hn:lbt d n)(q:WL P ops Q rest n ds w ((d,v)::L)):WL P ops Q (⟨some d,.lookup t x y false,ty,pos,after,none⟩::rest) n ds w L:=λa h=>y2s h hx hy I D O hz Z hn q
theorem v3v (h:AgM ds a n L)(Z:ev L x=some (.map<|some g))(hy:ev L y=some (V k))(I:MapF V w g f)(D:KeyLaw P K V)(O:P.underlying t=some (.map K E))(hz:∀w:World,(zeroValue E).run P w=.ok zv w) :
    (execOp a.eval ⟨some d,.lookup t x y true,ty,pos,after,none⟩).run P w=.ok (.value<|.tuple #[(f k).getD zv,.bool (f k).isSome]) w:=by
  simp[execOp,h.eval Z,h.eval hy,x8a I D O (hz w) k]
theorem y3n {D:Bool}(h:AgM ds a n L)(hx:ev L x=some (.map<|some g))(hy:ev L y=some (V k))(O:MapF V w g f)(I:KeyLaw P K V)(Z:P.underlying t=some (.map K E))(hz:∀w:World,(zeroValue E).run P w=.ok zv w)(hv:(f k).getD zv=v)(hb:(f k).isSome=D)(hn:lbt d n)
    (q:∀a,AgM ds a n ((d,.tuple #[v,.bool D])::L)->wpList P ops Q rest a w):wpList P ops Q (⟨some d,.lookup t x y true,ty,pos,after,none⟩::rest) a w:=
  z1x h U hn (by rw[<-hv,<-hb];exact v3v h hx hy O I Z hz) q
theorem z3p (H0:(ev L x,ev L y,ev L z)=(some<|.map<|some g,some<|V k,some v))(hm:MapF V w g f)(Z:KeyLaw P K V)(hu:P.underlying t=some (.map K E))(q:∀w',MapF V w' g (λk'=>if k'=k then some v else f k')->Fr [g] w w'->w'.heap.size=w.heap.size->WL P ops Q rest n ds w' L):WL P ops Q (⟨none,.insert t x y z,ty,pos,after,none⟩::rest) n ds w L:=let⟨hx,hy,hz⟩:=qi3 H0;λa h=>by
  obtain⟨w',hr,D,I,O⟩:=y2r hm Z hu k v
  exact y0h h U U (w':=w') (by simp[execOp,h.eval hx,h.eval hy,h.eval hz,hr])<|q w' D I O
theorem y9q (hx:ev L x=some (.map<|some g))(hy:ev L y=some (V k))(hz:ev L z=some v)(hm:MapF V w g f)(Z:KeyLaw P K V)(hu:P.underlying t=some (.map K E))(q:∀w',MapF V w' g (λk'=>if k'=k then some v else f k')->Fr [g] w w'->w'.heap.size=w.heap.size->WL P ops Q rest n ds w' L):WL P ops Q (⟨none,.mapUpdate t x y z,ty,pos,after,none⟩::rest) n ds w L:=λa h=>by
  obtain⟨w',hr,D,I,O⟩:=y2r hm Z hu k v
  exact y0h h U U (w':=w') (by simp[execOp,h.eval hx,h.eval hy,h.eval hz,hr])<|q w' D I O
end
end Go.Lw
namespace Go.Lw
open Go.RowKit
section
variable {P:Program} {n:Nat} {L:List (Nat×Value)} {ds:List Nat} {w w':World} {Q:Exit->Act->World->Prop} {ops:Array Oper} {rest:List Oper} {a:Act} {d:Nat} {ty T t:TypeId} {pos:String} {after:Array Edge} {v:Value} {x y:Operand}
theorem j8t {α:Type}{E:Enc α}{a0 base g cap:Nat}{zs ys:List α}(h:AgM ds a n L)(hx:ev L x=some (.slice (saa g) zs.length cap))(hy:ev L y=some v)(ho:Own E T base w (.slice (saa g) zs.length cap) zs)(hs:Sl E w v ys)(hl:ys.length=zs.length)(he:ElemOf P t T E a0)(hn:lbt d n)
    (q:∀w',Own E T base w' (.slice (saa g) zs.length cap) ys->Fr [g] w w'->w'.heap.size=w.heap.size->∀a,AgM ds a n ((d,.int .i64 (zs.length:Int))::L)->wpList P ops Q rest a w'):wpList P ops Q (⟨some d,.call ⟨.builtin .copy,#[x,y],#[t,t]⟩,ty,pos,after,none⟩::rest) a w:=by
  obtain⟨i,z,h1,h2,h3,h4,h5⟩:=he.info
  obtain⟨A,c,rfl,hc,hM,hA⟩:=hs.flat
  rcases ho with ⟨e,_⟩|⟨g',a7,cur,e,hb,hg,r1,r2,r3,r4⟩
  · cases e
  cases e
  have a2:ys.length*E.sz<=cur.size:=by rw[hl];exact l44 (l49 _ r1) r3
  obtain⟨cs,D⟩:∃cs,ys.flatMap E.enc=cs:=⟨_,rfl⟩
  have I:cs.length=zs.length*E.sz:=by rw[<-D,E.flat_len,hl]
  have Z:=E.flat_one ys
  rw[D]at Z hA
  have a3:=run_storeCells_at P g 0 T cs 0 cur w hg (by rw[I];rw[hl]at a2;simpa using a2) Z
  simp only[l72,l93,l45]at a3
  have a6:(Builtin.copy_ #[t,t] ty #[.slice (saa g) zs.length cap,.slice A ys.length c]).run P w=.ok (.int .i64 (zs.length:Int)) (w.setRow g (cs++cur.toList.drop cs.length).toArray):=by
    have a1:(Builtin.firstCells E.sz zs.length<|.slice A ys.length c).run P w=.ok cs.toArray w:=by
      by_cases hys:ys=[]
      · have h0:zs.length=0:=by rw[<-hl,hys];rfl
        have a4:cs=[]:=by rw[<-D,hys];rfl
        rw[h0,a4]
        cases A with
        | none=>simp[Builtin.firstCells]
        | some ad=>simp[Builtin.firstCells,loadCells,loadCellsFrom]
      · obtain⟨ad,rfl,a5⟩:=hA hys
        have O:=run_loadCells_list (P:=P) w ad cs a5
        rw[I]at O
        simpa[Builtin.firstCells] using O
    rw[hl]at a1
    simp only[Builtin.copy_,List.getElem?_toArray,List.getElem?_cons_zero,List.getElem?_cons_succ,Sem.run_bind,run_underlying he.und,Result.andThen_ok,Builtin.lenOf,Sem.run_pure,hl,Nat.min_self,show ∀m:Nat,Nat.min m m=m from Nat.min_self,sizeOf,typeInfo]
    simp[h1,h3,a1,a3,goInt]
  refine z1x h U hn (w':=w.setRow g (cs++cur.toList.drop cs.length).toArray) ?_<|q _ (.inr ⟨g,cap,_,by rw[hl],hb,setRow_heap w g cur _ T (0,0) hg,by rw[hl];exact r1,r2,?_,?_⟩) (Fr.setRow w g _) sp0
  · rw[z2q];unfold builtin
    simp only[l95,l28,l140,h.eval hx,h.eval hy,Sem.run_bind,a6,Result.andThen_ok,Sem.run_pure]
  · simp only[l134,l13,l35,l121];omega
  · rw[hl,<-I,D];simp
theorem z9g {α:Type}{E:Enc α}{D base g cap:Nat}{zs ys:List α}(O:ev L x=some (.slice (saa g) zs.length cap))(Z:ev L y=some v)(ho:Own E T base w (.slice (saa g) zs.length cap) zs)(hs:Sl E w v ys)(hl:ys.length=zs.length)(I:ElemOf P t T E D)(q:∀w',Own E T base w' (.slice (saa g) zs.length cap) ys->Fr [g] w w'->w'.heap.size=w.heap.size->WL P ops Q rest n ds w' ((d,.int .i64 (zs.length:Int))::L))(hn:lbt d n:=by exact U):WL P ops Q (⟨some d,.call ⟨.builtin .copy,#[x,y],#[t,t]⟩,ty,pos,after,none⟩::rest) n ds w L:=λa h=>j8t h O Z ho hs hl I hn q
end
end Go.Lw
namespace Go.Lw
open Go.RowKit
section
variable {P:Program} {n:Nat} {L:List (Nat×Value)} {ds:List Nat} {w w':World} {Q:Exit->Act->World->Prop} {ops:Array Oper} {rest:List Oper} {a:Act} {d:Nat} {ty T t:TypeId} {pos:String} {after:Array Edge} {v:Value} {x y:Operand}
theorem u4a {α:Type}{E:Enc α}{a5 base g m cap p k:Nat}{zs ys:List α}(h:AgM ds a n L)(hx:ev L x=some (.slice (some<|(⟨g,0,none⟩:Addr).add<|p*E.sz) (m-p)<|cap-p))(hy:ev L y=some v)(ho:Own E T base w (.slice (saa g) m cap) zs)(hs:Sl E w v ys)(hp:p<=m)(hk:k=min (m-p) ys.length)(he:ElemOf P t T E a5)(hn:lbt d n)
    (q:∀w',Own E T base w' (.slice (saa g) m cap) (zs.take p++ys.take k++zs.drop (p+k))->Fr [g] w w'->w'.heap.size=w.heap.size->∀a,AgM ds a n ((d,.int .i64 (k:Int))::L)->wpList P ops Q rest a w'):wpList P ops Q (⟨some d,.call ⟨.builtin .copy,#[x,y],#[t,t]⟩,ty,pos,after,none⟩::rest) a w:=by
  obtain⟨i,z,h1,h2,h3,h4,h5⟩:=he.info
  rcases ho with ⟨e,_⟩|⟨g',d4,cur,e,hb,hg,r1,r2,r3,r4⟩
  · cases e
  cases e
  obtain⟨A0,c0,e0,_,b5,_⟩:=id hs
  subst e0
  have d0:k<=ys.length:=by omega
  have d3:=hs.take U (m:=k) d0 (B:=A0) (c':=c0) oo b5<|λ_=>rfl
  obtain⟨A,c,e2,hc,hM,hA⟩:=d3.flat
  have a2:(ys.take k).length=k:=by rw[l27];omega
  rw[a2]at e2
  simp only[Value.slice.injEq]at e2
  obtain⟨rfl,-,rfl⟩:=e2
  obtain⟨cs,O⟩:∃cs,(ys.take k).flatMap E.enc=cs:=⟨_,rfl⟩
  have a0:cs.length=k*E.sz:=by rw[<-O,E.flat_len,a2]
  have a4:=E.flat_one<|ys.take k
  rw[O]at a4 hA
  have d1:p+k<=zs.length:=by omega
  have d5:p*E.sz+k*E.sz<=zs.length*E.sz:=by rw[<-l97];exact l49 _ d1
  have b8:zs.length*E.sz<=cur.size:=l44 (l49 _ r1) r3
  have b2:=run_storeCells_at P g (p*E.sz) T cs 0 cur w hg (by rw[a0];omega) a4
  rw[Nat.add_zero,a0]at b2
  have c9:(Builtin.firstCells E.sz k<|.slice A0 ys.length c0).run P w=.ok cs.toArray w:=by
    by_cases hys:ys.take k=[]
    · have h0:k=0:=by have:=congrArg List.length hys;rw[a2]at this;simpa using this
      have b6:cs=[]:=by rw[<-O,hys];rfl
      rw[h0,b6]
      cases A0 with
      | none=>simp[Builtin.firstCells]
      | some ad=>simp[Builtin.firstCells,loadCells,loadCellsFrom]
    · obtain⟨ad,rfl,b7⟩:=hA hys
      have a1:=run_loadCells_list (P:=P) w ad cs b7
      rw[a0]at a1
      simpa[Builtin.firstCells] using a1
  have b4:(Builtin.copy_ #[t,t] ty #[.slice (some<|(⟨g,0,none⟩:Addr).add<|p*E.sz) (zs.length-p) (cap-p),.slice A0 ys.length c0]).run P w=.ok (.int .i64 (k:Int)) (w.setRow g (cur.toList.take (p*E.sz)++cs++cur.toList.drop (p*E.sz+k*E.sz)).toArray):=by
    rw[z5i,l72]
    have a9:Nat.min (zs.length-p) ys.length=k:=hk.symm
    have a7:Nat.min ys.length (zs.length-p)=k:=(Nat.min_comm _ _).trans hk.symm
    simp only[Builtin.copy_,List.getElem?_toArray,List.getElem?_cons_zero,List.getElem?_cons_succ,Sem.run_bind,run_underlying he.und,Result.andThen_ok,Builtin.lenOf,Sem.run_pure,a9,sizeOf,typeInfo]
    simp[h1,h3,c9,b2,goInt,a7]
  obtain⟨D,Z,I,rfl,b3,a8⟩:∃D Z I,zs=D++(Z++I)/\D.length=p/\Z.length=k:=⟨zs.take p,(zs.drop p).take k,(zs.drop p).drop k,by rw[l25,l25],t19,by rw[l27,l35];omega⟩
  have b0:(D++(Z++I)).take p++ys.take k++(D++(Z++I)).drop (p+k)=D++(ys.take k++I):=by
    rw[<-b3,l110,<-a8,<-List.drop_drop,List.drop_left,List.drop_left,l14]
  rw[b0]at q
  have a6:(D++(ys.take k++I)).length=(D++(Z++I)).length:=by simp only[l13,a2,a8]
  have a3:cur.toList=(D++(Z++I)).flatMap E.enc++cur.toList.drop ((D++(Z++I)).length*E.sz):=by
    rw[<-r4,l25]
  have b9:(D.flatMap E.enc).length=p*E.sz:=by rw[E.flat_len,b3]
  have c1:(Z.flatMap E.enc).length=k*E.sz:=by rw[E.flat_len,a8]
  have b1:cur.toList.take (p*E.sz)++cs++cur.toList.drop (p*E.sz+k*E.sz)=(D++(ys.take k++I)).flatMap E.enc++cur.toList.drop ((D++(Z++I)).length*E.sz):=by
    generalize cur.toList.drop ((D++(Z++I)).length*E.sz)=R at a3 ⊢
    rw[a3]
    simp only[l42,l14]
    rw[<-b9,l110,<-c1,<-List.drop_drop,List.drop_left,List.drop_left,O]
  rw[b1]at b4
  refine z1x h U hn (w':=w.setRow g ((D++(ys.take k++I)).flatMap E.enc++cur.toList.drop ((D++(Z++I)).length*E.sz)).toArray) ?_<|q _ (.inr ⟨g,cap,_,by rw[a6],hb,setRow_heap w g cur _ T (0,0) hg,by rw[a6];exact r1,r2,?_,?_⟩) (Fr.setRow w g _) sp0
  · rw[z2q];unfold builtin
    simp only[l95,l28,l140,h.eval hx,h.eval hy,Sem.run_bind,b4,Result.andThen_ok,Sem.run_pure]
  · have e1:((D++(ys.take k++I)).flatMap E.enc).length=(D++(Z++I)).length*E.sz:=by rw[E.flat_len,a6]
    generalize (D++(ys.take k++I)).flatMap E.enc=X at e1
    generalize (D++(Z++I)).length*E.sz=M at e1 b8
    simp only[l134,l13,l35,l121]
    omega
  · show List.take _ _=_
    rw[show (D++(ys.take k++I)).length*E.sz=((D++(ys.take k++I)).flatMap E.enc).length by rw[E.flat_len]]
    exact l110
theorem j5o {α:Type}{E:Enc α}{D base g m cap p k:Nat}{zs ys:List α}(Z:ev L x=some (.slice (some<|(⟨g,0,none⟩:Addr).add<|p*E.sz) (m-p)<|cap-p))(hy:ev L y=some v)(ho:Own E T base w (.slice (saa g) m cap) zs)(hs:Sl E w v ys)(hp:p<=m)(O:k=min (m-p) ys.length)(I:ElemOf P t T E D)(hn:lbt d n)
 (q:∀w',Own E T base w' (.slice (saa g) m cap) (zs.take p++ys.take k++zs.drop (p+k))->Fr [g] w w'->w'.heap.size=w.heap.size->WL P ops Q rest n ds w' ((d,.int .i64 (k:Int))::L)):WL P ops Q (⟨some d,.call ⟨.builtin .copy,#[x,y],#[t,t]⟩,ty,pos,after,none⟩::rest) n ds w L:=λa h=>u4a h Z hy ho hs hp O I hn q
end
end Go.Lw
namespace Go.Lw
open Go.RowKit
theorem u1n {α:Type}{E:Enc α}{ys:List α}{i f:Nat}{z y:α}{v:Value}(I:ys[i]?=some y)(hf:f<E.sz)(hz:(E.enc y).set f v=E.enc z)(rest:List Value) :
    (ys.flatMap E.enc++rest).set (i*E.sz+f) v=(ys.set i z).flatMap E.enc++rest:=by
  have hi:=(l50.1 I).1
  have O:ys.set i y=ys:=by
    apply l62
    intro k
    rw[l123]
    by_cases e:i=k
    · subst e;rw[if_pos U,if_pos hi,I]
    · rw[if_neg e]
  have D:=z9c (E:=E) ys y rest i hi
  have Z:=z9c (E:=E) ys z rest i hi
  rw[O]at D
  rw[<-Z]
  conv=>lhs;rw[<-D]
  have hl:((ys.flatMap E.enc++rest).take<|i*E.sz).length=i*E.sz:=by
    rw[l27,l13,E.flat_len]
    have:i*E.sz+E.sz<=ys.length*E.sz:=by rw[<-Nat.succ_mul];exact l49 _ hi
    omega
  rw[l14,l52 _ _ oo,hl,l131,List.set_append_left _ _ (by rw[E.len];exact hf),hz,l14]
section
variable {P:Program} {a:Act} {n:Nat} {L:List (Nat×Value)} {ds:List Nat} {w:World} {Q:Exit->Act->World->Prop} {ops:Array Oper} {rest:List Oper} {d:Nat} {ty t T:TypeId} {pos:String} {after:Array Edge} {x y:Operand} {v:Value}
theorem y7n {α:Type}{E:Enc α}{base g m c i f:Nat}{ys:List α}(u z:α)(h:AgM ds a n L)(hx:ev L x=some (.pointer<|some<|(⟨g,0,none⟩:Addr).add<|i*E.sz+f))(hy:ev L y=some v)(ho:Own E T base w (.slice (saa g) m c) ys)(hi:ys[i]?=some u)(hf:f<E.sz)
    (hz:(E.enc u).set f v=E.enc z) (h1:v.oneCell'=true) (hc:v.cells=#[v]) (hs:z1r P t 1)
    (q:∀w',Own E T base w' (.slice (saa g) m c) (ys.set i z)->Fr [g] w w'->w'.heap.size=w.heap.size->∀a,AgM ds a n L->wpList P ops Q rest a w'):wpList P ops Q (⟨none,.store t x y,ty,pos,after,none⟩::rest) a w:=by
  rcases ho with ⟨e,_⟩|⟨g',cap,cur,e,hb,hg,r1,r2,r3,r4⟩
  · cases e
  cases e
  have O:=(l50.1 hi).1
  have h5:i*E.sz+E.sz<=ys.length*E.sz:=by rw[<-Nat.succ_mul];exact l49 _ O
  have a0:ys.length*E.sz<=cur.size:=l44 (l49 _ r1) r3
  have I:Blk w g T cur.toList:=hg
  have D:cur.toList=ys.flatMap E.enc++cur.toList.drop (ys.length*E.sz):=by rw[<-r4,l25]
  refine z7w h hx hy I (by rw[Nat.blt_eq,l121];omega) h1 hc hs λw' Z k2 k3 a h=>q w' ?_ k2 k3 a h
  have e1:cur.toList.set (i*E.sz+f) v=(ys.set i z).flatMap E.enc++cur.toList.drop (ys.length*E.sz):=by
    conv=>lhs;rw[D]
    exact u1n hi hf hz _
  rw[e1]at Z
  refine .inr ⟨g,c,_,by rw[l19],hb,Z,by rw[l19];exact r1,r2,?_,?_⟩
  · simp only[l134,l13,E.flat_len,l19,l35,l121];omega
  · rw[l19,show ys.length*E.sz=((ys.set i z).flatMap E.enc).length by rw[E.flat_len,l19]]
    exact l110
theorem u8b {α:Type}{E:Enc α}{base g m c i f:Nat}{ys:List α}(u z:α)(D:ev L x=some (.pointer<|some<|(⟨g,0,none⟩:Addr).add<|i*E.sz+f))(I:ev L y=some v)(ho:Own E T base w (.slice (saa g) m c) ys)(hi:ys[i]?=some u)(hf:f<E.sz)
 (hz:(E.enc u).set f v=E.enc z) (h1:v.oneCell'=true) (hc:v.cells=#[v]) (hs:z1r P t 1)
 (q:∀w',Own E T base w' (.slice (saa g) m c) (ys.set i z)->Fr [g] w w'->w'.heap.size=w.heap.size->WL P ops Q rest n ds w' L):WL P ops Q (⟨none,.store t x y,ty,pos,after,none⟩::rest) n ds w L:=λ_ h=>y7n u z h D I ho hi hf hz h1 hc hs q
end
end Go.Lw
namespace Go.Lw
open Go.RowKit
section
variable {P:Program} {a:Act} {n:Nat} {L:List (Nat×Value)} {w:World} {v:Value} {g g2:Nat} {T T2:TypeId} {cs cs2:List Value}
theorem k3n {fn:Func}{R:Ending->World->Prop}{p pt p2 pt2 q:Nat}(h:Ag a n L)(hr:fn.results=#[.cell p pt,.cell p2 pt2,.tmp q])(hp:look L p=some (pta g))(hb:Blk w g T cs)(Z:z3z P pt cs.length)
    (hp2:look L p2=some (pta g2)) (hb2:Blk w g2 T2 cs2) (hg2:z3z P pt2 cs2.length) (hv:look L q=some v) (k:R (.returned<|.tuple #[.agg cs.toArray,.agg cs2.toArray,v]) w):bodyPost P fn R .ret a w:=
  bodyPost_ret (v:=.tuple #[.agg cs.toArray,.agg cs2.toArray,v]) (by
    have D:=h.at_ p _ hp
    have I:=h.at_ q _ hv
    have O:=h.at_ p2 _ hp2
    simp only[l47]at D I O
    simp[results,hr,D,I,O,asAddr,loadVar,Z.1 w,Z.2 w,hg2.1 w,hg2.2 w,run_loadCells_list w _ cs hb.cells,run_loadCells_list w _ cs2 hb2.cells]) h.dfr k
theorem k5h {fn:Func}{R:Ending->World->Prop}{p pt p2 pt2 q:Nat}(I:fn.results=#[.cell p pt,.cell p2 pt2,.tmp q])(hp:look L p=some (pta g))(hb:Blk w g T cs)(D:z3z P pt cs.length)
 (hp2:look L p2=some (pta g2)) (hb2:Blk w g2 T2 cs2) (hg2:z3z P pt2 cs2.length) (hv:look L q=some v) (k:R (.returned<|.tuple #[.agg cs.toArray,.agg cs2.toArray,v]) w):EW (bodyPost P fn R) .ret n [] w L:=λ_ h=>k3n h I hp hb D hp2 hb2 hg2 hv k
end
end Go.Lw
namespace Go.Lw
open Go.RowKit
section
variable {P:Program} {n:Nat} {L:List (Nat×Value)} {ds:List Nat} {w w':World} {Q:Exit->Act->World->Prop} {ops:Array Oper} {rest:List Oper} {a:Act} {d:Nat} {ty T t:TypeId} {pos:String} {after:Array Edge} {v:Value} {x y:Operand}
end
end Go.Lw
namespace Go.Lw
open Go.RowKit
section
variable {P:Program} {n:Nat} {L:List (Nat×Value)} {ds:List Nat} {w w':World} {Q:Exit->Act->World->Prop} {ops:Array Oper} {rest:List Oper} {a:Act} {d:Nat} {ty T t tn:TypeId} {pos:String} {after:Array Edge} {v:Value} {x y:Operand}
end
end Go.Lw
namespace Go.Proofs.YtkafbfjmcigaiaaGreatDoor
open Go.Lw _root_.Go.Proofs.Tryz
theorem z5o:z3z prog 48 2:=⟨λ_=>kr,λ_=>kr⟩
theorem y3b:z3z prog 50 6:=⟨λ_=>kr,λ_=>kr⟩
theorem y7r:BuildAt prog 48 [(0,1),(1,1)] [(.int .u8 0),(.int .i64 0)]:=BuildAt.struct underlying48 (λ_=>kr)<|λ_=>kr
theorem x3w:BuildAt prog 232 [(0,1),(1,1),(2,1),(3,1)] [(.bool false),(.bool false),(.bool false),(.bool false)]:=BuildAt.struct underlying232 (λ_=>kr)<|λ_=>kr
theorem u8y:CallOf prog 26:=mkC func26
theorem z6s:z1d prog 48 0 0:=λ_ _=>kr
theorem z6u:z1d prog 48 1 1:=λ_ _=>kr
theorem z8i:z1d prog 50 0 0:=λ_ _=>kr
theorem z9k:z1d prog 50 1 1:=λ_ _=>kr
theorem z5n:z1d prog 50 2 2:=λ_ _=>kr
theorem z4h:z1d prog 50 3 4:=λ_ _=>kr
theorem y4g:z1d prog 50 4 5:=λ_ _=>kr
theorem x1u:z1d prog 232 0 0:=λ_ _=>kr
theorem x8z:z1d prog 232 1 1:=λ_ _=>kr
theorem x7d:z1d prog 232 2 2:=λ_ _=>kr
theorem j3i:z1d prog 232 3 3:=λ_ _=>kr
theorem z2s:prog.follows .mixedOrders=true:=kr
theorem na3:z2a prog 3:=λ_=>kr
theorem na4:z2a prog 4:=λ_=>kr
theorem na5:z2a prog 5:=λ_=>kr
theorem v4z:z2a prog 44:=λ_=>kr
theorem x2r:z2a prog 45:=λ_=>kr
theorem x7o:z2a prog 46:=λ_=>kr
theorem j9c:z1r prog 232 4:=λ_=>kr
theorem x4f (w:World):(zeroValue 232).run prog w=.ok (.agg #[(.bool false),(.bool false),(.bool false),(.bool false)]) w:=kr
theorem z5m (b p:Int)(w0:World):Rets prog 26 #[.agg #[.int .u8 b,.int .i64 p]] w0 λv w'=>v=.int .i64 (z4a b p)/\Fr [] w0 w':=by
 refine we [(0,.agg #[.int .u8 b,.int .i64 p])] func26 U ntmps26 U (.cons U .nil)<|sr<|bx U<|λg1 w1 a0 D Z z1=>(asg U<|nn<|sq<|sq<|rbo (r:=10) (L':=ll1 1) (((b≠0)/\(b≠1))) (csu U) ?_ ?_);refine fad U z6s<|z0i U D U x7o<|ne' U<|mv U U<|gs 6 U (λg0=>?_)<|λg0=>?_;exact gY U<|fad U z6s<|gY U<|z0i U D U x7o<|gY U<|ne' U<|pkt U<|rbe U<|csu U;exact gN U<|gN U<|gN U<|pkf U<|rbe U<|csu U;refine tn<|cd U (λI=>?_)<|λI=>?_;exact sr<|asg U<|nn<|rt<|tr<|r1 results26 U ⟨_,rfl,by rw[z4a,if_pos I],Z⟩;refine sk<|tn<|sq<|sq<|rbo (r:=18) (L':=[]) (((p<1)\/(40<p))) .nil ?_ ?_;refine fad U z6u<|z0i U D U na3<|lt' U<|mv U U<|gs 14 U (λg1=>?_)<|λg1=>?_;exact gN U<|gN U<|gN U<|pkt U<|rbe U .nil;exact gY U<|fad U z6u<|gY U<|z0i U D U na3<|gY U<|gt' U<|pkf U<|rbe U .nil;refine tn<|cd U (λO=>?_)<|λO=>?_;exact sr<|asg U<|nn<|rt<|tr<|r1 results26 U ⟨_,rfl,by rw[z4a,if_neg I,if_pos O],Z⟩;exact sk<|tn<|sr<|asg U<|nn<|rt<|r1 results26 U ⟨_,rfl,by rw[z4a,if_neg I,if_neg O],Z⟩
def kV (k:Int):Value:=.int .u8 k
theorem y7s:KeyLaw prog 44 kV:=KeyLaw.now underlying44 (λk k'=>by simp[kV,Instr.sameNow,y6p]) (λ_ _ _=>kr) (λ_=>by simp[kV,Instr.sameBits])
theorem x1k (w0:World):Rets prog 150 #[] w0 λv w'=>∃g,v=.map (some g)/\w0.heap.size<=g/\g<w'.heap.size/\MapF kV w' g x7r/\Fr [] w0 w':=by
 refine we [] func150 U ntmps150 U .nil<|sr<|asg U<|nn<|sr<|y6r kV U<|λI w1 O D Z z1=>?_
 refine z1t (cs:=[_,_,_,_]) (ev2 U) x3w (z0g U<|z0g U z0r) U ?_
 refine z3p (V:=kV) (k:=1) U D y7s underlying234<|λw2 D q2 z2=>?_
 refine z1t (cs:=[_,_,_,_]) (ev1 U) x3w (z0g U z0r) U ?_
 refine z3p (V:=kV) (k:=2) U D y7s underlying234<|λw3 D q3 z3=>?_
 refine z1t (cs:=[_,_,_,_]) (ev1 U) x3w (z0g U z0r) U ?_
 refine z3p (V:=kV) (k:=3) U D y7s underlying234<|λw4 D q4 z4=>?_
 refine z1t (cs:=[_,_,_,_]) (ev3 U) x3w (z0g U<|z0g U<|z0g U z0r) U ?_
 refine z3p (V:=kV) (k:=4) U D y7s underlying234<|λw5 D q5 z5=>?_
 refine z1t (cs:=[_,_,_,_]) (ev3 U) x3w (z0g U<|z0g U<|z0g U z0r) U ?_
 refine z3p (V:=kV) (k:=5) U D y7s underlying234<|λw6 D q6 z6=>?_
 refine z1t (cs:=[_,_,_,_]) (ev3 U) x3w (z0g U<|z0g U<|z0g U z0r) U ?_
 refine z3p (V:=kV) (k:=6) U D y7s underlying234<|λw7 D q7 z7=>?_
 refine z1t (cs:=[_,_,_,_]) (ev1 U) x3w (z0g U z0r) U ?_
 refine z3p (V:=kV) (k:=7) U D y7s underlying234<|λw8 D q8 z8=>?_
 refine z1t (cs:=[_,_,_,_]) (ev1 U) x3w (z0g U z0r) U ?_
 refine z3p (V:=kV) (k:=8) U D y7s underlying234<|λw9 D q9 z9=>(mv U U<|asg U<|nn<|rt<|r1 results150 U ?_)
 exact⟨_,rfl,I,rfl,oo,oo,by
  refine(funext λk=>?_:x7r=_)▸D
  unfold x7r z8y;repeat' split
  all_goals first|rfl|(simp_all [f4V];done),(((Z.z6 q2 q3 q4 q5 q6 q7).z1 q8).z1 q9)⟩
theorem k8a:v4w prog 48 ndV:=by
 intro e f Z oy w;have O:∀D,(eqGuard D 48 Z oy (ndV e)<|ndV f).run prog w=.ok () w:=λD=>run_eqGuard_agg w D 48 Z oy _ _ kr;have I:prog.stoodInHeld 48=false:=by kernel_rfl
 obtain⟨k,y⟩:=e;obtain⟨k',y'⟩:=f;refine⟨O _,O _,?_,?_⟩;unfold ndV;simp[go_sem,I,underlying48];(repeat' split)<;>simp_all
 unfold ndV;simp[go_sem,I,underlying48];(repeat' split)<;>simp_all
theorem u7k (o:MOp)(w0:World):Rets prog 116 #[opV o] w0 λv w'=>v=.bool (decide (y9c o))/\Fr [] w0 w':=by
 refine we [(0,opV o)] func116 U ntmps116 U (.cons U .nil)<|sr<|bx U<|λg1 w1 d0 D q1 z1=>(asg U<|nn<|jn (ι:=Nat) (ll1 1) (λg3=>[(3,pta g3),(4,.bool (z8y o.k).isSome)]) (λg3 w'=>Fr [] w1 w'/\w1.heap.size<=g3/\Blk w' g3 232 (f4L<|(z8y o.k).getD f40)) (csu U) ?_ ?_);intro a h;have Z:=l12 [] w1;refine z2t (λwb w'=>Fr [] wb w') z2s ?_;intro w2 O;have D:=D.ext O;have Z:=Z.next O;have d3:=O.size;clear O;have hC:Fr [] w2 w2:=l12 _ _;have a3:=D;refine z0c 1 h U z8i U λa h=>z0m 2 h U (λ_ hw=>a3.ext hw) U v4z U λa h=>z1u 0 7 kr U ?_ ?_;refine z0n h z0f (mkC func150) (x1k _) ?_;rintro _ w3 ⟨gm,rfl,b0,b1,hm,O⟩ a h;have D:=D.ext O;have Z:=Z.next O;have hC:=hC.next O;clear O;refine z0b<|z1u 3 7 kr U ?_ ?_;refine y3n (V:=kV) (k:=o.k) h U U hm y7s underlying234 x4f (z8g _) (y3o _) U λa h=>z0b<|z0e 4 h U λa h=>z0k 5 h U λa h=>z0k 6 h U λa h=>z0d 7 U<|z0u h x4f U λw4 I O hz a h=>?_;obtain⟨a0,hg⟩:∃g,g=w3.heap.size:=⟨_,rfl⟩;rw[<-hg]at I h hz;have a8:g1<a0:=by have:=D.lt;omega
 have a2:w1.heap.size<=a0:=by have:=Z.size;omega
 have a6:w2.heap.size<=a0:=by have:=hC.size;omega
 have D:=D.ext O;have Z:=Z.next O;have hC:=hC.next O;have hm:=hm.ext O;clear O;refine z0b<|z0d 8 U<|z0t h U I U j9c ?_ (h1:=t67);intro w5 a5 O hz a h;have D:=D.fr O;have Z:=Z.sp O;have hC:=hC.sp O;have hm:=hm.fr O (by simp;exact hm.ne_blk I);clear I O hz;have I:Blk w5 a0 _ [_,_,_,_]:=a5;clear a5;refine z0b<|z0d 9 U<|z0o h U λa h=>?_;refine z0b<|z0q ?_;clear hC a3;exact bk (h.sub (L':=ll3 1 3 4)<|csu U)<|jE (a0) (csu U) ⟨Z,⟨oo,I⟩⟩;refine z0u h x4f U λw6 I O hz a h=>?_;obtain⟨a0,hg⟩:∃g,g=w3.heap.size:=⟨_,rfl⟩;rw[<-hg]at I h hz;have a8:g1<a0:=by have:=D.lt;omega
 have a2:w1.heap.size<=a0:=by have:=Z.size;omega
 have a6:w2.heap.size<=a0:=by have:=hC.size;omega
 have D:=D.ext O;have Z:=Z.next O;have hC:=hC.next O;have hm:=hm.ext O;clear O;refine z0b<|z0d 3 U<|y3n (V:=kV) (k:=o.k) h U U hm y7s underlying234 x4f (z8g _) (y3o _) U λa h=>?_;refine z0b<|z0e 4 h U λa h=>z0k 5 h U λa h=>z0k 6 h U λa h=>z0d 8 U<|z0t h U I U j9c ?_ (h1:=t67);intro w7 a5 O hz a h;have D:=D.fr O;have Z:=Z.sp O;have hC:=hC.sp O;have hm:=hm.fr O (by simp;exact hm.ne_blk I);clear I O hz;have I:Blk w7 a0 _ [_,_,_,_]:=a5;clear a5;refine z0b<|z0d 9 U<|z0o h U λa h=>?_;refine z0b<|z0q ?_;clear hC a3;exact bk (h.sub (L':=ll3 1 3 4)<|csu U)<|jE (a0) (csu U) ⟨Z,⟨oo,I⟩⟩;refine z0u h x4f U λw8 I O hz a h=>?_;obtain⟨a0,hg⟩:∃g,g=w2.heap.size:=⟨_,rfl⟩;rw[<-hg]at I h hz;have a8:g1<a0:=by have:=D.lt;omega
 have a2:w1.heap.size<=a0:=by have:=Z.size;omega
 have a6:w2.heap.size<=a0:=by have:=hC.size;omega
 have D:=D.ext O;have Z:=Z.next O;have hC:=hC.next O;clear O;refine z0b<|z0d 0 U<|z0n h z0f (mkC func150) (x1k _) ?_;rintro _ w9 ⟨gm,rfl,b0,b1,hm,O⟩ a h;have D:=D.ext O;have Z:=Z.next O;have hC:=hC.next O;have I:=I.ext O;clear O;refine z0b<|z0d 3 U<|y3n (V:=kV) (k:=o.k) h U U hm y7s underlying234 x4f (z8g _) (y3o _) U λa h=>?_;refine z0b<|z0e 4 h U λa h=>z0k 5 h U λa h=>z0k 6 h U λa h=>z0d 8 U<|z0t h U I U j9c ?_ (h1:=t67);intro b9 a5 O hz a h;have D:=D.fr O;have Z:=Z.sp O;have hC:=hC.sp O;have hm:=hm.fr O (by simp;exact hm.ne_blk I);clear I O hz;have I:Blk b9 a0 _ [_,_,_,_]:=a5;clear a5;refine z0b<|z0d 9 U<|z0o h U λa h=>?_;refine z0b<|z0q ?_;clear hC a3;exact bk (h.sub (L':=ll3 1 3 4)<|csu U)<|jE (a0) (csu U) ⟨Z,⟨oo,I⟩⟩;rintro g3 c9 ⟨a1,⟨d1,I⟩⟩;have b2:=I.lt;refine kpC (ll3 1 3 4) (csu U) ?_;obtain⟨f,hf⟩:∃f,(z8y o.k).getD f40=f:=⟨_,rfl⟩;rw[hf]at I;have a7:y9c o↔(z8y o.k).isSome=true/\v0p f o:=by rw[<-hf];rfl
 replace I:Blk c9 g3 _ [.bool f.1,.bool f.2.1,.bool f.2.2.1,.bool f.2.2.2]:=I;refine sq<|sr<|mv U U<|nt' U<|nn<|cd U (λc0=>?_)<|λc0=>?_;refine sr<|asg U<|nn<|rt<|tr<|r1 results116 U ?_;exact⟨_,rfl,congrArg Value.bool (decide_eq_false (λh=>by simp[(a7.1 h).1]at c0)).symm,(q1.n1 a1)⟩;refine sk<|tn<|sq<|sq<|rbo (r:=35) (L':=ll2 1 3) ((((f.1=true/\(o.d≠0))/\(o.d≠1))\/((¬f.1=true)/\(o.d≠0)))) (csu U) ?_ ?_;refine fad U x1u<|z0i U I U na4<|mv U U<|gs 16 U (λg0=>?_)<|λg0=>?_;refine gY U<|fad U z9k<|gY U ?_;have D:=D.ext a1;refine z0i U D U x2r<|gY U<|ne' U<|pkt U<|mv U U<|gs 21 U (λg1=>?_)<|λg1=>?_;refine gY U<|fad U z9k<|gY U<|z0i U D U x2r<|gY U<|ne' U<|pkt U<|mv U U<|gs 26 U (λg2=>?_)<|λg2=>?_;exact gN U<|gN U<|gN U<|gN U<|gS U<|gS U<|gS U<|gN U<|pkt U<|rbe U<|csu U;refine gY U<|fad U x1u<|gY U<|z0i U I U na4<|gY U<|nt' U<|gY U<|mv U U<|gs 30 U (λg3=>?_)<|λg3=>?_;exact gY U<|fad U z9k<|gY U<|z0i U D U x2r<|gY U<|ne' U<|gY U<|pkt U<|pkf U<|rbe U<|csu U;exact gN U<|gN U<|gN U<|gY U<|pkf U<|pkf U<|rbe U<|csu U;refine gN U<|gN U<|gN U<|pkf U<|mv U U<|gY U<|fad U x1u<|gY U<|z0i U I U na4<|gY U<|nt' U<|gY U<|mv U U<|gs 30 U (λg4=>?_)<|λg4=>?_;exact gY U<|fad U z9k<|gY U<|z0i U D U x2r<|gY U<|ne' U<|gY U<|pkt U<|pkf U<|rbe U<|csu U;exact gN U<|gN U<|gN U<|gY U<|pkf U<|pkf U<|rbe U<|csu U;refine gN U<|gN U<|gN U<|pkf U<|mv U U<|gN U<|gN U<|gN U<|pkf U<|mv U U<|gY U<|fad U x1u<|gY U<|z0i U I U na4<|gY U<|nt' U<|gY U<|mv U U<|gs 30 U (λg5=>?_)<|λg5=>?_;refine gY U<|fad U z9k<|gY U ?_;have D:=D.ext a1;exact z0i U D U x2r<|gY U<|ne' U<|gY U<|pkt U<|pkf U<|rbe U<|csu U;exact gN U<|gN U<|gN U<|gY U<|pkf U<|pkf U<|rbe U<|csu U;refine tn<|cd U (λc1=>?_)<|λc1=>?_;refine sr<|asg U<|nn<|rt<|tr<|r1 results116 U ?_;exact⟨_,rfl,congrArg Value.bool (decide_eq_false<|λh=>(a7.1 h).2.1 c1).symm,(q1.n1 a1)⟩;refine sk<|tn<|sq<|sq<|v7n (r:=54) (L':=ll2 1 3) (((f.2.1=true/\((z4a o.b o.p)≠0))\/((¬f.2.1=true)/\(¬(o.b=0/\o.p=0))))) (csu U) ?_ ?_;refine fad U x8z<|z0i U I U na4<|mv U U<|gs 38 U (λg6=>?_)<|λg6=>?_;refine gY U<|fad U z5n<|gY U ?_;have D:=D.ext a1;refine z1w (vs:=[_,_]) U D z5o U<|gY U<|cl (ev1 U) u8y (z5m _ _ _) U ?_;rintro _ d4 ⟨rfl,a9⟩;refine gY U<|ne' U<|pkt U<|mv U U<|gs 44 U (λg7=>?_)<|λg7=>?_;exact gN U<|gN U<|gN U<|gN U<|gS U<|gS U<|gS U<|gS U<|gN U<|pkt U<|y3a U (csu U) a9;refine gY U<|fad U x8z<|gY U ?_;have I:=I.ext a9;refine z0i U I U na4<|gY U<|nt' U<|gY U<|mv U U<|gs 48 U (λg8=>?_)<|λg8=>?_;refine gY U<|fad U z5n<|gY U ?_;have D:=D.ext a9;exact z1w (vs:=[_,_]) U D z5o U<|gY U<|z1t (cs:=[_,_]) z0f y7r z0r U<|gY U<|j4d (V:=ndV) (e:=(_,_)) (f:=(_,_)) U U k8a U<|gY U<|pkt U<|pkf U<|y3a U (csu U) a9;exact gN U<|gN U<|gN U<|gN U<|gY U<|pkf U<|pkf U<|y3a U (csu U) a9;refine gN U<|gN U<|gN U<|gN U<|pkf U<|mv U U<|gY U<|fad U x8z<|gY U<|z0i U I U na4<|gY U<|nt' U<|gY U<|mv U U<|gs 48 U (λg9=>?_)<|λg9=>?_;refine gY U<|fad U z5n<|gY U ?_;have D:=D.ext a1;exact z1w (vs:=[_,_]) U D z5o U<|gY U<|z1t (cs:=[_,_]) z0f y7r z0r U<|gY U<|j4d (V:=ndV) (e:=(_,_)) (f:=(_,_)) U U k8a U<|gY U<|pkt U<|pkf U<|y3a U (csu U)<|l12 _ _;exact gN U<|gN U<|gN U<|gN U<|gY U<|pkf U<|pkf U<|y3a U (csu U)<|l12 _ _;intro d5 a4;have d6:=a4.size;refine tn<|cd U (λc2=>?_)<|λc2=>?_;refine sr<|asg U<|nn<|rt<|tr<|r1 results116 U ?_;exact⟨_,rfl,congrArg Value.bool (decide_eq_false<|λh=>(a7.1 h).2.2.1 c2).symm,(q1.n2 a1 a4)⟩;refine sk<|tn<|sq<|sq<|rbo (r:=76) (L':=ll2 1 3) (((f.2.2.1=true/\((o.y<1)\/(6<o.y)))\/((¬f.2.2.1=true)/\(o.y≠0)))) (csu U) ?_ ?_;refine fad U x7d ?_;have I:=I.ext a4;refine z0i U I U na4<|mv U U<|gs 57 U (λb3=>?_)<|λb3=>?_;refine gY U<|fad U z4h<|gY U ?_;have D:=D.ext<|a1.n1 a4;refine z0i U D U na5<|gY U<|lt' U<|gY U<|mv U U<|gs 61 U (λb4=>?_)<|λb4=>?_;exact gN U<|gN U<|gN U<|gY U<|pkt U<|pkt U<|mv U U<|gN U<|gN U<|gN U<|gN U<|gS U<|gS U<|gS U<|gN U<|pkt U<|rbe U<|csu U;refine gY U<|fad U z4h<|gY U<|z0i U D U na5<|gY U<|gt' U<|gY U<|pkf U<|pkt U<|mv U U<|gs 67 U (λb5=>?_)<|λb5=>?_;exact gN U<|gN U<|gN U<|gN U<|gS U<|gS U<|gS U<|gN U<|pkt U<|rbe U<|csu U;refine gY U<|fad U x7d<|gY U<|z0i U I U na4<|gY U<|nt' U<|gY U<|mv U U<|gs 71 U (λb6=>?_)<|λb6=>?_;exact gY U<|fad U z4h<|gY U<|z0i U D U na5<|gY U<|ne' U<|gY U<|pkt U<|pkf U<|rbe U<|csu U;exact gN U<|gN U<|gN U<|gY U<|pkf U<|pkf U<|rbe U<|csu U;refine gN U<|gN U<|gN U<|gN U<|gS U<|gS U<|gS U<|gN U<|pkf U<|mv U U<|gY U<|fad U x7d<|gY U<|z0i U I U na4<|gY U<|nt' U<|gY U<|mv U U<|gs 71 U (λb7=>?_)<|λb7=>?_;refine gY U<|fad U z4h<|gY U ?_;have D:=D.ext<|a1.n1 a4;exact z0i U D U na5<|gY U<|ne' U<|gY U<|pkt U<|pkf U<|rbe U<|csu U;exact gN U<|gN U<|gN U<|gY U<|pkf U<|pkf U<|rbe U<|csu U;refine tn<|cd U (λc3=>?_)<|λc3=>?_;refine sr<|asg U<|nn<|rt<|tr<|r1 results116 U ?_;exact⟨_,rfl,congrArg Value.bool (decide_eq_false<|λh=>(a7.1 h).2.2.2.1 c3).symm,(q1.n2 a1 a4)⟩;refine sk<|tn<|sq<|rbo (r:=2) (L':=[]) ((f.2.2.2=true\/(o.r=0))) .nil ?_ ?_;refine fad U j3i ?_;have I:=I.ext a4;refine z0i U I U na4<|mv U U<|gs 79 U (λb8=>?_)<|λb8=>?_;exact gN U<|gN U<|gN U<|pkt U<|asg U<|rbe U .nil;refine gY U<|fad U y4g<|gY U ?_;have D:=D.ext<|a1.n1 a4;exact z0i U D U na3<|gY U<|eq' U<|pkf U<|asg U<|rbe U .nil;refine tn<|rt<|r1 results116 U ?_;exact⟨_,rfl,congrArg Value.bool<|decide_eq_decide.2 ⟨λh=>a7.2 ⟨by revert c0;cases (z8y o.k).isSome<;>simp,c1,c2,c3,h⟩,λh=>(a7.1 h).2.2.2.2⟩,(q1.n2 a1 a4)⟩
theorem y2i (o:MOp)(w0:World):Rets prog 63 #[opV o] w0 λv w'=>v=.int .i64 (y1b o)/\Fr [] w0 w':=by
 refine we [(0,opV o)] func63 U ntmps63 U (.cons U .nil)<|sr<|bx U<|λg1 w1 a0 D q1 z1=>(asg U<|nn<|sq<|sr<|z0l U D y3b<|cl (ev1 U) (mkC func116) (u7k o _) U ?_);rintro _ w2 ⟨rfl,O⟩;refine nt' U<|nn<|cd U (λI=>?_)<|λI=>?_;exact sr<|asg U<|nn<|rt<|tr<|r1 results63 U ⟨_,rfl,by rw[y1b,if_pos I],(q1.n1 O)⟩;refine sk<|tn<|sq<|sq<|rbo (r:=13) (L':=[]) (((o.r < -4)\/(4<o.r))) .nil ?_ ?_;refine fad U y4g ?_;have D:=D.ext O;refine z0i U D U na3<|lt' U<|mv U U<|gs 9 U (λg0=>?_)<|λg0=>?_;exact gN U<|gN U<|gN U<|pkt U<|rbe U .nil;exact gY U<|fad U y4g<|gY U<|z0i U D U na3<|gY U<|gt' U<|pkf U<|rbe U .nil;refine tn<|cd U (λZ=>?_)<|λZ=>?_;exact sr<|asg U<|nn<|rt<|tr<|r1 results63 U ⟨_,rfl,by rw[y1b,if_neg I,if_pos Z],(q1.n1 O)⟩;exact sk<|tn<|sr<|asg U<|nn<|rt<|r1 results63 U ⟨_,rfl,by rw[y1b,if_neg I,if_neg Z],(q1.n1 O)⟩
open Go.Lw Go.G21 Go.G08 _root_.Go.Proofs.Tryz
theorem z3b:z3z prog 54 2:=⟨λ_=>kr,λ_=>kr⟩
theorem z9l:z3z prog 172 4:=⟨λ_=>kr,λ_=>kr⟩
theorem z9j:z1d prog 54 0 0:=λ_ _=>kr
theorem y1e:z1d prog 54 1 1:=λ_ _=>kr
theorem x7m:z1d prog 172 0 0:=λ_ _=>kr
theorem z9a:z1d prog 172 2 3:=λ_ _=>kr
theorem k9b:z1r prog 45 1:=λ_=>kr
def idV (i:LId):Value:=.agg (idL i).toArray
def paV (p:Pa):Value:=.agg (paL p).toArray
theorem k6c:v4w prog 54 idV:=by
 intro e f Z oy w;have O:∀D,(eqGuard D 54 Z oy (idV e)<|idV f).run prog w=.ok () w:=λD=>run_eqGuard_agg w D 54 Z oy _ _ kr;have I:prog.stoodInHeld 54=false:=by kernel_rfl
 obtain⟨y,n⟩:=e;obtain⟨y',n'⟩:=f;refine⟨O _,O _,?_,?_⟩;unfold idV;simp[go_sem,I,underlying54];(repeat' split)<;>simp_all
 unfold idV;simp[go_sem,I,underlying54];(repeat' split)<;>simp_all
theorem eqPa:v4w prog 172 paV:=by
 intro e f Z oy w;have O:∀D,(eqGuard D 172 Z oy (paV e)<|paV f).run prog w=.ok () w:=λD=>run_eqGuard_agg w D 172 Z oy _ _ kr;have I:prog.stoodInHeld 172=false:=by kernel_rfl
 obtain⟨⟨y,n⟩,b,d⟩:=e;obtain⟨⟨y',n'⟩,b',d'⟩:=f;refine⟨O _,O _,?_,?_⟩;unfold paV;simp[go_sem,I,underlying172];(repeat' split)<;>simp_all
 unfold paV;simp[go_sem,I,underlying172];(repeat' split)<;>simp_all
theorem x2n (i:LId)(w0:World):Rets prog 97 #[ivv i] w0 λr w'=>r=.bool (decide (y2n i))/\Fr [] w0 w':=by
 refine we [(0,ivv i)] func97 U ntmps97 U (.cons U .nil)<|sr<|bx U<|λI w1 Z D q1 z1=>(asg U<|nn<|sq<|rbo (r:=2) (L':=[]) (((((1<=i.y)/\(i.y<=6))/\(0<=i.n))/\(i.n<2048))) .nil ?_ ?_);refine fad U z9j<|z0i U D U na5<|ge' U<|mv U U<|gs 6 U (λO=>?_)<|λO=>?_;refine gY U<|fad U z9j<|gY U<|z0i U D U na5<|gY U<|le' U U<|pkt U<|mv U U<|gs 11 U (λI=>?_)<|λI=>?_;refine gY U<|fad U y1e<|gY U<|z0i U D U na3<|gY U<|ge' U<|pkt U<|mv U U<|gs 16 U (λg2=>?_)<|λg2=>?_;exact gY U<|fad U y1e<|gY U<|z0i U D U na3<|gY U<|lt' U<|pkt U<|asg U<|rbe U .nil;exact gN U<|gN U<|gN U<|pkf U<|asg U<|rbe U .nil;exact gN U<|gN U<|gN U<|pkf U<|mv U U<|gN U<|gN U<|gN U<|pkf U<|asg U<|rbe U .nil;exact gN U<|gN U<|gN U<|pkf U<|mv U U<|gN U<|gN U<|gN U<|pkf U<|mv U U<|gN U<|gN U<|gN U<|pkf U<|asg U<|rbe U .nil;refine tn<|rt<|r1 results97 U ?_;exact⟨_,rfl,congrArg Value.bool<|decide_eq_decide.2 (by unfold y2n;omega),q1⟩
theorem y5j (d:Int)(w0:World):Rets prog 137 #[.int .u8 d] w0 λr w'=>r=.bool (decide (z6k d))/\Fr [] w0 w':=by
 refine we [(0,.int .u8 d)] func137 U ntmps137 U (.cons U .nil)<|sr<|asg U<|nn<|sq<|rbo (r:=2) (L':=[]) (((d=0)\/(d=1))) .nil ?_ ?_;refine mv U U<|eq' U<|mv U U<|gs 5 U (λD=>?_)<|λD=>?_;exact gN U<|gN U<|pkt U<|asg U<|rbe U .nil;exact gY U<|mv U U<|gY U<|eq' U<|pkf U<|asg U<|rbe U .nil;refine tn<|rt<|r1 results137 U ?_;exact⟨_,rfl,congrArg Value.bool<|decide_eq_decide.2 (by unfold z6k;omega),(l12 _ _)⟩
theorem v1w (p:Pa)(w0:World):Rets prog 99 #[.agg #[.int .u8 p.id.y,.int .i64 p.id.n,.bool p.f,.int .u8 p.d]] w0 λr w'=>r=.bool (decide (y2t p))/\Fr [] w0 w':=by
 refine we [(0,.agg #[.int .u8 p.id.y,.int .i64 p.id.n,.bool p.f,.int .u8 p.d])] func99 U ntmps99 U (.cons U .nil)<|sr<|bx U<|λg1 w1 a0 D q1 z1=>(asg U<|nn<|sq<|v7n (r:=2) (L':=[]) (((y2n ⟨p.id.y,p.id.n⟩)/\(z6k p.d))) .nil ?_ ?_);refine fad U x7m<|z1w (vs:=[_,_]) U D z3b U<|cl (ev1 U) (mkC func97) (x2n ⟨_,_⟩ _) U ?_;rintro _ w2 ⟨rfl,I⟩;refine mv U U<|gs 6 U (λZ=>?_)<|λZ=>?_;refine gY U<|fad U z9a<|gY U ?_;have D:=D.ext I;refine z0i U D U x2r<|gY U<|cl (ev1 U) (mkC func137) (y5j _ _) U ?_;rintro _ w3 ⟨rfl,q3⟩;exact pkt U<|asg U<|y3a U .nil<|I.n1 q3;exact gN U<|gN U<|gN U<|pkf U<|asg U<|y3a U .nil I;intro w4 O;have z4:=O.size;refine tn<|rt<|r1 results99 U ?_;exact⟨_,rfl,congrArg Value.bool<|decide_eq_decide.2 (by rfl),(q1.n1 O)⟩
theorem y8r (x:Int)(w0:World):Rets prog 98 #[.int .i64 x] w0 λr w'=>r=.bool (decide (x3r x))/\Fr [] w0 w':=by
 refine we [(0,.int .i64 x)] func98 U ntmps98 U (.cons U .nil)<|sr<|asg U<|nn<|sq<|rbo (r:=2) (L':=[]) (((((Int.tmod x 2)≠0)/\(-13<=x))/\(x<=179))) .nil ?_ ?_;refine mv U U<|y8b U U t38<|ne' U<|mv U U<|gs 6 U (λD=>?_)<|λD=>?_;refine gY U<|mv U U<|gY U<|ge' U<|pkt U<|mv U U<|gs 10 U (λI=>?_)<|λI=>?_;exact gY U<|mv U U<|gY U<|le' U U<|pkt U<|asg U<|rbe U .nil;exact gN U<|gN U<|pkf U<|asg U<|rbe U .nil;exact gN U<|gN U<|pkf U<|mv U U<|gN U<|gN U<|pkf U<|asg U<|rbe U .nil;refine tn<|rt<|r1 results98 U ?_;exact⟨_,rfl,congrArg Value.bool<|decide_eq_decide.2 (by unfold x3r;exact and_assoc),(l12 _ _)⟩
theorem x3g (p q:Pa)(w0:World):Rets prog 100 #[.agg #[.int .u8 p.id.y,.int .i64 p.id.n,.bool p.f,.int .u8 p.d],.agg #[.int .u8 q.id.y,.int .i64 q.id.n,.bool q.f,.int .u8 q.d]] w0 λr w'=>r=.bool (decide (j0o p q))/\Fr [] w0 w':=by
 refine we [(0,.agg #[.int .u8 p.id.y,.int .i64 p.id.n,.bool p.f,.int .u8 p.d]),(1,.agg #[.int .u8 q.id.y,.int .i64 q.id.n,.bool q.f,.int .u8 q.d])] func100 U ntmps100 U (.c2 U U)<|sr<|bx U<|λg2 w1 a0 I q1 z1=>(bx U<|λg3 w2 a1 D q2 z2=>(asg U<|nn<|sq<|sq<|v7n (r:=21) (L':=ll2 2 3) ((((¬(z6k p.d))\/(¬(z6k q.d)))\/(p.d=q.d))) (csu U) ?_ ?_));refine fad U z9a ?_;have I:=I.ext q2;refine z0i U I U x2r<|cl (ev1 U) (mkC func137) (y5j _ _) U ?_;rintro _ w3 ⟨rfl,O⟩;refine nt' U<|mv U U<|gs 9 U (λg0=>?_)<|λg0=>?_;exact gN U<|gN U<|gN U<|gN U<|pkt U<|mv U U<|gN U<|gN U<|gN U<|gN U<|gN U<|pkt U<|y3a U (csu U) O;refine gY U<|fad U z9a<|gY U ?_;have D:=D.ext O;refine z0i U D U x2r<|gY U<|cl (ev1 U) (mkC func137) (y5j _ _) U ?_;rintro _ w4 ⟨rfl,q4⟩;refine gY U<|nt' U<|pkf U<|mv U U<|gs 15 U (λg1=>?_)<|λg1=>?_;exact gN U<|gN U<|gN U<|gN U<|gN U<|pkt U<|y3a U (csu U)<|O.n1 q4;refine gY U<|fad U z9a<|gY U ?_;have I:=I.ext<|O.n1 q4;refine z0i U I U x2r<|gY U<|fad U z9a<|gY U ?_;have D:=D.ext q4;exact z0i U D U x2r<|gY U<|eq' U<|pkf U<|y3a U (csu U)<|O.n1 q4;intro w5 Z;have z5:=Z.size;refine tn<|cd U (λc0=>?_)<|λc0=>?_;refine sr<|asg U<|nn<|rt<|tr<|r1 results100 U ?_;exact⟨_,rfl,congrArg Value.bool (decide_eq_false<|j3f c0).symm,(q1.n2 q2 Z)⟩;refine sk<|tn<|sr<|fad U z9a ?_;have I:=I.ext<|q2.n1 Z;refine z0i U I U x2r<|fad U z9a ?_;have D:=D.ext Z;refine z3k U D U k9b<|λw6 D q6 z6=>?_;replace D:Blk w6 g3 _ [_,_,_,_]:=D;refine nn<|sr ?_;have I:=I.fr q6;refine z0l U I z9l<|z0l U D z9l<|k6h (V:=paV) (e:=p) (f:=(⟨q.id,q.f,p.d⟩:Pa)) U U eqPa U<|asg U<|nn<|rt<|r1 results100 U ?_;exact⟨_,rfl,congrArg Value.bool<|decide_eq_decide.2<|j2g c0,(q1.z3 q2 Z q6)⟩
theorem z4y:ElemOf prog 108 172 z2i 24:=ElemOf.mk' (z:=(.agg #[.int .u8 0,.int .i64 0,.bool false,.int .u8 0])) underlying108 kr U
theorem y9u (w:World):(zeroValue 172).run prog w=.ok (.agg #[(.int .u8 0),(.int .i64 0),(.bool false),(.int .u8 0)]) w:=kr
theorem y0p (v:Value)(l:List Pa)(w0:World)(hs:Sl z2i w0 v l)(hl:l.length<=100000):Rets prog 191 #[v] w0 λr w'=>∃A,r=.slice A l.length l.length/\Lw.Own z2i 172 w0.heap.size w' r l/\Fr [] w0 w':=by
 obtain⟨A,c,rfl,a0,hM,hA⟩:=id hs;clear hA;unfold maxLen at hM;refine we [(0,.slice A l.length c)] func191 U ntmps191 U (.cons U .nil) ?_;have I:=hs;refine sr<|asg U<|nn<|sr<|mv U U<|lnS U underlying108<|z1f (m:=l.length) (c:=l.length) (pa0) U z4y y9u U<|λZ w1 a1 D O z1=>(asg U<|nn<|sr<|mv U U<|mv U U ?_);have hs:=I.ext O;refine z9g (zs:=List.replicate l.length pa0) t34 U (by rw[l23];exact D) hs t35 z4y<|λw2 D q2 z2=>?_;rw[l23]at D;exact nn<|sr<|mv U U<|asg U<|nn<|rt<|r1 results191 U ⟨_,rfl,some ⟨Z,0,none⟩,rfl,D.low oo,(O.z1 q2)⟩
theorem x4e:z1r prog 172 4:=λ_=>kr
theorem v8c (base:Nat)(u v:Value)(st l:List Pa)(w0:World)(ho:Lw.Own z2i 172 base w0 u st)(hs:Sl z2i w0 v l)(hd:∀k∈z0v v,k<base)(hb:base<=w0.heap.size)(hn:st.length+l.length<=100000):Rets prog 190 #[u,v] w0 λr w'=>∃S,Lw.Own z2i 172 base w' r (z5d st l)/\(∀k∈S,base<=k)/\Fr S w0 w':=by
 obtain⟨A,c,rfl,b8,hM,hA⟩:=id hs;clear hA;unfold maxLen at hM;refine we [(0,u),(1,.slice A l.length c)] func190 U ntmps190 U (.c2 U U) ?_;have b3:=hs;refine sr<|asg U<|nn<|sq<|sr<|mv U U<|lnS U underlying108<|mv U U<|nn<|bl<|lpK (ι:=Nat×Value) (ll2 8 9) (λp=>[(10,.int .i64 (p.1:Int)),(0,p.2)]) (λp w'=>p.1<=l.length/\Lw.Own z2i 172 base w' p.2 (z5d st<|l.take p.1)/\base<=w'.heap.size/\(∃S,(∀k∈S,base<=k)/\Fr S w0 w')) (λp=>l.length-p.1) (0,u) (csu U) ⟨l17 _,ho,hb,[],sp0,l12 _ _⟩ ?_;rintro⟨i,vT⟩ w1 ⟨hi,ho,hb,⟨S,hS,qS⟩⟩;simp only at hi ho;refine kpC [(8,_),(9,_),(10,.int .i64 (i:Int)),(0,vT)] (csu U) ?_;have hs:=b3.fr qS (λk O b2=>by have:=hS k O;have:=hd k b2;omega);have a9:=z8b (l.take i) st;rw[l27]at a9;obtain⟨ps,a0⟩:∃x,x=z5d st (l.take i):=⟨_,rfl⟩;rw[<-a0]at ho a9;obtain⟨AT,cT,rfl,b7⟩:=ho.sl.form;have a3:=ho;have b1:=ho.sl.len_le;unfold maxLen at b1;refine sr<|lt' U<|nn<|sq<|cd U (λc0=>?_)<|λc0=>?_;refine sk<|tn<|sq<|bl<|sr<|z0z (pa0) U hs U z4y z1j<|λb5 a6=>?_;refine z1q U (a6 _ hs) z9l<|al y9u U<|λg6 w2 b9 I q2 z2=>?_;refine z0j (vs:=[_,_,_,_]) U I x4e (λw3 I q3 z3=>?_) (h1:=(by first|(simp[Value.oneCell',S];done)|exact z2i.one<|l.getD i pa0));refine nn<|sr<|mv U U<|lnS U underlying108<|asg U<|nn<|sq ?_;have ho:=(ho.ext q2).fr q3 (by first|exact z9m ho oo|simp[z0v]<;>omega);intro a h;refine z0h none (λwb w'=>Fr [] wb w') z2s ?_;intro w4 q4;have z4:=q4.size;have ho:=ho.ext q4;have I:=I.ext q4;have hC:Fr [] w4 w4:=l12 _ _;have a2:=ho;have Z:=I;refine z0e 0 h U λa h=>v4m 1 hC h wn U U λa h=>z0e 2 h U λa h=>gSp (D:=18) h U ?_ ?_;intro g0 h;refine z0e 3 h U ?_ (hG:=(wy U));intro a h;refine z0e 4 h U ?_ (hG:=(wy U));intro a h;refine z3a 5 h U t13 U ?_ (hG:=(wy U));intro a h;refine z1e (p:=(ps.length-1)) (pa0) 6 h U ho.sl U z4y U ?_ (hG:=(wy U));intro b6 a7 a h;refine z2d 7 h (wy U) U (λ_ hw=>a7 _<|a2.sl.ext hw) z9l U λa h=>z0x 8 h U (λ_ hw=>Z.ext hw) z9l U ?_ (hG:=(wy U));intro a h;refine z0d 9 U<|z4u h U U U U<|z0n h (z0a U<|z0a U z0f) (mkC func100) (x3g (ps.getD (ps.length-1) pa0) (l.getD i pa0) _) ?_;rintro _ w5 ⟨rfl,q5⟩ a h;have z5:=q5.size;have ho:=ho.ext q5;have I:=I.ext q5;have hC:=hC.next q5;refine z0b<|z0d 10 U<|z4v h U λa h=>?_;refine z0b<|z0q ?_;clear hC a2 Z;refine bk (h.sub (L':=ll7 0 6 7 8 9 10 26)<|csu U)<|tn<|cd U (λc1=>?_)<|λc1=>?_;exact rg<|mv U U<|mv U U<|z2f U (wi6 oo)<|mv U U<|j9u U underlying108 U<|v6p (p:=(ps.length-1)) (p':=cT) U U U z4y oo oo oo oo oo U<|asg U<|kpL (ll4 0 8 9 10) (csu U)<|nl<|bn'<|tn<|rg<|z0w U (wi6 oo)<|mv U U<|nl<|lpE ((i+1,_)) (csu U) ⟨sm,by rw[y3i st l i oo,<-a0,y1f,if_pos ⟨oo,c1⟩];exact ho.take U oo oo oo,oo,S++z0v (.slice AT ps.length cT),(λk O=>(l22.1 O).elim (hS k)<|λO=>(a3.blk k O).1),qS.trans ((l12 (z0v<|.slice AT ps.length cT) _).z4 q2 q3 q4 q5)⟩ sm;refine rg<|mv U U<|z0l U I z9l<|z1i ([l.getD i pa0]) (ev1 U) U z4y<|λb0 w6 a8 a1 q6 z6=>?_;have ho:=ho.ext q6;have a4:=ho;refine z2h U ho a1.sl z4y<|λb4 w7 ho q7 a5=>?_;have z7:=q7.size;exact asg U<|kpL (ll4 0 8 9 10) (csu U)<|nl<|bn'<|tn<|rg<|z0w U (wi6 oo)<|mv U U<|nl<|lpE ((i+1,_)) (csu U) ⟨sm,by rw[y3i st l i oo,<-a0,y1f,if_neg (by first|exact λe=>c1 e.2|exact λe=>absurd e.1 oo)];exact ho,oo,S++z0v (.slice AT ps.length cT),(λk O=>(l22.1 O).elim (hS k)<|λO=>(a3.blk k O).1),qS.trans (((l12 (z0v<|.slice AT ps.length cT) _).z5 q2 q3 q4 q5 q6).step q7<|λk O _=>O)⟩ sm;intro g0 h;refine z1n 3 h U U λa h=>z1n 4 h U U λa h=>z1n 5 h U U λa h=>z1n 6 h U U λa h=>z1n 7 h U U λa h=>z1n 8 h U U λa h=>z1n 9 h U U λa h=>z0d 10 U<|z2v h U λa h=>?_;refine z0b<|z0q ?_;clear hC a2 Z;refine bk (h.sub (L':=ll7 0 6 7 8 9 10 26)<|csu U)<|tn<|cf U<|rg<|mv U U<|z0l U I z9l<|z1i ([l.getD i pa0]) (ev1 U) U z4y<|λb0 w8 a8 a1 q8 z8=>?_;have ho:=ho.ext q8;have a4:=ho;refine z2h U ho a1.sl z4y<|λb4 w9 ho q9 a5=>?_;have z9:=q9.size;exact asg U<|kpL (ll4 0 8 9 10) (csu U)<|nl<|bn'<|tn<|rg<|z0w U (wi6 oo)<|mv U U<|nl<|lpE ((i+1,_)) (csu U) ⟨sm,by rw[y3i st l i oo,<-a0,y1f,if_neg (by first|exact λe=>c1 e.2|exact λe=>absurd e.1 oo)];exact ho,oo,S++z0v (.slice AT ps.length cT),(λk O=>(l22.1 O).elim (hS k)<|λO=>(a3.blk k O).1),qS.trans (((l12 (z0v<|.slice AT ps.length cT) _).z4 q2 q3 q4 q8).step q9<|λk O _=>O)⟩ sm;exact ex<|te<|te<|xh<|tn<|sr<|mv U U<|asg U<|kpL (ll1 4) (csu U)<|nn<|rt<|r1 results190 U ⟨_,rfl,S,by rw[l86 oo]at a0;rw[<-a0];exact ho,hS,qS⟩
theorem z8p:z1d prog 110 0 0:=λ_ _=>kr
theorem z5y:z1d prog 110 1 1:=λ_ _=>kr
theorem z8t:z1d prog 110 2 2:=λ_ _=>kr
theorem v9t:z1d prog 110 3 3:=λ_ _=>kr
theorem z7s:z1d prog 110 4 4:=λ_ _=>kr
theorem y0x:z2a prog 108:=λ_=>kr
theorem y0a (q:YQ)(w0:World)(hp:Sl z2i w0 (slv q.pe) q.pes):Rets prog 47 #[yvv q] w0 λr w'=>r=.int .i64 (ynE q.p)/\Fr [] w0 w':=by
 have a3:=z2e hp;have a7:=hp.len_le;unfold maxLen at a7;refine we [(0,yvv q)] func47 U ntmps47 U (.cons U .nil) ?_;have a6:=hp;refine sr<|bx U<|λg1 w1 b0 I q1 z1=>(asg U<|nn<|sq<|sq<|rbo (r:=12) (L':=ll1 1) (((q.ct<0)\/(2048<q.ct))) (csu U) ?_ ?_);refine fad U z8t<|z0i U I U na3<|lt' U<|mv U U<|gs 8 U (λg0=>?_)<|λg0=>?_;exact gN U<|gN U<|gN U<|pkt U<|rbe U<|csu U;exact gY U<|fad U z8t<|gY U<|z0i U I U na3<|gY U<|gt' U<|pkf U<|rbe U<|csu U;refine tn<|cd U (λc0=>?_)<|λc0=>?_;exact sr<|asg U<|nn<|rt<|tr<|r1 results47 U ⟨_,rfl,by rw[yn_a c0],q1⟩;refine sk<|tn<|sq<|sr<|fad U z8p<|z0i U I U na4<|nt' U<|nn<|cd U (λc1=>?_)<|λc1=>?_;refine sq<|sq<|rbo (r:=28) (L':=[]) ((((q.pl≠0)\/q.nw=true)\/(0<(q.pe.2.1:Int)))) .nil ?_ ?_;refine fad U z5y<|z0i U I U na3<|ne' U<|mv U U<|gs 19 U (λg1=>?_)<|λg1=>?_;exact gN U<|gN U<|pkt U<|mv U U<|gN U<|gN U<|gN U<|gN U<|pkt U<|rbe U .nil;refine gY U<|fad U v9t<|gY U<|z0i U I U na4<|pkf U<|mv U U<|gs 23 U (λg2=>?_)<|λg2=>?_;exact gN U<|gN U<|gN U<|gN U<|pkt U<|rbe U .nil;exact gY U<|fad U z7s<|gY U<|z0i U I U y0x<|gY U<|lnS U underlying108<|gY U<|gt' U<|pkf U<|rbe U .nil;refine tn<|cd U (λc2=>?_)<|λc2=>?_;refine sr<|asg U<|nn<|rt<|tr<|tr<|r1 results47 U ?_;have Z:q.inn=false:=(by simpa using c1);exact⟨_,rfl,by rw[yn_b Z (by simpa[a3] using c2)],q1⟩;refine sk<|tn<|sr<|asg U<|nn<|rt<|tr<|r1 results47 U ?_;have Z:q.inn=false:=(by simpa using c1);exact⟨_,rfl,by rw[yn_c c0 Z (by simpa[a3] using c2)],q1⟩;refine sk<|tn<|sq<|sq<|v7n (r:=38) (L':=ll1 1) (((¬(x3r q.pl))\/(4096<(q.pe.2.1:Int)))) (csu U) ?_ ?_;refine fad U z5y<|z0i U I U na3<|cl (ev1 U) (mkC func98) (y8r _ _) U ?_;rintro _ w2 ⟨rfl,q2⟩;have z2:=q2.size;refine nt' U<|mv U U<|gs 33 U (λg3=>?_)<|λg3=>?_;exact gN U<|gN U<|gN U<|gN U<|pkt U<|y3a U (csu U) q2;refine gY U<|fad U z7s<|gY U ?_;have I:=I.ext q2;exact z0i U I U y0x<|gY U<|lnS U underlying108<|gY U<|gt' U<|pkf U<|y3a U (csu U) q2;intro w3 q3;have z3:=q3.size;refine tn<|cd U (λc3=>?_)<|λc3=>?_;refine sr<|asg U<|nn<|rt<|tr<|r1 results47 U ?_;have Z:q.inn=true:=(by simpa using c1);exact⟨_,rfl,by rw[yn_d Z (by simpa[a3] using c3)],(q1.n1 q3)⟩;refine sk<|tn<|sq<|sr<|fad U z7s ?_;have I:=I.ext q3;refine z0i U I U y0x<|lnS U underlying108<|mv U U<|nn<|bl<|lpK (ι:=Nat) (ll3 1 40 41) (λi=>[(42,.int .i64 (i:Int))]) (λi w'=>Fr [] w3 w'/\i<=q.pes.length/\∀j,j<i->u0a q.pes j) (λi=>q.pes.length-i) 0 (csu U) ⟨l12 _ _,⟨l17 _,λj h=>absurd h oo⟩⟩ ?_;rintro i w4 ⟨q4,⟨hi,hg⟩⟩;have z4:=q4.size;refine kpC (ll4 1 40 41 42) (csu U)<|sr<|lt' U<|nn<|sq<|cd U (λc4=>?_)<|λc4=>?_;refine sk<|tn<|sq<|bl<|sr<|mv U U ?_;have hp:=a6.ext<|q1.n2 q3 q4;refine z0z (p:=i) (pa0) U hp U z4y oo<|λa8 a4=>(z1q U (a4 _ hp) z9l<|al y9u U<|λg4 w5 b1 a1 q5 z5=>?_);refine asg U<|z0j (vs:=[_,_,_,_]) U a1 x4e (λw6 a1 q6 z6=>?_) (h1:=(by first|(simp[Value.oneCell',S];done)|exact z2i.one<|q.pes.getD i pa0));refine nn<|sq ?_;have hp:=a6.ext<|q1.z4 q3 q4 q5 q6;have I:=(I.ext<|q4.n1 q5).fr q6;intro a h;refine z0h none (λwb w'=>Fr [] wb w') z2s ?_;intro w7 q7;have z7:=q7.size;have hp:=hp.ext q7;have I:=I.ext q7;have a1:=a1.ext q7;have hC:Fr [] w7 w7:=l12 _ _;have a2:=hp;have a0:=I;have O:=a1;refine z0x 0 h U (λ_ hw=>O.ext hw) z9l U λa h=>z0d 1 U<|z0n h (z0a U z0f) (mkC func99) (v1w (q.pes.getD i pa0) _) ?_;rintro _ w8 ⟨rfl,q8⟩ a h;have z8:=q8.size;have hp:=hp.ext q8;have I:=I.ext q8;have a1:=a1.ext q8;have hC:=hC.next q8;refine z0b<|y0z 2 hC h wn U U λa h=>z0e 3 h U λa h=>?_;refine gSp (D:=50) h U ?_ ?_;intro g4 h;refine z1n 4 h U U λa h=>z1n 5 h U U λa h=>z1n 6 h U U λa h=>x5b 7 hC h U U U λa h=>x5b 8 hC h U U U λa h=>x5b 9 hC h U U U λa h=>x5b 10 hC h U U U λa h=>x5b 11 hC h U U U λa h=>x5b 12 hC h U U U λa h=>x5b 13 hC h U U U λa h=>x5b 14 hC h U U U λa h=>z1n 15 h U U λa h=>z0d 16 U<|z4v h U λa h=>?_;refine z0b<|z0q ?_;clear hC a2 a0 O;refine bk (h.sub (L':=ll5 1 40 41 42 63)<|csu U)<|tn<|ct U<|sr<|asg U<|nn<|rt<|rb<|tr<|tr<|rb<|tr<|r1 results47 U ?_;have Z:q.inn=true:=(by simpa using c1);exact⟨_,rfl,by rw[yn_e Z (i:=i) (by show i<q.pes.length;omega) (λh=>by first|exact absurd h.1 t12|exact h.2 oo c5)],(q1.z6 q3 q4 q5 q6 q7 q8)⟩;intro g4 h;refine z0e 4 h U ?_ (hG:=(wy U));intro a h;refine v4m 5 hC h (wy U) U U λa h=>z0e 6 h U ?_ (hG:=(wy U));intro a h;refine gSp (D:=53) h U ?_ ?_;intro g5 h;refine z0c 7 h U z7s U ?_ (hG:=(wy U));intro a h;refine z0m 8 h U (λ_ hw=>a0.ext hw) U y0x U ?_ (hG:=(wy U));intro a h;refine z0e 9 h U ?_ (hG:=(wy U));intro a h;refine z3a 10 h U t13 U ?_ (hG:=(wy U));intro a h;refine z1e (p:=(i-1)) (pa0) 11 h U hp U z4y U ?_ (hG:=(wy U));intro a9 a5 a h;refine z2d 12 h (wy U) U (λ_ hw=>a5 _<|a2.ext hw) z9l U λa h=>z0x 13 h U (λ_ hw=>O.ext hw) z9l U ?_ (hG:=(wy U));intro a h;refine z0d 14 U<|z4u h U U U U<|z0n h (z0a U<|z0a U z0f) (mkC func100) (x3g (q.pes.getD (i-1) pa0) (q.pes.getD i pa0) _) ?_;rintro _ w9 ⟨rfl,q9⟩ a h;have z9:=q9.size;have hp:=hp.ext q9;have I:=I.ext q9;have a1:=a1.ext q9;have hC:=hC.next q9;refine z0b<|z0d 15 U<|tW h<|kY U<|pkt U ?_;intro a h;refine z0b<|z0d 16 U<|z2v h U λa h=>?_;refine z0b<|z0q ?_;clear hC a2 a0 O;refine bk (h.sub (L':=ll5 1 40 41 42 63)<|csu U)<|tn<|cd U (λc5=>?_)<|λc5=>?_;refine sr<|asg U<|nn<|rt<|rb<|tr<|tr<|rb<|tr<|r1 results47 U ?_;have Z:q.inn=true:=(by simpa using c1);exact⟨_,rfl,by rw[yn_e Z (i:=i) (by show i<q.pes.length;omega) (λh=>by first|exact absurd h.1 t12|exact h.2 oo c5)],((q1.z6 q3 q4 q5 q6 q7 q8).n1 q9)⟩;refine sk<|bn'<|tn<|rg<|z0w U (wi6 oo)<|mv U U<|nl ?_;exact lpE (i+1) (csu U) ⟨(q4.z5 q5 q6 q7 q8 q9),⟨oo,λj hj=>by
  by_cases e:j<i;exact hg j e;obtain rfl:j=i:=by omega
  exact⟨t12,λh0=>by first|exact c5|exact absurd h0 oo⟩⟩⟩ oo
 clear h;intro g5 h;refine z1n 7 h U U λa h=>z1n 8 h U U λa h=>z1n 9 h U U λa h=>z1n 10 h U U λa h=>z1n 11 h U U λa h=>z1n 12 h U U λa h=>z1n 13 h U U λa h=>z1n 14 h U U λa h=>z0d 15 U<|tW h<|kY U<|pkf U ?_;intro a h;refine z0b<|z0d 16 U<|z2v h U λa h=>?_;refine z0b<|z0q ?_;clear hC a2 a0 O;refine bk (h.sub (L':=ll5 1 40 41 42 63)<|csu U)<|tn<|cf U<|sk<|bn'<|tn<|rg<|z0w U (wi6 oo)<|mv U U<|nl ?_;exact lpE (i+1) (csu U) ⟨(q4.z4 q5 q6 q7 q8),⟨oo,λj hj=>by
  by_cases e:j<i;exact hg j e;obtain rfl:j=i:=by omega
  exact⟨t12,λh0=>by first|exact c5|exact absurd h0 oo⟩⟩⟩ oo
 obtain rfl:i=q.pes.length:=by omega
 refine ex<|te<|te<|xh<|tn<|sr<|asg U<|nn<|rt<|r1 results47 U ?_;have Z:q.inn=true:=(by simpa using c1);exact⟨_,rfl,by rw[yn_f c0 Z (by simpa[a3] using c3) hg],(q1.n2 q3 q4)⟩
theorem z3m:z3z prog 110 5:=⟨λ_=>kr,λ_=>kr⟩
theorem z9p:BuildAt prog 110 [(0,1),(1,1),(2,1),(3,1),(4,1)] [(.bool false),(.int .i64 0),(.int .i64 0),(.bool false),(.slice none 0 0)]:=BuildAt.struct underlying110 (λ_=>kr)<|λ_=>kr
theorem k5l:CallOf prog 47:=mkC func47
theorem sz3:z1r prog 3 1:=λ_=>kr
theorem j3c:z1r prog 108 1:=λ_=>kr
theorem z3n:z1r prog 110 5:=λ_=>kr
theorem z6m (w:World):(zeroValue 110).run prog w=.ok (.agg #[(.bool false),(.int .i64 0),(.int .i64 0),(.bool false),(.slice none 0 0)]) w:=kr
theorem v2i (q:YQ)(pl:Int)(v:Value)(l:List Pa)(w0:World)(hp:Sl z2i w0 (slv q.pe) q.pes)(hs:Sl z2i w0 v l)(hv:∀k∈z0v v,k<w0.heap.size)(hl:l.length<=50000):Rets prog 143 #[yvv q,.int .i64 pl,v] w0 λr w'=>∃q':YQ,r=.tuple #[yvv q',.int .i64 (goE q.p pl l)]/\(goE q.p pl l=0->q'.p=goS q.p pl l/\Lw.Own z2i 172 w0.heap.size w' (slv q'.pe) q'.pes)/\Fr [] w0 w':=by
 have f5:=z2e hp;have d1:=hp.len_le;unfold maxLen at d1;obtain⟨A,c,rfl,f1,hM,hA⟩:=id hs;clear hA;unfold maxLen at hM;refine we [(0,yvv q),(1,.int .i64 pl),(2,.slice A l.length c)] func143 U ntmps143 U (.c3 U U U) ?_;have b4:=hp;have b5:=hs;refine sr<|bx U<|λg3 w1 f2 I q1 z1=>(al z6m U<|λg6 w2 f3 D q2 z2=>(asg U<|nn<|sq<|sr ?_));have I:=I.ext q2;refine z0l U I z3m ?_;have hp:=b4.ext<|q1.n1 q2;refine cl (ev1 U) k5l (y0a q _ hp) U ?_;rintro _ w3 ⟨rfl,q3⟩;have z3:=q3.size;refine asg U<|nn<|sr<|mv U U<|ne' U<|nn<|cd U (λc0=>?_)<|λc0=>?_;refine sr<|z1t (cs:=[_,_,_,_,_]) z0f z9p z0r U ?_;refine mv U U ?_;have D:=D.ext q3;refine z0j (vs:=[_,_,_,_,_]) U D z3n (λw4 D q4 z4=>?_) (h1:=(by first|(simp[Value.oneCell',S];done)|exact z2i.one<|l.getD i pa0));refine asg U<|kpL (ll2 6 7) (csu U)<|nn<|rt<|tr<|rCT results143 U D z3m U ?_;have he:goE q.p pl l=ynE q.p:=by unfold goE;rw[if_pos c0]
 exact⟨_,rfl,yq0,by rw[he];rfl,(λh=>absurd h (by rw[he];exact c0)),(q1.z3 q2 q3 q4)⟩;have d4:=v9h<|l18.1 c0;refine sk<|tn<|sq<|sr<|mv U U<|cl (ev1 U) (mkC func98) (y8r _ _) U ?_;rintro _ w5 ⟨rfl,q5⟩;have z5:=q5.size;refine nt' U<|nn<|cd U (λc1=>?_)<|λc1=>?_;refine sr<|z1t (cs:=[_,_,_,_,_]) z0f z9p z0r U ?_;have D:=D.ext<|q3.n1 q5;refine z0j (vs:=[_,_,_,_,_]) U D z3n (λw6 D q6 z6=>?_) (h1:=(by first|(simp[Value.oneCell',S];done)|exact z2i.one<|l.getD i pa0));refine asg U<|nn<|rt<|tr<|rCT results143 U D z3m U ?_;have he:goE q.p pl l=1:=by unfold goE;rw[if_neg c0,if_pos (by simpa using c1)]
 exact⟨_,rfl,yq0,by rw[he];rfl,(λh=>absurd h (by rw[he];decide)),(q1.z4 q2 q3 q5 q6)⟩;refine sk<|tn<|sq<|sr<|mv U U<|lnS U underlying108<|mv U U<|nn<|bl<|lpK (ι:=Nat) (ll6 1 2 3 6 22 23) (λi=>[(24,.int .i64 (i:Int))]) (λi w'=>Fr [] w5 w'/\i<=l.length/\∀j,j<i->y2t (l.getD j pa0)) (λi=>l.length-i) 0 (csu U) ⟨l12 _ _,⟨l17 _,λj h=>absurd h oo⟩⟩ ?_;rintro i w7 ⟨q7,⟨hi,hg⟩⟩;have z7:=q7.size;refine kpC (ll7 1 2 3 6 22 23 24) (csu U)<|sr<|lt' U<|nn<|sq<|cd U (λc2=>?_)<|λc2=>?_;refine sk<|tn<|sq<|bl<|sr ?_;have hs:=b5.ext<|q1.n4 q2 q3 q5 q7;refine z0z (pa0) U hs U z4y z1j<|λe2 b3=>?_;refine z1q U (b3 _ hs) z9l<|al y9u U<|λf0 w8 e4 a5 q8 z8=>?_;refine z0j (vs:=[_,_,_,_]) U a5 x4e (λw9 a5 q9 z9=>?_) (h1:=(by first|(simp[Value.oneCell',S];done)|exact z2i.one<|l.getD i pa0));refine nn<|sr<|z0l U a5 z9l<|cl (ev1 U) (mkC func99) (v1w (l.getD i pa0) _) U ?_;rintro _ f7 ⟨rfl,a8⟩;have g8:=a8.size;refine nt' U<|nn<|cd U (λc3=>?_)<|λc3=>?_;refine sr<|z1t (cs:=[_,_,_,_,_]) z0f z9p z0r U ?_;have D:=((D.ext<|q3.n3 q5 q7 q8).fr q9).ext a8;refine z0j (vs:=[_,_,_,_,_]) U D z3n (λf8 D d5 g9=>?_) (h1:=(by first|(simp[Value.oneCell',S];done)|exact z2i.one<|l.getD i pa0));refine asg U<|kpL (ll2 6 7) (csu U)<|nn<|rt<|rb<|tr<|tr<|rb<|tr<|rCT results143 U D z3m U ?_;have he:goE q.p pl l=1:=by unfold goE;rw[if_neg c0,if_neg (by simpa using c1),if_pos (λa4=>(by simpa using c3:¬y2t (l.getD i pa0))<|a4 _<|z1c oo)]
 exact⟨_,rfl,yq0,by rw[he];rfl,(λh=>absurd h (by rw[he];decide)),(((q1.z6 q2 q3 q5 q7 q8 q9).n1 a8).z1 d5)⟩;refine sk<|bn'<|tn<|rg<|z0w U (wi6 oo)<|mv U U<|nl ?_;exact lpE (i+1) (csu U) ⟨(q7.z3 q8 q9 a8),⟨oo,λj hj=>by
  by_cases e:j<i;exact hg j e;obtain rfl:j=i:=by omega
  exact l18.1 (by simpa using c3)⟩⟩ oo
 obtain rfl:i=l.length:=by omega
 have a4:j0a l:=λp d3=>by
  obtain⟨j,hj,rfl⟩:=l31 d3;have:=hg j hj;rwa [List.getD,l10 hj]at this
 refine ex<|te<|te<|xh<|tn<|sq<|sr<|fad U z8p ?_;have I:=I.ext<|q3.n2 q5 q7;refine z0i U I U na4<|nt' U<|kpL (ll5 1 2 3 6 35) (csu U)<|nn<|cd U (λc4=>?_)<|λc4=>?_;refine sr<|z1t (cs:=[_,_,_,_,_]) z0f z9p z0r U ?_;have D:=D.ext<|q3.n2 q5 q7;refine z0j (vs:=[_,_,_,_,_]) U D z3n (λf9 D d6 h0=>?_) (h1:=(by first|(simp[Value.oneCell',S];done)|exact z2i.one<|l.getD i pa0));refine asg U<|nn<|rt<|tr<|rCT results143 U D z3m U ?_;have he:goE q.p pl l=12:=by unfold goE;rw[if_neg c0,if_neg (by simpa using c1),if_neg (λe=>e a4),if_pos (by simpa using c4)]
 exact⟨_,rfl,yq0,by rw[he];rfl,(λh=>absurd h (by rw[he];decide)),(q1.z5 q2 q3 q5 q7 d6)⟩;have c9:q.inn=true:=(by simpa using c4);have b6:=d4.2;rw[if_pos c9]at b6;have f4:q.pes.length<=4096:=b6.2.1;refine sk<|tn<|sr<|fad U z7s<|z0i U I U y0x<|lnS U underlying108<|mv U U<|lnS U underlying108<|z0w U (wi6 oo)<|z1f (m:=0) (c:=(q.pe.2.1+l.length)) (pa0) U z4y y9u U<|λb2 g0 e5 ho a2 h2=>(asg U<|kpL (ll5 1 2 3 6 11) (csu U)<|nn<|sr<|mv U U<|fad U z7s ?_);have I:=I.ext a2;refine z0i U I U y0x ?_;have D:=D.ext<|q3.n3 q5 q7 a2;have hp:=b4.ext<|q1.n5 q2 q3 q5 q7 a2;have O:=ho;refine z2h U ho hp z4y (λb8 d9 ho a3 d0=>?_) (hM:=(by unfold maxLen;simp only[l23];omega)) (hb:=(by simp only[l23];omega));have h3:=a3.size;have I:=I.fr a3 (λZ=>by have:=(O.blk _ Z).1;omega);have D:=D.fr a3 (λZ=>by have:=(O.blk _ Z).1;omega);replace ho:Lw.Own z2i 172 b2 d9 b8 q.pes:=ho;refine mv U U ?_;have hs:=b5.ext<|(q1.n5 q2 q3 q5 q7 a2).step a3<|λk Z a7=>absurd (O.blk k Z).1 oo;refine cl (ev2 U) (mkC func190) (v8c b2 b8 _ q.pes l _ ho hs (λk Z=>by have:=hv k Z;omega) oo oo) U ?_;rintro e8 g1 ⟨e7,ho,a1,a6⟩;have I:=I.fr a6 (λZ=>by have:=a1 _ Z;omega);have D:=D.fr a6 (λZ=>by have:=a1 _ Z;omega);have h4:=a6.size;have f6:=z8b l q.pes;obtain⟨e6,e9,rfl,e3⟩:=ho.sl.form;refine asg U<|kpL (ll4 1 3 6 11) (csu U)<|nn<|sq<|sr<|mv U U<|lnS U underlying108<|gt' U<|nn<|cd U (λc5=>?_)<|λc5=>?_;refine sr<|z1t (cs:=[_,_,_,_,_]) z0f z9p z0r U ?_;refine z0j (vs:=[_,_,_,_,_]) U D z3n (λg4 D d7 h5=>?_) (h1:=(by first|(simp[Value.oneCell',S];done)|exact z2i.one<|l.getD i pa0));refine asg U<|nn<|rt<|tr<|rCT results143 U D z3m U ?_;have he:goE q.p pl l=3:=by unfold goE;rw[if_neg c0,if_neg (by simpa using c1),if_neg (λe=>e a4),if_neg (by simpa using c4),if_pos (by show 4096<(z5d q.pes l).length;omega)]
 exact⟨_,rfl,yq0,by rw[he];rfl,(λh=>absurd h (by rw[he];decide)),((((q1.n5 q2 q3 q5 q7 a2).step a3<|λk Z a7=>absurd (O.blk k Z).1 oo).step a6<|λk Z a7=>absurd (a1 k Z) oo).sp d7)⟩;refine sk<|tn<|sr<|mv U U<|fad U z5y<|z3k U I U sz3<|λe0 I b0 h6=>?_;replace I:Blk e0 g3 _ [_,_,_,_,_]:=I;refine nn<|sr<|mv U U ?_;have ho:=ho.fr b0 (by first|exact z9m ho oo|simp[z0v]<;>omega);refine cl (ev1 U) (mkC func191) (y0p _ _ _ ho.sl oo) U ?_;rintro _ g5 ⟨b9,rfl,a0,a9⟩;have h7:=a9.size;refine fad U z7s ?_;have I:=I.ext a9;refine z3k U I U j3c<|λe1 I b1 h8=>?_;replace I:Blk e1 g3 _ [_,_,_,_,_]:=I;refine nn<|sr<|z0l U I z3m ?_;have D:=((D.fr b0).ext a9).fr b1;refine z0j (vs:=[_,_,_,_,_]) U D z3n (λg7 D b7 h9=>?_) (h1:=(by first|(simp[Value.oneCell',S];done)|exact z2i.one<|l.getD i pa0));refine asg U<|nn<|rt<|rCT results143 U D z3m U ?_;have a0:=(a0.fr b1 (by first|exact z9m a0 oo|simp[z0v]<;>omega)).fr b7 (by first|exact z9m a0 oo|simp[z0v]<;>omega);have he:goE q.p pl l=0:=by unfold goE;rw[if_neg c0,if_neg (by simpa using c1),if_neg (λe=>e a4),if_neg (by simpa using c4),if_neg (by show ¬4096<(z5d q.pes l).length;omega)]
 exact⟨_,rfl,⟨q.inn,pl,q.ct,q.nw,(b9,(z5d q.pes l).length,(z5d q.pes l).length),z5d q.pes l⟩,by rw[he],(λ_=>⟨rfl,a0.low oo⟩),(((((((q1.n5 q2 q3 q5 q7 a2).step a3<|λk Z a7=>absurd (O.blk k Z).1 oo).step a6<|λk Z a7=>absurd (a1 k Z) oo).sp b0).next a9).sp b1).sp b7)⟩
theorem x8u:z3z prog 226 3:=⟨λ_=>kr,λ_=>kr⟩
theorem u1p:BuildAt prog 226 [(0,1),(1,1),(2,1)] [(.int .i64 0),(.bool false),(.slice none 0 0)]:=BuildAt.struct underlying226 (λ_=>kr)<|λ_=>kr
theorem x4d:z1r prog 226 3:=λ_=>kr
theorem x3h (w:World):(zeroValue 226).run prog w=.ok (.agg #[(.int .i64 0),(.bool false),(.slice none 0 0)]) w:=kr
theorem y2d (q:YQ)(w0:World)(hp:Sl z2i w0 (slv q.pe) q.pes)(hv:∀k∈z0v (slv q.pe),k<w0.heap.size):Rets prog 146 #[yvv q] w0 λr w'=>∃(q':YQ) (n:Int) (nw:Bool) (s:SV) (ps:List Pa),r=.tuple #[yvv q',.agg #[.int .i64 n,.bool nw,.slice s.1 s.2.1 s.2.2],.int .i64 (mkE q.p)]/\(mkE q.p=0->q'=⟨true,q.pl,q.ct+1,false,sv0,[]⟩/\n=q.ct/\nw=q.nw/\ps=q.pes/\Lw.Own z2i 172 w0.heap.size w' (slv s) ps)/\Fr [] w0 w':=by
 have f9:=z2e hp;have e6:=hp.len_le;unfold maxLen at e6;refine we [(0,yvv q)] func146 U ntmps146 U (.cons U .nil) ?_;have d9:=hp;refine sr<|bx U<|λg1 w1 f5 Z q1 z1=>(al z6m U<|λg2 w2 f6 D q2 z2=>(al x3h U<|λg3 w3 f7 I q3 z3=>(asg U<|nn<|sq<|sr ?_)));have Z:=Z.ext<|q2.n1 q3;refine z0l U Z z3m ?_;have hp:=d9.ext<|q1.n2 q2 q3;refine cl (ev1 U) k5l (y0a q _ hp) U ?_;rintro _ w4 ⟨rfl,q4⟩;have z4:=q4.size;refine asg U<|nn<|sr<|mv U U<|ne' U<|nn<|cd U (λc0=>?_)<|λc0=>?_;refine sr<|z1t (cs:=[_,_,_,_,_]) z0f z9p z0r U ?_;refine z1t (cs:=[_,_,_]) z0f u1p z0r U ?_;refine mv U U ?_;have D:=D.ext<|q3.n1 q4;refine z0j (vs:=[_,_,_,_,_]) U D z3n<|λw5 D q5 z5=>?_;have I:=(I.ext q4).fr q5;refine z0j (vs:=[_,_,_]) U I x4d<|λw6 I q6 z6=>(asg U<|kpL (ll3 2 3 4) (csu U)<|nn<|rt<|tr ?_);have D:=D.fr q6;refine k5h results146 U D z3m U I x8u U ?_;have he:mkE q.p=ynE q.p:=by unfold mkE;rw[if_pos c0]
 exact⟨_,rfl,yq0,0,false,sv0,[],by rw[he];rfl,(λh=>absurd h (by rw[he];exact c0)),(q1.z5 q2 q3 q4 q5 q6)⟩;have e0:=v9h<|l18.1 c0;refine sk<|tn<|sq<|sr<|fad U z8p ?_;have Z:=Z.ext q4;refine z0i U Z U na4<|nt' U<|nn<|cd U (λc1=>?_)<|λc1=>?_;refine sr<|z1t (cs:=[_,_,_,_,_]) z0f z9p z0r U ?_;refine z1t (cs:=[_,_,_]) z0f u1p z0r U ?_;have D:=D.ext<|q3.n1 q4;refine z0j (vs:=[_,_,_,_,_]) U D z3n<|λw7 D q7 z7=>?_;have I:=(I.ext q4).fr q7;refine z0j (vs:=[_,_,_]) U I x4d<|λw8 I q8 z8=>(asg U<|nn<|rt<|tr ?_);have D:=D.fr q8;refine k5h results146 U D z3m U I x8u U ?_;have he:mkE q.p=12:=by unfold mkE;rw[if_neg c0,if_pos (by simpa using c1)]
 exact⟨_,rfl,yq0,0,false,sv0,[],by rw[he];rfl,(λh=>absurd h (by rw[he];decide)),(q1.z5 q2 q3 q4 q7 q8)⟩;have e5:q.inn=true:=(by simpa using c1);have e1:=e0.2;rw[if_pos e5]at e1;have f8:q.pes.length<=4096:=e1.2.1;have f4:0<=q.ct/\q.ct<=2048:=e0.1;refine sk<|tn<|sq<|sr<|fad U z8t<|z0i U Z U na3<|eq' U<|nn<|cd U (λc2=>?_)<|λc2=>?_;refine sr<|z1t (cs:=[_,_,_,_,_]) z0f z9p z0r U ?_;refine z1t (cs:=[_,_,_]) z0f u1p z0r U ?_;have D:=D.ext<|q3.n1 q4;refine z0j (vs:=[_,_,_,_,_]) U D z3n<|λw9 D q9 z9=>?_;have I:=(I.ext q4).fr q9;refine z0j (vs:=[_,_,_]) U I x4d<|λg0 I e2 g7=>(asg U<|nn<|rt<|tr ?_);have D:=D.fr e2;refine k5h results146 U D z3m U I x8u U ?_;have he:mkE q.p=3:=by unfold mkE;rw[if_neg c0,if_neg (by simpa using c1),if_pos c2]
 exact⟨_,rfl,yq0,0,false,sv0,[],by rw[he];rfl,(λh=>absurd h (by rw[he];decide)),(q1.z5 q2 q3 q4 q9 e2)⟩;refine sk<|tn<|sq ?_;have hp:=d9.ext<|q1.n3 q2 q3 q4;intro a h;refine z0h none (λwb w'=>Fr [] wb w') z2s ?_;intro d7 b5;have g8:=b5.size;have hp:=hp.ext b5;have Z:=Z.ext b5;have D:=D.ext<|q3.n2 q4 b5;have I:=I.ext<|q4.n1 b5;have hC:Fr [] d7 d7:=l12 _ _;have d5:=hp;have a0:=Z;have a4:=D;have a5:=I;refine z0c 0 h U z8t U λa h=>z0m 1 h U (λ_ hw=>a0.ext hw) U na3 U λa h=>z0c 2 h U v9t U λa h=>z0m 3 h U (λ_ hw=>a0.ext hw) U na4 U λa h=>z0c 4 h U z7s U λa h=>z0m 5 h U (λ_ hw=>a0.ext hw) U y0x U λa h=>z1u 6 8 kr U ?_ ?_;refine z0n h (z0a U z0f) (mkC func191) (y0p _ _ _ hp oo) ?_;rintro _ e7 ⟨d6,rfl,O,b6⟩ a h;have g9:=b6.size;have Z:=Z.ext b6;have D:=D.ext b6;have I:=I.ext b6;have hC:=hC.next b6;have b4:=λk hk=>(O.blk k hk).2;refine z0b<|z3e (cs:=[_,_,_]) 7 h (z0a U<|z0a U<|z0a U z0f) u1p (z0g U<|z0g U<|z0g U z0r) U U λa h=>z0d 8 U ?_;refine z0u h x3h U λg4 a1 b0 hz a h=>?_;obtain⟨a8,hg⟩:∃g,g=e7.heap.size:=⟨_,rfl⟩;rw[<-hg]at a1 h hz;have a7:g1<a8:=by have:=Z.lt;omega
 have a7:g2<a8:=by have:=D.lt;omega
 have a7:g3<a8:=by have:=I.lt;omega
 have h0:=b0.size;have hp:=hp.ext<|b6.n1 b0;have Z:=Z.ext b0;have D:=D.ext b0;have I:=I.ext b0;have O:=O.ext b0;have hC:=hC.next b0;refine z0b<|z0d 9 U<|z0t h U a1 U x4d λe8 a3 b1 hz a h=>?_;have h1:=b1.size;have hp:=hp.fr b1 (by intro k hk a2;simp at hk;subst hk;have:=hv _ a2;omega);have Z:=Z.fr b1;have D:=D.fr b1;have I:=I.fr b1;have O:=O.fr b1 (by intro k hk a2;simp at hk;subst hk;have d4:=b4 _ a2;have:=O.blk _ a2;omega);have hC:=hC.sp b1;have a1:Blk e8 a8 _ [_,_,_]:=a3;clear a3;refine z0b<|z0q ?_;clear hC d5 a0 a4 a5;refine bk (h.sub (L':=ll4 1 2 3 6)<|csu U)<|tn<|sq ?_;intro a h;refine z0h none (λwb w'=>Fr [g2,g3] wb w') z2s ?_;intro e3 b7;have h2:=b7.size;have Z:=Z.ext b7;have D:=D.ext b7;have I:=I.ext b7;have O:=O.ext b7;have a1:=a1.ext b7;have hC:Fr [g2,g3] e3 e3:=l12 _ _;have a0:=Z;have a4:=D;have a5:=I;have a9:=O;have a6:=a1;refine z0c 0 h U z5y U λa h=>z0m 1 h U (λ_ hw=>a0.fr hw so) U na3 U λa h=>z0c 2 h U z8t U λa h=>z0m 3 h U (λ_ hw=>a0.fr hw so) U na3 U λa h=>z6j 4 h U t13 U λa h=>z3e (cs:=[_,_,_,_,_]) 5 h (z0a U<|z0a U<|z0a U z0f) z9p (z0g U<|z0g U<|z0g U z0r) U U λa h=>z0x 6 h U (λ_ hw=>a6.fr hw so) x8u U λa h=>z0d 7 U ?_;refine z0t h U D U z3n λe9 a3 b8 hz a h=>?_;have h3:=b8.size;have Z:=Z.fr b8;have I:=I.fr b8;have O:=O.fr b8 (by intro k hk a2;simp at hk;subst hk;have d4:=b4 _ a2;have:=O.blk _ a2;omega);have a1:=a1.fr b8;have hC:=hC.sp b8;have D:Blk e9 g2 _ [_,_,_,_,_]:=a3;clear a3;refine z0b<|z0d 8 U<|z0t h U I U x4d λf0 a3 b9 hz a h=>?_;have h4:=b9.size;have Z:=Z.fr b9;have D:=D.fr b9;have O:=O.fr b9 (by intro k hk a2;simp at hk;subst hk;have d4:=b4 _ a2;have:=O.blk _ a2;omega);have a1:=a1.fr b9;have hC:=hC.sp b9;have I:Blk f0 g3 _ [_,_,_]:=a3;clear a3;refine z0b<|z0d 9 U<|z0o h U λa h=>?_;refine z0b<|z0q ?_;clear hC a0 a4 a5 a9 a6;refine bk (h.sub (L':=ll3 2 3 4)<|csu U)<|tn<|rt<|k5h results146 U D z3m U I x8u U ?_;have he:mkE q.p=0:=by unfold mkE;rw[if_neg c0,if_neg (by simpa using c1),if_neg c2]
 exact⟨_,rfl,⟨true,q.pl,q.ct+1,false,sv0,[]⟩,q.ct,q.nw,(d6,q.pes.length,q.pes.length),q.pes,by rw[he];rfl,(λ_=>⟨rfl,rfl,rfl,rfl,O.low oo⟩),((((q1.n6 q2 q3 q4 b5 b6 b0).z1 b1).n1 b7).z2 b8 b9)⟩;refine z0u h x3h U λg5 a1 c9 hz a h=>?_;obtain⟨a8,hg⟩:∃g,g=d7.heap.size:=⟨_,rfl⟩;rw[<-hg]at a1 h hz;have a7:g1<a8:=by have:=Z.lt;omega
 have a7:g2<a8:=by have:=D.lt;omega
 have a7:g3<a8:=by have:=I.lt;omega
 have h5:=c9.size;have hp:=hp.ext c9;have hC:=hC.next c9;refine z0b<|z0d 6 U<|z0n h (z0a U z0f) (mkC func191) (y0p _ _ _ hp oo) ?_;rintro _ g6 ⟨d6,rfl,O,b2⟩ a h;have h6:=b2.size;have hp:=hp.ext b2;have Z:=Z.ext<|c9.n1 b2;have D:=D.ext<|c9.n1 b2;have I:=I.ext<|c9.n1 b2;have a1:=a1.ext b2;have hC:=hC.next b2;have b4:=λk hk=>(O.blk k hk).2;refine z0b<|z3e (cs:=[_,_,_]) 7 h (z0a U<|z0a U<|z0a U z0f) u1p (z0g U<|z0g U<|z0g U z0r) U U λa h=>z0d 9 U ?_;refine z0t h U a1 U x4d λf1 a3 b3 hz a h=>?_;have h7:=b3.size;have hp:=hp.fr b3 (by intro k hk a2;simp at hk;subst hk;have:=hv _ a2;omega);have Z:=Z.fr b3;have D:=D.fr b3;have I:=I.fr b3;have O:=O.fr b3 (by intro k hk a2;simp at hk;subst hk;have d4:=b4 _ a2;have:=O.blk _ a2;omega);have hC:=hC.sp b3;have a1:Blk f1 a8 _ [_,_,_]:=a3;clear a3;refine z0b<|z0q ?_;clear hC d5 a0 a4 a5;refine bk (h.sub (L':=ll4 1 2 3 6)<|csu U)<|tn<|sq ?_;intro a h;refine z0h none (λwb w'=>Fr [g2,g3] wb w') z2s ?_;intro e4 d0;have h8:=d0.size;have Z:=Z.ext d0;have D:=D.ext d0;have I:=I.ext d0;have a1:=a1.ext d0;have O:=O.ext d0;have hC:Fr [g2,g3] e4 e4:=l12 _ _;have a0:=Z;have a4:=D;have a5:=I;have a6:=a1;have a9:=O;refine z0c 0 h U z5y U λa h=>z0m 1 h U (λ_ hw=>a0.fr hw so) U na3 U λa h=>z0c 2 h U z8t U λa h=>z0m 3 h U (λ_ hw=>a0.fr hw so) U na3 U λa h=>z6j 4 h U t13 U λa h=>z3e (cs:=[_,_,_,_,_]) 5 h (z0a U<|z0a U<|z0a U z0f) z9p (z0g U<|z0g U<|z0g U z0r) U U λa h=>z0x 6 h U (λ_ hw=>a6.fr hw so) x8u U λa h=>z0d 7 U ?_;refine z0t h U D U z3n λf2 a3 d1 hz a h=>?_;have h9:=d1.size;have Z:=Z.fr d1;have I:=I.fr d1;have a1:=a1.fr d1;have O:=O.fr d1 (by intro k hk a2;simp at hk;subst hk;have d4:=b4 _ a2;have:=O.blk _ a2;omega);have hC:=hC.sp d1;have D:Blk f2 g2 _ [_,_,_,_,_]:=a3;clear a3;refine z0b<|z0d 8 U<|z0t h U I U x4d λf3 a3 d3 hz a h=>?_;have i0:=d3.size;have Z:=Z.fr d3;have D:=D.fr d3;have a1:=a1.fr d3;have O:=O.fr d3 (by intro k hk a2;simp at hk;subst hk;have d4:=b4 _ a2;have:=O.blk _ a2;omega);have hC:=hC.sp d3;have I:Blk f3 g3 _ [_,_,_]:=a3;clear a3;refine z0b<|z0d 9 U<|z0o h U λa h=>?_;refine z0b<|z0q ?_;clear hC a0 a4 a5 a6 a9;refine bk (h.sub (L':=ll3 2 3 4)<|csu U)<|tn<|rt<|k5h results146 U D z3m U I x8u U ?_;have he:mkE q.p=0:=by unfold mkE;rw[if_neg c0,if_neg (by simpa using c1),if_neg c2]
 exact⟨_,rfl,⟨true,q.pl,q.ct+1,false,sv0,[]⟩,q.ct,q.nw,(d6,q.pes.length,q.pes.length),q.pes,by rw[he];rfl,(λ_=>⟨rfl,rfl,rfl,rfl,O.low oo⟩),((((q1.n6 q2 q3 q4 b5 c9 b2).z1 b3).n1 d0).z2 d1 d3)⟩
theorem x3f (q:YQ)(d:Int)(w0:World)(hp:Sl z2i w0 (slv q.pe) q.pes):Rets prog 106 #[yvv q,.int .u8 d] w0 λr w'=>∃q':YQ,r=.tuple #[yvv q',.int .i64 (enE q.p d)]/\(enE q.p d=0->q'=⟨true,if d=1 then 179 else -13,q.ct,true,sv0,[]⟩)/\Fr [] w0 w':=by
 have a4:=z2e hp;have a1:=hp.len_le;unfold maxLen at a1;refine we [(0,yvv q),(1,.int .u8 d)] func106 U ntmps106 U (.c2 U U) ?_;have a0:=hp;refine sr<|bx U<|λg2 w1 a2 I q1 z1=>(al z6m U<|λg4 w2 a3 D q2 z2=>(asg U<|nn<|sq<|sr ?_));have I:=I.ext q2;refine z0l U I z3m ?_;have hp:=a0.ext<|q1.n1 q2;refine cl (ev1 U) k5l (y0a q _ hp) U ?_;rintro _ w3 ⟨rfl,Z⟩;refine asg U<|nn<|sr<|mv U U<|ne' U<|nn<|cd U (λc0=>?_)<|λc0=>?_;refine sr<|z1t (cs:=[_,_,_,_,_]) z0f z9p z0r U ?_;refine mv U U ?_;have D:=D.ext Z;refine z0j (vs:=[_,_,_,_,_]) U D z3n<|λw4 D q4 z4=>(asg U<|kpL (ll2 4 5) (csu U)<|nn<|rt<|tr<|rCT results106 U D z3m U ?_);have O:enE q.p d=ynE q.p:=by unfold enE;rw[if_pos c0]
 exact⟨_,rfl,yq0,by rw[O];rfl,(λh=>absurd h (by rw[O];exact c0)),(q1.z3 q2 Z q4)⟩;refine sk<|tn<|sq<|sr<|mv U U<|cl (ev1 U) (mkC func137) (y5j _ _) U ?_;rintro _ w5 ⟨rfl,q5⟩;refine nt' U<|nn<|cd U (λc1=>?_)<|λc1=>?_;refine sr<|z1t (cs:=[_,_,_,_,_]) z0f z9p z0r U ?_;have D:=D.ext<|Z.n1 q5;refine z0j (vs:=[_,_,_,_,_]) U D z3n<|λw6 D q6 z6=>(asg U<|nn<|rt<|tr<|rCT results106 U D z3m U ?_);have O:enE q.p d=1:=by unfold enE;rw[if_neg c0,if_pos (by simpa using c1)]
 exact⟨_,rfl,yq0,by rw[O];rfl,(λh=>absurd h (by rw[O];decide)),(q1.z4 q2 Z q5 q6)⟩;refine sk<|tn<|sq<|sr<|fad U z8p ?_;have I:=I.ext<|Z.n1 q5;refine z0i U I U na4<|nn<|cd U (λc2=>?_)<|λc2=>?_;refine sr<|z1t (cs:=[_,_,_,_,_]) z0f z9p z0r U ?_;have D:=D.ext<|Z.n1 q5;refine z0j (vs:=[_,_,_,_,_]) U D z3n<|λw7 D q7 z7=>(asg U<|nn<|rt<|tr<|rCT results106 U D z3m U ?_);have O:enE q.p d=12:=by unfold enE;rw[if_neg c0,if_neg (by simpa using c1),if_pos (by simpa using c2)]
 exact⟨_,rfl,yq0,by rw[O];rfl,(λh=>absurd h (by rw[O];decide)),(q1.z4 q2 Z q5 q7)⟩;refine sk<|tn<|sr<|asg U<|nn<|jn (ι:=Unit) (ll2 2 4) (λ_j=>[(7,.int .i64 (if d=1 then 179 else -13))]) (λ_j w'=>Fr [] w5 w') (csu U) ?_ ?_;refine sr<|mv U U<|eq' U<|nn<|cd U (λc3=>?_)<|λc3=>?_;refine rg<|asg U<|nl ?_;exact jE (()) (.c3 U U<|congrArg (λq=>some<|Value.int .i64 q) (by first|exact(if_pos c3).symm|exact(if_neg c3).symm))<|l12 _ _;refine sk ?_;exact jE (()) (.c3 U U<|congrArg (λq=>some<|Value.int .i64 q) (by first|exact(if_pos c3).symm|exact(if_neg c3).symm))<|l12 _ _;rintro _j w8 q8;refine kpC (ll3 2 4 7) (csu U)<|sr<|mv U U<|fad U z8t ?_;have I:=I.ext q8;refine z0i U I U na3<|z1t (cs:=[_,_,_,_,_]) (ev4 U) z9p (z0g U<|z0g U<|z0g U<|z0g U z0r) U ?_;have D:=D.ext<|Z.n2 q5 q8;refine z0j (vs:=[_,_,_,_,_]) U D z3n<|λw9 D q9 z9=>(asg U<|kpL (ll2 4 5) (csu U)<|nn<|rt<|rCT results106 U D z3m U ?_);have O:enE q.p d=0:=by unfold enE;rw[if_neg c0,if_neg (by simpa using c1),if_neg (by simpa using c2)]
 exact⟨_,rfl,⟨true,if d=1 then 179 else -13,q.ct,true,sv0,[]⟩,by rw[O];rfl,(λ_=>rfl),(q1.z5 q2 Z q5 q8 q9)⟩
end Go.Proofs.YtkafbfjmcigaiaaGreatDoor
namespace Go.G21
open Go.Lw
def nd (T:Tb)(y:Nat)(n:Int):List LId:=z5p<|lpA T y n.toNat
def InM (ms:List Int)(i:LId):Prop:=i.n<ms.getD (i.y-1).toNat 0
def Has (T:Tb):Prop:=T.length=6/\∀y,y<6->∀n,n<z3h T y->∀i∈z5p (lpA T y n),z5l T i
theorem Has.nm {T:Tb}(h:Has T){y n:Nat}(hy:y<6)(hn:n<z3h T y){i:LId}(hi:i∈z5p (lpA T y n)):∃O Z:Nat,O<6/\Z<z3h T O/\i=⟨(O:Int)+1,(Z:Int)⟩:=by
 obtain⟨h1,h2,h3,h4⟩:=h.2 y hy n hn i hi;have:=h.1;obtain⟨I,D⟩:=i;simp only at h1 h2 h3 h4;refine⟨(I-1).toNat,D.toNat,oo,oo,?_⟩;rw[show (((I-1).toNat:Nat):Int)+1=I by omega,show ((D.toNat:Nat):Int)=D by omega]
theorem y8j {ms:List Int}{y n:Nat}:InM ms ⟨(y:Int)+1,(n:Int)⟩↔(n:Int)<ms.getD y 0:=by
 unfold InM;show (n:Int)<ms.getD ((y:Int)+1-1).toNat 0↔_;rw[show ((y:Int)+1-1).toNat=y by omega]
theorem v2c:∀(l:List Int) (j:Nat) (v:Int),j<l.length->(l.set j v).sum=l.sum-l.getD j 0+v
 | a::l,0,v,_=>by simp;omega
 | a::l,j+1,v,h=>by
  have:=v2c l j v (by simpa using h)
  simp only[List.set_cons_succ,List.sum_cons,l63]at this ⊢;omega
theorem x0f:∀(l:List Int) (T:Tb),l.length=T.length->(∀i,i<l.length->l.getD i 0<=(z3h T i:Int))->l.sum<=(z4r T:Int)/\(l.sum=(z4r T:Int)->∀i,i<l.length->l.getD i 0=(z3h T i:Int))/\((∀i,i<l.length->l.getD i 0=(z3h T i:Int))->l.sum=(z4r T:Int))
 | [],[],_,_=>⟨by simp[z4r],λ_ i hi=>by simp at hi,λ_=>by simp[z4r]⟩
 | [],_::_,h,_=>by simp at h
 | _::_,[],h,_=>by simp at h
 | a::l,r::T,h,hb=>by
  obtain⟨h1,I,O⟩:=x0f l T (by simpa using h) (λi hi=>by simpa[z3h] using hb (i+1) (by simpa using hi))
  have h0:a<=(r.length:Int):=by simpa[z3h] using hb 0 sp0
  have e:(z4r (r::T):Int)=(r.length:Int)+(z4r T:Int):=by simp[z4r]
  rw[List.sum_cons,e]
  refine⟨oo,λhs i hi=>?_,λD=>?_⟩
  ·cases i with
   | zero=>show a=(r.length:Int);omega
   | succ i=>simpa[z3h] using I oo i (by simpa using hi)
  have Z:a=(r.length:Int):=by simpa[z3h] using D 0 sp0
  have e1:=O (λi hi=>by simpa[z3h] using D (i+1) (by simpa using hi))
  omega
structure FstI (T:Tb) (ms ts:List Int) (N:Nat):Prop where
  lm:ms.length=6
  lt:ts.length=6
  mb:∀y,y<6->0<=ms.getD y 0/\ms.getD y 0<=(z3h T y:Int)
  tb:∀y,y<6->0<=ts.getD y 0
  td:∀y,y<6->∀k:Nat,(k:Int)<ts.getD y 0->k<(nd T y<|ms.getD y 0).length->InM ms ((nd T y<|ms.getD y 0).getD k id0)
  sum:ms.sum=(N:Int)
  rk:∃rk:LId->Nat,(∀y,y<6->∀n:Nat,(n:Int)<ms.getD y 0->rk ⟨(y:Int)+1,(n:Int)⟩<N/\∀i∈z5p (lpA T y n),InM ms i/\rk i<rk ⟨(y:Int)+1,(n:Int)⟩)/\∀y,y<6->∀n m:Nat,n<m->(m:Int)<ms.getD y 0->rk ⟨(y:Int)+1,(n:Int)⟩<rk ⟨(y:Int)+1,(m:Int)⟩
theorem k1w (y:Nat):(List.replicate 6 (0:Int)).getD y 0=0:=by rw[List.getD,l67];split<;>rfl
theorem FstI.init {T:Tb}:FstI T (List.replicate 6 0) (List.replicate 6 0) 0:=
 ⟨rfl,rfl,λy _=>by rw[k1w];omega,λy _=>by rw[k1w];omega,λy _ k I=>by rw[k1w]at I;omega,rfl,λ_=>0,λy _ n D=>by rw[k1w]at D;omega,λy _ n m _ D=>by rw[k1w]at D;omega⟩
theorem z5j {l:List Int}{i:Nat}(h:i<l.length)(v:Int)(j:Nat):(l.set i v).getD j 0=if i=j then v else l.getD j 0:=by
 rw[List.getD,List.getD,l123];split;rename_i e;subst e;first|rfl|(rw[if_pos h];rfl)
 rfl
variable {T:Tb} {ms ts:List Int} {N:Nat}
theorem FstI.there (h:FstI T ms ts N){y:Nat}(I:y<6)(O:InM ms ((nd T y<|ms.getD y 0).getD (ts.getD y 0).toNat id0)):FstI T ms (ts.set y<|ts.getD y 0+1) N:=by
 have hl:y<ts.length:=by rw[h.lt];exact I
 refine⟨h.lm,by rw[l19];exact h.lt,h.mb,λz hz=>?_,λz hz k Z D=>?_,h.sum,h.rk⟩;rw[z5j hl];split;have:=h.tb y I;omega;exact h.tb z hz;rw[z5j hl]at Z;split at Z;rename_i e;subst e;have:=h.tb y I;by_cases e:k=(ts.getD y 0).toNat;rw[e];exact O;exact h.td y I k oo D;exact h.td z hz k Z D
theorem FstI.push (h:FstI T ms ts N)(hH:Has T){y:Nat}(hy:y<6)(a8:ms.getD y 0<(z3h T y:Int))(a5:((nd T y<|ms.getD y 0).length:Int)<=ts.getD y 0):FstI T (ms.set y<|ms.getD y 0+1) (ts.set y 0) (N+1):=by
 have I:y<ms.length:=by rw[h.lm];exact hy
 have a0:y<ts.length:=by rw[h.lt];exact hy
 have h0:=h.mb y hy;obtain⟨m,hm⟩:=Int.eq_ofNat_of_zero_le h0.1;rw[hm]at a8 a5 ⊢;have a4:∀i,InM ms i->InM (ms.set y<|(m:Int)+1) i:=λi hi=>by
  unfold InM at hi ⊢;rw[z5j I];split;rename_i e;rw[<-e,hm]at hi;omega;exact hi
 have a3:∀i∈z5p (lpA T y m),InM ms i:=λi hi=>by
  obtain⟨k,O,rfl⟩:=l31 hi;have e:nd T y (ms.getD y 0)=z5p (lpA T y m):=by unfold nd;rw[hm,l96]
  have:=h.td y hy k (by
   have e2:((nd T y (m:Int)).length:Int)<=ts.getD y 0:=a5;rw[<-hm,e]at e2;omega) (by rw[e];exact O)
  rw[e,List.getD,l10 O]at this;exact this
 obtain⟨rk,h1,h2⟩:=h.rk;have D:∀i,InM ms i->¬i=(⟨(y:Int)+1,(m:Int)⟩:LId):=λi hi e=>by
  subst e;rw[y8j,hm]at hi;omega
 refine⟨by rw[l19];exact h.lm,by rw[l19];exact h.lt,λz hz=>?_,λz hz=>?_,λz hz k O a7=>?_,?_,λi=>if i=⟨(y:Int)+1,(m:Int)⟩ then N else rk i,λz hz n hn=>?_,λz hz n k a9 O=>?_⟩;rw[z5j I];split;rename_i e;subst e;omega;exact h.mb z hz;rw[z5j a0];split;omega;exact h.tb z hz;rw[z5j a0]at O;split at O;omega;rename_i e;rw[z5j I,if_neg e]at a7 ⊢;exact a4 _<|h.td z hz k O a7;rw[v2c _ _ _ I,h.sum,hm];omega;rw[z5j I]at hn;simp only;by_cases e:z=y/\n=m;obtain⟨rfl,rfl⟩:=e;rw[if_pos U];refine⟨oo,λi hi=>⟨a4 i<|a3 i hi,?_⟩⟩;rw[if_neg (D i<|a3 i hi)];obtain⟨y',n',b0,_,rfl⟩:=hH.nm hy oo hi;exact(h1 y' b0 n'<|y8j.1<|a3 _ hi).1;have Z:(n:Int)<ms.getD z 0:=by
  split at hn;rename_i e2;subst e2;have:n≠m:=λe3=>e ⟨rfl,e3⟩;rw[hm];omega;exact hn
 rw[if_neg (D _<|y8j.2 Z)];obtain⟨a1,a2⟩:=h1 z hz n Z;refine⟨oo,λi hi=>?_⟩;obtain⟨b1,b2⟩:=a2 i hi;rw[if_neg (D i b1)];exact⟨a4 i b1,b2⟩;rw[z5j I]at O;simp only;have Z:(n:Int)<ms.getD z 0:=by
  split at O;rename_i e2;subst e2;rw[hm];omega;omega
 rw[if_neg (D _<|y8j.2 Z)];by_cases e:z=y/\k=m;obtain⟨rfl,rfl⟩:=e;rw[if_pos U];exact(h1 z hz n Z).1;have a6:(k:Int)<ms.getD z 0:=by
  split at O;rename_i e2;subst e2;have:k≠m:=λe3=>e ⟨rfl,e3⟩;rw[hm];omega;exact O
 rw[if_neg (D _<|y8j.2 a6)];exact h2 z hz n k a9 a6
theorem FstI.leI (h:FstI T ms ts N)(D:T.length=6):N<=z4r T:=by
 have:=(x0f ms T (by rw[h.lm,D])<|λi hi=>(h.mb i (by rw[<-h.lm];exact hi)).2).1;rw[h.sum]at this;omega
def v6s (T:Tb)(ms:List Int)(y:Nat):Prop:=ms.getD y 0=(z3h T y:Int)\/(ms.getD y 0<(z3h T y:Int)/\∃i∈nd T y (ms.getD y 0),¬InM ms i)
theorem FstI.done (h:FstI T ms ts N)(hH:Has T)(hs:∀y,y<6->v6s T ms y)(ho:∃rk,Ranked T rk):N=z4r T:=by
 obtain⟨rk,hr⟩:=ho;have a3:∀k y,y<6->ms.getD y 0<(z3h T y:Int)->rk ⟨(y:Int)+1,ms.getD y 0⟩=k->False:=λk=>by
  induction k using Nat.strongRecOn with
  | ind k ih=>
   intro y hy a0 hk;obtain⟨m,hm⟩:=Int.eq_ofNat_of_zero_le (h.mb y hy).1;rcases hs y hy with e|⟨_,i,hi,hn⟩
   omega;have O:i∈z5p (lpA T y m):=by unfold nd at hi;rw[hm,l96]at hi;exact hi
   rw[hm]at a0 hk;obtain⟨I,n',D,a2,rfl⟩:=hH.nm hy oo O;rw[y8j]at hn;obtain⟨m',a1⟩:=Int.eq_ofNat_of_zero_le (h.mb I D).1;have h1:=hr.need y hy m oo _ O;have h2:rk ⟨(I:Int)+1,(m':Int)⟩<=rk ⟨(I:Int)+1,(n':Int)⟩:=by
    rcases l119 m' n' with h3|h3
    exact Nat.le_of_lt<|hr.mono I D m' n' h3 a2;have:m'=n':=by omega
    rw[this];exact l20 _
   refine ih (rk ⟨(I:Int)+1,(m':Int)⟩) oo I D oo (by rw[a1])
 have:=(x0f ms T (by rw[h.lm,hH.1])<|λi hi=>(h.mb i (by rw[<-h.lm];exact hi)).2).2.2 (λi hi=>by
  have Z:i<6:=by rw[<-h.lm];exact hi
  have h1:=(h.mb i Z).2;rcases Decidable.em (ms.getD i 0<(z3h T i:Int)) with h2|h2
  exact(a3 _ i Z h2 U).elim;omega)
 rw[h.sum]at this;omega
theorem FstI.ord (h:FstI T ms ts N)(hH:Has T)(hN:N=z4r T):∃rk,Ranked T rk:=by
 have D:=(x0f ms T (by rw[h.lm,hH.1])<|λi hi=>(h.mb i (by rw[<-h.lm];exact hi)).2).2.1 (by rw[h.sum,hN]);obtain⟨rk,Z,h2⟩:=h.rk;refine⟨rk,⟨λy I n hn i hi=>?_,λy I n m O hm=>?_⟩⟩;exact((Z y I n (by rw[D y (by rw[h.lm];exact I)];omega)).2 i hi).2;exact h2 y I n m O (by rw[D y (by rw[h.lm];exact I)];omega)
end Go.G21
namespace Go.G21
open Go.Lw
def StN (W:Nat)(s:Lst)(i:LId):Prop:=match s with
  | none=>False
  | some (y,f)=>i.y=y/\(f:Int)<=i.n/\i.n<((f+2*W:Nat):Int)
instance (W:Nat) (s:Lst) (i:LId):Decidable (StN W s i):=by unfold StN;split<;>infer_instance
end Go.G21
namespace Go.G21
open Go.Lw
end Go.G21
namespace Go.G21
open Go.Lw
theorem v8q (ts:List TQ)(y:Nat):(z2o ts).getD y []=(ts.getD y tq0).2.map LpQ.p:=by
 rcases l119 y ts.length with h|h
 exact v6m (λp:TQ=>p.2.map LpQ.p) ts y tq0 [] h;rw[List.getD,l34 (by simpa[z2o] using h),List.getD,l34 h];rfl
theorem z3x (ts:List TQ)(y:Nat):z3h (z2o ts) y=(ts.getD y tq0).2.length:=by
 unfold z3h;rw[v8q,l15]
theorem y3s (ts:List TQ)(y n:Nat):lpA (z2o ts) y n=((ts.getD y tq0).2.getD n lq0).p:=by
 unfold lpA;rw[v8q];generalize (ts.getD y tq0).2=l;rw[List.getD,l24,List.getD];cases l[n]?<;>rfl
theorem z2l {ts:List TQ}{i:LId}:z5l (z2o ts) i↔1<=i.y/\i.y<=(ts.length:Int)/\0<=i.n/\i.n<((ts.getD (i.y-1).toNat tq0).2.length:Int):=by
 unfold z5l;rw[z3x];simp only[z2o,l15]
theorem z7c {w:World}{ts:List TQ}(h:TabAt w ts)(y:Nat):(ts.getD y tq0).1.2.1=(ts.getD y tq0).2.length:=by
 rcases l119 y ts.length with e|e
 exact z2e (h _<|z1c e).1;rw[List.getD,l34 e];rfl
theorem z9i {w:World}{ts:List TQ}(h:TabAt w ts){y n:Nat}(D:y<ts.length)(hn:n<(ts.getD y tq0).2.length):LpAt w ((ts.getD y tq0).2.getD n lq0):=(h _<|z1c D).2 _<|z1c hn
theorem y1p (ts:List TQ):(z2o ts).length=ts.length:=by simp[z2o]
def y0w (T:Tb)(y n:Nat):List LId:=(T.take y).flatMap v4f++((T.getD y []).take n).flatMap Lp.th
theorem v8m (T:Tb):y0w T 0 0=[]:=by simp[y0w]
theorem x3y {T:Tb}{y n:Nat}(h:n<z3h T y):y0w T y (n+1)=y0w T y n++(lpA T y n).th:=by
 unfold y0w lpA;have D:n<(T.getD y []).length:=h;rw[x4l Lp.th _ n lq0.p D,l14]
theorem v8x {T:Tb}{y:Nat}(h:y<T.length):y0w T (y+1) 0=y0w T y (z3h T y):=by
 unfold y0w z3h;rw[x4l v4f _ y [] h,l93,l38];simp[v4f]
theorem u3t {T:Tb}{y:Nat}(h:T.length<=y):y0w T y 0=y1j T:=by
 unfold y0w y1j;rw[l86 h];simp
theorem u6y {T:Tb}{y n:Nat}(D:y<T.length)(i:LId):(y0w T y n).count i<=(y1j T).count i:=by
 have I:y1j T=(T.take y).flatMap v4f++(T.drop y).flatMap v4f:=by unfold y1j;rw[<-l42,l25]
 have O:T.drop y=T.getD y []::T.drop (y+1):=by
  rw[l32 D,List.getD,l10 D];rfl
 have Z:v4f (T.getD y [])=((T.getD y []).take n).flatMap Lp.th++((T.getD y []).drop n).flatMap Lp.th:=by
  unfold v4f;rw[<-l42,l25]
 rw[I,O,l36,Z];unfold y0w;simp only[l21];omega
theorem j5v {T:Tb}{y n k:Nat}(Z:y<T.length)(hn:n<z3h T y)(D:k<(lpA T y n).th.length):(y0w T y n++(lpA T y n).th.take k).count ((lpA T y n).th.getD k id0)+1<=(y1j T).count ((lpA T y n).th.getD k id0):=by
 have h:=u6y (n:=n+1) Z<|(lpA T y n).th.getD k id0
 rw[x3y hn]at h
 generalize lpA T y n=l at *
 generalize y0w T y n=u at *
 have I:l.th=l.th.take k++l.th.getD k id0::l.th.drop (k+1):=by
  conv=>lhs;rw[<-l25 k l.th,l32 D]
  rw[List.getD,l10 D];rfl
 have O:=congrArg (List.count<|l.th.getD k id0) I
 rw[l21,List.count_cons_self]at O
 rw[l21]at h ⊢
 omega
def x1p (p:List LId)(i:LId):Value:=.int .i64 ((p.count i:Nat):Int)
theorem y9w (p:List LId)(k:LId):(λk'=>if k'=k then Value.int .i64 (((p.count k:Nat):Int)+1) else x1p p k')=x1p (p++[k]):=by
 funext k';unfold x1p;rw[l21,l98];by_cases h:k'=k;subst h;rw[if_pos U,if_pos sp0];rfl;rw[if_neg h,if_neg (by simpa using λe=>h e.symm),Nat.add_zero]
theorem z6f {α:Type}{l:List α}{k:Nat}(d:α)(h:k<l.length):l.take (k+1)=l.take k++[l.getD k d]:=by
 rw[l54,l10 h,List.getD,l10 h];rfl
structure TabV (T:Tb):Prop where
  ok:TabOk T
  thr:∀i,(y1j T).count i<=1
theorem thq (ts:List TQ)(y n:Nat):(lpA (z2o ts) y n).th=((ts.getD y tq0).2.getD n lq0).ths:=by rw[y3s]
theorem y8w {ts:List TQ}{y n:Nat}(h:n<(ts.getD y tq0).2.length):y0w (z2o ts) y (n+1)=y0w (z2o ts) y n++((ts.getD y tq0).2.getD n lq0).ths:=by
 rw[x3y (by rw[z3x];exact h),thq]
theorem y8y {ts:List TQ}{y:Nat}(h:y<ts.length):y0w (z2o ts) (y+1) 0=y0w (z2o ts) y (ts.getD y tq0).2.length:=by
 rw[v8x (by rw[y1p];exact h),z3x]
theorem v2l {ts:List TQ}{y n k:Nat}(D:∀i,(y1j<|z2o ts).count i<=1)(O:y<ts.length)(hn:n<(ts.getD y tq0).2.length)(I:k<((ts.getD y tq0).2.getD n lq0).ths.length) :
    ((y0w (z2o ts) y n++((ts.getD y tq0).2.getD n lq0).ths.take k++[((ts.getD y tq0).2.getD n lq0).ths.getD k id0]).count<|((ts.getD y tq0).2.getD n lq0).ths.getD k id0)<=1:=by
  have h:=j5v (T:=z2o ts) (n:=n) (k:=k) (by rw[y1p];exact O) (by rw[z3x];exact hn) (by rw[thq];exact I)
  rw[thq]at h
  have Z:=D<|((ts.getD y tq0).2.getD n lq0).ths.getD k id0
  rw[l21,l98,if_pos sp0]
  omega
def j1e (ts:List TQ)(i:Nat):Nat:=((ts.take i).map λp:TQ=>p.2.length).sum
theorem u0j {ts:List TQ}{i:Nat}(h:i<ts.length):j1e ts (i+1)=j1e ts i+(ts.getD i tq0).2.length:=by
 unfold j1e;rw[z6f tq0 h,l30,List.sum_append];simp
theorem v0k (ts:List TQ):z4r (z2o ts)=(ts.map λp:TQ=>p.2.length).sum:=by
 unfold z4r z2o;rw[l81];congr 1;apply l107;intro p _;simp
theorem j3g (ts:List TQ)(i:Nat):j1e ts i<=z4r (z2o ts):=by
 rw[v0k]
 conv=>rhs;rw[<-l25 i ts,l30,List.sum_append]
 unfold j1e;omega
theorem u8s (ts:List TQ):j1e ts ts.length=z4r (z2o ts):=by
 unfold j1e;rw[l38,v0k]
theorem j8k {q:LpQ}{n:Nat}(h:n<q.ths.length):(z5p q.p).getD n id0=q.ths.getD n id0:=by
 show (q.ths++q.pas.map Pa.id).getD n id0=_;simp only[List.getD,l40 h]
theorem j7d {q:LpQ}{n:Nat}(h:q.ths.length<=n)(I:n<(z5p q.p).length):(z5p q.p).getD n id0=(q.pas.getD (n-q.ths.length) pa0).id:=by
 have D:n-q.ths.length<q.pas.length:=by
  have:(z5p q.p).length=q.ths.length+q.pas.length:=by simp[z5p]
  omega
 show (q.ths++q.pas.map Pa.id).getD n id0=_;simp only[List.getD,l29 h,l24,l10 D];rfl
theorem v0l (q:LpQ):(z5p q.p).length=q.ths.length+q.pas.length:=by simp[z5p]
theorem TabV.has {T:Tb}(h:TabV T):Has T:=⟨h.ok.six,λy I n D i hi=>(h.ok.rts y I n D).1.2.2.1 i hi⟩
end Go.G21
namespace Go.Lw
open Go.RowKit
def MapZ {κ:Type}[DecidableEq κ](V:κ->Value)(w:World)(g:Nat)(z:Value)(f:κ->Value):Prop:=
  ∃(es:Array MapEntry) (c:Nat) (m:List (κ×Value)),w.heap[g]?=some (.map es c)/\es.toList.map (λe=>(e.key,e.val))=m.map (λp=>(V p.1,p.2))/\(∀k,(z2u m k).getD z=f k)/\(es.toList.map (·.born)).Nodup/\∀e∈es.toList,e.born<c
def MapE {κ:Type}[DecidableEq κ](V:κ->Value)(w:World)(g:Nat)(z:Value)(f:κ->Value)(k:κ)(st:Nat):Prop:=
  ∃(es:Array MapEntry) (c:Nat) (m:List (κ×Value)) (j:Nat),w.heap[g]?=some (.map es c)/\es.toList.map (λe=>(e.key,e.val))=m.map (λp=>(V p.1,p.2))/\(∀k,(z2u m k).getD z=f k)/\(es.toList.map (·.born)).Nodup/\(∀e∈es.toList,e.born<c)/\(m.map (·.1)).findIdx? (λx=>decide (k=x))=some j/\(es.toList[j]?).map (·.born)=some st
section
variable {κ:Type} [DecidableEq κ] {V:κ->Value} {P:Program} {K:TypeId}
theorem MapZ.fr {w w':World}{g:Nat}{z:Value}{f:κ->Value}{S:List Nat}(h:MapZ V w g z f)(hf:Fr S w w')(hn:∀k∈S,k∉[g]:=by simp[z0v]<;>omega):MapZ V w' g z f:=by
 obtain⟨I,c,m,D,O⟩:=h;exact⟨I,c,m,(hf.block g (l16.1 D).1<|λh=>hn g h sp0).trans D,O⟩
theorem MapZ.ext {w w':World}{g:Nat}{z:Value}{f:κ->Value}(h:MapZ V w g z f)(hf:Fr [] w w'):MapZ V w' g z f:=h.fr hf sp0
theorem MapZ.lt {w:World}{g:Nat}{z:Value}{f:κ->Value}(h:MapZ V w g z f):g<w.heap.size:=let ⟨_,_,_,h1,_⟩:=h;(l16.1 h1).1
theorem MapZ.ne_blk {w:World}{g D T:Nat}{z:Value}{f:κ->Value}{cs:List Value}(h:MapZ V w g z f)(I:Blk w D T cs):g≠D:=by
 rintro rfl;obtain⟨_,_,_,O,_⟩:=h;unfold Blk at I;rw[I]at O;cases O
theorem MapE.map {w:World}{g st:Nat}{z:Value}{f:κ->Value}{k:κ}(h:MapE V w g z f k st):MapZ V w g z f:=
 let ⟨es,c,m,_,h1,h2,h3,h4,h5,_⟩:=h;⟨es,c,m,h1,h2,h3,h4,h5⟩
theorem v3j {l:List MapEntry}(hn:(l.map (·.born)).Nodup){j st:Nat}(h:(l[j]?).map (·.born)=some st):l.findIdx? (λe=>((e.born:Nat):Int) == ((st:Nat):Int))=some j:=by
 induction l generalizing j with
 | nil=>simp at h
 | cons a r ih=>
  simp only[l28,l112]at hn;cases j with
  | zero=>simp at h;subst h;simp[l61]
  | succ j=>
   simp only[List.getElem?_cons_succ]at h;obtain⟨I,he,hs⟩:=Option.map_eq_some_iff.1 h;have D:a.born≠st:=λO=>hn.1<|l55.2 ⟨I,List.mem_of_getElem? he,hs.trans O.symm⟩;have Z:(((a.born:Nat):Int) == ((st:Nat):Int))=false:=by
    simp only[beq_eq_false_iff_ne,ne_eq,Int.natCast_inj];exact D
   rw[l61,Z];simp[ih hn.2 h]
theorem x7f {w:World}{g:Nat}{z:Value}{f:κ->Value}{t E:TypeId}(h:MapZ V w g z f)(hk:KeyLaw P K V)(hu:P.underlying t=some (.map K E))(hz:(zeroValue E).run P w=.ok z w)(k:κ) :
    (Instr.lookup t (.map<|some g) (V k) false).run P w=.ok (f k) w:=by
  obtain⟨D,c,m,I,O,Z,_⟩:=h
  rw[<-Z k]
  exact y9m (f:=z2u m) ⟨D,c,m,I,O,λ_=>rfl⟩ hk hu hz k
theorem x0x {w:World}{g:Nat}{z:Value}{f:κ->Value}{t E:TypeId}(h:MapZ V w g z f)(hk:KeyLaw P K V)(hu:P.underlying t=some (.map K E))(hz:∀w:World,(zeroValue E).run P w=.ok z w)(k:κ) :
    ∃w' st,(Instr.mapEntry t (.map<|some g)<|V k).run P w=.ok (.tuple #[f k,.int .i64 (st:Nat)]) w'/\MapE V w' g z f k st/\Fr [g] w w'/\w'.heap.size=w.heap.size:=by
  obtain⟨I,c,m,h1,h2,h3,h4,h5⟩:=h
  have b0:=(l16.1 h1).1
  have a1:I.toList.map (·.key)=(m.map (·.1)).map V:=by
    have:=congrArg (List.map Prod.fst) h2
    simpa[l81,l109] using this
  have O:=hk.find k I.toList (m.map (·.1)) w a1
  have a2:∀o,(setObj g o).run P w=.ok () { w with heap:=w.heap.setIfInBounds g o }:=by intro o;simp[setObj,Sem.run,h1]
  have a6:∀o,Fr [g] w { w with heap:=w.heap.setIfInBounds g o }:=λo=>⟨rfl,rfl,rfl,sp0,λi _ hn=>by
    simp only
    rw[l77 (by intro e;subst e;simp at hn)]⟩
  have Z:∀o,({ w with heap:=w.heap.setIfInBounds g o }:World).heap[g]?=some o:=by intro o;simp[b0]
  have a8:I.toList.length=m.length:=by have:=congrArg List.length h2;simpa using this
  have D:=y3r (V:=V) m k I.toList h2
  cases hf:(m.map (·.1)).findIdx? (λx=>decide (k=x)) with
  | none=>
    rw[hf]at O D
    simp only[Option.bind_none,Option.map_none]at D
    have e0:f k=z:=by rw[<-h3 k,<-D];rfl
    refine⟨{ w with heap:=w.heap.setIfInBounds g (.map (I.push { key:=V k,val:=z,born:=c })<|c+1) },c,?_,⟨_,_,m++[(k,z)],m.length,Z<|.map (I.push { key:=V k,val:=z,born:=c })<|c+1,?_,λk'=>?_,?_,?_,?_,?_⟩,a6 _,sp0⟩
    · simp only[Instr.mapEntry,Sem.run_bind,run_underlying hu,Result.andThen_ok,z2z h1,hk.check,O,Option.bind_none,hz w,a2,Sem.run_pure,e0]
      rfl
    · simp[h2]
    · rw[y4e m k k' z hf,<-h3 k']
      split
      · rename_i e;subst e;rw[h3,e0];rfl
      · rfl
    · simp only[Array.toList_push,l30,l28,l140]
      refine l58.2 ⟨h4,sp0,λa ha b hb e=>?_⟩
      simp only[l11]at hb
      obtain⟨x,hx,rfl⟩:=l55.1 ha
      have:=h5 x hx;omega
    · intro e he
      simp only[Array.toList_push,l22,l11]at he
      rcases he with he|rfl
      · have:=h5 e he;omega
      · simp
    · rw[l30,List.findIdx?_append,hf];simp
    · simp only[Array.toList_push]
      rw[<-a8,l29 (l20 _)];simp
  | some i=>
    have hi:i<m.length:=by
      have:=l79.1 hf
      simpa using this.1
    have a0:i<I.toList.length:=by omega
    have a7:V k=(I.toList[i]).key:=by
      have a9:=List.findIdx?_eq_some_iff_getElem.1 hf
      obtain⟨b2,hp,_⟩:=a9
      have b1:k=(m.map (·.1))[i]:=by simpa using hp
      have e1:(I.toList.map (·.key))[i]?=((m.map (·.1)).map V)[i]?:=by rw[a1]
      simp only[l24,l10 a0,l10 hi,l60,l69]at e1
      rw[e1,b1];simp
    have a5:I[i]?=some I.toList[i]:=by rw[<-l43,l10 a0]
    have a4:(Instr.keyThatStays (((I[i]?).map (·.key)).getD<|V k)<|V k).run P w=.ok (V k) w:=by
      rw[a5]
      simp only[l60,l64,<-a7,Instr.keyThatStays,hk.bits,if_true,Sem.run_pure]
    have a3:I.modify i (λe=>{ e with key:=V k })=I:=by
      apply Array.ext'
      rw[Array.toList_modify]
      apply l62
      intro j
      rw[l113]
      by_cases hj:i=j
      · subst hj
        rw[l10 a0]
        simp only[Option.map_eq_map,l60,if_pos,l69]
        rw[a7]
      · simp[hj]
    rw[hf]at O D
    simp only[Option.bind_some,l10 a0,l60]at O D
    have e0:f k=I.toList[i].val:=by rw[<-h3 k,<-D];rfl
    refine⟨{ w with heap:=w.heap.setIfInBounds g (.map I c) },I.toList[i].born,?_,⟨I,c,m,i,Z _,h2,h3,h4,h5,hf,?_⟩,a6 _,sp0⟩
    · simp only[Instr.mapEntry,Sem.run_bind,run_underlying hu,Result.andThen_ok,z2z h1,hk.check,O,a4,a2,a3,Sem.run_pure,e0]
      rw[a5];rfl
    · rw[l10 a0];rfl
theorem y5o {w:World}{g st:Nat}{z v:Value}{f:κ->Value}{t:TypeId}{k:κ}(h:MapE V w g z f k st) :
    ∃w',(Instr.entryStore t (.map<|some g) (.int .i64 (st:Nat)) v).run P w=.ok () w'/\MapZ V w' g z (λk'=>if k'=k then v else f k')/\Fr [g] w w'/\w'.heap.size=w.heap.size:=by
  obtain⟨I,c,m,j,h1,h2,h3,h4,h5,h6,h7⟩:=h
  have a4:=(l16.1 h1).1
  have a2:∀o,(setObj g o).run P w=.ok () { w with heap:=w.heap.setIfInBounds g o }:=by intro o;simp[setObj,Sem.run,h1]
  have a3:∀o,Fr [g] w { w with heap:=w.heap.setIfInBounds g o }:=λo=>⟨rfl,rfl,rfl,sp0,λi _ hn=>by
    simp only
    rw[l77 (by intro e;subst e;simp at hn)]⟩
  have O:∀o,({ w with heap:=w.heap.setIfInBounds g o }:World).heap[g]?=some o:=by intro o;simp[a4]
  have a1:I.findIdx? (λe=>((e.born:Nat):Int) == ((st:Nat):Int))=some j:=by
    have e:I.findIdx? (λe=>((e.born:Nat):Int) == ((st:Nat):Int))=I.toList.findIdx? (λe=>((e.born:Nat):Int) == ((st:Nat):Int)):=by cases I;simp
    rw[e];exact v3j h4 h7
  have hi:j<m.length:=by
    have:=l79.1 h6
    simpa using this.1
  refine⟨{ w with heap:=w.heap.setIfInBounds g (.map (I.modify j λe=>{ e with val:=v }) c) },?_,⟨_,c,m.modify j λp=>(p.1,v),O _,?_,λk'=>?_,?_,?_⟩,a3 _,sp0⟩
  · simp only[Instr.entryStore,Sem.run_bind,Result.andThen_ok,z2z h1,asInt,asIntOf,Sem.run_pure,a1,a2]
  · rw[Array.toList_modify]
    apply l62
    intro i
    have D:=congrArg (·[i]?) h2
    simp only[l24]at D ⊢
    rw[l113,l113]
    by_cases hj:j=i
    · subst hj
      simp only[Option.map_eq_map,if_pos]
      cases Z:I.toList[j]? with
      | none=>rw[Z]at D;cases hm:m[j]? with
        | none=>rfl
        | some p=>rw[hm]at D;cases D
      | some e=>rw[Z]at D;cases hm:m[j]? with
        | none=>rw[hm]at D;cases D
        | some p=>
          rw[hm]at D
          simp only[l60,l69,l105]at D ⊢
          first|exact⟨D.1,rfl⟩|exact⟨D.1,trivial⟩|simp[D.1]
    · simp only[Option.map_eq_map,if_neg hj];simpa using D
  · rw[y0f k k' v m j h6]
    show _=if k'=k then v else f k'
    split
    · rfl
    · exact h3 k'
  · rw[Array.toList_modify]
    have e:(I.toList.modify j λe=>{ e with val:=v }).map (·.born)=I.toList.map (·.born):=by
      apply l62
      intro i
      rw[l24,l24,l113]
      split
      · cases I.toList[i]?<;>rfl
      · simp
    rw[e];exact h4
  · intro e Z
    rw[Array.toList_modify]at Z
    obtain⟨i,a0,rfl⟩:=l31 Z
    rw[List.length_modify]at a0
    rw[List.getElem_modify]
    have:=h5 _<|l117 a0
    split<;>exact this
variable {a:Act} {n:Nat} {L:List (Nat×Value)} {ds:List Nat} {w w':World} {Q:Exit->Act->World->Prop} {ops:Array Oper} {rest:List Oper}
variable {d:Nat} {ty:TypeId} {pos:String} {after:Array Edge} {x y z':Operand} {t E:TypeId} {g st:Nat} {f:κ->Value} {k:κ} {v z:Value}
theorem x7q (V:κ->Value)(z:Value)(h:AgM ds a n L)(hn:lbt d n)
    (q:∀g w',g=w.heap.size->MapZ V w' g z (λ_=>z)->Fr [] w w'->w'.heap.size=g+1->∀a,AgM ds a n ((d,.map<|some g)::L)->wpList P ops Q rest a w'):wpList P ops Q (⟨some d,.makeMap t none,ty,pos,after,none⟩::rest) a w:=
  z1x h U hn (w':=w.alloc<|.map #[] 0) (by simp[execOp,Instr.makeMap]) (q _ _ U ⟨_,_,[],heap_alloc_new w _,sp0,λ_=>rfl,sp0,sp0⟩ (Fr.alloc [] w _) sp0)
theorem y9a (V:κ->Value)(z:Value)(hn:lbt d n)(q:∀g w',g=w.heap.size->MapZ V w' g z (λ_=>z)->Fr [] w w'->w'.heap.size=g+1->WL P ops Q rest n ds w' ((d,.map<|some g)::L)):WL P ops Q (⟨some d,.makeMap t none,ty,pos,after,none⟩::rest) n ds w L:=λa h=>x7q V z h hn q
theorem z7v (h:AgM ds a n L)(hx:ev L x=some (.map<|some g))(hy:ev L y=some (V k))(I:MapZ V w g z f)(D:KeyLaw P K V)(O:P.underlying t=some (.map K E))(hz:∀w:World,(zeroValue E).run P w=.ok z w)(Z:f k=v)(hn:lbt d n)
    (q:∀a,AgM ds a n ((d,v)::L)->wpList P ops Q rest a w):wpList P ops Q (⟨some d,.lookup t x y false,ty,pos,after,none⟩::rest) a w:=
  z1x h U hn (by rw[<-Z];simp[execOp,h.eval hx,h.eval hy,x7f I D O (hz w) k]) q
theorem y5w (hx:ev L x=some (.map<|some g))(hy:ev L y=some (V k))(I:MapZ V w g z f)(D:KeyLaw P K V)(O:P.underlying t=some (.map K E))(hz:∀w:World,(zeroValue E).run P w=.ok z w)(Z:f k=v)(hn:lbt d n)
 (q:WL P ops Q rest n ds w ((d,v)::L)):WL P ops Q (⟨some d,.lookup t x y false,ty,pos,after,none⟩::rest) n ds w L:=λa h=>z7v h hx hy I D O hz Z hn q
theorem z7m (h:AgM ds a n L)(hx:ev L x=some (.map<|some g))(hy:ev L y=some (V k))(hm:MapZ V w g z f)(Z:KeyLaw P K V)(hu:P.underlying t=some (.map K E))(hz:∀w:World,(zeroValue E).run P w=.ok z w)(hn:lbt d n)
    (q:∀w' st,MapE V w' g z f k st->Fr [g] w w'->w'.heap.size=w.heap.size->∀a,AgM ds a n ((d,.tuple #[f k,.int .i64 (st:Nat)])::L)->wpList P ops Q rest a w'):wpList P ops Q (⟨some d,.mapEntry t x y,ty,pos,after,none⟩::rest) a w:=by
  obtain⟨w',st,hr,D,I,O⟩:=x0x hm Z hu hz k
  exact z1x h U hn (w':=w') (by simp[execOp,h.eval hx,h.eval hy,hr])<|q w' st D I O
theorem z6e {s:Operand}(h:AgM ds a n L)(hx:ev L x=some (.map<|some g))(hs:ev L s=some (.int .i64 (st:Nat)))(hy:ev L y=some v)(Z:MapE V w g z f k st)
    (q:∀w',MapZ V w' g z (λk'=>if k'=k then v else f k')->Fr [g] w w'->w'.heap.size=w.heap.size->∀a,AgM ds a n L->wpList P ops Q rest a w'):wpList P ops Q (⟨none,.entryStore t x s y,ty,pos,after,none⟩::rest) a w:=by
  obtain⟨w',hr,D,I,O⟩:=y5o (P:=P) (t:=t) (v:=v) Z
  exact y0h h U U (w':=w') (by simp[execOp,h.eval hx,h.eval hs,h.eval hy,hr])<|q w' D I O
end
end Go.Lw
namespace Go.Lw
open Go.RowKit
theorem v3c {w:World}{ad:Addr}{cs vs:List Value}{off:Nat}(h:Cells w ad cs)(I:(cs.drop off).take vs.length=vs):Cells w (ad.add off) vs:=λj u D=>by
 rw[<-I]at D
 rw[l53]at D
 split at D
 ·rw[l100]at D
  rw[z8u];exact h _ u D
 cases D
section
variable {P:Program} {a:Act} {n:Nat} {L:List (Nat×Value)} {ds:List Nat} {w:World} {Q:Exit->Act->World->Prop} {ops:Array Oper} {rest:List Oper} {d g p:Nat} {ty t:TypeId} {pos:String} {after:Array Edge} {x:Operand} {l:List UInt8}
end
end Go.Lw
namespace Go.Lw
open Go.RowKit
section
variable {P:Program} {a:Act} {n:Nat} {L:List (Nat×Value)} {ds:List Nat} {w:World} {Q:Exit->Act->World->Prop} {ops:Array Oper} {rest:List Oper} {d:Nat} {ty t T:TypeId} {pos:String} {after:Array Edge} {x:Operand}
end
section
variable {P:Program} {a:Act} {n:Nat} {L:List (Nat×Value)} {ds:List Nat} {w:World} {Q:Exit->Act->World->Prop} {ops:Array Oper} {rest:List Oper} {d:Nat} {ty t T:TypeId} {pos:String} {after:Array Edge} {x y:Operand} {k:IntKind} {i:Int}
end
end Go.Lw
namespace Go.Proofs.YtkafbfjmcigaiaaGreatDoor
open Go.Lw Go.G21 Go.G08 _root_.Go.Proofs.Tryz
theorem x2h:ElemOf prog 30 114 z4x 24:=ElemOf.mk' (z:=(.slice none 0 0)) underlying30 kr U
theorem y2l:z2a prog 114:=λ_=>kr
theorem v9o (i:LId)(v:Value)(ts:List TQ)(w0:World)(hs:Sl z4x w0 v ts)(hk:TabAt w0 ts)(hl:ts.length<=200)(hi:0<=i.y/\i.y<=255):Rets prog 226 #[v,ivv i] w0 λr w'=>r=.bool (decide (z5l (z2o ts) i))/\Fr [] w0 w':=by
 obtain⟨A,c,rfl,a5,hM,hA⟩:=id hs;clear hA;unfold maxLen at hM;have a2:=z7c hk;have a7:=a2 (i.y-1).toNat;refine we [(0,.slice A ts.length c),(1,ivv i)] func226 U ntmps226 U (.c2 U U) ?_;have a3:=hs;have a1:=hk;refine sr<|bx U<|λg3 w1 a6 I Z z1=>(asg U<|nn<|sq ?_);have hs:=a3.ext Z;have hk:=a1.ext Z;intro a h;refine y4a z2s kr<|z3c h U z9j U λa h=>z6a h U (λ_ O=>I.ext O) U na5 U λa h=>u8d h U U U λa h=>z4q h U λa h=>gSp (D:=8) h U ?_ ?_;intro g0 h;refine z2p h U U U U<|z3c h U z9j U λa h=>z2p h U U U U<|z6a h U (λ_ O=>I.ext O) U na5 U λa h=>z2p h U U U U<|u1m h U (by rw[underlying5];rfl) underlying3 t13 U λa h=>?_;refine z2p h U U U U<|z4q h U λa h=>z2p h U U U U<|x1c h U underlying30 U λa h=>z2p h U U U U<|k2c h U U U λa h=>?_;refine z8l h U λa h=>z4q h U λa h=>gSp (D:=16) h U ?_ ?_;intro g1 h;refine z2p h U U U U<|z3c h U y1e U λa h=>z2p h U U U U<|z6a h U (λ_ O=>I.ext O) U na3 U λa h=>z2p h U U U U<|u8d h U U U λa h=>?_;refine z8l h U λa h=>z4q h U λa h=>gSp (D:=21) h U ?_ ?_;intro g2 h;refine z2p h U U U U<|z3c h U y1e U λa h=>z2p h U U U U<|z6a h U (λ_ O=>I.ext O) U na3 U λa h=>z2p h U U U U<|z4q h U λa h=>?_;refine z2p h U U U U<|z3c h U z9j U λa h=>z2p h U U U U<|z6a h U (λ_ O=>I.ext O) U na5 U λa h=>z2p h U U U U<|j1k h U U t23 U λa h=>?_;refine z2p h U U U U<|v8h (tq0) h U hs U x2h oo oo U U λa4 a0 a h=>z2p h U U U U<|x6j h U (λ_ O=>a0 _<|hs.ext O) y2l U λa h=>z2p h U U U U<|x1c h U underlying114 U λa h=>?_;refine z2p h U U U U<|k0i h U U U λa h=>z8l h U λa h=>z6g h U U λa h=>wpQuiet_nil ?_;intro w2 q2;refine bk (h.sub (L':=ll1 4)<|csu U)<|tn<|rt<|r1 results226 U ?_;exact⟨_,rfl,by first|exact congrArg Value.bool<|decide_eq_decide.2 t15|exact congrArg Value.bool (decide_eq_false t15).symm|exact congrArg Value.bool (decide_eq_true t15).symm,(Z.n1 q2)⟩;intro g2 h;refine z1s h U U U U λa h=>z1s h U U U U λa h=>z1s h U U U U λa h=>z1s h U U U U λa h=>z1s h U U U U λa h=>z1s h U U U U λa h=>z1s h U U U U λa h=>z1s h U U U U λa h=>z1s h U U U U λa h=>z1s h U U U U λa h=>z4b h U λa h=>z6g h U U λa h=>wpQuiet_nil ?_;intro w3 q3;refine bk (h.sub (L':=ll1 4)<|csu U)<|tn<|rt<|r1 results226 U ?_;exact⟨_,rfl,by first|exact congrArg Value.bool<|decide_eq_decide.2 t15|exact congrArg Value.bool (decide_eq_false t15).symm|exact congrArg Value.bool (decide_eq_true t15).symm,(Z.n1 q3)⟩;intro g1 h;refine z1s h U U U U λa h=>z1s h U U U U λa h=>z1s h U U U U λa h=>z4b h U λa h=>z4q h U λa h=>z1s h U U U U λa h=>z1s h U U U U λa h=>z1s h U U U U λa h=>z1s h U U U U λa h=>z1s h U U U U λa h=>z1s h U U U U λa h=>z1s h U U U U λa h=>z1s h U U U U λa h=>z1s h U U U U λa h=>z1s h U U U U λa h=>z4b h U λa h=>z6g h U U λa h=>wpQuiet_nil ?_;intro w4 q4;refine bk (h.sub (L':=ll1 4)<|csu U)<|tn<|rt<|r1 results226 U ?_;exact⟨_,rfl,by first|exact congrArg Value.bool<|decide_eq_decide.2 t15|exact congrArg Value.bool (decide_eq_false t15).symm|exact congrArg Value.bool (decide_eq_true t15).symm,(Z.n1 q4)⟩;intro g0 h;refine z1s h U U U U λa h=>z1s h U U U U λa h=>z1s h U U U U λa h=>z1s h U U U U λa h=>z1s h U U U U λa h=>z1s h U U U U λa h=>z4b h U λa h=>z4q h U λa h=>z1s h U U U U λa h=>z1s h U U U U λa h=>z1s h U U U U λa h=>z4b h U λa h=>z4q h U λa h=>z1s h U U U U λa h=>z1s h U U U U λa h=>z1s h U U U U λa h=>z1s h U U U U λa h=>z1s h U U U U λa h=>z1s h U U U U λa h=>z1s h U U U U λa h=>z1s h U U U U λa h=>z1s h U U U U λa h=>z1s h U U U U λa h=>z4b h U λa h=>z6g h U U λa h=>wpQuiet_nil ?_;intro w5 q5;refine bk (h.sub (L':=ll1 4)<|csu U)<|tn<|rt<|r1 results226 U ?_;exact⟨_,rfl,by first|exact congrArg Value.bool<|decide_eq_decide.2 t15|exact congrArg Value.bool (decide_eq_false t15).symm|exact congrArg Value.bool (decide_eq_true t15).symm,(Z.n1 q5)⟩
theorem x8x (i:LId)(v:Value)(ts:List TQ)(w0:World)(hs:Sl z4x w0 v ts)(hk:TabAt w0 ts)(hl:ts.length<=200)(hi:0<=i.y/\i.y<=255):Rets prog 139 #[v,ivv i] w0 λr w'=>r=.bool (decide (z5l (z2o ts) i))/\Fr [] w0 w':=by
 obtain⟨A,c,rfl,a5,hM,hA⟩:=id hs;clear hA;unfold maxLen at hM;have a2:=z7c hk;have a7:=a2 (i.y-1).toNat;refine we [(0,.slice A ts.length c),(1,ivv i)] func139 U ntmps139 U (.c2 U U) ?_;have a3:=hs;have a1:=hk;refine sr<|bx U<|λg3 w1 a6 I Z z1=>(asg U<|nn<|sq ?_);have hs:=a3.ext Z;have hk:=a1.ext Z;intro a h;refine y4a z2s kr<|z3c h U z9j U λa h=>z6a h U (λ_ O=>I.ext O) U na5 U λa h=>u8d h U U U λa h=>z4q h U λa h=>gSp (D:=8) h U ?_ ?_;intro g0 h;refine z2p h U U U U<|z3c h U z9j U λa h=>z2p h U U U U<|z6a h U (λ_ O=>I.ext O) U na5 U λa h=>z2p h U U U U<|u1m h U (by rw[underlying5];rfl) underlying3 t13 U λa h=>?_;refine z2p h U U U U<|z4q h U λa h=>z2p h U U U U<|x1c h U underlying30 U λa h=>z2p h U U U U<|k2c h U U U λa h=>?_;refine z8l h U λa h=>z4q h U λa h=>gSp (D:=16) h U ?_ ?_;intro g1 h;refine z2p h U U U U<|z3c h U y1e U λa h=>z2p h U U U U<|z6a h U (λ_ O=>I.ext O) U na3 U λa h=>z2p h U U U U<|u8d h U U U λa h=>?_;refine z8l h U λa h=>z4q h U λa h=>gSp (D:=21) h U ?_ ?_;intro g2 h;refine z2p h U U U U<|z3c h U y1e U λa h=>z2p h U U U U<|z6a h U (λ_ O=>I.ext O) U na3 U λa h=>z2p h U U U U<|z4q h U λa h=>?_;refine z2p h U U U U<|z3c h U z9j U λa h=>z2p h U U U U<|z6a h U (λ_ O=>I.ext O) U na5 U λa h=>z2p h U U U U<|j1k h U U t23 U λa h=>?_;refine z2p h U U U U<|v8h (tq0) h U hs U x2h oo oo U U λa4 a0 a h=>z2p h U U U U<|x6j h U (λ_ O=>a0 _<|hs.ext O) y2l U λa h=>z2p h U U U U<|x1c h U underlying114 U λa h=>?_;refine z2p h U U U U<|k0i h U U U λa h=>z8l h U λa h=>z6g h U U λa h=>wpQuiet_nil ?_;intro w2 q2;refine bk (h.sub (L':=ll1 4)<|csu U)<|tn<|rt<|r1 results139 U ?_;exact⟨_,rfl,by first|exact congrArg Value.bool<|decide_eq_decide.2 t15|exact congrArg Value.bool (decide_eq_false t15).symm|exact congrArg Value.bool (decide_eq_true t15).symm,(Z.n1 q2)⟩;intro g2 h;refine z1s h U U U U λa h=>z1s h U U U U λa h=>z1s h U U U U λa h=>z1s h U U U U λa h=>z1s h U U U U λa h=>z1s h U U U U λa h=>z1s h U U U U λa h=>z1s h U U U U λa h=>z1s h U U U U λa h=>z1s h U U U U λa h=>z4b h U λa h=>z6g h U U λa h=>wpQuiet_nil ?_;intro w3 q3;refine bk (h.sub (L':=ll1 4)<|csu U)<|tn<|rt<|r1 results139 U ?_;exact⟨_,rfl,by first|exact congrArg Value.bool<|decide_eq_decide.2 t15|exact congrArg Value.bool (decide_eq_false t15).symm|exact congrArg Value.bool (decide_eq_true t15).symm,(Z.n1 q3)⟩;intro g1 h;refine z1s h U U U U λa h=>z1s h U U U U λa h=>z1s h U U U U λa h=>z4b h U λa h=>z4q h U λa h=>z1s h U U U U λa h=>z1s h U U U U λa h=>z1s h U U U U λa h=>z1s h U U U U λa h=>z1s h U U U U λa h=>z1s h U U U U λa h=>z1s h U U U U λa h=>z1s h U U U U λa h=>z1s h U U U U λa h=>z1s h U U U U λa h=>z4b h U λa h=>z6g h U U λa h=>wpQuiet_nil ?_;intro w4 q4;refine bk (h.sub (L':=ll1 4)<|csu U)<|tn<|rt<|r1 results139 U ?_;exact⟨_,rfl,by first|exact congrArg Value.bool<|decide_eq_decide.2 t15|exact congrArg Value.bool (decide_eq_false t15).symm|exact congrArg Value.bool (decide_eq_true t15).symm,(Z.n1 q4)⟩;intro g0 h;refine z1s h U U U U λa h=>z1s h U U U U λa h=>z1s h U U U U λa h=>z1s h U U U U λa h=>z1s h U U U U λa h=>z1s h U U U U λa h=>z4b h U λa h=>z4q h U λa h=>z1s h U U U U λa h=>z1s h U U U U λa h=>z1s h U U U U λa h=>z4b h U λa h=>z4q h U λa h=>z1s h U U U U λa h=>z1s h U U U U λa h=>z1s h U U U U λa h=>z1s h U U U U λa h=>z1s h U U U U λa h=>z1s h U U U U λa h=>z1s h U U U U λa h=>z1s h U U U U λa h=>z1s h U U U U λa h=>z1s h U U U U λa h=>z4b h U λa h=>z6g h U U λa h=>wpQuiet_nil ?_;intro w5 q5;refine bk (h.sub (L':=ll1 4)<|csu U)<|tn<|rt<|r1 results139 U ?_;exact⟨_,rfl,by first|exact congrArg Value.bool<|decide_eq_decide.2 t15|exact congrArg Value.bool (decide_eq_false t15).symm|exact congrArg Value.bool (decide_eq_true t15).symm,(Z.n1 q5)⟩
theorem u5c (u:Value)(A:Option Addr)(m c:Nat)(w0:World)(I:m=0):Rets prog 190 #[u,.slice A m c] w0 λr w'=>r=u/\Fr [] w0 w':=by
 refine we [(0,u),(1,.slice A m c)] func190 U ntmps190 U (.c2 U U)<|sr<|asg U<|nn<|sq<|sr<|mv U U<|lnS U underlying108<|mv U U<|nn<|bl<|lpK (ι:=Nat) (ll3 0 8 9) (λk=>[(10,.int .i64 (k:Int))]) (λk w'=>Fr [] w0 w'/\k<=m) (λk=>m-k) 0 (csu U) ⟨l12 _ _,l17 _⟩ ?_;rintro k w1 ⟨D,hi⟩;refine kpC (ll4 0 8 9 10) (csu U)<|sr<|lt' U ?_;rw[show decide ((k:Int)<(m:Int))=false from decide_eq_false oo];exact nn<|sq<|cf U<|ex<|te<|te<|xh<|tn<|sr<|mv U U<|asg U<|kpL (ll1 4) (csu U)<|nn<|rt<|r1 results190 U ⟨_,rfl,rfl,D⟩
theorem u5o (base:Nat)(u v:Value)(l:List Pa)(wS w0:World)(ho:Lw.Own z2i 172 base w0 u [])(I:Sl z2i wS v l)(hs:Sl z2i w0 v l)(hb:wS.heap.size<=base)(D:base<=w0.heap.size)(hn:l.length<=100000):Rets prog 190 #[u,v] w0 λr w'=>∃S,Lw.Own z2i 172 base w' r (z5d [] l)/\(∀k∈S,base<=k)/\Fr S w0 w':=by
 by_cases e:l=[];subst e;obtain⟨A,c,rfl,_⟩:=hs.form;refine Rets.mono (u5c u A _ c w0 U) ?_;rintro r w' ⟨rfl,hf⟩;exact⟨[],ho.ext hf,sp0,hf⟩;exact v8c base u v [] l w0 ho hs (λk O=>by have:=I.blk e k O;omega) D (by simpa using hn)
theorem u1j (v:Value)(l:List Pa)(w0:World)(hs:Sl z2i w0 v l)(hl:l.length<=50000):Rets prog 227 #[v] w0 λr w'=>∃A,r=.slice A (z5d [] l).length (z5d [] l).length/\Fr [] w0 w':=by
 obtain⟨A,c,rfl,a1,hM,hA⟩:=id hs;clear hA;unfold maxLen at hM;refine we [(0,.slice A l.length c)] func227 U ntmps227 U (.cons U .nil) ?_;have I:=hs;refine sr<|asg U<|nn<|sr<|mv U U<|lnS U underlying108<|z1f (m:=0) (c:=l.length) (pa0) U z4y y9u U<|λg5 w1 a2 ho q1 z1=>(mv U U ?_);have hs:=I.ext q1;refine cl (ev2 U) (mkC func190) (u5o g5 _ _ l w0 _ (by simpa using ho) I hs oo oo oo) U ?_;rintro V7 w2 ⟨S7,D,O,q2⟩;have Z:=z8b l [];obtain⟨A7,c7,rfl,a0⟩:=D.sl.form;refine cl (ev1 U) (mkC func191) (y0p _ _ _ D.sl (by simp only[l57]at Z;omega)) U ?_;rintro _ w3 ⟨A8,rfl,a4,q3⟩;exact asg U<|kpL (ll1 2) (csu U)<|nn<|rt<|r1 results227 U ⟨_,rfl,A8,rfl,((q1.step q2<|λk hk a3=>absurd (O k hk) oo).n1 q3)⟩
theorem y4z (v:Value)(ts:List TQ)(w0:World)(hs:Sl z4x w0 v ts)(hk:TabAt w0 ts)(hN:z4r (z2o ts)<=100000):Rets prog 147 #[v] w0 λr w'=>r=.int .i64 (z4r (z2o ts):Int)/\Fr [] w0 w':=by
 obtain⟨A,c,rfl,a3,hM,hA⟩:=id hs;clear hA;unfold maxLen at hM;have I:=z7c hk;refine we [(0,.slice A ts.length c)] func147 U ntmps147 U (.cons U .nil) ?_;have O:=hs;have a4:=hk;refine sr<|asg U<|nn<|sr<|asg U<|nn<|sq<|sr<|mv U U<|lnS U underlying30<|mv U U<|nn<|bl<|lpK (ι:=Nat) (ll2 6 7) (λi=>[(8,.int .i64 (i:Int)),(3,.int .i64 (j1e ts i:Int))]) (λi w'=>Fr [] w0 w'/\i<=ts.length) (λi=>ts.length-i) 0 (csu U) ⟨l12 _ _,l17 _⟩ ?_;rintro i w1 ⟨Z,hi⟩;refine kpC (ll4 6 7 8 3) (csu U)<|sr<|lt' U<|nn<|sq<|cd U (λc0=>?_)<|λc0=>?_;have a5:=I i;have a1:=u0j (ts:=ts) (i:=i) oo;have a2:=j3g ts<|i+1;refine sk<|tn<|sq<|bl<|sr ?_;have hs:=O.ext Z;refine z0z (tq0) U hs U x2h z1j<|λa0 D=>?_;refine z1b U (D _ hs) y2l<|asg U<|nn<|rg<|mv U U<|mv U U<|lnS U underlying114<|z0w U (wi6 oo)<|asg U<|nl<|bn'<|tn<|rg<|z0w U (wi6 oo)<|mv U U<|nl ?_;exact lpE (i+1) (.c4 U U U<|congrArg (λz=>some<|Value.int .i64 z) oo) ⟨Z,oo⟩ oo;obtain rfl:i=ts.length:=by omega
 exact ex<|te<|te<|xh<|tn<|sr<|mv U U<|asg U<|kpL (ll1 2) (csu U)<|nn<|rt<|r1 results147 U ⟨_,rfl,by rw[u8s],Z⟩
theorem z4l:ElemOf prog 32 54 z1g 16:=ElemOf.mk' (z:=(.agg #[.int .u8 0,.int .i64 0])) underlying32 kr U
theorem v7g:z1d prog 131 0 0:=λ_ _=>kr
theorem z7t:z1d prog 131 2 2:=λ_ _=>kr
theorem z9o:z1d prog 131 3 3:=λ_ _=>kr
theorem z6q:z2a prog 32:=λ_=>kr
theorem y0i:z1r prog 54 2:=λ_=>kr
theorem z8v (w:World):(zeroValue 54).run prog w=.ok (.agg #[(.int .u8 0),(.int .i64 0)]) w:=kr
theorem u3p (q:LpQ)(v:Value)(ts:List TQ)(w0:World)(hs:Sl z4x w0 v ts)(hk:TabAt w0 ts)(hl:ts.length=6)(Z:LpAt w0 q)(hv:y7h (z2o ts) q.p):Rets prog 211 #[v,lvv q] w0 λr w'=>r=.bool true/\Fr [] w0 w':=by
 obtain⟨A,c,rfl,b7,hM,hA⟩:=id hs;clear hA;unfold maxLen at hM;have d9:=z7c hk;have d1:=z2e Z.1;have d3:=z2e Z.2;have hb:q.b=0\/q.b=1:=hv.1;have d5:q.ths.length<=4:=hv.2.1.1;have d6:q.pas.length<=4096:=hv.2.1.2;have b3:∀p∈q.pas,z6k p.d:=hv.2.2.2.1;have d7:(z5d [] q.pas).length=q.pas.length:=hv.2.2.2.2;have a9:∀i,i<q.ths.length->z5l (z2o ts) (q.ths.getD i id0):=λi hi=>hv.2.2.1 _<|l66 _<|z1c hi;have a8:∀i,i<q.pas.length->z5l (z2o ts) (q.pas.getD i pa0).id:=λi hi=>hv.2.2.1 _<|l68 _<|l88<|z1c hi;have d4:=y1p ts;refine we [(0,.slice A ts.length c),(1,lvv q)] func211 U ntmps211 U (.c2 U U) ?_;have b0:=hs;have a7:=hk;have a1:=Z;refine sr<|bx U<|λg3 w1 b8 D q1 z1=>(asg U<|nn<|sq<|sq<|rbo (r:=16) (L':=ll2 0 3) (((q.b≠0)/\(q.b≠1))) (csu U) ?_ ?_);refine fad U v7g<|z0i U D U x7o<|ne' U<|mv U U<|gs 12 U (λg0=>?_)<|λg0=>?_;exact gY U<|fad U v7g<|gY U<|z0i U D U x7o<|gY U<|ne' U<|pkt U<|rbe U<|csu U;exact gN U<|gN U<|gN U<|pkf U<|rbe U<|csu U;refine tn<|cd U (λc0=>?_)<|λc0=>?_;refine sr<|asg U<|nn<|rt<|tr<|r1 results211 U ?_;exfalso;omega;refine sk<|tn<|sq<|sq<|rbo (r:=26) (L':=ll2 0 3) (((4<(q.th.2.1:Int))\/(4096<(q.pa.2.1:Int)))) (csu U) ?_ ?_;refine fad U z7t<|z0i U D U z6q<|lnS U underlying32<|gt' U<|mv U U<|gs 21 U (λg1=>?_)<|λg1=>?_;exact gN U<|gN U<|gN U<|gN U<|pkt U<|rbe U<|csu U;exact gY U<|fad U z9o<|gY U<|z0i U D U y0x<|gY U<|lnS U underlying108<|gY U<|gt' U<|pkf U<|rbe U<|csu U;refine tn<|cd U (λc1=>?_)<|λc1=>?_;refine sr<|asg U<|nn<|rt<|tr<|r1 results211 U ?_;exfalso;omega;refine sk<|tn<|sq<|sr<|fad U z7t<|z0i U D U z6q<|lnS U underlying32<|mv U U<|nn<|bl<|lpK (ι:=Nat) (ll4 0 3 28 29) (λi=>[(30,.int .i64 (i:Int))]) (λi w'=>Fr [] w1 w'/\i<=q.ths.length) (λi=>q.ths.length-i) 0 (csu U) ⟨l12 _ _,l17 _⟩ ?_;rintro i w2 ⟨q2,hi⟩;have z2:=q2.size;refine kpC (ll5 0 3 28 29 30) (csu U)<|sr<|lt' U<|nn<|sq<|cd U (λc2=>?_)<|λc2=>?_;refine sk<|tn<|sq<|bl<|sr ?_;have Z:=a1.ext<|q1.n1 q2;refine z0z (id0) U Z.1 U z4l z1j<|λb4 a5=>?_;refine z1q U (a5 _ Z.1) z3b<|al z8v U<|λg6 w3 b9 a2 q3 z3=>(z0j (vs:=[_,_]) U a2 y0i<|λw4 a2 q4 z4=>(nn<|sr<|mv U U<|z0l U a2 z3b ?_));have hs:=b0.ext<|q1.z3 q2 q3 q4;have hk:=a7.ext<|q1.z3 q2 q3 q4;refine cl (ev2 U) (mkC func226) (v9o (q.ths.getD i id0) _ _ _ hs hk oo (by have h:=a9 i oo;have:=h.1;have:=h.2.1;omega)) U ?_;rintro _ w5 ⟨rfl,q5⟩;have z5:=q5.size;refine nt' U<|nn<|cd U (λc3=>?_)<|λc3=>?_;exact sr<|asg U<|kpL (ll1 4) (csu U)<|nn<|rt<|rb<|tr<|tr<|rb<|tr<|r1 results211 U<|absurd (a9 i oo) (by simpa using c3);exact sk<|bn'<|tn<|rg<|z0w U (wi6 oo)<|mv U U<|nl<|lpE (i+1) (csu U) ⟨(q2.z3 q3 q4 q5),oo⟩ oo;obtain rfl:i=q.ths.length:=by omega
 refine ex<|te<|te<|xh<|tn<|sq<|sr<|fad U z9o ?_;have D:=D.ext q2;refine z0i U D U y0x<|lnS U underlying108<|mv U U<|nn<|bl<|lpK (ι:=Nat) (ll4 0 3 40 41) (λi=>[(42,.int .i64 (i:Int))]) (λi w'=>Fr [] w2 w'/\i<=q.pas.length) (λi=>q.pas.length-i) 0 (csu U) ⟨l12 _ _,l17 _⟩ ?_;rintro i w6 ⟨q6,hi⟩;have z6:=q6.size;refine kpC (ll5 0 3 40 41 42) (csu U)<|sr<|lt' U<|nn<|sq<|cd U (λc4=>?_)<|λc4=>?_;have e0:(q.pas.getD i pa0).d=0\/(q.pas.getD i pa0).d=1:=b3 _<|z1c oo;have d0:=a8 i oo;refine sk<|tn<|sq<|bl<|sr ?_;have Z:=a1.ext<|q1.n2 q2 q6;refine z0z (pa0) U Z.2 U z4y z1j<|λb5 a6=>?_;refine z1q U (a6 _ Z.2) z9l<|al y9u U<|λg8 w7 c9 O q7 z7=>(z0j (vs:=[_,_,_,_]) U O x4e<|λw8 O q8 z8=>(nn<|sq<|v7n (r:=60) (L':=ll5 0 3 40 41 42) (((¬z5l (z2o ts) (q.pas.getD i pa0).id)\/(((q.pas.getD i pa0).d≠0)/\((q.pas.getD i pa0).d≠1)))) (csu U) ?_ ?_));refine mv U U<|fad U x7m<|z1w (vs:=[_,_]) U O z3b U ?_;have hs:=b0.ext<|q1.z4 q2 q6 q7 q8;have hk:=a7.ext<|q1.z4 q2 q6 q7 q8;refine cl (ev2 U) (mkC func226) (v9o (q.pas.getD i pa0).id _ _ _ hs hk oo (by have h:=a8 i oo;have:=h.1;have:=h.2.1;omega)) U ?_;rintro _ w9 ⟨rfl,q9⟩;have z9:=q9.size;refine nt' U<|mv U U<|gs 51 U (λg2=>?_)<|λg2=>?_;exact gN U<|gN U<|gN U<|gN U<|gS U<|gS U<|gS U<|gN U<|pkt U<|y3a U (csu U) q9;refine gY U<|fad U z9a<|gY U ?_;have O:=O.ext q9;refine z0i U O U x2r<|gY U<|ne' U<|gY U<|mv U U<|gs 55 U (λg3=>?_)<|λg3=>?_;exact gY U<|fad U z9a<|gY U<|z0i U O U x2r<|gY U<|ne' U<|gY U<|pkt U<|pkf U<|y3a U (csu U) q9;exact gN U<|gN U<|gN U<|gY U<|pkf U<|pkf U<|y3a U (csu U) q9;intro e1 b1;have e3:=b1.size;refine tn<|cd U (λc5=>?_)<|λc5=>?_;refine sr<|asg U<|kpL (ll1 4) (csu U)<|nn<|rt<|rb<|tr<|tr<|rb<|tr<|r1 results211 U ?_;exact(by exfalso;first|omega|(simp_all;done)|(simp_all;omega));exact sk<|bn'<|tn<|rg<|z0w U (wi6 oo)<|mv U U<|nl<|lpE (i+1) (csu U) ⟨(q6.z3 q7 q8 b1),oo⟩ oo;obtain rfl:i=q.pas.length:=by omega
 refine ex<|te<|te<|xh<|tn<|sq ?_;have Z:=a1.ext<|q1.n2 q2 q6;intro a h;refine z0h none (λwb w'=>Fr [] wb w') z2s ?_;intro b2 a0;have e4:=a0.size;have Z:=Z.ext a0;have D:=D.ext<|q6.n1 a0;have hC:Fr [] b2 b2:=l12 _ _;have a4:=Z;have I:=D;refine z0c 0 h U z9o U λa h=>z0m 1 h U (λ_ hw=>I.ext hw) U y0x U λa h=>z0c 4 h U z9o U λa h=>z0m 5 h U (λ_ hw=>I.ext hw) U y0x U λa h=>z7n 6 hC h wn U underlying108 U λa h=>z0d 2 U<|z0n h (z0a U z0f) (mkC func227) (u1j _ q.pas _ Z.2 oo) ?_;rintro _ e2 ⟨b6,rfl,a3⟩ a h;have e5:=a3.size;have hC:=hC.next a3;refine z0b<|z7n 3 hC h wn U underlying108 U λa h=>x4i 7 hC h wn U λa h=>z0d 8 U<|z0o h U λa h=>?_;refine z0b<|z0q ?_;clear hC a4 I;refine bk (h.sub (L':=ll1 4)<|csu U)<|tn<|rt<|r1 results211 U ?_;exact⟨_,rfl,congrArg Value.bool<|decide_eq_true oo,(q1.n4 q2 q6 a0 a3)⟩
theorem x5c:z3z prog 131 4:=⟨λ_=>kr,λ_=>kr⟩
theorem y5n:ElemOf prog 114 131 z7k 56:=ElemOf.mk' (z:=(.agg #[.int .u8 0,.bool false,.slice none 0 0,.slice none 0 0])) underlying114 kr U
theorem j9f:z1d prog 131 1 1:=λ_ _=>kr
theorem v4u:z1r prog 131 4:=λ_=>kr
theorem x8o (w:World):(zeroValue 131).run prog w=.ok (.agg #[(.int .u8 0),(.bool false),(.slice none 0 0),(.slice none 0 0)]) w:=kr
theorem u1t (v:Value)(ts:List TQ)(w0:World)(hs:Sl z4x w0 v ts)(I:TabAt w0 ts)(hl:ts.length=6)(hv:TabOk (z2o ts)):Rets prog 184 #[v] w0 λr w'=>r=.int .i64 0/\Fr [] w0 w':=by
 obtain⟨A,c,rfl,a8,hM,hA⟩:=id hs;clear hA;unfold maxLen at hM;have a5:=z7c I;refine we [(0,.slice A ts.length c)] func184 U ntmps184 U (.cons U .nil) ?_;have a2:=hs;have Z:=I;refine sr<|asg U<|nn<|sq<|sr<|mv U U<|lnS U underlying30<|mv U U<|nn<|bl<|lpK (ι:=Nat) (ll3 0 7 8) (λy=>[(9,.int .i64 (y:Int))]) (λy w'=>Fr [] w0 w'/\y<=ts.length) (λy=>ts.length-y) 0 (csu U) ⟨l12 _ _,l17 _⟩ ?_;rintro y w1 ⟨O,hy⟩;have z1:=O.size;refine kpC (ll4 0 7 8 9) (csu U)<|sr<|lt' U<|nn<|sq<|cd U (λc0=>?_)<|λc0=>?_;have I:=Z.ext O;have b0:=a5 y;have a3:=(I _<|z1c (d:=tq0) (i:=y) oo).1.len_le;unfold maxLen at a3;refine sk<|tn<|sq<|bl<|sr ?_;have hs:=a2.ext O;refine z0z (tq0) U hs U x2h z1j<|λa6 a0=>?_;refine z1b U (a0 _ hs) y2l<|asg U<|nn<|sr<|mv U U<|lnS U underlying114<|mv U U<|nn<|bl<|lpK (ι:=Nat) (ll6 0 7 8 9 13 14) (λn=>[(15,.int .i64 (n:Int))]) (λn w'=>Fr [] w1 w'/\n<=(ts.getD y tq0).2.length) (λn=>(ts.getD y tq0).2.length-n) 0 (csu U) ⟨l12 _ _,l17 _⟩ ?_;rintro n w2 ⟨q2,hn⟩;have z2:=q2.size;refine kpC (ll7 0 7 8 9 13 14 15) (csu U)<|sr<|lt' U<|nn<|sq<|cd U (λc1=>?_)<|λc1=>?_;have a4:n=0->((ts.getD y tq0).2.getD n lq0).nw=true:=λe=>by
  have h:=(hv.rts y oo n (by rw[z3x];omega)).2 e;rw[y3s]at h;exact h
 refine sk<|tn<|sq<|bl<|sr<|mv U U ?_;have I:=Z.ext<|O.n1 q2;refine z0z (lq0) U (I _<|z1c (d:=tq0) (i:=y) oo).1 U y5n z1j<|λa7 a1=>?_;refine z1q U (a1 _ (I _<|z1c (d:=tq0) (i:=y) oo).1) x5c<|al x8o U<|λg6 w3 a9 D q3 z3=>?_;refine asg U<|z0j (vs:=[_,_,_,_]) U D v4u (λw4 D q4 z4=>?_) (h1:=(by first|(simp[Value.oneCell',S];done)|exact z7k.one<|(ts.getD y tq0).2.getD n lq0));refine nn<|sq<|v7n (r:=32) (L':=ll7 0 7 8 9 13 14 15) (((¬(0:Int)=0)\/(((n:Int)=0)/\(¬((ts.getD y tq0).2.getD n lq0).nw=true)))) (csu U) ?_ ?_;refine mv U U<|z0l U D x5c ?_;have hs:=a2.ext<|O.z3 q2 q3 q4;have I:=Z.ext<|O.z3 q2 q3 q4;refine cl (ev2 U) (mkC func211) (u3p ((ts.getD y tq0).2.getD n lq0) _ _ _ hs I hl (z9i I oo oo) (by have h:=(hv.rts y oo n (by rw[z3x];omega)).1;rw[y3s]at h;exact h)) U ?_;rintro _ w5 ⟨rfl,q5⟩;have z5:=q5.size;refine nt' U<|mv U U<|gs 24 U (λg0=>?_)<|λg0=>?_;exact gN U<|gN U<|gN U<|gS U<|gS U<|gS U<|gN U<|pkt U<|y3a U (csu U) q5;refine gY U<|mv U U<|gY U<|eq' U<|gY U<|mv U U<|gs 27 U (λg1=>?_)<|λg1=>?_;refine gY U<|fad U j9f<|gY U ?_;have D:=D.ext q5;exact z0i U D U na4<|gY U<|nt' U<|gY U<|pkt U<|pkf U<|y3a U (csu U) q5;exact gN U<|gN U<|gN U<|gY U<|pkf U<|pkf U<|y3a U (csu U) q5;intro w6 q6;have z6:=q6.size;refine tn<|cd U (λc2=>?_)<|λc2=>?_;refine sr<|asg U<|kpL (ll1 2) (csu U)<|nn<|rt<|rb<|tr<|tr<|rb<|rb<|tr<|tr<|rb<|tr<|r1 results184 U ?_;rcases c2 with h|h
 exact absurd U h;exact absurd (a4 oo) h.2;exact sk<|bn'<|tn<|rg<|z0w U (wi6 oo)<|mv U U<|nl<|lpE (n+1) (csu U) ⟨(q2.z3 q3 q4 q6),oo⟩ oo;obtain rfl:n=(ts.getD y tq0).2.length:=by omega
 exact ex<|te<|te<|xh<|bn'<|tn<|rg<|z0w U (wi6 oo)<|mv U U<|nl<|lpE (y+1) (csu U) ⟨(O.n1 q2),oo⟩ oo;obtain rfl:y=ts.length:=by omega
 exact ex<|te<|te<|xh<|tn<|sr<|asg U<|nn<|rt<|r1 results184 U ⟨_,rfl,rfl,O⟩
theorem k7p (p q:LId)(w:World):(Op.equal 54 (idV p)<|idV q).run prog w=.ok (decide (p=q)) w:=by
 have h:=(k6c p q (.tmp 0) (.tmp 0) w).2.2.1;have e:(binOp .eql 54 (idV p)<|idV q).run prog w=((Op.equal 54 (idV p)<|idV q).run prog w).andThen λb w'=>.ok (.bool b) w':=by
  have D:binOp .eql 54 (idV p) (idV q)=(Op.equal 54 (idV p) (idV q) >>= λb=>pure<|.bool b):=by
   unfold binOp idV;simp only
  rw[D];simp only[Sem.run_bind,Sem.run_pure]
 rw[e]at h;generalize (Op.equal 54 (idV p)<|idV q).run prog w=r at h;cases r with
 | ok b w'=>simp only[Result.andThen]at h;cases h;rfl
 | halt x w'=>simp only[Result.andThen]at h;cases h
theorem z6v:KeyLaw prog 54 idV:=KeyLaw.asking underlying54 (λ_ _=>rfl) (λ_ _ _=>kr) k7p (λ_=>by simp[idV,Instr.sameBits])
theorem zvI (w:World):(zeroValue 3).run prog w=.ok (.int .i64 0) w:=kr
theorem j5x (v:Value)(ts:List TQ)(w0:World)(hs:Sl z4x w0 v ts)(Z:TabAt w0 ts)(hl:ts.length=6)(hv:TabV (z2o ts)):Rets prog 185 #[v] w0 λr w'=>r=.int .i64 0/\Fr [] w0 w':=by
 obtain⟨A,c,rfl,d6,hM,hA⟩:=id hs;clear hA;unfold maxLen at hM;have b5:=z7c Z;refine we [(0,.slice A ts.length c)] func185 U ntmps185 U (.cons U .nil) ?_;have b6:=hs;have a3:=Z;refine sr<|asg U<|nn<|sr<|y9a idV (.int .i64 0) U<|λO w1 d1 D q1 z1=>(asg U<|nn<|sq<|sr<|mv U U<|lnS U underlying30<|mv U U<|nn<|bl<|lpK (ι:=Nat) (ll3 3 11 12) (λy=>[(13,.int .i64 (y:Int))]) (λy w'=>Fr [O] w1 w'/\y<=ts.length/\MapZ idV w' O (.int .i64 0) (x1p<|y0w (z2o ts) y 0)) (λy=>ts.length-y) 0 (csu U) ⟨l12 _ _,⟨l17 _,D⟩⟩ ?_);rintro y w2 ⟨q2,⟨hy,D⟩⟩;have z2:=q2.size;refine kpC (ll4 3 11 12 13) (csu U)<|sr<|lt' U<|nn<|sq<|cd U (λc0=>?_)<|λc0=>?_;have Z:=a3.ext<|q1.z1 q2;have e1:=b5 y;have b1:=(Z _<|z1c (d:=tq0) (i:=y) oo).1.len_le;unfold maxLen at b1;refine sk<|tn<|sq<|bl<|sr ?_;have hs:=b6.ext<|q1.z1 q2;refine z0z (tq0) U hs U x2h z1j<|λb9 a8=>?_;refine z1b U (a8 _ hs) y2l<|asg U<|nn<|sr<|mv U U<|lnS U underlying114<|mv U U<|nn<|bl<|lpK (ι:=Nat) (ll6 3 11 12 13 17 18) (λn=>[(19,.int .i64 (n:Int))]) (λn w'=>Fr [O] w2 w'/\n<=(ts.getD y tq0).2.length/\MapZ idV w' O (.int .i64 0) (x1p<|y0w (z2o ts) y n)) (λn=>(ts.getD y tq0).2.length-n) 0 (csu U) ⟨l12 _ _,⟨l17 _,D⟩⟩ ?_;rintro n w3 ⟨q3,⟨hn,D⟩⟩;have z3:=q3.size;refine kpC (ll7 3 11 12 13 17 18 19) (csu U)<|sr<|lt' U<|nn<|sq<|cd U (λc1=>?_)<|λc1=>?_;have Z:=a3.ext<|q1.z2 q2 q3;have e0:=z2e (z9i Z (y:=y) (n:=n) oo oo).1;have b2:=(z9i Z (y:=y) (n:=n) oo oo).1.len_le;unfold maxLen at b2;refine sk<|tn<|sq<|bl<|sr<|z0z (lq0) U (Z _<|z1c (d:=tq0) (i:=y) oo).1 U y5n z1j<|λc9 a9=>?_;refine z1q U (a9 _ (Z _<|z1c (d:=tq0) (i:=y) oo).1) x5c<|al x8o U<|λg7 w4 d7 a2 q4 z4=>?_;refine z0j (vs:=[_,_,_,_]) U a2 v4u (λw5 a2 q5 z5=>?_) (h1:=(by first|(simp[Value.oneCell',S];done)|exact z7k.one<|(ts.getD y tq0).2.getD n lq0));refine nn<|sr<|fad U z7t<|z0i U a2 U z6q<|lnS U underlying32<|mv U U<|nn<|bl ?_;have D:=(D.ext q4).fr q5 t49;refine lpK (ι:=Nat) (ll9 3 11 12 13 17 18 19 24 25) (λk=>[(26,.int .i64 (k:Int))]) (λk w'=>Fr [O] w5 w'/\k<=((ts.getD y tq0).2.getD n lq0).ths.length/\MapZ idV w' O (.int .i64 0) (x1p<|y0w (z2o ts) y n++((ts.getD y tq0).2.getD n lq0).ths.take k)) (λk=>((ts.getD y tq0).2.getD n lq0).ths.length-k) 0 (csu U) ⟨l12 _ _,⟨l17 _,by rw[l93,l26];exact D⟩⟩ ?_;rintro k w6 ⟨q6,⟨Z,D⟩⟩;have z6:=q6.size;refine kpC (ll10 3 11 12 13 17 18 19 24 25 26) (csu U)<|sr<|lt' U<|nn<|sq<|cd U (λc2=>?_)<|λc2=>?_;have b3:=v2l (k:=k) hv.thr (y:=y) (n:=n) oo oo oo;have d5:((y0w (z2o ts) y n++((ts.getD y tq0).2.getD n lq0).ths.take k)).count (((ts.getD y tq0).2.getD n lq0).ths.getD k id0)=0:=by
  have h:=b3;rw[l21,l98,if_pos sp0]at h;omega
 refine sk<|tn<|sq<|bl<|sr ?_;have Z:=a3.ext<|q1.z5 q2 q3 q4 q5 q6;refine z0z (id0) U (z9i Z (y:=y) (n:=n) oo oo).1 U z4l z1j<|λd0 b0=>?_;refine z1q U (b0 _ (z9i Z (y:=y) (n:=n) oo oo).1) z3b<|al z8v U<|λg9 w7 d9 I q7 z7=>?_;refine z0j (vs:=[_,_]) U I y0i (λw8 I q8 z8=>?_) (h1:=(by first|(simp[Value.oneCell',S];done)|exact z7k.one<|(ts.getD y tq0).2.getD n lq0));refine nn<|sq ?_;have D:=(D.ext q7).fr q8 t49;intro a h;refine z0h none (λwb w'=>Fr [O] wb w') z2s ?_;intro w9 q9;have z9:=q9.size;have D:=D.ext q9;have I:=I.ext q9;have hC:Fr [O] w9 w9:=l12 _ _;have a1:=D;have a0:=I;refine z0e 0 h U λa h=>z0x 1 h U (λ_ hw=>a0.fr hw t29) z3b U λa h=>z1u 2 4 kr U ?_ ?_;refine z7v (V:=idV) (z:=(.int .i64 0)) (k:=(((ts.getD y tq0).2.getD n lq0).ths.getD k id0)) (v:=.int .i64 ((((y0w (z2o ts) y n++((ts.getD y tq0).2.getD n lq0).ths.take k)).count (((ts.getD y tq0).2.getD n lq0).ths.getD k id0):Nat):Int)) h U U D z6v underlying218 zvI U U λa h=>z0b<|z6j 3 h U t13 U λa h=>z0d 4 U ?_;have b4:=D.ne_blk I;refine z7m (V:=idV) (z:=(.int .i64 0)) (k:=(((ts.getD y tq0).2.getD n lq0).ths.getD k id0)) h U U D z6v underlying218 zvI U λe2 d3 he a4 e4 a h=>?_;have D:=he.map;have I:=I.fr a4 t29;have hC:=hC.step a4 sp0;refine z0b<|z0k 5 h U λa h=>z0d 6 U<|z6e (V:=idV) (z:=(.int .i64 0)) (k:=(((ts.getD y tq0).2.getD n lq0).ths.getD k id0)) h U U U he ?_;clear h a he D;intro b7 D a5 e5 a h;replace D:MapZ idV b7 O (.int .i64 0) (x1p<|(y0w (z2o ts) y n++((ts.getD y tq0).2.getD n lq0).ths.take k)++[(((ts.getD y tq0).2.getD n lq0).ths.getD k id0)]):=by rw[<-y9w];exact D
 have I:=I.fr a5 t29;have hC:=hC.step a5 sp0;refine z0b<|z0q ?_;clear hC a1 a0;refine bk (h.sub (L':=ll11 3 9 11 12 13 17 18 19 24 25 26)<|csu U)<|tn<|sr<|mv U U<|z0l U I z3b<|y5w (V:=idV) (z:=(.int .i64 0)) (k:=(((ts.getD y tq0).2.getD n lq0).ths.getD k id0)) (v:=.int .i64 ((((y0w (z2o ts) y n++((ts.getD y tq0).2.getD n lq0).ths.take k)++[(((ts.getD y tq0).2.getD n lq0).ths.getD k id0)]).count (((ts.getD y tq0).2.getD n lq0).ths.getD k id0):Nat):Int)) U U D z6v underlying218 zvI U U<|gt' U<|nn<|cd U (λc3=>?_)<|λc3=>?_;refine sr<|asg U<|kpL (ll1 2) (csu U)<|nn<|rt<|rb<|tr<|tr<|rb<|rb<|tr<|tr<|rb<|rb<|tr<|tr<|rb<|tr<|r1 results185 U ?_;exfalso;omega;exact sk<|bn'<|tn<|rg<|z0w U (wi6 oo)<|mv U U<|nl<|lpE (k+1) (csu U) ⟨((l12 [O] _).z6 q6 q7 q8 q9 a4 a5),⟨oo,by rw[z6f id0 oo,<-l14];exact D⟩⟩ oo;have b4:=D.ne_blk I;refine z7m (V:=idV) (z:=(.int .i64 0)) (k:=(((ts.getD y tq0).2.getD n lq0).ths.getD k id0)) h U U D z6v underlying218 zvI U λe3 d4 he a6 e6 a h=>?_;have D:=he.map;have I:=I.fr a6 t29;have hC:=hC.step a6 sp0;refine z0b<|z0k 5 h U λa h=>z0d 2 U<|z7v (V:=idV) (z:=(.int .i64 0)) (k:=(((ts.getD y tq0).2.getD n lq0).ths.getD k id0)) (v:=.int .i64 ((((y0w (z2o ts) y n++((ts.getD y tq0).2.getD n lq0).ths.take k)).count (((ts.getD y tq0).2.getD n lq0).ths.getD k id0):Nat):Int)) h U U D z6v underlying218 zvI U U λa h=>?_;refine z0b<|z6j 3 h U t13 U λa h=>z0d 6 U<|z6e (V:=idV) (z:=(.int .i64 0)) (k:=(((ts.getD y tq0).2.getD n lq0).ths.getD k id0)) h U U U he ?_;clear h a he D;intro b8 D a7 e7 a h;replace D:MapZ idV b8 O (.int .i64 0) (x1p<|(y0w (z2o ts) y n++((ts.getD y tq0).2.getD n lq0).ths.take k)++[(((ts.getD y tq0).2.getD n lq0).ths.getD k id0)]):=by rw[<-y9w];exact D
 have I:=I.fr a7 t29;have hC:=hC.step a7 sp0;refine z0b<|z0q ?_;clear hC a1 a0;refine bk (h.sub (L':=ll11 3 9 11 12 13 17 18 19 24 25 26)<|csu U)<|tn<|sr<|mv U U<|z0l U I z3b<|y5w (V:=idV) (z:=(.int .i64 0)) (k:=(((ts.getD y tq0).2.getD n lq0).ths.getD k id0)) (v:=.int .i64 ((((y0w (z2o ts) y n++((ts.getD y tq0).2.getD n lq0).ths.take k)++[(((ts.getD y tq0).2.getD n lq0).ths.getD k id0)]).count (((ts.getD y tq0).2.getD n lq0).ths.getD k id0):Nat):Int)) U U D z6v underlying218 zvI U U<|gt' U<|nn<|cd U (λc3=>?_)<|λc3=>?_;refine sr<|asg U<|kpL (ll1 2) (csu U)<|nn<|rt<|rb<|tr<|tr<|rb<|rb<|tr<|tr<|rb<|rb<|tr<|tr<|rb<|tr<|r1 results185 U ?_;exfalso;omega;exact sk<|bn'<|tn<|rg<|z0w U (wi6 oo)<|mv U U<|nl<|lpE (k+1) (csu U) ⟨((l12 [O] _).z6 q6 q7 q8 q9 a6 a7),⟨oo,by rw[z6f id0 oo,<-l14];exact D⟩⟩ oo;obtain rfl:k=((ts.getD y tq0).2.getD n lq0).ths.length:=by omega
 rw[l38]at D;exact ex<|te<|te<|xh<|bn'<|tn<|rg<|z0w U (wi6 oo)<|mv U U<|nl<|lpE (n+1) (csu U) ⟨((l12 [O] _).z4 q3 q4 q5 q6),⟨oo,by rw[y8w oo];exact D⟩⟩ oo;obtain rfl:n=(ts.getD y tq0).2.length:=by omega
 exact ex<|te<|te<|xh<|bn'<|tn<|rg<|z0w U (wi6 oo)<|mv U U<|nl<|lpE (y+1) (csu U) ⟨((l12 [O] _).z2 q2 q3),⟨oo,by rw[y8y oo];exact D⟩⟩ oo;obtain rfl:y=ts.length:=by omega
 exact ex<|te<|te<|xh<|tn<|sr<|asg U<|nn<|rt<|r1 results185 U ⟨_,rfl,rfl,(q1.z1 q2)⟩
theorem u1f (q:LpQ)(n:Int)(w0:World)(O:LpAt w0 q)(h0:0<=n)(hn:n.toNat<(z5p q.p).length)(hb:q.ths.length<=4/\q.pas.length<=4096):Rets prog 212 #[lvv q,.int .i64 n] w0 λr w'=>r=(ivv<|(z5p q.p).getD n.toNat id0)/\Fr [] w0 w':=by
 have a7:=z2e O.1;have a8:=z2e O.2;have a2:=O.1.len_le;unfold maxLen at a2;have a9:=v0l q;refine we [(0,lvv q),(1,.int .i64 n)] func212 U ntmps212 U (.c2 U U) ?_;have Z:=O;refine sr<|bx U<|λg2 w1 a5 D q1 z1=>(al z8v U<|λg4 w2 a6 I q2 z2=>(nn<|sq<|sr<|mv U U<|fad U z7t ?_));have D:=D.ext q2;refine z0i U D U z6q<|lnS U underlying32<|lt' U<|nn<|cd U (λc0=>?_)<|λc0=>?_;refine sr<|fad U z7t<|z0i U D U z6q<|mv U U ?_;have O:=Z.ext<|q1.n1 q2;refine z0z (p:=n.toNat) (id0) U O.1 U z4l oo<|λa3 a0=>?_;refine z1q U (a0 _ O.1) z3b<|z0j (vs:=[_,_]) U I y0i (λw3 I q3 z3=>?_) (h1:=t26);exact kpL (ll1 4) (csu U)<|nn<|rt<|tr<|rC results212 U I z3b  ⟨_,rfl,by rw[j8k oo],(q1.z2 q2 q3)⟩;refine sk<|tn<|sr<|fad U z9o<|z0i U D U y0x<|mv U U<|fad U z7t<|z0i U D U z6q<|lnS U underlying32<|z2f U (wi6 oo) ?_;have O:=Z.ext<|q1.n1 q2;refine z0z (p:=(n.toNat-q.ths.length)) (pa0) U O.2 U z4y oo<|λa4 a1=>?_;refine fad U x7m<|z1q U (v3c (vs:=[_,_]) (a1 _ O.2) U) z3b<|z0j (vs:=[_,_]) U I y0i (λw4 I q4 z4=>?_) (h1:=t26);exact kpL (ll1 4) (csu U)<|nn<|rt<|rC results212 U I z3b  ⟨_,rfl,by rw[j7d oo hn],(q1.z2 q2 q4)⟩
theorem k7k:BuildAt prog 54 [(0,1),(1,1)] [(.int .u8 0),(.int .i64 0)]:=BuildAt.struct underlying54 (λ_=>kr)<|λ_=>kr
theorem y0l:ElemOf prog 58 3 Enc.i64 8:=ElemOf.mk' (z:=(.int .i64 0)) underlying58 kr U
theorem zv3 (w:World):(zeroValue 3).run prog w=.ok (.int .i64 0) w:=kr
theorem v0j {α β:Type}{E:Enc α}{O:Enc β}{T T' b b':Nat}{w:World}{v I:Value}{l:List α}{l':List β}(h:Lw.Own E T b w v l)(Z:Lw.Own O T' b' w I l')(hT:T'≠T):∀k∈z0v v,k∉z0v I:=λk hk D=>by
 obtain⟨cs,hb⟩:=y0d h k hk
 exact Z.neB hb hT D
theorem u5e (v:Value)(ts:List TQ)(w0:World)(hs:Sl z4x w0 v ts)(D:TabAt w0 ts)(hl:ts.length=6)(hv:TabV (z2o ts)):Rets prog 186 #[v] w0 λr w'=>∃l,Lw.Own z1g 54 w0.heap.size w' r l/\l.length=z4r (z2o ts)/\Fr [] w0 w':=by
 obtain⟨A,c,rfl,l6,hM,hA⟩:=id hs;clear hA;unfold maxLen at hM;have i2:=z7c D;have hH:=hv.has;have l7:z4r (z2o ts)<=2048:=hv.ok.cnt;have g9:=y1p ts;refine we [(0,.slice A ts.length c)] func186 U ntmps186 U (.cons U .nil) ?_;have i3:=hs;have g7:=D;refine sr<|asg U<|nn<|sr<|mv U U<|cl (ev1 U) (mkC func147) (y4z _ _ _ hs D oo) U ?_;rintro _ w1 ⟨rfl,q1⟩;have z1:=q1.size;refine asg U<|nn<|sr<|mv U U<|z1f (m:=0) (c:=z4r<|z2o ts) (id0) U z4l z8v U<|λk9 w2 j9 hR q2 z2=>(asg U<|nn<|sr<|mv U U<|lnS U underlying30<|z1f (m:=ts.length) (c:=ts.length) ((0:Int)) U y0l zv3 U<|λa4 w3 k0 hM q3 z3=>(asg U<|nn<|sr<|mv U U<|lnS U underlying30<|z1f (m:=ts.length) (c:=ts.length) ((0:Int)) U y0l zv3 U<|λa1 w4 k1 Z q4 z4=>?_));refine asg U<|nn<|sq<|bl ?_;have hR:=hR.ext<|q3.n1 q4;have hM:=hM.ext q4;refine lpK (ι:=Value×List Int×List Int×List LId) (ll4 0 3 5 6) (λp=>[(4,p.1)]) (λp w'=>Fr [] w0 w'/\FstI (z2o ts) p.2.1 p.2.2.1 p.2.2.2.length/\Lw.Own z1g 54 w0.heap.size w' p.1 p.2.2.2/\Lw.Own Enc.i64 3 w0.heap.size w' (.slice (saa a4) ts.length ts.length) p.2.1/\Lw.Own Enc.i64 3 w0.heap.size w' (.slice (saa a1) ts.length ts.length) p.2.2.1) (λp=>z4r (z2o ts)-p.2.2.2.length) (_,List.replicate ts.length 0,List.replicate ts.length 0,[]) (csu U) ⟨(q1.n3 q2 q3 q4),⟨by simp only;rw[hl];exact FstI.init,by simpa using hR.low oo,hM.low oo,Z.low oo⟩⟩ ?_;rintro⟨vR,ms,uu,l⟩ w5 ⟨q5,⟨hF,hR,hM,Z⟩⟩;simp only at hF hR hM Z;have z5:=q5.size;refine kpC [(0,_),(3,_),(5,_),(6,_),(4,vR)] (csu U) ?_;have a9:a4∉z0v vR:=λh=>v0j hR hM dd a4 h<|l11.2 U;have b0:a1∉z0v vR:=λh=>v0j hR Z dd a1 h<|l11.2 U;have l1:=(hM.blk a4<|l11.2 U).2;have l2:=(Z.blk a1<|l11.2 U).2;obtain⟨AR,cR,rfl,l5⟩:=hR.sl.form;refine sq<|sr<|mv U U<|lnS U underlying32<|mv U U<|lt' U<|nn<|cd U (λc0=>?_)<|λc0=>?_;refine sk<|tn<|bl<|sc<|sr<|mv U U<|lnS U underlying32<|asg U<|nn<|sq<|lb<|tn<|sq<|sr<|mv U U<|lnS U underlying30<|mv U U<|nn<|bl<|lpK (ι:=Nat×List Int) (ll8 0 3 4 5 6 7 28 29) (λp=>[(30,.int .i64 (p.1:Int))]) (λp w'=>Fr [a1] w5 w'/\p.1<=6/\FstI (z2o ts) ms p.2 l.length/\(∀z,z<p.1->v6s (z2o ts) ms z)/\Lw.Own Enc.i64 3 w0.heap.size w' (.slice (saa a1) ts.length ts.length) p.2) (λp=>6-p.1) (0,uu) (csu U) ⟨l12 _ _,⟨l17 _,hF,λz h=>absurd h sp0,Z⟩⟩ ?_;rintro⟨y,vs⟩ w6 ⟨q6,⟨hy,hF,e4,Z⟩⟩;simp only at hy hF e4 Z;have z6:=q6.size;refine kpC [(0,_),(3,_),(4,_),(5,_),(6,_),(7,_),(28,_),(29,_),(30,.int .i64 (y:Int))] (csu U)<|sr<|lt' U<|nn<|sq<|cd U (λc1=>?_)<|λc1=>?_;have D:=g7.ext<|q5.z1 q6;have a6:y<6:=by omega
 have l9:=i2 y;have g8:=hF.lm;have i0:=hF.mb y a6;have h8:=(D _<|z1c (d:=tq0) (i:=y) oo).1.len_le;unfold maxLen at h8;refine sk<|tn<|sq<|bl<|sr<|mv U U ?_;have hs:=i3.ext<|q5.z1 q6;refine z0z (tq0) U hs U x2h z1j<|λj0 f6=>?_;refine z1b U (f6 _ hs) y2l<|asg U<|asg U<|nn<|sq<|sr<|mv U U<|mv U U ?_;have hM:=hM.fr q6 (by intro k D I;have D:=l11.1 D;have I:=l11.1 (show k∈[a4] from I);omega);refine z0z (0) U hM.sl U y0l z1j<|λj1 f7=>?_;refine z1b U (f7 _ hM.sl) na3<|mv U U<|lnS U underlying114<|eq' U<|kpL (ll12 0 3 4 5 6 7 8 9 28 29 30 41) (csu U)<|nn<|cd U (λc2=>?_)<|λc2=>?_;have e3:v6s (z2o ts) ms y:=.inl (by rw[z3x];omega);refine ex<|te<|xh<|tn<|rg<|z0w U (wi6 oo)<|mv U U<|nl ?_;exact lpE ((y+1,_)) (csu U) ⟨((l12 [a1] _).z1 q6),⟨sm,hF,λz h=>(by
  by_cases e:z<y;exact e4 z e;obtain rfl:z=y:=by simp only at h;omega
  exact e3),Z⟩⟩ sm
 have d9:ms.getD y 0<(z3h (z2o ts) y:Int):=by rw[z3x];rw[z3x]at i0;omega
 have b4:(ms.getD y 0).toNat<(ts.getD y tq0).2.length:=by rw[z3x]at d9;omega
 have e1:nd (z2o ts) y (ms.getD y 0)=z5p ((ts.getD y tq0).2.getD (ms.getD y 0).toNat lq0).p:=by unfold nd;rw[y3s]
 have h0:=v0l<|(ts.getD y tq0).2.getD (ms.getD y 0).toNat lq0;have b5:=(hv.ok.rts y a6 _ (by rw[z3x];exact b4)).1;rw[y3s]at b5;have k5:=z2e (z9i D (y:=y) (n:=(ms.getD y 0).toNat) oo b4).1;have k6:=z2e (z9i D (y:=y) (n:=(ms.getD y 0).toNat) oo b4).2;have l3:((ts.getD y tq0).2.getD (ms.getD y 0).toNat lq0).ths.length<=4:=b5.2.1.1;have l4:((ts.getD y tq0).2.getD (ms.getD y 0).toNat lq0).pas.length<=4096:=b5.2.1.2;refine sk<|tn<|sr<|mv U U<|mv U U<|mv U U<|z0z (0) U hM.sl U y0l z1j<|λj2 f8=>?_;refine z1b U (f8 _ hM.sl) na3<|z0z (lq0) U (D _<|z1c (d:=tq0) (i:=y) oo).1 U y5n z1j<|λj3 f9=>?_;refine z1q U (f9 _ (D _<|z1c (d:=tq0) (i:=y) oo).1) x5c<|al x8o U<|λf5 w7 j8 O q7 z7=>?_;refine z0j (vs:=[_,_,_,_]) U O v4u (λw8 O q8 z8=>?_) (h1:=(by first|(simp[Value.oneCell',S];done)|exact z7k.one<|(ts.getD y tq0).2.getD (ms.getD y 0).toNat lq0|exact z1g.one<|(z5p ((ts.getD y tq0).2.getD (ms.getD y 0).toNat lq0).p).getD (xs.getD y 0).toNat id0));refine kpL (ll11 0 3 4 5 6 7 8 10 28 29 30) (csu U)<|nn<|sq<|bl ?_;have Z:=(Z.ext q7).fr q8 (by intro k D I;have D:=l11.1 D;have I:=l11.1 (show k∈[a1] from I);omega);refine lpK (ι:=List Int) (ll11 0 3 4 5 6 7 8 10 28 29 30) (λp=>[]) (λp w'=>Fr [a1] w8 w'/\FstI (z2o ts) ms p l.length/\Lw.Own Enc.i64 3 w0.heap.size w' (.slice (saa a1) ts.length ts.length) p) (λp=>(z5p ((ts.getD y tq0).2.getD (ms.getD y 0).toNat lq0).p).length-(p.getD y 0).toNat) vs (csu U) ⟨l12 _ _,⟨hF,Z⟩⟩ ?_;rintro xs w9 ⟨q9,⟨hF,Z⟩⟩;have z9:=q9.size;refine kpC (ll11 0 3 4 5 6 7 8 10 28 29 30) (csu U) ?_;have h3:=hF.tb y a6;have g8:=hF.lm;have l8:=hF.lt;refine sq<|sq ?_;have O:=O.fr q9;intro a h;refine z0h none (λwb w'=>Fr [] wb w') z2s ?_;intro h5 a5;have m9:=a5.size;have O:=O.ext a5;have Z:=Z.ext a5;have hC:Fr [] h5 h5:=l12 _ _;have a2:=O;have a8:=Z;refine z0e 0 h U λa h=>z0e 1 h U λa h=>z1e (0) 2 h U Z.sl U y0l U ?_ (hp:=rfl);intro j4 g0 a h;refine z1z 3 h U (λ_ hw=>g0 _<|a8.sl.ext hw) na3 U λa h=>z0c 4 h U z7t U λa h=>z0m 5 h U (λ_ hw=>a2.ext hw) U z6q U λa h=>z7n 6 hC h wn U underlying32 U λa h=>z0c 7 h U z9o U λa h=>z0m 8 h U (λ_ hw=>a2.ext hw) U y0x U λa h=>z7n 9 hC h wn U underlying108 U λa h=>z6j 10 h U t13 U λa h=>v3u 11 hC h wn U U λa h=>z0q ?_;clear hC a2 a8;refine bk (h.sub (L':=ll12 0 3 4 5 6 7 8 10 28 29 30 60)<|csu U)<|tn<|cd U (λc3=>?_)<|λc3=>?_;have e8:xs.getD y 0<IntKind.i64.wrap ((((ts.getD y tq0).2.getD (ms.getD y 0).toNat lq0).th.2.1:Int)+(((ts.getD y tq0).2.getD (ms.getD y 0).toNat lq0).pa.2.1:Int)):=c3;rw[IntWalk.i64_in _ oo]at e8;have e2:(xs.getD y 0).toNat<(z5p ((ts.getD y tq0).2.getD (ms.getD y 0).toNat lq0).p).length:=by rw[h0];omega
 have g5:z5l (z2o ts) ((z5p ((ts.getD y tq0).2.getD (ms.getD y 0).toNat lq0).p).getD (xs.getD y 0).toNat id0):=b5.2.2.1 _<|z1c e2;have k4:=g5.1;have g6:=g5.2.1;rw[g9]at g6;have g8:=hF.lm;refine sk<|tn<|bl<|sq<|sq ?_;have D:=g7.ext<|q5.z5 q6 q7 q8 q9 a5;intro a h;refine z0h none (λwb w'=>Fr [] wb w') z2s ?_;intro f2 a7;have n7:=a7.size;have D:=D.ext a7;have O:=O.ext a7;have Z:=Z.ext a7;have hC:Fr [] f2 f2:=l12 _ _;have e7:=D;have a2:=O;have a8:=Z;refine z0x 0 h U (λ_ hw=>a2.ext hw) x5c U λa h=>z0e 1 h U λa h=>z0e 2 h U λa h=>z1e (0) 3 h U Z.sl U y0l U ?_ (hp:=rfl);intro j5 g1 a h;refine z1z 4 h U (λ_ hw=>g1 _<|a8.sl.ext hw) na3 U λa h=>z1u 5 6 kr U ?_ ?_;refine z0n h (z0a U<|z0a U z0f) (mkC func212) (u1f ((ts.getD y tq0).2.getD (ms.getD y 0).toNat lq0) (xs.getD y 0) _ (z9i D (y:=y) (n:=(ms.getD y 0).toNat) oo b4) h3 e2 ⟨b5.2.1.1,b5.2.1.2⟩) ?_;rintro _ i7 ⟨rfl,b6⟩ a h;have n8:=b6.size;have O:=O.ext b6;have hC:=hC.next b6;refine z0b<|z0d 6 U<|z0u h z8v U λm0 a0 b7 hz a h=>?_;obtain⟨b2,hg⟩:∃g,g=i7.heap.size:=⟨_,rfl⟩;rw[<-hg]at a0 h hz;have e0:f5<b2:=by have:=O.lt;omega
 have n9:=b7.size;have D:=D.ext<|b6.n1 b7;have O:=O.ext b7;have Z:=Z.ext<|b6.n1 b7;have hC:=hC.next b7;refine z0b<|z0d 7 U<|z0t h U a0 U y0i ?_ (h1:=(by first|(simp[Value.oneCell',S];done)|exact z7k.one<|(ts.getD y tq0).2.getD (ms.getD y 0).toNat lq0|exact z1g.one<|(z5p ((ts.getD y tq0).2.getD (ms.getD y 0).toNat lq0).p).getD (xs.getD y 0).toNat id0));intro i8 d4 b9 hz a h;have o0:=b9.size;have O:=O.fr b9;have Z:=Z.fr b9 (by intro k D I;have D:=l11.1 D;have I:=l11.1 (show k∈[a1] from I);omega);have hC:=hC.sp b9;have a0:Blk i8 b2 _ [_,_]:=d4;clear d4;refine z0b<|z0q ?_;clear hC e7 a2 a8;refine bk (h.sub (L':=ll12 0 3 4 5 6 7 8 10 11 28 29 30)<|csu U)<|tn<|sq ?_;have hM:=((((hM.ext q7).fr q8 (by intro k D I;have D:=l11.1 D;have I:=l11.1 (show k∈[a4] from I);omega)).fr q9 (by intro k D I;have D:=l11.1 D;have I:=l11.1 (show k∈[a4] from I);omega)).ext<|a5.n3 a7 b6 b7).fr b9 (by intro k D I;have D:=l11.1 D;have I:=l11.1 (show k∈[a4] from I);omega);intro a h;refine z0h none (λwb w'=>Fr [] wb w') z2s ?_;intro h6 c9;have o1:=c9.size;have hM:=hM.ext c9;have a0:=a0.ext c9;have hC:Fr [] h6 h6:=l12 _ _;have b3:=hM;have a3:=a0;refine z0c 0 h U y1e U λa h=>z0m 1 h U (λ_ hw=>a3.ext hw) U na3 U λa h=>z0e 2 h U λa h=>z0c 3 h U z9j U λa h=>z0m 4 h U (λ_ hw=>a3.ext hw) U na5 U λa h=>z3a 5 h U t23 U λa h=>z1e (0) 6 h U hM.sl U y0l U ?_ (hp:=rfl);intro f3 d5 a h;refine z1z 7 h U (λ_ hw=>d5 _<|b3.sl.ext hw) na3 U λa h=>u6w 8 hC h wn U U U U λa h=>z0q ?_;clear hC b3 a3;refine bk (h.sub (L':=ll12 0 3 4 5 6 7 8 10 28 29 30 75)<|csu U)<|tn<|cd U (λc4=>?_)<|λc4=>?_;have e3:v6s (z2o ts) ms y:=.inr ⟨d9,((z5p ((ts.getD y tq0).2.getD (ms.getD y 0).toNat lq0).p).getD (xs.getD y 0).toNat id0),by rw[e1];exact z1c e2,by unfold InM;omega⟩;refine ex<|te<|xo U<|te<|xo U<|te<|xh<|tn<|rg<|z0w U (wi6 oo)<|mv U U<|nl ?_;have Z:=Z.ext c9;exact lpE ((y+1,_)) (csu U) ⟨((((l12 [a1] _).z6 q6 q7 q8 q9 a5 a7).n1 b6).z3 b7 b9 c9),⟨sm,hF,λz h=>(by
  by_cases e:z<y;exact e4 z e;obtain rfl:z=y:=by simp only at h;omega
  exact e3),Z⟩⟩ sm
 have d3:=hF.there a6 (by rw[e1];unfold InM;omega);refine sk<|tn<|rg<|mv U U<|mv U U ?_;have Z:=Z.ext c9;refine z0z (0) U Z.sl U y0l z1j<|λf4 d6=>?_;refine z1b U (d6 _ Z.sl) na3<|z0w U (wi6 oo)<|z5h (p:=y) (E:=Enc.i64) U y0l<|z3g (i:=y) (xs.getD y 0+1) U Z (by rw[hF.lt];exact a6) U sz3<|λm1 Z i4 o2=>?_;exact kpL (ll11 0 3 4 5 6 7 8 10 28 29 30) (csu U)<|nl<|bn'<|lpE (_) (csu U) ⟨((((l12 [a1] _).z6 q9 a5 a7 b6 b7 b9).n1 c9).z1 i4),⟨d3,Z⟩⟩ (by rw[z5j (by rw[hF.lt];exact a6),if_pos U];omega);refine z0u h z8v U λm2 a0 b8 hz a h=>?_;obtain⟨b2,hg⟩:∃g,g=f2.heap.size:=⟨_,rfl⟩;rw[<-hg]at a0 h hz;have e0:f5<b2:=by have:=O.lt;omega
 have o3:=b8.size;have D:=D.ext b8;have hC:=hC.next b8;refine z0b<|z0d 5 U<|z0n h (z0a U<|z0a U z0f) (mkC func212) (u1f ((ts.getD y tq0).2.getD (ms.getD y 0).toNat lq0) (xs.getD y 0) _ (z9i D (y:=y) (n:=(ms.getD y 0).toNat) oo b4) h3 e2 ⟨b5.2.1.1,b5.2.1.2⟩) ?_;rintro _ m3 ⟨rfl,b1⟩ a h;have o4:=b1.size;have D:=D.ext b1;have O:=O.ext<|b8.n1 b1;have Z:=Z.ext<|b8.n1 b1;have a0:=a0.ext b1;have hC:=hC.next b1;refine z0b<|z0d 7 U<|z0t h U a0 U y0i ?_ (h1:=(by first|(simp[Value.oneCell',S];done)|exact z7k.one<|(ts.getD y tq0).2.getD (ms.getD y 0).toNat lq0|exact z1g.one<|(z5p ((ts.getD y tq0).2.getD (ms.getD y 0).toNat lq0).p).getD (xs.getD y 0).toNat id0));intro i9 d4 d0 hz a h;have o5:=d0.size;have O:=O.fr d0;have Z:=Z.fr d0 (by intro k D I;have D:=l11.1 D;have I:=l11.1 (show k∈[a1] from I);omega);have hC:=hC.sp d0;have a0:Blk i9 b2 _ [_,_]:=d4;clear d4;refine z0b<|z0q ?_;clear hC e7 a2 a8;refine bk (h.sub (L':=ll12 0 3 4 5 6 7 8 10 11 28 29 30)<|csu U)<|tn<|sq ?_;have hM:=((((hM.ext q7).fr q8 (by intro k D I;have D:=l11.1 D;have I:=l11.1 (show k∈[a4] from I);omega)).fr q9 (by intro k D I;have D:=l11.1 D;have I:=l11.1 (show k∈[a4] from I);omega)).ext<|a5.n3 a7 b8 b1).fr d0 (by intro k D I;have D:=l11.1 D;have I:=l11.1 (show k∈[a4] from I);omega);intro a h;refine z0h none (λwb w'=>Fr [] wb w') z2s ?_;intro h7 d1;have o6:=d1.size;have hM:=hM.ext d1;have a0:=a0.ext d1;have hC:Fr [] h7 h7:=l12 _ _;have b3:=hM;have a3:=a0;refine z0c 0 h U y1e U λa h=>z0m 1 h U (λ_ hw=>a3.ext hw) U na3 U λa h=>z0e 2 h U λa h=>z0c 3 h U z9j U λa h=>z0m 4 h U (λ_ hw=>a3.ext hw) U na5 U λa h=>z3a 5 h U t23 U λa h=>z1e (0) 6 h U hM.sl U y0l U ?_ (hp:=rfl);intro f3 d5 a h;refine z1z 7 h U (λ_ hw=>d5 _<|b3.sl.ext hw) na3 U λa h=>u6w 8 hC h wn U U U U λa h=>z0q ?_;clear hC b3 a3;refine bk (h.sub (L':=ll12 0 3 4 5 6 7 8 10 28 29 30 75)<|csu U)<|tn<|cd U (λc4=>?_)<|λc4=>?_;have e3:v6s (z2o ts) ms y:=.inr ⟨d9,((z5p ((ts.getD y tq0).2.getD (ms.getD y 0).toNat lq0).p).getD (xs.getD y 0).toNat id0),by rw[e1];exact z1c e2,by unfold InM;omega⟩;refine ex<|te<|xo U<|te<|xo U<|te<|xh<|tn<|rg<|z0w U (wi6 oo)<|mv U U<|nl ?_;have Z:=Z.ext d1;exact lpE ((y+1,_)) (csu U) ⟨((((l12 [a1] _).z6 q6 q7 q8 q9 a5 a7).n1 b8).z3 b1 d0 d1),⟨sm,hF,λz h=>(by
  by_cases e:z<y;exact e4 z e;obtain rfl:z=y:=by simp only at h;omega
  exact e3),Z⟩⟩ sm
 have d3:=hF.there a6 (by rw[e1];unfold InM;omega);refine sk<|tn<|rg<|mv U U<|mv U U ?_;have Z:=Z.ext d1;refine z0z (0) U Z.sl U y0l z1j<|λf4 d6=>?_;refine z1b U (d6 _ Z.sl) na3<|z0w U (wi6 oo)<|z5h (p:=y) (E:=Enc.i64) U y0l<|z3g (i:=y) (xs.getD y 0+1) U Z (by rw[hF.lt];exact a6) U sz3<|λm4 Z i5 o7=>?_;exact kpL (ll11 0 3 4 5 6 7 8 10 28 29 30) (csu U)<|nl<|bn'<|lpE (_) (csu U) ⟨((((l12 [a1] _).z6 q9 a5 a7 b8 b1 d0).n1 d1).z1 i5),⟨d3,Z⟩⟩ (by rw[z5j (by rw[hF.lt];exact a6),if_pos U];omega);have e8:¬xs.getD y 0<IntKind.i64.wrap ((((ts.getD y tq0).2.getD (ms.getD y 0).toNat lq0).th.2.1:Int)+(((ts.getD y tq0).2.getD (ms.getD y 0).toNat lq0).pa.2.1:Int)):=c3;rw[IntWalk.i64_in _ oo]at e8;have d3:=hF.push hH a6 d9 (by rw[e1,h0];omega);refine ex<|te<|te<|xh<|tn<|sr<|mv U U<|mv U U<|z0w U (wi6 oo)<|z3u U (us underlying3) underlying5 (wi8 oo)<|mv U U<|mv U U ?_;have hM:=(((hM.ext q7).fr q8 (by intro k D I;have D:=l11.1 D;have I:=l11.1 (show k∈[a4] from I);omega)).fr q9 (by intro k D I;have D:=l11.1 D;have I:=l11.1 (show k∈[a4] from I);omega)).ext a5;refine z0z (0) U hM.sl U y0l z1j<|λj6 g3=>?_;refine z1b U (g3 _ hM.sl) na3<|z1t (cs:=[_,_]) (ev2 U) k7k (z0g U<|z0g U z0r) U ?_;refine z1i ([(⟨(y:Int)+1,ms.getD y 0⟩:LId)]) (ev1 U) U z4l<|λl0 m5 k2 h2 e5 o8=>?_;have hM:=hM.ext e5;have Z:=Z.ext e5;have hR:=((((hR.fr q6 (by intro k D I;rw[l11.1 D]at I;first|exact a9 I|exact b0 I|(have h_:=(hR.blk _ I).2;omega))).ext q7).fr q8 (by intro k D I;rw[l11.1 D]at I;first|exact a9 I|exact b0 I|(have h_:=(hR.blk _ I).2;omega))).fr q9 (by intro k D I;rw[l11.1 D]at I;first|exact a9 I|exact b0 I|(have h_:=(hR.blk _ I).2;omega))).ext<|a5.n1 e5;have e9:=hR;refine z2h U hR h2.sl z4l (λh4 m6 hR e6 i1=>?_) (hM:=t59) (hb:=t52);have o9:=e6.size;have hM:=hM.fr e6<|λk D I=>a9 (by have e:=l11.1 (show k∈[a4] from I);rw[<-e];exact D);have Z:=Z.fr e6<|λk D I=>b0 (by have e:=l11.1 (show k∈[a1] from I);rw[<-e];exact D);clear a9 b0;have a9:a4∉z0v h4:=λh=>v0j hR hM dd a4 h<|l11.2 U;have b0:a1∉z0v h4:=λh=>v0j hR Z dd a1 h<|l11.2 U;obtain⟨k7,k8,rfl,_⟩:=hR.sl.form;refine asg U<|kpL (ll7 0 3 4 5 6 7 8) (csu U)<|nn<|sr<|mv U U<|mv U U<|z0z (0) U hM.sl U y0l z1j<|λj7 g4=>?_;refine z1b U (g4 _ hM.sl) na3<|z0w U (wi6 oo)<|z5h (p:=y) (E:=Enc.i64) U y0l<|z3g (i:=y) (ms.getD y 0+1) U hM (by rw[hF.lm];exact a6) U sz3<|λm7 hM f0 p0=>?_;refine kpL (ll7 0 3 4 5 6 7 8) (csu U)<|nn<|sr<|mv U U<|mv U U ?_;have Z:=Z.fr f0 (by intro k D I;have D:=l11.1 D;have I:=l11.1 (show k∈[a1] from I);omega);refine z5h (p:=y) (E:=Enc.i64) U y0l<|z3g (i:=y) (0) U Z (by rw[hF.lt];exact a6) U sz3<|λm8 Z f1 p1=>?_;refine nn<|ex<|xo U<|te<|te<|xh<|tn<|sr<|mv U U<|lnS U underlying32<|mv U U<|eq' U<|nn<|cd U (λc5=>?_)<|λc5=>?_;exfalso;simp only[l13,l33,l57]at c5;omega;skip;refine sk<|gn'<|bn' ?_;have hR:=(hR.fr f0 (by intro k D I;rw[l11.1 D]at I;first|exact a9 I|exact b0 I|(have h_:=(hR.blk _ I).2;omega))).fr f1 (by intro k D I;rw[l11.1 D]at I;first|exact a9 I|exact b0 I|(have h_:=(hR.blk _ I).2;omega));have hM:=hM.fr f1 (by intro k D I;have D:=l11.1 D;have I:=l11.1 (show k∈[a4] from I);omega);exact lpE ((_,_,_,_)) (csu U) ⟨(((q5.z6 q6 q7 q8 q9 a5 e5).step e6<|λk D d9=>absurd (e9.blk k D).1 oo).z2 f0 f1),⟨by simpa using d3,hR,hM,Z⟩⟩ t52;obtain rfl:y=6:=by omega
 have h9:=hF.done hH e4 hv.ok.ord;refine ex<|te<|te<|xh<|tn<|sr<|mv U U<|lnS U underlying32<|mv U U<|eq' U<|kpL (ll6 0 3 4 5 6 106) (csu U)<|nn<|cd U (λc5=>?_)<|λc5=>?_;have d7:l.length=z4r (z2o ts):=h9;refine ex<|gx'<|xo U<|te<|xh<|tn<|sr<|mv U U<|asg U<|kpL (ll1 2) (csu U)<|nn<|rt<|r1 results186 U ?_;have hR:=hR.fr q6 (by intro k D I;rw[l11.1 D]at I;first|exact a9 I|exact b0 I|(have h_:=(hR.blk _ I).2;omega));exact⟨_,rfl,l,hR,d7,(q5.z1 q6)⟩;exact absurd U c5;have d7:l.length=z4r (z2o ts):=by have:=hF.leI oo;omega
 exact ex<|te<|te<|xh<|tn<|sr<|mv U U<|asg U<|kpL (ll1 2) (csu U)<|nn<|rt<|r1 results186 U ⟨_,rfl,l,hR,d7,q5⟩
theorem x9y:z1d prog 34 1 1:=λ_ _=>kr
theorem k5x:z2a prog 31:=λ_=>kr
theorem j9t:z2a prog 218:=λ_=>kr
theorem v4a (v:Value)(l:List LId)(w0:World)(hs:Sl z1g w0 v l)(hl:l.length<=100000):Rets prog 187 #[v] w0 λr w'=>∃A,r=.slice A l.length l.length/\Lw.Own z1g 54 w0.heap.size w' r l/\Fr [] w0 w':=by
 obtain⟨A,c,rfl,a0,hM,hA⟩:=id hs;clear hA;unfold maxLen at hM;refine we [(0,.slice A l.length c)] func187 U ntmps187 U (.cons U .nil) ?_;have I:=hs;refine sr<|asg U<|nn<|sr<|mv U U<|lnS U underlying32<|z1f (m:=l.length) (c:=l.length) (id0) U z4l z8v U<|λZ w1 a1 D O z1=>(asg U<|nn<|sr<|mv U U<|mv U U ?_);have hs:=I.ext O;refine z9g (zs:=List.replicate l.length id0) t34 U (by rw[l23];exact D) hs t35 z4l<|λw2 D q2 z2=>?_;rw[l23]at D;exact nn<|sr<|mv U U<|asg U<|nn<|rt<|r1 results187 U ⟨_,rfl,some ⟨Z,0,none⟩,rfl,D.low oo,(O.z1 q2)⟩
theorem v7m (v:Value)(ts:List TQ)(w0:World)(hs:Sl z4x w0 v ts)(D:TabAt w0 ts)(hl:ts.length=6)(hv:TabV (z2o ts)):Rets prog 138 #[v] w0 λr w'=>∃u,r=.tuple #[u,.int .i64 0]/\Fr [] w0 w':=by
 obtain⟨A,c,rfl,a6,hM,hA⟩:=id hs;clear hA;unfold maxLen at hM;have a9:=z7c D;have a7:z4r (z2o ts)<=2048:=hv.ok.cnt;refine we [(0,.slice A ts.length c)] func138 U ntmps138 U (.cons U .nil) ?_;have O:=hs;have I:=D;refine sr<|asg U<|asg U<|nn<|sq<|sr<|mv U U<|lnS U underlying30<|ne' U<|nn<|cd U (λc0=>?_)<|λc0=>?_;refine sr<|asg U<|asg U<|nn<|rt<|tr<|r2 results138 U U ?_;exact t54;refine sk<|tn<|sq<|sr<|mv U U<|cl (ev1 U) (mkC func147) (y4z _ _ _ hs D oo) U ?_;rintro _ w1 ⟨rfl,Z⟩;refine gt' U<|nn<|cd U (λc1=>?_)<|λc1=>?_;refine sr<|asg U<|asg U<|nn<|rt<|tr<|r2 results138 U U ?_;exact t54;refine sk<|tn<|sq<|sr<|mv U U ?_;have hs:=O.ext Z;have D:=I.ext Z;refine cl (ev1 U) (mkC func184) (u1t _ _ _ hs D hl hv.ok) U ?_;rintro _ w2 ⟨rfl,q2⟩;refine asg U<|nn<|sr<|mv U U<|ne' U<|nn<|cd U (λc2=>?_)<|λc2=>?_;refine sr<|mv U U<|asg U<|asg U<|nn<|rt<|tr<|r2 results138 U U ?_;exact t54;refine sk<|tn<|sq<|sr<|mv U U ?_;have hs:=O.ext<|Z.n1 q2;have D:=I.ext<|Z.n1 q2;refine cl (ev1 U) (mkC func185) (j5x _ _ _ hs D hl hv) U ?_;rintro _ w3 ⟨rfl,q3⟩;refine asg U<|nn<|sr<|mv U U<|ne' U<|nn<|cd U (λc3=>?_)<|λc3=>?_;refine sr<|mv U U<|asg U<|asg U<|nn<|rt<|tr<|r2 results138 U U ?_;exact t54;refine sk<|tn<|sr<|mv U U ?_;have hs:=O.ext<|Z.n2 q2 q3;have D:=I.ext<|Z.n2 q2 q3;refine cl (ev1 U) (mkC func186) (u5e _ _ _ hs D hl hv) U ?_;rintro a4 w4 ⟨l,ho,a8,q4⟩;obtain⟨a2,a5,rfl,a0⟩:=ho.sl.form;refine asg U<|nn<|sq<|sr<|mv U U<|lnS U underlying32<|mv U U ?_;have hs:=O.ext<|Z.n3 q2 q3 q4;have D:=I.ext<|Z.n3 q2 q3 q4;refine cl (ev1 U) (mkC func147) (y4z _ _ _ hs D oo) U ?_;rintro _ w5 ⟨rfl,q5⟩;refine lt' U<|nn<|cd U (λc4=>?_)<|λc4=>?_;refine sr<|asg U<|asg U<|nn<|rt<|tr<|r2 results138 U U ?_;exact t54;refine sk<|tn<|sr<|mv U U ?_;have ho:=ho.ext q5;refine cl (ev1 U) (mkC func187) (v4a _ _ _ ho.sl oo) U ?_;rintro _ w6 ⟨a3,rfl,a1,q6⟩;exact asg U<|asg U<|nn<|rt<|r2 results138 U U ⟨_,rfl,_,rfl,(Z.n5 q2 q3 q4 q5 q6)⟩
theorem j2i (v:Value)(ts:List TQ)(w0:World)(hs:Sl z4x w0 v ts)(D:TabAt w0 ts)(hl:ts.length=6)(hv:TabV (z2o ts)):Rets prog 101 #[v] w0 λr w'=>r=.int .i64 0/\Fr [] w0 w':=by
 obtain⟨A,c,rfl,Z,O,I⟩:=id hs;clear I;unfold maxLen at O;have a1:=z7c D;refine we [(0,.slice A ts.length c)] func101 U ntmps101 U (.cons U .nil) ?_;have a2:=hs;have a0:=D;refine sr<|asg U<|nn<|sr<|mv U U<|cl (ev1 U) (mkC func138) (v7m _ _ _ hs D hl hv) U ?_;rintro _ w1 ⟨v7,rfl,q1⟩;exact mv U U<|xt U<|xt U<|asg U<|asg U<|kpL (ll1 4) (csu U)<|nn<|sr<|mv U U<|asg U<|nn<|rt<|r1 results101 U ⟨_,rfl,rfl,q1⟩
theorem j2m (D g:Nat)(p:List LId)(A:Option Addr)(m c:Nat)(w0:World)(a0:m=0)(O:Blk w0 D 218 [.map (some g)])(Z:MapZ idV w0 g (.int .i64 0) (x1p p)):Rets prog 141 #[.slice A m c,pta D] w0 λr w'=>MapZ idV w' g (.int .i64 0) (x1p p)/\Fr [g] w0 w':=by
 refine we [(0,.slice A m c),(1,pta D)] func141 U ntmps141 U (.c2 U U)<|sr<|mv U U<|lnS U underlying32<|mv U U<|nn<|bl<|lpK (ι:=Nat) (ll3 1 5 6) (λk=>[(7,.int .i64 (k:Int))]) (λk w'=>Fr [] w0 w'/\k<=m) (λk=>m-k) 0 (csu U) ⟨l12 _ _,l17 _⟩ ?_;rintro k w1 ⟨I,hi⟩;refine kpC (ll4 1 5 6 7) (csu U)<|sr<|lt' U ?_;rw[show decide ((k:Int)<(m:Int))=false from decide_eq_false oo];exact nn<|sq<|cf U<|ex<|te<|te<|xh<|r0n results141  ⟨_,rfl,Z.ext I,(l12 [g] _).next I⟩
theorem j3o (gp g:Nat)(p:List LId)(v:Value)(l:List LId)(w0:World)(hs:Sl z1g w0 v l)(I:Blk w0 gp 218 [.map (some g)])(O:MapZ idV w0 g (.int .i64 0) (x1p p))(a5:g∉z0v v)(a4:∀k,k<l.length->(p++l.take k).count (l.getD k id0)<=100000):Rets prog 141 #[v,pta gp] w0 λr w'=>MapZ idV w' g (.int .i64 0) (x1p<|p++l)/\Fr [g] w0 w':=by
 obtain⟨A,c,rfl,b3,hM,hA⟩:=id hs;clear hA;unfold maxLen at hM;have b1:=O.ne_blk I;have b5:=I.lt;have b0:=O.lt;refine we [(0,.slice A l.length c),(1,pta gp)] func141 U ntmps141 U (.c2 U U) ?_;have a8:=hs;refine sr<|mv U U<|lnS U underlying32<|mv U U<|nn<|bl<|lpK (ι:=Nat) (ll3 1 5 6) (λk=>[(7,.int .i64 (k:Int))]) (λk w'=>Fr [g] w0 w'/\k<=l.length/\MapZ idV w' g (.int .i64 0) (x1p<|p++l.take k)) (λk=>l.length-k) 0 (csu U) ⟨l12 _ _,⟨l17 _,by rw[l93,l26];exact O⟩⟩ ?_;rintro k w1 ⟨q1,⟨hk,O⟩⟩;have z1:=q1.size;refine kpC (ll4 1 5 6 7) (csu U)<|sr<|lt' U<|nn<|sq<|cd U (λc0=>?_)<|λc0=>?_;have a9:=a4 k oo;refine sk<|tn<|sq<|bl<|sr ?_;have hs:=a8.fr ((l12 [g] _).z1 q1) (by intro k_ a6 a2;rw[l11.1 a6]at a2;exact a5 a2);refine z0z (id0) U hs U z4l z1j<|λb2 a3=>?_;refine z1q U (a3 _ hs) z3b<|al z8v U<|λg4 w2 b4 D q2 z2=>?_;refine z0j (vs:=[_,_]) U D y0i (λw3 D q3 z3=>?_) (h1:=t26);refine nn ?_;have I:=((I.fr q1 t29).ext q2).fr q3 t29;have O:=(O.ext q2).fr q3 t49;intro a h;refine z0h none (λwb w'=>Fr [g] wb w') z2s ?_;intro w4 q4;have z4:=q4.size;have I:=I.ext q4;have O:=O.ext q4;have D:=D.ext q4;have hC:Fr [g] w4 w4:=l12 _ _;have a0:=I;have a1:=O;have Z:=D;refine z7e 0 hC h wn U (λ_ hw=>a0.fr hw t29) j9t U U λa h=>z0x 1 h U (λ_ hw=>Z.fr hw t29) z3b U λa h=>z1u 2 4 kr U ?_ ?_;refine z7v (V:=idV) (z:=(.int .i64 0)) (k:=(l.getD k id0)) (v:=.int .i64 ((((p++l.take k)).count (l.getD k id0):Nat):Int)) h U U O z6v underlying218 zvI U U λa h=>z0b<|z6j 3 h U t13 U λa h=>z0d 4 U ?_;have a7:=O.ne_blk D;refine z7m (V:=idV) (z:=(.int .i64 0)) (k:=(l.getD k id0)) h U U O z6v underlying218 zvI U λw5 b6 he q5 z5 a h=>?_;have O:=he.map;have D:=D.fr q5 t29;have I:=I.fr q5 t29;have hC:=hC.step q5 sp0;refine z0b<|z0k 5 h U λa h=>z0d 6 U<|z6e (V:=idV) (z:=(.int .i64 0)) (k:=(l.getD k id0)) h U U U he ?_;clear h a he O;intro w6 O q6 z6 a h;replace O:MapZ idV w6 g (.int .i64 0) (x1p<|(p++l.take k)++[(l.getD k id0)]):=by rw[<-y9w];exact O
 have D:=D.fr q6 t29;have I:=I.fr q6 t29;have hC:=hC.step q6 sp0;refine z0b<|z0q ?_;clear hC a0 a1 Z;exact bk (h.sub (L':=ll4 1 5 6 7)<|csu U)<|bn'<|tn<|rg<|z0w U (wi6 oo)<|mv U U<|nl<|lpE (k+1) (csu U) ⟨((l12 [g] _).z6 q1 q2 q3 q4 q5 q6),⟨oo,by rw[z6f id0 oo,<-l14];exact O⟩⟩ oo;have a7:=O.ne_blk D;refine z7m (V:=idV) (z:=(.int .i64 0)) (k:=(l.getD k id0)) h U U O z6v underlying218 zvI U λw7 b7 he q7 z7 a h=>?_;have O:=he.map;have D:=D.fr q7 t29;have I:=I.fr q7 t29;have hC:=hC.step q7 sp0;refine z0b<|z0k 5 h U λa h=>z0d 2 U<|z7v (V:=idV) (z:=(.int .i64 0)) (k:=(l.getD k id0)) (v:=.int .i64 ((((p++l.take k)).count (l.getD k id0):Nat):Int)) h U U O z6v underlying218 zvI U U λa h=>?_;refine z0b<|z6j 3 h U t13 U λa h=>z0d 6 U<|z6e (V:=idV) (z:=(.int .i64 0)) (k:=(l.getD k id0)) h U U U he ?_;clear h a he O;intro w8 O q8 z8 a h;replace O:MapZ idV w8 g (.int .i64 0) (x1p<|(p++l.take k)++[(l.getD k id0)]):=by rw[<-y9w];exact O
 have D:=D.fr q8 t29;have I:=I.fr q8 t29;have hC:=hC.step q8 sp0;refine z0b<|z0q ?_;clear hC a0 a1 Z;exact bk (h.sub (L':=ll4 1 5 6 7)<|csu U)<|bn'<|tn<|rg<|z0w U (wi6 oo)<|mv U U<|nl<|lpE (k+1) (csu U) ⟨((l12 [g] _).z6 q1 q2 q3 q4 q7 q8),⟨oo,by rw[z6f id0 oo,<-l14];exact O⟩⟩ oo;obtain rfl:k=l.length:=by omega
 rw[l38]at O;exact ex<|te<|te<|xh<|r0n results141  ⟨_,rfl,O,((l12 [g] _).z1 q1)⟩
theorem x7j (I g:Nat)(p:List LId)(v:Value)(l:List LId)(wS w0:World)(hS:Sl z1g wS v l)(hg:wS.heap.size<=g)(hs:Sl z1g w0 v l)(D:Blk w0 I 218 [.map (some g)])(Z:MapZ idV w0 g (.int .i64 0) (x1p p))(O:∀k,k<l.length->(p++l.take k).count (l.getD k id0)<=100000):Rets prog 141 #[v,pta I] w0 λr w'=>MapZ idV w' g (.int .i64 0) (x1p<|p++l)/\Fr [g] w0 w':=by
 by_cases e:l=[];subst e;obtain⟨A,c,rfl,_⟩:=hs.form;rw[l26];exact j2m I g p A _ c w0 U D Z;exact j3o I g p v l w0 hs D Z (λh=>by have:=hS.blk e g h;omega) O
def hfv (q:FbQ)(z:Nat):SV:=if z=0 then q.h else q.f
def hfl (q:FbQ)(z:Nat):List LId:=if z=0 then q.hs else q.fs
theorem u5s {q:FbQ}{w:World}(h:FbAt w q)(z:Nat):Sl z1g w (slv<|hfv q z) (hfl q z):=by
 unfold hfv hfl;split;exact h.h;exact h.f
theorem k2w {q:FbQ}(z:Nat){i:LId}(h:i∈hfl q z):i∈q.hs++q.fs:=by
 unfold hfl at h;split at h;exact l66 _ h;exact l68 _ h
theorem k8h {q:FbQ}{z:Nat}(h:z<2):[Value.slice q.h.1 q.h.2.1 q.h.2.2,.slice q.f.1 q.f.2.1 q.f.2.2][(z:Int).toNat]?=some (.slice (hfv q z).1 (hfv q z).2.1 (hfv q z).2.2):=by
 obtain rfl|rfl:z=0\/z=1:=by omega
 rfl;rfl
theorem j0c:z3z prog 34 4:=⟨λ_=>kr,λ_=>kr⟩
theorem k6w:BuildAt prog 217 [(0,1),(1,1)] [(.slice none 0 0),(.slice none 0 0)]:=BuildAt.array (sz:=1) underlying217 (λ_=>kr) (λ_=>kr) (λi q h=>by match i,h with|0,h=>simpa using h.symm|1,h=>simpa using h.symm|(k+2),h=>simp at h)
theorem y4k:z1d prog 34 0 0:=λ_ _=>kr
theorem z9h:z1d prog 34 2 2:=λ_ _=>kr
theorem x2t:z1d prog 34 3 3:=λ_ _=>kr
theorem v1r:z2a prog 30:=λ_=>kr
theorem j1b:z1r prog 32 1:=λ_=>kr
theorem k7h:z1r prog 218 1:=λ_=>kr
theorem k8n (w:World):(zeroValue 218).run prog w=.ok (.map none) w:=kr
theorem y3z:z1r prog 48 2:=λ_=>kr
theorem v0f (w:World):(zeroValue 48).run prog w=.ok (.agg #[(.int .u8 0),(.int .i64 0)]) w:=kr
theorem x6b (r:Int)(w0:World):Rets prog 148 #[.int .i64 r] w0 λv w'=>v=.bool (decide (-4<=r/\r<=4))/\Fr [] w0 w':=by
 refine we [(0,.int .i64 r)] func148 U ntmps148 U (.cons U .nil)<|sr<|asg U<|nn<|sq<|rbo (r:=2) (L':=[]) (((-4<=r)/\(r<=4))) .nil ?_ ?_;refine mv U U<|ge' U<|mv U U<|gs 5 U (λD=>?_)<|λD=>?_;exact gY U<|mv U U<|gY U<|le' U U<|pkt U<|asg U<|rbe U .nil;exact gN U<|gN U<|pkf U<|asg U<|rbe U .nil;exact tn<|rt<|r1 results148 U ⟨_,rfl,rfl,(l12 _ _)⟩
theorem y3q (b p r:Int)(w0:World)(hp:-9223372036854775808<=p/\p<=9223372036854775807):Rets prog 113 #[.agg #[.int .u8 b,.int .i64 p],.int .i64 r] w0 λv w'=>v=.int .i64 (z2c b p r)/\Fr [] w0 w':=by
 refine we [(0,.agg #[.int .u8 b,.int .i64 p]),(1,.int .i64 r)] func113 U ntmps113 U (.c2 U U)<|sr<|bx U<|λg2 w1 a2 D q1 z1=>(asg U<|nn<|sq<|sq<|v7n (r:=12) (L':=ll2 1 2) ((((z4a b p)≠0)\/(¬(-4<=r/\r<=4)))) (csu U) ?_ ?_);refine z0l U D z5o<|cl (ev1 U) u8y (z5m _ _ _) U ?_;rintro _ w2 ⟨rfl,q2⟩;refine ne' U<|mv U U<|gs 8 U (λg0=>?_)<|λg0=>?_;exact gN U<|gN U<|gN U<|pkt U<|y3a U (csu U) q2;refine gY U<|mv U U<|gY U<|cl (ev1 U) (mkC func148) (x6b _ _) U ?_;rintro _ w3 ⟨rfl,q3⟩;exact gY U<|nt' U<|pkf U<|y3a U (csu U)<|q2.n1 q3;intro w4 O;have z4:=O.size;refine tn<|cd U (λI=>?_)<|λI=>?_;exact sr<|asg U<|nn<|rt<|tr<|r1 results113 U ⟨_,rfl,by rw[z2c,if_pos I],(q1.n1 O)⟩;have a0:z4a b p=0:=l18.1<|λe=>I<|.inl e;have a3:-4<=r/\r<=4:=l18.1<|λe=>I<|.inr e;have a1:=z2w a0;refine sk<|tn<|sq<|sr<|fad U z6s ?_;have D:=D.ext O;refine z0i U D U x7o<|eq' U<|nn<|cd U (λZ=>?_)<|λZ=>?_;exact sr<|fad U z6u<|z0i U D U na3<|x0b U U (wi6 oo)<|z0w U (wi6 oo)<|asg U<|kpL (ll1 4) (csu U)<|nn<|rt<|tr<|r1 results113 U ⟨_,rfl,by rw[z2c,if_neg I,if_pos Z],(q1.n1 O)⟩;exact sk<|tn<|sr<|fad U z6u<|z0i U D U na3<|mv U U<|z0w U (wi6 oo)<|x0b U U (wi6 oo)<|asg U<|kpL (ll1 4) (csu U)<|nn<|rt<|r1 results113 U ⟨_,rfl,by rw[z2c,if_neg I,if_neg Z],(q1.n1 O)⟩
end Go.Proofs.YtkafbfjmcigaiaaGreatDoor
