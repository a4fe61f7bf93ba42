/- Texts of the proof, joined. -/
import Derived.Laws.CopyRow
import Derived.Lib.AppendZerosOnto
import Derived.Test.YtlfdhllfmoplgaaGreatDoorRows
import Derived.Laws.RangeString
import Derived.Test.YtlfdhllfmoplgaaGreatDoorQE1
set_option linter.unusedVariables false
set_option linter.unusedSimpArgs false
set_option maxHeartbeats 4000000
namespace Go.G08
open Go.Lw Go.G21
abbrev Bed:=List (List LId)
structure Bd where
  f:Bed
  b:Bed
deriving DecidableEq
def trimB:Bed->Bed
  | []=>[]
  | s::l=>if trimB l=[]/\s=[] then [] else s::trimB l
def atB (l:Bed)(n:Int):List LId:=l.getD (n-1).toNat []
def Bd.at (B:Bd)(b n:Int):List LId:=if b=0 then atB B.f n else atB B.b n
def Bd.atC (B:Bd)(b n:Int):List LId:=if z4g b n=0 then B.at b n else []
def x2c (l:Bed)(n:Nat):Bed:=l++List.replicate (n-l.length) []
def y5o (l:Bed)(n:Nat)(s:List LId):Bed:=trimB (if n=0 then l else (x2c l n).set (n-1) s)
def Bd.put (B:Bd)(b n:Int)(s:List LId):Bd:=if b=0 then ⟨y5o B.f n.toNat s,trimB B.b⟩ else ⟨trimB B.f,y5o B.b n.toNat s⟩
def Bd.flat (B:Bd):List LId:=B.f.flatten++B.b.flatten
structure BdOk (B:Bd):Prop where
  lf:B.f.length<=40
  lb:B.b.length<=40
  ss:∀s∈B.f++B.b,s.length<=4
  nm:∀i∈B.flat,y1j i
  nd:B.flat.Nodup
structure BdW (B:Bd):Prop where
  lf:B.f.length<=40
  lb:B.b.length<=40
  ss:∀s∈B.f++B.b,s.length<=4
  nm:∀i∈B.flat,y1j i
theorem BdOk.w {B:Bd}(h:BdOk B):BdW B:=⟨h.lf,h.lb,h.ss,h.nm⟩
def z4v (b n r:Int):Int:=if z4g b n≠0\/¬(-4<=r/\r<=4) then 0 else if b=0 then 4*n+2 else 4*(n+r)
structure Hd where
  id:LId
  b:Int
  n:Int
  s:Int
deriving DecidableEq
def hd0:Hd:=⟨id0,0,0,0⟩
def hdS (b r:Int)(k:Nat)(x:LId):Hd:=⟨x,b,(k:Int)+1,z4v b ((k:Int)+1) r⟩
def hds (b r:Int)(l:Bed)(i:Nat):List Hd:=(List.range i).flatMap λk=>(l.getD k []).map (hdS b r k)
def v4i (B:Bd)(r:Int):List Hd:=hds 0 r B.f B.f.length++hds 1 r B.b B.b.length
def y1y (h:Hd):List Hd->List Hd
  | []=>[h]
  | x::l=>if h.s<x.s then h::x::l else x::y1y h l
def z5i (l:List Hd):List Hd:=l.foldl (λa h=>y1y h a) []
def z2t (B:Bd)(r:Int):List Hd:=z5i (v4i B r)
def btw (l:List Hd)(fr to:Int):List Pa:=
  if fr<to then (l.filter λh=>decide (fr<h.s/\h.s<to)).map λh=>⟨h.id,decide (h.b=1),1⟩
  else ((l.filter λh=>decide (to<h.s/\h.s<fr)).map λh=>⟨h.id,decide (h.b=1),0⟩).reverse
def x6l (d:Int)(x o:LId):Cx:=if d=0 then ⟨o,x,1⟩ else ⟨x,o,-1⟩
def y0i (r d:Int)(k:Nat):Int:=if d=0 then (k:Int)+1+r-1 else (k:Int)+1+r
def u0j (B:Bd)(r d:Int)(k:Nat):List Cx:=(B.b.getD k []).flatMap λx=>(B.atC 0 (y0i r d k)).reverse.map (x6l d x)
def x6y (B:Bd)(r d:Int)(i:Nat):List Cx:=(List.range i).flatMap (u0j B r d)
def z3d (B:Bd)(r d:Int):List Cx:=if d=1 then (x6y B r d B.b.length).reverse else x6y B r d B.b.length
def stI (d:Int):Int:=if d=0 then -1 else 1
def x0d (B:Bd)(r d p:Int)(k:Nat):List Pa:=if p≠z4v 1 ((k:Int)+1) r+stI d/\p≠z4v 1 ((k:Int)+1) r+3*stI d then [] else (B.b.getD k []).map λx=>⟨x,true,1-d⟩
def y5m (B:Bd)(r d p:Int)(i:Nat):List Pa:=(List.range i).flatMap (x0d B r d p)
def z6p (B:Bd)(r d p:Int):List Pa:=if d=1 then (y5m B r d p B.b.length).reverse else y5m B r d p B.b.length
def z6k (a b:LId):Int:=if a.y<b.y then -1 else if b.y<a.y then 1 else if a.n<b.n then -1 else if b.n<a.n then 1 else 0
def isC (a b:LId)(c:Cx):Bool:=decide (c.a=a/\c.b=b)
def y5t (l:List Cx)(a b:LId):Int:=((l.find? (isC a b)).map Cx.n).getD 0
def y9l (l:List Cx)(a b:LId)(n:Int):List Cx:=if l.any (isC a b) then l.map (λc=>if isC a b c then ⟨a,b,n⟩ else c) else l++[⟨a,b,n⟩]
def x8u (l:List Cx)(a b:LId):List Cx:=l.filter λc=>!isC a b c
def x0x (l:List Cx)(c:Cx):Except Int (List Cx):=
  let k:LId×LId:=if 0<z6k c.a c.b then (c.b,c.a) else (c.a,c.b)
  let n:=y5t l k.1 k.2+c.n
  if n < -1048576\/1048576<n then .error 3 else if n=0 then .ok (x8u l k.1 k.2) else .ok (y9l l k.1 k.2 n)
def z6a:List Cx->List Cx->Except Int (List Cx)
  | l,[]=>.ok l
  | l,c::r=>match x0x l c with|.error e=>.error e|.ok l'=>z6a l' r
structure MSt where
  rk:Int
  B:Bd
  ys:List Yn
  tb:Tb
  cr:List Cx
  fa:List LId
def yn0:Yn:=⟨false,0,0,false,[]⟩
def MSt.y (p:MSt)(y:Int):Yn:=p.ys.getD (y-1).toNat yn0
def MSt.setY (p:MSt)(y:Int)(q:Yn):MSt:={ p with ys:=p.ys.set (y-1).toNat q }
abbrev MR:=Except Int MSt
def lvS (y:Yn):Yn:=⟨false,0,y.ct,false,[]⟩
def mkS (y:Yn):Yn:=⟨true,y.pl,y.ct+1,false,[]⟩
def inM (p:MSt)(o:MOp):MR:=if enE (p.y o.y) o.d≠0 then .error (enE (p.y o.y) o.d) else .ok (p.setY o.y (enS (p.y o.y) o.d))
def x8l (p:MSt)(o:MOp):MR:=if lvE (p.y o.y)≠0 then .error (lvE (p.y o.y)) else .ok (p.setY o.y (lvS (p.y o.y)))
def z7z (p:MSt)(o:MOp):Int:=if (p.y o.y).inn=false then 12 else if o.d=1 then (if z4v o.b o.p p.rk<(p.y o.y).pl then 12 else 0) else if (p.y o.y).pl<z4v o.b o.p p.rk then 12 else 0
def x7b (p:MSt)(o:MOp):Int:=if o.d=1 then z4v o.b o.p p.rk+1 else z4v o.b o.p p.rk-1
def v9f (p:MSt)(y en:Int):List Pa:=btw (z2t p.B p.rk) (p.y y).pl en
def y6e (p:MSt)(y pl en:Int):MR:=if goE (p.y y) pl (v9f p y en)≠0 then .error (goE (p.y y) pl (v9f p y en)) else .ok (p.setY y (goS (p.y y) pl (v9f p y en)))
def MSt.row (p:MSt)(y:Int):List Lp:=p.tb.getD (y-1).toNat []
def x1a (p:MSt)(o:MOp)(th st:List LId):MR:=
  if mkE (p.y o.y)≠0 then .error (mkE (p.y o.y)) else if 2048<=z5p p.tb then .error 3
  else .ok { p with B:=p.B.put o.b o.p (st++[⟨o.y,(p.y o.y).ct⟩]),ys:=p.ys.set (o.y-1).toNat (mkS (p.y o.y)),tb:=p.tb.set (o.y-1).toNat (p.row o.y++[⟨o.b,(p.y o.y).nw,th,(p.y o.y).pe⟩]) }
def y3a (p:MSt)(o:MOp):MR:=if z7z p o≠0 then .error (z7z p o) else match y6e p o.y (x7b p o) (z4v o.b o.p p.rk) with
  | .error e=>.error e
  | .ok q=>x1a q o (q.B.at o.b o.p) []
def y2d (p:MSt)(o:MOp):MR:=if z7z p o≠0 then .error (z7z p o) else match y6e p o.y (x7b p o) (z4v o.b o.p p.rk) with
  | .error e=>.error e
  | .ok q=>if 4<=(q.B.at o.b o.p).length then .error 9 else x1a q o [] (q.B.at o.b o.p)
def y5u (p:MSt)(o:MOp):MR:=if z7z p o≠0 then .error (z7z p o) else y6e p o.y (x7b p o) (x7b p o)
def z5q (b n r:Int):Int:=if b=1 then n+r else n-r
def v5d (p:MSt)(o:MOp):Int:=min (z4v o.b o.p p.rk) (z4v (1-o.b) (z5q o.b o.p p.rk) p.rk)+1
def z9m (p:MSt)(o:MOp):List LId:=if o.b=1 then p.B.at 1 o.p++p.B.at 0 (z5q 1 o.p p.rk) else p.B.at 1 (z5q 0 o.p p.rk)++p.B.at 0 o.p
def z9k (p:MSt)(o:MOp):MR:=
  if p.B.at o.b o.p=[] then .error 13
  else if z4g (1-o.b) (z5q o.b o.p p.rk)≠0 then .error 11
  else if ∃y∈p.ys,y.inn=true/\y.pl=v5d p o then .error 12
  else if 4<(p.B.at o.b o.p).length+(p.B.at (1-o.b) (z5q o.b o.p p.rk)).length then .error 9
  else .ok { p with B:=(p.B.put o.b o.p []).put (1-o.b) (z5q o.b o.p p.rk) (z9m p o) }
def y4r (p:MSt)(o:MOp):MR:=if p.B.at o.b o.p=[] then .error 13 else .ok { p with B:=p.B.put o.b o.p [],fa:=p.fa++p.B.at o.b o.p }
def z8g (p:MSt)(d:Int)(y:Yn):Except Int Yn:=if y.inn=false then .ok y else if goE y y.pl (z6p p.B p.rk d y.pl)≠0 then .error (goE y y.pl (z6p p.B p.rk d y.pl)) else .ok (goS y y.pl (z6p p.B p.rk d y.pl))
def z4y (p:MSt)(d:Int):List Yn->Except Int (List Yn)
  | []=>.ok []
  | y::l=>match z8g p d y with
    | .error e=>.error e
    | .ok y'=>match z4y p d l with
      | .error e=>.error e
      | .ok l'=>.ok (y'::l')
def z9l (p:MSt)(d:Int):MR:=match z4y p d p.ys with
  | .error e=>.error e
  | .ok ys=>match z6a p.cr (z3d p.B p.rk d) with
    | .error e=>.error e
    | .ok cr=>.ok { p with ys:=ys,cr:=cr,rk:=p.rk+stI d }
def z5t:Nat->MSt->Int->MR
  | 0,p,_=>.ok p
  | n+1,p,r=>if p.rk=r then .ok p else match z9l p (if r<p.rk then 0 else 1) with
    | .error e=>.error e
    | .ok q=>z5t n q r
def v6g (p:MSt)(o:MOp):MR:=z5t 8 p o.r
def opM (p:MSt)(o:MOp):MR:=
  if o.k=1 then inM p o else if o.k=2 then x8l p o else if o.k=3 then v6g p o else if o.k=4 then y3a p o
  else if o.k=5 then y2d p o else if o.k=6 then y5u p o else if o.k=7 then z9k p o else y4r p o
def doM (p:MSt)(o:MOp):MR:=if y5k o≠0 then .error (y5k o) else opM p o
def z4u:Nat->MSt->List MOp->Except (Int×Nat) MSt
  | _,p,[]=>.ok p
  | i,p,o::l=>match doM p o with
    | .error e=>.error (e,i)
    | .ok q=>z4u (i+1) q l
def start:MSt:=⟨0,⟨[],[]⟩,List.replicate 6 yn0,List.replicate 6 [],[],[]⟩
theorem y0t:∀(l:Bed) (i:Nat),(trimB l).getD i []=l.getD i []
 | [],i=>rfl
 | s::l,i=>by
  have D:=y0t l
  unfold trimB
  split
  ·rename_i h
   cases i with
   | zero=>simp[h.2]
   | succ i=>have:=D i;rw[h.1]at this;simpa using this
  cases i with
  | zero=>simp
  | succ i=>simpa using D i
theorem y1e:∀l:Bed,(trimB l).flatten=l.flatten
 | []=>rfl
 | s::l=>by
  have D:=y1e l
  unfold trimB
  split
  ·rename_i h
   rw[h.1]at D
   simp only[List.flatten_cons,<-D,h.2];rfl
  simp only[List.flatten_cons,D]
theorem y1d:∀l:Bed,(trimB l).length<=l.length
 | []=>Nat.le_refl _
 | s::l=>by
  have D:=y1d l
  unfold trimB
  split
  ·simp
  simp only[List.length_cons];omega
theorem y3k:∀(l:Bed) {s:List LId},s∈trimB l->s∈l
 | [],s,h=>h
 | t::l,s,h=>by
  unfold trimB at h
  split at h
  ·cases h
  rcases List.mem_cons.1 h with rfl|h
  ·exact List.mem_cons_self ..
  exact List.mem_cons_of_mem _ (y3k l h)
theorem x5h:∀l:Bed,(∀s∈l,s=[])->trimB l=[]
 | [],_=>rfl
 | s::l,h=>by
  unfold trimB
  rw[if_pos ⟨x5h l λt D=>h t (List.mem_cons_of_mem _ D),h s (List.mem_cons_self ..)⟩]
theorem y2j:∀(l:Bed) (n:Nat),n<=l.length->(∀j,n<=j->l.getD j []=[])->(n=0\/l.getD (n-1) []≠[])->l.take n=trimB l
 | [],n,h,_,_=>by simp[trimB]
 | s::l,0,_,h,_=>by
  rw[x5h]
  ·rfl
  intro t ht
  obtain⟨i,O,rfl⟩:=List.getElem_of_mem ht
  have:=h i (Nat.zero_le _)
  rwa [List.getD,List.getElem?_eq_getElem O]at this
 | s::l,n+1,hl,h,hn=>by
  have M:=y2j l n (by simpa using hl) (λj hj=>by have:=h (j+1) oo;simpa using this)
  unfold trimB
  cases n with
  | zero=>
   have Z:s≠[]:=by simpa using hn
   rw[if_neg (λe=>Z e.2)]
   have:=M (.inl U)
   simp only[List.take_succ_cons,List.take_zero,this] at *
  | succ n=>
   have D:l.getD n []≠[]:=by simpa using hn
   have:=M (.inr D)
   rw[if_neg,List.take_succ_cons,this]
   rintro⟨e,-⟩
   have I:=y0t l n
   rw[e]at I
   exact D (by simpa using I.symm)
theorem x5s (l:Bed)(n i:Nat):(x2c l n).getD i []=l.getD i []:=by
 unfold x2c;by_cases h:i<l.length;simp only[List.getD,List.getElem?_append_left h];rw[List.getD,List.getD,List.getElem?_append_right oo,List.getElem?_replicate,List.getElem?_eq_none oo];split<;>rfl
theorem v5o (l:Bed)(n:Nat):(x2c l n).flatten=l.flatten:=by
 unfold x2c;rw[List.flatten_append];have:(List.replicate (n-l.length) ([]:List LId)).flatten=[]:=by simp
 rw[this,List.append_nil]
theorem y8s (l:Bed)(n:Nat):(x2c l n).length=max l.length n:=by
 unfold x2c;rw[List.length_append,List.length_replicate];omega
theorem v7n (l:Bed){n:Nat}(hn:1<=n)(s:List LId)(i:Nat):(y5o l n s).getD i []=if i=n-1 then s else l.getD i []:=by
 unfold y5o;rw[y0t,if_neg oo,z1i (by rw[y8s];omega),x5s];split;rename_i e;rw[if_pos e.symm];rename_i e;rw[if_neg (λh=>e h.symm)]
theorem u1c {l:Bed}{n m:Int}(hn:1<=n)(D:1<=m)(s:List LId):atB (y5o l n.toNat s) m=if m=n then s else atB l m:=by
 unfold atB;rw[v7n _ oo];by_cases e:m=n;subst e;rw[if_pos oo,if_pos U];rw[if_neg oo,if_neg e]
theorem x9e (l:Bed)(n:Int):atB (trimB l) n=atB l n:=y0t l _
theorem x1y (l:Bed){n:Int}(hn:1<=n)(s:List LId)(i:LId):(y5o l n.toNat s).flatten.count i+(atB l n).count i=l.flatten.count i+s.count i:=by
 unfold y5o;rw[y1e,if_neg oo];have h:=z7t (α:=List LId) (λx=>x) (x2c l n.toNat) (n.toNat-1) [] s i (by rw[y8s];omega);simp only[List.flatMap_id']at h;rw[v5o,x5s]at h;have e:n.toNat-1=(n-1).toNat:=by omega
 unfold atB;rw[e]at h ⊢;omega
theorem x9n (l:Bed)(n:Nat)(s:List LId):(y5o l n s).length<=max l.length n:=by
 unfold y5o;refine Nat.le_trans (y1d _) ?_;split;omega;rw[List.length_set,y8s];exact Nat.le_refl _
theorem u5c (l:Bed)(n:Nat)(s:List LId){t:List LId}(h:t∈y5o l n s):t=s\/t∈l\/t=[]:=by
 unfold y5o at h;have h:=y3k _ h;split at h;exact .inr (.inl h);rcases List.mem_or_eq_of_mem_set h with h|h
 unfold x2c at h;rcases List.mem_append.1 h with h|h
 exact .inr (.inl h);exact .inr (.inr (List.eq_of_mem_replicate h));exact .inl h
theorem z3a {b n:Int}(h:z4g b n=0):(b=0\/b=1)/\1<=n/\n<=40:=by
 unfold z4g at h;split at h;omega;split at h<;>omega
theorem z4j (B:Bd){b n:Int}(h:z4g b n=0)(s:List LId)(i:LId):(B.put b n s).flat.count i+(B.at b n).count i=B.flat.count i+s.count i:=by
 obtain⟨I,D,M⟩:=z3a h;unfold Bd.put Bd.at Bd.flat;split;simp only[List.count_append,y1e];have:=x1y B.f D s i;omega;simp only[List.count_append,y1e];have:=x1y B.b D s i;omega
theorem v3e (B:Bd){b n D I:Int}(h:z4g b n=0)(Z:z4g D I=0)(s:List LId):(B.put b n s).at D I=if D=b/\I=n then s else B.at D I:=by
 obtain⟨h1,M,h3⟩:=z3a h;obtain⟨h4,O,h6⟩:=z3a Z;unfold Bd.put Bd.at;by_cases e:b=0;rw[if_pos e];by_cases e':D=0;rw[if_pos e',u1c M O];by_cases e2:I=n;rw[if_pos e2,if_pos ⟨oo,e2⟩];rw[if_neg e2,if_neg (λk=>e2 k.2),if_pos e'];rw[if_neg e',x9e,if_neg (λk=>oo),if_neg e'];rw[if_neg e];by_cases e':D=0;rw[if_pos e',x9e,if_neg (λk=>oo),if_pos e'];rw[if_neg e',u1c M O];by_cases e2:I=n;rw[if_pos e2,if_pos ⟨oo,e2⟩];rw[if_neg e2,if_neg (λk=>e2 k.2),if_neg e']
theorem v1g {l:Bed}{n:Int}(h:atB l n≠[]):atB l n∈l:=by
 unfold atB at *
 by_cases e:(n-1).toNat<l.length;exact z1a e;exact absurd (by rw[List.getD,List.getElem?_eq_none oo];rfl) h
theorem x9l {B:Bd}{b n:Int}(h:B.at b n≠[]):B.at b n∈B.f++B.b:=by
 unfold Bd.at at *
 split;rename_i e;rw[if_pos e]at h;exact List.mem_append_left _ (v1g h);rename_i e;rw[if_neg e]at h;exact List.mem_append_right _ (v1g h)
theorem y3s {B:Bd}(h:BdOk B)(b n:Int):(B.at b n).length<=4:=by
 by_cases e:B.at b n=[];rw[e];simp;exact h.ss _ (x9l e)
theorem u3r (B:Bd):B.flat=(B.f++B.b).flatten:=by unfold Bd.flat;rw[List.flatten_append]
theorem y0f {B:Bd}{b n:Int}{i:LId}(h:i∈B.at b n):i∈B.flat:=by
 rw[u3r];exact List.mem_flatten.2 ⟨_,x9l (λe=>by rw[e]at h;cases h),h⟩
theorem y1b {B:Bd}{b n:Int}(h:z4g b n=0){s:List LId}{i:LId}(D:i∈(B.put b n s).flat):i∈s\/i∈B.flat:=by
 have:=z4j B h s i;have I:=List.count_pos_iff.2 D;by_cases e:0<s.count i;exact .inl (List.count_pos_iff.1 e);exact .inr (List.count_pos_iff.1 oo)
theorem BdOk.put {B:Bd}(h:BdOk B){b n:Int}(hn:z4g b n=0){s:List LId}(h4:s.length<=4)(a0:∀i∈s,y1j i)(Z:∀i,B.flat.count i+s.count i<=(B.at b n).count i+1):BdOk (B.put b n s):=by
 obtain⟨h1,h2,h3⟩:=z3a hn;have hl:=h.lf;have O:=h.lb;refine⟨?_,?_,?_,?_,?_⟩;unfold Bd.put;split;have:=x9n B.f n.toNat s;simp only;omega;have:=y1d B.f;simp only;omega;unfold Bd.put;split;have:=y1d B.b;simp only;omega;have:=x9n B.b n.toNat s;simp only;omega;intro t D;unfold Bd.put at D;have M:∀l:Bed,(∀s∈l,s.length<=4)->∀t∈y5o l n.toNat s,t.length<=4:=λl hl t D=>by
  rcases u5c l _ s D with rfl|D|rfl
  exact h4;exact hl t D;simp
 have hf:∀s∈B.f,s.length<=4:=λs hs=>h.ss s (List.mem_append_left _ hs);have O:∀s∈B.b,s.length<=4:=λs hs=>h.ss s (List.mem_append_right _ hs);split at D;rcases List.mem_append.1 D with D|D
 exact M _ hf _ D;exact O _ (y3k _ D);rcases List.mem_append.1 D with D|D
 exact hf _ (y3k _ D);exact M _ O _ D;intro i I;rcases y1b hn I with I|I
 exact a0 i I;exact h.nm i I;rw[List.nodup_iff_count];intro i;have:=z4j B hn s i;have:=Z i;omega
structure MInv (p:MSt):Prop where
  rk:-4<=p.rk/\p.rk<=4
  B:BdOk p.B
  ly:p.ys.length=6
  lt:p.tb.length=6
  yn:∀y,y<6->y2m (p.ys.getD y yn0)/\(p.ys.getD y yn0).ct=z3h p.tb y
  has:∀i∈p.B.flat,z4k p.tb i
  cnt:p.B.flat.length+p.fa.length<=z5p p.tb
  all:z5p p.tb<=2048
  cv:∀c∈p.cr,-1048576<=c.n/\c.n<=1048576
theorem x1g:MInv start:=by
 refine⟨dd,⟨dd,dd,by intro s M;simp[start]at M,by intro i D;simp[start,Bd.flat]at D,by simp[start,Bd.flat]⟩,rfl,rfl,λy O=>?_,by intro i D;simp[start,Bd.flat]at D,dd,dd,by intro c I;simp[start]at I⟩;have:start.ys.getD y yn0=yn0:=by
  simp only[start,List.getD,List.getElem?_replicate];split<;>rfl
 rw[this];refine⟨dd,?_⟩;simp only[start,z3h,List.getD,List.getElem?_replicate];rw[if_pos O];rfl
theorem z7c {o:MOp}(h:y5k o=0):(o.k=1\/o.k=2\/o.k=3\/o.k=4\/o.k=5\/o.k=6\/o.k=7\/o.k=8)/\(o.k=1->z5z o.d)/\((o.k=1\/o.k=2\/o.k=4\/o.k=5\/o.k=6)->1<=o.y/\o.y<=6)/\((o.k=4\/o.k=5\/o.k=6)->z5z o.d)/\((4<=o.k)->z4g o.b o.p=0)/\(o.k=3->-4<=o.r/\o.r<=4):=by
 unfold y5k at h
 split at h
 ·omega
 rename_i I
 have I:=Classical.not_not.1 I
 split at h
 ·omega
 rename_i hr
 obtain⟨D,M,O,Z,h5⟩:=I
 unfold z7l at D M O Z h5
 unfold z5z
 unfold pl1 at M
 unfold pl2 at O
 unfold pl3 at Z
 unfold pl4 at h5
 have a0:∀a:Int,¬(a≠0)->a=0:=λa h=>by omega
 repeat' split at D
 all_goals first|(simp at D;done)|skip
 all_goals simp_all
 all_goals omega
structure BdQ where
  f:SV
  b:SV
  fs:List IQ
  bs:List IQ
abbrev plB (l:List IQ):Bed:=l.map Prod.snd
abbrev BdQ.p (q:BdQ):Bd:=⟨plB q.fs,plB q.bs⟩
abbrev bdL (q:BdQ):List Value:=[.slice q.f.1 q.f.2.1 q.f.2.2,.slice q.b.1 q.b.2.1 q.b.2.2]
structure BdAt (w:World) (q:BdQ):Prop where
  f:Sl z6t w (slv q.f) q.fs
  fi:IqAt w q.fs
  b:Sl z6t w (slv q.b) q.bs
  bi:IqAt w q.bs
theorem BdAt.ext {w w':World}{q:BdQ}(h:BdAt w q)(hf:Fr [] w w'):BdAt w' q:=⟨h.f.ext hf,h.fi.ext hf,h.b.ext hf,h.bi.ext hf⟩
theorem BdAt.len {w:World}{q:BdQ}(h:BdAt w q):q.f.2.1=q.fs.length/\q.b.2.1=q.bs.length:=⟨z2e h.f,z2e h.b⟩
def RwO (S I base:Nat)(w:World)(v:Value)(l:List IQ):Prop:=Lw.Own z6t S base w v l/\∀q∈l,Lw.Own z1b I base w (slv q.1) q.2
theorem RwO.ext {S I base:Nat}{w w':World}{v:Value}{l:List IQ}(h:RwO S I base w v l)(hf:Fr [] w w'):RwO S I base w' v l:=⟨h.1.ext hf,λq D=>(h.2 q D).ext hf⟩
theorem RwO.low {S I base b:Nat}{w:World}{v:Value}{l:List IQ}(h:RwO S I base w v l)(hb:b<=base):RwO S I b w v l:=⟨h.1.low hb,λq D=>(h.2 q D).low hb⟩
theorem RwO.at {S I base:Nat}{w:World}{v:Value}{l:List IQ}(h:RwO S I base w v l):IqAt w l:=λq D=>(h.2 q D).sl
theorem RwO.fr {S I base:Nat}{w w':World}{v:Value}{l:List IQ}{T:List Nat}(h:RwO S I base w v l)(hf:Fr T w w')(O:∀k∈T,k<base):RwO S I base w' v l:=
 ⟨h.1.fr hf λk M D=>by have:=O k M;have:=(h.1.blk k D).1;omega,λq Z=>(h.2 q Z).fr hf λk M D=>by have:=O k M;have:=((h.2 q Z).blk k D).1;omega⟩
structure BdO (S I base:Nat) (w:World) (q:BdQ):Prop where
  f:RwO S I base w (slv q.f) q.fs
  b:RwO S I base w (slv q.b) q.bs
theorem BdO.ext {S I base:Nat}{w w':World}{q:BdQ}(h:BdO S I base w q)(hf:Fr [] w w'):BdO S I base w' q:=⟨h.f.ext hf,h.b.ext hf⟩
theorem BdO.low {S I base b:Nat}{w:World}{q:BdQ}(h:BdO S I base w q)(hb:b<=base):BdO S I b w q:=⟨h.f.low hb,h.b.low hb⟩
theorem BdO.at {S I base:Nat}{w:World}{q:BdQ}(h:BdO S I base w q):BdAt w q:=⟨h.f.1.sl,h.f.at,h.b.1.sl,h.b.at⟩
theorem z4e (l:List IQ)(i:Nat):(plB l).getD i []=(l.getD i iq0).2:=by
 unfold plB;rw[List.getD,List.getD,List.getElem?_map];cases l[i]?<;>rfl
theorem x5g {l:List IQ}{i:Nat}(h:l.length<=i):(l.getD i iq0).2=[]:=by rw[List.getD,List.getElem?_eq_none h];rfl
theorem v4b (l:List IQ)(n M:Nat)(hM:M=max l.length n):plB (l++List.replicate (M-l.length) iq0)=x2c (plB l) n:=by
 unfold x2c plB;rw[List.map_append,List.map_replicate,List.length_map];congr 2;omega
theorem u1h (w:World):Sl z1b w (slv iq0.1) iq0.2:=Sl.nil w
theorem x5e {w:World}{l:List IQ}{k:Nat}(h:IqAt w l):IqAt w (l++List.replicate k iq0):=λq D=>by
 rcases List.mem_append.1 D with D|D
 ·exact h q D
 rw[List.eq_of_mem_replicate D];exact u1h w
theorem v8m {w:World}{l:List IQ}{i:Nat}{q:IQ}(h:IqAt w l)(I:Sl z1b w (slv q.1) q.2):IqAt w (l.set i q):=λp D=>by
 rcases List.mem_or_eq_of_mem_set D with D|rfl
 ·exact h p D
 exact I
def z9p (l:List IQ):Prop:=∀q∈l,q.2.length<=4
theorem x5q {l:List IQ}{k:Nat}(h:z9p l):z9p (l++List.replicate k iq0):=λq D=>by
 rcases List.mem_append.1 D with D|D
 ·exact h q D
 rw[List.eq_of_mem_replicate D];exact Nat.zero_le _
theorem v7t {l:List IQ}{i:Nat}{q:IQ}(h:z9p l)(I:q.2.length<=4):z9p (l.set i q):=λp D=>by
 rcases List.mem_or_eq_of_mem_set D with D|rfl
 ·exact h p D
 exact I
theorem z3n {l:List IQ}(h:z9p l)(i:Nat):(l.getD i iq0).2.length<=4:=by
 by_cases e:i<l.length;exact h _ (z1a e);rw[x5g oo];simp
theorem z2b {w:World}{l:List IQ}(h:IqAt w l)(i:Nat):Sl z1b w (slv (l.getD i iq0).1) (l.getD i iq0).2:=by
 by_cases e:i<l.length;exact h _ (z1a e);rw[List.getD,List.getElem?_eq_none oo];exact u1h w
theorem u5z {l m:List IQ}(h:z9p l)(e:plB m=plB l):z9p m:=λq M=>by
 have:q.2∈plB l:=by rw[<-e];exact List.mem_map_of_mem M
 obtain⟨q',D,I⟩:=List.mem_map.1 this
 rw[<-I];exact h q' D
theorem u6e {l:List IQ}{i:Nat}{q:IQ}(h:q.2=(l.getD i iq0).2):plB (l.set i q)=plB l:=by
 unfold plB;rw[List.map_set];apply List.ext_getElem?;intro j;rw[List.getElem?_set];split;rename_i e;subst e;split;rename_i D;rw[List.length_map]at D;rw[List.getElem?_map,List.getElem?_eq_getElem D,h,List.getD,List.getElem?_eq_getElem D];rfl;rename_i D;rw[List.getElem?_eq_none oo];rfl
def BdQ.sv (q:BdQ)(b:Int):SV:=if b=1 then q.b else q.f
def BdQ.l (q:BdQ)(b:Int):List IQ:=if b=1 then q.bs else q.fs
theorem BdAt.sel {w:World}{q:BdQ}(h:BdAt w q)(b:Int):Sl z6t w (slv (q.sv b)) (q.l b)/\IqAt w (q.l b):=by
 unfold BdQ.sv BdQ.l;split;exact⟨h.b,h.bi⟩;exact⟨h.f,h.fi⟩
theorem BdQ.at_l (q:BdQ){b p:Int}(hn:z4g b p=0):((q.l b).getD (p-1).toNat iq0).2=q.p.at b p:=by
 obtain⟨D,_,_⟩:=z3a hn;unfold BdQ.l Bd.at atB;split;rw[if_neg oo,z4e];rw[if_pos oo,z4e]
theorem u1d (l:Bed):y5o l 0 []=trimB l:=by unfold y5o;rw[if_pos U]
theorem j2k (B:Bd){b:Int}(n:Nat)(s:List LId)(h:b=0):(⟨y5o B.f n s,y5o B.b 0 []⟩:Bd)=B.put b (n:Int) s:=by
 unfold Bd.put;rw[if_pos h,u1d,Int.toNat_natCast]
theorem j1t (B:Bd){b:Int}(n:Nat)(s:List LId)(h:¬b=0):(⟨y5o B.f 0 [],y5o B.b n s⟩:Bd)=B.put b (n:Int) s:=by
 unfold Bd.put;rw[if_neg h,u1d,Int.toNat_natCast]
def PreO (I base:Nat)(w:World)(l:List IQ)(i:Nat):Prop:=∀j,j<i->Lw.Own z1b I base w (slv (l.getD j iq0).1) (l.getD j iq0).2
theorem PreO.zero {I base:Nat}{w:World}{l:List IQ}:PreO I base w l 0:=λj D=>absurd D oo
theorem PreO.ext {I base i:Nat}{w w':World}{l:List IQ}(h:PreO I base w l i)(hf:Fr [] w w'):PreO I base w' l i:=λj D=>(h j D).ext hf
theorem PreO.fr {I base i:Nat}{w w':World}{l:List IQ}{S:List Nat}(h:PreO I base w l i)(hf:Fr S w w')(M:∀k∈S,k<base):PreO I base w' l i:=λj D=>(h j D).fr hf λk Z O=>by
 have:=M k Z;have:=((h j D).blk k O).1;omega
theorem PreO.put {I base i:Nat}{w:World}{l:List IQ}{q:IQ}(h:PreO I base w l i)(D:i<l.length)(M:Lw.Own z1b I base w (slv q.1) q.2):PreO I base w (l.set i q) (i+1):=λj O=>by
 rw[z1i D]
 split
 ·exact M
 exact h j oo
theorem PreO.all {I base b:Nat}{w:World}{l:List IQ}(h:PreO I base w l l.length)(hb:b<=base):∀q∈l,Lw.Own z1b I b w (slv q.1) q.2:=λq M=>by
 obtain⟨j,D,rfl⟩:=List.getElem_of_mem M
 have:=h j D
 rw[List.getD,List.getElem?_eq_getElem D]at this
 exact this.low hb
theorem v0l {w:World}{l m:List IQ}{n:Nat}(e:m=l.take n)(h:IqAt w l):IqAt w m:=λq D=>h q (List.mem_of_mem_take (e▸D))
theorem v9g {l m:List IQ}{i:Nat}{q:IQ}(h:∀j,i<=j->l.getD j iq0=m.getD j iq0)(D:i<l.length):∀j,i+1<=j->(l.set i q).getD j iq0=m.getD j iq0:=λj I=>by
 rw[z1i D,if_neg oo];exact h j oo
theorem u6g {D ls qs:List IQ}{m n:Nat}{s:List LId}(I:ls=D.take m)(M:(plB D).take m=trimB (plB D))(O:plB D=if n=0 then plB qs else (x2c (plB qs) n).set (n-1) s):plB ls=y5o (plB qs) n s:=by
 rw[I];unfold plB at *
 rw[List.map_take,M,O];rfl
theorem v7e {qs:List IQ}{n M:Nat}{s:List LId}(hn:n=0)(hM:M=max qs.length n):plB (qs++List.replicate (M-qs.length) iq0)=(if n=0 then plB qs else (x2c (plB qs) n).set (n-1) s):=by
 subst hn;rw[if_pos U,v4b qs 0 M hM];unfold x2c;simp
theorem u5b {qs:List IQ}{n M:Nat}{q:IQ}(hn:0<n)(hM:M=max qs.length n):plB ((qs++List.replicate (M-qs.length) iq0).set (n-1) q)=(if n=0 then plB qs else (x2c (plB qs) n).set (n-1) q.2):=by
 rw[if_neg oo,<-v4b qs n M hM];exact List.map_set
end Go.G08
namespace Go.Lw
open Go.RowKit
structure KeyLaw {κ:Type} [DecidableEq κ] (P:Program) (K:TypeId) (V:κ->Value):Prop where
  check:∀b k (w:World),(Instr.checkKey b 10000 K (V k)).run P w=.ok () w
  find:∀k (es:List MapEntry) (ks:List κ) (w:World),es.map (·.key)=ks.map V->
    (Instr.findKey K (V k) es).run P w=.ok ((ks.findIdx? (λx=>decide (k=x))).bind λi=>(es[i]?).map λe=>(i,e.val)) w
  bits:∀k,Instr.sameBits 10000 (V k) (V k)=true
def z2k {κ:Type}[DecidableEq κ]:List (κ×Value)->κ->Option Value
  | [],_=>none
  | p::r,k=>if k=p.1 then some p.2 else z2k r k
def MapF {κ:Type}[DecidableEq κ](V:κ->Value)(w:World)(g:Nat)(f:κ->Option Value):Prop:=
  ∃(es:Array MapEntry) (c:Nat) (m:List (κ×Value)),w.heap[g]?=some (.map es c)/\es.toList.map (λe=>(e.key,e.val))=m.map (λp=>(V p.1,p.2))/\∀k,z2k m k=f k
section
variable {κ:Type} [DecidableEq κ] {V:κ->Value} {P:Program} {K:TypeId}
theorem y1f (I:∀k k' (w:World),(Op.equal K (V k) (V k')).run P w=.ok (decide (k=k')) w)(k:κ):∀(D:List MapEntry) (ks:List κ) (i:Nat) (w:World),D.map (·.key)=ks.map V->
    (Instr.findAsking K (V k) D i).run P w=.ok ((ks.findIdx? (λx=>decide (k=x))).bind λj=>(D[j]?).map λe=>(i+j,e.val)) w
  | [],[],i,w,_=>by simp[Instr.findAsking]
  | [],_::_,_,_,h=>by simp at h
  | _::_,[],_,_,h=>by simp at h
  | e::D,x::ks,i,w,h=>by
    simp only[List.map_cons,List.cons.injEq]at h
    have M:=y1f I k D ks (i+1) w h.2
    simp only[Instr.findAsking,h.1,Sem.run_bind,I k x w,Result.andThen_ok]
    by_cases hx:k=x
    · simp[hx,List.findIdx?_cons]
    · simp only[hx,decide_false,Bool.false_eq_true,if_false,M,List.findIdx?_cons,Option.bind_map]
      congr 1
      cases hf:ks.findIdx? (λx=>decide (k=x)) with
      | none=>simp
      | some j=>simp[Nat.add_assoc,Nat.add_comm 1 j]
theorem KeyLaw.asking {d:TypeDesc}(M:P.underlying K=some d)(hs:∀k k',Instr.sameNow d (V k) (V k')=none)(O:∀b k (w:World),(Instr.checkKey b 10000 K (V k)).run P w=.ok () w)
    (heq:∀k k' (w:World),(Op.equal K (V k) (V k')).run P w=.ok (decide (k=k')) w) (hb:∀k,Instr.sameBits 10000 (V k) (V k)=true):KeyLaw P K V:=by
  refine⟨O,λk I D w h=>?_,hb⟩
  cases I with
  | nil=>
    cases D with
    | nil=>simp[Instr.findKey,run_underlying M,Instr.findNow]
    | cons x D=>simp at h
  | cons e I=>
    cases D with
    | nil=>simp at h
    | cons x D=>
      have Z:Instr.findNow d (V k) (e::I) 0=none:=by
        simp only[List.map_cons,List.cons.injEq]at h
        simp[Instr.findNow,h.1,hs]
      have:=y1f heq k (e::I) (x::D) 0 w h
      simp only[Instr.findKey,Sem.run_bind,run_underlying M,Result.andThen_ok,Z,this,Nat.zero_add]
theorem y6b {d:TypeDesc}(I:∀k k',Instr.sameNow d (V k) (V k')=some (decide (k=k')))(k:κ):∀(D:List MapEntry) (ks:List κ) (i:Nat),D.map (·.key)=ks.map V->
    Instr.findNow d (V k) D i=some ((ks.findIdx? (λx=>decide (k=x))).bind λj=>(D[j]?).map λe=>(i+j,e.val))
  | [],[],i,_=>by simp[Instr.findNow]
  | [],_::_,_,h=>by simp at h
  | _::_,[],_,h=>by simp at h
  | e::D,x::ks,i,h=>by
    simp only[List.map_cons,List.cons.injEq]at h
    have M:=y6b I k D ks (i+1) h.2
    simp only[Instr.findNow,h.1,I]
    by_cases hx:k=x
    · simp[hx,List.findIdx?_cons]
    · simp only[hx,decide_false,M,List.findIdx?_cons,Bool.false_eq_true,if_false,Option.bind_map]
      congr 2
      funext j;simp[Nat.add_assoc,Nat.add_comm 1 j]
theorem KeyLaw.now {d:TypeDesc}(O:P.underlying K=some d)(M:∀k k',Instr.sameNow d (V k) (V k')=some (decide (k=k')))(I:∀b k (w:World),(Instr.checkKey b 10000 K (V k)).run P w=.ok () w)
    (hb:∀k,Instr.sameBits 10000 (V k) (V k)=true):KeyLaw P K V:=by
  refine⟨I,λk D Z w h=>?_,hb⟩
  have:=y6b M k D Z 0 h
  simp only[Instr.findKey,Sem.run_bind,run_underlying O,Result.andThen_ok,this,Nat.zero_add,Sem.run_pure]
theorem y2e (m:List (κ×Value))(k:κ):∀(D:List MapEntry),D.map (λe=>(e.key,e.val))=m.map (λp=>(V p.1,p.2))->
    (((m.map (·.1)).findIdx? (λx=>decide (k=x))).bind λi=>(D[i]?).map λe=>(i,e.val)).map (·.2)=z2k m k:=by
  induction m with
  | nil=>intro D h;simp[z2k]
  | cons p m ih=>
    intro D h
    match D,h with
    | e::D,h=>
      simp only[List.map_cons,List.cons.injEq,Prod.mk.injEq]at h
      have:=ih D h.2
      unfold z2k
      by_cases hk:k=p.1
      · simp[hk,List.findIdx?_cons,h.1.2]
      · simp only[List.map_cons,List.findIdx?_cons,hk,decide_false,if_false,Bool.false_eq_true]
        rw[<-this]
        cases (m.map (·.1)).findIdx? (λx=>decide (k=x)) with
        | none=>simp
        | some j=>
          simp
          rfl
def z3w (m:List (κ×Value))(k:κ)(v:Value):List (κ×Value):=
  match (m.map (·.1)).findIdx? (λx=>decide (k=x)) with
  | some i=>m.modify i λp=>(p.1,v)
  | none=>m++[(k,v)]
theorem y2u (m:List (κ×Value))(k k':κ)(v:Value):(m.map (·.1)).findIdx? (λx=>decide (k=x))=none->z2k (m++[(k,v)]) k'=if k'=k then some v else z2k m k':=by
 induction m with
 | nil=>intro _;simp[z2k]
 | cons p m ih=>
  intro h;simp only[List.map_cons,List.findIdx?_cons]at h;split at h;cases h;rename_i I;have D:¬k=p.1:=by simpa using I
  have:=ih (by simpa using h);simp only[List.cons_append,z2k,this];by_cases e:k'=p.1;subst e;simp[Ne.symm D];simp[e]
theorem z8m (k k':κ)(v:Value):∀(m:List (κ×Value)) (i:Nat),(m.map (·.1)).findIdx? (λx=>decide (k=x))=some i->z2k (m.modify i λp=>(p.1,v)) k'=if k'=k then some v else z2k m k'
 | [],i,h=>by simp at h
 | p::m,i,h=>by
  simp only[List.map_cons,List.findIdx?_cons]at h
  split at h
  ·rename_i I
   have D:k=p.1:=by simpa using I
   simp at h;subst h
   simp only[List.modify_zero_cons,z2k,D]
   by_cases e:k'=p.1<;>simp[e]
  rename_i I
  have D:¬k=p.1:=by simpa using I
  cases hf:(m.map (·.1)).findIdx? (λx=>decide (k=x)) with
  | none=>rw[hf]at h;simp at h
  | some j=>
   rw[hf]at h;simp at h;subst h
   have:=z8m k k' v m j hf
   simp only[List.modify_succ_cons,z2k,this]
   by_cases e:k'=p.1
   ·subst e;simp[Ne.symm D]
   simp[e]
theorem MapF.fr {w w':World}{g:Nat}{f:κ->Option Value}{S:List Nat}(h:MapF V w g f)(hf:Fr S w w')(hn:g∉S:=by simp[z0v]<;>omega):MapF V w' g f:=by
 obtain⟨I,c,m,D,M,O⟩:=h;exact⟨I,c,m,(hf.block g (Array.getElem?_eq_some_iff.1 D).1 hn).trans D,M,O⟩
theorem MapF.ext {w w':World}{g:Nat}{f:κ->Option Value}(h:MapF V w g f)(hf:Fr [] w w'):MapF V w' g f:=h.fr hf sp0
theorem MapF.lt {w:World}{g:Nat}{f:κ->Option Value}(h:MapF V w g f):g<w.heap.size:=let ⟨_,_,_,h1,_⟩:=h;(Array.getElem?_eq_some_iff.1 h1).1
theorem MapF.ne_blk {w:World}{g D T:Nat}{f:κ->Option Value}{cs:List Value}(h:MapF V w g f)(I:Blk w D T cs):g≠D:=by
 rintro rfl;obtain⟨_,_,_,M,_⟩:=h;unfold Blk at I;rw[I]at M;cases M
theorem z2m {w:World}{g:Nat}{D:Array MapEntry}{c:Nat}(h:w.heap[g]?=some (.map D c)):(getObj g).run P w=.ok (.map D c) w:=by
 simp[getObj,Sem.run,h]
theorem y6h {w:World}{g:Nat}{f:κ->Option Value}{t E:TypeId}{z:Value}(h:MapF V w g f)(Z:KeyLaw P K V)(hu:P.underlying t=some (.map K E))(hz:(zeroValue E).run P w=.ok z w)(k:κ) :
    (Instr.lookup t (.map (some g)) (V k) false).run P w=.ok ((f k).getD z) w:=by
  obtain⟨O,c,m,h1,h2,h3⟩:=h
  have M:O.toList.map (·.key)=(m.map (·.1)).map V:=by
    have:=congrArg (List.map Prod.fst) h2
    simpa[List.map_map,Function.comp_def] using this
  have I:=Z.find k O.toList (m.map (·.1)) w M
  have D:=y2e (V:=V) m k O.toList h2
  rw[h3]at D
  generalize ((m.map (·.1)).findIdx? (λx=>decide (k=x))).bind (λi=>(O.toList[i]?).map λe=>(i,e.val))=r at I D
  cases r with
  | none=>simp at D;simp[Instr.lookup,run_underlying hu,z2m h1,Z.check,I,hz,<-D]
  | some p=>simp at D;simp[Instr.lookup,run_underlying hu,z2m h1,Z.check,I,<-D]
theorem x2d {w:World}{g:Nat}{f:κ->Option Value}{t E:TypeId}{z:Value}(h:MapF V w g f)(Z:KeyLaw P K V)(hu:P.underlying t=some (.map K E))(hz:(zeroValue E).run P w=.ok z w)(k:κ) :
    (Instr.lookup t (.map (some g)) (V k) true).run P w=.ok (.tuple #[(f k).getD z,.bool (f k).isSome]) w:=by
  obtain⟨O,c,m,h1,h2,h3⟩:=h
  have M:O.toList.map (·.key)=(m.map (·.1)).map V:=by
    have:=congrArg (List.map Prod.fst) h2
    simpa[List.map_map,Function.comp_def] using this
  have I:=Z.find k O.toList (m.map (·.1)) w M
  have D:=y2e (V:=V) m k O.toList h2
  rw[h3]at D
  generalize ((m.map (·.1)).findIdx? (λx=>decide (k=x))).bind (λi=>(O.toList[i]?).map λe=>(i,e.val))=r at I D
  cases r with
  | none=>simp at D;simp[Instr.lookup,run_underlying hu,z2m h1,Z.check,I,hz,<-D]
  | some p=>simp at D;simp[Instr.lookup,run_underlying hu,z2m h1,Z.check,I,<-D]
theorem y0j {w:World}{g:Nat}{f:κ->Option Value}{t E:TypeId}(h:MapF V w g f)(hk:KeyLaw P K V)(hu:P.underlying t=some (.map K E))(k:κ)(v:Value) :
    ∃w',(Instr.mapUpdate t (.map (some g)) (V k) v).run P w=.ok () w'/\MapF V w' g (λk'=>if k'=k then some v else f k')/\Fr [g] w w'/\w'.heap.size=w.heap.size:=by
  obtain⟨D,c,m,h1,h2,h3⟩:=h
  have a6:=(Array.getElem?_eq_some_iff.1 h1).1
  have O:D.toList.map (·.key)=(m.map (·.1)).map V:=by
    have:=congrArg (List.map Prod.fst) h2
    simpa[List.map_map,Function.comp_def] using this
  have I:=hk.find k D.toList (m.map (·.1)) w O
  have a0:∀o,(setObj g o).run P w=.ok () { w with heap:=w.heap.setIfInBounds g o }:=by intro o;simp[setObj,Sem.run,h1]
  have a3:∀o,Fr [g] w { w with heap:=w.heap.setIfInBounds g o }:=λo=>⟨rfl,rfl,rfl,sp0,λi _ hn=>by
    simp only
    rw[Array.getElem?_setIfInBounds_ne (by intro e;subst e;simp at hn)]⟩
  have M:∀o,({ w with heap:=w.heap.setIfInBounds g o }:World).heap[g]?=some o:=by intro o;simp[a6]
  have a8:D.toList.length=m.length:=by have:=congrArg List.length h2;simpa using this
  cases hf:(m.map (·.1)).findIdx? (λx=>decide (k=x)) with
  | none=>
    refine⟨_,?_,⟨_,_,m++[(k,v)],M (.map (D.push { key:=V k,val:=v,born:=c }) (c+1)),?_,λk'=>?_⟩,a3 _,sp0⟩
    · rw[hf]at I
      simp only[Instr.mapUpdate,Sem.run_bind,run_underlying hu,Result.andThen_ok,z2m h1,hk.check,I,Option.bind_none,a0]
    · simp[h2]
    · rw[y2u m k k' v hf,h3]
  | some i=>
    have hi:i<m.length:=by
      have:=List.findIdx?_eq_some_iff_findIdx_eq.1 hf
      simpa using this.1
    have Z:i<D.toList.length:=by omega
    have a4:V k=(D.toList[i]).key:=by
      have a5:=List.findIdx?_eq_some_iff_getElem.1 hf
      obtain⟨a9,hp,_⟩:=a5
      have a7:k=(m.map (·.1))[i]:=by simpa using hp
      have e1:(D.toList.map (·.key))[i]?=((m.map (·.1)).map V)[i]?:=by rw[O]
      simp only[List.getElem?_map,List.getElem?_eq_getElem Z,List.getElem?_eq_getElem hi,Option.map_some,Option.some.injEq]at e1
      rw[e1,a7];simp
    refine⟨_,?_,⟨_,_,m.modify i λp=>(p.1,v),M (.map (D.modify i λe=>{ e with key:=V k,val:=v }) c),?_,λk'=>?_⟩,a3 _,sp0⟩
    · rw[hf]at I
      have a1:D[i]?=some D.toList[i]:=by rw[<-Array.getElem?_toList,List.getElem?_eq_getElem Z]
      simp only[Option.bind_some,List.getElem?_eq_getElem Z,Option.map_some]at I
      have a2:(Instr.keyThatStays (((D[i]?).map (·.key)).getD (V k)) (V k)).run P w=.ok (V k) w:=by
        rw[a1]
        simp only[Option.map_some,Option.getD_some,<-a4,Instr.keyThatStays,hk.bits,if_true,Sem.run_pure]
      simp only[Instr.mapUpdate,Sem.run_bind,run_underlying hu,Result.andThen_ok,z2m h1,hk.check,I,a2,a0]
    · apply List.ext_getElem?
      intro j
      have e2:=congrArg (·[j]?) h2
      simp only[List.getElem?_map]at e2 ⊢
      rw[Array.getElem?_toList,Array.getElem?_modify,List.getElem?_modify]
      rw[Array.getElem?_toList]at e2
      by_cases hj:i=j
      · subst hj
        have e3:=List.getElem?_eq_getElem hi
        have a1:D[i]?=some D.toList[i]:=by rw[<-Array.getElem?_toList,List.getElem?_eq_getElem Z]
        rw[a1,e3]at e2 ⊢
        simp only[Option.map_some,Option.some.injEq,Prod.mk.injEq]at e2
        simp only[if_true,Option.map_some]
        rw[a4,e2.1];rfl
      · simp only[hj,if_false]
        rw[e2];simp
    · rw[z8m k k' v m i hf,h3]
variable {a:Act} {n:Nat} {L:List (Nat×Value)} {ds:List Nat} {w w':World} {Q:Exit->Act->World->Prop} {C:World->Prop} {Qa:Act->Prop} {ops:Array Oper} {rest:List Oper}
variable {d:Nat} {ty:TypeId} {pos:String} {after:Array Edge} {x y z:Operand} {t E:TypeId} {g:Nat} {f:κ->Option Value} {k:κ} {v zv:Value}
theorem x7t (V:κ->Value)(h:AgM ds a n L)(hn:Nat.blt d n=true)
    (q:∀g w',g=w.heap.size->MapF V w' g (λ_=>none)->Fr [] w w'->w'.heap.size=g+1->∀a,AgM ds a n ((d,.map (some g))::L)->wpList P ops Q rest a w'):wpList P ops Q (⟨some d,.makeMap t none,ty,pos,after,none⟩::rest) a w:=
  z2c h U hn (w':=w.alloc (.map #[] 0)) (by simp[execOp,Instr.makeMap]) (q _ _ U ⟨_,_,[],heap_alloc_new w _,sp0,λ_=>rfl⟩ (Fr.alloc [] w _) sp0)
theorem y4b (V:κ->Value)(hn:Nat.blt d n=true)(q:∀g w',g=w.heap.size->MapF V w' g (λ_=>none)->Fr [] w w'->w'.heap.size=g+1->WL P ops Q rest n ds w' ((d,.map (some g))::L)):WL P ops Q (⟨some d,.makeMap t none,ty,pos,after,none⟩::rest) n ds w L:=λa h=>x7t V h hn q
theorem x9y (h:AgM ds a n L)(O:ev L x=some (.map (some g)))(Z:ev L y=some (V k))(I:MapF V w g f)(D:KeyLaw P K V)(M:P.underlying t=some (.map K E))(hz:∀w:World,(zeroValue E).run P w=.ok zv w) :
    (execOp a.eval ⟨some d,.lookup t x y false,ty,pos,after,none⟩).run P w=.ok (.value ((f k).getD zv)) w:=by
  simp[execOp,h.eval O,h.eval Z,y6h I D M (hz w) k]
theorem y1h (h:AgM ds a n L)(Z:ev L x=some (.map (some g)))(hy:ev L y=some (V k))(I:MapF V w g f)(D:KeyLaw P K V)(M:P.underlying t=some (.map K E))(hz:∀w:World,(zeroValue E).run P w=.ok zv w)(O:(f k).getD zv=v)(hn:Nat.blt d n=true)
    (q:∀a,AgM ds a n ((d,v)::L)->wpList P ops Q rest a w):wpList P ops Q (⟨some d,.lookup t x y false,ty,pos,after,none⟩::rest) a w:=
  z2c h U hn (by rw[<-O];exact x9y h Z hy I D M hz) q
theorem y8g (Z:ev L x=some (.map (some g)))(hy:ev L y=some (V k))(I:MapF V w g f)(D:KeyLaw P K V)(M:P.underlying t=some (.map K E))(hz:∀w:World,(zeroValue E).run P w=.ok zv w)(O:(f k).getD zv=v)(hn:Nat.blt d n=true)(q:WL P ops Q rest n ds w ((d,v)::L)):WL P ops Q (⟨some d,.lookup t x y false,ty,pos,after,none⟩::rest) n ds w L:=λa h=>y1h h Z hy I D M hz O hn q
theorem x8h (h:AgM ds a n L)(O:ev L x=some (.map (some g)))(Z:ev L y=some (V k))(I:MapF V w g f)(D:KeyLaw P K V)(M:P.underlying t=some (.map K E))(hz:∀w:World,(zeroValue E).run P w=.ok zv w) :
    (execOp a.eval ⟨some d,.lookup t x y true,ty,pos,after,none⟩).run P w=.ok (.value (.tuple #[(f k).getD zv,.bool (f k).isSome])) w:=by
  simp[execOp,h.eval O,h.eval Z,x2d I D M (hz w) k]
theorem y1o {D:Bool}(h:AgM ds a n L)(hx:ev L x=some (.map (some g)))(hy:ev L y=some (V k))(M:MapF V w g f)(I:KeyLaw P K V)(O:P.underlying t=some (.map K E))(hz:∀w:World,(zeroValue E).run P w=.ok zv w)(Z:(f k).getD zv=v)(hb:(f k).isSome=D)(hn:Nat.blt d n=true)
    (q:∀a,AgM ds a n ((d,.tuple #[v,.bool D])::L)->wpList P ops Q rest a w):wpList P ops Q (⟨some d,.lookup t x y true,ty,pos,after,none⟩::rest) a w:=
  z2c h U hn (by rw[<-Z,<-hb];exact x8h h hx hy M I O hz) q
theorem x8r (h:AgM ds a n L)(hx:ev L x=some (.map (some g)))(hy:ev L y=some (V k))(hz:ev L z=some v)(Z:MapF V w g f)(O:KeyLaw P K V)(hu:P.underlying t=some (.map K E))
    (q:∀w',MapF V w' g (λk'=>if k'=k then some v else f k')->Fr [g] w w'->w'.heap.size=w.heap.size->∀a,AgM ds a n L->wpList P ops Q rest a w'):wpList P ops Q (⟨none,.insert t x y z,ty,pos,after,none⟩::rest) a w:=by
  obtain⟨w',hr,D,I,M⟩:=y0j Z O hu k v
  exact z8o h U U (w':=w') (by simp[execOp,h.eval hx,h.eval hy,h.eval hz,hr]) (q w' D I M)
theorem z3e (H0:(ev L x,ev L y,ev L z)=(some (.map (some g)),some (V k),some v))(I:MapF V w g f)(D:KeyLaw P K V)(M:P.underlying t=some (.map K E))(q:∀w',MapF V w' g (λk'=>if k'=k then some v else f k')->Fr [g] w w'->w'.heap.size=w.heap.size->WL P ops Q rest n ds w' L):WL P ops Q (⟨none,.insert t x y z,ty,pos,after,none⟩::rest) n ds w L:=let⟨O,Z,hz⟩:=qi3 H0;λa h=>x8r h O Z hz I D M q
theorem x9r (h:AgM ds a n L)(hx:ev L x=some (.map (some g)))(hy:ev L y=some (V k))(hz:ev L z=some v)(Z:MapF V w g f)(O:KeyLaw P K V)(hu:P.underlying t=some (.map K E))
    (q:∀w',MapF V w' g (λk'=>if k'=k then some v else f k')->Fr [g] w w'->w'.heap.size=w.heap.size->∀a,AgM ds a n L->wpList P ops Q rest a w'):wpList P ops Q (⟨none,.mapUpdate t x y z,ty,pos,after,none⟩::rest) a w:=by
  obtain⟨w',hr,D,I,M⟩:=y0j Z O hu k v
  exact z8o h U U (w':=w') (by simp[execOp,h.eval hx,h.eval hy,h.eval hz,hr]) (q w' D I M)
theorem y8m (O:ev L x=some (.map (some g)))(Z:ev L y=some (V k))(hz:ev L z=some v)(I:MapF V w g f)(D:KeyLaw P K V)(M:P.underlying t=some (.map K E))(q:∀w',MapF V w' g (λk'=>if k'=k then some v else f k')->Fr [g] w w'->w'.heap.size=w.heap.size->WL P ops Q rest n ds w' L):WL P ops Q (⟨none,.mapUpdate t x y z,ty,pos,after,none⟩::rest) n ds w L:=λa h=>x9r h O Z hz I D M q
end
end Go.Lw
namespace Go.Lw
open Go.RowKit
section
variable {P:Program} {n:Nat} {L:List (Nat×Value)} {ds:List Nat} {w w':World} {Q:Exit->Act->World->Prop} {ops:Array Oper} {rest:List Oper} {a:Act} {d:Nat} {ty T t:TypeId} {pos:String} {after:Array Edge} {v:Value} {x y:Operand}
theorem u5q {α:Type}{E:Enc α}{Z base g cap:Nat}{zs ys:List α}(h:AgM ds a n L)(hx:ev L x=some (.slice (some ⟨g,0,none⟩) zs.length cap))(hy:ev L y=some v)(ho:Own E T base w (.slice (some ⟨g,0,none⟩) zs.length cap) zs)(hs:Sl E w v ys)(hl:ys.length=zs.length)(he:ElemOf P t T E Z)(hn:Nat.blt d n=true)
    (q:∀w',Own E T base w' (.slice (some ⟨g,0,none⟩) zs.length cap) ys->Fr [g] w w'->w'.heap.size=w.heap.size->∀a,AgM ds a n ((d,.int .i64 (zs.length:Int))::L)->wpList P ops Q rest a w'):wpList P ops Q (⟨some d,.call ⟨.builtin .copy,#[x,y],#[t,t]⟩,ty,pos,after,none⟩::rest) a w:=by
  obtain⟨i,z,h1,h2,h3,h4,h5⟩:=he.info
  obtain⟨A,c,rfl,hc,hM,hA⟩:=hs.flat
  rcases ho with ⟨e,_⟩|⟨g',a6,cur,e,hb,hg,r1,r2,r3,r4⟩
  · cases e
  cases e
  have a1:ys.length*E.sz<=cur.size:=by rw[hl];exact Nat.le_trans (Nat.mul_le_mul_right _ r1) r3
  obtain⟨cs,D⟩:∃cs,ys.flatMap E.enc=cs:=⟨_,rfl⟩
  have I:cs.length=zs.length*E.sz:=by rw[<-D,E.flat_len,hl]
  have O:=E.flat_one ys
  rw[D]at O hA
  have a2:=run_storeCells_at P g 0 T cs 0 cur w hg (by rw[I];rw[hl]at a1;simpa using a1) O
  simp only[Nat.zero_add,List.take_zero,List.nil_append]at a2
  have a5:(Builtin.copy_ #[t,t] ty #[.slice (some ⟨g,0,none⟩) zs.length cap,.slice A ys.length c]).run P w=.ok (.int .i64 (zs.length:Int)) (w.setRow g (cs++cur.toList.drop cs.length).toArray):=by
    have a0:(Builtin.firstCells E.sz zs.length (.slice A ys.length c)).run P w=.ok cs.toArray w:=by
      by_cases hys:ys=[]
      · have h0:zs.length=0:=by rw[<-hl,hys];rfl
        have a3:cs=[]:=by rw[<-D,hys];rfl
        rw[h0,a3]
        cases A with
        | none=>simp[Builtin.firstCells]
        | some ad=>simp[Builtin.firstCells,loadCells,loadCellsFrom]
      · obtain⟨ad,rfl,a4⟩:=hA hys
        have M:=run_loadCells_list (P:=P) w ad cs a4
        rw[I]at M
        simpa[Builtin.firstCells] using M
    rw[hl]at a0
    simp only[Builtin.copy_,List.getElem?_toArray,List.getElem?_cons_zero,List.getElem?_cons_succ,Sem.run_bind,run_underlying he.und,Result.andThen_ok,Builtin.lenOf,Sem.run_pure,hl,Nat.min_self,show ∀m:Nat,Nat.min m m=m from Nat.min_self,sizeOf,typeInfo]
    simp[h1,h3,a0,a2,goInt]
  refine z2c h U hn (w':=w.setRow g (cs++cur.toList.drop cs.length).toArray) ?_ (q _ (.inr ⟨g,cap,_,by rw[hl],hb,setRow_heap w g cur _ T (0,0) hg,by rw[hl];exact r1,r2,?_,?_⟩) (Fr.setRow w g _) sp0)
  · rw[z2h];unfold builtin
    simp only[List.map_toArray,List.map_cons,List.map_nil,h.eval hx,h.eval hy,Sem.run_bind,a5,Result.andThen_ok,Sem.run_pure]
  · simp only[List.size_toArray,List.length_append,List.length_drop,Array.length_toList];omega
  · rw[hl,<-I,D];simp
theorem z8d {α:Type}{E:Enc α}{D base g cap:Nat}{zs ys:List α}(Z:ev L x=some (.slice (some ⟨g,0,none⟩) zs.length cap))(hy:ev L y=some v)(M:Own E T base w (.slice (some ⟨g,0,none⟩) zs.length cap) zs)(O:Sl E w v ys)(hl:ys.length=zs.length)(I:ElemOf P t T E D)(q:∀w',Own E T base w' (.slice (some ⟨g,0,none⟩) zs.length cap) ys->Fr [g] w w'->w'.heap.size=w.heap.size->WL P ops Q rest n ds w' ((d,.int .i64 (zs.length:Int))::L))(hn:Nat.blt d n=true:=by exact U):WL P ops Q (⟨some d,.call ⟨.builtin .copy,#[x,y],#[t,t]⟩,ty,pos,after,none⟩::rest) n ds w L:=λa h=>u5q h Z hy M O hl I hn q
end
end Go.Lw
namespace Go.Lw
open Go.RowKit
section
variable {P:Program} {n:Nat} {L:List (Nat×Value)} {ds:List Nat} {w w':World} {Q:Exit->Act->World->Prop} {ops:Array Oper} {rest:List Oper} {a:Act} {d:Nat} {ty T t:TypeId} {pos:String} {after:Array Edge} {v:Value} {x y:Operand}
theorem v4w {α:Type}{E:Enc α}{a5 base g m cap p k:Nat}{zs ys:List α}(h:AgM ds a n L)(hx:ev L x=some (.slice (some ((⟨g,0,none⟩:Addr).add (p*E.sz))) (m-p) (cap-p)))(hy:ev L y=some v)(ho:Own E T base w (.slice (some ⟨g,0,none⟩) m cap) zs)(hs:Sl E w v ys)(hp:p<=m)(hk:k=min (m-p) ys.length)(he:ElemOf P t T E a5)(hn:Nat.blt d n=true)
    (q:∀w',Own E T base w' (.slice (some ⟨g,0,none⟩) m cap) (zs.take p++ys.take k++zs.drop (p+k))->Fr [g] w w'->w'.heap.size=w.heap.size->∀a,AgM ds a n ((d,.int .i64 (k:Int))::L)->wpList P ops Q rest a w'):wpList P ops Q (⟨some d,.call ⟨.builtin .copy,#[x,y],#[t,t]⟩,ty,pos,after,none⟩::rest) a w:=by
  obtain⟨i,z,h1,h2,h3,h4,h5⟩:=he.info
  rcases ho with ⟨e,_⟩|⟨g',d4,cur,e,hb,hg,r1,r2,r3,r4⟩
  · cases e
  cases e
  obtain⟨A0,c0,e0,_,b5,_⟩:=id hs
  subst e0
  have d0:k<=ys.length:=by omega
  have d3:=hs.take U (m:=k) d0 (B:=A0) (c':=c0) oo b5 (λ_=>rfl)
  obtain⟨A,c,e2,hc,hM,hA⟩:=d3.flat
  have a2:(ys.take k).length=k:=by rw[List.length_take];omega
  rw[a2]at e2
  simp only[Value.slice.injEq]at e2
  obtain⟨rfl,-,rfl⟩:=e2
  obtain⟨cs,O⟩:∃cs,(ys.take k).flatMap E.enc=cs:=⟨_,rfl⟩
  have a0:cs.length=k*E.sz:=by rw[<-O,E.flat_len,a2]
  have a4:=E.flat_one (ys.take k)
  rw[O]at a4 hA
  have d1:p+k<=zs.length:=by omega
  have d5:p*E.sz+k*E.sz<=zs.length*E.sz:=by rw[<-Nat.add_mul];exact Nat.mul_le_mul_right _ d1
  have b8:zs.length*E.sz<=cur.size:=Nat.le_trans (Nat.mul_le_mul_right _ r1) r3
  have b2:=run_storeCells_at P g (p*E.sz) T cs 0 cur w hg (by rw[a0];omega) a4
  rw[Nat.add_zero,a0]at b2
  have c9:(Builtin.firstCells E.sz k (.slice A0 ys.length c0)).run P w=.ok cs.toArray w:=by
    by_cases hys:ys.take k=[]
    · have h0:k=0:=by have:=congrArg List.length hys;rw[a2]at this;simpa using this
      have b6:cs=[]:=by rw[<-O,hys];rfl
      rw[h0,b6]
      cases A0 with
      | none=>simp[Builtin.firstCells]
      | some ad=>simp[Builtin.firstCells,loadCells,loadCellsFrom]
    · obtain⟨ad,rfl,b7⟩:=hA hys
      have a1:=run_loadCells_list (P:=P) w ad cs b7
      rw[a0]at a1
      simpa[Builtin.firstCells] using a1
  have b4:(Builtin.copy_ #[t,t] ty #[.slice (some ((⟨g,0,none⟩:Addr).add (p*E.sz))) (zs.length-p) (cap-p),.slice A0 ys.length c0]).run P w=.ok (.int .i64 (k:Int)) (w.setRow g (cur.toList.take (p*E.sz)++cs++cur.toList.drop (p*E.sz+k*E.sz)).toArray):=by
    rw[z4q,Nat.zero_add]
    have a9:Nat.min (zs.length-p) ys.length=k:=hk.symm
    have a7:Nat.min ys.length (zs.length-p)=k:=(Nat.min_comm _ _).trans hk.symm
    simp only[Builtin.copy_,List.getElem?_toArray,List.getElem?_cons_zero,List.getElem?_cons_succ,Sem.run_bind,run_underlying he.und,Result.andThen_ok,Builtin.lenOf,Sem.run_pure,a9,sizeOf,typeInfo]
    simp[h1,h3,c9,b2,goInt,a7]
  obtain⟨D,Z,I,rfl,b3,a8⟩:∃D Z I,zs=D++(Z++I)/\D.length=p/\Z.length=k:=⟨zs.take p,(zs.drop p).take k,(zs.drop p).drop k,by rw[List.take_append_drop,List.take_append_drop],by rw[List.length_take];omega,by rw[List.length_take,List.length_drop];omega⟩
  have b0:(D++(Z++I)).take p++ys.take k++(D++(Z++I)).drop (p+k)=D++(ys.take k++I):=by
    rw[<-b3,List.take_left,<-a8,<-List.drop_drop,List.drop_left,List.drop_left,List.append_assoc]
  rw[b0]at q
  have a6:(D++(ys.take k++I)).length=(D++(Z++I)).length:=by simp only[List.length_append,a2,a8]
  have a3:cur.toList=(D++(Z++I)).flatMap E.enc++cur.toList.drop ((D++(Z++I)).length*E.sz):=by
    rw[<-r4,List.take_append_drop]
  have b9:(D.flatMap E.enc).length=p*E.sz:=by rw[E.flat_len,b3]
  have c1:(Z.flatMap E.enc).length=k*E.sz:=by rw[E.flat_len,a8]
  have b1:cur.toList.take (p*E.sz)++cs++cur.toList.drop (p*E.sz+k*E.sz)=(D++(ys.take k++I)).flatMap E.enc++cur.toList.drop ((D++(Z++I)).length*E.sz):=by
    generalize cur.toList.drop ((D++(Z++I)).length*E.sz)=R at a3 ⊢
    rw[a3]
    simp only[List.flatMap_append,List.append_assoc]
    rw[<-b9,List.take_left,<-c1,<-List.drop_drop,List.drop_left,List.drop_left,O]
  rw[b1]at b4
  refine z2c h U hn (w':=w.setRow g ((D++(ys.take k++I)).flatMap E.enc++cur.toList.drop ((D++(Z++I)).length*E.sz)).toArray) ?_ (q _ (.inr ⟨g,cap,_,by rw[a6],hb,setRow_heap w g cur _ T (0,0) hg,by rw[a6];exact r1,r2,?_,?_⟩) (Fr.setRow w g _) sp0)
  · rw[z2h];unfold builtin
    simp only[List.map_toArray,List.map_cons,List.map_nil,h.eval hx,h.eval hy,Sem.run_bind,b4,Result.andThen_ok,Sem.run_pure]
  · have e1:((D++(ys.take k++I)).flatMap E.enc).length=(D++(Z++I)).length*E.sz:=by rw[E.flat_len,a6]
    generalize (D++(ys.take k++I)).flatMap E.enc=X at e1
    generalize (D++(Z++I)).length*E.sz=M at e1 b8
    simp only[List.size_toArray,List.length_append,List.length_drop,Array.length_toList]
    omega
  · show List.take _ _=_
    rw[show (D++(ys.take k++I)).length*E.sz=((D++(ys.take k++I)).flatMap E.enc).length by rw[E.flat_len]]
    exact List.take_left
theorem u2w {α:Type}{E:Enc α}{D base g m cap p k:Nat}{zs ys:List α}(hx:ev L x=some (.slice (some ((⟨g,0,none⟩:Addr).add (p*E.sz))) (m-p) (cap-p)))(hy:ev L y=some v)(O:Own E T base w (.slice (some ⟨g,0,none⟩) m cap) zs)(Z:Sl E w v ys)(hp:p<=m)(M:k=min (m-p) ys.length)(I:ElemOf P t T E D)(hn:Nat.blt d n=true)
 (q:∀w',Own E T base w' (.slice (some ⟨g,0,none⟩) m cap) (zs.take p++ys.take k++zs.drop (p+k))->Fr [g] w w'->w'.heap.size=w.heap.size->WL P ops Q rest n ds w' ((d,.int .i64 (k:Int))::L)):WL P ops Q (⟨some d,.call ⟨.builtin .copy,#[x,y],#[t,t]⟩,ty,pos,after,none⟩::rest) n ds w L:=λa h=>v4w h hx hy O Z hp M I hn q
end
end Go.Lw
namespace Go.Lw
open Go.RowKit
theorem v0g {α:Type}{E:Enc α}{ys:List α}{i f:Nat}{z y:α}{v:Value}(M:ys[i]?=some y)(hf:f<E.sz)(hz:(E.enc y).set f v=E.enc z)(rest:List Value) :
    (ys.flatMap E.enc++rest).set (i*E.sz+f) v=(ys.set i z).flatMap E.enc++rest:=by
  have D:=(List.getElem?_eq_some_iff.1 M).1
  have O:ys.set i y=ys:=by
    apply List.ext_getElem?
    intro k
    rw[List.getElem?_set]
    by_cases e:i=k
    · subst e;rw[if_pos U,if_pos D,M]
    · rw[if_neg e]
  have I:=z7t (E:=E) ys y rest i D
  have Z:=z7t (E:=E) ys z rest i D
  rw[O]at I
  rw[<-Z]
  conv=>lhs;rw[<-I]
  have hl:((ys.flatMap E.enc++rest).take (i*E.sz)).length=i*E.sz:=by
    rw[List.length_take,List.length_append,E.flat_len]
    have:i*E.sz+E.sz<=ys.length*E.sz:=by rw[<-Nat.succ_mul];exact Nat.mul_le_mul_right _ D
    omega
  rw[List.append_assoc,List.set_append_right _ _ oo,hl,Nat.add_sub_cancel_left,List.set_append_left _ _ (by rw[E.len];exact hf),hz,List.append_assoc]
section
variable {P:Program} {a:Act} {n:Nat} {L:List (Nat×Value)} {ds:List Nat} {w:World} {Q:Exit->Act->World->Prop} {ops:Array Oper} {rest:List Oper} {d:Nat} {ty t T:TypeId} {pos:String} {after:Array Edge} {x y:Operand} {v:Value}
theorem y4i {α:Type}{E:Enc α}{base g m c i f:Nat}{ys:List α}(u z:α)(h:AgM ds a n L)(hx:ev L x=some (.pointer (some ((⟨g,0,none⟩:Addr).add (i*E.sz+f)))))(hy:ev L y=some v)(ho:Own E T base w (.slice (some ⟨g,0,none⟩) m c) ys)(O:ys[i]?=some u)(hf:f<E.sz)
    (hz:(E.enc u).set f v=E.enc z) (h1:v.oneCell'=true) (hc:v.cells=#[v]) (hs:z1t P t 1)
    (q:∀w',Own E T base w' (.slice (some ⟨g,0,none⟩) m c) (ys.set i z)->Fr [g] w w'->w'.heap.size=w.heap.size->∀a,AgM ds a n L->wpList P ops Q rest a w'):wpList P ops Q (⟨none,.store t x y,ty,pos,after,none⟩::rest) a w:=by
  rcases ho with ⟨e,_⟩|⟨g',cap,cur,e,hb,hg,r1,r2,r3,r4⟩
  · cases e
  cases e
  have M:=(List.getElem?_eq_some_iff.1 O).1
  have h5:i*E.sz+E.sz<=ys.length*E.sz:=by rw[<-Nat.succ_mul];exact Nat.mul_le_mul_right _ M
  have a0:ys.length*E.sz<=cur.size:=Nat.le_trans (Nat.mul_le_mul_right _ r1) r3
  have I:Blk w g T cur.toList:=hg
  have D:cur.toList=ys.flatMap E.enc++cur.toList.drop (ys.length*E.sz):=by rw[<-r4,List.take_append_drop]
  refine z6v h hx hy I (by rw[Nat.blt_eq,Array.length_toList];omega) h1 hc hs λw' Z k2 k3 a h=>q w' ?_ k2 k3 a h
  have e1:cur.toList.set (i*E.sz+f) v=(ys.set i z).flatMap E.enc++cur.toList.drop (ys.length*E.sz):=by
    conv=>lhs;rw[D]
    exact v0g O hf hz _
  rw[e1]at Z
  refine .inr ⟨g,c,_,by rw[List.length_set],hb,Z,by rw[List.length_set];exact r1,r2,?_,?_⟩
  · simp only[List.size_toArray,List.length_append,E.flat_len,List.length_set,List.length_drop,Array.length_toList];omega
  · rw[List.length_set,show ys.length*E.sz=((ys.set i z).flatMap E.enc).length by rw[E.flat_len,List.length_set]]
    exact List.take_left
theorem v8x {α:Type}{E:Enc α}{base g m c i f:Nat}{ys:List α}(u z:α)(M:ev L x=some (.pointer (some ((⟨g,0,none⟩:Addr).add (i*E.sz+f)))))(O:ev L y=some v)(I:Own E T base w (.slice (some ⟨g,0,none⟩) m c) ys)(D:ys[i]?=some u)(hf:f<E.sz)
 (hz:(E.enc u).set f v=E.enc z) (h1:v.oneCell'=true) (hc:v.cells=#[v]) (hs:z1t P t 1)
 (q:∀w',Own E T base w' (.slice (some ⟨g,0,none⟩) m c) (ys.set i z)->Fr [g] w w'->w'.heap.size=w.heap.size->WL P ops Q rest n ds w' L):WL P ops Q (⟨none,.store t x y,ty,pos,after,none⟩::rest) n ds w L:=λ_ h=>y4i u z h M O I D hf hz h1 hc hs q
end
end Go.Lw
namespace Go.Lw
open Go.RowKit
section
variable {P:Program} {a:Act} {n:Nat} {L:List (Nat×Value)} {w:World} {v:Value} {g g2:Nat} {T T2:TypeId} {cs cs2:List Value}
theorem u8o {fn:Func}{R:Ending->World->Prop}{p pt I D q:Nat}(h:Ag a n L)(hr:fn.results=#[.cell p pt,.cell I D,.tmp q])(hp:look L p=some (.pointer (some ⟨g,0,none⟩)))(hb:Blk w g T cs)(hg:z3p P pt cs.length)
    (hp2:look L I=some (.pointer (some ⟨g2,0,none⟩))) (hb2:Blk w g2 T2 cs2) (hg2:z3p P D cs2.length) (hv:look L q=some v) (k:R (.returned (.tuple #[.agg cs.toArray,.agg cs2.toArray,v])) w):bodyPost P fn R .ret a w:=
  bodyPost_ret (v:=.tuple #[.agg cs.toArray,.agg cs2.toArray,v]) (by
    have M:=h.at_ p _ hp
    have O:=h.at_ q _ hv
    have Z:=h.at_ I _ hp2
    simp only[Array.getD_eq_getD_getElem?]at M O Z
    simp[results,hr,M,O,Z,asAddr,loadVar,hg.1 w,hg.2 w,hg2.1 w,hg2.2 w,run_loadCells_list w _ cs hb.cells,run_loadCells_list w _ cs2 hb2.cells]) h.dfr k
theorem j0x {fn:Func}{R:Ending->World->Prop}{p pt I D q:Nat}(O:fn.results=#[.cell p pt,.cell I D,.tmp q])(hp:look L p=some (.pointer (some ⟨g,0,none⟩)))(hb:Blk w g T cs)(M:z3p P pt cs.length)
 (hp2:look L I=some (.pointer (some ⟨g2,0,none⟩))) (hb2:Blk w g2 T2 cs2) (hg2:z3p P D cs2.length) (hv:look L q=some v) (k:R (.returned (.tuple #[.agg cs.toArray,.agg cs2.toArray,v])) w):EW (bodyPost P fn R) .ret n [] w L:=λ_ h=>u8o h O hp hb M hp2 hb2 hg2 hv k
end
end Go.Lw
namespace Go.Lw
open Go.RowKit
section
variable {P:Program} {n:Nat} {L:List (Nat×Value)} {ds:List Nat} {w w':World} {Q:Exit->Act->World->Prop} {ops:Array Oper} {rest:List Oper} {a:Act} {d:Nat} {ty T t:TypeId} {pos:String} {after:Array Edge} {v:Value} {x y:Operand}
end
end Go.Lw
namespace Go.Lw
open Go.RowKit
section
variable {P:Program} {n:Nat} {L:List (Nat×Value)} {ds:List Nat} {w w':World} {Q:Exit->Act->World->Prop} {ops:Array Oper} {rest:List Oper} {a:Act} {d:Nat} {ty T t tn:TypeId} {pos:String} {after:Array Edge} {v:Value} {x y:Operand}
end
end Go.Lw
namespace Go.Proofs.YtlfdhllfmoplgaaGreatDoor
open Go.Lw _root_.Go.Proofs.Tryz
theorem z5r:z3p prog 42 2:=⟨λ_=>kr,λ_=>kr⟩
theorem y3q:z3p prog 44 6:=⟨λ_=>kr,λ_=>kr⟩
theorem y4d:BuildAt prog 42 [(0,1),(1,1)] [(.int .u8 0),(.int .i64 0)]:=BuildAt.struct underlying42 (λ_=>kr) (λ_=>kr)
theorem x0k:BuildAt prog 177 [(0,1),(1,1),(2,1),(3,1)] [(.bool false),(.bool false),(.bool false),(.bool false)]:=BuildAt.struct underlying177 (λ_=>kr) (λ_=>kr)
theorem v6a:CallOf prog 82:=mkC func82
theorem z5w:z1c prog 42 0 0:=λ_ _=>kr
theorem z5v:z1c prog 42 1 1:=λ_ _=>kr
theorem z7d:z1c prog 44 0 0:=λ_ _=>kr
theorem z7y:z1c prog 44 1 1:=λ_ _=>kr
theorem z4r:z1c prog 44 2 2:=λ_ _=>kr
theorem z3q:z1c prog 44 3 4:=λ_ _=>kr
theorem y2w:z1c prog 44 4 5:=λ_ _=>kr
theorem y7m:z1c prog 177 0 0:=λ_ _=>kr
theorem x3m:z1c prog 177 1 1:=λ_ _=>kr
theorem x3f:z1c prog 177 2 2:=λ_ _=>kr
theorem u4h:z1c prog 177 3 3:=λ_ _=>kr
theorem z2o:prog.follows .mixedOrders=true:=kr
theorem na3:z1y prog 3:=λ_=>kr
theorem na4:z1y prog 4:=λ_=>kr
theorem na5:z1y prog 5:=λ_=>kr
theorem x8m:z1y prog 38:=λ_=>kr
theorem y9j:z1y prog 39:=λ_=>kr
theorem x2g:z1y prog 40:=λ_=>kr
theorem u2u:z1t prog 177 4:=λ_=>kr
theorem x0h (w:World):(zeroValue 177).run prog w=.ok (.agg #[(.bool false),(.bool false),(.bool false),(.bool false)]) w:=kr
theorem z4t (b p:Int)(w0:World):Rets prog 82 #[.agg #[.int .u8 b,.int .i64 p]] w0 λv w'=>v=.int .i64 (z4g b p)/\Fr [] w0 w':=by
 refine we [(0,.agg #[.int .u8 b,.int .i64 p])] func82 U ntmps82 U (.cons U .nil) (sr (bx U (λZ w1 a0 D O z1=>(asg U (nn (sq (sq (rbo (r:=10) (L':=[(1,_)]) (((b≠0)/\(b≠1))) (.cons U .nil) ?_ ?_))))))));refine fad U z5w (z0i U D U x2g (ne' U (mv U (gs 6 U (λg0=>?_) (λg0=>?_)))));exact gY U (fad U z5w (gY U (z0i U D U x2g (gY U (ne' U (pkt U (rbe U (.cons U .nil))))))));exact gN U (gN U (gN U (pkf U (rbe U (.cons U .nil)))));refine tn (cd U (λI=>?_) (λI=>?_));exact sr (asg U (nn (rt (tr (r1 results82 U ⟨_,rfl,by rw[z4g,if_pos I],O⟩)))));refine sk (tn (sq (sq (rbo (r:=18) (L':=[]) (((p<1)\/(40<p))) .nil ?_ ?_))));refine fad U z5v (z0i U D U na3 (lt' U (mv U (gs 14 U (λZ=>?_) (λZ=>?_)))));exact gN U (gN U (gN U (pkt U (rbe U .nil))));exact gY U (fad U z5v (gY U (z0i U D U na3 (gY U (gt' U (pkf U (rbe U .nil)))))));refine tn (cd U (λM=>?_) (λM=>?_));exact sr (asg U (nn (rt (tr (r1 results82 U ⟨_,rfl,by rw[z4g,if_neg I,if_pos M],O⟩)))));exact sk (tn (sr (asg U (nn (rt (r1 results82 U ⟨_,rfl,by rw[z4g,if_neg I,if_neg M],O⟩))))))
def kV (k:Int):Value:=.int .u8 k
theorem y5l:KeyLaw prog 38 kV:=KeyLaw.now underlying38 (λk k'=>by simp[kV,Instr.sameNow,y4p]) (λ_ _ _=>kr) (λ_=>by simp[kV,Instr.sameBits])
theorem y8o (w0:World):Rets prog 100 #[] w0 λv w'=>∃g,v=.map (some g)/\w0.heap.size<=g/\g<w'.heap.size/\MapF kV w' g x3r/\Fr [] w0 w':=by
 refine we [] func100 U ntmps100 U .nil (sr (asg U (nn (sr (y4b kV U (λI w1 M D O z1=>?_))))))
 refine z1s (cs:=[_,_,_,_]) (ev2 U) x0k (z0f U (z0f U z0q)) U ?_
 refine z3e (V:=kV) (k:=1) U D y5l underlying179 (λw2 D Z z2=>?_)
 refine z1s (cs:=[_,_,_,_]) (ev1 U) x0k (z0f U z0q) U ?_
 refine z3e (V:=kV) (k:=2) U D y5l underlying179 (λw3 D q3 z3=>?_)
 refine z1s (cs:=[_,_,_,_]) (ev1 U) x0k (z0f U z0q) U ?_
 refine z3e (V:=kV) (k:=3) U D y5l underlying179 (λw4 D q4 z4=>?_)
 refine z1s (cs:=[_,_,_,_]) (ev3 U) x0k (z0f U (z0f U (z0f U z0q))) U ?_
 refine z3e (V:=kV) (k:=4) U D y5l underlying179 (λw5 D q5 z5=>?_)
 refine z1s (cs:=[_,_,_,_]) (ev3 U) x0k (z0f U (z0f U (z0f U z0q))) U ?_
 refine z3e (V:=kV) (k:=5) U D y5l underlying179 (λw6 D q6 z6=>?_)
 refine z1s (cs:=[_,_,_,_]) (ev3 U) x0k (z0f U (z0f U (z0f U z0q))) U ?_
 refine z3e (V:=kV) (k:=6) U D y5l underlying179 (λw7 D q7 z7=>?_)
 refine z1s (cs:=[_,_,_,_]) (ev1 U) x0k (z0f U z0q) U ?_
 refine z3e (V:=kV) (k:=7) U D y5l underlying179 (λw8 D q8 z8=>?_)
 refine z1s (cs:=[_,_,_,_]) (ev1 U) x0k (z0f U z0q) U ?_
 refine z3e (V:=kV) (k:=8) U D y5l underlying179 (λw9 D q9 z9=>(mv U (asg U (nn (rt (r1 results100 U ?_))))))
 exact⟨_,rfl,I,rfl,oo,oo,by
  refine(funext λk=>?_:x3r=_)▸D
  unfold x3r z7l;repeat' split
  all_goals first|rfl|(simp_all [f4V];done),(((O.z6 Z q3 q4 q5 q6 q7).z1 q8).z1 q9)⟩
theorem j3k:x7a prog 42 ndV:=by
 intro e f O Z w;have M:∀D,(eqGuard D 42 O Z (ndV e) (ndV f)).run prog w=.ok () w:=λD=>run_eqGuard_agg w D 42 O Z _ _ kr;have I:prog.stoodInHeld 42=false:=by kernel_rfl
 obtain⟨k,y⟩:=e;obtain⟨k',y'⟩:=f;refine⟨M _,M _,?_,?_⟩;unfold ndV;simp[go_sem,I,underlying42];(repeat' split)<;>simp_all
 unfold ndV;simp[go_sem,I,underlying42];(repeat' split)<;>simp_all
theorem v5b (o:MOp)(w0:World):Rets prog 47 #[opV o] w0 λv w'=>v=.bool (decide (y6a o))/\Fr [] w0 w':=by
 refine we [(0,opV o)] func47 U ntmps47 U (.cons U .nil) (sr (bx U (λg1 w1 c9 D q1 z1=>(asg U (nn (jn (ι:=Nat) [(1,_)] (λg3=>[(3,.pointer (some ⟨g3,0,none⟩)),(4,.bool (z7l o.k).isSome)]) (λg3 w'=>Fr [] w1 w'/\w1.heap.size<=g3/\Blk w' g3 177 (f4L ((z7l o.k).getD f40))) (.cons U .nil) ?_ ?_))))));intro a h;have O:=Fr.refl [] w1;refine z2z (λwb w'=>Fr [] wb w') z2o ?_;intro w2 M;replace D:=D.ext M;replace O:=O.next M;have d1:=M.size;clear M;have hC:Fr [] w2 w2:=Fr.refl _ _;have a2:=D;refine z0c 1 h U z7d U λa h=>z0l 2 h U (λ_ hw=>a2.ext hw) U x8m U λa h=>z1u 0 7 kr U ?_ ?_;refine z0n h z0g (mkC func100) (y8o _) ?_;rintro _ w3 ⟨gm,rfl,a9,b0,hm,M⟩ a h;replace D:=D.ext M;replace O:=O.next M;replace hC:=hC.next M;clear M;refine z0b (z1u 3 7 kr U ?_ ?_);refine y1o (V:=kV) (k:=o.k) h U U hm y5l underlying179 x0h (z6w _) (y1u _) U λa h=>z0b (z0e 4 h U λa h=>z0k 5 h U λa h=>z0k 6 h U λa h=>z0d 7 U (z0u h x0h U λw4 I M hz a h=>?_));obtain⟨Z,hg⟩:∃g,g=w3.heap.size:=⟨_,rfl⟩;rw[<-hg]at I h hz;have a7:g1<Z:=by have:=D.lt;omega
 have a1:w1.heap.size<=Z:=by have:=O.size;omega
 have a5:w2.heap.size<=Z:=by have:=hC.size;omega
 replace D:=D.ext M;replace O:=O.next M;replace hC:=hC.next M;replace hm:=hm.ext M;clear M;refine z0b (z0d 8 U (z0p h U I U u2u ?_ (h1:=(by first|(simp[Value.oneCell',S];done)|exact Enc.one _ _|exact x3s _))));clear h a;intro w5 a4 M hz a h;replace D:=D.fr M;replace O:=O.sp M;replace hC:=hC.sp M;replace hm:=hm.fr M (by simp;exact hm.ne_blk I);clear I M hz;have I:Blk w5 Z _ [_,_,_,_]:=a4;clear a4;refine z0b (z0d 9 U (z0t h U λa h=>?_));refine z0b (z0r ?_);clear hC a2;exact bk (h.sub (L':=[(1,_),(3,_),(4,_)]) (.c3 U U U)) (jE (Z) (.c3 U U U) ⟨O,⟨oo,I⟩⟩);refine z0u h x0h U λw6 I M hz a h=>?_;obtain⟨Z,hg⟩:∃g,g=w3.heap.size:=⟨_,rfl⟩;rw[<-hg]at I h hz;have a7:g1<Z:=by have:=D.lt;omega
 have a1:w1.heap.size<=Z:=by have:=O.size;omega
 have a5:w2.heap.size<=Z:=by have:=hC.size;omega
 replace D:=D.ext M;replace O:=O.next M;replace hC:=hC.next M;replace hm:=hm.ext M;clear M;refine z0b (z0d 3 U (y1o (V:=kV) (k:=o.k) h U U hm y5l underlying179 x0h (z6w _) (y1u _) U λa h=>?_));refine z0b (z0e 4 h U λa h=>z0k 5 h U λa h=>z0k 6 h U λa h=>z0d 8 U (z0p h U I U u2u ?_ (h1:=(by first|(simp[Value.oneCell',S];done)|exact Enc.one _ _|exact x3s _))));clear h a;intro w7 a4 M hz a h;replace D:=D.fr M;replace O:=O.sp M;replace hC:=hC.sp M;replace hm:=hm.fr M (by simp;exact hm.ne_blk I);clear I M hz;have I:Blk w7 Z _ [_,_,_,_]:=a4;clear a4;refine z0b (z0d 9 U (z0t h U λa h=>?_));refine z0b (z0r ?_);clear hC a2;exact bk (h.sub (L':=[(1,_),(3,_),(4,_)]) (.c3 U U U)) (jE (Z) (.c3 U U U) ⟨O,⟨oo,I⟩⟩);refine z0u h x0h U λw8 I M hz a h=>?_;obtain⟨Z,hg⟩:∃g,g=w2.heap.size:=⟨_,rfl⟩;rw[<-hg]at I h hz;have a7:g1<Z:=by have:=D.lt;omega
 have a1:w1.heap.size<=Z:=by have:=O.size;omega
 have a5:w2.heap.size<=Z:=by have:=hC.size;omega
 replace D:=D.ext M;replace O:=O.next M;replace hC:=hC.next M;clear M;refine z0b (z0d 0 U (z0n h z0g (mkC func100) (y8o _) ?_));rintro _ w9 ⟨gm,rfl,a9,b0,hm,M⟩ a h;replace D:=D.ext M;replace O:=O.next M;replace hC:=hC.next M;replace I:=I.ext M;clear M;refine z0b (z0d 3 U (y1o (V:=kV) (k:=o.k) h U U hm y5l underlying179 x0h (z6w _) (y1u _) U λa h=>?_));refine z0b (z0e 4 h U λa h=>z0k 5 h U λa h=>z0k 6 h U λa h=>z0d 8 U (z0p h U I U u2u ?_ (h1:=(by first|(simp[Value.oneCell',S];done)|exact Enc.one _ _|exact x3s _))));clear h a;intro b8 a4 M hz a h;replace D:=D.fr M;replace O:=O.sp M;replace hC:=hC.sp M;replace hm:=hm.fr M (by simp;exact hm.ne_blk I);clear I M hz;have I:Blk b8 Z _ [_,_,_,_]:=a4;clear a4;refine z0b (z0d 9 U (z0t h U λa h=>?_));refine z0b (z0r ?_);clear hC a2;exact bk (h.sub (L':=[(1,_),(3,_),(4,_)]) (.c3 U U U)) (jE (Z) (.c3 U U U) ⟨O,⟨oo,I⟩⟩);rintro g3 b9 ⟨a0,⟨d0,I⟩⟩;have b1:=I.lt;refine kpC [(1,_),(3,_),(4,_)] (.c3 U U U) ?_;obtain⟨f,hf⟩:∃f,(z7l o.k).getD f40=f:=⟨_,rfl⟩;rw[hf]at I;have a6:y6a o↔(z7l o.k).isSome=true/\x4w f o:=by rw[<-hf];rfl
 replace I:Blk b9 g3 _ [.bool f.1,.bool f.2.1,.bool f.2.2.1,.bool f.2.2.2]:=I;refine sq (sr (mv U (nt' U (nn (cd U (λc0=>?_) (λc0=>?_))))));refine sr (asg U (nn (rt (tr (r1 results47 U ?_)))));exact⟨_,rfl,congrArg Value.bool (decide_eq_false (λh=>by simp[(a6.1 h).1]at c0)).symm,(q1.n1 a0)⟩;refine sk (tn (sq (sq (rbo (r:=35) (L':=[(1,_),(3,_)]) ((((f.1=true/\(o.d≠0))/\(o.d≠1))\/((¬f.1=true)/\(o.d≠0)))) (.c2 U U) ?_ ?_))));refine fad U y7m (z0i U I U na4 (mv U (gs 16 U (λg0=>?_) (λg0=>?_))));refine gY U (fad U z7y (gY U ?_));replace D:=D.ext a0;refine z0i U D U y9j (gY U (ne' U (pkt U (mv U (gs 21 U (λg1=>?_) (λg1=>?_))))));refine gY U (fad U z7y (gY U (z0i U D U y9j (gY U (ne' U (pkt U (mv U (gs 26 U (λg2=>?_) (λg2=>?_)))))))));exact gN U (gN U (gN U (gN U (gS U (gS U (gS U (gN U (pkt U (rbe U (.c2 U U))))))))));refine gY U (fad U y7m (gY U (z0i U I U na4 (gY U (nt' U (gY U (mv U (gs 30 U (λg3=>?_) (λg3=>?_)))))))));exact gY U (fad U z7y (gY U (z0i U D U y9j (gY U (ne' U (gY U (pkt U (pkf U (rbe U (.c2 U U))))))))));exact gN U (gN U (gN U (gY U (pkf U (pkf U (rbe U (.c2 U U)))))));refine gN U (gN U (gN U (pkf U (mv U (gY U (fad U y7m (gY U (z0i U I U na4 (gY U (nt' U (gY U (mv U (gs 30 U (λg4=>?_) (λg4=>?_))))))))))))));exact gY U (fad U z7y (gY U (z0i U D U y9j (gY U (ne' U (gY U (pkt U (pkf U (rbe U (.c2 U U))))))))));exact gN U (gN U (gN U (gY U (pkf U (pkf U (rbe U (.c2 U U)))))));refine gN U (gN U (gN U (pkf U (mv U (gN U (gN U (gN U (pkf U (mv U (gY U (fad U y7m (gY U (z0i U I U na4 (gY U (nt' U (gY U (mv U (gs 30 U (λg5=>?_) (λg5=>?_)))))))))))))))))));refine gY U (fad U z7y (gY U ?_));replace D:=D.ext a0;exact z0i U D U y9j (gY U (ne' U (gY U (pkt U (pkf U (rbe U (.c2 U U)))))));exact gN U (gN U (gN U (gY U (pkf U (pkf U (rbe U (.c2 U U)))))));refine tn (cd U (λc1=>?_) (λc1=>?_));refine sr (asg U (nn (rt (tr (r1 results47 U ?_)))));exact⟨_,rfl,congrArg Value.bool (decide_eq_false (λh=>(a6.1 h).2.1 c1)).symm,(q1.n1 a0)⟩;refine sk (tn (sq (sq (v4l (r:=54) (L':=[(1,_),(3,_)]) (((f.2.1=true/\((z4g o.b o.p)≠0))\/((¬f.2.1=true)/\(¬(o.b=0/\o.p=0))))) (.c2 U U) ?_ ?_))));refine fad U x3m (z0i U I U na4 (mv U (gs 38 U (λg6=>?_) (λg6=>?_))));refine gY U (fad U z4r (gY U ?_));replace D:=D.ext a0;refine z1v (vs:=[_,_]) U D z5r U (gY U (cl (ev1 U) v6a (z4t _ _ _) U ?_));rintro _ d3 ⟨rfl,a8⟩;refine gY U (ne' U (pkt U (mv U (gs 44 U (λg7=>?_) (λg7=>?_)))));exact gN U (gN U (gN U (gN U (gS U (gS U (gS U (gS U (gN U (pkt U (y2n U (.c2 U U) a8))))))))));refine gY U (fad U x3m (gY U ?_));replace I:=I.ext a8;refine z0i U I U na4 (gY U (nt' U (gY U (mv U (gs 48 U (λg8=>?_) (λg8=>?_))))));refine gY U (fad U z4r (gY U ?_));replace D:=D.ext a8;exact z1v (vs:=[_,_]) U D z5r U (gY U (z1s (cs:=[_,_]) z0g y4d z0q U (gY U (u1v (V:=ndV) (e:=(_,_)) (f:=(_,_)) U U j3k U (gY U (pkt U (pkf U (y2n U (.c2 U U) a8))))))));exact gN U (gN U (gN U (gN U (gY U (pkf U (pkf U (y2n U (.c2 U U) a8)))))));refine gN U (gN U (gN U (gN U (pkf U (mv U (gY U (fad U x3m (gY U (z0i U I U na4 (gY U (nt' U (gY U (mv U (gs 48 U (λg9=>?_) (λg9=>?_)))))))))))))));refine gY U (fad U z4r (gY U ?_));replace D:=D.ext a0;exact z1v (vs:=[_,_]) U D z5r U (gY U (z1s (cs:=[_,_]) z0g y4d z0q U (gY U (u1v (V:=ndV) (e:=(_,_)) (f:=(_,_)) U U j3k U (gY U (pkt U (pkf U (y2n U (.c2 U U) (Fr.refl _ _)))))))));exact gN U (gN U (gN U (gN U (gY U (pkf U (pkf U (y2n U (.c2 U U) (Fr.refl _ _))))))));intro d4 a3;have d5:=a3.size;refine tn (cd U (λc2=>?_) (λc2=>?_));refine sr (asg U (nn (rt (tr (r1 results47 U ?_)))));exact⟨_,rfl,congrArg Value.bool (decide_eq_false (λh=>(a6.1 h).2.2.1 c2)).symm,(q1.n2 a0 a3)⟩;refine sk (tn (sq (sq (rbo (r:=76) (L':=[(1,_),(3,_)]) (((f.2.2.1=true/\((o.y<1)\/(6<o.y)))\/((¬f.2.2.1=true)/\(o.y≠0)))) (.c2 U U) ?_ ?_))));refine fad U x3f ?_;replace I:=I.ext a3;refine z0i U I U na4 (mv U (gs 57 U (λb2=>?_) (λb2=>?_)));refine gY U (fad U z3q (gY U ?_));replace D:=D.ext (a0.n1 a3);refine z0i U D U na5 (gY U (lt' U (gY U (mv U (gs 61 U (λb3=>?_) (λb3=>?_))))));exact gN U (gN U (gN U (gY U (pkt U (pkt U (mv U (gN U (gN U (gN U (gN U (gS U (gS U (gS U (gN U (pkt U (rbe U (.c2 U U)))))))))))))))));refine gY U (fad U z3q (gY U (z0i U D U na5 (gY U (gt' U (gY U (pkf U (pkt U (mv U (gs 67 U (λb4=>?_) (λb4=>?_)))))))))));exact gN U (gN U (gN U (gN U (gS U (gS U (gS U (gN U (pkt U (rbe U (.c2 U U))))))))));refine gY U (fad U x3f (gY U (z0i U I U na4 (gY U (nt' U (gY U (mv U (gs 71 U (λb5=>?_) (λb5=>?_)))))))));exact gY U (fad U z3q (gY U (z0i U D U na5 (gY U (ne' U (gY U (pkt U (pkf U (rbe U (.c2 U U))))))))));exact gN U (gN U (gN U (gY U (pkf U (pkf U (rbe U (.c2 U U)))))));refine gN U (gN U (gN U (gN U (gS U (gS U (gS U (gN U (pkf U (mv U (gY U (fad U x3f (gY U (z0i U I U na4 (gY U (nt' U (gY U (mv U (gs 71 U (λb6=>?_) (λb6=>?_)))))))))))))))))));refine gY U (fad U z3q (gY U ?_));replace D:=D.ext (a0.n1 a3);exact z0i U D U na5 (gY U (ne' U (gY U (pkt U (pkf U (rbe U (.c2 U U)))))));exact gN U (gN U (gN U (gY U (pkf U (pkf U (rbe U (.c2 U U)))))));refine tn (cd U (λc3=>?_) (λc3=>?_));refine sr (asg U (nn (rt (tr (r1 results47 U ?_)))));exact⟨_,rfl,congrArg Value.bool (decide_eq_false (λh=>(a6.1 h).2.2.2.1 c3)).symm,(q1.n2 a0 a3)⟩;refine sk (tn (sq (rbo (r:=2) (L':=[]) ((f.2.2.2=true\/(o.r=0))) .nil ?_ ?_)));refine fad U u4h ?_;replace I:=I.ext a3;refine z0i U I U na4 (mv U (gs 79 U (λb7=>?_) (λb7=>?_)));exact gN U (gN U (gN U (pkt U (asg U (rbe U .nil)))));refine gY U (fad U y2w (gY U ?_));replace D:=D.ext (a0.n1 a3);exact z0i U D U na3 (gY U (eq' U (pkf U (asg U (rbe U .nil)))));refine tn (rt (r1 results47 U ?_));exact⟨_,rfl,congrArg Value.bool (decide_eq_decide.2 ⟨λh=>a6.2 ⟨by revert c0;cases (z7l o.k).isSome<;>simp,c1,c2,c3,h⟩,λh=>(a6.1 h).2.2.2.2⟩),(q1.n2 a0 a3)⟩
theorem y0n (o:MOp)(w0:World):Rets prog 20 #[opV o] w0 λv w'=>v=.int .i64 (y5k o)/\Fr [] w0 w':=by
 refine we [(0,opV o)] func20 U ntmps20 U (.cons U .nil) (sr (bx U (λg1 w1 a0 D Z z1=>(asg U (nn (sq (sr (z0m U D y3q (cl (ev1 U) (mkC func47) (v5b o _) U ?_)))))))));rintro _ w2 ⟨rfl,M⟩;refine nt' U (nn (cd U (λI=>?_) (λI=>?_)));exact sr (asg U (nn (rt (tr (r1 results20 U ⟨_,rfl,by rw[y5k,if_pos I],(Z.n1 M)⟩)))));refine sk (tn (sq (sq (rbo (r:=13) (L':=[]) (((o.r < -4)\/(4<o.r))) .nil ?_ ?_))));refine fad U y2w ?_;replace D:=D.ext M;refine z0i U D U na3 (lt' U (mv U (gs 9 U (λg0=>?_) (λg0=>?_))));exact gN U (gN U (gN U (pkt U (rbe U .nil))));exact gY U (fad U y2w (gY U (z0i U D U na3 (gY U (gt' U (pkf U (rbe U .nil)))))));refine tn (cd U (λO=>?_) (λO=>?_));exact sr (asg U (nn (rt (tr (r1 results20 U ⟨_,rfl,by rw[y5k,if_neg I,if_pos O],(Z.n1 M)⟩)))));exact sk (tn (sr (asg U (nn (rt (r1 results20 U ⟨_,rfl,by rw[y5k,if_neg I,if_neg O],(Z.n1 M)⟩))))))
open Go.Lw Go.G21 Go.G08 _root_.Go.Proofs.Tryz
theorem z2q:z3p prog 64 2:=⟨λ_=>kr,λ_=>kr⟩
theorem z8f:z3p prog 107 4:=⟨λ_=>kr,λ_=>kr⟩
theorem z8a:z1c prog 64 0 0:=λ_ _=>kr
theorem z9q:z1c prog 64 1 1:=λ_ _=>kr
theorem x2e:z1c prog 107 0 0:=λ_ _=>kr
theorem z7m:z1c prog 107 2 3:=λ_ _=>kr
theorem j1w:z1t prog 39 1:=λ_=>kr
def idV (i:LId):Value:=.agg (idL i).toArray
def paV (p:Pa):Value:=.agg (paL p).toArray
theorem j1s:x7a prog 64 idV:=by
 intro e f O Z w;have M:∀D,(eqGuard D 64 O Z (idV e) (idV f)).run prog w=.ok () w:=λD=>run_eqGuard_agg w D 64 O Z _ _ kr;have I:prog.stoodInHeld 64=false:=by kernel_rfl
 obtain⟨y,n⟩:=e;obtain⟨y',n'⟩:=f;refine⟨M _,M _,?_,?_⟩;unfold idV;simp[go_sem,I,underlying64];(repeat' split)<;>simp_all
 unfold idV;simp[go_sem,I,underlying64];(repeat' split)<;>simp_all
theorem eqPa:x7a prog 107 paV:=by
 intro e f O Z w;have M:∀D,(eqGuard D 107 O Z (paV e) (paV f)).run prog w=.ok () w:=λD=>run_eqGuard_agg w D 107 O Z _ _ kr;have I:prog.stoodInHeld 107=false:=by kernel_rfl
 obtain⟨⟨y,n⟩,b,d⟩:=e;obtain⟨⟨y',n'⟩,b',d'⟩:=f;refine⟨M _,M _,?_,?_⟩;unfold paV;simp[go_sem,I,underlying107];(repeat' split)<;>simp_all
 unfold paV;simp[go_sem,I,underlying107];(repeat' split)<;>simp_all
theorem y7v (i:LId)(w0:World):Rets prog 109 #[.agg #[.int .u8 i.y,.int .i64 i.n]] w0 λr w'=>r=.bool (decide (y1j i))/\Fr [] w0 w':=by
 refine we [(0,.agg #[.int .u8 i.y,.int .i64 i.n])] func109 U ntmps109 U (.cons U .nil) (sr (bx U (λI w1 O D Z z1=>(asg U (nn (sq (rbo (r:=2) (L':=[]) (((((1<=i.y)/\(i.y<=6))/\(0<=i.n))/\(i.n<2048))) .nil ?_ ?_)))))));refine fad U z8a (z0i U D U na5 (ge' U U (mv U (gs 6 U (λM=>?_) (λM=>?_)))));refine gY U (fad U z8a (gY U (z0i U D U na5 (gY U (le' U (pkt U (mv U (gs 11 U (λI=>?_) (λI=>?_)))))))));refine gY U (fad U z9q (gY U (z0i U D U na3 (gY U (ge' U U (pkt U (mv U (gs 16 U (λg2=>?_) (λg2=>?_)))))))));exact gY U (fad U z9q (gY U (z0i U D U na3 (gY U (lt' U (pkt U (asg U (rbe U .nil))))))));exact gN U (gN U (gN U (pkf U (asg U (rbe U .nil)))));exact gN U (gN U (gN U (pkf U (mv U (gN U (gN U (gN U (pkf U (asg U (rbe U .nil))))))))));exact gN U (gN U (gN U (pkf U (mv U (gN U (gN U (gN U (pkf U (mv U (gN U (gN U (gN U (pkf U (asg U (rbe U .nil)))))))))))))));refine tn (rt (r1 results109 U ?_));exact⟨_,rfl,congrArg Value.bool (decide_eq_decide.2 (by unfold y1j;omega)),Z⟩
theorem y3f (d:Int)(w0:World):Rets prog 155 #[.int .u8 d] w0 λr w'=>r=.bool (decide (z5z d))/\Fr [] w0 w':=by
 refine we [(0,.int .u8 d)] func155 U ntmps155 U (.cons U .nil) (sr (asg U (nn (sq (rbo (r:=2) (L':=[]) (((d=0)\/(d=1))) .nil ?_ ?_)))));refine mv U (eq' U (mv U (gs 5 U (λD=>?_) (λD=>?_))));exact gN U (gN U (pkt U (asg U (rbe U .nil))));exact gY U (mv U (gY U (eq' U (pkf U (asg U (rbe U .nil))))));refine tn (rt (r1 results155 U ?_));exact⟨_,rfl,congrArg Value.bool (decide_eq_decide.2 (by unfold z5z;omega)),(Fr.refl _ _)⟩
theorem x5o (p:Pa)(w0:World):Rets prog 111 #[.agg #[.int .u8 p.id.y,.int .i64 p.id.n,.bool p.f,.int .u8 p.d]] w0 λr w'=>r=.bool (decide (y0x p))/\Fr [] w0 w':=by
 refine we [(0,.agg #[.int .u8 p.id.y,.int .i64 p.id.n,.bool p.f,.int .u8 p.d])] func111 U ntmps111 U (.cons U .nil) (sr (bx U (λg1 w1 Z D q1 z1=>(asg U (nn (sq (v4l (r:=2) (L':=[]) (((y1j ⟨p.id.y,p.id.n⟩)/\(z5z p.d))) .nil ?_ ?_)))))));refine fad U x2e (z1v (vs:=[_,_]) U D z2q U (cl (ev1 U) (mkC func109) (y7v ⟨_,_⟩ _) U ?_));rintro _ w2 ⟨rfl,I⟩;refine mv U (gs 6 U (λO=>?_) (λO=>?_));refine gY U (fad U z7m (gY U ?_));replace D:=D.ext I;refine z0i U D U y9j (gY U (cl (ev1 U) (mkC func155) (y3f _ _) U ?_));rintro _ w3 ⟨rfl,q3⟩;exact pkt U (asg U (y2n U .nil (I.n1 q3)));exact gN U (gN U (gN U (pkf U (asg U (y2n U .nil I)))));intro w4 M;have z4:=M.size;refine tn (rt (r1 results111 U ?_));exact⟨_,rfl,congrArg Value.bool (decide_eq_decide.2 (by rfl)),(q1.n1 M)⟩
theorem y6k (x:Int)(w0:World):Rets prog 110 #[.int .i64 x] w0 λr w'=>r=.bool (decide (x8k x))/\Fr [] w0 w':=by
 refine we [(0,.int .i64 x)] func110 U ntmps110 U (.cons U .nil) (sr (asg U (nn (sq (rbo (r:=2) (L':=[]) (((((Int.tmod x 2)≠0)/\(-13<=x))/\(x<=179))) .nil ?_ ?_)))));refine mv U (y3c U (by first|exact IntWalk.rem_in _ _ oo|rfl) (ne' U (mv U (gs 6 U (λD=>?_) (λD=>?_)))));refine gY U (mv U (gY U (ge' U U (pkt U (mv U (gs 10 U (λI=>?_) (λI=>?_)))))));exact gY U (mv U (gY U (le' U (pkt U (asg U (rbe U .nil))))));exact gN U (gN U (pkf U (asg U (rbe U .nil))));exact gN U (gN U (pkf U (mv U (gN U (gN U (pkf U (asg U (rbe U .nil))))))));refine tn (rt (r1 results110 U ?_));exact⟨_,rfl,congrArg Value.bool (decide_eq_decide.2 (by unfold x8k;exact and_assoc)),(Fr.refl _ _)⟩
theorem x0w (p q:Pa)(w0:World):Rets prog 112 #[.agg #[.int .u8 p.id.y,.int .i64 p.id.n,.bool p.f,.int .u8 p.d],.agg #[.int .u8 q.id.y,.int .i64 q.id.n,.bool q.f,.int .u8 q.d]] w0 λr w'=>r=.bool (decide (u0s p q))/\Fr [] w0 w':=by
 refine we [(0,.agg #[.int .u8 p.id.y,.int .i64 p.id.n,.bool p.f,.int .u8 p.d]),(1,.agg #[.int .u8 q.id.y,.int .i64 q.id.n,.bool q.f,.int .u8 q.d])] func112 U ntmps112 U (.c2 U U) (sr (bx U (λg2 w1 a0 I q1 z1=>(bx U (λg3 w2 a1 D Z z2=>(asg U (nn (sq (sq (v4l (r:=21) (L':=[(2,_),(3,_)]) ((((¬(z5z p.d))\/(¬(z5z q.d)))\/(p.d=q.d))) (.c2 U U) ?_ ?_))))))))));refine fad U z7m ?_;replace I:=I.ext Z;refine z0i U I U y9j (cl (ev1 U) (mkC func155) (y3f _ _) U ?_);rintro _ w3 ⟨rfl,M⟩;refine nt' U (mv U (gs 9 U (λg0=>?_) (λg0=>?_)));exact gN U (gN U (gN U (gN U (pkt U (mv U (gN U (gN U (gN U (gN U (gN U (pkt U (y2n U (.c2 U U) M))))))))))));refine gY U (fad U z7m (gY U ?_));replace D:=D.ext M;refine z0i U D U y9j (gY U (cl (ev1 U) (mkC func155) (y3f _ _) U ?_));rintro _ w4 ⟨rfl,q4⟩;refine gY U (nt' U (pkf U (mv U (gs 15 U (λg1=>?_) (λg1=>?_)))));exact gN U (gN U (gN U (gN U (gN U (pkt U (y2n U (.c2 U U) (M.n1 q4)))))));refine gY U (fad U z7m (gY U ?_));replace I:=I.ext (M.n1 q4);refine z0i U I U y9j (gY U (fad U z7m (gY U ?_)));replace D:=D.ext q4;exact z0i U D U y9j (gY U (eq' U (pkf U (y2n U (.c2 U U) (M.n1 q4)))));intro w5 O;have z5:=O.size;refine tn (cd U (λc0=>?_) (λc0=>?_));refine sr (asg U (nn (rt (tr (r1 results112 U ?_)))));exact⟨_,rfl,congrArg Value.bool (decide_eq_false (u5p c0)).symm,(q1.n2 Z O)⟩;refine sk (tn (sr (fad U z7m ?_)));replace I:=I.ext (Z.n1 O);refine z0i U I U y9j (fad U z7m ?_);replace D:=D.ext O;refine z3l U D U j1w (λw6 D q6 z6=>?_);replace D:Blk w6 g3 _ [_,_,_,_]:=D;refine nn (sr ?_);replace I:=I.fr q6;refine z0m U I z8f (z0m U D z8f (j3h (V:=paV) (e:=p) (f:=(⟨q.id,q.f,p.d⟩:Pa)) U U eqPa U (asg U (nn (rt (r1 results112 U ?_))))));exact⟨_,rfl,congrArg Value.bool (decide_eq_decide.2 (u4b c0)),(q1.z3 Z O q6)⟩
theorem z4h:ElemOf prog 102 107 z2d 24:=ElemOf.mk' (z:=(.agg #[.int .u8 0,.int .i64 0,.bool false,.int .u8 0])) underlying102 kr U
theorem y7i (w:World):(zeroValue 107).run prog w=.ok (.agg #[(.int .u8 0),(.int .i64 0),(.bool false),(.int .u8 0)]) w:=kr
theorem z9e (v:Value)(l:List Pa)(w0:World)(I:Sl z2d w0 v l)(hl:l.length<=100000):Rets prog 210 #[v] w0 λr w'=>∃A,r=.slice A l.length l.length/\Lw.Own z2d 107 w0.heap.size w' r l/\Fr [] w0 w':=by
 obtain⟨A,c,rfl,a0,hM,hA⟩:=id I;clear hA;unfold maxLen at hM;refine we [(0,.slice A l.length c)] func210 U ntmps210 U (.cons U .nil) ?_;have M:=I;refine sr (asg U (nn (sr (mv U (lnS U underlying102 (z1h (m:=l.length) (c:=l.length) (pa0) U z4h y7i U (λZ w1 a1 D O z1=>(asg U (nn (sr (mv U (mv U ?_))))))))))));replace I:=M.ext O;refine z8d (zs:=List.replicate l.length pa0) (by rw[List.length_replicate];rfl) U (by rw[List.length_replicate];exact D) I (by rw[List.length_replicate]) z4h (λw2 D q2 z2=>?_);rw[List.length_replicate]at D;exact nn (sr (mv U (asg U (nn (rt (r1 results210 U ⟨_,rfl,some ⟨Z,0,none⟩,rfl,D.low oo,(O.z1 q2)⟩))))))
theorem x1x:z1t prog 107 4:=λ_=>kr
theorem x8x (base:Nat)(u v:Value)(st l:List Pa)(w0:World)(I:Lw.Own z2d 107 base w0 u st)(hs:Sl z2d w0 v l)(hd:∀k∈z0v v,k<base)(hb:base<=w0.heap.size)(hn:st.length+l.length<=100000):Rets prog 209 #[u,v] w0 λr w'=>∃S,Lw.Own z2d 107 base w' r (z4w st l)/\(∀k∈S,base<=k)/\Fr S w0 w':=by
 obtain⟨A,c,rfl,b8,hM,hA⟩:=id hs;clear hA;unfold maxLen at hM;refine we [(0,u),(1,.slice A l.length c)] func209 U ntmps209 U (.c2 U U) ?_;have b3:=hs;refine sr (asg U (nn (sq (sr (mv U (lnS U underlying102 (mv U (nn (bl (lpK (ι:=Nat×Value) [(8,_),(9,_)] (λp=>[(10,.int .i64 (p.1:Int)),(0,p.2)]) (λp w'=>p.1<=l.length/\Lw.Own z2d 107 base w' p.2 (z4w st (l.take p.1))/\base<=w'.heap.size/\(∃S,(∀k∈S,base<=k)/\Fr S w0 w')) (λp=>l.length-p.1) (0,u) (.c4 U U U U) ⟨Nat.zero_le _,I,hb,[],sp0,Fr.refl _ _⟩ ?_))))))))));rintro⟨i,vT⟩ w1 ⟨hi,I,hb,⟨S,hS,qS⟩⟩;simp only at hi I;refine kpC [(8,_),(9,_),(10,.int .i64 (i:Int)),(0,vT)] (.c4 U U U U) ?_;have hs:=b3.fr qS (λk O b2=>by have:=hS k O;have:=hd k b2;omega);have a9:=y1c (l.take i) st;rw[List.length_take]at a9;obtain⟨ps,a0⟩:∃x,x=z4w st (l.take i):=⟨_,rfl⟩;rw[<-a0]at I a9;obtain⟨AT,cT,rfl,b7⟩:=I.sl.form;have a3:=I;have b1:=I.sl.len_le;unfold maxLen at b1;refine sr (lt' U (nn (sq (cd U (λc0=>?_) (λc0=>?_)))));refine sk (tn (sq (bl (sr (z1d (pa0) U hs U z4h z1j (λb5 a6=>?_))))));refine z1q U (a6 _ hs) z8f (al y7i U (λg6 w2 b9 M q2 z2=>?_));refine z0j (vs:=[_,_,_,_]) U M x1x (λw3 M q3 z3=>?_) (h1:=(by first|(simp[Value.oneCell',S];done)|exact z2d.one (l.getD i pa0)));refine nn (sr (mv U (lnS U underlying102 (asg U (nn (sq ?_))))));replace I:=(I.ext q2).fr q3 (by first|exact z8h I oo|simp[z0v]<;>omega);intro a h;refine z0h none (λwb w'=>Fr [] wb w') z2o ?_;intro w4 q4;have z4:=q4.size;replace I:=I.ext q4;replace M:=M.ext q4;have hC:Fr [] w4 w4:=Fr.refl _ _;have a2:=I;have Z:=M;refine z0e 0 h U λa h=>v3q 1 hC h wn U U U U λa h=>z0e 2 h U λa h=>gSp (D:=18) h U ?_ ?_;clear h;intro g0 h;refine z0e 3 h U ?_ (hG:=(wy U));clear h a;intro a h;refine z0e 4 h U ?_ (hG:=(wy U));clear h a;intro a h;refine z2v 5 h U (by first|exact i6 oo|rfl) U ?_ (hG:=(wy U));clear h a;intro a h;refine z1e (p:=(ps.length-1)) (pa0) 6 h U I.sl U z4h U ?_ (hG:=(wy U));clear h a;intro b6 a7 a h;refine z1x 7 h (wy U) U (λ_ hw=>a7 _ (a2.sl.ext hw)) z8f U λa h=>z0w 8 h U (λ_ hw=>Z.ext hw) z8f U ?_ (hG:=(wy U));clear h a;intro a h;refine z0d 9 U (z4d h U U U U (z0n h (z0a U (z0a U z0g)) (mkC func112) (x0w (ps.getD (ps.length-1) pa0) (l.getD i pa0) _) ?_));rintro _ w5 ⟨rfl,q5⟩ a h;have z5:=q5.size;replace I:=I.ext q5;replace M:=M.ext q5;replace hC:=hC.next q5;refine z0b (z0d 10 U (z4a h U λa h=>?_));refine z0b (z0r ?_);clear hC a2 Z;refine bk (h.sub (L':=[(0,_),(6,_),(7,_),(8,_),(9,_),(10,_),(26,_)]) (.c7 U U U U U U U)) (tn (cd U (λc1=>?_) (λc1=>?_)));exact rg (mv U (mv U (z2w U (wi6 oo) (mv U (j0m U underlying102 U (x8n (p:=(ps.length-1)) (p':=cT) U U U z4h oo oo oo oo oo U (asg U (kpL [(0,_),(8,_),(9,_),(10,_)] (.c4 U U U U) (nl (bn' (tn (rg (z0x U (wi6 oo) (mv U (nl (lpE ((i+1,_)) (.c4 U U U U) ⟨sm,by rw[y1q st l i oo,<-a0,y0c,if_pos ⟨oo,c1⟩];exact I.take U oo oo oo,oo,S++z0v (.slice AT ps.length cT),(λk O=>(List.mem_append.1 O).elim (hS k) (λO=>(a3.blk k O).1)),qS.trans ((Fr.refl (z0v (.slice AT ps.length cT)) _).z4 q2 q3 q4 q5)⟩ sm))))))))))))))));refine rg (mv U (z0m U M z8f (z1g ([l.getD i pa0]) (ev1 U) U z4h (λb0 w6 a8 a1 q6 z6=>?_))));replace I:=I.ext q6;have a4:=I;refine z1z U I a1.sl z4h (λb4 w7 I q7 a5=>?_);have z7:=q7.size;exact asg U (kpL [(0,_),(8,_),(9,_),(10,_)] (.c4 U U U U) (nl (bn' (tn (rg (z0x U (wi6 oo) (mv U (nl (lpE ((i+1,_)) (.c4 U U U U) ⟨sm,by rw[y1q st l i oo,<-a0,y0c,if_neg (by first|exact λe=>c1 e.2|exact λe=>absurd e.1 oo)];exact I,oo,S++z0v (.slice AT ps.length cT),(λk O=>(List.mem_append.1 O).elim (hS k) (λO=>(a3.blk k O).1)),qS.trans (((Fr.refl (z0v (.slice AT ps.length cT)) _).z5 q2 q3 q4 q5 q6).step q7 (λk O _=>O))⟩ sm)))))))));clear h;intro g0 h;refine z1l 3 h U U λa h=>z1l 4 h U U λa h=>z1l 5 h U U λa h=>z1l 6 h U U λa h=>z1l 7 h U U λa h=>z1l 8 h U U λa h=>z1l 9 h U U λa h=>z0d 10 U (z2l h U λa h=>?_);refine z0b (z0r ?_);clear hC a2 Z;refine bk (h.sub (L':=[(0,_),(6,_),(7,_),(8,_),(9,_),(10,_),(26,_)]) (.c7 U U U U U U U)) (tn (cf U (rg (mv U (z0m U M z8f (z1g ([l.getD i pa0]) (ev1 U) U z4h (λb0 w8 a8 a1 q8 z8=>?_)))))));replace I:=I.ext q8;have a4:=I;refine z1z U I a1.sl z4h (λb4 w9 I q9 a5=>?_);have z9:=q9.size;exact asg U (kpL [(0,_),(8,_),(9,_),(10,_)] (.c4 U U U U) (nl (bn' (tn (rg (z0x U (wi6 oo) (mv U (nl (lpE ((i+1,_)) (.c4 U U U U) ⟨sm,by rw[y1q st l i oo,<-a0,y0c,if_neg (by first|exact λe=>c1 e.2|exact λe=>absurd e.1 oo)];exact I,oo,S++z0v (.slice AT ps.length cT),(λk O=>(List.mem_append.1 O).elim (hS k) (λO=>(a3.blk k O).1)),qS.trans (((Fr.refl (z0v (.slice AT ps.length cT)) _).z4 q2 q3 q4 q8).step q9 (λk O _=>O))⟩ sm)))))))));exact ex (te (te (xh (tn (sr (mv U (asg U (kpL [(4,_)] (.cons U .nil) (nn (rt (r1 results209 U ⟨_,rfl,S,by rw[List.take_of_length_le oo]at a0;rw[<-a0];exact I,hS,qS⟩)))))))))))
theorem z7p:z1c prog 104 0 0:=λ_ _=>kr
theorem z5e:z1c prog 104 1 1:=λ_ _=>kr
theorem z7w:z1c prog 104 2 2:=λ_ _=>kr
theorem v4c:z1c prog 104 3 3:=λ_ _=>kr
theorem z6s:z1c prog 104 4 4:=λ_ _=>kr
theorem z9o:z1y prog 102:=λ_=>kr
theorem z8s (q:YQ)(w0:World)(hp:Sl z2d w0 (slv q.pe) q.pes):Rets prog 51 #[.agg #[.bool q.inn,.int .i64 q.pl,.int .i64 q.ct,.bool q.nw,.slice q.pe.1 q.pe.2.1 q.pe.2.2]] w0 λr w'=>r=.int .i64 (ynE q.p)/\Fr [] w0 w':=by
 have a2:=z2e hp;have a6:=hp.len_le;unfold maxLen at a6;refine we [(0,.agg #[.bool q.inn,.int .i64 q.pl,.int .i64 q.ct,.bool q.nw,.slice q.pe.1 q.pe.2.1 q.pe.2.2])] func51 U ntmps51 U (.cons U .nil) ?_;have a5:=hp;refine sr (bx U (λg1 w1 a9 I q1 z1=>(asg U (nn (sq (sq (rbo (r:=12) (L':=[(1,_)]) (((q.ct<0)\/(2048<q.ct))) (.cons U .nil) ?_ ?_)))))));refine fad U z7w (z0i U I U na3 (lt' U (mv U (gs 8 U (λg0=>?_) (λg0=>?_)))));exact gN U (gN U (gN U (pkt U (rbe U (.cons U .nil)))));exact gY U (fad U z7w (gY U (z0i U I U na3 (gY U (gt' U (pkf U (rbe U (.cons U .nil))))))));refine tn (cd U (λc0=>?_) (λc0=>?_));exact sr (asg U (nn (rt (tr (r1 results51 U ⟨_,rfl,by rw[yn_a c0],q1⟩)))));refine sk (tn (sq (sr (fad U z7p (z0i U I U na4 (nt' U (nn (cd U (λc1=>?_) (λc1=>?_)))))))));refine sq (sq (rbo (r:=28) (L':=[]) ((((q.pl≠0)\/q.nw=true)\/(0<(q.pe.2.1:Int)))) .nil ?_ ?_));refine fad U z5e (z0i U I U na3 (ne' U (mv U (gs 19 U (λg1=>?_) (λg1=>?_)))));exact gN U (gN U (pkt U (mv U (gN U (gN U (gN U (gN U (pkt U (rbe U .nil)))))))));refine gY U (fad U v4c (gY U (z0i U I U na4 (pkf U (mv U (gs 23 U (λg2=>?_) (λg2=>?_)))))));exact gN U (gN U (gN U (gN U (pkt U (rbe U .nil)))));exact gY U (fad U z6s (gY U (z0i U I U z9o (gY U (lnS U underlying102 (gY U (gt' U (pkf U (rbe U .nil)))))))));refine tn (cd U (λc2=>?_) (λc2=>?_));refine sr (asg U (nn (rt (tr (tr (r1 results51 U ?_))))));have O:q.inn=false:=(by simpa using c1);exact⟨_,rfl,by rw[yn_b O (by simpa[a2] using c2)],q1⟩;refine sk (tn (sr (asg U (nn (rt (tr (r1 results51 U ?_)))))));have O:q.inn=false:=(by simpa using c1);exact⟨_,rfl,by rw[yn_c c0 O (by simpa[a2] using c2)],q1⟩;refine sk (tn (sq (sq (v4l (r:=38) (L':=[(1,_)]) (((¬(x8k q.pl))\/(4096<(q.pe.2.1:Int)))) (.cons U .nil) ?_ ?_))));refine fad U z5e (z0i U I U na3 (cl (ev1 U) (mkC func110) (y6k _ _) U ?_));rintro _ w2 ⟨rfl,q2⟩;have z2:=q2.size;refine nt' U (mv U (gs 33 U (λg3=>?_) (λg3=>?_)));exact gN U (gN U (gN U (gN U (pkt U (y2n U (.cons U .nil) q2)))));refine gY U (fad U z6s (gY U ?_));replace I:=I.ext q2;exact z0i U I U z9o (gY U (lnS U underlying102 (gY U (gt' U (pkf U (y2n U (.cons U .nil) q2))))));intro w3 q3;have z3:=q3.size;refine tn (cd U (λc3=>?_) (λc3=>?_));refine sr (asg U (nn (rt (tr (r1 results51 U ?_)))));have O:q.inn=true:=(by simpa using c1);exact⟨_,rfl,by rw[yn_d O (by simpa[a2] using c3)],(q1.n1 q3)⟩;refine sk (tn (sq (sr (fad U z6s ?_))));replace I:=I.ext q3;refine z0i U I U z9o (lnS U underlying102 (mv U (nn (bl (lpK (ι:=Nat) [(1,_),(40,_),(41,_)] (λi=>[(42,.int .i64 (i:Int))]) (λi w'=>Fr [] w3 w'/\i<=q.pes.length/\∀j,j<i->v2a q.pes j) (λi=>q.pes.length-i) 0 (.c4 U U U U) ⟨Fr.refl _ _,⟨Nat.zero_le _,λj h=>absurd h oo⟩⟩ ?_)))));rintro i w4 ⟨q4,⟨hi,hg⟩⟩;have z4:=q4.size;refine kpC [(1,_),(40,_),(41,_),(42,_)] (.c4 U U U U) (sr (lt' U (nn (sq (cd U (λc4=>?_) (λc4=>?_))))));refine sk (tn (sq (bl (sr (mv U ?_)))));replace hp:=a5.ext (q1.n2 q3 q4);refine z1d (p:=i) (pa0) U hp U z4h oo (λa7 a3=>(z1q U (a3 _ hp) z8f (al y7i U (λg4 w5 b0 a0 q5 z5=>?_))));refine asg U (z0j (vs:=[_,_,_,_]) U a0 x1x (λw6 a0 q6 z6=>?_) (h1:=(by first|(simp[Value.oneCell',S];done)|exact z2d.one (q.pes.getD i pa0))));refine nn (sq ?_);replace hp:=a5.ext (q1.z4 q3 q4 q5 q6);replace I:=(I.ext (q4.n1 q5)).fr q6;intro a h;refine z0h none (λwb w'=>Fr [] wb w') z2o ?_;intro w7 q7;have z7:=q7.size;replace hp:=hp.ext q7;replace I:=I.ext q7;replace a0:=a0.ext q7;have hC:Fr [] w7 w7:=Fr.refl _ _;have a1:=hp;have Z:=I;have M:=a0;refine z0w 0 h U (λ_ hw=>M.ext hw) z8f U λa h=>z0d 1 U (z0n h (z0a U z0g) (mkC func111) (x5o (q.pes.getD i pa0) _) ?_);rintro _ w8 ⟨rfl,q8⟩ a h;have z8:=q8.size;replace hp:=hp.ext q8;replace I:=I.ext q8;replace a0:=a0.ext q8;replace hC:=hC.next q8;refine z0b (z9u 2 hC h wn U U λa h=>z0e 3 h U λa h=>?_);refine gSp (D:=50) h U ?_ ?_;clear h;intro g4 h;refine z1l 4 h U U λa h=>z1l 5 h U U λa h=>z1l 6 h U U λa h=>y9o 7 hC h U U U λa h=>y9o 8 hC h U U U λa h=>y9o 9 hC h U U U λa h=>y9o 10 hC h U U U λa h=>y9o 11 hC h U U U λa h=>y9o 12 hC h U U U λa h=>y9o 13 hC h U U U λa h=>y9o 14 hC h U U U λa h=>z1l 15 h U U λa h=>z0d 16 U (z4a h U λa h=>?_);refine z0b (z0r ?_);clear hC a1 Z M;refine bk (h.sub (L':=[(1,_),(40,_),(41,_),(42,_),(63,_)]) (.c5 U U U U U)) (tn (ct U (sr (asg U (nn (rt (rb (tr (tr (rb (tr (r1 results51 U ?_))))))))))));have O:q.inn=true:=(by simpa using c1);exact⟨_,rfl,by rw[yn_e O (i:=i) (by show i<q.pes.length;omega) (λh=>by first|exact absurd h.1 (by assumption)|exact h.2 oo c5)],(q1.z6 q3 q4 q5 q6 q7 q8)⟩;clear h;intro g4 h;refine z0e 4 h U ?_ (hG:=(wy U));clear h a;intro a h;refine v3q 5 hC h (wy U) U U U U λa h=>z0e 6 h U ?_ (hG:=(wy U));clear h a;intro a h;refine gSp (D:=53) h U ?_ ?_;clear h;intro g5 h;refine z0c 7 h U z6s U ?_ (hG:=(wy U));clear h a;intro a h;refine z0l 8 h U (λ_ hw=>Z.ext hw) U z9o U ?_ (hG:=(wy U));clear h a;intro a h;refine z0e 9 h U ?_ (hG:=(wy U));clear h a;intro a h;refine z2v 10 h U (by first|exact i6 oo|rfl) U ?_ (hG:=(wy U));clear h a;intro a h;refine z1e (p:=(i-1)) (pa0) 11 h U hp U z4h U ?_ (hG:=(wy U));clear h a;intro a8 a4 a h;refine z1x 12 h (wy U) U (λ_ hw=>a4 _ (a1.ext hw)) z8f U λa h=>z0w 13 h U (λ_ hw=>M.ext hw) z8f U ?_ (hG:=(wy U));clear h a;intro a h;refine z0d 14 U (z4d h U U U U (z0n h (z0a U (z0a U z0g)) (mkC func112) (x0w (q.pes.getD (i-1) pa0) (q.pes.getD i pa0) _) ?_));rintro _ w9 ⟨rfl,q9⟩ a h;have z9:=q9.size;replace hp:=hp.ext q9;replace I:=I.ext q9;replace a0:=a0.ext q9;replace hC:=hC.next q9;refine z0b (z0d 15 U (tW h (kY U (pkt U ?_))));clear h a;intro a h;refine z0b (z0d 16 U (z2l h U λa h=>?_));refine z0b (z0r ?_);clear hC a1 Z M;refine bk (h.sub (L':=[(1,_),(40,_),(41,_),(42,_),(63,_)]) (.c5 U U U U U)) (tn (cd U (λc5=>?_) (λc5=>?_)));refine sr (asg U (nn (rt (rb (tr (tr (rb (tr (r1 results51 U ?_)))))))));have O:q.inn=true:=(by simpa using c1);exact⟨_,rfl,by rw[yn_e O (i:=i) (by show i<q.pes.length;omega) (λh=>by first|exact absurd h.1 (by assumption)|exact h.2 oo c5)],((q1.z6 q3 q4 q5 q6 q7 q8).n1 q9)⟩;refine sk (bn' (tn (rg (z0x U (wi6 oo) (mv U (nl ?_))))));exact lpE (i+1) (.c4 U U U U) ⟨(q4.z5 q5 q6 q7 q8 q9),⟨oo,λj hj=>by
  by_cases e:j<i;exact hg j e;obtain rfl:j=i:=by omega
  exact⟨by assumption,λh0=>by first|exact c5|exact absurd h0 oo⟩⟩⟩ oo
 clear h;intro g5 h;refine z1l 7 h U U λa h=>z1l 8 h U U λa h=>z1l 9 h U U λa h=>z1l 10 h U U λa h=>z1l 11 h U U λa h=>z1l 12 h U U λa h=>z1l 13 h U U λa h=>z1l 14 h U U λa h=>z0d 15 U (tW h (kY U (pkf U ?_)));clear h a;intro a h;refine z0b (z0d 16 U (z2l h U λa h=>?_));refine z0b (z0r ?_);clear hC a1 Z M;refine bk (h.sub (L':=[(1,_),(40,_),(41,_),(42,_),(63,_)]) (.c5 U U U U U)) (tn (cf U (sk (bn' (tn (rg (z0x U (wi6 oo) (mv U (nl ?_)))))))));exact lpE (i+1) (.c4 U U U U) ⟨(q4.z4 q5 q6 q7 q8),⟨oo,λj hj=>by
  by_cases e:j<i;exact hg j e;obtain rfl:j=i:=by omega
  exact⟨by assumption,λh0=>by first|exact c5|exact absurd h0 oo⟩⟩⟩ oo
 obtain rfl:i=q.pes.length:=by omega
 refine ex (te (te (xh (tn (sr (asg U (nn (rt (r1 results51 U ?_)))))))));have O:q.inn=true:=(by simpa using c1);exact⟨_,rfl,by rw[yn_f c0 O (by simpa[a2] using c3) hg],(q1.n2 q3 q4)⟩
theorem z2y:z3p prog 104 5:=⟨λ_=>kr,λ_=>kr⟩
theorem z8l:BuildAt prog 104 [(0,1),(1,1),(2,1),(3,1),(4,1)] [(.bool false),(.int .i64 0),(.int .i64 0),(.bool false),(.slice none 0 0)]:=BuildAt.struct underlying104 (λ_=>kr) (λ_=>kr)
theorem j0s:CallOf prog 51:=mkC func51
theorem sz3:z1t prog 3 1:=λ_=>kr
theorem u4k:z1t prog 102 1:=λ_=>kr
theorem z3b:z1t prog 104 5:=λ_=>kr
theorem z5m (w:World):(zeroValue 104).run prog w=.ok (.agg #[(.bool false),(.int .i64 0),(.int .i64 0),(.bool false),(.slice none 0 0)]) w:=kr
theorem x4j (q:YQ)(pl:Int)(v:Value)(l:List Pa)(w0:World)(hp:Sl z2d w0 (slv q.pe) q.pes)(hs:Sl z2d w0 v l)(hv:∀k∈z0v v,k<w0.heap.size)(hl:l.length<=50000):Rets prog 164 #[.agg #[.bool q.inn,.int .i64 q.pl,.int .i64 q.ct,.bool q.nw,.slice q.pe.1 q.pe.2.1 q.pe.2.2],.int .i64 pl,v] w0 λr w'=>∃q':YQ,r=.tuple #[.agg #[.bool q'.inn,.int .i64 q'.pl,.int .i64 q'.ct,.bool q'.nw,.slice q'.pe.1 q'.pe.2.1 q'.pe.2.2],.int .i64 (goE q.p pl l)]/\(goE q.p pl l=0->q'.p=goS q.p pl l/\Lw.Own z2d 107 w0.heap.size w' (slv q'.pe) q'.pes)/\Fr [] w0 w':=by
 have f4:=z2e hp;have d0:=hp.len_le;unfold maxLen at d0;obtain⟨A,c,rfl,f0,hM,hA⟩:=id hs;clear hA;unfold maxLen at hM;refine we [(0,.agg #[.bool q.inn,.int .i64 q.pl,.int .i64 q.ct,.bool q.nw,.slice q.pe.1 q.pe.2.1 q.pe.2.2]),(1,.int .i64 pl),(2,.slice A l.length c)] func164 U ntmps164 U (.c3 U U U) ?_;have b3:=hp;have b4:=hs;refine sr (bx U (λg3 w1 f1 I q1 z1=>(al z5m U (λg6 w2 f2 D q2 z2=>(asg U (nn (sq (sr ?_))))))));replace I:=I.ext q2;refine z0m U I z2y ?_;replace hp:=b3.ext (q1.n1 q2);refine cl (ev1 U) j0s (z8s q _ hp) U ?_;rintro _ w3 ⟨rfl,q3⟩;have z3:=q3.size;refine asg U (nn (sr (mv U (ne' U (nn (cd U (λc0=>?_) (λc0=>?_)))))));refine sr (z1s (cs:=[_,_,_,_,_]) z0g z8l z0q U ?_);refine mv U ?_;replace D:=D.ext q3;refine z0j (vs:=[_,_,_,_,_]) U D z3b (λw4 D q4 z4=>?_) (h1:=(by first|(simp[Value.oneCell',S];done)|exact z2d.one (l.getD i pa0)));refine asg U (kpL [(6,_),(7,_)] (.c2 U U) (nn (rt (tr (rCT results164 U D z2y U ?_)))));have he:goE q.p pl l=ynE q.p:=by unfold goE;rw[if_pos c0]
 exact⟨_,rfl,yq0,by rw[he];rfl,(λh=>absurd h (by rw[he];exact c0)),(q1.z3 q2 q3 q4)⟩;have d3:=v3i (Classical.not_not.1 c0);refine sk (tn (sq (sr (mv U (cl (ev1 U) (mkC func110) (y6k _ _) U ?_)))));rintro _ w5 ⟨rfl,q5⟩;have z5:=q5.size;refine nt' U (nn (cd U (λc1=>?_) (λc1=>?_)));refine sr (z1s (cs:=[_,_,_,_,_]) z0g z8l z0q U ?_);replace D:=D.ext (q3.n1 q5);refine z0j (vs:=[_,_,_,_,_]) U D z3b (λw6 D q6 z6=>?_) (h1:=(by first|(simp[Value.oneCell',S];done)|exact z2d.one (l.getD i pa0)));refine asg U (nn (rt (tr (rCT results164 U D z2y U ?_))));have he:goE q.p pl l=1:=by unfold goE;rw[if_neg c0,if_pos (by simpa using c1)]
 exact⟨_,rfl,yq0,by rw[he];rfl,(λh=>absurd h (by rw[he];decide)),(q1.z4 q2 q3 q5 q6)⟩;refine sk (tn (sq (sr (mv U (lnS U underlying102 (mv U (nn (bl (lpK (ι:=Nat) [(1,_),(2,_),(3,_),(6,_),(22,_),(23,_)] (λi=>[(24,.int .i64 (i:Int))]) (λi w'=>Fr [] w5 w'/\i<=l.length/\∀j,j<i->y0x (l.getD j pa0)) (λi=>l.length-i) 0 (.c7 U U U U U U U) ⟨Fr.refl _ _,⟨Nat.zero_le _,λj h=>absurd h oo⟩⟩ ?_)))))))));rintro i w7 ⟨q7,⟨hi,hg⟩⟩;have z7:=q7.size;refine kpC [(1,_),(2,_),(3,_),(6,_),(22,_),(23,_),(24,_)] (.c7 U U U U U U U) (sr (lt' U (nn (sq (cd U (λc2=>?_) (λc2=>?_))))));refine sk (tn (sq (bl (sr ?_))));replace hs:=b4.ext (q1.n4 q2 q3 q5 q7);refine z1d (pa0) U hs U z4h z1j (λe1 b2=>?_);refine z1q U (b2 _ hs) z8f (al y7i U (λe9 w8 e3 a4 q8 z8=>?_));refine z0j (vs:=[_,_,_,_]) U a4 x1x (λw9 a4 q9 z9=>?_) (h1:=(by first|(simp[Value.oneCell',S];done)|exact z2d.one (l.getD i pa0)));refine nn (sr (z0m U a4 z8f (cl (ev1 U) (mkC func111) (x5o (l.getD i pa0) _) U ?_)));rintro _ f6 ⟨rfl,a7⟩;have g7:=a7.size;refine nt' U (nn (cd U (λc3=>?_) (λc3=>?_)));refine sr (z1s (cs:=[_,_,_,_,_]) z0g z8l z0q U ?_);replace D:=((D.ext (q3.n3 q5 q7 q8)).fr q9).ext a7;refine z0j (vs:=[_,_,_,_,_]) U D z3b (λf7 D d4 g8=>?_) (h1:=(by first|(simp[Value.oneCell',S];done)|exact z2d.one (l.getD i pa0)));refine asg U (kpL [(6,_),(7,_)] (.c2 U U) (nn (rt (rb (tr (tr (rb (tr (rCT results164 U D z2y U ?_)))))))));have he:goE q.p pl l=1:=by unfold goE;rw[if_neg c0,if_neg (by simpa using c1),if_pos (λa3=>(by simpa using c3:¬y0x (l.getD i pa0)) (a3 _ (z1a oo)))]
 exact⟨_,rfl,yq0,by rw[he];rfl,(λh=>absurd h (by rw[he];decide)),(((q1.z6 q2 q3 q5 q7 q8 q9).n1 a7).z1 d4)⟩;refine sk (bn' (tn (rg (z0x U (wi6 oo) (mv U (nl ?_))))));exact lpE (i+1) (.c7 U U U U U U U) ⟨(q7.z3 q8 q9 a7),⟨oo,λj hj=>by
  by_cases e:j<i;exact hg j e;obtain rfl:j=i:=by omega
  exact Classical.not_not.1 (by simpa using c3)⟩⟩ oo
 obtain rfl:i=l.length:=by omega
 have a3:j0c l:=λp d1=>by
  obtain⟨j,hj,rfl⟩:=List.getElem_of_mem d1;have:=hg j hj;rwa [List.getD,List.getElem?_eq_getElem hj]at this
 refine ex (te (te (xh (tn (sq (sr (fad U z7p ?_)))))));replace I:=I.ext (q3.n2 q5 q7);refine z0i U I U na4 (nt' U (kpL [(1,_),(2,_),(3,_),(6,_),(35,_)] (.c5 U U U U U) (nn (cd U (λc4=>?_) (λc4=>?_)))));refine sr (z1s (cs:=[_,_,_,_,_]) z0g z8l z0q U ?_);replace D:=D.ext (q3.n2 q5 q7);refine z0j (vs:=[_,_,_,_,_]) U D z3b (λf8 D d5 g9=>?_) (h1:=(by first|(simp[Value.oneCell',S];done)|exact z2d.one (l.getD i pa0)));refine asg U (nn (rt (tr (rCT results164 U D z2y U ?_))));have he:goE q.p pl l=12:=by unfold goE;rw[if_neg c0,if_neg (by simpa using c1),if_neg (λe=>e a3),if_pos (by simpa using c4)]
 exact⟨_,rfl,yq0,by rw[he];rfl,(λh=>absurd h (by rw[he];decide)),(q1.z5 q2 q3 q5 q7 d5)⟩;have b9:q.inn=true:=(by simpa using c4);have b5:=d3.2;rw[if_pos b9]at b5;have f3:q.pes.length<=4096:=b5.2.1;refine sk (tn (sr (fad U z6s (z0i U I U z9o (lnS U underlying102 (mv U (lnS U underlying102 (z0x U (wi6 oo) (z1h (m:=0) (c:=(q.pe.2.1+l.length)) (pa0) U z4h y7i U (λb1 f9 e4 ho a1 h0=>(asg U (kpL [(1,_),(2,_),(3,_),(6,_),(11,_)] (.c5 U U U U U) (nn (sr (mv U (fad U z6s ?_))))))))))))))));replace I:=I.ext a1;refine z0i U I U z9o ?_;replace D:=D.ext (q3.n3 q5 q7 a1);replace hp:=b3.ext (q1.n5 q2 q3 q5 q7 a1);have M:=ho;refine z1z U ho hp z4h (λb7 d7 ho a2 c9=>?_) (hM:=(by unfold maxLen;simp only[List.length_replicate];omega)) (hb:=(by simp only[List.length_replicate];omega));have h2:=a2.size;replace I:=I.fr a2 (λO=>by have:=(M.blk _ O).1;omega);replace D:=D.fr a2 (λO=>by have:=(M.blk _ O).1;omega);replace ho:Lw.Own z2d 107 b1 d7 b7 q.pes:=ho;refine mv U ?_;replace hs:=b4.ext ((q1.n5 q2 q3 q5 q7 a1).step a2 (λk O a6=>absurd (M.blk k O).1 oo));refine cl (ev2 U) (mkC func209) (x8x b1 b7 _ q.pes l _ ho hs (λk O=>by have:=hv k O;omega) oo oo) U ?_;rintro e7 g0 ⟨e6,ho,a0,a5⟩;replace I:=I.fr a5 (λO=>by have:=a0 _ O;omega);replace D:=D.fr a5 (λO=>by have:=a0 _ O;omega);have h3:=a5.size;have f5:=y1c l q.pes;obtain⟨e5,e8,rfl,e2⟩:=ho.sl.form;refine asg U (kpL [(1,_),(3,_),(6,_),(11,_)] (.c4 U U U U) (nn (sq (sr (mv U (lnS U underlying102 (gt' U (nn (cd U (λc5=>?_) (λc5=>?_))))))))));refine sr (z1s (cs:=[_,_,_,_,_]) z0g z8l z0q U ?_);refine z0j (vs:=[_,_,_,_,_]) U D z3b (λg1 D d6 h4=>?_) (h1:=(by first|(simp[Value.oneCell',S];done)|exact z2d.one (l.getD i pa0)));refine asg U (nn (rt (tr (rCT results164 U D z2y U ?_))));have he:goE q.p pl l=3:=by unfold goE;rw[if_neg c0,if_neg (by simpa using c1),if_neg (λe=>e a3),if_neg (by simpa using c4),if_pos (by show 4096<(z4w q.pes l).length;omega)]
 exact⟨_,rfl,yq0,by rw[he];rfl,(λh=>absurd h (by rw[he];decide)),((((q1.n5 q2 q3 q5 q7 a1).step a2 (λk O a6=>absurd (M.blk k O).1 oo)).step a5 (λk O a6=>absurd (a0 k O) oo)).sp d6)⟩;refine sk (tn (sr (mv U (fad U z5e (z3l U I U sz3 (λd9 I a9 h5=>?_))))));replace I:Blk d9 g3 _ [_,_,_,_,_]:=I;refine nn (sr (mv U ?_));replace ho:=ho.fr a9 (by first|exact z8h ho oo|simp[z0v]<;>omega);refine cl (ev1 U) (mkC func210) (z9e _ _ _ ho.sl oo) U ?_;rintro _ g4 ⟨b8,rfl,Z,a8⟩;have h6:=a8.size;refine fad U z6s ?_;replace I:=I.ext a8;refine z3l U I U u4k (λe0 I b0 h7=>?_);replace I:Blk e0 g3 _ [_,_,_,_,_]:=I;refine nn (sr (z0m U I z2y ?_));replace D:=((D.fr a9).ext a8).fr b0;refine z0j (vs:=[_,_,_,_,_]) U D z3b (λg5 D b6 h8=>?_) (h1:=(by first|(simp[Value.oneCell',S];done)|exact z2d.one (l.getD i pa0)));refine asg U (nn (rt (rCT results164 U D z2y U ?_)));replace Z:=(Z.fr b0 (by first|exact z8h Z oo|simp[z0v]<;>omega)).fr b6 (by first|exact z8h Z oo|simp[z0v]<;>omega);have he:goE q.p pl l=0:=by unfold goE;rw[if_neg c0,if_neg (by simpa using c1),if_neg (λe=>e a3),if_neg (by simpa using c4),if_neg (by show ¬4096<(z4w q.pes l).length;omega)]
 exact⟨_,rfl,⟨q.inn,pl,q.ct,q.nw,(b8,(z4w q.pes l).length,(z4w q.pes l).length),z4w q.pes l⟩,by rw[he],(λ_=>⟨rfl,Z.low oo⟩),(((((((q1.n5 q2 q3 q5 q7 a1).step a2 (λk O a6=>absurd (M.blk k O).1 oo)).step a5 (λk O a6=>absurd (a0 k O) oo)).sp a9).next a8).sp b0).sp b6)⟩
theorem x3t:z3p prog 249 3:=⟨λ_=>kr,λ_=>kr⟩
theorem v3c:BuildAt prog 249 [(0,1),(1,1),(2,1)] [(.int .i64 0),(.bool false),(.slice none 0 0)]:=BuildAt.struct underlying249 (λ_=>kr) (λ_=>kr)
theorem x1t:z1t prog 249 3:=λ_=>kr
theorem y9r (w:World):(zeroValue 249).run prog w=.ok (.agg #[(.int .i64 0),(.bool false),(.slice none 0 0)]) w:=kr
theorem y1i (q:YQ)(w0:World)(hp:Sl z2d w0 (slv q.pe) q.pes)(hv:∀k∈z0v (slv q.pe),k<w0.heap.size):Rets prog 167 #[.agg #[.bool q.inn,.int .i64 q.pl,.int .i64 q.ct,.bool q.nw,.slice q.pe.1 q.pe.2.1 q.pe.2.2]] w0 λr w'=>∃(q':YQ) (n:Int) (nw:Bool) (s:SV) (ps:List Pa),r=.tuple #[.agg #[.bool q'.inn,.int .i64 q'.pl,.int .i64 q'.ct,.bool q'.nw,.slice q'.pe.1 q'.pe.2.1 q'.pe.2.2],.agg #[.int .i64 n,.bool nw,.slice s.1 s.2.1 s.2.2],.int .i64 (mkE q.p)]/\(mkE q.p=0->q'=⟨true,q.pl,q.ct+1,false,sv0,[]⟩/\n=q.ct/\nw=q.nw/\ps=q.pes/\Lw.Own z2d 107 w0.heap.size w' (slv s) ps)/\Fr [] w0 w':=by
 have f8:=z2e hp;have e5:=hp.len_le;unfold maxLen at e5;refine we [(0,.agg #[.bool q.inn,.int .i64 q.pl,.int .i64 q.ct,.bool q.nw,.slice q.pe.1 q.pe.2.1 q.pe.2.2])] func167 U ntmps167 U (.cons U .nil) ?_;have d7:=hp;refine sr (bx U (λg1 w1 f4 O q1 z1=>(al z5m U (λg2 w2 f5 D q2 z2=>(al y9r U (λg3 w3 f6 I q3 z3=>(asg U (nn (sq (sr ?_))))))))));replace O:=O.ext (q2.n1 q3);refine z0m U O z2y ?_;replace hp:=d7.ext (q1.n2 q2 q3);refine cl (ev1 U) j0s (z8s q _ hp) U ?_;rintro _ w4 ⟨rfl,q4⟩;have z4:=q4.size;refine asg U (nn (sr (mv U (ne' U (nn (cd U (λc0=>?_) (λc0=>?_)))))));refine sr (z1s (cs:=[_,_,_,_,_]) z0g z8l z0q U ?_);refine z1s (cs:=[_,_,_]) z0g v3c z0q U ?_;refine mv U ?_;replace D:=D.ext (q3.n1 q4);refine z0j (vs:=[_,_,_,_,_]) U D z3b (λw5 D q5 z5=>?_);replace I:=(I.ext q4).fr q5;refine z0j (vs:=[_,_,_]) U I x1t (λw6 I q6 z6=>(asg U (kpL [(2,_),(3,_),(4,_)] (.c3 U U U) (nn (rt (tr ?_))))));replace D:=D.fr q6;refine j0x results167 U D z2y U I x3t U ?_;have he:mkE q.p=ynE q.p:=by unfold mkE;rw[if_pos c0]
 exact⟨_,rfl,yq0,0,false,sv0,[],by rw[he];rfl,(λh=>absurd h (by rw[he];exact c0)),(q1.z5 q2 q3 q4 q5 q6)⟩;have d9:=v3i (Classical.not_not.1 c0);refine sk (tn (sq (sr (fad U z7p ?_))));replace O:=O.ext q4;refine z0i U O U na4 (nt' U (nn (cd U (λc1=>?_) (λc1=>?_))));refine sr (z1s (cs:=[_,_,_,_,_]) z0g z8l z0q U ?_);refine z1s (cs:=[_,_,_]) z0g v3c z0q U ?_;replace D:=D.ext (q3.n1 q4);refine z0j (vs:=[_,_,_,_,_]) U D z3b (λw7 D q7 z7=>?_);replace I:=(I.ext q4).fr q7;refine z0j (vs:=[_,_,_]) U I x1t (λw8 I q8 z8=>(asg U (nn (rt (tr ?_)))));replace D:=D.fr q8;refine j0x results167 U D z2y U I x3t U ?_;have he:mkE q.p=12:=by unfold mkE;rw[if_neg c0,if_pos (by simpa using c1)]
 exact⟨_,rfl,yq0,0,false,sv0,[],by rw[he];rfl,(λh=>absurd h (by rw[he];decide)),(q1.z5 q2 q3 q4 q7 q8)⟩;have e4:q.inn=true:=(by simpa using c1);have e0:=d9.2;rw[if_pos e4]at e0;have f7:q.pes.length<=4096:=e0.2.1;have f3:0<=q.ct/\q.ct<=2048:=d9.1;refine sk (tn (sq (sr (fad U z7w (z0i U O U na3 (eq' U (nn (cd U (λc2=>?_) (λc2=>?_)))))))));refine sr (z1s (cs:=[_,_,_,_,_]) z0g z8l z0q U ?_);refine z1s (cs:=[_,_,_]) z0g v3c z0q U ?_;replace D:=D.ext (q3.n1 q4);refine z0j (vs:=[_,_,_,_,_]) U D z3b (λw9 D q9 z9=>?_);replace I:=(I.ext q4).fr q9;refine z0j (vs:=[_,_,_]) U I x1t (λf9 I e1 g6=>(asg U (nn (rt (tr ?_)))));replace D:=D.fr e1;refine j0x results167 U D z2y U I x3t U ?_;have he:mkE q.p=3:=by unfold mkE;rw[if_neg c0,if_neg (by simpa using c1),if_pos c2]
 exact⟨_,rfl,yq0,0,false,sv0,[],by rw[he];rfl,(λh=>absurd h (by rw[he];decide)),(q1.z5 q2 q3 q4 q9 e1)⟩;refine sk (tn (sq ?_));replace hp:=d7.ext (q1.n3 q2 q3 q4);intro a h;refine z0h none (λwb w'=>Fr [] wb w') z2o ?_;intro d6 b4;have g7:=b4.size;replace hp:=hp.ext b4;replace O:=O.ext b4;replace D:=D.ext (q3.n2 q4 b4);replace I:=I.ext (q4.n1 b4);have hC:Fr [] d6 d6:=Fr.refl _ _;have d4:=hp;have Z:=O;have a3:=D;have a4:=I;refine z0c 0 h U z7w U λa h=>z0l 1 h U (λ_ hw=>Z.ext hw) U na3 U λa h=>z0c 2 h U v4c U λa h=>z0l 3 h U (λ_ hw=>Z.ext hw) U na4 U λa h=>z0c 4 h U z6s U λa h=>z0l 5 h U (λ_ hw=>Z.ext hw) U z9o U λa h=>z1u 6 8 kr U ?_ ?_;refine z0n h (z0a U z0g) (mkC func210) (z9e _ _ _ hp oo) ?_;rintro _ e6 ⟨d5,rfl,M,b5⟩ a h;have g8:=b5.size;replace O:=O.ext b5;replace D:=D.ext b5;replace I:=I.ext b5;replace hC:=hC.next b5;have b3:=λk hk=>(M.blk k hk).2;refine z0b (z2u (cs:=[_,_,_]) 7 h (z0a U (z0a U (z0a U z0g))) v3c (z0f U (z0f U (z0f U z0q))) U U λa h=>z0d 8 U ?_);refine z0u h y9r U λg0 a0 a9 hz a h=>?_;obtain⟨a7,hg⟩:∃g,g=e6.heap.size:=⟨_,rfl⟩;rw[<-hg]at a0 h hz;have a6:g1<a7:=by have:=O.lt;omega
 have a6:g2<a7:=by have:=D.lt;omega
 have a6:g3<a7:=by have:=I.lt;omega
 have g9:=a9.size;replace hp:=hp.ext (b5.n1 a9);replace O:=O.ext a9;replace D:=D.ext a9;replace I:=I.ext a9;replace M:=M.ext a9;replace hC:=hC.next a9;refine z0b (z0d 9 U (z0p h U a0 U x1t λe7 a2 b0 hz a h=>?_));have h0:=b0.size;replace hp:=hp.fr b0 (by intro k hk a1;simp at hk;subst hk;have:=hv _ a1;omega);replace O:=O.fr b0;replace D:=D.fr b0;replace I:=I.fr b0;replace M:=M.fr b0 (by intro k hk a1;simp at hk;subst hk;have d3:=b3 _ a1;have:=M.blk _ a1;omega);replace hC:=hC.sp b0;clear a0 hz;have a0:Blk e7 a7 _ [_,_,_]:=a2;clear a2;refine z0b (z0r ?_);clear hC d4 Z a3 a4;refine bk (h.sub (L':=[(1,_),(2,_),(3,_),(6,_)]) (.c4 U U U U)) (tn (sq ?_));intro a h;refine z0h none (λwb w'=>Fr [g2,g3] wb w') z2o ?_;intro e2 b6;have h1:=b6.size;replace O:=O.ext b6;replace D:=D.ext b6;replace I:=I.ext b6;replace M:=M.ext b6;replace a0:=a0.ext b6;have hC:Fr [g2,g3] e2 e2:=Fr.refl _ _;have Z:=O;have a3:=D;have a4:=I;have a8:=M;have a5:=a0;refine z0c 0 h U z5e U λa h=>z0l 1 h U (λ_ hw=>Z.fr hw so) U na3 U λa h=>z0c 2 h U z7w U λa h=>z0l 3 h U (λ_ hw=>Z.fr hw so) U na3 U λa h=>z5n 4 h U (by first|exact i6 oo|rfl) U λa h=>z2u (cs:=[_,_,_,_,_]) 5 h (z0a U (z0a U (z0a U z0g))) z8l (z0f U (z0f U (z0f U z0q))) U U λa h=>z0w 6 h U (λ_ hw=>a5.fr hw so) x3t U λa h=>z0d 7 U ?_;refine z0p h U D U z3b λe8 a2 b7 hz a h=>?_;have h2:=b7.size;replace O:=O.fr b7;replace I:=I.fr b7;replace M:=M.fr b7 (by intro k hk a1;simp at hk;subst hk;have d3:=b3 _ a1;have:=M.blk _ a1;omega);replace a0:=a0.fr b7;replace hC:=hC.sp b7;clear D hz;have D:Blk e8 g2 _ [_,_,_,_,_]:=a2;clear a2;refine z0b (z0d 8 U (z0p h U I U x1t λe9 a2 b8 hz a h=>?_));have h3:=b8.size;replace O:=O.fr b8;replace D:=D.fr b8;replace M:=M.fr b8 (by intro k hk a1;simp at hk;subst hk;have d3:=b3 _ a1;have:=M.blk _ a1;omega);replace a0:=a0.fr b8;replace hC:=hC.sp b8;clear I hz;have I:Blk e9 g3 _ [_,_,_]:=a2;clear a2;refine z0b (z0d 9 U (z0t h U λa h=>?_));refine z0b (z0r ?_);clear hC Z a3 a4 a8 a5;refine bk (h.sub (L':=[(2,_),(3,_),(4,_)]) (.c3 U U U)) (tn (rt (j0x results167 U D z2y U I x3t U ?_)));have he:mkE q.p=0:=by unfold mkE;rw[if_neg c0,if_neg (by simpa using c1),if_neg c2]
 exact⟨_,rfl,⟨true,q.pl,q.ct+1,false,sv0,[]⟩,q.ct,q.nw,(d5,q.pes.length,q.pes.length),q.pes,by rw[he];rfl,(λ_=>⟨rfl,rfl,rfl,rfl,M.low oo⟩),((((q1.n6 q2 q3 q4 b4 b5 a9).z1 b0).n1 b6).z2 b7 b8)⟩;refine z0u h y9r U λg4 a0 b9 hz a h=>?_;obtain⟨a7,hg⟩:∃g,g=d6.heap.size:=⟨_,rfl⟩;rw[<-hg]at a0 h hz;have a6:g1<a7:=by have:=O.lt;omega
 have a6:g2<a7:=by have:=D.lt;omega
 have a6:g3<a7:=by have:=I.lt;omega
 have h4:=b9.size;replace hp:=hp.ext b9;replace hC:=hC.next b9;refine z0b (z0d 6 U (z0n h (z0a U z0g) (mkC func210) (z9e _ _ _ hp oo) ?_));rintro _ g5 ⟨d5,rfl,M,b1⟩ a h;have h5:=b1.size;replace hp:=hp.ext b1;replace O:=O.ext (b9.n1 b1);replace D:=D.ext (b9.n1 b1);replace I:=I.ext (b9.n1 b1);replace a0:=a0.ext b1;replace hC:=hC.next b1;have b3:=λk hk=>(M.blk k hk).2;refine z0b (z2u (cs:=[_,_,_]) 7 h (z0a U (z0a U (z0a U z0g))) v3c (z0f U (z0f U (z0f U z0q))) U U λa h=>z0d 9 U ?_);refine z0p h U a0 U x1t λf0 a2 b2 hz a h=>?_;have h6:=b2.size;replace hp:=hp.fr b2 (by intro k hk a1;simp at hk;subst hk;have:=hv _ a1;omega);replace O:=O.fr b2;replace D:=D.fr b2;replace I:=I.fr b2;replace M:=M.fr b2 (by intro k hk a1;simp at hk;subst hk;have d3:=b3 _ a1;have:=M.blk _ a1;omega);replace hC:=hC.sp b2;clear a0 hz;have a0:Blk f0 a7 _ [_,_,_]:=a2;clear a2;refine z0b (z0r ?_);clear hC d4 Z a3 a4;refine bk (h.sub (L':=[(1,_),(2,_),(3,_),(6,_)]) (.c4 U U U U)) (tn (sq ?_));intro a h;refine z0h none (λwb w'=>Fr [g2,g3] wb w') z2o ?_;intro e3 c9;have h7:=c9.size;replace O:=O.ext c9;replace D:=D.ext c9;replace I:=I.ext c9;replace a0:=a0.ext c9;replace M:=M.ext c9;have hC:Fr [g2,g3] e3 e3:=Fr.refl _ _;have Z:=O;have a3:=D;have a4:=I;have a5:=a0;have a8:=M;refine z0c 0 h U z5e U λa h=>z0l 1 h U (λ_ hw=>Z.fr hw so) U na3 U λa h=>z0c 2 h U z7w U λa h=>z0l 3 h U (λ_ hw=>Z.fr hw so) U na3 U λa h=>z5n 4 h U (by first|exact i6 oo|rfl) U λa h=>z2u (cs:=[_,_,_,_,_]) 5 h (z0a U (z0a U (z0a U z0g))) z8l (z0f U (z0f U (z0f U z0q))) U U λa h=>z0w 6 h U (λ_ hw=>a5.fr hw so) x3t U λa h=>z0d 7 U ?_;refine z0p h U D U z3b λf1 a2 d0 hz a h=>?_;have h8:=d0.size;replace O:=O.fr d0;replace I:=I.fr d0;replace a0:=a0.fr d0;replace M:=M.fr d0 (by intro k hk a1;simp at hk;subst hk;have d3:=b3 _ a1;have:=M.blk _ a1;omega);replace hC:=hC.sp d0;clear D hz;have D:Blk f1 g2 _ [_,_,_,_,_]:=a2;clear a2;refine z0b (z0d 8 U (z0p h U I U x1t λf2 a2 d1 hz a h=>?_));have h9:=d1.size;replace O:=O.fr d1;replace D:=D.fr d1;replace a0:=a0.fr d1;replace M:=M.fr d1 (by intro k hk a1;simp at hk;subst hk;have d3:=b3 _ a1;have:=M.blk _ a1;omega);replace hC:=hC.sp d1;clear I hz;have I:Blk f2 g3 _ [_,_,_]:=a2;clear a2;refine z0b (z0d 9 U (z0t h U λa h=>?_));refine z0b (z0r ?_);clear hC Z a3 a4 a5 a8;refine bk (h.sub (L':=[(2,_),(3,_),(4,_)]) (.c3 U U U)) (tn (rt (j0x results167 U D z2y U I x3t U ?_)));have he:mkE q.p=0:=by unfold mkE;rw[if_neg c0,if_neg (by simpa using c1),if_neg c2]
 exact⟨_,rfl,⟨true,q.pl,q.ct+1,false,sv0,[]⟩,q.ct,q.nw,(d5,q.pes.length,q.pes.length),q.pes,by rw[he];rfl,(λ_=>⟨rfl,rfl,rfl,rfl,M.low oo⟩),((((q1.n6 q2 q3 q4 b4 b9 b1).z1 b2).n1 c9).z2 d0 d1)⟩
theorem y9n (q:YQ)(d:Int)(w0:World)(hp:Sl z2d w0 (slv q.pe) q.pes):Rets prog 127 #[.agg #[.bool q.inn,.int .i64 q.pl,.int .i64 q.ct,.bool q.nw,.slice q.pe.1 q.pe.2.1 q.pe.2.2],.int .u8 d] w0 λr w'=>∃q':YQ,r=.tuple #[.agg #[.bool q'.inn,.int .i64 q'.pl,.int .i64 q'.ct,.bool q'.nw,.slice q'.pe.1 q'.pe.2.1 q'.pe.2.2],.int .i64 (enE q.p d)]/\(enE q.p d=0->q'=⟨true,if d=1 then 179 else -13,q.ct,true,sv0,[]⟩)/\Fr [] w0 w':=by
 have a4:=z2e hp;have a1:=hp.len_le;unfold maxLen at a1;refine we [(0,.agg #[.bool q.inn,.int .i64 q.pl,.int .i64 q.ct,.bool q.nw,.slice q.pe.1 q.pe.2.1 q.pe.2.2]),(1,.int .u8 d)] func127 U ntmps127 U (.c2 U U) ?_;have a0:=hp;refine sr (bx U (λg2 w1 a2 I q1 z1=>(al z5m U (λg4 w2 a3 D q2 z2=>(asg U (nn (sq (sr ?_))))))));replace I:=I.ext q2;refine z0m U I z2y ?_;replace hp:=a0.ext (q1.n1 q2);refine cl (ev1 U) j0s (z8s q _ hp) U ?_;rintro _ w3 ⟨rfl,O⟩;refine asg U (nn (sr (mv U (ne' U (nn (cd U (λc0=>?_) (λc0=>?_)))))));refine sr (z1s (cs:=[_,_,_,_,_]) z0g z8l z0q U ?_);refine mv U ?_;replace D:=D.ext O;refine z0j (vs:=[_,_,_,_,_]) U D z3b (λw4 D q4 z4=>(asg U (kpL [(4,_),(5,_)] (.c2 U U) (nn (rt (tr (rCT results127 U D z2y U ?_)))))));have M:enE q.p d=ynE q.p:=by unfold enE;rw[if_pos c0]
 exact⟨_,rfl,yq0,by rw[M];rfl,(λh=>absurd h (by rw[M];exact c0)),(q1.z3 q2 O q4)⟩;refine sk (tn (sq (sr (mv U (cl (ev1 U) (mkC func155) (y3f _ _) U ?_)))));rintro _ w5 ⟨rfl,Z⟩;refine nt' U (nn (cd U (λc1=>?_) (λc1=>?_)));refine sr (z1s (cs:=[_,_,_,_,_]) z0g z8l z0q U ?_);replace D:=D.ext (O.n1 Z);refine z0j (vs:=[_,_,_,_,_]) U D z3b (λw6 D q6 z6=>(asg U (nn (rt (tr (rCT results127 U D z2y U ?_))))));have M:enE q.p d=1:=by unfold enE;rw[if_neg c0,if_pos (by simpa using c1)]
 exact⟨_,rfl,yq0,by rw[M];rfl,(λh=>absurd h (by rw[M];decide)),(q1.z4 q2 O Z q6)⟩;refine sk (tn (sq (sr (fad U z7p ?_))));replace I:=I.ext (O.n1 Z);refine z0i U I U na4 (nn (cd U (λc2=>?_) (λc2=>?_)));refine sr (z1s (cs:=[_,_,_,_,_]) z0g z8l z0q U ?_);replace D:=D.ext (O.n1 Z);refine z0j (vs:=[_,_,_,_,_]) U D z3b (λw7 D q7 z7=>(asg U (nn (rt (tr (rCT results127 U D z2y U ?_))))));have M:enE q.p d=12:=by unfold enE;rw[if_neg c0,if_neg (by simpa using c1),if_pos (by simpa using c2)]
 exact⟨_,rfl,yq0,by rw[M];rfl,(λh=>absurd h (by rw[M];decide)),(q1.z4 q2 O Z q7)⟩;refine sk (tn (sr (asg U (nn (jn (ι:=Unit) [(2,_),(4,_)] (λ_j=>[(7,.int .i64 (if d=1 then 179 else -13))]) (λ_j w'=>Fr [] w5 w') (.c2 U U) ?_ ?_)))));refine sr (mv U (eq' U (nn (cd U (λc3=>?_) (λc3=>?_)))));refine rg (asg U (nl ?_));exact jE (()) (.c3 U U (congrArg (λq=>some (Value.int .i64 q)) (by first|exact(if_pos c3).symm|exact(if_neg c3).symm))) (Fr.refl _ _);refine sk ?_;exact jE (()) (.c3 U U (congrArg (λq=>some (Value.int .i64 q)) (by first|exact(if_pos c3).symm|exact(if_neg c3).symm))) (Fr.refl _ _);rintro _j w8 q8;refine kpC [(2,_),(4,_),(7,_)] (.c3 U U U) (sr (mv U (fad U z7w ?_)));replace I:=I.ext q8;refine z0i U I U na3 (z1s (cs:=[_,_,_,_,_]) (ev4 U) z8l (z0f U (z0f U (z0f U (z0f U z0q)))) U ?_);replace D:=D.ext (O.n2 Z q8);refine z0j (vs:=[_,_,_,_,_]) U D z3b (λw9 D q9 z9=>(asg U (kpL [(4,_),(5,_)] (.c2 U U) (nn (rt (rCT results127 U D z2y U ?_))))));have M:enE q.p d=0:=by unfold enE;rw[if_neg c0,if_neg (by simpa using c1),if_neg (by simpa using c2)]
 exact⟨_,rfl,⟨true,if d=1 then 179 else -13,q.ct,true,sv0,[]⟩,by rw[M];rfl,(λ_=>rfl),(q1.z5 q2 O Z q8 q9)⟩
end Go.Proofs.YtlfdhllfmoplgaaGreatDoor
namespace Go.G21
open Go.Lw
def nd (T:Tb)(y:Nat)(n:Int):List LId:=z4o (lpA T y n.toNat)
def InM (ms:List Int)(i:LId):Prop:=i.n<ms.getD (i.y-1).toNat 0
def Has (T:Tb):Prop:=T.length=6/\∀y,y<6->∀n,n<z3h T y->∀i∈z4o (lpA T y n),z4k T i
theorem Has.nm {T:Tb}(h:Has T){y n:Nat}(hy:y<6)(hn:n<z3h T y){i:LId}(hi:i∈z4o (lpA T y n)):∃M O:Nat,M<6/\O<z3h T M/\i=⟨(M:Int)+1,(O:Int)⟩:=by
 obtain⟨Z,h2,h3,h4⟩:=h.2 y hy n hn i hi;have:=h.1;obtain⟨I,D⟩:=i;simp only at Z h2 h3 h4;refine⟨(I-1).toNat,D.toNat,oo,oo,?_⟩;rw[show (((I-1).toNat:Nat):Int)+1=I by omega,show ((D.toNat:Nat):Int)=D by omega]
theorem y6d {ms:List Int}{y n:Nat}:InM ms ⟨(y:Int)+1,(n:Int)⟩↔(n:Int)<ms.getD y 0:=by
 unfold InM;show (n:Int)<ms.getD ((y:Int)+1-1).toNat 0↔_;rw[show ((y:Int)+1-1).toNat=y by omega]
theorem x5b:∀(l:List Int) (j:Nat) (v:Int),j<l.length->(l.set j v).sum=l.sum-l.getD j 0+v
 | a::l,0,v,_=>by simp;omega
 | a::l,j+1,v,h=>by
  have:=x5b l j v (by simpa using h)
  simp only[List.set_cons_succ,List.sum_cons,List.getD_cons_succ]at this ⊢;omega
theorem y7c:∀(l:List Int) (T:Tb),l.length=T.length->(∀i,i<l.length->l.getD i 0<=(z3h T i:Int))->l.sum<=(z5p T:Int)/\(l.sum=(z5p T:Int)->∀i,i<l.length->l.getD i 0=(z3h T i:Int))/\((∀i,i<l.length->l.getD i 0=(z3h T i:Int))->l.sum=(z5p T:Int))
 | [],[],_,_=>⟨by simp[z5p],λ_ i D=>by simp at D,λ_=>by simp[z5p]⟩
 | [],_::_,h,_=>by simp at h
 | _::_,[],h,_=>by simp at h
 | a::l,r::T,h,hb=>by
  obtain⟨h1,M,O⟩:=y7c l T (by simpa using h) (λi D=>by simpa[z3h] using hb (i+1) (by simpa using D))
  have h0:a<=(r.length:Int):=by simpa[z3h] using hb 0 sp0
  have e:(z5p (r::T):Int)=(r.length:Int)+(z5p T:Int):=by simp[z5p]
  rw[List.sum_cons,e]
  refine⟨oo,λhs i D=>?_,λI=>?_⟩
  ·cases i with
   | zero=>show a=(r.length:Int);omega
   | succ i=>simpa[z3h] using M oo i (by simpa using D)
  have Z:a=(r.length:Int):=by simpa[z3h] using I 0 sp0
  have e1:=O (λi D=>by simpa[z3h] using I (i+1) (by simpa using D))
  omega
structure FstI (T:Tb) (ms ts:List Int) (N:Nat):Prop where
  lm:ms.length=6
  lt:ts.length=6
  mb:∀y,y<6->0<=ms.getD y 0/\ms.getD y 0<=(z3h T y:Int)
  tb:∀y,y<6->0<=ts.getD y 0
  td:∀y,y<6->∀k:Nat,(k:Int)<ts.getD y 0->k<(nd T y (ms.getD y 0)).length->InM ms ((nd T y (ms.getD y 0)).getD k id0)
  sum:ms.sum=(N:Int)
  rk:∃rk:LId->Nat,(∀y,y<6->∀n:Nat,(n:Int)<ms.getD y 0->rk ⟨(y:Int)+1,(n:Int)⟩<N/\∀i∈z4o (lpA T y n),InM ms i/\rk i<rk ⟨(y:Int)+1,(n:Int)⟩)/\∀y,y<6->∀n m:Nat,n<m->(m:Int)<ms.getD y 0->rk ⟨(y:Int)+1,(n:Int)⟩<rk ⟨(y:Int)+1,(m:Int)⟩
theorem u9z (y:Nat):(List.replicate 6 (0:Int)).getD y 0=0:=by rw[List.getD,List.getElem?_replicate];split<;>rfl
theorem FstI.init {T:Tb}:FstI T (List.replicate 6 0) (List.replicate 6 0) 0:=
 ⟨rfl,rfl,λy _=>by rw[u9z];omega,λy _=>by rw[u9z];omega,λy _ k I=>by rw[u9z]at I;omega,rfl,λ_=>0,λy _ n D=>by rw[u9z]at D;omega,λy _ n m _ D=>by rw[u9z]at D;omega⟩
theorem z4n {l:List Int}{i:Nat}(h:i<l.length)(v:Int)(j:Nat):(l.set i v).getD j 0=if i=j then v else l.getD j 0:=by
 rw[List.getD,List.getD,List.getElem?_set];split;rename_i e;subst e;first|rfl|(rw[if_pos h];rfl)
 rfl
variable {T:Tb} {ms ts:List Int} {N:Nat}
theorem FstI.there (h:FstI T ms ts N){y:Nat}(I:y<6)(M:InM ms ((nd T y (ms.getD y 0)).getD (ts.getD y 0).toNat id0)):FstI T ms (ts.set y (ts.getD y 0+1)) N:=by
 have hl:y<ts.length:=by rw[h.lt];exact I
 refine⟨h.lm,by rw[List.length_set];exact h.lt,h.mb,λz Z=>?_,λz Z k O D=>?_,h.sum,h.rk⟩;rw[z4n hl];split;have:=h.tb y I;omega;exact h.tb z Z;rw[z4n hl]at O;split at O;rename_i e;subst e;have:=h.tb y I;by_cases e:k=(ts.getD y 0).toNat;rw[e];exact M;exact h.td y I k oo D;exact h.td z Z k O D
theorem FstI.push (h:FstI T ms ts N)(hH:Has T){y:Nat}(hy:y<6)(a8:ms.getD y 0<(z3h T y:Int))(a5:((nd T y (ms.getD y 0)).length:Int)<=ts.getD y 0):FstI T (ms.set y (ms.getD y 0+1)) (ts.set y 0) (N+1):=by
 have M:y<ms.length:=by rw[h.lm];exact hy
 have a0:y<ts.length:=by rw[h.lt];exact hy
 have h0:=h.mb y hy;obtain⟨m,hm⟩:=Int.eq_ofNat_of_zero_le h0.1;rw[hm]at a8 a5 ⊢;have a4:∀i,InM ms i->InM (ms.set y ((m:Int)+1)) i:=λi I=>by
  unfold InM at I ⊢;rw[z4n M];split;rename_i e;rw[<-e,hm]at I;omega;exact I
 have a3:∀i∈z4o (lpA T y m),InM ms i:=λi I=>by
  obtain⟨k,O,rfl⟩:=List.getElem_of_mem I;have e:nd T y (ms.getD y 0)=z4o (lpA T y m):=by unfold nd;rw[hm,Int.toNat_natCast]
  have:=h.td y hy k (by
   have e2:((nd T y (m:Int)).length:Int)<=ts.getD y 0:=a5;rw[<-hm,e]at e2;omega) (by rw[e];exact O)
  rw[e,List.getD,List.getElem?_eq_getElem O]at this;exact this
 obtain⟨rk,h1,h2⟩:=h.rk;have D:∀i,InM ms i->¬i=(⟨(y:Int)+1,(m:Int)⟩:LId):=λi I e=>by
  subst e;rw[y6d,hm]at I;omega
 refine⟨by rw[List.length_set];exact h.lm,by rw[List.length_set];exact h.lt,λz hz=>?_,λz hz=>?_,λz hz k O a7=>?_,?_,λi=>if i=⟨(y:Int)+1,(m:Int)⟩ then N else rk i,λz hz n hn=>?_,λz hz n k a9 O=>?_⟩;rw[z4n M];split;rename_i e;subst e;omega;exact h.mb z hz;rw[z4n a0];split;omega;exact h.tb z hz;rw[z4n a0]at O;split at O;omega;rename_i e;rw[z4n M,if_neg e]at a7 ⊢;exact a4 _ (h.td z hz k O a7);rw[x5b _ _ _ M,h.sum,hm];omega;rw[z4n M]at hn;simp only;by_cases e:z=y/\n=m;obtain⟨rfl,rfl⟩:=e;rw[if_pos U];refine⟨oo,λi I=>⟨a4 i (a3 i I),?_⟩⟩;rw[if_neg (D i (a3 i I))];obtain⟨y',n',b0,_,rfl⟩:=hH.nm hy oo I;exact(h1 y' b0 n' (y6d.1 (a3 _ I))).1;have Z:(n:Int)<ms.getD z 0:=by
  split at hn;rename_i e2;subst e2;have:n≠m:=λe3=>e ⟨rfl,e3⟩;rw[hm];omega;exact hn
 rw[if_neg (D _ (y6d.2 Z))];obtain⟨a1,a2⟩:=h1 z hz n Z;refine⟨oo,λi I=>?_⟩;obtain⟨b1,b2⟩:=a2 i I;rw[if_neg (D i b1)];exact⟨a4 i b1,b2⟩;rw[z4n M]at O;simp only;have Z:(n:Int)<ms.getD z 0:=by
  split at O;rename_i e2;subst e2;rw[hm];omega;omega
 rw[if_neg (D _ (y6d.2 Z))];by_cases e:z=y/\k=m;obtain⟨rfl,rfl⟩:=e;rw[if_pos U];exact(h1 z hz n Z).1;have a6:(k:Int)<ms.getD z 0:=by
  split at O;rename_i e2;subst e2;have:k≠m:=λe3=>e ⟨rfl,e3⟩;rw[hm];omega;exact O
 rw[if_neg (D _ (y6d.2 a6))];exact h2 z hz n k a9 a6
theorem FstI.leI (h:FstI T ms ts N)(D:T.length=6):N<=z5p T:=by
 have:=(y7c ms T (by rw[h.lm,D]) (λi I=>(h.mb i (by rw[<-h.lm];exact I)).2)).1;rw[h.sum]at this;omega
def x9k (T:Tb)(ms:List Int)(y:Nat):Prop:=ms.getD y 0=(z3h T y:Int)\/(ms.getD y 0<(z3h T y:Int)/\∃i∈nd T y (ms.getD y 0),¬InM ms i)
theorem FstI.done (h:FstI T ms ts N)(hH:Has T)(hs:∀y,y<6->x9k T ms y)(ho:∃rk,Ranked T rk):N=z5p T:=by
 obtain⟨rk,hr⟩:=ho;have a3:∀k y,y<6->ms.getD y 0<(z3h T y:Int)->rk ⟨(y:Int)+1,ms.getD y 0⟩=k->False:=λk=>by
  induction k using Nat.strongRecOn with
  | ind k ih=>
   intro y hy a0 hk;obtain⟨m,hm⟩:=Int.eq_ofNat_of_zero_le (h.mb y hy).1;rcases hs y hy with e|⟨_,i,D,hn⟩
   omega;have O:i∈z4o (lpA T y m):=by unfold nd at D;rw[hm,Int.toNat_natCast]at D;exact D
   rw[hm]at a0 hk;obtain⟨M,n',I,a2,rfl⟩:=hH.nm hy oo O;rw[y6d]at hn;obtain⟨m',a1⟩:=Int.eq_ofNat_of_zero_le (h.mb M I).1;have h1:=hr.need y hy m oo _ O;have h2:rk ⟨(M:Int)+1,(m':Int)⟩<=rk ⟨(M:Int)+1,(n':Int)⟩:=by
    rcases Nat.lt_or_ge m' n' with h3|h3
    exact Nat.le_of_lt (hr.mono M I m' n' h3 a2);have:m'=n':=by omega
    rw[this];exact Nat.le_refl _
   refine ih (rk ⟨(M:Int)+1,(m':Int)⟩) oo M I oo (by rw[a1])
 have:=(y7c ms T (by rw[h.lm,hH.1]) (λi D=>(h.mb i (by rw[<-h.lm];exact D)).2)).2.2 (λi D=>by
  have Z:i<6:=by rw[<-h.lm];exact D
  have h1:=(h.mb i Z).2;rcases Decidable.em (ms.getD i 0<(z3h T i:Int)) with h2|h2
  exact(a3 _ i Z h2 U).elim;omega)
 rw[h.sum]at this;omega
theorem FstI.ord (h:FstI T ms ts N)(hH:Has T)(hN:N=z5p T):∃rk,Ranked T rk:=by
 have D:=(y7c ms T (by rw[h.lm,hH.1]) (λi M=>(h.mb i (by rw[<-h.lm];exact M)).2)).2.1 (by rw[h.sum,hN]);obtain⟨rk,Z,h2⟩:=h.rk;refine⟨rk,⟨λy I n hn i M=>?_,λy I n m O hm=>?_⟩⟩;exact((Z y I n (by rw[D y (by rw[h.lm];exact I)];omega)).2 i M).2;exact h2 y I n m O (by rw[D y (by rw[h.lm];exact I)];omega)
end Go.G21
namespace Go.G21
open Go.Lw
def StN (W:Nat)(s:Lst)(i:LId):Prop:=match s with
  | none=>False
  | some (y,f)=>i.y=y/\(f:Int)<=i.n/\i.n<((f+2*W:Nat):Int)
instance (W:Nat) (s:Lst) (i:LId):Decidable (StN W s i):=by unfold StN;split<;>infer_instance
end Go.G21
namespace Go.G21
open Go.Lw
end Go.G21
namespace Go.G21
open Go.Lw
theorem v4d (ts:List TQ)(y:Nat):(z2g ts).getD y []=(ts.getD y tq0).2.map LpQ.p:=by
 rcases Nat.lt_or_ge y ts.length with h|h
 exact x8q (λp:TQ=>p.2.map LpQ.p) ts y tq0 [] h;rw[List.getD,List.getElem?_eq_none (by simpa[z2g] using h),List.getD,List.getElem?_eq_none h];rfl
theorem z3k (ts:List TQ)(y:Nat):z3h (z2g ts) y=(ts.getD y tq0).2.length:=by
 unfold z3h;rw[v4d,List.length_map]
theorem y1p (ts:List TQ)(y n:Nat):lpA (z2g ts) y n=((ts.getD y tq0).2.getD n lq0).p:=by
 unfold lpA;rw[v4d];generalize (ts.getD y tq0).2=l;rw[List.getD,List.getElem?_map,List.getD];cases l[n]?<;>rfl
theorem z2f {ts:List TQ}{i:LId}:z4k (z2g ts) i↔1<=i.y/\i.y<=(ts.length:Int)/\0<=i.n/\i.n<((ts.getD (i.y-1).toNat tq0).2.length:Int):=by
 unfold z4k;rw[z3k];simp only[z2g,List.length_map]
theorem z5a {w:World}{ts:List TQ}(h:TabAt w ts)(y:Nat):(ts.getD y tq0).1.2.1=(ts.getD y tq0).2.length:=by
 rcases Nat.lt_or_ge y ts.length with e|e
 exact z2e (h _ (z1a e)).1;rw[List.getD,List.getElem?_eq_none e];rfl
theorem z8e {w:World}{ts:List TQ}(h:TabAt w ts){y n:Nat}(D:y<ts.length)(hn:n<(ts.getD y tq0).2.length):LpAt w ((ts.getD y tq0).2.getD n lq0):=(h _ (z1a D)).2 _ (z1a hn)
theorem y0e (ts:List TQ):(z2g ts).length=ts.length:=by simp[z2g]
def z9n (T:Tb)(y n:Nat):List LId:=(T.take y).flatMap x5f++((T.getD y []).take n).flatMap Lp.th
theorem v1r (T:Tb):z9n T 0 0=[]:=by simp[z9n]
theorem y9z {T:Tb}{y n:Nat}(h:n<z3h T y):z9n T y (n+1)=z9n T y n++(lpA T y n).th:=by
 unfold z9n lpA;have D:n<(T.getD y []).length:=h;rw[x1q Lp.th _ n lq0.p D,List.append_assoc]
theorem v1b {T:Tb}{y:Nat}(h:y<T.length):z9n T (y+1) 0=z9n T y (z3h T y):=by
 unfold z9n z3h;rw[x1q x5f _ y [] h,List.take_zero,List.take_length];simp[x5f]
theorem v5s {T:Tb}{y:Nat}(h:T.length<=y):z9n T y 0=z9f T:=by
 unfold z9n z9f;rw[List.take_of_length_le h];simp
theorem v6h {T:Tb}{y n:Nat}(D:y<T.length)(i:LId):(z9n T y n).count i<=(z9f T).count i:=by
 have I:z9f T=(T.take y).flatMap x5f++(T.drop y).flatMap x5f:=by unfold z9f;rw[<-List.flatMap_append,List.take_append_drop]
 have M:T.drop y=T.getD y []::T.drop (y+1):=by
  rw[List.drop_eq_getElem_cons D,List.getD,List.getElem?_eq_getElem D];rfl
 have O:x5f (T.getD y [])=((T.getD y []).take n).flatMap Lp.th++((T.getD y []).drop n).flatMap Lp.th:=by
  unfold x5f;rw[<-List.flatMap_append,List.take_append_drop]
 rw[I,M,List.flatMap_cons,O];unfold z9n;simp only[List.count_append];omega
theorem u5j {T:Tb}{y n k:Nat}(O:y<T.length)(hn:n<z3h T y)(D:k<(lpA T y n).th.length):(z9n T y n++(lpA T y n).th.take k).count ((lpA T y n).th.getD k id0)+1<=(z9f T).count ((lpA T y n).th.getD k id0):=by
 have h:=v6h (n:=n+1) O ((lpA T y n).th.getD k id0)
 rw[y9z hn]at h
 generalize lpA T y n=l at *
 generalize z9n T y n=u at *
 have I:l.th=l.th.take k++l.th.getD k id0::l.th.drop (k+1):=by
  conv=>lhs;rw[<-List.take_append_drop k l.th,List.drop_eq_getElem_cons D]
  rw[List.getD,List.getElem?_eq_getElem D];rfl
 have M:=congrArg (List.count (l.th.getD k id0)) I
 rw[List.count_append,List.count_cons_self]at M
 rw[List.count_append]at h ⊢
 omega
def y7p (p:List LId)(i:LId):Value:=.int .i64 ((p.count i:Nat):Int)
theorem y9e (p:List LId)(k:LId):(λk'=>if k'=k then Value.int .i64 (((p.count k:Nat):Int)+1) else y7p p k')=y7p (p++[k]):=by
 funext k';unfold y7p;rw[List.count_append,List.count_singleton];by_cases h:k'=k;subst h;rw[if_pos U,if_pos sp0];rfl;rw[if_neg h,if_neg (by simpa using λe=>h e.symm),Nat.add_zero]
theorem z8t {α:Type}{l:List α}{k:Nat}(d:α)(h:k<l.length):l.take (k+1)=l.take k++[l.getD k d]:=by
 rw[List.take_add_one,List.getElem?_eq_getElem h,List.getD,List.getElem?_eq_getElem h];rfl
structure TabV (T:Tb):Prop where
  ok:TabOk T
  thr:∀i,(z9f T).count i<=1
theorem tabV {T:Tb}{H F:List LId}(h:TabOk T)(hp:PlaceOk T H F):TabV T:=by
 refine⟨h,λi=>?_⟩;by_cases hi:z4k T i;obtain⟨h1,h2,h3,h4⟩:=hi;have h6:=h.six;obtain⟨M,I⟩:=i;simp only at h1 h2 h3 h4;have:=hp.once (M-1).toNat oo I.toNat oo;rw[show (((M-1).toNat:Nat):Int)+1=M by omega,show ((I.toNat:Nat):Int)=I by omega]at this;rw[List.count_append]at this;omega;have:(z9f T).count i=0:=by
  rw[List.count_eq_zero];intro D;unfold z9f x5f at D;obtain⟨r,hr,D⟩:=List.mem_flatMap.1 D;obtain⟨l,hl,D⟩:=List.mem_flatMap.1 D;obtain⟨y,hy,rfl⟩:=List.getElem_of_mem hr;obtain⟨n,Z,rfl⟩:=List.getElem_of_mem hl;have O:T.getD y []=T[y]:=by rw[List.getD,List.getElem?_eq_getElem hy];rfl
  have e2:lpA T y n=T[y][n]:=by unfold lpA;rw[O,List.getD,List.getElem?_eq_getElem Z];rfl
  have h6:=h.six;have:=(h.rts y oo n (by unfold z3h;rw[O];exact Z)).1.2.2.1 i (by rw[e2];unfold z4o;exact List.mem_append_left _ D);exact hi this
 omega
theorem thq (ts:List TQ)(y n:Nat):(lpA (z2g ts) y n).th=((ts.getD y tq0).2.getD n lq0).ths:=by rw[y1p]
theorem y5w {ts:List TQ}{y n:Nat}(h:n<(ts.getD y tq0).2.length):z9n (z2g ts) y (n+1)=z9n (z2g ts) y n++((ts.getD y tq0).2.getD n lq0).ths:=by
 rw[y9z (by rw[z3k];exact h),thq]
theorem y6r {ts:List TQ}{y:Nat}(h:y<ts.length):z9n (z2g ts) (y+1) 0=z9n (z2g ts) y (ts.getD y tq0).2.length:=by
 rw[v1b (by rw[y0e];exact h),z3k]
theorem x5d {ts:List TQ}{y n k:Nat}(D:∀i,(z9f (z2g ts)).count i<=1)(M:y<ts.length)(hn:n<(ts.getD y tq0).2.length)(I:k<((ts.getD y tq0).2.getD n lq0).ths.length) :
    ((z9n (z2g ts) y n++((ts.getD y tq0).2.getD n lq0).ths.take k++[((ts.getD y tq0).2.getD n lq0).ths.getD k id0]).count (((ts.getD y tq0).2.getD n lq0).ths.getD k id0))<=1:=by
  have h:=u5j (T:=z2g ts) (n:=n) (k:=k) (by rw[y0e];exact M) (by rw[z3k];exact hn) (by rw[thq];exact I)
  rw[thq]at h
  have O:=D (((ts.getD y tq0).2.getD n lq0).ths.getD k id0)
  rw[List.count_append,List.count_singleton,if_pos sp0]
  omega
def v9u (ts:List TQ)(i:Nat):Nat:=((ts.take i).map λp:TQ=>p.2.length).sum
theorem v0v {ts:List TQ}{i:Nat}(h:i<ts.length):v9u ts (i+1)=v9u ts i+(ts.getD i tq0).2.length:=by
 unfold v9u;rw[z8t tq0 h,List.map_append,List.sum_append];simp
theorem x4s (ts:List TQ):z5p (z2g ts)=(ts.map λp:TQ=>p.2.length).sum:=by
 unfold z5p z2g;rw[List.map_map];congr 1;apply List.map_congr_left;intro p _;simp
theorem u2i (ts:List TQ)(i:Nat):v9u ts i<=z5p (z2g ts):=by
 rw[x4s]
 conv=>rhs;rw[<-List.take_append_drop i ts,List.map_append,List.sum_append]
 unfold v9u;omega
theorem v4t (ts:List TQ):v9u ts ts.length=z5p (z2g ts):=by
 unfold v9u;rw[List.take_length,x4s]
theorem u3h {q:LpQ}{n:Nat}(h:n<q.ths.length):(z4o q.p).getD n id0=q.ths.getD n id0:=by
 show (q.ths++q.pas.map Pa.id).getD n id0=_;simp only[List.getD,List.getElem?_append_left h]
theorem u1y {q:LpQ}{n:Nat}(h:q.ths.length<=n)(I:n<(z4o q.p).length):(z4o q.p).getD n id0=(q.pas.getD (n-q.ths.length) pa0).id:=by
 have D:n-q.ths.length<q.pas.length:=by
  have:(z4o q.p).length=q.ths.length+q.pas.length:=by simp[z4o]
  omega
 show (q.ths++q.pas.map Pa.id).getD n id0=_;simp only[List.getD,List.getElem?_append_right h,List.getElem?_map,List.getElem?_eq_getElem D];rfl
theorem x5c (q:LpQ):(z4o q.p).length=q.ths.length+q.pas.length:=by simp[z4o]
theorem TabV.has {T:Tb}(h:TabV T):Has T:=⟨h.ok.six,λy M n I i D=>(h.ok.rts y M n I).1.2.2.1 i D⟩
end Go.G21
namespace Go.Lw
open Go.RowKit
def MapZ {κ:Type}[DecidableEq κ](V:κ->Value)(w:World)(g:Nat)(z:Value)(f:κ->Value):Prop:=
  ∃(es:Array MapEntry) (c:Nat) (m:List (κ×Value)),w.heap[g]?=some (.map es c)/\es.toList.map (λe=>(e.key,e.val))=m.map (λp=>(V p.1,p.2))/\(∀k,(z2k m k).getD z=f k)/\(es.toList.map (·.born)).Nodup/\∀e∈es.toList,e.born<c
def MapE {κ:Type}[DecidableEq κ](V:κ->Value)(w:World)(g:Nat)(z:Value)(f:κ->Value)(k:κ)(st:Nat):Prop:=
  ∃(es:Array MapEntry) (c:Nat) (m:List (κ×Value)) (j:Nat),w.heap[g]?=some (.map es c)/\es.toList.map (λe=>(e.key,e.val))=m.map (λp=>(V p.1,p.2))/\(∀k,(z2k m k).getD z=f k)/\(es.toList.map (·.born)).Nodup/\(∀e∈es.toList,e.born<c)/\(m.map (·.1)).findIdx? (λx=>decide (k=x))=some j/\(es.toList[j]?).map (·.born)=some st
section
variable {κ:Type} [DecidableEq κ] {V:κ->Value} {P:Program} {K:TypeId}
theorem MapZ.fr {w w':World}{g:Nat}{z:Value}{f:κ->Value}{S:List Nat}(h:MapZ V w g z f)(hf:Fr S w w')(hn:∀k∈S,k∉[g]:=by simp[z0v]<;>omega):MapZ V w' g z f:=by
 obtain⟨I,c,m,D,M⟩:=h;exact⟨I,c,m,(hf.block g (Array.getElem?_eq_some_iff.1 D).1 (λh=>hn g h sp0)).trans D,M⟩
theorem MapZ.ext {w w':World}{g:Nat}{z:Value}{f:κ->Value}(h:MapZ V w g z f)(hf:Fr [] w w'):MapZ V w' g z f:=h.fr hf sp0
theorem MapZ.lt {w:World}{g:Nat}{z:Value}{f:κ->Value}(h:MapZ V w g z f):g<w.heap.size:=let ⟨_,_,_,h1,_⟩:=h;(Array.getElem?_eq_some_iff.1 h1).1
theorem MapZ.ne_blk {w:World}{g D T:Nat}{z:Value}{f:κ->Value}{cs:List Value}(h:MapZ V w g z f)(I:Blk w D T cs):g≠D:=by
 rintro rfl;obtain⟨_,_,_,M,_⟩:=h;unfold Blk at I;rw[I]at M;cases M
theorem MapE.map {w:World}{g st:Nat}{z:Value}{f:κ->Value}{k:κ}(h:MapE V w g z f k st):MapZ V w g z f:=
 let ⟨es,c,m,_,h1,h2,h3,h4,h5,_⟩:=h;⟨es,c,m,h1,h2,h3,h4,h5⟩
theorem x6z {l:List MapEntry}(hn:(l.map (·.born)).Nodup){j st:Nat}(h:(l[j]?).map (·.born)=some st):l.findIdx? (λe=>((e.born:Nat):Int) == ((st:Nat):Int))=some j:=by
 induction l generalizing j with
 | nil=>simp at h
 | cons a r ih=>
  simp only[List.map_cons,List.nodup_cons]at hn;cases j with
  | zero=>simp at h;subst h;simp[List.findIdx?_cons]
  | succ j=>
   simp only[List.getElem?_cons_succ]at h;obtain⟨I,Z,hs⟩:=Option.map_eq_some_iff.1 h;have D:a.born≠st:=λM=>hn.1 (List.mem_map.2 ⟨I,List.mem_of_getElem? Z,hs.trans M.symm⟩);have O:(((a.born:Nat):Int) == ((st:Nat):Int))=false:=by
    simp only[beq_eq_false_iff_ne,ne_eq,Int.natCast_inj];exact D
   rw[List.findIdx?_cons,O];simp[ih hn.2 h]
theorem x2u {w:World}{g:Nat}{z:Value}{f:κ->Value}{t E:TypeId}(h:MapZ V w g z f)(Z:KeyLaw P K V)(hu:P.underlying t=some (.map K E))(hz:(zeroValue E).run P w=.ok z w)(k:κ) :
    (Instr.lookup t (.map (some g)) (V k) false).run P w=.ok (f k) w:=by
  obtain⟨D,c,m,I,M,O,_⟩:=h
  rw[<-O k]
  exact y6h (f:=z2k m) ⟨D,c,m,I,M,λ_=>rfl⟩ Z hu hz k
theorem y8r {w:World}{g:Nat}{z:Value}{f:κ->Value}{t E:TypeId}(h:MapZ V w g z f)(hk:KeyLaw P K V)(hu:P.underlying t=some (.map K E))(hz:∀w:World,(zeroValue E).run P w=.ok z w)(k:κ) :
    ∃w' st,(Instr.mapEntry t (.map (some g)) (V k)).run P w=.ok (.tuple #[f k,.int .i64 (st:Nat)]) w'/\MapE V w' g z f k st/\Fr [g] w w'/\w'.heap.size=w.heap.size:=by
  obtain⟨I,c,m,h1,h2,h3,h4,h5⟩:=h
  have a9:=(Array.getElem?_eq_some_iff.1 h1).1
  have a0:I.toList.map (·.key)=(m.map (·.1)).map V:=by
    have:=congrArg (List.map Prod.fst) h2
    simpa[List.map_map,Function.comp_def] using this
  have M:=hk.find k I.toList (m.map (·.1)) w a0
  have a1:∀o,(setObj g o).run P w=.ok () { w with heap:=w.heap.setIfInBounds g o }:=by intro o;simp[setObj,Sem.run,h1]
  have a5:∀o,Fr [g] w { w with heap:=w.heap.setIfInBounds g o }:=λo=>⟨rfl,rfl,rfl,sp0,λi _ hn=>by
    simp only
    rw[Array.getElem?_setIfInBounds_ne (by intro e;subst e;simp at hn)]⟩
  have O:∀o,({ w with heap:=w.heap.setIfInBounds g o }:World).heap[g]?=some o:=by intro o;simp[a9]
  have a7:I.toList.length=m.length:=by have:=congrArg List.length h2;simpa using this
  have D:=y2e (V:=V) m k I.toList h2
  cases hf:(m.map (·.1)).findIdx? (λx=>decide (k=x)) with
  | none=>
    rw[hf]at M D
    simp only[Option.bind_none,Option.map_none]at D
    have e0:f k=z:=by rw[<-h3 k,<-D];rfl
    refine⟨{ w with heap:=w.heap.setIfInBounds g (.map (I.push { key:=V k,val:=z,born:=c }) (c+1)) },c,?_,⟨_,_,m++[(k,z)],m.length,O (.map (I.push { key:=V k,val:=z,born:=c }) (c+1)),?_,λk'=>?_,?_,?_,?_,?_⟩,a5 _,sp0⟩
    · simp only[Instr.mapEntry,Sem.run_bind,run_underlying hu,Result.andThen_ok,z2m h1,hk.check,M,Option.bind_none,hz w,a1,Sem.run_pure,e0]
      rfl
    · simp[h2]
    · rw[y2u m k k' z hf,<-h3 k']
      split
      · rename_i e;subst e;rw[h3,e0];rfl
      · rfl
    · simp only[Array.toList_push,List.map_append,List.map_cons,List.map_nil]
      refine List.nodup_append.2 ⟨h4,sp0,λa ha b hb e=>?_⟩
      simp only[List.mem_singleton]at hb
      obtain⟨x,hx,rfl⟩:=List.mem_map.1 ha
      have:=h5 x hx;omega
    · intro e he
      simp only[Array.toList_push,List.mem_append,List.mem_singleton]at he
      rcases he with he|rfl
      · have:=h5 e he;omega
      · simp
    · rw[List.map_append,List.findIdx?_append,hf];simp
    · simp only[Array.toList_push]
      rw[<-a7,List.getElem?_append_right (Nat.le_refl _)];simp
  | some i=>
    have hi:i<m.length:=by
      have:=List.findIdx?_eq_some_iff_findIdx_eq.1 hf
      simpa using this.1
    have Z:i<I.toList.length:=by omega
    have a6:V k=(I.toList[i]).key:=by
      have a8:=List.findIdx?_eq_some_iff_getElem.1 hf
      obtain⟨b1,hp,_⟩:=a8
      have b0:k=(m.map (·.1))[i]:=by simpa using hp
      have e1:(I.toList.map (·.key))[i]?=((m.map (·.1)).map V)[i]?:=by rw[a0]
      simp only[List.getElem?_map,List.getElem?_eq_getElem Z,List.getElem?_eq_getElem hi,Option.map_some,Option.some.injEq]at e1
      rw[e1,b0];simp
    have a4:I[i]?=some I.toList[i]:=by rw[<-Array.getElem?_toList,List.getElem?_eq_getElem Z]
    have a3:(Instr.keyThatStays (((I[i]?).map (·.key)).getD (V k)) (V k)).run P w=.ok (V k) w:=by
      rw[a4]
      simp only[Option.map_some,Option.getD_some,<-a6,Instr.keyThatStays,hk.bits,if_true,Sem.run_pure]
    have a2:I.modify i (λe=>{ e with key:=V k })=I:=by
      apply Array.ext'
      rw[Array.toList_modify]
      apply List.ext_getElem?
      intro j
      rw[List.getElem?_modify]
      by_cases hj:i=j
      · subst hj
        rw[List.getElem?_eq_getElem Z]
        simp only[Option.map_eq_map,Option.map_some,if_pos,Option.some.injEq]
        rw[a6]
      · simp[hj]
    rw[hf]at M D
    simp only[Option.bind_some,List.getElem?_eq_getElem Z,Option.map_some]at M D
    have e0:f k=I.toList[i].val:=by rw[<-h3 k,<-D];rfl
    refine⟨{ w with heap:=w.heap.setIfInBounds g (.map I c) },I.toList[i].born,?_,⟨I,c,m,i,O _,h2,h3,h4,h5,hf,?_⟩,a5 _,sp0⟩
    · simp only[Instr.mapEntry,Sem.run_bind,run_underlying hu,Result.andThen_ok,z2m h1,hk.check,M,a3,a1,a2,Sem.run_pure,e0]
      rw[a4];rfl
    · rw[List.getElem?_eq_getElem Z];rfl
theorem y4u {w:World}{g st:Nat}{z v:Value}{f:κ->Value}{t:TypeId}{k:κ}(h:MapE V w g z f k st) :
    ∃w',(Instr.entryStore t (.map (some g)) (.int .i64 (st:Nat)) v).run P w=.ok () w'/\MapZ V w' g z (λk'=>if k'=k then v else f k')/\Fr [g] w w'/\w'.heap.size=w.heap.size:=by
  obtain⟨I,c,m,j,h1,h2,h3,h4,h5,h6,h7⟩:=h
  have a3:=(Array.getElem?_eq_some_iff.1 h1).1
  have a1:∀o,(setObj g o).run P w=.ok () { w with heap:=w.heap.setIfInBounds g o }:=by intro o;simp[setObj,Sem.run,h1]
  have a2:∀o,Fr [g] w { w with heap:=w.heap.setIfInBounds g o }:=λo=>⟨rfl,rfl,rfl,sp0,λi _ hn=>by
    simp only
    rw[Array.getElem?_setIfInBounds_ne (by intro e;subst e;simp at hn)]⟩
  have M:∀o,({ w with heap:=w.heap.setIfInBounds g o }:World).heap[g]?=some o:=by intro o;simp[a3]
  have a0:I.findIdx? (λe=>((e.born:Nat):Int) == ((st:Nat):Int))=some j:=by
    have e:I.findIdx? (λe=>((e.born:Nat):Int) == ((st:Nat):Int))=I.toList.findIdx? (λe=>((e.born:Nat):Int) == ((st:Nat):Int)):=by cases I;simp
    rw[e];exact x6z h4 h7
  have hi:j<m.length:=by
    have:=List.findIdx?_eq_some_iff_findIdx_eq.1 h6
    simpa using this.1
  refine⟨{ w with heap:=w.heap.setIfInBounds g (.map (I.modify j λe=>{ e with val:=v }) c) },?_,⟨_,c,m.modify j λp=>(p.1,v),M _,?_,λk'=>?_,?_,?_⟩,a2 _,sp0⟩
  · simp only[Instr.entryStore,Sem.run_bind,Result.andThen_ok,z2m h1,asInt,asIntOf,Sem.run_pure,a0,a1]
  · rw[Array.toList_modify]
    apply List.ext_getElem?
    intro i
    have D:=congrArg (·[i]?) h2
    simp only[List.getElem?_map]at D ⊢
    rw[List.getElem?_modify,List.getElem?_modify]
    by_cases hj:j=i
    · subst hj
      simp only[Option.map_eq_map,if_pos]
      cases O:I.toList[j]? with
      | none=>rw[O]at D;cases hm:m[j]? with
        | none=>rfl
        | some p=>rw[hm]at D;cases D
      | some e=>rw[O]at D;cases hm:m[j]? with
        | none=>rw[hm]at D;cases D
        | some p=>
          rw[hm]at D
          simp only[Option.map_some,Option.some.injEq,Prod.mk.injEq]at D ⊢
          first|exact⟨D.1,rfl⟩|exact⟨D.1,trivial⟩|simp[D.1]
    · simp only[Option.map_eq_map,if_neg hj];simpa using D
  · rw[z8m k k' v m j h6]
    show _=if k'=k then v else f k'
    split
    · rfl
    · exact h3 k'
  · rw[Array.toList_modify]
    have e:(I.toList.modify j λe=>{ e with val:=v }).map (·.born)=I.toList.map (·.born):=by
      apply List.ext_getElem?
      intro i
      rw[List.getElem?_map,List.getElem?_map,List.getElem?_modify]
      split
      · cases I.toList[i]?<;>rfl
      · simp
    rw[e];exact h4
  · intro e O
    rw[Array.toList_modify]at O
    obtain⟨i,Z,rfl⟩:=List.getElem_of_mem O
    rw[List.length_modify]at Z
    rw[List.getElem_modify]
    have:=h5 _ (List.getElem_mem Z)
    split<;>exact this
variable {a:Act} {n:Nat} {L:List (Nat×Value)} {ds:List Nat} {w w':World} {Q:Exit->Act->World->Prop} {ops:Array Oper} {rest:List Oper}
variable {d:Nat} {ty:TypeId} {pos:String} {after:Array Edge} {x y z':Operand} {t E:TypeId} {g st:Nat} {f:κ->Value} {k:κ} {v z:Value}
theorem x4a (V:κ->Value)(z:Value)(h:AgM ds a n L)(hn:Nat.blt d n=true)
    (q:∀g w',g=w.heap.size->MapZ V w' g z (λ_=>z)->Fr [] w w'->w'.heap.size=g+1->∀a,AgM ds a n ((d,.map (some g))::L)->wpList P ops Q rest a w'):wpList P ops Q (⟨some d,.makeMap t none,ty,pos,after,none⟩::rest) a w:=
  z2c h U hn (w':=w.alloc (.map #[] 0)) (by simp[execOp,Instr.makeMap]) (q _ _ U ⟨_,_,[],heap_alloc_new w _,sp0,λ_=>rfl,sp0,sp0⟩ (Fr.alloc [] w _) sp0)
theorem y6j (V:κ->Value)(z:Value)(hn:Nat.blt d n=true)(q:∀g w',g=w.heap.size->MapZ V w' g z (λ_=>z)->Fr [] w w'->w'.heap.size=g+1->WL P ops Q rest n ds w' ((d,.map (some g))::L)):WL P ops Q (⟨some d,.makeMap t none,ty,pos,after,none⟩::rest) n ds w L:=λa h=>x4a V z h hn q
theorem z7h (h:AgM ds a n L)(Z:ev L x=some (.map (some g)))(hy:ev L y=some (V k))(I:MapZ V w g z f)(D:KeyLaw P K V)(M:P.underlying t=some (.map K E))(hz:∀w:World,(zeroValue E).run P w=.ok z w)(O:f k=v)(hn:Nat.blt d n=true)
    (q:∀a,AgM ds a n ((d,v)::L)->wpList P ops Q rest a w):wpList P ops Q (⟨some d,.lookup t x y false,ty,pos,after,none⟩::rest) a w:=
  z2c h U hn (by rw[<-O];simp[execOp,h.eval Z,h.eval hy,x2u I D M (hz w) k]) q
theorem y3v (Z:ev L x=some (.map (some g)))(hy:ev L y=some (V k))(I:MapZ V w g z f)(D:KeyLaw P K V)(M:P.underlying t=some (.map K E))(hz:∀w:World,(zeroValue E).run P w=.ok z w)(O:f k=v)(hn:Nat.blt d n=true)
 (q:WL P ops Q rest n ds w ((d,v)::L)):WL P ops Q (⟨some d,.lookup t x y false,ty,pos,after,none⟩::rest) n ds w L:=λa h=>z7h h Z hy I D M hz O hn q
theorem z6n (h:AgM ds a n L)(hx:ev L x=some (.map (some g)))(hy:ev L y=some (V k))(Z:MapZ V w g z f)(O:KeyLaw P K V)(hu:P.underlying t=some (.map K E))(hz:∀w:World,(zeroValue E).run P w=.ok z w)(hn:Nat.blt d n=true)
    (q:∀w' st,MapE V w' g z f k st->Fr [g] w w'->w'.heap.size=w.heap.size->∀a,AgM ds a n ((d,.tuple #[f k,.int .i64 (st:Nat)])::L)->wpList P ops Q rest a w'):wpList P ops Q (⟨some d,.mapEntry t x y,ty,pos,after,none⟩::rest) a w:=by
  obtain⟨w',st,hr,D,I,M⟩:=y8r Z O hu hz k
  exact z2c h U hn (w':=w') (by simp[execOp,h.eval hx,h.eval hy,hr]) (q w' st D I M)
theorem z5f {s:Operand}(h:AgM ds a n L)(hx:ev L x=some (.map (some g)))(hs:ev L s=some (.int .i64 (st:Nat)))(hy:ev L y=some v)(O:MapE V w g z f k st)
    (q:∀w',MapZ V w' g z (λk'=>if k'=k then v else f k')->Fr [g] w w'->w'.heap.size=w.heap.size->∀a,AgM ds a n L->wpList P ops Q rest a w'):wpList P ops Q (⟨none,.entryStore t x s y,ty,pos,after,none⟩::rest) a w:=by
  obtain⟨w',Z,D,I,M⟩:=y4u (P:=P) (t:=t) (v:=v) O
  exact z8o h U U (w':=w') (by simp[execOp,h.eval hx,h.eval hs,h.eval hy,Z]) (q w' D I M)
end
end Go.Lw
namespace Go.Lw
open Go.RowKit
theorem x8g {w:World}{ad:Addr}{cs vs:List Value}{off:Nat}(h:Cells w ad cs)(I:(cs.drop off).take vs.length=vs):Cells w (ad.add off) vs:=λj u D=>by
 rw[<-I]at D
 rw[List.getElem?_take]at D
 split at D
 ·rw[List.getElem?_drop]at D
  rw[z8r];exact h _ u D
 cases D
section
variable {P:Program} {a:Act} {n:Nat} {L:List (Nat×Value)} {ds:List Nat} {w:World} {Q:Exit->Act->World->Prop} {ops:Array Oper} {rest:List Oper} {d g p:Nat} {ty t:TypeId} {pos:String} {after:Array Edge} {x:Operand} {l:List UInt8}
end
end Go.Lw
namespace Go.Lw
open Go.RowKit
section
variable {P:Program} {a:Act} {n:Nat} {L:List (Nat×Value)} {ds:List Nat} {w:World} {Q:Exit->Act->World->Prop} {ops:Array Oper} {rest:List Oper} {d:Nat} {ty t T:TypeId} {pos:String} {after:Array Edge} {x:Operand}
end
section
variable {P:Program} {a:Act} {n:Nat} {L:List (Nat×Value)} {ds:List Nat} {w:World} {Q:Exit->Act->World->Prop} {ops:Array Oper} {rest:List Oper} {d:Nat} {ty t T:TypeId} {pos:String} {after:Array Edge} {x y:Operand} {k:IntKind} {i:Int}
end
end Go.Lw
namespace Go.Proofs.YtlfdhllfmoplgaaGreatDoor
open Go.Lw Go.G21 Go.G08 _root_.Go.Proofs.Tryz
theorem y9c:ElemOf prog 28 123 z3z 24:=ElemOf.mk' (z:=(.slice none 0 0)) underlying28 kr U
theorem y0q:z1y prog 123:=λ_=>kr
theorem v4f (i:LId)(v:Value)(ts:List TQ)(w0:World)(hs:Sl z3z w0 v ts)(hk:TabAt w0 ts)(hl:ts.length<=200)(hi:0<=i.y/\i.y<=255):Rets prog 242 #[v,.agg #[.int .u8 i.y,.int .i64 i.n]] w0 λr w'=>r=.bool (decide (z4k (z2g ts) i))/\Fr [] w0 w':=by
 obtain⟨A,c,rfl,a4,hM,hA⟩:=id hs;clear hA;unfold maxLen at hM;have a1:=z5a hk;have a6:=a1 (i.y-1).toNat;refine we [(0,.slice A ts.length c),(1,.agg #[.int .u8 i.y,.int .i64 i.n])] func242 U ntmps242 U (.c2 U U) ?_;have a2:=hs;have a0:=hk;refine sr (bx U (λg3 w1 a5 I O z1=>(asg U (nn (sq ?_)))));replace hs:=a2.ext O;replace hk:=a0.ext O;intro a h;refine y2l z2o kr (z2s h U z8a U λa h=>z5j h U (λ_ M=>I.ext M) U na5 U λa h=>v9n h U U U λa h=>z3y h U λa h=>gSp (D:=8) h U ?_ ?_);clear h;intro g0 h;refine z2i h U U U U (z2s h U z8a U λa h=>z2i h U U U U (z5j h U (λ_ M=>I.ext M) U na5 U λa h=>z2i h U U U U (v1d h U (by rw[underlying5];rfl) underlying3 (by first|exact i6 oo|rfl) U λa h=>?_)));refine z2i h U U U U (z3y h U λa h=>z2i h U U U U (y7f h U underlying28 U λa h=>z2i h U U U U (u9x h U U U λa h=>?_)));refine z7b h U λa h=>z3y h U λa h=>gSp (D:=16) h U ?_ ?_;clear h;intro g1 h;refine z2i h U U U U (z2s h U z9q U λa h=>z2i h U U U U (z5j h U (λ_ M=>I.ext M) U na3 U λa h=>z2i h U U U U (v9n h U U U λa h=>?_)));refine z7b h U λa h=>z3y h U λa h=>gSp (D:=21) h U ?_ ?_;clear h;intro g2 h;refine z2i h U U U U (z2s h U z9q U λa h=>z2i h U U U U (z5j h U (λ_ M=>I.ext M) U na3 U λa h=>z2i h U U U U (z3y h U λa h=>?_)));refine z2i h U U U U (z2s h U z8a U λa h=>z2i h U U U U (z5j h U (λ_ M=>I.ext M) U na5 U λa h=>z2i h U U U U (v9x h U U (by first|exact IntWalk.u8_in _ oo|rfl) U λa h=>?_)));refine z2i h U U U U (v3f (tq0) h U hs U y9c oo oo U U λa3 Z a h=>z2i h U U U U (x0i h U (λ_ M=>Z _ (hs.ext M)) y0q U λa h=>z2i h U U U U (y7f h U underlying123 U λa h=>?_)));refine z2i h U U U U (u7s h U U U λa h=>z7b h U λa h=>z5o h U U λa h=>wpQuiet_nil ?_);intro w2 q2;refine bk (h.sub (L':=[(4,_)]) (.cons U .nil)) (tn (rt (r1 results242 U ?_)));exact⟨_,rfl,by first|exact congrArg Value.bool (decide_eq_decide.2 (by rw[z2f];omega))|exact congrArg Value.bool (decide_eq_false (by rw[z2f];omega)).symm|exact congrArg Value.bool (decide_eq_true (by rw[z2f];omega)).symm,(O.n1 q2)⟩;clear h;intro g2 h;refine z1r h U U U U λa h=>z1r h U U U U λa h=>z1r h U U U U λa h=>z1r h U U U U λa h=>z1r h U U U U λa h=>z1r h U U U U λa h=>z1r h U U U U λa h=>z1r h U U U U λa h=>z1r h U U U U λa h=>z1r h U U U U λa h=>z3m h U λa h=>z5o h U U λa h=>wpQuiet_nil ?_;intro w3 q3;refine bk (h.sub (L':=[(4,_)]) (.cons U .nil)) (tn (rt (r1 results242 U ?_)));exact⟨_,rfl,by first|exact congrArg Value.bool (decide_eq_decide.2 (by rw[z2f];omega))|exact congrArg Value.bool (decide_eq_false (by rw[z2f];omega)).symm|exact congrArg Value.bool (decide_eq_true (by rw[z2f];omega)).symm,(O.n1 q3)⟩;clear h;intro g1 h;refine z1r h U U U U λa h=>z1r h U U U U λa h=>z1r h U U U U λa h=>z3m h U λa h=>z3y h U λa h=>z1r h U U U U λa h=>z1r h U U U U λa h=>z1r h U U U U λa h=>z1r h U U U U λa h=>z1r h U U U U λa h=>z1r h U U U U λa h=>z1r h U U U U λa h=>z1r h U U U U λa h=>z1r h U U U U λa h=>z1r h U U U U λa h=>z3m h U λa h=>z5o h U U λa h=>wpQuiet_nil ?_;intro w4 q4;refine bk (h.sub (L':=[(4,_)]) (.cons U .nil)) (tn (rt (r1 results242 U ?_)));exact⟨_,rfl,by first|exact congrArg Value.bool (decide_eq_decide.2 (by rw[z2f];omega))|exact congrArg Value.bool (decide_eq_false (by rw[z2f];omega)).symm|exact congrArg Value.bool (decide_eq_true (by rw[z2f];omega)).symm,(O.n1 q4)⟩;clear h;intro g0 h;refine z1r h U U U U λa h=>z1r h U U U U λa h=>z1r h U U U U λa h=>z1r h U U U U λa h=>z1r h U U U U λa h=>z1r h U U U U λa h=>z3m h U λa h=>z3y h U λa h=>z1r h U U U U λa h=>z1r h U U U U λa h=>z1r h U U U U λa h=>z3m h U λa h=>z3y h U λa h=>z1r h U U U U λa h=>z1r h U U U U λa h=>z1r h U U U U λa h=>z1r h U U U U λa h=>z1r h U U U U λa h=>z1r h U U U U λa h=>z1r h U U U U λa h=>z1r h U U U U λa h=>z1r h U U U U λa h=>z1r h U U U U λa h=>z3m h U λa h=>z5o h U U λa h=>wpQuiet_nil ?_;intro w5 q5;refine bk (h.sub (L':=[(4,_)]) (.cons U .nil)) (tn (rt (r1 results242 U ?_)));exact⟨_,rfl,by first|exact congrArg Value.bool (decide_eq_decide.2 (by rw[z2f];omega))|exact congrArg Value.bool (decide_eq_false (by rw[z2f];omega)).symm|exact congrArg Value.bool (decide_eq_true (by rw[z2f];omega)).symm,(O.n1 q5)⟩
theorem x3i (i:LId)(v:Value)(ts:List TQ)(w0:World)(hs:Sl z3z w0 v ts)(hk:TabAt w0 ts)(hl:ts.length<=200)(hi:0<=i.y/\i.y<=255):Rets prog 157 #[v,.agg #[.int .u8 i.y,.int .i64 i.n]] w0 λr w'=>r=.bool (decide (z4k (z2g ts) i))/\Fr [] w0 w':=by
 obtain⟨A,c,rfl,a4,hM,hA⟩:=id hs;clear hA;unfold maxLen at hM;have a1:=z5a hk;have a6:=a1 (i.y-1).toNat;refine we [(0,.slice A ts.length c),(1,.agg #[.int .u8 i.y,.int .i64 i.n])] func157 U ntmps157 U (.c2 U U) ?_;have a2:=hs;have a0:=hk;refine sr (bx U (λg3 w1 a5 I O z1=>(asg U (nn (sq ?_)))));replace hs:=a2.ext O;replace hk:=a0.ext O;intro a h;refine y2l z2o kr (z2s h U z8a U λa h=>z5j h U (λ_ M=>I.ext M) U na5 U λa h=>v9n h U U U λa h=>z3y h U λa h=>gSp (D:=8) h U ?_ ?_);clear h;intro g0 h;refine z2i h U U U U (z2s h U z8a U λa h=>z2i h U U U U (z5j h U (λ_ M=>I.ext M) U na5 U λa h=>z2i h U U U U (v1d h U (by rw[underlying5];rfl) underlying3 (by first|exact i6 oo|rfl) U λa h=>?_)));refine z2i h U U U U (z3y h U λa h=>z2i h U U U U (y7f h U underlying28 U λa h=>z2i h U U U U (u9x h U U U λa h=>?_)));refine z7b h U λa h=>z3y h U λa h=>gSp (D:=16) h U ?_ ?_;clear h;intro g1 h;refine z2i h U U U U (z2s h U z9q U λa h=>z2i h U U U U (z5j h U (λ_ M=>I.ext M) U na3 U λa h=>z2i h U U U U (v9n h U U U λa h=>?_)));refine z7b h U λa h=>z3y h U λa h=>gSp (D:=21) h U ?_ ?_;clear h;intro g2 h;refine z2i h U U U U (z2s h U z9q U λa h=>z2i h U U U U (z5j h U (λ_ M=>I.ext M) U na3 U λa h=>z2i h U U U U (z3y h U λa h=>?_)));refine z2i h U U U U (z2s h U z8a U λa h=>z2i h U U U U (z5j h U (λ_ M=>I.ext M) U na5 U λa h=>z2i h U U U U (v9x h U U (by first|exact IntWalk.u8_in _ oo|rfl) U λa h=>?_)));refine z2i h U U U U (v3f (tq0) h U hs U y9c oo oo U U λa3 Z a h=>z2i h U U U U (x0i h U (λ_ M=>Z _ (hs.ext M)) y0q U λa h=>z2i h U U U U (y7f h U underlying123 U λa h=>?_)));refine z2i h U U U U (u7s h U U U λa h=>z7b h U λa h=>z5o h U U λa h=>wpQuiet_nil ?_);intro w2 q2;refine bk (h.sub (L':=[(4,_)]) (.cons U .nil)) (tn (rt (r1 results157 U ?_)));exact⟨_,rfl,by first|exact congrArg Value.bool (decide_eq_decide.2 (by rw[z2f];omega))|exact congrArg Value.bool (decide_eq_false (by rw[z2f];omega)).symm|exact congrArg Value.bool (decide_eq_true (by rw[z2f];omega)).symm,(O.n1 q2)⟩;clear h;intro g2 h;refine z1r h U U U U λa h=>z1r h U U U U λa h=>z1r h U U U U λa h=>z1r h U U U U λa h=>z1r h U U U U λa h=>z1r h U U U U λa h=>z1r h U U U U λa h=>z1r h U U U U λa h=>z1r h U U U U λa h=>z1r h U U U U λa h=>z3m h U λa h=>z5o h U U λa h=>wpQuiet_nil ?_;intro w3 q3;refine bk (h.sub (L':=[(4,_)]) (.cons U .nil)) (tn (rt (r1 results157 U ?_)));exact⟨_,rfl,by first|exact congrArg Value.bool (decide_eq_decide.2 (by rw[z2f];omega))|exact congrArg Value.bool (decide_eq_false (by rw[z2f];omega)).symm|exact congrArg Value.bool (decide_eq_true (by rw[z2f];omega)).symm,(O.n1 q3)⟩;clear h;intro g1 h;refine z1r h U U U U λa h=>z1r h U U U U λa h=>z1r h U U U U λa h=>z3m h U λa h=>z3y h U λa h=>z1r h U U U U λa h=>z1r h U U U U λa h=>z1r h U U U U λa h=>z1r h U U U U λa h=>z1r h U U U U λa h=>z1r h U U U U λa h=>z1r h U U U U λa h=>z1r h U U U U λa h=>z1r h U U U U λa h=>z1r h U U U U λa h=>z3m h U λa h=>z5o h U U λa h=>wpQuiet_nil ?_;intro w4 q4;refine bk (h.sub (L':=[(4,_)]) (.cons U .nil)) (tn (rt (r1 results157 U ?_)));exact⟨_,rfl,by first|exact congrArg Value.bool (decide_eq_decide.2 (by rw[z2f];omega))|exact congrArg Value.bool (decide_eq_false (by rw[z2f];omega)).symm|exact congrArg Value.bool (decide_eq_true (by rw[z2f];omega)).symm,(O.n1 q4)⟩;clear h;intro g0 h;refine z1r h U U U U λa h=>z1r h U U U U λa h=>z1r h U U U U λa h=>z1r h U U U U λa h=>z1r h U U U U λa h=>z1r h U U U U λa h=>z3m h U λa h=>z3y h U λa h=>z1r h U U U U λa h=>z1r h U U U U λa h=>z1r h U U U U λa h=>z3m h U λa h=>z3y h U λa h=>z1r h U U U U λa h=>z1r h U U U U λa h=>z1r h U U U U λa h=>z1r h U U U U λa h=>z1r h U U U U λa h=>z1r h U U U U λa h=>z1r h U U U U λa h=>z1r h U U U U λa h=>z1r h U U U U λa h=>z1r h U U U U λa h=>z3m h U λa h=>z5o h U U λa h=>wpQuiet_nil ?_;intro w5 q5;refine bk (h.sub (L':=[(4,_)]) (.cons U .nil)) (tn (rt (r1 results157 U ?_)));exact⟨_,rfl,by first|exact congrArg Value.bool (decide_eq_decide.2 (by rw[z2f];omega))|exact congrArg Value.bool (decide_eq_false (by rw[z2f];omega)).symm|exact congrArg Value.bool (decide_eq_true (by rw[z2f];omega)).symm,(O.n1 q5)⟩
theorem v4z (u:Value)(A:Option Addr)(m c:Nat)(w0:World)(M:m=0):Rets prog 209 #[u,.slice A m c] w0 λr w'=>r=u/\Fr [] w0 w':=by
 refine we [(0,u),(1,.slice A m c)] func209 U ntmps209 U (.c2 U U) (sr (asg U (nn (sq (sr (mv U (lnS U underlying102 (mv U (nn (bl (lpK (ι:=Nat) [(0,_),(8,_),(9,_)] (λk=>[(10,.int .i64 (k:Int))]) (λk w'=>Fr [] w0 w'/\k<=m) (λk=>m-k) 0 (.c4 U U U U) ⟨Fr.refl _ _,Nat.zero_le _⟩ ?_)))))))))));rintro k w1 ⟨D,I⟩;refine kpC [(0,_),(8,_),(9,_),(10,_)] (.c4 U U U U) (sr (lt' U ?_));rw[show decide ((k:Int)<(m:Int))=false from decide_eq_false oo];exact nn (sq (cf U (ex (te (te (xh (tn (sr (mv U (asg U (kpL [(4,_)] (.cons U .nil) (nn (rt (r1 results209 U ⟨_,rfl,rfl,D⟩))))))))))))))
theorem v5i (base:Nat)(u v:Value)(l:List Pa)(wS w0:World)(I:Lw.Own z2d 107 base w0 u [])(O:Sl z2d wS v l)(M:Sl z2d w0 v l)(hb:wS.heap.size<=base)(D:base<=w0.heap.size)(hn:l.length<=100000):Rets prog 209 #[u,v] w0 λr w'=>∃S,Lw.Own z2d 107 base w' r (z4w [] l)/\(∀k∈S,base<=k)/\Fr S w0 w':=by
 by_cases e:l=[];subst e;obtain⟨A,c,rfl,_⟩:=M.form;refine Rets.mono (v4z u A _ c w0 U) ?_;rintro r w' ⟨rfl,hf⟩;exact⟨[],I.ext hf,sp0,hf⟩;exact x8x base u v [] l w0 I M (λk Z=>by have:=O.blk e k Z;omega) D (by simpa using hn)
theorem v2s (v:Value)(l:List Pa)(w0:World)(M:Sl z2d w0 v l)(hl:l.length<=50000):Rets prog 243 #[v] w0 λr w'=>∃A,r=.slice A (z4w [] l).length (z4w [] l).length/\Fr [] w0 w':=by
 obtain⟨A,c,rfl,a1,hM,hA⟩:=id M;clear hA;unfold maxLen at hM;refine we [(0,.slice A l.length c)] func243 U ntmps243 U (.cons U .nil) ?_;have I:=M;refine sr (asg U (nn (sr (mv U (lnS U underlying102 (z1h (m:=0) (c:=l.length) (pa0) U z4h y7i U (λg5 w1 a2 ho q1 z1=>(mv U ?_))))))));replace M:=I.ext q1;refine cl (ev2 U) (mkC func209) (v5i g5 _ _ l w0 _ (by simpa using ho) I M oo oo oo) U ?_;rintro V7 w2 ⟨S7,D,O,q2⟩;have Z:=y1c l [];obtain⟨A7,c7,rfl,a0⟩:=D.sl.form;refine cl (ev1 U) (mkC func210) (z9e _ _ _ D.sl (by simp only[List.length_nil]at Z;omega)) U ?_;rintro _ w3 ⟨A8,rfl,a4,q3⟩;exact asg U (kpL [(2,_)] (.cons U .nil) (nn (rt (r1 results243 U ⟨_,rfl,A8,rfl,((q1.step q2 (λk hk a3=>absurd (O k hk) oo)).n1 q3)⟩))))
theorem y3e (v:Value)(ts:List TQ)(w0:World)(I:Sl z3z w0 v ts)(hk:TabAt w0 ts)(hN:z5p (z2g ts)<=100000):Rets prog 168 #[v] w0 λr w'=>r=.int .i64 (z5p (z2g ts):Int)/\Fr [] w0 w':=by
 obtain⟨A,c,rfl,a3,hM,hA⟩:=id I;clear hA;unfold maxLen at hM;have M:=z5a hk;refine we [(0,.slice A ts.length c)] func168 U ntmps168 U (.cons U .nil) ?_;have O:=I;have a4:=hk;refine sr (asg U (nn (sr (asg U (nn (sq (sr (mv U (lnS U underlying28 (mv U (nn (bl (lpK (ι:=Nat) [(6,_),(7,_)] (λi=>[(8,.int .i64 (i:Int)),(3,.int .i64 (v9u ts i:Int))]) (λi w'=>Fr [] w0 w'/\i<=ts.length) (λi=>ts.length-i) 0 (.c4 U U U U) ⟨Fr.refl _ _,Nat.zero_le _⟩ ?_)))))))))))));rintro i w1 ⟨Z,hi⟩;refine kpC [(6,_),(7,_),(8,_),(3,_)] (.c4 U U U U) (sr (lt' U (nn (sq (cd U (λc0=>?_) (λc0=>?_))))));have a5:=M i;have a1:=v0v (ts:=ts) (i:=i) oo;have a2:=u2i ts (i+1);refine sk (tn (sq (bl (sr ?_))));replace I:=O.ext Z;refine z1d (tq0) U I U y9c z1j (λa0 D=>?_);refine z1k U (D _ I) y0q (asg U (nn (rg (mv U (mv U (lnS U underlying123 (z0x U (wi6 oo) (asg U (nl (bn' (tn (rg (z0x U (wi6 oo) (mv U (nl ?_)))))))))))))));exact lpE (i+1) (.c4 U U U (congrArg (λz=>some (Value.int .i64 z)) oo)) ⟨Z,oo⟩ oo;obtain rfl:i=ts.length:=by omega
 exact ex (te (te (xh (tn (sr (mv U (asg U (kpL [(2,_)] (.cons U .nil) (nn (rt (r1 results168 U ⟨_,rfl,by rw[v4t],Z⟩)))))))))))
theorem z3x:ElemOf prog 30 64 z1b 16:=ElemOf.mk' (z:=(.agg #[.int .u8 0,.int .i64 0])) underlying30 kr U
theorem v2r:z1c prog 155 0 0:=λ_ _=>kr
theorem z6q:z1c prog 155 2 2:=λ_ _=>kr
theorem z9a:z1c prog 155 3 3:=λ_ _=>kr
theorem z6h:z1y prog 30:=λ_=>kr
theorem z5y:z1t prog 64 2:=λ_=>kr
theorem z7r (w:World):(zeroValue 64).run prog w=.ok (.agg #[(.int .u8 0),(.int .i64 0)]) w:=kr
theorem v7p (q:LpQ)(v:Value)(ts:List TQ)(w0:World)(hs:Sl z3z w0 v ts)(hk:TabAt w0 ts)(hl:ts.length=6)(O:LpAt w0 q)(hv:y4t (z2g ts) q.p):Rets prog 227 #[v,.agg #[.int .u8 q.b,.bool q.nw,.slice q.th.1 q.th.2.1 q.th.2.2,.slice q.pa.1 q.pa.2.1 q.pa.2.2]] w0 λr w'=>r=.bool true/\Fr [] w0 w':=by
 obtain⟨A,c,rfl,b7,hM,hA⟩:=id hs;clear hA;unfold maxLen at hM;have d9:=z5a hk;have d1:=z2e O.1;have d3:=z2e O.2;have hb:q.b=0\/q.b=1:=hv.1;have d5:q.ths.length<=4:=hv.2.1.1;have d6:q.pas.length<=4096:=hv.2.1.2;have b3:∀p∈q.pas,z5z p.d:=hv.2.2.2.1;have d7:(z4w [] q.pas).length=q.pas.length:=hv.2.2.2.2;have a9:∀i,i<q.ths.length->z4k (z2g ts) (q.ths.getD i id0):=λi hi=>hv.2.2.1 _ (List.mem_append_left _ (z1a hi));have a8:∀i,i<q.pas.length->z4k (z2g ts) (q.pas.getD i pa0).id:=λi hi=>hv.2.2.1 _ (List.mem_append_right _ (List.mem_map_of_mem (z1a hi)));have d4:=y0e ts;refine we [(0,.slice A ts.length c),(1,.agg #[.int .u8 q.b,.bool q.nw,.slice q.th.1 q.th.2.1 q.th.2.2,.slice q.pa.1 q.pa.2.1 q.pa.2.2])] func227 U ntmps227 U (.c2 U U) ?_;have b0:=hs;have a7:=hk;have a1:=O;refine sr (bx U (λg3 w1 b8 D q1 z1=>(asg U (nn (sq (sq (rbo (r:=16) (L':=[(0,_),(3,_)]) (((q.b≠0)/\(q.b≠1))) (.c2 U U) ?_ ?_)))))));refine fad U v2r (z0i U D U x2g (ne' U (mv U (gs 12 U (λg0=>?_) (λg0=>?_)))));exact gY U (fad U v2r (gY U (z0i U D U x2g (gY U (ne' U (pkt U (rbe U (.c2 U U))))))));exact gN U (gN U (gN U (pkf U (rbe U (.c2 U U)))));refine tn (cd U (λc0=>?_) (λc0=>?_));refine sr (asg U (nn (rt (tr (r1 results227 U ?_)))));exfalso;omega;refine sk (tn (sq (sq (rbo (r:=26) (L':=[(0,_),(3,_)]) (((4<(q.th.2.1:Int))\/(4096<(q.pa.2.1:Int)))) (.c2 U U) ?_ ?_))));refine fad U z6q (z0i U D U z6h (lnS U underlying30 (gt' U (mv U (gs 21 U (λg1=>?_) (λg1=>?_))))));exact gN U (gN U (gN U (gN U (pkt U (rbe U (.c2 U U))))));exact gY U (fad U z9a (gY U (z0i U D U z9o (gY U (lnS U underlying102 (gY U (gt' U (pkf U (rbe U (.c2 U U))))))))));refine tn (cd U (λc1=>?_) (λc1=>?_));refine sr (asg U (nn (rt (tr (r1 results227 U ?_)))));exfalso;omega;refine sk (tn (sq (sr (fad U z6q (z0i U D U z6h (lnS U underlying30 (mv U (nn (bl (lpK (ι:=Nat) [(0,_),(3,_),(28,_),(29,_)] (λi=>[(30,.int .i64 (i:Int))]) (λi w'=>Fr [] w1 w'/\i<=q.ths.length) (λi=>q.ths.length-i) 0 (.c5 U U U U U) ⟨Fr.refl _ _,Nat.zero_le _⟩ ?_))))))))));rintro i w2 ⟨Z,hi⟩;have z2:=Z.size;refine kpC [(0,_),(3,_),(28,_),(29,_),(30,_)] (.c5 U U U U U) (sr (lt' U (nn (sq (cd U (λc2=>?_) (λc2=>?_))))));refine sk (tn (sq (bl (sr ?_))));replace O:=a1.ext (q1.n1 Z);refine z1d (id0) U O.1 U z3x z1j (λb4 a5=>?_);refine z1q U (a5 _ O.1) z2q (al z7r U (λg6 w3 b9 a2 q3 z3=>(z0j (vs:=[_,_]) U a2 z5y (λw4 a2 q4 z4=>(nn (sr (mv U (z0m U a2 z2q ?_))))))));replace hs:=b0.ext (q1.z3 Z q3 q4);replace hk:=a7.ext (q1.z3 Z q3 q4);refine cl (ev2 U) (mkC func242) (v4f (q.ths.getD i id0) _ _ _ hs hk oo (by have h:=a9 i oo;have:=h.1;have:=h.2.1;omega)) U ?_;rintro _ w5 ⟨rfl,q5⟩;have z5:=q5.size;refine nt' U (nn (cd U (λc3=>?_) (λc3=>?_)));exact sr (asg U (kpL [(4,_)] (.cons U .nil) (nn (rt (rb (tr (tr (rb (tr (r1 results227 U (absurd (a9 i oo) (by simpa using c3))))))))))));exact sk (bn' (tn (rg (z0x U (wi6 oo) (mv U (nl (lpE (i+1) (.c5 U U U U U) ⟨(Z.z3 q3 q4 q5),oo⟩ oo)))))));obtain rfl:i=q.ths.length:=by omega
 refine ex (te (te (xh (tn (sq (sr (fad U z9a ?_)))))));replace D:=D.ext Z;refine z0i U D U z9o (lnS U underlying102 (mv U (nn (bl (lpK (ι:=Nat) [(0,_),(3,_),(40,_),(41,_)] (λi=>[(42,.int .i64 (i:Int))]) (λi w'=>Fr [] w2 w'/\i<=q.pas.length) (λi=>q.pas.length-i) 0 (.c5 U U U U U) ⟨Fr.refl _ _,Nat.zero_le _⟩ ?_)))));rintro i w6 ⟨q6,hi⟩;have z6:=q6.size;refine kpC [(0,_),(3,_),(40,_),(41,_),(42,_)] (.c5 U U U U U) (sr (lt' U (nn (sq (cd U (λc4=>?_) (λc4=>?_))))));have e0:(q.pas.getD i pa0).d=0\/(q.pas.getD i pa0).d=1:=b3 _ (z1a oo);have d0:=a8 i oo;refine sk (tn (sq (bl (sr ?_))));replace O:=a1.ext (q1.n2 Z q6);refine z1d (pa0) U O.2 U z4h z1j (λb5 a6=>?_);refine z1q U (a6 _ O.2) z8f (al y7i U (λg8 w7 c9 M q7 z7=>(z0j (vs:=[_,_,_,_]) U M x1x (λw8 M q8 z8=>(nn (sq (v4l (r:=60) (L':=[(0,_),(3,_),(40,_),(41,_),(42,_)]) (((¬z4k (z2g ts) (q.pas.getD i pa0).id)\/(((q.pas.getD i pa0).d≠0)/\((q.pas.getD i pa0).d≠1)))) (.c5 U U U U U) ?_ ?_)))))));refine mv U (fad U x2e (z1v (vs:=[_,_]) U M z2q U ?_));replace hs:=b0.ext (q1.z4 Z q6 q7 q8);replace hk:=a7.ext (q1.z4 Z q6 q7 q8);refine cl (ev2 U) (mkC func242) (v4f (q.pas.getD i pa0).id _ _ _ hs hk oo (by have h:=a8 i oo;have:=h.1;have:=h.2.1;omega)) U ?_;rintro _ w9 ⟨rfl,q9⟩;have z9:=q9.size;refine nt' U (mv U (gs 51 U (λg2=>?_) (λg2=>?_)));exact gN U (gN U (gN U (gN U (gS U (gS U (gS U (gN U (pkt U (y2n U (.c5 U U U U U) q9)))))))));refine gY U (fad U z7m (gY U ?_));replace M:=M.ext q9;refine z0i U M U y9j (gY U (ne' U (gY U (mv U (gs 55 U (λg3=>?_) (λg3=>?_))))));exact gY U (fad U z7m (gY U (z0i U M U y9j (gY U (ne' U (gY U (pkt U (pkf U (y2n U (.c5 U U U U U) q9)))))))));exact gN U (gN U (gN U (gY U (pkf U (pkf U (y2n U (.c5 U U U U U) q9))))));intro e1 b1;have e3:=b1.size;refine tn (cd U (λc5=>?_) (λc5=>?_));refine sr (asg U (kpL [(4,_)] (.cons U .nil) (nn (rt (rb (tr (tr (rb (tr (r1 results227 U ?_))))))))));exact(by exfalso;first|omega|(simp_all;done)|(simp_all;omega));exact sk (bn' (tn (rg (z0x U (wi6 oo) (mv U (nl (lpE (i+1) (.c5 U U U U U) ⟨(q6.z3 q7 q8 b1),oo⟩ oo)))))));obtain rfl:i=q.pas.length:=by omega
 refine ex (te (te (xh (tn (sq ?_)))));replace O:=a1.ext (q1.n2 Z q6);intro a h;refine z0h none (λwb w'=>Fr [] wb w') z2o ?_;intro b2 a0;have e4:=a0.size;replace O:=O.ext a0;replace D:=D.ext (q6.n1 a0);have hC:Fr [] b2 b2:=Fr.refl _ _;have a4:=O;have I:=D;refine z0c 0 h U z9a U λa h=>z0l 1 h U (λ_ hw=>I.ext hw) U z9o U λa h=>z0c 4 h U z9a U λa h=>z0l 5 h U (λ_ hw=>I.ext hw) U z9o U λa h=>z7s 6 hC h wn U underlying102 U λa h=>z0d 2 U (z0n h (z0a U z0g) (mkC func243) (v2s _ q.pas _ O.2 oo) ?_);rintro _ e2 ⟨b6,rfl,a3⟩ a h;have e5:=a3.size;replace hC:=hC.next a3;refine z0b (z7s 3 hC h wn U underlying102 U λa h=>x1u 7 hC h wn U λa h=>z0d 8 U (z0t h U λa h=>?_));refine z0b (z0r ?_);clear hC a4 I;refine bk (h.sub (L':=[(4,_)]) (.cons U .nil)) (tn (rt (r1 results227 U ?_)));exact⟨_,rfl,congrArg Value.bool (decide_eq_true oo),(q1.n4 Z q6 a0 a3)⟩
theorem x0j:z3p prog 155 4:=⟨λ_=>kr,λ_=>kr⟩
theorem y5a:ElemOf prog 123 155 z6j 56:=ElemOf.mk' (z:=(.agg #[.int .u8 0,.bool false,.slice none 0 0,.slice none 0 0])) underlying123 kr U
theorem u5g:z1c prog 155 1 1:=λ_ _=>kr
theorem x7u:z1t prog 155 4:=λ_=>kr
theorem x3d (w:World):(zeroValue 155).run prog w=.ok (.agg #[(.int .u8 0),(.bool false),(.slice none 0 0),(.slice none 0 0)]) w:=kr
theorem v3t (v:Value)(ts:List TQ)(w0:World)(Z:Sl z3z w0 v ts)(I:TabAt w0 ts)(hl:ts.length=6)(hv:TabOk (z2g ts)):Rets prog 200 #[v] w0 λr w'=>r=.int .i64 0/\Fr [] w0 w':=by
 obtain⟨A,c,rfl,a8,hM,hA⟩:=id Z;clear hA;unfold maxLen at hM;have a5:=z5a I;refine we [(0,.slice A ts.length c)] func200 U ntmps200 U (.cons U .nil) ?_;have a2:=Z;have O:=I;refine sr (asg U (nn (sq (sr (mv U (lnS U underlying28 (mv U (nn (bl (lpK (ι:=Nat) [(0,_),(7,_),(8,_)] (λy=>[(9,.int .i64 (y:Int))]) (λy w'=>Fr [] w0 w'/\y<=ts.length) (λy=>ts.length-y) 0 (.c4 U U U U) ⟨Fr.refl _ _,Nat.zero_le _⟩ ?_))))))))));rintro y w1 ⟨M,hy⟩;have z1:=M.size;refine kpC [(0,_),(7,_),(8,_),(9,_)] (.c4 U U U U) (sr (lt' U (nn (sq (cd U (λc0=>?_) (λc0=>?_))))));replace I:=O.ext M;have b0:=a5 y;have a3:=(I _ (z1a (d:=tq0) (i:=y) oo)).1.len_le;unfold maxLen at a3;refine sk (tn (sq (bl (sr ?_))));replace Z:=a2.ext M;refine z1d (tq0) U Z U y9c z1j (λa6 a0=>?_);refine z1k U (a0 _ Z) y0q (asg U (nn (sr (mv U (lnS U underlying123 (mv U (nn (bl (lpK (ι:=Nat) [(0,_),(7,_),(8,_),(9,_),(13,_),(14,_)] (λn=>[(15,.int .i64 (n:Int))]) (λn w'=>Fr [] w1 w'/\n<=(ts.getD y tq0).2.length) (λn=>(ts.getD y tq0).2.length-n) 0 (.c7 U U U U U U U) ⟨Fr.refl _ _,Nat.zero_le _⟩ ?_)))))))));rintro n w2 ⟨q2,hn⟩;have z2:=q2.size;refine kpC [(0,_),(7,_),(8,_),(9,_),(13,_),(14,_),(15,_)] (.c7 U U U U U U U) (sr (lt' U (nn (sq (cd U (λc1=>?_) (λc1=>?_))))));have a4:n=0->((ts.getD y tq0).2.getD n lq0).nw=true:=λe=>by
  have h:=(hv.rts y oo n (by rw[z3k];omega)).2 e;rw[y1p]at h;exact h
 refine sk (tn (sq (bl (sr (mv U ?_)))));replace I:=O.ext (M.n1 q2);refine z1d (lq0) U (I _ (z1a (d:=tq0) (i:=y) oo)).1 U y5a z1j (λa7 a1=>?_);refine z1q U (a1 _ (I _ (z1a (d:=tq0) (i:=y) oo)).1) x0j (al x3d U (λg6 w3 a9 D q3 z3=>?_));refine asg U (z0j (vs:=[_,_,_,_]) U D x7u (λw4 D q4 z4=>?_) (h1:=(by first|(simp[Value.oneCell',S];done)|exact z6j.one ((ts.getD y tq0).2.getD n lq0))));refine nn (sq (v4l (r:=32) (L':=[(0,_),(7,_),(8,_),(9,_),(13,_),(14,_),(15,_)]) (((¬(0:Int)=0)\/(((n:Int)=0)/\(¬((ts.getD y tq0).2.getD n lq0).nw=true)))) (.c7 U U U U U U U) ?_ ?_));refine mv U (z0m U D x0j ?_);replace Z:=a2.ext (M.z3 q2 q3 q4);replace I:=O.ext (M.z3 q2 q3 q4);refine cl (ev2 U) (mkC func227) (v7p ((ts.getD y tq0).2.getD n lq0) _ _ _ Z I hl (z8e I oo oo) (by have h:=(hv.rts y oo n (by rw[z3k];omega)).1;rw[y1p]at h;exact h)) U ?_;rintro _ w5 ⟨rfl,q5⟩;have z5:=q5.size;refine nt' U (mv U (gs 24 U (λg0=>?_) (λg0=>?_)));exact gN U (gN U (gN U (gS U (gS U (gS U (gN U (pkt U (y2n U (.c7 U U U U U U U) q5))))))));refine gY U (mv U (gY U (eq' U (gY U (mv U (gs 27 U (λg1=>?_) (λg1=>?_)))))));refine gY U (fad U u5g (gY U ?_));replace D:=D.ext q5;exact z0i U D U na4 (gY U (nt' U (gY U (pkt U (pkf U (y2n U (.c7 U U U U U U U) q5))))));exact gN U (gN U (gN U (gY U (pkf U (pkf U (y2n U (.c7 U U U U U U U) q5))))));intro w6 q6;have z6:=q6.size;refine tn (cd U (λc2=>?_) (λc2=>?_));refine sr (asg U (kpL [(2,_)] (.cons U .nil) (nn (rt (rb (tr (tr (rb (rb (tr (tr (rb (tr (r1 results200 U ?_))))))))))))));rcases c2 with h|h
 exact absurd U h;exact absurd (a4 oo) h.2;exact sk (bn' (tn (rg (z0x U (wi6 oo) (mv U (nl (lpE (n+1) (.c7 U U U U U U U) ⟨(q2.z3 q3 q4 q6),oo⟩ oo)))))));obtain rfl:n=(ts.getD y tq0).2.length:=by omega
 exact ex (te (te (xh (bn' (tn (rg (z0x U (wi6 oo) (mv U (nl (lpE (y+1) (.c4 U U U U) ⟨(M.n1 q2),oo⟩ oo))))))))));obtain rfl:y=ts.length:=by omega
 exact ex (te (te (xh (tn (sr (asg U (nn (rt (r1 results200 U ⟨_,rfl,rfl,M⟩)))))))))
theorem j2s (p q:LId)(w:World):(Op.equal 64 (idV p) (idV q)).run prog w=.ok (decide (p=q)) w:=by
 have h:=(j1s p q (.tmp 0) (.tmp 0) w).2.2.1;have e:(binOp .eql 64 (idV p) (idV q)).run prog w=((Op.equal 64 (idV p) (idV q)).run prog w).andThen λb w'=>.ok (.bool b) w':=by
  have D:binOp .eql 64 (idV p) (idV q)=(Op.equal 64 (idV p) (idV q) >>= λb=>pure (.bool b)):=by
   unfold binOp idV;simp only
  rw[D];simp only[Sem.run_bind,Sem.run_pure]
 rw[e]at h;generalize (Op.equal 64 (idV p) (idV q)).run prog w=r at h;cases r with
 | ok b w'=>simp only[Result.andThen]at h;cases h;rfl
 | halt x w'=>simp only[Result.andThen]at h;cases h
theorem z5x:KeyLaw prog 64 idV:=KeyLaw.asking underlying64 (λ_ _=>rfl) (λ_ _ _=>kr) j2s (λ_=>by simp[idV,Instr.sameBits])
theorem zvI (w:World):(zeroValue 3).run prog w=.ok (.int .i64 0) w:=kr
theorem u2j (v:Value)(ts:List TQ)(w0:World)(hs:Sl z3z w0 v ts)(O:TabAt w0 ts)(hl:ts.length=6)(hv:TabV (z2g ts)):Rets prog 201 #[v] w0 λr w'=>r=.int .i64 0/\Fr [] w0 w':=by
 obtain⟨A,c,rfl,d5,hM,hA⟩:=id hs;clear hA;unfold maxLen at hM;have b4:=z5a O;refine we [(0,.slice A ts.length c)] func201 U ntmps201 U (.cons U .nil) ?_;have b5:=hs;have a2:=O;refine sr (asg U (nn (sr (y6j idV (.int .i64 0) U (λM w1 d0 D q1 z1=>(asg U (nn (sq (sr (mv U (lnS U underlying28 (mv U (nn (bl (lpK (ι:=Nat) [(3,_),(11,_),(12,_)] (λy=>[(13,.int .i64 (y:Int))]) (λy w'=>Fr [M] w1 w'/\y<=ts.length/\MapZ idV w' M (.int .i64 0) (y7p (z9n (z2g ts) y 0))) (λy=>ts.length-y) 0 (.c4 U U U U) ⟨Fr.refl _ _,⟨Nat.zero_le _,D⟩⟩ ?_)))))))))))))));rintro y w2 ⟨q2,⟨hy,D⟩⟩;have z2:=q2.size;refine kpC [(3,_),(11,_),(12,_),(13,_)] (.c4 U U U U) (sr (lt' U (nn (sq (cd U (λc0=>?_) (λc0=>?_))))));replace O:=a2.ext (q1.z1 q2);have e0:=b4 y;have b0:=(O _ (z1a (d:=tq0) (i:=y) oo)).1.len_le;unfold maxLen at b0;refine sk (tn (sq (bl (sr ?_))));replace hs:=b5.ext (q1.z1 q2);refine z1d (tq0) U hs U y9c z1j (λb8 a7=>?_);refine z1k U (a7 _ hs) y0q (asg U (nn (sr (mv U (lnS U underlying123 (mv U (nn (bl (lpK (ι:=Nat) [(3,_),(11,_),(12,_),(13,_),(17,_),(18,_)] (λn=>[(19,.int .i64 (n:Int))]) (λn w'=>Fr [M] w2 w'/\n<=(ts.getD y tq0).2.length/\MapZ idV w' M (.int .i64 0) (y7p (z9n (z2g ts) y n))) (λn=>(ts.getD y tq0).2.length-n) 0 (.c7 U U U U U U U) ⟨Fr.refl _ _,⟨Nat.zero_le _,D⟩⟩ ?_)))))))));rintro n w3 ⟨q3,⟨hn,D⟩⟩;have z3:=q3.size;refine kpC [(3,_),(11,_),(12,_),(13,_),(17,_),(18,_),(19,_)] (.c7 U U U U U U U) (sr (lt' U (nn (sq (cd U (λc1=>?_) (λc1=>?_))))));replace O:=a2.ext (q1.z2 q2 q3);have d9:=z2e (z8e O (y:=y) (n:=n) oo oo).1;have b1:=(z8e O (y:=y) (n:=n) oo oo).1.len_le;unfold maxLen at b1;refine sk (tn (sq (bl (sr (z1d (lq0) U (O _ (z1a (d:=tq0) (i:=y) oo)).1 U y5a z1j (λb9 a8=>?_))))));refine z1q U (a8 _ (O _ (z1a (d:=tq0) (i:=y) oo)).1) x0j (al x3d U (λg7 w4 d6 a1 q4 z4=>?_));refine z0j (vs:=[_,_,_,_]) U a1 x7u (λw5 a1 q5 z5=>?_) (h1:=(by first|(simp[Value.oneCell',S];done)|exact z6j.one ((ts.getD y tq0).2.getD n lq0)));refine nn (sr (fad U z6q (z0i U a1 U z6h (lnS U underlying30 (mv U (nn (bl ?_)))))));replace D:=(D.ext q4).fr q5 (by intro k O hb;simp at O hb;omega);refine lpK (ι:=Nat) [(3,_),(11,_),(12,_),(13,_),(17,_),(18,_),(19,_),(24,_),(25,_)] (λk=>[(26,.int .i64 (k:Int))]) (λk w'=>Fr [M] w5 w'/\k<=((ts.getD y tq0).2.getD n lq0).ths.length/\MapZ idV w' M (.int .i64 0) (y7p (z9n (z2g ts) y n++((ts.getD y tq0).2.getD n lq0).ths.take k))) (λk=>((ts.getD y tq0).2.getD n lq0).ths.length-k) 0 (.d8 U U U U U U U U (.c2 U U)) ⟨Fr.refl _ _,⟨Nat.zero_le _,by rw[List.take_zero,List.append_nil];exact D⟩⟩ ?_;rintro k w6 ⟨q6,⟨O,D⟩⟩;have z6:=q6.size;refine kpC [(3,_),(11,_),(12,_),(13,_),(17,_),(18,_),(19,_),(24,_),(25,_),(26,_)] (.d8 U U U U U U U U (.c2 U U)) (sr (lt' U (nn (sq (cd U (λc2=>?_) (λc2=>?_))))));have b2:=x5d (k:=k) hv.thr (y:=y) (n:=n) oo oo oo;have d4:((z9n (z2g ts) y n++((ts.getD y tq0).2.getD n lq0).ths.take k)).count (((ts.getD y tq0).2.getD n lq0).ths.getD k id0)=0:=by
  have h:=b2;rw[List.count_append,List.count_singleton,if_pos sp0]at h;omega
 refine sk (tn (sq (bl (sr ?_))));replace O:=a2.ext (q1.z5 q2 q3 q4 q5 q6);refine z1d (id0) U (z8e O (y:=y) (n:=n) oo oo).1 U z3x z1j (λc9 a9=>?_);refine z1q U (a9 _ (z8e O (y:=y) (n:=n) oo oo).1) z2q (al z7r U (λg9 w7 d7 I q7 z7=>?_));refine z0j (vs:=[_,_]) U I z5y (λw8 I q8 z8=>?_) (h1:=(by first|(simp[Value.oneCell',S];done)|exact z6j.one ((ts.getD y tq0).2.getD n lq0)));refine nn (sq ?_);replace D:=(D.ext q7).fr q8 (by intro k O hb;simp at O hb;omega);intro a h;refine z0h none (λwb w'=>Fr [M] wb w') z2o ?_;intro w9 q9;have z9:=q9.size;replace D:=D.ext q9;replace I:=I.ext q9;have hC:Fr [M] w9 w9:=Fr.refl _ _;have a0:=D;have Z:=I;refine z0e 0 h U λa h=>z0w 1 h U (λ_ hw=>Z.fr hw (by intro e;simp at e;omega)) z2q U λa h=>z1u 2 4 kr U ?_ ?_;refine z7h (V:=idV) (z:=(.int .i64 0)) (k:=(((ts.getD y tq0).2.getD n lq0).ths.getD k id0)) (v:=.int .i64 ((((z9n (z2g ts) y n++((ts.getD y tq0).2.getD n lq0).ths.take k)).count (((ts.getD y tq0).2.getD n lq0).ths.getD k id0):Nat):Int)) h U U D z5x underlying240 zvI U U λa h=>z0b (z5n 3 h U (by first|exact i6 oo|rfl) U λa h=>z0d 4 U ?_);have b3:=D.ne_blk I;refine z6n (V:=idV) (z:=(.int .i64 0)) (k:=(((ts.getD y tq0).2.getD n lq0).ths.getD k id0)) h U U D z5x underlying240 zvI U λe1 d1 he a3 e3 a h=>?_;replace D:=he.map;replace I:=I.fr a3 (by intro e;simp at e;omega);replace hC:=hC.step a3 sp0;refine z0b (z0k 5 h U λa h=>z0d 6 U (z5f (V:=idV) (z:=(.int .i64 0)) (k:=(((ts.getD y tq0).2.getD n lq0).ths.getD k id0)) h U U U he ?_));clear h a he D;intro b6 D a4 e4 a h;replace D:MapZ idV b6 M (.int .i64 0) (y7p ((z9n (z2g ts) y n++((ts.getD y tq0).2.getD n lq0).ths.take k)++[(((ts.getD y tq0).2.getD n lq0).ths.getD k id0)])):=by rw[<-y9e];exact D
 replace I:=I.fr a4 (by intro e;simp at e;omega);replace hC:=hC.step a4 sp0;refine z0b (z0r ?_);clear hC a0 Z;refine bk (h.sub (L':=[(3,_),(9,_),(11,_),(12,_),(13,_),(17,_),(18,_),(19,_),(24,_),(25,_),(26,_)]) (.d8 U U U U U U U U (.c3 U U U))) (tn (sr (mv U (z0m U I z2q (y3v (V:=idV) (z:=(.int .i64 0)) (k:=(((ts.getD y tq0).2.getD n lq0).ths.getD k id0)) (v:=.int .i64 ((((z9n (z2g ts) y n++((ts.getD y tq0).2.getD n lq0).ths.take k)++[(((ts.getD y tq0).2.getD n lq0).ths.getD k id0)]).count (((ts.getD y tq0).2.getD n lq0).ths.getD k id0):Nat):Int)) U U D z5x underlying240 zvI U U (gt' U (nn (cd U (λc3=>?_) (λc3=>?_)))))))));refine sr (asg U (kpL [(2,_)] (.cons U .nil) (nn (rt (rb (tr (tr (rb (rb (tr (tr (rb (rb (tr (tr (rb (tr (r1 results201 U ?_))))))))))))))))));exfalso;omega;exact sk (bn' (tn (rg (z0x U (wi6 oo) (mv U (nl (lpE (k+1) (.d8 U U U U U U U U (.c2 U U)) ⟨((Fr.refl [M] _).z6 q6 q7 q8 q9 a3 a4),⟨oo,by rw[z8t id0 oo,<-List.append_assoc];exact D⟩⟩ oo)))))));have b3:=D.ne_blk I;refine z6n (V:=idV) (z:=(.int .i64 0)) (k:=(((ts.getD y tq0).2.getD n lq0).ths.getD k id0)) h U U D z5x underlying240 zvI U λe2 d3 he a5 e5 a h=>?_;replace D:=he.map;replace I:=I.fr a5 (by intro e;simp at e;omega);replace hC:=hC.step a5 sp0;refine z0b (z0k 5 h U λa h=>z0d 2 U (z7h (V:=idV) (z:=(.int .i64 0)) (k:=(((ts.getD y tq0).2.getD n lq0).ths.getD k id0)) (v:=.int .i64 ((((z9n (z2g ts) y n++((ts.getD y tq0).2.getD n lq0).ths.take k)).count (((ts.getD y tq0).2.getD n lq0).ths.getD k id0):Nat):Int)) h U U D z5x underlying240 zvI U U λa h=>?_));refine z0b (z5n 3 h U (by first|exact i6 oo|rfl) U λa h=>z0d 6 U (z5f (V:=idV) (z:=(.int .i64 0)) (k:=(((ts.getD y tq0).2.getD n lq0).ths.getD k id0)) h U U U he ?_));clear h a he D;intro b7 D a6 e6 a h;replace D:MapZ idV b7 M (.int .i64 0) (y7p ((z9n (z2g ts) y n++((ts.getD y tq0).2.getD n lq0).ths.take k)++[(((ts.getD y tq0).2.getD n lq0).ths.getD k id0)])):=by rw[<-y9e];exact D
 replace I:=I.fr a6 (by intro e;simp at e;omega);replace hC:=hC.step a6 sp0;refine z0b (z0r ?_);clear hC a0 Z;refine bk (h.sub (L':=[(3,_),(9,_),(11,_),(12,_),(13,_),(17,_),(18,_),(19,_),(24,_),(25,_),(26,_)]) (.d8 U U U U U U U U (.c3 U U U))) (tn (sr (mv U (z0m U I z2q (y3v (V:=idV) (z:=(.int .i64 0)) (k:=(((ts.getD y tq0).2.getD n lq0).ths.getD k id0)) (v:=.int .i64 ((((z9n (z2g ts) y n++((ts.getD y tq0).2.getD n lq0).ths.take k)++[(((ts.getD y tq0).2.getD n lq0).ths.getD k id0)]).count (((ts.getD y tq0).2.getD n lq0).ths.getD k id0):Nat):Int)) U U D z5x underlying240 zvI U U (gt' U (nn (cd U (λc3=>?_) (λc3=>?_)))))))));refine sr (asg U (kpL [(2,_)] (.cons U .nil) (nn (rt (rb (tr (tr (rb (rb (tr (tr (rb (rb (tr (tr (rb (tr (r1 results201 U ?_))))))))))))))))));exfalso;omega;exact sk (bn' (tn (rg (z0x U (wi6 oo) (mv U (nl (lpE (k+1) (.d8 U U U U U U U U (.c2 U U)) ⟨((Fr.refl [M] _).z6 q6 q7 q8 q9 a5 a6),⟨oo,by rw[z8t id0 oo,<-List.append_assoc];exact D⟩⟩ oo)))))));obtain rfl:k=((ts.getD y tq0).2.getD n lq0).ths.length:=by omega
 rw[List.take_length]at D;exact ex (te (te (xh (bn' (tn (rg (z0x U (wi6 oo) (mv U (nl (lpE (n+1) (.c7 U U U U U U U) ⟨((Fr.refl [M] _).z4 q3 q4 q5 q6),⟨oo,by rw[y5w oo];exact D⟩⟩ oo))))))))));obtain rfl:n=(ts.getD y tq0).2.length:=by omega
 exact ex (te (te (xh (bn' (tn (rg (z0x U (wi6 oo) (mv U (nl (lpE (y+1) (.c4 U U U U) ⟨((Fr.refl [M] _).z2 q2 q3),⟨oo,by rw[y6r oo];exact D⟩⟩ oo))))))))));obtain rfl:y=ts.length:=by omega
 exact ex (te (te (xh (tn (sr (asg U (nn (rt (r1 results201 U ⟨_,rfl,rfl,(q1.z1 q2)⟩)))))))))
theorem v2z (q:LpQ)(n:Int)(w0:World)(M:LpAt w0 q)(h0:0<=n)(hn:n.toNat<(z4o q.p).length)(hb:q.ths.length<=4/\q.pas.length<=4096):Rets prog 228 #[.agg #[.int .u8 q.b,.bool q.nw,.slice q.th.1 q.th.2.1 q.th.2.2,.slice q.pa.1 q.pa.2.1 q.pa.2.2],.int .i64 n] w0 λr w'=>r=.agg #[.int .u8 ((z4o q.p).getD n.toNat id0).y,.int .i64 ((z4o q.p).getD n.toNat id0).n]/\Fr [] w0 w':=by
 have a6:=z2e M.1;have a7:=z2e M.2;have a1:=M.1.len_le;unfold maxLen at a1;have a8:=x5c q;refine we [(0,.agg #[.int .u8 q.b,.bool q.nw,.slice q.th.1 q.th.2.1 q.th.2.2,.slice q.pa.1 q.pa.2.1 q.pa.2.2]),(1,.int .i64 n)] func228 U ntmps228 U (.c2 U U) ?_;have O:=M;refine sr (bx U (λg2 w1 a4 D q1 z1=>(al z7r U (λg4 w2 a5 I q2 z2=>(nn (sq (sr (mv U (fad U z6q ?_)))))))));replace D:=D.ext q2;refine z0i U D U z6h (lnS U underlying30 (lt' U (nn (cd U (λc0=>?_) (λc0=>?_)))));refine sr (fad U z6q (z0i U D U z6h (mv U ?_)));replace M:=O.ext (q1.n1 q2);refine z1d (p:=n.toNat) (id0) U M.1 U z3x oo (λa2 Z=>?_);refine z1q U (Z _ M.1) z2q (z0j (vs:=[_,_]) U I z5y (λw3 I q3 z3=>?_) (h1:=(by first|(simp[Value.oneCell',S];done)|exact z1b.one _)));exact kpL [(4,_)] (.cons U .nil) (nn (rt (tr (rC results228 U I z2q  ⟨_,rfl,by rw[u3h oo],(q1.z2 q2 q3)⟩))));refine sk (tn (sr (fad U z9a (z0i U D U z9o (mv U (fad U z6q (z0i U D U z6h (lnS U underlying30 (z2w U (wi6 oo) ?_)))))))));replace M:=O.ext (q1.n1 q2);refine z1d (p:=(n.toNat-q.ths.length)) (pa0) U M.2 U z4h oo (λa3 a0=>?_);refine fad U x2e (z1q U (x8g (vs:=[_,_]) (a0 _ M.2) U) z2q (z0j (vs:=[_,_]) U I z5y (λw4 I q4 z4=>?_) (h1:=(by first|(simp[Value.oneCell',S];done)|exact z1b.one _))));exact kpL [(4,_)] (.cons U .nil) (nn (rt (rC results228 U I z2q  ⟨_,rfl,by rw[u1y oo hn],(q1.z2 q2 q4)⟩)))
theorem j1x:BuildAt prog 64 [(0,1),(1,1)] [(.int .u8 0),(.int .i64 0)]:=BuildAt.struct underlying64 (λ_=>kr) (λ_=>kr)
theorem z9t:ElemOf prog 22 3 Enc.i64 8:=ElemOf.mk' (z:=(.int .i64 0)) underlying22 kr U
theorem zv3 (w:World):(zeroValue 3).run prog w=.ok (.int .i64 0) w:=kr
theorem x4n {α β:Type}{E:Enc α}{M:Enc β}{T T' b O:Nat}{w:World}{v I:Value}{l:List α}{l':List β}(h:Lw.Own E T b w v l)(Z:Lw.Own M T' O w I l')(hT:T'≠T):∀k∈z0v v,k∉z0v I:=λk hk D=>by
 obtain⟨cs,hb⟩:=z9b h k hk
 exact Z.neB hb hT D
theorem v6q (v:Value)(ts:List TQ)(w0:World)(hs:Sl z3z w0 v ts)(D:TabAt w0 ts)(hl:ts.length=6)(hv:TabV (z2g ts)):Rets prog 202 #[v] w0 λr w'=>∃l,Lw.Own z1b 64 w0.heap.size w' r l/\l.length=z5p (z2g ts)/\Fr [] w0 w':=by
 obtain⟨A,c,rfl,l5,hM,hA⟩:=id hs;clear hA;unfold maxLen at hM;have i1:=z5a D;have hH:=hv.has;have l6:z5p (z2g ts)<=2048:=hv.ok.cnt;have g8:=y0e ts;refine we [(0,.slice A ts.length c)] func202 U ntmps202 U (.cons U .nil) ?_;have i2:=hs;have g6:=D;refine sr (asg U (nn (sr (mv U (cl (ev1 U) (mkC func168) (y3e _ _ _ hs D oo) U ?_)))));rintro _ w1 ⟨rfl,q1⟩;have z1:=q1.size;refine asg U (nn (sr (mv U (z1h (m:=0) (c:=z5p (z2g ts)) (id0) U z3x z7r U (λk8 w2 j8 hR q2 z2=>(asg U (nn (sr (mv U (lnS U underlying28 (z1h (m:=ts.length) (c:=ts.length) ((0:Int)) U z9t zv3 U (λa3 w3 j9 hM q3 z3=>(asg U (nn (sr (mv U (lnS U underlying28 (z1h (m:=ts.length) (c:=ts.length) ((0:Int)) U z9t zv3 U (λa0 w4 k0 O q4 z4=>?_)))))))))))))))))));refine asg U (nn (sq (bl ?_)));replace hR:=hR.ext (q3.n1 q4);replace hM:=hM.ext q4;refine lpK (ι:=Value×List Int×List Int×List LId) [(0,_),(3,_),(5,_),(6,_)] (λp=>[(4,p.1)]) (λp w'=>Fr [] w0 w'/\FstI (z2g ts) p.2.1 p.2.2.1 p.2.2.2.length/\Lw.Own z1b 64 w0.heap.size w' p.1 p.2.2.2/\Lw.Own Enc.i64 3 w0.heap.size w' (.slice (some ⟨a3,0,none⟩) ts.length ts.length) p.2.1/\Lw.Own Enc.i64 3 w0.heap.size w' (.slice (some ⟨a0,0,none⟩) ts.length ts.length) p.2.2.1) (λp=>z5p (z2g ts)-p.2.2.2.length) (_,List.replicate ts.length 0,List.replicate ts.length 0,[]) (.c5 U U U U U) ⟨(q1.n3 q2 q3 q4),⟨by simp only;rw[hl];exact FstI.init,by simpa using hR.low oo,hM.low oo,O.low oo⟩⟩ ?_;rintro⟨vR,ms,uu,l⟩ w5 ⟨q5,⟨hF,hR,hM,O⟩⟩;simp only at hF hR hM O;have z5:=q5.size;refine kpC [(0,_),(3,_),(5,_),(6,_),(4,vR)] (.c5 U U U U U) ?_;have a8:a3∉z0v vR:=λh=>x4n hR hM dd a3 h (List.mem_singleton.2 U);have a9:a0∉z0v vR:=λh=>x4n hR O dd a0 h (List.mem_singleton.2 U);have l0:=(hM.blk a3 (List.mem_singleton.2 U)).2;have l1:=(O.blk a0 (List.mem_singleton.2 U)).2;obtain⟨AR,cR,rfl,l4⟩:=hR.sl.form;refine sq (sr (mv U (lnS U underlying30 (mv U (lt' U (nn (cd U (λc0=>?_) (λc0=>?_))))))));refine sk (tn (bl (sc (sr (mv U (lnS U underlying30 (asg U (nn (sq (lb (tn (sq (sr (mv U (lnS U underlying28 (mv U (nn (bl (lpK (ι:=Nat×List Int) [(0,_),(3,_),(4,_),(5,_),(6,_),(7,_),(28,_),(29,_)] (λp=>[(30,.int .i64 (p.1:Int))]) (λp w'=>Fr [a0] w5 w'/\p.1<=6/\FstI (z2g ts) ms p.2 l.length/\(∀z,z<p.1->x9k (z2g ts) ms z)/\Lw.Own Enc.i64 3 w0.heap.size w' (.slice (some ⟨a0,0,none⟩) ts.length ts.length) p.2) (λp=>6-p.1) (0,uu) (.d8 U U U U U U U U (.cons U .nil)) ⟨Fr.refl _ _,⟨Nat.zero_le _,hF,λz h=>absurd h sp0,O⟩⟩ ?_)))))))))))))))))));rintro⟨y,vs⟩ w6 ⟨q6,⟨hy,hF,e3,O⟩⟩;simp only at hy hF e3 O;have z6:=q6.size;refine kpC [(0,_),(3,_),(4,_),(5,_),(6,_),(7,_),(28,_),(29,_),(30,.int .i64 (y:Int))] (.d8 U U U U U U U U (.cons U .nil)) (sr (lt' U (nn (sq (cd U (λc1=>?_) (λc1=>?_))))));replace D:=g6.ext (q5.z1 q6);have a5:y<6:=by omega
 have l8:=i1 y;have g7:=hF.lm;have h9:=hF.mb y a5;have h7:=(D _ (z1a (d:=tq0) (i:=y) oo)).1.len_le;unfold maxLen at h7;refine sk (tn (sq (bl (sr (mv U ?_)))));replace hs:=i2.ext (q5.z1 q6);refine z1d (tq0) U hs U y9c z1j (λi9 f5=>?_);refine z1k U (f5 _ hs) y0q (asg U (asg U (nn (sq (sr (mv U (mv U ?_)))))));replace hM:=hM.fr q6 (by intro k D I;have D:=List.mem_singleton.1 D;have I:=List.mem_singleton.1 (show k∈[a3] from I);omega);refine z1d (0) U hM.sl U z9t z1j (λj0 f6=>?_);refine z1k U (f6 _ hM.sl) na3 (mv U (lnS U underlying123 (eq' U (kpL [(0,_),(3,_),(4,_),(5,_),(6,_),(7,_),(8,_),(9,_),(28,_),(29,_),(30,_),(41,_)] (.d8 U U U U U U U U (.c4 U U U U)) (nn (cd U (λc2=>?_) (λc2=>?_)))))));have e2:x9k (z2g ts) ms y:=.inl (by rw[z3k];omega);refine ex (te (xh (tn (rg (z0x U (wi6 oo) (mv U (nl ?_)))))));exact lpE ((y+1,_)) (.d8 U U U U U U U U (.cons U .nil)) ⟨((Fr.refl [a0] _).z1 q6),⟨sm,hF,λz h=>(by
  by_cases e:z<y;exact e3 z e;obtain rfl:z=y:=by simp only at h;omega
  exact e2),O⟩⟩ sm
 have d7:ms.getD y 0<(z3h (z2g ts) y:Int):=by rw[z3k];rw[z3k]at h9;omega
 have b3:(ms.getD y 0).toNat<(ts.getD y tq0).2.length:=by rw[z3k]at d7;omega
 have e0:nd (z2g ts) y (ms.getD y 0)=z4o ((ts.getD y tq0).2.getD (ms.getD y 0).toNat lq0).p:=by unfold nd;rw[y1p]
 have g9:=x5c ((ts.getD y tq0).2.getD (ms.getD y 0).toNat lq0);have b4:=(hv.ok.rts y a5 _ (by rw[z3k];exact b3)).1;rw[y1p]at b4;have k4:=z2e (z8e D (y:=y) (n:=(ms.getD y 0).toNat) oo b3).1;have k5:=z2e (z8e D (y:=y) (n:=(ms.getD y 0).toNat) oo b3).2;have l2:((ts.getD y tq0).2.getD (ms.getD y 0).toNat lq0).ths.length<=4:=b4.2.1.1;have l3:((ts.getD y tq0).2.getD (ms.getD y 0).toNat lq0).pas.length<=4096:=b4.2.1.2;refine sk (tn (sr (mv U (mv U (mv U (z1d (0) U hM.sl U z9t z1j (λj1 f7=>?_)))))));refine z1k U (f7 _ hM.sl) na3 (z1d (lq0) U (D _ (z1a (d:=tq0) (i:=y) oo)).1 U y5a z1j (λj2 f8=>?_));refine z1q U (f8 _ (D _ (z1a (d:=tq0) (i:=y) oo)).1) x0j (al x3d U (λf4 w7 j7 M q7 z7=>?_));refine z0j (vs:=[_,_,_,_]) U M x7u (λw8 M q8 z8=>?_) (h1:=(by first|(simp[Value.oneCell',S];done)|exact z6j.one ((ts.getD y tq0).2.getD (ms.getD y 0).toNat lq0)|exact z1b.one ((z4o ((ts.getD y tq0).2.getD (ms.getD y 0).toNat lq0).p).getD (xs.getD y 0).toNat id0)));refine kpL [(0,_),(3,_),(4,_),(5,_),(6,_),(7,_),(8,_),(10,_),(28,_),(29,_),(30,_)] (.d8 U U U U U U U U (.c3 U U U)) (nn (sq (bl ?_)));replace O:=(O.ext q7).fr q8 (by intro k D I;have D:=List.mem_singleton.1 D;have I:=List.mem_singleton.1 (show k∈[a0] from I);omega);refine lpK (ι:=List Int) [(0,_),(3,_),(4,_),(5,_),(6,_),(7,_),(8,_),(10,_),(28,_),(29,_),(30,_)] (λp=>[]) (λp w'=>Fr [a0] w8 w'/\FstI (z2g ts) ms p l.length/\Lw.Own Enc.i64 3 w0.heap.size w' (.slice (some ⟨a0,0,none⟩) ts.length ts.length) p) (λp=>(z4o ((ts.getD y tq0).2.getD (ms.getD y 0).toNat lq0).p).length-(p.getD y 0).toNat) vs (.d8 U U U U U U U U (.c3 U U U)) ⟨Fr.refl _ _,⟨hF,O⟩⟩ ?_;rintro xs w9 ⟨q9,⟨hF,O⟩⟩;have z9:=q9.size;refine kpC [(0,_),(3,_),(4,_),(5,_),(6,_),(7,_),(8,_),(10,_),(28,_),(29,_),(30,_)] (.d8 U U U U U U U U (.c3 U U U)) ?_;have h2:=hF.tb y a5;have g7:=hF.lm;have l7:=hF.lt;refine sq (sq ?_);replace M:=M.fr q9;intro a h;refine z0h none (λwb w'=>Fr [] wb w') z2o ?_;intro h4 a4;have m8:=a4.size;replace M:=M.ext a4;replace O:=O.ext a4;have hC:Fr [] h4 h4:=Fr.refl _ _;have a1:=M;have a7:=O;refine z0e 0 h U λa h=>z0e 1 h U λa h=>z1e (0) 2 h U O.sl U z9t U ?_ (hp:=rfl);clear h a;intro j3 f9 a h;refine z2p 3 h wn U (λ_ hw=>f9 _ (a7.sl.ext hw)) na3 U λa h=>z0c 4 h U z6q U λa h=>z0l 5 h U (λ_ hw=>a1.ext hw) U z6h U λa h=>z7s 6 hC h wn U underlying30 U λa h=>z0c 7 h U z9a U λa h=>z0l 8 h U (λ_ hw=>a1.ext hw) U z9o U λa h=>z7s 9 hC h wn U underlying102 U λa h=>z5n 10 h U (by first|exact i6 oo|rfl) U λa h=>x7d 11 hC h wn U U λa h=>z0r ?_;clear hC a1 a7;refine bk (h.sub (L':=[(0,_),(3,_),(4,_),(5,_),(6,_),(7,_),(8,_),(10,_),(28,_),(29,_),(30,_),(60,_)]) (.d8 U U U U U U U U (.c4 U U U U))) (tn (cd U (λc3=>?_) (λc3=>?_)));have e7:xs.getD y 0<IntKind.i64.wrap ((((ts.getD y tq0).2.getD (ms.getD y 0).toNat lq0).th.2.1:Int)+(((ts.getD y tq0).2.getD (ms.getD y 0).toNat lq0).pa.2.1:Int)):=c3;rw[IntWalk.i64_in _ oo]at e7;have e1:(xs.getD y 0).toNat<(z4o ((ts.getD y tq0).2.getD (ms.getD y 0).toNat lq0).p).length:=by rw[g9];omega
 have g4:z4k (z2g ts) ((z4o ((ts.getD y tq0).2.getD (ms.getD y 0).toNat lq0).p).getD (xs.getD y 0).toNat id0):=b4.2.2.1 _ (z1a e1);have k2:=g4.1;have g5:=g4.2.1;rw[g8]at g5;have g7:=hF.lm;refine sk (tn (bl (sq (sq ?_))));replace D:=g6.ext (q5.z5 q6 q7 q8 q9 a4);intro a h;refine z0h none (λwb w'=>Fr [] wb w') z2o ?_;intro f1 a6;have m9:=a6.size;replace D:=D.ext a6;replace M:=M.ext a6;replace O:=O.ext a6;have hC:Fr [] f1 f1:=Fr.refl _ _;have e6:=D;have a1:=M;have a7:=O;refine z0w 0 h U (λ_ hw=>a1.ext hw) x0j U λa h=>z0e 1 h U λa h=>z0e 2 h U λa h=>z1e (0) 3 h U O.sl U z9t U ?_ (hp:=rfl);clear h a;intro j4 g0 a h;refine z2p 4 h wn U (λ_ hw=>g0 _ (a7.sl.ext hw)) na3 U λa h=>z1u 5 6 kr U ?_ ?_;refine z0n h (z0a U (z0a U z0g)) (mkC func228) (v2z ((ts.getD y tq0).2.getD (ms.getD y 0).toNat lq0) (xs.getD y 0) _ (z8e D (y:=y) (n:=(ms.getD y 0).toNat) oo b3) h2 e1 ⟨b4.2.1.1,b4.2.1.2⟩) ?_;rintro _ i5 ⟨rfl,b5⟩ a h;have n7:=b5.size;replace M:=M.ext b5;replace hC:=hC.next b5;refine z0b (z0d 6 U (z0u h z7r U λl9 Z b6 hz a h=>?_));obtain⟨b1,hg⟩:∃g,g=i5.heap.size:=⟨_,rfl⟩;rw[<-hg]at Z h hz;have d9:f4<b1:=by have:=M.lt;omega
 have n8:=b6.size;replace D:=D.ext (b5.n1 b6);replace M:=M.ext b6;replace O:=O.ext (b5.n1 b6);replace hC:=hC.next b6;refine z0b (z0d 7 U (z0p h U Z U z5y ?_ (h1:=(by first|(simp[Value.oneCell',S];done)|exact z6j.one ((ts.getD y tq0).2.getD (ms.getD y 0).toNat lq0)|exact z1b.one ((z4o ((ts.getD y tq0).2.getD (ms.getD y 0).toNat lq0).p).getD (xs.getD y 0).toNat id0)))));clear h a;intro i7 d3 b8 hz a h;have n9:=b8.size;replace M:=M.fr b8;replace O:=O.fr b8 (by intro k D I;have D:=List.mem_singleton.1 D;have I:=List.mem_singleton.1 (show k∈[a0] from I);omega);replace hC:=hC.sp b8;clear Z hz;have Z:Blk i7 b1 _ [_,_]:=d3;clear d3;refine z0b (z0r ?_);clear hC e6 a1 a7;refine bk (h.sub (L':=[(0,_),(3,_),(4,_),(5,_),(6,_),(7,_),(8,_),(10,_),(11,_),(28,_),(29,_),(30,_)]) (.d8 U U U U U U U U (.c4 U U U U))) (tn (sq ?_));replace hM:=((((hM.ext q7).fr q8 (by intro k D I;have D:=List.mem_singleton.1 D;have I:=List.mem_singleton.1 (show k∈[a3] from I);omega)).fr q9 (by intro k D I;have D:=List.mem_singleton.1 D;have I:=List.mem_singleton.1 (show k∈[a3] from I);omega)).ext (a4.n3 a6 b5 b6)).fr b8 (by intro k D I;have D:=List.mem_singleton.1 D;have I:=List.mem_singleton.1 (show k∈[a3] from I);omega);intro a h;refine z0h none (λwb w'=>Fr [] wb w') z2o ?_;intro h5 b9;have o0:=b9.size;replace hM:=hM.ext b9;replace Z:=Z.ext b9;have hC:Fr [] h5 h5:=Fr.refl _ _;have b2:=hM;have a2:=Z;refine z0c 0 h U z9q U λa h=>z0l 1 h U (λ_ hw=>a2.ext hw) U na3 U λa h=>z0e 2 h U λa h=>z0c 3 h U z8a U λa h=>z0l 4 h U (λ_ hw=>a2.ext hw) U na5 U λa h=>z2v 5 h U (by first|exact IntWalk.u8_in _ oo|rfl) U λa h=>z1e (0) 6 h U hM.sl U z9t U ?_ (hp:=rfl);clear h a;intro f2 d4 a h;refine z2p 7 h wn U (λ_ hw=>d4 _ (b2.sl.ext hw)) na3 U λa h=>v6d 8 hC h wn U U U U λa h=>z0r ?_;clear hC b2 a2;refine bk (h.sub (L':=[(0,_),(3,_),(4,_),(5,_),(6,_),(7,_),(8,_),(10,_),(28,_),(29,_),(30,_),(75,_)]) (.d8 U U U U U U U U (.c4 U U U U))) (tn (cd U (λc4=>?_) (λc4=>?_)));have e2:x9k (z2g ts) ms y:=.inr ⟨d7,((z4o ((ts.getD y tq0).2.getD (ms.getD y 0).toNat lq0).p).getD (xs.getD y 0).toNat id0),by rw[e0];exact z1a e1,by unfold InM;omega⟩;refine ex (te (xo U (te (xo U (te (xh (tn (rg (z0x U (wi6 oo) (mv U (nl ?_)))))))))));replace O:=O.ext b9;exact lpE ((y+1,_)) (.d8 U U U U U U U U (.cons U .nil)) ⟨((((Fr.refl [a0] _).z6 q6 q7 q8 q9 a4 a6).n1 b5).z3 b6 b8 b9),⟨sm,hF,λz h=>(by
  by_cases e:z<y;exact e3 z e;obtain rfl:z=y:=by simp only at h;omega
  exact e2),O⟩⟩ sm
 have d1:=hF.there a5 (by rw[e0];unfold InM;omega);refine sk (tn (rg (mv U (mv U ?_))));replace O:=O.ext b9;refine z1d (0) U O.sl U z9t z1j (λf3 d5=>?_);refine z1k U (d5 _ O.sl) na3 (z0x U (wi6 oo) (z8n (p:=y) (E:=Enc.i64) U U z9t (z5k (i:=y) (xs.getD y 0+1) U U O (by rw[hF.lt];exact a5) U sz3 (λm0 O i3 o1=>?_))));exact kpL [(0,_),(3,_),(4,_),(5,_),(6,_),(7,_),(8,_),(10,_),(28,_),(29,_),(30,_)] (.d8 U U U U U U U U (.c3 U U U)) (nl (bn' (lpE (_) (.d8 U U U U U U U U (.c3 U U U)) ⟨((((Fr.refl [a0] _).z6 q9 a4 a6 b5 b6 b8).n1 b9).z1 i3),⟨d1,O⟩⟩ (by rw[z4n (by rw[hF.lt];exact a5),if_pos U];omega))));refine z0u h z7r U λm1 Z b7 hz a h=>?_;obtain⟨b1,hg⟩:∃g,g=f1.heap.size:=⟨_,rfl⟩;rw[<-hg]at Z h hz;have d9:f4<b1:=by have:=M.lt;omega
 have o2:=b7.size;replace D:=D.ext b7;replace hC:=hC.next b7;refine z0b (z0d 5 U (z0n h (z0a U (z0a U z0g)) (mkC func228) (v2z ((ts.getD y tq0).2.getD (ms.getD y 0).toNat lq0) (xs.getD y 0) _ (z8e D (y:=y) (n:=(ms.getD y 0).toNat) oo b3) h2 e1 ⟨b4.2.1.1,b4.2.1.2⟩) ?_));rintro _ m2 ⟨rfl,b0⟩ a h;have o3:=b0.size;replace D:=D.ext b0;replace M:=M.ext (b7.n1 b0);replace O:=O.ext (b7.n1 b0);replace Z:=Z.ext b0;replace hC:=hC.next b0;refine z0b (z0d 7 U (z0p h U Z U z5y ?_ (h1:=(by first|(simp[Value.oneCell',S];done)|exact z6j.one ((ts.getD y tq0).2.getD (ms.getD y 0).toNat lq0)|exact z1b.one ((z4o ((ts.getD y tq0).2.getD (ms.getD y 0).toNat lq0).p).getD (xs.getD y 0).toNat id0)))));clear h a;intro i8 d3 c9 hz a h;have o4:=c9.size;replace M:=M.fr c9;replace O:=O.fr c9 (by intro k D I;have D:=List.mem_singleton.1 D;have I:=List.mem_singleton.1 (show k∈[a0] from I);omega);replace hC:=hC.sp c9;clear Z hz;have Z:Blk i8 b1 _ [_,_]:=d3;clear d3;refine z0b (z0r ?_);clear hC e6 a1 a7;refine bk (h.sub (L':=[(0,_),(3,_),(4,_),(5,_),(6,_),(7,_),(8,_),(10,_),(11,_),(28,_),(29,_),(30,_)]) (.d8 U U U U U U U U (.c4 U U U U))) (tn (sq ?_));replace hM:=((((hM.ext q7).fr q8 (by intro k D I;have D:=List.mem_singleton.1 D;have I:=List.mem_singleton.1 (show k∈[a3] from I);omega)).fr q9 (by intro k D I;have D:=List.mem_singleton.1 D;have I:=List.mem_singleton.1 (show k∈[a3] from I);omega)).ext (a4.n3 a6 b7 b0)).fr c9 (by intro k D I;have D:=List.mem_singleton.1 D;have I:=List.mem_singleton.1 (show k∈[a3] from I);omega);intro a h;refine z0h none (λwb w'=>Fr [] wb w') z2o ?_;intro h6 d0;have o5:=d0.size;replace hM:=hM.ext d0;replace Z:=Z.ext d0;have hC:Fr [] h6 h6:=Fr.refl _ _;have b2:=hM;have a2:=Z;refine z0c 0 h U z9q U λa h=>z0l 1 h U (λ_ hw=>a2.ext hw) U na3 U λa h=>z0e 2 h U λa h=>z0c 3 h U z8a U λa h=>z0l 4 h U (λ_ hw=>a2.ext hw) U na5 U λa h=>z2v 5 h U (by first|exact IntWalk.u8_in _ oo|rfl) U λa h=>z1e (0) 6 h U hM.sl U z9t U ?_ (hp:=rfl);clear h a;intro f2 d4 a h;refine z2p 7 h wn U (λ_ hw=>d4 _ (b2.sl.ext hw)) na3 U λa h=>v6d 8 hC h wn U U U U λa h=>z0r ?_;clear hC b2 a2;refine bk (h.sub (L':=[(0,_),(3,_),(4,_),(5,_),(6,_),(7,_),(8,_),(10,_),(28,_),(29,_),(30,_),(75,_)]) (.d8 U U U U U U U U (.c4 U U U U))) (tn (cd U (λc4=>?_) (λc4=>?_)));have e2:x9k (z2g ts) ms y:=.inr ⟨d7,((z4o ((ts.getD y tq0).2.getD (ms.getD y 0).toNat lq0).p).getD (xs.getD y 0).toNat id0),by rw[e0];exact z1a e1,by unfold InM;omega⟩;refine ex (te (xo U (te (xo U (te (xh (tn (rg (z0x U (wi6 oo) (mv U (nl ?_)))))))))));replace O:=O.ext d0;exact lpE ((y+1,_)) (.d8 U U U U U U U U (.cons U .nil)) ⟨((((Fr.refl [a0] _).z6 q6 q7 q8 q9 a4 a6).n1 b7).z3 b0 c9 d0),⟨sm,hF,λz h=>(by
  by_cases e:z<y;exact e3 z e;obtain rfl:z=y:=by simp only at h;omega
  exact e2),O⟩⟩ sm
 have d1:=hF.there a5 (by rw[e0];unfold InM;omega);refine sk (tn (rg (mv U (mv U ?_))));replace O:=O.ext d0;refine z1d (0) U O.sl U z9t z1j (λf3 d5=>?_);refine z1k U (d5 _ O.sl) na3 (z0x U (wi6 oo) (z8n (p:=y) (E:=Enc.i64) U U z9t (z5k (i:=y) (xs.getD y 0+1) U U O (by rw[hF.lt];exact a5) U sz3 (λm3 O i4 o6=>?_))));exact kpL [(0,_),(3,_),(4,_),(5,_),(6,_),(7,_),(8,_),(10,_),(28,_),(29,_),(30,_)] (.d8 U U U U U U U U (.c3 U U U)) (nl (bn' (lpE (_) (.d8 U U U U U U U U (.c3 U U U)) ⟨((((Fr.refl [a0] _).z6 q9 a4 a6 b7 b0 c9).n1 d0).z1 i4),⟨d1,O⟩⟩ (by rw[z4n (by rw[hF.lt];exact a5),if_pos U];omega))));have e7:¬xs.getD y 0<IntKind.i64.wrap ((((ts.getD y tq0).2.getD (ms.getD y 0).toNat lq0).th.2.1:Int)+(((ts.getD y tq0).2.getD (ms.getD y 0).toNat lq0).pa.2.1:Int)):=c3;rw[IntWalk.i64_in _ oo]at e7;have d1:=hF.push hH a5 d7 (by rw[e0,g9];omega);refine ex (te (te (xh (tn (sr (mv U (mv U (z0x U (wi6 oo) (z4m U (us underlying3) underlying5 (wi8 oo) (mv U (mv U ?_)))))))))));replace hM:=(((hM.ext q7).fr q8 (by intro k D I;have D:=List.mem_singleton.1 D;have I:=List.mem_singleton.1 (show k∈[a3] from I);omega)).fr q9 (by intro k D I;have D:=List.mem_singleton.1 D;have I:=List.mem_singleton.1 (show k∈[a3] from I);omega)).ext a4;refine z1d (0) U hM.sl U z9t z1j (λj5 g1=>?_);refine z1k U (g1 _ hM.sl) na3 (z1s (cs:=[_,_]) (ev2 U) j1x (z0f U (z0f U z0q)) U ?_);refine z1g ([(⟨(y:Int)+1,ms.getD y 0⟩:LId)]) (ev1 U) U z3x (λk9 m4 k1 h0 e4 o7=>?_);replace hM:=hM.ext e4;replace O:=O.ext e4;replace hR:=((((hR.fr q6 (by intro k D I;rw[List.mem_singleton.1 D]at I;first|exact a8 I|exact a9 I|(have h_:=(hR.blk _ I).2;omega))).ext q7).fr q8 (by intro k D I;rw[List.mem_singleton.1 D]at I;first|exact a8 I|exact a9 I|(have h_:=(hR.blk _ I).2;omega))).fr q9 (by intro k D I;rw[List.mem_singleton.1 D]at I;first|exact a8 I|exact a9 I|(have h_:=(hR.blk _ I).2;omega))).ext (a4.n1 e4);have e8:=hR;refine z1z U hR h0.sl z3x (λh3 m5 hR e5 i0=>?_) (hM:=(by unfold maxLen;simp only[List.length_append,List.length_cons,List.length_nil];omega)) (hb:=(by simp only[List.length_append,List.length_cons,List.length_nil];omega));have o8:=e5.size;replace hM:=hM.fr e5 (λk D I=>a8 (by have e:=List.mem_singleton.1 (show k∈[a3] from I);rw[<-e];exact D));replace O:=O.fr e5 (λk D I=>a9 (by have e:=List.mem_singleton.1 (show k∈[a0] from I);rw[<-e];exact D));clear a8 a9;have a8:a3∉z0v h3:=λh=>x4n hR hM dd a3 h (List.mem_singleton.2 U);have a9:a0∉z0v h3:=λh=>x4n hR O dd a0 h (List.mem_singleton.2 U);obtain⟨k6,k7,rfl,_⟩:=hR.sl.form;refine asg U (kpL [(0,_),(3,_),(4,_),(5,_),(6,_),(7,_),(8,_)] (.c7 U U U U U U U) (nn (sr (mv U (mv U (z1d (0) U hM.sl U z9t z1j (λj6 g3=>?_)))))));refine z1k U (g3 _ hM.sl) na3 (z0x U (wi6 oo) (z8n (p:=y) (E:=Enc.i64) U U z9t (z5k (i:=y) (ms.getD y 0+1) U U hM (by rw[hF.lm];exact a5) U sz3 (λm6 hM e9 o9=>?_))));refine kpL [(0,_),(3,_),(4,_),(5,_),(6,_),(7,_),(8,_)] (.c7 U U U U U U U) (nn (sr (mv U (mv U ?_))));replace O:=O.fr e9 (by intro k D I;have D:=List.mem_singleton.1 D;have I:=List.mem_singleton.1 (show k∈[a0] from I);omega);refine z8n (p:=y) (E:=Enc.i64) U U z9t (z5k (i:=y) (0) U U O (by rw[hF.lt];exact a5) U sz3 (λm7 O f0 p0=>?_));refine nn (ex (xo U (te (te (xh (tn (sr (mv U (lnS U underlying30 (mv U (eq' U (nn (cd U (λc5=>?_) (λc5=>?_))))))))))))));exfalso;simp only[List.length_append,List.length_cons,List.length_nil]at c5;omega;skip;refine sk (gn' (bn' ?_));replace hR:=(hR.fr e9 (by intro k D I;rw[List.mem_singleton.1 D]at I;first|exact a8 I|exact a9 I|(have h_:=(hR.blk _ I).2;omega))).fr f0 (by intro k D I;rw[List.mem_singleton.1 D]at I;first|exact a8 I|exact a9 I|(have h_:=(hR.blk _ I).2;omega));replace hM:=hM.fr f0 (by intro k D I;have D:=List.mem_singleton.1 D;have I:=List.mem_singleton.1 (show k∈[a3] from I);omega);exact lpE ((_,_,_,_)) (.c5 U U U U U) ⟨(((q5.z6 q6 q7 q8 q9 a4 e4).step e5 (λk D d7=>absurd (e8.blk k D).1 oo)).z2 e9 f0),⟨by simpa using d1,hR,hM,O⟩⟩ (by simp only[List.length_append,List.length_cons,List.length_nil];omega);obtain rfl:y=6:=by omega
 have h8:=hF.done hH e3 hv.ok.ord;refine ex (te (te (xh (tn (sr (mv U (lnS U underlying30 (mv U (eq' U (kpL [(0,_),(3,_),(4,_),(5,_),(6,_),(106,_)] (.c6 U U U U U U) (nn (cd U (λc5=>?_) (λc5=>?_)))))))))))));have d6:l.length=z5p (z2g ts):=h8;refine ex (gx' (xo U (te (xh (tn (sr (mv U (asg U (kpL [(2,_)] (.cons U .nil) (nn (rt (r1 results202 U ?_))))))))))));replace hR:=hR.fr q6 (by intro k D I;rw[List.mem_singleton.1 D]at I;first|exact a8 I|exact a9 I|(have h_:=(hR.blk _ I).2;omega));exact⟨_,rfl,l,hR,d6,(q5.z1 q6)⟩;exact absurd U c5;have d6:l.length=z5p (z2g ts):=by have:=hF.leI oo;omega
 exact ex (te (te (xh (tn (sr (mv U (asg U (kpL [(2,_)] (.cons U .nil) (nn (rt (r1 results202 U ⟨_,rfl,l,hR,d6,q5⟩)))))))))))
theorem x5v:z1c prog 32 1 1:=λ_ _=>kr
theorem j1q:z1y prog 29:=λ_=>kr
theorem j1a:z1y prog 240:=λ_=>kr
theorem x7y (v:Value)(l:List LId)(w0:World)(I:Sl z1b w0 v l)(hl:l.length<=100000):Rets prog 203 #[v] w0 λr w'=>∃A,r=.slice A l.length l.length/\Lw.Own z1b 64 w0.heap.size w' r l/\Fr [] w0 w':=by
 obtain⟨A,c,rfl,a0,hM,hA⟩:=id I;clear hA;unfold maxLen at hM;refine we [(0,.slice A l.length c)] func203 U ntmps203 U (.cons U .nil) ?_;have M:=I;refine sr (asg U (nn (sr (mv U (lnS U underlying30 (z1h (m:=l.length) (c:=l.length) (id0) U z3x z7r U (λZ w1 a1 D O z1=>(asg U (nn (sr (mv U (mv U ?_))))))))))));replace I:=M.ext O;refine z8d (zs:=List.replicate l.length id0) (by rw[List.length_replicate];rfl) U (by rw[List.length_replicate];exact D) I (by rw[List.length_replicate]) z3x (λw2 D q2 z2=>?_);rw[List.length_replicate]at D;exact nn (sr (mv U (asg U (nn (rt (r1 results203 U ⟨_,rfl,some ⟨Z,0,none⟩,rfl,D.low oo,(O.z1 q2)⟩))))))
theorem v1z (v:Value)(ts:List TQ)(w0:World)(I:Sl z3z w0 v ts)(D:TabAt w0 ts)(hl:ts.length=6)(hv:TabV (z2g ts)):Rets prog 156 #[v] w0 λr w'=>∃u,r=.tuple #[u,.int .i64 0]/\Fr [] w0 w':=by
 obtain⟨A,c,rfl,a6,hM,hA⟩:=id I;clear hA;unfold maxLen at hM;have a9:=z5a D;have a7:z5p (z2g ts)<=2048:=hv.ok.cnt;refine we [(0,.slice A ts.length c)] func156 U ntmps156 U (.cons U .nil) ?_;have O:=I;have M:=D;refine sr (asg U (asg U (nn (sq (sr (mv U (lnS U underlying28 (ne' U (nn (cd U (λc0=>?_) (λc0=>?_)))))))))));refine sr (asg U (asg U (nn (rt (tr (r2 results156 U U ?_))))));exact(by exfalso;first|omega|exact absurd U (by assumption)|(simp_all;done)|(simp_all;omega));refine sk (tn (sq (sr (mv U (cl (ev1 U) (mkC func168) (y3e _ _ _ I D oo) U ?_)))));rintro _ w1 ⟨rfl,Z⟩;refine gt' U (nn (cd U (λc1=>?_) (λc1=>?_)));refine sr (asg U (asg U (nn (rt (tr (r2 results156 U U ?_))))));exact(by exfalso;first|omega|exact absurd U (by assumption)|(simp_all;done)|(simp_all;omega));refine sk (tn (sq (sr (mv U ?_))));replace I:=O.ext Z;replace D:=M.ext Z;refine cl (ev1 U) (mkC func200) (v3t _ _ _ I D hl hv.ok) U ?_;rintro _ w2 ⟨rfl,q2⟩;refine asg U (nn (sr (mv U (ne' U (nn (cd U (λc2=>?_) (λc2=>?_)))))));refine sr (mv U (asg U (asg U (nn (rt (tr (r2 results156 U U ?_)))))));exact(by exfalso;first|omega|exact absurd U (by assumption)|(simp_all;done)|(simp_all;omega));refine sk (tn (sq (sr (mv U ?_))));replace I:=O.ext (Z.n1 q2);replace D:=M.ext (Z.n1 q2);refine cl (ev1 U) (mkC func201) (u2j _ _ _ I D hl hv) U ?_;rintro _ w3 ⟨rfl,q3⟩;refine asg U (nn (sr (mv U (ne' U (nn (cd U (λc3=>?_) (λc3=>?_)))))));refine sr (mv U (asg U (asg U (nn (rt (tr (r2 results156 U U ?_)))))));exact(by exfalso;first|omega|exact absurd U (by assumption)|(simp_all;done)|(simp_all;omega));refine sk (tn (sr (mv U ?_)));replace I:=O.ext (Z.n2 q2 q3);replace D:=M.ext (Z.n2 q2 q3);refine cl (ev1 U) (mkC func202) (v6q _ _ _ I D hl hv) U ?_;rintro a4 w4 ⟨l,ho,a8,q4⟩;obtain⟨a2,a5,rfl,a0⟩:=ho.sl.form;refine asg U (nn (sq (sr (mv U (lnS U underlying30 (mv U ?_))))));replace I:=O.ext (Z.n3 q2 q3 q4);replace D:=M.ext (Z.n3 q2 q3 q4);refine cl (ev1 U) (mkC func168) (y3e _ _ _ I D oo) U ?_;rintro _ w5 ⟨rfl,q5⟩;refine lt' U (nn (cd U (λc4=>?_) (λc4=>?_)));refine sr (asg U (asg U (nn (rt (tr (r2 results156 U U ?_))))));exact(by exfalso;first|omega|exact absurd U (by assumption)|(simp_all;done)|(simp_all;omega));refine sk (tn (sr (mv U ?_)));replace ho:=ho.ext q5;refine cl (ev1 U) (mkC func203) (x7y _ _ _ ho.sl oo) U ?_;rintro _ w6 ⟨a3,rfl,a1,q6⟩;exact asg U (asg U (nn (rt (r2 results156 U U ⟨_,rfl,_,rfl,(Z.n5 q2 q3 q4 q5 q6)⟩))))
theorem u1x (v:Value)(ts:List TQ)(w0:World)(I:Sl z3z w0 v ts)(D:TabAt w0 ts)(hl:ts.length=6)(hv:TabV (z2g ts)):Rets prog 113 #[v] w0 λr w'=>r=.int .i64 0/\Fr [] w0 w':=by
 obtain⟨A,c,rfl,Z,O,M⟩:=id I;clear M;unfold maxLen at O;have a1:=z5a D;refine we [(0,.slice A ts.length c)] func113 U ntmps113 U (.cons U .nil) ?_;have a2:=I;have a0:=D;refine sr (asg U (nn (sr (mv U (cl (ev1 U) (mkC func156) (v1z _ _ _ I D hl hv) U ?_)))));rintro _ w1 ⟨v7,rfl,q1⟩;exact mv U (xt U (xt U (asg U (asg U (kpL [(4,_)] (.cons U .nil) (nn (sr (mv U (asg U (nn (rt (r1 results113 U ⟨_,rfl,rfl,q1⟩))))))))))))
theorem u2t (D g:Nat)(p:List LId)(A:Option Addr)(m c:Nat)(w0:World)(Z:m=0)(M:Blk w0 D 240 [.map (some g)])(O:MapZ idV w0 g (.int .i64 0) (y7p p)):Rets prog 158 #[.slice A m c,.pointer (some ⟨D,0,none⟩)] w0 λr w'=>MapZ idV w' g (.int .i64 0) (y7p p)/\Fr [g] w0 w':=by
 refine we [(0,.slice A m c),(1,.pointer (some ⟨D,0,none⟩))] func158 U ntmps158 U (.c2 U U) (sr (mv U (lnS U underlying30 (mv U (nn (bl (lpK (ι:=Nat) [(1,_),(5,_),(6,_)] (λk=>[(7,.int .i64 (k:Int))]) (λk w'=>Fr [] w0 w'/\k<=m) (λk=>m-k) 0 (.c4 U U U U) ⟨Fr.refl _ _,Nat.zero_le _⟩ ?_)))))));rintro k w1 ⟨I,hi⟩;refine kpC [(1,_),(5,_),(6,_),(7,_)] (.c4 U U U U) (sr (lt' U ?_));rw[show decide ((k:Int)<(m:Int))=false from decide_eq_false oo];exact nn (sq (cf U (ex (te (te (xh (r0n results158  ⟨_,rfl,O.ext I,(Fr.refl [g] _).next I⟩)))))))
theorem u4o (gp g:Nat)(p:List LId)(v:Value)(l:List LId)(w0:World)(hs:Sl z1b w0 v l)(I:Blk w0 gp 240 [.map (some g)])(M:MapZ idV w0 g (.int .i64 0) (y7p p))(a4:g∉z0v v)(a3:∀k,k<l.length->(p++l.take k).count (l.getD k id0)<=100000):Rets prog 158 #[v,.pointer (some ⟨gp,0,none⟩)] w0 λr w'=>MapZ idV w' g (.int .i64 0) (y7p (p++l))/\Fr [g] w0 w':=by
 obtain⟨A,c,rfl,b2,hM,hA⟩:=id hs;clear hA;unfold maxLen at hM;have b0:=M.ne_blk I;have b4:=I.lt;have a9:=M.lt;refine we [(0,.slice A l.length c),(1,.pointer (some ⟨gp,0,none⟩))] func158 U ntmps158 U (.c2 U U) ?_;have a7:=hs;refine sr (mv U (lnS U underlying30 (mv U (nn (bl (lpK (ι:=Nat) [(1,_),(5,_),(6,_)] (λk=>[(7,.int .i64 (k:Int))]) (λk w'=>Fr [g] w0 w'/\k<=l.length/\MapZ idV w' g (.int .i64 0) (y7p (p++l.take k))) (λk=>l.length-k) 0 (.c4 U U U U) ⟨Fr.refl _ _,⟨Nat.zero_le _,by rw[List.take_zero,List.append_nil];exact M⟩⟩ ?_))))));rintro k w1 ⟨q1,⟨hk,M⟩⟩;have z1:=q1.size;refine kpC [(1,_),(5,_),(6,_),(7,_)] (.c4 U U U U) (sr (lt' U (nn (sq (cd U (λc0=>?_) (λc0=>?_))))));have a8:=a3 k oo;refine sk (tn (sq (bl (sr ?_))));replace hs:=a7.fr ((Fr.refl [g] _).z1 q1) (by intro k_ a5 a1;rw[List.mem_singleton.1 a5]at a1;exact a4 a1);refine z1d (id0) U hs U z3x z1j (λb1 a2=>?_);refine z1q U (a2 _ hs) z2q (al z7r U (λg4 w2 b3 D q2 z2=>?_));refine z0j (vs:=[_,_]) U D z5y (λw3 D q3 z3=>?_) (h1:=(by first|(simp[Value.oneCell',S];done)|exact z1b.one _));refine nn ?_;replace I:=((I.fr q1 (by intro e;simp at e;omega)).ext q2).fr q3 (by intro e;simp at e;omega);replace M:=(M.ext q2).fr q3 (by intro k hk hb;simp at hk hb;omega);intro a h;refine z0h none (λwb w'=>Fr [g] wb w') z2o ?_;intro w4 q4;have z4:=q4.size;replace I:=I.ext q4;replace M:=M.ext q4;replace D:=D.ext q4;have hC:Fr [g] w4 w4:=Fr.refl _ _;have Z:=I;have a0:=M;have O:=D;refine z6f 0 hC h wn U (λ_ hw=>Z.fr hw (by intro e;simp at e;omega)) j1a U U λa h=>z0w 1 h U (λ_ hw=>O.fr hw (by intro e;simp at e;omega)) z2q U λa h=>z1u 2 4 kr U ?_ ?_;refine z7h (V:=idV) (z:=(.int .i64 0)) (k:=(l.getD k id0)) (v:=.int .i64 ((((p++l.take k)).count (l.getD k id0):Nat):Int)) h U U M z5x underlying240 zvI U U λa h=>z0b (z5n 3 h U (by first|exact i6 oo|rfl) U λa h=>z0d 4 U ?_);have a6:=M.ne_blk D;refine z6n (V:=idV) (z:=(.int .i64 0)) (k:=(l.getD k id0)) h U U M z5x underlying240 zvI U λw5 b5 he q5 z5 a h=>?_;replace M:=he.map;replace D:=D.fr q5 (by intro e;simp at e;omega);replace I:=I.fr q5 (by intro e;simp at e;omega);replace hC:=hC.step q5 sp0;refine z0b (z0k 5 h U λa h=>z0d 6 U (z5f (V:=idV) (z:=(.int .i64 0)) (k:=(l.getD k id0)) h U U U he ?_));clear h a he M;intro w6 M q6 z6 a h;replace M:MapZ idV w6 g (.int .i64 0) (y7p ((p++l.take k)++[(l.getD k id0)])):=by rw[<-y9e];exact M
 replace D:=D.fr q6 (by intro e;simp at e;omega);replace I:=I.fr q6 (by intro e;simp at e;omega);replace hC:=hC.step q6 sp0;refine z0b (z0r ?_);clear hC Z a0 O;exact bk (h.sub (L':=[(1,_),(5,_),(6,_),(7,_)]) (.c4 U U U U)) (bn' (tn (rg (z0x U (wi6 oo) (mv U (nl (lpE (k+1) (.c4 U U U U) ⟨((Fr.refl [g] _).z6 q1 q2 q3 q4 q5 q6),⟨oo,by rw[z8t id0 oo,<-List.append_assoc];exact M⟩⟩ oo)))))));have a6:=M.ne_blk D;refine z6n (V:=idV) (z:=(.int .i64 0)) (k:=(l.getD k id0)) h U U M z5x underlying240 zvI U λw7 b6 he q7 z7 a h=>?_;replace M:=he.map;replace D:=D.fr q7 (by intro e;simp at e;omega);replace I:=I.fr q7 (by intro e;simp at e;omega);replace hC:=hC.step q7 sp0;refine z0b (z0k 5 h U λa h=>z0d 2 U (z7h (V:=idV) (z:=(.int .i64 0)) (k:=(l.getD k id0)) (v:=.int .i64 ((((p++l.take k)).count (l.getD k id0):Nat):Int)) h U U M z5x underlying240 zvI U U λa h=>?_));refine z0b (z5n 3 h U (by first|exact i6 oo|rfl) U λa h=>z0d 6 U (z5f (V:=idV) (z:=(.int .i64 0)) (k:=(l.getD k id0)) h U U U he ?_));clear h a he M;intro w8 M q8 z8 a h;replace M:MapZ idV w8 g (.int .i64 0) (y7p ((p++l.take k)++[(l.getD k id0)])):=by rw[<-y9e];exact M
 replace D:=D.fr q8 (by intro e;simp at e;omega);replace I:=I.fr q8 (by intro e;simp at e;omega);replace hC:=hC.step q8 sp0;refine z0b (z0r ?_);clear hC Z a0 O;exact bk (h.sub (L':=[(1,_),(5,_),(6,_),(7,_)]) (.c4 U U U U)) (bn' (tn (rg (z0x U (wi6 oo) (mv U (nl (lpE (k+1) (.c4 U U U U) ⟨((Fr.refl [g] _).z6 q1 q2 q3 q4 q7 q8),⟨oo,by rw[z8t id0 oo,<-List.append_assoc];exact M⟩⟩ oo)))))));obtain rfl:k=l.length:=by omega
 rw[List.take_length]at M;exact ex (te (te (xh (r0n results158  ⟨_,rfl,M,((Fr.refl [g] _).z1 q1)⟩))))
theorem x2f (I g:Nat)(p:List LId)(v:Value)(l:List LId)(wS w0:World)(hS:Sl z1b wS v l)(hg:wS.heap.size<=g)(Z:Sl z1b w0 v l)(D:Blk w0 I 240 [.map (some g)])(O:MapZ idV w0 g (.int .i64 0) (y7p p))(M:∀k,k<l.length->(p++l.take k).count (l.getD k id0)<=100000):Rets prog 158 #[v,.pointer (some ⟨I,0,none⟩)] w0 λr w'=>MapZ idV w' g (.int .i64 0) (y7p (p++l))/\Fr [g] w0 w':=by
 by_cases e:l=[];subst e;obtain⟨A,c,rfl,_⟩:=Z.form;rw[List.append_nil];exact u2t I g p A _ c w0 U D O;exact u4o I g p v l w0 Z D O (λh=>by have:=hS.blk e g h;omega) M
def hfv (q:FbQ)(z:Nat):SV:=if z=0 then q.h else q.f
def hfl (q:FbQ)(z:Nat):List LId:=if z=0 then q.hs else q.fs
theorem v4x {q:FbQ}{w:World}(h:FbAt w q)(z:Nat):Sl z1b w (slv (hfv q z)) (hfl q z):=by
 unfold hfv hfl;split;exact h.h;exact h.f
theorem u9e {q:FbQ}(z:Nat){i:LId}(h:i∈hfl q z):i∈q.hs++q.fs:=by
 unfold hfl at h;split at h;exact List.mem_append_left _ h;exact List.mem_append_right _ h
theorem j2c {q:FbQ}{z:Nat}(h:z<2):[Value.slice q.h.1 q.h.2.1 q.h.2.2,.slice q.f.1 q.f.2.1 q.f.2.2][(z:Int).toNat]?=some (.slice (hfv q z).1 (hfv q z).2.1 (hfv q z).2.2):=by
 obtain rfl|rfl:z=0\/z=1:=by omega
 rfl;rfl
theorem u0h:z3p prog 32 4:=⟨λ_=>kr,λ_=>kr⟩
theorem j4b:BuildAt prog 239 [(0,1),(1,1)] [(.slice none 0 0),(.slice none 0 0)]:=BuildAt.array (sz:=1) underlying239 (λ_=>kr) (λ_=>kr) (λi q h=>by match i,h with|0,h=>simpa using h.symm|1,h=>simpa using h.symm|(k+2),h=>simp at h)
theorem y0p:z1c prog 32 0 0:=λ_ _=>kr
theorem y2x:z1c prog 32 2 2:=λ_ _=>kr
theorem x1o:z1c prog 32 3 3:=λ_ _=>kr
theorem x3j:z1y prog 28:=λ_=>kr
theorem u1e:z1t prog 30 1:=λ_=>kr
theorem j3e:z1t prog 240 1:=λ_=>kr
theorem j3s (w:World):(zeroValue 240).run prog w=.ok (.map none) w:=kr
theorem y5s:z1t prog 42 2:=λ_=>kr
theorem v4k (w:World):(zeroValue 42).run prog w=.ok (.agg #[(.int .u8 0),(.int .i64 0)]) w:=kr
theorem y9w (r:Int)(w0:World):Rets prog 159 #[.int .i64 r] w0 λv w'=>v=.bool (decide (-4<=r/\r<=4))/\Fr [] w0 w':=by
 refine we [(0,.int .i64 r)] func159 U ntmps159 U (.cons U .nil) (sr (asg U (nn (sq (rbo (r:=2) (L':=[]) (((-4<=r)/\(r<=4))) .nil ?_ ?_)))));refine mv U (ge' U U (mv U (gs 5 U (λD=>?_) (λD=>?_))));exact gY U (mv U (gY U (le' U (pkt U (asg U (rbe U .nil))))));exact gN U (gN U (pkf U (asg U (rbe U .nil))));exact tn (rt (r1 results159 U ⟨_,rfl,rfl,(Fr.refl _ _)⟩))
theorem y2c (b p r:Int)(w0:World)(hp:-9223372036854775808<=p/\p<=9223372036854775807):Rets prog 119 #[.agg #[.int .u8 b,.int .i64 p],.int .i64 r] w0 λv w'=>v=.int .i64 (z4v b p r)/\Fr [] w0 w':=by
 refine we [(0,.agg #[.int .u8 b,.int .i64 p]),(1,.int .i64 r)] func119 U ntmps119 U (.c2 U U) (sr (bx U (λg2 w1 a1 D q1 z1=>(asg U (nn (sq (sq (v4l (r:=12) (L':=[(1,_),(2,_)]) ((((z4g b p)≠0)\/(¬(-4<=r/\r<=4)))) (.c2 U U) ?_ ?_))))))));refine z0m U D z5r (cl (ev1 U) v6a (z4t _ _ _) U ?_);rintro _ w2 ⟨rfl,q2⟩;refine ne' U (mv U (gs 8 U (λg0=>?_) (λg0=>?_)));exact gN U (gN U (gN U (pkt U (y2n U (.c2 U U) q2))));refine gY U (mv U (gY U (cl (ev1 U) (mkC func159) (y9w _ _) U ?_)));rintro _ w3 ⟨rfl,q3⟩;exact gY U (nt' U (pkf U (y2n U (.c2 U U) (q2.n1 q3))));intro w4 M;have z4:=M.size;refine tn (cd U (λI=>?_) (λI=>?_));exact sr (asg U (nn (rt (tr (r1 results119 U ⟨_,rfl,by rw[z4v,if_pos I],(q1.n1 M)⟩)))));have Z:z4g b p=0:=Classical.not_not.1 (λe=>I (.inl e));have a2:-4<=r/\r<=4:=Classical.not_not.1 (λe=>I (.inr e));have a0:=z3a Z;refine sk (tn (sq (sr (fad U z5w ?_))));replace D:=D.ext M;refine z0i U D U x2g (eq' U (nn (cd U (λO=>?_) (λO=>?_))));exact sr (fad U z5v (z0i U D U na3 (y4k U U (wi6 oo) (z0x U (wi6 oo) (asg U (kpL [(4,_)] (.cons U .nil) (nn (rt (tr (r1 results119 U ⟨_,rfl,by rw[z4v,if_neg I,if_pos O],(q1.n1 M)⟩))))))))));exact sk (tn (sr (fad U z5v (z0i U D U na3 (mv U (z0x U (wi6 oo) (y4k U U (wi6 oo) (asg U (kpL [(4,_)] (.cons U .nil) (nn (rt (r1 results119 U ⟨_,rfl,by rw[z4v,if_neg I,if_neg O],(q1.n1 M)⟩))))))))))))
end Go.Proofs.YtlfdhllfmoplgaaGreatDoor
