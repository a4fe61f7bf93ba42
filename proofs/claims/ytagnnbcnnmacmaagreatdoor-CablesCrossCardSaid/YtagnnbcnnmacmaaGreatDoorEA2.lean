/- Texts of the proof, joined. -/
import Derived.Lib.ItoaNum
import Derived.Lib.Join
import Derived.Lib.AtoiAll
import Derived.Lib.Split
import Derived.Lib.TrimByte
import Derived.Lib.IndexMore
import Derived.Laws.CopyRow
import Derived.Lib.AppendZerosOnto
import Derived.Test.YtagnnbcnnmacmaaGreatDoorRows
import Derived.Laws.RangeString
import Derived.Test.YtagnnbcnnmacmaaGreatDoorEA1
set_option linter.unusedVariables false
set_option linter.unusedSimpArgs false
set_option maxHeartbeats 4000000
namespace Go.Lw
open Go.RowKit
structure MOp where
  k:Int
  d:Int
  b:Int
  p:Int
  y:Int
  r:Int
theorem MOp.ext' {a c:MOp}(h:a.k=c.k/\a.d=c.d/\a.b=c.b/\a.p=c.p/\a.y=c.y/\a.r=c.r):a=c:=by
 obtain⟨D,I,O,Z,h5,h6⟩:=h;cases a;cases c;simp only at *;subst D I O Z h5 h6;rfl
instance:DecidableEq MOp:=λa c=>
  if h:a.k=c.k/\a.d=c.d/\a.b=c.b/\a.p=c.p/\a.y=c.y/\a.r=c.r then isTrue (MOp.ext' h)
  else isFalse (λe=>h (by subst e;exact ⟨rfl,rfl,rfl,rfl,rfl,rfl⟩))
def y0v:Enc MOp:=⟨λo=>[.int .u8 o.k,.int .u8 o.d,.int .u8 o.b,.int .i64 o.p,.int .u8 o.y,.int .i64 o.r],6,λ_=>rfl,λ_ u h=>by simp at h;rcases h with rfl|rfl|rfl|rfl|rfl|rfl<;>rfl,dd⟩
abbrev opV (o:MOp):Value:=.agg #[.int .u8 o.k,.int .u8 o.d,.int .u8 o.b,.int .i64 o.p,.int .u8 o.y,.int .i64 o.r]
def op0:MOp:=⟨0,0,0,0,0,0⟩
def ndV (p:Int×Int):Value:=.agg #[.int .u8 p.1,.int .i64 p.2]
def z4g (b p:Int):Int:=if b≠0/\b≠1 then 1 else if p<1\/40<p then 1 else 0
abbrev F4:=Bool×Bool×Bool×Bool
def f4L (f:F4):List Value:=[.bool f.1,.bool f.2.1,.bool f.2.2.1,.bool f.2.2.2]
theorem x8m (f:F4):∀u∈f4L f,u.oneCell'=true:=by intro u D;simp[f4L]at D;rcases D with rfl|rfl|rfl|rfl<;>rfl
def f4V (f:F4):Value:=.agg (f4L f).toArray
def f40:F4:=(false,false,false,false)
def z8q (k:Int):Option F4:=
  if k=8 then some (false,true,false,false) else if k=7 then some (false,true,false,false) else if k=6 then some (true,true,true,false)
  else if k=5 then some (true,true,true,false) else if k=4 then some (true,true,true,false) else if k=3 then some (false,false,false,true)
  else if k=2 then some (false,false,true,false) else if k=1 then some (true,false,true,false) else none
def x8z (k:Int):Option Value:=(z8q k).map f4V
theorem y4h (k:Int):(x8z k).getD (.agg #[.bool false,.bool false,.bool false,.bool false])=.agg (f4L ((z8q k).getD f40)).toArray:=by
 unfold x8z;cases z8q k<;>rfl
theorem y4k (k:Int):(x8z k).isSome=(z8q k).isSome:=by unfold x8z;cases z8q k<;>rfl
abbrev pl1 (f:F4)(o:MOp):Prop:=(f.1=true/\o.d≠0)/\o.d≠1\/¬f.1=true/\o.d≠0
abbrev pl2 (f:F4)(o:MOp):Prop:=f.2.1=true/\z4g o.b o.p≠0\/¬f.2.1=true/\¬(o.b=0/\o.p=0)
abbrev pl3 (f:F4)(o:MOp):Prop:=f.2.2.1=true/\(o.y<1\/6<o.y)\/¬f.2.2.1=true/\o.y≠0
abbrev pl4 (f:F4)(o:MOp):Prop:=f.2.2.2=true\/o.r=0
def y7u (f:F4)(o:MOp):Prop:=¬pl1 f o/\¬pl2 f o/\¬pl3 f o/\pl4 f o
instance (f:F4) (o:MOp):Decidable (y7u f o):=by unfold y7u;infer_instance
def y3b (o:MOp):Prop:=(z8q o.k).isSome=true/\y7u ((z8q o.k).getD f40) o
instance (o:MOp):Decidable (y3b o):=by unfold y3b;infer_instance
def y2p (o:MOp):Int:=if ¬y3b o then 1 else if o.r < -4\/4<o.r then 11 else 0
def k4e (n:Nat):UInt8:=UInt8.ofNat (48+n)
def j7w (n:Nat):List UInt8:=if n<10 then [k4e n] else [k4e (n / 10),k4e (n % 10)]
def x8c (n:Int):List UInt8:=if n<0 then 45::j7w n.natAbs else j7w n.toNat
theorem j2t {n:Nat}(h:n<100):Lib.decDigits n=j7w n:=by
 unfold j7w;rw[Lib.decDigits];split;rfl;rw[Lib.decDigits,dif_pos oo];rfl
theorem j4p {n:Int}(h:-99<=n/\n<=99):Lib.itoa n=x8c n:=by
 unfold Lib.itoa x8c;split<;>rw[j2t oo]
theorem y6m (n:Int):(x8c n).length<=3:=by unfold x8c j7w;(repeat' split)<;>simp
def y4u:List (List UInt8):=[[],[105,110],[111,117,116],[114,97,99,107],[107,110,105,116],[116,117,99,107],[109,105,115,115],[120,102,101,114],[100,114,111,112]]
def x3s:List (List UInt8):=[[108,101,102,116],[114,105,103,104,116]]
def x1p (k:Int):List UInt8:=y4u.getD k.toNat []
def j0r (d:Int):List UInt8:=x3s.getD d.toNat []
theorem u2h {k:Int}(h:0<=k/\k<9):(y4u.map S)[k.toNat*1]?=some (S (x1p k)):=by
 rw[Nat.mul_one,List.getElem?_map,x1p,List.getD];have:k.toNat<y4u.length:=by simp only[y4u,List.length];omega
 rw[List.getElem?_eq_getElem this];rfl
theorem v0o {k:Int}(h:0<=k/\k<2):(x3s.map S)[k.toNat*1]?=some (S (j0r k)):=by
 rw[Nat.mul_one,List.getElem?_map,j0r,List.getD];have:k.toNat<x3s.length:=by simp only[x3s,List.length];omega
 rw[List.getElem?_eq_getElem this];rfl
def u2q (b p:Int):List UInt8:=if z4g b p≠0 then [] else if b=0 then [102]++x8c p else [98]++x8c p
def y5f (o:MOp):List (List UInt8):=
  if o.k=1 then [x8c o.y,j0r o.d] else if o.k=2 then [x8c o.y] else if o.k=3 then [x8c o.r]
  else if (o.k=4\/o.k=5)\/o.k=6 then [j0r o.d,u2q o.b o.p,x8c o.y] else if o.k=7\/o.k=8 then [u2q o.b o.p] else []
def j6c (o:MOp):List UInt8:=if y2p o≠0 then [] else Lib.join (x1p o.k::y5f o) [32]
theorem v1k {b p:Int}:z4g b p=0↔(b=0\/b=1)/\1<=p/\p<=40:=by unfold z4g;(repeat' split)<;>omega
theorem u5u {k:Int}(h:(z8q k).isSome=true):1<=k/\k<=8:=by unfold z8q at h;(repeat' split at h)<;>first|omega|simp at h
theorem j8z {o:MOp}(h:y2p o=0):y3b o/\-4<=o.r/\o.r<=4:=by
 unfold y2p at h;split at h;omega;rename_i D;split at h;omega;rename_i I;exact⟨Classical.not_not.1 D,oo,oo⟩
theorem v8z {o:MOp}(h:y2p o=0):1<=o.k/\o.k<=8/\0<=o.d/\o.d<=1/\0<=o.y/\o.y<=6/\-4<=o.r/\o.r<=4:=by
 obtain⟨⟨Z,D,h3,I,h5⟩,h6,h7⟩:=j8z h
 have O:=u5u Z
 generalize (z8q o.k).getD f40=f at D h3 I h5
 refine⟨O.1,O.2,?_,?_,?_,?_,h6,h7⟩<;>
 ·revert D I
  unfold pl1 pl3
  cases f.1<;>cases f.2.2.1<;>simp<;>omega
theorem u6m {b p:Int}:(u2q b p).length<=6:=by
 unfold u2q;split;simp;rename_i h;have D:=v1k.1 (Classical.not_not.1 h);have:=y6m p;split<;>simp<;>omega
theorem v6p (k:Int):(x1p k).length<=4:=by
 have:∀n:Nat,(y4u.getD n []).length<=4
  | 0|1|2|3|4|5|6|7|8=>by decide
  | n+9=>by simp[y4u,List.getD]
 exact this _
theorem u5a (k:Int):(j0r k).length<=5:=by
 have:∀n:Nat,(x3s.getD n []).length<=5
  | 0|1=>by decide
  | n+2=>by simp[x3s,List.getD]
 exact this _
theorem j7u (o:MOp):(y5f o).length<=3:=by unfold y5f;(repeat' split)<;>simp
theorem v2w (o:MOp)(h:y2p o=0):(Lib.join (x1p o.k::y5f o) [32]).length<=30:=by
 have hr:=v8z h;have D:=v6p o.k;have I:=u5a o.d;have O:=y6m o.y;have Z:=y6m o.r;have h5:=u6m (b:=o.b) (p:=o.p);rw[Lib.join_cons];unfold y5f Lib.joinTail;(repeat' split)<;>simp<;>omega
theorem x2h (o:MOp):(j6c o).length<=30:=by
 unfold j6c;split;simp;rename_i h;exact v2w o (Classical.not_not.1 h)
def MOp.Ok (o:MOp):Prop:=0<=o.k/\0<=o.d/\0<=o.b/\0<=o.y/\o.k<=255/\o.d<=255/\o.b<=255/\o.y<=255
end Go.Lw
namespace Go.G08
open Go.Lw Go.G21
abbrev Bed:=List (List LId)
structure Bd where
  f:Bed
  b:Bed
deriving DecidableEq
def z2v:Bed->Bed
  | []=>[]
  | s::l=>if z2v l=[]/\s=[] then [] else s::z2v l
def atB (l:Bed)(n:Int):List LId:=l.getD (n-1).toNat []
def Bd.at (B:Bd)(b n:Int):List LId:=if b=0 then atB B.f n else atB B.b n
def Bd.atC (B:Bd)(b n:Int):List LId:=if z4g b n=0 then B.at b n else []
def x6y (l:Bed)(n:Nat):Bed:=l++List.replicate (n-l.length) []
def y8l (l:Bed)(n:Nat)(s:List LId):Bed:=z2v (if n=0 then l else (x6y l n).set (n-1) s)
def Bd.put (B:Bd)(b n:Int)(s:List LId):Bd:=if b=0 then ⟨y8l B.f n.toNat s,z2v B.b⟩ else ⟨z2v B.f,y8l B.b n.toNat s⟩
def Bd.flat (B:Bd):List LId:=B.f.flatten++B.b.flatten
structure BdOk (B:Bd):Prop where
  lf:B.f.length<=40
  lb:B.b.length<=40
  ss:∀s∈B.f++B.b,s.length<=4
  nm:∀i∈B.flat,y3g i
  nd:B.flat.Nodup
structure BdW (B:Bd):Prop where
  lf:B.f.length<=40
  lb:B.b.length<=40
  ss:∀s∈B.f++B.b,s.length<=4
  nm:∀i∈B.flat,y3g i
theorem BdOk.w {B:Bd}(h:BdOk B):BdW B:=⟨h.lf,h.lb,h.ss,h.nm⟩
def z2s (b n r:Int):Int:=if z4g b n≠0\/¬(-4<=r/\r<=4) then 0 else if b=0 then 4*n+2 else 4*(n+r)
structure Hd where
  id:LId
  b:Int
  n:Int
  s:Int
deriving DecidableEq
def hd0:Hd:=⟨id0,0,0,0⟩
def hdS (b r:Int)(k:Nat)(x:LId):Hd:=⟨x,b,(k:Int)+1,z2s b ((k:Int)+1) r⟩
def hds (b r:Int)(l:Bed)(i:Nat):List Hd:=(List.range i).flatMap λk=>(l.getD k []).map (hdS b r k)
def u2r (B:Bd)(r:Int):List Hd:=hds 0 r B.f B.f.length++hds 1 r B.b B.b.length
def y4b (h:Hd):List Hd->List Hd
  | []=>[h]
  | x::l=>if h.s<x.s then h::x::l else x::y4b h l
def z5v (l:List Hd):List Hd:=l.foldl (λa h=>y4b h a) []
def z3h (B:Bd)(r:Int):List Hd:=z5v (u2r B r)
def btw (l:List Hd)(fr to:Int):List Pa:=
  if fr<to then (l.filter λh=>decide (fr<h.s/\h.s<to)).map λh=>⟨h.id,decide (h.b=1),1⟩
  else ((l.filter λh=>decide (to<h.s/\h.s<fr)).map λh=>⟨h.id,decide (h.b=1),0⟩).reverse
def y7g (d:Int)(x o:LId):Cx:=if d=0 then ⟨o,x,1⟩ else ⟨x,o,-1⟩
def z9p (r d:Int)(k:Nat):Int:=if d=0 then (k:Int)+1+r-1 else (k:Int)+1+r
def v1s (B:Bd)(r d:Int)(k:Nat):List Cx:=(B.b.getD k []).flatMap λx=>(B.atC 0 (z9p r d k)).reverse.map (y7g d x)
def x3e (B:Bd)(r d:Int)(i:Nat):List Cx:=(List.range i).flatMap (v1s B r d)
def z3q (B:Bd)(r d:Int):List Cx:=if d=1 then (x3e B r d B.b.length).reverse else x3e B r d B.b.length
def stI (d:Int):Int:=if d=0 then -1 else 1
def x4r (B:Bd)(r d p:Int)(k:Nat):List Pa:=if p≠z2s 1 ((k:Int)+1) r+stI d/\p≠z2s 1 ((k:Int)+1) r+3*stI d then [] else (B.b.getD k []).map λx=>⟨x,true,1-d⟩
def y8j (B:Bd)(r d p:Int)(i:Nat):List Pa:=(List.range i).flatMap (x4r B r d p)
def z8a (B:Bd)(r d p:Int):List Pa:=if d=1 then (y8j B r d p B.b.length).reverse else y8j B r d p B.b.length
def z5m (a b:LId):Int:=if a.y<b.y then -1 else if b.y<a.y then 1 else if a.n<b.n then -1 else if b.n<a.n then 1 else 0
def isC (a b:LId)(c:Cx):Bool:=decide (c.a=a/\c.b=b)
def z5n (l:List Cx)(a b:LId):Int:=((l.find? (isC a b)).map Cx.n).getD 0
def y9q (l:List Cx)(a b:LId)(n:Int):List Cx:=if l.any (isC a b) then l.map (λc=>if isC a b c then ⟨a,b,n⟩ else c) else l++[⟨a,b,n⟩]
def x9z (l:List Cx)(a b:LId):List Cx:=l.filter λc=>!isC a b c
def y8o (l:List Cx)(c:Cx):Except Int (List Cx):=
  let k:LId×LId:=if 0<z5m c.a c.b then (c.b,c.a) else (c.a,c.b)
  let n:=z5n l k.1 k.2+c.n
  if n < -1048576\/1048576<n then .error 3 else if n=0 then .ok (x9z l k.1 k.2) else .ok (y9q l k.1 k.2 n)
def z4s:List Cx->List Cx->Except Int (List Cx)
  | l,[]=>.ok l
  | l,c::r=>match y8o l c with|.error e=>.error e|.ok l'=>z4s l' r
structure MSt where
  rk:Int
  B:Bd
  ys:List Yn
  tb:Tb
  cr:List Cx
  fa:List LId
def yn0:Yn:=⟨false,0,0,false,[]⟩
def MSt.y (p:MSt)(y:Int):Yn:=p.ys.getD (y-1).toNat yn0
def MSt.setY (p:MSt)(y:Int)(q:Yn):MSt:={ p with ys:=p.ys.set (y-1).toNat q }
abbrev MR:=Except Int MSt
def lvS (y:Yn):Yn:=⟨false,0,y.ct,false,[]⟩
def mkS (y:Yn):Yn:=⟨true,y.pl,y.ct+1,false,[]⟩
def inM (p:MSt)(o:MOp):MR:=if enE (p.y o.y) o.d≠0 then .error (enE (p.y o.y) o.d) else .ok (p.setY o.y (enS (p.y o.y) o.d))
def v3m (p:MSt)(o:MOp):MR:=if lvE (p.y o.y)≠0 then .error (lvE (p.y o.y)) else .ok (p.setY o.y (lvS (p.y o.y)))
def z7i (p:MSt)(o:MOp):Int:=if (p.y o.y).inn=false then 12 else if o.d=1 then (if z2s o.b o.p p.rk<(p.y o.y).pl then 12 else 0) else if (p.y o.y).pl<z2s o.b o.p p.rk then 12 else 0
def behP (p:MSt)(o:MOp):Int:=if o.d=1 then z2s o.b o.p p.rk+1 else z2s o.b o.p p.rk-1
def y4z (p:MSt)(y en:Int):List Pa:=btw (z3h p.B p.rk) (p.y y).pl en
def y5y (p:MSt)(y pl en:Int):MR:=if goE (p.y y) pl (y4z p y en)≠0 then .error (goE (p.y y) pl (y4z p y en)) else .ok (p.setY y (goS (p.y y) pl (y4z p y en)))
def MSt.row (p:MSt)(y:Int):List Lp:=p.tb.getD (y-1).toNat []
def x2r (p:MSt)(o:MOp)(th st:List LId):MR:=
  if mkE (p.y o.y)≠0 then .error (mkE (p.y o.y)) else if 2048<=z4r p.tb then .error 3
  else .ok { p with B:=p.B.put o.b o.p (st++[⟨o.y,(p.y o.y).ct⟩]),ys:=p.ys.set (o.y-1).toNat (mkS (p.y o.y)),tb:=p.tb.set (o.y-1).toNat (p.row o.y++[⟨o.b,(p.y o.y).nw,th,(p.y o.y).pe⟩]) }
def y4c (p:MSt)(o:MOp):MR:=if z7i p o≠0 then .error (z7i p o) else match y5y p o.y (behP p o) (z2s o.b o.p p.rk) with
  | .error e=>.error e
  | .ok q=>x2r q o (q.B.at o.b o.p) []
def y2s (p:MSt)(o:MOp):MR:=if z7i p o≠0 then .error (z7i p o) else match y5y p o.y (behP p o) (z2s o.b o.p p.rk) with
  | .error e=>.error e
  | .ok q=>if 4<=(q.B.at o.b o.p).length then .error 9 else x2r q o [] (q.B.at o.b o.p)
def y6i (p:MSt)(o:MOp):MR:=if z7i p o≠0 then .error (z7i p o) else y5y p o.y (behP p o) (behP p o)
def z8d (b n r:Int):Int:=if b=1 then n+r else n-r
def u6v (p:MSt)(o:MOp):Int:=min (z2s o.b o.p p.rk) (z2s (1-o.b) (z8d o.b o.p p.rk) p.rk)+1
def y1a (p:MSt)(o:MOp):List LId:=if o.b=1 then p.B.at 1 o.p++p.B.at 0 (z8d 1 o.p p.rk) else p.B.at 1 (z8d 0 o.p p.rk)++p.B.at 0 o.p
def z9c (p:MSt)(o:MOp):MR:=
  if p.B.at o.b o.p=[] then .error 13
  else if z4g (1-o.b) (z8d o.b o.p p.rk)≠0 then .error 11
  else if ∃y∈p.ys,y.inn=true/\y.pl=u6v p o then .error 12
  else if 4<(p.B.at o.b o.p).length+(p.B.at (1-o.b) (z8d o.b o.p p.rk)).length then .error 9
  else .ok { p with B:=(p.B.put o.b o.p []).put (1-o.b) (z8d o.b o.p p.rk) (y1a p o) }
def y6f (p:MSt)(o:MOp):MR:=if p.B.at o.b o.p=[] then .error 13 else .ok { p with B:=p.B.put o.b o.p [],fa:=p.fa++p.B.at o.b o.p }
def z9o (p:MSt)(d:Int)(y:Yn):Except Int Yn:=if y.inn=false then .ok y else if goE y y.pl (z8a p.B p.rk d y.pl)≠0 then .error (goE y y.pl (z8a p.B p.rk d y.pl)) else .ok (goS y y.pl (z8a p.B p.rk d y.pl))
def z6u (p:MSt)(d:Int):List Yn->Except Int (List Yn)
  | []=>.ok []
  | y::l=>match z9o p d y with
    | .error e=>.error e
    | .ok y'=>match z6u p d l with
      | .error e=>.error e
      | .ok l'=>.ok (y'::l')
def z9l (p:MSt)(d:Int):MR:=match z6u p d p.ys with
  | .error e=>.error e
  | .ok ys=>match z4s p.cr (z3q p.B p.rk d) with
    | .error e=>.error e
    | .ok cr=>.ok { p with ys:=ys,cr:=cr,rk:=p.rk+stI d }
def z6m:Nat->MSt->Int->MR
  | 0,p,_=>.ok p
  | n+1,p,r=>if p.rk=r then .ok p else match z9l p (if r<p.rk then 0 else 1) with
    | .error e=>.error e
    | .ok q=>z6m n q r
def u3a (p:MSt)(o:MOp):MR:=z6m 8 p o.r
def opM (p:MSt)(o:MOp):MR:=
  if o.k=1 then inM p o else if o.k=2 then v3m p o else if o.k=3 then u3a p o else if o.k=4 then y4c p o
  else if o.k=5 then y2s p o else if o.k=6 then y6i p o else if o.k=7 then z9c p o else y6f p o
def doM (p:MSt)(o:MOp):MR:=if y2p o≠0 then .error (y2p o) else opM p o
def z8b:Nat->MSt->List MOp->Except (Int×Nat) MSt
  | _,p,[]=>.ok p
  | i,p,o::l=>match doM p o with
    | .error e=>.error (e,i)
    | .ok q=>z8b (i+1) q l
def start:MSt:=⟨0,⟨[],[]⟩,List.replicate 6 yn0,List.replicate 6 [],[],[]⟩
theorem y2j:∀(l:Bed) (i:Nat),(z2v l).getD i []=l.getD i []
 | [],i=>rfl
 | s::l,i=>by
  have D:=y2j l
  unfold z2v
  split
  ·rename_i h
   cases i with
   | zero=>simp[h.2]
   | succ i=>have:=D i;rw[h.1]at this;simpa using this
  cases i with
  | zero=>simp
  | succ i=>simpa using D i
theorem y3a:∀l:Bed,(z2v l).flatten=l.flatten
 | []=>rfl
 | s::l=>by
  have D:=y3a l
  unfold z2v
  split
  ·rename_i h
   rw[h.1]at D
   simp only[List.flatten_cons,<-D,h.2];rfl
  simp only[List.flatten_cons,D]
theorem y5k:∀l:Bed,(z2v l).length<=l.length
 | []=>Nat.le_refl _
 | s::l=>by
  have D:=y5k l
  unfold z2v
  split
  ·simp
  simp only[List.length_cons];omega
theorem y5q:∀(l:Bed) {s:List LId},s∈z2v l->s∈l
 | [],s,h=>h
 | t::l,s,h=>by
  unfold z2v at h
  split at h
  ·cases h
  rcases List.mem_cons.1 h with rfl|h
  ·exact List.mem_cons_self ..
  exact List.mem_cons_of_mem _ (y5q l h)
theorem v0d:∀l:Bed,(∀s∈l,s=[])->z2v l=[]
 | [],_=>rfl
 | s::l,h=>by
  unfold z2v
  rw[if_pos ⟨v0d l λt D=>h t (List.mem_cons_of_mem _ D),h s (List.mem_cons_self ..)⟩]
theorem y3z:∀(l:Bed) (n:Nat),n<=l.length->(∀j,n<=j->l.getD j []=[])->(n=0\/l.getD (n-1) []≠[])->l.take n=z2v l
 | [],n,h,_,_=>by simp[z2v]
 | s::l,0,_,h,_=>by
  rw[v0d]
  ·rfl
  intro t ht
  obtain⟨i,Z,rfl⟩:=List.getElem_of_mem ht
  have:=h i (Nat.zero_le _)
  rwa [List.getD,List.getElem?_eq_getElem Z]at this
 | s::l,n+1,hl,h,hn=>by
  have O:=y3z l n (by simpa using hl) (λj hj=>by have:=h (j+1) oo;simpa using this)
  unfold z2v
  cases n with
  | zero=>
   have hs:s≠[]:=by simpa using hn
   rw[if_neg (λe=>hs e.2)]
   have:=O (.inl U)
   simp only[List.take_succ_cons,List.take_zero,this] at *
  | succ n=>
   have D:l.getD n []≠[]:=by simpa using hn
   have:=O (.inr D)
   rw[if_neg,List.take_succ_cons,this]
   rintro⟨e,-⟩
   have I:=y2j l n
   rw[e]at I
   exact D (by simpa using I.symm)
theorem v2d (l:Bed)(n i:Nat):(x6y l n).getD i []=l.getD i []:=by
 unfold x6y;by_cases h:i<l.length;simp only[List.getD,List.getElem?_append_left h];rw[List.getD,List.getD,List.getElem?_append_right oo,List.getElem?_replicate,List.getElem?_eq_none oo];split<;>rfl
theorem u5d (l:Bed)(n:Nat):(x6y l n).flatten=l.flatten:=by
 unfold x6y;rw[List.flatten_append];have:(List.replicate (n-l.length) ([]:List LId)).flatten=[]:=by simp
 rw[this,List.append_nil]
theorem x2l (l:Bed)(n:Nat):(x6y l n).length=max l.length n:=by
 unfold x6y;rw[List.length_append,List.length_replicate];omega
theorem u6c (l:Bed){n:Nat}(hn:1<=n)(s:List LId)(i:Nat):(y8l l n s).getD i []=if i=n-1 then s else l.getD i []:=by
 unfold y8l;rw[y2j,if_neg oo,z1i (by rw[x2l];omega),v2d];split;rename_i e;rw[if_pos e.symm];rename_i e;rw[if_neg (λh=>e h.symm)]
theorem u7z {l:Bed}{n m:Int}(hn:1<=n)(D:1<=m)(s:List LId):atB (y8l l n.toNat s) m=if m=n then s else atB l m:=by
 unfold atB;rw[u6c _ oo];by_cases e:m=n;subst e;rw[if_pos oo,if_pos U];rw[if_neg oo,if_neg e]
theorem v5h (l:Bed)(n:Int):atB (z2v l) n=atB l n:=y2j l _
theorem x5u (l:Bed){n:Int}(hn:1<=n)(s:List LId)(i:LId):(y8l l n.toNat s).flatten.count i+(atB l n).count i=l.flatten.count i+s.count i:=by
 unfold y8l;rw[y3a,if_neg oo];have h:=z8u (α:=List LId) (λx=>x) (x6y l n.toNat) (n.toNat-1) [] s i (by rw[x2l];omega);simp only[List.flatMap_id']at h;rw[u5d,v2d]at h;have e:n.toNat-1=(n-1).toNat:=by omega
 unfold atB;rw[e]at h ⊢;omega
theorem u1u (l:Bed)(n:Nat)(s:List LId):(y8l l n s).length<=max l.length n:=by
 unfold y8l;refine Nat.le_trans (y5k _) ?_;split;omega;rw[List.length_set,x2l];exact Nat.le_refl _
theorem u9r (l:Bed)(n:Nat)(s:List LId){t:List LId}(h:t∈y8l l n s):t=s\/t∈l\/t=[]:=by
 unfold y8l at h;have h:=y5q _ h;split at h;exact .inr (.inl h);rcases List.mem_or_eq_of_mem_set h with h|h
 unfold x6y at h;rcases List.mem_append.1 h with h|h
 exact .inr (.inl h);exact .inr (.inr (List.eq_of_mem_replicate h));exact .inl h
theorem z3n {b n:Int}(h:z4g b n=0):(b=0\/b=1)/\1<=n/\n<=40:=by
 unfold z4g at h;split at h;omega;split at h<;>omega
theorem z2c {b n:Int}(h:(b=0\/b=1)/\1<=n/\n<=40):z4g b n=0:=by
 unfold z4g;rw[if_neg oo,if_neg oo]
theorem z4n (B:Bd){b n:Int}(h:z4g b n=0)(s:List LId)(i:LId):(B.put b n s).flat.count i+(B.at b n).count i=B.flat.count i+s.count i:=by
 obtain⟨I,D,O⟩:=z3n h;unfold Bd.put Bd.at Bd.flat;split;simp only[List.count_append,y3a];have:=x5u B.f D s i;omega;simp only[List.count_append,y3a];have:=x5u B.b D s i;omega
theorem z5r (B:Bd){b n b' D:Int}(h:z4g b n=0)(Z:z4g b' D=0)(s:List LId):(B.put b n s).at b' D=if b'=b/\D=n then s else B.at b' D:=by
 obtain⟨h1,I,h3⟩:=z3n h;obtain⟨h4,O,h6⟩:=z3n Z;unfold Bd.put Bd.at;by_cases e:b=0;rw[if_pos e];by_cases e':b'=0;rw[if_pos e',u7z I O];by_cases e2:D=n;rw[if_pos e2,if_pos ⟨oo,e2⟩];rw[if_neg e2,if_neg (λk=>e2 k.2),if_pos e'];rw[if_neg e',v5h,if_neg (λk=>oo),if_neg e'];rw[if_neg e];by_cases e':b'=0;rw[if_pos e',v5h,if_neg (λk=>oo),if_pos e'];rw[if_neg e',u7z I O];by_cases e2:D=n;rw[if_pos e2,if_pos ⟨oo,e2⟩];rw[if_neg e2,if_neg (λk=>e2 k.2),if_neg e']
theorem v7s {l:Bed}{n:Int}(h:atB l n≠[]):atB l n∈l:=by
 unfold atB at *
 by_cases e:(n-1).toNat<l.length;exact z1b e;exact absurd (by rw[List.getD,List.getElem?_eq_none oo];rfl) h
theorem x7f {B:Bd}{b n:Int}(h:B.at b n≠[]):B.at b n∈B.f++B.b:=by
 unfold Bd.at at *
 split;rename_i e;rw[if_pos e]at h;exact List.mem_append_left _ (v7s h);rename_i e;rw[if_neg e]at h;exact List.mem_append_right _ (v7s h)
theorem y2e {B:Bd}(h:BdOk B)(b n:Int):(B.at b n).length<=4:=by
 by_cases e:B.at b n=[];rw[e];simp;exact h.ss _ (x7f e)
theorem u0g (B:Bd):B.flat=(B.f++B.b).flatten:=by unfold Bd.flat;rw[List.flatten_append]
theorem z6z {B:Bd}{b n:Int}{i:LId}(h:i∈B.at b n):i∈B.flat:=by
 rw[u0g];exact List.mem_flatten.2 ⟨_,x7f (λe=>by rw[e]at h;cases h),h⟩
theorem y2n {B:Bd}{b n:Int}(h:z4g b n=0){s:List LId}{i:LId}(D:i∈(B.put b n s).flat):i∈s\/i∈B.flat:=by
 have:=z4n B h s i;have I:=List.count_pos_iff.2 D;by_cases e:0<s.count i;exact .inl (List.count_pos_iff.1 e);exact .inr (List.count_pos_iff.1 oo)
theorem BdOk.put {B:Bd}(h:BdOk B){b n:Int}(hn:z4g b n=0){s:List LId}(h4:s.length<=4)(a1:∀i∈s,y3g i)(a0:∀i,B.flat.count i+s.count i<=(B.at b n).count i+1):BdOk (B.put b n s):=by
 obtain⟨h1,h2,h3⟩:=z3n hn;have hl:=h.lf;have Z:=h.lb;refine⟨?_,?_,?_,?_,?_⟩;unfold Bd.put;split;have:=u1u B.f n.toNat s;simp only;omega;have:=y5k B.f;simp only;omega;unfold Bd.put;split;have:=y5k B.b;simp only;omega;have:=u1u B.b n.toNat s;simp only;omega;intro t D;unfold Bd.put at D;have O:∀l:Bed,(∀s∈l,s.length<=4)->∀t∈y8l l n.toNat s,t.length<=4:=λl hl t D=>by
  rcases u9r l _ s D with rfl|D|rfl
  exact h4;exact hl t D;simp
 have hf:∀s∈B.f,s.length<=4:=λs hs=>h.ss s (List.mem_append_left _ hs);have Z:∀s∈B.b,s.length<=4:=λs hs=>h.ss s (List.mem_append_right _ hs);split at D;rcases List.mem_append.1 D with D|D
 exact O _ hf _ D;exact Z _ (y5q _ D);rcases List.mem_append.1 D with D|D
 exact hf _ (y5q _ D);exact O _ Z _ D;intro i I;rcases y2n hn I with I|I
 exact a1 i I;exact h.nm i I;rw[List.nodup_iff_count];intro i;have:=z4n B hn s i;have:=a0 i;omega
structure MInv (p:MSt):Prop where
  rk:-4<=p.rk/\p.rk<=4
  B:BdOk p.B
  ly:p.ys.length=6
  lt:p.tb.length=6
  yn:∀y,y<6->y1z (p.ys.getD y yn0)/\(p.ys.getD y yn0).ct=z3w p.tb y
  has:∀i∈p.B.flat,z5h p.tb i
  cnt:p.B.flat.length+p.fa.length<=z4r p.tb
  all:z4r p.tb<=2048
  cv:∀c∈p.cr,-1048576<=c.n/\c.n<=1048576
theorem y7w:MInv start:=by
 refine⟨dd,⟨dd,dd,by intro s O;simp[start]at O,by intro i D;simp[start,Bd.flat]at D,by simp[start,Bd.flat]⟩,rfl,rfl,λy Z=>?_,by intro i D;simp[start,Bd.flat]at D,dd,dd,by intro c I;simp[start]at I⟩;have:start.ys.getD y yn0=yn0:=by
  simp only[start,List.getD,List.getElem?_replicate];split<;>rfl
 rw[this];refine⟨dd,?_⟩;simp only[start,z3w,List.getD,List.getElem?_replicate];rw[if_pos Z];rfl
theorem z7b {o:MOp}(h:y2p o=0):(o.k=1\/o.k=2\/o.k=3\/o.k=4\/o.k=5\/o.k=6\/o.k=7\/o.k=8)/\(o.k=1->z6v o.d)/\((o.k=1\/o.k=2\/o.k=4\/o.k=5\/o.k=6)->1<=o.y/\o.y<=6)/\((o.k=4\/o.k=5\/o.k=6)->z6v o.d)/\((4<=o.k)->z4g o.b o.p=0)/\(o.k=3->-4<=o.r/\o.r<=4):=by
 unfold y2p at h
 split at h
 ·omega
 rename_i I
 have I:=Classical.not_not.1 I
 split at h
 ·omega
 rename_i hr
 obtain⟨D,O,Z,h4,h5⟩:=I
 unfold z8q at D O Z h4 h5
 unfold z6v
 unfold pl1 at O
 unfold pl2 at Z
 unfold pl3 at h4
 unfold pl4 at h5
 have a0:∀a:Int,¬(a≠0)->a=0:=λa h=>by omega
 repeat' split at D
 all_goals first|(simp at D;done)|skip
 all_goals simp_all
 all_goals omega
structure BdQ where
  f:SV
  b:SV
  fs:List IQ
  bs:List IQ
abbrev plB (l:List IQ):Bed:=l.map Prod.snd
abbrev BdQ.p (q:BdQ):Bd:=⟨plB q.fs,plB q.bs⟩
abbrev bdL (q:BdQ):List Value:=[.slice q.f.1 q.f.2.1 q.f.2.2,.slice q.b.1 q.b.2.1 q.b.2.2]
structure BdAt (w:World) (q:BdQ):Prop where
  f:Sl z7g w (slv q.f) q.fs
  fi:IqAt w q.fs
  b:Sl z7g w (slv q.b) q.bs
  bi:IqAt w q.bs
theorem BdAt.ext {w w':World}{q:BdQ}(h:BdAt w q)(hf:Fr [] w w'):BdAt w' q:=⟨h.f.ext hf,h.fi.ext hf,h.b.ext hf,h.bi.ext hf⟩
def RwO (S I base:Nat)(w:World)(v:Value)(l:List IQ):Prop:=Lw.Own z7g S base w v l/\∀q∈l,Lw.Own z1j I base w (slv q.1) q.2
theorem RwO.ext {S I base:Nat}{w w':World}{v:Value}{l:List IQ}(h:RwO S I base w v l)(hf:Fr [] w w'):RwO S I base w' v l:=⟨h.1.ext hf,λq D=>(h.2 q D).ext hf⟩
theorem RwO.low {S I base b:Nat}{w:World}{v:Value}{l:List IQ}(h:RwO S I base w v l)(hb:b<=base):RwO S I b w v l:=⟨h.1.low hb,λq D=>(h.2 q D).low hb⟩
theorem RwO.at {S I base:Nat}{w:World}{v:Value}{l:List IQ}(h:RwO S I base w v l):IqAt w l:=λq D=>(h.2 q D).sl
theorem RwO.fr {S I base:Nat}{w w':World}{v:Value}{l:List IQ}{T:List Nat}(h:RwO S I base w v l)(hf:Fr T w w')(Z:∀k∈T,k<base):RwO S I base w' v l:=
 ⟨h.1.fr hf λk O D=>by have:=Z k O;have:=(h.1.blk k D).1;omega,λq hq=>(h.2 q hq).fr hf λk O D=>by have:=Z k O;have:=((h.2 q hq).blk k D).1;omega⟩
structure BdO (S I base:Nat) (w:World) (q:BdQ):Prop where
  f:RwO S I base w (slv q.f) q.fs
  b:RwO S I base w (slv q.b) q.bs
theorem BdO.ext {S I base:Nat}{w w':World}{q:BdQ}(h:BdO S I base w q)(hf:Fr [] w w'):BdO S I base w' q:=⟨h.f.ext hf,h.b.ext hf⟩
theorem BdO.low {S I base b:Nat}{w:World}{q:BdQ}(h:BdO S I base w q)(hb:b<=base):BdO S I b w q:=⟨h.f.low hb,h.b.low hb⟩
theorem BdO.at {S I base:Nat}{w:World}{q:BdQ}(h:BdO S I base w q):BdAt w q:=⟨h.f.1.sl,h.f.at,h.b.1.sl,h.b.at⟩
theorem z4x (l:List IQ)(i:Nat):(plB l).getD i []=(l.getD i iq0).2:=by
 unfold plB;rw[List.getD,List.getD,List.getElem?_map];cases l[i]?<;>rfl
theorem v2n {l:List IQ}{i:Nat}(h:l.length<=i):(l.getD i iq0).2=[]:=by rw[List.getD,List.getElem?_eq_none h];rfl
theorem v6j (l:List IQ)(n M:Nat)(hM:M=max l.length n):plB (l++List.replicate (M-l.length) iq0)=x6y (plB l) n:=by
 unfold x6y plB;rw[List.map_append,List.map_replicate,List.length_map];congr 2;omega
theorem u7x (w:World):Sl z1j w (slv iq0.1) iq0.2:=Sl.nil w
theorem v2e {w:World}{l:List IQ}{k:Nat}(h:IqAt w l):IqAt w (l++List.replicate k iq0):=λq D=>by
 rcases List.mem_append.1 D with D|D
 ·exact h q D
 rw[List.eq_of_mem_replicate D];exact u7x w
theorem u4i {w:World}{l:List IQ}{i:Nat}{q:IQ}(h:IqAt w l)(I:Sl z1j w (slv q.1) q.2):IqAt w (l.set i q):=λp D=>by
 rcases List.mem_or_eq_of_mem_set D with D|rfl
 ·exact h p D
 exact I
def y0w (l:List IQ):Prop:=∀q∈l,q.2.length<=4
theorem v1r {l:List IQ}{k:Nat}(h:y0w l):y0w (l++List.replicate k iq0):=λq D=>by
 rcases List.mem_append.1 D with D|D
 ·exact h q D
 rw[List.eq_of_mem_replicate D];exact Nat.zero_le _
theorem u7f {l:List IQ}{i:Nat}{q:IQ}(h:y0w l)(I:q.2.length<=4):y0w (l.set i q):=λp D=>by
 rcases List.mem_or_eq_of_mem_set D with D|rfl
 ·exact h p D
 exact I
theorem z4e {l:List IQ}(h:y0w l)(i:Nat):(l.getD i iq0).2.length<=4:=by
 by_cases e:i<l.length;exact h _ (z1b e);rw[v2n oo];simp
theorem z1p {w:World}{l:List IQ}(h:IqAt w l)(i:Nat):Sl z1j w (slv (l.getD i iq0).1) (l.getD i iq0).2:=by
 by_cases e:i<l.length;exact h _ (z1b e);rw[List.getD,List.getElem?_eq_none oo];exact u7x w
theorem j4y {l m:List IQ}(h:y0w l)(e:plB m=plB l):y0w m:=λq O=>by
 have:q.2∈plB l:=by rw[<-e];exact List.mem_map_of_mem O
 obtain⟨q',D,I⟩:=List.mem_map.1 this
 rw[<-I];exact h q' D
theorem j1e {l:List IQ}{i:Nat}{q:IQ}(h:q.2=(l.getD i iq0).2):plB (l.set i q)=plB l:=by
 unfold plB;rw[List.map_set];apply List.ext_getElem?;intro j;rw[List.getElem?_set];split;rename_i e;subst e;split;rename_i D;rw[List.length_map]at D;rw[List.getElem?_map,List.getElem?_eq_getElem D,h,List.getD,List.getElem?_eq_getElem D];rfl;rename_i D;rw[List.getElem?_eq_none oo];rfl
def BdQ.sv (q:BdQ)(b:Int):SV:=if b=1 then q.b else q.f
def BdQ.l (q:BdQ)(b:Int):List IQ:=if b=1 then q.bs else q.fs
theorem BdAt.sel {w:World}{q:BdQ}(h:BdAt w q)(b:Int):Sl z7g w (slv (q.sv b)) (q.l b)/\IqAt w (q.l b):=by
 unfold BdQ.sv BdQ.l;split;exact⟨h.b,h.bi⟩;exact⟨h.f,h.fi⟩
theorem BdQ.at_l (q:BdQ){b p:Int}(hn:z4g b p=0):((q.l b).getD (p-1).toNat iq0).2=q.p.at b p:=by
 obtain⟨D,_,_⟩:=z3n hn;unfold BdQ.l Bd.at atB;split;rw[if_neg oo,z4x];rw[if_pos oo,z4x]
theorem u9o (l:Bed):y8l l 0 []=z2v l:=by unfold y8l;rw[if_pos U]
theorem k4b (B:Bd){b:Int}(n:Nat)(s:List LId)(h:b=0):(⟨y8l B.f n s,y8l B.b 0 []⟩:Bd)=B.put b (n:Int) s:=by
 unfold Bd.put;rw[if_pos h,u9o,Int.toNat_natCast]
theorem k5r (B:Bd){b:Int}(n:Nat)(s:List LId)(h:¬b=0):(⟨y8l B.f 0 [],y8l B.b n s⟩:Bd)=B.put b (n:Int) s:=by
 unfold Bd.put;rw[if_neg h,u9o,Int.toNat_natCast]
def PreO (I base:Nat)(w:World)(l:List IQ)(i:Nat):Prop:=∀j,j<i->Lw.Own z1j I base w (slv (l.getD j iq0).1) (l.getD j iq0).2
theorem PreO.zero {I base:Nat}{w:World}{l:List IQ}:PreO I base w l 0:=λj D=>absurd D oo
theorem PreO.ext {I base i:Nat}{w w':World}{l:List IQ}(h:PreO I base w l i)(hf:Fr [] w w'):PreO I base w' l i:=λj D=>(h j D).ext hf
theorem PreO.fr {I base i:Nat}{w w':World}{l:List IQ}{S:List Nat}(h:PreO I base w l i)(hf:Fr S w w')(O:∀k∈S,k<base):PreO I base w' l i:=λj D=>(h j D).fr hf λk hk Z=>by
 have:=O k hk;have:=((h j D).blk k Z).1;omega
theorem PreO.put {I base i:Nat}{w:World}{l:List IQ}{q:IQ}(h:PreO I base w l i)(D:i<l.length)(O:Lw.Own z1j I base w (slv q.1) q.2):PreO I base w (l.set i q) (i+1):=λj Z=>by
 rw[z1i D]
 split
 ·exact O
 exact h j oo
theorem PreO.all {I base b:Nat}{w:World}{l:List IQ}(h:PreO I base w l l.length)(hb:b<=base):∀q∈l,Lw.Own z1j I b w (slv q.1) q.2:=λq O=>by
 obtain⟨j,D,rfl⟩:=List.getElem_of_mem O
 have:=h j D
 rw[List.getD,List.getElem?_eq_getElem D]at this
 exact this.low hb
theorem v9g {w:World}{l m:List IQ}{n:Nat}(e:m=l.take n)(h:IqAt w l):IqAt w m:=λq D=>h q (List.mem_of_mem_take (e▸D))
theorem u7a {l m:List IQ}{i:Nat}{q:IQ}(h:∀j,i<=j->l.getD j iq0=m.getD j iq0)(D:i<l.length):∀j,i+1<=j->(l.set i q).getD j iq0=m.getD j iq0:=λj I=>by
 rw[z1i D,if_neg oo];exact h j oo
theorem j5c {D ls qs:List IQ}{m n:Nat}{s:List LId}(I:ls=D.take m)(O:(plB D).take m=z2v (plB D))(Z:plB D=if n=0 then plB qs else (x6y (plB qs) n).set (n-1) s):plB ls=y8l (plB qs) n s:=by
 rw[I];unfold plB at *
 rw[List.map_take,O,Z];rfl
theorem u3v {qs:List IQ}{n M:Nat}{s:List LId}(hn:n=0)(hM:M=max qs.length n):plB (qs++List.replicate (M-qs.length) iq0)=(if n=0 then plB qs else (x6y (plB qs) n).set (n-1) s):=by
 subst hn;rw[if_pos U,v6j qs 0 M hM];unfold x6y;simp
theorem j2h {qs:List IQ}{n M:Nat}{q:IQ}(hn:0<n)(hM:M=max qs.length n):plB ((qs++List.replicate (M-qs.length) iq0).set (n-1) q)=(if n=0 then plB qs else (x6y (plB qs) n).set (n-1) q.2):=by
 rw[if_neg oo,<-v6j qs n M hM];exact List.map_set
end Go.G08
namespace Go.Lw
open Go.RowKit
structure KeyLaw {κ:Type} [DecidableEq κ] (P:Program) (K:TypeId) (V:κ->Value):Prop where
  check:∀b k (w:World),(Instr.checkKey b 10000 K (V k)).run P w=.ok () w
  find:∀k (es:List MapEntry) (ks:List κ) (w:World),es.map (·.key)=ks.map V->
    (Instr.findKey K (V k) es).run P w=.ok ((ks.findIdx? (λx=>decide (k=x))).bind λi=>(es[i]?).map λe=>(i,e.val)) w
  bits:∀k,Instr.sameBits 10000 (V k) (V k)=true
def z2t {κ:Type}[DecidableEq κ]:List (κ×Value)->κ->Option Value
  | [],_=>none
  | p::r,k=>if k=p.1 then some p.2 else z2t r k
def MapF {κ:Type}[DecidableEq κ](V:κ->Value)(w:World)(g:Nat)(f:κ->Option Value):Prop:=
  ∃(es:Array MapEntry) (c:Nat) (m:List (κ×Value)),w.heap[g]?=some (.map es c)/\es.toList.map (λe=>(e.key,e.val))=m.map (λp=>(V p.1,p.2))/\∀k,z2t m k=f k
section
variable {κ:Type} [DecidableEq κ] {V:κ->Value} {P:Program} {K:TypeId}
theorem y2f (I:∀k k' (w:World),(Op.equal K (V k) (V k')).run P w=.ok (decide (k=k')) w)(k:κ):∀(D:List MapEntry) (ks:List κ) (i:Nat) (w:World),D.map (·.key)=ks.map V->
    (Instr.findAsking K (V k) D i).run P w=.ok ((ks.findIdx? (λx=>decide (k=x))).bind λj=>(D[j]?).map λe=>(i+j,e.val)) w
  | [],[],i,w,_=>by simp[Instr.findAsking]
  | [],_::_,_,_,h=>by simp at h
  | _::_,[],_,_,h=>by simp at h
  | e::D,x::ks,i,w,h=>by
    simp only[List.map_cons,List.cons.injEq]at h
    have O:=y2f I k D ks (i+1) w h.2
    simp only[Instr.findAsking,h.1,Sem.run_bind,I k x w,Result.andThen_ok]
    by_cases hx:k=x
    · simp[hx,List.findIdx?_cons]
    · simp only[hx,decide_false,Bool.false_eq_true,if_false,O,List.findIdx?_cons,Option.bind_map]
      congr 1
      cases hf:ks.findIdx? (λx=>decide (k=x)) with
      | none=>simp
      | some j=>simp[Nat.add_assoc,Nat.add_comm 1 j]
theorem KeyLaw.asking {d:TypeDesc}(O:P.underlying K=some d)(hs:∀k k',Instr.sameNow d (V k) (V k')=none)(Z:∀b k (w:World),(Instr.checkKey b 10000 K (V k)).run P w=.ok () w)
    (heq:∀k k' (w:World),(Op.equal K (V k) (V k')).run P w=.ok (decide (k=k')) w) (hb:∀k,Instr.sameBits 10000 (V k) (V k)=true):KeyLaw P K V:=by
  refine⟨Z,λk I D w h=>?_,hb⟩
  cases I with
  | nil=>
    cases D with
    | nil=>simp[Instr.findKey,run_underlying O,Instr.findNow]
    | cons x D=>simp at h
  | cons e I=>
    cases D with
    | nil=>simp at h
    | cons x D=>
      have hn:Instr.findNow d (V k) (e::I) 0=none:=by
        simp only[List.map_cons,List.cons.injEq]at h
        simp[Instr.findNow,h.1,hs]
      have:=y2f heq k (e::I) (x::D) 0 w h
      simp only[Instr.findKey,Sem.run_bind,run_underlying O,Result.andThen_ok,hn,this,Nat.zero_add]
theorem y9d {d:TypeDesc}(I:∀k k',Instr.sameNow d (V k) (V k')=some (decide (k=k')))(k:κ):∀(D:List MapEntry) (ks:List κ) (i:Nat),D.map (·.key)=ks.map V->
    Instr.findNow d (V k) D i=some ((ks.findIdx? (λx=>decide (k=x))).bind λj=>(D[j]?).map λe=>(i+j,e.val))
  | [],[],i,_=>by simp[Instr.findNow]
  | [],_::_,_,h=>by simp at h
  | _::_,[],_,h=>by simp at h
  | e::D,x::ks,i,h=>by
    simp only[List.map_cons,List.cons.injEq]at h
    have O:=y9d I k D ks (i+1) h.2
    simp only[Instr.findNow,h.1,I]
    by_cases hx:k=x
    · simp[hx,List.findIdx?_cons]
    · simp only[hx,decide_false,O,List.findIdx?_cons,Bool.false_eq_true,if_false,Option.bind_map]
      congr 2
      funext j;simp[Nat.add_assoc,Nat.add_comm 1 j]
theorem KeyLaw.now {d:TypeDesc}(Z:P.underlying K=some d)(O:∀k k',Instr.sameNow d (V k) (V k')=some (decide (k=k')))(I:∀b k (w:World),(Instr.checkKey b 10000 K (V k)).run P w=.ok () w)
    (hb:∀k,Instr.sameBits 10000 (V k) (V k)=true):KeyLaw P K V:=by
  refine⟨I,λk D ks w h=>?_,hb⟩
  have:=y9d O k D ks 0 h
  simp only[Instr.findKey,Sem.run_bind,run_underlying Z,Result.andThen_ok,this,Nat.zero_add,Sem.run_pure]
theorem y4f (m:List (κ×Value))(k:κ):∀(D:List MapEntry),D.map (λe=>(e.key,e.val))=m.map (λp=>(V p.1,p.2))->
    (((m.map (·.1)).findIdx? (λx=>decide (k=x))).bind λi=>(D[i]?).map λe=>(i,e.val)).map (·.2)=z2t m k:=by
  induction m with
  | nil=>intro D h;simp[z2t]
  | cons p m ih=>
    intro D h
    match D,h with
    | e::D,h=>
      simp only[List.map_cons,List.cons.injEq,Prod.mk.injEq]at h
      have:=ih D h.2
      unfold z2t
      by_cases hk:k=p.1
      · simp[hk,List.findIdx?_cons,h.1.2]
      · simp only[List.map_cons,List.findIdx?_cons,hk,decide_false,if_false,Bool.false_eq_true]
        rw[<-this]
        cases (m.map (·.1)).findIdx? (λx=>decide (k=x)) with
        | none=>simp
        | some j=>
          simp
          rfl
def z4o (m:List (κ×Value))(k:κ)(v:Value):List (κ×Value):=
  match (m.map (·.1)).findIdx? (λx=>decide (k=x)) with
  | some i=>m.modify i λp=>(p.1,v)
  | none=>m++[(k,v)]
theorem y5a (m:List (κ×Value))(k k':κ)(v:Value):(m.map (·.1)).findIdx? (λx=>decide (k=x))=none->z2t (m++[(k,v)]) k'=if k'=k then some v else z2t m k':=by
 induction m with
 | nil=>intro _;simp[z2t]
 | cons p m ih=>
  intro h;simp only[List.map_cons,List.findIdx?_cons]at h;split at h;cases h;rename_i I;have D:¬k=p.1:=by simpa using I
  have:=ih (by simpa using h);simp only[List.cons_append,z2t,this];by_cases e:k'=p.1;subst e;simp[Ne.symm D];simp[e]
theorem z9w (k k':κ)(v:Value):∀(m:List (κ×Value)) (i:Nat),(m.map (·.1)).findIdx? (λx=>decide (k=x))=some i->z2t (m.modify i λp=>(p.1,v)) k'=if k'=k then some v else z2t m k'
 | [],i,h=>by simp at h
 | p::m,i,h=>by
  simp only[List.map_cons,List.findIdx?_cons]at h
  split at h
  ·rename_i I
   have D:k=p.1:=by simpa using I
   simp at h;subst h
   simp only[List.modify_zero_cons,z2t,D]
   by_cases e:k'=p.1<;>simp[e]
  rename_i I
  have D:¬k=p.1:=by simpa using I
  cases hf:(m.map (·.1)).findIdx? (λx=>decide (k=x)) with
  | none=>rw[hf]at h;simp at h
  | some j=>
   rw[hf]at h;simp at h;subst h
   have:=z9w k k' v m j hf
   simp only[List.modify_succ_cons,z2t,this]
   by_cases e:k'=p.1
   ·subst e;simp[Ne.symm D]
   simp[e]
theorem MapF.fr {w w':World}{g:Nat}{f:κ->Option Value}{S:List Nat}(h:MapF V w g f)(hf:Fr S w w')(hn:g∉S:=by simp[z0u]<;>omega):MapF V w' g f:=by
 obtain⟨I,c,m,D,O,Z⟩:=h;exact⟨I,c,m,(hf.block g (Array.getElem?_eq_some_iff.1 D).1 hn).trans D,O,Z⟩
theorem MapF.ext {w w':World}{g:Nat}{f:κ->Option Value}(h:MapF V w g f)(hf:Fr [] w w'):MapF V w' g f:=h.fr hf sp0
theorem MapF.lt {w:World}{g:Nat}{f:κ->Option Value}(h:MapF V w g f):g<w.heap.size:=let ⟨_,_,_,h1,_⟩:=h;(Array.getElem?_eq_some_iff.1 h1).1
theorem MapF.ne_blk {w:World}{g D T:Nat}{f:κ->Option Value}{cs:List Value}(h:MapF V w g f)(I:Blk w D T cs):g≠D:=by
 rintro rfl;obtain⟨_,_,_,O,_⟩:=h;unfold Blk at I;rw[I]at O;cases O
theorem z2x {w:World}{g:Nat}{D:Array MapEntry}{c:Nat}(h:w.heap[g]?=some (.map D c)):(getObj g).run P w=.ok (.map D c) w:=by
 simp[getObj,Sem.run,h]
theorem x0c {w:World}{g:Nat}{f:κ->Option Value}{t E:TypeId}{z:Value}(h:MapF V w g f)(hk:KeyLaw P K V)(hu:P.underlying t=some (.map K E))(hz:(zeroValue E).run P w=.ok z w)(k:κ) :
    (Instr.lookup t (.map (some g)) (V k) false).run P w=.ok ((f k).getD z) w:=by
  obtain⟨Z,c,m,h1,h2,h3⟩:=h
  have O:Z.toList.map (·.key)=(m.map (·.1)).map V:=by
    have:=congrArg (List.map Prod.fst) h2
    simpa[List.map_map,Function.comp_def] using this
  have I:=hk.find k Z.toList (m.map (·.1)) w O
  have D:=y4f (V:=V) m k Z.toList h2
  rw[h3]at D
  generalize ((m.map (·.1)).findIdx? (λx=>decide (k=x))).bind (λi=>(Z.toList[i]?).map λe=>(i,e.val))=r at I D
  cases r with
  | none=>simp at D;simp[Instr.lookup,run_underlying hu,z2x h1,hk.check,I,hz,<-D]
  | some p=>simp at D;simp[Instr.lookup,run_underlying hu,z2x h1,hk.check,I,<-D]
theorem x8w {w:World}{g:Nat}{f:κ->Option Value}{t E:TypeId}{z:Value}(h:MapF V w g f)(hk:KeyLaw P K V)(hu:P.underlying t=some (.map K E))(hz:(zeroValue E).run P w=.ok z w)(k:κ) :
    (Instr.lookup t (.map (some g)) (V k) true).run P w=.ok (.tuple #[(f k).getD z,.bool (f k).isSome]) w:=by
  obtain⟨Z,c,m,h1,h2,h3⟩:=h
  have O:Z.toList.map (·.key)=(m.map (·.1)).map V:=by
    have:=congrArg (List.map Prod.fst) h2
    simpa[List.map_map,Function.comp_def] using this
  have I:=hk.find k Z.toList (m.map (·.1)) w O
  have D:=y4f (V:=V) m k Z.toList h2
  rw[h3]at D
  generalize ((m.map (·.1)).findIdx? (λx=>decide (k=x))).bind (λi=>(Z.toList[i]?).map λe=>(i,e.val))=r at I D
  cases r with
  | none=>simp at D;simp[Instr.lookup,run_underlying hu,z2x h1,hk.check,I,hz,<-D]
  | some p=>simp at D;simp[Instr.lookup,run_underlying hu,z2x h1,hk.check,I,<-D]
theorem y3l {w:World}{g:Nat}{f:κ->Option Value}{t E:TypeId}(h:MapF V w g f)(hk:KeyLaw P K V)(hu:P.underlying t=some (.map K E))(k:κ)(v:Value) :
    ∃w',(Instr.mapUpdate t (.map (some g)) (V k) v).run P w=.ok () w'/\MapF V w' g (λk'=>if k'=k then some v else f k')/\Fr [g] w w'/\w'.heap.size=w.heap.size:=by
  obtain⟨D,c,m,h1,h2,h3⟩:=h
  have a7:=(Array.getElem?_eq_some_iff.1 h1).1
  have Z:D.toList.map (·.key)=(m.map (·.1)).map V:=by
    have:=congrArg (List.map Prod.fst) h2
    simpa[List.map_map,Function.comp_def] using this
  have I:=hk.find k D.toList (m.map (·.1)) w Z
  have a1:∀o,(setObj g o).run P w=.ok () { w with heap:=w.heap.setIfInBounds g o }:=by intro o;simp[setObj,Sem.run,h1]
  have a4:∀o,Fr [g] w { w with heap:=w.heap.setIfInBounds g o }:=λo=>⟨rfl,rfl,rfl,sp0,λi _ hn=>by
    simp only
    rw[Array.getElem?_setIfInBounds_ne (by intro e;subst e;simp at hn)]⟩
  have O:∀o,({ w with heap:=w.heap.setIfInBounds g o }:World).heap[g]?=some o:=by intro o;simp[a7]
  have a9:D.toList.length=m.length:=by have:=congrArg List.length h2;simpa using this
  cases hf:(m.map (·.1)).findIdx? (λx=>decide (k=x)) with
  | none=>
    refine⟨_,?_,⟨_,_,m++[(k,v)],O (.map (D.push { key:=V k,val:=v,born:=c }) (c+1)),?_,λk'=>?_⟩,a4 _,sp0⟩
    · rw[hf]at I
      simp only[Instr.mapUpdate,Sem.run_bind,run_underlying hu,Result.andThen_ok,z2x h1,hk.check,I,Option.bind_none,a1]
    · simp[h2]
    · rw[y5a m k k' v hf,h3]
  | some i=>
    have hi:i<m.length:=by
      have:=List.findIdx?_eq_some_iff_findIdx_eq.1 hf
      simpa using this.1
    have a0:i<D.toList.length:=by omega
    have a5:V k=(D.toList[i]).key:=by
      have a6:=List.findIdx?_eq_some_iff_getElem.1 hf
      obtain⟨b0,hp,_⟩:=a6
      have a8:k=(m.map (·.1))[i]:=by simpa using hp
      have e1:(D.toList.map (·.key))[i]?=((m.map (·.1)).map V)[i]?:=by rw[Z]
      simp only[List.getElem?_map,List.getElem?_eq_getElem a0,List.getElem?_eq_getElem hi,Option.map_some,Option.some.injEq]at e1
      rw[e1,a8];simp
    refine⟨_,?_,⟨_,_,m.modify i λp=>(p.1,v),O (.map (D.modify i λe=>{ e with key:=V k,val:=v }) c),?_,λk'=>?_⟩,a4 _,sp0⟩
    · rw[hf]at I
      have a2:D[i]?=some D.toList[i]:=by rw[<-Array.getElem?_toList,List.getElem?_eq_getElem a0]
      simp only[Option.bind_some,List.getElem?_eq_getElem a0,Option.map_some]at I
      have a3:(Instr.keyThatStays (((D[i]?).map (·.key)).getD (V k)) (V k)).run P w=.ok (V k) w:=by
        rw[a2]
        simp only[Option.map_some,Option.getD_some,<-a5,Instr.keyThatStays,hk.bits,if_true,Sem.run_pure]
      simp only[Instr.mapUpdate,Sem.run_bind,run_underlying hu,Result.andThen_ok,z2x h1,hk.check,I,a3,a1]
    · apply List.ext_getElem?
      intro j
      have e2:=congrArg (·[j]?) h2
      simp only[List.getElem?_map]at e2 ⊢
      rw[Array.getElem?_toList,Array.getElem?_modify,List.getElem?_modify]
      rw[Array.getElem?_toList]at e2
      by_cases hj:i=j
      · subst hj
        have e3:=List.getElem?_eq_getElem hi
        have a2:D[i]?=some D.toList[i]:=by rw[<-Array.getElem?_toList,List.getElem?_eq_getElem a0]
        rw[a2,e3]at e2 ⊢
        simp only[Option.map_some,Option.some.injEq,Prod.mk.injEq]at e2
        simp only[if_true,Option.map_some]
        rw[a5,e2.1];rfl
      · simp only[hj,if_false]
        rw[e2];simp
    · rw[z9w k k' v m i hf,h3]
variable {a:Act} {n:Nat} {L:List (Nat×Value)} {ds:List Nat} {w w':World} {Q:Exit->Act->World->Prop} {C:World->Prop} {Qa:Act->Prop} {ops:Array Oper} {rest:List Oper}
variable {d:Nat} {ty:TypeId} {pos:String} {after:Array Edge} {x y z:Operand} {t E:TypeId} {g:Nat} {f:κ->Option Value} {k:κ} {v zv:Value}
theorem v3w (V:κ->Value)(h:AgM ds a n L)(hn:Nat.blt d n=true)
    (q:∀g w',g=w.heap.size->MapF V w' g (λ_=>none)->Fr [] w w'->w'.heap.size=g+1->∀a,AgM ds a n ((d,.map (some g))::L)->wpList P ops Q rest a w'):wpList P ops Q (⟨some d,.makeMap t none,ty,pos,after,none⟩::rest) a w:=
  z2m h U hn (w':=w.alloc (.map #[] 0)) (by simp[execOp,Instr.makeMap]) (q _ _ U ⟨_,_,[],heap_alloc_new w _,sp0,λ_=>rfl⟩ (Fr.alloc [] w _) sp0)
theorem y6w (V:κ->Value)(hn:Nat.blt d n=true)(q:∀g w',g=w.heap.size->MapF V w' g (λ_=>none)->Fr [] w w'->w'.heap.size=g+1->WL P ops Q rest n ds w' ((d,.map (some g))::L)):WL P ops Q (⟨some d,.makeMap t none,ty,pos,after,none⟩::rest) n ds w L:=λa h=>v3w V h hn q
theorem v7r (h:AgM ds a n L)(Z:ev L x=some (.map (some g)))(hy:ev L y=some (V k))(I:MapF V w g f)(D:KeyLaw P K V)(O:P.underlying t=some (.map K E))(hz:∀w:World,(zeroValue E).run P w=.ok zv w) :
    (execOp a.eval ⟨some d,.lookup t x y false,ty,pos,after,none⟩).run P w=.ok (.value ((f k).getD zv)) w:=by
  simp[execOp,h.eval Z,h.eval hy,x0c I D O (hz w) k]
theorem x6r (h:AgM ds a n L)(hx:ev L x=some (.map (some g)))(hy:ev L y=some (V k))(I:MapF V w g f)(D:KeyLaw P K V)(O:P.underlying t=some (.map K E))(hz:∀w:World,(zeroValue E).run P w=.ok zv w)(Z:(f k).getD zv=v)(hn:Nat.blt d n=true)
    (q:∀a,AgM ds a n ((d,v)::L)->wpList P ops Q rest a w):wpList P ops Q (⟨some d,.lookup t x y false,ty,pos,after,none⟩::rest) a w:=
  z2m h U hn (by rw[<-Z];exact v7r h hx hy I D O hz) q
theorem x2w (hx:ev L x=some (.map (some g)))(hy:ev L y=some (V k))(I:MapF V w g f)(D:KeyLaw P K V)(O:P.underlying t=some (.map K E))(hz:∀w:World,(zeroValue E).run P w=.ok zv w)(Z:(f k).getD zv=v)(hn:Nat.blt d n=true)(q:WL P ops Q rest n ds w ((d,v)::L)):WL P ops Q (⟨some d,.lookup t x y false,ty,pos,after,none⟩::rest) n ds w L:=λa h=>x6r h hx hy I D O hz Z hn q
theorem v4w (h:AgM ds a n L)(Z:ev L x=some (.map (some g)))(hy:ev L y=some (V k))(I:MapF V w g f)(D:KeyLaw P K V)(O:P.underlying t=some (.map K E))(hz:∀w:World,(zeroValue E).run P w=.ok zv w) :
    (execOp a.eval ⟨some d,.lookup t x y true,ty,pos,after,none⟩).run P w=.ok (.value (.tuple #[(f k).getD zv,.bool (f k).isSome])) w:=by
  simp[execOp,h.eval Z,h.eval hy,x8w I D O (hz w) k]
theorem y4i {D:Bool}(h:AgM ds a n L)(hx:ev L x=some (.map (some g)))(hy:ev L y=some (V k))(O:MapF V w g f)(I:KeyLaw P K V)(Z:P.underlying t=some (.map K E))(hz:∀w:World,(zeroValue E).run P w=.ok zv w)(hv:(f k).getD zv=v)(hb:(f k).isSome=D)(hn:Nat.blt d n=true)
    (q:∀a,AgM ds a n ((d,.tuple #[v,.bool D])::L)->wpList P ops Q rest a w):wpList P ops Q (⟨some d,.lookup t x y true,ty,pos,after,none⟩::rest) a w:=
  z2m h U hn (by rw[<-hv,<-hb];exact v4w h hx hy O I Z hz) q
theorem z3p (H0:(ev L x,ev L y,ev L z)=(some (.map (some g)),some (V k),some v))(hm:MapF V w g f)(Z:KeyLaw P K V)(hu:P.underlying t=some (.map K E))(q:∀w',MapF V w' g (λk'=>if k'=k then some v else f k')->Fr [g] w w'->w'.heap.size=w.heap.size->WL P ops Q rest n ds w' L):WL P ops Q (⟨none,.insert t x y z,ty,pos,after,none⟩::rest) n ds w L:=let⟨hx,hy,hz⟩:=qi3 H0;λa h=>by
  obtain⟨w',hr,D,I,O⟩:=y3l hm Z hu k v
  exact z9v h U U (w':=w') (by simp[execOp,h.eval hx,h.eval hy,h.eval hz,hr]) (q w' D I O)
theorem x3l (hx:ev L x=some (.map (some g)))(hy:ev L y=some (V k))(hz:ev L z=some v)(hm:MapF V w g f)(Z:KeyLaw P K V)(hu:P.underlying t=some (.map K E))(q:∀w',MapF V w' g (λk'=>if k'=k then some v else f k')->Fr [g] w w'->w'.heap.size=w.heap.size->WL P ops Q rest n ds w' L):WL P ops Q (⟨none,.mapUpdate t x y z,ty,pos,after,none⟩::rest) n ds w L:=λa h=>by
  obtain⟨w',hr,D,I,O⟩:=y3l hm Z hu k v
  exact z9v h U U (w':=w') (by simp[execOp,h.eval hx,h.eval hy,h.eval hz,hr]) (q w' D I O)
end
end Go.Lw
namespace Go.Lw
open Go.RowKit
section
variable {P:Program} {n:Nat} {L:List (Nat×Value)} {ds:List Nat} {w w':World} {Q:Exit->Act->World->Prop} {ops:Array Oper} {rest:List Oper} {a:Act} {d:Nat} {ty T t:TypeId} {pos:String} {after:Array Edge} {v:Value} {x y:Operand}
theorem j4j {α:Type}{E:Enc α}{a0 base g cap:Nat}{zs ys:List α}(h:AgM ds a n L)(hx:ev L x=some (.slice (some ⟨g,0,none⟩) zs.length cap))(hy:ev L y=some v)(ho:Own E T base w (.slice (some ⟨g,0,none⟩) zs.length cap) zs)(hs:Sl E w v ys)(hl:ys.length=zs.length)(he:ElemOf P t T E a0)(hn:Nat.blt d n=true)
    (q:∀w',Own E T base w' (.slice (some ⟨g,0,none⟩) zs.length cap) ys->Fr [g] w w'->w'.heap.size=w.heap.size->∀a,AgM ds a n ((d,.int .i64 (zs.length:Int))::L)->wpList P ops Q rest a w'):wpList P ops Q (⟨some d,.call ⟨.builtin .copy,#[x,y],#[t,t]⟩,ty,pos,after,none⟩::rest) a w:=by
  obtain⟨i,z,h1,h2,h3,h4,h5⟩:=he.info
  obtain⟨A,c,rfl,hc,hM,hA⟩:=hs.flat
  rcases ho with ⟨e,_⟩|⟨g',a7,cur,e,hb,hg,r1,r2,r3,r4⟩
  · cases e
  cases e
  have a2:ys.length*E.sz<=cur.size:=by rw[hl];exact Nat.le_trans (Nat.mul_le_mul_right _ r1) r3
  obtain⟨cs,D⟩:∃cs,ys.flatMap E.enc=cs:=⟨_,rfl⟩
  have I:cs.length=zs.length*E.sz:=by rw[<-D,E.flat_len,hl]
  have Z:=E.flat_one ys
  rw[D]at Z hA
  have a3:=run_storeCells_at P g 0 T cs 0 cur w hg (by rw[I];rw[hl]at a2;simpa using a2) Z
  simp only[Nat.zero_add,List.take_zero,List.nil_append]at a3
  have a6:(Builtin.copy_ #[t,t] ty #[.slice (some ⟨g,0,none⟩) zs.length cap,.slice A ys.length c]).run P w=.ok (.int .i64 (zs.length:Int)) (w.setRow g (cs++cur.toList.drop cs.length).toArray):=by
    have a1:(Builtin.firstCells E.sz zs.length (.slice A ys.length c)).run P w=.ok cs.toArray w:=by
      by_cases hys:ys=[]
      · have h0:zs.length=0:=by rw[<-hl,hys];rfl
        have a4:cs=[]:=by rw[<-D,hys];rfl
        rw[h0,a4]
        cases A with
        | none=>simp[Builtin.firstCells]
        | some ad=>simp[Builtin.firstCells,loadCells,loadCellsFrom]
      · obtain⟨ad,rfl,a5⟩:=hA hys
        have O:=run_loadCells_list (P:=P) w ad cs a5
        rw[I]at O
        simpa[Builtin.firstCells] using O
    rw[hl]at a1
    simp only[Builtin.copy_,List.getElem?_toArray,List.getElem?_cons_zero,List.getElem?_cons_succ,Sem.run_bind,run_underlying he.und,Result.andThen_ok,Builtin.lenOf,Sem.run_pure,hl,Nat.min_self,show ∀m:Nat,Nat.min m m=m from Nat.min_self,sizeOf,typeInfo]
    simp[h1,h3,a1,a3,goInt]
  refine z2m h U hn (w':=w.setRow g (cs++cur.toList.drop cs.length).toArray) ?_ (q _ (.inr ⟨g,cap,_,by rw[hl],hb,setRow_heap w g cur _ T (0,0) hg,by rw[hl];exact r1,r2,?_,?_⟩) (Fr.setRow w g _) sp0)
  · rw[z2d];unfold builtin
    simp only[List.map_toArray,List.map_cons,List.map_nil,h.eval hx,h.eval hy,Sem.run_bind,a6,Result.andThen_ok,Sem.run_pure]
  · simp only[List.size_toArray,List.length_append,List.length_drop,Array.length_toList];omega
  · rw[hl,<-I,D];simp
theorem z9h {α:Type}{E:Enc α}{D base g cap:Nat}{zs ys:List α}(hx:ev L x=some (.slice (some ⟨g,0,none⟩) zs.length cap))(hy:ev L y=some v)(O:Own E T base w (.slice (some ⟨g,0,none⟩) zs.length cap) zs)(Z:Sl E w v ys)(hl:ys.length=zs.length)(I:ElemOf P t T E D)(q:∀w',Own E T base w' (.slice (some ⟨g,0,none⟩) zs.length cap) ys->Fr [g] w w'->w'.heap.size=w.heap.size->WL P ops Q rest n ds w' ((d,.int .i64 (zs.length:Int))::L))(hn:Nat.blt d n=true:=by exact U):WL P ops Q (⟨some d,.call ⟨.builtin .copy,#[x,y],#[t,t]⟩,ty,pos,after,none⟩::rest) n ds w L:=λa h=>j4j h hx hy O Z hl I hn q
end
end Go.Lw
namespace Go.Lw
open Go.RowKit
section
variable {P:Program} {n:Nat} {L:List (Nat×Value)} {ds:List Nat} {w w':World} {Q:Exit->Act->World->Prop} {ops:Array Oper} {rest:List Oper} {a:Act} {d:Nat} {ty T t:TypeId} {pos:String} {after:Array Edge} {v:Value} {x y:Operand}
theorem u3f {α:Type}{E:Enc α}{a5 base g m cap p k:Nat}{zs ys:List α}(h:AgM ds a n L)(hx:ev L x=some (.slice (some ((⟨g,0,none⟩:Addr).add (p*E.sz))) (m-p) (cap-p)))(hy:ev L y=some v)(ho:Own E T base w (.slice (some ⟨g,0,none⟩) m cap) zs)(hs:Sl E w v ys)(hp:p<=m)(hk:k=min (m-p) ys.length)(he:ElemOf P t T E a5)(hn:Nat.blt d n=true)
    (q:∀w',Own E T base w' (.slice (some ⟨g,0,none⟩) m cap) (zs.take p++ys.take k++zs.drop (p+k))->Fr [g] w w'->w'.heap.size=w.heap.size->∀a,AgM ds a n ((d,.int .i64 (k:Int))::L)->wpList P ops Q rest a w'):wpList P ops Q (⟨some d,.call ⟨.builtin .copy,#[x,y],#[t,t]⟩,ty,pos,after,none⟩::rest) a w:=by
  obtain⟨i,z,h1,h2,h3,h4,h5⟩:=he.info
  rcases ho with ⟨e,_⟩|⟨g',d4,cur,e,hb,hg,r1,r2,r3,r4⟩
  · cases e
  cases e
  obtain⟨A0,c0,e0,_,b5,_⟩:=id hs
  subst e0
  have d0:k<=ys.length:=by omega
  have d3:=hs.take U (m:=k) d0 (B:=A0) (c':=c0) oo b5 (λ_=>rfl)
  obtain⟨A,c,e2,hc,hM,hA⟩:=d3.flat
  have a2:(ys.take k).length=k:=by rw[List.length_take];omega
  rw[a2]at e2
  simp only[Value.slice.injEq]at e2
  obtain⟨rfl,-,rfl⟩:=e2
  obtain⟨cs,O⟩:∃cs,(ys.take k).flatMap E.enc=cs:=⟨_,rfl⟩
  have a0:cs.length=k*E.sz:=by rw[<-O,E.flat_len,a2]
  have a4:=E.flat_one (ys.take k)
  rw[O]at a4 hA
  have d1:p+k<=zs.length:=by omega
  have d5:p*E.sz+k*E.sz<=zs.length*E.sz:=by rw[<-Nat.add_mul];exact Nat.mul_le_mul_right _ d1
  have b8:zs.length*E.sz<=cur.size:=Nat.le_trans (Nat.mul_le_mul_right _ r1) r3
  have b2:=run_storeCells_at P g (p*E.sz) T cs 0 cur w hg (by rw[a0];omega) a4
  rw[Nat.add_zero,a0]at b2
  have c9:(Builtin.firstCells E.sz k (.slice A0 ys.length c0)).run P w=.ok cs.toArray w:=by
    by_cases hys:ys.take k=[]
    · have h0:k=0:=by have:=congrArg List.length hys;rw[a2]at this;simpa using this
      have b6:cs=[]:=by rw[<-O,hys];rfl
      rw[h0,b6]
      cases A0 with
      | none=>simp[Builtin.firstCells]
      | some ad=>simp[Builtin.firstCells,loadCells,loadCellsFrom]
    · obtain⟨ad,rfl,b7⟩:=hA hys
      have a1:=run_loadCells_list (P:=P) w ad cs b7
      rw[a0]at a1
      simpa[Builtin.firstCells] using a1
  have b4:(Builtin.copy_ #[t,t] ty #[.slice (some ((⟨g,0,none⟩:Addr).add (p*E.sz))) (zs.length-p) (cap-p),.slice A0 ys.length c0]).run P w=.ok (.int .i64 (k:Int)) (w.setRow g (cur.toList.take (p*E.sz)++cs++cur.toList.drop (p*E.sz+k*E.sz)).toArray):=by
    rw[z6o,Nat.zero_add]
    have a9:Nat.min (zs.length-p) ys.length=k:=hk.symm
    have a7:Nat.min ys.length (zs.length-p)=k:=(Nat.min_comm _ _).trans hk.symm
    simp only[Builtin.copy_,List.getElem?_toArray,List.getElem?_cons_zero,List.getElem?_cons_succ,Sem.run_bind,run_underlying he.und,Result.andThen_ok,Builtin.lenOf,Sem.run_pure,a9,sizeOf,typeInfo]
    simp[h1,h3,c9,b2,goInt,a7]
  obtain⟨D,Z,I,rfl,b3,a8⟩:∃D Z I,zs=D++(Z++I)/\D.length=p/\Z.length=k:=⟨zs.take p,(zs.drop p).take k,(zs.drop p).drop k,by rw[List.take_append_drop,List.take_append_drop],by rw[List.length_take];omega,by rw[List.length_take,List.length_drop];omega⟩
  have b0:(D++(Z++I)).take p++ys.take k++(D++(Z++I)).drop (p+k)=D++(ys.take k++I):=by
    rw[<-b3,List.take_left,<-a8,<-List.drop_drop,List.drop_left,List.drop_left,List.append_assoc]
  rw[b0]at q
  have a6:(D++(ys.take k++I)).length=(D++(Z++I)).length:=by simp only[List.length_append,a2,a8]
  have a3:cur.toList=(D++(Z++I)).flatMap E.enc++cur.toList.drop ((D++(Z++I)).length*E.sz):=by
    rw[<-r4,List.take_append_drop]
  have b9:(D.flatMap E.enc).length=p*E.sz:=by rw[E.flat_len,b3]
  have c1:(Z.flatMap E.enc).length=k*E.sz:=by rw[E.flat_len,a8]
  have b1:cur.toList.take (p*E.sz)++cs++cur.toList.drop (p*E.sz+k*E.sz)=(D++(ys.take k++I)).flatMap E.enc++cur.toList.drop ((D++(Z++I)).length*E.sz):=by
    generalize cur.toList.drop ((D++(Z++I)).length*E.sz)=R at a3 ⊢
    rw[a3]
    simp only[List.flatMap_append,List.append_assoc]
    rw[<-b9,List.take_left,<-c1,<-List.drop_drop,List.drop_left,List.drop_left,O]
  rw[b1]at b4
  refine z2m h U hn (w':=w.setRow g ((D++(ys.take k++I)).flatMap E.enc++cur.toList.drop ((D++(Z++I)).length*E.sz)).toArray) ?_ (q _ (.inr ⟨g,cap,_,by rw[a6],hb,setRow_heap w g cur _ T (0,0) hg,by rw[a6];exact r1,r2,?_,?_⟩) (Fr.setRow w g _) sp0)
  · rw[z2d];unfold builtin
    simp only[List.map_toArray,List.map_cons,List.map_nil,h.eval hx,h.eval hy,Sem.run_bind,b4,Result.andThen_ok,Sem.run_pure]
  · have e1:((D++(ys.take k++I)).flatMap E.enc).length=(D++(Z++I)).length*E.sz:=by rw[E.flat_len,a6]
    generalize (D++(ys.take k++I)).flatMap E.enc=X at e1
    generalize (D++(Z++I)).length*E.sz=M at e1 b8
    simp only[List.size_toArray,List.length_append,List.length_drop,Array.length_toList]
    omega
  · show List.take _ _=_
    rw[show (D++(ys.take k++I)).length*E.sz=((D++(ys.take k++I)).flatMap E.enc).length by rw[E.flat_len]]
    exact List.take_left
theorem j2w {α:Type}{E:Enc α}{D base g m cap p k:Nat}{zs ys:List α}(hx:ev L x=some (.slice (some ((⟨g,0,none⟩:Addr).add (p*E.sz))) (m-p) (cap-p)))(hy:ev L y=some v)(Z:Own E T base w (.slice (some ⟨g,0,none⟩) m cap) zs)(hs:Sl E w v ys)(hp:p<=m)(O:k=min (m-p) ys.length)(I:ElemOf P t T E D)(hn:Nat.blt d n=true)
 (q:∀w',Own E T base w' (.slice (some ⟨g,0,none⟩) m cap) (zs.take p++ys.take k++zs.drop (p+k))->Fr [g] w w'->w'.heap.size=w.heap.size->WL P ops Q rest n ds w' ((d,.int .i64 (k:Int))::L)):WL P ops Q (⟨some d,.call ⟨.builtin .copy,#[x,y],#[t,t]⟩,ty,pos,after,none⟩::rest) n ds w L:=λa h=>u3f h hx hy Z hs hp O I hn q
end
end Go.Lw
namespace Go.Lw
open Go.RowKit
theorem v6y {α:Type}{E:Enc α}{ys:List α}{i f:Nat}{z y:α}{v:Value}(O:ys[i]?=some y)(hf:f<E.sz)(hz:(E.enc y).set f v=E.enc z)(rest:List Value) :
    (ys.flatMap E.enc++rest).set (i*E.sz+f) v=(ys.set i z).flatMap E.enc++rest:=by
  have D:=(List.getElem?_eq_some_iff.1 O).1
  have Z:ys.set i y=ys:=by
    apply List.ext_getElem?
    intro k
    rw[List.getElem?_set]
    by_cases e:i=k
    · subst e;rw[if_pos U,if_pos D,O]
    · rw[if_neg e]
  have I:=z8u (E:=E) ys y rest i D
  have h2:=z8u (E:=E) ys z rest i D
  rw[Z]at I
  rw[<-h2]
  conv=>lhs;rw[<-I]
  have hl:((ys.flatMap E.enc++rest).take (i*E.sz)).length=i*E.sz:=by
    rw[List.length_take,List.length_append,E.flat_len]
    have:i*E.sz+E.sz<=ys.length*E.sz:=by rw[<-Nat.succ_mul];exact Nat.mul_le_mul_right _ D
    omega
  rw[List.append_assoc,List.set_append_right _ _ oo,hl,Nat.add_sub_cancel_left,List.set_append_left _ _ (by rw[E.len];exact hf),hz,List.append_assoc]
section
variable {P:Program} {a:Act} {n:Nat} {L:List (Nat×Value)} {ds:List Nat} {w:World} {Q:Exit->Act->World->Prop} {ops:Array Oper} {rest:List Oper} {d:Nat} {ty t T:TypeId} {pos:String} {after:Array Edge} {x y:Operand} {v:Value}
theorem y7p {α:Type}{E:Enc α}{base g m c i f:Nat}{ys:List α}(u z:α)(h:AgM ds a n L)(hx:ev L x=some (.pointer (some ((⟨g,0,none⟩:Addr).add (i*E.sz+f)))))(hy:ev L y=some v)(ho:Own E T base w (.slice (some ⟨g,0,none⟩) m c) ys)(Z:ys[i]?=some u)(hf:f<E.sz)
    (hz:(E.enc u).set f v=E.enc z) (h1:v.oneCell'=true) (hc:v.cells=#[v]) (hs:z1r P t 1)
    (q:∀w',Own E T base w' (.slice (some ⟨g,0,none⟩) m c) (ys.set i z)->Fr [g] w w'->w'.heap.size=w.heap.size->∀a,AgM ds a n L->wpList P ops Q rest a w'):wpList P ops Q (⟨none,.store t x y,ty,pos,after,none⟩::rest) a w:=by
  rcases ho with ⟨e,_⟩|⟨g',cap,cur,e,hb,hg,r1,r2,r3,r4⟩
  · cases e
  cases e
  have O:=(List.getElem?_eq_some_iff.1 Z).1
  have h5:i*E.sz+E.sz<=ys.length*E.sz:=by rw[<-Nat.succ_mul];exact Nat.mul_le_mul_right _ O
  have a0:ys.length*E.sz<=cur.size:=Nat.le_trans (Nat.mul_le_mul_right _ r1) r3
  have I:Blk w g T cur.toList:=hg
  have D:cur.toList=ys.flatMap E.enc++cur.toList.drop (ys.length*E.sz):=by rw[<-r4,List.take_append_drop]
  refine y2g h hx hy I (by rw[Nat.blt_eq,Array.length_toList];omega) h1 hc hs λw' k1 k2 k3 a h=>q w' ?_ k2 k3 a h
  have e1:cur.toList.set (i*E.sz+f) v=(ys.set i z).flatMap E.enc++cur.toList.drop (ys.length*E.sz):=by
    conv=>lhs;rw[D]
    exact v6y Z hf hz _
  rw[e1]at k1
  refine .inr ⟨g,c,_,by rw[List.length_set],hb,k1,by rw[List.length_set];exact r1,r2,?_,?_⟩
  · simp only[List.size_toArray,List.length_append,E.flat_len,List.length_set,List.length_drop,Array.length_toList];omega
  · rw[List.length_set,show ys.length*E.sz=((ys.set i z).flatMap E.enc).length by rw[E.flat_len,List.length_set]]
    exact List.take_left
theorem u6o {α:Type}{E:Enc α}{base g m c i f:Nat}{ys:List α}(u z:α)(O:ev L x=some (.pointer (some ((⟨g,0,none⟩:Addr).add (i*E.sz+f)))))(Z:ev L y=some v)(I:Own E T base w (.slice (some ⟨g,0,none⟩) m c) ys)(D:ys[i]?=some u)(hf:f<E.sz)
 (hz:(E.enc u).set f v=E.enc z) (h1:v.oneCell'=true) (hc:v.cells=#[v]) (hs:z1r P t 1)
 (q:∀w',Own E T base w' (.slice (some ⟨g,0,none⟩) m c) (ys.set i z)->Fr [g] w w'->w'.heap.size=w.heap.size->WL P ops Q rest n ds w' L):WL P ops Q (⟨none,.store t x y,ty,pos,after,none⟩::rest) n ds w L:=λ_ h=>y7p u z h O Z I D hf hz h1 hc hs q
end
end Go.Lw
namespace Go.Lw
open Go.RowKit
section
variable {P:Program} {a:Act} {n:Nat} {L:List (Nat×Value)} {w:World} {v:Value} {g g2:Nat} {T T2:TypeId} {cs cs2:List Value}
theorem k0b {fn:Func}{R:Ending->World->Prop}{p pt I D q:Nat}(h:Ag a n L)(hr:fn.results=#[.cell p pt,.cell I D,.tmp q])(hp:look L p=some (.pointer (some ⟨g,0,none⟩)))(hb:Blk w g T cs)(hg:z4i P pt cs.length)
    (hp2:look L I=some (.pointer (some ⟨g2,0,none⟩))) (hb2:Blk w g2 T2 cs2) (hg2:z4i P D cs2.length) (hv:look L q=some v) (k:R (.returned (.tuple #[.agg cs.toArray,.agg cs2.toArray,v])) w):bodyPost P fn R .ret a w:=
  bodyPost_ret (v:=.tuple #[.agg cs.toArray,.agg cs2.toArray,v]) (by
    have O:=h.at_ p _ hp
    have Z:=h.at_ q _ hv
    have h3:=h.at_ I _ hp2
    simp only[Array.getD_eq_getD_getElem?]at O Z h3
    simp[results,hr,O,Z,h3,asAddr,loadVar,hg.1 w,hg.2 w,hg2.1 w,hg2.2 w,run_loadCells_list w _ cs hb.cells,run_loadCells_list w _ cs2 hb2.cells]) h.dfr k
theorem j7i {fn:Func}{R:Ending->World->Prop}{p pt I D q:Nat}(Z:fn.results=#[.cell p pt,.cell I D,.tmp q])(hp:look L p=some (.pointer (some ⟨g,0,none⟩)))(hb:Blk w g T cs)(O:z4i P pt cs.length)
 (hp2:look L I=some (.pointer (some ⟨g2,0,none⟩))) (hb2:Blk w g2 T2 cs2) (hg2:z4i P D cs2.length) (hv:look L q=some v) (k:R (.returned (.tuple #[.agg cs.toArray,.agg cs2.toArray,v])) w):EW (bodyPost P fn R) .ret n [] w L:=λ_ h=>k0b h Z hp hb O hp2 hb2 hg2 hv k
end
end Go.Lw
namespace Go.Lw
open Go.RowKit
section
variable {P:Program} {n:Nat} {L:List (Nat×Value)} {ds:List Nat} {w w':World} {Q:Exit->Act->World->Prop} {ops:Array Oper} {rest:List Oper} {a:Act} {d:Nat} {ty T t:TypeId} {pos:String} {after:Array Edge} {v:Value} {x y:Operand}
end
end Go.Lw
namespace Go.Lw
open Go.RowKit
section
variable {P:Program} {n:Nat} {L:List (Nat×Value)} {ds:List Nat} {w w':World} {Q:Exit->Act->World->Prop} {ops:Array Oper} {rest:List Oper} {a:Act} {d:Nat} {ty T t tn:TypeId} {pos:String} {after:Array Edge} {v:Value} {x y:Operand}
end
end Go.Lw
namespace Go.Proofs.YtagnnbcnnmacmaaGreatDoor
open Go.Lw _root_.Go.Proofs.Tryz
theorem z8c:z4i prog 85 2:=⟨λ_=>kr0,λ_=>kr0⟩
theorem v4e:z4i prog 88 6:=⟨λ_=>kr0,λ_=>kr0⟩
theorem x8q:BuildAt prog 85 [(0,1),(1,1)] [(.int .u8 0),(.int .i64 0)]:=BuildAt.struct underlying85 (λ_=>kr0) (λ_=>kr0)
theorem x4w:BuildAt prog 269 [(0,1),(1,1),(2,1),(3,1)] [(.bool false),(.bool false),(.bool false),(.bool false)]:=BuildAt.struct underlying269 (λ_=>kr0) (λ_=>kr0)
theorem u5t:CallOf prog 97:=mkC func97
theorem z9i:z0y prog 85 0 0:=λ_ _=>kr0
theorem z9j:z0y prog 85 1 1:=λ_ _=>kr0
theorem v1u:z0y prog 88 0 0:=λ_ _=>kr0
theorem y1i:z0y prog 88 1 1:=λ_ _=>kr0
theorem z6r:z0y prog 88 2 2:=λ_ _=>kr0
theorem z5f:z0y prog 88 3 4:=λ_ _=>kr0
theorem y9l:z0y prog 88 4 5:=λ_ _=>kr0
theorem x1q:z0y prog 269 0 0:=λ_ _=>kr0
theorem x8j:z0y prog 269 1 1:=λ_ _=>kr0
theorem x7u:z0y prog 269 2 2:=λ_ _=>kr0
theorem j4i:z0y prog 269 3 3:=λ_ _=>kr0
theorem z2y:prog.follows .mixedOrders=true:=kr0
theorem na3:z2a prog 3:=λ_=>kr0
theorem na4:z2a prog 4:=λ_=>kr0
theorem na5:z2a prog 5:=λ_=>kr0
theorem v0a:z2a prog 82:=λ_=>kr0
theorem k2k:z2a prog 83:=λ_=>kr0
theorem x3n:z2a prog 86:=λ_=>kr0
theorem j5w:z1r prog 269 4:=λ_=>kr0
theorem v4r (w:World):(zeroValue 269).run prog w=.ok (.agg #[(.bool false),(.bool false),(.bool false),(.bool false)]) w:=kr0
theorem z5i (b p:Int)(w0:World):Rets prog 97 #[.agg #[.int .u8 b,.int .i64 p]] w0 λv w'=>v=.int .i64 (z4g b p)/\Fr [] w0 w':=by
 refine we [(0,.agg #[.int .u8 b,.int .i64 p])] func97 U ntmps97 U (.cons U .nil) (sr (bx U (λg1 w1 a0 D Z z1=>(asg U (nn (sq (sq (rbo (r:=10) (L':=[(1,_)]) (((b≠0)/\(b≠1))) (.cons U .nil) ?_ ?_))))))));refine fad U z9i (z0i U D U v0a (ne' U (mv U (gs 6 U (λg0=>?_) (λg0=>?_)))));exact gY U (fad U z9i (gY U (z0i U D U v0a (gY U (ne' U (pkt U (rbe U (.cons U .nil))))))));exact gN U (gN U (gN U (pkf U (rbe U (.cons U .nil)))));refine tn (cd U (λI=>?_) (λI=>?_));exact sr (asg U (nn (rt (tr (r1 results97 U ⟨_,rfl,by rw[z4g,if_pos I],Z⟩)))));refine sk (tn (sq (sq (rbo (r:=18) (L':=[]) (((p<1)\/(40<p))) .nil ?_ ?_))));refine fad U z9j (z0i U D U na3 (lt' U (mv U (gs 14 U (λg1=>?_) (λg1=>?_)))));exact gN U (gN U (gN U (pkt U (rbe U .nil))));exact gY U (fad U z9j (gY U (z0i U D U na3 (gY U (gt' U (pkf U (rbe U .nil)))))));refine tn (cd U (λO=>?_) (λO=>?_));exact sr (asg U (nn (rt (tr (r1 results97 U ⟨_,rfl,by rw[z4g,if_neg I,if_pos O],Z⟩)))));exact sk (tn (sr (asg U (nn (rt (r1 results97 U ⟨_,rfl,by rw[z4g,if_neg I,if_neg O],Z⟩))))))
def kV (k:Int):Value:=.int .u8 k
theorem x0g:KeyLaw prog 83 kV:=KeyLaw.now underlying83 (λk k'=>by simp[kV,Instr.sameNow,y1t]) (λ_ _ _=>kr0) (λ_=>by simp[kV,Instr.sameBits])
theorem v8u (w0:World):Rets prog 181 #[] w0 λv w'=>∃g,v=.map (some g)/\w0.heap.size<=g/\g<w'.heap.size/\MapF kV w' g x8z/\Fr [] w0 w':=by
 refine we [] func181 U ntmps181 U .nil (sr (asg U (nn (sr (y6w kV U (λI w1 O D Z z1=>?_))))))
 refine z1z (cs:=[_,_,_,_]) (ev2 U) x4w (z0f U (z0f U z0t)) U ?_
 refine z3p (V:=kV) (k:=1) U D x0g underlying271 (λw2 D q2 z2=>?_)
 refine z1z (cs:=[_,_,_,_]) (ev1 U) x4w (z0f U z0t) U ?_
 refine z3p (V:=kV) (k:=2) U D x0g underlying271 (λw3 D q3 z3=>?_)
 refine z1z (cs:=[_,_,_,_]) (ev1 U) x4w (z0f U z0t) U ?_
 refine z3p (V:=kV) (k:=3) U D x0g underlying271 (λw4 D q4 z4=>?_)
 refine z1z (cs:=[_,_,_,_]) (ev3 U) x4w (z0f U (z0f U (z0f U z0t))) U ?_
 refine z3p (V:=kV) (k:=4) U D x0g underlying271 (λw5 D q5 z5=>?_)
 refine z1z (cs:=[_,_,_,_]) (ev3 U) x4w (z0f U (z0f U (z0f U z0t))) U ?_
 refine z3p (V:=kV) (k:=5) U D x0g underlying271 (λw6 D q6 z6=>?_)
 refine z1z (cs:=[_,_,_,_]) (ev3 U) x4w (z0f U (z0f U (z0f U z0t))) U ?_
 refine z3p (V:=kV) (k:=6) U D x0g underlying271 (λw7 D q7 z7=>?_)
 refine z1z (cs:=[_,_,_,_]) (ev1 U) x4w (z0f U z0t) U ?_
 refine z3p (V:=kV) (k:=7) U D x0g underlying271 (λw8 D q8 z8=>?_)
 refine z1z (cs:=[_,_,_,_]) (ev1 U) x4w (z0f U z0t) U ?_
 refine z3p (V:=kV) (k:=8) U D x0g underlying271 (λw9 D q9 z9=>(mv U (asg U (nn (rt (r1 results181 U ?_))))))
 exact⟨_,rfl,I,rfl,oo,oo,by
  refine(funext λk=>?_:x8z=_)▸D
  unfold x8z z8q;repeat' split
  all_goals first|rfl|(simp_all [f4V];done),(((Z.z6 q2 q3 q4 q5 q6 q7).z1 q8).z1 q9)⟩
theorem k3d:u0s prog 85 ndV:=by
 intro e f Z oy w;have O:∀D,(eqGuard D 85 Z oy (ndV e) (ndV f)).run prog w=.ok () w:=λD=>run_eqGuard_agg w D 85 Z oy _ _ kr0;have I:prog.stoodInHeld 85=false:=by kernel_rfl
 obtain⟨k,y⟩:=e;obtain⟨k',y'⟩:=f;refine⟨O _,O _,?_,?_⟩;unfold ndV;simp[go_sem,I,underlying85];(repeat' split)<;>simp_all
 unfold ndV;simp[go_sem,I,underlying85];(repeat' split)<;>simp_all
theorem u4y (o:MOp)(w0:World):Rets prog 142 #[opV o] w0 λv w'=>v=.bool (decide (y3b o))/\Fr [] w0 w':=by
 refine we [(0,opV o)] func142 U ntmps142 U (.cons U .nil) (sr (bx U (λg1 w1 d0 D q1 z1=>(asg U (nn (jn (ι:=Nat) [(1,_)] (λg3=>[(3,.pointer (some ⟨g3,0,none⟩)),(4,.bool (z8q o.k).isSome)]) (λg3 w'=>Fr [] w1 w'/\w1.heap.size<=g3/\Blk w' g3 269 (f4L ((z8q o.k).getD f40))) (.cons U .nil) ?_ ?_))))));intro a h;have Z:=Fr.refl [] w1;refine z3j (λwb w'=>Fr [] wb w') z2y ?_;intro w2 O;replace D:=D.ext O;replace Z:=Z.next O;have d3:=O.size;clear O;have hC:Fr [] w2 w2:=Fr.refl _ _;have a3:=D;refine z0c 1 h U v1u U λa h=>z0j 2 h U (λ_ hw=>a3.ext hw) U k2k U λa h=>z2n 0 7 kr0 U ?_ ?_;refine z0n h z0g (mkC func181) (v8u _) ?_;rintro _ w3 ⟨gm,rfl,b0,b1,hm,O⟩ a h;replace D:=D.ext O;replace Z:=Z.next O;replace hC:=hC.next O;clear O;refine z0b (z2n 3 7 kr0 U ?_ ?_);refine y4i (V:=kV) (k:=o.k) h U U hm x0g underlying271 v4r (y4h _) (y4k _) U λa h=>z0b (z0d 4 h U λa h=>z0p 5 h U λa h=>z0p 6 h U λa h=>z0e 7 U (z1f h v4r U λw4 I O hz a h=>?_));obtain⟨a0,hg⟩:∃g,g=w3.heap.size:=⟨_,rfl⟩;rw[<-hg]at I h hz;have a8:g1<a0:=by have:=D.lt;omega
 have a2:w1.heap.size<=a0:=by have:=Z.size;omega
 have a6:w2.heap.size<=a0:=by have:=hC.size;omega
 replace D:=D.ext O;replace Z:=Z.next O;replace hC:=hC.next O;replace hm:=hm.ext O;clear O;refine z0b (z0e 8 U (z0v h U I U j5w ?_ (h1:=(by first|(simp[Value.oneCell',S];done)|exact Enc.one _ _|exact x8m _))));clear h a;intro w5 a5 O hz a h;replace D:=D.fr O;replace Z:=Z.sp O;replace hC:=hC.sp O;replace hm:=hm.fr O (by simp;exact hm.ne_blk I);clear I O hz;have I:Blk w5 a0 _ [_,_,_,_]:=a5;clear a5;refine z0b (z0e 9 U (z0s h U λa h=>?_));refine z0b (z0r ?_);clear hC a3;exact bk (h.sub (L':=[(1,_),(3,_),(4,_)]) (.c3 U U U)) (jE (a0) (.c3 U U U) ⟨Z,⟨oo,I⟩⟩);refine z1f h v4r U λw6 I O hz a h=>?_;obtain⟨a0,hg⟩:∃g,g=w3.heap.size:=⟨_,rfl⟩;rw[<-hg]at I h hz;have a8:g1<a0:=by have:=D.lt;omega
 have a2:w1.heap.size<=a0:=by have:=Z.size;omega
 have a6:w2.heap.size<=a0:=by have:=hC.size;omega
 replace D:=D.ext O;replace Z:=Z.next O;replace hC:=hC.next O;replace hm:=hm.ext O;clear O;refine z0b (z0e 3 U (y4i (V:=kV) (k:=o.k) h U U hm x0g underlying271 v4r (y4h _) (y4k _) U λa h=>?_));refine z0b (z0d 4 h U λa h=>z0p 5 h U λa h=>z0p 6 h U λa h=>z0e 8 U (z0v h U I U j5w ?_ (h1:=(by first|(simp[Value.oneCell',S];done)|exact Enc.one _ _|exact x8m _))));clear h a;intro w7 a5 O hz a h;replace D:=D.fr O;replace Z:=Z.sp O;replace hC:=hC.sp O;replace hm:=hm.fr O (by simp;exact hm.ne_blk I);clear I O hz;have I:Blk w7 a0 _ [_,_,_,_]:=a5;clear a5;refine z0b (z0e 9 U (z0s h U λa h=>?_));refine z0b (z0r ?_);clear hC a3;exact bk (h.sub (L':=[(1,_),(3,_),(4,_)]) (.c3 U U U)) (jE (a0) (.c3 U U U) ⟨Z,⟨oo,I⟩⟩);refine z1f h v4r U λw8 I O hz a h=>?_;obtain⟨a0,hg⟩:∃g,g=w2.heap.size:=⟨_,rfl⟩;rw[<-hg]at I h hz;have a8:g1<a0:=by have:=D.lt;omega
 have a2:w1.heap.size<=a0:=by have:=Z.size;omega
 have a6:w2.heap.size<=a0:=by have:=hC.size;omega
 replace D:=D.ext O;replace Z:=Z.next O;replace hC:=hC.next O;clear O;refine z0b (z0e 0 U (z0n h z0g (mkC func181) (v8u _) ?_));rintro _ w9 ⟨gm,rfl,b0,b1,hm,O⟩ a h;replace D:=D.ext O;replace Z:=Z.next O;replace hC:=hC.next O;replace I:=I.ext O;clear O;refine z0b (z0e 3 U (y4i (V:=kV) (k:=o.k) h U U hm x0g underlying271 v4r (y4h _) (y4k _) U λa h=>?_));refine z0b (z0d 4 h U λa h=>z0p 5 h U λa h=>z0p 6 h U λa h=>z0e 8 U (z0v h U I U j5w ?_ (h1:=(by first|(simp[Value.oneCell',S];done)|exact Enc.one _ _|exact x8m _))));clear h a;intro b9 a5 O hz a h;replace D:=D.fr O;replace Z:=Z.sp O;replace hC:=hC.sp O;replace hm:=hm.fr O (by simp;exact hm.ne_blk I);clear I O hz;have I:Blk b9 a0 _ [_,_,_,_]:=a5;clear a5;refine z0b (z0e 9 U (z0s h U λa h=>?_));refine z0b (z0r ?_);clear hC a3;exact bk (h.sub (L':=[(1,_),(3,_),(4,_)]) (.c3 U U U)) (jE (a0) (.c3 U U U) ⟨Z,⟨oo,I⟩⟩);rintro g3 c9 ⟨a1,⟨d1,I⟩⟩;have b2:=I.lt;refine kpC [(1,_),(3,_),(4,_)] (.c3 U U U) ?_;obtain⟨f,hf⟩:∃f,(z8q o.k).getD f40=f:=⟨_,rfl⟩;rw[hf]at I;have a7:y3b o↔(z8q o.k).isSome=true/\y7u f o:=by rw[<-hf];rfl
 replace I:Blk c9 g3 _ [.bool f.1,.bool f.2.1,.bool f.2.2.1,.bool f.2.2.2]:=I;refine sq (sr (mv U (nt' U (nn (cd U (λc0=>?_) (λc0=>?_))))));refine sr (asg U (nn (rt (tr (r1 results142 U ?_)))));exact⟨_,rfl,congrArg Value.bool (decide_eq_false (λh=>by simp[(a7.1 h).1]at c0)).symm,(q1.n1 a1)⟩;refine sk (tn (sq (sq (rbo (r:=35) (L':=[(1,_),(3,_)]) ((((f.1=true/\(o.d≠0))/\(o.d≠1))\/((¬f.1=true)/\(o.d≠0)))) (.c2 U U) ?_ ?_))));refine fad U x1q (z0i U I U na4 (mv U (gs 16 U (λg0=>?_) (λg0=>?_))));refine gY U (fad U y1i (gY U ?_));replace D:=D.ext a1;refine z0i U D U x3n (gY U (ne' U (pkt U (mv U (gs 21 U (λg1=>?_) (λg1=>?_))))));refine gY U (fad U y1i (gY U (z0i U D U x3n (gY U (ne' U (pkt U (mv U (gs 26 U (λg2=>?_) (λg2=>?_)))))))));exact gN U (gN U (gN U (gN U (gS U (gS U (gS U (gN U (pkt U (rbe U (.c2 U U))))))))));refine gY U (fad U x1q (gY U (z0i U I U na4 (gY U (nt' U (gY U (mv U (gs 30 U (λg3=>?_) (λg3=>?_)))))))));exact gY U (fad U y1i (gY U (z0i U D U x3n (gY U (ne' U (gY U (pkt U (pkf U (rbe U (.c2 U U))))))))));exact gN U (gN U (gN U (gY U (pkf U (pkf U (rbe U (.c2 U U)))))));refine gN U (gN U (gN U (pkf U (mv U (gY U (fad U x1q (gY U (z0i U I U na4 (gY U (nt' U (gY U (mv U (gs 30 U (λg4=>?_) (λg4=>?_))))))))))))));exact gY U (fad U y1i (gY U (z0i U D U x3n (gY U (ne' U (gY U (pkt U (pkf U (rbe U (.c2 U U))))))))));exact gN U (gN U (gN U (gY U (pkf U (pkf U (rbe U (.c2 U U)))))));refine gN U (gN U (gN U (pkf U (mv U (gN U (gN U (gN U (pkf U (mv U (gY U (fad U x1q (gY U (z0i U I U na4 (gY U (nt' U (gY U (mv U (gs 30 U (λg5=>?_) (λg5=>?_)))))))))))))))))));refine gY U (fad U y1i (gY U ?_));replace D:=D.ext a1;exact z0i U D U x3n (gY U (ne' U (gY U (pkt U (pkf U (rbe U (.c2 U U)))))));exact gN U (gN U (gN U (gY U (pkf U (pkf U (rbe U (.c2 U U)))))));refine tn (cd U (λc1=>?_) (λc1=>?_));refine sr (asg U (nn (rt (tr (r1 results142 U ?_)))));exact⟨_,rfl,congrArg Value.bool (decide_eq_false (λh=>(a7.1 h).2.1 c1)).symm,(q1.n1 a1)⟩;refine sk (tn (sq (sq (u2n (r:=54) (L':=[(1,_),(3,_)]) (((f.2.1=true/\((z4g o.b o.p)≠0))\/((¬f.2.1=true)/\(¬(o.b=0/\o.p=0))))) (.c2 U U) ?_ ?_))));refine fad U x8j (z0i U I U na4 (mv U (gs 38 U (λg6=>?_) (λg6=>?_))));refine gY U (fad U z6r (gY U ?_));replace D:=D.ext a1;refine z2r (vs:=[_,_]) U D z8c U (gY U (cl (ev1 U) u5t (z5i _ _ _) U ?_));rintro _ d4 ⟨rfl,a9⟩;refine gY U (ne' U (pkt U (mv U (gs 44 U (λg7=>?_) (λg7=>?_)))));exact gN U (gN U (gN U (gN U (gS U (gS U (gS U (gS U (gN U (pkt U (y5c U (.c2 U U) a9))))))))));refine gY U (fad U x8j (gY U ?_));replace I:=I.ext a9;refine z0i U I U na4 (gY U (nt' U (gY U (mv U (gs 48 U (λg8=>?_) (λg8=>?_))))));refine gY U (fad U z6r (gY U ?_));replace D:=D.ext a9;exact z2r (vs:=[_,_]) U D z8c U (gY U (z1z (cs:=[_,_]) z0g x8q z0t U (gY U (j0j (V:=ndV) (e:=(_,_)) (f:=(_,_)) U U k3d U (gY U (pkt U (pkf U (y5c U (.c2 U U) a9))))))));exact gN U (gN U (gN U (gN U (gY U (pkf U (pkf U (y5c U (.c2 U U) a9)))))));refine gN U (gN U (gN U (gN U (pkf U (mv U (gY U (fad U x8j (gY U (z0i U I U na4 (gY U (nt' U (gY U (mv U (gs 48 U (λg9=>?_) (λg9=>?_)))))))))))))));refine gY U (fad U z6r (gY U ?_));replace D:=D.ext a1;exact z2r (vs:=[_,_]) U D z8c U (gY U (z1z (cs:=[_,_]) z0g x8q z0t U (gY U (j0j (V:=ndV) (e:=(_,_)) (f:=(_,_)) U U k3d U (gY U (pkt U (pkf U (y5c U (.c2 U U) (Fr.refl _ _)))))))));exact gN U (gN U (gN U (gN U (gY U (pkf U (pkf U (y5c U (.c2 U U) (Fr.refl _ _))))))));intro d5 a4;have d6:=a4.size;refine tn (cd U (λc2=>?_) (λc2=>?_));refine sr (asg U (nn (rt (tr (r1 results142 U ?_)))));exact⟨_,rfl,congrArg Value.bool (decide_eq_false (λh=>(a7.1 h).2.2.1 c2)).symm,(q1.n2 a1 a4)⟩;refine sk (tn (sq (sq (rbo (r:=76) (L':=[(1,_),(3,_)]) (((f.2.2.1=true/\((o.y<1)\/(6<o.y)))\/((¬f.2.2.1=true)/\(o.y≠0)))) (.c2 U U) ?_ ?_))));refine fad U x7u ?_;replace I:=I.ext a4;refine z0i U I U na4 (mv U (gs 57 U (λb3=>?_) (λb3=>?_)));refine gY U (fad U z5f (gY U ?_));replace D:=D.ext (a1.n1 a4);refine z0i U D U na5 (gY U (lt' U (gY U (mv U (gs 61 U (λb4=>?_) (λb4=>?_))))));exact gN U (gN U (gN U (gY U (pkt U (pkt U (mv U (gN U (gN U (gN U (gN U (gS U (gS U (gS U (gN U (pkt U (rbe U (.c2 U U)))))))))))))))));refine gY U (fad U z5f (gY U (z0i U D U na5 (gY U (gt' U (gY U (pkf U (pkt U (mv U (gs 67 U (λb5=>?_) (λb5=>?_)))))))))));exact gN U (gN U (gN U (gN U (gS U (gS U (gS U (gN U (pkt U (rbe U (.c2 U U))))))))));refine gY U (fad U x7u (gY U (z0i U I U na4 (gY U (nt' U (gY U (mv U (gs 71 U (λb6=>?_) (λb6=>?_)))))))));exact gY U (fad U z5f (gY U (z0i U D U na5 (gY U (ne' U (gY U (pkt U (pkf U (rbe U (.c2 U U))))))))));exact gN U (gN U (gN U (gY U (pkf U (pkf U (rbe U (.c2 U U)))))));refine gN U (gN U (gN U (gN U (gS U (gS U (gS U (gN U (pkf U (mv U (gY U (fad U x7u (gY U (z0i U I U na4 (gY U (nt' U (gY U (mv U (gs 71 U (λb7=>?_) (λb7=>?_)))))))))))))))))));refine gY U (fad U z5f (gY U ?_));replace D:=D.ext (a1.n1 a4);exact z0i U D U na5 (gY U (ne' U (gY U (pkt U (pkf U (rbe U (.c2 U U)))))));exact gN U (gN U (gN U (gY U (pkf U (pkf U (rbe U (.c2 U U)))))));refine tn (cd U (λc3=>?_) (λc3=>?_));refine sr (asg U (nn (rt (tr (r1 results142 U ?_)))));exact⟨_,rfl,congrArg Value.bool (decide_eq_false (λh=>(a7.1 h).2.2.2.1 c3)).symm,(q1.n2 a1 a4)⟩;refine sk (tn (sq (rbo (r:=2) (L':=[]) ((f.2.2.2=true\/(o.r=0))) .nil ?_ ?_)));refine fad U j4i ?_;replace I:=I.ext a4;refine z0i U I U na4 (mv U (gs 79 U (λb8=>?_) (λb8=>?_)));exact gN U (gN U (gN U (pkt U (asg U (rbe U .nil)))));refine gY U (fad U y9l (gY U ?_));replace D:=D.ext (a1.n1 a4);exact z0i U D U na3 (gY U (eq' U (pkf U (asg U (rbe U .nil)))));refine tn (rt (r1 results142 U ?_));exact⟨_,rfl,congrArg Value.bool (decide_eq_decide.2 ⟨λh=>a7.2 ⟨by revert c0;cases (z8q o.k).isSome<;>simp,c1,c2,c3,h⟩,λh=>(a7.1 h).2.2.2.2⟩),(q1.n2 a1 a4)⟩
theorem v2q (o:MOp)(w0:World):Rets prog 90 #[opV o] w0 λv w'=>v=.int .i64 (y2p o)/\Fr [] w0 w':=by
 refine we [(0,opV o)] func90 U ntmps90 U (.cons U .nil) (sr (bx U (λg1 w1 a0 D q1 z1=>(asg U (nn (sq (sr (z0m U D v4e (cl (ev1 U) (mkC func142) (u4y o _) U ?_)))))))));rintro _ w2 ⟨rfl,O⟩;refine nt' U (nn (cd U (λI=>?_) (λI=>?_)));exact sr (asg U (nn (rt (tr (r1 results90 U ⟨_,rfl,by rw[y2p,if_pos I],(q1.n1 O)⟩)))));refine sk (tn (sq (sq (rbo (r:=13) (L':=[]) (((o.r < -4)\/(4<o.r))) .nil ?_ ?_))));refine fad U y9l ?_;replace D:=D.ext O;refine z0i U D U na3 (lt' U (mv U (gs 9 U (λg0=>?_) (λg0=>?_))));exact gN U (gN U (gN U (pkt U (rbe U .nil))));exact gY U (fad U y9l (gY U (z0i U D U na3 (gY U (gt' U (pkf U (rbe U .nil)))))));refine tn (cd U (λZ=>?_) (λZ=>?_));exact sr (asg U (nn (rt (tr (r1 results90 U ⟨_,rfl,by rw[y2p,if_neg I,if_pos Z],(q1.n1 O)⟩)))));exact sk (tn (sr (asg U (nn (rt (r1 results90 U ⟨_,rfl,by rw[y2p,if_neg I,if_neg Z],(q1.n1 O)⟩))))))
open Go.Lw Go.G21 Go.G08 _root_.Go.Proofs.Tryz
theorem z3x:z4i prog 54 2:=⟨λ_=>kr0,λ_=>kr0⟩
theorem z9m:z4i prog 114 4:=⟨λ_=>kr0,λ_=>kr0⟩
theorem z9g:z0y prog 54 0 0:=λ_ _=>kr0
theorem y1g:z0y prog 54 1 1:=λ_ _=>kr0
theorem x7r:z0y prog 114 0 0:=λ_ _=>kr0
theorem z9d:z0y prog 114 2 3:=λ_ _=>kr0
theorem sz86:z1r prog 86 1:=λ_=>kr0
def idV (i:LId):Value:=.agg (idL i).toArray
def paV (p:Pa):Value:=.agg (paL p).toArray
theorem k3i:u0s prog 54 idV:=by
 intro e f Z oy w;have O:∀D,(eqGuard D 54 Z oy (idV e) (idV f)).run prog w=.ok () w:=λD=>run_eqGuard_agg w D 54 Z oy _ _ kr0;have I:prog.stoodInHeld 54=false:=by kernel_rfl
 obtain⟨y,n⟩:=e;obtain⟨y',n'⟩:=f;refine⟨O _,O _,?_,?_⟩;unfold idV;simp[go_sem,I,underlying54];(repeat' split)<;>simp_all
 unfold idV;simp[go_sem,I,underlying54];(repeat' split)<;>simp_all
theorem eqPa:u0s prog 114 paV:=by
 intro e f Z oy w;have O:∀D,(eqGuard D 114 Z oy (paV e) (paV f)).run prog w=.ok () w:=λD=>run_eqGuard_agg w D 114 Z oy _ _ kr0;have I:prog.stoodInHeld 114=false:=by kernel_rfl
 obtain⟨⟨y,n⟩,b,d⟩:=e;obtain⟨⟨y',n'⟩,b',d'⟩:=f;refine⟨O _,O _,?_,?_⟩;unfold paV;simp[go_sem,I,underlying114];(repeat' split)<;>simp_all
 unfold paV;simp[go_sem,I,underlying114];(repeat' split)<;>simp_all
theorem x2k (i:LId)(w0:World):Rets prog 122 #[.agg #[.int .u8 i.y,.int .i64 i.n]] w0 λr w'=>r=.bool (decide (y3g i))/\Fr [] w0 w':=by
 refine we [(0,.agg #[.int .u8 i.y,.int .i64 i.n])] func122 U ntmps122 U (.cons U .nil) (sr (bx U (λI w1 Z D q1 z1=>(asg U (nn (sq (rbo (r:=2) (L':=[]) (((((1<=i.y)/\(i.y<=6))/\(0<=i.n))/\(i.n<2048))) .nil ?_ ?_)))))));refine fad U z9g (z0i U D U na5 (ge' U (mv U (gs 6 U (λO=>?_) (λO=>?_)))));refine gY U (fad U z9g (gY U (z0i U D U na5 (gY U (le' U (pkt U (mv U (gs 11 U (λI=>?_) (λI=>?_)))))))));refine gY U (fad U y1g (gY U (z0i U D U na3 (gY U (ge' U (pkt U (mv U (gs 16 U (λg2=>?_) (λg2=>?_)))))))));exact gY U (fad U y1g (gY U (z0i U D U na3 (gY U (lt' U (pkt U (asg U (rbe U .nil))))))));exact gN U (gN U (gN U (pkf U (asg U (rbe U .nil)))));exact gN U (gN U (gN U (pkf U (mv U (gN U (gN U (gN U (pkf U (asg U (rbe U .nil))))))))));exact gN U (gN U (gN U (pkf U (mv U (gN U (gN U (gN U (pkf U (mv U (gN U (gN U (gN U (pkf U (asg U (rbe U .nil)))))))))))))));refine tn (rt (r1 results122 U ?_));exact⟨_,rfl,congrArg Value.bool (decide_eq_decide.2 (by unfold y3g;omega)),q1⟩
theorem y5u (d:Int)(w0:World):Rets prog 163 #[.int .u8 d] w0 λr w'=>r=.bool (decide (z6v d))/\Fr [] w0 w':=by
 refine we [(0,.int .u8 d)] func163 U ntmps163 U (.cons U .nil) (sr (asg U (nn (sq (rbo (r:=2) (L':=[]) (((d=0)\/(d=1))) .nil ?_ ?_)))));refine mv U (eq' U (mv U (gs 5 U (λD=>?_) (λD=>?_))));exact gN U (gN U (pkt U (asg U (rbe U .nil))));exact gY U (mv U (gY U (eq' U (pkf U (asg U (rbe U .nil))))));refine tn (rt (r1 results163 U ?_));exact⟨_,rfl,congrArg Value.bool (decide_eq_decide.2 (by unfold z6v;omega)),(Fr.refl _ _)⟩
theorem v2u (p:Pa)(w0:World):Rets prog 124 #[.agg #[.int .u8 p.id.y,.int .i64 p.id.n,.bool p.f,.int .u8 p.d]] w0 λr w'=>r=.bool (decide (y2i p))/\Fr [] w0 w':=by
 refine we [(0,.agg #[.int .u8 p.id.y,.int .i64 p.id.n,.bool p.f,.int .u8 p.d])] func124 U ntmps124 U (.cons U .nil) (sr (bx U (λg1 w1 a0 D q1 z1=>(asg U (nn (sq (u2n (r:=2) (L':=[]) (((y3g ⟨p.id.y,p.id.n⟩)/\(z6v p.d))) .nil ?_ ?_)))))));refine fad U x7r (z2r (vs:=[_,_]) U D z3x U (cl (ev1 U) (mkC func122) (x2k ⟨_,_⟩ _) U ?_));rintro _ w2 ⟨rfl,I⟩;refine mv U (gs 6 U (λZ=>?_) (λZ=>?_));refine gY U (fad U z9d (gY U ?_));replace D:=D.ext I;refine z0i U D U x3n (gY U (cl (ev1 U) (mkC func163) (y5u _ _) U ?_));rintro _ w3 ⟨rfl,q3⟩;exact pkt U (asg U (y5c U .nil (I.n1 q3)));exact gN U (gN U (gN U (pkf U (asg U (y5c U .nil I)))));intro w4 O;have z4:=O.size;refine tn (rt (r1 results124 U ?_));exact⟨_,rfl,congrArg Value.bool (decide_eq_decide.2 (by rfl)),(q1.n1 O)⟩
theorem y9g (x:Int)(w0:World):Rets prog 123 #[.int .i64 x] w0 λr w'=>r=.bool (decide (x6z x))/\Fr [] w0 w':=by
 refine we [(0,.int .i64 x)] func123 U ntmps123 U (.cons U .nil) (sr (asg U (nn (sq (rbo (r:=2) (L':=[]) (((((Int.tmod x 2)≠0)/\(-13<=x))/\(x<=179))) .nil ?_ ?_)))));refine mv U (x7c U U (by first|exact IntWalk.rem_in _ _ oo|rfl) U (ne' U (mv U (gs 6 U (λD=>?_) (λD=>?_)))));refine gY U (mv U (gY U (ge' U (pkt U (mv U (gs 10 U (λI=>?_) (λI=>?_)))))));exact gY U (mv U (gY U (le' U (pkt U (asg U (rbe U .nil))))));exact gN U (gN U (pkf U (asg U (rbe U .nil))));exact gN U (gN U (pkf U (mv U (gN U (gN U (pkf U (asg U (rbe U .nil))))))));refine tn (rt (r1 results123 U ?_));exact⟨_,rfl,congrArg Value.bool (decide_eq_decide.2 (by unfold x6z;exact and_assoc)),(Fr.refl _ _)⟩
theorem x3y (p q:Pa)(w0:World):Rets prog 125 #[.agg #[.int .u8 p.id.y,.int .i64 p.id.n,.bool p.f,.int .u8 p.d],.agg #[.int .u8 q.id.y,.int .i64 q.id.n,.bool q.f,.int .u8 q.d]] w0 λr w'=>r=.bool (decide (u9i p q))/\Fr [] w0 w':=by
 refine we [(0,.agg #[.int .u8 p.id.y,.int .i64 p.id.n,.bool p.f,.int .u8 p.d]),(1,.agg #[.int .u8 q.id.y,.int .i64 q.id.n,.bool q.f,.int .u8 q.d])] func125 U ntmps125 U (.c2 U U) (sr (bx U (λg2 w1 a0 I q1 z1=>(bx U (λg3 w2 a1 D q2 z2=>(asg U (nn (sq (sq (u2n (r:=21) (L':=[(2,_),(3,_)]) ((((¬(z6v p.d))\/(¬(z6v q.d)))\/(p.d=q.d))) (.c2 U U) ?_ ?_))))))))));refine fad U z9d ?_;replace I:=I.ext q2;refine z0i U I U x3n (cl (ev1 U) (mkC func163) (y5u _ _) U ?_);rintro _ w3 ⟨rfl,O⟩;refine nt' U (mv U (gs 9 U (λg0=>?_) (λg0=>?_)));exact gN U (gN U (gN U (gN U (pkt U (mv U (gN U (gN U (gN U (gN U (gN U (pkt U (y5c U (.c2 U U) O))))))))))));refine gY U (fad U z9d (gY U ?_));replace D:=D.ext O;refine z0i U D U x3n (gY U (cl (ev1 U) (mkC func163) (y5u _ _) U ?_));rintro _ w4 ⟨rfl,q4⟩;refine gY U (nt' U (pkf U (mv U (gs 15 U (λg1=>?_) (λg1=>?_)))));exact gN U (gN U (gN U (gN U (gN U (pkt U (y5c U (.c2 U U) (O.n1 q4)))))));refine gY U (fad U z9d (gY U ?_));replace I:=I.ext (O.n1 q4);refine z0i U I U x3n (gY U (fad U z9d (gY U ?_)));replace D:=D.ext q4;exact z0i U D U x3n (gY U (eq' U (pkf U (y5c U (.c2 U U) (O.n1 q4)))));intro w5 Z;have z5:=Z.size;refine tn (cd U (λc0=>?_) (λc0=>?_));refine sr (asg U (nn (rt (tr (r1 results125 U ?_)))));exact⟨_,rfl,congrArg Value.bool (decide_eq_false (j4g c0)).symm,(q1.n2 q2 Z)⟩;refine sk (tn (sr (fad U z9d ?_)));replace I:=I.ext (q2.n1 Z);refine z0i U I U x3n (fad U z9d ?_);replace D:=D.ext Z;refine z5w U U D U sz86 (λw6 D q6 z6=>?_);replace D:Blk w6 g3 _ [_,_,_,_]:=D;refine nn (sr ?_);replace I:=I.fr q6;refine z0m U I z9m (z0m U D z9m (k2x (V:=paV) (e:=p) (f:=(⟨q.id,q.f,p.d⟩:Pa)) U U eqPa U (asg U (nn (rt (r1 results125 U ?_))))));exact⟨_,rfl,congrArg Value.bool (decide_eq_decide.2 (j0i c0)),(q1.z3 q2 Z q6)⟩
theorem z5a:ElemOf prog 109 114 z2f 24:=ElemOf.mk' (z:=(.agg #[.int .u8 0,.int .i64 0,.bool false,.int .u8 0])) underlying109 kr0 U
theorem x2b (w:World):(zeroValue 114).run prog w=.ok (.agg #[(.int .u8 0),(.int .i64 0),(.bool false),(.int .u8 0)]) w:=kr0
theorem y0p (v:Value)(l:List Pa)(w0:World)(I:Sl z2f w0 v l)(hl:l.length<=100000):Rets prog 215 #[v] w0 λr w'=>∃A,r=.slice A l.length l.length/\Lw.Own z2f 114 w0.heap.size w' r l/\Fr [] w0 w':=by
 obtain⟨A,c,rfl,a0,hM,hA⟩:=id I;clear hA;unfold maxLen at hM;refine we [(0,.slice A l.length c)] func215 U ntmps215 U (.cons U .nil) ?_;have O:=I;refine sr (asg U (nn (sr (mv U (lnS U underlying109 (z1g (m:=l.length) (c:=l.length) (pa0) U z5a x2b U (λg6 w1 a1 D Z z1=>(asg U (nn (sr (mv U (mv U ?_))))))))))));replace I:=O.ext Z;refine z9h (zs:=List.replicate l.length pa0) (by rw[List.length_replicate];rfl) U (by rw[List.length_replicate];exact D) I (by rw[List.length_replicate]) z5a (λw2 D q2 z2=>?_);rw[List.length_replicate]at D;exact nn (sr (mv U (asg U (nn (rt (r1 results215 U ⟨_,rfl,some ⟨g6,0,none⟩,rfl,D.low oo,(Z.z1 q2)⟩))))))
theorem x3v:z1r prog 114 4:=λ_=>kr0
theorem u1v (base:Nat)(u v:Value)(st l:List Pa)(w0:World)(I:Lw.Own z2f 114 base w0 u st)(hs:Sl z2f w0 v l)(hd:∀k∈z0u v,k<base)(hb:base<=w0.heap.size)(hn:st.length+l.length<=100000):Rets prog 214 #[u,v] w0 λr w'=>∃S,Lw.Own z2f 114 base w' r (z5g st l)/\(∀k∈S,base<=k)/\Fr S w0 w':=by
 obtain⟨A,c,rfl,b9,hM,hA⟩:=id hs;clear hA;unfold maxLen at hM;refine we [(0,u),(1,.slice A l.length c)] func214 U ntmps214 U (.c2 U U) ?_;have b4:=hs;refine sr (asg U (nn (sq (sr (mv U (lnS U underlying109 (mv U (nn (bl (lpK (ι:=Nat×Value) [(8,_),(9,_)] (λp=>[(10,.int .i64 (p.1:Int)),(0,p.2)]) (λp w'=>p.1<=l.length/\Lw.Own z2f 114 base w' p.2 (z5g st (l.take p.1))/\base<=w'.heap.size/\(∃S,(∀k∈S,base<=k)/\Fr S w0 w')) (λp=>l.length-p.1) (0,u) (.c4 U U U U) ⟨Nat.zero_le _,I,hb,[],sp0,Fr.refl _ _⟩ ?_))))))))));rintro⟨i,vT⟩ w1 ⟨hi,I,hb,⟨S,hS,qS⟩⟩;simp only at hi I;refine kpC [(8,_),(9,_),(10,.int .i64 (i:Int)),(0,vT)] (.c4 U U U U) ?_;have hs:=b4.fr qS (λk Z b3=>by have:=hS k Z;have:=hd k b3;omega);have b0:=z8e (l.take i) st;rw[List.length_take]at b0;obtain⟨ps,a1⟩:∃x,x=z5g st (l.take i):=⟨_,rfl⟩;rw[<-a1]at I b0;obtain⟨AT,cT,rfl,b8⟩:=I.sl.form;have a4:=I;have b2:=I.sl.len_le;unfold maxLen at b2;refine sr (lt' U (nn (sq (cd U (λc0=>?_) (λc0=>?_)))));refine sk (tn (sq (bl (sr (z0x (pa0) U hs U z5a z1m (λb6 a7=>?_))))));refine z1t U (a7 _ hs) z9m (al x2b U (λg6 w2 c9 O q2 z2=>?_));refine z0k (vs:=[_,_,_,_]) U O x3v (λw3 O q3 z3=>?_) (h1:=(by first|(simp[Value.oneCell',S];done)|exact z2f.one (l.getD i pa0)));refine nn (sr (mv U (lnS U underlying109 (asg U (nn (sq ?_))))));replace I:=(I.ext q2).fr q3 (by first|exact z9q I oo|simp[z0u]<;>omega);intro a h;refine z0h none (λwb w'=>Fr [] wb w') z2y ?_;intro w4 q4;have z4:=q4.size;replace I:=I.ext q4;replace O:=O.ext q4;have hC:Fr [] w4 w4:=Fr.refl _ _;have a3:=I;have a0:=O;refine z0d 0 h U λa h=>v7t 1 hC h wn U U U U λa h=>z0d 2 h U λa h=>gSp (D:=18) h U ?_ ?_;clear h;intro g0 h;refine z0d 3 h U ?_ (hG:=(wy U));clear h a;intro a h;refine z0d 4 h U ?_ (hG:=(wy U));clear h a;intro a h;refine z3e 5 h U (by first|exact i6 oo|rfl) U ?_ (hG:=(wy U));clear h a;intro a h;refine z1e (p:=(ps.length-1)) (pa0) 6 h U I.sl U z5a U ?_ (hG:=(wy U));clear h a;intro b7 a8 a h;refine z2l 7 h (wy U) U (λ_ hw=>a8 _ (a3.sl.ext hw)) z9m U λa h=>z0z 8 h U (λ_ hw=>a0.ext hw) z9m U ?_ (hG:=(wy U));clear h a;intro a h;refine z0e 9 U (y1d h U U U U U U (z0n h (z0a U (z0a U z0g)) (mkC func125) (x3y (ps.getD (ps.length-1) pa0) (l.getD i pa0) _) ?_));rintro _ w5 ⟨rfl,q5⟩ a h;have z5:=q5.size;replace I:=I.ext q5;replace O:=O.ext q5;replace hC:=hC.next q5;refine z0b (z0e 10 U (z5k h U λa h=>?_));refine z0b (z0r ?_);clear hC a3 a0;refine bk (h.sub (L':=[(0,_),(6,_),(7,_),(8,_),(9,_),(10,_),(26,_)]) (.c7 U U U U U U U)) (tn (cd U (λc1=>?_) (λc1=>?_)));exact rg (mv U (mv U (z1u U (wi6 oo) (mv U (u8o U underlying109 U (v7e (p:=(ps.length-1)) (p':=cT) U U U z5a oo oo U (asg U (kpL [(0,_),(8,_),(9,_),(10,_)] (.c4 U U U U) (nl (bn' (tn (rg (z0q U (wi6 oo) (mv U (nl (lpE ((i+1,_)) (.c4 U U U U) ⟨sm,by rw[y3x st l i oo,<-a1,y1o,if_pos ⟨oo,c1⟩];exact I.take U oo oo oo,oo,S++z0u (.slice AT ps.length cT),(λk Z=>(List.mem_append.1 Z).elim (hS k) (λZ=>(a4.blk k Z).1)),qS.trans ((Fr.refl (z0u (.slice AT ps.length cT)) _).z4 q2 q3 q4 q5)⟩ sm))))))))))))))));refine rg (mv U (z0m U O z9m (z1w ([l.getD i pa0]) (ev1 U) U z5a (λb1 w6 a9 a2 q6 z6=>?_))));replace I:=I.ext q6;have a5:=I;refine z1x U I a2.sl z5a (λb5 w7 I q7 a6=>?_);have z7:=q7.size;exact asg U (kpL [(0,_),(8,_),(9,_),(10,_)] (.c4 U U U U) (nl (bn' (tn (rg (z0q U (wi6 oo) (mv U (nl (lpE ((i+1,_)) (.c4 U U U U) ⟨sm,by rw[y3x st l i oo,<-a1,y1o,if_neg (by first|exact λe=>c1 e.2|exact λe=>absurd e.1 oo)];exact I,oo,S++z0u (.slice AT ps.length cT),(λk Z=>(List.mem_append.1 Z).elim (hS k) (λZ=>(a4.blk k Z).1)),qS.trans (((Fr.refl (z0u (.slice AT ps.length cT)) _).z5 q2 q3 q4 q5 q6).step q7 (λk Z _=>Z))⟩ sm)))))))));clear h;intro g0 h;refine z2p 3 h U U λa h=>z2p 4 h U U λa h=>z2p 5 h U U λa h=>z2p 6 h U U λa h=>z2p 7 h U U λa h=>z2p 8 h U U λa h=>z2p 9 h U U λa h=>z0e 10 U (z6i h U λa h=>?_);refine z0b (z0r ?_);clear hC a3 a0;refine bk (h.sub (L':=[(0,_),(6,_),(7,_),(8,_),(9,_),(10,_),(26,_)]) (.c7 U U U U U U U)) (tn (cf U (rg (mv U (z0m U O z9m (z1w ([l.getD i pa0]) (ev1 U) U z5a (λb1 w8 a9 a2 q8 z8=>?_)))))));replace I:=I.ext q8;have a5:=I;refine z1x U I a2.sl z5a (λb5 w9 I q9 a6=>?_);have z9:=q9.size;exact asg U (kpL [(0,_),(8,_),(9,_),(10,_)] (.c4 U U U U) (nl (bn' (tn (rg (z0q U (wi6 oo) (mv U (nl (lpE ((i+1,_)) (.c4 U U U U) ⟨sm,by rw[y3x st l i oo,<-a1,y1o,if_neg (by first|exact λe=>c1 e.2|exact λe=>absurd e.1 oo)];exact I,oo,S++z0u (.slice AT ps.length cT),(λk Z=>(List.mem_append.1 Z).elim (hS k) (λZ=>(a4.blk k Z).1)),qS.trans (((Fr.refl (z0u (.slice AT ps.length cT)) _).z4 q2 q3 q4 q8).step q9 (λk Z _=>Z))⟩ sm)))))))));exact ex (te (te (xh (tn (sr (mv U (asg U (kpL [(4,_)] (.cons U .nil) (nn (rt (r1 results214 U ⟨_,rfl,S,by rw[List.take_of_length_le oo]at a1;rw[<-a1];exact I,hS,qS⟩)))))))))))
theorem z8r:z0y prog 146 0 0:=λ_ _=>kr0
theorem z5s:z0y prog 146 1 1:=λ_ _=>kr0
theorem z8x:z0y prog 146 2 2:=λ_ _=>kr0
theorem v8o:z0y prog 146 3 3:=λ_ _=>kr0
theorem z7w:z0y prog 146 4 4:=λ_ _=>kr0
theorem y0y:z2a prog 109:=λ_=>kr0
theorem z9x (q:YQ)(w0:World)(hp:Sl z2f w0 (slv q.pe) q.pes):Rets prog 75 #[.agg #[.bool q.inn,.int .i64 q.pl,.int .i64 q.ct,.bool q.nw,.slice q.pe.1 q.pe.2.1 q.pe.2.2]] w0 λr w'=>r=.int .i64 (ynE q.p)/\Fr [] w0 w':=by
 have a3:=z2g hp;have a7:=hp.len_le;unfold maxLen at a7;refine we [(0,.agg #[.bool q.inn,.int .i64 q.pl,.int .i64 q.ct,.bool q.nw,.slice q.pe.1 q.pe.2.1 q.pe.2.2])] func75 U ntmps75 U (.cons U .nil) ?_;have a6:=hp;refine sr (bx U (λg1 w1 b0 I q1 z1=>(asg U (nn (sq (sq (rbo (r:=12) (L':=[(1,_)]) (((q.ct<0)\/(2048<q.ct))) (.cons U .nil) ?_ ?_)))))));refine fad U z8x (z0i U I U na3 (lt' U (mv U (gs 8 U (λg0=>?_) (λg0=>?_)))));exact gN U (gN U (gN U (pkt U (rbe U (.cons U .nil)))));exact gY U (fad U z8x (gY U (z0i U I U na3 (gY U (gt' U (pkf U (rbe U (.cons U .nil))))))));refine tn (cd U (λc0=>?_) (λc0=>?_));exact sr (asg U (nn (rt (tr (r1 results75 U ⟨_,rfl,by rw[yn_a c0],q1⟩)))));refine sk (tn (sq (sr (fad U z8r (z0i U I U na4 (nt' U (nn (cd U (λc1=>?_) (λc1=>?_)))))))));refine sq (sq (rbo (r:=28) (L':=[]) ((((q.pl≠0)\/q.nw=true)\/(0<(q.pe.2.1:Int)))) .nil ?_ ?_));refine fad U z5s (z0i U I U na3 (ne' U (mv U (gs 19 U (λg1=>?_) (λg1=>?_)))));exact gN U (gN U (pkt U (mv U (gN U (gN U (gN U (gN U (pkt U (rbe U .nil)))))))));refine gY U (fad U v8o (gY U (z0i U I U na4 (pkf U (mv U (gs 23 U (λg2=>?_) (λg2=>?_)))))));exact gN U (gN U (gN U (gN U (pkt U (rbe U .nil)))));exact gY U (fad U z7w (gY U (z0i U I U y0y (gY U (lnS U underlying109 (gY U (gt' U (pkf U (rbe U .nil)))))))));refine tn (cd U (λc2=>?_) (λc2=>?_));refine sr (asg U (nn (rt (tr (tr (r1 results75 U ?_))))));have Z:q.inn=false:=(by simpa using c1);exact⟨_,rfl,by rw[yn_b Z (by simpa[a3] using c2)],q1⟩;refine sk (tn (sr (asg U (nn (rt (tr (r1 results75 U ?_)))))));have Z:q.inn=false:=(by simpa using c1);exact⟨_,rfl,by rw[yn_c c0 Z (by simpa[a3] using c2)],q1⟩;refine sk (tn (sq (sq (u2n (r:=38) (L':=[(1,_)]) (((¬(x6z q.pl))\/(4096<(q.pe.2.1:Int)))) (.cons U .nil) ?_ ?_))));refine fad U z5s (z0i U I U na3 (cl (ev1 U) (mkC func123) (y9g _ _) U ?_));rintro _ w2 ⟨rfl,q2⟩;have z2:=q2.size;refine nt' U (mv U (gs 33 U (λg3=>?_) (λg3=>?_)));exact gN U (gN U (gN U (gN U (pkt U (y5c U (.cons U .nil) q2)))));refine gY U (fad U z7w (gY U ?_));replace I:=I.ext q2;exact z0i U I U y0y (gY U (lnS U underlying109 (gY U (gt' U (pkf U (y5c U (.cons U .nil) q2))))));intro w3 q3;have z3:=q3.size;refine tn (cd U (λc3=>?_) (λc3=>?_));refine sr (asg U (nn (rt (tr (r1 results75 U ?_)))));have Z:q.inn=true:=(by simpa using c1);exact⟨_,rfl,by rw[yn_d Z (by simpa[a3] using c3)],(q1.n1 q3)⟩;refine sk (tn (sq (sr (fad U z7w ?_))));replace I:=I.ext q3;refine z0i U I U y0y (lnS U underlying109 (mv U (nn (bl (lpK (ι:=Nat) [(1,_),(40,_),(41,_)] (λi=>[(42,.int .i64 (i:Int))]) (λi w'=>Fr [] w3 w'/\i<=q.pes.length/\∀j,j<i->v5a q.pes j) (λi=>q.pes.length-i) 0 (.c4 U U U U) ⟨Fr.refl _ _,⟨Nat.zero_le _,λj h=>absurd h oo⟩⟩ ?_)))));rintro i w4 ⟨q4,⟨hi,hg⟩⟩;have z4:=q4.size;refine kpC [(1,_),(40,_),(41,_),(42,_)] (.c4 U U U U) (sr (lt' U (nn (sq (cd U (λc4=>?_) (λc4=>?_))))));refine sk (tn (sq (bl (sr (mv U ?_)))));replace hp:=a6.ext (q1.n2 q3 q4);refine z0x (p:=i) (pa0) U hp U z5a oo (λa8 a4=>(z1t U (a4 _ hp) z9m (al x2b U (λg4 w5 b1 a1 q5 z5=>?_))));refine asg U (z0k (vs:=[_,_,_,_]) U a1 x3v (λw6 a1 q6 z6=>?_) (h1:=(by first|(simp[Value.oneCell',S];done)|exact z2f.one (q.pes.getD i pa0))));refine nn (sq ?_);replace hp:=a6.ext (q1.z4 q3 q4 q5 q6);replace I:=(I.ext (q4.n1 q5)).fr q6;intro a h;refine z0h none (λwb w'=>Fr [] wb w') z2y ?_;intro w7 q7;have z7:=q7.size;replace hp:=hp.ext q7;replace I:=I.ext q7;replace a1:=a1.ext q7;have hC:Fr [] w7 w7:=Fr.refl _ _;have a2:=hp;have a0:=I;have O:=a1;refine z0z 0 h U (λ_ hw=>O.ext hw) z9m U λa h=>z0e 1 U (z0n h (z0a U z0g) (mkC func124) (v2u (q.pes.getD i pa0) _) ?_);rintro _ w8 ⟨rfl,q8⟩ a h;have z8:=q8.size;replace hp:=hp.ext q8;replace I:=I.ext q8;replace a1:=a1.ext q8;replace hC:=hC.next q8;refine z0b (x5n 2 hC h wn U U U λa h=>z0d 3 h U λa h=>?_);refine gSp (D:=50) h U ?_ ?_;clear h;intro g4 h;refine z2p 4 h U U λa h=>z2p 5 h U U λa h=>z2p 6 h U U λa h=>x5x 7 hC h U U U λa h=>x5x 8 hC h U U U λa h=>x5x 9 hC h U U U λa h=>x5x 10 hC h U U U λa h=>x5x 11 hC h U U U λa h=>x5x 12 hC h U U U λa h=>x5x 13 hC h U U U λa h=>x5x 14 hC h U U U λa h=>z2p 15 h U U λa h=>z0e 16 U (z5k h U λa h=>?_);refine z0b (z0r ?_);clear hC a2 a0 O;refine bk (h.sub (L':=[(1,_),(40,_),(41,_),(42,_),(63,_)]) (.c5 U U U U U)) (tn (ct U (sr (asg U (nn (rt (rb (tr (tr (rb (tr (r1 results75 U ?_))))))))))));have Z:q.inn=true:=(by simpa using c1);exact⟨_,rfl,by rw[yn_e Z (i:=i) (by show i<q.pes.length;omega) (λh=>by first|exact absurd h.1 (by assumption)|exact h.2 oo c5)],(q1.z6 q3 q4 q5 q6 q7 q8)⟩;clear h;intro g4 h;refine z0d 4 h U ?_ (hG:=(wy U));clear h a;intro a h;refine v7t 5 hC h (wy U) U U U U λa h=>z0d 6 h U ?_ (hG:=(wy U));clear h a;intro a h;refine gSp (D:=53) h U ?_ ?_;clear h;intro g5 h;refine z0c 7 h U z7w U ?_ (hG:=(wy U));clear h a;intro a h;refine z0j 8 h U (λ_ hw=>a0.ext hw) U y0y U ?_ (hG:=(wy U));clear h a;intro a h;refine z0d 9 h U ?_ (hG:=(wy U));clear h a;intro a h;refine z3e 10 h U (by first|exact i6 oo|rfl) U ?_ (hG:=(wy U));clear h a;intro a h;refine z1e (p:=(i-1)) (pa0) 11 h U hp U z5a U ?_ (hG:=(wy U));clear h a;intro a9 a5 a h;refine z2l 12 h (wy U) U (λ_ hw=>a5 _ (a2.ext hw)) z9m U λa h=>z0z 13 h U (λ_ hw=>O.ext hw) z9m U ?_ (hG:=(wy U));clear h a;intro a h;refine z0e 14 U (y1d h U U U U U U (z0n h (z0a U (z0a U z0g)) (mkC func125) (x3y (q.pes.getD (i-1) pa0) (q.pes.getD i pa0) _) ?_));rintro _ w9 ⟨rfl,q9⟩ a h;have z9:=q9.size;replace hp:=hp.ext q9;replace I:=I.ext q9;replace a1:=a1.ext q9;replace hC:=hC.next q9;refine z0b (z0e 15 U (tW h (kY U (pkt U ?_))));clear h a;intro a h;refine z0b (z0e 16 U (z6i h U λa h=>?_));refine z0b (z0r ?_);clear hC a2 a0 O;refine bk (h.sub (L':=[(1,_),(40,_),(41,_),(42,_),(63,_)]) (.c5 U U U U U)) (tn (cd U (λc5=>?_) (λc5=>?_)));refine sr (asg U (nn (rt (rb (tr (tr (rb (tr (r1 results75 U ?_)))))))));have Z:q.inn=true:=(by simpa using c1);exact⟨_,rfl,by rw[yn_e Z (i:=i) (by show i<q.pes.length;omega) (λh=>by first|exact absurd h.1 (by assumption)|exact h.2 oo c5)],((q1.z6 q3 q4 q5 q6 q7 q8).n1 q9)⟩;refine sk (bn' (tn (rg (z0q U (wi6 oo) (mv U (nl ?_))))));exact lpE (i+1) (.c4 U U U U) ⟨(q4.z5 q5 q6 q7 q8 q9),⟨oo,λj hj=>by
  by_cases e:j<i;exact hg j e;obtain rfl:j=i:=by omega
  exact⟨by assumption,λh0=>by first|exact c5|exact absurd h0 oo⟩⟩⟩ oo
 clear h;intro g5 h;refine z2p 7 h U U λa h=>z2p 8 h U U λa h=>z2p 9 h U U λa h=>z2p 10 h U U λa h=>z2p 11 h U U λa h=>z2p 12 h U U λa h=>z2p 13 h U U λa h=>z2p 14 h U U λa h=>z0e 15 U (tW h (kY U (pkf U ?_)));clear h a;intro a h;refine z0b (z0e 16 U (z6i h U λa h=>?_));refine z0b (z0r ?_);clear hC a2 a0 O;refine bk (h.sub (L':=[(1,_),(40,_),(41,_),(42,_),(63,_)]) (.c5 U U U U U)) (tn (cf U (sk (bn' (tn (rg (z0q U (wi6 oo) (mv U (nl ?_)))))))));exact lpE (i+1) (.c4 U U U U) ⟨(q4.z4 q5 q6 q7 q8),⟨oo,λj hj=>by
  by_cases e:j<i;exact hg j e;obtain rfl:j=i:=by omega
  exact⟨by assumption,λh0=>by first|exact c5|exact absurd h0 oo⟩⟩⟩ oo
 obtain rfl:i=q.pes.length:=by omega
 refine ex (te (te (xh (tn (sr (asg U (nn (rt (r1 results75 U ?_)))))))));have Z:q.inn=true:=(by simpa using c1);exact⟨_,rfl,by rw[yn_f c0 Z (by simpa[a3] using c3) hg],(q1.n2 q3 q4)⟩
theorem z3k:z4i prog 146 5:=⟨λ_=>kr0,λ_=>kr0⟩
theorem y0i:BuildAt prog 146 [(0,1),(1,1),(2,1),(3,1),(4,1)] [(.bool false),(.int .i64 0),(.int .i64 0),(.bool false),(.slice none 0 0)]:=BuildAt.struct underlying146 (λ_=>kr0) (λ_=>kr0)
theorem k1f:CallOf prog 75:=mkC func75
theorem sz3:z1r prog 3 1:=λ_=>kr0
theorem j0c:z1r prog 109 1:=λ_=>kr0
theorem z3o:z1r prog 146 5:=λ_=>kr0
theorem z6j (w:World):(zeroValue 146).run prog w=.ok (.agg #[(.bool false),(.int .i64 0),(.int .i64 0),(.bool false),(.slice none 0 0)]) w:=kr0
theorem v0t (q:YQ)(pl:Int)(v:Value)(l:List Pa)(w0:World)(hp:Sl z2f w0 (slv q.pe) q.pes)(hs:Sl z2f w0 v l)(hv:∀k∈z0u v,k<w0.heap.size)(hl:l.length<=50000):Rets prog 173 #[.agg #[.bool q.inn,.int .i64 q.pl,.int .i64 q.ct,.bool q.nw,.slice q.pe.1 q.pe.2.1 q.pe.2.2],.int .i64 pl,v] w0 λr w'=>∃q':YQ,r=.tuple #[.agg #[.bool q'.inn,.int .i64 q'.pl,.int .i64 q'.ct,.bool q'.nw,.slice q'.pe.1 q'.pe.2.1 q'.pe.2.2],.int .i64 (goE q.p pl l)]/\(goE q.p pl l=0->q'.p=goS q.p pl l/\Lw.Own z2f 114 w0.heap.size w' (slv q'.pe) q'.pes)/\Fr [] w0 w':=by
 have f5:=z2g hp;have d1:=hp.len_le;unfold maxLen at d1;obtain⟨A,c,rfl,f1,hM,hA⟩:=id hs;clear hA;unfold maxLen at hM;refine we [(0,.agg #[.bool q.inn,.int .i64 q.pl,.int .i64 q.ct,.bool q.nw,.slice q.pe.1 q.pe.2.1 q.pe.2.2]),(1,.int .i64 pl),(2,.slice A l.length c)] func173 U ntmps173 U (.c3 U U U) ?_;have b4:=hp;have b5:=hs;refine sr (bx U (λg3 w1 f2 I q1 z1=>(al z6j U (λg6 w2 f3 D q2 z2=>(asg U (nn (sq (sr ?_))))))));replace I:=I.ext q2;refine z0m U I z3k ?_;replace hp:=b4.ext (q1.n1 q2);refine cl (ev1 U) k1f (z9x q _ hp) U ?_;rintro _ w3 ⟨rfl,q3⟩;have z3:=q3.size;refine asg U (nn (sr (mv U (ne' U (nn (cd U (λc0=>?_) (λc0=>?_)))))));refine sr (z1z (cs:=[_,_,_,_,_]) z0g y0i z0t U ?_);refine mv U ?_;replace D:=D.ext q3;refine z0k (vs:=[_,_,_,_,_]) U D z3o (λw4 D q4 z4=>?_) (h1:=(by first|(simp[Value.oneCell',S];done)|exact z2f.one (l.getD i pa0)));refine asg U (kpL [(6,_),(7,_)] (.c2 U U) (nn (rt (tr (rCT results173 U D z3k U ?_)))));have he:goE q.p pl l=ynE q.p:=by unfold goE;rw[if_pos c0]
 exact⟨_,rfl,yq0,by rw[he];rfl,(λh=>absurd h (by rw[he];exact c0)),(q1.z3 q2 q3 q4)⟩;have d4:=v9o (Classical.not_not.1 c0);refine sk (tn (sq (sr (mv U (cl (ev1 U) (mkC func123) (y9g _ _) U ?_)))));rintro _ w5 ⟨rfl,q5⟩;have z5:=q5.size;refine nt' U (nn (cd U (λc1=>?_) (λc1=>?_)));refine sr (z1z (cs:=[_,_,_,_,_]) z0g y0i z0t U ?_);replace D:=D.ext (q3.n1 q5);refine z0k (vs:=[_,_,_,_,_]) U D z3o (λw6 D q6 z6=>?_) (h1:=(by first|(simp[Value.oneCell',S];done)|exact z2f.one (l.getD i pa0)));refine asg U (nn (rt (tr (rCT results173 U D z3k U ?_))));have he:goE q.p pl l=1:=by unfold goE;rw[if_neg c0,if_pos (by simpa using c1)]
 exact⟨_,rfl,yq0,by rw[he];rfl,(λh=>absurd h (by rw[he];decide)),(q1.z4 q2 q3 q5 q6)⟩;refine sk (tn (sq (sr (mv U (lnS U underlying109 (mv U (nn (bl (lpK (ι:=Nat) [(1,_),(2,_),(3,_),(6,_),(22,_),(23,_)] (λi=>[(24,.int .i64 (i:Int))]) (λi w'=>Fr [] w5 w'/\i<=l.length/\∀j,j<i->y2i (l.getD j pa0)) (λi=>l.length-i) 0 (.c7 U U U U U U U) ⟨Fr.refl _ _,⟨Nat.zero_le _,λj h=>absurd h oo⟩⟩ ?_)))))))));rintro i w7 ⟨q7,⟨hi,hg⟩⟩;have z7:=q7.size;refine kpC [(1,_),(2,_),(3,_),(6,_),(22,_),(23,_),(24,_)] (.c7 U U U U U U U) (sr (lt' U (nn (sq (cd U (λc2=>?_) (λc2=>?_))))));refine sk (tn (sq (bl (sr ?_))));replace hs:=b5.ext (q1.n4 q2 q3 q5 q7);refine z0x (pa0) U hs U z5a z1m (λe2 b3=>?_);refine z1t U (b3 _ hs) z9m (al x2b U (λf0 w8 e4 a5 q8 z8=>?_));refine z0k (vs:=[_,_,_,_]) U a5 x3v (λw9 a5 q9 z9=>?_) (h1:=(by first|(simp[Value.oneCell',S];done)|exact z2f.one (l.getD i pa0)));refine nn (sr (z0m U a5 z9m (cl (ev1 U) (mkC func124) (v2u (l.getD i pa0) _) U ?_)));rintro _ f7 ⟨rfl,a8⟩;have g8:=a8.size;refine nt' U (nn (cd U (λc3=>?_) (λc3=>?_)));refine sr (z1z (cs:=[_,_,_,_,_]) z0g y0i z0t U ?_);replace D:=((D.ext (q3.n3 q5 q7 q8)).fr q9).ext a8;refine z0k (vs:=[_,_,_,_,_]) U D z3o (λf8 D d5 g9=>?_) (h1:=(by first|(simp[Value.oneCell',S];done)|exact z2f.one (l.getD i pa0)));refine asg U (kpL [(6,_),(7,_)] (.c2 U U) (nn (rt (rb (tr (tr (rb (tr (rCT results173 U D z3k U ?_)))))))));have he:goE q.p pl l=1:=by unfold goE;rw[if_neg c0,if_neg (by simpa using c1),if_pos (λa4=>(by simpa using c3:¬y2i (l.getD i pa0)) (a4 _ (z1b oo)))]
 exact⟨_,rfl,yq0,by rw[he];rfl,(λh=>absurd h (by rw[he];decide)),(((q1.z6 q2 q3 q5 q7 q8 q9).n1 a8).z1 d5)⟩;refine sk (bn' (tn (rg (z0q U (wi6 oo) (mv U (nl ?_))))));exact lpE (i+1) (.c7 U U U U U U U) ⟨(q7.z3 q8 q9 a8),⟨oo,λj hj=>by
  by_cases e:j<i;exact hg j e;obtain rfl:j=i:=by omega
  exact Classical.not_not.1 (by simpa using c3)⟩⟩ oo
 obtain rfl:i=l.length:=by omega
 have a4:j2q l:=λp d3=>by
  obtain⟨j,hj,rfl⟩:=List.getElem_of_mem d3;have:=hg j hj;rwa [List.getD,List.getElem?_eq_getElem hj]at this
 refine ex (te (te (xh (tn (sq (sr (fad U z8r ?_)))))));replace I:=I.ext (q3.n2 q5 q7);refine z0i U I U na4 (nt' U (kpL [(1,_),(2,_),(3,_),(6,_),(35,_)] (.c5 U U U U U) (nn (cd U (λc4=>?_) (λc4=>?_)))));refine sr (z1z (cs:=[_,_,_,_,_]) z0g y0i z0t U ?_);replace D:=D.ext (q3.n2 q5 q7);refine z0k (vs:=[_,_,_,_,_]) U D z3o (λf9 D d6 h0=>?_) (h1:=(by first|(simp[Value.oneCell',S];done)|exact z2f.one (l.getD i pa0)));refine asg U (nn (rt (tr (rCT results173 U D z3k U ?_))));have he:goE q.p pl l=12:=by unfold goE;rw[if_neg c0,if_neg (by simpa using c1),if_neg (λe=>e a4),if_pos (by simpa using c4)]
 exact⟨_,rfl,yq0,by rw[he];rfl,(λh=>absurd h (by rw[he];decide)),(q1.z5 q2 q3 q5 q7 d6)⟩;have c9:q.inn=true:=(by simpa using c4);have b6:=d4.2;rw[if_pos c9]at b6;have f4:q.pes.length<=4096:=b6.2.1;refine sk (tn (sr (fad U z7w (z0i U I U y0y (lnS U underlying109 (mv U (lnS U underlying109 (z0q U (wi6 oo) (z1g (m:=0) (c:=(q.pe.2.1+l.length)) (pa0) U z5a x2b U (λb2 g0 e5 ho a2 h2=>(asg U (kpL [(1,_),(2,_),(3,_),(6,_),(11,_)] (.c5 U U U U U) (nn (sr (mv U (fad U z7w ?_))))))))))))))));replace I:=I.ext a2;refine z0i U I U y0y ?_;replace D:=D.ext (q3.n3 q5 q7 a2);replace hp:=b4.ext (q1.n5 q2 q3 q5 q7 a2);have O:=ho;refine z1x U ho hp z5a (λb8 d9 ho a3 d0=>?_) (hM:=(by unfold maxLen;simp only[List.length_replicate];omega)) (hb:=(by simp only[List.length_replicate];omega));have h3:=a3.size;replace I:=I.fr a3 (λZ=>by have:=(O.blk _ Z).1;omega);replace D:=D.fr a3 (λZ=>by have:=(O.blk _ Z).1;omega);replace ho:Lw.Own z2f 114 b2 d9 b8 q.pes:=ho;refine mv U ?_;replace hs:=b5.ext ((q1.n5 q2 q3 q5 q7 a2).step a3 (λk Z a7=>absurd (O.blk k Z).1 oo));refine cl (ev2 U) (mkC func214) (u1v b2 b8 _ q.pes l _ ho hs (λk Z=>by have:=hv k Z;omega) oo oo) U ?_;rintro e8 g1 ⟨e7,ho,a1,a6⟩;replace I:=I.fr a6 (λZ=>by have:=a1 _ Z;omega);replace D:=D.fr a6 (λZ=>by have:=a1 _ Z;omega);have h4:=a6.size;have f6:=z8e l q.pes;obtain⟨e6,e9,rfl,e3⟩:=ho.sl.form;refine asg U (kpL [(1,_),(3,_),(6,_),(11,_)] (.c4 U U U U) (nn (sq (sr (mv U (lnS U underlying109 (gt' U (nn (cd U (λc5=>?_) (λc5=>?_))))))))));refine sr (z1z (cs:=[_,_,_,_,_]) z0g y0i z0t U ?_);refine z0k (vs:=[_,_,_,_,_]) U D z3o (λg4 D d7 h5=>?_) (h1:=(by first|(simp[Value.oneCell',S];done)|exact z2f.one (l.getD i pa0)));refine asg U (nn (rt (tr (rCT results173 U D z3k U ?_))));have he:goE q.p pl l=3:=by unfold goE;rw[if_neg c0,if_neg (by simpa using c1),if_neg (λe=>e a4),if_neg (by simpa using c4),if_pos (by show 4096<(z5g q.pes l).length;omega)]
 exact⟨_,rfl,yq0,by rw[he];rfl,(λh=>absurd h (by rw[he];decide)),((((q1.n5 q2 q3 q5 q7 a2).step a3 (λk Z a7=>absurd (O.blk k Z).1 oo)).step a6 (λk Z a7=>absurd (a1 k Z) oo)).sp d7)⟩;refine sk (tn (sr (mv U (fad U z5s (z5w U U I U sz3 (λe0 I b0 h6=>?_))))));replace I:Blk e0 g3 _ [_,_,_,_,_]:=I;refine nn (sr (mv U ?_));replace ho:=ho.fr b0 (by first|exact z9q ho oo|simp[z0u]<;>omega);refine cl (ev1 U) (mkC func215) (y0p _ _ _ ho.sl oo) U ?_;rintro _ g5 ⟨b9,rfl,a0,a9⟩;have h7:=a9.size;refine fad U z7w ?_;replace I:=I.ext a9;refine z5w U U I U j0c (λe1 I b1 h8=>?_);replace I:Blk e1 g3 _ [_,_,_,_,_]:=I;refine nn (sr (z0m U I z3k ?_));replace D:=((D.fr b0).ext a9).fr b1;refine z0k (vs:=[_,_,_,_,_]) U D z3o (λg7 D b7 h9=>?_) (h1:=(by first|(simp[Value.oneCell',S];done)|exact z2f.one (l.getD i pa0)));refine asg U (nn (rt (rCT results173 U D z3k U ?_)));replace a0:=(a0.fr b1 (by first|exact z9q a0 oo|simp[z0u]<;>omega)).fr b7 (by first|exact z9q a0 oo|simp[z0u]<;>omega);have he:goE q.p pl l=0:=by unfold goE;rw[if_neg c0,if_neg (by simpa using c1),if_neg (λe=>e a4),if_neg (by simpa using c4),if_neg (by show ¬4096<(z5g q.pes l).length;omega)]
 exact⟨_,rfl,⟨q.inn,pl,q.ct,q.nw,(b9,(z5g q.pes l).length,(z5g q.pes l).length),z5g q.pes l⟩,by rw[he],(λ_=>⟨rfl,a0.low oo⟩),(((((((q1.n5 q2 q3 q5 q7 a2).step a3 (λk Z a7=>absurd (O.blk k Z).1 oo)).step a6 (λk Z a7=>absurd (a1 k Z) oo)).sp b0).next a9).sp b1).sp b7)⟩
theorem x7o:z4i prog 263 3:=⟨λ_=>kr0,λ_=>kr0⟩
theorem v7v:BuildAt prog 263 [(0,1),(1,1),(2,1)] [(.int .i64 0),(.bool false),(.slice none 0 0)]:=BuildAt.struct underlying263 (λ_=>kr0) (λ_=>kr0)
theorem x5r:z1r prog 263 3:=λ_=>kr0
theorem x4i (w:World):(zeroValue 263).run prog w=.ok (.agg #[(.int .i64 0),(.bool false),(.slice none 0 0)]) w:=kr0
theorem y3i (q:YQ)(w0:World)(hp:Sl z2f w0 (slv q.pe) q.pes)(hv:∀k∈z0u (slv q.pe),k<w0.heap.size):Rets prog 177 #[.agg #[.bool q.inn,.int .i64 q.pl,.int .i64 q.ct,.bool q.nw,.slice q.pe.1 q.pe.2.1 q.pe.2.2]] w0 λr w'=>∃(q':YQ) (n:Int) (nw:Bool) (s:SV) (ps:List Pa),r=.tuple #[.agg #[.bool q'.inn,.int .i64 q'.pl,.int .i64 q'.ct,.bool q'.nw,.slice q'.pe.1 q'.pe.2.1 q'.pe.2.2],.agg #[.int .i64 n,.bool nw,.slice s.1 s.2.1 s.2.2],.int .i64 (mkE q.p)]/\(mkE q.p=0->q'=⟨true,q.pl,q.ct+1,false,sv0,[]⟩/\n=q.ct/\nw=q.nw/\ps=q.pes/\Lw.Own z2f 114 w0.heap.size w' (slv s) ps)/\Fr [] w0 w':=by
 have f9:=z2g hp;have e6:=hp.len_le;unfold maxLen at e6;refine we [(0,.agg #[.bool q.inn,.int .i64 q.pl,.int .i64 q.ct,.bool q.nw,.slice q.pe.1 q.pe.2.1 q.pe.2.2])] func177 U ntmps177 U (.cons U .nil) ?_;have d9:=hp;refine sr (bx U (λg1 w1 f5 Z q1 z1=>(al z6j U (λg2 w2 f6 D q2 z2=>(al x4i U (λg3 w3 f7 I q3 z3=>(asg U (nn (sq (sr ?_))))))))));replace Z:=Z.ext (q2.n1 q3);refine z0m U Z z3k ?_;replace hp:=d9.ext (q1.n2 q2 q3);refine cl (ev1 U) k1f (z9x q _ hp) U ?_;rintro _ w4 ⟨rfl,q4⟩;have z4:=q4.size;refine asg U (nn (sr (mv U (ne' U (nn (cd U (λc0=>?_) (λc0=>?_)))))));refine sr (z1z (cs:=[_,_,_,_,_]) z0g y0i z0t U ?_);refine z1z (cs:=[_,_,_]) z0g v7v z0t U ?_;refine mv U ?_;replace D:=D.ext (q3.n1 q4);refine z0k (vs:=[_,_,_,_,_]) U D z3o (λw5 D q5 z5=>?_);replace I:=(I.ext q4).fr q5;refine z0k (vs:=[_,_,_]) U I x5r (λw6 I q6 z6=>(asg U (kpL [(2,_),(3,_),(4,_)] (.c3 U U U) (nn (rt (tr ?_))))));replace D:=D.fr q6;refine j7i results177 U D z3k U I x7o U ?_;have he:mkE q.p=ynE q.p:=by unfold mkE;rw[if_pos c0]
 exact⟨_,rfl,yq0,0,false,sv0,[],by rw[he];rfl,(λh=>absurd h (by rw[he];exact c0)),(q1.z5 q2 q3 q4 q5 q6)⟩;have e0:=v9o (Classical.not_not.1 c0);refine sk (tn (sq (sr (fad U z8r ?_))));replace Z:=Z.ext q4;refine z0i U Z U na4 (nt' U (nn (cd U (λc1=>?_) (λc1=>?_))));refine sr (z1z (cs:=[_,_,_,_,_]) z0g y0i z0t U ?_);refine z1z (cs:=[_,_,_]) z0g v7v z0t U ?_;replace D:=D.ext (q3.n1 q4);refine z0k (vs:=[_,_,_,_,_]) U D z3o (λw7 D q7 z7=>?_);replace I:=(I.ext q4).fr q7;refine z0k (vs:=[_,_,_]) U I x5r (λw8 I q8 z8=>(asg U (nn (rt (tr ?_)))));replace D:=D.fr q8;refine j7i results177 U D z3k U I x7o U ?_;have he:mkE q.p=12:=by unfold mkE;rw[if_neg c0,if_pos (by simpa using c1)]
 exact⟨_,rfl,yq0,0,false,sv0,[],by rw[he];rfl,(λh=>absurd h (by rw[he];decide)),(q1.z5 q2 q3 q4 q7 q8)⟩;have e5:q.inn=true:=(by simpa using c1);have e1:=e0.2;rw[if_pos e5]at e1;have f8:q.pes.length<=4096:=e1.2.1;have f4:0<=q.ct/\q.ct<=2048:=e0.1;refine sk (tn (sq (sr (fad U z8x (z0i U Z U na3 (eq' U (nn (cd U (λc2=>?_) (λc2=>?_)))))))));refine sr (z1z (cs:=[_,_,_,_,_]) z0g y0i z0t U ?_);refine z1z (cs:=[_,_,_]) z0g v7v z0t U ?_;replace D:=D.ext (q3.n1 q4);refine z0k (vs:=[_,_,_,_,_]) U D z3o (λw9 D q9 z9=>?_);replace I:=(I.ext q4).fr q9;refine z0k (vs:=[_,_,_]) U I x5r (λg0 I e2 g7=>(asg U (nn (rt (tr ?_)))));replace D:=D.fr e2;refine j7i results177 U D z3k U I x7o U ?_;have he:mkE q.p=3:=by unfold mkE;rw[if_neg c0,if_neg (by simpa using c1),if_pos c2]
 exact⟨_,rfl,yq0,0,false,sv0,[],by rw[he];rfl,(λh=>absurd h (by rw[he];decide)),(q1.z5 q2 q3 q4 q9 e2)⟩;refine sk (tn (sq ?_));replace hp:=d9.ext (q1.n3 q2 q3 q4);intro a h;refine z0h none (λwb w'=>Fr [] wb w') z2y ?_;intro d7 b5;have g8:=b5.size;replace hp:=hp.ext b5;replace Z:=Z.ext b5;replace D:=D.ext (q3.n2 q4 b5);replace I:=I.ext (q4.n1 b5);have hC:Fr [] d7 d7:=Fr.refl _ _;have d5:=hp;have a0:=Z;have a4:=D;have a5:=I;refine z0c 0 h U z8x U λa h=>z0j 1 h U (λ_ hw=>a0.ext hw) U na3 U λa h=>z0c 2 h U v8o U λa h=>z0j 3 h U (λ_ hw=>a0.ext hw) U na4 U λa h=>z0c 4 h U z7w U λa h=>z0j 5 h U (λ_ hw=>a0.ext hw) U y0y U λa h=>z2n 6 8 kr0 U ?_ ?_;refine z0n h (z0a U z0g) (mkC func215) (y0p _ _ _ hp oo) ?_;rintro _ e7 ⟨d6,rfl,O,b6⟩ a h;have g9:=b6.size;replace Z:=Z.ext b6;replace D:=D.ext b6;replace I:=I.ext b6;replace hC:=hC.next b6;have b4:=λk hk=>(O.blk k hk).2;refine z0b (z3m (cs:=[_,_,_]) 7 h (z0a U (z0a U (z0a U z0g))) v7v (z0f U (z0f U (z0f U z0t))) U U λa h=>z0e 8 U ?_);refine z1f h x4i U λg4 a1 b0 hz a h=>?_;obtain⟨a8,hg⟩:∃g,g=e7.heap.size:=⟨_,rfl⟩;rw[<-hg]at a1 h hz;have a7:g1<a8:=by have:=Z.lt;omega
 have a7:g2<a8:=by have:=D.lt;omega
 have a7:g3<a8:=by have:=I.lt;omega
 have h0:=b0.size;replace hp:=hp.ext (b6.n1 b0);replace Z:=Z.ext b0;replace D:=D.ext b0;replace I:=I.ext b0;replace O:=O.ext b0;replace hC:=hC.next b0;refine z0b (z0e 9 U (z0v h U a1 U x5r λe8 a3 b1 hz a h=>?_));have h1:=b1.size;replace hp:=hp.fr b1 (by intro k hk a2;simp at hk;subst hk;have:=hv _ a2;omega);replace Z:=Z.fr b1;replace D:=D.fr b1;replace I:=I.fr b1;replace O:=O.fr b1 (by intro k hk a2;simp at hk;subst hk;have d4:=b4 _ a2;have:=O.blk _ a2;omega);replace hC:=hC.sp b1;clear a1 hz;have a1:Blk e8 a8 _ [_,_,_]:=a3;clear a3;refine z0b (z0r ?_);clear hC d5 a0 a4 a5;refine bk (h.sub (L':=[(1,_),(2,_),(3,_),(6,_)]) (.c4 U U U U)) (tn (sq ?_));intro a h;refine z0h none (λwb w'=>Fr [g2,g3] wb w') z2y ?_;intro e3 b7;have h2:=b7.size;replace Z:=Z.ext b7;replace D:=D.ext b7;replace I:=I.ext b7;replace O:=O.ext b7;replace a1:=a1.ext b7;have hC:Fr [g2,g3] e3 e3:=Fr.refl _ _;have a0:=Z;have a4:=D;have a5:=I;have a9:=O;have a6:=a1;refine z0c 0 h U z5s U λa h=>z0j 1 h U (λ_ hw=>a0.fr hw so) U na3 U λa h=>z0c 2 h U z8x U λa h=>z0j 3 h U (λ_ hw=>a0.fr hw so) U na3 U λa h=>z4d 4 h U (by first|exact i6 oo|rfl) U λa h=>z3m (cs:=[_,_,_,_,_]) 5 h (z0a U (z0a U (z0a U z0g))) y0i (z0f U (z0f U (z0f U z0t))) U U λa h=>z0z 6 h U (λ_ hw=>a6.fr hw so) x7o U λa h=>z0e 7 U ?_;refine z0v h U D U z3o λe9 a3 b8 hz a h=>?_;have h3:=b8.size;replace Z:=Z.fr b8;replace I:=I.fr b8;replace O:=O.fr b8 (by intro k hk a2;simp at hk;subst hk;have d4:=b4 _ a2;have:=O.blk _ a2;omega);replace a1:=a1.fr b8;replace hC:=hC.sp b8;clear D hz;have D:Blk e9 g2 _ [_,_,_,_,_]:=a3;clear a3;refine z0b (z0e 8 U (z0v h U I U x5r λf0 a3 b9 hz a h=>?_));have h4:=b9.size;replace Z:=Z.fr b9;replace D:=D.fr b9;replace O:=O.fr b9 (by intro k hk a2;simp at hk;subst hk;have d4:=b4 _ a2;have:=O.blk _ a2;omega);replace a1:=a1.fr b9;replace hC:=hC.sp b9;clear I hz;have I:Blk f0 g3 _ [_,_,_]:=a3;clear a3;refine z0b (z0e 9 U (z0s h U λa h=>?_));refine z0b (z0r ?_);clear hC a0 a4 a5 a9 a6;refine bk (h.sub (L':=[(2,_),(3,_),(4,_)]) (.c3 U U U)) (tn (rt (j7i results177 U D z3k U I x7o U ?_)));have he:mkE q.p=0:=by unfold mkE;rw[if_neg c0,if_neg (by simpa using c1),if_neg c2]
 exact⟨_,rfl,⟨true,q.pl,q.ct+1,false,sv0,[]⟩,q.ct,q.nw,(d6,q.pes.length,q.pes.length),q.pes,by rw[he];rfl,(λ_=>⟨rfl,rfl,rfl,rfl,O.low oo⟩),((((q1.n6 q2 q3 q4 b5 b6 b0).z1 b1).n1 b7).z2 b8 b9)⟩;refine z1f h x4i U λg5 a1 c9 hz a h=>?_;obtain⟨a8,hg⟩:∃g,g=d7.heap.size:=⟨_,rfl⟩;rw[<-hg]at a1 h hz;have a7:g1<a8:=by have:=Z.lt;omega
 have a7:g2<a8:=by have:=D.lt;omega
 have a7:g3<a8:=by have:=I.lt;omega
 have h5:=c9.size;replace hp:=hp.ext c9;replace hC:=hC.next c9;refine z0b (z0e 6 U (z0n h (z0a U z0g) (mkC func215) (y0p _ _ _ hp oo) ?_));rintro _ g6 ⟨d6,rfl,O,b2⟩ a h;have h6:=b2.size;replace hp:=hp.ext b2;replace Z:=Z.ext (c9.n1 b2);replace D:=D.ext (c9.n1 b2);replace I:=I.ext (c9.n1 b2);replace a1:=a1.ext b2;replace hC:=hC.next b2;have b4:=λk hk=>(O.blk k hk).2;refine z0b (z3m (cs:=[_,_,_]) 7 h (z0a U (z0a U (z0a U z0g))) v7v (z0f U (z0f U (z0f U z0t))) U U λa h=>z0e 9 U ?_);refine z0v h U a1 U x5r λf1 a3 b3 hz a h=>?_;have h7:=b3.size;replace hp:=hp.fr b3 (by intro k hk a2;simp at hk;subst hk;have:=hv _ a2;omega);replace Z:=Z.fr b3;replace D:=D.fr b3;replace I:=I.fr b3;replace O:=O.fr b3 (by intro k hk a2;simp at hk;subst hk;have d4:=b4 _ a2;have:=O.blk _ a2;omega);replace hC:=hC.sp b3;clear a1 hz;have a1:Blk f1 a8 _ [_,_,_]:=a3;clear a3;refine z0b (z0r ?_);clear hC d5 a0 a4 a5;refine bk (h.sub (L':=[(1,_),(2,_),(3,_),(6,_)]) (.c4 U U U U)) (tn (sq ?_));intro a h;refine z0h none (λwb w'=>Fr [g2,g3] wb w') z2y ?_;intro e4 d0;have h8:=d0.size;replace Z:=Z.ext d0;replace D:=D.ext d0;replace I:=I.ext d0;replace a1:=a1.ext d0;replace O:=O.ext d0;have hC:Fr [g2,g3] e4 e4:=Fr.refl _ _;have a0:=Z;have a4:=D;have a5:=I;have a6:=a1;have a9:=O;refine z0c 0 h U z5s U λa h=>z0j 1 h U (λ_ hw=>a0.fr hw so) U na3 U λa h=>z0c 2 h U z8x U λa h=>z0j 3 h U (λ_ hw=>a0.fr hw so) U na3 U λa h=>z4d 4 h U (by first|exact i6 oo|rfl) U λa h=>z3m (cs:=[_,_,_,_,_]) 5 h (z0a U (z0a U (z0a U z0g))) y0i (z0f U (z0f U (z0f U z0t))) U U λa h=>z0z 6 h U (λ_ hw=>a6.fr hw so) x7o U λa h=>z0e 7 U ?_;refine z0v h U D U z3o λf2 a3 d1 hz a h=>?_;have h9:=d1.size;replace Z:=Z.fr d1;replace I:=I.fr d1;replace a1:=a1.fr d1;replace O:=O.fr d1 (by intro k hk a2;simp at hk;subst hk;have d4:=b4 _ a2;have:=O.blk _ a2;omega);replace hC:=hC.sp d1;clear D hz;have D:Blk f2 g2 _ [_,_,_,_,_]:=a3;clear a3;refine z0b (z0e 8 U (z0v h U I U x5r λf3 a3 d3 hz a h=>?_));have i0:=d3.size;replace Z:=Z.fr d3;replace D:=D.fr d3;replace a1:=a1.fr d3;replace O:=O.fr d3 (by intro k hk a2;simp at hk;subst hk;have d4:=b4 _ a2;have:=O.blk _ a2;omega);replace hC:=hC.sp d3;clear I hz;have I:Blk f3 g3 _ [_,_,_]:=a3;clear a3;refine z0b (z0e 9 U (z0s h U λa h=>?_));refine z0b (z0r ?_);clear hC a0 a4 a5 a6 a9;refine bk (h.sub (L':=[(2,_),(3,_),(4,_)]) (.c3 U U U)) (tn (rt (j7i results177 U D z3k U I x7o U ?_)));have he:mkE q.p=0:=by unfold mkE;rw[if_neg c0,if_neg (by simpa using c1),if_neg c2]
 exact⟨_,rfl,⟨true,q.pl,q.ct+1,false,sv0,[]⟩,q.ct,q.nw,(d6,q.pes.length,q.pes.length),q.pes,by rw[he];rfl,(λ_=>⟨rfl,rfl,rfl,rfl,O.low oo⟩),((((q1.n6 q2 q3 q4 b5 c9 b2).z1 b3).n1 d0).z2 d1 d3)⟩
theorem x6j (q:YQ)(d:Int)(w0:World)(hp:Sl z2f w0 (slv q.pe) q.pes):Rets prog 132 #[.agg #[.bool q.inn,.int .i64 q.pl,.int .i64 q.ct,.bool q.nw,.slice q.pe.1 q.pe.2.1 q.pe.2.2],.int .u8 d] w0 λr w'=>∃q':YQ,r=.tuple #[.agg #[.bool q'.inn,.int .i64 q'.pl,.int .i64 q'.ct,.bool q'.nw,.slice q'.pe.1 q'.pe.2.1 q'.pe.2.2],.int .i64 (enE q.p d)]/\(enE q.p d=0->q'=⟨true,if d=1 then 179 else -13,q.ct,true,sv0,[]⟩)/\Fr [] w0 w':=by
 have a4:=z2g hp;have a1:=hp.len_le;unfold maxLen at a1;refine we [(0,.agg #[.bool q.inn,.int .i64 q.pl,.int .i64 q.ct,.bool q.nw,.slice q.pe.1 q.pe.2.1 q.pe.2.2]),(1,.int .u8 d)] func132 U ntmps132 U (.c2 U U) ?_;have a0:=hp;refine sr (bx U (λg2 w1 a2 I q1 z1=>(al z6j U (λg4 w2 a3 D q2 z2=>(asg U (nn (sq (sr ?_))))))));replace I:=I.ext q2;refine z0m U I z3k ?_;replace hp:=a0.ext (q1.n1 q2);refine cl (ev1 U) k1f (z9x q _ hp) U ?_;rintro _ w3 ⟨rfl,Z⟩;refine asg U (nn (sr (mv U (ne' U (nn (cd U (λc0=>?_) (λc0=>?_)))))));refine sr (z1z (cs:=[_,_,_,_,_]) z0g y0i z0t U ?_);refine mv U ?_;replace D:=D.ext Z;refine z0k (vs:=[_,_,_,_,_]) U D z3o (λw4 D q4 z4=>(asg U (kpL [(4,_),(5,_)] (.c2 U U) (nn (rt (tr (rCT results132 U D z3k U ?_)))))));have O:enE q.p d=ynE q.p:=by unfold enE;rw[if_pos c0]
 exact⟨_,rfl,yq0,by rw[O];rfl,(λh=>absurd h (by rw[O];exact c0)),(q1.z3 q2 Z q4)⟩;refine sk (tn (sq (sr (mv U (cl (ev1 U) (mkC func163) (y5u _ _) U ?_)))));rintro _ w5 ⟨rfl,q5⟩;refine nt' U (nn (cd U (λc1=>?_) (λc1=>?_)));refine sr (z1z (cs:=[_,_,_,_,_]) z0g y0i z0t U ?_);replace D:=D.ext (Z.n1 q5);refine z0k (vs:=[_,_,_,_,_]) U D z3o (λw6 D q6 z6=>(asg U (nn (rt (tr (rCT results132 U D z3k U ?_))))));have O:enE q.p d=1:=by unfold enE;rw[if_neg c0,if_pos (by simpa using c1)]
 exact⟨_,rfl,yq0,by rw[O];rfl,(λh=>absurd h (by rw[O];decide)),(q1.z4 q2 Z q5 q6)⟩;refine sk (tn (sq (sr (fad U z8r ?_))));replace I:=I.ext (Z.n1 q5);refine z0i U I U na4 (nn (cd U (λc2=>?_) (λc2=>?_)));refine sr (z1z (cs:=[_,_,_,_,_]) z0g y0i z0t U ?_);replace D:=D.ext (Z.n1 q5);refine z0k (vs:=[_,_,_,_,_]) U D z3o (λw7 D q7 z7=>(asg U (nn (rt (tr (rCT results132 U D z3k U ?_))))));have O:enE q.p d=12:=by unfold enE;rw[if_neg c0,if_neg (by simpa using c1),if_pos (by simpa using c2)]
 exact⟨_,rfl,yq0,by rw[O];rfl,(λh=>absurd h (by rw[O];decide)),(q1.z4 q2 Z q5 q7)⟩;refine sk (tn (sr (asg U (nn (jn (ι:=Unit) [(2,_),(4,_)] (λ_j=>[(7,.int .i64 (if d=1 then 179 else -13))]) (λ_j w'=>Fr [] w5 w') (.c2 U U) ?_ ?_)))));refine sr (mv U (eq' U (nn (cd U (λc3=>?_) (λc3=>?_)))));refine rg (asg U (nl ?_));exact jE (()) (.c3 U U (congrArg (λq=>some (Value.int .i64 q)) (by first|exact(if_pos c3).symm|exact(if_neg c3).symm))) (Fr.refl _ _);refine sk ?_;exact jE (()) (.c3 U U (congrArg (λq=>some (Value.int .i64 q)) (by first|exact(if_pos c3).symm|exact(if_neg c3).symm))) (Fr.refl _ _);rintro _j w8 q8;refine kpC [(2,_),(4,_),(7,_)] (.c3 U U U) (sr (mv U (fad U z8x ?_)));replace I:=I.ext q8;refine z0i U I U na3 (z1z (cs:=[_,_,_,_,_]) (ev4 U) y0i (z0f U (z0f U (z0f U (z0f U z0t)))) U ?_);replace D:=D.ext (Z.n2 q5 q8);refine z0k (vs:=[_,_,_,_,_]) U D z3o (λw9 D q9 z9=>(asg U (kpL [(4,_),(5,_)] (.c2 U U) (nn (rt (rCT results132 U D z3k U ?_))))));have O:enE q.p d=0:=by unfold enE;rw[if_neg c0,if_neg (by simpa using c1),if_neg (by simpa using c2)]
 exact⟨_,rfl,⟨true,if d=1 then 179 else -13,q.ct,true,sv0,[]⟩,by rw[O];rfl,(λ_=>rfl),(q1.z5 q2 Z q5 q8 q9)⟩
end Go.Proofs.YtagnnbcnnmacmaaGreatDoor
namespace Go.G21
open Go.Lw
def nd (T:Tb)(y:Nat)(n:Int):List LId:=z5o (lpA T y n.toNat)
def InM (ms:List Int)(i:LId):Prop:=i.n<ms.getD (i.y-1).toNat 0
def Has (T:Tb):Prop:=T.length=6/\∀y,y<6->∀n,n<z3w T y->∀i∈z5o (lpA T y n),z5h T i
theorem Has.nm {T:Tb}(h:Has T){y n:Nat}(hy:y<6)(hn:n<z3w T y){i:LId}(hi:i∈z5o (lpA T y n)):∃O Z:Nat,O<6/\Z<z3w T O/\i=⟨(O:Int)+1,(Z:Int)⟩:=by
 obtain⟨h1,h2,h3,h4⟩:=h.2 y hy n hn i hi;have:=h.1;obtain⟨I,D⟩:=i;simp only at h1 h2 h3 h4;refine⟨(I-1).toNat,D.toNat,oo,oo,?_⟩;rw[show (((I-1).toNat:Nat):Int)+1=I by omega,show ((D.toNat:Nat):Int)=D by omega]
theorem y8u {ms:List Int}{y n:Nat}:InM ms ⟨(y:Int)+1,(n:Int)⟩↔(n:Int)<ms.getD y 0:=by
 unfold InM;show (n:Int)<ms.getD ((y:Int)+1-1).toNat 0↔_;rw[show ((y:Int)+1-1).toNat=y by omega]
theorem v2t:∀(l:List Int) (j:Nat) (v:Int),j<l.length->(l.set j v).sum=l.sum-l.getD j 0+v
 | a::l,0,v,_=>by simp;omega
 | a::l,j+1,v,h=>by
  have:=v2t l j v (by simpa using h)
  simp only[List.set_cons_succ,List.sum_cons,List.getD_cons_succ]at this ⊢;omega
theorem x1g:∀(l:List Int) (T:Tb),l.length=T.length->(∀i,i<l.length->l.getD i 0<=(z3w T i:Int))->l.sum<=(z4r T:Int)/\(l.sum=(z4r T:Int)->∀i,i<l.length->l.getD i 0=(z3w T i:Int))/\((∀i,i<l.length->l.getD i 0=(z3w T i:Int))->l.sum=(z4r T:Int))
 | [],[],_,_=>⟨by simp[z4r],λ_ i D=>by simp at D,λ_=>by simp[z4r]⟩
 | [],_::_,h,_=>by simp at h
 | _::_,[],h,_=>by simp at h
 | a::l,r::T,h,hb=>by
  obtain⟨h1,O,Z⟩:=x1g l T (by simpa using h) (λi D=>by simpa[z3w] using hb (i+1) (by simpa using D))
  have h0:a<=(r.length:Int):=by simpa[z3w] using hb 0 sp0
  have e:(z4r (r::T):Int)=(r.length:Int)+(z4r T:Int):=by simp[z4r]
  rw[List.sum_cons,e]
  refine⟨oo,λhs i D=>?_,λI=>?_⟩
  ·cases i with
   | zero=>show a=(r.length:Int);omega
   | succ i=>simpa[z3w] using O oo i (by simpa using D)
  have e0:a=(r.length:Int):=by simpa[z3w] using I 0 sp0
  have e1:=Z (λi D=>by simpa[z3w] using I (i+1) (by simpa using D))
  omega
structure FstI (T:Tb) (ms ts:List Int) (N:Nat):Prop where
  lm:ms.length=6
  lt:ts.length=6
  mb:∀y,y<6->0<=ms.getD y 0/\ms.getD y 0<=(z3w T y:Int)
  tb:∀y,y<6->0<=ts.getD y 0
  td:∀y,y<6->∀k:Nat,(k:Int)<ts.getD y 0->k<(nd T y (ms.getD y 0)).length->InM ms ((nd T y (ms.getD y 0)).getD k id0)
  sum:ms.sum=(N:Int)
  rk:∃rk:LId->Nat,(∀y,y<6->∀n:Nat,(n:Int)<ms.getD y 0->rk ⟨(y:Int)+1,(n:Int)⟩<N/\∀i∈z5o (lpA T y n),InM ms i/\rk i<rk ⟨(y:Int)+1,(n:Int)⟩)/\∀y,y<6->∀n m:Nat,n<m->(m:Int)<ms.getD y 0->rk ⟨(y:Int)+1,(n:Int)⟩<rk ⟨(y:Int)+1,(m:Int)⟩
theorem j8d (y:Nat):(List.replicate 6 (0:Int)).getD y 0=0:=by rw[List.getD,List.getElem?_replicate];split<;>rfl
theorem FstI.init {T:Tb}:FstI T (List.replicate 6 0) (List.replicate 6 0) 0:=
 ⟨rfl,rfl,λy _=>by rw[j8d];omega,λy _=>by rw[j8d];omega,λy _ k I=>by rw[j8d]at I;omega,rfl,λ_=>0,λy _ n D=>by rw[j8d]at D;omega,λy _ n m _ D=>by rw[j8d]at D;omega⟩
theorem z5j {l:List Int}{i:Nat}(h:i<l.length)(v:Int)(j:Nat):(l.set i v).getD j 0=if i=j then v else l.getD j 0:=by
 rw[List.getD,List.getD,List.getElem?_set];split;rename_i e;subst e;first|rfl|(rw[if_pos h];rfl)
 rfl
variable {T:Tb} {ms ts:List Int} {N:Nat}
theorem FstI.there (h:FstI T ms ts N){y:Nat}(I:y<6)(O:InM ms ((nd T y (ms.getD y 0)).getD (ts.getD y 0).toNat id0)):FstI T ms (ts.set y (ts.getD y 0+1)) N:=by
 have hl:y<ts.length:=by rw[h.lt];exact I
 refine⟨h.lm,by rw[List.length_set];exact h.lt,h.mb,λz hz=>?_,λz hz k Z D=>?_,h.sum,h.rk⟩;rw[z5j hl];split;have:=h.tb y I;omega;exact h.tb z hz;rw[z5j hl]at Z;split at Z;rename_i e;subst e;have:=h.tb y I;by_cases e:k=(ts.getD y 0).toNat;rw[e];exact O;exact h.td y I k oo D;exact h.td z hz k Z D
theorem FstI.push (h:FstI T ms ts N)(hH:Has T){y:Nat}(hy:y<6)(a9:ms.getD y 0<(z3w T y:Int))(a6:((nd T y (ms.getD y 0)).length:Int)<=ts.getD y 0):FstI T (ms.set y (ms.getD y 0+1)) (ts.set y 0) (N+1):=by
 have O:y<ms.length:=by rw[h.lm];exact hy
 have a3:y<ts.length:=by rw[h.lt];exact hy
 have h0:=h.mb y hy;obtain⟨m,hm⟩:=Int.eq_ofNat_of_zero_le h0.1;rw[hm]at a9 a6 ⊢;have a5:∀i,InM ms i->InM (ms.set y ((m:Int)+1)) i:=λi I=>by
  unfold InM at I ⊢;rw[z5j O];split;rename_i e;rw[<-e,hm]at I;omega;exact I
 have a4:∀i∈z5o (lpA T y m),InM ms i:=λi I=>by
  obtain⟨k,Z,rfl⟩:=List.getElem_of_mem I;have e:nd T y (ms.getD y 0)=z5o (lpA T y m):=by unfold nd;rw[hm,Int.toNat_natCast]
  have:=h.td y hy k (by
   have e2:((nd T y (m:Int)).length:Int)<=ts.getD y 0:=a6;rw[<-hm,e]at e2;omega) (by rw[e];exact Z)
  rw[e,List.getD,List.getElem?_eq_getElem Z]at this;exact this
 obtain⟨rk,h1,h2⟩:=h.rk;have D:∀i,InM ms i->¬i=(⟨(y:Int)+1,(m:Int)⟩:LId):=λi I e=>by
  subst e;rw[y8u,hm]at I;omega
 refine⟨by rw[List.length_set];exact h.lm,by rw[List.length_set];exact h.lt,λz hz=>?_,λz hz=>?_,λz hz k Z a8=>?_,?_,λi=>if i=⟨(y:Int)+1,(m:Int)⟩ then N else rk i,λz hz n hn=>?_,λz hz n k b0 Z=>?_⟩;rw[z5j O];split;rename_i e;subst e;omega;exact h.mb z hz;rw[z5j a3];split;omega;exact h.tb z hz;rw[z5j a3]at Z;split at Z;omega;rename_i e;rw[z5j O,if_neg e]at a8 ⊢;exact a5 _ (h.td z hz k Z a8);rw[v2t _ _ _ O,h.sum,hm];omega;rw[z5j O]at hn;simp only;by_cases e:z=y/\n=m;obtain⟨rfl,rfl⟩:=e;rw[if_pos U];refine⟨oo,λi I=>⟨a5 i (a4 i I),?_⟩⟩;rw[if_neg (D i (a4 i I))];obtain⟨y',n',b3,_,rfl⟩:=hH.nm hy oo I;exact(h1 y' b3 n' (y8u.1 (a4 _ I))).1;have a0:(n:Int)<ms.getD z 0:=by
  split at hn;rename_i e2;subst e2;have:n≠m:=λe3=>e ⟨rfl,e3⟩;rw[hm];omega;exact hn
 rw[if_neg (D _ (y8u.2 a0))];obtain⟨a1,a2⟩:=h1 z hz n a0;refine⟨oo,λi I=>?_⟩;obtain⟨b1,b2⟩:=a2 i I;rw[if_neg (D i b1)];exact⟨a5 i b1,b2⟩;rw[z5j O]at Z;simp only;have a0:(n:Int)<ms.getD z 0:=by
  split at Z;rename_i e2;subst e2;rw[hm];omega;omega
 rw[if_neg (D _ (y8u.2 a0))];by_cases e:z=y/\k=m;obtain⟨rfl,rfl⟩:=e;rw[if_pos U];exact(h1 z hz n a0).1;have a7:(k:Int)<ms.getD z 0:=by
  split at Z;rename_i e2;subst e2;have:k≠m:=λe3=>e ⟨rfl,e3⟩;rw[hm];omega;exact Z
 rw[if_neg (D _ (y8u.2 a7))];exact h2 z hz n k b0 a7
theorem FstI.leI (h:FstI T ms ts N)(D:T.length=6):N<=z4r T:=by
 have:=(x1g ms T (by rw[h.lm,D]) (λi I=>(h.mb i (by rw[<-h.lm];exact I)).2)).1;rw[h.sum]at this;omega
def u0j (T:Tb)(ms:List Int)(y:Nat):Prop:=ms.getD y 0=(z3w T y:Int)\/(ms.getD y 0<(z3w T y:Int)/\∃i∈nd T y (ms.getD y 0),¬InM ms i)
theorem FstI.done (h:FstI T ms ts N)(hH:Has T)(hs:∀y,y<6->u0j T ms y)(ho:∃rk,Ranked T rk):N=z4r T:=by
 obtain⟨rk,hr⟩:=ho;have a4:∀k y,y<6->ms.getD y 0<(z3w T y:Int)->rk ⟨(y:Int)+1,ms.getD y 0⟩=k->False:=λk=>by
  induction k using Nat.strongRecOn with
  | ind k ih=>
   intro y hy a1 hk;obtain⟨m,hm⟩:=Int.eq_ofNat_of_zero_le (h.mb y hy).1;rcases hs y hy with e|⟨_,i,D,hn⟩
   omega;have Z:i∈z5o (lpA T y m):=by unfold nd at D;rw[hm,Int.toNat_natCast]at D;exact D
   rw[hm]at a1 hk;obtain⟨O,n',I,a3,rfl⟩:=hH.nm hy oo Z;rw[y8u]at hn;obtain⟨m',a2⟩:=Int.eq_ofNat_of_zero_le (h.mb O I).1;have h1:=hr.need y hy m oo _ Z;have h2:rk ⟨(O:Int)+1,(m':Int)⟩<=rk ⟨(O:Int)+1,(n':Int)⟩:=by
    rcases Nat.lt_or_ge m' n' with h3|h3
    exact Nat.le_of_lt (hr.mono O I m' n' h3 a3);have:m'=n':=by omega
    rw[this];exact Nat.le_refl _
   refine ih (rk ⟨(O:Int)+1,(m':Int)⟩) oo O I oo (by rw[a2])
 have:=(x1g ms T (by rw[h.lm,hH.1]) (λi D=>(h.mb i (by rw[<-h.lm];exact D)).2)).2.2 (λi D=>by
  have a0:i<6:=by rw[<-h.lm];exact D
  have h1:=(h.mb i a0).2;rcases Decidable.em (ms.getD i 0<(z3w T i:Int)) with h2|h2
  exact(a4 _ i a0 h2 U).elim;omega)
 rw[h.sum]at this;omega
theorem FstI.ord (h:FstI T ms ts N)(hH:Has T)(hN:N=z4r T):∃rk,Ranked T rk:=by
 have D:=(x1g ms T (by rw[h.lm,hH.1]) (λi O=>(h.mb i (by rw[<-h.lm];exact O)).2)).2.1 (by rw[h.sum,hN]);obtain⟨rk,h1,h2⟩:=h.rk;refine⟨rk,⟨λy I n hn i O=>?_,λy I n m Z hm=>?_⟩⟩;exact((h1 y I n (by rw[D y (by rw[h.lm];exact I)];omega)).2 i O).2;exact h2 y I n m Z (by rw[D y (by rw[h.lm];exact I)];omega)
end Go.G21
namespace Go.G21
open Go.Lw
def StN (W:Nat)(s:Lst)(i:LId):Prop:=match s with
  | none=>False
  | some (y,f)=>i.y=y/\(f:Int)<=i.n/\i.n<((f+2*W:Nat):Int)
instance (W:Nat) (s:Lst) (i:LId):Decidable (StN W s i):=by unfold StN;split<;>infer_instance
end Go.G21
namespace Go.G21
open Go.Lw
end Go.G21
namespace Go.G21
open Go.Lw
theorem u2k (ts:List TQ)(y:Nat):(z2o ts).getD y []=(ts.getD y tq0).2.map LpQ.p:=by
 rcases Nat.lt_or_ge y ts.length with h|h
 exact v8a (λp:TQ=>p.2.map LpQ.p) ts y tq0 [] h;rw[List.getD,List.getElem?_eq_none (by simpa[z2o] using h),List.getD,List.getElem?_eq_none h];rfl
theorem z4a (ts:List TQ)(y:Nat):z3w (z2o ts) y=(ts.getD y tq0).2.length:=by
 unfold z3w;rw[u2k,List.length_map]
theorem y3q (ts:List TQ)(y n:Nat):lpA (z2o ts) y n=((ts.getD y tq0).2.getD n lq0).p:=by
 unfold lpA;rw[u2k];generalize (ts.getD y tq0).2=l;rw[List.getD,List.getElem?_map,List.getD];cases l[n]?<;>rfl
theorem z2k {ts:List TQ}{i:LId}:z5h (z2o ts) i↔1<=i.y/\i.y<=(ts.length:Int)/\0<=i.n/\i.n<((ts.getD (i.y-1).toNat tq0).2.length:Int):=by
 unfold z5h;rw[z4a];simp only[z2o,List.length_map]
theorem z7c {w:World}{ts:List TQ}(h:TabAt w ts)(y:Nat):(ts.getD y tq0).1.2.1=(ts.getD y tq0).2.length:=by
 rcases Nat.lt_or_ge y ts.length with e|e
 exact z2g (h _ (z1b e)).1;rw[List.getD,List.getElem?_eq_none e];rfl
theorem z9k {w:World}{ts:List TQ}(h:TabAt w ts){y n:Nat}(D:y<ts.length)(hn:n<(ts.getD y tq0).2.length):LpAt w ((ts.getD y tq0).2.getD n lq0):=(h _ (z1b D)).2 _ (z1b hn)
theorem y1n (ts:List TQ):(z2o ts).length=ts.length:=by simp[z2o]
def y0x (T:Tb)(y n:Nat):List LId:=(T.take y).flatMap v3p++((T.getD y []).take n).flatMap Lp.th
theorem u0l (T:Tb):y0x T 0 0=[]:=by simp[y0x]
theorem x5b {T:Tb}{y n:Nat}(h:n<z3w T y):y0x T y (n+1)=y0x T y n++(lpA T y n).th:=by
 unfold y0x lpA;have D:n<(T.getD y []).length:=h;rw[x6g Lp.th _ n lq0.p D,List.append_assoc]
theorem u0z {T:Tb}{y:Nat}(h:y<T.length):y0x T (y+1) 0=y0x T y (z3w T y):=by
 unfold y0x z3w;rw[x6g v3p _ y [] h,List.take_zero,List.take_length];simp[v3p]
theorem u6a {T:Tb}{y:Nat}(h:T.length<=y):y0x T y 0=y1r T:=by
 unfold y0x y1r;rw[List.take_of_length_le h];simp
theorem u6h {T:Tb}{y n:Nat}(D:y<T.length)(i:LId):(y0x T y n).count i<=(y1r T).count i:=by
 have I:y1r T=(T.take y).flatMap v3p++(T.drop y).flatMap v3p:=by unfold y1r;rw[<-List.flatMap_append,List.take_append_drop]
 have O:T.drop y=T.getD y []::T.drop (y+1):=by
  rw[List.drop_eq_getElem_cons D,List.getD,List.getElem?_eq_getElem D];rfl
 have Z:v3p (T.getD y [])=((T.getD y []).take n).flatMap Lp.th++((T.getD y []).drop n).flatMap Lp.th:=by
  unfold v3p;rw[<-List.flatMap_append,List.take_append_drop]
 rw[I,O,List.flatMap_cons,Z];unfold y0x;simp only[List.count_append];omega
theorem j3b {T:Tb}{y n k:Nat}(Z:y<T.length)(hn:n<z3w T y)(D:k<(lpA T y n).th.length):(y0x T y n++(lpA T y n).th.take k).count ((lpA T y n).th.getD k id0)+1<=(y1r T).count ((lpA T y n).th.getD k id0):=by
 have h:=u6h (n:=n+1) Z ((lpA T y n).th.getD k id0)
 rw[x5b hn]at h
 generalize lpA T y n=l at *
 generalize y0x T y n=u at *
 have I:l.th=l.th.take k++l.th.getD k id0::l.th.drop (k+1):=by
  conv=>lhs;rw[<-List.take_append_drop k l.th,List.drop_eq_getElem_cons D]
  rw[List.getD,List.getElem?_eq_getElem D];rfl
 have O:=congrArg (List.count (l.th.getD k id0)) I
 rw[List.count_append,List.count_cons_self]at O
 rw[List.count_append]at h ⊢
 omega
def x2q (p:List LId)(i:LId):Value:=.int .i64 ((p.count i:Nat):Int)
theorem x2u (p:List LId)(k:LId):(λk'=>if k'=k then Value.int .i64 (((p.count k:Nat):Int)+1) else x2q p k')=x2q (p++[k]):=by
 funext k';unfold x2q;rw[List.count_append,List.count_singleton];by_cases h:k'=k;subst h;rw[if_pos U,if_pos sp0];rfl;rw[if_neg h,if_neg (by simpa using λe=>h e.symm),Nat.add_zero]
theorem z9r {α:Type}{l:List α}{k:Nat}(d:α)(h:k<l.length):l.take (k+1)=l.take k++[l.getD k d]:=by
 rw[List.take_add_one,List.getElem?_eq_getElem h,List.getD,List.getElem?_eq_getElem h];rfl
structure TabV (T:Tb):Prop where
  ok:TabOk T
  thr:∀i,(y1r T).count i<=1
theorem thq (ts:List TQ)(y n:Nat):(lpA (z2o ts) y n).th=((ts.getD y tq0).2.getD n lq0).ths:=by rw[y3q]
theorem x0e {ts:List TQ}{y n:Nat}(h:n<(ts.getD y tq0).2.length):y0x (z2o ts) y (n+1)=y0x (z2o ts) y n++((ts.getD y tq0).2.getD n lq0).ths:=by
 rw[x5b (by rw[z4a];exact h),thq]
theorem x0j {ts:List TQ}{y:Nat}(h:y<ts.length):y0x (z2o ts) (y+1) 0=y0x (z2o ts) y (ts.getD y tq0).2.length:=by
 rw[u0z (by rw[y1n];exact h),z4a]
theorem v1h {ts:List TQ}{y n k:Nat}(D:∀i,(y1r (z2o ts)).count i<=1)(O:y<ts.length)(hn:n<(ts.getD y tq0).2.length)(I:k<((ts.getD y tq0).2.getD n lq0).ths.length) :
    ((y0x (z2o ts) y n++((ts.getD y tq0).2.getD n lq0).ths.take k++[((ts.getD y tq0).2.getD n lq0).ths.getD k id0]).count (((ts.getD y tq0).2.getD n lq0).ths.getD k id0))<=1:=by
  have h:=j3b (T:=z2o ts) (n:=n) (k:=k) (by rw[y1n];exact O) (by rw[z4a];exact hn) (by rw[thq];exact I)
  rw[thq]at h
  have Z:=D (((ts.getD y tq0).2.getD n lq0).ths.getD k id0)
  rw[List.count_append,List.count_singleton,if_pos sp0]
  omega
def u8s (ts:List TQ)(i:Nat):Nat:=((ts.take i).map λp:TQ=>p.2.length).sum
theorem v9j {ts:List TQ}{i:Nat}(h:i<ts.length):u8s ts (i+1)=u8s ts i+(ts.getD i tq0).2.length:=by
 unfold u8s;rw[z9r tq0 h,List.map_append,List.sum_append];simp
theorem v2p (ts:List TQ):z4r (z2o ts)=(ts.map λp:TQ=>p.2.length).sum:=by
 unfold z4r z2o;rw[List.map_map];congr 1;apply List.map_congr_left;intro p _;simp
theorem j3f (ts:List TQ)(i:Nat):u8s ts i<=z4r (z2o ts):=by
 rw[v2p]
 conv=>rhs;rw[<-List.take_append_drop i ts,List.map_append,List.sum_append]
 unfold u8s;omega
theorem u3b (ts:List TQ):u8s ts ts.length=z4r (z2o ts):=by
 unfold u8s;rw[List.take_length,v2p]
theorem j4f {q:LpQ}{n:Nat}(h:n<q.ths.length):(z5o q.p).getD n id0=q.ths.getD n id0:=by
 show (q.ths++q.pas.map Pa.id).getD n id0=_;simp only[List.getD,List.getElem?_append_left h]
theorem j0y {q:LpQ}{n:Nat}(h:q.ths.length<=n)(I:n<(z5o q.p).length):(z5o q.p).getD n id0=(q.pas.getD (n-q.ths.length) pa0).id:=by
 have D:n-q.ths.length<q.pas.length:=by
  have:(z5o q.p).length=q.ths.length+q.pas.length:=by simp[z5o]
  omega
 show (q.ths++q.pas.map Pa.id).getD n id0=_;simp only[List.getD,List.getElem?_append_right h,List.getElem?_map,List.getElem?_eq_getElem D];rfl
theorem x9y (q:LpQ):(z5o q.p).length=q.ths.length+q.pas.length:=by simp[z5o]
theorem TabV.has {T:Tb}(h:TabV T):Has T:=⟨h.ok.six,λy O n I i D=>(h.ok.rts y O n I).1.2.2.1 i D⟩
end Go.G21
namespace Go.Lw
open Go.RowKit
def MapZ {κ:Type}[DecidableEq κ](V:κ->Value)(w:World)(g:Nat)(z:Value)(f:κ->Value):Prop:=
  ∃(es:Array MapEntry) (c:Nat) (m:List (κ×Value)),w.heap[g]?=some (.map es c)/\es.toList.map (λe=>(e.key,e.val))=m.map (λp=>(V p.1,p.2))/\(∀k,(z2t m k).getD z=f k)/\(es.toList.map (·.born)).Nodup/\∀e∈es.toList,e.born<c
def MapE {κ:Type}[DecidableEq κ](V:κ->Value)(w:World)(g:Nat)(z:Value)(f:κ->Value)(k:κ)(st:Nat):Prop:=
  ∃(es:Array MapEntry) (c:Nat) (m:List (κ×Value)) (j:Nat),w.heap[g]?=some (.map es c)/\es.toList.map (λe=>(e.key,e.val))=m.map (λp=>(V p.1,p.2))/\(∀k,(z2t m k).getD z=f k)/\(es.toList.map (·.born)).Nodup/\(∀e∈es.toList,e.born<c)/\(m.map (·.1)).findIdx? (λx=>decide (k=x))=some j/\(es.toList[j]?).map (·.born)=some st
section
variable {κ:Type} [DecidableEq κ] {V:κ->Value} {P:Program} {K:TypeId}
theorem MapZ.fr {w w':World}{g:Nat}{z:Value}{f:κ->Value}{S:List Nat}(h:MapZ V w g z f)(hf:Fr S w w')(hn:∀k∈S,k∉[g]:=by simp[z0u]<;>omega):MapZ V w' g z f:=by
 obtain⟨I,c,m,D,O⟩:=h;exact⟨I,c,m,(hf.block g (Array.getElem?_eq_some_iff.1 D).1 (λh=>hn g h sp0)).trans D,O⟩
theorem MapZ.ext {w w':World}{g:Nat}{z:Value}{f:κ->Value}(h:MapZ V w g z f)(hf:Fr [] w w'):MapZ V w' g z f:=h.fr hf sp0
theorem MapZ.lt {w:World}{g:Nat}{z:Value}{f:κ->Value}(h:MapZ V w g z f):g<w.heap.size:=let ⟨_,_,_,h1,_⟩:=h;(Array.getElem?_eq_some_iff.1 h1).1
theorem MapZ.ne_blk {w:World}{g D T:Nat}{z:Value}{f:κ->Value}{cs:List Value}(h:MapZ V w g z f)(I:Blk w D T cs):g≠D:=by
 rintro rfl;obtain⟨_,_,_,O,_⟩:=h;unfold Blk at I;rw[I]at O;cases O
theorem MapE.map {w:World}{g st:Nat}{z:Value}{f:κ->Value}{k:κ}(h:MapE V w g z f k st):MapZ V w g z f:=
 let ⟨es,c,m,_,h1,h2,h3,h4,h5,_⟩:=h;⟨es,c,m,h1,h2,h3,h4,h5⟩
theorem v4g {l:List MapEntry}(hn:(l.map (·.born)).Nodup){j st:Nat}(h:(l[j]?).map (·.born)=some st):l.findIdx? (λe=>((e.born:Nat):Int) == ((st:Nat):Int))=some j:=by
 induction l generalizing j with
 | nil=>simp at h
 | cons a r ih=>
  simp only[List.map_cons,List.nodup_cons]at hn;cases j with
  | zero=>simp at h;subst h;simp[List.findIdx?_cons]
  | succ j=>
   simp only[List.getElem?_cons_succ]at h;obtain⟨I,he,hs⟩:=Option.map_eq_some_iff.1 h;have D:a.born≠st:=λO=>hn.1 (List.mem_map.2 ⟨I,List.mem_of_getElem? he,hs.trans O.symm⟩);have Z:(((a.born:Nat):Int) == ((st:Nat):Int))=false:=by
    simp only[beq_eq_false_iff_ne,ne_eq,Int.natCast_inj];exact D
   rw[List.findIdx?_cons,Z];simp[ih hn.2 h]
theorem x8x {w:World}{g:Nat}{z:Value}{f:κ->Value}{t E:TypeId}(h:MapZ V w g z f)(hk:KeyLaw P K V)(hu:P.underlying t=some (.map K E))(hz:(zeroValue E).run P w=.ok z w)(k:κ) :
    (Instr.lookup t (.map (some g)) (V k) false).run P w=.ok (f k) w:=by
  obtain⟨D,c,m,I,O,Z,_⟩:=h
  rw[<-Z k]
  exact x0c (f:=z2t m) ⟨D,c,m,I,O,λ_=>rfl⟩ hk hu hz k
theorem x1c {w:World}{g:Nat}{z:Value}{f:κ->Value}{t E:TypeId}(h:MapZ V w g z f)(hk:KeyLaw P K V)(hu:P.underlying t=some (.map K E))(hz:∀w:World,(zeroValue E).run P w=.ok z w)(k:κ) :
    ∃w' st,(Instr.mapEntry t (.map (some g)) (V k)).run P w=.ok (.tuple #[f k,.int .i64 (st:Nat)]) w'/\MapE V w' g z f k st/\Fr [g] w w'/\w'.heap.size=w.heap.size:=by
  obtain⟨I,c,m,h1,h2,h3,h4,h5⟩:=h
  have b0:=(Array.getElem?_eq_some_iff.1 h1).1
  have a1:I.toList.map (·.key)=(m.map (·.1)).map V:=by
    have:=congrArg (List.map Prod.fst) h2
    simpa[List.map_map,Function.comp_def] using this
  have O:=hk.find k I.toList (m.map (·.1)) w a1
  have a2:∀o,(setObj g o).run P w=.ok () { w with heap:=w.heap.setIfInBounds g o }:=by intro o;simp[setObj,Sem.run,h1]
  have a6:∀o,Fr [g] w { w with heap:=w.heap.setIfInBounds g o }:=λo=>⟨rfl,rfl,rfl,sp0,λi _ hn=>by
    simp only
    rw[Array.getElem?_setIfInBounds_ne (by intro e;subst e;simp at hn)]⟩
  have Z:∀o,({ w with heap:=w.heap.setIfInBounds g o }:World).heap[g]?=some o:=by intro o;simp[b0]
  have a8:I.toList.length=m.length:=by have:=congrArg List.length h2;simpa using this
  have D:=y4f (V:=V) m k I.toList h2
  cases hf:(m.map (·.1)).findIdx? (λx=>decide (k=x)) with
  | none=>
    rw[hf]at O D
    simp only[Option.bind_none,Option.map_none]at D
    have e0:f k=z:=by rw[<-h3 k,<-D];rfl
    refine⟨{ w with heap:=w.heap.setIfInBounds g (.map (I.push { key:=V k,val:=z,born:=c }) (c+1)) },c,?_,⟨_,_,m++[(k,z)],m.length,Z (.map (I.push { key:=V k,val:=z,born:=c }) (c+1)),?_,λk'=>?_,?_,?_,?_,?_⟩,a6 _,sp0⟩
    · simp only[Instr.mapEntry,Sem.run_bind,run_underlying hu,Result.andThen_ok,z2x h1,hk.check,O,Option.bind_none,hz w,a2,Sem.run_pure,e0]
      rfl
    · simp[h2]
    · rw[y5a m k k' z hf,<-h3 k']
      split
      · rename_i e;subst e;rw[h3,e0];rfl
      · rfl
    · simp only[Array.toList_push,List.map_append,List.map_cons,List.map_nil]
      refine List.nodup_append.2 ⟨h4,sp0,λa ha b hb e=>?_⟩
      simp only[List.mem_singleton]at hb
      obtain⟨x,hx,rfl⟩:=List.mem_map.1 ha
      have:=h5 x hx;omega
    · intro e he
      simp only[Array.toList_push,List.mem_append,List.mem_singleton]at he
      rcases he with he|rfl
      · have:=h5 e he;omega
      · simp
    · rw[List.map_append,List.findIdx?_append,hf];simp
    · simp only[Array.toList_push]
      rw[<-a8,List.getElem?_append_right (Nat.le_refl _)];simp
  | some i=>
    have hi:i<m.length:=by
      have:=List.findIdx?_eq_some_iff_findIdx_eq.1 hf
      simpa using this.1
    have a0:i<I.toList.length:=by omega
    have a7:V k=(I.toList[i]).key:=by
      have a9:=List.findIdx?_eq_some_iff_getElem.1 hf
      obtain⟨b2,hp,_⟩:=a9
      have b1:k=(m.map (·.1))[i]:=by simpa using hp
      have e1:(I.toList.map (·.key))[i]?=((m.map (·.1)).map V)[i]?:=by rw[a1]
      simp only[List.getElem?_map,List.getElem?_eq_getElem a0,List.getElem?_eq_getElem hi,Option.map_some,Option.some.injEq]at e1
      rw[e1,b1];simp
    have a5:I[i]?=some I.toList[i]:=by rw[<-Array.getElem?_toList,List.getElem?_eq_getElem a0]
    have a4:(Instr.keyThatStays (((I[i]?).map (·.key)).getD (V k)) (V k)).run P w=.ok (V k) w:=by
      rw[a5]
      simp only[Option.map_some,Option.getD_some,<-a7,Instr.keyThatStays,hk.bits,if_true,Sem.run_pure]
    have a3:I.modify i (λe=>{ e with key:=V k })=I:=by
      apply Array.ext'
      rw[Array.toList_modify]
      apply List.ext_getElem?
      intro j
      rw[List.getElem?_modify]
      by_cases hj:i=j
      · subst hj
        rw[List.getElem?_eq_getElem a0]
        simp only[Option.map_eq_map,Option.map_some,if_pos,Option.some.injEq]
        rw[a7]
      · simp[hj]
    rw[hf]at O D
    simp only[Option.bind_some,List.getElem?_eq_getElem a0,Option.map_some]at O D
    have e0:f k=I.toList[i].val:=by rw[<-h3 k,<-D];rfl
    refine⟨{ w with heap:=w.heap.setIfInBounds g (.map I c) },I.toList[i].born,?_,⟨I,c,m,i,Z _,h2,h3,h4,h5,hf,?_⟩,a6 _,sp0⟩
    · simp only[Instr.mapEntry,Sem.run_bind,run_underlying hu,Result.andThen_ok,z2x h1,hk.check,O,a4,a2,a3,Sem.run_pure,e0]
      rw[a5];rfl
    · rw[List.getElem?_eq_getElem a0];rfl
theorem y6d {w:World}{g st:Nat}{z v:Value}{f:κ->Value}{t:TypeId}{k:κ}(h:MapE V w g z f k st) :
    ∃w',(Instr.entryStore t (.map (some g)) (.int .i64 (st:Nat)) v).run P w=.ok () w'/\MapZ V w' g z (λk'=>if k'=k then v else f k')/\Fr [g] w w'/\w'.heap.size=w.heap.size:=by
  obtain⟨I,c,m,j,h1,h2,h3,h4,h5,h6,h7⟩:=h
  have a4:=(Array.getElem?_eq_some_iff.1 h1).1
  have a2:∀o,(setObj g o).run P w=.ok () { w with heap:=w.heap.setIfInBounds g o }:=by intro o;simp[setObj,Sem.run,h1]
  have a3:∀o,Fr [g] w { w with heap:=w.heap.setIfInBounds g o }:=λo=>⟨rfl,rfl,rfl,sp0,λi _ hn=>by
    simp only
    rw[Array.getElem?_setIfInBounds_ne (by intro e;subst e;simp at hn)]⟩
  have O:∀o,({ w with heap:=w.heap.setIfInBounds g o }:World).heap[g]?=some o:=by intro o;simp[a4]
  have a1:I.findIdx? (λe=>((e.born:Nat):Int) == ((st:Nat):Int))=some j:=by
    have e:I.findIdx? (λe=>((e.born:Nat):Int) == ((st:Nat):Int))=I.toList.findIdx? (λe=>((e.born:Nat):Int) == ((st:Nat):Int)):=by cases I;simp
    rw[e];exact v4g h4 h7
  have hi:j<m.length:=by
    have:=List.findIdx?_eq_some_iff_findIdx_eq.1 h6
    simpa using this.1
  refine⟨{ w with heap:=w.heap.setIfInBounds g (.map (I.modify j λe=>{ e with val:=v }) c) },?_,⟨_,c,m.modify j λp=>(p.1,v),O _,?_,λk'=>?_,?_,?_⟩,a3 _,sp0⟩
  · simp only[Instr.entryStore,Sem.run_bind,Result.andThen_ok,z2x h1,asInt,asIntOf,Sem.run_pure,a1,a2]
  · rw[Array.toList_modify]
    apply List.ext_getElem?
    intro i
    have D:=congrArg (·[i]?) h2
    simp only[List.getElem?_map]at D ⊢
    rw[List.getElem?_modify,List.getElem?_modify]
    by_cases hj:j=i
    · subst hj
      simp only[Option.map_eq_map,if_pos]
      cases Z:I.toList[j]? with
      | none=>rw[Z]at D;cases hm:m[j]? with
        | none=>rfl
        | some p=>rw[hm]at D;cases D
      | some e=>rw[Z]at D;cases hm:m[j]? with
        | none=>rw[hm]at D;cases D
        | some p=>
          rw[hm]at D
          simp only[Option.map_some,Option.some.injEq,Prod.mk.injEq]at D ⊢
          first|exact⟨D.1,rfl⟩|exact⟨D.1,trivial⟩|simp[D.1]
    · simp only[Option.map_eq_map,if_neg hj];simpa using D
  · rw[z9w k k' v m j h6]
    show _=if k'=k then v else f k'
    split
    · rfl
    · exact h3 k'
  · rw[Array.toList_modify]
    have e:(I.toList.modify j λe=>{ e with val:=v }).map (·.born)=I.toList.map (·.born):=by
      apply List.ext_getElem?
      intro i
      rw[List.getElem?_map,List.getElem?_map,List.getElem?_modify]
      split
      · cases I.toList[i]?<;>rfl
      · simp
    rw[e];exact h4
  · intro e Z
    rw[Array.toList_modify]at Z
    obtain⟨i,a0,rfl⟩:=List.getElem_of_mem Z
    rw[List.length_modify]at a0
    rw[List.getElem_modify]
    have:=h5 _ (List.getElem_mem a0)
    split<;>exact this
variable {a:Act} {n:Nat} {L:List (Nat×Value)} {ds:List Nat} {w w':World} {Q:Exit->Act->World->Prop} {ops:Array Oper} {rest:List Oper}
variable {d:Nat} {ty:TypeId} {pos:String} {after:Array Edge} {x y z':Operand} {t E:TypeId} {g st:Nat} {f:κ->Value} {k:κ} {v z:Value}
theorem x8u (V:κ->Value)(z:Value)(h:AgM ds a n L)(hn:Nat.blt d n=true)
    (q:∀g w',g=w.heap.size->MapZ V w' g z (λ_=>z)->Fr [] w w'->w'.heap.size=g+1->∀a,AgM ds a n ((d,.map (some g))::L)->wpList P ops Q rest a w'):wpList P ops Q (⟨some d,.makeMap t none,ty,pos,after,none⟩::rest) a w:=
  z2m h U hn (w':=w.alloc (.map #[] 0)) (by simp[execOp,Instr.makeMap]) (q _ _ U ⟨_,_,[],heap_alloc_new w _,sp0,λ_=>rfl,sp0,sp0⟩ (Fr.alloc [] w _) sp0)
theorem y9c (V:κ->Value)(z:Value)(hn:Nat.blt d n=true)(q:∀g w',g=w.heap.size->MapZ V w' g z (λ_=>z)->Fr [] w w'->w'.heap.size=g+1->WL P ops Q rest n ds w' ((d,.map (some g))::L)):WL P ops Q (⟨some d,.makeMap t none,ty,pos,after,none⟩::rest) n ds w L:=λa h=>x8u V z h hn q
theorem z8m (h:AgM ds a n L)(hx:ev L x=some (.map (some g)))(hy:ev L y=some (V k))(I:MapZ V w g z f)(D:KeyLaw P K V)(O:P.underlying t=some (.map K E))(hz:∀w:World,(zeroValue E).run P w=.ok z w)(Z:f k=v)(hn:Nat.blt d n=true)
    (q:∀a,AgM ds a n ((d,v)::L)->wpList P ops Q rest a w):wpList P ops Q (⟨some d,.lookup t x y false,ty,pos,after,none⟩::rest) a w:=
  z2m h U hn (by rw[<-Z];simp[execOp,h.eval hx,h.eval hy,x8x I D O (hz w) k]) q
theorem y6x (hx:ev L x=some (.map (some g)))(hy:ev L y=some (V k))(I:MapZ V w g z f)(D:KeyLaw P K V)(O:P.underlying t=some (.map K E))(hz:∀w:World,(zeroValue E).run P w=.ok z w)(Z:f k=v)(hn:Nat.blt d n=true)
 (q:WL P ops Q rest n ds w ((d,v)::L)):WL P ops Q (⟨some d,.lookup t x y false,ty,pos,after,none⟩::rest) n ds w L:=λa h=>z8m h hx hy I D O hz Z hn q
theorem z7n (h:AgM ds a n L)(hx:ev L x=some (.map (some g)))(hy:ev L y=some (V k))(hm:MapZ V w g z f)(Z:KeyLaw P K V)(hu:P.underlying t=some (.map K E))(hz:∀w:World,(zeroValue E).run P w=.ok z w)(hn:Nat.blt d n=true)
    (q:∀w' st,MapE V w' g z f k st->Fr [g] w w'->w'.heap.size=w.heap.size->∀a,AgM ds a n ((d,.tuple #[f k,.int .i64 (st:Nat)])::L)->wpList P ops Q rest a w'):wpList P ops Q (⟨some d,.mapEntry t x y,ty,pos,after,none⟩::rest) a w:=by
  obtain⟨w',st,hr,D,I,O⟩:=x1c hm Z hu hz k
  exact z2m h U hn (w':=w') (by simp[execOp,h.eval hx,h.eval hy,hr]) (q w' st D I O)
theorem z5y {s:Operand}(h:AgM ds a n L)(hx:ev L x=some (.map (some g)))(hs:ev L s=some (.int .i64 (st:Nat)))(hy:ev L y=some v)(Z:MapE V w g z f k st)
    (q:∀w',MapZ V w' g z (λk'=>if k'=k then v else f k')->Fr [g] w w'->w'.heap.size=w.heap.size->∀a,AgM ds a n L->wpList P ops Q rest a w'):wpList P ops Q (⟨none,.entryStore t x s y,ty,pos,after,none⟩::rest) a w:=by
  obtain⟨w',hr,D,I,O⟩:=y6d (P:=P) (t:=t) (v:=v) Z
  exact z9v h U U (w':=w') (by simp[execOp,h.eval hx,h.eval hs,h.eval hy,hr]) (q w' D I O)
end
end Go.Lw
namespace Go.Lw
open Go.RowKit
theorem v4q {w:World}{ad:Addr}{cs vs:List Value}{off:Nat}(h:Cells w ad cs)(I:(cs.drop off).take vs.length=vs):Cells w (ad.add off) vs:=λj u D=>by
 rw[<-I]at D
 rw[List.getElem?_take]at D
 split at D
 ·rw[List.getElem?_drop]at D
  rw[y0h];exact h _ u D
 cases D
section
variable {P:Program} {a:Act} {n:Nat} {L:List (Nat×Value)} {ds:List Nat} {w:World} {Q:Exit->Act->World->Prop} {ops:Array Oper} {rest:List Oper} {d g p:Nat} {ty t:TypeId} {pos:String} {after:Array Edge} {x:Operand} {l:List UInt8}
end
end Go.Lw
namespace Go.Lw
open Go.RowKit
section
variable {P:Program} {a:Act} {n:Nat} {L:List (Nat×Value)} {ds:List Nat} {w:World} {Q:Exit->Act->World->Prop} {ops:Array Oper} {rest:List Oper} {d:Nat} {ty t T:TypeId} {pos:String} {after:Array Edge} {x:Operand}
end
section
variable {P:Program} {a:Act} {n:Nat} {L:List (Nat×Value)} {ds:List Nat} {w:World} {Q:Exit->Act->World->Prop} {ops:Array Oper} {rest:List Oper} {d:Nat} {ty t T:TypeId} {pos:String} {after:Array Edge} {x y:Operand} {k:IntKind} {i:Int}
end
end Go.Lw
namespace Go.Proofs.YtagnnbcnnmacmaaGreatDoor
open Go.Lw Go.G21 Go.G08 _root_.Go.Proofs.Tryz
theorem x1l:ElemOf prog 40 116 z4z 24:=ElemOf.mk' (z:=(.slice none 0 0)) underlying40 kr0 U
theorem y3h:z2a prog 116:=λ_=>kr0
theorem v9d (i:LId)(v:Value)(ts:List TQ)(w0:World)(hs:Sl z4z w0 v ts)(hk:TabAt w0 ts)(hl:ts.length<=200)(hi:0<=i.y/\i.y<=255):Rets prog 245 #[v,.agg #[.int .u8 i.y,.int .i64 i.n]] w0 λr w'=>r=.bool (decide (z5h (z2o ts) i))/\Fr [] w0 w':=by
 obtain⟨A,c,rfl,a5,hM,hA⟩:=id hs;clear hA;unfold maxLen at hM;have a2:=z7c hk;have a7:=a2 (i.y-1).toNat;refine we [(0,.slice A ts.length c),(1,.agg #[.int .u8 i.y,.int .i64 i.n])] func245 U ntmps245 U (.c2 U U) ?_;have a3:=hs;have a1:=hk;refine sr (bx U (λg3 w1 a6 I Z z1=>(asg U (nn (sq ?_)))));replace hs:=a3.ext Z;replace hk:=a1.ext Z;intro a h;refine z7m z2y kr0 (z3d h U z9g U λa h=>z5t h U (λ_ O=>I.ext O) U na5 U λa h=>u5m h U U U λa h=>z3c h U λa h=>gSp (D:=8) h U ?_ ?_);clear h;intro g0 h;refine z1y h U U U U (z3d h U z9g U λa h=>z1y h U U U U (z5t h U (λ_ O=>I.ext O) U na5 U λa h=>z1y h U U U U (v7g h U (by rw[underlying5];rfl) underlying3 (by first|exact i6 oo|rfl) U λa h=>?_)));refine z1y h U U U U (z3c h U λa h=>z1y h U U U U (y6v h U underlying40 U λa h=>z1y h U U U U (j8r h U U U λa h=>?_)));refine z7h h U λa h=>z3c h U λa h=>gSp (D:=16) h U ?_ ?_;clear h;intro g1 h;refine z1y h U U U U (z3d h U y1g U λa h=>z1y h U U U U (z5t h U (λ_ O=>I.ext O) U na3 U λa h=>z1y h U U U U (u5m h U U U λa h=>?_)));refine z7h h U λa h=>z3c h U λa h=>gSp (D:=21) h U ?_ ?_;clear h;intro g2 h;refine z1y h U U U U (z3d h U y1g U λa h=>z1y h U U U U (z5t h U (λ_ O=>I.ext O) U na3 U λa h=>z1y h U U U U (z3c h U λa h=>?_)));refine z1y h U U U U (z3d h U z9g U λa h=>z1y h U U U U (z5t h U (λ_ O=>I.ext O) U na5 U λa h=>z1y h U U U U (u8g h U U (by first|exact IntWalk.u8_in _ oo|rfl) U λa h=>?_)));refine z1y h U U U U (y4g (tq0) h U hs U x1l oo oo U U λa4 a0 a h=>z1y h U U U U (z8f h U (λ_ O=>a0 _ (hs.ext O)) y3h U λa h=>z1y h U U U U (y6v h U underlying116 U λa h=>?_)));refine z1y h U U U U (j3k h U U U λa h=>z7h h U λa h=>z6h h U U λa h=>wpQuiet_nil ?_);intro w2 q2;refine bk (h.sub (L':=[(4,_)]) (.cons U .nil)) (tn (rt (r1 results245 U ?_)));exact⟨_,rfl,by first|exact congrArg Value.bool (decide_eq_decide.2 (by rw[z2k];omega))|exact congrArg Value.bool (decide_eq_false (by rw[z2k];omega)).symm|exact congrArg Value.bool (decide_eq_true (by rw[z2k];omega)).symm,(Z.n1 q2)⟩;clear h;intro g2 h;refine z1k h U U U U λa h=>z1k h U U U U λa h=>z1k h U U U U λa h=>z1k h U U U U λa h=>z1k h U U U U λa h=>z1k h U U U U λa h=>z1k h U U U U λa h=>z1k h U U U U λa h=>z1k h U U U U λa h=>z1k h U U U U λa h=>z3v h U λa h=>z6h h U U λa h=>wpQuiet_nil ?_;intro w3 q3;refine bk (h.sub (L':=[(4,_)]) (.cons U .nil)) (tn (rt (r1 results245 U ?_)));exact⟨_,rfl,by first|exact congrArg Value.bool (decide_eq_decide.2 (by rw[z2k];omega))|exact congrArg Value.bool (decide_eq_false (by rw[z2k];omega)).symm|exact congrArg Value.bool (decide_eq_true (by rw[z2k];omega)).symm,(Z.n1 q3)⟩;clear h;intro g1 h;refine z1k h U U U U λa h=>z1k h U U U U λa h=>z1k h U U U U λa h=>z3v h U λa h=>z3c h U λa h=>z1k h U U U U λa h=>z1k h U U U U λa h=>z1k h U U U U λa h=>z1k h U U U U λa h=>z1k h U U U U λa h=>z1k h U U U U λa h=>z1k h U U U U λa h=>z1k h U U U U λa h=>z1k h U U U U λa h=>z1k h U U U U λa h=>z3v h U λa h=>z6h h U U λa h=>wpQuiet_nil ?_;intro w4 q4;refine bk (h.sub (L':=[(4,_)]) (.cons U .nil)) (tn (rt (r1 results245 U ?_)));exact⟨_,rfl,by first|exact congrArg Value.bool (decide_eq_decide.2 (by rw[z2k];omega))|exact congrArg Value.bool (decide_eq_false (by rw[z2k];omega)).symm|exact congrArg Value.bool (decide_eq_true (by rw[z2k];omega)).symm,(Z.n1 q4)⟩;clear h;intro g0 h;refine z1k h U U U U λa h=>z1k h U U U U λa h=>z1k h U U U U λa h=>z1k h U U U U λa h=>z1k h U U U U λa h=>z1k h U U U U λa h=>z3v h U λa h=>z3c h U λa h=>z1k h U U U U λa h=>z1k h U U U U λa h=>z1k h U U U U λa h=>z3v h U λa h=>z3c h U λa h=>z1k h U U U U λa h=>z1k h U U U U λa h=>z1k h U U U U λa h=>z1k h U U U U λa h=>z1k h U U U U λa h=>z1k h U U U U λa h=>z1k h U U U U λa h=>z1k h U U U U λa h=>z1k h U U U U λa h=>z1k h U U U U λa h=>z3v h U λa h=>z6h h U U λa h=>wpQuiet_nil ?_;intro w5 q5;refine bk (h.sub (L':=[(4,_)]) (.cons U .nil)) (tn (rt (r1 results245 U ?_)));exact⟨_,rfl,by first|exact congrArg Value.bool (decide_eq_decide.2 (by rw[z2k];omega))|exact congrArg Value.bool (decide_eq_false (by rw[z2k];omega)).symm|exact congrArg Value.bool (decide_eq_true (by rw[z2k];omega)).symm,(Z.n1 q5)⟩
theorem x8a (i:LId)(v:Value)(ts:List TQ)(w0:World)(hs:Sl z4z w0 v ts)(hk:TabAt w0 ts)(hl:ts.length<=200)(hi:0<=i.y/\i.y<=255):Rets prog 165 #[v,.agg #[.int .u8 i.y,.int .i64 i.n]] w0 λr w'=>r=.bool (decide (z5h (z2o ts) i))/\Fr [] w0 w':=by
 obtain⟨A,c,rfl,a5,hM,hA⟩:=id hs;clear hA;unfold maxLen at hM;have a2:=z7c hk;have a7:=a2 (i.y-1).toNat;refine we [(0,.slice A ts.length c),(1,.agg #[.int .u8 i.y,.int .i64 i.n])] func165 U ntmps165 U (.c2 U U) ?_;have a3:=hs;have a1:=hk;refine sr (bx U (λg3 w1 a6 I Z z1=>(asg U (nn (sq ?_)))));replace hs:=a3.ext Z;replace hk:=a1.ext Z;intro a h;refine z7m z2y kr0 (z3d h U z9g U λa h=>z5t h U (λ_ O=>I.ext O) U na5 U λa h=>u5m h U U U λa h=>z3c h U λa h=>gSp (D:=8) h U ?_ ?_);clear h;intro g0 h;refine z1y h U U U U (z3d h U z9g U λa h=>z1y h U U U U (z5t h U (λ_ O=>I.ext O) U na5 U λa h=>z1y h U U U U (v7g h U (by rw[underlying5];rfl) underlying3 (by first|exact i6 oo|rfl) U λa h=>?_)));refine z1y h U U U U (z3c h U λa h=>z1y h U U U U (y6v h U underlying40 U λa h=>z1y h U U U U (j8r h U U U λa h=>?_)));refine z7h h U λa h=>z3c h U λa h=>gSp (D:=16) h U ?_ ?_;clear h;intro g1 h;refine z1y h U U U U (z3d h U y1g U λa h=>z1y h U U U U (z5t h U (λ_ O=>I.ext O) U na3 U λa h=>z1y h U U U U (u5m h U U U λa h=>?_)));refine z7h h U λa h=>z3c h U λa h=>gSp (D:=21) h U ?_ ?_;clear h;intro g2 h;refine z1y h U U U U (z3d h U y1g U λa h=>z1y h U U U U (z5t h U (λ_ O=>I.ext O) U na3 U λa h=>z1y h U U U U (z3c h U λa h=>?_)));refine z1y h U U U U (z3d h U z9g U λa h=>z1y h U U U U (z5t h U (λ_ O=>I.ext O) U na5 U λa h=>z1y h U U U U (u8g h U U (by first|exact IntWalk.u8_in _ oo|rfl) U λa h=>?_)));refine z1y h U U U U (y4g (tq0) h U hs U x1l oo oo U U λa4 a0 a h=>z1y h U U U U (z8f h U (λ_ O=>a0 _ (hs.ext O)) y3h U λa h=>z1y h U U U U (y6v h U underlying116 U λa h=>?_)));refine z1y h U U U U (j3k h U U U λa h=>z7h h U λa h=>z6h h U U λa h=>wpQuiet_nil ?_);intro w2 q2;refine bk (h.sub (L':=[(4,_)]) (.cons U .nil)) (tn (rt (r1 results165 U ?_)));exact⟨_,rfl,by first|exact congrArg Value.bool (decide_eq_decide.2 (by rw[z2k];omega))|exact congrArg Value.bool (decide_eq_false (by rw[z2k];omega)).symm|exact congrArg Value.bool (decide_eq_true (by rw[z2k];omega)).symm,(Z.n1 q2)⟩;clear h;intro g2 h;refine z1k h U U U U λa h=>z1k h U U U U λa h=>z1k h U U U U λa h=>z1k h U U U U λa h=>z1k h U U U U λa h=>z1k h U U U U λa h=>z1k h U U U U λa h=>z1k h U U U U λa h=>z1k h U U U U λa h=>z1k h U U U U λa h=>z3v h U λa h=>z6h h U U λa h=>wpQuiet_nil ?_;intro w3 q3;refine bk (h.sub (L':=[(4,_)]) (.cons U .nil)) (tn (rt (r1 results165 U ?_)));exact⟨_,rfl,by first|exact congrArg Value.bool (decide_eq_decide.2 (by rw[z2k];omega))|exact congrArg Value.bool (decide_eq_false (by rw[z2k];omega)).symm|exact congrArg Value.bool (decide_eq_true (by rw[z2k];omega)).symm,(Z.n1 q3)⟩;clear h;intro g1 h;refine z1k h U U U U λa h=>z1k h U U U U λa h=>z1k h U U U U λa h=>z3v h U λa h=>z3c h U λa h=>z1k h U U U U λa h=>z1k h U U U U λa h=>z1k h U U U U λa h=>z1k h U U U U λa h=>z1k h U U U U λa h=>z1k h U U U U λa h=>z1k h U U U U λa h=>z1k h U U U U λa h=>z1k h U U U U λa h=>z1k h U U U U λa h=>z3v h U λa h=>z6h h U U λa h=>wpQuiet_nil ?_;intro w4 q4;refine bk (h.sub (L':=[(4,_)]) (.cons U .nil)) (tn (rt (r1 results165 U ?_)));exact⟨_,rfl,by first|exact congrArg Value.bool (decide_eq_decide.2 (by rw[z2k];omega))|exact congrArg Value.bool (decide_eq_false (by rw[z2k];omega)).symm|exact congrArg Value.bool (decide_eq_true (by rw[z2k];omega)).symm,(Z.n1 q4)⟩;clear h;intro g0 h;refine z1k h U U U U λa h=>z1k h U U U U λa h=>z1k h U U U U λa h=>z1k h U U U U λa h=>z1k h U U U U λa h=>z1k h U U U U λa h=>z3v h U λa h=>z3c h U λa h=>z1k h U U U U λa h=>z1k h U U U U λa h=>z1k h U U U U λa h=>z3v h U λa h=>z3c h U λa h=>z1k h U U U U λa h=>z1k h U U U U λa h=>z1k h U U U U λa h=>z1k h U U U U λa h=>z1k h U U U U λa h=>z1k h U U U U λa h=>z1k h U U U U λa h=>z1k h U U U U λa h=>z1k h U U U U λa h=>z1k h U U U U λa h=>z3v h U λa h=>z6h h U U λa h=>wpQuiet_nil ?_;intro w5 q5;refine bk (h.sub (L':=[(4,_)]) (.cons U .nil)) (tn (rt (r1 results165 U ?_)));exact⟨_,rfl,by first|exact congrArg Value.bool (decide_eq_decide.2 (by rw[z2k];omega))|exact congrArg Value.bool (decide_eq_false (by rw[z2k];omega)).symm|exact congrArg Value.bool (decide_eq_true (by rw[z2k];omega)).symm,(Z.n1 q5)⟩
theorem u3k (u:Value)(A:Option Addr)(m c:Nat)(w0:World)(O:m=0):Rets prog 214 #[u,.slice A m c] w0 λr w'=>r=u/\Fr [] w0 w':=by
 refine we [(0,u),(1,.slice A m c)] func214 U ntmps214 U (.c2 U U) (sr (asg U (nn (sq (sr (mv U (lnS U underlying109 (mv U (nn (bl (lpK (ι:=Nat) [(0,_),(8,_),(9,_)] (λk=>[(10,.int .i64 (k:Int))]) (λk w'=>Fr [] w0 w'/\k<=m) (λk=>m-k) 0 (.c4 U U U U) ⟨Fr.refl _ _,Nat.zero_le _⟩ ?_)))))))))));rintro k w1 ⟨D,I⟩;refine kpC [(0,_),(8,_),(9,_),(10,_)] (.c4 U U U U) (sr (lt' U ?_));rw[show decide ((k:Int)<(m:Int))=false from decide_eq_false oo];exact nn (sq (cf U (ex (te (te (xh (tn (sr (mv U (asg U (kpL [(4,_)] (.cons U .nil) (nn (rt (r1 results214 U ⟨_,rfl,rfl,D⟩))))))))))))))
theorem u3d (base:Nat)(u v:Value)(l:List Pa)(wS w0:World)(I:Lw.Own z2f 114 base w0 u [])(Z:Sl z2f wS v l)(O:Sl z2f w0 v l)(hb:wS.heap.size<=base)(D:base<=w0.heap.size)(hn:l.length<=100000):Rets prog 214 #[u,v] w0 λr w'=>∃S,Lw.Own z2f 114 base w' r (z5g [] l)/\(∀k∈S,base<=k)/\Fr S w0 w':=by
 by_cases e:l=[];subst e;obtain⟨A,c,rfl,_⟩:=O.form;refine Rets.mono (u3k u A _ c w0 U) ?_;rintro r w' ⟨rfl,hf⟩;exact⟨[],I.ext hf,sp0,hf⟩;exact u1v base u v [] l w0 I O (λk hk=>by have:=Z.blk e k hk;omega) D (by simpa using hn)
theorem v5i (v:Value)(l:List Pa)(w0:World)(O:Sl z2f w0 v l)(hl:l.length<=50000):Rets prog 246 #[v] w0 λr w'=>∃A,r=.slice A (z5g [] l).length (z5g [] l).length/\Fr [] w0 w':=by
 obtain⟨A,c,rfl,a2,hM,hA⟩:=id O;clear hA;unfold maxLen at hM;refine we [(0,.slice A l.length c)] func246 U ntmps246 U (.cons U .nil) ?_;have I:=O;refine sr (asg U (nn (sr (mv U (lnS U underlying109 (z1g (m:=0) (c:=l.length) (pa0) U z5a x2b U (λg5 w1 a3 ho q1 z1=>(mv U ?_))))))));replace O:=I.ext q1;refine cl (ev2 U) (mkC func214) (u3d g5 _ _ l w0 _ (by simpa using ho) I O oo oo oo) U ?_;rintro V7 w2 ⟨S7,D,Z,q2⟩;have a0:=z8e l [];obtain⟨A7,c7,rfl,a1⟩:=D.sl.form;refine cl (ev1 U) (mkC func215) (y0p _ _ _ D.sl (by simp only[List.length_nil]at a0;omega)) U ?_;rintro _ w3 ⟨A8,rfl,a5,q3⟩;exact asg U (kpL [(2,_)] (.cons U .nil) (nn (rt (r1 results246 U ⟨_,rfl,A8,rfl,((q1.step q2 (λk hk a4=>absurd (Z k hk) oo)).n1 q3)⟩))))
theorem y5p (v:Value)(ts:List TQ)(w0:World)(I:Sl z4z w0 v ts)(hk:TabAt w0 ts)(hN:z4r (z2o ts)<=100000):Rets prog 178 #[v] w0 λr w'=>r=.int .i64 (z4r (z2o ts):Int)/\Fr [] w0 w':=by
 obtain⟨A,c,rfl,a3,hM,hA⟩:=id I;clear hA;unfold maxLen at hM;have O:=z7c hk;refine we [(0,.slice A ts.length c)] func178 U ntmps178 U (.cons U .nil) ?_;have Z:=I;have a4:=hk;refine sr (asg U (nn (sr (asg U (nn (sq (sr (mv U (lnS U underlying40 (mv U (nn (bl (lpK (ι:=Nat) [(6,_),(7,_)] (λi=>[(8,.int .i64 (i:Int)),(3,.int .i64 (u8s ts i:Int))]) (λi w'=>Fr [] w0 w'/\i<=ts.length) (λi=>ts.length-i) 0 (.c4 U U U U) ⟨Fr.refl _ _,Nat.zero_le _⟩ ?_)))))))))))));rintro i w1 ⟨q1,hi⟩;refine kpC [(6,_),(7,_),(8,_),(3,_)] (.c4 U U U U) (sr (lt' U (nn (sq (cd U (λc0=>?_) (λc0=>?_))))));have a5:=O i;have a1:=v9j (ts:=ts) (i:=i) oo;have a2:=j3f ts (i+1);refine sk (tn (sq (bl (sr ?_))));replace I:=Z.ext q1;refine z0x (tq0) U I U x1l z1m (λa0 D=>?_);refine z1a U (D _ I) y3h (asg U (nn (rg (mv U (mv U (lnS U underlying116 (z0q U (wi6 oo) (asg U (nl (bn' (tn (rg (z0q U (wi6 oo) (mv U (nl ?_)))))))))))))));exact lpE (i+1) (.c4 U U U (congrArg (λz=>some (Value.int .i64 z)) oo)) ⟨q1,oo⟩ oo;obtain rfl:i=ts.length:=by omega
 exact ex (te (te (xh (tn (sr (mv U (asg U (kpL [(2,_)] (.cons U .nil) (nn (rt (r1 results178 U ⟨_,rfl,by rw[u3b],q1⟩)))))))))))
theorem z6q:ElemOf prog 42 54 z1j 16:=ElemOf.mk' (z:=(.agg #[.int .u8 0,.int .i64 0])) underlying42 kr0 U
theorem u1s:z0y prog 111 0 0:=λ_ _=>kr0
theorem z7y:z0y prog 111 2 2:=λ_ _=>kr0
theorem y0d:z0y prog 111 3 3:=λ_ _=>kr0
theorem z8o:z2a prog 42:=λ_=>kr0
theorem y3o:z1r prog 54 2:=λ_=>kr0
theorem y6l (w:World):(zeroValue 54).run prog w=.ok (.agg #[(.int .u8 0),(.int .i64 0)]) w:=kr0
theorem u3s (q:LpQ)(v:Value)(ts:List TQ)(w0:World)(hs:Sl z4z w0 v ts)(hk:TabAt w0 ts)(hl:ts.length=6)(Z:LpAt w0 q)(hv:y7q (z2o ts) q.p):Rets prog 234 #[v,.agg #[.int .u8 q.b,.bool q.nw,.slice q.th.1 q.th.2.1 q.th.2.2,.slice q.pa.1 q.pa.2.1 q.pa.2.2]] w0 λr w'=>r=.bool true/\Fr [] w0 w':=by
 obtain⟨A,c,rfl,b7,hM,hA⟩:=id hs;clear hA;unfold maxLen at hM;have d9:=z7c hk;have d1:=z2g Z.1;have d3:=z2g Z.2;have hb:q.b=0\/q.b=1:=hv.1;have d5:q.ths.length<=4:=hv.2.1.1;have d6:q.pas.length<=4096:=hv.2.1.2;have b3:∀p∈q.pas,z6v p.d:=hv.2.2.2.1;have d7:(z5g [] q.pas).length=q.pas.length:=hv.2.2.2.2;have a9:∀i,i<q.ths.length->z5h (z2o ts) (q.ths.getD i id0):=λi hi=>hv.2.2.1 _ (List.mem_append_left _ (z1b hi));have a8:∀i,i<q.pas.length->z5h (z2o ts) (q.pas.getD i pa0).id:=λi hi=>hv.2.2.1 _ (List.mem_append_right _ (List.mem_map_of_mem (z1b hi)));have d4:=y1n ts;refine we [(0,.slice A ts.length c),(1,.agg #[.int .u8 q.b,.bool q.nw,.slice q.th.1 q.th.2.1 q.th.2.2,.slice q.pa.1 q.pa.2.1 q.pa.2.2])] func234 U ntmps234 U (.c2 U U) ?_;have b0:=hs;have a7:=hk;have a1:=Z;refine sr (bx U (λg3 w1 b8 D q1 z1=>(asg U (nn (sq (sq (rbo (r:=16) (L':=[(0,_),(3,_)]) (((q.b≠0)/\(q.b≠1))) (.c2 U U) ?_ ?_)))))));refine fad U u1s (z0i U D U v0a (ne' U (mv U (gs 12 U (λg0=>?_) (λg0=>?_)))));exact gY U (fad U u1s (gY U (z0i U D U v0a (gY U (ne' U (pkt U (rbe U (.c2 U U))))))));exact gN U (gN U (gN U (pkf U (rbe U (.c2 U U)))));refine tn (cd U (λc0=>?_) (λc0=>?_));refine sr (asg U (nn (rt (tr (r1 results234 U ?_)))));exfalso;omega;refine sk (tn (sq (sq (rbo (r:=26) (L':=[(0,_),(3,_)]) (((4<(q.th.2.1:Int))\/(4096<(q.pa.2.1:Int)))) (.c2 U U) ?_ ?_))));refine fad U z7y (z0i U D U z8o (lnS U underlying42 (gt' U (mv U (gs 21 U (λg1=>?_) (λg1=>?_))))));exact gN U (gN U (gN U (gN U (pkt U (rbe U (.c2 U U))))));exact gY U (fad U y0d (gY U (z0i U D U y0y (gY U (lnS U underlying109 (gY U (gt' U (pkf U (rbe U (.c2 U U))))))))));refine tn (cd U (λc1=>?_) (λc1=>?_));refine sr (asg U (nn (rt (tr (r1 results234 U ?_)))));exfalso;omega;refine sk (tn (sq (sr (fad U z7y (z0i U D U z8o (lnS U underlying42 (mv U (nn (bl (lpK (ι:=Nat) [(0,_),(3,_),(28,_),(29,_)] (λi=>[(30,.int .i64 (i:Int))]) (λi w'=>Fr [] w1 w'/\i<=q.ths.length) (λi=>q.ths.length-i) 0 (.c5 U U U U U) ⟨Fr.refl _ _,Nat.zero_le _⟩ ?_))))))))));rintro i w2 ⟨q2,hi⟩;have z2:=q2.size;refine kpC [(0,_),(3,_),(28,_),(29,_),(30,_)] (.c5 U U U U U) (sr (lt' U (nn (sq (cd U (λc2=>?_) (λc2=>?_))))));refine sk (tn (sq (bl (sr ?_))));replace Z:=a1.ext (q1.n1 q2);refine z0x (id0) U Z.1 U z6q z1m (λb4 a5=>?_);refine z1t U (a5 _ Z.1) z3x (al y6l U (λg6 w3 b9 a2 q3 z3=>(z0k (vs:=[_,_]) U a2 y3o (λw4 a2 q4 z4=>(nn (sr (mv U (z0m U a2 z3x ?_))))))));replace hs:=b0.ext (q1.z3 q2 q3 q4);replace hk:=a7.ext (q1.z3 q2 q3 q4);refine cl (ev2 U) (mkC func245) (v9d (q.ths.getD i id0) _ _ _ hs hk oo (by have h:=a9 i oo;have:=h.1;have:=h.2.1;omega)) U ?_;rintro _ w5 ⟨rfl,q5⟩;have z5:=q5.size;refine nt' U (nn (cd U (λc3=>?_) (λc3=>?_)));exact sr (asg U (kpL [(4,_)] (.cons U .nil) (nn (rt (rb (tr (tr (rb (tr (r1 results234 U (absurd (a9 i oo) (by simpa using c3))))))))))));exact sk (bn' (tn (rg (z0q U (wi6 oo) (mv U (nl (lpE (i+1) (.c5 U U U U U) ⟨(q2.z3 q3 q4 q5),oo⟩ oo)))))));obtain rfl:i=q.ths.length:=by omega
 refine ex (te (te (xh (tn (sq (sr (fad U y0d ?_)))))));replace D:=D.ext q2;refine z0i U D U y0y (lnS U underlying109 (mv U (nn (bl (lpK (ι:=Nat) [(0,_),(3,_),(40,_),(41,_)] (λi=>[(42,.int .i64 (i:Int))]) (λi w'=>Fr [] w2 w'/\i<=q.pas.length) (λi=>q.pas.length-i) 0 (.c5 U U U U U) ⟨Fr.refl _ _,Nat.zero_le _⟩ ?_)))));rintro i w6 ⟨q6,hi⟩;have z6:=q6.size;refine kpC [(0,_),(3,_),(40,_),(41,_),(42,_)] (.c5 U U U U U) (sr (lt' U (nn (sq (cd U (λc4=>?_) (λc4=>?_))))));have e0:(q.pas.getD i pa0).d=0\/(q.pas.getD i pa0).d=1:=b3 _ (z1b oo);have d0:=a8 i oo;refine sk (tn (sq (bl (sr ?_))));replace Z:=a1.ext (q1.n2 q2 q6);refine z0x (pa0) U Z.2 U z5a z1m (λb5 a6=>?_);refine z1t U (a6 _ Z.2) z9m (al x2b U (λg8 w7 c9 O q7 z7=>(z0k (vs:=[_,_,_,_]) U O x3v (λw8 O q8 z8=>(nn (sq (u2n (r:=60) (L':=[(0,_),(3,_),(40,_),(41,_),(42,_)]) (((¬z5h (z2o ts) (q.pas.getD i pa0).id)\/(((q.pas.getD i pa0).d≠0)/\((q.pas.getD i pa0).d≠1)))) (.c5 U U U U U) ?_ ?_)))))));refine mv U (fad U x7r (z2r (vs:=[_,_]) U O z3x U ?_));replace hs:=b0.ext (q1.z4 q2 q6 q7 q8);replace hk:=a7.ext (q1.z4 q2 q6 q7 q8);refine cl (ev2 U) (mkC func245) (v9d (q.pas.getD i pa0).id _ _ _ hs hk oo (by have h:=a8 i oo;have:=h.1;have:=h.2.1;omega)) U ?_;rintro _ w9 ⟨rfl,q9⟩;have z9:=q9.size;refine nt' U (mv U (gs 51 U (λg2=>?_) (λg2=>?_)));exact gN U (gN U (gN U (gN U (gS U (gS U (gS U (gN U (pkt U (y5c U (.c5 U U U U U) q9)))))))));refine gY U (fad U z9d (gY U ?_));replace O:=O.ext q9;refine z0i U O U x3n (gY U (ne' U (gY U (mv U (gs 55 U (λg3=>?_) (λg3=>?_))))));exact gY U (fad U z9d (gY U (z0i U O U x3n (gY U (ne' U (gY U (pkt U (pkf U (y5c U (.c5 U U U U U) q9)))))))));exact gN U (gN U (gN U (gY U (pkf U (pkf U (y5c U (.c5 U U U U U) q9))))));intro e1 b1;have e3:=b1.size;refine tn (cd U (λc5=>?_) (λc5=>?_));refine sr (asg U (kpL [(4,_)] (.cons U .nil) (nn (rt (rb (tr (tr (rb (tr (r1 results234 U ?_))))))))));exact(by exfalso;first|omega|(simp_all;done)|(simp_all;omega));exact sk (bn' (tn (rg (z0q U (wi6 oo) (mv U (nl (lpE (i+1) (.c5 U U U U U) ⟨(q6.z3 q7 q8 b1),oo⟩ oo)))))));obtain rfl:i=q.pas.length:=by omega
 refine ex (te (te (xh (tn (sq ?_)))));replace Z:=a1.ext (q1.n2 q2 q6);intro a h;refine z0h none (λwb w'=>Fr [] wb w') z2y ?_;intro b2 a0;have e4:=a0.size;replace Z:=Z.ext a0;replace D:=D.ext (q6.n1 a0);have hC:Fr [] b2 b2:=Fr.refl _ _;have a4:=Z;have I:=D;refine z0c 0 h U y0d U λa h=>z0j 1 h U (λ_ hw=>I.ext hw) U y0y U λa h=>z0c 4 h U y0d U λa h=>z0j 5 h U (λ_ hw=>I.ext hw) U y0y U λa h=>z7q 6 hC h wn U underlying109 U λa h=>z0e 2 U (z0n h (z0a U z0g) (mkC func246) (v5i _ q.pas _ Z.2 oo) ?_);rintro _ e2 ⟨b6,rfl,a3⟩ a h;have e5:=a3.size;replace hC:=hC.next a3;refine z0b (z7q 3 hC h wn U underlying109 U λa h=>v4y 7 hC h wn U U U U λa h=>z0e 8 U (z0s h U λa h=>?_));refine z0b (z0r ?_);clear hC a4 I;refine bk (h.sub (L':=[(4,_)]) (.cons U .nil)) (tn (rt (r1 results234 U ?_)));exact⟨_,rfl,congrArg Value.bool (decide_eq_true oo),(q1.n4 q2 q6 a0 a3)⟩
theorem x5j:z4i prog 111 4:=⟨λ_=>kr0,λ_=>kr0⟩
theorem y6o:ElemOf prog 116 111 z7k 56:=ElemOf.mk' (z:=(.agg #[.int .u8 0,.bool false,.slice none 0 0,.slice none 0 0])) underlying116 kr0 U
theorem j3u:z0y prog 111 1 1:=λ_ _=>kr0
theorem v4u:z1r prog 111 4:=λ_=>kr0
theorem x8f (w:World):(zeroValue 111).run prog w=.ok (.agg #[(.int .u8 0),(.bool false),(.slice none 0 0),(.slice none 0 0)]) w:=kr0
theorem u0i (v:Value)(ts:List TQ)(w0:World)(hs:Sl z4z w0 v ts)(I:TabAt w0 ts)(hl:ts.length=6)(hv:TabOk (z2o ts)):Rets prog 205 #[v] w0 λr w'=>r=.int .i64 0/\Fr [] w0 w':=by
 obtain⟨A,c,rfl,a8,hM,hA⟩:=id hs;clear hA;unfold maxLen at hM;have a5:=z7c I;refine we [(0,.slice A ts.length c)] func205 U ntmps205 U (.cons U .nil) ?_;have a2:=hs;have Z:=I;refine sr (asg U (nn (sq (sr (mv U (lnS U underlying40 (mv U (nn (bl (lpK (ι:=Nat) [(0,_),(7,_),(8,_)] (λy=>[(9,.int .i64 (y:Int))]) (λy w'=>Fr [] w0 w'/\y<=ts.length) (λy=>ts.length-y) 0 (.c4 U U U U) ⟨Fr.refl _ _,Nat.zero_le _⟩ ?_))))))))));rintro y w1 ⟨O,hy⟩;have z1:=O.size;refine kpC [(0,_),(7,_),(8,_),(9,_)] (.c4 U U U U) (sr (lt' U (nn (sq (cd U (λc0=>?_) (λc0=>?_))))));replace I:=Z.ext O;have b0:=a5 y;have a3:=(I _ (z1b (d:=tq0) (i:=y) oo)).1.len_le;unfold maxLen at a3;refine sk (tn (sq (bl (sr ?_))));replace hs:=a2.ext O;refine z0x (tq0) U hs U x1l z1m (λa6 a0=>?_);refine z1a U (a0 _ hs) y3h (asg U (nn (sr (mv U (lnS U underlying116 (mv U (nn (bl (lpK (ι:=Nat) [(0,_),(7,_),(8,_),(9,_),(13,_),(14,_)] (λn=>[(15,.int .i64 (n:Int))]) (λn w'=>Fr [] w1 w'/\n<=(ts.getD y tq0).2.length) (λn=>(ts.getD y tq0).2.length-n) 0 (.c7 U U U U U U U) ⟨Fr.refl _ _,Nat.zero_le _⟩ ?_)))))))));rintro n w2 ⟨q2,hn⟩;have z2:=q2.size;refine kpC [(0,_),(7,_),(8,_),(9,_),(13,_),(14,_),(15,_)] (.c7 U U U U U U U) (sr (lt' U (nn (sq (cd U (λc1=>?_) (λc1=>?_))))));have a4:n=0->((ts.getD y tq0).2.getD n lq0).nw=true:=λe=>by
  have h:=(hv.rts y oo n (by rw[z4a];omega)).2 e;rw[y3q]at h;exact h
 refine sk (tn (sq (bl (sr (mv U ?_)))));replace I:=Z.ext (O.n1 q2);refine z0x (lq0) U (I _ (z1b (d:=tq0) (i:=y) oo)).1 U y6o z1m (λa7 a1=>?_);refine z1t U (a1 _ (I _ (z1b (d:=tq0) (i:=y) oo)).1) x5j (al x8f U (λg6 w3 a9 D q3 z3=>?_));refine asg U (z0k (vs:=[_,_,_,_]) U D v4u (λw4 D q4 z4=>?_) (h1:=(by first|(simp[Value.oneCell',S];done)|exact z7k.one ((ts.getD y tq0).2.getD n lq0))));refine nn (sq (u2n (r:=32) (L':=[(0,_),(7,_),(8,_),(9,_),(13,_),(14,_),(15,_)]) (((¬(0:Int)=0)\/(((n:Int)=0)/\(¬((ts.getD y tq0).2.getD n lq0).nw=true)))) (.c7 U U U U U U U) ?_ ?_));refine mv U (z0m U D x5j ?_);replace hs:=a2.ext (O.z3 q2 q3 q4);replace I:=Z.ext (O.z3 q2 q3 q4);refine cl (ev2 U) (mkC func234) (u3s ((ts.getD y tq0).2.getD n lq0) _ _ _ hs I hl (z9k I oo oo) (by have h:=(hv.rts y oo n (by rw[z4a];omega)).1;rw[y3q]at h;exact h)) U ?_;rintro _ w5 ⟨rfl,q5⟩;have z5:=q5.size;refine nt' U (mv U (gs 24 U (λg0=>?_) (λg0=>?_)));exact gN U (gN U (gN U (gS U (gS U (gS U (gN U (pkt U (y5c U (.c7 U U U U U U U) q5))))))));refine gY U (mv U (gY U (eq' U (gY U (mv U (gs 27 U (λg1=>?_) (λg1=>?_)))))));refine gY U (fad U j3u (gY U ?_));replace D:=D.ext q5;exact z0i U D U na4 (gY U (nt' U (gY U (pkt U (pkf U (y5c U (.c7 U U U U U U U) q5))))));exact gN U (gN U (gN U (gY U (pkf U (pkf U (y5c U (.c7 U U U U U U U) q5))))));intro w6 q6;have z6:=q6.size;refine tn (cd U (λc2=>?_) (λc2=>?_));refine sr (asg U (kpL [(2,_)] (.cons U .nil) (nn (rt (rb (tr (tr (rb (rb (tr (tr (rb (tr (r1 results205 U ?_))))))))))))));rcases c2 with h|h
 exact absurd U h;exact absurd (a4 oo) h.2;exact sk (bn' (tn (rg (z0q U (wi6 oo) (mv U (nl (lpE (n+1) (.c7 U U U U U U U) ⟨(q2.z3 q3 q4 q6),oo⟩ oo)))))));obtain rfl:n=(ts.getD y tq0).2.length:=by omega
 exact ex (te (te (xh (bn' (tn (rg (z0q U (wi6 oo) (mv U (nl (lpE (y+1) (.c4 U U U U) ⟨(O.n1 q2),oo⟩ oo))))))))));obtain rfl:y=ts.length:=by omega
 exact ex (te (te (xh (tn (sr (asg U (nn (rt (r1 results205 U ⟨_,rfl,rfl,O⟩)))))))))
theorem k4k (p q:LId)(w:World):(Op.equal 54 (idV p) (idV q)).run prog w=.ok (decide (p=q)) w:=by
 have h:=(k3i p q (.tmp 0) (.tmp 0) w).2.2.1;have e:(binOp .eql 54 (idV p) (idV q)).run prog w=((Op.equal 54 (idV p) (idV q)).run prog w).andThen λb w'=>.ok (.bool b) w':=by
  have D:binOp .eql 54 (idV p) (idV q)=(Op.equal 54 (idV p) (idV q) >>= λb=>pure (.bool b)):=by
   unfold binOp idV;simp only
  rw[D];simp only[Sem.run_bind,Sem.run_pure]
 rw[e]at h;generalize (Op.equal 54 (idV p) (idV q)).run prog w=r at h;cases r with
 | ok b w'=>simp only[Result.andThen]at h;cases h;rfl
 | halt x w'=>simp only[Result.andThen]at h;cases h
theorem z6t:KeyLaw prog 54 idV:=KeyLaw.asking underlying54 (λ_ _=>rfl) (λ_ _ _=>kr0) k4k (λ_=>by simp[idV,Instr.sameBits])
theorem zvI (w:World):(zeroValue 3).run prog w=.ok (.int .i64 0) w:=kr0
theorem j5g (v:Value)(ts:List TQ)(w0:World)(hs:Sl z4z w0 v ts)(Z:TabAt w0 ts)(hl:ts.length=6)(hv:TabV (z2o ts)):Rets prog 206 #[v] w0 λr w'=>r=.int .i64 0/\Fr [] w0 w':=by
 obtain⟨A,c,rfl,d6,hM,hA⟩:=id hs;clear hA;unfold maxLen at hM;have b5:=z7c Z;refine we [(0,.slice A ts.length c)] func206 U ntmps206 U (.cons U .nil) ?_;have b6:=hs;have a3:=Z;refine sr (asg U (nn (sr (y9c idV (.int .i64 0) U (λO w1 d1 D q1 z1=>(asg U (nn (sq (sr (mv U (lnS U underlying40 (mv U (nn (bl (lpK (ι:=Nat) [(3,_),(11,_),(12,_)] (λy=>[(13,.int .i64 (y:Int))]) (λy w'=>Fr [O] w1 w'/\y<=ts.length/\MapZ idV w' O (.int .i64 0) (x2q (y0x (z2o ts) y 0))) (λy=>ts.length-y) 0 (.c4 U U U U) ⟨Fr.refl _ _,⟨Nat.zero_le _,D⟩⟩ ?_)))))))))))))));rintro y w2 ⟨q2,⟨hy,D⟩⟩;have z2:=q2.size;refine kpC [(3,_),(11,_),(12,_),(13,_)] (.c4 U U U U) (sr (lt' U (nn (sq (cd U (λc0=>?_) (λc0=>?_))))));replace Z:=a3.ext (q1.z1 q2);have e1:=b5 y;have b1:=(Z _ (z1b (d:=tq0) (i:=y) oo)).1.len_le;unfold maxLen at b1;refine sk (tn (sq (bl (sr ?_))));replace hs:=b6.ext (q1.z1 q2);refine z0x (tq0) U hs U x1l z1m (λb9 a8=>?_);refine z1a U (a8 _ hs) y3h (asg U (nn (sr (mv U (lnS U underlying116 (mv U (nn (bl (lpK (ι:=Nat) [(3,_),(11,_),(12,_),(13,_),(17,_),(18,_)] (λn=>[(19,.int .i64 (n:Int))]) (λn w'=>Fr [O] w2 w'/\n<=(ts.getD y tq0).2.length/\MapZ idV w' O (.int .i64 0) (x2q (y0x (z2o ts) y n))) (λn=>(ts.getD y tq0).2.length-n) 0 (.c7 U U U U U U U) ⟨Fr.refl _ _,⟨Nat.zero_le _,D⟩⟩ ?_)))))))));rintro n w3 ⟨q3,⟨hn,D⟩⟩;have z3:=q3.size;refine kpC [(3,_),(11,_),(12,_),(13,_),(17,_),(18,_),(19,_)] (.c7 U U U U U U U) (sr (lt' U (nn (sq (cd U (λc1=>?_) (λc1=>?_))))));replace Z:=a3.ext (q1.z2 q2 q3);have e0:=z2g (z9k Z (y:=y) (n:=n) oo oo).1;have b2:=(z9k Z (y:=y) (n:=n) oo oo).1.len_le;unfold maxLen at b2;refine sk (tn (sq (bl (sr (z0x (lq0) U (Z _ (z1b (d:=tq0) (i:=y) oo)).1 U y6o z1m (λc9 a9=>?_))))));refine z1t U (a9 _ (Z _ (z1b (d:=tq0) (i:=y) oo)).1) x5j (al x8f U (λg7 w4 d7 a2 q4 z4=>?_));refine z0k (vs:=[_,_,_,_]) U a2 v4u (λw5 a2 q5 z5=>?_) (h1:=(by first|(simp[Value.oneCell',S];done)|exact z7k.one ((ts.getD y tq0).2.getD n lq0)));refine nn (sr (fad U z7y (z0i U a2 U z8o (lnS U underlying42 (mv U (nn (bl ?_)))))));replace D:=(D.ext q4).fr q5 (by intro k Z hb;simp at Z hb;omega);refine lpK (ι:=Nat) [(3,_),(11,_),(12,_),(13,_),(17,_),(18,_),(19,_),(24,_),(25,_)] (λk=>[(26,.int .i64 (k:Int))]) (λk w'=>Fr [O] w5 w'/\k<=((ts.getD y tq0).2.getD n lq0).ths.length/\MapZ idV w' O (.int .i64 0) (x2q (y0x (z2o ts) y n++((ts.getD y tq0).2.getD n lq0).ths.take k))) (λk=>((ts.getD y tq0).2.getD n lq0).ths.length-k) 0 (.d8 U U U U U U U U (.c2 U U)) ⟨Fr.refl _ _,⟨Nat.zero_le _,by rw[List.take_zero,List.append_nil];exact D⟩⟩ ?_;rintro k w6 ⟨q6,⟨Z,D⟩⟩;have z6:=q6.size;refine kpC [(3,_),(11,_),(12,_),(13,_),(17,_),(18,_),(19,_),(24,_),(25,_),(26,_)] (.d8 U U U U U U U U (.c2 U U)) (sr (lt' U (nn (sq (cd U (λc2=>?_) (λc2=>?_))))));have b3:=v1h (k:=k) hv.thr (y:=y) (n:=n) oo oo oo;have d5:((y0x (z2o ts) y n++((ts.getD y tq0).2.getD n lq0).ths.take k)).count (((ts.getD y tq0).2.getD n lq0).ths.getD k id0)=0:=by
  have h:=b3;rw[List.count_append,List.count_singleton,if_pos sp0]at h;omega
 refine sk (tn (sq (bl (sr ?_))));replace Z:=a3.ext (q1.z5 q2 q3 q4 q5 q6);refine z0x (id0) U (z9k Z (y:=y) (n:=n) oo oo).1 U z6q z1m (λd0 b0=>?_);refine z1t U (b0 _ (z9k Z (y:=y) (n:=n) oo oo).1) z3x (al y6l U (λg9 w7 d9 I q7 z7=>?_));refine z0k (vs:=[_,_]) U I y3o (λw8 I q8 z8=>?_) (h1:=(by first|(simp[Value.oneCell',S];done)|exact z7k.one ((ts.getD y tq0).2.getD n lq0)));refine nn (sq ?_);replace D:=(D.ext q7).fr q8 (by intro k Z hb;simp at Z hb;omega);intro a h;refine z0h none (λwb w'=>Fr [O] wb w') z2y ?_;intro w9 q9;have z9:=q9.size;replace D:=D.ext q9;replace I:=I.ext q9;have hC:Fr [O] w9 w9:=Fr.refl _ _;have a1:=D;have a0:=I;refine z0d 0 h U λa h=>z0z 1 h U (λ_ hw=>a0.fr hw (by intro e;simp at e;omega)) z3x U λa h=>z2n 2 4 kr0 U ?_ ?_;refine z8m (V:=idV) (z:=(.int .i64 0)) (k:=(((ts.getD y tq0).2.getD n lq0).ths.getD k id0)) (v:=.int .i64 ((((y0x (z2o ts) y n++((ts.getD y tq0).2.getD n lq0).ths.take k)).count (((ts.getD y tq0).2.getD n lq0).ths.getD k id0):Nat):Int)) h U U D z6t underlying248 zvI U U λa h=>z0b (z4d 3 h U (by first|exact i6 oo|rfl) U λa h=>z0e 4 U ?_);have b4:=D.ne_blk I;refine z7n (V:=idV) (z:=(.int .i64 0)) (k:=(((ts.getD y tq0).2.getD n lq0).ths.getD k id0)) h U U D z6t underlying248 zvI U λe2 d3 he a4 e4 a h=>?_;replace D:=he.map;replace I:=I.fr a4 (by intro e;simp at e;omega);replace hC:=hC.step a4 sp0;refine z0b (z0p 5 h U λa h=>z0e 6 U (z5y (V:=idV) (z:=(.int .i64 0)) (k:=(((ts.getD y tq0).2.getD n lq0).ths.getD k id0)) h U U U he ?_));clear h a he D;intro b7 D a5 e5 a h;replace D:MapZ idV b7 O (.int .i64 0) (x2q ((y0x (z2o ts) y n++((ts.getD y tq0).2.getD n lq0).ths.take k)++[(((ts.getD y tq0).2.getD n lq0).ths.getD k id0)])):=by rw[<-x2u];exact D
 replace I:=I.fr a5 (by intro e;simp at e;omega);replace hC:=hC.step a5 sp0;refine z0b (z0r ?_);clear hC a1 a0;refine bk (h.sub (L':=[(3,_),(9,_),(11,_),(12,_),(13,_),(17,_),(18,_),(19,_),(24,_),(25,_),(26,_)]) (.d8 U U U U U U U U (.c3 U U U))) (tn (sr (mv U (z0m U I z3x (y6x (V:=idV) (z:=(.int .i64 0)) (k:=(((ts.getD y tq0).2.getD n lq0).ths.getD k id0)) (v:=.int .i64 ((((y0x (z2o ts) y n++((ts.getD y tq0).2.getD n lq0).ths.take k)++[(((ts.getD y tq0).2.getD n lq0).ths.getD k id0)]).count (((ts.getD y tq0).2.getD n lq0).ths.getD k id0):Nat):Int)) U U D z6t underlying248 zvI U U (gt' U (nn (cd U (λc3=>?_) (λc3=>?_)))))))));refine sr (asg U (kpL [(2,_)] (.cons U .nil) (nn (rt (rb (tr (tr (rb (rb (tr (tr (rb (rb (tr (tr (rb (tr (r1 results206 U ?_))))))))))))))))));exfalso;omega;exact sk (bn' (tn (rg (z0q U (wi6 oo) (mv U (nl (lpE (k+1) (.d8 U U U U U U U U (.c2 U U)) ⟨((Fr.refl [O] _).z6 q6 q7 q8 q9 a4 a5),⟨oo,by rw[z9r id0 oo,<-List.append_assoc];exact D⟩⟩ oo)))))));have b4:=D.ne_blk I;refine z7n (V:=idV) (z:=(.int .i64 0)) (k:=(((ts.getD y tq0).2.getD n lq0).ths.getD k id0)) h U U D z6t underlying248 zvI U λe3 d4 he a6 e6 a h=>?_;replace D:=he.map;replace I:=I.fr a6 (by intro e;simp at e;omega);replace hC:=hC.step a6 sp0;refine z0b (z0p 5 h U λa h=>z0e 2 U (z8m (V:=idV) (z:=(.int .i64 0)) (k:=(((ts.getD y tq0).2.getD n lq0).ths.getD k id0)) (v:=.int .i64 ((((y0x (z2o ts) y n++((ts.getD y tq0).2.getD n lq0).ths.take k)).count (((ts.getD y tq0).2.getD n lq0).ths.getD k id0):Nat):Int)) h U U D z6t underlying248 zvI U U λa h=>?_));refine z0b (z4d 3 h U (by first|exact i6 oo|rfl) U λa h=>z0e 6 U (z5y (V:=idV) (z:=(.int .i64 0)) (k:=(((ts.getD y tq0).2.getD n lq0).ths.getD k id0)) h U U U he ?_));clear h a he D;intro b8 D a7 e7 a h;replace D:MapZ idV b8 O (.int .i64 0) (x2q ((y0x (z2o ts) y n++((ts.getD y tq0).2.getD n lq0).ths.take k)++[(((ts.getD y tq0).2.getD n lq0).ths.getD k id0)])):=by rw[<-x2u];exact D
 replace I:=I.fr a7 (by intro e;simp at e;omega);replace hC:=hC.step a7 sp0;refine z0b (z0r ?_);clear hC a1 a0;refine bk (h.sub (L':=[(3,_),(9,_),(11,_),(12,_),(13,_),(17,_),(18,_),(19,_),(24,_),(25,_),(26,_)]) (.d8 U U U U U U U U (.c3 U U U))) (tn (sr (mv U (z0m U I z3x (y6x (V:=idV) (z:=(.int .i64 0)) (k:=(((ts.getD y tq0).2.getD n lq0).ths.getD k id0)) (v:=.int .i64 ((((y0x (z2o ts) y n++((ts.getD y tq0).2.getD n lq0).ths.take k)++[(((ts.getD y tq0).2.getD n lq0).ths.getD k id0)]).count (((ts.getD y tq0).2.getD n lq0).ths.getD k id0):Nat):Int)) U U D z6t underlying248 zvI U U (gt' U (nn (cd U (λc3=>?_) (λc3=>?_)))))))));refine sr (asg U (kpL [(2,_)] (.cons U .nil) (nn (rt (rb (tr (tr (rb (rb (tr (tr (rb (rb (tr (tr (rb (tr (r1 results206 U ?_))))))))))))))))));exfalso;omega;exact sk (bn' (tn (rg (z0q U (wi6 oo) (mv U (nl (lpE (k+1) (.d8 U U U U U U U U (.c2 U U)) ⟨((Fr.refl [O] _).z6 q6 q7 q8 q9 a6 a7),⟨oo,by rw[z9r id0 oo,<-List.append_assoc];exact D⟩⟩ oo)))))));obtain rfl:k=((ts.getD y tq0).2.getD n lq0).ths.length:=by omega
 rw[List.take_length]at D;exact ex (te (te (xh (bn' (tn (rg (z0q U (wi6 oo) (mv U (nl (lpE (n+1) (.c7 U U U U U U U) ⟨((Fr.refl [O] _).z4 q3 q4 q5 q6),⟨oo,by rw[x0e oo];exact D⟩⟩ oo))))))))));obtain rfl:n=(ts.getD y tq0).2.length:=by omega
 exact ex (te (te (xh (bn' (tn (rg (z0q U (wi6 oo) (mv U (nl (lpE (y+1) (.c4 U U U U) ⟨((Fr.refl [O] _).z2 q2 q3),⟨oo,by rw[x0j oo];exact D⟩⟩ oo))))))))));obtain rfl:y=ts.length:=by omega
 exact ex (te (te (xh (tn (sr (asg U (nn (rt (r1 results206 U ⟨_,rfl,rfl,(q1.z1 q2)⟩)))))))))
theorem v6x (q:LpQ)(n:Int)(w0:World)(O:LpAt w0 q)(h0:0<=n)(hn:n.toNat<(z5o q.p).length)(hb:q.ths.length<=4/\q.pas.length<=4096):Rets prog 235 #[.agg #[.int .u8 q.b,.bool q.nw,.slice q.th.1 q.th.2.1 q.th.2.2,.slice q.pa.1 q.pa.2.1 q.pa.2.2],.int .i64 n] w0 λr w'=>r=.agg #[.int .u8 ((z5o q.p).getD n.toNat id0).y,.int .i64 ((z5o q.p).getD n.toNat id0).n]/\Fr [] w0 w':=by
 have a7:=z2g O.1;have a8:=z2g O.2;have a2:=O.1.len_le;unfold maxLen at a2;have a9:=x9y q;refine we [(0,.agg #[.int .u8 q.b,.bool q.nw,.slice q.th.1 q.th.2.1 q.th.2.2,.slice q.pa.1 q.pa.2.1 q.pa.2.2]),(1,.int .i64 n)] func235 U ntmps235 U (.c2 U U) ?_;have Z:=O;refine sr (bx U (λg2 w1 a5 D q1 z1=>(al y6l U (λg4 w2 a6 I q2 z2=>(nn (sq (sr (mv U (fad U z7y ?_)))))))));replace D:=D.ext q2;refine z0i U D U z8o (lnS U underlying42 (lt' U (nn (cd U (λc0=>?_) (λc0=>?_)))));refine sr (fad U z7y (z0i U D U z8o (mv U ?_)));replace O:=Z.ext (q1.n1 q2);refine z0x (p:=n.toNat) (id0) U O.1 U z6q oo (λa3 a0=>?_);refine z1t U (a0 _ O.1) z3x (z0k (vs:=[_,_]) U I y3o (λw3 I q3 z3=>?_) (h1:=(by first|(simp[Value.oneCell',S];done)|exact z1j.one _)));exact kpL [(4,_)] (.cons U .nil) (nn (rt (tr (rC results235 U I z3x  ⟨_,rfl,by rw[j4f oo],(q1.z2 q2 q3)⟩))));refine sk (tn (sr (fad U y0d (z0i U D U y0y (mv U (fad U z7y (z0i U D U z8o (lnS U underlying42 (z1u U (wi6 oo) ?_)))))))));replace O:=Z.ext (q1.n1 q2);refine z0x (p:=(n.toNat-q.ths.length)) (pa0) U O.2 U z5a oo (λa4 a1=>?_);refine fad U x7r (z1t U (v4q (vs:=[_,_]) (a1 _ O.2) U) z3x (z0k (vs:=[_,_]) U I y3o (λw4 I q4 z4=>?_) (h1:=(by first|(simp[Value.oneCell',S];done)|exact z1j.one _))));exact kpL [(4,_)] (.cons U .nil) (nn (rt (rC results235 U I z3x  ⟨_,rfl,by rw[j0y oo hn],(q1.z2 q2 q4)⟩)))
theorem k4p:BuildAt prog 54 [(0,1),(1,1)] [(.int .u8 0),(.int .i64 0)]:=BuildAt.struct underlying54 (λ_=>kr0) (λ_=>kr0)
theorem z3b:ElemOf prog 26 3 Enc.i64 8:=ElemOf.mk' (z:=(.int .i64 0)) underlying26 kr0 U
theorem zv3 (w:World):(zeroValue 3).run prog w=.ok (.int .i64 0) w:=kr0
theorem v2f {α β:Type}{E:Enc α}{O:Enc β}{T T' b b':Nat}{w:World}{v I:Value}{l:List α}{l':List β}(h:Lw.Own E T b w v l)(Z:Lw.Own O T' b' w I l')(hT:T'≠T):∀k∈z0u v,k∉z0u I:=λk hk D=>by
 obtain⟨cs,hb⟩:=y1k h k hk
 exact Z.neB hb hT D
theorem u2x (v:Value)(ts:List TQ)(w0:World)(hs:Sl z4z w0 v ts)(D:TabAt w0 ts)(hl:ts.length=6)(hv:TabV (z2o ts)):Rets prog 207 #[v] w0 λr w'=>∃l,Lw.Own z1j 54 w0.heap.size w' r l/\l.length=z4r (z2o ts)/\Fr [] w0 w':=by
 obtain⟨A,c,rfl,l6,hM,hA⟩:=id hs;clear hA;unfold maxLen at hM;have i2:=z7c D;have hH:=hv.has;have l7:z4r (z2o ts)<=2048:=hv.ok.cnt;have g9:=y1n ts;refine we [(0,.slice A ts.length c)] func207 U ntmps207 U (.cons U .nil) ?_;have i3:=hs;have g7:=D;refine sr (asg U (nn (sr (mv U (cl (ev1 U) (mkC func178) (y5p _ _ _ hs D oo) U ?_)))));rintro _ w1 ⟨rfl,q1⟩;have z1:=q1.size;refine asg U (nn (sr (mv U (z1g (m:=0) (c:=z4r (z2o ts)) (id0) U z6q y6l U (λk9 w2 j9 hR q2 z2=>(asg U (nn (sr (mv U (lnS U underlying40 (z1g (m:=ts.length) (c:=ts.length) ((0:Int)) U z3b zv3 U (λa4 w3 k0 hM q3 z3=>(asg U (nn (sr (mv U (lnS U underlying40 (z1g (m:=ts.length) (c:=ts.length) ((0:Int)) U z3b zv3 U (λa1 w4 k1 Z q4 z4=>?_)))))))))))))))))));refine asg U (nn (sq (bl ?_)));replace hR:=hR.ext (q3.n1 q4);replace hM:=hM.ext q4;refine lpK (ι:=Value×List Int×List Int×List LId) [(0,_),(3,_),(5,_),(6,_)] (λp=>[(4,p.1)]) (λp w'=>Fr [] w0 w'/\FstI (z2o ts) p.2.1 p.2.2.1 p.2.2.2.length/\Lw.Own z1j 54 w0.heap.size w' p.1 p.2.2.2/\Lw.Own Enc.i64 3 w0.heap.size w' (.slice (some ⟨a4,0,none⟩) ts.length ts.length) p.2.1/\Lw.Own Enc.i64 3 w0.heap.size w' (.slice (some ⟨a1,0,none⟩) ts.length ts.length) p.2.2.1) (λp=>z4r (z2o ts)-p.2.2.2.length) (_,List.replicate ts.length 0,List.replicate ts.length 0,[]) (.c5 U U U U U) ⟨(q1.n3 q2 q3 q4),⟨by simp only;rw[hl];exact FstI.init,by simpa using hR.low oo,hM.low oo,Z.low oo⟩⟩ ?_;rintro⟨vR,ms,uu,l⟩ w5 ⟨q5,⟨hF,hR,hM,Z⟩⟩;simp only at hF hR hM Z;have z5:=q5.size;refine kpC [(0,_),(3,_),(5,_),(6,_),(4,vR)] (.c5 U U U U U) ?_;have a9:a4∉z0u vR:=λh=>v2f hR hM dd a4 h (List.mem_singleton.2 U);have b0:a1∉z0u vR:=λh=>v2f hR Z dd a1 h (List.mem_singleton.2 U);have l1:=(hM.blk a4 (List.mem_singleton.2 U)).2;have l2:=(Z.blk a1 (List.mem_singleton.2 U)).2;obtain⟨AR,cR,rfl,l5⟩:=hR.sl.form;refine sq (sr (mv U (lnS U underlying42 (mv U (lt' U (nn (cd U (λc0=>?_) (λc0=>?_))))))));refine sk (tn (bl (sc (sr (mv U (lnS U underlying42 (asg U (nn (sq (lb (tn (sq (sr (mv U (lnS U underlying40 (mv U (nn (bl (lpK (ι:=Nat×List Int) [(0,_),(3,_),(4,_),(5,_),(6,_),(7,_),(28,_),(29,_)] (λp=>[(30,.int .i64 (p.1:Int))]) (λp w'=>Fr [a1] w5 w'/\p.1<=6/\FstI (z2o ts) ms p.2 l.length/\(∀z,z<p.1->u0j (z2o ts) ms z)/\Lw.Own Enc.i64 3 w0.heap.size w' (.slice (some ⟨a1,0,none⟩) ts.length ts.length) p.2) (λp=>6-p.1) (0,uu) (.d8 U U U U U U U U (.cons U .nil)) ⟨Fr.refl _ _,⟨Nat.zero_le _,hF,λz h=>absurd h sp0,Z⟩⟩ ?_)))))))))))))))))));rintro⟨y,vs⟩ w6 ⟨q6,⟨hy,hF,e4,Z⟩⟩;simp only at hy hF e4 Z;have z6:=q6.size;refine kpC [(0,_),(3,_),(4,_),(5,_),(6,_),(7,_),(28,_),(29,_),(30,.int .i64 (y:Int))] (.d8 U U U U U U U U (.cons U .nil)) (sr (lt' U (nn (sq (cd U (λc1=>?_) (λc1=>?_))))));replace D:=g7.ext (q5.z1 q6);have a6:y<6:=by omega
 have l9:=i2 y;have g8:=hF.lm;have i0:=hF.mb y a6;have h8:=(D _ (z1b (d:=tq0) (i:=y) oo)).1.len_le;unfold maxLen at h8;refine sk (tn (sq (bl (sr (mv U ?_)))));replace hs:=i3.ext (q5.z1 q6);refine z0x (tq0) U hs U x1l z1m (λj0 f6=>?_);refine z1a U (f6 _ hs) y3h (asg U (asg U (nn (sq (sr (mv U (mv U ?_)))))));replace hM:=hM.fr q6 (by intro k D I;have D:=List.mem_singleton.1 D;have I:=List.mem_singleton.1 (show k∈[a4] from I);omega);refine z0x (0) U hM.sl U z3b z1m (λj1 f7=>?_);refine z1a U (f7 _ hM.sl) na3 (mv U (lnS U underlying116 (eq' U (kpL [(0,_),(3,_),(4,_),(5,_),(6,_),(7,_),(8,_),(9,_),(28,_),(29,_),(30,_),(41,_)] (.d8 U U U U U U U U (.c4 U U U U)) (nn (cd U (λc2=>?_) (λc2=>?_)))))));have e3:u0j (z2o ts) ms y:=.inl (by rw[z4a];omega);refine ex (te (xh (tn (rg (z0q U (wi6 oo) (mv U (nl ?_)))))));exact lpE ((y+1,_)) (.d8 U U U U U U U U (.cons U .nil)) ⟨((Fr.refl [a1] _).z1 q6),⟨sm,hF,λz h=>(by
  by_cases e:z<y;exact e4 z e;obtain rfl:z=y:=by simp only at h;omega
  exact e3),Z⟩⟩ sm
 have d9:ms.getD y 0<(z3w (z2o ts) y:Int):=by rw[z4a];rw[z4a]at i0;omega
 have b4:(ms.getD y 0).toNat<(ts.getD y tq0).2.length:=by rw[z4a]at d9;omega
 have e1:nd (z2o ts) y (ms.getD y 0)=z5o ((ts.getD y tq0).2.getD (ms.getD y 0).toNat lq0).p:=by unfold nd;rw[y3q]
 have h0:=x9y ((ts.getD y tq0).2.getD (ms.getD y 0).toNat lq0);have b5:=(hv.ok.rts y a6 _ (by rw[z4a];exact b4)).1;rw[y3q]at b5;have k5:=z2g (z9k D (y:=y) (n:=(ms.getD y 0).toNat) oo b4).1;have k6:=z2g (z9k D (y:=y) (n:=(ms.getD y 0).toNat) oo b4).2;have l3:((ts.getD y tq0).2.getD (ms.getD y 0).toNat lq0).ths.length<=4:=b5.2.1.1;have l4:((ts.getD y tq0).2.getD (ms.getD y 0).toNat lq0).pas.length<=4096:=b5.2.1.2;refine sk (tn (sr (mv U (mv U (mv U (z0x (0) U hM.sl U z3b z1m (λj2 f8=>?_)))))));refine z1a U (f8 _ hM.sl) na3 (z0x (lq0) U (D _ (z1b (d:=tq0) (i:=y) oo)).1 U y6o z1m (λj3 f9=>?_));refine z1t U (f9 _ (D _ (z1b (d:=tq0) (i:=y) oo)).1) x5j (al x8f U (λf5 w7 j8 O q7 z7=>?_));refine z0k (vs:=[_,_,_,_]) U O v4u (λw8 O q8 z8=>?_) (h1:=(by first|(simp[Value.oneCell',S];done)|exact z7k.one ((ts.getD y tq0).2.getD (ms.getD y 0).toNat lq0)|exact z1j.one ((z5o ((ts.getD y tq0).2.getD (ms.getD y 0).toNat lq0).p).getD (xs.getD y 0).toNat id0)));refine kpL [(0,_),(3,_),(4,_),(5,_),(6,_),(7,_),(8,_),(10,_),(28,_),(29,_),(30,_)] (.d8 U U U U U U U U (.c3 U U U)) (nn (sq (bl ?_)));replace Z:=(Z.ext q7).fr q8 (by intro k D I;have D:=List.mem_singleton.1 D;have I:=List.mem_singleton.1 (show k∈[a1] from I);omega);refine lpK (ι:=List Int) [(0,_),(3,_),(4,_),(5,_),(6,_),(7,_),(8,_),(10,_),(28,_),(29,_),(30,_)] (λp=>[]) (λp w'=>Fr [a1] w8 w'/\FstI (z2o ts) ms p l.length/\Lw.Own Enc.i64 3 w0.heap.size w' (.slice (some ⟨a1,0,none⟩) ts.length ts.length) p) (λp=>(z5o ((ts.getD y tq0).2.getD (ms.getD y 0).toNat lq0).p).length-(p.getD y 0).toNat) vs (.d8 U U U U U U U U (.c3 U U U)) ⟨Fr.refl _ _,⟨hF,Z⟩⟩ ?_;rintro xs w9 ⟨q9,⟨hF,Z⟩⟩;have z9:=q9.size;refine kpC [(0,_),(3,_),(4,_),(5,_),(6,_),(7,_),(8,_),(10,_),(28,_),(29,_),(30,_)] (.d8 U U U U U U U U (.c3 U U U)) ?_;have h3:=hF.tb y a6;have g8:=hF.lm;have l8:=hF.lt;refine sq (sq ?_);replace O:=O.fr q9;intro a h;refine z0h none (λwb w'=>Fr [] wb w') z2y ?_;intro h5 a5;have m9:=a5.size;replace O:=O.ext a5;replace Z:=Z.ext a5;have hC:Fr [] h5 h5:=Fr.refl _ _;have a2:=O;have a8:=Z;refine z0d 0 h U λa h=>z0d 1 h U λa h=>z1e (0) 2 h U Z.sl U z3b U ?_ (hp:=rfl);clear h a;intro j4 g0 a h;refine z2h 3 h U (λ_ hw=>g0 _ (a8.sl.ext hw)) na3 U λa h=>z0c 4 h U z7y U λa h=>z0j 5 h U (λ_ hw=>a2.ext hw) U z8o U λa h=>z7q 6 hC h wn U underlying42 U λa h=>z0c 7 h U y0d U λa h=>z0j 8 h U (λ_ hw=>a2.ext hw) U y0y U λa h=>z7q 9 hC h wn U underlying109 U λa h=>z4d 10 h U (by first|exact i6 oo|rfl) U λa h=>x9m 11 hC h wn U U λa h=>z0r ?_;clear hC a2 a8;refine bk (h.sub (L':=[(0,_),(3,_),(4,_),(5,_),(6,_),(7,_),(8,_),(10,_),(28,_),(29,_),(30,_),(60,_)]) (.d8 U U U U U U U U (.c4 U U U U))) (tn (cd U (λc3=>?_) (λc3=>?_)));have e8:xs.getD y 0<IntKind.i64.wrap ((((ts.getD y tq0).2.getD (ms.getD y 0).toNat lq0).th.2.1:Int)+(((ts.getD y tq0).2.getD (ms.getD y 0).toNat lq0).pa.2.1:Int)):=c3;rw[IntWalk.i64_in _ oo]at e8;have e2:(xs.getD y 0).toNat<(z5o ((ts.getD y tq0).2.getD (ms.getD y 0).toNat lq0).p).length:=by rw[h0];omega
 have g5:z5h (z2o ts) ((z5o ((ts.getD y tq0).2.getD (ms.getD y 0).toNat lq0).p).getD (xs.getD y 0).toNat id0):=b5.2.2.1 _ (z1b e2);have k4:=g5.1;have g6:=g5.2.1;rw[g9]at g6;have g8:=hF.lm;refine sk (tn (bl (sq (sq ?_))));replace D:=g7.ext (q5.z5 q6 q7 q8 q9 a5);intro a h;refine z0h none (λwb w'=>Fr [] wb w') z2y ?_;intro f2 a7;have n7:=a7.size;replace D:=D.ext a7;replace O:=O.ext a7;replace Z:=Z.ext a7;have hC:Fr [] f2 f2:=Fr.refl _ _;have e7:=D;have a2:=O;have a8:=Z;refine z0z 0 h U (λ_ hw=>a2.ext hw) x5j U λa h=>z0d 1 h U λa h=>z0d 2 h U λa h=>z1e (0) 3 h U Z.sl U z3b U ?_ (hp:=rfl);clear h a;intro j5 g1 a h;refine z2h 4 h U (λ_ hw=>g1 _ (a8.sl.ext hw)) na3 U λa h=>z2n 5 6 kr0 U ?_ ?_;refine z0n h (z0a U (z0a U z0g)) (mkC func235) (v6x ((ts.getD y tq0).2.getD (ms.getD y 0).toNat lq0) (xs.getD y 0) _ (z9k D (y:=y) (n:=(ms.getD y 0).toNat) oo b4) h3 e2 ⟨b5.2.1.1,b5.2.1.2⟩) ?_;rintro _ i7 ⟨rfl,b6⟩ a h;have n8:=b6.size;replace O:=O.ext b6;replace hC:=hC.next b6;refine z0b (z0e 6 U (z1f h y6l U λm0 a0 b7 hz a h=>?_));obtain⟨b2,hg⟩:∃g,g=i7.heap.size:=⟨_,rfl⟩;rw[<-hg]at a0 h hz;have e0:f5<b2:=by have:=O.lt;omega
 have n9:=b7.size;replace D:=D.ext (b6.n1 b7);replace O:=O.ext b7;replace Z:=Z.ext (b6.n1 b7);replace hC:=hC.next b7;refine z0b (z0e 7 U (z0v h U a0 U y3o ?_ (h1:=(by first|(simp[Value.oneCell',S];done)|exact z7k.one ((ts.getD y tq0).2.getD (ms.getD y 0).toNat lq0)|exact z1j.one ((z5o ((ts.getD y tq0).2.getD (ms.getD y 0).toNat lq0).p).getD (xs.getD y 0).toNat id0)))));clear h a;intro i8 d4 b9 hz a h;have o0:=b9.size;replace O:=O.fr b9;replace Z:=Z.fr b9 (by intro k D I;have D:=List.mem_singleton.1 D;have I:=List.mem_singleton.1 (show k∈[a1] from I);omega);replace hC:=hC.sp b9;clear a0 hz;have a0:Blk i8 b2 _ [_,_]:=d4;clear d4;refine z0b (z0r ?_);clear hC e7 a2 a8;refine bk (h.sub (L':=[(0,_),(3,_),(4,_),(5,_),(6,_),(7,_),(8,_),(10,_),(11,_),(28,_),(29,_),(30,_)]) (.d8 U U U U U U U U (.c4 U U U U))) (tn (sq ?_));replace hM:=((((hM.ext q7).fr q8 (by intro k D I;have D:=List.mem_singleton.1 D;have I:=List.mem_singleton.1 (show k∈[a4] from I);omega)).fr q9 (by intro k D I;have D:=List.mem_singleton.1 D;have I:=List.mem_singleton.1 (show k∈[a4] from I);omega)).ext (a5.n3 a7 b6 b7)).fr b9 (by intro k D I;have D:=List.mem_singleton.1 D;have I:=List.mem_singleton.1 (show k∈[a4] from I);omega);intro a h;refine z0h none (λwb w'=>Fr [] wb w') z2y ?_;intro h6 c9;have o1:=c9.size;replace hM:=hM.ext c9;replace a0:=a0.ext c9;have hC:Fr [] h6 h6:=Fr.refl _ _;have b3:=hM;have a3:=a0;refine z0c 0 h U y1g U λa h=>z0j 1 h U (λ_ hw=>a3.ext hw) U na3 U λa h=>z0d 2 h U λa h=>z0c 3 h U z9g U λa h=>z0j 4 h U (λ_ hw=>a3.ext hw) U na5 U λa h=>z3e 5 h U (by first|exact IntWalk.u8_in _ oo|rfl) U λa h=>z1e (0) 6 h U hM.sl U z3b U ?_ (hp:=rfl);clear h a;intro f3 d5 a h;refine z2h 7 h U (λ_ hw=>d5 _ (b3.sl.ext hw)) na3 U λa h=>v8q 8 hC h wn U U U U λa h=>z0r ?_;clear hC b3 a3;refine bk (h.sub (L':=[(0,_),(3,_),(4,_),(5,_),(6,_),(7,_),(8,_),(10,_),(28,_),(29,_),(30,_),(75,_)]) (.d8 U U U U U U U U (.c4 U U U U))) (tn (cd U (λc4=>?_) (λc4=>?_)));have e3:u0j (z2o ts) ms y:=.inr ⟨d9,((z5o ((ts.getD y tq0).2.getD (ms.getD y 0).toNat lq0).p).getD (xs.getD y 0).toNat id0),by rw[e1];exact z1b e2,by unfold InM;omega⟩;refine ex (te (xo U (te (xo U (te (xh (tn (rg (z0q U (wi6 oo) (mv U (nl ?_)))))))))));replace Z:=Z.ext c9;exact lpE ((y+1,_)) (.d8 U U U U U U U U (.cons U .nil)) ⟨((((Fr.refl [a1] _).z6 q6 q7 q8 q9 a5 a7).n1 b6).z3 b7 b9 c9),⟨sm,hF,λz h=>(by
  by_cases e:z<y;exact e4 z e;obtain rfl:z=y:=by simp only at h;omega
  exact e3),Z⟩⟩ sm
 have d3:=hF.there a6 (by rw[e1];unfold InM;omega);refine sk (tn (rg (mv U (mv U ?_))));replace Z:=Z.ext c9;refine z0x (0) U Z.sl U z3b z1m (λf4 d6=>?_);refine z1a U (d6 _ Z.sl) na3 (z0q U (wi6 oo) (y1c (p:=y) (E:=Enc.i64) U U z3b (z6w (i:=y) (xs.getD y 0+1) U U Z (by rw[hF.lt];exact a6) U sz3 (λm1 Z i4 o2=>?_))));exact kpL [(0,_),(3,_),(4,_),(5,_),(6,_),(7,_),(8,_),(10,_),(28,_),(29,_),(30,_)] (.d8 U U U U U U U U (.c3 U U U)) (nl (bn' (lpE (_) (.d8 U U U U U U U U (.c3 U U U)) ⟨((((Fr.refl [a1] _).z6 q9 a5 a7 b6 b7 b9).n1 c9).z1 i4),⟨d3,Z⟩⟩ (by rw[z5j (by rw[hF.lt];exact a6),if_pos U];omega))));refine z1f h y6l U λm2 a0 b8 hz a h=>?_;obtain⟨b2,hg⟩:∃g,g=f2.heap.size:=⟨_,rfl⟩;rw[<-hg]at a0 h hz;have e0:f5<b2:=by have:=O.lt;omega
 have o3:=b8.size;replace D:=D.ext b8;replace hC:=hC.next b8;refine z0b (z0e 5 U (z0n h (z0a U (z0a U z0g)) (mkC func235) (v6x ((ts.getD y tq0).2.getD (ms.getD y 0).toNat lq0) (xs.getD y 0) _ (z9k D (y:=y) (n:=(ms.getD y 0).toNat) oo b4) h3 e2 ⟨b5.2.1.1,b5.2.1.2⟩) ?_));rintro _ m3 ⟨rfl,b1⟩ a h;have o4:=b1.size;replace D:=D.ext b1;replace O:=O.ext (b8.n1 b1);replace Z:=Z.ext (b8.n1 b1);replace a0:=a0.ext b1;replace hC:=hC.next b1;refine z0b (z0e 7 U (z0v h U a0 U y3o ?_ (h1:=(by first|(simp[Value.oneCell',S];done)|exact z7k.one ((ts.getD y tq0).2.getD (ms.getD y 0).toNat lq0)|exact z1j.one ((z5o ((ts.getD y tq0).2.getD (ms.getD y 0).toNat lq0).p).getD (xs.getD y 0).toNat id0)))));clear h a;intro i9 d4 d0 hz a h;have o5:=d0.size;replace O:=O.fr d0;replace Z:=Z.fr d0 (by intro k D I;have D:=List.mem_singleton.1 D;have I:=List.mem_singleton.1 (show k∈[a1] from I);omega);replace hC:=hC.sp d0;clear a0 hz;have a0:Blk i9 b2 _ [_,_]:=d4;clear d4;refine z0b (z0r ?_);clear hC e7 a2 a8;refine bk (h.sub (L':=[(0,_),(3,_),(4,_),(5,_),(6,_),(7,_),(8,_),(10,_),(11,_),(28,_),(29,_),(30,_)]) (.d8 U U U U U U U U (.c4 U U U U))) (tn (sq ?_));replace hM:=((((hM.ext q7).fr q8 (by intro k D I;have D:=List.mem_singleton.1 D;have I:=List.mem_singleton.1 (show k∈[a4] from I);omega)).fr q9 (by intro k D I;have D:=List.mem_singleton.1 D;have I:=List.mem_singleton.1 (show k∈[a4] from I);omega)).ext (a5.n3 a7 b8 b1)).fr d0 (by intro k D I;have D:=List.mem_singleton.1 D;have I:=List.mem_singleton.1 (show k∈[a4] from I);omega);intro a h;refine z0h none (λwb w'=>Fr [] wb w') z2y ?_;intro h7 d1;have o6:=d1.size;replace hM:=hM.ext d1;replace a0:=a0.ext d1;have hC:Fr [] h7 h7:=Fr.refl _ _;have b3:=hM;have a3:=a0;refine z0c 0 h U y1g U λa h=>z0j 1 h U (λ_ hw=>a3.ext hw) U na3 U λa h=>z0d 2 h U λa h=>z0c 3 h U z9g U λa h=>z0j 4 h U (λ_ hw=>a3.ext hw) U na5 U λa h=>z3e 5 h U (by first|exact IntWalk.u8_in _ oo|rfl) U λa h=>z1e (0) 6 h U hM.sl U z3b U ?_ (hp:=rfl);clear h a;intro f3 d5 a h;refine z2h 7 h U (λ_ hw=>d5 _ (b3.sl.ext hw)) na3 U λa h=>v8q 8 hC h wn U U U U λa h=>z0r ?_;clear hC b3 a3;refine bk (h.sub (L':=[(0,_),(3,_),(4,_),(5,_),(6,_),(7,_),(8,_),(10,_),(28,_),(29,_),(30,_),(75,_)]) (.d8 U U U U U U U U (.c4 U U U U))) (tn (cd U (λc4=>?_) (λc4=>?_)));have e3:u0j (z2o ts) ms y:=.inr ⟨d9,((z5o ((ts.getD y tq0).2.getD (ms.getD y 0).toNat lq0).p).getD (xs.getD y 0).toNat id0),by rw[e1];exact z1b e2,by unfold InM;omega⟩;refine ex (te (xo U (te (xo U (te (xh (tn (rg (z0q U (wi6 oo) (mv U (nl ?_)))))))))));replace Z:=Z.ext d1;exact lpE ((y+1,_)) (.d8 U U U U U U U U (.cons U .nil)) ⟨((((Fr.refl [a1] _).z6 q6 q7 q8 q9 a5 a7).n1 b8).z3 b1 d0 d1),⟨sm,hF,λz h=>(by
  by_cases e:z<y;exact e4 z e;obtain rfl:z=y:=by simp only at h;omega
  exact e3),Z⟩⟩ sm
 have d3:=hF.there a6 (by rw[e1];unfold InM;omega);refine sk (tn (rg (mv U (mv U ?_))));replace Z:=Z.ext d1;refine z0x (0) U Z.sl U z3b z1m (λf4 d6=>?_);refine z1a U (d6 _ Z.sl) na3 (z0q U (wi6 oo) (y1c (p:=y) (E:=Enc.i64) U U z3b (z6w (i:=y) (xs.getD y 0+1) U U Z (by rw[hF.lt];exact a6) U sz3 (λm4 Z i5 o7=>?_))));exact kpL [(0,_),(3,_),(4,_),(5,_),(6,_),(7,_),(8,_),(10,_),(28,_),(29,_),(30,_)] (.d8 U U U U U U U U (.c3 U U U)) (nl (bn' (lpE (_) (.d8 U U U U U U U U (.c3 U U U)) ⟨((((Fr.refl [a1] _).z6 q9 a5 a7 b8 b1 d0).n1 d1).z1 i5),⟨d3,Z⟩⟩ (by rw[z5j (by rw[hF.lt];exact a6),if_pos U];omega))));have e8:¬xs.getD y 0<IntKind.i64.wrap ((((ts.getD y tq0).2.getD (ms.getD y 0).toNat lq0).th.2.1:Int)+(((ts.getD y tq0).2.getD (ms.getD y 0).toNat lq0).pa.2.1:Int)):=c3;rw[IntWalk.i64_in _ oo]at e8;have d3:=hF.push hH a6 d9 (by rw[e1,h0];omega);refine ex (te (te (xh (tn (sr (mv U (mv U (z0q U (wi6 oo) (z6s U (us underlying3) underlying5 (wi8 oo) (mv U (mv U ?_)))))))))));replace hM:=(((hM.ext q7).fr q8 (by intro k D I;have D:=List.mem_singleton.1 D;have I:=List.mem_singleton.1 (show k∈[a4] from I);omega)).fr q9 (by intro k D I;have D:=List.mem_singleton.1 D;have I:=List.mem_singleton.1 (show k∈[a4] from I);omega)).ext a5;refine z0x (0) U hM.sl U z3b z1m (λj6 g3=>?_);refine z1a U (g3 _ hM.sl) na3 (z1z (cs:=[_,_]) (ev2 U) k4p (z0f U (z0f U z0t)) U ?_);refine z1w ([(⟨(y:Int)+1,ms.getD y 0⟩:LId)]) (ev1 U) U z6q (λl0 m5 k2 h2 e5 o8=>?_);replace hM:=hM.ext e5;replace Z:=Z.ext e5;replace hR:=((((hR.fr q6 (by intro k D I;rw[List.mem_singleton.1 D]at I;first|exact a9 I|exact b0 I|(have h_:=(hR.blk _ I).2;omega))).ext q7).fr q8 (by intro k D I;rw[List.mem_singleton.1 D]at I;first|exact a9 I|exact b0 I|(have h_:=(hR.blk _ I).2;omega))).fr q9 (by intro k D I;rw[List.mem_singleton.1 D]at I;first|exact a9 I|exact b0 I|(have h_:=(hR.blk _ I).2;omega))).ext (a5.n1 e5);have e9:=hR;refine z1x U hR h2.sl z6q (λh4 m6 hR e6 i1=>?_) (hM:=(by unfold maxLen;simp only[List.length_append,List.length_cons,List.length_nil];omega)) (hb:=(by simp only[List.length_append,List.length_cons,List.length_nil];omega));have o9:=e6.size;replace hM:=hM.fr e6 (λk D I=>a9 (by have e:=List.mem_singleton.1 (show k∈[a4] from I);rw[<-e];exact D));replace Z:=Z.fr e6 (λk D I=>b0 (by have e:=List.mem_singleton.1 (show k∈[a1] from I);rw[<-e];exact D));clear a9 b0;have a9:a4∉z0u h4:=λh=>v2f hR hM dd a4 h (List.mem_singleton.2 U);have b0:a1∉z0u h4:=λh=>v2f hR Z dd a1 h (List.mem_singleton.2 U);obtain⟨k7,k8,rfl,_⟩:=hR.sl.form;refine asg U (kpL [(0,_),(3,_),(4,_),(5,_),(6,_),(7,_),(8,_)] (.c7 U U U U U U U) (nn (sr (mv U (mv U (z0x (0) U hM.sl U z3b z1m (λj7 g4=>?_)))))));refine z1a U (g4 _ hM.sl) na3 (z0q U (wi6 oo) (y1c (p:=y) (E:=Enc.i64) U U z3b (z6w (i:=y) (ms.getD y 0+1) U U hM (by rw[hF.lm];exact a6) U sz3 (λm7 hM f0 p0=>?_))));refine kpL [(0,_),(3,_),(4,_),(5,_),(6,_),(7,_),(8,_)] (.c7 U U U U U U U) (nn (sr (mv U (mv U ?_))));replace Z:=Z.fr f0 (by intro k D I;have D:=List.mem_singleton.1 D;have I:=List.mem_singleton.1 (show k∈[a1] from I);omega);refine y1c (p:=y) (E:=Enc.i64) U U z3b (z6w (i:=y) (0) U U Z (by rw[hF.lt];exact a6) U sz3 (λm8 Z f1 p1=>?_));refine nn (ex (xo U (te (te (xh (tn (sr (mv U (lnS U underlying42 (mv U (eq' U (nn (cd U (λc5=>?_) (λc5=>?_))))))))))))));exfalso;simp only[List.length_append,List.length_cons,List.length_nil]at c5;omega;skip;refine sk (gn' (bn' ?_));replace hR:=(hR.fr f0 (by intro k D I;rw[List.mem_singleton.1 D]at I;first|exact a9 I|exact b0 I|(have h_:=(hR.blk _ I).2;omega))).fr f1 (by intro k D I;rw[List.mem_singleton.1 D]at I;first|exact a9 I|exact b0 I|(have h_:=(hR.blk _ I).2;omega));replace hM:=hM.fr f1 (by intro k D I;have D:=List.mem_singleton.1 D;have I:=List.mem_singleton.1 (show k∈[a4] from I);omega);exact lpE ((_,_,_,_)) (.c5 U U U U U) ⟨(((q5.z6 q6 q7 q8 q9 a5 e5).step e6 (λk D d9=>absurd (e9.blk k D).1 oo)).z2 f0 f1),⟨by simpa using d3,hR,hM,Z⟩⟩ (by simp only[List.length_append,List.length_cons,List.length_nil];omega);obtain rfl:y=6:=by omega
 have h9:=hF.done hH e4 hv.ok.ord;refine ex (te (te (xh (tn (sr (mv U (lnS U underlying42 (mv U (eq' U (kpL [(0,_),(3,_),(4,_),(5,_),(6,_),(106,_)] (.c6 U U U U U U) (nn (cd U (λc5=>?_) (λc5=>?_)))))))))))));have d7:l.length=z4r (z2o ts):=h9;refine ex (gx' (xo U (te (xh (tn (sr (mv U (asg U (kpL [(2,_)] (.cons U .nil) (nn (rt (r1 results207 U ?_))))))))))));replace hR:=hR.fr q6 (by intro k D I;rw[List.mem_singleton.1 D]at I;first|exact a9 I|exact b0 I|(have h_:=(hR.blk _ I).2;omega));exact⟨_,rfl,l,hR,d7,(q5.z1 q6)⟩;exact absurd U c5;have d7:l.length=z4r (z2o ts):=by have:=hF.leI oo;omega
 exact ex (te (te (xh (tn (sr (mv U (asg U (kpL [(2,_)] (.cons U .nil) (nn (rt (r1 results207 U ⟨_,rfl,l,hR,d7,q5⟩)))))))))))
theorem x0i:z0y prog 44 1 1:=λ_ _=>kr0
theorem j6d:z2a prog 41:=λ_=>kr0
theorem k1n:z2a prog 248:=λ_=>kr0
theorem v4f (v:Value)(l:List LId)(w0:World)(I:Sl z1j w0 v l)(hl:l.length<=100000):Rets prog 208 #[v] w0 λr w'=>∃A,r=.slice A l.length l.length/\Lw.Own z1j 54 w0.heap.size w' r l/\Fr [] w0 w':=by
 obtain⟨A,c,rfl,a0,hM,hA⟩:=id I;clear hA;unfold maxLen at hM;refine we [(0,.slice A l.length c)] func208 U ntmps208 U (.cons U .nil) ?_;have O:=I;refine sr (asg U (nn (sr (mv U (lnS U underlying42 (z1g (m:=l.length) (c:=l.length) (id0) U z6q y6l U (λg6 w1 a1 D Z z1=>(asg U (nn (sr (mv U (mv U ?_))))))))))));replace I:=O.ext Z;refine z9h (zs:=List.replicate l.length id0) (by rw[List.length_replicate];rfl) U (by rw[List.length_replicate];exact D) I (by rw[List.length_replicate]) z6q (λw2 D q2 z2=>?_);rw[List.length_replicate]at D;exact nn (sr (mv U (asg U (nn (rt (r1 results208 U ⟨_,rfl,some ⟨g6,0,none⟩,rfl,D.low oo,(Z.z1 q2)⟩))))))
theorem v8v (v:Value)(ts:List TQ)(w0:World)(I:Sl z4z w0 v ts)(D:TabAt w0 ts)(hl:ts.length=6)(hv:TabV (z2o ts)):Rets prog 164 #[v] w0 λr w'=>∃u,r=.tuple #[u,.int .i64 0]/\Fr [] w0 w':=by
 obtain⟨A,c,rfl,a6,hM,hA⟩:=id I;clear hA;unfold maxLen at hM;have a9:=z7c D;have a7:z4r (z2o ts)<=2048:=hv.ok.cnt;refine we [(0,.slice A ts.length c)] func164 U ntmps164 U (.cons U .nil) ?_;have Z:=I;have O:=D;refine sr (asg U (asg U (nn (sq (sr (mv U (lnS U underlying40 (ne' U (nn (cd U (λc0=>?_) (λc0=>?_)))))))))));refine sr (asg U (asg U (nn (rt (tr (r2 results164 U U ?_))))));exact(by exfalso;first|omega|exact absurd U (by assumption)|(simp_all;done)|(simp_all;omega));refine sk (tn (sq (sr (mv U (cl (ev1 U) (mkC func178) (y5p _ _ _ I D oo) U ?_)))));rintro _ w1 ⟨rfl,q1⟩;refine gt' U (nn (cd U (λc1=>?_) (λc1=>?_)));refine sr (asg U (asg U (nn (rt (tr (r2 results164 U U ?_))))));exact(by exfalso;first|omega|exact absurd U (by assumption)|(simp_all;done)|(simp_all;omega));refine sk (tn (sq (sr (mv U ?_))));replace I:=Z.ext q1;replace D:=O.ext q1;refine cl (ev1 U) (mkC func205) (u0i _ _ _ I D hl hv.ok) U ?_;rintro _ w2 ⟨rfl,q2⟩;refine asg U (nn (sr (mv U (ne' U (nn (cd U (λc2=>?_) (λc2=>?_)))))));refine sr (mv U (asg U (asg U (nn (rt (tr (r2 results164 U U ?_)))))));exact(by exfalso;first|omega|exact absurd U (by assumption)|(simp_all;done)|(simp_all;omega));refine sk (tn (sq (sr (mv U ?_))));replace I:=Z.ext (q1.n1 q2);replace D:=O.ext (q1.n1 q2);refine cl (ev1 U) (mkC func206) (j5g _ _ _ I D hl hv) U ?_;rintro _ w3 ⟨rfl,q3⟩;refine asg U (nn (sr (mv U (ne' U (nn (cd U (λc3=>?_) (λc3=>?_)))))));refine sr (mv U (asg U (asg U (nn (rt (tr (r2 results164 U U ?_)))))));exact(by exfalso;first|omega|exact absurd U (by assumption)|(simp_all;done)|(simp_all;omega));refine sk (tn (sr (mv U ?_)));replace I:=Z.ext (q1.n2 q2 q3);replace D:=O.ext (q1.n2 q2 q3);refine cl (ev1 U) (mkC func207) (u2x _ _ _ I D hl hv) U ?_;rintro a4 w4 ⟨l,ho,a8,q4⟩;obtain⟨a2,a5,rfl,a0⟩:=ho.sl.form;refine asg U (nn (sq (sr (mv U (lnS U underlying42 (mv U ?_))))));replace I:=Z.ext (q1.n3 q2 q3 q4);replace D:=O.ext (q1.n3 q2 q3 q4);refine cl (ev1 U) (mkC func178) (y5p _ _ _ I D oo) U ?_;rintro _ w5 ⟨rfl,q5⟩;refine lt' U (nn (cd U (λc4=>?_) (λc4=>?_)));refine sr (asg U (asg U (nn (rt (tr (r2 results164 U U ?_))))));exact(by exfalso;first|omega|exact absurd U (by assumption)|(simp_all;done)|(simp_all;omega));refine sk (tn (sr (mv U ?_)));replace ho:=ho.ext q5;refine cl (ev1 U) (mkC func208) (v4f _ _ _ ho.sl oo) U ?_;rintro _ w6 ⟨a3,rfl,a1,q6⟩;exact asg U (asg U (nn (rt (r2 results164 U U ⟨_,rfl,_,rfl,(q1.n5 q2 q3 q4 q5 q6)⟩))))
theorem j4q (v:Value)(ts:List TQ)(w0:World)(I:Sl z4z w0 v ts)(D:TabAt w0 ts)(hl:ts.length=6)(hv:TabV (z2o ts)):Rets prog 126 #[v] w0 λr w'=>r=.int .i64 0/\Fr [] w0 w':=by
 obtain⟨A,c,rfl,a0,Z,O⟩:=id I;clear O;unfold maxLen at Z;have a2:=z7c D;refine we [(0,.slice A ts.length c)] func126 U ntmps126 U (.cons U .nil) ?_;have a3:=I;have a1:=D;refine sr (asg U (nn (sr (mv U (cl (ev1 U) (mkC func164) (v8v _ _ _ I D hl hv) U ?_)))));rintro _ w1 ⟨v7,rfl,q1⟩;exact mv U (xt U (xt U (asg U (asg U (kpL [(4,_)] (.cons U .nil) (nn (sr (mv U (asg U (nn (rt (r1 results126 U ⟨_,rfl,rfl,q1⟩))))))))))))
theorem j5v (D g:Nat)(p:List LId)(A:Option Addr)(m c:Nat)(w0:World)(a0:m=0)(O:Blk w0 D 248 [.map (some g)])(Z:MapZ idV w0 g (.int .i64 0) (x2q p)):Rets prog 166 #[.slice A m c,.pointer (some ⟨D,0,none⟩)] w0 λr w'=>MapZ idV w' g (.int .i64 0) (x2q p)/\Fr [g] w0 w':=by
 refine we [(0,.slice A m c),(1,.pointer (some ⟨D,0,none⟩))] func166 U ntmps166 U (.c2 U U) (sr (mv U (lnS U underlying42 (mv U (nn (bl (lpK (ι:=Nat) [(1,_),(5,_),(6,_)] (λk=>[(7,.int .i64 (k:Int))]) (λk w'=>Fr [] w0 w'/\k<=m) (λk=>m-k) 0 (.c4 U U U U) ⟨Fr.refl _ _,Nat.zero_le _⟩ ?_)))))));rintro k w1 ⟨I,hi⟩;refine kpC [(1,_),(5,_),(6,_),(7,_)] (.c4 U U U U) (sr (lt' U ?_));rw[show decide ((k:Int)<(m:Int))=false from decide_eq_false oo];exact nn (sq (cf U (ex (te (te (xh (r0n results166  ⟨_,rfl,Z.ext I,(Fr.refl [g] _).next I⟩)))))))
theorem j3m (gp g:Nat)(p:List LId)(v:Value)(l:List LId)(w0:World)(hs:Sl z1j w0 v l)(I:Blk w0 gp 248 [.map (some g)])(O:MapZ idV w0 g (.int .i64 0) (x2q p))(a5:g∉z0u v)(a4:∀k,k<l.length->(p++l.take k).count (l.getD k id0)<=100000):Rets prog 166 #[v,.pointer (some ⟨gp,0,none⟩)] w0 λr w'=>MapZ idV w' g (.int .i64 0) (x2q (p++l))/\Fr [g] w0 w':=by
 obtain⟨A,c,rfl,b3,hM,hA⟩:=id hs;clear hA;unfold maxLen at hM;have b1:=O.ne_blk I;have b5:=I.lt;have b0:=O.lt;refine we [(0,.slice A l.length c),(1,.pointer (some ⟨gp,0,none⟩))] func166 U ntmps166 U (.c2 U U) ?_;have a8:=hs;refine sr (mv U (lnS U underlying42 (mv U (nn (bl (lpK (ι:=Nat) [(1,_),(5,_),(6,_)] (λk=>[(7,.int .i64 (k:Int))]) (λk w'=>Fr [g] w0 w'/\k<=l.length/\MapZ idV w' g (.int .i64 0) (x2q (p++l.take k))) (λk=>l.length-k) 0 (.c4 U U U U) ⟨Fr.refl _ _,⟨Nat.zero_le _,by rw[List.take_zero,List.append_nil];exact O⟩⟩ ?_))))));rintro k w1 ⟨q1,⟨hk,O⟩⟩;have z1:=q1.size;refine kpC [(1,_),(5,_),(6,_),(7,_)] (.c4 U U U U) (sr (lt' U (nn (sq (cd U (λc0=>?_) (λc0=>?_))))));have a9:=a4 k oo;refine sk (tn (sq (bl (sr ?_))));replace hs:=a8.fr ((Fr.refl [g] _).z1 q1) (by intro k_ a6 a2;rw[List.mem_singleton.1 a6]at a2;exact a5 a2);refine z0x (id0) U hs U z6q z1m (λb2 a3=>?_);refine z1t U (a3 _ hs) z3x (al y6l U (λg4 w2 b4 D q2 z2=>?_));refine z0k (vs:=[_,_]) U D y3o (λw3 D q3 z3=>?_) (h1:=(by first|(simp[Value.oneCell',S];done)|exact z1j.one _));refine nn ?_;replace I:=((I.fr q1 (by intro e;simp at e;omega)).ext q2).fr q3 (by intro e;simp at e;omega);replace O:=(O.ext q2).fr q3 (by intro k hk hb;simp at hk hb;omega);intro a h;refine z0h none (λwb w'=>Fr [g] wb w') z2y ?_;intro w4 q4;have z4:=q4.size;replace I:=I.ext q4;replace O:=O.ext q4;replace D:=D.ext q4;have hC:Fr [g] w4 w4:=Fr.refl _ _;have a0:=I;have a1:=O;have Z:=D;refine z3u 0 h U (λ_ hw=>a0.fr hw (by intro e;simp at e;omega)) k1n U λa h=>z0z 1 h U (λ_ hw=>Z.fr hw (by intro e;simp at e;omega)) z3x U λa h=>z2n 2 4 kr0 U ?_ ?_;refine z8m (V:=idV) (z:=(.int .i64 0)) (k:=(l.getD k id0)) (v:=.int .i64 ((((p++l.take k)).count (l.getD k id0):Nat):Int)) h U U O z6t underlying248 zvI U U λa h=>z0b (z4d 3 h U (by first|exact i6 oo|rfl) U λa h=>z0e 4 U ?_);have a7:=O.ne_blk D;refine z7n (V:=idV) (z:=(.int .i64 0)) (k:=(l.getD k id0)) h U U O z6t underlying248 zvI U λw5 b6 he q5 z5 a h=>?_;replace O:=he.map;replace D:=D.fr q5 (by intro e;simp at e;omega);replace I:=I.fr q5 (by intro e;simp at e;omega);replace hC:=hC.step q5 sp0;refine z0b (z0p 5 h U λa h=>z0e 6 U (z5y (V:=idV) (z:=(.int .i64 0)) (k:=(l.getD k id0)) h U U U he ?_));clear h a he O;intro w6 O q6 z6 a h;replace O:MapZ idV w6 g (.int .i64 0) (x2q ((p++l.take k)++[(l.getD k id0)])):=by rw[<-x2u];exact O
 replace D:=D.fr q6 (by intro e;simp at e;omega);replace I:=I.fr q6 (by intro e;simp at e;omega);replace hC:=hC.step q6 sp0;refine z0b (z0r ?_);clear hC a0 a1 Z;exact bk (h.sub (L':=[(1,_),(5,_),(6,_),(7,_)]) (.c4 U U U U)) (bn' (tn (rg (z0q U (wi6 oo) (mv U (nl (lpE (k+1) (.c4 U U U U) ⟨((Fr.refl [g] _).z6 q1 q2 q3 q4 q5 q6),⟨oo,by rw[z9r id0 oo,<-List.append_assoc];exact O⟩⟩ oo)))))));have a7:=O.ne_blk D;refine z7n (V:=idV) (z:=(.int .i64 0)) (k:=(l.getD k id0)) h U U O z6t underlying248 zvI U λw7 b7 he q7 z7 a h=>?_;replace O:=he.map;replace D:=D.fr q7 (by intro e;simp at e;omega);replace I:=I.fr q7 (by intro e;simp at e;omega);replace hC:=hC.step q7 sp0;refine z0b (z0p 5 h U λa h=>z0e 2 U (z8m (V:=idV) (z:=(.int .i64 0)) (k:=(l.getD k id0)) (v:=.int .i64 ((((p++l.take k)).count (l.getD k id0):Nat):Int)) h U U O z6t underlying248 zvI U U λa h=>?_));refine z0b (z4d 3 h U (by first|exact i6 oo|rfl) U λa h=>z0e 6 U (z5y (V:=idV) (z:=(.int .i64 0)) (k:=(l.getD k id0)) h U U U he ?_));clear h a he O;intro w8 O q8 z8 a h;replace O:MapZ idV w8 g (.int .i64 0) (x2q ((p++l.take k)++[(l.getD k id0)])):=by rw[<-x2u];exact O
 replace D:=D.fr q8 (by intro e;simp at e;omega);replace I:=I.fr q8 (by intro e;simp at e;omega);replace hC:=hC.step q8 sp0;refine z0b (z0r ?_);clear hC a0 a1 Z;exact bk (h.sub (L':=[(1,_),(5,_),(6,_),(7,_)]) (.c4 U U U U)) (bn' (tn (rg (z0q U (wi6 oo) (mv U (nl (lpE (k+1) (.c4 U U U U) ⟨((Fr.refl [g] _).z6 q1 q2 q3 q4 q7 q8),⟨oo,by rw[z9r id0 oo,<-List.append_assoc];exact O⟩⟩ oo)))))));obtain rfl:k=l.length:=by omega
 rw[List.take_length]at O;exact ex (te (te (xh (r0n results166  ⟨_,rfl,O,((Fr.refl [g] _).z1 q1)⟩))))
theorem x8n (I g:Nat)(p:List LId)(v:Value)(l:List LId)(wS w0:World)(hS:Sl z1j wS v l)(hg:wS.heap.size<=g)(hs:Sl z1j w0 v l)(D:Blk w0 I 248 [.map (some g)])(Z:MapZ idV w0 g (.int .i64 0) (x2q p))(O:∀k,k<l.length->(p++l.take k).count (l.getD k id0)<=100000):Rets prog 166 #[v,.pointer (some ⟨I,0,none⟩)] w0 λr w'=>MapZ idV w' g (.int .i64 0) (x2q (p++l))/\Fr [g] w0 w':=by
 by_cases e:l=[];subst e;obtain⟨A,c,rfl,_⟩:=hs.form;rw[List.append_nil];exact j5v I g p A _ c w0 U D Z;exact j3m I g p v l w0 hs D Z (λh=>by have:=hS.blk e g h;omega) O
def hfv (q:FbQ)(z:Nat):SV:=if z=0 then q.h else q.f
def hfl (q:FbQ)(z:Nat):List LId:=if z=0 then q.hs else q.fs
theorem u4o {q:FbQ}{w:World}(h:FbAt w q)(z:Nat):Sl z1j w (slv (hfv q z)) (hfl q z):=by
 unfold hfv hfl;split;exact h.h;exact h.f
theorem k1j {q:FbQ}(z:Nat){i:LId}(h:i∈hfl q z):i∈q.hs++q.fs:=by
 unfold hfl at h;split at h;exact List.mem_append_left _ h;exact List.mem_append_right _ h
theorem k3o {q:FbQ}{z:Nat}(h:z<2):[Value.slice q.h.1 q.h.2.1 q.h.2.2,.slice q.f.1 q.f.2.1 q.f.2.2][(z:Int).toNat]?=some (.slice (hfv q z).1 (hfv q z).2.1 (hfv q z).2.2):=by
 obtain rfl|rfl:z=0\/z=1:=by omega
 rfl;rfl
theorem u7d:z4i prog 44 4:=⟨λ_=>kr0,λ_=>kr0⟩
theorem k5a:BuildAt prog 247 [(0,1),(1,1)] [(.slice none 0 0),(.slice none 0 0)]:=BuildAt.array (sz:=1) underlying247 (λ_=>kr0) (λ_=>kr0) (λi q h=>by match i,h with|0,h=>simpa using h.symm|1,h=>simpa using h.symm|(k+2),h=>simp at h)
theorem y4t:z0y prog 44 0 0:=λ_ _=>kr0
theorem u0c:z0y prog 44 2 2:=λ_ _=>kr0
theorem x4m:z0y prog 44 3 3:=λ_ _=>kr0
theorem v0w:z2a prog 40:=λ_=>kr0
theorem j5l:z1r prog 42 1:=λ_=>kr0
theorem k3z:z1r prog 248 1:=λ_=>kr0
theorem k4d (w:World):(zeroValue 248).run prog w=.ok (.map none) w:=kr0
end Go.Proofs.YtagnnbcnnmacmaaGreatDoor
