/- Texts of the proof, joined. -/
import Derived.Lib.ItoaNum
import Derived.Lib.Join
import Derived.Lib.AtoiAll
import Derived.Lib.Split
import Derived.Lib.TrimByte
import Derived.Lib.IndexMore
import Derived.Laws.CopyRow
import Derived.Lib.AppendZerosOnto
import Derived.Test.YtlfdhllfmoplgaaGreatDoorRows
import Derived.Laws.RangeString
import Derived.Test.YtlfdhllfmoplgaaGreatDoorRE1
set_option linter.unusedVariables false
set_option linter.unusedSimpArgs false
set_option maxHeartbeats 4000000
namespace Go.Lw
open Go.RowKit
structure MOp where
  k:Int
  d:Int
  b:Int
  p:Int
  y:Int
  r:Int
theorem MOp.ext' {a c:MOp}(h:a.k=c.k/\a.d=c.d/\a.b=c.b/\a.p=c.p/\a.y=c.y/\a.r=c.r):a=c:=by
 obtain⟨D,I,O,Z,h5,h6⟩:=h;cases a;cases c;simp only at *;subst D I O Z h5 h6;rfl
instance:DecidableEq MOp:=λa c=>
  if h:a.k=c.k/\a.d=c.d/\a.b=c.b/\a.p=c.p/\a.y=c.y/\a.r=c.r then isTrue (MOp.ext' h)
  else isFalse (λe=>h (by subst e;exact ⟨rfl,rfl,rfl,rfl,rfl,rfl⟩))
def z3d:Enc MOp:=⟨λo=>[.int .u8 o.k,.int .u8 o.d,.int .u8 o.b,.int .i64 o.p,.int .u8 o.y,.int .i64 o.r],6,λ_=>rfl,λ_ u h=>by simp at h;rcases h with rfl|rfl|rfl|rfl|rfl|rfl<;>rfl,dd⟩
abbrev opV (o:MOp):Value:=.agg #[.int .u8 o.k,.int .u8 o.d,.int .u8 o.b,.int .i64 o.p,.int .u8 o.y,.int .i64 o.r]
def op0:MOp:=⟨0,0,0,0,0,0⟩
def ndV (p:Int×Int):Value:=.agg #[.int .u8 p.1,.int .i64 p.2]
def z4d (b p:Int):Int:=if b≠0/\b≠1 then 1 else if p<1\/40<p then 1 else 0
abbrev F4:=Bool×Bool×Bool×Bool
def f4L (f:F4):List Value:=[.bool f.1,.bool f.2.1,.bool f.2.2.1,.bool f.2.2.2]
theorem x6j (f:F4):∀u∈f4L f,u.oneCell'=true:=by intro u D;simp[f4L]at D;rcases D with rfl|rfl|rfl|rfl<;>rfl
def f4V (f:F4):Value:=.agg (f4L f).toArray
def f40:F4:=(false,false,false,false)
def z8x (k:Int):Option F4:=
  if k=8 then some (false,true,false,false) else if k=7 then some (false,true,false,false) else if k=6 then some (true,true,true,false)
  else if k=5 then some (true,true,true,false) else if k=4 then some (true,true,true,false) else if k=3 then some (false,false,false,true)
  else if k=2 then some (false,false,true,false) else if k=1 then some (true,false,true,false) else none
def x7j (k:Int):Option Value:=(z8x k).map f4V
theorem z8d (k:Int):(x7j k).getD (.agg #[.bool false,.bool false,.bool false,.bool false])=.agg (f4L<|(z8x k).getD f40).toArray:=by
 unfold x7j;cases z8x k<;>rfl
theorem y3j (k:Int):(x7j k).isSome=(z8x k).isSome:=by unfold x7j;cases z8x k<;>rfl
abbrev pl1 (f:F4)(o:MOp):Prop:=(f.1=true/\o.d≠0)/\o.d≠1\/¬f.1=true/\o.d≠0
abbrev pl2 (f:F4)(o:MOp):Prop:=f.2.1=true/\z4d o.b o.p≠0\/¬f.2.1=true/\¬(o.b=0/\o.p=0)
abbrev pl3 (f:F4)(o:MOp):Prop:=f.2.2.1=true/\(o.y<1\/6<o.y)\/¬f.2.2.1=true/\o.y≠0
abbrev pl4 (f:F4)(o:MOp):Prop:=f.2.2.2=true\/o.r=0
def v0k (f:F4)(o:MOp):Prop:=¬pl1 f o/\¬pl2 f o/\¬pl3 f o/\pl4 f o
instance (f:F4) (o:MOp):Decidable (v0k f o):=by unfold v0k;infer_instance
def y8e (o:MOp):Prop:=(z8x o.k).isSome=true/\v0k ((z8x o.k).getD f40) o
instance (o:MOp):Decidable (y8e o):=by unfold y8e;infer_instance
def z9i (o:MOp):Int:=if ¬y8e o then 1 else if o.r < -4\/4<o.r then 11 else 0
def k3q (n:Nat):UInt8:=UInt8.ofNat<|48+n
def j7u (n:Nat):List UInt8:=if n<10 then [k3q n] else [k3q (n / 10),k3q (n % 10)]
def x7z (n:Int):List UInt8:=if n<0 then 45::j7u n.natAbs else j7u n.toNat
theorem j4c {n:Nat}(h:n<100):Lib.decDigits n=j7u n:=by
 unfold j7u;rw[Lib.decDigits];split;rfl;rw[Lib.decDigits,dif_pos oo];rfl
theorem j1s {n:Int}(h:-99<=n/\n<=99):Lib.itoa n=x7z n:=by
 unfold Lib.itoa x7z;split<;>rw[j4c oo]
theorem y7g (n:Int):(x7z n).length<=3:=by unfold x7z j7u;(repeat' split)<;>simp
def z9e:List (List UInt8):=[[],[105,110],[111,117,116],[114,97,99,107],[107,110,105,116],[116,117,99,107],[109,105,115,115],[120,102,101,114],[100,114,111,112]]
def x2j:List (List UInt8):=[[108,101,102,116],[114,105,103,104,116]]
def z8n (k:Int):List UInt8:=z9e.getD k.toNat []
def j4v (d:Int):List UInt8:=x2j.getD d.toNat []
theorem u1b {k:Int}(h:0<=k/\k<9):(z9e.map S)[k.toNat*1]?=some (S<|z8n k):=by
 rw[Nat.mul_one,l24,z8n,List.getD];have:k.toNat<z9e.length:=by simp only[z9e,List.length];omega
 rw[l10 this];rfl
theorem x8t {k:Int}(h:0<=k/\k<2):(x2j.map S)[k.toNat*1]?=some (S<|j4v k):=by
 rw[Nat.mul_one,l24,j4v,List.getD];have:k.toNat<x2j.length:=by simp only[x2j,List.length];omega
 rw[l10 this];rfl
def v5k (b p:Int):List UInt8:=if z4d b p≠0 then [] else if b=0 then [102]++x7z p else [98]++x7z p
def y4o (o:MOp):List (List UInt8):=
  if o.k=1 then [x7z o.y,j4v o.d] else if o.k=2 then [x7z o.y] else if o.k=3 then [x7z o.r]
  else if (o.k=4\/o.k=5)\/o.k=6 then [j4v o.d,v5k o.b o.p,x7z o.y] else if o.k=7\/o.k=8 then [v5k o.b o.p] else []
def k0c (o:MOp):List UInt8:=if z9i o≠0 then [] else Lib.join (z8n o.k::y4o o) [32]
theorem v0p {b p:Int}:z4d b p=0↔(b=0\/b=1)/\1<=p/\p<=40:=by unfold z4d;(repeat' split)<;>omega
theorem u5e {k:Int}(h:(z8x k).isSome=true):1<=k/\k<=8:=by unfold z8x at h;(repeat' split at h)<;>first|omega|simp at h
theorem k2n {o:MOp}(h:z9i o=0):y8e o/\-4<=o.r/\o.r<=4:=by
 unfold z9i at h;split at h;omega;rename_i D;split at h;omega;rename_i I;exact⟨l16.1 D,oo,oo⟩
theorem v7o {o:MOp}(h:z9i o=0):1<=o.k/\o.k<=8/\0<=o.d/\o.d<=1/\0<=o.y/\o.y<=6/\-4<=o.r/\o.r<=4:=by
 obtain⟨⟨Z,D,h3,I,h5⟩,h6,h7⟩:=k2n h
 have O:=u5e Z
 generalize (z8x o.k).getD f40=f at D h3 I h5
 refine⟨O.1,O.2,?_,?_,?_,?_,h6,h7⟩<;>
 ·revert D I
  unfold pl1 pl3
  cases f.1<;>cases f.2.2.1<;>simp<;>omega
theorem u5o {b p:Int}:(v5k b p).length<=6:=by
 unfold v5k;split;simp;rename_i h;have D:=v0p.1<|l16.1 h;have:=y7g p;split<;>simp<;>omega
theorem v5l (k:Int):(z8n k).length<=4:=by
 have:∀n:Nat,(z9e.getD n []).length<=4
  | 0|1|2|3|4|5|6|7|8=>by decide
  | n+9=>by simp[z9e,List.getD]
 exact this _
theorem u5n (k:Int):(j4v k).length<=5:=by
 have:∀n:Nat,(x2j.getD n []).length<=5
  | 0|1=>by decide
  | n+2=>by simp[x2j,List.getD]
 exact this _
theorem j9p (o:MOp):(y4o o).length<=3:=by unfold y4o;(repeat' split)<;>simp
theorem u7c (o:MOp)(h:z9i o=0):(Lib.join (z8n o.k::y4o o) [32]).length<=30:=by
 have hr:=v7o h;have D:=v5l o.k;have I:=u5n o.d;have O:=y7g o.y;have Z:=y7g o.r;have h5:=u5o (b:=o.b) (p:=o.p);rw[Lib.join_cons];unfold y4o Lib.joinTail;(repeat' split)<;>simp<;>omega
def MOp.Ok (o:MOp):Prop:=0<=o.k/\0<=o.d/\0<=o.b/\0<=o.y/\o.k<=255/\o.d<=255/\o.b<=255/\o.y<=255
def u1o (c:UInt8):Bool:=decide (48<=(c.toNat:Int)/\(c.toNat:Int)<=57)
def v6u (n:Int)(c:UInt8):Int:=10*n+((c.toNat:Int)-48)
def y6j (l:List UInt8):Int:=l.foldl v6u 0
def j6r (l:List UInt8):Option Int:=if ((l.getD 0 0).toNat:Int)=102 then some 0 else if ((l.getD 0 0).toNat:Int)=98 then some 1 else none
def x5s (l:List UInt8):Int×Int:=
  if (l.length:Int)<2\/3<(l.length:Int) then (0,0) else
  match j6r l with
  | none=>(0,0)
  | some b=>if (l.drop 1).all u1o=false then (0,0) else if v5k b (y6j<|l.drop 1)≠l then (0,0) else (b,y6j<|l.drop 1)
theorem y8r (l:List UInt8)(k:Nat)(h:k<l.length):l.take (k+1)=l.take k++[l.getD k 0]:=by
 rw[List.take_succ_eq_append_getElem h];simp[List.getD,h]
theorem v2i (l:List UInt8)(k:Nat)(h:k<l.length):y6j (l.take<|k+1)=10*y6j (l.take k)+(((l.getD k 0).toNat:Int)-48):=by
 rw[y8r l k h,y6j,List.foldl_append];rfl
theorem u6m (l:List UInt8)(k:Nat)(h:k<l.length)(D:(l.take k).all u1o=true)(I:48<=((l.getD k 0).toNat:Int)/\((l.getD k 0).toNat:Int)<=57):(l.take<|k+1).all u1o=true:=by
 rw[y8r l k h,List.all_append,D,List.all_cons,List.all_nil,u1o,decide_eq_true I];rfl
theorem j3m (l:List UInt8)(k:Nat)(h:k<l.length)(I:¬(48<=((l.getD k 0).toNat:Int)/\((l.getD k 0).toNat:Int)<=57)):l.all u1o=false:=by
 rw[Bool.eq_false_iff];intro D;rw[l89]at D;have:=D (l.getD k 0) (by simp[List.getD,h]);simp only[u1o,decide_eq_true_eq]at this;exact I this
theorem x3n {l:List UInt8}(h:l.all u1o=true)(hl:l.length<=2):0<=y6j l/\y6j l<=99:=by
 match l,h,hl with
 | [],_,_=>decide
 | [a],h,_=>simp[u1o]at h;simp[y6j,v6u];omega
 | [a,b],h,_=>simp[u1o]at h;simp[y6j,v6u];omega
 | _::_::_::_,_,hl=>simp at hl
def u5y (l:List UInt8):Int:=match Lib.atoiAll l with|.ok v=>v|_=>0
def k2k (l:List UInt8):Int:=if l=[114,105,103,104,116] then 1 else 0
def y7i (w:List UInt8):Nat->Int
  | 0=>0
  | i+1=>if z9e.getD i []=w then (i:Int) else y7i w i
def y9v (w:List UInt8):Int:=y7i w 9
theorem x4f (w:List UInt8):∀i:Nat,0<=y7i w i/\y7i w i<=i
 | 0=>by simp[y7i]
 | i+1=>by have:=x4f w i;unfold y7i;split<;>omega
theorem u6z {i:Nat}(h:i<9):(z9e.map S)[((i:Nat):Int).toNat]?=some (S<|z9e.getD i []):=by
 rw[l90,l24,List.getD,l10 (show i<z9e.length from h)];rfl
def fD (k:Int):Bool:=((z8x k).getD f40).1
def fN (k:Int):Bool:=((z8x k).getD f40).2.1
def y6w (k:Int)(ws:List (List UInt8)):MOp:=
  if k=1/\(ws.length:Int)=3 then ⟨k,k2k<|ws.getD 2 [],0,0,u5y (ws.getD 1 []) % 256,0⟩
  else if k=2/\(ws.length:Int)=2 then ⟨k,0,0,0,u5y (ws.getD 1 []) % 256,0⟩
  else if k=3/\(ws.length:Int)=2 then ⟨k,0,0,0,0,u5y<|ws.getD 1 []⟩
  else if fD k=true/\(ws.length:Int)=4 then ⟨k,k2k<|ws.getD 1 [],(x5s<|ws.getD 2 []).1,(x5s<|ws.getD 2 []).2,u5y (ws.getD 3 []) % 256,0⟩
  else if fN k=true/\(ws.length:Int)=2 then ⟨k,0,(x5s<|ws.getD 1 []).1,(x5s<|ws.getD 1 []).2,0,0⟩
  else ⟨k,0,0,0,0,0⟩
def z4r (ws:List (List UInt8)):MOp:=y6w (y9v<|ws.getD 0 []) ws
def y8n (l:List UInt8):MOp×Int:=
  if z9i (z4r<|Lib.split l [32])≠0\/k0c (z4r<|Lib.split l [32])≠l then (op0,4) else (z4r<|Lib.split l [32],0)
theorem v2o (D:List UInt8)(sv:Nat):∀(k:Nat) (l:List UInt8),1<=(Lib.splitK D sv k l).length
 | 0,l=>by simp[Lib.splitK]
 | k+1,l=>by unfold Lib.splitK;split<;>simp
theorem v9p (l D:List UInt8):1<=(Lib.split l D).length:=v2o _ _ _ _
theorem y8s (D:List UInt8):∀(k:Nat) (l x:List UInt8),x∈Lib.splitK D 0 k l->x.length<=l.length
 | 0,l,x,h=>by simp[Lib.splitK]at h;rw[h];exact l20 _
 | k+1,l,x,h=>by
  unfold Lib.splitK at h
  split at h
  ·simp at h;rw[h];exact l20 _
  rw[l55]at h
  rcases h with rfl|h
  ·simp;omega
  have:=y8s D k _ x h
  simp at this;omega
theorem v9v (l D:List UInt8)(i:Nat):((Lib.split l D).getD i []).length<=l.length:=by
 rw[List.getD];cases e:(Lib.split l D)[i]? with
 | none=>simp
 | some y=>exact y8s D _ l y<|List.mem_of_getElem? e
theorem y2o (x:List UInt8)(c:UInt8):(Lib.trimB x c).length<=x.length:=by
 unfold Lib.trimB Lib.trimLeftB Lib.trimRightB;refine l37 ((List.dropWhile_suffix _).length_le) ?_;rw[l85];refine l37 ((List.dropWhile_suffix _).length_le) ?_;rw[l85];exact l20 _
end Go.Lw
namespace Go.G08
open Go.Lw Go.G21
abbrev Bed:=List<|List LId
structure Bd where
  f:Bed
  b:Bed
deriving DecidableEq
def trimB:Bed->Bed
  | []=>[]
  | s::l=>if trimB l=[]/\s=[] then [] else s::trimB l
def atB (l:Bed)(n:Int):List LId:=l.getD (n-1).toNat []
def Bd.at (B:Bd)(b n:Int):List LId:=if b=0 then atB B.f n else atB B.b n
def Bd.atC (B:Bd)(b n:Int):List LId:=if z4d b n=0 then B.at b n else []
def x5q (l:Bed)(n:Nat):Bed:=l++List.replicate (n-l.length) []
def y7s (l:Bed)(n:Nat)(s:List LId):Bed:=trimB (if n=0 then l else (x5q l n).set (n-1) s)
def Bd.put (B:Bd)(b n:Int)(s:List LId):Bd:=if b=0 then ⟨y7s B.f n.toNat s,trimB B.b⟩ else ⟨trimB B.f,y7s B.b n.toNat s⟩
def Bd.flat (B:Bd):List LId:=B.f.flatten++B.b.flatten
structure BdOk (B:Bd):Prop where
  lf:B.f.length<=40
  lb:B.b.length<=40
  ss:∀s∈B.f++B.b,s.length<=4
  nm:∀i∈B.flat,y2n i
  nd:B.flat.Nodup
structure BdW (B:Bd):Prop where
  lf:B.f.length<=40
  lb:B.b.length<=40
  ss:∀s∈B.f++B.b,s.length<=4
  nm:∀i∈B.flat,y2n i
theorem BdOk.w {B:Bd}(h:BdOk B):BdW B:=⟨h.lf,h.lb,h.ss,h.nm⟩
def z2f (b n r:Int):Int:=if z4d b n≠0\/¬(-4<=r/\r<=4) then 0 else if b=0 then 4*n+2 else 4*(n+r)
structure Hd where
  id:LId
  b:Int
  n:Int
  s:Int
deriving DecidableEq
def hd0:Hd:=⟨id0,0,0,0⟩
def hdS (b r:Int)(k:Nat)(x:LId):Hd:=⟨x,b,(k:Int)+1,z2f b ((k:Int)+1) r⟩
def hds (b r:Int)(l:Bed)(i:Nat):List Hd:=(List.range i).flatMap λk=>(l.getD k []).map<|hdS b r k
def x8c (B:Bd)(r:Int):List Hd:=hds 0 r B.f B.f.length++hds 1 r B.b B.b.length
def z9c (h:Hd):List Hd->List Hd
  | []=>[h]
  | x::l=>if h.s<x.s then h::x::l else x::z9c h l
def z5r (l:List Hd):List Hd:=l.foldl (λa h=>z9c h a) []
def z2l (B:Bd)(r:Int):List Hd:=z5r<|x8c B r
def btw (l:List Hd)(fr to:Int):List Pa:=
  if fr<to then (l.filter λh=>decide (fr<h.s/\h.s<to)).map λh=>⟨h.id,decide (h.b=1),1⟩
  else ((l.filter λh=>decide (to<h.s/\h.s<fr)).map λh=>⟨h.id,decide (h.b=1),0⟩).reverse
def x6a (d:Int)(x o:LId):Cx:=if d=0 then ⟨o,x,1⟩ else ⟨x,o,-1⟩
def y1f (r d:Int)(k:Nat):Int:=if d=0 then (k:Int)+1+r-1 else (k:Int)+1+r
def u1p (B:Bd)(r d:Int)(k:Nat):List Cx:=(B.b.getD k []).flatMap λx=>(B.atC 0<|y1f r d k).reverse.map<|x6a d x
def x5r (B:Bd)(r d:Int)(i:Nat):List Cx:=(List.range i).flatMap<|u1p B r d
def z2o (B:Bd)(r d:Int):List Cx:=if d=1 then (x5r B r d B.b.length).reverse else x5r B r d B.b.length
def stI (d:Int):Int:=if d=0 then -1 else 1
def x0e (B:Bd)(r d p:Int)(k:Nat):List Pa:=if p≠z2f 1 ((k:Int)+1) r+stI d/\p≠z2f 1 ((k:Int)+1) r+3*stI d then [] else (B.b.getD k []).map λx=>⟨x,true,1-d⟩
def y4q (B:Bd)(r d p:Int)(i:Nat):List Pa:=(List.range i).flatMap<|x0e B r d p
def z7h (B:Bd)(r d p:Int):List Pa:=if d=1 then (y4q B r d p B.b.length).reverse else y4q B r d p B.b.length
def z6m (a b:LId):Int:=if a.y<b.y then -1 else if b.y<a.y then 1 else if a.n<b.n then -1 else if b.n<a.n then 1 else 0
def isC (a b:LId)(c:Cx):Bool:=decide (c.a=a/\c.b=b)
def z6w (l:List Cx)(a b:LId):Int:=((l.find?<|isC a b).map Cx.n).getD 0
def y4p (l:List Cx)(a b:LId)(n:Int):List Cx:=if l.any (isC a b) then l.map (λc=>if isC a b c then ⟨a,b,n⟩ else c) else l++[⟨a,b,n⟩]
def x7u (l:List Cx)(a b:LId):List Cx:=l.filter λc=>!isC a b c
def y3z (l:List Cx)(c:Cx):Except Int (List Cx):=
  let k:LId×LId:=if 0<z6m c.a c.b then (c.b,c.a) else (c.a,c.b)
  let n:=z6w l k.1 k.2+c.n
  if n < -1048576\/1048576<n then .error 3 else if n=0 then .ok (x7u l k.1 k.2) else .ok (y4p l k.1 k.2 n)
def z4e:List Cx->List Cx->Except Int (List Cx)
  | l,[]=>.ok l
  | l,c::r=>match y3z l c with|.error e=>.error e|.ok l'=>z4e l' r
structure MSt where
  rk:Int
  B:Bd
  ys:List Yn
  tb:Tb
  cr:List Cx
  fa:List LId
def yn0:Yn:=⟨false,0,0,false,[]⟩
def MSt.y (p:MSt)(y:Int):Yn:=p.ys.getD (y-1).toNat yn0
def MSt.setY (p:MSt)(y:Int)(q:Yn):MSt:={ p with ys:=p.ys.set (y-1).toNat q }
abbrev MR:=Except Int MSt
def lvS (y:Yn):Yn:=⟨false,0,y.ct,false,[]⟩
def mkS (y:Yn):Yn:=⟨true,y.pl,y.ct+1,false,[]⟩
def inM (p:MSt)(o:MOp):MR:=if enE (p.y o.y) o.d≠0 then .error (enE (p.y o.y) o.d) else .ok (p.setY o.y<|enS (p.y o.y) o.d)
def x6h (p:MSt)(o:MOp):MR:=if lvE (p.y o.y)≠0 then .error (lvE<|p.y o.y) else .ok (p.setY o.y<|lvS<|p.y o.y)
def z5o (p:MSt)(o:MOp):Int:=if (p.y o.y).inn=false then 12 else if o.d=1 then (if z2f o.b o.p p.rk<(p.y o.y).pl then 12 else 0) else if (p.y o.y).pl<z2f o.b o.p p.rk then 12 else 0
def z6n (p:MSt)(o:MOp):Int:=if o.d=1 then z2f o.b o.p p.rk+1 else z2f o.b o.p p.rk-1
def y2h (p:MSt)(y en:Int):List Pa:=btw (z2l p.B p.rk) (p.y y).pl en
def z8v (p:MSt)(y pl en:Int):MR:=if goE (p.y y) pl (y2h p y en)≠0 then .error (goE (p.y y) pl<|y2h p y en) else .ok (p.setY y<|goS (p.y y) pl<|y2h p y en)
def MSt.row (p:MSt)(y:Int):List Lp:=p.tb.getD (y-1).toNat []
def y1z (p:MSt)(o:MOp)(th st:List LId):MR:=
  if mkE (p.y o.y)≠0 then .error (mkE<|p.y o.y) else if 2048<=z4o p.tb then .error 3
  else .ok { p with B:=p.B.put o.b o.p<|st++[⟨o.y,(p.y o.y).ct⟩],ys:=p.ys.set (o.y-1).toNat<|mkS<|p.y o.y,tb:=p.tb.set (o.y-1).toNat (p.row o.y++[⟨o.b,(p.y o.y).nw,th,(p.y o.y).pe⟩]) }
def y1i (p:MSt)(o:MOp):MR:=if z5o p o≠0 then .error (z5o p o) else match z8v p o.y (z6n p o) (z2f o.b o.p p.rk) with
  | .error e=>.error e
  | .ok q=>y1z q o (q.B.at o.b o.p) []
def y0x (p:MSt)(o:MOp):MR:=if z5o p o≠0 then .error (z5o p o) else match z8v p o.y (z6n p o) (z2f o.b o.p p.rk) with
  | .error e=>.error e
  | .ok q=>if 4<=(q.B.at o.b o.p).length then .error 9 else y1z q o [] (q.B.at o.b o.p)
def y3h (p:MSt)(o:MOp):MR:=if z5o p o≠0 then .error (z5o p o) else z8v p o.y (z6n p o) (z6n p o)
def z5q (b n r:Int):Int:=if b=1 then n+r else n-r
def x6s (p:MSt)(o:MOp):Int:=min (z2f o.b o.p p.rk) (z2f (1-o.b) (z5q o.b o.p p.rk) p.rk)+1
def y0z (p:MSt)(o:MOp):List LId:=if o.b=1 then p.B.at 1 o.p++p.B.at 0 (z5q 1 o.p p.rk) else p.B.at 1 (z5q 0 o.p p.rk)++p.B.at 0 o.p
def z8i (p:MSt)(o:MOp):MR:=
  if p.B.at o.b o.p=[] then .error 13
  else if z4d (1-o.b) (z5q o.b o.p p.rk)≠0 then .error 11
  else if ∃y∈p.ys,y.inn=true/\y.pl=x6s p o then .error 12
  else if 4<(p.B.at o.b o.p).length+(p.B.at (1-o.b)<|z5q o.b o.p p.rk).length then .error 9
  else .ok { p with B:=(p.B.put o.b o.p []).put (1-o.b) (z5q o.b o.p p.rk) (y0z p o) }
def y3p (p:MSt)(o:MOp):MR:=if p.B.at o.b o.p=[] then .error 13 else .ok { p with B:=p.B.put o.b o.p [],fa:=p.fa++p.B.at o.b o.p }
def z7i (p:MSt)(d:Int)(y:Yn):Except Int Yn:=if y.inn=false then .ok y else if goE y y.pl (z7h p.B p.rk d y.pl)≠0 then .error (goE y y.pl<|z7h p.B p.rk d y.pl) else .ok (goS y y.pl<|z7h p.B p.rk d y.pl)
def z4c (p:MSt)(d:Int):List Yn->Except Int (List Yn)
  | []=>.ok []
  | y::l=>match z7i p d y with
    | .error e=>.error e
    | .ok y'=>match z4c p d l with
      | .error e=>.error e
      | .ok l'=>.ok<|y'::l'
def z5x (p:MSt)(d:Int):MR:=match z4c p d p.ys with
  | .error e=>.error e
  | .ok ys=>match z4e p.cr (z2o p.B p.rk d) with
    | .error e=>.error e
    | .ok cr=>.ok { p with ys:=ys,cr:=cr,rk:=p.rk+stI d }
def z4l:Nat->MSt->Int->MR
  | 0,p,_=>.ok p
  | n+1,p,r=>if p.rk=r then .ok p else match z5x p (if r<p.rk then 0 else 1) with
    | .error e=>.error e
    | .ok q=>z4l n q r
def u4j (p:MSt)(o:MOp):MR:=z4l 8 p o.r
def opM (p:MSt)(o:MOp):MR:=
  if o.k=1 then inM p o else if o.k=2 then x6h p o else if o.k=3 then u4j p o else if o.k=4 then y1i p o
  else if o.k=5 then y0x p o else if o.k=6 then y3h p o else if o.k=7 then z8i p o else y3p p o
def doM (p:MSt)(o:MOp):MR:=if z9i o≠0 then .error (z9i o) else opM p o
def z3u:Nat->MSt->List MOp->Except (Int×Nat) MSt
  | _,p,[]=>.ok p
  | i,p,o::l=>match doM p o with
    | .error e=>.error (e,i)
    | .ok q=>z3u (i+1) q l
def start:MSt:=⟨0,⟨[],[]⟩,List.replicate 6 yn0,List.replicate 6 [],[],[]⟩
theorem y2y:∀(l:Bed) (i:Nat),(trimB l).getD i []=l.getD i []
 | [],i=>rfl
 | s::l,i=>by
  have D:=y2y l
  unfold trimB
  split
  ·rename_i h
   cases i with
   | zero=>simp[h.2]
   | succ i=>have:=D i;rw[h.1]at this;simpa using this
  cases i with
  | zero=>simp
  | succ i=>simpa using D i
theorem y2j:∀l:Bed,(trimB l).flatten=l.flatten
 | []=>rfl
 | s::l=>by
  have D:=y2j l
  unfold trimB
  split
  ·rename_i h
   rw[h.1]at D
   simp only[List.flatten_cons,<-D,h.2];rfl
  simp only[List.flatten_cons,D]
theorem y2o:∀l:Bed,(trimB l).length<=l.length
 | []=>l20 _
 | s::l=>by
  have D:=y2o l
  unfold trimB
  split
  ·simp
  simp only[l34];omega
theorem y4v:∀(l:Bed) {s:List LId},s∈trimB l->s∈l
 | [],s,h=>h
 | t::l,s,h=>by
  unfold trimB at h
  split at h
  ·cases h
  rcases l55.1 h with rfl|h
  ·exact l43 ..
  exact l38 _<|y4v l h
theorem x9q:∀l:Bed,(∀s∈l,s=[])->trimB l=[]
 | [],_=>rfl
 | s::l,h=>by
  unfold trimB
  rw[if_pos ⟨x9q l λt D=>h t<|l38 _ D,h s (l43 ..)⟩]
theorem y3g:∀(l:Bed) (n:Nat),n<=l.length->(∀j,n<=j->l.getD j []=[])->(n=0\/l.getD (n-1) []≠[])->l.take n=trimB l
 | [],n,h,_,_=>by simp[trimB]
 | s::l,0,_,h,_=>by
  rw[x9q]
  ·rfl
  intro t ht
  obtain⟨i,hi,rfl⟩:=l29 ht
  have:=h i<|l17 _
  rwa [List.getD,l10 hi]at this
 | s::l,n+1,hl,h,hn=>by
  have O:=y3g l n (by simpa using hl) (λj hj=>by have:=h (j+1) oo;simpa using this)
  unfold trimB
  cases n with
  | zero=>
   have Z:s≠[]:=by simpa using hn
   rw[if_neg (λe=>Z e.2)]
   have:=O<|.inl U
   simp only[List.take_succ_cons,l98,this] at *
  | succ n=>
   have D:l.getD n []≠[]:=by simpa using hn
   have:=O<|.inr D
   rw[if_neg,List.take_succ_cons,this]
   rintro⟨e,-⟩
   have I:=y2y l n
   rw[e]at I
   exact D (by simpa using I.symm)
theorem v0q (l:Bed)(n i:Nat):(x5q l n).getD i []=l.getD i []:=by
 unfold x5q;by_cases h:i<l.length;simp only[List.getD,l44 h];rw[List.getD,List.getD,l28 oo,l65,l30 oo];split<;>rfl
theorem u2m (l:Bed)(n:Nat):(x5q l n).flatten=l.flatten:=by
 unfold x5q;rw[List.flatten_append];have:(List.replicate (n-l.length) ([]:List LId)).flatten=[]:=by simp
 rw[this,l27]
theorem y9q (l:Bed)(n:Nat):(x5q l n).length=max l.length n:=by
 unfold x5q;rw[l13,l22];omega
theorem u3y (l:Bed){n:Nat}(hn:1<=n)(s:List LId)(i:Nat):(y7s l n s).getD i []=if i=n-1 then s else l.getD i []:=by
 unfold y7s;rw[y2y,if_neg oo,z1k (by rw[y9q];omega),v0q];split;rename_i e;rw[if_pos e.symm];rename_i e;rw[if_neg (λh=>e h.symm)]
theorem u8f {l:Bed}{n m:Int}(hn:1<=n)(D:1<=m)(s:List LId):atB (y7s l n.toNat s) m=if m=n then s else atB l m:=by
 unfold atB;rw[u3y _ oo];by_cases e:m=n;subst e;rw[if_pos oo,if_pos U];rw[if_neg oo,if_neg e]
theorem v8s (l:Bed)(n:Int):atB (trimB l) n=atB l n:=y2y l _
theorem x4m (l:Bed){n:Int}(hn:1<=n)(s:List LId)(i:LId):(y7s l n.toNat s).flatten.count i+(atB l n).count i=l.flatten.count i+s.count i:=by
 unfold y7s;rw[y2j,if_neg oo];have h:=z9a (α:=List LId) (λx=>x) (x5q l n.toNat) (n.toNat-1) [] s i (by rw[y9q];omega);simp only[List.flatMap_id']at h;rw[u2m,v0q]at h;have e:n.toNat-1=(n-1).toNat:=by omega
 unfold atB;rw[e]at h ⊢;omega
theorem v8i (l:Bed)(n:Nat)(s:List LId):(y7s l n s).length<=max l.length n:=by
 unfold y7s;refine l37 (y2o _) ?_;split;omega;rw[l19,y9q];exact l20 _
theorem j4n (l:Bed)(n:Nat)(s:List LId){t:List LId}(h:t∈y7s l n s):t=s\/t∈l\/t=[]:=by
 unfold y7s at h;have h:=y4v _ h;split at h;exact .inr<|.inl h;rcases List.mem_or_eq_of_mem_set h with h|h
 unfold x5q at h;rcases l23.1 h with h|h
 exact .inr<|.inl h;exact .inr<|.inr<|List.eq_of_mem_replicate h;exact .inl h
theorem z2t {b n:Int}(h:z4d b n=0):(b=0\/b=1)/\1<=n/\n<=40:=by
 unfold z4d at h;split at h;omega;split at h<;>omega
theorem y5i {b n:Int}(h:(b=0\/b=1)/\1<=n/\n<=40):z4d b n=0:=by
 unfold z4d;rw[if_neg oo,if_neg oo]
theorem z5c (B:Bd){b n:Int}(h:z4d b n=0)(s:List LId)(i:LId):(B.put b n s).flat.count i+(B.at b n).count i=B.flat.count i+s.count i:=by
 obtain⟨I,D,O⟩:=z2t h;unfold Bd.put Bd.at Bd.flat;split;simp only[l21,y2j];have:=x4m B.f D s i;omega;simp only[l21,y2j];have:=x4m B.b D s i;omega
theorem y6i (B:Bd){b n b' D:Int}(h:z4d b n=0)(Z:z4d b' D=0)(s:List LId):(B.put b n s).at b' D=if b'=b/\D=n then s else B.at b' D:=by
 obtain⟨h1,I,h3⟩:=z2t h;obtain⟨h4,O,h6⟩:=z2t Z;unfold Bd.put Bd.at;by_cases e:b=0;rw[if_pos e];by_cases e':b'=0;rw[if_pos e',u8f I O];by_cases e2:D=n;rw[if_pos e2,if_pos ⟨oo,e2⟩];rw[if_neg e2,if_neg (λk=>e2 k.2),if_pos e'];rw[if_neg e',v8s,if_neg (λk=>oo),if_neg e'];rw[if_neg e];by_cases e':b'=0;rw[if_pos e',v8s,if_neg (λk=>oo),if_pos e'];rw[if_neg e',u8f I O];by_cases e2:D=n;rw[if_pos e2,if_pos ⟨oo,e2⟩];rw[if_neg e2,if_neg (λk=>e2 k.2),if_neg e']
theorem v6y {l:Bed}{n:Int}(h:atB l n≠[]):atB l n∈l:=by
 unfold atB at *
 by_cases e:(n-1).toNat<l.length;exact z0z e;exact absurd (by rw[List.getD,l30 oo];rfl) h
theorem v8g {B:Bd}{b n:Int}(h:B.at b n≠[]):B.at b n∈B.f++B.b:=by
 unfold Bd.at at *
 split;rename_i e;rw[if_pos e]at h;exact l56 _<|v6y h;rename_i e;rw[if_neg e]at h;exact l66 _<|v6y h
theorem y7j {B:Bd}(h:BdOk B)(b n:Int):(B.at b n).length<=4:=by
 by_cases e:B.at b n=[];rw[e];simp;exact h.ss _<|v8g e
theorem j3d (B:Bd):B.flat=(B.f++B.b).flatten:=by unfold Bd.flat;rw[List.flatten_append]
theorem y1q {B:Bd}{b n:Int}{i:LId}(h:i∈B.at b n):i∈B.flat:=by
 rw[j3d];exact List.mem_flatten.2 ⟨_,v8g (λe=>by rw[e]at h;cases h),h⟩
theorem y2w {B:Bd}{b n:Int}(h:z4d b n=0){s:List LId}{i:LId}(hi:i∈(B.put b n s).flat):i∈s\/i∈B.flat:=by
 have:=z5c B h s i;have D:=l117.2 hi;by_cases e:0<s.count i;exact .inl<|l117.1 e;exact .inr<|l117.1 oo
theorem BdOk.put {B:Bd}(h:BdOk B){b n:Int}(hn:z4d b n=0){s:List LId}(h4:s.length<=4)(a0:∀i∈s,y2n i)(Z:∀i,B.flat.count i+s.count i<=(B.at b n).count i+1):BdOk (B.put b n s):=by
 obtain⟨h1,h2,h3⟩:=z2t hn;have hl:=h.lf;have O:=h.lb;refine⟨?_,?_,?_,?_,?_⟩;unfold Bd.put;split;have:=v8i B.f n.toNat s;simp only;omega;have:=y2o B.f;simp only;omega;unfold Bd.put;split;have:=y2o B.b;simp only;omega;have:=v8i B.b n.toNat s;simp only;omega;intro t D;unfold Bd.put at D;have I:∀l:Bed,(∀s∈l,s.length<=4)->∀t∈y7s l n.toNat s,t.length<=4:=λl hl t D=>by
  rcases j4n l _ s D with rfl|D|rfl
  exact h4;exact hl t D;simp
 have hf:∀s∈B.f,s.length<=4:=λs hs=>h.ss s<|l56 _ hs;have O:∀s∈B.b,s.length<=4:=λs hs=>h.ss s<|l66 _ hs;split at D;rcases l23.1 D with D|D
 exact I _ hf _ D;exact O _<|y4v _ D;rcases l23.1 D with D|D
 exact hf _<|y4v _ D;exact I _ O _ D;intro i hi;rcases y2w hn hi with hi|hi
 exact a0 i hi;exact h.nm i hi;rw[l81];intro i;have:=z5c B hn s i;have:=Z i;omega
structure MInv (p:MSt):Prop where
  rk:-4<=p.rk/\p.rk<=4
  B:BdOk p.B
  ly:p.ys.length=6
  lt:p.tb.length=6
  yn:∀y,y<6->y1s (p.ys.getD y yn0)/\(p.ys.getD y yn0).ct=z3e p.tb y
  has:∀i∈p.B.flat,z5e p.tb i
  cnt:p.B.flat.length+p.fa.length<=z4o p.tb
  all:z4o p.tb<=2048
  cv:∀c∈p.cr,-1048576<=c.n/\c.n<=1048576
theorem y5s:MInv start:=by
 refine⟨dd,⟨dd,dd,by intro s I;simp[start]at I,by intro i hi;simp[start,Bd.flat]at hi,by simp[start,Bd.flat]⟩,rfl,rfl,λy O=>?_,by intro i hi;simp[start,Bd.flat]at hi,dd,dd,by intro c D;simp[start]at D⟩;have:start.ys.getD y yn0=yn0:=by
  simp only[start,List.getD,l65];split<;>rfl
 rw[this];refine⟨dd,?_⟩;simp only[start,z3e,List.getD,l65];rw[if_pos O];rfl
theorem z3s {o:MOp}(h:z9i o=0):(o.k=1\/o.k=2\/o.k=3\/o.k=4\/o.k=5\/o.k=6\/o.k=7\/o.k=8)/\(o.k=1->z6k o.d)/\((o.k=1\/o.k=2\/o.k=4\/o.k=5\/o.k=6)->1<=o.y/\o.y<=6)/\((o.k=4\/o.k=5\/o.k=6)->z6k o.d)/\((4<=o.k)->z4d o.b o.p=0)/\(o.k=3->-4<=o.r/\o.r<=4):=by
 unfold z9i at h
 split at h
 ·omega
 rename_i I
 have I:=l16.1 I
 split at h
 ·omega
 rename_i hr
 obtain⟨D,O,Z,h4,h5⟩:=I
 unfold z8x at D O Z h4 h5
 unfold z6k
 unfold pl1 at O
 unfold pl2 at Z
 unfold pl3 at h4
 unfold pl4 at h5
 have a0:∀a:Int,¬(a≠0)->a=0:=λa h=>by omega
 repeat' split at D
 all_goals first|(simp at D;done)|skip
 all_goals simp_all
 all_goals omega
structure BdQ where
  f:SV
  b:SV
  fs:List IQ
  bs:List IQ
abbrev _root_.bvv (s:BdQ):Value:=.agg #[.slice s.f.1 s.f.2.1 s.f.2.2,.slice s.b.1 s.b.2.1 s.b.2.2]
abbrev plB (l:List IQ):Bed:=l.map Prod.snd
abbrev BdQ.p (q:BdQ):Bd:=⟨plB q.fs,plB q.bs⟩
abbrev bdL (q:BdQ):List Value:=[.slice q.f.1 q.f.2.1 q.f.2.2,.slice q.b.1 q.b.2.1 q.b.2.2]
structure BdAt (w:World) (q:BdQ):Prop where
  f:Sl z6q w (slv q.f) q.fs
  fi:IqAt w q.fs
  b:Sl z6q w (slv q.b) q.bs
  bi:IqAt w q.bs
theorem BdAt.ext {w w':World}{q:BdQ}(h:BdAt w q)(hf:Fr [] w w'):BdAt w' q:=⟨h.f.ext hf,h.fi.ext hf,h.b.ext hf,h.bi.ext hf⟩
theorem BdAt.len {w:World}{q:BdQ}(h:BdAt w q):q.f.2.1=q.fs.length/\q.b.2.1=q.bs.length:=⟨z2c h.f,z2c h.b⟩
def RwO (S I base:Nat)(w:World)(v:Value)(l:List IQ):Prop:=Lw.Own z6q S base w v l/\∀q∈l,Lw.Own z1g I base w (slv q.1) q.2
theorem RwO.ext {S I base:Nat}{w w':World}{v:Value}{l:List IQ}(h:RwO S I base w v l)(hf:Fr [] w w'):RwO S I base w' v l:=⟨h.1.ext hf,λq D=>(h.2 q D).ext hf⟩
theorem RwO.low {S I base b:Nat}{w:World}{v:Value}{l:List IQ}(h:RwO S I base w v l)(hb:b<=base):RwO S I b w v l:=⟨h.1.low hb,λq D=>(h.2 q D).low hb⟩
theorem RwO.at {S I base:Nat}{w:World}{v:Value}{l:List IQ}(h:RwO S I base w v l):IqAt w l:=λq D=>(h.2 q D).sl
theorem RwO.fr {S I base:Nat}{w w':World}{v:Value}{l:List IQ}{T:List Nat}(h:RwO S I base w v l)(hf:Fr T w w')(Z:∀k∈T,k<base):RwO S I base w' v l:=
 ⟨h.1.fr hf λk O D=>by have:=Z k O;have:=(h.1.blk k D).1;omega,λq hq=>(h.2 q hq).fr hf λk O D=>by have:=Z k O;have:=((h.2 q hq).blk k D).1;omega⟩
structure BdO (S I base:Nat) (w:World) (q:BdQ):Prop where
  f:RwO S I base w (slv q.f) q.fs
  b:RwO S I base w (slv q.b) q.bs
theorem BdO.ext {S I base:Nat}{w w':World}{q:BdQ}(h:BdO S I base w q)(hf:Fr [] w w'):BdO S I base w' q:=⟨h.f.ext hf,h.b.ext hf⟩
theorem BdO.low {S I base b:Nat}{w:World}{q:BdQ}(h:BdO S I base w q)(hb:b<=base):BdO S I b w q:=⟨h.f.low hb,h.b.low hb⟩
theorem BdO.at {S I base:Nat}{w:World}{q:BdQ}(h:BdO S I base w q):BdAt w q:=⟨h.f.1.sl,h.f.at,h.b.1.sl,h.b.at⟩
theorem z4b (l:List IQ)(i:Nat):(plB l).getD i []=(l.getD i iq0).2:=by
 unfold plB;rw[List.getD,List.getD,l24];cases l[i]?<;>rfl
theorem v1g {l:List IQ}{i:Nat}(h:l.length<=i):(l.getD i iq0).2=[]:=by rw[List.getD,l30 h];rfl
theorem v4g (l:List IQ)(n M:Nat)(hM:M=max l.length n):plB (l++List.replicate (M-l.length) iq0)=x5q (plB l) n:=by
 unfold x5q plB;rw[l33,List.map_replicate,l18];congr 2;omega
theorem u9k (w:World):Sl z1g w (slv iq0.1) iq0.2:=Sl.nil w
theorem v0i {w:World}{l:List IQ}{k:Nat}(h:IqAt w l):IqAt w (l++List.replicate k iq0):=λq D=>by
 rcases l23.1 D with D|D
 ·exact h q D
 rw[List.eq_of_mem_replicate D];exact u9k w
theorem u3b {w:World}{l:List IQ}{i:Nat}{q:IQ}(h:IqAt w l)(I:Sl z1g w (slv q.1) q.2):IqAt w (l.set i q):=λp D=>by
 rcases List.mem_or_eq_of_mem_set D with D|rfl
 ·exact h p D
 exact I
def z9j (l:List IQ):Prop:=∀q∈l,q.2.length<=4
theorem v2b {l:List IQ}{k:Nat}(h:z9j l):z9j (l++List.replicate k iq0):=λq D=>by
 rcases l23.1 D with D|D
 ·exact h q D
 rw[List.eq_of_mem_replicate D];exact l17 _
theorem u6p {l:List IQ}{i:Nat}{q:IQ}(h:z9j l)(I:q.2.length<=4):z9j (l.set i q):=λp D=>by
 rcases List.mem_or_eq_of_mem_set D with D|rfl
 ·exact h p D
 exact I
theorem z3n {l:List IQ}(h:z9j l)(i:Nat):(l.getD i iq0).2.length<=4:=by
 by_cases e:i<l.length;exact h _<|z0z e;rw[v1g oo];simp
theorem z1y {w:World}{l:List IQ}(h:IqAt w l)(i:Nat):Sl z1g w (slv (l.getD i iq0).1) (l.getD i iq0).2:=by
 by_cases e:i<l.length;exact h _<|z0z e;rw[List.getD,l30 oo];exact u9k w
theorem j1u {l m:List IQ}(h:z9j l)(e:plB m=plB l):z9j m:=λq O=>by
 have:q.2∈plB l:=by rw[<-e];exact l86 O
 obtain⟨q',D,I⟩:=l54.1 this
 rw[<-I];exact h q' D
theorem j3y {l:List IQ}{i:Nat}{q:IQ}(h:q.2=(l.getD i iq0).2):plB (l.set i q)=plB l:=by
 unfold plB;rw[l124];apply l59;intro j;rw[l112];split;rename_i e;subst e;split;rename_i D;rw[l18]at D;rw[l24,l10 D,h,List.getD,l10 D];rfl;rename_i D;rw[l30 oo];rfl
def BdQ.sv (q:BdQ)(b:Int):SV:=if b=1 then q.b else q.f
def BdQ.l (q:BdQ)(b:Int):List IQ:=if b=1 then q.bs else q.fs
theorem BdAt.sel {w:World}{q:BdQ}(h:BdAt w q)(b:Int):Sl z6q w (slv<|q.sv b) (q.l b)/\IqAt w (q.l b):=by
 unfold BdQ.sv BdQ.l;split;exact⟨h.b,h.bi⟩;exact⟨h.f,h.fi⟩
theorem BdQ.at_l (q:BdQ){b p:Int}(hn:z4d b p=0):((q.l b).getD (p-1).toNat iq0).2=q.p.at b p:=by
 obtain⟨D,_,_⟩:=z2t hn;unfold BdQ.l Bd.at atB;split;rw[if_neg oo,z4b];rw[if_pos oo,z4b]
theorem u8r (l:Bed):y7s l 0 []=trimB l:=by unfold y7s;rw[if_pos U]
theorem k4i (B:Bd){b:Int}(n:Nat)(s:List LId)(h:b=0):(⟨y7s B.f n s,y7s B.b 0 []⟩:Bd)=B.put b (n:Int) s:=by
 unfold Bd.put;rw[if_pos h,u8r,l90]
theorem k5a (B:Bd){b:Int}(n:Nat)(s:List LId)(h:¬b=0):(⟨y7s B.f 0 [],y7s B.b n s⟩:Bd)=B.put b (n:Int) s:=by
 unfold Bd.put;rw[if_neg h,u8r,l90]
def PreO (I base:Nat)(w:World)(l:List IQ)(i:Nat):Prop:=∀j,j<i->Lw.Own z1g I base w (slv (l.getD j iq0).1) (l.getD j iq0).2
theorem PreO.zero {I base:Nat}{w:World}{l:List IQ}:PreO I base w l 0:=λj D=>absurd D oo
theorem PreO.ext {I base i:Nat}{w w':World}{l:List IQ}(h:PreO I base w l i)(hf:Fr [] w w'):PreO I base w' l i:=λj D=>(h j D).ext hf
theorem PreO.fr {I base i:Nat}{w w':World}{l:List IQ}{S:List Nat}(h:PreO I base w l i)(hf:Fr S w w')(O:∀k∈S,k<base):PreO I base w' l i:=λj D=>(h j D).fr hf λk hk Z=>by
 have:=O k hk;have:=((h j D).blk k Z).1;omega
theorem PreO.put {I base i:Nat}{w:World}{l:List IQ}{q:IQ}(h:PreO I base w l i)(hi:i<l.length)(D:Lw.Own z1g I base w (slv q.1) q.2):PreO I base w (l.set i q) (i+1):=λj O=>by
 rw[z1k hi]
 split
 ·exact D
 exact h j oo
theorem PreO.all {I base b:Nat}{w:World}{l:List IQ}(h:PreO I base w l l.length)(hb:b<=base):∀q∈l,Lw.Own z1g I b w (slv q.1) q.2:=λq O=>by
 obtain⟨j,D,rfl⟩:=l29 O
 have:=h j D
 rw[List.getD,l10 D]at this
 exact this.low hb
theorem y6n {w:World}{l m:List IQ}{n:Nat}(e:m=l.take n)(h:IqAt w l):IqAt w m:=λq D=>h q<|l92 (e▸D)
theorem u3p {l m:List IQ}{i:Nat}{q:IQ}(h:∀j,i<=j->l.getD j iq0=m.getD j iq0)(hi:i<l.length):∀j,i+1<=j->(l.set i q).getD j iq0=m.getD j iq0:=λj D=>by
 rw[z1k hi,if_neg oo];exact h j oo
theorem j6n {D ls qs:List IQ}{m n:Nat}{s:List LId}(I:ls=D.take m)(O:(plB D).take m=trimB (plB D))(Z:plB D=if n=0 then plB qs else (x5q (plB qs) n).set (n-1) s):plB ls=y7s (plB qs) n s:=by
 rw[I];unfold plB at *
 rw[List.map_take,O,Z];rfl
theorem u2f {qs:List IQ}{n M:Nat}{s:List LId}(hn:n=0)(hM:M=max qs.length n):plB (qs++List.replicate (M-qs.length) iq0)=(if n=0 then plB qs else (x5q (plB qs) n).set (n-1) s):=by
 subst hn;rw[if_pos U,v4g qs 0 M hM];unfold x5q;simp
theorem j2g {qs:List IQ}{n M:Nat}{q:IQ}(hn:0<n)(hM:M=max qs.length n):plB ((qs++List.replicate (M-qs.length) iq0).set (n-1) q)=(if n=0 then plB qs else (x5q (plB qs) n).set (n-1) q.2):=by
 rw[if_neg oo,<-v4g qs n M hM];exact l124
end Go.G08
namespace Go.Lw
open Go.RowKit
structure KeyLaw {κ:Type} [DecidableEq κ] (P:Program) (K:TypeId) (V:κ->Value):Prop where
  check:∀b k (w:World),(Instr.checkKey b 10000 K<|V k).run P w=.ok () w
  find:∀k (es:List MapEntry) (ks:List κ) (w:World),es.map (·.key)=ks.map V->
    (Instr.findKey K (V k) es).run P w=.ok ((ks.findIdx? (λx=>decide (k=x))).bind λi=>(es[i]?).map λe=>(i,e.val)) w
  bits:∀k,Instr.sameBits 10000 (V k) (V k)=true
def z2s {κ:Type}[DecidableEq κ]:List (κ×Value)->κ->Option Value
  | [],_=>none
  | p::r,k=>if k=p.1 then some p.2 else z2s r k
def MapF {κ:Type}[DecidableEq κ](V:κ->Value)(w:World)(g:Nat)(f:κ->Option Value):Prop:=
  ∃(es:Array MapEntry) (c:Nat) (m:List (κ×Value)),w.heap[g]?=some (.map es c)/\es.toList.map (λe=>(e.key,e.val))=m.map (λp=>(V p.1,p.2))/\∀k,z2s m k=f k
section
variable {κ:Type} [DecidableEq κ] {V:κ->Value} {P:Program} {K:TypeId}
theorem y2l (I:∀k k' (w:World),(Op.equal K (V k)<|V k').run P w=.ok (decide (k=k')) w)(k:κ):∀(D:List MapEntry) (ks:List κ) (i:Nat) (w:World),D.map (·.key)=ks.map V->
    (Instr.findAsking K (V k) D i).run P w=.ok ((ks.findIdx? (λx=>decide (k=x))).bind λj=>(D[j]?).map λe=>(i+j,e.val)) w
  | [],[],i,w,_=>by simp[Instr.findAsking]
  | [],_::_,_,_,h=>by simp at h
  | _::_,[],_,_,h=>by simp at h
  | e::D,x::ks,i,w,h=>by
    simp only[l32,List.cons.injEq]at h
    have O:=y2l I k D ks (i+1) w h.2
    simp only[Instr.findAsking,h.1,Sem.run_bind,I k x w,Result.andThen_ok]
    by_cases hx:k=x
    · simp[hx,l60]
    · simp only[hx,decide_false,Bool.false_eq_true,if_false,O,l60,Option.bind_map]
      congr 1
      cases hf:ks.findIdx? (λx=>decide (k=x)) with
      | none=>simp
      | some j=>simp[Nat.add_assoc,Nat.add_comm 1 j]
theorem KeyLaw.asking {d:TypeDesc}(O:P.underlying K=some d)(hs:∀k k',Instr.sameNow d (V k) (V k')=none)(Z:∀b k (w:World),(Instr.checkKey b 10000 K<|V k).run P w=.ok () w)
    (heq:∀k k' (w:World),(Op.equal K (V k)<|V k').run P w=.ok (decide (k=k')) w) (hb:∀k,Instr.sameBits 10000 (V k) (V k)=true):KeyLaw P K V:=by
  refine⟨Z,λk I D w h=>?_,hb⟩
  cases I with
  | nil=>
    cases D with
    | nil=>simp[Instr.findKey,run_underlying O,Instr.findNow]
    | cons x D=>simp at h
  | cons e I=>
    cases D with
    | nil=>simp at h
    | cons x D=>
      have hn:Instr.findNow d (V k) (e::I) 0=none:=by
        simp only[l32,List.cons.injEq]at h
        simp[Instr.findNow,h.1,hs]
      have:=y2l heq k (e::I) (x::D) 0 w h
      simp only[Instr.findKey,Sem.run_bind,run_underlying O,Result.andThen_ok,hn,this,l71]
theorem y8c {d:TypeDesc}(I:∀k k',Instr.sameNow d (V k) (V k')=some (decide (k=k')))(k:κ):∀(D:List MapEntry) (ks:List κ) (i:Nat),D.map (·.key)=ks.map V->
    Instr.findNow d (V k) D i=some ((ks.findIdx? (λx=>decide (k=x))).bind λj=>(D[j]?).map λe=>(i+j,e.val))
  | [],[],i,_=>by simp[Instr.findNow]
  | [],_::_,_,h=>by simp at h
  | _::_,[],_,h=>by simp at h
  | e::D,x::ks,i,h=>by
    simp only[l32,List.cons.injEq]at h
    have O:=y8c I k D ks (i+1) h.2
    simp only[Instr.findNow,h.1,I]
    by_cases hx:k=x
    · simp[hx,l60]
    · simp only[hx,decide_false,O,l60,Bool.false_eq_true,if_false,Option.bind_map]
      congr 2
      funext j;simp[Nat.add_assoc,Nat.add_comm 1 j]
theorem KeyLaw.now {d:TypeDesc}(Z:P.underlying K=some d)(O:∀k k',Instr.sameNow d (V k) (V k')=some (decide (k=k')))(I:∀b k (w:World),(Instr.checkKey b 10000 K<|V k).run P w=.ok () w)
    (hb:∀k,Instr.sameBits 10000 (V k) (V k)=true):KeyLaw P K V:=by
  refine⟨I,λk D ks w h=>?_,hb⟩
  have:=y8c O k D ks 0 h
  simp only[Instr.findKey,Sem.run_bind,run_underlying Z,Result.andThen_ok,this,l71,Sem.run_pure]
theorem y3i (m:List (κ×Value))(k:κ):∀(D:List MapEntry),D.map (λe=>(e.key,e.val))=m.map (λp=>(V p.1,p.2))->
    (((m.map (·.1)).findIdx? (λx=>decide (k=x))).bind λi=>(D[i]?).map λe=>(i,e.val)).map (·.2)=z2s m k:=by
  induction m with
  | nil=>intro D h;simp[z2s]
  | cons p m ih=>
    intro D h
    match D,h with
    | e::D,h=>
      simp only[l32,List.cons.injEq,l102]at h
      have:=ih D h.2
      unfold z2s
      by_cases hk:k=p.1
      · simp[hk,l60,h.1.2]
      · simp only[l32,l60,hk,decide_false,if_false,Bool.false_eq_true]
        rw[<-this]
        cases (m.map (·.1)).findIdx? (λx=>decide (k=x)) with
        | none=>simp
        | some j=>
          simp
          rfl
def z4m (m:List (κ×Value))(k:κ)(v:Value):List (κ×Value):=
  match (m.map (·.1)).findIdx? (λx=>decide (k=x)) with
  | some i=>m.modify i λp=>(p.1,v)
  | none=>m++[(k,v)]
theorem y3y (m:List (κ×Value))(k k':κ)(v:Value):(m.map (·.1)).findIdx? (λx=>decide (k=x))=none->z2s (m++[(k,v)]) k'=if k'=k then some v else z2s m k':=by
 induction m with
 | nil=>intro _;simp[z2s]
 | cons p m ih=>
  intro h;simp only[l32,l60]at h;split at h;cases h;rename_i I;have D:¬k=p.1:=by simpa using I
  have:=ih (by simpa using h);simp only[l72,z2s,this];by_cases e:k'=p.1;subst e;simp[l50 D];simp[e]
theorem z9w (k k':κ)(v:Value):∀(m:List (κ×Value)) (i:Nat),(m.map (·.1)).findIdx? (λx=>decide (k=x))=some i->z2s (m.modify i λp=>(p.1,v)) k'=if k'=k then some v else z2s m k'
 | [],i,h=>by simp at h
 | p::m,i,h=>by
  simp only[l32,l60]at h
  split at h
  ·rename_i I
   have D:k=p.1:=by simpa using I
   simp at h;subst h
   simp only[List.modify_zero_cons,z2s,D]
   by_cases e:k'=p.1<;>simp[e]
  rename_i I
  have D:¬k=p.1:=by simpa using I
  cases hf:(m.map (·.1)).findIdx? (λx=>decide (k=x)) with
  | none=>rw[hf]at h;simp at h
  | some j=>
   rw[hf]at h;simp at h;subst h
   have:=z9w k k' v m j hf
   simp only[List.modify_succ_cons,z2s,this]
   by_cases e:k'=p.1
   ·subst e;simp[l50 D]
   simp[e]
theorem MapF.fr {w w':World}{g:Nat}{f:κ->Option Value}{S:List Nat}(h:MapF V w g f)(hf:Fr S w w')(hn:g∉S:=by simp[z0u]<;>omega):MapF V w' g f:=by
 obtain⟨I,c,m,D,O,Z⟩:=h;exact⟨I,c,m,(hf.block g (l15.1 D).1 hn).trans D,O,Z⟩
theorem MapF.ext {w w':World}{g:Nat}{f:κ->Option Value}(h:MapF V w g f)(hf:Fr [] w w'):MapF V w' g f:=h.fr hf sp0
theorem MapF.lt {w:World}{g:Nat}{f:κ->Option Value}(h:MapF V w g f):g<w.heap.size:=let ⟨_,_,_,h1,_⟩:=h;(l15.1 h1).1
theorem MapF.ne_blk {w:World}{g D T:Nat}{f:κ->Option Value}{cs:List Value}(h:MapF V w g f)(I:Blk w D T cs):g≠D:=by
 rintro rfl;obtain⟨_,_,_,O,_⟩:=h;unfold Blk at I;rw[I]at O;cases O
theorem z2x {w:World}{g:Nat}{D:Array MapEntry}{c:Nat}(h:w.heap[g]?=some (.map D c)):(getObj g).run P w=.ok (.map D c) w:=by
 simp[getObj,Sem.run,h]
theorem y8v {w:World}{g:Nat}{f:κ->Option Value}{t E:TypeId}{z:Value}(h:MapF V w g f)(hk:KeyLaw P K V)(hu:P.underlying t=some (.map K E))(hz:(zeroValue E).run P w=.ok z w)(k:κ) :
    (Instr.lookup t (.map<|some g) (V k) false).run P w=.ok ((f k).getD z) w:=by
  obtain⟨Z,c,m,h1,h2,h3⟩:=h
  have O:Z.toList.map (·.key)=(m.map (·.1)).map V:=by
    have:=congrArg (List.map Prod.fst) h2
    simpa[l80,l103] using this
  have I:=hk.find k Z.toList (m.map (·.1)) w O
  have D:=y3i (V:=V) m k Z.toList h2
  rw[h3]at D
  generalize ((m.map (·.1)).findIdx? (λx=>decide (k=x))).bind (λi=>(Z.toList[i]?).map λe=>(i,e.val))=r at I D
  cases r with
  | none=>simp at D;simp[Instr.lookup,run_underlying hu,z2x h1,hk.check,I,hz,<-D]
  | some p=>simp at D;simp[Instr.lookup,run_underlying hu,z2x h1,hk.check,I,<-D]
theorem x6u {w:World}{g:Nat}{f:κ->Option Value}{t E:TypeId}{z:Value}(h:MapF V w g f)(hk:KeyLaw P K V)(hu:P.underlying t=some (.map K E))(hz:(zeroValue E).run P w=.ok z w)(k:κ) :
    (Instr.lookup t (.map<|some g) (V k) true).run P w=.ok (.tuple #[(f k).getD z,.bool (f k).isSome]) w:=by
  obtain⟨Z,c,m,h1,h2,h3⟩:=h
  have O:Z.toList.map (·.key)=(m.map (·.1)).map V:=by
    have:=congrArg (List.map Prod.fst) h2
    simpa[l80,l103] using this
  have I:=hk.find k Z.toList (m.map (·.1)) w O
  have D:=y3i (V:=V) m k Z.toList h2
  rw[h3]at D
  generalize ((m.map (·.1)).findIdx? (λx=>decide (k=x))).bind (λi=>(Z.toList[i]?).map λe=>(i,e.val))=r at I D
  cases r with
  | none=>simp at D;simp[Instr.lookup,run_underlying hu,z2x h1,hk.check,I,hz,<-D]
  | some p=>simp at D;simp[Instr.lookup,run_underlying hu,z2x h1,hk.check,I,<-D]
theorem y2z {w:World}{g:Nat}{f:κ->Option Value}{t E:TypeId}(h:MapF V w g f)(hk:KeyLaw P K V)(hu:P.underlying t=some (.map K E))(k:κ)(v:Value) :
    ∃w',(Instr.mapUpdate t (.map<|some g) (V k) v).run P w=.ok () w'/\MapF V w' g (λk'=>if k'=k then some v else f k')/\Fr [g] w w'/\w'.heap.size=w.heap.size:=by
  obtain⟨D,c,m,h1,h2,h3⟩:=h
  have a7:=(l15.1 h1).1
  have Z:D.toList.map (·.key)=(m.map (·.1)).map V:=by
    have:=congrArg (List.map Prod.fst) h2
    simpa[l80,l103] using this
  have I:=hk.find k D.toList (m.map (·.1)) w Z
  have a1:∀o,(setObj g o).run P w=.ok () { w with heap:=w.heap.setIfInBounds g o }:=by intro o;simp[setObj,Sem.run,h1]
  have a4:∀o,Fr [g] w { w with heap:=w.heap.setIfInBounds g o }:=λo=>⟨rfl,rfl,rfl,sp0,λi _ hn=>by
    simp only
    rw[l74 (by intro e;subst e;simp at hn)]⟩
  have O:∀o,({ w with heap:=w.heap.setIfInBounds g o }:World).heap[g]?=some o:=by intro o;simp[a7]
  have a9:D.toList.length=m.length:=by have:=congrArg List.length h2;simpa using this
  cases hf:(m.map (·.1)).findIdx? (λx=>decide (k=x)) with
  | none=>
    refine⟨_,?_,⟨_,_,m++[(k,v)],O<|.map (D.push { key:=V k,val:=v,born:=c })<|c+1,?_,λk'=>?_⟩,a4 _,sp0⟩
    · rw[hf]at I
      simp only[Instr.mapUpdate,Sem.run_bind,run_underlying hu,Result.andThen_ok,z2x h1,hk.check,I,Option.bind_none,a1]
    · simp[h2]
    · rw[y3y m k k' v hf,h3]
  | some i=>
    have hi:i<m.length:=by
      have:=l75.1 hf
      simpa using this.1
    have a0:i<D.toList.length:=by omega
    have a5:V k=(D.toList[i]).key:=by
      have a6:=List.findIdx?_eq_some_iff_getElem.1 hf
      obtain⟨b0,hp,_⟩:=a6
      have a8:k=(m.map (·.1))[i]:=by simpa using hp
      have e1:(D.toList.map (·.key))[i]?=((m.map (·.1)).map V)[i]?:=by rw[Z]
      simp only[l24,l10 a0,l10 hi,l58,l67]at e1
      rw[e1,a8];simp
    refine⟨_,?_,⟨_,_,m.modify i λp=>(p.1,v),O<|.map (D.modify i λe=>{ e with key:=V k,val:=v }) c,?_,λk'=>?_⟩,a4 _,sp0⟩
    · rw[hf]at I
      have a2:D[i]?=some D.toList[i]:=by rw[<-l42,l10 a0]
      simp only[Option.bind_some,l10 a0,l58]at I
      have a3:(Instr.keyThatStays (((D[i]?).map (·.key)).getD<|V k)<|V k).run P w=.ok (V k) w:=by
        rw[a2]
        simp only[l58,l63,<-a5,Instr.keyThatStays,hk.bits,if_true,Sem.run_pure]
      simp only[Instr.mapUpdate,Sem.run_bind,run_underlying hu,Result.andThen_ok,z2x h1,hk.check,I,a3,a1]
    · apply l59
      intro j
      have e2:=congrArg (·[j]?) h2
      simp only[l24]at e2 ⊢
      rw[l42,Array.getElem?_modify,l106]
      rw[l42]at e2
      by_cases hj:i=j
      · subst hj
        have e3:=l10 hi
        have a2:D[i]?=some D.toList[i]:=by rw[<-l42,l10 a0]
        rw[a2,e3]at e2 ⊢
        simp only[l58,l67,l102]at e2
        simp only[if_true,l58]
        rw[a5,e2.1];rfl
      · simp only[hj,if_false]
        rw[e2];simp
    · rw[z9w k k' v m i hf,h3]
variable {a:Act} {n:Nat} {L:List (Nat×Value)} {ds:List Nat} {w w':World} {Q:Exit->Act->World->Prop} {C:World->Prop} {Qa:Act->Prop} {ops:Array Oper} {rest:List Oper}
variable {d:Nat} {ty:TypeId} {pos:String} {after:Array Edge} {x y z:Operand} {t E:TypeId} {g:Nat} {f:κ->Option Value} {k:κ} {v zv:Value}
theorem v2u (V:κ->Value)(h:AgM ds a n L)(hn:lbt d n)
    (q:∀g w',g=w.heap.size->MapF V w' g (λ_=>none)->Fr [] w w'->w'.heap.size=g+1->∀a,AgM ds a n ((d,.map<|some g)::L)->wpList P ops Q rest a w'):wpList P ops Q (⟨some d,.makeMap t none,ty,pos,after,none⟩::rest) a w:=
  z1z h U hn (w':=w.alloc<|.map #[] 0) (by simp[execOp,Instr.makeMap]) (q _ _ U ⟨_,_,[],heap_alloc_new w _,sp0,λ_=>rfl⟩ (Fr.alloc [] w _) sp0)
theorem y6f (V:κ->Value)(hn:lbt d n)(q:∀g w',g=w.heap.size->MapF V w' g (λ_=>none)->Fr [] w w'->w'.heap.size=g+1->WL P ops Q rest n ds w' ((d,.map<|some g)::L)):WL P ops Q (⟨some d,.makeMap t none,ty,pos,after,none⟩::rest) n ds w L:=λa h=>v2u V h hn q
theorem v9g (h:AgM ds a n L)(Z:ev L x=some (.map<|some g))(hy:ev L y=some (V k))(I:MapF V w g f)(D:KeyLaw P K V)(O:P.underlying t=some (.map K E))(hz:∀w:World,(zeroValue E).run P w=.ok zv w) :
    (execOp a.eval ⟨some d,.lookup t x y false,ty,pos,after,none⟩).run P w=.ok (.value<|(f k).getD zv) w:=by
  simp[execOp,h.eval Z,h.eval hy,y8v I D O (hz w) k]
theorem y2u (h:AgM ds a n L)(hx:ev L x=some (.map<|some g))(hy:ev L y=some (V k))(I:MapF V w g f)(D:KeyLaw P K V)(O:P.underlying t=some (.map K E))(hz:∀w:World,(zeroValue E).run P w=.ok zv w)(Z:(f k).getD zv=v)(hn:lbt d n)
    (q:∀a,AgM ds a n ((d,v)::L)->wpList P ops Q rest a w):wpList P ops Q (⟨some d,.lookup t x y false,ty,pos,after,none⟩::rest) a w:=
  z1z h U hn (by rw[<-Z];exact v9g h hx hy I D O hz) q
theorem x0v (hx:ev L x=some (.map<|some g))(hy:ev L y=some (V k))(I:MapF V w g f)(D:KeyLaw P K V)(O:P.underlying t=some (.map K E))(hz:∀w:World,(zeroValue E).run P w=.ok zv w)(Z:(f k).getD zv=v)(hn:lbt d n)(q:WL P ops Q rest n ds w ((d,v)::L)):WL P ops Q (⟨some d,.lookup t x y false,ty,pos,after,none⟩::rest) n ds w L:=λa h=>y2u h hx hy I D O hz Z hn q
theorem v2s (h:AgM ds a n L)(Z:ev L x=some (.map<|some g))(hy:ev L y=some (V k))(I:MapF V w g f)(D:KeyLaw P K V)(O:P.underlying t=some (.map K E))(hz:∀w:World,(zeroValue E).run P w=.ok zv w) :
    (execOp a.eval ⟨some d,.lookup t x y true,ty,pos,after,none⟩).run P w=.ok (.value<|.tuple #[(f k).getD zv,.bool (f k).isSome]) w:=by
  simp[execOp,h.eval Z,h.eval hy,x6u I D O (hz w) k]
theorem y3v {D:Bool}(h:AgM ds a n L)(hx:ev L x=some (.map<|some g))(hy:ev L y=some (V k))(O:MapF V w g f)(I:KeyLaw P K V)(Z:P.underlying t=some (.map K E))(hz:∀w:World,(zeroValue E).run P w=.ok zv w)(hv:(f k).getD zv=v)(hb:(f k).isSome=D)(hn:lbt d n)
    (q:∀a,AgM ds a n ((d,.tuple #[v,.bool D])::L)->wpList P ops Q rest a w):wpList P ops Q (⟨some d,.lookup t x y true,ty,pos,after,none⟩::rest) a w:=
  z1z h U hn (by rw[<-hv,<-hb];exact v2s h hx hy O I Z hz) q
theorem v8x (h:AgM ds a n L)(hx:ev L x=some (.map<|some g))(hy:ev L y=some (V k))(hz:ev L z=some v)(hm:MapF V w g f)(Z:KeyLaw P K V)(hu:P.underlying t=some (.map K E))
    (q:∀w',MapF V w' g (λk'=>if k'=k then some v else f k')->Fr [g] w w'->w'.heap.size=w.heap.size->∀a,AgM ds a n L->wpList P ops Q rest a w'):wpList P ops Q (⟨none,.insert t x y z,ty,pos,after,none⟩::rest) a w:=by
  obtain⟨w',hr,D,I,O⟩:=y2z hm Z hu k v
  exact z9o h U U (w':=w') (by simp[execOp,h.eval hx,h.eval hy,h.eval hz,hr])<|q w' D I O
theorem z3o (H0:(ev L x,ev L y,ev L z)=(some<|.map<|some g,some<|V k,some v))(I:MapF V w g f)(D:KeyLaw P K V)(O:P.underlying t=some (.map K E))(q:∀w',MapF V w' g (λk'=>if k'=k then some v else f k')->Fr [g] w w'->w'.heap.size=w.heap.size->WL P ops Q rest n ds w' L):WL P ops Q (⟨none,.insert t x y z,ty,pos,after,none⟩::rest) n ds w L:=let⟨Z,hy,hz⟩:=qi3 H0;λa h=>v8x h Z hy hz I D O q
theorem u1i (h:AgM ds a n L)(hx:ev L x=some (.map<|some g))(hy:ev L y=some (V k))(hz:ev L z=some v)(hm:MapF V w g f)(Z:KeyLaw P K V)(hu:P.underlying t=some (.map K E))
    (q:∀w',MapF V w' g (λk'=>if k'=k then some v else f k')->Fr [g] w w'->w'.heap.size=w.heap.size->∀a,AgM ds a n L->wpList P ops Q rest a w'):wpList P ops Q (⟨none,.mapUpdate t x y z,ty,pos,after,none⟩::rest) a w:=by
  obtain⟨w',hr,D,I,O⟩:=y2z hm Z hu k v
  exact z9o h U U (w':=w') (by simp[execOp,h.eval hx,h.eval hy,h.eval hz,hr])<|q w' D I O
theorem x1l (Z:ev L x=some (.map<|some g))(hy:ev L y=some (V k))(hz:ev L z=some v)(I:MapF V w g f)(D:KeyLaw P K V)(O:P.underlying t=some (.map K E))(q:∀w',MapF V w' g (λk'=>if k'=k then some v else f k')->Fr [g] w w'->w'.heap.size=w.heap.size->WL P ops Q rest n ds w' L):WL P ops Q (⟨none,.mapUpdate t x y z,ty,pos,after,none⟩::rest) n ds w L:=λa h=>u1i h Z hy hz I D O q
end
end Go.Lw
namespace Go.Lw
open Go.RowKit
section
variable {P:Program} {n:Nat} {L:List (Nat×Value)} {ds:List Nat} {w w':World} {Q:Exit->Act->World->Prop} {ops:Array Oper} {rest:List Oper} {a:Act} {d:Nat} {ty T t:TypeId} {pos:String} {after:Array Edge} {v:Value} {x y:Operand}
theorem j0i {α:Type}{E:Enc α}{a0 base g cap:Nat}{zs ys:List α}(h:AgM ds a n L)(hx:ev L x=some (.slice (saa g) zs.length cap))(hy:ev L y=some v)(ho:Own E T base w (.slice (saa g) zs.length cap) zs)(hs:Sl E w v ys)(hl:ys.length=zs.length)(he:ElemOf P t T E a0)(hn:lbt d n)
    (q:∀w',Own E T base w' (.slice (saa g) zs.length cap) ys->Fr [g] w w'->w'.heap.size=w.heap.size->∀a,AgM ds a n ((d,.int .i64 (zs.length:Int))::L)->wpList P ops Q rest a w'):wpList P ops Q (⟨some d,.call ⟨.builtin .copy,#[x,y],#[t,t]⟩,ty,pos,after,none⟩::rest) a w:=by
  obtain⟨i,z,h1,h2,h3,h4,h5⟩:=he.info
  obtain⟨A,c,rfl,hc,hM,hA⟩:=hs.flat
  rcases ho with ⟨e,_⟩|⟨g',a7,cur,e,hb,hg,r1,r2,r3,r4⟩
  · cases e
  cases e
  have a2:ys.length*E.sz<=cur.size:=by rw[hl];exact l37 (l48 _ r1) r3
  obtain⟨cs,D⟩:∃cs,ys.flatMap E.enc=cs:=⟨_,rfl⟩
  have I:cs.length=zs.length*E.sz:=by rw[<-D,E.flat_len,hl]
  have Z:=E.flat_one ys
  rw[D]at Z hA
  have a3:=run_storeCells_at P g 0 T cs 0 cur w hg (by rw[I];rw[hl]at a2;simpa using a2) Z
  simp only[l71,l98,l46]at a3
  have a6:(Builtin.copy_ #[t,t] ty #[.slice (saa g) zs.length cap,.slice A ys.length c]).run P w=.ok (.int .i64 (zs.length:Int)) (w.setRow g (cs++cur.toList.drop cs.length).toArray):=by
    have a1:(Builtin.firstCells E.sz zs.length<|.slice A ys.length c).run P w=.ok cs.toArray w:=by
      by_cases hys:ys=[]
      · have h0:zs.length=0:=by rw[<-hl,hys];rfl
        have a4:cs=[]:=by rw[<-D,hys];rfl
        rw[h0,a4]
        cases A with
        | none=>simp[Builtin.firstCells]
        | some ad=>simp[Builtin.firstCells,loadCells,loadCellsFrom]
      · obtain⟨ad,rfl,a5⟩:=hA hys
        have O:=run_loadCells_list (P:=P) w ad cs a5
        rw[I]at O
        simpa[Builtin.firstCells] using O
    rw[hl]at a1
    simp only[Builtin.copy_,List.getElem?_toArray,List.getElem?_cons_zero,List.getElem?_cons_succ,Sem.run_bind,run_underlying he.und,Result.andThen_ok,Builtin.lenOf,Sem.run_pure,hl,Nat.min_self,show ∀m:Nat,Nat.min m m=m from Nat.min_self,sizeOf,typeInfo]
    simp[h1,h3,a1,a3,goInt]
  refine z1z h U hn (w':=w.setRow g (cs++cur.toList.drop cs.length).toArray) ?_<|q _ (.inr ⟨g,cap,_,by rw[hl],hb,setRow_heap w g cur _ T (0,0) hg,by rw[hl];exact r1,r2,?_,?_⟩) (Fr.setRow w g _) sp0
  · rw[z2p];unfold builtin
    simp only[l88,l32,List.map_nil,h.eval hx,h.eval hy,Sem.run_bind,a6,Result.andThen_ok,Sem.run_pure]
  · simp only[l126,l13,l35,l113];omega
  · rw[hl,<-I,D];simp
theorem z9d {α:Type}{E:Enc α}{D base g cap:Nat}{zs ys:List α}(Z:ev L x=some (.slice (saa g) zs.length cap))(hy:ev L y=some v)(ho:Own E T base w (.slice (saa g) zs.length cap) zs)(O:Sl E w v ys)(hl:ys.length=zs.length)(I:ElemOf P t T E D)(q:∀w',Own E T base w' (.slice (saa g) zs.length cap) ys->Fr [g] w w'->w'.heap.size=w.heap.size->WL P ops Q rest n ds w' ((d,.int .i64 (zs.length:Int))::L))(hn:lbt d n:=by exact U):WL P ops Q (⟨some d,.call ⟨.builtin .copy,#[x,y],#[t,t]⟩,ty,pos,after,none⟩::rest) n ds w L:=λa h=>j0i h Z hy ho O hl I hn q
end
end Go.Lw
namespace Go.Lw
open Go.RowKit
section
variable {P:Program} {n:Nat} {L:List (Nat×Value)} {ds:List Nat} {w w':World} {Q:Exit->Act->World->Prop} {ops:Array Oper} {rest:List Oper} {a:Act} {d:Nat} {ty T t:TypeId} {pos:String} {after:Array Edge} {v:Value} {x y:Operand}
theorem u2a {α:Type}{E:Enc α}{a5 base g m cap p k:Nat}{zs ys:List α}(h:AgM ds a n L)(hx:ev L x=some (.slice (some<|(⟨g,0,none⟩:Addr).add<|p*E.sz) (m-p)<|cap-p))(hy:ev L y=some v)(ho:Own E T base w (.slice (saa g) m cap) zs)(hs:Sl E w v ys)(hp:p<=m)(hk:k=min (m-p) ys.length)(he:ElemOf P t T E a5)(hn:lbt d n)
    (q:∀w',Own E T base w' (.slice (saa g) m cap) (zs.take p++ys.take k++zs.drop (p+k))->Fr [g] w w'->w'.heap.size=w.heap.size->∀a,AgM ds a n ((d,.int .i64 (k:Int))::L)->wpList P ops Q rest a w'):wpList P ops Q (⟨some d,.call ⟨.builtin .copy,#[x,y],#[t,t]⟩,ty,pos,after,none⟩::rest) a w:=by
  obtain⟨i,z,h1,h2,h3,h4,h5⟩:=he.info
  rcases ho with ⟨e,_⟩|⟨g',d4,cur,e,hb,hg,r1,r2,r3,r4⟩
  · cases e
  cases e
  obtain⟨A0,c0,e0,_,b5,_⟩:=id hs
  subst e0
  have d0:k<=ys.length:=by omega
  have d3:=hs.take U (m:=k) d0 (B:=A0) (c':=c0) oo b5<|λ_=>rfl
  obtain⟨A,c,e2,hc,hM,hA⟩:=d3.flat
  have a2:(ys.take k).length=k:=by rw[l25];omega
  rw[a2]at e2
  simp only[Value.slice.injEq]at e2
  obtain⟨rfl,-,rfl⟩:=e2
  obtain⟨cs,O⟩:∃cs,(ys.take k).flatMap E.enc=cs:=⟨_,rfl⟩
  have a0:cs.length=k*E.sz:=by rw[<-O,E.flat_len,a2]
  have a4:=E.flat_one<|ys.take k
  rw[O]at a4 hA
  have d1:p+k<=zs.length:=by omega
  have d5:p*E.sz+k*E.sz<=zs.length*E.sz:=by rw[<-l91];exact l48 _ d1
  have b8:zs.length*E.sz<=cur.size:=l37 (l48 _ r1) r3
  have b2:=run_storeCells_at P g (p*E.sz) T cs 0 cur w hg (by rw[a0];omega) a4
  rw[Nat.add_zero,a0]at b2
  have c9:(Builtin.firstCells E.sz k<|.slice A0 ys.length c0).run P w=.ok cs.toArray w:=by
    by_cases hys:ys.take k=[]
    · have h0:k=0:=by have:=congrArg List.length hys;rw[a2]at this;simpa using this
      have b6:cs=[]:=by rw[<-O,hys];rfl
      rw[h0,b6]
      cases A0 with
      | none=>simp[Builtin.firstCells]
      | some ad=>simp[Builtin.firstCells,loadCells,loadCellsFrom]
    · obtain⟨ad,rfl,b7⟩:=hA hys
      have a1:=run_loadCells_list (P:=P) w ad cs b7
      rw[a0]at a1
      simpa[Builtin.firstCells] using a1
  have b4:(Builtin.copy_ #[t,t] ty #[.slice (some<|(⟨g,0,none⟩:Addr).add<|p*E.sz) (zs.length-p) (cap-p),.slice A0 ys.length c0]).run P w=.ok (.int .i64 (k:Int)) (w.setRow g (cur.toList.take (p*E.sz)++cs++cur.toList.drop (p*E.sz+k*E.sz)).toArray):=by
    rw[z5h,l71]
    have a9:Nat.min (zs.length-p) ys.length=k:=hk.symm
    have a7:Nat.min ys.length (zs.length-p)=k:=(Nat.min_comm _ _).trans hk.symm
    simp only[Builtin.copy_,List.getElem?_toArray,List.getElem?_cons_zero,List.getElem?_cons_succ,Sem.run_bind,run_underlying he.und,Result.andThen_ok,Builtin.lenOf,Sem.run_pure,a9,sizeOf,typeInfo]
    simp[h1,h3,c9,b2,goInt,a7]
  obtain⟨D,Z,I,rfl,b3,a8⟩:∃D Z I,zs=D++(Z++I)/\D.length=p/\Z.length=k:=⟨zs.take p,(zs.drop p).take k,(zs.drop p).drop k,by rw[l26,l26],t18,by rw[l25,l35];omega⟩
  have b0:(D++(Z++I)).take p++ys.take k++(D++(Z++I)).drop (p+k)=D++(ys.take k++I):=by
    rw[<-b3,l115,<-a8,<-List.drop_drop,List.drop_left,List.drop_left,l14]
  rw[b0]at q
  have a6:(D++(ys.take k++I)).length=(D++(Z++I)).length:=by simp only[l13,a2,a8]
  have a3:cur.toList=(D++(Z++I)).flatMap E.enc++cur.toList.drop ((D++(Z++I)).length*E.sz):=by
    rw[<-r4,l26]
  have b9:(D.flatMap E.enc).length=p*E.sz:=by rw[E.flat_len,b3]
  have c1:(Z.flatMap E.enc).length=k*E.sz:=by rw[E.flat_len,a8]
  have b1:cur.toList.take (p*E.sz)++cs++cur.toList.drop (p*E.sz+k*E.sz)=(D++(ys.take k++I)).flatMap E.enc++cur.toList.drop ((D++(Z++I)).length*E.sz):=by
    generalize cur.toList.drop ((D++(Z++I)).length*E.sz)=R at a3 ⊢
    rw[a3]
    simp only[l41,l14]
    rw[<-b9,l115,<-c1,<-List.drop_drop,List.drop_left,List.drop_left,O]
  rw[b1]at b4
  refine z1z h U hn (w':=w.setRow g ((D++(ys.take k++I)).flatMap E.enc++cur.toList.drop ((D++(Z++I)).length*E.sz)).toArray) ?_<|q _ (.inr ⟨g,cap,_,by rw[a6],hb,setRow_heap w g cur _ T (0,0) hg,by rw[a6];exact r1,r2,?_,?_⟩) (Fr.setRow w g _) sp0
  · rw[z2p];unfold builtin
    simp only[l88,l32,List.map_nil,h.eval hx,h.eval hy,Sem.run_bind,b4,Result.andThen_ok,Sem.run_pure]
  · have e1:((D++(ys.take k++I)).flatMap E.enc).length=(D++(Z++I)).length*E.sz:=by rw[E.flat_len,a6]
    generalize (D++(ys.take k++I)).flatMap E.enc=X at e1
    generalize (D++(Z++I)).length*E.sz=M at e1 b8
    simp only[l126,l13,l35,l113]
    omega
  · show List.take _ _=_
    rw[show (D++(ys.take k++I)).length*E.sz=((D++(ys.take k++I)).flatMap E.enc).length by rw[E.flat_len]]
    exact l115
theorem j0k {α:Type}{E:Enc α}{D base g m cap p k:Nat}{zs ys:List α}(hx:ev L x=some (.slice (some<|(⟨g,0,none⟩:Addr).add<|p*E.sz) (m-p)<|cap-p))(hy:ev L y=some v)(ho:Own E T base w (.slice (saa g) m cap) zs)(Z:Sl E w v ys)(hp:p<=m)(O:k=min (m-p) ys.length)(I:ElemOf P t T E D)(hn:lbt d n)
 (q:∀w',Own E T base w' (.slice (saa g) m cap) (zs.take p++ys.take k++zs.drop (p+k))->Fr [g] w w'->w'.heap.size=w.heap.size->WL P ops Q rest n ds w' ((d,.int .i64 (k:Int))::L)):WL P ops Q (⟨some d,.call ⟨.builtin .copy,#[x,y],#[t,t]⟩,ty,pos,after,none⟩::rest) n ds w L:=λa h=>u2a h hx hy ho Z hp O I hn q
end
end Go.Lw
namespace Go.Lw
open Go.RowKit
theorem v8e {α:Type}{E:Enc α}{ys:List α}{i f:Nat}{z y:α}{v:Value}(I:ys[i]?=some y)(hf:f<E.sz)(Z:(E.enc y).set f v=E.enc z)(rest:List Value) :
    (ys.flatMap E.enc++rest).set (i*E.sz+f) v=(ys.set i z).flatMap E.enc++rest:=by
  have hi:=(l49.1 I).1
  have e1:ys.set i y=ys:=by
    apply l59
    intro k
    rw[l112]
    by_cases e:i=k
    · subst e;rw[if_pos U,if_pos hi,I]
    · rw[if_neg e]
  have D:=z9a (E:=E) ys y rest i hi
  have O:=z9a (E:=E) ys z rest i hi
  rw[e1]at D
  rw[<-O]
  conv=>lhs;rw[<-D]
  have hl:((ys.flatMap E.enc++rest).take<|i*E.sz).length=i*E.sz:=by
    rw[l25,l13,E.flat_len]
    have:i*E.sz+E.sz<=ys.length*E.sz:=by rw[<-Nat.succ_mul];exact l48 _ hi
    omega
  rw[l14,l52 _ _ oo,hl,l123,List.set_append_left _ _ (by rw[E.len];exact hf),Z,l14]
section
variable {P:Program} {a:Act} {n:Nat} {L:List (Nat×Value)} {ds:List Nat} {w:World} {Q:Exit->Act->World->Prop} {ops:Array Oper} {rest:List Oper} {d:Nat} {ty t T:TypeId} {pos:String} {after:Array Edge} {x y:Operand} {v:Value}
theorem y6r {α:Type}{E:Enc α}{base g m c i f:Nat}{ys:List α}(u z:α)(h:AgM ds a n L)(hx:ev L x=some (.pointer<|some<|(⟨g,0,none⟩:Addr).add<|i*E.sz+f))(hy:ev L y=some v)(ho:Own E T base w (.slice (saa g) m c) ys)(hi:ys[i]?=some u)(hf:f<E.sz)
    (hz:(E.enc u).set f v=E.enc z) (h1:v.oneCell'=true) (hc:v.cells=#[v]) (hs:z1r P t 1)
    (q:∀w',Own E T base w' (.slice (saa g) m c) (ys.set i z)->Fr [g] w w'->w'.heap.size=w.heap.size->∀a,AgM ds a n L->wpList P ops Q rest a w'):wpList P ops Q (⟨none,.store t x y,ty,pos,after,none⟩::rest) a w:=by
  rcases ho with ⟨e,_⟩|⟨g',cap,cur,e,hb,hg,r1,r2,r3,r4⟩
  · cases e
  cases e
  have O:=(l49.1 hi).1
  have h5:i*E.sz+E.sz<=ys.length*E.sz:=by rw[<-Nat.succ_mul];exact l48 _ O
  have a0:ys.length*E.sz<=cur.size:=l37 (l48 _ r1) r3
  have I:Blk w g T cur.toList:=hg
  have D:cur.toList=ys.flatMap E.enc++cur.toList.drop (ys.length*E.sz):=by rw[<-r4,l26]
  refine z8j h hx hy I (by rw[Nat.blt_eq,l113];omega) h1 hc hs λw' Z k2 k3 a h=>q w' ?_ k2 k3 a h
  have e1:cur.toList.set (i*E.sz+f) v=(ys.set i z).flatMap E.enc++cur.toList.drop (ys.length*E.sz):=by
    conv=>lhs;rw[D]
    exact v8e hi hf hz _
  rw[e1]at Z
  refine .inr ⟨g,c,_,by rw[l19],hb,Z,by rw[l19];exact r1,r2,?_,?_⟩
  · simp only[l126,l13,E.flat_len,l19,l35,l113];omega
  · rw[l19,show ys.length*E.sz=((ys.set i z).flatMap E.enc).length by rw[E.flat_len,l19]]
    exact l115
theorem u3g {α:Type}{E:Enc α}{base g m c i f:Nat}{ys:List α}(u z:α)(D:ev L x=some (.pointer<|some<|(⟨g,0,none⟩:Addr).add<|i*E.sz+f))(I:ev L y=some v)(ho:Own E T base w (.slice (saa g) m c) ys)(hi:ys[i]?=some u)(hf:f<E.sz)
 (hz:(E.enc u).set f v=E.enc z) (h1:v.oneCell'=true) (hc:v.cells=#[v]) (hs:z1r P t 1)
 (q:∀w',Own E T base w' (.slice (saa g) m c) (ys.set i z)->Fr [g] w w'->w'.heap.size=w.heap.size->WL P ops Q rest n ds w' L):WL P ops Q (⟨none,.store t x y,ty,pos,after,none⟩::rest) n ds w L:=λ_ h=>y6r u z h D I ho hi hf hz h1 hc hs q
end
end Go.Lw
namespace Go.Lw
open Go.RowKit
section
variable {P:Program} {a:Act} {n:Nat} {L:List (Nat×Value)} {w:World} {v:Value} {g g2:Nat} {T T2:TypeId} {cs cs2:List Value}
theorem j7i {fn:Func}{R:Ending->World->Prop}{p pt p2 pt2 q:Nat}(h:Ag a n L)(hr:fn.results=#[.cell p pt,.cell p2 pt2,.tmp q])(hp:look L p=some (pta g))(hb:Blk w g T cs)(Z:z3y P pt cs.length)
    (hp2:look L p2=some (pta g2)) (hb2:Blk w g2 T2 cs2) (hg2:z3y P pt2 cs2.length) (hv:look L q=some v) (k:R (.returned<|.tuple #[.agg cs.toArray,.agg cs2.toArray,v]) w):bodyPost P fn R .ret a w:=
  bodyPost_ret (v:=.tuple #[.agg cs.toArray,.agg cs2.toArray,v]) (by
    have D:=h.at_ p _ hp
    have I:=h.at_ q _ hv
    have O:=h.at_ p2 _ hp2
    simp only[l45]at D I O
    simp[results,hr,D,I,O,asAddr,loadVar,Z.1 w,Z.2 w,hg2.1 w,hg2.2 w,run_loadCells_list w _ cs hb.cells,run_loadCells_list w _ cs2 hb2.cells]) h.dfr k
theorem k2v {fn:Func}{R:Ending->World->Prop}{p pt p2 pt2 q:Nat}(I:fn.results=#[.cell p pt,.cell p2 pt2,.tmp q])(hp:look L p=some (pta g))(hb:Blk w g T cs)(D:z3y P pt cs.length)
 (hp2:look L p2=some (pta g2)) (hb2:Blk w g2 T2 cs2) (hg2:z3y P pt2 cs2.length) (hv:look L q=some v) (k:R (.returned<|.tuple #[.agg cs.toArray,.agg cs2.toArray,v]) w):EW (bodyPost P fn R) .ret n [] w L:=λ_ h=>j7i h I hp hb D hp2 hb2 hg2 hv k
end
end Go.Lw
namespace Go.Lw
open Go.RowKit
section
variable {P:Program} {n:Nat} {L:List (Nat×Value)} {ds:List Nat} {w w':World} {Q:Exit->Act->World->Prop} {ops:Array Oper} {rest:List Oper} {a:Act} {d:Nat} {ty T t:TypeId} {pos:String} {after:Array Edge} {v:Value} {x y:Operand}
end
end Go.Lw
namespace Go.Lw
open Go.RowKit
section
variable {P:Program} {n:Nat} {L:List (Nat×Value)} {ds:List Nat} {w w':World} {Q:Exit->Act->World->Prop} {ops:Array Oper} {rest:List Oper} {a:Act} {d:Nat} {ty T t tn:TypeId} {pos:String} {after:Array Edge} {v:Value} {x y:Operand}
end
end Go.Lw
namespace Go.Proofs.YtlfdhllfmoplgaaGreatDoor
open Go.Lw _root_.Go.Proofs.Tryz
theorem z5n:z3y prog 42 2:=⟨λ_=>kr,λ_=>kr⟩
theorem y2a:z3y prog 44 6:=⟨λ_=>kr,λ_=>kr⟩
theorem y7p:BuildAt prog 42 [(0,1),(1,1)] [(.int .u8 0),(.int .i64 0)]:=BuildAt.struct underlying42 (λ_=>kr)<|λ_=>kr
theorem x3e:BuildAt prog 177 [(0,1),(1,1),(2,1),(3,1)] [(.bool false),(.bool false),(.bool false),(.bool false)]:=BuildAt.struct underlying177 (λ_=>kr)<|λ_=>kr
theorem u2r:CallOf prog 82:=mkC func82
theorem z6s:z1d prog 42 0 0:=λ_ _=>kr
theorem z6r:z1d prog 42 1 1:=λ_ _=>kr
theorem z7e:z1d prog 44 0 0:=λ_ _=>kr
theorem z9g:z1d prog 44 1 1:=λ_ _=>kr
theorem z5k:z1d prog 44 2 2:=λ_ _=>kr
theorem z4j:z1d prog 44 3 4:=λ_ _=>kr
theorem y4e:z1d prog 44 4 5:=λ_ _=>kr
theorem x0b:z1d prog 177 0 0:=λ_ _=>kr
theorem x5u:z1d prog 177 1 1:=λ_ _=>kr
theorem x7s:z1d prog 177 2 2:=λ_ _=>kr
theorem j3o:z1d prog 177 3 3:=λ_ _=>kr
theorem z2r:prog.follows .mixedOrders=true:=kr
theorem na3:z2d prog 3:=λ_=>kr
theorem na4:z2d prog 4:=λ_=>kr
theorem na5:z2d prog 5:=λ_=>kr
theorem x9e:z2d prog 38:=λ_=>kr
theorem x2d:z2d prog 39:=λ_=>kr
theorem x8d:z2d prog 40:=λ_=>kr
theorem j5k:z1r prog 177 4:=λ_=>kr
theorem x5k (w:World):(zeroValue 177).run prog w=.ok (.agg #[(.bool false),(.bool false),(.bool false),(.bool false)]) w:=kr
theorem z5i (b p:Int)(w0:World):Rets prog 82 #[.agg #[.int .u8 b,.int .i64 p]] w0 λv w'=>v=.int .i64 (z4d b p)/\Fr [] w0 w':=by
 refine we [(0,.agg #[.int .u8 b,.int .i64 p])] func82 U ntmps82 U (.cons U .nil)<|sr<|bx U<|λg1 w1 a0 D Z z1=>(asg U<|nn<|sq<|sq<|rbo (r:=10) (L':=ll1 1) (((b≠0)/\(b≠1))) (csu U) ?_ ?_);refine fad U z6s<|z0j U D U x8d<|ne' U<|mv U U<|gs 6 U (λg0=>?_)<|λg0=>?_;exact gY U<|fad U z6s<|gY U<|z0j U D U x8d<|gY U<|ne' U<|pkt U<|rbe U<|csu U;exact gN U<|gN U<|gN U<|pkf U<|rbe U<|csu U;refine tn<|cd U (λI=>?_)<|λI=>?_;exact sr<|asg U<|nn<|rt<|tr<|r1 results82 U ⟨_,rfl,by rw[z4d,if_pos I],Z⟩;refine sk<|tn<|sq<|sq<|rbo (r:=18) (L':=[]) (((p<1)\/(40<p))) .nil ?_ ?_;refine fad U z6r<|z0j U D U na3<|lt' U<|mv U U<|gs 14 U (λg1=>?_)<|λg1=>?_;exact gN U<|gN U<|gN U<|pkt U<|rbe U .nil;exact gY U<|fad U z6r<|gY U<|z0j U D U na3<|gY U<|gt' U<|pkf U<|rbe U .nil;refine tn<|cd U (λO=>?_)<|λO=>?_;exact sr<|asg U<|nn<|rt<|tr<|r1 results82 U ⟨_,rfl,by rw[z4d,if_neg I,if_pos O],Z⟩;exact sk<|tn<|sr<|asg U<|nn<|rt<|r1 results82 U ⟨_,rfl,by rw[z4d,if_neg I,if_neg O],Z⟩
def kV (k:Int):Value:=.int .u8 k
theorem y7q:KeyLaw prog 38 kV:=KeyLaw.now underlying38 (λk k'=>by simp[kV,Instr.sameNow,y6o]) (λ_ _ _=>kr) (λ_=>by simp[kV,Instr.sameBits])
theorem x1b (w0:World):Rets prog 100 #[] w0 λv w'=>∃g,v=.map (some g)/\w0.heap.size<=g/\g<w'.heap.size/\MapF kV w' g x7j/\Fr [] w0 w':=by
 refine we [] func100 U ntmps100 U .nil<|sr<|asg U<|nn<|sr<|y6f kV U<|λI w1 O D Z z1=>?_
 refine z1u (cs:=[_,_,_,_]) (ev2 U) x3e (z0g U<|z0g U z0r) U ?_
 refine z3o (V:=kV) (k:=1) U D y7q underlying179<|λw2 D q2 z2=>?_
 refine z1u (cs:=[_,_,_,_]) (ev1 U) x3e (z0g U z0r) U ?_
 refine z3o (V:=kV) (k:=2) U D y7q underlying179<|λw3 D q3 z3=>?_
 refine z1u (cs:=[_,_,_,_]) (ev1 U) x3e (z0g U z0r) U ?_
 refine z3o (V:=kV) (k:=3) U D y7q underlying179<|λw4 D q4 z4=>?_
 refine z1u (cs:=[_,_,_,_]) (ev3 U) x3e (z0g U<|z0g U<|z0g U z0r) U ?_
 refine z3o (V:=kV) (k:=4) U D y7q underlying179<|λw5 D q5 z5=>?_
 refine z1u (cs:=[_,_,_,_]) (ev3 U) x3e (z0g U<|z0g U<|z0g U z0r) U ?_
 refine z3o (V:=kV) (k:=5) U D y7q underlying179<|λw6 D q6 z6=>?_
 refine z1u (cs:=[_,_,_,_]) (ev3 U) x3e (z0g U<|z0g U<|z0g U z0r) U ?_
 refine z3o (V:=kV) (k:=6) U D y7q underlying179<|λw7 D q7 z7=>?_
 refine z1u (cs:=[_,_,_,_]) (ev1 U) x3e (z0g U z0r) U ?_
 refine z3o (V:=kV) (k:=7) U D y7q underlying179<|λw8 D q8 z8=>?_
 refine z1u (cs:=[_,_,_,_]) (ev1 U) x3e (z0g U z0r) U ?_
 refine z3o (V:=kV) (k:=8) U D y7q underlying179<|λw9 D q9 z9=>(mv U U<|asg U<|nn<|rt<|r1 results100 U ?_)
 exact⟨_,rfl,I,rfl,oo,oo,by
  refine(funext λk=>?_:x7j=_)▸D
  unfold x7j z8x;repeat' split
  all_goals first|rfl|(simp_all [f4V];done),(((Z.z6 q2 q3 q4 q5 q6 q7).z1 q8).z1 q9)⟩
theorem k6b:v4a prog 42 ndV:=by
 intro e f Z oy w;have O:∀D,(eqGuard D 42 Z oy (ndV e)<|ndV f).run prog w=.ok () w:=λD=>run_eqGuard_agg w D 42 Z oy _ _ kr;have I:prog.stoodInHeld 42=false:=by kernel_rfl
 obtain⟨k,y⟩:=e;obtain⟨k',y'⟩:=f;refine⟨O _,O _,?_,?_⟩;unfold ndV;simp[go_sem,I,underlying42];(repeat' split)<;>simp_all
 unfold ndV;simp[go_sem,I,underlying42];(repeat' split)<;>simp_all
theorem u6h (o:MOp)(w0:World):Rets prog 47 #[opV o] w0 λv w'=>v=.bool (decide (y8e o))/\Fr [] w0 w':=by
 refine we [(0,opV o)] func47 U ntmps47 U (.cons U .nil)<|sr<|bx U<|λg1 w1 d0 D q1 z1=>(asg U<|nn<|jn (ι:=Nat) (ll1 1) (λg3=>[(3,pta g3),(4,.bool (z8x o.k).isSome)]) (λg3 w'=>Fr [] w1 w'/\w1.heap.size<=g3/\Blk w' g3 177 (f4L<|(z8x o.k).getD f40)) (csu U) ?_ ?_);intro a h;have Z:=l12 [] w1;refine z2y (λwb w'=>Fr [] wb w') z2r ?_;intro w2 O;have D:=D.ext O;have Z:=Z.next O;have d3:=O.size;clear O;have hC:Fr [] w2 w2:=l12 _ _;have a3:=D;refine z0c 1 h U z7e U λa h=>z0m 2 h U (λ_ hw=>a3.ext hw) U x9e U λa h=>z1w 0 7 kr U ?_ ?_;refine z0n h z0f (mkC func100) (x1b _) ?_;rintro _ w3 ⟨gm,rfl,b0,b1,hm,O⟩ a h;have D:=D.ext O;have Z:=Z.next O;have hC:=hC.next O;clear O;refine z0b<|z1w 3 7 kr U ?_ ?_;refine y3v (V:=kV) (k:=o.k) h U U hm y7q underlying179 x5k (z8d _) (y3j _) U λa h=>z0b<|z0e 4 h U λa h=>z0l 5 h U λa h=>z0l 6 h U λa h=>z0d 7 U<|z0w h x5k U λw4 I O hz a h=>?_;obtain⟨a0,hg⟩:∃g,g=w3.heap.size:=⟨_,rfl⟩;rw[<-hg]at I h hz;have a8:g1<a0:=by have:=D.lt;omega
 have a2:w1.heap.size<=a0:=by have:=Z.size;omega
 have a6:w2.heap.size<=a0:=by have:=hC.size;omega
 have D:=D.ext O;have Z:=Z.next O;have hC:=hC.next O;have hm:=hm.ext O;clear O;refine z0b<|z0d 8 U<|z0t h U I U j5k ?_ (h1:=t67);intro w5 a5 O hz a h;have D:=D.fr O;have Z:=Z.sp O;have hC:=hC.sp O;have hm:=hm.fr O (by simp;exact hm.ne_blk I);clear I O hz;have I:Blk w5 a0 _ [_,_,_,_]:=a5;clear a5;refine z0b<|z0d 9 U<|z0q h U λa h=>?_;refine z0b<|z0p ?_;clear hC a3;exact bk (h.sub (L':=ll3 1 3 4)<|csu U)<|jE (a0) (csu U) ⟨Z,⟨oo,I⟩⟩;refine z0w h x5k U λw6 I O hz a h=>?_;obtain⟨a0,hg⟩:∃g,g=w3.heap.size:=⟨_,rfl⟩;rw[<-hg]at I h hz;have a8:g1<a0:=by have:=D.lt;omega
 have a2:w1.heap.size<=a0:=by have:=Z.size;omega
 have a6:w2.heap.size<=a0:=by have:=hC.size;omega
 have D:=D.ext O;have Z:=Z.next O;have hC:=hC.next O;have hm:=hm.ext O;clear O;refine z0b<|z0d 3 U<|y3v (V:=kV) (k:=o.k) h U U hm y7q underlying179 x5k (z8d _) (y3j _) U λa h=>?_;refine z0b<|z0e 4 h U λa h=>z0l 5 h U λa h=>z0l 6 h U λa h=>z0d 8 U<|z0t h U I U j5k ?_ (h1:=t67);intro w7 a5 O hz a h;have D:=D.fr O;have Z:=Z.sp O;have hC:=hC.sp O;have hm:=hm.fr O (by simp;exact hm.ne_blk I);clear I O hz;have I:Blk w7 a0 _ [_,_,_,_]:=a5;clear a5;refine z0b<|z0d 9 U<|z0q h U λa h=>?_;refine z0b<|z0p ?_;clear hC a3;exact bk (h.sub (L':=ll3 1 3 4)<|csu U)<|jE (a0) (csu U) ⟨Z,⟨oo,I⟩⟩;refine z0w h x5k U λw8 I O hz a h=>?_;obtain⟨a0,hg⟩:∃g,g=w2.heap.size:=⟨_,rfl⟩;rw[<-hg]at I h hz;have a8:g1<a0:=by have:=D.lt;omega
 have a2:w1.heap.size<=a0:=by have:=Z.size;omega
 have a6:w2.heap.size<=a0:=by have:=hC.size;omega
 have D:=D.ext O;have Z:=Z.next O;have hC:=hC.next O;clear O;refine z0b<|z0d 0 U<|z0n h z0f (mkC func100) (x1b _) ?_;rintro _ w9 ⟨gm,rfl,b0,b1,hm,O⟩ a h;have D:=D.ext O;have Z:=Z.next O;have hC:=hC.next O;have I:=I.ext O;clear O;refine z0b<|z0d 3 U<|y3v (V:=kV) (k:=o.k) h U U hm y7q underlying179 x5k (z8d _) (y3j _) U λa h=>?_;refine z0b<|z0e 4 h U λa h=>z0l 5 h U λa h=>z0l 6 h U λa h=>z0d 8 U<|z0t h U I U j5k ?_ (h1:=t67);intro b9 a5 O hz a h;have D:=D.fr O;have Z:=Z.sp O;have hC:=hC.sp O;have hm:=hm.fr O (by simp;exact hm.ne_blk I);clear I O hz;have I:Blk b9 a0 _ [_,_,_,_]:=a5;clear a5;refine z0b<|z0d 9 U<|z0q h U λa h=>?_;refine z0b<|z0p ?_;clear hC a3;exact bk (h.sub (L':=ll3 1 3 4)<|csu U)<|jE (a0) (csu U) ⟨Z,⟨oo,I⟩⟩;rintro g3 c9 ⟨a1,⟨d1,I⟩⟩;have b2:=I.lt;refine kpC (ll3 1 3 4) (csu U) ?_;obtain⟨f,hf⟩:∃f,(z8x o.k).getD f40=f:=⟨_,rfl⟩;rw[hf]at I;have a7:y8e o↔(z8x o.k).isSome=true/\v0k f o:=by rw[<-hf];rfl
 replace I:Blk c9 g3 _ [.bool f.1,.bool f.2.1,.bool f.2.2.1,.bool f.2.2.2]:=I;refine sq<|sr<|mv U U<|nt' U<|nn<|cd U (λc0=>?_)<|λc0=>?_;refine sr<|asg U<|nn<|rt<|tr<|r1 results47 U ?_;exact⟨_,rfl,congrArg Value.bool (decide_eq_false (λh=>by simp[(a7.1 h).1]at c0)).symm,(q1.n1 a1)⟩;refine sk<|tn<|sq<|sq<|rbo (r:=35) (L':=ll2 1 3) ((((f.1=true/\(o.d≠0))/\(o.d≠1))\/((¬f.1=true)/\(o.d≠0)))) (csu U) ?_ ?_;refine fad U x0b<|z0j U I U na4<|mv U U<|gs 16 U (λg0=>?_)<|λg0=>?_;refine gY U<|fad U z9g<|gY U ?_;have D:=D.ext a1;refine z0j U D U x2d<|gY U<|ne' U<|pkt U<|mv U U<|gs 21 U (λg1=>?_)<|λg1=>?_;refine gY U<|fad U z9g<|gY U<|z0j U D U x2d<|gY U<|ne' U<|pkt U<|mv U U<|gs 26 U (λg2=>?_)<|λg2=>?_;exact gN U<|gN U<|gN U<|gN U<|gS U<|gS U<|gS U<|gN U<|pkt U<|rbe U<|csu U;refine gY U<|fad U x0b<|gY U<|z0j U I U na4<|gY U<|nt' U<|gY U<|mv U U<|gs 30 U (λg3=>?_)<|λg3=>?_;exact gY U<|fad U z9g<|gY U<|z0j U D U x2d<|gY U<|ne' U<|gY U<|pkt U<|pkf U<|rbe U<|csu U;exact gN U<|gN U<|gN U<|gY U<|pkf U<|pkf U<|rbe U<|csu U;refine gN U<|gN U<|gN U<|pkf U<|mv U U<|gY U<|fad U x0b<|gY U<|z0j U I U na4<|gY U<|nt' U<|gY U<|mv U U<|gs 30 U (λg4=>?_)<|λg4=>?_;exact gY U<|fad U z9g<|gY U<|z0j U D U x2d<|gY U<|ne' U<|gY U<|pkt U<|pkf U<|rbe U<|csu U;exact gN U<|gN U<|gN U<|gY U<|pkf U<|pkf U<|rbe U<|csu U;refine gN U<|gN U<|gN U<|pkf U<|mv U U<|gN U<|gN U<|gN U<|pkf U<|mv U U<|gY U<|fad U x0b<|gY U<|z0j U I U na4<|gY U<|nt' U<|gY U<|mv U U<|gs 30 U (λg5=>?_)<|λg5=>?_;refine gY U<|fad U z9g<|gY U ?_;have D:=D.ext a1;exact z0j U D U x2d<|gY U<|ne' U<|gY U<|pkt U<|pkf U<|rbe U<|csu U;exact gN U<|gN U<|gN U<|gY U<|pkf U<|pkf U<|rbe U<|csu U;refine tn<|cd U (λc1=>?_)<|λc1=>?_;refine sr<|asg U<|nn<|rt<|tr<|r1 results47 U ?_;exact⟨_,rfl,congrArg Value.bool (decide_eq_false<|λh=>(a7.1 h).2.1 c1).symm,(q1.n1 a1)⟩;refine sk<|tn<|sq<|sq<|v4b (r:=54) (L':=ll2 1 3) (((f.2.1=true/\((z4d o.b o.p)≠0))\/((¬f.2.1=true)/\(¬(o.b=0/\o.p=0))))) (csu U) ?_ ?_;refine fad U x5u<|z0j U I U na4<|mv U U<|gs 38 U (λg6=>?_)<|λg6=>?_;refine gY U<|fad U z5k<|gY U ?_;have D:=D.ext a1;refine z1v (vs:=[_,_]) U D z5n U<|gY U<|cl (ev1 U) u2r (z5i _ _ _) U ?_;rintro _ d4 ⟨rfl,a9⟩;refine gY U<|ne' U<|pkt U<|mv U U<|gs 44 U (λg7=>?_)<|λg7=>?_;exact gN U<|gN U<|gN U<|gN U<|gS U<|gS U<|gS U<|gS U<|gN U<|pkt U<|y1y U (csu U) a9;refine gY U<|fad U x5u<|gY U ?_;have I:=I.ext a9;refine z0j U I U na4<|gY U<|nt' U<|gY U<|mv U U<|gs 48 U (λg8=>?_)<|λg8=>?_;refine gY U<|fad U z5k<|gY U ?_;have D:=D.ext a9;exact z1v (vs:=[_,_]) U D z5n U<|gY U<|z1u (cs:=[_,_]) z0f y7p z0r U<|gY U<|j0r (V:=ndV) (e:=(_,_)) (f:=(_,_)) U U k6b U<|gY U<|pkt U<|pkf U<|y1y U (csu U) a9;exact gN U<|gN U<|gN U<|gN U<|gY U<|pkf U<|pkf U<|y1y U (csu U) a9;refine gN U<|gN U<|gN U<|gN U<|pkf U<|mv U U<|gY U<|fad U x5u<|gY U<|z0j U I U na4<|gY U<|nt' U<|gY U<|mv U U<|gs 48 U (λg9=>?_)<|λg9=>?_;refine gY U<|fad U z5k<|gY U ?_;have D:=D.ext a1;exact z1v (vs:=[_,_]) U D z5n U<|gY U<|z1u (cs:=[_,_]) z0f y7p z0r U<|gY U<|j0r (V:=ndV) (e:=(_,_)) (f:=(_,_)) U U k6b U<|gY U<|pkt U<|pkf U<|y1y U (csu U)<|l12 _ _;exact gN U<|gN U<|gN U<|gN U<|gY U<|pkf U<|pkf U<|y1y U (csu U)<|l12 _ _;intro d5 a4;have d6:=a4.size;refine tn<|cd U (λc2=>?_)<|λc2=>?_;refine sr<|asg U<|nn<|rt<|tr<|r1 results47 U ?_;exact⟨_,rfl,congrArg Value.bool (decide_eq_false<|λh=>(a7.1 h).2.2.1 c2).symm,(q1.n2 a1 a4)⟩;refine sk<|tn<|sq<|sq<|rbo (r:=76) (L':=ll2 1 3) (((f.2.2.1=true/\((o.y<1)\/(6<o.y)))\/((¬f.2.2.1=true)/\(o.y≠0)))) (csu U) ?_ ?_;refine fad U x7s ?_;have I:=I.ext a4;refine z0j U I U na4<|mv U U<|gs 57 U (λb3=>?_)<|λb3=>?_;refine gY U<|fad U z4j<|gY U ?_;have D:=D.ext<|a1.n1 a4;refine z0j U D U na5<|gY U<|lt' U<|gY U<|mv U U<|gs 61 U (λb4=>?_)<|λb4=>?_;exact gN U<|gN U<|gN U<|gY U<|pkt U<|pkt U<|mv U U<|gN U<|gN U<|gN U<|gN U<|gS U<|gS U<|gS U<|gN U<|pkt U<|rbe U<|csu U;refine gY U<|fad U z4j<|gY U<|z0j U D U na5<|gY U<|gt' U<|gY U<|pkf U<|pkt U<|mv U U<|gs 67 U (λb5=>?_)<|λb5=>?_;exact gN U<|gN U<|gN U<|gN U<|gS U<|gS U<|gS U<|gN U<|pkt U<|rbe U<|csu U;refine gY U<|fad U x7s<|gY U<|z0j U I U na4<|gY U<|nt' U<|gY U<|mv U U<|gs 71 U (λb6=>?_)<|λb6=>?_;exact gY U<|fad U z4j<|gY U<|z0j U D U na5<|gY U<|ne' U<|gY U<|pkt U<|pkf U<|rbe U<|csu U;exact gN U<|gN U<|gN U<|gY U<|pkf U<|pkf U<|rbe U<|csu U;refine gN U<|gN U<|gN U<|gN U<|gS U<|gS U<|gS U<|gN U<|pkf U<|mv U U<|gY U<|fad U x7s<|gY U<|z0j U I U na4<|gY U<|nt' U<|gY U<|mv U U<|gs 71 U (λb7=>?_)<|λb7=>?_;refine gY U<|fad U z4j<|gY U ?_;have D:=D.ext<|a1.n1 a4;exact z0j U D U na5<|gY U<|ne' U<|gY U<|pkt U<|pkf U<|rbe U<|csu U;exact gN U<|gN U<|gN U<|gY U<|pkf U<|pkf U<|rbe U<|csu U;refine tn<|cd U (λc3=>?_)<|λc3=>?_;refine sr<|asg U<|nn<|rt<|tr<|r1 results47 U ?_;exact⟨_,rfl,congrArg Value.bool (decide_eq_false<|λh=>(a7.1 h).2.2.2.1 c3).symm,(q1.n2 a1 a4)⟩;refine sk<|tn<|sq<|rbo (r:=2) (L':=[]) ((f.2.2.2=true\/(o.r=0))) .nil ?_ ?_;refine fad U j3o ?_;have I:=I.ext a4;refine z0j U I U na4<|mv U U<|gs 79 U (λb8=>?_)<|λb8=>?_;exact gN U<|gN U<|gN U<|pkt U<|asg U<|rbe U .nil;refine gY U<|fad U y4e<|gY U ?_;have D:=D.ext<|a1.n1 a4;exact z0j U D U na3<|gY U<|eq' U<|pkf U<|asg U<|rbe U .nil;refine tn<|rt<|r1 results47 U ?_;exact⟨_,rfl,congrArg Value.bool<|decide_eq_decide.2 ⟨λh=>a7.2 ⟨by revert c0;cases (z8x o.k).isSome<;>simp,c1,c2,c3,h⟩,λh=>(a7.1 h).2.2.2.2⟩,(q1.n2 a1 a4)⟩
theorem y0u (o:MOp)(w0:World):Rets prog 20 #[opV o] w0 λv w'=>v=.int .i64 (z9i o)/\Fr [] w0 w':=by
 refine we [(0,opV o)] func20 U ntmps20 U (.cons U .nil)<|sr<|bx U<|λg1 w1 a0 D q1 z1=>(asg U<|nn<|sq<|sr<|z0k U D y2a<|cl (ev1 U) (mkC func47) (u6h o _) U ?_);rintro _ w2 ⟨rfl,O⟩;refine nt' U<|nn<|cd U (λI=>?_)<|λI=>?_;exact sr<|asg U<|nn<|rt<|tr<|r1 results20 U ⟨_,rfl,by rw[z9i,if_pos I],(q1.n1 O)⟩;refine sk<|tn<|sq<|sq<|rbo (r:=13) (L':=[]) (((o.r < -4)\/(4<o.r))) .nil ?_ ?_;refine fad U y4e ?_;have D:=D.ext O;refine z0j U D U na3<|lt' U<|mv U U<|gs 9 U (λg0=>?_)<|λg0=>?_;exact gN U<|gN U<|gN U<|pkt U<|rbe U .nil;exact gY U<|fad U y4e<|gY U<|z0j U D U na3<|gY U<|gt' U<|pkf U<|rbe U .nil;refine tn<|cd U (λZ=>?_)<|λZ=>?_;exact sr<|asg U<|nn<|rt<|tr<|r1 results20 U ⟨_,rfl,by rw[z9i,if_neg I,if_pos Z],(q1.n1 O)⟩;exact sk<|tn<|sr<|asg U<|nn<|rt<|r1 results20 U ⟨_,rfl,by rw[z9i,if_neg I,if_neg Z],(q1.n1 O)⟩
open Go.Lw Go.G21 Go.G08 _root_.Go.Proofs.Tryz
theorem z2z:z3y prog 64 2:=⟨λ_=>kr,λ_=>kr⟩
theorem z9k:z3y prog 107 4:=⟨λ_=>kr,λ_=>kr⟩
theorem z9b:z1d prog 64 0 0:=λ_ _=>kr
theorem y1b:z1d prog 64 1 1:=λ_ _=>kr
theorem x6i:z1d prog 107 0 0:=λ_ _=>kr
theorem z8w:z1d prog 107 2 3:=λ_ _=>kr
theorem k6l:z1r prog 39 1:=λ_=>kr
def idV (i:LId):Value:=.agg (idL i).toArray
def paV (p:Pa):Value:=.agg (paL p).toArray
theorem k3n:v4a prog 64 idV:=by
 intro e f Z oy w;have O:∀D,(eqGuard D 64 Z oy (idV e)<|idV f).run prog w=.ok () w:=λD=>run_eqGuard_agg w D 64 Z oy _ _ kr;have I:prog.stoodInHeld 64=false:=by kernel_rfl
 obtain⟨y,n⟩:=e;obtain⟨y',n'⟩:=f;refine⟨O _,O _,?_,?_⟩;unfold idV;simp[go_sem,I,underlying64];(repeat' split)<;>simp_all
 unfold idV;simp[go_sem,I,underlying64];(repeat' split)<;>simp_all
theorem eqPa:v4a prog 107 paV:=by
 intro e f Z oy w;have O:∀D,(eqGuard D 107 Z oy (paV e)<|paV f).run prog w=.ok () w:=λD=>run_eqGuard_agg w D 107 Z oy _ _ kr;have I:prog.stoodInHeld 107=false:=by kernel_rfl
 obtain⟨⟨y,n⟩,b,d⟩:=e;obtain⟨⟨y',n'⟩,b',d'⟩:=f;refine⟨O _,O _,?_,?_⟩;unfold paV;simp[go_sem,I,underlying107];(repeat' split)<;>simp_all
 unfold paV;simp[go_sem,I,underlying107];(repeat' split)<;>simp_all
theorem x1u (i:LId)(w0:World):Rets prog 109 #[ivv i] w0 λr w'=>r=.bool (decide (y2n i))/\Fr [] w0 w':=by
 refine we [(0,ivv i)] func109 U ntmps109 U (.cons U .nil)<|sr<|bx U<|λI w1 Z D q1 z1=>(asg U<|nn<|sq<|rbo (r:=2) (L':=[]) (((((1<=i.y)/\(i.y<=6))/\(0<=i.n))/\(i.n<2048))) .nil ?_ ?_);refine fad U z9b<|z0j U D U na5<|ge' U<|mv U U<|gs 6 U (λO=>?_)<|λO=>?_;refine gY U<|fad U z9b<|gY U<|z0j U D U na5<|gY U<|le' U U<|pkt U<|mv U U<|gs 11 U (λI=>?_)<|λI=>?_;refine gY U<|fad U y1b<|gY U<|z0j U D U na3<|gY U<|ge' U<|pkt U<|mv U U<|gs 16 U (λg2=>?_)<|λg2=>?_;exact gY U<|fad U y1b<|gY U<|z0j U D U na3<|gY U<|lt' U<|pkt U<|asg U<|rbe U .nil;exact gN U<|gN U<|gN U<|pkf U<|asg U<|rbe U .nil;exact gN U<|gN U<|gN U<|pkf U<|mv U U<|gN U<|gN U<|gN U<|pkf U<|asg U<|rbe U .nil;exact gN U<|gN U<|gN U<|pkf U<|mv U U<|gN U<|gN U<|gN U<|pkf U<|mv U U<|gN U<|gN U<|gN U<|pkf U<|asg U<|rbe U .nil;refine tn<|rt<|r1 results109 U ?_;exact⟨_,rfl,congrArg Value.bool<|decide_eq_decide.2 (by unfold y2n;omega),q1⟩
theorem y5g (d:Int)(w0:World):Rets prog 155 #[.int .u8 d] w0 λr w'=>r=.bool (decide (z6k d))/\Fr [] w0 w':=by
 refine we [(0,.int .u8 d)] func155 U ntmps155 U (.cons U .nil)<|sr<|asg U<|nn<|sq<|rbo (r:=2) (L':=[]) (((d=0)\/(d=1))) .nil ?_ ?_;refine mv U U<|eq' U<|mv U U<|gs 5 U (λD=>?_)<|λD=>?_;exact gN U<|gN U<|pkt U<|asg U<|rbe U .nil;exact gY U<|mv U U<|gY U<|eq' U<|pkf U<|asg U<|rbe U .nil;refine tn<|rt<|r1 results155 U ?_;exact⟨_,rfl,congrArg Value.bool<|decide_eq_decide.2 (by unfold z6k;omega),(l12 _ _)⟩
theorem v1x (p:Pa)(w0:World):Rets prog 111 #[.agg #[.int .u8 p.id.y,.int .i64 p.id.n,.bool p.f,.int .u8 p.d]] w0 λr w'=>r=.bool (decide (y2c p))/\Fr [] w0 w':=by
 refine we [(0,.agg #[.int .u8 p.id.y,.int .i64 p.id.n,.bool p.f,.int .u8 p.d])] func111 U ntmps111 U (.cons U .nil)<|sr<|bx U<|λg1 w1 a0 D q1 z1=>(asg U<|nn<|sq<|v4b (r:=2) (L':=[]) (((y2n ⟨p.id.y,p.id.n⟩)/\(z6k p.d))) .nil ?_ ?_);refine fad U x6i<|z1v (vs:=[_,_]) U D z2z U<|cl (ev1 U) (mkC func109) (x1u ⟨_,_⟩ _) U ?_;rintro _ w2 ⟨rfl,I⟩;refine mv U U<|gs 6 U (λZ=>?_)<|λZ=>?_;refine gY U<|fad U z8w<|gY U ?_;have D:=D.ext I;refine z0j U D U x2d<|gY U<|cl (ev1 U) (mkC func155) (y5g _ _) U ?_;rintro _ w3 ⟨rfl,q3⟩;exact pkt U<|asg U<|y1y U .nil<|I.n1 q3;exact gN U<|gN U<|gN U<|pkf U<|asg U<|y1y U .nil I;intro w4 O;have z4:=O.size;refine tn<|rt<|r1 results111 U ?_;exact⟨_,rfl,congrArg Value.bool<|decide_eq_decide.2 (by rfl),(q1.n1 O)⟩
theorem y8p (x:Int)(w0:World):Rets prog 110 #[.int .i64 x] w0 λr w'=>r=.bool (decide (x5h x))/\Fr [] w0 w':=by
 refine we [(0,.int .i64 x)] func110 U ntmps110 U (.cons U .nil)<|sr<|asg U<|nn<|sq<|rbo (r:=2) (L':=[]) (((((Int.tmod x 2)≠0)/\(-13<=x))/\(x<=179))) .nil ?_ ?_;refine mv U U<|y7v U U t38<|ne' U<|mv U U<|gs 6 U (λD=>?_)<|λD=>?_;refine gY U<|mv U U<|gY U<|ge' U<|pkt U<|mv U U<|gs 10 U (λI=>?_)<|λI=>?_;exact gY U<|mv U U<|gY U<|le' U U<|pkt U<|asg U<|rbe U .nil;exact gN U<|gN U<|pkf U<|asg U<|rbe U .nil;exact gN U<|gN U<|pkf U<|mv U U<|gN U<|gN U<|pkf U<|asg U<|rbe U .nil;refine tn<|rt<|r1 results110 U ?_;exact⟨_,rfl,congrArg Value.bool<|decide_eq_decide.2 (by unfold x5h;exact and_assoc),(l12 _ _)⟩
theorem x5o (p q:Pa)(w0:World):Rets prog 112 #[.agg #[.int .u8 p.id.y,.int .i64 p.id.n,.bool p.f,.int .u8 p.d],.agg #[.int .u8 q.id.y,.int .i64 q.id.n,.bool q.f,.int .u8 q.d]] w0 λr w'=>r=.bool (decide (u7x p q))/\Fr [] w0 w':=by
 refine we [(0,.agg #[.int .u8 p.id.y,.int .i64 p.id.n,.bool p.f,.int .u8 p.d]),(1,.agg #[.int .u8 q.id.y,.int .i64 q.id.n,.bool q.f,.int .u8 q.d])] func112 U ntmps112 U (.c2 U U)<|sr<|bx U<|λg2 w1 a0 I q1 z1=>(bx U<|λg3 w2 a1 D q2 z2=>(asg U<|nn<|sq<|sq<|v4b (r:=21) (L':=ll2 2 3) ((((¬(z6k p.d))\/(¬(z6k q.d)))\/(p.d=q.d))) (csu U) ?_ ?_));refine fad U z8w ?_;have I:=I.ext q2;refine z0j U I U x2d<|cl (ev1 U) (mkC func155) (y5g _ _) U ?_;rintro _ w3 ⟨rfl,O⟩;refine nt' U<|mv U U<|gs 9 U (λg0=>?_)<|λg0=>?_;exact gN U<|gN U<|gN U<|gN U<|pkt U<|mv U U<|gN U<|gN U<|gN U<|gN U<|gN U<|pkt U<|y1y U (csu U) O;refine gY U<|fad U z8w<|gY U ?_;have D:=D.ext O;refine z0j U D U x2d<|gY U<|cl (ev1 U) (mkC func155) (y5g _ _) U ?_;rintro _ w4 ⟨rfl,q4⟩;refine gY U<|nt' U<|pkf U<|mv U U<|gs 15 U (λg1=>?_)<|λg1=>?_;exact gN U<|gN U<|gN U<|gN U<|gN U<|pkt U<|y1y U (csu U)<|O.n1 q4;refine gY U<|fad U z8w<|gY U ?_;have I:=I.ext<|O.n1 q4;refine z0j U I U x2d<|gY U<|fad U z8w<|gY U ?_;have D:=D.ext q4;exact z0j U D U x2d<|gY U<|eq' U<|pkf U<|y1y U (csu U)<|O.n1 q4;intro w5 Z;have z5:=Z.size;refine tn<|cd U (λc0=>?_)<|λc0=>?_;refine sr<|asg U<|nn<|rt<|tr<|r1 results112 U ?_;exact⟨_,rfl,congrArg Value.bool (decide_eq_false<|j4t c0).symm,(q1.n2 q2 Z)⟩;refine sk<|tn<|sr<|fad U z8w ?_;have I:=I.ext<|q2.n1 Z;refine z0j U I U x2d<|fad U z8w ?_;have D:=D.ext Z;refine z3j U D U k6l<|λw6 D q6 z6=>?_;replace D:Blk w6 g3 _ [_,_,_,_]:=D;refine nn<|sr ?_;have I:=I.fr q6;refine z0k U I z9k<|z0k U D z9k<|k4g (V:=paV) (e:=p) (f:=(⟨q.id,q.f,p.d⟩:Pa)) U U eqPa U<|asg U<|nn<|rt<|r1 results112 U ?_;exact⟨_,rfl,congrArg Value.bool<|decide_eq_decide.2<|j0u c0,(q1.z3 q2 Z q6)⟩
theorem z4v:ElemOf prog 102 107 z2i 24:=ElemOf.mk' (z:=(.agg #[.int .u8 0,.int .i64 0,.bool false,.int .u8 0])) underlying102 kr U
theorem x1c (w:World):(zeroValue 107).run prog w=.ok (.agg #[(.int .u8 0),(.int .i64 0),(.bool false),(.int .u8 0)]) w:=kr
theorem y0s (v:Value)(l:List Pa)(w0:World)(I:Sl z2i w0 v l)(hl:l.length<=100000):Rets prog 210 #[v] w0 λr w'=>∃A,r=.slice A l.length l.length/\Lw.Own z2i 107 w0.heap.size w' r l/\Fr [] w0 w':=by
 obtain⟨A,c,rfl,a0,hM,hA⟩:=id I;clear hA;unfold maxLen at hM;refine we [(0,.slice A l.length c)] func210 U ntmps210 U (.cons U .nil) ?_;have O:=I;refine sr<|asg U<|nn<|sr<|mv U U<|lnS U underlying102<|z1f (m:=l.length) (c:=l.length) (pa0) U z4v x1c U<|λg6 w1 a1 D Z z1=>(asg U<|nn<|sr<|mv U U<|mv U U ?_);have I:=O.ext Z;refine z9d (zs:=List.replicate l.length pa0) t34 U (by rw[l22];exact D) I t35 z4v<|λw2 D q2 z2=>?_;rw[l22]at D;exact nn<|sr<|mv U U<|asg U<|nn<|rt<|r1 results210 U ⟨_,rfl,some ⟨g6,0,none⟩,rfl,D.low oo,(Z.z1 q2)⟩
theorem x2q:z1r prog 107 4:=λ_=>kr
theorem v5j (base:Nat)(u v:Value)(st l:List Pa)(w0:World)(ho:Lw.Own z2i 107 base w0 u st)(hs:Sl z2i w0 v l)(hd:∀k∈z0u v,k<base)(hb:base<=w0.heap.size)(hn:st.length+l.length<=100000):Rets prog 209 #[u,v] w0 λr w'=>∃S,Lw.Own z2i 107 base w' r (z5f st l)/\(∀k∈S,base<=k)/\Fr S w0 w':=by
 obtain⟨A,c,rfl,b8,hM,hA⟩:=id hs;clear hA;unfold maxLen at hM;refine we [(0,u),(1,.slice A l.length c)] func209 U ntmps209 U (.c2 U U) ?_;have b3:=hs;refine sr<|asg U<|nn<|sq<|sr<|mv U U<|lnS U underlying102<|mv U U<|nn<|bl<|lpK (ι:=Nat×Value) (ll2 8 9) (λp=>[(10,.int .i64 (p.1:Int)),(0,p.2)]) (λp w'=>p.1<=l.length/\Lw.Own z2i 107 base w' p.2 (z5f st<|l.take p.1)/\base<=w'.heap.size/\(∃S,(∀k∈S,base<=k)/\Fr S w0 w')) (λp=>l.length-p.1) (0,u) (csu U) ⟨l17 _,ho,hb,[],sp0,l12 _ _⟩ ?_;rintro⟨i,vT⟩ w1 ⟨hi,ho,hb,⟨S,hS,qS⟩⟩;simp only at hi ho;refine kpC [(8,_),(9,_),(10,.int .i64 (i:Int)),(0,vT)] (csu U) ?_;have hs:=b3.fr qS (λk O b2=>by have:=hS k O;have:=hd k b2;omega);have a9:=z7z (l.take i) st;rw[l25]at a9;obtain⟨ps,a0⟩:∃x,x=z5f st (l.take i):=⟨_,rfl⟩;rw[<-a0]at ho a9;obtain⟨AT,cT,rfl,b7⟩:=ho.sl.form;have a3:=ho;have b1:=ho.sl.len_le;unfold maxLen at b1;refine sr<|lt' U<|nn<|sq<|cd U (λc0=>?_)<|λc0=>?_;refine sk<|tn<|sq<|bl<|sr<|z1b (pa0) U hs U z4v z1j<|λb5 a6=>?_;refine z1q U (a6 _ hs) z9k<|al x1c U<|λg6 w2 b9 I q2 z2=>?_;refine z0i (vs:=[_,_,_,_]) U I x2q (λw3 I q3 z3=>?_) (h1:=(by first|(simp[Value.oneCell',S];done)|exact z2i.one<|l.getD i pa0));refine nn<|sr<|mv U U<|lnS U underlying102<|asg U<|nn<|sq ?_;have ho:=(ho.ext q2).fr q3 (by first|exact z9l ho oo|simp[z0u]<;>omega);intro a h;refine z0h none (λwb w'=>Fr [] wb w') z2r ?_;intro w4 q4;have z4:=q4.size;have ho:=ho.ext q4;have I:=I.ext q4;have hC:Fr [] w4 w4:=l12 _ _;have a2:=ho;have Z:=I;refine z0e 0 h U λa h=>v3m 1 hC h wn U U λa h=>z0e 2 h U λa h=>gSp (D:=18) h U ?_ ?_;intro g0 h;refine z0e 3 h U ?_ (hG:=(wy U));intro a h;refine z0e 4 h U ?_ (hG:=(wy U));intro a h;refine z2v 5 h U t13 U ?_ (hG:=(wy U));intro a h;refine z1e (p:=(ps.length-1)) (pa0) 6 h U ho.sl U z4v U ?_ (hG:=(wy U));intro b6 a7 a h;refine z2e 7 h (wy U) U (λ_ hw=>a7 _<|a2.sl.ext hw) z9k U λa h=>z0x 8 h U (λ_ hw=>Z.ext hw) z9k U ?_ (hG:=(wy U));intro a h;refine z0d 9 U<|z4p h U U U U<|z0n h (z0a U<|z0a U z0f) (mkC func112) (x5o (ps.getD (ps.length-1) pa0) (l.getD i pa0) _) ?_;rintro _ w5 ⟨rfl,q5⟩ a h;have z5:=q5.size;have ho:=ho.ext q5;have I:=I.ext q5;have hC:=hC.next q5;refine z0b<|z0d 10 U<|z4q h U λa h=>?_;refine z0b<|z0p ?_;clear hC a2 Z;refine bk (h.sub (L':=ll7 0 6 7 8 9 10 26)<|csu U)<|tn<|cd U (λc1=>?_)<|λc1=>?_;exact rg<|mv U U<|mv U U<|z2j U (wi6 oo)<|mv U U<|k3b U underlying102 U<|v5g (p:=(ps.length-1)) (p':=cT) U U U z4v oo oo oo oo oo U<|asg U<|kpL (ll4 0 8 9 10) (csu U)<|nl<|bn'<|tn<|rg<|z0v U (wi6 oo)<|mv U U<|nl<|lpE ((i+1,_)) (csu U) ⟨sm,by rw[y3t st l i oo,<-a0,y1p,if_pos ⟨oo,c1⟩];exact ho.take U oo oo oo,oo,S++z0u (.slice AT ps.length cT),(λk O=>(l23.1 O).elim (hS k)<|λO=>(a3.blk k O).1),qS.trans ((l12 (z0u<|.slice AT ps.length cT) _).z4 q2 q3 q4 q5)⟩ sm;refine rg<|mv U U<|z0k U I z9k<|z1i ([l.getD i pa0]) (ev1 U) U z4v<|λb0 w6 a8 a1 q6 z6=>?_;have ho:=ho.ext q6;have a4:=ho;refine z2k U ho a1.sl z4v<|λb4 w7 ho q7 a5=>?_;have z7:=q7.size;exact asg U<|kpL (ll4 0 8 9 10) (csu U)<|nl<|bn'<|tn<|rg<|z0v U (wi6 oo)<|mv U U<|nl<|lpE ((i+1,_)) (csu U) ⟨sm,by rw[y3t st l i oo,<-a0,y1p,if_neg (by first|exact λe=>c1 e.2|exact λe=>absurd e.1 oo)];exact ho,oo,S++z0u (.slice AT ps.length cT),(λk O=>(l23.1 O).elim (hS k)<|λO=>(a3.blk k O).1),qS.trans (((l12 (z0u<|.slice AT ps.length cT) _).z5 q2 q3 q4 q5 q6).step q7<|λk O _=>O)⟩ sm;intro g0 h;refine z1n 3 h U U λa h=>z1n 4 h U U λa h=>z1n 5 h U U λa h=>z1n 6 h U U λa h=>z1n 7 h U U λa h=>z1n 8 h U U λa h=>z1n 9 h U U λa h=>z0d 10 U<|z2u h U λa h=>?_;refine z0b<|z0p ?_;clear hC a2 Z;refine bk (h.sub (L':=ll7 0 6 7 8 9 10 26)<|csu U)<|tn<|cf U<|rg<|mv U U<|z0k U I z9k<|z1i ([l.getD i pa0]) (ev1 U) U z4v<|λb0 w8 a8 a1 q8 z8=>?_;have ho:=ho.ext q8;have a4:=ho;refine z2k U ho a1.sl z4v<|λb4 w9 ho q9 a5=>?_;have z9:=q9.size;exact asg U<|kpL (ll4 0 8 9 10) (csu U)<|nl<|bn'<|tn<|rg<|z0v U (wi6 oo)<|mv U U<|nl<|lpE ((i+1,_)) (csu U) ⟨sm,by rw[y3t st l i oo,<-a0,y1p,if_neg (by first|exact λe=>c1 e.2|exact λe=>absurd e.1 oo)];exact ho,oo,S++z0u (.slice AT ps.length cT),(λk O=>(l23.1 O).elim (hS k)<|λO=>(a3.blk k O).1),qS.trans (((l12 (z0u<|.slice AT ps.length cT) _).z4 q2 q3 q4 q8).step q9<|λk O _=>O)⟩ sm;exact ex<|te<|te<|xh<|tn<|sr<|mv U U<|asg U<|kpL (ll1 4) (csu U)<|nn<|rt<|r1 results209 U ⟨_,rfl,S,by rw[l82 oo]at a0;rw[<-a0];exact ho,hS,qS⟩
theorem z8z:z1d prog 104 0 0:=λ_ _=>kr
theorem z5v:z1d prog 104 1 1:=λ_ _=>kr
theorem z8p:z1d prog 104 2 2:=λ_ _=>kr
theorem v8m:z1d prog 104 3 3:=λ_ _=>kr
theorem z7u:z1d prog 104 4 4:=λ_ _=>kr
theorem y0w:z2d prog 102:=λ_=>kr
theorem y0a (q:YQ)(w0:World)(hp:Sl z2i w0 (slv q.pe) q.pes):Rets prog 51 #[yvv q] w0 λr w'=>r=.int .i64 (ynE q.p)/\Fr [] w0 w':=by
 have a3:=z2c hp;have a7:=hp.len_le;unfold maxLen at a7;refine we [(0,yvv q)] func51 U ntmps51 U (.cons U .nil) ?_;have a6:=hp;refine sr<|bx U<|λg1 w1 b0 I q1 z1=>(asg U<|nn<|sq<|sq<|rbo (r:=12) (L':=ll1 1) (((q.ct<0)\/(2048<q.ct))) (csu U) ?_ ?_);refine fad U z8p<|z0j U I U na3<|lt' U<|mv U U<|gs 8 U (λg0=>?_)<|λg0=>?_;exact gN U<|gN U<|gN U<|pkt U<|rbe U<|csu U;exact gY U<|fad U z8p<|gY U<|z0j U I U na3<|gY U<|gt' U<|pkf U<|rbe U<|csu U;refine tn<|cd U (λc0=>?_)<|λc0=>?_;exact sr<|asg U<|nn<|rt<|tr<|r1 results51 U ⟨_,rfl,by rw[yn_a c0],q1⟩;refine sk<|tn<|sq<|sr<|fad U z8z<|z0j U I U na4<|nt' U<|nn<|cd U (λc1=>?_)<|λc1=>?_;refine sq<|sq<|rbo (r:=28) (L':=[]) ((((q.pl≠0)\/q.nw=true)\/(0<(q.pe.2.1:Int)))) .nil ?_ ?_;refine fad U z5v<|z0j U I U na3<|ne' U<|mv U U<|gs 19 U (λg1=>?_)<|λg1=>?_;exact gN U<|gN U<|pkt U<|mv U U<|gN U<|gN U<|gN U<|gN U<|pkt U<|rbe U .nil;refine gY U<|fad U v8m<|gY U<|z0j U I U na4<|pkf U<|mv U U<|gs 23 U (λg2=>?_)<|λg2=>?_;exact gN U<|gN U<|gN U<|gN U<|pkt U<|rbe U .nil;exact gY U<|fad U z7u<|gY U<|z0j U I U y0w<|gY U<|lnS U underlying102<|gY U<|gt' U<|pkf U<|rbe U .nil;refine tn<|cd U (λc2=>?_)<|λc2=>?_;refine sr<|asg U<|nn<|rt<|tr<|tr<|r1 results51 U ?_;have Z:q.inn=false:=(by simpa using c1);exact⟨_,rfl,by rw[yn_b Z (by simpa[a3] using c2)],q1⟩;refine sk<|tn<|sr<|asg U<|nn<|rt<|tr<|r1 results51 U ?_;have Z:q.inn=false:=(by simpa using c1);exact⟨_,rfl,by rw[yn_c c0 Z (by simpa[a3] using c2)],q1⟩;refine sk<|tn<|sq<|sq<|v4b (r:=38) (L':=ll1 1) (((¬(x5h q.pl))\/(4096<(q.pe.2.1:Int)))) (csu U) ?_ ?_;refine fad U z5v<|z0j U I U na3<|cl (ev1 U) (mkC func110) (y8p _ _) U ?_;rintro _ w2 ⟨rfl,q2⟩;have z2:=q2.size;refine nt' U<|mv U U<|gs 33 U (λg3=>?_)<|λg3=>?_;exact gN U<|gN U<|gN U<|gN U<|pkt U<|y1y U (csu U) q2;refine gY U<|fad U z7u<|gY U ?_;have I:=I.ext q2;exact z0j U I U y0w<|gY U<|lnS U underlying102<|gY U<|gt' U<|pkf U<|y1y U (csu U) q2;intro w3 q3;have z3:=q3.size;refine tn<|cd U (λc3=>?_)<|λc3=>?_;refine sr<|asg U<|nn<|rt<|tr<|r1 results51 U ?_;have Z:q.inn=true:=(by simpa using c1);exact⟨_,rfl,by rw[yn_d Z (by simpa[a3] using c3)],(q1.n1 q3)⟩;refine sk<|tn<|sq<|sr<|fad U z7u ?_;have I:=I.ext q3;refine z0j U I U y0w<|lnS U underlying102<|mv U U<|nn<|bl<|lpK (ι:=Nat) (ll3 1 40 41) (λi=>[(42,.int .i64 (i:Int))]) (λi w'=>Fr [] w3 w'/\i<=q.pes.length/\∀j,j<i->v8f q.pes j) (λi=>q.pes.length-i) 0 (csu U) ⟨l12 _ _,⟨l17 _,λj h=>absurd h oo⟩⟩ ?_;rintro i w4 ⟨q4,⟨hi,hg⟩⟩;have z4:=q4.size;refine kpC (ll4 1 40 41 42) (csu U)<|sr<|lt' U<|nn<|sq<|cd U (λc4=>?_)<|λc4=>?_;refine sk<|tn<|sq<|bl<|sr<|mv U U ?_;have hp:=a6.ext<|q1.n2 q3 q4;refine z1b (p:=i) (pa0) U hp U z4v oo<|λa8 a4=>(z1q U (a4 _ hp) z9k<|al x1c U<|λg4 w5 b1 a1 q5 z5=>?_);refine asg U<|z0i (vs:=[_,_,_,_]) U a1 x2q (λw6 a1 q6 z6=>?_) (h1:=(by first|(simp[Value.oneCell',S];done)|exact z2i.one<|q.pes.getD i pa0));refine nn<|sq ?_;have hp:=a6.ext<|q1.z4 q3 q4 q5 q6;have I:=(I.ext<|q4.n1 q5).fr q6;intro a h;refine z0h none (λwb w'=>Fr [] wb w') z2r ?_;intro w7 q7;have z7:=q7.size;have hp:=hp.ext q7;have I:=I.ext q7;have a1:=a1.ext q7;have hC:Fr [] w7 w7:=l12 _ _;have a2:=hp;have a0:=I;have O:=a1;refine z0x 0 h U (λ_ hw=>O.ext hw) z9k U λa h=>z0d 1 U<|z0n h (z0a U z0f) (mkC func111) (v1x (q.pes.getD i pa0) _) ?_;rintro _ w8 ⟨rfl,q8⟩ a h;have z8:=q8.size;have hp:=hp.ext q8;have I:=I.ext q8;have a1:=a1.ext q8;have hC:=hC.next q8;refine z0b<|y1e 2 hC h wn U U λa h=>z0e 3 h U λa h=>?_;refine gSp (D:=50) h U ?_ ?_;intro g4 h;refine z1n 4 h U U λa h=>z1n 5 h U U λa h=>z1n 6 h U U λa h=>x4k 7 hC h U U U λa h=>x4k 8 hC h U U U λa h=>x4k 9 hC h U U U λa h=>x4k 10 hC h U U U λa h=>x4k 11 hC h U U U λa h=>x4k 12 hC h U U U λa h=>x4k 13 hC h U U U λa h=>x4k 14 hC h U U U λa h=>z1n 15 h U U λa h=>z0d 16 U<|z4q h U λa h=>?_;refine z0b<|z0p ?_;clear hC a2 a0 O;refine bk (h.sub (L':=ll5 1 40 41 42 63)<|csu U)<|tn<|ct U<|sr<|asg U<|nn<|rt<|rb<|tr<|tr<|rb<|tr<|r1 results51 U ?_;have Z:q.inn=true:=(by simpa using c1);exact⟨_,rfl,by rw[yn_e Z (i:=i) (by show i<q.pes.length;omega) (λh=>by first|exact absurd h.1 t12|exact h.2 oo c5)],(q1.z6 q3 q4 q5 q6 q7 q8)⟩;intro g4 h;refine z0e 4 h U ?_ (hG:=(wy U));intro a h;refine v3m 5 hC h (wy U) U U λa h=>z0e 6 h U ?_ (hG:=(wy U));intro a h;refine gSp (D:=53) h U ?_ ?_;intro g5 h;refine z0c 7 h U z7u U ?_ (hG:=(wy U));intro a h;refine z0m 8 h U (λ_ hw=>a0.ext hw) U y0w U ?_ (hG:=(wy U));intro a h;refine z0e 9 h U ?_ (hG:=(wy U));intro a h;refine z2v 10 h U t13 U ?_ (hG:=(wy U));intro a h;refine z1e (p:=(i-1)) (pa0) 11 h U hp U z4v U ?_ (hG:=(wy U));intro a9 a5 a h;refine z2e 12 h (wy U) U (λ_ hw=>a5 _<|a2.ext hw) z9k U λa h=>z0x 13 h U (λ_ hw=>O.ext hw) z9k U ?_ (hG:=(wy U));intro a h;refine z0d 14 U<|z4p h U U U U<|z0n h (z0a U<|z0a U z0f) (mkC func112) (x5o (q.pes.getD (i-1) pa0) (q.pes.getD i pa0) _) ?_;rintro _ w9 ⟨rfl,q9⟩ a h;have z9:=q9.size;have hp:=hp.ext q9;have I:=I.ext q9;have a1:=a1.ext q9;have hC:=hC.next q9;refine z0b<|z0d 15 U<|tW h<|kY U<|pkt U ?_;intro a h;refine z0b<|z0d 16 U<|z2u h U λa h=>?_;refine z0b<|z0p ?_;clear hC a2 a0 O;refine bk (h.sub (L':=ll5 1 40 41 42 63)<|csu U)<|tn<|cd U (λc5=>?_)<|λc5=>?_;refine sr<|asg U<|nn<|rt<|rb<|tr<|tr<|rb<|tr<|r1 results51 U ?_;have Z:q.inn=true:=(by simpa using c1);exact⟨_,rfl,by rw[yn_e Z (i:=i) (by show i<q.pes.length;omega) (λh=>by first|exact absurd h.1 t12|exact h.2 oo c5)],((q1.z6 q3 q4 q5 q6 q7 q8).n1 q9)⟩;refine sk<|bn'<|tn<|rg<|z0v U (wi6 oo)<|mv U U<|nl ?_;exact lpE (i+1) (csu U) ⟨(q4.z5 q5 q6 q7 q8 q9),⟨oo,λj hj=>by
  by_cases e:j<i;exact hg j e;obtain rfl:j=i:=by omega
  exact⟨t12,λh0=>by first|exact c5|exact absurd h0 oo⟩⟩⟩ oo
 clear h;intro g5 h;refine z1n 7 h U U λa h=>z1n 8 h U U λa h=>z1n 9 h U U λa h=>z1n 10 h U U λa h=>z1n 11 h U U λa h=>z1n 12 h U U λa h=>z1n 13 h U U λa h=>z1n 14 h U U λa h=>z0d 15 U<|tW h<|kY U<|pkf U ?_;intro a h;refine z0b<|z0d 16 U<|z2u h U λa h=>?_;refine z0b<|z0p ?_;clear hC a2 a0 O;refine bk (h.sub (L':=ll5 1 40 41 42 63)<|csu U)<|tn<|cf U<|sk<|bn'<|tn<|rg<|z0v U (wi6 oo)<|mv U U<|nl ?_;exact lpE (i+1) (csu U) ⟨(q4.z4 q5 q6 q7 q8),⟨oo,λj hj=>by
  by_cases e:j<i;exact hg j e;obtain rfl:j=i:=by omega
  exact⟨t12,λh0=>by first|exact c5|exact absurd h0 oo⟩⟩⟩ oo
 obtain rfl:i=q.pes.length:=by omega
 refine ex<|te<|te<|xh<|tn<|sr<|asg U<|nn<|rt<|r1 results51 U ?_;have Z:q.inn=true:=(by simpa using c1);exact⟨_,rfl,by rw[yn_f c0 Z (by simpa[a3] using c3) hg],(q1.n2 q3 q4)⟩
theorem z3k:z3y prog 104 5:=⟨λ_=>kr,λ_=>kr⟩
theorem y0e:BuildAt prog 104 [(0,1),(1,1),(2,1),(3,1),(4,1)] [(.bool false),(.int .i64 0),(.int .i64 0),(.bool false),(.slice none 0 0)]:=BuildAt.struct underlying104 (λ_=>kr)<|λ_=>kr
theorem k2m:CallOf prog 51:=mkC func51
theorem sz3:z1r prog 3 1:=λ_=>kr
theorem j3n:z1r prog 102 1:=λ_=>kr
theorem z3m:z1r prog 104 5:=λ_=>kr
theorem z6g (w:World):(zeroValue 104).run prog w=.ok (.agg #[(.bool false),(.int .i64 0),(.int .i64 0),(.bool false),(.slice none 0 0)]) w:=kr
theorem x8u (q:YQ)(pl:Int)(v:Value)(l:List Pa)(w0:World)(hp:Sl z2i w0 (slv q.pe) q.pes)(hs:Sl z2i w0 v l)(hv:∀k∈z0u v,k<w0.heap.size)(hl:l.length<=50000):Rets prog 164 #[yvv q,.int .i64 pl,v] w0 λr w'=>∃q':YQ,r=.tuple #[yvv q',.int .i64 (goE q.p pl l)]/\(goE q.p pl l=0->q'.p=goS q.p pl l/\Lw.Own z2i 107 w0.heap.size w' (slv q'.pe) q'.pes)/\Fr [] w0 w':=by
 have f7:=z2c hp;have d1:=hp.len_le;unfold maxLen at d1;obtain⟨A,c,rfl,f3,hM,hA⟩:=id hs;clear hA;unfold maxLen at hM;refine we [(0,yvv q),(1,.int .i64 pl),(2,.slice A l.length c)] func164 U ntmps164 U (.c3 U U U) ?_;have b4:=hp;have b5:=hs;refine sr<|bx U<|λg3 w1 f4 I q1 z1=>(al z6g U<|λg6 w2 f5 D q2 z2=>(asg U<|nn<|sq<|sr ?_));have I:=I.ext q2;refine z0k U I z3k ?_;have hp:=b4.ext<|q1.n1 q2;refine cl (ev1 U) k2m (y0a q _ hp) U ?_;rintro _ w3 ⟨rfl,q3⟩;have z3:=q3.size;refine asg U<|nn<|sr<|mv U U<|ne' U<|nn<|cd U (λc0=>?_)<|λc0=>?_;refine sr<|z1u (cs:=[_,_,_,_,_]) z0f y0e z0r U ?_;refine mv U U ?_;have D:=D.ext q3;refine z0i (vs:=[_,_,_,_,_]) U D z3m (λw4 D q4 z4=>?_) (h1:=(by first|(simp[Value.oneCell',S];done)|exact z2i.one<|l.getD i pa0));refine asg U<|kpL (ll2 6 7) (csu U)<|nn<|rt<|tr<|rCT results164 U D z3k U ?_;have he:goE q.p pl l=ynE q.p:=by unfold goE;rw[if_pos c0]
 exact⟨_,rfl,yq0,by rw[he];rfl,(λh=>absurd h (by rw[he];exact c0)),(q1.z3 q2 q3 q4)⟩;have d4:=v7b<|l16.1 c0;refine sk<|tn<|sq<|sr<|mv U U<|cl (ev1 U) (mkC func110) (y8p _ _) U ?_;rintro _ w5 ⟨rfl,q5⟩;have z5:=q5.size;refine nt' U<|nn<|cd U (λc1=>?_)<|λc1=>?_;refine sr<|z1u (cs:=[_,_,_,_,_]) z0f y0e z0r U ?_;have D:=D.ext<|q3.n1 q5;refine z0i (vs:=[_,_,_,_,_]) U D z3m (λw6 D q6 z6=>?_) (h1:=(by first|(simp[Value.oneCell',S];done)|exact z2i.one<|l.getD i pa0));refine asg U<|nn<|rt<|tr<|rCT results164 U D z3k U ?_;have he:goE q.p pl l=1:=by unfold goE;rw[if_neg c0,if_pos (by simpa using c1)]
 exact⟨_,rfl,yq0,by rw[he];rfl,(λh=>absurd h (by rw[he];decide)),(q1.z4 q2 q3 q5 q6)⟩;refine sk<|tn<|sq<|sr<|mv U U<|lnS U underlying102<|mv U U<|nn<|bl<|lpK (ι:=Nat) (ll6 1 2 3 6 22 23) (λi=>[(24,.int .i64 (i:Int))]) (λi w'=>Fr [] w5 w'/\i<=l.length/\∀j,j<i->y2c (l.getD j pa0)) (λi=>l.length-i) 0 (csu U) ⟨l12 _ _,⟨l17 _,λj h=>absurd h oo⟩⟩ ?_;rintro i w7 ⟨q7,⟨hi,hg⟩⟩;have z7:=q7.size;refine kpC (ll7 1 2 3 6 22 23 24) (csu U)<|sr<|lt' U<|nn<|sq<|cd U (λc2=>?_)<|λc2=>?_;refine sk<|tn<|sq<|bl<|sr ?_;have hs:=b5.ext<|q1.n4 q2 q3 q5 q7;refine z1b (pa0) U hs U z4v z1j<|λe4 b3=>?_;refine z1q U (b3 _ hs) z9k<|al x1c U<|λf2 w8 e6 a5 q8 z8=>?_;refine z0i (vs:=[_,_,_,_]) U a5 x2q (λw9 a5 q9 z9=>?_) (h1:=(by first|(simp[Value.oneCell',S];done)|exact z2i.one<|l.getD i pa0));refine nn<|sr<|z0k U a5 z9k<|cl (ev1 U) (mkC func111) (v1x (l.getD i pa0) _) U ?_;rintro _ f9 ⟨rfl,a8⟩;have h0:=a8.size;refine nt' U<|nn<|cd U (λc3=>?_)<|λc3=>?_;refine sr<|z1u (cs:=[_,_,_,_,_]) z0f y0e z0r U ?_;have D:=((D.ext<|q3.n3 q5 q7 q8).fr q9).ext a8;refine z0i (vs:=[_,_,_,_,_]) U D z3m (λg0 D d5 h2=>?_) (h1:=(by first|(simp[Value.oneCell',S];done)|exact z2i.one<|l.getD i pa0));refine asg U<|kpL (ll2 6 7) (csu U)<|nn<|rt<|rb<|tr<|tr<|rb<|tr<|rCT results164 U D z3k U ?_;have he:goE q.p pl l=1:=by unfold goE;rw[if_neg c0,if_neg (by simpa using c1),if_pos (λa4=>(by simpa using c3:¬y2c (l.getD i pa0))<|a4 _<|z0z oo)]
 exact⟨_,rfl,yq0,by rw[he];rfl,(λh=>absurd h (by rw[he];decide)),(((q1.z6 q2 q3 q5 q7 q8 q9).n1 a8).z1 d5)⟩;refine sk<|bn'<|tn<|rg<|z0v U (wi6 oo)<|mv U U<|nl ?_;exact lpE (i+1) (csu U) ⟨(q7.z3 q8 q9 a8),⟨oo,λj hj=>by
  by_cases e:j<i;exact hg j e;obtain rfl:j=i:=by omega
  exact l16.1 (by simpa using c3)⟩⟩ oo
 obtain rfl:i=l.length:=by omega
 have a4:u7z l:=λp d3=>by
  obtain⟨j,hj,rfl⟩:=l29 d3;have:=hg j hj;rwa [List.getD,l10 hj]at this
 refine ex<|te<|te<|xh<|tn<|sq<|sr<|fad U z8z ?_;have I:=I.ext<|q3.n2 q5 q7;refine z0j U I U na4<|nt' U<|kpL (ll5 1 2 3 6 35) (csu U)<|nn<|cd U (λc4=>?_)<|λc4=>?_;refine sr<|z1u (cs:=[_,_,_,_,_]) z0f y0e z0r U ?_;have D:=D.ext<|q3.n2 q5 q7;refine z0i (vs:=[_,_,_,_,_]) U D z3m (λg1 D d6 h3=>?_) (h1:=(by first|(simp[Value.oneCell',S];done)|exact z2i.one<|l.getD i pa0));refine asg U<|nn<|rt<|tr<|rCT results164 U D z3k U ?_;have he:goE q.p pl l=12:=by unfold goE;rw[if_neg c0,if_neg (by simpa using c1),if_neg (λe=>e a4),if_pos (by simpa using c4)]
 exact⟨_,rfl,yq0,by rw[he];rfl,(λh=>absurd h (by rw[he];decide)),(q1.z5 q2 q3 q5 q7 d6)⟩;have c9:q.inn=true:=(by simpa using c4);have b6:=d4.2;rw[if_pos c9]at b6;have f6:q.pes.length<=4096:=b6.2.1;refine sk<|tn<|sr<|fad U z7u<|z0j U I U y0w<|lnS U underlying102<|mv U U<|lnS U underlying102<|z0v U (wi6 oo)<|z1f (m:=0) (c:=(q.pe.2.1+l.length)) (pa0) U z4v x1c U<|λb2 g4 e7 ho a2 h4=>(asg U<|kpL (ll5 1 2 3 6 11) (csu U)<|nn<|sr<|mv U U<|fad U z7u ?_);have I:=I.ext a2;refine z0j U I U y0w ?_;have D:=D.ext<|q3.n3 q5 q7 a2;have hp:=b4.ext<|q1.n5 q2 q3 q5 q7 a2;have O:=ho;refine z2k U ho hp z4v (λb8 d9 ho a3 d0=>?_) (hM:=(by unfold maxLen;simp only[l22];omega)) (hb:=(by simp only[l22];omega));have h5:=a3.size;have I:=I.fr a3 (λZ=>by have:=(O.blk _ Z).1;omega);have D:=D.fr a3 (λZ=>by have:=(O.blk _ Z).1;omega);replace ho:Lw.Own z2i 107 b2 d9 b8 q.pes:=ho;refine mv U U ?_;have hs:=b5.ext<|(q1.n5 q2 q3 q5 q7 a2).step a3<|λk Z a7=>absurd (O.blk k Z).1 oo;refine cl (ev2 U) (mkC func209) (v5j b2 b8 _ q.pes l _ ho hs (λk Z=>by have:=hv k Z;omega) oo oo) U ?_;rintro f0 g5 ⟨e9,ho,a1,a6⟩;have I:=I.fr a6 (λZ=>by have:=a1 _ Z;omega);have D:=D.fr a6 (λZ=>by have:=a1 _ Z;omega);have h6:=a6.size;have f8:=z7z l q.pes;obtain⟨e8,f1,rfl,e5⟩:=ho.sl.form;refine asg U<|kpL (ll4 1 3 6 11) (csu U)<|nn<|sq<|sr<|mv U U<|lnS U underlying102<|gt' U<|nn<|cd U (λc5=>?_)<|λc5=>?_;refine sr<|z1u (cs:=[_,_,_,_,_]) z0f y0e z0r U ?_;refine z0i (vs:=[_,_,_,_,_]) U D z3m (λg7 D d7 h7=>?_) (h1:=(by first|(simp[Value.oneCell',S];done)|exact z2i.one<|l.getD i pa0));refine asg U<|nn<|rt<|tr<|rCT results164 U D z3k U ?_;have he:goE q.p pl l=3:=by unfold goE;rw[if_neg c0,if_neg (by simpa using c1),if_neg (λe=>e a4),if_neg (by simpa using c4),if_pos (by show 4096<(z5f q.pes l).length;omega)]
 exact⟨_,rfl,yq0,by rw[he];rfl,(λh=>absurd h (by rw[he];decide)),((((q1.n5 q2 q3 q5 q7 a2).step a3<|λk Z a7=>absurd (O.blk k Z).1 oo).step a6<|λk Z a7=>absurd (a1 k Z) oo).sp d7)⟩;refine sk<|tn<|sr<|mv U U<|fad U z5v<|z3j U I U sz3<|λe0 I b0 h8=>?_;replace I:Blk e0 g3 _ [_,_,_,_,_]:=I;refine nn<|sr<|mv U U ?_;have ho:=ho.fr b0 (by first|exact z9l ho oo|simp[z0u]<;>omega);refine cl (ev1 U) (mkC func210) (y0s _ _ _ ho.sl oo) U ?_;rintro _ g8 ⟨b9,rfl,a0,a9⟩;have h9:=a9.size;refine fad U z7u ?_;have I:=I.ext a9;refine z3j U I U j3n<|λe3 I b1 i0=>?_;replace I:Blk e3 g3 _ [_,_,_,_,_]:=I;refine nn<|sr<|z0k U I z3k ?_;have D:=((D.fr b0).ext a9).fr b1;refine z0i (vs:=[_,_,_,_,_]) U D z3m (λg9 D b7 i1=>?_) (h1:=(by first|(simp[Value.oneCell',S];done)|exact z2i.one<|l.getD i pa0));refine asg U<|nn<|rt<|rCT results164 U D z3k U ?_;have a0:=(a0.fr b1 (by first|exact z9l a0 oo|simp[z0u]<;>omega)).fr b7 (by first|exact z9l a0 oo|simp[z0u]<;>omega);have he:goE q.p pl l=0:=by unfold goE;rw[if_neg c0,if_neg (by simpa using c1),if_neg (λe=>e a4),if_neg (by simpa using c4),if_neg (by show ¬4096<(z5f q.pes l).length;omega)]
 exact⟨_,rfl,⟨q.inn,pl,q.ct,q.nw,(b9,(z5f q.pes l).length,(z5f q.pes l).length),z5f q.pes l⟩,by rw[he],(λ_=>⟨rfl,a0.low oo⟩),(((((((q1.n5 q2 q3 q5 q7 a2).step a3<|λk Z a7=>absurd (O.blk k Z).1 oo).step a6<|λk Z a7=>absurd (a1 k Z) oo).sp b0).next a9).sp b1).sp b7)⟩
theorem x6l:z3y prog 249 3:=⟨λ_=>kr,λ_=>kr⟩
theorem u1c:BuildAt prog 249 [(0,1),(1,1),(2,1)] [(.int .i64 0),(.bool false),(.slice none 0 0)]:=BuildAt.struct underlying249 (λ_=>kr)<|λ_=>kr
theorem x3k:z1r prog 249 3:=λ_=>kr
theorem x5b (w:World):(zeroValue 249).run prog w=.ok (.agg #[(.int .i64 0),(.bool false),(.slice none 0 0)]) w:=kr
theorem y2b (q:YQ)(w0:World)(hp:Sl z2i w0 (slv q.pe) q.pes)(hv:∀k∈z0u (slv q.pe),k<w0.heap.size):Rets prog 167 #[yvv q] w0 λr w'=>∃(q':YQ) (n:Int) (nw:Bool) (s:SV) (ps:List Pa),r=.tuple #[yvv q',.agg #[.int .i64 n,.bool nw,.slice s.1 s.2.1 s.2.2],.int .i64 (mkE q.p)]/\(mkE q.p=0->q'=⟨true,q.pl,q.ct+1,false,sv0,[]⟩/\n=q.ct/\nw=q.nw/\ps=q.pes/\Lw.Own z2i 107 w0.heap.size w' (slv s) ps)/\Fr [] w0 w':=by
 have g4:=z2c hp;have e8:=hp.len_le;unfold maxLen at e8;refine we [(0,yvv q)] func167 U ntmps167 U (.cons U .nil) ?_;have d9:=hp;refine sr<|bx U<|λg1 w1 f7 Z q1 z1=>(al z6g U<|λg2 w2 f8 D q2 z2=>(al x5b U<|λg3 w3 f9 I q3 z3=>(asg U<|nn<|sq<|sr ?_)));have Z:=Z.ext<|q2.n1 q3;refine z0k U Z z3k ?_;have hp:=d9.ext<|q1.n2 q2 q3;refine cl (ev1 U) k2m (y0a q _ hp) U ?_;rintro _ w4 ⟨rfl,q4⟩;have z4:=q4.size;refine asg U<|nn<|sr<|mv U U<|ne' U<|nn<|cd U (λc0=>?_)<|λc0=>?_;refine sr<|z1u (cs:=[_,_,_,_,_]) z0f y0e z0r U ?_;refine z1u (cs:=[_,_,_]) z0f u1c z0r U ?_;refine mv U U ?_;have D:=D.ext<|q3.n1 q4;refine z0i (vs:=[_,_,_,_,_]) U D z3m<|λw5 D q5 z5=>?_;have I:=(I.ext q4).fr q5;refine z0i (vs:=[_,_,_]) U I x3k<|λw6 I q6 z6=>(asg U<|kpL (ll3 2 3 4) (csu U)<|nn<|rt<|tr ?_);have D:=D.fr q6;refine k2v results167 U D z3k U I x6l U ?_;have he:mkE q.p=ynE q.p:=by unfold mkE;rw[if_pos c0]
 exact⟨_,rfl,yq0,0,false,sv0,[],by rw[he];rfl,(λh=>absurd h (by rw[he];exact c0)),(q1.z5 q2 q3 q4 q5 q6)⟩;have e0:=v7b<|l16.1 c0;refine sk<|tn<|sq<|sr<|fad U z8z ?_;have Z:=Z.ext q4;refine z0j U Z U na4<|nt' U<|nn<|cd U (λc1=>?_)<|λc1=>?_;refine sr<|z1u (cs:=[_,_,_,_,_]) z0f y0e z0r U ?_;refine z1u (cs:=[_,_,_]) z0f u1c z0r U ?_;have D:=D.ext<|q3.n1 q4;refine z0i (vs:=[_,_,_,_,_]) U D z3m<|λw7 D q7 z7=>?_;have I:=(I.ext q4).fr q7;refine z0i (vs:=[_,_,_]) U I x3k<|λw8 I q8 z8=>(asg U<|nn<|rt<|tr ?_);have D:=D.fr q8;refine k2v results167 U D z3k U I x6l U ?_;have he:mkE q.p=12:=by unfold mkE;rw[if_neg c0,if_pos (by simpa using c1)]
 exact⟨_,rfl,yq0,0,false,sv0,[],by rw[he];rfl,(λh=>absurd h (by rw[he];decide)),(q1.z5 q2 q3 q4 q7 q8)⟩;have e7:q.inn=true:=(by simpa using c1);have e3:=e0.2;rw[if_pos e7]at e3;have g0:q.pes.length<=4096:=e3.2.1;have f6:0<=q.ct/\q.ct<=2048:=e0.1;refine sk<|tn<|sq<|sr<|fad U z8p<|z0j U Z U na3<|eq' U<|nn<|cd U (λc2=>?_)<|λc2=>?_;refine sr<|z1u (cs:=[_,_,_,_,_]) z0f y0e z0r U ?_;refine z1u (cs:=[_,_,_]) z0f u1c z0r U ?_;have D:=D.ext<|q3.n1 q4;refine z0i (vs:=[_,_,_,_,_]) U D z3m<|λw9 D q9 z9=>?_;have I:=(I.ext q4).fr q9;refine z0i (vs:=[_,_,_]) U I x3k<|λg5 I e4 g9=>(asg U<|nn<|rt<|tr ?_);have D:=D.fr e4;refine k2v results167 U D z3k U I x6l U ?_;have he:mkE q.p=3:=by unfold mkE;rw[if_neg c0,if_neg (by simpa using c1),if_pos c2]
 exact⟨_,rfl,yq0,0,false,sv0,[],by rw[he];rfl,(λh=>absurd h (by rw[he];decide)),(q1.z5 q2 q3 q4 q9 e4)⟩;refine sk<|tn<|sq ?_;have hp:=d9.ext<|q1.n3 q2 q3 q4;intro a h;refine z0h none (λwb w'=>Fr [] wb w') z2r ?_;intro d7 b5;have h0:=b5.size;have hp:=hp.ext b5;have Z:=Z.ext b5;have D:=D.ext<|q3.n2 q4 b5;have I:=I.ext<|q4.n1 b5;have hC:Fr [] d7 d7:=l12 _ _;have d5:=hp;have a0:=Z;have a4:=D;have a5:=I;refine z0c 0 h U z8p U λa h=>z0m 1 h U (λ_ hw=>a0.ext hw) U na3 U λa h=>z0c 2 h U v8m U λa h=>z0m 3 h U (λ_ hw=>a0.ext hw) U na4 U λa h=>z0c 4 h U z7u U λa h=>z0m 5 h U (λ_ hw=>a0.ext hw) U y0w U λa h=>z1w 6 8 kr U ?_ ?_;refine z0n h (z0a U z0f) (mkC func210) (y0s _ _ _ hp oo) ?_;rintro _ e9 ⟨d6,rfl,O,b6⟩ a h;have h1:=b6.size;have Z:=Z.ext b6;have D:=D.ext b6;have I:=I.ext b6;have hC:=hC.next b6;have b4:=λk hk=>(O.blk k hk).2;refine z0b<|z3f (cs:=[_,_,_]) 7 h (z0a U<|z0a U<|z0a U z0f) u1c (z0g U<|z0g U<|z0g U z0r) U U λa h=>z0d 8 U ?_;refine z0w h x5b U λg6 a1 b0 hz a h=>?_;obtain⟨a8,hg⟩:∃g,g=e9.heap.size:=⟨_,rfl⟩;rw[<-hg]at a1 h hz;have a7:g1<a8:=by have:=Z.lt;omega
 have a7:g2<a8:=by have:=D.lt;omega
 have a7:g3<a8:=by have:=I.lt;omega
 have h2:=b0.size;have hp:=hp.ext<|b6.n1 b0;have Z:=Z.ext b0;have D:=D.ext b0;have I:=I.ext b0;have O:=O.ext b0;have hC:=hC.next b0;refine z0b<|z0d 9 U<|z0t h U a1 U x3k λf0 a3 b1 hz a h=>?_;have h3:=b1.size;have hp:=hp.fr b1 (by intro k hk a2;simp at hk;subst hk;have:=hv _ a2;omega);have Z:=Z.fr b1;have D:=D.fr b1;have I:=I.fr b1;have O:=O.fr b1 (by intro k hk a2;simp at hk;subst hk;have d4:=b4 _ a2;have:=O.blk _ a2;omega);have hC:=hC.sp b1;have a1:Blk f0 a8 _ [_,_,_]:=a3;clear a3;refine z0b<|z0p ?_;clear hC d5 a0 a4 a5;refine bk (h.sub (L':=ll4 1 2 3 6)<|csu U)<|tn<|sq ?_;intro a h;refine z0h none (λwb w'=>Fr [g2,g3] wb w') z2r ?_;intro e5 b7;have h4:=b7.size;have Z:=Z.ext b7;have D:=D.ext b7;have I:=I.ext b7;have O:=O.ext b7;have a1:=a1.ext b7;have hC:Fr [g2,g3] e5 e5:=l12 _ _;have a0:=Z;have a4:=D;have a5:=I;have a9:=O;have a6:=a1;refine z0c 0 h U z5v U λa h=>z0m 1 h U (λ_ hw=>a0.fr hw so) U na3 U λa h=>z0c 2 h U z8p U λa h=>z0m 3 h U (λ_ hw=>a0.fr hw so) U na3 U λa h=>z6h 4 h U t13 U λa h=>z3f (cs:=[_,_,_,_,_]) 5 h (z0a U<|z0a U<|z0a U z0f) y0e (z0g U<|z0g U<|z0g U z0r) U U λa h=>z0x 6 h U (λ_ hw=>a6.fr hw so) x6l U λa h=>z0d 7 U ?_;refine z0t h U D U z3m λf1 a3 b8 hz a h=>?_;have h5:=b8.size;have Z:=Z.fr b8;have I:=I.fr b8;have O:=O.fr b8 (by intro k hk a2;simp at hk;subst hk;have d4:=b4 _ a2;have:=O.blk _ a2;omega);have a1:=a1.fr b8;have hC:=hC.sp b8;have D:Blk f1 g2 _ [_,_,_,_,_]:=a3;clear a3;refine z0b<|z0d 8 U<|z0t h U I U x3k λf2 a3 b9 hz a h=>?_;have h6:=b9.size;have Z:=Z.fr b9;have D:=D.fr b9;have O:=O.fr b9 (by intro k hk a2;simp at hk;subst hk;have d4:=b4 _ a2;have:=O.blk _ a2;omega);have a1:=a1.fr b9;have hC:=hC.sp b9;have I:Blk f2 g3 _ [_,_,_]:=a3;clear a3;refine z0b<|z0d 9 U<|z0q h U λa h=>?_;refine z0b<|z0p ?_;clear hC a0 a4 a5 a9 a6;refine bk (h.sub (L':=ll3 2 3 4)<|csu U)<|tn<|rt<|k2v results167 U D z3k U I x6l U ?_;have he:mkE q.p=0:=by unfold mkE;rw[if_neg c0,if_neg (by simpa using c1),if_neg c2]
 exact⟨_,rfl,⟨true,q.pl,q.ct+1,false,sv0,[]⟩,q.ct,q.nw,(d6,q.pes.length,q.pes.length),q.pes,by rw[he];rfl,(λ_=>⟨rfl,rfl,rfl,rfl,O.low oo⟩),((((q1.n6 q2 q3 q4 b5 b6 b0).z1 b1).n1 b7).z2 b8 b9)⟩;refine z0w h x5b U λg7 a1 c9 hz a h=>?_;obtain⟨a8,hg⟩:∃g,g=d7.heap.size:=⟨_,rfl⟩;rw[<-hg]at a1 h hz;have a7:g1<a8:=by have:=Z.lt;omega
 have a7:g2<a8:=by have:=D.lt;omega
 have a7:g3<a8:=by have:=I.lt;omega
 have h7:=c9.size;have hp:=hp.ext c9;have hC:=hC.next c9;refine z0b<|z0d 6 U<|z0n h (z0a U z0f) (mkC func210) (y0s _ _ _ hp oo) ?_;rintro _ g8 ⟨d6,rfl,O,b2⟩ a h;have h8:=b2.size;have hp:=hp.ext b2;have Z:=Z.ext<|c9.n1 b2;have D:=D.ext<|c9.n1 b2;have I:=I.ext<|c9.n1 b2;have a1:=a1.ext b2;have hC:=hC.next b2;have b4:=λk hk=>(O.blk k hk).2;refine z0b<|z3f (cs:=[_,_,_]) 7 h (z0a U<|z0a U<|z0a U z0f) u1c (z0g U<|z0g U<|z0g U z0r) U U λa h=>z0d 9 U ?_;refine z0t h U a1 U x3k λf3 a3 b3 hz a h=>?_;have h9:=b3.size;have hp:=hp.fr b3 (by intro k hk a2;simp at hk;subst hk;have:=hv _ a2;omega);have Z:=Z.fr b3;have D:=D.fr b3;have I:=I.fr b3;have O:=O.fr b3 (by intro k hk a2;simp at hk;subst hk;have d4:=b4 _ a2;have:=O.blk _ a2;omega);have hC:=hC.sp b3;have a1:Blk f3 a8 _ [_,_,_]:=a3;clear a3;refine z0b<|z0p ?_;clear hC d5 a0 a4 a5;refine bk (h.sub (L':=ll4 1 2 3 6)<|csu U)<|tn<|sq ?_;intro a h;refine z0h none (λwb w'=>Fr [g2,g3] wb w') z2r ?_;intro e6 d0;have i0:=d0.size;have Z:=Z.ext d0;have D:=D.ext d0;have I:=I.ext d0;have a1:=a1.ext d0;have O:=O.ext d0;have hC:Fr [g2,g3] e6 e6:=l12 _ _;have a0:=Z;have a4:=D;have a5:=I;have a6:=a1;have a9:=O;refine z0c 0 h U z5v U λa h=>z0m 1 h U (λ_ hw=>a0.fr hw so) U na3 U λa h=>z0c 2 h U z8p U λa h=>z0m 3 h U (λ_ hw=>a0.fr hw so) U na3 U λa h=>z6h 4 h U t13 U λa h=>z3f (cs:=[_,_,_,_,_]) 5 h (z0a U<|z0a U<|z0a U z0f) y0e (z0g U<|z0g U<|z0g U z0r) U U λa h=>z0x 6 h U (λ_ hw=>a6.fr hw so) x6l U λa h=>z0d 7 U ?_;refine z0t h U D U z3m λf4 a3 d1 hz a h=>?_;have i1:=d1.size;have Z:=Z.fr d1;have I:=I.fr d1;have a1:=a1.fr d1;have O:=O.fr d1 (by intro k hk a2;simp at hk;subst hk;have d4:=b4 _ a2;have:=O.blk _ a2;omega);have hC:=hC.sp d1;have D:Blk f4 g2 _ [_,_,_,_,_]:=a3;clear a3;refine z0b<|z0d 8 U<|z0t h U I U x3k λf5 a3 d3 hz a h=>?_;have i2:=d3.size;have Z:=Z.fr d3;have D:=D.fr d3;have a1:=a1.fr d3;have O:=O.fr d3 (by intro k hk a2;simp at hk;subst hk;have d4:=b4 _ a2;have:=O.blk _ a2;omega);have hC:=hC.sp d3;have I:Blk f5 g3 _ [_,_,_]:=a3;clear a3;refine z0b<|z0d 9 U<|z0q h U λa h=>?_;refine z0b<|z0p ?_;clear hC a0 a4 a5 a6 a9;refine bk (h.sub (L':=ll3 2 3 4)<|csu U)<|tn<|rt<|k2v results167 U D z3k U I x6l U ?_;have he:mkE q.p=0:=by unfold mkE;rw[if_neg c0,if_neg (by simpa using c1),if_neg c2]
 exact⟨_,rfl,⟨true,q.pl,q.ct+1,false,sv0,[]⟩,q.ct,q.nw,(d6,q.pes.length,q.pes.length),q.pes,by rw[he];rfl,(λ_=>⟨rfl,rfl,rfl,rfl,O.low oo⟩),((((q1.n6 q2 q3 q4 b5 c9 b2).z1 b3).n1 d0).z2 d1 d3)⟩
theorem x2m (q:YQ)(d:Int)(w0:World)(hp:Sl z2i w0 (slv q.pe) q.pes):Rets prog 127 #[yvv q,.int .u8 d] w0 λr w'=>∃q':YQ,r=.tuple #[yvv q',.int .i64 (enE q.p d)]/\(enE q.p d=0->q'=⟨true,if d=1 then 179 else -13,q.ct,true,sv0,[]⟩)/\Fr [] w0 w':=by
 have a4:=z2c hp;have a1:=hp.len_le;unfold maxLen at a1;refine we [(0,yvv q),(1,.int .u8 d)] func127 U ntmps127 U (.c2 U U) ?_;have a0:=hp;refine sr<|bx U<|λg2 w1 a2 I q1 z1=>(al z6g U<|λg4 w2 a3 D q2 z2=>(asg U<|nn<|sq<|sr ?_));have I:=I.ext q2;refine z0k U I z3k ?_;have hp:=a0.ext<|q1.n1 q2;refine cl (ev1 U) k2m (y0a q _ hp) U ?_;rintro _ w3 ⟨rfl,Z⟩;refine asg U<|nn<|sr<|mv U U<|ne' U<|nn<|cd U (λc0=>?_)<|λc0=>?_;refine sr<|z1u (cs:=[_,_,_,_,_]) z0f y0e z0r U ?_;refine mv U U ?_;have D:=D.ext Z;refine z0i (vs:=[_,_,_,_,_]) U D z3m<|λw4 D q4 z4=>(asg U<|kpL (ll2 4 5) (csu U)<|nn<|rt<|tr<|rCT results127 U D z3k U ?_);have O:enE q.p d=ynE q.p:=by unfold enE;rw[if_pos c0]
 exact⟨_,rfl,yq0,by rw[O];rfl,(λh=>absurd h (by rw[O];exact c0)),(q1.z3 q2 Z q4)⟩;refine sk<|tn<|sq<|sr<|mv U U<|cl (ev1 U) (mkC func155) (y5g _ _) U ?_;rintro _ w5 ⟨rfl,q5⟩;refine nt' U<|nn<|cd U (λc1=>?_)<|λc1=>?_;refine sr<|z1u (cs:=[_,_,_,_,_]) z0f y0e z0r U ?_;have D:=D.ext<|Z.n1 q5;refine z0i (vs:=[_,_,_,_,_]) U D z3m<|λw6 D q6 z6=>(asg U<|nn<|rt<|tr<|rCT results127 U D z3k U ?_);have O:enE q.p d=1:=by unfold enE;rw[if_neg c0,if_pos (by simpa using c1)]
 exact⟨_,rfl,yq0,by rw[O];rfl,(λh=>absurd h (by rw[O];decide)),(q1.z4 q2 Z q5 q6)⟩;refine sk<|tn<|sq<|sr<|fad U z8z ?_;have I:=I.ext<|Z.n1 q5;refine z0j U I U na4<|nn<|cd U (λc2=>?_)<|λc2=>?_;refine sr<|z1u (cs:=[_,_,_,_,_]) z0f y0e z0r U ?_;have D:=D.ext<|Z.n1 q5;refine z0i (vs:=[_,_,_,_,_]) U D z3m<|λw7 D q7 z7=>(asg U<|nn<|rt<|tr<|rCT results127 U D z3k U ?_);have O:enE q.p d=12:=by unfold enE;rw[if_neg c0,if_neg (by simpa using c1),if_pos (by simpa using c2)]
 exact⟨_,rfl,yq0,by rw[O];rfl,(λh=>absurd h (by rw[O];decide)),(q1.z4 q2 Z q5 q7)⟩;refine sk<|tn<|sr<|asg U<|nn<|jn (ι:=Unit) (ll2 2 4) (λ_j=>[(7,.int .i64 (if d=1 then 179 else -13))]) (λ_j w'=>Fr [] w5 w') (csu U) ?_ ?_;refine sr<|mv U U<|eq' U<|nn<|cd U (λc3=>?_)<|λc3=>?_;refine rg<|asg U<|nl ?_;exact jE (()) (.c3 U U<|congrArg (λq=>some<|Value.int .i64 q) (by first|exact(if_pos c3).symm|exact(if_neg c3).symm))<|l12 _ _;refine sk ?_;exact jE (()) (.c3 U U<|congrArg (λq=>some<|Value.int .i64 q) (by first|exact(if_pos c3).symm|exact(if_neg c3).symm))<|l12 _ _;rintro _j w8 q8;refine kpC (ll3 2 4 7) (csu U)<|sr<|mv U U<|fad U z8p ?_;have I:=I.ext q8;refine z0j U I U na3<|z1u (cs:=[_,_,_,_,_]) (ev4 U) y0e (z0g U<|z0g U<|z0g U<|z0g U z0r) U ?_;have D:=D.ext<|Z.n2 q5 q8;refine z0i (vs:=[_,_,_,_,_]) U D z3m<|λw9 D q9 z9=>(asg U<|kpL (ll2 4 5) (csu U)<|nn<|rt<|rCT results127 U D z3k U ?_);have O:enE q.p d=0:=by unfold enE;rw[if_neg c0,if_neg (by simpa using c1),if_neg (by simpa using c2)]
 exact⟨_,rfl,⟨true,if d=1 then 179 else -13,q.ct,true,sv0,[]⟩,by rw[O];rfl,(λ_=>rfl),(q1.z5 q2 Z q5 q8 q9)⟩
end Go.Proofs.YtlfdhllfmoplgaaGreatDoor
namespace Go.G21
open Go.Lw
def nd (T:Tb)(y:Nat)(n:Int):List LId:=z5m<|lpA T y n.toNat
def InM (ms:List Int)(i:LId):Prop:=i.n<ms.getD (i.y-1).toNat 0
def Has (T:Tb):Prop:=T.length=6/\∀y,y<6->∀n,n<z3e T y->∀i∈z5m (lpA T y n),z5e T i
theorem Has.nm {T:Tb}(h:Has T){y n:Nat}(hy:y<6)(hn:n<z3e T y){i:LId}(hi:i∈z5m (lpA T y n)):∃O Z:Nat,O<6/\Z<z3e T O/\i=⟨(O:Int)+1,(Z:Int)⟩:=by
 obtain⟨h1,h2,h3,h4⟩:=h.2 y hy n hn i hi;have:=h.1;obtain⟨I,D⟩:=i;simp only at h1 h2 h3 h4;refine⟨(I-1).toNat,D.toNat,oo,oo,?_⟩;rw[show (((I-1).toNat:Nat):Int)+1=I by omega,show ((D.toNat:Nat):Int)=D by omega]
theorem y8u {ms:List Int}{y n:Nat}:InM ms ⟨(y:Int)+1,(n:Int)⟩↔(n:Int)<ms.getD y 0:=by
 unfold InM;show (n:Int)<ms.getD ((y:Int)+1-1).toNat 0↔_;rw[show ((y:Int)+1-1).toNat=y by omega]
theorem v0t:∀(l:List Int) (j:Nat) (v:Int),j<l.length->(l.set j v).sum=l.sum-l.getD j 0+v
 | a::l,0,v,_=>by simp;omega
 | a::l,j+1,v,h=>by
  have:=v0t l j v (by simpa using h)
  simp only[List.set_cons_succ,List.sum_cons,l62]at this ⊢;omega
theorem x1h:∀(l:List Int) (T:Tb),l.length=T.length->(∀i,i<l.length->l.getD i 0<=(z3e T i:Int))->l.sum<=(z4o T:Int)/\(l.sum=(z4o T:Int)->∀i,i<l.length->l.getD i 0=(z3e T i:Int))/\((∀i,i<l.length->l.getD i 0=(z3e T i:Int))->l.sum=(z4o T:Int))
 | [],[],_,_=>⟨by simp[z4o],λ_ i hi=>by simp at hi,λ_=>by simp[z4o]⟩
 | [],_::_,h,_=>by simp at h
 | _::_,[],h,_=>by simp at h
 | a::l,r::T,h,hb=>by
  obtain⟨h1,I,O⟩:=x1h l T (by simpa using h) (λi hi=>by simpa[z3e] using hb (i+1) (by simpa using hi))
  have h0:a<=(r.length:Int):=by simpa[z3e] using hb 0 sp0
  have e:(z4o (r::T):Int)=(r.length:Int)+(z4o T:Int):=by simp[z4o]
  rw[List.sum_cons,e]
  refine⟨oo,λhs i hi=>?_,λD=>?_⟩
  ·cases i with
   | zero=>show a=(r.length:Int);omega
   | succ i=>simpa[z3e] using I oo i (by simpa using hi)
  have Z:a=(r.length:Int):=by simpa[z3e] using D 0 sp0
  have e1:=O (λi hi=>by simpa[z3e] using D (i+1) (by simpa using hi))
  omega
structure FstI (T:Tb) (ms ts:List Int) (N:Nat):Prop where
  lm:ms.length=6
  lt:ts.length=6
  mb:∀y,y<6->0<=ms.getD y 0/\ms.getD y 0<=(z3e T y:Int)
  tb:∀y,y<6->0<=ts.getD y 0
  td:∀y,y<6->∀k:Nat,(k:Int)<ts.getD y 0->k<(nd T y<|ms.getD y 0).length->InM ms ((nd T y<|ms.getD y 0).getD k id0)
  sum:ms.sum=(N:Int)
  rk:∃rk:LId->Nat,(∀y,y<6->∀n:Nat,(n:Int)<ms.getD y 0->rk ⟨(y:Int)+1,(n:Int)⟩<N/\∀i∈z5m (lpA T y n),InM ms i/\rk i<rk ⟨(y:Int)+1,(n:Int)⟩)/\∀y,y<6->∀n m:Nat,n<m->(m:Int)<ms.getD y 0->rk ⟨(y:Int)+1,(n:Int)⟩<rk ⟨(y:Int)+1,(m:Int)⟩
theorem k2d (y:Nat):(List.replicate 6 (0:Int)).getD y 0=0:=by rw[List.getD,l65];split<;>rfl
theorem FstI.init {T:Tb}:FstI T (List.replicate 6 0) (List.replicate 6 0) 0:=
 ⟨rfl,rfl,λy _=>by rw[k2d];omega,λy _=>by rw[k2d];omega,λy _ k I=>by rw[k2d]at I;omega,rfl,λ_=>0,λy _ n D=>by rw[k2d]at D;omega,λy _ n m _ D=>by rw[k2d]at D;omega⟩
theorem z5g {l:List Int}{i:Nat}(h:i<l.length)(v:Int)(j:Nat):(l.set i v).getD j 0=if i=j then v else l.getD j 0:=by
 rw[List.getD,List.getD,l112];split;rename_i e;subst e;first|rfl|(rw[if_pos h];rfl)
 rfl
variable {T:Tb} {ms ts:List Int} {N:Nat}
theorem FstI.there (h:FstI T ms ts N){y:Nat}(I:y<6)(O:InM ms ((nd T y<|ms.getD y 0).getD (ts.getD y 0).toNat id0)):FstI T ms (ts.set y<|ts.getD y 0+1) N:=by
 have hl:y<ts.length:=by rw[h.lt];exact I
 refine⟨h.lm,by rw[l19];exact h.lt,h.mb,λz hz=>?_,λz hz k Z D=>?_,h.sum,h.rk⟩;rw[z5g hl];split;have:=h.tb y I;omega;exact h.tb z hz;rw[z5g hl]at Z;split at Z;rename_i e;subst e;have:=h.tb y I;by_cases e:k=(ts.getD y 0).toNat;rw[e];exact O;exact h.td y I k oo D;exact h.td z hz k Z D
theorem FstI.push (h:FstI T ms ts N)(hH:Has T){y:Nat}(hy:y<6)(a8:ms.getD y 0<(z3e T y:Int))(a5:((nd T y<|ms.getD y 0).length:Int)<=ts.getD y 0):FstI T (ms.set y<|ms.getD y 0+1) (ts.set y 0) (N+1):=by
 have I:y<ms.length:=by rw[h.lm];exact hy
 have a0:y<ts.length:=by rw[h.lt];exact hy
 have h0:=h.mb y hy;obtain⟨m,hm⟩:=Int.eq_ofNat_of_zero_le h0.1;rw[hm]at a8 a5 ⊢;have a4:∀i,InM ms i->InM (ms.set y<|(m:Int)+1) i:=λi hi=>by
  unfold InM at hi ⊢;rw[z5g I];split;rename_i e;rw[<-e,hm]at hi;omega;exact hi
 have a3:∀i∈z5m (lpA T y m),InM ms i:=λi hi=>by
  obtain⟨k,O,rfl⟩:=l29 hi;have e:nd T y (ms.getD y 0)=z5m (lpA T y m):=by unfold nd;rw[hm,l90]
  have:=h.td y hy k (by
   have e2:((nd T y (m:Int)).length:Int)<=ts.getD y 0:=a5;rw[<-hm,e]at e2;omega) (by rw[e];exact O)
  rw[e,List.getD,l10 O]at this;exact this
 obtain⟨rk,h1,h2⟩:=h.rk;have D:∀i,InM ms i->¬i=(⟨(y:Int)+1,(m:Int)⟩:LId):=λi hi e=>by
  subst e;rw[y8u,hm]at hi;omega
 refine⟨by rw[l19];exact h.lm,by rw[l19];exact h.lt,λz hz=>?_,λz hz=>?_,λz hz k O a7=>?_,?_,λi=>if i=⟨(y:Int)+1,(m:Int)⟩ then N else rk i,λz hz n hn=>?_,λz hz n k a9 O=>?_⟩;rw[z5g I];split;rename_i e;subst e;omega;exact h.mb z hz;rw[z5g a0];split;omega;exact h.tb z hz;rw[z5g a0]at O;split at O;omega;rename_i e;rw[z5g I,if_neg e]at a7 ⊢;exact a4 _<|h.td z hz k O a7;rw[v0t _ _ _ I,h.sum,hm];omega;rw[z5g I]at hn;simp only;by_cases e:z=y/\n=m;obtain⟨rfl,rfl⟩:=e;rw[if_pos U];refine⟨oo,λi hi=>⟨a4 i<|a3 i hi,?_⟩⟩;rw[if_neg (D i<|a3 i hi)];obtain⟨y',n',b0,_,rfl⟩:=hH.nm hy oo hi;exact(h1 y' b0 n'<|y8u.1<|a3 _ hi).1;have Z:(n:Int)<ms.getD z 0:=by
  split at hn;rename_i e2;subst e2;have:n≠m:=λe3=>e ⟨rfl,e3⟩;rw[hm];omega;exact hn
 rw[if_neg (D _<|y8u.2 Z)];obtain⟨a1,a2⟩:=h1 z hz n Z;refine⟨oo,λi hi=>?_⟩;obtain⟨b1,b2⟩:=a2 i hi;rw[if_neg (D i b1)];exact⟨a4 i b1,b2⟩;rw[z5g I]at O;simp only;have Z:(n:Int)<ms.getD z 0:=by
  split at O;rename_i e2;subst e2;rw[hm];omega;omega
 rw[if_neg (D _<|y8u.2 Z)];by_cases e:z=y/\k=m;obtain⟨rfl,rfl⟩:=e;rw[if_pos U];exact(h1 z hz n Z).1;have a6:(k:Int)<ms.getD z 0:=by
  split at O;rename_i e2;subst e2;have:k≠m:=λe3=>e ⟨rfl,e3⟩;rw[hm];omega;exact O
 rw[if_neg (D _<|y8u.2 a6)];exact h2 z hz n k a9 a6
theorem FstI.leI (h:FstI T ms ts N)(D:T.length=6):N<=z4o T:=by
 have:=(x1h ms T (by rw[h.lm,D])<|λi hi=>(h.mb i (by rw[<-h.lm];exact hi)).2).1;rw[h.sum]at this;omega
def v6h (T:Tb)(ms:List Int)(y:Nat):Prop:=ms.getD y 0=(z3e T y:Int)\/(ms.getD y 0<(z3e T y:Int)/\∃i∈nd T y (ms.getD y 0),¬InM ms i)
theorem FstI.done (h:FstI T ms ts N)(hH:Has T)(hs:∀y,y<6->v6h T ms y)(ho:∃rk,Ranked T rk):N=z4o T:=by
 obtain⟨rk,hr⟩:=ho;have a3:∀k y,y<6->ms.getD y 0<(z3e T y:Int)->rk ⟨(y:Int)+1,ms.getD y 0⟩=k->False:=λk=>by
  induction k using Nat.strongRecOn with
  | ind k ih=>
   intro y hy a0 hk;obtain⟨m,hm⟩:=Int.eq_ofNat_of_zero_le (h.mb y hy).1;rcases hs y hy with e|⟨_,i,hi,hn⟩
   omega;have O:i∈z5m (lpA T y m):=by unfold nd at hi;rw[hm,l90]at hi;exact hi
   rw[hm]at a0 hk;obtain⟨I,n',D,a2,rfl⟩:=hH.nm hy oo O;rw[y8u]at hn;obtain⟨m',a1⟩:=Int.eq_ofNat_of_zero_le (h.mb I D).1;have h1:=hr.need y hy m oo _ O;have h2:rk ⟨(I:Int)+1,(m':Int)⟩<=rk ⟨(I:Int)+1,(n':Int)⟩:=by
    rcases l110 m' n' with h3|h3
    exact Nat.le_of_lt<|hr.mono I D m' n' h3 a2;have:m'=n':=by omega
    rw[this];exact l20 _
   refine ih (rk ⟨(I:Int)+1,(m':Int)⟩) oo I D oo (by rw[a1])
 have:=(x1h ms T (by rw[h.lm,hH.1])<|λi hi=>(h.mb i (by rw[<-h.lm];exact hi)).2).2.2 (λi hi=>by
  have Z:i<6:=by rw[<-h.lm];exact hi
  have h1:=(h.mb i Z).2;rcases Decidable.em (ms.getD i 0<(z3e T i:Int)) with h2|h2
  exact(a3 _ i Z h2 U).elim;omega)
 rw[h.sum]at this;omega
theorem FstI.ord (h:FstI T ms ts N)(hH:Has T)(hN:N=z4o T):∃rk,Ranked T rk:=by
 have D:=(x1h ms T (by rw[h.lm,hH.1])<|λi hi=>(h.mb i (by rw[<-h.lm];exact hi)).2).2.1 (by rw[h.sum,hN]);obtain⟨rk,Z,h2⟩:=h.rk;refine⟨rk,⟨λy I n hn i hi=>?_,λy I n m O hm=>?_⟩⟩;exact((Z y I n (by rw[D y (by rw[h.lm];exact I)];omega)).2 i hi).2;exact h2 y I n m O (by rw[D y (by rw[h.lm];exact I)];omega)
end Go.G21
namespace Go.G21
open Go.Lw
def StN (W:Nat)(s:Lst)(i:LId):Prop:=match s with
  | none=>False
  | some (y,f)=>i.y=y/\(f:Int)<=i.n/\i.n<((f+2*W:Nat):Int)
instance (W:Nat) (s:Lst) (i:LId):Decidable (StN W s i):=by unfold StN;split<;>infer_instance
end Go.G21
namespace Go.G21
open Go.Lw
end Go.G21
namespace Go.G21
open Go.Lw
theorem v7g (ts:List TQ)(y:Nat):(z2n ts).getD y []=(ts.getD y tq0).2.map LpQ.p:=by
 rcases l110 y ts.length with h|h
 exact v6s (λp:TQ=>p.2.map LpQ.p) ts y tq0 [] h;rw[List.getD,l30 (by simpa[z2n] using h),List.getD,l30 h];rfl
theorem z3x (ts:List TQ)(y:Nat):z3e (z2n ts) y=(ts.getD y tq0).2.length:=by
 unfold z3e;rw[v7g,l18]
theorem y3n (ts:List TQ)(y n:Nat):lpA (z2n ts) y n=((ts.getD y tq0).2.getD n lq0).p:=by
 unfold lpA;rw[v7g];generalize (ts.getD y tq0).2=l;rw[List.getD,l24,List.getD];cases l[n]?<;>rfl
theorem z2m {ts:List TQ}{i:LId}:z5e (z2n ts) i↔1<=i.y/\i.y<=(ts.length:Int)/\0<=i.n/\i.n<((ts.getD (i.y-1).toNat tq0).2.length:Int):=by
 unfold z5e;rw[z3x];simp only[z2n,l18]
theorem z7d {w:World}{ts:List TQ}(h:TabAt w ts)(y:Nat):(ts.getD y tq0).1.2.1=(ts.getD y tq0).2.length:=by
 rcases l110 y ts.length with e|e
 exact z2c (h _<|z0z e).1;rw[List.getD,l30 e];rfl
theorem z9h {w:World}{ts:List TQ}(h:TabAt w ts){y n:Nat}(D:y<ts.length)(hn:n<(ts.getD y tq0).2.length):LpAt w ((ts.getD y tq0).2.getD n lq0):=(h _<|z0z D).2 _<|z0z hn
theorem y1h (ts:List TQ):(z2n ts).length=ts.length:=by simp[z2n]
def y1a (T:Tb)(y n:Nat):List LId:=(T.take y).flatMap v0z++((T.getD y []).take n).flatMap Lp.th
theorem u0q (T:Tb):y1a T 0 0=[]:=by simp[y1a]
theorem x2u {T:Tb}{y n:Nat}(h:n<z3e T y):y1a T y (n+1)=y1a T y n++(lpA T y n).th:=by
 unfold y1a lpA;have D:n<(T.getD y []).length:=h;rw[x5d Lp.th _ n lq0.p D,l14]
theorem u0l {T:Tb}{y:Nat}(h:y<T.length):y1a T (y+1) 0=y1a T y (z3e T y):=by
 unfold y1a z3e;rw[x5d v0z _ y [] h,l98,l39];simp[v0z]
theorem u2h {T:Tb}{y:Nat}(h:T.length<=y):y1a T y 0=y0p T:=by
 unfold y1a y0p;rw[l82 h];simp
theorem u2l {T:Tb}{y n:Nat}(D:y<T.length)(i:LId):(y1a T y n).count i<=(y0p T).count i:=by
 have I:y0p T=(T.take y).flatMap v0z++(T.drop y).flatMap v0z:=by unfold y0p;rw[<-l41,l26]
 have O:T.drop y=T.getD y []::T.drop (y+1):=by
  rw[l31 D,List.getD,l10 D];rfl
 have Z:v0z (T.getD y [])=((T.getD y []).take n).flatMap Lp.th++((T.getD y []).drop n).flatMap Lp.th:=by
  unfold v0z;rw[<-l41,l26]
 rw[I,O,l36,Z];unfold y1a;simp only[l21];omega
theorem j4a {T:Tb}{y n k:Nat}(Z:y<T.length)(hn:n<z3e T y)(D:k<(lpA T y n).th.length):(y1a T y n++(lpA T y n).th.take k).count ((lpA T y n).th.getD k id0)+1<=(y0p T).count ((lpA T y n).th.getD k id0):=by
 have h:=u2l (n:=n+1) Z<|(lpA T y n).th.getD k id0
 rw[x2u hn]at h
 generalize lpA T y n=l at *
 generalize y1a T y n=u at *
 have I:l.th=l.th.take k++l.th.getD k id0::l.th.drop (k+1):=by
  conv=>lhs;rw[<-l26 k l.th,l31 D]
  rw[List.getD,l10 D];rfl
 have O:=congrArg (List.count<|l.th.getD k id0) I
 rw[l21,List.count_cons_self]at O
 rw[l21]at h ⊢
 omega
def x0x (p:List LId)(i:LId):Value:=.int .i64 ((p.count i:Nat):Int)
theorem x0h (p:List LId)(k:LId):(λk'=>if k'=k then Value.int .i64 (((p.count k:Nat):Int)+1) else x0x p k')=x0x (p++[k]):=by
 funext k';unfold x0x;rw[l21,l93];by_cases h:k'=k;subst h;rw[if_pos U,if_pos sp0];rfl;rw[if_neg h,if_neg (by simpa using λe=>h e.symm),Nat.add_zero]
theorem z6j {α:Type}{l:List α}{k:Nat}(d:α)(h:k<l.length):l.take (k+1)=l.take k++[l.getD k d]:=by
 rw[l53,l10 h,List.getD,l10 h];rfl
structure TabV (T:Tb):Prop where
  ok:TabOk T
  thr:∀i,(y0p T).count i<=1
theorem tabV {T:Tb}{H F:List LId}(h:TabOk T)(hp:PlaceOk T H F):TabV T:=by
 refine⟨h,λi=>?_⟩;by_cases hi:z5e T i;obtain⟨h1,h2,h3,h4⟩:=hi;have h6:=h.six;obtain⟨O,I⟩:=i;simp only at h1 h2 h3 h4;have:=hp.once (O-1).toNat oo I.toNat oo;rw[show (((O-1).toNat:Nat):Int)+1=O by omega,show ((I.toNat:Nat):Int)=I by omega]at this;rw[l21]at this;omega;have:(y0p T).count i=0:=by
  rw[l69];intro D;unfold y0p v0z at D;obtain⟨r,hr,D⟩:=l68.1 D;obtain⟨l,hl,D⟩:=l68.1 D;obtain⟨y,hy,rfl⟩:=l29 hr;obtain⟨n,Z,rfl⟩:=l29 hl;have e1:T.getD y []=T[y]:=by rw[List.getD,l10 hy];rfl
  have e2:lpA T y n=T[y][n]:=by unfold lpA;rw[e1,List.getD,l10 Z];rfl
  have h6:=h.six;have:=(h.rts y oo n (by unfold z3e;rw[e1];exact Z)).1.2.2.1 i (by rw[e2];unfold z5m;exact l56 _ D);exact hi this
 omega
theorem thq (ts:List TQ)(y n:Nat):(lpA (z2n ts) y n).th=((ts.getD y tq0).2.getD n lq0).ths:=by rw[y3n]
theorem y9a {ts:List TQ}{y n:Nat}(h:n<(ts.getD y tq0).2.length):y1a (z2n ts) y (n+1)=y1a (z2n ts) y n++((ts.getD y tq0).2.getD n lq0).ths:=by
 rw[x2u (by rw[z3x];exact h),thq]
theorem y9e {ts:List TQ}{y:Nat}(h:y<ts.length):y1a (z2n ts) (y+1) 0=y1a (z2n ts) y (ts.getD y tq0).2.length:=by
 rw[u0l (by rw[y1h];exact h),z3x]
theorem x9g {ts:List TQ}{y n k:Nat}(D:∀i,(y0p<|z2n ts).count i<=1)(O:y<ts.length)(hn:n<(ts.getD y tq0).2.length)(I:k<((ts.getD y tq0).2.getD n lq0).ths.length) :
    ((y1a (z2n ts) y n++((ts.getD y tq0).2.getD n lq0).ths.take k++[((ts.getD y tq0).2.getD n lq0).ths.getD k id0]).count<|((ts.getD y tq0).2.getD n lq0).ths.getD k id0)<=1:=by
  have h:=j4a (T:=z2n ts) (n:=n) (k:=k) (by rw[y1h];exact O) (by rw[z3x];exact hn) (by rw[thq];exact I)
  rw[thq]at h
  have Z:=D<|((ts.getD y tq0).2.getD n lq0).ths.getD k id0
  rw[l21,l93,if_pos sp0]
  omega
def u8t (ts:List TQ)(i:Nat):Nat:=((ts.take i).map λp:TQ=>p.2.length).sum
theorem u0w {ts:List TQ}{i:Nat}(h:i<ts.length):u8t ts (i+1)=u8t ts i+(ts.getD i tq0).2.length:=by
 unfold u8t;rw[z6j tq0 h,l33,List.sum_append];simp
theorem x9f (ts:List TQ):z4o (z2n ts)=(ts.map λp:TQ=>p.2.length).sum:=by
 unfold z4o z2n;rw[l80];congr 1;apply l114;intro p _;simp
theorem j3c (ts:List TQ)(i:Nat):u8t ts i<=z4o (z2n ts):=by
 rw[x9f]
 conv=>rhs;rw[<-l26 i ts,l33,List.sum_append]
 unfold u8t;omega
theorem u2p (ts:List TQ):u8t ts ts.length=z4o (z2n ts):=by
 unfold u8t;rw[l39,x9f]
theorem j6e {q:LpQ}{n:Nat}(h:n<q.ths.length):(z5m q.p).getD n id0=q.ths.getD n id0:=by
 show (q.ths++q.pas.map Pa.id).getD n id0=_;simp only[List.getD,l44 h]
theorem j1z {q:LpQ}{n:Nat}(h:q.ths.length<=n)(I:n<(z5m q.p).length):(z5m q.p).getD n id0=(q.pas.getD (n-q.ths.length) pa0).id:=by
 have D:n-q.ths.length<q.pas.length:=by
  have:(z5m q.p).length=q.ths.length+q.pas.length:=by simp[z5m]
  omega
 show (q.ths++q.pas.map Pa.id).getD n id0=_;simp only[List.getD,l28 h,l24,l10 D];rfl
theorem v1y (q:LpQ):(z5m q.p).length=q.ths.length+q.pas.length:=by simp[z5m]
theorem TabV.has {T:Tb}(h:TabV T):Has T:=⟨h.ok.six,λy I n D i hi=>(h.ok.rts y I n D).1.2.2.1 i hi⟩
end Go.G21
namespace Go.Lw
open Go.RowKit
def MapZ {κ:Type}[DecidableEq κ](V:κ->Value)(w:World)(g:Nat)(z:Value)(f:κ->Value):Prop:=
  ∃(es:Array MapEntry) (c:Nat) (m:List (κ×Value)),w.heap[g]?=some (.map es c)/\es.toList.map (λe=>(e.key,e.val))=m.map (λp=>(V p.1,p.2))/\(∀k,(z2s m k).getD z=f k)/\(es.toList.map (·.born)).Nodup/\∀e∈es.toList,e.born<c
def MapE {κ:Type}[DecidableEq κ](V:κ->Value)(w:World)(g:Nat)(z:Value)(f:κ->Value)(k:κ)(st:Nat):Prop:=
  ∃(es:Array MapEntry) (c:Nat) (m:List (κ×Value)) (j:Nat),w.heap[g]?=some (.map es c)/\es.toList.map (λe=>(e.key,e.val))=m.map (λp=>(V p.1,p.2))/\(∀k,(z2s m k).getD z=f k)/\(es.toList.map (·.born)).Nodup/\(∀e∈es.toList,e.born<c)/\(m.map (·.1)).findIdx? (λx=>decide (k=x))=some j/\(es.toList[j]?).map (·.born)=some st
section
variable {κ:Type} [DecidableEq κ] {V:κ->Value} {P:Program} {K:TypeId}
theorem MapZ.fr {w w':World}{g:Nat}{z:Value}{f:κ->Value}{S:List Nat}(h:MapZ V w g z f)(hf:Fr S w w')(hn:∀k∈S,k∉[g]:=by simp[z0u]<;>omega):MapZ V w' g z f:=by
 obtain⟨I,c,m,D,O⟩:=h;exact⟨I,c,m,(hf.block g (l15.1 D).1<|λh=>hn g h sp0).trans D,O⟩
theorem MapZ.ext {w w':World}{g:Nat}{z:Value}{f:κ->Value}(h:MapZ V w g z f)(hf:Fr [] w w'):MapZ V w' g z f:=h.fr hf sp0
theorem MapZ.lt {w:World}{g:Nat}{z:Value}{f:κ->Value}(h:MapZ V w g z f):g<w.heap.size:=let ⟨_,_,_,h1,_⟩:=h;(l15.1 h1).1
theorem MapZ.ne_blk {w:World}{g D T:Nat}{z:Value}{f:κ->Value}{cs:List Value}(h:MapZ V w g z f)(I:Blk w D T cs):g≠D:=by
 rintro rfl;obtain⟨_,_,_,O,_⟩:=h;unfold Blk at I;rw[I]at O;cases O
theorem MapE.map {w:World}{g st:Nat}{z:Value}{f:κ->Value}{k:κ}(h:MapE V w g z f k st):MapZ V w g z f:=
 let ⟨es,c,m,_,h1,h2,h3,h4,h5,_⟩:=h;⟨es,c,m,h1,h2,h3,h4,h5⟩
theorem v3y {l:List MapEntry}(hn:(l.map (·.born)).Nodup){j st:Nat}(h:(l[j]?).map (·.born)=some st):l.findIdx? (λe=>((e.born:Nat):Int) == ((st:Nat):Int))=some j:=by
 induction l generalizing j with
 | nil=>simp at h
 | cons a r ih=>
  simp only[l32,l104]at hn;cases j with
  | zero=>simp at h;subst h;simp[l60]
  | succ j=>
   simp only[List.getElem?_cons_succ]at h;obtain⟨I,Z,hs⟩:=Option.map_eq_some_iff.1 h;have D:a.born≠st:=λe1=>hn.1<|l54.2 ⟨I,List.mem_of_getElem? Z,hs.trans e1.symm⟩;have O:(((a.born:Nat):Int) == ((st:Nat):Int))=false:=by
    simp only[beq_eq_false_iff_ne,ne_eq,Int.natCast_inj];exact D
   rw[l60,O];simp[ih hn.2 h]
theorem x5x {w:World}{g:Nat}{z:Value}{f:κ->Value}{t E:TypeId}(h:MapZ V w g z f)(hk:KeyLaw P K V)(hu:P.underlying t=some (.map K E))(hz:(zeroValue E).run P w=.ok z w)(k:κ) :
    (Instr.lookup t (.map<|some g) (V k) false).run P w=.ok (f k) w:=by
  obtain⟨D,c,m,I,O,Z,_⟩:=h
  rw[<-Z k]
  exact y8v (f:=z2s m) ⟨D,c,m,I,O,λ_=>rfl⟩ hk hu hz k
theorem x1a {w:World}{g:Nat}{z:Value}{f:κ->Value}{t E:TypeId}(h:MapZ V w g z f)(hk:KeyLaw P K V)(hu:P.underlying t=some (.map K E))(hz:∀w:World,(zeroValue E).run P w=.ok z w)(k:κ) :
    ∃w' st,(Instr.mapEntry t (.map<|some g)<|V k).run P w=.ok (.tuple #[f k,.int .i64 (st:Nat)]) w'/\MapE V w' g z f k st/\Fr [g] w w'/\w'.heap.size=w.heap.size:=by
  obtain⟨I,c,m,h1,h2,h3,h4,h5⟩:=h
  have b0:=(l15.1 h1).1
  have a1:I.toList.map (·.key)=(m.map (·.1)).map V:=by
    have:=congrArg (List.map Prod.fst) h2
    simpa[l80,l103] using this
  have O:=hk.find k I.toList (m.map (·.1)) w a1
  have a2:∀o,(setObj g o).run P w=.ok () { w with heap:=w.heap.setIfInBounds g o }:=by intro o;simp[setObj,Sem.run,h1]
  have a6:∀o,Fr [g] w { w with heap:=w.heap.setIfInBounds g o }:=λo=>⟨rfl,rfl,rfl,sp0,λi _ hn=>by
    simp only
    rw[l74 (by intro e;subst e;simp at hn)]⟩
  have Z:∀o,({ w with heap:=w.heap.setIfInBounds g o }:World).heap[g]?=some o:=by intro o;simp[b0]
  have a8:I.toList.length=m.length:=by have:=congrArg List.length h2;simpa using this
  have D:=y3i (V:=V) m k I.toList h2
  cases hf:(m.map (·.1)).findIdx? (λx=>decide (k=x)) with
  | none=>
    rw[hf]at O D
    simp only[Option.bind_none,Option.map_none]at D
    have e0:f k=z:=by rw[<-h3 k,<-D];rfl
    refine⟨{ w with heap:=w.heap.setIfInBounds g (.map (I.push { key:=V k,val:=z,born:=c })<|c+1) },c,?_,⟨_,_,m++[(k,z)],m.length,Z<|.map (I.push { key:=V k,val:=z,born:=c })<|c+1,?_,λk'=>?_,?_,?_,?_,?_⟩,a6 _,sp0⟩
    · simp only[Instr.mapEntry,Sem.run_bind,run_underlying hu,Result.andThen_ok,z2x h1,hk.check,O,Option.bind_none,hz w,a2,Sem.run_pure,e0]
      rfl
    · simp[h2]
    · rw[y3y m k k' z hf,<-h3 k']
      split
      · rename_i e;subst e;rw[h3,e0];rfl
      · rfl
    · simp only[Array.toList_push,l33,l32,List.map_nil]
      refine l61.2 ⟨h4,sp0,λa ha b hb e=>?_⟩
      simp only[l11]at hb
      obtain⟨x,hx,rfl⟩:=l54.1 ha
      have:=h5 x hx;omega
    · intro e he
      simp only[Array.toList_push,l23,l11]at he
      rcases he with he|rfl
      · have:=h5 e he;omega
      · simp
    · rw[l33,List.findIdx?_append,hf];simp
    · simp only[Array.toList_push]
      rw[<-a8,l28 (l20 _)];simp
  | some i=>
    have hi:i<m.length:=by
      have:=l75.1 hf
      simpa using this.1
    have a0:i<I.toList.length:=by omega
    have a7:V k=(I.toList[i]).key:=by
      have a9:=List.findIdx?_eq_some_iff_getElem.1 hf
      obtain⟨b2,hp,_⟩:=a9
      have b1:k=(m.map (·.1))[i]:=by simpa using hp
      have e1:(I.toList.map (·.key))[i]?=((m.map (·.1)).map V)[i]?:=by rw[a1]
      simp only[l24,l10 a0,l10 hi,l58,l67]at e1
      rw[e1,b1];simp
    have a5:I[i]?=some I.toList[i]:=by rw[<-l42,l10 a0]
    have a4:(Instr.keyThatStays (((I[i]?).map (·.key)).getD<|V k)<|V k).run P w=.ok (V k) w:=by
      rw[a5]
      simp only[l58,l63,<-a7,Instr.keyThatStays,hk.bits,if_true,Sem.run_pure]
    have a3:I.modify i (λe=>{ e with key:=V k })=I:=by
      apply Array.ext'
      rw[Array.toList_modify]
      apply l59
      intro j
      rw[l106]
      by_cases hj:i=j
      · subst hj
        rw[l10 a0]
        simp only[Option.map_eq_map,l58,if_pos,l67]
        rw[a7]
      · simp[hj]
    rw[hf]at O D
    simp only[Option.bind_some,l10 a0,l58]at O D
    have e0:f k=I.toList[i].val:=by rw[<-h3 k,<-D];rfl
    refine⟨{ w with heap:=w.heap.setIfInBounds g (.map I c) },I.toList[i].born,?_,⟨I,c,m,i,Z _,h2,h3,h4,h5,hf,?_⟩,a6 _,sp0⟩
    · simp only[Instr.mapEntry,Sem.run_bind,run_underlying hu,Result.andThen_ok,z2x h1,hk.check,O,a4,a2,a3,Sem.run_pure,e0]
      rw[a5];rfl
    · rw[l10 a0];rfl
theorem y5z {w:World}{g st:Nat}{z v:Value}{f:κ->Value}{t:TypeId}{k:κ}(h:MapE V w g z f k st) :
    ∃w',(Instr.entryStore t (.map<|some g) (.int .i64 (st:Nat)) v).run P w=.ok () w'/\MapZ V w' g z (λk'=>if k'=k then v else f k')/\Fr [g] w w'/\w'.heap.size=w.heap.size:=by
  obtain⟨D,c,m,j,h1,h2,h3,h4,h5,h6,h7⟩:=h
  have a3:=(l15.1 h1).1
  have a1:∀o,(setObj g o).run P w=.ok () { w with heap:=w.heap.setIfInBounds g o }:=by intro o;simp[setObj,Sem.run,h1]
  have a2:∀o,Fr [g] w { w with heap:=w.heap.setIfInBounds g o }:=λo=>⟨rfl,rfl,rfl,sp0,λi _ hn=>by
    simp only
    rw[l74 (by intro e;subst e;simp at hn)]⟩
  have I:∀o,({ w with heap:=w.heap.setIfInBounds g o }:World).heap[g]?=some o:=by intro o;simp[a3]
  have a0:D.findIdx? (λe=>((e.born:Nat):Int) == ((st:Nat):Int))=some j:=by
    have e:D.findIdx? (λe=>((e.born:Nat):Int) == ((st:Nat):Int))=D.toList.findIdx? (λe=>((e.born:Nat):Int) == ((st:Nat):Int)):=by cases D;simp
    rw[e];exact v3y h4 h7
  have hi:j<m.length:=by
    have:=l75.1 h6
    simpa using this.1
  refine⟨{ w with heap:=w.heap.setIfInBounds g (.map (D.modify j λe=>{ e with val:=v }) c) },?_,⟨_,c,m.modify j λp=>(p.1,v),I _,?_,λk'=>?_,?_,?_⟩,a2 _,sp0⟩
  · simp only[Instr.entryStore,Sem.run_bind,Result.andThen_ok,z2x h1,asInt,asIntOf,Sem.run_pure,a0,a1]
  · rw[Array.toList_modify]
    apply l59
    intro i
    have e2:=congrArg (·[i]?) h2
    simp only[l24]at e2 ⊢
    rw[l106,l106]
    by_cases hj:j=i
    · subst hj
      simp only[Option.map_eq_map,if_pos]
      cases O:D.toList[j]? with
      | none=>rw[O]at e2;cases hm:m[j]? with
        | none=>rfl
        | some p=>rw[hm]at e2;cases e2
      | some e=>rw[O]at e2;cases hm:m[j]? with
        | none=>rw[hm]at e2;cases e2
        | some p=>
          rw[hm]at e2
          simp only[l58,l67,l102]at e2 ⊢
          first|exact⟨e2.1,rfl⟩|exact⟨e2.1,trivial⟩|simp[e2.1]
    · simp only[Option.map_eq_map,if_neg hj];simpa using e2
  · rw[z9w k k' v m j h6]
    show _=if k'=k then v else f k'
    split
    · rfl
    · exact h3 k'
  · rw[Array.toList_modify]
    have e:(D.toList.modify j λe=>{ e with val:=v }).map (·.born)=D.toList.map (·.born):=by
      apply l59
      intro i
      rw[l24,l24,l106]
      split
      · cases D.toList[i]?<;>rfl
      · simp
    rw[e];exact h4
  · intro e O
    rw[Array.toList_modify]at O
    obtain⟨i,Z,rfl⟩:=l29 O
    rw[List.length_modify]at Z
    rw[List.getElem_modify]
    have:=h5 _<|l109 Z
    split<;>exact this
variable {a:Act} {n:Nat} {L:List (Nat×Value)} {ds:List Nat} {w w':World} {Q:Exit->Act->World->Prop} {ops:Array Oper} {rest:List Oper}
variable {d:Nat} {ty:TypeId} {pos:String} {after:Array Edge} {x y z':Operand} {t E:TypeId} {g st:Nat} {f:κ->Value} {k:κ} {v z:Value}
theorem x6o (V:κ->Value)(z:Value)(h:AgM ds a n L)(hn:lbt d n)
    (q:∀g w',g=w.heap.size->MapZ V w' g z (λ_=>z)->Fr [] w w'->w'.heap.size=g+1->∀a,AgM ds a n ((d,.map<|some g)::L)->wpList P ops Q rest a w'):wpList P ops Q (⟨some d,.makeMap t none,ty,pos,after,none⟩::rest) a w:=
  z1z h U hn (w':=w.alloc<|.map #[] 0) (by simp[execOp,Instr.makeMap]) (q _ _ U ⟨_,_,[],heap_alloc_new w _,sp0,λ_=>rfl,sp0,sp0⟩ (Fr.alloc [] w _) sp0)
theorem y8a (V:κ->Value)(z:Value)(hn:lbt d n)(q:∀g w',g=w.heap.size->MapZ V w' g z (λ_=>z)->Fr [] w w'->w'.heap.size=g+1->WL P ops Q rest n ds w' ((d,.map<|some g)::L)):WL P ops Q (⟨some d,.makeMap t none,ty,pos,after,none⟩::rest) n ds w L:=λa h=>x6o V z h hn q
theorem z8b (h:AgM ds a n L)(hx:ev L x=some (.map<|some g))(hy:ev L y=some (V k))(I:MapZ V w g z f)(D:KeyLaw P K V)(O:P.underlying t=some (.map K E))(hz:∀w:World,(zeroValue E).run P w=.ok z w)(Z:f k=v)(hn:lbt d n)
    (q:∀a,AgM ds a n ((d,v)::L)->wpList P ops Q rest a w):wpList P ops Q (⟨some d,.lookup t x y false,ty,pos,after,none⟩::rest) a w:=
  z1z h U hn (by rw[<-Z];simp[execOp,h.eval hx,h.eval hy,x5x I D O (hz w) k]) q
theorem y5r (hx:ev L x=some (.map<|some g))(hy:ev L y=some (V k))(I:MapZ V w g z f)(D:KeyLaw P K V)(O:P.underlying t=some (.map K E))(hz:∀w:World,(zeroValue E).run P w=.ok z w)(Z:f k=v)(hn:lbt d n)
 (q:WL P ops Q rest n ds w ((d,v)::L)):WL P ops Q (⟨some d,.lookup t x y false,ty,pos,after,none⟩::rest) n ds w L:=λa h=>z8b h hx hy I D O hz Z hn q
theorem z7o (h:AgM ds a n L)(hx:ev L x=some (.map<|some g))(hy:ev L y=some (V k))(hm:MapZ V w g z f)(Z:KeyLaw P K V)(hu:P.underlying t=some (.map K E))(hz:∀w:World,(zeroValue E).run P w=.ok z w)(hn:lbt d n)
    (q:∀w' st,MapE V w' g z f k st->Fr [g] w w'->w'.heap.size=w.heap.size->∀a,AgM ds a n ((d,.tuple #[f k,.int .i64 (st:Nat)])::L)->wpList P ops Q rest a w'):wpList P ops Q (⟨some d,.mapEntry t x y,ty,pos,after,none⟩::rest) a w:=by
  obtain⟨w',st,hr,D,I,O⟩:=x1a hm Z hu hz k
  exact z1z h U hn (w':=w') (by simp[execOp,h.eval hx,h.eval hy,hr])<|q w' st D I O
theorem z6a {s:Operand}(h:AgM ds a n L)(hx:ev L x=some (.map<|some g))(hs:ev L s=some (.int .i64 (st:Nat)))(hy:ev L y=some v)(Z:MapE V w g z f k st)
    (q:∀w',MapZ V w' g z (λk'=>if k'=k then v else f k')->Fr [g] w w'->w'.heap.size=w.heap.size->∀a,AgM ds a n L->wpList P ops Q rest a w'):wpList P ops Q (⟨none,.entryStore t x s y,ty,pos,after,none⟩::rest) a w:=by
  obtain⟨w',hr,D,I,O⟩:=y5z (P:=P) (t:=t) (v:=v) Z
  exact z9o h U U (w':=w') (by simp[execOp,h.eval hx,h.eval hs,h.eval hy,hr])<|q w' D I O
end
end Go.Lw
namespace Go.Lw
open Go.RowKit
theorem v3v {w:World}{ad:Addr}{cs vs:List Value}{off:Nat}(h:Cells w ad cs)(I:(cs.drop off).take vs.length=vs):Cells w (ad.add off) vs:=λj u D=>by
 rw[<-I]at D
 rw[l51]at D
 split at D
 ·rw[l94]at D
  rw[z8y];exact h _ u D
 cases D
section
variable {P:Program} {a:Act} {n:Nat} {L:List (Nat×Value)} {ds:List Nat} {w:World} {Q:Exit->Act->World->Prop} {ops:Array Oper} {rest:List Oper} {d g p:Nat} {ty t:TypeId} {pos:String} {after:Array Edge} {x:Operand} {l:List UInt8}
end
end Go.Lw
namespace Go.Lw
open Go.RowKit
section
variable {P:Program} {a:Act} {n:Nat} {L:List (Nat×Value)} {ds:List Nat} {w:World} {Q:Exit->Act->World->Prop} {ops:Array Oper} {rest:List Oper} {d:Nat} {ty t T:TypeId} {pos:String} {after:Array Edge} {x:Operand}
end
section
variable {P:Program} {a:Act} {n:Nat} {L:List (Nat×Value)} {ds:List Nat} {w:World} {Q:Exit->Act->World->Prop} {ops:Array Oper} {rest:List Oper} {d:Nat} {ty t T:TypeId} {pos:String} {after:Array Edge} {x y:Operand} {k:IntKind} {i:Int}
end
end Go.Lw
namespace Go.Proofs.YtlfdhllfmoplgaaGreatDoor
open Go.Lw Go.G21 Go.G08 _root_.Go.Proofs.Tryz
theorem x1r:ElemOf prog 28 123 z4w 24:=ElemOf.mk' (z:=(.slice none 0 0)) underlying28 kr U
theorem y2m:z2d prog 123:=λ_=>kr
theorem v9t (i:LId)(v:Value)(ts:List TQ)(w0:World)(hs:Sl z4w w0 v ts)(hk:TabAt w0 ts)(hl:ts.length<=200)(hi:0<=i.y/\i.y<=255):Rets prog 242 #[v,ivv i] w0 λr w'=>r=.bool (decide (z5e (z2n ts) i))/\Fr [] w0 w':=by
 obtain⟨A,c,rfl,a5,hM,hA⟩:=id hs;clear hA;unfold maxLen at hM;have a2:=z7d hk;have a7:=a2 (i.y-1).toNat;refine we [(0,.slice A ts.length c),(1,ivv i)] func242 U ntmps242 U (.c2 U U) ?_;have a3:=hs;have a1:=hk;refine sr<|bx U<|λg3 w1 a6 I Z z1=>(asg U<|nn<|sq ?_);have hs:=a3.ext Z;have hk:=a1.ext Z;intro a h;refine y4d z2r kr<|z3c h U z9b U λa h=>z6e h U (λ_ O=>I.ext O) U na5 U λa h=>u6v h U U U λa h=>z4n h U λa h=>gSp (D:=8) h U ?_ ?_;intro g0 h;refine z2q h U U U U<|z3c h U z9b U λa h=>z2q h U U U U<|z6e h U (λ_ O=>I.ext O) U na5 U λa h=>z2q h U U U U<|v7f h U (by rw[underlying5];rfl) underlying3 t13 U λa h=>?_;refine z2q h U U U U<|z4n h U λa h=>z2q h U U U U<|y9t h U underlying28 U λa h=>z2q h U U U U<|j7z h U U U λa h=>?_;refine z8f h U λa h=>z4n h U λa h=>gSp (D:=16) h U ?_ ?_;intro g1 h;refine z2q h U U U U<|z3c h U y1b U λa h=>z2q h U U U U<|z6e h U (λ_ O=>I.ext O) U na3 U λa h=>z2q h U U U U<|u6v h U U U λa h=>?_;refine z8f h U λa h=>z4n h U λa h=>gSp (D:=21) h U ?_ ?_;intro g2 h;refine z2q h U U U U<|z3c h U y1b U λa h=>z2q h U U U U<|z6e h U (λ_ O=>I.ext O) U na3 U λa h=>z2q h U U U U<|z4n h U λa h=>?_;refine z2q h U U U U<|z3c h U z9b U λa h=>z2q h U U U U<|z6e h U (λ_ O=>I.ext O) U na5 U λa h=>z2q h U U U U<|u8g h U U t19 U λa h=>?_;refine z2q h U U U U<|v7i (tq0) h U hs U x1r oo oo U U λa4 a0 a h=>z2q h U U U U<|x4s h U (λ_ O=>a0 _<|hs.ext O) y2m U λa h=>z2q h U U U U<|y9t h U underlying123 U λa h=>?_;refine z2q h U U U U<|j8t h U U U λa h=>z8f h U λa h=>z6i h U U λa h=>wpQuiet_nil ?_;intro w2 q2;refine bk (h.sub (L':=ll1 4)<|csu U)<|tn<|rt<|r1 results242 U ?_;exact⟨_,rfl,by first|exact congrArg Value.bool<|decide_eq_decide.2 t15|exact congrArg Value.bool (decide_eq_false t15).symm|exact congrArg Value.bool (decide_eq_true t15).symm,(Z.n1 q2)⟩;intro g2 h;refine z1s h U U U U λa h=>z1s h U U U U λa h=>z1s h U U U U λa h=>z1s h U U U U λa h=>z1s h U U U U λa h=>z1s h U U U U λa h=>z1s h U U U U λa h=>z1s h U U U U λa h=>z1s h U U U U λa h=>z1s h U U U U λa h=>z3z h U λa h=>z6i h U U λa h=>wpQuiet_nil ?_;intro w3 q3;refine bk (h.sub (L':=ll1 4)<|csu U)<|tn<|rt<|r1 results242 U ?_;exact⟨_,rfl,by first|exact congrArg Value.bool<|decide_eq_decide.2 t15|exact congrArg Value.bool (decide_eq_false t15).symm|exact congrArg Value.bool (decide_eq_true t15).symm,(Z.n1 q3)⟩;intro g1 h;refine z1s h U U U U λa h=>z1s h U U U U λa h=>z1s h U U U U λa h=>z3z h U λa h=>z4n h U λa h=>z1s h U U U U λa h=>z1s h U U U U λa h=>z1s h U U U U λa h=>z1s h U U U U λa h=>z1s h U U U U λa h=>z1s h U U U U λa h=>z1s h U U U U λa h=>z1s h U U U U λa h=>z1s h U U U U λa h=>z1s h U U U U λa h=>z3z h U λa h=>z6i h U U λa h=>wpQuiet_nil ?_;intro w4 q4;refine bk (h.sub (L':=ll1 4)<|csu U)<|tn<|rt<|r1 results242 U ?_;exact⟨_,rfl,by first|exact congrArg Value.bool<|decide_eq_decide.2 t15|exact congrArg Value.bool (decide_eq_false t15).symm|exact congrArg Value.bool (decide_eq_true t15).symm,(Z.n1 q4)⟩;intro g0 h;refine z1s h U U U U λa h=>z1s h U U U U λa h=>z1s h U U U U λa h=>z1s h U U U U λa h=>z1s h U U U U λa h=>z1s h U U U U λa h=>z3z h U λa h=>z4n h U λa h=>z1s h U U U U λa h=>z1s h U U U U λa h=>z1s h U U U U λa h=>z3z h U λa h=>z4n h U λa h=>z1s h U U U U λa h=>z1s h U U U U λa h=>z1s h U U U U λa h=>z1s h U U U U λa h=>z1s h U U U U λa h=>z1s h U U U U λa h=>z1s h U U U U λa h=>z1s h U U U U λa h=>z1s h U U U U λa h=>z1s h U U U U λa h=>z3z h U λa h=>z6i h U U λa h=>wpQuiet_nil ?_;intro w5 q5;refine bk (h.sub (L':=ll1 4)<|csu U)<|tn<|rt<|r1 results242 U ?_;exact⟨_,rfl,by first|exact congrArg Value.bool<|decide_eq_decide.2 t15|exact congrArg Value.bool (decide_eq_false t15).symm|exact congrArg Value.bool (decide_eq_true t15).symm,(Z.n1 q5)⟩
theorem x6d (i:LId)(v:Value)(ts:List TQ)(w0:World)(hs:Sl z4w w0 v ts)(hk:TabAt w0 ts)(hl:ts.length<=200)(hi:0<=i.y/\i.y<=255):Rets prog 157 #[v,ivv i] w0 λr w'=>r=.bool (decide (z5e (z2n ts) i))/\Fr [] w0 w':=by
 obtain⟨A,c,rfl,a5,hM,hA⟩:=id hs;clear hA;unfold maxLen at hM;have a2:=z7d hk;have a7:=a2 (i.y-1).toNat;refine we [(0,.slice A ts.length c),(1,ivv i)] func157 U ntmps157 U (.c2 U U) ?_;have a3:=hs;have a1:=hk;refine sr<|bx U<|λg3 w1 a6 I Z z1=>(asg U<|nn<|sq ?_);have hs:=a3.ext Z;have hk:=a1.ext Z;intro a h;refine y4d z2r kr<|z3c h U z9b U λa h=>z6e h U (λ_ O=>I.ext O) U na5 U λa h=>u6v h U U U λa h=>z4n h U λa h=>gSp (D:=8) h U ?_ ?_;intro g0 h;refine z2q h U U U U<|z3c h U z9b U λa h=>z2q h U U U U<|z6e h U (λ_ O=>I.ext O) U na5 U λa h=>z2q h U U U U<|v7f h U (by rw[underlying5];rfl) underlying3 t13 U λa h=>?_;refine z2q h U U U U<|z4n h U λa h=>z2q h U U U U<|y9t h U underlying28 U λa h=>z2q h U U U U<|j7z h U U U λa h=>?_;refine z8f h U λa h=>z4n h U λa h=>gSp (D:=16) h U ?_ ?_;intro g1 h;refine z2q h U U U U<|z3c h U y1b U λa h=>z2q h U U U U<|z6e h U (λ_ O=>I.ext O) U na3 U λa h=>z2q h U U U U<|u6v h U U U λa h=>?_;refine z8f h U λa h=>z4n h U λa h=>gSp (D:=21) h U ?_ ?_;intro g2 h;refine z2q h U U U U<|z3c h U y1b U λa h=>z2q h U U U U<|z6e h U (λ_ O=>I.ext O) U na3 U λa h=>z2q h U U U U<|z4n h U λa h=>?_;refine z2q h U U U U<|z3c h U z9b U λa h=>z2q h U U U U<|z6e h U (λ_ O=>I.ext O) U na5 U λa h=>z2q h U U U U<|u8g h U U t19 U λa h=>?_;refine z2q h U U U U<|v7i (tq0) h U hs U x1r oo oo U U λa4 a0 a h=>z2q h U U U U<|x4s h U (λ_ O=>a0 _<|hs.ext O) y2m U λa h=>z2q h U U U U<|y9t h U underlying123 U λa h=>?_;refine z2q h U U U U<|j8t h U U U λa h=>z8f h U λa h=>z6i h U U λa h=>wpQuiet_nil ?_;intro w2 q2;refine bk (h.sub (L':=ll1 4)<|csu U)<|tn<|rt<|r1 results157 U ?_;exact⟨_,rfl,by first|exact congrArg Value.bool<|decide_eq_decide.2 t15|exact congrArg Value.bool (decide_eq_false t15).symm|exact congrArg Value.bool (decide_eq_true t15).symm,(Z.n1 q2)⟩;intro g2 h;refine z1s h U U U U λa h=>z1s h U U U U λa h=>z1s h U U U U λa h=>z1s h U U U U λa h=>z1s h U U U U λa h=>z1s h U U U U λa h=>z1s h U U U U λa h=>z1s h U U U U λa h=>z1s h U U U U λa h=>z1s h U U U U λa h=>z3z h U λa h=>z6i h U U λa h=>wpQuiet_nil ?_;intro w3 q3;refine bk (h.sub (L':=ll1 4)<|csu U)<|tn<|rt<|r1 results157 U ?_;exact⟨_,rfl,by first|exact congrArg Value.bool<|decide_eq_decide.2 t15|exact congrArg Value.bool (decide_eq_false t15).symm|exact congrArg Value.bool (decide_eq_true t15).symm,(Z.n1 q3)⟩;intro g1 h;refine z1s h U U U U λa h=>z1s h U U U U λa h=>z1s h U U U U λa h=>z3z h U λa h=>z4n h U λa h=>z1s h U U U U λa h=>z1s h U U U U λa h=>z1s h U U U U λa h=>z1s h U U U U λa h=>z1s h U U U U λa h=>z1s h U U U U λa h=>z1s h U U U U λa h=>z1s h U U U U λa h=>z1s h U U U U λa h=>z1s h U U U U λa h=>z3z h U λa h=>z6i h U U λa h=>wpQuiet_nil ?_;intro w4 q4;refine bk (h.sub (L':=ll1 4)<|csu U)<|tn<|rt<|r1 results157 U ?_;exact⟨_,rfl,by first|exact congrArg Value.bool<|decide_eq_decide.2 t15|exact congrArg Value.bool (decide_eq_false t15).symm|exact congrArg Value.bool (decide_eq_true t15).symm,(Z.n1 q4)⟩;intro g0 h;refine z1s h U U U U λa h=>z1s h U U U U λa h=>z1s h U U U U λa h=>z1s h U U U U λa h=>z1s h U U U U λa h=>z1s h U U U U λa h=>z3z h U λa h=>z4n h U λa h=>z1s h U U U U λa h=>z1s h U U U U λa h=>z1s h U U U U λa h=>z3z h U λa h=>z4n h U λa h=>z1s h U U U U λa h=>z1s h U U U U λa h=>z1s h U U U U λa h=>z1s h U U U U λa h=>z1s h U U U U λa h=>z1s h U U U U λa h=>z1s h U U U U λa h=>z1s h U U U U λa h=>z1s h U U U U λa h=>z1s h U U U U λa h=>z3z h U λa h=>z6i h U U λa h=>wpQuiet_nil ?_;intro w5 q5;refine bk (h.sub (L':=ll1 4)<|csu U)<|tn<|rt<|r1 results157 U ?_;exact⟨_,rfl,by first|exact congrArg Value.bool<|decide_eq_decide.2 t15|exact congrArg Value.bool (decide_eq_false t15).symm|exact congrArg Value.bool (decide_eq_true t15).symm,(Z.n1 q5)⟩
theorem u7h (u:Value)(A:Option Addr)(m c:Nat)(w0:World)(I:m=0):Rets prog 209 #[u,.slice A m c] w0 λr w'=>r=u/\Fr [] w0 w':=by
 refine we [(0,u),(1,.slice A m c)] func209 U ntmps209 U (.c2 U U)<|sr<|asg U<|nn<|sq<|sr<|mv U U<|lnS U underlying102<|mv U U<|nn<|bl<|lpK (ι:=Nat) (ll3 0 8 9) (λk=>[(10,.int .i64 (k:Int))]) (λk w'=>Fr [] w0 w'/\k<=m) (λk=>m-k) 0 (csu U) ⟨l12 _ _,l17 _⟩ ?_;rintro k w1 ⟨D,hi⟩;refine kpC (ll4 0 8 9 10) (csu U)<|sr<|lt' U ?_;rw[show decide ((k:Int)<(m:Int))=false from decide_eq_false oo];exact nn<|sq<|cf U<|ex<|te<|te<|xh<|tn<|sr<|mv U U<|asg U<|kpL (ll1 4) (csu U)<|nn<|rt<|r1 results209 U ⟨_,rfl,rfl,D⟩
theorem u1w (base:Nat)(u v:Value)(l:List Pa)(wS w0:World)(ho:Lw.Own z2i 107 base w0 u [])(O:Sl z2i wS v l)(I:Sl z2i w0 v l)(hb:wS.heap.size<=base)(D:base<=w0.heap.size)(hn:l.length<=100000):Rets prog 209 #[u,v] w0 λr w'=>∃S,Lw.Own z2i 107 base w' r (z5f [] l)/\(∀k∈S,base<=k)/\Fr S w0 w':=by
 by_cases e:l=[];subst e;obtain⟨A,c,rfl,_⟩:=I.form;refine Rets.mono (u7h u A _ c w0 U) ?_;rintro r w' ⟨rfl,hf⟩;exact⟨[],ho.ext hf,sp0,hf⟩;exact v5j base u v [] l w0 ho I (λk Z=>by have:=O.blk e k Z;omega) D (by simpa using hn)
theorem v8n (v:Value)(l:List Pa)(w0:World)(O:Sl z2i w0 v l)(hl:l.length<=50000):Rets prog 243 #[v] w0 λr w'=>∃A,r=.slice A (z5f [] l).length (z5f [] l).length/\Fr [] w0 w':=by
 obtain⟨A,c,rfl,a2,hM,hA⟩:=id O;clear hA;unfold maxLen at hM;refine we [(0,.slice A l.length c)] func243 U ntmps243 U (.cons U .nil) ?_;have I:=O;refine sr<|asg U<|nn<|sr<|mv U U<|lnS U underlying102<|z1f (m:=0) (c:=l.length) (pa0) U z4v x1c U<|λg5 w1 a3 ho q1 z1=>(mv U U ?_);have O:=I.ext q1;refine cl (ev2 U) (mkC func209) (u1w g5 _ _ l w0 _ (by simpa using ho) I O oo oo oo) U ?_;rintro V7 w2 ⟨S7,D,Z,q2⟩;have a0:=z7z l [];obtain⟨A7,c7,rfl,a1⟩:=D.sl.form;refine cl (ev1 U) (mkC func210) (y0s _ _ _ D.sl (by simp only[l64]at a0;omega)) U ?_;rintro _ w3 ⟨A8,rfl,a5,q3⟩;exact asg U<|kpL (ll1 2) (csu U)<|nn<|rt<|r1 results243 U ⟨_,rfl,A8,rfl,((q1.step q2<|λk hk a4=>absurd (Z k hk) oo).n1 q3)⟩
theorem y4u (v:Value)(ts:List TQ)(w0:World)(I:Sl z4w w0 v ts)(hk:TabAt w0 ts)(hN:z4o (z2n ts)<=100000):Rets prog 168 #[v] w0 λr w'=>r=.int .i64 (z4o (z2n ts):Int)/\Fr [] w0 w':=by
 obtain⟨A,c,rfl,a3,hM,hA⟩:=id I;clear hA;unfold maxLen at hM;have O:=z7d hk;refine we [(0,.slice A ts.length c)] func168 U ntmps168 U (.cons U .nil) ?_;have Z:=I;have a4:=hk;refine sr<|asg U<|nn<|sr<|asg U<|nn<|sq<|sr<|mv U U<|lnS U underlying28<|mv U U<|nn<|bl<|lpK (ι:=Nat) (ll2 6 7) (λi=>[(8,.int .i64 (i:Int)),(3,.int .i64 (u8t ts i:Int))]) (λi w'=>Fr [] w0 w'/\i<=ts.length) (λi=>ts.length-i) 0 (csu U) ⟨l12 _ _,l17 _⟩ ?_;rintro i w1 ⟨q1,hi⟩;refine kpC (ll4 6 7 8 3) (csu U)<|sr<|lt' U<|nn<|sq<|cd U (λc0=>?_)<|λc0=>?_;have a5:=O i;have a1:=u0w (ts:=ts) (i:=i) oo;have a2:=j3c ts<|i+1;refine sk<|tn<|sq<|bl<|sr ?_;have I:=Z.ext q1;refine z1b (tq0) U I U x1r z1j<|λa0 D=>?_;refine z1c U (D _ I) y2m<|asg U<|nn<|rg<|mv U U<|mv U U<|lnS U underlying123<|z0v U (wi6 oo)<|asg U<|nl<|bn'<|tn<|rg<|z0v U (wi6 oo)<|mv U U<|nl ?_;exact lpE (i+1) (.c4 U U U<|congrArg (λz=>some<|Value.int .i64 z) oo) ⟨q1,oo⟩ oo;obtain rfl:i=ts.length:=by omega
 exact ex<|te<|te<|xh<|tn<|sr<|mv U U<|asg U<|kpL (ll1 2) (csu U)<|nn<|rt<|r1 results168 U ⟨_,rfl,by rw[u2p],q1⟩
theorem z4k:ElemOf prog 30 64 z1g 16:=ElemOf.mk' (z:=(.agg #[.int .u8 0,.int .i64 0])) underlying30 kr U
theorem v4l:z1d prog 155 0 0:=λ_ _=>kr
theorem z7x:z1d prog 155 2 2:=λ_ _=>kr
theorem y0g:z1d prog 155 3 3:=λ_ _=>kr
theorem z6f:z2d prog 30:=λ_=>kr
theorem y0i:z1r prog 64 2:=λ_=>kr
theorem z8q (w:World):(zeroValue 64).run prog w=.ok (.agg #[(.int .u8 0),(.int .i64 0)]) w:=kr
theorem u5h (q:LpQ)(v:Value)(ts:List TQ)(w0:World)(hs:Sl z4w w0 v ts)(hk:TabAt w0 ts)(hl:ts.length=6)(Z:LpAt w0 q)(hv:y7l (z2n ts) q.p):Rets prog 227 #[v,lvv q] w0 λr w'=>r=.bool true/\Fr [] w0 w':=by
 obtain⟨A,c,rfl,b7,hM,hA⟩:=id hs;clear hA;unfold maxLen at hM;have d9:=z7d hk;have d1:=z2c Z.1;have d3:=z2c Z.2;have hb:q.b=0\/q.b=1:=hv.1;have d5:q.ths.length<=4:=hv.2.1.1;have d6:q.pas.length<=4096:=hv.2.1.2;have b3:∀p∈q.pas,z6k p.d:=hv.2.2.2.1;have d7:(z5f [] q.pas).length=q.pas.length:=hv.2.2.2.2;have a9:∀i,i<q.ths.length->z5e (z2n ts) (q.ths.getD i id0):=λi hi=>hv.2.2.1 _<|l56 _<|z0z hi;have a8:∀i,i<q.pas.length->z5e (z2n ts) (q.pas.getD i pa0).id:=λi hi=>hv.2.2.1 _<|l66 _<|l86<|z0z hi;have d4:=y1h ts;refine we [(0,.slice A ts.length c),(1,lvv q)] func227 U ntmps227 U (.c2 U U) ?_;have b0:=hs;have a7:=hk;have a1:=Z;refine sr<|bx U<|λg3 w1 b8 D q1 z1=>(asg U<|nn<|sq<|sq<|rbo (r:=16) (L':=ll2 0 3) (((q.b≠0)/\(q.b≠1))) (csu U) ?_ ?_);refine fad U v4l<|z0j U D U x8d<|ne' U<|mv U U<|gs 12 U (λg0=>?_)<|λg0=>?_;exact gY U<|fad U v4l<|gY U<|z0j U D U x8d<|gY U<|ne' U<|pkt U<|rbe U<|csu U;exact gN U<|gN U<|gN U<|pkf U<|rbe U<|csu U;refine tn<|cd U (λc0=>?_)<|λc0=>?_;refine sr<|asg U<|nn<|rt<|tr<|r1 results227 U ?_;exfalso;omega;refine sk<|tn<|sq<|sq<|rbo (r:=26) (L':=ll2 0 3) (((4<(q.th.2.1:Int))\/(4096<(q.pa.2.1:Int)))) (csu U) ?_ ?_;refine fad U z7x<|z0j U D U z6f<|lnS U underlying30<|gt' U<|mv U U<|gs 21 U (λg1=>?_)<|λg1=>?_;exact gN U<|gN U<|gN U<|gN U<|pkt U<|rbe U<|csu U;exact gY U<|fad U y0g<|gY U<|z0j U D U y0w<|gY U<|lnS U underlying102<|gY U<|gt' U<|pkf U<|rbe U<|csu U;refine tn<|cd U (λc1=>?_)<|λc1=>?_;refine sr<|asg U<|nn<|rt<|tr<|r1 results227 U ?_;exfalso;omega;refine sk<|tn<|sq<|sr<|fad U z7x<|z0j U D U z6f<|lnS U underlying30<|mv U U<|nn<|bl<|lpK (ι:=Nat) (ll4 0 3 28 29) (λi=>[(30,.int .i64 (i:Int))]) (λi w'=>Fr [] w1 w'/\i<=q.ths.length) (λi=>q.ths.length-i) 0 (csu U) ⟨l12 _ _,l17 _⟩ ?_;rintro i w2 ⟨q2,hi⟩;have z2:=q2.size;refine kpC (ll5 0 3 28 29 30) (csu U)<|sr<|lt' U<|nn<|sq<|cd U (λc2=>?_)<|λc2=>?_;refine sk<|tn<|sq<|bl<|sr ?_;have Z:=a1.ext<|q1.n1 q2;refine z1b (id0) U Z.1 U z4k z1j<|λb4 a5=>?_;refine z1q U (a5 _ Z.1) z2z<|al z8q U<|λg6 w3 b9 a2 q3 z3=>(z0i (vs:=[_,_]) U a2 y0i<|λw4 a2 q4 z4=>(nn<|sr<|mv U U<|z0k U a2 z2z ?_));have hs:=b0.ext<|q1.z3 q2 q3 q4;have hk:=a7.ext<|q1.z3 q2 q3 q4;refine cl (ev2 U) (mkC func242) (v9t (q.ths.getD i id0) _ _ _ hs hk oo (by have h:=a9 i oo;have:=h.1;have:=h.2.1;omega)) U ?_;rintro _ w5 ⟨rfl,q5⟩;have z5:=q5.size;refine nt' U<|nn<|cd U (λc3=>?_)<|λc3=>?_;exact sr<|asg U<|kpL (ll1 4) (csu U)<|nn<|rt<|rb<|tr<|tr<|rb<|tr<|r1 results227 U<|absurd (a9 i oo) (by simpa using c3);exact sk<|bn'<|tn<|rg<|z0v U (wi6 oo)<|mv U U<|nl<|lpE (i+1) (csu U) ⟨(q2.z3 q3 q4 q5),oo⟩ oo;obtain rfl:i=q.ths.length:=by omega
 refine ex<|te<|te<|xh<|tn<|sq<|sr<|fad U y0g ?_;have D:=D.ext q2;refine z0j U D U y0w<|lnS U underlying102<|mv U U<|nn<|bl<|lpK (ι:=Nat) (ll4 0 3 40 41) (λi=>[(42,.int .i64 (i:Int))]) (λi w'=>Fr [] w2 w'/\i<=q.pas.length) (λi=>q.pas.length-i) 0 (csu U) ⟨l12 _ _,l17 _⟩ ?_;rintro i w6 ⟨q6,hi⟩;have z6:=q6.size;refine kpC (ll5 0 3 40 41 42) (csu U)<|sr<|lt' U<|nn<|sq<|cd U (λc4=>?_)<|λc4=>?_;have e0:(q.pas.getD i pa0).d=0\/(q.pas.getD i pa0).d=1:=b3 _<|z0z oo;have d0:=a8 i oo;refine sk<|tn<|sq<|bl<|sr ?_;have Z:=a1.ext<|q1.n2 q2 q6;refine z1b (pa0) U Z.2 U z4v z1j<|λb5 a6=>?_;refine z1q U (a6 _ Z.2) z9k<|al x1c U<|λg8 w7 c9 O q7 z7=>(z0i (vs:=[_,_,_,_]) U O x2q<|λw8 O q8 z8=>(nn<|sq<|v4b (r:=60) (L':=ll5 0 3 40 41 42) (((¬z5e (z2n ts) (q.pas.getD i pa0).id)\/(((q.pas.getD i pa0).d≠0)/\((q.pas.getD i pa0).d≠1)))) (csu U) ?_ ?_));refine mv U U<|fad U x6i<|z1v (vs:=[_,_]) U O z2z U ?_;have hs:=b0.ext<|q1.z4 q2 q6 q7 q8;have hk:=a7.ext<|q1.z4 q2 q6 q7 q8;refine cl (ev2 U) (mkC func242) (v9t (q.pas.getD i pa0).id _ _ _ hs hk oo (by have h:=a8 i oo;have:=h.1;have:=h.2.1;omega)) U ?_;rintro _ w9 ⟨rfl,q9⟩;have z9:=q9.size;refine nt' U<|mv U U<|gs 51 U (λg2=>?_)<|λg2=>?_;exact gN U<|gN U<|gN U<|gN U<|gS U<|gS U<|gS U<|gN U<|pkt U<|y1y U (csu U) q9;refine gY U<|fad U z8w<|gY U ?_;have O:=O.ext q9;refine z0j U O U x2d<|gY U<|ne' U<|gY U<|mv U U<|gs 55 U (λg3=>?_)<|λg3=>?_;exact gY U<|fad U z8w<|gY U<|z0j U O U x2d<|gY U<|ne' U<|gY U<|pkt U<|pkf U<|y1y U (csu U) q9;exact gN U<|gN U<|gN U<|gY U<|pkf U<|pkf U<|y1y U (csu U) q9;intro e3 b1;have e5:=b1.size;refine tn<|cd U (λc5=>?_)<|λc5=>?_;refine sr<|asg U<|kpL (ll1 4) (csu U)<|nn<|rt<|rb<|tr<|tr<|rb<|tr<|r1 results227 U ?_;exact(by exfalso;first|omega|(simp_all;done)|(simp_all;omega));exact sk<|bn'<|tn<|rg<|z0v U (wi6 oo)<|mv U U<|nl<|lpE (i+1) (csu U) ⟨(q6.z3 q7 q8 b1),oo⟩ oo;obtain rfl:i=q.pas.length:=by omega
 refine ex<|te<|te<|xh<|tn<|sq ?_;have Z:=a1.ext<|q1.n2 q2 q6;intro a h;refine z0h none (λwb w'=>Fr [] wb w') z2r ?_;intro b2 a0;have e6:=a0.size;have Z:=Z.ext a0;have D:=D.ext<|q6.n1 a0;have hC:Fr [] b2 b2:=l12 _ _;have a4:=Z;have I:=D;refine z0c 0 h U y0g U λa h=>z0m 1 h U (λ_ hw=>I.ext hw) U y0w U λa h=>z0c 4 h U y0g U λa h=>z0m 5 h U (λ_ hw=>I.ext hw) U y0w U λa h=>z7v 6 hC h wn U underlying102 U λa h=>z0d 2 U<|z0n h (z0a U z0f) (mkC func243) (v8n _ q.pas _ Z.2 oo) ?_;rintro _ e4 ⟨b6,rfl,a3⟩ a h;have e7:=a3.size;have hC:=hC.next a3;refine z0b<|z7v 3 hC h wn U underlying102 U λa h=>x4x 7 hC h wn U λa h=>z0d 8 U<|z0q h U λa h=>?_;refine z0b<|z0p ?_;clear hC a4 I;refine bk (h.sub (L':=ll1 4)<|csu U)<|tn<|rt<|r1 results227 U ?_;exact⟨_,rfl,congrArg Value.bool<|decide_eq_true oo,(q1.n4 q2 q6 a0 a3)⟩
theorem x4o:z3y prog 155 4:=⟨λ_=>kr,λ_=>kr⟩
theorem y5t:ElemOf prog 123 155 z7k 56:=ElemOf.mk' (z:=(.agg #[.int .u8 0,.bool false,.slice none 0 0,.slice none 0 0])) underlying123 kr U
theorem j4x:z1d prog 155 1 1:=λ_ _=>kr
theorem v2r:z1r prog 155 4:=λ_=>kr
theorem x6k (w:World):(zeroValue 155).run prog w=.ok (.agg #[(.int .u8 0),(.bool false),(.slice none 0 0),(.slice none 0 0)]) w:=kr
theorem v6f (v:Value)(ts:List TQ)(w0:World)(hs:Sl z4w w0 v ts)(I:TabAt w0 ts)(hl:ts.length=6)(hv:TabOk (z2n ts)):Rets prog 200 #[v] w0 λr w'=>r=.int .i64 0/\Fr [] w0 w':=by
 obtain⟨A,c,rfl,a8,hM,hA⟩:=id hs;clear hA;unfold maxLen at hM;have a5:=z7d I;refine we [(0,.slice A ts.length c)] func200 U ntmps200 U (.cons U .nil) ?_;have a2:=hs;have Z:=I;refine sr<|asg U<|nn<|sq<|sr<|mv U U<|lnS U underlying28<|mv U U<|nn<|bl<|lpK (ι:=Nat) (ll3 0 7 8) (λy=>[(9,.int .i64 (y:Int))]) (λy w'=>Fr [] w0 w'/\y<=ts.length) (λy=>ts.length-y) 0 (csu U) ⟨l12 _ _,l17 _⟩ ?_;rintro y w1 ⟨O,hy⟩;have z1:=O.size;refine kpC (ll4 0 7 8 9) (csu U)<|sr<|lt' U<|nn<|sq<|cd U (λc0=>?_)<|λc0=>?_;have I:=Z.ext O;have b0:=a5 y;have a3:=(I _<|z0z (d:=tq0) (i:=y) oo).1.len_le;unfold maxLen at a3;refine sk<|tn<|sq<|bl<|sr ?_;have hs:=a2.ext O;refine z1b (tq0) U hs U x1r z1j<|λa6 a0=>?_;refine z1c U (a0 _ hs) y2m<|asg U<|nn<|sr<|mv U U<|lnS U underlying123<|mv U U<|nn<|bl<|lpK (ι:=Nat) (ll6 0 7 8 9 13 14) (λn=>[(15,.int .i64 (n:Int))]) (λn w'=>Fr [] w1 w'/\n<=(ts.getD y tq0).2.length) (λn=>(ts.getD y tq0).2.length-n) 0 (csu U) ⟨l12 _ _,l17 _⟩ ?_;rintro n w2 ⟨q2,hn⟩;have z2:=q2.size;refine kpC (ll7 0 7 8 9 13 14 15) (csu U)<|sr<|lt' U<|nn<|sq<|cd U (λc1=>?_)<|λc1=>?_;have a4:n=0->((ts.getD y tq0).2.getD n lq0).nw=true:=λe=>by
  have h:=(hv.rts y oo n (by rw[z3x];omega)).2 e;rw[y3n]at h;exact h
 refine sk<|tn<|sq<|bl<|sr<|mv U U ?_;have I:=Z.ext<|O.n1 q2;refine z1b (lq0) U (I _<|z0z (d:=tq0) (i:=y) oo).1 U y5t z1j<|λa7 a1=>?_;refine z1q U (a1 _ (I _<|z0z (d:=tq0) (i:=y) oo).1) x4o<|al x6k U<|λg6 w3 a9 D q3 z3=>?_;refine asg U<|z0i (vs:=[_,_,_,_]) U D v2r (λw4 D q4 z4=>?_) (h1:=(by first|(simp[Value.oneCell',S];done)|exact z7k.one<|(ts.getD y tq0).2.getD n lq0));refine nn<|sq<|v4b (r:=32) (L':=ll7 0 7 8 9 13 14 15) (((¬(0:Int)=0)\/(((n:Int)=0)/\(¬((ts.getD y tq0).2.getD n lq0).nw=true)))) (csu U) ?_ ?_;refine mv U U<|z0k U D x4o ?_;have hs:=a2.ext<|O.z3 q2 q3 q4;have I:=Z.ext<|O.z3 q2 q3 q4;refine cl (ev2 U) (mkC func227) (u5h ((ts.getD y tq0).2.getD n lq0) _ _ _ hs I hl (z9h I oo oo) (by have h:=(hv.rts y oo n (by rw[z3x];omega)).1;rw[y3n]at h;exact h)) U ?_;rintro _ w5 ⟨rfl,q5⟩;have z5:=q5.size;refine nt' U<|mv U U<|gs 24 U (λg0=>?_)<|λg0=>?_;exact gN U<|gN U<|gN U<|gS U<|gS U<|gS U<|gN U<|pkt U<|y1y U (csu U) q5;refine gY U<|mv U U<|gY U<|eq' U<|gY U<|mv U U<|gs 27 U (λg1=>?_)<|λg1=>?_;refine gY U<|fad U j4x<|gY U ?_;have D:=D.ext q5;exact z0j U D U na4<|gY U<|nt' U<|gY U<|pkt U<|pkf U<|y1y U (csu U) q5;exact gN U<|gN U<|gN U<|gY U<|pkf U<|pkf U<|y1y U (csu U) q5;intro w6 q6;have z6:=q6.size;refine tn<|cd U (λc2=>?_)<|λc2=>?_;refine sr<|asg U<|kpL (ll1 2) (csu U)<|nn<|rt<|rb<|tr<|tr<|rb<|rb<|tr<|tr<|rb<|tr<|r1 results200 U ?_;rcases c2 with h|h
 exact absurd U h;exact absurd (a4 oo) h.2;exact sk<|bn'<|tn<|rg<|z0v U (wi6 oo)<|mv U U<|nl<|lpE (n+1) (csu U) ⟨(q2.z3 q3 q4 q6),oo⟩ oo;obtain rfl:n=(ts.getD y tq0).2.length:=by omega
 exact ex<|te<|te<|xh<|bn'<|tn<|rg<|z0v U (wi6 oo)<|mv U U<|nl<|lpE (y+1) (csu U) ⟨(O.n1 q2),oo⟩ oo;obtain rfl:y=ts.length:=by omega
 exact ex<|te<|te<|xh<|tn<|sr<|asg U<|nn<|rt<|r1 results200 U ⟨_,rfl,rfl,O⟩
theorem k4m (p q:LId)(w:World):(Op.equal 64 (idV p)<|idV q).run prog w=.ok (decide (p=q)) w:=by
 have h:=(k3n p q (.tmp 0) (.tmp 0) w).2.2.1;have e:(binOp .eql 64 (idV p)<|idV q).run prog w=((Op.equal 64 (idV p)<|idV q).run prog w).andThen λb w'=>.ok (.bool b) w':=by
  have e2:binOp .eql 64 (idV p) (idV q)=(Op.equal 64 (idV p) (idV q) >>= λb=>pure<|.bool b):=by
   unfold binOp idV;simp only
  rw[e2];simp only[Sem.run_bind,Sem.run_pure]
 rw[e]at h;generalize (Op.equal 64 (idV p)<|idV q).run prog w=r at h;cases r with
 | ok b w'=>simp only[Result.andThen]at h;cases h;rfl
 | halt x w'=>simp only[Result.andThen]at h;cases h
theorem z6u:KeyLaw prog 64 idV:=KeyLaw.asking underlying64 (λ_ _=>rfl) (λ_ _ _=>kr) k4m (λ_=>by simp[idV,Instr.sameBits])
theorem zvI (w:World):(zeroValue 3).run prog w=.ok (.int .i64 0) w:=kr
theorem j2o (v:Value)(ts:List TQ)(w0:World)(hs:Sl z4w w0 v ts)(Z:TabAt w0 ts)(hl:ts.length=6)(hv:TabV (z2n ts)):Rets prog 201 #[v] w0 λr w'=>r=.int .i64 0/\Fr [] w0 w':=by
 obtain⟨A,c,rfl,d6,hM,hA⟩:=id hs;clear hA;unfold maxLen at hM;have b5:=z7d Z;refine we [(0,.slice A ts.length c)] func201 U ntmps201 U (.cons U .nil) ?_;have b6:=hs;have a3:=Z;refine sr<|asg U<|nn<|sr<|y8a idV (.int .i64 0) U<|λO w1 d1 D q1 z1=>(asg U<|nn<|sq<|sr<|mv U U<|lnS U underlying28<|mv U U<|nn<|bl<|lpK (ι:=Nat) (ll3 3 11 12) (λy=>[(13,.int .i64 (y:Int))]) (λy w'=>Fr [O] w1 w'/\y<=ts.length/\MapZ idV w' O (.int .i64 0) (x0x<|y1a (z2n ts) y 0)) (λy=>ts.length-y) 0 (csu U) ⟨l12 _ _,⟨l17 _,D⟩⟩ ?_);rintro y w2 ⟨q2,⟨hy,D⟩⟩;have z2:=q2.size;refine kpC (ll4 3 11 12 13) (csu U)<|sr<|lt' U<|nn<|sq<|cd U (λc0=>?_)<|λc0=>?_;have Z:=a3.ext<|q1.z1 q2;have e3:=b5 y;have b1:=(Z _<|z0z (d:=tq0) (i:=y) oo).1.len_le;unfold maxLen at b1;refine sk<|tn<|sq<|bl<|sr ?_;have hs:=b6.ext<|q1.z1 q2;refine z1b (tq0) U hs U x1r z1j<|λb9 a8=>?_;refine z1c U (a8 _ hs) y2m<|asg U<|nn<|sr<|mv U U<|lnS U underlying123<|mv U U<|nn<|bl<|lpK (ι:=Nat) (ll6 3 11 12 13 17 18) (λn=>[(19,.int .i64 (n:Int))]) (λn w'=>Fr [O] w2 w'/\n<=(ts.getD y tq0).2.length/\MapZ idV w' O (.int .i64 0) (x0x<|y1a (z2n ts) y n)) (λn=>(ts.getD y tq0).2.length-n) 0 (csu U) ⟨l12 _ _,⟨l17 _,D⟩⟩ ?_;rintro n w3 ⟨q3,⟨hn,D⟩⟩;have z3:=q3.size;refine kpC (ll7 3 11 12 13 17 18 19) (csu U)<|sr<|lt' U<|nn<|sq<|cd U (λc1=>?_)<|λc1=>?_;have Z:=a3.ext<|q1.z2 q2 q3;have e0:=z2c (z9h Z (y:=y) (n:=n) oo oo).1;have b2:=(z9h Z (y:=y) (n:=n) oo oo).1.len_le;unfold maxLen at b2;refine sk<|tn<|sq<|bl<|sr<|z1b (lq0) U (Z _<|z0z (d:=tq0) (i:=y) oo).1 U y5t z1j<|λc9 a9=>?_;refine z1q U (a9 _ (Z _<|z0z (d:=tq0) (i:=y) oo).1) x4o<|al x6k U<|λg7 w4 d7 a2 q4 z4=>?_;refine z0i (vs:=[_,_,_,_]) U a2 v2r (λw5 a2 q5 z5=>?_) (h1:=(by first|(simp[Value.oneCell',S];done)|exact z7k.one<|(ts.getD y tq0).2.getD n lq0));refine nn<|sr<|fad U z7x<|z0j U a2 U z6f<|lnS U underlying30<|mv U U<|nn<|bl ?_;have D:=(D.ext q4).fr q5 t49;refine lpK (ι:=Nat) (ll9 3 11 12 13 17 18 19 24 25) (λk=>[(26,.int .i64 (k:Int))]) (λk w'=>Fr [O] w5 w'/\k<=((ts.getD y tq0).2.getD n lq0).ths.length/\MapZ idV w' O (.int .i64 0) (x0x<|y1a (z2n ts) y n++((ts.getD y tq0).2.getD n lq0).ths.take k)) (λk=>((ts.getD y tq0).2.getD n lq0).ths.length-k) 0 (csu U) ⟨l12 _ _,⟨l17 _,by rw[l98,l27];exact D⟩⟩ ?_;rintro k w6 ⟨q6,⟨Z,D⟩⟩;have z6:=q6.size;refine kpC (ll10 3 11 12 13 17 18 19 24 25 26) (csu U)<|sr<|lt' U<|nn<|sq<|cd U (λc2=>?_)<|λc2=>?_;have b3:=x9g (k:=k) hv.thr (y:=y) (n:=n) oo oo oo;have d5:((y1a (z2n ts) y n++((ts.getD y tq0).2.getD n lq0).ths.take k)).count (((ts.getD y tq0).2.getD n lq0).ths.getD k id0)=0:=by
  have h:=b3;rw[l21,l93,if_pos sp0]at h;omega
 refine sk<|tn<|sq<|bl<|sr ?_;have Z:=a3.ext<|q1.z5 q2 q3 q4 q5 q6;refine z1b (id0) U (z9h Z (y:=y) (n:=n) oo oo).1 U z4k z1j<|λd0 b0=>?_;refine z1q U (b0 _ (z9h Z (y:=y) (n:=n) oo oo).1) z2z<|al z8q U<|λg9 w7 d9 I q7 z7=>?_;refine z0i (vs:=[_,_]) U I y0i (λw8 I q8 z8=>?_) (h1:=(by first|(simp[Value.oneCell',S];done)|exact z7k.one<|(ts.getD y tq0).2.getD n lq0));refine nn<|sq ?_;have D:=(D.ext q7).fr q8 t49;intro a h;refine z0h none (λwb w'=>Fr [O] wb w') z2r ?_;intro w9 q9;have z9:=q9.size;have D:=D.ext q9;have I:=I.ext q9;have hC:Fr [O] w9 w9:=l12 _ _;have a1:=D;have a0:=I;refine z0e 0 h U λa h=>z0x 1 h U (λ_ hw=>a0.fr hw t27) z2z U λa h=>z1w 2 4 kr U ?_ ?_;refine z8b (V:=idV) (z:=(.int .i64 0)) (k:=(((ts.getD y tq0).2.getD n lq0).ths.getD k id0)) (v:=.int .i64 ((((y1a (z2n ts) y n++((ts.getD y tq0).2.getD n lq0).ths.take k)).count (((ts.getD y tq0).2.getD n lq0).ths.getD k id0):Nat):Int)) h U U D z6u underlying240 zvI U U λa h=>z0b<|z6h 3 h U t13 U λa h=>z0d 4 U ?_;have b4:=D.ne_blk I;refine z7o (V:=idV) (z:=(.int .i64 0)) (k:=(((ts.getD y tq0).2.getD n lq0).ths.getD k id0)) h U U D z6u underlying240 zvI U λe4 d3 he a4 e6 a h=>?_;have D:=he.map;have I:=I.fr a4 t27;have hC:=hC.step a4 sp0;refine z0b<|z0l 5 h U λa h=>z0d 6 U<|z6a (V:=idV) (z:=(.int .i64 0)) (k:=(((ts.getD y tq0).2.getD n lq0).ths.getD k id0)) h U U U he ?_;clear h a he D;intro b7 D a5 e7 a h;replace D:MapZ idV b7 O (.int .i64 0) (x0x<|(y1a (z2n ts) y n++((ts.getD y tq0).2.getD n lq0).ths.take k)++[(((ts.getD y tq0).2.getD n lq0).ths.getD k id0)]):=by rw[<-x0h];exact D
 have I:=I.fr a5 t27;have hC:=hC.step a5 sp0;refine z0b<|z0p ?_;clear hC a1 a0;refine bk (h.sub (L':=ll11 3 9 11 12 13 17 18 19 24 25 26)<|csu U)<|tn<|sr<|mv U U<|z0k U I z2z<|y5r (V:=idV) (z:=(.int .i64 0)) (k:=(((ts.getD y tq0).2.getD n lq0).ths.getD k id0)) (v:=.int .i64 ((((y1a (z2n ts) y n++((ts.getD y tq0).2.getD n lq0).ths.take k)++[(((ts.getD y tq0).2.getD n lq0).ths.getD k id0)]).count (((ts.getD y tq0).2.getD n lq0).ths.getD k id0):Nat):Int)) U U D z6u underlying240 zvI U U<|gt' U<|nn<|cd U (λc3=>?_)<|λc3=>?_;refine sr<|asg U<|kpL (ll1 2) (csu U)<|nn<|rt<|rb<|tr<|tr<|rb<|rb<|tr<|tr<|rb<|rb<|tr<|tr<|rb<|tr<|r1 results201 U ?_;exfalso;omega;exact sk<|bn'<|tn<|rg<|z0v U (wi6 oo)<|mv U U<|nl<|lpE (k+1) (csu U) ⟨((l12 [O] _).z6 q6 q7 q8 q9 a4 a5),⟨oo,by rw[z6j id0 oo,<-l14];exact D⟩⟩ oo;have b4:=D.ne_blk I;refine z7o (V:=idV) (z:=(.int .i64 0)) (k:=(((ts.getD y tq0).2.getD n lq0).ths.getD k id0)) h U U D z6u underlying240 zvI U λe5 d4 he a6 e8 a h=>?_;have D:=he.map;have I:=I.fr a6 t27;have hC:=hC.step a6 sp0;refine z0b<|z0l 5 h U λa h=>z0d 2 U<|z8b (V:=idV) (z:=(.int .i64 0)) (k:=(((ts.getD y tq0).2.getD n lq0).ths.getD k id0)) (v:=.int .i64 ((((y1a (z2n ts) y n++((ts.getD y tq0).2.getD n lq0).ths.take k)).count (((ts.getD y tq0).2.getD n lq0).ths.getD k id0):Nat):Int)) h U U D z6u underlying240 zvI U U λa h=>?_;refine z0b<|z6h 3 h U t13 U λa h=>z0d 6 U<|z6a (V:=idV) (z:=(.int .i64 0)) (k:=(((ts.getD y tq0).2.getD n lq0).ths.getD k id0)) h U U U he ?_;clear h a he D;intro b8 D a7 e9 a h;replace D:MapZ idV b8 O (.int .i64 0) (x0x<|(y1a (z2n ts) y n++((ts.getD y tq0).2.getD n lq0).ths.take k)++[(((ts.getD y tq0).2.getD n lq0).ths.getD k id0)]):=by rw[<-x0h];exact D
 have I:=I.fr a7 t27;have hC:=hC.step a7 sp0;refine z0b<|z0p ?_;clear hC a1 a0;refine bk (h.sub (L':=ll11 3 9 11 12 13 17 18 19 24 25 26)<|csu U)<|tn<|sr<|mv U U<|z0k U I z2z<|y5r (V:=idV) (z:=(.int .i64 0)) (k:=(((ts.getD y tq0).2.getD n lq0).ths.getD k id0)) (v:=.int .i64 ((((y1a (z2n ts) y n++((ts.getD y tq0).2.getD n lq0).ths.take k)++[(((ts.getD y tq0).2.getD n lq0).ths.getD k id0)]).count (((ts.getD y tq0).2.getD n lq0).ths.getD k id0):Nat):Int)) U U D z6u underlying240 zvI U U<|gt' U<|nn<|cd U (λc3=>?_)<|λc3=>?_;refine sr<|asg U<|kpL (ll1 2) (csu U)<|nn<|rt<|rb<|tr<|tr<|rb<|rb<|tr<|tr<|rb<|rb<|tr<|tr<|rb<|tr<|r1 results201 U ?_;exfalso;omega;exact sk<|bn'<|tn<|rg<|z0v U (wi6 oo)<|mv U U<|nl<|lpE (k+1) (csu U) ⟨((l12 [O] _).z6 q6 q7 q8 q9 a6 a7),⟨oo,by rw[z6j id0 oo,<-l14];exact D⟩⟩ oo;obtain rfl:k=((ts.getD y tq0).2.getD n lq0).ths.length:=by omega
 rw[l39]at D;exact ex<|te<|te<|xh<|bn'<|tn<|rg<|z0v U (wi6 oo)<|mv U U<|nl<|lpE (n+1) (csu U) ⟨((l12 [O] _).z4 q3 q4 q5 q6),⟨oo,by rw[y9a oo];exact D⟩⟩ oo;obtain rfl:n=(ts.getD y tq0).2.length:=by omega
 exact ex<|te<|te<|xh<|bn'<|tn<|rg<|z0v U (wi6 oo)<|mv U U<|nl<|lpE (y+1) (csu U) ⟨((l12 [O] _).z2 q2 q3),⟨oo,by rw[y9e oo];exact D⟩⟩ oo;obtain rfl:y=ts.length:=by omega
 exact ex<|te<|te<|xh<|tn<|sr<|asg U<|nn<|rt<|r1 results201 U ⟨_,rfl,rfl,(q1.z1 q2)⟩
theorem v5u (q:LpQ)(n:Int)(w0:World)(O:LpAt w0 q)(h0:0<=n)(hn:n.toNat<(z5m q.p).length)(hb:q.ths.length<=4/\q.pas.length<=4096):Rets prog 228 #[lvv q,.int .i64 n] w0 λr w'=>r=(ivv<|(z5m q.p).getD n.toNat id0)/\Fr [] w0 w':=by
 have a7:=z2c O.1;have a8:=z2c O.2;have a2:=O.1.len_le;unfold maxLen at a2;have a9:=v1y q;refine we [(0,lvv q),(1,.int .i64 n)] func228 U ntmps228 U (.c2 U U) ?_;have Z:=O;refine sr<|bx U<|λg2 w1 a5 D q1 z1=>(al z8q U<|λg4 w2 a6 I q2 z2=>(nn<|sq<|sr<|mv U U<|fad U z7x ?_));have D:=D.ext q2;refine z0j U D U z6f<|lnS U underlying30<|lt' U<|nn<|cd U (λc0=>?_)<|λc0=>?_;refine sr<|fad U z7x<|z0j U D U z6f<|mv U U ?_;have O:=Z.ext<|q1.n1 q2;refine z1b (p:=n.toNat) (id0) U O.1 U z4k oo<|λa3 a0=>?_;refine z1q U (a0 _ O.1) z2z<|z0i (vs:=[_,_]) U I y0i (λw3 I q3 z3=>?_) (h1:=t23);exact kpL (ll1 4) (csu U)<|nn<|rt<|tr<|rC results228 U I z2z  ⟨_,rfl,by rw[j6e oo],(q1.z2 q2 q3)⟩;refine sk<|tn<|sr<|fad U y0g<|z0j U D U y0w<|mv U U<|fad U z7x<|z0j U D U z6f<|lnS U underlying30<|z2j U (wi6 oo) ?_;have O:=Z.ext<|q1.n1 q2;refine z1b (p:=(n.toNat-q.ths.length)) (pa0) U O.2 U z4v oo<|λa4 a1=>?_;refine fad U x6i<|z1q U (v3v (vs:=[_,_]) (a1 _ O.2) U) z2z<|z0i (vs:=[_,_]) U I y0i (λw4 I q4 z4=>?_) (h1:=t23);exact kpL (ll1 4) (csu U)<|nn<|rt<|rC results228 U I z2z  ⟨_,rfl,by rw[j1z oo hn],(q1.z2 q2 q4)⟩
theorem k5v:BuildAt prog 64 [(0,1),(1,1)] [(.int .u8 0),(.int .i64 0)]:=BuildAt.struct underlying64 (λ_=>kr)<|λ_=>kr
theorem y0j:ElemOf prog 22 3 Enc.i64 8:=ElemOf.mk' (z:=(.int .i64 0)) underlying22 kr U
theorem zv3 (w:World):(zeroValue 3).run prog w=.ok (.int .i64 0) w:=kr
theorem x9r {α β:Type}{E:Enc α}{O:Enc β}{T T' b b':Nat}{w:World}{v I:Value}{l:List α}{l':List β}(h:Lw.Own E T b w v l)(Z:Lw.Own O T' b' w I l')(hT:T'≠T):∀k∈z0u v,k∉z0u I:=λk hk D=>by
 obtain⟨cs,hb⟩:=z9z h k hk
 exact Z.neB hb hT D
theorem u4v (v:Value)(ts:List TQ)(w0:World)(hs:Sl z4w w0 v ts)(D:TabAt w0 ts)(hl:ts.length=6)(hv:TabV (z2n ts)):Rets prog 202 #[v] w0 λr w'=>∃l,Lw.Own z1g 64 w0.heap.size w' r l/\l.length=z4o (z2n ts)/\Fr [] w0 w':=by
 obtain⟨A,c,rfl,l8,hM,hA⟩:=id hs;clear hA;unfold maxLen at hM;have i4:=z7d D;have hH:=hv.has;have l9:z4o (z2n ts)<=2048:=hv.ok.cnt;have h2:=y1h ts;refine we [(0,.slice A ts.length c)] func202 U ntmps202 U (.cons U .nil) ?_;have i5:=hs;have g9:=D;refine sr<|asg U<|nn<|sr<|mv U U<|cl (ev1 U) (mkC func168) (y4u _ _ _ hs D oo) U ?_;rintro _ w1 ⟨rfl,q1⟩;have z1:=q1.size;refine asg U<|nn<|sr<|mv U U<|z1f (m:=0) (c:=z4o<|z2n ts) (id0) U z4k z8q U<|λl1 w2 k1 hR q2 z2=>(asg U<|nn<|sr<|mv U U<|lnS U underlying28<|z1f (m:=ts.length) (c:=ts.length) ((0:Int)) U y0j zv3 U<|λa4 w3 k2 hM q3 z3=>(asg U<|nn<|sr<|mv U U<|lnS U underlying28<|z1f (m:=ts.length) (c:=ts.length) ((0:Int)) U y0j zv3 U<|λa1 w4 k4 Z q4 z4=>?_));refine asg U<|nn<|sq<|bl ?_;have hR:=hR.ext<|q3.n1 q4;have hM:=hM.ext q4;refine lpK (ι:=Value×List Int×List Int×List LId) (ll4 0 3 5 6) (λp=>[(4,p.1)]) (λp w'=>Fr [] w0 w'/\FstI (z2n ts) p.2.1 p.2.2.1 p.2.2.2.length/\Lw.Own z1g 64 w0.heap.size w' p.1 p.2.2.2/\Lw.Own Enc.i64 3 w0.heap.size w' (.slice (saa a4) ts.length ts.length) p.2.1/\Lw.Own Enc.i64 3 w0.heap.size w' (.slice (saa a1) ts.length ts.length) p.2.2.1) (λp=>z4o (z2n ts)-p.2.2.2.length) (_,List.replicate ts.length 0,List.replicate ts.length 0,[]) (csu U) ⟨(q1.n3 q2 q3 q4),⟨by simp only;rw[hl];exact FstI.init,by simpa using hR.low oo,hM.low oo,Z.low oo⟩⟩ ?_;rintro⟨vR,ms,uu,l⟩ w5 ⟨q5,⟨hF,hR,hM,Z⟩⟩;simp only at hF hR hM Z;have z5:=q5.size;refine kpC [(0,_),(3,_),(5,_),(6,_),(4,vR)] (csu U) ?_;have a9:a4∉z0u vR:=λh=>x9r hR hM dd a4 h<|l11.2 U;have b0:a1∉z0u vR:=λh=>x9r hR Z dd a1 h<|l11.2 U;have l3:=(hM.blk a4<|l11.2 U).2;have l4:=(Z.blk a1<|l11.2 U).2;obtain⟨AR,cR,rfl,l7⟩:=hR.sl.form;refine sq<|sr<|mv U U<|lnS U underlying30<|mv U U<|lt' U<|nn<|cd U (λc0=>?_)<|λc0=>?_;refine sk<|tn<|bl<|sc<|sr<|mv U U<|lnS U underlying30<|asg U<|nn<|sq<|lb<|tn<|sq<|sr<|mv U U<|lnS U underlying28<|mv U U<|nn<|bl<|lpK (ι:=Nat×List Int) (ll8 0 3 4 5 6 7 28 29) (λp=>[(30,.int .i64 (p.1:Int))]) (λp w'=>Fr [a1] w5 w'/\p.1<=6/\FstI (z2n ts) ms p.2 l.length/\(∀z,z<p.1->v6h (z2n ts) ms z)/\Lw.Own Enc.i64 3 w0.heap.size w' (.slice (saa a1) ts.length ts.length) p.2) (λp=>6-p.1) (0,uu) (csu U) ⟨l12 _ _,⟨l17 _,hF,λz h=>absurd h sp0,Z⟩⟩ ?_;rintro⟨y,vs⟩ w6 ⟨q6,⟨hy,hF,e6,Z⟩⟩;simp only at hy hF e6 Z;have z6:=q6.size;refine kpC [(0,_),(3,_),(4,_),(5,_),(6,_),(7,_),(28,_),(29,_),(30,.int .i64 (y:Int))] (csu U)<|sr<|lt' U<|nn<|sq<|cd U (λc1=>?_)<|λc1=>?_;have D:=g9.ext<|q5.z1 q6;have a6:y<6:=by omega
 have m1:=i4 y;have h0:=hF.lm;have i2:=hF.mb y a6;have i0:=(D _<|z0z (d:=tq0) (i:=y) oo).1.len_le;unfold maxLen at i0;refine sk<|tn<|sq<|bl<|sr<|mv U U ?_;have hs:=i5.ext<|q5.z1 q6;refine z1b (tq0) U hs U x1r z1j<|λj2 f8=>?_;refine z1c U (f8 _ hs) y2m<|asg U<|asg U<|nn<|sq<|sr<|mv U U<|mv U U ?_;have hM:=hM.fr q6 (by intro k D I;have D:=l11.1 D;have I:=l11.1 (show k∈[a4] from I);omega);refine z1b (0) U hM.sl U y0j z1j<|λj3 f9=>?_;refine z1c U (f9 _ hM.sl) na3<|mv U U<|lnS U underlying123<|eq' U<|kpL (ll12 0 3 4 5 6 7 8 9 28 29 30 41) (csu U)<|nn<|cd U (λc2=>?_)<|λc2=>?_;have e5:v6h (z2n ts) ms y:=.inl (by rw[z3x];omega);refine ex<|te<|xh<|tn<|rg<|z0v U (wi6 oo)<|mv U U<|nl ?_;exact lpE ((y+1,_)) (csu U) ⟨((l12 [a1] _).z1 q6),⟨sm,hF,λz h=>(by
  by_cases e:z<y;exact e6 z e;obtain rfl:z=y:=by simp only at h;omega
  exact e5),Z⟩⟩ sm
 have d9:ms.getD y 0<(z3e (z2n ts) y:Int):=by rw[z3x];rw[z3x]at i2;omega
 have b4:(ms.getD y 0).toNat<(ts.getD y tq0).2.length:=by rw[z3x]at d9;omega
 have e3:nd (z2n ts) y (ms.getD y 0)=z5m ((ts.getD y tq0).2.getD (ms.getD y 0).toNat lq0).p:=by unfold nd;rw[y3n]
 have h3:=v1y<|(ts.getD y tq0).2.getD (ms.getD y 0).toNat lq0;have b5:=(hv.ok.rts y a6 _ (by rw[z3x];exact b4)).1;rw[y3n]at b5;have k7:=z2c (z9h D (y:=y) (n:=(ms.getD y 0).toNat) oo b4).1;have k8:=z2c (z9h D (y:=y) (n:=(ms.getD y 0).toNat) oo b4).2;have l5:((ts.getD y tq0).2.getD (ms.getD y 0).toNat lq0).ths.length<=4:=b5.2.1.1;have l6:((ts.getD y tq0).2.getD (ms.getD y 0).toNat lq0).pas.length<=4096:=b5.2.1.2;refine sk<|tn<|sr<|mv U U<|mv U U<|mv U U<|z1b (0) U hM.sl U y0j z1j<|λj4 g0=>?_;refine z1c U (g0 _ hM.sl) na3<|z1b (lq0) U (D _<|z0z (d:=tq0) (i:=y) oo).1 U y5t z1j<|λj5 g1=>?_;refine z1q U (g1 _ (D _<|z0z (d:=tq0) (i:=y) oo).1) x4o<|al x6k U<|λf7 w7 k0 O q7 z7=>?_;refine z0i (vs:=[_,_,_,_]) U O v2r (λw8 O q8 z8=>?_) (h1:=(by first|(simp[Value.oneCell',S];done)|exact z7k.one<|(ts.getD y tq0).2.getD (ms.getD y 0).toNat lq0|exact z1g.one<|(z5m ((ts.getD y tq0).2.getD (ms.getD y 0).toNat lq0).p).getD (xs.getD y 0).toNat id0));refine kpL (ll11 0 3 4 5 6 7 8 10 28 29 30) (csu U)<|nn<|sq<|bl ?_;have Z:=(Z.ext q7).fr q8 (by intro k D I;have D:=l11.1 D;have I:=l11.1 (show k∈[a1] from I);omega);refine lpK (ι:=List Int) (ll11 0 3 4 5 6 7 8 10 28 29 30) (λp=>[]) (λp w'=>Fr [a1] w8 w'/\FstI (z2n ts) ms p l.length/\Lw.Own Enc.i64 3 w0.heap.size w' (.slice (saa a1) ts.length ts.length) p) (λp=>(z5m ((ts.getD y tq0).2.getD (ms.getD y 0).toNat lq0).p).length-(p.getD y 0).toNat) vs (csu U) ⟨l12 _ _,⟨hF,Z⟩⟩ ?_;rintro xs w9 ⟨q9,⟨hF,Z⟩⟩;have z9:=q9.size;refine kpC (ll11 0 3 4 5 6 7 8 10 28 29 30) (csu U) ?_;have h5:=hF.tb y a6;have h0:=hF.lm;have m0:=hF.lt;refine sq<|sq ?_;have O:=O.fr q9;intro a h;refine z0h none (λwb w'=>Fr [] wb w') z2r ?_;intro h7 a5;have n8:=a5.size;have O:=O.ext a5;have Z:=Z.ext a5;have hC:Fr [] h7 h7:=l12 _ _;have a2:=O;have a8:=Z;refine z0e 0 h U λa h=>z0e 1 h U λa h=>z1e (0) 2 h U Z.sl U y0j U ?_ (hp:=rfl);intro j6 g3 a h;refine z2g 3 h U (λ_ hw=>g3 _<|a8.sl.ext hw) na3 U λa h=>z0c 4 h U z7x U λa h=>z0m 5 h U (λ_ hw=>a2.ext hw) U z6f U λa h=>z7v 6 hC h wn U underlying30 U λa h=>z0c 7 h U y0g U λa h=>z0m 8 h U (λ_ hw=>a2.ext hw) U y0w U λa h=>z7v 9 hC h wn U underlying102 U λa h=>z6h 10 h U t13 U λa h=>v3q 11 hC h wn U U λa h=>z0p ?_;clear hC a2 a8;refine bk (h.sub (L':=ll12 0 3 4 5 6 7 8 10 28 29 30 60)<|csu U)<|tn<|cd U (λc3=>?_)<|λc3=>?_;have f0:xs.getD y 0<IntKind.i64.wrap ((((ts.getD y tq0).2.getD (ms.getD y 0).toNat lq0).th.2.1:Int)+(((ts.getD y tq0).2.getD (ms.getD y 0).toNat lq0).pa.2.1:Int)):=c3;rw[IntWalk.i64_in _ oo]at f0;have e4:(xs.getD y 0).toNat<(z5m ((ts.getD y tq0).2.getD (ms.getD y 0).toNat lq0).p).length:=by rw[h3];omega
 have g7:z5e (z2n ts) ((z5m ((ts.getD y tq0).2.getD (ms.getD y 0).toNat lq0).p).getD (xs.getD y 0).toNat id0):=b5.2.2.1 _<|z0z e4;have k6:=g7.1;have g8:=g7.2.1;rw[h2]at g8;have h0:=hF.lm;refine sk<|tn<|bl<|sq<|sq ?_;have D:=g9.ext<|q5.z5 q6 q7 q8 q9 a5;intro a h;refine z0h none (λwb w'=>Fr [] wb w') z2r ?_;intro f4 a7;have n9:=a7.size;have D:=D.ext a7;have O:=O.ext a7;have Z:=Z.ext a7;have hC:Fr [] f4 f4:=l12 _ _;have e9:=D;have a2:=O;have a8:=Z;refine z0x 0 h U (λ_ hw=>a2.ext hw) x4o U λa h=>z0e 1 h U λa h=>z0e 2 h U λa h=>z1e (0) 3 h U Z.sl U y0j U ?_ (hp:=rfl);intro j7 g4 a h;refine z2g 4 h U (λ_ hw=>g4 _<|a8.sl.ext hw) na3 U λa h=>z1w 5 6 kr U ?_ ?_;refine z0n h (z0a U<|z0a U z0f) (mkC func228) (v5u ((ts.getD y tq0).2.getD (ms.getD y 0).toNat lq0) (xs.getD y 0) _ (z9h D (y:=y) (n:=(ms.getD y 0).toNat) oo b4) h5 e4 ⟨b5.2.1.1,b5.2.1.2⟩) ?_;rintro _ i9 ⟨rfl,b6⟩ a h;have o0:=b6.size;have O:=O.ext b6;have hC:=hC.next b6;refine z0b<|z0d 6 U<|z0w h z8q U λm2 a0 b7 hz a h=>?_;obtain⟨b2,hg⟩:∃g,g=i9.heap.size:=⟨_,rfl⟩;rw[<-hg]at a0 h hz;have e0:f7<b2:=by have:=O.lt;omega
 have o1:=b7.size;have D:=D.ext<|b6.n1 b7;have O:=O.ext b7;have Z:=Z.ext<|b6.n1 b7;have hC:=hC.next b7;refine z0b<|z0d 7 U<|z0t h U a0 U y0i ?_ (h1:=(by first|(simp[Value.oneCell',S];done)|exact z7k.one<|(ts.getD y tq0).2.getD (ms.getD y 0).toNat lq0|exact z1g.one<|(z5m ((ts.getD y tq0).2.getD (ms.getD y 0).toNat lq0).p).getD (xs.getD y 0).toNat id0));intro j0 d4 b9 hz a h;have o2:=b9.size;have O:=O.fr b9;have Z:=Z.fr b9 (by intro k D I;have D:=l11.1 D;have I:=l11.1 (show k∈[a1] from I);omega);have hC:=hC.sp b9;have a0:Blk j0 b2 _ [_,_]:=d4;clear d4;refine z0b<|z0p ?_;clear hC e9 a2 a8;refine bk (h.sub (L':=ll12 0 3 4 5 6 7 8 10 11 28 29 30)<|csu U)<|tn<|sq ?_;have hM:=((((hM.ext q7).fr q8 (by intro k D I;have D:=l11.1 D;have I:=l11.1 (show k∈[a4] from I);omega)).fr q9 (by intro k D I;have D:=l11.1 D;have I:=l11.1 (show k∈[a4] from I);omega)).ext<|a5.n3 a7 b6 b7).fr b9 (by intro k D I;have D:=l11.1 D;have I:=l11.1 (show k∈[a4] from I);omega);intro a h;refine z0h none (λwb w'=>Fr [] wb w') z2r ?_;intro h8 c9;have o3:=c9.size;have hM:=hM.ext c9;have a0:=a0.ext c9;have hC:Fr [] h8 h8:=l12 _ _;have b3:=hM;have a3:=a0;refine z0c 0 h U y1b U λa h=>z0m 1 h U (λ_ hw=>a3.ext hw) U na3 U λa h=>z0e 2 h U λa h=>z0c 3 h U z9b U λa h=>z0m 4 h U (λ_ hw=>a3.ext hw) U na5 U λa h=>z2v 5 h U t19 U λa h=>z1e (0) 6 h U hM.sl U y0j U ?_ (hp:=rfl);intro f5 d5 a h;refine z2g 7 h U (λ_ hw=>d5 _<|b3.sl.ext hw) na3 U λa h=>u3l 8 hC h wn U U U U λa h=>z0p ?_;clear hC b3 a3;refine bk (h.sub (L':=ll12 0 3 4 5 6 7 8 10 28 29 30 75)<|csu U)<|tn<|cd U (λc4=>?_)<|λc4=>?_;have e5:v6h (z2n ts) ms y:=.inr ⟨d9,((z5m ((ts.getD y tq0).2.getD (ms.getD y 0).toNat lq0).p).getD (xs.getD y 0).toNat id0),by rw[e3];exact z0z e4,by unfold InM;omega⟩;refine ex<|te<|xo U<|te<|xo U<|te<|xh<|tn<|rg<|z0v U (wi6 oo)<|mv U U<|nl ?_;have Z:=Z.ext c9;exact lpE ((y+1,_)) (csu U) ⟨((((l12 [a1] _).z6 q6 q7 q8 q9 a5 a7).n1 b6).z3 b7 b9 c9),⟨sm,hF,λz h=>(by
  by_cases e:z<y;exact e6 z e;obtain rfl:z=y:=by simp only at h;omega
  exact e5),Z⟩⟩ sm
 have d3:=hF.there a6 (by rw[e3];unfold InM;omega);refine sk<|tn<|rg<|mv U U<|mv U U ?_;have Z:=Z.ext c9;refine z1b (0) U Z.sl U y0j z1j<|λf6 d6=>?_;refine z1c U (d6 _ Z.sl) na3<|z0v U (wi6 oo)<|z5p (p:=y) (E:=Enc.i64) U y0j<|z3i (i:=y) (xs.getD y 0+1) U Z (by rw[hF.lt];exact a6) U sz3<|λm3 Z i7 o4=>?_;exact kpL (ll11 0 3 4 5 6 7 8 10 28 29 30) (csu U)<|nl<|bn'<|lpE (_) (csu U) ⟨((((l12 [a1] _).z6 q9 a5 a7 b6 b7 b9).n1 c9).z1 i7),⟨d3,Z⟩⟩ (by rw[z5g (by rw[hF.lt];exact a6),if_pos U];omega);refine z0w h z8q U λm4 a0 b8 hz a h=>?_;obtain⟨b2,hg⟩:∃g,g=f4.heap.size:=⟨_,rfl⟩;rw[<-hg]at a0 h hz;have e0:f7<b2:=by have:=O.lt;omega
 have o5:=b8.size;have D:=D.ext b8;have hC:=hC.next b8;refine z0b<|z0d 5 U<|z0n h (z0a U<|z0a U z0f) (mkC func228) (v5u ((ts.getD y tq0).2.getD (ms.getD y 0).toNat lq0) (xs.getD y 0) _ (z9h D (y:=y) (n:=(ms.getD y 0).toNat) oo b4) h5 e4 ⟨b5.2.1.1,b5.2.1.2⟩) ?_;rintro _ m5 ⟨rfl,b1⟩ a h;have o6:=b1.size;have D:=D.ext b1;have O:=O.ext<|b8.n1 b1;have Z:=Z.ext<|b8.n1 b1;have a0:=a0.ext b1;have hC:=hC.next b1;refine z0b<|z0d 7 U<|z0t h U a0 U y0i ?_ (h1:=(by first|(simp[Value.oneCell',S];done)|exact z7k.one<|(ts.getD y tq0).2.getD (ms.getD y 0).toNat lq0|exact z1g.one<|(z5m ((ts.getD y tq0).2.getD (ms.getD y 0).toNat lq0).p).getD (xs.getD y 0).toNat id0));intro j1 d4 d0 hz a h;have o7:=d0.size;have O:=O.fr d0;have Z:=Z.fr d0 (by intro k D I;have D:=l11.1 D;have I:=l11.1 (show k∈[a1] from I);omega);have hC:=hC.sp d0;have a0:Blk j1 b2 _ [_,_]:=d4;clear d4;refine z0b<|z0p ?_;clear hC e9 a2 a8;refine bk (h.sub (L':=ll12 0 3 4 5 6 7 8 10 11 28 29 30)<|csu U)<|tn<|sq ?_;have hM:=((((hM.ext q7).fr q8 (by intro k D I;have D:=l11.1 D;have I:=l11.1 (show k∈[a4] from I);omega)).fr q9 (by intro k D I;have D:=l11.1 D;have I:=l11.1 (show k∈[a4] from I);omega)).ext<|a5.n3 a7 b8 b1).fr d0 (by intro k D I;have D:=l11.1 D;have I:=l11.1 (show k∈[a4] from I);omega);intro a h;refine z0h none (λwb w'=>Fr [] wb w') z2r ?_;intro h9 d1;have o8:=d1.size;have hM:=hM.ext d1;have a0:=a0.ext d1;have hC:Fr [] h9 h9:=l12 _ _;have b3:=hM;have a3:=a0;refine z0c 0 h U y1b U λa h=>z0m 1 h U (λ_ hw=>a3.ext hw) U na3 U λa h=>z0e 2 h U λa h=>z0c 3 h U z9b U λa h=>z0m 4 h U (λ_ hw=>a3.ext hw) U na5 U λa h=>z2v 5 h U t19 U λa h=>z1e (0) 6 h U hM.sl U y0j U ?_ (hp:=rfl);intro f5 d5 a h;refine z2g 7 h U (λ_ hw=>d5 _<|b3.sl.ext hw) na3 U λa h=>u3l 8 hC h wn U U U U λa h=>z0p ?_;clear hC b3 a3;refine bk (h.sub (L':=ll12 0 3 4 5 6 7 8 10 28 29 30 75)<|csu U)<|tn<|cd U (λc4=>?_)<|λc4=>?_;have e5:v6h (z2n ts) ms y:=.inr ⟨d9,((z5m ((ts.getD y tq0).2.getD (ms.getD y 0).toNat lq0).p).getD (xs.getD y 0).toNat id0),by rw[e3];exact z0z e4,by unfold InM;omega⟩;refine ex<|te<|xo U<|te<|xo U<|te<|xh<|tn<|rg<|z0v U (wi6 oo)<|mv U U<|nl ?_;have Z:=Z.ext d1;exact lpE ((y+1,_)) (csu U) ⟨((((l12 [a1] _).z6 q6 q7 q8 q9 a5 a7).n1 b8).z3 b1 d0 d1),⟨sm,hF,λz h=>(by
  by_cases e:z<y;exact e6 z e;obtain rfl:z=y:=by simp only at h;omega
  exact e5),Z⟩⟩ sm
 have d3:=hF.there a6 (by rw[e3];unfold InM;omega);refine sk<|tn<|rg<|mv U U<|mv U U ?_;have Z:=Z.ext d1;refine z1b (0) U Z.sl U y0j z1j<|λf6 d6=>?_;refine z1c U (d6 _ Z.sl) na3<|z0v U (wi6 oo)<|z5p (p:=y) (E:=Enc.i64) U y0j<|z3i (i:=y) (xs.getD y 0+1) U Z (by rw[hF.lt];exact a6) U sz3<|λm6 Z i8 o9=>?_;exact kpL (ll11 0 3 4 5 6 7 8 10 28 29 30) (csu U)<|nl<|bn'<|lpE (_) (csu U) ⟨((((l12 [a1] _).z6 q9 a5 a7 b8 b1 d0).n1 d1).z1 i8),⟨d3,Z⟩⟩ (by rw[z5g (by rw[hF.lt];exact a6),if_pos U];omega);have f0:¬xs.getD y 0<IntKind.i64.wrap ((((ts.getD y tq0).2.getD (ms.getD y 0).toNat lq0).th.2.1:Int)+(((ts.getD y tq0).2.getD (ms.getD y 0).toNat lq0).pa.2.1:Int)):=c3;rw[IntWalk.i64_in _ oo]at f0;have d3:=hF.push hH a6 d9 (by rw[e3,h3];omega);refine ex<|te<|te<|xh<|tn<|sr<|mv U U<|mv U U<|z0v U (wi6 oo)<|z3v U (us underlying3) underlying5 (wi8 oo)<|mv U U<|mv U U ?_;have hM:=(((hM.ext q7).fr q8 (by intro k D I;have D:=l11.1 D;have I:=l11.1 (show k∈[a4] from I);omega)).fr q9 (by intro k D I;have D:=l11.1 D;have I:=l11.1 (show k∈[a4] from I);omega)).ext a5;refine z1b (0) U hM.sl U y0j z1j<|λj8 g5=>?_;refine z1c U (g5 _ hM.sl) na3<|z1u (cs:=[_,_]) (ev2 U) k5v (z0g U<|z0g U z0r) U ?_;refine z1i ([(⟨(y:Int)+1,ms.getD y 0⟩:LId)]) (ev1 U) U z4k<|λl2 m7 k5 h4 e7 p0=>?_;have hM:=hM.ext e7;have Z:=Z.ext e7;have hR:=((((hR.fr q6 (by intro k D I;rw[l11.1 D]at I;first|exact a9 I|exact b0 I|(have h_:=(hR.blk _ I).2;omega))).ext q7).fr q8 (by intro k D I;rw[l11.1 D]at I;first|exact a9 I|exact b0 I|(have h_:=(hR.blk _ I).2;omega))).fr q9 (by intro k D I;rw[l11.1 D]at I;first|exact a9 I|exact b0 I|(have h_:=(hR.blk _ I).2;omega))).ext<|a5.n1 e7;have f1:=hR;refine z2k U hR h4.sl z4k (λh6 m8 hR e8 i3=>?_) (hM:=t59) (hb:=t52);have p1:=e8.size;have hM:=hM.fr e8<|λk D I=>a9 (by have e:=l11.1 (show k∈[a4] from I);rw[<-e];exact D);have Z:=Z.fr e8<|λk D I=>b0 (by have e:=l11.1 (show k∈[a1] from I);rw[<-e];exact D);clear a9 b0;have a9:a4∉z0u h6:=λh=>x9r hR hM dd a4 h<|l11.2 U;have b0:a1∉z0u h6:=λh=>x9r hR Z dd a1 h<|l11.2 U;obtain⟨k9,l0,rfl,_⟩:=hR.sl.form;refine asg U<|kpL (ll7 0 3 4 5 6 7 8) (csu U)<|nn<|sr<|mv U U<|mv U U<|z1b (0) U hM.sl U y0j z1j<|λj9 g6=>?_;refine z1c U (g6 _ hM.sl) na3<|z0v U (wi6 oo)<|z5p (p:=y) (E:=Enc.i64) U y0j<|z3i (i:=y) (ms.getD y 0+1) U hM (by rw[hF.lm];exact a6) U sz3<|λm9 hM f2 p3=>?_;refine kpL (ll7 0 3 4 5 6 7 8) (csu U)<|nn<|sr<|mv U U<|mv U U ?_;have Z:=Z.fr f2 (by intro k D I;have D:=l11.1 D;have I:=l11.1 (show k∈[a1] from I);omega);refine z5p (p:=y) (E:=Enc.i64) U y0j<|z3i (i:=y) (0) U Z (by rw[hF.lt];exact a6) U sz3<|λn7 Z f3 p4=>?_;refine nn<|ex<|xo U<|te<|te<|xh<|tn<|sr<|mv U U<|lnS U underlying30<|mv U U<|eq' U<|nn<|cd U (λc5=>?_)<|λc5=>?_;exfalso;simp only[l13,l34,l64]at c5;omega;skip;refine sk<|gn'<|bn' ?_;have hR:=(hR.fr f2 (by intro k D I;rw[l11.1 D]at I;first|exact a9 I|exact b0 I|(have h_:=(hR.blk _ I).2;omega))).fr f3 (by intro k D I;rw[l11.1 D]at I;first|exact a9 I|exact b0 I|(have h_:=(hR.blk _ I).2;omega));have hM:=hM.fr f3 (by intro k D I;have D:=l11.1 D;have I:=l11.1 (show k∈[a4] from I);omega);exact lpE ((_,_,_,_)) (csu U) ⟨(((q5.z6 q6 q7 q8 q9 a5 e7).step e8<|λk D d9=>absurd (f1.blk k D).1 oo).z2 f2 f3),⟨by simpa using d3,hR,hM,Z⟩⟩ t52;obtain rfl:y=6:=by omega
 have i1:=hF.done hH e6 hv.ok.ord;refine ex<|te<|te<|xh<|tn<|sr<|mv U U<|lnS U underlying30<|mv U U<|eq' U<|kpL (ll6 0 3 4 5 6 106) (csu U)<|nn<|cd U (λc5=>?_)<|λc5=>?_;have d7:l.length=z4o (z2n ts):=i1;refine ex<|gx'<|xo U<|te<|xh<|tn<|sr<|mv U U<|asg U<|kpL (ll1 2) (csu U)<|nn<|rt<|r1 results202 U ?_;have hR:=hR.fr q6 (by intro k D I;rw[l11.1 D]at I;first|exact a9 I|exact b0 I|(have h_:=(hR.blk _ I).2;omega));exact⟨_,rfl,l,hR,d7,(q5.z1 q6)⟩;exact absurd U c5;have d7:l.length=z4o (z2n ts):=by have:=hF.leI oo;omega
 exact ex<|te<|te<|xh<|tn<|sr<|mv U U<|asg U<|kpL (ll1 2) (csu U)<|nn<|rt<|r1 results202 U ⟨_,rfl,l,hR,d7,q5⟩
end Go.Proofs.YtlfdhllfmoplgaaGreatDoor
