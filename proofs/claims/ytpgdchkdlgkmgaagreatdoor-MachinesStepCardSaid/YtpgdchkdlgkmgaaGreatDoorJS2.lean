/- Texts of the proof, joined. -/
import Derived.Lib.ItoaNum
import Derived.Lib.Join
import Derived.Lib.AtoiAll
import Derived.Lib.Split
import Derived.Lib.TrimByte
import Derived.Lib.IndexMore
import Derived.Laws.CopyRow
import Derived.Lib.AppendZerosOnto
import Derived.Test.YtpgdchkdlgkmgaaGreatDoorRows
import Derived.Laws.RangeString
import Derived.Test.YtpgdchkdlgkmgaaGreatDoorJS1
set_option linter.unusedVariables false
set_option linter.unusedSimpArgs false
namespace Go.Lw
open Go.RowKit
structure MOp where
  k:Int
  d:Int
  b:Int
  p:Int
  y:Int
  r:Int
theorem MOp.ext' {a c:MOp}(h:a.k=c.k/\a.d=c.d/\a.b=c.b/\a.p=c.p/\a.y=c.y/\a.r=c.r):a=c:=by
 obtain⟨D,I,J,M,O,U⟩:=h;cases a;cases c;simp only at *;subst D I J M O U;rfl
instance:DecidableEq MOp:=λa c=>
  if h:a.k=c.k/\a.d=c.d/\a.b=c.b/\a.p=c.p/\a.y=c.y/\a.r=c.r then isTrue (MOp.ext' h)
  else isFalse (λe=>h (by subst e;exact ⟨rfl,rfl,rfl,rfl,rfl,rfl⟩))
def z5r:Enc MOp:=⟨λo=>[.int .u8 o.k,.int .u8 o.d,.int .u8 o.b,.int .i64 o.p,.int .u8 o.y,.int .i64 o.r],6,λ_=>rfl,λ_ u h=>by simp at h;rcases h with rfl|rfl|rfl|rfl|rfl|rfl<;>rfl,by decide⟩
abbrev opV (o:MOp):Value:=.agg #[.int .u8 o.k,.int .u8 o.d,.int .u8 o.b,.int .i64 o.p,.int .u8 o.y,.int .i64 o.r]
def op0:MOp:=⟨0,0,0,0,0,0⟩
def ndV (p:Int×Int):Value:=.agg #[.int .u8 p.1,.int .i64 p.2]
def z4q (b p:Int):Int:=if b≠0/\b≠1 then 1 else if p<1\/40<p then 1 else 0
abbrev F4:=Bool×Bool×Bool×Bool
def f4L (f:F4):List Value:=[.bool f.1,.bool f.2.1,.bool f.2.2.1,.bool f.2.2.2]
theorem x4z (f:F4):∀u∈f4L f,u.oneCell'=true:=by intro u D;simp[f4L]at D;rcases D with rfl|rfl|rfl|rfl<;>rfl
def f4V (f:F4):Value:=.agg (f4L f).toArray
def f40:F4:=(false,false,false,false)
def z7z (k:Int):Option F4:=
  if k=8 then some (false,true,false,false) else if k=7 then some (false,true,false,false) else if k=6 then some (true,true,true,false)
  else if k=5 then some (true,true,true,false) else if k=4 then some (true,true,true,false) else if k=3 then some (false,false,false,true)
  else if k=2 then some (false,false,true,false) else if k=1 then some (true,false,true,false) else none
def x5u (k:Int):Option Value:=(z7z k).map f4V
theorem z7r (k:Int):(x5u k).getD (.agg #[.bool false,.bool false,.bool false,.bool false])=.agg (f4L ((z7z k).getD f40)).toArray:=by
 unfold x5u;cases z7z k<;>rfl
theorem y1p (k:Int):(x5u k).isSome=(z7z k).isSome:=by unfold x5u;cases z7z k<;>rfl
abbrev pl1 (f:F4)(o:MOp):Prop:=(f.1=true/\o.d≠0)/\o.d≠1\/¬f.1=true/\o.d≠0
abbrev pl2 (f:F4)(o:MOp):Prop:=f.2.1=true/\z4q o.b o.p≠0\/¬f.2.1=true/\¬(o.b=0/\o.p=0)
abbrev pl3 (f:F4)(o:MOp):Prop:=f.2.2.1=true/\(o.y<1\/6<o.y)\/¬f.2.2.1=true/\o.y≠0
abbrev pl4 (f:F4)(o:MOp):Prop:=f.2.2.2=true\/o.r=0
def x6x (f:F4)(o:MOp):Prop:=¬pl1 f o/\¬pl2 f o/\¬pl3 f o/\pl4 f o
instance (f:F4) (o:MOp):Decidable (x6x f o):=by unfold x6x;infer_instance
def y6u (o:MOp):Prop:=(z7z o.k).isSome=true/\x6x ((z7z o.k).getD f40) o
instance (o:MOp):Decidable (y6u o):=by unfold y6u;infer_instance
def y3a (o:MOp):Int:=if ¬y6u o then 1 else if o.r < -4\/4<o.r then 11 else 0
def j6s (n:Nat):UInt8:=UInt8.ofNat (48+n)
def j3j (n:Nat):List UInt8:=if n<10 then [j6s n] else [j6s (n / 10),j6s (n % 10)]
def x4y (n:Int):List UInt8:=if n<0 then 45::j3j n.natAbs else j3j n.toNat
theorem j0c {n:Nat}(h:n<100):Lib.decDigits n=j3j n:=by
 unfold j3j;rw[Lib.decDigits];split;rfl;rw[Lib.decDigits,dif_pos (by omega)];rfl
theorem u9p {n:Int}(h:-99<=n/\n<=99):Lib.itoa n=x4y n:=by
 unfold Lib.itoa x4y;split<;>rw[j0c (by omega)]
theorem y5m (n:Int):(x4y n).length<=3:=by unfold x4y j3j;(repeat' split)<;>simp
def z8h:List (List UInt8):=[[],[105,110],[111,117,116],[114,97,99,107],[107,110,105,116],[116,117,99,107],[109,105,115,115],[120,102,101,114],[100,114,111,112]]
def x2v:List (List UInt8):=[[108,101,102,116],[114,105,103,104,116]]
def x6m (k:Int):List UInt8:=z8h.getD k.toNat []
def u8b (d:Int):List UInt8:=x2v.getD d.toNat []
theorem v1r {k:Int}(h:0<=k/\k<9):(z8h.map S)[k.toNat*1]?=some (S (x6m k)):=by
 rw[Nat.mul_one,List.getElem?_map,x6m,List.getD];have:k.toNat<z8h.length:=by simp only[z8h,List.length];omega
 rw[List.getElem?_eq_getElem this];rfl
theorem x7v {k:Int}(h:0<=k/\k<2):(x2v.map S)[k.toNat*1]?=some (S (u8b k)):=by
 rw[Nat.mul_one,List.getElem?_map,u8b,List.getD];have:k.toNat<x2v.length:=by simp only[x2v,List.length];omega
 rw[List.getElem?_eq_getElem this];rfl
def v6b (b p:Int):List UInt8:=if z4q b p≠0 then [] else if b=0 then [102]++x4y p else [98]++x4y p
def y3b (o:MOp):List (List UInt8):=
  if o.k=1 then [x4y o.y,u8b o.d] else if o.k=2 then [x4y o.y] else if o.k=3 then [x4y o.r]
  else if (o.k=4\/o.k=5)\/o.k=6 then [u8b o.d,v6b o.b o.p,x4y o.y] else if o.k=7\/o.k=8 then [v6b o.b o.p] else []
def j1x (o:MOp):List UInt8:=if y3a o≠0 then [] else Lib.join (x6m o.k::y3b o) [32]
theorem x7h {b p:Int}:z4q b p=0↔(b=0\/b=1)/\1<=p/\p<=40:=by unfold z4q;(repeat' split)<;>omega
theorem u1e {k:Int}(h:(z7z k).isSome=true):1<=k/\k<=8:=by unfold z7z at h;(repeat' split at h)<;>first|omega|simp at h
theorem j1j {o:MOp}(h:y3a o=0):y6u o/\-4<=o.r/\o.r<=4:=by
 unfold y3a at h;split at h;omega;rename_i D;split at h;omega;rename_i I;exact⟨Classical.not_not.1 D,by omega,by omega⟩
theorem v4w {o:MOp}(h:y3a o=0):1<=o.k/\o.k<=8/\0<=o.d/\o.d<=1/\0<=o.y/\o.y<=6/\-4<=o.r/\o.r<=4:=by
 obtain⟨⟨M,D,O,I,U⟩,Z,h7⟩:=j1j h
 have J:=u1e M
 generalize (z7z o.k).getD f40=f at D O I U
 refine⟨J.1,J.2,?_,?_,?_,?_,Z,h7⟩<;>
 ·revert D I
  unfold pl1 pl3
  cases f.1<;>cases f.2.2.1<;>simp<;>omega
theorem u1u {b p:Int}:(v6b b p).length<=6:=by
 unfold v6b;split;simp;rename_i h;have D:=x7h.1 (Classical.not_not.1 h);have:=y5m p;split<;>simp<;>omega
theorem v0w (k:Int):(x6m k).length<=4:=by
 have:∀n:Nat,(z8h.getD n []).length<=4
  | 0|1|2|3|4|5|6|7|8=>by decide
  | n+9=>by simp[z8h,List.getD]
 exact this _
theorem u1a (k:Int):(u8b k).length<=5:=by
 have:∀n:Nat,(x2v.getD n []).length<=5
  | 0|1=>by decide
  | n+2=>by simp[x2v,List.getD]
 exact this _
theorem j2p (o:MOp):(y3b o).length<=3:=by unfold y3b;(repeat' split)<;>simp
theorem u1q (o:MOp)(h:y3a o=0):(Lib.join (x6m o.k::y3b o) [32]).length<=30:=by
 have U:=v4w h;have D:=v0w o.k;have I:=u1a o.d;have J:=y5m o.y;have M:=y5m o.r;have O:=u1u (b:=o.b) (p:=o.p);rw[Lib.join_cons];unfold y3b Lib.joinTail;(repeat' split)<;>simp<;>omega
def MOp.Ok (o:MOp):Prop:=0<=o.k/\0<=o.d/\0<=o.b/\0<=o.y/\o.k<=255/\o.d<=255/\o.b<=255/\o.y<=255
def x4q:Enc MOp:=⟨λo=>[.int .u8 o.k,.int .u8 o.d,.int .u8 o.b,.int .u8 o.p,.int .u8 o.y,.int .u8 o.r],6,λ_=>rfl,λ_ u h=>by simp at h;rcases h with rfl|rfl|rfl|rfl|rfl|rfl<;>rfl,by decide⟩
abbrev oxV (o:MOp):Value:=.agg #[.int .u8 o.k,.int .u8 o.d,.int .u8 o.b,.int .u8 o.p,.int .u8 o.y,.int .u8 o.r]
def MOp.Bytes (o:MOp):Prop:=(0<=o.k/\o.k<=255)/\(0<=o.d/\o.d<=255)/\(0<=o.b/\o.b<=255)/\(0<=o.p/\o.p<=255)/\(0<=o.y/\o.y<=255)/\(0<=o.r/\o.r<=255)
def ofK (k:Int)(x:MOp):MOp:=
  if k=1 then ⟨k,x.d % 2,0,0,1+x.y % 6,0⟩ else if k=2 then ⟨k,0,0,0,1+x.y % 6,0⟩ else if k=3 then ⟨k,0,0,0,0,x.r % 9-4⟩
  else if k=7\/k=8 then ⟨k,0,x.b % 2,1+x.p % 40,0,0⟩ else ⟨k,x.d % 2,x.b % 2,1+x.p % 40,1+x.y % 6,0⟩
def ofO (x:MOp):MOp:=ofK (1+x.k % 8) x
def v7l (c:UInt8):Bool:=decide (48<=(c.toNat:Int)/\(c.toNat:Int)<=57)
def v5l (n:Int)(c:UInt8):Int:=10*n+((c.toNat:Int)-48)
def y5d (l:List UInt8):Int:=l.foldl v5l 0
def j0l (l:List UInt8):Option Int:=if ((l.getD 0 0).toNat:Int)=102 then some 0 else if ((l.getD 0 0).toNat:Int)=98 then some 1 else none
def x4c (l:List UInt8):Int×Int:=
  if (l.length:Int)<2\/3<(l.length:Int) then (0,0) else
  match j0l l with
  | none=>(0,0)
  | some b=>if (l.drop 1).all v7l=false then (0,0) else if v6b b (y5d (l.drop 1))≠l then (0,0) else (b,y5d (l.drop 1))
theorem y7d (l:List UInt8)(k:Nat)(h:k<l.length):l.take (k+1)=l.take k++[l.getD k 0]:=by
 rw[List.take_succ_eq_append_getElem h];simp[List.getD,h]
theorem x9i (l:List UInt8)(k:Nat)(h:k<l.length):y5d (l.take (k+1))=10*y5d (l.take k)+(((l.getD k 0).toNat:Int)-48):=by
 rw[y7d l k h,y5d,List.foldl_append];rfl
theorem v9j (l:List UInt8)(k:Nat)(h:k<l.length)(D:(l.take k).all v7l=true)(I:48<=((l.getD k 0).toNat:Int)/\((l.getD k 0).toNat:Int)<=57):(l.take (k+1)).all v7l=true:=by
 rw[y7d l k h,List.all_append,D,List.all_cons,List.all_nil,v7l,decide_eq_true I];rfl
theorem u8f (l:List UInt8)(k:Nat)(h:k<l.length)(I:¬(48<=((l.getD k 0).toNat:Int)/\((l.getD k 0).toNat:Int)<=57)):l.all v7l=false:=by
 rw[Bool.eq_false_iff];intro D;rw[List.all_eq_true]at D;have:=D (l.getD k 0) (by simp[List.getD,h]);simp only[v7l,decide_eq_true_eq]at this;exact I this
theorem x2a {l:List UInt8}(h:l.all v7l=true)(hl:l.length<=2):0<=y5d l/\y5d l<=99:=by
 match l,h,hl with
 | [],_,_=>decide
 | [a],h,_=>simp[v7l]at h;simp[y5d,v5l];omega
 | [a,b],h,_=>simp[v7l]at h;simp[y5d,v5l];omega
 | _::_::_::_,_,hl=>simp at hl
def u0s (l:List UInt8):Int:=match Lib.atoiAll l with|.ok v=>v|_=>0
def j0t (l:List UInt8):Int:=if l=[114,105,103,104,116] then 1 else 0
def y4x (w:List UInt8):Nat->Int
  | 0=>0
  | i+1=>if z8h.getD i []=w then (i:Int) else y4x w i
def y9u (w:List UInt8):Int:=y4x w 9
theorem x3s (w:List UInt8):∀i:Nat,0<=y4x w i/\y4x w i<=i
 | 0=>by simp[y4x]
 | i+1=>by have:=x3s w i;unfold y4x;split<;>omega
theorem u0v {i:Nat}(h:i<9):(z8h.map S)[((i:Nat):Int).toNat]?=some (S (z8h.getD i [])):=by
 rw[Int.toNat_natCast,List.getElem?_map,List.getD,List.getElem?_eq_getElem (show i<z8h.length from h)];rfl
def fD (k:Int):Bool:=((z7z k).getD f40).1
def fN (k:Int):Bool:=((z7z k).getD f40).2.1
def y4w (k:Int)(ws:List (List UInt8)):MOp:=
  if k=1/\(ws.length:Int)=3 then ⟨k,j0t (ws.getD 2 []),0,0,u0s (ws.getD 1 []) % 256,0⟩
  else if k=2/\(ws.length:Int)=2 then ⟨k,0,0,0,u0s (ws.getD 1 []) % 256,0⟩
  else if k=3/\(ws.length:Int)=2 then ⟨k,0,0,0,0,u0s (ws.getD 1 [])⟩
  else if fD k=true/\(ws.length:Int)=4 then ⟨k,j0t (ws.getD 1 []),(x4c (ws.getD 2 [])).1,(x4c (ws.getD 2 [])).2,u0s (ws.getD 3 []) % 256,0⟩
  else if fN k=true/\(ws.length:Int)=2 then ⟨k,0,(x4c (ws.getD 1 [])).1,(x4c (ws.getD 1 [])).2,0,0⟩
  else ⟨k,0,0,0,0,0⟩
def z4b (ws:List (List UInt8)):MOp:=y4w (y9u (ws.getD 0 [])) ws
def y5r (l:List UInt8):MOp×Int:=
  if y3a (z4b (Lib.split l [32]))≠0\/j1x (z4b (Lib.split l [32]))≠l then (op0,4) else (z4b (Lib.split l [32]),0)
theorem v0p (D:List UInt8)(sv:Nat):∀(k:Nat) (l:List UInt8),1<=(Lib.splitK D sv k l).length
 | 0,l=>by simp[Lib.splitK]
 | k+1,l=>by unfold Lib.splitK;split<;>simp
theorem v1h (l D:List UInt8):1<=(Lib.split l D).length:=v0p _ _ _ _
theorem y7r (D:List UInt8):∀(k:Nat) (l x:List UInt8),x∈Lib.splitK D 0 k l->x.length<=l.length
 | 0,l,x,h=>by simp[Lib.splitK]at h;rw[h];exact Nat.le_refl _
 | k+1,l,x,h=>by
  unfold Lib.splitK at h
  split at h
  ·simp at h;rw[h];exact Nat.le_refl _
  rw[List.mem_cons]at h
  rcases h with rfl|h
  ·simp;omega
  have:=y7r D k _ x h
  simp at this;omega
theorem x1f (l D:List UInt8)(i:Nat):((Lib.split l D).getD i []).length<=l.length:=by
 rw[List.getD];cases e:(Lib.split l D)[i]? with
 | none=>simp
 | some y=>exact y7r D _ l y (List.mem_of_getElem? e)
def y9f (x:List UInt8):List UInt8:=Lib.trimB (Lib.cut x [35]).1 32
def v0m:List (List UInt8)->Int->List MOp->List MOp×Int×Int
  | [],_,acc=>(acc,0,0)
  | x::xs,i,acc=>if y9f x=[] then v0m xs (i+1) acc else if (y5r (y9f x)).2≠0 then ([],i+1,(y5r (y9f x)).2)
    else if (acc.length:Int)=4096 then ([],i+1,3) else v0m xs (i+1) (acc++[(y5r (y9f x)).1])
def y8l (l:List UInt8):List MOp×Int×Int:=v0m (Lib.split l [10]) 0 []
theorem v6w (x m:List UInt8):(Lib.cut x m).1.length<=x.length:=by unfold Lib.cut;(repeat' split)<;>simp<;>omega
theorem z9p (x:List UInt8)(c:UInt8):(Lib.trimB x c).length<=x.length:=by
 unfold Lib.trimB Lib.trimLeftB Lib.trimRightB;refine Nat.le_trans ((List.dropWhile_suffix _).length_le) ?_;rw[List.length_reverse];refine Nat.le_trans ((List.dropWhile_suffix _).length_le) ?_;rw[List.length_reverse];exact Nat.le_refl _
theorem u0h (x:List UInt8):(y9f x).length<=x.length:=Nat.le_trans (z9p _ _) (v6w _ _)
theorem v0z {α:Type}(l:List α)(i:Nat)(z:α)(h:i<l.length):l.drop i=l.getD i z::l.drop (i+1):=by
 rw[List.drop_eq_getElem_cons h];simp[List.getD,h]
end Go.Lw
namespace Go.G08
open Go.Lw Go.G21
abbrev Bed:=List (List LId)
structure Bd where
  f:Bed
  b:Bed
deriving DecidableEq
def trimB:Bed->Bed
  | []=>[]
  | s::l=>if trimB l=[]/\s=[] then [] else s::trimB l
def atB (l:Bed)(n:Int):List LId:=l.getD (n-1).toNat []
def Bd.at (B:Bd)(b n:Int):List LId:=if b=0 then atB B.f n else atB B.b n
def Bd.atC (B:Bd)(b n:Int):List LId:=if z4q b n=0 then B.at b n else []
def x4b (l:Bed)(n:Nat):Bed:=l++List.replicate (n-l.length) []
def y6k (l:Bed)(n:Nat)(s:List LId):Bed:=trimB (if n=0 then l else (x4b l n).set (n-1) s)
def Bd.put (B:Bd)(b n:Int)(s:List LId):Bd:=if b=0 then ⟨y6k B.f n.toNat s,trimB B.b⟩ else ⟨trimB B.f,y6k B.b n.toNat s⟩
def Bd.flat (B:Bd):List LId:=B.f.flatten++B.b.flatten
structure BdOk (B:Bd):Prop where
  lf:B.f.length<=40
  lb:B.b.length<=40
  ss:∀s∈B.f++B.b,s.length<=4
  nm:∀i∈B.flat,y2k i
  nd:B.flat.Nodup
def z3h (b n r:Int):Int:=if z4q b n≠0\/¬(-4<=r/\r<=4) then 0 else if b=0 then 4*n+2 else 4*(n+r)
structure Hd where
  id:LId
  b:Int
  n:Int
  s:Int
deriving DecidableEq
def hd0:Hd:=⟨id0,0,0,0⟩
def hdS (b r:Int)(k:Nat)(x:LId):Hd:=⟨x,b,(k:Int)+1,z3h b ((k:Int)+1) r⟩
def hds (b r:Int)(l:Bed)(i:Nat):List Hd:=(List.range i).flatMap λk=>(l.getD k []).map (hdS b r k)
def v7k (B:Bd)(r:Int):List Hd:=hds 0 r B.f B.f.length++hds 1 r B.b B.b.length
def y1w (h:Hd):List Hd->List Hd
  | []=>[h]
  | x::l=>if h.s<x.s then h::x::l else x::y1w h l
def z5e (l:List Hd):List Hd:=l.foldl (λa h=>y1w h a) []
def z2w (B:Bd)(r:Int):List Hd:=z5e (v7k B r)
def btw (l:List Hd)(fr to:Int):List Pa:=
  if fr<to then (l.filter λh=>decide (fr<h.s/\h.s<to)).map λh=>⟨h.id,decide (h.b=1),1⟩
  else ((l.filter λh=>decide (to<h.s/\h.s<fr)).map λh=>⟨h.id,decide (h.b=1),0⟩).reverse
def x7q (d:Int)(x o:LId):Cx:=if d=0 then ⟨o,x,1⟩ else ⟨x,o,-1⟩
def y0h (r d:Int)(k:Nat):Int:=if d=0 then (k:Int)+1+r-1 else (k:Int)+1+r
def u2x (B:Bd)(r d:Int)(k:Nat):List Cx:=(B.b.getD k []).flatMap λx=>(B.atC 0 (y0h r d k)).reverse.map (x7q d x)
def x9t (B:Bd)(r d:Int)(i:Nat):List Cx:=(List.range i).flatMap (u2x B r d)
def z3r (B:Bd)(r d:Int):List Cx:=if d=1 then (x9t B r d B.b.length).reverse else x9t B r d B.b.length
def stI (d:Int):Int:=if d=0 then -1 else 1
def x3y (B:Bd)(r d p:Int)(k:Nat):List Pa:=if p≠z3h 1 ((k:Int)+1) r+stI d/\p≠z3h 1 ((k:Int)+1) r+3*stI d then [] else (B.b.getD k []).map λx=>⟨x,true,1-d⟩
def y6o (B:Bd)(r d p:Int)(i:Nat):List Pa:=(List.range i).flatMap (x3y B r d p)
def z7d (B:Bd)(r d p:Int):List Pa:=if d=1 then (y6o B r d p B.b.length).reverse else y6o B r d p B.b.length
def z7c (a b:LId):Int:=if a.y<b.y then -1 else if b.y<a.y then 1 else if a.n<b.n then -1 else if b.n<a.n then 1 else 0
def isC (a b:LId)(c:Cx):Bool:=decide (c.a=a/\c.b=b)
def y4i (l:List Cx)(a b:LId):Int:=((l.find? (isC a b)).map Cx.n).getD 0
def y4g (l:List Cx)(a b:LId)(n:Int):List Cx:=if l.any (isC a b) then l.map (λc=>if isC a b c then ⟨a,b,n⟩ else c) else l++[⟨a,b,n⟩]
def v0r (l:List Cx)(a b:LId):List Cx:=l.filter λc=>!isC a b c
def y6j (l:List Cx)(c:Cx):Except Int (List Cx):=
  let k:LId×LId:=if 0<z7c c.a c.b then (c.b,c.a) else (c.a,c.b)
  let n:=y4i l k.1 k.2+c.n
  if n < -1048576\/1048576<n then .error 3 else if n=0 then .ok (v0r l k.1 k.2) else .ok (y4g l k.1 k.2 n)
def z4r:List Cx->List Cx->Except Int (List Cx)
  | l,[]=>.ok l
  | l,c::r=>match y6j l c with|.error e=>.error e|.ok l'=>z4r l' r
structure MSt where
  rk:Int
  B:Bd
  ys:List Yn
  tb:Tb
  cr:List Cx
  fa:List LId
def yn0:Yn:=⟨false,0,0,false,[]⟩
def MSt.y (p:MSt)(y:Int):Yn:=p.ys.getD (y-1).toNat yn0
def MSt.setY (p:MSt)(y:Int)(q:Yn):MSt:={ p with ys:=p.ys.set (y-1).toNat q }
abbrev MR:=Except Int MSt
def lvS (y:Yn):Yn:=⟨false,0,y.ct,false,[]⟩
def mkS (y:Yn):Yn:=⟨true,y.pl,y.ct+1,false,[]⟩
def inM (p:MSt)(o:MOp):MR:=if enE (p.y o.y) o.d≠0 then .error (enE (p.y o.y) o.d) else .ok (p.setY o.y (enS (p.y o.y) o.d))
def v0s (p:MSt)(o:MOp):MR:=if lvE (p.y o.y)≠0 then .error (lvE (p.y o.y)) else .ok (p.setY o.y (lvS (p.y o.y)))
def z6l (p:MSt)(o:MOp):Int:=if (p.y o.y).inn=false then 12 else if o.d=1 then (if z3h o.b o.p p.rk<(p.y o.y).pl then 12 else 0) else if (p.y o.y).pl<z3h o.b o.p p.rk then 12 else 0
def y3x (p:MSt)(o:MOp):Int:=if o.d=1 then z3h o.b o.p p.rk+1 else z3h o.b o.p p.rk-1
def v0t (p:MSt)(y en:Int):List Pa:=btw (z2w p.B p.rk) (p.y y).pl en
def y0g (p:MSt)(y pl en:Int):MR:=if goE (p.y y) pl (v0t p y en)≠0 then .error (goE (p.y y) pl (v0t p y en)) else .ok (p.setY y (goS (p.y y) pl (v0t p y en)))
def MSt.row (p:MSt)(y:Int):List Lp:=p.tb.getD (y-1).toNat []
def y3w (p:MSt)(o:MOp)(th st:List LId):MR:=
  if mkE (p.y o.y)≠0 then .error (mkE (p.y o.y)) else if 2048<=z4v p.tb then .error 3
  else .ok { p with B:=p.B.put o.b o.p (st++[⟨o.y,(p.y o.y).ct⟩]),ys:=p.ys.set (o.y-1).toNat (mkS (p.y o.y)),tb:=p.tb.set (o.y-1).toNat (p.row o.y++[⟨o.b,(p.y o.y).nw,th,(p.y o.y).pe⟩]) }
def y3c (p:MSt)(o:MOp):MR:=if z6l p o≠0 then .error (z6l p o) else match y0g p o.y (y3x p o) (z3h o.b o.p p.rk) with
  | .error e=>.error e
  | .ok q=>y3w q o (q.B.at o.b o.p) []
def y2e (p:MSt)(o:MOp):MR:=if z6l p o≠0 then .error (z6l p o) else match y0g p o.y (y3x p o) (z3h o.b o.p p.rk) with
  | .error e=>.error e
  | .ok q=>if 4<=(q.B.at o.b o.p).length then .error 9 else y3w q o [] (q.B.at o.b o.p)
def y6n (p:MSt)(o:MOp):MR:=if z6l p o≠0 then .error (z6l p o) else y0g p o.y (y3x p o) (y3x p o)
def z7t (b n r:Int):Int:=if b=1 then n+r else n-r
def x5s (p:MSt)(o:MOp):Int:=min (z3h o.b o.p p.rk) (z3h (1-o.b) (z7t o.b o.p p.rk) p.rk)+1
def y0t (p:MSt)(o:MOp):List LId:=if o.b=1 then p.B.at 1 o.p++p.B.at 0 (z7t 1 o.p p.rk) else p.B.at 1 (z7t 0 o.p p.rk)++p.B.at 0 o.p
def z9y (p:MSt)(o:MOp):MR:=
  if p.B.at o.b o.p=[] then .error 13
  else if z4q (1-o.b) (z7t o.b o.p p.rk)≠0 then .error 11
  else if ∃y∈p.ys,y.inn=true/\y.pl=x5s p o then .error 12
  else if 4<(p.B.at o.b o.p).length+(p.B.at (1-o.b) (z7t o.b o.p p.rk)).length then .error 9
  else .ok { p with B:=(p.B.put o.b o.p []).put (1-o.b) (z7t o.b o.p p.rk) (y0t p o) }
def y5p (p:MSt)(o:MOp):MR:=if p.B.at o.b o.p=[] then .error 13 else .ok { p with B:=p.B.put o.b o.p [],fa:=p.fa++p.B.at o.b o.p }
def z7g (p:MSt)(d:Int)(y:Yn):Except Int Yn:=if y.inn=false then .ok y else if goE y y.pl (z7d p.B p.rk d y.pl)≠0 then .error (goE y y.pl (z7d p.B p.rk d y.pl)) else .ok (goS y y.pl (z7d p.B p.rk d y.pl))
def z4t (p:MSt)(d:Int):List Yn->Except Int (List Yn)
  | []=>.ok []
  | y::l=>match z7g p d y with
    | .error e=>.error e
    | .ok y'=>match z4t p d l with
      | .error e=>.error e
      | .ok l'=>.ok (y'::l')
def z8j (p:MSt)(d:Int):MR:=match z4t p d p.ys with
  | .error e=>.error e
  | .ok ys=>match z4r p.cr (z3r p.B p.rk d) with
    | .error e=>.error e
    | .ok cr=>.ok { p with ys:=ys,cr:=cr,rk:=p.rk+stI d }
def z6m:Nat->MSt->Int->MR
  | 0,p,_=>.ok p
  | n+1,p,r=>if p.rk=r then .ok p else match z8j p (if r<p.rk then 0 else 1) with
    | .error e=>.error e
    | .ok q=>z6m n q r
def v8c (p:MSt)(o:MOp):MR:=z6m 8 p o.r
def opM (p:MSt)(o:MOp):MR:=
  if o.k=1 then inM p o else if o.k=2 then v0s p o else if o.k=3 then v8c p o else if o.k=4 then y3c p o
  else if o.k=5 then y2e p o else if o.k=6 then y6n p o else if o.k=7 then z9y p o else y5p p o
def doM (p:MSt)(o:MOp):MR:=if y3a o≠0 then .error (y3a o) else opM p o
def z4c:Nat->MSt->List MOp->Except (Int×Nat) MSt
  | _,p,[]=>.ok p
  | i,p,o::l=>match doM p o with
    | .error e=>.error (e,i)
    | .ok q=>z4c (i+1) q l
def start:MSt:=⟨0,⟨[],[]⟩,List.replicate 6 yn0,List.replicate 6 [],[],[]⟩
theorem y1e:∀(l:Bed) (i:Nat),(trimB l).getD i []=l.getD i []
 | [],i=>rfl
 | s::l,i=>by
  have D:=y1e l
  unfold trimB
  split
  ·rename_i h
   cases i with
   | zero=>simp[h.2]
   | succ i=>have:=D i;rw[h.1]at this;simpa using this
  cases i with
  | zero=>simp
  | succ i=>simpa using D i
theorem y0l:∀l:Bed,(trimB l).flatten=l.flatten
 | []=>rfl
 | s::l=>by
  have D:=y0l l
  unfold trimB
  split
  ·rename_i h
   rw[h.1]at D
   simp only[List.flatten_cons,<-D,h.2];rfl
  simp only[List.flatten_cons,D]
theorem z9p:∀l:Bed,(trimB l).length<=l.length
 | []=>Nat.le_refl _
 | s::l=>by
  have D:=z9p l
  unfold trimB
  split
  ·simp
  simp only[List.length_cons];omega
theorem y3g:∀(l:Bed) {s:List LId},s∈trimB l->s∈l
 | [],s,h=>h
 | t::l,s,h=>by
  unfold trimB at h
  split at h
  ·cases h
  rcases List.mem_cons.1 h with rfl|h
  ·exact List.mem_cons_self ..
  exact List.mem_cons_of_mem _ (y3g l h)
theorem x8v:∀l:Bed,(∀s∈l,s=[])->trimB l=[]
 | [],_=>rfl
 | s::l,h=>by
  unfold trimB
  rw[if_pos ⟨x8v l λt D=>h t (List.mem_cons_of_mem _ D),h s (List.mem_cons_self ..)⟩]
theorem y1l:∀(l:Bed) (n:Nat),n<=l.length->(∀j,n<=j->l.getD j []=[])->(n=0\/l.getD (n-1) []≠[])->l.take n=trimB l
 | [],n,h,_,_=>by simp[trimB]
 | s::l,0,_,h,_=>by
  rw[x8v]
  ·rfl
  intro t U
  obtain⟨i,M,rfl⟩:=List.getElem_of_mem U
  have:=h i (Nat.zero_le _)
  rwa [List.getD,List.getElem?_eq_getElem M]at this
 | s::l,n+1,hl,h,hn=>by
  have J:=y1l l n (by simpa using hl) (λj Z=>by have:=h (j+1) (by omega);simpa using this)
  unfold trimB
  cases n with
  | zero=>
   have O:s≠[]:=by simpa using hn
   rw[if_neg (λe=>O e.2)]
   have:=J (.inl rfl)
   simp only[List.take_succ_cons,List.take_zero,this] at *
  | succ n=>
   have D:l.getD n []≠[]:=by simpa using hn
   have:=J (.inr D)
   rw[if_neg,List.take_succ_cons,this]
   rintro⟨e,-⟩
   have I:=y1e l n
   rw[e]at I
   exact D (by simpa using I.symm)
theorem x8o (l:Bed)(n i:Nat):(x4b l n).getD i []=l.getD i []:=by
 unfold x4b;by_cases h:i<l.length;simp only[List.getD,List.getElem?_append_left h];rw[List.getD,List.getD,List.getElem?_append_right (by omega),List.getElem?_replicate,List.getElem?_eq_none (by omega)];split<;>rfl
theorem u0f (l:Bed)(n:Nat):(x4b l n).flatten=l.flatten:=by
 unfold x4b;rw[List.flatten_append];have:(List.replicate (n-l.length) ([]:List LId)).flatten=[]:=by simp
 rw[this,List.append_nil]
theorem y8w (l:Bed)(n:Nat):(x4b l n).length=max l.length n:=by
 unfold x4b;rw[List.length_append,List.length_replicate];omega
theorem v8b (l:Bed){n:Nat}(hn:1<=n)(s:List LId)(i:Nat):(y6k l n s).getD i []=if i=n-1 then s else l.getD i []:=by
 unfold y6k;rw[y1e,if_neg (by omega),z1j (by rw[y8w];omega),x8o];split;rename_i e;rw[if_pos e.symm];rename_i e;rw[if_neg (λh=>e h.symm)]
theorem u2z {l:Bed}{n m:Int}(hn:1<=n)(D:1<=m)(s:List LId):atB (y6k l n.toNat s) m=if m=n then s else atB l m:=by
 unfold atB;rw[v8b _ (by omega)];by_cases e:m=n;subst e;rw[if_pos (by omega),if_pos rfl];rw[if_neg (by omega),if_neg e]
theorem v5p (l:Bed)(n:Int):atB (trimB l) n=atB l n:=y1e l _
theorem x2s (l:Bed){n:Int}(hn:1<=n)(s:List LId)(i:LId):(y6k l n.toNat s).flatten.count i+(atB l n).count i=l.flatten.count i+s.count i:=by
 unfold y6k;rw[y0l,if_neg (by omega)];have h:=z7w (α:=List LId) (λx=>x) (x4b l n.toNat) (n.toNat-1) [] s i (by rw[y8w];omega);simp only[List.flatMap_id']at h;rw[u0f,x8o]at h;have e:n.toNat-1=(n-1).toNat:=by omega
 unfold atB;rw[e]at h ⊢;omega
theorem v4l (l:Bed)(n:Nat)(s:List LId):(y6k l n s).length<=max l.length n:=by
 unfold y6k;refine Nat.le_trans (z9p _) ?_;split;omega;rw[List.length_set,y8w];exact Nat.le_refl _
theorem u7q (l:Bed)(n:Nat)(s:List LId){t:List LId}(h:t∈y6k l n s):t=s\/t∈l\/t=[]:=by
 unfold y6k at h;have h:=y3g _ h;split at h;exact .inr (.inl h);rcases List.mem_or_eq_of_mem_set h with h|h
 unfold x4b at h;rcases List.mem_append.1 h with h|h
 exact .inr (.inl h);exact .inr (.inr (List.eq_of_mem_replicate h));exact .inl h
theorem z3k {b n:Int}(h:z4q b n=0):(b=0\/b=1)/\1<=n/\n<=40:=by
 unfold z4q at h;split at h;omega;split at h<;>omega
theorem z4g (B:Bd){b n:Int}(h:z4q b n=0)(s:List LId)(i:LId):(B.put b n s).flat.count i+(B.at b n).count i=B.flat.count i+s.count i:=by
 obtain⟨I,D,J⟩:=z3k h;unfold Bd.put Bd.at Bd.flat;split;simp only[List.count_append,y0l];have:=x2s B.f D s i;omega;simp only[List.count_append,y0l];have:=x2s B.b D s i;omega
theorem v1y (B:Bd){b n D I:Int}(h:z4q b n=0)(O:z4q D I=0)(s:List LId):(B.put b n s).at D I=if D=b/\I=n then s else B.at D I:=by
 obtain⟨U,J,Z⟩:=z3k h;obtain⟨h4,M,h6⟩:=z3k O;unfold Bd.put Bd.at;by_cases e:b=0;rw[if_pos e];by_cases e':D=0;rw[if_pos e',u2z J M];by_cases e2:I=n;rw[if_pos e2,if_pos ⟨by omega,e2⟩];rw[if_neg e2,if_neg (λk=>e2 k.2),if_pos e'];rw[if_neg e',v5p,if_neg (λk=>by omega),if_neg e'];rw[if_neg e];by_cases e':D=0;rw[if_pos e',v5p,if_neg (λk=>by omega),if_pos e'];rw[if_neg e',u2z J M];by_cases e2:I=n;rw[if_pos e2,if_pos ⟨by omega,e2⟩];rw[if_neg e2,if_neg (λk=>e2 k.2),if_neg e']
theorem v5j {l:Bed}{n:Int}(h:atB l n≠[]):atB l n∈l:=by
 unfold atB at *
 by_cases e:(n-1).toNat<l.length;exact z0u e;exact absurd (by rw[List.getD,List.getElem?_eq_none (by omega)];rfl) h
theorem v5i {B:Bd}{b n:Int}(h:B.at b n≠[]):B.at b n∈B.f++B.b:=by
 unfold Bd.at at *
 split;rename_i e;rw[if_pos e]at h;exact List.mem_append_left _ (v5j h);rename_i e;rw[if_neg e]at h;exact List.mem_append_right _ (v5j h)
theorem y4o {B:Bd}(h:BdOk B)(b n:Int):(B.at b n).length<=4:=by
 by_cases e:B.at b n=[];rw[e];simp;exact h.ss _ (v5i e)
theorem u5j (B:Bd):B.flat=(B.f++B.b).flatten:=by unfold Bd.flat;rw[List.flatten_append]
theorem y0f {B:Bd}{b n:Int}{i:LId}(h:i∈B.at b n):i∈B.flat:=by
 rw[u5j];exact List.mem_flatten.2 ⟨_,v5i (λe=>by rw[e]at h;cases h),h⟩
theorem y0o {B:Bd}{b n:Int}(h:z4q b n=0){s:List LId}{i:LId}(D:i∈(B.put b n s).flat):i∈s\/i∈B.flat:=by
 have:=z4g B h s i;have I:=List.count_pos_iff.2 D;by_cases e:0<s.count i;exact .inl (List.count_pos_iff.1 e);exact .inr (List.count_pos_iff.1 (by omega))
theorem BdOk.put {B:Bd}(h:BdOk B){b n:Int}(hn:z4q b n=0){s:List LId}(h4:s.length<=4)(U:∀i∈s,y2k i)(O:∀i,B.flat.count i+s.count i<=(B.at b n).count i+1):BdOk (B.put b n s):=by
 obtain⟨h1,h2,h3⟩:=z3k hn;have hl:=h.lf;have M:=h.lb;refine⟨?_,?_,?_,?_,?_⟩;unfold Bd.put;split;have:=v4l B.f n.toNat s;simp only;omega;have:=z9p B.f;simp only;omega;unfold Bd.put;split;have:=z9p B.b;simp only;omega;have:=v4l B.b n.toNat s;simp only;omega;intro t D;unfold Bd.put at D;have J:∀l:Bed,(∀s∈l,s.length<=4)->∀t∈y6k l n.toNat s,t.length<=4:=λl hl t D=>by
  rcases u7q l _ s D with rfl|D|rfl
  exact h4;exact hl t D;simp
 have hf:∀s∈B.f,s.length<=4:=λs Z=>h.ss s (List.mem_append_left _ Z);have M:∀s∈B.b,s.length<=4:=λs Z=>h.ss s (List.mem_append_right _ Z);split at D;rcases List.mem_append.1 D with D|D
 exact J _ hf _ D;exact M _ (y3g _ D);rcases List.mem_append.1 D with D|D
 exact hf _ (y3g _ D);exact J _ M _ D;intro i I;rcases y0o hn I with I|I
 exact U i I;exact h.nm i I;rw[List.nodup_iff_count];intro i;have:=z4g B hn s i;have:=O i;omega
structure MInv (p:MSt):Prop where
  rk:-4<=p.rk/\p.rk<=4
  B:BdOk p.B
  ly:p.ys.length=6
  lt:p.tb.length=6
  yn:∀y,y<6->x0y (p.ys.getD y yn0)/\(p.ys.getD y yn0).ct=z2t p.tb y
  has:∀i∈p.B.flat,z4e p.tb i
  cnt:p.B.flat.length+p.fa.length<=z4v p.tb
  all:z4v p.tb<=2048
  cv:∀c∈p.cr,-1048576<=c.n/\c.n<=1048576
theorem y0z:MInv start:=by
 refine⟨by decide,⟨by decide,by decide,by intro s J;simp[start]at J,by intro i D;simp[start,Bd.flat]at D,by simp[start,Bd.flat]⟩,rfl,rfl,λy M=>?_,by intro i D;simp[start,Bd.flat]at D,by decide,by decide,by intro c I;simp[start]at I⟩;have:start.ys.getD y yn0=yn0:=by
  simp only[start,List.getD,List.getElem?_replicate];split<;>rfl
 rw[this];refine⟨by decide,?_⟩;simp only[start,z2t,List.getD,List.getElem?_replicate];rw[if_pos M];rfl
theorem y5e {o:MOp}(h:y3a o=0):(o.k=1\/o.k=2\/o.k=3\/o.k=4\/o.k=5\/o.k=6\/o.k=7\/o.k=8)/\(o.k=1->z5x o.d)/\((o.k=1\/o.k=2\/o.k=4\/o.k=5\/o.k=6)->1<=o.y/\o.y<=6)/\((o.k=4\/o.k=5\/o.k=6)->z5x o.d)/\((4<=o.k)->z4q o.b o.p=0)/\(o.k=3->-4<=o.r/\o.r<=4):=by
 unfold y3a at h
 split at h
 ·omega
 rename_i I
 have I:=Classical.not_not.1 I
 split at h
 ·omega
 rename_i hr
 obtain⟨D,J,M,O,U⟩:=I
 unfold z7z at D J M O U
 unfold z5x
 unfold pl1 at J
 unfold pl2 at M
 unfold pl3 at O
 unfold pl4 at U
 have Z:∀a:Int,¬(a≠0)->a=0:=λa h=>by omega
 repeat' split at D
 all_goals first|(simp at D;done)|skip
 all_goals simp_all
 all_goals omega
structure BdQ where
  f:SV
  b:SV
  fs:List IQ
  bs:List IQ
abbrev plB (l:List IQ):Bed:=l.map Prod.snd
abbrev BdQ.p (q:BdQ):Bd:=⟨plB q.fs,plB q.bs⟩
abbrev bdL (q:BdQ):List Value:=[.slice q.f.1 q.f.2.1 q.f.2.2,.slice q.b.1 q.b.2.1 q.b.2.2]
structure BdAt (w:World) (q:BdQ):Prop where
  f:Sl z5p w (slv q.f) q.fs
  fi:IqAt w q.fs
  b:Sl z5p w (slv q.b) q.bs
  bi:IqAt w q.bs
theorem BdAt.ext {w w':World}{q:BdQ}(h:BdAt w q)(hf:Fr [] w w'):BdAt w' q:=⟨h.f.ext hf,h.fi.ext hf,h.b.ext hf,h.bi.ext hf⟩
theorem BdAt.len {w:World}{q:BdQ}(h:BdAt w q):q.f.2.1=q.fs.length/\q.b.2.1=q.bs.length:=⟨z1x h.f,z1x h.b⟩
def RwO (S I base:Nat)(w:World)(v:Value)(l:List IQ):Prop:=Lw.Own z5p S base w v l/\∀q∈l,Lw.Own z1k I base w (slv q.1) q.2
theorem RwO.ext {S I base:Nat}{w w':World}{v:Value}{l:List IQ}(h:RwO S I base w v l)(hf:Fr [] w w'):RwO S I base w' v l:=⟨h.1.ext hf,λq D=>(h.2 q D).ext hf⟩
theorem RwO.low {S I base b:Nat}{w:World}{v:Value}{l:List IQ}(h:RwO S I base w v l)(hb:b<=base):RwO S I b w v l:=⟨h.1.low hb,λq D=>(h.2 q D).low hb⟩
theorem RwO.at {S I base:Nat}{w:World}{v:Value}{l:List IQ}(h:RwO S I base w v l):IqAt w l:=λq D=>(h.2 q D).sl
theorem RwO.fr {S I base:Nat}{w w':World}{v:Value}{l:List IQ}{T:List Nat}(h:RwO S I base w v l)(hf:Fr T w w')(M:∀k∈T,k<base):RwO S I base w' v l:=
 ⟨h.1.fr hf λk J D=>by have:=M k J;have:=(h.1.blk k D).1;omega,λq O=>(h.2 q O).fr hf λk J D=>by have:=M k J;have:=((h.2 q O).blk k D).1;omega⟩
structure BdO (S I base:Nat) (w:World) (q:BdQ):Prop where
  f:RwO S I base w (slv q.f) q.fs
  b:RwO S I base w (slv q.b) q.bs
theorem BdO.ext {S I base:Nat}{w w':World}{q:BdQ}(h:BdO S I base w q)(hf:Fr [] w w'):BdO S I base w' q:=⟨h.f.ext hf,h.b.ext hf⟩
theorem BdO.low {S I base b:Nat}{w:World}{q:BdQ}(h:BdO S I base w q)(hb:b<=base):BdO S I b w q:=⟨h.f.low hb,h.b.low hb⟩
theorem BdO.at {S I base:Nat}{w:World}{q:BdQ}(h:BdO S I base w q):BdAt w q:=⟨h.f.1.sl,h.f.at,h.b.1.sl,h.b.at⟩
theorem z3m (l:List IQ)(i:Nat):(plB l).getD i []=(l.getD i iq0).2:=by
 unfold plB;rw[List.getD,List.getD,List.getElem?_map];cases l[i]?<;>rfl
theorem x7e {l:List IQ}{i:Nat}(h:l.length<=i):(l.getD i iq0).2=[]:=by rw[List.getD,List.getElem?_eq_none h];rfl
theorem v2n (l:List IQ)(n M:Nat)(hM:M=max l.length n):plB (l++List.replicate (M-l.length) iq0)=x4b (plB l) n:=by
 unfold x4b plB;rw[List.map_append,List.map_replicate,List.length_map];congr 2;omega
theorem u2y (w:World):Sl z1k w (slv iq0.1) iq0.2:=Sl.nil w
theorem x8s {w:World}{l:List IQ}{k:Nat}(h:IqAt w l):IqAt w (l++List.replicate k iq0):=λq D=>by
 rcases List.mem_append.1 D with D|D
 ·exact h q D
 rw[List.eq_of_mem_replicate D];exact u2y w
theorem v9t {w:World}{l:List IQ}{i:Nat}{q:IQ}(h:IqAt w l)(I:Sl z1k w (slv q.1) q.2):IqAt w (l.set i q):=λp D=>by
 rcases List.mem_or_eq_of_mem_set D with D|rfl
 ·exact h p D
 exact I
def z9j (l:List IQ):Prop:=∀q∈l,q.2.length<=4
theorem x7y {l:List IQ}{k:Nat}(h:z9j l):z9j (l++List.replicate k iq0):=λq D=>by
 rcases List.mem_append.1 D with D|D
 ·exact h q D
 rw[List.eq_of_mem_replicate D];exact Nat.zero_le _
theorem u0d {l:List IQ}{i:Nat}{q:IQ}(h:z9j l)(I:q.2.length<=4):z9j (l.set i q):=λp D=>by
 rcases List.mem_or_eq_of_mem_set D with D|rfl
 ·exact h p D
 exact I
theorem z3g {l:List IQ}(h:z9j l)(i:Nat):(l.getD i iq0).2.length<=4:=by
 by_cases e:i<l.length;exact h _ (z0u e);rw[x7e (by omega)];simp
theorem z1u {w:World}{l:List IQ}(h:IqAt w l)(i:Nat):Sl z1k w (slv (l.getD i iq0).1) (l.getD i iq0).2:=by
 by_cases e:i<l.length;exact h _ (z0u e);rw[List.getD,List.getElem?_eq_none (by omega)];exact u2y w
theorem u9r {l m:List IQ}(h:z9j l)(e:plB m=plB l):z9j m:=λq J=>by
 have:q.2∈plB l:=by rw[<-e];exact List.mem_map_of_mem J
 obtain⟨M,D,I⟩:=List.mem_map.1 this
 rw[<-I];exact h M D
theorem u8j {l:List IQ}{i:Nat}{q:IQ}(h:q.2=(l.getD i iq0).2):plB (l.set i q)=plB l:=by
 unfold plB;rw[List.map_set];apply List.ext_getElem?;intro j;rw[List.getElem?_set];split;rename_i e;subst e;split;rename_i D;rw[List.length_map]at D;rw[List.getElem?_map,List.getElem?_eq_getElem D,h,List.getD,List.getElem?_eq_getElem D];rfl;rename_i D;rw[List.getElem?_eq_none (by omega)];rfl
def BdQ.sv (q:BdQ)(b:Int):SV:=if b=1 then q.b else q.f
def BdQ.l (q:BdQ)(b:Int):List IQ:=if b=1 then q.bs else q.fs
theorem BdAt.sel {w:World}{q:BdQ}(h:BdAt w q)(b:Int):Sl z5p w (slv (q.sv b)) (q.l b)/\IqAt w (q.l b):=by
 unfold BdQ.sv BdQ.l;split;exact⟨h.b,h.bi⟩;exact⟨h.f,h.fi⟩
theorem BdQ.at_l (q:BdQ){b p:Int}(hn:z4q b p=0):((q.l b).getD (p-1).toNat iq0).2=q.p.at b p:=by
 obtain⟨D,_,_⟩:=z3k hn;unfold BdQ.l Bd.at atB;split;rw[if_neg (by omega),z3m];rw[if_pos (by omega),z3m]
theorem u3x (l:Bed):y6k l 0 []=trimB l:=by unfold y6k;rw[if_pos rfl]
theorem j7o (B:Bd){b:Int}(n:Nat)(s:List LId)(h:b=0):(⟨y6k B.f n s,y6k B.b 0 []⟩:Bd)=B.put b (n:Int) s:=by
 unfold Bd.put;rw[if_pos h,u3x,Int.toNat_natCast]
theorem j6f (B:Bd){b:Int}(n:Nat)(s:List LId)(h:¬b=0):(⟨y6k B.f 0 [],y6k B.b n s⟩:Bd)=B.put b (n:Int) s:=by
 unfold Bd.put;rw[if_neg h,u3x,Int.toNat_natCast]
def PreO (I base:Nat)(w:World)(l:List IQ)(i:Nat):Prop:=∀j,j<i->Lw.Own z1k I base w (slv (l.getD j iq0).1) (l.getD j iq0).2
theorem PreO.zero {I base:Nat}{w:World}{l:List IQ}:PreO I base w l 0:=λj D=>absurd D (by omega)
theorem PreO.ext {I base i:Nat}{w w':World}{l:List IQ}(h:PreO I base w l i)(hf:Fr [] w w'):PreO I base w' l i:=λj D=>(h j D).ext hf
theorem PreO.fr {I base i:Nat}{w w':World}{l:List IQ}{S:List Nat}(h:PreO I base w l i)(hf:Fr S w w')(J:∀k∈S,k<base):PreO I base w' l i:=λj D=>(h j D).fr hf λk O M=>by
 have:=J k O;have:=((h j D).blk k M).1;omega
theorem PreO.put {I base i:Nat}{w:World}{l:List IQ}{q:IQ}(h:PreO I base w l i)(D:i<l.length)(J:Lw.Own z1k I base w (slv q.1) q.2):PreO I base w (l.set i q) (i+1):=λj M=>by
 rw[z1j D]
 split
 ·exact J
 exact h j (by omega)
theorem PreO.all {I base b:Nat}{w:World}{l:List IQ}(h:PreO I base w l l.length)(hb:b<=base):∀q∈l,Lw.Own z1k I b w (slv q.1) q.2:=λq J=>by
 obtain⟨j,D,rfl⟩:=List.getElem_of_mem J
 have:=h j D
 rw[List.getD,List.getElem?_eq_getElem D]at this
 exact this.low hb
theorem y5g {w:World}{l m:List IQ}{n:Nat}(e:m=l.take n)(h:IqAt w l):IqAt w m:=λq D=>h q (List.mem_of_mem_take (e▸D))
theorem u2h {l m:List IQ}{i:Nat}{q:IQ}(h:∀j,i<=j->l.getD j iq0=m.getD j iq0)(D:i<l.length):∀j,i+1<=j->(l.set i q).getD j iq0=m.getD j iq0:=λj I=>by
 rw[z1j D,if_neg (by omega)];exact h j (by omega)
theorem u6e {D O qs:List IQ}{m n:Nat}{s:List LId}(I:O=D.take m)(J:(plB D).take m=trimB (plB D))(M:plB D=if n=0 then plB qs else (x4b (plB qs) n).set (n-1) s):plB O=y6k (plB qs) n s:=by
 rw[I];unfold plB at *
 rw[List.map_take,J,M];rfl
theorem u0b {qs:List IQ}{n M:Nat}{s:List LId}(hn:n=0)(hM:M=max qs.length n):plB (qs++List.replicate (M-qs.length) iq0)=(if n=0 then plB qs else (x4b (plB qs) n).set (n-1) s):=by
 subst hn;rw[if_pos rfl,v2n qs 0 M hM];unfold x4b;simp
theorem u7f {qs:List IQ}{n M:Nat}{q:IQ}(hn:0<n)(hM:M=max qs.length n):plB ((qs++List.replicate (M-qs.length) iq0).set (n-1) q)=(if n=0 then plB qs else (x4b (plB qs) n).set (n-1) q.2):=by
 rw[if_neg (by omega),<-v2n qs n M hM];exact List.map_set
end Go.G08
namespace Go.Lw
open Go.RowKit
structure KeyLaw {κ:Type} [DecidableEq κ] (P:Program) (K:TypeId) (V:κ->Value):Prop where
  check:∀b k (w:World),(Instr.checkKey b 10000 K (V k)).run P w=.ok () w
  find:∀k (es:List MapEntry) (ks:List κ) (w:World),es.map (·.key)=ks.map V->
    (Instr.findKey K (V k) es).run P w=.ok ((ks.findIdx? (λx=>decide (k=x))).bind λi=>(es[i]?).map λe=>(i,e.val)) w
  bits:∀k,Instr.sameBits 10000 (V k) (V k)=true
def z2k {κ:Type}[DecidableEq κ]:List (κ×Value)->κ->Option Value
  | [],_=>none
  | p::r,k=>if k=p.1 then some p.2 else z2k r k
def MapF {κ:Type}[DecidableEq κ](V:κ->Value)(w:World)(g:Nat)(f:κ->Option Value):Prop:=
  ∃(es:Array MapEntry) (c:Nat) (m:List (κ×Value)),w.heap[g]?=some (.map es c)/\es.toList.map (λe=>(e.key,e.val))=m.map (λp=>(V p.1,p.2))/\∀k,z2k m k=f k
section
variable {κ:Type} [DecidableEq κ] {V:κ->Value} {P:Program} {K:TypeId}
theorem y0n (I:∀k k' (w:World),(Op.equal K (V k) (V k')).run P w=.ok (decide (k=k')) w)(k:κ):∀(D:List MapEntry) (ks:List κ) (i:Nat) (w:World),D.map (·.key)=ks.map V->
    (Instr.findAsking K (V k) D i).run P w=.ok ((ks.findIdx? (λx=>decide (k=x))).bind λj=>(D[j]?).map λe=>(i+j,e.val)) w
  | [],[],i,w,_=>by simp[Instr.findAsking]
  | [],_::_,_,_,h=>by simp at h
  | _::_,[],_,_,h=>by simp at h
  | e::D,x::ks,i,w,h=>by
    simp only[List.map_cons,List.cons.injEq]at h
    have J:=y0n I k D ks (i+1) w h.2
    simp only[Instr.findAsking,h.1,Sem.run_bind,I k x w,Result.andThen_ok]
    by_cases hx:k=x
    · simp[hx,List.findIdx?_cons]
    · simp only[hx,decide_false,Bool.false_eq_true,if_false,J,List.findIdx?_cons,Option.bind_map]
      congr 1
      cases hf:ks.findIdx? (λx=>decide (k=x)) with
      | none=>simp
      | some j=>simp[Nat.add_assoc,Nat.add_comm 1 j]
theorem KeyLaw.asking {d:TypeDesc}(J:P.underlying K=some d)(U:∀k k',Instr.sameNow d (V k) (V k')=none)(M:∀b k (w:World),(Instr.checkKey b 10000 K (V k)).run P w=.ok () w)
    (heq:∀k k' (w:World),(Op.equal K (V k) (V k')).run P w=.ok (decide (k=k')) w) (hb:∀k,Instr.sameBits 10000 (V k) (V k)=true):KeyLaw P K V:=by
  refine⟨M,λk I D w h=>?_,hb⟩
  cases I with
  | nil=>
    cases D with
    | nil=>simp[Instr.findKey,run_underlying J,Instr.findNow]
    | cons x D=>simp at h
  | cons e I=>
    cases D with
    | nil=>simp at h
    | cons x D=>
      have O:Instr.findNow d (V k) (e::I) 0=none:=by
        simp only[List.map_cons,List.cons.injEq]at h
        simp[Instr.findNow,h.1,U]
      have:=y0n heq k (e::I) (x::D) 0 w h
      simp only[Instr.findKey,Sem.run_bind,run_underlying J,Result.andThen_ok,O,this,Nat.zero_add]
theorem y7j {d:TypeDesc}(I:∀k k',Instr.sameNow d (V k) (V k')=some (decide (k=k')))(k:κ):∀(D:List MapEntry) (ks:List κ) (i:Nat),D.map (·.key)=ks.map V->
    Instr.findNow d (V k) D i=some ((ks.findIdx? (λx=>decide (k=x))).bind λj=>(D[j]?).map λe=>(i+j,e.val))
  | [],[],i,_=>by simp[Instr.findNow]
  | [],_::_,_,h=>by simp at h
  | _::_,[],_,h=>by simp at h
  | e::D,x::ks,i,h=>by
    simp only[List.map_cons,List.cons.injEq]at h
    have J:=y7j I k D ks (i+1) h.2
    simp only[Instr.findNow,h.1,I]
    by_cases hx:k=x
    · simp[hx,List.findIdx?_cons]
    · simp only[hx,decide_false,J,List.findIdx?_cons,Bool.false_eq_true,if_false,Option.bind_map]
      congr 2
      funext j;simp[Nat.add_assoc,Nat.add_comm 1 j]
theorem KeyLaw.now {d:TypeDesc}(M:P.underlying K=some d)(J:∀k k',Instr.sameNow d (V k) (V k')=some (decide (k=k')))(I:∀b k (w:World),(Instr.checkKey b 10000 K (V k)).run P w=.ok () w)
    (hb:∀k,Instr.sameBits 10000 (V k) (V k)=true):KeyLaw P K V:=by
  refine⟨I,λk D O w h=>?_,hb⟩
  have:=y7j J k D O 0 h
  simp only[Instr.findKey,Sem.run_bind,run_underlying M,Result.andThen_ok,this,Nat.zero_add,Sem.run_pure]
theorem y2a (m:List (κ×Value))(k:κ):∀(D:List MapEntry),D.map (λe=>(e.key,e.val))=m.map (λp=>(V p.1,p.2))->
    (((m.map (·.1)).findIdx? (λx=>decide (k=x))).bind λi=>(D[i]?).map λe=>(i,e.val)).map (·.2)=z2k m k:=by
  induction m with
  | nil=>intro D h;simp[z2k]
  | cons p m ih=>
    intro D h
    match D,h with
    | e::D,h=>
      simp only[List.map_cons,List.cons.injEq,Prod.mk.injEq]at h
      have:=ih D h.2
      unfold z2k
      by_cases hk:k=p.1
      · simp[hk,List.findIdx?_cons,h.1.2]
      · simp only[List.map_cons,List.findIdx?_cons,hk,decide_false,if_false,Bool.false_eq_true]
        rw[<-this]
        cases (m.map (·.1)).findIdx? (λx=>decide (k=x)) with
        | none=>simp
        | some j=>
          simp
          rfl
def z3x (m:List (κ×Value))(k:κ)(v:Value):List (κ×Value):=
  match (m.map (·.1)).findIdx? (λx=>decide (k=x)) with
  | some i=>m.modify i λp=>(p.1,v)
  | none=>m++[(k,v)]
theorem y2p (m:List (κ×Value))(k k':κ)(v:Value):(m.map (·.1)).findIdx? (λx=>decide (k=x))=none->z2k (m++[(k,v)]) k'=if k'=k then some v else z2k m k':=by
 induction m with
 | nil=>intro _;simp[z2k]
 | cons p m ih=>
  intro h;simp only[List.map_cons,List.findIdx?_cons]at h;split at h;cases h;rename_i I;have D:¬k=p.1:=by simpa using I
  have:=ih (by simpa using h);simp only[List.cons_append,z2k,this];by_cases e:k'=p.1;subst e;simp[Ne.symm D];simp[e]
theorem z8r (k k':κ)(v:Value):∀(m:List (κ×Value)) (i:Nat),(m.map (·.1)).findIdx? (λx=>decide (k=x))=some i->z2k (m.modify i λp=>(p.1,v)) k'=if k'=k then some v else z2k m k'
 | [],i,h=>by simp at h
 | p::m,i,h=>by
  simp only[List.map_cons,List.findIdx?_cons]at h
  split at h
  ·rename_i I
   have D:k=p.1:=by simpa using I
   simp at h;subst h
   simp only[List.modify_zero_cons,z2k,D]
   by_cases e:k'=p.1<;>simp[e]
  rename_i I
  have D:¬k=p.1:=by simpa using I
  cases hf:(m.map (·.1)).findIdx? (λx=>decide (k=x)) with
  | none=>rw[hf]at h;simp at h
  | some j=>
   rw[hf]at h;simp at h;subst h
   have:=z8r k k' v m j hf
   simp only[List.modify_succ_cons,z2k,this]
   by_cases e:k'=p.1
   ·subst e;simp[Ne.symm D]
   simp[e]
theorem MapF.fr {w w':World}{g:Nat}{f:κ->Option Value}{S:List Nat}(h:MapF V w g f)(hf:Fr S w w')(hn:g∉S:=by simp[z0x]<;>omega):MapF V w' g f:=by
 obtain⟨I,c,m,D,J,M⟩:=h;exact⟨I,c,m,(hf.block g (Array.getElem?_eq_some_iff.1 D).1 hn).trans D,J,M⟩
theorem MapF.ext {w w':World}{g:Nat}{f:κ->Option Value}(h:MapF V w g f)(hf:Fr [] w w'):MapF V w' g f:=h.fr hf (by simp)
theorem MapF.lt {w:World}{g:Nat}{f:κ->Option Value}(h:MapF V w g f):g<w.heap.size:=let ⟨_,_,_,h1,_⟩:=h;(Array.getElem?_eq_some_iff.1 h1).1
theorem MapF.ne_blk {w:World}{g D T:Nat}{f:κ->Option Value}{cs:List Value}(h:MapF V w g f)(I:Blk w D T cs):g≠D:=by
 rintro rfl;obtain⟨_,_,_,J,_⟩:=h;unfold Blk at I;rw[I]at J;cases J
theorem z2l {w:World}{g:Nat}{D:Array MapEntry}{c:Nat}(h:w.heap[g]?=some (.map D c)):(getObj g).run P w=.ok (.map D c) w:=by
 simp[getObj,Sem.run,h]
theorem y6y {w:World}{g:Nat}{f:κ->Option Value}{t E:TypeId}{z:Value}(h:MapF V w g f)(O:KeyLaw P K V)(hu:P.underlying t=some (.map K E))(hz:(zeroValue E).run P w=.ok z w)(k:κ) :
    (Instr.lookup t (.map (some g)) (V k) false).run P w=.ok ((f k).getD z) w:=by
  obtain⟨M,c,m,U,Z,h3⟩:=h
  have J:M.toList.map (·.key)=(m.map (·.1)).map V:=by
    have:=congrArg (List.map Prod.fst) Z
    simpa[List.map_map,Function.comp_def] using this
  have I:=O.find k M.toList (m.map (·.1)) w J
  have D:=y2a (V:=V) m k M.toList Z
  rw[h3]at D
  generalize ((m.map (·.1)).findIdx? (λx=>decide (k=x))).bind (λi=>(M.toList[i]?).map λe=>(i,e.val))=r at I D
  cases r with
  | none=>simp at D;simp[Instr.lookup,run_underlying hu,z2l U,O.check,I,hz,<-D]
  | some p=>simp at D;simp[Instr.lookup,run_underlying hu,z2l U,O.check,I,<-D]
theorem x4o {w:World}{g:Nat}{f:κ->Option Value}{t E:TypeId}{z:Value}(h:MapF V w g f)(O:KeyLaw P K V)(hu:P.underlying t=some (.map K E))(hz:(zeroValue E).run P w=.ok z w)(k:κ) :
    (Instr.lookup t (.map (some g)) (V k) true).run P w=.ok (.tuple #[(f k).getD z,.bool (f k).isSome]) w:=by
  obtain⟨M,c,m,U,Z,h3⟩:=h
  have J:M.toList.map (·.key)=(m.map (·.1)).map V:=by
    have:=congrArg (List.map Prod.fst) Z
    simpa[List.map_map,Function.comp_def] using this
  have I:=O.find k M.toList (m.map (·.1)) w J
  have D:=y2a (V:=V) m k M.toList Z
  rw[h3]at D
  generalize ((m.map (·.1)).findIdx? (λx=>decide (k=x))).bind (λi=>(M.toList[i]?).map λe=>(i,e.val))=r at I D
  cases r with
  | none=>simp at D;simp[Instr.lookup,run_underlying hu,z2l U,O.check,I,hz,<-D]
  | some p=>simp at D;simp[Instr.lookup,run_underlying hu,z2l U,O.check,I,<-D]
theorem y0q {w:World}{g:Nat}{f:κ->Option Value}{t E:TypeId}(h:MapF V w g f)(hk:KeyLaw P K V)(hu:P.underlying t=some (.map K E))(k:κ)(v:Value) :
    ∃w',(Instr.mapUpdate t (.map (some g)) (V k) v).run P w=.ok () w'/\MapF V w' g (λk'=>if k'=k then some v else f k')/\Fr [g] w w'/\w'.heap.size=w.heap.size:=by
  obtain⟨D,c,m,h1,h2,h3⟩:=h
  have a4:=(Array.getElem?_eq_some_iff.1 h1).1
  have M:D.toList.map (·.key)=(m.map (·.1)).map V:=by
    have:=congrArg (List.map Prod.fst) h2
    simpa[List.map_map,Function.comp_def] using this
  have I:=hk.find k D.toList (m.map (·.1)) w M
  have U:∀o,(setObj g o).run P w=.ok () { w with heap:=w.heap.setIfInBounds g o }:=by intro o;simp[setObj,Sem.run,h1]
  have a1:∀o,Fr [g] w { w with heap:=w.heap.setIfInBounds g o }:=λo=>⟨rfl,rfl,rfl,by simp,λi _ hn=>by
    simp only
    rw[Array.getElem?_setIfInBounds_ne (by intro e;subst e;simp at hn)]⟩
  have J:∀o,({ w with heap:=w.heap.setIfInBounds g o }:World).heap[g]?=some o:=by intro o;simp[a4]
  have a6:D.toList.length=m.length:=by have:=congrArg List.length h2;simpa using this
  cases hf:(m.map (·.1)).findIdx? (λx=>decide (k=x)) with
  | none=>
    refine⟨_,?_,⟨_,_,m++[(k,v)],J (.map (D.push { key:=V k,val:=v,born:=c }) (c+1)),?_,λk'=>?_⟩,a1 _,by simp⟩
    · rw[hf]at I
      simp only[Instr.mapUpdate,Sem.run_bind,run_underlying hu,Result.andThen_ok,z2l h1,hk.check,I,Option.bind_none,U]
    · simp[h2]
    · rw[y2p m k k' v hf,h3]
  | some i=>
    have hi:i<m.length:=by
      have:=List.findIdx?_eq_some_iff_findIdx_eq.1 hf
      simpa using this.1
    have O:i<D.toList.length:=by omega
    have a2:V k=(D.toList[i]).key:=by
      have a3:=List.findIdx?_eq_some_iff_getElem.1 hf
      obtain⟨a7,hp,_⟩:=a3
      have a5:k=(m.map (·.1))[i]:=by simpa using hp
      have e1:(D.toList.map (·.key))[i]?=((m.map (·.1)).map V)[i]?:=by rw[M]
      simp only[List.getElem?_map,List.getElem?_eq_getElem O,List.getElem?_eq_getElem hi,Option.map_some,Option.some.injEq]at e1
      rw[e1,a5];simp
    refine⟨_,?_,⟨_,_,m.modify i λp=>(p.1,v),J (.map (D.modify i λe=>{ e with key:=V k,val:=v }) c),?_,λk'=>?_⟩,a1 _,by simp⟩
    · rw[hf]at I
      have Z:D[i]?=some D.toList[i]:=by rw[<-Array.getElem?_toList,List.getElem?_eq_getElem O]
      simp only[Option.bind_some,List.getElem?_eq_getElem O,Option.map_some]at I
      have a0:(Instr.keyThatStays (((D[i]?).map (·.key)).getD (V k)) (V k)).run P w=.ok (V k) w:=by
        rw[Z]
        simp only[Option.map_some,Option.getD_some,<-a2,Instr.keyThatStays,hk.bits,if_true,Sem.run_pure]
      simp only[Instr.mapUpdate,Sem.run_bind,run_underlying hu,Result.andThen_ok,z2l h1,hk.check,I,a0,U]
    · apply List.ext_getElem?
      intro j
      have e2:=congrArg (·[j]?) h2
      simp only[List.getElem?_map]at e2 ⊢
      rw[Array.getElem?_toList,Array.getElem?_modify,List.getElem?_modify]
      rw[Array.getElem?_toList]at e2
      by_cases hj:i=j
      · subst hj
        have e3:=List.getElem?_eq_getElem hi
        have Z:D[i]?=some D.toList[i]:=by rw[<-Array.getElem?_toList,List.getElem?_eq_getElem O]
        rw[Z,e3]at e2 ⊢
        simp only[Option.map_some,Option.some.injEq,Prod.mk.injEq]at e2
        simp only[if_true,Option.map_some]
        rw[a2,e2.1];rfl
      · simp only[hj,if_false]
        rw[e2];simp
    · rw[z8r k k' v m i hf,h3]
variable {a:Act} {n:Nat} {L:List (Nat×Value)} {ds:List Nat} {w w':World} {Q:Exit->Act->World->Prop} {C:World->Prop} {Qa:Act->Prop} {ops:Array Oper} {rest:List Oper}
variable {d:Nat} {ty:TypeId} {pos:String} {after:Array Edge} {x y z:Operand} {t E:TypeId} {g:Nat} {f:κ->Option Value} {k:κ} {v zv:Value}
theorem x9u (V:κ->Value)(h:AgM ds a n L)(hn:Nat.blt d n=true)
    (q:∀g w',g=w.heap.size->MapF V w' g (λ_=>none)->Fr [] w w'->w'.heap.size=g+1->∀a,AgM ds a n ((d,.map (some g))::L)->wpList P ops Q rest a w'):wpList P ops Q (⟨some d,.makeMap t none,ty,pos,after,none⟩::rest) a w:=
  z1t h rfl rfl hn (w':=w.alloc (.map #[] 0)) (by simp[execOp,Instr.makeMap]) (q _ _ rfl ⟨_,_,[],heap_alloc_new w _,by simp,λ_=>rfl⟩ (Fr.alloc [] w _) (by simp))
theorem y6a (V:κ->Value)(hn:Nat.blt d n=true)(q:∀g w',g=w.heap.size->MapF V w' g (λ_=>none)->Fr [] w w'->w'.heap.size=g+1->WL P ops Q rest n ds w' ((d,.map (some g))::L)):WL P ops Q (⟨some d,.makeMap t none,ty,pos,after,none⟩::rest) n ds w L:=λa h=>x9u V h hn q
theorem v7h (h:AgM ds a n L)(M:ev L x=some (.map (some g)))(O:ev L y=some (V k))(I:MapF V w g f)(D:KeyLaw P K V)(J:P.underlying t=some (.map K E))(U:∀w:World,(zeroValue E).run P w=.ok zv w) :
    (execOp a.eval ⟨some d,.lookup t x y false,ty,pos,after,none⟩).run P w=.ok (.value ((f k).getD zv)) w:=by
  simp[execOp,h.eval M,h.eval O,y6y I D J (U w) k]
theorem y0p (h:AgM ds a n L)(O:ev L x=some (.map (some g)))(U:ev L y=some (V k))(I:MapF V w g f)(D:KeyLaw P K V)(J:P.underlying t=some (.map K E))(Z:∀w:World,(zeroValue E).run P w=.ok zv w)(M:(f k).getD zv=v)(hn:Nat.blt d n=true)
    (q:∀a,AgM ds a n ((d,v)::L)->wpList P ops Q rest a w):wpList P ops Q (⟨some d,.lookup t x y false,ty,pos,after,none⟩::rest) a w:=
  z1t h rfl rfl hn (by rw[<-M];exact v7h h O U I D J Z) q
theorem y8o (O:ev L x=some (.map (some g)))(U:ev L y=some (V k))(I:MapF V w g f)(D:KeyLaw P K V)(J:P.underlying t=some (.map K E))(Z:∀w:World,(zeroValue E).run P w=.ok zv w)(M:(f k).getD zv=v)(hn:Nat.blt d n=true)(q:WL P ops Q rest n ds w ((d,v)::L)):WL P ops Q (⟨some d,.lookup t x y false,ty,pos,after,none⟩::rest) n ds w L:=λa h=>y0p h O U I D J Z M hn q
theorem x9v (h:AgM ds a n L)(M:ev L x=some (.map (some g)))(O:ev L y=some (V k))(I:MapF V w g f)(D:KeyLaw P K V)(J:P.underlying t=some (.map K E))(U:∀w:World,(zeroValue E).run P w=.ok zv w) :
    (execOp a.eval ⟨some d,.lookup t x y true,ty,pos,after,none⟩).run P w=.ok (.value (.tuple #[(f k).getD zv,.bool (f k).isSome])) w:=by
  simp[execOp,h.eval M,h.eval O,x4o I D J (U w) k]
theorem y1r {D:Bool}(h:AgM ds a n L)(U:ev L x=some (.map (some g)))(Z:ev L y=some (V k))(J:MapF V w g f)(I:KeyLaw P K V)(M:P.underlying t=some (.map K E))(hz:∀w:World,(zeroValue E).run P w=.ok zv w)(O:(f k).getD zv=v)(hb:(f k).isSome=D)(hn:Nat.blt d n=true)
    (q:∀a,AgM ds a n ((d,.tuple #[v,.bool D])::L)->wpList P ops Q rest a w):wpList P ops Q (⟨some d,.lookup t x y true,ty,pos,after,none⟩::rest) a w:=
  z1t h rfl rfl hn (by rw[<-O,<-hb];exact x9v h U Z J I M hz) q
theorem v4m (h:AgM ds a n L)(hx:ev L x=some (.map (some g)))(hy:ev L y=some (V k))(hz:ev L z=some v)(O:MapF V w g f)(M:KeyLaw P K V)(Z:P.underlying t=some (.map K E))
    (q:∀w',MapF V w' g (λk'=>if k'=k then some v else f k')->Fr [g] w w'->w'.heap.size=w.heap.size->∀a,AgM ds a n L->wpList P ops Q rest a w'):wpList P ops Q (⟨none,.insert t x y z,ty,pos,after,none⟩::rest) a w:=by
  obtain⟨w',U,D,I,J⟩:=y0q O M Z k v
  exact z9g h rfl rfl (w':=w') (by simp[execOp,h.eval hx,h.eval hy,h.eval hz,U]) (q w' D I J)
theorem z2x (M:ev L x=some (.map (some g)))(O:ev L y=some (V k))(U:ev L z=some v)(I:MapF V w g f)(D:KeyLaw P K V)(J:P.underlying t=some (.map K E))(q:∀w',MapF V w' g (λk'=>if k'=k then some v else f k')->Fr [g] w w'->w'.heap.size=w.heap.size->WL P ops Q rest n ds w' L):WL P ops Q (⟨none,.insert t x y z,ty,pos,after,none⟩::rest) n ds w L:=λa h=>v4m h M O U I D J q
theorem v1l (h:AgM ds a n L)(hx:ev L x=some (.map (some g)))(hy:ev L y=some (V k))(hz:ev L z=some v)(O:MapF V w g f)(M:KeyLaw P K V)(Z:P.underlying t=some (.map K E))
    (q:∀w',MapF V w' g (λk'=>if k'=k then some v else f k')->Fr [g] w w'->w'.heap.size=w.heap.size->∀a,AgM ds a n L->wpList P ops Q rest a w'):wpList P ops Q (⟨none,.mapUpdate t x y z,ty,pos,after,none⟩::rest) a w:=by
  obtain⟨w',U,D,I,J⟩:=y0q O M Z k v
  exact z9g h rfl rfl (w':=w') (by simp[execOp,h.eval hx,h.eval hy,h.eval hz,U]) (q w' D I J)
theorem x0j (M:ev L x=some (.map (some g)))(O:ev L y=some (V k))(U:ev L z=some v)(I:MapF V w g f)(D:KeyLaw P K V)(J:P.underlying t=some (.map K E))(q:∀w',MapF V w' g (λk'=>if k'=k then some v else f k')->Fr [g] w w'->w'.heap.size=w.heap.size->WL P ops Q rest n ds w' L):WL P ops Q (⟨none,.mapUpdate t x y z,ty,pos,after,none⟩::rest) n ds w L:=λa h=>v1l h M O U I D J q
end
end Go.Lw
namespace Go.Lw
open Go.RowKit
section
variable {P:Program} {n:Nat} {L:List (Nat×Value)} {ds:List Nat} {w w':World} {Q:Exit->Act->World->Prop} {ops:Array Oper} {rest:List Oper} {a:Act} {d:Nat} {ty T t:TypeId} {pos:String} {after:Array Edge} {v:Value} {x y:Operand}
theorem u9u {α:Type}{E:Enc α}{O base g cap:Nat}{zs ys:List α}(h:AgM ds a n L)(hx:ev L x=some (.slice (some ⟨g,0,none⟩) zs.length cap))(hy:ev L y=some v)(ho:Own E T base w (.slice (some ⟨g,0,none⟩) zs.length cap) zs)(hs:Sl E w v ys)(hl:ys.length=zs.length)(he:ElemOf P t T E O)(hn:Nat.blt d n=true)
    (q:∀w',Own E T base w' (.slice (some ⟨g,0,none⟩) zs.length cap) ys->Fr [g] w w'->w'.heap.size=w.heap.size->∀a,AgM ds a n ((d,.int .i64 (zs.length:Int))::L)->wpList P ops Q rest a w'):wpList P ops Q (⟨some d,.call ⟨.builtin .copy,#[x,y],#[t,t]⟩,ty,pos,after,none⟩::rest) a w:=by
  obtain⟨i,z,h1,h2,h3,h4,h5⟩:=he.info
  obtain⟨A,c,rfl,hc,hM,hA⟩:=hs.flat
  rcases ho with ⟨e,_⟩|⟨g',a4,cur,e,hb,hg,r1,r2,r3,r4⟩
  · cases e
  cases e
  have Z:ys.length*E.sz<=cur.size:=by rw[hl];exact Nat.le_trans (Nat.mul_le_mul_right _ r1) r3
  obtain⟨cs,D⟩:∃cs,ys.flatMap E.enc=cs:=⟨_,rfl⟩
  have I:cs.length=zs.length*E.sz:=by rw[<-D,E.flat_len,hl]
  have M:=E.flat_one ys
  rw[D]at M hA
  have a0:=run_storeCells_at P g 0 T cs 0 cur w hg (by rw[I];rw[hl]at Z;simpa using Z) M
  simp only[Nat.zero_add,List.take_zero,List.nil_append]at a0
  have a3:(Builtin.copy_ #[t,t] ty #[.slice (some ⟨g,0,none⟩) zs.length cap,.slice A ys.length c]).run P w=.ok (.int .i64 (zs.length:Int)) (w.setRow g (cs++cur.toList.drop cs.length).toArray):=by
    have U:(Builtin.firstCells E.sz zs.length (.slice A ys.length c)).run P w=.ok cs.toArray w:=by
      by_cases hys:ys=[]
      · have h0:zs.length=0:=by rw[<-hl,hys];rfl
        have a1:cs=[]:=by rw[<-D,hys];rfl
        rw[h0,a1]
        cases A with
        | none=>simp[Builtin.firstCells]
        | some ad=>simp[Builtin.firstCells,loadCells,loadCellsFrom]
      · obtain⟨ad,rfl,a2⟩:=hA hys
        have J:=run_loadCells_list (P:=P) w ad cs a2
        rw[I]at J
        simpa[Builtin.firstCells] using J
    rw[hl]at U
    simp only[Builtin.copy_,List.getElem?_toArray,List.getElem?_cons_zero,List.getElem?_cons_succ,Sem.run_bind,run_underlying he.und,Result.andThen_ok,Builtin.lenOf,Sem.run_pure,hl,Nat.min_self,show ∀m:Nat,Nat.min m m=m from Nat.min_self,sizeOf,typeInfo]
    simp[h1,h3,U,a0,goInt]
  refine z1t h rfl rfl hn (w':=w.setRow g (cs++cur.toList.drop cs.length).toArray) ?_ (q _ (.inr ⟨g,cap,_,by rw[hl],hb,setRow_heap w g cur _ T (0,0) hg,by rw[hl];exact r1,r2,?_,?_⟩) (Fr.setRow w g _) (by simp))
  · rw[z1z];unfold builtin
    simp only[List.map_toArray,List.map_cons,List.map_nil,h.eval hx,h.eval hy,Sem.run_bind,a3,Result.andThen_ok,Sem.run_pure]
  · simp only[List.size_toArray,List.length_append,List.length_drop,Array.length_toList];omega
  · rw[hl,<-I,D];simp
theorem z7k {α:Type}{E:Enc α}{D base g cap:Nat}{zs ys:List α}(O:ev L x=some (.slice (some ⟨g,0,none⟩) zs.length cap))(U:ev L y=some v)(J:Own E T base w (.slice (some ⟨g,0,none⟩) zs.length cap) zs)(M:Sl E w v ys)(hl:ys.length=zs.length)(I:ElemOf P t T E D)(q:∀w',Own E T base w' (.slice (some ⟨g,0,none⟩) zs.length cap) ys->Fr [g] w w'->w'.heap.size=w.heap.size->WL P ops Q rest n ds w' ((d,.int .i64 (zs.length:Int))::L))(hn:Nat.blt d n=true:=by exact rfl):WL P ops Q (⟨some d,.call ⟨.builtin .copy,#[x,y],#[t,t]⟩,ty,pos,after,none⟩::rest) n ds w L:=λa h=>u9u h O U J M hl I hn q
end
end Go.Lw
namespace Go.Lw
open Go.RowKit
section
variable {P:Program} {n:Nat} {L:List (Nat×Value)} {ds:List Nat} {w w':World} {Q:Exit->Act->World->Prop} {ops:Array Oper} {rest:List Oper} {a:Act} {d:Nat} {ty T t:TypeId} {pos:String} {after:Array Edge} {v:Value} {x y:Operand}
theorem u0j {α:Type}{E:Enc α}{a3 base g m cap p k:Nat}{zs ys:List α}(h:AgM ds a n L)(hx:ev L x=some (.slice (some ((⟨g,0,none⟩:Addr).add (p*E.sz))) (m-p) (cap-p)))(hy:ev L y=some v)(ho:Own E T base w (.slice (some ⟨g,0,none⟩) m cap) zs)(hs:Sl E w v ys)(hp:p<=m)(hk:k=min (m-p) ys.length)(he:ElemOf P t T E a3)(hn:Nat.blt d n=true)
    (q:∀w',Own E T base w' (.slice (some ⟨g,0,none⟩) m cap) (zs.take p++ys.take k++zs.drop (p+k))->Fr [g] w w'->w'.heap.size=w.heap.size->∀a,AgM ds a n ((d,.int .i64 (k:Int))::L)->wpList P ops Q rest a w'):wpList P ops Q (⟨some d,.call ⟨.builtin .copy,#[x,y],#[t,t]⟩,ty,pos,after,none⟩::rest) a w:=by
  obtain⟨i,z,h1,h2,h3,h4,h5⟩:=he.info
  rcases ho with ⟨e,_⟩|⟨g',d1,cur,e,hb,hg,r1,r2,r3,r4⟩
  · cases e
  cases e
  obtain⟨A0,c0,e0,_,b3,_⟩:=id hs
  subst e0
  have c1:k<=ys.length:=by omega
  have d0:=hs.take rfl (m:=k) c1 (B:=A0) (c':=c0) (by omega) b3 (λ_=>rfl)
  obtain⟨A,c,e2,hc,hM,hA⟩:=d0.flat
  have a0:(ys.take k).length=k:=by rw[List.length_take];omega
  rw[a0]at e2
  simp only[Value.slice.injEq]at e2
  obtain⟨rfl,-,rfl⟩:=e2
  obtain⟨cs,J⟩:∃cs,(ys.take k).flatMap E.enc=cs:=⟨_,rfl⟩
  have U:cs.length=k*E.sz:=by rw[<-J,E.flat_len,a0]
  have a2:=E.flat_one (ys.take k)
  rw[J]at a2 hA
  have c9:p+k<=zs.length:=by omega
  have d3:p*E.sz+k*E.sz<=zs.length*E.sz:=by rw[<-Nat.add_mul];exact Nat.mul_le_mul_right _ c9
  have b6:zs.length*E.sz<=cur.size:=Nat.le_trans (Nat.mul_le_mul_right _ r1) r3
  have b0:=run_storeCells_at P g (p*E.sz) T cs 0 cur w hg (by rw[U];omega) a2
  rw[Nat.add_zero,U]at b0
  have b9:(Builtin.firstCells E.sz k (.slice A0 ys.length c0)).run P w=.ok cs.toArray w:=by
    by_cases hys:ys.take k=[]
    · have h0:k=0:=by have:=congrArg List.length hys;rw[a0]at this;simpa using this
      have b4:cs=[]:=by rw[<-J,hys];rfl
      rw[h0,b4]
      cases A0 with
      | none=>simp[Builtin.firstCells]
      | some ad=>simp[Builtin.firstCells,loadCells,loadCellsFrom]
    · obtain⟨ad,rfl,b5⟩:=hA hys
      have Z:=run_loadCells_list (P:=P) w ad cs b5
      rw[U]at Z
      simpa[Builtin.firstCells] using Z
  have b2:(Builtin.copy_ #[t,t] ty #[.slice (some ((⟨g,0,none⟩:Addr).add (p*E.sz))) (zs.length-p) (cap-p),.slice A0 ys.length c0]).run P w=.ok (.int .i64 (k:Int)) (w.setRow g (cur.toList.take (p*E.sz)++cs++cur.toList.drop (p*E.sz+k*E.sz)).toArray):=by
    rw[z3s,Nat.zero_add]
    have a7:Nat.min (zs.length-p) ys.length=k:=hk.symm
    have a5:Nat.min ys.length (zs.length-p)=k:=(Nat.min_comm _ _).trans hk.symm
    simp only[Builtin.copy_,List.getElem?_toArray,List.getElem?_cons_zero,List.getElem?_cons_succ,Sem.run_bind,run_underlying he.und,Result.andThen_ok,Builtin.lenOf,Sem.run_pure,a7,sizeOf,typeInfo]
    simp[h1,h3,b9,b0,goInt,a5]
  obtain⟨D,O,I,rfl,b1,a6⟩:∃D O I,zs=D++(O++I)/\D.length=p/\O.length=k:=⟨zs.take p,(zs.drop p).take k,(zs.drop p).drop k,by rw[List.take_append_drop,List.take_append_drop],by rw[List.length_take];omega,by rw[List.length_take,List.length_drop];omega⟩
  have a8:(D++(O++I)).take p++ys.take k++(D++(O++I)).drop (p+k)=D++(ys.take k++I):=by
    rw[<-b1,List.take_left,<-a6,<-List.drop_drop,List.drop_left,List.drop_left,List.append_assoc]
  rw[a8]at q
  have a4:(D++(ys.take k++I)).length=(D++(O++I)).length:=by simp only[List.length_append,a0,a6]
  have a1:cur.toList=(D++(O++I)).flatMap E.enc++cur.toList.drop ((D++(O++I)).length*E.sz):=by
    rw[<-r4,List.take_append_drop]
  have b7:(D.flatMap E.enc).length=p*E.sz:=by rw[E.flat_len,b1]
  have b8:(O.flatMap E.enc).length=k*E.sz:=by rw[E.flat_len,a6]
  have a9:cur.toList.take (p*E.sz)++cs++cur.toList.drop (p*E.sz+k*E.sz)=(D++(ys.take k++I)).flatMap E.enc++cur.toList.drop ((D++(O++I)).length*E.sz):=by
    generalize cur.toList.drop ((D++(O++I)).length*E.sz)=R at a1 ⊢
    rw[a1]
    simp only[List.flatMap_append,List.append_assoc]
    rw[<-b7,List.take_left,<-b8,<-List.drop_drop,List.drop_left,List.drop_left,J]
  rw[a9]at b2
  refine z1t h rfl rfl hn (w':=w.setRow g ((D++(ys.take k++I)).flatMap E.enc++cur.toList.drop ((D++(O++I)).length*E.sz)).toArray) ?_ (q _ (.inr ⟨g,cap,_,by rw[a4],hb,setRow_heap w g cur _ T (0,0) hg,by rw[a4];exact r1,r2,?_,?_⟩) (Fr.setRow w g _) (by simp))
  · rw[z1z];unfold builtin
    simp only[List.map_toArray,List.map_cons,List.map_nil,h.eval hx,h.eval hy,Sem.run_bind,b2,Result.andThen_ok,Sem.run_pure]
  · have e1:((D++(ys.take k++I)).flatMap E.enc).length=(D++(O++I)).length*E.sz:=by rw[E.flat_len,a4]
    generalize (D++(ys.take k++I)).flatMap E.enc=X at e1
    generalize (D++(O++I)).length*E.sz=M at e1 b6
    simp only[List.size_toArray,List.length_append,List.length_drop,Array.length_toList]
    omega
  · show List.take _ _=_
    rw[show (D++(ys.take k++I)).length*E.sz=((D++(ys.take k++I)).flatMap E.enc).length by rw[E.flat_len]]
    exact List.take_left
theorem u9m {α:Type}{E:Enc α}{D base g m cap p k:Nat}{zs ys:List α}(U:ev L x=some (.slice (some ((⟨g,0,none⟩:Addr).add (p*E.sz))) (m-p) (cap-p)))(Z:ev L y=some v)(M:Own E T base w (.slice (some ⟨g,0,none⟩) m cap) zs)(O:Sl E w v ys)(hp:p<=m)(J:k=min (m-p) ys.length)(I:ElemOf P t T E D)(hn:Nat.blt d n=true)
 (q:∀w',Own E T base w' (.slice (some ⟨g,0,none⟩) m cap) (zs.take p++ys.take k++zs.drop (p+k))->Fr [g] w w'->w'.heap.size=w.heap.size->WL P ops Q rest n ds w' ((d,.int .i64 (k:Int))::L)):WL P ops Q (⟨some d,.call ⟨.builtin .copy,#[x,y],#[t,t]⟩,ty,pos,after,none⟩::rest) n ds w L:=λa h=>u0j h U Z M O hp J I hn q
end
end Go.Lw
namespace Go.Lw
open Go.RowKit
theorem v6u {α:Type}{E:Enc α}{ys:List α}{i f:Nat}{z y:α}{v:Value}(J:ys[i]?=some y)(hf:f<E.sz)(U:(E.enc y).set f v=E.enc z)(rest:List Value) :
    (ys.flatMap E.enc++rest).set (i*E.sz+f) v=(ys.set i z).flatMap E.enc++rest:=by
  have D:=(List.getElem?_eq_some_iff.1 J).1
  have M:ys.set i y=ys:=by
    apply List.ext_getElem?
    intro k
    rw[List.getElem?_set]
    by_cases e:i=k
    · subst e;rw[if_pos rfl,if_pos D,J]
    · rw[if_neg e]
  have I:=z7w (E:=E) ys y rest i D
  have O:=z7w (E:=E) ys z rest i D
  rw[M]at I
  rw[<-O]
  conv=>lhs;rw[<-I]
  have hl:((ys.flatMap E.enc++rest).take (i*E.sz)).length=i*E.sz:=by
    rw[List.length_take,List.length_append,E.flat_len]
    have:i*E.sz+E.sz<=ys.length*E.sz:=by rw[<-Nat.succ_mul];exact Nat.mul_le_mul_right _ D
    omega
  rw[List.append_assoc,List.set_append_right _ _ (by omega),hl,Nat.add_sub_cancel_left,List.set_append_left _ _ (by rw[E.len];exact hf),U,List.append_assoc]
section
variable {P:Program} {a:Act} {n:Nat} {L:List (Nat×Value)} {ds:List Nat} {w:World} {Q:Exit->Act->World->Prop} {ops:Array Oper} {rest:List Oper} {d:Nat} {ty t T:TypeId} {pos:String} {after:Array Edge} {x y:Operand} {v:Value}
theorem y4d {α:Type}{E:Enc α}{base g m c i f:Nat}{ys:List α}(u z:α)(h:AgM ds a n L)(hx:ev L x=some (.pointer (some ((⟨g,0,none⟩:Addr).add (i*E.sz+f)))))(hy:ev L y=some v)(ho:Own E T base w (.slice (some ⟨g,0,none⟩) m c) ys)(M:ys[i]?=some u)(hf:f<E.sz)
    (hz:(E.enc u).set f v=E.enc z) (h1:v.oneCell'=true) (hc:v.cells=#[v]) (hs:z1p P t 1)
    (q:∀w',Own E T base w' (.slice (some ⟨g,0,none⟩) m c) (ys.set i z)->Fr [g] w w'->w'.heap.size=w.heap.size->∀a,AgM ds a n L->wpList P ops Q rest a w'):wpList P ops Q (⟨none,.store t x y,ty,pos,after,none⟩::rest) a w:=by
  rcases ho with ⟨e,_⟩|⟨g',cap,cur,e,Z,hg,r1,r2,r3,r4⟩
  · cases e
  cases e
  have J:=(List.getElem?_eq_some_iff.1 M).1
  have h5:i*E.sz+E.sz<=ys.length*E.sz:=by rw[<-Nat.succ_mul];exact Nat.mul_le_mul_right _ J
  have a0:ys.length*E.sz<=cur.size:=Nat.le_trans (Nat.mul_le_mul_right _ r1) r3
  have I:Blk w g T cur.toList:=hg
  have D:cur.toList=ys.flatMap E.enc++cur.toList.drop (ys.length*E.sz):=by rw[<-r4,List.take_append_drop]
  refine z3d h hx hy I (by rw[Nat.blt_eq,Array.length_toList];omega) h1 hc hs λw' O k2 k3 a h=>q w' ?_ k2 k3 a h
  have U:cur.toList.set (i*E.sz+f) v=(ys.set i z).flatMap E.enc++cur.toList.drop (ys.length*E.sz):=by
    conv=>lhs;rw[D]
    exact v6u M hf hz _
  rw[U]at O
  refine .inr ⟨g,c,_,by rw[List.length_set],Z,O,by rw[List.length_set];exact r1,r2,?_,?_⟩
  · simp only[List.size_toArray,List.length_append,E.flat_len,List.length_set,List.length_drop,Array.length_toList];omega
  · rw[List.length_set,show ys.length*E.sz=((ys.set i z).flatMap E.enc).length by rw[E.flat_len,List.length_set]]
    exact List.take_left
theorem u1y {α:Type}{E:Enc α}{base g m c i f:Nat}{ys:List α}(u z:α)(J:ev L x=some (.pointer (some ((⟨g,0,none⟩:Addr).add (i*E.sz+f)))))(M:ev L y=some v)(I:Own E T base w (.slice (some ⟨g,0,none⟩) m c) ys)(D:ys[i]?=some u)(hf:f<E.sz)
 (hz:(E.enc u).set f v=E.enc z) (h1:v.oneCell'=true) (hc:v.cells=#[v]) (hs:z1p P t 1)
 (q:∀w',Own E T base w' (.slice (some ⟨g,0,none⟩) m c) (ys.set i z)->Fr [g] w w'->w'.heap.size=w.heap.size->WL P ops Q rest n ds w' L):WL P ops Q (⟨none,.store t x y,ty,pos,after,none⟩::rest) n ds w L:=λ_ h=>y4d u z h J M I D hf hz h1 hc hs q
end
end Go.Lw
namespace Go.Lw
open Go.RowKit
section
variable {P:Program} {a:Act} {n:Nat} {L:List (Nat×Value)} {w:World} {v:Value} {g g2:Nat} {T T2:TypeId} {cs cs2:List Value}
theorem j0w {fn:Func}{R:Ending->World->Prop}{p pt I D q:Nat}(h:Ag a n L)(Z:fn.results=#[.cell p pt,.cell I D,.tmp q])(hp:look L p=some (.pointer (some ⟨g,0,none⟩)))(hb:Blk w g T cs)(U:z3u P pt cs.length)
    (hp2:look L I=some (.pointer (some ⟨g2,0,none⟩))) (hb2:Blk w g2 T2 cs2) (hg2:z3u P D cs2.length) (hv:look L q=some v) (k:R (.returned (.tuple #[.agg cs.toArray,.agg cs2.toArray,v])) w):bodyPost P fn R .ret a w:=
  bodyPost_ret (v:=.tuple #[.agg cs.toArray,.agg cs2.toArray,v]) (by
    have J:=h.at_ p _ hp
    have M:=h.at_ q _ hv
    have O:=h.at_ I _ hp2
    simp only[Array.getD_eq_getD_getElem?]at J M O
    simp[results,Z,J,M,O,asAddr,loadVar,U.1 w,U.2 w,hg2.1 w,hg2.2 w,run_loadCells_list w _ cs hb.cells,run_loadCells_list w _ cs2 hb2.cells]) h.dfr k
theorem j3x {fn:Func}{R:Ending->World->Prop}{p pt I D q:Nat}(M:fn.results=#[.cell p pt,.cell I D,.tmp q])(hp:look L p=some (.pointer (some ⟨g,0,none⟩)))(hb:Blk w g T cs)(J:z3u P pt cs.length)
 (hp2:look L I=some (.pointer (some ⟨g2,0,none⟩))) (hb2:Blk w g2 T2 cs2) (hg2:z3u P D cs2.length) (hv:look L q=some v) (k:R (.returned (.tuple #[.agg cs.toArray,.agg cs2.toArray,v])) w):EW (bodyPost P fn R) .ret n [] w L:=λ_ h=>j0w h M hp hb J hp2 hb2 hg2 hv k
end
end Go.Lw
namespace Go.Lw
open Go.RowKit
section
variable {P:Program} {n:Nat} {L:List (Nat×Value)} {ds:List Nat} {w w':World} {Q:Exit->Act->World->Prop} {ops:Array Oper} {rest:List Oper} {a:Act} {d:Nat} {ty T t:TypeId} {pos:String} {after:Array Edge} {v:Value} {x y:Operand}
end
end Go.Lw
namespace Go.Lw
open Go.RowKit
section
variable {P:Program} {n:Nat} {L:List (Nat×Value)} {ds:List Nat} {w w':World} {Q:Exit->Act->World->Prop} {ops:Array Oper} {rest:List Oper} {a:Act} {d:Nat} {ty T t tn:TypeId} {pos:String} {after:Array Edge} {v:Value} {x y:Operand}
end
end Go.Lw
namespace Go.Proofs.YtpgdchkdlgkmgaaGreatDoor
open Go.Lw _root_.Go.Proofs.Tryz
theorem z5z:z3u prog 24 2:=⟨λ_=>by kernel_rfl,λ_=>by kernel_rfl⟩
theorem y1k:z3u prog 28 6:=⟨λ_=>by kernel_rfl,λ_=>by kernel_rfl⟩
theorem x1a:BuildAt prog 24 [(0,1),(1,1)] [(.int .u8 0),(.int .i64 0)]:=BuildAt.struct underlying24 (λ_=>by kernel_rfl) (λ_=>by kernel_rfl)
theorem x1i:BuildAt prog 188 [(0,1),(1,1),(2,1),(3,1)] [(.bool false),(.bool false),(.bool false),(.bool false)]:=BuildAt.struct underlying188 (λ_=>by kernel_rfl) (λ_=>by kernel_rfl)
theorem u0o:CallOf prog 58:=mkC func58
theorem z6t:z0z prog 24 0 0:=λ_ _=>by kernel_rfl
theorem z6v:z0z prog 24 1 1:=λ_ _=>by kernel_rfl
theorem z8m:z0z prog 28 0 0:=λ_ _=>by kernel_rfl
theorem z6p:z0z prog 28 1 1:=λ_ _=>by kernel_rfl
theorem z4h:z0z prog 28 2 2:=λ_ _=>by kernel_rfl
theorem z3e:z0z prog 28 3 4:=λ_ _=>by kernel_rfl
theorem y2o:z0z prog 28 4 5:=λ_ _=>by kernel_rfl
theorem x0i:z0z prog 188 0 0:=λ_ _=>by kernel_rfl
theorem x4e:z0z prog 188 1 1:=λ_ _=>by kernel_rfl
theorem x5y:z0z prog 188 2 2:=λ_ _=>by kernel_rfl
theorem u5g:z0z prog 188 3 3:=λ_ _=>by kernel_rfl
theorem z2o:prog.follows .mixedOrders=true:=by kernel_rfl
theorem na3:z2c prog 3:=λ_=>by kernel_rfl
theorem na4:z2c prog 4:=λ_=>by kernel_rfl
theorem na5:z2c prog 5:=λ_=>by kernel_rfl
theorem x1z:z2c prog 22:=λ_=>by kernel_rfl
theorem v7o:z2c prog 25:=λ_=>by kernel_rfl
theorem y9j:z2c prog 26:=λ_=>by kernel_rfl
theorem u8u:z1p prog 188 4:=λ_=>by kernel_rfl
theorem x3l (w:World):(zeroValue 188).run prog w=.ok (.agg #[(.bool false),(.bool false),(.bool false),(.bool false)]) w:=by kernel_rfl
theorem z4p (b p:Int)(w0:World):Rets prog 58 #[.agg #[.int .u8 b,.int .i64 p]] w0 λv w'=>v=.int .i64 (z4q b p)/\Fr [] w0 w':=by
 refine we [(0,.agg #[.int .u8 b,.int .i64 p])] func58 rfl ntmps58 rfl (.cons rfl .nil) (sr (bx rfl rfl rfl (λO w1 Z D M z1=>(asg rfl (nn (sq (sq ?_)))))));refine rbo (r:=10) (L':=[(1,_)]) (((b≠0)/\(b≠1))) (.cons rfl .nil) ?_ ?_;refine fad rfl z6t (z0g rfl D rfl x1z (ne' rfl rfl (mv rfl (gs 6 rfl (λU=>?_) (λU=>?_)))));exact gY rfl (fad rfl z6t (gY rfl (z0g rfl D rfl x1z (gY rfl (ne' rfl rfl (pkt rfl rfl (rbe rfl (.cons rfl .nil))))))));exact gN rfl rfl (gN rfl rfl (gN rfl rfl (pkf rfl rfl (rbe rfl (.cons rfl .nil)))));refine tn (cd rfl (λI=>?_) (λI=>?_));refine sr (asg rfl (nn (rt (tr (r1 results58 rfl ?_)))));exact⟨_,rfl,by rw[z4q,if_pos I],M⟩;refine sk (tn (sq (sq ?_)));refine rbo (r:=18) (L':=[]) (((p<1)\/(40<p))) .nil ?_ ?_;refine fad rfl z6v (z0g rfl D rfl na3 (lt' rfl rfl (mv rfl (gs 14 rfl (λO=>?_) (λO=>?_)))));exact gN rfl rfl (gN rfl rfl (gN rfl rfl (pkt rfl rfl (rbe rfl .nil))));exact gY rfl (fad rfl z6v (gY rfl (z0g rfl D rfl na3 (gY rfl (gt' rfl rfl (pkf rfl rfl (rbe rfl .nil)))))));refine tn (cd rfl (λJ=>?_) (λJ=>?_));refine sr (asg rfl (nn (rt (tr (r1 results58 rfl ?_)))));exact⟨_,rfl,by rw[z4q,if_neg I,if_pos J],M⟩;refine sk (tn (sr (asg rfl (nn (rt (r1 results58 rfl ?_))))));exact⟨_,rfl,by rw[z4q,if_neg I,if_neg J],M⟩
def kV (k:Int):Value:=.int .u8 k
theorem y6d:KeyLaw prog 25 kV:=KeyLaw.now underlying25 (λk k'=>by simp[kV,Instr.sameNow,y5c]) (λ_ _ _=>by kernel_rfl) (λ_=>by simp[kV,Instr.sameBits])
theorem y8i (w0:World):Rets prog 106 #[] w0 λv w'=>∃g,v=.map (some g)/\w0.heap.size<=g/\g<w'.heap.size/\MapF kV w' g x5u/\Fr [] w0 w':=by
 refine we [] func106 rfl ntmps106 rfl .nil (sr (asg rfl (nn (sr (y6a kV rfl (λI w1 J D M z1=>?_))))))
 refine z1v (cs:=[_,_,_,_]) (ev2 rfl rfl) x1i (z0h rfl rfl rfl (z0h rfl rfl rfl z0s)) rfl ?_
 refine z2x (V:=kV) (k:=1) rfl rfl rfl D y6d underlying190 (λw2 D O z2=>?_)
 refine z1v (cs:=[_,_,_,_]) (ev1 rfl) x1i (z0h rfl rfl rfl z0s) rfl ?_
 refine z2x (V:=kV) (k:=2) rfl rfl rfl D y6d underlying190 (λw3 D U z3=>?_)
 refine z1v (cs:=[_,_,_,_]) (ev1 rfl) x1i (z0h rfl rfl rfl z0s) rfl ?_
 refine z2x (V:=kV) (k:=3) rfl rfl rfl D y6d underlying190 (λw4 D Z z4=>?_)
 refine z1v (cs:=[_,_,_,_]) (ev3 rfl rfl rfl) x1i (z0h rfl rfl rfl (z0h rfl rfl rfl (z0h rfl rfl rfl z0s))) rfl ?_
 refine z2x (V:=kV) (k:=4) rfl rfl rfl D y6d underlying190 (λw5 D q5 z5=>?_)
 refine z1v (cs:=[_,_,_,_]) (ev3 rfl rfl rfl) x1i (z0h rfl rfl rfl (z0h rfl rfl rfl (z0h rfl rfl rfl z0s))) rfl ?_
 refine z2x (V:=kV) (k:=5) rfl rfl rfl D y6d underlying190 (λw6 D q6 z6=>?_)
 refine z1v (cs:=[_,_,_,_]) (ev3 rfl rfl rfl) x1i (z0h rfl rfl rfl (z0h rfl rfl rfl (z0h rfl rfl rfl z0s))) rfl ?_
 refine z2x (V:=kV) (k:=6) rfl rfl rfl D y6d underlying190 (λw7 D q7 z7=>?_)
 refine z1v (cs:=[_,_,_,_]) (ev1 rfl) x1i (z0h rfl rfl rfl z0s) rfl ?_
 refine z2x (V:=kV) (k:=7) rfl rfl rfl D y6d underlying190 (λw8 D q8 z8=>?_)
 refine z1v (cs:=[_,_,_,_]) (ev1 rfl) x1i (z0h rfl rfl rfl z0s) rfl ?_
 refine z2x (V:=kV) (k:=8) rfl rfl rfl D y6d underlying190 (λw9 D q9 z9=>(mv rfl (asg rfl (nn (rt (r1 results106 rfl ?_))))))
 exact⟨_,rfl,I,rfl,by omega,by omega,by
  refine(funext λk=>?_:x5u=_)▸D
  unfold x5u z7z;repeat' split
  all_goals first|rfl|(simp_all [f4V];done),(((M.z6 O U Z q5 q6 q7).z1 q8).z1 q9)⟩
theorem j5x:v0q prog 24 ndV:=by
 intro e f M O w;have J:∀D,(eqGuard D 24 M O (ndV e) (ndV f)).run prog w=.ok () w:=λD=>run_eqGuard_agg w D 24 M O _ _ (by kernel_rfl);have I:prog.stoodInHeld 24=false:=by kernel_rfl
 obtain⟨k,y⟩:=e;obtain⟨k',U⟩:=f;refine⟨J _,J _,?_,?_⟩;unfold ndV;simp[go_sem,I,underlying24];(repeat' split)<;>simp_all
 unfold ndV;simp[go_sem,I,underlying24];(repeat' split)<;>simp_all
theorem v9l (o:MOp)(w0:World):Rets prog 57 #[opV o] w0 λv w'=>v=.bool (decide (y6u o))/\Fr [] w0 w':=by
 refine we [(0,opV o)] func57 rfl ntmps57 rfl (.cons rfl .nil) (sr (bx rfl rfl rfl (λg1 w1 b8 D q1 z1=>(asg rfl (nn ?_)))));refine jn (ι:=Nat) [(1,_)] (λg3=>[(3,.pointer (some ⟨g3,0,none⟩)),(4,.bool (z7z o.k).isSome)]) (λg3 w'=>Fr [] w1 w'/\w1.heap.size<=g3/\Blk w' g3 188 (f4L ((z7z o.k).getD f40))) (.cons rfl .nil) ?_ ?_;intro a h;have M:=Fr.refl [] w1;refine z2p (λwb w'=>Fr [] wb w') z2o ?_;intro w2 J;replace D:=D.ext J;replace M:=M.next J;have c9:=J.size;clear J;have hC:Fr [] w2 w2:=Fr.refl _ _;have a0:=D;refine z0c 1 h rfl z8m rfl λa h=>z0l 2 h rfl (λ_ hw=>a0.ext hw) rfl v7o rfl λa h=>z2d 0 7 (by kernel_rfl) rfl rfl ?_ ?_;refine z0n h z0f (mkC func106) (y8i _) ?_;rintro _ w3 ⟨gm,rfl,a7,a8,hm,J⟩ a h;replace D:=D.ext J;replace M:=M.next J;replace hC:=hC.next J;clear J;refine z0b ?_;refine z2d 3 7 (by kernel_rfl) rfl rfl ?_ ?_;refine y1r (V:=kV) (k:=o.k) h rfl rfl hm y6d underlying190 x3l (z7r _) (y1p _) rfl λa h=>?_;refine z0b ?_;refine z0e 4 h rfl rfl λa h=>z0m 5 h rfl rfl rfl λa h=>z0m 6 h rfl rfl rfl λa h=>z0d 7 rfl ?_;refine z1c h x3l rfl λw4 I J hz a h=>?_;obtain⟨O,hg⟩:∃g,g=w3.heap.size:=⟨_,rfl⟩;rw[<-hg]at I h hz;have a5:g1<O:=by have:=D.lt;omega
 have Z:w1.heap.size<=O:=by have:=M.size;omega
 have a3:w2.heap.size<=O:=by have:=hC.size;omega
 replace D:=D.ext J;replace M:=M.next J;replace hC:=hC.next J;replace hm:=hm.ext J;clear J;refine z0b ?_;refine z0d 8 rfl ?_;refine z0t h rfl rfl I rfl u8u ?_ (h1:=(by first|(simp[Value.oneCell',S];done)|exact Enc.one _ _|exact x4z _));clear h a;intro w5 a2 J hz a h;replace D:=D.fr J;replace M:=M.sp J;replace hC:=hC.sp J;replace hm:=hm.fr J (by simp;exact hm.ne_blk I);clear I J hz;have I:Blk w5 O _ [_,_,_,_]:=a2;clear a2;refine z0b ?_;refine z0d 9 rfl ?_;refine z0r h rfl λa h=>?_;refine z0b ?_;refine z0q ?_;clear hC a0;refine bk (h.sub (L':=[(1,_),(3,_),(4,_)]) (.c3 rfl rfl rfl)) ?_;exact jE (O) (.c3 rfl rfl rfl) ⟨M,⟨by omega,I⟩⟩;refine z1c h x3l rfl λw6 I J hz a h=>?_;obtain⟨O,hg⟩:∃g,g=w3.heap.size:=⟨_,rfl⟩;rw[<-hg]at I h hz;have a5:g1<O:=by have:=D.lt;omega
 have Z:w1.heap.size<=O:=by have:=M.size;omega
 have a3:w2.heap.size<=O:=by have:=hC.size;omega
 replace D:=D.ext J;replace M:=M.next J;replace hC:=hC.next J;replace hm:=hm.ext J;clear J;refine z0b ?_;refine z0d 3 rfl ?_;refine y1r (V:=kV) (k:=o.k) h rfl rfl hm y6d underlying190 x3l (z7r _) (y1p _) rfl λa h=>?_;refine z0b ?_;refine z0e 4 h rfl rfl λa h=>z0m 5 h rfl rfl rfl λa h=>z0m 6 h rfl rfl rfl λa h=>z0d 8 rfl ?_;refine z0t h rfl rfl I rfl u8u ?_ (h1:=(by first|(simp[Value.oneCell',S];done)|exact Enc.one _ _|exact x4z _));clear h a;intro w7 a2 J hz a h;replace D:=D.fr J;replace M:=M.sp J;replace hC:=hC.sp J;replace hm:=hm.fr J (by simp;exact hm.ne_blk I);clear I J hz;have I:Blk w7 O _ [_,_,_,_]:=a2;clear a2;refine z0b ?_;refine z0d 9 rfl ?_;refine z0r h rfl λa h=>?_;refine z0b ?_;refine z0q ?_;clear hC a0;refine bk (h.sub (L':=[(1,_),(3,_),(4,_)]) (.c3 rfl rfl rfl)) ?_;exact jE (O) (.c3 rfl rfl rfl) ⟨M,⟨by omega,I⟩⟩;refine z1c h x3l rfl λw8 I J hz a h=>?_;obtain⟨O,hg⟩:∃g,g=w2.heap.size:=⟨_,rfl⟩;rw[<-hg]at I h hz;have a5:g1<O:=by have:=D.lt;omega
 have Z:w1.heap.size<=O:=by have:=M.size;omega
 have a3:w2.heap.size<=O:=by have:=hC.size;omega
 replace D:=D.ext J;replace M:=M.next J;replace hC:=hC.next J;clear J;refine z0b ?_;refine z0d 0 rfl ?_;refine z0n h z0f (mkC func106) (y8i _) ?_;rintro _ w9 ⟨gm,rfl,a7,a8,hm,J⟩ a h;replace D:=D.ext J;replace M:=M.next J;replace hC:=hC.next J;replace I:=I.ext J;clear J;refine z0b ?_;refine z0d 3 rfl ?_;refine y1r (V:=kV) (k:=o.k) h rfl rfl hm y6d underlying190 x3l (z7r _) (y1p _) rfl λa h=>?_;refine z0b ?_;refine z0e 4 h rfl rfl λa h=>z0m 5 h rfl rfl rfl λa h=>z0m 6 h rfl rfl rfl λa h=>z0d 8 rfl ?_;refine z0t h rfl rfl I rfl u8u ?_ (h1:=(by first|(simp[Value.oneCell',S];done)|exact Enc.one _ _|exact x4z _));clear h a;intro b6 a2 J hz a h;replace D:=D.fr J;replace M:=M.sp J;replace hC:=hC.sp J;replace hm:=hm.fr J (by simp;exact hm.ne_blk I);clear I J hz;have I:Blk b6 O _ [_,_,_,_]:=a2;clear a2;refine z0b ?_;refine z0d 9 rfl ?_;refine z0r h rfl λa h=>?_;refine z0b ?_;refine z0q ?_;clear hC a0;refine bk (h.sub (L':=[(1,_),(3,_),(4,_)]) (.c3 rfl rfl rfl)) ?_;exact jE (O) (.c3 rfl rfl rfl) ⟨M,⟨by omega,I⟩⟩;rintro g3 b7 ⟨U,⟨b9,I⟩⟩;have a9:=I.lt;refine kpC [(1,_),(3,_),(4,_)] (.c3 rfl rfl rfl) ?_;obtain⟨f,hf⟩:∃f,(z7z o.k).getD f40=f:=⟨_,rfl⟩;rw[hf]at I;have a4:y6u o↔(z7z o.k).isSome=true/\x6x f o:=by rw[<-hf];rfl
 replace I:Blk b7 g3 _ [.bool f.1,.bool f.2.1,.bool f.2.2.1,.bool f.2.2.2]:=I;refine sq (sr (mv rfl (nt' rfl (nn (cd rfl (λc0=>?_) (λc0=>?_))))));refine sr (asg rfl (nn (rt (tr (r1 results57 rfl ?_)))));exact⟨_,rfl,congrArg Value.bool (decide_eq_false (λh=>by simp[(a4.1 h).1]at c0)).symm,(q1.n1 U)⟩;refine sk (tn (sq (sq ?_)));refine rbo (r:=35) (L':=[(1,_),(3,_)]) ((((f.1=true/\(o.d≠0))/\(o.d≠1))\/((¬f.1=true)/\(o.d≠0)))) (.c2 rfl rfl) ?_ ?_;refine fad rfl x0i (z0g rfl I rfl na4 (mv rfl (gs 16 rfl (λg0=>?_) (λg0=>?_))));refine gY rfl (fad rfl z6p (gY rfl ?_));replace D:=D.ext U;refine z0g rfl D rfl y9j (gY rfl (ne' rfl rfl (pkt rfl rfl (mv rfl (gs 21 rfl (λg1=>?_) (λg1=>?_))))));refine gY rfl (fad rfl z6p (gY rfl (z0g rfl D rfl y9j (gY rfl (ne' rfl rfl (pkt rfl rfl (mv rfl (gs 26 rfl (λg2=>?_) (λg2=>?_)))))))));exact gN rfl rfl (gN rfl rfl (gN rfl rfl (gN rfl rfl (gS rfl rfl (gS rfl rfl (gS rfl rfl (gN rfl rfl (pkt rfl rfl (rbe rfl (.c2 rfl rfl))))))))));refine gY rfl (fad rfl x0i (gY rfl (z0g rfl I rfl na4 (gY rfl (nt' rfl (gY rfl (mv rfl (gs 30 rfl (λg3=>?_) (λg3=>?_)))))))));exact gY rfl (fad rfl z6p (gY rfl (z0g rfl D rfl y9j (gY rfl (ne' rfl rfl (gY rfl (pkt rfl rfl (pkf rfl rfl (rbe rfl (.c2 rfl rfl))))))))));exact gN rfl rfl (gN rfl rfl (gN rfl rfl (gY rfl (pkf rfl rfl (pkf rfl rfl (rbe rfl (.c2 rfl rfl)))))));refine gN rfl rfl (gN rfl rfl (gN rfl rfl (pkf rfl rfl (mv rfl (gY rfl (fad rfl x0i (gY rfl (z0g rfl I rfl na4 (gY rfl (nt' rfl (gY rfl (mv rfl (gs 30 rfl (λg4=>?_) (λg4=>?_))))))))))))));exact gY rfl (fad rfl z6p (gY rfl (z0g rfl D rfl y9j (gY rfl (ne' rfl rfl (gY rfl (pkt rfl rfl (pkf rfl rfl (rbe rfl (.c2 rfl rfl))))))))));exact gN rfl rfl (gN rfl rfl (gN rfl rfl (gY rfl (pkf rfl rfl (pkf rfl rfl (rbe rfl (.c2 rfl rfl)))))));refine gN rfl rfl (gN rfl rfl (gN rfl rfl (pkf rfl rfl (mv rfl (gN rfl rfl (gN rfl rfl (gN rfl rfl (pkf rfl rfl (mv rfl (gY rfl (fad rfl x0i (gY rfl (z0g rfl I rfl na4 (gY rfl (nt' rfl (gY rfl (mv rfl (gs 30 rfl (λg5=>?_) (λg5=>?_)))))))))))))))))));refine gY rfl (fad rfl z6p (gY rfl ?_));replace D:=D.ext U;exact z0g rfl D rfl y9j (gY rfl (ne' rfl rfl (gY rfl (pkt rfl rfl (pkf rfl rfl (rbe rfl (.c2 rfl rfl)))))));exact gN rfl rfl (gN rfl rfl (gN rfl rfl (gY rfl (pkf rfl rfl (pkf rfl rfl (rbe rfl (.c2 rfl rfl)))))));refine tn (cd rfl (λc1=>?_) (λc1=>?_));refine sr (asg rfl (nn (rt (tr (r1 results57 rfl ?_)))));exact⟨_,rfl,congrArg Value.bool (decide_eq_false (λh=>(a4.1 h).2.1 c1)).symm,(q1.n1 U)⟩;refine sk (tn (sq (sq ?_)));refine y6f (r:=54) (L':=[(1,_),(3,_)]) (((f.2.1=true/\((z4q o.b o.p)≠0))\/((¬f.2.1=true)/\(¬(o.b=0/\o.p=0))))) (.c2 rfl rfl) ?_ ?_;refine fad rfl x4e (z0g rfl I rfl na4 (mv rfl (gs 38 rfl (λg6=>?_) (λg6=>?_))));refine gY rfl (fad rfl z4h (gY rfl ?_));replace D:=D.ext U;refine z1s (vs:=[_,_]) rfl D z5z rfl (gY rfl (cl (ev1 rfl) u0o (z4p _ _ _) rfl ?_));rintro _ d0 ⟨rfl,a6⟩;refine gY rfl (ne' rfl rfl (pkt rfl rfl (mv rfl (gs 44 rfl (λg7=>?_) (λg7=>?_)))));exact gN rfl rfl (gN rfl rfl (gN rfl rfl (gN rfl rfl (gS rfl rfl (gS rfl rfl (gS rfl rfl (gS rfl rfl (gN rfl rfl (pkt rfl rfl (z6y rfl (.c2 rfl rfl) a6))))))))));refine gY rfl (fad rfl x4e (gY rfl ?_));replace I:=I.ext a6;refine z0g rfl I rfl na4 (gY rfl (nt' rfl (gY rfl (mv rfl (gs 48 rfl (λg8=>?_) (λg8=>?_))))));refine gY rfl (fad rfl z4h (gY rfl ?_));replace D:=D.ext a6;exact z1s (vs:=[_,_]) rfl D z5z rfl (gY rfl (z1v (cs:=[_,_]) z0f x1a z0s rfl (gY rfl (u1b (V:=ndV) (e:=(_,_)) (f:=(_,_)) rfl rfl j5x rfl (gY rfl (pkt rfl rfl (pkf rfl rfl (z6y rfl (.c2 rfl rfl) a6))))))));exact gN rfl rfl (gN rfl rfl (gN rfl rfl (gN rfl rfl (gY rfl (pkf rfl rfl (pkf rfl rfl (z6y rfl (.c2 rfl rfl) a6)))))));refine gN rfl rfl (gN rfl rfl (gN rfl rfl (gN rfl rfl (pkf rfl rfl (mv rfl (gY rfl (fad rfl x4e (gY rfl (z0g rfl I rfl na4 (gY rfl (nt' rfl (gY rfl (mv rfl (gs 48 rfl (λg9=>?_) (λg9=>?_)))))))))))))));refine gY rfl (fad rfl z4h (gY rfl ?_));replace D:=D.ext U;exact z1s (vs:=[_,_]) rfl D z5z rfl (gY rfl (z1v (cs:=[_,_]) z0f x1a z0s rfl (gY rfl (u1b (V:=ndV) (e:=(_,_)) (f:=(_,_)) rfl rfl j5x rfl (gY rfl (pkt rfl rfl (pkf rfl rfl (z6y rfl (.c2 rfl rfl) (Fr.refl _ _)))))))));exact gN rfl rfl (gN rfl rfl (gN rfl rfl (gN rfl rfl (gY rfl (pkf rfl rfl (pkf rfl rfl (z6y rfl (.c2 rfl rfl) (Fr.refl _ _))))))));intro d1 a1;have d3:=a1.size;refine tn (cd rfl (λc2=>?_) (λc2=>?_));refine sr (asg rfl (nn (rt (tr (r1 results57 rfl ?_)))));exact⟨_,rfl,congrArg Value.bool (decide_eq_false (λh=>(a4.1 h).2.2.1 c2)).symm,(q1.n2 U a1)⟩;refine sk (tn (sq (sq ?_)));refine rbo (r:=76) (L':=[(1,_),(3,_)]) (((f.2.2.1=true/\((o.y<1)\/(6<o.y)))\/((¬f.2.2.1=true)/\(o.y≠0)))) (.c2 rfl rfl) ?_ ?_;refine fad rfl x5y ?_;replace I:=I.ext a1;refine z0g rfl I rfl na4 (mv rfl (gs 57 rfl (λb0=>?_) (λb0=>?_)));refine gY rfl (fad rfl z3e (gY rfl ?_));replace D:=D.ext (U.n1 a1);refine z0g rfl D rfl na5 (gY rfl (lt' rfl rfl (gY rfl (mv rfl (gs 61 rfl (λb1=>?_) (λb1=>?_))))));refine gN rfl rfl (gN rfl rfl (gN rfl rfl (gY rfl (pkt rfl rfl (pkt rfl rfl (mv rfl (gN rfl rfl (gN rfl rfl (gN rfl rfl (gN rfl rfl (gS rfl rfl ?_)))))))))));exact gS rfl rfl (gS rfl rfl (gN rfl rfl (pkt rfl rfl (rbe rfl (.c2 rfl rfl)))));refine gY rfl (fad rfl z3e (gY rfl (z0g rfl D rfl na5 (gY rfl (gt' rfl rfl (gY rfl (pkf rfl rfl (pkt rfl rfl (mv rfl (gs 67 rfl (λb2=>?_) (λb2=>?_)))))))))));exact gN rfl rfl (gN rfl rfl (gN rfl rfl (gN rfl rfl (gS rfl rfl (gS rfl rfl (gS rfl rfl (gN rfl rfl (pkt rfl rfl (rbe rfl (.c2 rfl rfl))))))))));refine gY rfl (fad rfl x5y (gY rfl (z0g rfl I rfl na4 (gY rfl (nt' rfl (gY rfl (mv rfl (gs 71 rfl (λb3=>?_) (λb3=>?_)))))))));exact gY rfl (fad rfl z3e (gY rfl (z0g rfl D rfl na5 (gY rfl (ne' rfl rfl (gY rfl (pkt rfl rfl (pkf rfl rfl (rbe rfl (.c2 rfl rfl))))))))));exact gN rfl rfl (gN rfl rfl (gN rfl rfl (gY rfl (pkf rfl rfl (pkf rfl rfl (rbe rfl (.c2 rfl rfl)))))));refine gN rfl rfl (gN rfl rfl (gN rfl rfl (gN rfl rfl (gS rfl rfl (gS rfl rfl (gS rfl rfl (gN rfl rfl (pkf rfl rfl (mv rfl (gY rfl (fad rfl x5y (gY rfl (z0g rfl I rfl na4 (gY rfl (nt' rfl (gY rfl (mv rfl (gs 71 rfl (λb4=>?_) (λb4=>?_)))))))))))))))))));refine gY rfl (fad rfl z3e (gY rfl ?_));replace D:=D.ext (U.n1 a1);exact z0g rfl D rfl na5 (gY rfl (ne' rfl rfl (gY rfl (pkt rfl rfl (pkf rfl rfl (rbe rfl (.c2 rfl rfl)))))));exact gN rfl rfl (gN rfl rfl (gN rfl rfl (gY rfl (pkf rfl rfl (pkf rfl rfl (rbe rfl (.c2 rfl rfl)))))));refine tn (cd rfl (λc3=>?_) (λc3=>?_));refine sr (asg rfl (nn (rt (tr (r1 results57 rfl ?_)))));exact⟨_,rfl,congrArg Value.bool (decide_eq_false (λh=>(a4.1 h).2.2.2.1 c3)).symm,(q1.n2 U a1)⟩;refine sk (tn (sq ?_));refine rbo (r:=2) (L':=[]) ((f.2.2.2=true\/(o.r=0))) .nil ?_ ?_;refine fad rfl u5g ?_;replace I:=I.ext a1;refine z0g rfl I rfl na4 (mv rfl (gs 79 rfl (λb5=>?_) (λb5=>?_)));exact gN rfl rfl (gN rfl rfl (gN rfl rfl (pkt rfl rfl (asg rfl (rbe rfl .nil)))));refine gY rfl (fad rfl y2o (gY rfl ?_));replace D:=D.ext (U.n1 a1);exact z0g rfl D rfl na3 (gY rfl (eq' rfl rfl (pkf rfl rfl (asg rfl (rbe rfl .nil)))));refine tn (rt (r1 results57 rfl ?_));exact⟨_,rfl,congrArg Value.bool (decide_eq_decide.2 ⟨λh=>a4.2 ⟨by revert c0;cases (z7z o.k).isSome<;>simp,c1,c2,c3,h⟩,λh=>(a4.1 h).2.2.2.2⟩),(q1.n2 U a1)⟩
theorem y0x (o:MOp)(w0:World):Rets prog 21 #[opV o] w0 λv w'=>v=.int .i64 (y3a o)/\Fr [] w0 w':=by
 refine we [(0,opV o)] func21 rfl ntmps21 rfl (.cons rfl .nil) (sr (bx rfl rfl rfl (λg1 w1 Z D O z1=>(asg rfl (nn (sq (sr (z0k rfl D y1k (cl (ev1 rfl) (mkC func57) (v9l o _) rfl ?_)))))))));rintro _ w2 ⟨rfl,J⟩;refine nt' rfl (nn (cd rfl (λI=>?_) (λI=>?_)));refine sr (asg rfl (nn (rt (tr (r1 results21 rfl ?_)))));exact⟨_,rfl,by rw[y3a,if_pos I],(O.n1 J)⟩;refine sk (tn (sq (sq ?_)));refine rbo (r:=13) (L':=[]) (((o.r < -4)\/(4<o.r))) .nil ?_ ?_;refine fad rfl y2o ?_;replace D:=D.ext J;refine z0g rfl D rfl na3 (lt' rfl rfl (mv rfl (gs 9 rfl (λU=>?_) (λU=>?_))));exact gN rfl rfl (gN rfl rfl (gN rfl rfl (pkt rfl rfl (rbe rfl .nil))));exact gY rfl (fad rfl y2o (gY rfl (z0g rfl D rfl na3 (gY rfl (gt' rfl rfl (pkf rfl rfl (rbe rfl .nil)))))));refine tn (cd rfl (λM=>?_) (λM=>?_));refine sr (asg rfl (nn (rt (tr (r1 results21 rfl ?_)))));exact⟨_,rfl,by rw[y3a,if_neg I,if_pos M],(O.n1 J)⟩;refine sk (tn (sr (asg rfl (nn (rt (r1 results21 rfl ?_))))));exact⟨_,rfl,by rw[y3a,if_neg I,if_neg M],(O.n1 J)⟩
end Go.Proofs.YtpgdchkdlgkmgaaGreatDoor
namespace Go.Proofs.YtpgdchkdlgkmgaaGreatDoor
open Go.Lw Go.G21 Go.G08 _root_.Go.Proofs.Tryz
theorem z3o:z3u prog 87 2:=⟨λ_=>by kernel_rfl,λ_=>by kernel_rfl⟩
theorem z6k:z3u prog 100 4:=⟨λ_=>by kernel_rfl,λ_=>by kernel_rfl⟩
theorem z7o:z0z prog 87 0 0:=λ_ _=>by kernel_rfl
theorem z8y:z0z prog 87 1 1:=λ_ _=>by kernel_rfl
theorem y9i:z0z prog 100 0 0:=λ_ _=>by kernel_rfl
theorem z7a:z0z prog 100 2 3:=λ_ _=>by kernel_rfl
theorem j2z:z1p prog 26 1:=λ_=>by kernel_rfl
def idV (i:LId):Value:=.agg (idL i).toArray
def paV (p:Pa):Value:=.agg (paL p).toArray
theorem eqId:v0q prog 87 idV:=by
 intro e f M O w;have J:∀D,(eqGuard D 87 M O (idV e) (idV f)).run prog w=.ok () w:=λD=>run_eqGuard_agg w D 87 M O _ _ (by kernel_rfl);have I:prog.stoodInHeld 87=false:=by kernel_rfl
 obtain⟨y,n⟩:=e;obtain⟨Z,U⟩:=f;refine⟨J _,J _,?_,?_⟩;unfold idV;simp[go_sem,I,underlying87];(repeat' split)<;>simp_all
 unfold idV;simp[go_sem,I,underlying87];(repeat' split)<;>simp_all
theorem j5t:v0q prog 100 paV:=by
 intro e f M O w;have J:∀D,(eqGuard D 100 M O (paV e) (paV f)).run prog w=.ok () w:=λD=>run_eqGuard_agg w D 100 M O _ _ (by kernel_rfl);have I:prog.stoodInHeld 100=false:=by kernel_rfl
 obtain⟨⟨y,n⟩,b,d⟩:=e;obtain⟨⟨y',n'⟩,U,Z⟩:=f;refine⟨J _,J _,?_,?_⟩;unfold paV;simp[go_sem,I,underlying100];(repeat' split)<;>simp_all
 unfold paV;simp[go_sem,I,underlying100];(repeat' split)<;>simp_all
theorem y8d (i:LId)(w0:World):Rets prog 94 #[.agg #[.int .u8 i.y,.int .i64 i.n]] w0 λr w'=>r=.bool (decide (y2k i))/\Fr [] w0 w':=by
 refine we [(0,.agg #[.int .u8 i.y,.int .i64 i.n])] func94 rfl ntmps94 rfl (.cons rfl .nil) (sr (bx rfl rfl rfl (λI w1 M D O z1=>(asg rfl (nn (sq ?_))))));refine rbo (r:=2) (L':=[]) (((((1<=i.y)/\(i.y<=6))/\(0<=i.n))/\(i.n<2048))) .nil ?_ ?_;refine fad rfl z7o (z0g rfl D rfl na5 (ge' rfl rfl (mv rfl (gs 6 rfl (λJ=>?_) (λJ=>?_)))));refine gY rfl (fad rfl z7o (gY rfl (z0g rfl D rfl na5 (gY rfl (le' rfl rfl rfl (pkt rfl rfl (mv rfl (gs 11 rfl (λI=>?_) (λI=>?_)))))))));refine gY rfl (fad rfl z8y (gY rfl (z0g rfl D rfl na3 (gY rfl (ge' rfl rfl (pkt rfl rfl (mv rfl (gs 16 rfl (λg2=>?_) (λg2=>?_)))))))));exact gY rfl (fad rfl z8y (gY rfl (z0g rfl D rfl na3 (gY rfl (lt' rfl rfl (pkt rfl rfl (asg rfl (rbe rfl .nil))))))));exact gN rfl rfl (gN rfl rfl (gN rfl rfl (pkf rfl rfl (asg rfl (rbe rfl .nil)))));exact gN rfl rfl (gN rfl rfl (gN rfl rfl (pkf rfl rfl (mv rfl (gN rfl rfl (gN rfl rfl (gN rfl rfl (pkf rfl rfl (asg rfl (rbe rfl .nil))))))))));refine gN rfl rfl (gN rfl rfl (gN rfl rfl (pkf rfl rfl (mv rfl (gN rfl rfl (gN rfl rfl (gN rfl rfl (pkf rfl rfl (mv rfl (gN rfl rfl (gN rfl rfl ?_)))))))))));exact gN rfl rfl (pkf rfl rfl (asg rfl (rbe rfl .nil)));refine tn (rt (r1 results94 rfl ?_));exact⟨_,rfl,congrArg Value.bool (decide_eq_decide.2 (by unfold y2k;omega)),O⟩
theorem y3o (d:Int)(w0:World):Rets prog 136 #[.int .u8 d] w0 λr w'=>r=.bool (decide (z5x d))/\Fr [] w0 w':=by
 refine we [(0,.int .u8 d)] func136 rfl ntmps136 rfl (.cons rfl .nil) (sr (asg rfl (nn (sq ?_))));refine rbo (r:=2) (L':=[]) (((d=0)\/(d=1))) .nil ?_ ?_;refine mv rfl (eq' rfl rfl (mv rfl (gs 5 rfl (λD=>?_) (λD=>?_))));exact gN rfl rfl (gN rfl rfl (pkt rfl rfl (asg rfl (rbe rfl .nil))));exact gY rfl (mv rfl (gY rfl (eq' rfl rfl (pkf rfl rfl (asg rfl (rbe rfl .nil))))));refine tn (rt (r1 results136 rfl ?_));exact⟨_,rfl,congrArg Value.bool (decide_eq_decide.2 (by unfold z5x;omega)),(Fr.refl _ _)⟩
theorem x6v (p:Pa)(w0:World):Rets prog 97 #[.agg #[.int .u8 p.id.y,.int .i64 p.id.n,.bool p.f,.int .u8 p.d]] w0 λr w'=>r=.bool (decide (y1d p))/\Fr [] w0 w':=by
 refine we [(0,.agg #[.int .u8 p.id.y,.int .i64 p.id.n,.bool p.f,.int .u8 p.d])] func97 rfl ntmps97 rfl (.cons rfl .nil) (sr (bx rfl rfl rfl (λg1 w1 O D U z1=>(asg rfl (nn (sq ?_))))));refine y6f (r:=2) (L':=[]) (((y2k ⟨p.id.y,p.id.n⟩)/\(z5x p.d))) .nil ?_ ?_;refine fad rfl y9i (z1s (vs:=[_,_]) rfl D z3o rfl (cl (ev1 rfl) (mkC func94) (y8d ⟨_,_⟩ _) rfl ?_));rintro _ w2 ⟨rfl,I⟩;refine mv rfl (gs 6 rfl (λM=>?_) (λM=>?_));refine gY rfl (fad rfl z7a (gY rfl ?_));replace D:=D.ext I;refine z0g rfl D rfl y9j (gY rfl (cl (ev1 rfl) (mkC func136) (y3o _ _) rfl ?_));rintro _ w3 ⟨rfl,Z⟩;exact pkt rfl rfl (asg rfl (z6y rfl .nil (I.n1 Z)));exact gN rfl rfl (gN rfl rfl (gN rfl rfl (pkf rfl rfl (asg rfl (z6y rfl .nil I)))));intro w4 J;have z4:=J.size;refine tn (rt (r1 results97 rfl ?_));exact⟨_,rfl,congrArg Value.bool (decide_eq_decide.2 (by rfl)),(U.n1 J)⟩
theorem y7b (x:Int)(w0:World):Rets prog 96 #[.int .i64 x] w0 λr w'=>r=.bool (decide (v0u x))/\Fr [] w0 w':=by
 refine we [(0,.int .i64 x)] func96 rfl ntmps96 rfl (.cons rfl .nil) (sr (asg rfl (nn (sq ?_))));refine rbo (r:=2) (L':=[]) (((((Int.tmod x 2)≠0)/\(-13<=x))/\(x<=179))) .nil ?_ ?_;refine mv rfl (x5g rfl rfl (by first|exact IntWalk.rem_in _ _ (by omega)|rfl) rfl (ne' rfl rfl (mv rfl ?_)));refine gs 6 rfl (λD=>?_) (λD=>?_);refine gY rfl (mv rfl (gY rfl (ge' rfl rfl (pkt rfl rfl (mv rfl (gs 10 rfl (λI=>?_) (λI=>?_)))))));exact gY rfl (mv rfl (gY rfl (le' rfl rfl rfl (pkt rfl rfl (asg rfl (rbe rfl .nil))))));exact gN rfl rfl (gN rfl rfl (pkf rfl rfl (asg rfl (rbe rfl .nil))));exact gN rfl rfl (gN rfl rfl (pkf rfl rfl (mv rfl (gN rfl rfl (gN rfl rfl (pkf rfl rfl (asg rfl (rbe rfl .nil))))))));refine tn (rt (r1 results96 rfl ?_));exact⟨_,rfl,congrArg Value.bool (decide_eq_decide.2 (by unfold v0u;exact and_assoc)),(Fr.refl _ _)⟩
theorem x1g (p q:Pa)(w0:World):Rets prog 98 #[.agg #[.int .u8 p.id.y,.int .i64 p.id.n,.bool p.f,.int .u8 p.d],.agg #[.int .u8 q.id.y,.int .i64 q.id.n,.bool q.f,.int .u8 q.d]] w0 λr w'=>r=.bool (decide (u3o p q))/\Fr [] w0 w':=by
 refine we [(0,.agg #[.int .u8 p.id.y,.int .i64 p.id.n,.bool p.f,.int .u8 p.d]),(1,.agg #[.int .u8 q.id.y,.int .i64 q.id.n,.bool q.f,.int .u8 q.d])] func98 rfl ntmps98 rfl (.c2 rfl rfl) (sr (bx rfl rfl rfl (λg2 w1 a0 I q1 z1=>(bx rfl rfl rfl (λg3 w2 a1 D O z2=>(asg rfl (nn (sq (sq ?_)))))))));refine y6f (r:=21) (L':=[(2,_),(3,_)]) ((((¬(z5x p.d))\/(¬(z5x q.d)))\/(p.d=q.d))) (.c2 rfl rfl) ?_ ?_;refine fad rfl z7a ?_;replace I:=I.ext O;refine z0g rfl I rfl y9j (cl (ev1 rfl) (mkC func136) (y3o _ _) rfl ?_);rintro _ w3 ⟨rfl,J⟩;refine nt' rfl (mv rfl (gs 9 rfl (λg0=>?_) (λg0=>?_)));refine gN rfl rfl (gN rfl rfl (gN rfl rfl (gN rfl rfl (pkt rfl rfl (mv rfl (gN rfl rfl (gN rfl rfl (gN rfl rfl (gN rfl rfl (gN rfl rfl (pkt rfl rfl ?_)))))))))));exact z6y rfl (.c2 rfl rfl) J;refine gY rfl (fad rfl z7a (gY rfl ?_));replace D:=D.ext J;refine z0g rfl D rfl y9j (gY rfl (cl (ev1 rfl) (mkC func136) (y3o _ _) rfl ?_));rintro _ w4 ⟨rfl,U⟩;refine gY rfl (nt' rfl (pkf rfl rfl (mv rfl (gs 15 rfl (λg1=>?_) (λg1=>?_)))));exact gN rfl rfl (gN rfl rfl (gN rfl rfl (gN rfl rfl (gN rfl rfl (pkt rfl rfl (z6y rfl (.c2 rfl rfl) (J.n1 U)))))));refine gY rfl (fad rfl z7a (gY rfl ?_));replace I:=I.ext (J.n1 U);refine z0g rfl I rfl y9j (gY rfl (fad rfl z7a (gY rfl ?_)));replace D:=D.ext U;exact z0g rfl D rfl y9j (gY rfl (eq' rfl rfl (pkf rfl rfl (z6y rfl (.c2 rfl rfl) (J.n1 U)))));intro w5 M;have z5:=M.size;refine tn (cd rfl (λZ=>?_) (λZ=>?_));refine sr (asg rfl (nn (rt (tr (r1 results98 rfl ?_)))));exact⟨_,rfl,congrArg Value.bool (decide_eq_false (u6s Z)).symm,(q1.n2 O M)⟩;refine sk (tn (sr (fad rfl z7a ?_)));replace I:=I.ext (O.n1 M);refine z0g rfl I rfl y9j (fad rfl z7a ?_);replace D:=D.ext M;refine z3l rfl rfl D rfl j2z (λw6 D q6 z6=>?_);replace D:Blk w6 g3 _ [_,_,_,_]:=D;refine nn (sr ?_);replace I:=I.fr q6;refine z0k rfl I z6k (z0k rfl D z6k (j7z (V:=paV) (e:=p) (f:=(⟨q.id,q.f,p.d⟩:Pa)) rfl rfl j5t rfl (asg rfl (nn (rt (r1 results98 rfl ?_))))));exact⟨_,rfl,congrArg Value.bool (decide_eq_decide.2 (u7p Z)),(q1.z3 O M q6)⟩
theorem z8x:ElemOf prog 54 100 z1r 24:=ElemOf.mk' (z:=(.agg #[.int .u8 0,.int .i64 0,.bool false,.int .u8 0])) underlying54 (by kernel_rfl) rfl
theorem y6p (w:World):(zeroValue 100).run prog w=.ok (.agg #[(.int .u8 0),(.int .i64 0),(.bool false),(.int .u8 0)]) w:=by kernel_rfl
theorem z9m (v:Value)(l:List Pa)(w0:World)(I:Sl z1r w0 v l)(hl:l.length<=100000):Rets prog 199 #[v] w0 λr w'=>∃A,r=.slice A l.length l.length/\Lw.Own z1r 100 w0.heap.size w' r l/\Fr [] w0 w':=by
 obtain⟨A,c,rfl,a0,Z,U⟩:=id I;clear U;unfold maxLen at Z;refine we [(0,.slice A l.length c)] func199 rfl ntmps199 rfl (.cons rfl .nil) ?_;have J:=I;refine sr (asg rfl (nn (sr (mv rfl (lnS rfl underlying54 (z1f (m:=l.length) (c:=l.length) (pa0) rfl rfl z8x y6p rfl (λO w1 a1 D M z1=>(asg rfl (nn (sr (mv rfl (mv rfl ?_))))))))))));replace I:=J.ext M;refine z7k (zs:=List.replicate l.length pa0) (by rw[List.length_replicate];rfl) rfl (by rw[List.length_replicate];exact D) I (by rw[List.length_replicate]) z8x (λw2 D q2 z2=>?_);rw[List.length_replicate]at D;refine nn (sr (mv rfl (asg rfl (nn (rt (r1 results199 rfl ?_))))));exact⟨_,rfl,some ⟨O,0,none⟩,rfl,D.low (by omega),(M.z1 q2)⟩
theorem x0a:z1p prog 100 4:=λ_=>by kernel_rfl
set_option maxHeartbeats 1000000 in
theorem v5x (base:Nat)(u v:Value)(st l:List Pa)(w0:World)(I:Lw.Own z1r 100 base w0 u st)(hs:Sl z1r w0 v l)(hd:∀k∈z0x v,k<base)(hb:base<=w0.heap.size)(hn:st.length+l.length<=100000):Rets prog 198 #[u,v] w0 λr w'=>∃S,Lw.Own z1r 100 base w' r (z4s st l)/\(∀k∈S,base<=k)/\Fr S w0 w':=by
 obtain⟨A,c,rfl,b6,hM,hA⟩:=id hs;clear hA;unfold maxLen at hM;refine we [(0,u),(1,.slice A l.length c)] func198 rfl ntmps198 rfl (.c2 rfl rfl) ?_;have b1:=hs;refine sr (asg rfl (nn (sq (sr (mv rfl (lnS rfl underlying54 (mv rfl (nn (bl ?_)))))))));refine lpK (ι:=Nat×Value) [(8,_),(9,_)] (λp=>[(10,.int .i64 (p.1:Int)),(0,p.2)]) (λp w'=>p.1<=l.length/\Lw.Own z1r 100 base w' p.2 (z4s st (l.take p.1))/\base<=w'.heap.size/\(∃S,(∀k∈S,base<=k)/\Fr S w0 w')) (λp=>l.length-p.1) (0,u) (.c4 rfl rfl rfl rfl) ⟨Nat.zero_le _,I,hb,[],(by simp),Fr.refl _ _⟩ ?_;rintro⟨i,vT⟩ w1 ⟨hi,I,hb,⟨S,hS,qS⟩⟩;simp only at hi I;refine kpC [(8,_),(9,_),(10,.int .i64 (i:Int)),(0,vT)] (.c4 rfl rfl rfl rfl) ?_;have hs:=b1.fr qS (λk M b0=>by have:=hS k M;have:=hd k b0;omega);have a7:=y0s (l.take i) st;rw[List.length_take]at a7;obtain⟨ps,U⟩:∃x,x=z4s st (l.take i):=⟨_,rfl⟩;rw[<-U]at I a7;obtain⟨AT,cT,rfl,b5⟩:=I.sl.form;have a1:=I;have a9:=I.sl.len_le;unfold maxLen at a9;refine sr (lt' rfl rfl (nn (sq (cd rfl (λc0=>?_) (λc0=>?_)))));refine sk (tn (sq (bl (sr (z1a (pa0) rfl hs rfl z8x z1d (λb3 a4=>?_))))));refine z1i rfl (a4 _ hs) z6k (al y6p rfl rfl (λg6 w2 b7 J q2 z2=>?_));refine z0j (vs:=[_,_,_,_]) rfl rfl J x0a (λw3 J q3 z3=>?_) (h1:=(by first|(simp[Value.oneCell',S];done)|exact z1r.one (l.getD i pa0)));refine nn (sr (mv rfl (lnS rfl underlying54 (asg rfl (nn (sq ?_))))));replace I:=(I.ext q2).fr q3 (by first|exact z9k I (by omega)|simp[z0x]<;>omega);intro a h;refine z0i none (λwb w'=>Fr [] wb w') z2o ?_;intro w4 q4;have z4:=q4.size;replace I:=I.ext q4;replace J:=J.ext q4;have hC:Fr [] w4 w4:=Fr.refl _ _;have a0:=I;have O:=J;refine z0e 0 h rfl rfl λa h=>v4k 1 hC h wn rfl rfl rfl rfl λa h=>z0e 2 h rfl rfl λa h=>?_;refine gSp (D:=18) h rfl ?_ ?_;clear h;intro g0 h;refine z0e 3 h rfl rfl ?_ (hG:=(wy rfl));clear h a;intro a h;refine z0e 4 h rfl rfl ?_ (hG:=(wy rfl));clear h a;intro a h;refine z3b 5 h (wy rfl) rfl rfl (by first|exact i6 (by omega)|rfl) rfl λa h=>z1h (p:=(ps.length-1)) (pa0) 6 h rfl I.sl rfl z8x rfl ?_ (hG:=(wy rfl));clear h a;intro b4 a5 a h;refine z1y 7 h (wy rfl) rfl (λ_ hw=>a5 _ (a0.sl.ext hw)) z6k rfl λa h=>z0y 8 h rfl (λ_ hw=>O.ext hw) z6k rfl ?_ (hG:=(wy rfl));clear h a;intro a h;refine z0d 9 rfl ?_;refine y5y h rfl rfl rfl rfl rfl rfl ?_;refine z0n h (z0a rfl (z0a rfl z0f)) (mkC func98) (x1g (ps.getD (ps.length-1) pa0) (l.getD i pa0) _) ?_;rintro _ w5 ⟨rfl,q5⟩ a h;have z5:=q5.size;replace I:=I.ext q5;replace J:=J.ext q5;replace hC:=hC.next q5;refine z0b ?_;refine z0d 10 rfl ?_;refine z5k h rfl rfl rfl rfl λa h=>?_;refine z0b ?_;refine z0q ?_;clear hC a0 O;refine bk (h.sub (L':=[(0,_),(6,_),(7,_),(8,_),(9,_),(10,_),(26,_)]) (.c7 rfl rfl rfl rfl rfl rfl rfl)) (tn (cd rfl (λc1=>?_) (λc1=>?_)));refine rg (mv rfl (mv rfl (z2u rfl rfl (wi6 (by omega)) (mv rfl (j4e rfl underlying54 rfl (u8e (p:=(ps.length-1)) (p':=cT) rfl rfl rfl z8x (by omega) (by omega) (by omega) (by omega) (by omega) rfl (asg rfl (kpL [(0,_),(8,_),(9,_),(10,_)] (.c4 rfl rfl rfl rfl) (nl (bn' (tn (rg (z0v rfl rfl (wi6 (by omega)) (mv rfl (nl ?_)))))))))))))));exact lpE ((i+1,_)) (.c4 rfl rfl rfl rfl) ⟨by simp only;omega,by rw[y2l st l i (by omega),<-U,y0b,if_pos ⟨by omega,c1⟩];exact I.take rfl (by omega) (by omega) (by omega),by omega,S++z0x (.slice AT ps.length cT),(λk M=>(List.mem_append.1 M).elim (hS k) (λM=>(a1.blk k M).1)),qS.trans ((Fr.refl (z0x (.slice AT ps.length cT)) _).z4 q2 q3 q4 q5)⟩ (by simp only;omega);refine rg (mv rfl (z0k rfl J z6k (z2h ([l.getD i pa0]) (ev1 rfl) rfl rfl rfl z8x (λa8 w6 a6 Z q6 z6=>?_))));replace I:=I.ext q6;have a2:=I;refine z2e rfl rfl I Z.sl z8x (by unfold maxLen;simp only[List.length_cons,List.length_nil];omega) (by simp only[List.length_cons,List.length_nil];omega) (λb2 w7 I q7 a3=>?_);have z7:=q7.size;refine asg rfl (kpL [(0,_),(8,_),(9,_),(10,_)] (.c4 rfl rfl rfl rfl) (nl (bn' (tn (rg (z0v rfl rfl (wi6 (by omega)) (mv rfl (nl ?_))))))));exact lpE ((i+1,_)) (.c4 rfl rfl rfl rfl) ⟨by simp only;omega,by rw[y2l st l i (by omega),<-U,y0b,if_neg (by first|exact λe=>c1 e.2|exact λe=>absurd e.1 (by omega))];exact I,by omega,S++z0x (.slice AT ps.length cT),(λk M=>(List.mem_append.1 M).elim (hS k) (λM=>(a1.blk k M).1)),qS.trans (((Fr.refl (z0x (.slice AT ps.length cT)) _).z5 q2 q3 q4 q5 q6).step q7 (λk M _=>M))⟩ (by simp only;omega);clear h;intro g0 h;refine z2i 3 h rfl rfl rfl λa h=>z2i 4 h rfl rfl rfl λa h=>z2i 5 h rfl rfl rfl λa h=>z2i 6 h rfl rfl rfl λa h=>z2i 7 h rfl rfl rfl λa h=>z2i 8 h rfl rfl rfl λa h=>z2i 9 h rfl rfl rfl λa h=>z0d 10 rfl ?_;refine z4k h rfl rfl rfl rfl λa h=>?_;refine z0b ?_;refine z0q ?_;clear hC a0 O;refine bk (h.sub (L':=[(0,_),(6,_),(7,_),(8,_),(9,_),(10,_),(26,_)]) (.c7 rfl rfl rfl rfl rfl rfl rfl)) (tn (cf rfl (rg (mv rfl (z0k rfl J z6k (z2h ([l.getD i pa0]) (ev1 rfl) rfl rfl rfl z8x (λa8 w8 a6 Z q8 z8=>?_)))))));replace I:=I.ext q8;have a2:=I;refine z2e rfl rfl I Z.sl z8x (by unfold maxLen;simp only[List.length_cons,List.length_nil];omega) (by simp only[List.length_cons,List.length_nil];omega) (λb2 w9 I q9 a3=>?_);have z9:=q9.size;refine asg rfl (kpL [(0,_),(8,_),(9,_),(10,_)] (.c4 rfl rfl rfl rfl) (nl (bn' (tn (rg (z0v rfl rfl (wi6 (by omega)) (mv rfl (nl ?_))))))));exact lpE ((i+1,_)) (.c4 rfl rfl rfl rfl) ⟨by simp only;omega,by rw[y2l st l i (by omega),<-U,y0b,if_neg (by first|exact λe=>c1 e.2|exact λe=>absurd e.1 (by omega))];exact I,by omega,S++z0x (.slice AT ps.length cT),(λk M=>(List.mem_append.1 M).elim (hS k) (λM=>(a1.blk k M).1)),qS.trans (((Fr.refl (z0x (.slice AT ps.length cT)) _).z4 q2 q3 q4 q8).step q9 (λk M _=>M))⟩ (by simp only;omega);refine ex (te (te (xh (tn (sr (mv rfl (asg rfl (kpL [(4,_)] (.cons rfl .nil) (nn (rt (r1 results198 rfl ?_)))))))))));exact⟨_,rfl,S,by rw[List.take_of_length_le (by omega)]at U;rw[<-U];exact I,hS,qS⟩
theorem z9d:z0z prog 82 0 0:=λ_ _=>by kernel_rfl
theorem z6c:z0z prog 82 1 1:=λ_ _=>by kernel_rfl
theorem z9f:z0z prog 82 2 2:=λ_ _=>by kernel_rfl
theorem x8l:z0z prog 82 3 3:=λ_ _=>by kernel_rfl
theorem z6o:z0z prog 82 4 4:=λ_ _=>by kernel_rfl
theorem y3f:z2c prog 54:=λ_=>by kernel_rfl
set_option maxHeartbeats 1000000 in
theorem z8q (q:YQ)(w0:World)(hp:Sl z1r w0 (slv q.pe) q.pes):Rets prog 44 #[.agg #[.bool q.inn,.int .i64 q.pl,.int .i64 q.ct,.bool q.nw,.slice q.pe.1 q.pe.2.1 q.pe.2.2]] w0 λr w'=>r=.int .i64 (ynE q.p)/\Fr [] w0 w':=by
 have a0:=z1x hp;have a4:=hp.len_le;unfold maxLen at a4;refine we [(0,.agg #[.bool q.inn,.int .i64 q.pl,.int .i64 q.ct,.bool q.nw,.slice q.pe.1 q.pe.2.1 q.pe.2.2])] func44 rfl ntmps44 rfl (.cons rfl .nil) ?_;have a3:=hp;refine sr (bx rfl rfl rfl (λg1 w1 a7 I q1 z1=>(asg rfl (nn (sq (sq ?_))))));refine rbo (r:=12) (L':=[(1,_)]) (((q.ct<0)\/(2048<q.ct))) (.cons rfl .nil) ?_ ?_;refine fad rfl z9f (z0g rfl I rfl na3 (lt' rfl rfl (mv rfl (gs 8 rfl (λg0=>?_) (λg0=>?_)))));exact gN rfl rfl (gN rfl rfl (gN rfl rfl (pkt rfl rfl (rbe rfl (.cons rfl .nil)))));exact gY rfl (fad rfl z9f (gY rfl (z0g rfl I rfl na3 (gY rfl (gt' rfl rfl (pkf rfl rfl (rbe rfl (.cons rfl .nil))))))));refine tn (cd rfl (λc0=>?_) (λc0=>?_));refine sr (asg rfl (nn (rt (tr (r1 results44 rfl ?_)))));exact⟨_,rfl,by rw[yn_a c0],q1⟩;refine sk (tn (sq (sr (fad rfl z9d (z0g rfl I rfl na4 (nt' rfl (nn (cd rfl (λc1=>?_) (λc1=>?_)))))))));refine sq (sq ?_);refine rbo (r:=28) (L':=[]) ((((q.pl≠0)\/q.nw=true)\/(0<(q.pe.2.1:Int)))) .nil ?_ ?_;refine fad rfl z6c (z0g rfl I rfl na3 (ne' rfl rfl (mv rfl (gs 19 rfl (λg1=>?_) (λg1=>?_)))));exact gN rfl rfl (gN rfl rfl (pkt rfl rfl (mv rfl (gN rfl rfl (gN rfl rfl (gN rfl rfl (gN rfl rfl (pkt rfl rfl (rbe rfl .nil)))))))));refine gY rfl (fad rfl x8l (gY rfl (z0g rfl I rfl na4 (pkf rfl rfl (mv rfl (gs 23 rfl (λg2=>?_) (λg2=>?_)))))));exact gN rfl rfl (gN rfl rfl (gN rfl rfl (gN rfl rfl (pkt rfl rfl (rbe rfl .nil)))));exact gY rfl (fad rfl z6o (gY rfl (z0g rfl I rfl y3f (gY rfl (lnS rfl underlying54 (gY rfl (gt' rfl rfl (pkf rfl rfl (rbe rfl .nil)))))))));refine tn (cd rfl (λc2=>?_) (λc2=>?_));refine sr (asg rfl (nn (rt (tr (tr (r1 results44 rfl ?_))))));have M:q.inn=false:=(by simpa using c1);exact⟨_,rfl,by rw[yn_b M (by simpa[a0] using c2)],q1⟩;refine sk (tn (sr (asg rfl (nn (rt (tr (r1 results44 rfl ?_)))))));have M:q.inn=false:=(by simpa using c1);exact⟨_,rfl,by rw[yn_c c0 M (by simpa[a0] using c2)],q1⟩;refine sk (tn (sq (sq ?_)));refine y6f (r:=38) (L':=[(1,_)]) (((¬(v0u q.pl))\/(4096<(q.pe.2.1:Int)))) (.cons rfl .nil) ?_ ?_;refine fad rfl z6c (z0g rfl I rfl na3 (cl (ev1 rfl) (mkC func96) (y7b _ _) rfl ?_));rintro _ w2 ⟨rfl,q2⟩;have z2:=q2.size;refine nt' rfl (mv rfl (gs 33 rfl (λg3=>?_) (λg3=>?_)));exact gN rfl rfl (gN rfl rfl (gN rfl rfl (gN rfl rfl (pkt rfl rfl (z6y rfl (.cons rfl .nil) q2)))));refine gY rfl (fad rfl z6o (gY rfl ?_));replace I:=I.ext q2;exact z0g rfl I rfl y3f (gY rfl (lnS rfl underlying54 (gY rfl (gt' rfl rfl (pkf rfl rfl (z6y rfl (.cons rfl .nil) q2))))));intro w3 q3;have z3:=q3.size;refine tn (cd rfl (λc3=>?_) (λc3=>?_));refine sr (asg rfl (nn (rt (tr (r1 results44 rfl ?_)))));have M:q.inn=true:=(by simpa using c1);exact⟨_,rfl,by rw[yn_d M (by simpa[a0] using c3)],(q1.n1 q3)⟩;refine sk (tn (sq (sr (fad rfl z6o ?_))));replace I:=I.ext q3;refine z0g rfl I rfl y3f (lnS rfl underlying54 (mv rfl (nn (bl ?_))));refine lpK (ι:=Nat) [(1,_),(40,_),(41,_)] (λi=>[(42,.int .i64 (i:Int))]) (λi w'=>Fr [] w3 w'/\i<=q.pes.length/\∀j,j<i->v2x q.pes j) (λi=>q.pes.length-i) 0 (.c4 rfl rfl rfl rfl) ⟨Fr.refl _ _,⟨Nat.zero_le _,λj h=>absurd h (by omega)⟩⟩ ?_;rintro i w4 ⟨q4,⟨hi,hg⟩⟩;have z4:=q4.size;refine kpC [(1,_),(40,_),(41,_),(42,_)] (.c4 rfl rfl rfl rfl) (sr (lt' rfl rfl (nn (sq (cd rfl (λc4=>?_) (λc4=>?_))))));refine sk (tn (sq (bl (sr (mv rfl ?_)))));replace hp:=a3.ext (q1.n2 q3 q4);refine z1a (p:=i) (pa0) rfl hp rfl z8x (by omega) (λa5 a1=>(z1i rfl (a1 _ hp) z6k (al y6p rfl rfl (λg4 w5 a8 U q5 z5=>?_))));refine asg rfl (z0j (vs:=[_,_,_,_]) rfl rfl U x0a (λw6 U q6 z6=>?_) (h1:=(by first|(simp[Value.oneCell',S];done)|exact z1r.one (q.pes.getD i pa0))));refine nn (sq ?_);replace hp:=a3.ext (q1.z4 q3 q4 q5 q6);replace I:=(I.ext (q4.n1 q5)).fr q6;intro a h;refine z0i none (λwb w'=>Fr [] wb w') z2o ?_;intro w7 q7;have z7:=q7.size;replace hp:=hp.ext q7;replace I:=I.ext q7;replace U:=U.ext q7;have hC:Fr [] w7 w7:=Fr.refl _ _;have Z:=hp;have O:=I;have J:=U;refine z0y 0 h rfl (λ_ hw=>J.ext hw) z6k rfl λa h=>z0d 1 rfl ?_;refine z0n h (z0a rfl z0f) (mkC func97) (x6v (q.pes.getD i pa0) _) ?_;rintro _ w8 ⟨rfl,q8⟩ a h;have z8:=q8.size;replace hp:=hp.ext q8;replace I:=I.ext q8;replace U:=U.ext q8;replace hC:=hC.next q8;refine z0b ?_;refine x7a 2 hC h wn rfl rfl rfl λa h=>z0e 3 h rfl rfl λa h=>?_;refine gSp (D:=50) h rfl ?_ ?_;clear h;intro g4 h;refine z2i 4 h rfl rfl rfl λa h=>z2i 5 h rfl rfl rfl λa h=>z2i 6 h rfl rfl rfl λa h=>x3c 7 hC h rfl rfl rfl λa h=>x3c 8 hC h rfl rfl rfl λa h=>x3c 9 hC h rfl rfl rfl λa h=>x3c 10 hC h rfl rfl rfl λa h=>x3c 11 hC h rfl rfl rfl λa h=>x3c 12 hC h rfl rfl rfl λa h=>x3c 13 hC h rfl rfl rfl λa h=>x3c 14 hC h rfl rfl rfl λa h=>?_;refine z2i 15 h rfl rfl rfl λa h=>z0d 16 rfl ?_;refine z5k h rfl rfl rfl rfl λa h=>?_;refine z0b ?_;refine z0q ?_;clear hC Z O J;refine bk (h.sub (L':=[(1,_),(40,_),(41,_),(42,_),(63,_)]) (.c5 rfl rfl rfl rfl rfl)) (tn (ct rfl (sr (asg rfl (nn (rt (rb (tr (tr (rb (tr (r1 results44 rfl ?_))))))))))));have M:q.inn=true:=(by simpa using c1);exact⟨_,rfl,by rw[yn_e M (i:=i) (by show i<q.pes.length;omega) (λh=>by first|exact absurd h.1 (by assumption)|exact h.2 (by omega) c5)],(q1.z6 q3 q4 q5 q6 q7 q8)⟩;clear h;intro g4 h;refine z0e 4 h rfl rfl ?_ (hG:=(wy rfl));clear h a;intro a h;refine v4k 5 hC h (wy rfl) rfl rfl rfl rfl λa h=>z0e 6 h rfl rfl ?_ (hG:=(wy rfl));clear h a;intro a h;refine gSp (D:=53) h rfl ?_ ?_;clear h;intro g5 h;refine z0c 7 h rfl z6o rfl ?_ (hG:=(wy rfl));clear h a;intro a h;refine z0l 8 h rfl (λ_ hw=>O.ext hw) rfl y3f rfl ?_ (hG:=(wy rfl));clear h a;intro a h;refine z0e 9 h rfl rfl ?_ (hG:=(wy rfl));clear h a;intro a h;refine z3b 10 h (wy rfl) rfl rfl (by first|exact i6 (by omega)|rfl) rfl λa h=>z1h (p:=(i-1)) (pa0) 11 h rfl hp rfl z8x rfl ?_ (hG:=(wy rfl));clear h a;intro a6 a2 a h;refine z1y 12 h (wy rfl) rfl (λ_ hw=>a2 _ (Z.ext hw)) z6k rfl λa h=>z0y 13 h rfl (λ_ hw=>J.ext hw) z6k rfl ?_ (hG:=(wy rfl));clear h a;intro a h;refine z0d 14 rfl ?_;refine y5y h rfl rfl rfl rfl rfl rfl ?_;refine z0n h (z0a rfl (z0a rfl z0f)) (mkC func98) (x1g (q.pes.getD (i-1) pa0) (q.pes.getD i pa0) _) ?_;rintro _ w9 ⟨rfl,q9⟩ a h;have z9:=q9.size;replace hp:=hp.ext q9;replace I:=I.ext q9;replace U:=U.ext q9;replace hC:=hC.next q9;refine z0b ?_;refine z0d 15 rfl ?_;refine tW h (kY rfl (pkt rfl rfl ?_));clear h a;intro a h;refine z0b ?_;refine z0d 16 rfl ?_;refine z4k h rfl rfl rfl rfl λa h=>?_;refine z0b ?_;refine z0q ?_;clear hC Z O J;refine bk (h.sub (L':=[(1,_),(40,_),(41,_),(42,_),(63,_)]) (.c5 rfl rfl rfl rfl rfl)) (tn (cd rfl (λc5=>?_) (λc5=>?_)));refine sr (asg rfl (nn (rt (rb (tr (tr (rb (tr (r1 results44 rfl ?_)))))))));have M:q.inn=true:=(by simpa using c1);exact⟨_,rfl,by rw[yn_e M (i:=i) (by show i<q.pes.length;omega) (λh=>by first|exact absurd h.1 (by assumption)|exact h.2 (by omega) c5)],((q1.z6 q3 q4 q5 q6 q7 q8).n1 q9)⟩;refine sk (bn' (tn (rg (z0v rfl rfl (wi6 (by omega)) (mv rfl (nl ?_))))));exact lpE (i+1) (.c4 rfl rfl rfl rfl) ⟨(q4.z5 q5 q6 q7 q8 q9),⟨by omega,λj hj=>by
  by_cases e:j<i;exact hg j e;obtain rfl:j=i:=by omega
  exact⟨by assumption,λh0=>by first|exact c5|exact absurd h0 (by omega)⟩⟩⟩ (by omega)
 clear h;intro g5 h;refine z2i 7 h rfl rfl rfl λa h=>z2i 8 h rfl rfl rfl λa h=>z2i 9 h rfl rfl rfl λa h=>z2i 10 h rfl rfl rfl λa h=>z2i 11 h rfl rfl rfl λa h=>z2i 12 h rfl rfl rfl λa h=>z2i 13 h rfl rfl rfl λa h=>z2i 14 h rfl rfl rfl λa h=>z0d 15 rfl ?_;refine tW h (kY rfl (pkf rfl rfl ?_));clear h a;intro a h;refine z0b ?_;refine z0d 16 rfl ?_;refine z4k h rfl rfl rfl rfl λa h=>?_;refine z0b ?_;refine z0q ?_;clear hC Z O J;refine bk (h.sub (L':=[(1,_),(40,_),(41,_),(42,_),(63,_)]) (.c5 rfl rfl rfl rfl rfl)) (tn (cf rfl (sk (bn' (tn (rg (z0v rfl rfl (wi6 (by omega)) (mv rfl (nl ?_)))))))));exact lpE (i+1) (.c4 rfl rfl rfl rfl) ⟨(q4.z4 q5 q6 q7 q8),⟨by omega,λj hj=>by
  by_cases e:j<i;exact hg j e;obtain rfl:j=i:=by omega
  exact⟨by assumption,λh0=>by first|exact c5|exact absurd h0 (by omega)⟩⟩⟩ (by omega)
 obtain rfl:i=q.pes.length:=by omega
 refine ex (te (te (xh (tn (sr (asg rfl (nn (rt (r1 results44 rfl ?_)))))))));have M:q.inn=true:=(by simpa using c1);exact⟨_,rfl,by rw[yn_f c0 M (by simpa[a0] using c3) hg],(q1.n2 q3 q4)⟩
theorem z6f:z3u prog 82 5:=⟨λ_=>by kernel_rfl,λ_=>by kernel_rfl⟩
theorem x2h:BuildAt prog 82 [(0,1),(1,1),(2,1),(3,1),(4,1)] [(.bool false),(.int .i64 0),(.int .i64 0),(.bool false),(.slice none 0 0)]:=BuildAt.struct underlying82 (λ_=>by kernel_rfl) (λ_=>by kernel_rfl)
theorem j3o:CallOf prog 44:=mkC func44
theorem sz3:z1p prog 3 1:=λ_=>by kernel_rfl
theorem j6r:z1p prog 54 1:=λ_=>by kernel_rfl
theorem z6s:z1p prog 82 5:=λ_=>by kernel_rfl
theorem y1g (w:World):(zeroValue 82).run prog w=.ok (.agg #[(.bool false),(.int .i64 0),(.int .i64 0),(.bool false),(.slice none 0 0)]) w:=by kernel_rfl
set_option maxHeartbeats 1000000 in
theorem x9d (q:YQ)(pl:Int)(v:Value)(l:List Pa)(w0:World)(hp:Sl z1r w0 (slv q.pe) q.pes)(hs:Sl z1r w0 v l)(hv:∀k∈z0x v,k<w0.heap.size)(hl:l.length<=50000):Rets prog 146 #[.agg #[.bool q.inn,.int .i64 q.pl,.int .i64 q.ct,.bool q.nw,.slice q.pe.1 q.pe.2.1 q.pe.2.2],.int .i64 pl,v] w0 λr w'=>∃q':YQ,r=.tuple #[.agg #[.bool q'.inn,.int .i64 q'.pl,.int .i64 q'.ct,.bool q'.nw,.slice q'.pe.1 q'.pe.2.1 q'.pe.2.2],.int .i64 (goE q.p pl l)]/\(goE q.p pl l=0->q'.p=goS q.p pl l/\Lw.Own z1r 100 w0.heap.size w' (slv q'.pe) q'.pes)/\Fr [] w0 w':=by
 have f4:=z1x hp;have d0:=hp.len_le;unfold maxLen at d0;obtain⟨A,c,rfl,f0,hM,hA⟩:=id hs;clear hA;unfold maxLen at hM;refine we [(0,.agg #[.bool q.inn,.int .i64 q.pl,.int .i64 q.ct,.bool q.nw,.slice q.pe.1 q.pe.2.1 q.pe.2.2]),(1,.int .i64 pl),(2,.slice A l.length c)] func146 rfl ntmps146 rfl (.c3 rfl rfl rfl) ?_;have b3:=hp;have b4:=hs;refine sr (bx rfl rfl rfl (λg3 w1 f1 I q1 z1=>(al y1g rfl rfl (λg6 w2 f2 D q2 z2=>(asg rfl (nn (sq (sr ?_))))))));replace I:=I.ext q2;refine z0k rfl I z6f ?_;replace hp:=b3.ext (q1.n1 q2);refine cl (ev1 rfl) j3o (z8q q _ hp) rfl ?_;rintro _ w3 ⟨rfl,Z⟩;have z3:=Z.size;refine asg rfl (nn (sr (mv rfl (ne' rfl rfl (nn (cd rfl (λc0=>?_) (λc0=>?_)))))));refine sr (z1v (cs:=[_,_,_,_,_]) z0f x2h z0s rfl ?_);refine mv rfl ?_;replace D:=D.ext Z;refine z0j (vs:=[_,_,_,_,_]) rfl rfl D z6s (λw4 D q4 z4=>?_) (h1:=(by first|(simp[Value.oneCell',S];done)|exact z1r.one (l.getD i pa0)));refine asg rfl (kpL [(6,_),(7,_)] (.c2 rfl rfl) (nn (rt (tr (rCT results146 rfl D z6f rfl ?_)))));have U:goE q.p pl l=ynE q.p:=by unfold goE;rw[if_pos c0]
 exact⟨_,rfl,yq0,by rw[U];rfl,(λh=>absurd h (by rw[U];exact c0)),(q1.z3 q2 Z q4)⟩;have d3:=v6h (Classical.not_not.1 c0);refine sk (tn (sq (sr (mv rfl (cl (ev1 rfl) (mkC func96) (y7b _ _) rfl ?_)))));rintro _ w5 ⟨rfl,q5⟩;have z5:=q5.size;refine nt' rfl (nn (cd rfl (λc1=>?_) (λc1=>?_)));refine sr (z1v (cs:=[_,_,_,_,_]) z0f x2h z0s rfl ?_);replace D:=D.ext (Z.n1 q5);refine z0j (vs:=[_,_,_,_,_]) rfl rfl D z6s (λw6 D q6 z6=>?_) (h1:=(by first|(simp[Value.oneCell',S];done)|exact z1r.one (l.getD i pa0)));refine asg rfl (nn (rt (tr (rCT results146 rfl D z6f rfl ?_))));have U:goE q.p pl l=1:=by unfold goE;rw[if_neg c0,if_pos (by simpa using c1)]
 exact⟨_,rfl,yq0,by rw[U];rfl,(λh=>absurd h (by rw[U];decide)),(q1.z4 q2 Z q5 q6)⟩;refine sk (tn (sq (sr (mv rfl (lnS rfl underlying54 (mv rfl (nn (bl ?_))))))));refine lpK (ι:=Nat) [(1,_),(2,_),(3,_),(6,_),(22,_),(23,_)] (λi=>[(24,.int .i64 (i:Int))]) (λi w'=>Fr [] w5 w'/\i<=l.length/\∀j,j<i->y1d (l.getD j pa0)) (λi=>l.length-i) 0 (.c7 rfl rfl rfl rfl rfl rfl rfl) ⟨Fr.refl _ _,⟨Nat.zero_le _,λj h=>absurd h (by omega)⟩⟩ ?_;rintro i w7 ⟨q7,⟨hi,hg⟩⟩;have z7:=q7.size;refine kpC [(1,_),(2,_),(3,_),(6,_),(22,_),(23,_),(24,_)] (.c7 rfl rfl rfl rfl rfl rfl rfl) (sr (lt' rfl rfl (nn (sq (cd rfl (λc2=>?_) (λc2=>?_))))));refine sk (tn (sq (bl (sr ?_))));replace hs:=b4.ext (q1.n4 q2 Z q5 q7);refine z1a (pa0) rfl hs rfl z8x z1d (λe1 b2=>?_);refine z1i rfl (b2 _ hs) z6k (al y6p rfl rfl (λe9 w8 e3 a4 q8 z8=>?_));refine z0j (vs:=[_,_,_,_]) rfl rfl a4 x0a (λw9 a4 q9 z9=>?_) (h1:=(by first|(simp[Value.oneCell',S];done)|exact z1r.one (l.getD i pa0)));refine nn (sr (z0k rfl a4 z6k (cl (ev1 rfl) (mkC func97) (x6v (l.getD i pa0) _) rfl ?_)));rintro _ f6 ⟨rfl,a7⟩;have g7:=a7.size;refine nt' rfl (nn (cd rfl (λc3=>?_) (λc3=>?_)));refine sr (z1v (cs:=[_,_,_,_,_]) z0f x2h z0s rfl ?_);replace D:=((D.ext (Z.n3 q5 q7 q8)).fr q9).ext a7;refine z0j (vs:=[_,_,_,_,_]) rfl rfl D z6s (λf7 D d4 g8=>?_) (h1:=(by first|(simp[Value.oneCell',S];done)|exact z1r.one (l.getD i pa0)));refine asg rfl (kpL [(6,_),(7,_)] (.c2 rfl rfl) (nn (rt (rb (tr (tr (rb (tr (rCT results146 rfl D z6f rfl ?_)))))))));have U:goE q.p pl l=1:=by unfold goE;rw[if_neg c0,if_neg (by simpa using c1),if_pos (λa3=>(by simpa using c3:¬y1d (l.getD i pa0)) (a3 _ (z0u (by omega))))]
 exact⟨_,rfl,yq0,by rw[U];rfl,(λh=>absurd h (by rw[U];decide)),(((q1.z6 q2 Z q5 q7 q8 q9).n1 a7).z1 d4)⟩;refine sk (bn' (tn (rg (z0v rfl rfl (wi6 (by omega)) (mv rfl (nl ?_))))));exact lpE (i+1) (.c7 rfl rfl rfl rfl rfl rfl rfl) ⟨(q7.z3 q8 q9 a7),⟨by omega,λj hj=>by
  by_cases e:j<i;exact hg j e;obtain rfl:j=i:=by omega
  exact Classical.not_not.1 (by simpa using c3)⟩⟩ (by omega)
 obtain rfl:i=l.length:=by omega
 have a3:j4k l:=λp d1=>by
  obtain⟨j,hj,rfl⟩:=List.getElem_of_mem d1;have:=hg j hj;rwa [List.getD,List.getElem?_eq_getElem hj]at this
 refine ex (te (te (xh (tn (sq (sr (fad rfl z9d ?_)))))));replace I:=I.ext (Z.n2 q5 q7);refine z0g rfl I rfl na4 (nt' rfl (kpL [(1,_),(2,_),(3,_),(6,_),(35,_)] (.c5 rfl rfl rfl rfl rfl) (nn (cd rfl (λc4=>?_) (λc4=>?_)))));refine sr (z1v (cs:=[_,_,_,_,_]) z0f x2h z0s rfl ?_);replace D:=D.ext (Z.n2 q5 q7);refine z0j (vs:=[_,_,_,_,_]) rfl rfl D z6s (λf8 D d5 g9=>?_) (h1:=(by first|(simp[Value.oneCell',S];done)|exact z1r.one (l.getD i pa0)));refine asg rfl (nn (rt (tr (rCT results146 rfl D z6f rfl ?_))));have U:goE q.p pl l=12:=by unfold goE;rw[if_neg c0,if_neg (by simpa using c1),if_neg (λe=>e a3),if_pos (by simpa using c4)]
 exact⟨_,rfl,yq0,by rw[U];rfl,(λh=>absurd h (by rw[U];decide)),(q1.z5 q2 Z q5 q7 d5)⟩;have b9:q.inn=true:=(by simpa using c4);have b5:=d3.2;rw[if_pos b9]at b5;have f3:q.pes.length<=4096:=b5.2.1;refine sk (tn (sr (fad rfl z6o (z0g rfl I rfl y3f (lnS rfl underlying54 (mv rfl (lnS rfl underlying54 (z0v rfl rfl (wi6 (by omega)) (z1f (m:=0) (c:=(q.pe.2.1+l.length)) (pa0) rfl rfl z8x y6p rfl (λb1 f9 e4 ho a1 h0=>(asg rfl (kpL [(1,_),(2,_),(3,_),(6,_),(11,_)] (.c5 rfl rfl rfl rfl rfl) (nn (sr (mv rfl (fad rfl z6o ?_))))))))))))))));replace I:=I.ext a1;refine z0g rfl I rfl y3f ?_;replace D:=D.ext (Z.n3 q5 q7 a1);replace hp:=b3.ext (q1.n5 q2 Z q5 q7 a1);have J:=ho;refine z2e rfl rfl ho hp z8x (by unfold maxLen;simp only[List.length_replicate];omega) (by simp only[List.length_replicate];omega) (λb7 d7 ho a2 c9=>?_);have h2:=a2.size;replace I:=I.fr a2 (λM=>by have:=(J.blk _ M).1;omega);replace D:=D.fr a2 (λM=>by have:=(J.blk _ M).1;omega);replace ho:Lw.Own z1r 100 b1 d7 b7 q.pes:=ho;refine mv rfl ?_;replace hs:=b4.ext ((q1.n5 q2 Z q5 q7 a1).step a2 (λk M a6=>absurd (J.blk k M).1 (by omega)));refine cl (ev2 rfl rfl) (mkC func198) (v5x b1 b7 _ q.pes l _ ho hs (λk M=>by have:=hv k M;omega) (by omega) (by omega)) rfl ?_;rintro e7 g0 ⟨e6,ho,a0,a5⟩;replace I:=I.fr a5 (λM=>by have:=a0 _ M;omega);replace D:=D.fr a5 (λM=>by have:=a0 _ M;omega);have h3:=a5.size;have f5:=y0s l q.pes;obtain⟨e5,e8,rfl,e2⟩:=ho.sl.form;refine asg rfl (kpL [(1,_),(3,_),(6,_),(11,_)] (.c4 rfl rfl rfl rfl) (nn (sq (sr (mv rfl (lnS rfl underlying54 (gt' rfl rfl (nn (cd rfl (λc5=>?_) (λc5=>?_))))))))));refine sr (z1v (cs:=[_,_,_,_,_]) z0f x2h z0s rfl ?_);refine z0j (vs:=[_,_,_,_,_]) rfl rfl D z6s (λg1 D d6 h4=>?_) (h1:=(by first|(simp[Value.oneCell',S];done)|exact z1r.one (l.getD i pa0)));refine asg rfl (nn (rt (tr (rCT results146 rfl D z6f rfl ?_))));have U:goE q.p pl l=3:=by unfold goE;rw[if_neg c0,if_neg (by simpa using c1),if_neg (λe=>e a3),if_neg (by simpa using c4),if_pos (by show 4096<(z4s q.pes l).length;omega)]
 exact⟨_,rfl,yq0,by rw[U];rfl,(λh=>absurd h (by rw[U];decide)),((((q1.n5 q2 Z q5 q7 a1).step a2 (λk M a6=>absurd (J.blk k M).1 (by omega))).step a5 (λk M a6=>absurd (a0 k M) (by omega))).sp d6)⟩;refine sk (tn (sr (mv rfl (fad rfl z6c (z3l rfl rfl I rfl sz3 (λd9 I a9 h5=>?_))))));replace I:Blk d9 g3 _ [_,_,_,_,_]:=I;refine nn (sr (mv rfl ?_));replace ho:=ho.fr a9 (by first|exact z9k ho (by omega)|simp[z0x]<;>omega);refine cl (ev1 rfl) (mkC func199) (z9m _ _ _ ho.sl (by omega)) rfl ?_;rintro _ g4 ⟨b8,rfl,O,a8⟩;have h6:=a8.size;refine fad rfl z6o ?_;replace I:=I.ext a8;refine z3l rfl rfl I rfl j6r (λe0 I b0 h7=>?_);replace I:Blk e0 g3 _ [_,_,_,_,_]:=I;refine nn (sr (z0k rfl I z6f ?_));replace D:=((D.fr a9).ext a8).fr b0;refine z0j (vs:=[_,_,_,_,_]) rfl rfl D z6s (λg5 D b6 h8=>?_) (h1:=(by first|(simp[Value.oneCell',S];done)|exact z1r.one (l.getD i pa0)));refine asg rfl (nn (rt (rCT results146 rfl D z6f rfl ?_)));replace O:=(O.fr b0 (by first|exact z9k O (by omega)|simp[z0x]<;>omega)).fr b6 (by first|exact z9k O (by omega)|simp[z0x]<;>omega);have U:goE q.p pl l=0:=by unfold goE;rw[if_neg c0,if_neg (by simpa using c1),if_neg (λe=>e a3),if_neg (by simpa using c4),if_neg (by show ¬4096<(z4s q.pes l).length;omega)]
 exact⟨_,rfl,⟨q.inn,pl,q.ct,q.nw,(b8,(z4s q.pes l).length,(z4s q.pes l).length),z4s q.pes l⟩,by rw[U],(λ_=>⟨rfl,O.low (by omega)⟩),(((((((q1.n5 q2 Z q5 q7 a1).step a2 (λk M a6=>absurd (J.blk k M).1 (by omega))).step a5 (λk M a6=>absurd (a0 k M) (by omega))).sp a9).next a8).sp b0).sp b6)⟩
theorem x5f:z3u prog 250 3:=⟨λ_=>by kernel_rfl,λ_=>by kernel_rfl⟩
theorem v1i:BuildAt prog 250 [(0,1),(1,1),(2,1)] [(.int .i64 0),(.bool false),(.slice none 0 0)]:=BuildAt.struct underlying250 (λ_=>by kernel_rfl) (λ_=>by kernel_rfl)
theorem x1t:z1p prog 250 3:=λ_=>by kernel_rfl
theorem x2n (w:World):(zeroValue 250).run prog w=.ok (.agg #[(.int .i64 0),(.bool false),(.slice none 0 0)]) w:=by kernel_rfl
set_option maxHeartbeats 1000000 in
theorem y0w (q:YQ)(w0:World)(hp:Sl z1r w0 (slv q.pe) q.pes)(hv:∀k∈z0x (slv q.pe),k<w0.heap.size):Rets prog 150 #[.agg #[.bool q.inn,.int .i64 q.pl,.int .i64 q.ct,.bool q.nw,.slice q.pe.1 q.pe.2.1 q.pe.2.2]] w0 λr w'=>∃(q':YQ) (n:Int) (nw:Bool) (s:SV) (ps:List Pa),r=.tuple #[.agg #[.bool q'.inn,.int .i64 q'.pl,.int .i64 q'.ct,.bool q'.nw,.slice q'.pe.1 q'.pe.2.1 q'.pe.2.2],.agg #[.int .i64 n,.bool nw,.slice s.1 s.2.1 s.2.2],.int .i64 (mkE q.p)]/\(mkE q.p=0->q'=⟨true,q.pl,q.ct+1,false,sv0,[]⟩/\n=q.ct/\nw=q.nw/\ps=q.pes/\Lw.Own z1r 100 w0.heap.size w' (slv s) ps)/\Fr [] w0 w':=by
 have f6:=z1x hp;have e3:=hp.len_le;unfold maxLen at e3;refine we [(0,.agg #[.bool q.inn,.int .i64 q.pl,.int .i64 q.ct,.bool q.nw,.slice q.pe.1 q.pe.2.1 q.pe.2.2])] func150 rfl ntmps150 rfl (.cons rfl .nil) ?_;have d5:=hp;refine sr (bx rfl rfl rfl (λg1 w1 f2 M q1 z1=>(al y1g rfl rfl (λg2 w2 f3 D q2 z2=>(al x2n rfl rfl (λg3 w3 f4 I q3 z3=>(asg rfl (nn (sq (sr ?_))))))))));replace M:=M.ext (q2.n1 q3);refine z0k rfl M z6f ?_;replace hp:=d5.ext (q1.n2 q2 q3);refine cl (ev1 rfl) j3o (z8q q _ hp) rfl ?_;rintro _ w4 ⟨rfl,q4⟩;have z4:=q4.size;refine asg rfl (nn (sr (mv rfl (ne' rfl rfl (nn (cd rfl (λc0=>?_) (λc0=>?_)))))));refine sr (z1v (cs:=[_,_,_,_,_]) z0f x2h z0s rfl ?_);refine z1v (cs:=[_,_,_]) z0f v1i z0s rfl ?_;refine mv rfl ?_;replace D:=D.ext (q3.n1 q4);refine z0j (vs:=[_,_,_,_,_]) rfl rfl D z6s (λw5 D q5 z5=>?_);replace I:=(I.ext q4).fr q5;refine z0j (vs:=[_,_,_]) rfl rfl I x1t (λw6 I q6 z6=>(asg rfl (kpL [(2,_),(3,_),(4,_)] (.c3 rfl rfl rfl) (nn (rt (tr ?_))))));replace D:=D.fr q6;refine j3x results150 rfl D z6f rfl I x5f rfl ?_;have he:mkE q.p=ynE q.p:=by unfold mkE;rw[if_pos c0]
 exact⟨_,rfl,yq0,0,false,sv0,[],by rw[he];rfl,(λh=>absurd h (by rw[he];exact c0)),(q1.z5 q2 q3 q4 q5 q6)⟩;have d6:=v6h (Classical.not_not.1 c0);refine sk (tn (sq (sr (fad rfl z9d ?_))));replace M:=M.ext q4;refine z0g rfl M rfl na4 (nt' rfl (nn (cd rfl (λc1=>?_) (λc1=>?_))));refine sr (z1v (cs:=[_,_,_,_,_]) z0f x2h z0s rfl ?_);refine z1v (cs:=[_,_,_]) z0f v1i z0s rfl ?_;replace D:=D.ext (q3.n1 q4);refine z0j (vs:=[_,_,_,_,_]) rfl rfl D z6s (λw7 D q7 z7=>?_);replace I:=(I.ext q4).fr q7;refine z0j (vs:=[_,_,_]) rfl rfl I x1t (λw8 I q8 z8=>(asg rfl (nn (rt (tr ?_)))));replace D:=D.fr q8;refine j3x results150 rfl D z6f rfl I x5f rfl ?_;have he:mkE q.p=12:=by unfold mkE;rw[if_neg c0,if_pos (by simpa using c1)]
 exact⟨_,rfl,yq0,0,false,sv0,[],by rw[he];rfl,(λh=>absurd h (by rw[he];decide)),(q1.z5 q2 q3 q4 q7 q8)⟩;have e2:q.inn=true:=(by simpa using c1);have d7:=d6.2;rw[if_pos e2]at d7;have f5:q.pes.length<=4096:=d7.2.1;have f1:0<=q.ct/\q.ct<=2048:=d6.1;refine sk (tn (sq (sr (fad rfl z9f (z0g rfl M rfl na3 (eq' rfl rfl (nn (cd rfl (λc2=>?_) (λc2=>?_)))))))));refine sr (z1v (cs:=[_,_,_,_,_]) z0f x2h z0s rfl ?_);refine z1v (cs:=[_,_,_]) z0f v1i z0s rfl ?_;replace D:=D.ext (q3.n1 q4);refine z0j (vs:=[_,_,_,_,_]) rfl rfl D z6s (λw9 D q9 z9=>?_);replace I:=(I.ext q4).fr q9;refine z0j (vs:=[_,_,_]) rfl rfl I x1t (λf7 I d9 g4=>(asg rfl (nn (rt (tr ?_)))));replace D:=D.fr d9;refine j3x results150 rfl D z6f rfl I x5f rfl ?_;have he:mkE q.p=3:=by unfold mkE;rw[if_neg c0,if_neg (by simpa using c1),if_pos c2]
 exact⟨_,rfl,yq0,0,false,sv0,[],by rw[he];rfl,(λh=>absurd h (by rw[he];decide)),(q1.z5 q2 q3 q4 q9 d9)⟩;refine sk (tn (sq ?_));replace hp:=d5.ext (q1.n3 q2 q3 q4);intro a h;refine z0i none (λwb w'=>Fr [] wb w') z2o ?_;intro d4 b2;have g5:=b2.size;replace hp:=hp.ext b2;replace M:=M.ext b2;replace D:=D.ext (q3.n2 q4 b2);replace I:=I.ext (q4.n1 b2);have hC:Fr [] d4 d4:=Fr.refl _ _;have d1:=hp;have O:=M;have a1:=D;have a2:=I;refine z0c 0 h rfl z9f rfl λa h=>z0l 1 h rfl (λ_ hw=>O.ext hw) rfl na3 rfl λa h=>z0c 2 h rfl x8l rfl λa h=>z0l 3 h rfl (λ_ hw=>O.ext hw) rfl na4 rfl λa h=>z0c 4 h rfl z6o rfl λa h=>z0l 5 h rfl (λ_ hw=>O.ext hw) rfl y3f rfl λa h=>z2d 6 8 (by kernel_rfl) rfl rfl ?_ ?_;refine z0n h (z0a rfl z0f) (mkC func199) (z9m _ _ _ hp (by omega)) ?_;rintro _ e4 ⟨d3,rfl,J,b3⟩ a h;have g6:=b3.size;replace M:=M.ext b3;replace D:=D.ext b3;replace I:=I.ext b3;replace hC:=hC.next b3;have b1:=λk hk=>(J.blk k hk).2;refine z0b ?_;refine z2y (cs:=[_,_,_]) 7 h (z0a rfl (z0a rfl (z0a rfl z0f))) v1i (z0h rfl rfl rfl (z0h rfl rfl rfl (z0h rfl rfl rfl z0s))) rfl rfl λa h=>z0d 8 rfl ?_;refine z1c h x2n rfl λf8 U a7 hz a h=>?_;obtain⟨a5,hg⟩:∃g,g=e4.heap.size:=⟨_,rfl⟩;rw[<-hg]at U h hz;have a4:g1<a5:=by have:=M.lt;omega
 have a4:g2<a5:=by have:=D.lt;omega
 have a4:g3<a5:=by have:=I.lt;omega
 have g7:=a7.size;replace hp:=hp.ext (b3.n1 a7);replace M:=M.ext a7;replace D:=D.ext a7;replace I:=I.ext a7;replace J:=J.ext a7;replace hC:=hC.next a7;refine z0b ?_;refine z0d 9 rfl ?_;refine z0t h rfl rfl U rfl x1t λe5 a0 a8 hz a h=>?_;have g8:=a8.size;replace hp:=hp.fr a8 (by intro k hk Z;simp at hk;subst hk;have:=hv _ Z;omega);replace M:=M.fr a8;replace D:=D.fr a8;replace I:=I.fr a8;replace J:=J.fr a8 (by intro k hk Z;simp at hk;subst hk;have d0:=b1 _ Z;have:=J.blk _ Z;omega);replace hC:=hC.sp a8;clear U hz;have U:Blk e5 a5 _ [_,_,_]:=a0;clear a0;refine z0b ?_;refine z0q ?_;clear hC d1 O a1 a2;refine bk (h.sub (L':=[(1,_),(2,_),(3,_),(6,_)]) (.c4 rfl rfl rfl rfl)) (tn (sq ?_));intro a h;refine z0i none (λwb w'=>Fr [g2,g3] wb w') z2o ?_;intro e0 b4;have g9:=b4.size;replace M:=M.ext b4;replace D:=D.ext b4;replace I:=I.ext b4;replace J:=J.ext b4;replace U:=U.ext b4;have hC:Fr [g2,g3] e0 e0:=Fr.refl _ _;have O:=M;have a1:=D;have a2:=I;have a6:=J;have a3:=U;refine z0c 0 h rfl z6c rfl λa h=>z0l 1 h rfl (λ_ hw=>O.fr hw (by simp;omega)) rfl na3 rfl λa h=>z0c 2 h rfl z9f rfl λa h=>z0l 3 h rfl (λ_ hw=>O.fr hw (by simp;omega)) rfl na3 rfl λa h=>z4u 4 h rfl rfl (by first|exact i6 (by omega)|rfl) rfl λa h=>z2y (cs:=[_,_,_,_,_]) 5 h (z0a rfl (z0a rfl (z0a rfl z0f))) x2h (z0h rfl rfl rfl (z0h rfl rfl rfl (z0h rfl rfl rfl z0s))) rfl rfl λa h=>z0y 6 h rfl (λ_ hw=>a3.fr hw (by simp;omega)) x5f rfl λa h=>z0d 7 rfl ?_;refine z0t h rfl rfl D rfl z6s λe6 a0 b5 hz a h=>?_;have h0:=b5.size;replace M:=M.fr b5;replace I:=I.fr b5;replace J:=J.fr b5 (by intro k hk Z;simp at hk;subst hk;have d0:=b1 _ Z;have:=J.blk _ Z;omega);replace U:=U.fr b5;replace hC:=hC.sp b5;clear D hz;have D:Blk e6 g2 _ [_,_,_,_,_]:=a0;clear a0;refine z0b ?_;refine z0d 8 rfl ?_;refine z0t h rfl rfl I rfl x1t λe7 a0 b6 hz a h=>?_;have h1:=b6.size;replace M:=M.fr b6;replace D:=D.fr b6;replace J:=J.fr b6 (by intro k hk Z;simp at hk;subst hk;have d0:=b1 _ Z;have:=J.blk _ Z;omega);replace U:=U.fr b6;replace hC:=hC.sp b6;clear I hz;have I:Blk e7 g3 _ [_,_,_]:=a0;clear a0;refine z0b ?_;refine z0d 9 rfl ?_;refine z0r h rfl λa h=>?_;refine z0b ?_;refine z0q ?_;clear hC O a1 a2 a6 a3;refine bk (h.sub (L':=[(2,_),(3,_),(4,_)]) (.c3 rfl rfl rfl)) (tn (rt (j3x results150 rfl D z6f rfl I x5f rfl ?_)));have he:mkE q.p=0:=by unfold mkE;rw[if_neg c0,if_neg (by simpa using c1),if_neg c2]
 exact⟨_,rfl,⟨true,q.pl,q.ct+1,false,sv0,[]⟩,q.ct,q.nw,(d3,q.pes.length,q.pes.length),q.pes,by rw[he];rfl,(λ_=>⟨rfl,rfl,rfl,rfl,J.low (by omega)⟩),((((q1.n6 q2 q3 q4 b2 b3 a7).z1 a8).n1 b4).z2 b5 b6)⟩;refine z1c h x2n rfl λf9 U b7 hz a h=>?_;obtain⟨a5,hg⟩:∃g,g=d4.heap.size:=⟨_,rfl⟩;rw[<-hg]at U h hz;have a4:g1<a5:=by have:=M.lt;omega
 have a4:g2<a5:=by have:=D.lt;omega
 have a4:g3<a5:=by have:=I.lt;omega
 have h2:=b7.size;replace hp:=hp.ext b7;replace hC:=hC.next b7;refine z0b ?_;refine z0d 6 rfl ?_;refine z0n h (z0a rfl z0f) (mkC func199) (z9m _ _ _ hp (by omega)) ?_;rintro _ g0 ⟨d3,rfl,J,a9⟩ a h;have h3:=a9.size;replace hp:=hp.ext a9;replace M:=M.ext (b7.n1 a9);replace D:=D.ext (b7.n1 a9);replace I:=I.ext (b7.n1 a9);replace U:=U.ext a9;replace hC:=hC.next a9;have b1:=λk hk=>(J.blk k hk).2;refine z0b ?_;refine z2y (cs:=[_,_,_]) 7 h (z0a rfl (z0a rfl (z0a rfl z0f))) v1i (z0h rfl rfl rfl (z0h rfl rfl rfl (z0h rfl rfl rfl z0s))) rfl rfl λa h=>z0d 9 rfl ?_;refine z0t h rfl rfl U rfl x1t λe8 a0 b0 hz a h=>?_;have h4:=b0.size;replace hp:=hp.fr b0 (by intro k hk Z;simp at hk;subst hk;have:=hv _ Z;omega);replace M:=M.fr b0;replace D:=D.fr b0;replace I:=I.fr b0;replace J:=J.fr b0 (by intro k hk Z;simp at hk;subst hk;have d0:=b1 _ Z;have:=J.blk _ Z;omega);replace hC:=hC.sp b0;clear U hz;have U:Blk e8 a5 _ [_,_,_]:=a0;clear a0;refine z0b ?_;refine z0q ?_;clear hC d1 O a1 a2;refine bk (h.sub (L':=[(1,_),(2,_),(3,_),(6,_)]) (.c4 rfl rfl rfl rfl)) (tn (sq ?_));intro a h;refine z0i none (λwb w'=>Fr [g2,g3] wb w') z2o ?_;intro e1 b8;have h5:=b8.size;replace M:=M.ext b8;replace D:=D.ext b8;replace I:=I.ext b8;replace U:=U.ext b8;replace J:=J.ext b8;have hC:Fr [g2,g3] e1 e1:=Fr.refl _ _;have O:=M;have a1:=D;have a2:=I;have a3:=U;have a6:=J;refine z0c 0 h rfl z6c rfl λa h=>z0l 1 h rfl (λ_ hw=>O.fr hw (by simp;omega)) rfl na3 rfl λa h=>z0c 2 h rfl z9f rfl λa h=>z0l 3 h rfl (λ_ hw=>O.fr hw (by simp;omega)) rfl na3 rfl λa h=>z4u 4 h rfl rfl (by first|exact i6 (by omega)|rfl) rfl λa h=>z2y (cs:=[_,_,_,_,_]) 5 h (z0a rfl (z0a rfl (z0a rfl z0f))) x2h (z0h rfl rfl rfl (z0h rfl rfl rfl (z0h rfl rfl rfl z0s))) rfl rfl λa h=>z0y 6 h rfl (λ_ hw=>a3.fr hw (by simp;omega)) x5f rfl λa h=>z0d 7 rfl ?_;refine z0t h rfl rfl D rfl z6s λe9 a0 b9 hz a h=>?_;have h6:=b9.size;replace M:=M.fr b9;replace I:=I.fr b9;replace U:=U.fr b9;replace J:=J.fr b9 (by intro k hk Z;simp at hk;subst hk;have d0:=b1 _ Z;have:=J.blk _ Z;omega);replace hC:=hC.sp b9;clear D hz;have D:Blk e9 g2 _ [_,_,_,_,_]:=a0;clear a0;refine z0b ?_;refine z0d 8 rfl ?_;refine z0t h rfl rfl I rfl x1t λf0 a0 c9 hz a h=>?_;have h7:=c9.size;replace M:=M.fr c9;replace D:=D.fr c9;replace U:=U.fr c9;replace J:=J.fr c9 (by intro k hk Z;simp at hk;subst hk;have d0:=b1 _ Z;have:=J.blk _ Z;omega);replace hC:=hC.sp c9;clear I hz;have I:Blk f0 g3 _ [_,_,_]:=a0;clear a0;refine z0b ?_;refine z0d 9 rfl ?_;refine z0r h rfl λa h=>?_;refine z0b ?_;refine z0q ?_;clear hC O a1 a2 a3 a6;refine bk (h.sub (L':=[(2,_),(3,_),(4,_)]) (.c3 rfl rfl rfl)) (tn (rt (j3x results150 rfl D z6f rfl I x5f rfl ?_)));have he:mkE q.p=0:=by unfold mkE;rw[if_neg c0,if_neg (by simpa using c1),if_neg c2]
 exact⟨_,rfl,⟨true,q.pl,q.ct+1,false,sv0,[]⟩,q.ct,q.nw,(d3,q.pes.length,q.pes.length),q.pes,by rw[he];rfl,(λ_=>⟨rfl,rfl,rfl,rfl,J.low (by omega)⟩),((((q1.n6 q2 q3 q4 b2 b7 a9).z1 b0).n1 b8).z2 b9 c9)⟩
set_option maxHeartbeats 1000000 in
theorem x3a (q:YQ)(d:Int)(w0:World)(hp:Sl z1r w0 (slv q.pe) q.pes):Rets prog 109 #[.agg #[.bool q.inn,.int .i64 q.pl,.int .i64 q.ct,.bool q.nw,.slice q.pe.1 q.pe.2.1 q.pe.2.2],.int .u8 d] w0 λr w'=>∃O:YQ,r=.tuple #[.agg #[.bool O.inn,.int .i64 O.pl,.int .i64 O.ct,.bool O.nw,.slice O.pe.1 O.pe.2.1 O.pe.2.2],.int .i64 (enE q.p d)]/\(enE q.p d=0->O=⟨true,if d=1 then 179 else -13,q.ct,true,sv0,[]⟩)/\Fr [] w0 w':=by
 have a4:=z1x hp;have a1:=hp.len_le;unfold maxLen at a1;refine we [(0,.agg #[.bool q.inn,.int .i64 q.pl,.int .i64 q.ct,.bool q.nw,.slice q.pe.1 q.pe.2.1 q.pe.2.2]),(1,.int .u8 d)] func109 rfl ntmps109 rfl (.c2 rfl rfl) ?_;have a0:=hp;refine sr (bx rfl rfl rfl (λg2 w1 a2 I q1 z1=>(al y1g rfl rfl (λg4 w2 a3 D q2 z2=>(asg rfl (nn (sq (sr ?_))))))));replace I:=I.ext q2;refine z0k rfl I z6f ?_;replace hp:=a0.ext (q1.n1 q2);refine cl (ev1 rfl) j3o (z8q q _ hp) rfl ?_;rintro _ w3 ⟨rfl,M⟩;refine asg rfl (nn (sr (mv rfl (ne' rfl rfl (nn (cd rfl (λZ=>?_) (λZ=>?_)))))));refine sr (z1v (cs:=[_,_,_,_,_]) z0f x2h z0s rfl ?_);refine mv rfl ?_;replace D:=D.ext M;refine z0j (vs:=[_,_,_,_,_]) rfl rfl D z6s (λw4 D q4 z4=>(asg rfl (kpL [(4,_),(5,_)] (.c2 rfl rfl) (nn (rt (tr (rCT results109 rfl D z6f rfl ?_)))))));have J:enE q.p d=ynE q.p:=by unfold enE;rw[if_pos Z]
 exact⟨_,rfl,yq0,by rw[J];rfl,(λh=>absurd h (by rw[J];exact Z)),(q1.z3 q2 M q4)⟩;refine sk (tn (sq (sr (mv rfl (cl (ev1 rfl) (mkC func136) (y3o _ _) rfl ?_)))));rintro _ w5 ⟨rfl,U⟩;refine nt' rfl (nn (cd rfl (λc1=>?_) (λc1=>?_)));refine sr (z1v (cs:=[_,_,_,_,_]) z0f x2h z0s rfl ?_);replace D:=D.ext (M.n1 U);refine z0j (vs:=[_,_,_,_,_]) rfl rfl D z6s (λw6 D q6 z6=>(asg rfl (nn (rt (tr (rCT results109 rfl D z6f rfl ?_))))));have J:enE q.p d=1:=by unfold enE;rw[if_neg Z,if_pos (by simpa using c1)]
 exact⟨_,rfl,yq0,by rw[J];rfl,(λh=>absurd h (by rw[J];decide)),(q1.z4 q2 M U q6)⟩;refine sk (tn (sq (sr (fad rfl z9d ?_))));replace I:=I.ext (M.n1 U);refine z0g rfl I rfl na4 (nn (cd rfl (λc2=>?_) (λc2=>?_)));refine sr (z1v (cs:=[_,_,_,_,_]) z0f x2h z0s rfl ?_);replace D:=D.ext (M.n1 U);refine z0j (vs:=[_,_,_,_,_]) rfl rfl D z6s (λw7 D q7 z7=>(asg rfl (nn (rt (tr (rCT results109 rfl D z6f rfl ?_))))));have J:enE q.p d=12:=by unfold enE;rw[if_neg Z,if_neg (by simpa using c1),if_pos (by simpa using c2)]
 exact⟨_,rfl,yq0,by rw[J];rfl,(λh=>absurd h (by rw[J];decide)),(q1.z4 q2 M U q7)⟩;refine sk (tn (sr (asg rfl (nn ?_))));refine jn (ι:=Unit) [(2,_),(4,_)] (λ_j=>[(7,.int .i64 (if d=1 then 179 else -13))]) (λ_j w'=>Fr [] w5 w') (.c2 rfl rfl) ?_ ?_;refine sr (mv rfl (eq' rfl rfl (nn (cd rfl (λc3=>?_) (λc3=>?_)))));refine rg (asg rfl (nl ?_));exact jE (()) (.c3 rfl rfl (congrArg (λq=>some (Value.int .i64 q)) (by first|exact(if_pos c3).symm|exact(if_neg c3).symm))) (Fr.refl _ _);refine sk ?_;exact jE (()) (.c3 rfl rfl (congrArg (λq=>some (Value.int .i64 q)) (by first|exact(if_pos c3).symm|exact(if_neg c3).symm))) (Fr.refl _ _);rintro _j w8 q8;refine kpC [(2,_),(4,_),(7,_)] (.c3 rfl rfl rfl) (sr (mv rfl (fad rfl z9f ?_)));replace I:=I.ext q8;refine z0g rfl I rfl na3 (z1v (cs:=[_,_,_,_,_]) (ev4 rfl rfl rfl rfl) x2h (z0h rfl rfl rfl (z0h rfl rfl rfl (z0h rfl rfl rfl (z0h rfl rfl rfl z0s)))) rfl ?_);replace D:=D.ext (M.n2 U q8);refine z0j (vs:=[_,_,_,_,_]) rfl rfl D z6s (λw9 D q9 z9=>(asg rfl (kpL [(4,_),(5,_)] (.c2 rfl rfl) (nn (rt (rCT results109 rfl D z6f rfl ?_))))));have J:enE q.p d=0:=by unfold enE;rw[if_neg Z,if_neg (by simpa using c1),if_neg (by simpa using c2)]
 exact⟨_,rfl,⟨true,if d=1 then 179 else -13,q.ct,true,sv0,[]⟩,by rw[J];rfl,(λ_=>rfl),(q1.z5 q2 M U q8 q9)⟩
end Go.Proofs.YtpgdchkdlgkmgaaGreatDoor
namespace Go.G21
open Go.Lw
def nd (T:Tb)(y:Nat)(n:Int):List LId:=z4l (lpA T y n.toNat)
def InM (ms:List Int)(i:LId):Prop:=i.n<ms.getD (i.y-1).toNat 0
def Has (T:Tb):Prop:=T.length=6/\∀y,y<6->∀n,n<z2t T y->∀i∈z4l (lpA T y n),z4e T i
theorem Has.nm {T:Tb}(h:Has T){y n:Nat}(hy:y<6)(hn:n<z2t T y){i:LId}(hi:i∈z4l (lpA T y n)):∃J M:Nat,J<6/\M<z2t T J/\i=⟨(J:Int)+1,(M:Int)⟩:=by
 obtain⟨O,U,Z,h4⟩:=h.2 y hy n hn i hi;have:=h.1;obtain⟨I,D⟩:=i;simp only at O U Z h4;refine⟨(I-1).toNat,D.toNat,by omega,by omega,?_⟩;rw[show (((I-1).toNat:Nat):Int)+1=I by omega,show ((D.toNat:Nat):Int)=D by omega]
theorem y6t {ms:List Int}{y n:Nat}:InM ms ⟨(y:Int)+1,(n:Int)⟩↔(n:Int)<ms.getD y 0:=by
 unfold InM;show (n:Int)<ms.getD ((y:Int)+1-1).toNat 0↔_;rw[show ((y:Int)+1-1).toNat=y by omega]
theorem x8q:∀(l:List Int) (j:Nat) (v:Int),j<l.length->(l.set j v).sum=l.sum-l.getD j 0+v
 | a::l,0,v,_=>by simp;omega
 | a::l,j+1,v,h=>by
  have:=x8q l j v (by simpa using h)
  simp only[List.set_cons_succ,List.sum_cons,List.getD_cons_succ]at this ⊢;omega
theorem x0u:∀(l:List Int) (T:Tb),l.length=T.length->(∀i,i<l.length->l.getD i 0<=(z2t T i:Int))->l.sum<=(z4v T:Int)/\(l.sum=(z4v T:Int)->∀i,i<l.length->l.getD i 0=(z2t T i:Int))/\((∀i,i<l.length->l.getD i 0=(z2t T i:Int))->l.sum=(z4v T:Int))
 | [],[],_,_=>⟨by simp[z4v],λ_ i D=>by simp at D,λ_=>by simp[z4v]⟩
 | [],_::_,h,_=>by simp at h
 | _::_,[],h,_=>by simp at h
 | a::l,r::T,h,hb=>by
  obtain⟨h1,J,M⟩:=x0u l T (by simpa using h) (λi D=>by simpa[z2t] using hb (i+1) (by simpa using D))
  have Z:a<=(r.length:Int):=by simpa[z2t] using hb 0 (by simp)
  have e:(z4v (r::T):Int)=(r.length:Int)+(z4v T:Int):=by simp[z4v]
  rw[List.sum_cons,e]
  refine⟨by omega,λhs i D=>?_,λI=>?_⟩
  ·cases i with
   | zero=>show a=(r.length:Int);omega
   | succ i=>simpa[z2t] using J (by omega) i (by simpa using D)
  have O:a=(r.length:Int):=by simpa[z2t] using I 0 (by simp)
  have U:=M (λi D=>by simpa[z2t] using I (i+1) (by simpa using D))
  omega
structure FstI (T:Tb) (ms ts:List Int) (N:Nat):Prop where
  lm:ms.length=6
  lt:ts.length=6
  mb:∀y,y<6->0<=ms.getD y 0/\ms.getD y 0<=(z2t T y:Int)
  tb:∀y,y<6->0<=ts.getD y 0
  td:∀y,y<6->∀k:Nat,(k:Int)<ts.getD y 0->k<(nd T y (ms.getD y 0)).length->InM ms ((nd T y (ms.getD y 0)).getD k id0)
  sum:ms.sum=(N:Int)
  rk:∃rk:LId->Nat,(∀y,y<6->∀n:Nat,(n:Int)<ms.getD y 0->rk ⟨(y:Int)+1,(n:Int)⟩<N/\∀i∈z4l (lpA T y n),InM ms i/\rk i<rk ⟨(y:Int)+1,(n:Int)⟩)/\∀y,y<6->∀n m:Nat,n<m->(m:Int)<ms.getD y 0->rk ⟨(y:Int)+1,(n:Int)⟩<rk ⟨(y:Int)+1,(m:Int)⟩
theorem j2q (y:Nat):(List.replicate 6 (0:Int)).getD y 0=0:=by rw[List.getD,List.getElem?_replicate];split<;>rfl
theorem FstI.init {T:Tb}:FstI T (List.replicate 6 0) (List.replicate 6 0) 0:=
 ⟨rfl,rfl,λy _=>by rw[j2q];omega,λy _=>by rw[j2q];omega,λy _ k I=>by rw[j2q]at I;omega,rfl,λ_=>0,λy _ n D=>by rw[j2q]at D;omega,λy _ n m _ D=>by rw[j2q]at D;omega⟩
theorem z4m {l:List Int}{i:Nat}(h:i<l.length)(v:Int)(j:Nat):(l.set i v).getD j 0=if i=j then v else l.getD j 0:=by
 rw[List.getD,List.getD,List.getElem?_set];split;rename_i e;subst e;first|rfl|(rw[if_pos h];rfl)
 rfl
variable {T:Tb} {ms ts:List Int} {N:Nat}
theorem FstI.there (h:FstI T ms ts N){y:Nat}(I:y<6)(J:InM ms ((nd T y (ms.getD y 0)).getD (ts.getD y 0).toNat id0)):FstI T ms (ts.set y (ts.getD y 0+1)) N:=by
 have hl:y<ts.length:=by rw[h.lt];exact I
 refine⟨h.lm,by rw[List.length_set];exact h.lt,h.mb,λz O=>?_,λz O k M D=>?_,h.sum,h.rk⟩;rw[z4m hl];split;have:=h.tb y I;omega;exact h.tb z O;rw[z4m hl]at M;split at M;rename_i e;subst e;have:=h.tb y I;by_cases e:k=(ts.getD y 0).toNat;rw[e];exact J;exact h.td y I k (by omega) D;exact h.td z O k M D
theorem FstI.push (h:FstI T ms ts N)(hH:Has T){y:Nat}(hy:y<6)(a8:ms.getD y 0<(z2t T y:Int))(a5:((nd T y (ms.getD y 0)).length:Int)<=ts.getD y 0):FstI T (ms.set y (ms.getD y 0+1)) (ts.set y 0) (N+1):=by
 have J:y<ms.length:=by rw[h.lm];exact hy
 have a0:y<ts.length:=by rw[h.lt];exact hy
 have h0:=h.mb y hy;obtain⟨m,Z⟩:=Int.eq_ofNat_of_zero_le h0.1;rw[Z]at a8 a5 ⊢;have a4:∀i,InM ms i->InM (ms.set y ((m:Int)+1)) i:=λi I=>by
  unfold InM at I ⊢;rw[z4m J];split;rename_i e;rw[<-e,Z]at I;omega;exact I
 have a3:∀i∈z4l (lpA T y m),InM ms i:=λi I=>by
  obtain⟨k,M,rfl⟩:=List.getElem_of_mem I;have e:nd T y (ms.getD y 0)=z4l (lpA T y m):=by unfold nd;rw[Z,Int.toNat_natCast]
  have:=h.td y hy k (by
   have e2:((nd T y (m:Int)).length:Int)<=ts.getD y 0:=a5;rw[<-Z,e]at e2;omega) (by rw[e];exact M)
  rw[e,List.getD,List.getElem?_eq_getElem M]at this;exact this
 obtain⟨rk,h1,h2⟩:=h.rk;have D:∀i,InM ms i->¬i=(⟨(y:Int)+1,(m:Int)⟩:LId):=λi I e=>by
  subst e;rw[y6t,Z]at I;omega
 refine⟨by rw[List.length_set];exact h.lm,by rw[List.length_set];exact h.lt,λz U=>?_,λz U=>?_,λz U k M a7=>?_,?_,λi=>if i=⟨(y:Int)+1,(m:Int)⟩ then N else rk i,λz U n hn=>?_,λz U n k a9 M=>?_⟩;rw[z4m J];split;rename_i e;subst e;omega;exact h.mb z U;rw[z4m a0];split;omega;exact h.tb z U;rw[z4m a0]at M;split at M;omega;rename_i e;rw[z4m J,if_neg e]at a7 ⊢;exact a4 _ (h.td z U k M a7);rw[x8q _ _ _ J,h.sum,Z];omega;rw[z4m J]at hn;simp only;by_cases e:z=y/\n=m;obtain⟨rfl,rfl⟩:=e;rw[if_pos rfl];refine⟨by omega,λi I=>⟨a4 i (a3 i I),?_⟩⟩;rw[if_neg (D i (a3 i I))];obtain⟨y',n',b0,_,rfl⟩:=hH.nm hy (by omega) I;exact(h1 y' b0 n' (y6t.1 (a3 _ I))).1;have O:(n:Int)<ms.getD z 0:=by
  split at hn;rename_i e2;subst e2;have:n≠m:=λe3=>e ⟨rfl,e3⟩;rw[Z];omega;exact hn
 rw[if_neg (D _ (y6t.2 O))];obtain⟨a1,a2⟩:=h1 z U n O;refine⟨by omega,λi I=>?_⟩;obtain⟨b1,b2⟩:=a2 i I;rw[if_neg (D i b1)];exact⟨a4 i b1,b2⟩;rw[z4m J]at M;simp only;have O:(n:Int)<ms.getD z 0:=by
  split at M;rename_i e2;subst e2;rw[Z];omega;omega
 rw[if_neg (D _ (y6t.2 O))];by_cases e:z=y/\k=m;obtain⟨rfl,rfl⟩:=e;rw[if_pos rfl];exact(h1 z U n O).1;have a6:(k:Int)<ms.getD z 0:=by
  split at M;rename_i e2;subst e2;have:k≠m:=λe3=>e ⟨rfl,e3⟩;rw[Z];omega;exact M
 rw[if_neg (D _ (y6t.2 a6))];exact h2 z U n k a9 a6
theorem FstI.leI (h:FstI T ms ts N)(D:T.length=6):N<=z4v T:=by
 have:=(x0u ms T (by rw[h.lm,D]) (λi I=>(h.mb i (by rw[<-h.lm];exact I)).2)).1;rw[h.sum]at this;omega
def v4c (T:Tb)(ms:List Int)(y:Nat):Prop:=ms.getD y 0=(z2t T y:Int)\/(ms.getD y 0<(z2t T y:Int)/\∃i∈nd T y (ms.getD y 0),¬InM ms i)
theorem FstI.done (h:FstI T ms ts N)(hH:Has T)(hs:∀y,y<6->v4c T ms y)(ho:∃J,Ranked T J):N=z4v T:=by
 obtain⟨J,hr⟩:=ho;have a3:∀k y,y<6->ms.getD y 0<(z2t T y:Int)->J ⟨(y:Int)+1,ms.getD y 0⟩=k->False:=λk=>by
  induction k using Nat.strongRecOn with
  | ind k ih=>
   intro y hy a0 hk;obtain⟨m,hm⟩:=Int.eq_ofNat_of_zero_le (h.mb y hy).1;rcases hs y hy with e|⟨_,i,D,hn⟩
   omega;have O:i∈z4l (lpA T y m):=by unfold nd at D;rw[hm,Int.toNat_natCast]at D;exact D
   rw[hm]at a0 hk;obtain⟨M,n',I,a2,rfl⟩:=hH.nm hy (by omega) O;rw[y6t]at hn;obtain⟨Z,a1⟩:=Int.eq_ofNat_of_zero_le (h.mb M I).1;have h1:=hr.need y hy m (by omega) _ O;have h2:J ⟨(M:Int)+1,(Z:Int)⟩<=J ⟨(M:Int)+1,(n':Int)⟩:=by
    rcases Nat.lt_or_ge Z n' with h3|h3
    exact Nat.le_of_lt (hr.mono M I Z n' h3 a2);have:Z=n':=by omega
    rw[this];exact Nat.le_refl _
   refine ih (J ⟨(M:Int)+1,(Z:Int)⟩) (by omega) M I (by omega) (by rw[a1])
 have:=(x0u ms T (by rw[h.lm,hH.1]) (λi D=>(h.mb i (by rw[<-h.lm];exact D)).2)).2.2 (λi D=>by
  have U:i<6:=by rw[<-h.lm];exact D
  have h1:=(h.mb i U).2;rcases Decidable.em (ms.getD i 0<(z2t T i:Int)) with h2|h2
  exact(a3 _ i U h2 rfl).elim;omega)
 rw[h.sum]at this;omega
theorem FstI.ord (h:FstI T ms ts N)(hH:Has T)(hN:N=z4v T):∃O,Ranked T O:=by
 have D:=(x0u ms T (by rw[h.lm,hH.1]) (λi J=>(h.mb i (by rw[<-h.lm];exact J)).2)).2.1 (by rw[h.sum,hN]);obtain⟨O,U,Z⟩:=h.rk;refine⟨O,⟨λy I n hn i J=>?_,λy I n m M hm=>?_⟩⟩;exact((U y I n (by rw[D y (by rw[h.lm];exact I)];omega)).2 i J).2;exact Z y I n m M (by rw[D y (by rw[h.lm];exact I)];omega)
end Go.G21
namespace Go.G21
open Go.Lw
def StN (W:Nat)(s:Lst)(i:LId):Prop:=match s with
  | none=>False
  | some (y,f)=>i.y=y/\(f:Int)<=i.n/\i.n<((f+2*W:Nat):Int)
instance (W:Nat) (s:Lst) (i:LId):Decidable (StN W s i):=by unfold StN;split<;>infer_instance
end Go.G21
namespace Go.G21
open Go.Lw
end Go.G21
namespace Go.G21
open Go.Lw
theorem x0n (ts:List TQ)(y:Nat):(z2a ts).getD y []=(ts.getD y tq0).2.map LpQ.p:=by
 rcases Nat.lt_or_ge y ts.length with h|h
 exact x2b (λp:TQ=>p.2.map LpQ.p) ts y tq0 [] h;rw[List.getD,List.getElem?_eq_none (by simpa[z2a] using h),List.getD,List.getElem?_eq_none h];rfl
theorem z2s (ts:List TQ)(y:Nat):z2t (z2a ts) y=(ts.getD y tq0).2.length:=by
 unfold z2t;rw[x0n,List.length_map]
theorem z7b (ts:List TQ)(y n:Nat):lpA (z2a ts) y n=((ts.getD y tq0).2.getD n lq0).p:=by
 unfold lpA;rw[x0n];generalize (ts.getD y tq0).2=l;rw[List.getD,List.getElem?_map,List.getD];cases l[n]?<;>rfl
theorem z2f {ts:List TQ}{i:LId}:z4e (z2a ts) i↔1<=i.y/\i.y<=(ts.length:Int)/\0<=i.n/\i.n<((ts.getD (i.y-1).toNat tq0).2.length:Int):=by
 unfold z4e;rw[z2s];simp only[z2a,List.length_map]
theorem z5o {w:World}{ts:List TQ}(h:TabAt w ts)(y:Nat):(ts.getD y tq0).1.2.1=(ts.getD y tq0).2.length:=by
 rcases Nat.lt_or_ge y ts.length with e|e
 exact z1x (h _ (z0u e)).1;rw[List.getD,List.getElem?_eq_none e];rfl
theorem z7i {w:World}{ts:List TQ}(h:TabAt w ts){y n:Nat}(D:y<ts.length)(hn:n<(ts.getD y tq0).2.length):LpAt w ((ts.getD y tq0).2.getD n lq0):=(h _ (z0u D)).2 _ (z0u hn)
theorem z6i (ts:List TQ):(z2a ts).length=ts.length:=by simp[z2a]
def z9r (T:Tb)(y n:Nat):List LId:=(T.take y).flatMap x8p++((T.getD y []).take n).flatMap Lp.th
theorem v2c (T:Tb):z9r T 0 0=[]:=by simp[z9r]
theorem x1h {T:Tb}{y n:Nat}(h:n<z2t T y):z9r T y (n+1)=z9r T y n++(lpA T y n).th:=by
 unfold z9r lpA;have D:n<(T.getD y []).length:=h;rw[x3r Lp.th _ n lq0.p D,List.append_assoc]
theorem v6v {T:Tb}{y:Nat}(h:y<T.length):z9r T (y+1) 0=z9r T y (z2t T y):=by
 unfold z9r z2t;rw[x3r x8p _ y [] h,List.take_zero,List.take_length];simp[x8p]
theorem v7s {T:Tb}{y:Nat}(h:T.length<=y):z9r T y 0=y1c T:=by
 unfold z9r y1c;rw[List.take_of_length_le h];simp
theorem u2p {T:Tb}{y n:Nat}(D:y<T.length)(i:LId):(z9r T y n).count i<=(y1c T).count i:=by
 have I:y1c T=(T.take y).flatMap x8p++(T.drop y).flatMap x8p:=by unfold y1c;rw[<-List.flatMap_append,List.take_append_drop]
 have J:T.drop y=T.getD y []::T.drop (y+1):=by
  rw[List.drop_eq_getElem_cons D,List.getD,List.getElem?_eq_getElem D];rfl
 have M:x8p (T.getD y [])=((T.getD y []).take n).flatMap Lp.th++((T.getD y []).drop n).flatMap Lp.th:=by
  unfold x8p;rw[<-List.flatMap_append,List.take_append_drop]
 rw[I,J,List.flatMap_cons,M];unfold z9r;simp only[List.count_append];omega
theorem u7c {T:Tb}{y n k:Nat}(M:y<T.length)(hn:n<z2t T y)(D:k<(lpA T y n).th.length):(z9r T y n++(lpA T y n).th.take k).count ((lpA T y n).th.getD k id0)+1<=(y1c T).count ((lpA T y n).th.getD k id0):=by
 have h:=u2p (n:=n+1) M ((lpA T y n).th.getD k id0)
 rw[x1h hn]at h
 generalize lpA T y n=l at *
 generalize z9r T y n=u at *
 have I:l.th=l.th.take k++l.th.getD k id0::l.th.drop (k+1):=by
  conv=>lhs;rw[<-List.take_append_drop k l.th,List.drop_eq_getElem_cons D]
  rw[List.getD,List.getElem?_eq_getElem D];rfl
 have J:=congrArg (List.count (l.th.getD k id0)) I
 rw[List.count_append,List.count_cons_self]at J
 rw[List.count_append]at h ⊢
 omega
def y8p (p:List LId)(i:LId):Value:=.int .i64 ((p.count i:Nat):Int)
theorem y8u (p:List LId)(k:LId):(λk'=>if k'=k then Value.int .i64 (((p.count k:Nat):Int)+1) else y8p p k')=y8p (p++[k]):=by
 funext k';unfold y8p;rw[List.count_append,List.count_singleton];by_cases h:k'=k;subst h;rw[if_pos rfl,if_pos (by simp)];rfl;rw[if_neg h,if_neg (by simpa using λe=>h e.symm),Nat.add_zero]
theorem z6g {α:Type}{l:List α}{k:Nat}(d:α)(h:k<l.length):l.take (k+1)=l.take k++[l.getD k d]:=by
 rw[List.take_add_one,List.getElem?_eq_getElem h,List.getD,List.getElem?_eq_getElem h];rfl
structure TabV (T:Tb):Prop where
  ok:TabOk T
  thr:∀i,(y1c T).count i<=1
theorem tabV {T:Tb}{H F:List LId}(h:TabOk T)(hp:PlaceOk T H F):TabV T:=by
 refine⟨h,λi=>?_⟩;by_cases hi:z4e T i;obtain⟨Z,h2,h3,h4⟩:=hi;have h6:=h.six;obtain⟨J,I⟩:=i;simp only at Z h2 h3 h4;have:=hp.once (J-1).toNat (by omega) I.toNat (by omega);rw[show (((J-1).toNat:Nat):Int)+1=J by omega,show ((I.toNat:Nat):Int)=I by omega]at this;rw[List.count_append]at this;omega;have:(y1c T).count i=0:=by
  rw[List.count_eq_zero];intro D;unfold y1c x8p at D;obtain⟨r,hr,D⟩:=List.mem_flatMap.1 D;obtain⟨l,hl,D⟩:=List.mem_flatMap.1 D;obtain⟨y,hy,rfl⟩:=List.getElem_of_mem hr;obtain⟨n,O,rfl⟩:=List.getElem_of_mem hl;have M:T.getD y []=T[y]:=by rw[List.getD,List.getElem?_eq_getElem hy];rfl
  have U:lpA T y n=T[y][n]:=by unfold lpA;rw[M,List.getD,List.getElem?_eq_getElem O];rfl
  have h6:=h.six;have:=(h.rts y (by omega) n (by unfold z2t;rw[M];exact O)).1.2.2.1 i (by rw[U];unfold z4l;exact List.mem_append_left _ D);exact hi this
 omega
theorem thq (ts:List TQ)(y n:Nat):(lpA (z2a ts) y n).th=((ts.getD y tq0).2.getD n lq0).ths:=by rw[z7b]
theorem y7u {ts:List TQ}{y n:Nat}(h:n<(ts.getD y tq0).2.length):z9r (z2a ts) y (n+1)=z9r (z2a ts) y n++((ts.getD y tq0).2.getD n lq0).ths:=by
 rw[x1h (by rw[z2s];exact h),thq]
theorem y7s {ts:List TQ}{y:Nat}(h:y<ts.length):z9r (z2a ts) (y+1) 0=z9r (z2a ts) y (ts.getD y tq0).2.length:=by
 rw[v6v (by rw[z6i];exact h),z2s]
theorem x8e {ts:List TQ}{y n k:Nat}(D:∀i,(y1c (z2a ts)).count i<=1)(J:y<ts.length)(hn:n<(ts.getD y tq0).2.length)(I:k<((ts.getD y tq0).2.getD n lq0).ths.length) :
    ((z9r (z2a ts) y n++((ts.getD y tq0).2.getD n lq0).ths.take k++[((ts.getD y tq0).2.getD n lq0).ths.getD k id0]).count (((ts.getD y tq0).2.getD n lq0).ths.getD k id0))<=1:=by
  have h:=u7c (T:=z2a ts) (n:=n) (k:=k) (by rw[z6i];exact J) (by rw[z2s];exact hn) (by rw[thq];exact I)
  rw[thq]at h
  have M:=D (((ts.getD y tq0).2.getD n lq0).ths.getD k id0)
  rw[List.count_append,List.count_singleton,if_pos (by simp)]
  omega
def u4e (ts:List TQ)(i:Nat):Nat:=((ts.take i).map λp:TQ=>p.2.length).sum
theorem v7j {ts:List TQ}{i:Nat}(h:i<ts.length):u4e ts (i+1)=u4e ts i+(ts.getD i tq0).2.length:=by
 unfold u4e;rw[z6g tq0 h,List.map_append,List.sum_append];simp
theorem x7b (ts:List TQ):z4v (z2a ts)=(ts.map λp:TQ=>p.2.length).sum:=by
 unfold z4v z2a;rw[List.map_map];congr 1;apply List.map_congr_left;intro p _;simp
theorem u9y (ts:List TQ)(i:Nat):u4e ts i<=z4v (z2a ts):=by
 rw[x7b]
 conv=>rhs;rw[<-List.take_append_drop i ts,List.map_append,List.sum_append]
 unfold u4e;omega
theorem v8f (ts:List TQ):u4e ts ts.length=z4v (z2a ts):=by
 unfold u4e;rw[List.take_length,x7b]
theorem u7w {q:LpQ}{n:Nat}(h:n<q.ths.length):(z4l q.p).getD n id0=q.ths.getD n id0:=by
 show (q.ths++q.pas.map Pa.id).getD n id0=_;simp only[List.getD,List.getElem?_append_left h]
theorem u5h {q:LpQ}{n:Nat}(h:q.ths.length<=n)(I:n<(z4l q.p).length):(z4l q.p).getD n id0=(q.pas.getD (n-q.ths.length) pa0).id:=by
 have D:n-q.ths.length<q.pas.length:=by
  have:(z4l q.p).length=q.ths.length+q.pas.length:=by simp[z4l]
  omega
 show (q.ths++q.pas.map Pa.id).getD n id0=_;simp only[List.getD,List.getElem?_append_right h,List.getElem?_map,List.getElem?_eq_getElem D];rfl
theorem x8m (q:LpQ):(z4l q.p).length=q.ths.length+q.pas.length:=by simp[z4l]
theorem TabV.has {T:Tb}(h:TabV T):Has T:=⟨h.ok.six,λy J n I i D=>(h.ok.rts y J n I).1.2.2.1 i D⟩
end Go.G21
namespace Go.Lw
open Go.RowKit
def MapZ {κ:Type}[DecidableEq κ](V:κ->Value)(w:World)(g:Nat)(z:Value)(f:κ->Value):Prop:=
  ∃(es:Array MapEntry) (c:Nat) (m:List (κ×Value)),w.heap[g]?=some (.map es c)/\es.toList.map (λe=>(e.key,e.val))=m.map (λp=>(V p.1,p.2))/\(∀k,(z2k m k).getD z=f k)/\(es.toList.map (·.born)).Nodup/\∀e∈es.toList,e.born<c
def MapE {κ:Type}[DecidableEq κ](V:κ->Value)(w:World)(g:Nat)(z:Value)(f:κ->Value)(k:κ)(st:Nat):Prop:=
  ∃(es:Array MapEntry) (c:Nat) (m:List (κ×Value)) (j:Nat),w.heap[g]?=some (.map es c)/\es.toList.map (λe=>(e.key,e.val))=m.map (λp=>(V p.1,p.2))/\(∀k,(z2k m k).getD z=f k)/\(es.toList.map (·.born)).Nodup/\(∀e∈es.toList,e.born<c)/\(m.map (·.1)).findIdx? (λx=>decide (k=x))=some j/\(es.toList[j]?).map (·.born)=some st
section
variable {κ:Type} [DecidableEq κ] {V:κ->Value} {P:Program} {K:TypeId}
theorem MapZ.fr {w w':World}{g:Nat}{z:Value}{f:κ->Value}{S:List Nat}(h:MapZ V w g z f)(hf:Fr S w w')(hn:∀k∈S,k∉[g]:=by simp[z0x]<;>omega):MapZ V w' g z f:=by
 obtain⟨I,c,m,D,J⟩:=h;exact⟨I,c,m,(hf.block g (Array.getElem?_eq_some_iff.1 D).1 (λh=>hn g h (by simp))).trans D,J⟩
theorem MapZ.ext {w w':World}{g:Nat}{z:Value}{f:κ->Value}(h:MapZ V w g z f)(hf:Fr [] w w'):MapZ V w' g z f:=h.fr hf (by simp)
theorem MapZ.lt {w:World}{g:Nat}{z:Value}{f:κ->Value}(h:MapZ V w g z f):g<w.heap.size:=let ⟨_,_,_,h1,_⟩:=h;(Array.getElem?_eq_some_iff.1 h1).1
theorem MapZ.ne_blk {w:World}{g D T:Nat}{z:Value}{f:κ->Value}{cs:List Value}(h:MapZ V w g z f)(I:Blk w D T cs):g≠D:=by
 rintro rfl;obtain⟨_,_,_,J,_⟩:=h;unfold Blk at I;rw[I]at J;cases J
theorem MapE.map {w:World}{g st:Nat}{z:Value}{f:κ->Value}{k:κ}(h:MapE V w g z f k st):MapZ V w g z f:=
 let ⟨es,c,m,_,h1,h2,h3,h4,h5,_⟩:=h;⟨es,c,m,h1,h2,h3,h4,h5⟩
theorem x9h {l:List MapEntry}(hn:(l.map (·.born)).Nodup){j st:Nat}(h:(l[j]?).map (·.born)=some st):l.findIdx? (λe=>((e.born:Nat):Int) == ((st:Nat):Int))=some j:=by
 induction l generalizing j with
 | nil=>simp at h
 | cons a r ih=>
  simp only[List.map_cons,List.nodup_cons]at hn;cases j with
  | zero=>simp at h;subst h;simp[List.findIdx?_cons]
  | succ j=>
   simp only[List.getElem?_cons_succ]at h;obtain⟨I,O,U⟩:=Option.map_eq_some_iff.1 h;have D:a.born≠st:=λJ=>hn.1 (List.mem_map.2 ⟨I,List.mem_of_getElem? O,U.trans J.symm⟩);have M:(((a.born:Nat):Int) == ((st:Nat):Int))=false:=by
    simp only[beq_eq_false_iff_ne,ne_eq,Int.natCast_inj];exact D
   rw[List.findIdx?_cons,M];simp[ih hn.2 h]
theorem x6d {w:World}{g:Nat}{z:Value}{f:κ->Value}{t E:TypeId}(h:MapZ V w g z f)(O:KeyLaw P K V)(U:P.underlying t=some (.map K E))(Z:(zeroValue E).run P w=.ok z w)(k:κ) :
    (Instr.lookup t (.map (some g)) (V k) false).run P w=.ok (f k) w:=by
  obtain⟨D,c,m,I,J,M,_⟩:=h
  rw[<-M k]
  exact y6y (f:=z2k m) ⟨D,c,m,I,J,λ_=>rfl⟩ O U Z k
theorem x0p {w:World}{g:Nat}{z:Value}{f:κ->Value}{t E:TypeId}(h:MapZ V w g z f)(hk:KeyLaw P K V)(hu:P.underlying t=some (.map K E))(hz:∀w:World,(zeroValue E).run P w=.ok z w)(k:κ) :
    ∃w' st,(Instr.mapEntry t (.map (some g)) (V k)).run P w=.ok (.tuple #[f k,.int .i64 (st:Nat)]) w'/\MapE V w' g z f k st/\Fr [g] w w'/\w'.heap.size=w.heap.size:=by
  obtain⟨I,c,m,h1,h2,h3,h4,h5⟩:=h
  have a7:=(Array.getElem?_eq_some_iff.1 h1).1
  have U:I.toList.map (·.key)=(m.map (·.1)).map V:=by
    have:=congrArg (List.map Prod.fst) h2
    simpa[List.map_map,Function.comp_def] using this
  have J:=hk.find k I.toList (m.map (·.1)) w U
  have Z:∀o,(setObj g o).run P w=.ok () { w with heap:=w.heap.setIfInBounds g o }:=by intro o;simp[setObj,Sem.run,h1]
  have a3:∀o,Fr [g] w { w with heap:=w.heap.setIfInBounds g o }:=λo=>⟨rfl,rfl,rfl,by simp,λi _ hn=>by
    simp only
    rw[Array.getElem?_setIfInBounds_ne (by intro e;subst e;simp at hn)]⟩
  have M:∀o,({ w with heap:=w.heap.setIfInBounds g o }:World).heap[g]?=some o:=by intro o;simp[a7]
  have a5:I.toList.length=m.length:=by have:=congrArg List.length h2;simpa using this
  have D:=y2a (V:=V) m k I.toList h2
  cases hf:(m.map (·.1)).findIdx? (λx=>decide (k=x)) with
  | none=>
    rw[hf]at J D
    simp only[Option.bind_none,Option.map_none]at D
    have e0:f k=z:=by rw[<-h3 k,<-D];rfl
    refine⟨{ w with heap:=w.heap.setIfInBounds g (.map (I.push { key:=V k,val:=z,born:=c }) (c+1)) },c,?_,⟨_,_,m++[(k,z)],m.length,M (.map (I.push { key:=V k,val:=z,born:=c }) (c+1)),?_,λk'=>?_,?_,?_,?_,?_⟩,a3 _,by simp⟩
    · simp only[Instr.mapEntry,Sem.run_bind,run_underlying hu,Result.andThen_ok,z2l h1,hk.check,J,Option.bind_none,hz w,Z,Sem.run_pure,e0]
      rfl
    · simp[h2]
    · rw[y2p m k k' z hf,<-h3 k']
      split
      · rename_i e;subst e;rw[h3,e0];rfl
      · rfl
    · simp only[Array.toList_push,List.map_append,List.map_cons,List.map_nil]
      refine List.nodup_append.2 ⟨h4,by simp,λa ha b hb e=>?_⟩
      simp only[List.mem_singleton]at hb
      obtain⟨x,hx,rfl⟩:=List.mem_map.1 ha
      have:=h5 x hx;omega
    · intro e he
      simp only[Array.toList_push,List.mem_append,List.mem_singleton]at he
      rcases he with he|rfl
      · have:=h5 e he;omega
      · simp
    · rw[List.map_append,List.findIdx?_append,hf];simp
    · simp only[Array.toList_push]
      rw[<-a5,List.getElem?_append_right (Nat.le_refl _)];simp
  | some i=>
    have hi:i<m.length:=by
      have:=List.findIdx?_eq_some_iff_findIdx_eq.1 hf
      simpa using this.1
    have O:i<I.toList.length:=by omega
    have a4:V k=(I.toList[i]).key:=by
      have a6:=List.findIdx?_eq_some_iff_getElem.1 hf
      obtain⟨a9,hp,_⟩:=a6
      have a8:k=(m.map (·.1))[i]:=by simpa using hp
      have e1:(I.toList.map (·.key))[i]?=((m.map (·.1)).map V)[i]?:=by rw[U]
      simp only[List.getElem?_map,List.getElem?_eq_getElem O,List.getElem?_eq_getElem hi,Option.map_some,Option.some.injEq]at e1
      rw[e1,a8];simp
    have a2:I[i]?=some I.toList[i]:=by rw[<-Array.getElem?_toList,List.getElem?_eq_getElem O]
    have a1:(Instr.keyThatStays (((I[i]?).map (·.key)).getD (V k)) (V k)).run P w=.ok (V k) w:=by
      rw[a2]
      simp only[Option.map_some,Option.getD_some,<-a4,Instr.keyThatStays,hk.bits,if_true,Sem.run_pure]
    have a0:I.modify i (λe=>{ e with key:=V k })=I:=by
      apply Array.ext'
      rw[Array.toList_modify]
      apply List.ext_getElem?
      intro j
      rw[List.getElem?_modify]
      by_cases hj:i=j
      · subst hj
        rw[List.getElem?_eq_getElem O]
        simp only[Option.map_eq_map,Option.map_some,if_pos,Option.some.injEq]
        rw[a4]
      · simp[hj]
    rw[hf]at J D
    simp only[Option.bind_some,List.getElem?_eq_getElem O,Option.map_some]at J D
    have e0:f k=I.toList[i].val:=by rw[<-h3 k,<-D];rfl
    refine⟨{ w with heap:=w.heap.setIfInBounds g (.map I c) },I.toList[i].born,?_,⟨I,c,m,i,M _,h2,h3,h4,h5,hf,?_⟩,a3 _,by simp⟩
    · simp only[Instr.mapEntry,Sem.run_bind,run_underlying hu,Result.andThen_ok,z2l h1,hk.check,J,a1,Z,a0,Sem.run_pure,e0]
      rw[a2];rfl
    · rw[List.getElem?_eq_getElem O];rfl
theorem y5o {w:World}{g st:Nat}{z v:Value}{f:κ->Value}{t:TypeId}{k:κ}(h:MapE V w g z f k st) :
    ∃w',(Instr.entryStore t (.map (some g)) (.int .i64 (st:Nat)) v).run P w=.ok () w'/\MapZ V w' g z (λk'=>if k'=k then v else f k')/\Fr [g] w w'/\w'.heap.size=w.heap.size:=by
  obtain⟨I,c,m,j,h1,h2,h3,h4,h5,h6,h7⟩:=h
  have a1:=(Array.getElem?_eq_some_iff.1 h1).1
  have Z:∀o,(setObj g o).run P w=.ok () { w with heap:=w.heap.setIfInBounds g o }:=by intro o;simp[setObj,Sem.run,h1]
  have a0:∀o,Fr [g] w { w with heap:=w.heap.setIfInBounds g o }:=λo=>⟨rfl,rfl,rfl,by simp,λi _ hn=>by
    simp only
    rw[Array.getElem?_setIfInBounds_ne (by intro e;subst e;simp at hn)]⟩
  have J:∀o,({ w with heap:=w.heap.setIfInBounds g o }:World).heap[g]?=some o:=by intro o;simp[a1]
  have U:I.findIdx? (λe=>((e.born:Nat):Int) == ((st:Nat):Int))=some j:=by
    have e:I.findIdx? (λe=>((e.born:Nat):Int) == ((st:Nat):Int))=I.toList.findIdx? (λe=>((e.born:Nat):Int) == ((st:Nat):Int)):=by cases I;simp
    rw[e];exact x9h h4 h7
  have hi:j<m.length:=by
    have:=List.findIdx?_eq_some_iff_findIdx_eq.1 h6
    simpa using this.1
  refine⟨{ w with heap:=w.heap.setIfInBounds g (.map (I.modify j λe=>{ e with val:=v }) c) },?_,⟨_,c,m.modify j λp=>(p.1,v),J _,?_,λk'=>?_,?_,?_⟩,a0 _,by simp⟩
  · simp only[Instr.entryStore,Sem.run_bind,Result.andThen_ok,z2l h1,asInt,asIntOf,Sem.run_pure,U,Z]
  · rw[Array.toList_modify]
    apply List.ext_getElem?
    intro i
    have D:=congrArg (·[i]?) h2
    simp only[List.getElem?_map]at D ⊢
    rw[List.getElem?_modify,List.getElem?_modify]
    by_cases hj:j=i
    · subst hj
      simp only[Option.map_eq_map,if_pos]
      cases M:I.toList[j]? with
      | none=>rw[M]at D;cases hm:m[j]? with
        | none=>rfl
        | some p=>rw[hm]at D;cases D
      | some e=>rw[M]at D;cases hm:m[j]? with
        | none=>rw[hm]at D;cases D
        | some p=>
          rw[hm]at D
          simp only[Option.map_some,Option.some.injEq,Prod.mk.injEq]at D ⊢
          first|exact⟨D.1,rfl⟩|exact⟨D.1,trivial⟩|simp[D.1]
    · simp only[Option.map_eq_map,if_neg hj];simpa using D
  · rw[z8r k k' v m j h6]
    show _=if k'=k then v else f k'
    split
    · rfl
    · exact h3 k'
  · rw[Array.toList_modify]
    have e:(I.toList.modify j λe=>{ e with val:=v }).map (·.born)=I.toList.map (·.born):=by
      apply List.ext_getElem?
      intro i
      rw[List.getElem?_map,List.getElem?_map,List.getElem?_modify]
      split
      · cases I.toList[i]?<;>rfl
      · simp
    rw[e];exact h4
  · intro e M
    rw[Array.toList_modify]at M
    obtain⟨i,O,rfl⟩:=List.getElem_of_mem M
    rw[List.length_modify]at O
    rw[List.getElem_modify]
    have:=h5 _ (List.getElem_mem O)
    split<;>exact this
variable {a:Act} {n:Nat} {L:List (Nat×Value)} {ds:List Nat} {w w':World} {Q:Exit->Act->World->Prop} {ops:Array Oper} {rest:List Oper}
variable {d:Nat} {ty:TypeId} {pos:String} {after:Array Edge} {x y z':Operand} {t E:TypeId} {g st:Nat} {f:κ->Value} {k:κ} {v z:Value}
theorem x4m (V:κ->Value)(z:Value)(h:AgM ds a n L)(hn:Nat.blt d n=true)
    (q:∀g w',g=w.heap.size->MapZ V w' g z (λ_=>z)->Fr [] w w'->w'.heap.size=g+1->∀a,AgM ds a n ((d,.map (some g))::L)->wpList P ops Q rest a w'):wpList P ops Q (⟨some d,.makeMap t none,ty,pos,after,none⟩::rest) a w:=
  z1t h rfl rfl hn (w':=w.alloc (.map #[] 0)) (by simp[execOp,Instr.makeMap]) (q _ _ rfl ⟨_,_,[],heap_alloc_new w _,by simp,λ_=>rfl,by simp,by simp⟩ (Fr.alloc [] w _) (by simp))
theorem y7l (V:κ->Value)(z:Value)(hn:Nat.blt d n=true)(q:∀g w',g=w.heap.size->MapZ V w' g z (λ_=>z)->Fr [] w w'->w'.heap.size=g+1->WL P ops Q rest n ds w' ((d,.map (some g))::L)):WL P ops Q (⟨some d,.makeMap t none,ty,pos,after,none⟩::rest) n ds w L:=λa h=>x4m V z h hn q
theorem z7h (h:AgM ds a n L)(O:ev L x=some (.map (some g)))(U:ev L y=some (V k))(I:MapZ V w g z f)(D:KeyLaw P K V)(J:P.underlying t=some (.map K E))(Z:∀w:World,(zeroValue E).run P w=.ok z w)(M:f k=v)(hn:Nat.blt d n=true)
    (q:∀a,AgM ds a n ((d,v)::L)->wpList P ops Q rest a w):wpList P ops Q (⟨some d,.lookup t x y false,ty,pos,after,none⟩::rest) a w:=
  z1t h rfl rfl hn (by rw[<-M];simp[execOp,h.eval O,h.eval U,x6d I D J (Z w) k]) q
theorem y4n (O:ev L x=some (.map (some g)))(U:ev L y=some (V k))(I:MapZ V w g z f)(D:KeyLaw P K V)(J:P.underlying t=some (.map K E))(Z:∀w:World,(zeroValue E).run P w=.ok z w)(M:f k=v)(hn:Nat.blt d n=true)
 (q:WL P ops Q rest n ds w ((d,v)::L)):WL P ops Q (⟨some d,.lookup t x y false,ty,pos,after,none⟩::rest) n ds w L:=λa h=>z7h h O U I D J Z M hn q
theorem z6u (h:AgM ds a n L)(hx:ev L x=some (.map (some g)))(hy:ev L y=some (V k))(O:MapZ V w g z f)(M:KeyLaw P K V)(Z:P.underlying t=some (.map K E))(hz:∀w:World,(zeroValue E).run P w=.ok z w)(hn:Nat.blt d n=true)
    (q:∀w' st,MapE V w' g z f k st->Fr [g] w w'->w'.heap.size=w.heap.size->∀a,AgM ds a n ((d,.tuple #[f k,.int .i64 (st:Nat)])::L)->wpList P ops Q rest a w'):wpList P ops Q (⟨some d,.mapEntry t x y,ty,pos,after,none⟩::rest) a w:=by
  obtain⟨w',st,U,D,I,J⟩:=x0p O M Z hz k
  exact z1t h rfl rfl hn (w':=w') (by simp[execOp,h.eval hx,h.eval hy,U]) (q w' st D I J)
theorem z4z {s:Operand}(h:AgM ds a n L)(Z:ev L x=some (.map (some g)))(U:ev L s=some (.int .i64 (st:Nat)))(hy:ev L y=some v)(M:MapE V w g z f k st)
    (q:∀w',MapZ V w' g z (λk'=>if k'=k then v else f k')->Fr [g] w w'->w'.heap.size=w.heap.size->∀a,AgM ds a n L->wpList P ops Q rest a w'):wpList P ops Q (⟨none,.entryStore t x s y,ty,pos,after,none⟩::rest) a w:=by
  obtain⟨w',O,D,I,J⟩:=y5o (P:=P) (t:=t) (v:=v) M
  exact z9g h rfl rfl (w':=w') (by simp[execOp,h.eval Z,h.eval U,h.eval hy,O]) (q w' D I J)
end
end Go.Lw
namespace Go.Lw
open Go.RowKit
theorem x9x {w:World}{ad:Addr}{cs vs:List Value}{off:Nat}(h:Cells w ad cs)(I:(cs.drop off).take vs.length=vs):Cells w (ad.add off) vs:=λj u D=>by
 rw[<-I]at D
 rw[List.getElem?_take]at D
 split at D
 ·rw[List.getElem?_drop]at D
  rw[z9a];exact h _ u D
 cases D
section
variable {P:Program} {a:Act} {n:Nat} {L:List (Nat×Value)} {ds:List Nat} {w:World} {Q:Exit->Act->World->Prop} {ops:Array Oper} {rest:List Oper} {d g p:Nat} {ty t:TypeId} {pos:String} {after:Array Edge} {x:Operand} {l:List UInt8}
end
end Go.Lw
namespace Go.Lw
open Go.RowKit
section
variable {P:Program} {a:Act} {n:Nat} {L:List (Nat×Value)} {ds:List Nat} {w:World} {Q:Exit->Act->World->Prop} {ops:Array Oper} {rest:List Oper} {d:Nat} {ty t T:TypeId} {pos:String} {after:Array Edge} {x:Operand}
end
section
variable {P:Program} {a:Act} {n:Nat} {L:List (Nat×Value)} {ds:List Nat} {w:World} {Q:Exit->Act->World->Prop} {ops:Array Oper} {rest:List Oper} {d:Nat} {ty t T:TypeId} {pos:String} {after:Array Edge} {x y:Operand} {k:IntKind} {i:Int}
end
end Go.Lw
namespace Go.Proofs.YtpgdchkdlgkmgaaGreatDoor
open Go.Lw Go.G21 Go.G08 _root_.Go.Proofs.Tryz
theorem y6e:ElemOf prog 35 46 z3y 24:=ElemOf.mk' (z:=(.slice none 0 0)) underlying35 (by kernel_rfl) rfl
theorem x2c:z2c prog 46:=λ_=>by kernel_rfl
theorem v5r (i:LId)(v:Value)(ts:List TQ)(w0:World)(U:Sl z3y w0 v ts)(Z:TabAt w0 ts)(hl:ts.length<=200)(hi:0<=i.y/\i.y<=255):Rets prog 250 #[v,.agg #[.int .u8 i.y,.int .i64 i.n]] w0 λr w'=>r=.bool (decide (z4e (z2a ts) i))/\Fr [] w0 w':=by
 obtain⟨A,c,rfl,a4,hM,hA⟩:=id U;clear hA;unfold maxLen at hM;have a1:=z5o Z;have a6:=a1 (i.y-1).toNat;refine we [(0,.slice A ts.length c),(1,.agg #[.int .u8 i.y,.int .i64 i.n])] func250 rfl ntmps250 rfl (.c2 rfl rfl) ?_;have a2:=U;have a0:=Z;refine sr (bx rfl rfl rfl (λg3 w1 a5 I M z1=>(asg rfl (nn (sq ?_)))));replace U:=a2.ext M;replace Z:=a0.ext M;intro a h;refine y2r z2o (by kernel_rfl) (z2n h rfl z7o rfl λa h=>z5c h rfl (λ_ J=>I.ext J) rfl na5 rfl λa h=>u1h h rfl rfl rfl λa h=>z3z h rfl rfl λa h=>gSp (D:=8) h rfl ?_ ?_);clear h;intro g0 h;refine z2g h rfl rfl rfl rfl rfl rfl (z2n h rfl z7o rfl λa h=>z2g h rfl rfl rfl rfl rfl rfl (z5c h rfl (λ_ J=>I.ext J) rfl na5 rfl λa h=>z2g h rfl rfl rfl rfl rfl rfl ?_));refine v4e h rfl (by rw[underlying5];rfl) underlying3 (by first|exact i6 (by omega)|rfl) rfl λa h=>?_;refine z2g h rfl rfl rfl rfl rfl rfl (z3z h rfl rfl λa h=>z2g h rfl rfl rfl rfl rfl rfl (y8g h rfl underlying35 rfl λa h=>z2g h rfl rfl rfl rfl rfl rfl (j0y h rfl rfl rfl λa h=>?_)));refine z7l h rfl rfl rfl rfl λa h=>z3z h rfl rfl λa h=>gSp (D:=16) h rfl ?_ ?_;clear h;intro g1 h;refine z2g h rfl rfl rfl rfl rfl rfl (z2n h rfl z8y rfl λa h=>z2g h rfl rfl rfl rfl rfl rfl (z5c h rfl (λ_ J=>I.ext J) rfl na3 rfl λa h=>z2g h rfl rfl rfl rfl rfl rfl (u1h h rfl rfl rfl λa h=>?_)));refine z7l h rfl rfl rfl rfl λa h=>z3z h rfl rfl λa h=>gSp (D:=21) h rfl ?_ ?_;clear h;intro g2 h;refine z2g h rfl rfl rfl rfl rfl rfl (z2n h rfl z8y rfl λa h=>z2g h rfl rfl rfl rfl rfl rfl (z5c h rfl (λ_ J=>I.ext J) rfl na3 rfl λa h=>z2g h rfl rfl rfl rfl rfl rfl (z3z h rfl rfl λa h=>?_)));refine z2g h rfl rfl rfl rfl rfl rfl (z2n h rfl z7o rfl λa h=>z2g h rfl rfl rfl rfl rfl rfl (z5c h rfl (λ_ J=>I.ext J) rfl na5 rfl λa h=>z2g h rfl rfl rfl rfl rfl rfl (u3s h rfl rfl (by first|exact IntWalk.u8_in _ (by omega)|rfl) rfl λa h=>?_)));refine z2g h rfl rfl rfl rfl rfl rfl (v2l (tq0) h rfl U rfl y6e (by omega) (by omega) rfl rfl λa3 O a h=>z2g h rfl rfl rfl rfl rfl rfl (x2o h rfl (λ_ J=>O _ (U.ext J)) x2c rfl λa h=>z2g h rfl rfl rfl rfl rfl rfl (y8g h rfl underlying46 rfl λa h=>?_)));refine z2g h rfl rfl rfl rfl rfl rfl (j4i h rfl rfl rfl λa h=>z7l h rfl rfl rfl rfl λa h=>z5n h rfl rfl λa h=>wpQuiet_nil ?_);intro w2 q2;refine bk (h.sub (L':=[(4,_)]) (.cons rfl .nil)) (tn (rt (r1 results250 rfl ?_)));exact⟨_,rfl,by first|exact congrArg Value.bool (decide_eq_decide.2 (by rw[z2f];omega))|exact congrArg Value.bool (decide_eq_false (by rw[z2f];omega)).symm|exact congrArg Value.bool (decide_eq_true (by rw[z2f];omega)).symm,(M.n1 q2)⟩;clear h;intro g2 h;refine z1m h rfl rfl rfl rfl rfl rfl rfl rfl λa h=>z1m h rfl rfl rfl rfl rfl rfl rfl rfl λa h=>z1m h rfl rfl rfl rfl rfl rfl rfl rfl λa h=>z1m h rfl rfl rfl rfl rfl rfl rfl rfl λa h=>z1m h rfl rfl rfl rfl rfl rfl rfl rfl λa h=>z1m h rfl rfl rfl rfl rfl rfl rfl rfl λa h=>?_;refine z1m h rfl rfl rfl rfl rfl rfl rfl rfl λa h=>z1m h rfl rfl rfl rfl rfl rfl rfl rfl λa h=>z1m h rfl rfl rfl rfl rfl rfl rfl rfl λa h=>z1m h rfl rfl rfl rfl rfl rfl rfl rfl λa h=>z3i h rfl rfl rfl rfl λa h=>z5n h rfl rfl λa h=>?_;refine wpQuiet_nil ?_;intro w3 q3;refine bk (h.sub (L':=[(4,_)]) (.cons rfl .nil)) (tn (rt (r1 results250 rfl ?_)));exact⟨_,rfl,by first|exact congrArg Value.bool (decide_eq_decide.2 (by rw[z2f];omega))|exact congrArg Value.bool (decide_eq_false (by rw[z2f];omega)).symm|exact congrArg Value.bool (decide_eq_true (by rw[z2f];omega)).symm,(M.n1 q3)⟩;clear h;intro g1 h;refine z1m h rfl rfl rfl rfl rfl rfl rfl rfl λa h=>z1m h rfl rfl rfl rfl rfl rfl rfl rfl λa h=>z1m h rfl rfl rfl rfl rfl rfl rfl rfl λa h=>z3i h rfl rfl rfl rfl λa h=>z3z h rfl rfl λa h=>z1m h rfl rfl rfl rfl rfl rfl rfl rfl λa h=>?_;refine z1m h rfl rfl rfl rfl rfl rfl rfl rfl λa h=>z1m h rfl rfl rfl rfl rfl rfl rfl rfl λa h=>z1m h rfl rfl rfl rfl rfl rfl rfl rfl λa h=>z1m h rfl rfl rfl rfl rfl rfl rfl rfl λa h=>z1m h rfl rfl rfl rfl rfl rfl rfl rfl λa h=>z1m h rfl rfl rfl rfl rfl rfl rfl rfl λa h=>?_;refine z1m h rfl rfl rfl rfl rfl rfl rfl rfl λa h=>z1m h rfl rfl rfl rfl rfl rfl rfl rfl λa h=>z1m h rfl rfl rfl rfl rfl rfl rfl rfl λa h=>z3i h rfl rfl rfl rfl λa h=>z5n h rfl rfl λa h=>wpQuiet_nil ?_;intro w4 q4;refine bk (h.sub (L':=[(4,_)]) (.cons rfl .nil)) (tn (rt (r1 results250 rfl ?_)));exact⟨_,rfl,by first|exact congrArg Value.bool (decide_eq_decide.2 (by rw[z2f];omega))|exact congrArg Value.bool (decide_eq_false (by rw[z2f];omega)).symm|exact congrArg Value.bool (decide_eq_true (by rw[z2f];omega)).symm,(M.n1 q4)⟩;clear h;intro g0 h;refine z1m h rfl rfl rfl rfl rfl rfl rfl rfl λa h=>z1m h rfl rfl rfl rfl rfl rfl rfl rfl λa h=>z1m h rfl rfl rfl rfl rfl rfl rfl rfl λa h=>z1m h rfl rfl rfl rfl rfl rfl rfl rfl λa h=>z1m h rfl rfl rfl rfl rfl rfl rfl rfl λa h=>z1m h rfl rfl rfl rfl rfl rfl rfl rfl λa h=>?_;refine z3i h rfl rfl rfl rfl λa h=>z3z h rfl rfl λa h=>z1m h rfl rfl rfl rfl rfl rfl rfl rfl λa h=>z1m h rfl rfl rfl rfl rfl rfl rfl rfl λa h=>z1m h rfl rfl rfl rfl rfl rfl rfl rfl λa h=>z3i h rfl rfl rfl rfl λa h=>?_;refine z3z h rfl rfl λa h=>z1m h rfl rfl rfl rfl rfl rfl rfl rfl λa h=>z1m h rfl rfl rfl rfl rfl rfl rfl rfl λa h=>z1m h rfl rfl rfl rfl rfl rfl rfl rfl λa h=>z1m h rfl rfl rfl rfl rfl rfl rfl rfl λa h=>z1m h rfl rfl rfl rfl rfl rfl rfl rfl λa h=>?_;refine z1m h rfl rfl rfl rfl rfl rfl rfl rfl λa h=>z1m h rfl rfl rfl rfl rfl rfl rfl rfl λa h=>z1m h rfl rfl rfl rfl rfl rfl rfl rfl λa h=>z1m h rfl rfl rfl rfl rfl rfl rfl rfl λa h=>z1m h rfl rfl rfl rfl rfl rfl rfl rfl λa h=>z3i h rfl rfl rfl rfl λa h=>?_;refine z5n h rfl rfl λa h=>wpQuiet_nil ?_;intro w5 q5;refine bk (h.sub (L':=[(4,_)]) (.cons rfl .nil)) (tn (rt (r1 results250 rfl ?_)));exact⟨_,rfl,by first|exact congrArg Value.bool (decide_eq_decide.2 (by rw[z2f];omega))|exact congrArg Value.bool (decide_eq_false (by rw[z2f];omega)).symm|exact congrArg Value.bool (decide_eq_true (by rw[z2f];omega)).symm,(M.n1 q5)⟩
theorem x5x (i:LId)(v:Value)(ts:List TQ)(w0:World)(U:Sl z3y w0 v ts)(Z:TabAt w0 ts)(hl:ts.length<=200)(hi:0<=i.y/\i.y<=255):Rets prog 138 #[v,.agg #[.int .u8 i.y,.int .i64 i.n]] w0 λr w'=>r=.bool (decide (z4e (z2a ts) i))/\Fr [] w0 w':=by
 obtain⟨A,c,rfl,a4,hM,hA⟩:=id U;clear hA;unfold maxLen at hM;have a1:=z5o Z;have a6:=a1 (i.y-1).toNat;refine we [(0,.slice A ts.length c),(1,.agg #[.int .u8 i.y,.int .i64 i.n])] func138 rfl ntmps138 rfl (.c2 rfl rfl) ?_;have a2:=U;have a0:=Z;refine sr (bx rfl rfl rfl (λg3 w1 a5 I M z1=>(asg rfl (nn (sq ?_)))));replace U:=a2.ext M;replace Z:=a0.ext M;intro a h;refine y2r z2o (by kernel_rfl) (z2n h rfl z7o rfl λa h=>z5c h rfl (λ_ J=>I.ext J) rfl na5 rfl λa h=>u1h h rfl rfl rfl λa h=>z3z h rfl rfl λa h=>gSp (D:=8) h rfl ?_ ?_);clear h;intro g0 h;refine z2g h rfl rfl rfl rfl rfl rfl (z2n h rfl z7o rfl λa h=>z2g h rfl rfl rfl rfl rfl rfl (z5c h rfl (λ_ J=>I.ext J) rfl na5 rfl λa h=>z2g h rfl rfl rfl rfl rfl rfl ?_));refine v4e h rfl (by rw[underlying5];rfl) underlying3 (by first|exact i6 (by omega)|rfl) rfl λa h=>?_;refine z2g h rfl rfl rfl rfl rfl rfl (z3z h rfl rfl λa h=>z2g h rfl rfl rfl rfl rfl rfl (y8g h rfl underlying35 rfl λa h=>z2g h rfl rfl rfl rfl rfl rfl (j0y h rfl rfl rfl λa h=>?_)));refine z7l h rfl rfl rfl rfl λa h=>z3z h rfl rfl λa h=>gSp (D:=16) h rfl ?_ ?_;clear h;intro g1 h;refine z2g h rfl rfl rfl rfl rfl rfl (z2n h rfl z8y rfl λa h=>z2g h rfl rfl rfl rfl rfl rfl (z5c h rfl (λ_ J=>I.ext J) rfl na3 rfl λa h=>z2g h rfl rfl rfl rfl rfl rfl (u1h h rfl rfl rfl λa h=>?_)));refine z7l h rfl rfl rfl rfl λa h=>z3z h rfl rfl λa h=>gSp (D:=21) h rfl ?_ ?_;clear h;intro g2 h;refine z2g h rfl rfl rfl rfl rfl rfl (z2n h rfl z8y rfl λa h=>z2g h rfl rfl rfl rfl rfl rfl (z5c h rfl (λ_ J=>I.ext J) rfl na3 rfl λa h=>z2g h rfl rfl rfl rfl rfl rfl (z3z h rfl rfl λa h=>?_)));refine z2g h rfl rfl rfl rfl rfl rfl (z2n h rfl z7o rfl λa h=>z2g h rfl rfl rfl rfl rfl rfl (z5c h rfl (λ_ J=>I.ext J) rfl na5 rfl λa h=>z2g h rfl rfl rfl rfl rfl rfl (u3s h rfl rfl (by first|exact IntWalk.u8_in _ (by omega)|rfl) rfl λa h=>?_)));refine z2g h rfl rfl rfl rfl rfl rfl (v2l (tq0) h rfl U rfl y6e (by omega) (by omega) rfl rfl λa3 O a h=>z2g h rfl rfl rfl rfl rfl rfl (x2o h rfl (λ_ J=>O _ (U.ext J)) x2c rfl λa h=>z2g h rfl rfl rfl rfl rfl rfl (y8g h rfl underlying46 rfl λa h=>?_)));refine z2g h rfl rfl rfl rfl rfl rfl (j4i h rfl rfl rfl λa h=>z7l h rfl rfl rfl rfl λa h=>z5n h rfl rfl λa h=>wpQuiet_nil ?_);intro w2 q2;refine bk (h.sub (L':=[(4,_)]) (.cons rfl .nil)) (tn (rt (r1 results138 rfl ?_)));exact⟨_,rfl,by first|exact congrArg Value.bool (decide_eq_decide.2 (by rw[z2f];omega))|exact congrArg Value.bool (decide_eq_false (by rw[z2f];omega)).symm|exact congrArg Value.bool (decide_eq_true (by rw[z2f];omega)).symm,(M.n1 q2)⟩;clear h;intro g2 h;refine z1m h rfl rfl rfl rfl rfl rfl rfl rfl λa h=>z1m h rfl rfl rfl rfl rfl rfl rfl rfl λa h=>z1m h rfl rfl rfl rfl rfl rfl rfl rfl λa h=>z1m h rfl rfl rfl rfl rfl rfl rfl rfl λa h=>z1m h rfl rfl rfl rfl rfl rfl rfl rfl λa h=>z1m h rfl rfl rfl rfl rfl rfl rfl rfl λa h=>?_;refine z1m h rfl rfl rfl rfl rfl rfl rfl rfl λa h=>z1m h rfl rfl rfl rfl rfl rfl rfl rfl λa h=>z1m h rfl rfl rfl rfl rfl rfl rfl rfl λa h=>z1m h rfl rfl rfl rfl rfl rfl rfl rfl λa h=>z3i h rfl rfl rfl rfl λa h=>z5n h rfl rfl λa h=>?_;refine wpQuiet_nil ?_;intro w3 q3;refine bk (h.sub (L':=[(4,_)]) (.cons rfl .nil)) (tn (rt (r1 results138 rfl ?_)));exact⟨_,rfl,by first|exact congrArg Value.bool (decide_eq_decide.2 (by rw[z2f];omega))|exact congrArg Value.bool (decide_eq_false (by rw[z2f];omega)).symm|exact congrArg Value.bool (decide_eq_true (by rw[z2f];omega)).symm,(M.n1 q3)⟩;clear h;intro g1 h;refine z1m h rfl rfl rfl rfl rfl rfl rfl rfl λa h=>z1m h rfl rfl rfl rfl rfl rfl rfl rfl λa h=>z1m h rfl rfl rfl rfl rfl rfl rfl rfl λa h=>z3i h rfl rfl rfl rfl λa h=>z3z h rfl rfl λa h=>z1m h rfl rfl rfl rfl rfl rfl rfl rfl λa h=>?_;refine z1m h rfl rfl rfl rfl rfl rfl rfl rfl λa h=>z1m h rfl rfl rfl rfl rfl rfl rfl rfl λa h=>z1m h rfl rfl rfl rfl rfl rfl rfl rfl λa h=>z1m h rfl rfl rfl rfl rfl rfl rfl rfl λa h=>z1m h rfl rfl rfl rfl rfl rfl rfl rfl λa h=>z1m h rfl rfl rfl rfl rfl rfl rfl rfl λa h=>?_;refine z1m h rfl rfl rfl rfl rfl rfl rfl rfl λa h=>z1m h rfl rfl rfl rfl rfl rfl rfl rfl λa h=>z1m h rfl rfl rfl rfl rfl rfl rfl rfl λa h=>z3i h rfl rfl rfl rfl λa h=>z5n h rfl rfl λa h=>wpQuiet_nil ?_;intro w4 q4;refine bk (h.sub (L':=[(4,_)]) (.cons rfl .nil)) (tn (rt (r1 results138 rfl ?_)));exact⟨_,rfl,by first|exact congrArg Value.bool (decide_eq_decide.2 (by rw[z2f];omega))|exact congrArg Value.bool (decide_eq_false (by rw[z2f];omega)).symm|exact congrArg Value.bool (decide_eq_true (by rw[z2f];omega)).symm,(M.n1 q4)⟩;clear h;intro g0 h;refine z1m h rfl rfl rfl rfl rfl rfl rfl rfl λa h=>z1m h rfl rfl rfl rfl rfl rfl rfl rfl λa h=>z1m h rfl rfl rfl rfl rfl rfl rfl rfl λa h=>z1m h rfl rfl rfl rfl rfl rfl rfl rfl λa h=>z1m h rfl rfl rfl rfl rfl rfl rfl rfl λa h=>z1m h rfl rfl rfl rfl rfl rfl rfl rfl λa h=>?_;refine z3i h rfl rfl rfl rfl λa h=>z3z h rfl rfl λa h=>z1m h rfl rfl rfl rfl rfl rfl rfl rfl λa h=>z1m h rfl rfl rfl rfl rfl rfl rfl rfl λa h=>z1m h rfl rfl rfl rfl rfl rfl rfl rfl λa h=>z3i h rfl rfl rfl rfl λa h=>?_;refine z3z h rfl rfl λa h=>z1m h rfl rfl rfl rfl rfl rfl rfl rfl λa h=>z1m h rfl rfl rfl rfl rfl rfl rfl rfl λa h=>z1m h rfl rfl rfl rfl rfl rfl rfl rfl λa h=>z1m h rfl rfl rfl rfl rfl rfl rfl rfl λa h=>z1m h rfl rfl rfl rfl rfl rfl rfl rfl λa h=>?_;refine z1m h rfl rfl rfl rfl rfl rfl rfl rfl λa h=>z1m h rfl rfl rfl rfl rfl rfl rfl rfl λa h=>z1m h rfl rfl rfl rfl rfl rfl rfl rfl λa h=>z1m h rfl rfl rfl rfl rfl rfl rfl rfl λa h=>z1m h rfl rfl rfl rfl rfl rfl rfl rfl λa h=>z3i h rfl rfl rfl rfl λa h=>?_;refine z5n h rfl rfl λa h=>wpQuiet_nil ?_;intro w5 q5;refine bk (h.sub (L':=[(4,_)]) (.cons rfl .nil)) (tn (rt (r1 results138 rfl ?_)));exact⟨_,rfl,by first|exact congrArg Value.bool (decide_eq_decide.2 (by rw[z2f];omega))|exact congrArg Value.bool (decide_eq_false (by rw[z2f];omega)).symm|exact congrArg Value.bool (decide_eq_true (by rw[z2f];omega)).symm,(M.n1 q5)⟩
theorem v8r (u:Value)(A:Option Addr)(m c:Nat)(w0:World)(J:m=0):Rets prog 198 #[u,.slice A m c] w0 λr w'=>r=u/\Fr [] w0 w':=by
 refine we [(0,u),(1,.slice A m c)] func198 rfl ntmps198 rfl (.c2 rfl rfl) (sr (asg rfl (nn (sq (sr (mv rfl (lnS rfl underlying54 (mv rfl (nn (bl ?_))))))))));refine lpK (ι:=Nat) [(0,_),(8,_),(9,_)] (λk=>[(10,.int .i64 (k:Int))]) (λk w'=>Fr [] w0 w'/\k<=m) (λk=>m-k) 0 (.c4 rfl rfl rfl rfl) ⟨Fr.refl _ _,Nat.zero_le _⟩ ?_;rintro k w1 ⟨D,I⟩;refine kpC [(0,_),(8,_),(9,_),(10,_)] (.c4 rfl rfl rfl rfl) (sr (lt' rfl rfl ?_));rw[show decide ((k:Int)<(m:Int))=false from decide_eq_false (by omega)];refine nn (sq (cf rfl (ex (te (te (xh (tn (sr (mv rfl (asg rfl (kpL [(4,_)] (.cons rfl .nil) (nn (rt (r1 results198 rfl ?_))))))))))))));exact⟨_,rfl,rfl,D⟩
theorem u1x (base:Nat)(u v:Value)(l:List Pa)(wS w0:World)(I:Lw.Own z1r 100 base w0 u [])(M:Sl z1r wS v l)(J:Sl z1r w0 v l)(hb:wS.heap.size<=base)(D:base<=w0.heap.size)(hn:l.length<=100000):Rets prog 198 #[u,v] w0 λr w'=>∃S,Lw.Own z1r 100 base w' r (z4s [] l)/\(∀k∈S,base<=k)/\Fr S w0 w':=by
 by_cases e:l=[];subst e;obtain⟨A,c,rfl,_⟩:=J.form;refine Rets.mono (v8r u A _ c w0 rfl) ?_;rintro r w' ⟨rfl,hf⟩;exact⟨[],I.ext hf,by simp,hf⟩;exact v5x base u v [] l w0 I J (λk O=>by have:=M.blk e k O;omega) D (by simpa using hn)
theorem v2b (v:Value)(l:List Pa)(w0:World)(J:Sl z1r w0 v l)(hl:l.length<=50000):Rets prog 251 #[v] w0 λr w'=>∃A,r=.slice A (z4s [] l).length (z4s [] l).length/\Fr [] w0 w':=by
 obtain⟨A,c,rfl,a1,hM,hA⟩:=id J;clear hA;unfold maxLen at hM;refine we [(0,.slice A l.length c)] func251 rfl ntmps251 rfl (.cons rfl .nil) ?_;have I:=J;refine sr (asg rfl (nn (sr (mv rfl (lnS rfl underlying54 (z1f (m:=0) (c:=l.length) (pa0) rfl rfl z8x y6p rfl (λg5 w1 a2 ho U z1=>(mv rfl ?_))))))));replace J:=I.ext U;refine cl (ev2 rfl rfl) (mkC func198) (u1x g5 _ _ l w0 _ (by simpa using ho) I J (by omega) (by omega) (by omega)) rfl ?_;rintro V7 w2 ⟨S7,D,M,q2⟩;have O:=y0s l [];obtain⟨A7,c7,rfl,a0⟩:=D.sl.form;refine cl (ev1 rfl) (mkC func199) (z9m _ _ _ D.sl (by simp only[List.length_nil]at O;omega)) rfl ?_;rintro _ w3 ⟨Z,rfl,a4,q3⟩;refine asg rfl (kpL [(2,_)] (.cons rfl .nil) (nn (rt (r1 results251 rfl ?_))));exact⟨_,rfl,Z,rfl,((U.step q2 (λk hk a3=>absurd (M k hk) (by omega))).n1 q3)⟩
theorem y3e (v:Value)(ts:List TQ)(w0:World)(I:Sl z3y w0 v ts)(Z:TabAt w0 ts)(hN:z4v (z2a ts)<=100000):Rets prog 151 #[v] w0 λr w'=>r=.int .i64 (z4v (z2a ts):Int)/\Fr [] w0 w':=by
 obtain⟨A,c,rfl,a2,hM,hA⟩:=id I;clear hA;unfold maxLen at hM;have J:=z5o Z;refine we [(0,.slice A ts.length c)] func151 rfl ntmps151 rfl (.cons rfl .nil) ?_;have M:=I;have a3:=Z;refine sr (asg rfl (nn (sr (asg rfl (nn (sq (sr (mv rfl (lnS rfl underlying35 (mv rfl (nn (bl ?_))))))))))));refine lpK (ι:=Nat) [(6,_),(7,_)] (λi=>[(8,.int .i64 (i:Int)),(3,.int .i64 (u4e ts i:Int))]) (λi w'=>Fr [] w0 w'/\i<=ts.length) (λi=>ts.length-i) 0 (.c4 rfl rfl rfl rfl) ⟨Fr.refl _ _,Nat.zero_le _⟩ ?_;rintro i w1 ⟨O,hi⟩;refine kpC [(6,_),(7,_),(8,_),(3,_)] (.c4 rfl rfl rfl rfl) (sr (lt' rfl rfl (nn (sq (cd rfl (λc0=>?_) (λc0=>?_))))));have a4:=J i;have a0:=v7j (ts:=ts) (i:=i) (by omega);have a1:=u9y ts (i+1);refine sk (tn (sq (bl (sr ?_))));replace I:=M.ext O;refine z1a (tq0) rfl I rfl y6e z1d (λU D=>?_);refine z1g rfl (D _ I) x2c (asg rfl (nn (rg (mv rfl (mv rfl (lnS rfl underlying46 (z0v rfl rfl (wi6 (by omega)) (asg rfl (nl (bn' (tn (rg (z0v rfl rfl (wi6 (by omega)) (mv rfl (nl ?_)))))))))))))));exact lpE (i+1) (.c4 rfl rfl rfl (congrArg (λz=>some (Value.int .i64 z)) (by omega))) ⟨O,by omega⟩ (by omega);obtain rfl:i=ts.length:=by omega
 refine ex (te (te (xh (tn (sr (mv rfl (asg rfl (kpL [(2,_)] (.cons rfl .nil) (nn (rt (r1 results151 rfl ?_)))))))))));exact⟨_,rfl,by rw[v8f],O⟩
theorem z6j:ElemOf prog 37 87 z1k 16:=ElemOf.mk' (z:=(.agg #[.int .u8 0,.int .i64 0])) underlying37 (by kernel_rfl) rfl
theorem x2k:z0z prog 89 0 0:=λ_ _=>by kernel_rfl
theorem z6n:z0z prog 89 2 2:=λ_ _=>by kernel_rfl
theorem z8g:z0z prog 89 3 3:=λ_ _=>by kernel_rfl
theorem z5t:z2c prog 37:=λ_=>by kernel_rfl
theorem y1u:z1p prog 87 2:=λ_=>by kernel_rfl
theorem y3v (w:World):(zeroValue 87).run prog w=.ok (.agg #[(.int .u8 0),(.int .i64 0)]) w:=by kernel_rfl
set_option maxHeartbeats 1000000 in
theorem u1f (q:LpQ)(v:Value)(ts:List TQ)(w0:World)(hs:Sl z3y w0 v ts)(hk:TabAt w0 ts)(hl:ts.length=6)(M:LpAt w0 q)(hv:y4v (z2a ts) q.p):Rets prog 229 #[v,.agg #[.int .u8 q.b,.bool q.nw,.slice q.th.1 q.th.2.1 q.th.2.2,.slice q.pa.1 q.pa.2.1 q.pa.2.2]] w0 λr w'=>r=.bool true/\Fr [] w0 w':=by
 obtain⟨A,c,rfl,b6,hM,hA⟩:=id hs;clear hA;unfold maxLen at hM;have d7:=z5o hk;have d0:=z1x M.1;have d1:=z1x M.2;have hb:q.b=0\/q.b=1:=hv.1;have d4:q.ths.length<=4:=hv.2.1.1;have d5:q.pas.length<=4096:=hv.2.1.2;have b2:∀p∈q.pas,z5x p.d:=hv.2.2.2.1;have d6:(z4s [] q.pas).length=q.pas.length:=hv.2.2.2.2;have a8:∀i,i<q.ths.length->z4e (z2a ts) (q.ths.getD i id0):=λi hi=>hv.2.2.1 _ (List.mem_append_left _ (z0u hi));have a7:∀i,i<q.pas.length->z4e (z2a ts) (q.pas.getD i pa0).id:=λi hi=>hv.2.2.1 _ (List.mem_append_right _ (List.mem_map_of_mem (z0u hi)));have d3:=z6i ts;refine we [(0,.slice A ts.length c),(1,.agg #[.int .u8 q.b,.bool q.nw,.slice q.th.1 q.th.2.1 q.th.2.2,.slice q.pa.1 q.pa.2.1 q.pa.2.2])] func229 rfl ntmps229 rfl (.c2 rfl rfl) ?_;have a9:=hs;have a6:=hk;have a0:=M;refine sr (bx rfl rfl rfl (λg3 w1 b7 D Z z1=>(asg rfl (nn (sq (sq ?_))))));refine rbo (r:=16) (L':=[(0,_),(3,_)]) (((q.b≠0)/\(q.b≠1))) (.c2 rfl rfl) ?_ ?_;refine fad rfl x2k (z0g rfl D rfl x1z (ne' rfl rfl (mv rfl (gs 12 rfl (λg0=>?_) (λg0=>?_)))));exact gY rfl (fad rfl x2k (gY rfl (z0g rfl D rfl x1z (gY rfl (ne' rfl rfl (pkt rfl rfl (rbe rfl (.c2 rfl rfl))))))));exact gN rfl rfl (gN rfl rfl (gN rfl rfl (pkf rfl rfl (rbe rfl (.c2 rfl rfl)))));refine tn (cd rfl (λc0=>?_) (λc0=>?_));refine sr (asg rfl (nn (rt (tr (r1 results229 rfl ?_)))));exfalso;omega;refine sk (tn (sq (sq ?_)));refine rbo (r:=26) (L':=[(0,_),(3,_)]) (((4<(q.th.2.1:Int))\/(4096<(q.pa.2.1:Int)))) (.c2 rfl rfl) ?_ ?_;refine fad rfl z6n (z0g rfl D rfl z5t (lnS rfl underlying37 (gt' rfl rfl (mv rfl (gs 21 rfl (λg1=>?_) (λg1=>?_))))));exact gN rfl rfl (gN rfl rfl (gN rfl rfl (gN rfl rfl (pkt rfl rfl (rbe rfl (.c2 rfl rfl))))));exact gY rfl (fad rfl z8g (gY rfl (z0g rfl D rfl y3f (gY rfl (lnS rfl underlying54 (gY rfl (gt' rfl rfl (pkf rfl rfl (rbe rfl (.c2 rfl rfl))))))))));refine tn (cd rfl (λc1=>?_) (λc1=>?_));refine sr (asg rfl (nn (rt (tr (r1 results229 rfl ?_)))));exfalso;omega;refine sk (tn (sq (sr (fad rfl z6n (z0g rfl D rfl z5t (lnS rfl underlying37 (mv rfl (nn (bl ?_)))))))));refine lpK (ι:=Nat) [(0,_),(3,_),(28,_),(29,_)] (λi=>[(30,.int .i64 (i:Int))]) (λi w'=>Fr [] w1 w'/\i<=q.ths.length) (λi=>q.ths.length-i) 0 (.c5 rfl rfl rfl rfl rfl) ⟨Fr.refl _ _,Nat.zero_le _⟩ ?_;rintro i w2 ⟨O,hi⟩;have z2:=O.size;refine kpC [(0,_),(3,_),(28,_),(29,_),(30,_)] (.c5 rfl rfl rfl rfl rfl) (sr (lt' rfl rfl (nn (sq (cd rfl (λc2=>?_) (λc2=>?_))))));refine sk (tn (sq (bl (sr ?_))));replace M:=a0.ext (Z.n1 O);refine z1a (id0) rfl M.1 rfl z6j z1d (λb3 a4=>?_);refine z1i rfl (a4 _ M.1) z3o (al y3v rfl rfl (λg6 w3 b8 a1 q3 z3=>(z0j (vs:=[_,_]) rfl rfl a1 y1u (λw4 a1 q4 z4=>(nn (sr (mv rfl (z0k rfl a1 z3o ?_))))))));replace hs:=a9.ext (Z.z3 O q3 q4);replace hk:=a6.ext (Z.z3 O q3 q4);refine cl (ev2 rfl rfl) (mkC func250) (v5r (q.ths.getD i id0) _ _ _ hs hk (by omega) (by have h:=a8 i (by omega);have:=h.1;have:=h.2.1;omega)) rfl ?_;rintro _ w5 ⟨rfl,q5⟩;have z5:=q5.size;refine nt' rfl (nn (cd rfl (λc3=>?_) (λc3=>?_)));refine sr (asg rfl (kpL [(4,_)] (.cons rfl .nil) (nn (rt (rb (tr (tr (rb (tr (r1 results229 rfl ?_))))))))));exact absurd (a8 i (by omega)) (by simpa using c3);refine sk (bn' (tn (rg (z0v rfl rfl (wi6 (by omega)) (mv rfl (nl ?_))))));exact lpE (i+1) (.c5 rfl rfl rfl rfl rfl) ⟨(O.z3 q3 q4 q5),by omega⟩ (by omega);obtain rfl:i=q.ths.length:=by omega
 refine ex (te (te (xh (tn (sq (sr (fad rfl z8g ?_)))))));replace D:=D.ext O;refine z0g rfl D rfl y3f (lnS rfl underlying54 (mv rfl (nn (bl ?_))));refine lpK (ι:=Nat) [(0,_),(3,_),(40,_),(41,_)] (λi=>[(42,.int .i64 (i:Int))]) (λi w'=>Fr [] w2 w'/\i<=q.pas.length) (λi=>q.pas.length-i) 0 (.c5 rfl rfl rfl rfl rfl) ⟨Fr.refl _ _,Nat.zero_le _⟩ ?_;rintro i w6 ⟨q6,hi⟩;have z6:=q6.size;refine kpC [(0,_),(3,_),(40,_),(41,_),(42,_)] (.c5 rfl rfl rfl rfl rfl) (sr (lt' rfl rfl (nn (sq (cd rfl (λc4=>?_) (λc4=>?_))))));have d9:(q.pas.getD i pa0).d=0\/(q.pas.getD i pa0).d=1:=b2 _ (z0u (by omega));have c9:=a7 i (by omega);refine sk (tn (sq (bl (sr ?_))));replace M:=a0.ext (Z.n2 O q6);refine z1a (pa0) rfl M.2 rfl z8x z1d (λb4 a5=>?_);refine z1i rfl (a5 _ M.2) z6k (al y6p rfl rfl (λg8 w7 b9 J q7 z7=>(z0j (vs:=[_,_,_,_]) rfl rfl J x0a (λw8 J q8 z8=>(nn (sq ?_))))));refine y6f (r:=60) (L':=[(0,_),(3,_),(40,_),(41,_),(42,_)]) (((¬z4e (z2a ts) (q.pas.getD i pa0).id)\/(((q.pas.getD i pa0).d≠0)/\((q.pas.getD i pa0).d≠1)))) (.c5 rfl rfl rfl rfl rfl) ?_ ?_;refine mv rfl (fad rfl y9i (z1s (vs:=[_,_]) rfl J z3o rfl ?_));replace hs:=a9.ext (Z.z4 O q6 q7 q8);replace hk:=a6.ext (Z.z4 O q6 q7 q8);refine cl (ev2 rfl rfl) (mkC func250) (v5r (q.pas.getD i pa0).id _ _ _ hs hk (by omega) (by have h:=a7 i (by omega);have:=h.1;have:=h.2.1;omega)) rfl ?_;rintro _ w9 ⟨rfl,q9⟩;have z9:=q9.size;refine nt' rfl (mv rfl (gs 51 rfl (λg2=>?_) (λg2=>?_)));exact gN rfl rfl (gN rfl rfl (gN rfl rfl (gN rfl rfl (gS rfl rfl (gS rfl rfl (gS rfl rfl (gN rfl rfl (pkt rfl rfl (z6y rfl (.c5 rfl rfl rfl rfl rfl) q9)))))))));refine gY rfl (fad rfl z7a (gY rfl ?_));replace J:=J.ext q9;refine z0g rfl J rfl y9j (gY rfl (ne' rfl rfl (gY rfl (mv rfl (gs 55 rfl (λg3=>?_) (λg3=>?_))))));exact gY rfl (fad rfl z7a (gY rfl (z0g rfl J rfl y9j (gY rfl (ne' rfl rfl (gY rfl (pkt rfl rfl (pkf rfl rfl (z6y rfl (.c5 rfl rfl rfl rfl rfl) q9)))))))));exact gN rfl rfl (gN rfl rfl (gN rfl rfl (gY rfl (pkf rfl rfl (pkf rfl rfl (z6y rfl (.c5 rfl rfl rfl rfl rfl) q9))))));intro e0 b0;have e2:=b0.size;refine tn (cd rfl (λc5=>?_) (λc5=>?_));refine sr (asg rfl (kpL [(4,_)] (.cons rfl .nil) (nn (rt (rb (tr (tr (rb (tr (r1 results229 rfl ?_))))))))));exact(by exfalso;first|omega|(simp_all;done)|(simp_all;omega));refine sk (bn' (tn (rg (z0v rfl rfl (wi6 (by omega)) (mv rfl (nl ?_))))));exact lpE (i+1) (.c5 rfl rfl rfl rfl rfl) ⟨(q6.z3 q7 q8 b0),by omega⟩ (by omega);obtain rfl:i=q.pas.length:=by omega
 refine ex (te (te (xh (tn (sq ?_)))));replace M:=a0.ext (Z.n2 O q6);intro a h;refine z0i none (λwb w'=>Fr [] wb w') z2o ?_;intro b1 U;have e3:=U.size;replace M:=M.ext U;replace D:=D.ext (q6.n1 U);have hC:Fr [] b1 b1:=Fr.refl _ _;have a3:=M;have I:=D;refine z0c 0 h rfl z8g rfl λa h=>z0l 1 h rfl (λ_ hw=>I.ext hw) rfl y3f rfl λa h=>z0c 4 h rfl z8g rfl λa h=>z0l 5 h rfl (λ_ hw=>I.ext hw) rfl y3f rfl λa h=>z8f 6 hC h wn rfl underlying54 rfl λa h=>z0d 2 rfl ?_;refine z0n h (z0a rfl z0f) (mkC func251) (v2b _ q.pas _ M.2 (by omega)) ?_;rintro _ e1 ⟨b5,rfl,a2⟩ a h;have e4:=a2.size;replace hC:=hC.next a2;refine z0b ?_;refine z8f 3 hC h wn rfl underlying54 rfl λa h=>v8k 7 hC h wn rfl rfl rfl rfl λa h=>z0d 8 rfl ?_;refine z0r h rfl λa h=>?_;refine z0b ?_;refine z0q ?_;clear hC a3 I;refine bk (h.sub (L':=[(4,_)]) (.cons rfl .nil)) (tn (rt (r1 results229 rfl ?_)));exact⟨_,rfl,congrArg Value.bool (decide_eq_true (by omega)),(Z.n4 O q6 U a2)⟩
theorem x7p:z3u prog 89 4:=⟨λ_=>by kernel_rfl,λ_=>by kernel_rfl⟩
theorem x8g:ElemOf prog 46 89 z4i 56:=ElemOf.mk' (z:=(.agg #[.int .u8 0,.bool false,.slice none 0 0,.slice none 0 0])) underlying46 (by kernel_rfl) rfl
theorem x8c:z0z prog 89 1 1:=λ_ _=>by kernel_rfl
theorem v8x:z1p prog 89 4:=λ_=>by kernel_rfl
theorem v7p (w:World):(zeroValue 89).run prog w=.ok (.agg #[(.int .u8 0),(.bool false),(.slice none 0 0),(.slice none 0 0)]) w:=by kernel_rfl
set_option maxHeartbeats 1000000 in
theorem v6x (v:Value)(ts:List TQ)(w0:World)(O:Sl z3y w0 v ts)(I:TabAt w0 ts)(hl:ts.length=6)(hv:TabOk (z2a ts)):Rets prog 189 #[v] w0 λr w'=>r=.int .i64 0/\Fr [] w0 w':=by
 obtain⟨A,c,rfl,a7,hM,hA⟩:=id O;clear hA;unfold maxLen at hM;have a4:=z5o I;refine we [(0,.slice A ts.length c)] func189 rfl ntmps189 rfl (.cons rfl .nil) ?_;have a1:=O;have M:=I;refine sr (asg rfl (nn (sq (sr (mv rfl (lnS rfl underlying35 (mv rfl (nn (bl ?_)))))))));refine lpK (ι:=Nat) [(0,_),(7,_),(8,_)] (λy=>[(9,.int .i64 (y:Int))]) (λy w'=>Fr [] w0 w'/\y<=ts.length) (λy=>ts.length-y) 0 (.c4 rfl rfl rfl rfl) ⟨Fr.refl _ _,Nat.zero_le _⟩ ?_;rintro y w1 ⟨J,hy⟩;have z1:=J.size;refine kpC [(0,_),(7,_),(8,_),(9,_)] (.c4 rfl rfl rfl rfl) (sr (lt' rfl rfl (nn (sq (cd rfl (λc0=>?_) (λc0=>?_))))));replace I:=M.ext J;have a9:=a4 y;have a2:=(I _ (z0u (d:=tq0) (i:=y) (by omega))).1.len_le;unfold maxLen at a2;refine sk (tn (sq (bl (sr ?_))));replace O:=a1.ext J;refine z1a (tq0) rfl O rfl y6e z1d (λa5 Z=>?_);refine z1g rfl (Z _ O) x2c (asg rfl (nn (sr (mv rfl (lnS rfl underlying46 (mv rfl (nn (bl ?_))))))));refine lpK (ι:=Nat) [(0,_),(7,_),(8,_),(9,_),(13,_),(14,_)] (λn=>[(15,.int .i64 (n:Int))]) (λn w'=>Fr [] w1 w'/\n<=(ts.getD y tq0).2.length) (λn=>(ts.getD y tq0).2.length-n) 0 (.c7 rfl rfl rfl rfl rfl rfl rfl) ⟨Fr.refl _ _,Nat.zero_le _⟩ ?_;rintro n w2 ⟨U,hn⟩;have z2:=U.size;refine kpC [(0,_),(7,_),(8,_),(9,_),(13,_),(14,_),(15,_)] (.c7 rfl rfl rfl rfl rfl rfl rfl) (sr (lt' rfl rfl (nn (sq (cd rfl (λc1=>?_) (λc1=>?_))))));have a3:n=0->((ts.getD y tq0).2.getD n lq0).nw=true:=λe=>by
  have h:=(hv.rts y (by omega) n (by rw[z2s];omega)).2 e;rw[z7b]at h;exact h
 refine sk (tn (sq (bl (sr (mv rfl ?_)))));replace I:=M.ext (J.n1 U);refine z1a (lq0) rfl (I _ (z0u (d:=tq0) (i:=y) (by omega))).1 rfl x8g z1d (λa6 a0=>?_);refine z1i rfl (a0 _ (I _ (z0u (d:=tq0) (i:=y) (by omega))).1) x7p (al v7p rfl rfl (λg6 w3 a8 D q3 z3=>?_));refine asg rfl (z0j (vs:=[_,_,_,_]) rfl rfl D v8x (λw4 D q4 z4=>?_) (h1:=(by first|(simp[Value.oneCell',S];done)|exact z4i.one ((ts.getD y tq0).2.getD n lq0))));refine nn (sq ?_);refine y6f (r:=32) (L':=[(0,_),(7,_),(8,_),(9,_),(13,_),(14,_),(15,_)]) (((¬(0:Int)=0)\/(((n:Int)=0)/\(¬((ts.getD y tq0).2.getD n lq0).nw=true)))) (.c7 rfl rfl rfl rfl rfl rfl rfl) ?_ ?_;refine mv rfl (z0k rfl D x7p ?_);replace O:=a1.ext (J.z3 U q3 q4);replace I:=M.ext (J.z3 U q3 q4);refine cl (ev2 rfl rfl) (mkC func229) (u1f ((ts.getD y tq0).2.getD n lq0) _ _ _ O I hl (z7i I (by omega) (by omega)) (by have h:=(hv.rts y (by omega) n (by rw[z2s];omega)).1;rw[z7b]at h;exact h)) rfl ?_;rintro _ w5 ⟨rfl,q5⟩;have z5:=q5.size;refine nt' rfl (mv rfl (gs 24 rfl (λg0=>?_) (λg0=>?_)));exact gN rfl rfl (gN rfl rfl (gN rfl rfl (gS rfl rfl (gS rfl rfl (gS rfl rfl (gN rfl rfl (pkt rfl rfl (z6y rfl (.c7 rfl rfl rfl rfl rfl rfl rfl) q5))))))));refine gY rfl (mv rfl (gY rfl (eq' rfl rfl (gY rfl (mv rfl (gs 27 rfl (λg1=>?_) (λg1=>?_)))))));refine gY rfl (fad rfl x8c (gY rfl ?_));replace D:=D.ext q5;exact z0g rfl D rfl na4 (gY rfl (nt' rfl (gY rfl (pkt rfl rfl (pkf rfl rfl (z6y rfl (.c7 rfl rfl rfl rfl rfl rfl rfl) q5))))));exact gN rfl rfl (gN rfl rfl (gN rfl rfl (gY rfl (pkf rfl rfl (pkf rfl rfl (z6y rfl (.c7 rfl rfl rfl rfl rfl rfl rfl) q5))))));intro w6 q6;have z6:=q6.size;refine tn (cd rfl (λc2=>?_) (λc2=>?_));refine sr (asg rfl (kpL [(2,_)] (.cons rfl .nil) (nn (rt (rb (tr (tr (rb (rb (tr (tr (rb (tr (r1 results189 rfl ?_))))))))))))));rcases c2 with h|h
 exact absurd rfl h;exact absurd (a3 (by omega)) h.2;refine sk (bn' (tn (rg (z0v rfl rfl (wi6 (by omega)) (mv rfl (nl ?_))))));exact lpE (n+1) (.c7 rfl rfl rfl rfl rfl rfl rfl) ⟨(U.z3 q3 q4 q6),by omega⟩ (by omega);obtain rfl:n=(ts.getD y tq0).2.length:=by omega
 refine ex (te (te (xh (bn' (tn (rg (z0v rfl rfl (wi6 (by omega)) (mv rfl (nl ?_)))))))));exact lpE (y+1) (.c4 rfl rfl rfl rfl) ⟨(J.n1 U),by omega⟩ (by omega);obtain rfl:y=ts.length:=by omega
 refine ex (te (te (xh (tn (sr (asg rfl (nn (rt (r1 results189 rfl ?_)))))))));exact⟨_,rfl,rfl,J⟩
theorem j8b (p q:LId)(w:World):(Op.equal 87 (idV p) (idV q)).run prog w=.ok (decide (p=q)) w:=by
 have h:=(eqId p q (.tmp 0) (.tmp 0) w).2.2.1;have e:(binOp .eql 87 (idV p) (idV q)).run prog w=((Op.equal 87 (idV p) (idV q)).run prog w).andThen λb w'=>.ok (.bool b) w':=by
  have D:binOp .eql 87 (idV p) (idV q)=(Op.equal 87 (idV p) (idV q) >>= λb=>pure (.bool b)):=by
   unfold binOp idV;simp only
  rw[D];simp only[Sem.run_bind,Sem.run_pure]
 rw[e]at h;generalize (Op.equal 87 (idV p) (idV q)).run prog w=r at h;cases r with
 | ok b w'=>simp only[Result.andThen]at h;cases h;rfl
 | halt x w'=>simp only[Result.andThen]at h;cases h
theorem z5u:KeyLaw prog 87 idV:=KeyLaw.asking underlying87 (λ_ _=>rfl) (λ_ _ _=>by kernel_rfl) j8b (λ_=>by simp[idV,Instr.sameBits])
theorem zvI (w:World):(zeroValue 3).run prog w=.ok (.int .i64 0) w:=by kernel_rfl
set_option maxHeartbeats 1000000 in
theorem u9a (v:Value)(ts:List TQ)(w0:World)(hs:Sl z3y w0 v ts)(M:TabAt w0 ts)(hl:ts.length=6)(hv:TabV (z2a ts)):Rets prog 190 #[v] w0 λr w'=>r=.int .i64 0/\Fr [] w0 w':=by
 obtain⟨A,c,rfl,d3,hM,hA⟩:=id hs;clear hA;unfold maxLen at hM;have b2:=z5o M;refine we [(0,.slice A ts.length c)] func190 rfl ntmps190 rfl (.cons rfl .nil) ?_;have b3:=hs;have a0:=M;refine sr (asg rfl (nn (sr (y7l idV (.int .i64 0) rfl (λJ w1 b9 D q1 z1=>(asg rfl (nn (sq (sr (mv rfl (lnS rfl underlying35 (mv rfl (nn (bl ?_))))))))))))));refine lpK (ι:=Nat) [(3,_),(11,_),(12,_)] (λy=>[(13,.int .i64 (y:Int))]) (λy w'=>Fr [J] w1 w'/\y<=ts.length/\MapZ idV w' J (.int .i64 0) (y8p (z9r (z2a ts) y 0))) (λy=>ts.length-y) 0 (.c4 rfl rfl rfl rfl) ⟨Fr.refl _ _,⟨Nat.zero_le _,D⟩⟩ ?_;rintro y w2 ⟨q2,⟨hy,D⟩⟩;have z2:=q2.size;refine kpC [(3,_),(11,_),(12,_),(13,_)] (.c4 rfl rfl rfl rfl) (sr (lt' rfl rfl (nn (sq (cd rfl (λc0=>?_) (λc0=>?_))))));replace M:=a0.ext (q1.z1 q2);have d7:=b2 y;have a8:=(M _ (z0u (d:=tq0) (i:=y) (by omega))).1.len_le;unfold maxLen at a8;refine sk (tn (sq (bl (sr ?_))));replace hs:=b3.ext (q1.z1 q2);refine z1a (tq0) rfl hs rfl y6e z1d (λb6 a5=>?_);refine z1g rfl (a5 _ hs) x2c (asg rfl (nn (sr (mv rfl (lnS rfl underlying46 (mv rfl (nn (bl ?_))))))));refine lpK (ι:=Nat) [(3,_),(11,_),(12,_),(13,_),(17,_),(18,_)] (λn=>[(19,.int .i64 (n:Int))]) (λn w'=>Fr [J] w2 w'/\n<=(ts.getD y tq0).2.length/\MapZ idV w' J (.int .i64 0) (y8p (z9r (z2a ts) y n))) (λn=>(ts.getD y tq0).2.length-n) 0 (.c7 rfl rfl rfl rfl rfl rfl rfl) ⟨Fr.refl _ _,⟨Nat.zero_le _,D⟩⟩ ?_;rintro n w3 ⟨q3,⟨hn,D⟩⟩;have z3:=q3.size;refine kpC [(3,_),(11,_),(12,_),(13,_),(17,_),(18,_),(19,_)] (.c7 rfl rfl rfl rfl rfl rfl rfl) (sr (lt' rfl rfl (nn (sq (cd rfl (λc1=>?_) (λc1=>?_))))));replace M:=a0.ext (q1.z2 q2 q3);have d6:=z1x (z7i M (y:=y) (n:=n) (by omega) (by omega)).1;have a9:=(z7i M (y:=y) (n:=n) (by omega) (by omega)).1.len_le;unfold maxLen at a9;refine sk (tn (sq (bl (sr (z1a (lq0) rfl (M _ (z0u (d:=tq0) (i:=y) (by omega))).1 rfl x8g z1d (λb7 a6=>?_))))));refine z1i rfl (a6 _ (M _ (z0u (d:=tq0) (i:=y) (by omega))).1) x7p (al v7p rfl rfl (λg7 w4 d4 Z q4 z4=>?_));refine z0j (vs:=[_,_,_,_]) rfl rfl Z v8x (λw5 Z q5 z5=>?_) (h1:=(by first|(simp[Value.oneCell',S];done)|exact z4i.one ((ts.getD y tq0).2.getD n lq0)));refine nn (sr (fad rfl z6n (z0g rfl Z rfl z5t (lnS rfl underlying37 (mv rfl (nn (bl ?_)))))));replace D:=(D.ext q4).fr q5 (by intro k M hb;simp at M hb;omega);refine lpK (ι:=Nat) [(3,_),(11,_),(12,_),(13,_),(17,_),(18,_),(19,_),(24,_),(25,_)] (λk=>[(26,.int .i64 (k:Int))]) (λk w'=>Fr [J] w5 w'/\k<=((ts.getD y tq0).2.getD n lq0).ths.length/\MapZ idV w' J (.int .i64 0) (y8p (z9r (z2a ts) y n++((ts.getD y tq0).2.getD n lq0).ths.take k))) (λk=>((ts.getD y tq0).2.getD n lq0).ths.length-k) 0 (.d8 rfl rfl rfl rfl rfl rfl rfl rfl (.c2 rfl rfl)) ⟨Fr.refl _ _,⟨Nat.zero_le _,by rw[List.take_zero,List.append_nil];exact D⟩⟩ ?_;rintro k w6 ⟨q6,⟨M,D⟩⟩;have z6:=q6.size;refine kpC [(3,_),(11,_),(12,_),(13,_),(17,_),(18,_),(19,_),(24,_),(25,_),(26,_)] (.d8 rfl rfl rfl rfl rfl rfl rfl rfl (.c2 rfl rfl)) (sr (lt' rfl rfl (nn (sq (cd rfl (λc2=>?_) (λc2=>?_))))));have b0:=x8e (k:=k) hv.thr (y:=y) (n:=n) (by omega) (by omega) (by omega);have d1:((z9r (z2a ts) y n++((ts.getD y tq0).2.getD n lq0).ths.take k)).count (((ts.getD y tq0).2.getD n lq0).ths.getD k id0)=0:=by
  have h:=b0;rw[List.count_append,List.count_singleton,if_pos (by simp)]at h;omega
 refine sk (tn (sq (bl (sr ?_))));replace M:=a0.ext (q1.z5 q2 q3 q4 q5 q6);refine z1a (id0) rfl (z7i M (y:=y) (n:=n) (by omega) (by omega)).1 rfl z6j z1d (λb8 a7=>?_);refine z1i rfl (a7 _ (z7i M (y:=y) (n:=n) (by omega) (by omega)).1) z3o (al y3v rfl rfl (λg9 w7 d5 I q7 z7=>?_));refine z0j (vs:=[_,_]) rfl rfl I y1u (λw8 I q8 z8=>?_) (h1:=(by first|(simp[Value.oneCell',S];done)|exact z4i.one ((ts.getD y tq0).2.getD n lq0)));refine nn (sq ?_);replace D:=(D.ext q7).fr q8 (by intro k M hb;simp at M hb;omega);intro a h;refine z0i none (λwb w'=>Fr [J] wb w') z2o ?_;intro w9 q9;have z9:=q9.size;replace D:=D.ext q9;replace I:=I.ext q9;have hC:Fr [J] w9 w9:=Fr.refl _ _;have U:=D;have O:=I;refine z0e 0 h rfl rfl λa h=>z0y 1 h rfl (λ_ hw=>O.fr hw (by intro e;simp at e;omega)) z3o rfl λa h=>z2d 2 4 (by kernel_rfl) rfl rfl ?_ ?_;refine z7h (V:=idV) (z:=(.int .i64 0)) (k:=(((ts.getD y tq0).2.getD n lq0).ths.getD k id0)) (v:=.int .i64 ((((z9r (z2a ts) y n++((ts.getD y tq0).2.getD n lq0).ths.take k)).count (((ts.getD y tq0).2.getD n lq0).ths.getD k id0):Nat):Int)) h rfl rfl D z5u underlying232 zvI rfl rfl λa h=>?_;refine z0b ?_;refine z4u 3 h rfl rfl (by first|exact i6 (by omega)|rfl) rfl λa h=>z0d 4 rfl ?_;have b1:=D.ne_blk I;refine z6u (V:=idV) (z:=(.int .i64 0)) (k:=(((ts.getD y tq0).2.getD n lq0).ths.getD k id0)) h rfl rfl D z5u underlying232 zvI rfl λd9 c9 he a1 e1 a h=>?_;replace D:=he.map;replace I:=I.fr a1 (by intro e;simp at e;omega);replace hC:=hC.step a1 (by simp);refine z0b ?_;refine z0m 5 h rfl rfl rfl λa h=>z0d 6 rfl ?_;refine z4z (V:=idV) (z:=(.int .i64 0)) (k:=(((ts.getD y tq0).2.getD n lq0).ths.getD k id0)) h rfl rfl rfl he ?_;clear h a he D;intro b4 D a2 e2 a h;replace D:MapZ idV b4 J (.int .i64 0) (y8p ((z9r (z2a ts) y n++((ts.getD y tq0).2.getD n lq0).ths.take k)++[(((ts.getD y tq0).2.getD n lq0).ths.getD k id0)])):=by rw[<-y8u];exact D
 replace I:=I.fr a2 (by intro e;simp at e;omega);replace hC:=hC.step a2 (by simp);refine z0b ?_;refine z0q ?_;clear hC U O;refine bk (h.sub (L':=[(3,_),(9,_),(11,_),(12,_),(13,_),(17,_),(18,_),(19,_),(24,_),(25,_),(26,_)]) (.d8 rfl rfl rfl rfl rfl rfl rfl rfl (.c3 rfl rfl rfl))) (tn (sr (mv rfl (z0k rfl I z3o (y4n (V:=idV) (z:=(.int .i64 0)) (k:=(((ts.getD y tq0).2.getD n lq0).ths.getD k id0)) (v:=.int .i64 ((((z9r (z2a ts) y n++((ts.getD y tq0).2.getD n lq0).ths.take k)++[(((ts.getD y tq0).2.getD n lq0).ths.getD k id0)]).count (((ts.getD y tq0).2.getD n lq0).ths.getD k id0):Nat):Int)) rfl rfl D z5u underlying232 zvI rfl rfl (gt' rfl rfl (nn (cd rfl (λc3=>?_) (λc3=>?_)))))))));refine sr (asg rfl (kpL [(2,_)] (.cons rfl .nil) (nn (rt (rb (tr (tr (rb (rb (tr (tr (rb (rb (tr (tr (rb (tr (r1 results190 rfl ?_))))))))))))))))));exfalso;omega;refine sk (bn' (tn (rg (z0v rfl rfl (wi6 (by omega)) (mv rfl (nl ?_))))));exact lpE (k+1) (.d8 rfl rfl rfl rfl rfl rfl rfl rfl (.c2 rfl rfl)) ⟨((Fr.refl [J] _).z6 q6 q7 q8 q9 a1 a2),⟨by omega,by rw[z6g id0 (by omega),<-List.append_assoc];exact D⟩⟩ (by omega);have b1:=D.ne_blk I;refine z6u (V:=idV) (z:=(.int .i64 0)) (k:=(((ts.getD y tq0).2.getD n lq0).ths.getD k id0)) h rfl rfl D z5u underlying232 zvI rfl λe0 d0 he a3 e3 a h=>?_;replace D:=he.map;replace I:=I.fr a3 (by intro e;simp at e;omega);replace hC:=hC.step a3 (by simp);refine z0b ?_;refine z0m 5 h rfl rfl rfl λa h=>z0d 2 rfl ?_;refine z7h (V:=idV) (z:=(.int .i64 0)) (k:=(((ts.getD y tq0).2.getD n lq0).ths.getD k id0)) (v:=.int .i64 ((((z9r (z2a ts) y n++((ts.getD y tq0).2.getD n lq0).ths.take k)).count (((ts.getD y tq0).2.getD n lq0).ths.getD k id0):Nat):Int)) h rfl rfl D z5u underlying232 zvI rfl rfl λa h=>?_;refine z0b ?_;refine z4u 3 h rfl rfl (by first|exact i6 (by omega)|rfl) rfl λa h=>z0d 6 rfl ?_;refine z4z (V:=idV) (z:=(.int .i64 0)) (k:=(((ts.getD y tq0).2.getD n lq0).ths.getD k id0)) h rfl rfl rfl he ?_;clear h a he D;intro b5 D a4 e4 a h;replace D:MapZ idV b5 J (.int .i64 0) (y8p ((z9r (z2a ts) y n++((ts.getD y tq0).2.getD n lq0).ths.take k)++[(((ts.getD y tq0).2.getD n lq0).ths.getD k id0)])):=by rw[<-y8u];exact D
 replace I:=I.fr a4 (by intro e;simp at e;omega);replace hC:=hC.step a4 (by simp);refine z0b ?_;refine z0q ?_;clear hC U O;refine bk (h.sub (L':=[(3,_),(9,_),(11,_),(12,_),(13,_),(17,_),(18,_),(19,_),(24,_),(25,_),(26,_)]) (.d8 rfl rfl rfl rfl rfl rfl rfl rfl (.c3 rfl rfl rfl))) (tn (sr (mv rfl (z0k rfl I z3o (y4n (V:=idV) (z:=(.int .i64 0)) (k:=(((ts.getD y tq0).2.getD n lq0).ths.getD k id0)) (v:=.int .i64 ((((z9r (z2a ts) y n++((ts.getD y tq0).2.getD n lq0).ths.take k)++[(((ts.getD y tq0).2.getD n lq0).ths.getD k id0)]).count (((ts.getD y tq0).2.getD n lq0).ths.getD k id0):Nat):Int)) rfl rfl D z5u underlying232 zvI rfl rfl (gt' rfl rfl (nn (cd rfl (λc3=>?_) (λc3=>?_)))))))));refine sr (asg rfl (kpL [(2,_)] (.cons rfl .nil) (nn (rt (rb (tr (tr (rb (rb (tr (tr (rb (rb (tr (tr (rb (tr (r1 results190 rfl ?_))))))))))))))))));exfalso;omega;refine sk (bn' (tn (rg (z0v rfl rfl (wi6 (by omega)) (mv rfl (nl ?_))))));exact lpE (k+1) (.d8 rfl rfl rfl rfl rfl rfl rfl rfl (.c2 rfl rfl)) ⟨((Fr.refl [J] _).z6 q6 q7 q8 q9 a3 a4),⟨by omega,by rw[z6g id0 (by omega),<-List.append_assoc];exact D⟩⟩ (by omega);obtain rfl:k=((ts.getD y tq0).2.getD n lq0).ths.length:=by omega
 rw[List.take_length]at D;refine ex (te (te (xh (bn' (tn (rg (z0v rfl rfl (wi6 (by omega)) (mv rfl (nl ?_)))))))));exact lpE (n+1) (.c7 rfl rfl rfl rfl rfl rfl rfl) ⟨((Fr.refl [J] _).z4 q3 q4 q5 q6),⟨by omega,by rw[y7u (by omega)];exact D⟩⟩ (by omega);obtain rfl:n=(ts.getD y tq0).2.length:=by omega
 refine ex (te (te (xh (bn' (tn (rg (z0v rfl rfl (wi6 (by omega)) (mv rfl (nl ?_)))))))));exact lpE (y+1) (.c4 rfl rfl rfl rfl) ⟨((Fr.refl [J] _).z2 q2 q3),⟨by omega,by rw[y7s (by omega)];exact D⟩⟩ (by omega);obtain rfl:y=ts.length:=by omega
 refine ex (te (te (xh (tn (sr (asg rfl (nn (rt (r1 results190 rfl ?_)))))))));exact⟨_,rfl,rfl,(q1.z1 q2)⟩
theorem v3c (q:LpQ)(n:Int)(w0:World)(J:LpAt w0 q)(h0:0<=n)(hn:n.toNat<(z4l q.p).length)(hb:q.ths.length<=4/\q.pas.length<=4096):Rets prog 230 #[.agg #[.int .u8 q.b,.bool q.nw,.slice q.th.1 q.th.2.1 q.th.2.2,.slice q.pa.1 q.pa.2.1 q.pa.2.2],.int .i64 n] w0 λr w'=>r=.agg #[.int .u8 ((z4l q.p).getD n.toNat id0).y,.int .i64 ((z4l q.p).getD n.toNat id0).n]/\Fr [] w0 w':=by
 have a5:=z1x J.1;have a6:=z1x J.2;have a0:=J.1.len_le;unfold maxLen at a0;have a7:=x8m q;refine we [(0,.agg #[.int .u8 q.b,.bool q.nw,.slice q.th.1 q.th.2.1 q.th.2.2,.slice q.pa.1 q.pa.2.1 q.pa.2.2]),(1,.int .i64 n)] func230 rfl ntmps230 rfl (.c2 rfl rfl) ?_;have M:=J;refine sr (bx rfl rfl rfl (λg2 w1 a3 D q1 z1=>(al y3v rfl rfl (λg4 w2 a4 I Z z2=>(nn (sq (sr (mv rfl (fad rfl z6n ?_)))))))));replace D:=D.ext Z;refine z0g rfl D rfl z5t (lnS rfl underlying37 (lt' rfl rfl (nn (cd rfl (λc0=>?_) (λc0=>?_)))));refine sr (fad rfl z6n (z0g rfl D rfl z5t (mv rfl ?_)));replace J:=M.ext (q1.n1 Z);refine z1a (p:=n.toNat) (id0) rfl J.1 rfl z6j (by omega) (λa1 O=>?_);refine z1i rfl (O _ J.1) z3o (z0j (vs:=[_,_]) rfl rfl I y1u (λw3 I q3 z3=>?_) (h1:=(by first|(simp[Value.oneCell',S];done)|exact z1k.one _)));refine kpL [(4,_)] (.cons rfl .nil) (nn (rt (tr (rC results230 rfl I z3o  ?_))));exact⟨_,rfl,by rw[u7w (by omega)],(q1.z2 Z q3)⟩;refine sk (tn (sr (fad rfl z8g (z0g rfl D rfl y3f (mv rfl (fad rfl z6n (z0g rfl D rfl z5t (lnS rfl underlying37 (z2u rfl rfl (wi6 (by omega)) ?_)))))))));replace J:=M.ext (q1.n1 Z);refine z1a (p:=(n.toNat-q.ths.length)) (pa0) rfl J.2 rfl z8x (by omega) (λa2 U=>?_);refine fad rfl y9i (z1i rfl (x9x (vs:=[_,_]) (U _ J.2) rfl) z3o (z0j (vs:=[_,_]) rfl rfl I y1u (λw4 I q4 z4=>?_) (h1:=(by first|(simp[Value.oneCell',S];done)|exact z1k.one _))));refine kpL [(4,_)] (.cons rfl .nil) (nn (rt (rC results230 rfl I z3o  ?_)));exact⟨_,rfl,by rw[u5h (by omega) hn],(q1.z2 Z q4)⟩
theorem j1p:BuildAt prog 87 [(0,1),(1,1)] [(.int .u8 0),(.int .i64 0)]:=BuildAt.struct underlying87 (λ_=>by kernel_rfl) (λ_=>by kernel_rfl)
theorem y8a:ElemOf prog 85 3 Enc.i64 8:=ElemOf.mk' (z:=(.int .i64 0)) underlying85 (by kernel_rfl) rfl
theorem zv3 (w:World):(zeroValue 3).run prog w=.ok (.int .i64 0) w:=by kernel_rfl
theorem x6r {α β:Type}{E:Enc α}{J:Enc β}{T T' b M:Nat}{w:World}{v I:Value}{l:List α}{l':List β}(h:Lw.Own E T b w v l)(O:Lw.Own J T' M w I l')(U:T'≠T):∀k∈z0x v,k∉z0x I:=λk hk D=>by
 obtain⟨cs,Z⟩:=y5w h k hk
 exact O.neB Z U D
set_option maxHeartbeats 2000000 in
theorem u2m (v:Value)(ts:List TQ)(w0:World)(hs:Sl z3y w0 v ts)(D:TabAt w0 ts)(hl:ts.length=6)(hv:TabV (z2a ts)):Rets prog 191 #[v] w0 λr w'=>∃l,Lw.Own z1k 87 w0.heap.size w' r l/\l.length=z4v (z2a ts)/\Fr [] w0 w':=by
 obtain⟨A,c,rfl,l3,U,hA⟩:=id hs;clear hA;unfold maxLen at U;have i0:=z5o D;have hH:=hv.has;have l4:z4v (z2a ts)<=2048:=hv.ok.cnt;have g7:=z6i ts;refine we [(0,.slice A ts.length c)] func191 rfl ntmps191 rfl (.cons rfl .nil) ?_;have i1:=hs;have g5:=D;refine sr (asg rfl (nn (sr (mv rfl (cl (ev1 rfl) (mkC func151) (y3e _ _ _ hs D (by omega)) rfl ?_)))));rintro _ w1 ⟨rfl,q1⟩;have z1:=q1.size;refine asg rfl (nn (sr (mv rfl (z1f (m:=0) (c:=z4v (z2a ts)) (id0) rfl rfl z6j y3v rfl (λk6 w2 j7 hR q2 z2=>(asg rfl (nn (sr (mv rfl (lnS rfl underlying35 (z1f (m:=ts.length) (c:=ts.length) ((0:Int)) rfl rfl y8a zv3 rfl (λa2 w3 j8 U q3 z3=>(asg rfl (nn (sr (mv rfl (lnS rfl underlying35 (z1f (m:=ts.length) (c:=ts.length) ((0:Int)) rfl rfl y8a zv3 rfl (λZ w4 j9 M q4 z4=>?_)))))))))))))))))));refine asg rfl (nn (sq (bl ?_)));replace hR:=hR.ext (q3.n1 q4);replace U:=U.ext q4;refine lpK (ι:=Value×List Int×List Int×List LId) [(0,_),(3,_),(5,_),(6,_)] (λp=>[(4,p.1)]) (λp w'=>Fr [] w0 w'/\FstI (z2a ts) p.2.1 p.2.2.1 p.2.2.2.length/\Lw.Own z1k 87 w0.heap.size w' p.1 p.2.2.2/\Lw.Own Enc.i64 3 w0.heap.size w' (.slice (some ⟨a2,0,none⟩) ts.length ts.length) p.2.1/\Lw.Own Enc.i64 3 w0.heap.size w' (.slice (some ⟨Z,0,none⟩) ts.length ts.length) p.2.2.1) (λp=>z4v (z2a ts)-p.2.2.2.length) (_,List.replicate ts.length 0,List.replicate ts.length 0,[]) (.c5 rfl rfl rfl rfl rfl) ⟨(q1.n3 q2 q3 q4),⟨by simp only;rw[hl];exact FstI.init,by simpa using hR.low (by omega),U.low (by omega),M.low (by omega)⟩⟩ ?_;rintro⟨vR,ms,uu,l⟩ w5 ⟨q5,⟨hF,hR,U,M⟩⟩;simp only at hF hR U M;have z5:=q5.size;refine kpC [(0,_),(3,_),(5,_),(6,_),(4,vR)] (.c5 rfl rfl rfl rfl rfl) ?_;have a7:a2∉z0x vR:=λh=>x6r hR U (by decide) a2 h (List.mem_singleton.2 rfl);have a8:Z∉z0x vR:=λh=>x6r hR M (by decide) Z h (List.mem_singleton.2 rfl);have k8:=(U.blk a2 (List.mem_singleton.2 rfl)).2;have k9:=(M.blk Z (List.mem_singleton.2 rfl)).2;obtain⟨AR,cR,rfl,l2⟩:=hR.sl.form;refine sq (sr (mv rfl (lnS rfl underlying37 (mv rfl (lt' rfl rfl (nn (cd rfl (λc0=>?_) (λc0=>?_))))))));refine sk (tn (bl (sc (sr (mv rfl (lnS rfl underlying37 (asg rfl (nn (sq (lb (tn (sq (sr (mv rfl (lnS rfl underlying35 (mv rfl (nn (bl ?_))))))))))))))))));refine lpK (ι:=Nat×List Int) [(0,_),(3,_),(4,_),(5,_),(6,_),(7,_),(28,_),(29,_)] (λp=>[(30,.int .i64 (p.1:Int))]) (λp w'=>Fr [Z] w5 w'/\p.1<=6/\FstI (z2a ts) ms p.2 l.length/\(∀z,z<p.1->v4c (z2a ts) ms z)/\Lw.Own Enc.i64 3 w0.heap.size w' (.slice (some ⟨Z,0,none⟩) ts.length ts.length) p.2) (λp=>6-p.1) (0,uu) (.d8 rfl rfl rfl rfl rfl rfl rfl rfl (.cons rfl .nil)) ⟨Fr.refl _ _,⟨Nat.zero_le _,hF,λz h=>absurd h (by simp),M⟩⟩ ?_;rintro⟨y,vs⟩ w6 ⟨q6,⟨hy,hF,e2,M⟩⟩;simp only at hy hF e2 M;have z6:=q6.size;refine kpC [(0,_),(3,_),(4,_),(5,_),(6,_),(7,_),(28,_),(29,_),(30,.int .i64 (y:Int))] (.d8 rfl rfl rfl rfl rfl rfl rfl rfl (.cons rfl .nil)) (sr (lt' rfl rfl (nn (sq (cd rfl (λc1=>?_) (λc1=>?_))))));replace D:=g5.ext (q5.z1 q6);have a4:y<6:=by omega
 have l6:=i0 y;have g6:=hF.lm;have h8:=hF.mb y a4;have h6:=(D _ (z0u (d:=tq0) (i:=y) (by omega))).1.len_le;unfold maxLen at h6;refine sk (tn (sq (bl (sr (mv rfl ?_)))));replace hs:=i1.ext (q5.z1 q6);refine z1a (tq0) rfl hs rfl y6e z1d (λi8 f4=>?_);refine z1g rfl (f4 _ hs) x2c (asg rfl (asg rfl (nn (sq (sr (mv rfl (mv rfl ?_)))))));replace U:=U.fr q6 (by intro k D I;have D:=List.mem_singleton.1 D;have I:=List.mem_singleton.1 (show k∈[a2] from I);omega);refine z1a (0) rfl U.sl rfl y8a z1d (λi9 f5=>?_);refine z1g rfl (f5 _ U.sl) na3 (mv rfl (lnS rfl underlying46 (eq' rfl rfl (kpL [(0,_),(3,_),(4,_),(5,_),(6,_),(7,_),(8,_),(9,_),(28,_),(29,_),(30,_),(41,_)] (.d8 rfl rfl rfl rfl rfl rfl rfl rfl (.c4 rfl rfl rfl rfl)) (nn (cd rfl (λc2=>?_) (λc2=>?_)))))));have e1:v4c (z2a ts) ms y:=.inl (by rw[z2s];omega);refine ex (te (xh (tn (rg (z0v rfl rfl (wi6 (by omega)) (mv rfl (nl ?_)))))));exact lpE ((y+1,_)) (.d8 rfl rfl rfl rfl rfl rfl rfl rfl (.cons rfl .nil)) ⟨((Fr.refl [Z] _).z1 q6),⟨by simp only;omega,hF,λz h=>(by
  by_cases e:z<y;exact e2 z e;obtain rfl:z=y:=by simp only at h;omega
  exact e1),M⟩⟩ (by simp only;omega)
 have d6:ms.getD y 0<(z2t (z2a ts) y:Int):=by rw[z2s];rw[z2s]at h8;omega
 have b2:(ms.getD y 0).toNat<(ts.getD y tq0).2.length:=by rw[z2s]at d6;omega
 have d9:nd (z2a ts) y (ms.getD y 0)=z4l ((ts.getD y tq0).2.getD (ms.getD y 0).toNat lq0).p:=by unfold nd;rw[z7b]
 have g8:=x8m ((ts.getD y tq0).2.getD (ms.getD y 0).toNat lq0);have b3:=(hv.ok.rts y a4 _ (by rw[z2s];exact b2)).1;rw[z7b]at b3;have k2:=z1x (z7i D (y:=y) (n:=(ms.getD y 0).toNat) (by omega) b2).1;have k3:=z1x (z7i D (y:=y) (n:=(ms.getD y 0).toNat) (by omega) b2).2;have l0:((ts.getD y tq0).2.getD (ms.getD y 0).toNat lq0).ths.length<=4:=b3.2.1.1;have l1:((ts.getD y tq0).2.getD (ms.getD y 0).toNat lq0).pas.length<=4096:=b3.2.1.2;refine sk (tn (sr (mv rfl (mv rfl (mv rfl (z1a (0) rfl U.sl rfl y8a z1d (λj0 f6=>?_)))))));refine z1g rfl (f6 _ U.sl) na3 (z1a (lq0) rfl (D _ (z0u (d:=tq0) (i:=y) (by omega))).1 rfl x8g z1d (λj1 f7=>?_));refine z1i rfl (f7 _ (D _ (z0u (d:=tq0) (i:=y) (by omega))).1) x7p (al v7p rfl rfl (λf3 w7 j6 J q7 z7=>?_));refine z0j (vs:=[_,_,_,_]) rfl rfl J v8x (λw8 J q8 z8=>?_) (h1:=(by first|(simp[Value.oneCell',S];done)|exact z4i.one ((ts.getD y tq0).2.getD (ms.getD y 0).toNat lq0)|exact z1k.one ((z4l ((ts.getD y tq0).2.getD (ms.getD y 0).toNat lq0).p).getD (xs.getD y 0).toNat id0)));refine kpL [(0,_),(3,_),(4,_),(5,_),(6,_),(7,_),(8,_),(10,_),(28,_),(29,_),(30,_)] (.d8 rfl rfl rfl rfl rfl rfl rfl rfl (.c3 rfl rfl rfl)) (nn (sq (bl ?_)));replace M:=(M.ext q7).fr q8 (by intro k D I;have D:=List.mem_singleton.1 D;have I:=List.mem_singleton.1 (show k∈[Z] from I);omega);refine lpK (ι:=List Int) [(0,_),(3,_),(4,_),(5,_),(6,_),(7,_),(8,_),(10,_),(28,_),(29,_),(30,_)] (λp=>[]) (λp w'=>Fr [Z] w8 w'/\FstI (z2a ts) ms p l.length/\Lw.Own Enc.i64 3 w0.heap.size w' (.slice (some ⟨Z,0,none⟩) ts.length ts.length) p) (λp=>(z4l ((ts.getD y tq0).2.getD (ms.getD y 0).toNat lq0).p).length-(p.getD y 0).toNat) vs (.d8 rfl rfl rfl rfl rfl rfl rfl rfl (.c3 rfl rfl rfl)) ⟨Fr.refl _ _,⟨hF,M⟩⟩ ?_;rintro xs w9 ⟨q9,⟨hF,M⟩⟩;have z9:=q9.size;refine kpC [(0,_),(3,_),(4,_),(5,_),(6,_),(7,_),(8,_),(10,_),(28,_),(29,_),(30,_)] (.d8 rfl rfl rfl rfl rfl rfl rfl rfl (.c3 rfl rfl rfl)) ?_;have h0:=hF.tb y a4;have g6:=hF.lm;have l5:=hF.lt;refine sq (sq ?_);replace J:=J.fr q9;intro a h;refine z0i none (λwb w'=>Fr [] wb w') z2o ?_;intro h3 a3;have m6:=a3.size;replace J:=J.ext a3;replace M:=M.ext a3;have hC:Fr [] h3 h3:=Fr.refl _ _;have a0:=J;have a6:=M;refine z0e 0 h rfl rfl λa h=>z0e 1 h rfl rfl λa h=>z1h (0) 2 h rfl M.sl rfl y8a rfl ?_ (hp:=rfl);clear h a;intro j2 f8 a h;refine z3j 3 h rfl (λ_ hw=>f8 _ (a6.sl.ext hw)) na3 rfl λa h=>z0c 4 h rfl z6n rfl λa h=>z0l 5 h rfl (λ_ hw=>a0.ext hw) rfl z5t rfl λa h=>z8f 6 hC h wn rfl underlying37 rfl λa h=>z0c 7 h rfl z8g rfl λa h=>z0l 8 h rfl (λ_ hw=>a0.ext hw) rfl y3f rfl λa h=>z8f 9 hC h wn rfl underlying54 rfl λa h=>z4u 10 h rfl rfl (by first|exact i6 (by omega)|rfl) rfl λa h=>v0f 11 hC h wn rfl rfl rfl rfl λa h=>z0q ?_;clear hC a0 a6;refine bk (h.sub (L':=[(0,_),(3,_),(4,_),(5,_),(6,_),(7,_),(8,_),(10,_),(28,_),(29,_),(30,_),(60,_)]) (.d8 rfl rfl rfl rfl rfl rfl rfl rfl (.c4 rfl rfl rfl rfl))) (tn (cd rfl (λc3=>?_) (λc3=>?_)));have e6:xs.getD y 0<IntKind.i64.wrap ((((ts.getD y tq0).2.getD (ms.getD y 0).toNat lq0).th.2.1:Int)+(((ts.getD y tq0).2.getD (ms.getD y 0).toNat lq0).pa.2.1:Int)):=c3;rw[IntWalk.i64_in _ (by omega)]at e6;have e0:(xs.getD y 0).toNat<(z4l ((ts.getD y tq0).2.getD (ms.getD y 0).toNat lq0).p).length:=by rw[g8];omega
 have g3:z4e (z2a ts) ((z4l ((ts.getD y tq0).2.getD (ms.getD y 0).toNat lq0).p).getD (xs.getD y 0).toNat id0):=b3.2.2.1 _ (z0u e0);have k1:=g3.1;have g4:=g3.2.1;rw[g7]at g4;have g6:=hF.lm;refine sk (tn (bl (sq (sq ?_))));replace D:=g5.ext (q5.z5 q6 q7 q8 q9 a3);intro a h;refine z0i none (λwb w'=>Fr [] wb w') z2o ?_;intro f0 a5;have m7:=a5.size;replace D:=D.ext a5;replace J:=J.ext a5;replace M:=M.ext a5;have hC:Fr [] f0 f0:=Fr.refl _ _;have e5:=D;have a0:=J;have a6:=M;refine z0y 0 h rfl (λ_ hw=>a0.ext hw) x7p rfl λa h=>z0e 1 h rfl rfl λa h=>z0e 2 h rfl rfl λa h=>z1h (0) 3 h rfl M.sl rfl y8a rfl ?_ (hp:=rfl);clear h a;intro j3 f9 a h;refine z3j 4 h rfl (λ_ hw=>f9 _ (a6.sl.ext hw)) na3 rfl λa h=>z2d 5 6 (by kernel_rfl) rfl rfl ?_ ?_;refine z0n h (z0a rfl (z0a rfl z0f)) (mkC func230) (v3c ((ts.getD y tq0).2.getD (ms.getD y 0).toNat lq0) (xs.getD y 0) _ (z7i D (y:=y) (n:=(ms.getD y 0).toNat) (by omega) b2) h0 e0 ⟨b3.2.1.1,b3.2.1.2⟩) ?_;rintro _ i4 ⟨rfl,b4⟩ a h;have m8:=b4.size;replace J:=J.ext b4;replace hC:=hC.next b4;refine z0b ?_;refine z0d 6 rfl ?_;refine z1c h y3v rfl λl7 O b5 hz a h=>?_;obtain⟨b0,hg⟩:∃g,g=i4.heap.size:=⟨_,rfl⟩;rw[<-hg]at O h hz;have d7:f3<b0:=by have:=J.lt;omega
 have m9:=b5.size;replace D:=D.ext (b4.n1 b5);replace J:=J.ext b5;replace M:=M.ext (b4.n1 b5);replace hC:=hC.next b5;refine z0b ?_;refine z0d 7 rfl ?_;refine z0t h rfl rfl O rfl y1u ?_ (h1:=(by first|(simp[Value.oneCell',S];done)|exact z4i.one ((ts.getD y tq0).2.getD (ms.getD y 0).toNat lq0)|exact z1k.one ((z4l ((ts.getD y tq0).2.getD (ms.getD y 0).toNat lq0).p).getD (xs.getD y 0).toNat id0)));clear h a;intro i5 d1 b7 hz a h;have n7:=b7.size;replace J:=J.fr b7;replace M:=M.fr b7 (by intro k D I;have D:=List.mem_singleton.1 D;have I:=List.mem_singleton.1 (show k∈[Z] from I);omega);replace hC:=hC.sp b7;clear O hz;have O:Blk i5 b0 _ [_,_]:=d1;clear d1;refine z0b ?_;refine z0q ?_;clear hC e5 a0 a6;refine bk (h.sub (L':=[(0,_),(3,_),(4,_),(5,_),(6,_),(7,_),(8,_),(10,_),(11,_),(28,_),(29,_),(30,_)]) (.d8 rfl rfl rfl rfl rfl rfl rfl rfl (.c4 rfl rfl rfl rfl))) (tn (sq ?_));replace U:=((((U.ext q7).fr q8 (by intro k D I;have D:=List.mem_singleton.1 D;have I:=List.mem_singleton.1 (show k∈[a2] from I);omega)).fr q9 (by intro k D I;have D:=List.mem_singleton.1 D;have I:=List.mem_singleton.1 (show k∈[a2] from I);omega)).ext (a3.n3 a5 b4 b5)).fr b7 (by intro k D I;have D:=List.mem_singleton.1 D;have I:=List.mem_singleton.1 (show k∈[a2] from I);omega);intro a h;refine z0i none (λwb w'=>Fr [] wb w') z2o ?_;intro h4 b8;have n8:=b8.size;replace U:=U.ext b8;replace O:=O.ext b8;have hC:Fr [] h4 h4:=Fr.refl _ _;have b1:=U;have a1:=O;refine z0c 0 h rfl z8y rfl λa h=>z0l 1 h rfl (λ_ hw=>a1.ext hw) rfl na3 rfl λa h=>z0e 2 h rfl rfl λa h=>z0c 3 h rfl z7o rfl λa h=>z0l 4 h rfl (λ_ hw=>a1.ext hw) rfl na5 rfl λa h=>z3b 5 h wn rfl rfl (by first|exact IntWalk.u8_in _ (by omega)|rfl) rfl λa h=>z1h (0) 6 h rfl U.sl rfl y8a rfl ?_ (hp:=rfl);clear h a;intro f1 d3 a h;refine z3j 7 h rfl (λ_ hw=>d3 _ (b1.sl.ext hw)) na3 rfl λa h=>u2o 8 hC h wn rfl rfl rfl rfl λa h=>z0q ?_;clear hC b1 a1;refine bk (h.sub (L':=[(0,_),(3,_),(4,_),(5,_),(6,_),(7,_),(8,_),(10,_),(28,_),(29,_),(30,_),(75,_)]) (.d8 rfl rfl rfl rfl rfl rfl rfl rfl (.c4 rfl rfl rfl rfl))) (tn (cd rfl (λc4=>?_) (λc4=>?_)));have e1:v4c (z2a ts) ms y:=.inr ⟨d6,((z4l ((ts.getD y tq0).2.getD (ms.getD y 0).toNat lq0).p).getD (xs.getD y 0).toNat id0),by rw[d9];exact z0u e0,by unfold InM;omega⟩;refine ex (te (xo rfl (te (xo rfl (te (xh (tn (rg (z0v rfl rfl (wi6 (by omega)) (mv rfl (nl ?_)))))))))));replace M:=M.ext b8;exact lpE ((y+1,_)) (.d8 rfl rfl rfl rfl rfl rfl rfl rfl (.cons rfl .nil)) ⟨((((Fr.refl [Z] _).z6 q6 q7 q8 q9 a3 a5).n1 b4).z3 b5 b7 b8),⟨by simp only;omega,hF,λz h=>(by
  by_cases e:z<y;exact e2 z e;obtain rfl:z=y:=by simp only at h;omega
  exact e1),M⟩⟩ (by simp only;omega)
 have d0:=hF.there a4 (by rw[d9];unfold InM;omega);refine sk (tn (rg (mv rfl (mv rfl ?_))));replace M:=M.ext b8;refine z1a (0) rfl M.sl rfl y8a z1d (λf2 d4=>?_);refine z1g rfl (d4 _ M.sl) na3 (z0v rfl rfl (wi6 (by omega)) (z9e (p:=y) (E:=Enc.i64) rfl rfl y8a ?_));refine z4y (i:=y) (xs.getD y 0+1) rfl rfl M (by rw[hF.lt];exact a4) rfl sz3 (λl8 M i2 n9=>?_);refine kpL [(0,_),(3,_),(4,_),(5,_),(6,_),(7,_),(8,_),(10,_),(28,_),(29,_),(30,_)] (.d8 rfl rfl rfl rfl rfl rfl rfl rfl (.c3 rfl rfl rfl)) (nl (bn' ?_));exact lpE (_) (.d8 rfl rfl rfl rfl rfl rfl rfl rfl (.c3 rfl rfl rfl)) ⟨((((Fr.refl [Z] _).z6 q9 a3 a5 b4 b5 b7).n1 b8).z1 i2),⟨d0,M⟩⟩ (by rw[z4m (by rw[hF.lt];exact a4),if_pos rfl];omega);refine z1c h y3v rfl λl9 O b6 hz a h=>?_;obtain⟨b0,hg⟩:∃g,g=f0.heap.size:=⟨_,rfl⟩;rw[<-hg]at O h hz;have d7:f3<b0:=by have:=J.lt;omega
 have o0:=b6.size;replace D:=D.ext b6;replace hC:=hC.next b6;refine z0b ?_;refine z0d 5 rfl ?_;refine z0n h (z0a rfl (z0a rfl z0f)) (mkC func230) (v3c ((ts.getD y tq0).2.getD (ms.getD y 0).toNat lq0) (xs.getD y 0) _ (z7i D (y:=y) (n:=(ms.getD y 0).toNat) (by omega) b2) h0 e0 ⟨b3.2.1.1,b3.2.1.2⟩) ?_;rintro _ m0 ⟨rfl,a9⟩ a h;have o1:=a9.size;replace D:=D.ext a9;replace J:=J.ext (b6.n1 a9);replace M:=M.ext (b6.n1 a9);replace O:=O.ext a9;replace hC:=hC.next a9;refine z0b ?_;refine z0d 7 rfl ?_;refine z0t h rfl rfl O rfl y1u ?_ (h1:=(by first|(simp[Value.oneCell',S];done)|exact z4i.one ((ts.getD y tq0).2.getD (ms.getD y 0).toNat lq0)|exact z1k.one ((z4l ((ts.getD y tq0).2.getD (ms.getD y 0).toNat lq0).p).getD (xs.getD y 0).toNat id0)));clear h a;intro i7 d1 b9 hz a h;have o2:=b9.size;replace J:=J.fr b9;replace M:=M.fr b9 (by intro k D I;have D:=List.mem_singleton.1 D;have I:=List.mem_singleton.1 (show k∈[Z] from I);omega);replace hC:=hC.sp b9;clear O hz;have O:Blk i7 b0 _ [_,_]:=d1;clear d1;refine z0b ?_;refine z0q ?_;clear hC e5 a0 a6;refine bk (h.sub (L':=[(0,_),(3,_),(4,_),(5,_),(6,_),(7,_),(8,_),(10,_),(11,_),(28,_),(29,_),(30,_)]) (.d8 rfl rfl rfl rfl rfl rfl rfl rfl (.c4 rfl rfl rfl rfl))) (tn (sq ?_));replace U:=((((U.ext q7).fr q8 (by intro k D I;have D:=List.mem_singleton.1 D;have I:=List.mem_singleton.1 (show k∈[a2] from I);omega)).fr q9 (by intro k D I;have D:=List.mem_singleton.1 D;have I:=List.mem_singleton.1 (show k∈[a2] from I);omega)).ext (a3.n3 a5 b6 a9)).fr b9 (by intro k D I;have D:=List.mem_singleton.1 D;have I:=List.mem_singleton.1 (show k∈[a2] from I);omega);intro a h;refine z0i none (λwb w'=>Fr [] wb w') z2o ?_;intro h5 c9;have o3:=c9.size;replace U:=U.ext c9;replace O:=O.ext c9;have hC:Fr [] h5 h5:=Fr.refl _ _;have b1:=U;have a1:=O;refine z0c 0 h rfl z8y rfl λa h=>z0l 1 h rfl (λ_ hw=>a1.ext hw) rfl na3 rfl λa h=>z0e 2 h rfl rfl λa h=>z0c 3 h rfl z7o rfl λa h=>z0l 4 h rfl (λ_ hw=>a1.ext hw) rfl na5 rfl λa h=>z3b 5 h wn rfl rfl (by first|exact IntWalk.u8_in _ (by omega)|rfl) rfl λa h=>z1h (0) 6 h rfl U.sl rfl y8a rfl ?_ (hp:=rfl);clear h a;intro f1 d3 a h;refine z3j 7 h rfl (λ_ hw=>d3 _ (b1.sl.ext hw)) na3 rfl λa h=>u2o 8 hC h wn rfl rfl rfl rfl λa h=>z0q ?_;clear hC b1 a1;refine bk (h.sub (L':=[(0,_),(3,_),(4,_),(5,_),(6,_),(7,_),(8,_),(10,_),(28,_),(29,_),(30,_),(75,_)]) (.d8 rfl rfl rfl rfl rfl rfl rfl rfl (.c4 rfl rfl rfl rfl))) (tn (cd rfl (λc4=>?_) (λc4=>?_)));have e1:v4c (z2a ts) ms y:=.inr ⟨d6,((z4l ((ts.getD y tq0).2.getD (ms.getD y 0).toNat lq0).p).getD (xs.getD y 0).toNat id0),by rw[d9];exact z0u e0,by unfold InM;omega⟩;refine ex (te (xo rfl (te (xo rfl (te (xh (tn (rg (z0v rfl rfl (wi6 (by omega)) (mv rfl (nl ?_)))))))))));replace M:=M.ext c9;exact lpE ((y+1,_)) (.d8 rfl rfl rfl rfl rfl rfl rfl rfl (.cons rfl .nil)) ⟨((((Fr.refl [Z] _).z6 q6 q7 q8 q9 a3 a5).n1 b6).z3 a9 b9 c9),⟨by simp only;omega,hF,λz h=>(by
  by_cases e:z<y;exact e2 z e;obtain rfl:z=y:=by simp only at h;omega
  exact e1),M⟩⟩ (by simp only;omega)
 have d0:=hF.there a4 (by rw[d9];unfold InM;omega);refine sk (tn (rg (mv rfl (mv rfl ?_))));replace M:=M.ext c9;refine z1a (0) rfl M.sl rfl y8a z1d (λf2 d4=>?_);refine z1g rfl (d4 _ M.sl) na3 (z0v rfl rfl (wi6 (by omega)) (z9e (p:=y) (E:=Enc.i64) rfl rfl y8a ?_));refine z4y (i:=y) (xs.getD y 0+1) rfl rfl M (by rw[hF.lt];exact a4) rfl sz3 (λm1 M i3 o4=>?_);refine kpL [(0,_),(3,_),(4,_),(5,_),(6,_),(7,_),(8,_),(10,_),(28,_),(29,_),(30,_)] (.d8 rfl rfl rfl rfl rfl rfl rfl rfl (.c3 rfl rfl rfl)) (nl (bn' ?_));exact lpE (_) (.d8 rfl rfl rfl rfl rfl rfl rfl rfl (.c3 rfl rfl rfl)) ⟨((((Fr.refl [Z] _).z6 q9 a3 a5 b6 a9 b9).n1 c9).z1 i3),⟨d0,M⟩⟩ (by rw[z4m (by rw[hF.lt];exact a4),if_pos rfl];omega);have e6:¬xs.getD y 0<IntKind.i64.wrap ((((ts.getD y tq0).2.getD (ms.getD y 0).toNat lq0).th.2.1:Int)+(((ts.getD y tq0).2.getD (ms.getD y 0).toNat lq0).pa.2.1:Int)):=c3;rw[IntWalk.i64_in _ (by omega)]at e6;have d0:=hF.push hH a4 d6 (by rw[d9,g8];omega);refine ex (te (te (xh (tn (sr (mv rfl (mv rfl (z0v rfl rfl (wi6 (by omega)) (z5m rfl (us underlying3) underlying5 (wi8 (by omega)) (mv rfl (mv rfl ?_)))))))))));replace U:=(((U.ext q7).fr q8 (by intro k D I;have D:=List.mem_singleton.1 D;have I:=List.mem_singleton.1 (show k∈[a2] from I);omega)).fr q9 (by intro k D I;have D:=List.mem_singleton.1 D;have I:=List.mem_singleton.1 (show k∈[a2] from I);omega)).ext a3;refine z1a (0) rfl U.sl rfl y8a z1d (λj4 g0=>?_);refine z1g rfl (g0 _ U.sl) na3 (z1v (cs:=[_,_]) (ev2 rfl rfl) j1p (z0h rfl rfl rfl (z0h rfl rfl rfl z0s)) rfl ?_);refine z2h ([(⟨(y:Int)+1,ms.getD y 0⟩:LId)]) (ev1 rfl) rfl rfl rfl z6j (λk7 m2 k0 g9 e3 o5=>?_);replace U:=U.ext e3;replace M:=M.ext e3;replace hR:=((((hR.fr q6 (by intro k D I;rw[List.mem_singleton.1 D]at I;first|exact a7 I|exact a8 I|(have h_:=(hR.blk _ I).2;omega))).ext q7).fr q8 (by intro k D I;rw[List.mem_singleton.1 D]at I;first|exact a7 I|exact a8 I|(have h_:=(hR.blk _ I).2;omega))).fr q9 (by intro k D I;rw[List.mem_singleton.1 D]at I;first|exact a7 I|exact a8 I|(have h_:=(hR.blk _ I).2;omega))).ext (a3.n1 e3);have e7:=hR;refine z2e rfl rfl hR g9.sl z6j (by unfold maxLen;simp only[List.length_append,List.length_cons,List.length_nil];omega) (by simp only[List.length_append,List.length_cons,List.length_nil];omega) (λh2 m3 hR e4 h9=>?_);have o6:=e4.size;replace U:=U.fr e4 (λk D I=>a7 (by have e:=List.mem_singleton.1 (show k∈[a2] from I);rw[<-e];exact D));replace M:=M.fr e4 (λk D I=>a8 (by have e:=List.mem_singleton.1 (show k∈[Z] from I);rw[<-e];exact D));clear a7 a8;have a7:a2∉z0x h2:=λh=>x6r hR U (by decide) a2 h (List.mem_singleton.2 rfl);have a8:Z∉z0x h2:=λh=>x6r hR M (by decide) Z h (List.mem_singleton.2 rfl);obtain⟨k4,k5,rfl,_⟩:=hR.sl.form;refine asg rfl (kpL [(0,_),(3,_),(4,_),(5,_),(6,_),(7,_),(8,_)] (.c7 rfl rfl rfl rfl rfl rfl rfl) (nn (sr (mv rfl (mv rfl (z1a (0) rfl U.sl rfl y8a z1d (λj5 g1=>?_)))))));refine z1g rfl (g1 _ U.sl) na3 (z0v rfl rfl (wi6 (by omega)) (z9e (p:=y) (E:=Enc.i64) rfl rfl y8a ?_));refine z4y (i:=y) (ms.getD y 0+1) rfl rfl U (by rw[hF.lm];exact a4) rfl sz3 (λm4 U e8 o7=>?_);refine kpL [(0,_),(3,_),(4,_),(5,_),(6,_),(7,_),(8,_)] (.c7 rfl rfl rfl rfl rfl rfl rfl) (nn (sr (mv rfl (mv rfl ?_))));replace M:=M.fr e8 (by intro k D I;have D:=List.mem_singleton.1 D;have I:=List.mem_singleton.1 (show k∈[Z] from I);omega);refine z9e (p:=y) (E:=Enc.i64) rfl rfl y8a ?_;refine z4y (i:=y) (0) rfl rfl M (by rw[hF.lt];exact a4) rfl sz3 (λm5 M e9 o8=>?_);refine nn (ex (xo rfl (te (te (xh (tn (sr (mv rfl (lnS rfl underlying37 (mv rfl (eq' rfl rfl (nn (cd rfl (λc5=>?_) (λc5=>?_))))))))))))));exfalso;simp only[List.length_append,List.length_cons,List.length_nil]at c5;omega;skip;refine sk (gn' (bn' ?_));replace hR:=(hR.fr e8 (by intro k D I;rw[List.mem_singleton.1 D]at I;first|exact a7 I|exact a8 I|(have h_:=(hR.blk _ I).2;omega))).fr e9 (by intro k D I;rw[List.mem_singleton.1 D]at I;first|exact a7 I|exact a8 I|(have h_:=(hR.blk _ I).2;omega));replace U:=U.fr e9 (by intro k D I;have D:=List.mem_singleton.1 D;have I:=List.mem_singleton.1 (show k∈[a2] from I);omega);exact lpE ((_,_,_,_)) (.c5 rfl rfl rfl rfl rfl) ⟨(((q5.z6 q6 q7 q8 q9 a3 e3).step e4 (λk D d6=>absurd (e7.blk k D).1 (by omega))).z2 e8 e9),⟨by simpa using d0,hR,U,M⟩⟩ (by simp only[List.length_append,List.length_cons,List.length_nil];omega);obtain rfl:y=6:=by omega
 have h7:=hF.done hH e2 hv.ok.ord;refine ex (te (te (xh (tn (sr (mv rfl (lnS rfl underlying37 (mv rfl (eq' rfl rfl (kpL [(0,_),(3,_),(4,_),(5,_),(6,_),(106,_)] (.c6 rfl rfl rfl rfl rfl rfl) (nn (cd rfl (λc5=>?_) (λc5=>?_)))))))))))));have d5:l.length=z4v (z2a ts):=h7;refine ex (gx' (xo rfl (te (xh (tn (sr (mv rfl (asg rfl (kpL [(2,_)] (.cons rfl .nil) (nn (rt (r1 results191 rfl ?_))))))))))));replace hR:=hR.fr q6 (by intro k D I;rw[List.mem_singleton.1 D]at I;first|exact a7 I|exact a8 I|(have h_:=(hR.blk _ I).2;omega));exact⟨_,rfl,l,hR,d5,(q5.z1 q6)⟩;exact absurd rfl c5;have d5:l.length=z4v (z2a ts):=by have:=hF.leI (by omega);omega
 refine ex (te (te (xh (tn (sr (mv rfl (asg rfl (kpL [(2,_)] (.cons rfl .nil) (nn (rt (r1 results191 rfl ?_)))))))))));exact⟨_,rfl,l,hR,d5,q5⟩
end Go.Proofs.YtpgdchkdlgkmgaaGreatDoor
