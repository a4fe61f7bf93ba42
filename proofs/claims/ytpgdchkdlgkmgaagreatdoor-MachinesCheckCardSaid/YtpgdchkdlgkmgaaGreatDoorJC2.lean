/- Texts of the proof, joined. -/
import Derived.Lib.ItoaNum
import Derived.Lib.Join
import Derived.Lib.AtoiAll
import Derived.Lib.Split
import Derived.Lib.TrimByte
import Derived.Lib.IndexMore
import Derived.Laws.CopyRow
import Derived.Lib.AppendZerosOnto
import Derived.Test.YtpgdchkdlgkmgaaGreatDoorRows
import Derived.Laws.RangeString
import Derived.Test.YtpgdchkdlgkmgaaGreatDoorJC1
set_option linter.unusedVariables false
set_option linter.unusedSimpArgs false
namespace Go.Lw
open Go.RowKit
structure MOp where
  k:Int
  d:Int
  b:Int
  p:Int
  y:Int
  r:Int
theorem MOp.ext' {a c:MOp}(h:a.k=c.k/\a.d=c.d/\a.b=c.b/\a.p=c.p/\a.y=c.y/\a.r=c.r):a=c:=by
 obtain⟨D,I,J,M,O,Z⟩:=h;cases a;cases c;simp only at *;subst D I J M O Z;rfl
instance:DecidableEq MOp:=λa c=>
  if h:a.k=c.k/\a.d=c.d/\a.b=c.b/\a.p=c.p/\a.y=c.y/\a.r=c.r then isTrue (MOp.ext' h)
  else isFalse (λe=>h (by subst e;exact ⟨rfl,rfl,rfl,rfl,rfl,rfl⟩))
def z8c:Enc MOp:=⟨λo=>[.int .u8 o.k,.int .u8 o.d,.int .u8 o.b,.int .i64 o.p,.int .u8 o.y,.int .i64 o.r],6,λ_=>rfl,λ_ u h=>by simp at h;rcases h with rfl|rfl|rfl|rfl|rfl|rfl<;>rfl,by decide⟩
abbrev opV (o:MOp):Value:=.agg #[.int .u8 o.k,.int .u8 o.d,.int .u8 o.b,.int .i64 o.p,.int .u8 o.y,.int .i64 o.r]
def op0:MOp:=⟨0,0,0,0,0,0⟩
def ndV (p:Int×Int):Value:=.agg #[.int .u8 p.1,.int .i64 p.2]
def z4v (b p:Int):Int:=if b≠0/\b≠1 then 1 else if p<1\/40<p then 1 else 0
abbrev F4:=Bool×Bool×Bool×Bool
def f4L (f:F4):List Value:=[.bool f.1,.bool f.2.1,.bool f.2.2.1,.bool f.2.2.2]
theorem x4v (f:F4):∀u∈f4L f,u.oneCell'=true:=by intro u D;simp[f4L]at D;rcases D with rfl|rfl|rfl|rfl<;>rfl
def f4V (f:F4):Value:=.agg (f4L f).toArray
def f40:F4:=(false,false,false,false)
def z8f (k:Int):Option F4:=
  if k=8 then some (false,true,false,false) else if k=7 then some (false,true,false,false) else if k=6 then some (true,true,true,false)
  else if k=5 then some (true,true,true,false) else if k=4 then some (true,true,true,false) else if k=3 then some (false,false,false,true)
  else if k=2 then some (false,false,true,false) else if k=1 then some (true,false,true,false) else none
def x4y (k:Int):Option Value:=(z8f k).map f4V
theorem z7j (k:Int):(x4y k).getD (.agg #[.bool false,.bool false,.bool false,.bool false])=.agg (f4L ((z8f k).getD f40)).toArray:=by
 unfold x4y;cases z8f k<;>rfl
theorem y2b (k:Int):(x4y k).isSome=(z8f k).isSome:=by unfold x4y;cases z8f k<;>rfl
abbrev pl1 (f:F4)(o:MOp):Prop:=(f.1=true/\o.d≠0)/\o.d≠1\/¬f.1=true/\o.d≠0
abbrev pl2 (f:F4)(o:MOp):Prop:=f.2.1=true/\z4v o.b o.p≠0\/¬f.2.1=true/\¬(o.b=0/\o.p=0)
abbrev pl3 (f:F4)(o:MOp):Prop:=f.2.2.1=true/\(o.y<1\/6<o.y)\/¬f.2.2.1=true/\o.y≠0
abbrev pl4 (f:F4)(o:MOp):Prop:=f.2.2.2=true\/o.r=0
def x8l (f:F4)(o:MOp):Prop:=¬pl1 f o/\¬pl2 f o/\¬pl3 f o/\pl4 f o
instance (f:F4) (o:MOp):Decidable (x8l f o):=by unfold x8l;infer_instance
def y7n (o:MOp):Prop:=(z8f o.k).isSome=true/\x8l ((z8f o.k).getD f40) o
instance (o:MOp):Decidable (y7n o):=by unfold y7n;infer_instance
def x3d (o:MOp):Int:=if ¬y7n o then 1 else if o.r < -4\/4<o.r then 11 else 0
def j6e (n:Nat):UInt8:=UInt8.ofNat (48+n)
def j4v (n:Nat):List UInt8:=if n<10 then [j6e n] else [j6e (n / 10),j6e (n % 10)]
def x5c (n:Int):List UInt8:=if n<0 then 45::j4v n.natAbs else j4v n.toNat
theorem u7l {n:Nat}(h:n<100):Lib.decDigits n=j4v n:=by
 unfold j4v;rw[Lib.decDigits];split;rfl;rw[Lib.decDigits,dif_pos (by omega)];rfl
theorem u4s {n:Int}(h:-99<=n/\n<=99):Lib.itoa n=x5c n:=by
 unfold Lib.itoa x5c;split<;>rw[u7l (by omega)]
theorem y5c (n:Int):(x5c n).length<=3:=by unfold x5c j4v;(repeat' split)<;>simp
def z8n:List (List UInt8):=[[],[105,110],[111,117,116],[114,97,99,107],[107,110,105,116],[116,117,99,107],[109,105,115,115],[120,102,101,114],[100,114,111,112]]
def x2p:List (List UInt8):=[[108,101,102,116],[114,105,103,104,116]]
def x5f (k:Int):List UInt8:=z8n.getD k.toNat []
def u5n (d:Int):List UInt8:=x2p.getD d.toNat []
theorem v0i {k:Int}(h:0<=k/\k<9):(z8n.map S)[k.toNat*1]?=some (S (x5f k)):=by
 rw[Nat.mul_one,List.getElem?_map,x5f,List.getD];have:k.toNat<z8n.length:=by simp only[z8n,List.length];omega
 rw[List.getElem?_eq_getElem this];rfl
theorem x7p {k:Int}(h:0<=k/\k<2):(x2p.map S)[k.toNat*1]?=some (S (u5n k)):=by
 rw[Nat.mul_one,List.getElem?_map,u5n,List.getD];have:k.toNat<x2p.length:=by simp only[x2p,List.length];omega
 rw[List.getElem?_eq_getElem this];rfl
def v1k (b p:Int):List UInt8:=if z4v b p≠0 then [] else if b=0 then [102]++x5c p else [98]++x5c p
def y3e (o:MOp):List (List UInt8):=
  if o.k=1 then [x5c o.y,u5n o.d] else if o.k=2 then [x5c o.y] else if o.k=3 then [x5c o.r]
  else if (o.k=4\/o.k=5)\/o.k=6 then [u5n o.d,v1k o.b o.p,x5c o.y] else if o.k=7\/o.k=8 then [v1k o.b o.p] else []
def j3k (o:MOp):List UInt8:=if x3d o≠0 then [] else Lib.join (x5f o.k::y3e o) [32]
theorem x7s {b p:Int}:z4v b p=0↔(b=0\/b=1)/\1<=p/\p<=40:=by unfold z4v;(repeat' split)<;>omega
theorem u2e {k:Int}(h:(z8f k).isSome=true):1<=k/\k<=8:=by unfold z8f at h;(repeat' split at h)<;>first|omega|simp at h
theorem j2j {o:MOp}(h:x3d o=0):y7n o/\-4<=o.r/\o.r<=4:=by
 unfold x3d at h;split at h;omega;rename_i D;split at h;omega;rename_i I;exact⟨Classical.not_not.1 D,by omega,by omega⟩
theorem v5f {o:MOp}(h:x3d o=0):1<=o.k/\o.k<=8/\0<=o.d/\o.d<=1/\0<=o.y/\o.y<=6/\-4<=o.r/\o.r<=4:=by
 obtain⟨⟨M,D,O,I,Z⟩,h6,h7⟩:=j2j h
 have J:=u2e M
 generalize (z8f o.k).getD f40=f at D O I Z
 refine⟨J.1,J.2,?_,?_,?_,?_,h6,h7⟩<;>
 ·revert D I
  unfold pl1 pl3
  cases f.1<;>cases f.2.2.1<;>simp<;>omega
theorem u2l {b p:Int}:(v1k b p).length<=6:=by
 unfold v1k;split;simp;rename_i h;have D:=x7s.1 (Classical.not_not.1 h);have:=y5c p;split<;>simp<;>omega
theorem v6k (k:Int):(x5f k).length<=4:=by
 have:∀n:Nat,(z8n.getD n []).length<=4
  | 0|1|2|3|4|5|6|7|8=>by decide
  | n+9=>by simp[z8n,List.getD]
 exact this _
theorem v8w (k:Int):(u5n k).length<=5:=by
 have:∀n:Nat,(x2p.getD n []).length<=5
  | 0|1=>by decide
  | n+2=>by simp[x2p,List.getD]
 exact this _
theorem j4r (o:MOp):(y3e o).length<=3:=by unfold y3e;(repeat' split)<;>simp
theorem v8a (o:MOp)(h:x3d o=0):(Lib.join (x5f o.k::y3e o) [32]).length<=30:=by
 have Z:=v5f h;have D:=v6k o.k;have I:=v8w o.d;have J:=y5c o.y;have M:=y5c o.r;have O:=u2l (b:=o.b) (p:=o.p);rw[Lib.join_cons];unfold y3e Lib.joinTail;(repeat' split)<;>simp<;>omega
def MOp.Ok (o:MOp):Prop:=0<=o.k/\0<=o.d/\0<=o.b/\0<=o.y/\o.k<=255/\o.d<=255/\o.b<=255/\o.y<=255
def v7n:Enc MOp:=⟨λo=>[.int .u8 o.k,.int .u8 o.d,.int .u8 o.b,.int .u8 o.p,.int .u8 o.y,.int .u8 o.r],6,λ_=>rfl,λ_ u h=>by simp at h;rcases h with rfl|rfl|rfl|rfl|rfl|rfl<;>rfl,by decide⟩
abbrev oxV (o:MOp):Value:=.agg #[.int .u8 o.k,.int .u8 o.d,.int .u8 o.b,.int .u8 o.p,.int .u8 o.y,.int .u8 o.r]
def MOp.Bytes (o:MOp):Prop:=(0<=o.k/\o.k<=255)/\(0<=o.d/\o.d<=255)/\(0<=o.b/\o.b<=255)/\(0<=o.p/\o.p<=255)/\(0<=o.y/\o.y<=255)/\(0<=o.r/\o.r<=255)
def ofK (k:Int)(x:MOp):MOp:=
  if k=1 then ⟨k,x.d % 2,0,0,1+x.y % 6,0⟩ else if k=2 then ⟨k,0,0,0,1+x.y % 6,0⟩ else if k=3 then ⟨k,0,0,0,0,x.r % 9-4⟩
  else if k=7\/k=8 then ⟨k,0,x.b % 2,1+x.p % 40,0,0⟩ else ⟨k,x.d % 2,x.b % 2,1+x.p % 40,1+x.y % 6,0⟩
def ofO (x:MOp):MOp:=ofK (1+x.k % 8) x
def v7e (c:UInt8):Bool:=decide (48<=(c.toNat:Int)/\(c.toNat:Int)<=57)
def v2j (n:Int)(c:UInt8):Int:=10*n+((c.toNat:Int)-48)
def y5h (l:List UInt8):Int:=l.foldl v2j 0
def j0d (l:List UInt8):Option Int:=if ((l.getD 0 0).toNat:Int)=102 then some 0 else if ((l.getD 0 0).toNat:Int)=98 then some 1 else none
def x3q (l:List UInt8):Int×Int:=
  if (l.length:Int)<2\/3<(l.length:Int) then (0,0) else
  match j0d l with
  | none=>(0,0)
  | some b=>if (l.drop 1).all v7e=false then (0,0) else if v1k b (y5h (l.drop 1))≠l then (0,0) else (b,y5h (l.drop 1))
theorem y7q (l:List UInt8)(k:Nat)(h:k<l.length):l.take (k+1)=l.take k++[l.getD k 0]:=by
 rw[List.take_succ_eq_append_getElem h];simp[List.getD,h]
theorem v0e (l:List UInt8)(k:Nat)(h:k<l.length):y5h (l.take (k+1))=10*y5h (l.take k)+(((l.getD k 0).toNat:Int)-48):=by
 rw[y7q l k h,y5h,List.foldl_append];rfl
theorem u0w (l:List UInt8)(k:Nat)(h:k<l.length)(D:(l.take k).all v7e=true)(I:48<=((l.getD k 0).toNat:Int)/\((l.getD k 0).toNat:Int)<=57):(l.take (k+1)).all v7e=true:=by
 rw[y7q l k h,List.all_append,D,List.all_cons,List.all_nil,v7e,decide_eq_true I];rfl
theorem u4t (l:List UInt8)(k:Nat)(h:k<l.length)(I:¬(48<=((l.getD k 0).toNat:Int)/\((l.getD k 0).toNat:Int)<=57)):l.all v7e=false:=by
 rw[Bool.eq_false_iff];intro D;rw[List.all_eq_true]at D;have:=D (l.getD k 0) (by simp[List.getD,h]);simp only[v7e,decide_eq_true_eq]at this;exact I this
theorem x0s {l:List UInt8}(h:l.all v7e=true)(hl:l.length<=2):0<=y5h l/\y5h l<=99:=by
 match l,h,hl with
 | [],_,_=>decide
 | [a],h,_=>simp[v7e]at h;simp[y5h,v2j];omega
 | [a,b],h,_=>simp[v7e]at h;simp[y5h,v2j];omega
 | _::_::_::_,_,hl=>simp at hl
def u2g (l:List UInt8):Int:=match Lib.atoiAll l with|.ok v=>v|_=>0
def j4z (l:List UInt8):Int:=if l=[114,105,103,104,116] then 1 else 0
def y5j (w:List UInt8):Nat->Int
  | 0=>0
  | i+1=>if z8n.getD i []=w then (i:Int) else y5j w i
def y8l (w:List UInt8):Int:=y5j w 9
theorem x2z (w:List UInt8):∀i:Nat,0<=y5j w i/\y5j w i<=i
 | 0=>by simp[y5j]
 | i+1=>by have:=x2z w i;unfold y5j;split<;>omega
theorem v9c {i:Nat}(h:i<9):(z8n.map S)[((i:Nat):Int).toNat]?=some (S (z8n.getD i [])):=by
 rw[Int.toNat_natCast,List.getElem?_map,List.getD,List.getElem?_eq_getElem (show i<z8n.length from h)];rfl
def fD (k:Int):Bool:=((z8f k).getD f40).1
def fN (k:Int):Bool:=((z8f k).getD f40).2.1
def y4l (k:Int)(ws:List (List UInt8)):MOp:=
  if k=1/\(ws.length:Int)=3 then ⟨k,j4z (ws.getD 2 []),0,0,u2g (ws.getD 1 []) % 256,0⟩
  else if k=2/\(ws.length:Int)=2 then ⟨k,0,0,0,u2g (ws.getD 1 []) % 256,0⟩
  else if k=3/\(ws.length:Int)=2 then ⟨k,0,0,0,0,u2g (ws.getD 1 [])⟩
  else if fD k=true/\(ws.length:Int)=4 then ⟨k,j4z (ws.getD 1 []),(x3q (ws.getD 2 [])).1,(x3q (ws.getD 2 [])).2,u2g (ws.getD 3 []) % 256,0⟩
  else if fN k=true/\(ws.length:Int)=2 then ⟨k,0,(x3q (ws.getD 1 [])).1,(x3q (ws.getD 1 [])).2,0,0⟩
  else ⟨k,0,0,0,0,0⟩
def z4d (ws:List (List UInt8)):MOp:=y4l (y8l (ws.getD 0 [])) ws
def y4p (l:List UInt8):MOp×Int:=
  if x3d (z4d (Lib.split l [32]))≠0\/j3k (z4d (Lib.split l [32]))≠l then (op0,4) else (z4d (Lib.split l [32]),0)
theorem x9l (D:List UInt8)(sv:Nat):∀(k:Nat) (l:List UInt8),1<=(Lib.splitK D sv k l).length
 | 0,l=>by simp[Lib.splitK]
 | k+1,l=>by unfold Lib.splitK;split<;>simp
theorem v3w (l D:List UInt8):1<=(Lib.split l D).length:=x9l _ _ _ _
theorem y7e (D:List UInt8):∀(k:Nat) (l x:List UInt8),x∈Lib.splitK D 0 k l->x.length<=l.length
 | 0,l,x,h=>by simp[Lib.splitK]at h;rw[h];exact Nat.le_refl _
 | k+1,l,x,h=>by
  unfold Lib.splitK at h
  split at h
  ·simp at h;rw[h];exact Nat.le_refl _
  rw[List.mem_cons]at h
  rcases h with rfl|h
  ·simp;omega
  have:=y7e D k _ x h
  simp at this;omega
theorem x2l (l D:List UInt8)(i:Nat):((Lib.split l D).getD i []).length<=l.length:=by
 rw[List.getD];cases e:(Lib.split l D)[i]? with
 | none=>simp
 | some y=>exact y7e D _ l y (List.mem_of_getElem? e)
def y7y (x:List UInt8):List UInt8:=Lib.trimB (Lib.cut x [35]).1 32
def x8y:List (List UInt8)->Int->List MOp->List MOp×Int×Int
  | [],_,acc=>(acc,0,0)
  | x::xs,i,acc=>if y7y x=[] then x8y xs (i+1) acc else if (y4p (y7y x)).2≠0 then ([],i+1,(y4p (y7y x)).2)
    else if (acc.length:Int)=4096 then ([],i+1,3) else x8y xs (i+1) (acc++[(y4p (y7y x)).1])
def y8q (l:List UInt8):List MOp×Int×Int:=x8y (Lib.split l [10]) 0 []
theorem v1f (x m:List UInt8):(Lib.cut x m).1.length<=x.length:=by unfold Lib.cut;(repeat' split)<;>simp<;>omega
theorem z9n (x:List UInt8)(c:UInt8):(Lib.trimB x c).length<=x.length:=by
 unfold Lib.trimB Lib.trimLeftB Lib.trimRightB;refine Nat.le_trans ((List.dropWhile_suffix _).length_le) ?_;rw[List.length_reverse];refine Nat.le_trans ((List.dropWhile_suffix _).length_le) ?_;rw[List.length_reverse];exact Nat.le_refl _
theorem u1e (x:List UInt8):(y7y x).length<=x.length:=Nat.le_trans (z9n _ _) (v1f _ _)
theorem v3g {α:Type}(l:List α)(i:Nat)(z:α)(h:i<l.length):l.drop i=l.getD i z::l.drop (i+1):=by
 rw[List.drop_eq_getElem_cons h];simp[List.getD,h]
end Go.Lw
namespace Go.G08
open Go.Lw Go.G21
abbrev Bed:=List (List LId)
structure Bd where
  f:Bed
  b:Bed
deriving DecidableEq
def trimB:Bed->Bed
  | []=>[]
  | s::l=>if trimB l=[]/\s=[] then [] else s::trimB l
def atB (l:Bed)(n:Int):List LId:=l.getD (n-1).toNat []
def Bd.at (B:Bd)(b n:Int):List LId:=if b=0 then atB B.f n else atB B.b n
def Bd.atC (B:Bd)(b n:Int):List LId:=if z4v b n=0 then B.at b n else []
def x3p (l:Bed)(n:Nat):Bed:=l++List.replicate (n-l.length) []
def y6o (l:Bed)(n:Nat)(s:List LId):Bed:=trimB (if n=0 then l else (x3p l n).set (n-1) s)
def Bd.put (B:Bd)(b n:Int)(s:List LId):Bd:=if b=0 then ⟨y6o B.f n.toNat s,trimB B.b⟩ else ⟨trimB B.f,y6o B.b n.toNat s⟩
def Bd.flat (B:Bd):List LId:=B.f.flatten++B.b.flatten
structure BdOk (B:Bd):Prop where
  lf:B.f.length<=40
  lb:B.b.length<=40
  ss:∀s∈B.f++B.b,s.length<=4
  nm:∀i∈B.flat,y1b i
  nd:B.flat.Nodup
structure BdW (B:Bd):Prop where
  lf:B.f.length<=40
  lb:B.b.length<=40
  ss:∀s∈B.f++B.b,s.length<=4
  nm:∀i∈B.flat,y1b i
theorem BdOk.w {B:Bd}(h:BdOk B):BdW B:=⟨h.lf,h.lb,h.ss,h.nm⟩
def z4t (b n r:Int):Int:=if z4v b n≠0\/¬(-4<=r/\r<=4) then 0 else if b=0 then 4*n+2 else 4*(n+r)
structure Hd where
  id:LId
  b:Int
  n:Int
  s:Int
deriving DecidableEq
def hd0:Hd:=⟨id0,0,0,0⟩
def hdS (b r:Int)(k:Nat)(x:LId):Hd:=⟨x,b,(k:Int)+1,z4t b ((k:Int)+1) r⟩
def hds (b r:Int)(l:Bed)(i:Nat):List Hd:=(List.range i).flatMap λk=>(l.getD k []).map (hdS b r k)
def v7k (B:Bd)(r:Int):List Hd:=hds 0 r B.f B.f.length++hds 1 r B.b B.b.length
def y1m (h:Hd):List Hd->List Hd
  | []=>[h]
  | x::l=>if h.s<x.s then h::x::l else x::y1m h l
def z5e (l:List Hd):List Hd:=l.foldl (λa h=>y1m h a) []
def z2q (B:Bd)(r:Int):List Hd:=z5e (v7k B r)
def btw (l:List Hd)(fr to:Int):List Pa:=
  if fr<to then (l.filter λh=>decide (fr<h.s/\h.s<to)).map λh=>⟨h.id,decide (h.b=1),1⟩
  else ((l.filter λh=>decide (to<h.s/\h.s<fr)).map λh=>⟨h.id,decide (h.b=1),0⟩).reverse
def x6x (d:Int)(x o:LId):Cx:=if d=0 then ⟨o,x,1⟩ else ⟨x,o,-1⟩
def y0j (r d:Int)(k:Nat):Int:=if d=0 then (k:Int)+1+r-1 else (k:Int)+1+r
def u2r (B:Bd)(r d:Int)(k:Nat):List Cx:=(B.b.getD k []).flatMap λx=>(B.atC 0 (y0j r d k)).reverse.map (x6x d x)
def x9v (B:Bd)(r d:Int)(i:Nat):List Cx:=(List.range i).flatMap (u2r B r d)
def z4g (B:Bd)(r d:Int):List Cx:=if d=1 then (x9v B r d B.b.length).reverse else x9v B r d B.b.length
def stI (d:Int):Int:=if d=0 then -1 else 1
def x1s (B:Bd)(r d p:Int)(k:Nat):List Pa:=if p≠z4t 1 ((k:Int)+1) r+stI d/\p≠z4t 1 ((k:Int)+1) r+3*stI d then [] else (B.b.getD k []).map λx=>⟨x,true,1-d⟩
def y6h (B:Bd)(r d p:Int)(i:Nat):List Pa:=(List.range i).flatMap (x1s B r d p)
def z7a (B:Bd)(r d p:Int):List Pa:=if d=1 then (y6h B r d p B.b.length).reverse else y6h B r d p B.b.length
def z6o (a b:LId):Int:=if a.y<b.y then -1 else if b.y<a.y then 1 else if a.n<b.n then -1 else if b.n<a.n then 1 else 0
def isC (a b:LId)(c:Cx):Bool:=decide (c.a=a/\c.b=b)
def y9f (l:List Cx)(a b:LId):Int:=((l.find? (isC a b)).map Cx.n).getD 0
def x0n (l:List Cx)(a b:LId)(n:Int):List Cx:=if l.any (isC a b) then l.map (λc=>if isC a b c then ⟨a,b,n⟩ else c) else l++[⟨a,b,n⟩]
def v5v (l:List Cx)(a b:LId):List Cx:=l.filter λc=>!isC a b c
def x3n (l:List Cx)(c:Cx):Except Int (List Cx):=
  let k:LId×LId:=if 0<z6o c.a c.b then (c.b,c.a) else (c.a,c.b)
  let n:=y9f l k.1 k.2+c.n
  if n < -1048576\/1048576<n then .error 3 else if n=0 then .ok (v5v l k.1 k.2) else .ok (x0n l k.1 k.2 n)
def z6m:List Cx->List Cx->Except Int (List Cx)
  | l,[]=>.ok l
  | l,c::r=>match x3n l c with|.error e=>.error e|.ok l'=>z6m l' r
structure MSt where
  rk:Int
  B:Bd
  ys:List Yn
  tb:Tb
  cr:List Cx
  fa:List LId
def yn0:Yn:=⟨false,0,0,false,[]⟩
def MSt.y (p:MSt)(y:Int):Yn:=p.ys.getD (y-1).toNat yn0
def MSt.setY (p:MSt)(y:Int)(q:Yn):MSt:={ p with ys:=p.ys.set (y-1).toNat q }
abbrev MR:=Except Int MSt
def lvS (y:Yn):Yn:=⟨false,0,y.ct,false,[]⟩
def mkS (y:Yn):Yn:=⟨true,y.pl,y.ct+1,false,[]⟩
def inM (p:MSt)(o:MOp):MR:=if enE (p.y o.y) o.d≠0 then .error (enE (p.y o.y) o.d) else .ok (p.setY o.y (enS (p.y o.y) o.d))
def v0g (p:MSt)(o:MOp):MR:=if lvE (p.y o.y)≠0 then .error (lvE (p.y o.y)) else .ok (p.setY o.y (lvS (p.y o.y)))
def z8k (p:MSt)(o:MOp):Int:=if (p.y o.y).inn=false then 12 else if o.d=1 then (if z4t o.b o.p p.rk<(p.y o.y).pl then 12 else 0) else if (p.y o.y).pl<z4t o.b o.p p.rk then 12 else 0
def x8w (p:MSt)(o:MOp):Int:=if o.d=1 then z4t o.b o.p p.rk+1 else z4t o.b o.p p.rk-1
def v1m (p:MSt)(y en:Int):List Pa:=btw (z2q p.B p.rk) (p.y y).pl en
def y6k (p:MSt)(y pl en:Int):MR:=if goE (p.y y) pl (v1m p y en)≠0 then .error (goE (p.y y) pl (v1m p y en)) else .ok (p.setY y (goS (p.y y) pl (v1m p y en)))
def MSt.row (p:MSt)(y:Int):List Lp:=p.tb.getD (y-1).toNat []
def x1m (p:MSt)(o:MOp)(th st:List LId):MR:=
  if mkE (p.y o.y)≠0 then .error (mkE (p.y o.y)) else if 2048<=z3t p.tb then .error 3
  else .ok { p with B:=p.B.put o.b o.p (st++[⟨o.y,(p.y o.y).ct⟩]),ys:=p.ys.set (o.y-1).toNat (mkS (p.y o.y)),tb:=p.tb.set (o.y-1).toNat (p.row o.y++[⟨o.b,(p.y o.y).nw,th,(p.y o.y).pe⟩]) }
def y3f (p:MSt)(o:MOp):MR:=if z8k p o≠0 then .error (z8k p o) else match y6k p o.y (x8w p o) (z4t o.b o.p p.rk) with
  | .error e=>.error e
  | .ok q=>x1m q o (q.B.at o.b o.p) []
def y2m (p:MSt)(o:MOp):MR:=if z8k p o≠0 then .error (z8k p o) else match y6k p o.y (x8w p o) (z4t o.b o.p p.rk) with
  | .error e=>.error e
  | .ok q=>if 4<=(q.B.at o.b o.p).length then .error 9 else x1m q o [] (q.B.at o.b o.p)
def y6n (p:MSt)(o:MOp):MR:=if z8k p o≠0 then .error (z8k p o) else y6k p o.y (x8w p o) (x8w p o)
def z8l (b n r:Int):Int:=if b=1 then n+r else n-r
def u2j (p:MSt)(o:MOp):Int:=min (z4t o.b o.p p.rk) (z4t (1-o.b) (z8l o.b o.p p.rk) p.rk)+1
def y0q (p:MSt)(o:MOp):List LId:=if o.b=1 then p.B.at 1 o.p++p.B.at 0 (z8l 1 o.p p.rk) else p.B.at 1 (z8l 0 o.p p.rk)++p.B.at 0 o.p
def y0h (p:MSt)(o:MOp):MR:=
  if p.B.at o.b o.p=[] then .error 13
  else if z4v (1-o.b) (z8l o.b o.p p.rk)≠0 then .error 11
  else if ∃y∈p.ys,y.inn=true/\y.pl=u2j p o then .error 12
  else if 4<(p.B.at o.b o.p).length+(p.B.at (1-o.b) (z8l o.b o.p p.rk)).length then .error 9
  else .ok { p with B:=(p.B.put o.b o.p []).put (1-o.b) (z8l o.b o.p p.rk) (y0q p o) }
def y5x (p:MSt)(o:MOp):MR:=if p.B.at o.b o.p=[] then .error 13 else .ok { p with B:=p.B.put o.b o.p [],fa:=p.fa++p.B.at o.b o.p }
def z9k (p:MSt)(d:Int)(y:Yn):Except Int Yn:=if y.inn=false then .ok y else if goE y y.pl (z7a p.B p.rk d y.pl)≠0 then .error (goE y y.pl (z7a p.B p.rk d y.pl)) else .ok (goS y y.pl (z7a p.B p.rk d y.pl))
def z6s (p:MSt)(d:Int):List Yn->Except Int (List Yn)
  | []=>.ok []
  | y::l=>match z9k p d y with
    | .error e=>.error e
    | .ok y'=>match z6s p d l with
      | .error e=>.error e
      | .ok l'=>.ok (y'::l')
def y2h (p:MSt)(d:Int):MR:=match z6s p d p.ys with
  | .error e=>.error e
  | .ok ys=>match z6m p.cr (z4g p.B p.rk d) with
    | .error e=>.error e
    | .ok cr=>.ok { p with ys:=ys,cr:=cr,rk:=p.rk+stI d }
def z6z:Nat->MSt->Int->MR
  | 0,p,_=>.ok p
  | n+1,p,r=>if p.rk=r then .ok p else match y2h p (if r<p.rk then 0 else 1) with
    | .error e=>.error e
    | .ok q=>z6z n q r
def v9i (p:MSt)(o:MOp):MR:=z6z 8 p o.r
def opM (p:MSt)(o:MOp):MR:=
  if o.k=1 then inM p o else if o.k=2 then v0g p o else if o.k=3 then v9i p o else if o.k=4 then y3f p o
  else if o.k=5 then y2m p o else if o.k=6 then y6n p o else if o.k=7 then y0h p o else y5x p o
def doM (p:MSt)(o:MOp):MR:=if x3d o≠0 then .error (x3d o) else opM p o
def z6l:Nat->MSt->List MOp->Except (Int×Nat) MSt
  | _,p,[]=>.ok p
  | i,p,o::l=>match doM p o with
    | .error e=>.error (e,i)
    | .ok q=>z6l (i+1) q l
def start:MSt:=⟨0,⟨[],[]⟩,List.replicate 6 yn0,List.replicate 6 [],[],[]⟩
theorem y0r:∀(l:Bed) (i:Nat),(trimB l).getD i []=l.getD i []
 | [],i=>rfl
 | s::l,i=>by
  have D:=y0r l
  unfold trimB
  split
  ·rename_i h
   cases i with
   | zero=>simp[h.2]
   | succ i=>have:=D i;rw[h.1]at this;simpa using this
  cases i with
  | zero=>simp
  | succ i=>simpa using D i
theorem y1h:∀l:Bed,(trimB l).flatten=l.flatten
 | []=>rfl
 | s::l=>by
  have D:=y1h l
  unfold trimB
  split
  ·rename_i h
   rw[h.1]at D
   simp only[List.flatten_cons,<-D,h.2];rfl
  simp only[List.flatten_cons,D]
theorem z9n:∀l:Bed,(trimB l).length<=l.length
 | []=>Nat.le_refl _
 | s::l=>by
  have D:=z9n l
  unfold trimB
  split
  ·simp
  simp only[List.length_cons];omega
theorem y3l:∀(l:Bed) {s:List LId},s∈trimB l->s∈l
 | [],s,h=>h
 | t::l,s,h=>by
  unfold trimB at h
  split at h
  ·cases h
  rcases List.mem_cons.1 h with rfl|h
  ·exact List.mem_cons_self ..
  exact List.mem_cons_of_mem _ (y3l l h)
theorem x7k:∀l:Bed,(∀s∈l,s=[])->trimB l=[]
 | [],_=>rfl
 | s::l,h=>by
  unfold trimB
  rw[if_pos ⟨x7k l λt D=>h t (List.mem_cons_of_mem _ D),h s (List.mem_cons_self ..)⟩]
theorem y1o:∀(l:Bed) (n:Nat),n<=l.length->(∀j,n<=j->l.getD j []=[])->(n=0\/l.getD (n-1) []≠[])->l.take n=trimB l
 | [],n,h,_,_=>by simp[trimB]
 | s::l,0,_,h,_=>by
  rw[x7k]
  ·rfl
  intro t Z
  obtain⟨i,M,rfl⟩:=List.getElem_of_mem Z
  have:=h i (Nat.zero_le _)
  rwa [List.getD,List.getElem?_eq_getElem M]at this
 | s::l,n+1,hl,h,hn=>by
  have J:=y1o l n (by simpa using hl) (λj hj=>by have:=h (j+1) (by omega);simpa using this)
  unfold trimB
  cases n with
  | zero=>
   have O:s≠[]:=by simpa using hn
   rw[if_neg (λe=>O e.2)]
   have:=J (.inl U)
   simp only[List.take_succ_cons,List.take_zero,this] at *
  | succ n=>
   have D:l.getD n []≠[]:=by simpa using hn
   have:=J (.inr D)
   rw[if_neg,List.take_succ_cons,this]
   rintro⟨e,-⟩
   have I:=y0r l n
   rw[e]at I
   exact D (by simpa using I.symm)
theorem x7h (l:Bed)(n i:Nat):(x3p l n).getD i []=l.getD i []:=by
 unfold x3p;by_cases h:i<l.length;simp only[List.getD,List.getElem?_append_left h];rw[List.getD,List.getD,List.getElem?_append_right (by omega),List.getElem?_replicate,List.getElem?_eq_none (by omega)];split<;>rfl
theorem u0i (l:Bed)(n:Nat):(x3p l n).flatten=l.flatten:=by
 unfold x3p;rw[List.flatten_append];have:(List.replicate (n-l.length) ([]:List LId)).flatten=[]:=by simp
 rw[this,List.append_nil]
theorem y8d (l:Bed)(n:Nat):(x3p l n).length=max l.length n:=by
 unfold x3p;rw[List.length_append,List.length_replicate];omega
theorem u0j (l:Bed){n:Nat}(hn:1<=n)(s:List LId)(i:Nat):(y6o l n s).getD i []=if i=n-1 then s else l.getD i []:=by
 unfold y6o;rw[y0r,if_neg (by omega),z1j (by rw[y8d];omega),x7h];split;rename_i e;rw[if_pos e.symm];rename_i e;rw[if_neg (λh=>e h.symm)]
theorem u3c {l:Bed}{n m:Int}(hn:1<=n)(D:1<=m)(s:List LId):atB (y6o l n.toNat s) m=if m=n then s else atB l m:=by
 unfold atB;rw[u0j _ (by omega)];by_cases e:m=n;subst e;rw[if_pos (by omega),if_pos U];rw[if_neg (by omega),if_neg e]
theorem v3s (l:Bed)(n:Int):atB (trimB l) n=atB l n:=y0r l _
theorem x1u (l:Bed){n:Int}(hn:1<=n)(s:List LId)(i:LId):(y6o l n.toNat s).flatten.count i+(atB l n).count i=l.flatten.count i+s.count i:=by
 unfold y6o;rw[y1h,if_neg (by omega)];have h:=z8a (α:=List LId) (λx=>x) (x3p l n.toNat) (n.toNat-1) [] s i (by rw[y8d];omega);simp only[List.flatMap_id']at h;rw[u0i,x7h]at h;have e:n.toNat-1=(n-1).toNat:=by omega
 unfold atB;rw[e]at h ⊢;omega
theorem v3l (l:Bed)(n:Nat)(s:List LId):(y6o l n s).length<=max l.length n:=by
 unfold y6o;refine Nat.le_trans (z9n _) ?_;split;omega;rw[List.length_set,y8d];exact Nat.le_refl _
theorem u8j (l:Bed)(n:Nat)(s:List LId){t:List LId}(h:t∈y6o l n s):t=s\/t∈l\/t=[]:=by
 unfold y6o at h;have h:=y3l _ h;split at h;exact .inr (.inl h);rcases List.mem_or_eq_of_mem_set h with h|h
 unfold x3p at h;rcases List.mem_append.1 h with h|h
 exact .inr (.inl h);exact .inr (.inr (List.eq_of_mem_replicate h));exact .inl h
theorem z3m {b n:Int}(h:z4v b n=0):(b=0\/b=1)/\1<=n/\n<=40:=by
 unfold z4v at h;split at h;omega;split at h<;>omega
theorem z4i (B:Bd){b n:Int}(h:z4v b n=0)(s:List LId)(i:LId):(B.put b n s).flat.count i+(B.at b n).count i=B.flat.count i+s.count i:=by
 obtain⟨I,D,J⟩:=z3m h;unfold Bd.put Bd.at Bd.flat;split;simp only[List.count_append,y1h];have:=x1u B.f D s i;omega;simp only[List.count_append,y1h];have:=x1u B.b D s i;omega
theorem v5q (B:Bd){b n D I:Int}(h:z4v b n=0)(O:z4v D I=0)(s:List LId):(B.put b n s).at D I=if D=b/\I=n then s else B.at D I:=by
 obtain⟨Z,J,h3⟩:=z3m h;obtain⟨h4,M,h6⟩:=z3m O;unfold Bd.put Bd.at;by_cases e:b=0;rw[if_pos e];by_cases e':D=0;rw[if_pos e',u3c J M];by_cases e2:I=n;rw[if_pos e2,if_pos ⟨by omega,e2⟩];rw[if_neg e2,if_neg (λk=>e2 k.2),if_pos e'];rw[if_neg e',v3s,if_neg (λk=>by omega),if_neg e'];rw[if_neg e];by_cases e':D=0;rw[if_pos e',v3s,if_neg (λk=>by omega),if_pos e'];rw[if_neg e',u3c J M];by_cases e2:I=n;rw[if_pos e2,if_pos ⟨by omega,e2⟩];rw[if_neg e2,if_neg (λk=>e2 k.2),if_neg e']
theorem v2x {l:Bed}{n:Int}(h:atB l n≠[]):atB l n∈l:=by
 unfold atB at *
 by_cases e:(n-1).toNat<l.length;exact z0t e;exact absurd (by rw[List.getD,List.getElem?_eq_none (by omega)];rfl) h
theorem v2y {B:Bd}{b n:Int}(h:B.at b n≠[]):B.at b n∈B.f++B.b:=by
 unfold Bd.at at *
 split;rename_i e;rw[if_pos e]at h;exact List.mem_append_left _ (v2x h);rename_i e;rw[if_neg e]at h;exact List.mem_append_right _ (v2x h)
theorem y5a {B:Bd}(h:BdOk B)(b n:Int):(B.at b n).length<=4:=by
 by_cases e:B.at b n=[];rw[e];simp;exact h.ss _ (v2y e)
theorem u6r (B:Bd):B.flat=(B.f++B.b).flatten:=by unfold Bd.flat;rw[List.flatten_append]
theorem y0e {B:Bd}{b n:Int}{i:LId}(h:i∈B.at b n):i∈B.flat:=by
 rw[u6r];exact List.mem_flatten.2 ⟨_,v2y (λe=>by rw[e]at h;cases h),h⟩
theorem y0v {B:Bd}{b n:Int}(h:z4v b n=0){s:List LId}{i:LId}(D:i∈(B.put b n s).flat):i∈s\/i∈B.flat:=by
 have:=z4i B h s i;have I:=List.count_pos_iff.2 D;by_cases e:0<s.count i;exact .inl (List.count_pos_iff.1 e);exact .inr (List.count_pos_iff.1 (by omega))
theorem BdOk.put {B:Bd}(h:BdOk B){b n:Int}(hn:z4v b n=0){s:List LId}(h4:s.length<=4)(Z:∀i∈s,y1b i)(O:∀i,B.flat.count i+s.count i<=(B.at b n).count i+1):BdOk (B.put b n s):=by
 obtain⟨h1,h2,h3⟩:=z3m hn;have hl:=h.lf;have M:=h.lb;refine⟨?_,?_,?_,?_,?_⟩;unfold Bd.put;split;have:=v3l B.f n.toNat s;simp only;omega;have:=z9n B.f;simp only;omega;unfold Bd.put;split;have:=z9n B.b;simp only;omega;have:=v3l B.b n.toNat s;simp only;omega;intro t D;unfold Bd.put at D;have J:∀l:Bed,(∀s∈l,s.length<=4)->∀t∈y6o l n.toNat s,t.length<=4:=λl hl t D=>by
  rcases u8j l _ s D with rfl|D|rfl
  exact h4;exact hl t D;simp
 have hf:∀s∈B.f,s.length<=4:=λs hs=>h.ss s (List.mem_append_left _ hs);have M:∀s∈B.b,s.length<=4:=λs hs=>h.ss s (List.mem_append_right _ hs);split at D;rcases List.mem_append.1 D with D|D
 exact J _ hf _ D;exact M _ (y3l _ D);rcases List.mem_append.1 D with D|D
 exact hf _ (y3l _ D);exact J _ M _ D;intro i I;rcases y0v hn I with I|I
 exact Z i I;exact h.nm i I;rw[List.nodup_iff_count];intro i;have:=z4i B hn s i;have:=O i;omega
structure MInv (p:MSt):Prop where
  rk:-4<=p.rk/\p.rk<=4
  B:BdOk p.B
  ly:p.ys.length=6
  lt:p.tb.length=6
  yn:∀y,y<6->y0p (p.ys.getD y yn0)/\(p.ys.getD y yn0).ct=z2o p.tb y
  has:∀i∈p.B.flat,z3z p.tb i
  cnt:p.B.flat.length+p.fa.length<=z3t p.tb
  all:z3t p.tb<=2048
  cv:∀c∈p.cr,-1048576<=c.n/\c.n<=1048576
theorem z8x:MInv start:=by
 refine⟨by decide,⟨by decide,by decide,by intro s J;simp[start]at J,by intro i D;simp[start,Bd.flat]at D,by simp[start,Bd.flat]⟩,rfl,rfl,λy M=>?_,by intro i D;simp[start,Bd.flat]at D,by decide,by decide,by intro c I;simp[start]at I⟩;have:start.ys.getD y yn0=yn0:=by
  simp only[start,List.getD,List.getElem?_replicate];split<;>rfl
 rw[this];refine⟨by decide,?_⟩;simp only[start,z2o,List.getD,List.getElem?_replicate];rw[if_pos M];rfl
theorem y5n {o:MOp}(h:x3d o=0):(o.k=1\/o.k=2\/o.k=3\/o.k=4\/o.k=5\/o.k=6\/o.k=7\/o.k=8)/\(o.k=1->z5y o.d)/\((o.k=1\/o.k=2\/o.k=4\/o.k=5\/o.k=6)->1<=o.y/\o.y<=6)/\((o.k=4\/o.k=5\/o.k=6)->z5y o.d)/\((4<=o.k)->z4v o.b o.p=0)/\(o.k=3->-4<=o.r/\o.r<=4):=by
 unfold x3d at h
 split at h
 ·omega
 rename_i I
 have I:=Classical.not_not.1 I
 split at h
 ·omega
 rename_i hr
 obtain⟨D,J,M,O,Z⟩:=I
 unfold z8f at D J M O Z
 unfold z5y
 unfold pl1 at J
 unfold pl2 at M
 unfold pl3 at O
 unfold pl4 at Z
 have a0:∀a:Int,¬(a≠0)->a=0:=λa h=>by omega
 repeat' split at D
 all_goals first|(simp at D;done)|skip
 all_goals simp_all
 all_goals omega
structure BdQ where
  f:SV
  b:SV
  fs:List IQ
  bs:List IQ
abbrev plB (l:List IQ):Bed:=l.map Prod.snd
abbrev BdQ.p (q:BdQ):Bd:=⟨plB q.fs,plB q.bs⟩
abbrev bdL (q:BdQ):List Value:=[.slice q.f.1 q.f.2.1 q.f.2.2,.slice q.b.1 q.b.2.1 q.b.2.2]
structure BdAt (w:World) (q:BdQ):Prop where
  f:Sl z5r w (slv q.f) q.fs
  fi:IqAt w q.fs
  b:Sl z5r w (slv q.b) q.bs
  bi:IqAt w q.bs
theorem BdAt.ext {w w':World}{q:BdQ}(h:BdAt w q)(hf:Fr [] w w'):BdAt w' q:=⟨h.f.ext hf,h.fi.ext hf,h.b.ext hf,h.bi.ext hf⟩
theorem BdAt.len {w:World}{q:BdQ}(h:BdAt w q):q.f.2.1=q.fs.length/\q.b.2.1=q.bs.length:=⟨z1u h.f,z1u h.b⟩
def RwO (S I base:Nat)(w:World)(v:Value)(l:List IQ):Prop:=Lw.Own z5r S base w v l/\∀q∈l,Lw.Own z1h I base w (slv q.1) q.2
theorem RwO.ext {S I base:Nat}{w w':World}{v:Value}{l:List IQ}(h:RwO S I base w v l)(hf:Fr [] w w'):RwO S I base w' v l:=⟨h.1.ext hf,λq D=>(h.2 q D).ext hf⟩
theorem RwO.low {S I base b:Nat}{w:World}{v:Value}{l:List IQ}(h:RwO S I base w v l)(hb:b<=base):RwO S I b w v l:=⟨h.1.low hb,λq D=>(h.2 q D).low hb⟩
theorem RwO.at {S I base:Nat}{w:World}{v:Value}{l:List IQ}(h:RwO S I base w v l):IqAt w l:=λq D=>(h.2 q D).sl
theorem RwO.fr {S I base:Nat}{w w':World}{v:Value}{l:List IQ}{T:List Nat}(h:RwO S I base w v l)(hf:Fr T w w')(M:∀k∈T,k<base):RwO S I base w' v l:=
 ⟨h.1.fr hf λk J D=>by have:=M k J;have:=(h.1.blk k D).1;omega,λq O=>(h.2 q O).fr hf λk J D=>by have:=M k J;have:=((h.2 q O).blk k D).1;omega⟩
structure BdO (S I base:Nat) (w:World) (q:BdQ):Prop where
  f:RwO S I base w (slv q.f) q.fs
  b:RwO S I base w (slv q.b) q.bs
theorem BdO.ext {S I base:Nat}{w w':World}{q:BdQ}(h:BdO S I base w q)(hf:Fr [] w w'):BdO S I base w' q:=⟨h.f.ext hf,h.b.ext hf⟩
theorem BdO.low {S I base b:Nat}{w:World}{q:BdQ}(h:BdO S I base w q)(hb:b<=base):BdO S I b w q:=⟨h.f.low hb,h.b.low hb⟩
theorem BdO.at {S I base:Nat}{w:World}{q:BdQ}(h:BdO S I base w q):BdAt w q:=⟨h.f.1.sl,h.f.at,h.b.1.sl,h.b.at⟩
theorem z3n (l:List IQ)(i:Nat):(plB l).getD i []=(l.getD i iq0).2:=by
 unfold plB;rw[List.getD,List.getD,List.getElem?_map];cases l[i]?<;>rfl
theorem x8a {l:List IQ}{i:Nat}(h:l.length<=i):(l.getD i iq0).2=[]:=by rw[List.getD,List.getElem?_eq_none h];rfl
theorem v1q (l:List IQ)(n M:Nat)(hM:M=max l.length n):plB (l++List.replicate (M-l.length) iq0)=x3p (plB l) n:=by
 unfold x3p plB;rw[List.map_append,List.map_replicate,List.length_map];congr 2;omega
theorem u3f (w:World):Sl z1h w (slv iq0.1) iq0.2:=Sl.nil w
theorem x7j {w:World}{l:List IQ}{k:Nat}(h:IqAt w l):IqAt w (l++List.replicate k iq0):=λq D=>by
 rcases List.mem_append.1 D with D|D
 ·exact h q D
 rw[List.eq_of_mem_replicate D];exact u3f w
theorem v8t {w:World}{l:List IQ}{i:Nat}{q:IQ}(h:IqAt w l)(I:Sl z1h w (slv q.1) q.2):IqAt w (l.set i q):=λp D=>by
 rcases List.mem_or_eq_of_mem_set D with D|rfl
 ·exact h p D
 exact I
def z8p (l:List IQ):Prop:=∀q∈l,q.2.length<=4
theorem x6y {l:List IQ}{k:Nat}(h:z8p l):z8p (l++List.replicate k iq0):=λq D=>by
 rcases List.mem_append.1 D with D|D
 ·exact h q D
 rw[List.eq_of_mem_replicate D];exact Nat.zero_le _
theorem v7z {l:List IQ}{i:Nat}{q:IQ}(h:z8p l)(I:q.2.length<=4):z8p (l.set i q):=λp D=>by
 rcases List.mem_or_eq_of_mem_set D with D|rfl
 ·exact h p D
 exact I
theorem z3h {l:List IQ}(h:z8p l)(i:Nat):(l.getD i iq0).2.length<=4:=by
 by_cases e:i<l.length;exact h _ (z0t e);rw[x8a (by omega)];simp
theorem z1y {w:World}{l:List IQ}(h:IqAt w l)(i:Nat):Sl z1h w (slv (l.getD i iq0).1) (l.getD i iq0).2:=by
 by_cases e:i<l.length;exact h _ (z0t e);rw[List.getD,List.getElem?_eq_none (by omega)];exact u3f w
theorem u5d {l m:List IQ}(h:z8p l)(e:plB m=plB l):z8p m:=λq J=>by
 have:q.2∈plB l:=by rw[<-e];exact List.mem_map_of_mem J
 obtain⟨M,D,I⟩:=List.mem_map.1 this
 rw[<-I];exact h M D
theorem u7a {l:List IQ}{i:Nat}{q:IQ}(h:q.2=(l.getD i iq0).2):plB (l.set i q)=plB l:=by
 unfold plB;rw[List.map_set];apply List.ext_getElem?;intro j;rw[List.getElem?_set];split;rename_i e;subst e;split;rename_i D;rw[List.length_map]at D;rw[List.getElem?_map,List.getElem?_eq_getElem D,h,List.getD,List.getElem?_eq_getElem D];rfl;rename_i D;rw[List.getElem?_eq_none (by omega)];rfl
def BdQ.sv (q:BdQ)(b:Int):SV:=if b=1 then q.b else q.f
def BdQ.l (q:BdQ)(b:Int):List IQ:=if b=1 then q.bs else q.fs
theorem BdAt.sel {w:World}{q:BdQ}(h:BdAt w q)(b:Int):Sl z5r w (slv (q.sv b)) (q.l b)/\IqAt w (q.l b):=by
 unfold BdQ.sv BdQ.l;split;exact⟨h.b,h.bi⟩;exact⟨h.f,h.fi⟩
theorem BdQ.at_l (q:BdQ){b p:Int}(hn:z4v b p=0):((q.l b).getD (p-1).toNat iq0).2=q.p.at b p:=by
 obtain⟨D,_,_⟩:=z3m hn;unfold BdQ.l Bd.at atB;split;rw[if_neg (by omega),z3n];rw[if_pos (by omega),z3n]
theorem u4e (l:Bed):y6o l 0 []=trimB l:=by unfold y6o;rw[if_pos U]
theorem j5x (B:Bd){b:Int}(n:Nat)(s:List LId)(h:b=0):(⟨y6o B.f n s,y6o B.b 0 []⟩:Bd)=B.put b (n:Int) s:=by
 unfold Bd.put;rw[if_pos h,u4e,Int.toNat_natCast]
theorem j7p (B:Bd){b:Int}(n:Nat)(s:List LId)(h:¬b=0):(⟨y6o B.f 0 [],y6o B.b n s⟩:Bd)=B.put b (n:Int) s:=by
 unfold Bd.put;rw[if_neg h,u4e,Int.toNat_natCast]
def PreO (I base:Nat)(w:World)(l:List IQ)(i:Nat):Prop:=∀j,j<i->Lw.Own z1h I base w (slv (l.getD j iq0).1) (l.getD j iq0).2
theorem PreO.zero {I base:Nat}{w:World}{l:List IQ}:PreO I base w l 0:=λj D=>absurd D (by omega)
theorem PreO.ext {I base i:Nat}{w w':World}{l:List IQ}(h:PreO I base w l i)(hf:Fr [] w w'):PreO I base w' l i:=λj D=>(h j D).ext hf
theorem PreO.fr {I base i:Nat}{w w':World}{l:List IQ}{S:List Nat}(h:PreO I base w l i)(hf:Fr S w w')(J:∀k∈S,k<base):PreO I base w' l i:=λj D=>(h j D).fr hf λk O M=>by
 have:=J k O;have:=((h j D).blk k M).1;omega
theorem PreO.put {I base i:Nat}{w:World}{l:List IQ}{q:IQ}(h:PreO I base w l i)(D:i<l.length)(J:Lw.Own z1h I base w (slv q.1) q.2):PreO I base w (l.set i q) (i+1):=λj M=>by
 rw[z1j D]
 split
 ·exact J
 exact h j (by omega)
theorem PreO.all {I base b:Nat}{w:World}{l:List IQ}(h:PreO I base w l l.length)(hb:b<=base):∀q∈l,Lw.Own z1h I b w (slv q.1) q.2:=λq J=>by
 obtain⟨j,D,rfl⟩:=List.getElem_of_mem J
 have:=h j D
 rw[List.getD,List.getElem?_eq_getElem D]at this
 exact this.low hb
theorem y4b {w:World}{l m:List IQ}{n:Nat}(e:m=l.take n)(h:IqAt w l):IqAt w m:=λq D=>h q (List.mem_of_mem_take (e▸D))
theorem v9k {l m:List IQ}{i:Nat}{q:IQ}(h:∀j,i<=j->l.getD j iq0=m.getD j iq0)(D:i<l.length):∀j,i+1<=j->(l.set i q).getD j iq0=m.getD j iq0:=λj I=>by
 rw[z1j D,if_neg (by omega)];exact h j (by omega)
theorem u7g {D O qs:List IQ}{m n:Nat}{s:List LId}(I:O=D.take m)(J:(plB D).take m=trimB (plB D))(M:plB D=if n=0 then plB qs else (x3p (plB qs) n).set (n-1) s):plB O=y6o (plB qs) n s:=by
 rw[I];unfold plB at *
 rw[List.map_take,J,M];rfl
theorem v9x {qs:List IQ}{n M:Nat}{s:List LId}(hn:n=0)(hM:M=max qs.length n):plB (qs++List.replicate (M-qs.length) iq0)=(if n=0 then plB qs else (x3p (plB qs) n).set (n-1) s):=by
 subst hn;rw[if_pos U,v1q qs 0 M hM];unfold x3p;simp
theorem u7o {qs:List IQ}{n M:Nat}{q:IQ}(hn:0<n)(hM:M=max qs.length n):plB ((qs++List.replicate (M-qs.length) iq0).set (n-1) q)=(if n=0 then plB qs else (x3p (plB qs) n).set (n-1) q.2):=by
 rw[if_neg (by omega),<-v1q qs n M hM];exact List.map_set
end Go.G08
namespace Go.Lw
open Go.RowKit
structure KeyLaw {κ:Type} [DecidableEq κ] (P:Program) (K:TypeId) (V:κ->Value):Prop where
  check:∀b k (w:World),(Instr.checkKey b 10000 K (V k)).run P w=.ok () w
  find:∀k (es:List MapEntry) (ks:List κ) (w:World),es.map (·.key)=ks.map V->
    (Instr.findKey K (V k) es).run P w=.ok ((ks.findIdx? (λx=>decide (k=x))).bind λi=>(es[i]?).map λe=>(i,e.val)) w
  bits:∀k,Instr.sameBits 10000 (V k) (V k)=true
def z2k {κ:Type}[DecidableEq κ]:List (κ×Value)->κ->Option Value
  | [],_=>none
  | p::r,k=>if k=p.1 then some p.2 else z2k r k
def MapF {κ:Type}[DecidableEq κ](V:κ->Value)(w:World)(g:Nat)(f:κ->Option Value):Prop:=
  ∃(es:Array MapEntry) (c:Nat) (m:List (κ×Value)),w.heap[g]?=some (.map es c)/\es.toList.map (λe=>(e.key,e.val))=m.map (λp=>(V p.1,p.2))/\∀k,z2k m k=f k
section
variable {κ:Type} [DecidableEq κ] {V:κ->Value} {P:Program} {K:TypeId}
theorem y0u (I:∀k k' (w:World),(Op.equal K (V k) (V k')).run P w=.ok (decide (k=k')) w)(k:κ):∀(D:List MapEntry) (ks:List κ) (i:Nat) (w:World),D.map (·.key)=ks.map V->
    (Instr.findAsking K (V k) D i).run P w=.ok ((ks.findIdx? (λx=>decide (k=x))).bind λj=>(D[j]?).map λe=>(i+j,e.val)) w
  | [],[],i,w,_=>by simp[Instr.findAsking]
  | [],_::_,_,_,h=>by simp at h
  | _::_,[],_,_,h=>by simp at h
  | e::D,x::ks,i,w,h=>by
    simp only[List.map_cons,List.cons.injEq]at h
    have J:=y0u I k D ks (i+1) w h.2
    simp only[Instr.findAsking,h.1,Sem.run_bind,I k x w,Result.andThen_ok]
    by_cases hx:k=x
    · simp[hx,List.findIdx?_cons]
    · simp only[hx,decide_false,Bool.false_eq_true,if_false,J,List.findIdx?_cons,Option.bind_map]
      congr 1
      cases hf:ks.findIdx? (λx=>decide (k=x)) with
      | none=>simp
      | some j=>simp[Nat.add_assoc,Nat.add_comm 1 j]
theorem KeyLaw.asking {d:TypeDesc}(J:P.underlying K=some d)(Z:∀k k',Instr.sameNow d (V k) (V k')=none)(M:∀b k (w:World),(Instr.checkKey b 10000 K (V k)).run P w=.ok () w)
    (heq:∀k k' (w:World),(Op.equal K (V k) (V k')).run P w=.ok (decide (k=k')) w) (hb:∀k,Instr.sameBits 10000 (V k) (V k)=true):KeyLaw P K V:=by
  refine⟨M,λk I D w h=>?_,hb⟩
  cases I with
  | nil=>
    cases D with
    | nil=>simp[Instr.findKey,run_underlying J,Instr.findNow]
    | cons x D=>simp at h
  | cons e I=>
    cases D with
    | nil=>simp at h
    | cons x D=>
      have O:Instr.findNow d (V k) (e::I) 0=none:=by
        simp only[List.map_cons,List.cons.injEq]at h
        simp[Instr.findNow,h.1,Z]
      have:=y0u heq k (e::I) (x::D) 0 w h
      simp only[Instr.findKey,Sem.run_bind,run_underlying J,Result.andThen_ok,O,this,Nat.zero_add]
theorem y7v {d:TypeDesc}(I:∀k k',Instr.sameNow d (V k) (V k')=some (decide (k=k')))(k:κ):∀(D:List MapEntry) (ks:List κ) (i:Nat),D.map (·.key)=ks.map V->
    Instr.findNow d (V k) D i=some ((ks.findIdx? (λx=>decide (k=x))).bind λj=>(D[j]?).map λe=>(i+j,e.val))
  | [],[],i,_=>by simp[Instr.findNow]
  | [],_::_,_,h=>by simp at h
  | _::_,[],_,h=>by simp at h
  | e::D,x::ks,i,h=>by
    simp only[List.map_cons,List.cons.injEq]at h
    have J:=y7v I k D ks (i+1) h.2
    simp only[Instr.findNow,h.1,I]
    by_cases hx:k=x
    · simp[hx,List.findIdx?_cons]
    · simp only[hx,decide_false,J,List.findIdx?_cons,Bool.false_eq_true,if_false,Option.bind_map]
      congr 2
      funext j;simp[Nat.add_assoc,Nat.add_comm 1 j]
theorem KeyLaw.now {d:TypeDesc}(M:P.underlying K=some d)(J:∀k k',Instr.sameNow d (V k) (V k')=some (decide (k=k')))(I:∀b k (w:World),(Instr.checkKey b 10000 K (V k)).run P w=.ok () w)
    (hb:∀k,Instr.sameBits 10000 (V k) (V k)=true):KeyLaw P K V:=by
  refine⟨I,λk D O w h=>?_,hb⟩
  have:=y7v J k D O 0 h
  simp only[Instr.findKey,Sem.run_bind,run_underlying M,Result.andThen_ok,this,Nat.zero_add,Sem.run_pure]
theorem y1l (m:List (κ×Value))(k:κ):∀(D:List MapEntry),D.map (λe=>(e.key,e.val))=m.map (λp=>(V p.1,p.2))->
    (((m.map (·.1)).findIdx? (λx=>decide (k=x))).bind λi=>(D[i]?).map λe=>(i,e.val)).map (·.2)=z2k m k:=by
  induction m with
  | nil=>intro D h;simp[z2k]
  | cons p m ih=>
    intro D h
    match D,h with
    | e::D,h=>
      simp only[List.map_cons,List.cons.injEq,Prod.mk.injEq]at h
      have:=ih D h.2
      unfold z2k
      by_cases hk:k=p.1
      · simp[hk,List.findIdx?_cons,h.1.2]
      · simp only[List.map_cons,List.findIdx?_cons,hk,decide_false,if_false,Bool.false_eq_true]
        rw[<-this]
        cases (m.map (·.1)).findIdx? (λx=>decide (k=x)) with
        | none=>simp
        | some j=>
          simp
          rfl
def z3u (m:List (κ×Value))(k:κ)(v:Value):List (κ×Value):=
  match (m.map (·.1)).findIdx? (λx=>decide (k=x)) with
  | some i=>m.modify i λp=>(p.1,v)
  | none=>m++[(k,v)]
theorem y3a (m:List (κ×Value))(k k':κ)(v:Value):(m.map (·.1)).findIdx? (λx=>decide (k=x))=none->z2k (m++[(k,v)]) k'=if k'=k then some v else z2k m k':=by
 induction m with
 | nil=>intro _;simp[z2k]
 | cons p m ih=>
  intro h;simp only[List.map_cons,List.findIdx?_cons]at h;split at h;cases h;rename_i I;have D:¬k=p.1:=by simpa using I
  have:=ih (by simpa using h);simp only[List.cons_append,z2k,this];by_cases e:k'=p.1;subst e;simp[Ne.symm D];simp[e]
theorem z9m (k k':κ)(v:Value):∀(m:List (κ×Value)) (i:Nat),(m.map (·.1)).findIdx? (λx=>decide (k=x))=some i->z2k (m.modify i λp=>(p.1,v)) k'=if k'=k then some v else z2k m k'
 | [],i,h=>by simp at h
 | p::m,i,h=>by
  simp only[List.map_cons,List.findIdx?_cons]at h
  split at h
  ·rename_i I
   have D:k=p.1:=by simpa using I
   simp at h;subst h
   simp only[List.modify_zero_cons,z2k,D]
   by_cases e:k'=p.1<;>simp[e]
  rename_i I
  have D:¬k=p.1:=by simpa using I
  cases hf:(m.map (·.1)).findIdx? (λx=>decide (k=x)) with
  | none=>rw[hf]at h;simp at h
  | some j=>
   rw[hf]at h;simp at h;subst h
   have:=z9m k k' v m j hf
   simp only[List.modify_succ_cons,z2k,this]
   by_cases e:k'=p.1
   ·subst e;simp[Ne.symm D]
   simp[e]
theorem MapF.fr {w w':World}{g:Nat}{f:κ->Option Value}{S:List Nat}(h:MapF V w g f)(hf:Fr S w w')(hn:g∉S:=by simp[z0v]<;>omega):MapF V w' g f:=by
 obtain⟨I,c,m,D,J,M⟩:=h;exact⟨I,c,m,(hf.block g (Array.getElem?_eq_some_iff.1 D).1 hn).trans D,J,M⟩
theorem MapF.ext {w w':World}{g:Nat}{f:κ->Option Value}(h:MapF V w g f)(hf:Fr [] w w'):MapF V w' g f:=h.fr hf (by simp)
theorem MapF.lt {w:World}{g:Nat}{f:κ->Option Value}(h:MapF V w g f):g<w.heap.size:=let ⟨_,_,_,h1,_⟩:=h;(Array.getElem?_eq_some_iff.1 h1).1
theorem MapF.ne_blk {w:World}{g D T:Nat}{f:κ->Option Value}{cs:List Value}(h:MapF V w g f)(I:Blk w D T cs):g≠D:=by
 rintro rfl;obtain⟨_,_,_,J,_⟩:=h;unfold Blk at I;rw[I]at J;cases J
theorem z2l {w:World}{g:Nat}{D:Array MapEntry}{c:Nat}(h:w.heap[g]?=some (.map D c)):(getObj g).run P w=.ok (.map D c) w:=by
 simp[getObj,Sem.run,h]
theorem y6r {w:World}{g:Nat}{f:κ->Option Value}{t E:TypeId}{z:Value}(h:MapF V w g f)(O:KeyLaw P K V)(hu:P.underlying t=some (.map K E))(hz:(zeroValue E).run P w=.ok z w)(k:κ) :
    (Instr.lookup t (.map (some g)) (V k) false).run P w=.ok ((f k).getD z) w:=by
  obtain⟨M,c,m,Z,h2,h3⟩:=h
  have J:M.toList.map (·.key)=(m.map (·.1)).map V:=by
    have:=congrArg (List.map Prod.fst) h2
    simpa[List.map_map,Function.comp_def] using this
  have I:=O.find k M.toList (m.map (·.1)) w J
  have D:=y1l (V:=V) m k M.toList h2
  rw[h3]at D
  generalize ((m.map (·.1)).findIdx? (λx=>decide (k=x))).bind (λi=>(M.toList[i]?).map λe=>(i,e.val))=r at I D
  cases r with
  | none=>simp at D;simp[Instr.lookup,run_underlying hu,z2l Z,O.check,I,hz,<-D]
  | some p=>simp at D;simp[Instr.lookup,run_underlying hu,z2l Z,O.check,I,<-D]
theorem x3z {w:World}{g:Nat}{f:κ->Option Value}{t E:TypeId}{z:Value}(h:MapF V w g f)(O:KeyLaw P K V)(hu:P.underlying t=some (.map K E))(hz:(zeroValue E).run P w=.ok z w)(k:κ) :
    (Instr.lookup t (.map (some g)) (V k) true).run P w=.ok (.tuple #[(f k).getD z,.bool (f k).isSome]) w:=by
  obtain⟨M,c,m,Z,h2,h3⟩:=h
  have J:M.toList.map (·.key)=(m.map (·.1)).map V:=by
    have:=congrArg (List.map Prod.fst) h2
    simpa[List.map_map,Function.comp_def] using this
  have I:=O.find k M.toList (m.map (·.1)) w J
  have D:=y1l (V:=V) m k M.toList h2
  rw[h3]at D
  generalize ((m.map (·.1)).findIdx? (λx=>decide (k=x))).bind (λi=>(M.toList[i]?).map λe=>(i,e.val))=r at I D
  cases r with
  | none=>simp at D;simp[Instr.lookup,run_underlying hu,z2l Z,O.check,I,hz,<-D]
  | some p=>simp at D;simp[Instr.lookup,run_underlying hu,z2l Z,O.check,I,<-D]
theorem y0n {w:World}{g:Nat}{f:κ->Option Value}{t E:TypeId}(h:MapF V w g f)(hk:KeyLaw P K V)(hu:P.underlying t=some (.map K E))(k:κ)(v:Value) :
    ∃w',(Instr.mapUpdate t (.map (some g)) (V k) v).run P w=.ok () w'/\MapF V w' g (λk'=>if k'=k then some v else f k')/\Fr [g] w w'/\w'.heap.size=w.heap.size:=by
  obtain⟨D,c,m,h1,h2,h3⟩:=h
  have a5:=(Array.getElem?_eq_some_iff.1 h1).1
  have M:D.toList.map (·.key)=(m.map (·.1)).map V:=by
    have:=congrArg (List.map Prod.fst) h2
    simpa[List.map_map,Function.comp_def] using this
  have I:=hk.find k D.toList (m.map (·.1)) w M
  have Z:∀o,(setObj g o).run P w=.ok () { w with heap:=w.heap.setIfInBounds g o }:=by intro o;simp[setObj,Sem.run,h1]
  have a2:∀o,Fr [g] w { w with heap:=w.heap.setIfInBounds g o }:=λo=>⟨rfl,rfl,rfl,by simp,λi _ hn=>by
    simp only
    rw[Array.getElem?_setIfInBounds_ne (by intro e;subst e;simp at hn)]⟩
  have J:∀o,({ w with heap:=w.heap.setIfInBounds g o }:World).heap[g]?=some o:=by intro o;simp[a5]
  have a7:D.toList.length=m.length:=by have:=congrArg List.length h2;simpa using this
  cases hf:(m.map (·.1)).findIdx? (λx=>decide (k=x)) with
  | none=>
    refine⟨_,?_,⟨_,_,m++[(k,v)],J (.map (D.push { key:=V k,val:=v,born:=c }) (c+1)),?_,λk'=>?_⟩,a2 _,by simp⟩
    · rw[hf]at I
      simp only[Instr.mapUpdate,Sem.run_bind,run_underlying hu,Result.andThen_ok,z2l h1,hk.check,I,Option.bind_none,Z]
    · simp[h2]
    · rw[y3a m k k' v hf,h3]
  | some i=>
    have hi:i<m.length:=by
      have:=List.findIdx?_eq_some_iff_findIdx_eq.1 hf
      simpa using this.1
    have O:i<D.toList.length:=by omega
    have a3:V k=(D.toList[i]).key:=by
      have a4:=List.findIdx?_eq_some_iff_getElem.1 hf
      obtain⟨a8,hp,_⟩:=a4
      have a6:k=(m.map (·.1))[i]:=by simpa using hp
      have e1:(D.toList.map (·.key))[i]?=((m.map (·.1)).map V)[i]?:=by rw[M]
      simp only[List.getElem?_map,List.getElem?_eq_getElem O,List.getElem?_eq_getElem hi,Option.map_some,Option.some.injEq]at e1
      rw[e1,a6];simp
    refine⟨_,?_,⟨_,_,m.modify i λp=>(p.1,v),J (.map (D.modify i λe=>{ e with key:=V k,val:=v }) c),?_,λk'=>?_⟩,a2 _,by simp⟩
    · rw[hf]at I
      have a0:D[i]?=some D.toList[i]:=by rw[<-Array.getElem?_toList,List.getElem?_eq_getElem O]
      simp only[Option.bind_some,List.getElem?_eq_getElem O,Option.map_some]at I
      have a1:(Instr.keyThatStays (((D[i]?).map (·.key)).getD (V k)) (V k)).run P w=.ok (V k) w:=by
        rw[a0]
        simp only[Option.map_some,Option.getD_some,<-a3,Instr.keyThatStays,hk.bits,if_true,Sem.run_pure]
      simp only[Instr.mapUpdate,Sem.run_bind,run_underlying hu,Result.andThen_ok,z2l h1,hk.check,I,a1,Z]
    · apply List.ext_getElem?
      intro j
      have e2:=congrArg (·[j]?) h2
      simp only[List.getElem?_map]at e2 ⊢
      rw[Array.getElem?_toList,Array.getElem?_modify,List.getElem?_modify]
      rw[Array.getElem?_toList]at e2
      by_cases hj:i=j
      · subst hj
        have e3:=List.getElem?_eq_getElem hi
        have a0:D[i]?=some D.toList[i]:=by rw[<-Array.getElem?_toList,List.getElem?_eq_getElem O]
        rw[a0,e3]at e2 ⊢
        simp only[Option.map_some,Option.some.injEq,Prod.mk.injEq]at e2
        simp only[if_true,Option.map_some]
        rw[a3,e2.1];rfl
      · simp only[hj,if_false]
        rw[e2];simp
    · rw[z9m k k' v m i hf,h3]
variable {a:Act} {n:Nat} {L:List (Nat×Value)} {ds:List Nat} {w w':World} {Q:Exit->Act->World->Prop} {C:World->Prop} {Qa:Act->Prop} {ops:Array Oper} {rest:List Oper}
variable {d:Nat} {ty:TypeId} {pos:String} {after:Array Edge} {x y z:Operand} {t E:TypeId} {g:Nat} {f:κ->Option Value} {k:κ} {v zv:Value}
theorem x9c (V:κ->Value)(h:AgM ds a n L)(hn:Nat.blt d n=true)
    (q:∀g w',g=w.heap.size->MapF V w' g (λ_=>none)->Fr [] w w'->w'.heap.size=g+1->∀a,AgM ds a n ((d,.map (some g))::L)->wpList P ops Q rest a w'):wpList P ops Q (⟨some d,.makeMap t none,ty,pos,after,none⟩::rest) a w:=
  z1x h U hn (w':=w.alloc (.map #[] 0)) (by simp[execOp,Instr.makeMap]) (q _ _ U ⟨_,_,[],heap_alloc_new w _,by simp,λ_=>rfl⟩ (Fr.alloc [] w _) (by simp))
theorem y4y (V:κ->Value)(hn:Nat.blt d n=true)(q:∀g w',g=w.heap.size->MapF V w' g (λ_=>none)->Fr [] w w'->w'.heap.size=g+1->WL P ops Q rest n ds w' ((d,.map (some g))::L)):WL P ops Q (⟨some d,.makeMap t none,ty,pos,after,none⟩::rest) n ds w L:=λa h=>x9c V h hn q
theorem v4u (h:AgM ds a n L)(M:ev L x=some (.map (some g)))(O:ev L y=some (V k))(I:MapF V w g f)(D:KeyLaw P K V)(J:P.underlying t=some (.map K E))(Z:∀w:World,(zeroValue E).run P w=.ok zv w) :
    (execOp a.eval ⟨some d,.lookup t x y false,ty,pos,after,none⟩).run P w=.ok (.value ((f k).getD zv)) w:=by
  simp[execOp,h.eval M,h.eval O,y6r I D J (Z w) k]
theorem y1c (h:AgM ds a n L)(O:ev L x=some (.map (some g)))(Z:ev L y=some (V k))(I:MapF V w g f)(D:KeyLaw P K V)(J:P.underlying t=some (.map K E))(hz:∀w:World,(zeroValue E).run P w=.ok zv w)(M:(f k).getD zv=v)(hn:Nat.blt d n=true)
    (q:∀a,AgM ds a n ((d,v)::L)->wpList P ops Q rest a w):wpList P ops Q (⟨some d,.lookup t x y false,ty,pos,after,none⟩::rest) a w:=
  z1x h U hn (by rw[<-M];exact v4u h O Z I D J hz) q
theorem y9v (O:ev L x=some (.map (some g)))(Z:ev L y=some (V k))(I:MapF V w g f)(D:KeyLaw P K V)(J:P.underlying t=some (.map K E))(hz:∀w:World,(zeroValue E).run P w=.ok zv w)(M:(f k).getD zv=v)(hn:Nat.blt d n=true)(q:WL P ops Q rest n ds w ((d,v)::L)):WL P ops Q (⟨some d,.lookup t x y false,ty,pos,after,none⟩::rest) n ds w L:=λa h=>y1c h O Z I D J hz M hn q
theorem x9g (h:AgM ds a n L)(M:ev L x=some (.map (some g)))(O:ev L y=some (V k))(I:MapF V w g f)(D:KeyLaw P K V)(J:P.underlying t=some (.map K E))(Z:∀w:World,(zeroValue E).run P w=.ok zv w) :
    (execOp a.eval ⟨some d,.lookup t x y true,ty,pos,after,none⟩).run P w=.ok (.value (.tuple #[(f k).getD zv,.bool (f k).isSome])) w:=by
  simp[execOp,h.eval M,h.eval O,x3z I D J (Z w) k]
theorem y1s {D:Bool}(h:AgM ds a n L)(Z:ev L x=some (.map (some g)))(hy:ev L y=some (V k))(J:MapF V w g f)(I:KeyLaw P K V)(M:P.underlying t=some (.map K E))(hz:∀w:World,(zeroValue E).run P w=.ok zv w)(O:(f k).getD zv=v)(hb:(f k).isSome=D)(hn:Nat.blt d n=true)
    (q:∀a,AgM ds a n ((d,.tuple #[v,.bool D])::L)->wpList P ops Q rest a w):wpList P ops Q (⟨some d,.lookup t x y true,ty,pos,after,none⟩::rest) a w:=
  z1x h U hn (by rw[<-O,<-hb];exact x9g h Z hy J I M hz) q
theorem v3h (h:AgM ds a n L)(hx:ev L x=some (.map (some g)))(hy:ev L y=some (V k))(hz:ev L z=some v)(O:MapF V w g f)(M:KeyLaw P K V)(hu:P.underlying t=some (.map K E))
    (q:∀w',MapF V w' g (λk'=>if k'=k then some v else f k')->Fr [g] w w'->w'.heap.size=w.heap.size->∀a,AgM ds a n L->wpList P ops Q rest a w'):wpList P ops Q (⟨none,.insert t x y z,ty,pos,after,none⟩::rest) a w:=by
  obtain⟨w',Z,D,I,J⟩:=y0n O M hu k v
  exact z9e h U U (w':=w') (by simp[execOp,h.eval hx,h.eval hy,h.eval hz,Z]) (q w' D I J)
theorem z2z (H0:(ev L x,ev L y,ev L z)=(some (.map (some g)),some (V k),some v))(I:MapF V w g f)(D:KeyLaw P K V)(J:P.underlying t=some (.map K E))(q:∀w',MapF V w' g (λk'=>if k'=k then some v else f k')->Fr [g] w w'->w'.heap.size=w.heap.size->WL P ops Q rest n ds w' L):WL P ops Q (⟨none,.insert t x y z,ty,pos,after,none⟩::rest) n ds w L:=let⟨M,O,Z⟩:=qi3 H0;λa h=>v3h h M O Z I D J q
theorem v6e (h:AgM ds a n L)(hx:ev L x=some (.map (some g)))(hy:ev L y=some (V k))(hz:ev L z=some v)(O:MapF V w g f)(M:KeyLaw P K V)(hu:P.underlying t=some (.map K E))
    (q:∀w',MapF V w' g (λk'=>if k'=k then some v else f k')->Fr [g] w w'->w'.heap.size=w.heap.size->∀a,AgM ds a n L->wpList P ops Q rest a w'):wpList P ops Q (⟨none,.mapUpdate t x y z,ty,pos,after,none⟩::rest) a w:=by
  obtain⟨w',Z,D,I,J⟩:=y0n O M hu k v
  exact z9e h U U (w':=w') (by simp[execOp,h.eval hx,h.eval hy,h.eval hz,Z]) (q w' D I J)
theorem x0d (M:ev L x=some (.map (some g)))(O:ev L y=some (V k))(Z:ev L z=some v)(I:MapF V w g f)(D:KeyLaw P K V)(J:P.underlying t=some (.map K E))(q:∀w',MapF V w' g (λk'=>if k'=k then some v else f k')->Fr [g] w w'->w'.heap.size=w.heap.size->WL P ops Q rest n ds w' L):WL P ops Q (⟨none,.mapUpdate t x y z,ty,pos,after,none⟩::rest) n ds w L:=λa h=>v6e h M O Z I D J q
end
end Go.Lw
namespace Go.Lw
open Go.RowKit
section
variable {P:Program} {n:Nat} {L:List (Nat×Value)} {ds:List Nat} {w w':World} {Q:Exit->Act->World->Prop} {ops:Array Oper} {rest:List Oper} {a:Act} {d:Nat} {ty T t:TypeId} {pos:String} {after:Array Edge} {v:Value} {x y:Operand}
theorem u7n {α:Type}{E:Enc α}{O base g cap:Nat}{zs ys:List α}(h:AgM ds a n L)(hx:ev L x=some (.slice (some ⟨g,0,none⟩) zs.length cap))(hy:ev L y=some v)(ho:Own E T base w (.slice (some ⟨g,0,none⟩) zs.length cap) zs)(hs:Sl E w v ys)(hl:ys.length=zs.length)(he:ElemOf P t T E O)(hn:Nat.blt d n=true)
    (q:∀w',Own E T base w' (.slice (some ⟨g,0,none⟩) zs.length cap) ys->Fr [g] w w'->w'.heap.size=w.heap.size->∀a,AgM ds a n ((d,.int .i64 (zs.length:Int))::L)->wpList P ops Q rest a w'):wpList P ops Q (⟨some d,.call ⟨.builtin .copy,#[x,y],#[t,t]⟩,ty,pos,after,none⟩::rest) a w:=by
  obtain⟨i,z,h1,h2,h3,h4,h5⟩:=he.info
  obtain⟨A,c,rfl,hc,hM,hA⟩:=hs.flat
  rcases ho with ⟨e,_⟩|⟨g',a5,cur,e,hb,hg,r1,r2,r3,r4⟩
  · cases e
  cases e
  have a0:ys.length*E.sz<=cur.size:=by rw[hl];exact Nat.le_trans (Nat.mul_le_mul_right _ r1) r3
  obtain⟨cs,D⟩:∃cs,ys.flatMap E.enc=cs:=⟨_,rfl⟩
  have I:cs.length=zs.length*E.sz:=by rw[<-D,E.flat_len,hl]
  have M:=E.flat_one ys
  rw[D]at M hA
  have a1:=run_storeCells_at P g 0 T cs 0 cur w hg (by rw[I];rw[hl]at a0;simpa using a0) M
  simp only[Nat.zero_add,List.take_zero,List.nil_append]at a1
  have a4:(Builtin.copy_ #[t,t] ty #[.slice (some ⟨g,0,none⟩) zs.length cap,.slice A ys.length c]).run P w=.ok (.int .i64 (zs.length:Int)) (w.setRow g (cs++cur.toList.drop cs.length).toArray):=by
    have Z:(Builtin.firstCells E.sz zs.length (.slice A ys.length c)).run P w=.ok cs.toArray w:=by
      by_cases hys:ys=[]
      · have h0:zs.length=0:=by rw[<-hl,hys];rfl
        have a2:cs=[]:=by rw[<-D,hys];rfl
        rw[h0,a2]
        cases A with
        | none=>simp[Builtin.firstCells]
        | some ad=>simp[Builtin.firstCells,loadCells,loadCellsFrom]
      · obtain⟨ad,rfl,a3⟩:=hA hys
        have J:=run_loadCells_list (P:=P) w ad cs a3
        rw[I]at J
        simpa[Builtin.firstCells] using J
    rw[hl]at Z
    simp only[Builtin.copy_,List.getElem?_toArray,List.getElem?_cons_zero,List.getElem?_cons_succ,Sem.run_bind,run_underlying he.und,Result.andThen_ok,Builtin.lenOf,Sem.run_pure,hl,Nat.min_self,show ∀m:Nat,Nat.min m m=m from Nat.min_self,sizeOf,typeInfo]
    simp[h1,h3,Z,a1,goInt]
  refine z1x h U hn (w':=w.setRow g (cs++cur.toList.drop cs.length).toArray) ?_ (q _ (.inr ⟨g,cap,_,by rw[hl],hb,setRow_heap w g cur _ T (0,0) hg,by rw[hl];exact r1,r2,?_,?_⟩) (Fr.setRow w g _) (by simp))
  · rw[z1z];unfold builtin
    simp only[List.map_toArray,List.map_cons,List.map_nil,h.eval hx,h.eval hy,Sem.run_bind,a4,Result.andThen_ok,Sem.run_pure]
  · simp only[List.size_toArray,List.length_append,List.length_drop,Array.length_toList];omega
  · rw[hl,<-I,D];simp
theorem z7w {α:Type}{E:Enc α}{D base g cap:Nat}{zs ys:List α}(O:ev L x=some (.slice (some ⟨g,0,none⟩) zs.length cap))(Z:ev L y=some v)(J:Own E T base w (.slice (some ⟨g,0,none⟩) zs.length cap) zs)(M:Sl E w v ys)(hl:ys.length=zs.length)(I:ElemOf P t T E D)(q:∀w',Own E T base w' (.slice (some ⟨g,0,none⟩) zs.length cap) ys->Fr [g] w w'->w'.heap.size=w.heap.size->WL P ops Q rest n ds w' ((d,.int .i64 (zs.length:Int))::L))(hn:Nat.blt d n=true:=by exact U):WL P ops Q (⟨some d,.call ⟨.builtin .copy,#[x,y],#[t,t]⟩,ty,pos,after,none⟩::rest) n ds w L:=λa h=>u7n h O Z J M hl I hn q
end
end Go.Lw
namespace Go.Lw
open Go.RowKit
section
variable {P:Program} {n:Nat} {L:List (Nat×Value)} {ds:List Nat} {w w':World} {Q:Exit->Act->World->Prop} {ops:Array Oper} {rest:List Oper} {a:Act} {d:Nat} {ty T t:TypeId} {pos:String} {after:Array Edge} {v:Value} {x y:Operand}
theorem v8k {α:Type}{E:Enc α}{a4 base g m cap p k:Nat}{zs ys:List α}(h:AgM ds a n L)(hx:ev L x=some (.slice (some ((⟨g,0,none⟩:Addr).add (p*E.sz))) (m-p) (cap-p)))(hy:ev L y=some v)(ho:Own E T base w (.slice (some ⟨g,0,none⟩) m cap) zs)(hs:Sl E w v ys)(hp:p<=m)(hk:k=min (m-p) ys.length)(he:ElemOf P t T E a4)(hn:Nat.blt d n=true)
    (q:∀w',Own E T base w' (.slice (some ⟨g,0,none⟩) m cap) (zs.take p++ys.take k++zs.drop (p+k))->Fr [g] w w'->w'.heap.size=w.heap.size->∀a,AgM ds a n ((d,.int .i64 (k:Int))::L)->wpList P ops Q rest a w'):wpList P ops Q (⟨some d,.call ⟨.builtin .copy,#[x,y],#[t,t]⟩,ty,pos,after,none⟩::rest) a w:=by
  obtain⟨i,z,h1,h2,h3,h4,h5⟩:=he.info
  rcases ho with ⟨e,_⟩|⟨g',d3,cur,e,hb,hg,r1,r2,r3,r4⟩
  · cases e
  cases e
  obtain⟨A0,c0,e0,_,b4,_⟩:=id hs
  subst e0
  have c9:k<=ys.length:=by omega
  have d1:=hs.take U (m:=k) c9 (B:=A0) (c':=c0) (by omega) b4 (λ_=>rfl)
  obtain⟨A,c,e2,hc,hM,hA⟩:=d1.flat
  have a1:(ys.take k).length=k:=by rw[List.length_take];omega
  rw[a1]at e2
  simp only[Value.slice.injEq]at e2
  obtain⟨rfl,-,rfl⟩:=e2
  obtain⟨cs,J⟩:∃cs,(ys.take k).flatMap E.enc=cs:=⟨_,rfl⟩
  have Z:cs.length=k*E.sz:=by rw[<-J,E.flat_len,a1]
  have a3:=E.flat_one (ys.take k)
  rw[J]at a3 hA
  have d0:p+k<=zs.length:=by omega
  have d4:p*E.sz+k*E.sz<=zs.length*E.sz:=by rw[<-Nat.add_mul];exact Nat.mul_le_mul_right _ d0
  have b7:zs.length*E.sz<=cur.size:=Nat.le_trans (Nat.mul_le_mul_right _ r1) r3
  have b1:=run_storeCells_at P g (p*E.sz) T cs 0 cur w hg (by rw[Z];omega) a3
  rw[Nat.add_zero,Z]at b1
  have c1:(Builtin.firstCells E.sz k (.slice A0 ys.length c0)).run P w=.ok cs.toArray w:=by
    by_cases hys:ys.take k=[]
    · have h0:k=0:=by have:=congrArg List.length hys;rw[a1]at this;simpa using this
      have b5:cs=[]:=by rw[<-J,hys];rfl
      rw[h0,b5]
      cases A0 with
      | none=>simp[Builtin.firstCells]
      | some ad=>simp[Builtin.firstCells,loadCells,loadCellsFrom]
    · obtain⟨ad,rfl,b6⟩:=hA hys
      have a0:=run_loadCells_list (P:=P) w ad cs b6
      rw[Z]at a0
      simpa[Builtin.firstCells] using a0
  have b3:(Builtin.copy_ #[t,t] ty #[.slice (some ((⟨g,0,none⟩:Addr).add (p*E.sz))) (zs.length-p) (cap-p),.slice A0 ys.length c0]).run P w=.ok (.int .i64 (k:Int)) (w.setRow g (cur.toList.take (p*E.sz)++cs++cur.toList.drop (p*E.sz+k*E.sz)).toArray):=by
    rw[z3p,Nat.zero_add]
    have a8:Nat.min (zs.length-p) ys.length=k:=hk.symm
    have a6:Nat.min ys.length (zs.length-p)=k:=(Nat.min_comm _ _).trans hk.symm
    simp only[Builtin.copy_,List.getElem?_toArray,List.getElem?_cons_zero,List.getElem?_cons_succ,Sem.run_bind,run_underlying he.und,Result.andThen_ok,Builtin.lenOf,Sem.run_pure,a8,sizeOf,typeInfo]
    simp[h1,h3,c1,b1,goInt,a6]
  obtain⟨D,O,I,rfl,b2,a7⟩:∃D O I,zs=D++(O++I)/\D.length=p/\O.length=k:=⟨zs.take p,(zs.drop p).take k,(zs.drop p).drop k,by rw[List.take_append_drop,List.take_append_drop],by rw[List.length_take];omega,by rw[List.length_take,List.length_drop];omega⟩
  have a9:(D++(O++I)).take p++ys.take k++(D++(O++I)).drop (p+k)=D++(ys.take k++I):=by
    rw[<-b2,List.take_left,<-a7,<-List.drop_drop,List.drop_left,List.drop_left,List.append_assoc]
  rw[a9]at q
  have a5:(D++(ys.take k++I)).length=(D++(O++I)).length:=by simp only[List.length_append,a1,a7]
  have a2:cur.toList=(D++(O++I)).flatMap E.enc++cur.toList.drop ((D++(O++I)).length*E.sz):=by
    rw[<-r4,List.take_append_drop]
  have b8:(D.flatMap E.enc).length=p*E.sz:=by rw[E.flat_len,b2]
  have b9:(O.flatMap E.enc).length=k*E.sz:=by rw[E.flat_len,a7]
  have b0:cur.toList.take (p*E.sz)++cs++cur.toList.drop (p*E.sz+k*E.sz)=(D++(ys.take k++I)).flatMap E.enc++cur.toList.drop ((D++(O++I)).length*E.sz):=by
    generalize cur.toList.drop ((D++(O++I)).length*E.sz)=R at a2 ⊢
    rw[a2]
    simp only[List.flatMap_append,List.append_assoc]
    rw[<-b8,List.take_left,<-b9,<-List.drop_drop,List.drop_left,List.drop_left,J]
  rw[b0]at b3
  refine z1x h U hn (w':=w.setRow g ((D++(ys.take k++I)).flatMap E.enc++cur.toList.drop ((D++(O++I)).length*E.sz)).toArray) ?_ (q _ (.inr ⟨g,cap,_,by rw[a5],hb,setRow_heap w g cur _ T (0,0) hg,by rw[a5];exact r1,r2,?_,?_⟩) (Fr.setRow w g _) (by simp))
  · rw[z1z];unfold builtin
    simp only[List.map_toArray,List.map_cons,List.map_nil,h.eval hx,h.eval hy,Sem.run_bind,b3,Result.andThen_ok,Sem.run_pure]
  · have e1:((D++(ys.take k++I)).flatMap E.enc).length=(D++(O++I)).length*E.sz:=by rw[E.flat_len,a5]
    generalize (D++(ys.take k++I)).flatMap E.enc=X at e1
    generalize (D++(O++I)).length*E.sz=M at e1 b7
    simp only[List.size_toArray,List.length_append,List.length_drop,Array.length_toList]
    omega
  · show List.take _ _=_
    rw[show (D++(ys.take k++I)).length*E.sz=((D++(ys.take k++I)).flatMap E.enc).length by rw[E.flat_len]]
    exact List.take_left
theorem u5l {α:Type}{E:Enc α}{D base g m cap p k:Nat}{zs ys:List α}(Z:ev L x=some (.slice (some ((⟨g,0,none⟩:Addr).add (p*E.sz))) (m-p) (cap-p)))(hy:ev L y=some v)(M:Own E T base w (.slice (some ⟨g,0,none⟩) m cap) zs)(O:Sl E w v ys)(hp:p<=m)(J:k=min (m-p) ys.length)(I:ElemOf P t T E D)(hn:Nat.blt d n=true)
 (q:∀w',Own E T base w' (.slice (some ⟨g,0,none⟩) m cap) (zs.take p++ys.take k++zs.drop (p+k))->Fr [g] w w'->w'.heap.size=w.heap.size->WL P ops Q rest n ds w' ((d,.int .i64 (k:Int))::L)):WL P ops Q (⟨some d,.call ⟨.builtin .copy,#[x,y],#[t,t]⟩,ty,pos,after,none⟩::rest) n ds w L:=λa h=>v8k h Z hy M O hp J I hn q
end
end Go.Lw
namespace Go.Lw
open Go.RowKit
theorem v1o {α:Type}{E:Enc α}{ys:List α}{i f:Nat}{z y:α}{v:Value}(J:ys[i]?=some y)(hf:f<E.sz)(Z:(E.enc y).set f v=E.enc z)(rest:List Value) :
    (ys.flatMap E.enc++rest).set (i*E.sz+f) v=(ys.set i z).flatMap E.enc++rest:=by
  have D:=(List.getElem?_eq_some_iff.1 J).1
  have M:ys.set i y=ys:=by
    apply List.ext_getElem?
    intro k
    rw[List.getElem?_set]
    by_cases e:i=k
    · subst e;rw[if_pos U,if_pos D,J]
    · rw[if_neg e]
  have I:=z8a (E:=E) ys y rest i D
  have O:=z8a (E:=E) ys z rest i D
  rw[M]at I
  rw[<-O]
  conv=>lhs;rw[<-I]
  have hl:((ys.flatMap E.enc++rest).take (i*E.sz)).length=i*E.sz:=by
    rw[List.length_take,List.length_append,E.flat_len]
    have:i*E.sz+E.sz<=ys.length*E.sz:=by rw[<-Nat.succ_mul];exact Nat.mul_le_mul_right _ D
    omega
  rw[List.append_assoc,List.set_append_right _ _ (by omega),hl,Nat.add_sub_cancel_left,List.set_append_left _ _ (by rw[E.len];exact hf),Z,List.append_assoc]
section
variable {P:Program} {a:Act} {n:Nat} {L:List (Nat×Value)} {ds:List Nat} {w:World} {Q:Exit->Act->World->Prop} {ops:Array Oper} {rest:List Oper} {d:Nat} {ty t T:TypeId} {pos:String} {after:Array Edge} {x y:Operand} {v:Value}
theorem y5l {α:Type}{E:Enc α}{base g m c i f:Nat}{ys:List α}(u z:α)(h:AgM ds a n L)(hx:ev L x=some (.pointer (some ((⟨g,0,none⟩:Addr).add (i*E.sz+f)))))(hy:ev L y=some v)(ho:Own E T base w (.slice (some ⟨g,0,none⟩) m c) ys)(M:ys[i]?=some u)(hf:f<E.sz)
    (hz:(E.enc u).set f v=E.enc z) (h1:v.oneCell'=true) (hc:v.cells=#[v]) (hs:z1r P t 1)
    (q:∀w',Own E T base w' (.slice (some ⟨g,0,none⟩) m c) (ys.set i z)->Fr [g] w w'->w'.heap.size=w.heap.size->∀a,AgM ds a n L->wpList P ops Q rest a w'):wpList P ops Q (⟨none,.store t x y,ty,pos,after,none⟩::rest) a w:=by
  rcases ho with ⟨e,_⟩|⟨g',cap,cur,e,hb,hg,r1,r2,r3,r4⟩
  · cases e
  cases e
  have J:=(List.getElem?_eq_some_iff.1 M).1
  have h5:i*E.sz+E.sz<=ys.length*E.sz:=by rw[<-Nat.succ_mul];exact Nat.mul_le_mul_right _ J
  have a0:ys.length*E.sz<=cur.size:=Nat.le_trans (Nat.mul_le_mul_right _ r1) r3
  have I:Blk w g T cur.toList:=hg
  have D:cur.toList=ys.flatMap E.enc++cur.toList.drop (ys.length*E.sz):=by rw[<-r4,List.take_append_drop]
  refine z3d h hx hy I (by rw[Nat.blt_eq,Array.length_toList];omega) h1 hc hs λw' O k2 k3 a h=>q w' ?_ k2 k3 a h
  have Z:cur.toList.set (i*E.sz+f) v=(ys.set i z).flatMap E.enc++cur.toList.drop (ys.length*E.sz):=by
    conv=>lhs;rw[D]
    exact v1o M hf hz _
  rw[Z]at O
  refine .inr ⟨g,c,_,by rw[List.length_set],hb,O,by rw[List.length_set];exact r1,r2,?_,?_⟩
  · simp only[List.size_toArray,List.length_append,E.flat_len,List.length_set,List.length_drop,Array.length_toList];omega
  · rw[List.length_set,show ys.length*E.sz=((ys.set i z).flatMap E.enc).length by rw[E.flat_len,List.length_set]]
    exact List.take_left
theorem y9d {α:Type}{E:Enc α}{base g m c i f:Nat}{ys:List α}(u z:α)(J:ev L x=some (.pointer (some ((⟨g,0,none⟩:Addr).add (i*E.sz+f)))))(M:ev L y=some v)(I:Own E T base w (.slice (some ⟨g,0,none⟩) m c) ys)(D:ys[i]?=some u)(hf:f<E.sz)
 (hz:(E.enc u).set f v=E.enc z) (h1:v.oneCell'=true) (hc:v.cells=#[v]) (hs:z1r P t 1)
 (q:∀w',Own E T base w' (.slice (some ⟨g,0,none⟩) m c) (ys.set i z)->Fr [g] w w'->w'.heap.size=w.heap.size->WL P ops Q rest n ds w' L):WL P ops Q (⟨none,.store t x y,ty,pos,after,none⟩::rest) n ds w L:=λ_ h=>y5l u z h J M I D hf hz h1 hc hs q
end
end Go.Lw
namespace Go.Lw
open Go.RowKit
section
variable {P:Program} {a:Act} {n:Nat} {L:List (Nat×Value)} {w:World} {v:Value} {g g2:Nat} {T T2:TypeId} {cs cs2:List Value}
theorem j4c {fn:Func}{R:Ending->World->Prop}{p pt I D q:Nat}(h:Ag a n L)(hr:fn.results=#[.cell p pt,.cell I D,.tmp q])(hp:look L p=some (.pointer (some ⟨g,0,none⟩)))(hb:Blk w g T cs)(Z:z3s P pt cs.length)
    (hp2:look L I=some (.pointer (some ⟨g2,0,none⟩))) (hb2:Blk w g2 T2 cs2) (hg2:z3s P D cs2.length) (hv:look L q=some v) (k:R (.returned (.tuple #[.agg cs.toArray,.agg cs2.toArray,v])) w):bodyPost P fn R .ret a w:=
  bodyPost_ret (v:=.tuple #[.agg cs.toArray,.agg cs2.toArray,v]) (by
    have J:=h.at_ p _ hp
    have M:=h.at_ q _ hv
    have O:=h.at_ I _ hp2
    simp only[Array.getD_eq_getD_getElem?]at J M O
    simp[results,hr,J,M,O,asAddr,loadVar,Z.1 w,Z.2 w,hg2.1 w,hg2.2 w,run_loadCells_list w _ cs hb.cells,run_loadCells_list w _ cs2 hb2.cells]) h.dfr k
theorem j3b {fn:Func}{R:Ending->World->Prop}{p pt I D q:Nat}(M:fn.results=#[.cell p pt,.cell I D,.tmp q])(hp:look L p=some (.pointer (some ⟨g,0,none⟩)))(hb:Blk w g T cs)(J:z3s P pt cs.length)
 (hp2:look L I=some (.pointer (some ⟨g2,0,none⟩))) (hb2:Blk w g2 T2 cs2) (hg2:z3s P D cs2.length) (hv:look L q=some v) (k:R (.returned (.tuple #[.agg cs.toArray,.agg cs2.toArray,v])) w):EW (bodyPost P fn R) .ret n [] w L:=λ_ h=>j4c h M hp hb J hp2 hb2 hg2 hv k
end
end Go.Lw
namespace Go.Lw
open Go.RowKit
section
variable {P:Program} {n:Nat} {L:List (Nat×Value)} {ds:List Nat} {w w':World} {Q:Exit->Act->World->Prop} {ops:Array Oper} {rest:List Oper} {a:Act} {d:Nat} {ty T t:TypeId} {pos:String} {after:Array Edge} {v:Value} {x y:Operand}
end
end Go.Lw
namespace Go.Lw
open Go.RowKit
section
variable {P:Program} {n:Nat} {L:List (Nat×Value)} {ds:List Nat} {w w':World} {Q:Exit->Act->World->Prop} {ops:Array Oper} {rest:List Oper} {a:Act} {d:Nat} {ty T t tn:TypeId} {pos:String} {after:Array Edge} {v:Value} {x y:Operand}
end
end Go.Lw
namespace Go.Proofs.YtpgdchkdlgkmgaaGreatDoor
open Go.Lw _root_.Go.Proofs.Tryz
theorem z5z:z3s prog 24 2:=⟨λ_=>by kernel_rfl,λ_=>by kernel_rfl⟩
theorem y6b:z3s prog 28 6:=⟨λ_=>by kernel_rfl,λ_=>by kernel_rfl⟩
theorem x0l:BuildAt prog 24 [(0,1),(1,1)] [(.int .u8 0),(.int .i64 0)]:=BuildAt.struct underlying24 (λ_=>by kernel_rfl) (λ_=>by kernel_rfl)
theorem x1q:BuildAt prog 188 [(0,1),(1,1),(2,1),(3,1)] [(.bool false),(.bool false),(.bool false),(.bool false)]:=BuildAt.struct underlying188 (λ_=>by kernel_rfl) (λ_=>by kernel_rfl)
theorem u1h:CallOf prog 58:=mkC func58
theorem z6q:z1a prog 24 0 0:=λ_ _=>by kernel_rfl
theorem z6t:z1a prog 24 1 1:=λ_ _=>by kernel_rfl
theorem z9i:z1a prog 28 0 0:=λ_ _=>by kernel_rfl
theorem z6x:z1a prog 28 1 1:=λ_ _=>by kernel_rfl
theorem z4j:z1a prog 28 2 2:=λ_ _=>by kernel_rfl
theorem z3g:z1a prog 28 3 4:=λ_ _=>by kernel_rfl
theorem y2x:z1a prog 28 4 5:=λ_ _=>by kernel_rfl
theorem y8k:z1a prog 188 0 0:=λ_ _=>by kernel_rfl
theorem x5r:z1a prog 188 1 1:=λ_ _=>by kernel_rfl
theorem x4l:z1a prog 188 2 2:=λ_ _=>by kernel_rfl
theorem u5m:z1a prog 188 3 3:=λ_ _=>by kernel_rfl
theorem z2r:prog.follows .mixedOrders=true:=by kernel_rfl
theorem na3:z2a prog 3:=λ_=>by kernel_rfl
theorem na4:z2a prog 4:=λ_=>by kernel_rfl
theorem na5:z2a prog 5:=λ_=>by kernel_rfl
theorem x1a:z2a prog 22:=λ_=>by kernel_rfl
theorem v7l:z2a prog 25:=λ_=>by kernel_rfl
theorem y9s:z2a prog 26:=λ_=>by kernel_rfl
theorem u6d:z1r prog 188 4:=λ_=>by kernel_rfl
theorem x2x (w:World):(zeroValue 188).run prog w=.ok (.agg #[(.bool false),(.bool false),(.bool false),(.bool false)]) w:=by kernel_rfl
theorem z4r (b p:Int)(w0:World):Rets prog 58 #[.agg #[.int .u8 b,.int .i64 p]] w0 λv w'=>v=.int .i64 (z4v b p)/\Fr [] w0 w':=by
 refine we [(0,.agg #[.int .u8 b,.int .i64 p])] func58 U ntmps58 U (.cons U .nil) (sr (bx U (λO w1 a0 D M z1=>(asg U (nn (sq (sq ?_)))))));refine rbo (r:=10) (L':=[(1,_)]) (((b≠0)/\(b≠1))) (.cons U .nil) ?_ ?_;refine fad U z6q (z0g U D U x1a (ne' U (mv U (gs 6 U (λZ=>?_) (λZ=>?_)))));exact gY U (fad U z6q (gY U (z0g U D U x1a (gY U (ne' U (pkt U (rbe U (.cons U .nil))))))));exact gN U (gN U (gN U (pkf U (rbe U (.cons U .nil)))));refine tn (cd U (λI=>?_) (λI=>?_));refine sr (asg U (nn (rt (tr (r1 results58 U ?_)))));exact⟨_,rfl,by rw[z4v,if_pos I],M⟩;refine sk (tn (sq (sq ?_)));refine rbo (r:=18) (L':=[]) (((p<1)\/(40<p))) .nil ?_ ?_;refine fad U z6t (z0g U D U na3 (lt' U (mv U (gs 14 U (λO=>?_) (λO=>?_)))));exact gN U (gN U (gN U (pkt U (rbe U .nil))));exact gY U (fad U z6t (gY U (z0g U D U na3 (gY U (gt' U (pkf U (rbe U .nil)))))));refine tn (cd U (λJ=>?_) (λJ=>?_));refine sr (asg U (nn (rt (tr (r1 results58 U ?_)))));exact⟨_,rfl,by rw[z4v,if_neg I,if_pos J],M⟩;refine sk (tn (sr (asg U (nn (rt (r1 results58 U ?_))))));exact⟨_,rfl,by rw[z4v,if_neg I,if_neg J],M⟩
def kV (k:Int):Value:=.int .u8 k
theorem y5z:KeyLaw prog 25 kV:=KeyLaw.now underlying25 (λk k'=>by simp[kV,Instr.sameNow,y4h]) (λ_ _ _=>by kernel_rfl) (λ_=>by simp[kV,Instr.sameBits])
theorem x0b (w0:World):Rets prog 106 #[] w0 λv w'=>∃g,v=.map (some g)/\w0.heap.size<=g/\g<w'.heap.size/\MapF kV w' g x4y/\Fr [] w0 w':=by
 refine we [] func106 U ntmps106 U .nil (sr (asg U (nn (sr (y4y kV U (λI w1 J D M z1=>?_))))))
 refine z1t (cs:=[_,_,_,_]) (ev2 U) x1q (z0h U (z0h U z0q)) U ?_
 refine z2z (V:=kV) (k:=1) U D y5z underlying190 (λw2 D O z2=>?_)
 refine z1t (cs:=[_,_,_,_]) (ev1 U) x1q (z0h U z0q) U ?_
 refine z2z (V:=kV) (k:=2) U D y5z underlying190 (λw3 D Z z3=>?_)
 refine z1t (cs:=[_,_,_,_]) (ev1 U) x1q (z0h U z0q) U ?_
 refine z2z (V:=kV) (k:=3) U D y5z underlying190 (λw4 D q4 z4=>?_)
 refine z1t (cs:=[_,_,_,_]) (ev3 U) x1q (z0h U (z0h U (z0h U z0q))) U ?_
 refine z2z (V:=kV) (k:=4) U D y5z underlying190 (λw5 D q5 z5=>?_)
 refine z1t (cs:=[_,_,_,_]) (ev3 U) x1q (z0h U (z0h U (z0h U z0q))) U ?_
 refine z2z (V:=kV) (k:=5) U D y5z underlying190 (λw6 D q6 z6=>?_)
 refine z1t (cs:=[_,_,_,_]) (ev3 U) x1q (z0h U (z0h U (z0h U z0q))) U ?_
 refine z2z (V:=kV) (k:=6) U D y5z underlying190 (λw7 D q7 z7=>?_)
 refine z1t (cs:=[_,_,_,_]) (ev1 U) x1q (z0h U z0q) U ?_
 refine z2z (V:=kV) (k:=7) U D y5z underlying190 (λw8 D q8 z8=>?_)
 refine z1t (cs:=[_,_,_,_]) (ev1 U) x1q (z0h U z0q) U ?_
 refine z2z (V:=kV) (k:=8) U D y5z underlying190 (λw9 D q9 z9=>(mv U (asg U (nn (rt (r1 results106 U ?_))))))
 exact⟨_,rfl,I,rfl,by omega,by omega,by
  refine(funext λk=>?_:x4y=_)▸D
  unfold x4y z8f;repeat' split
  all_goals first|rfl|(simp_all [f4V];done),(((M.z6 O Z q4 q5 q6 q7).z1 q8).z1 q9)⟩
theorem j6v:v0h prog 24 ndV:=by
 intro e f M O w;have J:∀D,(eqGuard D 24 M O (ndV e) (ndV f)).run prog w=.ok () w:=λD=>run_eqGuard_agg w D 24 M O _ _ (by kernel_rfl);have I:prog.stoodInHeld 24=false:=by kernel_rfl
 obtain⟨k,y⟩:=e;obtain⟨k',Z⟩:=f;refine⟨J _,J _,?_,?_⟩;unfold ndV;simp[go_sem,I,underlying24];(repeat' split)<;>simp_all
 unfold ndV;simp[go_sem,I,underlying24];(repeat' split)<;>simp_all
theorem v7r (o:MOp)(w0:World):Rets prog 57 #[opV o] w0 λv w'=>v=.bool (decide (y7n o))/\Fr [] w0 w':=by
 refine we [(0,opV o)] func57 U ntmps57 U (.cons U .nil) (sr (bx U (λg1 w1 b9 D q1 z1=>(asg U (nn ?_)))));refine jn (ι:=Nat) [(1,_)] (λg3=>[(3,.pointer (some ⟨g3,0,none⟩)),(4,.bool (z8f o.k).isSome)]) (λg3 w'=>Fr [] w1 w'/\w1.heap.size<=g3/\Blk w' g3 188 (f4L ((z8f o.k).getD f40))) (.cons U .nil) ?_ ?_;intro a h;have M:=Fr.refl [] w1;refine z2t (λwb w'=>Fr [] wb w') z2r ?_;intro w2 J;replace D:=D.ext J;replace M:=M.next J;have d0:=J.size;clear J;have hC:Fr [] w2 w2:=Fr.refl _ _;have a1:=D;refine z0c 1 h U z9i U λa h=>z0k 2 h U (λ_ hw=>a1.ext hw) U v7l U λa h=>z2d 0 7 (by kernel_rfl) U ?_ ?_;refine z0m h z0f (mkC func106) (x0b _) ?_;rintro _ w3 ⟨gm,rfl,a8,a9,hm,J⟩ a h;replace D:=D.ext J;replace M:=M.next J;replace hC:=hC.next J;clear J;refine z0b ?_;refine z2d 3 7 (by kernel_rfl) U ?_ ?_;refine y1s (V:=kV) (k:=o.k) h U U hm y5z underlying190 x2x (z7j _) (y2b _) U λa h=>?_;refine z0b ?_;refine z0e 4 h U λa h=>z0n 5 h U λa h=>z0n 6 h U λa h=>z0d 7 U ?_;refine z1c h x2x U λw4 I J hz a h=>?_;obtain⟨O,hg⟩:∃g,g=w3.heap.size:=⟨_,rfl⟩;rw[<-hg]at I h hz;have a6:g1<O:=by have:=D.lt;omega
 have a0:w1.heap.size<=O:=by have:=M.size;omega
 have a4:w2.heap.size<=O:=by have:=hC.size;omega
 replace D:=D.ext J;replace M:=M.next J;replace hC:=hC.next J;replace hm:=hm.ext J;clear J;refine z0b ?_;refine z0d 8 U ?_;refine z0u h U I U u6d ?_ (h1:=(by first|(simp[Value.oneCell',S];done)|exact Enc.one _ _|exact x4v _));clear h a;intro w5 a3 J hz a h;replace D:=D.fr J;replace M:=M.sp J;replace hC:=hC.sp J;replace hm:=hm.fr J (by simp;exact hm.ne_blk I);clear I J hz;have I:Blk w5 O _ [_,_,_,_]:=a3;clear a3;refine z0b ?_;refine z0d 9 U ?_;refine z0s h U λa h=>?_;refine z0b ?_;refine z0r ?_;clear hC a1;refine bk (h.sub (L':=[(1,_),(3,_),(4,_)]) (.c3 U U U)) ?_;exact jE (O) (.c3 U U U) ⟨M,⟨by omega,I⟩⟩;refine z1c h x2x U λw6 I J hz a h=>?_;obtain⟨O,hg⟩:∃g,g=w3.heap.size:=⟨_,rfl⟩;rw[<-hg]at I h hz;have a6:g1<O:=by have:=D.lt;omega
 have a0:w1.heap.size<=O:=by have:=M.size;omega
 have a4:w2.heap.size<=O:=by have:=hC.size;omega
 replace D:=D.ext J;replace M:=M.next J;replace hC:=hC.next J;replace hm:=hm.ext J;clear J;refine z0b ?_;refine z0d 3 U ?_;refine y1s (V:=kV) (k:=o.k) h U U hm y5z underlying190 x2x (z7j _) (y2b _) U λa h=>?_;refine z0b ?_;refine z0e 4 h U λa h=>z0n 5 h U λa h=>z0n 6 h U λa h=>z0d 8 U ?_;refine z0u h U I U u6d ?_ (h1:=(by first|(simp[Value.oneCell',S];done)|exact Enc.one _ _|exact x4v _));clear h a;intro w7 a3 J hz a h;replace D:=D.fr J;replace M:=M.sp J;replace hC:=hC.sp J;replace hm:=hm.fr J (by simp;exact hm.ne_blk I);clear I J hz;have I:Blk w7 O _ [_,_,_,_]:=a3;clear a3;refine z0b ?_;refine z0d 9 U ?_;refine z0s h U λa h=>?_;refine z0b ?_;refine z0r ?_;clear hC a1;refine bk (h.sub (L':=[(1,_),(3,_),(4,_)]) (.c3 U U U)) ?_;exact jE (O) (.c3 U U U) ⟨M,⟨by omega,I⟩⟩;refine z1c h x2x U λw8 I J hz a h=>?_;obtain⟨O,hg⟩:∃g,g=w2.heap.size:=⟨_,rfl⟩;rw[<-hg]at I h hz;have a6:g1<O:=by have:=D.lt;omega
 have a0:w1.heap.size<=O:=by have:=M.size;omega
 have a4:w2.heap.size<=O:=by have:=hC.size;omega
 replace D:=D.ext J;replace M:=M.next J;replace hC:=hC.next J;clear J;refine z0b ?_;refine z0d 0 U ?_;refine z0m h z0f (mkC func106) (x0b _) ?_;rintro _ w9 ⟨gm,rfl,a8,a9,hm,J⟩ a h;replace D:=D.ext J;replace M:=M.next J;replace hC:=hC.next J;replace I:=I.ext J;clear J;refine z0b ?_;refine z0d 3 U ?_;refine y1s (V:=kV) (k:=o.k) h U U hm y5z underlying190 x2x (z7j _) (y2b _) U λa h=>?_;refine z0b ?_;refine z0e 4 h U λa h=>z0n 5 h U λa h=>z0n 6 h U λa h=>z0d 8 U ?_;refine z0u h U I U u6d ?_ (h1:=(by first|(simp[Value.oneCell',S];done)|exact Enc.one _ _|exact x4v _));clear h a;intro b7 a3 J hz a h;replace D:=D.fr J;replace M:=M.sp J;replace hC:=hC.sp J;replace hm:=hm.fr J (by simp;exact hm.ne_blk I);clear I J hz;have I:Blk b7 O _ [_,_,_,_]:=a3;clear a3;refine z0b ?_;refine z0d 9 U ?_;refine z0s h U λa h=>?_;refine z0b ?_;refine z0r ?_;clear hC a1;refine bk (h.sub (L':=[(1,_),(3,_),(4,_)]) (.c3 U U U)) ?_;exact jE (O) (.c3 U U U) ⟨M,⟨by omega,I⟩⟩;rintro g3 b8 ⟨Z,⟨c9,I⟩⟩;have b0:=I.lt;refine kpC [(1,_),(3,_),(4,_)] (.c3 U U U) ?_;obtain⟨f,hf⟩:∃f,(z8f o.k).getD f40=f:=⟨_,rfl⟩;rw[hf]at I;have a5:y7n o↔(z8f o.k).isSome=true/\x8l f o:=by rw[<-hf];rfl
 replace I:Blk b8 g3 _ [.bool f.1,.bool f.2.1,.bool f.2.2.1,.bool f.2.2.2]:=I;refine sq (sr (mv U (nt' U (nn (cd U (λc0=>?_) (λc0=>?_))))));refine sr (asg U (nn (rt (tr (r1 results57 U ?_)))));exact⟨_,rfl,congrArg Value.bool (decide_eq_false (λh=>by simp[(a5.1 h).1]at c0)).symm,(q1.n1 Z)⟩;refine sk (tn (sq (sq ?_)));refine rbo (r:=35) (L':=[(1,_),(3,_)]) ((((f.1=true/\(o.d≠0))/\(o.d≠1))\/((¬f.1=true)/\(o.d≠0)))) (.c2 U U) ?_ ?_;refine fad U y8k (z0g U I U na4 (mv U (gs 16 U (λg0=>?_) (λg0=>?_))));refine gY U (fad U z6x (gY U ?_));replace D:=D.ext Z;refine z0g U D U y9s (gY U (ne' U (pkt U (mv U (gs 21 U (λg1=>?_) (λg1=>?_))))));refine gY U (fad U z6x (gY U (z0g U D U y9s (gY U (ne' U (pkt U (mv U (gs 26 U (λg2=>?_) (λg2=>?_)))))))));exact gN U (gN U (gN U (gN U (gS U (gS U (gS U (gN U (pkt U (rbe U (.c2 U U))))))))));refine gY U (fad U y8k (gY U (z0g U I U na4 (gY U (nt' U (gY U (mv U (gs 30 U (λg3=>?_) (λg3=>?_)))))))));exact gY U (fad U z6x (gY U (z0g U D U y9s (gY U (ne' U (gY U (pkt U (pkf U (rbe U (.c2 U U))))))))));exact gN U (gN U (gN U (gY U (pkf U (pkf U (rbe U (.c2 U U)))))));refine gN U (gN U (gN U (pkf U (mv U (gY U (fad U y8k (gY U (z0g U I U na4 (gY U (nt' U (gY U (mv U (gs 30 U (λg4=>?_) (λg4=>?_))))))))))))));exact gY U (fad U z6x (gY U (z0g U D U y9s (gY U (ne' U (gY U (pkt U (pkf U (rbe U (.c2 U U))))))))));exact gN U (gN U (gN U (gY U (pkf U (pkf U (rbe U (.c2 U U)))))));refine gN U (gN U (gN U (pkf U (mv U (gN U (gN U (gN U (pkf U (mv U (gY U (fad U y8k (gY U (z0g U I U na4 (gY U (nt' U (gY U (mv U (gs 30 U (λg5=>?_) (λg5=>?_)))))))))))))))))));refine gY U (fad U z6x (gY U ?_));replace D:=D.ext Z;exact z0g U D U y9s (gY U (ne' U (gY U (pkt U (pkf U (rbe U (.c2 U U)))))));exact gN U (gN U (gN U (gY U (pkf U (pkf U (rbe U (.c2 U U)))))));refine tn (cd U (λc1=>?_) (λc1=>?_));refine sr (asg U (nn (rt (tr (r1 results57 U ?_)))));exact⟨_,rfl,congrArg Value.bool (decide_eq_false (λh=>(a5.1 h).2.1 c1)).symm,(q1.n1 Z)⟩;refine sk (tn (sq (sq ?_)));refine y9u (r:=54) (L':=[(1,_),(3,_)]) (((f.2.1=true/\((z4v o.b o.p)≠0))\/((¬f.2.1=true)/\(¬(o.b=0/\o.p=0))))) (.c2 U U) ?_ ?_;refine fad U x5r (z0g U I U na4 (mv U (gs 38 U (λg6=>?_) (λg6=>?_))));refine gY U (fad U z4j (gY U ?_));replace D:=D.ext Z;refine z1v (vs:=[_,_]) U D z5z U (gY U (cl (ev1 U) u1h (z4r _ _ _) U ?_));rintro _ d1 ⟨rfl,a7⟩;refine gY U (ne' U (pkt U (mv U (gs 44 U (λg7=>?_) (λg7=>?_)))));exact gN U (gN U (gN U (gN U (gS U (gS U (gS U (gS U (gN U (pkt U (z8e U (.c2 U U) a7))))))))));refine gY U (fad U x5r (gY U ?_));replace I:=I.ext a7;refine z0g U I U na4 (gY U (nt' U (gY U (mv U (gs 48 U (λg8=>?_) (λg8=>?_))))));refine gY U (fad U z4j (gY U ?_));replace D:=D.ext a7;exact z1v (vs:=[_,_]) U D z5z U (gY U (z1t (cs:=[_,_]) z0f x0l z0q U (gY U (v8d (V:=ndV) (e:=(_,_)) (f:=(_,_)) U U j6v U (gY U (pkt U (pkf U (z8e U (.c2 U U) a7))))))));exact gN U (gN U (gN U (gN U (gY U (pkf U (pkf U (z8e U (.c2 U U) a7)))))));refine gN U (gN U (gN U (gN U (pkf U (mv U (gY U (fad U x5r (gY U (z0g U I U na4 (gY U (nt' U (gY U (mv U (gs 48 U (λg9=>?_) (λg9=>?_)))))))))))))));refine gY U (fad U z4j (gY U ?_));replace D:=D.ext Z;exact z1v (vs:=[_,_]) U D z5z U (gY U (z1t (cs:=[_,_]) z0f x0l z0q U (gY U (v8d (V:=ndV) (e:=(_,_)) (f:=(_,_)) U U j6v U (gY U (pkt U (pkf U (z8e U (.c2 U U) (Fr.refl _ _)))))))));exact gN U (gN U (gN U (gN U (gY U (pkf U (pkf U (z8e U (.c2 U U) (Fr.refl _ _))))))));intro d3 a2;have d4:=a2.size;refine tn (cd U (λc2=>?_) (λc2=>?_));refine sr (asg U (nn (rt (tr (r1 results57 U ?_)))));exact⟨_,rfl,congrArg Value.bool (decide_eq_false (λh=>(a5.1 h).2.2.1 c2)).symm,(q1.n2 Z a2)⟩;refine sk (tn (sq (sq ?_)));refine rbo (r:=76) (L':=[(1,_),(3,_)]) (((f.2.2.1=true/\((o.y<1)\/(6<o.y)))\/((¬f.2.2.1=true)/\(o.y≠0)))) (.c2 U U) ?_ ?_;refine fad U x4l ?_;replace I:=I.ext a2;refine z0g U I U na4 (mv U (gs 57 U (λb1=>?_) (λb1=>?_)));refine gY U (fad U z3g (gY U ?_));replace D:=D.ext (Z.n1 a2);refine z0g U D U na5 (gY U (lt' U (gY U (mv U (gs 61 U (λb2=>?_) (λb2=>?_))))));refine gN U (gN U (gN U (gY U (pkt U (pkt U (mv U (gN U (gN U (gN U (gN U (gS U ?_)))))))))));exact gS U (gS U (gN U (pkt U (rbe U (.c2 U U)))));refine gY U (fad U z3g (gY U (z0g U D U na5 (gY U (gt' U (gY U (pkf U (pkt U (mv U (gs 67 U (λb3=>?_) (λb3=>?_)))))))))));exact gN U (gN U (gN U (gN U (gS U (gS U (gS U (gN U (pkt U (rbe U (.c2 U U))))))))));refine gY U (fad U x4l (gY U (z0g U I U na4 (gY U (nt' U (gY U (mv U (gs 71 U (λb4=>?_) (λb4=>?_)))))))));exact gY U (fad U z3g (gY U (z0g U D U na5 (gY U (ne' U (gY U (pkt U (pkf U (rbe U (.c2 U U))))))))));exact gN U (gN U (gN U (gY U (pkf U (pkf U (rbe U (.c2 U U)))))));refine gN U (gN U (gN U (gN U (gS U (gS U (gS U (gN U (pkf U (mv U (gY U (fad U x4l (gY U (z0g U I U na4 (gY U (nt' U (gY U (mv U (gs 71 U (λb5=>?_) (λb5=>?_)))))))))))))))))));refine gY U (fad U z3g (gY U ?_));replace D:=D.ext (Z.n1 a2);exact z0g U D U na5 (gY U (ne' U (gY U (pkt U (pkf U (rbe U (.c2 U U)))))));exact gN U (gN U (gN U (gY U (pkf U (pkf U (rbe U (.c2 U U)))))));refine tn (cd U (λc3=>?_) (λc3=>?_));refine sr (asg U (nn (rt (tr (r1 results57 U ?_)))));exact⟨_,rfl,congrArg Value.bool (decide_eq_false (λh=>(a5.1 h).2.2.2.1 c3)).symm,(q1.n2 Z a2)⟩;refine sk (tn (sq ?_));refine rbo (r:=2) (L':=[]) ((f.2.2.2=true\/(o.r=0))) .nil ?_ ?_;refine fad U u5m ?_;replace I:=I.ext a2;refine z0g U I U na4 (mv U (gs 79 U (λb6=>?_) (λb6=>?_)));exact gN U (gN U (gN U (pkt U (asg U (rbe U .nil)))));refine gY U (fad U y2x (gY U ?_));replace D:=D.ext (Z.n1 a2);exact z0g U D U na3 (gY U (eq' U (pkf U (asg U (rbe U .nil)))));refine tn (rt (r1 results57 U ?_));exact⟨_,rfl,congrArg Value.bool (decide_eq_decide.2 ⟨λh=>a5.2 ⟨by revert c0;cases (z8f o.k).isSome<;>simp,c1,c2,c3,h⟩,λh=>(a5.1 h).2.2.2.2⟩),(q1.n2 Z a2)⟩
theorem x0g (o:MOp)(w0:World):Rets prog 21 #[opV o] w0 λv w'=>v=.int .i64 (x3d o)/\Fr [] w0 w':=by
 refine we [(0,opV o)] func21 U ntmps21 U (.cons U .nil) (sr (bx U (λg1 w1 a0 D O z1=>(asg U (nn (sq (sr (z0l U D y6b (cl (ev1 U) (mkC func57) (v7r o _) U ?_)))))))));rintro _ w2 ⟨rfl,J⟩;refine nt' U (nn (cd U (λI=>?_) (λI=>?_)));refine sr (asg U (nn (rt (tr (r1 results21 U ?_)))));exact⟨_,rfl,by rw[x3d,if_pos I],(O.n1 J)⟩;refine sk (tn (sq (sq ?_)));refine rbo (r:=13) (L':=[]) (((o.r < -4)\/(4<o.r))) .nil ?_ ?_;refine fad U y2x ?_;replace D:=D.ext J;refine z0g U D U na3 (lt' U (mv U (gs 9 U (λZ=>?_) (λZ=>?_))));exact gN U (gN U (gN U (pkt U (rbe U .nil))));exact gY U (fad U y2x (gY U (z0g U D U na3 (gY U (gt' U (pkf U (rbe U .nil)))))));refine tn (cd U (λM=>?_) (λM=>?_));refine sr (asg U (nn (rt (tr (r1 results21 U ?_)))));exact⟨_,rfl,by rw[x3d,if_neg I,if_pos M],(O.n1 J)⟩;refine sk (tn (sr (asg U (nn (rt (r1 results21 U ?_))))));exact⟨_,rfl,by rw[x3d,if_neg I,if_neg M],(O.n1 J)⟩
end Go.Proofs.YtpgdchkdlgkmgaaGreatDoor
namespace Go.Proofs.YtpgdchkdlgkmgaaGreatDoor
open Go.Lw Go.G21 Go.G08 _root_.Go.Proofs.Tryz
theorem z3j:z3s prog 87 2:=⟨λ_=>by kernel_rfl,λ_=>by kernel_rfl⟩
theorem z6j:z3s prog 100 4:=⟨λ_=>by kernel_rfl,λ_=>by kernel_rfl⟩
theorem z7s:z1a prog 87 0 0:=λ_ _=>by kernel_rfl
theorem z9f:z1a prog 87 1 1:=λ_ _=>by kernel_rfl
theorem y8a:z1a prog 100 0 0:=λ_ _=>by kernel_rfl
theorem z7e:z1a prog 100 2 3:=λ_ _=>by kernel_rfl
theorem j0u:z1r prog 26 1:=λ_=>by kernel_rfl
def idV (i:LId):Value:=.agg (idL i).toArray
def paV (p:Pa):Value:=.agg (paL p).toArray
theorem eqId:v0h prog 87 idV:=by
 intro e f M O w;have J:∀D,(eqGuard D 87 M O (idV e) (idV f)).run prog w=.ok () w:=λD=>run_eqGuard_agg w D 87 M O _ _ (by kernel_rfl);have I:prog.stoodInHeld 87=false:=by kernel_rfl
 obtain⟨y,n⟩:=e;obtain⟨y',Z⟩:=f;refine⟨J _,J _,?_,?_⟩;unfold idV;simp[go_sem,I,underlying87];(repeat' split)<;>simp_all
 unfold idV;simp[go_sem,I,underlying87];(repeat' split)<;>simp_all
theorem j7f:v0h prog 100 paV:=by
 intro e f M O w;have J:∀D,(eqGuard D 100 M O (paV e) (paV f)).run prog w=.ok () w:=λD=>run_eqGuard_agg w D 100 M O _ _ (by kernel_rfl);have I:prog.stoodInHeld 100=false:=by kernel_rfl
 obtain⟨⟨y,n⟩,b,d⟩:=e;obtain⟨⟨y',n'⟩,Z,d'⟩:=f;refine⟨J _,J _,?_,?_⟩;unfold paV;simp[go_sem,I,underlying100];(repeat' split)<;>simp_all
 unfold paV;simp[go_sem,I,underlying100];(repeat' split)<;>simp_all
theorem x0h (i:LId)(w0:World):Rets prog 94 #[.agg #[.int .u8 i.y,.int .i64 i.n]] w0 λr w'=>r=.bool (decide (y1b i))/\Fr [] w0 w':=by
 refine we [(0,.agg #[.int .u8 i.y,.int .i64 i.n])] func94 U ntmps94 U (.cons U .nil) (sr (bx U (λI w1 M D O z1=>(asg U (nn (sq ?_))))));refine rbo (r:=2) (L':=[]) (((((1<=i.y)/\(i.y<=6))/\(0<=i.n))/\(i.n<2048))) .nil ?_ ?_;refine fad U z7s (z0g U D U na5 (ge' U U (mv U (gs 6 U (λJ=>?_) (λJ=>?_)))));refine gY U (fad U z7s (gY U (z0g U D U na5 (gY U (le' U (pkt U (mv U (gs 11 U (λI=>?_) (λI=>?_)))))))));refine gY U (fad U z9f (gY U (z0g U D U na3 (gY U (ge' U U (pkt U (mv U (gs 16 U (λg2=>?_) (λg2=>?_)))))))));exact gY U (fad U z9f (gY U (z0g U D U na3 (gY U (lt' U (pkt U (asg U (rbe U .nil))))))));exact gN U (gN U (gN U (pkf U (asg U (rbe U .nil)))));exact gN U (gN U (gN U (pkf U (mv U (gN U (gN U (gN U (pkf U (asg U (rbe U .nil))))))))));refine gN U (gN U (gN U (pkf U (mv U (gN U (gN U (gN U (pkf U (mv U (gN U (gN U ?_)))))))))));exact gN U (pkf U (asg U (rbe U .nil)));refine tn (rt (r1 results94 U ?_));exact⟨_,rfl,congrArg Value.bool (decide_eq_decide.2 (by unfold y1b;omega)),O⟩
theorem y3i (d:Int)(w0:World):Rets prog 136 #[.int .u8 d] w0 λr w'=>r=.bool (decide (z5y d))/\Fr [] w0 w':=by
 refine we [(0,.int .u8 d)] func136 U ntmps136 U (.cons U .nil) (sr (asg U (nn (sq ?_))));refine rbo (r:=2) (L':=[]) (((d=0)\/(d=1))) .nil ?_ ?_;refine mv U (eq' U (mv U (gs 5 U (λD=>?_) (λD=>?_))));exact gN U (gN U (pkt U (asg U (rbe U .nil))));exact gY U (mv U (gY U (eq' U (pkf U (asg U (rbe U .nil))))));refine tn (rt (r1 results136 U ?_));exact⟨_,rfl,congrArg Value.bool (decide_eq_decide.2 (by unfold z5y;omega)),(Fr.refl _ _)⟩
theorem x6e (p:Pa)(w0:World):Rets prog 97 #[.agg #[.int .u8 p.id.y,.int .i64 p.id.n,.bool p.f,.int .u8 p.d]] w0 λr w'=>r=.bool (decide (y1g p))/\Fr [] w0 w':=by
 refine we [(0,.agg #[.int .u8 p.id.y,.int .i64 p.id.n,.bool p.f,.int .u8 p.d])] func97 U ntmps97 U (.cons U .nil) (sr (bx U (λg1 w1 O D Z z1=>(asg U (nn (sq ?_))))));refine y9u (r:=2) (L':=[]) (((y1b ⟨p.id.y,p.id.n⟩)/\(z5y p.d))) .nil ?_ ?_;refine fad U y8a (z1v (vs:=[_,_]) U D z3j U (cl (ev1 U) (mkC func94) (x0h ⟨_,_⟩ _) U ?_));rintro _ w2 ⟨rfl,I⟩;refine mv U (gs 6 U (λM=>?_) (λM=>?_));refine gY U (fad U z7e (gY U ?_));replace D:=D.ext I;refine z0g U D U y9s (gY U (cl (ev1 U) (mkC func136) (y3i _ _) U ?_));rintro _ w3 ⟨rfl,q3⟩;exact pkt U (asg U (z8e U .nil (I.n1 q3)));exact gN U (gN U (gN U (pkf U (asg U (z8e U .nil I)))));intro w4 J;have z4:=J.size;refine tn (rt (r1 results97 U ?_));exact⟨_,rfl,congrArg Value.bool (decide_eq_decide.2 (by rfl)),(Z.n1 J)⟩
theorem y6u (x:Int)(w0:World):Rets prog 96 #[.int .i64 x] w0 λr w'=>r=.bool (decide (v0f x))/\Fr [] w0 w':=by
 refine we [(0,.int .i64 x)] func96 U ntmps96 U (.cons U .nil) (sr (asg U (nn (sq ?_))));refine rbo (r:=2) (L':=[]) (((((Int.tmod x 2)≠0)/\(-13<=x))/\(x<=179))) .nil ?_ ?_;refine mv U (y6d U U (by first|exact IntWalk.rem_in _ _ (by omega)|rfl) (ne' U (mv U ?_)));refine gs 6 U (λD=>?_) (λD=>?_);refine gY U (mv U (gY U (ge' U U (pkt U (mv U (gs 10 U (λI=>?_) (λI=>?_)))))));exact gY U (mv U (gY U (le' U (pkt U (asg U (rbe U .nil))))));exact gN U (gN U (pkf U (asg U (rbe U .nil))));exact gN U (gN U (pkf U (mv U (gN U (gN U (pkf U (asg U (rbe U .nil))))))));refine tn (rt (r1 results96 U ?_));exact⟨_,rfl,congrArg Value.bool (decide_eq_decide.2 (by unfold v0f;exact and_assoc)),(Fr.refl _ _)⟩
theorem x0x (p q:Pa)(w0:World):Rets prog 98 #[.agg #[.int .u8 p.id.y,.int .i64 p.id.n,.bool p.f,.int .u8 p.d],.agg #[.int .u8 q.id.y,.int .i64 q.id.n,.bool q.f,.int .u8 q.d]] w0 λr w'=>r=.bool (decide (u3n p q))/\Fr [] w0 w':=by
 refine we [(0,.agg #[.int .u8 p.id.y,.int .i64 p.id.n,.bool p.f,.int .u8 p.d]),(1,.agg #[.int .u8 q.id.y,.int .i64 q.id.n,.bool q.f,.int .u8 q.d])] func98 U ntmps98 U (.c2 U U) (sr (bx U (λg2 w1 a0 I q1 z1=>(bx U (λg3 w2 a1 D O z2=>(asg U (nn (sq (sq ?_)))))))));refine y9u (r:=21) (L':=[(2,_),(3,_)]) ((((¬(z5y p.d))\/(¬(z5y q.d)))\/(p.d=q.d))) (.c2 U U) ?_ ?_;refine fad U z7e ?_;replace I:=I.ext O;refine z0g U I U y9s (cl (ev1 U) (mkC func136) (y3i _ _) U ?_);rintro _ w3 ⟨rfl,J⟩;refine nt' U (mv U (gs 9 U (λg0=>?_) (λg0=>?_)));refine gN U (gN U (gN U (gN U (pkt U (mv U (gN U (gN U (gN U (gN U (gN U (pkt U ?_)))))))))));exact z8e U (.c2 U U) J;refine gY U (fad U z7e (gY U ?_));replace D:=D.ext J;refine z0g U D U y9s (gY U (cl (ev1 U) (mkC func136) (y3i _ _) U ?_));rintro _ w4 ⟨rfl,Z⟩;refine gY U (nt' U (pkf U (mv U (gs 15 U (λg1=>?_) (λg1=>?_)))));exact gN U (gN U (gN U (gN U (gN U (pkt U (z8e U (.c2 U U) (J.n1 Z)))))));refine gY U (fad U z7e (gY U ?_));replace I:=I.ext (J.n1 Z);refine z0g U I U y9s (gY U (fad U z7e (gY U ?_)));replace D:=D.ext Z;exact z0g U D U y9s (gY U (eq' U (pkf U (z8e U (.c2 U U) (J.n1 Z)))));intro w5 M;have z5:=M.size;refine tn (cd U (λc0=>?_) (λc0=>?_));refine sr (asg U (nn (rt (tr (r1 results98 U ?_)))));exact⟨_,rfl,congrArg Value.bool (decide_eq_false (u6e c0)).symm,(q1.n2 O M)⟩;refine sk (tn (sr (fad U z7e ?_)));replace I:=I.ext (O.n1 M);refine z0g U I U y9s (fad U z7e ?_);replace D:=D.ext M;refine z2x U D U j0u (λw6 D q6 z6=>?_);replace D:Blk w6 g3 _ [_,_,_,_]:=D;refine nn (sr ?_);replace I:=I.fr q6;refine z0l U I z6j (z0l U D z6j (j5r (V:=paV) (e:=p) (f:=(⟨q.id,q.f,p.d⟩:Pa)) U U j7f U (asg U (nn (rt (r1 results98 U ?_))))));exact⟨_,rfl,congrArg Value.bool (decide_eq_decide.2 (u8i c0)),(q1.z3 O M q6)⟩
theorem z9d:ElemOf prog 54 100 z1s 24:=ElemOf.mk' (z:=(.agg #[.int .u8 0,.int .i64 0,.bool false,.int .u8 0])) underlying54 (by kernel_rfl) U
theorem y6j (w:World):(zeroValue 100).run prog w=.ok (.agg #[(.int .u8 0),(.int .i64 0),(.bool false),(.int .u8 0)]) w:=by kernel_rfl
theorem z9p (v:Value)(l:List Pa)(w0:World)(I:Sl z1s w0 v l)(hl:l.length<=100000):Rets prog 199 #[v] w0 λr w'=>∃A,r=.slice A l.length l.length/\Lw.Own z1s 100 w0.heap.size w' r l/\Fr [] w0 w':=by
 obtain⟨A,c,rfl,a0,hM,Z⟩:=id I;clear Z;unfold maxLen at hM;refine we [(0,.slice A l.length c)] func199 U ntmps199 U (.cons U .nil) ?_;have J:=I;refine sr (asg U (nn (sr (mv U (lnS U underlying54 (z1i (m:=l.length) (c:=l.length) (pa0) U z9d y6j U (λO w1 a1 D M z1=>(asg U (nn (sr (mv U (mv U ?_))))))))))));replace I:=J.ext M;refine z7w (zs:=List.replicate l.length pa0) (by rw[List.length_replicate];rfl) U (by rw[List.length_replicate];exact D) I (by rw[List.length_replicate]) z9d (λw2 D q2 z2=>?_);rw[List.length_replicate]at D;refine nn (sr (mv U (asg U (nn (rt (r1 results199 U ?_))))));exact⟨_,rfl,some ⟨O,0,none⟩,rfl,D.low (by omega),(M.z1 q2)⟩
theorem x0k:z1r prog 100 4:=λ_=>by kernel_rfl
set_option maxHeartbeats 1000000 in
theorem v5r (base:Nat)(u v:Value)(st l:List Pa)(w0:World)(I:Lw.Own z1s 100 base w0 u st)(hs:Sl z1s w0 v l)(hd:∀k∈z0v v,k<base)(hb:base<=w0.heap.size)(hn:st.length+l.length<=100000):Rets prog 198 #[u,v] w0 λr w'=>∃S,Lw.Own z1s 100 base w' r (z4u st l)/\(∀k∈S,base<=k)/\Fr S w0 w':=by
 obtain⟨A,c,rfl,b7,hM,hA⟩:=id hs;clear hA;unfold maxLen at hM;refine we [(0,u),(1,.slice A l.length c)] func198 U ntmps198 U (.c2 U U) ?_;have b2:=hs;refine sr (asg U (nn (sq (sr (mv U (lnS U underlying54 (mv U (nn (bl ?_)))))))));refine lpK (ι:=Nat×Value) [(8,_),(9,_)] (λp=>[(10,.int .i64 (p.1:Int)),(0,p.2)]) (λp w'=>p.1<=l.length/\Lw.Own z1s 100 base w' p.2 (z4u st (l.take p.1))/\base<=w'.heap.size/\(∃S,(∀k∈S,base<=k)/\Fr S w0 w')) (λp=>l.length-p.1) (0,u) (.c4 U U U U) ⟨Nat.zero_le _,I,hb,[],(by simp),Fr.refl _ _⟩ ?_;rintro⟨i,vT⟩ w1 ⟨hi,I,hb,⟨S,hS,qS⟩⟩;simp only at hi I;refine kpC [(8,_),(9,_),(10,.int .i64 (i:Int)),(0,vT)] (.c4 U U U U) ?_;have hs:=b2.fr qS (λk M b1=>by have:=hS k M;have:=hd k b1;omega);have a8:=y0y (l.take i) st;rw[List.length_take]at a8;obtain⟨ps,Z⟩:∃x,x=z4u st (l.take i):=⟨_,rfl⟩;rw[<-Z]at I a8;obtain⟨AT,cT,rfl,b6⟩:=I.sl.form;have a2:=I;have b0:=I.sl.len_le;unfold maxLen at b0;refine sr (lt' U (nn (sq (cd U (λc0=>?_) (λc0=>?_)))));refine sk (tn (sq (bl (sr (z0y (pa0) U hs U z9d z1e (λb4 a5=>?_))))));refine z1k U (a5 _ hs) z6j (al y6j U (λg6 w2 b8 J q2 z2=>?_));refine z0j (vs:=[_,_,_,_]) U J x0k (λw3 J q3 z3=>?_) (h1:=(by first|(simp[Value.oneCell',S];done)|exact z1s.one (l.getD i pa0)));refine nn (sr (mv U (lnS U underlying54 (asg U (nn (sq ?_))))));replace I:=(I.ext q2).fr q3 (by first|exact z8y I (by omega)|simp[z0v]<;>omega);intro a h;refine z0i none (λwb w'=>Fr [] wb w') z2r ?_;intro w4 q4;have z4:=q4.size;replace I:=I.ext q4;replace J:=J.ext q4;have hC:Fr [] w4 w4:=Fr.refl _ _;have a1:=I;have O:=J;refine z0e 0 h U λa h=>v4s 1 hC h wn U U U U λa h=>z0e 2 h U λa h=>?_;refine gSp (D:=18) h U ?_ ?_;clear h;intro g0 h;refine z0e 3 h U ?_ (hG:=(wy U));clear h a;intro a h;refine z0e 4 h U ?_ (hG:=(wy U));clear h a;intro a h;refine z3b 5 h (wy U) U (by first|exact i6 (by omega)|rfl) U λa h=>z1f (p:=(ps.length-1)) (pa0) 6 h U I.sl U z9d U ?_ (hG:=(wy U));clear h a;intro b5 a6 a h;refine z2c 7 h (wy U) U (λ_ hw=>a6 _ (a1.sl.ext hw)) z6j U λa h=>z0z 8 h U (λ_ hw=>O.ext hw) z6j U ?_ (hG:=(wy U));clear h a;intro a h;refine z0d 9 U ?_;refine y4u h U U U U U U ?_;refine z0m h (z0a U (z0a U z0f)) (mkC func98) (x0x (ps.getD (ps.length-1) pa0) (l.getD i pa0) _) ?_;rintro _ w5 ⟨rfl,q5⟩ a h;have z5:=q5.size;replace I:=I.ext q5;replace J:=J.ext q5;replace hC:=hC.next q5;refine z0b ?_;refine z0d 10 U ?_;refine z5n h U λa h=>?_;refine z0b ?_;refine z0r ?_;clear hC a1 O;refine bk (h.sub (L':=[(0,_),(6,_),(7,_),(8,_),(9,_),(10,_),(26,_)]) (.c7 U U U U U U U)) (tn (cd U (λc1=>?_) (λc1=>?_)));refine rg (mv U (mv U (z2u U (wi6 (by omega)) (mv U (j2u U underlying54 U (u5u (p:=(ps.length-1)) (p':=cT) U U U z9d (by omega) (by omega) (by omega) (by omega) (by omega) U (asg U (kpL [(0,_),(8,_),(9,_),(10,_)] (.c4 U U U U) (nl (bn' (tn (rg (z0w U (wi6 (by omega)) (mv U (nl ?_)))))))))))))));exact lpE ((i+1,_)) (.c4 U U U U) ⟨by simp only;omega,by rw[y2n st l i (by omega),<-Z,y0f,if_pos ⟨by omega,c1⟩];exact I.take U (by omega) (by omega) (by omega),by omega,S++z0v (.slice AT ps.length cT),(λk M=>(List.mem_append.1 M).elim (hS k) (λM=>(a2.blk k M).1)),qS.trans ((Fr.refl (z0v (.slice AT ps.length cT)) _).z4 q2 q3 q4 q5)⟩ (by simp only;omega);refine rg (mv U (z0l U J z6j (z2e ([l.getD i pa0]) (ev1 U) U z9d (λa9 w6 a7 a0 q6 z6=>?_))));replace I:=I.ext q6;have a3:=I;refine z2g U I a0.sl z9d (by unfold maxLen;simp only[List.length_cons,List.length_nil];omega) (by simp only[List.length_cons,List.length_nil];omega) (λb3 w7 I q7 a4=>?_);have z7:=q7.size;refine asg U (kpL [(0,_),(8,_),(9,_),(10,_)] (.c4 U U U U) (nl (bn' (tn (rg (z0w U (wi6 (by omega)) (mv U (nl ?_))))))));exact lpE ((i+1,_)) (.c4 U U U U) ⟨by simp only;omega,by rw[y2n st l i (by omega),<-Z,y0f,if_neg (by first|exact λe=>c1 e.2|exact λe=>absurd e.1 (by omega))];exact I,by omega,S++z0v (.slice AT ps.length cT),(λk M=>(List.mem_append.1 M).elim (hS k) (λM=>(a2.blk k M).1)),qS.trans (((Fr.refl (z0v (.slice AT ps.length cT)) _).z5 q2 q3 q4 q5 q6).step q7 (λk M _=>M))⟩ (by simp only;omega);clear h;intro g0 h;refine z2i 3 h U U λa h=>z2i 4 h U U λa h=>z2i 5 h U U λa h=>z2i 6 h U U λa h=>z2i 7 h U U λa h=>z2i 8 h U U λa h=>z2i 9 h U U λa h=>z0d 10 U ?_;refine z4m h U λa h=>?_;refine z0b ?_;refine z0r ?_;clear hC a1 O;refine bk (h.sub (L':=[(0,_),(6,_),(7,_),(8,_),(9,_),(10,_),(26,_)]) (.c7 U U U U U U U)) (tn (cf U (rg (mv U (z0l U J z6j (z2e ([l.getD i pa0]) (ev1 U) U z9d (λa9 w8 a7 a0 q8 z8=>?_)))))));replace I:=I.ext q8;have a3:=I;refine z2g U I a0.sl z9d (by unfold maxLen;simp only[List.length_cons,List.length_nil];omega) (by simp only[List.length_cons,List.length_nil];omega) (λb3 w9 I q9 a4=>?_);have z9:=q9.size;refine asg U (kpL [(0,_),(8,_),(9,_),(10,_)] (.c4 U U U U) (nl (bn' (tn (rg (z0w U (wi6 (by omega)) (mv U (nl ?_))))))));exact lpE ((i+1,_)) (.c4 U U U U) ⟨by simp only;omega,by rw[y2n st l i (by omega),<-Z,y0f,if_neg (by first|exact λe=>c1 e.2|exact λe=>absurd e.1 (by omega))];exact I,by omega,S++z0v (.slice AT ps.length cT),(λk M=>(List.mem_append.1 M).elim (hS k) (λM=>(a2.blk k M).1)),qS.trans (((Fr.refl (z0v (.slice AT ps.length cT)) _).z4 q2 q3 q4 q8).step q9 (λk M _=>M))⟩ (by simp only;omega);refine ex (te (te (xh (tn (sr (mv U (asg U (kpL [(4,_)] (.cons U .nil) (nn (rt (r1 results198 U ?_)))))))))));exact⟨_,rfl,S,by rw[List.take_of_length_le (by omega)]at Z;rw[<-Z];exact I,hS,qS⟩
theorem z9g:z1a prog 82 0 0:=λ_ _=>by kernel_rfl
theorem z5s:z1a prog 82 1 1:=λ_ _=>by kernel_rfl
theorem z6y:z1a prog 82 2 2:=λ_ _=>by kernel_rfl
theorem x6t:z1a prog 82 3 3:=λ_ _=>by kernel_rfl
theorem z6n:z1a prog 82 4 4:=λ_ _=>by kernel_rfl
theorem y3k:z2a prog 54:=λ_=>by kernel_rfl
set_option maxHeartbeats 1000000 in
theorem z9c (q:YQ)(w0:World)(hp:Sl z1s w0 (slv q.pe) q.pes):Rets prog 44 #[.agg #[.bool q.inn,.int .i64 q.pl,.int .i64 q.ct,.bool q.nw,.slice q.pe.1 q.pe.2.1 q.pe.2.2]] w0 λr w'=>r=.int .i64 (ynE q.p)/\Fr [] w0 w':=by
 have a1:=z1u hp;have a5:=hp.len_le;unfold maxLen at a5;refine we [(0,.agg #[.bool q.inn,.int .i64 q.pl,.int .i64 q.ct,.bool q.nw,.slice q.pe.1 q.pe.2.1 q.pe.2.2])] func44 U ntmps44 U (.cons U .nil) ?_;have a4:=hp;refine sr (bx U (λg1 w1 a8 I q1 z1=>(asg U (nn (sq (sq ?_))))));refine rbo (r:=12) (L':=[(1,_)]) (((q.ct<0)\/(2048<q.ct))) (.cons U .nil) ?_ ?_;refine fad U z6y (z0g U I U na3 (lt' U (mv U (gs 8 U (λg0=>?_) (λg0=>?_)))));exact gN U (gN U (gN U (pkt U (rbe U (.cons U .nil)))));exact gY U (fad U z6y (gY U (z0g U I U na3 (gY U (gt' U (pkf U (rbe U (.cons U .nil))))))));refine tn (cd U (λc0=>?_) (λc0=>?_));refine sr (asg U (nn (rt (tr (r1 results44 U ?_)))));exact⟨_,rfl,by rw[yn_a c0],q1⟩;refine sk (tn (sq (sr (fad U z9g (z0g U I U na4 (nt' U (nn (cd U (λc1=>?_) (λc1=>?_)))))))));refine sq (sq ?_);refine rbo (r:=28) (L':=[]) ((((q.pl≠0)\/q.nw=true)\/(0<(q.pe.2.1:Int)))) .nil ?_ ?_;refine fad U z5s (z0g U I U na3 (ne' U (mv U (gs 19 U (λg1=>?_) (λg1=>?_)))));exact gN U (gN U (pkt U (mv U (gN U (gN U (gN U (gN U (pkt U (rbe U .nil)))))))));refine gY U (fad U x6t (gY U (z0g U I U na4 (pkf U (mv U (gs 23 U (λg2=>?_) (λg2=>?_)))))));exact gN U (gN U (gN U (gN U (pkt U (rbe U .nil)))));exact gY U (fad U z6n (gY U (z0g U I U y3k (gY U (lnS U underlying54 (gY U (gt' U (pkf U (rbe U .nil)))))))));refine tn (cd U (λc2=>?_) (λc2=>?_));refine sr (asg U (nn (rt (tr (tr (r1 results44 U ?_))))));have M:q.inn=false:=(by simpa using c1);exact⟨_,rfl,by rw[yn_b M (by simpa[a1] using c2)],q1⟩;refine sk (tn (sr (asg U (nn (rt (tr (r1 results44 U ?_)))))));have M:q.inn=false:=(by simpa using c1);exact⟨_,rfl,by rw[yn_c c0 M (by simpa[a1] using c2)],q1⟩;refine sk (tn (sq (sq ?_)));refine y9u (r:=38) (L':=[(1,_)]) (((¬(v0f q.pl))\/(4096<(q.pe.2.1:Int)))) (.cons U .nil) ?_ ?_;refine fad U z5s (z0g U I U na3 (cl (ev1 U) (mkC func96) (y6u _ _) U ?_));rintro _ w2 ⟨rfl,q2⟩;have z2:=q2.size;refine nt' U (mv U (gs 33 U (λg3=>?_) (λg3=>?_)));exact gN U (gN U (gN U (gN U (pkt U (z8e U (.cons U .nil) q2)))));refine gY U (fad U z6n (gY U ?_));replace I:=I.ext q2;exact z0g U I U y3k (gY U (lnS U underlying54 (gY U (gt' U (pkf U (z8e U (.cons U .nil) q2))))));intro w3 q3;have z3:=q3.size;refine tn (cd U (λc3=>?_) (λc3=>?_));refine sr (asg U (nn (rt (tr (r1 results44 U ?_)))));have M:q.inn=true:=(by simpa using c1);exact⟨_,rfl,by rw[yn_d M (by simpa[a1] using c3)],(q1.n1 q3)⟩;refine sk (tn (sq (sr (fad U z6n ?_))));replace I:=I.ext q3;refine z0g U I U y3k (lnS U underlying54 (mv U (nn (bl ?_))));refine lpK (ι:=Nat) [(1,_),(40,_),(41,_)] (λi=>[(42,.int .i64 (i:Int))]) (λi w'=>Fr [] w3 w'/\i<=q.pes.length/\∀j,j<i->v6p q.pes j) (λi=>q.pes.length-i) 0 (.c4 U U U U) ⟨Fr.refl _ _,⟨Nat.zero_le _,λj h=>absurd h (by omega)⟩⟩ ?_;rintro i w4 ⟨q4,⟨hi,hg⟩⟩;have z4:=q4.size;refine kpC [(1,_),(40,_),(41,_),(42,_)] (.c4 U U U U) (sr (lt' U (nn (sq (cd U (λc4=>?_) (λc4=>?_))))));refine sk (tn (sq (bl (sr (mv U ?_)))));replace hp:=a4.ext (q1.n2 q3 q4);refine z0y (p:=i) (pa0) U hp U z9d (by omega) (λa6 a2=>(z1k U (a2 _ hp) z6j (al y6j U (λg4 w5 a9 Z q5 z5=>?_))));refine asg U (z0j (vs:=[_,_,_,_]) U Z x0k (λw6 Z q6 z6=>?_) (h1:=(by first|(simp[Value.oneCell',S];done)|exact z1s.one (q.pes.getD i pa0))));refine nn (sq ?_);replace hp:=a4.ext (q1.z4 q3 q4 q5 q6);replace I:=(I.ext (q4.n1 q5)).fr q6;intro a h;refine z0i none (λwb w'=>Fr [] wb w') z2r ?_;intro w7 q7;have z7:=q7.size;replace hp:=hp.ext q7;replace I:=I.ext q7;replace Z:=Z.ext q7;have hC:Fr [] w7 w7:=Fr.refl _ _;have a0:=hp;have O:=I;have J:=Z;refine z0z 0 h U (λ_ hw=>J.ext hw) z6j U λa h=>z0d 1 U ?_;refine z0m h (z0a U z0f) (mkC func97) (x6e (q.pes.getD i pa0) _) ?_;rintro _ w8 ⟨rfl,q8⟩ a h;have z8:=q8.size;replace hp:=hp.ext q8;replace I:=I.ext q8;replace Z:=Z.ext q8;replace hC:=hC.next q8;refine z0b ?_;refine x6n 2 hC h wn U U U λa h=>z0e 3 h U λa h=>?_;refine gSp (D:=50) h U ?_ ?_;clear h;intro g4 h;refine z2i 4 h U U λa h=>z2i 5 h U U λa h=>z2i 6 h U U λa h=>x3h 7 hC h U U U λa h=>x3h 8 hC h U U U λa h=>x3h 9 hC h U U U λa h=>x3h 10 hC h U U U λa h=>x3h 11 hC h U U U λa h=>x3h 12 hC h U U U λa h=>x3h 13 hC h U U U λa h=>x3h 14 hC h U U U λa h=>?_;refine z2i 15 h U U λa h=>z0d 16 U ?_;refine z5n h U λa h=>?_;refine z0b ?_;refine z0r ?_;clear hC a0 O J;refine bk (h.sub (L':=[(1,_),(40,_),(41,_),(42,_),(63,_)]) (.c5 U U U U U)) (tn (ct U (sr (asg U (nn (rt (rb (tr (tr (rb (tr (r1 results44 U ?_))))))))))));have M:q.inn=true:=(by simpa using c1);exact⟨_,rfl,by rw[yn_e M (i:=i) (by show i<q.pes.length;omega) (λh=>by first|exact absurd h.1 (by assumption)|exact h.2 (by omega) c5)],(q1.z6 q3 q4 q5 q6 q7 q8)⟩;clear h;intro g4 h;refine z0e 4 h U ?_ (hG:=(wy U));clear h a;intro a h;refine v4s 5 hC h (wy U) U U U U λa h=>z0e 6 h U ?_ (hG:=(wy U));clear h a;intro a h;refine gSp (D:=53) h U ?_ ?_;clear h;intro g5 h;refine z0c 7 h U z6n U ?_ (hG:=(wy U));clear h a;intro a h;refine z0k 8 h U (λ_ hw=>O.ext hw) U y3k U ?_ (hG:=(wy U));clear h a;intro a h;refine z0e 9 h U ?_ (hG:=(wy U));clear h a;intro a h;refine z3b 10 h (wy U) U (by first|exact i6 (by omega)|rfl) U λa h=>z1f (p:=(i-1)) (pa0) 11 h U hp U z9d U ?_ (hG:=(wy U));clear h a;intro a7 a3 a h;refine z2c 12 h (wy U) U (λ_ hw=>a3 _ (a0.ext hw)) z6j U λa h=>z0z 13 h U (λ_ hw=>J.ext hw) z6j U ?_ (hG:=(wy U));clear h a;intro a h;refine z0d 14 U ?_;refine y4u h U U U U U U ?_;refine z0m h (z0a U (z0a U z0f)) (mkC func98) (x0x (q.pes.getD (i-1) pa0) (q.pes.getD i pa0) _) ?_;rintro _ w9 ⟨rfl,q9⟩ a h;have z9:=q9.size;replace hp:=hp.ext q9;replace I:=I.ext q9;replace Z:=Z.ext q9;replace hC:=hC.next q9;refine z0b ?_;refine z0d 15 U ?_;refine tW h (kY U (pkt U ?_));clear h a;intro a h;refine z0b ?_;refine z0d 16 U ?_;refine z4m h U λa h=>?_;refine z0b ?_;refine z0r ?_;clear hC a0 O J;refine bk (h.sub (L':=[(1,_),(40,_),(41,_),(42,_),(63,_)]) (.c5 U U U U U)) (tn (cd U (λc5=>?_) (λc5=>?_)));refine sr (asg U (nn (rt (rb (tr (tr (rb (tr (r1 results44 U ?_)))))))));have M:q.inn=true:=(by simpa using c1);exact⟨_,rfl,by rw[yn_e M (i:=i) (by show i<q.pes.length;omega) (λh=>by first|exact absurd h.1 (by assumption)|exact h.2 (by omega) c5)],((q1.z6 q3 q4 q5 q6 q7 q8).n1 q9)⟩;refine sk (bn' (tn (rg (z0w U (wi6 (by omega)) (mv U (nl ?_))))));exact lpE (i+1) (.c4 U U U U) ⟨(q4.z5 q5 q6 q7 q8 q9),⟨by omega,λj hj=>by
  by_cases e:j<i;exact hg j e;obtain rfl:j=i:=by omega
  exact⟨by assumption,λh0=>by first|exact c5|exact absurd h0 (by omega)⟩⟩⟩ (by omega)
 clear h;intro g5 h;refine z2i 7 h U U λa h=>z2i 8 h U U λa h=>z2i 9 h U U λa h=>z2i 10 h U U λa h=>z2i 11 h U U λa h=>z2i 12 h U U λa h=>z2i 13 h U U λa h=>z2i 14 h U U λa h=>z0d 15 U ?_;refine tW h (kY U (pkf U ?_));clear h a;intro a h;refine z0b ?_;refine z0d 16 U ?_;refine z4m h U λa h=>?_;refine z0b ?_;refine z0r ?_;clear hC a0 O J;refine bk (h.sub (L':=[(1,_),(40,_),(41,_),(42,_),(63,_)]) (.c5 U U U U U)) (tn (cf U (sk (bn' (tn (rg (z0w U (wi6 (by omega)) (mv U (nl ?_)))))))));exact lpE (i+1) (.c4 U U U U) ⟨(q4.z4 q5 q6 q7 q8),⟨by omega,λj hj=>by
  by_cases e:j<i;exact hg j e;obtain rfl:j=i:=by omega
  exact⟨by assumption,λh0=>by first|exact c5|exact absurd h0 (by omega)⟩⟩⟩ (by omega)
 obtain rfl:i=q.pes.length:=by omega
 refine ex (te (te (xh (tn (sr (asg U (nn (rt (r1 results44 U ?_)))))))));have M:q.inn=true:=(by simpa using c1);exact⟨_,rfl,by rw[yn_f c0 M (by simpa[a1] using c3) hg],(q1.n2 q3 q4)⟩
theorem z6d:z3s prog 82 5:=⟨λ_=>by kernel_rfl,λ_=>by kernel_rfl⟩
theorem x0z:BuildAt prog 82 [(0,1),(1,1),(2,1),(3,1),(4,1)] [(.bool false),(.int .i64 0),(.int .i64 0),(.bool false),(.slice none 0 0)]:=BuildAt.struct underlying82 (λ_=>by kernel_rfl) (λ_=>by kernel_rfl)
theorem j0l:CallOf prog 44:=mkC func44
theorem sz3:z1r prog 3 1:=λ_=>by kernel_rfl
theorem j7u:z1r prog 54 1:=λ_=>by kernel_rfl
theorem z6u:z1r prog 82 5:=λ_=>by kernel_rfl
theorem y1j (w:World):(zeroValue 82).run prog w=.ok (.agg #[(.bool false),(.int .i64 0),(.int .i64 0),(.bool false),(.slice none 0 0)]) w:=by kernel_rfl
set_option maxHeartbeats 1000000 in
theorem x7c (q:YQ)(pl:Int)(v:Value)(l:List Pa)(w0:World)(hp:Sl z1s w0 (slv q.pe) q.pes)(hs:Sl z1s w0 v l)(hv:∀k∈z0v v,k<w0.heap.size)(hl:l.length<=50000):Rets prog 146 #[.agg #[.bool q.inn,.int .i64 q.pl,.int .i64 q.ct,.bool q.nw,.slice q.pe.1 q.pe.2.1 q.pe.2.2],.int .i64 pl,v] w0 λr w'=>∃q':YQ,r=.tuple #[.agg #[.bool q'.inn,.int .i64 q'.pl,.int .i64 q'.ct,.bool q'.nw,.slice q'.pe.1 q'.pe.2.1 q'.pe.2.2],.int .i64 (goE q.p pl l)]/\(goE q.p pl l=0->q'.p=goS q.p pl l/\Lw.Own z1s 100 w0.heap.size w' (slv q'.pe) q'.pes)/\Fr [] w0 w':=by
 have f4:=z1u hp;have d0:=hp.len_le;unfold maxLen at d0;obtain⟨A,c,rfl,f0,hM,hA⟩:=id hs;clear hA;unfold maxLen at hM;refine we [(0,.agg #[.bool q.inn,.int .i64 q.pl,.int .i64 q.ct,.bool q.nw,.slice q.pe.1 q.pe.2.1 q.pe.2.2]),(1,.int .i64 pl),(2,.slice A l.length c)] func146 U ntmps146 U (.c3 U U U) ?_;have b3:=hp;have b4:=hs;refine sr (bx U (λg3 w1 f1 I q1 z1=>(al y1j U (λg6 w2 f2 D q2 z2=>(asg U (nn (sq (sr ?_))))))));replace I:=I.ext q2;refine z0l U I z6d ?_;replace hp:=b3.ext (q1.n1 q2);refine cl (ev1 U) j0l (z9c q _ hp) U ?_;rintro _ w3 ⟨rfl,q3⟩;have z3:=q3.size;refine asg U (nn (sr (mv U (ne' U (nn (cd U (λc0=>?_) (λc0=>?_)))))));refine sr (z1t (cs:=[_,_,_,_,_]) z0f x0z z0q U ?_);refine mv U ?_;replace D:=D.ext q3;refine z0j (vs:=[_,_,_,_,_]) U D z6u (λw4 D q4 z4=>?_) (h1:=(by first|(simp[Value.oneCell',S];done)|exact z1s.one (l.getD i pa0)));refine asg U (kpL [(6,_),(7,_)] (.c2 U U) (nn (rt (tr (rCT results146 U D z6d U ?_)))));have Z:goE q.p pl l=ynE q.p:=by unfold goE;rw[if_pos c0]
 exact⟨_,rfl,yq0,by rw[Z];rfl,(λh=>absurd h (by rw[Z];exact c0)),(q1.z3 q2 q3 q4)⟩;have d3:=v0x (Classical.not_not.1 c0);refine sk (tn (sq (sr (mv U (cl (ev1 U) (mkC func96) (y6u _ _) U ?_)))));rintro _ w5 ⟨rfl,q5⟩;have z5:=q5.size;refine nt' U (nn (cd U (λc1=>?_) (λc1=>?_)));refine sr (z1t (cs:=[_,_,_,_,_]) z0f x0z z0q U ?_);replace D:=D.ext (q3.n1 q5);refine z0j (vs:=[_,_,_,_,_]) U D z6u (λw6 D q6 z6=>?_) (h1:=(by first|(simp[Value.oneCell',S];done)|exact z1s.one (l.getD i pa0)));refine asg U (nn (rt (tr (rCT results146 U D z6d U ?_))));have Z:goE q.p pl l=1:=by unfold goE;rw[if_neg c0,if_pos (by simpa using c1)]
 exact⟨_,rfl,yq0,by rw[Z];rfl,(λh=>absurd h (by rw[Z];decide)),(q1.z4 q2 q3 q5 q6)⟩;refine sk (tn (sq (sr (mv U (lnS U underlying54 (mv U (nn (bl ?_))))))));refine lpK (ι:=Nat) [(1,_),(2,_),(3,_),(6,_),(22,_),(23,_)] (λi=>[(24,.int .i64 (i:Int))]) (λi w'=>Fr [] w5 w'/\i<=l.length/\∀j,j<i->y1g (l.getD j pa0)) (λi=>l.length-i) 0 (.c7 U U U U U U U) ⟨Fr.refl _ _,⟨Nat.zero_le _,λj h=>absurd h (by omega)⟩⟩ ?_;rintro i w7 ⟨q7,⟨hi,hg⟩⟩;have z7:=q7.size;refine kpC [(1,_),(2,_),(3,_),(6,_),(22,_),(23,_),(24,_)] (.c7 U U U U U U U) (sr (lt' U (nn (sq (cd U (λc2=>?_) (λc2=>?_))))));refine sk (tn (sq (bl (sr ?_))));replace hs:=b4.ext (q1.n4 q2 q3 q5 q7);refine z0y (pa0) U hs U z9d z1e (λe1 b2=>?_);refine z1k U (b2 _ hs) z6j (al y6j U (λe9 w8 e3 a4 q8 z8=>?_));refine z0j (vs:=[_,_,_,_]) U a4 x0k (λw9 a4 q9 z9=>?_) (h1:=(by first|(simp[Value.oneCell',S];done)|exact z1s.one (l.getD i pa0)));refine nn (sr (z0l U a4 z6j (cl (ev1 U) (mkC func97) (x6e (l.getD i pa0) _) U ?_)));rintro _ f6 ⟨rfl,a7⟩;have g7:=a7.size;refine nt' U (nn (cd U (λc3=>?_) (λc3=>?_)));refine sr (z1t (cs:=[_,_,_,_,_]) z0f x0z z0q U ?_);replace D:=((D.ext (q3.n3 q5 q7 q8)).fr q9).ext a7;refine z0j (vs:=[_,_,_,_,_]) U D z6u (λf7 D d4 g8=>?_) (h1:=(by first|(simp[Value.oneCell',S];done)|exact z1s.one (l.getD i pa0)));refine asg U (kpL [(6,_),(7,_)] (.c2 U U) (nn (rt (rb (tr (tr (rb (tr (rCT results146 U D z6d U ?_)))))))));have Z:goE q.p pl l=1:=by unfold goE;rw[if_neg c0,if_neg (by simpa using c1),if_pos (λa3=>(by simpa using c3:¬y1g (l.getD i pa0)) (a3 _ (z0t (by omega))))]
 exact⟨_,rfl,yq0,by rw[Z];rfl,(λh=>absurd h (by rw[Z];decide)),(((q1.z6 q2 q3 q5 q7 q8 q9).n1 a7).z1 d4)⟩;refine sk (bn' (tn (rg (z0w U (wi6 (by omega)) (mv U (nl ?_))))));exact lpE (i+1) (.c7 U U U U U U U) ⟨(q7.z3 q8 q9 a7),⟨by omega,λj hj=>by
  by_cases e:j<i;exact hg j e;obtain rfl:j=i:=by omega
  exact Classical.not_not.1 (by simpa using c3)⟩⟩ (by omega)
 obtain rfl:i=l.length:=by omega
 have a3:j1q l:=λp d1=>by
  obtain⟨j,hj,rfl⟩:=List.getElem_of_mem d1;have:=hg j hj;rwa [List.getD,List.getElem?_eq_getElem hj]at this
 refine ex (te (te (xh (tn (sq (sr (fad U z9g ?_)))))));replace I:=I.ext (q3.n2 q5 q7);refine z0g U I U na4 (nt' U (kpL [(1,_),(2,_),(3,_),(6,_),(35,_)] (.c5 U U U U U) (nn (cd U (λc4=>?_) (λc4=>?_)))));refine sr (z1t (cs:=[_,_,_,_,_]) z0f x0z z0q U ?_);replace D:=D.ext (q3.n2 q5 q7);refine z0j (vs:=[_,_,_,_,_]) U D z6u (λf8 D d5 g9=>?_) (h1:=(by first|(simp[Value.oneCell',S];done)|exact z1s.one (l.getD i pa0)));refine asg U (nn (rt (tr (rCT results146 U D z6d U ?_))));have Z:goE q.p pl l=12:=by unfold goE;rw[if_neg c0,if_neg (by simpa using c1),if_neg (λe=>e a3),if_pos (by simpa using c4)]
 exact⟨_,rfl,yq0,by rw[Z];rfl,(λh=>absurd h (by rw[Z];decide)),(q1.z5 q2 q3 q5 q7 d5)⟩;have b9:q.inn=true:=(by simpa using c4);have b5:=d3.2;rw[if_pos b9]at b5;have f3:q.pes.length<=4096:=b5.2.1;refine sk (tn (sr (fad U z6n (z0g U I U y3k (lnS U underlying54 (mv U (lnS U underlying54 (z0w U (wi6 (by omega)) (z1i (m:=0) (c:=(q.pe.2.1+l.length)) (pa0) U z9d y6j U (λb1 f9 e4 ho a1 h0=>(asg U (kpL [(1,_),(2,_),(3,_),(6,_),(11,_)] (.c5 U U U U U) (nn (sr (mv U (fad U z6n ?_))))))))))))))));replace I:=I.ext a1;refine z0g U I U y3k ?_;replace D:=D.ext (q3.n3 q5 q7 a1);replace hp:=b3.ext (q1.n5 q2 q3 q5 q7 a1);have J:=ho;refine z2g U ho hp z9d (by unfold maxLen;simp only[List.length_replicate];omega) (by simp only[List.length_replicate];omega) (λb7 d7 ho a2 c9=>?_);have h2:=a2.size;replace I:=I.fr a2 (λM=>by have:=(J.blk _ M).1;omega);replace D:=D.fr a2 (λM=>by have:=(J.blk _ M).1;omega);replace ho:Lw.Own z1s 100 b1 d7 b7 q.pes:=ho;refine mv U ?_;replace hs:=b4.ext ((q1.n5 q2 q3 q5 q7 a1).step a2 (λk M a6=>absurd (J.blk k M).1 (by omega)));refine cl (ev2 U) (mkC func198) (v5r b1 b7 _ q.pes l _ ho hs (λk M=>by have:=hv k M;omega) (by omega) (by omega)) U ?_;rintro e7 g0 ⟨e6,ho,a0,a5⟩;replace I:=I.fr a5 (λM=>by have:=a0 _ M;omega);replace D:=D.fr a5 (λM=>by have:=a0 _ M;omega);have h3:=a5.size;have f5:=y0y l q.pes;obtain⟨e5,e8,rfl,e2⟩:=ho.sl.form;refine asg U (kpL [(1,_),(3,_),(6,_),(11,_)] (.c4 U U U U) (nn (sq (sr (mv U (lnS U underlying54 (gt' U (nn (cd U (λc5=>?_) (λc5=>?_))))))))));refine sr (z1t (cs:=[_,_,_,_,_]) z0f x0z z0q U ?_);refine z0j (vs:=[_,_,_,_,_]) U D z6u (λg1 D d6 h4=>?_) (h1:=(by first|(simp[Value.oneCell',S];done)|exact z1s.one (l.getD i pa0)));refine asg U (nn (rt (tr (rCT results146 U D z6d U ?_))));have Z:goE q.p pl l=3:=by unfold goE;rw[if_neg c0,if_neg (by simpa using c1),if_neg (λe=>e a3),if_neg (by simpa using c4),if_pos (by show 4096<(z4u q.pes l).length;omega)]
 exact⟨_,rfl,yq0,by rw[Z];rfl,(λh=>absurd h (by rw[Z];decide)),((((q1.n5 q2 q3 q5 q7 a1).step a2 (λk M a6=>absurd (J.blk k M).1 (by omega))).step a5 (λk M a6=>absurd (a0 k M) (by omega))).sp d6)⟩;refine sk (tn (sr (mv U (fad U z5s (z2x U I U sz3 (λd9 I a9 h5=>?_))))));replace I:Blk d9 g3 _ [_,_,_,_,_]:=I;refine nn (sr (mv U ?_));replace ho:=ho.fr a9 (by first|exact z8y ho (by omega)|simp[z0v]<;>omega);refine cl (ev1 U) (mkC func199) (z9p _ _ _ ho.sl (by omega)) U ?_;rintro _ g4 ⟨b8,rfl,O,a8⟩;have h6:=a8.size;refine fad U z6n ?_;replace I:=I.ext a8;refine z2x U I U j7u (λe0 I b0 h7=>?_);replace I:Blk e0 g3 _ [_,_,_,_,_]:=I;refine nn (sr (z0l U I z6d ?_));replace D:=((D.fr a9).ext a8).fr b0;refine z0j (vs:=[_,_,_,_,_]) U D z6u (λg5 D b6 h8=>?_) (h1:=(by first|(simp[Value.oneCell',S];done)|exact z1s.one (l.getD i pa0)));refine asg U (nn (rt (rCT results146 U D z6d U ?_)));replace O:=(O.fr b0 (by first|exact z8y O (by omega)|simp[z0v]<;>omega)).fr b6 (by first|exact z8y O (by omega)|simp[z0v]<;>omega);have Z:goE q.p pl l=0:=by unfold goE;rw[if_neg c0,if_neg (by simpa using c1),if_neg (λe=>e a3),if_neg (by simpa using c4),if_neg (by show ¬4096<(z4u q.pes l).length;omega)]
 exact⟨_,rfl,⟨q.inn,pl,q.ct,q.nw,(b8,(z4u q.pes l).length,(z4u q.pes l).length),z4u q.pes l⟩,by rw[Z],(λ_=>⟨rfl,O.low (by omega)⟩),(((((((q1.n5 q2 q3 q5 q7 a1).step a2 (λk M a6=>absurd (J.blk k M).1 (by omega))).step a5 (λk M a6=>absurd (a0 k M) (by omega))).sp a9).next a8).sp b0).sp b6)⟩
theorem x4p:z3s prog 250 3:=⟨λ_=>by kernel_rfl,λ_=>by kernel_rfl⟩
theorem v5b:BuildAt prog 250 [(0,1),(1,1),(2,1)] [(.int .i64 0),(.bool false),(.slice none 0 0)]:=BuildAt.struct underlying250 (λ_=>by kernel_rfl) (λ_=>by kernel_rfl)
theorem x0y:z1r prog 250 3:=λ_=>by kernel_rfl
theorem x3a (w:World):(zeroValue 250).run prog w=.ok (.agg #[(.int .i64 0),(.bool false),(.slice none 0 0)]) w:=by kernel_rfl
set_option maxHeartbeats 1000000 in
theorem y0x (q:YQ)(w0:World)(hp:Sl z1s w0 (slv q.pe) q.pes)(hv:∀k∈z0v (slv q.pe),k<w0.heap.size):Rets prog 150 #[.agg #[.bool q.inn,.int .i64 q.pl,.int .i64 q.ct,.bool q.nw,.slice q.pe.1 q.pe.2.1 q.pe.2.2]] w0 λr w'=>∃(q':YQ) (n:Int) (nw:Bool) (s:SV) (ps:List Pa),r=.tuple #[.agg #[.bool q'.inn,.int .i64 q'.pl,.int .i64 q'.ct,.bool q'.nw,.slice q'.pe.1 q'.pe.2.1 q'.pe.2.2],.agg #[.int .i64 n,.bool nw,.slice s.1 s.2.1 s.2.2],.int .i64 (mkE q.p)]/\(mkE q.p=0->q'=⟨true,q.pl,q.ct+1,false,sv0,[]⟩/\n=q.ct/\nw=q.nw/\ps=q.pes/\Lw.Own z1s 100 w0.heap.size w' (slv s) ps)/\Fr [] w0 w':=by
 have f7:=z1u hp;have e4:=hp.len_le;unfold maxLen at e4;refine we [(0,.agg #[.bool q.inn,.int .i64 q.pl,.int .i64 q.ct,.bool q.nw,.slice q.pe.1 q.pe.2.1 q.pe.2.2])] func150 U ntmps150 U (.cons U .nil) ?_;have d6:=hp;refine sr (bx U (λg1 w1 f3 M q1 z1=>(al y1j U (λg2 w2 f4 D q2 z2=>(al x3a U (λg3 w3 f5 I q3 z3=>(asg U (nn (sq (sr ?_))))))))));replace M:=M.ext (q2.n1 q3);refine z0l U M z6d ?_;replace hp:=d6.ext (q1.n2 q2 q3);refine cl (ev1 U) j0l (z9c q _ hp) U ?_;rintro _ w4 ⟨rfl,q4⟩;have z4:=q4.size;refine asg U (nn (sr (mv U (ne' U (nn (cd U (λc0=>?_) (λc0=>?_)))))));refine sr (z1t (cs:=[_,_,_,_,_]) z0f x0z z0q U ?_);refine z1t (cs:=[_,_,_]) z0f v5b z0q U ?_;refine mv U ?_;replace D:=D.ext (q3.n1 q4);refine z0j (vs:=[_,_,_,_,_]) U D z6u (λw5 D q5 z5=>?_);replace I:=(I.ext q4).fr q5;refine z0j (vs:=[_,_,_]) U I x0y (λw6 I q6 z6=>(asg U (kpL [(2,_),(3,_),(4,_)] (.c3 U U U) (nn (rt (tr ?_))))));replace D:=D.fr q6;refine j3b results150 U D z6d U I x4p U ?_;have he:mkE q.p=ynE q.p:=by unfold mkE;rw[if_pos c0]
 exact⟨_,rfl,yq0,0,false,sv0,[],by rw[he];rfl,(λh=>absurd h (by rw[he];exact c0)),(q1.z5 q2 q3 q4 q5 q6)⟩;have d7:=v0x (Classical.not_not.1 c0);refine sk (tn (sq (sr (fad U z9g ?_))));replace M:=M.ext q4;refine z0g U M U na4 (nt' U (nn (cd U (λc1=>?_) (λc1=>?_))));refine sr (z1t (cs:=[_,_,_,_,_]) z0f x0z z0q U ?_);refine z1t (cs:=[_,_,_]) z0f v5b z0q U ?_;replace D:=D.ext (q3.n1 q4);refine z0j (vs:=[_,_,_,_,_]) U D z6u (λw7 D q7 z7=>?_);replace I:=(I.ext q4).fr q7;refine z0j (vs:=[_,_,_]) U I x0y (λw8 I q8 z8=>(asg U (nn (rt (tr ?_)))));replace D:=D.fr q8;refine j3b results150 U D z6d U I x4p U ?_;have he:mkE q.p=12:=by unfold mkE;rw[if_neg c0,if_pos (by simpa using c1)]
 exact⟨_,rfl,yq0,0,false,sv0,[],by rw[he];rfl,(λh=>absurd h (by rw[he];decide)),(q1.z5 q2 q3 q4 q7 q8)⟩;have e3:q.inn=true:=(by simpa using c1);have d9:=d7.2;rw[if_pos e3]at d9;have f6:q.pes.length<=4096:=d9.2.1;have f2:0<=q.ct/\q.ct<=2048:=d7.1;refine sk (tn (sq (sr (fad U z6y (z0g U M U na3 (eq' U (nn (cd U (λc2=>?_) (λc2=>?_)))))))));refine sr (z1t (cs:=[_,_,_,_,_]) z0f x0z z0q U ?_);refine z1t (cs:=[_,_,_]) z0f v5b z0q U ?_;replace D:=D.ext (q3.n1 q4);refine z0j (vs:=[_,_,_,_,_]) U D z6u (λw9 D q9 z9=>?_);replace I:=(I.ext q4).fr q9;refine z0j (vs:=[_,_,_]) U I x0y (λf8 I e0 g5=>(asg U (nn (rt (tr ?_)))));replace D:=D.fr e0;refine j3b results150 U D z6d U I x4p U ?_;have he:mkE q.p=3:=by unfold mkE;rw[if_neg c0,if_neg (by simpa using c1),if_pos c2]
 exact⟨_,rfl,yq0,0,false,sv0,[],by rw[he];rfl,(λh=>absurd h (by rw[he];decide)),(q1.z5 q2 q3 q4 q9 e0)⟩;refine sk (tn (sq ?_));replace hp:=d6.ext (q1.n3 q2 q3 q4);intro a h;refine z0i none (λwb w'=>Fr [] wb w') z2r ?_;intro d5 b3;have g6:=b3.size;replace hp:=hp.ext b3;replace M:=M.ext b3;replace D:=D.ext (q3.n2 q4 b3);replace I:=I.ext (q4.n1 b3);have hC:Fr [] d5 d5:=Fr.refl _ _;have d3:=hp;have O:=M;have a2:=D;have a3:=I;refine z0c 0 h U z6y U λa h=>z0k 1 h U (λ_ hw=>O.ext hw) U na3 U λa h=>z0c 2 h U x6t U λa h=>z0k 3 h U (λ_ hw=>O.ext hw) U na4 U λa h=>z0c 4 h U z6n U λa h=>z0k 5 h U (λ_ hw=>O.ext hw) U y3k U λa h=>z2d 6 8 (by kernel_rfl) U ?_ ?_;refine z0m h (z0a U z0f) (mkC func199) (z9p _ _ _ hp (by omega)) ?_;rintro _ e5 ⟨d4,rfl,J,b4⟩ a h;have g7:=b4.size;replace M:=M.ext b4;replace D:=D.ext b4;replace I:=I.ext b4;replace hC:=hC.next b4;have b2:=λk hk=>(J.blk k hk).2;refine z0b ?_;refine z2y (cs:=[_,_,_]) 7 h (z0a U (z0a U (z0a U z0f))) v5b (z0h U (z0h U (z0h U z0q))) U U λa h=>z0d 8 U ?_;refine z1c h x3a U λf9 Z a8 hz a h=>?_;obtain⟨a6,hg⟩:∃g,g=e5.heap.size:=⟨_,rfl⟩;rw[<-hg]at Z h hz;have a5:g1<a6:=by have:=M.lt;omega
 have a5:g2<a6:=by have:=D.lt;omega
 have a5:g3<a6:=by have:=I.lt;omega
 have g8:=a8.size;replace hp:=hp.ext (b4.n1 a8);replace M:=M.ext a8;replace D:=D.ext a8;replace I:=I.ext a8;replace J:=J.ext a8;replace hC:=hC.next a8;refine z0b ?_;refine z0d 9 U ?_;refine z0u h U Z U x0y λe6 a1 a9 hz a h=>?_;have g9:=a9.size;replace hp:=hp.fr a9 (by intro k hk a0;simp at hk;subst hk;have:=hv _ a0;omega);replace M:=M.fr a9;replace D:=D.fr a9;replace I:=I.fr a9;replace J:=J.fr a9 (by intro k hk a0;simp at hk;subst hk;have d1:=b2 _ a0;have:=J.blk _ a0;omega);replace hC:=hC.sp a9;clear Z hz;have Z:Blk e6 a6 _ [_,_,_]:=a1;clear a1;refine z0b ?_;refine z0r ?_;clear hC d3 O a2 a3;refine bk (h.sub (L':=[(1,_),(2,_),(3,_),(6,_)]) (.c4 U U U U)) (tn (sq ?_));intro a h;refine z0i none (λwb w'=>Fr [g2,g3] wb w') z2r ?_;intro e1 b5;have h0:=b5.size;replace M:=M.ext b5;replace D:=D.ext b5;replace I:=I.ext b5;replace J:=J.ext b5;replace Z:=Z.ext b5;have hC:Fr [g2,g3] e1 e1:=Fr.refl _ _;have O:=M;have a2:=D;have a3:=I;have a7:=J;have a4:=Z;refine z0c 0 h U z5s U λa h=>z0k 1 h U (λ_ hw=>O.fr hw (by simp;omega)) U na3 U λa h=>z0c 2 h U z6y U λa h=>z0k 3 h U (λ_ hw=>O.fr hw (by simp;omega)) U na3 U λa h=>z4y 4 h U (by first|exact i6 (by omega)|rfl) U λa h=>z2y (cs:=[_,_,_,_,_]) 5 h (z0a U (z0a U (z0a U z0f))) x0z (z0h U (z0h U (z0h U z0q))) U U λa h=>z0z 6 h U (λ_ hw=>a4.fr hw (by simp;omega)) x4p U λa h=>z0d 7 U ?_;refine z0u h U D U z6u λe7 a1 b6 hz a h=>?_;have h1:=b6.size;replace M:=M.fr b6;replace I:=I.fr b6;replace J:=J.fr b6 (by intro k hk a0;simp at hk;subst hk;have d1:=b2 _ a0;have:=J.blk _ a0;omega);replace Z:=Z.fr b6;replace hC:=hC.sp b6;clear D hz;have D:Blk e7 g2 _ [_,_,_,_,_]:=a1;clear a1;refine z0b ?_;refine z0d 8 U ?_;refine z0u h U I U x0y λe8 a1 b7 hz a h=>?_;have h2:=b7.size;replace M:=M.fr b7;replace D:=D.fr b7;replace J:=J.fr b7 (by intro k hk a0;simp at hk;subst hk;have d1:=b2 _ a0;have:=J.blk _ a0;omega);replace Z:=Z.fr b7;replace hC:=hC.sp b7;clear I hz;have I:Blk e8 g3 _ [_,_,_]:=a1;clear a1;refine z0b ?_;refine z0d 9 U ?_;refine z0s h U λa h=>?_;refine z0b ?_;refine z0r ?_;clear hC O a2 a3 a7 a4;refine bk (h.sub (L':=[(2,_),(3,_),(4,_)]) (.c3 U U U)) (tn (rt (j3b results150 U D z6d U I x4p U ?_)));have he:mkE q.p=0:=by unfold mkE;rw[if_neg c0,if_neg (by simpa using c1),if_neg c2]
 exact⟨_,rfl,⟨true,q.pl,q.ct+1,false,sv0,[]⟩,q.ct,q.nw,(d4,q.pes.length,q.pes.length),q.pes,by rw[he];rfl,(λ_=>⟨rfl,rfl,rfl,rfl,J.low (by omega)⟩),((((q1.n6 q2 q3 q4 b3 b4 a8).z1 a9).n1 b5).z2 b6 b7)⟩;refine z1c h x3a U λg0 Z b8 hz a h=>?_;obtain⟨a6,hg⟩:∃g,g=d5.heap.size:=⟨_,rfl⟩;rw[<-hg]at Z h hz;have a5:g1<a6:=by have:=M.lt;omega
 have a5:g2<a6:=by have:=D.lt;omega
 have a5:g3<a6:=by have:=I.lt;omega
 have h3:=b8.size;replace hp:=hp.ext b8;replace hC:=hC.next b8;refine z0b ?_;refine z0d 6 U ?_;refine z0m h (z0a U z0f) (mkC func199) (z9p _ _ _ hp (by omega)) ?_;rintro _ g4 ⟨d4,rfl,J,b0⟩ a h;have h4:=b0.size;replace hp:=hp.ext b0;replace M:=M.ext (b8.n1 b0);replace D:=D.ext (b8.n1 b0);replace I:=I.ext (b8.n1 b0);replace Z:=Z.ext b0;replace hC:=hC.next b0;have b2:=λk hk=>(J.blk k hk).2;refine z0b ?_;refine z2y (cs:=[_,_,_]) 7 h (z0a U (z0a U (z0a U z0f))) v5b (z0h U (z0h U (z0h U z0q))) U U λa h=>z0d 9 U ?_;refine z0u h U Z U x0y λe9 a1 b1 hz a h=>?_;have h5:=b1.size;replace hp:=hp.fr b1 (by intro k hk a0;simp at hk;subst hk;have:=hv _ a0;omega);replace M:=M.fr b1;replace D:=D.fr b1;replace I:=I.fr b1;replace J:=J.fr b1 (by intro k hk a0;simp at hk;subst hk;have d1:=b2 _ a0;have:=J.blk _ a0;omega);replace hC:=hC.sp b1;clear Z hz;have Z:Blk e9 a6 _ [_,_,_]:=a1;clear a1;refine z0b ?_;refine z0r ?_;clear hC d3 O a2 a3;refine bk (h.sub (L':=[(1,_),(2,_),(3,_),(6,_)]) (.c4 U U U U)) (tn (sq ?_));intro a h;refine z0i none (λwb w'=>Fr [g2,g3] wb w') z2r ?_;intro e2 b9;have h6:=b9.size;replace M:=M.ext b9;replace D:=D.ext b9;replace I:=I.ext b9;replace Z:=Z.ext b9;replace J:=J.ext b9;have hC:Fr [g2,g3] e2 e2:=Fr.refl _ _;have O:=M;have a2:=D;have a3:=I;have a4:=Z;have a7:=J;refine z0c 0 h U z5s U λa h=>z0k 1 h U (λ_ hw=>O.fr hw (by simp;omega)) U na3 U λa h=>z0c 2 h U z6y U λa h=>z0k 3 h U (λ_ hw=>O.fr hw (by simp;omega)) U na3 U λa h=>z4y 4 h U (by first|exact i6 (by omega)|rfl) U λa h=>z2y (cs:=[_,_,_,_,_]) 5 h (z0a U (z0a U (z0a U z0f))) x0z (z0h U (z0h U (z0h U z0q))) U U λa h=>z0z 6 h U (λ_ hw=>a4.fr hw (by simp;omega)) x4p U λa h=>z0d 7 U ?_;refine z0u h U D U z6u λf0 a1 c9 hz a h=>?_;have h7:=c9.size;replace M:=M.fr c9;replace I:=I.fr c9;replace Z:=Z.fr c9;replace J:=J.fr c9 (by intro k hk a0;simp at hk;subst hk;have d1:=b2 _ a0;have:=J.blk _ a0;omega);replace hC:=hC.sp c9;clear D hz;have D:Blk f0 g2 _ [_,_,_,_,_]:=a1;clear a1;refine z0b ?_;refine z0d 8 U ?_;refine z0u h U I U x0y λf1 a1 d0 hz a h=>?_;have h8:=d0.size;replace M:=M.fr d0;replace D:=D.fr d0;replace Z:=Z.fr d0;replace J:=J.fr d0 (by intro k hk a0;simp at hk;subst hk;have d1:=b2 _ a0;have:=J.blk _ a0;omega);replace hC:=hC.sp d0;clear I hz;have I:Blk f1 g3 _ [_,_,_]:=a1;clear a1;refine z0b ?_;refine z0d 9 U ?_;refine z0s h U λa h=>?_;refine z0b ?_;refine z0r ?_;clear hC O a2 a3 a4 a7;refine bk (h.sub (L':=[(2,_),(3,_),(4,_)]) (.c3 U U U)) (tn (rt (j3b results150 U D z6d U I x4p U ?_)));have he:mkE q.p=0:=by unfold mkE;rw[if_neg c0,if_neg (by simpa using c1),if_neg c2]
 exact⟨_,rfl,⟨true,q.pl,q.ct+1,false,sv0,[]⟩,q.ct,q.nw,(d4,q.pes.length,q.pes.length),q.pes,by rw[he];rfl,(λ_=>⟨rfl,rfl,rfl,rfl,J.low (by omega)⟩),((((q1.n6 q2 q3 q4 b3 b8 b0).z1 b1).n1 b9).z2 c9 d0)⟩
set_option maxHeartbeats 1000000 in
theorem x1o (q:YQ)(d:Int)(w0:World)(hp:Sl z1s w0 (slv q.pe) q.pes):Rets prog 109 #[.agg #[.bool q.inn,.int .i64 q.pl,.int .i64 q.ct,.bool q.nw,.slice q.pe.1 q.pe.2.1 q.pe.2.2],.int .u8 d] w0 λr w'=>∃O:YQ,r=.tuple #[.agg #[.bool O.inn,.int .i64 O.pl,.int .i64 O.ct,.bool O.nw,.slice O.pe.1 O.pe.2.1 O.pe.2.2],.int .i64 (enE q.p d)]/\(enE q.p d=0->O=⟨true,if d=1 then 179 else -13,q.ct,true,sv0,[]⟩)/\Fr [] w0 w':=by
 have a4:=z1u hp;have a1:=hp.len_le;unfold maxLen at a1;refine we [(0,.agg #[.bool q.inn,.int .i64 q.pl,.int .i64 q.ct,.bool q.nw,.slice q.pe.1 q.pe.2.1 q.pe.2.2]),(1,.int .u8 d)] func109 U ntmps109 U (.c2 U U) ?_;have a0:=hp;refine sr (bx U (λg2 w1 a2 I q1 z1=>(al y1j U (λg4 w2 a3 D q2 z2=>(asg U (nn (sq (sr ?_))))))));replace I:=I.ext q2;refine z0l U I z6d ?_;replace hp:=a0.ext (q1.n1 q2);refine cl (ev1 U) j0l (z9c q _ hp) U ?_;rintro _ w3 ⟨rfl,M⟩;refine asg U (nn (sr (mv U (ne' U (nn (cd U (λc0=>?_) (λc0=>?_)))))));refine sr (z1t (cs:=[_,_,_,_,_]) z0f x0z z0q U ?_);refine mv U ?_;replace D:=D.ext M;refine z0j (vs:=[_,_,_,_,_]) U D z6u (λw4 D q4 z4=>(asg U (kpL [(4,_),(5,_)] (.c2 U U) (nn (rt (tr (rCT results109 U D z6d U ?_)))))));have J:enE q.p d=ynE q.p:=by unfold enE;rw[if_pos c0]
 exact⟨_,rfl,yq0,by rw[J];rfl,(λh=>absurd h (by rw[J];exact c0)),(q1.z3 q2 M q4)⟩;refine sk (tn (sq (sr (mv U (cl (ev1 U) (mkC func136) (y3i _ _) U ?_)))));rintro _ w5 ⟨rfl,Z⟩;refine nt' U (nn (cd U (λc1=>?_) (λc1=>?_)));refine sr (z1t (cs:=[_,_,_,_,_]) z0f x0z z0q U ?_);replace D:=D.ext (M.n1 Z);refine z0j (vs:=[_,_,_,_,_]) U D z6u (λw6 D q6 z6=>(asg U (nn (rt (tr (rCT results109 U D z6d U ?_))))));have J:enE q.p d=1:=by unfold enE;rw[if_neg c0,if_pos (by simpa using c1)]
 exact⟨_,rfl,yq0,by rw[J];rfl,(λh=>absurd h (by rw[J];decide)),(q1.z4 q2 M Z q6)⟩;refine sk (tn (sq (sr (fad U z9g ?_))));replace I:=I.ext (M.n1 Z);refine z0g U I U na4 (nn (cd U (λc2=>?_) (λc2=>?_)));refine sr (z1t (cs:=[_,_,_,_,_]) z0f x0z z0q U ?_);replace D:=D.ext (M.n1 Z);refine z0j (vs:=[_,_,_,_,_]) U D z6u (λw7 D q7 z7=>(asg U (nn (rt (tr (rCT results109 U D z6d U ?_))))));have J:enE q.p d=12:=by unfold enE;rw[if_neg c0,if_neg (by simpa using c1),if_pos (by simpa using c2)]
 exact⟨_,rfl,yq0,by rw[J];rfl,(λh=>absurd h (by rw[J];decide)),(q1.z4 q2 M Z q7)⟩;refine sk (tn (sr (asg U (nn ?_))));refine jn (ι:=Unit) [(2,_),(4,_)] (λ_j=>[(7,.int .i64 (if d=1 then 179 else -13))]) (λ_j w'=>Fr [] w5 w') (.c2 U U) ?_ ?_;refine sr (mv U (eq' U (nn (cd U (λc3=>?_) (λc3=>?_)))));refine rg (asg U (nl ?_));exact jE (()) (.c3 U U (congrArg (λq=>some (Value.int .i64 q)) (by first|exact(if_pos c3).symm|exact(if_neg c3).symm))) (Fr.refl _ _);refine sk ?_;exact jE (()) (.c3 U U (congrArg (λq=>some (Value.int .i64 q)) (by first|exact(if_pos c3).symm|exact(if_neg c3).symm))) (Fr.refl _ _);rintro _j w8 q8;refine kpC [(2,_),(4,_),(7,_)] (.c3 U U U) (sr (mv U (fad U z6y ?_)));replace I:=I.ext q8;refine z0g U I U na3 (z1t (cs:=[_,_,_,_,_]) (ev4 U) x0z (z0h U (z0h U (z0h U (z0h U z0q)))) U ?_);replace D:=D.ext (M.n2 Z q8);refine z0j (vs:=[_,_,_,_,_]) U D z6u (λw9 D q9 z9=>(asg U (kpL [(4,_),(5,_)] (.c2 U U) (nn (rt (rCT results109 U D z6d U ?_))))));have J:enE q.p d=0:=by unfold enE;rw[if_neg c0,if_neg (by simpa using c1),if_neg (by simpa using c2)]
 exact⟨_,rfl,⟨true,if d=1 then 179 else -13,q.ct,true,sv0,[]⟩,by rw[J];rfl,(λ_=>rfl),(q1.z5 q2 M Z q8 q9)⟩
end Go.Proofs.YtpgdchkdlgkmgaaGreatDoor
namespace Go.G21
open Go.Lw
def nd (T:Tb)(y:Nat)(n:Int):List LId:=z4p (lpA T y n.toNat)
def InM (ms:List Int)(i:LId):Prop:=i.n<ms.getD (i.y-1).toNat 0
def Has (T:Tb):Prop:=T.length=6/\∀y,y<6->∀n,n<z2o T y->∀i∈z4p (lpA T y n),z3z T i
theorem Has.nm {T:Tb}(h:Has T){y n:Nat}(hy:y<6)(hn:n<z2o T y){i:LId}(hi:i∈z4p (lpA T y n)):∃J M:Nat,J<6/\M<z2o T J/\i=⟨(J:Int)+1,(M:Int)⟩:=by
 obtain⟨O,Z,h3,h4⟩:=h.2 y hy n hn i hi;have:=h.1;obtain⟨I,D⟩:=i;simp only at O Z h3 h4;refine⟨(I-1).toNat,D.toNat,by omega,by omega,?_⟩;rw[show (((I-1).toNat:Nat):Int)+1=I by omega,show ((D.toNat:Nat):Int)=D by omega]
theorem y6p {ms:List Int}{y n:Nat}:InM ms ⟨(y:Int)+1,(n:Int)⟩↔(n:Int)<ms.getD y 0:=by
 unfold InM;show (n:Int)<ms.getD ((y:Int)+1-1).toNat 0↔_;rw[show ((y:Int)+1-1).toNat=y by omega]
theorem x7a:∀(l:List Int) (j:Nat) (v:Int),j<l.length->(l.set j v).sum=l.sum-l.getD j 0+v
 | a::l,0,v,_=>by simp;omega
 | a::l,j+1,v,h=>by
  have:=x7a l j v (by simpa using h)
  simp only[List.set_cons_succ,List.sum_cons,List.getD_cons_succ]at this ⊢;omega
theorem y8u:∀(l:List Int) (T:Tb),l.length=T.length->(∀i,i<l.length->l.getD i 0<=(z2o T i:Int))->l.sum<=(z3t T:Int)/\(l.sum=(z3t T:Int)->∀i,i<l.length->l.getD i 0=(z2o T i:Int))/\((∀i,i<l.length->l.getD i 0=(z2o T i:Int))->l.sum=(z3t T:Int))
 | [],[],_,_=>⟨by simp[z3t],λ_ i D=>by simp at D,λ_=>by simp[z3t]⟩
 | [],_::_,h,_=>by simp at h
 | _::_,[],h,_=>by simp at h
 | a::l,r::T,h,hb=>by
  obtain⟨h1,J,M⟩:=y8u l T (by simpa using h) (λi D=>by simpa[z2o] using hb (i+1) (by simpa using D))
  have h0:a<=(r.length:Int):=by simpa[z2o] using hb 0 (by simp)
  have e:(z3t (r::T):Int)=(r.length:Int)+(z3t T:Int):=by simp[z3t]
  rw[List.sum_cons,e]
  refine⟨by omega,λhs i D=>?_,λI=>?_⟩
  ·cases i with
   | zero=>show a=(r.length:Int);omega
   | succ i=>simpa[z2o] using J (by omega) i (by simpa using D)
  have O:a=(r.length:Int):=by simpa[z2o] using I 0 (by simp)
  have Z:=M (λi D=>by simpa[z2o] using I (i+1) (by simpa using D))
  omega
structure FstI (T:Tb) (ms ts:List Int) (N:Nat):Prop where
  lm:ms.length=6
  lt:ts.length=6
  mb:∀y,y<6->0<=ms.getD y 0/\ms.getD y 0<=(z2o T y:Int)
  tb:∀y,y<6->0<=ts.getD y 0
  td:∀y,y<6->∀k:Nat,(k:Int)<ts.getD y 0->k<(nd T y (ms.getD y 0)).length->InM ms ((nd T y (ms.getD y 0)).getD k id0)
  sum:ms.sum=(N:Int)
  rk:∃rk:LId->Nat,(∀y,y<6->∀n:Nat,(n:Int)<ms.getD y 0->rk ⟨(y:Int)+1,(n:Int)⟩<N/\∀i∈z4p (lpA T y n),InM ms i/\rk i<rk ⟨(y:Int)+1,(n:Int)⟩)/\∀y,y<6->∀n m:Nat,n<m->(m:Int)<ms.getD y 0->rk ⟨(y:Int)+1,(n:Int)⟩<rk ⟨(y:Int)+1,(m:Int)⟩
theorem j1k (y:Nat):(List.replicate 6 (0:Int)).getD y 0=0:=by rw[List.getD,List.getElem?_replicate];split<;>rfl
theorem FstI.init {T:Tb}:FstI T (List.replicate 6 0) (List.replicate 6 0) 0:=
 ⟨rfl,rfl,λy _=>by rw[j1k];omega,λy _=>by rw[j1k];omega,λy _ k I=>by rw[j1k]at I;omega,rfl,λ_=>0,λy _ n D=>by rw[j1k]at D;omega,λy _ n m _ D=>by rw[j1k]at D;omega⟩
theorem z4s {l:List Int}{i:Nat}(h:i<l.length)(v:Int)(j:Nat):(l.set i v).getD j 0=if i=j then v else l.getD j 0:=by
 rw[List.getD,List.getD,List.getElem?_set];split;rename_i e;subst e;first|rfl|(rw[if_pos h];rfl)
 rfl
variable {T:Tb} {ms ts:List Int} {N:Nat}
theorem FstI.there (h:FstI T ms ts N){y:Nat}(I:y<6)(J:InM ms ((nd T y (ms.getD y 0)).getD (ts.getD y 0).toNat id0)):FstI T ms (ts.set y (ts.getD y 0+1)) N:=by
 have hl:y<ts.length:=by rw[h.lt];exact I
 refine⟨h.lm,by rw[List.length_set];exact h.lt,h.mb,λz O=>?_,λz O k M D=>?_,h.sum,h.rk⟩;rw[z4s hl];split;have:=h.tb y I;omega;exact h.tb z O;rw[z4s hl]at M;split at M;rename_i e;subst e;have:=h.tb y I;by_cases e:k=(ts.getD y 0).toNat;rw[e];exact J;exact h.td y I k (by omega) D;exact h.td z O k M D
theorem FstI.push (h:FstI T ms ts N)(hH:Has T){y:Nat}(hy:y<6)(a8:ms.getD y 0<(z2o T y:Int))(a5:((nd T y (ms.getD y 0)).length:Int)<=ts.getD y 0):FstI T (ms.set y (ms.getD y 0+1)) (ts.set y 0) (N+1):=by
 have J:y<ms.length:=by rw[h.lm];exact hy
 have a0:y<ts.length:=by rw[h.lt];exact hy
 have h0:=h.mb y hy;obtain⟨m,hm⟩:=Int.eq_ofNat_of_zero_le h0.1;rw[hm]at a8 a5 ⊢;have a4:∀i,InM ms i->InM (ms.set y ((m:Int)+1)) i:=λi I=>by
  unfold InM at I ⊢;rw[z4s J];split;rename_i e;rw[<-e,hm]at I;omega;exact I
 have a3:∀i∈z4p (lpA T y m),InM ms i:=λi I=>by
  obtain⟨k,M,rfl⟩:=List.getElem_of_mem I;have e:nd T y (ms.getD y 0)=z4p (lpA T y m):=by unfold nd;rw[hm,Int.toNat_natCast]
  have:=h.td y hy k (by
   have e2:((nd T y (m:Int)).length:Int)<=ts.getD y 0:=a5;rw[<-hm,e]at e2;omega) (by rw[e];exact M)
  rw[e,List.getD,List.getElem?_eq_getElem M]at this;exact this
 obtain⟨rk,h1,h2⟩:=h.rk;have D:∀i,InM ms i->¬i=(⟨(y:Int)+1,(m:Int)⟩:LId):=λi I e=>by
  subst e;rw[y6p,hm]at I;omega
 refine⟨by rw[List.length_set];exact h.lm,by rw[List.length_set];exact h.lt,λz Z=>?_,λz Z=>?_,λz Z k M a7=>?_,?_,λi=>if i=⟨(y:Int)+1,(m:Int)⟩ then N else rk i,λz Z n hn=>?_,λz Z n k a9 M=>?_⟩;rw[z4s J];split;rename_i e;subst e;omega;exact h.mb z Z;rw[z4s a0];split;omega;exact h.tb z Z;rw[z4s a0]at M;split at M;omega;rename_i e;rw[z4s J,if_neg e]at a7 ⊢;exact a4 _ (h.td z Z k M a7);rw[x7a _ _ _ J,h.sum,hm];omega;rw[z4s J]at hn;simp only;by_cases e:z=y/\n=m;obtain⟨rfl,rfl⟩:=e;rw[if_pos U];refine⟨by omega,λi I=>⟨a4 i (a3 i I),?_⟩⟩;rw[if_neg (D i (a3 i I))];obtain⟨y',n',b0,_,rfl⟩:=hH.nm hy (by omega) I;exact(h1 y' b0 n' (y6p.1 (a3 _ I))).1;have O:(n:Int)<ms.getD z 0:=by
  split at hn;rename_i e2;subst e2;have:n≠m:=λe3=>e ⟨rfl,e3⟩;rw[hm];omega;exact hn
 rw[if_neg (D _ (y6p.2 O))];obtain⟨a1,a2⟩:=h1 z Z n O;refine⟨by omega,λi I=>?_⟩;obtain⟨b1,b2⟩:=a2 i I;rw[if_neg (D i b1)];exact⟨a4 i b1,b2⟩;rw[z4s J]at M;simp only;have O:(n:Int)<ms.getD z 0:=by
  split at M;rename_i e2;subst e2;rw[hm];omega;omega
 rw[if_neg (D _ (y6p.2 O))];by_cases e:z=y/\k=m;obtain⟨rfl,rfl⟩:=e;rw[if_pos U];exact(h1 z Z n O).1;have a6:(k:Int)<ms.getD z 0:=by
  split at M;rename_i e2;subst e2;have:k≠m:=λe3=>e ⟨rfl,e3⟩;rw[hm];omega;exact M
 rw[if_neg (D _ (y6p.2 a6))];exact h2 z Z n k a9 a6
theorem FstI.leI (h:FstI T ms ts N)(D:T.length=6):N<=z3t T:=by
 have:=(y8u ms T (by rw[h.lm,D]) (λi I=>(h.mb i (by rw[<-h.lm];exact I)).2)).1;rw[h.sum]at this;omega
def v3c (T:Tb)(ms:List Int)(y:Nat):Prop:=ms.getD y 0=(z2o T y:Int)\/(ms.getD y 0<(z2o T y:Int)/\∃i∈nd T y (ms.getD y 0),¬InM ms i)
theorem FstI.done (h:FstI T ms ts N)(hH:Has T)(hs:∀y,y<6->v3c T ms y)(ho:∃J,Ranked T J):N=z3t T:=by
 obtain⟨J,hr⟩:=ho;have a3:∀k y,y<6->ms.getD y 0<(z2o T y:Int)->J ⟨(y:Int)+1,ms.getD y 0⟩=k->False:=λk=>by
  induction k using Nat.strongRecOn with
  | ind k ih=>
   intro y hy a0 hk;obtain⟨m,hm⟩:=Int.eq_ofNat_of_zero_le (h.mb y hy).1;rcases hs y hy with e|⟨_,i,D,hn⟩
   omega;have O:i∈z4p (lpA T y m):=by unfold nd at D;rw[hm,Int.toNat_natCast]at D;exact D
   rw[hm]at a0 hk;obtain⟨M,n',I,a2,rfl⟩:=hH.nm hy (by omega) O;rw[y6p]at hn;obtain⟨m',a1⟩:=Int.eq_ofNat_of_zero_le (h.mb M I).1;have h1:=hr.need y hy m (by omega) _ O;have h2:J ⟨(M:Int)+1,(m':Int)⟩<=J ⟨(M:Int)+1,(n':Int)⟩:=by
    rcases Nat.lt_or_ge m' n' with h3|h3
    exact Nat.le_of_lt (hr.mono M I m' n' h3 a2);have:m'=n':=by omega
    rw[this];exact Nat.le_refl _
   refine ih (J ⟨(M:Int)+1,(m':Int)⟩) (by omega) M I (by omega) (by rw[a1])
 have:=(y8u ms T (by rw[h.lm,hH.1]) (λi D=>(h.mb i (by rw[<-h.lm];exact D)).2)).2.2 (λi D=>by
  have Z:i<6:=by rw[<-h.lm];exact D
  have h1:=(h.mb i Z).2;rcases Decidable.em (ms.getD i 0<(z2o T i:Int)) with h2|h2
  exact(a3 _ i Z h2 U).elim;omega)
 rw[h.sum]at this;omega
theorem FstI.ord (h:FstI T ms ts N)(hH:Has T)(hN:N=z3t T):∃O,Ranked T O:=by
 have D:=(y8u ms T (by rw[h.lm,hH.1]) (λi J=>(h.mb i (by rw[<-h.lm];exact J)).2)).2.1 (by rw[h.sum,hN]);obtain⟨O,Z,h2⟩:=h.rk;refine⟨O,⟨λy I n hn i J=>?_,λy I n m M hm=>?_⟩⟩;exact((Z y I n (by rw[D y (by rw[h.lm];exact I)];omega)).2 i J).2;exact h2 y I n m M (by rw[D y (by rw[h.lm];exact I)];omega)
end Go.G21
namespace Go.G21
open Go.Lw
def StN (W:Nat)(s:Lst)(i:LId):Prop:=match s with
  | none=>False
  | some (y,f)=>i.y=y/\(f:Int)<=i.n/\i.n<((f+2*W:Nat):Int)
instance (W:Nat) (s:Lst) (i:LId):Decidable (StN W s i):=by unfold StN;split<;>infer_instance
end Go.G21
namespace Go.G21
open Go.Lw
end Go.G21
namespace Go.G21
open Go.Lw
theorem y8g (ts:List TQ)(y:Nat):(z1w ts).getD y []=(ts.getD y tq0).2.map LpQ.p:=by
 rcases Nat.lt_or_ge y ts.length with h|h
 exact x1b (λp:TQ=>p.2.map LpQ.p) ts y tq0 [] h;rw[List.getD,List.getElem?_eq_none (by simpa[z1w] using h),List.getD,List.getElem?_eq_none h];rfl
theorem z2n (ts:List TQ)(y:Nat):z2o (z1w ts) y=(ts.getD y tq0).2.length:=by
 unfold z2o;rw[y8g,List.length_map]
theorem z7d (ts:List TQ)(y n:Nat):lpA (z1w ts) y n=((ts.getD y tq0).2.getD n lq0).p:=by
 unfold lpA;rw[y8g];generalize (ts.getD y tq0).2=l;rw[List.getD,List.getElem?_map,List.getD];cases l[n]?<;>rfl
theorem z2f {ts:List TQ}{i:LId}:z3z (z1w ts) i↔1<=i.y/\i.y<=(ts.length:Int)/\0<=i.n/\i.n<((ts.getD (i.y-1).toNat tq0).2.length:Int):=by
 unfold z3z;rw[z2n];simp only[z1w,List.length_map]
theorem z4o {w:World}{ts:List TQ}(h:TabAt w ts)(y:Nat):(ts.getD y tq0).1.2.1=(ts.getD y tq0).2.length:=by
 rcases Nat.lt_or_ge y ts.length with e|e
 exact z1u (h _ (z0t e)).1;rw[List.getD,List.getElem?_eq_none e];rfl
theorem z7u {w:World}{ts:List TQ}(h:TabAt w ts){y n:Nat}(D:y<ts.length)(hn:n<(ts.getD y tq0).2.length):LpAt w ((ts.getD y tq0).2.getD n lq0):=(h _ (z0t D)).2 _ (z0t hn)
theorem z6k (ts:List TQ):(z1w ts).length=ts.length:=by simp[z1w]
def z9v (T:Tb)(y n:Nat):List LId:=(T.take y).flatMap x8k++((T.getD y []).take n).flatMap Lp.th
theorem v5g (T:Tb):z9v T 0 0=[]:=by simp[z9v]
theorem x1y {T:Tb}{y n:Nat}(h:n<z2o T y):z9v T y (n+1)=z9v T y n++(lpA T y n).th:=by
 unfold z9v lpA;have D:n<(T.getD y []).length:=h;rw[x2c Lp.th _ n lq0.p D,List.append_assoc]
theorem v6f {T:Tb}{y:Nat}(h:y<T.length):z9v T (y+1) 0=z9v T y (z2o T y):=by
 unfold z9v z2o;rw[x2c x8k _ y [] h,List.take_zero,List.take_length];simp[x8k]
theorem v8y {T:Tb}{y:Nat}(h:T.length<=y):z9v T y 0=z7y T:=by
 unfold z9v z7y;rw[List.take_of_length_le h];simp
theorem u1c {T:Tb}{y n:Nat}(D:y<T.length)(i:LId):(z9v T y n).count i<=(z7y T).count i:=by
 have I:z7y T=(T.take y).flatMap x8k++(T.drop y).flatMap x8k:=by unfold z7y;rw[<-List.flatMap_append,List.take_append_drop]
 have J:T.drop y=T.getD y []::T.drop (y+1):=by
  rw[List.drop_eq_getElem_cons D,List.getD,List.getElem?_eq_getElem D];rfl
 have M:x8k (T.getD y [])=((T.getD y []).take n).flatMap Lp.th++((T.getD y []).drop n).flatMap Lp.th:=by
  unfold x8k;rw[<-List.flatMap_append,List.take_append_drop]
 rw[I,J,List.flatMap_cons,M];unfold z9v;simp only[List.count_append];omega
theorem u6k {T:Tb}{y n k:Nat}(M:y<T.length)(hn:n<z2o T y)(D:k<(lpA T y n).th.length):(z9v T y n++(lpA T y n).th.take k).count ((lpA T y n).th.getD k id0)+1<=(z7y T).count ((lpA T y n).th.getD k id0):=by
 have h:=u1c (n:=n+1) M ((lpA T y n).th.getD k id0)
 rw[x1y hn]at h
 generalize lpA T y n=l at *
 generalize z9v T y n=u at *
 have I:l.th=l.th.take k++l.th.getD k id0::l.th.drop (k+1):=by
  conv=>lhs;rw[<-List.take_append_drop k l.th,List.drop_eq_getElem_cons D]
  rw[List.getD,List.getElem?_eq_getElem D];rfl
 have J:=congrArg (List.count (l.th.getD k id0)) I
 rw[List.count_append,List.count_cons_self]at J
 rw[List.count_append]at h ⊢
 omega
def y9i (p:List LId)(i:LId):Value:=.int .i64 ((p.count i:Nat):Int)
theorem y9q (p:List LId)(k:LId):(λk'=>if k'=k then Value.int .i64 (((p.count k:Nat):Int)+1) else y9i p k')=y9i (p++[k]):=by
 funext k';unfold y9i;rw[List.count_append,List.count_singleton];by_cases h:k'=k;subst h;rw[if_pos U,if_pos (by simp)];rfl;rw[if_neg h,if_neg (by simpa using λe=>h e.symm),Nat.add_zero]
theorem z6i {α:Type}{l:List α}{k:Nat}(d:α)(h:k<l.length):l.take (k+1)=l.take k++[l.getD k d]:=by
 rw[List.take_add_one,List.getElem?_eq_getElem h,List.getD,List.getElem?_eq_getElem h];rfl
structure TabV (T:Tb):Prop where
  ok:TabOk T
  thr:∀i,(z7y T).count i<=1
theorem tabV {T:Tb}{H F:List LId}(h:TabOk T)(hp:PlaceOk T H F):TabV T:=by
 refine⟨h,λi=>?_⟩;by_cases hi:z3z T i;obtain⟨h1,h2,h3,h4⟩:=hi;have h6:=h.six;obtain⟨J,I⟩:=i;simp only at h1 h2 h3 h4;have:=hp.once (J-1).toNat (by omega) I.toNat (by omega);rw[show (((J-1).toNat:Nat):Int)+1=J by omega,show ((I.toNat:Nat):Int)=I by omega]at this;rw[List.count_append]at this;omega;have:(z7y T).count i=0:=by
  rw[List.count_eq_zero];intro D;unfold z7y x8k at D;obtain⟨r,hr,D⟩:=List.mem_flatMap.1 D;obtain⟨l,hl,D⟩:=List.mem_flatMap.1 D;obtain⟨y,hy,rfl⟩:=List.getElem_of_mem hr;obtain⟨n,O,rfl⟩:=List.getElem_of_mem hl;have M:T.getD y []=T[y]:=by rw[List.getD,List.getElem?_eq_getElem hy];rfl
  have Z:lpA T y n=T[y][n]:=by unfold lpA;rw[M,List.getD,List.getElem?_eq_getElem O];rfl
  have h6:=h.six;have:=(h.rts y (by omega) n (by unfold z2o;rw[M];exact O)).1.2.2.1 i (by rw[Z];unfold z4p;exact List.mem_append_left _ D);exact hi this
 omega
theorem thq (ts:List TQ)(y n:Nat):(lpA (z1w ts) y n).th=((ts.getD y tq0).2.getD n lq0).ths:=by rw[z7d]
theorem y6s {ts:List TQ}{y n:Nat}(h:n<(ts.getD y tq0).2.length):z9v (z1w ts) y (n+1)=z9v (z1w ts) y n++((ts.getD y tq0).2.getD n lq0).ths:=by
 rw[x1y (by rw[z2n];exact h),thq]
theorem y6v {ts:List TQ}{y:Nat}(h:y<ts.length):z9v (z1w ts) (y+1) 0=z9v (z1w ts) y (ts.getD y tq0).2.length:=by
 rw[v6f (by rw[z6k];exact h),z2n]
theorem x6h {ts:List TQ}{y n k:Nat}(D:∀i,(z7y (z1w ts)).count i<=1)(J:y<ts.length)(hn:n<(ts.getD y tq0).2.length)(I:k<((ts.getD y tq0).2.getD n lq0).ths.length) :
    ((z9v (z1w ts) y n++((ts.getD y tq0).2.getD n lq0).ths.take k++[((ts.getD y tq0).2.getD n lq0).ths.getD k id0]).count (((ts.getD y tq0).2.getD n lq0).ths.getD k id0))<=1:=by
  have h:=u6k (T:=z1w ts) (n:=n) (k:=k) (by rw[z6k];exact J) (by rw[z2n];exact hn) (by rw[thq];exact I)
  rw[thq]at h
  have M:=D (((ts.getD y tq0).2.getD n lq0).ths.getD k id0)
  rw[List.count_append,List.count_singleton,if_pos (by simp)]
  omega
def u3o (ts:List TQ)(i:Nat):Nat:=((ts.take i).map λp:TQ=>p.2.length).sum
theorem v2e {ts:List TQ}{i:Nat}(h:i<ts.length):u3o ts (i+1)=u3o ts i+(ts.getD i tq0).2.length:=by
 unfold u3o;rw[z6i tq0 h,List.map_append,List.sum_append];simp
theorem x5x (ts:List TQ):z3t (z1w ts)=(ts.map λp:TQ=>p.2.length).sum:=by
 unfold z3t z1w;rw[List.map_map];congr 1;apply List.map_congr_left;intro p _;simp
theorem u4u (ts:List TQ)(i:Nat):u3o ts i<=z3t (z1w ts):=by
 rw[x5x]
 conv=>rhs;rw[<-List.take_append_drop i ts,List.map_append,List.sum_append]
 unfold u3o;omega
theorem v9r (ts:List TQ):u3o ts ts.length=z3t (z1w ts):=by
 unfold u3o;rw[List.take_length,x5x]
theorem u7p {q:LpQ}{n:Nat}(h:n<q.ths.length):(z4p q.p).getD n id0=q.ths.getD n id0:=by
 show (q.ths++q.pas.map Pa.id).getD n id0=_;simp only[List.getD,List.getElem?_append_left h]
theorem u5z {q:LpQ}{n:Nat}(h:q.ths.length<=n)(I:n<(z4p q.p).length):(z4p q.p).getD n id0=(q.pas.getD (n-q.ths.length) pa0).id:=by
 have D:n-q.ths.length<q.pas.length:=by
  have:(z4p q.p).length=q.ths.length+q.pas.length:=by simp[z4p]
  omega
 show (q.ths++q.pas.map Pa.id).getD n id0=_;simp only[List.getD,List.getElem?_append_right h,List.getElem?_map,List.getElem?_eq_getElem D];rfl
theorem x8c (q:LpQ):(z4p q.p).length=q.ths.length+q.pas.length:=by simp[z4p]
theorem TabV.has {T:Tb}(h:TabV T):Has T:=⟨h.ok.six,λy J n I i D=>(h.ok.rts y J n I).1.2.2.1 i D⟩
end Go.G21
namespace Go.Lw
open Go.RowKit
def MapZ {κ:Type}[DecidableEq κ](V:κ->Value)(w:World)(g:Nat)(z:Value)(f:κ->Value):Prop:=
  ∃(es:Array MapEntry) (c:Nat) (m:List (κ×Value)),w.heap[g]?=some (.map es c)/\es.toList.map (λe=>(e.key,e.val))=m.map (λp=>(V p.1,p.2))/\(∀k,(z2k m k).getD z=f k)/\(es.toList.map (·.born)).Nodup/\∀e∈es.toList,e.born<c
def MapE {κ:Type}[DecidableEq κ](V:κ->Value)(w:World)(g:Nat)(z:Value)(f:κ->Value)(k:κ)(st:Nat):Prop:=
  ∃(es:Array MapEntry) (c:Nat) (m:List (κ×Value)) (j:Nat),w.heap[g]?=some (.map es c)/\es.toList.map (λe=>(e.key,e.val))=m.map (λp=>(V p.1,p.2))/\(∀k,(z2k m k).getD z=f k)/\(es.toList.map (·.born)).Nodup/\(∀e∈es.toList,e.born<c)/\(m.map (·.1)).findIdx? (λx=>decide (k=x))=some j/\(es.toList[j]?).map (·.born)=some st
section
variable {κ:Type} [DecidableEq κ] {V:κ->Value} {P:Program} {K:TypeId}
theorem MapZ.fr {w w':World}{g:Nat}{z:Value}{f:κ->Value}{S:List Nat}(h:MapZ V w g z f)(hf:Fr S w w')(hn:∀k∈S,k∉[g]:=by simp[z0v]<;>omega):MapZ V w' g z f:=by
 obtain⟨I,c,m,D,J⟩:=h;exact⟨I,c,m,(hf.block g (Array.getElem?_eq_some_iff.1 D).1 (λh=>hn g h (by simp))).trans D,J⟩
theorem MapZ.ext {w w':World}{g:Nat}{z:Value}{f:κ->Value}(h:MapZ V w g z f)(hf:Fr [] w w'):MapZ V w' g z f:=h.fr hf (by simp)
theorem MapZ.lt {w:World}{g:Nat}{z:Value}{f:κ->Value}(h:MapZ V w g z f):g<w.heap.size:=let ⟨_,_,_,h1,_⟩:=h;(Array.getElem?_eq_some_iff.1 h1).1
theorem MapZ.ne_blk {w:World}{g D T:Nat}{z:Value}{f:κ->Value}{cs:List Value}(h:MapZ V w g z f)(I:Blk w D T cs):g≠D:=by
 rintro rfl;obtain⟨_,_,_,J,_⟩:=h;unfold Blk at I;rw[I]at J;cases J
theorem MapE.map {w:World}{g st:Nat}{z:Value}{f:κ->Value}{k:κ}(h:MapE V w g z f k st):MapZ V w g z f:=
 let ⟨es,c,m,_,h1,h2,h3,h4,h5,_⟩:=h;⟨es,c,m,h1,h2,h3,h4,h5⟩
theorem x9s {l:List MapEntry}(hn:(l.map (·.born)).Nodup){j st:Nat}(h:(l[j]?).map (·.born)=some st):l.findIdx? (λe=>((e.born:Nat):Int) == ((st:Nat):Int))=some j:=by
 induction l generalizing j with
 | nil=>simp at h
 | cons a r ih=>
  simp only[List.map_cons,List.nodup_cons]at hn;cases j with
  | zero=>simp at h;subst h;simp[List.findIdx?_cons]
  | succ j=>
   simp only[List.getElem?_cons_succ]at h;obtain⟨I,O,Z⟩:=Option.map_eq_some_iff.1 h;have D:a.born≠st:=λJ=>hn.1 (List.mem_map.2 ⟨I,List.mem_of_getElem? O,Z.trans J.symm⟩);have M:(((a.born:Nat):Int) == ((st:Nat):Int))=false:=by
    simp only[beq_eq_false_iff_ne,ne_eq,Int.natCast_inj];exact D
   rw[List.findIdx?_cons,M];simp[ih hn.2 h]
theorem x3u {w:World}{g:Nat}{z:Value}{f:κ->Value}{t E:TypeId}(h:MapZ V w g z f)(O:KeyLaw P K V)(Z:P.underlying t=some (.map K E))(hz:(zeroValue E).run P w=.ok z w)(k:κ) :
    (Instr.lookup t (.map (some g)) (V k) false).run P w=.ok (f k) w:=by
  obtain⟨D,c,m,I,J,M,_⟩:=h
  rw[<-M k]
  exact y6r (f:=z2k m) ⟨D,c,m,I,J,λ_=>rfl⟩ O Z hz k
theorem y9b {w:World}{g:Nat}{z:Value}{f:κ->Value}{t E:TypeId}(h:MapZ V w g z f)(hk:KeyLaw P K V)(hu:P.underlying t=some (.map K E))(hz:∀w:World,(zeroValue E).run P w=.ok z w)(k:κ) :
    ∃w' st,(Instr.mapEntry t (.map (some g)) (V k)).run P w=.ok (.tuple #[f k,.int .i64 (st:Nat)]) w'/\MapE V w' g z f k st/\Fr [g] w w'/\w'.heap.size=w.heap.size:=by
  obtain⟨I,c,m,h1,h2,h3,h4,h5⟩:=h
  have a8:=(Array.getElem?_eq_some_iff.1 h1).1
  have Z:I.toList.map (·.key)=(m.map (·.1)).map V:=by
    have:=congrArg (List.map Prod.fst) h2
    simpa[List.map_map,Function.comp_def] using this
  have J:=hk.find k I.toList (m.map (·.1)) w Z
  have a0:∀o,(setObj g o).run P w=.ok () { w with heap:=w.heap.setIfInBounds g o }:=by intro o;simp[setObj,Sem.run,h1]
  have a4:∀o,Fr [g] w { w with heap:=w.heap.setIfInBounds g o }:=λo=>⟨rfl,rfl,rfl,by simp,λi _ hn=>by
    simp only
    rw[Array.getElem?_setIfInBounds_ne (by intro e;subst e;simp at hn)]⟩
  have M:∀o,({ w with heap:=w.heap.setIfInBounds g o }:World).heap[g]?=some o:=by intro o;simp[a8]
  have a6:I.toList.length=m.length:=by have:=congrArg List.length h2;simpa using this
  have D:=y1l (V:=V) m k I.toList h2
  cases hf:(m.map (·.1)).findIdx? (λx=>decide (k=x)) with
  | none=>
    rw[hf]at J D
    simp only[Option.bind_none,Option.map_none]at D
    have e0:f k=z:=by rw[<-h3 k,<-D];rfl
    refine⟨{ w with heap:=w.heap.setIfInBounds g (.map (I.push { key:=V k,val:=z,born:=c }) (c+1)) },c,?_,⟨_,_,m++[(k,z)],m.length,M (.map (I.push { key:=V k,val:=z,born:=c }) (c+1)),?_,λk'=>?_,?_,?_,?_,?_⟩,a4 _,by simp⟩
    · simp only[Instr.mapEntry,Sem.run_bind,run_underlying hu,Result.andThen_ok,z2l h1,hk.check,J,Option.bind_none,hz w,a0,Sem.run_pure,e0]
      rfl
    · simp[h2]
    · rw[y3a m k k' z hf,<-h3 k']
      split
      · rename_i e;subst e;rw[h3,e0];rfl
      · rfl
    · simp only[Array.toList_push,List.map_append,List.map_cons,List.map_nil]
      refine List.nodup_append.2 ⟨h4,by simp,λa ha b hb e=>?_⟩
      simp only[List.mem_singleton]at hb
      obtain⟨x,hx,rfl⟩:=List.mem_map.1 ha
      have:=h5 x hx;omega
    · intro e he
      simp only[Array.toList_push,List.mem_append,List.mem_singleton]at he
      rcases he with he|rfl
      · have:=h5 e he;omega
      · simp
    · rw[List.map_append,List.findIdx?_append,hf];simp
    · simp only[Array.toList_push]
      rw[<-a6,List.getElem?_append_right (Nat.le_refl _)];simp
  | some i=>
    have hi:i<m.length:=by
      have:=List.findIdx?_eq_some_iff_findIdx_eq.1 hf
      simpa using this.1
    have O:i<I.toList.length:=by omega
    have a5:V k=(I.toList[i]).key:=by
      have a7:=List.findIdx?_eq_some_iff_getElem.1 hf
      obtain⟨b0,hp,_⟩:=a7
      have a9:k=(m.map (·.1))[i]:=by simpa using hp
      have e1:(I.toList.map (·.key))[i]?=((m.map (·.1)).map V)[i]?:=by rw[Z]
      simp only[List.getElem?_map,List.getElem?_eq_getElem O,List.getElem?_eq_getElem hi,Option.map_some,Option.some.injEq]at e1
      rw[e1,a9];simp
    have a3:I[i]?=some I.toList[i]:=by rw[<-Array.getElem?_toList,List.getElem?_eq_getElem O]
    have a2:(Instr.keyThatStays (((I[i]?).map (·.key)).getD (V k)) (V k)).run P w=.ok (V k) w:=by
      rw[a3]
      simp only[Option.map_some,Option.getD_some,<-a5,Instr.keyThatStays,hk.bits,if_true,Sem.run_pure]
    have a1:I.modify i (λe=>{ e with key:=V k })=I:=by
      apply Array.ext'
      rw[Array.toList_modify]
      apply List.ext_getElem?
      intro j
      rw[List.getElem?_modify]
      by_cases hj:i=j
      · subst hj
        rw[List.getElem?_eq_getElem O]
        simp only[Option.map_eq_map,Option.map_some,if_pos,Option.some.injEq]
        rw[a5]
      · simp[hj]
    rw[hf]at J D
    simp only[Option.bind_some,List.getElem?_eq_getElem O,Option.map_some]at J D
    have e0:f k=I.toList[i].val:=by rw[<-h3 k,<-D];rfl
    refine⟨{ w with heap:=w.heap.setIfInBounds g (.map I c) },I.toList[i].born,?_,⟨I,c,m,i,M _,h2,h3,h4,h5,hf,?_⟩,a4 _,by simp⟩
    · simp only[Instr.mapEntry,Sem.run_bind,run_underlying hu,Result.andThen_ok,z2l h1,hk.check,J,a2,a0,a1,Sem.run_pure,e0]
      rw[a3];rfl
    · rw[List.getElem?_eq_getElem O];rfl
theorem y4n {w:World}{g st:Nat}{z v:Value}{f:κ->Value}{t:TypeId}{k:κ}(h:MapE V w g z f k st) :
    ∃w',(Instr.entryStore t (.map (some g)) (.int .i64 (st:Nat)) v).run P w=.ok () w'/\MapZ V w' g z (λk'=>if k'=k then v else f k')/\Fr [g] w w'/\w'.heap.size=w.heap.size:=by
  obtain⟨I,c,m,j,h1,h2,h3,h4,h5,h6,h7⟩:=h
  have a2:=(Array.getElem?_eq_some_iff.1 h1).1
  have a0:∀o,(setObj g o).run P w=.ok () { w with heap:=w.heap.setIfInBounds g o }:=by intro o;simp[setObj,Sem.run,h1]
  have a1:∀o,Fr [g] w { w with heap:=w.heap.setIfInBounds g o }:=λo=>⟨rfl,rfl,rfl,by simp,λi _ hn=>by
    simp only
    rw[Array.getElem?_setIfInBounds_ne (by intro e;subst e;simp at hn)]⟩
  have J:∀o,({ w with heap:=w.heap.setIfInBounds g o }:World).heap[g]?=some o:=by intro o;simp[a2]
  have Z:I.findIdx? (λe=>((e.born:Nat):Int) == ((st:Nat):Int))=some j:=by
    have e:I.findIdx? (λe=>((e.born:Nat):Int) == ((st:Nat):Int))=I.toList.findIdx? (λe=>((e.born:Nat):Int) == ((st:Nat):Int)):=by cases I;simp
    rw[e];exact x9s h4 h7
  have hi:j<m.length:=by
    have:=List.findIdx?_eq_some_iff_findIdx_eq.1 h6
    simpa using this.1
  refine⟨{ w with heap:=w.heap.setIfInBounds g (.map (I.modify j λe=>{ e with val:=v }) c) },?_,⟨_,c,m.modify j λp=>(p.1,v),J _,?_,λk'=>?_,?_,?_⟩,a1 _,by simp⟩
  · simp only[Instr.entryStore,Sem.run_bind,Result.andThen_ok,z2l h1,asInt,asIntOf,Sem.run_pure,Z,a0]
  · rw[Array.toList_modify]
    apply List.ext_getElem?
    intro i
    have D:=congrArg (·[i]?) h2
    simp only[List.getElem?_map]at D ⊢
    rw[List.getElem?_modify,List.getElem?_modify]
    by_cases hj:j=i
    · subst hj
      simp only[Option.map_eq_map,if_pos]
      cases M:I.toList[j]? with
      | none=>rw[M]at D;cases hm:m[j]? with
        | none=>rfl
        | some p=>rw[hm]at D;cases D
      | some e=>rw[M]at D;cases hm:m[j]? with
        | none=>rw[hm]at D;cases D
        | some p=>
          rw[hm]at D
          simp only[Option.map_some,Option.some.injEq,Prod.mk.injEq]at D ⊢
          first|exact⟨D.1,rfl⟩|exact⟨D.1,trivial⟩|simp[D.1]
    · simp only[Option.map_eq_map,if_neg hj];simpa using D
  · rw[z9m k k' v m j h6]
    show _=if k'=k then v else f k'
    split
    · rfl
    · exact h3 k'
  · rw[Array.toList_modify]
    have e:(I.toList.modify j λe=>{ e with val:=v }).map (·.born)=I.toList.map (·.born):=by
      apply List.ext_getElem?
      intro i
      rw[List.getElem?_map,List.getElem?_map,List.getElem?_modify]
      split
      · cases I.toList[i]?<;>rfl
      · simp
    rw[e];exact h4
  · intro e M
    rw[Array.toList_modify]at M
    obtain⟨i,O,rfl⟩:=List.getElem_of_mem M
    rw[List.length_modify]at O
    rw[List.getElem_modify]
    have:=h5 _ (List.getElem_mem O)
    split<;>exact this
variable {a:Act} {n:Nat} {L:List (Nat×Value)} {ds:List Nat} {w w':World} {Q:Exit->Act->World->Prop} {ops:Array Oper} {rest:List Oper}
variable {d:Nat} {ty:TypeId} {pos:String} {after:Array Edge} {x y z':Operand} {t E:TypeId} {g st:Nat} {f:κ->Value} {k:κ} {v z:Value}
theorem x4b (V:κ->Value)(z:Value)(h:AgM ds a n L)(hn:Nat.blt d n=true)
    (q:∀g w',g=w.heap.size->MapZ V w' g z (λ_=>z)->Fr [] w w'->w'.heap.size=g+1->∀a,AgM ds a n ((d,.map (some g))::L)->wpList P ops Q rest a w'):wpList P ops Q (⟨some d,.makeMap t none,ty,pos,after,none⟩::rest) a w:=
  z1x h U hn (w':=w.alloc (.map #[] 0)) (by simp[execOp,Instr.makeMap]) (q _ _ U ⟨_,_,[],heap_alloc_new w _,by simp,λ_=>rfl,by simp,by simp⟩ (Fr.alloc [] w _) (by simp))
theorem y7s (V:κ->Value)(z:Value)(hn:Nat.blt d n=true)(q:∀g w',g=w.heap.size->MapZ V w' g z (λ_=>z)->Fr [] w w'->w'.heap.size=g+1->WL P ops Q rest n ds w' ((d,.map (some g))::L)):WL P ops Q (⟨some d,.makeMap t none,ty,pos,after,none⟩::rest) n ds w L:=λa h=>x4b V z h hn q
theorem z7q (h:AgM ds a n L)(O:ev L x=some (.map (some g)))(Z:ev L y=some (V k))(I:MapZ V w g z f)(D:KeyLaw P K V)(J:P.underlying t=some (.map K E))(hz:∀w:World,(zeroValue E).run P w=.ok z w)(M:f k=v)(hn:Nat.blt d n=true)
    (q:∀a,AgM ds a n ((d,v)::L)->wpList P ops Q rest a w):wpList P ops Q (⟨some d,.lookup t x y false,ty,pos,after,none⟩::rest) a w:=
  z1x h U hn (by rw[<-M];simp[execOp,h.eval O,h.eval Z,x3u I D J (hz w) k]) q
theorem y5v (O:ev L x=some (.map (some g)))(Z:ev L y=some (V k))(I:MapZ V w g z f)(D:KeyLaw P K V)(J:P.underlying t=some (.map K E))(hz:∀w:World,(zeroValue E).run P w=.ok z w)(M:f k=v)(hn:Nat.blt d n=true)
 (q:WL P ops Q rest n ds w ((d,v)::L)):WL P ops Q (⟨some d,.lookup t x y false,ty,pos,after,none⟩::rest) n ds w L:=λa h=>z7q h O Z I D J hz M hn q
theorem z6v (h:AgM ds a n L)(hx:ev L x=some (.map (some g)))(hy:ev L y=some (V k))(O:MapZ V w g z f)(M:KeyLaw P K V)(hu:P.underlying t=some (.map K E))(hz:∀w:World,(zeroValue E).run P w=.ok z w)(hn:Nat.blt d n=true)
    (q:∀w' st,MapE V w' g z f k st->Fr [g] w w'->w'.heap.size=w.heap.size->∀a,AgM ds a n ((d,.tuple #[f k,.int .i64 (st:Nat)])::L)->wpList P ops Q rest a w'):wpList P ops Q (⟨some d,.mapEntry t x y,ty,pos,after,none⟩::rest) a w:=by
  obtain⟨w',st,Z,D,I,J⟩:=y9b O M hu hz k
  exact z1x h U hn (w':=w') (by simp[execOp,h.eval hx,h.eval hy,Z]) (q w' st D I J)
theorem z5j {s:Operand}(h:AgM ds a n L)(hx:ev L x=some (.map (some g)))(Z:ev L s=some (.int .i64 (st:Nat)))(hy:ev L y=some v)(M:MapE V w g z f k st)
    (q:∀w',MapZ V w' g z (λk'=>if k'=k then v else f k')->Fr [g] w w'->w'.heap.size=w.heap.size->∀a,AgM ds a n L->wpList P ops Q rest a w'):wpList P ops Q (⟨none,.entryStore t x s y,ty,pos,after,none⟩::rest) a w:=by
  obtain⟨w',O,D,I,J⟩:=y4n (P:=P) (t:=t) (v:=v) M
  exact z9e h U U (w':=w') (by simp[execOp,h.eval hx,h.eval Z,h.eval hy,O]) (q w' D I J)
end
end Go.Lw
namespace Go.Lw
open Go.RowKit
theorem x8s {w:World}{ad:Addr}{cs vs:List Value}{off:Nat}(h:Cells w ad cs)(I:(cs.drop off).take vs.length=vs):Cells w (ad.add off) vs:=λj u D=>by
 rw[<-I]at D
 rw[List.getElem?_take]at D
 split at D
 ·rw[List.getElem?_drop]at D
  rw[z9a];exact h _ u D
 cases D
section
variable {P:Program} {a:Act} {n:Nat} {L:List (Nat×Value)} {ds:List Nat} {w:World} {Q:Exit->Act->World->Prop} {ops:Array Oper} {rest:List Oper} {d g p:Nat} {ty t:TypeId} {pos:String} {after:Array Edge} {x:Operand} {l:List UInt8}
end
end Go.Lw
namespace Go.Lw
open Go.RowKit
section
variable {P:Program} {a:Act} {n:Nat} {L:List (Nat×Value)} {ds:List Nat} {w:World} {Q:Exit->Act->World->Prop} {ops:Array Oper} {rest:List Oper} {d:Nat} {ty t T:TypeId} {pos:String} {after:Array Edge} {x:Operand}
end
section
variable {P:Program} {a:Act} {n:Nat} {L:List (Nat×Value)} {ds:List Nat} {w:World} {Q:Exit->Act->World->Prop} {ops:Array Oper} {rest:List Oper} {d:Nat} {ty t T:TypeId} {pos:String} {after:Array Edge} {x y:Operand} {k:IntKind} {i:Int}
end
end Go.Lw
namespace Go.Proofs.YtpgdchkdlgkmgaaGreatDoor
open Go.Lw Go.G21 Go.G08 _root_.Go.Proofs.Tryz
theorem y3d:ElemOf prog 35 46 z3l 24:=ElemOf.mk' (z:=(.slice none 0 0)) underlying35 (by kernel_rfl) U
theorem x0m:z2a prog 46:=λ_=>by kernel_rfl
theorem v5h (i:LId)(v:Value)(ts:List TQ)(w0:World)(Z:Sl z3l w0 v ts)(hk:TabAt w0 ts)(hl:ts.length<=200)(hi:0<=i.y/\i.y<=255):Rets prog 250 #[v,.agg #[.int .u8 i.y,.int .i64 i.n]] w0 λr w'=>r=.bool (decide (z3z (z1w ts) i))/\Fr [] w0 w':=by
 obtain⟨A,c,rfl,a4,hM,hA⟩:=id Z;clear hA;unfold maxLen at hM;have a1:=z4o hk;have a6:=a1 (i.y-1).toNat;refine we [(0,.slice A ts.length c),(1,.agg #[.int .u8 i.y,.int .i64 i.n])] func250 U ntmps250 U (.c2 U U) ?_;have a2:=Z;have a0:=hk;refine sr (bx U (λg3 w1 a5 I M z1=>(asg U (nn (sq ?_)))));replace Z:=a2.ext M;replace hk:=a0.ext M;intro a h;refine y2z z2r (by kernel_rfl) (z2s h U z7s U λa h=>z5h h U (λ_ J=>I.ext J) U na5 U λa h=>u1b h U U U λa h=>z3y h U λa h=>gSp (D:=8) h U ?_ ?_);clear h;intro g0 h;refine z2h h U U U U (z2s h U z7s U λa h=>z2h h U U U U (z5h h U (λ_ J=>I.ext J) U na5 U λa h=>z2h h U U U U ?_));refine v6s h U (by rw[underlying5];rfl) underlying3 (by first|exact i6 (by omega)|rfl) U λa h=>?_;refine z2h h U U U U (z3y h U λa h=>z2h h U U U U (y9a h U underlying35 U λa h=>z2h h U U U U (j0p h U U U λa h=>?_)));refine z7m h U λa h=>z3y h U λa h=>gSp (D:=16) h U ?_ ?_;clear h;intro g1 h;refine z2h h U U U U (z2s h U z9f U λa h=>z2h h U U U U (z5h h U (λ_ J=>I.ext J) U na3 U λa h=>z2h h U U U U (u1b h U U U λa h=>?_)));refine z7m h U λa h=>z3y h U λa h=>gSp (D:=21) h U ?_ ?_;clear h;intro g2 h;refine z2h h U U U U (z2s h U z9f U λa h=>z2h h U U U U (z5h h U (λ_ J=>I.ext J) U na3 U λa h=>z2h h U U U U (z3y h U λa h=>?_)));refine z2h h U U U U (z2s h U z7s U λa h=>z2h h U U U U (z5h h U (λ_ J=>I.ext J) U na5 U λa h=>z2h h U U U U (u4d h U U (by first|exact IntWalk.u8_in _ (by omega)|rfl) U λa h=>?_)));refine z2h h U U U U (v1c (tq0) h U Z U y3d (by omega) (by omega) U U λa3 O a h=>z2h h U U U U (x0t h U (λ_ J=>O _ (Z.ext J)) x0m U λa h=>z2h h U U U U (y9a h U underlying46 U λa h=>?_)));refine z2h h U U U U (j4h h U U U λa h=>z7m h U λa h=>z5l h U U λa h=>wpQuiet_nil ?_);intro w2 q2;refine bk (h.sub (L':=[(4,_)]) (.cons U .nil)) (tn (rt (r1 results250 U ?_)));exact⟨_,rfl,by first|exact congrArg Value.bool (decide_eq_decide.2 (by rw[z2f];omega))|exact congrArg Value.bool (decide_eq_false (by rw[z2f];omega)).symm|exact congrArg Value.bool (decide_eq_true (by rw[z2f];omega)).symm,(M.n1 q2)⟩;clear h;intro g2 h;refine z1q h U U U U λa h=>z1q h U U U U λa h=>z1q h U U U U λa h=>z1q h U U U U λa h=>z1q h U U U U λa h=>z1q h U U U U λa h=>?_;refine z1q h U U U U λa h=>z1q h U U U U λa h=>z1q h U U U U λa h=>z1q h U U U U λa h=>z3k h U λa h=>z5l h U U λa h=>?_;refine wpQuiet_nil ?_;intro w3 q3;refine bk (h.sub (L':=[(4,_)]) (.cons U .nil)) (tn (rt (r1 results250 U ?_)));exact⟨_,rfl,by first|exact congrArg Value.bool (decide_eq_decide.2 (by rw[z2f];omega))|exact congrArg Value.bool (decide_eq_false (by rw[z2f];omega)).symm|exact congrArg Value.bool (decide_eq_true (by rw[z2f];omega)).symm,(M.n1 q3)⟩;clear h;intro g1 h;refine z1q h U U U U λa h=>z1q h U U U U λa h=>z1q h U U U U λa h=>z3k h U λa h=>z3y h U λa h=>z1q h U U U U λa h=>?_;refine z1q h U U U U λa h=>z1q h U U U U λa h=>z1q h U U U U λa h=>z1q h U U U U λa h=>z1q h U U U U λa h=>z1q h U U U U λa h=>?_;refine z1q h U U U U λa h=>z1q h U U U U λa h=>z1q h U U U U λa h=>z3k h U λa h=>z5l h U U λa h=>wpQuiet_nil ?_;intro w4 q4;refine bk (h.sub (L':=[(4,_)]) (.cons U .nil)) (tn (rt (r1 results250 U ?_)));exact⟨_,rfl,by first|exact congrArg Value.bool (decide_eq_decide.2 (by rw[z2f];omega))|exact congrArg Value.bool (decide_eq_false (by rw[z2f];omega)).symm|exact congrArg Value.bool (decide_eq_true (by rw[z2f];omega)).symm,(M.n1 q4)⟩;clear h;intro g0 h;refine z1q h U U U U λa h=>z1q h U U U U λa h=>z1q h U U U U λa h=>z1q h U U U U λa h=>z1q h U U U U λa h=>z1q h U U U U λa h=>?_;refine z3k h U λa h=>z3y h U λa h=>z1q h U U U U λa h=>z1q h U U U U λa h=>z1q h U U U U λa h=>z3k h U λa h=>?_;refine z3y h U λa h=>z1q h U U U U λa h=>z1q h U U U U λa h=>z1q h U U U U λa h=>z1q h U U U U λa h=>z1q h U U U U λa h=>?_;refine z1q h U U U U λa h=>z1q h U U U U λa h=>z1q h U U U U λa h=>z1q h U U U U λa h=>z1q h U U U U λa h=>z3k h U λa h=>?_;refine z5l h U U λa h=>wpQuiet_nil ?_;intro w5 q5;refine bk (h.sub (L':=[(4,_)]) (.cons U .nil)) (tn (rt (r1 results250 U ?_)));exact⟨_,rfl,by first|exact congrArg Value.bool (decide_eq_decide.2 (by rw[z2f];omega))|exact congrArg Value.bool (decide_eq_false (by rw[z2f];omega)).symm|exact congrArg Value.bool (decide_eq_true (by rw[z2f];omega)).symm,(M.n1 q5)⟩
theorem x5d (i:LId)(v:Value)(ts:List TQ)(w0:World)(Z:Sl z3l w0 v ts)(hk:TabAt w0 ts)(hl:ts.length<=200)(hi:0<=i.y/\i.y<=255):Rets prog 138 #[v,.agg #[.int .u8 i.y,.int .i64 i.n]] w0 λr w'=>r=.bool (decide (z3z (z1w ts) i))/\Fr [] w0 w':=by
 obtain⟨A,c,rfl,a4,hM,hA⟩:=id Z;clear hA;unfold maxLen at hM;have a1:=z4o hk;have a6:=a1 (i.y-1).toNat;refine we [(0,.slice A ts.length c),(1,.agg #[.int .u8 i.y,.int .i64 i.n])] func138 U ntmps138 U (.c2 U U) ?_;have a2:=Z;have a0:=hk;refine sr (bx U (λg3 w1 a5 I M z1=>(asg U (nn (sq ?_)))));replace Z:=a2.ext M;replace hk:=a0.ext M;intro a h;refine y2z z2r (by kernel_rfl) (z2s h U z7s U λa h=>z5h h U (λ_ J=>I.ext J) U na5 U λa h=>u1b h U U U λa h=>z3y h U λa h=>gSp (D:=8) h U ?_ ?_);clear h;intro g0 h;refine z2h h U U U U (z2s h U z7s U λa h=>z2h h U U U U (z5h h U (λ_ J=>I.ext J) U na5 U λa h=>z2h h U U U U ?_));refine v6s h U (by rw[underlying5];rfl) underlying3 (by first|exact i6 (by omega)|rfl) U λa h=>?_;refine z2h h U U U U (z3y h U λa h=>z2h h U U U U (y9a h U underlying35 U λa h=>z2h h U U U U (j0p h U U U λa h=>?_)));refine z7m h U λa h=>z3y h U λa h=>gSp (D:=16) h U ?_ ?_;clear h;intro g1 h;refine z2h h U U U U (z2s h U z9f U λa h=>z2h h U U U U (z5h h U (λ_ J=>I.ext J) U na3 U λa h=>z2h h U U U U (u1b h U U U λa h=>?_)));refine z7m h U λa h=>z3y h U λa h=>gSp (D:=21) h U ?_ ?_;clear h;intro g2 h;refine z2h h U U U U (z2s h U z9f U λa h=>z2h h U U U U (z5h h U (λ_ J=>I.ext J) U na3 U λa h=>z2h h U U U U (z3y h U λa h=>?_)));refine z2h h U U U U (z2s h U z7s U λa h=>z2h h U U U U (z5h h U (λ_ J=>I.ext J) U na5 U λa h=>z2h h U U U U (u4d h U U (by first|exact IntWalk.u8_in _ (by omega)|rfl) U λa h=>?_)));refine z2h h U U U U (v1c (tq0) h U Z U y3d (by omega) (by omega) U U λa3 O a h=>z2h h U U U U (x0t h U (λ_ J=>O _ (Z.ext J)) x0m U λa h=>z2h h U U U U (y9a h U underlying46 U λa h=>?_)));refine z2h h U U U U (j4h h U U U λa h=>z7m h U λa h=>z5l h U U λa h=>wpQuiet_nil ?_);intro w2 q2;refine bk (h.sub (L':=[(4,_)]) (.cons U .nil)) (tn (rt (r1 results138 U ?_)));exact⟨_,rfl,by first|exact congrArg Value.bool (decide_eq_decide.2 (by rw[z2f];omega))|exact congrArg Value.bool (decide_eq_false (by rw[z2f];omega)).symm|exact congrArg Value.bool (decide_eq_true (by rw[z2f];omega)).symm,(M.n1 q2)⟩;clear h;intro g2 h;refine z1q h U U U U λa h=>z1q h U U U U λa h=>z1q h U U U U λa h=>z1q h U U U U λa h=>z1q h U U U U λa h=>z1q h U U U U λa h=>?_;refine z1q h U U U U λa h=>z1q h U U U U λa h=>z1q h U U U U λa h=>z1q h U U U U λa h=>z3k h U λa h=>z5l h U U λa h=>?_;refine wpQuiet_nil ?_;intro w3 q3;refine bk (h.sub (L':=[(4,_)]) (.cons U .nil)) (tn (rt (r1 results138 U ?_)));exact⟨_,rfl,by first|exact congrArg Value.bool (decide_eq_decide.2 (by rw[z2f];omega))|exact congrArg Value.bool (decide_eq_false (by rw[z2f];omega)).symm|exact congrArg Value.bool (decide_eq_true (by rw[z2f];omega)).symm,(M.n1 q3)⟩;clear h;intro g1 h;refine z1q h U U U U λa h=>z1q h U U U U λa h=>z1q h U U U U λa h=>z3k h U λa h=>z3y h U λa h=>z1q h U U U U λa h=>?_;refine z1q h U U U U λa h=>z1q h U U U U λa h=>z1q h U U U U λa h=>z1q h U U U U λa h=>z1q h U U U U λa h=>z1q h U U U U λa h=>?_;refine z1q h U U U U λa h=>z1q h U U U U λa h=>z1q h U U U U λa h=>z3k h U λa h=>z5l h U U λa h=>wpQuiet_nil ?_;intro w4 q4;refine bk (h.sub (L':=[(4,_)]) (.cons U .nil)) (tn (rt (r1 results138 U ?_)));exact⟨_,rfl,by first|exact congrArg Value.bool (decide_eq_decide.2 (by rw[z2f];omega))|exact congrArg Value.bool (decide_eq_false (by rw[z2f];omega)).symm|exact congrArg Value.bool (decide_eq_true (by rw[z2f];omega)).symm,(M.n1 q4)⟩;clear h;intro g0 h;refine z1q h U U U U λa h=>z1q h U U U U λa h=>z1q h U U U U λa h=>z1q h U U U U λa h=>z1q h U U U U λa h=>z1q h U U U U λa h=>?_;refine z3k h U λa h=>z3y h U λa h=>z1q h U U U U λa h=>z1q h U U U U λa h=>z1q h U U U U λa h=>z3k h U λa h=>?_;refine z3y h U λa h=>z1q h U U U U λa h=>z1q h U U U U λa h=>z1q h U U U U λa h=>z1q h U U U U λa h=>z1q h U U U U λa h=>?_;refine z1q h U U U U λa h=>z1q h U U U U λa h=>z1q h U U U U λa h=>z1q h U U U U λa h=>z1q h U U U U λa h=>z3k h U λa h=>?_;refine z5l h U U λa h=>wpQuiet_nil ?_;intro w5 q5;refine bk (h.sub (L':=[(4,_)]) (.cons U .nil)) (tn (rt (r1 results138 U ?_)));exact⟨_,rfl,by first|exact congrArg Value.bool (decide_eq_decide.2 (by rw[z2f];omega))|exact congrArg Value.bool (decide_eq_false (by rw[z2f];omega)).symm|exact congrArg Value.bool (decide_eq_true (by rw[z2f];omega)).symm,(M.n1 q5)⟩
theorem v8s (u:Value)(A:Option Addr)(m c:Nat)(w0:World)(J:m=0):Rets prog 198 #[u,.slice A m c] w0 λr w'=>r=u/\Fr [] w0 w':=by
 refine we [(0,u),(1,.slice A m c)] func198 U ntmps198 U (.c2 U U) (sr (asg U (nn (sq (sr (mv U (lnS U underlying54 (mv U (nn (bl ?_))))))))));refine lpK (ι:=Nat) [(0,_),(8,_),(9,_)] (λk=>[(10,.int .i64 (k:Int))]) (λk w'=>Fr [] w0 w'/\k<=m) (λk=>m-k) 0 (.c4 U U U U) ⟨Fr.refl _ _,Nat.zero_le _⟩ ?_;rintro k w1 ⟨D,I⟩;refine kpC [(0,_),(8,_),(9,_),(10,_)] (.c4 U U U U) (sr (lt' U ?_));rw[show decide ((k:Int)<(m:Int))=false from decide_eq_false (by omega)];refine nn (sq (cf U (ex (te (te (xh (tn (sr (mv U (asg U (kpL [(4,_)] (.cons U .nil) (nn (rt (r1 results198 U ?_))))))))))))));exact⟨_,rfl,rfl,D⟩
theorem u0a (base:Nat)(u v:Value)(l:List Pa)(wS w0:World)(I:Lw.Own z1s 100 base w0 u [])(M:Sl z1s wS v l)(J:Sl z1s w0 v l)(hb:wS.heap.size<=base)(D:base<=w0.heap.size)(hn:l.length<=100000):Rets prog 198 #[u,v] w0 λr w'=>∃S,Lw.Own z1s 100 base w' r (z4u [] l)/\(∀k∈S,base<=k)/\Fr S w0 w':=by
 by_cases e:l=[];subst e;obtain⟨A,c,rfl,_⟩:=J.form;refine Rets.mono (v8s u A _ c w0 U) ?_;rintro r w' ⟨rfl,hf⟩;exact⟨[],I.ext hf,by simp,hf⟩;exact v5r base u v [] l w0 I J (λk O=>by have:=M.blk e k O;omega) D (by simpa using hn)
theorem v2l (v:Value)(l:List Pa)(w0:World)(J:Sl z1s w0 v l)(hl:l.length<=50000):Rets prog 251 #[v] w0 λr w'=>∃A,r=.slice A (z4u [] l).length (z4u [] l).length/\Fr [] w0 w':=by
 obtain⟨A,c,rfl,a1,hM,hA⟩:=id J;clear hA;unfold maxLen at hM;refine we [(0,.slice A l.length c)] func251 U ntmps251 U (.cons U .nil) ?_;have I:=J;refine sr (asg U (nn (sr (mv U (lnS U underlying54 (z1i (m:=0) (c:=l.length) (pa0) U z9d y6j U (λg5 w1 a2 ho Z z1=>(mv U ?_))))))));replace J:=I.ext Z;refine cl (ev2 U) (mkC func198) (u0a g5 _ _ l w0 _ (by simpa using ho) I J (by omega) (by omega) (by omega)) U ?_;rintro V7 w2 ⟨S7,D,M,q2⟩;have O:=y0y l [];obtain⟨A7,c7,rfl,a0⟩:=D.sl.form;refine cl (ev1 U) (mkC func199) (z9p _ _ _ D.sl (by simp only[List.length_nil]at O;omega)) U ?_;rintro _ w3 ⟨A8,rfl,a4,q3⟩;refine asg U (kpL [(2,_)] (.cons U .nil) (nn (rt (r1 results251 U ?_))));exact⟨_,rfl,A8,rfl,((Z.step q2 (λk hk a3=>absurd (M k hk) (by omega))).n1 q3)⟩
theorem y3v (v:Value)(ts:List TQ)(w0:World)(I:Sl z3l w0 v ts)(hk:TabAt w0 ts)(hN:z3t (z1w ts)<=100000):Rets prog 151 #[v] w0 λr w'=>r=.int .i64 (z3t (z1w ts):Int)/\Fr [] w0 w':=by
 obtain⟨A,c,rfl,a2,hM,hA⟩:=id I;clear hA;unfold maxLen at hM;have J:=z4o hk;refine we [(0,.slice A ts.length c)] func151 U ntmps151 U (.cons U .nil) ?_;have M:=I;have a3:=hk;refine sr (asg U (nn (sr (asg U (nn (sq (sr (mv U (lnS U underlying35 (mv U (nn (bl ?_))))))))))));refine lpK (ι:=Nat) [(6,_),(7,_)] (λi=>[(8,.int .i64 (i:Int)),(3,.int .i64 (u3o ts i:Int))]) (λi w'=>Fr [] w0 w'/\i<=ts.length) (λi=>ts.length-i) 0 (.c4 U U U U) ⟨Fr.refl _ _,Nat.zero_le _⟩ ?_;rintro i w1 ⟨O,hi⟩;refine kpC [(6,_),(7,_),(8,_),(3,_)] (.c4 U U U U) (sr (lt' U (nn (sq (cd U (λc0=>?_) (λc0=>?_))))));have a4:=J i;have a0:=v2e (ts:=ts) (i:=i) (by omega);have a1:=u4u ts (i+1);refine sk (tn (sq (bl (sr ?_))));replace I:=M.ext O;refine z0y (tq0) U I U y3d z1e (λZ D=>?_);refine z1g U (D _ I) x0m (asg U (nn (rg (mv U (mv U (lnS U underlying46 (z0w U (wi6 (by omega)) (asg U (nl (bn' (tn (rg (z0w U (wi6 (by omega)) (mv U (nl ?_)))))))))))))));exact lpE (i+1) (.c4 U U U (congrArg (λz=>some (Value.int .i64 z)) (by omega))) ⟨O,by omega⟩ (by omega);obtain rfl:i=ts.length:=by omega
 refine ex (te (te (xh (tn (sr (mv U (asg U (kpL [(2,_)] (.cons U .nil) (nn (rt (r1 results151 U ?_)))))))))));exact⟨_,rfl,by rw[v9r],O⟩
theorem z5d:ElemOf prog 37 87 z1h 16:=ElemOf.mk' (z:=(.agg #[.int .u8 0,.int .i64 0])) underlying37 (by kernel_rfl) U
theorem x2h:z1a prog 89 0 0:=λ_ _=>by kernel_rfl
theorem z6w:z1a prog 89 2 2:=λ_ _=>by kernel_rfl
theorem z8m:z1a prog 89 3 3:=λ_ _=>by kernel_rfl
theorem z4x:z2a prog 37:=λ_=>by kernel_rfl
theorem y0b:z1r prog 87 2:=λ_=>by kernel_rfl
theorem y3h (w:World):(zeroValue 87).run prog w=.ok (.agg #[(.int .u8 0),(.int .i64 0)]) w:=by kernel_rfl
set_option maxHeartbeats 1000000 in
theorem v9f (q:LpQ)(v:Value)(ts:List TQ)(w0:World)(hs:Sl z3l w0 v ts)(hk:TabAt w0 ts)(hl:ts.length=6)(M:LpAt w0 q)(hv:y2q (z1w ts) q.p):Rets prog 229 #[v,.agg #[.int .u8 q.b,.bool q.nw,.slice q.th.1 q.th.2.1 q.th.2.2,.slice q.pa.1 q.pa.2.1 q.pa.2.2]] w0 λr w'=>r=.bool true/\Fr [] w0 w':=by
 obtain⟨A,c,rfl,b6,hM,hA⟩:=id hs;clear hA;unfold maxLen at hM;have d7:=z4o hk;have d0:=z1u M.1;have d1:=z1u M.2;have hb:q.b=0\/q.b=1:=hv.1;have d4:q.ths.length<=4:=hv.2.1.1;have d5:q.pas.length<=4096:=hv.2.1.2;have b2:∀p∈q.pas,z5y p.d:=hv.2.2.2.1;have d6:(z4u [] q.pas).length=q.pas.length:=hv.2.2.2.2;have a8:∀i,i<q.ths.length->z3z (z1w ts) (q.ths.getD i id0):=λi hi=>hv.2.2.1 _ (List.mem_append_left _ (z0t hi));have a7:∀i,i<q.pas.length->z3z (z1w ts) (q.pas.getD i pa0).id:=λi hi=>hv.2.2.1 _ (List.mem_append_right _ (List.mem_map_of_mem (z0t hi)));have d3:=z6k ts;refine we [(0,.slice A ts.length c),(1,.agg #[.int .u8 q.b,.bool q.nw,.slice q.th.1 q.th.2.1 q.th.2.2,.slice q.pa.1 q.pa.2.1 q.pa.2.2])] func229 U ntmps229 U (.c2 U U) ?_;have a9:=hs;have a6:=hk;have a0:=M;refine sr (bx U (λg3 w1 b7 D q1 z1=>(asg U (nn (sq (sq ?_))))));refine rbo (r:=16) (L':=[(0,_),(3,_)]) (((q.b≠0)/\(q.b≠1))) (.c2 U U) ?_ ?_;refine fad U x2h (z0g U D U x1a (ne' U (mv U (gs 12 U (λg0=>?_) (λg0=>?_)))));exact gY U (fad U x2h (gY U (z0g U D U x1a (gY U (ne' U (pkt U (rbe U (.c2 U U))))))));exact gN U (gN U (gN U (pkf U (rbe U (.c2 U U)))));refine tn (cd U (λc0=>?_) (λc0=>?_));refine sr (asg U (nn (rt (tr (r1 results229 U ?_)))));exfalso;omega;refine sk (tn (sq (sq ?_)));refine rbo (r:=26) (L':=[(0,_),(3,_)]) (((4<(q.th.2.1:Int))\/(4096<(q.pa.2.1:Int)))) (.c2 U U) ?_ ?_;refine fad U z6w (z0g U D U z4x (lnS U underlying37 (gt' U (mv U (gs 21 U (λg1=>?_) (λg1=>?_))))));exact gN U (gN U (gN U (gN U (pkt U (rbe U (.c2 U U))))));exact gY U (fad U z8m (gY U (z0g U D U y3k (gY U (lnS U underlying54 (gY U (gt' U (pkf U (rbe U (.c2 U U))))))))));refine tn (cd U (λc1=>?_) (λc1=>?_));refine sr (asg U (nn (rt (tr (r1 results229 U ?_)))));exfalso;omega;refine sk (tn (sq (sr (fad U z6w (z0g U D U z4x (lnS U underlying37 (mv U (nn (bl ?_)))))))));refine lpK (ι:=Nat) [(0,_),(3,_),(28,_),(29,_)] (λi=>[(30,.int .i64 (i:Int))]) (λi w'=>Fr [] w1 w'/\i<=q.ths.length) (λi=>q.ths.length-i) 0 (.c5 U U U U U) ⟨Fr.refl _ _,Nat.zero_le _⟩ ?_;rintro i w2 ⟨O,hi⟩;have z2:=O.size;refine kpC [(0,_),(3,_),(28,_),(29,_),(30,_)] (.c5 U U U U U) (sr (lt' U (nn (sq (cd U (λc2=>?_) (λc2=>?_))))));refine sk (tn (sq (bl (sr ?_))));replace M:=a0.ext (q1.n1 O);refine z0y (id0) U M.1 U z5d z1e (λb3 a4=>?_);refine z1k U (a4 _ M.1) z3j (al y3h U (λg6 w3 b8 a1 q3 z3=>(z0j (vs:=[_,_]) U a1 y0b (λw4 a1 q4 z4=>(nn (sr (mv U (z0l U a1 z3j ?_))))))));replace hs:=a9.ext (q1.z3 O q3 q4);replace hk:=a6.ext (q1.z3 O q3 q4);refine cl (ev2 U) (mkC func250) (v5h (q.ths.getD i id0) _ _ _ hs hk (by omega) (by have h:=a8 i (by omega);have:=h.1;have:=h.2.1;omega)) U ?_;rintro _ w5 ⟨rfl,q5⟩;have z5:=q5.size;refine nt' U (nn (cd U (λc3=>?_) (λc3=>?_)));refine sr (asg U (kpL [(4,_)] (.cons U .nil) (nn (rt (rb (tr (tr (rb (tr (r1 results229 U ?_))))))))));exact absurd (a8 i (by omega)) (by simpa using c3);refine sk (bn' (tn (rg (z0w U (wi6 (by omega)) (mv U (nl ?_))))));exact lpE (i+1) (.c5 U U U U U) ⟨(O.z3 q3 q4 q5),by omega⟩ (by omega);obtain rfl:i=q.ths.length:=by omega
 refine ex (te (te (xh (tn (sq (sr (fad U z8m ?_)))))));replace D:=D.ext O;refine z0g U D U y3k (lnS U underlying54 (mv U (nn (bl ?_))));refine lpK (ι:=Nat) [(0,_),(3,_),(40,_),(41,_)] (λi=>[(42,.int .i64 (i:Int))]) (λi w'=>Fr [] w2 w'/\i<=q.pas.length) (λi=>q.pas.length-i) 0 (.c5 U U U U U) ⟨Fr.refl _ _,Nat.zero_le _⟩ ?_;rintro i w6 ⟨q6,hi⟩;have z6:=q6.size;refine kpC [(0,_),(3,_),(40,_),(41,_),(42,_)] (.c5 U U U U U) (sr (lt' U (nn (sq (cd U (λc4=>?_) (λc4=>?_))))));have d9:(q.pas.getD i pa0).d=0\/(q.pas.getD i pa0).d=1:=b2 _ (z0t (by omega));have c9:=a7 i (by omega);refine sk (tn (sq (bl (sr ?_))));replace M:=a0.ext (q1.n2 O q6);refine z0y (pa0) U M.2 U z9d z1e (λb4 a5=>?_);refine z1k U (a5 _ M.2) z6j (al y6j U (λg8 w7 b9 J q7 z7=>(z0j (vs:=[_,_,_,_]) U J x0k (λw8 J q8 z8=>(nn (sq ?_))))));refine y9u (r:=60) (L':=[(0,_),(3,_),(40,_),(41,_),(42,_)]) (((¬z3z (z1w ts) (q.pas.getD i pa0).id)\/(((q.pas.getD i pa0).d≠0)/\((q.pas.getD i pa0).d≠1)))) (.c5 U U U U U) ?_ ?_;refine mv U (fad U y8a (z1v (vs:=[_,_]) U J z3j U ?_));replace hs:=a9.ext (q1.z4 O q6 q7 q8);replace hk:=a6.ext (q1.z4 O q6 q7 q8);refine cl (ev2 U) (mkC func250) (v5h (q.pas.getD i pa0).id _ _ _ hs hk (by omega) (by have h:=a7 i (by omega);have:=h.1;have:=h.2.1;omega)) U ?_;rintro _ w9 ⟨rfl,q9⟩;have z9:=q9.size;refine nt' U (mv U (gs 51 U (λg2=>?_) (λg2=>?_)));exact gN U (gN U (gN U (gN U (gS U (gS U (gS U (gN U (pkt U (z8e U (.c5 U U U U U) q9)))))))));refine gY U (fad U z7e (gY U ?_));replace J:=J.ext q9;refine z0g U J U y9s (gY U (ne' U (gY U (mv U (gs 55 U (λg3=>?_) (λg3=>?_))))));exact gY U (fad U z7e (gY U (z0g U J U y9s (gY U (ne' U (gY U (pkt U (pkf U (z8e U (.c5 U U U U U) q9)))))))));exact gN U (gN U (gN U (gY U (pkf U (pkf U (z8e U (.c5 U U U U U) q9))))));intro e0 b0;have e2:=b0.size;refine tn (cd U (λc5=>?_) (λc5=>?_));refine sr (asg U (kpL [(4,_)] (.cons U .nil) (nn (rt (rb (tr (tr (rb (tr (r1 results229 U ?_))))))))));exact(by exfalso;first|omega|(simp_all;done)|(simp_all;omega));refine sk (bn' (tn (rg (z0w U (wi6 (by omega)) (mv U (nl ?_))))));exact lpE (i+1) (.c5 U U U U U) ⟨(q6.z3 q7 q8 b0),by omega⟩ (by omega);obtain rfl:i=q.pas.length:=by omega
 refine ex (te (te (xh (tn (sq ?_)))));replace M:=a0.ext (q1.n2 O q6);intro a h;refine z0i none (λwb w'=>Fr [] wb w') z2r ?_;intro b1 Z;have e3:=Z.size;replace M:=M.ext Z;replace D:=D.ext (q6.n1 Z);have hC:Fr [] b1 b1:=Fr.refl _ _;have a3:=M;have I:=D;refine z0c 0 h U z8m U λa h=>z0k 1 h U (λ_ hw=>I.ext hw) U y3k U λa h=>z0c 4 h U z8m U λa h=>z0k 5 h U (λ_ hw=>I.ext hw) U y3k U λa h=>z8g 6 hC h wn U underlying54 U λa h=>z0d 2 U ?_;refine z0m h (z0a U z0f) (mkC func251) (v2l _ q.pas _ M.2 (by omega)) ?_;rintro _ e1 ⟨b5,rfl,a2⟩ a h;have e4:=a2.size;replace hC:=hC.next a2;refine z0b ?_;refine z8g 3 hC h wn U underlying54 U λa h=>v8j 7 hC h wn U U U U λa h=>z0d 8 U ?_;refine z0s h U λa h=>?_;refine z0b ?_;refine z0r ?_;clear hC a3 I;refine bk (h.sub (L':=[(4,_)]) (.cons U .nil)) (tn (rt (r1 results229 U ?_)));exact⟨_,rfl,congrArg Value.bool (decide_eq_true (by omega)),(q1.n4 O q6 Z a2)⟩
theorem x7r:z3s prog 89 4:=⟨λ_=>by kernel_rfl,λ_=>by kernel_rfl⟩
theorem x3r:ElemOf prog 46 89 z4k 56:=ElemOf.mk' (z:=(.agg #[.int .u8 0,.bool false,.slice none 0 0,.slice none 0 0])) underlying46 (by kernel_rfl) U
theorem x7b:z1a prog 89 1 1:=λ_ _=>by kernel_rfl
theorem v9d:z1r prog 89 4:=λ_=>by kernel_rfl
theorem v7f (w:World):(zeroValue 89).run prog w=.ok (.agg #[(.int .u8 0),(.bool false),(.slice none 0 0),(.slice none 0 0)]) w:=by kernel_rfl
set_option maxHeartbeats 1000000 in
theorem v5x (v:Value)(ts:List TQ)(w0:World)(O:Sl z3l w0 v ts)(I:TabAt w0 ts)(hl:ts.length=6)(hv:TabOk (z1w ts)):Rets prog 189 #[v] w0 λr w'=>r=.int .i64 0/\Fr [] w0 w':=by
 obtain⟨A,c,rfl,a8,hM,hA⟩:=id O;clear hA;unfold maxLen at hM;have a5:=z4o I;refine we [(0,.slice A ts.length c)] func189 U ntmps189 U (.cons U .nil) ?_;have a2:=O;have M:=I;refine sr (asg U (nn (sq (sr (mv U (lnS U underlying35 (mv U (nn (bl ?_)))))))));refine lpK (ι:=Nat) [(0,_),(7,_),(8,_)] (λy=>[(9,.int .i64 (y:Int))]) (λy w'=>Fr [] w0 w'/\y<=ts.length) (λy=>ts.length-y) 0 (.c4 U U U U) ⟨Fr.refl _ _,Nat.zero_le _⟩ ?_;rintro y w1 ⟨J,hy⟩;have z1:=J.size;refine kpC [(0,_),(7,_),(8,_),(9,_)] (.c4 U U U U) (sr (lt' U (nn (sq (cd U (λc0=>?_) (λc0=>?_))))));replace I:=M.ext J;have b0:=a5 y;have a3:=(I _ (z0t (d:=tq0) (i:=y) (by omega))).1.len_le;unfold maxLen at a3;refine sk (tn (sq (bl (sr ?_))));replace O:=a2.ext J;refine z0y (tq0) U O U y3d z1e (λa6 a0=>?_);refine z1g U (a0 _ O) x0m (asg U (nn (sr (mv U (lnS U underlying46 (mv U (nn (bl ?_))))))));refine lpK (ι:=Nat) [(0,_),(7,_),(8,_),(9,_),(13,_),(14,_)] (λn=>[(15,.int .i64 (n:Int))]) (λn w'=>Fr [] w1 w'/\n<=(ts.getD y tq0).2.length) (λn=>(ts.getD y tq0).2.length-n) 0 (.c7 U U U U U U U) ⟨Fr.refl _ _,Nat.zero_le _⟩ ?_;rintro n w2 ⟨Z,hn⟩;have z2:=Z.size;refine kpC [(0,_),(7,_),(8,_),(9,_),(13,_),(14,_),(15,_)] (.c7 U U U U U U U) (sr (lt' U (nn (sq (cd U (λc1=>?_) (λc1=>?_))))));have a4:n=0->((ts.getD y tq0).2.getD n lq0).nw=true:=λe=>by
  have h:=(hv.rts y (by omega) n (by rw[z2n];omega)).2 e;rw[z7d]at h;exact h
 refine sk (tn (sq (bl (sr (mv U ?_)))));replace I:=M.ext (J.n1 Z);refine z0y (lq0) U (I _ (z0t (d:=tq0) (i:=y) (by omega))).1 U x3r z1e (λa7 a1=>?_);refine z1k U (a1 _ (I _ (z0t (d:=tq0) (i:=y) (by omega))).1) x7r (al v7f U (λg6 w3 a9 D q3 z3=>?_));refine asg U (z0j (vs:=[_,_,_,_]) U D v9d (λw4 D q4 z4=>?_) (h1:=(by first|(simp[Value.oneCell',S];done)|exact z4k.one ((ts.getD y tq0).2.getD n lq0))));refine nn (sq ?_);refine y9u (r:=32) (L':=[(0,_),(7,_),(8,_),(9,_),(13,_),(14,_),(15,_)]) (((¬(0:Int)=0)\/(((n:Int)=0)/\(¬((ts.getD y tq0).2.getD n lq0).nw=true)))) (.c7 U U U U U U U) ?_ ?_;refine mv U (z0l U D x7r ?_);replace O:=a2.ext (J.z3 Z q3 q4);replace I:=M.ext (J.z3 Z q3 q4);refine cl (ev2 U) (mkC func229) (v9f ((ts.getD y tq0).2.getD n lq0) _ _ _ O I hl (z7u I (by omega) (by omega)) (by have h:=(hv.rts y (by omega) n (by rw[z2n];omega)).1;rw[z7d]at h;exact h)) U ?_;rintro _ w5 ⟨rfl,q5⟩;have z5:=q5.size;refine nt' U (mv U (gs 24 U (λg0=>?_) (λg0=>?_)));exact gN U (gN U (gN U (gS U (gS U (gS U (gN U (pkt U (z8e U (.c7 U U U U U U U) q5))))))));refine gY U (mv U (gY U (eq' U (gY U (mv U (gs 27 U (λg1=>?_) (λg1=>?_)))))));refine gY U (fad U x7b (gY U ?_));replace D:=D.ext q5;exact z0g U D U na4 (gY U (nt' U (gY U (pkt U (pkf U (z8e U (.c7 U U U U U U U) q5))))));exact gN U (gN U (gN U (gY U (pkf U (pkf U (z8e U (.c7 U U U U U U U) q5))))));intro w6 q6;have z6:=q6.size;refine tn (cd U (λc2=>?_) (λc2=>?_));refine sr (asg U (kpL [(2,_)] (.cons U .nil) (nn (rt (rb (tr (tr (rb (rb (tr (tr (rb (tr (r1 results189 U ?_))))))))))))));rcases c2 with h|h
 exact absurd U h;exact absurd (a4 (by omega)) h.2;refine sk (bn' (tn (rg (z0w U (wi6 (by omega)) (mv U (nl ?_))))));exact lpE (n+1) (.c7 U U U U U U U) ⟨(Z.z3 q3 q4 q6),by omega⟩ (by omega);obtain rfl:n=(ts.getD y tq0).2.length:=by omega
 refine ex (te (te (xh (bn' (tn (rg (z0w U (wi6 (by omega)) (mv U (nl ?_)))))))));exact lpE (y+1) (.c4 U U U U) ⟨(J.n1 Z),by omega⟩ (by omega);obtain rfl:y=ts.length:=by omega
 refine ex (te (te (xh (tn (sr (asg U (nn (rt (r1 results189 U ?_)))))))));exact⟨_,rfl,rfl,J⟩
theorem j7g (p q:LId)(w:World):(Op.equal 87 (idV p) (idV q)).run prog w=.ok (decide (p=q)) w:=by
 have h:=(eqId p q (.tmp 0) (.tmp 0) w).2.2.1;have e:(binOp .eql 87 (idV p) (idV q)).run prog w=((Op.equal 87 (idV p) (idV q)).run prog w).andThen λb w'=>.ok (.bool b) w':=by
  have D:binOp .eql 87 (idV p) (idV q)=(Op.equal 87 (idV p) (idV q) >>= λb=>pure (.bool b)):=by
   unfold binOp idV;simp only
  rw[D];simp only[Sem.run_bind,Sem.run_pure]
 rw[e]at h;generalize (Op.equal 87 (idV p) (idV q)).run prog w=r at h;cases r with
 | ok b w'=>simp only[Result.andThen]at h;cases h;rfl
 | halt x w'=>simp only[Result.andThen]at h;cases h
theorem z5t:KeyLaw prog 87 idV:=KeyLaw.asking underlying87 (λ_ _=>rfl) (λ_ _ _=>by kernel_rfl) j7g (λ_=>by simp[idV,Instr.sameBits])
theorem zvI (w:World):(zeroValue 3).run prog w=.ok (.int .i64 0) w:=by kernel_rfl
set_option maxHeartbeats 1000000 in
theorem u6h (v:Value)(ts:List TQ)(w0:World)(hs:Sl z3l w0 v ts)(M:TabAt w0 ts)(hl:ts.length=6)(hv:TabV (z1w ts)):Rets prog 190 #[v] w0 λr w'=>r=.int .i64 0/\Fr [] w0 w':=by
 obtain⟨A,c,rfl,d4,hM,hA⟩:=id hs;clear hA;unfold maxLen at hM;have b3:=z4o M;refine we [(0,.slice A ts.length c)] func190 U ntmps190 U (.cons U .nil) ?_;have b4:=hs;have a1:=M;refine sr (asg U (nn (sr (y7s idV (.int .i64 0) U (λJ w1 c9 D q1 z1=>(asg U (nn (sq (sr (mv U (lnS U underlying35 (mv U (nn (bl ?_))))))))))))));refine lpK (ι:=Nat) [(3,_),(11,_),(12,_)] (λy=>[(13,.int .i64 (y:Int))]) (λy w'=>Fr [J] w1 w'/\y<=ts.length/\MapZ idV w' J (.int .i64 0) (y9i (z9v (z1w ts) y 0))) (λy=>ts.length-y) 0 (.c4 U U U U) ⟨Fr.refl _ _,⟨Nat.zero_le _,D⟩⟩ ?_;rintro y w2 ⟨q2,⟨hy,D⟩⟩;have z2:=q2.size;refine kpC [(3,_),(11,_),(12,_),(13,_)] (.c4 U U U U) (sr (lt' U (nn (sq (cd U (λc0=>?_) (λc0=>?_))))));replace M:=a1.ext (q1.z1 q2);have d9:=b3 y;have a9:=(M _ (z0t (d:=tq0) (i:=y) (by omega))).1.len_le;unfold maxLen at a9;refine sk (tn (sq (bl (sr ?_))));replace hs:=b4.ext (q1.z1 q2);refine z0y (tq0) U hs U y3d z1e (λb7 a6=>?_);refine z1g U (a6 _ hs) x0m (asg U (nn (sr (mv U (lnS U underlying46 (mv U (nn (bl ?_))))))));refine lpK (ι:=Nat) [(3,_),(11,_),(12,_),(13,_),(17,_),(18,_)] (λn=>[(19,.int .i64 (n:Int))]) (λn w'=>Fr [J] w2 w'/\n<=(ts.getD y tq0).2.length/\MapZ idV w' J (.int .i64 0) (y9i (z9v (z1w ts) y n))) (λn=>(ts.getD y tq0).2.length-n) 0 (.c7 U U U U U U U) ⟨Fr.refl _ _,⟨Nat.zero_le _,D⟩⟩ ?_;rintro n w3 ⟨q3,⟨hn,D⟩⟩;have z3:=q3.size;refine kpC [(3,_),(11,_),(12,_),(13,_),(17,_),(18,_),(19,_)] (.c7 U U U U U U U) (sr (lt' U (nn (sq (cd U (λc1=>?_) (λc1=>?_))))));replace M:=a1.ext (q1.z2 q2 q3);have d7:=z1u (z7u M (y:=y) (n:=n) (by omega) (by omega)).1;have b0:=(z7u M (y:=y) (n:=n) (by omega) (by omega)).1.len_le;unfold maxLen at b0;refine sk (tn (sq (bl (sr (z0y (lq0) U (M _ (z0t (d:=tq0) (i:=y) (by omega))).1 U x3r z1e (λb8 a7=>?_))))));refine z1k U (a7 _ (M _ (z0t (d:=tq0) (i:=y) (by omega))).1) x7r (al v7f U (λg7 w4 d5 a0 q4 z4=>?_));refine z0j (vs:=[_,_,_,_]) U a0 v9d (λw5 a0 q5 z5=>?_) (h1:=(by first|(simp[Value.oneCell',S];done)|exact z4k.one ((ts.getD y tq0).2.getD n lq0)));refine nn (sr (fad U z6w (z0g U a0 U z4x (lnS U underlying37 (mv U (nn (bl ?_)))))));replace D:=(D.ext q4).fr q5 (by intro k M hb;simp at M hb;omega);refine lpK (ι:=Nat) [(3,_),(11,_),(12,_),(13,_),(17,_),(18,_),(19,_),(24,_),(25,_)] (λk=>[(26,.int .i64 (k:Int))]) (λk w'=>Fr [J] w5 w'/\k<=((ts.getD y tq0).2.getD n lq0).ths.length/\MapZ idV w' J (.int .i64 0) (y9i (z9v (z1w ts) y n++((ts.getD y tq0).2.getD n lq0).ths.take k))) (λk=>((ts.getD y tq0).2.getD n lq0).ths.length-k) 0 (.d8 U U U U U U U U (.c2 U U)) ⟨Fr.refl _ _,⟨Nat.zero_le _,by rw[List.take_zero,List.append_nil];exact D⟩⟩ ?_;rintro k w6 ⟨q6,⟨M,D⟩⟩;have z6:=q6.size;refine kpC [(3,_),(11,_),(12,_),(13,_),(17,_),(18,_),(19,_),(24,_),(25,_),(26,_)] (.d8 U U U U U U U U (.c2 U U)) (sr (lt' U (nn (sq (cd U (λc2=>?_) (λc2=>?_))))));have b1:=x6h (k:=k) hv.thr (y:=y) (n:=n) (by omega) (by omega) (by omega);have d3:((z9v (z1w ts) y n++((ts.getD y tq0).2.getD n lq0).ths.take k)).count (((ts.getD y tq0).2.getD n lq0).ths.getD k id0)=0:=by
  have h:=b1;rw[List.count_append,List.count_singleton,if_pos (by simp)]at h;omega
 refine sk (tn (sq (bl (sr ?_))));replace M:=a1.ext (q1.z5 q2 q3 q4 q5 q6);refine z0y (id0) U (z7u M (y:=y) (n:=n) (by omega) (by omega)).1 U z5d z1e (λb9 a8=>?_);refine z1k U (a8 _ (z7u M (y:=y) (n:=n) (by omega) (by omega)).1) z3j (al y3h U (λg9 w7 d6 I q7 z7=>?_));refine z0j (vs:=[_,_]) U I y0b (λw8 I q8 z8=>?_) (h1:=(by first|(simp[Value.oneCell',S];done)|exact z4k.one ((ts.getD y tq0).2.getD n lq0)));refine nn (sq ?_);replace D:=(D.ext q7).fr q8 (by intro k M hb;simp at M hb;omega);intro a h;refine z0i none (λwb w'=>Fr [J] wb w') z2r ?_;intro w9 q9;have z9:=q9.size;replace D:=D.ext q9;replace I:=I.ext q9;have hC:Fr [J] w9 w9:=Fr.refl _ _;have Z:=D;have O:=I;refine z0e 0 h U λa h=>z0z 1 h U (λ_ hw=>O.fr hw (by intro e;simp at e;omega)) z3j U λa h=>z2d 2 4 (by kernel_rfl) U ?_ ?_;refine z7q (V:=idV) (z:=(.int .i64 0)) (k:=(((ts.getD y tq0).2.getD n lq0).ths.getD k id0)) (v:=.int .i64 ((((z9v (z1w ts) y n++((ts.getD y tq0).2.getD n lq0).ths.take k)).count (((ts.getD y tq0).2.getD n lq0).ths.getD k id0):Nat):Int)) h U U D z5t underlying232 zvI U U λa h=>?_;refine z0b ?_;refine z4y 3 h U (by first|exact i6 (by omega)|rfl) U λa h=>z0d 4 U ?_;have b2:=D.ne_blk I;refine z6v (V:=idV) (z:=(.int .i64 0)) (k:=(((ts.getD y tq0).2.getD n lq0).ths.getD k id0)) h U U D z5t underlying232 zvI U λe0 d0 he a2 e2 a h=>?_;replace D:=he.map;replace I:=I.fr a2 (by intro e;simp at e;omega);replace hC:=hC.step a2 (by simp);refine z0b ?_;refine z0n 5 h U λa h=>z0d 6 U ?_;refine z5j (V:=idV) (z:=(.int .i64 0)) (k:=(((ts.getD y tq0).2.getD n lq0).ths.getD k id0)) h U U U he ?_;clear h a he D;intro b5 D a3 e3 a h;replace D:MapZ idV b5 J (.int .i64 0) (y9i ((z9v (z1w ts) y n++((ts.getD y tq0).2.getD n lq0).ths.take k)++[(((ts.getD y tq0).2.getD n lq0).ths.getD k id0)])):=by rw[<-y9q];exact D
 replace I:=I.fr a3 (by intro e;simp at e;omega);replace hC:=hC.step a3 (by simp);refine z0b ?_;refine z0r ?_;clear hC Z O;refine bk (h.sub (L':=[(3,_),(9,_),(11,_),(12,_),(13,_),(17,_),(18,_),(19,_),(24,_),(25,_),(26,_)]) (.d8 U U U U U U U U (.c3 U U U))) (tn (sr (mv U (z0l U I z3j (y5v (V:=idV) (z:=(.int .i64 0)) (k:=(((ts.getD y tq0).2.getD n lq0).ths.getD k id0)) (v:=.int .i64 ((((z9v (z1w ts) y n++((ts.getD y tq0).2.getD n lq0).ths.take k)++[(((ts.getD y tq0).2.getD n lq0).ths.getD k id0)]).count (((ts.getD y tq0).2.getD n lq0).ths.getD k id0):Nat):Int)) U U D z5t underlying232 zvI U U (gt' U (nn (cd U (λc3=>?_) (λc3=>?_)))))))));refine sr (asg U (kpL [(2,_)] (.cons U .nil) (nn (rt (rb (tr (tr (rb (rb (tr (tr (rb (rb (tr (tr (rb (tr (r1 results190 U ?_))))))))))))))))));exfalso;omega;refine sk (bn' (tn (rg (z0w U (wi6 (by omega)) (mv U (nl ?_))))));exact lpE (k+1) (.d8 U U U U U U U U (.c2 U U)) ⟨((Fr.refl [J] _).z6 q6 q7 q8 q9 a2 a3),⟨by omega,by rw[z6i id0 (by omega),<-List.append_assoc];exact D⟩⟩ (by omega);have b2:=D.ne_blk I;refine z6v (V:=idV) (z:=(.int .i64 0)) (k:=(((ts.getD y tq0).2.getD n lq0).ths.getD k id0)) h U U D z5t underlying232 zvI U λe1 d1 he a4 e4 a h=>?_;replace D:=he.map;replace I:=I.fr a4 (by intro e;simp at e;omega);replace hC:=hC.step a4 (by simp);refine z0b ?_;refine z0n 5 h U λa h=>z0d 2 U ?_;refine z7q (V:=idV) (z:=(.int .i64 0)) (k:=(((ts.getD y tq0).2.getD n lq0).ths.getD k id0)) (v:=.int .i64 ((((z9v (z1w ts) y n++((ts.getD y tq0).2.getD n lq0).ths.take k)).count (((ts.getD y tq0).2.getD n lq0).ths.getD k id0):Nat):Int)) h U U D z5t underlying232 zvI U U λa h=>?_;refine z0b ?_;refine z4y 3 h U (by first|exact i6 (by omega)|rfl) U λa h=>z0d 6 U ?_;refine z5j (V:=idV) (z:=(.int .i64 0)) (k:=(((ts.getD y tq0).2.getD n lq0).ths.getD k id0)) h U U U he ?_;clear h a he D;intro b6 D a5 e5 a h;replace D:MapZ idV b6 J (.int .i64 0) (y9i ((z9v (z1w ts) y n++((ts.getD y tq0).2.getD n lq0).ths.take k)++[(((ts.getD y tq0).2.getD n lq0).ths.getD k id0)])):=by rw[<-y9q];exact D
 replace I:=I.fr a5 (by intro e;simp at e;omega);replace hC:=hC.step a5 (by simp);refine z0b ?_;refine z0r ?_;clear hC Z O;refine bk (h.sub (L':=[(3,_),(9,_),(11,_),(12,_),(13,_),(17,_),(18,_),(19,_),(24,_),(25,_),(26,_)]) (.d8 U U U U U U U U (.c3 U U U))) (tn (sr (mv U (z0l U I z3j (y5v (V:=idV) (z:=(.int .i64 0)) (k:=(((ts.getD y tq0).2.getD n lq0).ths.getD k id0)) (v:=.int .i64 ((((z9v (z1w ts) y n++((ts.getD y tq0).2.getD n lq0).ths.take k)++[(((ts.getD y tq0).2.getD n lq0).ths.getD k id0)]).count (((ts.getD y tq0).2.getD n lq0).ths.getD k id0):Nat):Int)) U U D z5t underlying232 zvI U U (gt' U (nn (cd U (λc3=>?_) (λc3=>?_)))))))));refine sr (asg U (kpL [(2,_)] (.cons U .nil) (nn (rt (rb (tr (tr (rb (rb (tr (tr (rb (rb (tr (tr (rb (tr (r1 results190 U ?_))))))))))))))))));exfalso;omega;refine sk (bn' (tn (rg (z0w U (wi6 (by omega)) (mv U (nl ?_))))));exact lpE (k+1) (.d8 U U U U U U U U (.c2 U U)) ⟨((Fr.refl [J] _).z6 q6 q7 q8 q9 a4 a5),⟨by omega,by rw[z6i id0 (by omega),<-List.append_assoc];exact D⟩⟩ (by omega);obtain rfl:k=((ts.getD y tq0).2.getD n lq0).ths.length:=by omega
 rw[List.take_length]at D;refine ex (te (te (xh (bn' (tn (rg (z0w U (wi6 (by omega)) (mv U (nl ?_)))))))));exact lpE (n+1) (.c7 U U U U U U U) ⟨((Fr.refl [J] _).z4 q3 q4 q5 q6),⟨by omega,by rw[y6s (by omega)];exact D⟩⟩ (by omega);obtain rfl:n=(ts.getD y tq0).2.length:=by omega
 refine ex (te (te (xh (bn' (tn (rg (z0w U (wi6 (by omega)) (mv U (nl ?_)))))))));exact lpE (y+1) (.c4 U U U U) ⟨((Fr.refl [J] _).z2 q2 q3),⟨by omega,by rw[y6v (by omega)];exact D⟩⟩ (by omega);obtain rfl:y=ts.length:=by omega
 refine ex (te (te (xh (tn (sr (asg U (nn (rt (r1 results190 U ?_)))))))));exact⟨_,rfl,rfl,(q1.z1 q2)⟩
theorem v3p (q:LpQ)(n:Int)(w0:World)(J:LpAt w0 q)(h0:0<=n)(hn:n.toNat<(z4p q.p).length)(hb:q.ths.length<=4/\q.pas.length<=4096):Rets prog 230 #[.agg #[.int .u8 q.b,.bool q.nw,.slice q.th.1 q.th.2.1 q.th.2.2,.slice q.pa.1 q.pa.2.1 q.pa.2.2],.int .i64 n] w0 λr w'=>r=.agg #[.int .u8 ((z4p q.p).getD n.toNat id0).y,.int .i64 ((z4p q.p).getD n.toNat id0).n]/\Fr [] w0 w':=by
 have a5:=z1u J.1;have a6:=z1u J.2;have a0:=J.1.len_le;unfold maxLen at a0;have a7:=x8c q;refine we [(0,.agg #[.int .u8 q.b,.bool q.nw,.slice q.th.1 q.th.2.1 q.th.2.2,.slice q.pa.1 q.pa.2.1 q.pa.2.2]),(1,.int .i64 n)] func230 U ntmps230 U (.c2 U U) ?_;have M:=J;refine sr (bx U (λg2 w1 a3 D q1 z1=>(al y3h U (λg4 w2 a4 I q2 z2=>(nn (sq (sr (mv U (fad U z6w ?_)))))))));replace D:=D.ext q2;refine z0g U D U z4x (lnS U underlying37 (lt' U (nn (cd U (λc0=>?_) (λc0=>?_)))));refine sr (fad U z6w (z0g U D U z4x (mv U ?_)));replace J:=M.ext (q1.n1 q2);refine z0y (p:=n.toNat) (id0) U J.1 U z5d (by omega) (λa1 O=>?_);refine z1k U (O _ J.1) z3j (z0j (vs:=[_,_]) U I y0b (λw3 I q3 z3=>?_) (h1:=(by first|(simp[Value.oneCell',S];done)|exact z1h.one _)));refine kpL [(4,_)] (.cons U .nil) (nn (rt (tr (rC results230 U I z3j  ?_))));exact⟨_,rfl,by rw[u7p (by omega)],(q1.z2 q2 q3)⟩;refine sk (tn (sr (fad U z8m (z0g U D U y3k (mv U (fad U z6w (z0g U D U z4x (lnS U underlying37 (z2u U (wi6 (by omega)) ?_)))))))));replace J:=M.ext (q1.n1 q2);refine z0y (p:=(n.toNat-q.ths.length)) (pa0) U J.2 U z9d (by omega) (λa2 Z=>?_);refine fad U y8a (z1k U (x8s (vs:=[_,_]) (Z _ J.2) U) z3j (z0j (vs:=[_,_]) U I y0b (λw4 I q4 z4=>?_) (h1:=(by first|(simp[Value.oneCell',S];done)|exact z1h.one _))));refine kpL [(4,_)] (.cons U .nil) (nn (rt (rC results230 U I z3j  ?_)));exact⟨_,rfl,by rw[u5z (by omega) hn],(q1.z2 q2 q4)⟩
theorem u4j:BuildAt prog 87 [(0,1),(1,1)] [(.int .u8 0),(.int .i64 0)]:=BuildAt.struct underlying87 (λ_=>by kernel_rfl) (λ_=>by kernel_rfl)
theorem y6a:ElemOf prog 85 3 Enc.i64 8:=ElemOf.mk' (z:=(.int .i64 0)) underlying85 (by kernel_rfl) U
theorem zv3 (w:World):(zeroValue 3).run prog w=.ok (.int .i64 0) w:=by kernel_rfl
theorem x6s {α β:Type}{E:Enc α}{J:Enc β}{T T' b M:Nat}{w:World}{v I:Value}{l:List α}{l':List β}(h:Lw.Own E T b w v l)(O:Lw.Own J T' M w I l')(Z:T'≠T):∀k∈z0v v,k∉z0v I:=λk hk D=>by
 obtain⟨cs,hb⟩:=y4j h k hk
 exact O.neB hb Z D
set_option maxHeartbeats 2000000 in
theorem v9e (v:Value)(ts:List TQ)(w0:World)(hs:Sl z3l w0 v ts)(D:TabAt w0 ts)(hl:ts.length=6)(hv:TabV (z1w ts)):Rets prog 191 #[v] w0 λr w'=>∃l,Lw.Own z1h 87 w0.heap.size w' r l/\l.length=z3t (z1w ts)/\Fr [] w0 w':=by
 obtain⟨A,c,rfl,l4,Z,hA⟩:=id hs;clear hA;unfold maxLen at Z;have i1:=z4o D;have hH:=hv.has;have l5:z3t (z1w ts)<=2048:=hv.ok.cnt;have g8:=z6k ts;refine we [(0,.slice A ts.length c)] func191 U ntmps191 U (.cons U .nil) ?_;have i2:=hs;have g6:=D;refine sr (asg U (nn (sr (mv U (cl (ev1 U) (mkC func151) (y3v _ _ _ hs D (by omega)) U ?_)))));rintro _ w1 ⟨rfl,q1⟩;have z1:=q1.size;refine asg U (nn (sr (mv U (z1i (m:=0) (c:=z3t (z1w ts)) (id0) U z5d y3h U (λk7 w2 j8 hR q2 z2=>(asg U (nn (sr (mv U (lnS U underlying35 (z1i (m:=ts.length) (c:=ts.length) ((0:Int)) U y6a zv3 U (λa3 w3 j9 Z q3 z3=>(asg U (nn (sr (mv U (lnS U underlying35 (z1i (m:=ts.length) (c:=ts.length) ((0:Int)) U y6a zv3 U (λa0 w4 k0 M q4 z4=>?_)))))))))))))))))));refine asg U (nn (sq (bl ?_)));replace hR:=hR.ext (q3.n1 q4);replace Z:=Z.ext q4;refine lpK (ι:=Value×List Int×List Int×List LId) [(0,_),(3,_),(5,_),(6,_)] (λp=>[(4,p.1)]) (λp w'=>Fr [] w0 w'/\FstI (z1w ts) p.2.1 p.2.2.1 p.2.2.2.length/\Lw.Own z1h 87 w0.heap.size w' p.1 p.2.2.2/\Lw.Own Enc.i64 3 w0.heap.size w' (.slice (some ⟨a3,0,none⟩) ts.length ts.length) p.2.1/\Lw.Own Enc.i64 3 w0.heap.size w' (.slice (some ⟨a0,0,none⟩) ts.length ts.length) p.2.2.1) (λp=>z3t (z1w ts)-p.2.2.2.length) (_,List.replicate ts.length 0,List.replicate ts.length 0,[]) (.c5 U U U U U) ⟨(q1.n3 q2 q3 q4),⟨by simp only;rw[hl];exact FstI.init,by simpa using hR.low (by omega),Z.low (by omega),M.low (by omega)⟩⟩ ?_;rintro⟨vR,ms,uu,l⟩ w5 ⟨q5,⟨hF,hR,Z,M⟩⟩;simp only at hF hR Z M;have z5:=q5.size;refine kpC [(0,_),(3,_),(5,_),(6,_),(4,vR)] (.c5 U U U U U) ?_;have a8:a3∉z0v vR:=λh=>x6s hR Z (by decide) a3 h (List.mem_singleton.2 U);have a9:a0∉z0v vR:=λh=>x6s hR M (by decide) a0 h (List.mem_singleton.2 U);have k9:=(Z.blk a3 (List.mem_singleton.2 U)).2;have l0:=(M.blk a0 (List.mem_singleton.2 U)).2;obtain⟨AR,cR,rfl,l3⟩:=hR.sl.form;refine sq (sr (mv U (lnS U underlying37 (mv U (lt' U (nn (cd U (λc0=>?_) (λc0=>?_))))))));refine sk (tn (bl (sc (sr (mv U (lnS U underlying37 (asg U (nn (sq (lb (tn (sq (sr (mv U (lnS U underlying35 (mv U (nn (bl ?_))))))))))))))))));refine lpK (ι:=Nat×List Int) [(0,_),(3,_),(4,_),(5,_),(6,_),(7,_),(28,_),(29,_)] (λp=>[(30,.int .i64 (p.1:Int))]) (λp w'=>Fr [a0] w5 w'/\p.1<=6/\FstI (z1w ts) ms p.2 l.length/\(∀z,z<p.1->v3c (z1w ts) ms z)/\Lw.Own Enc.i64 3 w0.heap.size w' (.slice (some ⟨a0,0,none⟩) ts.length ts.length) p.2) (λp=>6-p.1) (0,uu) (.d8 U U U U U U U U (.cons U .nil)) ⟨Fr.refl _ _,⟨Nat.zero_le _,hF,λz h=>absurd h (by simp),M⟩⟩ ?_;rintro⟨y,vs⟩ w6 ⟨q6,⟨hy,hF,e3,M⟩⟩;simp only at hy hF e3 M;have z6:=q6.size;refine kpC [(0,_),(3,_),(4,_),(5,_),(6,_),(7,_),(28,_),(29,_),(30,.int .i64 (y:Int))] (.d8 U U U U U U U U (.cons U .nil)) (sr (lt' U (nn (sq (cd U (λc1=>?_) (λc1=>?_))))));replace D:=g6.ext (q5.z1 q6);have a5:y<6:=by omega
 have l7:=i1 y;have g7:=hF.lm;have h9:=hF.mb y a5;have h7:=(D _ (z0t (d:=tq0) (i:=y) (by omega))).1.len_le;unfold maxLen at h7;refine sk (tn (sq (bl (sr (mv U ?_)))));replace hs:=i2.ext (q5.z1 q6);refine z0y (tq0) U hs U y3d z1e (λi9 f5=>?_);refine z1g U (f5 _ hs) x0m (asg U (asg U (nn (sq (sr (mv U (mv U ?_)))))));replace Z:=Z.fr q6 (by intro k D I;have D:=List.mem_singleton.1 D;have I:=List.mem_singleton.1 (show k∈[a3] from I);omega);refine z0y (0) U Z.sl U y6a z1e (λj0 f6=>?_);refine z1g U (f6 _ Z.sl) na3 (mv U (lnS U underlying46 (eq' U (kpL [(0,_),(3,_),(4,_),(5,_),(6,_),(7,_),(8,_),(9,_),(28,_),(29,_),(30,_),(41,_)] (.d8 U U U U U U U U (.c4 U U U U)) (nn (cd U (λc2=>?_) (λc2=>?_)))))));have e2:v3c (z1w ts) ms y:=.inl (by rw[z2n];omega);refine ex (te (xh (tn (rg (z0w U (wi6 (by omega)) (mv U (nl ?_)))))));exact lpE ((y+1,_)) (.d8 U U U U U U U U (.cons U .nil)) ⟨((Fr.refl [a0] _).z1 q6),⟨by simp only;omega,hF,λz h=>(by
  by_cases e:z<y;exact e3 z e;obtain rfl:z=y:=by simp only at h;omega
  exact e2),M⟩⟩ (by simp only;omega)
 have d7:ms.getD y 0<(z2o (z1w ts) y:Int):=by rw[z2n];rw[z2n]at h9;omega
 have b3:(ms.getD y 0).toNat<(ts.getD y tq0).2.length:=by rw[z2n]at d7;omega
 have e0:nd (z1w ts) y (ms.getD y 0)=z4p ((ts.getD y tq0).2.getD (ms.getD y 0).toNat lq0).p:=by unfold nd;rw[z7d]
 have g9:=x8c ((ts.getD y tq0).2.getD (ms.getD y 0).toNat lq0);have b4:=(hv.ok.rts y a5 _ (by rw[z2n];exact b3)).1;rw[z7d]at b4;have k3:=z1u (z7u D (y:=y) (n:=(ms.getD y 0).toNat) (by omega) b3).1;have k4:=z1u (z7u D (y:=y) (n:=(ms.getD y 0).toNat) (by omega) b3).2;have l1:((ts.getD y tq0).2.getD (ms.getD y 0).toNat lq0).ths.length<=4:=b4.2.1.1;have l2:((ts.getD y tq0).2.getD (ms.getD y 0).toNat lq0).pas.length<=4096:=b4.2.1.2;refine sk (tn (sr (mv U (mv U (mv U (z0y (0) U Z.sl U y6a z1e (λj1 f7=>?_)))))));refine z1g U (f7 _ Z.sl) na3 (z0y (lq0) U (D _ (z0t (d:=tq0) (i:=y) (by omega))).1 U x3r z1e (λj2 f8=>?_));refine z1k U (f8 _ (D _ (z0t (d:=tq0) (i:=y) (by omega))).1) x7r (al v7f U (λf4 w7 j7 J q7 z7=>?_));refine z0j (vs:=[_,_,_,_]) U J v9d (λw8 J q8 z8=>?_) (h1:=(by first|(simp[Value.oneCell',S];done)|exact z4k.one ((ts.getD y tq0).2.getD (ms.getD y 0).toNat lq0)|exact z1h.one ((z4p ((ts.getD y tq0).2.getD (ms.getD y 0).toNat lq0).p).getD (xs.getD y 0).toNat id0)));refine kpL [(0,_),(3,_),(4,_),(5,_),(6,_),(7,_),(8,_),(10,_),(28,_),(29,_),(30,_)] (.d8 U U U U U U U U (.c3 U U U)) (nn (sq (bl ?_)));replace M:=(M.ext q7).fr q8 (by intro k D I;have D:=List.mem_singleton.1 D;have I:=List.mem_singleton.1 (show k∈[a0] from I);omega);refine lpK (ι:=List Int) [(0,_),(3,_),(4,_),(5,_),(6,_),(7,_),(8,_),(10,_),(28,_),(29,_),(30,_)] (λp=>[]) (λp w'=>Fr [a0] w8 w'/\FstI (z1w ts) ms p l.length/\Lw.Own Enc.i64 3 w0.heap.size w' (.slice (some ⟨a0,0,none⟩) ts.length ts.length) p) (λp=>(z4p ((ts.getD y tq0).2.getD (ms.getD y 0).toNat lq0).p).length-(p.getD y 0).toNat) vs (.d8 U U U U U U U U (.c3 U U U)) ⟨Fr.refl _ _,⟨hF,M⟩⟩ ?_;rintro xs w9 ⟨q9,⟨hF,M⟩⟩;have z9:=q9.size;refine kpC [(0,_),(3,_),(4,_),(5,_),(6,_),(7,_),(8,_),(10,_),(28,_),(29,_),(30,_)] (.d8 U U U U U U U U (.c3 U U U)) ?_;have h2:=hF.tb y a5;have g7:=hF.lm;have l6:=hF.lt;refine sq (sq ?_);replace J:=J.fr q9;intro a h;refine z0i none (λwb w'=>Fr [] wb w') z2r ?_;intro h4 a4;have m7:=a4.size;replace J:=J.ext a4;replace M:=M.ext a4;have hC:Fr [] h4 h4:=Fr.refl _ _;have a1:=J;have a7:=M;refine z0e 0 h U λa h=>z0e 1 h U λa h=>z1f (0) 2 h U M.sl U y6a U ?_ (hp:=rfl);clear h a;intro j3 f9 a h;refine z3c 3 h U (λ_ hw=>f9 _ (a7.sl.ext hw)) na3 U λa h=>z0c 4 h U z6w U λa h=>z0k 5 h U (λ_ hw=>a1.ext hw) U z4x U λa h=>z8g 6 hC h wn U underlying37 U λa h=>z0c 7 h U z8m U λa h=>z0k 8 h U (λ_ hw=>a1.ext hw) U y3k U λa h=>z8g 9 hC h wn U underlying54 U λa h=>z4y 10 h U (by first|exact i6 (by omega)|rfl) U λa h=>x9e 11 hC h wn U U λa h=>z0r ?_;clear hC a1 a7;refine bk (h.sub (L':=[(0,_),(3,_),(4,_),(5,_),(6,_),(7,_),(8,_),(10,_),(28,_),(29,_),(30,_),(60,_)]) (.d8 U U U U U U U U (.c4 U U U U))) (tn (cd U (λc3=>?_) (λc3=>?_)));have e7:xs.getD y 0<IntKind.i64.wrap ((((ts.getD y tq0).2.getD (ms.getD y 0).toNat lq0).th.2.1:Int)+(((ts.getD y tq0).2.getD (ms.getD y 0).toNat lq0).pa.2.1:Int)):=c3;rw[IntWalk.i64_in _ (by omega)]at e7;have e1:(xs.getD y 0).toNat<(z4p ((ts.getD y tq0).2.getD (ms.getD y 0).toNat lq0).p).length:=by rw[g9];omega
 have g4:z3z (z1w ts) ((z4p ((ts.getD y tq0).2.getD (ms.getD y 0).toNat lq0).p).getD (xs.getD y 0).toNat id0):=b4.2.2.1 _ (z0t e1);have k2:=g4.1;have g5:=g4.2.1;rw[g8]at g5;have g7:=hF.lm;refine sk (tn (bl (sq (sq ?_))));replace D:=g6.ext (q5.z5 q6 q7 q8 q9 a4);intro a h;refine z0i none (λwb w'=>Fr [] wb w') z2r ?_;intro f1 a6;have m8:=a6.size;replace D:=D.ext a6;replace J:=J.ext a6;replace M:=M.ext a6;have hC:Fr [] f1 f1:=Fr.refl _ _;have e6:=D;have a1:=J;have a7:=M;refine z0z 0 h U (λ_ hw=>a1.ext hw) x7r U λa h=>z0e 1 h U λa h=>z0e 2 h U λa h=>z1f (0) 3 h U M.sl U y6a U ?_ (hp:=rfl);clear h a;intro j4 g0 a h;refine z3c 4 h U (λ_ hw=>g0 _ (a7.sl.ext hw)) na3 U λa h=>z2d 5 6 (by kernel_rfl) U ?_ ?_;refine z0m h (z0a U (z0a U z0f)) (mkC func230) (v3p ((ts.getD y tq0).2.getD (ms.getD y 0).toNat lq0) (xs.getD y 0) _ (z7u D (y:=y) (n:=(ms.getD y 0).toNat) (by omega) b3) h2 e1 ⟨b4.2.1.1,b4.2.1.2⟩) ?_;rintro _ i5 ⟨rfl,b5⟩ a h;have m9:=b5.size;replace J:=J.ext b5;replace hC:=hC.next b5;refine z0b ?_;refine z0d 6 U ?_;refine z1c h y3h U λl8 O b6 hz a h=>?_;obtain⟨b1,hg⟩:∃g,g=i5.heap.size:=⟨_,rfl⟩;rw[<-hg]at O h hz;have d9:f4<b1:=by have:=J.lt;omega
 have n7:=b6.size;replace D:=D.ext (b5.n1 b6);replace J:=J.ext b6;replace M:=M.ext (b5.n1 b6);replace hC:=hC.next b6;refine z0b ?_;refine z0d 7 U ?_;refine z0u h U O U y0b ?_ (h1:=(by first|(simp[Value.oneCell',S];done)|exact z4k.one ((ts.getD y tq0).2.getD (ms.getD y 0).toNat lq0)|exact z1h.one ((z4p ((ts.getD y tq0).2.getD (ms.getD y 0).toNat lq0).p).getD (xs.getD y 0).toNat id0)));clear h a;intro i7 d3 b8 hz a h;have n8:=b8.size;replace J:=J.fr b8;replace M:=M.fr b8 (by intro k D I;have D:=List.mem_singleton.1 D;have I:=List.mem_singleton.1 (show k∈[a0] from I);omega);replace hC:=hC.sp b8;clear O hz;have O:Blk i7 b1 _ [_,_]:=d3;clear d3;refine z0b ?_;refine z0r ?_;clear hC e6 a1 a7;refine bk (h.sub (L':=[(0,_),(3,_),(4,_),(5,_),(6,_),(7,_),(8,_),(10,_),(11,_),(28,_),(29,_),(30,_)]) (.d8 U U U U U U U U (.c4 U U U U))) (tn (sq ?_));replace Z:=((((Z.ext q7).fr q8 (by intro k D I;have D:=List.mem_singleton.1 D;have I:=List.mem_singleton.1 (show k∈[a3] from I);omega)).fr q9 (by intro k D I;have D:=List.mem_singleton.1 D;have I:=List.mem_singleton.1 (show k∈[a3] from I);omega)).ext (a4.n3 a6 b5 b6)).fr b8 (by intro k D I;have D:=List.mem_singleton.1 D;have I:=List.mem_singleton.1 (show k∈[a3] from I);omega);intro a h;refine z0i none (λwb w'=>Fr [] wb w') z2r ?_;intro h5 b9;have n9:=b9.size;replace Z:=Z.ext b9;replace O:=O.ext b9;have hC:Fr [] h5 h5:=Fr.refl _ _;have b2:=Z;have a2:=O;refine z0c 0 h U z9f U λa h=>z0k 1 h U (λ_ hw=>a2.ext hw) U na3 U λa h=>z0e 2 h U λa h=>z0c 3 h U z7s U λa h=>z0k 4 h U (λ_ hw=>a2.ext hw) U na5 U λa h=>z3b 5 h wn U (by first|exact IntWalk.u8_in _ (by omega)|rfl) U λa h=>z1f (0) 6 h U Z.sl U y6a U ?_ (hp:=rfl);clear h a;intro f2 d4 a h;refine z3c 7 h U (λ_ hw=>d4 _ (b2.sl.ext hw)) na3 U λa h=>v9o 8 hC h wn U U U U λa h=>z0r ?_;clear hC b2 a2;refine bk (h.sub (L':=[(0,_),(3,_),(4,_),(5,_),(6,_),(7,_),(8,_),(10,_),(28,_),(29,_),(30,_),(75,_)]) (.d8 U U U U U U U U (.c4 U U U U))) (tn (cd U (λc4=>?_) (λc4=>?_)));have e2:v3c (z1w ts) ms y:=.inr ⟨d7,((z4p ((ts.getD y tq0).2.getD (ms.getD y 0).toNat lq0).p).getD (xs.getD y 0).toNat id0),by rw[e0];exact z0t e1,by unfold InM;omega⟩;refine ex (te (xo U (te (xo U (te (xh (tn (rg (z0w U (wi6 (by omega)) (mv U (nl ?_)))))))))));replace M:=M.ext b9;exact lpE ((y+1,_)) (.d8 U U U U U U U U (.cons U .nil)) ⟨((((Fr.refl [a0] _).z6 q6 q7 q8 q9 a4 a6).n1 b5).z3 b6 b8 b9),⟨by simp only;omega,hF,λz h=>(by
  by_cases e:z<y;exact e3 z e;obtain rfl:z=y:=by simp only at h;omega
  exact e2),M⟩⟩ (by simp only;omega)
 have d1:=hF.there a5 (by rw[e0];unfold InM;omega);refine sk (tn (rg (mv U (mv U ?_))));replace M:=M.ext b9;refine z0y (0) U M.sl U y6a z1e (λf3 d5=>?_);refine z1g U (d5 _ M.sl) na3 (z0w U (wi6 (by omega)) (z7h (p:=y) (E:=Enc.i64) U U y6a ?_));refine z5c (i:=y) (xs.getD y 0+1) U U M (by rw[hF.lt];exact a5) U sz3 (λl9 M i3 o0=>?_);refine kpL [(0,_),(3,_),(4,_),(5,_),(6,_),(7,_),(8,_),(10,_),(28,_),(29,_),(30,_)] (.d8 U U U U U U U U (.c3 U U U)) (nl (bn' ?_));exact lpE (_) (.d8 U U U U U U U U (.c3 U U U)) ⟨((((Fr.refl [a0] _).z6 q9 a4 a6 b5 b6 b8).n1 b9).z1 i3),⟨d1,M⟩⟩ (by rw[z4s (by rw[hF.lt];exact a5),if_pos U];omega);refine z1c h y3h U λm0 O b7 hz a h=>?_;obtain⟨b1,hg⟩:∃g,g=f1.heap.size:=⟨_,rfl⟩;rw[<-hg]at O h hz;have d9:f4<b1:=by have:=J.lt;omega
 have o1:=b7.size;replace D:=D.ext b7;replace hC:=hC.next b7;refine z0b ?_;refine z0d 5 U ?_;refine z0m h (z0a U (z0a U z0f)) (mkC func230) (v3p ((ts.getD y tq0).2.getD (ms.getD y 0).toNat lq0) (xs.getD y 0) _ (z7u D (y:=y) (n:=(ms.getD y 0).toNat) (by omega) b3) h2 e1 ⟨b4.2.1.1,b4.2.1.2⟩) ?_;rintro _ m1 ⟨rfl,b0⟩ a h;have o2:=b0.size;replace D:=D.ext b0;replace J:=J.ext (b7.n1 b0);replace M:=M.ext (b7.n1 b0);replace O:=O.ext b0;replace hC:=hC.next b0;refine z0b ?_;refine z0d 7 U ?_;refine z0u h U O U y0b ?_ (h1:=(by first|(simp[Value.oneCell',S];done)|exact z4k.one ((ts.getD y tq0).2.getD (ms.getD y 0).toNat lq0)|exact z1h.one ((z4p ((ts.getD y tq0).2.getD (ms.getD y 0).toNat lq0).p).getD (xs.getD y 0).toNat id0)));clear h a;intro i8 d3 c9 hz a h;have o3:=c9.size;replace J:=J.fr c9;replace M:=M.fr c9 (by intro k D I;have D:=List.mem_singleton.1 D;have I:=List.mem_singleton.1 (show k∈[a0] from I);omega);replace hC:=hC.sp c9;clear O hz;have O:Blk i8 b1 _ [_,_]:=d3;clear d3;refine z0b ?_;refine z0r ?_;clear hC e6 a1 a7;refine bk (h.sub (L':=[(0,_),(3,_),(4,_),(5,_),(6,_),(7,_),(8,_),(10,_),(11,_),(28,_),(29,_),(30,_)]) (.d8 U U U U U U U U (.c4 U U U U))) (tn (sq ?_));replace Z:=((((Z.ext q7).fr q8 (by intro k D I;have D:=List.mem_singleton.1 D;have I:=List.mem_singleton.1 (show k∈[a3] from I);omega)).fr q9 (by intro k D I;have D:=List.mem_singleton.1 D;have I:=List.mem_singleton.1 (show k∈[a3] from I);omega)).ext (a4.n3 a6 b7 b0)).fr c9 (by intro k D I;have D:=List.mem_singleton.1 D;have I:=List.mem_singleton.1 (show k∈[a3] from I);omega);intro a h;refine z0i none (λwb w'=>Fr [] wb w') z2r ?_;intro h6 d0;have o4:=d0.size;replace Z:=Z.ext d0;replace O:=O.ext d0;have hC:Fr [] h6 h6:=Fr.refl _ _;have b2:=Z;have a2:=O;refine z0c 0 h U z9f U λa h=>z0k 1 h U (λ_ hw=>a2.ext hw) U na3 U λa h=>z0e 2 h U λa h=>z0c 3 h U z7s U λa h=>z0k 4 h U (λ_ hw=>a2.ext hw) U na5 U λa h=>z3b 5 h wn U (by first|exact IntWalk.u8_in _ (by omega)|rfl) U λa h=>z1f (0) 6 h U Z.sl U y6a U ?_ (hp:=rfl);clear h a;intro f2 d4 a h;refine z3c 7 h U (λ_ hw=>d4 _ (b2.sl.ext hw)) na3 U λa h=>v9o 8 hC h wn U U U U λa h=>z0r ?_;clear hC b2 a2;refine bk (h.sub (L':=[(0,_),(3,_),(4,_),(5,_),(6,_),(7,_),(8,_),(10,_),(28,_),(29,_),(30,_),(75,_)]) (.d8 U U U U U U U U (.c4 U U U U))) (tn (cd U (λc4=>?_) (λc4=>?_)));have e2:v3c (z1w ts) ms y:=.inr ⟨d7,((z4p ((ts.getD y tq0).2.getD (ms.getD y 0).toNat lq0).p).getD (xs.getD y 0).toNat id0),by rw[e0];exact z0t e1,by unfold InM;omega⟩;refine ex (te (xo U (te (xo U (te (xh (tn (rg (z0w U (wi6 (by omega)) (mv U (nl ?_)))))))))));replace M:=M.ext d0;exact lpE ((y+1,_)) (.d8 U U U U U U U U (.cons U .nil)) ⟨((((Fr.refl [a0] _).z6 q6 q7 q8 q9 a4 a6).n1 b7).z3 b0 c9 d0),⟨by simp only;omega,hF,λz h=>(by
  by_cases e:z<y;exact e3 z e;obtain rfl:z=y:=by simp only at h;omega
  exact e2),M⟩⟩ (by simp only;omega)
 have d1:=hF.there a5 (by rw[e0];unfold InM;omega);refine sk (tn (rg (mv U (mv U ?_))));replace M:=M.ext d0;refine z0y (0) U M.sl U y6a z1e (λf3 d5=>?_);refine z1g U (d5 _ M.sl) na3 (z0w U (wi6 (by omega)) (z7h (p:=y) (E:=Enc.i64) U U y6a ?_));refine z5c (i:=y) (xs.getD y 0+1) U U M (by rw[hF.lt];exact a5) U sz3 (λm2 M i4 o5=>?_);refine kpL [(0,_),(3,_),(4,_),(5,_),(6,_),(7,_),(8,_),(10,_),(28,_),(29,_),(30,_)] (.d8 U U U U U U U U (.c3 U U U)) (nl (bn' ?_));exact lpE (_) (.d8 U U U U U U U U (.c3 U U U)) ⟨((((Fr.refl [a0] _).z6 q9 a4 a6 b7 b0 c9).n1 d0).z1 i4),⟨d1,M⟩⟩ (by rw[z4s (by rw[hF.lt];exact a5),if_pos U];omega);have e7:¬xs.getD y 0<IntKind.i64.wrap ((((ts.getD y tq0).2.getD (ms.getD y 0).toNat lq0).th.2.1:Int)+(((ts.getD y tq0).2.getD (ms.getD y 0).toNat lq0).pa.2.1:Int)):=c3;rw[IntWalk.i64_in _ (by omega)]at e7;have d1:=hF.push hH a5 d7 (by rw[e0,g9];omega);refine ex (te (te (xh (tn (sr (mv U (mv U (z0w U (wi6 (by omega)) (z4w U (us underlying3) underlying5 (wi8 (by omega)) (mv U (mv U ?_)))))))))));replace Z:=(((Z.ext q7).fr q8 (by intro k D I;have D:=List.mem_singleton.1 D;have I:=List.mem_singleton.1 (show k∈[a3] from I);omega)).fr q9 (by intro k D I;have D:=List.mem_singleton.1 D;have I:=List.mem_singleton.1 (show k∈[a3] from I);omega)).ext a4;refine z0y (0) U Z.sl U y6a z1e (λj5 g1=>?_);refine z1g U (g1 _ Z.sl) na3 (z1t (cs:=[_,_]) (ev2 U) u4j (z0h U (z0h U z0q)) U ?_);refine z2e ([(⟨(y:Int)+1,ms.getD y 0⟩:LId)]) (ev1 U) U z5d (λk8 m3 k1 h0 e4 o6=>?_);replace Z:=Z.ext e4;replace M:=M.ext e4;replace hR:=((((hR.fr q6 (by intro k D I;rw[List.mem_singleton.1 D]at I;first|exact a8 I|exact a9 I|(have h_:=(hR.blk _ I).2;omega))).ext q7).fr q8 (by intro k D I;rw[List.mem_singleton.1 D]at I;first|exact a8 I|exact a9 I|(have h_:=(hR.blk _ I).2;omega))).fr q9 (by intro k D I;rw[List.mem_singleton.1 D]at I;first|exact a8 I|exact a9 I|(have h_:=(hR.blk _ I).2;omega))).ext (a4.n1 e4);have e8:=hR;refine z2g U hR h0.sl z5d (by unfold maxLen;simp only[List.length_append,List.length_cons,List.length_nil];omega) (by simp only[List.length_append,List.length_cons,List.length_nil];omega) (λh3 m4 hR e5 i0=>?_);have o7:=e5.size;replace Z:=Z.fr e5 (λk D I=>a8 (by have e:=List.mem_singleton.1 (show k∈[a3] from I);rw[<-e];exact D));replace M:=M.fr e5 (λk D I=>a9 (by have e:=List.mem_singleton.1 (show k∈[a0] from I);rw[<-e];exact D));clear a8 a9;have a8:a3∉z0v h3:=λh=>x6s hR Z (by decide) a3 h (List.mem_singleton.2 U);have a9:a0∉z0v h3:=λh=>x6s hR M (by decide) a0 h (List.mem_singleton.2 U);obtain⟨k5,k6,rfl,_⟩:=hR.sl.form;refine asg U (kpL [(0,_),(3,_),(4,_),(5,_),(6,_),(7,_),(8,_)] (.c7 U U U U U U U) (nn (sr (mv U (mv U (z0y (0) U Z.sl U y6a z1e (λj6 g3=>?_)))))));refine z1g U (g3 _ Z.sl) na3 (z0w U (wi6 (by omega)) (z7h (p:=y) (E:=Enc.i64) U U y6a ?_));refine z5c (i:=y) (ms.getD y 0+1) U U Z (by rw[hF.lm];exact a5) U sz3 (λm5 Z e9 o8=>?_);refine kpL [(0,_),(3,_),(4,_),(5,_),(6,_),(7,_),(8,_)] (.c7 U U U U U U U) (nn (sr (mv U (mv U ?_))));replace M:=M.fr e9 (by intro k D I;have D:=List.mem_singleton.1 D;have I:=List.mem_singleton.1 (show k∈[a0] from I);omega);refine z7h (p:=y) (E:=Enc.i64) U U y6a ?_;refine z5c (i:=y) (0) U U M (by rw[hF.lt];exact a5) U sz3 (λm6 M f0 o9=>?_);refine nn (ex (xo U (te (te (xh (tn (sr (mv U (lnS U underlying37 (mv U (eq' U (nn (cd U (λc5=>?_) (λc5=>?_))))))))))))));exfalso;simp only[List.length_append,List.length_cons,List.length_nil]at c5;omega;skip;refine sk (gn' (bn' ?_));replace hR:=(hR.fr e9 (by intro k D I;rw[List.mem_singleton.1 D]at I;first|exact a8 I|exact a9 I|(have h_:=(hR.blk _ I).2;omega))).fr f0 (by intro k D I;rw[List.mem_singleton.1 D]at I;first|exact a8 I|exact a9 I|(have h_:=(hR.blk _ I).2;omega));replace Z:=Z.fr f0 (by intro k D I;have D:=List.mem_singleton.1 D;have I:=List.mem_singleton.1 (show k∈[a3] from I);omega);exact lpE ((_,_,_,_)) (.c5 U U U U U) ⟨(((q5.z6 q6 q7 q8 q9 a4 e4).step e5 (λk D d7=>absurd (e8.blk k D).1 (by omega))).z2 e9 f0),⟨by simpa using d1,hR,Z,M⟩⟩ (by simp only[List.length_append,List.length_cons,List.length_nil];omega);obtain rfl:y=6:=by omega
 have h8:=hF.done hH e3 hv.ok.ord;refine ex (te (te (xh (tn (sr (mv U (lnS U underlying37 (mv U (eq' U (kpL [(0,_),(3,_),(4,_),(5,_),(6,_),(106,_)] (.c6 U U U U U U) (nn (cd U (λc5=>?_) (λc5=>?_)))))))))))));have d6:l.length=z3t (z1w ts):=h8;refine ex (gx' (xo U (te (xh (tn (sr (mv U (asg U (kpL [(2,_)] (.cons U .nil) (nn (rt (r1 results191 U ?_))))))))))));replace hR:=hR.fr q6 (by intro k D I;rw[List.mem_singleton.1 D]at I;first|exact a8 I|exact a9 I|(have h_:=(hR.blk _ I).2;omega));exact⟨_,rfl,l,hR,d6,(q5.z1 q6)⟩;exact absurd U c5;have d6:l.length=z3t (z1w ts):=by have:=hF.leI (by omega);omega
 refine ex (te (te (xh (tn (sr (mv U (asg U (kpL [(2,_)] (.cons U .nil) (nn (rt (r1 results191 U ?_)))))))))));exact⟨_,rfl,l,hR,d6,q5⟩
end Go.Proofs.YtpgdchkdlgkmgaaGreatDoor
