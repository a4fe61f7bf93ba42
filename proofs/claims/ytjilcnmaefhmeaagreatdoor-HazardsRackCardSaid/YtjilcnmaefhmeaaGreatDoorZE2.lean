/- Texts of the proof, joined. -/
import Derived.Lib.ItoaNum
import Derived.Lib.Join
import Derived.Lib.AtoiAll
import Derived.Lib.Split
import Derived.Lib.TrimByte
import Derived.Lib.IndexMore
import Derived.Laws.CopyRow
import Derived.Lib.AppendZerosOnto
import Derived.Test.YtjilcnmaefhmeaaGreatDoorRows
import Derived.Laws.RangeString
import Derived.Test.YtjilcnmaefhmeaaGreatDoorZE1
set_option linter.unusedVariables false
set_option linter.unusedSimpArgs false
set_option maxHeartbeats 4000000
namespace Go.Lw
open Go.RowKit
structure MOp where
  k:Int
  d:Int
  b:Int
  p:Int
  y:Int
  r:Int
theorem MOp.ext' {a c:MOp}(h:a.k=c.k/\a.d=c.d/\a.b=c.b/\a.p=c.p/\a.y=c.y/\a.r=c.r):a=c:=by
 obtain⟨D,I,J,M,O,Z⟩:=h;cases a;cases c;simp only at *;subst D I J M O Z;rfl
instance:DecidableEq MOp:=λa c=>
  if h:a.k=c.k/\a.d=c.d/\a.b=c.b/\a.p=c.p/\a.y=c.y/\a.r=c.r then isTrue (MOp.ext' h)
  else isFalse (λe=>h (by subst e;exact ⟨rfl,rfl,rfl,rfl,rfl,rfl⟩))
def z9z:Enc MOp:=⟨λo=>[.int .u8 o.k,.int .u8 o.d,.int .u8 o.b,.int .i64 o.p,.int .u8 o.y,.int .i64 o.r],6,λ_=>rfl,λ_ u h=>by simp at h;rcases h with rfl|rfl|rfl|rfl|rfl|rfl<;>rfl,dd⟩
abbrev opV (o:MOp):Value:=.agg #[.int .u8 o.k,.int .u8 o.d,.int .u8 o.b,.int .i64 o.p,.int .u8 o.y,.int .i64 o.r]
def op0:MOp:=⟨0,0,0,0,0,0⟩
def ndV (p:Int×Int):Value:=.agg #[.int .u8 p.1,.int .i64 p.2]
def z2v (b p:Int):Int:=if b≠0/\b≠1 then 1 else if p<1\/40<p then 1 else 0
abbrev F4:=Bool×Bool×Bool×Bool
def f4L (f:F4):List Value:=[.bool f.1,.bool f.2.1,.bool f.2.2.1,.bool f.2.2.2]
theorem x6k (f:F4):∀u∈f4L f,u.oneCell'=true:=by intro u D;simp[f4L]at D;rcases D with rfl|rfl|rfl|rfl<;>rfl
def f4V (f:F4):Value:=.agg (f4L f).toArray
def f40:F4:=(false,false,false,false)
def z5s (k:Int):Option F4:=
  if k=8 then some (false,true,false,false) else if k=7 then some (false,true,false,false) else if k=6 then some (true,true,true,false)
  else if k=5 then some (true,true,true,false) else if k=4 then some (true,true,true,false) else if k=3 then some (false,false,false,true)
  else if k=2 then some (false,false,true,false) else if k=1 then some (true,false,true,false) else none
def x7e (k:Int):Option Value:=(z5s k).map f4V
theorem z7o (k:Int):(x7e k).getD (.agg #[.bool false,.bool false,.bool false,.bool false])=.agg (f4L ((z5s k).getD f40)).toArray:=by
 unfold x7e;cases z5s k<;>rfl
theorem y2n (k:Int):(x7e k).isSome=(z5s k).isSome:=by unfold x7e;cases z5s k<;>rfl
abbrev pl1 (f:F4)(o:MOp):Prop:=(f.1=true/\o.d≠0)/\o.d≠1\/¬f.1=true/\o.d≠0
abbrev pl2 (f:F4)(o:MOp):Prop:=f.2.1=true/\z2v o.b o.p≠0\/¬f.2.1=true/\¬(o.b=0/\o.p=0)
abbrev pl3 (f:F4)(o:MOp):Prop:=f.2.2.1=true/\(o.y<1\/6<o.y)\/¬f.2.2.1=true/\o.y≠0
abbrev pl4 (f:F4)(o:MOp):Prop:=f.2.2.2=true\/o.r=0
def x7r (f:F4)(o:MOp):Prop:=¬pl1 f o/\¬pl2 f o/\¬pl3 f o/\pl4 f o
instance (f:F4) (o:MOp):Decidable (x7r f o):=by unfold x7r;infer_instance
def y3s (o:MOp):Prop:=(z5s o.k).isSome=true/\x7r ((z5s o.k).getD f40) o
instance (o:MOp):Decidable (y3s o):=by unfold y3s;infer_instance
def z9v (o:MOp):Int:=if ¬y3s o then 1 else if o.r < -4\/4<o.r then 11 else 0
def k2y (n:Nat):UInt8:=UInt8.ofNat (48+n)
def u2w (n:Nat):List UInt8:=if n<10 then [k2y n] else [k2y (n / 10),k2y (n % 10)]
def x4w (n:Int):List UInt8:=if n<0 then 45::u2w n.natAbs else u2w n.toNat
theorem j1h {n:Nat}(h:n<100):Lib.decDigits n=u2w n:=by
 unfold u2w;rw[Lib.decDigits];split;rfl;rw[Lib.decDigits,dif_pos oo];rfl
theorem v7j {n:Int}(h:-99<=n/\n<=99):Lib.itoa n=x4w n:=by
 unfold Lib.itoa x4w;split<;>rw[j1h oo]
theorem y5e (n:Int):(x4w n).length<=3:=by unfold x4w u2w;(repeat' split)<;>simp
def z8n:List (List UInt8):=[[],[105,110],[111,117,116],[114,97,99,107],[107,110,105,116],[116,117,99,107],[109,105,115,115],[120,102,101,114],[100,114,111,112]]
def x1x:List (List UInt8):=[[108,101,102,116],[114,105,103,104,116]]
def x6t (k:Int):List UInt8:=z8n.getD k.toNat []
def u8f (d:Int):List UInt8:=x1x.getD d.toNat []
theorem v8t {k:Int}(h:0<=k/\k<9):(z8n.map S)[k.toNat*1]?=some (S (x6t k)):=by
 rw[Nat.mul_one,List.getElem?_map,x6t,List.getD];have:k.toNat<z8n.length:=by simp only[z8n,List.length];omega
 rw[List.getElem?_eq_getElem this];rfl
theorem x9v {k:Int}(h:0<=k/\k<2):(x1x.map S)[k.toNat*1]?=some (S (u8f k)):=by
 rw[Nat.mul_one,List.getElem?_map,u8f,List.getD];have:k.toNat<x1x.length:=by simp only[x1x,List.length];omega
 rw[List.getElem?_eq_getElem this];rfl
def v4v (b p:Int):List UInt8:=if z2v b p≠0 then [] else if b=0 then [102]++x4w p else [98]++x4w p
def y4a (o:MOp):List (List UInt8):=
  if o.k=1 then [x4w o.y,u8f o.d] else if o.k=2 then [x4w o.y] else if o.k=3 then [x4w o.r]
  else if (o.k=4\/o.k=5)\/o.k=6 then [u8f o.d,v4v o.b o.p,x4w o.y] else if o.k=7\/o.k=8 then [v4v o.b o.p] else []
def j9d (o:MOp):List UInt8:=if z9v o≠0 then [] else Lib.join (x6t o.k::y4a o) [32]
theorem x9j {b p:Int}:z2v b p=0↔(b=0\/b=1)/\1<=p/\p<=40:=by unfold z2v;(repeat' split)<;>omega
theorem u3n {k:Int}(h:(z5s k).isSome=true):1<=k/\k<=8:=by unfold z5s at h;(repeat' split at h)<;>first|omega|simp at h
theorem u7i {o:MOp}(h:z9v o=0):y3s o/\-4<=o.r/\o.r<=4:=by
 unfold z9v at h;split at h;omega;rename_i D;split at h;omega;rename_i I;exact⟨Classical.not_not.1 D,oo,oo⟩
theorem v9f {o:MOp}(h:z9v o=0):1<=o.k/\o.k<=8/\0<=o.d/\o.d<=1/\0<=o.y/\o.y<=6/\-4<=o.r/\o.r<=4:=by
 obtain⟨⟨M,D,O,I,Z⟩,h6,h7⟩:=u7i h
 have J:=u3n M
 generalize (z5s o.k).getD f40=f at D O I Z
 refine⟨J.1,J.2,?_,?_,?_,?_,h6,h7⟩<;>
 ·revert D I
  unfold pl1 pl3
  cases f.1<;>cases f.2.2.1<;>simp<;>omega
theorem u4y {b p:Int}:(v4v b p).length<=6:=by
 unfold v4v;split;simp;rename_i h;have D:=x9j.1 (Classical.not_not.1 h);have:=y5e p;split<;>simp<;>omega
theorem u0n (k:Int):(x6t k).length<=4:=by
 have:∀n:Nat,(z8n.getD n []).length<=4
  | 0|1|2|3|4|5|6|7|8=>by decide
  | n+9=>by simp[z8n,List.getD]
 exact this _
theorem u2v (k:Int):(u8f k).length<=5:=by
 have:∀n:Nat,(x1x.getD n []).length<=5
  | 0|1=>by decide
  | n+2=>by simp[x1x,List.getD]
 exact this _
theorem j5x (o:MOp):(y4a o).length<=3:=by unfold y4a;(repeat' split)<;>simp
theorem u1m (o:MOp)(h:z9v o=0):(Lib.join (x6t o.k::y4a o) [32]).length<=30:=by
 have Z:=v9f h;have D:=u0n o.k;have I:=u2v o.d;have J:=y5e o.y;have M:=y5e o.r;have O:=u4y (b:=o.b) (p:=o.p);rw[Lib.join_cons];unfold y4a Lib.joinTail;(repeat' split)<;>simp<;>omega
theorem y5h {n:Int}(h:0<=n/\n<10):[Value.int .u8 (48+n)].map Value.cells=[UInt8.ofNat (48+n.toNat)].map (λy=>(Enc.b.enc y).toArray):=by
 have e:((UInt8.ofNat (48+n.toNat)).toNat:Int)=48+n:=by rw[UInt8.toNat_ofNat'];omega
 show [#[Value.int .u8 (48+n)]]=[#[Value.int .u8 ((UInt8.ofNat (48+n.toNat)).toNat:Int)]];rw[e]
def MOp.Ok (o:MOp):Prop:=0<=o.k/\0<=o.d/\0<=o.b/\0<=o.y/\o.k<=255/\o.d<=255/\o.b<=255/\o.y<=255
theorem x2o {o:MOp}:z9v o=if y3s o then (if o.r < -4\/4<o.r then 11 else 0) else 1:=by
 unfold z9v;by_cases e:y3s o;rw[if_neg (λD=>D e),if_pos e];rw[if_pos e,if_neg e]
def u0s (c:UInt8):Bool:=decide (48<=(c.toNat:Int)/\(c.toNat:Int)<=57)
def v5h (n:Int)(c:UInt8):Int:=10*n+((c.toNat:Int)-48)
def y5l (l:List UInt8):Int:=l.foldl v5h 0
def j5c (l:List UInt8):Option Int:=if ((l.getD 0 0).toNat:Int)=102 then some 0 else if ((l.getD 0 0).toNat:Int)=98 then some 1 else none
def x4s (l:List UInt8):Int×Int:=
  if (l.length:Int)<2\/3<(l.length:Int) then (0,0) else
  match j5c l with
  | none=>(0,0)
  | some b=>if (l.drop 1).all u0s=false then (0,0) else if v4v b (y5l (l.drop 1))≠l then (0,0) else (b,y5l (l.drop 1))
theorem y7o (l:List UInt8)(k:Nat)(h:k<l.length):l.take (k+1)=l.take k++[l.getD k 0]:=by
 rw[List.take_succ_eq_append_getElem h];simp[List.getD,h]
theorem v2q (l:List UInt8)(k:Nat)(h:k<l.length):y5l (l.take (k+1))=10*y5l (l.take k)+(((l.getD k 0).toNat:Int)-48):=by
 rw[y7o l k h,y5l,List.foldl_append];rfl
theorem u3z (l:List UInt8)(k:Nat)(h:k<l.length)(D:(l.take k).all u0s=true)(I:48<=((l.getD k 0).toNat:Int)/\((l.getD k 0).toNat:Int)<=57):(l.take (k+1)).all u0s=true:=by
 rw[y7o l k h,List.all_append,D,List.all_cons,List.all_nil,u0s,decide_eq_true I];rfl
theorem j3o (l:List UInt8)(k:Nat)(h:k<l.length)(I:¬(48<=((l.getD k 0).toNat:Int)/\((l.getD k 0).toNat:Int)<=57)):l.all u0s=false:=by
 rw[Bool.eq_false_iff];intro D;rw[List.all_eq_true]at D;have:=D (l.getD k 0) (by simp[List.getD,h]);simp only[u0s,decide_eq_true_eq]at this;exact I this
theorem x2i {l:List UInt8}(h:l.all u0s=true)(hl:l.length<=2):0<=y5l l/\y5l l<=99:=by
 match l,h,hl with
 | [],_,_=>decide
 | [a],h,_=>simp[u0s]at h;simp[y5l,v5h];omega
 | [a,b],h,_=>simp[u0s]at h;simp[y5l,v5h];omega
 | _::_::_::_,_,hl=>simp at hl
def u1u (l:List UInt8):Int:=match Lib.atoiAll l with|.ok v=>v|_=>0
def j8i (l:List UInt8):Int:=if l=[114,105,103,104,116] then 1 else 0
def y6s (w:List UInt8):Nat->Int
  | 0=>0
  | i+1=>if z8n.getD i []=w then (i:Int) else y6s w i
def x0j (w:List UInt8):Int:=y6s w 9
theorem x3c (w:List UInt8):∀i:Nat,0<=y6s w i/\y6s w i<=i
 | 0=>by simp[y6s]
 | i+1=>by have:=x3c w i;unfold y6s;split<;>omega
theorem u3j {i:Nat}(h:i<9):(z8n.map S)[((i:Nat):Int).toNat]?=some (S (z8n.getD i [])):=by
 rw[Int.toNat_natCast,List.getElem?_map,List.getD,List.getElem?_eq_getElem (show i<z8n.length from h)];rfl
def fD (k:Int):Bool:=((z5s k).getD f40).1
def fN (k:Int):Bool:=((z5s k).getD f40).2.1
def y5r (k:Int)(ws:List (List UInt8)):MOp:=
  if k=1/\(ws.length:Int)=3 then ⟨k,j8i (ws.getD 2 []),0,0,u1u (ws.getD 1 []) % 256,0⟩
  else if k=2/\(ws.length:Int)=2 then ⟨k,0,0,0,u1u (ws.getD 1 []) % 256,0⟩
  else if k=3/\(ws.length:Int)=2 then ⟨k,0,0,0,0,u1u (ws.getD 1 [])⟩
  else if fD k=true/\(ws.length:Int)=4 then ⟨k,j8i (ws.getD 1 []),(x4s (ws.getD 2 [])).1,(x4s (ws.getD 2 [])).2,u1u (ws.getD 3 []) % 256,0⟩
  else if fN k=true/\(ws.length:Int)=2 then ⟨k,0,(x4s (ws.getD 1 [])).1,(x4s (ws.getD 1 [])).2,0,0⟩
  else ⟨k,0,0,0,0,0⟩
def z4e (ws:List (List UInt8)):MOp:=y5r (x0j (ws.getD 0 [])) ws
def y5k (l:List UInt8):MOp×Int:=
  if z9v (z4e (Lib.split l [32]))≠0\/j9d (z4e (Lib.split l [32]))≠l then (op0,4) else (z4e (Lib.split l [32]),0)
theorem v3b (D:List UInt8)(sv:Nat):∀(k:Nat) (l:List UInt8),1<=(Lib.splitK D sv k l).length
 | 0,l=>by simp[Lib.splitK]
 | k+1,l=>by unfold Lib.splitK;split<;>simp
theorem v8g (l D:List UInt8):1<=(Lib.split l D).length:=v3b _ _ _ _
theorem y7f (D:List UInt8):∀(k:Nat) (l x:List UInt8),x∈Lib.splitK D 0 k l->x.length<=l.length
 | 0,l,x,h=>by simp[Lib.splitK]at h;rw[h];exact Nat.le_refl _
 | k+1,l,x,h=>by
  unfold Lib.splitK at h
  split at h
  ·simp at h;rw[h];exact Nat.le_refl _
  rw[List.mem_cons]at h
  rcases h with rfl|h
  ·simp;omega
  have:=y7f D k _ x h
  simp at this;omega
theorem x2j (l D:List UInt8)(i:Nat):((Lib.split l D).getD i []).length<=l.length:=by
 rw[List.getD];cases e:(Lib.split l D)[i]? with
 | none=>simp
 | some y=>exact y7f D _ l y (List.mem_of_getElem? e)
def y8q (x:List UInt8):List UInt8:=Lib.trimB (Lib.cut x [35]).1 32
def v1m:List (List UInt8)->Int->List MOp->List MOp×Int×Int
  | [],_,acc=>(acc,0,0)
  | x::xs,i,acc=>if y8q x=[] then v1m xs (i+1) acc else if (y5k (y8q x)).2≠0 then ([],i+1,(y5k (y8q x)).2)
    else if (acc.length:Int)=4096 then ([],i+1,3) else v1m xs (i+1) (acc++[(y5k (y8q x)).1])
def x7f (l:List UInt8):List MOp×Int×Int:=v1m (Lib.split l [10]) 0 []
theorem v7i (x m:List UInt8):(Lib.cut x m).1.length<=x.length:=by unfold Lib.cut;(repeat' split)<;>simp<;>omega
theorem z9u (x:List UInt8)(c:UInt8):(Lib.trimB x c).length<=x.length:=by
 unfold Lib.trimB Lib.trimLeftB Lib.trimRightB;refine Nat.le_trans ((List.dropWhile_suffix _).length_le) ?_;rw[List.length_reverse];refine Nat.le_trans ((List.dropWhile_suffix _).length_le) ?_;rw[List.length_reverse];exact Nat.le_refl _
theorem u1x (x:List UInt8):(y8q x).length<=x.length:=Nat.le_trans (z9u _ _) (v7i _ _)
theorem v9x {α:Type}(l:List α)(i:Nat)(z:α)(h:i<l.length):l.drop i=l.getD i z::l.drop (i+1):=by
 rw[List.drop_eq_getElem_cons h];simp[List.getD,h]
end Go.Lw
namespace Go.G08
open Go.Lw Go.G21
abbrev Bed:=List (List LId)
structure Bd where
  f:Bed
  b:Bed
deriving DecidableEq
def trimB:Bed->Bed
  | []=>[]
  | s::l=>if trimB l=[]/\s=[] then [] else s::trimB l
def atB (l:Bed)(n:Int):List LId:=l.getD (n-1).toNat []
def Bd.at (B:Bd)(b n:Int):List LId:=if b=0 then atB B.f n else atB B.b n
def Bd.atC (B:Bd)(b n:Int):List LId:=if z2v b n=0 then B.at b n else []
def x4r (l:Bed)(n:Nat):Bed:=l++List.replicate (n-l.length) []
def y7n (l:Bed)(n:Nat)(s:List LId):Bed:=trimB (if n=0 then l else (x4r l n).set (n-1) s)
def Bd.put (B:Bd)(b n:Int)(s:List LId):Bd:=if b=0 then ⟨y7n B.f n.toNat s,trimB B.b⟩ else ⟨trimB B.f,y7n B.b n.toNat s⟩
def Bd.flat (B:Bd):List LId:=B.f.flatten++B.b.flatten
structure BdOk (B:Bd):Prop where
  lf:B.f.length<=40
  lb:B.b.length<=40
  ss:∀s∈B.f++B.b,s.length<=4
  nm:∀i∈B.flat,z5d i
  nd:B.flat.Nodup
structure BdW (B:Bd):Prop where
  lf:B.f.length<=40
  lb:B.b.length<=40
  ss:∀s∈B.f++B.b,s.length<=4
  nm:∀i∈B.flat,z5d i
theorem BdOk.w {B:Bd}(h:BdOk B):BdW B:=⟨h.lf,h.lb,h.ss,h.nm⟩
def z2h (b n r:Int):Int:=if z2v b n≠0\/¬(-4<=r/\r<=4) then 0 else if b=0 then 4*n+2 else 4*(n+r)
structure Hd where
  id:LId
  b:Int
  n:Int
  s:Int
deriving DecidableEq
def hd0:Hd:=⟨id0,0,0,0⟩
def hdS (b r:Int)(k:Nat)(x:LId):Hd:=⟨x,b,(k:Int)+1,z2h b ((k:Int)+1) r⟩
def hds (b r:Int)(l:Bed)(i:Nat):List Hd:=(List.range i).flatMap λk=>(l.getD k []).map (hdS b r k)
def v3e (B:Bd)(r:Int):List Hd:=hds 0 r B.f B.f.length++hds 1 r B.b B.b.length
def y2l (h:Hd):List Hd->List Hd
  | []=>[h]
  | x::l=>if h.s<x.s then h::x::l else x::y2l h l
def z5h (l:List Hd):List Hd:=l.foldl (λa h=>y2l h a) []
def z2n (B:Bd)(r:Int):List Hd:=z5h (v3e B r)
def btw (l:List Hd)(fr to:Int):List Pa:=
  if fr<to then (l.filter λh=>decide (fr<h.s/\h.s<to)).map λh=>⟨h.id,decide (h.b=1),1⟩
  else ((l.filter λh=>decide (to<h.s/\h.s<fr)).map λh=>⟨h.id,decide (h.b=1),0⟩).reverse
def x9k (d:Int)(x o:LId):Cx:=if d=0 then ⟨o,x,1⟩ else ⟨x,o,-1⟩
def y1b (r d:Int)(k:Nat):Int:=if d=0 then (k:Int)+1+r-1 else (k:Int)+1+r
def u7z (B:Bd)(r d:Int)(k:Nat):List Cx:=(B.b.getD k []).flatMap λx=>(B.atC 0 (y1b r d k)).reverse.map (x9k d x)
def v1v (B:Bd)(r d:Int)(i:Nat):List Cx:=(List.range i).flatMap (u7z B r d)
def z4c (B:Bd)(r d:Int):List Cx:=if d=1 then (v1v B r d B.b.length).reverse else v1v B r d B.b.length
def stI (d:Int):Int:=if d=0 then -1 else 1
def y5g (B:Bd)(r d p:Int)(k:Nat):List Pa:=if p≠z2h 1 ((k:Int)+1) r+stI d/\p≠z2h 1 ((k:Int)+1) r+3*stI d then [] else (B.b.getD k []).map λx=>⟨x,true,1-d⟩
def z8f (B:Bd)(r d p:Int)(i:Nat):List Pa:=(List.range i).flatMap (y5g B r d p)
def z5e (B:Bd)(r d p:Int):List Pa:=if d=1 then (z8f B r d p B.b.length).reverse else z8f B r d p B.b.length
def z6q (a b:LId):Int:=if a.y<b.y then -1 else if b.y<a.y then 1 else if a.n<b.n then -1 else if b.n<a.n then 1 else 0
def isC (a b:LId)(c:Cx):Bool:=decide (c.a=a/\c.b=b)
def z6h (l:List Cx)(a b:LId):Int:=((l.find? (isC a b)).map Cx.n).getD 0
def y7u (l:List Cx)(a b:LId)(n:Int):List Cx:=if l.any (isC a b) then l.map (λc=>if isC a b c then ⟨a,b,n⟩ else c) else l++[⟨a,b,n⟩]
def v0d (l:List Cx)(a b:LId):List Cx:=l.filter λc=>!isC a b c
def y8m (l:List Cx)(c:Cx):Except Int (List Cx):=
  let k:LId×LId:=if 0<z6q c.a c.b then (c.b,c.a) else (c.a,c.b)
  let n:=z6h l k.1 k.2+c.n
  if n < -1048576\/1048576<n then .error 3 else if n=0 then .ok (v0d l k.1 k.2) else .ok (y7u l k.1 k.2 n)
def z5f:List Cx->List Cx->Except Int (List Cx)
  | l,[]=>.ok l
  | l,c::r=>match y8m l c with|.error e=>.error e|.ok l'=>z5f l' r
structure MSt where
  rk:Int
  B:Bd
  ys:List Yn
  tb:Tb
  cr:List Cx
  fa:List LId
def yn0:Yn:=⟨false,0,0,false,[]⟩
def MSt.y (p:MSt)(y:Int):Yn:=p.ys.getD (y-1).toNat yn0
def MSt.setY (p:MSt)(y:Int)(q:Yn):MSt:={ p with ys:=p.ys.set (y-1).toNat q }
abbrev MR:=Except Int MSt
def lvS (y:Yn):Yn:=⟨false,0,y.ct,false,[]⟩
def mkS (y:Yn):Yn:=⟨true,y.pl,y.ct+1,false,[]⟩
def inM (p:MSt)(o:MOp):MR:=if enE (p.y o.y) o.d≠0 then .error (enE (p.y o.y) o.d) else .ok (p.setY o.y (enS (p.y o.y) o.d))
def x6s (p:MSt)(o:MOp):MR:=if lvE (p.y o.y)≠0 then .error (lvE (p.y o.y)) else .ok (p.setY o.y (lvS (p.y o.y)))
def z7j (p:MSt)(o:MOp):Int:=if (p.y o.y).inn=false then 12 else if o.d=1 then (if z2h o.b o.p p.rk<(p.y o.y).pl then 12 else 0) else if (p.y o.y).pl<z2h o.b o.p p.rk then 12 else 0
def y4l (p:MSt)(o:MOp):Int:=if o.d=1 then z2h o.b o.p p.rk+1 else z2h o.b o.p p.rk-1
def y6x (p:MSt)(y en:Int):List Pa:=btw (z2n p.B p.rk) (p.y y).pl en
def y2k (p:MSt)(y pl en:Int):MR:=if goE (p.y y) pl (y6x p y en)≠0 then .error (goE (p.y y) pl (y6x p y en)) else .ok (p.setY y (goS (p.y y) pl (y6x p y en)))
def MSt.row (p:MSt)(y:Int):List Lp:=p.tb.getD (y-1).toNat []
def y5m (p:MSt)(o:MOp)(th st:List LId):MR:=
  if mkE (p.y o.y)≠0 then .error (mkE (p.y o.y)) else if 2048<=z4f p.tb then .error 3
  else .ok { p with B:=p.B.put o.b o.p (st++[⟨o.y,(p.y o.y).ct⟩]),ys:=p.ys.set (o.y-1).toNat (mkS (p.y o.y)),tb:=p.tb.set (o.y-1).toNat (p.row o.y++[⟨o.b,(p.y o.y).nw,th,(p.y o.y).pe⟩]) }
def y0x (p:MSt)(o:MOp):MR:=if z7j p o≠0 then .error (z7j p o) else match y2k p o.y (y4l p o) (z2h o.b o.p p.rk) with
  | .error e=>.error e
  | .ok q=>y5m q o (q.B.at o.b o.p) []
def y0d (p:MSt)(o:MOp):MR:=if z7j p o≠0 then .error (z7j p o) else match y2k p o.y (y4l p o) (z2h o.b o.p p.rk) with
  | .error e=>.error e
  | .ok q=>if 4<=(q.B.at o.b o.p).length then .error 9 else y5m q o [] (q.B.at o.b o.p)
def y4b (p:MSt)(o:MOp):MR:=if z7j p o≠0 then .error (z7j p o) else y2k p o.y (y4l p o) (y4l p o)
def z6r (b n r:Int):Int:=if b=1 then n+r else n-r
def u1f (p:MSt)(o:MOp):Int:=min (z2h o.b o.p p.rk) (z2h (1-o.b) (z6r o.b o.p p.rk) p.rk)+1
def z9y (p:MSt)(o:MOp):List LId:=if o.b=1 then p.B.at 1 o.p++p.B.at 0 (z6r 1 o.p p.rk) else p.B.at 1 (z6r 0 o.p p.rk)++p.B.at 0 o.p
def z9d (p:MSt)(o:MOp):MR:=
  if p.B.at o.b o.p=[] then .error 13
  else if z2v (1-o.b) (z6r o.b o.p p.rk)≠0 then .error 11
  else if ∃y∈p.ys,y.inn=true/\y.pl=u1f p o then .error 12
  else if 4<(p.B.at o.b o.p).length+(p.B.at (1-o.b) (z6r o.b o.p p.rk)).length then .error 9
  else .ok { p with B:=(p.B.put o.b o.p []).put (1-o.b) (z6r o.b o.p p.rk) (z9y p o) }
def y2v (p:MSt)(o:MOp):MR:=if p.B.at o.b o.p=[] then .error 13 else .ok { p with B:=p.B.put o.b o.p [],fa:=p.fa++p.B.at o.b o.p }
def z7a (p:MSt)(d:Int)(y:Yn):Except Int Yn:=if y.inn=false then .ok y else if goE y y.pl (z5e p.B p.rk d y.pl)≠0 then .error (goE y y.pl (z5e p.B p.rk d y.pl)) else .ok (goS y y.pl (z5e p.B p.rk d y.pl))
def z3y (p:MSt)(d:Int):List Yn->Except Int (List Yn)
  | []=>.ok []
  | y::l=>match z7a p d y with
    | .error e=>.error e
    | .ok y'=>match z3y p d l with
      | .error e=>.error e
      | .ok l'=>.ok (y'::l')
def z6e (p:MSt)(d:Int):MR:=match z3y p d p.ys with
  | .error e=>.error e
  | .ok ys=>match z5f p.cr (z4c p.B p.rk d) with
    | .error e=>.error e
    | .ok cr=>.ok { p with ys:=ys,cr:=cr,rk:=p.rk+stI d }
def z3u:Nat->MSt->Int->MR
  | 0,p,_=>.ok p
  | n+1,p,r=>if p.rk=r then .ok p else match z6e p (if r<p.rk then 0 else 1) with
    | .error e=>.error e
    | .ok q=>z3u n q r
def u2e (p:MSt)(o:MOp):MR:=z3u 8 p o.r
def opM (p:MSt)(o:MOp):MR:=
  if o.k=1 then inM p o else if o.k=2 then x6s p o else if o.k=3 then u2e p o else if o.k=4 then y0x p o
  else if o.k=5 then y0d p o else if o.k=6 then y4b p o else if o.k=7 then z9d p o else y2v p o
def doM (p:MSt)(o:MOp):MR:=if z9v o≠0 then .error (z9v o) else opM p o
def z3n:Nat->MSt->List MOp->Except (Int×Nat) MSt
  | _,p,[]=>.ok p
  | i,p,o::l=>match doM p o with
    | .error e=>.error (e,i)
    | .ok q=>z3n (i+1) q l
def start:MSt:=⟨0,⟨[],[]⟩,List.replicate 6 yn0,List.replicate 6 [],[],[]⟩
theorem y2g:∀(l:Bed) (i:Nat),(trimB l).getD i []=l.getD i []
 | [],i=>rfl
 | s::l,i=>by
  have D:=y2g l
  unfold trimB
  split
  ·rename_i h
   cases i with
   | zero=>simp[h.2]
   | succ i=>have:=D i;rw[h.1]at this;simpa using this
  cases i with
  | zero=>simp
  | succ i=>simpa using D i
theorem y1o:∀l:Bed,(trimB l).flatten=l.flatten
 | []=>rfl
 | s::l=>by
  have D:=y1o l
  unfold trimB
  split
  ·rename_i h
   rw[h.1]at D
   simp only[List.flatten_cons,<-D,h.2];rfl
  simp only[List.flatten_cons,D]
theorem z9u:∀l:Bed,(trimB l).length<=l.length
 | []=>Nat.le_refl _
 | s::l=>by
  have D:=z9u l
  unfold trimB
  split
  ·simp
  simp only[List.length_cons];omega
theorem y4o:∀(l:Bed) {s:List LId},s∈trimB l->s∈l
 | [],s,h=>h
 | t::l,s,h=>by
  unfold trimB at h
  split at h
  ·cases h
  rcases List.mem_cons.1 h with rfl|h
  ·exact List.mem_cons_self ..
  exact List.mem_cons_of_mem _ (y4o l h)
theorem x8n:∀l:Bed,(∀s∈l,s=[])->trimB l=[]
 | [],_=>rfl
 | s::l,h=>by
  unfold trimB
  rw[if_pos ⟨x8n l λt D=>h t (List.mem_cons_of_mem _ D),h s (List.mem_cons_self ..)⟩]
theorem y2p:∀(l:Bed) (n:Nat),n<=l.length->(∀j,n<=j->l.getD j []=[])->(n=0\/l.getD (n-1) []≠[])->l.take n=trimB l
 | [],n,h,_,_=>by simp[trimB]
 | s::l,0,_,h,_=>by
  rw[x8n]
  ·rfl
  intro t Z
  obtain⟨i,M,rfl⟩:=List.getElem_of_mem Z
  have:=h i (Nat.zero_le _)
  rwa [List.getD,List.getElem?_eq_getElem M]at this
 | s::l,n+1,hl,h,hn=>by
  have J:=y2p l n (by simpa using hl) (λj hj=>by have:=h (j+1) oo;simpa using this)
  unfold trimB
  cases n with
  | zero=>
   have O:s≠[]:=by simpa using hn
   rw[if_neg (λe=>O e.2)]
   have:=J (.inl U)
   simp only[List.take_succ_cons,List.take_zero,this] at *
  | succ n=>
   have D:l.getD n []≠[]:=by simpa using hn
   have:=J (.inr D)
   rw[if_neg,List.take_succ_cons,this]
   rintro⟨e,-⟩
   have I:=y2g l n
   rw[e]at I
   exact D (by simpa using I.symm)
theorem x7u (l:Bed)(n i:Nat):(x4r l n).getD i []=l.getD i []:=by
 unfold x4r;by_cases h:i<l.length;simp only[List.getD,List.getElem?_append_left h];rw[List.getD,List.getD,List.getElem?_append_right oo,List.getElem?_replicate,List.getElem?_eq_none oo];split<;>rfl
theorem u5l (l:Bed)(n:Nat):(x4r l n).flatten=l.flatten:=by
 unfold x4r;rw[List.flatten_append];have:(List.replicate (n-l.length) ([]:List LId)).flatten=[]:=by simp
 rw[this,List.append_nil]
theorem y9i (l:Bed)(n:Nat):(x4r l n).length=max l.length n:=by
 unfold x4r;rw[List.length_append,List.length_replicate];omega
theorem u5a (l:Bed){n:Nat}(hn:1<=n)(s:List LId)(i:Nat):(y7n l n s).getD i []=if i=n-1 then s else l.getD i []:=by
 unfold y7n;rw[y2g,if_neg oo,z1j (by rw[y9i];omega),x7u];split;rename_i e;rw[if_pos e.symm];rename_i e;rw[if_neg (λh=>e h.symm)]
theorem u7w {l:Bed}{n m:Int}(hn:1<=n)(D:1<=m)(s:List LId):atB (y7n l n.toNat s) m=if m=n then s else atB l m:=by
 unfold atB;rw[u5a _ oo];by_cases e:m=n;subst e;rw[if_pos oo,if_pos U];rw[if_neg oo,if_neg e]
theorem v9b (l:Bed)(n:Int):atB (trimB l) n=atB l n:=y2g l _
theorem x1n (l:Bed){n:Int}(hn:1<=n)(s:List LId)(i:LId):(y7n l n.toNat s).flatten.count i+(atB l n).count i=l.flatten.count i+s.count i:=by
 unfold y7n;rw[y1o,if_neg oo];have h:=z8k (α:=List LId) (λx=>x) (x4r l n.toNat) (n.toNat-1) [] s i (by rw[y9i];omega);simp only[List.flatMap_id']at h;rw[u5l,x7u]at h;have e:n.toNat-1=(n-1).toNat:=by omega
 unfold atB;rw[e]at h ⊢;omega
theorem y6q (l:Bed)(n:Nat)(s:List LId):(y7n l n s).length<=max l.length n:=by
 unfold y7n;refine Nat.le_trans (z9u _) ?_;split;omega;rw[List.length_set,y9i];exact Nat.le_refl _
theorem j2l (l:Bed)(n:Nat)(s:List LId){t:List LId}(h:t∈y7n l n s):t=s\/t∈l\/t=[]:=by
 unfold y7n at h;have h:=y4o _ h;split at h;exact .inr (.inl h);rcases List.mem_or_eq_of_mem_set h with h|h
 unfold x4r at h;rcases List.mem_append.1 h with h|h
 exact .inr (.inl h);exact .inr (.inr (List.eq_of_mem_replicate h));exact .inl h
theorem z2o {b n:Int}(h:z2v b n=0):(b=0\/b=1)/\1<=n/\n<=40:=by
 unfold z2v at h;split at h;omega;split at h<;>omega
theorem y0t {b n:Int}(h:(b=0\/b=1)/\1<=n/\n<=40):z2v b n=0:=by
 unfold z2v;rw[if_neg oo,if_neg oo]
theorem z3d (B:Bd){b n:Int}(h:z2v b n=0)(s:List LId)(i:LId):(B.put b n s).flat.count i+(B.at b n).count i=B.flat.count i+s.count i:=by
 obtain⟨I,D,J⟩:=z2o h;unfold Bd.put Bd.at Bd.flat;split;simp only[List.count_append,y1o];have:=x1n B.f D s i;omega;simp only[List.count_append,y1o];have:=x1n B.b D s i;omega
theorem z8c (B:Bd){b n b' D:Int}(h:z2v b n=0)(M:z2v b' D=0)(s:List LId):(B.put b n s).at b' D=if b'=b/\D=n then s else B.at b' D:=by
 obtain⟨O,I,Z⟩:=z2o h;obtain⟨h4,J,h6⟩:=z2o M;unfold Bd.put Bd.at;by_cases e:b=0;rw[if_pos e];by_cases e':b'=0;rw[if_pos e',u7w I J];by_cases e2:D=n;rw[if_pos e2,if_pos ⟨oo,e2⟩];rw[if_neg e2,if_neg (λk=>e2 k.2),if_pos e'];rw[if_neg e',v9b,if_neg (λk=>oo),if_neg e'];rw[if_neg e];by_cases e':b'=0;rw[if_pos e',v9b,if_neg (λk=>oo),if_pos e'];rw[if_neg e',u7w I J];by_cases e2:D=n;rw[if_pos e2,if_pos ⟨oo,e2⟩];rw[if_neg e2,if_neg (λk=>e2 k.2),if_neg e']
theorem v4m {l:Bed}{n:Int}(h:atB l n≠[]):atB l n∈l:=by
 unfold atB at *
 by_cases e:(n-1).toNat<l.length;exact z0z e;exact absurd (by rw[List.getD,List.getElem?_eq_none oo];rfl) h
theorem v3m {B:Bd}{b n:Int}(h:B.at b n≠[]):B.at b n∈B.f++B.b:=by
 unfold Bd.at at *
 split;rename_i e;rw[if_pos e]at h;exact List.mem_append_left _ (v4m h);rename_i e;rw[if_neg e]at h;exact List.mem_append_right _ (v4m h)
theorem y0l {B:Bd}(h:BdOk B)(b n:Int):(B.at b n).length<=4:=by
 by_cases e:B.at b n=[];rw[e];simp;exact h.ss _ (v3m e)
theorem j1y (B:Bd):B.flat=(B.f++B.b).flatten:=by unfold Bd.flat;rw[List.flatten_append]
theorem z4u {B:Bd}{b n:Int}{i:LId}(h:i∈B.at b n):i∈B.flat:=by
 rw[j1y];exact List.mem_flatten.2 ⟨_,v3m (λe=>by rw[e]at h;cases h),h⟩
theorem y1l {B:Bd}{b n:Int}(h:z2v b n=0){s:List LId}{i:LId}(D:i∈(B.put b n s).flat):i∈s\/i∈B.flat:=by
 have:=z3d B h s i;have I:=List.count_pos_iff.2 D;by_cases e:0<s.count i;exact .inl (List.count_pos_iff.1 e);exact .inr (List.count_pos_iff.1 oo)
theorem BdOk.put {B:Bd}(h:BdOk B){b n:Int}(hn:z2v b n=0){s:List LId}(h4:s.length<=4)(Z:∀i∈s,z5d i)(O:∀i,B.flat.count i+s.count i<=(B.at b n).count i+1):BdOk (B.put b n s):=by
 obtain⟨h1,h2,h3⟩:=z2o hn;have hl:=h.lf;have M:=h.lb;refine⟨?_,?_,?_,?_,?_⟩;unfold Bd.put;split;have:=y6q B.f n.toNat s;simp only;omega;have:=z9u B.f;simp only;omega;unfold Bd.put;split;have:=z9u B.b;simp only;omega;have:=y6q B.b n.toNat s;simp only;omega;intro t D;unfold Bd.put at D;have J:∀l:Bed,(∀s∈l,s.length<=4)->∀t∈y7n l n.toNat s,t.length<=4:=λl hl t D=>by
  rcases j2l l _ s D with rfl|D|rfl
  exact h4;exact hl t D;simp
 have hf:∀s∈B.f,s.length<=4:=λs hs=>h.ss s (List.mem_append_left _ hs);have M:∀s∈B.b,s.length<=4:=λs hs=>h.ss s (List.mem_append_right _ hs);split at D;rcases List.mem_append.1 D with D|D
 exact J _ hf _ D;exact M _ (y4o _ D);rcases List.mem_append.1 D with D|D
 exact hf _ (y4o _ D);exact J _ M _ D;intro i I;rcases y1l hn I with I|I
 exact Z i I;exact h.nm i I;rw[List.nodup_iff_count];intro i;have:=z3d B hn s i;have:=O i;omega
structure MInv (p:MSt):Prop where
  rk:-4<=p.rk/\p.rk<=4
  B:BdOk p.B
  ly:p.ys.length=6
  lt:p.tb.length=6
  yn:∀y,y<6->y0f (p.ys.getD y yn0)/\(p.ys.getD y yn0).ct=z3b p.tb y
  has:∀i∈p.B.flat,z3r p.tb i
  cnt:p.B.flat.length+p.fa.length<=z4f p.tb
  all:z4f p.tb<=2048
  cv:∀c∈p.cr,-1048576<=c.n/\c.n<=1048576
theorem y2e:MInv start:=by
 refine⟨dd,⟨dd,dd,by intro s J;simp[start]at J,by intro i D;simp[start,Bd.flat]at D,by simp[start,Bd.flat]⟩,rfl,rfl,λy M=>?_,by intro i D;simp[start,Bd.flat]at D,dd,dd,by intro c I;simp[start]at I⟩;have:start.ys.getD y yn0=yn0:=by
  simp only[start,List.getD,List.getElem?_replicate];split<;>rfl
 rw[this];refine⟨dd,?_⟩;simp only[start,z3b,List.getD,List.getElem?_replicate];rw[if_pos M];rfl
theorem z3j {o:MOp}(h:z9v o=0):(o.k=1\/o.k=2\/o.k=3\/o.k=4\/o.k=5\/o.k=6\/o.k=7\/o.k=8)/\(o.k=1->z5t o.d)/\((o.k=1\/o.k=2\/o.k=4\/o.k=5\/o.k=6)->1<=o.y/\o.y<=6)/\((o.k=4\/o.k=5\/o.k=6)->z5t o.d)/\((4<=o.k)->z2v o.b o.p=0)/\(o.k=3->-4<=o.r/\o.r<=4):=by
 unfold z9v at h
 split at h
 ·omega
 rename_i I
 have I:=Classical.not_not.1 I
 split at h
 ·omega
 rename_i hr
 obtain⟨D,J,M,O,Z⟩:=I
 unfold z5s at D J M O Z
 unfold z5t
 unfold pl1 at J
 unfold pl2 at M
 unfold pl3 at O
 unfold pl4 at Z
 have a0:∀a:Int,¬(a≠0)->a=0:=λa h=>by omega
 repeat' split at D
 all_goals first|(simp at D;done)|skip
 all_goals simp_all
 all_goals omega
structure BdQ where
  f:SV
  b:SV
  fs:List IQ
  bs:List IQ
abbrev plB (l:List IQ):Bed:=l.map Prod.snd
abbrev BdQ.p (q:BdQ):Bd:=⟨plB q.fs,plB q.bs⟩
abbrev bdL (q:BdQ):List Value:=[.slice q.f.1 q.f.2.1 q.f.2.2,.slice q.b.1 q.b.2.1 q.b.2.2]
structure BdAt (w:World) (q:BdQ):Prop where
  f:Sl z7b w (slv q.f) q.fs
  fi:IqAt w q.fs
  b:Sl z7b w (slv q.b) q.bs
  bi:IqAt w q.bs
theorem BdAt.ext {w w':World}{q:BdQ}(h:BdAt w q)(hf:Fr [] w w'):BdAt w' q:=⟨h.f.ext hf,h.fi.ext hf,h.b.ext hf,h.bi.ext hf⟩
theorem BdAt.len {w:World}{q:BdQ}(h:BdAt w q):q.f.2.1=q.fs.length/\q.b.2.1=q.bs.length:=⟨z1z h.f,z1z h.b⟩
def RwO (S I base:Nat)(w:World)(v:Value)(l:List IQ):Prop:=Lw.Own z7b S base w v l/\∀q∈l,Lw.Own z1f I base w (slv q.1) q.2
theorem RwO.ext {S I base:Nat}{w w':World}{v:Value}{l:List IQ}(h:RwO S I base w v l)(hf:Fr [] w w'):RwO S I base w' v l:=⟨h.1.ext hf,λq D=>(h.2 q D).ext hf⟩
theorem RwO.low {S I base b:Nat}{w:World}{v:Value}{l:List IQ}(h:RwO S I base w v l)(hb:b<=base):RwO S I b w v l:=⟨h.1.low hb,λq D=>(h.2 q D).low hb⟩
theorem RwO.at {S I base:Nat}{w:World}{v:Value}{l:List IQ}(h:RwO S I base w v l):IqAt w l:=λq D=>(h.2 q D).sl
theorem RwO.fr {S I base:Nat}{w w':World}{v:Value}{l:List IQ}{T:List Nat}(h:RwO S I base w v l)(hf:Fr T w w')(M:∀k∈T,k<base):RwO S I base w' v l:=
 ⟨h.1.fr hf λk J D=>by have:=M k J;have:=(h.1.blk k D).1;omega,λq O=>(h.2 q O).fr hf λk J D=>by have:=M k J;have:=((h.2 q O).blk k D).1;omega⟩
structure BdO (S I base:Nat) (w:World) (q:BdQ):Prop where
  f:RwO S I base w (slv q.f) q.fs
  b:RwO S I base w (slv q.b) q.bs
theorem BdO.ext {S I base:Nat}{w w':World}{q:BdQ}(h:BdO S I base w q)(hf:Fr [] w w'):BdO S I base w' q:=⟨h.f.ext hf,h.b.ext hf⟩
theorem BdO.low {S I base b:Nat}{w:World}{q:BdQ}(h:BdO S I base w q)(hb:b<=base):BdO S I b w q:=⟨h.f.low hb,h.b.low hb⟩
theorem BdO.at {S I base:Nat}{w:World}{q:BdQ}(h:BdO S I base w q):BdAt w q:=⟨h.f.1.sl,h.f.at,h.b.1.sl,h.b.at⟩
theorem z4g (l:List IQ)(i:Nat):(plB l).getD i []=(l.getD i iq0).2:=by
 unfold plB;rw[List.getD,List.getD,List.getElem?_map];cases l[i]?<;>rfl
theorem v0y {l:List IQ}{i:Nat}(h:l.length<=i):(l.getD i iq0).2=[]:=by rw[List.getD,List.getElem?_eq_none h];rfl
theorem v4b (l:List IQ)(n M:Nat)(hM:M=max l.length n):plB (l++List.replicate (M-l.length) iq0)=x4r (plB l) n:=by
 unfold x4r plB;rw[List.map_append,List.map_replicate,List.length_map];congr 2;omega
theorem u6h (w:World):Sl z1f w (slv iq0.1) iq0.2:=Sl.nil w
theorem x9r {w:World}{l:List IQ}{k:Nat}(h:IqAt w l):IqAt w (l++List.replicate k iq0):=λq D=>by
 rcases List.mem_append.1 D with D|D
 ·exact h q D
 rw[List.eq_of_mem_replicate D];exact u6h w
theorem u1v {w:World}{l:List IQ}{i:Nat}{q:IQ}(h:IqAt w l)(I:Sl z1f w (slv q.1) q.2):IqAt w (l.set i q):=λp D=>by
 rcases List.mem_or_eq_of_mem_set D with D|rfl
 ·exact h p D
 exact I
def y0b (l:List IQ):Prop:=∀q∈l,q.2.length<=4
theorem x7m {l:List IQ}{k:Nat}(h:y0b l):y0b (l++List.replicate k iq0):=λq D=>by
 rcases List.mem_append.1 D with D|D
 ·exact h q D
 rw[List.eq_of_mem_replicate D];exact Nat.zero_le _
theorem u2r {l:List IQ}{i:Nat}{q:IQ}(h:y0b l)(I:q.2.length<=4):y0b (l.set i q):=λp D=>by
 rcases List.mem_or_eq_of_mem_set D with D|rfl
 ·exact h p D
 exact I
theorem z3o {l:List IQ}(h:y0b l)(i:Nat):(l.getD i iq0).2.length<=4:=by
 by_cases e:i<l.length;exact h _ (z0z e);rw[v0y oo];simp
theorem z2f {w:World}{l:List IQ}(h:IqAt w l)(i:Nat):Sl z1f w (slv (l.getD i iq0).1) (l.getD i iq0).2:=by
 by_cases e:i<l.length;exact h _ (z0z e);rw[List.getD,List.getElem?_eq_none oo];exact u6h w
theorem j0n {l m:List IQ}(h:y0b l)(e:plB m=plB l):y0b m:=λq J=>by
 have:q.2∈plB l:=by rw[<-e];exact List.mem_map_of_mem J
 obtain⟨M,D,I⟩:=List.mem_map.1 this
 rw[<-I];exact h M D
theorem u9r {l:List IQ}{i:Nat}{q:IQ}(h:q.2=(l.getD i iq0).2):plB (l.set i q)=plB l:=by
 unfold plB;rw[List.map_set];apply List.ext_getElem?;intro j;rw[List.getElem?_set];split;rename_i e;subst e;split;rename_i D;rw[List.length_map]at D;rw[List.getElem?_map,List.getElem?_eq_getElem D,h,List.getD,List.getElem?_eq_getElem D];rfl;rename_i D;rw[List.getElem?_eq_none oo];rfl
def BdQ.sv (q:BdQ)(b:Int):SV:=if b=1 then q.b else q.f
def BdQ.l (q:BdQ)(b:Int):List IQ:=if b=1 then q.bs else q.fs
theorem BdAt.sel {w:World}{q:BdQ}(h:BdAt w q)(b:Int):Sl z7b w (slv (q.sv b)) (q.l b)/\IqAt w (q.l b):=by
 unfold BdQ.sv BdQ.l;split;exact⟨h.b,h.bi⟩;exact⟨h.f,h.fi⟩
theorem BdQ.at_l (q:BdQ){b p:Int}(hn:z2v b p=0):((q.l b).getD (p-1).toNat iq0).2=q.p.at b p:=by
 obtain⟨D,_,_⟩:=z2o hn;unfold BdQ.l Bd.at atB;split;rw[if_neg oo,z4g];rw[if_pos oo,z4g]
theorem u7n (l:Bed):y7n l 0 []=trimB l:=by unfold y7n;rw[if_pos U]
theorem k1t (B:Bd){b:Int}(n:Nat)(s:List LId)(h:b=0):(⟨y7n B.f n s,y7n B.b 0 []⟩:Bd)=B.put b (n:Int) s:=by
 unfold Bd.put;rw[if_pos h,u7n,Int.toNat_natCast]
theorem k3r (B:Bd){b:Int}(n:Nat)(s:List LId)(h:¬b=0):(⟨y7n B.f 0 [],y7n B.b n s⟩:Bd)=B.put b (n:Int) s:=by
 unfold Bd.put;rw[if_neg h,u7n,Int.toNat_natCast]
def PreO (I base:Nat)(w:World)(l:List IQ)(i:Nat):Prop:=∀j,j<i->Lw.Own z1f I base w (slv (l.getD j iq0).1) (l.getD j iq0).2
theorem PreO.zero {I base:Nat}{w:World}{l:List IQ}:PreO I base w l 0:=λj D=>absurd D oo
theorem PreO.ext {I base i:Nat}{w w':World}{l:List IQ}(h:PreO I base w l i)(hf:Fr [] w w'):PreO I base w' l i:=λj D=>(h j D).ext hf
theorem PreO.fr {I base i:Nat}{w w':World}{l:List IQ}{S:List Nat}(h:PreO I base w l i)(hf:Fr S w w')(J:∀k∈S,k<base):PreO I base w' l i:=λj D=>(h j D).fr hf λk O M=>by
 have:=J k O;have:=((h j D).blk k M).1;omega
theorem PreO.put {I base i:Nat}{w:World}{l:List IQ}{q:IQ}(h:PreO I base w l i)(D:i<l.length)(J:Lw.Own z1f I base w (slv q.1) q.2):PreO I base w (l.set i q) (i+1):=λj M=>by
 rw[z1j D]
 split
 ·exact J
 exact h j oo
theorem PreO.all {I base b:Nat}{w:World}{l:List IQ}(h:PreO I base w l l.length)(hb:b<=base):∀q∈l,Lw.Own z1f I b w (slv q.1) q.2:=λq J=>by
 obtain⟨j,D,rfl⟩:=List.getElem_of_mem J
 have:=h j D
 rw[List.getD,List.getElem?_eq_getElem D]at this
 exact this.low hb
theorem v3k {w:World}{l m:List IQ}{n:Nat}(e:m=l.take n)(h:IqAt w l):IqAt w m:=λq D=>h q (List.mem_of_mem_take (e▸D))
theorem u2o {l m:List IQ}{i:Nat}{q:IQ}(h:∀j,i<=j->l.getD j iq0=m.getD j iq0)(D:i<l.length):∀j,i+1<=j->(l.set i q).getD j iq0=m.getD j iq0:=λj I=>by
 rw[z1j D,if_neg oo];exact h j oo
theorem j2w {rs M qs:List IQ}{m n:Nat}{s:List LId}(D:M=rs.take m)(I:(plB rs).take m=trimB (plB rs))(J:plB rs=if n=0 then plB qs else (x4r (plB qs) n).set (n-1) s):plB M=y7n (plB qs) n s:=by
 rw[D];unfold plB at *
 rw[List.map_take,I,J];rfl
theorem u5n {qs:List IQ}{n M:Nat}{s:List LId}(hn:n=0)(hM:M=max qs.length n):plB (qs++List.replicate (M-qs.length) iq0)=(if n=0 then plB qs else (x4r (plB qs) n).set (n-1) s):=by
 subst hn;rw[if_pos U,v4b qs 0 M hM];unfold x4r;simp
theorem j0g {qs:List IQ}{n M:Nat}{q:IQ}(hn:0<n)(hM:M=max qs.length n):plB ((qs++List.replicate (M-qs.length) iq0).set (n-1) q)=(if n=0 then plB qs else (x4r (plB qs) n).set (n-1) q.2):=by
 rw[if_neg oo,<-v4b qs n M hM];exact List.map_set
end Go.G08
namespace Go.Lw
open Go.RowKit
structure KeyLaw {κ:Type} [DecidableEq κ] (P:Program) (K:TypeId) (V:κ->Value):Prop where
  check:∀b k (w:World),(Instr.checkKey b 10000 K (V k)).run P w=.ok () w
  find:∀k (es:List MapEntry) (ks:List κ) (w:World),es.map (·.key)=ks.map V->
    (Instr.findKey K (V k) es).run P w=.ok ((ks.findIdx? (λx=>decide (k=x))).bind λi=>(es[i]?).map λe=>(i,e.val)) w
  bits:∀k,Instr.sameBits 10000 (V k) (V k)=true
def z1h {κ:Type}[DecidableEq κ]:List (κ×Value)->κ->Option Value
  | [],_=>none
  | p::r,k=>if k=p.1 then some p.2 else z1h r k
def MapF {κ:Type}[DecidableEq κ](V:κ->Value)(w:World)(g:Nat)(f:κ->Option Value):Prop:=
  ∃(es:Array MapEntry) (c:Nat) (m:List (κ×Value)),w.heap[g]?=some (.map es c)/\es.toList.map (λe=>(e.key,e.val))=m.map (λp=>(V p.1,p.2))/\∀k,z1h m k=f k
section
variable {κ:Type} [DecidableEq κ] {V:κ->Value} {P:Program} {K:TypeId}
theorem y2a (I:∀k k' (w:World),(Op.equal K (V k) (V k')).run P w=.ok (decide (k=k')) w)(k:κ):∀(D:List MapEntry) (ks:List κ) (i:Nat) (w:World),D.map (·.key)=ks.map V->
    (Instr.findAsking K (V k) D i).run P w=.ok ((ks.findIdx? (λx=>decide (k=x))).bind λj=>(D[j]?).map λe=>(i+j,e.val)) w
  | [],[],i,w,_=>by simp[Instr.findAsking]
  | [],_::_,_,_,h=>by simp at h
  | _::_,[],_,_,h=>by simp at h
  | e::D,x::ks,i,w,h=>by
    simp only[List.map_cons,List.cons.injEq]at h
    have J:=y2a I k D ks (i+1) w h.2
    simp only[Instr.findAsking,h.1,Sem.run_bind,I k x w,Result.andThen_ok]
    by_cases hx:k=x
    · simp[hx,List.findIdx?_cons]
    · simp only[hx,decide_false,Bool.false_eq_true,if_false,J,List.findIdx?_cons,Option.bind_map]
      congr 1
      cases hf:ks.findIdx? (λx=>decide (k=x)) with
      | none=>simp
      | some j=>simp[Nat.add_assoc,Nat.add_comm 1 j]
theorem KeyLaw.asking {d:TypeDesc}(J:P.underlying K=some d)(Z:∀k k',Instr.sameNow d (V k) (V k')=none)(M:∀b k (w:World),(Instr.checkKey b 10000 K (V k)).run P w=.ok () w)
    (heq:∀k k' (w:World),(Op.equal K (V k) (V k')).run P w=.ok (decide (k=k')) w) (hb:∀k,Instr.sameBits 10000 (V k) (V k)=true):KeyLaw P K V:=by
  refine⟨M,λk I D w h=>?_,hb⟩
  cases I with
  | nil=>
    cases D with
    | nil=>simp[Instr.findKey,run_underlying J,Instr.findNow]
    | cons x D=>simp at h
  | cons e I=>
    cases D with
    | nil=>simp at h
    | cons x D=>
      have O:Instr.findNow d (V k) (e::I) 0=none:=by
        simp only[List.map_cons,List.cons.injEq]at h
        simp[Instr.findNow,h.1,Z]
      have:=y2a heq k (e::I) (x::D) 0 w h
      simp only[Instr.findKey,Sem.run_bind,run_underlying J,Result.andThen_ok,O,this,Nat.zero_add]
theorem y7k {d:TypeDesc}(I:∀k k',Instr.sameNow d (V k) (V k')=some (decide (k=k')))(k:κ):∀(D:List MapEntry) (ks:List κ) (i:Nat),D.map (·.key)=ks.map V->
    Instr.findNow d (V k) D i=some ((ks.findIdx? (λx=>decide (k=x))).bind λj=>(D[j]?).map λe=>(i+j,e.val))
  | [],[],i,_=>by simp[Instr.findNow]
  | [],_::_,_,h=>by simp at h
  | _::_,[],_,h=>by simp at h
  | e::D,x::ks,i,h=>by
    simp only[List.map_cons,List.cons.injEq]at h
    have J:=y7k I k D ks (i+1) h.2
    simp only[Instr.findNow,h.1,I]
    by_cases hx:k=x
    · simp[hx,List.findIdx?_cons]
    · simp only[hx,decide_false,J,List.findIdx?_cons,Bool.false_eq_true,if_false,Option.bind_map]
      congr 2
      funext j;simp[Nat.add_assoc,Nat.add_comm 1 j]
theorem KeyLaw.now {d:TypeDesc}(M:P.underlying K=some d)(J:∀k k',Instr.sameNow d (V k) (V k')=some (decide (k=k')))(I:∀b k (w:World),(Instr.checkKey b 10000 K (V k)).run P w=.ok () w)
    (hb:∀k,Instr.sameBits 10000 (V k) (V k)=true):KeyLaw P K V:=by
  refine⟨I,λk D O w h=>?_,hb⟩
  have:=y7k J k D O 0 h
  simp only[Instr.findKey,Sem.run_bind,run_underlying M,Result.andThen_ok,this,Nat.zero_add,Sem.run_pure]
theorem z9r (m:List (κ×Value))(k:κ):∀(D:List MapEntry),D.map (λe=>(e.key,e.val))=m.map (λp=>(V p.1,p.2))->
    (((m.map (·.1)).findIdx? (λx=>decide (k=x))).bind λi=>(D[i]?).map λe=>(i,e.val)).map (·.2)=z1h m k:=by
  induction m with
  | nil=>intro D h;simp[z1h]
  | cons p m ih=>
    intro D h
    match D,h with
    | e::D,h=>
      simp only[List.map_cons,List.cons.injEq,Prod.mk.injEq]at h
      have:=ih D h.2
      unfold z1h
      by_cases hk:k=p.1
      · simp[hk,List.findIdx?_cons,h.1.2]
      · simp only[List.map_cons,List.findIdx?_cons,hk,decide_false,if_false,Bool.false_eq_true]
        rw[<-this]
        cases (m.map (·.1)).findIdx? (λx=>decide (k=x)) with
        | none=>simp
        | some j=>
          simp
          rfl
def z1u (m:List (κ×Value))(k:κ)(v:Value):List (κ×Value):=
  match (m.map (·.1)).findIdx? (λx=>decide (k=x)) with
  | some i=>m.modify i λp=>(p.1,v)
  | none=>m++[(k,v)]
theorem z9c (m:List (κ×Value))(k k':κ)(v:Value):(m.map (·.1)).findIdx? (λx=>decide (k=x))=none->z1h (m++[(k,v)]) k'=if k'=k then some v else z1h m k':=by
 induction m with
 | nil=>intro _;simp[z1h]
 | cons p m ih=>
  intro h;simp only[List.map_cons,List.findIdx?_cons]at h;split at h;cases h;rename_i I;have D:¬k=p.1:=by simpa using I
  have:=ih (by simpa using h);simp only[List.cons_append,z1h,this];by_cases e:k'=p.1;subst e;simp[Ne.symm D];simp[e]
theorem z8r (k k':κ)(v:Value):∀(m:List (κ×Value)) (i:Nat),(m.map (·.1)).findIdx? (λx=>decide (k=x))=some i->z1h (m.modify i λp=>(p.1,v)) k'=if k'=k then some v else z1h m k'
 | [],i,h=>by simp at h
 | p::m,i,h=>by
  simp only[List.map_cons,List.findIdx?_cons]at h
  split at h
  ·rename_i I
   have D:k=p.1:=by simpa using I
   simp at h;subst h
   simp only[List.modify_zero_cons,z1h,D]
   by_cases e:k'=p.1<;>simp[e]
  rename_i I
  have D:¬k=p.1:=by simpa using I
  cases hf:(m.map (·.1)).findIdx? (λx=>decide (k=x)) with
  | none=>rw[hf]at h;simp at h
  | some j=>
   rw[hf]at h;simp at h;subst h
   have:=z8r k k' v m j hf
   simp only[List.modify_succ_cons,z1h,this]
   by_cases e:k'=p.1
   ·subst e;simp[Ne.symm D]
   simp[e]
theorem MapF.fr {w w':World}{g:Nat}{f:κ->Option Value}{S:List Nat}(h:MapF V w g f)(hf:Fr S w w')(hn:g∉S:=by simp[z0u]<;>omega):MapF V w' g f:=by
 obtain⟨I,c,m,D,J,M⟩:=h;exact⟨I,c,m,(hf.block g (Array.getElem?_eq_some_iff.1 D).1 hn).trans D,J,M⟩
theorem MapF.ext {w w':World}{g:Nat}{f:κ->Option Value}(h:MapF V w g f)(hf:Fr [] w w'):MapF V w' g f:=h.fr hf sp0
theorem MapF.lt {w:World}{g:Nat}{f:κ->Option Value}(h:MapF V w g f):g<w.heap.size:=let ⟨_,_,_,h1,_⟩:=h;(Array.getElem?_eq_some_iff.1 h1).1
theorem MapF.ne_blk {w:World}{g D T:Nat}{f:κ->Option Value}{cs:List Value}(h:MapF V w g f)(I:Blk w D T cs):g≠D:=by
 rintro rfl;obtain⟨_,_,_,J,_⟩:=h;unfold Blk at I;rw[I]at J;cases J
theorem z2g {w:World}{g:Nat}{D:Array MapEntry}{c:Nat}(h:w.heap[g]?=some (.map D c)):(getObj g).run P w=.ok (.map D c) w:=by
 simp[getObj,Sem.run,h]
theorem y3k {w:World}{g:Nat}{f:κ->Option Value}{t E:TypeId}{z:Value}(h:MapF V w g f)(O:KeyLaw P K V)(hu:P.underlying t=some (.map K E))(hz:(zeroValue E).run P w=.ok z w)(k:κ) :
    (Instr.lookup t (.map (some g)) (V k) false).run P w=.ok ((f k).getD z) w:=by
  obtain⟨M,c,m,Z,h2,h3⟩:=h
  have J:M.toList.map (·.key)=(m.map (·.1)).map V:=by
    have:=congrArg (List.map Prod.fst) h2
    simpa[List.map_map,Function.comp_def] using this
  have I:=O.find k M.toList (m.map (·.1)) w J
  have D:=z9r (V:=V) m k M.toList h2
  rw[h3]at D
  generalize ((m.map (·.1)).findIdx? (λx=>decide (k=x))).bind (λi=>(M.toList[i]?).map λe=>(i,e.val))=r at I D
  cases r with
  | none=>simp at D;simp[Instr.lookup,run_underlying hu,z2g Z,O.check,I,hz,<-D]
  | some p=>simp at D;simp[Instr.lookup,run_underlying hu,z2g Z,O.check,I,<-D]
theorem y6t {w:World}{g:Nat}{f:κ->Option Value}{t E:TypeId}{z:Value}(h:MapF V w g f)(O:KeyLaw P K V)(hu:P.underlying t=some (.map K E))(hz:(zeroValue E).run P w=.ok z w)(k:κ) :
    (Instr.lookup t (.map (some g)) (V k) true).run P w=.ok (.tuple #[(f k).getD z,.bool (f k).isSome]) w:=by
  obtain⟨M,c,m,Z,h2,h3⟩:=h
  have J:M.toList.map (·.key)=(m.map (·.1)).map V:=by
    have:=congrArg (List.map Prod.fst) h2
    simpa[List.map_map,Function.comp_def] using this
  have I:=O.find k M.toList (m.map (·.1)) w J
  have D:=z9r (V:=V) m k M.toList h2
  rw[h3]at D
  generalize ((m.map (·.1)).findIdx? (λx=>decide (k=x))).bind (λi=>(M.toList[i]?).map λe=>(i,e.val))=r at I D
  cases r with
  | none=>simp at D;simp[Instr.lookup,run_underlying hu,z2g Z,O.check,I,hz,<-D]
  | some p=>simp at D;simp[Instr.lookup,run_underlying hu,z2g Z,O.check,I,<-D]
theorem y1r {w:World}{g:Nat}{f:κ->Option Value}{t E:TypeId}(h:MapF V w g f)(hk:KeyLaw P K V)(hu:P.underlying t=some (.map K E))(k:κ)(v:Value) :
    ∃w',(Instr.mapUpdate t (.map (some g)) (V k) v).run P w=.ok () w'/\MapF V w' g (λk'=>if k'=k then some v else f k')/\Fr [g] w w'/\w'.heap.size=w.heap.size:=by
  obtain⟨D,c,m,h1,h2,h3⟩:=h
  have a5:=(Array.getElem?_eq_some_iff.1 h1).1
  have M:D.toList.map (·.key)=(m.map (·.1)).map V:=by
    have:=congrArg (List.map Prod.fst) h2
    simpa[List.map_map,Function.comp_def] using this
  have I:=hk.find k D.toList (m.map (·.1)) w M
  have Z:∀o,(setObj g o).run P w=.ok () { w with heap:=w.heap.setIfInBounds g o }:=by intro o;simp[setObj,Sem.run,h1]
  have a2:∀o,Fr [g] w { w with heap:=w.heap.setIfInBounds g o }:=λo=>⟨rfl,rfl,rfl,sp0,λi _ hn=>by
    simp only
    rw[Array.getElem?_setIfInBounds_ne (by intro e;subst e;simp at hn)]⟩
  have J:∀o,({ w with heap:=w.heap.setIfInBounds g o }:World).heap[g]?=some o:=by intro o;simp[a5]
  have a7:D.toList.length=m.length:=by have:=congrArg List.length h2;simpa using this
  cases hf:(m.map (·.1)).findIdx? (λx=>decide (k=x)) with
  | none=>
    refine⟨_,?_,⟨_,_,m++[(k,v)],J (.map (D.push { key:=V k,val:=v,born:=c }) (c+1)),?_,λk'=>?_⟩,a2 _,sp0⟩
    · rw[hf]at I
      simp only[Instr.mapUpdate,Sem.run_bind,run_underlying hu,Result.andThen_ok,z2g h1,hk.check,I,Option.bind_none,Z]
    · simp[h2]
    · rw[z9c m k k' v hf,h3]
  | some i=>
    have hi:i<m.length:=by
      have:=List.findIdx?_eq_some_iff_findIdx_eq.1 hf
      simpa using this.1
    have O:i<D.toList.length:=by omega
    have a3:V k=(D.toList[i]).key:=by
      have a4:=List.findIdx?_eq_some_iff_getElem.1 hf
      obtain⟨a8,hp,_⟩:=a4
      have a6:k=(m.map (·.1))[i]:=by simpa using hp
      have e1:(D.toList.map (·.key))[i]?=((m.map (·.1)).map V)[i]?:=by rw[M]
      simp only[List.getElem?_map,List.getElem?_eq_getElem O,List.getElem?_eq_getElem hi,Option.map_some,Option.some.injEq]at e1
      rw[e1,a6];simp
    refine⟨_,?_,⟨_,_,m.modify i λp=>(p.1,v),J (.map (D.modify i λe=>{ e with key:=V k,val:=v }) c),?_,λk'=>?_⟩,a2 _,sp0⟩
    · rw[hf]at I
      have a0:D[i]?=some D.toList[i]:=by rw[<-Array.getElem?_toList,List.getElem?_eq_getElem O]
      simp only[Option.bind_some,List.getElem?_eq_getElem O,Option.map_some]at I
      have a1:(Instr.keyThatStays (((D[i]?).map (·.key)).getD (V k)) (V k)).run P w=.ok (V k) w:=by
        rw[a0]
        simp only[Option.map_some,Option.getD_some,<-a3,Instr.keyThatStays,hk.bits,if_true,Sem.run_pure]
      simp only[Instr.mapUpdate,Sem.run_bind,run_underlying hu,Result.andThen_ok,z2g h1,hk.check,I,a1,Z]
    · apply List.ext_getElem?
      intro j
      have e2:=congrArg (·[j]?) h2
      simp only[List.getElem?_map]at e2 ⊢
      rw[Array.getElem?_toList,Array.getElem?_modify,List.getElem?_modify]
      rw[Array.getElem?_toList]at e2
      by_cases hj:i=j
      · subst hj
        have e3:=List.getElem?_eq_getElem hi
        have a0:D[i]?=some D.toList[i]:=by rw[<-Array.getElem?_toList,List.getElem?_eq_getElem O]
        rw[a0,e3]at e2 ⊢
        simp only[Option.map_some,Option.some.injEq,Prod.mk.injEq]at e2
        simp only[if_true,Option.map_some]
        rw[a3,e2.1];rfl
      · simp only[hj,if_false]
        rw[e2];simp
    · rw[z8r k k' v m i hf,h3]
variable {a:Act} {n:Nat} {L:List (Nat×Value)} {ds:List Nat} {w w':World} {Q:Exit->Act->World->Prop} {C:World->Prop} {Qa:Act->Prop} {ops:Array Oper} {rest:List Oper}
variable {d:Nat} {ty:TypeId} {pos:String} {after:Array Edge} {x y z:Operand} {t E:TypeId} {g:Nat} {f:κ->Option Value} {k:κ} {v zv:Value}
theorem v2y (V:κ->Value)(h:AgM ds a n L)(hn:Nat.blt d n=true)
    (q:∀g w',g=w.heap.size->MapF V w' g (λ_=>none)->Fr [] w w'->w'.heap.size=g+1->∀a,AgM ds a n ((d,.map (some g))::L)->wpList P ops Q rest a w'):wpList P ops Q (⟨some d,.makeMap t none,ty,pos,after,none⟩::rest) a w:=
  z2a h U hn (w':=w.alloc (.map #[] 0)) (by simp[execOp,Instr.makeMap]) (q _ _ U ⟨_,_,[],heap_alloc_new w _,sp0,λ_=>rfl⟩ (Fr.alloc [] w _) sp0)
theorem z8y (V:κ->Value)(hn:Nat.blt d n=true)(q:∀g w',g=w.heap.size->MapF V w' g (λ_=>none)->Fr [] w w'->w'.heap.size=g+1->WL P ops Q rest n ds w' ((d,.map (some g))::L)):WL P ops Q (⟨some d,.makeMap t none,ty,pos,after,none⟩::rest) n ds w L:=λa h=>v2y V h hn q
theorem v5u (h:AgM ds a n L)(M:ev L x=some (.map (some g)))(O:ev L y=some (V k))(I:MapF V w g f)(D:KeyLaw P K V)(J:P.underlying t=some (.map K E))(Z:∀w:World,(zeroValue E).run P w=.ok zv w) :
    (execOp a.eval ⟨some d,.lookup t x y false,ty,pos,after,none⟩).run P w=.ok (.value ((f k).getD zv)) w:=by
  simp[execOp,h.eval M,h.eval O,y3k I D J (Z w) k]
theorem z6j (h:AgM ds a n L)(O:ev L x=some (.map (some g)))(Z:ev L y=some (V k))(I:MapF V w g f)(D:KeyLaw P K V)(J:P.underlying t=some (.map K E))(hz:∀w:World,(zeroValue E).run P w=.ok zv w)(M:(f k).getD zv=v)(hn:Nat.blt d n=true)
    (q:∀a,AgM ds a n ((d,v)::L)->wpList P ops Q rest a w):wpList P ops Q (⟨some d,.lookup t x y false,ty,pos,after,none⟩::rest) a w:=
  z2a h U hn (by rw[<-M];exact v5u h O Z I D J hz) q
theorem y4r (O:ev L x=some (.map (some g)))(Z:ev L y=some (V k))(I:MapF V w g f)(D:KeyLaw P K V)(J:P.underlying t=some (.map K E))(hz:∀w:World,(zeroValue E).run P w=.ok zv w)(M:(f k).getD zv=v)(hn:Nat.blt d n=true)(q:WL P ops Q rest n ds w ((d,v)::L)):WL P ops Q (⟨some d,.lookup t x y false,ty,pos,after,none⟩::rest) n ds w L:=λa h=>z6j h O Z I D J hz M hn q
theorem v2m (h:AgM ds a n L)(M:ev L x=some (.map (some g)))(O:ev L y=some (V k))(I:MapF V w g f)(D:KeyLaw P K V)(J:P.underlying t=some (.map K E))(Z:∀w:World,(zeroValue E).run P w=.ok zv w) :
    (execOp a.eval ⟨some d,.lookup t x y true,ty,pos,after,none⟩).run P w=.ok (.value (.tuple #[(f k).getD zv,.bool (f k).isSome])) w:=by
  simp[execOp,h.eval M,h.eval O,y6t I D J (Z w) k]
theorem y3g {bo:Bool}(h:AgM ds a n L)(O:ev L x=some (.map (some g)))(Z:ev L y=some (V k))(I:MapF V w g f)(D:KeyLaw P K V)(J:P.underlying t=some (.map K E))(hz:∀w:World,(zeroValue E).run P w=.ok zv w)(M:(f k).getD zv=v)(hb:(f k).isSome=bo)(hn:Nat.blt d n=true)
    (q:∀a,AgM ds a n ((d,.tuple #[v,.bool bo])::L)->wpList P ops Q rest a w):wpList P ops Q (⟨some d,.lookup t x y true,ty,pos,after,none⟩::rest) a w:=
  z2a h U hn (by rw[<-M,<-hb];exact v2m h O Z I D J hz) q
theorem v6s (h:AgM ds a n L)(hx:ev L x=some (.map (some g)))(hy:ev L y=some (V k))(hz:ev L z=some v)(O:MapF V w g f)(M:KeyLaw P K V)(hu:P.underlying t=some (.map K E))
    (q:∀w',MapF V w' g (λk'=>if k'=k then some v else f k')->Fr [g] w w'->w'.heap.size=w.heap.size->∀a,AgM ds a n L->wpList P ops Q rest a w'):wpList P ops Q (⟨none,.insert t x y z,ty,pos,after,none⟩::rest) a w:=by
  obtain⟨w',Z,D,I,J⟩:=y1r O M hu k v
  exact z8h h U U (w':=w') (by simp[execOp,h.eval hx,h.eval hy,h.eval hz,Z]) (q w' D I J)
theorem z3c (H0:(ev L x,ev L y,ev L z)=(some (.map (some g)),some (V k),some v))(I:MapF V w g f)(D:KeyLaw P K V)(J:P.underlying t=some (.map K E))(q:∀w',MapF V w' g (λk'=>if k'=k then some v else f k')->Fr [g] w w'->w'.heap.size=w.heap.size->WL P ops Q rest n ds w' L):WL P ops Q (⟨none,.insert t x y z,ty,pos,after,none⟩::rest) n ds w L:=let⟨M,O,Z⟩:=qi3 H0;λa h=>v6s h M O Z I D J q
theorem x3r (h:AgM ds a n L)(hx:ev L x=some (.map (some g)))(hy:ev L y=some (V k))(hz:ev L z=some v)(O:MapF V w g f)(M:KeyLaw P K V)(hu:P.underlying t=some (.map K E))
    (q:∀w',MapF V w' g (λk'=>if k'=k then some v else f k')->Fr [g] w w'->w'.heap.size=w.heap.size->∀a,AgM ds a n L->wpList P ops Q rest a w'):wpList P ops Q (⟨none,.mapUpdate t x y z,ty,pos,after,none⟩::rest) a w:=by
  obtain⟨w',Z,D,I,J⟩:=y1r O M hu k v
  exact z8h h U U (w':=w') (by simp[execOp,h.eval hx,h.eval hy,h.eval hz,Z]) (q w' D I J)
theorem y4s (M:ev L x=some (.map (some g)))(O:ev L y=some (V k))(Z:ev L z=some v)(I:MapF V w g f)(D:KeyLaw P K V)(J:P.underlying t=some (.map K E))(q:∀w',MapF V w' g (λk'=>if k'=k then some v else f k')->Fr [g] w w'->w'.heap.size=w.heap.size->WL P ops Q rest n ds w' L):WL P ops Q (⟨none,.mapUpdate t x y z,ty,pos,after,none⟩::rest) n ds w L:=λa h=>x3r h M O Z I D J q
end
end Go.Lw
namespace Go.Lw
open Go.RowKit
section
variable {P:Program} {n:Nat} {L:List (Nat×Value)} {ds:List Nat} {w w':World} {Q:Exit->Act->World->Prop} {ops:Array Oper} {rest:List Oper} {a:Act} {d:Nat} {ty T t:TypeId} {pos:String} {after:Array Edge} {v:Value} {x y:Operand}
theorem j0x {α:Type}{E:Enc α}{O base g cap:Nat}{zs ys:List α}(h:AgM ds a n L)(hx:ev L x=some (.slice (some ⟨g,0,none⟩) zs.length cap))(hy:ev L y=some v)(ho:Own E T base w (.slice (some ⟨g,0,none⟩) zs.length cap) zs)(hs:Sl E w v ys)(hl:ys.length=zs.length)(he:ElemOf P t T E O)(hn:Nat.blt d n=true)
    (q:∀w',Own E T base w' (.slice (some ⟨g,0,none⟩) zs.length cap) ys->Fr [g] w w'->w'.heap.size=w.heap.size->∀a,AgM ds a n ((d,.int .i64 (zs.length:Int))::L)->wpList P ops Q rest a w'):wpList P ops Q (⟨some d,.call ⟨.builtin .copy,#[x,y],#[t,t]⟩,ty,pos,after,none⟩::rest) a w:=by
  obtain⟨i,z,h1,h2,h3,h4,h5⟩:=he.info
  obtain⟨A,c,rfl,hc,hM,hA⟩:=hs.flat
  rcases ho with ⟨e,_⟩|⟨g',a5,cur,e,hb,hg,r1,r2,r3,r4⟩
  · cases e
  cases e
  have a0:ys.length*E.sz<=cur.size:=by rw[hl];exact Nat.le_trans (Nat.mul_le_mul_right _ r1) r3
  obtain⟨cs,D⟩:∃cs,ys.flatMap E.enc=cs:=⟨_,rfl⟩
  have I:cs.length=zs.length*E.sz:=by rw[<-D,E.flat_len,hl]
  have M:=E.flat_one ys
  rw[D]at M hA
  have a1:=run_storeCells_at P g 0 T cs 0 cur w hg (by rw[I];rw[hl]at a0;simpa using a0) M
  simp only[Nat.zero_add,List.take_zero,List.nil_append]at a1
  have a4:(Builtin.copy_ #[t,t] ty #[.slice (some ⟨g,0,none⟩) zs.length cap,.slice A ys.length c]).run P w=.ok (.int .i64 (zs.length:Int)) (w.setRow g (cs++cur.toList.drop cs.length).toArray):=by
    have Z:(Builtin.firstCells E.sz zs.length (.slice A ys.length c)).run P w=.ok cs.toArray w:=by
      by_cases hys:ys=[]
      · have h0:zs.length=0:=by rw[<-hl,hys];rfl
        have a2:cs=[]:=by rw[<-D,hys];rfl
        rw[h0,a2]
        cases A with
        | none=>simp[Builtin.firstCells]
        | some ad=>simp[Builtin.firstCells,loadCells,loadCellsFrom]
      · obtain⟨ad,rfl,a3⟩:=hA hys
        have J:=run_loadCells_list (P:=P) w ad cs a3
        rw[I]at J
        simpa[Builtin.firstCells] using J
    rw[hl]at Z
    simp only[Builtin.copy_,List.getElem?_toArray,List.getElem?_cons_zero,List.getElem?_cons_succ,Sem.run_bind,run_underlying he.und,Result.andThen_ok,Builtin.lenOf,Sem.run_pure,hl,Nat.min_self,show ∀m:Nat,Nat.min m m=m from Nat.min_self,sizeOf,typeInfo]
    simp[h1,h3,Z,a1,goInt]
  refine z2a h U hn (w':=w.setRow g (cs++cur.toList.drop cs.length).toArray) ?_ (q _ (.inr ⟨g,cap,_,by rw[hl],hb,setRow_heap w g cur _ T (0,0) hg,by rw[hl];exact r1,r2,?_,?_⟩) (Fr.setRow w g _) sp0)
  · rw[z2i];unfold builtin
    simp only[List.map_toArray,List.map_cons,List.map_nil,h.eval hx,h.eval hy,Sem.run_bind,a4,Result.andThen_ok,Sem.run_pure]
  · simp only[List.size_toArray,List.length_append,List.length_drop,Array.length_toList];omega
  · rw[hl,<-I,D];simp
theorem z6n {α:Type}{E:Enc α}{D base g cap:Nat}{zs ys:List α}(M:ev L x=some (.slice (some ⟨g,0,none⟩) zs.length cap))(O:ev L y=some v)(ho:Own E T base w (.slice (some ⟨g,0,none⟩) zs.length cap) zs)(J:Sl E w v ys)(hl:ys.length=zs.length)(I:ElemOf P t T E D)(q:∀w',Own E T base w' (.slice (some ⟨g,0,none⟩) zs.length cap) ys->Fr [g] w w'->w'.heap.size=w.heap.size->WL P ops Q rest n ds w' ((d,.int .i64 (zs.length:Int))::L))(hn:Nat.blt d n=true:=by exact U):WL P ops Q (⟨some d,.call ⟨.builtin .copy,#[x,y],#[t,t]⟩,ty,pos,after,none⟩::rest) n ds w L:=λa h=>j0x h M O ho J hl I hn q
end
end Go.Lw
namespace Go.Lw
open Go.RowKit
section
variable {P:Program} {n:Nat} {L:List (Nat×Value)} {ds:List Nat} {w w':World} {Q:Exit->Act->World->Prop} {ops:Array Oper} {rest:List Oper} {a:Act} {d:Nat} {ty T t:TypeId} {pos:String} {after:Array Edge} {v:Value} {x y:Operand}
theorem u3f {α:Type}{E:Enc α}{a4 base g m cap p k:Nat}{zs ys:List α}(h:AgM ds a n L)(hx:ev L x=some (.slice (some ((⟨g,0,none⟩:Addr).add (p*E.sz))) (m-p) (cap-p)))(hy:ev L y=some v)(ho:Own E T base w (.slice (some ⟨g,0,none⟩) m cap) zs)(hs:Sl E w v ys)(hp:p<=m)(hk:k=min (m-p) ys.length)(he:ElemOf P t T E a4)(hn:Nat.blt d n=true)
    (q:∀w',Own E T base w' (.slice (some ⟨g,0,none⟩) m cap) (zs.take p++ys.take k++zs.drop (p+k))->Fr [g] w w'->w'.heap.size=w.heap.size->∀a,AgM ds a n ((d,.int .i64 (k:Int))::L)->wpList P ops Q rest a w'):wpList P ops Q (⟨some d,.call ⟨.builtin .copy,#[x,y],#[t,t]⟩,ty,pos,after,none⟩::rest) a w:=by
  obtain⟨i,z,h1,h2,h3,h4,h5⟩:=he.info
  rcases ho with ⟨e,_⟩|⟨g',d5,cur,e,hb,hg,r1,r2,r3,r4⟩
  · cases e
  cases e
  obtain⟨A0,c0,e0,_,b6,_⟩:=id hs
  subst e0
  have d1:k<=ys.length:=by omega
  have d4:=hs.take U (m:=k) d1 (B:=A0) (c':=c0) oo b6 (λ_=>rfl)
  obtain⟨A,c,e2,hc,hM,hA⟩:=d4.flat
  have a1:(ys.take k).length=k:=by rw[List.length_take];omega
  rw[a1]at e2
  simp only[Value.slice.injEq]at e2
  obtain⟨rfl,-,rfl⟩:=e2
  obtain⟨cs,J⟩:∃cs,(ys.take k).flatMap E.enc=cs:=⟨_,rfl⟩
  have Z:cs.length=k*E.sz:=by rw[<-J,E.flat_len,a1]
  have a3:=E.flat_one (ys.take k)
  rw[J]at a3 hA
  have d3:p+k<=zs.length:=by omega
  have d6:p*E.sz+k*E.sz<=zs.length*E.sz:=by rw[<-Nat.add_mul];exact Nat.mul_le_mul_right _ d3
  have b9:zs.length*E.sz<=cur.size:=Nat.le_trans (Nat.mul_le_mul_right _ r1) r3
  have b3:=run_storeCells_at P g (p*E.sz) T cs 0 cur w hg (by rw[Z];omega) a3
  rw[Nat.add_zero,Z]at b3
  have d0:(Builtin.firstCells E.sz k (.slice A0 ys.length c0)).run P w=.ok cs.toArray w:=by
    by_cases hys:ys.take k=[]
    · have h0:k=0:=by have:=congrArg List.length hys;rw[a1]at this;simpa using this
      have b7:cs=[]:=by rw[<-J,hys];rfl
      rw[h0,b7]
      cases A0 with
      | none=>simp[Builtin.firstCells]
      | some ad=>simp[Builtin.firstCells,loadCells,loadCellsFrom]
    · obtain⟨ad,rfl,b8⟩:=hA hys
      have a0:=run_loadCells_list (P:=P) w ad cs b8
      rw[Z]at a0
      simpa[Builtin.firstCells] using a0
  have b5:(Builtin.copy_ #[t,t] ty #[.slice (some ((⟨g,0,none⟩:Addr).add (p*E.sz))) (zs.length-p) (cap-p),.slice A0 ys.length c0]).run P w=.ok (.int .i64 (k:Int)) (w.setRow g (cur.toList.take (p*E.sz)++cs++cur.toList.drop (p*E.sz+k*E.sz)).toArray):=by
    rw[z4q,Nat.zero_add]
    have a8:Nat.min (zs.length-p) ys.length=k:=hk.symm
    have a6:Nat.min ys.length (zs.length-p)=k:=(Nat.min_comm _ _).trans hk.symm
    simp only[Builtin.copy_,List.getElem?_toArray,List.getElem?_cons_zero,List.getElem?_cons_succ,Sem.run_bind,run_underlying he.und,Result.andThen_ok,Builtin.lenOf,Sem.run_pure,a8,sizeOf,typeInfo]
    simp[h1,h3,d0,b3,goInt,a6]
  obtain⟨D,O,I,rfl,b4,a7⟩:∃D O I,zs=D++(O++I)/\D.length=p/\O.length=k:=⟨zs.take p,(zs.drop p).take k,(zs.drop p).drop k,by rw[List.take_append_drop,List.take_append_drop],by rw[List.length_take];omega,by rw[List.length_take,List.length_drop];omega⟩
  have a9:(D++(O++I)).take p++ys.take k++(D++(O++I)).drop (p+k)=D++(ys.take k++I):=by
    rw[<-b4,List.take_left,<-a7,<-List.drop_drop,List.drop_left,List.drop_left,List.append_assoc]
  rw[a9]at q
  have a5:(D++(ys.take k++I)).length=(D++(O++I)).length:=by simp only[List.length_append,a1,a7]
  have a2:cur.toList=(D++(O++I)).flatMap E.enc++cur.toList.drop ((D++(O++I)).length*E.sz):=by
    rw[<-r4,List.take_append_drop]
  have c1:(D.flatMap E.enc).length=p*E.sz:=by rw[E.flat_len,b4]
  have c9:(O.flatMap E.enc).length=k*E.sz:=by rw[E.flat_len,a7]
  have b0:cur.toList.take (p*E.sz)++cs++cur.toList.drop (p*E.sz+k*E.sz)=(D++(ys.take k++I)).flatMap E.enc++cur.toList.drop ((D++(O++I)).length*E.sz):=by
    generalize cur.toList.drop ((D++(O++I)).length*E.sz)=R at a2 ⊢
    rw[a2]
    simp only[List.flatMap_append,List.append_assoc]
    rw[<-c1,List.take_left,<-c9,<-List.drop_drop,List.drop_left,List.drop_left,J]
  rw[b0]at b5
  refine z2a h U hn (w':=w.setRow g ((D++(ys.take k++I)).flatMap E.enc++cur.toList.drop ((D++(O++I)).length*E.sz)).toArray) ?_ (q _ (.inr ⟨g,cap,_,by rw[a5],hb,setRow_heap w g cur _ T (0,0) hg,by rw[a5];exact r1,r2,?_,?_⟩) (Fr.setRow w g _) sp0)
  · rw[z2i];unfold builtin
    simp only[List.map_toArray,List.map_cons,List.map_nil,h.eval hx,h.eval hy,Sem.run_bind,b5,Result.andThen_ok,Sem.run_pure]
  · have e1:((D++(ys.take k++I)).flatMap E.enc).length=(D++(O++I)).length*E.sz:=by rw[E.flat_len,a5]
    generalize (D++(ys.take k++I)).flatMap E.enc=X at e1
    generalize (D++(O++I)).length*E.sz=M at e1 b9
    simp only[List.size_toArray,List.length_append,List.length_drop,Array.length_toList]
    omega
  · show List.take _ _=_
    rw[show (D++(ys.take k++I)).length*E.sz=((D++(ys.take k++I)).flatMap E.enc).length by rw[E.flat_len]]
    exact List.take_left
theorem j1g {α:Type}{E:Enc α}{D base g m cap p k:Nat}{zs ys:List α}(O:ev L x=some (.slice (some ((⟨g,0,none⟩:Addr).add (p*E.sz))) (m-p) (cap-p)))(Z:ev L y=some v)(ho:Own E T base w (.slice (some ⟨g,0,none⟩) m cap) zs)(M:Sl E w v ys)(hp:p<=m)(J:k=min (m-p) ys.length)(I:ElemOf P t T E D)(hn:Nat.blt d n=true)
 (q:∀w',Own E T base w' (.slice (some ⟨g,0,none⟩) m cap) (zs.take p++ys.take k++zs.drop (p+k))->Fr [g] w w'->w'.heap.size=w.heap.size->WL P ops Q rest n ds w' ((d,.int .i64 (k:Int))::L)):WL P ops Q (⟨some d,.call ⟨.builtin .copy,#[x,y],#[t,t]⟩,ty,pos,after,none⟩::rest) n ds w L:=λa h=>u3f h O Z ho M hp J I hn q
end
end Go.Lw
namespace Go.Lw
open Go.RowKit
theorem v8m {α:Type}{E:Enc α}{ys:List α}{i f:Nat}{z y:α}{v:Value}(J:ys[i]?=some y)(hf:f<E.sz)(hz:(E.enc y).set f v=E.enc z)(rest:List Value) :
    (ys.flatMap E.enc++rest).set (i*E.sz+f) v=(ys.set i z).flatMap E.enc++rest:=by
  have D:=(List.getElem?_eq_some_iff.1 J).1
  have M:ys.set i y=ys:=by
    apply List.ext_getElem?
    intro k
    rw[List.getElem?_set]
    by_cases e:i=k
    · subst e;rw[if_pos U,if_pos D,J]
    · rw[if_neg e]
  have I:=z8k (E:=E) ys y rest i D
  have O:=z8k (E:=E) ys z rest i D
  rw[M]at I
  rw[<-O]
  conv=>lhs;rw[<-I]
  have Z:((ys.flatMap E.enc++rest).take (i*E.sz)).length=i*E.sz:=by
    rw[List.length_take,List.length_append,E.flat_len]
    have:i*E.sz+E.sz<=ys.length*E.sz:=by rw[<-Nat.succ_mul];exact Nat.mul_le_mul_right _ D
    omega
  rw[List.append_assoc,List.set_append_right _ _ oo,Z,Nat.add_sub_cancel_left,List.set_append_left _ _ (by rw[E.len];exact hf),hz,List.append_assoc]
section
variable {P:Program} {a:Act} {n:Nat} {L:List (Nat×Value)} {ds:List Nat} {w:World} {Q:Exit->Act->World->Prop} {ops:Array Oper} {rest:List Oper} {d:Nat} {ty t T:TypeId} {pos:String} {after:Array Edge} {x y:Operand} {v:Value}
theorem y6b {α:Type}{E:Enc α}{base g m c i f:Nat}{ys:List α}(u z:α)(h:AgM ds a n L)(hx:ev L x=some (.pointer (some ((⟨g,0,none⟩:Addr).add (i*E.sz+f)))))(hy:ev L y=some v)(ho:Own E T base w (.slice (some ⟨g,0,none⟩) m c) ys)(M:ys[i]?=some u)(hf:f<E.sz)
    (hz:(E.enc u).set f v=E.enc z) (h1:v.oneCell'=true) (hc:v.cells=#[v]) (hs:z1q P t 1)
    (q:∀w',Own E T base w' (.slice (some ⟨g,0,none⟩) m c) (ys.set i z)->Fr [g] w w'->w'.heap.size=w.heap.size->∀a,AgM ds a n L->wpList P ops Q rest a w'):wpList P ops Q (⟨none,.store t x y,ty,pos,after,none⟩::rest) a w:=by
  rcases ho with ⟨e,_⟩|⟨g',cap,cur,e,hb,hg,r1,r2,r3,r4⟩
  · cases e
  cases e
  have J:=(List.getElem?_eq_some_iff.1 M).1
  have h5:i*E.sz+E.sz<=ys.length*E.sz:=by rw[<-Nat.succ_mul];exact Nat.mul_le_mul_right _ J
  have a0:ys.length*E.sz<=cur.size:=Nat.le_trans (Nat.mul_le_mul_right _ r1) r3
  have I:Blk w g T cur.toList:=hg
  have D:cur.toList=ys.flatMap E.enc++cur.toList.drop (ys.length*E.sz):=by rw[<-r4,List.take_append_drop]
  refine z5r h hx hy I (by rw[Nat.blt_eq,Array.length_toList];omega) h1 hc hs λw' O k2 k3 a h=>q w' ?_ k2 k3 a h
  have Z:cur.toList.set (i*E.sz+f) v=(ys.set i z).flatMap E.enc++cur.toList.drop (ys.length*E.sz):=by
    conv=>lhs;rw[D]
    exact v8m M hf hz _
  rw[Z]at O
  refine .inr ⟨g,c,_,by rw[List.length_set],hb,O,by rw[List.length_set];exact r1,r2,?_,?_⟩
  · simp only[List.size_toArray,List.length_append,E.flat_len,List.length_set,List.length_drop,Array.length_toList];omega
  · rw[List.length_set,show ys.length*E.sz=((ys.set i z).flatMap E.enc).length by rw[E.flat_len,List.length_set]]
    exact List.take_left
theorem u1s {α:Type}{E:Enc α}{base g m c i f:Nat}{ys:List α}(u z:α)(I:ev L x=some (.pointer (some ((⟨g,0,none⟩:Addr).add (i*E.sz+f)))))(J:ev L y=some v)(ho:Own E T base w (.slice (some ⟨g,0,none⟩) m c) ys)(D:ys[i]?=some u)(hf:f<E.sz)
 (hz:(E.enc u).set f v=E.enc z) (h1:v.oneCell'=true) (hc:v.cells=#[v]) (hs:z1q P t 1)
 (q:∀w',Own E T base w' (.slice (some ⟨g,0,none⟩) m c) (ys.set i z)->Fr [g] w w'->w'.heap.size=w.heap.size->WL P ops Q rest n ds w' L):WL P ops Q (⟨none,.store t x y,ty,pos,after,none⟩::rest) n ds w L:=λ_ h=>y6b u z h I J ho D hf hz h1 hc hs q
end
end Go.Lw
namespace Go.Lw
open Go.RowKit
section
variable {P:Program} {a:Act} {n:Nat} {L:List (Nat×Value)} {w:World} {v:Value} {g g2:Nat} {T T2:TypeId} {cs cs2:List Value}
theorem j7s {fn:Func}{R:Ending->World->Prop}{p pt I D q:Nat}(h:Ag a n L)(hr:fn.results=#[.cell p pt,.cell I D,.tmp q])(hp:look L p=some (.pointer (some ⟨g,0,none⟩)))(hb:Blk w g T cs)(Z:z3q P pt cs.length)
    (hp2:look L I=some (.pointer (some ⟨g2,0,none⟩))) (hb2:Blk w g2 T2 cs2) (hg2:z3q P D cs2.length) (hv:look L q=some v) (k:R (.returned (.tuple #[.agg cs.toArray,.agg cs2.toArray,v])) w):bodyPost P fn R .ret a w:=
  bodyPost_ret (v:=.tuple #[.agg cs.toArray,.agg cs2.toArray,v]) (by
    have J:=h.at_ p _ hp
    have M:=h.at_ q _ hv
    have O:=h.at_ I _ hp2
    simp only[Array.getD_eq_getD_getElem?]at J M O
    simp[results,hr,J,M,O,asAddr,loadVar,Z.1 w,Z.2 w,hg2.1 w,hg2.2 w,run_loadCells_list w _ cs hb.cells,run_loadCells_list w _ cs2 hb2.cells]) h.dfr k
theorem j8q {fn:Func}{R:Ending->World->Prop}{p pt I D q:Nat}(hr:fn.results=#[.cell p pt,.cell I D,.tmp q])(hp:look L p=some (.pointer (some ⟨g,0,none⟩)))(hb:Blk w g T cs)(J:z3q P pt cs.length)
 (hp2:look L I=some (.pointer (some ⟨g2,0,none⟩))) (hb2:Blk w g2 T2 cs2) (hg2:z3q P D cs2.length) (hv:look L q=some v) (k:R (.returned (.tuple #[.agg cs.toArray,.agg cs2.toArray,v])) w):EW (bodyPost P fn R) .ret n [] w L:=λ_ h=>j7s h hr hp hb J hp2 hb2 hg2 hv k
end
end Go.Lw
namespace Go.Lw
open Go.RowKit
section
variable {P:Program} {n:Nat} {L:List (Nat×Value)} {ds:List Nat} {w w':World} {Q:Exit->Act->World->Prop} {ops:Array Oper} {rest:List Oper} {a:Act} {d:Nat} {ty T t:TypeId} {pos:String} {after:Array Edge} {v:Value} {x y:Operand}
end
end Go.Lw
namespace Go.Lw
open Go.RowKit
section
variable {P:Program} {n:Nat} {L:List (Nat×Value)} {ds:List Nat} {w w':World} {Q:Exit->Act->World->Prop} {ops:Array Oper} {rest:List Oper} {a:Act} {d:Nat} {ty T t tn:TypeId} {pos:String} {after:Array Edge} {v:Value} {x y:Operand}
end
end Go.Lw
namespace Go.Proofs.YtjilcnmaefhmeaaGreatDoor
open Go.Lw _root_.Go.Proofs.Tryz
theorem z4k:z3q prog 45 2:=⟨λ_=>kr,λ_=>kr⟩
theorem y6p:z3q prog 47 6:=⟨λ_=>kr,λ_=>kr⟩
theorem x1i:BuildAt prog 45 [(0,1),(1,1)] [(.int .u8 0),(.int .i64 0)]:=BuildAt.struct underlying45 (λ_=>kr) (λ_=>kr)
theorem x2r:BuildAt prog 301 [(0,1),(1,1),(2,1),(3,1)] [(.bool false),(.bool false),(.bool false),(.bool false)]:=BuildAt.struct underlying301 (λ_=>kr) (λ_=>kr)
theorem u4h:CallOf prog 84:=mkC func84
theorem z6v:z0y prog 45 0 0:=λ_ _=>kr
theorem z6x:z0y prog 45 1 1:=λ_ _=>kr
theorem z6y:z0y prog 47 0 0:=λ_ _=>kr
theorem z8m:z0y prog 47 1 1:=λ_ _=>kr
theorem z3h:z0y prog 47 2 2:=λ_ _=>kr
theorem z3i:z0y prog 47 3 4:=λ_ _=>kr
theorem y3o:z0y prog 47 4 5:=λ_ _=>kr
theorem x1f:z0y prog 301 0 0:=λ_ _=>kr
theorem x6u:z0y prog 301 1 1:=λ_ _=>kr
theorem x6y:z0y prog 301 2 2:=λ_ _=>kr
theorem j2x:z0y prog 301 3 3:=λ_ _=>kr
theorem z2m:prog.follows .mixedOrders=true:=kr
theorem na3:z2c prog 3:=λ_=>kr
theorem na4:z2c prog 4:=λ_=>kr
theorem na5:z2c prog 5:=λ_=>kr
theorem v1s:z2c prog 41:=λ_=>kr
theorem x1h:z2c prog 42:=λ_=>kr
theorem x9d:z2c prog 43:=λ_=>kr
theorem j3e:z1q prog 301 4:=λ_=>kr
theorem x1k (w:World):(zeroValue 301).run prog w=.ok (.agg #[(.bool false),(.bool false),(.bool false),(.bool false)]) w:=kr
theorem z4t (b p:Int)(w0:World):Rets prog 84 #[.agg #[.int .u8 b,.int .i64 p]] w0 λv w'=>v=.int .i64 (z2v b p)/\Fr [] w0 w':=by
 refine we [(0,.agg #[.int .u8 b,.int .i64 p])] func84 U ntmps84 U (.cons U .nil) (sr (bx U (λO w1 a0 D M z1=>(asg U (nn (sq (sq (rbo (r:=10) (L':=[(1,_)]) (((b≠0)/\(b≠1))) (.cons U .nil) ?_ ?_))))))));refine fad U z6v (z0i U D U x9d (ne' U (mv U U (gs 6 U (λZ=>?_) (λZ=>?_)))));exact gY U (fad U z6v (gY U (z0i U D U x9d (gY U (ne' U (pkt U (rbe U (.cons U .nil))))))));exact gN U (gN U (gN U (pkf U (rbe U (.cons U .nil)))));refine tn (cd U (λI=>?_) (λI=>?_));exact sr (asg U (nn (rt (tr (r1 results84 U ⟨_,rfl,by rw[z2v,if_pos I],M⟩)))));refine sk (tn (sq (sq (rbo (r:=18) (L':=[]) (((p<1)\/(40<p))) .nil ?_ ?_))));refine fad U z6x (z0i U D U na3 (lt' U (mv U U (gs 14 U (λO=>?_) (λO=>?_)))));exact gN U (gN U (gN U (pkt U (rbe U .nil))));exact gY U (fad U z6x (gY U (z0i U D U na3 (gY U (gt' U (pkf U (rbe U .nil)))))));refine tn (cd U (λJ=>?_) (λJ=>?_));exact sr (asg U (nn (rt (tr (r1 results84 U ⟨_,rfl,by rw[z2v,if_neg I,if_pos J],M⟩)))));exact sk (tn (sr (asg U (nn (rt (r1 results84 U ⟨_,rfl,by rw[z2v,if_neg I,if_neg J],M⟩))))))
def kV (k:Int):Value:=.int .u8 k
theorem y6w:KeyLaw prog 41 kV:=KeyLaw.now underlying41 (λk k'=>by simp[kV,Instr.sameNow,y6j]) (λ_ _ _=>kr) (λ_=>by simp[kV,Instr.sameBits])
theorem x0u (w0:World):Rets prog 202 #[] w0 λv w'=>∃g,v=.map (some g)/\w0.heap.size<=g/\g<w'.heap.size/\MapF kV w' g x7e/\Fr [] w0 w':=by
 refine we [] func202 U ntmps202 U .nil (sr (asg U (nn (sr (z8y kV U (λI w1 J D M z1=>?_))))))
 refine z1y (cs:=[_,_,_,_]) (ev2 U) x2r (z0g U (z0g U z0s)) U ?_
 refine z3c (V:=kV) (k:=1) U D y6w underlying303 (λw2 D O z2=>?_)
 refine z1y (cs:=[_,_,_,_]) (ev1 U) x2r (z0g U z0s) U ?_
 refine z3c (V:=kV) (k:=2) U D y6w underlying303 (λw3 D Z z3=>?_)
 refine z1y (cs:=[_,_,_,_]) (ev1 U) x2r (z0g U z0s) U ?_
 refine z3c (V:=kV) (k:=3) U D y6w underlying303 (λw4 D q4 z4=>?_)
 refine z1y (cs:=[_,_,_,_]) (ev3 U) x2r (z0g U (z0g U (z0g U z0s))) U ?_
 refine z3c (V:=kV) (k:=4) U D y6w underlying303 (λw5 D q5 z5=>?_)
 refine z1y (cs:=[_,_,_,_]) (ev3 U) x2r (z0g U (z0g U (z0g U z0s))) U ?_
 refine z3c (V:=kV) (k:=5) U D y6w underlying303 (λw6 D q6 z6=>?_)
 refine z1y (cs:=[_,_,_,_]) (ev3 U) x2r (z0g U (z0g U (z0g U z0s))) U ?_
 refine z3c (V:=kV) (k:=6) U D y6w underlying303 (λw7 D q7 z7=>?_)
 refine z1y (cs:=[_,_,_,_]) (ev1 U) x2r (z0g U z0s) U ?_
 refine z3c (V:=kV) (k:=7) U D y6w underlying303 (λw8 D q8 z8=>?_)
 refine z1y (cs:=[_,_,_,_]) (ev1 U) x2r (z0g U z0s) U ?_
 refine z3c (V:=kV) (k:=8) U D y6w underlying303 (λw9 D q9 z9=>(mv U U (asg U (nn (rt (r1 results202 U ?_))))))
 exact⟨_,rfl,I,rfl,oo,oo,by
  refine(funext λk=>?_:x7e=_)▸D
  unfold x7e z5s;repeat' split
  all_goals first|rfl|(simp_all [f4V];done),(((M.z6 O Z q4 q5 q6 q7).z1 q8).z1 q9)⟩
theorem k0p:v7v prog 45 ndV:=by
 intro e f M O w;have J:∀D,(eqGuard D 45 M O (ndV e) (ndV f)).run prog w=.ok () w:=λD=>run_eqGuard_agg w D 45 M O _ _ kr;have I:prog.stoodInHeld 45=false:=by kernel_rfl
 obtain⟨k,y⟩:=e;obtain⟨k',Z⟩:=f;refine⟨J _,J _,?_,?_⟩;unfold ndV;simp[go_sem,I,underlying45];(repeat' split)<;>simp_all
 unfold ndV;simp[go_sem,I,underlying45];(repeat' split)<;>simp_all
theorem u3q (o:MOp)(w0:World):Rets prog 152 #[opV o] w0 λv w'=>v=.bool (decide (y3s o))/\Fr [] w0 w':=by
 refine we [(0,opV o)] func152 U ntmps152 U (.cons U .nil) (sr (bx U (λg1 w1 d0 D q1 z1=>(asg U (nn (jn (ι:=Nat) [(1,_)] (λg3=>[(3,.pointer (some ⟨g3,0,none⟩)),(4,.bool (z5s o.k).isSome)]) (λg3 w'=>Fr [] w1 w'/\w1.heap.size<=g3/\Blk w' g3 301 (f4L ((z5s o.k).getD f40))) (.cons U .nil) ?_ ?_))))));intro a h;have M:=Fr.refl [] w1;refine z3v (λwb w'=>Fr [] wb w') z2m ?_;intro w2 J;replace D:=D.ext J;replace M:=M.next J;have d3:=J.size;clear J;have hC:Fr [] w2 w2:=Fr.refl _ _;have a1:=D;refine z0c 1 h U z6y U λa h=>z0j 2 h U (λ_ hw=>a1.ext hw) U v1s U λa h=>z1x 0 7 kr U ?_ ?_;refine z0o h z0f (mkC func202) (x0u _) ?_;rintro _ w3 ⟨gm,rfl,a8,a9,hm,J⟩ a h;replace D:=D.ext J;replace M:=M.next J;replace hC:=hC.next J;clear J;refine z0b (z1x 3 7 kr U ?_ ?_);refine y3g (V:=kV) (k:=o.k) h U U hm y6w underlying303 x1k (z7o _) (y2n _) U λa h=>z0b (z0e 4 h U λa h=>z0m 5 h U λa h=>z0m 6 h U λa h=>z0d 7 U (z0w h x1k U λw4 I J hz a h=>?_));obtain⟨O,hg⟩:∃g,g=w3.heap.size:=⟨_,rfl⟩;rw[<-hg]at I h hz;have a6:g1<O:=by have:=D.lt;omega
 have a0:w1.heap.size<=O:=by have:=M.size;omega
 have a4:w2.heap.size<=O:=by have:=hC.size;omega
 replace D:=D.ext J;replace M:=M.next J;replace hC:=hC.next J;replace hm:=hm.ext J;clear J;refine z0b (z0d 8 U (z0t h U I U j3e ?_ (h1:=(by first|(simp[Value.oneCell',S];done)|exact Enc.one _ _|exact x6k _))));clear h a;intro w5 a3 J hz a h;replace D:=D.fr J;replace M:=M.sp J;replace hC:=hC.sp J;replace hm:=hm.fr J (by simp;exact hm.ne_blk I);clear I J hz;have I:Blk w5 O _ [_,_,_,_]:=a3;clear a3;refine z0b (z0d 9 U (z0r h U λa h=>?_));refine z0b (z0p ?_);clear hC a1;exact bk (h.sub (L':=[(1,_),(3,_),(4,_)]) (.c3 U U U)) (jE (O) (.c3 U U U) ⟨M,⟨oo,I⟩⟩);refine z0w h x1k U λw6 I J hz a h=>?_;obtain⟨O,hg⟩:∃g,g=w3.heap.size:=⟨_,rfl⟩;rw[<-hg]at I h hz;have a6:g1<O:=by have:=D.lt;omega
 have a0:w1.heap.size<=O:=by have:=M.size;omega
 have a4:w2.heap.size<=O:=by have:=hC.size;omega
 replace D:=D.ext J;replace M:=M.next J;replace hC:=hC.next J;replace hm:=hm.ext J;clear J;refine z0b (z0d 3 U (y3g (V:=kV) (k:=o.k) h U U hm y6w underlying303 x1k (z7o _) (y2n _) U λa h=>?_));refine z0b (z0e 4 h U λa h=>z0m 5 h U λa h=>z0m 6 h U λa h=>z0d 8 U (z0t h U I U j3e ?_ (h1:=(by first|(simp[Value.oneCell',S];done)|exact Enc.one _ _|exact x6k _))));clear h a;intro w7 a3 J hz a h;replace D:=D.fr J;replace M:=M.sp J;replace hC:=hC.sp J;replace hm:=hm.fr J (by simp;exact hm.ne_blk I);clear I J hz;have I:Blk w7 O _ [_,_,_,_]:=a3;clear a3;refine z0b (z0d 9 U (z0r h U λa h=>?_));refine z0b (z0p ?_);clear hC a1;exact bk (h.sub (L':=[(1,_),(3,_),(4,_)]) (.c3 U U U)) (jE (O) (.c3 U U U) ⟨M,⟨oo,I⟩⟩);refine z0w h x1k U λw8 I J hz a h=>?_;obtain⟨O,hg⟩:∃g,g=w2.heap.size:=⟨_,rfl⟩;rw[<-hg]at I h hz;have a6:g1<O:=by have:=D.lt;omega
 have a0:w1.heap.size<=O:=by have:=M.size;omega
 have a4:w2.heap.size<=O:=by have:=hC.size;omega
 replace D:=D.ext J;replace M:=M.next J;replace hC:=hC.next J;clear J;refine z0b (z0d 0 U (z0o h z0f (mkC func202) (x0u _) ?_));rintro _ w9 ⟨gm,rfl,a8,a9,hm,J⟩ a h;replace D:=D.ext J;replace M:=M.next J;replace hC:=hC.next J;replace I:=I.ext J;clear J;refine z0b (z0d 3 U (y3g (V:=kV) (k:=o.k) h U U hm y6w underlying303 x1k (z7o _) (y2n _) U λa h=>?_));refine z0b (z0e 4 h U λa h=>z0m 5 h U λa h=>z0m 6 h U λa h=>z0d 8 U (z0t h U I U j3e ?_ (h1:=(by first|(simp[Value.oneCell',S];done)|exact Enc.one _ _|exact x6k _))));clear h a;intro b9 a3 J hz a h;replace D:=D.fr J;replace M:=M.sp J;replace hC:=hC.sp J;replace hm:=hm.fr J (by simp;exact hm.ne_blk I);clear I J hz;have I:Blk b9 O _ [_,_,_,_]:=a3;clear a3;refine z0b (z0d 9 U (z0r h U λa h=>?_));refine z0b (z0p ?_);clear hC a1;exact bk (h.sub (L':=[(1,_),(3,_),(4,_)]) (.c3 U U U)) (jE (O) (.c3 U U U) ⟨M,⟨oo,I⟩⟩);rintro g3 c9 ⟨Z,⟨d1,I⟩⟩;have b0:=I.lt;refine kpC [(1,_),(3,_),(4,_)] (.c3 U U U) ?_;obtain⟨f,hf⟩:∃f,(z5s o.k).getD f40=f:=⟨_,rfl⟩;rw[hf]at I;have a5:y3s o↔(z5s o.k).isSome=true/\x7r f o:=by rw[<-hf];rfl
 replace I:Blk c9 g3 _ [.bool f.1,.bool f.2.1,.bool f.2.2.1,.bool f.2.2.2]:=I;refine sq (sr (mv U U (nt' U (nn (cd U (λc0=>?_) (λc0=>?_))))));refine sr (asg U (nn (rt (tr (r1 results152 U ?_)))));exact⟨_,rfl,congrArg Value.bool (decide_eq_false (λh=>by simp[(a5.1 h).1]at c0)).symm,(q1.n1 Z)⟩;refine sk (tn (sq (sq (rbo (r:=35) (L':=[(1,_),(3,_)]) ((((f.1=true/\(o.d≠0))/\(o.d≠1))\/((¬f.1=true)/\(o.d≠0)))) (.c2 U U) ?_ ?_))));refine fad U x1f (z0i U I U na4 (mv U U (gs 16 U (λg0=>?_) (λg0=>?_))));refine gY U (fad U z8m (gY U ?_));replace D:=D.ext Z;refine z0i U D U x1h (gY U (ne' U (pkt U (mv U U (gs 21 U (λg1=>?_) (λg1=>?_))))));refine gY U (fad U z8m (gY U (z0i U D U x1h (gY U (ne' U (pkt U (mv U U (gs 26 U (λg2=>?_) (λg2=>?_)))))))));exact gN U (gN U (gN U (gN U (gS U (gS U (gS U (gN U (pkt U (rbe U (.c2 U U))))))))));refine gY U (fad U x1f (gY U (z0i U I U na4 (gY U (nt' U (gY U (mv U U (gs 30 U (λg3=>?_) (λg3=>?_)))))))));exact gY U (fad U z8m (gY U (z0i U D U x1h (gY U (ne' U (gY U (pkt U (pkf U (rbe U (.c2 U U))))))))));exact gN U (gN U (gN U (gY U (pkf U (pkf U (rbe U (.c2 U U)))))));refine gN U (gN U (gN U (pkf U (mv U U (gY U (fad U x1f (gY U (z0i U I U na4 (gY U (nt' U (gY U (mv U U (gs 30 U (λg4=>?_) (λg4=>?_))))))))))))));exact gY U (fad U z8m (gY U (z0i U D U x1h (gY U (ne' U (gY U (pkt U (pkf U (rbe U (.c2 U U))))))))));exact gN U (gN U (gN U (gY U (pkf U (pkf U (rbe U (.c2 U U)))))));refine gN U (gN U (gN U (pkf U (mv U U (gN U (gN U (gN U (pkf U (mv U U (gY U (fad U x1f (gY U (z0i U I U na4 (gY U (nt' U (gY U (mv U U (gs 30 U (λg5=>?_) (λg5=>?_)))))))))))))))))));refine gY U (fad U z8m (gY U ?_));replace D:=D.ext Z;exact z0i U D U x1h (gY U (ne' U (gY U (pkt U (pkf U (rbe U (.c2 U U)))))));exact gN U (gN U (gN U (gY U (pkf U (pkf U (rbe U (.c2 U U)))))));refine tn (cd U (λc1=>?_) (λc1=>?_));refine sr (asg U (nn (rt (tr (r1 results152 U ?_)))));exact⟨_,rfl,congrArg Value.bool (decide_eq_false (λh=>(a5.1 h).2.1 c1)).symm,(q1.n1 Z)⟩;refine sk (tn (sq (sq (x9y (r:=54) (L':=[(1,_),(3,_)]) (((f.2.1=true/\((z2v o.b o.p)≠0))\/((¬f.2.1=true)/\(¬(o.b=0/\o.p=0))))) (.c2 U U) ?_ ?_))));refine fad U x6u (z0i U I U na4 (mv U U (gs 38 U (λg6=>?_) (λg6=>?_))));refine gY U (fad U z3h (gY U ?_));replace D:=D.ext Z;refine z1w (vs:=[_,_]) U D z4k U (gY U (cl (ev1 U) u4h (z4t _ _ _) U ?_));rintro _ d4 ⟨rfl,a7⟩;refine gY U (ne' U (pkt U (mv U U (gs 44 U (λg7=>?_) (λg7=>?_)))));exact gN U (gN U (gN U (gN U (gS U (gS U (gS U (gS U (gN U (pkt U (z9e U (.c2 U U) a7))))))))));refine gY U (fad U x6u (gY U ?_));replace I:=I.ext a7;refine z0i U I U na4 (gY U (nt' U (gY U (mv U U (gs 48 U (λg8=>?_) (λg8=>?_))))));refine gY U (fad U z3h (gY U ?_));replace D:=D.ext a7;exact z1w (vs:=[_,_]) U D z4k U (gY U (z1y (cs:=[_,_]) z0f x1i z0s U (gY U (j4h (V:=ndV) (e:=(_,_)) (f:=(_,_)) U U k0p U (gY U (pkt U (pkf U (z9e U (.c2 U U) a7))))))));exact gN U (gN U (gN U (gN U (gY U (pkf U (pkf U (z9e U (.c2 U U) a7)))))));refine gN U (gN U (gN U (gN U (pkf U (mv U U (gY U (fad U x6u (gY U (z0i U I U na4 (gY U (nt' U (gY U (mv U U (gs 48 U (λg9=>?_) (λg9=>?_)))))))))))))));refine gY U (fad U z3h (gY U ?_));replace D:=D.ext Z;exact z1w (vs:=[_,_]) U D z4k U (gY U (z1y (cs:=[_,_]) z0f x1i z0s U (gY U (j4h (V:=ndV) (e:=(_,_)) (f:=(_,_)) U U k0p U (gY U (pkt U (pkf U (z9e U (.c2 U U) (Fr.refl _ _)))))))));exact gN U (gN U (gN U (gN U (gY U (pkf U (pkf U (z9e U (.c2 U U) (Fr.refl _ _))))))));intro d5 a2;have d6:=a2.size;refine tn (cd U (λc2=>?_) (λc2=>?_));refine sr (asg U (nn (rt (tr (r1 results152 U ?_)))));exact⟨_,rfl,congrArg Value.bool (decide_eq_false (λh=>(a5.1 h).2.2.1 c2)).symm,(q1.n2 Z a2)⟩;refine sk (tn (sq (sq (rbo (r:=76) (L':=[(1,_),(3,_)]) (((f.2.2.1=true/\((o.y<1)\/(6<o.y)))\/((¬f.2.2.1=true)/\(o.y≠0)))) (.c2 U U) ?_ ?_))));refine fad U x6y ?_;replace I:=I.ext a2;refine z0i U I U na4 (mv U U (gs 57 U (λb3=>?_) (λb3=>?_)));refine gY U (fad U z3i (gY U ?_));replace D:=D.ext (Z.n1 a2);refine z0i U D U na5 (gY U (lt' U (gY U (mv U U (gs 61 U (λb4=>?_) (λb4=>?_))))));exact gN U (gN U (gN U (gY U (pkt U (pkt U (mv U U (gN U (gN U (gN U (gN U (gS U (gS U (gS U (gN U (pkt U (rbe U (.c2 U U)))))))))))))))));refine gY U (fad U z3i (gY U (z0i U D U na5 (gY U (gt' U (gY U (pkf U (pkt U (mv U U (gs 67 U (λb5=>?_) (λb5=>?_)))))))))));exact gN U (gN U (gN U (gN U (gS U (gS U (gS U (gN U (pkt U (rbe U (.c2 U U))))))))));refine gY U (fad U x6y (gY U (z0i U I U na4 (gY U (nt' U (gY U (mv U U (gs 71 U (λb6=>?_) (λb6=>?_)))))))));exact gY U (fad U z3i (gY U (z0i U D U na5 (gY U (ne' U (gY U (pkt U (pkf U (rbe U (.c2 U U))))))))));exact gN U (gN U (gN U (gY U (pkf U (pkf U (rbe U (.c2 U U)))))));refine gN U (gN U (gN U (gN U (gS U (gS U (gS U (gN U (pkf U (mv U U (gY U (fad U x6y (gY U (z0i U I U na4 (gY U (nt' U (gY U (mv U U (gs 71 U (λb7=>?_) (λb7=>?_)))))))))))))))))));refine gY U (fad U z3i (gY U ?_));replace D:=D.ext (Z.n1 a2);exact z0i U D U na5 (gY U (ne' U (gY U (pkt U (pkf U (rbe U (.c2 U U)))))));exact gN U (gN U (gN U (gY U (pkf U (pkf U (rbe U (.c2 U U)))))));refine tn (cd U (λc3=>?_) (λc3=>?_));refine sr (asg U (nn (rt (tr (r1 results152 U ?_)))));exact⟨_,rfl,congrArg Value.bool (decide_eq_false (λh=>(a5.1 h).2.2.2.1 c3)).symm,(q1.n2 Z a2)⟩;refine sk (tn (sq (rbo (r:=2) (L':=[]) ((f.2.2.2=true\/(o.r=0))) .nil ?_ ?_)));refine fad U j2x ?_;replace I:=I.ext a2;refine z0i U I U na4 (mv U U (gs 79 U (λb8=>?_) (λb8=>?_)));exact gN U (gN U (gN U (pkt U (asg U (rbe U .nil)))));refine gY U (fad U y3o (gY U ?_));replace D:=D.ext (Z.n1 a2);exact z0i U D U na3 (gY U (eq' U (pkf U (asg U (rbe U .nil)))));refine tn (rt (r1 results152 U ?_));exact⟨_,rfl,congrArg Value.bool (decide_eq_decide.2 ⟨λh=>a5.2 ⟨by revert c0;cases (z5s o.k).isSome<;>simp,c1,c2,c3,h⟩,λh=>(a5.1 h).2.2.2.2⟩),(q1.n2 Z a2)⟩
theorem y8r (o:MOp)(w0:World):Rets prog 100 #[opV o] w0 λv w'=>v=.int .i64 (z9v o)/\Fr [] w0 w':=by
 refine we [(0,opV o)] func100 U ntmps100 U (.cons U .nil) (sr (bx U (λg1 w1 a0 D O z1=>(asg U (nn (sq (sr (z0n U D y6p (cl (ev1 U) (mkC func152) (u3q o _) U ?_)))))))));rintro _ w2 ⟨rfl,J⟩;refine nt' U (nn (cd U (λI=>?_) (λI=>?_)));exact sr (asg U (nn (rt (tr (r1 results100 U ⟨_,rfl,by rw[z9v,if_pos I],(O.n1 J)⟩)))));refine sk (tn (sq (sq (rbo (r:=13) (L':=[]) (((o.r < -4)\/(4<o.r))) .nil ?_ ?_))));refine fad U y3o ?_;replace D:=D.ext J;refine z0i U D U na3 (lt' U (mv U U (gs 9 U (λZ=>?_) (λZ=>?_))));exact gN U (gN U (gN U (pkt U (rbe U .nil))));exact gY U (fad U y3o (gY U (z0i U D U na3 (gY U (gt' U (pkf U (rbe U .nil)))))));refine tn (cd U (λM=>?_) (λM=>?_));exact sr (asg U (nn (rt (tr (r1 results100 U ⟨_,rfl,by rw[z9v,if_neg I,if_pos M],(O.n1 J)⟩)))));exact sk (tn (sr (asg U (nn (rt (r1 results100 U ⟨_,rfl,by rw[z9v,if_neg I,if_neg M],(O.n1 J)⟩))))))
open Go.Lw Go.G21 Go.G08 _root_.Go.Proofs.Tryz
theorem z2y:z3q prog 73 2:=⟨λ_=>kr,λ_=>kr⟩
theorem x1j:z3q prog 97 4:=⟨λ_=>kr,λ_=>kr⟩
theorem z5v:z0y prog 73 0 0:=λ_ _=>kr
theorem z6g:z0y prog 73 1 1:=λ_ _=>kr
theorem u0g:z0y prog 97 0 0:=λ_ _=>kr
theorem y2i:z0y prog 97 2 3:=λ_ _=>kr
theorem k0y:z1q prog 42 1:=λ_=>kr
def idV (i:LId):Value:=.agg (idL i).toArray
def paV (p:Pa):Value:=.agg (paL p).toArray
theorem eqId:v7v prog 73 idV:=by
 intro e f M O w;have J:∀D,(eqGuard D 73 M O (idV e) (idV f)).run prog w=.ok () w:=λD=>run_eqGuard_agg w D 73 M O _ _ kr;have I:prog.stoodInHeld 73=false:=by kernel_rfl
 obtain⟨y,n⟩:=e;obtain⟨y',Z⟩:=f;refine⟨J _,J _,?_,?_⟩;unfold idV;simp[go_sem,I,underlying73];(repeat' split)<;>simp_all
 unfold idV;simp[go_sem,I,underlying73];(repeat' split)<;>simp_all
theorem eqPa:v7v prog 97 paV:=by
 intro e f M O w;have J:∀D,(eqGuard D 97 M O (paV e) (paV f)).run prog w=.ok () w:=λD=>run_eqGuard_agg w D 97 M O _ _ kr;have I:prog.stoodInHeld 97=false:=by kernel_rfl
 obtain⟨⟨y,n⟩,b,d⟩:=e;obtain⟨⟨y',n'⟩,Z,d'⟩:=f;refine⟨J _,J _,?_,?_⟩;unfold paV;simp[go_sem,I,underlying97];(repeat' split)<;>simp_all
 unfold paV;simp[go_sem,I,underlying97];(repeat' split)<;>simp_all
theorem y4f (i:LId)(w0:World):Rets prog 70 #[.agg #[.int .u8 i.y,.int .i64 i.n]] w0 λr w'=>r=.bool (decide (z5d i))/\Fr [] w0 w':=by
 refine we [(0,.agg #[.int .u8 i.y,.int .i64 i.n])] func70 U ntmps70 U (.cons U .nil) (sr (bx U (λI w1 M D O z1=>(asg U (nn (sq (rbo (r:=2) (L':=[]) (((((1<=i.y)/\(i.y<=6))/\(0<=i.n))/\(i.n<2048))) .nil ?_ ?_)))))));refine fad U z5v (z0i U D U na5 (ge' U U (mv U U (gs 6 U (λJ=>?_) (λJ=>?_)))));refine gY U (fad U z5v (gY U (z0i U D U na5 (gY U (le' U U (pkt U (mv U U (gs 11 U (λI=>?_) (λI=>?_)))))))));refine gY U (fad U z6g (gY U (z0i U D U na3 (gY U (ge' U U (pkt U (mv U U (gs 16 U (λg2=>?_) (λg2=>?_)))))))));exact gY U (fad U z6g (gY U (z0i U D U na3 (gY U (lt' U (pkt U (asg U (rbe U .nil))))))));exact gN U (gN U (gN U (pkf U (asg U (rbe U .nil)))));exact gN U (gN U (gN U (pkf U (mv U U (gN U (gN U (gN U (pkf U (asg U (rbe U .nil))))))))));exact gN U (gN U (gN U (pkf U (mv U U (gN U (gN U (gN U (pkf U (mv U U (gN U (gN U (gN U (pkf U (asg U (rbe U .nil)))))))))))))));refine tn (rt (r1 results70 U ?_));exact⟨_,rfl,congrArg Value.bool (decide_eq_decide.2 (by unfold z5d;omega)),O⟩
theorem y4i (d:Int)(w0:World):Rets prog 157 #[.int .u8 d] w0 λr w'=>r=.bool (decide (z5t d))/\Fr [] w0 w':=by
 refine we [(0,.int .u8 d)] func157 U ntmps157 U (.cons U .nil) (sr (asg U (nn (sq (rbo (r:=2) (L':=[]) (((d=0)\/(d=1))) .nil ?_ ?_)))));refine mv U U (eq' U (mv U U (gs 5 U (λD=>?_) (λD=>?_))));exact gN U (gN U (pkt U (asg U (rbe U .nil))));exact gY U (mv U U (gY U (eq' U (pkf U (asg U (rbe U .nil))))));refine tn (rt (r1 results157 U ?_));exact⟨_,rfl,congrArg Value.bool (decide_eq_decide.2 (by unfold z5t;omega)),(Fr.refl _ _)⟩
theorem x9x (p:Pa)(w0:World):Rets prog 112 #[.agg #[.int .u8 p.id.y,.int .i64 p.id.n,.bool p.f,.int .u8 p.d]] w0 λr w'=>r=.bool (decide (y1w p))/\Fr [] w0 w':=by
 refine we [(0,.agg #[.int .u8 p.id.y,.int .i64 p.id.n,.bool p.f,.int .u8 p.d])] func112 U ntmps112 U (.cons U .nil) (sr (bx U (λg1 w1 O D Z z1=>(asg U (nn (sq (x9y (r:=2) (L':=[]) (((z5d ⟨p.id.y,p.id.n⟩)/\(z5t p.d))) .nil ?_ ?_)))))));refine fad U u0g (z1w (vs:=[_,_]) U D z2y U (cl (ev1 U) (mkC func70) (y4f ⟨_,_⟩ _) U ?_));rintro _ w2 ⟨rfl,I⟩;refine mv U U (gs 6 U (λM=>?_) (λM=>?_));refine gY U (fad U y2i (gY U ?_));replace D:=D.ext I;refine z0i U D U x1h (gY U (cl (ev1 U) (mkC func157) (y4i _ _) U ?_));rintro _ w3 ⟨rfl,q3⟩;exact pkt U (asg U (z9e U .nil (I.n1 q3)));exact gN U (gN U (gN U (pkf U (asg U (z9e U .nil I)))));intro w4 J;have z4:=J.size;refine tn (rt (r1 results112 U ?_));exact⟨_,rfl,congrArg Value.bool (decide_eq_decide.2 (by rfl)),(Z.n1 J)⟩
theorem y7l (x:Int)(w0:World):Rets prog 111 #[.int .i64 x] w0 λr w'=>r=.bool (decide (x3q x))/\Fr [] w0 w':=by
 refine we [(0,.int .i64 x)] func111 U ntmps111 U (.cons U .nil) (sr (asg U (nn (sq (rbo (r:=2) (L':=[]) (((((Int.tmod x 2)≠0)/\(-13<=x))/\(x<=179))) .nil ?_ ?_)))));refine mv U U (v4d U U (by first|exact IntWalk.rem_in _ _ oo|rfl) (ne' U (mv U U (gs 6 U (λD=>?_) (λD=>?_)))));refine gY U (mv U U (gY U (ge' U U (pkt U (mv U U (gs 10 U (λI=>?_) (λI=>?_)))))));exact gY U (mv U U (gY U (le' U U (pkt U (asg U (rbe U .nil))))));exact gN U (gN U (pkf U (asg U (rbe U .nil))));exact gN U (gN U (pkf U (mv U U (gN U (gN U (pkf U (asg U (rbe U .nil))))))));refine tn (rt (r1 results111 U ?_));exact⟨_,rfl,congrArg Value.bool (decide_eq_decide.2 (by unfold x3q;exact and_assoc)),(Fr.refl _ _)⟩
theorem x1w (p q:Pa)(w0:World):Rets prog 113 #[.agg #[.int .u8 p.id.y,.int .i64 p.id.n,.bool p.f,.int .u8 p.d],.agg #[.int .u8 q.id.y,.int .i64 q.id.n,.bool q.f,.int .u8 q.d]] w0 λr w'=>r=.bool (decide (u6o p q))/\Fr [] w0 w':=by
 refine we [(0,.agg #[.int .u8 p.id.y,.int .i64 p.id.n,.bool p.f,.int .u8 p.d]),(1,.agg #[.int .u8 q.id.y,.int .i64 q.id.n,.bool q.f,.int .u8 q.d])] func113 U ntmps113 U (.c2 U U) (sr (bx U (λg2 w1 a0 I q1 z1=>(bx U (λg3 w2 a1 D O z2=>(asg U (nn (sq (sq (x9y (r:=21) (L':=[(2,_),(3,_)]) ((((¬(z5t p.d))\/(¬(z5t q.d)))\/(p.d=q.d))) (.c2 U U) ?_ ?_))))))))));refine fad U y2i ?_;replace I:=I.ext O;refine z0i U I U x1h (cl (ev1 U) (mkC func157) (y4i _ _) U ?_);rintro _ w3 ⟨rfl,J⟩;refine nt' U (mv U U (gs 9 U (λg0=>?_) (λg0=>?_)));exact gN U (gN U (gN U (gN U (pkt U (mv U U (gN U (gN U (gN U (gN U (gN U (pkt U (z9e U (.c2 U U) J))))))))))));refine gY U (fad U y2i (gY U ?_));replace D:=D.ext J;refine z0i U D U x1h (gY U (cl (ev1 U) (mkC func157) (y4i _ _) U ?_));rintro _ w4 ⟨rfl,Z⟩;refine gY U (nt' U (pkf U (mv U U (gs 15 U (λg1=>?_) (λg1=>?_)))));exact gN U (gN U (gN U (gN U (gN U (pkt U (z9e U (.c2 U U) (J.n1 Z)))))));refine gY U (fad U y2i (gY U ?_));replace I:=I.ext (J.n1 Z);refine z0i U I U x1h (gY U (fad U y2i (gY U ?_)));replace D:=D.ext Z;exact z0i U D U x1h (gY U (eq' U (pkf U (z9e U (.c2 U U) (J.n1 Z)))));intro w5 M;have z5:=M.size;refine tn (cd U (λc0=>?_) (λc0=>?_));refine sr (asg U (nn (rt (tr (r1 results113 U ?_)))));exact⟨_,rfl,congrArg Value.bool (decide_eq_false (j4r c0)).symm,(q1.n2 O M)⟩;refine sk (tn (sr (fad U y2i ?_)));replace I:=I.ext (O.n1 M);refine z0i U I U x1h (fad U y2i ?_);replace D:=D.ext M;refine z3p U D U k0y (λw6 D q6 z6=>?_);replace D:Blk w6 g3 _ [_,_,_,_]:=D;refine nn (sr ?_);replace I:=I.fr q6;refine z0n U I x1j (z0n U D x1j (k1h (V:=paV) (e:=p) (f:=(⟨q.id,q.f,p.d⟩:Pa)) U U eqPa U (asg U (nn (rt (r1 results113 U ?_))))));exact⟨_,rfl,congrArg Value.bool (decide_eq_decide.2 (j2i c0)),(q1.z3 O M q6)⟩
theorem y0r:ElemOf prog 30 97 z2e 24:=ElemOf.mk' (z:=(.agg #[.int .u8 0,.int .i64 0,.bool false,.int .u8 0])) underlying30 kr U
theorem u2z (w:World):(zeroValue 97).run prog w=.ok (.agg #[(.int .u8 0),(.int .i64 0),(.bool false),(.int .u8 0)]) w:=kr
theorem z9o (v:Value)(l:List Pa)(w0:World)(I:Sl z2e w0 v l)(hl:l.length<=100000):Rets prog 253 #[v] w0 λr w'=>∃A,r=.slice A l.length l.length/\Lw.Own z2e 97 w0.heap.size w' r l/\Fr [] w0 w':=by
 obtain⟨A,c,rfl,a0,hM,Z⟩:=id I;clear Z;unfold maxLen at hM;refine we [(0,.slice A l.length c)] func253 U ntmps253 U (.cons U .nil) ?_;have J:=I;refine sr (asg U (nn (sr (mv U U (lnS U underlying30 (z1e (m:=l.length) (c:=l.length) (pa0) U y0r u2z U (λO w1 a1 D M z1=>(asg U (nn (sr (mv U U (mv U U ?_))))))))))));replace I:=J.ext M;refine z6n (zs:=List.replicate l.length pa0) (by rw[List.length_replicate];rfl) U (by rw[List.length_replicate];exact D) I (by rw[List.length_replicate]) y0r (λw2 D q2 z2=>?_);rw[List.length_replicate]at D;exact nn (sr (mv U U (asg U (nn (rt (r1 results253 U ⟨_,rfl,some ⟨O,0,none⟩,rfl,D.low oo,(M.z1 q2)⟩))))))
theorem u6d:z1q prog 97 4:=λ_=>kr
theorem v6y (base:Nat)(u v:Value)(st l:List Pa)(w0:World)(ho:Lw.Own z2e 97 base w0 u st)(hs:Sl z2e w0 v l)(hd:∀k∈z0u v,k<base)(hb:base<=w0.heap.size)(hn:st.length+l.length<=100000):Rets prog 252 #[u,v] w0 λr w'=>∃S,Lw.Own z2e 97 base w' r (z4o st l)/\(∀k∈S,base<=k)/\Fr S w0 w':=by
 obtain⟨A,c,rfl,b8,hM,hA⟩:=id hs;clear hA;unfold maxLen at hM;refine we [(0,u),(1,.slice A l.length c)] func252 U ntmps252 U (.c2 U U) ?_;have b3:=hs;refine sr (asg U (nn (sq (sr (mv U U (lnS U underlying30 (mv U U (nn (bl (lpK (ι:=Nat×Value) [(8,_),(9,_)] (λp=>[(10,.int .i64 (p.1:Int)),(0,p.2)]) (λp w'=>p.1<=l.length/\Lw.Own z2e 97 base w' p.2 (z4o st (l.take p.1))/\base<=w'.heap.size/\(∃S,(∀k∈S,base<=k)/\Fr S w0 w')) (λp=>l.length-p.1) (0,u) (.c4 U U U U) ⟨Nat.zero_le _,ho,hb,[],sp0,Fr.refl _ _⟩ ?_))))))))));rintro⟨i,vT⟩ w1 ⟨hi,ho,hb,⟨S,hS,qS⟩⟩;simp only at hi ho;refine kpC [(8,_),(9,_),(10,.int .i64 (i:Int)),(0,vT)] (.c4 U U U U) ?_;have hs:=b3.fr qS (λk J b0=>by have:=hS k J;have:=hd k b0;omega);have a7:=z6i (l.take i) st;rw[List.length_take]at a7;obtain⟨ps,O⟩:∃x,x=z4o st (l.take i):=⟨_,rfl⟩;rw[<-O]at ho a7;obtain⟨AT,cT,rfl,b7⟩:=ho.sl.form;have a1:=ho;have a9:=ho.sl.len_le;unfold maxLen at a9;refine sr (lt' U (nn (sq (cd U (λc0=>?_) (λc0=>?_)))));refine sk (tn (sq (bl (sr (z1d (pa0) U hs U y0r z1g (λb5 a4=>?_))))));refine z1l U (a4 _ hs) x1j (al u2z U (λg6 w2 b9 I q2 z2=>?_));refine z0k (vs:=[_,_,_,_]) U I u6d (λw3 I q3 z3=>?_) (h1:=(by first|(simp[Value.oneCell',S];done)|exact z2e.one (l.getD i pa0)));refine nn (sr (mv U U (lnS U underlying30 (asg U (nn (sq ?_))))));replace ho:=(ho.ext q2).fr q3 (by first|exact z8w ho oo|simp[z0u]<;>omega);intro a h;refine z0h none (λwb w'=>Fr [] wb w') z2m ?_;intro w4 q4;have z4:=q4.size;replace ho:=ho.ext q4;replace I:=I.ext q4;have hC:Fr [] w4 w4:=Fr.refl _ _;have a0:=ho;have M:=I;refine z0e 0 h U λa h=>v1r 1 hC h wn U U λa h=>z0e 2 h U λa h=>gSp (D:=18) h U ?_ ?_;clear h;intro g0 h;refine z0e 3 h U ?_ (hG:=(wy U));clear h a;intro a h;refine z0e 4 h U ?_ (hG:=(wy U));clear h a;intro a h;refine z2w 5 h (wy U) U (by first|exact i6 oo|rfl) U λa h=>z1i (p:=(ps.length-1)) (pa0) 6 h U ho.sl U y0r U ?_ (hG:=(wy U));clear h a;intro b6 a5 a h;refine z2q 7 h (wy U) U (λ_ hw=>a5 _ (a0.sl.ext hw)) x1j U λa h=>z0v 8 h U (λ_ hw=>M.ext hw) x1j U ?_ (hG:=(wy U));clear h a;intro a h;refine z0d 9 U (y6m h U U U U U U (z0o h (z0a U (z0a U z0f)) (mkC func113) (x1w (ps.getD (ps.length-1) pa0) (l.getD i pa0) _) ?_));rintro _ w5 ⟨rfl,q5⟩ a h;have z5:=q5.size;replace ho:=ho.ext q5;replace I:=I.ext q5;replace hC:=hC.next q5;refine z0b (z0d 10 U (z5p h U λa h=>?_));refine z0b (z0p ?_);clear hC a0 M;refine bk (h.sub (L':=[(0,_),(6,_),(7,_),(8,_),(9,_),(10,_),(26,_)]) (.c7 U U U U U U U)) (tn (cd U (λc1=>?_) (λc1=>?_)));exact rg (mv U U (mv U U (z2p U (wi6 oo) (mv U U (j9l U underlying30 U (j0i (p:=(ps.length-1)) (p':=cT) U U U y0r oo oo oo oo oo U (asg U (kpL [(0,_),(8,_),(9,_),(10,_)] (.c4 U U U U) (nl (bn' (tn (rg (z1b U (wi6 oo) (mv U U (nl (lpE ((i+1,_)) (.c4 U U U U) ⟨sm,by rw[y2t st l i oo,<-O,y0w,if_pos ⟨oo,c1⟩];exact ho.take U oo oo oo,oo,S++z0u (.slice AT ps.length cT),(λk J=>(List.mem_append.1 J).elim (hS k) (λJ=>(a1.blk k J).1)),qS.trans ((Fr.refl (z0u (.slice AT ps.length cT)) _).z4 q2 q3 q4 q5)⟩ sm))))))))))))))));refine rg (mv U U (z0n U I x1j (z2t ([l.getD i pa0]) (ev1 U) U y0r (λa8 w6 a6 Z q6 z6=>?_))));replace ho:=ho.ext q6;have a2:=ho;refine z2l U ho Z.sl y0r (λb4 w7 ho q7 a3=>?_);have z7:=q7.size;exact asg U (kpL [(0,_),(8,_),(9,_),(10,_)] (.c4 U U U U) (nl (bn' (tn (rg (z1b U (wi6 oo) (mv U U (nl (lpE ((i+1,_)) (.c4 U U U U) ⟨sm,by rw[y2t st l i oo,<-O,y0w,if_neg (by first|exact λe=>c1 e.2|exact λe=>absurd e.1 oo)];exact ho,oo,S++z0u (.slice AT ps.length cT),(λk J=>(List.mem_append.1 J).elim (hS k) (λJ=>(a1.blk k J).1)),qS.trans (((Fr.refl (z0u (.slice AT ps.length cT)) _).z5 q2 q3 q4 q5 q6).step q7 (λk J _=>J))⟩ sm)))))))));clear h;intro g0 h;refine z2k 3 h U U λa h=>z2k 4 h U U λa h=>z2k 5 h U U λa h=>z2k 6 h U U λa h=>z2k 7 h U U λa h=>z2k 8 h U U λa h=>z2k 9 h U U λa h=>z0d 10 U (z4d h U U λa h=>?_);refine z0b (z0p ?_);clear hC a0 M;refine bk (h.sub (L':=[(0,_),(6,_),(7,_),(8,_),(9,_),(10,_),(26,_)]) (.c7 U U U U U U U)) (tn (cf U (rg (mv U U (z0n U I x1j (z2t ([l.getD i pa0]) (ev1 U) U y0r (λa8 w8 a6 Z q8 z8=>?_)))))));replace ho:=ho.ext q8;have a2:=ho;refine z2l U ho Z.sl y0r (λb4 w9 ho q9 a3=>?_);have z9:=q9.size;exact asg U (kpL [(0,_),(8,_),(9,_),(10,_)] (.c4 U U U U) (nl (bn' (tn (rg (z1b U (wi6 oo) (mv U U (nl (lpE ((i+1,_)) (.c4 U U U U) ⟨sm,by rw[y2t st l i oo,<-O,y0w,if_neg (by first|exact λe=>c1 e.2|exact λe=>absurd e.1 oo)];exact ho,oo,S++z0u (.slice AT ps.length cT),(λk J=>(List.mem_append.1 J).elim (hS k) (λJ=>(a1.blk k J).1)),qS.trans (((Fr.refl (z0u (.slice AT ps.length cT)) _).z4 q2 q3 q4 q8).step q9 (λk J _=>J))⟩ sm)))))))));exact ex (te (te (xh (tn (sr (mv U U (asg U (kpL [(4,_)] (.cons U .nil) (nn (rt (r1 results252 U ⟨_,rfl,S,by rw[List.take_of_length_le oo]at O;rw[<-O];exact ho,hS,qS⟩)))))))))))
theorem y1p:z0y prog 95 0 0:=λ_ _=>kr
theorem z7m:z0y prog 95 1 1:=λ_ _=>kr
theorem y1q:z0y prog 95 2 2:=λ_ _=>kr
theorem u7c:z0y prog 95 3 3:=λ_ _=>kr
theorem y0e:z0y prog 95 4 4:=λ_ _=>kr
theorem x4v:z2c prog 30:=λ_=>kr
theorem z8q (q:YQ)(w0:World)(hp:Sl z2e w0 (slv q.pe) q.pes):Rets prog 49 #[.agg #[.bool q.inn,.int .i64 q.pl,.int .i64 q.ct,.bool q.nw,.slice q.pe.1 q.pe.2.1 q.pe.2.2]] w0 λr w'=>r=.int .i64 (ynE q.p)/\Fr [] w0 w':=by
 have a1:=z1z hp;have a5:=hp.len_le;unfold maxLen at a5;refine we [(0,.agg #[.bool q.inn,.int .i64 q.pl,.int .i64 q.ct,.bool q.nw,.slice q.pe.1 q.pe.2.1 q.pe.2.2])] func49 U ntmps49 U (.cons U .nil) ?_;have a4:=hp;refine sr (bx U (λg1 w1 a8 I q1 z1=>(asg U (nn (sq (sq (rbo (r:=12) (L':=[(1,_)]) (((q.ct<0)\/(2048<q.ct))) (.cons U .nil) ?_ ?_)))))));refine fad U y1q (z0i U I U na3 (lt' U (mv U U (gs 8 U (λg0=>?_) (λg0=>?_)))));exact gN U (gN U (gN U (pkt U (rbe U (.cons U .nil)))));exact gY U (fad U y1q (gY U (z0i U I U na3 (gY U (gt' U (pkf U (rbe U (.cons U .nil))))))));refine tn (cd U (λc0=>?_) (λc0=>?_));exact sr (asg U (nn (rt (tr (r1 results49 U ⟨_,rfl,by rw[yn_a c0],q1⟩)))));refine sk (tn (sq (sr (fad U y1p (z0i U I U na4 (nt' U (nn (cd U (λc1=>?_) (λc1=>?_)))))))));refine sq (sq (rbo (r:=28) (L':=[]) ((((q.pl≠0)\/q.nw=true)\/(0<(q.pe.2.1:Int)))) .nil ?_ ?_));refine fad U z7m (z0i U I U na3 (ne' U (mv U U (gs 19 U (λg1=>?_) (λg1=>?_)))));exact gN U (gN U (pkt U (mv U U (gN U (gN U (gN U (gN U (pkt U (rbe U .nil)))))))));refine gY U (fad U u7c (gY U (z0i U I U na4 (pkf U (mv U U (gs 23 U (λg2=>?_) (λg2=>?_)))))));exact gN U (gN U (gN U (gN U (pkt U (rbe U .nil)))));exact gY U (fad U y0e (gY U (z0i U I U x4v (gY U (lnS U underlying30 (gY U (gt' U (pkf U (rbe U .nil)))))))));refine tn (cd U (λc2=>?_) (λc2=>?_));refine sr (asg U (nn (rt (tr (tr (r1 results49 U ?_))))));have M:q.inn=false:=(by simpa using c1);exact⟨_,rfl,by rw[yn_b M (by simpa[a1] using c2)],q1⟩;refine sk (tn (sr (asg U (nn (rt (tr (r1 results49 U ?_)))))));have M:q.inn=false:=(by simpa using c1);exact⟨_,rfl,by rw[yn_c c0 M (by simpa[a1] using c2)],q1⟩;refine sk (tn (sq (sq (x9y (r:=38) (L':=[(1,_)]) (((¬(x3q q.pl))\/(4096<(q.pe.2.1:Int)))) (.cons U .nil) ?_ ?_))));refine fad U z7m (z0i U I U na3 (cl (ev1 U) (mkC func111) (y7l _ _) U ?_));rintro _ w2 ⟨rfl,q2⟩;have z2:=q2.size;refine nt' U (mv U U (gs 33 U (λg3=>?_) (λg3=>?_)));exact gN U (gN U (gN U (gN U (pkt U (z9e U (.cons U .nil) q2)))));refine gY U (fad U y0e (gY U ?_));replace I:=I.ext q2;exact z0i U I U x4v (gY U (lnS U underlying30 (gY U (gt' U (pkf U (z9e U (.cons U .nil) q2))))));intro w3 q3;have z3:=q3.size;refine tn (cd U (λc3=>?_) (λc3=>?_));refine sr (asg U (nn (rt (tr (r1 results49 U ?_)))));have M:q.inn=true:=(by simpa using c1);exact⟨_,rfl,by rw[yn_d M (by simpa[a1] using c3)],(q1.n1 q3)⟩;refine sk (tn (sq (sr (fad U y0e ?_))));replace I:=I.ext q3;refine z0i U I U x4v (lnS U underlying30 (mv U U (nn (bl (lpK (ι:=Nat) [(1,_),(40,_),(41,_)] (λi=>[(42,.int .i64 (i:Int))]) (λi w'=>Fr [] w3 w'/\i<=q.pes.length/\∀j,j<i->v7l q.pes j) (λi=>q.pes.length-i) 0 (.c4 U U U U) ⟨Fr.refl _ _,⟨Nat.zero_le _,λj h=>absurd h oo⟩⟩ ?_)))));rintro i w4 ⟨q4,⟨hi,hg⟩⟩;have z4:=q4.size;refine kpC [(1,_),(40,_),(41,_),(42,_)] (.c4 U U U U) (sr (lt' U (nn (sq (cd U (λc4=>?_) (λc4=>?_))))));refine sk (tn (sq (bl (sr (mv U U ?_)))));replace hp:=a4.ext (q1.n2 q3 q4);refine z1d (p:=i) (pa0) U hp U y0r oo (λa6 a2=>(z1l U (a2 _ hp) x1j (al u2z U (λg4 w5 a9 Z q5 z5=>?_))));refine asg U (z0k (vs:=[_,_,_,_]) U Z u6d (λw6 Z q6 z6=>?_) (h1:=(by first|(simp[Value.oneCell',S];done)|exact z2e.one (q.pes.getD i pa0))));refine nn (sq ?_);replace hp:=a4.ext (q1.z4 q3 q4 q5 q6);replace I:=(I.ext (q4.n1 q5)).fr q6;intro a h;refine z0h none (λwb w'=>Fr [] wb w') z2m ?_;intro w7 q7;have z7:=q7.size;replace hp:=hp.ext q7;replace I:=I.ext q7;replace Z:=Z.ext q7;have hC:Fr [] w7 w7:=Fr.refl _ _;have a0:=hp;have O:=I;have J:=Z;refine z0v 0 h U (λ_ hw=>J.ext hw) x1j U λa h=>z0d 1 U (z0o h (z0a U z0f) (mkC func112) (x9x (q.pes.getD i pa0) _) ?_);rintro _ w8 ⟨rfl,q8⟩ a h;have z8:=q8.size;replace hp:=hp.ext q8;replace I:=I.ext q8;replace Z:=Z.ext q8;replace hC:=hC.next q8;refine z0b (x1m 2 hC h wn U U U λa h=>z0e 3 h U λa h=>?_);refine gSp (D:=50) h U ?_ ?_;clear h;intro g4 h;refine z2k 4 h U U λa h=>z2k 5 h U U λa h=>z2k 6 h U U λa h=>x1z 7 hC h U U U λa h=>x1z 8 hC h U U U λa h=>x1z 9 hC h U U U λa h=>x1z 10 hC h U U U λa h=>x1z 11 hC h U U U λa h=>x1z 12 hC h U U U λa h=>x1z 13 hC h U U U λa h=>x1z 14 hC h U U U λa h=>z2k 15 h U U λa h=>z0d 16 U (z5p h U λa h=>?_);refine z0b (z0p ?_);clear hC a0 O J;refine bk (h.sub (L':=[(1,_),(40,_),(41,_),(42,_),(63,_)]) (.c5 U U U U U)) (tn (ct U (sr (asg U (nn (rt (rb (tr (tr (rb (tr (r1 results49 U ?_))))))))))));have M:q.inn=true:=(by simpa using c1);exact⟨_,rfl,by rw[yn_e M (i:=i) (by show i<q.pes.length;omega) (λh=>by first|exact absurd h.1 (by assumption)|exact h.2 oo c5)],(q1.z6 q3 q4 q5 q6 q7 q8)⟩;clear h;intro g4 h;refine z0e 4 h U ?_ (hG:=(wy U));clear h a;intro a h;refine v1r 5 hC h (wy U) U U λa h=>z0e 6 h U ?_ (hG:=(wy U));clear h a;intro a h;refine gSp (D:=53) h U ?_ ?_;clear h;intro g5 h;refine z0c 7 h U y0e U ?_ (hG:=(wy U));clear h a;intro a h;refine z0j 8 h U (λ_ hw=>O.ext hw) U x4v U ?_ (hG:=(wy U));clear h a;intro a h;refine z0e 9 h U ?_ (hG:=(wy U));clear h a;intro a h;refine z2w 10 h (wy U) U (by first|exact i6 oo|rfl) U λa h=>z1i (p:=(i-1)) (pa0) 11 h U hp U y0r U ?_ (hG:=(wy U));clear h a;intro a7 a3 a h;refine z2q 12 h (wy U) U (λ_ hw=>a3 _ (a0.ext hw)) x1j U λa h=>z0v 13 h U (λ_ hw=>J.ext hw) x1j U ?_ (hG:=(wy U));clear h a;intro a h;refine z0d 14 U (y6m h U U U U U U (z0o h (z0a U (z0a U z0f)) (mkC func113) (x1w (q.pes.getD (i-1) pa0) (q.pes.getD i pa0) _) ?_));rintro _ w9 ⟨rfl,q9⟩ a h;have z9:=q9.size;replace hp:=hp.ext q9;replace I:=I.ext q9;replace Z:=Z.ext q9;replace hC:=hC.next q9;refine z0b (z0d 15 U (tW h (kY U (pkt U ?_))));clear h a;intro a h;refine z0b (z0d 16 U (z4d h U U λa h=>?_));refine z0b (z0p ?_);clear hC a0 O J;refine bk (h.sub (L':=[(1,_),(40,_),(41,_),(42,_),(63,_)]) (.c5 U U U U U)) (tn (cd U (λc5=>?_) (λc5=>?_)));refine sr (asg U (nn (rt (rb (tr (tr (rb (tr (r1 results49 U ?_)))))))));have M:q.inn=true:=(by simpa using c1);exact⟨_,rfl,by rw[yn_e M (i:=i) (by show i<q.pes.length;omega) (λh=>by first|exact absurd h.1 (by assumption)|exact h.2 oo c5)],((q1.z6 q3 q4 q5 q6 q7 q8).n1 q9)⟩;refine sk (bn' (tn (rg (z1b U (wi6 oo) (mv U U (nl ?_))))));exact lpE (i+1) (.c4 U U U U) ⟨(q4.z5 q5 q6 q7 q8 q9),⟨oo,λj hj=>by
  by_cases e:j<i;exact hg j e;obtain rfl:j=i:=by omega
  exact⟨by assumption,λh0=>by first|exact c5|exact absurd h0 oo⟩⟩⟩ oo
 clear h;intro g5 h;refine z2k 7 h U U λa h=>z2k 8 h U U λa h=>z2k 9 h U U λa h=>z2k 10 h U U λa h=>z2k 11 h U U λa h=>z2k 12 h U U λa h=>z2k 13 h U U λa h=>z2k 14 h U U λa h=>z0d 15 U (tW h (kY U (pkf U ?_)));clear h a;intro a h;refine z0b (z0d 16 U (z4d h U U λa h=>?_));refine z0b (z0p ?_);clear hC a0 O J;refine bk (h.sub (L':=[(1,_),(40,_),(41,_),(42,_),(63,_)]) (.c5 U U U U U)) (tn (cf U (sk (bn' (tn (rg (z1b U (wi6 oo) (mv U U (nl ?_)))))))));exact lpE (i+1) (.c4 U U U U) ⟨(q4.z4 q5 q6 q7 q8),⟨oo,λj hj=>by
  by_cases e:j<i;exact hg j e;obtain rfl:j=i:=by omega
  exact⟨by assumption,λh0=>by first|exact c5|exact absurd h0 oo⟩⟩⟩ oo
 obtain rfl:i=q.pes.length:=by omega
 refine ex (te (te (xh (tn (sr (asg U (nn (rt (r1 results49 U ?_)))))))));have M:q.inn=true:=(by simpa using c1);exact⟨_,rfl,by rw[yn_f c0 M (by simpa[a1] using c3) hg],(q1.n2 q3 q4)⟩
theorem z7g:z3q prog 95 5:=⟨λ_=>kr,λ_=>kr⟩
theorem x3n:BuildAt prog 95 [(0,1),(1,1),(2,1),(3,1),(4,1)] [(.bool false),(.int .i64 0),(.int .i64 0),(.bool false),(.slice none 0 0)]:=BuildAt.struct underlying95 (λ_=>kr) (λ_=>kr)
theorem j9f:CallOf prog 49:=mkC func49
theorem sz3:z1q prog 3 1:=λ_=>kr
theorem k1i:z1q prog 30 1:=λ_=>kr
theorem z7i:z1q prog 95 5:=λ_=>kr
theorem y3y (w:World):(zeroValue 95).run prog w=.ok (.agg #[(.bool false),(.int .i64 0),(.int .i64 0),(.bool false),(.slice none 0 0)]) w:=kr
theorem v0t (q:YQ)(pl:Int)(v:Value)(l:List Pa)(w0:World)(hp:Sl z2e w0 (slv q.pe) q.pes)(hs:Sl z2e w0 v l)(hv:∀k∈z0u v,k<w0.heap.size)(hl:l.length<=50000):Rets prog 196 #[.agg #[.bool q.inn,.int .i64 q.pl,.int .i64 q.ct,.bool q.nw,.slice q.pe.1 q.pe.2.1 q.pe.2.2],.int .i64 pl,v] w0 λr w'=>∃q':YQ,r=.tuple #[.agg #[.bool q'.inn,.int .i64 q'.pl,.int .i64 q'.ct,.bool q'.nw,.slice q'.pe.1 q'.pe.2.1 q'.pe.2.2],.int .i64 (goE q.p pl l)]/\(goE q.p pl l=0->q'.p=goS q.p pl l/\Lw.Own z2e 97 w0.heap.size w' (slv q'.pe) q'.pes)/\Fr [] w0 w':=by
 have f6:=z1z hp;have d3:=hp.len_le;unfold maxLen at d3;obtain⟨A,c,rfl,f2,hM,hA⟩:=id hs;clear hA;unfold maxLen at hM;refine we [(0,.agg #[.bool q.inn,.int .i64 q.pl,.int .i64 q.ct,.bool q.nw,.slice q.pe.1 q.pe.2.1 q.pe.2.2]),(1,.int .i64 pl),(2,.slice A l.length c)] func196 U ntmps196 U (.c3 U U U) ?_;have b5:=hp;have b6:=hs;refine sr (bx U (λg3 w1 f3 I q1 z1=>(al y3y U (λg6 w2 f4 D q2 z2=>(asg U (nn (sq (sr ?_))))))));replace I:=I.ext q2;refine z0n U I z7g ?_;replace hp:=b5.ext (q1.n1 q2);refine cl (ev1 U) j9f (z8q q _ hp) U ?_;rintro _ w3 ⟨rfl,q3⟩;have z3:=q3.size;refine asg U (nn (sr (mv U U (ne' U (nn (cd U (λc0=>?_) (λc0=>?_)))))));refine sr (z1y (cs:=[_,_,_,_,_]) z0f x3n z0s U ?_);refine mv U U ?_;replace D:=D.ext q3;refine z0k (vs:=[_,_,_,_,_]) U D z7i (λw4 D q4 z4=>?_) (h1:=(by first|(simp[Value.oneCell',S];done)|exact z2e.one (l.getD i pa0)));refine asg U (kpL [(6,_),(7,_)] (.c2 U U) (nn (rt (tr (rCT results196 U D z7g U ?_)))));have Z:goE q.p pl l=ynE q.p:=by unfold goE;rw[if_pos c0]
 exact⟨_,rfl,yq0,by rw[Z];rfl,(λh=>absurd h (by rw[Z];exact c0)),(q1.z3 q2 q3 q4)⟩;have d5:=v8s (Classical.not_not.1 c0);refine sk (tn (sq (sr (mv U U (cl (ev1 U) (mkC func111) (y7l _ _) U ?_)))));rintro _ w5 ⟨rfl,q5⟩;have z5:=q5.size;refine nt' U (nn (cd U (λc1=>?_) (λc1=>?_)));refine sr (z1y (cs:=[_,_,_,_,_]) z0f x3n z0s U ?_);replace D:=D.ext (q3.n1 q5);refine z0k (vs:=[_,_,_,_,_]) U D z7i (λw6 D q6 z6=>?_) (h1:=(by first|(simp[Value.oneCell',S];done)|exact z2e.one (l.getD i pa0)));refine asg U (nn (rt (tr (rCT results196 U D z7g U ?_))));have Z:goE q.p pl l=1:=by unfold goE;rw[if_neg c0,if_pos (by simpa using c1)]
 exact⟨_,rfl,yq0,by rw[Z];rfl,(λh=>absurd h (by rw[Z];decide)),(q1.z4 q2 q3 q5 q6)⟩;refine sk (tn (sq (sr (mv U U (lnS U underlying30 (mv U U (nn (bl (lpK (ι:=Nat) [(1,_),(2,_),(3,_),(6,_),(22,_),(23,_)] (λi=>[(24,.int .i64 (i:Int))]) (λi w'=>Fr [] w5 w'/\i<=l.length/\∀j,j<i->y1w (l.getD j pa0)) (λi=>l.length-i) 0 (.c7 U U U U U U U) ⟨Fr.refl _ _,⟨Nat.zero_le _,λj h=>absurd h oo⟩⟩ ?_)))))))));rintro i w7 ⟨q7,⟨hi,hg⟩⟩;have z7:=q7.size;refine kpC [(1,_),(2,_),(3,_),(6,_),(22,_),(23,_),(24,_)] (.c7 U U U U U U U) (sr (lt' U (nn (sq (cd U (λc2=>?_) (λc2=>?_))))));refine sk (tn (sq (bl (sr ?_))));replace hs:=b6.ext (q1.n4 q2 q3 q5 q7);refine z1d (pa0) U hs U y0r z1g (λe3 b4=>?_);refine z1l U (b4 _ hs) x1j (al u2z U (λf1 w8 e5 a4 q8 z8=>?_));refine z0k (vs:=[_,_,_,_]) U a4 u6d (λw9 a4 q9 z9=>?_) (h1:=(by first|(simp[Value.oneCell',S];done)|exact z2e.one (l.getD i pa0)));refine nn (sr (z0n U a4 x1j (cl (ev1 U) (mkC func112) (x9x (l.getD i pa0) _) U ?_)));rintro _ f8 ⟨rfl,a7⟩;have h2:=a7.size;refine nt' U (nn (cd U (λc3=>?_) (λc3=>?_)));refine sr (z1y (cs:=[_,_,_,_,_]) z0f x3n z0s U ?_);replace D:=((D.ext (q3.n3 q5 q7 q8)).fr q9).ext a7;refine z0k (vs:=[_,_,_,_,_]) U D z7i (λf9 D d6 h3=>?_) (h1:=(by first|(simp[Value.oneCell',S];done)|exact z2e.one (l.getD i pa0)));refine asg U (kpL [(6,_),(7,_)] (.c2 U U) (nn (rt (rb (tr (tr (rb (tr (rCT results196 U D z7g U ?_)))))))));have Z:goE q.p pl l=1:=by unfold goE;rw[if_neg c0,if_neg (by simpa using c1),if_pos (λa3=>(by simpa using c3:¬y1w (l.getD i pa0)) (a3 _ (z0z oo)))]
 exact⟨_,rfl,yq0,by rw[Z];rfl,(λh=>absurd h (by rw[Z];decide)),(((q1.z6 q2 q3 q5 q7 q8 q9).n1 a7).z1 d6)⟩;refine sk (bn' (tn (rg (z1b U (wi6 oo) (mv U U (nl ?_))))));exact lpE (i+1) (.c7 U U U U U U U) ⟨(q7.z3 q8 q9 a7),⟨oo,λj hj=>by
  by_cases e:j<i;exact hg j e;obtain rfl:j=i:=by omega
  exact Classical.not_not.1 (by simpa using c3)⟩⟩ oo
 obtain rfl:i=l.length:=by omega
 have a3:u6b l:=λp d4=>by
  obtain⟨j,hj,rfl⟩:=List.getElem_of_mem d4;have:=hg j hj;rwa [List.getD,List.getElem?_eq_getElem hj]at this
 refine ex (te (te (xh (tn (sq (sr (fad U y1p ?_)))))));replace I:=I.ext (q3.n2 q5 q7);refine z0i U I U na4 (nt' U (kpL [(1,_),(2,_),(3,_),(6,_),(35,_)] (.c5 U U U U U) (nn (cd U (λc4=>?_) (λc4=>?_)))));refine sr (z1y (cs:=[_,_,_,_,_]) z0f x3n z0s U ?_);replace D:=D.ext (q3.n2 q5 q7);refine z0k (vs:=[_,_,_,_,_]) U D z7i (λg0 D d7 h4=>?_) (h1:=(by first|(simp[Value.oneCell',S];done)|exact z2e.one (l.getD i pa0)));refine asg U (nn (rt (tr (rCT results196 U D z7g U ?_))));have Z:goE q.p pl l=12:=by unfold goE;rw[if_neg c0,if_neg (by simpa using c1),if_neg (λe=>e a3),if_pos (by simpa using c4)]
 exact⟨_,rfl,yq0,by rw[Z];rfl,(λh=>absurd h (by rw[Z];decide)),(q1.z5 q2 q3 q5 q7 d7)⟩;have d0:q.inn=true:=(by simpa using c4);have b7:=d5.2;rw[if_pos d0]at b7;have f5:q.pes.length<=4096:=b7.2.1;refine sk (tn (sr (fad U y0e (z0i U I U x4v (lnS U underlying30 (mv U U (lnS U underlying30 (z1b U (wi6 oo) (z1e (m:=0) (c:=(q.pe.2.1+l.length)) (pa0) U y0r u2z U (λb3 g1 e6 ho a1 h5=>(asg U (kpL [(1,_),(2,_),(3,_),(6,_),(11,_)] (.c5 U U U U U) (nn (sr (mv U U (fad U y0e ?_))))))))))))))));replace I:=I.ext a1;refine z0i U I U x4v ?_;replace D:=D.ext (q3.n3 q5 q7 a1);replace hp:=b5.ext (q1.n5 q2 q3 q5 q7 a1);have J:=ho;refine z2l U ho hp y0r (λb9 e0 ho a2 d1=>?_) (hM:=(by unfold maxLen;simp only[List.length_replicate];omega)) (hb:=(by simp only[List.length_replicate];omega));have h6:=a2.size;replace I:=I.fr a2 (λM=>by have:=(J.blk _ M).1;omega);replace D:=D.fr a2 (λM=>by have:=(J.blk _ M).1;omega);replace ho:Lw.Own z2e 97 b3 e0 b9 q.pes:=ho;refine mv U U ?_;replace hs:=b6.ext ((q1.n5 q2 q3 q5 q7 a1).step a2 (λk M a6=>absurd (J.blk k M).1 oo));refine cl (ev2 U) (mkC func252) (v6y b3 b9 _ q.pes l _ ho hs (λk M=>by have:=hv k M;omega) oo oo) U ?_;rintro e9 g7 ⟨e8,ho,a0,a5⟩;replace I:=I.fr a5 (λM=>by have:=a0 _ M;omega);replace D:=D.fr a5 (λM=>by have:=a0 _ M;omega);have h7:=a5.size;have f7:=z6i l q.pes;obtain⟨e7,f0,rfl,e4⟩:=ho.sl.form;refine asg U (kpL [(1,_),(3,_),(6,_),(11,_)] (.c4 U U U U) (nn (sq (sr (mv U U (lnS U underlying30 (gt' U (nn (cd U (λc5=>?_) (λc5=>?_))))))))));refine sr (z1y (cs:=[_,_,_,_,_]) z0f x3n z0s U ?_);refine z0k (vs:=[_,_,_,_,_]) U D z7i (λg8 D d9 h8=>?_) (h1:=(by first|(simp[Value.oneCell',S];done)|exact z2e.one (l.getD i pa0)));refine asg U (nn (rt (tr (rCT results196 U D z7g U ?_))));have Z:goE q.p pl l=3:=by unfold goE;rw[if_neg c0,if_neg (by simpa using c1),if_neg (λe=>e a3),if_neg (by simpa using c4),if_pos (by show 4096<(z4o q.pes l).length;omega)]
 exact⟨_,rfl,yq0,by rw[Z];rfl,(λh=>absurd h (by rw[Z];decide)),((((q1.n5 q2 q3 q5 q7 a1).step a2 (λk M a6=>absurd (J.blk k M).1 oo)).step a5 (λk M a6=>absurd (a0 k M) oo)).sp d9)⟩;refine sk (tn (sr (mv U U (fad U z7m (z3p U I U sz3 (λe1 I a9 h9=>?_))))));replace I:Blk e1 g3 _ [_,_,_,_,_]:=I;refine nn (sr (mv U U ?_));replace ho:=ho.fr a9 (by first|exact z8w ho oo|simp[z0u]<;>omega);refine cl (ev1 U) (mkC func253) (z9o _ _ _ ho.sl oo) U ?_;rintro _ g9 ⟨c9,rfl,O,a8⟩;have i0:=a8.size;refine fad U y0e ?_;replace I:=I.ext a8;refine z3p U I U k1i (λe2 I b0 i1=>?_);replace I:Blk e2 g3 _ [_,_,_,_,_]:=I;refine nn (sr (z0n U I z7g ?_));replace D:=((D.fr a9).ext a8).fr b0;refine z0k (vs:=[_,_,_,_,_]) U D z7i (λh0 D b8 i2=>?_) (h1:=(by first|(simp[Value.oneCell',S];done)|exact z2e.one (l.getD i pa0)));refine asg U (nn (rt (rCT results196 U D z7g U ?_)));replace O:=(O.fr b0 (by first|exact z8w O oo|simp[z0u]<;>omega)).fr b8 (by first|exact z8w O oo|simp[z0u]<;>omega);have Z:goE q.p pl l=0:=by unfold goE;rw[if_neg c0,if_neg (by simpa using c1),if_neg (λe=>e a3),if_neg (by simpa using c4),if_neg (by show ¬4096<(z4o q.pes l).length;omega)]
 exact⟨_,rfl,⟨q.inn,pl,q.ct,q.nw,(c9,(z4o q.pes l).length,(z4o q.pes l).length),z4o q.pes l⟩,by rw[Z],(λ_=>⟨rfl,O.low oo⟩),(((((((q1.n5 q2 q3 q5 q7 a1).step a2 (λk M a6=>absurd (J.blk k M).1 oo)).step a5 (λk M a6=>absurd (a0 k M) oo)).sp a9).next a8).sp b0).sp b8)⟩
theorem x6p:z3q prog 296 3:=⟨λ_=>kr,λ_=>kr⟩
theorem v4t:BuildAt prog 296 [(0,1),(1,1),(2,1)] [(.int .i64 0),(.bool false),(.slice none 0 0)]:=BuildAt.struct underlying296 (λ_=>kr) (λ_=>kr)
theorem x3k:z1q prog 296 3:=λ_=>kr
theorem x1y (w:World):(zeroValue 296).run prog w=.ok (.agg #[(.int .i64 0),(.bool false),(.slice none 0 0)]) w:=kr
theorem y1v (q:YQ)(w0:World)(hp:Sl z2e w0 (slv q.pe) q.pes)(hv:∀k∈z0u (slv q.pe),k<w0.heap.size):Rets prog 200 #[.agg #[.bool q.inn,.int .i64 q.pl,.int .i64 q.ct,.bool q.nw,.slice q.pe.1 q.pe.2.1 q.pe.2.2]] w0 λr w'=>∃(q':YQ) (n:Int) (nw:Bool) (s:SV) (ps:List Pa),r=.tuple #[.agg #[.bool q'.inn,.int .i64 q'.pl,.int .i64 q'.ct,.bool q'.nw,.slice q'.pe.1 q'.pe.2.1 q'.pe.2.2],.agg #[.int .i64 n,.bool nw,.slice s.1 s.2.1 s.2.2],.int .i64 (mkE q.p)]/\(mkE q.p=0->q'=⟨true,q.pl,q.ct+1,false,sv0,[]⟩/\n=q.ct/\nw=q.nw/\ps=q.pes/\Lw.Own z2e 97 w0.heap.size w' (slv s) ps)/\Fr [] w0 w':=by
 have f9:=z1z hp;have e6:=hp.len_le;unfold maxLen at e6;refine we [(0,.agg #[.bool q.inn,.int .i64 q.pl,.int .i64 q.ct,.bool q.nw,.slice q.pe.1 q.pe.2.1 q.pe.2.2])] func200 U ntmps200 U (.cons U .nil) ?_;have d9:=hp;refine sr (bx U (λg1 w1 f5 M q1 z1=>(al y3y U (λg2 w2 f6 D q2 z2=>(al x1y U (λg3 w3 f7 I q3 z3=>(asg U (nn (sq (sr ?_))))))))));replace M:=M.ext (q2.n1 q3);refine z0n U M z7g ?_;replace hp:=d9.ext (q1.n2 q2 q3);refine cl (ev1 U) j9f (z8q q _ hp) U ?_;rintro _ w4 ⟨rfl,q4⟩;have z4:=q4.size;refine asg U (nn (sr (mv U U (ne' U (nn (cd U (λc0=>?_) (λc0=>?_)))))));refine sr (z1y (cs:=[_,_,_,_,_]) z0f x3n z0s U ?_);refine z1y (cs:=[_,_,_]) z0f v4t z0s U ?_;refine mv U U ?_;replace D:=D.ext (q3.n1 q4);refine z0k (vs:=[_,_,_,_,_]) U D z7i (λw5 D q5 z5=>?_);replace I:=(I.ext q4).fr q5;refine z0k (vs:=[_,_,_]) U I x3k (λw6 I q6 z6=>(asg U (kpL [(2,_),(3,_),(4,_)] (.c3 U U U) (nn (rt (tr ?_))))));replace D:=D.fr q6;refine j8q results200 U D z7g U I x6p U ?_;have he:mkE q.p=ynE q.p:=by unfold mkE;rw[if_pos c0]
 exact⟨_,rfl,yq0,0,false,sv0,[],by rw[he];rfl,(λh=>absurd h (by rw[he];exact c0)),(q1.z5 q2 q3 q4 q5 q6)⟩;have e0:=v8s (Classical.not_not.1 c0);refine sk (tn (sq (sr (fad U y1p ?_))));replace M:=M.ext q4;refine z0i U M U na4 (nt' U (nn (cd U (λc1=>?_) (λc1=>?_))));refine sr (z1y (cs:=[_,_,_,_,_]) z0f x3n z0s U ?_);refine z1y (cs:=[_,_,_]) z0f v4t z0s U ?_;replace D:=D.ext (q3.n1 q4);refine z0k (vs:=[_,_,_,_,_]) U D z7i (λw7 D q7 z7=>?_);replace I:=(I.ext q4).fr q7;refine z0k (vs:=[_,_,_]) U I x3k (λw8 I q8 z8=>(asg U (nn (rt (tr ?_)))));replace D:=D.fr q8;refine j8q results200 U D z7g U I x6p U ?_;have he:mkE q.p=12:=by unfold mkE;rw[if_neg c0,if_pos (by simpa using c1)]
 exact⟨_,rfl,yq0,0,false,sv0,[],by rw[he];rfl,(λh=>absurd h (by rw[he];decide)),(q1.z5 q2 q3 q4 q7 q8)⟩;have e5:q.inn=true:=(by simpa using c1);have e1:=e0.2;rw[if_pos e5]at e1;have f8:q.pes.length<=4096:=e1.2.1;have f4:0<=q.ct/\q.ct<=2048:=e0.1;refine sk (tn (sq (sr (fad U y1q (z0i U M U na3 (eq' U (nn (cd U (λc2=>?_) (λc2=>?_)))))))));refine sr (z1y (cs:=[_,_,_,_,_]) z0f x3n z0s U ?_);refine z1y (cs:=[_,_,_]) z0f v4t z0s U ?_;replace D:=D.ext (q3.n1 q4);refine z0k (vs:=[_,_,_,_,_]) U D z7i (λw9 D q9 z9=>?_);replace I:=(I.ext q4).fr q9;refine z0k (vs:=[_,_,_]) U I x3k (λg0 I e2 g9=>(asg U (nn (rt (tr ?_)))));replace D:=D.fr e2;refine j8q results200 U D z7g U I x6p U ?_;have he:mkE q.p=3:=by unfold mkE;rw[if_neg c0,if_neg (by simpa using c1),if_pos c2]
 exact⟨_,rfl,yq0,0,false,sv0,[],by rw[he];rfl,(λh=>absurd h (by rw[he];decide)),(q1.z5 q2 q3 q4 q9 e2)⟩;refine sk (tn (sq ?_));replace hp:=d9.ext (q1.n3 q2 q3 q4);intro a h;refine z0h none (λwb w'=>Fr [] wb w') z2m ?_;intro d7 b5;have h0:=b5.size;replace hp:=hp.ext b5;replace M:=M.ext b5;replace D:=D.ext (q3.n2 q4 b5);replace I:=I.ext (q4.n1 b5);have hC:Fr [] d7 d7:=Fr.refl _ _;have d5:=hp;have O:=M;have a2:=D;have a3:=I;refine z0c 0 h U y1q U λa h=>z0j 1 h U (λ_ hw=>O.ext hw) U na3 U λa h=>z0c 2 h U u7c U λa h=>z0j 3 h U (λ_ hw=>O.ext hw) U na4 U λa h=>z0c 4 h U y0e U λa h=>z0j 5 h U (λ_ hw=>O.ext hw) U x4v U λa h=>z1x 6 8 kr U ?_ ?_;refine z0o h (z0a U z0f) (mkC func253) (z9o _ _ _ hp oo) ?_;rintro _ e7 ⟨d6,rfl,J,b6⟩ a h;have h1:=b6.size;replace M:=M.ext b6;replace D:=D.ext b6;replace I:=I.ext b6;replace hC:=hC.next b6;have b4:=λk hk=>(J.blk k hk).2;refine z0b (z2z (cs:=[_,_,_]) 7 h (z0a U (z0a U (z0a U z0f))) v4t (z0g U (z0g U (z0g U z0s))) U U λa h=>z0d 8 U ?_);refine z0w h x1y U λg6 Z a8 hz a h=>?_;obtain⟨a6,hg⟩:∃g,g=e7.heap.size:=⟨_,rfl⟩;rw[<-hg]at Z h hz;have a5:g1<a6:=by have:=M.lt;omega
 have a5:g2<a6:=by have:=D.lt;omega
 have a5:g3<a6:=by have:=I.lt;omega
 have h2:=a8.size;replace hp:=hp.ext (b6.n1 a8);replace M:=M.ext a8;replace D:=D.ext a8;replace I:=I.ext a8;replace J:=J.ext a8;replace hC:=hC.next a8;refine z0b (z0d 9 U (z0t h U Z U x3k λe8 a1 a9 hz a h=>?_));have h3:=a9.size;replace hp:=hp.fr a9 (by intro k hk a0;simp at hk;subst hk;have:=hv _ a0;omega);replace M:=M.fr a9;replace D:=D.fr a9;replace I:=I.fr a9;replace J:=J.fr a9 (by intro k hk a0;simp at hk;subst hk;have d4:=b4 _ a0;have:=J.blk _ a0;omega);replace hC:=hC.sp a9;clear Z hz;have Z:Blk e8 a6 _ [_,_,_]:=a1;clear a1;refine z0b (z0p ?_);clear hC d5 O a2 a3;refine bk (h.sub (L':=[(1,_),(2,_),(3,_),(6,_)]) (.c4 U U U U)) (tn (sq ?_));intro a h;refine z0h none (λwb w'=>Fr [g2,g3] wb w') z2m ?_;intro e3 b7;have h4:=b7.size;replace M:=M.ext b7;replace D:=D.ext b7;replace I:=I.ext b7;replace J:=J.ext b7;replace Z:=Z.ext b7;have hC:Fr [g2,g3] e3 e3:=Fr.refl _ _;have O:=M;have a2:=D;have a3:=I;have a7:=J;have a4:=Z;refine z0c 0 h U z7m U λa h=>z0j 1 h U (λ_ hw=>O.fr hw so) U na3 U λa h=>z0c 2 h U y1q U λa h=>z0j 3 h U (λ_ hw=>O.fr hw so) U na3 U λa h=>z4m 4 h U (by first|exact i6 oo|rfl) U λa h=>z2z (cs:=[_,_,_,_,_]) 5 h (z0a U (z0a U (z0a U z0f))) x3n (z0g U (z0g U (z0g U z0s))) U U λa h=>z0v 6 h U (λ_ hw=>a4.fr hw so) x6p U λa h=>z0d 7 U ?_;refine z0t h U D U z7i λe9 a1 b8 hz a h=>?_;have h5:=b8.size;replace M:=M.fr b8;replace I:=I.fr b8;replace J:=J.fr b8 (by intro k hk a0;simp at hk;subst hk;have d4:=b4 _ a0;have:=J.blk _ a0;omega);replace Z:=Z.fr b8;replace hC:=hC.sp b8;clear D hz;have D:Blk e9 g2 _ [_,_,_,_,_]:=a1;clear a1;refine z0b (z0d 8 U (z0t h U I U x3k λf0 a1 b9 hz a h=>?_));have h6:=b9.size;replace M:=M.fr b9;replace D:=D.fr b9;replace J:=J.fr b9 (by intro k hk a0;simp at hk;subst hk;have d4:=b4 _ a0;have:=J.blk _ a0;omega);replace Z:=Z.fr b9;replace hC:=hC.sp b9;clear I hz;have I:Blk f0 g3 _ [_,_,_]:=a1;clear a1;refine z0b (z0d 9 U (z0r h U λa h=>?_));refine z0b (z0p ?_);clear hC O a2 a3 a7 a4;refine bk (h.sub (L':=[(2,_),(3,_),(4,_)]) (.c3 U U U)) (tn (rt (j8q results200 U D z7g U I x6p U ?_)));have he:mkE q.p=0:=by unfold mkE;rw[if_neg c0,if_neg (by simpa using c1),if_neg c2]
 exact⟨_,rfl,⟨true,q.pl,q.ct+1,false,sv0,[]⟩,q.ct,q.nw,(d6,q.pes.length,q.pes.length),q.pes,by rw[he];rfl,(λ_=>⟨rfl,rfl,rfl,rfl,J.low oo⟩),((((q1.n6 q2 q3 q4 b5 b6 a8).z1 a9).n1 b7).z2 b8 b9)⟩;refine z0w h x1y U λg7 Z c9 hz a h=>?_;obtain⟨a6,hg⟩:∃g,g=d7.heap.size:=⟨_,rfl⟩;rw[<-hg]at Z h hz;have a5:g1<a6:=by have:=M.lt;omega
 have a5:g2<a6:=by have:=D.lt;omega
 have a5:g3<a6:=by have:=I.lt;omega
 have h7:=c9.size;replace hp:=hp.ext c9;replace hC:=hC.next c9;refine z0b (z0d 6 U (z0o h (z0a U z0f) (mkC func253) (z9o _ _ _ hp oo) ?_));rintro _ g8 ⟨d6,rfl,J,b0⟩ a h;have h8:=b0.size;replace hp:=hp.ext b0;replace M:=M.ext (c9.n1 b0);replace D:=D.ext (c9.n1 b0);replace I:=I.ext (c9.n1 b0);replace Z:=Z.ext b0;replace hC:=hC.next b0;have b4:=λk hk=>(J.blk k hk).2;refine z0b (z2z (cs:=[_,_,_]) 7 h (z0a U (z0a U (z0a U z0f))) v4t (z0g U (z0g U (z0g U z0s))) U U λa h=>z0d 9 U ?_);refine z0t h U Z U x3k λf1 a1 b3 hz a h=>?_;have h9:=b3.size;replace hp:=hp.fr b3 (by intro k hk a0;simp at hk;subst hk;have:=hv _ a0;omega);replace M:=M.fr b3;replace D:=D.fr b3;replace I:=I.fr b3;replace J:=J.fr b3 (by intro k hk a0;simp at hk;subst hk;have d4:=b4 _ a0;have:=J.blk _ a0;omega);replace hC:=hC.sp b3;clear Z hz;have Z:Blk f1 a6 _ [_,_,_]:=a1;clear a1;refine z0b (z0p ?_);clear hC d5 O a2 a3;refine bk (h.sub (L':=[(1,_),(2,_),(3,_),(6,_)]) (.c4 U U U U)) (tn (sq ?_));intro a h;refine z0h none (λwb w'=>Fr [g2,g3] wb w') z2m ?_;intro e4 d0;have i0:=d0.size;replace M:=M.ext d0;replace D:=D.ext d0;replace I:=I.ext d0;replace Z:=Z.ext d0;replace J:=J.ext d0;have hC:Fr [g2,g3] e4 e4:=Fr.refl _ _;have O:=M;have a2:=D;have a3:=I;have a4:=Z;have a7:=J;refine z0c 0 h U z7m U λa h=>z0j 1 h U (λ_ hw=>O.fr hw so) U na3 U λa h=>z0c 2 h U y1q U λa h=>z0j 3 h U (λ_ hw=>O.fr hw so) U na3 U λa h=>z4m 4 h U (by first|exact i6 oo|rfl) U λa h=>z2z (cs:=[_,_,_,_,_]) 5 h (z0a U (z0a U (z0a U z0f))) x3n (z0g U (z0g U (z0g U z0s))) U U λa h=>z0v 6 h U (λ_ hw=>a4.fr hw so) x6p U λa h=>z0d 7 U ?_;refine z0t h U D U z7i λf2 a1 d1 hz a h=>?_;have i1:=d1.size;replace M:=M.fr d1;replace I:=I.fr d1;replace Z:=Z.fr d1;replace J:=J.fr d1 (by intro k hk a0;simp at hk;subst hk;have d4:=b4 _ a0;have:=J.blk _ a0;omega);replace hC:=hC.sp d1;clear D hz;have D:Blk f2 g2 _ [_,_,_,_,_]:=a1;clear a1;refine z0b (z0d 8 U (z0t h U I U x3k λf3 a1 d3 hz a h=>?_));have i2:=d3.size;replace M:=M.fr d3;replace D:=D.fr d3;replace Z:=Z.fr d3;replace J:=J.fr d3 (by intro k hk a0;simp at hk;subst hk;have d4:=b4 _ a0;have:=J.blk _ a0;omega);replace hC:=hC.sp d3;clear I hz;have I:Blk f3 g3 _ [_,_,_]:=a1;clear a1;refine z0b (z0d 9 U (z0r h U λa h=>?_));refine z0b (z0p ?_);clear hC O a2 a3 a4 a7;refine bk (h.sub (L':=[(2,_),(3,_),(4,_)]) (.c3 U U U)) (tn (rt (j8q results200 U D z7g U I x6p U ?_)));have he:mkE q.p=0:=by unfold mkE;rw[if_neg c0,if_neg (by simpa using c1),if_neg c2]
 exact⟨_,rfl,⟨true,q.pl,q.ct+1,false,sv0,[]⟩,q.ct,q.nw,(d6,q.pes.length,q.pes.length),q.pes,by rw[he];rfl,(λ_=>⟨rfl,rfl,rfl,rfl,J.low oo⟩),((((q1.n6 q2 q3 q4 b5 c9 b0).z1 b3).n1 d0).z2 d1 d3)⟩
theorem x2u (q:YQ)(d:Int)(w0:World)(hp:Sl z2e w0 (slv q.pe) q.pes):Rets prog 144 #[.agg #[.bool q.inn,.int .i64 q.pl,.int .i64 q.ct,.bool q.nw,.slice q.pe.1 q.pe.2.1 q.pe.2.2],.int .u8 d] w0 λr w'=>∃O:YQ,r=.tuple #[.agg #[.bool O.inn,.int .i64 O.pl,.int .i64 O.ct,.bool O.nw,.slice O.pe.1 O.pe.2.1 O.pe.2.2],.int .i64 (enE q.p d)]/\(enE q.p d=0->O=⟨true,if d=1 then 179 else -13,q.ct,true,sv0,[]⟩)/\Fr [] w0 w':=by
 have a4:=z1z hp;have a1:=hp.len_le;unfold maxLen at a1;refine we [(0,.agg #[.bool q.inn,.int .i64 q.pl,.int .i64 q.ct,.bool q.nw,.slice q.pe.1 q.pe.2.1 q.pe.2.2]),(1,.int .u8 d)] func144 U ntmps144 U (.c2 U U) ?_;have a0:=hp;refine sr (bx U (λg2 w1 a2 I q1 z1=>(al y3y U (λg4 w2 a3 D q2 z2=>(asg U (nn (sq (sr ?_))))))));replace I:=I.ext q2;refine z0n U I z7g ?_;replace hp:=a0.ext (q1.n1 q2);refine cl (ev1 U) j9f (z8q q _ hp) U ?_;rintro _ w3 ⟨rfl,M⟩;refine asg U (nn (sr (mv U U (ne' U (nn (cd U (λc0=>?_) (λc0=>?_)))))));refine sr (z1y (cs:=[_,_,_,_,_]) z0f x3n z0s U ?_);refine mv U U ?_;replace D:=D.ext M;refine z0k (vs:=[_,_,_,_,_]) U D z7i (λw4 D q4 z4=>(asg U (kpL [(4,_),(5,_)] (.c2 U U) (nn (rt (tr (rCT results144 U D z7g U ?_)))))));have J:enE q.p d=ynE q.p:=by unfold enE;rw[if_pos c0]
 exact⟨_,rfl,yq0,by rw[J];rfl,(λh=>absurd h (by rw[J];exact c0)),(q1.z3 q2 M q4)⟩;refine sk (tn (sq (sr (mv U U (cl (ev1 U) (mkC func157) (y4i _ _) U ?_)))));rintro _ w5 ⟨rfl,Z⟩;refine nt' U (nn (cd U (λc1=>?_) (λc1=>?_)));refine sr (z1y (cs:=[_,_,_,_,_]) z0f x3n z0s U ?_);replace D:=D.ext (M.n1 Z);refine z0k (vs:=[_,_,_,_,_]) U D z7i (λw6 D q6 z6=>(asg U (nn (rt (tr (rCT results144 U D z7g U ?_))))));have J:enE q.p d=1:=by unfold enE;rw[if_neg c0,if_pos (by simpa using c1)]
 exact⟨_,rfl,yq0,by rw[J];rfl,(λh=>absurd h (by rw[J];decide)),(q1.z4 q2 M Z q6)⟩;refine sk (tn (sq (sr (fad U y1p ?_))));replace I:=I.ext (M.n1 Z);refine z0i U I U na4 (nn (cd U (λc2=>?_) (λc2=>?_)));refine sr (z1y (cs:=[_,_,_,_,_]) z0f x3n z0s U ?_);replace D:=D.ext (M.n1 Z);refine z0k (vs:=[_,_,_,_,_]) U D z7i (λw7 D q7 z7=>(asg U (nn (rt (tr (rCT results144 U D z7g U ?_))))));have J:enE q.p d=12:=by unfold enE;rw[if_neg c0,if_neg (by simpa using c1),if_pos (by simpa using c2)]
 exact⟨_,rfl,yq0,by rw[J];rfl,(λh=>absurd h (by rw[J];decide)),(q1.z4 q2 M Z q7)⟩;refine sk (tn (sr (asg U (nn (jn (ι:=Unit) [(2,_),(4,_)] (λ_j=>[(7,.int .i64 (if d=1 then 179 else -13))]) (λ_j w'=>Fr [] w5 w') (.c2 U U) ?_ ?_)))));refine sr (mv U U (eq' U (nn (cd U (λc3=>?_) (λc3=>?_)))));refine rg (asg U (nl ?_));exact jE (()) (.c3 U U (congrArg (λq=>some (Value.int .i64 q)) (by first|exact(if_pos c3).symm|exact(if_neg c3).symm))) (Fr.refl _ _);refine sk ?_;exact jE (()) (.c3 U U (congrArg (λq=>some (Value.int .i64 q)) (by first|exact(if_pos c3).symm|exact(if_neg c3).symm))) (Fr.refl _ _);rintro _j w8 q8;refine kpC [(2,_),(4,_),(7,_)] (.c3 U U U) (sr (mv U U (fad U y1q ?_)));replace I:=I.ext q8;refine z0i U I U na3 (z1y (cs:=[_,_,_,_,_]) (ev4 U) x3n (z0g U (z0g U (z0g U (z0g U z0s)))) U ?_);replace D:=D.ext (M.n2 Z q8);refine z0k (vs:=[_,_,_,_,_]) U D z7i (λw9 D q9 z9=>(asg U (kpL [(4,_),(5,_)] (.c2 U U) (nn (rt (rCT results144 U D z7g U ?_))))));have J:enE q.p d=0:=by unfold enE;rw[if_neg c0,if_neg (by simpa using c1),if_neg (by simpa using c2)]
 exact⟨_,rfl,⟨true,if d=1 then 179 else -13,q.ct,true,sv0,[]⟩,by rw[J];rfl,(λ_=>rfl),(q1.z5 q2 M Z q8 q9)⟩
end Go.Proofs.YtjilcnmaefhmeaaGreatDoor
namespace Go.G21
open Go.Lw
def nd (T:Tb)(y:Nat)(n:Int):List LId:=z4r (lpA T y n.toNat)
def InM (ms:List Int)(i:LId):Prop:=i.n<ms.getD (i.y-1).toNat 0
def Has (T:Tb):Prop:=T.length=6/\∀y,y<6->∀n,n<z3b T y->∀i∈z4r (lpA T y n),z3r T i
theorem Has.nm {T:Tb}(h:Has T){y n:Nat}(hy:y<6)(hn:n<z3b T y){i:LId}(hi:i∈z4r (lpA T y n)):∃J M:Nat,J<6/\M<z3b T J/\i=⟨(J:Int)+1,(M:Int)⟩:=by
 obtain⟨O,Z,h3,h4⟩:=h.2 y hy n hn i hi;have:=h.1;obtain⟨I,D⟩:=i;simp only at O Z h3 h4;refine⟨(I-1).toNat,D.toNat,oo,oo,?_⟩;rw[show (((I-1).toNat:Nat):Int)+1=I by omega,show ((D.toNat:Nat):Int)=D by omega]
theorem y8i {ms:List Int}{y n:Nat}:InM ms ⟨(y:Int)+1,(n:Int)⟩↔(n:Int)<ms.getD y 0:=by
 unfold InM;show (n:Int)<ms.getD ((y:Int)+1-1).toNat 0↔_;rw[show ((y:Int)+1-1).toNat=y by omega]
theorem v0w:∀(l:List Int) (j:Nat) (v:Int),j<l.length->(l.set j v).sum=l.sum-l.getD j 0+v
 | a::l,0,v,_=>by simp;omega
 | a::l,j+1,v,h=>by
  have:=v0w l j v (by simpa using h)
  simp only[List.set_cons_succ,List.sum_cons,List.getD_cons_succ]at this ⊢;omega
theorem y9t:∀(l:List Int) (T:Tb),l.length=T.length->(∀i,i<l.length->l.getD i 0<=(z3b T i:Int))->l.sum<=(z4f T:Int)/\(l.sum=(z4f T:Int)->∀i,i<l.length->l.getD i 0=(z3b T i:Int))/\((∀i,i<l.length->l.getD i 0=(z3b T i:Int))->l.sum=(z4f T:Int))
 | [],[],_,_=>⟨by simp[z4f],λ_ i D=>by simp at D,λ_=>by simp[z4f]⟩
 | [],_::_,h,_=>by simp at h
 | _::_,[],h,_=>by simp at h
 | a::l,r::T,h,hb=>by
  obtain⟨h1,J,M⟩:=y9t l T (by simpa using h) (λi D=>by simpa[z3b] using hb (i+1) (by simpa using D))
  have h0:a<=(r.length:Int):=by simpa[z3b] using hb 0 sp0
  have e:(z4f (r::T):Int)=(r.length:Int)+(z4f T:Int):=by simp[z4f]
  rw[List.sum_cons,e]
  refine⟨oo,λhs i D=>?_,λI=>?_⟩
  ·cases i with
   | zero=>show a=(r.length:Int);omega
   | succ i=>simpa[z3b] using J oo i (by simpa using D)
  have O:a=(r.length:Int):=by simpa[z3b] using I 0 sp0
  have Z:=M (λi D=>by simpa[z3b] using I (i+1) (by simpa using D))
  omega
structure FstI (T:Tb) (ms ts:List Int) (N:Nat):Prop where
  lm:ms.length=6
  lt:ts.length=6
  mb:∀y,y<6->0<=ms.getD y 0/\ms.getD y 0<=(z3b T y:Int)
  tb:∀y,y<6->0<=ts.getD y 0
  td:∀y,y<6->∀k:Nat,(k:Int)<ts.getD y 0->k<(nd T y (ms.getD y 0)).length->InM ms ((nd T y (ms.getD y 0)).getD k id0)
  sum:ms.sum=(N:Int)
  rk:∃rk:LId->Nat,(∀y,y<6->∀n:Nat,(n:Int)<ms.getD y 0->rk ⟨(y:Int)+1,(n:Int)⟩<N/\∀i∈z4r (lpA T y n),InM ms i/\rk i<rk ⟨(y:Int)+1,(n:Int)⟩)/\∀y,y<6->∀n m:Nat,n<m->(m:Int)<ms.getD y 0->rk ⟨(y:Int)+1,(n:Int)⟩<rk ⟨(y:Int)+1,(m:Int)⟩
theorem j8g (y:Nat):(List.replicate 6 (0:Int)).getD y 0=0:=by rw[List.getD,List.getElem?_replicate];split<;>rfl
theorem FstI.init {T:Tb}:FstI T (List.replicate 6 0) (List.replicate 6 0) 0:=
 ⟨rfl,rfl,λy _=>by rw[j8g];omega,λy _=>by rw[j8g];omega,λy _ k I=>by rw[j8g]at I;omega,rfl,λ_=>0,λy _ n D=>by rw[j8g]at D;omega,λy _ n m _ D=>by rw[j8g]at D;omega⟩
theorem z4s {l:List Int}{i:Nat}(h:i<l.length)(v:Int)(j:Nat):(l.set i v).getD j 0=if i=j then v else l.getD j 0:=by
 rw[List.getD,List.getD,List.getElem?_set];split;rename_i e;subst e;first|rfl|(rw[if_pos h];rfl)
 rfl
variable {T:Tb} {ms ts:List Int} {N:Nat}
theorem FstI.there (h:FstI T ms ts N){y:Nat}(I:y<6)(J:InM ms ((nd T y (ms.getD y 0)).getD (ts.getD y 0).toNat id0)):FstI T ms (ts.set y (ts.getD y 0+1)) N:=by
 have Z:y<ts.length:=by rw[h.lt];exact I
 refine⟨h.lm,by rw[List.length_set];exact h.lt,h.mb,λz O=>?_,λz O k M D=>?_,h.sum,h.rk⟩;rw[z4s Z];split;have:=h.tb y I;omega;exact h.tb z O;rw[z4s Z]at M;split at M;rename_i e;subst e;have:=h.tb y I;by_cases e:k=(ts.getD y 0).toNat;rw[e];exact J;exact h.td y I k oo D;exact h.td z O k M D
theorem FstI.push (h:FstI T ms ts N)(hH:Has T){y:Nat}(hy:y<6)(a8:ms.getD y 0<(z3b T y:Int))(a5:((nd T y (ms.getD y 0)).length:Int)<=ts.getD y 0):FstI T (ms.set y (ms.getD y 0+1)) (ts.set y 0) (N+1):=by
 have J:y<ms.length:=by rw[h.lm];exact hy
 have a0:y<ts.length:=by rw[h.lt];exact hy
 have h0:=h.mb y hy;obtain⟨m,hm⟩:=Int.eq_ofNat_of_zero_le h0.1;rw[hm]at a8 a5 ⊢;have a4:∀i,InM ms i->InM (ms.set y ((m:Int)+1)) i:=λi I=>by
  unfold InM at I ⊢;rw[z4s J];split;rename_i e;rw[<-e,hm]at I;omega;exact I
 have a3:∀i∈z4r (lpA T y m),InM ms i:=λi I=>by
  obtain⟨k,M,rfl⟩:=List.getElem_of_mem I;have e:nd T y (ms.getD y 0)=z4r (lpA T y m):=by unfold nd;rw[hm,Int.toNat_natCast]
  have:=h.td y hy k (by
   have e2:((nd T y (m:Int)).length:Int)<=ts.getD y 0:=a5;rw[<-hm,e]at e2;omega) (by rw[e];exact M)
  rw[e,List.getD,List.getElem?_eq_getElem M]at this;exact this
 obtain⟨rk,h1,h2⟩:=h.rk;have D:∀i,InM ms i->¬i=(⟨(y:Int)+1,(m:Int)⟩:LId):=λi I e=>by
  subst e;rw[y8i,hm]at I;omega
 refine⟨by rw[List.length_set];exact h.lm,by rw[List.length_set];exact h.lt,λz Z=>?_,λz Z=>?_,λz Z k M a7=>?_,?_,λi=>if i=⟨(y:Int)+1,(m:Int)⟩ then N else rk i,λz Z n hn=>?_,λz Z n k a9 M=>?_⟩;rw[z4s J];split;rename_i e;subst e;omega;exact h.mb z Z;rw[z4s a0];split;omega;exact h.tb z Z;rw[z4s a0]at M;split at M;omega;rename_i e;rw[z4s J,if_neg e]at a7 ⊢;exact a4 _ (h.td z Z k M a7);rw[v0w _ _ _ J,h.sum,hm];omega;rw[z4s J]at hn;simp only;by_cases e:z=y/\n=m;obtain⟨rfl,rfl⟩:=e;rw[if_pos U];refine⟨oo,λi I=>⟨a4 i (a3 i I),?_⟩⟩;rw[if_neg (D i (a3 i I))];obtain⟨y',n',b0,_,rfl⟩:=hH.nm hy oo I;exact(h1 y' b0 n' (y8i.1 (a3 _ I))).1;have O:(n:Int)<ms.getD z 0:=by
  split at hn;rename_i e2;subst e2;have:n≠m:=λe3=>e ⟨rfl,e3⟩;rw[hm];omega;exact hn
 rw[if_neg (D _ (y8i.2 O))];obtain⟨a1,a2⟩:=h1 z Z n O;refine⟨oo,λi I=>?_⟩;obtain⟨b1,b2⟩:=a2 i I;rw[if_neg (D i b1)];exact⟨a4 i b1,b2⟩;rw[z4s J]at M;simp only;have O:(n:Int)<ms.getD z 0:=by
  split at M;rename_i e2;subst e2;rw[hm];omega;omega
 rw[if_neg (D _ (y8i.2 O))];by_cases e:z=y/\k=m;obtain⟨rfl,rfl⟩:=e;rw[if_pos U];exact(h1 z Z n O).1;have a6:(k:Int)<ms.getD z 0:=by
  split at M;rename_i e2;subst e2;have:k≠m:=λe3=>e ⟨rfl,e3⟩;rw[hm];omega;exact M
 rw[if_neg (D _ (y8i.2 a6))];exact h2 z Z n k a9 a6
theorem FstI.leI (h:FstI T ms ts N)(D:T.length=6):N<=z4f T:=by
 have:=(y9t ms T (by rw[h.lm,D]) (λi I=>(h.mb i (by rw[<-h.lm];exact I)).2)).1;rw[h.sum]at this;omega
def v6f (T:Tb)(ms:List Int)(y:Nat):Prop:=ms.getD y 0=(z3b T y:Int)\/(ms.getD y 0<(z3b T y:Int)/\∃i∈nd T y (ms.getD y 0),¬InM ms i)
theorem FstI.done (h:FstI T ms ts N)(hH:Has T)(hs:∀y,y<6->v6f T ms y)(ho:∃J,Ranked T J):N=z4f T:=by
 obtain⟨J,hr⟩:=ho;have a3:∀k y,y<6->ms.getD y 0<(z3b T y:Int)->J ⟨(y:Int)+1,ms.getD y 0⟩=k->False:=λk=>by
  induction k using Nat.strongRecOn with
  | ind k ih=>
   intro y hy a0 hk;obtain⟨m,hm⟩:=Int.eq_ofNat_of_zero_le (h.mb y hy).1;rcases hs y hy with e|⟨_,i,D,hn⟩
   omega;have O:i∈z4r (lpA T y m):=by unfold nd at D;rw[hm,Int.toNat_natCast]at D;exact D
   rw[hm]at a0 hk;obtain⟨M,n',I,a2,rfl⟩:=hH.nm hy oo O;rw[y8i]at hn;obtain⟨m',a1⟩:=Int.eq_ofNat_of_zero_le (h.mb M I).1;have h1:=hr.need y hy m oo _ O;have h2:J ⟨(M:Int)+1,(m':Int)⟩<=J ⟨(M:Int)+1,(n':Int)⟩:=by
    rcases Nat.lt_or_ge m' n' with h3|h3
    exact Nat.le_of_lt (hr.mono M I m' n' h3 a2);have:m'=n':=by omega
    rw[this];exact Nat.le_refl _
   refine ih (J ⟨(M:Int)+1,(m':Int)⟩) oo M I oo (by rw[a1])
 have:=(y9t ms T (by rw[h.lm,hH.1]) (λi D=>(h.mb i (by rw[<-h.lm];exact D)).2)).2.2 (λi D=>by
  have Z:i<6:=by rw[<-h.lm];exact D
  have h1:=(h.mb i Z).2;rcases Decidable.em (ms.getD i 0<(z3b T i:Int)) with h2|h2
  exact(a3 _ i Z h2 U).elim;omega)
 rw[h.sum]at this;omega
theorem FstI.ord (h:FstI T ms ts N)(hH:Has T)(hN:N=z4f T):∃O,Ranked T O:=by
 have D:=(y9t ms T (by rw[h.lm,hH.1]) (λi J=>(h.mb i (by rw[<-h.lm];exact J)).2)).2.1 (by rw[h.sum,hN]);obtain⟨O,Z,h2⟩:=h.rk;refine⟨O,⟨λy I n hn i J=>?_,λy I n m M hm=>?_⟩⟩;exact((Z y I n (by rw[D y (by rw[h.lm];exact I)];omega)).2 i J).2;exact h2 y I n m M (by rw[D y (by rw[h.lm];exact I)];omega)
end Go.G21
namespace Go.G21
open Go.Lw
def StN (W:Nat)(s:Lst)(i:LId):Prop:=match s with
  | none=>False
  | some (y,f)=>i.y=y/\(f:Int)<=i.n/\i.n<((f+2*W:Nat):Int)
instance (W:Nat) (s:Lst) (i:LId):Decidable (StN W s i):=by unfold StN;split<;>infer_instance
end Go.G21
namespace Go.G21
open Go.Lw
end Go.G21
namespace Go.G21
open Go.Lw
theorem v9j (ts:List TQ)(y:Nat):(z1r ts).getD y []=(ts.getD y tq0).2.map LpQ.p:=by
 rcases Nat.lt_or_ge y ts.length with h|h
 exact v4j (λp:TQ=>p.2.map LpQ.p) ts y tq0 [] h;rw[List.getD,List.getElem?_eq_none (by simpa[z1r] using h),List.getD,List.getElem?_eq_none h];rfl
theorem z3x (ts:List TQ)(y:Nat):z3b (z1r ts) y=(ts.getD y tq0).2.length:=by
 unfold z3b;rw[v9j,List.length_map]
theorem y6r (ts:List TQ)(y n:Nat):lpA (z1r ts) y n=((ts.getD y tq0).2.getD n lq0).p:=by
 unfold lpA;rw[v9j];generalize (ts.getD y tq0).2=l;rw[List.getD,List.getElem?_map,List.getD];cases l[n]?<;>rfl
theorem z2b {ts:List TQ}{i:LId}:z3r (z1r ts) i↔1<=i.y/\i.y<=(ts.length:Int)/\0<=i.n/\i.n<((ts.getD (i.y-1).toNat tq0).2.length:Int):=by
 unfold z3r;rw[z3x];simp only[z1r,List.length_map]
theorem z5b {w:World}{ts:List TQ}(h:TabAt w ts)(y:Nat):(ts.getD y tq0).1.2.1=(ts.getD y tq0).2.length:=by
 rcases Nat.lt_or_ge y ts.length with e|e
 exact z1z (h _ (z0z e)).1;rw[List.getD,List.getElem?_eq_none e];rfl
theorem z7r {w:World}{ts:List TQ}(h:TabAt w ts){y n:Nat}(D:y<ts.length)(hn:n<(ts.getD y tq0).2.length):LpAt w ((ts.getD y tq0).2.getD n lq0):=(h _ (z0z D)).2 _ (z0z hn)
theorem z8z (ts:List TQ):(z1r ts).length=ts.length:=by simp[z1r]
def y0a (T:Tb)(y n:Nat):List LId:=(T.take y).flatMap v0l++((T.getD y []).take n).flatMap Lp.th
theorem v4r (T:Tb):y0a T 0 0=[]:=by simp[y0a]
theorem x1o {T:Tb}{y n:Nat}(h:n<z3b T y):y0a T y (n+1)=y0a T y n++(lpA T y n).th:=by
 unfold y0a lpA;have D:n<(T.getD y []).length:=h;rw[x2w Lp.th _ n lq0.p D,List.append_assoc]
theorem v5a {T:Tb}{y:Nat}(h:y<T.length):y0a T (y+1) 0=y0a T y (z3b T y):=by
 unfold y0a z3b;rw[x2w v0l _ y [] h,List.take_zero,List.take_length];simp[v0l]
theorem u3v {T:Tb}{y:Nat}(h:T.length<=y):y0a T y 0=y0i T:=by
 unfold y0a y0i;rw[List.take_of_length_le h];simp
theorem u4f {T:Tb}{y n:Nat}(D:y<T.length)(i:LId):(y0a T y n).count i<=(y0i T).count i:=by
 have I:y0i T=(T.take y).flatMap v0l++(T.drop y).flatMap v0l:=by unfold y0i;rw[<-List.flatMap_append,List.take_append_drop]
 have J:T.drop y=T.getD y []::T.drop (y+1):=by
  rw[List.drop_eq_getElem_cons D,List.getD,List.getElem?_eq_getElem D];rfl
 have M:v0l (T.getD y [])=((T.getD y []).take n).flatMap Lp.th++((T.getD y []).drop n).flatMap Lp.th:=by
  unfold v0l;rw[<-List.flatMap_append,List.take_append_drop]
 rw[I,J,List.flatMap_cons,M];unfold y0a;simp only[List.count_append];omega
theorem u8w {T:Tb}{y n k:Nat}(M:y<T.length)(hn:n<z3b T y)(D:k<(lpA T y n).th.length):(y0a T y n++(lpA T y n).th.take k).count ((lpA T y n).th.getD k id0)+1<=(y0i T).count ((lpA T y n).th.getD k id0):=by
 have h:=u4f (n:=n+1) M ((lpA T y n).th.getD k id0)
 rw[x1o hn]at h
 generalize lpA T y n=l at *
 generalize y0a T y n=u at *
 have I:l.th=l.th.take k++l.th.getD k id0::l.th.drop (k+1):=by
  conv=>lhs;rw[<-List.take_append_drop k l.th,List.drop_eq_getElem_cons D]
  rw[List.getD,List.getElem?_eq_getElem D];rfl
 have J:=congrArg (List.count (l.th.getD k id0)) I
 rw[List.count_append,List.count_cons_self]at J
 rw[List.count_append]at h ⊢
 omega
def y8w (p:List LId)(i:LId):Value:=.int .i64 ((p.count i:Nat):Int)
theorem y8v (p:List LId)(k:LId):(λk'=>if k'=k then Value.int .i64 (((p.count k:Nat):Int)+1) else y8w p k')=y8w (p++[k]):=by
 funext k';unfold y8w;rw[List.count_append,List.count_singleton];by_cases h:k'=k;subst h;rw[if_pos U,if_pos sp0];rfl;rw[if_neg h,if_neg (by simpa using λe=>h e.symm),Nat.add_zero]
theorem z9m {α:Type}{l:List α}{k:Nat}(d:α)(h:k<l.length):l.take (k+1)=l.take k++[l.getD k d]:=by
 rw[List.take_add_one,List.getElem?_eq_getElem h,List.getD,List.getElem?_eq_getElem h];rfl
structure TabV (T:Tb):Prop where
  ok:TabOk T
  thr:∀i,(y0i T).count i<=1
theorem tabV {T:Tb}{H F:List LId}(h:TabOk T)(hp:PlaceOk T H F):TabV T:=by
 refine⟨h,λi=>?_⟩;by_cases hi:z3r T i;obtain⟨h1,h2,h3,h4⟩:=hi;have h6:=h.six;obtain⟨J,I⟩:=i;simp only at h1 h2 h3 h4;have:=hp.once (J-1).toNat oo I.toNat oo;rw[show (((J-1).toNat:Nat):Int)+1=J by omega,show ((I.toNat:Nat):Int)=I by omega]at this;rw[List.count_append]at this;omega;have:(y0i T).count i=0:=by
  rw[List.count_eq_zero];intro D;unfold y0i v0l at D;obtain⟨r,hr,D⟩:=List.mem_flatMap.1 D;obtain⟨l,hl,D⟩:=List.mem_flatMap.1 D;obtain⟨y,hy,rfl⟩:=List.getElem_of_mem hr;obtain⟨n,O,rfl⟩:=List.getElem_of_mem hl;have M:T.getD y []=T[y]:=by rw[List.getD,List.getElem?_eq_getElem hy];rfl
  have Z:lpA T y n=T[y][n]:=by unfold lpA;rw[M,List.getD,List.getElem?_eq_getElem O];rfl
  have h6:=h.six;have:=(h.rts y oo n (by unfold z3b;rw[M];exact O)).1.2.2.1 i (by rw[Z];unfold z4r;exact List.mem_append_left _ D);exact hi this
 omega
theorem thq (ts:List TQ)(y n:Nat):(lpA (z1r ts) y n).th=((ts.getD y tq0).2.getD n lq0).ths:=by rw[y6r]
theorem y8a {ts:List TQ}{y n:Nat}(h:n<(ts.getD y tq0).2.length):y0a (z1r ts) y (n+1)=y0a (z1r ts) y n++((ts.getD y tq0).2.getD n lq0).ths:=by
 rw[x1o (by rw[z3x];exact h),thq]
theorem y7p {ts:List TQ}{y:Nat}(h:y<ts.length):y0a (z1r ts) (y+1) 0=y0a (z1r ts) y (ts.getD y tq0).2.length:=by
 rw[v5a (by rw[z8z];exact h),z3x]
theorem x8x {ts:List TQ}{y n k:Nat}(D:∀i,(y0i (z1r ts)).count i<=1)(J:y<ts.length)(hn:n<(ts.getD y tq0).2.length)(I:k<((ts.getD y tq0).2.getD n lq0).ths.length) :
    ((y0a (z1r ts) y n++((ts.getD y tq0).2.getD n lq0).ths.take k++[((ts.getD y tq0).2.getD n lq0).ths.getD k id0]).count (((ts.getD y tq0).2.getD n lq0).ths.getD k id0))<=1:=by
  have h:=u8w (T:=z1r ts) (n:=n) (k:=k) (by rw[z8z];exact J) (by rw[z3x];exact hn) (by rw[thq];exact I)
  rw[thq]at h
  have M:=D (((ts.getD y tq0).2.getD n lq0).ths.getD k id0)
  rw[List.count_append,List.count_singleton,if_pos sp0]
  omega
def u7v (ts:List TQ)(i:Nat):Nat:=((ts.take i).map λp:TQ=>p.2.length).sum
theorem v6w {ts:List TQ}{i:Nat}(h:i<ts.length):u7v ts (i+1)=u7v ts i+(ts.getD i tq0).2.length:=by
 unfold u7v;rw[z9m tq0 h,List.map_append,List.sum_append];simp
theorem x8c (ts:List TQ):z4f (z1r ts)=(ts.map λp:TQ=>p.2.length).sum:=by
 unfold z4f z1r;rw[List.map_map];congr 1;apply List.map_congr_left;intro p _;simp
theorem u9j (ts:List TQ)(i:Nat):u7v ts i<=z4f (z1r ts):=by
 rw[x8c]
 conv=>rhs;rw[<-List.take_append_drop i ts,List.map_append,List.sum_append]
 unfold u7v;omega
theorem u5p (ts:List TQ):u7v ts ts.length=z4f (z1r ts):=by
 unfold u7v;rw[List.take_length,x8c]
theorem j4s {q:LpQ}{n:Nat}(h:n<q.ths.length):(z4r q.p).getD n id0=q.ths.getD n id0:=by
 show (q.ths++q.pas.map Pa.id).getD n id0=_;simp only[List.getD,List.getElem?_append_left h]
theorem u9g {q:LpQ}{n:Nat}(h:q.ths.length<=n)(I:n<(z4r q.p).length):(z4r q.p).getD n id0=(q.pas.getD (n-q.ths.length) pa0).id:=by
 have D:n-q.ths.length<q.pas.length:=by
  have:(z4r q.p).length=q.ths.length+q.pas.length:=by simp[z4r]
  omega
 show (q.ths++q.pas.map Pa.id).getD n id0=_;simp only[List.getD,List.getElem?_append_right h,List.getElem?_map,List.getElem?_eq_getElem D];rfl
theorem v0f (q:LpQ):(z4r q.p).length=q.ths.length+q.pas.length:=by simp[z4r]
theorem TabV.has {T:Tb}(h:TabV T):Has T:=⟨h.ok.six,λy J n I i D=>(h.ok.rts y J n I).1.2.2.1 i D⟩
end Go.G21
namespace Go.Lw
open Go.RowKit
def MapZ {κ:Type}[DecidableEq κ](V:κ->Value)(w:World)(g:Nat)(z:Value)(f:κ->Value):Prop:=
  ∃(es:Array MapEntry) (c:Nat) (m:List (κ×Value)),w.heap[g]?=some (.map es c)/\es.toList.map (λe=>(e.key,e.val))=m.map (λp=>(V p.1,p.2))/\(∀k,(z1h m k).getD z=f k)/\(es.toList.map (·.born)).Nodup/\∀e∈es.toList,e.born<c
def MapE {κ:Type}[DecidableEq κ](V:κ->Value)(w:World)(g:Nat)(z:Value)(f:κ->Value)(k:κ)(st:Nat):Prop:=
  ∃(es:Array MapEntry) (c:Nat) (m:List (κ×Value)) (j:Nat),w.heap[g]?=some (.map es c)/\es.toList.map (λe=>(e.key,e.val))=m.map (λp=>(V p.1,p.2))/\(∀k,(z1h m k).getD z=f k)/\(es.toList.map (·.born)).Nodup/\(∀e∈es.toList,e.born<c)/\(m.map (·.1)).findIdx? (λx=>decide (k=x))=some j/\(es.toList[j]?).map (·.born)=some st
section
variable {κ:Type} [DecidableEq κ] {V:κ->Value} {P:Program} {K:TypeId}
theorem MapZ.fr {w w':World}{g:Nat}{z:Value}{f:κ->Value}{S:List Nat}(h:MapZ V w g z f)(hf:Fr S w w')(hn:∀k∈S,k∉[g]:=by simp[z0u]<;>omega):MapZ V w' g z f:=by
 obtain⟨I,c,m,D,J⟩:=h;exact⟨I,c,m,(hf.block g (Array.getElem?_eq_some_iff.1 D).1 (λh=>hn g h sp0)).trans D,J⟩
theorem MapZ.ext {w w':World}{g:Nat}{z:Value}{f:κ->Value}(h:MapZ V w g z f)(hf:Fr [] w w'):MapZ V w' g z f:=h.fr hf sp0
theorem MapZ.lt {w:World}{g:Nat}{z:Value}{f:κ->Value}(h:MapZ V w g z f):g<w.heap.size:=let ⟨_,_,_,h1,_⟩:=h;(Array.getElem?_eq_some_iff.1 h1).1
theorem MapZ.ne_blk {w:World}{g D T:Nat}{z:Value}{f:κ->Value}{cs:List Value}(h:MapZ V w g z f)(I:Blk w D T cs):g≠D:=by
 rintro rfl;obtain⟨_,_,_,J,_⟩:=h;unfold Blk at I;rw[I]at J;cases J
theorem MapE.map {w:World}{g st:Nat}{z:Value}{f:κ->Value}{k:κ}(h:MapE V w g z f k st):MapZ V w g z f:=
 let ⟨es,c,m,_,h1,h2,h3,h4,h5,_⟩:=h;⟨es,c,m,h1,h2,h3,h4,h5⟩
theorem y8l {l:List MapEntry}(hn:(l.map (·.born)).Nodup){j st:Nat}(h:(l[j]?).map (·.born)=some st):l.findIdx? (λe=>((e.born:Nat):Int) == ((st:Nat):Int))=some j:=by
 induction l generalizing j with
 | nil=>simp at h
 | cons a r ih=>
  simp only[List.map_cons,List.nodup_cons]at hn;cases j with
  | zero=>simp at h;subst h;simp[List.findIdx?_cons]
  | succ j=>
   simp only[List.getElem?_cons_succ]at h;obtain⟨I,O,Z⟩:=Option.map_eq_some_iff.1 h;have D:a.born≠st:=λJ=>hn.1 (List.mem_map.2 ⟨I,List.mem_of_getElem? O,Z.trans J.symm⟩);have M:(((a.born:Nat):Int) == ((st:Nat):Int))=false:=by
    simp only[beq_eq_false_iff_ne,ne_eq,Int.natCast_inj];exact D
   rw[List.findIdx?_cons,M];simp[ih hn.2 h]
theorem x6o {w:World}{g:Nat}{z:Value}{f:κ->Value}{t E:TypeId}(h:MapZ V w g z f)(O:KeyLaw P K V)(Z:P.underlying t=some (.map K E))(hz:(zeroValue E).run P w=.ok z w)(k:κ) :
    (Instr.lookup t (.map (some g)) (V k) false).run P w=.ok (f k) w:=by
  obtain⟨D,c,m,I,J,M,_⟩:=h
  rw[<-M k]
  exact y3k (f:=z1h m) ⟨D,c,m,I,J,λ_=>rfl⟩ O Z hz k
theorem y9z {w:World}{g:Nat}{z:Value}{f:κ->Value}{t E:TypeId}(h:MapZ V w g z f)(hk:KeyLaw P K V)(hu:P.underlying t=some (.map K E))(hz:∀w:World,(zeroValue E).run P w=.ok z w)(k:κ) :
    ∃w' st,(Instr.mapEntry t (.map (some g)) (V k)).run P w=.ok (.tuple #[f k,.int .i64 (st:Nat)]) w'/\MapE V w' g z f k st/\Fr [g] w w'/\w'.heap.size=w.heap.size:=by
  obtain⟨I,c,m,h1,h2,h3,h4,h5⟩:=h
  have a8:=(Array.getElem?_eq_some_iff.1 h1).1
  have Z:I.toList.map (·.key)=(m.map (·.1)).map V:=by
    have:=congrArg (List.map Prod.fst) h2
    simpa[List.map_map,Function.comp_def] using this
  have J:=hk.find k I.toList (m.map (·.1)) w Z
  have a0:∀o,(setObj g o).run P w=.ok () { w with heap:=w.heap.setIfInBounds g o }:=by intro o;simp[setObj,Sem.run,h1]
  have a4:∀o,Fr [g] w { w with heap:=w.heap.setIfInBounds g o }:=λo=>⟨rfl,rfl,rfl,sp0,λi _ hn=>by
    simp only
    rw[Array.getElem?_setIfInBounds_ne (by intro e;subst e;simp at hn)]⟩
  have M:∀o,({ w with heap:=w.heap.setIfInBounds g o }:World).heap[g]?=some o:=by intro o;simp[a8]
  have a6:I.toList.length=m.length:=by have:=congrArg List.length h2;simpa using this
  have D:=z9r (V:=V) m k I.toList h2
  cases hf:(m.map (·.1)).findIdx? (λx=>decide (k=x)) with
  | none=>
    rw[hf]at J D
    simp only[Option.bind_none,Option.map_none]at D
    have e0:f k=z:=by rw[<-h3 k,<-D];rfl
    refine⟨{ w with heap:=w.heap.setIfInBounds g (.map (I.push { key:=V k,val:=z,born:=c }) (c+1)) },c,?_,⟨_,_,m++[(k,z)],m.length,M (.map (I.push { key:=V k,val:=z,born:=c }) (c+1)),?_,λk'=>?_,?_,?_,?_,?_⟩,a4 _,sp0⟩
    · simp only[Instr.mapEntry,Sem.run_bind,run_underlying hu,Result.andThen_ok,z2g h1,hk.check,J,Option.bind_none,hz w,a0,Sem.run_pure,e0]
      rfl
    · simp[h2]
    · rw[z9c m k k' z hf,<-h3 k']
      split
      · rename_i e;subst e;rw[h3,e0];rfl
      · rfl
    · simp only[Array.toList_push,List.map_append,List.map_cons,List.map_nil]
      refine List.nodup_append.2 ⟨h4,sp0,λa ha b hb e=>?_⟩
      simp only[List.mem_singleton]at hb
      obtain⟨x,hx,rfl⟩:=List.mem_map.1 ha
      have:=h5 x hx;omega
    · intro e he
      simp only[Array.toList_push,List.mem_append,List.mem_singleton]at he
      rcases he with he|rfl
      · have:=h5 e he;omega
      · simp
    · rw[List.map_append,List.findIdx?_append,hf];simp
    · simp only[Array.toList_push]
      rw[<-a6,List.getElem?_append_right (Nat.le_refl _)];simp
  | some i=>
    have hi:i<m.length:=by
      have:=List.findIdx?_eq_some_iff_findIdx_eq.1 hf
      simpa using this.1
    have O:i<I.toList.length:=by omega
    have a5:V k=(I.toList[i]).key:=by
      have a7:=List.findIdx?_eq_some_iff_getElem.1 hf
      obtain⟨b0,hp,_⟩:=a7
      have a9:k=(m.map (·.1))[i]:=by simpa using hp
      have e1:(I.toList.map (·.key))[i]?=((m.map (·.1)).map V)[i]?:=by rw[Z]
      simp only[List.getElem?_map,List.getElem?_eq_getElem O,List.getElem?_eq_getElem hi,Option.map_some,Option.some.injEq]at e1
      rw[e1,a9];simp
    have a3:I[i]?=some I.toList[i]:=by rw[<-Array.getElem?_toList,List.getElem?_eq_getElem O]
    have a2:(Instr.keyThatStays (((I[i]?).map (·.key)).getD (V k)) (V k)).run P w=.ok (V k) w:=by
      rw[a3]
      simp only[Option.map_some,Option.getD_some,<-a5,Instr.keyThatStays,hk.bits,if_true,Sem.run_pure]
    have a1:I.modify i (λe=>{ e with key:=V k })=I:=by
      apply Array.ext'
      rw[Array.toList_modify]
      apply List.ext_getElem?
      intro j
      rw[List.getElem?_modify]
      by_cases hj:i=j
      · subst hj
        rw[List.getElem?_eq_getElem O]
        simp only[Option.map_eq_map,Option.map_some,if_pos,Option.some.injEq]
        rw[a5]
      · simp[hj]
    rw[hf]at J D
    simp only[Option.bind_some,List.getElem?_eq_getElem O,Option.map_some]at J D
    have e0:f k=I.toList[i].val:=by rw[<-h3 k,<-D];rfl
    refine⟨{ w with heap:=w.heap.setIfInBounds g (.map I c) },I.toList[i].born,?_,⟨I,c,m,i,M _,h2,h3,h4,h5,hf,?_⟩,a4 _,sp0⟩
    · simp only[Instr.mapEntry,Sem.run_bind,run_underlying hu,Result.andThen_ok,z2g h1,hk.check,J,a2,a0,a1,Sem.run_pure,e0]
      rw[a3];rfl
    · rw[List.getElem?_eq_getElem O];rfl
theorem y4x {w:World}{g st:Nat}{z v:Value}{f:κ->Value}{t:TypeId}{k:κ}(h:MapE V w g z f k st) :
    ∃w',(Instr.entryStore t (.map (some g)) (.int .i64 (st:Nat)) v).run P w=.ok () w'/\MapZ V w' g z (λk'=>if k'=k then v else f k')/\Fr [g] w w'/\w'.heap.size=w.heap.size:=by
  obtain⟨I,c,m,j,h1,h2,h3,h4,h5,h6,h7⟩:=h
  have a2:=(Array.getElem?_eq_some_iff.1 h1).1
  have a0:∀o,(setObj g o).run P w=.ok () { w with heap:=w.heap.setIfInBounds g o }:=by intro o;simp[setObj,Sem.run,h1]
  have a1:∀o,Fr [g] w { w with heap:=w.heap.setIfInBounds g o }:=λo=>⟨rfl,rfl,rfl,sp0,λi _ hn=>by
    simp only
    rw[Array.getElem?_setIfInBounds_ne (by intro e;subst e;simp at hn)]⟩
  have J:∀o,({ w with heap:=w.heap.setIfInBounds g o }:World).heap[g]?=some o:=by intro o;simp[a2]
  have Z:I.findIdx? (λe=>((e.born:Nat):Int) == ((st:Nat):Int))=some j:=by
    have e:I.findIdx? (λe=>((e.born:Nat):Int) == ((st:Nat):Int))=I.toList.findIdx? (λe=>((e.born:Nat):Int) == ((st:Nat):Int)):=by cases I;simp
    rw[e];exact y8l h4 h7
  have hi:j<m.length:=by
    have:=List.findIdx?_eq_some_iff_findIdx_eq.1 h6
    simpa using this.1
  refine⟨{ w with heap:=w.heap.setIfInBounds g (.map (I.modify j λe=>{ e with val:=v }) c) },?_,⟨_,c,m.modify j λp=>(p.1,v),J _,?_,λk'=>?_,?_,?_⟩,a1 _,sp0⟩
  · simp only[Instr.entryStore,Sem.run_bind,Result.andThen_ok,z2g h1,asInt,asIntOf,Sem.run_pure,Z,a0]
  · rw[Array.toList_modify]
    apply List.ext_getElem?
    intro i
    have D:=congrArg (·[i]?) h2
    simp only[List.getElem?_map]at D ⊢
    rw[List.getElem?_modify,List.getElem?_modify]
    by_cases hj:j=i
    · subst hj
      simp only[Option.map_eq_map,if_pos]
      cases M:I.toList[j]? with
      | none=>rw[M]at D;cases hm:m[j]? with
        | none=>rfl
        | some p=>rw[hm]at D;cases D
      | some e=>rw[M]at D;cases hm:m[j]? with
        | none=>rw[hm]at D;cases D
        | some p=>
          rw[hm]at D
          simp only[Option.map_some,Option.some.injEq,Prod.mk.injEq]at D ⊢
          first|exact⟨D.1,rfl⟩|exact⟨D.1,trivial⟩|simp[D.1]
    · simp only[Option.map_eq_map,if_neg hj];simpa using D
  · rw[z8r k k' v m j h6]
    show _=if k'=k then v else f k'
    split
    · rfl
    · exact h3 k'
  · rw[Array.toList_modify]
    have e:(I.toList.modify j λe=>{ e with val:=v }).map (·.born)=I.toList.map (·.born):=by
      apply List.ext_getElem?
      intro i
      rw[List.getElem?_map,List.getElem?_map,List.getElem?_modify]
      split
      · cases I.toList[i]?<;>rfl
      · simp
    rw[e];exact h4
  · intro e M
    rw[Array.toList_modify]at M
    obtain⟨i,O,rfl⟩:=List.getElem_of_mem M
    rw[List.length_modify]at O
    rw[List.getElem_modify]
    have:=h5 _ (List.getElem_mem O)
    split<;>exact this
variable {a:Act} {n:Nat} {L:List (Nat×Value)} {ds:List Nat} {w w':World} {Q:Exit->Act->World->Prop} {ops:Array Oper} {rest:List Oper}
variable {d:Nat} {ty:TypeId} {pos:String} {after:Array Edge} {x y z':Operand} {t E:TypeId} {g st:Nat} {f:κ->Value} {k:κ} {v z:Value}
theorem x6w (V:κ->Value)(z:Value)(h:AgM ds a n L)(hn:Nat.blt d n=true)
    (q:∀g w',g=w.heap.size->MapZ V w' g z (λ_=>z)->Fr [] w w'->w'.heap.size=g+1->∀a,AgM ds a n ((d,.map (some g))::L)->wpList P ops Q rest a w'):wpList P ops Q (⟨some d,.makeMap t none,ty,pos,after,none⟩::rest) a w:=
  z2a h U hn (w':=w.alloc (.map #[] 0)) (by simp[execOp,Instr.makeMap]) (q _ _ U ⟨_,_,[],heap_alloc_new w _,sp0,λ_=>rfl,sp0,sp0⟩ (Fr.alloc [] w _) sp0)
theorem y8n (V:κ->Value)(z:Value)(hn:Nat.blt d n=true)(q:∀g w',g=w.heap.size->MapZ V w' g z (λ_=>z)->Fr [] w w'->w'.heap.size=g+1->WL P ops Q rest n ds w' ((d,.map (some g))::L)):WL P ops Q (⟨some d,.makeMap t none,ty,pos,after,none⟩::rest) n ds w L:=λa h=>x6w V z h hn q
theorem z7n (h:AgM ds a n L)(O:ev L x=some (.map (some g)))(Z:ev L y=some (V k))(I:MapZ V w g z f)(D:KeyLaw P K V)(J:P.underlying t=some (.map K E))(hz:∀w:World,(zeroValue E).run P w=.ok z w)(M:f k=v)(hn:Nat.blt d n=true)
    (q:∀a,AgM ds a n ((d,v)::L)->wpList P ops Q rest a w):wpList P ops Q (⟨some d,.lookup t x y false,ty,pos,after,none⟩::rest) a w:=
  z2a h U hn (by rw[<-M];simp[execOp,h.eval O,h.eval Z,x6o I D J (hz w) k]) q
theorem y5a (O:ev L x=some (.map (some g)))(Z:ev L y=some (V k))(I:MapZ V w g z f)(D:KeyLaw P K V)(J:P.underlying t=some (.map K E))(hz:∀w:World,(zeroValue E).run P w=.ok z w)(M:f k=v)(hn:Nat.blt d n=true)
 (q:WL P ops Q rest n ds w ((d,v)::L)):WL P ops Q (⟨some d,.lookup t x y false,ty,pos,after,none⟩::rest) n ds w L:=λa h=>z7n h O Z I D J hz M hn q
theorem z6w (h:AgM ds a n L)(hx:ev L x=some (.map (some g)))(hy:ev L y=some (V k))(O:MapZ V w g z f)(M:KeyLaw P K V)(hu:P.underlying t=some (.map K E))(hz:∀w:World,(zeroValue E).run P w=.ok z w)(hn:Nat.blt d n=true)
    (q:∀w' st,MapE V w' g z f k st->Fr [g] w w'->w'.heap.size=w.heap.size->∀a,AgM ds a n ((d,.tuple #[f k,.int .i64 (st:Nat)])::L)->wpList P ops Q rest a w'):wpList P ops Q (⟨some d,.mapEntry t x y,ty,pos,after,none⟩::rest) a w:=by
  obtain⟨w',st,Z,D,I,J⟩:=y9z O M hu hz k
  exact z2a h U hn (w':=w') (by simp[execOp,h.eval hx,h.eval hy,Z]) (q w' st D I J)
theorem z5k {s:Operand}(h:AgM ds a n L)(hx:ev L x=some (.map (some g)))(Z:ev L s=some (.int .i64 (st:Nat)))(hy:ev L y=some v)(M:MapE V w g z f k st)
    (q:∀w',MapZ V w' g z (λk'=>if k'=k then v else f k')->Fr [g] w w'->w'.heap.size=w.heap.size->∀a,AgM ds a n L->wpList P ops Q rest a w'):wpList P ops Q (⟨none,.entryStore t x s y,ty,pos,after,none⟩::rest) a w:=by
  obtain⟨w',O,D,I,J⟩:=y4x (P:=P) (t:=t) (v:=v) M
  exact z8h h U U (w':=w') (by simp[execOp,h.eval hx,h.eval Z,h.eval hy,O]) (q w' D I J)
end
end Go.Lw
namespace Go.Lw
open Go.RowKit
theorem v2t {w:World}{ad:Addr}{cs vs:List Value}{off:Nat}(h:Cells w ad cs)(I:(cs.drop off).take vs.length=vs):Cells w (ad.add off) vs:=λj u D=>by
 rw[<-I]at D
 rw[List.getElem?_take]at D
 split at D
 ·rw[List.getElem?_drop]at D
  rw[z7f];exact h _ u D
 cases D
def IterAt (w:World)(g:Nat)(l:List UInt8)(p:Nat):Prop:=w.heap[g]?=some (.stringIter ⟨l.toArray⟩ p)
theorem IterAt.fr {w w':World}{g p:Nat}{l:List UInt8}{S:List Nat}(h:IterAt w g l p)(hf:Fr S w w')(hn:g∉S):IterAt w' g l p:=by
 unfold IterAt at h ⊢;rw[hf.block g (Array.getElem?_eq_some_iff.1 h).1 hn];exact h
theorem IterAt.ext {w w':World}{g p:Nat}{l:List UInt8}(h:IterAt w g l p)(hf:Fr [] w w'):IterAt w' g l p:=h.fr hf sp0
theorem IterAt.lt {w:World}{g p:Nat}{l:List UInt8}(h:IterAt w g l p):g<w.heap.size:=(Array.getElem?_eq_some_iff.1 h).1
section
variable {P:Program} {a:Act} {n:Nat} {L:List (Nat×Value)} {ds:List Nat} {w:World} {Q:Exit->Act->World->Prop} {ops:Array Oper} {rest:List Oper} {d g p:Nat} {ty t:TypeId} {pos:String} {after:Array Edge} {x:Operand} {l:List UInt8}
end
end Go.Lw
namespace Go.Lw
open Go.RowKit
section
variable {P:Program} {a:Act} {n:Nat} {L:List (Nat×Value)} {ds:List Nat} {w:World} {Q:Exit->Act->World->Prop} {ops:Array Oper} {rest:List Oper} {d:Nat} {ty t T:TypeId} {pos:String} {after:Array Edge} {x:Operand}
end
section
variable {P:Program} {a:Act} {n:Nat} {L:List (Nat×Value)} {ds:List Nat} {w:World} {Q:Exit->Act->World->Prop} {ops:Array Oper} {rest:List Oper} {d:Nat} {ty t T:TypeId} {pos:String} {after:Array Edge} {x y:Operand} {k:IntKind} {i:Int}
end
end Go.Lw
namespace Go.Proofs.YtjilcnmaefhmeaaGreatDoor
open Go.Lw Go.G21 Go.G08 _root_.Go.Proofs.Tryz
theorem y6v:ElemOf prog 53 34 z4b 24:=ElemOf.mk' (z:=(.slice none 0 0)) underlying53 kr U
theorem x1q:z2c prog 34:=λ_=>kr
theorem v9d (i:LId)(v:Value)(ts:List TQ)(w0:World)(Z:Sl z4b w0 v ts)(hk:TabAt w0 ts)(hl:ts.length<=200)(hi:0<=i.y/\i.y<=255):Rets prog 286 #[v,.agg #[.int .u8 i.y,.int .i64 i.n]] w0 λr w'=>r=.bool (decide (z3r (z1r ts) i))/\Fr [] w0 w':=by
 obtain⟨A,c,rfl,a4,hM,hA⟩:=id Z;clear hA;unfold maxLen at hM;have a1:=z5b hk;have a6:=a1 (i.y-1).toNat;refine we [(0,.slice A ts.length c),(1,.agg #[.int .u8 i.y,.int .i64 i.n])] func286 U ntmps286 U (.c2 U U) ?_;have a2:=Z;have a0:=hk;refine sr (bx U (λg3 w1 a5 I M z1=>(asg U (nn (sq ?_)))));replace Z:=a2.ext M;replace hk:=a0.ext M;intro a h;refine y3u z2m kr (z2u h U z5v U λa h=>z5j h U (λ_ J=>I.ext J) U na5 U λa h=>u2s h U U U λa h=>z3z h U λa h=>gSp (D:=8) h U ?_ ?_);clear h;intro g0 h;refine z2j h U U U U (z2u h U z5v U λa h=>z2j h U U U U (z5j h U (λ_ J=>I.ext J) U na5 U λa h=>z2j h U U U U (v5x h U (by rw[underlying5];rfl) underlying3 (by first|exact i6 oo|rfl) U λa h=>?_)));refine z2j h U U U U (z3z h U λa h=>z2j h U U U U (x0r h U underlying53 U λa h=>z2j h U U U U (k0o h U U U λa h=>?_)));refine z7x h U λa h=>z3z h U λa h=>gSp (D:=16) h U ?_ ?_;clear h;intro g1 h;refine z2j h U U U U (z2u h U z6g U λa h=>z2j h U U U U (z5j h U (λ_ J=>I.ext J) U na3 U λa h=>z2j h U U U U (u2s h U U U λa h=>?_)));refine z7x h U λa h=>z3z h U λa h=>gSp (D:=21) h U ?_ ?_;clear h;intro g2 h;refine z2j h U U U U (z2u h U z6g U λa h=>z2j h U U U U (z5j h U (λ_ J=>I.ext J) U na3 U λa h=>z2j h U U U U (z3z h U λa h=>?_)));refine z2j h U U U U (z2u h U z5v U λa h=>z2j h U U U U (z5j h U (λ_ J=>I.ext J) U na5 U λa h=>z2j h U U U U (u7a h U U (by first|exact IntWalk.u8_in _ oo|rfl) U λa h=>?_)));refine z2j h U U U U (v5i (tq0) h U Z U y6v oo oo U U λa3 O a h=>z2j h U U U U (x3e h U (λ_ J=>O _ (Z.ext J)) x1q U λa h=>z2j h U U U U (x0r h U underlying34 U λa h=>?_)));refine z2j h U U U U (j6a h U U U λa h=>z7x h U λa h=>z5q h U U λa h=>wpQuiet_nil ?_);intro w2 q2;refine bk (h.sub (L':=[(4,_)]) (.cons U .nil)) (tn (rt (r1 results286 U ?_)));exact⟨_,rfl,by first|exact congrArg Value.bool (decide_eq_decide.2 (by rw[z2b];omega))|exact congrArg Value.bool (decide_eq_false (by rw[z2b];omega)).symm|exact congrArg Value.bool (decide_eq_true (by rw[z2b];omega)).symm,(M.n1 q2)⟩;clear h;intro g2 h;refine z1o h U U U U λa h=>z1o h U U U U λa h=>z1o h U U U U λa h=>z1o h U U U U λa h=>z1o h U U U U λa h=>z1o h U U U U λa h=>z1o h U U U U λa h=>z1o h U U U U λa h=>z1o h U U U U λa h=>z1o h U U U U λa h=>z3k h U λa h=>z5q h U U λa h=>wpQuiet_nil ?_;intro w3 q3;refine bk (h.sub (L':=[(4,_)]) (.cons U .nil)) (tn (rt (r1 results286 U ?_)));exact⟨_,rfl,by first|exact congrArg Value.bool (decide_eq_decide.2 (by rw[z2b];omega))|exact congrArg Value.bool (decide_eq_false (by rw[z2b];omega)).symm|exact congrArg Value.bool (decide_eq_true (by rw[z2b];omega)).symm,(M.n1 q3)⟩;clear h;intro g1 h;refine z1o h U U U U λa h=>z1o h U U U U λa h=>z1o h U U U U λa h=>z3k h U λa h=>z3z h U λa h=>z1o h U U U U λa h=>z1o h U U U U λa h=>z1o h U U U U λa h=>z1o h U U U U λa h=>z1o h U U U U λa h=>z1o h U U U U λa h=>z1o h U U U U λa h=>z1o h U U U U λa h=>z1o h U U U U λa h=>z1o h U U U U λa h=>z3k h U λa h=>z5q h U U λa h=>wpQuiet_nil ?_;intro w4 q4;refine bk (h.sub (L':=[(4,_)]) (.cons U .nil)) (tn (rt (r1 results286 U ?_)));exact⟨_,rfl,by first|exact congrArg Value.bool (decide_eq_decide.2 (by rw[z2b];omega))|exact congrArg Value.bool (decide_eq_false (by rw[z2b];omega)).symm|exact congrArg Value.bool (decide_eq_true (by rw[z2b];omega)).symm,(M.n1 q4)⟩;clear h;intro g0 h;refine z1o h U U U U λa h=>z1o h U U U U λa h=>z1o h U U U U λa h=>z1o h U U U U λa h=>z1o h U U U U λa h=>z1o h U U U U λa h=>z3k h U λa h=>z3z h U λa h=>z1o h U U U U λa h=>z1o h U U U U λa h=>z1o h U U U U λa h=>z3k h U λa h=>z3z h U λa h=>z1o h U U U U λa h=>z1o h U U U U λa h=>z1o h U U U U λa h=>z1o h U U U U λa h=>z1o h U U U U λa h=>z1o h U U U U λa h=>z1o h U U U U λa h=>z1o h U U U U λa h=>z1o h U U U U λa h=>z1o h U U U U λa h=>z3k h U λa h=>z5q h U U λa h=>wpQuiet_nil ?_;intro w5 q5;refine bk (h.sub (L':=[(4,_)]) (.cons U .nil)) (tn (rt (r1 results286 U ?_)));exact⟨_,rfl,by first|exact congrArg Value.bool (decide_eq_decide.2 (by rw[z2b];omega))|exact congrArg Value.bool (decide_eq_false (by rw[z2b];omega)).symm|exact congrArg Value.bool (decide_eq_true (by rw[z2b];omega)).symm,(M.n1 q5)⟩
theorem y9v (i:LId)(v:Value)(ts:List TQ)(w0:World)(Z:Sl z4b w0 v ts)(hk:TabAt w0 ts)(hl:ts.length<=200)(hi:0<=i.y/\i.y<=255):Rets prog 159 #[v,.agg #[.int .u8 i.y,.int .i64 i.n]] w0 λr w'=>r=.bool (decide (z3r (z1r ts) i))/\Fr [] w0 w':=by
 obtain⟨A,c,rfl,a4,hM,hA⟩:=id Z;clear hA;unfold maxLen at hM;have a1:=z5b hk;have a6:=a1 (i.y-1).toNat;refine we [(0,.slice A ts.length c),(1,.agg #[.int .u8 i.y,.int .i64 i.n])] func159 U ntmps159 U (.c2 U U) ?_;have a2:=Z;have a0:=hk;refine sr (bx U (λg3 w1 a5 I M z1=>(asg U (nn (sq ?_)))));replace Z:=a2.ext M;replace hk:=a0.ext M;intro a h;refine y3u z2m kr (z2u h U z5v U λa h=>z5j h U (λ_ J=>I.ext J) U na5 U λa h=>u2s h U U U λa h=>z3z h U λa h=>gSp (D:=8) h U ?_ ?_);clear h;intro g0 h;refine z2j h U U U U (z2u h U z5v U λa h=>z2j h U U U U (z5j h U (λ_ J=>I.ext J) U na5 U λa h=>z2j h U U U U (v5x h U (by rw[underlying5];rfl) underlying3 (by first|exact i6 oo|rfl) U λa h=>?_)));refine z2j h U U U U (z3z h U λa h=>z2j h U U U U (x0r h U underlying53 U λa h=>z2j h U U U U (k0o h U U U λa h=>?_)));refine z7x h U λa h=>z3z h U λa h=>gSp (D:=16) h U ?_ ?_;clear h;intro g1 h;refine z2j h U U U U (z2u h U z6g U λa h=>z2j h U U U U (z5j h U (λ_ J=>I.ext J) U na3 U λa h=>z2j h U U U U (u2s h U U U λa h=>?_)));refine z7x h U λa h=>z3z h U λa h=>gSp (D:=21) h U ?_ ?_;clear h;intro g2 h;refine z2j h U U U U (z2u h U z6g U λa h=>z2j h U U U U (z5j h U (λ_ J=>I.ext J) U na3 U λa h=>z2j h U U U U (z3z h U λa h=>?_)));refine z2j h U U U U (z2u h U z5v U λa h=>z2j h U U U U (z5j h U (λ_ J=>I.ext J) U na5 U λa h=>z2j h U U U U (u7a h U U (by first|exact IntWalk.u8_in _ oo|rfl) U λa h=>?_)));refine z2j h U U U U (v5i (tq0) h U Z U y6v oo oo U U λa3 O a h=>z2j h U U U U (x3e h U (λ_ J=>O _ (Z.ext J)) x1q U λa h=>z2j h U U U U (x0r h U underlying34 U λa h=>?_)));refine z2j h U U U U (j6a h U U U λa h=>z7x h U λa h=>z5q h U U λa h=>wpQuiet_nil ?_);intro w2 q2;refine bk (h.sub (L':=[(4,_)]) (.cons U .nil)) (tn (rt (r1 results159 U ?_)));exact⟨_,rfl,by first|exact congrArg Value.bool (decide_eq_decide.2 (by rw[z2b];omega))|exact congrArg Value.bool (decide_eq_false (by rw[z2b];omega)).symm|exact congrArg Value.bool (decide_eq_true (by rw[z2b];omega)).symm,(M.n1 q2)⟩;clear h;intro g2 h;refine z1o h U U U U λa h=>z1o h U U U U λa h=>z1o h U U U U λa h=>z1o h U U U U λa h=>z1o h U U U U λa h=>z1o h U U U U λa h=>z1o h U U U U λa h=>z1o h U U U U λa h=>z1o h U U U U λa h=>z1o h U U U U λa h=>z3k h U λa h=>z5q h U U λa h=>wpQuiet_nil ?_;intro w3 q3;refine bk (h.sub (L':=[(4,_)]) (.cons U .nil)) (tn (rt (r1 results159 U ?_)));exact⟨_,rfl,by first|exact congrArg Value.bool (decide_eq_decide.2 (by rw[z2b];omega))|exact congrArg Value.bool (decide_eq_false (by rw[z2b];omega)).symm|exact congrArg Value.bool (decide_eq_true (by rw[z2b];omega)).symm,(M.n1 q3)⟩;clear h;intro g1 h;refine z1o h U U U U λa h=>z1o h U U U U λa h=>z1o h U U U U λa h=>z3k h U λa h=>z3z h U λa h=>z1o h U U U U λa h=>z1o h U U U U λa h=>z1o h U U U U λa h=>z1o h U U U U λa h=>z1o h U U U U λa h=>z1o h U U U U λa h=>z1o h U U U U λa h=>z1o h U U U U λa h=>z1o h U U U U λa h=>z1o h U U U U λa h=>z3k h U λa h=>z5q h U U λa h=>wpQuiet_nil ?_;intro w4 q4;refine bk (h.sub (L':=[(4,_)]) (.cons U .nil)) (tn (rt (r1 results159 U ?_)));exact⟨_,rfl,by first|exact congrArg Value.bool (decide_eq_decide.2 (by rw[z2b];omega))|exact congrArg Value.bool (decide_eq_false (by rw[z2b];omega)).symm|exact congrArg Value.bool (decide_eq_true (by rw[z2b];omega)).symm,(M.n1 q4)⟩;clear h;intro g0 h;refine z1o h U U U U λa h=>z1o h U U U U λa h=>z1o h U U U U λa h=>z1o h U U U U λa h=>z1o h U U U U λa h=>z1o h U U U U λa h=>z3k h U λa h=>z3z h U λa h=>z1o h U U U U λa h=>z1o h U U U U λa h=>z1o h U U U U λa h=>z3k h U λa h=>z3z h U λa h=>z1o h U U U U λa h=>z1o h U U U U λa h=>z1o h U U U U λa h=>z1o h U U U U λa h=>z1o h U U U U λa h=>z1o h U U U U λa h=>z1o h U U U U λa h=>z1o h U U U U λa h=>z1o h U U U U λa h=>z1o h U U U U λa h=>z3k h U λa h=>z5q h U U λa h=>wpQuiet_nil ?_;intro w5 q5;refine bk (h.sub (L':=[(4,_)]) (.cons U .nil)) (tn (rt (r1 results159 U ?_)));exact⟨_,rfl,by first|exact congrArg Value.bool (decide_eq_decide.2 (by rw[z2b];omega))|exact congrArg Value.bool (decide_eq_false (by rw[z2b];omega)).symm|exact congrArg Value.bool (decide_eq_true (by rw[z2b];omega)).symm,(M.n1 q5)⟩
theorem u0x (u:Value)(A:Option Addr)(m c:Nat)(w0:World)(J:m=0):Rets prog 252 #[u,.slice A m c] w0 λr w'=>r=u/\Fr [] w0 w':=by
 refine we [(0,u),(1,.slice A m c)] func252 U ntmps252 U (.c2 U U) (sr (asg U (nn (sq (sr (mv U U (lnS U underlying30 (mv U U (nn (bl (lpK (ι:=Nat) [(0,_),(8,_),(9,_)] (λk=>[(10,.int .i64 (k:Int))]) (λk w'=>Fr [] w0 w'/\k<=m) (λk=>m-k) 0 (.c4 U U U U) ⟨Fr.refl _ _,Nat.zero_le _⟩ ?_)))))))))));rintro k w1 ⟨D,I⟩;refine kpC [(0,_),(8,_),(9,_),(10,_)] (.c4 U U U U) (sr (lt' U ?_));rw[show decide ((k:Int)<(m:Int))=false from decide_eq_false oo];exact nn (sq (cf U (ex (te (te (xh (tn (sr (mv U U (asg U (kpL [(4,_)] (.cons U .nil) (nn (rt (r1 results252 U ⟨_,rfl,rfl,D⟩))))))))))))))
theorem u2a (base:Nat)(u v:Value)(l:List Pa)(wS w0:World)(ho:Lw.Own z2e 97 base w0 u [])(J:Sl z2e wS v l)(I:Sl z2e w0 v l)(hb:wS.heap.size<=base)(D:base<=w0.heap.size)(hn:l.length<=100000):Rets prog 252 #[u,v] w0 λr w'=>∃S,Lw.Own z2e 97 base w' r (z4o [] l)/\(∀k∈S,base<=k)/\Fr S w0 w':=by
 by_cases e:l=[];subst e;obtain⟨A,c,rfl,_⟩:=I.form;refine Rets.mono (u0x u A _ c w0 U) ?_;rintro r w' ⟨rfl,hf⟩;exact⟨[],ho.ext hf,sp0,hf⟩;exact v6y base u v [] l w0 ho I (λk M=>by have:=J.blk e k M;omega) D (by simpa using hn)
theorem v8r (v:Value)(l:List Pa)(w0:World)(J:Sl z2e w0 v l)(hl:l.length<=50000):Rets prog 287 #[v] w0 λr w'=>∃A,r=.slice A (z4o [] l).length (z4o [] l).length/\Fr [] w0 w':=by
 obtain⟨A,c,rfl,a1,hM,hA⟩:=id J;clear hA;unfold maxLen at hM;refine we [(0,.slice A l.length c)] func287 U ntmps287 U (.cons U .nil) ?_;have I:=J;refine sr (asg U (nn (sr (mv U U (lnS U underlying30 (z1e (m:=0) (c:=l.length) (pa0) U y0r u2z U (λg5 w1 a2 ho Z z1=>(mv U U ?_))))))));replace J:=I.ext Z;refine cl (ev2 U) (mkC func252) (u2a g5 _ _ l w0 _ (by simpa using ho) I J oo oo oo) U ?_;rintro V7 w2 ⟨S7,D,M,q2⟩;have O:=z6i l [];obtain⟨A7,c7,rfl,a0⟩:=D.sl.form;refine cl (ev1 U) (mkC func253) (z9o _ _ _ D.sl (by simp only[List.length_nil]at O;omega)) U ?_;rintro _ w3 ⟨A8,rfl,a4,q3⟩;exact asg U (kpL [(2,_)] (.cons U .nil) (nn (rt (r1 results287 U ⟨_,rfl,A8,rfl,((Z.step q2 (λk hk a3=>absurd (M k hk) oo)).n1 q3)⟩))))
theorem y4e (v:Value)(ts:List TQ)(w0:World)(I:Sl z4b w0 v ts)(hk:TabAt w0 ts)(hN:z4f (z1r ts)<=100000):Rets prog 201 #[v] w0 λr w'=>r=.int .i64 (z4f (z1r ts):Int)/\Fr [] w0 w':=by
 obtain⟨A,c,rfl,a2,hM,hA⟩:=id I;clear hA;unfold maxLen at hM;have J:=z5b hk;refine we [(0,.slice A ts.length c)] func201 U ntmps201 U (.cons U .nil) ?_;have M:=I;have a3:=hk;refine sr (asg U (nn (sr (asg U (nn (sq (sr (mv U U (lnS U underlying53 (mv U U (nn (bl (lpK (ι:=Nat) [(6,_),(7,_)] (λi=>[(8,.int .i64 (i:Int)),(3,.int .i64 (u7v ts i:Int))]) (λi w'=>Fr [] w0 w'/\i<=ts.length) (λi=>ts.length-i) 0 (.c4 U U U U) ⟨Fr.refl _ _,Nat.zero_le _⟩ ?_)))))))))))));rintro i w1 ⟨O,hi⟩;refine kpC [(6,_),(7,_),(8,_),(3,_)] (.c4 U U U U) (sr (lt' U (nn (sq (cd U (λc0=>?_) (λc0=>?_))))));have a4:=J i;have a0:=v6w (ts:=ts) (i:=i) oo;have a1:=u9j ts (i+1);refine sk (tn (sq (bl (sr ?_))));replace I:=M.ext O;refine z1d (tq0) U I U y6v z1g (λZ D=>?_);refine z1k U (D _ I) x1q (asg U (nn (rg (mv U U (mv U U (lnS U underlying34 (z1b U (wi6 oo) (asg U (nl (bn' (tn (rg (z1b U (wi6 oo) (mv U U (nl ?_)))))))))))))));exact lpE (i+1) (.c4 U U U (congrArg (λz=>some (Value.int .i64 z)) oo)) ⟨O,oo⟩ oo;obtain rfl:i=ts.length:=by omega
 exact ex (te (te (xh (tn (sr (mv U U (asg U (kpL [(2,_)] (.cons U .nil) (nn (rt (r1 results201 U ⟨_,rfl,by rw[u5p],O⟩)))))))))))
theorem z4x:ElemOf prog 27 73 z1f 16:=ElemOf.mk' (z:=(.agg #[.int .u8 0,.int .i64 0])) underlying27 kr U
theorem u0l:z0y prog 107 0 0:=λ_ _=>kr
theorem z6m:z0y prog 107 2 2:=λ_ _=>kr
theorem z9b:z0y prog 107 3 3:=λ_ _=>kr
theorem z8o:z2c prog 27:=λ_=>kr
theorem y0c:z1q prog 73 2:=λ_=>kr
theorem y0n (w:World):(zeroValue 73).run prog w=.ok (.agg #[(.int .u8 0),(.int .i64 0)]) w:=kr
theorem u1i (q:LpQ)(v:Value)(ts:List TQ)(w0:World)(hs:Sl z4b w0 v ts)(hk:TabAt w0 ts)(hl:ts.length=6)(M:LpAt w0 q)(hv:y6i (z1r ts) q.p):Rets prog 263 #[v,.agg #[.int .u8 q.b,.bool q.nw,.slice q.th.1 q.th.2.1 q.th.2.2,.slice q.pa.1 q.pa.2.1 q.pa.2.2]] w0 λr w'=>r=.bool true/\Fr [] w0 w':=by
 obtain⟨A,c,rfl,b8,hM,hA⟩:=id hs;clear hA;unfold maxLen at hM;have e0:=z5b hk;have d3:=z1z M.1;have d4:=z1z M.2;have hb:q.b=0\/q.b=1:=hv.1;have d6:q.ths.length<=4:=hv.2.1.1;have d7:q.pas.length<=4096:=hv.2.1.2;have b4:∀p∈q.pas,z5t p.d:=hv.2.2.2.1;have d9:(z4o [] q.pas).length=q.pas.length:=hv.2.2.2.2;have a8:∀i,i<q.ths.length->z3r (z1r ts) (q.ths.getD i id0):=λi hi=>hv.2.2.1 _ (List.mem_append_left _ (z0z hi));have a7:∀i,i<q.pas.length->z3r (z1r ts) (q.pas.getD i pa0).id:=λi hi=>hv.2.2.1 _ (List.mem_append_right _ (List.mem_map_of_mem (z0z hi)));have d5:=z8z ts;refine we [(0,.slice A ts.length c),(1,.agg #[.int .u8 q.b,.bool q.nw,.slice q.th.1 q.th.2.1 q.th.2.2,.slice q.pa.1 q.pa.2.1 q.pa.2.2])] func263 U ntmps263 U (.c2 U U) ?_;have a9:=hs;have a6:=hk;have a0:=M;refine sr (bx U (λg3 w1 b9 D q1 z1=>(asg U (nn (sq (sq (rbo (r:=16) (L':=[(0,_),(3,_)]) (((q.b≠0)/\(q.b≠1))) (.c2 U U) ?_ ?_)))))));refine fad U u0l (z0i U D U x9d (ne' U (mv U U (gs 12 U (λg0=>?_) (λg0=>?_)))));exact gY U (fad U u0l (gY U (z0i U D U x9d (gY U (ne' U (pkt U (rbe U (.c2 U U))))))));exact gN U (gN U (gN U (pkf U (rbe U (.c2 U U)))));refine tn (cd U (λc0=>?_) (λc0=>?_));refine sr (asg U (nn (rt (tr (r1 results263 U ?_)))));exfalso;omega;refine sk (tn (sq (sq (rbo (r:=26) (L':=[(0,_),(3,_)]) (((4<(q.th.2.1:Int))\/(4096<(q.pa.2.1:Int)))) (.c2 U U) ?_ ?_))));refine fad U z6m (z0i U D U z8o (lnS U underlying27 (gt' U (mv U U (gs 21 U (λg1=>?_) (λg1=>?_))))));exact gN U (gN U (gN U (gN U (pkt U (rbe U (.c2 U U))))));exact gY U (fad U z9b (gY U (z0i U D U x4v (gY U (lnS U underlying30 (gY U (gt' U (pkf U (rbe U (.c2 U U))))))))));refine tn (cd U (λc1=>?_) (λc1=>?_));refine sr (asg U (nn (rt (tr (r1 results263 U ?_)))));exfalso;omega;refine sk (tn (sq (sr (fad U z6m (z0i U D U z8o (lnS U underlying27 (mv U U (nn (bl (lpK (ι:=Nat) [(0,_),(3,_),(28,_),(29,_)] (λi=>[(30,.int .i64 (i:Int))]) (λi w'=>Fr [] w1 w'/\i<=q.ths.length) (λi=>q.ths.length-i) 0 (.c5 U U U U U) ⟨Fr.refl _ _,Nat.zero_le _⟩ ?_))))))))));rintro i w2 ⟨O,hi⟩;have z2:=O.size;refine kpC [(0,_),(3,_),(28,_),(29,_),(30,_)] (.c5 U U U U U) (sr (lt' U (nn (sq (cd U (λc2=>?_) (λc2=>?_))))));refine sk (tn (sq (bl (sr ?_))));replace M:=a0.ext (q1.n1 O);refine z1d (id0) U M.1 U z4x z1g (λb5 a4=>?_);refine z1l U (a4 _ M.1) z2y (al y0n U (λg6 w3 c9 a1 q3 z3=>(z0k (vs:=[_,_]) U a1 y0c (λw4 a1 q4 z4=>(nn (sr (mv U U (z0n U a1 z2y ?_))))))));replace hs:=a9.ext (q1.z3 O q3 q4);replace hk:=a6.ext (q1.z3 O q3 q4);refine cl (ev2 U) (mkC func286) (v9d (q.ths.getD i id0) _ _ _ hs hk oo (by have h:=a8 i oo;have:=h.1;have:=h.2.1;omega)) U ?_;rintro _ w5 ⟨rfl,q5⟩;have z5:=q5.size;refine nt' U (nn (cd U (λc3=>?_) (λc3=>?_)));exact sr (asg U (kpL [(4,_)] (.cons U .nil) (nn (rt (rb (tr (tr (rb (tr (r1 results263 U (absurd (a8 i oo) (by simpa using c3))))))))))));exact sk (bn' (tn (rg (z1b U (wi6 oo) (mv U U (nl (lpE (i+1) (.c5 U U U U U) ⟨(O.z3 q3 q4 q5),oo⟩ oo)))))));obtain rfl:i=q.ths.length:=by omega
 refine ex (te (te (xh (tn (sq (sr (fad U z9b ?_)))))));replace D:=D.ext O;refine z0i U D U x4v (lnS U underlying30 (mv U U (nn (bl (lpK (ι:=Nat) [(0,_),(3,_),(40,_),(41,_)] (λi=>[(42,.int .i64 (i:Int))]) (λi w'=>Fr [] w2 w'/\i<=q.pas.length) (λi=>q.pas.length-i) 0 (.c5 U U U U U) ⟨Fr.refl _ _,Nat.zero_le _⟩ ?_)))));rintro i w6 ⟨q6,hi⟩;have z6:=q6.size;refine kpC [(0,_),(3,_),(40,_),(41,_),(42,_)] (.c5 U U U U U) (sr (lt' U (nn (sq (cd U (λc4=>?_) (λc4=>?_))))));have e1:(q.pas.getD i pa0).d=0\/(q.pas.getD i pa0).d=1:=b4 _ (z0z oo);have d1:=a7 i oo;refine sk (tn (sq (bl (sr ?_))));replace M:=a0.ext (q1.n2 O q6);refine z1d (pa0) U M.2 U y0r z1g (λb6 a5=>?_);refine z1l U (a5 _ M.2) x1j (al u2z U (λg8 w7 d0 J q7 z7=>(z0k (vs:=[_,_,_,_]) U J u6d (λw8 J q8 z8=>(nn (sq (x9y (r:=60) (L':=[(0,_),(3,_),(40,_),(41,_),(42,_)]) (((¬z3r (z1r ts) (q.pas.getD i pa0).id)\/(((q.pas.getD i pa0).d≠0)/\((q.pas.getD i pa0).d≠1)))) (.c5 U U U U U) ?_ ?_)))))));refine mv U U (fad U u0g (z1w (vs:=[_,_]) U J z2y U ?_));replace hs:=a9.ext (q1.z4 O q6 q7 q8);replace hk:=a6.ext (q1.z4 O q6 q7 q8);refine cl (ev2 U) (mkC func286) (v9d (q.pas.getD i pa0).id _ _ _ hs hk oo (by have h:=a7 i oo;have:=h.1;have:=h.2.1;omega)) U ?_;rintro _ w9 ⟨rfl,q9⟩;have z9:=q9.size;refine nt' U (mv U U (gs 51 U (λg2=>?_) (λg2=>?_)));exact gN U (gN U (gN U (gN U (gS U (gS U (gS U (gN U (pkt U (z9e U (.c5 U U U U U) q9)))))))));refine gY U (fad U y2i (gY U ?_));replace J:=J.ext q9;refine z0i U J U x1h (gY U (ne' U (gY U (mv U U (gs 55 U (λg3=>?_) (λg3=>?_))))));exact gY U (fad U y2i (gY U (z0i U J U x1h (gY U (ne' U (gY U (pkt U (pkf U (z9e U (.c5 U U U U U) q9)))))))));exact gN U (gN U (gN U (gY U (pkf U (pkf U (z9e U (.c5 U U U U U) q9))))));intro e2 b0;have e4:=b0.size;refine tn (cd U (λc5=>?_) (λc5=>?_));refine sr (asg U (kpL [(4,_)] (.cons U .nil) (nn (rt (rb (tr (tr (rb (tr (r1 results263 U ?_))))))))));exact(by exfalso;first|omega|(simp_all;done)|(simp_all;omega));exact sk (bn' (tn (rg (z1b U (wi6 oo) (mv U U (nl (lpE (i+1) (.c5 U U U U U) ⟨(q6.z3 q7 q8 b0),oo⟩ oo)))))));obtain rfl:i=q.pas.length:=by omega
 refine ex (te (te (xh (tn (sq ?_)))));replace M:=a0.ext (q1.n2 O q6);intro a h;refine z0h none (λwb w'=>Fr [] wb w') z2m ?_;intro b3 Z;have e5:=Z.size;replace M:=M.ext Z;replace D:=D.ext (q6.n1 Z);have hC:Fr [] b3 b3:=Fr.refl _ _;have a3:=M;have I:=D;refine z0c 0 h U z9b U λa h=>z0j 1 h U (λ_ hw=>I.ext hw) U x4v U λa h=>z0c 4 h U z9b U λa h=>z0j 5 h U (λ_ hw=>I.ext hw) U x4v U λa h=>z6p 6 h wn U underlying30 U λa h=>z0d 2 U (z0o h (z0a U z0f) (mkC func287) (v8r _ q.pas _ M.2 oo) ?_);rintro _ e3 ⟨b7,rfl,a2⟩ a h;have e6:=a2.size;replace hC:=hC.next a2;refine z0b (z6p 3 h wn U underlying30 U λa h=>u1a 7 hC h wn U U U U λa h=>z0d 8 U (z0r h U λa h=>?_));refine z0b (z0p ?_);clear hC a3 I;refine bk (h.sub (L':=[(4,_)]) (.cons U .nil)) (tn (rt (r1 results263 U ?_)));exact⟨_,rfl,congrArg Value.bool (decide_eq_true oo),(q1.n4 O q6 Z a2)⟩
theorem x2h:z3q prog 107 4:=⟨λ_=>kr,λ_=>kr⟩
theorem v2r:ElemOf prog 34 107 z6t 56:=ElemOf.mk' (z:=(.agg #[.int .u8 0,.bool false,.slice none 0 0,.slice none 0 0])) underlying34 kr U
theorem v6h:z0y prog 107 1 1:=λ_ _=>kr
theorem v2l:z1q prog 107 4:=λ_=>kr
theorem x6b (w:World):(zeroValue 107).run prog w=.ok (.agg #[(.int .u8 0),(.bool false),(.slice none 0 0),(.slice none 0 0)]) w:=kr
theorem v9s (v:Value)(ts:List TQ)(w0:World)(O:Sl z4b w0 v ts)(I:TabAt w0 ts)(hl:ts.length=6)(hv:TabOk (z1r ts)):Rets prog 220 #[v] w0 λr w'=>r=.int .i64 0/\Fr [] w0 w':=by
 obtain⟨A,c,rfl,a8,hM,hA⟩:=id O;clear hA;unfold maxLen at hM;have a5:=z5b I;refine we [(0,.slice A ts.length c)] func220 U ntmps220 U (.cons U .nil) ?_;have a2:=O;have M:=I;refine sr (asg U (nn (sq (sr (mv U U (lnS U underlying53 (mv U U (nn (bl (lpK (ι:=Nat) [(0,_),(7,_),(8,_)] (λy=>[(9,.int .i64 (y:Int))]) (λy w'=>Fr [] w0 w'/\y<=ts.length) (λy=>ts.length-y) 0 (.c4 U U U U) ⟨Fr.refl _ _,Nat.zero_le _⟩ ?_))))))))));rintro y w1 ⟨J,hy⟩;have z1:=J.size;refine kpC [(0,_),(7,_),(8,_),(9,_)] (.c4 U U U U) (sr (lt' U (nn (sq (cd U (λc0=>?_) (λc0=>?_))))));replace I:=M.ext J;have b0:=a5 y;have a3:=(I _ (z0z (d:=tq0) (i:=y) oo)).1.len_le;unfold maxLen at a3;refine sk (tn (sq (bl (sr ?_))));replace O:=a2.ext J;refine z1d (tq0) U O U y6v z1g (λa6 a0=>?_);refine z1k U (a0 _ O) x1q (asg U (nn (sr (mv U U (lnS U underlying34 (mv U U (nn (bl (lpK (ι:=Nat) [(0,_),(7,_),(8,_),(9,_),(13,_),(14,_)] (λn=>[(15,.int .i64 (n:Int))]) (λn w'=>Fr [] w1 w'/\n<=(ts.getD y tq0).2.length) (λn=>(ts.getD y tq0).2.length-n) 0 (.c7 U U U U U U U) ⟨Fr.refl _ _,Nat.zero_le _⟩ ?_)))))))));rintro n w2 ⟨Z,hn⟩;have z2:=Z.size;refine kpC [(0,_),(7,_),(8,_),(9,_),(13,_),(14,_),(15,_)] (.c7 U U U U U U U) (sr (lt' U (nn (sq (cd U (λc1=>?_) (λc1=>?_))))));have a4:n=0->((ts.getD y tq0).2.getD n lq0).nw=true:=λe=>by
  have h:=(hv.rts y oo n (by rw[z3x];omega)).2 e;rw[y6r]at h;exact h
 refine sk (tn (sq (bl (sr (mv U U ?_)))));replace I:=M.ext (J.n1 Z);refine z1d (lq0) U (I _ (z0z (d:=tq0) (i:=y) oo)).1 U v2r z1g (λa7 a1=>?_);refine z1l U (a1 _ (I _ (z0z (d:=tq0) (i:=y) oo)).1) x2h (al x6b U (λg6 w3 a9 D q3 z3=>?_));refine asg U (z0k (vs:=[_,_,_,_]) U D v2l (λw4 D q4 z4=>?_) (h1:=(by first|(simp[Value.oneCell',S];done)|exact z6t.one ((ts.getD y tq0).2.getD n lq0))));refine nn (sq (x9y (r:=32) (L':=[(0,_),(7,_),(8,_),(9,_),(13,_),(14,_),(15,_)]) (((¬(0:Int)=0)\/(((n:Int)=0)/\(¬((ts.getD y tq0).2.getD n lq0).nw=true)))) (.c7 U U U U U U U) ?_ ?_));refine mv U U (z0n U D x2h ?_);replace O:=a2.ext (J.z3 Z q3 q4);replace I:=M.ext (J.z3 Z q3 q4);refine cl (ev2 U) (mkC func263) (u1i ((ts.getD y tq0).2.getD n lq0) _ _ _ O I hl (z7r I oo oo) (by have h:=(hv.rts y oo n (by rw[z3x];omega)).1;rw[y6r]at h;exact h)) U ?_;rintro _ w5 ⟨rfl,q5⟩;have z5:=q5.size;refine nt' U (mv U U (gs 24 U (λg0=>?_) (λg0=>?_)));exact gN U (gN U (gN U (gS U (gS U (gS U (gN U (pkt U (z9e U (.c7 U U U U U U U) q5))))))));refine gY U (mv U U (gY U (eq' U (gY U (mv U U (gs 27 U (λg1=>?_) (λg1=>?_)))))));refine gY U (fad U v6h (gY U ?_));replace D:=D.ext q5;exact z0i U D U na4 (gY U (nt' U (gY U (pkt U (pkf U (z9e U (.c7 U U U U U U U) q5))))));exact gN U (gN U (gN U (gY U (pkf U (pkf U (z9e U (.c7 U U U U U U U) q5))))));intro w6 q6;have z6:=q6.size;refine tn (cd U (λc2=>?_) (λc2=>?_));refine sr (asg U (kpL [(2,_)] (.cons U .nil) (nn (rt (rb (tr (tr (rb (rb (tr (tr (rb (tr (r1 results220 U ?_))))))))))))));rcases c2 with h|h
 exact absurd U h;exact absurd (a4 oo) h.2;exact sk (bn' (tn (rg (z1b U (wi6 oo) (mv U U (nl (lpE (n+1) (.c7 U U U U U U U) ⟨(Z.z3 q3 q4 q6),oo⟩ oo)))))));obtain rfl:n=(ts.getD y tq0).2.length:=by omega
 exact ex (te (te (xh (bn' (tn (rg (z1b U (wi6 oo) (mv U U (nl (lpE (y+1) (.c4 U U U U) ⟨(J.n1 Z),oo⟩ oo))))))))));obtain rfl:y=ts.length:=by omega
 exact ex (te (te (xh (tn (sr (asg U (nn (rt (r1 results220 U ⟨_,rfl,rfl,J⟩)))))))))
theorem k2w (p q:LId)(w:World):(Op.equal 73 (idV p) (idV q)).run prog w=.ok (decide (p=q)) w:=by
 have h:=(eqId p q (.tmp 0) (.tmp 0) w).2.2.1;have e:(binOp .eql 73 (idV p) (idV q)).run prog w=((Op.equal 73 (idV p) (idV q)).run prog w).andThen λb w'=>.ok (.bool b) w':=by
  have D:binOp .eql 73 (idV p) (idV q)=(Op.equal 73 (idV p) (idV q) >>= λb=>pure (.bool b)):=by
   unfold binOp idV;simp only
  rw[D];simp only[Sem.run_bind,Sem.run_pure]
 rw[e]at h;generalize (Op.equal 73 (idV p) (idV q)).run prog w=r at h;cases r with
 | ok b w'=>simp only[Result.andThen]at h;cases h;rfl
 | halt x w'=>simp only[Result.andThen]at h;cases h
theorem z4a:KeyLaw prog 73 idV:=KeyLaw.asking underlying73 (λ_ _=>rfl) (λ_ _ _=>kr) k2w (λ_=>by simp[idV,Instr.sameBits])
theorem zvI (w:World):(zeroValue 3).run prog w=.ok (.int .i64 0) w:=kr
theorem u8h (v:Value)(ts:List TQ)(w0:World)(hs:Sl z4b w0 v ts)(M:TabAt w0 ts)(hl:ts.length=6)(hv:TabV (z1r ts)):Rets prog 221 #[v] w0 λr w'=>r=.int .i64 0/\Fr [] w0 w':=by
 obtain⟨A,c,rfl,d6,hM,hA⟩:=id hs;clear hA;unfold maxLen at hM;have b5:=z5b M;refine we [(0,.slice A ts.length c)] func221 U ntmps221 U (.cons U .nil) ?_;have b6:=hs;have a1:=M;refine sr (asg U (nn (sr (y8n idV (.int .i64 0) U (λJ w1 d1 D q1 z1=>(asg U (nn (sq (sr (mv U U (lnS U underlying53 (mv U U (nn (bl (lpK (ι:=Nat) [(3,_),(11,_),(12,_)] (λy=>[(13,.int .i64 (y:Int))]) (λy w'=>Fr [J] w1 w'/\y<=ts.length/\MapZ idV w' J (.int .i64 0) (y8w (y0a (z1r ts) y 0))) (λy=>ts.length-y) 0 (.c4 U U U U) ⟨Fr.refl _ _,⟨Nat.zero_le _,D⟩⟩ ?_)))))))))))))));rintro y w2 ⟨q2,⟨hy,D⟩⟩;have z2:=q2.size;refine kpC [(3,_),(11,_),(12,_),(13,_)] (.c4 U U U U) (sr (lt' U (nn (sq (cd U (λc0=>?_) (λc0=>?_))))));replace M:=a1.ext (q1.z1 q2);have e1:=b5 y;have a9:=(M _ (z0z (d:=tq0) (i:=y) oo)).1.len_le;unfold maxLen at a9;refine sk (tn (sq (bl (sr ?_))));replace hs:=b6.ext (q1.z1 q2);refine z1d (tq0) U hs U y6v z1g (λb9 a6=>?_);refine z1k U (a6 _ hs) x1q (asg U (nn (sr (mv U U (lnS U underlying34 (mv U U (nn (bl (lpK (ι:=Nat) [(3,_),(11,_),(12,_),(13,_),(17,_),(18,_)] (λn=>[(19,.int .i64 (n:Int))]) (λn w'=>Fr [J] w2 w'/\n<=(ts.getD y tq0).2.length/\MapZ idV w' J (.int .i64 0) (y8w (y0a (z1r ts) y n))) (λn=>(ts.getD y tq0).2.length-n) 0 (.c7 U U U U U U U) ⟨Fr.refl _ _,⟨Nat.zero_le _,D⟩⟩ ?_)))))))));rintro n w3 ⟨q3,⟨hn,D⟩⟩;have z3:=q3.size;refine kpC [(3,_),(11,_),(12,_),(13,_),(17,_),(18,_),(19,_)] (.c7 U U U U U U U) (sr (lt' U (nn (sq (cd U (λc1=>?_) (λc1=>?_))))));replace M:=a1.ext (q1.z2 q2 q3);have e0:=z1z (z7r M (y:=y) (n:=n) oo oo).1;have b0:=(z7r M (y:=y) (n:=n) oo oo).1.len_le;unfold maxLen at b0;refine sk (tn (sq (bl (sr (z1d (lq0) U (M _ (z0z (d:=tq0) (i:=y) oo)).1 U v2r z1g (λc9 a7=>?_))))));refine z1l U (a7 _ (M _ (z0z (d:=tq0) (i:=y) oo)).1) x2h (al x6b U (λg7 w4 d7 a0 q4 z4=>?_));refine z0k (vs:=[_,_,_,_]) U a0 v2l (λw5 a0 q5 z5=>?_) (h1:=(by first|(simp[Value.oneCell',S];done)|exact z6t.one ((ts.getD y tq0).2.getD n lq0)));refine nn (sr (fad U z6m (z0i U a0 U z8o (lnS U underlying27 (mv U U (nn (bl ?_)))))));replace D:=(D.ext q4).fr q5 (by intro k M hb;simp at M hb;omega);refine lpK (ι:=Nat) [(3,_),(11,_),(12,_),(13,_),(17,_),(18,_),(19,_),(24,_),(25,_)] (λk=>[(26,.int .i64 (k:Int))]) (λk w'=>Fr [J] w5 w'/\k<=((ts.getD y tq0).2.getD n lq0).ths.length/\MapZ idV w' J (.int .i64 0) (y8w (y0a (z1r ts) y n++((ts.getD y tq0).2.getD n lq0).ths.take k))) (λk=>((ts.getD y tq0).2.getD n lq0).ths.length-k) 0 (.d8 U U U U U U U U (.c2 U U)) ⟨Fr.refl _ _,⟨Nat.zero_le _,by rw[List.take_zero,List.append_nil];exact D⟩⟩ ?_;rintro k w6 ⟨q6,⟨M,D⟩⟩;have z6:=q6.size;refine kpC [(3,_),(11,_),(12,_),(13,_),(17,_),(18,_),(19,_),(24,_),(25,_),(26,_)] (.d8 U U U U U U U U (.c2 U U)) (sr (lt' U (nn (sq (cd U (λc2=>?_) (λc2=>?_))))));have b3:=x8x (k:=k) hv.thr (y:=y) (n:=n) oo oo oo;have d5:((y0a (z1r ts) y n++((ts.getD y tq0).2.getD n lq0).ths.take k)).count (((ts.getD y tq0).2.getD n lq0).ths.getD k id0)=0:=by
  have h:=b3;rw[List.count_append,List.count_singleton,if_pos sp0]at h;omega
 refine sk (tn (sq (bl (sr ?_))));replace M:=a1.ext (q1.z5 q2 q3 q4 q5 q6);refine z1d (id0) U (z7r M (y:=y) (n:=n) oo oo).1 U z4x z1g (λd0 a8=>?_);refine z1l U (a8 _ (z7r M (y:=y) (n:=n) oo oo).1) z2y (al y0n U (λg9 w7 d9 I q7 z7=>?_));refine z0k (vs:=[_,_]) U I y0c (λw8 I q8 z8=>?_) (h1:=(by first|(simp[Value.oneCell',S];done)|exact z6t.one ((ts.getD y tq0).2.getD n lq0)));refine nn (sq ?_);replace D:=(D.ext q7).fr q8 (by intro k M hb;simp at M hb;omega);intro a h;refine z0h none (λwb w'=>Fr [J] wb w') z2m ?_;intro w9 q9;have z9:=q9.size;replace D:=D.ext q9;replace I:=I.ext q9;have hC:Fr [J] w9 w9:=Fr.refl _ _;have Z:=D;have O:=I;refine z0e 0 h U λa h=>z0v 1 h U (λ_ hw=>O.fr hw (by intro e;simp at e;omega)) z2y U λa h=>z1x 2 4 kr U ?_ ?_;refine z7n (V:=idV) (z:=(.int .i64 0)) (k:=(((ts.getD y tq0).2.getD n lq0).ths.getD k id0)) (v:=.int .i64 ((((y0a (z1r ts) y n++((ts.getD y tq0).2.getD n lq0).ths.take k)).count (((ts.getD y tq0).2.getD n lq0).ths.getD k id0):Nat):Int)) h U U D z4a underlying137 zvI U U λa h=>z0b (z4m 3 h U (by first|exact i6 oo|rfl) U λa h=>z0d 4 U ?_);have b4:=D.ne_blk I;refine z6w (V:=idV) (z:=(.int .i64 0)) (k:=(((ts.getD y tq0).2.getD n lq0).ths.getD k id0)) h U U D z4a underlying137 zvI U λe2 d3 he a2 e4 a h=>?_;replace D:=he.map;replace I:=I.fr a2 (by intro e;simp at e;omega);replace hC:=hC.step a2 sp0;refine z0b (z0m 5 h U λa h=>z0d 6 U (z5k (V:=idV) (z:=(.int .i64 0)) (k:=(((ts.getD y tq0).2.getD n lq0).ths.getD k id0)) h U U U he ?_));clear h a he D;intro b7 D a3 e5 a h;replace D:MapZ idV b7 J (.int .i64 0) (y8w ((y0a (z1r ts) y n++((ts.getD y tq0).2.getD n lq0).ths.take k)++[(((ts.getD y tq0).2.getD n lq0).ths.getD k id0)])):=by rw[<-y8v];exact D
 replace I:=I.fr a3 (by intro e;simp at e;omega);replace hC:=hC.step a3 sp0;refine z0b (z0p ?_);clear hC Z O;refine bk (h.sub (L':=[(3,_),(9,_),(11,_),(12,_),(13,_),(17,_),(18,_),(19,_),(24,_),(25,_),(26,_)]) (.d8 U U U U U U U U (.c3 U U U))) (tn (sr (mv U U (z0n U I z2y (y5a (V:=idV) (z:=(.int .i64 0)) (k:=(((ts.getD y tq0).2.getD n lq0).ths.getD k id0)) (v:=.int .i64 ((((y0a (z1r ts) y n++((ts.getD y tq0).2.getD n lq0).ths.take k)++[(((ts.getD y tq0).2.getD n lq0).ths.getD k id0)]).count (((ts.getD y tq0).2.getD n lq0).ths.getD k id0):Nat):Int)) U U D z4a underlying137 zvI U U (gt' U (nn (cd U (λc3=>?_) (λc3=>?_)))))))));refine sr (asg U (kpL [(2,_)] (.cons U .nil) (nn (rt (rb (tr (tr (rb (rb (tr (tr (rb (rb (tr (tr (rb (tr (r1 results221 U ?_))))))))))))))))));exfalso;omega;exact sk (bn' (tn (rg (z1b U (wi6 oo) (mv U U (nl (lpE (k+1) (.d8 U U U U U U U U (.c2 U U)) ⟨((Fr.refl [J] _).z6 q6 q7 q8 q9 a2 a3),⟨oo,by rw[z9m id0 oo,<-List.append_assoc];exact D⟩⟩ oo)))))));have b4:=D.ne_blk I;refine z6w (V:=idV) (z:=(.int .i64 0)) (k:=(((ts.getD y tq0).2.getD n lq0).ths.getD k id0)) h U U D z4a underlying137 zvI U λe3 d4 he a4 e6 a h=>?_;replace D:=he.map;replace I:=I.fr a4 (by intro e;simp at e;omega);replace hC:=hC.step a4 sp0;refine z0b (z0m 5 h U λa h=>z0d 2 U (z7n (V:=idV) (z:=(.int .i64 0)) (k:=(((ts.getD y tq0).2.getD n lq0).ths.getD k id0)) (v:=.int .i64 ((((y0a (z1r ts) y n++((ts.getD y tq0).2.getD n lq0).ths.take k)).count (((ts.getD y tq0).2.getD n lq0).ths.getD k id0):Nat):Int)) h U U D z4a underlying137 zvI U U λa h=>?_));refine z0b (z4m 3 h U (by first|exact i6 oo|rfl) U λa h=>z0d 6 U (z5k (V:=idV) (z:=(.int .i64 0)) (k:=(((ts.getD y tq0).2.getD n lq0).ths.getD k id0)) h U U U he ?_));clear h a he D;intro b8 D a5 e7 a h;replace D:MapZ idV b8 J (.int .i64 0) (y8w ((y0a (z1r ts) y n++((ts.getD y tq0).2.getD n lq0).ths.take k)++[(((ts.getD y tq0).2.getD n lq0).ths.getD k id0)])):=by rw[<-y8v];exact D
 replace I:=I.fr a5 (by intro e;simp at e;omega);replace hC:=hC.step a5 sp0;refine z0b (z0p ?_);clear hC Z O;refine bk (h.sub (L':=[(3,_),(9,_),(11,_),(12,_),(13,_),(17,_),(18,_),(19,_),(24,_),(25,_),(26,_)]) (.d8 U U U U U U U U (.c3 U U U))) (tn (sr (mv U U (z0n U I z2y (y5a (V:=idV) (z:=(.int .i64 0)) (k:=(((ts.getD y tq0).2.getD n lq0).ths.getD k id0)) (v:=.int .i64 ((((y0a (z1r ts) y n++((ts.getD y tq0).2.getD n lq0).ths.take k)++[(((ts.getD y tq0).2.getD n lq0).ths.getD k id0)]).count (((ts.getD y tq0).2.getD n lq0).ths.getD k id0):Nat):Int)) U U D z4a underlying137 zvI U U (gt' U (nn (cd U (λc3=>?_) (λc3=>?_)))))))));refine sr (asg U (kpL [(2,_)] (.cons U .nil) (nn (rt (rb (tr (tr (rb (rb (tr (tr (rb (rb (tr (tr (rb (tr (r1 results221 U ?_))))))))))))))))));exfalso;omega;exact sk (bn' (tn (rg (z1b U (wi6 oo) (mv U U (nl (lpE (k+1) (.d8 U U U U U U U U (.c2 U U)) ⟨((Fr.refl [J] _).z6 q6 q7 q8 q9 a4 a5),⟨oo,by rw[z9m id0 oo,<-List.append_assoc];exact D⟩⟩ oo)))))));obtain rfl:k=((ts.getD y tq0).2.getD n lq0).ths.length:=by omega
 rw[List.take_length]at D;exact ex (te (te (xh (bn' (tn (rg (z1b U (wi6 oo) (mv U U (nl (lpE (n+1) (.c7 U U U U U U U) ⟨((Fr.refl [J] _).z4 q3 q4 q5 q6),⟨oo,by rw[y8a oo];exact D⟩⟩ oo))))))))));obtain rfl:n=(ts.getD y tq0).2.length:=by omega
 exact ex (te (te (xh (bn' (tn (rg (z1b U (wi6 oo) (mv U U (nl (lpE (y+1) (.c4 U U U U) ⟨((Fr.refl [J] _).z2 q2 q3),⟨oo,by rw[y7p oo];exact D⟩⟩ oo))))))))));obtain rfl:y=ts.length:=by omega
 exact ex (te (te (xh (tn (sr (asg U (nn (rt (r1 results221 U ⟨_,rfl,rfl,(q1.z1 q2)⟩)))))))))
theorem v4l (q:LpQ)(n:Int)(w0:World)(J:LpAt w0 q)(h0:0<=n)(hn:n.toNat<(z4r q.p).length)(hb:q.ths.length<=4/\q.pas.length<=4096):Rets prog 264 #[.agg #[.int .u8 q.b,.bool q.nw,.slice q.th.1 q.th.2.1 q.th.2.2,.slice q.pa.1 q.pa.2.1 q.pa.2.2],.int .i64 n] w0 λr w'=>r=.agg #[.int .u8 ((z4r q.p).getD n.toNat id0).y,.int .i64 ((z4r q.p).getD n.toNat id0).n]/\Fr [] w0 w':=by
 have a5:=z1z J.1;have a6:=z1z J.2;have a0:=J.1.len_le;unfold maxLen at a0;have a7:=v0f q;refine we [(0,.agg #[.int .u8 q.b,.bool q.nw,.slice q.th.1 q.th.2.1 q.th.2.2,.slice q.pa.1 q.pa.2.1 q.pa.2.2]),(1,.int .i64 n)] func264 U ntmps264 U (.c2 U U) ?_;have M:=J;refine sr (bx U (λg2 w1 a3 D q1 z1=>(al y0n U (λg4 w2 a4 I q2 z2=>(nn (sq (sr (mv U U (fad U z6m ?_)))))))));replace D:=D.ext q2;refine z0i U D U z8o (lnS U underlying27 (lt' U (nn (cd U (λc0=>?_) (λc0=>?_)))));refine sr (fad U z6m (z0i U D U z8o (mv U U ?_)));replace J:=M.ext (q1.n1 q2);refine z1d (p:=n.toNat) (id0) U J.1 U z4x oo (λa1 O=>?_);refine z1l U (O _ J.1) z2y (z0k (vs:=[_,_]) U I y0c (λw3 I q3 z3=>?_) (h1:=(by first|(simp[Value.oneCell',S];done)|exact z1f.one _)));exact kpL [(4,_)] (.cons U .nil) (nn (rt (tr (rC results264 U I z2y  ⟨_,rfl,by rw[j4s oo],(q1.z2 q2 q3)⟩))));refine sk (tn (sr (fad U z9b (z0i U D U x4v (mv U U (fad U z6m (z0i U D U z8o (lnS U underlying27 (z2p U (wi6 oo) ?_)))))))));replace J:=M.ext (q1.n1 q2);refine z1d (p:=(n.toNat-q.ths.length)) (pa0) U J.2 U y0r oo (λa2 Z=>?_);refine fad U u0g (z1l U (v2t (vs:=[_,_]) (Z _ J.2) U) z2y (z0k (vs:=[_,_]) U I y0c (λw4 I q4 z4=>?_) (h1:=(by first|(simp[Value.oneCell',S];done)|exact z1f.one _))));exact kpL [(4,_)] (.cons U .nil) (nn (rt (rC results264 U I z2y  ⟨_,rfl,by rw[u9g oo hn],(q1.z2 q2 q4)⟩)))
theorem j8c:BuildAt prog 73 [(0,1),(1,1)] [(.int .u8 0),(.int .i64 0)]:=BuildAt.struct underlying73 (λ_=>kr) (λ_=>kr)
theorem z7l:ElemOf prog 154 3 Enc.i64 8:=ElemOf.mk' (z:=(.int .i64 0)) underlying154 kr U
theorem zv3 (w:World):(zeroValue 3).run prog w=.ok (.int .i64 0) w:=kr
theorem x8k {α β:Type}{E:Enc α}{I:Enc β}{T T' b b':Nat}{w:World}{v v':Value}{l:List α}{l':List β}(h:Lw.Own E T b w v l)(J:Lw.Own I T' b' w v' l')(M:T'≠T):∀k∈z0u v,k∉z0u v':=λk Z D=>by
 obtain⟨cs,O⟩:=z4v h k Z
 exact J.neB O M D
theorem u3h (v:Value)(ts:List TQ)(w0:World)(hs:Sl z4b w0 v ts)(D:TabAt w0 ts)(hl:ts.length=6)(hv:TabV (z1r ts)):Rets prog 222 #[v] w0 λr w'=>∃l,Lw.Own z1f 73 w0.heap.size w' r l/\l.length=z4f (z1r ts)/\Fr [] w0 w':=by
 obtain⟨A,c,rfl,l9,Z,hA⟩:=id hs;clear hA;unfold maxLen at Z;have i5:=z5b D;have hH:=hv.has;have m0:z4f (z1r ts)<=2048:=hv.ok.cnt;have h3:=z8z ts;refine we [(0,.slice A ts.length c)] func222 U ntmps222 U (.cons U .nil) ?_;have i7:=hs;have h0:=D;refine sr (asg U (nn (sr (mv U U (cl (ev1 U) (mkC func201) (y4e _ _ _ hs D oo) U ?_)))));rintro _ w1 ⟨rfl,q1⟩;have z1:=q1.size;refine asg U (nn (sr (mv U U (z1e (m:=0) (c:=z4f (z1r ts)) (id0) U z4x y0n U (λl2 w2 k2 hR q2 z2=>(asg U (nn (sr (mv U U (lnS U underlying53 (z1e (m:=ts.length) (c:=ts.length) ((0:Int)) U z7l zv3 U (λa3 w3 k4 Z q3 z3=>(asg U (nn (sr (mv U U (lnS U underlying53 (z1e (m:=ts.length) (c:=ts.length) ((0:Int)) U z7l zv3 U (λa0 w4 k5 M q4 z4=>?_)))))))))))))))))));refine asg U (nn (sq (bl ?_)));replace hR:=hR.ext (q3.n1 q4);replace Z:=Z.ext q4;refine lpK (ι:=Value×List Int×List Int×List LId) [(0,_),(3,_),(5,_),(6,_)] (λp=>[(4,p.1)]) (λp w'=>Fr [] w0 w'/\FstI (z1r ts) p.2.1 p.2.2.1 p.2.2.2.length/\Lw.Own z1f 73 w0.heap.size w' p.1 p.2.2.2/\Lw.Own Enc.i64 3 w0.heap.size w' (.slice (some ⟨a3,0,none⟩) ts.length ts.length) p.2.1/\Lw.Own Enc.i64 3 w0.heap.size w' (.slice (some ⟨a0,0,none⟩) ts.length ts.length) p.2.2.1) (λp=>z4f (z1r ts)-p.2.2.2.length) (_,List.replicate ts.length 0,List.replicate ts.length 0,[]) (.c5 U U U U U) ⟨(q1.n3 q2 q3 q4),⟨by simp only;rw[hl];exact FstI.init,by simpa using hR.low oo,Z.low oo,M.low oo⟩⟩ ?_;rintro⟨vR,ms,uu,l⟩ w5 ⟨q5,⟨hF,hR,Z,M⟩⟩;simp only at hF hR Z M;have z5:=q5.size;refine kpC [(0,_),(3,_),(5,_),(6,_),(4,vR)] (.c5 U U U U U) ?_;have a8:a3∉z0u vR:=λh=>x8k hR Z dd a3 h (List.mem_singleton.2 U);have a9:a0∉z0u vR:=λh=>x8k hR M dd a0 h (List.mem_singleton.2 U);have l4:=(Z.blk a3 (List.mem_singleton.2 U)).2;have l5:=(M.blk a0 (List.mem_singleton.2 U)).2;obtain⟨AR,cR,rfl,l8⟩:=hR.sl.form;refine sq (sr (mv U U (lnS U underlying27 (mv U U (lt' U (nn (cd U (λc0=>?_) (λc0=>?_))))))));refine sk (tn (bl (sc (sr (mv U U (lnS U underlying27 (asg U (nn (sq (lb (tn (sq (sr (mv U U (lnS U underlying53 (mv U U (nn (bl (lpK (ι:=Nat×List Int) [(0,_),(3,_),(4,_),(5,_),(6,_),(7,_),(28,_),(29,_)] (λp=>[(30,.int .i64 (p.1:Int))]) (λp w'=>Fr [a0] w5 w'/\p.1<=6/\FstI (z1r ts) ms p.2 l.length/\(∀z,z<p.1->v6f (z1r ts) ms z)/\Lw.Own Enc.i64 3 w0.heap.size w' (.slice (some ⟨a0,0,none⟩) ts.length ts.length) p.2) (λp=>6-p.1) (0,uu) (.d8 U U U U U U U U (.cons U .nil)) ⟨Fr.refl _ _,⟨Nat.zero_le _,hF,λz h=>absurd h sp0,M⟩⟩ ?_)))))))))))))))))));rintro⟨y,vs⟩ w6 ⟨q6,⟨hy,hF,e5,M⟩⟩;simp only at hy hF e5 M;have z6:=q6.size;refine kpC [(0,_),(3,_),(4,_),(5,_),(6,_),(7,_),(28,_),(29,_),(30,.int .i64 (y:Int))] (.d8 U U U U U U U U (.cons U .nil)) (sr (lt' U (nn (sq (cd U (λc1=>?_) (λc1=>?_))))));replace D:=h0.ext (q5.z1 q6);have a5:y<6:=by omega
 have m5:=i5 y;have h2:=hF.lm;have i3:=hF.mb y a5;have i1:=(D _ (z0z (d:=tq0) (i:=y) oo)).1.len_le;unfold maxLen at i1;refine sk (tn (sq (bl (sr (mv U U ?_)))));replace hs:=i7.ext (q5.z1 q6);refine z1d (tq0) U hs U y6v z1g (λj3 f7=>?_);refine z1k U (f7 _ hs) x1q (asg U (asg U (nn (sq (sr (mv U U (mv U U ?_)))))));replace Z:=Z.fr q6 (by intro k D I;have D:=List.mem_singleton.1 D;have I:=List.mem_singleton.1 (show k∈[a3] from I);omega);refine z1d (0) U Z.sl U z7l z1g (λj4 f8=>?_);refine z1k U (f8 _ Z.sl) na3 (mv U U (lnS U underlying34 (eq' U (kpL [(0,_),(3,_),(4,_),(5,_),(6,_),(7,_),(8,_),(9,_),(28,_),(29,_),(30,_),(41,_)] (.d8 U U U U U U U U (.c4 U U U U)) (nn (cd U (λc2=>?_) (λc2=>?_)))))));have e4:v6f (z1r ts) ms y:=.inl (by rw[z3x];omega);refine ex (te (xh (tn (rg (z1b U (wi6 oo) (mv U U (nl ?_)))))));exact lpE ((y+1,_)) (.d8 U U U U U U U U (.cons U .nil)) ⟨((Fr.refl [a0] _).z1 q6),⟨sm,hF,λz h=>(by
  by_cases e:z<y;exact e5 z e;obtain rfl:z=y:=by simp only at h;omega
  exact e4),M⟩⟩ sm
 have e0:ms.getD y 0<(z3b (z1r ts) y:Int):=by rw[z3x];rw[z3x]at i3;omega
 have b5:(ms.getD y 0).toNat<(ts.getD y tq0).2.length:=by rw[z3x]at e0;omega
 have e2:nd (z1r ts) y (ms.getD y 0)=z4r ((ts.getD y tq0).2.getD (ms.getD y 0).toNat lq0).p:=by unfold nd;rw[y6r]
 have h4:=v0f ((ts.getD y tq0).2.getD (ms.getD y 0).toNat lq0);have b6:=(hv.ok.rts y a5 _ (by rw[z3x];exact b5)).1;rw[y6r]at b6;have k8:=z1z (z7r D (y:=y) (n:=(ms.getD y 0).toNat) oo b5).1;have k9:=z1z (z7r D (y:=y) (n:=(ms.getD y 0).toNat) oo b5).2;have l6:((ts.getD y tq0).2.getD (ms.getD y 0).toNat lq0).ths.length<=4:=b6.2.1.1;have l7:((ts.getD y tq0).2.getD (ms.getD y 0).toNat lq0).pas.length<=4096:=b6.2.1.2;refine sk (tn (sr (mv U U (mv U U (mv U U (z1d (0) U Z.sl U z7l z1g (λj5 f9=>?_)))))));refine z1k U (f9 _ Z.sl) na3 (z1d (lq0) U (D _ (z0z (d:=tq0) (i:=y) oo)).1 U v2r z1g (λj6 g0=>?_));refine z1l U (g0 _ (D _ (z0z (d:=tq0) (i:=y) oo)).1) x2h (al x6b U (λf6 w7 k1 J q7 z7=>?_));refine z0k (vs:=[_,_,_,_]) U J v2l (λw8 J q8 z8=>?_) (h1:=(by first|(simp[Value.oneCell',S];done)|exact z6t.one ((ts.getD y tq0).2.getD (ms.getD y 0).toNat lq0)|exact z1f.one ((z4r ((ts.getD y tq0).2.getD (ms.getD y 0).toNat lq0).p).getD (xs.getD y 0).toNat id0)));refine kpL [(0,_),(3,_),(4,_),(5,_),(6,_),(7,_),(8,_),(10,_),(28,_),(29,_),(30,_)] (.d8 U U U U U U U U (.c3 U U U)) (nn (sq (bl ?_)));replace M:=(M.ext q7).fr q8 (by intro k D I;have D:=List.mem_singleton.1 D;have I:=List.mem_singleton.1 (show k∈[a0] from I);omega);refine lpK (ι:=List Int) [(0,_),(3,_),(4,_),(5,_),(6,_),(7,_),(8,_),(10,_),(28,_),(29,_),(30,_)] (λp=>[]) (λp w'=>Fr [a0] w8 w'/\FstI (z1r ts) ms p l.length/\Lw.Own Enc.i64 3 w0.heap.size w' (.slice (some ⟨a0,0,none⟩) ts.length ts.length) p) (λp=>(z4r ((ts.getD y tq0).2.getD (ms.getD y 0).toNat lq0).p).length-(p.getD y 0).toNat) vs (.d8 U U U U U U U U (.c3 U U U)) ⟨Fr.refl _ _,⟨hF,M⟩⟩ ?_;rintro xs w9 ⟨q9,⟨hF,M⟩⟩;have z9:=q9.size;refine kpC [(0,_),(3,_),(4,_),(5,_),(6,_),(7,_),(8,_),(10,_),(28,_),(29,_),(30,_)] (.d8 U U U U U U U U (.c3 U U U)) ?_;have h6:=hF.tb y a5;have h2:=hF.lm;have m4:=hF.lt;refine sq (sq ?_);replace J:=J.fr q9;intro a h;refine z0h none (λwb w'=>Fr [] wb w') z2m ?_;intro h8 a4;have o2:=a4.size;replace J:=J.ext a4;replace M:=M.ext a4;have hC:Fr [] h8 h8:=Fr.refl _ _;have a1:=J;have a7:=M;refine z0e 0 h U λa h=>z0e 1 h U λa h=>z1i (0) 2 h U M.sl U z7l U ?_ (hp:=rfl);clear h a;intro j7 g1 a h;refine z2x 3 h wn U (λ_ hw=>g1 _ (a7.sl.ext hw)) na3 U λa h=>z0c 4 h U z6m U λa h=>z0j 5 h U (λ_ hw=>a1.ext hw) U z8o U λa h=>z6p 6 h wn U underlying27 U λa h=>z0c 7 h U z9b U λa h=>z0j 8 h U (λ_ hw=>a1.ext hw) U x4v U λa h=>z6p 9 h wn U underlying30 U λa h=>z4m 10 h U (by first|exact i6 oo|rfl) U λa h=>v3a 11 hC h wn U U λa h=>z0p ?_;clear hC a1 a7;refine bk (h.sub (L':=[(0,_),(3,_),(4,_),(5,_),(6,_),(7,_),(8,_),(10,_),(28,_),(29,_),(30,_),(60,_)]) (.d8 U U U U U U U U (.c4 U U U U))) (tn (cd U (λc3=>?_) (λc3=>?_)));have e9:xs.getD y 0<IntKind.i64.wrap ((((ts.getD y tq0).2.getD (ms.getD y 0).toNat lq0).th.2.1:Int)+(((ts.getD y tq0).2.getD (ms.getD y 0).toNat lq0).pa.2.1:Int)):=c3;rw[IntWalk.i64_in _ oo]at e9;have e3:(xs.getD y 0).toNat<(z4r ((ts.getD y tq0).2.getD (ms.getD y 0).toNat lq0).p).length:=by rw[h4];omega
 have g8:z3r (z1r ts) ((z4r ((ts.getD y tq0).2.getD (ms.getD y 0).toNat lq0).p).getD (xs.getD y 0).toNat id0):=b6.2.2.1 _ (z0z e3);have k7:=g8.1;have g9:=g8.2.1;rw[h3]at g9;have h2:=hF.lm;refine sk (tn (bl (sq (sq ?_))));replace D:=h0.ext (q5.z5 q6 q7 q8 q9 a4);intro a h;refine z0h none (λwb w'=>Fr [] wb w') z2m ?_;intro f3 a6;have o3:=a6.size;replace D:=D.ext a6;replace J:=J.ext a6;replace M:=M.ext a6;have hC:Fr [] f3 f3:=Fr.refl _ _;have e8:=D;have a1:=J;have a7:=M;refine z0v 0 h U (λ_ hw=>a1.ext hw) x2h U λa h=>z0e 1 h U λa h=>z0e 2 h U λa h=>z1i (0) 3 h U M.sl U z7l U ?_ (hp:=rfl);clear h a;intro j8 g3 a h;refine z2x 4 h wn U (λ_ hw=>g3 _ (a7.sl.ext hw)) na3 U λa h=>z1x 5 6 kr U ?_ ?_;refine z0o h (z0a U (z0a U z0f)) (mkC func264) (v4l ((ts.getD y tq0).2.getD (ms.getD y 0).toNat lq0) (xs.getD y 0) _ (z7r D (y:=y) (n:=(ms.getD y 0).toNat) oo b5) h6 e3 ⟨b6.2.1.1,b6.2.1.2⟩) ?_;rintro _ j0 ⟨rfl,b7⟩ a h;have o4:=b7.size;replace J:=J.ext b7;replace hC:=hC.next b7;refine z0b (z0d 6 U (z0w h y0n U λm6 O b8 hz a h=>?_));obtain⟨b3,hg⟩:∃g,g=j0.heap.size:=⟨_,rfl⟩;rw[<-hg]at O h hz;have e1:f6<b3:=by have:=J.lt;omega
 have o5:=b8.size;replace D:=D.ext (b7.n1 b8);replace J:=J.ext b8;replace M:=M.ext (b7.n1 b8);replace hC:=hC.next b8;refine z0b (z0d 7 U (z0t h U O U y0c ?_ (h1:=(by first|(simp[Value.oneCell',S];done)|exact z6t.one ((ts.getD y tq0).2.getD (ms.getD y 0).toNat lq0)|exact z1f.one ((z4r ((ts.getD y tq0).2.getD (ms.getD y 0).toNat lq0).p).getD (xs.getD y 0).toNat id0)))));clear h a;intro j1 d5 c9 hz a h;have o6:=c9.size;replace J:=J.fr c9;replace M:=M.fr c9 (by intro k D I;have D:=List.mem_singleton.1 D;have I:=List.mem_singleton.1 (show k∈[a0] from I);omega);replace hC:=hC.sp c9;clear O hz;have O:Blk j1 b3 _ [_,_]:=d5;clear d5;refine z0b (z0p ?_);clear hC e8 a1 a7;refine bk (h.sub (L':=[(0,_),(3,_),(4,_),(5,_),(6,_),(7,_),(8,_),(10,_),(11,_),(28,_),(29,_),(30,_)]) (.d8 U U U U U U U U (.c4 U U U U))) (tn (sq ?_));replace Z:=((((Z.ext q7).fr q8 (by intro k D I;have D:=List.mem_singleton.1 D;have I:=List.mem_singleton.1 (show k∈[a3] from I);omega)).fr q9 (by intro k D I;have D:=List.mem_singleton.1 D;have I:=List.mem_singleton.1 (show k∈[a3] from I);omega)).ext (a4.n3 a6 b7 b8)).fr c9 (by intro k D I;have D:=List.mem_singleton.1 D;have I:=List.mem_singleton.1 (show k∈[a3] from I);omega);intro a h;refine z0h none (λwb w'=>Fr [] wb w') z2m ?_;intro h9 d0;have o7:=d0.size;replace Z:=Z.ext d0;replace O:=O.ext d0;have hC:Fr [] h9 h9:=Fr.refl _ _;have b4:=Z;have a2:=O;refine z0c 0 h U z6g U λa h=>z0j 1 h U (λ_ hw=>a2.ext hw) U na3 U λa h=>z0e 2 h U λa h=>z0c 3 h U z5v U λa h=>z0j 4 h U (λ_ hw=>a2.ext hw) U na5 U λa h=>z2w 5 h wn U (by first|exact IntWalk.u8_in _ oo|rfl) U λa h=>z1i (0) 6 h U Z.sl U z7l U ?_ (hp:=rfl);clear h a;intro f4 d6 a h;refine z2x 7 h wn U (λ_ hw=>d6 _ (b4.sl.ext hw)) na3 U λa h=>u2f 8 hC h wn U U U U λa h=>z0p ?_;clear hC b4 a2;refine bk (h.sub (L':=[(0,_),(3,_),(4,_),(5,_),(6,_),(7,_),(8,_),(10,_),(28,_),(29,_),(30,_),(75,_)]) (.d8 U U U U U U U U (.c4 U U U U))) (tn (cd U (λc4=>?_) (λc4=>?_)));have e4:v6f (z1r ts) ms y:=.inr ⟨e0,((z4r ((ts.getD y tq0).2.getD (ms.getD y 0).toNat lq0).p).getD (xs.getD y 0).toNat id0),by rw[e2];exact z0z e3,by unfold InM;omega⟩;refine ex (te (xo U (te (xo U (te (xh (tn (rg (z1b U (wi6 oo) (mv U U (nl ?_)))))))))));replace M:=M.ext d0;exact lpE ((y+1,_)) (.d8 U U U U U U U U (.cons U .nil)) ⟨((((Fr.refl [a0] _).z6 q6 q7 q8 q9 a4 a6).n1 b7).z3 b8 c9 d0),⟨sm,hF,λz h=>(by
  by_cases e:z<y;exact e5 z e;obtain rfl:z=y:=by simp only at h;omega
  exact e4),M⟩⟩ sm
 have d4:=hF.there a5 (by rw[e2];unfold InM;omega);refine sk (tn (rg (mv U U (mv U U ?_))));replace M:=M.ext d0;refine z1d (0) U M.sl U z7l z1g (λf5 d7=>?_);refine z1k U (d7 _ M.sl) na3 (z1b U (wi6 oo) (y0h (p:=y) (E:=Enc.i64) U U z7l (z6b (i:=y) (xs.getD y 0+1) U U M (by rw[hF.lt];exact a5) U sz3 (λm7 M i8 o8=>?_))));exact kpL [(0,_),(3,_),(4,_),(5,_),(6,_),(7,_),(8,_),(10,_),(28,_),(29,_),(30,_)] (.d8 U U U U U U U U (.c3 U U U)) (nl (bn' (lpE (_) (.d8 U U U U U U U U (.c3 U U U)) ⟨((((Fr.refl [a0] _).z6 q9 a4 a6 b7 b8 c9).n1 d0).z1 i8),⟨d4,M⟩⟩ (by rw[z4s (by rw[hF.lt];exact a5),if_pos U];omega))));refine z0w h y0n U λm8 O b9 hz a h=>?_;obtain⟨b3,hg⟩:∃g,g=f3.heap.size:=⟨_,rfl⟩;rw[<-hg]at O h hz;have e1:f6<b3:=by have:=J.lt;omega
 have o9:=b9.size;replace D:=D.ext b9;replace hC:=hC.next b9;refine z0b (z0d 5 U (z0o h (z0a U (z0a U z0f)) (mkC func264) (v4l ((ts.getD y tq0).2.getD (ms.getD y 0).toNat lq0) (xs.getD y 0) _ (z7r D (y:=y) (n:=(ms.getD y 0).toNat) oo b5) h6 e3 ⟨b6.2.1.1,b6.2.1.2⟩) ?_));rintro _ m9 ⟨rfl,b0⟩ a h;have p0:=b0.size;replace D:=D.ext b0;replace J:=J.ext (b9.n1 b0);replace M:=M.ext (b9.n1 b0);replace O:=O.ext b0;replace hC:=hC.next b0;refine z0b (z0d 7 U (z0t h U O U y0c ?_ (h1:=(by first|(simp[Value.oneCell',S];done)|exact z6t.one ((ts.getD y tq0).2.getD (ms.getD y 0).toNat lq0)|exact z1f.one ((z4r ((ts.getD y tq0).2.getD (ms.getD y 0).toNat lq0).p).getD (xs.getD y 0).toNat id0)))));clear h a;intro j2 d5 d1 hz a h;have p1:=d1.size;replace J:=J.fr d1;replace M:=M.fr d1 (by intro k D I;have D:=List.mem_singleton.1 D;have I:=List.mem_singleton.1 (show k∈[a0] from I);omega);replace hC:=hC.sp d1;clear O hz;have O:Blk j2 b3 _ [_,_]:=d5;clear d5;refine z0b (z0p ?_);clear hC e8 a1 a7;refine bk (h.sub (L':=[(0,_),(3,_),(4,_),(5,_),(6,_),(7,_),(8,_),(10,_),(11,_),(28,_),(29,_),(30,_)]) (.d8 U U U U U U U U (.c4 U U U U))) (tn (sq ?_));replace Z:=((((Z.ext q7).fr q8 (by intro k D I;have D:=List.mem_singleton.1 D;have I:=List.mem_singleton.1 (show k∈[a3] from I);omega)).fr q9 (by intro k D I;have D:=List.mem_singleton.1 D;have I:=List.mem_singleton.1 (show k∈[a3] from I);omega)).ext (a4.n3 a6 b9 b0)).fr d1 (by intro k D I;have D:=List.mem_singleton.1 D;have I:=List.mem_singleton.1 (show k∈[a3] from I);omega);intro a h;refine z0h none (λwb w'=>Fr [] wb w') z2m ?_;intro i0 d3;have p2:=d3.size;replace Z:=Z.ext d3;replace O:=O.ext d3;have hC:Fr [] i0 i0:=Fr.refl _ _;have b4:=Z;have a2:=O;refine z0c 0 h U z6g U λa h=>z0j 1 h U (λ_ hw=>a2.ext hw) U na3 U λa h=>z0e 2 h U λa h=>z0c 3 h U z5v U λa h=>z0j 4 h U (λ_ hw=>a2.ext hw) U na5 U λa h=>z2w 5 h wn U (by first|exact IntWalk.u8_in _ oo|rfl) U λa h=>z1i (0) 6 h U Z.sl U z7l U ?_ (hp:=rfl);clear h a;intro f4 d6 a h;refine z2x 7 h wn U (λ_ hw=>d6 _ (b4.sl.ext hw)) na3 U λa h=>u2f 8 hC h wn U U U U λa h=>z0p ?_;clear hC b4 a2;refine bk (h.sub (L':=[(0,_),(3,_),(4,_),(5,_),(6,_),(7,_),(8,_),(10,_),(28,_),(29,_),(30,_),(75,_)]) (.d8 U U U U U U U U (.c4 U U U U))) (tn (cd U (λc4=>?_) (λc4=>?_)));have e4:v6f (z1r ts) ms y:=.inr ⟨e0,((z4r ((ts.getD y tq0).2.getD (ms.getD y 0).toNat lq0).p).getD (xs.getD y 0).toNat id0),by rw[e2];exact z0z e3,by unfold InM;omega⟩;refine ex (te (xo U (te (xo U (te (xh (tn (rg (z1b U (wi6 oo) (mv U U (nl ?_)))))))))));replace M:=M.ext d3;exact lpE ((y+1,_)) (.d8 U U U U U U U U (.cons U .nil)) ⟨((((Fr.refl [a0] _).z6 q6 q7 q8 q9 a4 a6).n1 b9).z3 b0 d1 d3),⟨sm,hF,λz h=>(by
  by_cases e:z<y;exact e5 z e;obtain rfl:z=y:=by simp only at h;omega
  exact e4),M⟩⟩ sm
 have d4:=hF.there a5 (by rw[e2];unfold InM;omega);refine sk (tn (rg (mv U U (mv U U ?_))));replace M:=M.ext d3;refine z1d (0) U M.sl U z7l z1g (λf5 d7=>?_);refine z1k U (d7 _ M.sl) na3 (z1b U (wi6 oo) (y0h (p:=y) (E:=Enc.i64) U U z7l (z6b (i:=y) (xs.getD y 0+1) U U M (by rw[hF.lt];exact a5) U sz3 (λn7 M i9 p3=>?_))));exact kpL [(0,_),(3,_),(4,_),(5,_),(6,_),(7,_),(8,_),(10,_),(28,_),(29,_),(30,_)] (.d8 U U U U U U U U (.c3 U U U)) (nl (bn' (lpE (_) (.d8 U U U U U U U U (.c3 U U U)) ⟨((((Fr.refl [a0] _).z6 q9 a4 a6 b9 b0 d1).n1 d3).z1 i9),⟨d4,M⟩⟩ (by rw[z4s (by rw[hF.lt];exact a5),if_pos U];omega))));have e9:¬xs.getD y 0<IntKind.i64.wrap ((((ts.getD y tq0).2.getD (ms.getD y 0).toNat lq0).th.2.1:Int)+(((ts.getD y tq0).2.getD (ms.getD y 0).toNat lq0).pa.2.1:Int)):=c3;rw[IntWalk.i64_in _ oo]at e9;have d4:=hF.push hH a5 e0 (by rw[e2,h4];omega);refine ex (te (te (xh (tn (sr (mv U U (mv U U (z1b U (wi6 oo) (z4y U (us underlying3) underlying5 (wi8 oo) (mv U U (mv U U ?_)))))))))));replace Z:=(((Z.ext q7).fr q8 (by intro k D I;have D:=List.mem_singleton.1 D;have I:=List.mem_singleton.1 (show k∈[a3] from I);omega)).fr q9 (by intro k D I;have D:=List.mem_singleton.1 D;have I:=List.mem_singleton.1 (show k∈[a3] from I);omega)).ext a4;refine z1d (0) U Z.sl U z7l z1g (λj9 g6=>?_);refine z1k U (g6 _ Z.sl) na3 (z1y (cs:=[_,_]) (ev2 U) j8c (z0g U (z0g U z0s)) U ?_);refine z2t ([(⟨(y:Int)+1,ms.getD y 0⟩:LId)]) (ev1 U) U z4x (λl3 n8 k6 h5 e6 p4=>?_);replace Z:=Z.ext e6;replace M:=M.ext e6;replace hR:=((((hR.fr q6 (by intro k D I;rw[List.mem_singleton.1 D]at I;first|exact a8 I|exact a9 I|(have h_:=(hR.blk _ I).2;omega))).ext q7).fr q8 (by intro k D I;rw[List.mem_singleton.1 D]at I;first|exact a8 I|exact a9 I|(have h_:=(hR.blk _ I).2;omega))).fr q9 (by intro k D I;rw[List.mem_singleton.1 D]at I;first|exact a8 I|exact a9 I|(have h_:=(hR.blk _ I).2;omega))).ext (a4.n1 e6);have f0:=hR;refine z2l U hR h5.sl z4x (λh7 n9 hR e7 i4=>?_) (hM:=(by unfold maxLen;simp only[List.length_append,List.length_cons,List.length_nil];omega)) (hb:=(by simp only[List.length_append,List.length_cons,List.length_nil];omega));have p5:=e7.size;replace Z:=Z.fr e7 (λk D I=>a8 (by have e:=List.mem_singleton.1 (show k∈[a3] from I);rw[<-e];exact D));replace M:=M.fr e7 (λk D I=>a9 (by have e:=List.mem_singleton.1 (show k∈[a0] from I);rw[<-e];exact D));clear a8 a9;have a8:a3∉z0u h7:=λh=>x8k hR Z dd a3 h (List.mem_singleton.2 U);have a9:a0∉z0u h7:=λh=>x8k hR M dd a0 h (List.mem_singleton.2 U);obtain⟨l0,l1,rfl,_⟩:=hR.sl.form;refine asg U (kpL [(0,_),(3,_),(4,_),(5,_),(6,_),(7,_),(8,_)] (.c7 U U U U U U U) (nn (sr (mv U U (mv U U (z1d (0) U Z.sl U z7l z1g (λk0 g7=>?_)))))));refine z1k U (g7 _ Z.sl) na3 (z1b U (wi6 oo) (y0h (p:=y) (E:=Enc.i64) U U z7l (z6b (i:=y) (ms.getD y 0+1) U U Z (by rw[hF.lm];exact a5) U sz3 (λo0 Z f1 p6=>?_))));refine kpL [(0,_),(3,_),(4,_),(5,_),(6,_),(7,_),(8,_)] (.c7 U U U U U U U) (nn (sr (mv U U (mv U U ?_))));replace M:=M.fr f1 (by intro k D I;have D:=List.mem_singleton.1 D;have I:=List.mem_singleton.1 (show k∈[a0] from I);omega);refine y0h (p:=y) (E:=Enc.i64) U U z7l (z6b (i:=y) (0) U U M (by rw[hF.lt];exact a5) U sz3 (λo1 M f2 p7=>?_));refine nn (ex (xo U (te (te (xh (tn (sr (mv U U (lnS U underlying27 (mv U U (eq' U (nn (cd U (λc5=>?_) (λc5=>?_))))))))))))));exfalso;simp only[List.length_append,List.length_cons,List.length_nil]at c5;omega;skip;refine sk (gn' (bn' ?_));replace hR:=(hR.fr f1 (by intro k D I;rw[List.mem_singleton.1 D]at I;first|exact a8 I|exact a9 I|(have h_:=(hR.blk _ I).2;omega))).fr f2 (by intro k D I;rw[List.mem_singleton.1 D]at I;first|exact a8 I|exact a9 I|(have h_:=(hR.blk _ I).2;omega));replace Z:=Z.fr f2 (by intro k D I;have D:=List.mem_singleton.1 D;have I:=List.mem_singleton.1 (show k∈[a3] from I);omega);exact lpE ((_,_,_,_)) (.c5 U U U U U) ⟨(((q5.z6 q6 q7 q8 q9 a4 e6).step e7 (λk D e0=>absurd (f0.blk k D).1 oo)).z2 f1 f2),⟨by simpa using d4,hR,Z,M⟩⟩ (by simp only[List.length_append,List.length_cons,List.length_nil];omega);obtain rfl:y=6:=by omega
 have i2:=hF.done hH e5 hv.ok.ord;refine ex (te (te (xh (tn (sr (mv U U (lnS U underlying27 (mv U U (eq' U (kpL [(0,_),(3,_),(4,_),(5,_),(6,_),(106,_)] (.c6 U U U U U U) (nn (cd U (λc5=>?_) (λc5=>?_)))))))))))));have d9:l.length=z4f (z1r ts):=i2;refine ex (gx' (xo U (te (xh (tn (sr (mv U U (asg U (kpL [(2,_)] (.cons U .nil) (nn (rt (r1 results222 U ?_))))))))))));replace hR:=hR.fr q6 (by intro k D I;rw[List.mem_singleton.1 D]at I;first|exact a8 I|exact a9 I|(have h_:=(hR.blk _ I).2;omega));exact⟨_,rfl,l,hR,d9,(q5.z1 q6)⟩;exact absurd U c5;have d9:l.length=z4f (z1r ts):=by have:=hF.leI oo;omega
 exact ex (te (te (xh (tn (sr (mv U U (asg U (kpL [(2,_)] (.cons U .nil) (nn (rt (r1 results222 U ⟨_,rfl,l,hR,d9,q5⟩)))))))))))
end Go.Proofs.YtjilcnmaefhmeaaGreatDoor
