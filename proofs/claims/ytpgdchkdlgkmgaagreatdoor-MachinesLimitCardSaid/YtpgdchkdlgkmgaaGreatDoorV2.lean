/- Texts of the proof, joined. -/
import Derived.Lib.ItoaNum
import Derived.Lib.Join
import Derived.Lib.AtoiAll
import Derived.Lib.Split
import Derived.Lib.TrimByte
import Derived.Lib.IndexMore
import Derived.Laws.CopyRow
import Derived.Lib.AppendZerosOnto
import Derived.Test.YtpgdchkdlgkmgaaGreatDoorRows
import Derived.Laws.RangeString
import Derived.Test.YtpgdchkdlgkmgaaGreatDoorV1
set_option linter.unusedVariables false
set_option linter.unusedSimpArgs false
namespace Go.Lw
open Go.RowKit
structure MOp where
  k:Int
  d:Int
  b:Int
  p:Int
  y:Int
  r:Int
theorem MOp.ext' {a c:MOp} (h:a.k=c.k/\a.d=c.d/\a.b=c.b/\a.p=c.p/\a.y=c.y/\a.r=c.r):a=c:=by
 obtain ⟨h1,h2,h3,h4,h5,h6⟩:=h;cases a;cases c;simp only at *;subst h1 h2 h3 h4 h5 h6;rfl
instance:DecidableEq MOp:=λa c=>
  if h:a.k=c.k/\a.d=c.d/\a.b=c.b/\a.p=c.p/\a.y=c.y/\a.r=c.r then isTrue (MOp.ext' h)
  else isFalse (λe=>h (by subst e;exact ⟨rfl,rfl,rfl,rfl,rfl,rfl⟩))
def z6s:Enc MOp:=⟨λo=>[.int .u8 o.k,.int .u8 o.d,.int .u8 o.b,.int .i64 o.p,.int .u8 o.y,.int .i64 o.r],6,λ_=>rfl,λ_ u h=>by simp at h;rcases h with rfl|rfl|rfl|rfl|rfl|rfl<;>rfl,by decide⟩
abbrev opV (o:MOp):Value:=.agg #[.int .u8 o.k,.int .u8 o.d,.int .u8 o.b,.int .i64 o.p,.int .u8 o.y,.int .i64 o.r]
def op0:MOp:=⟨0,0,0,0,0,0⟩
def ndV (p:Int×Int):Value:=.agg #[.int .u8 p.1,.int .i64 p.2]
def z3d (b p:Int):Int:=if b≠0/\b≠1 then 1 else if p<1\/40<p then 1 else 0
abbrev F4:=Bool×Bool×Bool×Bool
def f4L (f:F4):List Value:=[.bool f.1,.bool f.2.1,.bool f.2.2.1,.bool f.2.2.2]
theorem x3b (f:F4):∀u∈f4L f,u.oneCell'=true:=by intro u hu;simp [f4L] at hu;rcases hu with rfl|rfl|rfl|rfl<;>rfl
def f4V (f:F4):Value:=.agg (f4L f).toArray
def f40:F4:=(false,false,false,false)
def z6q (k:Int):Option F4:=
  if k=8 then some (false,true,false,false) else if k=7 then some (false,true,false,false) else if k=6 then some (true,true,true,false)
  else if k=5 then some (true,true,true,false) else if k=4 then some (true,true,true,false) else if k=3 then some (false,false,false,true)
  else if k=2 then some (false,false,true,false) else if k=1 then some (true,false,true,false) else none
def x3j (k:Int):Option Value:=(z6q k).map f4V
theorem z7k (k:Int):(x3j k).getD (.agg #[.bool false,.bool false,.bool false,.bool false])=.agg (f4L ((z6q k).getD f40)).toArray:=by
 unfold x3j;cases z6q k<;>rfl
theorem y0x (k:Int):(x3j k).isSome=(z6q k).isSome:=by unfold x3j;cases z6q k<;>rfl
abbrev pl1 (f:F4) (o:MOp):Prop:=(f.1=true/\o.d≠0)/\o.d≠1\/¬f.1=true/\o.d≠0
abbrev pl2 (f:F4) (o:MOp):Prop:=f.2.1=true/\z3d o.b o.p≠0\/¬f.2.1=true/\¬(o.b=0/\o.p=0)
abbrev pl3 (f:F4) (o:MOp):Prop:=f.2.2.1=true/\(o.y<1\/6<o.y)\/¬f.2.2.1=true/\o.y≠0
abbrev pl4 (f:F4) (o:MOp):Prop:=f.2.2.2=true\/o.r=0
def x6y (f:F4) (o:MOp):Prop:=¬pl1 f o/\¬pl2 f o/\¬pl3 f o/\pl4 f o
instance (f:F4) (o:MOp):Decidable (x6y f o):=by unfold x6y;infer_instance
def y5p (o:MOp):Prop:=(z6q o.k).isSome=true/\x6y ((z6q o.k).getD f40) o
instance (o:MOp):Decidable (y5p o):=by unfold y5p;infer_instance
def y9j (o:MOp):Int:=if ¬y5p o then 1 else if o.r < -4\/4<o.r then 11 else 0
def j3j (n:Nat):UInt8:=UInt8.ofNat (48+n)
def j1m (n:Nat):List UInt8:=if n<10 then [j3j n] else [j3j (n / 10),j3j (n % 10)]
def x2y (n:Int):List UInt8:=if n<0 then 45::j1m n.natAbs else j1m n.toNat
theorem u5u {n:Nat} (h:n<100):Lib.decDigits n=j1m n:=by
 unfold j1m
 rw [Lib.decDigits]
 split
 ·rfl
 rw [Lib.decDigits,dif_pos (by omega)];rfl
theorem u7f {n:Int} (h:-99<=n/\n<=99):Lib.itoa n=x2y n:=by
 unfold Lib.itoa x2y
 split<;>rw [u5u (by omega)]
theorem y4f (n:Int):(x2y n).length<=3:=by unfold x2y j1m;(repeat' split)<;>simp
def z7z:List (List UInt8):=[[],[105,110],[111,117,116],[114,97,99,107],[107,110,105,116],[116,117,99,107],[109,105,115,115],[120,102,101,114],[100,114,111,112]]
def x0c:List (List UInt8):=[[108,101,102,116],[114,105,103,104,116]]
def x4t (k:Int):List UInt8:=z7z.getD k.toNat []
def u2s (d:Int):List UInt8:=x0c.getD d.toNat []
theorem v0j {k:Int} (h:0<=k/\k<9):(z7z.map S)[k.toNat*1]?=some (S (x4t k)):=by
 rw [Nat.mul_one,List.getElem?_map,x4t,List.getD]
 have:k.toNat<z7z.length:=by simp only [z7z,List.length];omega
 rw [List.getElem?_eq_getElem this];rfl
theorem x7c {k:Int} (h:0<=k/\k<2):(x0c.map S)[k.toNat*1]?=some (S (u2s k)):=by
 rw [Nat.mul_one,List.getElem?_map,u2s,List.getD]
 have:k.toNat<x0c.length:=by simp only [x0c,List.length];omega
 rw [List.getElem?_eq_getElem this];rfl
def v2w (b p:Int):List UInt8:=if z3d b p≠0 then [] else if b=0 then [102]++x2y p else [98]++x2y p
def y2n (o:MOp):List (List UInt8):=
  if o.k=1 then [x2y o.y,u2s o.d] else if o.k=2 then [x2y o.y] else if o.k=3 then [x2y o.r]
  else if (o.k=4\/o.k=5)\/o.k=6 then [u2s o.d,v2w o.b o.p,x2y o.y] else if o.k=7\/o.k=8 then [v2w o.b o.p] else []
def u9o (o:MOp):List UInt8:=if y9j o≠0 then [] else Lib.join (x4t o.k::y2n o) [32]
theorem x5j {b p:Int}:z3d b p=0↔(b=0\/b=1)/\1<=p/\p<=40:=by unfold z3d;(repeat' split)<;>omega
theorem v5v {k:Int} (h:(z6q k).isSome=true):1<=k/\k<=8:=by unfold z6q at h;(repeat' split at h)<;>first|omega|simp at h
theorem j2b {o:MOp} (h:y9j o=0):y5p o/\-4<=o.r/\o.r<=4:=by
 unfold y9j at h
 split at h
 ·omega
 rename_i h1;split at h
 ·omega
 rename_i h2;exact ⟨Classical.not_not.1 h1,by omega,by omega⟩
theorem v1n {o:MOp} (h:y9j o=0):1<=o.k/\o.k<=8/\0<=o.d/\o.d<=1/\0<=o.y/\o.y<=6/\-4<=o.r/\o.r<=4:=by
 obtain ⟨⟨h1,h2,h3,h4,h5⟩,h6,h7⟩:=j2b h
 have hk:=v5v h1
 generalize (z6q o.k).getD f40=f at h2 h3 h4 h5
 refine ⟨hk.1,hk.2,?_,?_,?_,?_,h6,h7⟩<;>
 ·revert h2 h4
  unfold pl1 pl3
  cases f.1<;>cases f.2.2.1<;>simp<;>omega
theorem v8b {b p:Int}:(v2w b p).length<=6:=by
 unfold v2w
 split
 ·simp
 rename_i h
 have hr:=x5j.1 (Classical.not_not.1 h)
 have:=y4f p
 split<;>simp<;>omega
theorem v3x (k:Int):(x4t k).length<=4:=by
 have:∀n:Nat,(z7z.getD n []).length<=4
  | 0|1|2|3|4|5|6|7|8=>by decide
  | n+9=>by simp [z7z,List.getD]
 exact this _
theorem v5s (k:Int):(u2s k).length<=5:=by
 have:∀n:Nat,(x0c.getD n []).length<=5
  | 0|1=>by decide
  | n+2=>by simp [x0c,List.getD]
 exact this _
theorem j2t (o:MOp):(y2n o).length<=3:=by unfold y2n;(repeat' split)<;>simp
theorem v9f (o:MOp) (h:y9j o=0):(Lib.join (x4t o.k::y2n o) [32]).length<=30:=by
 have hr:=v1n h
 have h1:=v3x o.k
 have h2:=v5s o.d
 have h3:=y4f o.y
 have h4:=y4f o.r
 have h5:=v8b (b:=o.b) (p:=o.p)
 rw [Lib.join_cons]
 unfold y2n Lib.joinTail
 (repeat' split)<;>simp<;>omega
def MOp.Ok (o:MOp):Prop:=0<=o.k/\0<=o.d/\0<=o.b/\0<=o.y/\o.k<=255/\o.d<=255/\o.b<=255/\o.y<=255
def v5e (c:UInt8):Bool:=decide (48<=(c.toNat:Int)/\(c.toNat:Int)<=57)
def v0v (n:Int) (c:UInt8):Int:=10*n+((c.toNat:Int)-48)
def y4d (l:List UInt8):Int:=l.foldl v0v 0
def u7y (l:List UInt8):Option Int:=if ((l.getD 0 0).toNat:Int)=102 then some 0 else if ((l.getD 0 0).toNat:Int)=98 then some 1 else none
def x2t (l:List UInt8):Int×Int:=
  if (l.length:Int)<2\/3<(l.length:Int) then (0,0) else
  match u7y l with
  | none=>(0,0)
  | some b=>if (l.drop 1).all v5e=false then (0,0) else if v2w b (y4d (l.drop 1))≠l then (0,0) else (b,y4d (l.drop 1))
theorem y5m (l:List UInt8) (k:Nat) (h:k<l.length):l.take (k+1)=l.take k++[l.getD k 0]:=by
 rw [List.take_succ_eq_append_getElem h];simp [List.getD,h]
theorem x7s (l:List UInt8) (k:Nat) (h:k<l.length):y4d (l.take (k+1))=10*y4d (l.take k)+(((l.getD k 0).toNat:Int)-48):=by
 rw [y5m l k h,y4d,List.foldl_append];rfl
theorem v8f (l:List UInt8) (k:Nat) (h:k<l.length) (ha:(l.take k).all v5e=true) (hc:48<=((l.getD k 0).toNat:Int)/\((l.getD k 0).toNat:Int)<=57):(l.take (k+1)).all v5e=true:=by
 rw [y5m l k h,List.all_append,ha,List.all_cons,List.all_nil,v5e,decide_eq_true hc];rfl
theorem u4x (l:List UInt8) (k:Nat) (h:k<l.length) (hc:¬(48<=((l.getD k 0).toNat:Int)/\((l.getD k 0).toNat:Int)<=57)):l.all v5e=false:=by
 rw [Bool.eq_false_iff];intro ha
 rw [List.all_eq_true] at ha
 have:=ha (l.getD k 0) (by simp [List.getD,h])
 simp only [v5e,decide_eq_true_eq] at this
 exact hc this
theorem x2b {l:List UInt8} (h:l.all v5e=true) (hl:l.length<=2):0<=y4d l/\y4d l<=99:=by
 match l,h,hl with
 | [],_,_=>decide
 | [a],h,_=>simp [v5e] at h;simp [y4d,v0v];omega
 | [a,b],h,_=>simp [v5e] at h;simp [y4d,v0v];omega
 | _::_::_::_,_,hl=>simp at hl
def v6g (l:List UInt8):Int:=match Lib.atoiAll l with|.ok v=>v|_=>0
def u9e (l:List UInt8):Int:=if l=[114,105,103,104,116] then 1 else 0
def y3f (w:List UInt8):Nat->Int
  | 0=>0
  | i+1=>if z7z.getD i []=w then (i:Int) else y3f w i
def y7v (w:List UInt8):Int:=y3f w 9
theorem x0p (w:List UInt8):∀i:Nat,0<=y3f w i/\y3f w i<=i
 | 0=>by simp [y3f]
 | i+1=>by have:=x0p w i;unfold y3f;split<;>omega
theorem v9o {i:Nat} (h:i<9):(z7z.map S)[((i:Nat):Int).toNat]?=some (S (z7z.getD i [])):=by
 rw [Int.toNat_natCast,List.getElem?_map,List.getD,List.getElem?_eq_getElem (show i<z7z.length from h)];rfl
def fD (k:Int):Bool:=((z6q k).getD f40).1
def fN (k:Int):Bool:=((z6q k).getD f40).2.1
def y4c (k:Int) (ws:List (List UInt8)):MOp:=
  if k=1/\(ws.length:Int)=3 then ⟨k,u9e (ws.getD 2 []),0,0,v6g (ws.getD 1 []) % 256,0⟩
  else if k=2/\(ws.length:Int)=2 then ⟨k,0,0,0,v6g (ws.getD 1 []) % 256,0⟩
  else if k=3/\(ws.length:Int)=2 then ⟨k,0,0,0,0,v6g (ws.getD 1 [])⟩
  else if fD k=true/\(ws.length:Int)=4 then ⟨k,u9e (ws.getD 1 []),(x2t (ws.getD 2 [])).1,(x2t (ws.getD 2 [])).2,v6g (ws.getD 3 []) % 256,0⟩
  else if fN k=true/\(ws.length:Int)=2 then ⟨k,0,(x2t (ws.getD 1 [])).1,(x2t (ws.getD 1 [])).2,0,0⟩
  else ⟨k,0,0,0,0,0⟩
def z3r (ws:List (List UInt8)):MOp:=y4c (y7v (ws.getD 0 [])) ws
def y3o (l:List UInt8):MOp×Int:=
  if y9j (z3r (Lib.split l [32]))≠0\/u9o (z3r (Lib.split l [32]))≠l then (op0,4) else (z3r (Lib.split l [32]),0)
theorem x8j (sep:List UInt8) (sv:Nat):∀(k:Nat) (l:List UInt8),1<=(Lib.splitK sep sv k l).length
 | 0,l=>by simp [Lib.splitK]
 | k+1,l=>by unfold Lib.splitK;split<;>simp
theorem v2v (l sep:List UInt8):1<=(Lib.split l sep).length:=x8j _ _ _ _
theorem y6m (sep:List UInt8):∀(k:Nat) (l x:List UInt8),x∈Lib.splitK sep 0 k l->x.length<=l.length
 | 0,l,x,h=>by simp [Lib.splitK] at h;rw [h];exact Nat.le_refl _
 | k+1,l,x,h=>by
  unfold Lib.splitK at h
  split at h
  ·simp at h;rw [h];exact Nat.le_refl _
  rw [List.mem_cons] at h
  rcases h with rfl|h
  ·simp;omega
  have:=y6m sep k _ x h
  simp at this;omega
theorem x0v (l sep:List UInt8) (i:Nat):((Lib.split l sep).getD i []).length<=l.length:=by
 rw [List.getD]
 cases e:(Lib.split l sep)[i]? with
 | none=>simp
 | some y=>exact y6m sep _ l y (List.mem_of_getElem? e)
def y6z (x:List UInt8):List UInt8:=Lib.trimB (Lib.cut x [35]).1 32
def x8a:List (List UInt8)->Int->List MOp->List MOp×Int×Int
  | [],_,acc=>(acc,0,0)
  | x::xs,i,acc=>if y6z x=[] then x8a xs (i+1) acc else if (y3o (y6z x)).2≠0 then ([],i+1,(y3o (y6z x)).2)
    else if (acc.length:Int)=4096 then ([],i+1,3) else x8a xs (i+1) (acc++[(y3o (y6z x)).1])
def y6w (l:List UInt8):List MOp×Int×Int:=x8a (Lib.split l [10]) 0 []
theorem v0i (x m:List UInt8):(Lib.cut x m).1.length<=x.length:=by unfold Lib.cut;(repeat' split)<;>simp<;>omega
theorem z9a (x:List UInt8) (c:UInt8):(Lib.trimB x c).length<=x.length:=by
 unfold Lib.trimB Lib.trimLeftB Lib.trimRightB
 refine Nat.le_trans ((List.dropWhile_suffix _).length_le) ?_
 rw [List.length_reverse]
 refine Nat.le_trans ((List.dropWhile_suffix _).length_le) ?_
 rw [List.length_reverse];exact Nat.le_refl _
theorem v9p (x:List UInt8):(y6z x).length<=x.length:=Nat.le_trans (z9a _ _) (v0i _ _)
theorem v1r {α:Type} (l:List α) (i:Nat) (z:α) (h:i<l.length):l.drop i=l.getD i z::l.drop (i+1):=by
 rw [List.drop_eq_getElem_cons h];simp [List.getD,h]
end Go.Lw
namespace Go.G08
open Go.Lw Go.G21
abbrev Bed:=List (List LId)
structure Bd where
  f:Bed
  b:Bed
deriving DecidableEq
def trimB:Bed->Bed
  | []=>[]
  | s::l=>if trimB l=[]/\s=[] then [] else s::trimB l
def atB (l:Bed) (n:Int):List LId:=l.getD (n-1).toNat []
def Bd.at (B:Bd) (b n:Int):List LId:=if b=0 then atB B.f n else atB B.b n
def Bd.atC (B:Bd) (b n:Int):List LId:=if z3d b n=0 then B.at b n else []
def y9x (l:Bed) (n:Nat):Bed:=l++List.replicate (n-l.length) []
def y2j (l:Bed) (n:Nat) (s:List LId):Bed:=trimB (if n=0 then l else (y9x l n).set (n-1) s)
def Bd.put (B:Bd) (b n:Int) (s:List LId):Bd:=if b=0 then ⟨y2j B.f n.toNat s,trimB B.b⟩ else ⟨trimB B.f,y2j B.b n.toNat s⟩
def Bd.flat (B:Bd):List LId:=B.f.flatten++B.b.flatten
structure BdOk (B:Bd):Prop where
  lf:B.f.length<=40
  lb:B.b.length<=40
  ss:∀s∈B.f++B.b,s.length<=4
  nm:∀i∈B.flat,y1z i
  nd:B.flat.Nodup
def z2q (b n r:Int):Int:=if z3d b n≠0\/¬(-4<=r/\r<=4) then 0 else if b=0 then 4*n+2 else 4*(n+r)
structure Hd where
  id:LId
  b:Int
  n:Int
  s:Int
deriving DecidableEq
def hd0:Hd:=⟨id0,0,0,0⟩
def hdS (b r:Int) (k:Nat) (x:LId):Hd:=⟨x,b,(k:Int)+1,z2q b ((k:Int)+1) r⟩
def hds (b r:Int) (l:Bed) (i:Nat):List Hd:=(List.range i).flatMap λk=>(l.getD k []).map (hdS b r k)
def v3j (B:Bd) (r:Int):List Hd:=hds 0 r B.f B.f.length++hds 1 r B.b B.b.length
def y0y (h:Hd):List Hd->List Hd
  | []=>[h]
  | x::l=>if h.s<x.s then h::x::l else x::y0y h l
def z4z (l:List Hd):List Hd:=l.foldl (λa h=>y0y h a) []
def z2n (B:Bd) (r:Int):List Hd:=z4z (v3j B r)
def btw (l:List Hd) (fr to:Int):List Pa:=
  if fr<to then (l.filter λh=>decide (fr<h.s/\h.s<to)).map λh=>⟨h.id,decide (h.b=1),1⟩
  else ((l.filter λh=>decide (to<h.s/\h.s<fr)).map λh=>⟨h.id,decide (h.b=1),0⟩).reverse
def x4w (d:Int) (x o:LId):Cx:=if d=0 then ⟨o,x,1⟩ else ⟨x,o,-1⟩
def z9u (r d:Int) (k:Nat):Int:=if d=0 then (k:Int)+1+r-1 else (k:Int)+1+r
def u1l (B:Bd) (r d:Int) (k:Nat):List Cx:=(B.b.getD k []).flatMap λx=>(B.atC 0 (z9u r d k)).reverse.map (x4w d x)
def x8f (B:Bd) (r d:Int) (i:Nat):List Cx:=(List.range i).flatMap (u1l B r d)
def z4a (B:Bd) (r d:Int):List Cx:=if d=1 then (x8f B r d B.b.length).reverse else x8f B r d B.b.length
def stI (d:Int):Int:=if d=0 then -1 else 1
def x2n (B:Bd) (r d p:Int) (k:Nat):List Pa:=if p≠z2q 1 ((k:Int)+1) r+stI d/\p≠z2q 1 ((k:Int)+1) r+3*stI d then [] else (B.b.getD k []).map λx=>⟨x,true,1-d⟩
def y4z (B:Bd) (r d p:Int) (i:Nat):List Pa:=(List.range i).flatMap (x2n B r d p)
def z6o (B:Bd) (r d p:Int):List Pa:=if d=1 then (y4z B r d p B.b.length).reverse else y4z B r d p B.b.length
def z6m (a b:LId):Int:=if a.y<b.y then -1 else if b.y<a.y then 1 else if a.n<b.n then -1 else if b.n<a.n then 1 else 0
def isC (a b:LId) (c:Cx):Bool:=decide (c.a=a/\c.b=b)
def y8v (l:List Cx) (a b:LId):Int:=((l.find? (isC a b)).map Cx.n).getD 0
def y9v (l:List Cx) (a b:LId) (n:Int):List Cx:=if l.any (isC a b) then l.map (λc=>if isC a b c then ⟨a,b,n⟩ else c) else l++[⟨a,b,n⟩]
def v5a (l:List Cx) (a b:LId):List Cx:=l.filter λc=>!isC a b c
def x2s (l:List Cx) (c:Cx):Except Int (List Cx):=
  let k:LId×LId:=if 0<z6m c.a c.b then (c.b,c.a) else (c.a,c.b)
  let n:=y8v l k.1 k.2+c.n
  if n < -1048576\/1048576<n then .error 3 else if n=0 then .ok (v5a l k.1 k.2) else .ok (y9v l k.1 k.2 n)
def z6a:List Cx->List Cx->Except Int (List Cx)
  | l,[]=>.ok l
  | l,c::r=>match x2s l c with|.error e=>.error e|.ok l'=>z6a l' r
structure MSt where
  rk:Int
  B:Bd
  ys:List Yn
  tb:Tb
  cr:List Cx
  fa:List LId
def yn0:Yn:=⟨false,0,0,false,[]⟩
def MSt.y (p:MSt) (y:Int):Yn:=p.ys.getD (y-1).toNat yn0
def MSt.setY (p:MSt) (y:Int) (q:Yn):MSt:={ p with ys:=p.ys.set (y-1).toNat q }
abbrev MR:=Except Int MSt
def lvS (y:Yn):Yn:=⟨false,0,y.ct,false,[]⟩
def mkS (y:Yn):Yn:=⟨true,y.pl,y.ct+1,false,[]⟩
def inM (p:MSt) (o:MOp):MR:=if enE (p.y o.y) o.d≠0 then .error (enE (p.y o.y) o.d) else .ok (p.setY o.y (enS (p.y o.y) o.d))
def v5i (p:MSt) (o:MOp):MR:=if lvE (p.y o.y)≠0 then .error (lvE (p.y o.y)) else .ok (p.setY o.y (lvS (p.y o.y)))
def z7n (p:MSt) (o:MOp):Int:=if (p.y o.y).inn=false then 12 else if o.d=1 then (if z2q o.b o.p p.rk<(p.y o.y).pl then 12 else 0) else if (p.y o.y).pl<z2q o.b o.p p.rk then 12 else 0
def x3t (p:MSt) (o:MOp):Int:=if o.d=1 then z2q o.b o.p p.rk+1 else z2q o.b o.p p.rk-1
def v0h (p:MSt) (y en:Int):List Pa:=btw (z2n p.B p.rk) (p.y y).pl en
def y6i (p:MSt) (y pl en:Int):MR:=if goE (p.y y) pl (v0h p y en)≠0 then .error (goE (p.y y) pl (v0h p y en)) else .ok (p.setY y (goS (p.y y) pl (v0h p y en)))
def MSt.row (p:MSt) (y:Int):List Lp:=p.tb.getD (y-1).toNat []
def x4p (p:MSt) (o:MOp) (th st:List LId):MR:=
  if mkE (p.y o.y)≠0 then .error (mkE (p.y o.y)) else if 2048<=z4o p.tb then .error 3
  else .ok { p with B:=p.B.put o.b o.p (st++[⟨o.y,(p.y o.y).ct⟩]),ys:=p.ys.set (o.y-1).toNat (mkS (p.y o.y)),tb:=p.tb.set (o.y-1).toNat (p.row o.y++[⟨o.b,(p.y o.y).nw,th,(p.y o.y).pe⟩]) }
def y0u (p:MSt) (o:MOp):MR:=if z7n p o≠0 then .error (z7n p o) else match y6i p o.y (x3t p o) (z2q o.b o.p p.rk) with
  | .error e=>.error e
  | .ok q=>x4p q o (q.B.at o.b o.p) []
def y4o (p:MSt) (o:MOp):MR:=if z7n p o≠0 then .error (z7n p o) else match y6i p o.y (x3t p o) (z2q o.b o.p p.rk) with
  | .error e=>.error e
  | .ok q=>if 4<=(q.B.at o.b o.p).length then .error 9 else x4p q o [] (q.B.at o.b o.p)
def x0y (p:MSt) (o:MOp):MR:=if z7n p o≠0 then .error (z7n p o) else y6i p o.y (x3t p o) (x3t p o)
def z5z (b n r:Int):Int:=if b=1 then n+r else n-r
def x2v (p:MSt) (o:MOp):Int:=min (z2q o.b o.p p.rk) (z2q (1-o.b) (z5z o.b o.p p.rk) p.rk)+1
def z9f (p:MSt) (o:MOp):List LId:=if o.b=1 then p.B.at 1 o.p++p.B.at 0 (z5z 1 o.p p.rk) else p.B.at 1 (z5z 0 o.p p.rk)++p.B.at 0 o.p
def z7t (p:MSt) (o:MOp):MR:=
  if p.B.at o.b o.p=[] then .error 13
  else if z3d (1-o.b) (z5z o.b o.p p.rk)≠0 then .error 11
  else if ∃y∈p.ys,y.inn=true/\y.pl=x2v p o then .error 12
  else if 4<(p.B.at o.b o.p).length+(p.B.at (1-o.b) (z5z o.b o.p p.rk)).length then .error 9
  else .ok { p with B:=(p.B.put o.b o.p []).put (1-o.b) (z5z o.b o.p p.rk) (z9f p o) }
def y8m (p:MSt) (o:MOp):MR:=if p.B.at o.b o.p=[] then .error 13 else .ok { p with B:=p.B.put o.b o.p [],fa:=p.fa++p.B.at o.b o.p }
def z8k (p:MSt) (d:Int) (y:Yn):Except Int Yn:=if y.inn=false then .ok y else if goE y y.pl (z6o p.B p.rk d y.pl)≠0 then .error (goE y y.pl (z6o p.B p.rk d y.pl)) else .ok (goS y y.pl (z6o p.B p.rk d y.pl))
def z6c (p:MSt) (d:Int):List Yn->Except Int (List Yn)
  | []=>.ok []
  | y::l=>match z8k p d y with
    | .error e=>.error e
    | .ok y'=>match z6c p d l with
      | .error e=>.error e
      | .ok l'=>.ok (y'::l')
def y5c (p:MSt) (d:Int):MR:=match z6c p d p.ys with
  | .error e=>.error e
  | .ok ys=>match z6a p.cr (z4a p.B p.rk d) with
    | .error e=>.error e
    | .ok cr=>.ok { p with ys:=ys,cr:=cr,rk:=p.rk+stI d }
def z8e:Nat->MSt->Int->MR
  | 0,p,_=>.ok p
  | n+1,p,r=>if p.rk=r then .ok p else match y5c p (if r<p.rk then 0 else 1) with
    | .error e=>.error e
    | .ok q=>z8e n q r
def v5q (p:MSt) (o:MOp):MR:=z8e 8 p o.r
def opM (p:MSt) (o:MOp):MR:=
  if o.k=1 then inM p o else if o.k=2 then v5i p o else if o.k=3 then v5q p o else if o.k=4 then y0u p o
  else if o.k=5 then y4o p o else if o.k=6 then x0y p o else if o.k=7 then z7t p o else y8m p o
def doM (p:MSt) (o:MOp):MR:=if y9j o≠0 then .error (y9j o) else opM p o
def z4p:Nat->MSt->List MOp->Except (Int×Nat) MSt
  | _,p,[]=>.ok p
  | i,p,o::l=>match doM p o with
    | .error e=>.error (e,i)
    | .ok q=>z4p (i+1) q l
def start:MSt:=⟨0,⟨[],[]⟩,List.replicate 6 yn0,List.replicate 6 [],[],[]⟩
theorem y0g:∀(l:Bed) (i:Nat),(trimB l).getD i []=l.getD i []
 | [],i=>rfl
 | s::l,i=>by
  have ih:=y0g l
  unfold trimB
  split
  ·rename_i h
   cases i with
   | zero=>simp [h.2]
   | succ i=>have:=ih i;rw [h.1] at this;simpa using this
  cases i with
  | zero=>simp
  | succ i=>simpa using ih i
theorem y0h:∀l:Bed,(trimB l).flatten=l.flatten
 | []=>rfl
 | s::l=>by
  have ih:=y0h l
  unfold trimB
  split
  ·rename_i h
   rw [h.1] at ih
   simp only [List.flatten_cons,<-ih,h.2];rfl
  simp only [List.flatten_cons,ih]
theorem z9a:∀l:Bed,(trimB l).length<=l.length
 | []=>Nat.le_refl _
 | s::l=>by
  have ih:=z9a l
  unfold trimB
  split
  ·simp
  simp only [List.length_cons];omega
theorem y2v:∀(l:Bed) {s:List LId},s∈trimB l->s∈l
 | [],s,h=>h
 | t::l,s,h=>by
  unfold trimB at h
  split at h
  ·cases h
  rcases List.mem_cons.1 h with rfl|h
  ·exact List.mem_cons_self ..
  exact List.mem_cons_of_mem _ (y2v l h)
theorem x6q:∀l:Bed,(∀s∈l,s=[])->trimB l=[]
 | [],_=>rfl
 | s::l,h=>by
  unfold trimB
  rw [if_pos ⟨x6q l λt ht=>h t (List.mem_cons_of_mem _ ht),h s (List.mem_cons_self ..)⟩]
theorem y1m:∀(l:Bed) (n:Nat),n<=l.length->(∀j,n<=j->l.getD j []=[])->(n=0\/l.getD (n-1) []≠[])->l.take n=trimB l
 | [],n,h,_,_=>by simp [trimB]
 | s::l,0,_,h,_=>by
  rw [x6q]
  ·rfl
  intro t ht
  obtain ⟨i,hi,rfl⟩:=List.getElem_of_mem ht
  have:=h i (Nat.zero_le _)
  rwa [List.getD,List.getElem?_eq_getElem hi] at this
 | s::l,n+1,hl,h,hn=>by
  have ih:=y1m l n (by simpa using hl) (λj hj=>by have:=h (j+1) (by omega);simpa using this)
  unfold trimB
  cases n with
  | zero=>
   have hs:s≠[]:=by simpa using hn
   rw [if_neg (λe=>hs e.2)]
   have:=ih (.inl rfl)
   simp only [List.take_succ_cons,List.take_zero,this] at *
  | succ n=>
   have hn':l.getD n []≠[]:=by simpa using hn
   have:=ih (.inr hn')
   rw [if_neg,List.take_succ_cons,this]
   rintro ⟨e,-⟩
   have h2:=y0g l n
   rw [e] at h2
   exact hn' (by simpa using h2.symm)
theorem x7m (l:Bed) (n i:Nat):(y9x l n).getD i []=l.getD i []:=by
 unfold y9x
 by_cases h:i<l.length
 ·simp only [List.getD,List.getElem?_append_left h]
 rw [List.getD,List.getD,List.getElem?_append_right (by omega),List.getElem?_replicate,List.getElem?_eq_none (by omega)]
 split<;>rfl
theorem v9z (l:Bed) (n:Nat):(y9x l n).flatten=l.flatten:=by
 unfold y9x;rw [List.flatten_append]
 have:(List.replicate (n-l.length) ([]:List LId)).flatten=[]:=by simp
 rw [this,List.append_nil]
theorem y7w (l:Bed) (n:Nat):(y9x l n).length=max l.length n:=by
 unfold y9x;rw [List.length_append,List.length_replicate];omega
theorem v8h (l:Bed) {n:Nat} (hn:1<=n) (s:List LId) (i:Nat):(y2j l n s).getD i []=if i=n-1 then s else l.getD i []:=by
 unfold y2j
 rw [y0g,if_neg (by omega),z1g (by rw [y7w];omega),x7m]
 split
 ·rename_i e;rw [if_pos e.symm]
 rename_i e;rw [if_neg (λh=>e h.symm)]
theorem x6b {l:Bed} {n m:Int} (hn:1<=n) (hm:1<=m) (s:List LId):atB (y2j l n.toNat s) m=if m=n then s else atB l m:=by
 unfold atB
 rw [v8h _ (by omega)]
 by_cases e:m=n
 ·subst e;rw [if_pos (by omega),if_pos rfl]
 rw [if_neg (by omega),if_neg e]
theorem y7n (l:Bed) (n:Int):atB (trimB l) n=atB l n:=y0g l _
theorem x1u (l:Bed) {n:Int} (hn:1<=n) (s:List LId) (i:LId):(y2j l n.toNat s).flatten.count i+(atB l n).count i=l.flatten.count i+s.count i:=by
 unfold y2j
 rw [y0h,if_neg (by omega)]
 have h:=z7x (α:=List LId) (λx=>x) (y9x l n.toNat) (n.toNat-1) [] s i (by rw [y7w];omega)
 simp only [List.flatMap_id'] at h
 rw [v9z,x7m] at h
 have e:n.toNat-1=(n-1).toNat:=by omega
 unfold atB
 rw [e] at h ⊢
 omega
theorem v3r (l:Bed) (n:Nat) (s:List LId):(y2j l n s).length<=max l.length n:=by
 unfold y2j
 refine Nat.le_trans (z9a _) ?_
 split
 ·omega
 rw [List.length_set,y7w];exact Nat.le_refl _
theorem u5l (l:Bed) (n:Nat) (s:List LId) {t:List LId} (h:t∈y2j l n s):t=s\/t∈l\/t=[]:=by
 unfold y2j at h
 have h:=y2v _ h
 split at h
 ·exact .inr (.inl h)
 rcases List.mem_or_eq_of_mem_set h with h|h
 ·unfold y9x at h
  rcases List.mem_append.1 h with h|h
  ·exact .inr (.inl h)
  exact .inr (.inr (List.eq_of_mem_replicate h))
 exact .inl h
theorem z2v {b n:Int} (h:z3d b n=0):(b=0\/b=1)/\1<=n/\n<=40:=by
 unfold z3d at h
 split at h
 ·omega
 split at h<;>omega
theorem u4k {b n:Int} (h:(b=0\/b=1)/\1<=n/\n<=40):z3d b n=0:=by
 unfold z3d;rw [if_neg (by omega),if_neg (by omega)]
theorem z4d (B:Bd) {b n:Int} (h:z3d b n=0) (s:List LId) (i:LId):(B.put b n s).flat.count i+(B.at b n).count i=B.flat.count i+s.count i:=by
 obtain ⟨h1,h2,h3⟩:=z2v h
 unfold Bd.put Bd.at Bd.flat
 split
 ·simp only [List.count_append,y0h]
  have:=x1u B.f h2 s i;omega
 simp only [List.count_append,y0h]
 have:=x1u B.b h2 s i;omega
theorem x4q (B:Bd) {b n b' n':Int} (h:z3d b n=0) (h':z3d b' n'=0) (s:List LId):(B.put b n s).at b' n'=if b'=b/\n'=n then s else B.at b' n':=by
 obtain ⟨h1,h2,h3⟩:=z2v h
 obtain ⟨h4,h5,h6⟩:=z2v h'
 unfold Bd.put Bd.at
 by_cases e:b=0
 ·rw [if_pos e]
  by_cases e':b'=0
  ·rw [if_pos e',x6b h2 h5]
   by_cases e2:n'=n
   ·rw [if_pos e2,if_pos ⟨by omega,e2⟩]
   rw [if_neg e2,if_neg (λk=>e2 k.2),if_pos e']
  rw [if_neg e',y7n,if_neg (λk=>by omega),if_neg e']
 rw [if_neg e]
 by_cases e':b'=0
 ·rw [if_pos e',y7n,if_neg (λk=>by omega),if_pos e']
 rw [if_neg e',x6b h2 h5]
 by_cases e2:n'=n
 ·rw [if_pos e2,if_pos ⟨by omega,e2⟩]
 rw [if_neg e2,if_neg (λk=>e2 k.2),if_neg e']
theorem v4k {l:Bed} {n:Int} (h:atB l n≠[]):atB l n∈l:=by
 unfold atB at *
 by_cases e:(n-1).toNat<l.length
 ·exact z0x e
 exact absurd (by rw [List.getD,List.getElem?_eq_none (by omega)];rfl) h
theorem v3h {B:Bd} {b n:Int} (h:B.at b n≠[]):B.at b n∈B.f++B.b:=by
 unfold Bd.at at *
 split
 ·rename_i e;rw [if_pos e] at h;exact List.mem_append_left _ (v4k h)
 rename_i e;rw [if_neg e] at h;exact List.mem_append_right _ (v4k h)
theorem y4t {B:Bd} (h:BdOk B) (b n:Int):(B.at b n).length<=4:=by
 by_cases e:B.at b n=[]
 ·rw [e];simp
 exact h.ss _ (v3h e)
theorem u2u (B:Bd):B.flat=(B.f++B.b).flatten:=by unfold Bd.flat;rw [List.flatten_append]
theorem z9l {B:Bd} {b n:Int} {i:LId} (h:i∈B.at b n):i∈B.flat:=by
 rw [u2u]
 exact List.mem_flatten.2 ⟨_,v3h (λe=>by rw [e] at h;cases h),h⟩
theorem y0s {B:Bd} {b n:Int} (h:z3d b n=0) {s:List LId} {i:LId} (hi:i∈(B.put b n s).flat):i∈s\/i∈B.flat:=by
 have:=z4d B h s i
 have h1:=List.count_pos_iff.2 hi
 by_cases e:0<s.count i
 ·exact .inl (List.count_pos_iff.1 e)
 exact .inr (List.count_pos_iff.1 (by omega))
theorem BdOk.put {B:Bd} (h:BdOk B) {b n:Int} (hn:z3d b n=0) {s:List LId} (h4:s.length<=4) (hnm:∀i∈s,y1z i) (hnd:∀i,B.flat.count i+s.count i<=(B.at b n).count i+1):BdOk (B.put b n s):=by
 obtain ⟨h1,h2,h3⟩:=z2v hn
 have hl:=h.lf
 have hb:=h.lb
 refine ⟨?_,?_,?_,?_,?_⟩
 ·unfold Bd.put;split
  ·have:=v3r B.f n.toNat s;simp only;omega
  have:=z9a B.f;simp only;omega
 ·unfold Bd.put;split
  ·have:=z9a B.b;simp only;omega
  have:=v3r B.b n.toNat s;simp only;omega
 ·intro t ht
  unfold Bd.put at ht
  have key:∀l:Bed,(∀s∈l,s.length<=4)->∀t∈y2j l n.toNat s,t.length<=4:=λl hl t ht=>by
   rcases u5l l _ s ht with rfl|ht|rfl
   ·exact h4
   ·exact hl t ht
   simp
  have hf:∀s∈B.f,s.length<=4:=λs hs=>h.ss s (List.mem_append_left _ hs)
  have hb:∀s∈B.b,s.length<=4:=λs hs=>h.ss s (List.mem_append_right _ hs)
  split at ht
  ·rcases List.mem_append.1 ht with ht|ht
   ·exact key _ hf _ ht
   exact hb _ (y2v _ ht)
  rcases List.mem_append.1 ht with ht|ht
  ·exact hf _ (y2v _ ht)
  exact key _ hb _ ht
 ·intro i hi
  rcases y0s hn hi with hi|hi
  ·exact hnm i hi
  exact h.nm i hi
 rw [List.nodup_iff_count]
 intro i
 have:=z4d B hn s i
 have:=hnd i
 omega
structure MInv (p:MSt):Prop where
  rk:-4<=p.rk/\p.rk<=4
  B:BdOk p.B
  ly:p.ys.length=6
  lt:p.tb.length=6
  yn:∀y,y<6->y8o (p.ys.getD y yn0)/\(p.ys.getD y yn0).ct=z2t p.tb y
  has:∀i∈p.B.flat,z4b p.tb i
  cnt:p.B.flat.length+p.fa.length<=z4o p.tb
  all:z4o p.tb<=2048
  cv:∀c∈p.cr,-1048576<=c.n/\c.n<=1048576
theorem y0p:MInv start:=by
 refine ⟨by decide,⟨by decide,by decide,by intro s hs;simp [start] at hs,by intro i hi;simp [start,Bd.flat] at hi,by simp [start,Bd.flat]⟩,rfl,rfl,λy hy=>?_,by intro i hi;simp [start,Bd.flat] at hi,by decide,by decide,by intro c hc;simp [start] at hc⟩
 have:start.ys.getD y yn0=yn0:=by
  simp only [start,List.getD,List.getElem?_replicate];split<;>rfl
 rw [this]
 refine ⟨by decide,?_⟩
 simp only [start,z2t,List.getD,List.getElem?_replicate]
 rw [if_pos hy];rfl
theorem y3l {o:MOp} (h:y9j o=0):(o.k=1\/o.k=2\/o.k=3\/o.k=4\/o.k=5\/o.k=6\/o.k=7\/o.k=8)/\(o.k=1->z5q o.d)/\((o.k=1\/o.k=2\/o.k=4\/o.k=5\/o.k=6)->1<=o.y/\o.y<=6)/\((o.k=4\/o.k=5\/o.k=6)->z5q o.d)/\((4<=o.k)->z3d o.b o.p=0)/\(o.k=3->-4<=o.r/\o.r<=4):=by
 unfold y9j at h
 split at h
 ·omega
 rename_i hp
 have hp:=Classical.not_not.1 hp
 split at h
 ·omega
 rename_i hr
 obtain ⟨h1,h2,h3,h4,h5⟩:=hp
 unfold z6q at h1 h2 h3 h4 h5
 unfold z5q
 unfold pl1 at h2
 unfold pl2 at h3
 unfold pl3 at h4
 unfold pl4 at h5
 have key:∀a:Int,¬(a≠0)->a=0:=λa h=>by omega
 repeat' split at h1
 all_goals first|(simp at h1;done)|skip
 all_goals simp_all
 all_goals omega
structure BdQ where
  f:SV
  b:SV
  fs:List IQ
  bs:List IQ
abbrev plB (l:List IQ):Bed:=l.map Prod.snd
abbrev BdQ.p (q:BdQ):Bd:=⟨plB q.fs,plB q.bs⟩
abbrev bdL (q:BdQ):List Value:=[.slice q.f.1 q.f.2.1 q.f.2.2,.slice q.b.1 q.b.2.1 q.b.2.2]
structure BdAt (w:World) (q:BdQ):Prop where
  f:Sl z6r w (slv q.f) q.fs
  fi:IqAt w q.fs
  b:Sl z6r w (slv q.b) q.bs
  bi:IqAt w q.bs
theorem BdAt.ext {w w':World} {q:BdQ} (h:BdAt w q) (hf:Fr [] w w'):BdAt w' q:=⟨h.f.ext hf,h.fi.ext hf,h.b.ext hf,h.bi.ext hf⟩
theorem BdAt.len {w:World} {q:BdQ} (h:BdAt w q):q.f.2.1=q.fs.length/\q.b.2.1=q.bs.length:=⟨z1s h.f,z1s h.b⟩
def RwO (S I base:Nat) (w:World) (v:Value) (l:List IQ):Prop:=Lw.Own z6r S base w v l/\∀q∈l,Lw.Own z1h I base w (slv q.1) q.2
theorem RwO.ext {S I base:Nat} {w w':World} {v:Value} {l:List IQ} (h:RwO S I base w v l) (hf:Fr [] w w'):RwO S I base w' v l:=⟨h.1.ext hf,λq hq=>(h.2 q hq).ext hf⟩
theorem RwO.low {S I base b:Nat} {w:World} {v:Value} {l:List IQ} (h:RwO S I base w v l) (hb:b<=base):RwO S I b w v l:=⟨h.1.low hb,λq hq=>(h.2 q hq).low hb⟩
theorem RwO.at {S I base:Nat} {w:World} {v:Value} {l:List IQ} (h:RwO S I base w v l):IqAt w l:=λq hq=>(h.2 q hq).sl
theorem RwO.fr {S I base:Nat} {w w':World} {v:Value} {l:List IQ} {T:List Nat} (h:RwO S I base w v l) (hf:Fr T w w') (hT:∀k∈T,k<base):RwO S I base w' v l:=
 ⟨h.1.fr hf λk hk hb=>by have:=hT k hk;have:=(h.1.blk k hb).1;omega,λq hq=>(h.2 q hq).fr hf λk hk hb=>by have:=hT k hk;have:=((h.2 q hq).blk k hb).1;omega⟩
structure BdO (S I base:Nat) (w:World) (q:BdQ):Prop where
  f:RwO S I base w (slv q.f) q.fs
  b:RwO S I base w (slv q.b) q.bs
theorem BdO.ext {S I base:Nat} {w w':World} {q:BdQ} (h:BdO S I base w q) (hf:Fr [] w w'):BdO S I base w' q:=⟨h.f.ext hf,h.b.ext hf⟩
theorem BdO.low {S I base b:Nat} {w:World} {q:BdQ} (h:BdO S I base w q) (hb:b<=base):BdO S I b w q:=⟨h.f.low hb,h.b.low hb⟩
theorem BdO.at {S I base:Nat} {w:World} {q:BdQ} (h:BdO S I base w q):BdAt w q:=⟨h.f.1.sl,h.f.at,h.b.1.sl,h.b.at⟩
theorem z3x (l:List IQ) (i:Nat):(plB l).getD i []=(l.getD i iq0).2:=by
 unfold plB;rw [List.getD,List.getD,List.getElem?_map]
 cases l[i]?<;>rfl
theorem x7g {l:List IQ} {i:Nat} (h:l.length<=i):(l.getD i iq0).2=[]:=by rw [List.getD,List.getElem?_eq_none h];rfl
theorem v3m (l:List IQ) (n M:Nat) (hM:M=max l.length n):plB (l++List.replicate (M-l.length) iq0)=y9x (plB l) n:=by
 unfold y9x plB
 rw [List.map_append,List.map_replicate,List.length_map]
 congr 2
 omega
theorem u0i (w:World):Sl z1h w (slv iq0.1) iq0.2:=Sl.nil w
theorem x7l {w:World} {l:List IQ} {k:Nat} (h:IqAt w l):IqAt w (l++List.replicate k iq0):=λq hq=>by
 rcases List.mem_append.1 hq with hq|hq
 ·exact h q hq
 rw [List.eq_of_mem_replicate hq];exact u0i w
theorem v6t {w:World} {l:List IQ} {i:Nat} {q:IQ} (h:IqAt w l) (hq:Sl z1h w (slv q.1) q.2):IqAt w (l.set i q):=λp hp=>by
 rcases List.mem_or_eq_of_mem_set hp with hp|rfl
 ·exact h p hp
 exact hq
def z9q (l:List IQ):Prop:=∀q∈l,q.2.length<=4
theorem x5q {l:List IQ} {k:Nat} (h:z9q l):z9q (l++List.replicate k iq0):=λq hq=>by
 rcases List.mem_append.1 hq with hq|hq
 ·exact h q hq
 rw [List.eq_of_mem_replicate hq];exact Nat.zero_le _
theorem v7s {l:List IQ} {i:Nat} {q:IQ} (h:z9q l) (hq:q.2.length<=4):z9q (l.set i q):=λp hp=>by
 rcases List.mem_or_eq_of_mem_set hp with hp|rfl
 ·exact h p hp
 exact hq
theorem z3h {l:List IQ} (h:z9q l) (i:Nat):(l.getD i iq0).2.length<=4:=by
 by_cases e:i<l.length
 ·exact h _ (z0x e)
 rw [x7g (by omega)];simp
theorem z1z {w:World} {l:List IQ} (h:IqAt w l) (i:Nat):Sl z1h w (slv (l.getD i iq0).1) (l.getD i iq0).2:=by
 by_cases e:i<l.length
 ·exact h _ (z0x e)
 rw [List.getD,List.getElem?_eq_none (by omega)];exact u0i w
theorem u2e {l m:List IQ} (h:z9q l) (e:plB m=plB l):z9q m:=λq hq=>by
 have:q.2∈plB l:=by rw [<-e];exact List.mem_map_of_mem hq
 obtain ⟨q',h1,h2⟩:=List.mem_map.1 this
 rw [<-h2];exact h q' h1
theorem u2j {l:List IQ} {i:Nat} {q:IQ} (h:q.2=(l.getD i iq0).2):plB (l.set i q)=plB l:=by
 unfold plB
 rw [List.map_set]
 apply List.ext_getElem?
 intro j
 rw [List.getElem?_set]
 split
 ·rename_i e;subst e
  split
  ·rename_i hj
   rw [List.length_map] at hj
   rw [List.getElem?_map,List.getElem?_eq_getElem hj,h,List.getD,List.getElem?_eq_getElem hj];rfl
  rename_i hj
  rw [List.getElem?_eq_none (by omega)]
 rfl
def BdQ.sv (q:BdQ) (b:Int):SV:=if b=1 then q.b else q.f
def BdQ.l (q:BdQ) (b:Int):List IQ:=if b=1 then q.bs else q.fs
theorem BdAt.sel {w:World} {q:BdQ} (h:BdAt w q) (b:Int):Sl z6r w (slv (q.sv b)) (q.l b)/\IqAt w (q.l b):=by
 unfold BdQ.sv BdQ.l
 split
 ·exact ⟨h.b,h.bi⟩
 exact ⟨h.f,h.fi⟩
theorem BdQ.at_l (q:BdQ) {b p:Int} (hn:z3d b p=0):((q.l b).getD (p-1).toNat iq0).2=q.p.at b p:=by
 obtain ⟨h1,_,_⟩:=z2v hn
 unfold BdQ.l Bd.at atB
 split
 ·rw [if_neg (by omega),z3x]
 rw [if_pos (by omega),z3x]
theorem u1w (l:Bed):y2j l 0 []=trimB l:=by unfold y2j;rw [if_pos rfl]
theorem j4f (B:Bd) {b:Int} (n:Nat) (s:List LId) (h:b=0):(⟨y2j B.f n s,y2j B.b 0 []⟩:Bd)=B.put b (n:Int) s:=by
 unfold Bd.put;rw [if_pos h,u1w,Int.toNat_natCast]
theorem j4h (B:Bd) {b:Int} (n:Nat) (s:List LId) (h:¬b=0):(⟨y2j B.f 0 [],y2j B.b n s⟩:Bd)=B.put b (n:Int) s:=by
 unfold Bd.put;rw [if_neg h,u1w,Int.toNat_natCast]
def PreO (I base:Nat) (w:World) (l:List IQ) (i:Nat):Prop:=∀j,j<i->Lw.Own z1h I base w (slv (l.getD j iq0).1) (l.getD j iq0).2
theorem PreO.zero {I base:Nat} {w:World} {l:List IQ}:PreO I base w l 0:=λj hj=>absurd hj (by omega)
theorem PreO.ext {I base i:Nat} {w w':World} {l:List IQ} (h:PreO I base w l i) (hf:Fr [] w w'):PreO I base w' l i:=λj hj=>(h j hj).ext hf
theorem PreO.fr {I base i:Nat} {w w':World} {l:List IQ} {S:List Nat} (h:PreO I base w l i) (hf:Fr S w w') (hS:∀k∈S,k<base):PreO I base w' l i:=λj hj=>(h j hj).fr hf λk hk hb=>by
 have:=hS k hk;have:=((h j hj).blk k hb).1;omega
theorem PreO.put {I base i:Nat} {w:World} {l:List IQ} {q:IQ} (h:PreO I base w l i) (hi:i<l.length) (hq:Lw.Own z1h I base w (slv q.1) q.2):PreO I base w (l.set i q) (i+1):=λj hj=>by
 rw [z1g hi]
 split
 ·exact hq
 exact h j (by omega)
theorem PreO.all {I base b:Nat} {w:World} {l:List IQ} (h:PreO I base w l l.length) (hb:b<=base):∀q∈l,Lw.Own z1h I b w (slv q.1) q.2:=λq hq=>by
 obtain ⟨j,hj,rfl⟩:=List.getElem_of_mem hq
 have:=h j hj
 rw [List.getD,List.getElem?_eq_getElem hj] at this
 exact this.low hb
theorem v1q {w:World} {l m:List IQ} {n:Nat} (e:m=l.take n) (h:IqAt w l):IqAt w m:=λq hq=>h q (List.mem_of_mem_take (e▸hq))
theorem v6z {l m:List IQ} {i:Nat} {q:IQ} (h:∀j,i<=j->l.getD j iq0=m.getD j iq0) (hi:i<l.length):∀j,i+1<=j->(l.set i q).getD j iq0=m.getD j iq0:=λj hj=>by
 rw [z1g hi,if_neg (by omega)];exact h j (by omega)
theorem u2z {rs ls qs:List IQ} {m n:Nat} {s:List LId} (hls:ls=rs.take m) (hmt:(plB rs).take m=trimB (plB rs)) (hpl:plB rs=if n=0 then plB qs else (y9x (plB qs) n).set (n-1) s):plB ls=y2j (plB qs) n s:=by
 rw [hls]
 unfold plB at *
 rw [List.map_take,hmt,hpl];rfl
theorem v7i {qs:List IQ} {n M:Nat} {s:List LId} (hn:n=0) (hM:M=max qs.length n):plB (qs++List.replicate (M-qs.length) iq0)=(if n=0 then plB qs else (y9x (plB qs) n).set (n-1) s):=by
 subst hn
 rw [if_pos rfl,v3m qs 0 M hM];unfold y9x;simp
theorem u6m {qs:List IQ} {n M:Nat} {q:IQ} (hn:0<n) (hM:M=max qs.length n):plB ((qs++List.replicate (M-qs.length) iq0).set (n-1) q)=(if n=0 then plB qs else (y9x (plB qs) n).set (n-1) q.2):=by
 rw [if_neg (by omega),<-v3m qs n M hM];exact List.map_set
end Go.G08
namespace Go.Lw
open Go.RowKit
structure KeyLaw {κ:Type} [DecidableEq κ] (P:Program) (K:TypeId) (V:κ->Value):Prop where
  check:∀b k (w:World),(Instr.checkKey b 10000 K (V k)).run P w=.ok () w
  find:∀k (es:List MapEntry) (ks:List κ) (w:World),es.map (·.key)=ks.map V->
    (Instr.findKey K (V k) es).run P w=.ok ((ks.findIdx? (λx=>decide (k=x))).bind λi=>(es[i]?).map λe=>(i,e.val)) w
  bits:∀k,Instr.sameBits 10000 (V k) (V k)=true
def z2i {κ:Type} [DecidableEq κ]:List (κ×Value)->κ->Option Value
  | [],_=>none
  | p::r,k=>if k=p.1 then some p.2 else z2i r k
def MapF {κ:Type} [DecidableEq κ] (V:κ->Value) (w:World) (g:Nat) (f:κ->Option Value):Prop:=
  ∃(es:Array MapEntry) (c:Nat) (m:List (κ×Value)),w.heap[g]?=some (.map es c)/\es.toList.map (λe=>(e.key,e.val))=m.map (λp=>(V p.1,p.2))/\∀k,z2i m k=f k
section
variable {κ:Type} [DecidableEq κ] {V:κ->Value} {P:Program} {K:TypeId}
theorem z9z (heq:∀k k' (w:World),(Op.equal K (V k) (V k')).run P w=.ok (decide (k=k')) w) (k:κ):∀(es:List MapEntry) (ks:List κ) (i:Nat) (w:World),es.map (·.key)=ks.map V->
    (Instr.findAsking K (V k) es i).run P w=.ok ((ks.findIdx? (λx=>decide (k=x))).bind λj=>(es[j]?).map λe=>(i+j,e.val)) w
  | [],[],i,w,_=>by simp [Instr.findAsking]
  | [],_::_,_,_,h=>by simp at h
  | _::_,[],_,_,h=>by simp at h
  | e::es,x::ks,i,w,h=>by
    simp only [List.map_cons,List.cons.injEq] at h
    have ih:=z9z heq k es ks (i+1) w h.2
    simp only [Instr.findAsking,h.1,Sem.run_bind,heq k x w,Result.andThen_ok]
    by_cases hx:k=x
    · simp [hx,List.findIdx?_cons]
    · simp only [hx,decide_false,Bool.false_eq_true,if_false,ih,List.findIdx?_cons,Option.bind_map]
      congr 1
      cases hf:ks.findIdx? (λx=>decide (k=x)) with
      | none=>simp
      | some j=>simp [Nat.add_assoc,Nat.add_comm 1 j]
theorem KeyLaw.asking {d:TypeDesc} (hu:P.underlying K=some d) (hs:∀k k',Instr.sameNow d (V k) (V k')=none) (hc:∀b k (w:World),(Instr.checkKey b 10000 K (V k)).run P w=.ok () w)
    (heq:∀k k' (w:World),(Op.equal K (V k) (V k')).run P w=.ok (decide (k=k')) w) (hb:∀k,Instr.sameBits 10000 (V k) (V k)=true):KeyLaw P K V:=by
  refine ⟨hc,λk es ks w h=>?_,hb⟩
  cases es with
  | nil=>
    cases ks with
    | nil=>simp [Instr.findKey,run_underlying hu,Instr.findNow]
    | cons x ks=>simp at h
  | cons e es=>
    cases ks with
    | nil=>simp at h
    | cons x ks=>
      have hn:Instr.findNow d (V k) (e::es) 0=none:=by
        simp only [List.map_cons,List.cons.injEq] at h
        simp [Instr.findNow,h.1,hs]
      have:=z9z heq k (e::es) (x::ks) 0 w h
      simp only [Instr.findKey,Sem.run_bind,run_underlying hu,Result.andThen_ok,hn,this,Nat.zero_add]
theorem y5i {d:TypeDesc} (hs:∀k k',Instr.sameNow d (V k) (V k')=some (decide (k=k'))) (k:κ):∀(es:List MapEntry) (ks:List κ) (i:Nat),es.map (·.key)=ks.map V->
    Instr.findNow d (V k) es i=some ((ks.findIdx? (λx=>decide (k=x))).bind λj=>(es[j]?).map λe=>(i+j,e.val))
  | [],[],i,_=>by simp [Instr.findNow]
  | [],_::_,_,h=>by simp at h
  | _::_,[],_,h=>by simp at h
  | e::es,x::ks,i,h=>by
    simp only [List.map_cons,List.cons.injEq] at h
    have ih:=y5i hs k es ks (i+1) h.2
    simp only [Instr.findNow,h.1,hs]
    by_cases hx:k=x
    · simp [hx,List.findIdx?_cons]
    · simp only [hx,decide_false,ih,List.findIdx?_cons,Bool.false_eq_true,if_false,Option.bind_map]
      congr 2
      funext j;simp [Nat.add_assoc,Nat.add_comm 1 j]
theorem KeyLaw.now {d:TypeDesc} (hu:P.underlying K=some d) (hs:∀k k',Instr.sameNow d (V k) (V k')=some (decide (k=k'))) (hc:∀b k (w:World),(Instr.checkKey b 10000 K (V k)).run P w=.ok () w)
    (hb:∀k,Instr.sameBits 10000 (V k) (V k)=true):KeyLaw P K V:=by
  refine ⟨hc,λk es ks w h=>?_,hb⟩
  have:=y5i hs k es ks 0 h
  simp only [Instr.findKey,Sem.run_bind,run_underlying hu,Result.andThen_ok,this,Nat.zero_add,Sem.run_pure]
theorem y1d (m:List (κ×Value)) (k:κ):∀(es:List MapEntry),es.map (λe=>(e.key,e.val))=m.map (λp=>(V p.1,p.2))->
    (((m.map (·.1)).findIdx? (λx=>decide (k=x))).bind λi=>(es[i]?).map λe=>(i,e.val)).map (·.2)=z2i m k:=by
  induction m with
  | nil=>intro es h;simp [z2i]
  | cons p m ih=>
    intro es h
    match es,h with
    | e::es,h=>
      simp only [List.map_cons,List.cons.injEq,Prod.mk.injEq] at h
      have:=ih es h.2
      unfold z2i
      by_cases hk:k=p.1
      · simp [hk,List.findIdx?_cons,h.1.2]
      · simp only [List.map_cons,List.findIdx?_cons,hk,decide_false,if_false,Bool.false_eq_true]
        rw [<-this]
        cases (m.map (·.1)).findIdx? (λx=>decide (k=x)) with
        | none=>simp
        | some j=>
          simp
          rfl
def z3n (m:List (κ×Value)) (k:κ) (v:Value):List (κ×Value):=
  match (m.map (·.1)).findIdx? (λx=>decide (k=x)) with
  | some i=>m.modify i λp=>(p.1,v)
  | none=>m++[(k,v)]
theorem y2c (m:List (κ×Value)) (k k':κ) (v:Value):(m.map (·.1)).findIdx? (λx=>decide (k=x))=none->z2i (m++[(k,v)]) k'=if k'=k then some v else z2i m k':=by
 induction m with
 | nil=>intro _;simp [z2i]
 | cons p m ih=>
  intro h
  simp only [List.map_cons,List.findIdx?_cons] at h
  split at h
  ·cases h
  rename_i hk
  have hk':¬k=p.1:=by simpa using hk
  have:=ih (by simpa using h)
  simp only [List.cons_append,z2i,this]
  by_cases e:k'=p.1
  ·subst e
   simp [Ne.symm hk']
  simp [e]
theorem z8f (k k':κ) (v:Value):∀(m:List (κ×Value)) (i:Nat),(m.map (·.1)).findIdx? (λx=>decide (k=x))=some i->z2i (m.modify i λp=>(p.1,v)) k'=if k'=k then some v else z2i m k'
 | [],i,h=>by simp at h
 | p::m,i,h=>by
  simp only [List.map_cons,List.findIdx?_cons] at h
  split at h
  ·rename_i hk
   have hk':k=p.1:=by simpa using hk
   simp at h;subst h
   simp only [List.modify_zero_cons,z2i,hk']
   by_cases e:k'=p.1<;>simp [e]
  rename_i hk
  have hk':¬k=p.1:=by simpa using hk
  cases hf:(m.map (·.1)).findIdx? (λx=>decide (k=x)) with
  | none=>rw [hf] at h;simp at h
  | some j=>
   rw [hf] at h;simp at h;subst h
   have:=z8f k k' v m j hf
   simp only [List.modify_succ_cons,z2i,this]
   by_cases e:k'=p.1
   ·subst e;simp [Ne.symm hk']
   simp [e]
theorem MapF.fr {w w':World} {g:Nat} {f:κ->Option Value} {S:List Nat} (h:MapF V w g f) (hf:Fr S w w') (hn:g∉S:=by simp[z0v]<;>omega):MapF V w' g f:=by
 obtain ⟨es,c,m,h1,h2,h3⟩:=h
 exact ⟨es,c,m,(hf.block g (Array.getElem?_eq_some_iff.1 h1).1 hn).trans h1,h2,h3⟩
theorem MapF.ext {w w':World} {g:Nat} {f:κ->Option Value} (h:MapF V w g f) (hf:Fr [] w w'):MapF V w' g f:=h.fr hf (by simp)
theorem MapF.lt {w:World} {g:Nat} {f:κ->Option Value} (h:MapF V w g f):g<w.heap.size:=let ⟨_,_,_,h1,_⟩:=h;(Array.getElem?_eq_some_iff.1 h1).1
theorem MapF.ne_blk {w:World} {g g' T:Nat} {f:κ->Option Value} {cs:List Value} (h:MapF V w g f) (h':Blk w g' T cs):g≠g':=by
 rintro rfl;obtain ⟨_,_,_,h1,_⟩:=h;unfold Blk at h';rw [h'] at h1;cases h1
theorem z2k {w:World} {g:Nat} {es:Array MapEntry} {c:Nat} (h:w.heap[g]?=some (.map es c)):(getObj g).run P w=.ok (.map es c) w:=by
 simp [getObj,Sem.run,h]
theorem y6d {w:World} {g:Nat} {f:κ->Option Value} {t E:TypeId} {z:Value} (h:MapF V w g f) (hk:KeyLaw P K V) (hu:P.underlying t=some (.map K E)) (hz:(zeroValue E).run P w=.ok z w) (k:κ) :
    (Instr.lookup t (.map (some g)) (V k) false).run P w=.ok ((f k).getD z) w:=by
  obtain ⟨es,c,m,h1,h2,h3⟩:=h
  have hkeys:es.toList.map (·.key)=(m.map (·.1)).map V:=by
    have:=congrArg (List.map Prod.fst) h2
    simpa [List.map_map,Function.comp_def] using this
  have hfi:=hk.find k es.toList (m.map (·.1)) w hkeys
  have hval:=y1d (V:=V) m k es.toList h2
  rw [h3] at hval
  generalize ((m.map (·.1)).findIdx? (λx=>decide (k=x))).bind (λi=>(es.toList[i]?).map λe=>(i,e.val))=r at hfi hval
  cases r with
  | none=>simp at hval;simp [Instr.lookup,run_underlying hu,z2k h1,hk.check,hfi,hz,<-hval]
  | some p=>simp at hval;simp [Instr.lookup,run_underlying hu,z2k h1,hk.check,hfi,<-hval]
theorem x3l {w:World} {g:Nat} {f:κ->Option Value} {t E:TypeId} {z:Value} (h:MapF V w g f) (hk:KeyLaw P K V) (hu:P.underlying t=some (.map K E)) (hz:(zeroValue E).run P w=.ok z w) (k:κ) :
    (Instr.lookup t (.map (some g)) (V k) true).run P w=.ok (.tuple #[(f k).getD z,.bool (f k).isSome]) w:=by
  obtain ⟨es,c,m,h1,h2,h3⟩:=h
  have hkeys:es.toList.map (·.key)=(m.map (·.1)).map V:=by
    have:=congrArg (List.map Prod.fst) h2
    simpa [List.map_map,Function.comp_def] using this
  have hfi:=hk.find k es.toList (m.map (·.1)) w hkeys
  have hval:=y1d (V:=V) m k es.toList h2
  rw [h3] at hval
  generalize ((m.map (·.1)).findIdx? (λx=>decide (k=x))).bind (λi=>(es.toList[i]?).map λe=>(i,e.val))=r at hfi hval
  cases r with
  | none=>simp at hval;simp [Instr.lookup,run_underlying hu,z2k h1,hk.check,hfi,hz,<-hval]
  | some p=>simp at hval;simp [Instr.lookup,run_underlying hu,z2k h1,hk.check,hfi,<-hval]
theorem y0i {w:World} {g:Nat} {f:κ->Option Value} {t E:TypeId} (h:MapF V w g f) (hk:KeyLaw P K V) (hu:P.underlying t=some (.map K E)) (k:κ) (v:Value) :
    ∃w',(Instr.mapUpdate t (.map (some g)) (V k) v).run P w=.ok () w'/\MapF V w' g (λk'=>if k'=k then some v else f k')/\Fr [g] w w'/\w'.heap.size=w.heap.size:=by
  obtain ⟨es,c,m,h1,h2,h3⟩:=h
  have hlt:=(Array.getElem?_eq_some_iff.1 h1).1
  have hkeys:es.toList.map (·.key)=(m.map (·.1)).map V:=by
    have:=congrArg (List.map Prod.fst) h2
    simpa [List.map_map,Function.comp_def] using this
  have hfi:=hk.find k es.toList (m.map (·.1)) w hkeys
  have hset:∀o,(setObj g o).run P w=.ok () { w with heap:=w.heap.setIfInBounds g o }:=by intro o;simp [setObj,Sem.run,h1]
  have hfr:∀o,Fr [g] w { w with heap:=w.heap.setIfInBounds g o }:=λo=>⟨rfl,rfl,rfl,by simp,λi _ hn=>by
    simp only
    rw [Array.getElem?_setIfInBounds_ne (by intro e;subst e;simp at hn)]⟩
  have hheap:∀o,({ w with heap:=w.heap.setIfInBounds g o }:World).heap[g]?=some o:=by intro o;simp [hlt]
  have hlen:es.toList.length=m.length:=by have:=congrArg List.length h2;simpa using this
  cases hf:(m.map (·.1)).findIdx? (λx=>decide (k=x)) with
  | none=>
    refine ⟨_,?_,⟨_,_,m++[(k,v)],hheap (.map (es.push { key:=V k,val:=v,born:=c }) (c+1)),?_,λk'=>?_⟩,hfr _,by simp⟩
    · rw [hf] at hfi
      simp only [Instr.mapUpdate,Sem.run_bind,run_underlying hu,Result.andThen_ok,z2k h1,hk.check,hfi,Option.bind_none,hset]
    · simp [h2]
    · rw [y2c m k k' v hf,h3]
  | some i=>
    have hi:i<m.length:=by
      have:=List.findIdx?_eq_some_iff_findIdx_eq.1 hf
      simpa using this.1
    have hi':i<es.toList.length:=by omega
    have hki:V k=(es.toList[i]).key:=by
      have hmem:=List.findIdx?_eq_some_iff_getElem.1 hf
      obtain ⟨hlt',hp,_⟩:=hmem
      have hp':k=(m.map (·.1))[i]:=by simpa using hp
      have e1:(es.toList.map (·.key))[i]?=((m.map (·.1)).map V)[i]?:=by rw [hkeys]
      simp only [List.getElem?_map,List.getElem?_eq_getElem hi',List.getElem?_eq_getElem hi,Option.map_some,Option.some.injEq] at e1
      rw [e1,hp'];simp
    refine ⟨_,?_,⟨_,_,m.modify i λp=>(p.1,v),hheap (.map (es.modify i λe=>{ e with key:=V k,val:=v }) c),?_,λk'=>?_⟩,hfr _,by simp⟩
    · rw [hf] at hfi
      have hes:es[i]?=some es.toList[i]:=by rw [<-Array.getElem?_toList,List.getElem?_eq_getElem hi']
      simp only [Option.bind_some,List.getElem?_eq_getElem hi',Option.map_some] at hfi
      have hstay:(Instr.keyThatStays (((es[i]?).map (·.key)).getD (V k)) (V k)).run P w=.ok (V k) w:=by
        rw [hes]
        simp only [Option.map_some,Option.getD_some,<-hki,Instr.keyThatStays,hk.bits,if_true,Sem.run_pure]
      simp only [Instr.mapUpdate,Sem.run_bind,run_underlying hu,Result.andThen_ok,z2k h1,hk.check,hfi,hstay,hset]
    · apply List.ext_getElem?
      intro j
      have e2:=congrArg (·[j]?) h2
      simp only [List.getElem?_map] at e2 ⊢
      rw [Array.getElem?_toList,Array.getElem?_modify,List.getElem?_modify]
      rw [Array.getElem?_toList] at e2
      by_cases hj:i=j
      · subst hj
        have e3:=List.getElem?_eq_getElem hi
        have hes:es[i]?=some es.toList[i]:=by rw [<-Array.getElem?_toList,List.getElem?_eq_getElem hi']
        rw [hes,e3] at e2 ⊢
        simp only [Option.map_some,Option.some.injEq,Prod.mk.injEq] at e2
        simp only [if_true,Option.map_some]
        rw [hki,e2.1];rfl
      · simp only [hj,if_false]
        rw [e2];simp
    · rw [z8f k k' v m i hf,h3]
variable {a:Act} {n:Nat} {L:List (Nat×Value)} {ds:List Nat} {w w':World} {Q:Exit->Act->World->Prop} {C:World->Prop} {Qa:Act->Prop} {ops:Array Oper} {rest:List Oper}
variable {d:Nat} {ty:TypeId} {pos:String} {after:Array Edge} {x y z:Operand} {t E:TypeId} {g:Nat} {f:κ->Option Value} {k:κ} {v zv:Value}
theorem x8s (V:κ->Value) (h:AgM ds a n L) (hn:Nat.blt d n=true)
    (q:∀g w',g=w.heap.size->MapF V w' g (λ_=>none)->Fr [] w w'->w'.heap.size=g+1->∀a,AgM ds a n ((d,.map (some g))::L)->wpList P ops Q rest a w'):wpList P ops Q (⟨some d,.makeMap t none,ty,pos,after,none⟩::rest) a w:=
  z1u h rfl rfl hn (w':=w.alloc (.map #[] 0)) (by simp [execOp,Instr.makeMap]) (q _ _ rfl ⟨_,_,[],heap_alloc_new w _,by simp,λ_=>rfl⟩ (Fr.alloc [] w _) (by simp))
theorem y4q (V:κ->Value) (hn:Nat.blt d n=true) (q:∀g w',g=w.heap.size->MapF V w' g (λ_=>none)->Fr [] w w'->w'.heap.size=g+1->WL P ops Q rest n ds w' ((d,.map (some g))::L)):WL P ops Q (⟨some d,.makeMap t none,ty,pos,after,none⟩::rest) n ds w L:=λa h=>x8s V h hn q -- short
theorem v2t (h:AgM ds a n L) (hx:ev L x=some (.map (some g))) (hy:ev L y=some (V k)) (hm:MapF V w g f) (hk:KeyLaw P K V) (hu:P.underlying t=some (.map K E)) (hz:∀w:World,(zeroValue E).run P w=.ok zv w) :
    (execOp a.eval ⟨some d,.lookup t x y false,ty,pos,after,none⟩).run P w=.ok (.value ((f k).getD zv)) w:=by
  simp [execOp,h.eval hx,h.eval hy,y6d hm hk hu (hz w) k]
theorem y0m (h:AgM ds a n L) (hx:ev L x=some (.map (some g))) (hy:ev L y=some (V k)) (hm:MapF V w g f) (hk:KeyLaw P K V) (hu:P.underlying t=some (.map K E)) (hz:∀w:World,(zeroValue E).run P w=.ok zv w) (hv:(f k).getD zv=v) (hn:Nat.blt d n=true)
    (q:∀a,AgM ds a n ((d,v)::L)->wpList P ops Q rest a w):wpList P ops Q (⟨some d,.lookup t x y false,ty,pos,after,none⟩::rest) a w:=
  z1u h rfl rfl hn (by rw [<-hv];exact v2t h hx hy hm hk hu hz) q
theorem y7j (hx:ev L x=some (.map (some g))) (hy:ev L y=some (V k)) (hm:MapF V w g f) (hk:KeyLaw P K V) (hu:P.underlying t=some (.map K E)) (hz:∀w:World,(zeroValue E).run P w=.ok zv w) (hv:(f k).getD zv=v) (hn:Nat.blt d n=true) (q:WL P ops Q rest n ds w ((d,v)::L)):WL P ops Q (⟨some d,.lookup t x y false,ty,pos,after,none⟩::rest) n ds w L:=λa h=>y0m h hx hy hm hk hu hz hv hn q -- short
theorem x8d (h:AgM ds a n L) (hx:ev L x=some (.map (some g))) (hy:ev L y=some (V k)) (hm:MapF V w g f) (hk:KeyLaw P K V) (hu:P.underlying t=some (.map K E)) (hz:∀w:World,(zeroValue E).run P w=.ok zv w) :
    (execOp a.eval ⟨some d,.lookup t x y true,ty,pos,after,none⟩).run P w=.ok (.value (.tuple #[(f k).getD zv,.bool (f k).isSome])) w:=by
  simp [execOp,h.eval hx,h.eval hy,x3l hm hk hu (hz w) k]
theorem y1t {bo:Bool} (h:AgM ds a n L) (hx:ev L x=some (.map (some g))) (hy:ev L y=some (V k)) (hm:MapF V w g f) (hk:KeyLaw P K V) (hu:P.underlying t=some (.map K E)) (hz:∀w:World,(zeroValue E).run P w=.ok zv w) (hv:(f k).getD zv=v) (hb:(f k).isSome=bo) (hn:Nat.blt d n=true)
    (q:∀a,AgM ds a n ((d,.tuple #[v,.bool bo])::L)->wpList P ops Q rest a w):wpList P ops Q (⟨some d,.lookup t x y true,ty,pos,after,none⟩::rest) a w:=
  z1u h rfl rfl hn (by rw [<-hv,<-hb];exact x8d h hx hy hm hk hu hz) q
theorem v1x (h:AgM ds a n L) (hx:ev L x=some (.map (some g))) (hy:ev L y=some (V k)) (hz:ev L z=some v) (hm:MapF V w g f) (hk:KeyLaw P K V) (hu:P.underlying t=some (.map K E))
    (q:∀w',MapF V w' g (λk'=>if k'=k then some v else f k')->Fr [g] w w'->w'.heap.size=w.heap.size->∀a,AgM ds a n L->wpList P ops Q rest a w'):wpList P ops Q (⟨none,.insert t x y z,ty,pos,after,none⟩::rest) a w:=by
  obtain ⟨w',hr,h1,h2,h3⟩:=y0i hm hk hu k v
  exact z8i h rfl rfl (w':=w') (by simp [execOp,h.eval hx,h.eval hy,h.eval hz,hr]) (q w' h1 h2 h3)
theorem z2x (hx:ev L x=some (.map (some g))) (hy:ev L y=some (V k)) (hz:ev L z=some v) (hm:MapF V w g f) (hk:KeyLaw P K V) (hu:P.underlying t=some (.map K E)) (q:∀w',MapF V w' g (λk'=>if k'=k then some v else f k')->Fr [g] w w'->w'.heap.size=w.heap.size->WL P ops Q rest n ds w' L):WL P ops Q (⟨none,.insert t x y z,ty,pos,after,none⟩::rest) n ds w L:=λa h=>v1x h hx hy hz hm hk hu q -- short
theorem v3q (h:AgM ds a n L) (hx:ev L x=some (.map (some g))) (hy:ev L y=some (V k)) (hz:ev L z=some v) (hm:MapF V w g f) (hk:KeyLaw P K V) (hu:P.underlying t=some (.map K E))
    (q:∀w',MapF V w' g (λk'=>if k'=k then some v else f k')->Fr [g] w w'->w'.heap.size=w.heap.size->∀a,AgM ds a n L->wpList P ops Q rest a w'):wpList P ops Q (⟨none,.mapUpdate t x y z,ty,pos,after,none⟩::rest) a w:=by
  obtain ⟨w',hr,h1,h2,h3⟩:=y0i hm hk hu k v
  exact z8i h rfl rfl (w':=w') (by simp [execOp,h.eval hx,h.eval hy,h.eval hz,hr]) (q w' h1 h2 h3)
theorem y8a (hx:ev L x=some (.map (some g))) (hy:ev L y=some (V k)) (hz:ev L z=some v) (hm:MapF V w g f) (hk:KeyLaw P K V) (hu:P.underlying t=some (.map K E)) (q:∀w',MapF V w' g (λk'=>if k'=k then some v else f k')->Fr [g] w w'->w'.heap.size=w.heap.size->WL P ops Q rest n ds w' L):WL P ops Q (⟨none,.mapUpdate t x y z,ty,pos,after,none⟩::rest) n ds w L:=λa h=>v3q h hx hy hz hm hk hu q -- short
end
end Go.Lw
namespace Go.Lw
open Go.RowKit
section
variable {P:Program} {n:Nat} {L:List (Nat×Value)} {ds:List Nat} {w w':World} {Q:Exit->Act->World->Prop} {ops:Array Oper} {rest:List Oper} {a:Act} {d:Nat} {ty T t:TypeId} {pos:String} {after:Array Edge} {v:Value} {x y:Operand}
theorem u2m {α:Type} {E:Enc α} {bytes base g cap:Nat} {zs ys:List α} (h:AgM ds a n L) (hx:ev L x=some (.slice (some ⟨g,0,none⟩) zs.length cap)) (hy:ev L y=some v) (ho:Own E T base w (.slice (some ⟨g,0,none⟩) zs.length cap) zs) (hs:Sl E w v ys) (hl:ys.length=zs.length) (he:ElemOf P t T E bytes) (hn:Nat.blt d n=true)
    (q:∀w',Own E T base w' (.slice (some ⟨g,0,none⟩) zs.length cap) ys->Fr [g] w w'->w'.heap.size=w.heap.size->∀a,AgM ds a n ((d,.int .i64 (zs.length:Int))::L)->wpList P ops Q rest a w'):wpList P ops Q (⟨some d,.call ⟨.builtin .copy,#[x,y],#[t,t]⟩,ty,pos,after,none⟩::rest) a w:=by
  obtain ⟨i,z,h1,h2,h3,h4,h5⟩:=he.info
  obtain ⟨A,c,rfl,hc,hM,hA⟩:=hs.flat
  rcases ho with ⟨e,_⟩|⟨g',cap',cur,e,hb,hg,r1,r2,r3,r4⟩
  · cases e
  cases e
  have hle:ys.length*E.sz<=cur.size:=by rw [hl];exact Nat.le_trans (Nat.mul_le_mul_right _ r1) r3
  obtain ⟨cs,hcs0⟩:∃cs,ys.flatMap E.enc=cs:=⟨_,rfl⟩
  have hlen:cs.length=zs.length*E.sz:=by rw [<-hcs0,E.flat_len,hl]
  have hone:=E.flat_one ys
  rw [hcs0] at hone hA
  have hst:=run_storeCells_at P g 0 T cs 0 cur w hg (by rw [hlen];rw [hl] at hle;simpa using hle) hone
  simp only [Nat.zero_add,List.take_zero,List.nil_append] at hst
  have key:(Builtin.copy_ #[t,t] ty #[.slice (some ⟨g,0,none⟩) zs.length cap,.slice A ys.length c]).run P w=.ok (.int .i64 (zs.length:Int)) (w.setRow g (cs++cur.toList.drop cs.length).toArray):=by
    have hfc:(Builtin.firstCells E.sz zs.length (.slice A ys.length c)).run P w=.ok cs.toArray w:=by
      by_cases hys:ys=[]
      · have h0:zs.length=0:=by rw [<-hl,hys];rfl
        have hc0:cs=[]:=by rw [<-hcs0,hys];rfl
        rw [h0,hc0]
        cases A with
        | none=>simp [Builtin.firstCells]
        | some ad=>simp [Builtin.firstCells,loadCells,loadCellsFrom]
      · obtain ⟨ad,rfl,hcs⟩:=hA hys
        have hload:=run_loadCells_list (P:=P) w ad cs hcs
        rw [hlen] at hload
        simpa [Builtin.firstCells] using hload
    rw [hl] at hfc
    simp only [Builtin.copy_,List.getElem?_toArray,List.getElem?_cons_zero,List.getElem?_cons_succ,Sem.run_bind,run_underlying he.und,Result.andThen_ok,Builtin.lenOf,Sem.run_pure,hl,Nat.min_self,show ∀m:Nat,Nat.min m m=m from Nat.min_self,sizeOf,typeInfo]
    simp [h1,h3,hfc,hst,goInt]
  refine z1u h rfl rfl hn (w':=w.setRow g (cs++cur.toList.drop cs.length).toArray) ?_ (q _ (.inr ⟨g,cap,_,by rw [hl],hb,setRow_heap w g cur _ T (0,0) hg,by rw [hl];exact r1,r2,?_,?_⟩) (Fr.setRow w g _) (by simp))
  · rw [z1v];unfold builtin
    simp only [List.map_toArray,List.map_cons,List.map_nil,h.eval hx,h.eval hy,Sem.run_bind,key,Result.andThen_ok,Sem.run_pure]
  · simp only [List.size_toArray,List.length_append,List.length_drop,Array.length_toList];omega
  · rw [hl,<-hlen,hcs0];simp
theorem z6z {α:Type} {E:Enc α} {bytes base g cap:Nat} {zs ys:List α} (hx:ev L x=some (.slice (some ⟨g,0,none⟩) zs.length cap)) (hy:ev L y=some v) (ho:Own E T base w (.slice (some ⟨g,0,none⟩) zs.length cap) zs) (hs:Sl E w v ys) (hl:ys.length=zs.length) (he:ElemOf P t T E bytes) (q:∀w',Own E T base w' (.slice (some ⟨g,0,none⟩) zs.length cap) ys->Fr [g] w w'->w'.heap.size=w.heap.size->WL P ops Q rest n ds w' ((d,.int .i64 (zs.length:Int))::L)) (hn:Nat.blt d n=true:=by exact rfl):WL P ops Q (⟨some d,.call ⟨.builtin .copy,#[x,y],#[t,t]⟩,ty,pos,after,none⟩::rest) n ds w L:=λa h=>u2m h hx hy ho hs hl he hn q
end
end Go.Lw
namespace Go.Lw
open Go.RowKit
section
variable {P:Program} {n:Nat} {L:List (Nat×Value)} {ds:List Nat} {w w':World} {Q:Exit->Act->World->Prop} {ops:Array Oper} {rest:List Oper} {a:Act} {d:Nat} {ty T t:TypeId} {pos:String} {after:Array Edge} {v:Value} {x y:Operand}
theorem v9a {α:Type} {E:Enc α} {bytes base g m cap p k:Nat} {zs ys:List α} (h:AgM ds a n L) (hx:ev L x=some (.slice (some ((⟨g,0,none⟩:Addr).add (p*E.sz))) (m-p) (cap-p))) (hy:ev L y=some v) (ho:Own E T base w (.slice (some ⟨g,0,none⟩) m cap) zs) (hs:Sl E w v ys) (hp:p<=m) (hk:k=min (m-p) ys.length) (he:ElemOf P t T E bytes) (hn:Nat.blt d n=true)
    (q:∀w',Own E T base w' (.slice (some ⟨g,0,none⟩) m cap) (zs.take p++ys.take k++zs.drop (p+k))->Fr [g] w w'->w'.heap.size=w.heap.size->∀a,AgM ds a n ((d,.int .i64 (k:Int))::L)->wpList P ops Q rest a w'):wpList P ops Q (⟨some d,.call ⟨.builtin .copy,#[x,y],#[t,t]⟩,ty,pos,after,none⟩::rest) a w:=by
  obtain ⟨i,z,h1,h2,h3,h4,h5⟩:=he.info
  rcases ho with ⟨e,_⟩|⟨g',cap',cur,e,hb,hg,r1,r2,r3,r4⟩
  · cases e
  cases e
  obtain ⟨A0,c0,e0,_,hM0,_⟩:=id hs
  subst e0
  have hkl:k<=ys.length:=by omega
  have hs2:=hs.take rfl (m:=k) hkl (B:=A0) (c':=c0) (by omega) hM0 (λ_=>rfl)
  obtain ⟨A,c,e2,hc,hM,hA⟩:=hs2.flat
  have hlk:(ys.take k).length=k:=by rw [List.length_take];omega
  rw [hlk] at e2
  simp only [Value.slice.injEq] at e2
  obtain ⟨rfl,-,rfl⟩:=e2
  obtain ⟨cs,hcs0⟩:∃cs,(ys.take k).flatMap E.enc=cs:=⟨_,rfl⟩
  have hlen:cs.length=k*E.sz:=by rw [<-hcs0,E.flat_len,hlk]
  have hone:=E.flat_one (ys.take k)
  rw [hcs0] at hone hA
  have hpk:p+k<=zs.length:=by omega
  have hsz:p*E.sz+k*E.sz<=zs.length*E.sz:=by rw [<-Nat.add_mul];exact Nat.mul_le_mul_right _ hpk
  have hcz:zs.length*E.sz<=cur.size:=Nat.le_trans (Nat.mul_le_mul_right _ r1) r3
  have hst:=run_storeCells_at P g (p*E.sz) T cs 0 cur w hg (by rw [hlen];omega) hone
  rw [Nat.add_zero,hlen] at hst
  have hfc:(Builtin.firstCells E.sz k (.slice A0 ys.length c0)).run P w=.ok cs.toArray w:=by
    by_cases hys:ys.take k=[]
    · have h0:k=0:=by have:=congrArg List.length hys;rw [hlk] at this;simpa using this
      have hc0:cs=[]:=by rw [<-hcs0,hys];rfl
      rw [h0,hc0]
      cases A0 with
      | none=>simp [Builtin.firstCells]
      | some ad=>simp [Builtin.firstCells,loadCells,loadCellsFrom]
    · obtain ⟨ad,rfl,hcs⟩:=hA hys
      have hload:=run_loadCells_list (P:=P) w ad cs hcs
      rw [hlen] at hload
      simpa [Builtin.firstCells] using hload
  have key:(Builtin.copy_ #[t,t] ty #[.slice (some ((⟨g,0,none⟩:Addr).add (p*E.sz))) (zs.length-p) (cap-p),.slice A0 ys.length c0]).run P w=.ok (.int .i64 (k:Int)) (w.setRow g (cur.toList.take (p*E.sz)++cs++cur.toList.drop (p*E.sz+k*E.sz)).toArray):=by
    rw [z3l,Nat.zero_add]
    have hmin:Nat.min (zs.length-p) ys.length=k:=hk.symm
    have hmin2:Nat.min ys.length (zs.length-p)=k:=(Nat.min_comm _ _).trans hk.symm
    simp only [Builtin.copy_,List.getElem?_toArray,List.getElem?_cons_zero,List.getElem?_cons_succ,Sem.run_bind,run_underlying he.und,Result.andThen_ok,Builtin.lenOf,Sem.run_pure,hmin,sizeOf,typeInfo]
    simp [h1,h3,hfc,hst,goInt,hmin2]
  obtain ⟨za,zb,zc,rfl,hza,hzb⟩:∃za zb zc,zs=za++(zb++zc)/\za.length=p/\zb.length=k:=⟨zs.take p,(zs.drop p).take k,(zs.drop p).drop k,by rw [List.take_append_drop,List.take_append_drop],by rw [List.length_take];omega,by rw [List.length_take,List.length_drop];omega⟩
  have hnew:(za++(zb++zc)).take p++ys.take k++(za++(zb++zc)).drop (p+k)=za++(ys.take k++zc):=by
    rw [<-hza,List.take_left,<-hzb,<-List.drop_drop,List.drop_left,List.drop_left,List.append_assoc]
  rw [hnew] at q
  have hl2:(za++(ys.take k++zc)).length=(za++(zb++zc)).length:=by simp only [List.length_append,hlk,hzb]
  have hcur:cur.toList=(za++(zb++zc)).flatMap E.enc++cur.toList.drop ((za++(zb++zc)).length*E.sz):=by
    rw [<-r4,List.take_append_drop]
  have hfa:(za.flatMap E.enc).length=p*E.sz:=by rw [E.flat_len,hza]
  have hfb:(zb.flatMap E.enc).length=k*E.sz:=by rw [E.flat_len,hzb]
  have hrow:cur.toList.take (p*E.sz)++cs++cur.toList.drop (p*E.sz+k*E.sz)=(za++(ys.take k++zc)).flatMap E.enc++cur.toList.drop ((za++(zb++zc)).length*E.sz):=by
    generalize cur.toList.drop ((za++(zb++zc)).length*E.sz)=R at hcur ⊢
    rw [hcur]
    simp only [List.flatMap_append,List.append_assoc]
    rw [<-hfa,List.take_left,<-hfb,<-List.drop_drop,List.drop_left,List.drop_left,hcs0]
  rw [hrow] at key
  refine z1u h rfl rfl hn (w':=w.setRow g ((za++(ys.take k++zc)).flatMap E.enc++cur.toList.drop ((za++(zb++zc)).length*E.sz)).toArray) ?_ (q _ (.inr ⟨g,cap,_,by rw [hl2],hb,setRow_heap w g cur _ T (0,0) hg,by rw [hl2];exact r1,r2,?_,?_⟩) (Fr.setRow w g _) (by simp))
  · rw [z1v];unfold builtin
    simp only [List.map_toArray,List.map_cons,List.map_nil,h.eval hx,h.eval hy,Sem.run_bind,key,Result.andThen_ok,Sem.run_pure]
  · have e1:((za++(ys.take k++zc)).flatMap E.enc).length=(za++(zb++zc)).length*E.sz:=by rw [E.flat_len,hl2]
    generalize (za++(ys.take k++zc)).flatMap E.enc=X at e1
    generalize (za++(zb++zc)).length*E.sz=M at e1 hcz
    simp only [List.size_toArray,List.length_append,List.length_drop,Array.length_toList]
    omega
  · show List.take _ _=_
    rw [show (za++(ys.take k++zc)).length*E.sz=((za++(ys.take k++zc)).flatMap E.enc).length by rw [E.flat_len]]
    exact List.take_left
theorem u7e {α:Type} {E:Enc α} {bytes base g m cap p k:Nat} {zs ys:List α} (hx:ev L x=some (.slice (some ((⟨g,0,none⟩:Addr).add (p*E.sz))) (m-p) (cap-p))) (hy:ev L y=some v) (ho:Own E T base w (.slice (some ⟨g,0,none⟩) m cap) zs) (hs:Sl E w v ys) (hp:p<=m) (hk:k=min (m-p) ys.length) (he:ElemOf P t T E bytes) (hn:Nat.blt d n=true)
 (q:∀w',Own E T base w' (.slice (some ⟨g,0,none⟩) m cap) (zs.take p++ys.take k++zs.drop (p+k))->Fr [g] w w'->w'.heap.size=w.heap.size->WL P ops Q rest n ds w' ((d,.int .i64 (k:Int))::L)):WL P ops Q (⟨some d,.call ⟨.builtin .copy,#[x,y],#[t,t]⟩,ty,pos,after,none⟩::rest) n ds w L:=λa h=>v9a h hx hy ho hs hp hk he hn q
end
end Go.Lw
namespace Go.Lw
open Go.RowKit
theorem x9u {α:Type} {E:Enc α} {ys:List α} {i f:Nat} {z y:α} {v:Value} (hy:ys[i]?=some y) (hf:f<E.sz) (hz:(E.enc y).set f v=E.enc z) (rest:List Value) :
    (ys.flatMap E.enc++rest).set (i*E.sz+f) v=(ys.set i z).flatMap E.enc++rest:=by
  have hi:=(List.getElem?_eq_some_iff.1 hy).1
  have e1:ys.set i y=ys:=by
    apply List.ext_getElem?
    intro k
    rw [List.getElem?_set]
    by_cases e:i=k
    · subst e;rw [if_pos rfl,if_pos hi,hy]
    · rw [if_neg e]
  have h1:=z7x (E:=E) ys y rest i hi
  have h2:=z7x (E:=E) ys z rest i hi
  rw [e1] at h1
  rw [<-h2]
  conv=>lhs;rw [<-h1]
  have hl:((ys.flatMap E.enc++rest).take (i*E.sz)).length=i*E.sz:=by
    rw [List.length_take,List.length_append,E.flat_len]
    have:i*E.sz+E.sz<=ys.length*E.sz:=by rw [<-Nat.succ_mul];exact Nat.mul_le_mul_right _ hi
    omega
  rw [List.append_assoc,List.set_append_right _ _ (by omega),hl,Nat.add_sub_cancel_left,List.set_append_left _ _ (by rw [E.len];exact hf),hz,List.append_assoc]
section
variable {P:Program} {a:Act} {n:Nat} {L:List (Nat×Value)} {ds:List Nat} {w:World} {Q:Exit->Act->World->Prop} {ops:Array Oper} {rest:List Oper} {d:Nat} {ty t T:TypeId} {pos:String} {after:Array Edge} {x y:Operand} {v:Value}
theorem y3s {α:Type} {E:Enc α} {base g m c i f:Nat} {ys:List α} (u z:α) (h:AgM ds a n L) (hx:ev L x=some (.pointer (some ((⟨g,0,none⟩:Addr).add (i*E.sz+f))))) (hy:ev L y=some v) (ho:Own E T base w (.slice (some ⟨g,0,none⟩) m c) ys) (hi:ys[i]?=some u) (hf:f<E.sz)
    (hz:(E.enc u).set f v=E.enc z) (h1:v.oneCell'=true) (hc:v.cells=#[v]) (hs:z1q P t 1)
    (q:∀w',Own E T base w' (.slice (some ⟨g,0,none⟩) m c) (ys.set i z)->Fr [g] w w'->w'.heap.size=w.heap.size->∀a,AgM ds a n L->wpList P ops Q rest a w'):wpList P ops Q (⟨none,.store t x y,ty,pos,after,none⟩::rest) a w:=by
  rcases ho with ⟨e,_⟩|⟨g',cap,cur,e,hb,hg,r1,r2,r3,r4⟩
  · cases e
  cases e
  have hil:=(List.getElem?_eq_some_iff.1 hi).1
  have h5:i*E.sz+E.sz<=ys.length*E.sz:=by rw [<-Nat.succ_mul];exact Nat.mul_le_mul_right _ hil
  have hcs:ys.length*E.sz<=cur.size:=Nat.le_trans (Nat.mul_le_mul_right _ r1) r3
  have hbk:Blk w g T cur.toList:=hg
  have hcur:cur.toList=ys.flatMap E.enc++cur.toList.drop (ys.length*E.sz):=by rw [<-r4,List.take_append_drop]
  refine z4h h hx hy hbk (by rw [Nat.blt_eq,Array.length_toList];omega) h1 hc hs λw' k1 k2 k3 a h=>q w' ?_ k2 k3 a h
  have e1:cur.toList.set (i*E.sz+f) v=(ys.set i z).flatMap E.enc++cur.toList.drop (ys.length*E.sz):=by
    conv=>lhs;rw [hcur]
    exact x9u hi hf hz _
  rw [e1] at k1
  refine .inr ⟨g,c,_,by rw [List.length_set],hb,k1,by rw [List.length_set];exact r1,r2,?_,?_⟩
  · simp only [List.size_toArray,List.length_append,E.flat_len,List.length_set,List.length_drop,Array.length_toList];omega
  · rw [List.length_set,show ys.length*E.sz=((ys.set i z).flatMap E.enc).length by rw [E.flat_len,List.length_set]]
    exact List.take_left
theorem v7e {α:Type} {E:Enc α} {base g m c i f:Nat} {ys:List α} (u z:α) (hx:ev L x=some (.pointer (some ((⟨g,0,none⟩:Addr).add (i*E.sz+f))))) (hy:ev L y=some v) (ho:Own E T base w (.slice (some ⟨g,0,none⟩) m c) ys) (hi:ys[i]?=some u) (hf:f<E.sz)
 (hz:(E.enc u).set f v=E.enc z) (h1:v.oneCell'=true) (hc:v.cells=#[v]) (hs:z1q P t 1)
 (q:∀w',Own E T base w' (.slice (some ⟨g,0,none⟩) m c) (ys.set i z)->Fr [g] w w'->w'.heap.size=w.heap.size->WL P ops Q rest n ds w' L):WL P ops Q (⟨none,.store t x y,ty,pos,after,none⟩::rest) n ds w L:=λ_ h=>y3s u z h hx hy ho hi hf hz h1 hc hs q
end
end Go.Lw
namespace Go.Lw
open Go.RowKit
section
variable {P:Program} {a:Act} {n:Nat} {L:List (Nat×Value)} {w:World} {v:Value} {g g2:Nat} {T T2:TypeId} {cs cs2:List Value}
theorem j0m {fn:Func} {R:Ending->World->Prop} {p pt p2 pt2 q:Nat} (h:Ag a n L) (hr:fn.results=#[.cell p pt,.cell p2 pt2,.tmp q]) (hp:look L p=some (.pointer (some ⟨g,0,none⟩))) (hb:Blk w g T cs) (hg:z3p P pt cs.length)
    (hp2:look L p2=some (.pointer (some ⟨g2,0,none⟩))) (hb2:Blk w g2 T2 cs2) (hg2:z3p P pt2 cs2.length) (hv:look L q=some v) (k:R (.returned (.tuple #[.agg cs.toArray,.agg cs2.toArray,v])) w):bodyPost P fn R .ret a w:=
  bodyPost_ret (v:=.tuple #[.agg cs.toArray,.agg cs2.toArray,v]) (by
    have h1:=h.at_ p _ hp
    have h2:=h.at_ q _ hv
    have h3:=h.at_ p2 _ hp2
    simp only [Array.getD_eq_getD_getElem?] at h1 h2 h3
    simp [results,hr,h1,h2,h3,asAddr,loadVar,hg.1 w,hg.2 w,hg2.1 w,hg2.2 w,run_loadCells_list w _ cs hb.cells,run_loadCells_list w _ cs2 hb2.cells]) h.dfr k
theorem j1e {fn:Func} {R:Ending->World->Prop} {p pt p2 pt2 q:Nat} (hr:fn.results=#[.cell p pt,.cell p2 pt2,.tmp q]) (hp:look L p=some (.pointer (some ⟨g,0,none⟩))) (hb:Blk w g T cs) (hg:z3p P pt cs.length)
 (hp2:look L p2=some (.pointer (some ⟨g2,0,none⟩))) (hb2:Blk w g2 T2 cs2) (hg2:z3p P pt2 cs2.length) (hv:look L q=some v) (k:R (.returned (.tuple #[.agg cs.toArray,.agg cs2.toArray,v])) w):EW (bodyPost P fn R) .ret n [] w L:=λ_ h=>j0m h hr hp hb hg hp2 hb2 hg2 hv k
end
end Go.Lw
namespace Go.Lw
open Go.RowKit
section
variable {P:Program} {n:Nat} {L:List (Nat×Value)} {ds:List Nat} {w w':World} {Q:Exit->Act->World->Prop} {ops:Array Oper} {rest:List Oper} {a:Act} {d:Nat} {ty T t:TypeId} {pos:String} {after:Array Edge} {v:Value} {x y:Operand}
end
end Go.Lw
namespace Go.Lw
open Go.RowKit
section
variable {P:Program} {n:Nat} {L:List (Nat×Value)} {ds:List Nat} {w w':World} {Q:Exit->Act->World->Prop} {ops:Array Oper} {rest:List Oper} {a:Act} {d:Nat} {ty T t tn:TypeId} {pos:String} {after:Array Edge} {v:Value} {x y:Operand}
end
end Go.Lw
namespace Go.Proofs.YtpgdchkdlgkmgaaGreatDoor
open Go.Lw _root_.Go.Proofs.Tryz
theorem z4v:z3p prog 24 2:=⟨λ_=>by kernel_rfl,λ_=>by kernel_rfl⟩
theorem z9j:z3p prog 28 6:=⟨λ_=>by kernel_rfl,λ_=>by kernel_rfl⟩
theorem y9u:BuildAt prog 24 [(0,1),(1,1)] [(.int .u8 0),(.int .i64 0)]:=BuildAt.struct underlying24 (λ_=>by kernel_rfl) (λ_=>by kernel_rfl)
theorem x1a:BuildAt prog 188 [(0,1),(1,1),(2,1),(3,1)] [(.bool false),(.bool false),(.bool false),(.bool false)]:=BuildAt.struct underlying188 (λ_=>by kernel_rfl) (λ_=>by kernel_rfl)
theorem v9e:CallOf prog 58:=mkC func58
theorem z6e:z0z prog 24 0 0:=λ_ _=>by kernel_rfl
theorem z6i:z0z prog 24 1 1:=λ_ _=>by kernel_rfl
theorem z9g:z0z prog 28 0 0:=λ_ _=>by kernel_rfl
theorem z8a:z0z prog 28 1 1:=λ_ _=>by kernel_rfl
theorem z4e:z0z prog 28 2 2:=λ_ _=>by kernel_rfl
theorem z3i:z0z prog 28 3 4:=λ_ _=>by kernel_rfl
theorem y3e:z0z prog 28 4 5:=λ_ _=>by kernel_rfl
theorem y8s:z0z prog 188 0 0:=λ_ _=>by kernel_rfl
theorem x4a:z0z prog 188 1 1:=λ_ _=>by kernel_rfl
theorem x3n:z0z prog 188 2 2:=λ_ _=>by kernel_rfl
theorem u7q:z0z prog 188 3 3:=λ_ _=>by kernel_rfl
theorem z2r:prog.follows .mixedOrders=true:=by kernel_rfl
theorem na3:z2b prog 3:=λ_=>by kernel_rfl
theorem na4:z2b prog 4:=λ_=>by kernel_rfl
theorem na5:z2b prog 5:=λ_=>by kernel_rfl
theorem x4n:z2b prog 22:=λ_=>by kernel_rfl
theorem v7t:z2b prog 25:=λ_=>by kernel_rfl
theorem y7e:z2b prog 26:=λ_=>by kernel_rfl
theorem u7r:z1q prog 188 4:=λ_=>by kernel_rfl
theorem x1w (w:World):(zeroValue 188).run prog w=.ok (.agg #[(.bool false),(.bool false),(.bool false),(.bool false)]) w:=by kernel_rfl
theorem z4k (b p:Int) (w0:World):Rets prog 58 #[.agg #[.int .u8 b,.int .i64 p]] w0 λv w'=>v=.int .i64 (z3d b p)/\Fr [] w0 w':=by
 refine we [(0,.agg #[.int .u8 b,.int .i64 p])] func58 rfl ntmps58 rfl (.cons rfl .nil) (sr (bx rfl rfl rfl (λg1 w1 hg1 hb1 q1 z1=>(asg rfl (nn (sq (sq ?_)))))))
 refine rbo (r:=10) (L':=[(1,_)]) (((b≠0)/\(b≠1))) (.cons rfl .nil) ?_ ?_
 ·refine fad rfl z6e (z0i rfl hb1 rfl x4n (ne' rfl rfl (mv rfl (gs 6 rfl (λg0=>?_) (λg0=>?_)))))
  ·exact gY rfl (fad rfl z6e (gY rfl (z0i rfl hb1 rfl x4n (gY rfl (ne' rfl rfl (pkt rfl rfl (rbe rfl (.cons rfl .nil))))))))
  exact gN rfl rfl (gN rfl rfl (gN rfl rfl (pkf rfl rfl (rbe rfl (.cons rfl .nil)))))
 refine tn (cd rfl (λc0=>?_) (λc0=>?_))
 ·refine sr (asg rfl (nn (rt (tr (r1 results58 rfl ?_)))))
  exact ⟨_,rfl,by rw [z3d,if_pos c0],q1⟩
 refine sk (tn (sq (sq ?_)))
 refine rbo (r:=18) (L':=[]) (((p<1)\/(40<p))) .nil ?_ ?_
 ·refine fad rfl z6i (z0i rfl hb1 rfl na3 (lt' rfl rfl (mv rfl (gs 14 rfl (λg1=>?_) (λg1=>?_)))))
  ·exact gN rfl rfl (gN rfl rfl (gN rfl rfl (pkt rfl rfl (rbe rfl .nil))))
  exact gY rfl (fad rfl z6i (gY rfl (z0i rfl hb1 rfl na3 (gY rfl (gt' rfl rfl (pkf rfl rfl (rbe rfl .nil)))))))
 refine tn (cd rfl (λc1=>?_) (λc1=>?_))
 ·refine sr (asg rfl (nn (rt (tr (r1 results58 rfl ?_)))))
  exact ⟨_,rfl,by rw [z3d,if_neg c0,if_pos c1],q1⟩
 refine sk (tn (sr (asg rfl (nn (rt (r1 results58 rfl ?_))))))
 exact ⟨_,rfl,by rw [z3d,if_neg c0,if_neg c1],q1⟩
def kV (k:Int):Value:=.int .u8 k
theorem y4y:KeyLaw prog 25 kV:=KeyLaw.now underlying25 (λk k'=>by simp [kV,Instr.sameNow,y4k]) (λ_ _ _=>by kernel_rfl) (λ_=>by simp [kV,Instr.sameBits])
theorem y8j (w0:World):Rets prog 106 #[] w0 λv w'=>∃g,v=.map (some g)/\w0.heap.size<=g/\g<w'.heap.size/\MapF kV w' g x3j/\Fr [] w0 w':=by
 refine we [] func106 rfl ntmps106 rfl .nil (sr (asg rfl (nn (sr (y4q kV rfl (λg1 w1 hg1 hm q1 z1=>?_))))))
 refine z1r (cs:=[_,_,_,_]) (ev2 rfl rfl) x1a (z0f rfl rfl rfl (z0f rfl rfl rfl z0s)) rfl ?_
 refine z2x (V:=kV) (k:=1) rfl rfl rfl hm y4y underlying190 (λw2 hm q2 z2=>?_)
 refine z1r (cs:=[_,_,_,_]) (ev1 rfl) x1a (z0f rfl rfl rfl z0s) rfl ?_
 refine z2x (V:=kV) (k:=2) rfl rfl rfl hm y4y underlying190 (λw3 hm q3 z3=>?_)
 refine z1r (cs:=[_,_,_,_]) (ev1 rfl) x1a (z0f rfl rfl rfl z0s) rfl ?_
 refine z2x (V:=kV) (k:=3) rfl rfl rfl hm y4y underlying190 (λw4 hm q4 z4=>?_)
 refine z1r (cs:=[_,_,_,_]) (ev3 rfl rfl rfl) x1a (z0f rfl rfl rfl (z0f rfl rfl rfl (z0f rfl rfl rfl z0s))) rfl ?_
 refine z2x (V:=kV) (k:=4) rfl rfl rfl hm y4y underlying190 (λw5 hm q5 z5=>?_)
 refine z1r (cs:=[_,_,_,_]) (ev3 rfl rfl rfl) x1a (z0f rfl rfl rfl (z0f rfl rfl rfl (z0f rfl rfl rfl z0s))) rfl ?_
 refine z2x (V:=kV) (k:=5) rfl rfl rfl hm y4y underlying190 (λw6 hm q6 z6=>?_)
 refine z1r (cs:=[_,_,_,_]) (ev3 rfl rfl rfl) x1a (z0f rfl rfl rfl (z0f rfl rfl rfl (z0f rfl rfl rfl z0s))) rfl ?_
 refine z2x (V:=kV) (k:=6) rfl rfl rfl hm y4y underlying190 (λw7 hm q7 z7=>?_)
 refine z1r (cs:=[_,_,_,_]) (ev1 rfl) x1a (z0f rfl rfl rfl z0s) rfl ?_
 refine z2x (V:=kV) (k:=7) rfl rfl rfl hm y4y underlying190 (λw8 hm q8 z8=>?_)
 refine z1r (cs:=[_,_,_,_]) (ev1 rfl) x1a (z0f rfl rfl rfl z0s) rfl ?_
 refine z2x (V:=kV) (k:=8) rfl rfl rfl hm y4y underlying190 (λw9 hm q9 z9=>(mv rfl (asg rfl (nn (rt (r1 results106 rfl ?_))))))
 exact ⟨_,rfl,g1,rfl,by omega,by omega,by
  refine (funext λk=>?_:x3j=_)▸hm
  unfold x3j z6q;repeat' split
  all_goals first|rfl|(simp_all [f4V];done),(((q1.z6 q2 q3 q4 q5 q6 q7).z1 q8).z1 q9)⟩
theorem j4u:x9o prog 24 ndV:=by
 intro e f ox oy w
 have hg:∀op,(eqGuard op 24 ox oy (ndV e) (ndV f)).run prog w=.ok () w:=λop=>run_eqGuard_agg w op 24 ox oy _ _ (by kernel_rfl)
 have h1:prog.stoodInHeld 24=false:=by kernel_rfl
 obtain ⟨k,y⟩:=e
 obtain ⟨k',y'⟩:=f
 refine ⟨hg _,hg _,?_,?_⟩
 ·unfold ndV
  simp [go_sem,h1,underlying24]
  (repeat' split)<;>simp_all
 unfold ndV
 simp [go_sem,h1,underlying24]
 (repeat' split)<;>simp_all
theorem v6y (o:MOp) (w0:World):Rets prog 57 #[opV o] w0 λv w'=>v=.bool (decide (y5p o))/\Fr [] w0 w':=by
 refine we [(0,opV o)] func57 rfl ntmps57 rfl (.cons rfl .nil) (sr (bx rfl rfl rfl (λg1 w1 hg1 hb1 q1 z1=>(asg rfl (nn ?_)))))
 refine jn (ι:=Nat) [(1,_)] (λg3=>[(3,.pointer (some ⟨g3,0,none⟩)),(4,.bool (z6q o.k).isSome)]) (λg3 w'=>Fr [] w1 w'/\w1.heap.size<=g3/\Blk w' g3 188 (f4L ((z6q o.k).getD f40))) (.cons rfl .nil) ?_ ?_
 ·intro a h
  have qh1:=Fr.refl [] w1
  refine z3y (λwb w'=>Fr [] wb w') z2r ?_;intro w2 hq
  replace hb1:=hb1.ext hq
  replace qh1:=qh1.next hq
  have hsz:=hq.size;clear hq;have hC:Fr [] w2 w2:=Fr.refl _ _
  have hb1_b:=hb1
  refine z0c 1 h rfl z9g rfl λa h=>z0l 2 h rfl (λ_ hw=>hb1_b.ext hw) rfl v7t rfl λa h=>z2d 0 7 (by kernel_rfl) rfl rfl ?_ ?_
  ·refine z0m h z0g (mkC func106) (y8j _) ?_;rintro _ w3 ⟨gm,rfl,hgm1,hgm2,hm,hq⟩ a h
   replace hb1:=hb1.ext hq
   replace qh1:=qh1.next hq
   replace hC:=hC.next hq
   clear hq
   refine z0b ?_
   refine z2d 3 7 (by kernel_rfl) rfl rfl ?_ ?_
   ·refine y1t (V:=kV) (k:=o.k) h rfl rfl hm y4y underlying190 x1w (z7k _) (y0x _) rfl λa h=>?_
    refine z0b ?_
    refine z0e 4 h rfl rfl λa h=>z0k 5 h rfl rfl rfl λa h=>z0k 6 h rfl rfl rfl λa h=>z0d 7 rfl ?_
    refine z1d h x1w rfl λw4 hb3 hq hz a h=>?_
    obtain ⟨g_3,hg⟩:∃g,g=w3.heap.size:=⟨_,rfl⟩;rw [<-hg] at hb3 h hz
    have hn__3:g1<g_3:=by have:=hb1.lt;omega
    have hl_qh1_3:w1.heap.size<=g_3:=by have:=qh1.size;omega
    have hl_hC_3:w2.heap.size<=g_3:=by have:=hC.size;omega
    replace hb1:=hb1.ext hq
    replace qh1:=qh1.next hq
    replace hC:=hC.next hq
    replace hm:=hm.ext hq
    clear hq
    refine z0b ?_
    refine z0d 8 rfl ?_
    refine z0u h rfl rfl hb3 rfl u7r ?_ (h1:=(by first|(simp [Value.oneCell',S];done)|exact Enc.one _ _|exact x3b _));clear h a;intro w5 hbn hq hz a h
    replace hb1:=hb1.fr hq
    replace qh1:=qh1.sp hq
    replace hC:=hC.sp hq
    replace hm:=hm.fr hq (by simp;exact hm.ne_blk hb3)
    clear hb3 hq hz;have hb3:Blk w5 g_3 _ [_,_,_,_]:=hbn;clear hbn
    refine z0b ?_
    refine z0d 9 rfl ?_
    refine z0q h rfl λa h=>?_
    refine z0b ?_
    refine z0r ?_
    clear hC hb1_b
    refine bk (h.sub (L':=[(1,_),(3,_),(4,_)]) (.c3 rfl rfl rfl)) ?_
    exact jE (g_3) (.c3 rfl rfl rfl) ⟨qh1,⟨by omega,hb3⟩⟩
   refine z1d h x1w rfl λw6 hb3 hq hz a h=>?_
   obtain ⟨g_3,hg⟩:∃g,g=w3.heap.size:=⟨_,rfl⟩;rw [<-hg] at hb3 h hz
   have hn__3:g1<g_3:=by have:=hb1.lt;omega
   have hl_qh1_3:w1.heap.size<=g_3:=by have:=qh1.size;omega
   have hl_hC_3:w2.heap.size<=g_3:=by have:=hC.size;omega
   replace hb1:=hb1.ext hq
   replace qh1:=qh1.next hq
   replace hC:=hC.next hq
   replace hm:=hm.ext hq
   clear hq
   refine z0b ?_
   refine z0d 3 rfl ?_
   refine y1t (V:=kV) (k:=o.k) h rfl rfl hm y4y underlying190 x1w (z7k _) (y0x _) rfl λa h=>?_
   refine z0b ?_
   refine z0e 4 h rfl rfl λa h=>z0k 5 h rfl rfl rfl λa h=>z0k 6 h rfl rfl rfl λa h=>z0d 8 rfl ?_
   refine z0u h rfl rfl hb3 rfl u7r ?_ (h1:=(by first|(simp [Value.oneCell',S];done)|exact Enc.one _ _|exact x3b _));clear h a;intro w7 hbn hq hz a h
   replace hb1:=hb1.fr hq
   replace qh1:=qh1.sp hq
   replace hC:=hC.sp hq
   replace hm:=hm.fr hq (by simp;exact hm.ne_blk hb3)
   clear hb3 hq hz;have hb3:Blk w7 g_3 _ [_,_,_,_]:=hbn;clear hbn
   refine z0b ?_
   refine z0d 9 rfl ?_
   refine z0q h rfl λa h=>?_
   refine z0b ?_
   refine z0r ?_
   clear hC hb1_b
   refine bk (h.sub (L':=[(1,_),(3,_),(4,_)]) (.c3 rfl rfl rfl)) ?_
   exact jE (g_3) (.c3 rfl rfl rfl) ⟨qh1,⟨by omega,hb3⟩⟩
  refine z1d h x1w rfl λw8 hb3 hq hz a h=>?_
  obtain ⟨g_3,hg⟩:∃g,g=w2.heap.size:=⟨_,rfl⟩;rw [<-hg] at hb3 h hz
  have hn__3:g1<g_3:=by have:=hb1.lt;omega
  have hl_qh1_3:w1.heap.size<=g_3:=by have:=qh1.size;omega
  have hl_hC_3:w2.heap.size<=g_3:=by have:=hC.size;omega
  replace hb1:=hb1.ext hq
  replace qh1:=qh1.next hq
  replace hC:=hC.next hq
  clear hq
  refine z0b ?_
  refine z0d 0 rfl ?_
  refine z0m h z0g (mkC func106) (y8j _) ?_;rintro _ w9 ⟨gm,rfl,hgm1,hgm2,hm,hq⟩ a h
  replace hb1:=hb1.ext hq
  replace qh1:=qh1.next hq
  replace hC:=hC.next hq
  replace hb3:=hb3.ext hq
  clear hq
  refine z0b ?_
  refine z0d 3 rfl ?_
  refine y1t (V:=kV) (k:=o.k) h rfl rfl hm y4y underlying190 x1w (z7k _) (y0x _) rfl λa h=>?_
  refine z0b ?_
  refine z0e 4 h rfl rfl λa h=>z0k 5 h rfl rfl rfl λa h=>z0k 6 h rfl rfl rfl λa h=>z0d 8 rfl ?_
  refine z0u h rfl rfl hb3 rfl u7r ?_ (h1:=(by first|(simp [Value.oneCell',S];done)|exact Enc.one _ _|exact x3b _));clear h a;intro w10 hbn hq hz a h
  replace hb1:=hb1.fr hq
  replace qh1:=qh1.sp hq
  replace hC:=hC.sp hq
  replace hm:=hm.fr hq (by simp;exact hm.ne_blk hb3)
  clear hb3 hq hz;have hb3:Blk w10 g_3 _ [_,_,_,_]:=hbn;clear hbn
  refine z0b ?_
  refine z0d 9 rfl ?_
  refine z0q h rfl λa h=>?_
  refine z0b ?_
  refine z0r ?_
  clear hC hb1_b
  refine bk (h.sub (L':=[(1,_),(3,_),(4,_)]) (.c3 rfl rfl rfl)) ?_
  exact jE (g_3) (.c3 rfl rfl rfl) ⟨qh1,⟨by omega,hb3⟩⟩
 rintro g3 w11 ⟨q11,⟨hg3,hb3⟩⟩
 have lt_hb3:=hb3.lt
 refine kpC [(1,_),(3,_),(4,_)] (.c3 rfl rfl rfl) ?_
 obtain ⟨f,hf⟩:∃f,(z6q o.k).getD f40=f:=⟨_,rfl⟩
 rw [hf] at hb3
 have hps:y5p o↔(z6q o.k).isSome=true/\x6y f o:=by rw [<-hf];rfl
 replace hb3:Blk w11 g3 _ [.bool f.1,.bool f.2.1,.bool f.2.2.1,.bool f.2.2.2]:=hb3
 refine sq (sr (mv rfl (nt' rfl (nn (cd rfl (λc0=>?_) (λc0=>?_))))))
 ·refine sr (asg rfl (nn (rt (tr (r1 results57 rfl ?_)))))
  exact ⟨_,rfl,congrArg Value.bool (decide_eq_false (λh=>by simp [(hps.1 h).1] at c0)).symm,(q1.n1 q11)⟩
 refine sk (tn (sq (sq ?_)))
 refine rbo (r:=35) (L':=[(1,_),(3,_)]) ((((f.1=true/\(o.d≠0))/\(o.d≠1))\/((¬f.1=true)/\(o.d≠0)))) (.c2 rfl rfl) ?_ ?_
 ·refine fad rfl y8s (z0i rfl hb3 rfl na4 (mv rfl (gs 16 rfl (λg0=>?_) (λg0=>?_))))
  ·refine gY rfl (fad rfl z8a (gY rfl ?_))
   replace hb1:=hb1.ext q11
   refine z0i rfl hb1 rfl y7e (gY rfl (ne' rfl rfl (pkt rfl rfl (mv rfl (gs 21 rfl (λg1=>?_) (λg1=>?_))))))
   ·refine gY rfl (fad rfl z8a (gY rfl (z0i rfl hb1 rfl y7e (gY rfl (ne' rfl rfl (pkt rfl rfl (mv rfl (gs 26 rfl (λg2=>?_) (λg2=>?_)))))))))
    ·exact gN rfl rfl (gN rfl rfl (gN rfl rfl (gN rfl rfl (gS rfl rfl (gS rfl rfl (gS rfl rfl (gN rfl rfl (pkt rfl rfl (rbe rfl (.c2 rfl rfl))))))))))
    refine gY rfl (fad rfl y8s (gY rfl (z0i rfl hb3 rfl na4 (gY rfl (nt' rfl (gY rfl (mv rfl (gs 30 rfl (λg3=>?_) (λg3=>?_)))))))))
    ·exact gY rfl (fad rfl z8a (gY rfl (z0i rfl hb1 rfl y7e (gY rfl (ne' rfl rfl (gY rfl (pkt rfl rfl (pkf rfl rfl (rbe rfl (.c2 rfl rfl))))))))))
    exact gN rfl rfl (gN rfl rfl (gN rfl rfl (gY rfl (pkf rfl rfl (pkf rfl rfl (rbe rfl (.c2 rfl rfl)))))))
   refine gN rfl rfl (gN rfl rfl (gN rfl rfl (pkf rfl rfl (mv rfl (gY rfl (fad rfl y8s (gY rfl (z0i rfl hb3 rfl na4 (gY rfl (nt' rfl (gY rfl (mv rfl (gs 30 rfl (λg4=>?_) (λg4=>?_))))))))))))))
   ·exact gY rfl (fad rfl z8a (gY rfl (z0i rfl hb1 rfl y7e (gY rfl (ne' rfl rfl (gY rfl (pkt rfl rfl (pkf rfl rfl (rbe rfl (.c2 rfl rfl))))))))))
   exact gN rfl rfl (gN rfl rfl (gN rfl rfl (gY rfl (pkf rfl rfl (pkf rfl rfl (rbe rfl (.c2 rfl rfl)))))))
  refine gN rfl rfl (gN rfl rfl (gN rfl rfl (pkf rfl rfl (mv rfl (gN rfl rfl (gN rfl rfl (gN rfl rfl (pkf rfl rfl (mv rfl (gY rfl (fad rfl y8s (gY rfl (z0i rfl hb3 rfl na4 (gY rfl (nt' rfl (gY rfl (mv rfl (gs 30 rfl (λg5=>?_) (λg5=>?_)))))))))))))))))))
  ·refine gY rfl (fad rfl z8a (gY rfl ?_))
   replace hb1:=hb1.ext q11
   exact z0i rfl hb1 rfl y7e (gY rfl (ne' rfl rfl (gY rfl (pkt rfl rfl (pkf rfl rfl (rbe rfl (.c2 rfl rfl)))))))
  exact gN rfl rfl (gN rfl rfl (gN rfl rfl (gY rfl (pkf rfl rfl (pkf rfl rfl (rbe rfl (.c2 rfl rfl)))))))
 refine tn (cd rfl (λc1=>?_) (λc1=>?_))
 ·refine sr (asg rfl (nn (rt (tr (r1 results57 rfl ?_)))))
  exact ⟨_,rfl,congrArg Value.bool (decide_eq_false (λh=>(hps.1 h).2.1 c1)).symm,(q1.n1 q11)⟩
 refine sk (tn (sq (sq ?_)))
 refine x8z (r:=54) (L':=[(1,_),(3,_)]) (((f.2.1=true/\((z3d o.b o.p)≠0))\/((¬f.2.1=true)/\(¬(o.b=0/\o.p=0))))) (.c2 rfl rfl) ?_ ?_
 ·refine fad rfl x4a (z0i rfl hb3 rfl na4 (mv rfl (gs 38 rfl (λg6=>?_) (λg6=>?_))))
  ·refine gY rfl (fad rfl z4e (gY rfl ?_))
   replace hb1:=hb1.ext q11
   refine z1y (vs:=[_,_]) rfl hb1 z4v rfl (gY rfl (cl (ev1 rfl) v9e (z4k _ _ _) rfl ?_))
   rintro _ w12 ⟨rfl,q12⟩
   refine gY rfl (ne' rfl rfl (pkt rfl rfl (mv rfl (gs 44 rfl (λg7=>?_) (λg7=>?_)))))
   ·exact gN rfl rfl (gN rfl rfl (gN rfl rfl (gN rfl rfl (gS rfl rfl (gS rfl rfl (gS rfl rfl (gS rfl rfl (gN rfl rfl (pkt rfl rfl (y0k rfl (.c2 rfl rfl) q12))))))))))
   refine gY rfl (fad rfl x4a (gY rfl ?_))
   replace hb3:=hb3.ext q12
   refine z0i rfl hb3 rfl na4 (gY rfl (nt' rfl (gY rfl (mv rfl (gs 48 rfl (λg8=>?_) (λg8=>?_))))))
   ·refine gY rfl (fad rfl z4e (gY rfl ?_))
    replace hb1:=hb1.ext q12
    exact z1y (vs:=[_,_]) rfl hb1 z4v rfl (gY rfl (z1r (cs:=[_,_]) z0g y9u z0s rfl (gY rfl (v8c (V:=ndV) (e:=(_,_)) (f:=(_,_)) rfl rfl j4u rfl (gY rfl (pkt rfl rfl (pkf rfl rfl (y0k rfl (.c2 rfl rfl) q12))))))))
   exact gN rfl rfl (gN rfl rfl (gN rfl rfl (gN rfl rfl (gY rfl (pkf rfl rfl (pkf rfl rfl (y0k rfl (.c2 rfl rfl) q12)))))))
  refine gN rfl rfl (gN rfl rfl (gN rfl rfl (gN rfl rfl (pkf rfl rfl (mv rfl (gY rfl (fad rfl x4a (gY rfl (z0i rfl hb3 rfl na4 (gY rfl (nt' rfl (gY rfl (mv rfl (gs 48 rfl (λg9=>?_) (λg9=>?_)))))))))))))))
  ·refine gY rfl (fad rfl z4e (gY rfl ?_))
   replace hb1:=hb1.ext q11
   exact z1y (vs:=[_,_]) rfl hb1 z4v rfl (gY rfl (z1r (cs:=[_,_]) z0g y9u z0s rfl (gY rfl (v8c (V:=ndV) (e:=(_,_)) (f:=(_,_)) rfl rfl j4u rfl (gY rfl (pkt rfl rfl (pkf rfl rfl (y0k rfl (.c2 rfl rfl) (Fr.refl _ _)))))))))
  exact gN rfl rfl (gN rfl rfl (gN rfl rfl (gN rfl rfl (gY rfl (pkf rfl rfl (pkf rfl rfl (y0k rfl (.c2 rfl rfl) (Fr.refl _ _))))))))
 intro w13 q13;have z13:=q13.size
 refine tn (cd rfl (λc2=>?_) (λc2=>?_))
 ·refine sr (asg rfl (nn (rt (tr (r1 results57 rfl ?_)))))
  exact ⟨_,rfl,congrArg Value.bool (decide_eq_false (λh=>(hps.1 h).2.2.1 c2)).symm,(q1.n2 q11 q13)⟩
 refine sk (tn (sq (sq ?_)))
 refine rbo (r:=76) (L':=[(1,_),(3,_)]) (((f.2.2.1=true/\((o.y<1)\/(6<o.y)))\/((¬f.2.2.1=true)/\(o.y≠0)))) (.c2 rfl rfl) ?_ ?_
 ·refine fad rfl x3n ?_
  replace hb3:=hb3.ext q13
  refine z0i rfl hb3 rfl na4 (mv rfl (gs 57 rfl (λg10=>?_) (λg10=>?_)))
  ·refine gY rfl (fad rfl z3i (gY rfl ?_))
   replace hb1:=hb1.ext (q11.n1 q13)
   refine z0i rfl hb1 rfl na5 (gY rfl (lt' rfl rfl (gY rfl (mv rfl (gs 61 rfl (λg11=>?_) (λg11=>?_))))))
   ·refine gN rfl rfl (gN rfl rfl (gN rfl rfl (gY rfl (pkt rfl rfl (pkt rfl rfl (mv rfl (gN rfl rfl (gN rfl rfl (gN rfl rfl (gN rfl rfl (gS rfl rfl ?_)))))))))))
    exact gS rfl rfl (gS rfl rfl (gN rfl rfl (pkt rfl rfl (rbe rfl (.c2 rfl rfl)))))
   refine gY rfl (fad rfl z3i (gY rfl (z0i rfl hb1 rfl na5 (gY rfl (gt' rfl rfl (gY rfl (pkf rfl rfl (pkt rfl rfl (mv rfl (gs 67 rfl (λg12=>?_) (λg12=>?_)))))))))))
   ·exact gN rfl rfl (gN rfl rfl (gN rfl rfl (gN rfl rfl (gS rfl rfl (gS rfl rfl (gS rfl rfl (gN rfl rfl (pkt rfl rfl (rbe rfl (.c2 rfl rfl))))))))))
   refine gY rfl (fad rfl x3n (gY rfl (z0i rfl hb3 rfl na4 (gY rfl (nt' rfl (gY rfl (mv rfl (gs 71 rfl (λg13=>?_) (λg13=>?_)))))))))
   ·exact gY rfl (fad rfl z3i (gY rfl (z0i rfl hb1 rfl na5 (gY rfl (ne' rfl rfl (gY rfl (pkt rfl rfl (pkf rfl rfl (rbe rfl (.c2 rfl rfl))))))))))
   exact gN rfl rfl (gN rfl rfl (gN rfl rfl (gY rfl (pkf rfl rfl (pkf rfl rfl (rbe rfl (.c2 rfl rfl)))))))
  refine gN rfl rfl (gN rfl rfl (gN rfl rfl (gN rfl rfl (gS rfl rfl (gS rfl rfl (gS rfl rfl (gN rfl rfl (pkf rfl rfl (mv rfl (gY rfl (fad rfl x3n (gY rfl (z0i rfl hb3 rfl na4 (gY rfl (nt' rfl (gY rfl (mv rfl (gs 71 rfl (λg14=>?_) (λg14=>?_)))))))))))))))))))
  ·refine gY rfl (fad rfl z3i (gY rfl ?_))
   replace hb1:=hb1.ext (q11.n1 q13)
   exact z0i rfl hb1 rfl na5 (gY rfl (ne' rfl rfl (gY rfl (pkt rfl rfl (pkf rfl rfl (rbe rfl (.c2 rfl rfl)))))))
  exact gN rfl rfl (gN rfl rfl (gN rfl rfl (gY rfl (pkf rfl rfl (pkf rfl rfl (rbe rfl (.c2 rfl rfl)))))))
 refine tn (cd rfl (λc3=>?_) (λc3=>?_))
 ·refine sr (asg rfl (nn (rt (tr (r1 results57 rfl ?_)))))
  exact ⟨_,rfl,congrArg Value.bool (decide_eq_false (λh=>(hps.1 h).2.2.2.1 c3)).symm,(q1.n2 q11 q13)⟩
 refine sk (tn (sq ?_))
 refine rbo (r:=2) (L':=[]) ((f.2.2.2=true\/(o.r=0))) .nil ?_ ?_
 ·refine fad rfl u7q ?_
  replace hb3:=hb3.ext q13
  refine z0i rfl hb3 rfl na4 (mv rfl (gs 79 rfl (λg15=>?_) (λg15=>?_)))
  ·exact gN rfl rfl (gN rfl rfl (gN rfl rfl (pkt rfl rfl (asg rfl (rbe rfl .nil)))))
  refine gY rfl (fad rfl y3e (gY rfl ?_))
  replace hb1:=hb1.ext (q11.n1 q13)
  exact z0i rfl hb1 rfl na3 (gY rfl (eq' rfl rfl (pkf rfl rfl (asg rfl (rbe rfl .nil)))))
 refine tn (rt (r1 results57 rfl ?_))
 exact ⟨_,rfl,congrArg Value.bool (decide_eq_decide.2 ⟨λh=>hps.2 ⟨by revert c0;cases (z6q o.k).isSome<;>simp,c1,c2,c3,h⟩,λh=>(hps.1 h).2.2.2.2⟩),(q1.n2 q11 q13)⟩
theorem y6x (o:MOp) (w0:World):Rets prog 21 #[opV o] w0 λv w'=>v=.int .i64 (y9j o)/\Fr [] w0 w':=by
 refine we [(0,opV o)] func21 rfl ntmps21 rfl (.cons rfl .nil) (sr (bx rfl rfl rfl (λg1 w1 hg1 hb1 q1 z1=>(asg rfl (nn (sq (sr (z0n rfl hb1 z9j (cl (ev1 rfl) (mkC func57) (v6y o _) rfl ?_)))))))))
 rintro _ w2 ⟨rfl,q2⟩
 refine nt' rfl (nn (cd rfl (λc0=>?_) (λc0=>?_)))
 ·refine sr (asg rfl (nn (rt (tr (r1 results21 rfl ?_)))))
  exact ⟨_,rfl,by rw [y9j,if_pos c0],(q1.n1 q2)⟩
 refine sk (tn (sq (sq ?_)))
 refine rbo (r:=13) (L':=[]) (((o.r < -4)\/(4<o.r))) .nil ?_ ?_
 ·refine fad rfl y3e ?_
  replace hb1:=hb1.ext q2
  refine z0i rfl hb1 rfl na3 (lt' rfl rfl (mv rfl (gs 9 rfl (λg0=>?_) (λg0=>?_))))
  ·exact gN rfl rfl (gN rfl rfl (gN rfl rfl (pkt rfl rfl (rbe rfl .nil))))
  exact gY rfl (fad rfl y3e (gY rfl (z0i rfl hb1 rfl na3 (gY rfl (gt' rfl rfl (pkf rfl rfl (rbe rfl .nil)))))))
 refine tn (cd rfl (λc1=>?_) (λc1=>?_))
 ·refine sr (asg rfl (nn (rt (tr (r1 results21 rfl ?_)))))
  exact ⟨_,rfl,by rw [y9j,if_neg c0,if_pos c1],(q1.n1 q2)⟩
 refine sk (tn (sr (asg rfl (nn (rt (r1 results21 rfl ?_))))))
 exact ⟨_,rfl,by rw [y9j,if_neg c0,if_neg c1],(q1.n1 q2)⟩
end Go.Proofs.YtpgdchkdlgkmgaaGreatDoor
namespace Go.Proofs.YtpgdchkdlgkmgaaGreatDoor
open Go.Lw Go.G21 Go.G08 _root_.Go.Proofs.Tryz
theorem z3g:z3p prog 87 2:=⟨λ_=>by kernel_rfl,λ_=>by kernel_rfl⟩
theorem z6w:z3p prog 100 4:=⟨λ_=>by kernel_rfl,λ_=>by kernel_rfl⟩
theorem z7e:z0z prog 87 0 0:=λ_ _=>by kernel_rfl
theorem z8j:z0z prog 87 1 1:=λ_ _=>by kernel_rfl
theorem y8n:z0z prog 100 0 0:=λ_ _=>by kernel_rfl
theorem z6x:z0z prog 100 2 3:=λ_ _=>by kernel_rfl
theorem j4b:z1q prog 26 1:=λ_=>by kernel_rfl
def idV (i:LId):Value:=.agg (idL i).toArray
def paV (p:Pa):Value:=.agg (paL p).toArray
theorem eqId:x9o prog 87 idV:=by
 intro e f ox oy w
 have hg:∀op,(eqGuard op 87 ox oy (idV e) (idV f)).run prog w=.ok () w:=λop=>run_eqGuard_agg w op 87 ox oy _ _ (by kernel_rfl)
 have h1:prog.stoodInHeld 87=false:=by kernel_rfl
 obtain ⟨y,n⟩:=e
 obtain ⟨y',n'⟩:=f
 refine ⟨hg _,hg _,?_,?_⟩
 ·unfold idV
  simp [go_sem,h1,underlying87]
  (repeat' split)<;>simp_all
 unfold idV
 simp [go_sem,h1,underlying87]
 (repeat' split)<;>simp_all
theorem eqPa:x9o prog 100 paV:=by
 intro e f ox oy w
 have hg:∀op,(eqGuard op 100 ox oy (paV e) (paV f)).run prog w=.ok () w:=λop=>run_eqGuard_agg w op 100 ox oy _ _ (by kernel_rfl)
 have h1:prog.stoodInHeld 100=false:=by kernel_rfl
 obtain ⟨⟨y,n⟩,b,d⟩:=e
 obtain ⟨⟨y',n'⟩,b',d'⟩:=f
 refine ⟨hg _,hg _,?_,?_⟩
 ·unfold paV
  simp [go_sem,h1,underlying100]
  (repeat' split)<;>simp_all
 unfold paV
 simp [go_sem,h1,underlying100]
 (repeat' split)<;>simp_all
theorem y8z (i:LId) (w0:World):Rets prog 94 #[.agg #[.int .u8 i.y,.int .i64 i.n]] w0 λr w'=>r=.bool (decide (y1z i))/\Fr [] w0 w':=by
 refine we [(0,.agg #[.int .u8 i.y,.int .i64 i.n])] func94 rfl ntmps94 rfl (.cons rfl .nil) (sr (bx rfl rfl rfl (λg1 w1 hg1 hb1 q1 z1=>(asg rfl (nn (sq ?_))))))
 refine rbo (r:=2) (L':=[]) (((((1<=i.y)/\(i.y<=6))/\(0<=i.n))/\(i.n<2048))) .nil ?_ ?_
 ·refine fad rfl z7e (z0i rfl hb1 rfl na5 (ge' rfl rfl (mv rfl (gs 6 rfl (λg0=>?_) (λg0=>?_)))))
  ·refine gY rfl (fad rfl z7e (gY rfl (z0i rfl hb1 rfl na5 (gY rfl (le' rfl rfl rfl (pkt rfl rfl (mv rfl (gs 11 rfl (λg1=>?_) (λg1=>?_)))))))))
   ·refine gY rfl (fad rfl z8j (gY rfl (z0i rfl hb1 rfl na3 (gY rfl (ge' rfl rfl (pkt rfl rfl (mv rfl (gs 16 rfl (λg2=>?_) (λg2=>?_)))))))))
    ·exact gY rfl (fad rfl z8j (gY rfl (z0i rfl hb1 rfl na3 (gY rfl (lt' rfl rfl (pkt rfl rfl (asg rfl (rbe rfl .nil))))))))
    exact gN rfl rfl (gN rfl rfl (gN rfl rfl (pkf rfl rfl (asg rfl (rbe rfl .nil)))))
   exact gN rfl rfl (gN rfl rfl (gN rfl rfl (pkf rfl rfl (mv rfl (gN rfl rfl (gN rfl rfl (gN rfl rfl (pkf rfl rfl (asg rfl (rbe rfl .nil))))))))))
  refine gN rfl rfl (gN rfl rfl (gN rfl rfl (pkf rfl rfl (mv rfl (gN rfl rfl (gN rfl rfl (gN rfl rfl (pkf rfl rfl (mv rfl (gN rfl rfl (gN rfl rfl ?_)))))))))))
  exact gN rfl rfl (pkf rfl rfl (asg rfl (rbe rfl .nil)))
 refine tn (rt (r1 results94 rfl ?_))
 exact ⟨_,rfl,congrArg Value.bool (decide_eq_decide.2 (by unfold y1z;omega)),q1⟩
theorem y2x (d:Int) (w0:World):Rets prog 136 #[.int .u8 d] w0 λr w'=>r=.bool (decide (z5q d))/\Fr [] w0 w':=by
 refine we [(0,.int .u8 d)] func136 rfl ntmps136 rfl (.cons rfl .nil) (sr (asg rfl (nn (sq ?_))))
 refine rbo (r:=2) (L':=[]) (((d=0)\/(d=1))) .nil ?_ ?_
 ·refine mv rfl (eq' rfl rfl (mv rfl (gs 5 rfl (λg0=>?_) (λg0=>?_))))
  ·exact gN rfl rfl (gN rfl rfl (pkt rfl rfl (asg rfl (rbe rfl .nil))))
  exact gY rfl (mv rfl (gY rfl (eq' rfl rfl (pkf rfl rfl (asg rfl (rbe rfl .nil))))))
 refine tn (rt (r1 results136 rfl ?_))
 exact ⟨_,rfl,congrArg Value.bool (decide_eq_decide.2 (by unfold z5q;omega)),(Fr.refl _ _)⟩
theorem x6l (p:Pa) (w0:World):Rets prog 97 #[.agg #[.int .u8 p.id.y,.int .i64 p.id.n,.bool p.f,.int .u8 p.d]] w0 λr w'=>r=.bool (decide (y0f p))/\Fr [] w0 w':=by
 refine we [(0,.agg #[.int .u8 p.id.y,.int .i64 p.id.n,.bool p.f,.int .u8 p.d])] func97 rfl ntmps97 rfl (.cons rfl .nil) (sr (bx rfl rfl rfl (λg1 w1 hg1 hb1 q1 z1=>(asg rfl (nn (sq ?_))))))
 refine x8z (r:=2) (L':=[]) (((y1z ⟨p.id.y,p.id.n⟩)/\(z5q p.d))) .nil ?_ ?_
 ·refine fad rfl y8n (z1y (vs:=[_,_]) rfl hb1 z3g rfl (cl (ev1 rfl) (mkC func94) (y8z ⟨_,_⟩ _) rfl ?_))
  rintro _ w2 ⟨rfl,q2⟩
  refine mv rfl (gs 6 rfl (λg0=>?_) (λg0=>?_))
  ·refine gY rfl (fad rfl z6x (gY rfl ?_))
   replace hb1:=hb1.ext q2
   refine z0i rfl hb1 rfl y7e (gY rfl (cl (ev1 rfl) (mkC func136) (y2x _ _) rfl ?_))
   rintro _ w3 ⟨rfl,q3⟩
   exact pkt rfl rfl (asg rfl (y0k rfl .nil (q2.n1 q3)))
  exact gN rfl rfl (gN rfl rfl (gN rfl rfl (pkf rfl rfl (asg rfl (y0k rfl .nil q2)))))
 intro w4 q4;have z4:=q4.size
 refine tn (rt (r1 results97 rfl ?_))
 exact ⟨_,rfl,congrArg Value.bool (decide_eq_decide.2 (by rfl)),(q1.n1 q4)⟩
theorem y6p (x:Int) (w0:World):Rets prog 96 #[.int .i64 x] w0 λr w'=>r=.bool (decide (x3r x))/\Fr [] w0 w':=by
 refine we [(0,.int .i64 x)] func96 rfl ntmps96 rfl (.cons rfl .nil) (sr (asg rfl (nn (sq ?_))))
 refine rbo (r:=2) (L':=[]) (((((Int.tmod x 2)≠0)/\(-13<=x))/\(x<=179))) .nil ?_ ?_
 ·refine mv rfl (x8w rfl rfl (by first|exact IntWalk.rem_in _ _ (by omega)|rfl) (ne' rfl rfl (mv rfl ?_)))
  refine gs 6 rfl (λg0=>?_) (λg0=>?_)
  ·refine gY rfl (mv rfl (gY rfl (ge' rfl rfl (pkt rfl rfl (mv rfl (gs 10 rfl (λg1=>?_) (λg1=>?_)))))))
   ·exact gY rfl (mv rfl (gY rfl (le' rfl rfl rfl (pkt rfl rfl (asg rfl (rbe rfl .nil))))))
   exact gN rfl rfl (gN rfl rfl (pkf rfl rfl (asg rfl (rbe rfl .nil))))
  exact gN rfl rfl (gN rfl rfl (pkf rfl rfl (mv rfl (gN rfl rfl (gN rfl rfl (pkf rfl rfl (asg rfl (rbe rfl .nil))))))))
 refine tn (rt (r1 results96 rfl ?_))
 exact ⟨_,rfl,congrArg Value.bool (decide_eq_decide.2 (by unfold x3r;exact and_assoc)),(Fr.refl _ _)⟩
theorem x1p (p q:Pa) (w0:World):Rets prog 98 #[.agg #[.int .u8 p.id.y,.int .i64 p.id.n,.bool p.f,.int .u8 p.d],.agg #[.int .u8 q.id.y,.int .i64 q.id.n,.bool q.f,.int .u8 q.d]] w0 λr w'=>r=.bool (decide (u0u p q))/\Fr [] w0 w':=by
 refine we [(0,.agg #[.int .u8 p.id.y,.int .i64 p.id.n,.bool p.f,.int .u8 p.d]),(1,.agg #[.int .u8 q.id.y,.int .i64 q.id.n,.bool q.f,.int .u8 q.d])] func98 rfl ntmps98 rfl (.c2 rfl rfl) (sr (bx rfl rfl rfl (λg2 w1 hg2 hb2 q1 z1=>(bx rfl rfl rfl (λg3 w2 hg3 hb3 q2 z2=>(asg rfl (nn (sq (sq ?_)))))))))
 refine x8z (r:=21) (L':=[(2,_),(3,_)]) ((((¬(z5q p.d))\/(¬(z5q q.d)))\/(p.d=q.d))) (.c2 rfl rfl) ?_ ?_
 ·refine fad rfl z6x ?_
  replace hb2:=hb2.ext q2
  refine z0i rfl hb2 rfl y7e (cl (ev1 rfl) (mkC func136) (y2x _ _) rfl ?_)
  rintro _ w3 ⟨rfl,q3⟩
  refine nt' rfl (mv rfl (gs 9 rfl (λg0=>?_) (λg0=>?_)))
  ·refine gN rfl rfl (gN rfl rfl (gN rfl rfl (gN rfl rfl (pkt rfl rfl (mv rfl (gN rfl rfl (gN rfl rfl (gN rfl rfl (gN rfl rfl (gN rfl rfl (pkt rfl rfl ?_)))))))))))
   exact y0k rfl (.c2 rfl rfl) q3
  refine gY rfl (fad rfl z6x (gY rfl ?_))
  replace hb3:=hb3.ext q3
  refine z0i rfl hb3 rfl y7e (gY rfl (cl (ev1 rfl) (mkC func136) (y2x _ _) rfl ?_))
  rintro _ w4 ⟨rfl,q4⟩
  refine gY rfl (nt' rfl (pkf rfl rfl (mv rfl (gs 15 rfl (λg1=>?_) (λg1=>?_)))))
  ·exact gN rfl rfl (gN rfl rfl (gN rfl rfl (gN rfl rfl (gN rfl rfl (pkt rfl rfl (y0k rfl (.c2 rfl rfl) (q3.n1 q4)))))))
  refine gY rfl (fad rfl z6x (gY rfl ?_))
  replace hb2:=hb2.ext (q3.n1 q4)
  refine z0i rfl hb2 rfl y7e (gY rfl (fad rfl z6x (gY rfl ?_)))
  replace hb3:=hb3.ext q4
  exact z0i rfl hb3 rfl y7e (gY rfl (eq' rfl rfl (pkf rfl rfl (y0k rfl (.c2 rfl rfl) (q3.n1 q4)))))
 intro w5 q5;have z5:=q5.size
 refine tn (cd rfl (λc0=>?_) (λc0=>?_))
 ·refine sr (asg rfl (nn (rt (tr (r1 results98 rfl ?_)))))
  exact ⟨_,rfl,congrArg Value.bool (decide_eq_false (u7g c0)).symm,(q1.n2 q2 q5)⟩
 refine sk (tn (sr (fad rfl z6x ?_)))
 replace hb2:=hb2.ext (q2.n1 q5)
 refine z0i rfl hb2 rfl y7e (fad rfl z6x ?_)
 replace hb3:=hb3.ext q5
 refine z3u rfl rfl hb3 rfl j4b (λw6 hb3 q6 z6=>?_)
 replace hb3:Blk w6 g3 _ [_,_,_,_]:=hb3
 refine nn (sr ?_)
 replace hb2:=hb2.fr q6
 refine z0n rfl hb2 z6w (z0n rfl hb3 z6w (j3h (V:=paV) (e:=p) (f:=(⟨q.id,q.f,p.d⟩:Pa)) rfl rfl eqPa rfl (asg rfl (nn (rt (r1 results98 rfl ?_))))))
 exact ⟨_,rfl,congrArg Value.bool (decide_eq_decide.2 (u3f c0)),(q1.z3 q2 q5 q6)⟩
theorem z9c:ElemOf prog 54 100 z1t 24:=ElemOf.mk' (z:=(.agg #[.int .u8 0,.int .i64 0,.bool false,.int .u8 0])) underlying54 (by kernel_rfl) rfl
theorem y5e (w:World):(zeroValue 100).run prog w=.ok (.agg #[(.int .u8 0),(.int .i64 0),(.bool false),(.int .u8 0)]) w:=by kernel_rfl
theorem z8x (v:Value) (l:List Pa) (w0:World) (hs:Sl z1t w0 v l) (hl:l.length<=100000):Rets prog 199 #[v] w0 λr w'=>∃A,r=.slice A l.length l.length/\Lw.Own z1t 100 w0.heap.size w' r l/\Fr [] w0 w':=by
 obtain ⟨A,c,rfl,hcc,hM,hA⟩:=id hs
 clear hA
 unfold maxLen at hM
 refine we [(0,.slice A l.length c)] func199 rfl ntmps199 rfl (.cons rfl .nil) ?_
 have hs0:=hs
 refine sr (asg rfl (nn (sr (mv rfl (lnS rfl underlying54 (z1e (m:=l.length) (c:=l.length) (pa0) rfl rfl z9c y5e rfl (λg6 w1 hg6 ho q1 z1=>(asg rfl (nn (sr (mv rfl (mv rfl ?_))))))))))))
 replace hs:=hs0.ext q1
 refine z6z (zs:=List.replicate l.length pa0) (by rw [List.length_replicate];rfl) rfl (by rw [List.length_replicate];exact ho) hs (by rw [List.length_replicate]) z9c (λw2 ho q2 z2=>?_)
 rw [List.length_replicate] at ho
 refine nn (sr (mv rfl (asg rfl (nn (rt (r1 results199 rfl ?_))))))
 exact ⟨_,rfl,some ⟨g6,0,none⟩,rfl,ho.low (by omega),(q1.z1 q2)⟩
theorem y7g:z1q prog 100 4:=λ_=>by kernel_rfl
set_option maxHeartbeats 1000000 in
theorem v2e (base:Nat) (u v:Value) (st l:List Pa) (w0:World) (ho:Lw.Own z1t 100 base w0 u st) (hs:Sl z1t w0 v l) (hd:∀k∈z0v v,k<base) (hb:base<=w0.heap.size) (hn:st.length+l.length<=100000):Rets prog 198 #[u,v] w0 λr w'=>∃S,Lw.Own z1t 100 base w' r (z4n st l)/\(∀k∈S,base<=k)/\Fr S w0 w':=by
 obtain ⟨A,c,rfl,hcc,hM,hA⟩:=id hs
 clear hA
 unfold maxLen at hM
 refine we [(0,u),(1,.slice A l.length c)] func198 rfl ntmps198 rfl (.c2 rfl rfl) ?_
 have hs0:=hs
 refine sr (asg rfl (nn (sq (sr (mv rfl (lnS rfl underlying54 (mv rfl (nn (bl ?_)))))))))
 refine lpK (ι:=Nat×Value) [(8,_),(9,_)] (λp=>[(10,.int .i64 (p.1:Int)),(0,p.2)]) (λp w'=>p.1<=l.length/\Lw.Own z1t 100 base w' p.2 (z4n st (l.take p.1))/\base<=w'.heap.size/\(∃S,(∀k∈S,base<=k)/\Fr S w0 w')) (λp=>l.length-p.1) (0,u) (.c4 rfl rfl rfl rfl) ⟨Nat.zero_le _,ho,hb,[],(by simp),Fr.refl _ _⟩ ?_
 rintro ⟨i,vT⟩ w1 ⟨hi,ho,hb,⟨S,hS,qS⟩⟩
 simp only at hi ho
 refine kpC [(8,_),(9,_),(10,.int .i64 (i:Int)),(0,vT)] (.c4 rfl rfl rfl rfl) ?_
 have hs:=hs0.fr qS (λk hk hk2=>by have:=hS k hk;have:=hd k hk2;omega)
 have hpl:=y0l (l.take i) st
 rw [List.length_take] at hpl
 obtain ⟨ps,hps⟩:∃x,x=z4n st (l.take i):=⟨_,rfl⟩
 rw [<-hps] at ho hpl
 obtain ⟨AT,cT,rfl,hcT⟩:=ho.sl.form
 have hoB:=ho
 have hcM:=ho.sl.len_le
 unfold maxLen at hcM
 refine sr (lt' rfl rfl (nn (sq (cd rfl (λc0=>?_) (λc0=>?_)))))
 ·refine sk (tn (sq (bl (sr (z1a (pa0) rfl hs rfl z9c z1f (λad12 hc12=>?_))))))
  refine z1j rfl (hc12 _ hs) z6w (al y5e rfl rfl (λg6 w2 hg6 hb6 q2 z2=>?_))
  refine z0j (vs:=[_,_,_,_]) rfl rfl hb6 y7g (λw3 hb6 q3 z3=>?_) (h1:=(by first|(simp [Value.oneCell',S];done)|exact z1t.one (l.getD i pa0)))
  refine nn (sr (mv rfl (lnS rfl underlying54 (asg rfl (nn (sq ?_))))))
  replace ho:=(ho.ext q2).fr q3 (by first|exact z9e ho (by omega)|simp[z0v]<;>omega)
  intro a h
  refine z0h none (λwb w'=>Fr [] wb w') z2r ?_;intro w4 q4
  have z4:=q4.size
  replace ho:=ho.ext q4
  replace hb6:=hb6.ext q4
  have hC:Fr [] w4 w4:=Fr.refl _ _
  have ho_b:=ho
  have hb6_b:=hb6
  refine z0e 0 h rfl rfl λa h=>v0a 1 hC h wn rfl rfl rfl rfl λa h=>z0e 2 h rfl rfl λa h=>?_
  refine gSp (D:=18) h rfl ?_ ?_
  ·clear h;intro g0 h
   refine z0e 3 h rfl rfl ?_ (hG:=(wy rfl));clear h a;intro a h
   refine z0e 4 h rfl rfl ?_ (hG:=(wy rfl));clear h a;intro a h
   refine z2y 5 h (wy rfl) rfl rfl (by first|exact i6 (by omega)|rfl) rfl λa h=>z1k (p:=(ps.length-1)) (pa0) 6 h rfl ho.sl rfl z9c rfl ?_ (hG:=(wy rfl));clear h a;intro ad22 hc22 a h
   refine z2l 7 h (wy rfl) rfl (λ_ hw=>hc22 _ (ho_b.sl.ext hw)) z6w rfl λa h=>z0t 8 h rfl (λ_ hw=>hb6_b.ext hw) z6w rfl ?_ (hG:=(wy rfl));clear h a;intro a h
   refine z0d 9 rfl ?_
   refine y3n h rfl rfl rfl rfl rfl rfl ?_
   refine z0m h (z0a rfl (z0a rfl z0g)) (mkC func98) (x1p (ps.getD (ps.length-1) pa0) (l.getD i pa0) _) ?_;rintro _ w5 ⟨rfl,q5⟩ a h
   have z5:=q5.size
   replace ho:=ho.ext q5
   replace hb6:=hb6.ext q5
   replace hC:=hC.next q5
   refine z0b ?_
   refine z0d 10 rfl ?_
   refine z5j h rfl rfl rfl rfl λa h=>?_
   refine z0b ?_
   refine z0r ?_
   clear hC ho_b hb6_b
   refine bk (h.sub (L':=[(0,_),(6,_),(7,_),(8,_),(9,_),(10,_),(26,_)]) (.c7 rfl rfl rfl rfl rfl rfl rfl)) (tn (cd rfl (λc1=>?_) (λc1=>?_)))
   ·refine rg (mv rfl (mv rfl (z2u rfl rfl (wi6 (by omega)) (mv rfl (u9t rfl underlying54 rfl (u4s (p:=(ps.length-1)) (p':=cT) rfl rfl rfl z9c (by omega) (by omega) (by omega) (by omega) (by omega) rfl (asg rfl (kpL [(0,_),(8,_),(9,_),(10,_)] (.c4 rfl rfl rfl rfl) (nl (bn' (tn (rg (z0y rfl rfl (wi6 (by omega)) (mv rfl (nl ?_)))))))))))))))
    exact lpE ((i+1,_)) (.c4 rfl rfl rfl rfl) ⟨by simp only;omega,by rw [y1o st l i (by omega),<-hps,z9t,if_pos ⟨by omega,c1⟩];exact ho.take rfl (by omega) (by omega) (by omega),by omega,S++z0v (.slice AT ps.length cT),(λk hk=>(List.mem_append.1 hk).elim (hS k) (λhk=>(hoB.blk k hk).1)),qS.trans ((Fr.refl (z0v (.slice AT ps.length cT)) _).z4 q2 q3 q4 q5)⟩ (by simp only;omega)
   refine rg (mv rfl (z0n rfl hb6 z6w (z2f ([l.getD i pa0]) (ev1 rfl) rfl rfl rfl z9c (λg35 w6 hg35 ho35 q6 z6=>?_))))
   replace ho:=ho.ext q6
   have hoo36:=ho
   refine z1x rfl rfl ho ho35.sl z9c (by unfold maxLen;simp only [List.length_cons,List.length_nil];omega) (by simp only [List.length_cons,List.length_nil];omega) (λv36 w7 ho q7 hor36=>?_)
   have z7:=q7.size
   refine asg rfl (kpL [(0,_),(8,_),(9,_),(10,_)] (.c4 rfl rfl rfl rfl) (nl (bn' (tn (rg (z0y rfl rfl (wi6 (by omega)) (mv rfl (nl ?_))))))))
   exact lpE ((i+1,_)) (.c4 rfl rfl rfl rfl) ⟨by simp only;omega,by rw [y1o st l i (by omega),<-hps,z9t,if_neg (by first|exact λe=>c1 e.2|exact λe=>absurd e.1 (by omega))];exact ho,by omega,S++z0v (.slice AT ps.length cT),(λk hk=>(List.mem_append.1 hk).elim (hS k) (λhk=>(hoB.blk k hk).1)),qS.trans (((Fr.refl (z0v (.slice AT ps.length cT)) _).z5 q2 q3 q4 q5 q6).step q7 (λk hk _=>hk))⟩ (by simp only;omega)
  clear h;intro g0 h
  refine z2h 3 h rfl rfl rfl λa h=>z2h 4 h rfl rfl rfl λa h=>z2h 5 h rfl rfl rfl λa h=>z2h 6 h rfl rfl rfl λa h=>z2h 7 h rfl rfl rfl λa h=>z2h 8 h rfl rfl rfl λa h=>z2h 9 h rfl rfl rfl λa h=>z0d 10 rfl ?_
  refine z4j h rfl rfl rfl rfl λa h=>?_
  refine z0b ?_
  refine z0r ?_
  clear hC ho_b hb6_b
  refine bk (h.sub (L':=[(0,_),(6,_),(7,_),(8,_),(9,_),(10,_),(26,_)]) (.c7 rfl rfl rfl rfl rfl rfl rfl)) (tn (cf rfl (rg (mv rfl (z0n rfl hb6 z6w (z2f ([l.getD i pa0]) (ev1 rfl) rfl rfl rfl z9c (λg35 w8 hg35 ho35 q8 z8=>?_)))))))
  replace ho:=ho.ext q8
  have hoo36:=ho
  refine z1x rfl rfl ho ho35.sl z9c (by unfold maxLen;simp only [List.length_cons,List.length_nil];omega) (by simp only [List.length_cons,List.length_nil];omega) (λv36 w9 ho q9 hor36=>?_)
  have z9:=q9.size
  refine asg rfl (kpL [(0,_),(8,_),(9,_),(10,_)] (.c4 rfl rfl rfl rfl) (nl (bn' (tn (rg (z0y rfl rfl (wi6 (by omega)) (mv rfl (nl ?_))))))))
  exact lpE ((i+1,_)) (.c4 rfl rfl rfl rfl) ⟨by simp only;omega,by rw [y1o st l i (by omega),<-hps,z9t,if_neg (by first|exact λe=>c1 e.2|exact λe=>absurd e.1 (by omega))];exact ho,by omega,S++z0v (.slice AT ps.length cT),(λk hk=>(List.mem_append.1 hk).elim (hS k) (λhk=>(hoB.blk k hk).1)),qS.trans (((Fr.refl (z0v (.slice AT ps.length cT)) _).z4 q2 q3 q4 q8).step q9 (λk hk _=>hk))⟩ (by simp only;omega)
 refine ex (te (te (xh (tn (sr (mv rfl (asg rfl (kpL [(4,_)] (.cons rfl .nil) (nn (rt (r1 results198 rfl ?_)))))))))))
 exact ⟨_,rfl,S,by rw [List.take_of_length_le (by omega)] at hps;rw [<-hps];exact ho,hS,qS⟩
theorem z9k:z0z prog 82 0 0:=λ_ _=>by kernel_rfl
theorem z6j:z0z prog 82 1 1:=λ_ _=>by kernel_rfl
theorem y0b:z0z prog 82 2 2:=λ_ _=>by kernel_rfl
theorem u1c:z0z prog 82 3 3:=λ_ _=>by kernel_rfl
theorem z8c:z0z prog 82 4 4:=λ_ _=>by kernel_rfl
theorem y6u:z2b prog 54:=λ_=>by kernel_rfl
set_option maxHeartbeats 1000000 in
theorem z8o (q:YQ) (w0:World) (hp:Sl z1t w0 (slv q.pe) q.pes):Rets prog 44 #[.agg #[.bool q.inn,.int .i64 q.pl,.int .i64 q.ct,.bool q.nw,.slice q.pe.1 q.pe.2.1 q.pe.2.2]] w0 λr w'=>r=.int .i64 (ynE q.p)/\Fr [] w0 w':=by
 have hpl:=z1s hp
 have hpM:=hp.len_le
 unfold maxLen at hpM
 refine we [(0,.agg #[.bool q.inn,.int .i64 q.pl,.int .i64 q.ct,.bool q.nw,.slice q.pe.1 q.pe.2.1 q.pe.2.2])] func44 rfl ntmps44 rfl (.cons rfl .nil) ?_
 have hp0:=hp
 refine sr (bx rfl rfl rfl (λg1 w1 hg1 hb1 q1 z1=>(asg rfl (nn (sq (sq ?_))))))
 refine rbo (r:=12) (L':=[(1,_)]) (((q.ct<0)\/(2048<q.ct))) (.cons rfl .nil) ?_ ?_
 ·refine fad rfl y0b (z0i rfl hb1 rfl na3 (lt' rfl rfl (mv rfl (gs 8 rfl (λg0=>?_) (λg0=>?_)))))
  ·exact gN rfl rfl (gN rfl rfl (gN rfl rfl (pkt rfl rfl (rbe rfl (.cons rfl .nil)))))
  exact gY rfl (fad rfl y0b (gY rfl (z0i rfl hb1 rfl na3 (gY rfl (gt' rfl rfl (pkf rfl rfl (rbe rfl (.cons rfl .nil))))))))
 refine tn (cd rfl (λc0=>?_) (λc0=>?_))
 ·refine sr (asg rfl (nn (rt (tr (r1 results44 rfl ?_)))))
  exact ⟨_,rfl,by rw [yn_a c0],q1⟩
 refine sk (tn (sq (sr (fad rfl z9k (z0i rfl hb1 rfl na4 (nt' rfl (nn (cd rfl (λc1=>?_) (λc1=>?_)))))))))
 ·refine sq (sq ?_)
  refine rbo (r:=28) (L':=[]) ((((q.pl≠0)\/q.nw=true)\/(0<(q.pe.2.1:Int)))) .nil ?_ ?_
  ·refine fad rfl z6j (z0i rfl hb1 rfl na3 (ne' rfl rfl (mv rfl (gs 19 rfl (λg1=>?_) (λg1=>?_)))))
   ·exact gN rfl rfl (gN rfl rfl (pkt rfl rfl (mv rfl (gN rfl rfl (gN rfl rfl (gN rfl rfl (gN rfl rfl (pkt rfl rfl (rbe rfl .nil)))))))))
   refine gY rfl (fad rfl u1c (gY rfl (z0i rfl hb1 rfl na4 (pkf rfl rfl (mv rfl (gs 23 rfl (λg2=>?_) (λg2=>?_)))))))
   ·exact gN rfl rfl (gN rfl rfl (gN rfl rfl (gN rfl rfl (pkt rfl rfl (rbe rfl .nil)))))
   exact gY rfl (fad rfl z8c (gY rfl (z0i rfl hb1 rfl y6u (gY rfl (lnS rfl underlying54 (gY rfl (gt' rfl rfl (pkf rfl rfl (rbe rfl .nil)))))))))
  refine tn (cd rfl (λc2=>?_) (λc2=>?_))
  ·refine sr (asg rfl (nn (rt (tr (tr (r1 results44 rfl ?_))))))
   have hin:q.inn=false:=(by simpa using c1)
   exact ⟨_,rfl,by rw [yn_b hin (by simpa [hpl] using c2)],q1⟩
  refine sk (tn (sr (asg rfl (nn (rt (tr (r1 results44 rfl ?_)))))))
  have hin:q.inn=false:=(by simpa using c1)
  exact ⟨_,rfl,by rw [yn_c c0 hin (by simpa [hpl] using c2)],q1⟩
 refine sk (tn (sq (sq ?_)))
 refine x8z (r:=38) (L':=[(1,_)]) (((¬(x3r q.pl))\/(4096<(q.pe.2.1:Int)))) (.cons rfl .nil) ?_ ?_
 ·refine fad rfl z6j (z0i rfl hb1 rfl na3 (cl (ev1 rfl) (mkC func96) (y6p _ _) rfl ?_))
  rintro _ w2 ⟨rfl,q2⟩
  have z2:=q2.size
  refine nt' rfl (mv rfl (gs 33 rfl (λg3=>?_) (λg3=>?_)))
  ·exact gN rfl rfl (gN rfl rfl (gN rfl rfl (gN rfl rfl (pkt rfl rfl (y0k rfl (.cons rfl .nil) q2)))))
  refine gY rfl (fad rfl z8c (gY rfl ?_))
  replace hb1:=hb1.ext q2
  exact z0i rfl hb1 rfl y6u (gY rfl (lnS rfl underlying54 (gY rfl (gt' rfl rfl (pkf rfl rfl (y0k rfl (.cons rfl .nil) q2))))))
 intro w3 q3;have z3:=q3.size
 refine tn (cd rfl (λc3=>?_) (λc3=>?_))
 ·refine sr (asg rfl (nn (rt (tr (r1 results44 rfl ?_)))))
  have hin:q.inn=true:=(by simpa using c1)
  exact ⟨_,rfl,by rw [yn_d hin (by simpa [hpl] using c3)],(q1.n1 q3)⟩
 refine sk (tn (sq (sr (fad rfl z8c ?_))))
 replace hb1:=hb1.ext q3
 refine z0i rfl hb1 rfl y6u (lnS rfl underlying54 (mv rfl (nn (bl ?_))))
 refine lpK (ι:=Nat) [(1,_),(40,_),(41,_)] (λi=>[(42,.int .i64 (i:Int))]) (λi w'=>Fr [] w3 w'/\i<=q.pes.length/\∀j,j<i->v2g q.pes j) (λi=>q.pes.length-i) 0 (.c4 rfl rfl rfl rfl) ⟨Fr.refl _ _,⟨Nat.zero_le _,λj h=>absurd h (by omega)⟩⟩ ?_
 rintro i w4 ⟨q4,⟨hi,hg⟩⟩
 have z4:=q4.size
 refine kpC [(1,_),(40,_),(41,_),(42,_)] (.c4 rfl rfl rfl rfl) (sr (lt' rfl rfl (nn (sq (cd rfl (λc4=>?_) (λc4=>?_))))))
 ·refine sk (tn (sq (bl (sr (mv rfl ?_)))))
  replace hp:=hp0.ext (q1.n2 q3 q4)
  refine z1a (p:=i) (pa0) rfl hp rfl z9c (by omega) (λad45 hc45=>(z1j rfl (hc45 _ hp) z6w (al y5e rfl rfl (λg4 w5 hg4 hb4 q5 z5=>?_))))
  refine asg rfl (z0j (vs:=[_,_,_,_]) rfl rfl hb4 y7g (λw6 hb4 q6 z6=>?_) (h1:=(by first|(simp [Value.oneCell',S];done)|exact z1t.one (q.pes.getD i pa0))))
  refine nn (sq ?_)
  replace hp:=hp0.ext (q1.z4 q3 q4 q5 q6)
  replace hb1:=(hb1.ext (q4.n1 q5)).fr q6
  intro a h
  refine z0h none (λwb w'=>Fr [] wb w') z2r ?_;intro w7 q7
  have z7:=q7.size
  replace hp:=hp.ext q7
  replace hb1:=hb1.ext q7
  replace hb4:=hb4.ext q7
  have hC:Fr [] w7 w7:=Fr.refl _ _
  have hp_b:=hp
  have hb1_b:=hb1
  have hb4_b:=hb4
  refine z0t 0 h rfl (λ_ hw=>hb4_b.ext hw) z6w rfl λa h=>z0d 1 rfl ?_
  refine z0m h (z0a rfl z0g) (mkC func97) (x6l (q.pes.getD i pa0) _) ?_;rintro _ w8 ⟨rfl,q8⟩ a h
  have z8:=q8.size
  replace hp:=hp.ext q8
  replace hb1:=hb1.ext q8
  replace hb4:=hb4.ext q8
  replace hC:=hC.next q8
  refine z0b ?_
  refine x5m 2 hC h wn rfl rfl rfl λa h=>z0e 3 h rfl rfl λa h=>?_
  refine gSp (D:=50) h rfl ?_ ?_
  ·clear h;intro g4 h
   refine z2h 4 h rfl rfl rfl λa h=>z2h 5 h rfl rfl rfl λa h=>z2h 6 h rfl rfl rfl λa h=>x2g 7 hC h rfl rfl rfl λa h=>x2g 8 hC h rfl rfl rfl λa h=>x2g 9 hC h rfl rfl rfl λa h=>x2g 10 hC h rfl rfl rfl λa h=>x2g 11 hC h rfl rfl rfl λa h=>x2g 12 hC h rfl rfl rfl λa h=>x2g 13 hC h rfl rfl rfl λa h=>x2g 14 hC h rfl rfl rfl λa h=>?_
   refine z2h 15 h rfl rfl rfl λa h=>z0d 16 rfl ?_
   refine z5j h rfl rfl rfl rfl λa h=>?_
   refine z0b ?_
   refine z0r ?_
   clear hC hp_b hb1_b hb4_b
   refine bk (h.sub (L':=[(1,_),(40,_),(41,_),(42,_),(63,_)]) (.c5 rfl rfl rfl rfl rfl)) (tn (ct rfl (sr (asg rfl (nn (rt (rb (tr (tr (rb (tr (r1 results44 rfl ?_))))))))))))
   have hin:q.inn=true:=(by simpa using c1)
   exact ⟨_,rfl,by rw [yn_e hin (i:=i) (by show i<q.pes.length;omega) (λh=>by first|exact absurd h.1 (by assumption)|exact h.2 (by omega) c5)],(q1.z6 q3 q4 q5 q6 q7 q8)⟩
  clear h;intro g4 h
  refine z0e 4 h rfl rfl ?_ (hG:=(wy rfl));clear h a;intro a h
  refine v0a 5 hC h (wy rfl) rfl rfl rfl rfl λa h=>z0e 6 h rfl rfl ?_ (hG:=(wy rfl));clear h a;intro a h
  refine gSp (D:=53) h rfl ?_ ?_
  ·clear h;intro g5 h
   refine z0c 7 h rfl z8c rfl ?_ (hG:=(wy rfl));clear h a;intro a h
   refine z0l 8 h rfl (λ_ hw=>hb1_b.ext hw) rfl y6u rfl ?_ (hG:=(wy rfl));clear h a;intro a h
   refine z0e 9 h rfl rfl ?_ (hG:=(wy rfl));clear h a;intro a h
   refine z2y 10 h (wy rfl) rfl rfl (by first|exact i6 (by omega)|rfl) rfl λa h=>z1k (p:=(i-1)) (pa0) 11 h rfl hp rfl z9c rfl ?_ (hG:=(wy rfl));clear h a;intro ad58 hc58 a h
   refine z2l 12 h (wy rfl) rfl (λ_ hw=>hc58 _ (hp_b.ext hw)) z6w rfl λa h=>z0t 13 h rfl (λ_ hw=>hb4_b.ext hw) z6w rfl ?_ (hG:=(wy rfl));clear h a;intro a h
   refine z0d 14 rfl ?_
   refine y3n h rfl rfl rfl rfl rfl rfl ?_
   refine z0m h (z0a rfl (z0a rfl z0g)) (mkC func98) (x1p (q.pes.getD (i-1) pa0) (q.pes.getD i pa0) _) ?_;rintro _ w9 ⟨rfl,q9⟩ a h
   have z9:=q9.size
   replace hp:=hp.ext q9
   replace hb1:=hb1.ext q9
   replace hb4:=hb4.ext q9
   replace hC:=hC.next q9
   refine z0b ?_
   refine z0d 15 rfl ?_
   refine tW h (kY rfl (pkt rfl rfl ?_));clear h a;intro a h
   refine z0b ?_
   refine z0d 16 rfl ?_
   refine z4j h rfl rfl rfl rfl λa h=>?_
   refine z0b ?_
   refine z0r ?_
   clear hC hp_b hb1_b hb4_b
   refine bk (h.sub (L':=[(1,_),(40,_),(41,_),(42,_),(63,_)]) (.c5 rfl rfl rfl rfl rfl)) (tn (cd rfl (λc5=>?_) (λc5=>?_)))
   ·refine sr (asg rfl (nn (rt (rb (tr (tr (rb (tr (r1 results44 rfl ?_)))))))))
    have hin:q.inn=true:=(by simpa using c1)
    exact ⟨_,rfl,by rw [yn_e hin (i:=i) (by show i<q.pes.length;omega) (λh=>by first|exact absurd h.1 (by assumption)|exact h.2 (by omega) c5)],((q1.z6 q3 q4 q5 q6 q7 q8).n1 q9)⟩
   refine sk (bn' (tn (rg (z0y rfl rfl (wi6 (by omega)) (mv rfl (nl ?_))))))
   exact lpE (i+1) (.c4 rfl rfl rfl rfl) ⟨(q4.z5 q5 q6 q7 q8 q9),⟨by omega,λj hj=>by
    by_cases e:j<i
    ·exact hg j e
    obtain rfl:j=i:=by omega
    exact ⟨by assumption,λh0=>by first|exact c5|exact absurd h0 (by omega)⟩⟩⟩ (by omega)
  clear h;intro g5 h
  refine z2h 7 h rfl rfl rfl λa h=>z2h 8 h rfl rfl rfl λa h=>z2h 9 h rfl rfl rfl λa h=>z2h 10 h rfl rfl rfl λa h=>z2h 11 h rfl rfl rfl λa h=>z2h 12 h rfl rfl rfl λa h=>z2h 13 h rfl rfl rfl λa h=>z2h 14 h rfl rfl rfl λa h=>z0d 15 rfl ?_
  refine tW h (kY rfl (pkf rfl rfl ?_));clear h a;intro a h
  refine z0b ?_
  refine z0d 16 rfl ?_
  refine z4j h rfl rfl rfl rfl λa h=>?_
  refine z0b ?_
  refine z0r ?_
  clear hC hp_b hb1_b hb4_b
  refine bk (h.sub (L':=[(1,_),(40,_),(41,_),(42,_),(63,_)]) (.c5 rfl rfl rfl rfl rfl)) (tn (cf rfl (sk (bn' (tn (rg (z0y rfl rfl (wi6 (by omega)) (mv rfl (nl ?_)))))))))
  exact lpE (i+1) (.c4 rfl rfl rfl rfl) ⟨(q4.z4 q5 q6 q7 q8),⟨by omega,λj hj=>by
   by_cases e:j<i
   ·exact hg j e
   obtain rfl:j=i:=by omega
   exact ⟨by assumption,λh0=>by first|exact c5|exact absurd h0 (by omega)⟩⟩⟩ (by omega)
 obtain rfl:i=q.pes.length:=by omega
 refine ex (te (te (xh (tn (sr (asg rfl (nn (rt (r1 results44 rfl ?_)))))))))
 have hin:q.inn=true:=(by simpa using c1)
 exact ⟨_,rfl,by rw [yn_f c0 hin (by simpa [hpl] using c3) hg],(q1.n2 q3 q4)⟩
theorem z6h:z3p prog 82 5:=⟨λ_=>by kernel_rfl,λ_=>by kernel_rfl⟩
theorem x0g:BuildAt prog 82 [(0,1),(1,1),(2,1),(3,1),(4,1)] [(.bool false),(.int .i64 0),(.int .i64 0),(.bool false),(.slice none 0 0)]:=BuildAt.struct underlying82 (λ_=>by kernel_rfl) (λ_=>by kernel_rfl)
theorem j1s:CallOf prog 44:=mkC func44
theorem sz3:z1q prog 3 1:=λ_=>by kernel_rfl
theorem j4v:z1q prog 54 1:=λ_=>by kernel_rfl
theorem z6k:z1q prog 82 5:=λ_=>by kernel_rfl
theorem y1j (w:World):(zeroValue 82).run prog w=.ok (.agg #[(.bool false),(.int .i64 0),(.int .i64 0),(.bool false),(.slice none 0 0)]) w:=by kernel_rfl
set_option maxHeartbeats 1000000 in
theorem x6t (q:YQ) (pl:Int) (v:Value) (l:List Pa) (w0:World) (hp:Sl z1t w0 (slv q.pe) q.pes) (hs:Sl z1t w0 v l) (hv:∀k∈z0v v,k<w0.heap.size) (hl:l.length<=50000):Rets prog 146 #[.agg #[.bool q.inn,.int .i64 q.pl,.int .i64 q.ct,.bool q.nw,.slice q.pe.1 q.pe.2.1 q.pe.2.2],.int .i64 pl,v] w0 λr w'=>∃q':YQ,r=.tuple #[.agg #[.bool q'.inn,.int .i64 q'.pl,.int .i64 q'.ct,.bool q'.nw,.slice q'.pe.1 q'.pe.2.1 q'.pe.2.2],.int .i64 (goE q.p pl l)]/\(goE q.p pl l=0->q'.p=goS q.p pl l/\Lw.Own z1t 100 w0.heap.size w' (slv q'.pe) q'.pes)/\Fr [] w0 w':=by
 have hpl:=z1s hp
 have hpM:=hp.len_le
 unfold maxLen at hpM
 obtain ⟨A,c,rfl,hcc,hM,hA⟩:=id hs
 clear hA
 unfold maxLen at hM
 refine we [(0,.agg #[.bool q.inn,.int .i64 q.pl,.int .i64 q.ct,.bool q.nw,.slice q.pe.1 q.pe.2.1 q.pe.2.2]),(1,.int .i64 pl),(2,.slice A l.length c)] func146 rfl ntmps146 rfl (.c3 rfl rfl rfl) ?_
 have hp0:=hp
 have hs0:=hs
 refine sr (bx rfl rfl rfl (λg3 w1 hg3 hb3 q1 z1=>(al y1j rfl rfl (λg6 w2 hg6 hb6 q2 z2=>(asg rfl (nn (sq (sr ?_))))))))
 replace hb3:=hb3.ext q2
 refine z0n rfl hb3 z6h ?_
 replace hp:=hp0.ext (q1.n1 q2)
 refine cl (ev1 rfl) j1s (z8o q _ hp) rfl ?_
 rintro _ w3 ⟨rfl,q3⟩
 have z3:=q3.size
 refine asg rfl (nn (sr (mv rfl (ne' rfl rfl (nn (cd rfl (λc0=>?_) (λc0=>?_)))))))
 ·refine sr (z1r (cs:=[_,_,_,_,_]) z0g x0g z0s rfl ?_)
  refine mv rfl ?_
  replace hb6:=hb6.ext q3
  refine z0j (vs:=[_,_,_,_,_]) rfl rfl hb6 z6k (λw4 hb6 q4 z4=>?_) (h1:=(by first|(simp [Value.oneCell',S];done)|exact z1t.one (l.getD i pa0)))
  refine asg rfl (kpL [(6,_),(7,_)] (.c2 rfl rfl) (nn (rt (tr (rCT results146 rfl hb6 z6h rfl ?_)))))
  have he:goE q.p pl l=ynE q.p:=by unfold goE;rw [if_pos c0]
  exact ⟨_,rfl,yq0,by rw [he];rfl,(λh=>absurd h (by rw [he];exact c0)),(q1.z3 q2 q3 q4)⟩
 have hy0:=x9w (Classical.not_not.1 c0)
 refine sk (tn (sq (sr (mv rfl (cl (ev1 rfl) (mkC func96) (y6p _ _) rfl ?_)))))
 rintro _ w5 ⟨rfl,q5⟩
 have z5:=q5.size
 refine nt' rfl (nn (cd rfl (λc1=>?_) (λc1=>?_)))
 ·refine sr (z1r (cs:=[_,_,_,_,_]) z0g x0g z0s rfl ?_)
  replace hb6:=hb6.ext (q3.n1 q5)
  refine z0j (vs:=[_,_,_,_,_]) rfl rfl hb6 z6k (λw6 hb6 q6 z6=>?_) (h1:=(by first|(simp [Value.oneCell',S];done)|exact z1t.one (l.getD i pa0)))
  refine asg rfl (nn (rt (tr (rCT results146 rfl hb6 z6h rfl ?_))))
  have he:goE q.p pl l=1:=by unfold goE;rw [if_neg c0,if_pos (by simpa using c1)]
  exact ⟨_,rfl,yq0,by rw [he];rfl,(λh=>absurd h (by rw [he];decide)),(q1.z4 q2 q3 q5 q6)⟩
 refine sk (tn (sq (sr (mv rfl (lnS rfl underlying54 (mv rfl (nn (bl ?_))))))))
 refine lpK (ι:=Nat) [(1,_),(2,_),(3,_),(6,_),(22,_),(23,_)] (λi=>[(24,.int .i64 (i:Int))]) (λi w'=>Fr [] w5 w'/\i<=l.length/\∀j,j<i->y0f (l.getD j pa0)) (λi=>l.length-i) 0 (.c7 rfl rfl rfl rfl rfl rfl rfl) ⟨Fr.refl _ _,⟨Nat.zero_le _,λj h=>absurd h (by omega)⟩⟩ ?_
 rintro i w7 ⟨q7,⟨hi,hg⟩⟩
 have z7:=q7.size
 refine kpC [(1,_),(2,_),(3,_),(6,_),(22,_),(23,_),(24,_)] (.c7 rfl rfl rfl rfl rfl rfl rfl) (sr (lt' rfl rfl (nn (sq (cd rfl (λc2=>?_) (λc2=>?_))))))
 ·refine sk (tn (sq (bl (sr ?_))))
  replace hs:=hs0.ext (q1.n4 q2 q3 q5 q7)
  refine z1a (pa0) rfl hs rfl z9c z1f (λad26 hc26=>?_)
  refine z1j rfl (hc26 _ hs) z6w (al y5e rfl rfl (λg10 w8 hg10 hb10 q8 z8=>?_))
  refine z0j (vs:=[_,_,_,_]) rfl rfl hb10 y7g (λw9 hb10 q9 z9=>?_) (h1:=(by first|(simp [Value.oneCell',S];done)|exact z1t.one (l.getD i pa0)))
  refine nn (sr (z0n rfl hb10 z6w (cl (ev1 rfl) (mkC func97) (x6l (l.getD i pa0) _) rfl ?_)))
  rintro _ w10 ⟨rfl,q10⟩
  have z10:=q10.size
  refine nt' rfl (nn (cd rfl (λc3=>?_) (λc3=>?_)))
  ·refine sr (z1r (cs:=[_,_,_,_,_]) z0g x0g z0s rfl ?_)
   replace hb6:=((hb6.ext (q3.n3 q5 q7 q8)).fr q9).ext q10
   refine z0j (vs:=[_,_,_,_,_]) rfl rfl hb6 z6k (λw11 hb6 q11 z11=>?_) (h1:=(by first|(simp [Value.oneCell',S];done)|exact z1t.one (l.getD i pa0)))
   refine asg rfl (kpL [(6,_),(7,_)] (.c2 rfl rfl) (nn (rt (rb (tr (tr (rb (tr (rCT results146 rfl hb6 z6h rfl ?_)))))))))
   have he:goE q.p pl l=1:=by unfold goE;rw [if_neg c0,if_neg (by simpa using c1),if_pos (λhav=>(by simpa using c3:¬y0f (l.getD i pa0)) (hav _ (z0x (by omega))))]
   exact ⟨_,rfl,yq0,by rw [he];rfl,(λh=>absurd h (by rw [he];decide)),(((q1.z6 q2 q3 q5 q7 q8 q9).n1 q10).z1 q11)⟩
  refine sk (bn' (tn (rg (z0y rfl rfl (wi6 (by omega)) (mv rfl (nl ?_))))))
  exact lpE (i+1) (.c7 rfl rfl rfl rfl rfl rfl rfl) ⟨(q7.z3 q8 q9 q10),⟨by omega,λj hj=>by
   by_cases e:j<i
   ·exact hg j e
   obtain rfl:j=i:=by omega
   exact Classical.not_not.1 (by simpa using c3)⟩⟩ (by omega)
 obtain rfl:i=l.length:=by omega
 have hav:u8u l:=λp hp_=>by
  obtain ⟨j,hj,rfl⟩:=List.getElem_of_mem hp_
  have:=hg j hj
  rwa [List.getD,List.getElem?_eq_getElem hj] at this
 refine ex (te (te (xh (tn (sq (sr (fad rfl z9k ?_)))))))
 replace hb3:=hb3.ext (q3.n2 q5 q7)
 refine z0i rfl hb3 rfl na4 (nt' rfl (kpL [(1,_),(2,_),(3,_),(6,_),(35,_)] (.c5 rfl rfl rfl rfl rfl) (nn (cd rfl (λc4=>?_) (λc4=>?_)))))
 ·refine sr (z1r (cs:=[_,_,_,_,_]) z0g x0g z0s rfl ?_)
  replace hb6:=hb6.ext (q3.n2 q5 q7)
  refine z0j (vs:=[_,_,_,_,_]) rfl rfl hb6 z6k (λw12 hb6 q12 z12=>?_) (h1:=(by first|(simp [Value.oneCell',S];done)|exact z1t.one (l.getD i pa0)))
  refine asg rfl (nn (rt (tr (rCT results146 rfl hb6 z6h rfl ?_))))
  have he:goE q.p pl l=12:=by unfold goE;rw [if_neg c0,if_neg (by simpa using c1),if_neg (λe=>e hav),if_pos (by simpa using c4)]
  exact ⟨_,rfl,yq0,by rw [he];rfl,(λh=>absurd h (by rw [he];decide)),(q1.z5 q2 q3 q5 q7 q12)⟩
 have hin:q.inn=true:=(by simpa using c4)
 have hy2:=hy0.2
 rw [if_pos hin] at hy2
 have hpe:q.pes.length<=4096:=hy2.2.1
 refine sk (tn (sr (fad rfl z8c (z0i rfl hb3 rfl y6u (lnS rfl underlying54 (mv rfl (lnS rfl underlying54 (z0y rfl rfl (wi6 (by omega)) (z1e (m:=0) (c:=(q.pe.2.1+l.length)) (pa0) rfl rfl z9c y5e rfl (λg43 w13 hg43 ho q13 z13=>(asg rfl (kpL [(1,_),(2,_),(3,_),(6,_),(11,_)] (.c5 rfl rfl rfl rfl rfl) (nn (sr (mv rfl (fad rfl z8c ?_))))))))))))))))
 replace hb3:=hb3.ext q13
 refine z0i rfl hb3 rfl y6u ?_
 replace hb6:=hb6.ext (q3.n3 q5 q7 q13)
 replace hp:=hp0.ext (q1.n5 q2 q3 q5 q7 q13)
 have hoo47:=ho
 refine z1x rfl rfl ho hp z9c (by unfold maxLen;simp only [List.length_replicate];omega) (by simp only [List.length_replicate];omega) (λv47 w14 ho q14 hor47=>?_)
 have z14:=q14.size
 replace hb3:=hb3.fr q14 (λhk=>by have:=(hoo47.blk _ hk).1;omega)
 replace hb6:=hb6.fr q14 (λhk=>by have:=(hoo47.blk _ hk).1;omega)
 replace ho:Lw.Own z1t 100 g43 w14 v47 q.pes:=ho
 refine mv rfl ?_
 replace hs:=hs0.ext ((q1.n5 q2 q3 q5 q7 q13).step q14 (λk hk hlt=>absurd (hoo47.blk k hk).1 (by omega)))
 refine cl (ev2 rfl rfl) (mkC func198) (v2e g43 v47 _ q.pes l _ ho hs (λk hk=>by have:=hv k hk;omega) (by omega) (by omega)) rfl ?_
 rintro V49 w15 ⟨S49,ho,hS49,q15⟩
 replace hb3:=hb3.fr q15 (λhk=>by have:=hS49 _ hk;omega)
 replace hb6:=hb6.fr q15 (λhk=>by have:=hS49 _ hk;omega)
 have z15:=q15.size
 have hpn:=y0l l q.pes
 obtain ⟨A49,c49,rfl,hc49⟩:=ho.sl.form
 refine asg rfl (kpL [(1,_),(3,_),(6,_),(11,_)] (.c4 rfl rfl rfl rfl) (nn (sq (sr (mv rfl (lnS rfl underlying54 (gt' rfl rfl (nn (cd rfl (λc5=>?_) (λc5=>?_))))))))))
 ·refine sr (z1r (cs:=[_,_,_,_,_]) z0g x0g z0s rfl ?_)
  refine z0j (vs:=[_,_,_,_,_]) rfl rfl hb6 z6k (λw16 hb6 q16 z16=>?_) (h1:=(by first|(simp [Value.oneCell',S];done)|exact z1t.one (l.getD i pa0)))
  refine asg rfl (nn (rt (tr (rCT results146 rfl hb6 z6h rfl ?_))))
  have he:goE q.p pl l=3:=by unfold goE;rw [if_neg c0,if_neg (by simpa using c1),if_neg (λe=>e hav),if_neg (by simpa using c4),if_pos (by show 4096<(z4n q.pes l).length;omega)]
  exact ⟨_,rfl,yq0,by rw [he];rfl,(λh=>absurd h (by rw [he];decide)),((((q1.n5 q2 q3 q5 q7 q13).step q14 (λk hk hlt=>absurd (hoo47.blk k hk).1 (by omega))).step q15 (λk hk hlt=>absurd (hS49 k hk) (by omega))).sp q16)⟩
 refine sk (tn (sr (mv rfl (fad rfl z6j (z3u rfl rfl hb3 rfl sz3 (λw17 hb3 q17 z17=>?_))))))
 replace hb3:Blk w17 g3 _ [_,_,_,_,_]:=hb3
 refine nn (sr (mv rfl ?_))
 replace ho:=ho.fr q17 (by first|exact z9e ho (by omega)|simp[z0v]<;>omega)
 refine cl (ev1 rfl) (mkC func199) (z8x _ _ _ ho.sl (by omega)) rfl ?_
 rintro _ w18 ⟨A57,rfl,ho57,q18⟩
 have z18:=q18.size
 refine fad rfl z8c ?_
 replace hb3:=hb3.ext q18
 refine z3u rfl rfl hb3 rfl j4v (λw19 hb3 q19 z19=>?_)
 replace hb3:Blk w19 g3 _ [_,_,_,_,_]:=hb3
 refine nn (sr (z0n rfl hb3 z6h ?_))
 replace hb6:=((hb6.fr q17).ext q18).fr q19
 refine z0j (vs:=[_,_,_,_,_]) rfl rfl hb6 z6k (λw20 hb6 q20 z20=>?_) (h1:=(by first|(simp [Value.oneCell',S];done)|exact z1t.one (l.getD i pa0)))
 refine asg rfl (nn (rt (rCT results146 rfl hb6 z6h rfl ?_)))
 replace ho57:=(ho57.fr q19 (by first|exact z9e ho57 (by omega)|simp[z0v]<;>omega)).fr q20 (by first|exact z9e ho57 (by omega)|simp[z0v]<;>omega)
 have he:goE q.p pl l=0:=by unfold goE;rw [if_neg c0,if_neg (by simpa using c1),if_neg (λe=>e hav),if_neg (by simpa using c4),if_neg (by show ¬4096<(z4n q.pes l).length;omega)]
 exact ⟨_,rfl,⟨q.inn,pl,q.ct,q.nw,(A57,(z4n q.pes l).length,(z4n q.pes l).length),z4n q.pes l⟩,by rw [he],(λ_=>⟨rfl,ho57.low (by omega)⟩),(((((((q1.n5 q2 q3 q5 q7 q13).step q14 (λk hk hlt=>absurd (hoo47.blk k hk).1 (by omega))).step q15 (λk hk hlt=>absurd (hS49 k hk) (by omega))).sp q17).next q18).sp q19).sp q20)⟩
theorem x3y:z3p prog 250 3:=⟨λ_=>by kernel_rfl,λ_=>by kernel_rfl⟩
theorem v1e:BuildAt prog 250 [(0,1),(1,1),(2,1)] [(.int .i64 0),(.bool false),(.slice none 0 0)]:=BuildAt.struct underlying250 (λ_=>by kernel_rfl) (λ_=>by kernel_rfl)
theorem x1z:z1q prog 250 3:=λ_=>by kernel_rfl
theorem x1d (w:World):(zeroValue 250).run prog w=.ok (.agg #[(.int .i64 0),(.bool false),(.slice none 0 0)]) w:=by kernel_rfl
set_option maxHeartbeats 1000000 in
theorem y0q (q:YQ) (w0:World) (hp:Sl z1t w0 (slv q.pe) q.pes) (hv:∀k∈z0v (slv q.pe),k<w0.heap.size):Rets prog 150 #[.agg #[.bool q.inn,.int .i64 q.pl,.int .i64 q.ct,.bool q.nw,.slice q.pe.1 q.pe.2.1 q.pe.2.2]] w0 λr w'=>∃(q':YQ) (n:Int) (nw:Bool) (s:SV) (ps:List Pa),r=.tuple #[.agg #[.bool q'.inn,.int .i64 q'.pl,.int .i64 q'.ct,.bool q'.nw,.slice q'.pe.1 q'.pe.2.1 q'.pe.2.2],.agg #[.int .i64 n,.bool nw,.slice s.1 s.2.1 s.2.2],.int .i64 (mkE q.p)]/\(mkE q.p=0->q'=⟨true,q.pl,q.ct+1,false,sv0,[]⟩/\n=q.ct/\nw=q.nw/\ps=q.pes/\Lw.Own z1t 100 w0.heap.size w' (slv s) ps)/\Fr [] w0 w':=by
 have hpl:=z1s hp
 have hpM:=hp.len_le
 unfold maxLen at hpM
 refine we [(0,.agg #[.bool q.inn,.int .i64 q.pl,.int .i64 q.ct,.bool q.nw,.slice q.pe.1 q.pe.2.1 q.pe.2.2])] func150 rfl ntmps150 rfl (.cons rfl .nil) ?_
 have hp0:=hp
 refine sr (bx rfl rfl rfl (λg1 w1 hg1 hb1 q1 z1=>(al y1j rfl rfl (λg2 w2 hg2 hb2 q2 z2=>(al x1d rfl rfl (λg3 w3 hg3 hb3 q3 z3=>(asg rfl (nn (sq (sr ?_))))))))))
 replace hb1:=hb1.ext (q2.n1 q3)
 refine z0n rfl hb1 z6h ?_
 replace hp:=hp0.ext (q1.n2 q2 q3)
 refine cl (ev1 rfl) j1s (z8o q _ hp) rfl ?_
 rintro _ w4 ⟨rfl,q4⟩
 have z4:=q4.size
 refine asg rfl (nn (sr (mv rfl (ne' rfl rfl (nn (cd rfl (λc0=>?_) (λc0=>?_)))))))
 ·refine sr (z1r (cs:=[_,_,_,_,_]) z0g x0g z0s rfl ?_)
  refine z1r (cs:=[_,_,_]) z0g v1e z0s rfl ?_
  refine mv rfl ?_
  replace hb2:=hb2.ext (q3.n1 q4)
  refine z0j (vs:=[_,_,_,_,_]) rfl rfl hb2 z6k (λw5 hb2 q5 z5=>?_)
  replace hb3:=(hb3.ext q4).fr q5
  refine z0j (vs:=[_,_,_]) rfl rfl hb3 x1z (λw6 hb3 q6 z6=>(asg rfl (kpL [(2,_),(3,_),(4,_)] (.c3 rfl rfl rfl) (nn (rt (tr ?_))))))
  replace hb2:=hb2.fr q6
  refine j1e results150 rfl hb2 z6h rfl hb3 x3y rfl ?_
  have he:mkE q.p=ynE q.p:=by unfold mkE;rw [if_pos c0]
  exact ⟨_,rfl,yq0,0,false,sv0,[],by rw [he];rfl,(λh=>absurd h (by rw [he];exact c0)),(q1.z5 q2 q3 q4 q5 q6)⟩
 have hy0:=x9w (Classical.not_not.1 c0)
 refine sk (tn (sq (sr (fad rfl z9k ?_))))
 replace hb1:=hb1.ext q4
 refine z0i rfl hb1 rfl na4 (nt' rfl (nn (cd rfl (λc1=>?_) (λc1=>?_))))
 ·refine sr (z1r (cs:=[_,_,_,_,_]) z0g x0g z0s rfl ?_)
  refine z1r (cs:=[_,_,_]) z0g v1e z0s rfl ?_
  replace hb2:=hb2.ext (q3.n1 q4)
  refine z0j (vs:=[_,_,_,_,_]) rfl rfl hb2 z6k (λw7 hb2 q7 z7=>?_)
  replace hb3:=(hb3.ext q4).fr q7
  refine z0j (vs:=[_,_,_]) rfl rfl hb3 x1z (λw8 hb3 q8 z8=>(asg rfl (nn (rt (tr ?_)))))
  replace hb2:=hb2.fr q8
  refine j1e results150 rfl hb2 z6h rfl hb3 x3y rfl ?_
  have he:mkE q.p=12:=by unfold mkE;rw [if_neg c0,if_pos (by simpa using c1)]
  exact ⟨_,rfl,yq0,0,false,sv0,[],by rw [he];rfl,(λh=>absurd h (by rw [he];decide)),(q1.z5 q2 q3 q4 q7 q8)⟩
 have hin:q.inn=true:=(by simpa using c1)
 have hy2:=hy0.2
 rw [if_pos hin] at hy2
 have hpe:q.pes.length<=4096:=hy2.2.1
 have hct:0<=q.ct/\q.ct<=2048:=hy0.1
 refine sk (tn (sq (sr (fad rfl y0b (z0i rfl hb1 rfl na3 (eq' rfl rfl (nn (cd rfl (λc2=>?_) (λc2=>?_)))))))))
 ·refine sr (z1r (cs:=[_,_,_,_,_]) z0g x0g z0s rfl ?_)
  refine z1r (cs:=[_,_,_]) z0g v1e z0s rfl ?_
  replace hb2:=hb2.ext (q3.n1 q4)
  refine z0j (vs:=[_,_,_,_,_]) rfl rfl hb2 z6k (λw9 hb2 q9 z9=>?_)
  replace hb3:=(hb3.ext q4).fr q9
  refine z0j (vs:=[_,_,_]) rfl rfl hb3 x1z (λw10 hb3 q10 z10=>(asg rfl (nn (rt (tr ?_)))))
  replace hb2:=hb2.fr q10
  refine j1e results150 rfl hb2 z6h rfl hb3 x3y rfl ?_
  have he:mkE q.p=3:=by unfold mkE;rw [if_neg c0,if_neg (by simpa using c1),if_pos c2]
  exact ⟨_,rfl,yq0,0,false,sv0,[],by rw [he];rfl,(λh=>absurd h (by rw [he];decide)),(q1.z5 q2 q3 q4 q9 q10)⟩
 refine sk (tn (sq ?_))
 replace hp:=hp0.ext (q1.n3 q2 q3 q4)
 intro a h
 refine z0h none (λwb w'=>Fr [] wb w') z2r ?_;intro w11 q11
 have z11:=q11.size
 replace hp:=hp.ext q11
 replace hb1:=hb1.ext q11
 replace hb2:=hb2.ext (q3.n2 q4 q11)
 replace hb3:=hb3.ext (q4.n1 q11)
 have hC:Fr [] w11 w11:=Fr.refl _ _
 have hp_b:=hp
 have hb1_b:=hb1
 have hb2_b:=hb2
 have hb3_b:=hb3
 refine z0c 0 h rfl y0b rfl λa h=>z0l 1 h rfl (λ_ hw=>hb1_b.ext hw) rfl na3 rfl λa h=>z0c 2 h rfl u1c rfl λa h=>z0l 3 h rfl (λ_ hw=>hb1_b.ext hw) rfl na4 rfl λa h=>z0c 4 h rfl z8c rfl λa h=>z0l 5 h rfl (λ_ hw=>hb1_b.ext hw) rfl y6u rfl λa h=>z2d 6 8 (by kernel_rfl) rfl rfl ?_ ?_
 ·refine z0m h (z0a rfl z0g) (mkC func199) (z8x _ _ _ hp (by omega)) ?_;rintro _ w12 ⟨A30,rfl,ho30,q12⟩ a h
  have z12:=q12.size
  replace hb1:=hb1.ext q12
  replace hb2:=hb2.ext q12
  replace hb3:=hb3.ext q12
  replace hC:=hC.next q12
  have hLb:=λk hk=>(ho30.blk k hk).2
  refine z0b ?_
  refine z2z (cs:=[_,_,_]) 7 h (z0a rfl (z0a rfl (z0a rfl z0g))) v1e (z0f rfl rfl rfl (z0f rfl rfl rfl (z0f rfl rfl rfl z0s))) rfl rfl λa h=>z0d 8 rfl ?_
  refine z1d h x1d rfl λw13 hb6 q13 hz a h=>?_
  obtain ⟨g_6,hg⟩:∃g,g=w12.heap.size:=⟨_,rfl⟩;rw [<-hg] at hb6 h hz
  have hn__6:g1<g_6:=by have:=hb1.lt;omega
  have hn__6:g2<g_6:=by have:=hb2.lt;omega
  have hn__6:g3<g_6:=by have:=hb3.lt;omega
  have z13:=q13.size
  replace hp:=hp.ext (q12.n1 q13)
  replace hb1:=hb1.ext q13
  replace hb2:=hb2.ext q13
  replace hb3:=hb3.ext q13
  replace ho30:=ho30.ext q13
  replace hC:=hC.next q13
  refine z0b ?_
  refine z0d 9 rfl ?_
  refine z0u h rfl rfl hb6 rfl x1z λw14 hbn q14 hz a h=>?_
  have z14:=q14.size
  replace hp:=hp.fr q14 (by intro k hk hb_;simp at hk;subst hk;have:=hv _ hb_;omega)
  replace hb1:=hb1.fr q14
  replace hb2:=hb2.fr q14
  replace hb3:=hb3.fr q14
  replace ho30:=ho30.fr q14 (by intro k hk hb_;simp at hk;subst hk;have h1_:=hLb _ hb_;have:=ho30.blk _ hb_;omega)
  replace hC:=hC.sp q14
  clear hb6 hz;have hb6:Blk w14 g_6 _ [_,_,_]:=hbn;clear hbn
  refine z0b ?_
  refine z0r ?_
  clear hC hp_b hb1_b hb2_b hb3_b
  refine bk (h.sub (L':=[(1,_),(2,_),(3,_),(6,_)]) (.c4 rfl rfl rfl rfl)) (tn (sq ?_))
  intro a h
  refine z0h none (λwb w'=>Fr [g2,g3] wb w') z2r ?_;intro w15 q15
  have z15:=q15.size
  replace hb1:=hb1.ext q15
  replace hb2:=hb2.ext q15
  replace hb3:=hb3.ext q15
  replace ho30:=ho30.ext q15
  replace hb6:=hb6.ext q15
  have hC:Fr [g2,g3] w15 w15:=Fr.refl _ _
  have hb1_b:=hb1
  have hb2_b:=hb2
  have hb3_b:=hb3
  have ho30_b:=ho30
  have hb6_b:=hb6
  refine z0c 0 h rfl z6j rfl λa h=>z0l 1 h rfl (λ_ hw=>hb1_b.fr hw (by simp;omega)) rfl na3 rfl λa h=>z0c 2 h rfl y0b rfl λa h=>z0l 3 h rfl (λ_ hw=>hb1_b.fr hw (by simp;omega)) rfl na3 rfl λa h=>z5i 4 h rfl rfl (by first|exact i6 (by omega)|rfl) rfl λa h=>z2z (cs:=[_,_,_,_,_]) 5 h (z0a rfl (z0a rfl (z0a rfl z0g))) x0g (z0f rfl rfl rfl (z0f rfl rfl rfl (z0f rfl rfl rfl z0s))) rfl rfl λa h=>z0t 6 h rfl (λ_ hw=>hb6_b.fr hw (by simp;omega)) x3y rfl λa h=>z0d 7 rfl ?_
  refine z0u h rfl rfl hb2 rfl z6k λw16 hbn q16 hz a h=>?_
  have z16:=q16.size
  replace hb1:=hb1.fr q16
  replace hb3:=hb3.fr q16
  replace ho30:=ho30.fr q16 (by intro k hk hb_;simp at hk;subst hk;have h1_:=hLb _ hb_;have:=ho30.blk _ hb_;omega)
  replace hb6:=hb6.fr q16
  replace hC:=hC.sp q16
  clear hb2 hz;have hb2:Blk w16 g2 _ [_,_,_,_,_]:=hbn;clear hbn
  refine z0b ?_
  refine z0d 8 rfl ?_
  refine z0u h rfl rfl hb3 rfl x1z λw17 hbn q17 hz a h=>?_
  have z17:=q17.size
  replace hb1:=hb1.fr q17
  replace hb2:=hb2.fr q17
  replace ho30:=ho30.fr q17 (by intro k hk hb_;simp at hk;subst hk;have h1_:=hLb _ hb_;have:=ho30.blk _ hb_;omega)
  replace hb6:=hb6.fr q17
  replace hC:=hC.sp q17
  clear hb3 hz;have hb3:Blk w17 g3 _ [_,_,_]:=hbn;clear hbn
  refine z0b ?_
  refine z0d 9 rfl ?_
  refine z0q h rfl λa h=>?_
  refine z0b ?_
  refine z0r ?_
  clear hC hb1_b hb2_b hb3_b ho30_b hb6_b
  refine bk (h.sub (L':=[(2,_),(3,_),(4,_)]) (.c3 rfl rfl rfl)) (tn (rt (j1e results150 rfl hb2 z6h rfl hb3 x3y rfl ?_)))
  have he:mkE q.p=0:=by unfold mkE;rw [if_neg c0,if_neg (by simpa using c1),if_neg c2]
  exact ⟨_,rfl,⟨true,q.pl,q.ct+1,false,sv0,[]⟩,q.ct,q.nw,(A30,q.pes.length,q.pes.length),q.pes,by rw [he];rfl,(λ_=>⟨rfl,rfl,rfl,rfl,ho30.low (by omega)⟩),((((q1.n6 q2 q3 q4 q11 q12 q13).z1 q14).n1 q15).z2 q16 q17)⟩
 refine z1d h x1d rfl λw18 hb6 q18 hz a h=>?_
 obtain ⟨g_6,hg⟩:∃g,g=w11.heap.size:=⟨_,rfl⟩;rw [<-hg] at hb6 h hz
 have hn__6:g1<g_6:=by have:=hb1.lt;omega
 have hn__6:g2<g_6:=by have:=hb2.lt;omega
 have hn__6:g3<g_6:=by have:=hb3.lt;omega
 have z18:=q18.size
 replace hp:=hp.ext q18
 replace hC:=hC.next q18
 refine z0b ?_
 refine z0d 6 rfl ?_
 refine z0m h (z0a rfl z0g) (mkC func199) (z8x _ _ _ hp (by omega)) ?_;rintro _ w19 ⟨A30,rfl,ho30,q19⟩ a h
 have z19:=q19.size
 replace hp:=hp.ext q19
 replace hb1:=hb1.ext (q18.n1 q19)
 replace hb2:=hb2.ext (q18.n1 q19)
 replace hb3:=hb3.ext (q18.n1 q19)
 replace hb6:=hb6.ext q19
 replace hC:=hC.next q19
 have hLb:=λk hk=>(ho30.blk k hk).2
 refine z0b ?_
 refine z2z (cs:=[_,_,_]) 7 h (z0a rfl (z0a rfl (z0a rfl z0g))) v1e (z0f rfl rfl rfl (z0f rfl rfl rfl (z0f rfl rfl rfl z0s))) rfl rfl λa h=>z0d 9 rfl ?_
 refine z0u h rfl rfl hb6 rfl x1z λw20 hbn q20 hz a h=>?_
 have z20:=q20.size
 replace hp:=hp.fr q20 (by intro k hk hb_;simp at hk;subst hk;have:=hv _ hb_;omega)
 replace hb1:=hb1.fr q20
 replace hb2:=hb2.fr q20
 replace hb3:=hb3.fr q20
 replace ho30:=ho30.fr q20 (by intro k hk hb_;simp at hk;subst hk;have h1_:=hLb _ hb_;have:=ho30.blk _ hb_;omega)
 replace hC:=hC.sp q20
 clear hb6 hz;have hb6:Blk w20 g_6 _ [_,_,_]:=hbn;clear hbn
 refine z0b ?_
 refine z0r ?_
 clear hC hp_b hb1_b hb2_b hb3_b
 refine bk (h.sub (L':=[(1,_),(2,_),(3,_),(6,_)]) (.c4 rfl rfl rfl rfl)) (tn (sq ?_))
 intro a h
 refine z0h none (λwb w'=>Fr [g2,g3] wb w') z2r ?_;intro w21 q21
 have z21:=q21.size
 replace hb1:=hb1.ext q21
 replace hb2:=hb2.ext q21
 replace hb3:=hb3.ext q21
 replace hb6:=hb6.ext q21
 replace ho30:=ho30.ext q21
 have hC:Fr [g2,g3] w21 w21:=Fr.refl _ _
 have hb1_b:=hb1
 have hb2_b:=hb2
 have hb3_b:=hb3
 have hb6_b:=hb6
 have ho30_b:=ho30
 refine z0c 0 h rfl z6j rfl λa h=>z0l 1 h rfl (λ_ hw=>hb1_b.fr hw (by simp;omega)) rfl na3 rfl λa h=>z0c 2 h rfl y0b rfl λa h=>z0l 3 h rfl (λ_ hw=>hb1_b.fr hw (by simp;omega)) rfl na3 rfl λa h=>z5i 4 h rfl rfl (by first|exact i6 (by omega)|rfl) rfl λa h=>z2z (cs:=[_,_,_,_,_]) 5 h (z0a rfl (z0a rfl (z0a rfl z0g))) x0g (z0f rfl rfl rfl (z0f rfl rfl rfl (z0f rfl rfl rfl z0s))) rfl rfl λa h=>z0t 6 h rfl (λ_ hw=>hb6_b.fr hw (by simp;omega)) x3y rfl λa h=>z0d 7 rfl ?_
 refine z0u h rfl rfl hb2 rfl z6k λw22 hbn q22 hz a h=>?_
 have z22:=q22.size
 replace hb1:=hb1.fr q22
 replace hb3:=hb3.fr q22
 replace hb6:=hb6.fr q22
 replace ho30:=ho30.fr q22 (by intro k hk hb_;simp at hk;subst hk;have h1_:=hLb _ hb_;have:=ho30.blk _ hb_;omega)
 replace hC:=hC.sp q22
 clear hb2 hz;have hb2:Blk w22 g2 _ [_,_,_,_,_]:=hbn;clear hbn
 refine z0b ?_
 refine z0d 8 rfl ?_
 refine z0u h rfl rfl hb3 rfl x1z λw23 hbn q23 hz a h=>?_
 have z23:=q23.size
 replace hb1:=hb1.fr q23
 replace hb2:=hb2.fr q23
 replace hb6:=hb6.fr q23
 replace ho30:=ho30.fr q23 (by intro k hk hb_;simp at hk;subst hk;have h1_:=hLb _ hb_;have:=ho30.blk _ hb_;omega)
 replace hC:=hC.sp q23
 clear hb3 hz;have hb3:Blk w23 g3 _ [_,_,_]:=hbn;clear hbn
 refine z0b ?_
 refine z0d 9 rfl ?_
 refine z0q h rfl λa h=>?_
 refine z0b ?_
 refine z0r ?_
 clear hC hb1_b hb2_b hb3_b hb6_b ho30_b
 refine bk (h.sub (L':=[(2,_),(3,_),(4,_)]) (.c3 rfl rfl rfl)) (tn (rt (j1e results150 rfl hb2 z6h rfl hb3 x3y rfl ?_)))
 have he:mkE q.p=0:=by unfold mkE;rw [if_neg c0,if_neg (by simpa using c1),if_neg c2]
 exact ⟨_,rfl,⟨true,q.pl,q.ct+1,false,sv0,[]⟩,q.ct,q.nw,(A30,q.pes.length,q.pes.length),q.pes,by rw [he];rfl,(λ_=>⟨rfl,rfl,rfl,rfl,ho30.low (by omega)⟩),((((q1.n6 q2 q3 q4 q11 q18 q19).z1 q20).n1 q21).z2 q22 q23)⟩
set_option maxHeartbeats 1000000 in
theorem x0w (q:YQ) (d:Int) (w0:World) (hp:Sl z1t w0 (slv q.pe) q.pes):Rets prog 109 #[.agg #[.bool q.inn,.int .i64 q.pl,.int .i64 q.ct,.bool q.nw,.slice q.pe.1 q.pe.2.1 q.pe.2.2],.int .u8 d] w0 λr w'=>∃q':YQ,r=.tuple #[.agg #[.bool q'.inn,.int .i64 q'.pl,.int .i64 q'.ct,.bool q'.nw,.slice q'.pe.1 q'.pe.2.1 q'.pe.2.2],.int .i64 (enE q.p d)]/\(enE q.p d=0->q'=⟨true,if d=1 then 179 else -13,q.ct,true,sv0,[]⟩)/\Fr [] w0 w':=by
 have hpl:=z1s hp
 have hpM:=hp.len_le
 unfold maxLen at hpM
 refine we [(0,.agg #[.bool q.inn,.int .i64 q.pl,.int .i64 q.ct,.bool q.nw,.slice q.pe.1 q.pe.2.1 q.pe.2.2]),(1,.int .u8 d)] func109 rfl ntmps109 rfl (.c2 rfl rfl) ?_
 have hp0:=hp
 refine sr (bx rfl rfl rfl (λg2 w1 hg2 hb2 q1 z1=>(al y1j rfl rfl (λg4 w2 hg4 hb4 q2 z2=>(asg rfl (nn (sq (sr ?_))))))))
 replace hb2:=hb2.ext q2
 refine z0n rfl hb2 z6h ?_
 replace hp:=hp0.ext (q1.n1 q2)
 refine cl (ev1 rfl) j1s (z8o q _ hp) rfl ?_
 rintro _ w3 ⟨rfl,q3⟩
 refine asg rfl (nn (sr (mv rfl (ne' rfl rfl (nn (cd rfl (λc0=>?_) (λc0=>?_)))))))
 ·refine sr (z1r (cs:=[_,_,_,_,_]) z0g x0g z0s rfl ?_)
  refine mv rfl ?_
  replace hb4:=hb4.ext q3
  refine z0j (vs:=[_,_,_,_,_]) rfl rfl hb4 z6k (λw4 hb4 q4 z4=>(asg rfl (kpL [(4,_),(5,_)] (.c2 rfl rfl) (nn (rt (tr (rCT results109 rfl hb4 z6h rfl ?_)))))))
  have he:enE q.p d=ynE q.p:=by unfold enE;rw [if_pos c0]
  exact ⟨_,rfl,yq0,by rw [he];rfl,(λh=>absurd h (by rw [he];exact c0)),(q1.z3 q2 q3 q4)⟩
 refine sk (tn (sq (sr (mv rfl (cl (ev1 rfl) (mkC func136) (y2x _ _) rfl ?_)))))
 rintro _ w5 ⟨rfl,q5⟩
 refine nt' rfl (nn (cd rfl (λc1=>?_) (λc1=>?_)))
 ·refine sr (z1r (cs:=[_,_,_,_,_]) z0g x0g z0s rfl ?_)
  replace hb4:=hb4.ext (q3.n1 q5)
  refine z0j (vs:=[_,_,_,_,_]) rfl rfl hb4 z6k (λw6 hb4 q6 z6=>(asg rfl (nn (rt (tr (rCT results109 rfl hb4 z6h rfl ?_))))))
  have he:enE q.p d=1:=by unfold enE;rw [if_neg c0,if_pos (by simpa using c1)]
  exact ⟨_,rfl,yq0,by rw [he];rfl,(λh=>absurd h (by rw [he];decide)),(q1.z4 q2 q3 q5 q6)⟩
 refine sk (tn (sq (sr (fad rfl z9k ?_))))
 replace hb2:=hb2.ext (q3.n1 q5)
 refine z0i rfl hb2 rfl na4 (nn (cd rfl (λc2=>?_) (λc2=>?_)))
 ·refine sr (z1r (cs:=[_,_,_,_,_]) z0g x0g z0s rfl ?_)
  replace hb4:=hb4.ext (q3.n1 q5)
  refine z0j (vs:=[_,_,_,_,_]) rfl rfl hb4 z6k (λw7 hb4 q7 z7=>(asg rfl (nn (rt (tr (rCT results109 rfl hb4 z6h rfl ?_))))))
  have he:enE q.p d=12:=by unfold enE;rw [if_neg c0,if_neg (by simpa using c1),if_pos (by simpa using c2)]
  exact ⟨_,rfl,yq0,by rw [he];rfl,(λh=>absurd h (by rw [he];decide)),(q1.z4 q2 q3 q5 q7)⟩
 refine sk (tn (sr (asg rfl (nn ?_))))
 refine jn (ι:=Unit) [(2,_),(4,_)] (λ_j=>[(7,.int .i64 (if d=1 then 179 else -13))]) (λ_j w'=>Fr [] w5 w') (.c2 rfl rfl) ?_ ?_
 ·refine sr (mv rfl (eq' rfl rfl (nn (cd rfl (λc3=>?_) (λc3=>?_)))))
  ·refine rg (asg rfl (nl ?_))
   exact jE (()) (.c3 rfl rfl (congrArg (λq=>some (Value.int .i64 q)) (by first|exact (if_pos c3).symm|exact (if_neg c3).symm))) (Fr.refl _ _)
  refine sk ?_
  exact jE (()) (.c3 rfl rfl (congrArg (λq=>some (Value.int .i64 q)) (by first|exact (if_pos c3).symm|exact (if_neg c3).symm))) (Fr.refl _ _)
 rintro _j w8 q8
 refine kpC [(2,_),(4,_),(7,_)] (.c3 rfl rfl rfl) (sr (mv rfl (fad rfl y0b ?_)))
 replace hb2:=hb2.ext q8
 refine z0i rfl hb2 rfl na3 (z1r (cs:=[_,_,_,_,_]) (ev4 rfl rfl rfl rfl) x0g (z0f rfl rfl rfl (z0f rfl rfl rfl (z0f rfl rfl rfl (z0f rfl rfl rfl z0s)))) rfl ?_)
 replace hb4:=hb4.ext (q3.n2 q5 q8)
 refine z0j (vs:=[_,_,_,_,_]) rfl rfl hb4 z6k (λw9 hb4 q9 z9=>(asg rfl (kpL [(4,_),(5,_)] (.c2 rfl rfl) (nn (rt (rCT results109 rfl hb4 z6h rfl ?_))))))
 have he:enE q.p d=0:=by unfold enE;rw [if_neg c0,if_neg (by simpa using c1),if_neg (by simpa using c2)]
 exact ⟨_,rfl,⟨true,if d=1 then 179 else -13,q.ct,true,sv0,[]⟩,by rw [he];rfl,(λ_=>rfl),(q1.z5 q2 q3 q5 q8 q9)⟩
end Go.Proofs.YtpgdchkdlgkmgaaGreatDoor
namespace Go.G21
open Go.Lw
def nd (T:Tb) (y:Nat) (n:Int):List LId:=z4m (lpA T y n.toNat)
def InM (ms:List Int) (i:LId):Prop:=i.n<ms.getD (i.y-1).toNat 0
def Has (T:Tb):Prop:=T.length=6/\∀y,y<6->∀n,n<z2t T y->∀i∈z4m (lpA T y n),z4b T i
theorem Has.nm {T:Tb} (h:Has T) {y n:Nat} (hy:y<6) (hn:n<z2t T y) {i:LId} (hi:i∈z4m (lpA T y n)):∃y' n':Nat,y'<6/\n'<z2t T y'/\i=⟨(y':Int)+1,(n':Int)⟩:=by
 obtain ⟨h1,h2,h3,h4⟩:=h.2 y hy n hn i hi
 have:=h.1
 obtain ⟨iy,ik⟩:=i
 simp only at h1 h2 h3 h4
 refine ⟨(iy-1).toNat,ik.toNat,by omega,by omega,?_⟩
 rw [show (((iy-1).toNat:Nat):Int)+1=iy by omega,show ((ik.toNat:Nat):Int)=ik by omega]
theorem y5n {ms:List Int} {y n:Nat}:InM ms ⟨(y:Int)+1,(n:Int)⟩↔(n:Int)<ms.getD y 0:=by
 unfold InM
 show (n:Int)<ms.getD ((y:Int)+1-1).toNat 0↔_
 rw [show ((y:Int)+1-1).toNat=y by omega]
theorem x5n:∀(l:List Int) (j:Nat) (v:Int),j<l.length->(l.set j v).sum=l.sum-l.getD j 0+v
 | a::l,0,v,_=>by simp;omega
 | a::l,j+1,v,h=>by
  have:=x5n l j v (by simpa using h)
  simp only [List.set_cons_succ,List.sum_cons,List.getD_cons_succ] at this ⊢;omega
theorem y9o:∀(l:List Int) (T:Tb),l.length=T.length->(∀i,i<l.length->l.getD i 0<=(z2t T i:Int))->l.sum<=(z4o T:Int)/\(l.sum=(z4o T:Int)->∀i,i<l.length->l.getD i 0=(z2t T i:Int))/\((∀i,i<l.length->l.getD i 0=(z2t T i:Int))->l.sum=(z4o T:Int))
 | [],[],_,_=>⟨by simp [z4o],λ_ i hi=>by simp at hi,λ_=>by simp [z4o]⟩
 | [],_::_,h,_=>by simp at h
 | _::_,[],h,_=>by simp at h
 | a::l,r::T,h,hb=>by
  obtain ⟨h1,h2,h3⟩:=y9o l T (by simpa using h) (λi hi=>by simpa [z2t] using hb (i+1) (by simpa using hi))
  have h0:a<=(r.length:Int):=by simpa [z2t] using hb 0 (by simp)
  have e:(z4o (r::T):Int)=(r.length:Int)+(z4o T:Int):=by simp [z4o]
  rw [List.sum_cons,e]
  refine ⟨by omega,λhs i hi=>?_,λha=>?_⟩
  ·cases i with
   | zero=>show a=(r.length:Int);omega
   | succ i=>simpa [z2t] using h2 (by omega) i (by simpa using hi)
  have e0:a=(r.length:Int):=by simpa [z2t] using ha 0 (by simp)
  have e1:=h3 (λi hi=>by simpa [z2t] using ha (i+1) (by simpa using hi))
  omega
structure FstI (T:Tb) (ms ts:List Int) (N:Nat):Prop where
  lm:ms.length=6
  lt:ts.length=6
  mb:∀y,y<6->0<=ms.getD y 0/\ms.getD y 0<=(z2t T y:Int)
  tb:∀y,y<6->0<=ts.getD y 0
  td:∀y,y<6->∀k:Nat,(k:Int)<ts.getD y 0->k<(nd T y (ms.getD y 0)).length->InM ms ((nd T y (ms.getD y 0)).getD k id0)
  sum:ms.sum=(N:Int)
  rk:∃rk:LId->Nat,(∀y,y<6->∀n:Nat,(n:Int)<ms.getD y 0->rk ⟨(y:Int)+1,(n:Int)⟩<N/\∀i∈z4m (lpA T y n),InM ms i/\rk i<rk ⟨(y:Int)+1,(n:Int)⟩)/\∀y,y<6->∀n m:Nat,n<m->(m:Int)<ms.getD y 0->rk ⟨(y:Int)+1,(n:Int)⟩<rk ⟨(y:Int)+1,(m:Int)⟩
theorem j2f (y:Nat):(List.replicate 6 (0:Int)).getD y 0=0:=by rw [List.getD,List.getElem?_replicate];split<;>rfl
theorem FstI.init {T:Tb}:FstI T (List.replicate 6 0) (List.replicate 6 0) 0:=
 ⟨rfl,rfl,λy _=>by rw [j2f];omega,λy _=>by rw [j2f];omega,λy _ k hk=>by rw [j2f] at hk;omega,rfl,λ_=>0,λy _ n hn=>by rw [j2f] at hn;omega,λy _ n m _ hn=>by rw [j2f] at hn;omega⟩
theorem z4f {l:List Int} {i:Nat} (h:i<l.length) (v:Int) (j:Nat):(l.set i v).getD j 0=if i=j then v else l.getD j 0:=by
 rw [List.getD,List.getD,List.getElem?_set]
 split
 ·rename_i e;subst e;first|rfl|(rw [if_pos h];rfl)
 rfl
variable {T:Tb} {ms ts:List Int} {N:Nat}
theorem FstI.there (h:FstI T ms ts N) {y:Nat} (hy:y<6) (hin:InM ms ((nd T y (ms.getD y 0)).getD (ts.getD y 0).toNat id0)):FstI T ms (ts.set y (ts.getD y 0+1)) N:=by
 have hl:y<ts.length:=by rw [h.lt];exact hy
 refine ⟨h.lm,by rw [List.length_set];exact h.lt,h.mb,λz hz=>?_,λz hz k hk hkl=>?_,h.sum,h.rk⟩
 ·rw [z4f hl];split
  ·have:=h.tb y hy;omega
  exact h.tb z hz
 rw [z4f hl] at hk
 split at hk
 ·rename_i e;subst e
  have:=h.tb y hy
  by_cases e:k=(ts.getD y 0).toNat
  ·rw [e];exact hin
  exact h.td y hy k (by omega) hkl
 exact h.td z hz k hk hkl
theorem FstI.push (h:FstI T ms ts N) (hH:Has T) {y:Nat} (hy:y<6) (hlt:ms.getD y 0<(z2t T y:Int)) (hge:((nd T y (ms.getD y 0)).length:Int)<=ts.getD y 0):FstI T (ms.set y (ms.getD y 0+1)) (ts.set y 0) (N+1):=by
 have hlm:y<ms.length:=by rw [h.lm];exact hy
 have hlt2:y<ts.length:=by rw [h.lt];exact hy
 have h0:=h.mb y hy
 obtain ⟨m,hm⟩:=Int.eq_ofNat_of_zero_le h0.1
 rw [hm] at hlt hge ⊢
 have hup:∀i,InM ms i->InM (ms.set y ((m:Int)+1)) i:=λi hi=>by
  unfold InM at hi ⊢
  rw [z4f hlm];split
  ·rename_i e;rw [<-e,hm] at hi;omega
  exact hi
 have hnd:∀i∈z4m (lpA T y m),InM ms i:=λi hi=>by
  obtain ⟨k,hk,rfl⟩:=List.getElem_of_mem hi
  have e:nd T y (ms.getD y 0)=z4m (lpA T y m):=by unfold nd;rw [hm,Int.toNat_natCast]
  have:=h.td y hy k (by
   have e2:((nd T y (m:Int)).length:Int)<=ts.getD y 0:=hge
   rw [<-hm,e] at e2;omega) (by rw [e];exact hk)
  rw [e,List.getD,List.getElem?_eq_getElem hk] at this
  exact this
 obtain ⟨rk,h1,h2⟩:=h.rk
 have hold:∀i,InM ms i->¬i=(⟨(y:Int)+1,(m:Int)⟩:LId):=λi hi e=>by
  subst e;rw [y5n,hm] at hi;omega
 refine ⟨by rw [List.length_set];exact h.lm,by rw [List.length_set];exact h.lt,λz hz=>?_,λz hz=>?_,λz hz k hk hkl=>?_,?_,λi=>if i=⟨(y:Int)+1,(m:Int)⟩ then N else rk i,λz hz n hn=>?_,λz hz n k hnk hk=>?_⟩
 ·rw [z4f hlm];split
  ·rename_i e;subst e;omega
  exact h.mb z hz
 ·rw [z4f hlt2];split
  ·omega
  exact h.tb z hz
 ·rw [z4f hlt2] at hk
  split at hk
  ·omega
  rename_i e
  rw [z4f hlm,if_neg e] at hkl ⊢
  exact hup _ (h.td z hz k hk hkl)
 ·rw [x5n _ _ _ hlm,h.sum,hm];omega
 ·rw [z4f hlm] at hn
  simp only
  by_cases e:z=y/\n=m
  ·obtain ⟨rfl,rfl⟩:=e
   rw [if_pos rfl]
   refine ⟨by omega,λi hi=>⟨hup i (hnd i hi),?_⟩⟩
   rw [if_neg (hold i (hnd i hi))]
   obtain ⟨y',n',hy',_,rfl⟩:=hH.nm hy (by omega) hi
   exact (h1 y' hy' n' (y5n.1 (hnd _ hi))).1
  have hn':(n:Int)<ms.getD z 0:=by
   split at hn
   ·rename_i e2;subst e2
    have:n≠m:=λe3=>e ⟨rfl,e3⟩
    rw [hm];omega
   exact hn
  rw [if_neg (hold _ (y5n.2 hn'))]
  obtain ⟨a1,a2⟩:=h1 z hz n hn'
  refine ⟨by omega,λi hi=>?_⟩
  obtain ⟨b1,b2⟩:=a2 i hi
  rw [if_neg (hold i b1)]
  exact ⟨hup i b1,b2⟩
 rw [z4f hlm] at hk
 simp only
 have hn':(n:Int)<ms.getD z 0:=by
  split at hk
  ·rename_i e2;subst e2;rw [hm];omega
  omega
 rw [if_neg (hold _ (y5n.2 hn'))]
 by_cases e:z=y/\k=m
 ·obtain ⟨rfl,rfl⟩:=e
  rw [if_pos rfl]
  exact (h1 z hz n hn').1
 have hk':(k:Int)<ms.getD z 0:=by
  split at hk
  ·rename_i e2;subst e2
   have:k≠m:=λe3=>e ⟨rfl,e3⟩
   rw [hm];omega
  exact hk
 rw [if_neg (hold _ (y5n.2 hk'))]
 exact h2 z hz n k hnk hk'
theorem FstI.leI (h:FstI T ms ts N) (hT:T.length=6):N<=z4o T:=by
 have:=(y9o ms T (by rw [h.lm,hT]) (λi hi=>(h.mb i (by rw [<-h.lm];exact hi)).2)).1
 rw [h.sum] at this;omega
def v2x (T:Tb) (ms:List Int) (y:Nat):Prop:=ms.getD y 0=(z2t T y:Int)\/(ms.getD y 0<(z2t T y:Int)/\∃i∈nd T y (ms.getD y 0),¬InM ms i)
theorem FstI.done (h:FstI T ms ts N) (hH:Has T) (hs:∀y,y<6->v2x T ms y) (ho:∃rk,Ranked T rk):N=z4o T:=by
 obtain ⟨rk,hr⟩:=ho
 have key:∀k y,y<6->ms.getD y 0<(z2t T y:Int)->rk ⟨(y:Int)+1,ms.getD y 0⟩=k->False:=λk=>by
  induction k using Nat.strongRecOn with
  | ind k ih=>
   intro y hy hlt hk
   obtain ⟨m,hm⟩:=Int.eq_ofNat_of_zero_le (h.mb y hy).1
   rcases hs y hy with e|⟨_,i,hi,hn⟩
   ·omega
   have hi2:i∈z4m (lpA T y m):=by unfold nd at hi;rw [hm,Int.toNat_natCast] at hi;exact hi
   rw [hm] at hlt hk
   obtain ⟨y',n',hy',hn',rfl⟩:=hH.nm hy (by omega) hi2
   rw [y5n] at hn
   obtain ⟨m',hm'⟩:=Int.eq_ofNat_of_zero_le (h.mb y' hy').1
   have h1:=hr.need y hy m (by omega) _ hi2
   have h2:rk ⟨(y':Int)+1,(m':Int)⟩<=rk ⟨(y':Int)+1,(n':Int)⟩:=by
    rcases Nat.lt_or_ge m' n' with h3|h3
    ·exact Nat.le_of_lt (hr.mono y' hy' m' n' h3 hn')
    have:m'=n':=by omega
    rw [this];exact Nat.le_refl _
   refine ih (rk ⟨(y':Int)+1,(m':Int)⟩) (by omega) y' hy' (by omega) (by rw [hm'])
 have:=(y9o ms T (by rw [h.lm,hH.1]) (λi hi=>(h.mb i (by rw [<-h.lm];exact hi)).2)).2.2 (λi hi=>by
  have hi6:i<6:=by rw [<-h.lm];exact hi
  have h1:=(h.mb i hi6).2
  rcases Decidable.em (ms.getD i 0<(z2t T i:Int)) with h2|h2
  ·exact (key _ i hi6 h2 rfl).elim
  omega)
 rw [h.sum] at this;omega
theorem FstI.ord (h:FstI T ms ts N) (hH:Has T) (hN:N=z4o T):∃rk,Ranked T rk:=by
 have hall:=(y9o ms T (by rw [h.lm,hH.1]) (λi hi=>(h.mb i (by rw [<-h.lm];exact hi)).2)).2.1 (by rw [h.sum,hN])
 obtain ⟨rk,h1,h2⟩:=h.rk
 refine ⟨rk,⟨λy hy n hn i hi=>?_,λy hy n m hnm hm=>?_⟩⟩
 ·exact ((h1 y hy n (by rw [hall y (by rw [h.lm];exact hy)];omega)).2 i hi).2
 exact h2 y hy n m hnm (by rw [hall y (by rw [h.lm];exact hy)];omega)
end Go.G21
namespace Go.G21
open Go.Lw
def StN (W:Nat) (s:Lst) (i:LId):Prop:=match s with
  | none=>False
  | some (y,f)=>i.y=y/\(f:Int)<=i.n/\i.n<((f+2*W:Nat):Int)
instance (W:Nat) (s:Lst) (i:LId):Decidable (StN W s i):=by unfold StN;split<;>infer_instance
end Go.G21
namespace Go.G21
open Go.Lw
end Go.G21
namespace Go.G21
open Go.Lw
theorem y7p (ts:List TQ) (y:Nat):(z2c ts).getD y []=(ts.getD y tq0).2.map LpQ.p:=by
 rcases Nat.lt_or_ge y ts.length with h|h
 ·exact x1x (λp:TQ=>p.2.map LpQ.p) ts y tq0 [] h
 rw [List.getD,List.getElem?_eq_none (by simpa [z2c] using h),List.getD,List.getElem?_eq_none h];rfl
theorem z3c (ts:List TQ) (y:Nat):z2t (z2c ts) y=(ts.getD y tq0).2.length:=by
 unfold z2t;rw [y7p,List.length_map]
theorem z9p (ts:List TQ) (y n:Nat):lpA (z2c ts) y n=((ts.getD y tq0).2.getD n lq0).p:=by
 unfold lpA;rw [y7p];generalize (ts.getD y tq0).2=l;rw [List.getD,List.getElem?_map,List.getD];cases l[n]?<;>rfl
theorem z2e {ts:List TQ} {i:LId}:z4b (z2c ts) i↔1<=i.y/\i.y<=(ts.length:Int)/\0<=i.n/\i.n<((ts.getD (i.y-1).toNat tq0).2.length:Int):=by
 unfold z4b;rw [z3c];simp only [z2c,List.length_map]
theorem z4s {w:World} {ts:List TQ} (h:TabAt w ts) (y:Nat):(ts.getD y tq0).1.2.1=(ts.getD y tq0).2.length:=by
 rcases Nat.lt_or_ge y ts.length with e|e
 ·exact z1s (h _ (z0x e)).1
 rw [List.getD,List.getElem?_eq_none e];rfl
theorem z7h {w:World} {ts:List TQ} (h:TabAt w ts) {y n:Nat} (hy:y<ts.length) (hn:n<(ts.getD y tq0).2.length):LpAt w ((ts.getD y tq0).2.getD n lq0):=(h _ (z0x hy)).2 _ (z0x hn)
theorem z6n (ts:List TQ):(z2c ts).length=ts.length:=by simp [z2c]
def z9d (T:Tb) (y n:Nat):List LId:=(T.take y).flatMap x5a++((T.getD y []).take n).flatMap Lp.th
theorem v3v (T:Tb):z9d T 0 0=[]:=by simp [z9d]
theorem x1v {T:Tb} {y n:Nat} (h:n<z2t T y):z9d T y (n+1)=z9d T y n++(lpA T y n).th:=by
 unfold z9d lpA
 have h':n<(T.getD y []).length:=h
 rw [y9z Lp.th _ n lq0.p h',List.append_assoc]
theorem v4q {T:Tb} {y:Nat} (h:y<T.length):z9d T (y+1) 0=z9d T y (z2t T y):=by
 unfold z9d z2t
 rw [y9z x5a _ y [] h,List.take_zero,List.take_length]
 simp [x5a]
theorem u0a {T:Tb} {y:Nat} (h:T.length<=y):z9d T y 0=y0v T:=by
 unfold z9d y0v;rw [List.take_of_length_le h];simp
theorem v5z {T:Tb} {y n:Nat} (hy:y<T.length) (i:LId):(z9d T y n).count i<=(y0v T).count i:=by
 have h1:y0v T=(T.take y).flatMap x5a++(T.drop y).flatMap x5a:=by unfold y0v;rw [<-List.flatMap_append,List.take_append_drop]
 have h2:T.drop y=T.getD y []::T.drop (y+1):=by
  rw [List.drop_eq_getElem_cons hy,List.getD,List.getElem?_eq_getElem hy];rfl
 have h3:x5a (T.getD y [])=((T.getD y []).take n).flatMap Lp.th++((T.getD y []).drop n).flatMap Lp.th:=by
  unfold x5a;rw [<-List.flatMap_append,List.take_append_drop]
 rw [h1,h2,List.flatMap_cons,h3]
 unfold z9d
 simp only [List.count_append];omega
theorem u2b {T:Tb} {y n k:Nat} (hy:y<T.length) (hn:n<z2t T y) (hk:k<(lpA T y n).th.length):(z9d T y n++(lpA T y n).th.take k).count ((lpA T y n).th.getD k id0)+1<=(y0v T).count ((lpA T y n).th.getD k id0):=by
 have h:=v5z (n:=n+1) hy ((lpA T y n).th.getD k id0)
 rw [x1v hn] at h
 generalize lpA T y n=l at *
 generalize z9d T y n=u at *
 have h2:l.th=l.th.take k++l.th.getD k id0::l.th.drop (k+1):=by
  conv=>lhs;rw [<-List.take_append_drop k l.th,List.drop_eq_getElem_cons hk]
  rw [List.getD,List.getElem?_eq_getElem hk];rfl
 have h3:=congrArg (List.count (l.th.getD k id0)) h2
 rw [List.count_append,List.count_cons_self] at h3
 rw [List.count_append] at h ⊢
 omega
def y7b (p:List LId) (i:LId):Value:=.int .i64 ((p.count i:Nat):Int)
theorem y7z (p:List LId) (k:LId):(λk'=>if k'=k then Value.int .i64 (((p.count k:Nat):Int)+1) else y7b p k')=y7b (p++[k]):=by
 funext k'
 unfold y7b
 rw [List.count_append,List.count_singleton]
 by_cases h:k'=k
 ·subst h;rw [if_pos rfl,if_pos (by simp)];rfl
 rw [if_neg h,if_neg (by simpa using λe=>h e.symm),Nat.add_zero]
theorem z5x {α:Type} {l:List α} {k:Nat} (d:α) (h:k<l.length):l.take (k+1)=l.take k++[l.getD k d]:=by
 rw [List.take_add_one,List.getElem?_eq_getElem h,List.getD,List.getElem?_eq_getElem h];rfl
structure TabV (T:Tb):Prop where
  ok:TabOk T
  thr:∀i,(y0v T).count i<=1
theorem tabV {T:Tb} {H F:List LId} (h:TabOk T) (hp:PlaceOk T H F):TabV T:=by
 refine ⟨h,λi=>?_⟩
 by_cases hi:z4b T i
 ·obtain ⟨h1,h2,h3,h4⟩:=hi
  have h6:=h.six
  obtain ⟨iy,ik⟩:=i
  simp only at h1 h2 h3 h4
  have:=hp.once (iy-1).toNat (by omega) ik.toNat (by omega)
  rw [show (((iy-1).toNat:Nat):Int)+1=iy by omega,show ((ik.toNat:Nat):Int)=ik by omega] at this
  rw [List.count_append] at this;omega
 have:(y0v T).count i=0:=by
  rw [List.count_eq_zero]
  intro hm
  unfold y0v x5a at hm
  obtain ⟨r,hr,hm⟩:=List.mem_flatMap.1 hm
  obtain ⟨l,hl,hm⟩:=List.mem_flatMap.1 hm
  obtain ⟨y,hy,rfl⟩:=List.getElem_of_mem hr
  obtain ⟨n,hn,rfl⟩:=List.getElem_of_mem hl
  have e1:T.getD y []=T[y]:=by rw [List.getD,List.getElem?_eq_getElem hy];rfl
  have e2:lpA T y n=T[y][n]:=by unfold lpA;rw [e1,List.getD,List.getElem?_eq_getElem hn];rfl
  have h6:=h.six
  have:=(h.rts y (by omega) n (by unfold z2t;rw [e1];exact hn)).1.2.2.1 i (by rw [e2];unfold z4m;exact List.mem_append_left _ hm)
  exact hi this
 omega
theorem thq (ts:List TQ) (y n:Nat):(lpA (z2c ts) y n).th=((ts.getD y tq0).2.getD n lq0).ths:=by rw [z9p]
theorem y6e {ts:List TQ} {y n:Nat} (h:n<(ts.getD y tq0).2.length):z9d (z2c ts) y (n+1)=z9d (z2c ts) y n++((ts.getD y tq0).2.getD n lq0).ths:=by
 rw [x1v (by rw [z3c];exact h),thq]
theorem y5y {ts:List TQ} {y:Nat} (h:y<ts.length):z9d (z2c ts) (y+1) 0=z9d (z2c ts) y (ts.getD y tq0).2.length:=by
 rw [v4q (by rw [z6n];exact h),z3c]
theorem x4x {ts:List TQ} {y n k:Nat} (hT:∀i,(y0v (z2c ts)).count i<=1) (hy:y<ts.length) (hn:n<(ts.getD y tq0).2.length) (hk:k<((ts.getD y tq0).2.getD n lq0).ths.length) :
    ((z9d (z2c ts) y n++((ts.getD y tq0).2.getD n lq0).ths.take k++[((ts.getD y tq0).2.getD n lq0).ths.getD k id0]).count (((ts.getD y tq0).2.getD n lq0).ths.getD k id0))<=1:=by
  have h:=u2b (T:=z2c ts) (n:=n) (k:=k) (by rw [z6n];exact hy) (by rw [z3c];exact hn) (by rw [thq];exact hk)
  rw [thq] at h
  have h2:=hT (((ts.getD y tq0).2.getD n lq0).ths.getD k id0)
  rw [List.count_append,List.count_singleton,if_pos (by simp)]
  omega
def u1v (ts:List TQ) (i:Nat):Nat:=((ts.take i).map λp:TQ=>p.2.length).sum
theorem x9x {ts:List TQ} {i:Nat} (h:i<ts.length):u1v ts (i+1)=u1v ts i+(ts.getD i tq0).2.length:=by
 unfold u1v;rw [z5x tq0 h,List.map_append,List.sum_append];simp
theorem x7h (ts:List TQ):z4o (z2c ts)=(ts.map λp:TQ=>p.2.length).sum:=by
 unfold z4o z2c;rw [List.map_map];congr 1;apply List.map_congr_left;intro p _;simp
theorem u7v (ts:List TQ) (i:Nat):u1v ts i<=z4o (z2c ts):=by
 rw [x7h]
 conv=>rhs;rw [<-List.take_append_drop i ts,List.map_append,List.sum_append]
 unfold u1v;omega
theorem v9s (ts:List TQ):u1v ts ts.length=z4o (z2c ts):=by
 unfold u1v;rw [List.take_length,x7h]
theorem u6u {q:LpQ} {n:Nat} (h:n<q.ths.length):(z4m q.p).getD n id0=q.ths.getD n id0:=by
 show (q.ths++q.pas.map Pa.id).getD n id0=_
 simp only [List.getD,List.getElem?_append_left h]
theorem u5y {q:LpQ} {n:Nat} (h:q.ths.length<=n) (h2:n<(z4m q.p).length):(z4m q.p).getD n id0=(q.pas.getD (n-q.ths.length) pa0).id:=by
 have h3:n-q.ths.length<q.pas.length:=by
  have:(z4m q.p).length=q.ths.length+q.pas.length:=by simp [z4m]
  omega
 show (q.ths++q.pas.map Pa.id).getD n id0=_
 simp only [List.getD,List.getElem?_append_right h,List.getElem?_map,List.getElem?_eq_getElem h3];rfl
theorem x6a (q:LpQ):(z4m q.p).length=q.ths.length+q.pas.length:=by simp [z4m]
theorem TabV.has {T:Tb} (h:TabV T):Has T:=⟨h.ok.six,λy hy n hn i hi=>(h.ok.rts y hy n hn).1.2.2.1 i hi⟩
end Go.G21
namespace Go.Lw
open Go.RowKit
def MapZ {κ:Type} [DecidableEq κ] (V:κ->Value) (w:World) (g:Nat) (z:Value) (f:κ->Value):Prop:=
  ∃(es:Array MapEntry) (c:Nat) (m:List (κ×Value)),w.heap[g]?=some (.map es c)/\es.toList.map (λe=>(e.key,e.val))=m.map (λp=>(V p.1,p.2))/\(∀k,(z2i m k).getD z=f k)/\(es.toList.map (·.born)).Nodup/\∀e∈es.toList,e.born<c
def MapE {κ:Type} [DecidableEq κ] (V:κ->Value) (w:World) (g:Nat) (z:Value) (f:κ->Value) (k:κ) (st:Nat):Prop:=
  ∃(es:Array MapEntry) (c:Nat) (m:List (κ×Value)) (j:Nat),w.heap[g]?=some (.map es c)/\es.toList.map (λe=>(e.key,e.val))=m.map (λp=>(V p.1,p.2))/\(∀k,(z2i m k).getD z=f k)/\(es.toList.map (·.born)).Nodup/\(∀e∈es.toList,e.born<c)/\(m.map (·.1)).findIdx? (λx=>decide (k=x))=some j/\(es.toList[j]?).map (·.born)=some st
section
variable {κ:Type} [DecidableEq κ] {V:κ->Value} {P:Program} {K:TypeId}
theorem MapZ.fr {w w':World} {g:Nat} {z:Value} {f:κ->Value} {S:List Nat} (h:MapZ V w g z f) (hf:Fr S w w') (hn:∀k∈S,k∉[g]:=by simp[z0v]<;>omega):MapZ V w' g z f:=by
 obtain ⟨es,c,m,h1,h2⟩:=h
 exact ⟨es,c,m,(hf.block g (Array.getElem?_eq_some_iff.1 h1).1 (λh=>hn g h (by simp))).trans h1,h2⟩
theorem MapZ.ext {w w':World} {g:Nat} {z:Value} {f:κ->Value} (h:MapZ V w g z f) (hf:Fr [] w w'):MapZ V w' g z f:=h.fr hf (by simp)
theorem MapZ.lt {w:World} {g:Nat} {z:Value} {f:κ->Value} (h:MapZ V w g z f):g<w.heap.size:=let ⟨_,_,_,h1,_⟩:=h;(Array.getElem?_eq_some_iff.1 h1).1
theorem MapZ.ne_blk {w:World} {g g' T:Nat} {z:Value} {f:κ->Value} {cs:List Value} (h:MapZ V w g z f) (h':Blk w g' T cs):g≠g':=by
 rintro rfl;obtain ⟨_,_,_,h1,_⟩:=h;unfold Blk at h';rw [h'] at h1;cases h1
theorem MapE.map {w:World} {g st:Nat} {z:Value} {f:κ->Value} {k:κ} (h:MapE V w g z f k st):MapZ V w g z f:=
 let ⟨es,c,m,_,h1,h2,h3,h4,h5,_⟩:=h;⟨es,c,m,h1,h2,h3,h4,h5⟩
theorem x7w {l:List MapEntry} (hn:(l.map (·.born)).Nodup) {j st:Nat} (h:(l[j]?).map (·.born)=some st):l.findIdx? (λe=>((e.born:Nat):Int) == ((st:Nat):Int))=some j:=by
 induction l generalizing j with
 | nil=>simp at h
 | cons a r ih=>
  simp only [List.map_cons,List.nodup_cons] at hn
  cases j with
  | zero=>simp at h;subst h;simp [List.findIdx?_cons]
  | succ j=>
   simp only [List.getElem?_cons_succ] at h
   obtain ⟨e0,he,hs⟩:=Option.map_eq_some_iff.1 h
   have hne:a.born≠st:=λe1=>hn.1 (List.mem_map.2 ⟨e0,List.mem_of_getElem? he,hs.trans e1.symm⟩)
   have hb:(((a.born:Nat):Int) == ((st:Nat):Int))=false:=by
    simp only [beq_eq_false_iff_ne,ne_eq,Int.natCast_inj];exact hne
   rw [List.findIdx?_cons,hb]
   simp [ih hn.2 h]
theorem x3c {w:World} {g:Nat} {z:Value} {f:κ->Value} {t E:TypeId} (h:MapZ V w g z f) (hk:KeyLaw P K V) (hu:P.underlying t=some (.map K E)) (hz:(zeroValue E).run P w=.ok z w) (k:κ) :
    (Instr.lookup t (.map (some g)) (V k) false).run P w=.ok (f k) w:=by
  obtain ⟨es,c,m,h1,h2,h3,_⟩:=h
  rw [<-h3 k]
  exact y6d (f:=z2i m) ⟨es,c,m,h1,h2,λ_=>rfl⟩ hk hu hz k
theorem y7a {w:World} {g:Nat} {z:Value} {f:κ->Value} {t E:TypeId} (h:MapZ V w g z f) (hk:KeyLaw P K V) (hu:P.underlying t=some (.map K E)) (hz:∀w:World,(zeroValue E).run P w=.ok z w) (k:κ) :
    ∃w' st,(Instr.mapEntry t (.map (some g)) (V k)).run P w=.ok (.tuple #[f k,.int .i64 (st:Nat)]) w'/\MapE V w' g z f k st/\Fr [g] w w'/\w'.heap.size=w.heap.size:=by
  obtain ⟨es,c,m,h1,h2,h3,h4,h5⟩:=h
  have hlt:=(Array.getElem?_eq_some_iff.1 h1).1
  have hkeys:es.toList.map (·.key)=(m.map (·.1)).map V:=by
    have:=congrArg (List.map Prod.fst) h2
    simpa [List.map_map,Function.comp_def] using this
  have hfi:=hk.find k es.toList (m.map (·.1)) w hkeys
  have hset:∀o,(setObj g o).run P w=.ok () { w with heap:=w.heap.setIfInBounds g o }:=by intro o;simp [setObj,Sem.run,h1]
  have hfr:∀o,Fr [g] w { w with heap:=w.heap.setIfInBounds g o }:=λo=>⟨rfl,rfl,rfl,by simp,λi _ hn=>by
    simp only
    rw [Array.getElem?_setIfInBounds_ne (by intro e;subst e;simp at hn)]⟩
  have hheap:∀o,({ w with heap:=w.heap.setIfInBounds g o }:World).heap[g]?=some o:=by intro o;simp [hlt]
  have hlen:es.toList.length=m.length:=by have:=congrArg List.length h2;simpa using this
  have hval:=y1d (V:=V) m k es.toList h2
  cases hf:(m.map (·.1)).findIdx? (λx=>decide (k=x)) with
  | none=>
    rw [hf] at hfi hval
    simp only [Option.bind_none,Option.map_none] at hval
    have e0:f k=z:=by rw [<-h3 k,<-hval];rfl
    refine ⟨{ w with heap:=w.heap.setIfInBounds g (.map (es.push { key:=V k,val:=z,born:=c }) (c+1)) },c,?_,⟨_,_,m++[(k,z)],m.length,hheap (.map (es.push { key:=V k,val:=z,born:=c }) (c+1)),?_,λk'=>?_,?_,?_,?_,?_⟩,hfr _,by simp⟩
    · simp only [Instr.mapEntry,Sem.run_bind,run_underlying hu,Result.andThen_ok,z2k h1,hk.check,hfi,Option.bind_none,hz w,hset,Sem.run_pure,e0]
      rfl
    · simp [h2]
    · rw [y2c m k k' z hf,<-h3 k']
      split
      · rename_i e;subst e;rw [h3,e0];rfl
      · rfl
    · simp only [Array.toList_push,List.map_append,List.map_cons,List.map_nil]
      refine List.nodup_append.2 ⟨h4,by simp,λa ha b hb e=>?_⟩
      simp only [List.mem_singleton] at hb
      obtain ⟨x,hx,rfl⟩:=List.mem_map.1 ha
      have:=h5 x hx;omega
    · intro e he
      simp only [Array.toList_push,List.mem_append,List.mem_singleton] at he
      rcases he with he|rfl
      · have:=h5 e he;omega
      · simp
    · rw [List.map_append,List.findIdx?_append,hf];simp
    · simp only [Array.toList_push]
      rw [<-hlen,List.getElem?_append_right (Nat.le_refl _)];simp
  | some i=>
    have hi:i<m.length:=by
      have:=List.findIdx?_eq_some_iff_findIdx_eq.1 hf
      simpa using this.1
    have hi':i<es.toList.length:=by omega
    have hki:V k=(es.toList[i]).key:=by
      have hmem:=List.findIdx?_eq_some_iff_getElem.1 hf
      obtain ⟨hlt',hp,_⟩:=hmem
      have hp':k=(m.map (·.1))[i]:=by simpa using hp
      have e1:(es.toList.map (·.key))[i]?=((m.map (·.1)).map V)[i]?:=by rw [hkeys]
      simp only [List.getElem?_map,List.getElem?_eq_getElem hi',List.getElem?_eq_getElem hi,Option.map_some,Option.some.injEq] at e1
      rw [e1,hp'];simp
    have hes:es[i]?=some es.toList[i]:=by rw [<-Array.getElem?_toList,List.getElem?_eq_getElem hi']
    have hstay:(Instr.keyThatStays (((es[i]?).map (·.key)).getD (V k)) (V k)).run P w=.ok (V k) w:=by
      rw [hes]
      simp only [Option.map_some,Option.getD_some,<-hki,Instr.keyThatStays,hk.bits,if_true,Sem.run_pure]
    have hsame:es.modify i (λe=>{ e with key:=V k })=es:=by
      apply Array.ext'
      rw [Array.toList_modify]
      apply List.ext_getElem?
      intro j
      rw [List.getElem?_modify]
      by_cases hj:i=j
      · subst hj
        rw [List.getElem?_eq_getElem hi']
        simp only [Option.map_eq_map,Option.map_some,if_pos,Option.some.injEq]
        rw [hki]
      · simp [hj]
    rw [hf] at hfi hval
    simp only [Option.bind_some,List.getElem?_eq_getElem hi',Option.map_some] at hfi hval
    have e0:f k=es.toList[i].val:=by rw [<-h3 k,<-hval];rfl
    refine ⟨{ w with heap:=w.heap.setIfInBounds g (.map es c) },es.toList[i].born,?_,⟨es,c,m,i,hheap _,h2,h3,h4,h5,hf,?_⟩,hfr _,by simp⟩
    · simp only [Instr.mapEntry,Sem.run_bind,run_underlying hu,Result.andThen_ok,z2k h1,hk.check,hfi,hstay,hset,hsame,Sem.run_pure,e0]
      rw [hes];rfl
    · rw [List.getElem?_eq_getElem hi'];rfl
theorem y4h {w:World} {g st:Nat} {z v:Value} {f:κ->Value} {t:TypeId} {k:κ} (h:MapE V w g z f k st) :
    ∃w',(Instr.entryStore t (.map (some g)) (.int .i64 (st:Nat)) v).run P w=.ok () w'/\MapZ V w' g z (λk'=>if k'=k then v else f k')/\Fr [g] w w'/\w'.heap.size=w.heap.size:=by
  obtain ⟨es,c,m,j,h1,h2,h3,h4,h5,h6,h7⟩:=h
  have hlt:=(Array.getElem?_eq_some_iff.1 h1).1
  have hset:∀o,(setObj g o).run P w=.ok () { w with heap:=w.heap.setIfInBounds g o }:=by intro o;simp [setObj,Sem.run,h1]
  have hfr:∀o,Fr [g] w { w with heap:=w.heap.setIfInBounds g o }:=λo=>⟨rfl,rfl,rfl,by simp,λi _ hn=>by
    simp only
    rw [Array.getElem?_setIfInBounds_ne (by intro e;subst e;simp at hn)]⟩
  have hheap:∀o,({ w with heap:=w.heap.setIfInBounds g o }:World).heap[g]?=some o:=by intro o;simp [hlt]
  have hidx:es.findIdx? (λe=>((e.born:Nat):Int) == ((st:Nat):Int))=some j:=by
    have e:es.findIdx? (λe=>((e.born:Nat):Int) == ((st:Nat):Int))=es.toList.findIdx? (λe=>((e.born:Nat):Int) == ((st:Nat):Int)):=by cases es;simp
    rw [e];exact x7w h4 h7
  have hi:j<m.length:=by
    have:=List.findIdx?_eq_some_iff_findIdx_eq.1 h6
    simpa using this.1
  refine ⟨{ w with heap:=w.heap.setIfInBounds g (.map (es.modify j λe=>{ e with val:=v }) c) },?_,⟨_,c,m.modify j λp=>(p.1,v),hheap _,?_,λk'=>?_,?_,?_⟩,hfr _,by simp⟩
  · simp only [Instr.entryStore,Sem.run_bind,Result.andThen_ok,z2k h1,asInt,asIntOf,Sem.run_pure,hidx,hset]
  · rw [Array.toList_modify]
    apply List.ext_getElem?
    intro i
    have e2:=congrArg (·[i]?) h2
    simp only [List.getElem?_map] at e2 ⊢
    rw [List.getElem?_modify,List.getElem?_modify]
    by_cases hj:j=i
    · subst hj
      simp only [Option.map_eq_map,if_pos]
      cases he:es.toList[j]? with
      | none=>rw [he] at e2;cases hm:m[j]? with
        | none=>rfl
        | some p=>rw [hm] at e2;cases e2
      | some e=>rw [he] at e2;cases hm:m[j]? with
        | none=>rw [hm] at e2;cases e2
        | some p=>
          rw [hm] at e2
          simp only [Option.map_some,Option.some.injEq,Prod.mk.injEq] at e2 ⊢
          first|exact ⟨e2.1,rfl⟩|exact ⟨e2.1,trivial⟩|simp [e2.1]
    · simp only [Option.map_eq_map,if_neg hj];simpa using e2
  · rw [z8f k k' v m j h6]
    show _=if k'=k then v else f k'
    split
    · rfl
    · exact h3 k'
  · rw [Array.toList_modify]
    have e:(es.toList.modify j λe=>{ e with val:=v }).map (·.born)=es.toList.map (·.born):=by
      apply List.ext_getElem?
      intro i
      rw [List.getElem?_map,List.getElem?_map,List.getElem?_modify]
      split
      · cases es.toList[i]?<;>rfl
      · simp
    rw [e];exact h4
  · intro e he
    rw [Array.toList_modify] at he
    obtain ⟨i,hi2,rfl⟩:=List.getElem_of_mem he
    rw [List.length_modify] at hi2
    rw [List.getElem_modify]
    have:=h5 _ (List.getElem_mem hi2)
    split<;>exact this
variable {a:Act} {n:Nat} {L:List (Nat×Value)} {ds:List Nat} {w w':World} {Q:Exit->Act->World->Prop} {ops:Array Oper} {rest:List Oper}
variable {d:Nat} {ty:TypeId} {pos:String} {after:Array Edge} {x y z':Operand} {t E:TypeId} {g st:Nat} {f:κ->Value} {k:κ} {v z:Value}
theorem x3o (V:κ->Value) (z:Value) (h:AgM ds a n L) (hn:Nat.blt d n=true)
    (q:∀g w',g=w.heap.size->MapZ V w' g z (λ_=>z)->Fr [] w w'->w'.heap.size=g+1->∀a,AgM ds a n ((d,.map (some g))::L)->wpList P ops Q rest a w'):wpList P ops Q (⟨some d,.makeMap t none,ty,pos,after,none⟩::rest) a w:=
  z1u h rfl rfl hn (w':=w.alloc (.map #[] 0)) (by simp [execOp,Instr.makeMap]) (q _ _ rfl ⟨_,_,[],heap_alloc_new w _,by simp,λ_=>rfl,by simp,by simp⟩ (Fr.alloc [] w _) (by simp))
theorem y6h (V:κ->Value) (z:Value) (hn:Nat.blt d n=true) (q:∀g w',g=w.heap.size->MapZ V w' g z (λ_=>z)->Fr [] w w'->w'.heap.size=g+1->WL P ops Q rest n ds w' ((d,.map (some g))::L)):WL P ops Q (⟨some d,.makeMap t none,ty,pos,after,none⟩::rest) n ds w L:=λa h=>x3o V z h hn q
theorem z7c (h:AgM ds a n L) (hx:ev L x=some (.map (some g))) (hy:ev L y=some (V k)) (hm:MapZ V w g z f) (hk:KeyLaw P K V) (hu:P.underlying t=some (.map K E)) (hz:∀w:World,(zeroValue E).run P w=.ok z w) (hv:f k=v) (hn:Nat.blt d n=true)
    (q:∀a,AgM ds a n ((d,v)::L)->wpList P ops Q rest a w):wpList P ops Q (⟨some d,.lookup t x y false,ty,pos,after,none⟩::rest) a w:=
  z1u h rfl rfl hn (by rw [<-hv];simp [execOp,h.eval hx,h.eval hy,x3c hm hk hu (hz w) k]) q
theorem y3g (hx:ev L x=some (.map (some g))) (hy:ev L y=some (V k)) (hm:MapZ V w g z f) (hk:KeyLaw P K V) (hu:P.underlying t=some (.map K E)) (hz:∀w:World,(zeroValue E).run P w=.ok z w) (hv:f k=v) (hn:Nat.blt d n=true)
 (q:WL P ops Q rest n ds w ((d,v)::L)):WL P ops Q (⟨some d,.lookup t x y false,ty,pos,after,none⟩::rest) n ds w L:=λa h=>z7c h hx hy hm hk hu hz hv hn q
theorem z6f (h:AgM ds a n L) (hx:ev L x=some (.map (some g))) (hy:ev L y=some (V k)) (hm:MapZ V w g z f) (hk:KeyLaw P K V) (hu:P.underlying t=some (.map K E)) (hz:∀w:World,(zeroValue E).run P w=.ok z w) (hn:Nat.blt d n=true)
    (q:∀w' st,MapE V w' g z f k st->Fr [g] w w'->w'.heap.size=w.heap.size->∀a,AgM ds a n ((d,.tuple #[f k,.int .i64 (st:Nat)])::L)->wpList P ops Q rest a w'):wpList P ops Q (⟨some d,.mapEntry t x y,ty,pos,after,none⟩::rest) a w:=by
  obtain ⟨w',st,hr,h1,h2,h3⟩:=y7a hm hk hu hz k
  exact z1u h rfl rfl hn (w':=w') (by simp [execOp,h.eval hx,h.eval hy,hr]) (q w' st h1 h2 h3)
theorem z4w {s:Operand} (h:AgM ds a n L) (hx:ev L x=some (.map (some g))) (hs:ev L s=some (.int .i64 (st:Nat))) (hy:ev L y=some v) (hm:MapE V w g z f k st)
    (q:∀w',MapZ V w' g z (λk'=>if k'=k then v else f k')->Fr [g] w w'->w'.heap.size=w.heap.size->∀a,AgM ds a n L->wpList P ops Q rest a w'):wpList P ops Q (⟨none,.entryStore t x s y,ty,pos,after,none⟩::rest) a w:=by
  obtain ⟨w',hr,h1,h2,h3⟩:=y4h (P:=P) (t:=t) (v:=v) hm
  exact z8i h rfl rfl (w':=w') (by simp [execOp,h.eval hx,h.eval hs,h.eval hy,hr]) (q w' h1 h2 h3)
end
end Go.Lw
namespace Go.Lw
open Go.RowKit
theorem x7v {w:World} {ad:Addr} {cs vs:List Value} {off:Nat} (h:Cells w ad cs) (hv:(cs.drop off).take vs.length=vs):Cells w (ad.add off) vs:=λj u hu=>by
 rw [<-hv] at hu
 rw [List.getElem?_take] at hu
 split at hu
 ·rw [List.getElem?_drop] at hu
  rw [z8v];exact h _ u hu
 cases hu
section
variable {P:Program} {a:Act} {n:Nat} {L:List (Nat×Value)} {ds:List Nat} {w:World} {Q:Exit->Act->World->Prop} {ops:Array Oper} {rest:List Oper} {d g p:Nat} {ty t:TypeId} {pos:String} {after:Array Edge} {x:Operand} {l:List UInt8}
end
end Go.Lw
namespace Go.Lw
open Go.RowKit
section
variable {P:Program} {a:Act} {n:Nat} {L:List (Nat×Value)} {ds:List Nat} {w:World} {Q:Exit->Act->World->Prop} {ops:Array Oper} {rest:List Oper} {d:Nat} {ty t T:TypeId} {pos:String} {after:Array Edge} {x:Operand}
end
section
variable {P:Program} {a:Act} {n:Nat} {L:List (Nat×Value)} {ds:List Nat} {w:World} {Q:Exit->Act->World->Prop} {ops:Array Oper} {rest:List Oper} {d:Nat} {ty t T:TypeId} {pos:String} {after:Array Edge} {x y:Operand} {k:IntKind} {i:Int}
end
end Go.Lw
namespace Go.Proofs.YtpgdchkdlgkmgaaGreatDoor
open Go.Lw Go.G21 Go.G08 _root_.Go.Proofs.Tryz
theorem y5d:ElemOf prog 35 46 z4c 24:=ElemOf.mk' (z:=(.slice none 0 0)) underlying35 (by kernel_rfl) rfl
theorem x2r:z2b prog 46:=λ_=>by kernel_rfl
theorem v0c (i:LId) (v:Value) (ts:List TQ) (w0:World) (hs:Sl z4c w0 v ts) (hk:TabAt w0 ts) (hl:ts.length<=200) (hi:0<=i.y/\i.y<=255):Rets prog 250 #[v,.agg #[.int .u8 i.y,.int .i64 i.n]] w0 λr w'=>r=.bool (decide (z4b (z2c ts) i))/\Fr [] w0 w':=by
 obtain ⟨A,c,rfl,hcc,hM,hA⟩:=id hs
 clear hA
 unfold maxLen at hM
 have hrl:=z4s hk
 have hr1:=hrl (i.y-1).toNat
 refine we [(0,.slice A ts.length c),(1,.agg #[.int .u8 i.y,.int .i64 i.n])] func250 rfl ntmps250 rfl (.c2 rfl rfl) ?_
 have hs0:=hs
 have hk0:=hk
 refine sr (bx rfl rfl rfl (λg3 w1 hg3 hb3 q1 z1=>(asg rfl (nn (sq ?_)))))
 replace hs:=hs0.ext q1
 replace hk:=hk0.ext q1
 intro a h
 refine y2f z2r (by kernel_rfl) (z2m h rfl z7e rfl λa h=>z4y h rfl (λ_ hw=>hb3.ext hw) rfl na5 rfl λa h=>v9u h rfl rfl rfl λa h=>z3q h rfl rfl λa h=>gSp (D:=8) h rfl ?_ ?_)
 ·clear h;intro g0 h
  refine z2g h rfl rfl rfl rfl rfl rfl (z2m h rfl z7e rfl λa h=>z2g h rfl rfl rfl rfl rfl rfl (z4y h rfl (λ_ hw=>hb3.ext hw) rfl na5 rfl λa h=>z2g h rfl rfl rfl rfl rfl rfl ?_))
  refine v4n h rfl (by rw [underlying5];rfl) underlying3 (by first|exact i6 (by omega)|rfl) rfl λa h=>?_
  refine z2g h rfl rfl rfl rfl rfl rfl (z3q h rfl rfl λa h=>z2g h rfl rfl rfl rfl rfl rfl (y9t h rfl underlying35 rfl λa h=>z2g h rfl rfl rfl rfl rfl rfl (j1b h rfl rfl rfl λa h=>?_)))
  refine z7g h rfl rfl rfl rfl λa h=>z3q h rfl rfl λa h=>gSp (D:=16) h rfl ?_ ?_
  ·clear h;intro g1 h
   refine z2g h rfl rfl rfl rfl rfl rfl (z2m h rfl z8j rfl λa h=>z2g h rfl rfl rfl rfl rfl rfl (z4y h rfl (λ_ hw=>hb3.ext hw) rfl na3 rfl λa h=>z2g h rfl rfl rfl rfl rfl rfl (v9u h rfl rfl rfl λa h=>?_)))
   refine z7g h rfl rfl rfl rfl λa h=>z3q h rfl rfl λa h=>gSp (D:=21) h rfl ?_ ?_
   ·clear h;intro g2 h
    refine z2g h rfl rfl rfl rfl rfl rfl (z2m h rfl z8j rfl λa h=>z2g h rfl rfl rfl rfl rfl rfl (z4y h rfl (λ_ hw=>hb3.ext hw) rfl na3 rfl λa h=>z2g h rfl rfl rfl rfl rfl rfl (z3q h rfl rfl λa h=>?_)))
    refine z2g h rfl rfl rfl rfl rfl rfl (z2m h rfl z7e rfl λa h=>z2g h rfl rfl rfl rfl rfl rfl (z4y h rfl (λ_ hw=>hb3.ext hw) rfl na5 rfl λa h=>z2g h rfl rfl rfl rfl rfl rfl (u1f h rfl rfl (by first|exact IntWalk.u8_in _ (by omega)|rfl) rfl λa h=>?_)))
    refine z2g h rfl rfl rfl rfl rfl rfl (v2b (tq0) h rfl hs rfl y5d (by omega) (by omega) rfl rfl λad28 hc28 a h=>z2g h rfl rfl rfl rfl rfl rfl (x0i h rfl (λ_ hw=>hc28 _ (hs.ext hw)) x2r rfl λa h=>z2g h rfl rfl rfl rfl rfl rfl (y9t h rfl underlying46 rfl λa h=>?_)))
    refine z2g h rfl rfl rfl rfl rfl rfl (j0h h rfl rfl rfl λa h=>z7g h rfl rfl rfl rfl λa h=>z5d h rfl rfl λa h=>wpQuiet_nil ?_)
    intro w2 q2
    refine bk (h.sub (L':=[(4,_)]) (.cons rfl .nil)) (tn (rt (r1 results250 rfl ?_)))
    exact ⟨_,rfl,by first|exact congrArg Value.bool (decide_eq_decide.2 (by rw [z2e];omega))|exact congrArg Value.bool (decide_eq_false (by rw [z2e];omega)).symm|exact congrArg Value.bool (decide_eq_true (by rw [z2e];omega)).symm,(q1.n1 q2)⟩
   clear h;intro g2 h
   refine z1m h rfl rfl rfl rfl rfl rfl rfl rfl λa h=>z1m h rfl rfl rfl rfl rfl rfl rfl rfl λa h=>z1m h rfl rfl rfl rfl rfl rfl rfl rfl λa h=>z1m h rfl rfl rfl rfl rfl rfl rfl rfl λa h=>z1m h rfl rfl rfl rfl rfl rfl rfl rfl λa h=>z1m h rfl rfl rfl rfl rfl rfl rfl rfl λa h=>?_
   refine z1m h rfl rfl rfl rfl rfl rfl rfl rfl λa h=>z1m h rfl rfl rfl rfl rfl rfl rfl rfl λa h=>z1m h rfl rfl rfl rfl rfl rfl rfl rfl λa h=>z1m h rfl rfl rfl rfl rfl rfl rfl rfl λa h=>z3f h rfl rfl rfl rfl λa h=>z5d h rfl rfl λa h=>?_
   refine wpQuiet_nil ?_
   intro w3 q3
   refine bk (h.sub (L':=[(4,_)]) (.cons rfl .nil)) (tn (rt (r1 results250 rfl ?_)))
   exact ⟨_,rfl,by first|exact congrArg Value.bool (decide_eq_decide.2 (by rw [z2e];omega))|exact congrArg Value.bool (decide_eq_false (by rw [z2e];omega)).symm|exact congrArg Value.bool (decide_eq_true (by rw [z2e];omega)).symm,(q1.n1 q3)⟩
  clear h;intro g1 h
  refine z1m h rfl rfl rfl rfl rfl rfl rfl rfl λa h=>z1m h rfl rfl rfl rfl rfl rfl rfl rfl λa h=>z1m h rfl rfl rfl rfl rfl rfl rfl rfl λa h=>z3f h rfl rfl rfl rfl λa h=>z3q h rfl rfl λa h=>z1m h rfl rfl rfl rfl rfl rfl rfl rfl λa h=>?_
  refine z1m h rfl rfl rfl rfl rfl rfl rfl rfl λa h=>z1m h rfl rfl rfl rfl rfl rfl rfl rfl λa h=>z1m h rfl rfl rfl rfl rfl rfl rfl rfl λa h=>z1m h rfl rfl rfl rfl rfl rfl rfl rfl λa h=>z1m h rfl rfl rfl rfl rfl rfl rfl rfl λa h=>z1m h rfl rfl rfl rfl rfl rfl rfl rfl λa h=>?_
  refine z1m h rfl rfl rfl rfl rfl rfl rfl rfl λa h=>z1m h rfl rfl rfl rfl rfl rfl rfl rfl λa h=>z1m h rfl rfl rfl rfl rfl rfl rfl rfl λa h=>z3f h rfl rfl rfl rfl λa h=>z5d h rfl rfl λa h=>wpQuiet_nil ?_
  intro w4 q4
  refine bk (h.sub (L':=[(4,_)]) (.cons rfl .nil)) (tn (rt (r1 results250 rfl ?_)))
  exact ⟨_,rfl,by first|exact congrArg Value.bool (decide_eq_decide.2 (by rw [z2e];omega))|exact congrArg Value.bool (decide_eq_false (by rw [z2e];omega)).symm|exact congrArg Value.bool (decide_eq_true (by rw [z2e];omega)).symm,(q1.n1 q4)⟩
 clear h;intro g0 h
 refine z1m h rfl rfl rfl rfl rfl rfl rfl rfl λa h=>z1m h rfl rfl rfl rfl rfl rfl rfl rfl λa h=>z1m h rfl rfl rfl rfl rfl rfl rfl rfl λa h=>z1m h rfl rfl rfl rfl rfl rfl rfl rfl λa h=>z1m h rfl rfl rfl rfl rfl rfl rfl rfl λa h=>z1m h rfl rfl rfl rfl rfl rfl rfl rfl λa h=>?_
 refine z3f h rfl rfl rfl rfl λa h=>z3q h rfl rfl λa h=>z1m h rfl rfl rfl rfl rfl rfl rfl rfl λa h=>z1m h rfl rfl rfl rfl rfl rfl rfl rfl λa h=>z1m h rfl rfl rfl rfl rfl rfl rfl rfl λa h=>z3f h rfl rfl rfl rfl λa h=>?_
 refine z3q h rfl rfl λa h=>z1m h rfl rfl rfl rfl rfl rfl rfl rfl λa h=>z1m h rfl rfl rfl rfl rfl rfl rfl rfl λa h=>z1m h rfl rfl rfl rfl rfl rfl rfl rfl λa h=>z1m h rfl rfl rfl rfl rfl rfl rfl rfl λa h=>z1m h rfl rfl rfl rfl rfl rfl rfl rfl λa h=>?_
 refine z1m h rfl rfl rfl rfl rfl rfl rfl rfl λa h=>z1m h rfl rfl rfl rfl rfl rfl rfl rfl λa h=>z1m h rfl rfl rfl rfl rfl rfl rfl rfl λa h=>z1m h rfl rfl rfl rfl rfl rfl rfl rfl λa h=>z1m h rfl rfl rfl rfl rfl rfl rfl rfl λa h=>z3f h rfl rfl rfl rfl λa h=>?_
 refine z5d h rfl rfl λa h=>wpQuiet_nil ?_
 intro w5 q5
 refine bk (h.sub (L':=[(4,_)]) (.cons rfl .nil)) (tn (rt (r1 results250 rfl ?_)))
 exact ⟨_,rfl,by first|exact congrArg Value.bool (decide_eq_decide.2 (by rw [z2e];omega))|exact congrArg Value.bool (decide_eq_false (by rw [z2e];omega)).symm|exact congrArg Value.bool (decide_eq_true (by rw [z2e];omega)).symm,(q1.n1 q5)⟩
theorem x4j (i:LId) (v:Value) (ts:List TQ) (w0:World) (hs:Sl z4c w0 v ts) (hk:TabAt w0 ts) (hl:ts.length<=200) (hi:0<=i.y/\i.y<=255):Rets prog 138 #[v,.agg #[.int .u8 i.y,.int .i64 i.n]] w0 λr w'=>r=.bool (decide (z4b (z2c ts) i))/\Fr [] w0 w':=by
 obtain ⟨A,c,rfl,hcc,hM,hA⟩:=id hs
 clear hA
 unfold maxLen at hM
 have hrl:=z4s hk
 have hr1:=hrl (i.y-1).toNat
 refine we [(0,.slice A ts.length c),(1,.agg #[.int .u8 i.y,.int .i64 i.n])] func138 rfl ntmps138 rfl (.c2 rfl rfl) ?_
 have hs0:=hs
 have hk0:=hk
 refine sr (bx rfl rfl rfl (λg3 w1 hg3 hb3 q1 z1=>(asg rfl (nn (sq ?_)))))
 replace hs:=hs0.ext q1
 replace hk:=hk0.ext q1
 intro a h
 refine y2f z2r (by kernel_rfl) (z2m h rfl z7e rfl λa h=>z4y h rfl (λ_ hw=>hb3.ext hw) rfl na5 rfl λa h=>v9u h rfl rfl rfl λa h=>z3q h rfl rfl λa h=>gSp (D:=8) h rfl ?_ ?_)
 ·clear h;intro g0 h
  refine z2g h rfl rfl rfl rfl rfl rfl (z2m h rfl z7e rfl λa h=>z2g h rfl rfl rfl rfl rfl rfl (z4y h rfl (λ_ hw=>hb3.ext hw) rfl na5 rfl λa h=>z2g h rfl rfl rfl rfl rfl rfl ?_))
  refine v4n h rfl (by rw [underlying5];rfl) underlying3 (by first|exact i6 (by omega)|rfl) rfl λa h=>?_
  refine z2g h rfl rfl rfl rfl rfl rfl (z3q h rfl rfl λa h=>z2g h rfl rfl rfl rfl rfl rfl (y9t h rfl underlying35 rfl λa h=>z2g h rfl rfl rfl rfl rfl rfl (j1b h rfl rfl rfl λa h=>?_)))
  refine z7g h rfl rfl rfl rfl λa h=>z3q h rfl rfl λa h=>gSp (D:=16) h rfl ?_ ?_
  ·clear h;intro g1 h
   refine z2g h rfl rfl rfl rfl rfl rfl (z2m h rfl z8j rfl λa h=>z2g h rfl rfl rfl rfl rfl rfl (z4y h rfl (λ_ hw=>hb3.ext hw) rfl na3 rfl λa h=>z2g h rfl rfl rfl rfl rfl rfl (v9u h rfl rfl rfl λa h=>?_)))
   refine z7g h rfl rfl rfl rfl λa h=>z3q h rfl rfl λa h=>gSp (D:=21) h rfl ?_ ?_
   ·clear h;intro g2 h
    refine z2g h rfl rfl rfl rfl rfl rfl (z2m h rfl z8j rfl λa h=>z2g h rfl rfl rfl rfl rfl rfl (z4y h rfl (λ_ hw=>hb3.ext hw) rfl na3 rfl λa h=>z2g h rfl rfl rfl rfl rfl rfl (z3q h rfl rfl λa h=>?_)))
    refine z2g h rfl rfl rfl rfl rfl rfl (z2m h rfl z7e rfl λa h=>z2g h rfl rfl rfl rfl rfl rfl (z4y h rfl (λ_ hw=>hb3.ext hw) rfl na5 rfl λa h=>z2g h rfl rfl rfl rfl rfl rfl (u1f h rfl rfl (by first|exact IntWalk.u8_in _ (by omega)|rfl) rfl λa h=>?_)))
    refine z2g h rfl rfl rfl rfl rfl rfl (v2b (tq0) h rfl hs rfl y5d (by omega) (by omega) rfl rfl λad28 hc28 a h=>z2g h rfl rfl rfl rfl rfl rfl (x0i h rfl (λ_ hw=>hc28 _ (hs.ext hw)) x2r rfl λa h=>z2g h rfl rfl rfl rfl rfl rfl (y9t h rfl underlying46 rfl λa h=>?_)))
    refine z2g h rfl rfl rfl rfl rfl rfl (j0h h rfl rfl rfl λa h=>z7g h rfl rfl rfl rfl λa h=>z5d h rfl rfl λa h=>wpQuiet_nil ?_)
    intro w2 q2
    refine bk (h.sub (L':=[(4,_)]) (.cons rfl .nil)) (tn (rt (r1 results138 rfl ?_)))
    exact ⟨_,rfl,by first|exact congrArg Value.bool (decide_eq_decide.2 (by rw [z2e];omega))|exact congrArg Value.bool (decide_eq_false (by rw [z2e];omega)).symm|exact congrArg Value.bool (decide_eq_true (by rw [z2e];omega)).symm,(q1.n1 q2)⟩
   clear h;intro g2 h
   refine z1m h rfl rfl rfl rfl rfl rfl rfl rfl λa h=>z1m h rfl rfl rfl rfl rfl rfl rfl rfl λa h=>z1m h rfl rfl rfl rfl rfl rfl rfl rfl λa h=>z1m h rfl rfl rfl rfl rfl rfl rfl rfl λa h=>z1m h rfl rfl rfl rfl rfl rfl rfl rfl λa h=>z1m h rfl rfl rfl rfl rfl rfl rfl rfl λa h=>?_
   refine z1m h rfl rfl rfl rfl rfl rfl rfl rfl λa h=>z1m h rfl rfl rfl rfl rfl rfl rfl rfl λa h=>z1m h rfl rfl rfl rfl rfl rfl rfl rfl λa h=>z1m h rfl rfl rfl rfl rfl rfl rfl rfl λa h=>z3f h rfl rfl rfl rfl λa h=>z5d h rfl rfl λa h=>?_
   refine wpQuiet_nil ?_
   intro w3 q3
   refine bk (h.sub (L':=[(4,_)]) (.cons rfl .nil)) (tn (rt (r1 results138 rfl ?_)))
   exact ⟨_,rfl,by first|exact congrArg Value.bool (decide_eq_decide.2 (by rw [z2e];omega))|exact congrArg Value.bool (decide_eq_false (by rw [z2e];omega)).symm|exact congrArg Value.bool (decide_eq_true (by rw [z2e];omega)).symm,(q1.n1 q3)⟩
  clear h;intro g1 h
  refine z1m h rfl rfl rfl rfl rfl rfl rfl rfl λa h=>z1m h rfl rfl rfl rfl rfl rfl rfl rfl λa h=>z1m h rfl rfl rfl rfl rfl rfl rfl rfl λa h=>z3f h rfl rfl rfl rfl λa h=>z3q h rfl rfl λa h=>z1m h rfl rfl rfl rfl rfl rfl rfl rfl λa h=>?_
  refine z1m h rfl rfl rfl rfl rfl rfl rfl rfl λa h=>z1m h rfl rfl rfl rfl rfl rfl rfl rfl λa h=>z1m h rfl rfl rfl rfl rfl rfl rfl rfl λa h=>z1m h rfl rfl rfl rfl rfl rfl rfl rfl λa h=>z1m h rfl rfl rfl rfl rfl rfl rfl rfl λa h=>z1m h rfl rfl rfl rfl rfl rfl rfl rfl λa h=>?_
  refine z1m h rfl rfl rfl rfl rfl rfl rfl rfl λa h=>z1m h rfl rfl rfl rfl rfl rfl rfl rfl λa h=>z1m h rfl rfl rfl rfl rfl rfl rfl rfl λa h=>z3f h rfl rfl rfl rfl λa h=>z5d h rfl rfl λa h=>wpQuiet_nil ?_
  intro w4 q4
  refine bk (h.sub (L':=[(4,_)]) (.cons rfl .nil)) (tn (rt (r1 results138 rfl ?_)))
  exact ⟨_,rfl,by first|exact congrArg Value.bool (decide_eq_decide.2 (by rw [z2e];omega))|exact congrArg Value.bool (decide_eq_false (by rw [z2e];omega)).symm|exact congrArg Value.bool (decide_eq_true (by rw [z2e];omega)).symm,(q1.n1 q4)⟩
 clear h;intro g0 h
 refine z1m h rfl rfl rfl rfl rfl rfl rfl rfl λa h=>z1m h rfl rfl rfl rfl rfl rfl rfl rfl λa h=>z1m h rfl rfl rfl rfl rfl rfl rfl rfl λa h=>z1m h rfl rfl rfl rfl rfl rfl rfl rfl λa h=>z1m h rfl rfl rfl rfl rfl rfl rfl rfl λa h=>z1m h rfl rfl rfl rfl rfl rfl rfl rfl λa h=>?_
 refine z3f h rfl rfl rfl rfl λa h=>z3q h rfl rfl λa h=>z1m h rfl rfl rfl rfl rfl rfl rfl rfl λa h=>z1m h rfl rfl rfl rfl rfl rfl rfl rfl λa h=>z1m h rfl rfl rfl rfl rfl rfl rfl rfl λa h=>z3f h rfl rfl rfl rfl λa h=>?_
 refine z3q h rfl rfl λa h=>z1m h rfl rfl rfl rfl rfl rfl rfl rfl λa h=>z1m h rfl rfl rfl rfl rfl rfl rfl rfl λa h=>z1m h rfl rfl rfl rfl rfl rfl rfl rfl λa h=>z1m h rfl rfl rfl rfl rfl rfl rfl rfl λa h=>z1m h rfl rfl rfl rfl rfl rfl rfl rfl λa h=>?_
 refine z1m h rfl rfl rfl rfl rfl rfl rfl rfl λa h=>z1m h rfl rfl rfl rfl rfl rfl rfl rfl λa h=>z1m h rfl rfl rfl rfl rfl rfl rfl rfl λa h=>z1m h rfl rfl rfl rfl rfl rfl rfl rfl λa h=>z1m h rfl rfl rfl rfl rfl rfl rfl rfl λa h=>z3f h rfl rfl rfl rfl λa h=>?_
 refine z5d h rfl rfl λa h=>wpQuiet_nil ?_
 intro w5 q5
 refine bk (h.sub (L':=[(4,_)]) (.cons rfl .nil)) (tn (rt (r1 results138 rfl ?_)))
 exact ⟨_,rfl,by first|exact congrArg Value.bool (decide_eq_decide.2 (by rw [z2e];omega))|exact congrArg Value.bool (decide_eq_false (by rw [z2e];omega)).symm|exact congrArg Value.bool (decide_eq_true (by rw [z2e];omega)).symm,(q1.n1 q5)⟩
theorem v6v (u:Value) (A:Option Addr) (m c:Nat) (w0:World) (hm:m=0):Rets prog 198 #[u,.slice A m c] w0 λr w'=>r=u/\Fr [] w0 w':=by
 refine we [(0,u),(1,.slice A m c)] func198 rfl ntmps198 rfl (.c2 rfl rfl) (sr (asg rfl (nn (sq (sr (mv rfl (lnS rfl underlying54 (mv rfl (nn (bl ?_))))))))))
 refine lpK (ι:=Nat) [(0,_),(8,_),(9,_)] (λk=>[(10,.int .i64 (k:Int))]) (λk w'=>Fr [] w0 w'/\k<=m) (λk=>m-k) 0 (.c4 rfl rfl rfl rfl) ⟨Fr.refl _ _,Nat.zero_le _⟩ ?_
 rintro k w1 ⟨q1,hi⟩
 refine kpC [(0,_),(8,_),(9,_),(10,_)] (.c4 rfl rfl rfl rfl) (sr (lt' rfl rfl ?_))
 rw [show decide ((k:Int)<(m:Int))=false from decide_eq_false (by omega)]
 refine nn (sq (cf rfl (ex (te (te (xh (tn (sr (mv rfl (asg rfl (kpL [(4,_)] (.cons rfl .nil) (nn (rt (r1 results198 rfl ?_))))))))))))))
 exact ⟨_,rfl,rfl,q1⟩
theorem v6f (base:Nat) (u v:Value) (l:List Pa) (wS w0:World) (ho:Lw.Own z1t 100 base w0 u []) (hS:Sl z1t wS v l) (hs:Sl z1t w0 v l) (hb:wS.heap.size<=base) (hb2:base<=w0.heap.size) (hn:l.length<=100000):Rets prog 198 #[u,v] w0 λr w'=>∃S,Lw.Own z1t 100 base w' r (z4n [] l)/\(∀k∈S,base<=k)/\Fr S w0 w':=by
 by_cases e:l=[]
 ·subst e
  obtain ⟨A,c,rfl,_⟩:=hs.form
  refine Rets.mono (v6v u A _ c w0 rfl) ?_
  rintro r w' ⟨rfl,hf⟩
  exact ⟨[],ho.ext hf,by simp,hf⟩
 exact v2e base u v [] l w0 ho hs (λk hk=>by have:=hS.blk e k hk;omega) hb2 (by simpa using hn)
theorem v2s (v:Value) (l:List Pa) (w0:World) (hs:Sl z1t w0 v l) (hl:l.length<=50000):Rets prog 251 #[v] w0 λr w'=>∃A,r=.slice A (z4n [] l).length (z4n [] l).length/\Fr [] w0 w':=by
 obtain ⟨A,c,rfl,hcc,hM,hA⟩:=id hs
 clear hA
 unfold maxLen at hM
 refine we [(0,.slice A l.length c)] func251 rfl ntmps251 rfl (.cons rfl .nil) ?_
 have hs0:=hs
 refine sr (asg rfl (nn (sr (mv rfl (lnS rfl underlying54 (z1e (m:=0) (c:=l.length) (pa0) rfl rfl z9c y5e rfl (λg5 w1 hg5 ho q1 z1=>(mv rfl ?_))))))))
 replace hs:=hs0.ext q1
 refine cl (ev2 rfl rfl) (mkC func198) (v6f g5 _ _ l w0 _ (by simpa using ho) hs0 hs (by omega) (by omega) (by omega)) rfl ?_
 rintro V7 w2 ⟨S7,ho7,hS7,q2⟩
 have hpn:=y0l l []
 obtain ⟨A7,c7,rfl,hc7⟩:=ho7.sl.form
 refine cl (ev1 rfl) (mkC func199) (z8x _ _ _ ho7.sl (by simp only [List.length_nil] at hpn;omega)) rfl ?_
 rintro _ w3 ⟨A8,rfl,ho8,q3⟩
 refine asg rfl (kpL [(2,_)] (.cons rfl .nil) (nn (rt (r1 results251 rfl ?_))))
 exact ⟨_,rfl,A8,rfl,((q1.step q2 (λk hk hlt=>absurd (hS7 k hk) (by omega))).n1 q3)⟩
theorem y2q (v:Value) (ts:List TQ) (w0:World) (hs:Sl z4c w0 v ts) (hk:TabAt w0 ts) (hN:z4o (z2c ts)<=100000):Rets prog 151 #[v] w0 λr w'=>r=.int .i64 (z4o (z2c ts):Int)/\Fr [] w0 w':=by
 obtain ⟨A,c,rfl,hcc,hM,hA⟩:=id hs
 clear hA
 unfold maxLen at hM
 have hrl:=z4s hk
 refine we [(0,.slice A ts.length c)] func151 rfl ntmps151 rfl (.cons rfl .nil) ?_
 have hs0:=hs
 have hk0:=hk
 refine sr (asg rfl (nn (sr (asg rfl (nn (sq (sr (mv rfl (lnS rfl underlying35 (mv rfl (nn (bl ?_))))))))))))
 refine lpK (ι:=Nat) [(6,_),(7,_)] (λi=>[(8,.int .i64 (i:Int)),(3,.int .i64 (u1v ts i:Int))]) (λi w'=>Fr [] w0 w'/\i<=ts.length) (λi=>ts.length-i) 0 (.c4 rfl rfl rfl rfl) ⟨Fr.refl _ _,Nat.zero_le _⟩ ?_
 rintro i w1 ⟨q1,hi⟩
 refine kpC [(6,_),(7,_),(8,_),(3,_)] (.c4 rfl rfl rfl rfl) (sr (lt' rfl rfl (nn (sq (cd rfl (λc0=>?_) (λc0=>?_))))))
 ·have hr1:=hrl i
  have hc1:=x9x (ts:=ts) (i:=i) (by omega)
  have hc2:=u7v ts (i+1)
  refine sk (tn (sq (bl (sr ?_))))
  replace hs:=hs0.ext q1
  refine z1a (tq0) rfl hs rfl y5d z1f (λad10 hc10=>?_)
  refine z1i rfl (hc10 _ hs) x2r (asg rfl (nn (rg (mv rfl (mv rfl (lnS rfl underlying46 (z0y rfl rfl (wi6 (by omega)) (asg rfl (nl (bn' (tn (rg (z0y rfl rfl (wi6 (by omega)) (mv rfl (nl ?_)))))))))))))))
  exact lpE (i+1) (.c4 rfl rfl rfl (congrArg (λz=>some (Value.int .i64 z)) (by omega))) ⟨q1,by omega⟩ (by omega)
 obtain rfl:i=ts.length:=by omega
 refine ex (te (te (xh (tn (sr (mv rfl (asg rfl (kpL [(2,_)] (.cons rfl .nil) (nn (rt (r1 results151 rfl ?_)))))))))))
 exact ⟨_,rfl,by rw [v9s],q1⟩
theorem z5v:ElemOf prog 37 87 z1h 16:=ElemOf.mk' (z:=(.agg #[.int .u8 0,.int .i64 0])) underlying37 (by kernel_rfl) rfl
theorem v2n:z0z prog 89 0 0:=λ_ _=>by kernel_rfl
theorem z7y:z0z prog 89 2 2:=λ_ _=>by kernel_rfl
theorem z9h:z0z prog 89 3 3:=λ_ _=>by kernel_rfl
theorem z6t:z2b prog 37:=λ_=>by kernel_rfl
theorem y1n:z1q prog 87 2:=λ_=>by kernel_rfl
theorem y2s (w:World):(zeroValue 87).run prog w=.ok (.agg #[(.int .u8 0),(.int .i64 0)]) w:=by kernel_rfl
set_option maxHeartbeats 1000000 in
theorem v9q (q:LpQ) (v:Value) (ts:List TQ) (w0:World) (hs:Sl z4c w0 v ts) (hk:TabAt w0 ts) (hl:ts.length=6) (hL:LpAt w0 q) (hv:y4r (z2c ts) q.p):Rets prog 229 #[v,.agg #[.int .u8 q.b,.bool q.nw,.slice q.th.1 q.th.2.1 q.th.2.2,.slice q.pa.1 q.pa.2.1 q.pa.2.2]] w0 λr w'=>r=.bool true/\Fr [] w0 w':=by
 obtain ⟨A,c,rfl,hcc,hM,hA⟩:=id hs
 clear hA
 unfold maxLen at hM
 have hrl:=z4s hk
 have hl1:=z1s hL.1
 have hl2:=z1s hL.2
 have hb:q.b=0\/q.b=1:=hv.1
 have hn1:q.ths.length<=4:=hv.2.1.1
 have hn2:q.pas.length<=4096:=hv.2.1.2
 have hsd:∀p∈q.pas,z5q p.d:=hv.2.2.2.1
 have hps:(z4n [] q.pas).length=q.pas.length:=hv.2.2.2.2
 have hnt:∀i,i<q.ths.length->z4b (z2c ts) (q.ths.getD i id0):=λi hi=>hv.2.2.1 _ (List.mem_append_left _ (z0x hi))
 have hnp:∀i,i<q.pas.length->z4b (z2c ts) (q.pas.getD i pa0).id:=λi hi=>hv.2.2.1 _ (List.mem_append_right _ (List.mem_map_of_mem (z0x hi)))
 have hly:=z6n ts
 refine we [(0,.slice A ts.length c),(1,.agg #[.int .u8 q.b,.bool q.nw,.slice q.th.1 q.th.2.1 q.th.2.2,.slice q.pa.1 q.pa.2.1 q.pa.2.2])] func229 rfl ntmps229 rfl (.c2 rfl rfl) ?_
 have hs0:=hs
 have hk0:=hk
 have hL0:=hL
 refine sr (bx rfl rfl rfl (λg3 w1 hg3 hb3 q1 z1=>(asg rfl (nn (sq (sq ?_))))))
 refine rbo (r:=16) (L':=[(0,_),(3,_)]) (((q.b≠0)/\(q.b≠1))) (.c2 rfl rfl) ?_ ?_
 ·refine fad rfl v2n (z0i rfl hb3 rfl x4n (ne' rfl rfl (mv rfl (gs 12 rfl (λg0=>?_) (λg0=>?_)))))
  ·exact gY rfl (fad rfl v2n (gY rfl (z0i rfl hb3 rfl x4n (gY rfl (ne' rfl rfl (pkt rfl rfl (rbe rfl (.c2 rfl rfl))))))))
  exact gN rfl rfl (gN rfl rfl (gN rfl rfl (pkf rfl rfl (rbe rfl (.c2 rfl rfl)))))
 refine tn (cd rfl (λc0=>?_) (λc0=>?_))
 ·refine sr (asg rfl (nn (rt (tr (r1 results229 rfl ?_)))))
  exfalso;omega
 refine sk (tn (sq (sq ?_)))
 refine rbo (r:=26) (L':=[(0,_),(3,_)]) (((4<(q.th.2.1:Int))\/(4096<(q.pa.2.1:Int)))) (.c2 rfl rfl) ?_ ?_
 ·refine fad rfl z7y (z0i rfl hb3 rfl z6t (lnS rfl underlying37 (gt' rfl rfl (mv rfl (gs 21 rfl (λg1=>?_) (λg1=>?_))))))
  ·exact gN rfl rfl (gN rfl rfl (gN rfl rfl (gN rfl rfl (pkt rfl rfl (rbe rfl (.c2 rfl rfl))))))
  exact gY rfl (fad rfl z9h (gY rfl (z0i rfl hb3 rfl y6u (gY rfl (lnS rfl underlying54 (gY rfl (gt' rfl rfl (pkf rfl rfl (rbe rfl (.c2 rfl rfl))))))))))
 refine tn (cd rfl (λc1=>?_) (λc1=>?_))
 ·refine sr (asg rfl (nn (rt (tr (r1 results229 rfl ?_)))))
  exfalso;omega
 refine sk (tn (sq (sr (fad rfl z7y (z0i rfl hb3 rfl z6t (lnS rfl underlying37 (mv rfl (nn (bl ?_)))))))))
 refine lpK (ι:=Nat) [(0,_),(3,_),(28,_),(29,_)] (λi=>[(30,.int .i64 (i:Int))]) (λi w'=>Fr [] w1 w'/\i<=q.ths.length) (λi=>q.ths.length-i) 0 (.c5 rfl rfl rfl rfl rfl) ⟨Fr.refl _ _,Nat.zero_le _⟩ ?_
 rintro i w2 ⟨q2,hi⟩
 have z2:=q2.size
 refine kpC [(0,_),(3,_),(28,_),(29,_),(30,_)] (.c5 rfl rfl rfl rfl rfl) (sr (lt' rfl rfl (nn (sq (cd rfl (λc2=>?_) (λc2=>?_))))))
 ·refine sk (tn (sq (bl (sr ?_))))
  replace hL:=hL0.ext (q1.n1 q2)
  refine z1a (id0) rfl hL.1 rfl z5v z1f (λad32 hc32=>?_)
  refine z1j rfl (hc32 _ hL.1) z3g (al y2s rfl rfl (λg6 w3 hg6 hb6 q3 z3=>(z0j (vs:=[_,_]) rfl rfl hb6 y1n (λw4 hb6 q4 z4=>(nn (sr (mv rfl (z0n rfl hb6 z3g ?_))))))))
  replace hs:=hs0.ext (q1.z3 q2 q3 q4)
  replace hk:=hk0.ext (q1.z3 q2 q3 q4)
  refine cl (ev2 rfl rfl) (mkC func250) (v0c (q.ths.getD i id0) _ _ _ hs hk (by omega) (by have h:=hnt i (by omega);have:=h.1;have:=h.2.1;omega)) rfl ?_
  rintro _ w5 ⟨rfl,q5⟩
  have z5:=q5.size
  refine nt' rfl (nn (cd rfl (λc3=>?_) (λc3=>?_)))
  ·refine sr (asg rfl (kpL [(4,_)] (.cons rfl .nil) (nn (rt (rb (tr (tr (rb (tr (r1 results229 rfl ?_))))))))))
   exact absurd (hnt i (by omega)) (by simpa using c3)
  refine sk (bn' (tn (rg (z0y rfl rfl (wi6 (by omega)) (mv rfl (nl ?_))))))
  exact lpE (i+1) (.c5 rfl rfl rfl rfl rfl) ⟨(q2.z3 q3 q4 q5),by omega⟩ (by omega)
 obtain rfl:i=q.ths.length:=by omega
 refine ex (te (te (xh (tn (sq (sr (fad rfl z9h ?_)))))))
 replace hb3:=hb3.ext q2
 refine z0i rfl hb3 rfl y6u (lnS rfl underlying54 (mv rfl (nn (bl ?_))))
 refine lpK (ι:=Nat) [(0,_),(3,_),(40,_),(41,_)] (λi=>[(42,.int .i64 (i:Int))]) (λi w'=>Fr [] w2 w'/\i<=q.pas.length) (λi=>q.pas.length-i) 0 (.c5 rfl rfl rfl rfl rfl) ⟨Fr.refl _ _,Nat.zero_le _⟩ ?_
 rintro i w6 ⟨q6,hi⟩
 have z6:=q6.size
 refine kpC [(0,_),(3,_),(40,_),(41,_),(42,_)] (.c5 rfl rfl rfl rfl rfl) (sr (lt' rfl rfl (nn (sq (cd rfl (λc4=>?_) (λc4=>?_))))))
 ·have hsi:(q.pas.getD i pa0).d=0\/(q.pas.getD i pa0).d=1:=hsd _ (z0x (by omega))
  have hhi:=hnp i (by omega)
  refine sk (tn (sq (bl (sr ?_))))
  replace hL:=hL0.ext (q1.n2 q2 q6)
  refine z1a (pa0) rfl hL.2 rfl z9c z1f (λad44 hc44=>?_)
  refine z1j rfl (hc44 _ hL.2) z6w (al y5e rfl rfl (λg8 w7 hg8 hb8 q7 z7=>(z0j (vs:=[_,_,_,_]) rfl rfl hb8 y7g (λw8 hb8 q8 z8=>(nn (sq ?_))))))
  refine x8z (r:=60) (L':=[(0,_),(3,_),(40,_),(41,_),(42,_)]) (((¬z4b (z2c ts) (q.pas.getD i pa0).id)\/(((q.pas.getD i pa0).d≠0)/\((q.pas.getD i pa0).d≠1)))) (.c5 rfl rfl rfl rfl rfl) ?_ ?_
  ·refine mv rfl (fad rfl y8n (z1y (vs:=[_,_]) rfl hb8 z3g rfl ?_))
   replace hs:=hs0.ext (q1.z4 q2 q6 q7 q8)
   replace hk:=hk0.ext (q1.z4 q2 q6 q7 q8)
   refine cl (ev2 rfl rfl) (mkC func250) (v0c (q.pas.getD i pa0).id _ _ _ hs hk (by omega) (by have h:=hnp i (by omega);have:=h.1;have:=h.2.1;omega)) rfl ?_
   rintro _ w9 ⟨rfl,q9⟩
   have z9:=q9.size
   refine nt' rfl (mv rfl (gs 51 rfl (λg2=>?_) (λg2=>?_)))
   ·exact gN rfl rfl (gN rfl rfl (gN rfl rfl (gN rfl rfl (gS rfl rfl (gS rfl rfl (gS rfl rfl (gN rfl rfl (pkt rfl rfl (y0k rfl (.c5 rfl rfl rfl rfl rfl) q9)))))))))
   refine gY rfl (fad rfl z6x (gY rfl ?_))
   replace hb8:=hb8.ext q9
   refine z0i rfl hb8 rfl y7e (gY rfl (ne' rfl rfl (gY rfl (mv rfl (gs 55 rfl (λg3=>?_) (λg3=>?_))))))
   ·exact gY rfl (fad rfl z6x (gY rfl (z0i rfl hb8 rfl y7e (gY rfl (ne' rfl rfl (gY rfl (pkt rfl rfl (pkf rfl rfl (y0k rfl (.c5 rfl rfl rfl rfl rfl) q9)))))))))
   exact gN rfl rfl (gN rfl rfl (gN rfl rfl (gY rfl (pkf rfl rfl (pkf rfl rfl (y0k rfl (.c5 rfl rfl rfl rfl rfl) q9))))))
  intro w10 q10;have z10:=q10.size
  refine tn (cd rfl (λc5=>?_) (λc5=>?_))
  ·refine sr (asg rfl (kpL [(4,_)] (.cons rfl .nil) (nn (rt (rb (tr (tr (rb (tr (r1 results229 rfl ?_))))))))))
   exfalso;first|omega|(simp_all;done)|(simp_all;omega)
  refine sk (bn' (tn (rg (z0y rfl rfl (wi6 (by omega)) (mv rfl (nl ?_))))))
  exact lpE (i+1) (.c5 rfl rfl rfl rfl rfl) ⟨(q6.z3 q7 q8 q10),by omega⟩ (by omega)
 obtain rfl:i=q.pas.length:=by omega
 refine ex (te (te (xh (tn (sq ?_)))))
 replace hL:=hL0.ext (q1.n2 q2 q6)
 intro a h
 refine z0h none (λwb w'=>Fr [] wb w') z2r ?_;intro w11 q11
 have z11:=q11.size
 replace hL:=hL.ext q11
 replace hb3:=hb3.ext (q6.n1 q11)
 have hC:Fr [] w11 w11:=Fr.refl _ _
 have hL_b:=hL
 have hb3_b:=hb3
 refine z0c 0 h rfl z9h rfl λa h=>z0l 1 h rfl (λ_ hw=>hb3_b.ext hw) rfl y6u rfl λa h=>z0c 4 h rfl z9h rfl λa h=>z0l 5 h rfl (λ_ hw=>hb3_b.ext hw) rfl y6u rfl λa h=>z7v 6 hC h wn rfl underlying54 rfl λa h=>z0d 2 rfl ?_
 refine z0m h (z0a rfl z0g) (mkC func251) (v2s _ q.pas _ hL.2 (by omega)) ?_;rintro _ w12 ⟨A64,rfl,q12⟩ a h
 have z12:=q12.size
 replace hC:=hC.next q12
 refine z0b ?_
 refine z7v 3 hC h wn rfl underlying54 rfl λa h=>v9j 7 hC h wn rfl rfl rfl rfl λa h=>z0d 8 rfl ?_
 refine z0q h rfl λa h=>?_
 refine z0b ?_
 refine z0r ?_
 clear hC hL_b hb3_b
 refine bk (h.sub (L':=[(4,_)]) (.cons rfl .nil)) (tn (rt (r1 results229 rfl ?_)))
 exact ⟨_,rfl,congrArg Value.bool (decide_eq_true (by omega)),(q1.n4 q2 q6 q11 q12)⟩
theorem v5g:z3p prog 89 4:=⟨λ_=>by kernel_rfl,λ_=>by kernel_rfl⟩
theorem x9b:ElemOf prog 46 89 z5o 56:=ElemOf.mk' (z:=(.agg #[.int .u8 0,.bool false,.slice none 0 0,.slice none 0 0])) underlying46 (by kernel_rfl) rfl
theorem u0x:z0z prog 89 1 1:=λ_ _=>by kernel_rfl
theorem u6t:z1q prog 89 4:=λ_=>by kernel_rfl
theorem u1m (w:World):(zeroValue 89).run prog w=.ok (.agg #[(.int .u8 0),(.bool false),(.slice none 0 0),(.slice none 0 0)]) w:=by kernel_rfl
set_option maxHeartbeats 1000000 in
theorem v2f (v:Value) (ts:List TQ) (w0:World) (hs:Sl z4c w0 v ts) (hk:TabAt w0 ts) (hl:ts.length=6) (hv:TabOk (z2c ts)):Rets prog 189 #[v] w0 λr w'=>r=.int .i64 0/\Fr [] w0 w':=by
 obtain ⟨A,c,rfl,hcc,hM,hA⟩:=id hs
 clear hA
 unfold maxLen at hM
 have hrl:=z4s hk
 refine we [(0,.slice A ts.length c)] func189 rfl ntmps189 rfl (.cons rfl .nil) ?_
 have hs0:=hs
 have hk0:=hk
 refine sr (asg rfl (nn (sq (sr (mv rfl (lnS rfl underlying35 (mv rfl (nn (bl ?_)))))))))
 refine lpK (ι:=Nat) [(0,_),(7,_),(8,_)] (λy=>[(9,.int .i64 (y:Int))]) (λy w'=>Fr [] w0 w'/\y<=ts.length) (λy=>ts.length-y) 0 (.c4 rfl rfl rfl rfl) ⟨Fr.refl _ _,Nat.zero_le _⟩ ?_
 rintro y w1 ⟨q1,hy⟩
 have z1:=q1.size
 refine kpC [(0,_),(7,_),(8,_),(9,_)] (.c4 rfl rfl rfl rfl) (sr (lt' rfl rfl (nn (sq (cd rfl (λc0=>?_) (λc0=>?_))))))
 ·replace hk:=hk0.ext q1
  have hr1:=hrl y
  have hM1:=(hk _ (z0x (d:=tq0) (i:=y) (by omega))).1.len_le
  unfold maxLen at hM1
  refine sk (tn (sq (bl (sr ?_))))
  replace hs:=hs0.ext q1
  refine z1a (tq0) rfl hs rfl y5d z1f (λad11 hc11=>?_)
  refine z1i rfl (hc11 _ hs) x2r (asg rfl (nn (sr (mv rfl (lnS rfl underlying46 (mv rfl (nn (bl ?_))))))))
  refine lpK (ι:=Nat) [(0,_),(7,_),(8,_),(9,_),(13,_),(14,_)] (λn=>[(15,.int .i64 (n:Int))]) (λn w'=>Fr [] w1 w'/\n<=(ts.getD y tq0).2.length) (λn=>(ts.getD y tq0).2.length-n) 0 (.c7 rfl rfl rfl rfl rfl rfl rfl) ⟨Fr.refl _ _,Nat.zero_le _⟩ ?_
  rintro n w2 ⟨q2,hn⟩
  have z2:=q2.size
  refine kpC [(0,_),(7,_),(8,_),(9,_),(13,_),(14,_),(15,_)] (.c7 rfl rfl rfl rfl rfl rfl rfl) (sr (lt' rfl rfl (nn (sq (cd rfl (λc1=>?_) (λc1=>?_))))))
  ·have hnw:n=0->((ts.getD y tq0).2.getD n lq0).nw=true:=λe=>by
    have h:=(hv.rts y (by omega) n (by rw [z3c];omega)).2 e;rw [z9p] at h;exact h
   refine sk (tn (sq (bl (sr (mv rfl ?_)))))
   replace hk:=hk0.ext (q1.n1 q2)
   refine z1a (lq0) rfl (hk _ (z0x (d:=tq0) (i:=y) (by omega))).1 rfl x9b z1f (λad18 hc18=>?_)
   refine z1j rfl (hc18 _ (hk _ (z0x (d:=tq0) (i:=y) (by omega))).1) v5g (al u1m rfl rfl (λg6 w3 hg6 hb6 q3 z3=>?_))
   refine asg rfl (z0j (vs:=[_,_,_,_]) rfl rfl hb6 u6t (λw4 hb6 q4 z4=>?_) (h1:=(by first|(simp [Value.oneCell',S];done)|exact z5o.one ((ts.getD y tq0).2.getD n lq0))))
   refine nn (sq ?_)
   refine x8z (r:=32) (L':=[(0,_),(7,_),(8,_),(9,_),(13,_),(14,_),(15,_)]) (((¬(0:Int)=0)\/(((n:Int)=0)/\(¬((ts.getD y tq0).2.getD n lq0).nw=true)))) (.c7 rfl rfl rfl rfl rfl rfl rfl) ?_ ?_
   ·refine mv rfl (z0n rfl hb6 v5g ?_)
    replace hs:=hs0.ext (q1.z3 q2 q3 q4)
    replace hk:=hk0.ext (q1.z3 q2 q3 q4)
    refine cl (ev2 rfl rfl) (mkC func229) (v9q ((ts.getD y tq0).2.getD n lq0) _ _ _ hs hk hl (z7h hk (by omega) (by omega)) (by have h:=(hv.rts y (by omega) n (by rw [z3c];omega)).1;rw [z9p] at h;exact h)) rfl ?_
    rintro _ w5 ⟨rfl,q5⟩
    have z5:=q5.size
    refine nt' rfl (mv rfl (gs 24 rfl (λg0=>?_) (λg0=>?_)))
    ·exact gN rfl rfl (gN rfl rfl (gN rfl rfl (gS rfl rfl (gS rfl rfl (gS rfl rfl (gN rfl rfl (pkt rfl rfl (y0k rfl (.c7 rfl rfl rfl rfl rfl rfl rfl) q5))))))))
    refine gY rfl (mv rfl (gY rfl (eq' rfl rfl (gY rfl (mv rfl (gs 27 rfl (λg1=>?_) (λg1=>?_)))))))
    ·refine gY rfl (fad rfl u0x (gY rfl ?_))
     replace hb6:=hb6.ext q5
     exact z0i rfl hb6 rfl na4 (gY rfl (nt' rfl (gY rfl (pkt rfl rfl (pkf rfl rfl (y0k rfl (.c7 rfl rfl rfl rfl rfl rfl rfl) q5))))))
    exact gN rfl rfl (gN rfl rfl (gN rfl rfl (gY rfl (pkf rfl rfl (pkf rfl rfl (y0k rfl (.c7 rfl rfl rfl rfl rfl rfl rfl) q5))))))
   intro w6 q6;have z6:=q6.size
   refine tn (cd rfl (λc2=>?_) (λc2=>?_))
   ·refine sr (asg rfl (kpL [(2,_)] (.cons rfl .nil) (nn (rt (rb (tr (tr (rb (rb (tr (tr (rb (tr (r1 results189 rfl ?_))))))))))))))
    rcases c2 with h|h
    ·exact absurd rfl h
    exact absurd (hnw (by omega)) h.2
   refine sk (bn' (tn (rg (z0y rfl rfl (wi6 (by omega)) (mv rfl (nl ?_))))))
   exact lpE (n+1) (.c7 rfl rfl rfl rfl rfl rfl rfl) ⟨(q2.z3 q3 q4 q6),by omega⟩ (by omega)
  obtain rfl:n=(ts.getD y tq0).2.length:=by omega
  refine ex (te (te (xh (bn' (tn (rg (z0y rfl rfl (wi6 (by omega)) (mv rfl (nl ?_)))))))))
  exact lpE (y+1) (.c4 rfl rfl rfl rfl) ⟨(q1.n1 q2),by omega⟩ (by omega)
 obtain rfl:y=ts.length:=by omega
 refine ex (te (te (xh (tn (sr (asg rfl (nn (rt (r1 results189 rfl ?_)))))))))
 exact ⟨_,rfl,rfl,q1⟩
theorem j5e (p q:LId) (w:World):(Op.equal 87 (idV p) (idV q)).run prog w=.ok (decide (p=q)) w:=by
 have h:=(eqId p q (.tmp 0) (.tmp 0) w).2.2.1
 have e:(binOp .eql 87 (idV p) (idV q)).run prog w=((Op.equal 87 (idV p) (idV q)).run prog w).andThen λb w'=>.ok (.bool b) w':=by
  have e2:binOp .eql 87 (idV p) (idV q)=(Op.equal 87 (idV p) (idV q) >>= λb=>pure (.bool b)):=by
   unfold binOp idV;simp only
  rw [e2];simp only [Sem.run_bind,Sem.run_pure]
 rw [e] at h
 generalize (Op.equal 87 (idV p) (idV q)).run prog w=r at h
 cases r with
 | ok b w'=>simp only [Result.andThen] at h;cases h;rfl
 | halt x w'=>simp only [Result.andThen] at h;cases h
theorem z5n:KeyLaw prog 87 idV:=KeyLaw.asking underlying87 (λ_ _=>rfl) (λ_ _ _=>by kernel_rfl) j5e (λ_=>by simp [idV,Instr.sameBits])
theorem zvI (w:World):(zeroValue 3).run prog w=.ok (.int .i64 0) w:=by kernel_rfl
set_option maxHeartbeats 1000000 in
theorem u5t (v:Value) (ts:List TQ) (w0:World) (hs:Sl z4c w0 v ts) (hk:TabAt w0 ts) (hl:ts.length=6) (hv:TabV (z2c ts)):Rets prog 190 #[v] w0 λr w'=>r=.int .i64 0/\Fr [] w0 w':=by
 obtain ⟨A,c,rfl,hcc,hM,hA⟩:=id hs
 clear hA
 unfold maxLen at hM
 have hrl:=z4s hk
 refine we [(0,.slice A ts.length c)] func190 rfl ntmps190 rfl (.cons rfl .nil) ?_
 have hs0:=hs
 have hk0:=hk
 refine sr (asg rfl (nn (sr (y6h idV (.int .i64 0) rfl (λg10 w1 hg10 hm q1 z1=>(asg rfl (nn (sq (sr (mv rfl (lnS rfl underlying35 (mv rfl (nn (bl ?_))))))))))))))
 refine lpK (ι:=Nat) [(3,_),(11,_),(12,_)] (λy=>[(13,.int .i64 (y:Int))]) (λy w'=>Fr [g10] w1 w'/\y<=ts.length/\MapZ idV w' g10 (.int .i64 0) (y7b (z9d (z2c ts) y 0))) (λy=>ts.length-y) 0 (.c4 rfl rfl rfl rfl) ⟨Fr.refl _ _,⟨Nat.zero_le _,hm⟩⟩ ?_
 rintro y w2 ⟨q2,⟨hy,hm⟩⟩
 have z2:=q2.size
 refine kpC [(3,_),(11,_),(12,_),(13,_)] (.c4 rfl rfl rfl rfl) (sr (lt' rfl rfl (nn (sq (cd rfl (λc0=>?_) (λc0=>?_))))))
 ·replace hk:=hk0.ext (q1.z1 q2)
  have hr1:=hrl y
  have hM1:=(hk _ (z0x (d:=tq0) (i:=y) (by omega))).1.len_le
  unfold maxLen at hM1
  refine sk (tn (sq (bl (sr ?_))))
  replace hs:=hs0.ext (q1.z1 q2)
  refine z1a (tq0) rfl hs rfl y5d z1f (λad15 hc15=>?_)
  refine z1i rfl (hc15 _ hs) x2r (asg rfl (nn (sr (mv rfl (lnS rfl underlying46 (mv rfl (nn (bl ?_))))))))
  refine lpK (ι:=Nat) [(3,_),(11,_),(12,_),(13,_),(17,_),(18,_)] (λn=>[(19,.int .i64 (n:Int))]) (λn w'=>Fr [g10] w2 w'/\n<=(ts.getD y tq0).2.length/\MapZ idV w' g10 (.int .i64 0) (y7b (z9d (z2c ts) y n))) (λn=>(ts.getD y tq0).2.length-n) 0 (.c7 rfl rfl rfl rfl rfl rfl rfl) ⟨Fr.refl _ _,⟨Nat.zero_le _,hm⟩⟩ ?_
  rintro n w3 ⟨q3,⟨hn,hm⟩⟩
  have z3:=q3.size
  refine kpC [(3,_),(11,_),(12,_),(13,_),(17,_),(18,_),(19,_)] (.c7 rfl rfl rfl rfl rfl rfl rfl) (sr (lt' rfl rfl (nn (sq (cd rfl (λc1=>?_) (λc1=>?_))))))
  ·replace hk:=hk0.ext (q1.z2 q2 q3)
   have hln:=z1s (z7h hk (y:=y) (n:=n) (by omega) (by omega)).1
   have hM2:=(z7h hk (y:=y) (n:=n) (by omega) (by omega)).1.len_le
   unfold maxLen at hM2
   refine sk (tn (sq (bl (sr (z1a (lq0) rfl (hk _ (z0x (d:=tq0) (i:=y) (by omega))).1 rfl x9b z1f (λad21 hc21=>?_))))))
   refine z1j rfl (hc21 _ (hk _ (z0x (d:=tq0) (i:=y) (by omega))).1) v5g (al u1m rfl rfl (λg7 w4 hg7 hb7 q4 z4=>?_))
   refine z0j (vs:=[_,_,_,_]) rfl rfl hb7 u6t (λw5 hb7 q5 z5=>?_) (h1:=(by first|(simp [Value.oneCell',S];done)|exact z5o.one ((ts.getD y tq0).2.getD n lq0)))
   refine nn (sr (fad rfl z7y (z0i rfl hb7 rfl z6t (lnS rfl underlying37 (mv rfl (nn (bl ?_)))))))
   replace hm:=(hm.ext q4).fr q5 (by intro k hk hb;simp at hk hb;omega)
   refine lpK (ι:=Nat) [(3,_),(11,_),(12,_),(13,_),(17,_),(18,_),(19,_),(24,_),(25,_)] (λk=>[(26,.int .i64 (k:Int))]) (λk w'=>Fr [g10] w5 w'/\k<=((ts.getD y tq0).2.getD n lq0).ths.length/\MapZ idV w' g10 (.int .i64 0) (y7b (z9d (z2c ts) y n++((ts.getD y tq0).2.getD n lq0).ths.take k))) (λk=>((ts.getD y tq0).2.getD n lq0).ths.length-k) 0 (.d8 rfl rfl rfl rfl rfl rfl rfl rfl (.c2 rfl rfl)) ⟨Fr.refl _ _,⟨Nat.zero_le _,by rw [List.take_zero,List.append_nil];exact hm⟩⟩ ?_
   rintro k w6 ⟨q6,⟨hk,hm⟩⟩
   have z6:=q6.size
   refine kpC [(3,_),(11,_),(12,_),(13,_),(17,_),(18,_),(19,_),(24,_),(25,_),(26,_)] (.d8 rfl rfl rfl rfl rfl rfl rfl rfl (.c2 rfl rfl)) (sr (lt' rfl rfl (nn (sq (cd rfl (λc2=>?_) (λc2=>?_))))))
   ·have hc1:=x4x (k:=k) hv.thr (y:=y) (n:=n) (by omega) (by omega) (by omega)
    have hc0:((z9d (z2c ts) y n++((ts.getD y tq0).2.getD n lq0).ths.take k)).count (((ts.getD y tq0).2.getD n lq0).ths.getD k id0)=0:=by
     have h:=hc1
     rw [List.count_append,List.count_singleton,if_pos (by simp)] at h;omega
    refine sk (tn (sq (bl (sr ?_))))
    replace hk:=hk0.ext (q1.z5 q2 q3 q4 q5 q6)
    refine z1a (id0) rfl (z7h hk (y:=y) (n:=n) (by omega) (by omega)).1 rfl z5v z1f (λad28 hc28=>?_)
    refine z1j rfl (hc28 _ (z7h hk (y:=y) (n:=n) (by omega) (by omega)).1) z3g (al y2s rfl rfl (λg9 w7 hg9 hb9 q7 z7=>?_))
    refine z0j (vs:=[_,_]) rfl rfl hb9 y1n (λw8 hb9 q8 z8=>?_) (h1:=(by first|(simp [Value.oneCell',S];done)|exact z5o.one ((ts.getD y tq0).2.getD n lq0)))
    refine nn (sq ?_)
    replace hm:=(hm.ext q7).fr q8 (by intro k hk hb;simp at hk hb;omega)
    intro a h
    refine z0h none (λwb w'=>Fr [g10] wb w') z2r ?_;intro w9 q9
    have z9:=q9.size
    replace hm:=hm.ext q9
    replace hb9:=hb9.ext q9
    have hC:Fr [g10] w9 w9:=Fr.refl _ _
    have hm_b:=hm
    have hb9_b:=hb9
    refine z0e 0 h rfl rfl λa h=>z0t 1 h rfl (λ_ hw=>hb9_b.fr hw (by intro e;simp at e;omega)) z3g rfl λa h=>z2d 2 4 (by kernel_rfl) rfl rfl ?_ ?_
    ·refine z7c (V:=idV) (z:=(.int .i64 0)) (k:=(((ts.getD y tq0).2.getD n lq0).ths.getD k id0)) (v:=.int .i64 ((((z9d (z2c ts) y n++((ts.getD y tq0).2.getD n lq0).ths.take k)).count (((ts.getD y tq0).2.getD n lq0).ths.getD k id0):Nat):Int)) h rfl rfl hm z5n underlying232 zvI rfl rfl λa h=>?_
     refine z0b ?_
     refine z5i 3 h rfl rfl (by first|exact i6 (by omega)|rfl) rfl λa h=>z0d 4 rfl ?_
     have hne:=hm.ne_blk hb9
     refine z6f (V:=idV) (z:=(.int .i64 0)) (k:=(((ts.getD y tq0).2.getD n lq0).ths.getD k id0)) h rfl rfl hm z5n underlying232 zvI rfl λw10 st10 he q10 z10 a h=>?_
     replace hm:=he.map
     replace hb9:=hb9.fr q10 (by intro e;simp at e;omega)
     replace hC:=hC.step q10 (by simp)
     refine z0b ?_
     refine z0k 5 h rfl rfl rfl λa h=>z0d 6 rfl ?_
     refine z4w (V:=idV) (z:=(.int .i64 0)) (k:=(((ts.getD y tq0).2.getD n lq0).ths.getD k id0)) h rfl rfl rfl he ?_;clear h a he hm;intro w11 hm q11 z11 a h
     replace hm:MapZ idV w11 g10 (.int .i64 0) (y7b ((z9d (z2c ts) y n++((ts.getD y tq0).2.getD n lq0).ths.take k)++[(((ts.getD y tq0).2.getD n lq0).ths.getD k id0)])):=by rw [<-y7z];exact hm
     replace hb9:=hb9.fr q11 (by intro e;simp at e;omega)
     replace hC:=hC.step q11 (by simp)
     refine z0b ?_
     refine z0r ?_
     clear hC hm_b hb9_b
     refine bk (h.sub (L':=[(3,_),(9,_),(11,_),(12,_),(13,_),(17,_),(18,_),(19,_),(24,_),(25,_),(26,_)]) (.d8 rfl rfl rfl rfl rfl rfl rfl rfl (.c3 rfl rfl rfl))) (tn (sr (mv rfl (z0n rfl hb9 z3g (y3g (V:=idV) (z:=(.int .i64 0)) (k:=(((ts.getD y tq0).2.getD n lq0).ths.getD k id0)) (v:=.int .i64 ((((z9d (z2c ts) y n++((ts.getD y tq0).2.getD n lq0).ths.take k)++[(((ts.getD y tq0).2.getD n lq0).ths.getD k id0)]).count (((ts.getD y tq0).2.getD n lq0).ths.getD k id0):Nat):Int)) rfl rfl hm z5n underlying232 zvI rfl rfl (gt' rfl rfl (nn (cd rfl (λc3=>?_) (λc3=>?_)))))))))
     ·refine sr (asg rfl (kpL [(2,_)] (.cons rfl .nil) (nn (rt (rb (tr (tr (rb (rb (tr (tr (rb (rb (tr (tr (rb (tr (r1 results190 rfl ?_))))))))))))))))))
      exfalso;omega
     refine sk (bn' (tn (rg (z0y rfl rfl (wi6 (by omega)) (mv rfl (nl ?_))))))
     exact lpE (k+1) (.d8 rfl rfl rfl rfl rfl rfl rfl rfl (.c2 rfl rfl)) ⟨((Fr.refl [g10] _).z6 q6 q7 q8 q9 q10 q11),⟨by omega,by rw [z5x id0 (by omega),<-List.append_assoc];exact hm⟩⟩ (by omega)
    have hne:=hm.ne_blk hb9
    refine z6f (V:=idV) (z:=(.int .i64 0)) (k:=(((ts.getD y tq0).2.getD n lq0).ths.getD k id0)) h rfl rfl hm z5n underlying232 zvI rfl λw12 st12 he q12 z12 a h=>?_
    replace hm:=he.map
    replace hb9:=hb9.fr q12 (by intro e;simp at e;omega)
    replace hC:=hC.step q12 (by simp)
    refine z0b ?_
    refine z0k 5 h rfl rfl rfl λa h=>z0d 2 rfl ?_
    refine z7c (V:=idV) (z:=(.int .i64 0)) (k:=(((ts.getD y tq0).2.getD n lq0).ths.getD k id0)) (v:=.int .i64 ((((z9d (z2c ts) y n++((ts.getD y tq0).2.getD n lq0).ths.take k)).count (((ts.getD y tq0).2.getD n lq0).ths.getD k id0):Nat):Int)) h rfl rfl hm z5n underlying232 zvI rfl rfl λa h=>?_
    refine z0b ?_
    refine z5i 3 h rfl rfl (by first|exact i6 (by omega)|rfl) rfl λa h=>z0d 6 rfl ?_
    refine z4w (V:=idV) (z:=(.int .i64 0)) (k:=(((ts.getD y tq0).2.getD n lq0).ths.getD k id0)) h rfl rfl rfl he ?_;clear h a he hm;intro w13 hm q13 z13 a h
    replace hm:MapZ idV w13 g10 (.int .i64 0) (y7b ((z9d (z2c ts) y n++((ts.getD y tq0).2.getD n lq0).ths.take k)++[(((ts.getD y tq0).2.getD n lq0).ths.getD k id0)])):=by rw [<-y7z];exact hm
    replace hb9:=hb9.fr q13 (by intro e;simp at e;omega)
    replace hC:=hC.step q13 (by simp)
    refine z0b ?_
    refine z0r ?_
    clear hC hm_b hb9_b
    refine bk (h.sub (L':=[(3,_),(9,_),(11,_),(12,_),(13,_),(17,_),(18,_),(19,_),(24,_),(25,_),(26,_)]) (.d8 rfl rfl rfl rfl rfl rfl rfl rfl (.c3 rfl rfl rfl))) (tn (sr (mv rfl (z0n rfl hb9 z3g (y3g (V:=idV) (z:=(.int .i64 0)) (k:=(((ts.getD y tq0).2.getD n lq0).ths.getD k id0)) (v:=.int .i64 ((((z9d (z2c ts) y n++((ts.getD y tq0).2.getD n lq0).ths.take k)++[(((ts.getD y tq0).2.getD n lq0).ths.getD k id0)]).count (((ts.getD y tq0).2.getD n lq0).ths.getD k id0):Nat):Int)) rfl rfl hm z5n underlying232 zvI rfl rfl (gt' rfl rfl (nn (cd rfl (λc3=>?_) (λc3=>?_)))))))))
    ·refine sr (asg rfl (kpL [(2,_)] (.cons rfl .nil) (nn (rt (rb (tr (tr (rb (rb (tr (tr (rb (rb (tr (tr (rb (tr (r1 results190 rfl ?_))))))))))))))))))
     exfalso;omega
    refine sk (bn' (tn (rg (z0y rfl rfl (wi6 (by omega)) (mv rfl (nl ?_))))))
    exact lpE (k+1) (.d8 rfl rfl rfl rfl rfl rfl rfl rfl (.c2 rfl rfl)) ⟨((Fr.refl [g10] _).z6 q6 q7 q8 q9 q12 q13),⟨by omega,by rw [z5x id0 (by omega),<-List.append_assoc];exact hm⟩⟩ (by omega)
   obtain rfl:k=((ts.getD y tq0).2.getD n lq0).ths.length:=by omega
   rw [List.take_length] at hm
   refine ex (te (te (xh (bn' (tn (rg (z0y rfl rfl (wi6 (by omega)) (mv rfl (nl ?_)))))))))
   exact lpE (n+1) (.c7 rfl rfl rfl rfl rfl rfl rfl) ⟨((Fr.refl [g10] _).z4 q3 q4 q5 q6),⟨by omega,by rw [y6e (by omega)];exact hm⟩⟩ (by omega)
  obtain rfl:n=(ts.getD y tq0).2.length:=by omega
  refine ex (te (te (xh (bn' (tn (rg (z0y rfl rfl (wi6 (by omega)) (mv rfl (nl ?_)))))))))
  exact lpE (y+1) (.c4 rfl rfl rfl rfl) ⟨((Fr.refl [g10] _).z2 q2 q3),⟨by omega,by rw [y5y (by omega)];exact hm⟩⟩ (by omega)
 obtain rfl:y=ts.length:=by omega
 refine ex (te (te (xh (tn (sr (asg rfl (nn (rt (r1 results190 rfl ?_)))))))))
 exact ⟨_,rfl,rfl,(q1.z1 q2)⟩
theorem v0e (q:LpQ) (n:Int) (w0:World) (hL:LpAt w0 q) (h0:0<=n) (hn:n.toNat<(z4m q.p).length) (hb:q.ths.length<=4/\q.pas.length<=4096):Rets prog 230 #[.agg #[.int .u8 q.b,.bool q.nw,.slice q.th.1 q.th.2.1 q.th.2.2,.slice q.pa.1 q.pa.2.1 q.pa.2.2],.int .i64 n] w0 λr w'=>r=.agg #[.int .u8 ((z4m q.p).getD n.toNat id0).y,.int .i64 ((z4m q.p).getD n.toNat id0).n]/\Fr [] w0 w':=by
 have hl1:=z1s hL.1
 have hl2:=z1s hL.2
 have hM1:=hL.1.len_le
 unfold maxLen at hM1
 have hnl:=x6a q
 refine we [(0,.agg #[.int .u8 q.b,.bool q.nw,.slice q.th.1 q.th.2.1 q.th.2.2,.slice q.pa.1 q.pa.2.1 q.pa.2.2]),(1,.int .i64 n)] func230 rfl ntmps230 rfl (.c2 rfl rfl) ?_
 have hL0:=hL
 refine sr (bx rfl rfl rfl (λg2 w1 hg2 hb2 q1 z1=>(al y2s rfl rfl (λg4 w2 hg4 hb4 q2 z2=>(nn (sq (sr (mv rfl (fad rfl z7y ?_)))))))))
 replace hb2:=hb2.ext q2
 refine z0i rfl hb2 rfl z6t (lnS rfl underlying37 (lt' rfl rfl (nn (cd rfl (λc0=>?_) (λc0=>?_)))))
 ·refine sr (fad rfl z7y (z0i rfl hb2 rfl z6t (mv rfl ?_)))
  replace hL:=hL0.ext (q1.n1 q2)
  refine z1a (p:=n.toNat) (id0) rfl hL.1 rfl z5v (by omega) (λad13 hc13=>?_)
  refine z1j rfl (hc13 _ hL.1) z3g (z0j (vs:=[_,_]) rfl rfl hb4 y1n (λw3 hb4 q3 z3=>?_) (h1:=(by first|(simp [Value.oneCell',S];done)|exact z1h.one _)))
  refine kpL [(4,_)] (.cons rfl .nil) (nn (rt (tr (rC results230 rfl hb4 z3g  ?_))))
  exact ⟨_,rfl,by rw [u6u (by omega)],(q1.z2 q2 q3)⟩
 refine sk (tn (sr (fad rfl z9h (z0i rfl hb2 rfl y6u (mv rfl (fad rfl z7y (z0i rfl hb2 rfl z6t (lnS rfl underlying37 (z2u rfl rfl (wi6 (by omega)) ?_)))))))))
 replace hL:=hL0.ext (q1.n1 q2)
 refine z1a (p:=(n.toNat-q.ths.length)) (pa0) rfl hL.2 rfl z9c (by omega) (λad22 hc22=>?_)
 refine fad rfl y8n (z1j rfl (x7v (vs:=[_,_]) (hc22 _ hL.2) rfl) z3g (z0j (vs:=[_,_]) rfl rfl hb4 y1n (λw4 hb4 q4 z4=>?_) (h1:=(by first|(simp [Value.oneCell',S];done)|exact z1h.one _))))
 refine kpL [(4,_)] (.cons rfl .nil) (nn (rt (rC results230 rfl hb4 z3g  ?_)))
 exact ⟨_,rfl,by rw [u5y (by omega) hn],(q1.z2 q2 q4)⟩
theorem u8j:BuildAt prog 87 [(0,1),(1,1)] [(.int .u8 0),(.int .i64 0)]:=BuildAt.struct underlying87 (λ_=>by kernel_rfl) (λ_=>by kernel_rfl)
theorem y5k:ElemOf prog 85 3 Enc.i64 8:=ElemOf.mk' (z:=(.int .i64 0)) underlying85 (by kernel_rfl) rfl
theorem zv3 (w:World):(zeroValue 3).run prog w=.ok (.int .i64 0) w:=by kernel_rfl
theorem x5b {α β:Type} {E:Enc α} {E':Enc β} {T T' b b':Nat} {w:World} {v v':Value} {l:List α} {l':List β} (h:Lw.Own E T b w v l) (h':Lw.Own E' T' b' w v' l') (hT:T'≠T):∀k∈z0v v,k∉z0v v':=λk hk hk'=>by
 obtain ⟨cs,hb⟩:=y4u h k hk
 exact h'.neB hb hT hk'
set_option maxHeartbeats 2000000 in
theorem v5w (v:Value) (ts:List TQ) (w0:World) (hs:Sl z4c w0 v ts) (hk:TabAt w0 ts) (hl:ts.length=6) (hv:TabV (z2c ts)):Rets prog 191 #[v] w0 λr w'=>∃l,Lw.Own z1h 87 w0.heap.size w' r l/\l.length=z4o (z2c ts)/\Fr [] w0 w':=by
 obtain ⟨A,c,rfl,hcc,hM,hA⟩:=id hs
 clear hA
 unfold maxLen at hM
 have hrl:=z4s hk
 have hH:=hv.has
 have hcn:z4o (z2c ts)<=2048:=hv.ok.cnt
 have hlt6:=z6n ts
 refine we [(0,.slice A ts.length c)] func191 rfl ntmps191 rfl (.cons rfl .nil) ?_
 have hs0:=hs
 have hk0:=hk
 refine sr (asg rfl (nn (sr (mv rfl (cl (ev1 rfl) (mkC func151) (y2q _ _ _ hs hk (by omega)) rfl ?_)))))
 rintro _ w1 ⟨rfl,q1⟩
 have z1:=q1.size
 refine asg rfl (nn (sr (mv rfl (z1e (m:=0) (c:=z4o (z2c ts)) (id0) rfl rfl z5v y2s rfl (λg15 w2 hg15 hR q2 z2=>(asg rfl (nn (sr (mv rfl (lnS rfl underlying35 (z1e (m:=ts.length) (c:=ts.length) ((0:Int)) rfl rfl y5k zv3 rfl (λg18 w3 hg18 hM q3 z3=>(asg rfl (nn (sr (mv rfl (lnS rfl underlying35 (z1e (m:=ts.length) (c:=ts.length) ((0:Int)) rfl rfl y5k zv3 rfl (λg21 w4 hg21 hU q4 z4=>?_)))))))))))))))))))
 refine asg rfl (nn (sq (bl ?_)))
 replace hR:=hR.ext (q3.n1 q4)
 replace hM:=hM.ext q4
 refine lpK (ι:=Value×List Int×List Int×List LId) [(0,_),(3,_),(5,_),(6,_)] (λp=>[(4,p.1)]) (λp w'=>Fr [] w0 w'/\FstI (z2c ts) p.2.1 p.2.2.1 p.2.2.2.length/\Lw.Own z1h 87 w0.heap.size w' p.1 p.2.2.2/\Lw.Own Enc.i64 3 w0.heap.size w' (.slice (some ⟨g18,0,none⟩) ts.length ts.length) p.2.1/\Lw.Own Enc.i64 3 w0.heap.size w' (.slice (some ⟨g21,0,none⟩) ts.length ts.length) p.2.2.1) (λp=>z4o (z2c ts)-p.2.2.2.length) (_,List.replicate ts.length 0,List.replicate ts.length 0,[]) (.c5 rfl rfl rfl rfl rfl) ⟨(q1.n3 q2 q3 q4),⟨by simp only;rw [hl];exact FstI.init,by simpa using hR.low (by omega),hM.low (by omega),hU.low (by omega)⟩⟩ ?_
 rintro ⟨vR,ms,uu,l⟩ w5 ⟨q5,⟨hF,hR,hM,hU⟩⟩
 simp only at hF hR hM hU
 have z5:=q5.size
 refine kpC [(0,_),(3,_),(5,_),(6,_),(4,vR)] (.c5 rfl rfl rfl rfl rfl) ?_
 have hRM:g18∉z0v vR:=λh=>x5b hR hM (by decide) g18 h (List.mem_singleton.2 rfl)
 have hRU:g21∉z0v vR:=λh=>x5b hR hU (by decide) g21 h (List.mem_singleton.2 rfl)
 have hMz:=(hM.blk g18 (List.mem_singleton.2 rfl)).2
 have hUz:=(hU.blk g21 (List.mem_singleton.2 rfl)).2
 obtain ⟨AR,cR,rfl,hcR⟩:=hR.sl.form
 refine sq (sr (mv rfl (lnS rfl underlying37 (mv rfl (lt' rfl rfl (nn (cd rfl (λc0=>?_) (λc0=>?_))))))))
 ·refine sk (tn (bl (sc (sr (mv rfl (lnS rfl underlying37 (asg rfl (nn (sq (lb (tn (sq (sr (mv rfl (lnS rfl underlying35 (mv rfl (nn (bl ?_))))))))))))))))))
  refine lpK (ι:=Nat×List Int) [(0,_),(3,_),(4,_),(5,_),(6,_),(7,_),(28,_),(29,_)] (λp=>[(30,.int .i64 (p.1:Int))]) (λp w'=>Fr [g21] w5 w'/\p.1<=6/\FstI (z2c ts) ms p.2 l.length/\(∀z,z<p.1->v2x (z2c ts) ms z)/\Lw.Own Enc.i64 3 w0.heap.size w' (.slice (some ⟨g21,0,none⟩) ts.length ts.length) p.2) (λp=>6-p.1) (0,uu) (.d8 rfl rfl rfl rfl rfl rfl rfl rfl (.cons rfl .nil)) ⟨Fr.refl _ _,⟨Nat.zero_le _,hF,λz h=>absurd h (by simp),hU⟩⟩ ?_
  rintro ⟨y,vs⟩ w6 ⟨q6,⟨hy,hF,hst,hU⟩⟩
  simp only at hy hF hst hU
  have z6:=q6.size
  refine kpC [(0,_),(3,_),(4,_),(5,_),(6,_),(7,_),(28,_),(29,_),(30,.int .i64 (y:Int))] (.d8 rfl rfl rfl rfl rfl rfl rfl rfl (.cons rfl .nil)) (sr (lt' rfl rfl (nn (sq (cd rfl (λc1=>?_) (λc1=>?_))))))
  ·replace hk:=hk0.ext (q5.z1 q6)
   have hy6:y<6:=by omega
   have hr1:=hrl y
   have hlm:=hF.lm
   have hmb:=hF.mb y hy6
   have hM1:=(hk _ (z0x (d:=tq0) (i:=y) (by omega))).1.len_le
   unfold maxLen at hM1
   refine sk (tn (sq (bl (sr (mv rfl ?_)))))
   replace hs:=hs0.ext (q5.z1 q6)
   refine z1a (tq0) rfl hs rfl y5d z1f (λad33 hc33=>?_)
   refine z1i rfl (hc33 _ hs) x2r (asg rfl (asg rfl (nn (sq (sr (mv rfl (mv rfl ?_)))))))
   replace hM:=hM.fr q6 (by intro k hk hb;have hk:=List.mem_singleton.1 hk;have hb:=List.mem_singleton.1 (show k∈[g18] from hb);omega)
   refine z1a (0) rfl hM.sl rfl y5k z1f (λad37 hc37=>?_)
   refine z1i rfl (hc37 _ hM.sl) na3 (mv rfl (lnS rfl underlying46 (eq' rfl rfl (kpL [(0,_),(3,_),(4,_),(5,_),(6,_),(7,_),(8,_),(9,_),(28,_),(29,_),(30,_),(41,_)] (.d8 rfl rfl rfl rfl rfl rfl rfl rfl (.c4 rfl rfl rfl rfl)) (nn (cd rfl (λc2=>?_) (λc2=>?_)))))))
   ·have hsk:v2x (z2c ts) ms y:=.inl (by rw [z3c];omega)
    refine ex (te (xh (tn (rg (z0y rfl rfl (wi6 (by omega)) (mv rfl (nl ?_)))))))
    exact lpE ((y+1,_)) (.d8 rfl rfl rfl rfl rfl rfl rfl rfl (.cons rfl .nil)) ⟨((Fr.refl [g21] _).z1 q6),⟨by simp only;omega,hF,λz h=>(by
     by_cases e:z<y
     ·exact hst z e
     obtain rfl:z=y:=by simp only at h;omega
     exact hsk),hU⟩⟩ (by simp only;omega)
   have hlt:ms.getD y 0<(z2t (z2c ts) y:Int):=by rw [z3c];rw [z3c] at hmb;omega
   have hlt2:(ms.getD y 0).toNat<(ts.getD y tq0).2.length:=by rw [z3c] at hlt;omega
   have hnd:nd (z2c ts) y (ms.getD y 0)=z4m ((ts.getD y tq0).2.getD (ms.getD y 0).toNat lq0).p:=by unfold nd;rw [z9p]
   have hnl:=x6a ((ts.getD y tq0).2.getD (ms.getD y 0).toNat lq0)
   have hrt:=(hv.ok.rts y hy6 _ (by rw [z3c];exact hlt2)).1
   rw [z9p] at hrt
   have hln1:=z1s (z7h hk (y:=y) (n:=(ms.getD y 0).toNat) (by omega) hlt2).1
   have hln2:=z1s (z7h hk (y:=y) (n:=(ms.getD y 0).toNat) (by omega) hlt2).2
   have hb4:((ts.getD y tq0).2.getD (ms.getD y 0).toNat lq0).ths.length<=4:=hrt.2.1.1
   have hb5:((ts.getD y tq0).2.getD (ms.getD y 0).toNat lq0).pas.length<=4096:=hrt.2.1.2
   refine sk (tn (sr (mv rfl (mv rfl (mv rfl (z1a (0) rfl hM.sl rfl y5k z1f (λad45 hc45=>?_)))))))
   refine z1i rfl (hc45 _ hM.sl) na3 (z1a (lq0) rfl (hk _ (z0x (d:=tq0) (i:=y) (by omega))).1 rfl x9b z1f (λad47 hc47=>?_))
   refine z1j rfl (hc47 _ (hk _ (z0x (d:=tq0) (i:=y) (by omega))).1) v5g (al u1m rfl rfl (λg10 w7 hg10 hb10 q7 z7=>?_))
   refine z0j (vs:=[_,_,_,_]) rfl rfl hb10 u6t (λw8 hb10 q8 z8=>?_) (h1:=(by first|(simp [Value.oneCell',S];done)|exact z5o.one ((ts.getD y tq0).2.getD (ms.getD y 0).toNat lq0)|exact z1h.one ((z4m ((ts.getD y tq0).2.getD (ms.getD y 0).toNat lq0).p).getD (xs.getD y 0).toNat id0)))
   refine kpL [(0,_),(3,_),(4,_),(5,_),(6,_),(7,_),(8,_),(10,_),(28,_),(29,_),(30,_)] (.d8 rfl rfl rfl rfl rfl rfl rfl rfl (.c3 rfl rfl rfl)) (nn (sq (bl ?_)))
   replace hU:=(hU.ext q7).fr q8 (by intro k hk hb;have hk:=List.mem_singleton.1 hk;have hb:=List.mem_singleton.1 (show k∈[g21] from hb);omega)
   refine lpK (ι:=List Int) [(0,_),(3,_),(4,_),(5,_),(6,_),(7,_),(8,_),(10,_),(28,_),(29,_),(30,_)] (λp=>[]) (λp w'=>Fr [g21] w8 w'/\FstI (z2c ts) ms p l.length/\Lw.Own Enc.i64 3 w0.heap.size w' (.slice (some ⟨g21,0,none⟩) ts.length ts.length) p) (λp=>(z4m ((ts.getD y tq0).2.getD (ms.getD y 0).toNat lq0).p).length-(p.getD y 0).toNat) vs (.d8 rfl rfl rfl rfl rfl rfl rfl rfl (.c3 rfl rfl rfl)) ⟨Fr.refl _ _,⟨hF,hU⟩⟩ ?_
   rintro xs w9 ⟨q9,⟨hF,hU⟩⟩
   have z9:=q9.size
   refine kpC [(0,_),(3,_),(4,_),(5,_),(6,_),(7,_),(8,_),(10,_),(28,_),(29,_),(30,_)] (.d8 rfl rfl rfl rfl rfl rfl rfl rfl (.c3 rfl rfl rfl)) ?_
   have hub:=hF.tb y hy6
   have hlm:=hF.lm
   have hlu:=hF.lt
   refine sq (sq ?_)
   replace hb10:=hb10.fr q9
   intro a h
   refine z0h none (λwb w'=>Fr [] wb w') z2r ?_;intro w10 q10
   have z10:=q10.size
   replace hb10:=hb10.ext q10
   replace hU:=hU.ext q10
   have hC:Fr [] w10 w10:=Fr.refl _ _
   have hb10_b:=hb10
   have hU_b:=hU
   refine z0e 0 h rfl rfl λa h=>z0e 1 h rfl rfl λa h=>z1k (0) 2 h rfl hU.sl rfl y5k rfl ?_ (hp:=rfl);clear h a;intro ad51 hc51 a h
   refine z3e 3 h rfl (λ_ hw=>hc51 _ (hU_b.sl.ext hw)) na3 rfl λa h=>z0c 4 h rfl z7y rfl λa h=>z0l 5 h rfl (λ_ hw=>hb10_b.ext hw) rfl z6t rfl λa h=>z7v 6 hC h wn rfl underlying37 rfl λa h=>z0c 7 h rfl z9h rfl λa h=>z0l 8 h rfl (λ_ hw=>hb10_b.ext hw) rfl y6u rfl λa h=>z7v 9 hC h wn rfl underlying54 rfl λa h=>z5i 10 h rfl rfl (by first|exact i6 (by omega)|rfl) rfl λa h=>x8h 11 hC h wn rfl rfl rfl rfl λa h=>z0r ?_
   clear hC hb10_b hU_b
   refine bk (h.sub (L':=[(0,_),(3,_),(4,_),(5,_),(6,_),(7,_),(8,_),(10,_),(28,_),(29,_),(30,_),(60,_)]) (.d8 rfl rfl rfl rfl rfl rfl rfl rfl (.c4 rfl rfl rfl rfl))) (tn (cd rfl (λc3=>?_) (λc3=>?_)))
   ·have c3':xs.getD y 0<IntKind.i64.wrap ((((ts.getD y tq0).2.getD (ms.getD y 0).toNat lq0).th.2.1:Int)+(((ts.getD y tq0).2.getD (ms.getD y 0).toNat lq0).pa.2.1:Int)):=c3
    rw [IntWalk.i64_in _ (by omega)] at c3'
    have hnn:(xs.getD y 0).toNat<(z4m ((ts.getD y tq0).2.getD (ms.getD y 0).toNat lq0).p).length:=by rw [hnl];omega
    have hid:z4b (z2c ts) ((z4m ((ts.getD y tq0).2.getD (ms.getD y 0).toNat lq0).p).getD (xs.getD y 0).toNat id0):=hrt.2.2.1 _ (z0x hnn)
    have hid1:=hid.1
    have hid2:=hid.2.1
    rw [hlt6] at hid2
    have hlm:=hF.lm
    refine sk (tn (bl (sq (sq ?_))))
    replace hk:=hk0.ext (q5.z5 q6 q7 q8 q9 q10)
    intro a h
    refine z0h none (λwb w'=>Fr [] wb w') z2r ?_;intro w11 q11
    have z11:=q11.size
    replace hk:=hk.ext q11
    replace hb10:=hb10.ext q11
    replace hU:=hU.ext q11
    have hC:Fr [] w11 w11:=Fr.refl _ _
    have hk_b:=hk
    have hb10_b:=hb10
    have hU_b:=hU
    refine z0t 0 h rfl (λ_ hw=>hb10_b.ext hw) v5g rfl λa h=>z0e 1 h rfl rfl λa h=>z0e 2 h rfl rfl λa h=>z1k (0) 3 h rfl hU.sl rfl y5k rfl ?_ (hp:=rfl);clear h a;intro ad64 hc64 a h
    refine z3e 4 h rfl (λ_ hw=>hc64 _ (hU_b.sl.ext hw)) na3 rfl λa h=>z2d 5 6 (by kernel_rfl) rfl rfl ?_ ?_
    ·refine z0m h (z0a rfl (z0a rfl z0g)) (mkC func230) (v0e ((ts.getD y tq0).2.getD (ms.getD y 0).toNat lq0) (xs.getD y 0) _ (z7h hk (y:=y) (n:=(ms.getD y 0).toNat) (by omega) hlt2) hub hnn ⟨hrt.2.1.1,hrt.2.1.2⟩) ?_;rintro _ w12 ⟨rfl,q12⟩ a h
     have z12:=q12.size
     replace hb10:=hb10.ext q12
     replace hC:=hC.next q12
     refine z0b ?_
     refine z0d 6 rfl ?_
     refine z1d h y2s rfl λw13 hb11 q13 hz a h=>?_
     obtain ⟨g_11,hg⟩:∃g,g=w12.heap.size:=⟨_,rfl⟩;rw [<-hg] at hb11 h hz
     have hn_0_11:g10<g_11:=by have:=hb10.lt;omega
     have z13:=q13.size
     replace hk:=hk.ext (q12.n1 q13)
     replace hb10:=hb10.ext q13
     replace hU:=hU.ext (q12.n1 q13)
     replace hC:=hC.next q13
     refine z0b ?_
     refine z0d 7 rfl ?_
     refine z0u h rfl rfl hb11 rfl y1n ?_ (h1:=(by first|(simp [Value.oneCell',S];done)|exact z5o.one ((ts.getD y tq0).2.getD (ms.getD y 0).toNat lq0)|exact z1h.one ((z4m ((ts.getD y tq0).2.getD (ms.getD y 0).toNat lq0).p).getD (xs.getD y 0).toNat id0)));clear h a;intro w14 hbn q14 hz a h
     have z14:=q14.size
     replace hb10:=hb10.fr q14
     replace hU:=hU.fr q14 (by intro k hk hb;have hk:=List.mem_singleton.1 hk;have hb:=List.mem_singleton.1 (show k∈[g21] from hb);omega)
     replace hC:=hC.sp q14
     clear hb11 hz;have hb11:Blk w14 g_11 _ [_,_]:=hbn;clear hbn
     refine z0b ?_
     refine z0r ?_
     clear hC hk_b hb10_b hU_b
     refine bk (h.sub (L':=[(0,_),(3,_),(4,_),(5,_),(6,_),(7,_),(8,_),(10,_),(11,_),(28,_),(29,_),(30,_)]) (.d8 rfl rfl rfl rfl rfl rfl rfl rfl (.c4 rfl rfl rfl rfl))) (tn (sq ?_))
     replace hM:=((((hM.ext q7).fr q8 (by intro k hk hb;have hk:=List.mem_singleton.1 hk;have hb:=List.mem_singleton.1 (show k∈[g18] from hb);omega)).fr q9 (by intro k hk hb;have hk:=List.mem_singleton.1 hk;have hb:=List.mem_singleton.1 (show k∈[g18] from hb);omega)).ext (q10.n3 q11 q12 q13)).fr q14 (by intro k hk hb;have hk:=List.mem_singleton.1 hk;have hb:=List.mem_singleton.1 (show k∈[g18] from hb);omega)
     intro a h
     refine z0h none (λwb w'=>Fr [] wb w') z2r ?_;intro w15 q15
     have z15:=q15.size
     replace hM:=hM.ext q15
     replace hb11:=hb11.ext q15
     have hC:Fr [] w15 w15:=Fr.refl _ _
     have hM_b:=hM
     have hb11_b:=hb11
     refine z0c 0 h rfl z8j rfl λa h=>z0l 1 h rfl (λ_ hw=>hb11_b.ext hw) rfl na3 rfl λa h=>z0e 2 h rfl rfl λa h=>z0c 3 h rfl z7e rfl λa h=>z0l 4 h rfl (λ_ hw=>hb11_b.ext hw) rfl na5 rfl λa h=>z2y 5 h wn rfl rfl (by first|exact IntWalk.u8_in _ (by omega)|rfl) rfl λa h=>z1k (0) 6 h rfl hM.sl rfl y5k rfl ?_ (hp:=rfl);clear h a;intro ad73 hc73 a h
     refine z3e 7 h rfl (λ_ hw=>hc73 _ (hM_b.sl.ext hw)) na3 rfl λa h=>v8w 8 hC h wn rfl rfl rfl rfl λa h=>z0r ?_
     clear hC hM_b hb11_b
     refine bk (h.sub (L':=[(0,_),(3,_),(4,_),(5,_),(6,_),(7,_),(8,_),(10,_),(28,_),(29,_),(30,_),(75,_)]) (.d8 rfl rfl rfl rfl rfl rfl rfl rfl (.c4 rfl rfl rfl rfl))) (tn (cd rfl (λc4=>?_) (λc4=>?_)))
     ·have hsk:v2x (z2c ts) ms y:=.inr ⟨hlt,((z4m ((ts.getD y tq0).2.getD (ms.getD y 0).toNat lq0).p).getD (xs.getD y 0).toNat id0),by rw [hnd];exact z0x hnn,by unfold InM;omega⟩
      refine ex (te (xo rfl (te (xo rfl (te (xh (tn (rg (z0y rfl rfl (wi6 (by omega)) (mv rfl (nl ?_)))))))))))
      replace hU:=hU.ext q15
      exact lpE ((y+1,_)) (.d8 rfl rfl rfl rfl rfl rfl rfl rfl (.cons rfl .nil)) ⟨((((Fr.refl [g21] _).z6 q6 q7 q8 q9 q10 q11).n1 q12).z3 q13 q14 q15),⟨by simp only;omega,hF,λz h=>(by
       by_cases e:z<y
       ·exact hst z e
       obtain rfl:z=y:=by simp only at h;omega
       exact hsk),hU⟩⟩ (by simp only;omega)
     have hF2:=hF.there hy6 (by rw [hnd];unfold InM;omega)
     refine sk (tn (rg (mv rfl (mv rfl ?_))))
     replace hU:=hU.ext q15
     refine z1a (0) rfl hU.sl rfl y5k z1f (λad78 hc78=>?_)
     refine z1i rfl (hc78 _ hU.sl) na3 (z0y rfl rfl (wi6 (by omega)) (z8r (p:=y) (E:=Enc.i64) rfl rfl y5k ?_))
     refine z5b (i:=y) (xs.getD y 0+1) rfl rfl hU (by rw [hF.lt];exact hy6) rfl sz3 (λw16 hU q16 z16=>?_)
     refine kpL [(0,_),(3,_),(4,_),(5,_),(6,_),(7,_),(8,_),(10,_),(28,_),(29,_),(30,_)] (.d8 rfl rfl rfl rfl rfl rfl rfl rfl (.c3 rfl rfl rfl)) (nl (bn' ?_))
     exact lpE (_) (.d8 rfl rfl rfl rfl rfl rfl rfl rfl (.c3 rfl rfl rfl)) ⟨((((Fr.refl [g21] _).z6 q9 q10 q11 q12 q13 q14).n1 q15).z1 q16),⟨hF2,hU⟩⟩ (by rw [z4f (by rw [hF.lt];exact hy6),if_pos rfl];omega)
    refine z1d h y2s rfl λw17 hb11 q17 hz a h=>?_
    obtain ⟨g_11,hg⟩:∃g,g=w11.heap.size:=⟨_,rfl⟩;rw [<-hg] at hb11 h hz
    have hn_0_11:g10<g_11:=by have:=hb10.lt;omega
    have z17:=q17.size
    replace hk:=hk.ext q17
    replace hC:=hC.next q17
    refine z0b ?_
    refine z0d 5 rfl ?_
    refine z0m h (z0a rfl (z0a rfl z0g)) (mkC func230) (v0e ((ts.getD y tq0).2.getD (ms.getD y 0).toNat lq0) (xs.getD y 0) _ (z7h hk (y:=y) (n:=(ms.getD y 0).toNat) (by omega) hlt2) hub hnn ⟨hrt.2.1.1,hrt.2.1.2⟩) ?_;rintro _ w18 ⟨rfl,q18⟩ a h
    have z18:=q18.size
    replace hk:=hk.ext q18
    replace hb10:=hb10.ext (q17.n1 q18)
    replace hU:=hU.ext (q17.n1 q18)
    replace hb11:=hb11.ext q18
    replace hC:=hC.next q18
    refine z0b ?_
    refine z0d 7 rfl ?_
    refine z0u h rfl rfl hb11 rfl y1n ?_ (h1:=(by first|(simp [Value.oneCell',S];done)|exact z5o.one ((ts.getD y tq0).2.getD (ms.getD y 0).toNat lq0)|exact z1h.one ((z4m ((ts.getD y tq0).2.getD (ms.getD y 0).toNat lq0).p).getD (xs.getD y 0).toNat id0)));clear h a;intro w19 hbn q19 hz a h
    have z19:=q19.size
    replace hb10:=hb10.fr q19
    replace hU:=hU.fr q19 (by intro k hk hb;have hk:=List.mem_singleton.1 hk;have hb:=List.mem_singleton.1 (show k∈[g21] from hb);omega)
    replace hC:=hC.sp q19
    clear hb11 hz;have hb11:Blk w19 g_11 _ [_,_]:=hbn;clear hbn
    refine z0b ?_
    refine z0r ?_
    clear hC hk_b hb10_b hU_b
    refine bk (h.sub (L':=[(0,_),(3,_),(4,_),(5,_),(6,_),(7,_),(8,_),(10,_),(11,_),(28,_),(29,_),(30,_)]) (.d8 rfl rfl rfl rfl rfl rfl rfl rfl (.c4 rfl rfl rfl rfl))) (tn (sq ?_))
    replace hM:=((((hM.ext q7).fr q8 (by intro k hk hb;have hk:=List.mem_singleton.1 hk;have hb:=List.mem_singleton.1 (show k∈[g18] from hb);omega)).fr q9 (by intro k hk hb;have hk:=List.mem_singleton.1 hk;have hb:=List.mem_singleton.1 (show k∈[g18] from hb);omega)).ext (q10.n3 q11 q17 q18)).fr q19 (by intro k hk hb;have hk:=List.mem_singleton.1 hk;have hb:=List.mem_singleton.1 (show k∈[g18] from hb);omega)
    intro a h
    refine z0h none (λwb w'=>Fr [] wb w') z2r ?_;intro w20 q20
    have z20:=q20.size
    replace hM:=hM.ext q20
    replace hb11:=hb11.ext q20
    have hC:Fr [] w20 w20:=Fr.refl _ _
    have hM_b:=hM
    have hb11_b:=hb11
    refine z0c 0 h rfl z8j rfl λa h=>z0l 1 h rfl (λ_ hw=>hb11_b.ext hw) rfl na3 rfl λa h=>z0e 2 h rfl rfl λa h=>z0c 3 h rfl z7e rfl λa h=>z0l 4 h rfl (λ_ hw=>hb11_b.ext hw) rfl na5 rfl λa h=>z2y 5 h wn rfl rfl (by first|exact IntWalk.u8_in _ (by omega)|rfl) rfl λa h=>z1k (0) 6 h rfl hM.sl rfl y5k rfl ?_ (hp:=rfl);clear h a;intro ad73 hc73 a h
    refine z3e 7 h rfl (λ_ hw=>hc73 _ (hM_b.sl.ext hw)) na3 rfl λa h=>v8w 8 hC h wn rfl rfl rfl rfl λa h=>z0r ?_
    clear hC hM_b hb11_b
    refine bk (h.sub (L':=[(0,_),(3,_),(4,_),(5,_),(6,_),(7,_),(8,_),(10,_),(28,_),(29,_),(30,_),(75,_)]) (.d8 rfl rfl rfl rfl rfl rfl rfl rfl (.c4 rfl rfl rfl rfl))) (tn (cd rfl (λc4=>?_) (λc4=>?_)))
    ·have hsk:v2x (z2c ts) ms y:=.inr ⟨hlt,((z4m ((ts.getD y tq0).2.getD (ms.getD y 0).toNat lq0).p).getD (xs.getD y 0).toNat id0),by rw [hnd];exact z0x hnn,by unfold InM;omega⟩
     refine ex (te (xo rfl (te (xo rfl (te (xh (tn (rg (z0y rfl rfl (wi6 (by omega)) (mv rfl (nl ?_)))))))))))
     replace hU:=hU.ext q20
     exact lpE ((y+1,_)) (.d8 rfl rfl rfl rfl rfl rfl rfl rfl (.cons rfl .nil)) ⟨((((Fr.refl [g21] _).z6 q6 q7 q8 q9 q10 q11).n1 q17).z3 q18 q19 q20),⟨by simp only;omega,hF,λz h=>(by
      by_cases e:z<y
      ·exact hst z e
      obtain rfl:z=y:=by simp only at h;omega
      exact hsk),hU⟩⟩ (by simp only;omega)
    have hF2:=hF.there hy6 (by rw [hnd];unfold InM;omega)
    refine sk (tn (rg (mv rfl (mv rfl ?_))))
    replace hU:=hU.ext q20
    refine z1a (0) rfl hU.sl rfl y5k z1f (λad78 hc78=>?_)
    refine z1i rfl (hc78 _ hU.sl) na3 (z0y rfl rfl (wi6 (by omega)) (z8r (p:=y) (E:=Enc.i64) rfl rfl y5k ?_))
    refine z5b (i:=y) (xs.getD y 0+1) rfl rfl hU (by rw [hF.lt];exact hy6) rfl sz3 (λw21 hU q21 z21=>?_)
    refine kpL [(0,_),(3,_),(4,_),(5,_),(6,_),(7,_),(8,_),(10,_),(28,_),(29,_),(30,_)] (.d8 rfl rfl rfl rfl rfl rfl rfl rfl (.c3 rfl rfl rfl)) (nl (bn' ?_))
    exact lpE (_) (.d8 rfl rfl rfl rfl rfl rfl rfl rfl (.c3 rfl rfl rfl)) ⟨((((Fr.refl [g21] _).z6 q9 q10 q11 q17 q18 q19).n1 q20).z1 q21),⟨hF2,hU⟩⟩ (by rw [z4f (by rw [hF.lt];exact hy6),if_pos rfl];omega)
   have c3':¬xs.getD y 0<IntKind.i64.wrap ((((ts.getD y tq0).2.getD (ms.getD y 0).toNat lq0).th.2.1:Int)+(((ts.getD y tq0).2.getD (ms.getD y 0).toNat lq0).pa.2.1:Int)):=c3
   rw [IntWalk.i64_in _ (by omega)] at c3'
   have hF2:=hF.push hH hy6 hlt (by rw [hnd,hnl];omega)
   refine ex (te (te (xh (tn (sr (mv rfl (mv rfl (z0y rfl rfl (wi6 (by omega)) (z5h rfl (us underlying3) underlying5 (wi8 (by omega)) (mv rfl (mv rfl ?_)))))))))))
   replace hM:=(((hM.ext q7).fr q8 (by intro k hk hb;have hk:=List.mem_singleton.1 hk;have hb:=List.mem_singleton.1 (show k∈[g18] from hb);omega)).fr q9 (by intro k hk hb;have hk:=List.mem_singleton.1 hk;have hb:=List.mem_singleton.1 (show k∈[g18] from hb);omega)).ext q10
   refine z1a (0) rfl hM.sl rfl y5k z1f (λad88 hc88=>?_)
   refine z1i rfl (hc88 _ hM.sl) na3 (z1r (cs:=[_,_]) (ev2 rfl rfl) u8j (z0f rfl rfl rfl (z0f rfl rfl rfl z0s)) rfl ?_)
   refine z2f ([(⟨(y:Int)+1,ms.getD y 0⟩:LId)]) (ev1 rfl) rfl rfl rfl z5v (λg91 w22 hg91 ho91 q22 z22=>?_)
   replace hM:=hM.ext q22
   replace hU:=hU.ext q22
   replace hR:=((((hR.fr q6 (by intro k hk hb;rw [List.mem_singleton.1 hk] at hb;first|exact hRM hb|exact hRU hb|(have h_:=(hR.blk _ hb).2;omega))).ext q7).fr q8 (by intro k hk hb;rw [List.mem_singleton.1 hk] at hb;first|exact hRM hb|exact hRU hb|(have h_:=(hR.blk _ hb).2;omega))).fr q9 (by intro k hk hb;rw [List.mem_singleton.1 hk] at hb;first|exact hRM hb|exact hRU hb|(have h_:=(hR.blk _ hb).2;omega))).ext (q10.n1 q22)
   have hoo92:=hR
   refine z1x rfl rfl hR ho91.sl z5v (by unfold maxLen;simp only [List.length_append,List.length_cons,List.length_nil];omega) (by simp only [List.length_append,List.length_cons,List.length_nil];omega) (λv92 w23 hR q23 hor92=>?_)
   have z23:=q23.size
   replace hM:=hM.fr q23 (λk hk hb=>hRM (by have e:=List.mem_singleton.1 (show k∈[g18] from hb);rw [<-e];exact hk))
   replace hU:=hU.fr q23 (λk hk hb=>hRU (by have e:=List.mem_singleton.1 (show k∈[g21] from hb);rw [<-e];exact hk))
   clear hRM hRU
   have hRM:g18∉z0v v92:=λh=>x5b hR hM (by decide) g18 h (List.mem_singleton.2 rfl)
   have hRU:g21∉z0v v92:=λh=>x5b hR hU (by decide) g21 h (List.mem_singleton.2 rfl)
   obtain ⟨A92,c92,rfl,_⟩:=hR.sl.form
   refine asg rfl (kpL [(0,_),(3,_),(4,_),(5,_),(6,_),(7,_),(8,_)] (.c7 rfl rfl rfl rfl rfl rfl rfl) (nn (sr (mv rfl (mv rfl (z1a (0) rfl hM.sl rfl y5k z1f (λad95 hc95=>?_)))))))
   refine z1i rfl (hc95 _ hM.sl) na3 (z0y rfl rfl (wi6 (by omega)) (z8r (p:=y) (E:=Enc.i64) rfl rfl y5k ?_))
   refine z5b (i:=y) (ms.getD y 0+1) rfl rfl hM (by rw [hF.lm];exact hy6) rfl sz3 (λw24 hM q24 z24=>?_)
   refine kpL [(0,_),(3,_),(4,_),(5,_),(6,_),(7,_),(8,_)] (.c7 rfl rfl rfl rfl rfl rfl rfl) (nn (sr (mv rfl (mv rfl ?_))))
   replace hU:=hU.fr q24 (by intro k hk hb;have hk:=List.mem_singleton.1 hk;have hb:=List.mem_singleton.1 (show k∈[g21] from hb);omega)
   refine z8r (p:=y) (E:=Enc.i64) rfl rfl y5k ?_
   refine z5b (i:=y) (0) rfl rfl hU (by rw [hF.lt];exact hy6) rfl sz3 (λw25 hU q25 z25=>?_)
   refine nn (ex (xo rfl (te (te (xh (tn (sr (mv rfl (lnS rfl underlying37 (mv rfl (eq' rfl rfl (nn (cd rfl (λc5=>?_) (λc5=>?_))))))))))))))
   ·exfalso;simp only [List.length_append,List.length_cons,List.length_nil] at c5;omega
   skip
   refine sk (gn' (bn' ?_))
   replace hR:=(hR.fr q24 (by intro k hk hb;rw [List.mem_singleton.1 hk] at hb;first|exact hRM hb|exact hRU hb|(have h_:=(hR.blk _ hb).2;omega))).fr q25 (by intro k hk hb;rw [List.mem_singleton.1 hk] at hb;first|exact hRM hb|exact hRU hb|(have h_:=(hR.blk _ hb).2;omega))
   replace hM:=hM.fr q25 (by intro k hk hb;have hk:=List.mem_singleton.1 hk;have hb:=List.mem_singleton.1 (show k∈[g18] from hb);omega)
   exact lpE ((_,_,_,_)) (.c5 rfl rfl rfl rfl rfl) ⟨(((q5.z6 q6 q7 q8 q9 q10 q22).step q23 (λk hk hlt=>absurd (hoo92.blk k hk).1 (by omega))).z2 q24 q25),⟨by simpa using hF2,hR,hM,hU⟩⟩ (by simp only [List.length_append,List.length_cons,List.length_nil];omega)
  obtain rfl:y=6:=by omega
  have hdn:=hF.done hH hst hv.ok.ord
  refine ex (te (te (xh (tn (sr (mv rfl (lnS rfl underlying37 (mv rfl (eq' rfl rfl (kpL [(0,_),(3,_),(4,_),(5,_),(6,_),(106,_)] (.c6 rfl rfl rfl rfl rfl rfl) (nn (cd rfl (λc5=>?_) (λc5=>?_)))))))))))))
  ·have hlen:l.length=z4o (z2c ts):=hdn
   refine ex (gx' (xo rfl (te (xh (tn (sr (mv rfl (asg rfl (kpL [(2,_)] (.cons rfl .nil) (nn (rt (r1 results191 rfl ?_))))))))))))
   replace hR:=hR.fr q6 (by intro k hk hb;rw [List.mem_singleton.1 hk] at hb;first|exact hRM hb|exact hRU hb|(have h_:=(hR.blk _ hb).2;omega))
   exact ⟨_,rfl,l,hR,hlen,(q5.z1 q6)⟩
  exact absurd rfl c5
 have hlen:l.length=z4o (z2c ts):=by have:=hF.leI (by omega);omega
 refine ex (te (te (xh (tn (sr (mv rfl (asg rfl (kpL [(2,_)] (.cons rfl .nil) (nn (rt (r1 results191 rfl ?_)))))))))))
 exact ⟨_,rfl,l,hR,hlen,q5⟩
end Go.Proofs.YtpgdchkdlgkmgaaGreatDoor
