/- Texts of the proof, joined. -/
import Derived.Test.YtjilcnmaefhmeaaGreatDoorRows
import Derived.Shelf.Strings.Builder1
import Derived.Shelf.Strings.Builder2
import Derived.Shelf.Strings.OnBuilder
import Derived.Shelf.Strings.Trim
import Derived.Shelf.Small.Utf8
import Derived.Shelf.Small.Bits
import Derived.Shelf.Small.Strs
import Derived.Shelf.Strconv.Atoi
import Derived.Shelf.Strconv.Itoa0
import Derived.Shelf.Strconv.Itoa1
import Derived.Shelf.LaysM
import Derived.Shelf.Strconv.Itoa2
import Derived.Shelf.Strconv.Itoa3
import Derived.Shelf.Strconv.AtoiErrFast
import Derived.Shelf.Strconv.ParseIntEmpty
import Derived.Shelf.Strconv.AtoiFail
import Derived.Shelf.Strconv.Clone
import Derived.Shelf.Strconv.SyntaxError
import Derived.Shelf.LaysC
import Derived.Shelf.Strconv.ToError
import Derived.Shelf.Strconv.AtoiErr
import Derived.Shelf.Strconv.ErrVar
import Derived.Shelf.Strconv.Lower
import Derived.Shelf.Strconv.ParseUint10
import Derived.Shelf.Strconv.ParseUint10Empty
import Derived.Shelf.Strconv.ParseUint10Any
import Derived.Shelf.Strconv.ParseInt10
import Derived.Shelf.Strconv.AtoiLong
import Derived.Shelf.Strconv.AtoiInnerAll
import Derived.Shelf.Strconv.RangeError
import Derived.Shelf.Strconv.ToErrorRange
import Derived.Shelf.Strconv.AtoiAll
import Derived.Shelf.Strconv.ErrVarAll
import Derived.Shelf.Strings.Search1
import Derived.Shelf.Strings.Search2
import Derived.Shelf.Strings.Search3
import Derived.Shelf.Strings.Cut
import Derived.Shelf.Strings.Count
import Derived.Shelf.Strings.Shaped
import Derived.Shelf.Strings.Split
import Derived.Shelf.Strings.SplitShaped
import Derived.Shelf.Strings.Runes
import Derived.Shelf.Strings.AsciiSet
import Derived.Shelf.Unicode.DecodeSlow
import Derived.Test.YtjilcnmaefhmeaaGreatDoorProg
import Derived.Test.YtjilcnmaefhmeaaGreatDoorZF5
set_option linter.unusedVariables false
set_option linter.unusedSimpArgs false
set_option maxHeartbeats 4000000
namespace Go.Proofs.YtjilcnmaefhmeaaGreatDoor
open Go.Lw Go.G21 Go.G08 _root_.Go.Proofs.Tryz
open Classical in
noncomputable def v2s (s:StQ)(eb ef:Int):Int:=if ¬(-4<=s.rk/\s.rk<=4) then 11 else if eb≠0 then eb else if s.ys.length≠6 then 5 else if ∃i,i<6/\¬y2z (s.ys.getD i yq0).p then 1 else if ef≠0 then ef else if s.fb.hs≠(z2q s.q.p s.rk).map Hd.id then 6 else if ∃i,i<6/\(s.ys.getD i yq0).ct≠((s.fb.ts.getD i tq0).2.length:Int) then 6 else 0
theorem v9u (s:StQ)(eb ef:Int)(w0:World)(J:StAt w0 s)(b8:∀w,BdAt w s.q->Rets prog 48 #[.agg #[.slice s.q.f.1 s.q.f.2.1 s.q.f.2.2,.slice s.q.b.1 s.q.b.2.1 s.q.b.2.2]] w λr w'=>r=.int .i64 eb/\Fr [] w w')(hB:eb=0->BdOk s.q.p)(b5:ef=0->s.fb.ts.length=6)(b9:∀w,FbAt w s.fb->Rets prog 50 #[.agg #[.slice s.fb.t.1 s.fb.t.2.1 s.fb.t.2.2,.slice s.fb.c.1 s.fb.c.2.1 s.fb.c.2.2,.slice s.fb.h.1 s.fb.h.2.1 s.fb.h.2.2,.slice s.fb.f.1 s.fb.f.2.1 s.fb.f.2.2]] w λr w'=>r=.int .i64 ef/\Fr [] w w')(d4:s.fb.hs.length<=100000):Rets prog 17 #[.agg #[.int .i64 s.rk,.slice s.q.f.1 s.q.f.2.1 s.q.f.2.2,.slice s.q.b.1 s.q.b.2.1 s.q.b.2.2,.slice s.yv.1 s.yv.2.1 s.yv.2.2,.slice s.fb.t.1 s.fb.t.2.1 s.fb.t.2.2,.slice s.fb.c.1 s.fb.c.2.1 s.fb.c.2.2,.slice s.fb.h.1 s.fb.h.2.1 s.fb.h.2.2,.slice s.fb.f.1 s.fb.f.2.1 s.fb.f.2.2]] w0 λr w'=>r=.int .i64 (v2s s eb ef)/\Fr [] w0 w':=by
 have f0:=z1x J.y;have e9:=z1x J.f.t;refine we [(0,.agg #[.int .i64 s.rk,.slice s.q.f.1 s.q.f.2.1 s.q.f.2.2,.slice s.q.b.1 s.q.b.2.1 s.q.b.2.2,.slice s.yv.1 s.yv.2.1 s.yv.2.2,.slice s.fb.t.1 s.fb.t.2.1 s.fb.t.2.2,.slice s.fb.c.1 s.fb.c.2.1 s.fb.c.2.2,.slice s.fb.h.1 s.fb.h.2.1 s.fb.h.2.2,.slice s.fb.f.1 s.fb.f.2.1 s.fb.f.2.2])] func17 U ntmps17 U (.cons U .nil) ?_;have O:=J;refine sr (bx U (λg1 w1 e4 D q1 z1=>(asg U (nn (sq (sq (rbo (r:=17) (L':=[(1,_)]) (((s.rk < -4)\/(4<s.rk))) (.cons U .nil) ?_ ?_)))))));refine fad U x8c (z0i U D U na3 (lt' U (mv U U (gs 13 U (λg0=>?_) (λg0=>?_)))));exact gN U (gN U (gN U (pkt U (rbe U (.cons U .nil)))));exact gY U (fad U x8c (gY U (z0i U D U na3 (gY U (gt' U (pkf U (rbe U (.cons U .nil))))))));refine tn (cd U (λc0=>?_) (λc0=>?_));exact sr (asg U (nn (rt (tr (r1 results17 U ⟨_,rfl,by unfold v2s;rw[if_pos oo],q1⟩)))));have hr:-4<=s.rk/\s.rk<=4:=by omega
 refine sk (tn (sq (sr (fad U x8j (z1w (vs:=[_,_]) U D z4s U ?_)))));replace J:=O.ext q1;refine cl (ev1 U) (mkC func48) (b8 _ J.b) U ?_;rintro _ w2 ⟨rfl,q2⟩;have z2:=q2.size;refine asg U (nn (sr (mv U U (ne' U (nn (cd U (λc1=>?_) (λc1=>?_)))))));exact sr (mv U U (asg U (nn (rt (tr (r1 results17 U ⟨_,rfl,by unfold v2s;rw[if_neg oo,if_pos c1],(q1.n1 q2)⟩))))));have d1:eb=0:=by omega
 refine sk (tn (sq (sr (fad U x6g ?_))));replace D:=D.ext q2;refine z0i U D U y3q (lnS U underlying51 (ne' U (nn (cd U (λc2=>?_) (λc2=>?_)))));exact sr (asg U (nn (rt (tr (r1 results17 U ⟨_,rfl,by unfold v2s;rw[if_neg oo,if_neg oo,if_pos oo],(q1.n1 q2)⟩)))));have e8:s.ys.length=6:=by omega
 refine sk (tn (sq (sr (fad U x6g (z0i U D U y3q (lnS U underlying51 (mv U U (nn (bl (lpK (ι:=Nat) [(1,_),(29,_),(30,_)] (λi=>[(31,.int .i64 (i:Int))]) (λi w'=>Fr [] w2 w'/\i<=6/\∀k,k<i->y2z (s.ys.getD k yq0).p) (λi=>6-i) 0 (.c4 U U U U) ⟨Fr.refl _ _,⟨Nat.zero_le _,λk h=>absurd h oo⟩⟩ ?_))))))))));rintro i w3 ⟨q3,⟨hi,a5⟩⟩;have z3:=q3.size;refine kpC [(1,_),(29,_),(30,_),(31,_)] (.c4 U U U U) (sr (lt' U (nn (sq (cd U (λc3=>?_) (λc3=>?_))))));refine sk (tn (sq (bl (sr ?_))));replace J:=O.ext (q1.n2 q2 q3);refine z1d (yq0) U J.y U y4b z1i (λd7 a9=>?_);refine z1k U (a9 _ J.y) z6y (al y3c U (λg5 w4 e5 a8 q4 z4=>?_));refine z0k (vs:=[_,_,_,_,_]) U a8 z7d (λw5 a8 q5 z5=>?_) (h1:=(by first|(simp[Value.oneCell',S];done)|exact z2z.one _));refine nn (sr (z0m U a8 z6y ?_));replace J:=O.ext (q1.z4 q2 q3 q4 q5);refine cl (ev1 U) j5j (z8w (s.ys.getD i yq0) _ (J.ya i)) U ?_;rintro _ w6 ⟨rfl,q6⟩;have z6:=q6.size;refine asg U (nn (sr (mv U U (ne' U (nn (cd U (λc4=>?_) (λc4=>?_)))))));refine sr (mv U U (asg U (kpL [(2,_)] (.cons U .nil) (nn (rt (rb (tr (tr (rb (tr (r1 results17 U ?_)))))))))));have b6:¬y2z (s.ys.getD i yq0).p:=λh=>c4 (k0o h);exact⟨_,rfl,by unfold v2s;rw[if_neg oo,if_neg oo,if_neg oo,if_pos ⟨i,oo,b6⟩,j2l b6],(q1.z5 q2 q3 q4 q5 q6)⟩;refine sk (bn' (tn (rg (z0z U (wi6 oo) (mv U U (nl ?_))))));exact lpE (i+1) (.c4 U U U U) ⟨(q3.z3 q4 q5 q6),⟨oo,λk h=>by
  by_cases e:k=i;subst e;exact Classical.byContradiction λh=>c4 (by rw[j2l h];decide);exact a5 k oo⟩⟩ oo
 obtain rfl:i=6:=by omega
 refine ex (te (te (xh (tn (sq (sr (fad U z9u ?_)))))));replace D:=D.ext q3;refine z1w (vs:=[_,_,_,_]) U D v8j U ?_;replace J:=O.ext (q1.n2 q2 q3);refine cl (ev1 U) (mkC func50) (b9 _ J.f) U ?_;rintro _ w7 ⟨rfl,q7⟩;have z7:=q7.size;refine asg U (kpL [(1,_),(7,_)] (.c2 U U) (nn (sr (mv U U (ne' U (nn (cd U (λc5=>?_) (λc5=>?_))))))));refine sr (mv U U (asg U (nn (rt (tr (r1 results17 U ?_))))));have Z:¬ ∃i,i<6/\¬y2z (s.ys.getD i yq0).p:=λ⟨k,hk,h⟩=>h (a5 k oo);exact⟨_,rfl,by unfold v2s;rw[if_neg oo,if_neg oo,if_neg oo,if_neg Z,if_pos c5],(q1.n3 q2 q3 q7)⟩;have d3:ef=0:=by omega
 have e7:=b5 d3;refine sk (tn (sq (sq ?_)));replace J:=O.ext (q1.n3 q2 q3 q7);intro a h;refine z0h none (λwb w'=>Fr [] wb w') z2m ?_;intro w8 q8;have z8:=q8.size;replace J:=J.ext q8;replace D:=D.ext (q7.n1 q8);have hC:Fr [] w8 w8:=Fr.refl _ _;have a1:=J;have I:=D;refine z0c 0 h U z9u U λa h=>z5s 1 h U x6j U λa h=>z0j 2 h U (λ_ hw=>I.ext hw) U z8h U λa h=>z0c 3 h U x8j U λa h=>z1b (vs:=[_,_]) 4 h U (λ_ hw=>(I.ext hw)) z4s U U λa h=>z0c 5 h U x8c U λa h=>z0j 6 h U (λ_ hw=>I.ext hw) U na3 U λa h=>z0d 7 U (z0o h (z0a U (z0a U z0g)) (mkC func52) (y3x s.q s.rk _ J.b (hB d1) hr) ?_);rintro _ w9 ⟨⟨e3,f1,e2,rfl,e1,hH⟩,q9⟩ a h;have z9:=q9.size;replace J:=J.ext q9;replace hC:=hC.next q9;refine z0b (z0d 8 U (z0o h (z0a U (z0a U z0g)) (mkC func51) (u6c _ _ s.fb.hs ((z2q s.q.p s.rk).map Hd.id) _ J.f.h hH.sl d4) ?_));rintro _ d6 ⟨rfl,M⟩ a h;have f5:=M.size;replace J:=J.ext M;replace D:=D.ext (q9.n1 M);replace hH:=hH.ext M;replace hC:=hC.next M;refine z0b (x3c 9 hC h wn U U U λa h=>z0q ?_);clear hC a1 I;refine bk (h.sub (L':=[(1,_),(56,_)]) (.c2 U U)) (tn (cd U (λc6=>?_) (λc6=>?_)));refine sr (asg U (nn (rt (tr (r1 results17 U ?_)))));have Z:¬ ∃i,i<6/\¬y2z (s.ys.getD i yq0).p:=λ⟨k,hk,h⟩=>h (a5 k oo);exact⟨_,rfl,by unfold v2s;rw[if_neg oo,if_neg oo,if_neg oo,if_neg Z,if_neg oo,if_pos c6],(q1.n6 q2 q3 q7 q8 q9 M)⟩;refine sk (tn (sq (sr (fad U x6g (z0i U D U y3q (lnS U underlying51 (mv U U (nn (bl (lpK (ι:=Nat) [(1,_),(58,_),(59,_)] (λi=>[(60,.int .i64 (i:Int))]) (λi w'=>Fr [] d6 w'/\i<=6/\∀k,k<i->(s.ys.getD k yq0).ct=((s.fb.ts.getD k tq0).2.length:Int)) (λi=>6-i) 0 (.c4 U U U U) ⟨Fr.refl _ _,⟨Nat.zero_le _,λk h=>absurd h oo⟩⟩ ?_))))))))));rintro i f2 ⟨a0,⟨hi,b4⟩⟩;have f6:=a0.size;refine kpC [(1,_),(58,_),(59,_),(60,_)] (.c4 U U U U) (sr (lt' U (nn (sq (cd U (λc7=>?_) (λc7=>?_))))));refine sk (tn (sq (bl (sr (mv U U ?_)))));replace J:=O.ext ((q1.n6 q2 q3 q7 q8 q9 M).n1 a0);refine z1d (yq0) U J.y U y4b z1i (λd9 b0=>?_);refine z1k U (b0 _ J.y) z6y (al y3c U (λg9 f3 e6 a3 a6 f7=>?_));refine asg U (z0k (vs:=[_,_,_,_,_]) U a3 z7d (λf4 a3 a7 f8=>?_) (h1:=(by first|(simp[Value.oneCell',S];done)|exact z2z.one _)));refine nn (sq ?_);replace J:=O.ext ((((q1.n6 q2 q3 q7 q8 q9 M).n1 a0).n1 a6).z1 a7);replace D:=(D.ext (a0.n1 a6)).fr a7;intro a h;refine z0h none (λwb w'=>Fr [] wb w') z2m ?_;intro b7 a2;have f9:=a2.size;replace J:=J.ext a2;replace D:=D.ext a2;replace a3:=a3.ext a2;have hC:Fr [] b7 b7:=Fr.refl _ _;have a1:=J;have I:=D;have a4:=a3;refine z0c 0 h U y1k U λa h=>z0j 1 h U (λ_ hw=>a4.ext hw) U na3 U λa h=>z0c 2 h U z9u U λa h=>z5s 3 h U z9q U λa h=>z0j 4 h U (λ_ hw=>I.ext hw) U x3s U λa h=>z0e 5 h U λa h=>z1g (tq0) 6 h U J.f.t U y5z U ?_ (hp:=rfl);clear h a;intro e0 b3 a h;refine z2u 7 h wn U (λ_ hw=>b3 _ (a1.f.t.ext hw)) x1u U λa h=>z6l 8 h wn U underlying34 U λa h=>u8b 9 hC h wn U U U U λa h=>z0q ?_;clear hC a1 I a4;refine bk (h.sub (L':=[(1,_),(58,_),(59,_),(60,_),(74,_)]) (.c5 U U U U U)) (tn (cd U (λc8=>?_) (λc8=>?_)));refine sr (asg U (nn (rt (rb (tr (tr (rb (tr (r1 results17 U ?_)))))))));have Z:¬ ∃i,i<6/\¬y2z (s.ys.getD i yq0).p:=λ⟨k,hk,h⟩=>h (a5 k oo);have c9:(s.ys.getD i yq0).ct≠((s.fb.ts.getD i tq0).2.length:Int):=by simp only[Int.toNat_natCast]at c8;have d5:=z1x (O.f.tt _ (z0y (d:=tq0) (i:=i) oo)).1;omega
 exact⟨_,rfl,by unfold v2s;rw[if_neg oo,if_neg oo,if_neg oo,if_neg Z,if_neg oo,if_neg c6,if_pos ⟨i,oo,c9⟩],((((q1.n6 q2 q3 q7 q8 q9 M).n1 a0).n1 a6).z2 a7 a2)⟩;refine sk (bn' (tn (rg (z0z U (wi6 oo) (mv U U (nl ?_))))));exact lpE (i+1) (.c4 U U U U) ⟨(a0.z3 a6 a7 a2),⟨oo,λk h=>by
  by_cases e:k=i;subst e;simp only[Int.toNat_natCast]at c8;have d5:=z1x (O.f.tt _ (z0y (d:=tq0) (i:=k) oo)).1;omega;exact b4 k oo⟩⟩ oo
 obtain rfl:i=6:=by omega
 refine ex (te (te (xh (tn (sr (asg U (nn (rt (r1 results17 U ?_)))))))));have Z:¬ ∃i,i<6/\¬y2z (s.ys.getD i yq0).p:=λ⟨k,hk,h⟩=>h (a5 k oo);have d0:¬ ∃i,i<6/\(s.ys.getD i yq0).ct≠((s.fb.ts.getD i tq0).2.length:Int):=λ⟨k,hk,h⟩=>h (b4 k oo);exact⟨_,rfl,by unfold v2s;rw[if_neg oo,if_neg oo,if_neg oo,if_neg Z,if_neg oo,if_neg c6,if_neg d0],((q1.n6 q2 q3 q7 q8 q9 M).n1 a0)⟩
theorem j5o {s:StQ}(M:-4<=s.rk/\s.rk<=4)(J:s.ys.length=6)(D:∀i,i<6->y2z (s.ys.getD i yq0).p/\(s.ys.getD i yq0).ct=((s.fb.ts.getD i tq0).2.length:Int))(I:s.fb.hs=(z2q s.q.p s.rk).map Hd.id):v2s s 0 0=0:=by
 unfold v2s;rw[if_neg oo,if_neg dd,if_neg oo,if_neg (λ⟨k,hk,h⟩=>h (D k hk).1),if_neg dd,if_neg (λh=>h I),if_neg (λ⟨k,hk,h⟩=>h (D k hk).2)]
theorem u7u (s:StQ)(w0:World)(hS:StAt w0 s)(hr:-4<=s.rk/\s.rk<=4)(Z:BdOk s.q.p)(M:s.ys.length=6)(J:s.fb.ts.length=6)(O:∀i,i<6->y2z (s.ys.getD i yq0).p/\(s.ys.getD i yq0).ct=((s.fb.ts.getD i tq0).2.length:Int))(D:∀w,FbAt w s.fb->Rets prog 50 #[.agg #[.slice s.fb.t.1 s.fb.t.2.1 s.fb.t.2.2,.slice s.fb.c.1 s.fb.c.2.1 s.fb.c.2.2,.slice s.fb.h.1 s.fb.h.2.1 s.fb.h.2.2,.slice s.fb.f.1 s.fb.f.2.1 s.fb.f.2.2]] w λr w'=>r=.int .i64 0/\Fr [] w w')(hh:s.fb.hs=(z2q s.q.p s.rk).map Hd.id)(I:s.fb.hs.length<=100000):Rets prog 17 #[.agg #[.int .i64 s.rk,.slice s.q.f.1 s.q.f.2.1 s.q.f.2.2,.slice s.q.b.1 s.q.b.2.1 s.q.b.2.2,.slice s.yv.1 s.yv.2.1 s.yv.2.2,.slice s.fb.t.1 s.fb.t.2.1 s.fb.t.2.2,.slice s.fb.c.1 s.fb.c.2.1 s.fb.c.2.2,.slice s.fb.h.1 s.fb.h.2.1 s.fb.h.2.2,.slice s.fb.f.1 s.fb.f.2.1 s.fb.f.2.2]] w0 λr w'=>r=.int .i64 0/\Fr [] w0 w':=by
 have x:=v9u s 0 0 w0 hS (λw h=>y8f s.q w h Z) (λ_=>Z) (λ_=>J) D I;rw[j5o hr M O hh]at x;exact x
end Go.Proofs.YtjilcnmaefhmeaaGreatDoor
namespace Go.G08
open Go.Lw Go.G21
end Go.G08
namespace Go.G08
open Go.Lw Go.G21
end Go.G08
namespace Go.G08
open Go.Lw Go.G21
end Go.G08
namespace Go.G08
open Go.Lw Go.G21
end Go.G08
namespace Go.G08
open Go.Lw Go.G21
def okM:Except (Int×Nat) MSt->MSt
  | .ok p=>p
  | .error _=>start
def isOk:Except (Int×Nat) MSt->Bool
  | .ok _=>true
  | .error _=>false
theorem x7u {x:Except (Int×Nat) MSt}(h:isOk x=true):x=.ok (okM x):=by
 cases x with
 | ok p=>rfl
 | error e=>cases h
end Go.G08
namespace Go.G09
open Go.Lw Go.G21 Go.G08
structure Hz where
  o:Int
  k:Int
  id:LId
deriving DecidableEq
def y6a (b n r:Int):Int:=z4g b n r / 4
def apt (a b:Int):Int:=max (a-b) (b-a)
structure Vw where
  l:List Hd
  r:Int
def vw0:Vw:=⟨[],0⟩
def vwB (B:Bd)(r:Int):Vw:=⟨z2q B r,r⟩
def Vw.pos (v:Vw)(i:LId):Option Int:=(v.l.find? λh=>decide (h.id=i)).map λh=>y6a h.b h.n v.r
def Vw.str (v:Vw)(i:LId):Bool:=match v.pos i,v.pos ⟨i.y,i.n-1⟩ with
  | some a,some b=>decide (6<apt a b)
  | _,_=>false
def Vw.on (v:Vw)(n:Int×Int):List LId:=(v.l.filter λh=>decide ((h.b,h.n)=n)).map Hd.id
def x3p {α:Type}[DecidableEq α]:List α->List α->List α
  | acc,[]=>acc
  | acc,x::l=>x3p (if x∈acc then acc else acc++[x]) l
def Vw.nds (v:Vw):List (Int×Int):=x3p [] (v.l.map λh=>(h.b,h.n))
def nwT (T:Tb)(i:LId):Bool:=((T.getD (i.y-1).toNat []).getD i.n.toNat ⟨0,false,[],[]⟩).nw
def j1d (T:Tb)(v u:Vw)(op:Int):List Hz:=((u.l.map Hd.id).filter λi=>!nwT T i && u.str i && !v.str i).map λi=>⟨op,2,i⟩
def j0j (v u:Vw)(op:Int):List Hz:=(u.nds.filter λn=>decide (3<(u.on n).length/\(v.on n).length<=3)).map λn=>⟨op,3,(u.on n).getLast?.getD id0⟩
structure Wt where
  md:List Int
  vw:Vw
  fd:List Hz
def wt0:Wt:=⟨List.replicate 6 0,vw0,[]⟩
def v1i (p:MSt)(o:MOp):LId:=⟨o.y,(p.y o.y).ct⟩
def u5h (T:Tb)(op:Int)(o:MOp)(p:MSt)(md:List Int):List Hz:=
  if nwT T (v1i p o)=false/\6<apt (y6a o.b o.p p.rk) (md.getD (o.y-1).toNat 0) then [⟨op,1,v1i p o⟩] else []
def j0g (Us:List LId)(op:Int)(o:MOp)(p:MSt):List Hz:=((p.B.at o.b o.p).filter λi=>decide (i∈Us)).map λi=>⟨op,4,i⟩
def y2x (o:MOp):Prop:=o.k=4\/o.k=5
instance (o:MOp):Decidable (y2x o):=inferInstanceAs (Decidable (_\/_))
def doH (T:Tb)(Us:List LId)(op:Int)(o:MOp)(p:MSt)(s:Wt):Wt:=
  if y2x o then { s with md:=s.md.set (o.y-1).toNat (y6a o.b o.p p.rk),fd:=s.fd++u5h T op o p s.md }
  else if o.k=8 then { s with fd:=s.fd++j0g Us op o p } else s
def j5m (T:Tb)(op:Int)(q:MSt)(s:Wt):Wt:=⟨s.md,vwB q.B q.rk,s.fd++(j1d T s.vw (vwB q.B q.rk) op++j0j s.vw (vwB q.B q.rk) op)⟩
def v8m (o:MOp):Prop:=o.k=1\/o.k=2\/o.k=6
instance (o:MOp):Decidable (v8m o):=inferInstanceAs (Decidable (_\/_))
def y3i (T:Tb)(Us:List LId)(op:Int)(o:MOp)(p q:MSt)(s:Wt):Wt:=if v8m o then s else j5m T op q (doH T Us op o p s)
def x4f (T:Tb)(Us:List LId):Nat->MSt->Wt->List MOp->Wt
  | _,_,s,[]=>s
  | i,p,s,o::l=>match doM p o with
    | .error _=>s
    | .ok q=>x4f T Us (i+1) q (y3i T Us i o p q s) l
def z4l (T:Tb)(i:LId):Bool:=decide (i.n+1=((T.getD (i.y-1).toNat []).length:Int)/\0<((T.getD (i.y-1).toNat []).getD i.n.toNat ⟨0,false,[],[]⟩).th.length)
def j9a (q:MSt):List LId:=q.fa.filter λi=>!z4l q.tb i
def rstL (n:Nat)(q:MSt):List Hz:=(z2q q.B q.rk).map λh=>⟨n,5,h.id⟩
def x0j (l:List MOp)(q:MSt):List Hz:=(x4f q.tb (j9a q) 0 G08.start wt0 l).fd++rstL l.length q
theorem u2r {b r:Int}{l:Bed}{i:Nat}{h:Hd}(D:h∈hds b r l i):∃k:Nat,k<i/\h.id∈l.getD k []/\h=⟨h.id,b,(k:Int)+1,z4g b ((k:Int)+1) r⟩:=by
 unfold hds at D;obtain⟨k,I,J⟩:=List.mem_flatMap.1 D;obtain⟨x,M,rfl⟩:=List.mem_map.1 J;exact⟨k,List.mem_range.1 I,M,rfl⟩
theorem x2g {B:Bd}(I:BdOk B){r:Int}{h:Hd}(M:h∈z2q B r):z3v h.b h.n=0/\h.id∈B.at h.b h.n/\h.s=z4g h.b h.n r:=by
 have D:=(y7p B r).mem_iff.1 M;unfold v7d at D;have hf:=I.lf;have O:=I.lb;rcases List.mem_append.1 D with D|D<;>obtain⟨k,Z,J,e⟩:=u2r D<;>rw[e]
 refine⟨v5u ⟨.inl U,sm,sm⟩,?_,rfl⟩;unfold Bd.at atB;rw[if_pos U];simpa using J;refine⟨v5u ⟨.inr U,sm,sm⟩,?_,rfl⟩;unfold Bd.at atB;rw[if_neg sp0];simpa using J
theorem j5t (v:Vw)(n:Int×Int):(v.on n).length<=v.l.length:=by
 unfold Vw.on;rw[List.length_map];exact List.length_filter_le _ _
theorem u4o (B:Bd)(r:Int):(vwB B r).l.length=B.flat.length:=by
 have:=(y9l B r).length_eq;rw[List.length_map]at this;exact this
def u6a (T:Tb)(v u:Vw)(i:LId):Bool:=!nwT T i && u.str i && !v.str i
theorem u6j (T:Tb)(v u:Vw)(op:Int):j1d T v u op=((u.l.map Hd.id).filter (u6a T v u)).map λi=>⟨op,2,i⟩:=rfl
end Go.G09
namespace Go.Lw
open Go
def MapV {κ:Type}[DecidableEq κ](V:κ->Value)(w:World)(v:Value)(f:κ->Option Value):Prop:=(v=.map none/\∀k,f k=none)\/∃g,v=.map (some g)/\MapF V w g f
section
variable {κ:Type} [DecidableEq κ] {V:κ->Value} {P:Program} {K:TypeId}
theorem MapV.ext {w w':World}{v:Value}{f:κ->Option Value}(h:MapV V w v f)(hf:Fr [] w w'):MapV V w' v f:=h.imp id λ⟨g,e,h⟩=>⟨g,e,h.ext hf⟩
theorem MapV.fr {w w':World}{v:Value}{f:κ->Option Value}{S:List Nat}(h:MapV V w v f)(hf:Fr S w w')(hn:∀g,v=.map (some g)->g∉S):MapV V w' v f:=h.imp id λ⟨g,e,h⟩=>⟨g,e,h.fr hf (hn g e)⟩
theorem MapV.nil {w:World}:MapV V w (.map none) λ_=>none:=.inl ⟨rfl,λ_=>rfl⟩
theorem MapF.v {w:World}{g:Nat}{f:κ->Option Value}(h:MapF V w g f):MapV V w (.map (some g)) f:=.inr ⟨g,rfl,h⟩
theorem x4t {w:World}{v:Value}{f:κ->Option Value}{t E:TypeId}{z:Value}(h:MapV V w v f)(D:KeyLaw P K V)(I:P.underlying t=some (.map K E))(J:(zeroValue E).run P w=.ok z w)(k:κ) :
    (Instr.lookup t v (V k) false).run P w=.ok ((f k).getD z) w:=by
  rcases h with ⟨rfl,h⟩|⟨g,rfl,h⟩
  · have e:=D.find k [] [] w U
    rw[h];simp at e;simp[Instr.lookup,run_underlying I,D.check,e,J]
  · exact y1z h D I J k
theorem x0u {w:World}{v:Value}{f:κ->Option Value}{t E:TypeId}{z:Value}(h:MapV V w v f)(D:KeyLaw P K V)(I:P.underlying t=some (.map K E))(J:(zeroValue E).run P w=.ok z w)(k:κ) :
    (Instr.lookup t v (V k) true).run P w=.ok (.tuple #[(f k).getD z,.bool (f k).isSome]) w:=by
  rcases h with ⟨rfl,h⟩|⟨g,rfl,h⟩
  · have e:=D.find k [] [] w U
    rw[h];simp at e;simp[Instr.lookup,run_underlying I,D.check,e,J]
  · exact y5g h D I J k
variable {a:Act} {n:Nat} {L:List (Nat×Value)} {ds:List Nat} {w:World} {Q:Exit->Act->World->Prop} {C:World->Prop} {Qa:Act->Prop} {ops:Array Oper} {rest:List Oper}
variable {d:Nat} {ty:TypeId} {pos:String} {after:Array Edge} {x y:Operand} {t E:TypeId} {f:κ->Option Value} {k:κ} {v zv mv:Value}
theorem v1f (h:AgM ds a n L)(M:ev L x=some mv)(O:ev L y=some (V k))(I:MapV V w mv f)(D:KeyLaw P K V)(J:P.underlying t=some (.map K E))(Z:∀w:World,(zeroValue E).run P w=.ok zv w) :
    (execOp a.eval ⟨some d,.lookup t x y false,ty,pos,after,none⟩).run P w=.ok (.value ((f k).getD zv)) w:=by
  simp[execOp,h.eval M,h.eval O,x4t I D J (Z w) k]
theorem x9v (h:AgM ds a n L)(O:ev L x=some mv)(Z:ev L y=some (V k))(I:MapV V w mv f)(D:KeyLaw P K V)(J:P.underlying t=some (.map K E))(hz:∀w:World,(zeroValue E).run P w=.ok zv w)(M:(f k).getD zv=v)(hn:Nat.blt d n=true)
    (q:∀a,AgM ds a n ((d,v)::L)->wpList P ops Q rest a w):wpList P ops Q (⟨some d,.lookup t x y false,ty,pos,after,none⟩::rest) a w:=
  z2a h U hn (by rw[<-M];exact v1f h O Z I D J hz) q
theorem v4u (O:ev L x=some mv)(Z:ev L y=some (V k))(I:MapV V w mv f)(D:KeyLaw P K V)(J:P.underlying t=some (.map K E))(hz:∀w:World,(zeroValue E).run P w=.ok zv w)(M:(f k).getD zv=v)(hn:Nat.blt d n=true)(q:WL P ops Q rest n ds w ((d,v)::L)):WL P ops Q (⟨some d,.lookup t x y false,ty,pos,after,none⟩::rest) n ds w L:=λa h=>x9v h O Z I D J hz M hn q
theorem x4p (h:AgM ds a n L)(M:ev L x=some mv)(O:ev L y=some (V k))(I:MapV V w mv f)(D:KeyLaw P K V)(J:P.underlying t=some (.map K E))(Z:∀w:World,(zeroValue E).run P w=.ok zv w) :
    (execOp a.eval ⟨some d,.lookup t x y true,ty,pos,after,none⟩).run P w=.ok (.value (.tuple #[(f k).getD zv,.bool (f k).isSome])) w:=by
  simp[execOp,h.eval M,h.eval O,x0u I D J (Z w) k]
theorem x4x {bo:Bool}(h:AgM ds a n L)(O:ev L x=some mv)(Z:ev L y=some (V k))(I:MapV V w mv f)(D:KeyLaw P K V)(J:P.underlying t=some (.map K E))(hz:∀w:World,(zeroValue E).run P w=.ok zv w)(M:(f k).getD zv=v)(hb:(f k).isSome=bo)(hn:Nat.blt d n=true)
    (q:∀a,AgM ds a n ((d,.tuple #[v,.bool bo])::L)->wpList P ops Q rest a w):wpList P ops Q (⟨some d,.lookup t x y true,ty,pos,after,none⟩::rest) a w:=
  z2a h U hn (by rw[<-M,<-hb];exact x4p h O Z I D J hz) q
theorem y7t {bo:Bool}(O:ev L x=some mv)(Z:ev L y=some (V k))(I:MapV V w mv f)(D:KeyLaw P K V)(J:P.underlying t=some (.map K E))(hz:∀w:World,(zeroValue E).run P w=.ok zv w)(M:(f k).getD zv=v)(hb:(f k).isSome=bo)(hn:Nat.blt d n=true)(q:WL P ops Q rest n ds w ((d,.tuple #[v,.bool bo])::L)):WL P ops Q (⟨some d,.lookup t x y true,ty,pos,after,none⟩::rest) n ds w L:=λa h=>x4x h O Z I D J hz M hb hn q
end
end Go.Lw
namespace Go.G09
open Go Go.Lw Go.G21 Go.G08
abbrev ndK (n:Int×Int):Value:=.agg #[.int .u8 n.1,.int .i64 n.2]
abbrev idK (i:LId):Value:=.agg #[.int .u8 i.y,.int .i64 i.n]
def ndH (h:Hd):Int×Int:=(h.b,h.n)
def atM (l:List Hd)(r:Int):List (LId×Value):=l.map λh=>(h.id,.int .i64 (y6a h.b h.n r))
def atF (v:Vw)(i:LId):Option Value:=(v.pos i).map λp=>.int .i64 p
def y4z (v:Vw)(n:Int×Int):Option Value:=(v.on n).getLast?.map idK
def y0p (v:Vw):List ((Int×Int)×Value):=v.nds.map λn=>(n,.int .i64 (v.on n).length)
theorem z8v {κ:Type}[DecidableEq κ]{α:Type}(K:α->κ)(V:α->Value)(k:κ):∀l:List α,z1h (l.map λh=>(K h,V h)) k=(l.find? λh=>decide (K h=k)).map V
 | []=>rfl
 | h::l=>by
  show (if k=K h then some (V h) else z1h (l.map λh=>(K h,V h)) k)=_
  rw[List.find?_cons,z8v K V k l]
  by_cases e:K h=k
  ·rw[if_pos e.symm,decide_eq_true e];rfl
  rw[if_neg (λx=>e x.symm),decide_eq_false e]
theorem j8y (l:List Hd)(r:Int):z1h (atM l r)=atF ⟨l,r⟩:=funext λi=>by
 unfold atM atF Vw.pos
 rw[z8v,Option.map_map]
 rfl
theorem u2l {l:List Hd}{r:Int}{i:Nat}(hn:(l.map Hd.id).Nodup)(I:i<l.length):z1u (atM (l.take i) r) (l.getD i hd0).id (.int .i64 (y6a (l.getD i hd0).b (l.getD i hd0).n r))=atM (l.take (i+1)) r:=by
 rw[z1z hd0 I];unfold atM;rw[List.map_append,z8j];rfl;intro J;rw[List.map_map]at J;obtain⟨h,M,e⟩:=List.mem_map.1 J;have D:((l.take (i+1)).map Hd.id).Nodup:=by rw[List.map_take];exact hn.sublist (List.take_sublist _ _)
 rw[z1z hd0 I,List.map_append,List.nodup_append]at D;exact D.2.2 _ (List.mem_map_of_mem M) _ (List.mem_singleton.2 U) e
theorem v5p (l:List Hd)(h:Hd)(r:Int)(n:Int×Int):(⟨l++[h],r⟩:Vw).on n=(⟨l,r⟩:Vw).on n++(if ndH h=n then [h.id] else []):=by
 unfold Vw.on;simp only;rw[List.filter_append,List.map_append];congr 1;rw[List.filter_cons];by_cases e:ndH h=n;rw[if_pos e,if_pos (by simpa[ndH] using e)];rfl;rw[if_neg e,if_neg (by simpa[ndH] using e)];rfl
theorem x9m {l:List Hd}{r:Int}{i:Nat}(D:i<l.length):(λk'=>if k'=ndH (l.getD i hd0) then some (idK (l.getD i hd0).id) else y4z ⟨l.take i,r⟩ k')=y4z ⟨l.take (i+1),r⟩:=funext λn=>by
 unfold y4z
 rw[z1z hd0 D,v5p]
 by_cases e:n=ndH (l.getD i hd0)
 ·rw[if_pos e,if_pos e.symm,List.getLast?_append];rfl
 rw[if_neg e,if_neg (λx=>e x.symm),List.append_nil]
theorem x6u {α:Type}[DecidableEq α](x:α):∀(l D:List α),x3p D (l++[x])=if x∈x3p D l then x3p D l else x3p D l++[x]
 | [],D=>rfl
 | y::l,D=>by
  show x3p (if y∈D then D else D++[y]) (l++[x])=_
  rw[x6u x l];rfl
theorem v8g {α:Type}[DecidableEq α]{x:α}:∀ {l D:List α},x∈x3p D l↔x∈D\/x∈l
 | [],D=>by show x∈D↔_;simp
 | y::l,D=>by
  show x∈x3p (if y∈D then D else D++[y]) l↔_
  rw[v8g]
  by_cases h:y∈D
  ·rw[if_pos h,List.mem_cons]
   constructor
   ·rintro(a|a);exact .inl a;exact .inr (.inr a)
   rintro(a|a|a);exact .inl a;exact .inl (a▸h);exact .inr a
  rw[if_neg h,List.mem_append,List.mem_singleton,List.mem_cons,or_assoc]
theorem x1x {α:Type}[DecidableEq α]:∀ {l D:List α},D.Nodup->(x3p D l).Nodup
 | [],D,h=>h
 | y::l,D,h=>by
  show (x3p (if y∈D then D else D++[y]) l).Nodup
  refine x1x ?_
  split
  ·exact h
  rename_i M
  exact List.nodup_append.2 ⟨h,List.pairwise_singleton _ y,λa I b J e=>M (by rw[List.mem_singleton.1 J]at e;exact e▸I)⟩
theorem y2u {κ:Type}[DecidableEq κ]{f g:κ->Value}{k:κ}:∀ {l:List κ},l.Nodup->k∈l->(∀x,x≠k->g x=f x)->z1u (l.map λn=>(n,f n)) k (g k)=l.map λn=>(n,g n)
 | [],_,h,_=>by cases h
 | x::l,hn,h,hg=>by
  obtain⟨J,M⟩:=List.nodup_cons.1 hn
  by_cases e:k=x
  ·subst e
   have I:∀y∈l,(y,f y)=(y,g y):=λy hy=>by rw[hg y (λe=>J (e▸hy))]
   unfold z1u
   simp only[List.map_cons,List.map_map]
   rw[List.findIdx?_cons,decide_eq_true U,if_pos U]
   show ((k,g k)::l.map λn=>(n,f n))=_
   rw[List.map_congr_left I]
  have D:=y2u (f:=f) (g:=g) M (by rcases List.mem_cons.1 h with a|a;exact absurd a e;exact a) hg
  have Z:g x=f x:=hg x (λa=>e a.symm)
  unfold z1u at D ⊢
  simp only[List.map_cons,List.map_map]at D ⊢
  rw[List.findIdx?_cons,decide_eq_false e,if_neg dd]
  have O:k∈l:=by rcases List.mem_cons.1 h with a|a;exact absurd a e;exact a
  cases c:List.findIdx? (λx=>decide (k=x)) (List.map (Prod.fst ∘ λn=>(n,f n)) l) with
  | none=>
   rw[List.findIdx?_eq_none_iff]at c
   have:=c k (List.mem_map.2 ⟨k,O,rfl⟩)
   simp at this
  | some i=>
   rw[c]at D
   simp only[Option.map_some]at D ⊢
   rw[List.modify_succ_cons,D,Z]
theorem j6e (v:Vw)(n:Int×Int):n∈v.nds↔0<(v.on n).length:=by
 unfold Vw.nds Vw.on;rw[v8g,List.length_map];simp only[List.not_mem_nil,false_or];rw[List.length_pos_iff_exists_mem];constructor;intro h;obtain⟨x,D,e⟩:=List.mem_map.1 h;exact⟨x,List.mem_filter.2 ⟨D,by simpa using e⟩⟩;rintro⟨x,D⟩;obtain⟨I,J⟩:=List.mem_filter.1 D;exact List.mem_map.2 ⟨x,I,by simpa using J⟩
theorem x3h (v:Vw)(n:Int×Int):(z1h (y0p v) n).getD (.int .i64 0)=.int .i64 (v.on n).length:=by
 unfold y0p;rw[z8v (λn=>n) (λn=>.int .i64 (v.on n).length)];by_cases h:n∈v.nds;cases c:v.nds.find? λh=>decide (h=n) with
 | none=>have:=List.find?_eq_none.1 c n h;simp at this
 | some x=>
  have:=List.find?_some c;have e:x=n:=by simpa using this
  rw[e];rfl
 rw[List.find?_eq_none.2 λx D=>by simp only[decide_eq_true_eq];exact λe=>h (e▸D)];have:(v.on n).length=0:=by rw[j6e]at h;omega
 rw[this];rfl
theorem y7r {l:List Hd}{r:Int}{i:Nat}(M:i<l.length):z1u (y0p ⟨l.take i,r⟩) (ndH (l.getD i hd0)) (.int .i64 (((⟨l.take i,r⟩:Vw).on (ndH (l.getD i hd0))).length+1))=y0p ⟨l.take (i+1),r⟩:=by
 have D:∀n,((⟨l.take (i+1),r⟩:Vw).on n).length=((⟨l.take i,r⟩:Vw).on n).length+if ndH (l.getD i hd0)=n then 1 else 0:=λn=>by
  rw[z1z hd0 M,v5p,List.length_append];split<;>rfl
 have O:(⟨l.take (i+1),r⟩:Vw).nds=if ndH (l.getD i hd0)∈(⟨l.take i,r⟩:Vw).nds then (⟨l.take i,r⟩:Vw).nds else (⟨l.take i,r⟩:Vw).nds++[ndH (l.getD i hd0)]:=by
  unfold Vw.nds;simp only;rw[z1z hd0 M,List.map_append];refine(x6u (ndH (l.getD i hd0)) ((l.take i).map ndH) []).trans ?_;by_cases h:ndH (l.getD i hd0)∈x3p [] ((l.take i).map ndH);rw[if_pos h,if_pos (show ndH (l.getD i hd0)∈x3p [] (List.map (λh=>(h.b,h.n)) (l.take i)) from h)];rfl;rw[if_neg h,if_neg (show ¬ndH (l.getD i hd0)∈x3p [] (List.map (λh=>(h.b,h.n)) (l.take i)) from h)];rfl
 have I:(⟨l.take i,r⟩:Vw).nds.Nodup:=x1x .nil;have Z:(.int .i64 (((⟨l.take i,r⟩:Vw).on (ndH (l.getD i hd0))).length+1):Value)=.int .i64 (((⟨l.take (i+1),r⟩:Vw).on (ndH (l.getD i hd0))).length):=by
  rw[D,if_pos U];rfl
 rw[Z];unfold y0p;rw[O];by_cases h:ndH (l.getD i hd0)∈(⟨l.take i,r⟩:Vw).nds;rw[if_pos h];exact y2u (f:=λn=>.int .i64 ((⟨l.take i,r⟩:Vw).on n).length) (g:=λn=>.int .i64 ((⟨l.take (i+1),r⟩:Vw).on n).length) I h λx J=>by
  show (Value.int .i64 _)=_;rw[D,if_neg (λe=>J e.symm)];rfl
 rw[if_neg h,z8j (by rw[List.map_map];simpa using h),List.map_append];congr 1;refine List.map_congr_left λx J=>?_;rw[D,if_neg (λe:ndH (l.getD i hd0)=x=>h (e▸J))];rfl
end Go.G09
namespace Go.Proofs.YtjilcnmaefhmeaaGreatDoor
open Go.Lw Go.G21 Go.G08 Go.G09 _root_.Go.Proofs.Tryz
theorem v2x (b p r:Int)(w0:World)(hn:z3v b p=0)(Z:-4<=r/\r<=4):Rets prog 166 #[.agg #[.int .u8 b,.int .i64 p],.int .i64 r] w0 λv w'=>v=.int .i64 (y6a b p r)/\Fr [] w0 w':=by
 have J:=z2p hn;refine we [(0,.agg #[.int .u8 b,.int .i64 p]),(1,.int .i64 r)] func166 U ntmps166 U (.c2 U U) (sr (bx U (λg2 w1 M D O z1=>(asg U (nn (sr (z0m U D z4k (mv U U (cl (ev2 U) x5b (z9y _ _ _ _ oo) U ?_)))))))));rintro _ w2 ⟨rfl,I⟩;have z2:=I.size;exact v6q (m:=2) (z:=y6a b p r) U U dd U U (asg U (kpL [(4,_)] (.cons U .nil) (nn (rt (r1 results166 U ⟨_,rfl,rfl,(O.n1 I)⟩)))))
theorem v4a (x y:Int)(w0:World)(D:-1000000<=x/\x<=1000000)(I:-1000000<=y/\y<=1000000):Rets prog 167 #[.int .i64 x,.int .i64 y] w0 λv w'=>v=.int .i64 (apt x y)/\Fr [] w0 w':=by
 exact we [(0,.int .i64 x),(1,.int .i64 y)] func167 U ntmps167 U (.c2 U U) (sr (asg U (nn (sr (mv U U (mv U U (z2r U (wi6 oo) (mv U U (mv U U (z2r U (wi6 oo) (j2x U U U (asg U (kpL [(4,_)] (.cons U .nil) (nn (rt (r1 results167 U ⟨_,rfl,rfl,(Fr.refl _ _)⟩))))))))))))))))
end Go.Proofs.YtjilcnmaefhmeaaGreatDoor
namespace Go.Lw
open Go Go.RowKit
def MapLE {κ:Type}[DecidableEq κ](V:κ->Value)(w:World)(g:Nat)(m:List (κ×Value))(k:κ)(st:Nat):Prop:=
  ∃(es:Array MapEntry) (c:Nat) (j:Nat),w.heap[g]?=some (.map es c)/\es.toList.map (λe=>(e.key,e.val))=m.map (λp=>(V p.1,p.2))/\(m.map (·.1)).Nodup/\(es.toList.map (·.born)).Nodup/\(∀e∈es.toList,e.born<c)/\(m.map (·.1)).findIdx? (λx=>decide (k=x))=some j/\(es.toList[j]?).map (·.born)=some st
section
variable {κ:Type} [DecidableEq κ] {V:κ->Value} {P:Program} {K:TypeId}
theorem MapLE.fr {w w':World}{g st:Nat}{m:List (κ×Value)}{k:κ}{S:List Nat}(h:MapLE V w g m k st)(hf:Fr S w w')(hn:g∉S):MapLE V w' g m k st:=by
 obtain⟨I,c,j,D,J⟩:=h;exact⟨I,c,j,(hf.block g (Array.getElem?_eq_some_iff.1 D).1 hn).trans D,J⟩
theorem MapLE.l {w:World}{g st:Nat}{m:List (κ×Value)}{k:κ}(h:MapLE V w g m k st):MapL V w g m:=let ⟨es,c,_,h1,h2,h3,h4,h5,_⟩:=h;⟨es,c,h1,h2,h3,h4,h5⟩
theorem x0z {m:List (κ×Value)}{k:κ}{z v:Value}(h:(m.map (·.1)).findIdx? (λx=>decide (k=x))=none):z1u (m++[(k,z)]) k v=z1u m k v:=by
 have I:((m++[(k,z)]).map (·.1)).findIdx? (λx=>decide (k=x))=some m.length:=by
  rw[List.map_append,List.findIdx?_append,h];simp
 unfold z1u;rw[h,I];simp only;apply List.ext_getElem?;intro i;rw[List.getElem?_modify];by_cases hi:i<m.length;have D:¬m.length=i:=by omega
 rw[List.getElem?_append_left hi,List.getElem?_append_left hi];simp[D];rw[List.getElem?_append_right oo,List.getElem?_append_right oo];by_cases e:m.length=i;subst e;simp;rw[List.getElem?_eq_none so,List.getElem?_eq_none so];rfl
theorem x0b {w:World}{g:Nat}{z:Value}{m:List (κ×Value)}{t E:TypeId}(h:MapL V w g m)(hk:KeyLaw P K V)(hu:P.underlying t=some (.map K E))(hz:∀w:World,(zeroValue E).run P w=.ok z w)(k:κ) :
    ∃w' st m',(Instr.mapEntry t (.map (some g)) (V k)).run P w=.ok (.tuple #[(z1h m k).getD z,.int .i64 (st:Nat)]) w'/\MapLE V w' g m' k st/\((∀v,z1u m' k v=z1u m k v)/\(z1h m' k).getD z=(z1h m k).getD z)/\Fr [g] w w'/\w'.heap.size=w.heap.size:=by
  obtain⟨I,c,h1,h2,a8,h4,h5⟩:=h
  have b0:=(Array.getElem?_eq_some_iff.1 h1).1
  have Z:I.toList.map (·.key)=(m.map (·.1)).map V:=by
    have:=congrArg (List.map Prod.fst) h2
    simpa[List.map_map,Function.comp_def] using this
  have J:=hk.find k I.toList (m.map (·.1)) w Z
  have a0:∀o,(setObj g o).run P w=.ok () { w with heap:=w.heap.setIfInBounds g o }:=by intro o;simp[setObj,Sem.run,h1]
  have a4:∀o,Fr [g] w { w with heap:=w.heap.setIfInBounds g o }:=λo=>⟨rfl,rfl,rfl,sp0,λi _ hn=>by
    simp only
    rw[Array.getElem?_setIfInBounds_ne (by intro e;subst e;simp at hn)]⟩
  have M:∀o,({ w with heap:=w.heap.setIfInBounds g o }:World).heap[g]?=some o:=by intro o;simp[b0]
  have a6:I.toList.length=m.length:=by have:=congrArg List.length h2;simpa using this
  have D:=z9i (V:=V) m k I.toList h2
  cases hf:(m.map (·.1)).findIdx? (λx=>decide (k=x)) with
  | none=>
    rw[hf]at J D
    simp only[Option.bind_none,Option.map_none]at D
    have e0:(z1h m k).getD z=z:=by rw[<-D];rfl
    refine⟨{ w with heap:=w.heap.setIfInBounds g (.map (I.push { key:=V k,val:=z,born:=c }) (c+1)) },c,m++[(k,z)],?_,⟨_,_,m.length,M (.map (I.push { key:=V k,val:=z,born:=c }) (c+1)),?_,?_,?_,?_,?_,?_⟩,⟨λv=>x0z hf,by rw[z9b m k k z hf,if_pos U,e0];rfl⟩,a4 _,sp0⟩
    · simp only[Instr.mapEntry,Sem.run_bind,run_underlying hu,Result.andThen_ok,z2h h1,hk.check,J,Option.bind_none,hz w,a0,Sem.run_pure,e0]
      rfl
    · simp[h2]
    · rw[List.map_append]
      refine List.nodup_append.2 ⟨a8,sp0,λa ha b hb e=>?_⟩
      have a9:b=k:=by simpa using hb
      have:=List.findIdx?_eq_none_iff.1 hf a ha
      simp[e,a9]at this
    · simp only[Array.toList_push,List.map_append,List.map_cons,List.map_nil]
      refine List.nodup_append.2 ⟨h4,sp0,λa ha b hb e=>?_⟩
      simp only[List.mem_singleton]at hb
      obtain⟨x,hx,rfl⟩:=List.mem_map.1 ha
      have:=h5 x hx;omega
    · intro e he
      simp only[Array.toList_push,List.mem_append,List.mem_singleton]at he
      rcases he with he|rfl
      · have:=h5 e he;omega
      · simp
    · rw[List.map_append,List.findIdx?_append,hf];simp
    · simp only[Array.toList_push]
      rw[<-a6,List.getElem?_append_right (Nat.le_refl _)];simp
  | some i=>
    have hi:i<m.length:=by
      have:=List.findIdx?_eq_some_iff_findIdx_eq.1 hf
      simpa using this.1
    have O:i<I.toList.length:=by omega
    have a5:V k=(I.toList[i]).key:=by
      have a7:=List.findIdx?_eq_some_iff_getElem.1 hf
      obtain⟨b4,hp,_⟩:=a7
      have b3:k=(m.map (·.1))[i]:=by simpa using hp
      have e1:(I.toList.map (·.key))[i]?=((m.map (·.1)).map V)[i]?:=by rw[Z]
      simp only[List.getElem?_map,List.getElem?_eq_getElem O,List.getElem?_eq_getElem hi,Option.map_some,Option.some.injEq]at e1
      rw[e1,b3];simp
    have a3:I[i]?=some I.toList[i]:=by rw[<-Array.getElem?_toList,List.getElem?_eq_getElem O]
    have a2:(Instr.keyThatStays (((I[i]?).map (·.key)).getD (V k)) (V k)).run P w=.ok (V k) w:=by
      rw[a3]
      simp only[Option.map_some,Option.getD_some,<-a5,Instr.keyThatStays,hk.bits,if_true,Sem.run_pure]
    have a1:I.modify i (λe=>{ e with key:=V k })=I:=by
      apply Array.ext'
      rw[Array.toList_modify]
      apply List.ext_getElem?
      intro j
      rw[List.getElem?_modify]
      by_cases hj:i=j
      · subst hj
        rw[List.getElem?_eq_getElem O]
        simp only[Option.map_eq_map,Option.map_some,if_pos,Option.some.injEq]
        rw[a5]
      · simp[hj]
    rw[hf]at J D
    simp only[Option.bind_some,List.getElem?_eq_getElem O,Option.map_some]at J D
    have e0:(z1h m k).getD z=I.toList[i].val:=by rw[<-D];rfl
    refine⟨{ w with heap:=w.heap.setIfInBounds g (.map I c) },I.toList[i].born,m,?_,⟨I,c,i,M _,h2,a8,h4,h5,hf,?_⟩,⟨λ_=>rfl,rfl⟩,a4 _,sp0⟩
    · simp only[Instr.mapEntry,Sem.run_bind,run_underlying hu,Result.andThen_ok,z2h h1,hk.check,J,a2,a0,a1,Sem.run_pure,e0]
      rw[a3];rfl
    · rw[List.getElem?_eq_getElem O];rfl
theorem y5n {w:World}{g st:Nat}{v:Value}{m:List (κ×Value)}{t:TypeId}{k:κ}(h:MapLE V w g m k st) :
    ∃w',(Instr.entryStore t (.map (some g)) (.int .i64 (st:Nat)) v).run P w=.ok () w'/\MapL V w' g (z1u m k v)/\Fr [g] w w'/\w'.heap.size=w.heap.size:=by
  obtain⟨I,c,j,h1,h2,a3,h4,h5,h6,h7⟩:=h
  have has:z1u m k v=m.modify j λp=>(p.1,v):=by unfold z1u;rw[h6]
  rw[has]
  have a2:=(Array.getElem?_eq_some_iff.1 h1).1
  have a0:∀o,(setObj g o).run P w=.ok () { w with heap:=w.heap.setIfInBounds g o }:=by intro o;simp[setObj,Sem.run,h1]
  have a1:∀o,Fr [g] w { w with heap:=w.heap.setIfInBounds g o }:=λo=>⟨rfl,rfl,rfl,sp0,λi _ hn=>by
    simp only
    rw[Array.getElem?_setIfInBounds_ne (by intro e;subst e;simp at hn)]⟩
  have J:∀o,({ w with heap:=w.heap.setIfInBounds g o }:World).heap[g]?=some o:=by intro o;simp[a2]
  have Z:I.findIdx? (λe=>((e.born:Nat):Int) == ((st:Nat):Int))=some j:=by
    have e:I.findIdx? (λe=>((e.born:Nat):Int) == ((st:Nat):Int))=I.toList.findIdx? (λe=>((e.born:Nat):Int) == ((st:Nat):Int)):=by cases I;simp
    rw[e];exact y6v h4 h7
  have hi:j<m.length:=by
    have:=List.findIdx?_eq_some_iff_findIdx_eq.1 h6
    simpa using this.1
  refine⟨{ w with heap:=w.heap.setIfInBounds g (.map (I.modify j λe=>{ e with val:=v }) c) },?_,⟨_,c,J _,?_,?_,?_,?_⟩,a1 _,sp0⟩
  · simp only[Instr.entryStore,Sem.run_bind,Result.andThen_ok,z2h h1,asInt,asIntOf,Sem.run_pure,Z,a0]
  · rw[Array.toList_modify]
    apply List.ext_getElem?
    intro i
    have D:=congrArg (·[i]?) h2
    simp only[List.getElem?_map]at D ⊢
    rw[List.getElem?_modify,List.getElem?_modify]
    by_cases hj:j=i
    · subst hj
      simp only[Option.map_eq_map,if_pos]
      cases M:I.toList[j]? with
      | none=>rw[M]at D;cases hm:m[j]? with
        | none=>rfl
        | some p=>rw[hm]at D;cases D
      | some e=>rw[M]at D;cases hm:m[j]? with
        | none=>rw[hm]at D;cases D
        | some p=>
          rw[hm]at D
          simp only[Option.map_some,Option.some.injEq,Prod.mk.injEq]at D ⊢
          first|exact⟨D.1,rfl⟩|exact⟨D.1,trivial⟩|simp[D.1]
    · simp only[Option.map_eq_map,if_neg hj];simpa using D
  · have e:(m.modify j λp=>(p.1,v)).map (·.1)=m.map (·.1):=by
      apply List.ext_getElem?
      intro i
      rw[List.getElem?_map,List.getElem?_map,List.getElem?_modify]
      split
      · cases m[i]?<;>rfl
      · simp
    rw[e];exact a3
  · rw[Array.toList_modify]
    have e:(I.toList.modify j λe=>{ e with val:=v }).map (·.born)=I.toList.map (·.born):=by
      apply List.ext_getElem?
      intro i
      rw[List.getElem?_map,List.getElem?_map,List.getElem?_modify]
      split
      · cases I.toList[i]?<;>rfl
      · simp
    rw[e];exact h4
  · intro e M
    rw[Array.toList_modify]at M
    obtain⟨i,O,rfl⟩:=List.getElem_of_mem M
    rw[List.length_modify]at O
    rw[List.getElem_modify]
    have:=h5 _ (List.getElem_mem O)
    split<;>exact this
variable {a:Act} {n:Nat} {L:List (Nat×Value)} {ds:List Nat} {w w':World} {Q:Exit->Act->World->Prop} {ops:Array Oper} {rest:List Oper}
variable {d:Nat} {ty:TypeId} {pos:String} {after:Array Edge} {x y z':Operand} {t E:TypeId} {g st:Nat} {m:List (κ×Value)} {k:κ} {v z:Value}
theorem y3d (h:AgM ds a n L)(hx:ev L x=some (.map (some g)))(hy:ev L y=some (V k))(hm:MapL V w g m)(Z:KeyLaw P K V)(hu:P.underlying t=some (.map K E))(hz:∀w:World,(zeroValue E).run P w=.ok z w)(hn:Nat.blt d n=true)
    (q:∀w' st D,MapLE V w' g D k st->((∀v,z1u D k v=z1u m k v)/\(z1h D k).getD z=(z1h m k).getD z)->Fr [g] w w'->w'.heap.size=w.heap.size->∀a,AgM ds a n ((d,.tuple #[(z1h m k).getD z,.int .i64 (st:Nat)])::L)->wpList P ops Q rest a w'):wpList P ops Q (⟨some d,.mapEntry t x y,ty,pos,after,none⟩::rest) a w:=by
  obtain⟨w',st,D,hr,I,J,M,O⟩:=x0b hm Z hu hz k
  exact z2a h U hn (w':=w') (by simp[execOp,h.eval hx,h.eval hy,hr]) (q w' st D I J M O)
theorem z9p {s:Operand}(h:AgM ds a n L)(hx:ev L x=some (.map (some g)))(Z:ev L s=some (.int .i64 (st:Nat)))(hy:ev L y=some v)(M:MapLE V w g m k st)
    (q:∀w',MapL V w' g (z1u m k v)->Fr [g] w w'->w'.heap.size=w.heap.size->∀a,AgM ds a n L->wpList P ops Q rest a w'):wpList P ops Q (⟨none,.entryStore t x s y,ty,pos,after,none⟩::rest) a w:=by
  obtain⟨w',O,D,I,J⟩:=y5n (P:=P) (t:=t) (v:=v) M
  exact z8c h U U (w':=w') (by simp[execOp,h.eval hx,h.eval Z,h.eval hy,O]) (q w' D I J)
theorem x4r (V:κ->Value)(h:AgM ds a n L)(hn:Nat.blt d n=true)
    (q:∀g w',g=w.heap.size->MapL V w' g []->Fr [] w w'->w'.heap.size=g+1->∀a,AgM ds a n ((d,.map (some g))::L)->wpList P ops Q rest a w'):wpList P ops Q (⟨some d,.makeMap t none,ty,pos,after,none⟩::rest) a w:=
  z2a h U hn (w':=w.alloc (.map #[] 0)) (by simp[execOp,Instr.makeMap]) (q _ _ U ⟨_,_,heap_alloc_new w _,sp0,sp0,sp0,sp0⟩ (Fr.alloc [] w _) sp0)
theorem y7i (V:κ->Value)(hn:Nat.blt d n=true)(q:∀g w',g=w.heap.size->MapL V w' g []->Fr [] w w'->w'.heap.size=g+1->WL P ops Q rest n ds w' ((d,.map (some g))::L)):WL P ops Q (⟨some d,.makeMap t none,ty,pos,after,none⟩::rest) n ds w L:=λa h=>x4r V h hn q
end
end Go.Lw
namespace Go.G09
open Go Go.Lw Go.G21 Go.G08
structure WtQ where
  fb:FbQ
  gu:Nat
  rk:Int
  q:BdQ
  ct:List Int
  md:List Int
  va:Value
  vl:Value
  vm:Value
  fd:SV
abbrev wtL (s:WtQ):List Value:=[.slice s.fb.t.1 s.fb.t.2.1 s.fb.t.2.2,.slice s.fb.c.1 s.fb.c.2.1 s.fb.c.2.2,.slice s.fb.h.1 s.fb.h.2.1 s.fb.h.2.2,.slice s.fb.f.1 s.fb.f.2.1 s.fb.f.2.2,.map (some s.gu),.int .i64 s.rk,
  .slice s.q.f.1 s.q.f.2.1 s.q.f.2.2,.slice s.q.b.1 s.q.b.2.1 s.q.b.2.2,
  .int .i64 (s.ct.getD 0 0),.int .i64 (s.ct.getD 1 0),.int .i64 (s.ct.getD 2 0),.int .i64 (s.ct.getD 3 0),.int .i64 (s.ct.getD 4 0),.int .i64 (s.ct.getD 5 0),
  .int .i64 (s.md.getD 0 0),.int .i64 (s.md.getD 1 0),.int .i64 (s.md.getD 2 0),.int .i64 (s.md.getD 3 0),.int .i64 (s.md.getD 4 0),.int .i64 (s.md.getD 5 0),
  s.va,s.vl,s.vm,.slice s.fd.1 s.fd.2.1 s.fd.2.2]
theorem y1e {y:Nat}(h:y<6):y=0\/y=1\/y=2\/y=3\/y=4\/y=5:=oo
theorem x7f {l:List Int}(h:l.length=6):∃a b c d e f,l=[a,b,c,d,e,f]:=by
 match l,h with
 | [a,b,c,d,e,f],_=>exact⟨a,b,c,d,e,f,rfl⟩
theorem j6x {s:WtQ}{y:Nat}(h:y<6):(wtL s)[8+y]?=some (.int .i64 (s.ct.getD y 0)):=by
 rcases y1e h with rfl|rfl|rfl|rfl|rfl|rfl<;>rfl
theorem j9u {s:WtQ}{y:Nat}(h:y<6):(wtL s)[14+y]?=some (.int .i64 (s.md.getD y 0)):=by
 rcases y1e h with rfl|rfl|rfl|rfl|rfl|rfl<;>rfl
theorem u2u {s:WtQ}{y:Nat}{v:Int}(hl:s.ct.length=6)(h:y<6):(wtL s).set (8+y) (.int .i64 v)=wtL { s with ct:=s.ct.set y v }:=by
 obtain⟨a,b,c,d,e,f,D⟩:=x7f hl;unfold wtL;simp only[D];rcases y1e h with rfl|rfl|rfl|rfl|rfl|rfl<;>rfl
theorem u0k {s:WtQ}{y:Nat}{v:Int}(hl:s.md.length=6)(h:y<6):(wtL s).set (14+y) (.int .i64 v)=wtL { s with md:=s.md.set y v }:=by
 obtain⟨a,b,c,d,e,f,D⟩:=x7f hl;unfold wtL;simp only[D];rcases y1e h with rfl|rfl|rfl|rfl|rfl|rfl<;>rfl
end Go.G09
namespace Go.G09
open Go.Lw Go.G21 Go.G08
def j2k (v u:Vw)(n:Int×Int):Bool:=decide (3<(u.on n).length/\(v.on n).length<=3)
theorem u6q (v u:Vw)(op:Int):j0j v u op=(u.nds.filter (j2k v u)).map λn=>⟨op,3,(u.on n).getLast?.getD id0⟩:=rfl
theorem u2m {T:Tb}{v u:Vw}{op:Int}{D:List LId}(h:D.Perm (u.l.map Hd.id)):((D.filter (u6a T v u)).map λi=>(⟨op,2,i⟩:Hz)).Perm (j1d T v u op):=by
 rw[u6j];exact(h.filter _).map _
theorem u1i {v u:Vw}{op:Int}{D:List (Int×Int)}(h:D.Perm u.nds):((D.filter (j2k v u)).map λn=>(⟨op,3,(u.on n).getLast?.getD id0⟩:Hz)).Perm (j0j v u op):=by
 rw[u6q];exact(h.filter _).map _
theorem z9d {α:Type}(P:α->Bool)(f:α->Hz)(l:List α)(x:α):((l++[x]).filter P).map f=(l.filter P).map f++if P x=true then [f x] else []:=by
 rw[List.filter_append,List.map_append];congr 1;rw[List.filter_cons];split<;>rfl
theorem x9o {fd a b D I fd':List Hz}(h:fd'.Perm fd)(h1:D.Perm a)(J:I.Perm b):((fd'++D)++I).Perm (fd++(a++b)):=by
 rw[List.append_assoc];exact h.append (h1.append J)
end Go.G09
namespace Go.Proofs.YtjilcnmaefhmeaaGreatDoor
open Go.Lw Go.G21 Go.G08 Go.G09 _root_.Go.Proofs.Tryz
theorem x0a:z0x prog 141 0 0:=λ_ _=>kr
theorem v7y {v:Vw}{i:LId}(hb:∀j p,v.pos j=some p->-1000<=p/\p<=1000):-1000<=(v.pos i).getD 0/\(v.pos i).getD 0<=1000:=by
 cases h:v.pos i with
 | none=>simp
 | some p=>exact hb i p h
theorem v5a (v:Vw)(i:LId):v.str i=((v.pos i).isSome && (v.pos ⟨i.y,i.n-1⟩).isSome && decide (6<apt ((v.pos i).getD 0) ((v.pos ⟨i.y,i.n-1⟩).getD 0))):=by
 unfold Vw.str;cases v.pos i<;>cases v.pos ⟨i.y,i.n-1⟩<;>rfl
theorem v1m (v:Vw)(va vl vm:Value)(i:LId)(w0:World)(I:MapV idV w0 va (atF v))(hb:∀j p,v.pos j=some p->-1000<=p/\p<=1000)(hi:-1000000<=i.n/\i.n<=1000000):Rets prog 126 #[.agg #[va,vl,vm],.agg #[.int .u8 i.y,.int .i64 i.n]] w0 λr w'=>r=.bool (v.str i)/\Fr [] w0 w':=by
 have a2:=v7y (i:=i) hb;have a3:=v7y (i:=⟨i.y,i.n-1⟩) hb;refine we [(0,.agg #[va,vl,vm]),(1,.agg #[.int .u8 i.y,.int .i64 i.n])] func126 U ntmps126 U (.c2 U U) ?_;have M:=I;refine sr (bx U (λg2 w1 a0 D Z z1=>(bx U (λg3 w2 a1 J O z2=>(asg U (nn (sr (fad U x0a ?_))))))));replace D:=D.ext O;refine z0i U D U v1a (z0m U J z2w ?_);replace I:=M.ext (Z.n1 O);refine y7t (k:=i) (f:=atF v) (v:=.int .i64 ((v.pos i).getD 0)) (bo:=(v.pos i).isSome) U U I z4a underlying137 zvI (by unfold atF;cases v.pos i<;>rfl) (by unfold atF;cases v.pos i<;>rfl) U ?_;refine mv U U (xt U (xt U (asg U (asg U (kpL [(2,_),(3,_),(5,_),(6,_)] (.c4 U U U U) (nn (sr (fad U x0a (z0i U D U v1a (fad U z5m (z0i U J U na5 (fad U z6f (z0i U J U na3 (z2r U (wi6 oo) (z1p (cs:=[_,_]) (ev2 U) j3j (z0f U (z0f U z0p)) U ?_)))))))))))))));refine y7t (k:=⟨i.y,i.n-1⟩) (f:=atF v) (v:=.int .i64 ((v.pos ⟨i.y,i.n-1⟩).getD 0)) (bo:=(v.pos ⟨i.y,i.n-1⟩).isSome) U U I z4a underlying137 zvI (by unfold atF;cases v.pos ⟨i.y,i.n-1⟩<;>rfl) (by unfold atF;cases v.pos ⟨i.y,i.n-1⟩<;>rfl) U ?_;refine mv U U (xt U (xt U (asg U (asg U (kpL [(5,_),(6,_),(7,_),(8,_)] (.c4 U U U U) (nn (sr (mv U U (mv U U (gs 29 U (λg0=>?_) (λg0=>?_)))))))))));refine gY U (mv U U (pkt U (mv U U (gs 32 U (λg1=>?_) (λg1=>?_)))));refine gY U (mv U U (gY U (mv U U (gY U (cl (ev2 U) (mkC func167) (v4a _ _ _ oo oo) U ?_)))));rintro _ w3 ⟨rfl,q3⟩;have z3:=q3.size;exact gY U (gt' U (pkt U (asg U (kpL [(4,_)] (.cons U .nil) (nn (rt (r1 results126 U ⟨_,rfl,by rw[v5a];simp_all,(Z.n2 O q3)⟩)))))));exact gN U (gN U (gN U (gN U (pkf U (asg U (kpL [(4,_)] (.cons U .nil) (nn (rt (r1 results126 U ⟨_,rfl,by rw[v5a];simp_all,(Z.n1 O)⟩)))))))));exact gN U (pkf U (mv U U (gN U (gN U (gN U (gN U (pkf U (asg U (kpL [(4,_)] (.cons U .nil) (nn (rt (r1 results126 U ⟨_,rfl,by rw[v5a];simp_all,(Z.n1 O)⟩))))))))))))
theorem j0h:z0x prog 143 0 0:=λ_ _=>kr
theorem j0r (ts:List TQ)(i:LId):nwT (z1s ts) i=((ts.getD (i.y-1).toNat tq0).2.getD i.n.toNat lq0).nw:=by
 have e:(z1s ts).getD (i.y-1).toNat []=(ts.getD (i.y-1).toNat tq0).2.map LpQ.p:=by
  unfold z1s;rw[List.getD,List.getD,List.getElem?_map];cases ts[(i.y-1).toNat]?<;>rfl
 unfold nwT;rw[e];generalize (ts.getD (i.y-1).toNat tq0).2=r;rw[List.getD,List.getD,List.getElem?_map];cases r[i.n.toNat]?<;>rfl
theorem v3f (gw:Nat)(s:WtQ)(i:LId)(w0:World)(I:Blk w0 gw 143 (wtL s))(J:FbAt w0 s.fb)(h6:s.fb.ts.length=6)(hi:z3p (z1s s.fb.ts) i):Rets prog 125 #[.pointer (some ⟨gw,0,none⟩),.agg #[.int .u8 i.y,.int .i64 i.n]] w0 λr w'=>r=.bool (nwT (z1s s.fb.ts) i)/\Fr [] w0 w':=by
 have a3:=z5a J.tt;have a8:=a3 (i.y-1).toNat;have a7:=z2d.1 hi;have b0:=I.lt;have a9:=z1x J.t;refine we [(0,.pointer (some ⟨gw,0,none⟩)),(1,.agg #[.int .u8 i.y,.int .i64 i.n])] func125 U ntmps125 U (.c2 U U) ?_;have a2:=J;refine sr (bx U (λg3 w1 a6 Z q1 z1=>(asg U (nn (sq ?_)))));replace J:=a2.ext q1;intro a h;refine z0h none (λwb w'=>Fr [] wb w') z2m ?_;intro w2 q2;have z2:=q2.size;replace I:=I.ext (q1.n1 q2);replace J:=J.ext q2;replace Z:=Z.ext q2;have hC:Fr [] w2 w2:=Fr.refl _ _;have O:=I;have M:=J;have D:=Z;refine z0e 0 h U λa h=>z0l 1 h U λa h=>z0c 2 h U j0h U λa h=>z5s 3 h U z9q U λa h=>z0j 4 h U (λ_ I=>O.ext I) U x3s U λa h=>z0c 5 h U z5m U λa h=>z0j 6 h U (λ_ I=>D.ext I) U na5 U λa h=>z2t 7 h wn U (by first|exact IntWalk.u8_in _ oo|rfl) U λa h=>z1g (tq0) 8 h U J.t U y5z U ?_ (hp:=rfl);clear h a;intro a4 a0 a h;refine z2u 9 h wn U (λ_ I=>a0 _ (M.t.ext I)) x1u U λa h=>z0c 10 h U z6f U λa h=>z0j 11 h U (λ_ I=>D.ext I) U na3 U λa h=>z1g (lq0) 12 h U (J.tt _ (z0y (d:=tq0) (i:=(i.y-1).toNat) oo)).1 U x9w U ?_ (hp:=rfl);clear h a;intro a5 a1 a h;refine z0c 13 h U v4m U λa h=>y3y 14 hC h wn U (λ_ I=>a1 _ ((J.tt _ (z0y (d:=tq0) (i:=(i.y-1).toNat) oo)).1.ext I)) U na4 U U λa h=>z0d 15 U (z0s h U λa h=>?_);refine z0b (z0q ?_);clear hC O M D;exact bk (h.sub (L':=[(4,_)]) (.cons U .nil)) (tn (rt (r1 results125 U ⟨_,rfl,by rw[j0r],(q1.n1 q2)⟩)))
end Go.Proofs.YtjilcnmaefhmeaaGreatDoor
namespace Go.G08
open Go.Lw Go.G21
theorem y6u {p q:MSt}{y D en:Int}(e:y3j p y D en=.ok q):q.B=p.B:=by
 unfold y3j at e;split at e;cases e;cases e;rfl
theorem u9h {p q:MSt}{d:Int}(e:z8p p d=.ok q):q.B=p.B:=by
 unfold z8p at e;split at e;cases e;split at e;cases e;cases e;rfl
theorem v2u:∀ {n:Nat} {p q:MSt} {r:Int},z4y n p r=.ok q->q.B=p.B
 | 0,p,q,r,e=>by cases e;rfl
 | n+1,p,q,r,e=>by
  unfold z4y at e
  split at e
  ·cases e;rfl
  split at e
  ·cases e
  rename_i I D
  exact(v2u e).trans (u9h D)
def StK (Us:List Nat)(w:World)(s:StQ):Prop:=∀(S:List Nat) (w':World),Fr S w w'->(∀k∈S,k<w.heap.size->∃T cs,Blk w k T cs/\T∉Us)->StAt w' s
theorem StK.at {Us:List Nat}{w:World}{s:StQ}(h:StK Us w s):StAt w s:=h [] w (Fr.refl _ _) λk D=>by cases D
theorem StK.fr {Us:List Nat}{w w':World}{s:StQ}{S:List Nat}(h:StK Us w s)(hf:Fr S w w')(J:∀k∈S,k<w.heap.size->∃T cs,Blk w k T cs/\T∉Us):StK Us w' s:=λS2 w2 I Z=>h (S++S2) w2 (hf.trans I) λk hk D=>by
 by_cases hm:k∈S
 ·exact J k hm D
 obtain⟨T,cs,O,M⟩:=Z k ((List.mem_append.1 hk).resolve_left hm) (Nat.lt_of_lt_of_le D hf.size)
 exact⟨T,cs,(hf.block k D hm).symm.trans O,M⟩
theorem StK.ext {Us:List Nat}{w w':World}{s:StQ}(h:StK Us w s)(hf:Fr [] w w'):StK Us w' s:=h.fr hf λk D=>by cases D
theorem StO.fr {τ:TyK}{I base:Nat}{w w':World}{s:StQ}{S:List Nat}(h:StO τ I base w s)(hf:Fr S w w')(hd:∀k∈S,k<w.heap.size->∃T cs,Blk w k T cs/\T∉[τ.S,τ.I,τ.Y,τ.P,τ.T,τ.L,I]):StO τ I base w' s:=by
 have D:Fr (S.filter λk=>decide (k<w.heap.size)) w w':=hf.weak λk M hl=>List.mem_filter.2 ⟨M,by simpa using hl⟩;have o:∀T',T'∈[τ.S,τ.I,τ.Y,τ.P,τ.T,τ.L,I]->OffT w T' (S.filter λk=>decide (k<w.heap.size)):=λT' J k M=>by
  obtain⟨O,Z⟩:=List.mem_filter.1 M;obtain⟨T,cs,hb,hT⟩:=hd k O (by simpa using Z);exact⟨T,cs,hb,λe=>hT (e▸J)⟩
 exact⟨BdO.tf h.b D (o _ sp0) (o _ sp0),h.y.tf D (o _ sp0) (o _ sp0),h.t.tf D (o _ sp0) (o _ sp0) (o _ sp0) (o _ sp0),z1v h.c D (o _ sp0),z1v h.h D (o _ sp0),z1v h.f D (o _ sp0),h.sp⟩
theorem StO.k {τ:TyK}{D base:Nat}{w:World}{s:StQ}(h:StO τ D base w s):StK [τ.S,τ.I,τ.Y,τ.P,τ.T,τ.L,D] w s:=λ_ _ hf I=>(h.fr hf I).at
theorem u6t {p q:MSt}{d:Int}(e:z8p p d=.ok q):q.rk=p.rk+stI d:=by
 unfold z8p at e;split at e;cases e;split at e;cases e;cases e;rfl
theorem j3b {p:MSt}{y:Int}{q:Yn}(h:(y-1).toNat<p.ys.length):(p.setY y q).y y=q:=by
 unfold MSt.setY MSt.y;simp only;rw[List.getD,List.getElem?_set_self (by exact h)];rfl
theorem y2j {p q:MSt}{y D en:Int}(e:y3j p y D en=.ok q):goE (p.y y) D (v2t p y en)=0/\q=p.setY y (goS (p.y y) D (v2t p y en)):=by
 unfold y3j at e;split at e;cases e;rename_i h;cases e;exact⟨Classical.not_not.1 h,rfl⟩
end Go.G08
namespace Go.Lw
theorem v6k {c:UInt8}:∀ {l:List UInt8},c∉l->Lib.index l [c] = -1
 | [],_=>by simp[Lib.index]
 | b::l,h=>by
  have D:¬c=b:=λe=>h (by rw[e];simp)
  have I:c∉l:=λe=>h (by simp[e])
  rw[Lib.index,v6k I]
  simp[List.isPrefixOf,D]
theorem u4l {c:UInt8}(y:List UInt8):∀ {x:List UInt8},c∉x->Lib.index (x++c::y) [c]=x.length
 | [],_=>by simp[Lib.index,List.isPrefixOf]
 | b::x,h=>by
  have D:¬c=b:=λe=>h (by rw[e];simp)
  have I:c∉x:=λe=>h (by simp[e])
  rw[List.cons_append,Lib.index,u4l y I]
  simp only[List.isPrefixOf,beq_eq_false_iff_ne.2 D,Bool.false_and,Bool.false_eq_true,if_false]
  rw[if_neg se];simp
theorem cnt {c:UInt8}:∀(f:Nat) (s:List UInt8),s.length<f->Lib.countFrom [c] f s=s.count c
 | 0,s,h=>by omega
 | f+1,s,h=>by
  rw[Lib.countFrom]
  by_cases hm:c∈s
  ·obtain⟨x,y,rfl,D⟩:=List.eq_append_cons_of_mem hm
   rw[u4l y D,if_neg se]
   have e:(x++c::y).drop ((x.length:Int).toNat + [c].length)=y:=by
    rw[Int.toNat_natCast,show x++c::y=(x++[c])++y by simp,show x.length + [c].length=(x++[c]).length by simp,List.drop_left]
   rw[e,cnt f y (by simp at h;omega)]
   simp[List.count_eq_zero.2 D];omega
  rw[v6k hm,if_pos dd,List.count_eq_zero.2 hm]
end Go.Lw
namespace Go.G08
open Go.Lw Go.G21
end Go.G08
namespace Go.G09
open Go.Lw Go.G21 Go.G08
end Go.G09
namespace Go.G08
open Go.Lw Go.G21
theorem x4v {p q:MSt}{y D en:Int}(e:y3j p y D en=.ok q):q.tb=p.tb:=by obtain⟨_,rfl⟩:=y2j e;rfl
theorem x6t {r:Int}:∀ {n:Nat} {p q:MSt},z4y n p r=.ok q->q.tb=p.tb
 | 0,p,q,e=>by cases e;rfl
 | n+1,p,q,e=>by
  unfold z4y at e
  split at e
  ·cases e;rfl
  split at e
  ·cases e
  rename_i I D
  refine(x6t e).trans ?_
  unfold z8p at D
  split at D
  ·cases D
  split at D
  ·cases D
  cases D;rfl
end Go.G08
namespace Go.G09
open Go.Lw Go.G21 Go.G08
section
variable {p:MSt} {y:Int} {z:Yn} {B:Bd} {rows:List Bool} {N:Nat}
end
end Go.G09
namespace Go.G09
open Go.Lw Go.G21 Go.G08
section
variable {y sd dk b1 p dt b2 q:Int}
end
end Go.G09
namespace Go.G09
open Go.Lw Go.G21 Go.G08
section
variable {y sd dk b1 p dt b2 q:Int}
end
end Go.G09
namespace Go.G09
open Go.Lw Go.G21 Go.G08
def PfT (T0 T:Tb):Prop:=∀y,T0.getD y [] <+: T.getD y []
theorem PfT.refl (T:Tb):PfT T T:=λ_=>List.prefix_refl _
theorem PfT.trans {A B C:Tb}(h:PfT A B)(D:PfT B C):PfT A C:=λy=>(h y).trans (D y)
theorem j7d (T:Tb)(j:Nat)(l:Lp):PfT T (T.set j (T.getD j []++[l])):=λy=>by
 by_cases hj:j=y
 ·subst hj
  by_cases hl:j<T.length
  ·rw[show (T.set j (T.getD j []++[l])).getD j []=T.getD j []++[l] by rw[List.getD,List.getElem?_set,if_pos U,if_pos hl];rfl]
   exact List.prefix_append _ _
  rw[List.set_eq_of_length_le oo];exact List.prefix_refl _
 rw[show (T.set j (T.getD j []++[l])).getD y []=T.getD y [] by rw[List.getD,List.getElem?_set,if_neg hj];rfl]
 exact List.prefix_refl _
theorem v8c {p q:MSt}{o:MOp}{D st:List LId}(e:x0h p o D st=.ok q):PfT p.tb q.tb/\q.B=p.B.put o.b o.p (st++[⟨o.y,(p.y o.y).ct⟩]):=by
 unfold x0h at e;split at e;cases e;split at e;cases e;cases e;exact⟨j7d _ _ _,rfl⟩
theorem y2a {p q:MSt}{y D en:Int}(e:y3j p y D en=.ok q):(q.y y).ct=(p.y y).ct:=by
 obtain⟨_,rfl⟩:=y2j e;by_cases h:(y-1).toNat<p.ys.length;rw[j3b h];rfl;show ((p.ys.set _ _).getD _ yn0).ct=_;rw[List.set_eq_of_length_le oo];rfl
theorem j2w {p q:MSt}{o:MOp}(e:doM p o=.ok q):PfT p.tb q.tb/\(y2x o->∃st,q.B=p.B.put o.b o.p (st++[v1i p o])):=by
 have t:∀ {x:MSt},x.tb=p.tb->¬y2x o->PfT p.tb x.tb/\(y2x o->∃st,x.B=p.B.put o.b o.p (st++[v1i p o])):=λh I=>⟨by rw[h];exact PfT.refl _,λh=>absurd h I⟩;unfold doM at e;split at e;cases e;unfold opM at e;split at e;rename_i D;unfold inM at e;split at e;cases e;cases e;exact t U (by unfold y2x;omega);split at e;rename_i D;unfold v0s at e;split at e;cases e;cases e;exact t U (by unfold y2x;omega);split at e;rename_i D;exact t (x6t e) (by unfold y2x;omega);split at e;unfold y2k at e;split at e;cases e;split at e;cases e;rename_i h;obtain⟨a,b⟩:=v8c e;rw[x4v h]at a;rw[y2a h,y6u h]at b;exact⟨a,λ_=>⟨_,b⟩⟩;split at e;unfold y0v at e;split at e;cases e;split at e;cases e;rename_i h;split at e;cases e;obtain⟨a,b⟩:=v8c e;rw[x4v h]at a;rw[y2a h,y6u h]at b;exact⟨a,λ_=>⟨_,b⟩⟩;split at e;rename_i D;unfold y5m at e;split at e;cases e;exact t (x4v e) (by unfold y2x;omega);split at e;rename_i D;unfold z9l at e;repeat (split at e;· cases e)
 cases e;exact t U (by unfold y2x;omega);rename_i J M O Z h5 h6 h7;unfold y3h at e;split at e;cases e;cases e;exact t U (by unfold y2x;omega)
theorem u4y:∀ {l:List MOp} {i:Nat} {p q:MSt},z3y i p l=.ok q->PfT p.tb q.tb
 | [],i,p,q,e=>by cases e;exact PfT.refl _
 | o::l,i,p,q,e=>by
  rw[z3y]at e
  split at e
  ·cases e
  rename_i h;exact(j2w h).1.trans (u4y e)
theorem j4l {p q:MSt}{o:MOp}(h:MVal p)(e:doM p o=.ok q)(D:y2x o):z3p q.tb (v1i p o):=by
 obtain⟨st,J⟩:=(j2w e).2 D;have O:=v5k h e;have M:y7h o=0:=Classical.byContradiction λx=>by unfold doM at e;rw[if_pos x]at e;cases e
 have I:=(z6d M).2.2.2.2.1 (by rcases D with h|h<;>omega);refine O.inv.has _ (z6g (b:=o.b) (n:=o.p) ?_);rw[J,y8q _ I I,if_pos ⟨rfl,rfl⟩];exact List.mem_append_right _ (List.mem_singleton.2 U)
theorem y8y {I:List MOp}:∀ {D:List MOp} {i:Nat} {p:MSt},z3y i p (D++I)=match z3y i p D with|.error e=>.error e|.ok q=>z3y (i+D.length) q I
 | [],i,p=>rfl
 | o::D,i,p=>by
  show z3y i p (o::(D++I))=_
  rw[z3y,z3y]
  cases doM p o with
  | error e=>rfl
  | ok q=>
   simp only
   rw[y8y,List.length_cons,show i+1+D.length=i+(D.length+1) by omega]
theorem x8w {T:Tb}{Us:List LId}{I:List MOp}:∀ {D:List MOp} {i:Nat} {p q:MSt} {s:Wt},z3y i p D=.ok q->x4f T Us i p s (D++I)=x4f T Us (i+D.length) q (x4f T Us i p s D) I
 | [],i,p,q,s,e=>by cases e;rfl
 | o::D,i,p,q,s,e=>by
  rw[z3y]at e
  show x4f T Us i p s (o::(D++I))=_
  rw[x4f,x4f]
  split at e
  ·cases e
  rename_i M J
  rw[J]
  simp only
  rw[x8w e,List.length_cons,show i+1+D.length=i+(D.length+1) by omega]
def k3 (l:List Hz):List Hz:=l.filter λh=>decide (h.k<=3)
end Go.G09
namespace Go.G09
open Go.Lw Go.G21 Go.G08 Go.Proofs Go.Sort
def hzL (h:Hz):List Value:=[.int .i64 h.o,.int .u8 h.k,.int .u8 h.id.y,.int .i64 h.id.n]
def y4q:Enc Hz:=⟨hzL,4,λ_=>rfl,λ_ u h=>by simp [hzL] at h;rcases h with rfl|rfl|rfl|rfl<;>rfl,dd⟩
def hz0:Hz:=⟨0,0,id0⟩
def y0q (a b:Hz):Int:=if z6a a.o b.o≠0 then z6a a.o b.o else if z6a a.k b.k≠0 then z6a a.k b.k else z6n a.id b.id
theorem z6m {x y:Int}:z6a x y<0↔x<y:=by unfold z6a;split<;>(try split)<;>omega
theorem x9h {x y:Int}:z6a x y=0↔x=y:=by unfold z6a;split<;>(try split)<;>omega
theorem z8d {a b:Hz}:y0q a b<0↔a.o<b.o\/a.o=b.o/\(a.k<b.k\/a.k=b.k/\(a.id.y<b.id.y\/a.id.y=b.id.y/\a.id.n<b.id.n)):=by
 unfold y0q;split;rename_i h;rw[z6m];rw[Ne,x9h]at h;omega;rename_i h;rw[Decidable.not_not,x9h]at h;split;rename_i D;rw[z6m];rw[Ne,x9h]at D;omega;rename_i D;rw[Decidable.not_not,x9h]at D;rw[z6w];omega
theorem swoH:SWO (ltOf y0q):=by
 constructor;intro x;simp only[ltOf,decide_eq_false_iff_not,z8d];omega;intro x y z;simp only[ltOf,decide_eq_true_eq,z8d];omega;intro x y z;simp only[ltOf,decide_eq_false_iff_not,z8d];omega
def y6w (l:List Hz):List Hz:=l.mergeSort λa b=>decide (¬y0q b a<0)
theorem y0s (l:List Hz):(y6w l).Perm l:=List.mergeSort_perm ..
theorem x6p (l:List Hz):(y6w l).Pairwise λa b=>¬y0q b a<0:=
 (List.pairwise_mergeSort (le:=λa b=>decide (¬y0q b a<0)) (λa b c=>by simp only[decide_eq_true_eq,z8d];omega) (λa b=>by simp only[Bool.or_eq_true,decide_eq_true_eq,z8d];omega) l).imp sp0
theorem x5d {l l':List Hz}(hp:l'.Perm l)(J:l'.Pairwise λa b=>¬y0q b a<0):l'=y6w l:=by
 refine List.Perm.eq_of_pairwise (λa b _ _ D I=>?_) J (x6p l) (hp.trans (y0s l).symm);rw[z8d]at D I;obtain⟨_,_,⟨_,_⟩⟩:=a;obtain⟨_,_,⟨_,_⟩⟩:=b;simp only at D I;rw[Hz.mk.injEq,LId.mk.injEq];omega
theorem v1b {l l':List Hz}(h:l.Perm l'):y6w l=y6w l':=x5d ((y0s l).trans h) (x6p l)
theorem y0i {l:List Hz}(h:l.Pairwise λa b=>y0q a b<0):y6w l=l:=(x5d (List.Perm.refl l) (h.imp λh=>by rw[z8d]at h ⊢;omega)).symm
section
variable {y b1 p b2 q:Int}
end
end Go.G09
namespace Go.G09
open Go.Lw Go.G21 Go.G08
def ctL (p:MSt):List Int:=p.ys.map Yn.ct
theorem x4d {p:MSt}{y:Int}{z:Yn}(h:z.ct=(p.y y).ct):ctL (p.setY y z)=ctL p:=by
 unfold ctL MSt.setY;simp only;rw[List.map_set,h];by_cases hl:(y-1).toNat<p.ys.length;refine List.ext_getElem? λi=>?_;rw[List.getElem?_set];by_cases e:(y-1).toNat=i;subst e;rw[if_pos U,if_pos (by rw[List.length_map];exact hl),List.getElem?_map,List.getElem?_eq_getElem hl];show some (p.ys.getD _ yn0).ct=_;rw[List.getD,List.getElem?_eq_getElem hl];rfl;rw[if_neg e];rw[List.set_eq_of_length_le (by rw[List.length_map];omega)]
theorem y7x {p q:MSt}{y D en:Int}(e:y3j p y D en=.ok q):ctL q=ctL p:=by
 obtain⟨_,rfl⟩:=y2j e;exact x4d U
theorem x8a {p:MSt}{d:Int}:∀ {l l':List Yn},z4v p d l=.ok l'->l'.map Yn.ct=l.map Yn.ct
 | [],l',h=>by cases h;rfl
 | y::l,l',h=>by
  unfold z4v at h
  split at h
  ·cases h
  rename_i M I
  split at h
  ·cases h
  rename_i J D
  cases h
  rw[List.map_cons,List.map_cons,x8a D,(x8e I).2]
theorem v7b {r:Int}:∀ {n:Nat} {p q:MSt},z4y n p r=.ok q->ctL q=ctL p
 | 0,p,q,e=>by cases e;rfl
 | n+1,p,q,e=>by
  unfold z4y at e
  split at e
  ·cases e;rfl
  split at e
  ·cases e
  rename_i J D
  refine(v7b e).trans ?_
  unfold z8p at D
  split at D
  ·cases D
  rename_i ys I
  split at D
  ·cases D
  cases D;exact x8a I
theorem v2y {p q:MSt}{o:MOp}{D st:List LId}(e:x0h p o D st=.ok q):q.rk=p.rk/\q.B=p.B.put o.b o.p (st++[⟨o.y,(p.y o.y).ct⟩])/\ctL q=(ctL p).set (o.y-1).toNat ((p.y o.y).ct+1):=by
 unfold x0h at e;split at e;cases e;split at e;cases e;cases e;refine⟨rfl,rfl,?_⟩;unfold ctL;show (p.ys.set _ _).map Yn.ct=_;rw[List.map_set];rfl
theorem y7n {p q:MSt}{o:MOp}(e:doM p o=.ok q):y7h o=0/\opM p o=.ok q:=by
 unfold doM at e;split at e;cases e;rename_i h;exact⟨Decidable.not_not.1 h,e⟩
theorem j6f {p q:MSt}{o:MOp}(e:doM p o=.ok q)(O:y2x o):q.rk=p.rk/\q.B=p.B.put o.b o.p ((if o.k=4 then [] else p.B.at o.b o.p)++[v1i p o])/\ctL q=(ctL p).set (o.y-1).toNat ((p.y o.y).ct+1)/\(o.k=5->(p.B.at o.b o.p).length<4):=by
 obtain⟨_,e⟩:=y7n e;unfold opM at e;rcases O with J|J
 rw[if_neg oo,if_neg oo,if_neg oo,if_pos J]at e;unfold y2k at e;split at e;cases e;split at e;cases e;rename_i Z D;obtain⟨a,b,c⟩:=v2y e;obtain⟨_,I⟩:=y2j D;rw[y6u D,y2a D]at b;rw[y7x D,y2a D]at c;refine⟨by rw[a,I];rfl,by rw[if_pos J];exact b,c,oo⟩;rw[if_neg oo,if_neg oo,if_neg oo,if_neg oo,if_pos J]at e;unfold y0v at e;split at e;cases e;split at e;cases e;rename_i Z D;split at e;cases e;rename_i M;obtain⟨a,b,c⟩:=v2y e;obtain⟨_,I⟩:=y2j D;rw[y6u D]at M;rw[y6u D,y2a D]at b;rw[y7x D,y2a D]at c;exact⟨by rw[a,I];rfl,by rw[if_neg oo];exact b,c,λ_=>oo⟩
theorem j9t {p q:MSt}{o:MOp}(e:doM p o=.ok q)(J:v8m o):q.rk=p.rk/\q.B=p.B/\ctL q=ctL p:=by
 obtain⟨_,e⟩:=y7n e;unfold opM at e;rcases J with D|D|D
 rw[if_pos D]at e;unfold inM at e;split at e;cases e;cases e;exact⟨rfl,rfl,x4d U⟩;rw[if_neg oo,if_pos D]at e;unfold v0s at e;split at e;cases e;cases e;exact⟨rfl,rfl,x4d U⟩;rw[if_neg oo,if_neg oo,if_neg oo,if_neg oo,if_neg oo,if_pos D]at e;unfold y5m at e;split at e;cases e;obtain⟨_,I⟩:=y2j e;exact⟨by rw[I];rfl,y6u e,y7x e⟩
theorem u7z {p q:MSt}{o:MOp}(Z:-4<=p.rk/\p.rk<=4)(e:doM p o=.ok q)(I:o.k=3):q.rk=o.r/\q.B=p.B/\ctL q=ctL p:=by
 obtain⟨M,e⟩:=y7n e;have O:=(z6d M).2.2.2.2.2 I;unfold opM at e;rw[if_neg oo,if_neg oo,if_pos I]at e;have D:∀ {k:Nat} {p q:MSt},(p.rk-o.r<=k/\o.r-p.rk<=k)->z4y k p o.r=.ok q->q.rk=o.r:=by
  intro k;induction k with
  | zero=>intro p q h e;cases e;omega
  | succ k ih=>
   intro p q h e;unfold z4y at e;by_cases e0:p.rk=o.r;rw[if_pos e0]at e;cases e;exact e0;rw[if_neg e0]at e;split at e;cases e;rename_i p1 J;refine ih ?_ e;rw[u6t J];unfold stI;split;rw[if_pos U];omega;rw[if_neg dd];omega
 exact⟨D (k:=8) oo e,v2u e,v7b e⟩
theorem j0u {p q:MSt}{o:MOp}(e:doM p o=.ok q)(O:o.k=7):q.rk=p.rk/\ctL q=ctL p/\p.B.at o.b o.p≠[]/\z3v (1-o.b) (z6o o.b o.p p.rk)=0/\(p.B.at o.b o.p).length+(p.B.at (1-o.b) (z6o o.b o.p p.rk)).length<=4/\q.B=(p.B.put o.b o.p []).put (1-o.b) (z6o o.b o.p p.rk) (y1x p.B o.b o.p (z6o o.b o.p p.rk)):=by
 obtain⟨M,e⟩:=y7n e;obtain⟨D,_,_⟩:=z2p ((z6d M).2.2.2.2.1 oo);unfold opM at e;rw[if_neg oo,if_neg oo,if_neg oo,if_neg oo,if_neg oo,if_neg oo,if_pos O]at e;unfold z9l at e;split at e;cases e;rename_i I;split at e;cases e;rename_i J;split at e;cases e;split at e;cases e;rename_i Z;cases e;refine⟨rfl,rfl,I,Decidable.not_not.1 J,oo,?_⟩;show (p.B.put o.b o.p []).put _ _ (z9j p o)=_;congr 1;unfold z9j y1x;rcases D with D|D<;>rw[D]
 rw[if_neg dd,if_neg dd];rfl;rw[if_pos U,if_pos U];rfl
theorem u6u {p q:MSt}{o:MOp}(e:doM p o=.ok q)(D:o.k=8):q.rk=p.rk/\ctL q=ctL p/\q.B=p.B.put o.b o.p []:=by
 obtain⟨_,e⟩:=y7n e;unfold opM at e;rw[if_neg oo,if_neg oo,if_neg oo,if_neg oo,if_neg oo,if_neg oo,if_neg oo]at e;unfold y3h at e;split at e;cases e;cases e;exact⟨rfl,rfl,rfl⟩
theorem x5q {B:Bd}{b n:Int}{l:List LId}(hn:z3v b n=0)(h:BdOk (B.put b n l))(i:LId):B.flat.count i+l.count i<=(B.at b n).count i+1:=by
 have I:=z3w B hn l i;have D:=h.nd.count (a:=i);split at D<;>omega
end Go.G09
namespace Go.Lw
section
variable {P:Program} {a:Act} {n:Nat} {L:List (Nat×Value)} {ds:List Nat} {w:World} {Q:Exit->Act->World->Prop} {C:World->Prop} {ops:Array Oper} {rest:List Oper} {d:Nat} {ty:TypeId} {pos:String} {after:Array Edge} {x y:Operand} {t T:TypeId} {k:IntKind} {i:Int}
theorem u9v {ad:Addr}{N o1 p:Nat}(h:AgM ds a n L)(M:ev L x=some (.pointer (some (ad.add o1))))(O:ev L y=some (.int k i))(J:P.underlying t=some (.array N T))(I:z1r P T 1)(D:0<=i)(h1:i<N)(hp:i.toNat=p)(hn:Nat.blt d n=true)
    (q:∀a,AgM ds a n ((d,.pointer (some (ad.add (o1+p))))::L)->wpList P ops Q rest a w):wpList P ops Q (⟨some d,.indexAddr t x y,ty,pos,after,none⟩::rest) a w:=
  v4y h M O J I D h1 hn (by rw[z7c,hp,Nat.mul_one];exact q)
theorem u3t {ad:Addr}{N o1 p:Nat}(M:ev L x=some (.pointer (some (ad.add o1))))(O:ev L y=some (.int k i))(J:P.underlying t=some (.array N T))(I:z1r P T 1)(D:0<=i)(h1:i<N)(hp:i.toNat=p)(hn:Nat.blt d n=true)
 (q:WL P ops Q rest n ds w ((d,.pointer (some (ad.add (o1+p))))::L)):WL P ops Q (⟨some d,.indexAddr t x y,ty,pos,after,none⟩::rest) n ds w L:=λa h=>u9v h M O J I D h1 hp hn q
theorem x4w {G:Option (Nat×Bool)}{K:Act->World->Prop}{fu:Nat}{listed:Array Bool}{pq:Option Nat}{ad:Addr}{N o1 p:Nat}(D:Nat)(hC:C w)(h:AgM ds a n L)(hG:Wd ops n L G)(Z:ev L x=some (.pointer (some (ad.add o1))))(hy:ev L y=some (.int k i))(O:P.underlying t=some (.array N T))(M:z1r P T 1)(I:ops[D]?=some ⟨some d,.indexAddr t x y,ty,pos,after,G⟩)(hn:Nat.blt d n=true)(q:∀a,AgM ds a n ((d,.pointer (some (ad.add (o1+p))))::L)->z1a pq P ops (z0r K) C fu (listed.setIfInBounds D true) a w)(hsel:Region.noSelect ops=true:=by kernel_rfl)(hfr:Fre pq ops listed D=true:=by kernel_rfl)(hre:(Region.ready .any ops listed).contains D=true:=by kernel_rfl)(J:0<=i:=by omega)(h1:i<N:=by omega)(hp:i.toNat=p:=by omega):z1a pq P ops (z0r K) C (fu+1) listed a w:=
  x4u D hsel hfr hre hC h hG Z hy O M J h1 I hn (by rw[z7c,hp,Nat.mul_one];exact q)
end
end Go.Lw
namespace Go.Lw
theorem v5z {α κ:Type}{F:α->κ×Value}{l:List α}{r1 r2:List (κ×Value)}{p:κ×Value}(h:l.map F=r1++p::r2):∃D c I,l=D++c::I/\r1=D.map F/\p=F c/\r2=I.map F:=by
 obtain⟨D,l',rfl,J,M⟩:=List.map_eq_append_iff.1 h;obtain⟨c,I,rfl,O,Z⟩:=List.map_eq_cons_iff.1 M;exact⟨D,c,I,rfl,J.symm,O.symm,Z.symm⟩
section
variable {α κ:Type} [DecidableEq κ] {V:κ->Value} {P:Program} {ops:Array Oper} {Q:Exit->Act->World->Prop} {rest:List Oper} {n:Nat} {ds:List Nat} {L:List (Nat×Value)} {w:World} {d:Nat} {x:Operand} {t g gi ty:Nat} {pos:String} {after:Array Edge} {em:List (κ×Value)} {rem:List α} {F:α->κ×Value}
def FIt (V:κ->Value)(F:α->κ×Value)(w:World)(gi g:Nat)(em:List (κ×Value))(rem:List α)(cur:Option α):Prop:=MapIt V w gi g em (rem.map F) (cur.map F)
theorem FIt.fr {w':World}{S:List Nat}{cur:Option α}(h:FIt V F w gi g em rem cur)(hf:Fr S w w')(hn:∀k∈S,k≠g/\k≠gi):FIt V F w' gi g em rem cur:=MapIt.fr h hf (λe=>(hn g e).1 U) (λe=>(hn gi e).2 U)
theorem FIt.ext {w':World}{cur:Option α}(h:FIt V F w gi g em rem cur)(hf:Fr [] w w'):FIt V F w' gi g em rem cur:=h.fr hf sp0
theorem FIt.no {cur:Option α}(h:FIt V F w gi g em rem cur):FIt V F w gi g em rem none:=MapIt.no h
theorem FIt.lt {cur:Option α}(h:FIt V F w gi g em rem cur):gi<w.heap.size:=MapIt.lt h
theorem x6f {K E:Nat}{l:List α}(F:α->κ×Value)(D:em=l.map F)(M:ev L x=some (.map (some g)))(I:MapL V w g em)(J:P.underlying t=some (.map K E))(hn:Nat.blt d n=true)
    (q:∀gi w',gi=w.heap.size->FIt V F w' gi g em l none->Fr [] w w'->w'.heap.size=gi+1->WL P ops Q rest n ds w' ((d,.pointer (some ⟨gi,0,none⟩))::L)):WL P ops Q (⟨some d,.range t x,ty,pos,after,none⟩::rest) n ds w L:=by
  subst D
  exact x8g M I J hn q
theorem v7s {cur:Option α}(Z:ev L x=some (.pointer (some ⟨gi,0,none⟩)))(O:FIt V F w gi g em rem cur)(hn:Nat.blt d n=true)
    (qt:∀D c I,rem=D++c::I->∀w',FIt V F w' gi g em (D++I) (some c)->Fr [gi] w w'->w'.heap.size=w.heap.size->WL P ops Q rest n ds w' ((d,.tuple #[.bool true,V (F c).1,(F c).2])::L))
    (qf:rem=[]->WL P ops Q rest n ds w ((d,.tuple #[.bool false])::L)):WL P ops Q (⟨some d,.next x false,ty,pos,after,none⟩::rest) n ds w L:=
  v2v Z O hn (λr1 p r2 J w' M hf hz=>by
    obtain⟨D,c,I,rfl,rfl,rfl,rfl⟩:=v5z J
    exact qt D c I U w' (by unfold FIt;rw[List.map_append];exact M) hf hz) (λJ=>qf (List.map_eq_nil_iff.1 J))
theorem x8z {c:α}(I:ev L x=some (.pointer (some ⟨gi,0,none⟩)))(D:FIt V F w gi g em rem (some c))(hn:Nat.blt d n=true)
 (q:WL P ops Q rest n ds w ((d,.tuple #[V (F c).1,(F c).2])::L)):WL P ops Q (⟨some d,.entry x,ty,pos,after,none⟩::rest) n ds w L:=x8d (p:=F c) I D hn q
theorem MapIt.mapIter {rem:List (κ×Value)}{cur:Option (κ×Value)}(h:MapIt V w gi g em rem cur):(∃D c,w.heap[g]?=some (.map D c))/\∃a b c d,w.heap[gi]?=some (.mapIter a b c d):=by
 obtain⟨D,c,I,J,_,_,_,M,_⟩:=h;exact⟨⟨D,c,J⟩,⟨_,_,_,_,M⟩⟩
theorem FIt.keep {w':World}{cur:Option α}(h:FIt V F w gi g em rem cur)(h1:w'.heap[g]?=w.heap[g]?)(J:w'.heap[gi]?=w.heap[gi]?):FIt V F w' gi g em rem cur:=by
 obtain⟨I,c,D,M,O,k3,Z,k5,k6,k7⟩:=h;exact⟨I,c,D,h1.trans M,O,k3,Z,J.trans k5,k6,k7⟩
end
end Go.Lw
namespace Go.G09
open Go Go.Lw Go.G21 Go.G08
structure TyW where
  W:Nat
  H:Nat
  S:Nat
  I:Nat
structure TyW.Ok (τ:TyW):Prop where
  wh:τ.W≠τ.H
  ws:τ.W≠τ.S
  wi:τ.W≠τ.I
  hs:τ.H≠τ.S
  hi:τ.H≠τ.I
structure WA where
  gw:Nat
  wk:World
structure WkM (τ:TyW) (wS:World) (a:WA) (w:World) (s:WtQ) (v:Vw) (Us:LId->Option Value) (fd:List Hz):Prop where
  k:Blk w a.gw τ.W (wtL s)
  b:BdO τ.S τ.I wS.heap.size w s.q
  u:MapF idK w s.gu Us
  va:MapV idK w s.va (atF v)
  vm:MapV ndK w s.vm (z1h (y0p v))
  f:Lw.Own y4q τ.H wS.heap.size w (slv s.fd) fd
  F:FbAt wS s.fb
  gw:wS.heap.size<=a.gw
  c6:s.ct.length=6
  m6:s.md.length=6
  fr:Fr [] wS w
  kp:KpM [τ.W,τ.H] a.gw a.wk w
  ol:∃g,s.vl=.map g
section
variable {τ:TyW} {wS w w' w2:World} {a:WA} {s s':WtQ} {v v':Vw} {Us:LId->Option Value} {fd fd':List Hz} {u:SV}
theorem y8j (b n r:Int):-100<=y6a b n r/\y6a b n r<=100:=by have:=y1j b n r;unfold y6a;omega
theorem y1t {κ:Type}[DecidableEq κ]{V:κ->Value}{g:Nat}{f:κ->Option Value}{S:List Nat}(h:MapF V w g f)(hf:Fr S w w')(I:∀k∈S,∃(T:Nat) (cs:List Value),Blk w k T cs):MapF V w' g f:=h.fr hf λJ=>by
 obtain⟨T',cs,D⟩:=I g J
 exact h.ne_blk D U
theorem z6v {κ:Type}[DecidableEq κ]{V:κ->Value}{x:Value}{f:κ->Option Value}{S:List Nat}(h:MapV V w x f)(hf:Fr S w w')(D:∀k∈S,∃(T:Nat) (cs:List Value),Blk w k T cs):MapV V w' x f:=h.imp id λ⟨g,e,h⟩=>⟨g,e,y1t h hf D⟩
theorem WkM.ext (h:WkM τ wS a w s v Us fd)(hf:Fr [] w w'):WkM τ wS a w' s v Us fd:=
 ⟨h.k.ext hf,h.b.ext hf,h.u.ext hf,h.va.ext hf,h.vm.ext hf,h.f.ext hf,h.F,h.gw,h.c6,h.m6,h.fr.next hf,h.kp.trans (KpM.of hf sp0),h.ol⟩
theorem WkM.mark (h:WkM τ wS a w s v Us fd):WkM τ wS { a with wk:=w } w s v Us fd:=⟨h.k,h.b,h.u,h.va,h.vm,h.f,h.F,h.gw,h.c6,h.m6,h.fr,KpM.refl _ _ _,h.ol⟩
theorem WkM.unmark (h:WkM τ wS { a with wk:=w } w' s v Us fd)(D:KpM [τ.W,τ.H] a.gw a.wk w):WkM τ wS a w' s v Us fd:=⟨h.k,h.b,h.u,h.va,h.vm,h.f,h.F,h.gw,h.c6,h.m6,h.fr,D.trans h.kp,h.ol⟩
theorem WkM.fb (h:WkM τ wS a w s v Us fd):FbAt w s.fb:=h.F.ext h.fr
theorem WkM.one (h:WkM τ wS a w s v Us fd):∀u∈[s.va,s.vl,s.vm],u.oneCell'=true:=λu D=>by
 obtain⟨g,I⟩:=h.ol
 have f:∀ {κ:Type} [DecidableEq κ] {V:κ->Value} {x:Value} {q:κ->Option Value},MapV V w x q->x.oneCell'=true:=λh=>by
  rcases h with ⟨rfl,_⟩|⟨g,rfl,_⟩<;>rfl
 simp only[List.mem_cons,List.not_mem_nil,or_false]at D
 rcases D with rfl|rfl|rfl
 ·exact f h.va
 ·rw[I];rfl
 exact f h.vm
theorem WkM.put (h:WkM τ wS a w s v Us fd)(M:τ.Ok)(D:Blk w' a.gw τ.W (wtL s'))(hf:Fr [a.gw] w w')(hb:BdO τ.S τ.I wS.heap.size w s'.q)(I:MapV idK w s'.va (atF v'))(J:MapV ndK w s'.vm (z1h (y0p v')))
    (e1:s'.gu=s.gu) (e2:s'.fb=s.fb) (e3:s'.fd=s.fd) (c6:s'.ct.length=6) (m6:s'.md.length=6) (hol:∃g,s'.vl=.map g):WkM τ wS a w' s' v' Us fd:=by
  have o:∀T,τ.W≠T->OffT w T [a.gw]:=λT Z=>OffT.one h.k Z
  have O:∀k∈[a.gw],∃(T:Nat) (cs:List Value),Blk w k T cs:=λk D=>by rw[List.mem_singleton]at D;subst D;exact⟨_,_,h.k⟩
  refine⟨D,BdO.tf hb hf (o _ M.ws) (o _ M.wi),?_,z6v I hf O,z6v J hf O,?_,by rw[e2];exact h.F,h.gw,c6,m6,h.fr.step hf λk D a0=>?_,h.kp.trans (KpM.of hf (x9i h.k sp0)),hol⟩
  · rw[e1];exact y1t h.u hf O
  · rw[e3];exact z1v h.f hf (o _ M.wh)
  · rw[List.mem_singleton]at D;have:=h.gw;omega
theorem WkM.add (h:WkM τ wS a w s v Us fd)(O:τ.Ok)(h1:Lw.Own y4q τ.H wS.heap.size w' (slv u) fd')(I:Fr (z0u (slv s.fd)) w w')(D:Blk w2 a.gw τ.W (wtL { s with fd:=u }))(J:Fr [a.gw] w' w2):WkM τ wS a w2 { s with fd:=u } v Us fd':=by
 have o1:∀T,τ.H≠T->OffT w T (z0u (slv s.fd)):=λT Z=>z4z h.f Z;have ob:∀k∈z0u (slv s.fd),∃(T:Nat) (cs:List Value),Blk w k T cs:=λk D=>⟨_,z4r h.f k D⟩;have k1:=y1o h.k I (o1 _ (Ne.symm O.wh));have hw:WkM τ wS a w2 { s with fd:=u } v Us fd':=by
  have o2:∀T,τ.W≠T->OffT w' T [a.gw]:=λT Z=>OffT.one k1 Z;have M:∀k∈[a.gw],∃(T:Nat) (cs:List Value),Blk w' k T cs:=λk D=>by rw[List.mem_singleton]at D;subst D;exact⟨_,_,k1⟩
  refine⟨D,BdO.tf (BdO.tf h.b I (o1 _ O.hs) (o1 _ O.hi)) J (o2 _ O.ws) (o2 _ O.wi),y1t (y1t h.u I ob) J M,z6v (z6v h.va I ob) J M,z6v (z6v h.vm I ob) J M,z1v h1 J (o2 _ O.wh),h.F,h.gw,h.c6,h.m6,(h.fr.step I λk D a0=>?_).step J λk D a0=>?_,(h.kp.trans (KpM.of I λk D=>?_)).trans (KpM.of J (x9i k1 sp0)),h.ol⟩;have:=(h.f.blk k D).1;omega;rw[List.mem_singleton]at D;have:=h.gw;omega;exact .inr ⟨τ.H,(z4r h.f k D).choose,(z4r h.f k D).choose_spec,sp0⟩
 exact hw
theorem KpM.fit {α κ:Type}[DecidableEq κ]{V:κ->Value}{F:α->κ×Value}{O:List Nat}{D gi g:Nat}{em:List (κ×Value)}{rem:List α}{cur:Option α}(h:KpM O D w w')(J:FIt V F w gi g em rem cur)(h1:g≠D)(h2:gi≠D):FIt V F w' gi g em rem cur:=by
 obtain⟨⟨es,c,M⟩,⟨a1,a2,a3,a4,Z⟩⟩:=MapIt.mapIter J;refine J.keep (h.block g (Array.getElem?_eq_some_iff.1 M).1 h1 λT cs I=>?_) (h.block gi J.lt h2 λT cs I=>?_);exact absurd ((show w.heap[g]?=some (.cells cs.toArray T (0,0)) from I).symm.trans M) sp0;exact absurd ((show w.heap[gi]?=some (.cells cs.toArray T (0,0)) from I).symm.trans Z) sp0
theorem _root_.Go.G08.KpM.next {D:List Nat}{g:Nat}{w w' w2:World}(h:KpM D g w w')(hf:Fr [] w' w2):KpM D g w w2:=h.trans (KpM.of hf sp0)
theorem WkM.kpB {T k:Nat}{cs:List Value}(h:WkM τ wS a w s v Us fd)(h1:KpM [τ.W,τ.H] a.gw w w')(hb:Blk w k T cs)(D:T≠τ.W)(I:T≠τ.H):Blk w' k T cs:=
 h1.blk hb (λe=>by subst e;exact D (v7x hb h.k)) (by simp only[List.mem_cons,List.not_mem_nil,or_false,not_or];exact⟨D,I⟩)
theorem WkM.kpO {α:Type}{E:Enc α}{T base:Nat}{x:Value}{ys:List α}(h:WkM τ wS a w s v Us fd)(h1:KpM [τ.W,τ.H] a.gw w w')(ho:Lw.Own E T base w x ys)(D:T≠τ.W)(I:T≠τ.H):Lw.Own E T base w' x ys:=
 KpM.own h1 ho (λk M e=>by subst e;obtain⟨cs,J⟩:=z4r ho _ M;exact D (v7x J h.k)) (by simp only[List.mem_cons,List.not_mem_nil,or_false,not_or];exact⟨D,I⟩)
theorem _root_.Go.G08.KpM.weak {I D:List Nat}{g:Nat}(h:KpM I g w w')(hs:∀T∈I,T∈D):KpM D g w w':=⟨h.size,λk hk O J=>h.block k hk O λT cs M Z=>J T cs M (hs T Z)⟩
theorem _root_.Go.G08.KpM.step {D:List Nat}{g:Nat}{S:List Nat}(h:KpM D g w w')(hf:Fr S w' w2)(I:∀k∈S,k=g\/∃(T:Nat) (cs:List Value),Blk w' k T cs/\T∈D):KpM D g w w2:=h.trans (KpM.of hf I)
theorem WkM.off {a0:WA}{w0:World}{s0:WtQ}{v0:Vw}{U0:LId->Option Value}{a1:List Hz}{S:List Nat}(h:WkM τ wS a w s v Us fd)(hτ:τ.Ok)(h0:WkM τ wS a0 w0 s0 v0 U0 a1)(e:s.q=s0.q)(hz:a.wk.heap.size<=w0.heap.size)(hf:Fr S w w')(O:∀k∈S,w0.heap.size<=k/\∃cs,Blk w k τ.I cs):WkM τ wS a w' s v Us fd:=by
 have ob:∀k∈S,∃(T:Nat) (cs:List Value),Blk w k T cs:=λk D=>⟨_,(O k D).2⟩;have oI:∀T,τ.I≠T->OffT w T S:=λT hT k D=>⟨τ.I,(O k D).2.choose,(O k D).2.choose_spec,hT⟩;have I:∀ {α:Type} {E:Enc α} {T b:Nat} {x:Value} {ys:List α},Lw.Own E T b w0 x ys->∀k∈S,k∉z0u x:=λho k D M=>by
  have:=(ho.blk k M).2;have:=(O k D).1;omega
 have M:=h.b;have J:=h0.b;rw[e]at M;refine⟨y1o h.k hf (oI _ (Ne.symm hτ.wi)),?_,y1t h.u hf ob,z6v h.va hf ob,z6v h.vm hf ob,z1v h.f hf (oI _ (Ne.symm hτ.hi)),h.F,h.gw,h.c6,h.m6,h.fr.step hf λk D a2=>?_,⟨Nat.le_trans h.kp.size hf.size,λk D hg hT=>?_⟩,h.ol⟩;rw[e];exact⟨⟨M.f.1.fr hf (I J.f.1),λp Z=>(M.f.2 p Z).fr hf (I (J.f.2 p Z))⟩,⟨M.b.1.fr hf (I J.b.1),λp Z=>(M.b.2 p Z).fr hf (I (J.b.2 p Z))⟩⟩;have:=(O k D).1;have:=h0.fr.size;omega;rw[<-h.kp.block k D hg hT];exact hf.block k (Nat.lt_of_lt_of_le D h.kp.size) λhm=>by have:=(O k hm).1;omega
theorem x8l {T:Tb}{D:List LId}{op:Int}{o:MOp}{p:MSt}{t:Wt}(I:y2x o):doH T D op o p t={ t with md:=t.md.set (o.y-1).toNat (y6a o.b o.p p.rk),fd:=t.fd++u5h T op o p t.md }:=if_pos I
theorem x8f {T:Tb}{D:List LId}{op:Int}{o:MOp}{p:MSt}{t:Wt}(I:o.k=8):doH T D op o p t={ t with fd:=t.fd++j0g D op o p }:=by
 unfold doH;rw[if_neg (by unfold y2x;omega),if_pos I]
theorem y6l {T:Tb}{D:List LId}{op:Int}{o:MOp}{p:MSt}{t:Wt}(h1:¬y2x o)(I:o.k≠8):doH T D op o p t=t:=by
 unfold doH;rw[if_neg h1,if_neg I]
theorem x7b {B:Bd}{b n:Int}{l:List LId}(hn:z3v b n=0):(B.put b n l).at b n=l:=by rw[y8q _ hn hn,if_pos ⟨rfl,rfl⟩]
theorem u4v {B:Bd}{b n:Int}{l:List LId}(hn:z3v b n=0)(h:BdOk (B.put b n l)):∀i∈l,z5v i:=λi D=>h.nm i (z6g (b:=b) (n:=n) (by rw[x7b hn];exact D))
theorem y5s {B:Bd}{b n:Int}{l:List LId}(hn:z3v b n=0)(h:BdOk (B.put b n l)):l.length<=4:=by
 have:=z9r h b n;rwa [x7b hn]at this
theorem u4t (p:MSt)(y:Int):(ctL p).getD (y-1).toNat 0=(p.y y).ct:=by
 unfold ctL MSt.y;rw[List.getD,List.getD,List.getElem?_map];cases p.ys[(y-1).toNat]?<;>rfl
theorem u3p {p:MSt}(h:MInv p){y:Int}(O:1<=y/\y<=6):0<=(p.y y).ct/\(p.y y).ct<=2048:=by
 have D:=(h.yn (y-1).toNat oo).2;have I:(p.y y).ct=z3a p.tb (y-1).toNat:=D;have J:=y4t p.tb (y-1).toNat [] (by rw[h.lt];omega);have M:=h.all;rw[List.length_nil]at J;rw[I];omega
theorem j9x {o:MOp}(h:y7h o=0):-1000<=o.p/\o.p<=1000:=by
 obtain⟨⟨_,_,D,_,_⟩,_,_⟩:=u3u h;generalize (z7o o.k).getD f40=f at D;unfold pl2 at D;cases hf:f.2.1<;>rw[hf]at D
 have:o.b=0/\o.p=0:=by simpa using D
 omega;have:z3v o.b o.p=0:=by simpa using D
 have:=z2p this;omega
theorem WkM.ne (h:WkM τ wS a w s v Us fd){κ:Type}[DecidableEq κ]{V:κ->Value}{g:Nat}{m:List (κ×Value)}(D:MapL V w g m):g≠a.gw:=D.f.ne_blk h.k
theorem FIt.ne {α κ:Type}[DecidableEq κ]{V:κ->Value}{F:α->κ×Value}{gi g:Nat}{em:List (κ×Value)}{rem:List α}{cur:Option α}(M:FIt V F w gi g em rem cur)(h:WkM τ wS a w s v Us fd):g≠a.gw/\gi≠a.gw:=by
 obtain⟨⟨es,c,D⟩,⟨O,Z,a3,a4,I⟩⟩:=MapIt.mapIter M;have J:w.heap[a.gw]?=some (.cells (wtL s).toArray τ.W (0,0)):=h.k;exact⟨λe=>(by rw[e,J]at D;cases D),λe=>(by rw[e,J]at I;cases I)⟩
theorem v2i {α:Type}[DecidableEq α]:∀(l D:List α),(x3p D l).length<=D.length+l.length
 | [],D=>Nat.le_refl _
 | x::l,D=>by
  show (x3p (if x∈D then D else D++[x]) l).length<=_
  refine Nat.le_trans (v2i l _) ?_
  split<;>simp<;>omega
theorem v1w (u:Vw):u.nds.length<=u.l.length:=by
 have:=v2i (u.l.map λh=>(h.b,h.n)) [];rw[List.length_map]at this;simpa[Vw.nds] using this
theorem WkM.srt (h:WkM τ wS a w s v Us fd)(J:τ.Ok)(h1:Lw.Own y4q τ.H wS.heap.size w' (slv s.fd) fd')(D:Fr (z0u (slv s.fd)) w w'):WkM τ wS a w' s v Us fd':=by
 have M:∀T,τ.H≠T->OffT w T (z0u (slv s.fd)):=λT Z=>z4z h.f Z;have O:∀k∈z0u (slv s.fd),∃(T:Nat) (cs:List Value),Blk w k T cs:=λk I=>⟨_,z4r h.f k I⟩;refine⟨y1o h.k D (M _ (Ne.symm J.wh)),BdO.tf h.b D (M _ J.hs) (M _ J.hi),y1t h.u D O,z6v h.va D O,z6v h.vm D O,h1,h.F,h.gw,h.c6,h.m6,h.fr.step D λk I a0=>?_,h.kp.trans (KpM.of D λk I=>.inr ⟨τ.H,(z4r h.f k I).choose,(z4r h.f k I).choose_spec,sp0⟩),h.ol⟩;have:=(h.f.blk k I).1;omega
def IterAt (w:World)(gi:Nat):Prop:=∃a b c d,w.heap[gi]?=some (.mapIter a b c d)
theorem _root_.Go.Lw.FIt.at {α κ:Type}[DecidableEq κ]{V:κ->Value}{F:α->κ×Value}{gi g:Nat}{em:List (κ×Value)}{rem:List α}{cur:Option α}(D:FIt V F w gi g em rem cur):IterAt w gi:=(MapIt.mapIter D).2
theorem x3l {α:Type}{E:Enc α}{T b gi:Nat}{x:Value}{ys:List α}(ho:Lw.Own E T b w x ys)(O:IterAt w gi)(hf:Fr [gi] w w'):Lw.Own E T b w' x ys:=ho.fr hf λk I M=>by
 obtain⟨cs,D⟩:=z4r ho _ M
 rw[List.mem_singleton]at I
 rw[I]at D
 obtain⟨Z,a2,a3,a4,J⟩:=O
 exact absurd ((show w.heap[gi]?=some (.cells cs.toArray T (0,0)) from D).symm.trans J) sp0
theorem v3m {T k gi:Nat}{cs:List Value}(hb:Blk w k T cs)(J:IterAt w gi)(hf:Fr [gi] w w'):Blk w' k T cs:=hb.fr hf λD=>by
 rw[List.mem_singleton]at D
 rw[D]at hb
 obtain⟨M,O,Z,a4,I⟩:=J
 exact absurd ((show w.heap[gi]?=some (.cells cs.toArray T (0,0)) from hb).symm.trans I) sp0
theorem x0c {κ:Type}[DecidableEq κ]{V:κ->Value}{g gi:Nat}{f:κ->Option Value}(h:MapF V w g f)(M:IterAt w gi)(hf:Fr [gi] w w'):MapF V w' g f:=h.fr hf λD=>by
 rw[List.mem_singleton]at D;subst D
 obtain⟨O,Z,a3,a4,J⟩:=M
 obtain⟨es,c,m,I,_⟩:=h
 exact absurd (I.symm.trans J) sp0
theorem v6o {κ:Type}[DecidableEq κ]{V:κ->Value}{g gi:Nat}{m:List (κ×Value)}(h:MapL V w g m)(M:IterAt w gi)(hf:Fr [gi] w w'):MapL V w' g m:=h.fr hf λD=>by
 rw[List.mem_singleton]at D;subst D
 obtain⟨O,Z,a3,a4,J⟩:=M
 obtain⟨es,c,I,_⟩:=h
 exact absurd (I.symm.trans J) sp0
theorem WkM.it {gi:Nat}(h:WkM τ wS a w s v Us fd)(D:IterAt w gi)(hf:Fr [gi] w w')(hz:a.wk.heap.size<=gi)(a0:wS.heap.size<=gi):WkM τ wS a w' s v Us fd:=by
 refine⟨v3m h.k D hf,⟨⟨x3l h.b.f.1 D hf,λp J=>x3l (h.b.f.2 p J) D hf⟩,⟨x3l h.b.b.1 D hf,λp J=>x3l (h.b.b.2 p J) D hf⟩⟩,x0c h.u D hf,h.va.imp id λ⟨g,e,h⟩=>⟨g,e,x0c h D hf⟩,h.vm.imp id λ⟨g,e,h⟩=>⟨g,e,x0c h D hf⟩,x3l h.f D hf,h.F,h.gw,h.c6,h.m6,h.fr.step hf λk I Z=>?_,⟨Nat.le_trans h.kp.size hf.size,λk I O M=>?_⟩,h.ol⟩;rw[List.mem_singleton]at I;omega;rw[<-h.kp.block k I O M];exact hf.block k (Nat.lt_of_lt_of_le I h.kp.size) λhm=>by rw[List.mem_singleton]at hm;omega
abbrev atE (r:Int):Hd->LId×Value:=λh=>(h.id,.int .i64 (y6a h.b h.n r))
abbrev mnE (u:Vw):Int×Int->(Int×Int)×Value:=λn=>(n,.int .i64 (u.on n).length)
structure CmV (τV:Nat) (w:World) (g4 g5 m1 m2 m3:Nat) (s:WtQ) (u:Vw):Prop where
  b:Blk w g4 τV [s.va,s.vl,s.vm]
  h:Blk w g5 τV [.map (some m1),.map (some m2),.map (some m3)]
  a:MapL idK w m1 (atM u.l u.r)
  l:MapF ndK w m2 (y4z u)
  m:MapL ndK w m3 (y0p u)
section
variable {τV g4 g5 m1 m2 m3:Nat} {s1:WtQ} {u1:Vw}
theorem CmV.ext (h:CmV τV w g4 g5 m1 m2 m3 s1 u1)(hf:Fr [] w w'):CmV τV w' g4 g5 m1 m2 m3 s1 u1:=⟨h.b.ext hf,h.h.ext hf,h.a.ext hf,h.l.ext hf,h.m.ext hf⟩
theorem CmV.it {gi:Nat}(h:CmV τV w g4 g5 m1 m2 m3 s1 u1)(D:IterAt w gi)(hf:Fr [gi] w w'):CmV τV w' g4 g5 m1 m2 m3 s1 u1:=⟨v3m h.b D hf,v3m h.h D hf,v6o h.a D hf,x0c h.l D hf,v6o h.m D hf⟩
theorem CmV.kp (h:CmV τV w g4 g5 m1 m2 m3 s1 u1)(D:WkM τ wS a w s v Us fd)(I:KpM [τ.W,τ.H] a.gw w w')(h1:τV≠τ.W)(J:τV≠τ.H):CmV τV w' g4 g5 m1 m2 m3 s1 u1:=
 ⟨D.kpB I h.b h1 J,D.kpB I h.h h1 J,I.map h.a (h.a.f.ne_blk D.k),I.mapF h.l (h.l.ne_blk D.k),I.map h.m (h.m.f.ne_blk D.k)⟩
theorem CmV.va (h:CmV τV w g4 g5 m1 m2 m3 s1 u1):MapV idK w (.map (some m1)) (atF u1):=by
 have x:=h.a.f;rw[j8y]at x;exact x.v
theorem CmV.vm (h:CmV τV w g4 g5 m1 m2 m3 s1 u1):MapV ndK w (.map (some m3)) (z1h (y0p u1)):=h.m.f.v
end
theorem u3s {B:Bd}{r:Int}:∀(j:LId) (p:Int),(vwB B r).pos j=some p->-1000<=p/\p<=1000:=λj p h=>by
 unfold Vw.pos at h
 obtain⟨x,_,rfl⟩:=Option.map_eq_some_iff.1 h
 have:=y8j x.b x.n (vwB B r).r
 omega
theorem u1g (u:Vw)(n:Int×Int):(y4z u n).getD (.agg #[.int .u8 0,.int .i64 0])=idK ((u.on n).getLast?.getD id0):=by
 unfold y4z;cases (u.on n).getLast?<;>rfl
end
end Go.G09
namespace Go.Proofs.YtjilcnmaefhmeaaGreatDoor
open Go.Lw Go.G21 Go.G08 Go.G09 _root_.Go.Proofs.Tryz
theorem bo75:BuildAt prog 75 [(0,1),(1,1),(2,2)] [(.int .i64 0),(.int .u8 0),(.int .u8 0),(.int .i64 0)]:=BuildAt.struct underlying75 (λ_=>kr) (λ_=>kr)
theorem j2v:ElemOf prog 68 75 y4q 32:=ElemOf.mk' (z:=(.agg #[.int .i64 0,.int .u8 0,.int .u8 0,.int .i64 0])) underlying68 kr U
theorem y5a:z0x prog 143 7 23:=λ_ _=>kr
theorem j7w:z2c prog 68:=λ_=>kr
theorem sz68:z1r prog 68 1:=λ_=>kr
abbrev τw:TyW:=⟨143,75,27,73⟩
theorem τwk:τw.Ok:=⟨dd,dd,dd,dd,dd⟩
theorem y5j (wS:World)(ka:WA)(s:WtQ)(v:Vw)(Us:LId->Option Value)(fd:List Hz)(op kd:Int)(i:LId)(w0:World)(Z:WkM τw wS ka w0 s v Us fd)(hfl:fd.length<=100000000):Rets prog 63 #[.pointer (some ⟨ka.gw,0,none⟩),.int .i64 op,.int .u8 kd,.agg #[.int .u8 i.y,.int .i64 i.n]] w0 λr w'=>r=.tuple #[]/\∃u:SV,WkM τw wS ka w' { s with fd:=u } v Us (fd++[(⟨op,kd,i⟩:Hz)]):=by
 have c1:=Z.fr.size;have J:=Z.k;have b9:=J.lt;have M:Lw.Own y4q 75 wS.heap.size w0 (slv s.fd) fd:=Z.f;have b7:s.fd.2.1=fd.length:=z1x M.sl;refine we [(0,.pointer (some ⟨ka.gw,0,none⟩)),(1,.int .i64 op),(2,.int .u8 kd),(3,.agg #[.int .u8 i.y,.int .i64 i.n])] func63 U ntmps63 U (.c4 U U U U) ?_;have b0:=Z;refine sr (bx U (λg7 w1 b8 D q1 z1=>(nn ?_)));replace Z:=b0.ext q1;intro a h;refine z0h (some 13) (λwb w'=>Fr (z0u (slv s.fd)) wb w') z2m ?_;intro w2 q2;have z2:=q2.size;replace Z:=Z.ext q2;replace J:=J.ext (q1.n1 q2);replace M:=M.ext (q1.n1 q2);replace D:=D.ext q2;have hC:Fr (z0u (slv s.fd)) w2 w2:=Fr.refl _ _;have a4:=Z;have a0:=J;have O:=M;have I:=D;refine z0e 0 h U λa h=>z0e 1 h U λa h=>z0l 2 h U λa h=>z0c 3 h U y5a U λa h=>z0j 4 h U (λ_ hw=>a0.fr hw (λk_=>Own.neB O a0 dd k_)) U j7w U λa h=>z0e 5 h U λa h=>z0e 6 h U λa h=>z0v 7 h U (λ_ hw=>I.fr hw (λk_=>Own.neB O I dd k_)) z2w U λa h=>z2x (cs:=[_,_,_,_]) 8 h (z0a U (z0a U (z0a U z0g))) bo75 (z0f U (z0f U (z0f U z0p))) U U λa h=>z0d 9 U ?_;refine z2y ([⟨op,kd,i⟩]) h (z0a U z0g) U j2v λa2 w3 hg a6 q3 hz a h=>?_;have c0.gw_17:ka.gw<a2:=by have:=J.lt;omega
 have a7:g7<a2:=by have:=D.lt;omega
 have z3:=q3.size;replace Z:=Z.ext q3;replace J:=J.ext q3;replace M:=M.ext q3;replace D:=D.ext q3;replace hC:=hC.next q3;refine z0b (z0d 10 U ?_);have a1:=M;refine z5j h U U M a6.sl j2v U λc9 w4 M q4 b4 a h=>?_;have b5:=q4;obtain⟨a8,a9,rfl,b6⟩:=M.sl.form;have z4:=q4.size;replace J:=J.fr q4 (λa3=>a1.neB J dd a3);replace D:=D.fr q4 (λa3=>a1.neB D dd a3);replace hC:=hC.step q4 (λk J _=>J);refine z0b (z0l 11 h U λa h=>z0c 12 h U y5a U λa h=>z0d 13 U (z5l h U U J U U U sz68 λw5 a5 hq _hz a h=>?_));have b3:=Z.add τwk (u:=(a8,(fd++[(⟨op,kd,i⟩:Hz)]).length,a9)) M b5 a5 hq;clear a5 hq;refine z1m (z0q ?_);clear hC a4 a0 O I;exact bk (h.sub (L':=[]) .nil) (r0n results63  ⟨_,rfl,rfl,_,b3⟩)
theorem z8q:z0x prog 143 3 6:=λ_ _=>kr
theorem x4a (wS:World)(ka:WA)(s:WtQ)(v:Vw)(Us:LId->Option Value)(fd:List Hz)(b:Int)(n:Nat)(vl:Value)(l:List LId)(w0:World)(I:WkM τw wS ka w0 s v Us fd)(hs:Sl z1f w0 vl l)(hv:BdOk s.q.p)(hn:z3v b (n:Int)=0)(b0:l.length<=4)(b3:∀i∈l,z5v i)(hd:∀i,s.q.p.flat.count i+l.count i<=(s.q.p.at b (n:Int)).count i+1):Rets prog 120 #[.pointer (some ⟨ka.gw,0,none⟩),.agg #[.int .u8 b,.int .i64 (n:Int)],vl] w0 λr w'=>r=.tuple #[]/\∃q':BdQ,WkM τw wS ka w' { s with q:=q' } v Us fd/\q'.p=s.q.p.put b (n:Int) l:=by
 have c1:=I.fr.size;have M:=I.k;have b9:=M.lt;obtain⟨A,c,rfl,b7⟩:=id hs.form;refine we [(0,.pointer (some ⟨ka.gw,0,none⟩)),(1,.agg #[.int .u8 b,.int .i64 (n:Int)]),(2,.slice A l.length c)] func120 U ntmps120 U (.c3 U U U) ?_;have a5:=I;have b5:=hs;refine sr (bx U (λg4 w1 b8 J q1 z1=>(nn (sq ?_))));replace I:=a5.ext q1;replace hs:=b5.ext q1;intro a h;refine z0h none (λwb w'=>Fr [] wb w') z2m ?_;intro w2 q2;have z2:=q2.size;replace I:=I.ext q2;replace M:=M.ext (q1.n1 q2);replace hs:=hs.ext q2;replace J:=J.ext q2;have hC:Fr [] w2 w2:=Fr.refl _ _;have a3:=I;have a2:=M;have a4:=hs;have a0:=J;refine z0e 0 h U λa h=>z0l 1 h U λa h=>z0c 2 h U z8q U λa h=>z1b (vs:=[_,_]) 3 h U (λ_ hw=>(a2.ext hw)) z4s U U λa h=>z0v 4 h U (λ_ hw=>a0.ext hw) z4k U λa h=>z0e 5 h U λa h=>z1y 6 10 kr U ?_ ?_;refine z0o h (z0a U (z0a U (z0a U z0g))) x3x (y4l s.q b n _ l _ I.b.at hs hv hn b0 b3 hd) ?_;rintro _ w3 ⟨⟨q',rfl,Z,a9⟩,q3⟩ a h;have z3:=q3.size;replace M:=M.ext q3;replace J:=J.ext q3;replace hC:=hC.next q3;refine z0b (z0e 7 h U λa h=>z0n 8 h U λa h=>z0n 9 h U λa h=>z0d 10 U (z0w h x1h U λw4 D q4 hz a h=>?_));obtain⟨O,hg⟩:∃g,g=w3.heap.size:=⟨_,rfl⟩;rw[<-hg]at D h hz;have b4.gw_6:ka.gw<O:=by have:=M.lt;omega
 have a8:g4<O:=by have:=J.lt;omega
 have z4:=q4.size;replace I:=I.ext (q3.n1 q4);replace M:=M.ext q4;replace hs:=hs.ext (q3.n1 q4);replace J:=J.ext q4;first|replace Z:=BdO.ext Z q4|replace Z:=BdO.tf Z q4 (OffT.one D dd) (OffT.one D dd)
 replace hC:=hC.next q4;refine z0b (z0d 11 U (z0t h U D U y4m λw5 a1 q5 hz a h=>?_));have z5:=q5.size;replace M:=M.fr q5;replace J:=J.fr q5;first|replace Z:=BdO.ext Z q5|replace Z:=BdO.tf Z q5 (OffT.one D dd) (OffT.one D dd)
 replace hC:=hC.sp q5;clear D hz;have D:Blk w5 O _ [_,_]:=a1;clear a1;refine z0b (z0d 12 U (z0s h U λa h=>?_));refine z0b (z0q ?_);clear hC a3 a2 a4 a0;refine bk (h.sub (L':=[(0,_),(6,_),(7,_)]) (.c3 U U U)) (tn (sr (mv U U (eq' U (nn (cd U (λc0=>?_) (λc0=>?_)))))));refine rg (mv U U (z0m U D z4s (nlc U (fad U z8q ?_))));replace I:=a5.ext (q1.z4 q2 q3 q4 q5);refine z3j (cs':=wtL { s with q:=q' }) U I.k (by intro u hu;simp at hu;rcases hu with rfl|rfl<;>rfl) y4m U (λw6 a7 q6 z6=>?_);have a6:=I.put τwk (s':={ s with q:=q' }) a7 q6 (Z.low oo) I.va I.vm U U U I.c6 I.m6 I.ol;exact kpL [] .nil (nl (r0n results120  ⟨_,rfl,rfl,q',a6,a9⟩));exact absurd U c0;refine z0w h x1h U λw7 D q7 hz a h=>?_;obtain⟨O,hg⟩:∃g,g=w2.heap.size:=⟨_,rfl⟩;rw[<-hg]at D h hz;have b4.gw_6:ka.gw<O:=by have:=M.lt;omega
 have a8:g4<O:=by have:=J.lt;omega
 have z7:=q7.size;replace I:=I.ext q7;replace hs:=hs.ext q7;replace hC:=hC.next q7;refine z0b (z0d 6 U (z0o h (z0a U (z0a U (z0a U z0g))) x3x (y4l s.q b n _ l _ I.b.at hs hv hn b0 b3 hd) ?_));rintro _ w8 ⟨⟨q',rfl,Z,a9⟩,q8⟩ a h;have z8:=q8.size;replace I:=I.ext q8;replace M:=M.ext (q7.n1 q8);replace hs:=hs.ext q8;replace J:=J.ext (q7.n1 q8);replace D:=D.ext q8;replace hC:=hC.next q8;refine z0b (z0e 7 h U λa h=>z0n 8 h U λa h=>z0n 9 h U λa h=>z0d 11 U (z0t h U D U y4m λw9 a1 q9 hz a h=>?_));have z9:=q9.size;replace M:=M.fr q9;replace J:=J.fr q9;first|replace Z:=BdO.ext Z q9|replace Z:=BdO.tf Z q9 (OffT.one D dd) (OffT.one D dd)
 replace hC:=hC.sp q9;clear D hz;have D:Blk w9 O _ [_,_]:=a1;clear a1;refine z0b (z0d 12 U (z0s h U λa h=>?_));refine z0b (z0q ?_);clear hC a3 a2 a4 a0;refine bk (h.sub (L':=[(0,_),(6,_),(7,_)]) (.c3 U U U)) (tn (sr (mv U U (eq' U (nn (cd U (λc0=>?_) (λc0=>?_)))))));refine rg (mv U U (z0m U D z4s (nlc U (fad U z8q ?_))));replace I:=a5.ext (q1.z4 q2 q7 q8 q9);refine z3j (cs':=wtL { s with q:=q' }) U I.k (by intro u hu;simp at hu;rcases hu with rfl|rfl<;>rfl) y4m U (λc9 a7 b6 d0=>?_);have a6:=I.put τwk (s':={ s with q:=q' }) a7 b6 (Z.low oo) I.va I.vm U U U I.c6 I.m6 I.ol;exact kpL [] .nil (nl (r0n results120  ⟨_,rfl,rfl,q',a6,a9⟩));exact absurd U c0
theorem j3l:CallOf prog 63:=mkC func63
theorem y9y:z0x prog 143 2 5:=λ_ _=>kr
theorem x4s:z0x prog 143 4 8:=λ_ _=>kr
theorem v1u:z0x prog 143 5 14:=λ_ _=>kr
theorem x9f (wS:World)(ka:WA)(s:WtQ)(v:Vw)(Us:LId->Option Value)(fd:List Hz)(op:Int)(o:MOp)(j:Nat)(w0:World)(D:WkM τw wS ka w0 s v Us fd)(hj:o.y=(j:Int)+1)(d9:j<6)(hn:z3v o.b o.p=0)(hr:-4<=s.rk/\s.rk<=4)(hfl:fd.length<=100000000)(h6:s.fb.ts.length=6)(d0:z3p (z1s s.fb.ts) (⟨o.y,(s.ct.getD j 0)⟩:LId))(d5:0<=(s.ct.getD j 0)/\(s.ct.getD j 0)<=1000000)(e1:-1000<=(s.md.getD j 0)/\(s.md.getD j 0)<=1000):Rets prog 121 #[.pointer (some ⟨ka.gw,0,none⟩),.int .i64 op,opV o] w0 λr w'=>r=.agg #[.int .u8 o.y,.int .i64 (s.ct.getD j 0)]/\∃u:SV,WkM τw wS ka w' { s with ct:=s.ct.set j ((s.ct.getD j 0)+1),md:=s.md.set j (y6a o.b o.p s.rk),fd:=u } v Us (fd++(if nwT (z1s s.fb.ts) (⟨o.y,(s.ct.getD j 0)⟩:LId)=false/\6<apt (y6a o.b o.p s.rk) (s.md.getD j 0) then [⟨op,1,(⟨o.y,(s.ct.getD j 0)⟩:LId)⟩] else [])):=by
 have e5:=D.fr.size;have O:=D.k;have e0:=O.lt;have e3:=z2p hn;have e4:=y8j o.b o.p s.rk;have a9:=D;refine we [(0,.pointer (some ⟨ka.gw,0,none⟩)),(1,.int .i64 op),(2,opV o)] func121 U ntmps121 U (.c3 U U U) ?_;have a1:=D;refine sr (bx U (λg5 w1 d6 M q1 z1=>(al y0b U (λg6 w2 d7 J q2 z2=>(nn (sr (fad U z3l ?_)))))));replace M:=M.ext q2;refine z0i U M U na5 (z2r U (wi8 oo) (asg U (nn (sq ?_))));replace D:=a1.ext (q1.n1 q2);intro a h;refine z0h none (λwb w'=>Fr [] wb w') z2m ?_;intro w3 q3;have z3:=q3.size;replace D:=D.ext q3;replace O:=O.ext (q1.n2 q2 q3);replace M:=M.ext q3;have hC:Fr [] w3 w3:=Fr.refl _ _;have a5:=D;have Z:=O;have a0:=M;refine z0c 0 h U z3l U λa h=>z0j 1 h U (λ_ hw=>a0.ext hw) U na5 U λa h=>z0e 2 h U λa h=>z0e 3 h U λa h=>z0l 4 h U λa h=>z0c 5 h U x4s U λa h=>x4w (o1:=8) (p:=j) 6 hC h wn U U underlying136 sz3 U U λa h=>z0j 7 h U (λ_ hw=>Z.ext hw) (show (wtL s)[8+j]?=some (.int .i64 (s.ct.getD j 0)) from j6x (s:=s) oo) na3 U λa h=>z2x (cs:=[_,_]) 8 h (z0a U (z0a U z0g)) j3j (z0f U (z0f U z0p)) U U λa h=>z0d 9 U ?_;refine z0w h y0b U λw4 I q4 hz a h=>?_;obtain⟨a7,hg⟩:∃g,g=w3.heap.size:=⟨_,rfl⟩;rw[<-hg]at I h hz;have e2.gw_8:ka.gw<a7:=by have:=O.lt;omega
 have d1:g5<a7:=by have:=M.lt;omega
 have z4:=q4.size;replace D:=D.ext q4;replace O:=O.ext q4;replace M:=M.ext q4;replace hC:=hC.next q4;refine z0b (z0d 10 U (z0t h U I U z9m λw5 b8 q5 hz a h=>?_));have z5:=q5.size;replace O:=O.fr q5;replace M:=M.fr q5;replace hC:=hC.sp q5;clear I hz;have I:Blk w5 a7 _ [_,_]:=b8;clear b8;refine z0b (z0q ?_);clear hC a5 Z a0;refine bk (h.sub (L':=[(0,_),(1,_),(5,_),(6,_),(7,_),(8,_)]) (.c6 U U U U U U)) (tn (sq ?_));intro a h;refine z0h none (λwb w'=>Fr [] wb w') z2m ?_;intro w6 q6;have z6:=q6.size;replace O:=O.ext q6;replace M:=M.ext q6;have hC:Fr [] w6 w6:=Fr.refl _ _;have Z:=O;have a0:=M;refine z0c 0 h U z3g U λa h=>z1b (vs:=[_,_]) 1 h U (λ_ hw=>(a0.ext hw)) z4k U U λa h=>z0e 2 h U λa h=>z0l 3 h U λa h=>z0c 4 h U y9y U λa h=>z0j 5 h U (λ_ hw=>Z.ext hw) U na3 U λa h=>z0d 6 U (z0o h (z0a U (z0a U z0g)) (mkC func166) (v2x _ _ _ _ (by assumption) oo) ?_);rintro _ w7 ⟨rfl,q7⟩ a h;have z7:=q7.size;replace O:=O.ext q7;replace M:=M.ext q7;replace hC:=hC.next q7;refine z0b (z0d 7 U (z0s h U λa h=>?_));refine z0b (z0q ?_);clear hC Z a0;refine bk (h.sub (L':=[(0,_),(1,_),(6,_),(7,_),(8,_),(9,_)]) (.c6 U U U U U U)) (tn (jn (ι:=SV) [(0,_),(6,_),(7,_),(8,_),(9,_)] (λp=>[]) (λp w'=>WkM τw wS ka w' { s with fd:=p } v Us (fd++(if nwT (z1s s.fb.ts) (⟨o.y,(s.ct.getD j 0)⟩:LId)=false/\6<apt (y6a o.b o.p s.rk) (s.md.getD j 0) then [⟨op,1,(⟨o.y,(s.ct.getD j 0)⟩:LId)⟩] else []))/\Blk w' a7 73 [.int .u8 o.y,.int .i64 (s.ct.getD j 0)]/\Blk w' g6 73 [.int .u8 0,.int .i64 0]) (.c5 U U U U U) ?_ ?_));refine jn (ι:=Unit) [(0,_),(1,_),(6,_),(7,_),(8,_),(9,_)] (λ_j=>[(43,.bool (decide (nwT (z1s s.fb.ts) (⟨o.y,(s.ct.getD j 0)⟩:LId)=false/\6<apt (y6a o.b o.p s.rk) (s.md.getD j 0))))]) (λ_j w'=>Fr [] w7 w') (.c6 U U U U U U) ?_ ?_;refine rg (mv U U ?_);replace I:=I.ext (q6.n1 q7);refine z0m U I z2w ?_;replace D:=a1.ext (q1.z6 q2 q3 q4 q5 q6 q7);refine cl (ev2 U) (mkC func125) (v3f ka.gw s (⟨o.y,(s.ct.getD j 0)⟩:LId) _ O D.fb h6 d0) U ?_;rintro _ w8 ⟨rfl,q8⟩;have z8:=q8.size;refine nt' U (mv U U (gs 33 U (λg0=>?_) (λg0=>?_)));refine gY U (mv U U (gY U (mv U U (gY U (mv U U (gY U (nlc U (gY U (fad U v1u (gY U (u3t (o1:=14) (p:=j) U U underlying136 sz3 oo oo oo U (gY U ?_))))))))))));replace O:=O.ext q8;refine z0i U O (show (wtL s)[14+j]?=some (.int .i64 (s.md.getD j 0)) from j9u (s:=s) oo) na3 (gY U (cl (ev2 U) (mkC func167) (v4a _ _ _ oo oo) U ?_));rintro _ w9 ⟨rfl,q9⟩;have z9:=q9.size;refine gY U (gt' U (pkt U (kpL [(0,_),(1,_),(6,_),(7,_),(8,_),(9,_),(43,_)] (.c7 U U U U U U U) (nl ?_))));exact jE (()) (.c7 U U U U U U (congrArg (λb=>some (Value.bool b)) (by first|exact decide_eq_decide.2 ⟨λe=>⟨by simpa using g0,e⟩,λe=>e.2⟩|exact(decide_eq_false (λe=>g0 (by simpa using e.1))).symm))) (q8.n1 q9);refine gN U (gN U (gN U (gN U (gN U (gN U (gN U (gN U (gN U (pkf U (kpL [(0,_),(1,_),(6,_),(7,_),(8,_),(9,_),(43,_)] (.c7 U U U U U U U) (nl ?_)))))))))));exact jE (()) (.c7 U U U U U U (congrArg (λb=>some (Value.bool b)) (by first|exact decide_eq_decide.2 ⟨λe=>⟨by simpa using g0,e⟩,λe=>e.2⟩|exact(decide_eq_false (λe=>g0 (by simpa using e.1))).symm))) q8;rintro _j d4 a2;have f1:=a2.size;refine kpC [(0,_),(1,_),(6,_),(7,_),(8,_),(9,_),(43,_)] (.c7 U U U U U U U) (cd U (λc0=>?_) (λc0=>?_));refine rg (mv U U (mv U U ?_));replace I:=I.ext (q6.n2 q7 a2);refine z0m U I z2w ?_;replace D:=a1.ext ((q1.z6 q2 q3 q4 q5 q6 q7).n1 a2);replace J:=((J.ext (q3.n1 q4)).fr q5).ext (q6.n2 q7 a2);replace M:=M.ext a2;have b6:=D.kp;refine cl (z0a U (z0a U (z0a U (z0a U z0g)))) j3l (y5j wS { ka with wk:=d4 } s v Us fd op 1 (⟨o.y,(s.ct.getD j 0)⟩:LId) _ D.mark hfl) U ?_;rintro _ e6 ⟨rfl,u,b0⟩;have a4:=b0.kp;simp only at a4;have f2:=a4.size;replace I:=D.kpB a4 I dd dd;replace J:=D.kpB a4 J dd dd;replace M:=D.kpB a4 M dd dd;replace D:=b0.unmark b6;clear b6 b0;have a1:=D;have O:=D.k;exact kpL [(0,_),(6,_),(7,_),(8,_),(9,_)] (.c5 U U U U U) (nl (jE (_) (.c5 U U U U U) ⟨by rw[if_pos c0];exact D,I,J⟩));refine sk ?_;replace D:=a1.ext ((q1.z6 q2 q3 q4 q5 q6 q7).n1 a2);replace I:=I.ext (q6.n2 q7 a2);replace J:=((J.ext (q3.n1 q4)).fr q5).ext (q6.n2 q7 a2);exact jE (_) (.c5 U U U U U) ⟨by rw[if_neg c0,List.append_nil];exact D,I,J⟩;rintro u e7 ⟨D,I,J⟩;have a1:=D;have c9:=I.lt;have c1:=J.lt;refine kpC [(0,_),(6,_),(7,_),(8,_),(9,_)] (.c5 U U U U U) ?_;have O:=D.k;refine sq ?_;intro a h;refine z0h (some 10) (λwb w'=>Fr [] wb w') z2m ?_;intro b9 a6;have f3:=a6.size;replace D:=D.ext a6;replace I:=I.ext a6;replace J:=J.ext a6;replace O:=O.ext a6;have hC:Fr [] b9 b9:=Fr.refl _ _;have a5:=D;have b4:=I;have b3:=J;have Z:=O;refine z0e 0 h U λa h=>z0e 1 h U λa h=>z0l 2 h U λa h=>z0c 3 h U x4s U λa h=>x4w (o1:=8) (p:=j) 4 hC h wn U U underlying136 sz3 U U λa h=>z0j 5 h U (λ_ hw=>Z.ext hw) (show (wtL { s with fd:=u })[8+j]?=some (.int .i64 (s.ct.getD j 0)) from j6x (s:={ s with fd:=u }) oo) na3 U λa h=>z4m 6 h U (by first|exact i6 oo|rfl) U λa h=>z0l 7 h U λa h=>z0c 8 h U x4s U λa h=>x4w (o1:=8) (p:=j) 9 hC h wn U U underlying136 sz3 U U λa h=>z0d 10 U (z5l h U U O (by rw[Nat.blt_eq];simp only[List.length_cons,List.length_nil];omega) U U sz3 λe8 a3 a8 _hz a h=>?_);rw[u2u (s:={ s with fd:=u }) (by have x6:=D.c6;have y6:=D.m6;(try simp only[List.length_set]at x6 y6);(try simp only[List.length_set]);first|exact x6|exact y6) oo]at a3;replace D:=D.put τwk (s':={ s with ct:=s.ct.set j ((s.ct.getD j 0)+1),fd:=u }) a3 a8 D.b D.va D.vm U U U (by have x6:=D.c6;have y6:=D.m6;(try simp only[List.length_set]at x6 y6);(try simp only[List.length_set]);first|exact x6|exact y6) (by have x6:=D.c6;have y6:=D.m6;(try simp only[List.length_set]at x6 y6);(try simp only[List.length_set]);first|exact x6|exact y6) D.ol;have f4:=a8.size;replace I:=I.fr a8;replace J:=J.fr a8;clear _hz;have a1:=D;replace O:=D.k;clear a3;refine z1m (z0q ?_);clear hC a5 b4 b3 Z;refine bk (h.sub (L':=[(0,_),(6,_),(7,_),(8,_),(9,_)]) (.c5 U U U U U)) (tn (sr (mv U U (mv U U (mv U U (nlc U (fad U v1u (u3t (o1:=14) (p:=j) U U underlying136 sz3 oo oo oo U (z3c U O U sz3 (λe9 a3 b5 f5=>?_) (ho:=(by rw[Nat.blt_eq];simp only[List.length_cons,List.length_nil];omega)))))))))));rw[u0k (s:={ s with ct:=s.ct.set j ((s.ct.getD j 0)+1),fd:=u }) (by have x6:=D.c6;have y6:=D.m6;(try simp only[List.length_set]at x6 y6);(try simp only[List.length_set]);first|exact x6|exact y6) oo]at a3;replace D:=D.put τwk (s':={ s with ct:=s.ct.set j ((s.ct.getD j 0)+1),md:=s.md.set j (y6a o.b o.p s.rk),fd:=u }) a3 b5 D.b D.va D.vm U U U (by have x6:=D.c6;have y6:=D.m6;(try simp only[List.length_set]at x6 y6);(try simp only[List.length_set]);first|exact x6|exact y6) (by have x6:=D.c6;have y6:=D.m6;(try simp only[List.length_set]at x6 y6);(try simp only[List.length_set]);first|exact x6|exact y6) D.ol;have a1:=D;replace O:=D.k;clear a3;refine kpL [(6,_),(8,_)] (.c2 U U) (nn (sr ?_));replace I:=I.fr b5;refine z0m U I z2w ?_;replace J:=J.fr b5;refine z0k (vs:=[_,_]) U J z9m (λf0 b7 d3 f6=>?_);replace D:=D.off τwk a9 U a9.kp.size d3 (λk O=>⟨by simp at O;omega,by simp at O;subst O;exact⟨_,J⟩⟩);have a1:=D;replace J:=b7;exact nn (rt (rC results121 U J z2w  ⟨_,rfl,rfl,_,D⟩))
theorem v6d:z0x prog 143 1 4:=λ_ _=>kr
theorem j3w (wS:World)(ka:WA)(s:WtQ)(v:Vw)(Us:LId->Option Value)(fd:List Hz)(op:Int)(o:MOp)(p q:MSt)(Ul:List LId)(w0:World)(I:WkM τw wS ka w0 s v Us fd)(hp:MInv p)(h8:MInv q)(he:doM p o=.ok q)(l0:¬v8m o)(hB:s.q.p=p.B)(hr:s.rk=p.rk)(hc:s.ct=ctL p)(j2:∀j,j<6->-1000<=s.md.getD j 0/\s.md.getD j 0<=1000)(h6:s.fb.ts.length=6)(j0:y2x o->z3p (z1s s.fb.ts) (v1i p o))(hU:Us=z6j Ul)(hfl:fd.length<=90000000):Rets prog 61 #[.pointer (some ⟨ka.gw,0,none⟩),.int .i64 op,opV o] w0 λr w'=>r=.tuple #[]/\∃s':WtQ,WkM τw wS ka w' s' v Us (doH (z1s s.fb.ts) Ul op o p ⟨s.md,v,fd⟩).fd/\(s'.q.p=q.B/\s'.rk=q.rk/\s'.ct=ctL q/\s'.md=(doH (z1s s.fb.ts) Ul op o p ⟨s.md,v,fd⟩).md/\s'.fb=s.fb):=by
 have o7:=I.fr.size;have Z:=I.k;have o3:=Z.lt;have i9:=y7n he;have d6:=z6d i9.1;have o0:=j9x i9.1;have hv:BdOk s.q.p:=by rw[hB];exact hp.B
 obtain⟨⟨hf,hb⟩,h4,k6⟩:=z3t hv;have f4:=hp.rk;rw[<-hr]at f4;have n9:(s.q.p.atC o.b o.p).length<=4:=by
  unfold Bd.atC;split;exact z9r hv _ _;simp
 have g1:=I;refine we [(0,.pointer (some ⟨ka.gw,0,none⟩)),(1,.int .i64 op),(2,opV o)] func61 U ntmps61 U (.c3 U U U) ?_;have c9:=I;refine sr (bx U (λg5 w1 o1 D q1 z1=>(nn (sq ?_))));replace I:=c9.ext q1;intro a h;refine z0h none (λwb w'=>Fr [] wb w') z2m ?_;intro w2 q2;have z2:=q2.size;replace I:=I.ext q2;replace Z:=Z.ext (q1.n1 q2);replace D:=D.ext q2;have hC:Fr [] w2 w2:=Fr.refl _ _;have a0:=I;have a1:=Z;have J:=D;refine z0e 0 h U λa h=>z0l 1 h U λa h=>z0c 2 h U z8q U λa h=>z1b (vs:=[_,_]) 3 h U (λ_ hw=>(a1.ext hw)) z4s U U λa h=>z0c 4 h U z3g U λa h=>z1b (vs:=[_,_]) 5 h U (λ_ hw=>(J.ext hw)) z4k U U λa h=>z0d 6 U (z0o h (z0a U (z0a U z0g)) u5f (x2r s.q o.b o.p _ I.b.at oo hf hb h4 k6) ?_);rintro _ w3 ⟨O,hq⟩ a h;have z3:=hq.size;replace I:=I.ext hq;replace Z:=Z.ext hq;replace D:=D.ext hq;replace hC:=hC.next hq;have q3:=hq;obtain⟨k4,k5,rfl,m6⟩:=O.sl.form;refine z0b (z0d 7 U (z0s h U λa h=>?_));refine z0b (z0q ?_);clear hC a0 a1 J;refine bk (h.sub (L':=[(0,_),(1,_),(5,_),(6,_)]) (.c4 U U U U)) (tn (sr (fad U z6s (z0i U D U v0j (nn (bl (sr (eq' U (asg U (nn (cd U (λc0=>?_) (λc0=>?_))))))))))));refine rg (mv U U (fad U y2s (z0i U D U na3 (nlc U (fad U y9y (z3c U Z U sz3 (λw4 f2 q4 z4=>?_)))))));have a8:=I.put τwk (s':={ s with rk:=o.r }) f2 q4 I.b I.va I.vm U U U I.c6 I.m6 I.ol;refine kpL [] .nil (nl (bn' (r0n results61  ?_)));obtain⟨e1,e2,e3⟩:=u7z hp.rk he c0;exact⟨_,rfl,rfl,_,by rw[y6l (by unfold y2x;omega) oo];exact a8,by rw[y6l (by unfold y2x;omega) oo];exact⟨hB.trans e2.symm,e1.symm,hc.trans e3.symm,rfl,rfl⟩⟩;refine sr (eq' U (asg U (nn (cd U (λc1=>?_) (λc1=>?_)))));have b6:y2x o:=.inl c1;have i0:=d6.2.2.1 oo;obtain⟨j,hj⟩:∃j:Nat,o.y=(j:Int)+1:=⟨(o.y-1).toNat,oo⟩;have b5:(o.y-1).toNat=j:=by omega
 have hn:=d6.2.2.2.2.1 oo;have h3:=z2p hn;have d7:s.ct.getD j 0=(p.y o.y).ct:=by rw[hc,<-b5];exact u4t p o.y
 have g3:=u3p hp i0;rw[<-d7]at g3;obtain⟨n,a4⟩:∃n:Nat,o.p=(n:Int):=⟨o.p.toNat,oo⟩;obtain⟨g8,f3,g9,k9⟩:=j6f he b6;have b7:v1i p o=(⟨o.y,(s.ct.getD j 0)⟩:LId):=by unfold v1i;rw[d7]
 have d0:=j0 b6;rw[b7]at d0;have a7:=h8.B;rw[f3,b7,<-hB,if_pos c1,List.nil_append]at a7;intro a h;refine z0h (some 8) (λwb w'=>KpM [143,75,73] ka.gw wb w') z2m ?_;intro w5 q5;have z5:=q5.size;replace I:=I.ext q5;replace D:=D.ext q5;have hC:KpM [143,75,73] ka.gw w5 w5:=KpM.refl _ _ _;have a0:=I;have J:=D;refine z0e 0 h U λa h=>z0c 1 h U z3g U λa h=>z1b (vs:=[_,_]) 2 h U (λ_ hw=>(KpM.blk hw J oo dd)) z4k U U λa h=>z0e 3 h U λa h=>z0e 4 h U λa h=>z0v 5 h U (λ_ hw=>KpM.blk hw J oo dd) y3g U λa h=>z0d 6 U ?_;have a9:=I.kp;refine z0o h (z0a U (z0a U (z0a U z0g))) (mkC func121) (x9f wS { ka with wk:=w5 } s v Us fd op o j _ I.mark hj oo hn f4 oo h6 d0 oo (j2 j oo)) ?_;rintro _ w6 ⟨rfl,u,a5⟩ a h;have a3:=a5.kp;simp only at a3;have z6:=a3.size;replace hC:=hC.trans (a3.weak sp0);replace D:=I.kpB a3 D dd dd;replace I:=a5.unmark a9;clear a9 a5;refine z0b (z0d 7 U (z2y ([(⟨o.y,(s.ct.getD j 0)⟩:LId)]) h (z0a U z0g) U z4u λi4 w7 hg j3 q7 hz a h=>?_));have j9:g5<i4:=by have:=D.lt;omega
 have z7:=q7.size;replace I:=I.ext q7;replace hC:=hC.next q7;refine z0b (z0d 8 U (z0o h (z0a U (z0a U (z0a U z0g))) (mkC func120) (by have x:=x4a wS ka { s with ct:=s.ct.set j ((s.ct.getD j 0)+1),md:=s.md.set j (y6a o.b o.p s.rk),fd:=u } v Us _ o.b n _ [(⟨o.y,(s.ct.getD j 0)⟩:LId)] _ I j3.sl hv (by rw[<-a4];exact hn) (y5s hn a7) (u4v hn a7) (by rw[<-a4];exact x5q hn a7);rw[<-a4]at x;exact x) ?_));rintro _ w8 ⟨rfl,q',a8,b8⟩ a h;refine z1m (z0q ?_);clear hC a0 J;refine bk (h.sub (L':=[]) .nil) (bn' (r0n results61  ?_));have h5:(fd++(if nwT (z1s s.fb.ts) (⟨o.y,(s.ct.getD j 0)⟩:LId)=false/\6<apt (y6a o.b o.p s.rk) (s.md.getD j 0) then [⟨op,1,(⟨o.y,(s.ct.getD j 0)⟩:LId)⟩] else []))=fd++u5h (z1s s.fb.ts) op o p s.md:=by unfold u5h;rw[b7,<-hr,b5]
 exact⟨_,rfl,rfl,_,by rw[x8l b6];rw[h5]at a8;exact a8,by rw[x8l b6];exact⟨by rw[f3,b8,<-hB,b7];exact congrArg _ (by rw[if_pos c1];rfl),hr.trans g8.symm,by rw[g9,<-hc,<-d7,b5],by rw[b5,<-hr],rfl⟩⟩;refine sr (eq' U (asg U (nn (cd U (λc2=>?_) (λc2=>?_)))));have b6:y2x o:=.inr c2;have i0:=d6.2.2.1 oo;obtain⟨j,hj⟩:∃j:Nat,o.y=(j:Int)+1:=⟨(o.y-1).toNat,oo⟩;have b5:(o.y-1).toNat=j:=by omega
 have hn:=d6.2.2.2.2.1 oo;have h3:=z2p hn;have d7:s.ct.getD j 0=(p.y o.y).ct:=by rw[hc,<-b5];exact u4t p o.y
 have g3:=u3p hp i0;rw[<-d7]at g3;obtain⟨n,a4⟩:∃n:Nat,o.p=(n:Int):=⟨o.p.toNat,oo⟩;obtain⟨g8,f3,g9,k9⟩:=j6f he b6;have b7:v1i p o=(⟨o.y,(s.ct.getD j 0)⟩:LId):=by unfold v1i;rw[d7]
 have d0:=j0 b6;rw[b7]at d0;have a7:=h8.B;rw[f3,b7,<-hB,if_neg c1]at a7;rw[<-y1c hn]at a7;intro a h;refine z0h (some 10) (λwb w'=>KpM [143,75,73] ka.gw wb w') z2m ?_;intro w9 q9;have z9:=q9.size;replace I:=I.ext q9;replace D:=D.ext q9;replace O:=O.ext q9;have hC:KpM [143,75,73] ka.gw w9 w9:=KpM.refl _ _ _;have a0:=I;have J:=D;have h7:=O;refine z0e 0 h U λa h=>z0c 1 h U z3g U λa h=>z1b (vs:=[_,_]) 2 h U (λ_ hw=>(KpM.blk hw J oo dd)) z4k U U λa h=>z0e 3 h U λa h=>z0e 4 h U λa h=>z0e 5 h U λa h=>z0v 6 h U (λ_ hw=>KpM.blk hw J oo dd) y3g U λa h=>z0d 7 U ?_;have a9:=I.kp;refine z0o h (z0a U (z0a U (z0a U z0g))) (mkC func121) (x9f wS { ka with wk:=w9 } s v Us fd op o j _ I.mark hj oo hn f4 oo h6 d0 oo (j2 j oo)) ?_;rintro _ o9 ⟨rfl,u,a5⟩ a h;have a3:=a5.kp;simp only at a3;have r7:=a3.size;replace hC:=hC.trans (a3.weak sp0);replace D:=I.kpB a3 D dd dd;replace O:=I.kpO a3 O dd dd;replace I:=a5.unmark a9;clear a9 a5;refine z0b (z0d 8 U (z2y ([(⟨o.y,(s.ct.getD j 0)⟩:LId)]) h (z0a U z0g) U z4u λi5 p0 hg j4 g0 hz a h=>?_));have k0:g5<i5:=by have:=D.lt;omega
 have r8:=g0.size;replace I:=I.ext g0;replace O:=O.ext g0;replace hC:=hC.next g0;refine z0b (z0d 9 U ?_);have e0:=O;refine z5j h U U O j4.sl z4u U λo8 p1 O hq l1 a h=>?_;have r9:=hq.size;replace I:=I.off τwk g1 U g1.kp.size hq (λk Z=>⟨Nat.le_trans oo (e0.blk k Z).1,z4r e0 k Z⟩);replace hC:=hC.step hq (y4y e0 sp0);obtain⟨m9,n7,rfl,m7⟩:=O.sl.form;clear hq;refine z0b (z0d 10 U (z0o h (z0a U (z0a U (z0a U z0g))) (mkC func120) (by have x:=x4a wS ka { s with ct:=s.ct.set j ((s.ct.getD j 0)+1),md:=s.md.set j (y6a o.b o.p s.rk),fd:=u } v Us _ o.b n _ ((s.q.p.atC o.b o.p)++[(⟨o.y,(s.ct.getD j 0)⟩:LId)]) _ I O.sl hv (by rw[<-a4];exact hn) (y5s hn a7) (u4v hn a7) (by rw[<-a4];exact x5q hn a7);rw[<-a4]at x;exact x) ?_));rintro _ p2 ⟨rfl,q',a8,b8⟩ a h;refine z1m (z0q ?_);clear hC a0 J h7;refine bk (h.sub (L':=[]) .nil) (bn' (r0n results61  ?_));have h5:(fd++(if nwT (z1s s.fb.ts) (⟨o.y,(s.ct.getD j 0)⟩:LId)=false/\6<apt (y6a o.b o.p s.rk) (s.md.getD j 0) then [⟨op,1,(⟨o.y,(s.ct.getD j 0)⟩:LId)⟩] else []))=fd++u5h (z1s s.fb.ts) op o p s.md:=by unfold u5h;rw[b7,<-hr,b5]
 exact⟨_,rfl,rfl,_,by rw[x8l b6];rw[h5]at a8;exact a8,by rw[x8l b6];exact⟨by rw[f3,b8,<-hB,b7];exact congrArg _ (by rw[if_neg c1,y1c hn]),hr.trans g8.symm,by rw[g9,<-hc,<-d7,b5],by rw[b5,<-hr],rfl⟩⟩;refine sr (eq' U (asg U (nn (cd U (λc3=>?_) (λc3=>?_)))));have hn:=d6.2.2.2.2.1 oo;have h3:=z2p hn;obtain⟨j6,j7,h9,e7,l2,j8⟩:=j0u he c3;rw[<-hB]at h9;rw[<-hB,<-hr]at l2;rw[<-hr]at e7;have o5:=z2p e7;obtain⟨n,a4⟩:∃n:Nat,o.p=(n:Int):=⟨o.p.toNat,oo⟩;obtain⟨m,f9⟩:∃m:Nat,z6o o.b o.p s.rk=(m:Int):=⟨(z6o o.b o.p s.rk).toNat,oo⟩;refine jn (ι:=Nat) [(0,_),(5,_)] (λz_=>[(7,.pointer (some ⟨z_,0,none⟩))]) (λz_ w'=>Fr [] w3 w'/\w3.heap.size<=z_/\Blk w' z_ 45 [.int .u8 (1-o.b),.int .i64 (z6o o.b o.p s.rk)]) (.c2 U U) ?_ ?_;intro a h;refine z0h none (λwb w'=>Fr [] wb w') z2m ?_;intro i1 e8;have s2:=e8.size;replace I:=I.ext e8;replace Z:=Z.ext e8;replace D:=D.ext e8;have hC:Fr [] i1 i1:=Fr.refl _ _;have a0:=I;have a1:=Z;have J:=D;refine z0c 0 h U z3g U λa h=>z1b (vs:=[_,_]) 1 h U (λ_ hw=>(J.ext hw)) z4k U U λa h=>z0e 2 h U λa h=>z0l 3 h U λa h=>z0c 4 h U y9y U λa h=>z0j 5 h U (λ_ hw=>a1.ext hw) U na3 U λa h=>z1y 6 10 kr U ?_ ?_;refine z0o h (z0a U (z0a U z0g)) (mkC func122) (y9s o.b o.p s.rk _ hn f4) ?_;rintro _ l5 ⟨⟨bn,pn,rfl,a6⟩,q15⟩ a h;have s3:=q15.size;replace Z:=Z.ext q15;replace D:=D.ext q15;replace hC:=hC.next q15;obtain⟨rfl,rfl⟩:=a6 e7;refine z0b (z0e 7 h U λa h=>z0n 8 h U λa h=>z0n 9 h U λa h=>z0d 10 U (z0w h v7o U λp3 M f5 hz a h=>?_));obtain⟨b3,hg⟩:∃g,g=l5.heap.size:=⟨_,rfl⟩;rw[<-hg]at M h hz;have h0.gw_7:ka.gw<b3:=by have:=Z.lt;omega
 have h2:g5<b3:=by have:=D.lt;omega
 have s4:=f5.size;replace Z:=Z.ext f5;replace D:=D.ext f5;replace hC:=hC.next f5;refine z0b (z0d 11 U (z0t h U M U y6f ?_ (h1:=(by first|(simp[Value.oneCell',S];done)|exact z1f.one _))));clear h a;intro l6 a6 f6 hz a h;have s5:=f6.size;replace Z:=Z.fr f6;replace D:=D.fr f6;replace hC:=hC.sp f6;clear M hz;have M:Blk l6 b3 _ [_,_]:=a6;clear a6;refine z0b (z0d 12 U (z0s h U λa h=>?_));refine z0b (z0q ?_);clear hC a0 a1 J;exact bk (h.sub (L':=[(0,_),(5,_),(7,_)]) (.c3 U U U)) (jE (b3) (.c3 U U U) ⟨(e8.z3 q15 f5 f6),⟨oo,M⟩⟩);refine z0w h v7o U λp4 M f7 hz a h=>?_;obtain⟨b3,hg⟩:∃g,g=i1.heap.size:=⟨_,rfl⟩;rw[<-hg]at M h hz;have h0.gw_7:ka.gw<b3:=by have:=Z.lt;omega
 have h2:g5<b3:=by have:=D.lt;omega
 have s6:=f7.size;replace hC:=hC.next f7;refine z0b (z0d 6 U (z0o h (z0a U (z0a U z0g)) (mkC func122) (y9s o.b o.p s.rk _ hn f4) ?_));rintro _ p5 ⟨⟨bn,pn,rfl,a6⟩,q19⟩ a h;have s7:=q19.size;replace Z:=Z.ext (f7.n1 q19);replace D:=D.ext (f7.n1 q19);replace M:=M.ext q19;replace hC:=hC.next q19;obtain⟨rfl,rfl⟩:=a6 e7;refine z0b (z0e 7 h U λa h=>z0n 8 h U λa h=>z0n 9 h U λa h=>z0d 11 U (z0t h U M U y6f ?_ (h1:=(by first|(simp[Value.oneCell',S];done)|exact z1f.one _))));clear h a;intro l7 a6 f8 hz a h;have s8:=f8.size;replace Z:=Z.fr f8;replace D:=D.fr f8;replace hC:=hC.sp f8;clear M hz;have M:Blk l7 b3 _ [_,_]:=a6;clear a6;refine z0b (z0d 12 U (z0s h U λa h=>?_));refine z0b (z0q ?_);clear hC a0 a1 J;exact bk (h.sub (L':=[(0,_),(5,_),(7,_)]) (.c3 U U U)) (jE (b3) (.c3 U U U) ⟨(e8.z3 f7 q19 f8),⟨oo,M⟩⟩);rintro g7 p6 ⟨e9,⟨o6,M⟩⟩;have s9:=e9.size;have k2:=M.lt;refine kpC [(0,_),(5,_),(7,.pointer (some ⟨g7,0,none⟩))] (.c3 U U U) (sq ?_);replace I:=c9.ext (q1.n3 q2 q3 e9);intro a h;refine z0h none (λwb w'=>Fr [] wb w') z2m ?_;intro i2 e4;have t8:=e4.size;replace I:=I.ext e4;replace Z:=Z.ext (e9.n1 e4);replace D:=D.ext (e9.n1 e4);replace M:=M.ext e4;have hC:Fr [] i2 i2:=Fr.refl _ _;have a0:=I;have a1:=Z;have J:=D;have d5:=M;refine z0e 0 h U λa h=>z0l 1 h U λa h=>z0c 2 h U z8q U λa h=>z1b (vs:=[_,_]) 3 h U (λ_ hw=>(a1.ext hw)) z4s U U λa h=>z0c 4 h U z3g U λa h=>z1b (vs:=[_,_]) 5 h U (λ_ hw=>(J.ext hw)) z4k U U λa h=>z0v 6 h U (λ_ hw=>d5.ext hw) z4k U λa h=>z1y 7 11 kr U ?_ ?_;refine z0o h (z0a U (z0a U (z0a U z0g))) (mkC func123) (by have x:=y8t s.q o.b n m _ I.b.at hv (by rw[<-a4];exact hn) (by rw[<-f9];exact e7) (by rw[<-a4];exact h9);rw[<-a4,<-f9]at x;exact x) ?_;rintro _ l8 ⟨⟨q',rfl,g6⟩,q23⟩ a h;have t9:=q23.size;replace Z:=Z.ext q23;replace D:=D.ext q23;replace M:=M.ext q23;replace hC:=hC.next q23;rw[if_neg oo]at h;obtain⟨hQ,b8⟩:=g6 oo;refine z0b (z0e 8 h U λa h=>z0n 9 h U λa h=>z0n 10 h U λa h=>z0d 11 U (z0w h x1h U λp7 a2 b9 hz a h=>?_));obtain⟨b4,hg⟩:∃g,g=l8.heap.size:=⟨_,rfl⟩;rw[<-hg]at a2 h hz;have h0.gw_9:ka.gw<b4:=by have:=Z.lt;omega
 have d9:g5<b4:=by have:=D.lt;omega
 have d9:g7<b4:=by have:=M.lt;omega
 have u0:=b9.size;replace I:=I.ext (q23.n1 b9);replace Z:=Z.ext b9;replace D:=D.ext b9;replace M:=M.ext b9;first|replace hQ:=BdO.ext hQ b9|replace hQ:=BdO.tf hQ b9 (OffT.one a2 dd) (OffT.one a2 dd)
 replace hC:=hC.next b9;refine z0b (z0d 12 U (z0t h U a2 U y4m ?_ (h1:=(by first|(simp[Value.oneCell',S];done)|exact z1f.one _))));clear h a;intro l9 a6 d1 hz a h;have u3:=d1.size;replace Z:=Z.fr d1;replace D:=D.fr d1;replace M:=M.fr d1;first|replace hQ:=BdO.ext hQ d1|replace hQ:=BdO.tf hQ d1 (OffT.one a2 dd) (OffT.one a2 dd)
 replace hC:=hC.sp d1;clear a2 hz;have a2:Blk l9 b4 _ [_,_]:=a6;clear a6;refine z0b (z0d 13 U (z0s h U λa h=>?_));refine z0b (z0q ?_);clear hC a0 a1 J d5;refine bk (h.sub (L':=[(0,_),(9,_),(10,_)]) (.c3 U U U)) (tn (sr (mv U U (eq' U (nn (cd U (λc4=>?_) (λc4=>?_)))))));refine rg (mv U U (z0m U a2 z4s (nlc U (fad U z8q ?_))));replace I:=c9.ext ((q1.n6 q2 q3 e9 e4 q23 b9).z1 d1);refine z3j (cs':=wtL { s with q:=q' }) U I.k (by intro u hu;simp at hu;rcases hu with rfl|rfl<;>rfl) y4m U (λp8 f2 l3 u4=>?_);have a8:=I.put τwk (s':={ s with q:=q' }) f2 l3 (hQ.low oo) I.va I.vm U U U I.c6 I.m6 I.ol;exact kpL [] .nil (nl (bn' (r0n results61  ⟨_,rfl,rfl,_,by rw[y6l (by unfold y2x;omega) oo];exact a8,by rw[y6l (by unfold y2x;omega) oo];exact⟨by rw[b8,j8,<-hB,<-hr],hr.trans j6.symm,hc.trans j7.symm,rfl,rfl⟩⟩)));exact absurd U c4;refine z0w h x1h U λp9 a2 e5 hz a h=>?_;obtain⟨b4,hg⟩:∃g,g=i2.heap.size:=⟨_,rfl⟩;rw[<-hg]at a2 h hz;have h0.gw_9:ka.gw<b4:=by have:=Z.lt;omega
 have d9:g5<b4:=by have:=D.lt;omega
 have d9:g7<b4:=by have:=M.lt;omega
 have u5:=e5.size;replace I:=I.ext e5;replace hC:=hC.next e5;refine z0b (z0d 7 U (z0o h (z0a U (z0a U (z0a U z0g))) (mkC func123) (by have x:=y8t s.q o.b n m _ I.b.at hv (by rw[<-a4];exact hn) (by rw[<-f9];exact e7) (by rw[<-a4];exact h9);rw[<-a4,<-f9]at x;exact x) ?_));rintro _ q0 ⟨⟨q',rfl,g6⟩,q28⟩ a h;have u6:=q28.size;replace I:=I.ext q28;replace Z:=Z.ext (e5.n1 q28);replace D:=D.ext (e5.n1 q28);replace M:=M.ext (e5.n1 q28);replace a2:=a2.ext q28;replace hC:=hC.next q28;rw[if_neg oo]at h;obtain⟨hQ,b8⟩:=g6 oo;refine z0b (z0e 8 h U λa h=>z0n 9 h U λa h=>z0n 10 h U λa h=>z0d 12 U (z0t h U a2 U y4m ?_ (h1:=(by first|(simp[Value.oneCell',S];done)|exact z1f.one _))));clear h a;intro m0 a6 d3 hz a h;have u7:=d3.size;replace Z:=Z.fr d3;replace D:=D.fr d3;replace M:=M.fr d3;first|replace hQ:=BdO.ext hQ d3|replace hQ:=BdO.tf hQ d3 (OffT.one a2 dd) (OffT.one a2 dd)
 replace hC:=hC.sp d3;clear a2 hz;have a2:Blk m0 b4 _ [_,_]:=a6;clear a6;refine z0b (z0d 13 U (z0s h U λa h=>?_));refine z0b (z0q ?_);clear hC a0 a1 J d5;refine bk (h.sub (L':=[(0,_),(9,_),(10,_)]) (.c3 U U U)) (tn (sr (mv U U (eq' U (nn (cd U (λc4=>?_) (λc4=>?_)))))));refine rg (mv U U (z0m U a2 z4s (nlc U (fad U z8q ?_))));replace I:=c9.ext ((q1.n6 q2 q3 e9 e4 e5 q28).z1 d3);refine z3j (cs':=wtL { s with q:=q' }) U I.k (by intro u hu;simp at hu;rcases hu with rfl|rfl<;>rfl) y4m U (λq6 f2 l4 u9=>?_);have a8:=I.put τwk (s':={ s with q:=q' }) f2 l4 (hQ.low oo) I.va I.vm U U U I.c6 I.m6 I.ol;exact kpL [] .nil (nl (bn' (r0n results61  ⟨_,rfl,rfl,_,by rw[y6l (by unfold y2x;omega) oo];exact a8,by rw[y6l (by unfold y2x;omega) oo];exact⟨by rw[b8,j8,<-hB,<-hr],hr.trans j6.symm,hc.trans j7.symm,rfl,rfl⟩⟩)));exact absurd U c4;refine sr (eq' U (asg U (nn (cd U (λc5=>?_) (λc5=>?_)))));have hn:=d6.2.2.2.2.1 oo;have h3:=z2p hn;obtain⟨k7,k8,i8⟩:=u6u he c5;obtain⟨n,a4⟩:∃n:Nat,o.p=(n:Int):=⟨o.p.toNat,oo⟩;have a7:=h8.B;rw[i8,<-hB]at a7;have j5:j0g Ul op o p=((((s.q.p.atC o.b o.p).filter λx=>decide (x∈Ul))).map λx=>(⟨op,4,x⟩:Hz)):=by unfold j0g;rw[<-hB,y1c hn]
 refine sq (sr (mv U U (lnS U underlying27 (mv U U (nn (bl (lpK (ι:=Nat) [(0,_),(1,_),(5,_),(84,_),(85,_)] (λi=>[(86,.int .i64 (i:Int))]) (λi w'=>i<=(s.q.p.atC o.b o.p).length/\∃u:SV,WkM τw wS ka w' { s with fd:=u } v Us (fd++((((s.q.p.atC o.b o.p).take i).filter λx=>decide (x∈Ul)).map λx=>(⟨op,4,x⟩:Hz)))/\Lw.Own z1f 73 w0.heap.size w' (.slice k4 (s.q.p.atC o.b o.p).length k5) (s.q.p.atC o.b o.p)/\Blk w' g5 47 [.int .u8 o.k,.int .u8 o.d,.int .u8 o.b,.int .i64 o.p,.int .u8 o.y,.int .i64 o.r]) (λi=>(s.q.p.atC o.b o.p).length-i) 0 (.c6 U U U U U U) ⟨Nat.zero_le _,⟨s.fd,by simpa using I,O.low oo,D⟩⟩ ?_)))))));rintro i m4 ⟨hi,⟨u,I,O,D⟩⟩;have c9:=I;have k1:=D.lt;refine kpC [(0,_),(1,_),(5,_),(84,_),(85,_),(86,_)] (.c6 U U U U U U) ?_;have Z:=I.k;have o4:(((s.q.p.atC o.b o.p).take i).filter λx=>decide (x∈Ul)).length<=4:=Nat.le_trans (List.length_filter_le _ _) (by rw[List.length_take];omega);refine sr (lt' U (nn (sq (cd U (λc6=>?_) (λc6=>?_)))));have j1:i<(s.q.p.atC o.b o.p).length:=by omega
 refine sk (tn (sq (bl (sr (z1d (id0) U O.sl U z4u z1i (λm5 i7=>?_))))));refine z1k U (i7 _ O.sl) z2w (al y0b U (λn8 q8 m8 b0 f0 v8=>?_));refine z0k (vs:=[_,_]) U b0 z9m (λr4 b0 f1 v9=>?_) (h1:=(by first|(simp[Value.oneCell',S];done)|exact z1f.one _));refine nn (sq ?_);replace I:=c9.ext (f0.z1 f1);replace Z:=(Z.ext f0).fr f1;intro a h;refine z0h none (λwb w'=>Fr [] wb w') z2m ?_;intro i3 d4;have x0:=d4.size;replace I:=I.ext d4;replace Z:=Z.ext d4;replace b0:=b0.ext d4;have hC:Fr [] i3 i3:=Fr.refl _ _;have a0:=I;have a1:=Z;have e6:=b0;refine z0e 0 h U λa h=>z0l 1 h U λa h=>z0c 2 h U v6d U λa h=>z0j 3 h U (λ_ hw=>a1.ext hw) U x6a U λa h=>z0v 4 h U (λ_ hw=>e6.ext hw) z2w U λa h=>z0d 5 U (z6k (V:=idV) (k:=(s.q.p.atC o.b o.p).getD i id0) (f:=Us) (v:=.bool (decide ((s.q.p.atC o.b o.p).getD i id0∈Ul))) h U U I.u z4a underlying135 zv4 (by rw[hU];exact x0g _ _) U λa h=>?_);refine z0b (z0q ?_);clear hC a0 a1 e6;refine bk (h.sub (L':=[(0,_),(1,_),(5,_),(12,_),(84,_),(85,_),(86,_),(95,_)]) (.c8 U U U U U U U U)) (tn (cd U (λc7=>?_) (λc7=>?_)));refine rg (mv U U (mv U U (z0m U b0 z2w ?_)));replace O:=((O.ext f0).fr f1 (by first|exact z7z O oo|simp[z0u]<;>omega)).ext d4;replace D:=((D.ext f0).fr f1).ext d4;have a9:=I.kp;refine cl (z0a U (z0a U (z0a U (z0a U z0g)))) j3l (y5j wS { ka with wk:=i3 } { s with fd:=u } v Us _ op 4 ((s.q.p.atC o.b o.p).getD i id0) _ I.mark (by simp only[List.length_append,List.length_map];omega)) U ?_;rintro _ r5 ⟨rfl,u2,a5⟩;have a3:=a5.kp;simp only at a3;have x1:=a3.size;replace O:=I.kpO a3 O dd dd;replace D:=I.kpB a3 D dd dd;replace I:=a5.unmark a9;clear a9 a5;have c9:=I;have Z:=I.k;exact kpL [(0,_),(1,_),(5,_),(84,_),(85,_),(86,_)] (.c6 U U U U U U) (nl (bn' (tn (rg (z0z U (wi6 oo) (mv U U (nl (lpE (i+1) (.c6 U U U U U U) ⟨oo,⟨u2,by rw[z1z id0 j1,z9d,if_pos (by simpa using c7),<-List.append_assoc];exact I,O,D⟩⟩ oo))))))));refine sk (bn' (tn (rg (z0z U (wi6 oo) (mv U U (nl ?_))))));replace O:=((O.ext f0).fr f1 (by first|exact z7z O oo|simp[z0u]<;>omega)).ext d4;replace D:=((D.ext f0).fr f1).ext d4;exact lpE (i+1) (.c6 U U U U U U) ⟨oo,⟨u,by rw[z1z id0 j1,z9d,if_neg (by simpa using c7),List.append_nil];exact I,O,D⟩⟩ oo;obtain rfl:i=(s.q.p.atC o.b o.p).length:=by omega
 refine ex (te (te (xh (tn (rg (mv U U (fad U z3g (z1w (vs:=[_,_]) U D z4k U ?_))))))));have a9:=I.kp;refine cl (z0a U (z0a U (z0a U z0g))) (mkC func120) (by have x:=x4a wS { ka with wk:=m4 } { s with fd:=u } v Us _ o.b n _ [] _ I.mark (Sl.nil _) hv (by rw[<-a4];exact hn) sp0 sp0 (by rw[<-a4];exact x5q hn a7);rw[<-a4]at x;exact x) U ?_;rintro _ r6 ⟨rfl,q',a5,b8⟩;have a3:=a5.kp;simp only at a3;have x2:=a3.size;replace I:=a5.unmark a9;clear a9 a5;have c9:=I;refine kpL [] .nil (nl (bn' (r0n results61  ?_)));rw[List.take_length]at I;exact⟨_,rfl,rfl,_,by rw[x8f c5];rw[<-j5]at I;exact I,by rw[x8f c5];exact⟨by rw[b8,i8,<-hB],hr.trans k7.symm,hc.trans k8.symm,rfl,rfl⟩⟩;refine sk (bn' (r0n results61  ?_));exfalso;have o2:=d6.1;unfold v8m at l0;omega
theorem v0k:z3o prog 141 3:=⟨λ_=>kr,λ_=>kr⟩
theorem k0v:BuildAt prog 141 [(0,1),(1,1),(2,1)] [(.map none),(.map none),(.map none)]:=BuildAt.struct underlying141 (λ_=>kr) (λ_=>kr)
theorem v7q:z0x prog 141 1 1:=λ_ _=>kr
theorem x5m:z0x prog 141 2 2:=λ_ _=>kr
theorem j3u:z2c prog 138:=λ_=>kr
theorem u9a:z2c prog 139:=λ_=>kr
theorem v5i:z1r prog 141 3:=λ_=>kr
theorem y3f (w:World):(zeroValue 141).run prog w=.ok (.agg #[(.map none),(.map none),(.map none)]) w:=kr
theorem k0s (p q:Int×Int)(w:World):(Op.equal 45 (ndK p) (ndK q)).run prog w=.ok (decide (p=q)) w:=by
 have h:=(j8a p q (.tmp 0) (.tmp 0) w).2.2.1;have e:(binOp .eql 45 (ndV p) (ndV q)).run prog w=((Op.equal 45 (ndV p) (ndV q)).run prog w).andThen λb w'=>.ok (.bool b) w':=by
  have D:binOp .eql 45 (ndV p) (ndV q)=(Op.equal 45 (ndV p) (ndV q) >>= λb=>pure (.bool b)):=by
   unfold binOp ndV;simp only
  rw[D];simp only[Sem.run_bind,Sem.run_pure]
 rw[e]at h;show (Op.equal 45 (ndV p) (ndV q)).run prog w=_;generalize (Op.equal 45 (ndV p) (ndV q)).run prog w=r at h;cases r with
 | ok b w'=>simp only[Result.andThen]at h;cases h;rfl
 | halt x w'=>simp only[Result.andThen]at h;cases h
theorem y4f:KeyLaw prog 45 ndK:=KeyLaw.asking underlying45 (λ_ _=>rfl) (λ_ _ _=>kr) k0s (λ_=>by simp[Instr.sameBits])
theorem j8z (w:World):(zeroValue 73).run prog w=.ok (.agg #[.int .u8 0,.int .i64 0]) w:=kr
theorem y1n (q:BdQ)(r:Int)(w0:World)(hB:BdAt w0 q)(hv:BdOk q.p)(hr:-4<=r/\r<=4):Rets prog 124 #[.agg #[.slice q.f.1 q.f.2.1 q.f.2.2,.slice q.b.1 q.b.2.1 q.b.2.2],.int .i64 r] w0 λv w'=>(∃m1 m2 m3,v=.agg #[.map (some m1),.map (some m2),.map (some m3)]/\w0.heap.size<=m1/\w0.heap.size<=m2/\w0.heap.size<=m3/\MapL idV w' m1 (atM (z2q q.p r) r)/\MapF ndK w' m2 (y4z (vwB q.p r))/\MapL ndK w' m3 (y0p (vwB q.p r)))/\Fr [] w0 w':=by
 obtain⟨⟨hf,hb⟩,h4,f1⟩:=z3t hv;refine we [(0,.agg #[.slice q.f.1 q.f.2.1 q.f.2.2,.slice q.b.1 q.b.2.1 q.b.2.2]),(1,.int .i64 r)] func124 U ntmps124 U (.c2 U U) ?_;have e1:=hB;refine sr (bx U (λg2 w1 f2 d1 q1 z1=>(al y3f U (λg4 w2 f3 b8 q2 z2=>(nn (sr (y7i idV U (λb7 w3 e7 M q3 z3=>(z8l ndK U (λb3 w4 e8 O q4 z4=>(y7i ndK U (λa4 w5 e9 I q5 z5=>?_))))))))))));refine z1p (cs:=[_,_,_]) (ev3 U) k0v (z0f U (z0f U (z0f U z0p))) U ?_;refine al y3f U (λg5 w6 f4 D q6 z6=>?_);refine z0k (vs:=[_,_,_]) U D v5i (λw7 D q7 z7=>?_) (h1:=(by first|(simp[Value.oneCell',S];done)|exact z3i.one _));refine nn (sr ?_);replace d1:=(d1.ext (q2.n4 q3 q4 q5 q6)).fr q7;refine z0m U d1 z4s (mv U U ?_);replace hB:=e1.ext (q1.z6 q2 q3 q4 q5 q6 q7);refine cl (ev2 U) (mkC func117) (x6r q _ _ hB hv hr) U ?_;rintro _ w8 ⟨⟨e0,l,n,d4,f7,f6,rfl,f0,hH⟩,q8⟩;have z8:=q8.size;have e2:=(hH.blk e0 (by simp[z0u])).2;have e3:(l.map Hd.id).Nodup:=by rw[d4];exact(y9l q.p r).nodup_iff.2 hv.nd
 refine mv U U (xt U (xt U (asg U (asg U (kpL [(1,_),(4,_),(5,_),(6,_)] (.c4 U U U U) (nn (sq (sr (mv U U (lnS U underlying202 (mv U U (nn (bl ?_)))))))))))));replace M:=((M.ext (q4.n2 q5 q6)).fr q7 so).ext q8;replace O:=((O.ext (q5.n1 q6)).fr q7 so).ext q8;replace I:=((I.ext q6).fr q7 so).ext q8;refine lpK (ι:=Nat) [(1,_),(4,_),(5,_),(20,_),(21,_)] (λi=>[(22,.int .i64 (i:Int))]) (λi w'=>Fr [b7,b3,a4] w8 w'/\i<=n/\MapL idV w' b7 (atM (l.take i) r)/\MapF ndK w' b3 (y4z ⟨l.take i,r⟩)/\MapL ndK w' a4 (y0p ⟨l.take i,r⟩)) (λi=>n-i) 0 (.c6 U U U U U U) ⟨Fr.refl _ _,⟨Nat.zero_le _,⟨M,O,I⟩⟩⟩ ?_;rintro i w9 ⟨q9,⟨hi,⟨M,O,I⟩⟩⟩;have z9:=q9.size;refine kpC [(1,_),(4,_),(5,_),(20,_),(21,_),(22,_)] (.c6 U U U U U U) (sr (lt' U (nn (sq (cd U (λc0=>?_) (λc0=>?_))))));have b9:i<l.length:=by omega
 obtain⟨f8,_,_⟩:=x2g (r:=r) (h:=l.getD i hd0) hv (by have x:=z0y (d:=hd0) b9;rw[<-d4];exact x);have e4:=j5t ⟨l.take i,r⟩ (ndH (l.getD i hd0));simp only[List.length_take]at e4;have b4:=x3h ⟨l.take i,r⟩ (ndH (l.getD i hd0));refine sk (tn (sq (bl (sr ?_))));replace hH:=hH.fr q9 (by intro k hk hb;simp[z0u]at hk hb;omega);refine z1d (hd0) U hH.sl U z3f z1i (λe6 d6=>?_);refine z1k U (d6 _ hH.sl) z4w (al v2p U (λg9 f9 f5 J b5 h3=>?_));refine z0k (vs:=[_,_,_,_,_]) U J z7x (λg0 J b6 h5=>?_) (h1:=(by first|(simp[Value.oneCell',S];done)|exact z3i.one _));refine nn (sq ?_);replace D:=(((D.ext q8).fr q9).ext b5).fr b6;replace M:=(M.ext b5).fr b6 so;intro a h;refine z0h (some 8) (λwb w'=>Fr [] wb w') z2m ?_;intro d7 a3;have h6:=a3.size;replace D:=D.ext a3;replace M:=M.ext a3;replace J:=J.ext a3;have hC:Fr [] d7 d7:=Fr.refl _ _;have a0:=D;have d5:=M;have Z:=J;refine z0c 0 h U x0a U λa h=>z0j 1 h U (λ_ hw=>a0.ext hw) U v1a U λa h=>z0c 2 h U y9i U λa h=>z1b (vs:=[_,_]) 3 h U (λ_ hw=>(Z.ext hw)) z2w U U λa h=>z0c 4 h U y9g U λa h=>z1b (vs:=[_,_]) 5 h U (λ_ hw=>(Z.ext hw)) z4k U U λa h=>z0e 6 h U λa h=>z0d 7 U (z0o h (z0a U (z0a U z0g)) (mkC func166) (v2x _ _ _ _ (by assumption) oo) ?_);rintro _ g1 ⟨rfl,a2⟩ a h;have h7:=a2.size;replace D:=D.ext a2;replace M:=M.ext a2;replace J:=J.ext a2;replace hC:=hC.next a2;refine z0b (z0d 8 U (y1s (V:=idV) (k:=(l.getD i hd0).id) (v:=.int .i64 (y6a (l.getD i hd0).b (l.getD i hd0).n r)) h U U U M z4a underlying137 λg3 d3 a5 _hz a h=>?_));rw[u2l e3 b9]at d3;clear M;have M:=d3;clear d3;have h8:=a5.size;replace D:=D.fr a5;replace J:=J.fr a5;clear _hz;refine z1m (z0q ?_);clear hC a0 d5 Z;refine bk (h.sub (L':=[(1,_),(4,_),(5,_),(9,_),(20,_),(21,_),(22,_)]) (.c7 U U U U U U U)) (tn (sr (fad U v7q (z0i U D U j3u (fad U y9g (z1w (vs:=[_,_]) U J z4k U (fad U y9i (z1w (vs:=[_,_]) U J z2w U ?_))))))));replace O:=(((O.ext b5).fr b6 so).ext (a3.n1 a2)).fr a5 so;refine y3o (V:=ndK) (k:=ndH (l.getD i hd0)) U U U O y4f underlying138 (λe5 O a6 h9=>?_);replace O:MapF ndK e5 b3 (y4z ⟨l.take (i+1),r⟩):=by rw[<-x9m b9];exact O
 refine kpL [(1,_),(4,_),(5,_),(9,_),(20,_),(21,_),(22,_)] (.c7 U U U U U U U) (nn ?_);replace D:=D.fr a6;replace I:=((((I.ext b5).fr b6 so).ext (a3.n1 a2)).fr a5 so).fr a6 so;replace J:=J.fr a6;intro a h;refine z0h none (λwb w'=>Fr [a4] wb w') z2m ?_;intro d9 a1;have i0:=a1.size;replace D:=D.ext a1;replace I:=I.ext a1;replace J:=J.ext a1;have hC:Fr [a4] d9 d9:=Fr.refl _ _;have a0:=D;have c1:=I;have Z:=J;refine z0c 0 h U x5m U λa h=>z0j 1 h U (λ_ hw=>a0.fr hw se) U u9a U λa h=>z0c 2 h U y9g U λa h=>z1b (vs:=[_,_]) 3 h U (λ_ hw=>(Z.fr hw se)) z4k U U λa h=>z1y 4 6 kr U ?_ ?_;refine z6k (V:=ndK) (k:=ndH (l.getD i hd0)) (f:=z1h _) (v:=.int .i64 (((⟨l.take i,r⟩:Vw).on (ndH (l.getD i hd0))).length:Int)) h U U I.f y4f underlying139 zvI b4 U λa h=>z0b (z4m 5 h U (by first|exact i6 oo|rfl) U λa h=>z0d 6 U (y3d (V:=ndK) (k:=ndH (l.getD i hd0)) h U U I y4f underlying139 zvI U λg6 st m' he c9 a7 _hz a h=>?_));replace I:=he.l;replace b4:=c9.2.trans b4;have i1:=a7.size;replace D:=D.fr a7;replace J:=J.fr a7;replace hC:=hC.sp a7;clear _hz;refine z0b (z0n 7 h U λa h=>z0d 8 U (z9p (v:=.int .i64 (((⟨l.take i,r⟩:Vw).on (ndH (l.getD i hd0))).length+1)) h U U U he ?_));clear h a I;intro g7 I a8 _hz a h;rw[c9.1,y7r b9]at I;have i2:=a8.size;replace D:=D.fr a8;replace J:=J.fr a8;replace hC:=hC.sp a8;clear _hz;refine z0b (z0q ?_);clear hC a0 c1 Z;refine bk (h.sub (L':=[(1,_),(4,_),(5,_),(20,_),(21,_),(22,_)]) (.c6 U U U U U U)) (bn' (tn (rg (z0z U (wi6 oo) (mv U U (nl ?_))))));replace M:=(((M.fr a6 so).ext a1).fr a7 so).fr a8 so;replace O:=((O.ext a1).fr a7 so).fr a8 so;exact lpE (i+1) (.c6 U U U U U U) ⟨((((Fr.refl [b7,b3,a4] _).z6 q9 b5 b6 a3 a2 a5).z1 a6).z3 a1 a7 a8),⟨oo,⟨M,O,I⟩⟩⟩ oo;refine y3d (V:=ndK) (k:=ndH (l.getD i hd0)) h U U I y4f underlying139 zvI U λg8 st m' he c9 a9 _hz a h=>?_;replace I:=he.l;replace b4:=c9.2.trans b4;have i3:=a9.size;replace D:=D.fr a9;replace J:=J.fr a9;replace hC:=hC.sp a9;clear _hz;refine z0b (z0n 7 h U λa h=>z0d 4 U (z6k (V:=ndK) (k:=ndH (l.getD i hd0)) (f:=z1h _) (v:=.int .i64 (((⟨l.take i,r⟩:Vw).on (ndH (l.getD i hd0))).length:Int)) h U U I.f y4f underlying139 zvI b4 U λa h=>?_));refine z0b (z4m 5 h U (by first|exact i6 oo|rfl) U λa h=>z0d 8 U (z9p (v:=.int .i64 (((⟨l.take i,r⟩:Vw).on (ndH (l.getD i hd0))).length+1)) h U U U he ?_));clear h a I;intro h0 I b0 _hz a h;rw[c9.1,y7r b9]at I;have i4:=b0.size;replace D:=D.fr b0;replace J:=J.fr b0;replace hC:=hC.sp b0;clear _hz;refine z0b (z0q ?_);clear hC a0 c1 Z;refine bk (h.sub (L':=[(1,_),(4,_),(5,_),(20,_),(21,_),(22,_)]) (.c6 U U U U U U)) (bn' (tn (rg (z0z U (wi6 oo) (mv U U (nl ?_))))));replace M:=(((M.fr a6 so).ext a1).fr a9 so).fr b0 so;replace O:=((O.ext a1).fr a9 so).fr b0 so;exact lpE (i+1) (.c6 U U U U U U) ⟨((((Fr.refl [b7,b3,a4] _).z6 q9 b5 b6 a3 a2 a5).z1 a6).z3 a1 a9 b0),⟨oo,⟨M,O,I⟩⟩⟩ oo;obtain rfl:i=n:=by omega
 rw[List.take_of_length_le oo]at M O I;refine ex (te (te (xh (tn (sr ?_)))));replace D:=(D.ext q8).fr q9;refine z0m U D v0k ?_;replace b8:=(((b8.ext (q3.n3 q4 q5 q6)).fr q7).ext q8).fr q9;refine z0k (vs:=[_,_,_]) U b8 v5i (λh2 b8 d0 i5=>?_) (h1:=(by first|(simp[Value.oneCell',S];done)|exact z3i.one _));refine kpL [(4,_)] (.cons U .nil) (nn (rt (rC results124 U b8 v0k  ?_)));replace M:=M.fr d0 so;replace O:=O.fr d0 so;replace I:=I.fr d0 so;subst d4;exact⟨_,rfl,⟨b7,b3,a4,rfl,oo,oo,oo,M,O,I⟩,((((q1.z6 q2 q3 q4 q5 q6 q7).n1 q8).z1 q9).z1 d0)⟩
theorem v4w:CallOf prog 124:=mkC func124
theorem v6p:z0x prog 143 6 20:=λ_ _=>kr
theorem u8z (wS:World)(ka:WA)(s:WtQ)(v:Vw)(Us:LId->Option Value)(fd:List Hz)(op:Int)(w0:World)(M:WkM τw wS ka w0 s v Us fd)(hv:BdOk s.q.p)(hr:-4<=s.rk/\s.rk<=4)(h6:s.fb.ts.length=6)(i0:∀i∈s.q.p.flat,z3p (z1s s.fb.ts) i)(i5:∀j p,v.pos j=some p->-1000<=p/\p<=1000)(hfl:fd.length<=90000000):Rets prog 62 #[.pointer (some ⟨ka.gw,0,none⟩),.int .i64 op] w0 λr w'=>r=.tuple #[]/\∃(s':WtQ) (fd':List Hz),WkM τw wS ka w' s' (vwB s.q.p s.rk) Us fd'/\fd'.Perm (fd++(j1d (z1s s.fb.ts) v (vwB s.q.p s.rk) op++j0j v (vwB s.q.p s.rk) op))/\s'.q=s.q/\s'.rk=s.rk/\s'.ct=s.ct/\s'.md=s.md/\s'.fb=s.fb:=by
 have k2:=M.fr.size;have J:=M.k;have k1:=J.lt;have k0:=M.kp.size;have h4:(z2q s.q.p s.rk).length<=320:=by have x:=u4o s.q.p s.rk;have y:=y2f hv;exact Nat.le_trans (Nat.le_of_eq x) y
 have f3:=v1w (vwB s.q.p s.rk);replace f3:(vwB s.q.p s.rk).nds.length<=320:=Nat.le_trans f3 h4;refine we [(0,.pointer (some ⟨ka.gw,0,none⟩)),(1,.int .i64 op)] func62 U ntmps62 U (.c2 U U) ?_;have a5:=M;refine jn (ι:=(Nat×Nat)×Nat×Nat×Nat) [(0,_),(1,_)] (λp=>[(4,.pointer (some ⟨p.1.1,0,none⟩)),(5,.pointer (some ⟨p.1.2,0,none⟩))]) (λp w'=>Fr [] w0 w'/\CmV 141 w' p.1.1 p.1.2 p.2.1 p.2.2.1 p.2.2.2 s (vwB s.q.p s.rk)) (.c2 U U) ?_ ?_;intro a h;refine z0h none (λwb w'=>Fr [] wb w') z2m ?_;intro w1 q1;have z1:=q1.size;replace M:=M.ext q1;replace J:=J.ext q1;have hC:Fr [] w1 w1:=Fr.refl _ _;have f4:=M;have d4:=J;refine y0g (ι:=(Nat×Nat)×Nat×Nat×Nat) h [(0,_),(1,_)] (.c2 U U) #[true,true,true,true,true,true,true,true,true,true,true,true,true,true,true,false,false] 2 (λp_=>[(4,.pointer (some ⟨p_.1.1,0,none⟩)),(5,.pointer (some ⟨p_.1.2,0,none⟩)),(12,.agg #[s.va,s.vl,s.vm]),(21,.agg #[.map (some p_.2.1),.map (some p_.2.2.1),.map (some p_.2.2.2)])]) (λp_ w'=>Fr [] w1 w'/\(w1.heap.size<=p_.1.1/\w1.heap.size<=p_.1.2/\p_.1.1≠p_.1.2)/\Blk w' p_.1.1 141 [.map none,.map none,.map none]/\Blk w' p_.1.2 141 [.map none,.map none,.map none]/\MapL idV w' p_.2.1 (atM (z2q s.q.p s.rk) s.rk)/\MapF ndK w' p_.2.2.1 (y4z (vwB s.q.p s.rk))/\MapL ndK w' p_.2.2.2 (y0p (vwB s.q.p s.rk))) (λa8=>?_) ?_;refine z0e 0 h U λa h=>z0l 1 h U λa h=>z0c 2 h U v6p U λa h=>z1b (vs:=[_,_,_]) 3 h U (λ_ hw=>(d4.ext hw)) v0k U U λa h=>z0e 4 h U λa h=>z0l 5 h U λa h=>z0c 6 h U z8q U λa h=>z1b (vs:=[_,_]) 7 h U (λ_ hw=>(d4.ext hw)) z4s U U λa h=>z0e 8 h U λa h=>z0l 9 h U λa h=>z0c 10 h U y9y U λa h=>z0j 11 h U (λ_ hw=>d4.ext hw) U na3 U λa h=>y9w 12 13 14 kr U U U ?_ ?_ ?_;refine z0o h (z0a U (z0a U z0g)) v4w (y1n s.q s.rk _ M.b.at hv hr) ?_;rintro _ w2 ⟨⟨m1,m2,m3,rfl,e6,e7,e8,O,Z,a0⟩,q2⟩ a h;have z2:=q2.size;replace M:=M.ext q2;replace J:=J.ext q2;replace hC:=hC.next q2;refine z0b (z1y 13 14 kr U ?_ ?_);refine z0w h y3f U λw3 D q3 hz a h=>?_;obtain⟨a1,hg⟩:∃g,g=w2.heap.size:=⟨_,rfl⟩;rw[<-hg]at D h hz;have b7.gw_4:ka.gw<a1:=by have:=J.lt;omega
 have z3:=q3.size;replace J:=J.ext q3;replace hC:=hC.next q3;refine z0b (z0d 14 U (z0w h y3f U λw4 I q4 hz a h=>?_));obtain⟨a2,hg⟩:∃g,g=w3.heap.size:=⟨_,rfl⟩;rw[<-hg]at I h hz;have b7.gw_5:ka.gw<a2:=by have:=J.lt;omega
 have d5:a1<a2:=by have:=D.lt;omega
 have z4:=q4.size;replace O:=O.ext (q3.n1 q4);replace Z:=Z.ext (q3.n1 q4);replace a0:=a0.ext (q3.n1 q4);replace D:=D.ext q4;replace hC:=hC.next q4;exact z0b (a8 ((a1,a2),m1,m2,m3) _ _ _ kr (h.sub (.c6 U U U U U U)) ⟨hC,⟨sm,sm,sm⟩,D,I,O,Z,a0⟩);refine z0w h y3f U λw5 I q5 hz a h=>?_;obtain⟨a2,hg⟩:∃g,g=w2.heap.size:=⟨_,rfl⟩;rw[<-hg]at I h hz;have b7.gw_5:ka.gw<a2:=by have:=J.lt;omega
 have z5:=q5.size;replace J:=J.ext q5;replace hC:=hC.next q5;refine z0b (z0d 13 U (z0w h y3f U λw6 D q6 hz a h=>?_));obtain⟨a1,hg⟩:∃g,g=w5.heap.size:=⟨_,rfl⟩;rw[<-hg]at D h hz;have b7.gw_4:ka.gw<a1:=by have:=J.lt;omega
 have d6:a2<a1:=by have:=I.lt;omega
 have z6:=q6.size;replace O:=O.ext (q5.n1 q6);replace Z:=Z.ext (q5.n1 q6);replace a0:=a0.ext (q5.n1 q6);replace I:=I.ext q6;replace hC:=hC.next q6;exact z0b (a8 ((a1,a2),m1,m2,m3) _ _ _ kr (h.sub (.c6 U U U U U U)) ⟨hC,⟨sm,sm,sm⟩,D,I,O,Z,a0⟩);refine z0w h y3f U λw7 D q7 hz a h=>?_;obtain⟨a1,hg⟩:∃g,g=w1.heap.size:=⟨_,rfl⟩;rw[<-hg]at D h hz;have b7.gw_4:ka.gw<a1:=by have:=J.lt;omega
 have z7:=q7.size;replace M:=M.ext q7;replace J:=J.ext q7;replace hC:=hC.next q7;refine z0b (z1y 12 14 kr U ?_ ?_);refine z0o h (z0a U (z0a U z0g)) v4w (y1n s.q s.rk _ M.b.at hv hr) ?_;rintro _ w8 ⟨⟨m1,m2,m3,rfl,e6,e7,e8,O,Z,a0⟩,q8⟩ a h;have z8:=q8.size;replace J:=J.ext q8;replace D:=D.ext q8;replace hC:=hC.next q8;refine z0b (z0d 14 U (z0w h y3f U λw9 I q9 hz a h=>?_));obtain⟨a2,hg⟩:∃g,g=w8.heap.size:=⟨_,rfl⟩;rw[<-hg]at I h hz;have b7.gw_5:ka.gw<a2:=by have:=J.lt;omega
 have d5:a1<a2:=by have:=D.lt;omega
 have z9:=q9.size;replace D:=D.ext q9;replace O:=O.ext q9;replace Z:=Z.ext q9;replace a0:=a0.ext q9;replace hC:=hC.next q9;exact z0b (a8 ((a1,a2),m1,m2,m3) _ _ _ kr (h.sub (.c6 U U U U U U)) ⟨hC,⟨sm,sm,sm⟩,D,I,O,Z,a0⟩);refine z0w h y3f U λk4 I e9 hz a h=>?_;obtain⟨a2,hg⟩:∃g,g=w7.heap.size:=⟨_,rfl⟩;rw[<-hg]at I h hz;have b7.gw_5:ka.gw<a2:=by have:=J.lt;omega
 have d5:a1<a2:=by have:=D.lt;omega
 have m9:=e9.size;replace M:=M.ext e9;replace hC:=hC.next e9;refine z0b (z0d 12 U (z0o h (z0a U (z0a U z0g)) v4w (y1n s.q s.rk _ M.b.at hv hr) ?_));rintro _ k5 ⟨⟨m1,m2,m3,rfl,e6,e7,e8,O,Z,a0⟩,q11⟩ a h;have n7:=q11.size;replace D:=D.ext (e9.n1 q11);replace I:=I.ext q11;replace hC:=hC.next q11;exact z0b (a8 ((a1,a2),m1,m2,m3) _ _ _ kr (h.sub (.c6 U U U U U U)) ⟨hC,⟨sm,sm,sm⟩,D,I,O,Z,a0⟩);refine z0w h y3f U λi8 I f0 hz a h=>?_;obtain⟨a2,hg⟩:∃g,g=w1.heap.size:=⟨_,rfl⟩;rw[<-hg]at I h hz;have b7.gw_5:ka.gw<a2:=by have:=J.lt;omega
 have n8:=f0.size;replace M:=M.ext f0;replace J:=J.ext f0;replace hC:=hC.next f0;refine z0b (z1y 12 13 kr U ?_ ?_);refine z0o h (z0a U (z0a U z0g)) v4w (y1n s.q s.rk _ M.b.at hv hr) ?_;rintro _ i9 ⟨⟨m1,m2,m3,rfl,e6,e7,e8,O,Z,a0⟩,q13⟩ a h;have n9:=q13.size;replace J:=J.ext q13;replace I:=I.ext q13;replace hC:=hC.next q13;refine z0b (z0d 13 U (z0w h y3f U λk6 D d7 hz a h=>?_));obtain⟨a1,hg⟩:∃g,g=i9.heap.size:=⟨_,rfl⟩;rw[<-hg]at D h hz;have b7.gw_4:ka.gw<a1:=by have:=J.lt;omega
 have d6:a2<a1:=by have:=I.lt;omega
 have o0:=d7.size;replace I:=I.ext d7;replace O:=O.ext d7;replace Z:=Z.ext d7;replace a0:=a0.ext d7;replace hC:=hC.next d7;exact z0b (a8 ((a1,a2),m1,m2,m3) _ _ _ kr (h.sub (.c6 U U U U U U)) ⟨hC,⟨sm,sm,sm⟩,D,I,O,Z,a0⟩);refine z0w h y3f U λk7 D f1 hz a h=>?_;obtain⟨a1,hg⟩:∃g,g=i8.heap.size:=⟨_,rfl⟩;rw[<-hg]at D h hz;have b7.gw_4:ka.gw<a1:=by have:=J.lt;omega
 have d6:a2<a1:=by have:=I.lt;omega
 have o1:=f1.size;replace M:=M.ext f1;replace hC:=hC.next f1;refine z0b (z0d 12 U (z0o h (z0a U (z0a U z0g)) v4w (y1n s.q s.rk _ M.b.at hv hr) ?_));rintro _ k8 ⟨⟨m1,m2,m3,rfl,e6,e7,e8,O,Z,a0⟩,q16⟩ a h;have o2:=q16.size;replace I:=I.ext (f1.n1 q16);replace D:=D.ext q16;replace hC:=hC.next q16;exact z0b (a8 ((a1,a2),m1,m2,m3) _ _ _ kr (h.sub (.c6 U U U U U U)) ⟨hC,⟨sm,sm,sm⟩,D,I,O,Z,a0⟩);rintro⟨⟨a1,a2⟩,m1,m2,m3⟩ a w17 ⟨hC,⟨hz4,hz5,hz45⟩,D,I,O,Z,a0⟩ h;simp only at hz4 hz5 hz45 D I O Z a0;have f2:=hC;have o3:=f2.size;replace M:=M.ext f2;replace J:=J.ext f2;refine z0d 15 U (z0t h U D U v5i ?_ (h1:=(by first|(simp[Value.oneCell',S];done)|exact Enc.one _ _|exact M.one)));clear h a;intro j0 e1 b8 hz a h;have o4:=b8.size;replace J:=J.fr b8;replace I:=I.fr b8;replace O:=O.fr b8 (by intro J;simp at J;first|exact O.f.ne_blk D J|exact O.f.ne_blk I J|exact O.f.ne_blk D J.symm|exact O.f.ne_blk I J.symm);replace Z:=Z.fr b8 (by intro J;simp at J;first|exact Z.ne_blk D J|exact Z.ne_blk I J|exact Z.ne_blk D J.symm|exact Z.ne_blk I J.symm);replace a0:=a0.fr b8 (by intro J;simp at J;first|exact a0.f.ne_blk D J|exact a0.f.ne_blk I J|exact a0.f.ne_blk D J.symm|exact a0.f.ne_blk I J.symm);replace hC:=hC.sp b8;clear D hz;have D:Blk j0 a1 _ [_,_,_]:=e1;clear e1;refine z0b (z0d 16 U (z0t h U I U v5i ?_ (h1:=(by first|(simp[Value.oneCell',S];done)|exact Enc.one _ _|exact M.one))));clear h a;intro j1 e1 b9 hz a h;have o5:=b9.size;replace J:=J.fr b9;replace D:=D.fr b9;replace O:=O.fr b9 (by intro J;simp at J;first|exact O.f.ne_blk D J|exact O.f.ne_blk I J|exact O.f.ne_blk D J.symm|exact O.f.ne_blk I J.symm);replace Z:=Z.fr b9 (by intro J;simp at J;first|exact Z.ne_blk D J|exact Z.ne_blk I J|exact Z.ne_blk D J.symm|exact Z.ne_blk I J.symm);replace a0:=a0.fr b9 (by intro J;simp at J;first|exact a0.f.ne_blk D J|exact a0.f.ne_blk I J|exact a0.f.ne_blk D J.symm|exact a0.f.ne_blk I J.symm);replace hC:=hC.sp b9;clear I hz;have I:Blk j1 a2 _ [_,_,_]:=e1;clear e1;refine z0b (z0q ?_);clear hC f4 d4;exact bk (h.sub (L':=[(0,_),(1,_),(4,_),(5,_)]) (.c4 U U U U)) (jE (((a1,a2),m1,m2,m3)) (.c4 U U U U) ⟨(q1.z3 f2 b8 b9),⟨D,I,O,Z,a0⟩⟩);rintro⟨⟨g4,g5⟩,m1,m2,m3⟩ w20 ⟨q20,hV⟩;have o6:=q20.size;have a6:=hV;simp only at hV;refine kpC [(0,_),(1,_),(4,.pointer (some ⟨g4,0,none⟩)),(5,.pointer (some ⟨g5,0,none⟩))] (.c4 U U U U) (sq (sr (fad U x0a (z0i U hV.h U v1a ?_))));replace M:=a5.ext q20;refine x6f (V:=idV) (atE s.rk) U U hV.a underlying137 U (λh2 k9 j4 a3 f9 o7=>(nn (bl ?_)));replace M:=a5.ext (q20.n1 f9);replace hV:=a6.ext f9;refine lpK (ι:=List Hd×List Hd) [(0,_),(1,_),(4,_),(5,_),(24,_)] (λp=>[]) (λp w'=>(p.1++p.2).Perm (z2q s.q.p s.rk)/\(∃u:SV,WkM τw wS ka w' { s with fd:=u } v Us (fd++(((p.1.map Hd.id).filter (u6a (z1s s.fb.ts) v (vwB s.q.p s.rk))).map λi=>(⟨op,2,i⟩:Hz))))/\CmV 141 w' g4 g5 m1 m2 m3 s (vwB s.q.p s.rk)/\FIt idV (atE s.rk) w' h2 m1 (atM (z2q s.q.p s.rk) s.rk) p.2 none) (λp=>p.2.length) ([],(z2q s.q.p s.rk)) (.c5 U U U U U) ⟨List.Perm.refl _,⟨_,by simpa using M⟩,hV,a3⟩ ?_;rintro⟨dn,rm⟩ l0 ⟨a7,⟨u,M⟩,hV,a3⟩;simp only at a7 M hV a3;have a5:=M;have a6:=hV;refine kpC [(0,_),(1,_),(4,_),(5,_),(24,_)] (.c5 U U U U U) ?_;have i2:=hV.a.lt;have i3:=a3.lt;have i4:=a7.length_eq;rw[List.length_append]at i4;have h9:=List.length_filter_le (u6a (z1s s.fb.ts) v (vwB s.q.p s.rk)) (dn.map Hd.id);rw[List.length_map]at h9;refine sr ?_;have e2:=FIt.at a3;refine v7s U a3 U (λl1 c l2 a9 l3 a3 g3 o8=>?_) (λa9=>?_);replace M:=M.it e2 g3 oo oo;have a5:=M;replace hV:=hV.it e2 g3;have a6:=hV;clear e2;refine xt U (nn (sq (ct U ?_)));have b3:((dn++[c])++(l1++l2)).Perm (z2q s.q.p s.rk):=by
  rw[a9]at a7;refine List.Perm.trans ?_ a7;rw[List.append_assoc];exact List.Perm.append_left _ (show (c::(l1++l2)).Perm (l1++c::l2) from List.perm_middle.symm)
 have f6:c∈(z2q s.q.p s.rk):=b3.mem_iff.1 sp0;rw[a9]at a7;obtain⟨j6,f5,_⟩:=x2g hv f6;have h8:=i0 _ (z6g f5);have h7:=hv.nm _ (z6g f5);unfold z5v at h7;refine sk (tn (bl (sr (x8z U a3 U (xt U (al y0b U (λg6 l4 j8 b0 b4 o9=>?_)))))));refine z0k (vs:=[_,_]) U b0 z9m (λl5 b0 b5 p0=>?_) (h1:=(by first|(simp[Value.oneCell',S];done)|exact Enc.one _ _|exact M.one));refine nn (sq (x4j (r:=43) (L':=[(0,_),(1,_),(4,_),(5,_),(6,_),(24,_)]) ((((¬nwT (z1s s.fb.ts) c.id=true)/\(vwB s.q.p s.rk).str c.id=true)/\(¬v.str c.id=true))) (.c6 U U U U U U) ?_ ?_));refine mv U U (z0m U b0 z2w ?_);replace M:=a5.ext (b4.z1 b5);refine cl (ev2 U) (mkC func125) (v3f ka.gw { s with fd:=u } c.id _ M.k M.fb h6 h8) U ?_;rintro _ l6 ⟨rfl,c0⟩;have p1:=c0.size;refine nt' U (mv U U (gs 33 U (λg0=>?_) (λg0=>?_)));refine gY U ?_;replace hV:=a6.ext (b4.z2 b5 c0);refine z0m U hV.h v0k (gY U ?_);replace b0:=b0.ext c0;refine z0m U b0 z2w (gY U (cl (ev2 U) (mkC func126) (v1m (vwB s.q.p s.rk) _ (.map (some m2)) (.map (some m3)) c.id _ hV.va u3s oo) U ?_));rintro _ l7 ⟨rfl,d9⟩;have p2:=d9.size;refine pkt U (mv U U (gs 38 U (λg1=>?_) (λg1=>?_)));refine gY U ?_;replace hV:=a6.ext (b4.z3 b5 c0 d9);refine z0m U hV.b v0k (gY U ?_);replace b0:=b0.ext d9;refine z0m U b0 z2w (gY U ?_);replace M:=a5.ext (b4.z3 b5 c0 d9);refine cl (ev2 U) (mkC func126) (v1m v s.va s.vl s.vm c.id _ M.va i5 oo) U ?_;rintro _ l8 ⟨rfl,g8⟩;have p3:=g8.size;exact gY U (nt' U (pkt U (z8i U (.c6 U U U U U U) (c0.n2 d9 g8))));exact gN U (gN U (gN U (gN U (pkf U (z8i U (.c6 U U U U U U) (c0.n1 d9))))));exact gN U (gN U (gN U (pkf U (mv U U (gN U (gN U (gN U (gN U (pkf U (z8i U (.c6 U U U U U U) c0))))))))));intro j2 c9;have p4:=c9.size;refine tn (cd U (λc1=>?_) (λc1=>?_));refine rg (mv U U (mv U U ?_));replace b0:=b0.ext c9;refine z0m U b0 z2w ?_;replace M:=a5.ext (b4.z2 b5 c9);replace hV:=a6.ext (b4.z2 b5 c9);replace a3:=((a3.ext b4).fr b5 (by intro k J;simp at J;subst J;exact⟨oo,oo⟩)).ext c9;have e0:=M.kp;refine cl (z0a U (z0a U (z0a U (z0a U z0g)))) j3l (y5j wS { ka with wk:=j2 } { s with fd:=u } v Us _ op 2 c.id _ M.mark (by simp only[List.length_append,List.length_map];omega)) U ?_;rintro _ l9 ⟨rfl,u2,d3⟩;have b6:=d3.kp;simp only at b6;have p5:=b6.size;replace hV:=hV.kp M b6 dd dd;replace a3:=KpM.fit b6 a3 (FIt.ne a3 M).1 (FIt.ne a3 M).2;replace M:=d3.unmark e0;clear e0 d3;have a6:=hV;have a5:=M;have J:=M.k;exact kpL [(0,_),(1,_),(4,_),(5,_),(24,_)] (.c5 U U U U U) (nl (bn' (lpE ((dn++[c],l1++l2)) (.c5 U U U U U) ⟨b3,⟨_,by rw[List.map_append,List.map_cons,List.map_nil,z9d,if_pos (by unfold u6a;simp_all),<-List.append_assoc];exact M⟩,hV,a3.no⟩ (by simp only[a9,List.length_append,List.length_cons];omega))));refine sk (bn' ?_);replace M:=a5.ext (b4.z2 b5 c9);replace hV:=a6.ext (b4.z2 b5 c9);replace a3:=((a3.ext b4).fr b5 (by intro k J;simp at J;subst J;exact⟨oo,oo⟩)).ext c9;exact lpE ((dn++[c],l1++l2)) (.c5 U U U U U) ⟨b3,⟨_,by rw[List.map_append,List.map_cons,List.map_nil,z9d,if_neg (by unfold u6a;simp_all),List.append_nil];exact M⟩,hV,a3.no⟩ (by simp only[a9,List.length_append,List.length_cons];omega);refine xt U (nn (sq (cf U ?_)));rw[a9,List.append_nil]at a7;have f8:=a7;refine ex (te (te (xh (tn (sq (sr (fad U x5m (z0i U hV.h U u9a (x6f (V:=ndK) (mnE (vwB s.q.p s.rk)) U U hV.m underlying139 U (λh3 m0 j5 a4 g9 p6=>(nn (bl ?_))))))))))));replace M:=a5.ext g9;replace hV:=a6.ext g9;refine lpK (ι:=List (Int×Int)×List (Int×Int)) [(0,_),(1,_),(4,_),(5,_),(50,_)] (λp=>[]) (λp w'=>(p.1++p.2).Perm (vwB s.q.p s.rk).nds/\(∃u:SV,WkM τw wS ka w' { s with fd:=u } v Us ((fd++(((dn.map Hd.id).filter (u6a (z1s s.fb.ts) v (vwB s.q.p s.rk))).map λi=>(⟨op,2,i⟩:Hz)))++((p.1.filter (j2k v (vwB s.q.p s.rk))).map λn=>(⟨op,3,((vwB s.q.p s.rk).on n).getLast?.getD id0⟩:Hz))))/\CmV 141 w' g4 g5 m1 m2 m3 s (vwB s.q.p s.rk)/\FIt ndK (mnE (vwB s.q.p s.rk)) w' h3 m3 (y0p (vwB s.q.p s.rk)) p.2 none) (λp=>p.2.length) ([],(vwB s.q.p s.rk).nds) (.c5 U U U U U) ⟨List.Perm.refl _,⟨_,by simpa using M⟩,hV,a4⟩ ?_;rintro⟨e4,rm⟩ m4 ⟨a7,⟨u,M⟩,hV,a4⟩;simp only at a7 M hV a4;have a5:=M;have a6:=hV;refine kpC [(0,_),(1,_),(4,_),(5,_),(50,_)] (.c5 U U U U U) ?_;have i2:=hV.m.lt;have i3:=a4.lt;have f7:=a7.length_eq;rw[List.length_append]at f7;have j7:=List.length_filter_le (j2k v (vwB s.q.p s.rk)) e4;refine sr ?_;have e3:=FIt.at a4;refine v7s U a4 U (λl1 c l2 a9 m5 a4 h0 p7=>?_) (λa9=>?_);replace M:=M.it e3 h0 oo oo;have a5:=M;replace hV:=hV.it e3 h0;have a6:=hV;clear e3;refine xt U (nn (sq (ct U ?_)));have b3:((e4++[c])++(l1++l2)).Perm (vwB s.q.p s.rk).nds:=by
  rw[a9]at a7;refine List.Perm.trans ?_ a7;rw[List.append_assoc];exact List.Perm.append_left _ (show (c::(l1++l2)).Perm (l1++c::l2) from List.perm_middle.symm)
 have f6:c∈(vwB s.q.p s.rk).nds:=b3.mem_iff.1 sp0;rw[a9]at a7;refine sk (tn (bl (sr (x8z U a4 U (xt U (xt U (al v7o U (λg7 m6 j9 e5 d0 p8=>?_))))))));refine z0k (vs:=[_,_]) U e5 y6f (λj3 e5 d1 p9=>?_) (h1:=(by first|(simp[Value.oneCell',S];done)|exact Enc.one _ _|exact M.one));refine asg U (nn (sq (rbo (r:=64) (L':=[(0,_),(1,_),(4,_),(5,_),(7,_),(50,_)]) (((3<((vwB s.q.p s.rk).on c).length)/\(((v.on c).length:Int)<=3))) (.c6 U U U U U U) ?_ ?_)));refine mv U U (gt' U (mv U U (gs 58 U (λg2=>?_) (λg2=>?_))));refine gY U (fad U x5m (gY U ?_));replace hV:=a6.ext (d0.z1 d1);refine z0i U hV.b U u9a (gY U (z0m U e5 z4k (gY U ?_)));replace M:=a5.ext (d0.z1 d1);exact v4u (V:=ndK) (k:=c) (f:=z1h (y0p v)) U U M.vm y4f underlying139 zvI (x3h _ _) U (gY U (le' U U (pkt U (rbe U (.c6 U U U U U U)))));exact gN U (gN U (gN U (gN U (gN U (pkf U (rbe U (.c6 U U U U U U)))))));refine tn (cd U (λc3=>?_) (λc3=>?_));refine rg (mv U U (mv U U (fad U v7q ?_)));replace hV:=a6.ext (d0.z1 d1);refine z0i U hV.h U j3u (z0m U e5 z4k (y3w (V:=ndK) (k:=c) (f:=y4z (vwB s.q.p s.rk)) U U hV.l y4f underlying138 j8z (u1g _ _) U ?_));replace M:=a5.ext (d0.z1 d1);replace a4:=(a4.ext d0).fr d1 (by intro k J;simp at J;subst J;exact⟨oo,oo⟩);have e0:=M.kp;refine cl (z0a U (z0a U (z0a U (z0a U z0g)))) j3l (y5j wS { ka with wk:=j3 } { s with fd:=u } v Us _ op 3 (((vwB s.q.p s.rk).on c).getLast?.getD id0) _ M.mark (by simp only[List.length_append,List.length_map];omega)) U ?_;rintro _ m7 ⟨rfl,u2,d3⟩;have b6:=d3.kp;simp only at b6;have q0:=b6.size;replace hV:=hV.kp M b6 dd dd;replace a4:=KpM.fit b6 a4 (FIt.ne a4 M).1 (FIt.ne a4 M).2;replace M:=d3.unmark e0;clear e0 d3;have a6:=hV;have a5:=M;have J:=M.k;exact kpL [(0,_),(1,_),(4,_),(5,_),(50,_)] (.c5 U U U U U) (nl (bn' (lpE ((e4++[c],l1++l2)) (.c5 U U U U U) ⟨b3,⟨_,by rw[z9d,if_pos (by unfold j2k;simp;omega),<-List.append_assoc];exact M⟩,hV,a4.no⟩ (by simp only[a9,List.length_append,List.length_cons];omega))));refine sk (bn' ?_);replace M:=a5.ext (d0.z1 d1);replace hV:=a6.ext (d0.z1 d1);replace a4:=(a4.ext d0).fr d1 (by intro k J;simp at J;subst J;exact⟨oo,oo⟩);exact lpE ((e4++[c],l1++l2)) (.c5 U U U U U) ⟨b3,⟨_,by rw[z9d,if_neg (by unfold j2k;simp;omega),List.append_nil];exact M⟩,hV,a4.no⟩ (by simp only[a9,List.length_append,List.length_cons];omega);refine xt U (nn (sq (cf U ?_)));rw[a9,List.append_nil]at a7;refine ex (te (te (xh (tn (rg (mv U U (z0m U hV.h v0k (nlc U (fad U v6p ?_)))))))));refine z3j (cs':=wtL { s with fd:=u,va:=.map (some m1),vl:=.map (some m2),vm:=.map (some m3) }) U M.k (by intro u hu;simp at hu;rcases hu with rfl|rfl|rfl<;>rfl) v5i U (λm8 i1 i7 r4=>?_);have h5:=M.put τwk (s':={ s with fd:=u,va:=.map (some m1),vl:=.map (some m2),vm:=.map (some m3) }) (v':=(vwB s.q.p s.rk)) i1 i7 M.b hV.va hV.vm U U U M.c6 M.m6 ⟨_,rfl⟩;exact kpL [] .nil (nl (r0n results62  ⟨_,rfl,rfl,_,_,h5,x9o (List.Perm.refl fd) (u2m (f8.map Hd.id)) (u1i a7),rfl,rfl,rfl,rfl,rfl⟩))
theorem x1v (ts:List TQ)(i:LId):z4l (z1s ts) i=decide (i.n+1=((ts.getD (i.y-1).toNat tq0).2.length:Int)/\0<((ts.getD (i.y-1).toNat tq0).2.getD i.n.toNat lq0).ths.length):=by
 have e:(z1s ts).getD (i.y-1).toNat []=(ts.getD (i.y-1).toNat tq0).2.map LpQ.p:=by
  unfold z1s;rw[List.getD,List.getD,List.getElem?_map];cases ts[(i.y-1).toNat]?<;>rfl
 unfold z4l;rw[e];generalize (ts.getD (i.y-1).toNat tq0).2=r;rw[List.length_map,List.getD,List.getD,List.getElem?_map];cases r[i.n.toNat]?<;>rfl
theorem v9m (i:LId)(v:Value)(ts:List TQ)(w0:World)(hs:Sl z4c w0 v ts)(O:TabAt w0 ts)(hl:ts.length=6)(hi:z3p (z1s ts) i):Rets prog 118 #[v,.agg #[.int .u8 i.y,.int .i64 i.n]] w0 λr w'=>r=.bool (z4l (z1s ts) i)/\Fr [] w0 w':=by
 obtain⟨A,c,rfl,b3,hM,hA⟩:=id hs;clear hA;unfold maxLen at hM;have a6:=z5a O;have b7:=a6 (i.y-1).toNat;have b5:=z2d.1 hi;have b6:=z1x (z7i O (y:=(i.y-1).toNat) (n:=i.n.toNat) oo oo).1;have a4:=(O _ (z0y (d:=tq0) (i:=(i.y-1).toNat) oo)).1.len_le;unfold maxLen at a4;refine we [(0,.slice A ts.length c),(1,.agg #[.int .u8 i.y,.int .i64 i.n])] func118 U ntmps118 U (.c2 U U) ?_;have a7:=hs;have a5:=O;refine sr (bx U (λg3 w1 b4 J q1 z1=>(asg U (nn (sq (sq ?_))))));replace hs:=a7.ext q1;replace O:=a5.ext q1;intro a h;refine z0h none (λwb w'=>Fr [] wb w') z2m ?_;intro w2 q2;have z2:=q2.size;replace hs:=hs.ext q2;replace O:=O.ext q2;replace J:=J.ext q2;have hC:Fr [] w2 w2:=Fr.refl _ _;have M:=hs;have a0:=O;have I:=J;refine z0e 0 h U λa h=>z0v 1 h U (λ_ Z=>I.ext Z) z2w U λa h=>z0d 2 U (z0o h (z0a U (z0a U z0g)) (mkC func159) (y9o i _ _ _ hs O oo oo) ?_);rintro _ w3 ⟨rfl,q3⟩ a h;have z3:=q3.size;replace hs:=hs.ext q3;replace O:=O.ext q3;replace J:=J.ext q3;replace hC:=hC.next q3;refine z0b (x3c 3 hC h wn U U U λa h=>z0e 4 h U λa h=>?_);first|refine v5g (D:=9) h U (λhh=>absurd hh (by exact λe=>e hi)) ?_|refine v0h (D:=9) h U (λhh=>absurd hh (by exact λe=>e hi)) ?_
 clear h;intro g0 h;refine z0c 5 h U z6f U ?_ (hG:=(wy U));clear h a;intro a h;refine z0j 6 h U (λ_ Z=>I.ext Z) U na3 U ?_ (hG:=(wy U));clear h a;intro a h;refine z0e 7 h U ?_ (hG:=(wy U));clear h a;intro a h;refine z0c 8 h U z5m U ?_ (hG:=(wy U));clear h a;intro a h;refine z0j 9 h U (λ_ Z=>I.ext Z) U na5 U ?_ (hG:=(wy U));clear h a;intro a h;refine z2t 10 h (wy U) U (by first|exact IntWalk.u8_in _ oo|rfl) U λa h=>z1g (p:=(i.y-1).toNat) (tq0) 11 h U hs U y5z U ?_ (hG:=(wy U));clear h a;intro a8 a1 a h;refine z2u 12 h (wy U) U (λ_ Z=>a1 _ (M.ext Z)) x1u U λa h=>z6l 13 h (wy U) U underlying34 U λa h=>z2t 14 h (wy U) U (by first|exact i6 oo|rfl) U λa h=>u8b 15 hC h (wy U) U U U U λa h=>z0d 16 U (z4b h U U λa h=>?_);refine z0b (z0q ?_);clear hC M a0 I;refine bk (h.sub (L':=[(0,_),(3,_),(21,_)]) (.c3 U U U)) (tn (cd U (λc0=>?_) (λc0=>?_)));refine sr (asg U (nn (rt (tr (r1 results118 U ?_)))));exact⟨_,rfl,congrArg Value.bool (by rw[x1v];exact(decide_eq_false (λe=>by first|omega|(rcases c0 with hh|hh<;>first|exact hh hi|omega))).symm),(q1.n2 q2 q3)⟩;refine sk (tn (sq ?_));intro a h;refine z0h none (λwb w'=>Fr [] wb w') z2m ?_;intro w4 q4;have z4:=q4.size;replace hs:=hs.ext q4;replace O:=O.ext q4;replace J:=J.ext q4;have hC:Fr [] w4 w4:=Fr.refl _ _;have M:=hs;have a0:=O;have I:=J;refine z0e 0 h U λa h=>z0c 1 h U z5m U λa h=>z0j 2 h U (λ_ Z=>I.ext Z) U na5 U λa h=>z2t 3 h wn U (by first|exact IntWalk.u8_in _ oo|rfl) U λa h=>z1g (p:=(i.y-1).toNat) (tq0) 4 h U hs U y5z U λa9 a2 a h=>z2u 5 h wn U (λ_ Z=>a2 _ (M.ext Z)) x1u U λa h=>z0c 6 h U z6f U λa h=>z0j 7 h U (λ_ Z=>I.ext Z) U na3 U λa h=>z1g (p:=i.n.toNat) (lq0) 8 h U (O _ (z0y (d:=tq0) (i:=(i.y-1).toNat) oo)).1 U x9w U λb0 a3 a h=>z0c 9 h U z6b U λa h=>y3y 10 hC h wn U (λ_ Z=>a3 _ ((O _ (z0y (d:=tq0) (i:=(i.y-1).toNat) oo)).1.ext Z)) U z8h U U λa h=>z6l 11 h wn U underlying27 U λa h=>v0z 12 hC h wn U U λa h=>z0d 13 U (z0s h U λa h=>?_);refine z0b (z0q ?_);clear hC M a0 I;refine bk (h.sub (L':=[(4,_)]) (.cons U .nil)) (tn (rt (r1 results118 U ?_)));exact⟨_,rfl,congrArg Value.bool (by rw[x1v];exact decide_eq_decide.2 ⟨λe=>⟨oo,oo⟩,λe=>oo⟩),(q1.n3 q2 q3 q4)⟩
theorem j6n {α:Type}(P:α->Bool){l:List α}{i:Nat}(d:α)(h:i<l.length)(hp:P (l.getD i d)=true):(l.take (i+1)).filter P=(l.take i).filter P++[l.getD i d]:=by
 rw[z1z d h,List.filter_append,List.filter_cons_of_pos hp,List.filter_nil]
theorem j4k {α:Type}(P:α->Bool){l:List α}{i:Nat}(d:α)(h:i<l.length)(hp:P (l.getD i d)=false):(l.take (i+1)).filter P=(l.take i).filter P:=by
 rw[z1z d h,List.filter_append,List.filter_cons_of_neg (by rw[hp];decide),List.filter_nil,List.append_nil]
theorem j2g (q:FbQ)(w0:World)(J:FbAt w0 q)(h6:q.ts.length=6)(hu:∀i∈q.fs,z3p (z1s q.ts) i)(hfl:q.fs.length<=100000):Rets prog 60 #[.agg #[.slice q.t.1 q.t.2.1 q.t.2.2,.slice q.c.1 q.c.2.1 q.c.2.2,.slice q.h.1 q.h.2.1 q.h.2.2,.slice q.f.1 q.f.2.1 q.f.2.2]] w0 λr w'=>∃A n,r=.slice A n n/\Lw.Own z1f 73 w0.heap.size w' r (q.fs.filter λi=>!z4l (z1s q.ts) i)/\Fr [] w0 w':=by
 have b7:=J.len;have hM:=J.f.len_le;unfold maxLen at hM;refine we [(0,.agg #[.slice q.t.1 q.t.2.1 q.t.2.2,.slice q.c.1 q.c.2.1 q.c.2.2,.slice q.h.1 q.h.2.1 q.h.2.2,.slice q.f.1 q.f.2.1 q.f.2.2])] func60 U ntmps60 U (.cons U .nil) ?_;have a0:=J;refine sr (bx U (λg1 w1 b4 M q1 z1=>(asg U ?_)));have a1:=M;refine nn (sr (asg U (nn (sq (sr (fad U y6x (z0i U M U z8h (lnS U underlying27 (mv U U (nn (bl (lpK (ι:=Nat×Value) [(1,_),(7,_),(8,_)] (λp=>[(9,.int .i64 (p.1:Int)),(3,p.2)]) (λp w'=>Fr [] w1 w'/\p.1<=q.fs.length/\Lw.Own z1f 73 w1.heap.size w' p.2 ((q.fs.take p.1).filter λi=>!z4l (z1s q.ts) i)) (λp=>q.fs.length-p.1) (0,_) (.c5 U U U U U) ⟨(Fr.refl _ _),⟨Nat.zero_le _,by rw[List.take_zero];exact Own.nil _⟩⟩ ?_))))))))))));rintro⟨i,vP⟩ w2 ⟨q2,⟨a5,I⟩⟩;simp only at a5 I;have z2:=q2.size;refine kpC [(1,_),(7,_),(8,_),(9,.int .i64 (i:Int)),(3,vP)] (.c5 U U U U U) ?_;have a9:=List.length_filter_le (λi=>!z4l (z1s q.ts) i) (q.fs.take i);have b8:(q.fs.take i).length<=i:=by rw[List.length_take];omega
 refine sr (lt' U (nn (sq (cd U (λc0=>?_) (λc0=>?_)))));have a7:=hu _ (z0y (d:=id0) (i:=i) (l:=q.fs) oo);refine sk (tn (sq (bl (sr ?_))));replace J:=a0.ext (q1.n1 q2);refine z1d (id0) U J.f U z4u z1i (λa8 a2=>?_);refine z1k U (a2 _ J.f) z2w (al y0b U (λg5 w3 b5 D q3 z3=>?_));refine z0k (vs:=[_,_]) U D z9m (λw4 D q4 z4=>?_) (h1:=(by first|(simp[Value.oneCell',S];done)|exact z1f.one _));refine nn (sr (fad U z9q ?_));replace M:=a1.ext (q2.z2 q3 q4);refine z0i U M U x3s (z0m U D z2w ?_);replace J:=a0.ext (q1.z3 q2 q3 q4);refine cl (ev2 U) (mkC func118) (v9m (q.fs.getD i id0) _ _ _ J.t J.tt h6 a7) U ?_;rintro _ w5 ⟨rfl,q5⟩;have z5:=q5.size;refine nt' U (nn (cd U (λc1=>?_) (λc1=>?_)));refine rg (mv U U ?_);replace D:=D.ext q5;refine z0m U D z2w (z2i ([(q.fs.getD i id0)]) (ev1 U) U z4u (λb3 w6 b0 a3 q6 z6=>?_));replace I:=((I.ext q3).fr q4 (by first|exact z7z I oo|simp[z0u]<;>omega)).ext (q5.n1 q6);have Z:=I;refine z2b U I a3.sl z4u (by unfold maxLen;simp only[List.length_cons,List.length_nil];omega) (by simp only[List.length_cons,List.length_nil];omega) (λb9 w7 I q7 a6=>?_);have z7:=q7.size;exact asg U (kpL [(1,_),(3,_),(7,_),(8,_),(9,_)] (.c5 U U U U U) (nl (bn' (tn (rg (z0z U (wi6 oo) (mv U U (nl (lpE ((i+1,_)) (.c5 U U U U U) ⟨((q2.z4 q3 q4 q5 q6).step q7 (λk hk b6=>absurd (Z.blk k hk).1 oo)),⟨sm,by rw[j6n _ id0 oo (by simpa using c1)];exact I⟩⟩ sm)))))))));refine sk (bn' (tn (rg (z0z U (wi6 oo) (mv U U (nl ?_))))));replace I:=((I.ext q3).fr q4 (by first|exact z7z I oo|simp[z0u]<;>omega)).ext q5;exact lpE ((i+1,_)) (.c5 U U U U U) ⟨(q2.z3 q3 q4 q5),⟨sm,by rw[j4k _ id0 oo (by simpa using c1)];exact I⟩⟩ sm;obtain rfl:i=q.fs.length:=by omega
 refine ex (te (te (xh (tn (sr (mv U U (cl (ev1 U) (mkC func119) (v0d _ ((q.fs.take q.fs.length).filter λi=>!z4l (z1s q.ts) i) _ I.sl oo) U ?_)))))));rintro _ w8 ⟨a4,rfl,O,q8⟩;have z8:=q8.size;exact asg U (kpL [(2,_)] (.cons U .nil) (nn (rt (r1 results60 U ⟨_,rfl,a4,_,rfl,by rw[List.take_length]at O ⊢;exact O.low oo,(q1.n2 q2 q8)⟩))))
end Go.Proofs.YtjilcnmaefhmeaaGreatDoor
namespace Go.G09
open Go.Lw Go.G21 Go.G08
def v5f (k:Int):List UInt8:=if k=1 then [102,108,111,97,116] else if k=2 then [115,116,114,101,116,99,104] else if k=3 then [104,111,111,107] else if k=4 then [117,110,100,111,110,101] else if k=5 then [114,101,115,116] else []
def j4t (h:Hz):Prop:=0<=h.o/\(1<=h.k/\h.k<=5)/\z5v h.id
instance (h:Hz):Decidable (j4t h):=by unfold j4t;infer_instance
def hzT (h:Hz):List UInt8:=if j4t h then Lib.itoa h.o++32::(v5f h.k++32::(Lib.itoa h.id.y++46::Lib.itoa h.id.n)) else []
def x3u (l:List Hz):List UInt8:=l.flatMap λh=>hzT h++[59]
theorem y7v {n:Int}(h:0<=n/\n<100):Lib.itoa n=u0r n.toNat:=by
 rw[v3g oo];unfold x3v;rw[if_neg oo]
def j8x (h:Hz):List UInt8:=u0r h.o.toNat++32::(v5f h.k++32::(u0r h.id.y.toNat++46::u0r h.id.n.toNat))
def j7u (h:Hz):Prop:=j4t h/\h.o<100/\h.id.n<100
instance (h:Hz):Decidable (j7u h):=by unfold j7u;infer_instance
theorem u7v {h:Hz}(O:j7u h):hzT h=j8x h:=by
 obtain⟨I,J,M⟩:=O;have D:=I;obtain⟨a,b,c,d,e,f⟩:=D;unfold hzT j8x;rw[if_pos I,y7v ⟨a,J⟩,y7v (n:=h.id.y) oo,y7v ⟨e,M⟩]
theorem y3t:∀ {l:List Hz},(∀h∈l,j7u h)->x3u l=l.flatMap λh=>j8x h++[59]
 | [],_=>rfl
 | h::l,hs=>by
  unfold x3u
  rw[List.flatMap_cons,List.flatMap_cons,u7v (hs h (List.mem_cons_self ..))]
  congr 1
  exact y3t λx D=>hs x (List.mem_cons_of_mem _ D)
theorem y0t {l:List Hz}(h:∀i,i<l.length->∀j,j<i->y0q (l.getD j hz0) (l.getD i hz0)<0):l.Pairwise λa b=>y0q a b<0:=List.pairwise_iff_getElem.2 λi j J I D=>by
 have:=h j I i D
 rwa [List.getD,List.getD,List.getElem?_eq_getElem J,List.getElem?_eq_getElem I]at this
def hpTA:List UInt8:=[105,110,32,49,32,108,101,102,116,10,107,110,105,116,32,114,105,103,104,116,32,102,49,32,49,10,107,110,105,116,32,114,105,103,104,116,32,102,56,32,49,10,107,110,105,116,32,114,105,103,104,116,32,102,57,32,49]
def j2p:List MOp:=[⟨1,0,0,0,1,0⟩,⟨4,1,0,1,1,0⟩,⟨4,1,0,8,1,0⟩,⟨4,1,0,9,1,0⟩]
theorem hprA:x4q hpTA=(j2p,0,0):=by decide +kernel
def k0g:MSt:=okM (z3y 0 G08.start j2p)
theorem hrnA:z3y 0 G08.start j2p=.ok k0g:=x7u (by decide +kernel)
def j4i:List Hz:=[⟨2,1,⟨1,1⟩⟩,⟨2,2,⟨1,1⟩⟩,⟨4,5,⟨1,0⟩⟩,⟨4,5,⟨1,1⟩⟩,⟨4,5,⟨1,2⟩⟩]
theorem hhaA:y6w (x0j j2p k0g)=j4i:=by
 rw[show x0j j2p k0g=j4i by decide +kernel];exact y0i (y0t dd)
theorem hhtA:x3u j4i=[50,32,102,108,111,97,116,32,49,46,49,59,50,32,115,116,114,101,116,99,104,32,49,46,49,59,52,32,114,101,115,116,32,49,46,48,59,52,32,114,101,115,116,32,49,46,49,59,52,32,114,101,115,116,32,49,46,50,59]:=(y3t dd).trans (by decide +kernel)
def hpTB:List UInt8:=[105,110,32,49,32,108,101,102,116,10,107,110,105,116,32,114,105,103,104,116,32,102,49,32,49,10,107,110,105,116,32,114,105,103,104,116,32,102,55,32,49,10,107,110,105,116,32,114,105,103,104,116,32,102,57,32,49]
def j2m:List MOp:=[⟨1,0,0,0,1,0⟩,⟨4,1,0,1,1,0⟩,⟨4,1,0,7,1,0⟩,⟨4,1,0,9,1,0⟩]
theorem hprB:x4q hpTB=(j2m,0,0):=by decide +kernel
def j8v:MSt:=okM (z3y 0 G08.start j2m)
theorem hrnB:z3y 0 G08.start j2m=.ok j8v:=x7u (by decide +kernel)
def j4e:List Hz:=[⟨4,5,⟨1,0⟩⟩,⟨4,5,⟨1,1⟩⟩,⟨4,5,⟨1,2⟩⟩]
theorem hhaB:y6w (x0j j2m j8v)=j4e:=by
 rw[show x0j j2m j8v=j4e by decide +kernel];exact y0i (y0t dd)
theorem hhtB:x3u j4e=[52,32,114,101,115,116,32,49,46,48,59,52,32,114,101,115,116,32,49,46,49,59,52,32,114,101,115,116,32,49,46,50,59]:=(y3t dd).trans (by decide +kernel)
def hpTC:List UInt8:=[105,110,32,49,32,108,101,102,116,10,107,110,105,116,32,114,105,103,104,116,32,102,49,32,49,10,100,114,111,112,32,102,49]
def j2s:List MOp:=[⟨1,0,0,0,1,0⟩,⟨4,1,0,1,1,0⟩,⟨8,0,0,1,0,0⟩]
theorem hprC:x4q hpTC=(j2s,0,0):=by decide +kernel
def j8g:MSt:=okM (z3y 0 G08.start j2s)
theorem hrnC:z3y 0 G08.start j2s=.ok j8g:=x7u (by decide +kernel)
def j4o:List Hz:=[⟨2,4,⟨1,0⟩⟩]
theorem hhaC:y6w (x0j j2s j8g)=j4o:=by
 rw[show x0j j2s j8g=j4o by decide +kernel];exact y0i (y0t dd)
theorem hhtC:x3u j4o=[50,32,117,110,100,111,110,101,32,49,46,48,59]:=(y3t dd).trans (by decide +kernel)
def hpTD:List UInt8:=[105,110,32,49,32,108,101,102,116,10,107,110,105,116,32,114,105,103,104,116,32,102,49,32,49,10,107,110,105,116,32,108,101,102,116,32,102,49,32,49,10,100,114,111,112,32,102,49,10,111,117,116,32,49]
def j2r:List MOp:=[⟨1,0,0,0,1,0⟩,⟨4,1,0,1,1,0⟩,⟨4,0,0,1,1,0⟩,⟨8,0,0,1,0,0⟩,⟨2,0,0,0,1,0⟩]
theorem hprD:x4q hpTD=(j2r,0,0):=by decide +kernel
def k0i:MSt:=okM (z3y 0 G08.start j2r)
theorem hrnD:z3y 0 G08.start j2r=.ok k0i:=x7u (by decide +kernel)
def j8d:List Hz:=[]
theorem hhaD:y6w (x0j j2r k0i)=j8d:=by
 rw[show x0j j2r k0i=j8d by decide +kernel];exact y0i (y0t dd)
theorem x4g {p:MSt}{y a b e:Int}(h:y3j p y a b=.error e):e≠0:=by
 unfold y3j at h;split at h;rename_i D;cases h;exact D;cases h
theorem v7i {p:MSt}{o:MOp}{t s:List LId}{e:Int}(h:x0h p o t s=.error e):e≠0:=by
 unfold x0h at h;split at h;rename_i D;cases h;exact D;split at h;cases h;decide;cases h
theorem x1t {p:MSt}{d e:Int}:∀ {l:List Yn},z4v p d l=.error e->e≠0
 | [],h=>by cases h
 | y::l,h=>by
  unfold z4v at h;split at h
  ·rename_i I D
   cases h
   unfold z8g at D;split at D
   ·cases D
   split at D
   ·rename_i J;cases D;exact J
   cases D
  split at h
  ·rename_i I D
   cases h;exact x1t D
  cases h
theorem x7r {e:Int}:∀ {r l:List Cx},z5y l r=.error e->e≠0
 | [],l,h=>by cases h
 | c::r,l,h=>by
  unfold z5y at h;split at h
  ·rename_i I D
   cases h
   unfold x2n at D
   simp only at D
   generalize (if 0<z6n c.a c.b then (c.b,c.a) else (c.a,c.b))=k at D
   by_cases c1:y6g l k.1 k.2+c.n < -1048576\/1048576<y6g l k.1 k.2+c.n
   ·rw[if_pos c1]at D;cases D;decide
   rw[if_neg c1]at D;split at D<;>cases D
  exact x7r h
theorem x6o {r e:Int}:∀ {n:Nat} {p:MSt},z4y n p r=.error e->e≠0
 | 0,p,h=>by cases h
 | n+1,p,h=>by
  unfold z4y at h;split at h
  ·cases h
  split at h
  ·rename_i M D
   cases h
   unfold z8p at D;split at D
   ·rename_i J I;cases D;exact x1t I
   split at D
   ·rename_i J I;cases D;exact x7r I
   cases D
  exact x6o h
theorem j9e {p:MSt}{o:MOp}{e:Int}(h:doM p o=.error e):e≠0:=by
 unfold doM at h;split at h;rename_i D;cases h;exact D;unfold opM at h;split at h;unfold inM at h;split at h;rename_i D;cases h;exact D;cases h;split at h;unfold v0s at h;split at h;rename_i D;cases h;exact D;cases h;split at h;exact x6o h;split at h;unfold y2k at h;split at h;rename_i D;cases h;exact D;split at h;rename_i J I;cases h;exact x4g I;exact v7i h;split at h;unfold y0v at h;split at h;rename_i D;cases h;exact D;split at h;rename_i J I;cases h;exact x4g I;split at h;cases h;decide;exact v7i h;split at h;unfold y5m at h;split at h;rename_i D;cases h;exact D;exact x4g h;split at h;unfold z9l at h;split at h;cases h;decide;split at h;cases h;decide;split at h;cases h;decide;split at h;cases h;decide;cases h;unfold y3h at h;split at h;cases h;decide;cases h
theorem u4s {e:Int}{n:Nat}:∀ {l:List MOp} {i:Nat} {p:MSt},z3y i p l=.error (e,n)->e≠0
 | [],i,p,h=>by cases h
 | o::l,i,p,h=>by
  unfold z3y at h;split at h
  ·rename_i I D;cases h;exact j9e D
  exact u4s h
structure RepI (l:List MOp) (qf:MSt) (Us:List LId) (i:Nat) (p:MSt) (t:Wt):Prop where
  run:z3y 0 G08.start (l.take i)=.ok p
  te:t=x4f qf.tb Us 0 G08.start wt0 (l.take i)
  v:MVal p
  md:∀j,j<6->-1000<=t.md.getD j 0/\t.md.getD j 0<=1000
  vw:∀(j:LId) (x:Int),t.vw.pos j=some x->-1000<=x/\x<=1000
  len:t.fd.length<=700*i
theorem RepI.zero (l:List MOp)(I:MSt)(Us:List LId):RepI l I Us 0 G08.start wt0:=
 ⟨rfl,rfl,y5t,λj D=>by
  have e:wt0.md.getD j 0=0:=by
   show (List.replicate 6 (0:Int)).getD j 0=0
   rw[List.getD,List.getElem?_replicate,if_pos D];rfl
  rw[e];omega,λj x h=>(by cases h),Nat.zero_le _⟩
theorem j3i (T:Tb)(Us:List LId)(op:Int)(o:MOp)(p:MSt)(t:Wt):(doH T Us op o p t).vw=t.vw:=by
 unfold doH;(repeat' split)<;>rfl
theorem j4a (T:Tb)(Us:List LId)(op:Int)(o:MOp)(p:MSt){t t':Wt}(h:t.md=t'.md):(doH T Us op o p t).md=(doH T Us op o p t').md:=by
 unfold doH;(repeat' split)<;>simp[h]
theorem u2s {T:Tb}{Us:List LId}{op:Int}{o:MOp}{p:MSt}{t t':Wt}(h:t.md=t'.md)(hp:t.fd.Perm t'.fd):(doH T Us op o p t).fd.Perm (doH T Us op o p t').fd:=by
 unfold doH;split;simp only[h];exact hp.append_right _;split;exact hp.append_right _;exact hp
theorem v2w {B:Bd}(h:BdOk B)(r:Int):(vwB B r).l.length<=320:=by
 rw[u4o];exact y2f h
theorem u7q {T:Tb}{v:Vw}{B:Bd}{r op:Int}(h:BdOk B):(j1d T v (vwB B r) op).length<=320/\(j0j v (vwB B r) op).length<=320:=by
 have D:=v2w h r;have I:=v1w (vwB B r);constructor;unfold j1d;rw[List.length_map];refine Nat.le_trans (List.length_filter_le _ _) ?_;rw[List.length_map];exact D;unfold j0j;rw[List.length_map];exact Nat.le_trans (List.length_filter_le _ _) oo
theorem u4f {T:Tb}{Us:List LId}{op:Int}{o:MOp}{p:MSt}{t:Wt}(h:BdOk p.B):(doH T Us op o p t).fd.length<=t.fd.length+4:=by
 unfold doH;split;simp only[List.length_append];have:(u5h T op o p t.md).length<=1:=by unfold u5h;split<;>simp
 omega;split;simp only[List.length_append];have:(j0g Us op o p).length<=4:=by
  unfold j0g;rw[List.length_map];exact Nat.le_trans (List.length_filter_le _ _) (z9r h _ _)
 omega;omega
theorem u1y {l:List Int}(h:∀j,j<6->-1000<=l.getD j 0/\l.getD j 0<=1000){k:Nat}{x:Int}(I:-1000<=x/\x<=1000):∀j,j<6->-1000<=(l.set k x).getD j 0/\(l.set k x).getD j 0<=1000:=λj D=>by
 rw[List.getD,List.getElem?_set]
 split
 ·split
  ·exact I
  exact⟨dd,dd⟩
 exact h j D
theorem u0t {l:List MOp}{M p:MSt}{i:Nat}(hf:z3y 0 G08.start l=.ok M)(I:i<l.length)(J:z3y 0 G08.start (l.take i)=.ok p):∃q,doM p (l.getD i op0)=.ok q/\z3y 0 G08.start (l.take (i+1))=.ok q/\PfT q.tb M.tb:=by
 have O:l=l.take i++(l.getD i op0::l.drop (i+1)):=by
  rw[List.getD,List.getElem?_eq_getElem I,Option.getD_some,<-List.drop_eq_getElem_cons I,List.take_append_drop]
 have D:=hf;rw[O,y8y,J]at D;simp only[z3y]at D;cases hd:doM p (l.getD i op0) with
 | error e=>rw[hd]at D;cases D
 | ok q=>
  rw[hd]at D;refine⟨q,rfl,?_,u4y D⟩;rw[z1z op0 I,y8y,J];simp only[z3y];rw[hd]
theorem RepI.step {l:List MOp}{qf p:MSt}{Us:List LId}{i:Nat}{t:Wt}(h:RepI l qf Us i p t)(hf:z3y 0 G08.start l=.ok qf)(hi:i<l.length) :
    ∃q,doM p (l.getD i op0)=.ok q/\RepI l qf Us (i+1) q (y3i qf.tb Us i (l.getD i op0) p q t)/\(∀k∈q.B.flat,z3p qf.tb k)/\(y2x (l.getD i op0)->z3p qf.tb (v1i p (l.getD i op0))):=by
  obtain⟨q,hd,hr,hp⟩:=u0t hf hi h.run
  have hq:=v5k h.v hd
  have hb:=hq.inv.B
  have has:∀ {k:LId},z3p q.tb k->z3p qf.tb k:=λ{k} hk=>by
    obtain⟨h1,h2,h3,h4⟩:=hk
    have hL:=(x4i y5t hf).inv.lt
    have hL2:=hq.inv.lt
    refine⟨h1,oo,h3,?_⟩
    have:=(hp (k.y-1).toNat).length_le
    have e1:z3a q.tb (k.y-1).toNat=(q.tb.getD (k.y-1).toNat []).length:=rfl
    have e2:z3a qf.tb (k.y-1).toNat=(qf.tb.getD (k.y-1).toNat []).length:=rfl
    omega
  refine⟨q,hd,⟨hr,?_,hq,?_,?_,?_⟩,λk hk=>has (hq.inv.has k hk),λhm=>has (j4l h.v hd hm)⟩
  · have hl:(l.take i).length=i:=List.length_take_of_le oo
    rw[z1z op0 hi,x8w h.run,hl,<-h.te,Nat.zero_add,x4f,hd]
    rfl
  · unfold y3i
    split
    · exact h.md
    · unfold j5m doH
      simp only
      split
      · have:=y8j (l.getD i op0).b (l.getD i op0).p p.rk
        exact u1y h.md oo
      · split<;>exact h.md
  · unfold y3i
    split
    · exact h.vw
    · exact u3s
  · have h1:=h.len
    unfold y3i
    split
    · omega
    · unfold j5m
      have h2:=u4f (T:=qf.tb) (Us:=Us) (op:=(i:Int)) (o:=l.getD i op0) (t:=t) h.v.inv.B
      obtain⟨h3,h4⟩:=u7q (T:=qf.tb) (v:=(doH qf.tb Us i (l.getD i op0) p t).vw) (r:=q.rk) (op:=(i:Int)) hb
      simp only[List.length_append]
      omega
theorem RepI.done {l:List MOp}{D p:MSt}{Us:List LId}{i:Nat}{t:Wt}(h:RepI l D Us i p t)(hf:z3y 0 G08.start l=.ok D)(M:i=l.length):p=D/\t=x4f D.tb Us 0 G08.start wt0 l:=by
 subst M;have I:=h.run;have J:=h.te;rw[List.take_length]at I J;rw[I]at hf;cases hf;exact⟨rfl,J⟩
theorem j2a (q:MSt)(i:LId):i∈(z7n q.fa).filter (λi=>!z4l q.tb i)↔i∈j9a q:=by
 unfold j9a;rw[List.mem_filter,List.mem_filter,(z5i q.fa).mem_iff]
theorem u4d {T:Tb}{Us D:List LId}(h:∀i,i∈Us↔i∈D):∀ {l:List MOp} {i:Nat} {p:MSt} {s:Wt},x4f T Us i p s l=x4f T D i p s l
 | [],i,p,s=>rfl
 | o::l,i,p,s=>by
  rw[x4f,x4f]
  cases doM p o with
  | error e=>rfl
  | ok q=>
   simp only
   have e:y3i T Us i o p q s=y3i T D i o p q s:=by
    unfold y3i
    split
    ·rfl
    congr 1
    unfold doH
    split
    ·rfl
    split
    ·congr 2
     unfold j0g
     congr 1
     exact List.filter_congr λx _=>decide_eq_decide.2 (h x)
    rfl
   rw[e];exact u4d h
end Go.G09
namespace Go.Proofs.YtjilcnmaefhmeaaGreatDoor
open Go.Lw Go.G21 Go.G08 _root_.Go.Proofs.Tryz
theorem y6c:ElemOf prog 25 47 z7y 40:=ElemOf.mk' (z:=(.agg #[.int .u8 0,.int .u8 0,.int .u8 0,.int .i64 0,.int .u8 0,.int .i64 0])) underlying25 kr U
theorem u2y:z1r prog 47 6:=λ_=>kr
theorem u2g (w:World):(zeroValue 47).run prog w=.ok (.agg #[(.int .u8 0),(.int .u8 0),(.int .u8 0),(.int .i64 0),(.int .u8 0),(.int .i64 0)]) w:=kr
theorem x6w {D p q:MSt}{o:MOp}:∀ {l:List MOp} {i:Nat},z3y i D l=.ok p->doM p o=.ok q->z3y i D (l++[o])=.ok q
 | [],i,h,h2=>by cases h;show z3y i D [o]=_;unfold z3y;rw[h2];rfl
 | x::l,i,h,h2=>by
  unfold z3y at h
  show z3y i D (x::(l++[o]))=_
  unfold z3y
  split at h
  ·cases h
  rename_i J I
  exact x6w h h2
theorem v4n {D p:MSt}{e:Int}{o:MOp}:∀ {l r:List MOp} {i:Nat},z3y i D l=.ok p->doM p o=.error e->z3y i D (l++o::r)=.error (e,i+l.length)
 | [],r,i,h,h2=>by cases h;show z3y i D (o::r)=_;unfold z3y;rw[h2];rfl
 | x::l,r,i,h,h2=>by
  unfold z3y at h
  show z3y i D (x::(l++o::r))=_
  unfold z3y
  split at h
  ·cases h
  rename_i J I
  have:=v4n (r:=r) h h2
  simp only[this,List.length_cons]
  congr 2;omega
theorem u9l (s:StQ)(v:Value)(l:List MOp)(p0:MSt)(w0:World)(hS:StAt w0 s)(d4:StSz s)(d7:(s.fb.cs.map cxK).Nodup)(b4:p0=(⟨s.rk,⟨trimB (plB s.q.fs),trimB (plB s.q.bs)⟩,s.ys.map YQ.p,z1s s.fb.ts,s.fb.cs,s.fb.fs⟩:MSt))(d9:MInv p0)(hv:Sl z7y w0 v l)(d5:StT w0)(f9:l.length<=4096)(b0:∀w,StAt w s->Rets prog 17 #[.agg #[.int .i64 s.rk,.slice s.q.f.1 s.q.f.2.1 s.q.f.2.2,.slice s.q.b.1 s.q.b.2.1 s.q.b.2.2,.slice s.yv.1 s.yv.2.1 s.yv.2.2,.slice s.fb.t.1 s.fb.t.2.1 s.fb.t.2.2,.slice s.fb.c.1 s.fb.c.2.1 s.fb.c.2.2,.slice s.fb.h.1 s.fb.h.2.1 s.fb.h.2.2,.slice s.fb.f.1 s.fb.f.2.1 s.fb.f.2.2]] w λr w'=>r=.int .i64 0/\Fr [] w w')(d6:∀p,z3y 0 p0 l=.ok p->p.cr.length<=100000000):Rets prog 13 #[.agg #[.int .i64 s.rk,.slice s.q.f.1 s.q.f.2.1 s.q.f.2.2,.slice s.q.b.1 s.q.b.2.1 s.q.b.2.2,.slice s.yv.1 s.yv.2.1 s.yv.2.2,.slice s.fb.t.1 s.fb.t.2.1 s.fb.t.2.2,.slice s.fb.c.1 s.fb.c.2.1 s.fb.c.2.2,.slice s.fb.h.1 s.fb.h.2.1 s.fb.h.2.2,.slice s.fb.f.1 s.fb.f.2.1 s.fb.f.2.2],v] w0 λr w'=>(match z3y 0 p0 l with|.error (e,n)=>r=.tuple #[.agg #[.int .i64 0,.slice none 0 0,.slice none 0 0,.slice none 0 0,.slice none 0 0,.slice none 0 0,.slice none 0 0,.slice none 0 0],.int .i64 (n:Int),.int .i64 e]|.ok p=>∃s':StQ,r=.tuple #[.agg #[.int .i64 s'.rk,.slice s'.q.f.1 s'.q.f.2.1 s'.q.f.2.2,.slice s'.q.b.1 s'.q.b.2.1 s'.q.b.2.2,.slice s'.yv.1 s'.yv.2.1 s'.yv.2.2,.slice s'.fb.t.1 s'.fb.t.2.1 s'.fb.t.2.2,.slice s'.fb.c.1 s'.fb.c.2.1 s'.fb.c.2.2,.slice s'.fb.h.1 s'.fb.h.2.1 s'.fb.h.2.2,.slice s'.fb.f.1 s'.fb.f.2.1 s'.fb.f.2.2],.int .i64 (l.length:Int),.int .i64 0]/\StO τd 117 w0.heap.size w' s'/\s'.p=stM p)/\Fr [] w0 w':=by
 obtain⟨A,c,rfl,f4,d1,hA⟩:=id hv;clear hA;unfold maxLen at d1;refine we [(0,.agg #[.int .i64 s.rk,.slice s.q.f.1 s.q.f.2.1 s.q.f.2.2,.slice s.q.b.1 s.q.b.2.1 s.q.b.2.2,.slice s.yv.1 s.yv.2.1 s.yv.2.2,.slice s.fb.t.1 s.fb.t.2.1 s.fb.t.2.2,.slice s.fb.c.1 s.fb.c.2.1 s.fb.c.2.2,.slice s.fb.h.1 s.fb.h.2.1 s.fb.h.2.2,.slice s.fb.f.1 s.fb.f.2.1 s.fb.f.2.2]),(1,.slice A l.length c)] func13 U ntmps13 U (.c2 U U) ?_;have a7:=hS;have e4:=hv;refine sr (bx U (λg2 w1 f5 I q1 z1=>(al j7t U (λg4 w2 f6 D q2 z2=>(asg U (asg U (nn (sq (sr (mv U U (lnS U underlying25 (gt' U (nn (cd U (λc0=>?_) (λc0=>?_)))))))))))))));refine sr (z1p (cs:=[_,_,_,_,_,_,_,_]) z0g u0h z0p U ?_);refine z0k (vs:=[_,_,_,_,_,_,_,_]) U D v4d (λw3 D q3 z3=>(asg U (asg U (nn (rt (tr (j7v results13 U D v1j U U ?_)))))));exfalso;omega;refine sk (tn (sq (sr ?_)));replace I:=I.ext q2;refine z0m U I v1j ?_;replace hS:=a7.ext (q1.n1 q2);refine cl (ev1 U) (mkC func17) (b0 _ hS) U ?_;rintro _ w4 ⟨rfl,q4⟩;have z4:=q4.size;refine asg U (nn (sr (mv U U (ne' U (nn (cd U (λc1=>?_) (λc1=>?_)))))));refine sr (z1p (cs:=[_,_,_,_,_,_,_,_]) z0g u0h z0p U ?_);refine mv U U ?_;replace D:=D.ext q4;exact z0k (vs:=[_,_,_,_,_,_,_,_]) U D v4d (λw5 D q5 z5=>(asg U (asg U (kpL [(4,_),(5,_),(6,_)] (.c3 U U U) (nn (rt (tr (j7v results13 U D v1j U U (absurd U (by assumption))))))))));refine sk (tn (sr ?_));replace I:=I.ext q4;refine z0m U I v1j ?_;replace hS:=a7.ext (q1.n2 q2 q4);replace D:=D.ext q4;refine cl (z0a U z0g) (mkC func39) (u8t s _ hS d4 d7) U ?_;rintro _ w6 ⟨ka,m,rfl,J,b3⟩;have q6:=J.fr.fr;have z6:=q6.size;have a0:=D;have f1:=J.c.lt;have a1:=J;refine cl z0g (mkC func40) (u7m _) U ?_;rintro _ w7 ⟨⟨gl,rfl,f7,hl⟩,q7⟩;have z7:=q7.size;refine asg U (asg U (kpL [(1,_),(4,_),(8,_),(9,_)] (.c4 U U U U) (nn (sq (sr (mv U U (lnS U underlying25 (mv U U (nn (bl ?_))))))))));replace J:=a1.ext q7;refine lpK (ι:=Nat) [(1,_),(4,_),(8,_),(9,_),(26,_),(27,_)] (λi=>[(28,.int .i64 (i:Int))]) (λi w'=>Fr [] w4 w'/\i<=l.length/\∃m:MQ,MkM τd 183 w4 ka w' m/\z3y 0 p0 (l.take i)=.ok m.p/\MInv m.p/\MapF kV w' gl j5i) (λi=>l.length-i) 0 (.c7 U U U U U U U) ⟨(q6.n1 q7),⟨Nat.zero_le _,m,J,by rw[b3,<-b4];rfl,by rw[b3,<-b4];exact d9,hl⟩⟩ ?_;rintro i w8 ⟨q8,⟨f8,m,J,O,a2,hl⟩⟩;have z8:=q8.size;have a1:=J;refine kpC [(1,_),(4,_),(8,_),(9,_),(26,_),(27,_),(28,_)] (.c7 U U U U U U U) ?_;have f2:gl<w8.heap.size:=by obtain⟨_,_,_,b8,_⟩:=hl;exact(Array.getElem?_eq_some_iff.1 b8).1
 refine sr (lt' U (nn (sq (cd U (λc2=>?_) (λc2=>?_)))));have a4:i<l.length:=by omega
 refine sk (tn (sq (bl (sr (mv U U ?_)))));replace hv:=e4.ext (q1.n3 q2 q4 q8);refine z1d (op0) U hv U y6c z1i (λe9 a9=>?_);refine z1k U (a9 _ hv) y3g (al u2g U (λf3 w9 f0 M q9 z9=>(asg U (z0k (vs:=[_,_,_,_,_,_]) U M u2y (λe6 M b5 g6=>(nn (sr (mv U U (mv U U (z0m U M y3g ?_))))))))));replace J:=a1.ext (q9.z1 b5);replace hl:=(hl.ext q9).fr b5 (by simp only[List.mem_singleton];omega);have d0:=J.fr;refine cl (z0a U (z0a U (z0a U z0g))) (mkC func41) (j4x w4 { ka with wk:=e6 } m (l.getD i op0) gl _ J.mark a2 (d5.ext (q1.n2 q2 q4)) hl) U ?_;intro _ g0 hR;obtain⟨rfl,Z,m1,e0⟩:=hR.split;have e8:=Z.kp.size;simp only at e8;have b6:=Z.fr;replace hl:=Z.kp.mapF hl sm;refine asg U (nn (sr (mv U U (ne' U (nn (cd U (λc3=>?_) (λc3=>?_)))))));have D:=a0.ext Z.fr;refine sr (z1p (cs:=[_,_,_,_,_,_,_,_]) z0g u0h z0p U ?_);refine mv U U (mv U U (z0k (vs:=[_,_,_,_,_,_,_,_]) U D v4d (λg1 D e5 g7=>(asg U (asg U (kpL [(4,_),(5,_),(6,_)] (.c3 U U U) (nn (rt (rb (tr (tr (rb (tr (j7v results13 U D v1j U U ?_))))))))))))));have e2:z3y 0 p0 l=.error (j7f (doM m.p (l.getD i op0)),i):=by
  have x:=v4n (r:=l.drop (i+1)) O (y1h c3);have e:l.take i++l.getD i op0::l.drop (i+1)=l:=by
   rw[List.getD,List.getElem?_eq_getElem a4,Option.getD_some,<-List.drop_eq_getElem_cons a4,List.take_append_drop]
  rw[e,List.length_take,Nat.min_eq_left oo,Nat.zero_add]at x;exact x
 exact⟨_,rfl,by rw[e2],(q1.z4 q2 q4 b6 e5)⟩;obtain⟨c9,a3⟩:=e0 (Classical.not_not.1 c3);have a6:=c9.unmark d0;obtain⟨m2,e1⟩:∃m2,m2=m1:=⟨_,rfl⟩;rw[<-e1]at a6 a3;exact sk (bn' (tn (rg (z0z U (wi6 oo) (mv U U (nl (lpE ((i+1)) (.c7 U U U U U U U) ⟨b6,⟨oo,m2,a6,by rw[show l.take (i+1)=l.take i++[l.getD i op0] by rw[List.take_add_one,List.getD,List.getElem?_eq_getElem a4];rfl];exact x6w O a3,v3l a2 a3,hl⟩⟩ oo)))))));obtain rfl:i=l.length:=by omega
 rw[List.take_length]at O;refine ex (te (te (xh (tn (sr (mv U U (cl (z0a U z0g) (mkC func42) (v8e w4 ka m _ J a2 (d6 _ O)) U ?_)))))));rintro _ g3 ⟨s',rfl,d3,e3,a5⟩;have g8:=a5.size;have D:=a0.ext a5;have a8:=D;refine mv U U (lnS U underlying25 (z0k (vs:=[_,_,_,_,_,_,_,_]) U D v4d (λe7 D b7 g9=>(asg U (asg U (kpL [(4,_),(5,_),(6,_)] (.c3 U U U) (nn (rt (j7v results13 U D v1j U U ?_)))))))));have b9:Fr [] _ e7:=(Fr.refl _ _);exact⟨_,rfl,by rw[O];exact⟨s',rfl,((d3.off a8 dd b7).ext b9).low oo,e3⟩,(q1.z4 q2 q4 a5 b7)⟩
theorem y3s (y:Nat):z3a (z1s (List.replicate 6 tq0)) y=0:=by
 unfold z3a;show ((List.replicate 6 ([]:List Lp)).getD y []).length=0;rw[List.getD,List.getElem?_replicate];split<;>rfl
theorem u4c:TabV (z1s (List.replicate 6 tq0)):=by
 refine⟨⟨rfl,dd,λy _ n D=>(by rw[y3s y]at D;omega),⟨λ_=>0,?_⟩⟩,λi=>?_⟩;exact⟨λy _ n D=>(by rw[y3s y]at D;omega),λy _ n m _ I=>(by rw[y3s y]at I;omega)⟩;have e:z9v (z1s (List.replicate 6 tq0))=[]:=by rfl
 rw[e];exact Nat.zero_le _
theorem u9s (I D:Nat)(w:World)(h:StAt w (st0 I D)):Rets prog 17 #[.agg #[.int .i64 (st0 I D).rk,.slice (st0 I D).q.f.1 (st0 I D).q.f.2.1 (st0 I D).q.f.2.2,.slice (st0 I D).q.b.1 (st0 I D).q.b.2.1 (st0 I D).q.b.2.2,.slice (st0 I D).yv.1 (st0 I D).yv.2.1 (st0 I D).yv.2.2,.slice (st0 I D).fb.t.1 (st0 I D).fb.t.2.1 (st0 I D).fb.t.2.2,.slice (st0 I D).fb.c.1 (st0 I D).fb.c.2.1 (st0 I D).fb.c.2.2,.slice (st0 I D).fb.h.1 (st0 I D).fb.h.2.1 (st0 I D).fb.h.2.2,.slice (st0 I D).fb.f.1 (st0 I D).fb.f.2.1 (st0 I D).fb.f.2.2]] w λr w'=>r=.int .i64 0/\Fr [] w w':=
 u7u (st0 I D) w h (by show (-4:Int)<=0/\(0:Int)<=4;omega) y0l.B U U (λi _=>by
  have M:(st0 I D).ys.getD i yq0=yq0:=by
   show (List.replicate 6 yq0).getD i yq0=yq0
   rw[List.getD,List.getElem?_replicate];split<;>rfl
  have O:(st0 I D).fb.ts.getD i tq0=tq0:=by
   show (List.replicate 6 tq0).getD i tq0=tq0
   rw[List.getD,List.getElem?_replicate];split<;>rfl
  rw[M,O];exact⟨dd,rfl⟩) (λw Z=>u0v (st0 I D).fb w Z U u4c ⟨λi J=>absurd J (Nat.not_lt_zero i),λi _ J=>absurd J (Nat.not_lt_zero i)⟩ ⟨λi J=>(by cases J),λi _ J=>absurd J (Nat.not_lt_zero i),λy _ n hn=>(by rw[show z3a (z1s (st0 I D).fb.ts) y=0 from y3s y]at hn;omega),u4c.thr⟩) U (Nat.zero_le _)
theorem j0v (I D:Nat)(v:Value)(l:List MOp)(w0:World)(O:StAt w0 (st0 I D))(Z:Sl z7y w0 v l)(J:StT w0)(M:l.length<=4096):Rets prog 13 #[.agg #[.int .i64 (st0 I D).rk,.slice (st0 I D).q.f.1 (st0 I D).q.f.2.1 (st0 I D).q.f.2.2,.slice (st0 I D).q.b.1 (st0 I D).q.b.2.1 (st0 I D).q.b.2.2,.slice (st0 I D).yv.1 (st0 I D).yv.2.1 (st0 I D).yv.2.2,.slice (st0 I D).fb.t.1 (st0 I D).fb.t.2.1 (st0 I D).fb.t.2.2,.slice (st0 I D).fb.c.1 (st0 I D).fb.c.2.1 (st0 I D).fb.c.2.2,.slice (st0 I D).fb.h.1 (st0 I D).fb.h.2.1 (st0 I D).fb.h.2.2,.slice (st0 I D).fb.f.1 (st0 I D).fb.f.2.1 (st0 I D).fb.f.2.2],v] w0 λr w'=>(match z3y 0 G08.start l with|.error (e,n)=>r=.tuple #[.agg #[.int .i64 0,.slice none 0 0,.slice none 0 0,.slice none 0 0,.slice none 0 0,.slice none 0 0,.slice none 0 0,.slice none 0 0],.int .i64 (n:Int),.int .i64 e]|.ok p=>∃s':StQ,r=.tuple #[.agg #[.int .i64 s'.rk,.slice s'.q.f.1 s'.q.f.2.1 s'.q.f.2.2,.slice s'.q.b.1 s'.q.b.2.1 s'.q.b.2.2,.slice s'.yv.1 s'.yv.2.1 s'.yv.2.2,.slice s'.fb.t.1 s'.fb.t.2.1 s'.fb.t.2.2,.slice s'.fb.c.1 s'.fb.c.2.1 s'.fb.c.2.2,.slice s'.fb.h.1 s'.fb.h.2.1 s'.fb.h.2.2,.slice s'.fb.f.1 s'.fb.f.2.1 s'.fb.f.2.2],.int .i64 (l.length:Int),.int .i64 0]/\StO τd 117 w0.heap.size w' s'/\s'.p=stM p)/\Fr [] w0 w':=
 u9l (st0 I D) v l G08.start w0 O (j3a I D) List.nodup_nil U y0l Z J M (u9s I D) (λp e=>by
  have x:=x8q y0l e
  have y:(G08.start).cr.length=0:=rfl
  omega)
def v5m (l:List MOp):Int:=match z3y 0 G08.start l with
  | .error (e,_)=>e
  | .ok _=>0
abbrev stZ:StQ:=⟨0,⟨sv0,sv0,[],[]⟩,sv0,[],⟨sv0,sv0,sv0,sv0,[],[],[],[]⟩⟩
theorem j9y (base:Nat)(w:World):StO τd 117 base w stZ:=
 ⟨⟨⟨Own.nil w,λq I=>(by cases I)⟩,⟨Own.nil w,λq I=>(by cases I)⟩⟩,⟨Own.nil w,λi D=>(by cases D)⟩,⟨Own.nil w,λi D=>(by cases D),λi j D=>(by cases D),λi D=>(by cases D)⟩,Own.nil w,Own.nil w,Own.nil w,λk J=>(by cases J)⟩
end Go.Proofs.YtjilcnmaefhmeaaGreatDoor
namespace Go.Proofs
open Go.Shelf
def Tryz.lays156_ren:Go.Shelf.Ren:=⟨fun|156=>78|165=>139|166=>77|169=>83|240=>138|241=>194|276=>193|277=>248|n=>n,fun|31=>84|9=>9|3=>3|4=>4|0=>0|20=>20|72=>162|76=>165|70=>160|37=>81|75=>164|127=>229|164=>283|5=>5|80=>173|n=>n,fun|n=>n⟩
theorem Tryz.lays156:Go.Proofs.Lays.n156 Tryz.prog Tryz.lays156_ren:={
 mixed:=by kernel_rfl
 f156:=Tryz.func78.trans (congrArg some kr)
 f165:=Tryz.func139.trans (congrArg some kr)
 f166:=Tryz.func77.trans (congrArg some kr)
 f169:=Tryz.func83.trans (congrArg some kr)
 f240:=Tryz.func138.trans (congrArg some kr)
 f241:=Tryz.func194.trans (congrArg some kr)
 f276:=Tryz.func193.trans (congrArg some kr)
 f277:=Tryz.func248.trans (congrArg some kr)
 t0:=Tryz.underlying0
 a0:=Tryz.isAgg0
 z0:=Tryz.sizeOf0
 v0:=Tryz.zeroValue0
 t3:=Tryz.underlying3
 a3:=Tryz.isAgg3
 z3:=Tryz.sizeOf3
 v3:=Tryz.zeroValue3
 t4:=Tryz.underlying4
 a4:=Tryz.isAgg4
 z4:=Tryz.sizeOf4
 v4:=Tryz.zeroValue4
 t9:=Tryz.underlying9
 a9:=Tryz.isAgg9
 z9:=Tryz.sizeOf9
 v9:=Tryz.zeroValue9
 t20:=Tryz.underlying20
 a20:=Tryz.isAgg20
 z20:=Tryz.sizeOf20
 v20:=Tryz.zeroValue20
 t31:=Tryz.underlying84
 a31:=Tryz.isAgg84
 z31:=Tryz.sizeOf84
 v31:=Tryz.zeroValue84
 t37:=Tryz.underlying81
 a37:=Tryz.isAgg81
 z37:=Tryz.sizeOf81
 v37:=Tryz.zeroValue81
 t70:=Tryz.underlying160
 a70:=Tryz.isAgg160
 z70:=Tryz.sizeOf160
 v70:=Tryz.zeroValue160
 t72:=Tryz.underlying162
 a72:=Tryz.isAgg162
 z72:=Tryz.sizeOf162
 v72:=Tryz.zeroValue162
 t75:=Tryz.underlying164
 a75:=Tryz.isAgg164
 z75:=Tryz.sizeOf164
 v75:=Tryz.zeroValue164
 t76:=Tryz.underlying165
 a76:=Tryz.isAgg165
 z76:=Tryz.sizeOf165
 v76:=Tryz.zeroValue165
 t127:=Tryz.underlying229
 a127:=Tryz.isAgg229
 z127:=Tryz.sizeOf229
 v127:=Tryz.zeroValue229
 t164:=Tryz.underlying283
 a164:=Tryz.isAgg283
 z164:=Tryz.sizeOf283
 v164:=Tryz.zeroValue283 }
theorem Tryz.Builder_Extra_156:Builder.Extra Tryz.prog Tryz.lays156_ren:={
 sizeBuilder:=by kernel_rfl
 liesBuilder:=by kernel_rfl
 t5:=Tryz.underlying5
 a5:=Tryz.isAgg5
 z5:=Tryz.sizeOf5
 v5:=Tryz.zeroValue5
 infoByte:=by kernel_rfl
 cellsByte:=by kernel_rfl
 sizeByte:=by kernel_rfl
 neB5:=by decide }
open Go.RowKit in
theorem Tryz.strings_Join (bk o c:Nat)(J:List ByteArray)(I:ByteArray)(w:World)(D:∀(j:Nat) x,J[j]?=some x->w.cell? ⟨bk,o+j,none⟩=some (.string x))(Z:bk<w.heap.size)(hN:J.length<=140737488355328)(M:J.length<=c)(O:(Lib.join (J.map (·.data.toList)) I.data.toList).length<=140737488355328) :
 Calls Tryz.prog 78 #[.slice (some ⟨bk,o,none⟩) J.length c,.string I] w λe w'=>e=.returned (.string ⟨(Lib.join (J.map (·.data.toList)) I.data.toList).toArray⟩)/\Below w.heap.size w w':=Any.strings_Join Tryz.lays156 Tryz.Builder_Extra_156 bk o c J I w D Z hN M O
def Tryz.lays160_ren:Go.Shelf.Ren:=⟨fun|160=>136|232=>185|231=>184|227=>186|234=>188|233=>187|236=>190|235=>189|228=>240|271=>243|151=>242|197=>241|120=>282|152=>281|260=>280|137=>293|119=>294|224=>278|225=>277|217=>276|266=>291|n=>n,fun|9=>9|4=>4|3=>3|5=>5|117=>277|116=>276|0=>0|124=>280|21=>21|105=>331|46=>217|119=>368|139=>371|138=>370|n=>n,fun|3=>6|4=>7|n=>n⟩
theorem Tryz.lays160:Go.Proofs.Lays.n160 Tryz.prog Tryz.lays160_ren:={
 mixed:=by kernel_rfl
 f119:=Tryz.func294.trans (congrArg some kr)
 f120:=Tryz.func282.trans (congrArg some kr)
 f137:=Tryz.func293.trans (congrArg some kr)
 f151:=Tryz.func242.trans (congrArg some kr)
 f152:=Tryz.func281.trans (congrArg some kr)
 f160:=Tryz.func136.trans (congrArg some kr)
 f197:=Tryz.func241.trans (congrArg some kr)
 f217:=Tryz.func276.trans (congrArg some kr)
 f224:=Tryz.func278.trans (congrArg some kr)
 f225:=Tryz.func277.trans (congrArg some kr)
 f227:=Tryz.func186.trans (congrArg some kr)
 f228:=Tryz.func240.trans (congrArg some kr)
 f231:=Tryz.func184.trans (congrArg some kr)
 f232:=Tryz.func185.trans (congrArg some kr)
 f233:=Tryz.func187.trans (congrArg some kr)
 f234:=Tryz.func188.trans (congrArg some kr)
 f235:=Tryz.func189.trans (congrArg some kr)
 f236:=Tryz.func190.trans (congrArg some kr)
 f260:=Tryz.func280.trans (congrArg some kr)
 f266:=Tryz.func291.trans (congrArg some kr)
 f271:=Tryz.func243.trans (congrArg some kr)
 t0:=Tryz.underlying0
 a0:=Tryz.isAgg0
 z0:=Tryz.sizeOf0
 v0:=Tryz.zeroValue0
 t3:=Tryz.underlying3
 a3:=Tryz.isAgg3
 z3:=Tryz.sizeOf3
 v3:=Tryz.zeroValue3
 t4:=Tryz.underlying4
 a4:=Tryz.isAgg4
 z4:=Tryz.sizeOf4
 v4:=Tryz.zeroValue4
 t5:=Tryz.underlying5
 a5:=Tryz.isAgg5
 z5:=Tryz.sizeOf5
 v5:=Tryz.zeroValue5
 t9:=Tryz.underlying9
 a9:=Tryz.isAgg9
 z9:=Tryz.sizeOf9
 v9:=Tryz.zeroValue9
 t21:=Tryz.underlying21
 a21:=Tryz.isAgg21
 z21:=Tryz.sizeOf21
 v21:=Tryz.zeroValue21
 t46:=Tryz.underlying217
 a46:=Tryz.isAgg217
 z46:=Tryz.sizeOf217
 v46:=Tryz.zeroValue217
 t105:=Tryz.underlying331
 a105:=Tryz.isAgg331
 z105:=Tryz.sizeOf331
 v105:=Tryz.zeroValue331
 t116:=Tryz.underlying276
 a116:=Tryz.isAgg276
 z116:=Tryz.sizeOf276
 t117:=Tryz.underlying277
 a117:=Tryz.isAgg277
 z117:=Tryz.sizeOf277
 v117:=Tryz.zeroValue277
 t119:=Tryz.underlying368
 a119:=Tryz.isAgg368
 z119:=Tryz.sizeOf368
 t124:=Tryz.underlying280
 a124:=Tryz.isAgg280
 z124:=Tryz.sizeOf280
 v124:=Tryz.zeroValue280
 t138:=Tryz.underlying370
 a138:=Tryz.isAgg370
 z138:=Tryz.sizeOf370
 v138:=Tryz.zeroValue370
 t139:=Tryz.underlying371
 a139:=Tryz.isAgg371
 z139:=Tryz.sizeOf371
 v139:=Tryz.zeroValue371
 g3:=by kernel_rfl
 g4:=by kernel_rfl }
open Go.RowKit in
theorem Tryz.strings_Trim_one (s:ByteArray)(c:UInt8)(D:c.toNat<128)(w:World)(I:s.size<=9223372036854775807) :
 Calls Tryz.prog 136 #[.string s,.string ⟨#[c]⟩] w λe w'=>e=.returned (.string ⟨(Lib.trimB s.data.toList c).toArray⟩)/\(w'=w\/w'=w.drew):=Any.strings_Trim_one Tryz.lays160 s c D w I
def Tryz.laysM171_ren:Go.Shelf.Ren:=⟨fun|171=>71|243=>132|246=>181|283=>232|284=>233|285=>234|286=>235|129=>179|317=>270|318=>271|319=>272|320=>273|337=>289|338=>290|n=>n,fun|3=>3|9=>9|2=>2|4=>4|171=>325|0=>0|53=>270|37=>81|5=>5|173=>327|212=>360|51=>268|20=>20|213=>361|46=>217|232=>374|233=>375|n=>n,fun|17=>4|18=>8|19=>9|n=>n⟩
theorem Tryz.laysM171:Go.Proofs.LaysM.n171 Tryz.prog Tryz.laysM171_ren:={
 mixed:=by kernel_rfl
 f129:=Tryz.func179.trans (congrArg some kr)
 f171:=Tryz.func71.trans (congrArg some kr)
 f243:=Tryz.func132.trans (congrArg some kr)
 f246:=Tryz.func181.trans (congrArg some kr)
 f283:=Tryz.func232.trans (congrArg some kr)
 f284:=Tryz.func233.trans (congrArg some kr)
 f285:=Tryz.func234.trans (congrArg some kr)
 f286:=Tryz.func235.trans (congrArg some kr)
 f317:=Tryz.func270.trans (congrArg some kr)
 f318:=Tryz.func271.trans (congrArg some kr)
 f319:=Tryz.func272.trans (congrArg some kr)
 f320:=Tryz.func273.trans (congrArg some kr)
 f337:=Tryz.func289.trans (congrArg some kr)
 f338:=Tryz.func290.trans (congrArg some kr)
 t0:=Tryz.underlying0
 a0:=Tryz.isAgg0
 z0:=Tryz.sizeOf0
 v0:=Tryz.zeroValue0
 t2:=Tryz.underlying2
 a2:=Tryz.isAgg2
 z2:=Tryz.sizeOf2
 v2:=Tryz.zeroValue2
 t3:=Tryz.underlying3
 a3:=Tryz.isAgg3
 z3:=Tryz.sizeOf3
 v3:=Tryz.zeroValue3
 t4:=Tryz.underlying4
 a4:=Tryz.isAgg4
 z4:=Tryz.sizeOf4
 v4:=Tryz.zeroValue4
 t5:=Tryz.underlying5
 a5:=Tryz.isAgg5
 z5:=Tryz.sizeOf5
 v5:=Tryz.zeroValue5
 t9:=Tryz.underlying9
 a9:=Tryz.isAgg9
 z9:=Tryz.sizeOf9
 v9:=Tryz.zeroValue9
 t20:=Tryz.underlying20
 a20:=Tryz.isAgg20
 z20:=Tryz.sizeOf20
 v20:=Tryz.zeroValue20
 t37:=Tryz.underlying81
 a37:=Tryz.isAgg81
 z37:=Tryz.sizeOf81
 v37:=Tryz.zeroValue81
 t46:=Tryz.underlying217
 a46:=Tryz.isAgg217
 z46:=Tryz.sizeOf217
 v46:=Tryz.zeroValue217
 t51:=Tryz.underlying268
 a51:=Tryz.isAgg268
 z51:=Tryz.sizeOf268
 v51:=Tryz.zeroValue268
 t53:=Tryz.underlying270
 a53:=Tryz.isAgg270
 z53:=Tryz.sizeOf270
 v53:=Tryz.zeroValue270
 t171:=Tryz.underlying325
 a171:=Tryz.isAgg325
 z171:=Tryz.sizeOf325
 v171:=Tryz.zeroValue325
 t173:=Tryz.underlying327
 a173:=Tryz.isAgg327
 z173:=Tryz.sizeOf327
 v173:=Tryz.zeroValue327
 t212:=Tryz.underlying360
 a212:=Tryz.isAgg360
 z212:=Tryz.sizeOf360
 v212:=Tryz.zeroValue360
 t213:=Tryz.underlying361
 a213:=Tryz.isAgg361
 z213:=Tryz.sizeOf361
 t232:=Tryz.underlying374
 a232:=Tryz.isAgg374
 z232:=Tryz.sizeOf374
 v232:=Tryz.zeroValue374
 t233:=Tryz.underlying375
 a233:=Tryz.isAgg375
 z233:=Tryz.sizeOf375
 v233:=Tryz.zeroValue375
 g17:=by kernel_rfl
 g18:=by kernel_rfl
 g19:=by kernel_rfl
 i0:=by kernel_rfl
 i2:=by kernel_rfl
 i3:=by kernel_rfl
 i4:=by kernel_rfl
 i5:=by kernel_rfl
 i9:=by kernel_rfl
 i20:=by kernel_rfl
 i37:=by kernel_rfl
 i46:=by kernel_rfl
 i51:=by kernel_rfl
 i53:=by kernel_rfl
 i171:=by kernel_rfl
 i173:=by kernel_rfl
 i212:=by kernel_rfl
 i232:=by kernel_rfl
 i233:=by kernel_rfl
 m17:=by kernel_rfl
 m18:=by kernel_rfl
 m19:=by kernel_rfl }
open Go.RowKit Go.Sort Go.Lib in
theorem Tryz.strconv_Itoa (n:Int)(I:-9223372036854775808<=n)(h1:n<=9223372036854775807)(w:World)(D:Lib.TabIs Tryz.prog w "internal/strconv.uint64pow10" .u64 Lib.pow10Tab) :
 Calls Tryz.prog 71 #[.int .i64 n] w λe w'=>e=.returned (.string ⟨(Lib.itoa n).toArray⟩)/\∃k J,w'=grow (w.drewN k) J:=Any.strconv_Itoa Tryz.laysM171 n I h1 w D
def Tryz.laysC172_ren:Go.Shelf.Ren:=⟨fun|172=>283|244=>295|245=>296|247=>298|279=>299|280=>300|281=>301|282=>302|287=>303|316=>304|171=>71|205=>305|321=>306|322=>307|243=>132|246=>181|283=>232|284=>233|285=>234|286=>235|129=>179|317=>270|318=>271|319=>272|320=>273|337=>289|338=>290|n=>n,fun|9=>9|3=>3|75=>164|76=>165|4=>4|5=>5|167=>376|37=>81|0=>0|85=>377|2=>2|168=>379|53=>270|175=>382|46=>217|210=>386|127=>229|145=>392|143=>390|21=>21|171=>325|173=>327|212=>360|51=>268|20=>20|213=>361|232=>374|233=>375|80=>173|n=>n,fun|15=>10|16=>11|17=>4|18=>8|19=>9|n=>n⟩
theorem Tryz.laysC172:Go.Proofs.LaysC.n172 Tryz.prog Tryz.laysC172_ren:={
 mixed:=by kernel_rfl
 f129:=Tryz.func179.trans (congrArg some kr)
 f171:=Tryz.func71.trans (congrArg some kr)
 f172:=Tryz.func283.trans (congrArg some kr)
 f205:=Tryz.func305.trans (congrArg some kr)
 f243:=Tryz.func132.trans (congrArg some kr)
 f244:=Tryz.func295.trans (congrArg some kr)
 f245:=Tryz.func296.trans (congrArg some kr)
 f246:=Tryz.func181.trans (congrArg some kr)
 f247:=Tryz.func298.trans (congrArg some kr)
 f279:=Tryz.func299.trans (congrArg some kr)
 f280:=Tryz.func300.trans (congrArg some kr)
 f281:=Tryz.func301.trans (congrArg some kr)
 f282:=Tryz.func302.trans (congrArg some kr)
 f283:=Tryz.func232.trans (congrArg some kr)
 f284:=Tryz.func233.trans (congrArg some kr)
 f285:=Tryz.func234.trans (congrArg some kr)
 f286:=Tryz.func235.trans (congrArg some kr)
 f287:=Tryz.func303.trans (congrArg some kr)
 f316:=Tryz.func304.trans (congrArg some kr)
 f317:=Tryz.func270.trans (congrArg some kr)
 f318:=Tryz.func271.trans (congrArg some kr)
 f319:=Tryz.func272.trans (congrArg some kr)
 f320:=Tryz.func273.trans (congrArg some kr)
 f321:=Tryz.func306.trans (congrArg some kr)
 f322:=Tryz.func307.trans (congrArg some kr)
 f337:=Tryz.func289.trans (congrArg some kr)
 f338:=Tryz.func290.trans (congrArg some kr)
 t0:=Tryz.underlying0
 a0:=Tryz.isAgg0
 z0:=Tryz.sizeOf0
 v0:=Tryz.zeroValue0
 t2:=Tryz.underlying2
 a2:=Tryz.isAgg2
 z2:=Tryz.sizeOf2
 v2:=Tryz.zeroValue2
 t3:=Tryz.underlying3
 a3:=Tryz.isAgg3
 z3:=Tryz.sizeOf3
 v3:=Tryz.zeroValue3
 t4:=Tryz.underlying4
 a4:=Tryz.isAgg4
 z4:=Tryz.sizeOf4
 v4:=Tryz.zeroValue4
 t5:=Tryz.underlying5
 a5:=Tryz.isAgg5
 z5:=Tryz.sizeOf5
 v5:=Tryz.zeroValue5
 t9:=Tryz.underlying9
 a9:=Tryz.isAgg9
 z9:=Tryz.sizeOf9
 v9:=Tryz.zeroValue9
 t20:=Tryz.underlying20
 a20:=Tryz.isAgg20
 z20:=Tryz.sizeOf20
 v20:=Tryz.zeroValue20
 t21:=Tryz.underlying21
 a21:=Tryz.isAgg21
 z21:=Tryz.sizeOf21
 v21:=Tryz.zeroValue21
 t37:=Tryz.underlying81
 a37:=Tryz.isAgg81
 z37:=Tryz.sizeOf81
 v37:=Tryz.zeroValue81
 t46:=Tryz.underlying217
 a46:=Tryz.isAgg217
 z46:=Tryz.sizeOf217
 v46:=Tryz.zeroValue217
 t51:=Tryz.underlying268
 a51:=Tryz.isAgg268
 z51:=Tryz.sizeOf268
 v51:=Tryz.zeroValue268
 t53:=Tryz.underlying270
 a53:=Tryz.isAgg270
 z53:=Tryz.sizeOf270
 v53:=Tryz.zeroValue270
 t75:=Tryz.underlying164
 a75:=Tryz.isAgg164
 z75:=Tryz.sizeOf164
 v75:=Tryz.zeroValue164
 t76:=Tryz.underlying165
 a76:=Tryz.isAgg165
 z76:=Tryz.sizeOf165
 v76:=Tryz.zeroValue165
 t85:=Tryz.underlying377
 a85:=Tryz.isAgg377
 z85:=Tryz.sizeOf377
 v85:=Tryz.zeroValue377
 t127:=Tryz.underlying229
 a127:=Tryz.isAgg229
 z127:=Tryz.sizeOf229
 v127:=Tryz.zeroValue229
 t143:=Tryz.underlying390
 a143:=Tryz.isAgg390
 z143:=Tryz.sizeOf390
 v143:=Tryz.zeroValue390
 t145:=Tryz.underlying392
 a145:=Tryz.isAgg392
 z145:=Tryz.sizeOf392
 v145:=Tryz.zeroValue392
 t167:=Tryz.underlying376
 a167:=Tryz.isAgg376
 z167:=Tryz.sizeOf376
 v167:=Tryz.zeroValue376
 t168:=Tryz.underlying379
 a168:=Tryz.isAgg379
 z168:=Tryz.sizeOf379
 v168:=Tryz.zeroValue379
 t171:=Tryz.underlying325
 a171:=Tryz.isAgg325
 z171:=Tryz.sizeOf325
 v171:=Tryz.zeroValue325
 t173:=Tryz.underlying327
 a173:=Tryz.isAgg327
 z173:=Tryz.sizeOf327
 v173:=Tryz.zeroValue327
 t175:=Tryz.underlying382
 a175:=Tryz.isAgg382
 z175:=Tryz.sizeOf382
 v175:=Tryz.zeroValue382
 t210:=Tryz.underlying386
 a210:=Tryz.isAgg386
 z210:=Tryz.sizeOf386
 v210:=Tryz.zeroValue386
 t212:=Tryz.underlying360
 a212:=Tryz.isAgg360
 z212:=Tryz.sizeOf360
 v212:=Tryz.zeroValue360
 t213:=Tryz.underlying361
 a213:=Tryz.isAgg361
 z213:=Tryz.sizeOf361
 t232:=Tryz.underlying374
 a232:=Tryz.isAgg374
 z232:=Tryz.sizeOf374
 v232:=Tryz.zeroValue374
 t233:=Tryz.underlying375
 a233:=Tryz.isAgg375
 z233:=Tryz.sizeOf375
 v233:=Tryz.zeroValue375
 g15:=by kernel_rfl
 g16:=by kernel_rfl
 g17:=by kernel_rfl
 g18:=by kernel_rfl
 g19:=by kernel_rfl
 t80:=Tryz.underlying173
 a80:=Tryz.isAgg173
 z80:=Tryz.sizeOf173
 v80:=Tryz.zeroValue173
 i0:=by kernel_rfl
 i2:=by kernel_rfl
 i3:=by kernel_rfl
 i4:=by kernel_rfl
 i5:=by kernel_rfl
 i9:=by kernel_rfl
 i20:=by kernel_rfl
 i21:=by kernel_rfl
 i37:=by kernel_rfl
 i46:=by kernel_rfl
 i51:=by kernel_rfl
 i53:=by kernel_rfl
 i75:=by kernel_rfl
 i76:=by kernel_rfl
 i80:=by kernel_rfl
 i85:=by kernel_rfl
 i127:=by kernel_rfl
 i143:=by kernel_rfl
 i145:=by kernel_rfl
 i167:=by kernel_rfl
 i168:=by kernel_rfl
 i171:=by kernel_rfl
 i173:=by kernel_rfl
 i175:=by kernel_rfl
 i210:=by kernel_rfl
 i212:=by kernel_rfl
 i232:=by kernel_rfl
 i233:=by kernel_rfl
 m15:=by kernel_rfl
 m16:=by kernel_rfl
 m17:=by kernel_rfl
 m18:=by kernel_rfl
 m19:=by kernel_rfl
 c0:=by kernel_rfl
 c2:=by kernel_rfl
 c3:=by kernel_rfl
 c4:=by kernel_rfl
 c5:=by kernel_rfl
 c9:=by kernel_rfl
 c20:=by kernel_rfl
 c21:=by kernel_rfl
 c37:=by kernel_rfl
 c46:=by kernel_rfl
 c51:=by kernel_rfl
 c53:=by kernel_rfl
 c75:=by kernel_rfl
 c76:=by kernel_rfl
 c80:=by kernel_rfl
 c85:=by kernel_rfl
 c127:=by kernel_rfl
 c143:=by kernel_rfl
 c145:=by kernel_rfl
 c167:=by kernel_rfl
 c168:=by kernel_rfl
 c171:=by kernel_rfl
 c173:=by kernel_rfl
 c175:=by kernel_rfl
 c210:=by kernel_rfl
 c212:=by kernel_rfl
 c213:=by kernel_rfl
 c232:=by kernel_rfl
 c233:=by kernel_rfl }
open Go.RowKit in
theorem Tryz.strconv_Atoi_ok (s:ByteArray)(D:s.size<=9223372036854775806)(v:Int)(h:Lib.atoiAll s.data.toList=.ok v)(w:World) :
 Calls Tryz.prog 283 #[.string s] w λe w'=>e=.returned (.tuple #[.int .i64 v,.nilIface])/\(w'=w\/∃t,w'=Lib.bytesWorld w 5 t):=Any.strconv_Atoi_ok Tryz.laysC172 s D v h w
open Go.RowKit in
theorem Tryz.strconv_Atoi_syntax (s:ByteArray)(D:s.size<=281474976710656)(h:Lib.atoiAll s.data.toList=Lib.atoiAll [])(ev:Value)(w:World)(J:w.cell? ⟨10,0,none⟩=some ev)(I:ev=.nilIface\/∃te M,ev=.iface te M) :
 Calls Tryz.prog 283 #[.string s] w λe w'=>∃N,e=.returned (.tuple #[.int .i64 (0),.iface 379 (.pointer (some ⟨N,0,none⟩))])/\w.heap.size<=N/\w'.heap[N]?=some (.cells #[.string ⟨#[65,116,111,105]⟩,.string s,ev] 386 (0,0))/\Below w.heap.size w w':=Any.strconv_Atoi_syntax Tryz.laysC172 s D h ev w J I
open Go.RowKit in
theorem Tryz.strconv_Atoi_range (s:ByteArray)(D:s.size<=281474976710656)(h:Lib.atoiAll s.data.toList=.range)(ev:Value)(w:World)(J:w.cell? ⟨11,0,none⟩=some ev)(I:ev=.nilIface\/∃te M,ev=.iface te M) :
 Calls Tryz.prog 283 #[.string s] w λe w'=>∃N,e=.returned (.tuple #[.int .i64 (Lib.atoiSat s.data.toList),.iface 379 (.pointer (some ⟨N,0,none⟩))])/\w.heap.size<=N/\w'.heap[N]?=some (.cells #[.string ⟨#[65,116,111,105]⟩,.string s,ev] 386 (0,0))/\Below w.heap.size w w':=Any.strconv_Atoi_range Tryz.laysC172 s D h ev w J I
def Tryz.lays145_ren:Go.Shelf.Ren:=⟨fun|145=>135|220=>183|219=>239|217=>276|225=>277|224=>278|267=>279|266=>291|314=>292|n=>n,fun|9=>9|4=>4|59=>223|3=>3|5=>5|46=>217|146=>366|51=>268|n=>n,fun|1=>5|n=>n⟩
theorem Tryz.lays145:Go.Proofs.Lays.n145 Tryz.prog Tryz.lays145_ren:={
 mixed:=by kernel_rfl
 f145:=Tryz.func135.trans (congrArg some kr)
 f217:=Tryz.func276.trans (congrArg some kr)
 f219:=Tryz.func239.trans (congrArg some kr)
 f220:=Tryz.func183.trans (congrArg some kr)
 f224:=Tryz.func278.trans (congrArg some kr)
 f225:=Tryz.func277.trans (congrArg some kr)
 f266:=Tryz.func291.trans (congrArg some kr)
 f267:=Tryz.func279.trans (congrArg some kr)
 f314:=Tryz.func292.trans (congrArg some kr)
 t3:=Tryz.underlying3
 a3:=Tryz.isAgg3
 z3:=Tryz.sizeOf3
 v3:=Tryz.zeroValue3
 t4:=Tryz.underlying4
 a4:=Tryz.isAgg4
 z4:=Tryz.sizeOf4
 v4:=Tryz.zeroValue4
 t5:=Tryz.underlying5
 a5:=Tryz.isAgg5
 z5:=Tryz.sizeOf5
 v5:=Tryz.zeroValue5
 t9:=Tryz.underlying9
 a9:=Tryz.isAgg9
 z9:=Tryz.sizeOf9
 v9:=Tryz.zeroValue9
 t46:=Tryz.underlying217
 a46:=Tryz.isAgg217
 z46:=Tryz.sizeOf217
 v46:=Tryz.zeroValue217
 t51:=Tryz.underlying268
 a51:=Tryz.isAgg268
 z51:=Tryz.sizeOf268
 v51:=Tryz.zeroValue268
 t59:=Tryz.underlying223
 a59:=Tryz.isAgg223
 z59:=Tryz.sizeOf223
 v59:=Tryz.zeroValue223
 t146:=Tryz.underlying366
 a146:=Tryz.isAgg366
 z146:=Tryz.sizeOf366
 v146:=Tryz.zeroValue366
 g1:=by kernel_rfl }
open Go.RowKit Go.Lib in
theorem Tryz.strings_Cut (s D:ByteArray)(m:Int)(w:World)(J:s.size<4294967281)(I:w.cell? ⟨5,0,none⟩=some (.int .i64 m)) :
 Calls Tryz.prog 135 #[.string s,.string D] w λe w'=>e=.returned (.tuple #[.string ⟨(Lib.cut s.data.toList D.data.toList).1.toArray⟩,.string ⟨(Lib.cut s.data.toList D.data.toList).2.1.toArray⟩,.bool (Lib.cut s.data.toList D.data.toList).2.2])/\∃n,w'=w.drewN n:=Any.strings_Cut Tryz.lays145 s D m w J I
def Tryz.lays146_ren:Go.Shelf.Ren:=⟨fun|146=>134|221=>182|268=>236|138=>237|143=>238|195=>274|197=>241|218=>275|219=>239|260=>280|217=>276|225=>277|224=>278|267=>279|266=>291|314=>292|n=>n,fun|9=>9|31=>84|3=>3|4=>4|0=>0|105=>331|21=>21|5=>5|46=>217|119=>368|139=>371|138=>370|146=>366|51=>268|n=>n,fun|1=>5|3=>6|4=>7|n=>n⟩
theorem Tryz.lays146:Go.Proofs.Lays.n146 Tryz.prog Tryz.lays146_ren:={
 mixed:=by kernel_rfl
 f138:=Tryz.func237.trans (congrArg some kr)
 f143:=Tryz.func238.trans (congrArg some kr)
 f146:=Tryz.func134.trans (congrArg some kr)
 f195:=Tryz.func274.trans (congrArg some kr)
 f197:=Tryz.func241.trans (congrArg some kr)
 f217:=Tryz.func276.trans (congrArg some kr)
 f218:=Tryz.func275.trans (congrArg some kr)
 f219:=Tryz.func239.trans (congrArg some kr)
 f221:=Tryz.func182.trans (congrArg some kr)
 f224:=Tryz.func278.trans (congrArg some kr)
 f225:=Tryz.func277.trans (congrArg some kr)
 f260:=Tryz.func280.trans (congrArg some kr)
 f266:=Tryz.func291.trans (congrArg some kr)
 f267:=Tryz.func279.trans (congrArg some kr)
 f268:=Tryz.func236.trans (congrArg some kr)
 f314:=Tryz.func292.trans (congrArg some kr)
 t0:=Tryz.underlying0
 a0:=Tryz.isAgg0
 z0:=Tryz.sizeOf0
 v0:=Tryz.zeroValue0
 t3:=Tryz.underlying3
 a3:=Tryz.isAgg3
 z3:=Tryz.sizeOf3
 v3:=Tryz.zeroValue3
 t4:=Tryz.underlying4
 a4:=Tryz.isAgg4
 z4:=Tryz.sizeOf4
 v4:=Tryz.zeroValue4
 t5:=Tryz.underlying5
 a5:=Tryz.isAgg5
 z5:=Tryz.sizeOf5
 v5:=Tryz.zeroValue5
 t9:=Tryz.underlying9
 a9:=Tryz.isAgg9
 z9:=Tryz.sizeOf9
 v9:=Tryz.zeroValue9
 t21:=Tryz.underlying21
 a21:=Tryz.isAgg21
 z21:=Tryz.sizeOf21
 v21:=Tryz.zeroValue21
 t31:=Tryz.underlying84
 a31:=Tryz.isAgg84
 z31:=Tryz.sizeOf84
 v31:=Tryz.zeroValue84
 t46:=Tryz.underlying217
 a46:=Tryz.isAgg217
 z46:=Tryz.sizeOf217
 v46:=Tryz.zeroValue217
 t51:=Tryz.underlying268
 a51:=Tryz.isAgg268
 z51:=Tryz.sizeOf268
 v51:=Tryz.zeroValue268
 t105:=Tryz.underlying331
 a105:=Tryz.isAgg331
 z105:=Tryz.sizeOf331
 v105:=Tryz.zeroValue331
 t119:=Tryz.underlying368
 a119:=Tryz.isAgg368
 z119:=Tryz.sizeOf368
 t138:=Tryz.underlying370
 a138:=Tryz.isAgg370
 z138:=Tryz.sizeOf370
 v138:=Tryz.zeroValue370
 t139:=Tryz.underlying371
 a139:=Tryz.isAgg371
 z139:=Tryz.sizeOf371
 v139:=Tryz.zeroValue371
 t146:=Tryz.underlying366
 a146:=Tryz.isAgg366
 z146:=Tryz.sizeOf366
 v146:=Tryz.zeroValue366
 g1:=by kernel_rfl
 g3:=by kernel_rfl
 g4:=by kernel_rfl }
open Go.RowKit Go.Lib in
theorem Tryz.strings_Split (s D:ByteArray)(m:Int)(w:World)(J:s.size<4294967281)(I:w.cell? ⟨5,0,none⟩=some (.int .i64 m))(h1:1<=D.size) :
 Calls Tryz.prog 134 #[.string s,.string D] w λe w'=>
  e=.returned (.slice (some ⟨w.heap.size,0,none⟩) (Lib.countB s D+1) (Lib.countB s D+1))/\w'=w.alloc (.cells ((Lib.splitB D 0 (Lib.countB s D) s).map Value.string).toArray 9):=Any.strings_Split Tryz.lays146 kr s D m w J I h1
end Go.Proofs
namespace Go.Proofs.YtjilcnmaefhmeaaGreatDoor
open Go.Lw _root_.Go.Proofs.Tryz
theorem u7b:CallOf prog 71:=mkC func71
theorem j7o {w w':World}{D:String}{k:IntKind}{zs:List Int}{S:List Nat}(h:Lib.TabIs prog w D k zs)(hf:Fr S w w')(M:∀g,prog.globalNamed D=some g->g∉S):Lib.TabIs prog w' D k zs:=by
 unfold Lib.TabIs World.var? at *
 cases hg:prog.globalNamed D with
 | none=>simp[hg]at h
 | some g=>
  simp only[hg,Option.bind_some]at h ⊢;have J:g<w.heap.size:=by
   rcases Nat.lt_or_ge g w.heap.size with I|I
   exact I;rw[Array.getElem?_eq_none I]at h;simp at h
  rw[hf.block g J (M g hg)];exact h
theorem gPow:prog.globalNamed "internal/strconv.uint64pow10" =some 4:=kr
structure Glob (w:World):Prop where
  wd:Cells w ⟨1,0,none⟩ (z8e.map S)
  dr:Cells w ⟨2,0,none⟩ (x1w.map S)
  ml:IntAt 5 w
  tab:Lib.TabIs prog w "internal/strconv.uint64pow10" .u64 Lib.pow10Tab
  es:∃te pe,w.cell? ⟨10,0,none⟩=some (.iface te pe)
  er:∃te pe,w.cell? ⟨11,0,none⟩=some (.iface te pe)
  sz:12<=w.heap.size
theorem Glob.fr {w w':World}{S:List Nat}(h:Glob w)(hf:Fr S w w')(J:∀k∈S,12<=k):Glob w':=by
 have D:∀g,g<12->g∉S:=λg I e=>by have:=J g e;omega
 exact⟨h.wd.fr hf (D _ dd),h.dr.fr hf (D _ dd),h.ml.fr hf (D _ dd),j7o h.tab hf (λg I=>by rw[gPow]at I;cases I;exact D _ dd),let ⟨a,b,e⟩:=h.es;⟨a,b,hf.cell e (D _ dd)⟩,let ⟨a,b,e⟩:=h.er;⟨a,b,hf.cell e (D _ dd)⟩,Nat.le_trans h.sz hf.size⟩
theorem Glob.ext {w w':World}(h:Glob w)(hf:Fr [] w w'):Glob w':=h.fr hf sp0
theorem v2o (w:World)(k:Nat)(l:Array Obj):Fr [] w (Sort.grow (w.drewN k) l):=
 (Fr.drewN [] w k).next ⟨rfl,rfl,rfl,by simp[Sort.grow],λk D _=>by simp only[Sort.grow];exact Array.getElem?_append_left D⟩
theorem y7y (n:Int)(w0:World)(hG:Glob w0)(h:-99<=n/\n<=99):Rets prog 71 #[.int .i64 n] w0 λv w'=>v=S (x3v n)/\Fr [] w0 w':=by
 refine Calls.mono (strconv_Itoa n oo oo w0 hG.tab) ?_;rintro e w' ⟨rfl,k,D,rfl⟩;exact⟨_,rfl,by rw[v3g h];rfl,v2o _ _ _⟩
theorem y9n (b p:Int)(w0:World)(hG:Glob w0):Rets prog 247 #[.agg #[.int .u8 b,.int .i64 p]] w0 λv w'=>v=S (v6i b p)/\Fr [] w0 w':=by
 have Z:=hG.sz;refine we [(0,.agg #[.int .u8 b,.int .i64 p])] func247 U ntmps247 U (.cons U .nil) (sr (bx U (λg1 w1 a0 D M z1=>(asg U (nn (sq (sr (z0m U D z4k (cl (ev1 U) v9b (z4p _ _ _) U ?_)))))))));rintro _ w2 ⟨rfl,I⟩;refine ne' U (nn (cd U (λJ=>?_) (λJ=>?_)));refine sr (asg U (nn (rt (tr (r1 results247 U ?_)))));exact⟨_,rfl,by rw[v6i,if_pos J]<;>rfl,(M.n1 I)⟩;have hr:=x7d.1 (Classical.not_not.1 J);refine sk (tn (sq (sr (fad U z6u ?_))));replace D:=D.ext I;refine z0i U D U x9j (eq' U (nn (cd U (λO=>?_) (λO=>?_))));refine sr (fad U z6i (z0i U D U na3 ?_));replace hG:=hG.ext (M.n1 I);refine cl (ev1 U) u7b (y7y _ _ hG oo) U ?_;rintro _ w3 ⟨rfl,q3⟩;refine x7g U U (by have:=y5k p;simp;omega) (asg U (kpL [(2,_)] (.cons U .nil) (nn (rt (tr (r1 results247 U ?_))))));exact⟨_,rfl,by rw[v6i,if_neg J,if_pos O]<;>rfl,(M.n2 I q3)⟩;refine sk (tn (sr (fad U z6i (z0i U D U na3 ?_))));replace hG:=hG.ext (M.n1 I);refine cl (ev1 U) u7b (y7y _ _ hG oo) U ?_;rintro _ w4 ⟨rfl,q4⟩;refine x7g U U (by have:=y5k p;simp;omega) (asg U (kpL [(2,_)] (.cons U .nil) (nn (rt (r1 results247 U ?_)))));exact⟨_,rfl,by rw[v6i,if_neg J,if_neg O]<;>rfl,(M.n2 I q4)⟩
theorem u1l (v:Value)(ys:List (List UInt8))(D:List UInt8)(base T:Nat)(w0:World)(I:Lw.Own Enc.str T base w0 v ys)(M:ys≠[])(hl:(Lib.join ys D).length<=1000000)(a0:ys.length<=1000000):Rets prog 78 #[v,S D] w0 λr w'=>r=S (Lib.join ys D)/\Fr [] w0 w':=by
 rcases I with ⟨_,e⟩|⟨g,cap,cur,rfl,J,O,h1,h2,h3,h4⟩
 exact absurd e M;have hm:(ys.map (λy=>(⟨y.toArray⟩:ByteArray))).map (·.data.toList)=ys:=by rw[List.map_map];simp[Function.comp_def]
 have I:Lw.Own Enc.str T base w0 (.slice (some ⟨g,0,none⟩) ys.length cap) ys:=.inr ⟨g,cap,cur,rfl,J,O,h1,h2,h3,h4⟩;have Z:=strings_Join g 0 cap (ys.map (λy=>(⟨y.toArray⟩:ByteArray))) ⟨D.toArray⟩ w0 (λj x hx=>by
  rw[List.getElem?_map,Option.map_eq_some_iff]at hx;obtain⟨y,hy,rfl⟩:=hx;obtain⟨A,c,e,_,_,hA⟩:=I.sl;cases e;obtain⟨ad,e1,hc⟩:=hA j y hy;cases e1;have:=hc 0 (S y) U;rw[z4o,z4o,Nat.add_zero,show Enc.str.sz=1 from U,Nat.mul_one]at this;exact this) ((Array.getElem?_eq_some_iff.1 O).1) so so (by rw[hm];simp;omega)
 rw[hm,List.length_map]at Z;refine Calls.mono Z ?_;rintro e w' ⟨rfl,J⟩;exact⟨_,rfl,by simp[S],Fr.of_below J⟩
theorem u1q (w:World)(t:ByteArray):Fr [] w (Lib.bytesWorld w 5 t):=Fr.of_below (Lib.bytesWorld_below w 5 t)
theorem u6b (l:List UInt8)(w0:World)(hG:Glob w0)(hl:l.length<=1000000):Rets prog 283 #[S l] w0 λr w'=>∃n e,∃b:Bool,r=.tuple #[.int .i64 n,e]/\(e=.nilIface/\b=false\/(∃t p,e=.iface t p)/\b=true)/\v9o l=(if b=true then 0 else n)/\Fr [] w0 w':=by
 have O:(⟨l.toArray⟩:ByteArray).size=l.length:=by simp[ByteArray.size]
 rcases h:Lib.atoiAll l with v|_|_
 refine Calls.mono (strconv_Atoi_ok ⟨l.toArray⟩ oo v (by simpa using h) w0) ?_;rintro e w' ⟨rfl,J⟩;refine⟨_,rfl,v,.nilIface,false,rfl,.inl ⟨rfl,rfl⟩,by simp[v9o,h],?_⟩;rcases J with rfl|⟨t,rfl⟩
 exact Fr.refl _ _;exact u1q w0 t;obtain⟨te,M,I⟩:=hG.es;refine Calls.mono (strconv_Atoi_syntax ⟨l.toArray⟩ oo (show Lib.atoiAll l=Lib.atoiAll [] from h) _ w0 I (.inr ⟨_,_,rfl⟩)) ?_;rintro e w' ⟨N,rfl,_,_,D⟩;exact⟨_,rfl,_,_,true,rfl,.inr ⟨⟨_,_,rfl⟩,rfl⟩,by simp[v9o,h],Fr.of_below D⟩;obtain⟨te,M,I⟩:=hG.er;refine Calls.mono (strconv_Atoi_range ⟨l.toArray⟩ oo (by simpa using h) _ w0 I (.inr ⟨_,_,rfl⟩)) ?_;rintro e w' ⟨N,rfl,_,_,D⟩;exact⟨_,rfl,_,_,true,rfl,.inr ⟨⟨_,_,rfl⟩,rfl⟩,by simp[v9o,h],Fr.of_below D⟩
theorem x8u (l D:List UInt8)(w0:World)(hG:Glob w0)(hl:l.length<4294967281)(h1:1<=D.length):Rets prog 134 #[S l,S D] w0 λr w'=>Lw.Own Enc.str 9 w0.heap.size w' r (Lib.split l D)/\Fr [] w0 w':=by
 obtain⟨k,hk⟩:=hG.ml;have hs:(⟨l.toArray⟩:ByteArray).size=l.length:=by simp[ByteArray.size]
 have a0:(⟨D.toArray⟩:ByteArray).size=D.length:=by simp[ByteArray.size]
 refine Calls.mono (strings_Split ⟨l.toArray⟩ ⟨D.toArray⟩ k w0 oo hk oo) ?_;rintro e w' ⟨rfl,rfl⟩;have Z:=Lib.splitB_data ⟨D.toArray⟩ 0 (Lib.countB ⟨l.toArray⟩ ⟨D.toArray⟩) ⟨l.toArray⟩;have O:Lib.countB ⟨l.toArray⟩ ⟨D.toArray⟩=Lib.count l D:=by simp[Lib.countB]
 have I:=Lib.splitB_all ⟨D.toArray⟩ oo 0 _ ⟨l.toArray⟩ U;have J:=Lib.countB_le ⟨D.toArray⟩ oo _ ⟨l.toArray⟩ (Nat.le_refl _);rw[hs]at J;have M:Lib.split l D=(Lib.splitB ⟨D.toArray⟩ 0 (Lib.countB ⟨l.toArray⟩ ⟨D.toArray⟩) ⟨l.toArray⟩).map (·.data.toList):=by rw[Z,O];rfl
 have hz:∀zs:List ByteArray,zs.map Value.string=(zs.map (·.data.toList)).flatMap Enc.str.enc:=λzs=>by
  induction zs with
  | nil=>rfl
  | cons z zs ih=>rw[List.map_cons,List.map_cons,List.flatMap_cons,<-ih];rfl
 refine⟨_,rfl,.inr ⟨w0.heap.size,Lib.countB ⟨l.toArray⟩ ⟨D.toArray⟩+1,_,by rw[M,List.length_map,I],Nat.le_refl _,heap_alloc_new w0 _,by rw[M,List.length_map,I];exact Nat.le_refl _,by unfold maxLen;omega,?_,?_⟩,Fr.alloc [] w0 _⟩;rw[show Enc.str.sz=1 from U,Nat.mul_one,List.size_toArray,List.length_map,I];exact Nat.le_refl _;rw[M,List.length_map,I,show Enc.str.sz=1 from U,Nat.mul_one,<-hz];exact List.take_of_length_le (by rw[List.length_map,I];exact Nat.le_refl _)
theorem j1z (l:List UInt8)(w0:World)(hl:l.length<=1000000000):Rets prog 136 #[S l,S [32]] w0 λr w'=>r=S (Lib.trimB l 32)/\Fr [] w0 w':=by
 refine Calls.mono (strings_Trim_one ⟨l.toArray⟩ 32 dd w0 (by simp[ByteArray.size];omega)) ?_;rintro e w' ⟨rfl,rfl|rfl⟩;exact⟨_,rfl,by simp[S],Fr.refl _ _⟩;exact⟨_,rfl,by simp[S],Fr.drew _ _⟩
theorem u9t (l m:List UInt8)(w0:World)(hG:Glob w0)(hl:l.length<4294967281):Rets prog 135 #[S l,S m] w0 λv w'=>v=.tuple #[S (Lib.cut l m).1,S (Lib.cut l m).2.1,.bool (Lib.cut l m).2.2]/\Fr [] w0 w':=by
 obtain⟨k,D⟩:=hG.ml;refine Calls.mono (strings_Cut ⟨l.toArray⟩ ⟨m.toArray⟩ k w0 (by simpa[ByteArray.size] using hl) D) ?_;rintro e w' ⟨rfl,n,rfl⟩;exact⟨_,rfl,rfl,Fr.drewN _ _ _⟩
theorem y6b:ElemOf prog 84 9 Enc.str 16:=ElemOf.mk' (z:=(.string ⟨#[]⟩)) underlying84 kr U
theorem na9:z2c prog 9:=λ_=>kr
theorem sz9:z1r prog 9 1:=λ_=>kr
theorem y0m (l:List UInt8)(w0:World)(hG:Glob w0)(hl:l.length<=1000000):Rets prog 244 #[S l] w0 λv w'=>v=.int .i64 (v9o l)/\Fr [] w0 w':=by
 have M:=hG.sz;refine we [(0,S l)] func244 U ntmps244 U (.cons U .nil) (sr (asg U (nn (sr (mv U U (cl (ev1 U) (mkC func283) (u6b _ _ hG oo) U ?_))))));rintro _ w1 ⟨n,e,b,rfl,O,I,J⟩;refine mv U U (xt U (xt U (asg U (asg U (kpL [(3,_),(4,_)] (.c2 U U) (nn (sq (sr (mv U U (j2b U underlying164 O U (nn (cd U (λD=>?_) (λD=>?_)))))))))))));exact sr (asg U (nn (rt (tr (r1 results244 U ⟨_,rfl,by simp[I,D],J⟩)))));exact sk (tn (sr (mv U U (asg U (nn (rt (r1 results244 U ⟨_,rfl,by simp[I,D],J⟩)))))))
theorem u5i (l:List UInt8)(w0:World)(hG:Glob w0):Rets prog 245 #[S l] w0 λv w'=>v=.int .u8 (j4h l)/\Fr [] w0 w':=by
 have I:=hG.sz;refine we [(0,S l)] func245 U ntmps245 U (.cons U .nil) (sr (asg U (nn (sq (sr (mv U U (y3b U U underlying338 sz9 (y0e U hG.dr U na9 U (v0r U (nn (cd U (λD=>?_) (λD=>?_))))))))))));exact sr (asg U (nn (rt (tr (r1 results245 U ⟨_,rfl,by rw[j4h,if_pos D],(Fr.refl _ _)⟩)))));exact sk (tn (sr (asg U (nn (rt (r1 results245 U ⟨_,rfl,by rw[j4h,if_neg D],(Fr.refl _ _)⟩))))))
theorem u6e (o:MOp)(w0:World)(hG:Glob w0):Rets prog 192 #[opV o] w0 λv w'=>v=S (j7c o)/\Fr [] w0 w':=by
 have f1:=hG.sz;refine we [(0,opV o)] func192 U ntmps192 U (.cons U .nil) (sr (bx U (λg1 w1 f2 I q1 z1=>(asg U (nn (sq (sr (z0m U I y3g (cl (ev1 U) (mkC func100) (y8z o _) U ?_)))))))));rintro _ w2 ⟨rfl,q2⟩;have z2:=q2.size;refine ne' U (nn (cd U (λc0=>?_) (λc0=>?_)));refine sr (asg U (nn (rt (tr (r1 results192 U ?_)))));exact⟨_,rfl,by rw[j7c,if_pos c0]<;>rfl,(q1.n1 q2)⟩;have hr:=v7f (Classical.not_not.1 c0);refine sk (tn (sr (fad U z3l ?_)));replace I:=I.ext q2;refine z0i U I U na5 (z5k U (us underlying5) underlying3 (wi6 oo) ?_);replace hG:=hG.ext (q1.n1 q2);refine cl (ev1 U) u7b (y7y _ _ hG oo) U ?_;rintro _ w3 ⟨rfl,q3⟩;have z3:=q3.size;refine asg U (nn (sr (fad U z6s ?_)));replace I:=I.ext q3;refine z0i U I U v0j (y3b U U underlying334 sz9 ?_);replace hG:=hG.ext q3;refine y0e U hG.wd (v7z oo) na9 U (z2i ([x5h o.k]) (ev1 U) U y6b (λJ w4 e2 D q4 z4=>(asg U ?_)));replace D:=D.low (show w0.heap.size<=J by omega);refine nn (jn (ι:=Value) [] (λv4=>[(4,v4)]) (λv4 w'=>Fr [J] w4 w'/\Lw.Own Enc.str 9 w0.heap.size w' v4 (x5h o.k::y3k o)) .nil ?_ ?_);refine sr (fad U z6s ?_);replace I:=I.ext q4;refine z0i U I U v0j (nn (bl (sr (eq' U (asg U (nn (cd U (λc1=>?_) (λc1=>?_))))))));refine rg (mv U U (mv U U (fad U z7p (z0i U I U x0l (y3b U U underlying338 sz9 ?_)))));replace hG:=hG.ext q4;refine y0e U hG.dr (x7z oo) na9 U (z2i ([x3v o.y,u5v o.d]) (ev2 U) U y6b (λe7 w5 e3 b0 q5 z5=>?_));replace D:=D.ext q5;refine z2b (base:=w0.heap.size) U D b0.sl y6b (by unfold maxLen;first|(simp;done)|(simp;omega)) se (λf4 w6 Z q6 d5=>?_);replace q6:Fr [J] _ _:=q6;have z6:=q6.size;exact asg U (kpL [(4,_)] (.cons U .nil) (nl (bn' (jE (_) (.cons U .nil) ⟨((Fr.refl [J] _).z2 q5 q6),by first|(rw[y3k,if_pos c1];exact Z)|(exfalso;omega)⟩))));refine sr (eq' U (asg U (nn (cd U (λc2=>?_) (λc2=>?_)))));refine rg (mv U U (mv U U (z2i ([x3v o.y]) (ev1 U) U y6b (λe8 w7 e4 b3 q7 z7=>?_))));replace D:=D.ext q7;refine z2b (base:=w0.heap.size) U D b3.sl y6b (by unfold maxLen;first|(simp;done)|(simp;omega)) se (λf5 w8 Z q8 d6=>?_);replace q8:Fr [J] _ _:=q8;have z8:=q8.size;exact asg U (kpL [(4,_)] (.cons U .nil) (nl (bn' (jE (_) (.cons U .nil) ⟨((Fr.refl [J] _).z2 q7 q8),by first|(rw[y3k,if_neg c1,if_pos c2];exact Z)|(exfalso;omega)⟩))));refine sr (eq' U (asg U (nn (cd U (λc3=>?_) (λc3=>?_)))));refine rg (mv U U (fad U y2s (z0i U I U na3 ?_)));replace hG:=hG.ext q4;refine cl (ev1 U) u7b (y7y _ _ hG oo) U ?_;rintro _ w9 ⟨rfl,q9⟩;have z9:=q9.size;refine z2i ([x3v o.r]) (ev1 U) U y6b (λe9 f9 e5 b5 b8 h4=>?_);replace D:=D.ext (q9.n1 b8);refine z2b (base:=w0.heap.size) U D b5.sl y6b (by unfold maxLen;first|(simp;done)|(simp;omega)) se (λf6 g0 Z a5 d7=>?_);replace a5:Fr [J] _ _:=a5;have h5:=a5.size;exact asg U (kpL [(4,_)] (.cons U .nil) (nl (bn' (jE (_) (.cons U .nil) ⟨((Fr.refl [J] _).z3 q9 b8 a5),by first|(rw[y3k,if_neg c1,if_neg c2,if_pos c3];exact Z)|(exfalso;omega)⟩))));refine jn (ι:=Bool) [(1,_),(3,_),(4,_),(18,_)] (λb4=>[(43,.bool b4)]) (λb4 w'=>Fr [] w4 w'/\b4=decide ((o.k=4\/o.k=5)\/o.k=6)) (.c4 U U U U) ?_ ?_;refine sr (eq' U (asg U (nn (cd U (λc4=>?_) (λc4=>?_)))));exact sk (jE (_) (.c5 U U U U U) ⟨(Fr.refl _ _),by first|exact bi oo|exact bt oo|exact bf oo⟩);refine sr (eq' U (asg U (nn (cd U (λc5=>?_) (λc5=>?_)))));exact sk (jE (_) (.c5 U U U U U) ⟨(Fr.refl _ _),by first|exact bi oo|exact bt oo|exact bf oo⟩);exact rg (eq' U (asg U (nl (jE (_) (.c5 U U U U U) ⟨(Fr.refl _ _),by first|exact bi oo|exact bt oo|exact bf oo⟩))));rintro b4 d1 ⟨a0,rfl⟩;have h6:=a0.size;refine kpC [(1,_),(3,_),(4,_),(18,_),(43,_)] (.c5 U U U U U) (cd U (λc6=>?_) (λc6=>?_));replace hG:=hG.ext (q4.n1 a0);replace I:=I.ext a0;replace D:=D.ext a0;intro a h;have O:=Fr.refl [J] d1;refine z4i (λwb w'=>Fr [J] wb w') z2m ?_;intro d3 M;have h7:=M.size;replace hG:=hG.ext M;replace I:=I.ext M;replace D:=D.ext M;replace O:=O.next M;have f3:=M.size;clear M;have hC:Fr [J] d3 d3:=Fr.refl _ _;have a7:=hG;have a1:=I;have a4:=D;refine z0e 0 h U λa h=>z0c 1 h U z7p U λa h=>z0j 2 h U (λ_ hw=>a1.fr hw se) U x0l U λa h=>x4u 3 kr kr kr hC h wn U U underlying338 sz9 oo oo U U λa h=>y3y 4 hC h wn U (λ_ hw=>(a7.fr hw se).dr) (x7z oo) na9 U U λa h=>z0c 5 h U z3g U λa h=>z1b (vs:=[_,_]) 6 h U (λ_ hw=>(a1.fr hw se)) z4k U U λa h=>z0e 8 h U λa h=>z0d 7 U ?_;refine z0o h (z0a U z0g) (mkC func247) (y9n _ _ _ hG) ?_;rintro _ g3 ⟨rfl,M⟩ a h;have h8:=M.size;replace hG:=hG.ext M;replace I:=I.ext M;replace D:=D.ext M;replace O:=O.next M;replace hC:=hC.next M;clear M;refine z0b (z0d 9 U (z2y ([u5v o.d,v6i o.b o.p,x3v o.y]) h (z0a U (z0a U (z0a U z0g))) U y6b λa9 g6 hg a3 M hz a h=>?_));have d4:g1<a9:=by have:=I.lt;omega
 have h9:=M.size;replace hG:=hG.ext M;replace I:=I.ext M;replace D:=D.ext M;replace O:=O.next M;replace hC:=hC.next M;clear M;refine z0b (z0d 10 U ?_);refine z5j (base:=w0.heap.size) h U U D a3.sl y6b U ?_ (hM:=(by unfold maxLen;first|(simp;done)|(simp;omega))) (hb:=se);clear h a;intro f7 g7 Z M d9 a h;replace M:Fr [J] _ _:=M;have e1:=M.size;replace hG:=hG.fr M (by simp[z0u]<;>omega);replace I:=I.fr M;replace O:=O.sp M;replace hC:=hC.sp M;replace a3:=a3.fr M (by simp[z0u]<;>omega);clear M;refine z0b (z0d 11 U (z0s h U λa h=>?_));refine z0b (z0q ?_);clear hC a7 a1 a4;have e1:=O.size;exact bk (h.sub (L':=[(4,_)]) (.cons U .nil)) (bn' (jE (_) (.cons U .nil) ⟨((Fr.refl [J] _).z2 a0 O),by first|(rw[y3k,if_neg c1,if_neg c2,if_neg c3,if_pos c6];exact Z)|(exfalso;omega)⟩));refine jn (ι:=Bool) [(1,_),(4,_)] (λb7=>[(58,.bool b7)]) (λb7 w'=>Fr [] d1 w'/\b7=decide (o.k=7\/o.k=8)) (.c2 U U) ?_ ?_;refine sr (eq' U (asg U (nn (cd U (λc7=>?_) (λc7=>?_)))));exact sk (jE (_) (.c3 U U U) ⟨(Fr.refl _ _),by first|exact bi oo|exact bt oo|exact bf oo⟩);exact rg (eq' U (asg U (nl (jE (_) (.c3 U U U) ⟨(Fr.refl _ _),by first|exact bi oo|exact bt oo|exact bf oo⟩))));rintro b7 g8 ⟨a2,rfl⟩;have i0:=a2.size;refine kpC [(1,_),(4,_),(58,_)] (.c3 U U U) (cd U (λc8=>?_) (λc8=>?_));refine rg (mv U U (fad U z3g ?_));replace I:=I.ext (a0.n1 a2);refine z1w (vs:=[_,_]) U I z4k U ?_;replace hG:=hG.ext (q4.n2 a0 a2);refine cl (ev1 U) (mkC func247) (y9n _ _ _ hG) U ?_;rintro _ g9 ⟨rfl,a8⟩;have i1:=a8.size;refine z2i ([v6i o.b o.p]) (ev1 U) U y6b (λf0 h0 e6 b6 b9 i2=>?_);replace D:=D.ext (a0.n3 a2 a8 b9);refine z2b (base:=w0.heap.size) U D b6.sl y6b (by unfold maxLen;first|(simp;done)|(simp;omega)) se (λf8 h1 Z a6 e0=>?_);replace a6:Fr [J] _ _:=a6;have i3:=a6.size;exact asg U (kpL [(4,_)] (.cons U .nil) (nl (bn' (jE (_) (.cons U .nil) ⟨((Fr.refl [J] _).z5 a0 a2 a8 b9 a6),by first|(rw[y3k,if_neg c1,if_neg c2,if_neg c3,if_neg c6,if_pos c8];exact Z)|(exfalso;omega)⟩))));exact sk (bn' (jE (_) (.cons U .nil) ⟨((Fr.refl [J] _).n2 a0 a2),by first|(rw[y3k,if_neg c1,if_neg c2,if_neg c3,if_neg c6,if_neg c8];exact Z)|(exfalso;omega)⟩));rintro v4 h2 ⟨c9,Z⟩;have i4:=c9.size;refine kpC [(4,_)] (.cons U .nil) (sr (mv U U (cl (ev2 U) (mkC func78) (u1l _ _ _ _ _ _ Z sp0 (by have:=u1x o (Classical.not_not.1 c0);omega) (by have:=j6r o;simp;omega)) U ?_)));rintro _ h3 ⟨rfl,d0⟩;have i5:=d0.size;exact asg U (nn (rt (r1 results192 U ⟨_,rfl,by rw[j7c,if_neg c0],(q1.z5 q2 q3 q4 c9 d0)⟩)))
theorem x8k:BuildAt prog 47 [(0,1),(1,1),(2,2),(4,1),(5,1)] [(.int .u8 0),(.int .u8 0),(.int .u8 0),(.int .i64 0),(.int .u8 0),(.int .i64 0)]:=BuildAt.struct underlying47 (λ_=>kr) (λ_=>kr)
theorem sz5:z1r prog 5 1:=λ_=>kr
end Go.Proofs.YtjilcnmaefhmeaaGreatDoor
