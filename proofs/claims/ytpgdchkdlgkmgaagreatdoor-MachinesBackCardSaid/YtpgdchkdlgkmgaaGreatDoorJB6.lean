/- Texts of the proof, joined. -/
import Derived.Test.YtpgdchkdlgkmgaaGreatDoorRows
import Derived.Shelf.Strings.Builder1
import Derived.Shelf.Strings.Builder2
import Derived.Shelf.Strings.OnBuilder
import Derived.Shelf.Strings.Trim
import Derived.Shelf.Small.Utf8
import Derived.Shelf.Small.Bits
import Derived.Shelf.Small.Strs
import Derived.Shelf.Strconv.Atoi
import Derived.Shelf.Strconv.Itoa0
import Derived.Shelf.Strconv.Itoa1
import Derived.Shelf.LaysM
import Derived.Shelf.Strconv.Itoa2
import Derived.Shelf.Strconv.Itoa3
import Derived.Shelf.Strconv.AtoiErrFast
import Derived.Shelf.Strconv.ParseIntEmpty
import Derived.Shelf.Strconv.AtoiFail
import Derived.Shelf.Strconv.Clone
import Derived.Shelf.Strconv.SyntaxError
import Derived.Shelf.LaysC
import Derived.Shelf.Strconv.ToError
import Derived.Shelf.Strconv.AtoiErr
import Derived.Shelf.Strconv.ErrVar
import Derived.Shelf.Strconv.Lower
import Derived.Shelf.Strconv.ParseUint10
import Derived.Shelf.Strconv.ParseUint10Empty
import Derived.Shelf.Strconv.ParseUint10Any
import Derived.Shelf.Strconv.ParseInt10
import Derived.Shelf.Strconv.AtoiLong
import Derived.Shelf.Strconv.AtoiInnerAll
import Derived.Shelf.Strconv.RangeError
import Derived.Shelf.Strconv.ToErrorRange
import Derived.Shelf.Strconv.AtoiAll
import Derived.Shelf.Strconv.ErrVarAll
import Derived.Shelf.Strings.Search1
import Derived.Shelf.Strings.Search2
import Derived.Shelf.Strings.Search3
import Derived.Shelf.Strings.Cut
import Derived.Shelf.Strings.Count
import Derived.Shelf.Strings.Shaped
import Derived.Shelf.Strings.Split
import Derived.Shelf.Strings.SplitShaped
import Derived.Shelf.Strings.Runes
import Derived.Shelf.Strings.AsciiSet
import Derived.Shelf.Unicode.DecodeSlow
import Derived.Test.YtpgdchkdlgkmgaaGreatDoorProg
import Derived.Lib.LaidTab
import Derived.LaidSub
import Derived.Test.YtpgdchkdlgkmgaaGreatDoorCards
import Derived.Test.YtpgdchkdlgkmgaaGreatDoorTie
import Derived.ChangeMaps5
import Derived.Test.YtpgdchkdlgkmgaaGreatDoorJB5
set_option linter.unusedVariables false
set_option linter.unusedSimpArgs false
namespace Go.Proofs.YtpgdchkdlgkmgaaGreatDoor
open Go.Lw Go.G21 Go.G08 _root_.Go.Proofs.Tryz
theorem j7a:CallOf prog 46:=mkC func46
open Classical in
noncomputable def v8c (s:StQ)(eb ef:Int):Int:=if ¬(-4<=s.rk/\s.rk<=4) then 11 else if eb≠0 then eb else if s.ys.length≠6 then 5 else if ∃i,i<6/\¬y1q (s.ys.getD i yq0).p then 1 else if ef≠0 then ef else if s.fb.hs≠(z2f s.q.p s.rk).map Hd.id then 6 else if ∃i,i<6/\(s.ys.getD i yq0).ct≠((s.fb.ts.getD i tq0).2.length:Int) then 6 else 0
set_option maxHeartbeats 2000000 in
theorem u4e (s:StQ)(eb ef:Int)(w0:World)(J:StAt w0 s)(b6:∀w,BdAt w s.q->Rets prog 43 #[.agg #[.slice s.q.f.1 s.q.f.2.1 s.q.f.2.2,.slice s.q.b.1 s.q.b.2.1 s.q.b.2.2]] w λr w'=>r=.int .i64 eb/\Fr [] w w')(hB:eb=0->BdOk s.q.p)(b3:ef=0->s.fb.ts.length=6)(b7:∀w,FbAt w s.fb->Rets prog 45 #[.agg #[.slice s.fb.t.1 s.fb.t.2.1 s.fb.t.2.2,.slice s.fb.c.1 s.fb.c.2.1 s.fb.c.2.2,.slice s.fb.h.1 s.fb.h.2.1 s.fb.h.2.2,.slice s.fb.f.1 s.fb.f.2.1 s.fb.f.2.2]] w λr w'=>r=.int .i64 ef/\Fr [] w w')(d1:s.fb.hs.length<=100000):Rets prog 16 #[.agg #[.int .i64 s.rk,.slice s.q.f.1 s.q.f.2.1 s.q.f.2.2,.slice s.q.b.1 s.q.b.2.1 s.q.b.2.2,.slice s.yv.1 s.yv.2.1 s.yv.2.2,.slice s.fb.t.1 s.fb.t.2.1 s.fb.t.2.2,.slice s.fb.c.1 s.fb.c.2.1 s.fb.c.2.2,.slice s.fb.h.1 s.fb.h.2.1 s.fb.h.2.2,.slice s.fb.f.1 s.fb.f.2.1 s.fb.f.2.2]] w0 λr w'=>r=.int .i64 (v8c s eb ef)/\Fr [] w0 w':=by
 have e8:=z1u J.y;have e7:=z1u J.f.t;refine we [(0,.agg #[.int .i64 s.rk,.slice s.q.f.1 s.q.f.2.1 s.q.f.2.2,.slice s.q.b.1 s.q.b.2.1 s.q.b.2.2,.slice s.yv.1 s.yv.2.1 s.yv.2.2,.slice s.fb.t.1 s.fb.t.2.1 s.fb.t.2.2,.slice s.fb.c.1 s.fb.c.2.1 s.fb.c.2.2,.slice s.fb.h.1 s.fb.h.2.1 s.fb.h.2.2,.slice s.fb.f.1 s.fb.f.2.1 s.fb.f.2.2])] func16 U ntmps16 U (.cons U .nil) ?_;have O:=J;refine sr (bx U (λg1 w1 e2 D q1 z1=>(asg U (nn (sq (sq ?_))))));refine rbo (r:=17) (L':=[(1,_)]) (((s.rk < -4)\/(4<s.rk))) (.cons U .nil) ?_ ?_;refine fad U y3u (z0g U D U na3 (lt' U (mv U (gs 13 U (λg0=>?_) (λg0=>?_)))));exact gN U (gN U (gN U (pkt U (rbe U (.cons U .nil)))));exact gY U (fad U y3u (gY U (z0g U D U na3 (gY U (gt' U (pkf U (rbe U (.cons U .nil))))))));refine tn (cd U (λc0=>?_) (λc0=>?_));refine sr (asg U (nn (rt (tr (r1 results16 U ?_)))));exact⟨_,rfl,by unfold v8c;rw[if_pos (by omega)],q1⟩;have hr:-4<=s.rk/\s.rk<=4:=by omega
 refine sk (tn (sq (sr (fad U y4a (z1q (vs:=[_,_]) U D z5x U ?_)))));replace J:=O.ext q1;refine cl (ev1 U) (mkC func43) (b6 _ J.b) U ?_;rintro _ w2 ⟨rfl,q2⟩;have z2:=q2.size;refine asg U (nn (sr (mv U (ne' U (nn (cd U (λc1=>?_) (λc1=>?_)))))));refine sr (mv U (asg U (nn (rt (tr (r1 results16 U ?_))))));exact⟨_,rfl,by unfold v8c;rw[if_neg (by omega),if_pos c1],(q1.n1 q2)⟩;have c9:eb=0:=by omega
 refine sk (tn (sq (sr (fad U z8v ?_))));replace D:=D.ext q2;refine z0g U D U y0q (lnS U underlying33 (ne' U (nn (cd U (λc2=>?_) (λc2=>?_)))));refine sr (asg U (nn (rt (tr (r1 results16 U ?_)))));exact⟨_,rfl,by unfold v8c;rw[if_neg (by omega),if_neg (by omega),if_pos (by omega)],(q1.n1 q2)⟩;have e6:s.ys.length=6:=by omega
 refine sk (tn (sq (sr (fad U z8v (z0g U D U y0q (lnS U underlying33 (mv U (nn (bl ?_)))))))));refine lpK (ι:=Nat) [(1,_),(29,_),(30,_)] (λi=>[(31,.int .i64 (i:Int))]) (λi w'=>Fr [] w2 w'/\i<=6/\∀k,k<i->y1q (s.ys.getD k yq0).p) (λi=>6-i) 0 (.c4 U U U U) ⟨Fr.refl _ _,⟨Nat.zero_le _,λk h=>absurd h (by omega)⟩⟩ ?_;rintro i w3 ⟨q3,⟨hi,a5⟩⟩;have z3:=q3.size;refine kpC [(1,_),(29,_),(30,_),(31,_)] (.c4 U U U U) (sr (lt' U (nn (sq (cd U (λc3=>?_) (λc3=>?_))))));refine sk (tn (sq (bl (sr ?_))));replace J:=O.ext (q1.n2 q2 q3);refine z1a (yq0) U J.y U y0y z1d (λd5 a9=>?_);refine z1j U (a9 _ J.y) z6u (al y1y U (λg5 w4 e3 a8 q4 z4=>?_));refine z0i (vs:=[_,_,_,_,_]) U a8 z7k (λw5 a8 q5 z5=>?_) (h1:=(by first|(simp[Value.oneCell',S];done)|exact z2v.one _));refine nn (sr (z0k U a8 z6u ?_));replace J:=O.ext (q1.z4 q2 q3 q4 q5);refine cl (ev1 U) j6s (z9l (s.ys.getD i yq0) _ (J.ya i)) U ?_;rintro _ w6 ⟨rfl,q6⟩;have z6:=q6.size;refine asg U (nn (sr (mv U (ne' U (nn (cd U (λc4=>?_) (λc4=>?_)))))));refine sr (mv U (asg U (kpL [(2,_)] (.cons U .nil) (nn (rt (rb (tr (tr (rb (tr (r1 results16 U ?_)))))))))));have b4:¬y1q (s.ys.getD i yq0).p:=λh=>c4 (j8k h);exact⟨_,rfl,by unfold v8c;rw[if_neg (by omega),if_neg (by omega),if_neg (by omega),if_pos ⟨i,by omega,b4⟩,u9f b4],(q1.z5 q2 q3 q4 q5 q6)⟩;refine sk (bn' (tn (rg (z0v U (wi6 (by omega)) (mv U (nl ?_))))));exact lpE (i+1) (.c4 U U U U) ⟨(q3.z3 q4 q5 q6),⟨by omega,λk h=>by
  by_cases e:k=i;subst e;exact Classical.byContradiction λh=>c4 (by rw[u9f h];decide);exact a5 k (by omega)⟩⟩ (by omega)
 obtain rfl:i=6:=by omega
 refine ex (te (te (xh (tn (sq (sr (fad U z9k ?_)))))));replace D:=D.ext q3;refine z1q (vs:=[_,_,_,_]) U D x7e U ?_;replace J:=O.ext (q1.n2 q2 q3);refine cl (ev1 U) (mkC func45) (b7 _ J.f) U ?_;rintro _ w7 ⟨rfl,q7⟩;have z7:=q7.size;refine asg U (kpL [(1,_),(7,_)] (.c2 U U) (nn (sr (mv U (ne' U (nn (cd U (λc5=>?_) (λc5=>?_))))))));refine sr (mv U (asg U (nn (rt (tr (r1 results16 U ?_))))));have Z:¬ ∃i,i<6/\¬y1q (s.ys.getD i yq0).p:=λ⟨k,hk,h⟩=>h (a5 k (by omega));exact⟨_,rfl,by unfold v8c;rw[if_neg (by omega),if_neg (by omega),if_neg (by omega),if_neg Z,if_pos c5],(q1.n3 q2 q3 q7)⟩;have d0:ef=0:=by omega
 have e5:=b3 d0;refine sk (tn (sq (sq ?_)));replace J:=O.ext (q1.n3 q2 q3 q7);intro a h;refine z0j none (λwb w'=>Fr [] wb w') z2s ?_;intro w8 q8;have z8:=q8.size;replace J:=J.ext q8;replace D:=D.ext (q7.n1 q8);have hC:Fr [] w8 w8:=Fr.refl _ _;have a1:=J;have I:=D;refine z0c 0 h U z9k U λa h=>z8p 1 hC h wn U y6g U λa h=>z0l 2 h U (λ_ hw=>I.ext hw) U z6c U λa h=>z0c 3 h U y4a U λa h=>z1e (vs:=[_,_]) 4 h U (λ_ hw=>(I.ext hw)) z5x U U λa h=>z0c 5 h U y3u U λa h=>z0l 6 h U (λ_ hw=>I.ext hw) U na3 U λa h=>z0d 7 U ?_;refine z0m h (z0a U (z0a U z0f)) (mkC func47) (y4k s.q s.rk _ J.b (hB c9) hr) ?_;rintro _ w9 ⟨⟨e1,e9,e0,rfl,d9,hH⟩,q9⟩ a h;have z9:=q9.size;replace J:=J.ext q9;replace hC:=hC.next q9;refine z0b ?_;refine z0d 8 U ?_;refine z0m h (z0a U (z0a U z0f)) j7a (y5k _ _ s.fb.hs ((z2f s.q.p s.rk).map Hd.id) _ J.f.h hH.sl d1) ?_;rintro _ d4 ⟨rfl,M⟩ a h;have f3:=M.size;replace J:=J.ext M;replace D:=D.ext (q9.n1 M);replace hH:=hH.ext M;replace hC:=hC.next M;refine z0b ?_;refine x8s 9 hC h wn U U U λa h=>z0r ?_;clear hC a1 I;refine bk (h.sub (L':=[(1,_),(56,_)]) (.c2 U U)) (tn (cd U (λc6=>?_) (λc6=>?_)));refine sr (asg U (nn (rt (tr (r1 results16 U ?_)))));have Z:¬ ∃i,i<6/\¬y1q (s.ys.getD i yq0).p:=λ⟨k,hk,h⟩=>h (a5 k (by omega));exact⟨_,rfl,by unfold v8c;rw[if_neg (by omega),if_neg (by omega),if_neg (by omega),if_neg Z,if_neg (by omega),if_pos c6],(q1.n6 q2 q3 q7 q8 q9 M)⟩;refine sk (tn (sq (sr (fad U z8v (z0g U D U y0q (lnS U underlying33 (mv U (nn (bl ?_)))))))));refine lpK (ι:=Nat) [(1,_),(58,_),(59,_)] (λi=>[(60,.int .i64 (i:Int))]) (λi w'=>Fr [] d4 w'/\i<=6/\∀k,k<i->(s.ys.getD k yq0).ct=((s.fb.ts.getD k tq0).2.length:Int)) (λi=>6-i) 0 (.c4 U U U U) ⟨Fr.refl _ _,⟨Nat.zero_le _,λk h=>absurd h (by omega)⟩⟩ ?_;rintro i f0 ⟨a0,⟨hi,b2⟩⟩;have f4:=a0.size;refine kpC [(1,_),(58,_),(59,_),(60,_)] (.c4 U U U U) (sr (lt' U (nn (sq (cd U (λc7=>?_) (λc7=>?_))))));refine sk (tn (sq (bl (sr (mv U ?_)))));replace J:=O.ext ((q1.n6 q2 q3 q7 q8 q9 M).n1 a0);refine z1a (yq0) U J.y U y0y z1d (λd6 b0=>?_);refine z1j U (b0 _ J.y) z6u (al y1y U (λg9 f1 e4 a3 a6 f5=>?_));refine asg U (z0i (vs:=[_,_,_,_,_]) U a3 z7k (λf2 a3 a7 f6=>?_) (h1:=(by first|(simp[Value.oneCell',S];done)|exact z2v.one _)));refine nn (sq ?_);replace J:=O.ext ((((q1.n6 q2 q3 q7 q8 q9 M).n1 a0).n1 a6).z1 a7);replace D:=(D.ext (a0.n1 a6)).fr a7;intro a h;refine z0j none (λwb w'=>Fr [] wb w') z2s ?_;intro b5 a2;have f7:=a2.size;replace J:=J.ext a2;replace D:=D.ext a2;replace a3:=a3.ext a2;have hC:Fr [] b5 b5:=Fr.refl _ _;have a1:=J;have I:=D;have a4:=a3;refine z0c 0 h U z9v U λa h=>z0l 1 h U (λ_ hw=>a4.ext hw) U na3 U λa h=>z0c 2 h U z9k U λa h=>z8p 3 hC h wn U z9m U λa h=>z0l 4 h U (λ_ hw=>I.ext hw) U x3c U λa h=>z0e 5 h U λa h=>z1h (tq0) 6 h U J.f.t U y7d U ?_ (hp:=rfl);clear h a;intro d7 b1 a h;refine z3p 7 h U (λ_ hw=>b1 _ (a1.f.t.ext hw)) x4i U λa h=>z8r 8 hC h wn U underlying46 U λa h=>j5p 9 hC h wn U U U U λa h=>z0r ?_;clear hC a1 I a4;refine bk (h.sub (L':=[(1,_),(58,_),(59,_),(60,_),(74,_)]) (.c5 U U U U U)) (tn (cd U (λc8=>?_) (λc8=>?_)));refine sr (asg U (nn (rt (rb (tr (tr (rb (tr (r1 results16 U ?_)))))))));have Z:¬ ∃i,i<6/\¬y1q (s.ys.getD i yq0).p:=λ⟨k,hk,h⟩=>h (a5 k (by omega));have b8:(s.ys.getD i yq0).ct≠((s.fb.ts.getD i tq0).2.length:Int):=by simp only[Int.toNat_natCast]at c8;have d3:=z1u (O.f.tt _ (z0t (d:=tq0) (i:=i) (by omega))).1;omega
 exact⟨_,rfl,by unfold v8c;rw[if_neg (by omega),if_neg (by omega),if_neg (by omega),if_neg Z,if_neg (by omega),if_neg c6,if_pos ⟨i,by omega,b8⟩],((((q1.n6 q2 q3 q7 q8 q9 M).n1 a0).n1 a6).z2 a7 a2)⟩;refine sk (bn' (tn (rg (z0v U (wi6 (by omega)) (mv U (nl ?_))))));exact lpE (i+1) (.c4 U U U U) ⟨(a0.z3 a6 a7 a2),⟨by omega,λk h=>by
  by_cases e:k=i;subst e;simp only[Int.toNat_natCast]at c8;have d3:=z1u (O.f.tt _ (z0t (d:=tq0) (i:=k) (by omega))).1;omega;exact b2 k (by omega)⟩⟩ (by omega)
 obtain rfl:i=6:=by omega
 refine ex (te (te (xh (tn (sr (asg U (nn (rt (r1 results16 U ?_)))))))));have Z:¬ ∃i,i<6/\¬y1q (s.ys.getD i yq0).p:=λ⟨k,hk,h⟩=>h (a5 k (by omega));have b9:¬ ∃i,i<6/\(s.ys.getD i yq0).ct≠((s.fb.ts.getD i tq0).2.length:Int):=λ⟨k,hk,h⟩=>h (b2 k (by omega));exact⟨_,rfl,by unfold v8c;rw[if_neg (by omega),if_neg (by omega),if_neg (by omega),if_neg Z,if_neg (by omega),if_neg c6,if_neg b9],((q1.n6 q2 q3 q7 q8 q9 M).n1 a0)⟩
theorem j3v {s:StQ}(M:-4<=s.rk/\s.rk<=4)(J:s.ys.length=6)(D:∀i,i<6->y1q (s.ys.getD i yq0).p/\(s.ys.getD i yq0).ct=((s.fb.ts.getD i tq0).2.length:Int))(I:s.fb.hs=(z2f s.q.p s.rk).map Hd.id):v8c s 0 0=0:=by
 unfold v8c;rw[if_neg (by omega),if_neg (by decide),if_neg (by omega),if_neg (λ⟨k,hk,h⟩=>h (D k hk).1),if_neg (by decide),if_neg (λh=>h I),if_neg (λ⟨k,hk,h⟩=>h (D k hk).2)]
theorem v6s (s:StQ)(w0:World)(hS:StAt w0 s)(hr:-4<=s.rk/\s.rk<=4)(Z:BdOk s.q.p)(M:s.ys.length=6)(J:s.fb.ts.length=6)(O:∀i,i<6->y1q (s.ys.getD i yq0).p/\(s.ys.getD i yq0).ct=((s.fb.ts.getD i tq0).2.length:Int))(D:∀w,FbAt w s.fb->Rets prog 45 #[.agg #[.slice s.fb.t.1 s.fb.t.2.1 s.fb.t.2.2,.slice s.fb.c.1 s.fb.c.2.1 s.fb.c.2.2,.slice s.fb.h.1 s.fb.h.2.1 s.fb.h.2.2,.slice s.fb.f.1 s.fb.f.2.1 s.fb.f.2.2]] w λr w'=>r=.int .i64 0/\Fr [] w w')(hh:s.fb.hs=(z2f s.q.p s.rk).map Hd.id)(I:s.fb.hs.length<=100000):Rets prog 16 #[.agg #[.int .i64 s.rk,.slice s.q.f.1 s.q.f.2.1 s.q.f.2.2,.slice s.q.b.1 s.q.b.2.1 s.q.b.2.2,.slice s.yv.1 s.yv.2.1 s.yv.2.2,.slice s.fb.t.1 s.fb.t.2.1 s.fb.t.2.2,.slice s.fb.c.1 s.fb.c.2.1 s.fb.c.2.2,.slice s.fb.h.1 s.fb.h.2.1 s.fb.h.2.2,.slice s.fb.f.1 s.fb.f.2.1 s.fb.f.2.2]] w0 λr w'=>r=.int .i64 0/\Fr [] w0 w':=by
 have x:=u4e s 0 0 w0 hS (λw h=>x0l s.q w h Z) (λ_=>Z) (λ_=>J) D I;rw[j3v hr M O hh]at x;exact x
end Go.Proofs.YtpgdchkdlgkmgaaGreatDoor
namespace Go.Proofs.YtpgdchkdlgkmgaaGreatDoor
open Go.Lw Go.G21 Go.G08 _root_.Go.Proofs.Tryz
theorem j7j:ElemOf prog 29 28 z4n 40:=ElemOf.mk' (z:=(.agg #[.int .u8 0,.int .u8 0,.int .u8 0,.int .i64 0,.int .u8 0,.int .i64 0])) underlying29 (by kernel_rfl) U
theorem x4y:z1p prog 28 6:=λ_=>by kernel_rfl
theorem v1y (w:World):(zeroValue 28).run prog w=.ok (.agg #[(.int .u8 0),(.int .u8 0),(.int .u8 0),(.int .i64 0),(.int .u8 0),(.int .i64 0)]) w:=by kernel_rfl
theorem x9w {D p q:MSt}{o:MOp}:∀ {l:List MOp} {i:Nat},z6z i D l=.ok p->doM p o=.ok q->z6z i D (l++[o])=.ok q
 | [],i,h,h2=>by cases h;show z6z i D [o]=_;unfold z6z;rw[h2];rfl
 | x::l,i,h,h2=>by
  unfold z6z at h
  show z6z i D (x::(l++[o]))=_
  unfold z6z
  split at h
  ·cases h
  rename_i J I
  exact x9w h h2
theorem v2t {D p:MSt}{e:Int}{o:MOp}:∀ {l r:List MOp} {i:Nat},z6z i D l=.ok p->doM p o=.error e->z6z i D (l++o::r)=.error (e,i+l.length)
 | [],r,i,h,h2=>by cases h;show z6z i D (o::r)=_;unfold z6z;rw[h2];rfl
 | x::l,r,i,h,h2=>by
  unfold z6z at h
  show z6z i D (x::(l++o::r))=_
  unfold z6z
  split at h
  ·cases h
  rename_i J I
  have:=v2t (r:=r) h h2
  simp only[this,List.length_cons]
  congr 2;omega
set_option maxHeartbeats 2000000 in
theorem j0r (s:StQ)(v:Value)(l:List MOp)(p0:MSt)(w0:World)(hS:StAt w0 s)(d1:StSz s)(d5:(s.fb.cs.map cxK).Nodup)(b2:p0=(⟨s.rk,⟨trimB (plB s.q.fs),trimB (plB s.q.bs)⟩,s.ys.map YQ.p,z1v s.fb.ts,s.fb.cs,s.fb.fs⟩:MSt))(d6:MInv p0)(hv:Sl z4n w0 v l)(d3:StT w0)(f7:l.length<=4096)(b0:∀w,StAt w s->Rets prog 16 #[.agg #[.int .i64 s.rk,.slice s.q.f.1 s.q.f.2.1 s.q.f.2.2,.slice s.q.b.1 s.q.b.2.1 s.q.b.2.2,.slice s.yv.1 s.yv.2.1 s.yv.2.2,.slice s.fb.t.1 s.fb.t.2.1 s.fb.t.2.2,.slice s.fb.c.1 s.fb.c.2.1 s.fb.c.2.2,.slice s.fb.h.1 s.fb.h.2.1 s.fb.h.2.2,.slice s.fb.f.1 s.fb.f.2.1 s.fb.f.2.2]] w λr w'=>r=.int .i64 0/\Fr [] w w')(d4:∀p,z6z 0 p0 l=.ok p->p.cr.length<=100000000):Rets prog 9 #[.agg #[.int .i64 s.rk,.slice s.q.f.1 s.q.f.2.1 s.q.f.2.2,.slice s.q.b.1 s.q.b.2.1 s.q.b.2.2,.slice s.yv.1 s.yv.2.1 s.yv.2.2,.slice s.fb.t.1 s.fb.t.2.1 s.fb.t.2.2,.slice s.fb.c.1 s.fb.c.2.1 s.fb.c.2.2,.slice s.fb.h.1 s.fb.h.2.1 s.fb.h.2.2,.slice s.fb.f.1 s.fb.f.2.1 s.fb.f.2.2],v] w0 λr w'=>(match z6z 0 p0 l with|.error (e,n)=>r=.tuple #[.agg #[.int .i64 0,.slice none 0 0,.slice none 0 0,.slice none 0 0,.slice none 0 0,.slice none 0 0,.slice none 0 0,.slice none 0 0],.int .i64 (n:Int),.int .i64 e]|.ok p=>∃s':StQ,r=.tuple #[.agg #[.int .i64 s'.rk,.slice s'.q.f.1 s'.q.f.2.1 s'.q.f.2.2,.slice s'.q.b.1 s'.q.b.2.1 s'.q.b.2.2,.slice s'.yv.1 s'.yv.2.1 s'.yv.2.2,.slice s'.fb.t.1 s'.fb.t.2.1 s'.fb.t.2.2,.slice s'.fb.c.1 s'.fb.c.2.1 s'.fb.c.2.2,.slice s'.fb.h.1 s'.fb.h.2.1 s'.fb.h.2.2,.slice s'.fb.f.1 s'.fb.f.2.1 s'.fb.f.2.2],.int .i64 (l.length:Int),.int .i64 0]/\StO τd 109 w0.heap.size w' s'/\s'.p=stM p)/\Fr [] w0 w':=by
 obtain⟨A,c,rfl,f2,c9,hA⟩:=id hv;clear hA;unfold maxLen at c9;refine we [(0,.agg #[.int .i64 s.rk,.slice s.q.f.1 s.q.f.2.1 s.q.f.2.2,.slice s.q.b.1 s.q.b.2.1 s.q.b.2.2,.slice s.yv.1 s.yv.2.1 s.yv.2.2,.slice s.fb.t.1 s.fb.t.2.1 s.fb.t.2.2,.slice s.fb.c.1 s.fb.c.2.1 s.fb.c.2.2,.slice s.fb.h.1 s.fb.h.2.1 s.fb.h.2.2,.slice s.fb.f.1 s.fb.f.2.1 s.fb.f.2.2]),(1,.slice A l.length c)] func9 U ntmps9 U (.c2 U U) ?_;have a7:=hS;have e2:=hv;refine sr (bx U (λg2 w1 f3 I q1 z1=>(al x2t U (λg4 w2 f4 D q2 z2=>(asg U (asg U (nn (sq (sr (mv U (lnS U underlying29 (gt' U (nn (cd U (λc0=>?_) (λc0=>?_)))))))))))))));refine sr (z1s (cs:=[_,_,_,_,_,_,_,_]) z0f v4f z0q U ?_);refine z0i (vs:=[_,_,_,_,_,_,_,_]) U D y1b (λw3 D q3 z3=>(asg U (asg U (nn (rt (tr (j8l results9 U D z9a U U ?_)))))));exfalso;omega;refine sk (tn (sq (sr ?_)));replace I:=I.ext q2;refine z0k U I z9a ?_;replace hS:=a7.ext (q1.n1 q2);refine cl (ev1 U) (mkC func16) (b0 _ hS) U ?_;rintro _ w4 ⟨rfl,q4⟩;have z4:=q4.size;refine asg U (nn (sr (mv U (ne' U (nn (cd U (λc1=>?_) (λc1=>?_)))))));refine sr (z1s (cs:=[_,_,_,_,_,_,_,_]) z0f v4f z0q U ?_);refine mv U ?_;replace D:=D.ext q4;refine z0i (vs:=[_,_,_,_,_,_,_,_]) U D y1b (λw5 D q5 z5=>(asg U (asg U (kpL [(4,_),(5,_),(6,_)] (.c3 U U U) (nn (rt (tr (j8l results9 U D z9a U U ?_))))))));exact absurd U (by assumption);refine sk (tn (sr ?_));replace I:=I.ext q4;refine z0k U I z9a ?_;replace hS:=a7.ext (q1.n2 q2 q4);replace D:=D.ext q4;refine cl (z0a U z0f) (mkC func25) (v3n s _ hS d1 d5) U ?_;rintro _ w6 ⟨ka,m,rfl,J,b1⟩;have q6:=J.fr.fr;have z6:=q6.size;have a0:=D;have e9:=J.c.lt;have a1:=J;refine cl z0f (mkC func26) (v8i _) U ?_;rintro _ w7 ⟨⟨gl,rfl,f5,hl⟩,q7⟩;have z7:=q7.size;refine asg U (asg U (kpL [(1,_),(4,_),(8,_),(9,_)] (.c4 U U U U) (nn (sq (sr (mv U (lnS U underlying29 (mv U (nn (bl ?_))))))))));replace J:=a1.ext q7;refine lpK (ι:=Nat) [(1,_),(4,_),(8,_),(9,_),(26,_),(27,_)] (λi=>[(28,.int .i64 (i:Int))]) (λi w'=>Fr [] w4 w'/\i<=l.length/\∃m:MQ,MkM τd 137 w4 ka w' m/\z6z 0 p0 (l.take i)=.ok m.p/\MInv m.p/\MapF kV w' gl j5f) (λi=>l.length-i) 0 (.c7 U U U U U U U) ⟨(q6.n1 q7),⟨Nat.zero_le _,m,J,by rw[b1,<-b2];rfl,by rw[b1,<-b2];exact d6,hl⟩⟩ ?_;rintro i w8 ⟨q8,⟨f6,m,J,O,a2,hl⟩⟩;have z8:=q8.size;have a1:=J;refine kpC [(1,_),(4,_),(8,_),(9,_),(26,_),(27,_),(28,_)] (.c7 U U U U U U U) ?_;have f0:gl<w8.heap.size:=by obtain⟨_,_,_,b6,_⟩:=hl;exact(Array.getElem?_eq_some_iff.1 b6).1
 refine sr (lt' U (nn (sq (cd U (λc2=>?_) (λc2=>?_)))));have a4:i<l.length:=by omega
 refine sk (tn (sq (bl (sr (mv U ?_)))));replace hv:=e2.ext (q1.n3 q2 q4 q8);refine z1a (op0) U hv U j7j z1d (λe7 a9=>?_);refine z1j U (a9 _ hv) y2a (al v1y U (λf1 w9 e8 M q9 z9=>(asg U (z0i (vs:=[_,_,_,_,_,_]) U M x4y (λe4 M b3 g1=>(nn (sr (mv U (mv U (z0k U M y2a ?_))))))))));replace J:=a1.ext (q9.z1 b3);replace hl:=(hl.ext q9).fr b3 (by simp only[List.mem_singleton];omega);have b9:=J.fr;refine cl (z0a U (z0a U (z0a U z0f))) (mkC func27) (u4u w4 { ka with wk:=e4 } m (l.getD i op0) gl _ J.mark a2 (d3.ext (q1.n2 q2 q4)) hl) U ?_;intro _ f8 hR;obtain⟨rfl,Z,m1,d7⟩:=hR.split;have e6:=Z.kp.size;simp only at e6;have b4:=Z.fr;replace hl:=Z.kp.mapF hl (by simp only;omega);refine asg U (nn (sr (mv U (ne' U (nn (cd U (λc3=>?_) (λc3=>?_)))))));have D:=a0.ext Z.fr;refine sr (z1s (cs:=[_,_,_,_,_,_,_,_]) z0f v4f z0q U ?_);refine mv U (mv U (z0i (vs:=[_,_,_,_,_,_,_,_]) U D y1b (λf9 D e3 g3=>(asg U (asg U (kpL [(4,_),(5,_),(6,_)] (.c3 U U U) (nn (rt (rb (tr (tr (rb (tr (j8l results9 U D z9a U U ?_))))))))))))));have e0:z6z 0 p0 l=.error (v2a (doM m.p (l.getD i op0)),i):=by
  have x:=v2t (r:=l.drop (i+1)) O (z6i c3);have e:l.take i++l.getD i op0::l.drop (i+1)=l:=by
   rw[List.getD,List.getElem?_eq_getElem a4,Option.getD_some,<-List.drop_eq_getElem_cons a4,List.take_append_drop]
  rw[e,List.length_take,Nat.min_eq_left (by omega),Nat.zero_add]at x;exact x
 exact⟨_,rfl,by rw[e0],(q1.z4 q2 q4 b4 e3)⟩;obtain⟨b8,a3⟩:=d7 (Classical.not_not.1 c3);have a6:=b8.unmark b9;obtain⟨m2,d9⟩:∃m2,m2=m1:=⟨_,rfl⟩;rw[<-d9]at a6 a3;refine sk (bn' (tn (rg (z0v U (wi6 (by omega)) (mv U (nl ?_))))));exact lpE ((i+1)) (.c7 U U U U U U U) ⟨b4,⟨by omega,m2,a6,by rw[show l.take (i+1)=l.take i++[l.getD i op0] by rw[List.take_add_one,List.getD,List.getElem?_eq_getElem a4];rfl];exact x9w O a3,x7r a2 a3,hl⟩⟩ (by omega);obtain rfl:i=l.length:=by omega
 rw[List.take_length]at O;refine ex (te (te (xh (tn (sr (mv U (cl (z0a U z0f) (mkC func28) (x3s w4 ka m _ J a2 (d4 _ O)) U ?_)))))));rintro _ g0 ⟨s',rfl,d0,e1,a5⟩;have g5:=a5.size;have D:=a0.ext a5;have a8:=D;refine mv U (lnS U underlying29 (z0i (vs:=[_,_,_,_,_,_,_,_]) U D y1b (λe5 D b5 g6=>(asg U (asg U (kpL [(4,_),(5,_),(6,_)] (.c3 U U U) (nn (rt (j8l results9 U D z9a U U ?_)))))))));have b7:Fr [] _ e5:=(Fr.refl _ _);exact⟨_,rfl,by rw[O];exact⟨s',rfl,((d0.off a8 (by decide) b5).ext b7).low (by omega),e1⟩,(q1.z4 q2 q4 a5 b5)⟩
theorem y4v (y:Nat):z2t (z1v (List.replicate 6 tq0)) y=0:=by
 unfold z2t;show ((List.replicate 6 ([]:List Lp)).getD y []).length=0;rw[List.getD,List.getElem?_replicate];split<;>rfl
theorem u5u:TabV (z1v (List.replicate 6 tq0)):=by
 refine⟨⟨rfl,by decide,λy _ n D=>(by rw[y4v y]at D;omega),⟨λ_=>0,?_⟩⟩,λi=>?_⟩;exact⟨λy _ n D=>(by rw[y4v y]at D;omega),λy _ n m _ I=>(by rw[y4v y]at I;omega)⟩;have e:z9f (z1v (List.replicate 6 tq0))=[]:=by rfl
 rw[e];exact Nat.zero_le _
theorem j0e (I D:Nat)(w:World)(h:StAt w (st0 I D)):Rets prog 16 #[.agg #[.int .i64 (st0 I D).rk,.slice (st0 I D).q.f.1 (st0 I D).q.f.2.1 (st0 I D).q.f.2.2,.slice (st0 I D).q.b.1 (st0 I D).q.b.2.1 (st0 I D).q.b.2.2,.slice (st0 I D).yv.1 (st0 I D).yv.2.1 (st0 I D).yv.2.2,.slice (st0 I D).fb.t.1 (st0 I D).fb.t.2.1 (st0 I D).fb.t.2.2,.slice (st0 I D).fb.c.1 (st0 I D).fb.c.2.1 (st0 I D).fb.c.2.2,.slice (st0 I D).fb.h.1 (st0 I D).fb.h.2.1 (st0 I D).fb.h.2.2,.slice (st0 I D).fb.f.1 (st0 I D).fb.f.2.1 (st0 I D).fb.f.2.2]] w λr w'=>r=.int .i64 0/\Fr [] w w':=
 v6s (st0 I D) w h (by show (-4:Int)<=0/\(0:Int)<=4;omega) y1h.B U U (λi _=>by
  have M:(st0 I D).ys.getD i yq0=yq0:=by
   show (List.replicate 6 yq0).getD i yq0=yq0
   rw[List.getD,List.getElem?_replicate];split<;>rfl
  have O:(st0 I D).fb.ts.getD i tq0=tq0:=by
   show (List.replicate 6 tq0).getD i tq0=tq0
   rw[List.getD,List.getElem?_replicate];split<;>rfl
  rw[M,O];exact⟨by decide,rfl⟩) (λw Z=>y8z (st0 I D).fb w Z U u5u ⟨λi J=>absurd J (Nat.not_lt_zero i),λi _ J=>absurd J (Nat.not_lt_zero i)⟩ ⟨λi J=>(by cases J),λi _ J=>absurd J (Nat.not_lt_zero i),λy _ n hn=>(by rw[show z2t (z1v (st0 I D).fb.ts) y=0 from y4v y]at hn;omega),u5u.thr⟩) U (Nat.zero_le _)
theorem v8j (I D:Nat)(v:Value)(l:List MOp)(w0:World)(O:StAt w0 (st0 I D))(Z:Sl z4n w0 v l)(J:StT w0)(M:l.length<=4096):Rets prog 9 #[.agg #[.int .i64 (st0 I D).rk,.slice (st0 I D).q.f.1 (st0 I D).q.f.2.1 (st0 I D).q.f.2.2,.slice (st0 I D).q.b.1 (st0 I D).q.b.2.1 (st0 I D).q.b.2.2,.slice (st0 I D).yv.1 (st0 I D).yv.2.1 (st0 I D).yv.2.2,.slice (st0 I D).fb.t.1 (st0 I D).fb.t.2.1 (st0 I D).fb.t.2.2,.slice (st0 I D).fb.c.1 (st0 I D).fb.c.2.1 (st0 I D).fb.c.2.2,.slice (st0 I D).fb.h.1 (st0 I D).fb.h.2.1 (st0 I D).fb.h.2.2,.slice (st0 I D).fb.f.1 (st0 I D).fb.f.2.1 (st0 I D).fb.f.2.2],v] w0 λr w'=>(match z6z 0 G08.start l with|.error (e,n)=>r=.tuple #[.agg #[.int .i64 0,.slice none 0 0,.slice none 0 0,.slice none 0 0,.slice none 0 0,.slice none 0 0,.slice none 0 0,.slice none 0 0],.int .i64 (n:Int),.int .i64 e]|.ok p=>∃s':StQ,r=.tuple #[.agg #[.int .i64 s'.rk,.slice s'.q.f.1 s'.q.f.2.1 s'.q.f.2.2,.slice s'.q.b.1 s'.q.b.2.1 s'.q.b.2.2,.slice s'.yv.1 s'.yv.2.1 s'.yv.2.2,.slice s'.fb.t.1 s'.fb.t.2.1 s'.fb.t.2.2,.slice s'.fb.c.1 s'.fb.c.2.1 s'.fb.c.2.2,.slice s'.fb.h.1 s'.fb.h.2.1 s'.fb.h.2.2,.slice s'.fb.f.1 s'.fb.f.2.1 s'.fb.f.2.2],.int .i64 (l.length:Int),.int .i64 0]/\StO τd 109 w0.heap.size w' s'/\s'.p=stM p)/\Fr [] w0 w':=
 j0r (st0 I D) v l G08.start w0 O (j4g I D) List.nodup_nil U y1h Z J M (j0e I D) (λp e=>by
  have x:=x8p y1h e
  have y:(G08.start).cr.length=0:=rfl
  omega)
def u1r (l:List MOp):Int:=match z6z 0 G08.start l with
  | .error (e,_)=>e
  | .ok _=>0
abbrev stZ:StQ:=⟨0,⟨sv0,sv0,[],[]⟩,sv0,[],⟨sv0,sv0,sv0,sv0,[],[],[],[]⟩⟩
theorem j1x (base:Nat)(w:World):StO τd 109 base w stZ:=
 ⟨⟨⟨Own.nil w,λq I=>(by cases I)⟩,⟨Own.nil w,λq I=>(by cases I)⟩⟩,⟨Own.nil w,λi D=>(by cases D)⟩,⟨Own.nil w,λi D=>(by cases D),λi j D=>(by cases D),λi D=>(by cases D)⟩,Own.nil w,Own.nil w,Own.nil w⟩
theorem u9n (I D:Nat)(v:Value)(l:List MOp)(w0:World)(hS:StAt w0 (st0 I D))(hv:Sl z4n w0 v l)(J:StT w0)(M:l.length<=4096):Rets prog 9 #[.agg #[.int .i64 (st0 I D).rk,.slice (st0 I D).q.f.1 (st0 I D).q.f.2.1 (st0 I D).q.f.2.2,.slice (st0 I D).q.b.1 (st0 I D).q.b.2.1 (st0 I D).q.b.2.2,.slice (st0 I D).yv.1 (st0 I D).yv.2.1 (st0 I D).yv.2.2,.slice (st0 I D).fb.t.1 (st0 I D).fb.t.2.1 (st0 I D).fb.t.2.2,.slice (st0 I D).fb.c.1 (st0 I D).fb.c.2.1 (st0 I D).fb.c.2.2,.slice (st0 I D).fb.h.1 (st0 I D).fb.h.2.1 (st0 I D).fb.h.2.2,.slice (st0 I D).fb.f.1 (st0 I D).fb.f.2.1 (st0 I D).fb.f.2.2],v] w0 λr w'=>(∃(s':StQ) (n:Nat),r=.tuple #[.agg #[.int .i64 s'.rk,.slice s'.q.f.1 s'.q.f.2.1 s'.q.f.2.2,.slice s'.q.b.1 s'.q.b.2.1 s'.q.b.2.2,.slice s'.yv.1 s'.yv.2.1 s'.yv.2.2,.slice s'.fb.t.1 s'.fb.t.2.1 s'.fb.t.2.2,.slice s'.fb.c.1 s'.fb.c.2.1 s'.fb.c.2.2,.slice s'.fb.h.1 s'.fb.h.2.1 s'.fb.h.2.2,.slice s'.fb.f.1 s'.fb.f.2.1 s'.fb.f.2.2],.int .i64 (n:Int),.int .i64 (u1r l)]/\StO τd 109 w0.heap.size w' s'/\∀p,z6z 0 G08.start l=.ok p->s'.p=stM p)/\Fr [] w0 w':=
 Rets.mono (v8j I D v l w0 hS hv J M) (by
  rintro r w' ⟨h,hf⟩
  refine⟨?_,hf⟩
  unfold u1r
  cases e:z6z 0 G08.start l with
  | error x=>
   obtain⟨e1,n⟩:=x
   rw[e]at h
   exact⟨stZ,n,h,j1x _ _,λp hp=>by cases hp⟩
  | ok p=>
   rw[e]at h
   obtain⟨s',O,Z,h3⟩:=h
   exact⟨s',l.length,O,Z,λq hq=>by cases hq;exact h3⟩)
theorem x7i (v:Value)(l:List MOp)(w0:World)(O:Sl z4n w0 v l)(a2:StT w0)(a3:l.length<=4096):Rets prog 14 #[v] w0 λr w'=>(∃s':StQ,r=.tuple #[.agg #[.slice s'.fb.t.1 s'.fb.t.2.1 s'.fb.t.2.2,.slice s'.fb.c.1 s'.fb.c.2.1 s'.fb.c.2.2,.slice s'.fb.h.1 s'.fb.h.2.1 s'.fb.h.2.2,.slice s'.fb.f.1 s'.fb.f.2.1 s'.fb.f.2.2],.int .i64 (u1r l)]/\StO τd 109 w0.heap.size w' s'/\∀p,z6z 0 G08.start l=.ok p->s'.p=stM p)/\Fr [] w0 w':=by
 obtain⟨A,c,rfl,a7,a0,hA⟩:=id O;clear hA;unfold maxLen at a0;refine we [(0,.slice A l.length c)] func14 U ntmps14 U (.cons U .nil) ?_;have a5:=O;refine sr (al v9d U (λg2 w1 a8 D q1 z1=>(asg U (nn (sr (cl z0f (mkC func10) (y5g _) U ?_))))));rintro _ w2 ⟨⟨gy,gt,rfl,hS⟩,q2⟩;have z2:=q2.size;have a6:=hS;refine mv U ?_;replace O:=a5.ext (q1.n1 q2);refine cl (ev2 U) (mkC func9) (u9n gy gt _ l _ hS O (a2.ext (q1.n1 q2)) a3) U ?_;rintro _ w3 ⟨⟨s',n,rfl,hO,a4⟩,q3⟩;have z3:=q3.size;replace D:=D.ext (q2.n1 q3);have M:=D;have a1:=hO;refine mv U (xt U (xt U (xt U (al x2t U (λg4 w4 a9 I q4 z4=>(z0i (vs:=[_,_,_,_,_,_,_,_]) U I y1b (λw5 I q5 z5=>(asg U (asg U (kpL [(2,_),(4,_),(6,_)] (.c3 U U U) (nn (sr (fad U z9k (z1q (vs:=[_,_,_,_]) U I x7e U (mv U ?_)))))))))))))));replace D:=(D.ext q4).fr q5;refine z0i (vs:=[_,_,_,_]) U D v9f (λw6 D q6 z6=>(asg U (nn (rt (rCT results14 U D x7e U ?_)))));have J:Fr [] _ _:=(q4.z1 q5);have Z:Fr [] _ w6:=(Fr.refl _ _);exact⟨_,rfl,⟨s',rfl,(((a1.ext J).off (M.ext J) (by decide) q6).ext Z).low (by omega),a4⟩,(q1.z5 q2 q3 q4 q5 q6)⟩
end Go.Proofs.YtpgdchkdlgkmgaaGreatDoor
namespace Go.Proofs
open Go.Shelf
def Tryz.lays169_ren:Go.Shelf.Ren:=⟨fun|169=>88|n=>n,fun|70=>149|9=>9|0=>0|72=>152|37=>150|127=>221|3=>3|5=>5|n=>n,fun|n=>n⟩
theorem Tryz.lays169:Go.Proofs.Lays.n169 Tryz.prog Tryz.lays169_ren:={
 mixed:=by kernel_rfl
 f169:=Tryz.func88.trans (congrArg some (by kernel_rfl))
 t0:=Tryz.underlying0
 a0:=Tryz.isAgg0
 z0:=Tryz.sizeOf0
 v0:=Tryz.zeroValue0
 t3:=Tryz.underlying3
 a3:=Tryz.isAgg3
 z3:=Tryz.sizeOf3
 v3:=Tryz.zeroValue3
 t9:=Tryz.underlying9
 a9:=Tryz.isAgg9
 z9:=Tryz.sizeOf9
 v9:=Tryz.zeroValue9
 t37:=Tryz.underlying150
 a37:=Tryz.isAgg150
 z37:=Tryz.sizeOf150
 v37:=Tryz.zeroValue150
 t70:=Tryz.underlying149
 a70:=Tryz.isAgg149
 z70:=Tryz.sizeOf149
 v70:=Tryz.zeroValue149
 t72:=Tryz.underlying152
 a72:=Tryz.isAgg152
 z72:=Tryz.sizeOf152
 v72:=Tryz.zeroValue152
 t127:=Tryz.underlying221
 a127:=Tryz.isAgg221
 z127:=Tryz.sizeOf221
 v127:=Tryz.zeroValue221 }
theorem Tryz.Builder_Extra_169:Builder.Extra Tryz.prog Tryz.lays169_ren:={
 sizeBuilder:=by kernel_rfl
 liesBuilder:=by kernel_rfl
 t5:=Tryz.underlying5
 a5:=Tryz.isAgg5
 z5:=Tryz.sizeOf5
 v5:=Tryz.zeroValue5
 infoByte:=by kernel_rfl
 cellsByte:=by kernel_rfl
 sizeByte:=by kernel_rfl
 neB5:=by decide }
open Go.RowKit in
theorem Tryz.Builder_String_any (B b:Nat)(l:List UInt8)(w:World)(h:Lib.IsBuilder 152 5 B b (Lib.byteCells l) w)(D:B<=w.heap.size) :
 Calls Tryz.prog 88 #[.pointer (some ⟨b,0,none⟩)] w λe w'=>e=.returned (.string ⟨l.toArray⟩)/\Below B w w':=Any.Builder_String_any Tryz.lays169 Tryz.Builder_Extra_169 B b l w h D
def Tryz.lays156_ren:Go.Shelf.Ren:=⟨fun|156=>82|165=>130|166=>81|169=>88|240=>129|241=>186|276=>185|277=>224|n=>n,fun|31=>153|9=>9|3=>3|4=>4|0=>0|20=>20|72=>152|76=>156|70=>149|37=>150|75=>155|127=>221|164=>283|5=>5|80=>165|n=>n,fun|n=>n⟩
theorem Tryz.lays156:Go.Proofs.Lays.n156 Tryz.prog Tryz.lays156_ren:={
 mixed:=by kernel_rfl
 f156:=Tryz.func82.trans (congrArg some (by kernel_rfl))
 f165:=Tryz.func130.trans (congrArg some (by kernel_rfl))
 f166:=Tryz.func81.trans (congrArg some (by kernel_rfl))
 f169:=Tryz.func88.trans (congrArg some (by kernel_rfl))
 f240:=Tryz.func129.trans (congrArg some (by kernel_rfl))
 f241:=Tryz.func186.trans (congrArg some (by kernel_rfl))
 f276:=Tryz.func185.trans (congrArg some (by kernel_rfl))
 f277:=Tryz.func224.trans (congrArg some (by kernel_rfl))
 t0:=Tryz.underlying0
 a0:=Tryz.isAgg0
 z0:=Tryz.sizeOf0
 v0:=Tryz.zeroValue0
 t3:=Tryz.underlying3
 a3:=Tryz.isAgg3
 z3:=Tryz.sizeOf3
 v3:=Tryz.zeroValue3
 t4:=Tryz.underlying4
 a4:=Tryz.isAgg4
 z4:=Tryz.sizeOf4
 v4:=Tryz.zeroValue4
 t9:=Tryz.underlying9
 a9:=Tryz.isAgg9
 z9:=Tryz.sizeOf9
 v9:=Tryz.zeroValue9
 t20:=Tryz.underlying20
 a20:=Tryz.isAgg20
 z20:=Tryz.sizeOf20
 v20:=Tryz.zeroValue20
 t31:=Tryz.underlying153
 a31:=Tryz.isAgg153
 z31:=Tryz.sizeOf153
 v31:=Tryz.zeroValue153
 t37:=Tryz.underlying150
 a37:=Tryz.isAgg150
 z37:=Tryz.sizeOf150
 v37:=Tryz.zeroValue150
 t70:=Tryz.underlying149
 a70:=Tryz.isAgg149
 z70:=Tryz.sizeOf149
 v70:=Tryz.zeroValue149
 t72:=Tryz.underlying152
 a72:=Tryz.isAgg152
 z72:=Tryz.sizeOf152
 v72:=Tryz.zeroValue152
 t75:=Tryz.underlying155
 a75:=Tryz.isAgg155
 z75:=Tryz.sizeOf155
 v75:=Tryz.zeroValue155
 t76:=Tryz.underlying156
 a76:=Tryz.isAgg156
 z76:=Tryz.sizeOf156
 v76:=Tryz.zeroValue156
 t127:=Tryz.underlying221
 a127:=Tryz.isAgg221
 z127:=Tryz.sizeOf221
 v127:=Tryz.zeroValue221
 t164:=Tryz.underlying283
 a164:=Tryz.isAgg283
 z164:=Tryz.sizeOf283
 v164:=Tryz.zeroValue283 }
theorem Tryz.Builder_Extra_156:Builder.Extra Tryz.prog Tryz.lays156_ren:={
 sizeBuilder:=by kernel_rfl
 liesBuilder:=by kernel_rfl
 t5:=Tryz.underlying5
 a5:=Tryz.isAgg5
 z5:=Tryz.sizeOf5
 v5:=Tryz.zeroValue5
 infoByte:=by kernel_rfl
 cellsByte:=by kernel_rfl
 sizeByte:=by kernel_rfl
 neB5:=by decide }
open Go.RowKit in
theorem Tryz.strings_Join (bk o c:Nat)(J:List ByteArray)(I:ByteArray)(w:World)(D:∀(j:Nat) x,J[j]?=some x->w.cell? ⟨bk,o+j,none⟩=some (.string x))(Z:bk<w.heap.size)(hN:J.length<=140737488355328)(M:J.length<=c)(O:(Lib.join (J.map (·.data.toList)) I.data.toList).length<=140737488355328) :
 Calls Tryz.prog 82 #[.slice (some ⟨bk,o,none⟩) J.length c,.string I] w λe w'=>e=.returned (.string ⟨(Lib.join (J.map (·.data.toList)) I.data.toList).toArray⟩)/\Below w.heap.size w w':=Any.strings_Join Tryz.lays156 Tryz.Builder_Extra_156 bk o c J I w D Z hN M O
def Tryz.lays160_ren:Go.Shelf.Ren:=⟨fun|160=>127|232=>177|231=>176|227=>178|234=>180|233=>179|236=>182|235=>181|228=>216|271=>219|151=>218|197=>217|120=>244|152=>243|260=>242|137=>255|119=>256|224=>240|225=>239|217=>238|266=>253|n=>n,fun|9=>9|4=>4|3=>3|5=>5|117=>277|116=>276|0=>0|124=>280|21=>21|105=>306|46=>208|119=>336|139=>339|138=>338|n=>n,fun|3=>5|4=>6|n=>n⟩
theorem Tryz.lays160:Go.Proofs.Lays.n160 Tryz.prog Tryz.lays160_ren:={
 mixed:=by kernel_rfl
 f119:=Tryz.func256.trans (congrArg some (by kernel_rfl))
 f120:=Tryz.func244.trans (congrArg some (by kernel_rfl))
 f137:=Tryz.func255.trans (congrArg some (by kernel_rfl))
 f151:=Tryz.func218.trans (congrArg some (by kernel_rfl))
 f152:=Tryz.func243.trans (congrArg some (by kernel_rfl))
 f160:=Tryz.func127.trans (congrArg some (by kernel_rfl))
 f197:=Tryz.func217.trans (congrArg some (by kernel_rfl))
 f217:=Tryz.func238.trans (congrArg some (by kernel_rfl))
 f224:=Tryz.func240.trans (congrArg some (by kernel_rfl))
 f225:=Tryz.func239.trans (congrArg some (by kernel_rfl))
 f227:=Tryz.func178.trans (congrArg some (by kernel_rfl))
 f228:=Tryz.func216.trans (congrArg some (by kernel_rfl))
 f231:=Tryz.func176.trans (congrArg some (by kernel_rfl))
 f232:=Tryz.func177.trans (congrArg some (by kernel_rfl))
 f233:=Tryz.func179.trans (congrArg some (by kernel_rfl))
 f234:=Tryz.func180.trans (congrArg some (by kernel_rfl))
 f235:=Tryz.func181.trans (congrArg some (by kernel_rfl))
 f236:=Tryz.func182.trans (congrArg some (by kernel_rfl))
 f260:=Tryz.func242.trans (congrArg some (by kernel_rfl))
 f266:=Tryz.func253.trans (congrArg some (by kernel_rfl))
 f271:=Tryz.func219.trans (congrArg some (by kernel_rfl))
 t0:=Tryz.underlying0
 a0:=Tryz.isAgg0
 z0:=Tryz.sizeOf0
 v0:=Tryz.zeroValue0
 t3:=Tryz.underlying3
 a3:=Tryz.isAgg3
 z3:=Tryz.sizeOf3
 v3:=Tryz.zeroValue3
 t4:=Tryz.underlying4
 a4:=Tryz.isAgg4
 z4:=Tryz.sizeOf4
 v4:=Tryz.zeroValue4
 t5:=Tryz.underlying5
 a5:=Tryz.isAgg5
 z5:=Tryz.sizeOf5
 v5:=Tryz.zeroValue5
 t9:=Tryz.underlying9
 a9:=Tryz.isAgg9
 z9:=Tryz.sizeOf9
 v9:=Tryz.zeroValue9
 t21:=Tryz.underlying21
 a21:=Tryz.isAgg21
 z21:=Tryz.sizeOf21
 v21:=Tryz.zeroValue21
 t46:=Tryz.underlying208
 a46:=Tryz.isAgg208
 z46:=Tryz.sizeOf208
 v46:=Tryz.zeroValue208
 t105:=Tryz.underlying306
 a105:=Tryz.isAgg306
 z105:=Tryz.sizeOf306
 v105:=Tryz.zeroValue306
 t116:=Tryz.underlying276
 a116:=Tryz.isAgg276
 z116:=Tryz.sizeOf276
 t117:=Tryz.underlying277
 a117:=Tryz.isAgg277
 z117:=Tryz.sizeOf277
 v117:=Tryz.zeroValue277
 t119:=Tryz.underlying336
 a119:=Tryz.isAgg336
 z119:=Tryz.sizeOf336
 t124:=Tryz.underlying280
 a124:=Tryz.isAgg280
 z124:=Tryz.sizeOf280
 v124:=Tryz.zeroValue280
 t138:=Tryz.underlying338
 a138:=Tryz.isAgg338
 z138:=Tryz.sizeOf338
 v138:=Tryz.zeroValue338
 t139:=Tryz.underlying339
 a139:=Tryz.isAgg339
 z139:=Tryz.sizeOf339
 v139:=Tryz.zeroValue339
 g3:=by kernel_rfl
 g4:=by kernel_rfl }
open Go.RowKit in
theorem Tryz.strings_Trim_one (s:ByteArray)(c:UInt8)(D:c.toNat<128)(w:World)(I:s.size<=9223372036854775807) :
 Calls Tryz.prog 127 #[.string s,.string ⟨#[c]⟩] w λe w'=>e=.returned (.string ⟨(Lib.trimB s.data.toList c).toArray⟩)/\(w'=w\/w'=w.drew):=Any.strings_Trim_one Tryz.lays160 s c D w I
def Tryz.laysM171_ren:Go.Shelf.Ren:=⟨fun|171=>86|243=>132|246=>187|283=>225|284=>226|285=>227|286=>228|129=>163|317=>246|318=>247|319=>248|320=>249|337=>259|338=>260|n=>n,fun|3=>3|9=>9|2=>2|4=>4|171=>316|0=>0|53=>266|37=>150|5=>5|173=>318|212=>332|51=>264|20=>20|213=>333|46=>208|232=>348|233=>349|n=>n,fun|17=>4|18=>7|19=>8|n=>n⟩
theorem Tryz.laysM171:Go.Proofs.LaysM.n171 Tryz.prog Tryz.laysM171_ren:={
 mixed:=by kernel_rfl
 f129:=Tryz.func163.trans (congrArg some (by kernel_rfl))
 f171:=Tryz.func86.trans (congrArg some (by kernel_rfl))
 f243:=Tryz.func132.trans (congrArg some (by kernel_rfl))
 f246:=Tryz.func187.trans (congrArg some (by kernel_rfl))
 f283:=Tryz.func225.trans (congrArg some (by kernel_rfl))
 f284:=Tryz.func226.trans (congrArg some (by kernel_rfl))
 f285:=Tryz.func227.trans (congrArg some (by kernel_rfl))
 f286:=Tryz.func228.trans (congrArg some (by kernel_rfl))
 f317:=Tryz.func246.trans (congrArg some (by kernel_rfl))
 f318:=Tryz.func247.trans (congrArg some (by kernel_rfl))
 f319:=Tryz.func248.trans (congrArg some (by kernel_rfl))
 f320:=Tryz.func249.trans (congrArg some (by kernel_rfl))
 f337:=Tryz.func259.trans (congrArg some (by kernel_rfl))
 f338:=Tryz.func260.trans (congrArg some (by kernel_rfl))
 t0:=Tryz.underlying0
 a0:=Tryz.isAgg0
 z0:=Tryz.sizeOf0
 v0:=Tryz.zeroValue0
 t2:=Tryz.underlying2
 a2:=Tryz.isAgg2
 z2:=Tryz.sizeOf2
 v2:=Tryz.zeroValue2
 t3:=Tryz.underlying3
 a3:=Tryz.isAgg3
 z3:=Tryz.sizeOf3
 v3:=Tryz.zeroValue3
 t4:=Tryz.underlying4
 a4:=Tryz.isAgg4
 z4:=Tryz.sizeOf4
 v4:=Tryz.zeroValue4
 t5:=Tryz.underlying5
 a5:=Tryz.isAgg5
 z5:=Tryz.sizeOf5
 v5:=Tryz.zeroValue5
 t9:=Tryz.underlying9
 a9:=Tryz.isAgg9
 z9:=Tryz.sizeOf9
 v9:=Tryz.zeroValue9
 t20:=Tryz.underlying20
 a20:=Tryz.isAgg20
 z20:=Tryz.sizeOf20
 v20:=Tryz.zeroValue20
 t37:=Tryz.underlying150
 a37:=Tryz.isAgg150
 z37:=Tryz.sizeOf150
 v37:=Tryz.zeroValue150
 t46:=Tryz.underlying208
 a46:=Tryz.isAgg208
 z46:=Tryz.sizeOf208
 v46:=Tryz.zeroValue208
 t51:=Tryz.underlying264
 a51:=Tryz.isAgg264
 z51:=Tryz.sizeOf264
 v51:=Tryz.zeroValue264
 t53:=Tryz.underlying266
 a53:=Tryz.isAgg266
 z53:=Tryz.sizeOf266
 v53:=Tryz.zeroValue266
 t171:=Tryz.underlying316
 a171:=Tryz.isAgg316
 z171:=Tryz.sizeOf316
 v171:=Tryz.zeroValue316
 t173:=Tryz.underlying318
 a173:=Tryz.isAgg318
 z173:=Tryz.sizeOf318
 v173:=Tryz.zeroValue318
 t212:=Tryz.underlying332
 a212:=Tryz.isAgg332
 z212:=Tryz.sizeOf332
 v212:=Tryz.zeroValue332
 t213:=Tryz.underlying333
 a213:=Tryz.isAgg333
 z213:=Tryz.sizeOf333
 t232:=Tryz.underlying348
 a232:=Tryz.isAgg348
 z232:=Tryz.sizeOf348
 v232:=Tryz.zeroValue348
 t233:=Tryz.underlying349
 a233:=Tryz.isAgg349
 z233:=Tryz.sizeOf349
 v233:=Tryz.zeroValue349
 g17:=by kernel_rfl
 g18:=by kernel_rfl
 g19:=by kernel_rfl
 i0:=by kernel_rfl
 i2:=by kernel_rfl
 i3:=by kernel_rfl
 i4:=by kernel_rfl
 i5:=by kernel_rfl
 i9:=by kernel_rfl
 i20:=by kernel_rfl
 i37:=by kernel_rfl
 i46:=by kernel_rfl
 i51:=by kernel_rfl
 i53:=by kernel_rfl
 i171:=by kernel_rfl
 i173:=by kernel_rfl
 i212:=by kernel_rfl
 i232:=by kernel_rfl
 i233:=by kernel_rfl
 m17:=by kernel_rfl
 m18:=by kernel_rfl
 m19:=by kernel_rfl }
open Go.RowKit Go.Sort Go.Lib in
theorem Tryz.strconv_Itoa (n:Int)(I:-9223372036854775808<=n)(h1:n<=9223372036854775807)(w:World)(D:Lib.TabIs Tryz.prog w "internal/strconv.uint64pow10" .u64 Lib.pow10Tab) :
 Calls Tryz.prog 86 #[.int .i64 n] w λe w'=>e=.returned (.string ⟨(Lib.itoa n).toArray⟩)/\∃k J,w'=grow (w.drewN k) J:=Any.strconv_Itoa Tryz.laysM171 n I h1 w D
def Tryz.laysC172_ren:Go.Shelf.Ren:=⟨fun|172=>245|244=>257|245=>258|247=>262|279=>263|280=>264|281=>265|282=>266|287=>267|316=>268|171=>86|205=>269|321=>270|322=>271|243=>132|246=>187|283=>225|284=>226|285=>227|286=>228|129=>163|317=>246|318=>247|319=>248|320=>249|337=>259|338=>260|n=>n,fun|9=>9|3=>3|75=>155|76=>156|4=>4|5=>5|167=>342|37=>150|0=>0|85=>343|2=>2|168=>345|53=>266|175=>350|46=>208|210=>354|127=>221|145=>360|143=>358|21=>21|171=>316|173=>318|212=>332|51=>264|20=>20|213=>333|232=>348|233=>349|80=>165|n=>n,fun|15=>9|16=>10|17=>4|18=>7|19=>8|n=>n⟩
theorem Tryz.laysC172:Go.Proofs.LaysC.n172 Tryz.prog Tryz.laysC172_ren:={
 mixed:=by kernel_rfl
 f129:=Tryz.func163.trans (congrArg some (by kernel_rfl))
 f171:=Tryz.func86.trans (congrArg some (by kernel_rfl))
 f172:=Tryz.func245.trans (congrArg some (by kernel_rfl))
 f205:=Tryz.func269.trans (congrArg some (by kernel_rfl))
 f243:=Tryz.func132.trans (congrArg some (by kernel_rfl))
 f244:=Tryz.func257.trans (congrArg some (by kernel_rfl))
 f245:=Tryz.func258.trans (congrArg some (by kernel_rfl))
 f246:=Tryz.func187.trans (congrArg some (by kernel_rfl))
 f247:=Tryz.func262.trans (congrArg some (by kernel_rfl))
 f279:=Tryz.func263.trans (congrArg some (by kernel_rfl))
 f280:=Tryz.func264.trans (congrArg some (by kernel_rfl))
 f281:=Tryz.func265.trans (congrArg some (by kernel_rfl))
 f282:=Tryz.func266.trans (congrArg some (by kernel_rfl))
 f283:=Tryz.func225.trans (congrArg some (by kernel_rfl))
 f284:=Tryz.func226.trans (congrArg some (by kernel_rfl))
 f285:=Tryz.func227.trans (congrArg some (by kernel_rfl))
 f286:=Tryz.func228.trans (congrArg some (by kernel_rfl))
 f287:=Tryz.func267.trans (congrArg some (by kernel_rfl))
 f316:=Tryz.func268.trans (congrArg some (by kernel_rfl))
 f317:=Tryz.func246.trans (congrArg some (by kernel_rfl))
 f318:=Tryz.func247.trans (congrArg some (by kernel_rfl))
 f319:=Tryz.func248.trans (congrArg some (by kernel_rfl))
 f320:=Tryz.func249.trans (congrArg some (by kernel_rfl))
 f321:=Tryz.func270.trans (congrArg some (by kernel_rfl))
 f322:=Tryz.func271.trans (congrArg some (by kernel_rfl))
 f337:=Tryz.func259.trans (congrArg some (by kernel_rfl))
 f338:=Tryz.func260.trans (congrArg some (by kernel_rfl))
 t0:=Tryz.underlying0
 a0:=Tryz.isAgg0
 z0:=Tryz.sizeOf0
 v0:=Tryz.zeroValue0
 t2:=Tryz.underlying2
 a2:=Tryz.isAgg2
 z2:=Tryz.sizeOf2
 v2:=Tryz.zeroValue2
 t3:=Tryz.underlying3
 a3:=Tryz.isAgg3
 z3:=Tryz.sizeOf3
 v3:=Tryz.zeroValue3
 t4:=Tryz.underlying4
 a4:=Tryz.isAgg4
 z4:=Tryz.sizeOf4
 v4:=Tryz.zeroValue4
 t5:=Tryz.underlying5
 a5:=Tryz.isAgg5
 z5:=Tryz.sizeOf5
 v5:=Tryz.zeroValue5
 t9:=Tryz.underlying9
 a9:=Tryz.isAgg9
 z9:=Tryz.sizeOf9
 v9:=Tryz.zeroValue9
 t20:=Tryz.underlying20
 a20:=Tryz.isAgg20
 z20:=Tryz.sizeOf20
 v20:=Tryz.zeroValue20
 t21:=Tryz.underlying21
 a21:=Tryz.isAgg21
 z21:=Tryz.sizeOf21
 v21:=Tryz.zeroValue21
 t37:=Tryz.underlying150
 a37:=Tryz.isAgg150
 z37:=Tryz.sizeOf150
 v37:=Tryz.zeroValue150
 t46:=Tryz.underlying208
 a46:=Tryz.isAgg208
 z46:=Tryz.sizeOf208
 v46:=Tryz.zeroValue208
 t51:=Tryz.underlying264
 a51:=Tryz.isAgg264
 z51:=Tryz.sizeOf264
 v51:=Tryz.zeroValue264
 t53:=Tryz.underlying266
 a53:=Tryz.isAgg266
 z53:=Tryz.sizeOf266
 v53:=Tryz.zeroValue266
 t75:=Tryz.underlying155
 a75:=Tryz.isAgg155
 z75:=Tryz.sizeOf155
 v75:=Tryz.zeroValue155
 t76:=Tryz.underlying156
 a76:=Tryz.isAgg156
 z76:=Tryz.sizeOf156
 v76:=Tryz.zeroValue156
 t85:=Tryz.underlying343
 a85:=Tryz.isAgg343
 z85:=Tryz.sizeOf343
 v85:=Tryz.zeroValue343
 t127:=Tryz.underlying221
 a127:=Tryz.isAgg221
 z127:=Tryz.sizeOf221
 v127:=Tryz.zeroValue221
 t143:=Tryz.underlying358
 a143:=Tryz.isAgg358
 z143:=Tryz.sizeOf358
 v143:=Tryz.zeroValue358
 t145:=Tryz.underlying360
 a145:=Tryz.isAgg360
 z145:=Tryz.sizeOf360
 v145:=Tryz.zeroValue360
 t167:=Tryz.underlying342
 a167:=Tryz.isAgg342
 z167:=Tryz.sizeOf342
 v167:=Tryz.zeroValue342
 t168:=Tryz.underlying345
 a168:=Tryz.isAgg345
 z168:=Tryz.sizeOf345
 v168:=Tryz.zeroValue345
 t171:=Tryz.underlying316
 a171:=Tryz.isAgg316
 z171:=Tryz.sizeOf316
 v171:=Tryz.zeroValue316
 t173:=Tryz.underlying318
 a173:=Tryz.isAgg318
 z173:=Tryz.sizeOf318
 v173:=Tryz.zeroValue318
 t175:=Tryz.underlying350
 a175:=Tryz.isAgg350
 z175:=Tryz.sizeOf350
 v175:=Tryz.zeroValue350
 t210:=Tryz.underlying354
 a210:=Tryz.isAgg354
 z210:=Tryz.sizeOf354
 v210:=Tryz.zeroValue354
 t212:=Tryz.underlying332
 a212:=Tryz.isAgg332
 z212:=Tryz.sizeOf332
 v212:=Tryz.zeroValue332
 t213:=Tryz.underlying333
 a213:=Tryz.isAgg333
 z213:=Tryz.sizeOf333
 t232:=Tryz.underlying348
 a232:=Tryz.isAgg348
 z232:=Tryz.sizeOf348
 v232:=Tryz.zeroValue348
 t233:=Tryz.underlying349
 a233:=Tryz.isAgg349
 z233:=Tryz.sizeOf349
 v233:=Tryz.zeroValue349
 g15:=by kernel_rfl
 g16:=by kernel_rfl
 g17:=by kernel_rfl
 g18:=by kernel_rfl
 g19:=by kernel_rfl
 t80:=Tryz.underlying165
 a80:=Tryz.isAgg165
 z80:=Tryz.sizeOf165
 v80:=Tryz.zeroValue165
 i0:=by kernel_rfl
 i2:=by kernel_rfl
 i3:=by kernel_rfl
 i4:=by kernel_rfl
 i5:=by kernel_rfl
 i9:=by kernel_rfl
 i20:=by kernel_rfl
 i21:=by kernel_rfl
 i37:=by kernel_rfl
 i46:=by kernel_rfl
 i51:=by kernel_rfl
 i53:=by kernel_rfl
 i75:=by kernel_rfl
 i76:=by kernel_rfl
 i80:=by kernel_rfl
 i85:=by kernel_rfl
 i127:=by kernel_rfl
 i143:=by kernel_rfl
 i145:=by kernel_rfl
 i167:=by kernel_rfl
 i168:=by kernel_rfl
 i171:=by kernel_rfl
 i173:=by kernel_rfl
 i175:=by kernel_rfl
 i210:=by kernel_rfl
 i212:=by kernel_rfl
 i232:=by kernel_rfl
 i233:=by kernel_rfl
 m15:=by kernel_rfl
 m16:=by kernel_rfl
 m17:=by kernel_rfl
 m18:=by kernel_rfl
 m19:=by kernel_rfl
 c0:=by kernel_rfl
 c2:=by kernel_rfl
 c3:=by kernel_rfl
 c4:=by kernel_rfl
 c5:=by kernel_rfl
 c9:=by kernel_rfl
 c20:=by kernel_rfl
 c21:=by kernel_rfl
 c37:=by kernel_rfl
 c46:=by kernel_rfl
 c51:=by kernel_rfl
 c53:=by kernel_rfl
 c75:=by kernel_rfl
 c76:=by kernel_rfl
 c80:=by kernel_rfl
 c85:=by kernel_rfl
 c127:=by kernel_rfl
 c143:=by kernel_rfl
 c145:=by kernel_rfl
 c167:=by kernel_rfl
 c168:=by kernel_rfl
 c171:=by kernel_rfl
 c173:=by kernel_rfl
 c175:=by kernel_rfl
 c210:=by kernel_rfl
 c212:=by kernel_rfl
 c213:=by kernel_rfl
 c232:=by kernel_rfl
 c233:=by kernel_rfl }
open Go.RowKit in
theorem Tryz.strconv_Atoi_ok (s:ByteArray)(D:s.size<=9223372036854775806)(v:Int)(h:Lib.atoiAll s.data.toList=.ok v)(w:World) :
 Calls Tryz.prog 245 #[.string s] w λe w'=>e=.returned (.tuple #[.int .i64 v,.nilIface])/\(w'=w\/∃t,w'=Lib.bytesWorld w 5 t):=Any.strconv_Atoi_ok Tryz.laysC172 s D v h w
open Go.RowKit in
theorem Tryz.strconv_Atoi_syntax (s:ByteArray)(D:s.size<=281474976710656)(h:Lib.atoiAll s.data.toList=Lib.atoiAll [])(ev:Value)(w:World)(J:w.cell? ⟨9,0,none⟩=some ev)(I:ev=.nilIface\/∃te M,ev=.iface te M) :
 Calls Tryz.prog 245 #[.string s] w λe w'=>∃N,e=.returned (.tuple #[.int .i64 (0),.iface 345 (.pointer (some ⟨N,0,none⟩))])/\w.heap.size<=N/\w'.heap[N]?=some (.cells #[.string ⟨#[65,116,111,105]⟩,.string s,ev] 354 (0,0))/\Below w.heap.size w w':=Any.strconv_Atoi_syntax Tryz.laysC172 s D h ev w J I
open Go.RowKit in
theorem Tryz.strconv_Atoi_range (s:ByteArray)(D:s.size<=281474976710656)(h:Lib.atoiAll s.data.toList=.range)(ev:Value)(w:World)(J:w.cell? ⟨10,0,none⟩=some ev)(I:ev=.nilIface\/∃te M,ev=.iface te M) :
 Calls Tryz.prog 245 #[.string s] w λe w'=>∃N,e=.returned (.tuple #[.int .i64 (Lib.atoiSat s.data.toList),.iface 345 (.pointer (some ⟨N,0,none⟩))])/\w.heap.size<=N/\w'.heap[N]?=some (.cells #[.string ⟨#[65,116,111,105]⟩,.string s,ev] 354 (0,0))/\Below w.heap.size w w':=Any.strconv_Atoi_range Tryz.laysC172 s D h ev w J I
def Tryz.lays145_ren:Go.Shelf.Ren:=⟨fun|145=>126|220=>175|219=>215|217=>238|225=>239|224=>240|267=>241|266=>253|314=>254|n=>n,fun|9=>9|4=>4|59=>214|3=>3|5=>5|46=>208|146=>334|51=>264|n=>n,fun|1=>3|n=>n⟩
theorem Tryz.lays145:Go.Proofs.Lays.n145 Tryz.prog Tryz.lays145_ren:={
 mixed:=by kernel_rfl
 f145:=Tryz.func126.trans (congrArg some (by kernel_rfl))
 f217:=Tryz.func238.trans (congrArg some (by kernel_rfl))
 f219:=Tryz.func215.trans (congrArg some (by kernel_rfl))
 f220:=Tryz.func175.trans (congrArg some (by kernel_rfl))
 f224:=Tryz.func240.trans (congrArg some (by kernel_rfl))
 f225:=Tryz.func239.trans (congrArg some (by kernel_rfl))
 f266:=Tryz.func253.trans (congrArg some (by kernel_rfl))
 f267:=Tryz.func241.trans (congrArg some (by kernel_rfl))
 f314:=Tryz.func254.trans (congrArg some (by kernel_rfl))
 t3:=Tryz.underlying3
 a3:=Tryz.isAgg3
 z3:=Tryz.sizeOf3
 v3:=Tryz.zeroValue3
 t4:=Tryz.underlying4
 a4:=Tryz.isAgg4
 z4:=Tryz.sizeOf4
 v4:=Tryz.zeroValue4
 t5:=Tryz.underlying5
 a5:=Tryz.isAgg5
 z5:=Tryz.sizeOf5
 v5:=Tryz.zeroValue5
 t9:=Tryz.underlying9
 a9:=Tryz.isAgg9
 z9:=Tryz.sizeOf9
 v9:=Tryz.zeroValue9
 t46:=Tryz.underlying208
 a46:=Tryz.isAgg208
 z46:=Tryz.sizeOf208
 v46:=Tryz.zeroValue208
 t51:=Tryz.underlying264
 a51:=Tryz.isAgg264
 z51:=Tryz.sizeOf264
 v51:=Tryz.zeroValue264
 t59:=Tryz.underlying214
 a59:=Tryz.isAgg214
 z59:=Tryz.sizeOf214
 v59:=Tryz.zeroValue214
 t146:=Tryz.underlying334
 a146:=Tryz.isAgg334
 z146:=Tryz.sizeOf334
 v146:=Tryz.zeroValue334
 g1:=by kernel_rfl }
open Go.RowKit Go.Lib in
theorem Tryz.strings_Cut (s D:ByteArray)(m:Int)(w:World)(J:s.size<4294967281)(I:w.cell? ⟨3,0,none⟩=some (.int .i64 m)) :
 Calls Tryz.prog 126 #[.string s,.string D] w λe w'=>e=.returned (.tuple #[.string ⟨(Lib.cut s.data.toList D.data.toList).1.toArray⟩,.string ⟨(Lib.cut s.data.toList D.data.toList).2.1.toArray⟩,.bool (Lib.cut s.data.toList D.data.toList).2.2])/\∃n,w'=w.drewN n:=Any.strings_Cut Tryz.lays145 s D m w J I
def Tryz.lays146_ren:Go.Shelf.Ren:=⟨fun|146=>125|221=>174|268=>212|138=>213|143=>214|195=>236|197=>217|218=>237|219=>215|260=>242|217=>238|225=>239|224=>240|267=>241|266=>253|314=>254|n=>n,fun|9=>9|31=>153|3=>3|4=>4|0=>0|105=>306|21=>21|5=>5|46=>208|119=>336|139=>339|138=>338|146=>334|51=>264|n=>n,fun|1=>3|3=>5|4=>6|n=>n⟩
theorem Tryz.lays146:Go.Proofs.Lays.n146 Tryz.prog Tryz.lays146_ren:={
 mixed:=by kernel_rfl
 f138:=Tryz.func213.trans (congrArg some (by kernel_rfl))
 f143:=Tryz.func214.trans (congrArg some (by kernel_rfl))
 f146:=Tryz.func125.trans (congrArg some (by kernel_rfl))
 f195:=Tryz.func236.trans (congrArg some (by kernel_rfl))
 f197:=Tryz.func217.trans (congrArg some (by kernel_rfl))
 f217:=Tryz.func238.trans (congrArg some (by kernel_rfl))
 f218:=Tryz.func237.trans (congrArg some (by kernel_rfl))
 f219:=Tryz.func215.trans (congrArg some (by kernel_rfl))
 f221:=Tryz.func174.trans (congrArg some (by kernel_rfl))
 f224:=Tryz.func240.trans (congrArg some (by kernel_rfl))
 f225:=Tryz.func239.trans (congrArg some (by kernel_rfl))
 f260:=Tryz.func242.trans (congrArg some (by kernel_rfl))
 f266:=Tryz.func253.trans (congrArg some (by kernel_rfl))
 f267:=Tryz.func241.trans (congrArg some (by kernel_rfl))
 f268:=Tryz.func212.trans (congrArg some (by kernel_rfl))
 f314:=Tryz.func254.trans (congrArg some (by kernel_rfl))
 t0:=Tryz.underlying0
 a0:=Tryz.isAgg0
 z0:=Tryz.sizeOf0
 v0:=Tryz.zeroValue0
 t3:=Tryz.underlying3
 a3:=Tryz.isAgg3
 z3:=Tryz.sizeOf3
 v3:=Tryz.zeroValue3
 t4:=Tryz.underlying4
 a4:=Tryz.isAgg4
 z4:=Tryz.sizeOf4
 v4:=Tryz.zeroValue4
 t5:=Tryz.underlying5
 a5:=Tryz.isAgg5
 z5:=Tryz.sizeOf5
 v5:=Tryz.zeroValue5
 t9:=Tryz.underlying9
 a9:=Tryz.isAgg9
 z9:=Tryz.sizeOf9
 v9:=Tryz.zeroValue9
 t21:=Tryz.underlying21
 a21:=Tryz.isAgg21
 z21:=Tryz.sizeOf21
 v21:=Tryz.zeroValue21
 t31:=Tryz.underlying153
 a31:=Tryz.isAgg153
 z31:=Tryz.sizeOf153
 v31:=Tryz.zeroValue153
 t46:=Tryz.underlying208
 a46:=Tryz.isAgg208
 z46:=Tryz.sizeOf208
 v46:=Tryz.zeroValue208
 t51:=Tryz.underlying264
 a51:=Tryz.isAgg264
 z51:=Tryz.sizeOf264
 v51:=Tryz.zeroValue264
 t105:=Tryz.underlying306
 a105:=Tryz.isAgg306
 z105:=Tryz.sizeOf306
 v105:=Tryz.zeroValue306
 t119:=Tryz.underlying336
 a119:=Tryz.isAgg336
 z119:=Tryz.sizeOf336
 t138:=Tryz.underlying338
 a138:=Tryz.isAgg338
 z138:=Tryz.sizeOf338
 v138:=Tryz.zeroValue338
 t139:=Tryz.underlying339
 a139:=Tryz.isAgg339
 z139:=Tryz.sizeOf339
 v139:=Tryz.zeroValue339
 t146:=Tryz.underlying334
 a146:=Tryz.isAgg334
 z146:=Tryz.sizeOf334
 v146:=Tryz.zeroValue334
 g1:=by kernel_rfl
 g3:=by kernel_rfl
 g4:=by kernel_rfl }
open Go.RowKit Go.Lib in
theorem Tryz.strings_Split (s D:ByteArray)(m:Int)(w:World)(J:s.size<4294967281)(I:w.cell? ⟨3,0,none⟩=some (.int .i64 m))(h1:1<=D.size) :
 Calls Tryz.prog 125 #[.string s,.string D] w λe w'=>
  e=.returned (.slice (some ⟨w.heap.size,0,none⟩) (Lib.countB s D+1) (Lib.countB s D+1))/\w'=w.alloc (.cells ((Lib.splitB D 0 (Lib.countB s D) s).map Value.string).toArray 9):=Any.strings_Split Tryz.lays146 (by kernel_rfl) s D m w J I h1
end Go.Proofs
namespace Go.Proofs.YtpgdchkdlgkmgaaGreatDoor
open Go.Lw _root_.Go.Proofs.Tryz
theorem j1k:CallOf prog 86:=mkC func86
theorem j3w {w w':World}{D:String}{k:IntKind}{zs:List Int}{S:List Nat}(h:Lib.TabIs prog w D k zs)(hf:Fr S w w')(M:∀g,prog.globalNamed D=some g->g∉S):Lib.TabIs prog w' D k zs:=by
 unfold Lib.TabIs World.var? at *
 cases hg:prog.globalNamed D with
 | none=>simp[hg]at h
 | some g=>
  simp only[hg,Option.bind_some]at h ⊢;have J:g<w.heap.size:=by
   rcases Nat.lt_or_ge g w.heap.size with I|I
   exact I;rw[Array.getElem?_eq_none I]at h;simp at h
  rw[hf.block g J (M g hg)];exact h
theorem gPow:prog.globalNamed "internal/strconv.uint64pow10" =some 4:=by kernel_rfl
structure Glob (w:World):Prop where
  wd:Cells w ⟨1,0,none⟩ (z8x.map S)
  dr:Cells w ⟨2,0,none⟩ (x4u.map S)
  ml:IntAt 3 w
  tab:Lib.TabIs prog w "internal/strconv.uint64pow10" .u64 Lib.pow10Tab
  es:∃te pe,w.cell? ⟨9,0,none⟩=some (.iface te pe)
  er:∃te pe,w.cell? ⟨10,0,none⟩=some (.iface te pe)
  sz:11<=w.heap.size
theorem Glob.fr {w w':World}{S:List Nat}(h:Glob w)(hf:Fr S w w')(J:∀k∈S,11<=k):Glob w':=by
 have D:∀g,g<11->g∉S:=λg I e=>by have:=J g e;omega
 exact⟨h.wd.fr hf (D _ (by decide)),h.dr.fr hf (D _ (by decide)),h.ml.fr hf (D _ (by decide)),j3w h.tab hf (λg I=>by rw[gPow]at I;cases I;exact D _ (by decide)),let ⟨a,b,e⟩:=h.es;⟨a,b,hf.cell e (D _ (by decide))⟩,let ⟨a,b,e⟩:=h.er;⟨a,b,hf.cell e (D _ (by decide))⟩,Nat.le_trans h.sz hf.size⟩
theorem Glob.ext {w w':World}(h:Glob w)(hf:Fr [] w w'):Glob w':=h.fr hf (by simp)
theorem v5w (w:World)(k:Nat)(l:Array Obj):Fr [] w (Sort.grow (w.drewN k) l):=
 (Fr.drewN [] w k).next ⟨rfl,rfl,rfl,by simp[Sort.grow],λk D _=>by simp only[Sort.grow];exact Array.getElem?_append_left D⟩
theorem x0a (n:Int)(w0:World)(hG:Glob w0)(h:-99<=n/\n<=99):Rets prog 86 #[.int .i64 n] w0 λv w'=>v=S (x6y n)/\Fr [] w0 w':=by
 refine Calls.mono (strconv_Itoa n (by omega) (by omega) w0 hG.tab) ?_;rintro e w' ⟨rfl,k,D,rfl⟩;exact⟨_,rfl,by rw[j1r h];rfl,v5w _ _ _⟩
theorem y9f (b p:Int)(w0:World)(hG:Glob w0):Rets prog 223 #[.agg #[.int .u8 b,.int .i64 p]] w0 λv w'=>v=S (v5l b p)/\Fr [] w0 w':=by
 have Z:=hG.sz;refine we [(0,.agg #[.int .u8 b,.int .i64 p])] func223 U ntmps223 U (.cons U .nil) (sr (bx U (λg1 w1 a0 D M z1=>(asg U (nn (sq (sr (z0k U D z5b (cl (ev1 U) u1m (z4y _ _ _) U ?_)))))))));rintro _ w2 ⟨rfl,I⟩;refine ne' U (nn (cd U (λJ=>?_) (λJ=>?_)));refine sr (asg U (nn (rt (tr (r1 results223 U ?_)))));exact⟨_,rfl,by rw[v5l,if_pos J]<;>rfl,(M.n1 I)⟩;have hr:=z8m.1 (Classical.not_not.1 J);refine sk (tn (sq (sr (fad U z6d ?_))));replace D:=D.ext I;refine z0g U D U x1e (eq' U (nn (cd U (λO=>?_) (λO=>?_))));refine sr (fad U z4s (z0g U D U na3 ?_));replace hG:=hG.ext (M.n1 I);refine cl (ev1 U) j1k (x0a _ _ hG (by omega)) U ?_;rintro _ w3 ⟨rfl,q3⟩;refine y8o U U (by have:=y5i p;simp;omega) U (asg U (kpL [(2,_)] (.cons U .nil) (nn (rt (tr (r1 results223 U ?_))))));exact⟨_,rfl,by rw[v5l,if_neg J,if_pos O]<;>rfl,(M.n2 I q3)⟩;refine sk (tn (sr (fad U z4s (z0g U D U na3 ?_))));replace hG:=hG.ext (M.n1 I);refine cl (ev1 U) j1k (x0a _ _ hG (by omega)) U ?_;rintro _ w4 ⟨rfl,q4⟩;refine y8o U U (by have:=y5i p;simp;omega) U (asg U (kpL [(2,_)] (.cons U .nil) (nn (rt (r1 results223 U ?_)))));exact⟨_,rfl,by rw[v5l,if_neg J,if_neg O]<;>rfl,(M.n2 I q4)⟩
theorem x8q (v:Value)(ys:List (List UInt8))(D:List UInt8)(base T:Nat)(w0:World)(I:Lw.Own Enc.str T base w0 v ys)(M:ys≠[])(hl:(Lib.join ys D).length<=1000000)(a0:ys.length<=1000000):Rets prog 82 #[v,S D] w0 λr w'=>r=S (Lib.join ys D)/\Fr [] w0 w':=by
 rcases I with ⟨_,e⟩|⟨g,cap,cur,rfl,J,O,h1,h2,h3,h4⟩
 exact absurd e M;have hm:(ys.map (λy=>(⟨y.toArray⟩:ByteArray))).map (·.data.toList)=ys:=by rw[List.map_map];simp[Function.comp_def]
 have I:Lw.Own Enc.str T base w0 (.slice (some ⟨g,0,none⟩) ys.length cap) ys:=.inr ⟨g,cap,cur,rfl,J,O,h1,h2,h3,h4⟩;have Z:=strings_Join g 0 cap (ys.map (λy=>(⟨y.toArray⟩:ByteArray))) ⟨D.toArray⟩ w0 (λj x hx=>by
  rw[List.getElem?_map,Option.map_eq_some_iff]at hx;obtain⟨y,hy,rfl⟩:=hx;obtain⟨A,c,e,_,_,hA⟩:=I.sl;cases e;obtain⟨ad,e1,hc⟩:=hA j y hy;cases e1;have:=hc 0 (S y) U;rw[z3u,z3u,Nat.add_zero,show Enc.str.sz=1 from U,Nat.mul_one]at this;exact this) ((Array.getElem?_eq_some_iff.1 O).1) (by simp;omega) (by simp;omega) (by rw[hm];simp;omega)
 rw[hm,List.length_map]at Z;refine Calls.mono Z ?_;rintro e w' ⟨rfl,J⟩;exact⟨_,rfl,by simp[S],Fr.of_below J⟩
theorem u1q (w:World)(t:ByteArray):Fr [] w (Lib.bytesWorld w 5 t):=Fr.of_below (Lib.bytesWorld_below w 5 t)
theorem j0k (l:List UInt8)(w0:World)(hG:Glob w0)(hl:l.length<=1000000):Rets prog 245 #[S l] w0 λr w'=>∃n e,∃b:Bool,r=.tuple #[.int .i64 n,e]/\(e=.nilIface/\b=false\/(∃t p,e=.iface t p)/\b=true)/\u3n l=(if b=true then 0 else n)/\Fr [] w0 w':=by
 have O:(⟨l.toArray⟩:ByteArray).size=l.length:=by simp[ByteArray.size]
 rcases h:Lib.atoiAll l with v|_|_
 refine Calls.mono (strconv_Atoi_ok ⟨l.toArray⟩ (by omega) v (by simpa using h) w0) ?_;rintro e w' ⟨rfl,J⟩;refine⟨_,rfl,v,.nilIface,false,rfl,.inl ⟨rfl,rfl⟩,by simp[u3n,h],?_⟩;rcases J with rfl|⟨t,rfl⟩
 exact Fr.refl _ _;exact u1q w0 t;obtain⟨te,M,I⟩:=hG.es;refine Calls.mono (strconv_Atoi_syntax ⟨l.toArray⟩ (by omega) (show Lib.atoiAll l=Lib.atoiAll [] from h) _ w0 I (.inr ⟨_,_,rfl⟩)) ?_;rintro e w' ⟨N,rfl,_,_,D⟩;exact⟨_,rfl,_,_,true,rfl,.inr ⟨⟨_,_,rfl⟩,rfl⟩,by simp[u3n,h],Fr.of_below D⟩;obtain⟨te,M,I⟩:=hG.er;refine Calls.mono (strconv_Atoi_range ⟨l.toArray⟩ (by omega) (by simpa using h) _ w0 I (.inr ⟨_,_,rfl⟩)) ?_;rintro e w' ⟨N,rfl,_,_,D⟩;exact⟨_,rfl,_,_,true,rfl,.inr ⟨⟨_,_,rfl⟩,rfl⟩,by simp[u3n,h],Fr.of_below D⟩
theorem x8g (l D:List UInt8)(w0:World)(hG:Glob w0)(hl:l.length<4294967281)(h1:1<=D.length):Rets prog 125 #[S l,S D] w0 λr w'=>Lw.Own Enc.str 9 w0.heap.size w' r (Lib.split l D)/\Fr [] w0 w':=by
 obtain⟨k,hk⟩:=hG.ml;have hs:(⟨l.toArray⟩:ByteArray).size=l.length:=by simp[ByteArray.size]
 have a0:(⟨D.toArray⟩:ByteArray).size=D.length:=by simp[ByteArray.size]
 refine Calls.mono (strings_Split ⟨l.toArray⟩ ⟨D.toArray⟩ k w0 (by omega) hk (by omega)) ?_;rintro e w' ⟨rfl,rfl⟩;have Z:=Lib.splitB_data ⟨D.toArray⟩ 0 (Lib.countB ⟨l.toArray⟩ ⟨D.toArray⟩) ⟨l.toArray⟩;have O:Lib.countB ⟨l.toArray⟩ ⟨D.toArray⟩=Lib.count l D:=by simp[Lib.countB]
 have I:=Lib.splitB_all ⟨D.toArray⟩ (by omega) 0 _ ⟨l.toArray⟩ U;have J:=Lib.countB_le ⟨D.toArray⟩ (by omega) _ ⟨l.toArray⟩ (Nat.le_refl _);rw[hs]at J;have M:Lib.split l D=(Lib.splitB ⟨D.toArray⟩ 0 (Lib.countB ⟨l.toArray⟩ ⟨D.toArray⟩) ⟨l.toArray⟩).map (·.data.toList):=by rw[Z,O];rfl
 have hz:∀zs:List ByteArray,zs.map Value.string=(zs.map (·.data.toList)).flatMap Enc.str.enc:=λzs=>by
  induction zs with
  | nil=>rfl
  | cons z zs ih=>rw[List.map_cons,List.map_cons,List.flatMap_cons,<-ih];rfl
 refine⟨_,rfl,.inr ⟨w0.heap.size,Lib.countB ⟨l.toArray⟩ ⟨D.toArray⟩+1,_,by rw[M,List.length_map,I],Nat.le_refl _,heap_alloc_new w0 _,by rw[M,List.length_map,I];exact Nat.le_refl _,by unfold maxLen;omega,?_,?_⟩,Fr.alloc [] w0 _⟩;rw[show Enc.str.sz=1 from U,Nat.mul_one,List.size_toArray,List.length_map,I];exact Nat.le_refl _;rw[M,List.length_map,I,show Enc.str.sz=1 from U,Nat.mul_one,<-hz];exact List.take_of_length_le (by rw[List.length_map,I];exact Nat.le_refl _)
theorem u9y (l:List UInt8)(w0:World)(hl:l.length<=1000000000):Rets prog 127 #[S l,S [32]] w0 λr w'=>r=S (Lib.trimB l 32)/\Fr [] w0 w':=by
 refine Calls.mono (strings_Trim_one ⟨l.toArray⟩ 32 (by decide) w0 (by simp[ByteArray.size];omega)) ?_;rintro e w' ⟨rfl,rfl|rfl⟩;exact⟨_,rfl,by simp[S],Fr.refl _ _⟩;exact⟨_,rfl,by simp[S],Fr.drew _ _⟩
theorem u7a (l m:List UInt8)(w0:World)(hG:Glob w0)(hl:l.length<4294967281):Rets prog 126 #[S l,S m] w0 λv w'=>v=.tuple #[S (Lib.cut l m).1,S (Lib.cut l m).2.1,.bool (Lib.cut l m).2.2]/\Fr [] w0 w':=by
 obtain⟨k,D⟩:=hG.ml;refine Calls.mono (strings_Cut ⟨l.toArray⟩ ⟨m.toArray⟩ k w0 (by simpa[ByteArray.size] using hl) D) ?_;rintro e w' ⟨rfl,n,rfl⟩;exact⟨_,rfl,rfl,Fr.drewN _ _ _⟩
end Go.Proofs.YtpgdchkdlgkmgaaGreatDoor
namespace Go.Lw
theorem y2l {P:Program}{W:World}{n:String}{d:DataW Unit}:∀ {l:List (String×DataW Unit)} {ps:List MemPlace},DataW.LaidVars P W l ps->(n,d)∈l->
    ∃g t cs D p,P.globalNamed n=some g/\(P.globals[g]?).map (·.type)=some t/\W.var? P n=some cs/\DataW.trod (λ_=>()) P W 0 (λ_=>true) false D t cs.toList=some (d,p)
  | [],_,_,I=>by simp at I
  | (m,e)::r,ps,h,I=>by
    obtain⟨g,t,cs,D,p,q,J,M,O,Z,hr,_⟩:=h
    rcases List.mem_cons.1 I with e|I
    · cases e;exact⟨g,t,cs,D,p,J,M,O,Z⟩
    · exact y2l hr I
theorem x0f {H:Type}{enc:TypeId×Value->H}{P:Program}{w:World}{base:Nat}{sp:Nat->Bool}{J:Bool}{D:Nat}{t e:TypeId}{n:Nat}{cs:List Value}{zs:List (List UInt8)}{p:List MemPlace}
    (ht:P.underlying t=some (.array n e)) (he:P.underlying e=some .string) (hce:P.cellsOf e=1) (hct:P.cellsOf t=n)
    (h:DataW.trod enc P w base sp J D t cs=some (.agg (zs.map λz=>.lit (.string z)),p)):cs=zs.map S:=by
  cases D with
  | zero=>simp[DataW.trod]at h
  | succ D=>
    simp only[DataW.trod,ht,hce,hct,Nat.mul_one]at h
    split at h
    · rename_i hl
      obtain⟨O,hm,hx⟩:=Option.map_eq_some_iff.1 h
      have M:O.map (·.1)=zs.map λz=>(DataW.lit (.string z):DataW H):=by
        have:=congrArg Prod.fst hx
        simpa using this
      have a0:O.length=n:=by simpa using Lib.mapM_length hm
      have a1:zs.length=n:=by
        have:=congrArg List.length M
        simp at this
        omega
      apply List.ext_getElem?
      intro i
      by_cases hi:i<n
      · obtain⟨b,hb,hf⟩:=Lib.mapM_at hm i i (by simp[hi])
        obtain⟨s,hc,h2,_⟩:=DataW.trod_string he hf
        have h1:cs[i]?=some (.string s):=by
          have:=congrArg (·[0]?) hc
          simpa[List.getElem?_take,List.getElem?_drop] using this
        have Z:(O.map (·.1))[i]?=some b.1:=by simp[hb]
        rw[M,List.getElem?_map,Option.map_eq_some_iff]at Z
        obtain⟨z,hz,I⟩:=Z
        rw[h2]at I
        simp only[DataW.lit.injEq,Lit.string.injEq]at I
        rw[h1,List.getElem?_map,hz,I]
        simp[S]
      · rw[List.getElem?_eq_none (by omega),List.getElem?_eq_none (by simp;omega)]
    · cases h
theorem u0c {H:Type}{enc:TypeId×Value->H}{P:Program}{w:World}{base:Nat}{sp:Nat->Bool}{I:Bool}{D:Nat}{t:TypeId}{ms}{cs:List Value}{nm:String}{d:DataW H}{p:List MemPlace}
    (ht:P.underlying t=some (.interface ms)) (h:DataW.trod enc P w base sp I D t cs=some (.iface nm d,p)):∃u v,cs=[.iface u v]:=by
  cases D with
  | zero=>simp[DataW.trod]at h
  | succ D=>
    simp only[DataW.trod,ht]at h
    split at h<;>simp_all
theorem j4b {P:Program}{W:World}{n:String}{g:Nat}{cs:Array Value}(I:P.globalNamed n=some g)(h:W.var? P n=some cs):g<W.heap.size:=by
 unfold World.var? at h;simp only[I,Option.bind_some]at h;rcases Nat.lt_or_ge g W.heap.size with D|D
 exact D;rw[Array.getElem?_eq_none D]at h;simp at h
end Go.Lw
namespace Go.Proofs.YtpgdchkdlgkmgaaGreatDoor
open Go.ChangeShapes Go.WideShapes Go.ChangeAt Go.RowKit Go.Lw
theorem own:ownKnob Tryz.prog.godebug=none:=by kernel_rfl
theorem u8g:laidOutB Tryz.prog=true:=by kernel_rfl
def y4d:List (String×DataW Unit):=[("math/bits.deBruijn32tab",Rows.laid_math_bits_deBruijn32tab),("math/bits.deBruijn64tab",Rows.laid_math_bits_deBruijn64tab),("internal/strconv.uint64pow10",Rows.laid_internal_strconv_uint64pow10),("unicode/utf8.acceptRanges",Rows.laid_unicode_utf8_acceptRanges),("strconv.ErrRange",Rows.laid_strconv_ErrRange),("strconv.ErrSyntax",Rows.laid_strconv_ErrSyntax),("gansey/orders.steps",Rows.laid_gansey_orders_steps),("gansey/operations.words",Rows.laid_gansey_operations_words),("gansey/operations.dirs",Rows.laid_gansey_operations_dirs),("unicode/utf8.first",Rows.laid_unicode_utf8_first)]
theorem v2j {n:String}{zs:List (List UInt8)}{W:World}{l:List (String×DataW Unit)}{ps:List MemPlace}{g t m:Nat}(hL:DataW.LaidVars Tryz.prog W l ps)(hm:(n,.agg (zs.map λz=>.lit (.string z)))∈l)(ht:Tryz.prog.underlying t=some (.array m 9))(M:Tryz.prog.globalNamed n=some g:=by kernel_rfl)(I:(Tryz.prog.globals[g]?).map (·.type)=some t:=by kernel_rfl)(D:Tryz.prog.cellsOf t=m:=by kernel_rfl):Cells W ⟨g,0,none⟩ (zs.map S):=by
 obtain⟨g',t',cs,J,p,O,Z,e3,e4⟩:=y2l hL hm;cases M.symm.trans O;cases I.symm.trans Z;have hc:=x0f ht Tryz.underlying9 (by kernel_rfl) D e4;intro j u hu;rw[z3u,Nat.zero_add,World.var?_cell M e3 j,<-Array.getElem?_toList,hc];exact hu
theorem u6k {n nm:String}{d:DataW Unit}{W:World}{l:List (String×DataW Unit)}{ps:List MemPlace}{g:Nat}(hL:DataW.LaidVars Tryz.prog W l ps)(hm:(n,.iface nm d)∈l)(J:Tryz.prog.globalNamed n=some g)(D:(Tryz.prog.globals[g]?).map (·.type)=some 155):∃te pe,W.cell? ⟨g,0,none⟩=some (.iface te pe):=by
 obtain⟨g',t',cs,I,p,M,O,Z,e4⟩:=y2l hL hm;cases J.symm.trans M;cases D.symm.trans O;obtain⟨u,v,hc⟩:=u0c Tryz.underlying155 e4;exact⟨u,v,by rw[World.var?_cell J Z 0,<-Array.getElem?_toList,hc];rfl⟩
theorem j1p {W:World}(h:laidMetH Tryz.prog y4d W)(M:W.ShapedOpen Tryz.prog):Glob W:=by
 have h':laidMet Tryz.prog y4d W:=h;obtain⟨ps,D,_,_⟩:=h';refine⟨?_,?_,(Go.Proofs.cell_of_shapedOpen_int (zero:=#[.int .i64 0]) (t:=3) M (of_decide_eq_true (by kernel_rfl)) (by kernel_rfl) U (by kernel_rfl) (by kernel_rfl) Tryz.underlying3),?_,?_,?_,?_⟩;exact v2j (zs:=z8x) (n:= "gansey/operations.words") (t:=309) (m:=9) D (by simp[y4d];rfl) Tryz.underlying309;exact v2j (zs:=x4u) (n:= "gansey/operations.dirs") (t:=313) (m:=2) D (by simp[y4d];rfl) Tryz.underlying313;obtain⟨g',t',cs,I,p,O,Z,J,e4⟩:=y2l (n:= "internal/strconv.uint64pow10") (d:=Rows.laid_internal_strconv_uint64pow10) D (by simp[y4d]);cases gPow.symm.trans O;cases (show (Tryz.prog.globals[4]?).map (·.type)=some 332 by kernel_rfl).symm.trans Z;unfold Lib.TabIs;rw[J];have:=Lib.cells_of_tab (zs:=Lib.pow10Tab) Tryz.underlying332 Tryz.underlying266 (by kernel_rfl) (by kernel_rfl) e4;rw[<-this];exact u6k (n:= "strconv.ErrSyntax") D (by unfold y4d;simp only[Rows.laid_strconv_ErrSyntax];simp;exact⟨rfl,rfl⟩) (by kernel_rfl) (by kernel_rfl);exact u6k (n:= "strconv.ErrRange") D (by unfold y4d;simp only[Rows.laid_strconv_ErrRange];simp;exact⟨rfl,rfl⟩) (by kernel_rfl) (by kernel_rfl);obtain⟨g',t',cs,I,p,O,Z,J,e4⟩:=y2l (n:= "strconv.ErrRange") (d:=Rows.laid_strconv_ErrRange) D (by simp[y4d]);have:=j4b (show Tryz.prog.globalNamed "strconv.ErrRange" =some 10 by kernel_rfl) J;omega
theorem j6a {W:World}(h:laidMetH Tryz.prog y4d W):StT W:=by
 have h':laidMet Tryz.prog y4d W:=h;obtain⟨ps,hL,_,_⟩:=h';obtain⟨g',t',cs,D,p,J,M,O,Z⟩:=y2l (n:= "gansey/orders.steps") (d:=Rows.laid_gansey_orders_steps) hL (by simp[y4d]);have I:Tryz.prog.globalNamed "gansey/orders.steps" =some 0:=by kernel_rfl
 cases I.symm.trans J;cases (show (Tryz.prog.globals[0]?).map (·.type)=some 290 by kernel_rfl).symm.trans M;have hc:=Lib.cells_of_tab (zs:=[-1,1]) Tryz.underlying290 Tryz.underlying3 (by kernel_rfl) (by kernel_rfl) Z;constructor;intro j u hu;rw[z3u,Nat.zero_add,World.var?_cell I O j,<-Array.getElem?_toList,hc];exact hu
def j4w:List (String×DataW Unit):=y4d.filter λp=>match p.2 with|.iface _ _=>false|_=>true
noncomputable def witP (os:Os):World:=j9o Tryz.prog os j4w
theorem j9c {n:Int}(h:(Lit.int .u8 n).wf=true):0<=n/\n<=255:=by
 have D:IntKind.u8.min<=n/\n<=IntKind.u8.max:=by simpa[Lit.wf] using h
 exact D
noncomputable def u5k (w:World)(g:Nat)(s:List UInt8):World:=layW (w.alloc (.cells #[.string ⟨s.toArray⟩] 360)) g #[.iface 358 (.pointer (some ⟨w.heap.size,0,none⟩))]
noncomputable def j9r (os:Os):World:=u5k (u5k (witP os) 10 [118,97,108,117,101,32,111,117,116,32,111,102,32,114,97,110,103,101]) 9 [105,110,118,97,108,105,100,32,115,121,110,116,97,120]
end Go.Proofs.YtpgdchkdlgkmgaaGreatDoor
namespace Go.Proofs.YtpgdchkdlgkmgaaGreatDoor
open Go.Lw
theorem u2e {cs:List Value}(h:cs.length=6):∃D I c2 c3 c4 c5,cs=[D,I,c2,c3,c4,c5]:=match cs,h with|[D,I,c2,c3,c4,c5],_=>⟨D,I,c2,c3,c4,c5,rfl⟩
theorem opOX:x2j Tryz.prog 76 u2o (λ_ s=>s.Bytes):=by
 intro H enc w base sp D Z cs x h;obtain⟨O,n,_,_,hl,I,hf⟩:=DataW.trod_struct Tryz.underlying76 h;rw[show Tryz.prog.cellsOf 76=6 by kernel_rfl]at hl;obtain⟨J,M,c2,c3,c4,c5,rfl⟩:=u2e hl;have h0:DataW.trod enc Tryz.prog w base sp D n 5 (([J,M,c2,c3,c4,c5].drop 0).take (Tryz.prog.cellsOf 5))=O[0]?:=hf 0 _ U;rw[show Tryz.prog.cellsOf 5=1 by kernel_rfl]at h0;obtain⟨y0,e0,r0⟩:=z5f (cs:=[J]) h0 I (by decide) (y0g Tryz.underlying5);have h1:DataW.trod enc Tryz.prog w base sp D n 5 (([J,M,c2,c3,c4,c5].drop 1).take (Tryz.prog.cellsOf 5))=O[1]?:=hf 1 _ U;rw[show Tryz.prog.cellsOf 5=1 by kernel_rfl]at h1;obtain⟨y1,e1,r1⟩:=z5f (cs:=[M]) h1 I (by decide) (y0g Tryz.underlying5);have h2:DataW.trod enc Tryz.prog w base sp D n 5 (([J,M,c2,c3,c4,c5].drop 2).take (Tryz.prog.cellsOf 5))=O[2]?:=hf 2 _ U;rw[show Tryz.prog.cellsOf 5=1 by kernel_rfl]at h2;obtain⟨y2,e2,r2⟩:=z5f (cs:=[c2]) h2 I (by decide) (y0g Tryz.underlying5);have h3:DataW.trod enc Tryz.prog w base sp D n 5 (([J,M,c2,c3,c4,c5].drop 3).take (Tryz.prog.cellsOf 5))=O[3]?:=hf 3 _ U;rw[show Tryz.prog.cellsOf 5=1 by kernel_rfl]at h3;obtain⟨y3,e3,r3⟩:=z5f (cs:=[c3]) h3 I (by decide) (y0g Tryz.underlying5);have h4:DataW.trod enc Tryz.prog w base sp D n 5 (([J,M,c2,c3,c4,c5].drop 4).take (Tryz.prog.cellsOf 5))=O[4]?:=hf 4 _ U;rw[show Tryz.prog.cellsOf 5=1 by kernel_rfl]at h4;obtain⟨y4,e4,r4⟩:=z5f (cs:=[c4]) h4 I (by decide) (y0g Tryz.underlying5);have h5:DataW.trod enc Tryz.prog w base sp D n 5 (([J,M,c2,c3,c4,c5].drop 5).take (Tryz.prog.cellsOf 5))=O[5]?:=hf 5 _ U;rw[show Tryz.prog.cellsOf 5=1 by kernel_rfl]at h5;obtain⟨y5,e5,r5⟩:=z5f (cs:=[c5]) h5 I (by decide) (y0g Tryz.underlying5);cases e0;cases e1;cases e2;cases e3;cases e4;cases e5;exact⟨⟨y0,y1,y2,y3,y4,y5⟩,rfl,⟨r0,r1,r2,r3,r4,r5⟩⟩
end Go.Proofs.YtpgdchkdlgkmgaaGreatDoor
namespace Go.Proofs.YtpgdchkdlgkmgaaGreatDoor
open Go.Lw _root_.Go.Proofs.Tryz
theorem z4c:ElemOf prog 153 9 Enc.str 16:=ElemOf.mk' (z:=(.string ⟨#[]⟩)) underlying153 (by kernel_rfl) U
theorem na9:z2b prog 9:=λ_=>by kernel_rfl
theorem sz9:z1p prog 9 1:=λ_=>by kernel_rfl
theorem y1r (l:List UInt8)(w0:World)(hG:Glob w0)(hl:l.length<=1000000):Rets prog 220 #[S l] w0 λv w'=>v=.int .i64 (u3n l)/\Fr [] w0 w':=by
 have M:=hG.sz;refine we [(0,S l)] func220 U ntmps220 U (.cons U .nil) (sr (asg U (nn (sr (mv U (cl (ev1 U) (mkC func245) (j0k _ _ hG (by omega)) U ?_))))));rintro _ w1 ⟨n,e,b,rfl,O,I,J⟩;refine mv U (xt U (xt U (asg U (asg U (kpL [(3,_),(4,_)] (.c2 U U) (nn (sq (sr (mv U (u6s U underlying155 O U (nn (cd U (λD=>?_) (λD=>?_)))))))))))));refine sr (asg U (nn (rt (tr (r1 results220 U ?_)))));exact⟨_,rfl,by simp[I,D],J⟩;refine sk (tn (sr (mv U (asg U (nn (rt (r1 results220 U ?_)))))));exact⟨_,rfl,by simp[I,D],J⟩
theorem u5a (l:List UInt8)(w0:World)(hG:Glob w0):Rets prog 221 #[S l] w0 λv w'=>v=.int .u8 (j6n l)/\Fr [] w0 w':=by
 have I:=hG.sz;refine we [(0,S l)] func221 U ntmps221 U (.cons U .nil) (sr (asg U (nn (sq (sr (mv U (y4c U U underlying313 sz9 (z6x U hG.dr U na9 (u4o U U U (nn (cd U (λD=>?_) (λD=>?_))))))))))));refine sr (asg U (nn (rt (tr (r1 results221 U ?_)))));exact⟨_,rfl,by rw[j6n,if_pos D],(Fr.refl _ _)⟩;refine sk (tn (sr (asg U (nn (rt (r1 results221 U ?_))))));exact⟨_,rfl,by rw[j6n,if_neg D],(Fr.refl _ _)⟩
theorem u9z (o:MOp)(w0:World)(hG:Glob w0):Rets prog 184 #[opV o] w0 λv w'=>v=S (j4e o)/\Fr [] w0 w':=by
 have e9:=hG.sz;refine we [(0,opV o)] func184 U ntmps184 U (.cons U .nil) (sr (bx U (λg1 w1 f0 I q1 z1=>(asg U (nn (sq (sr (z0k U I y2a (cl (ev1 U) (mkC func21) (y4m o _) U ?_)))))))));rintro _ w2 ⟨rfl,q2⟩;have z2:=q2.size;refine ne' U (nn (cd U (λc0=>?_) (λc0=>?_)));refine sr (asg U (nn (rt (tr (r1 results184 U ?_)))));exact⟨_,rfl,by rw[j4e,if_pos c0]<;>rfl,(q1.n1 q2)⟩;have hr:=v4s (Classical.not_not.1 c0);refine sk (tn (sr (fad U z2z ?_)));replace I:=I.ext q2;refine z0g U I U na5 (z5a U (us underlying5) underlying3 (wi6 (by omega)) ?_);replace hG:=hG.ext (q1.n1 q2);refine cl (ev1 U) j1k (x0a _ _ hG (by omega)) U ?_;rintro _ w3 ⟨rfl,q3⟩;have z3:=q3.size;refine asg U (nn (sr (fad U z9i ?_)));replace I:=I.ext q3;refine z0g U I U v9e (y4c U U underlying309 sz9 ?_);replace hG:=hG.ext q3;refine z6x U hG.wd (v4v (by omega)) na9 (z2l ([x5g o.k]) (ev1 U) U z4c (λJ w4 e0 D q4 z4=>(asg U ?_)));replace D:=D.low (show w0.heap.size<=J by omega);refine nn ?_;refine jn (ι:=Value) [] (λv4=>[(4,v4)]) (λv4 w'=>Fr [J] w4 w'/\Lw.Own Enc.str 9 w0.heap.size w' v4 (x5g o.k::y4e o)) .nil ?_ ?_;refine sr (fad U z9i ?_);replace I:=I.ext q4;refine z0g U I U v9e (nn (bl (sr (eq' U (asg U (nn (cd U (λc1=>?_) (λc1=>?_))))))));refine rg (mv U (mv U (fad U z6e (z0g U I U y7t (y4c U U underlying313 sz9 ?_)))));replace hG:=hG.ext q4;refine z6x U hG.dr (x8d (by omega)) na9 (z2l ([x6y o.y,u7v o.d]) (ev2 U) U z4c (λe5 w5 e1 b0 q5 z5=>?_));replace D:=D.ext q5;refine z2g (base:=w0.heap.size) U D b0.sl z4c (by unfold maxLen;first|(simp;done)|(simp;omega)) (by simp<;>omega) (λf2 w6 Z q6 d3=>?_);replace q6:Fr [J] _ _:=q6;have z6:=q6.size;refine asg U (kpL [(4,_)] (.cons U .nil) (nl (bn' ?_)));exact jE (_) (.cons U .nil) ⟨((Fr.refl [J] _).z2 q5 q6),by first|(rw[y4e,if_pos c1];exact Z)|(exfalso;omega)⟩;refine sr (eq' U (asg U (nn (cd U (λc2=>?_) (λc2=>?_)))));refine rg (mv U (mv U (z2l ([x6y o.y]) (ev1 U) U z4c (λe6 w7 e2 b1 q7 z7=>?_))));replace D:=D.ext q7;refine z2g (base:=w0.heap.size) U D b1.sl z4c (by unfold maxLen;first|(simp;done)|(simp;omega)) (by simp<;>omega) (λf3 w8 Z q8 d4=>?_);replace q8:Fr [J] _ _:=q8;have z8:=q8.size;refine asg U (kpL [(4,_)] (.cons U .nil) (nl (bn' ?_)));exact jE (_) (.cons U .nil) ⟨((Fr.refl [J] _).z2 q7 q8),by first|(rw[y4e,if_neg c1,if_pos c2];exact Z)|(exfalso;omega)⟩;refine sr (eq' U (asg U (nn (cd U (λc3=>?_) (λc3=>?_)))));refine rg (mv U (fad U y3z (z0g U I U na3 ?_)));replace hG:=hG.ext q4;refine cl (ev1 U) j1k (x0a _ _ hG (by omega)) U ?_;rintro _ w9 ⟨rfl,q9⟩;have z9:=q9.size;refine z2l ([x6y o.r]) (ev1 U) U z4c (λe7 f7 e3 b2 b5 h0=>?_);replace D:=D.ext (q9.n1 b5);refine z2g (base:=w0.heap.size) U D b2.sl z4c (by unfold maxLen;first|(simp;done)|(simp;omega)) (by simp<;>omega) (λf4 f8 Z a5 d5=>?_);replace a5:Fr [J] _ _:=a5;have h1:=a5.size;refine asg U (kpL [(4,_)] (.cons U .nil) (nl (bn' ?_)));exact jE (_) (.cons U .nil) ⟨((Fr.refl [J] _).z3 q9 b5 a5),by first|(rw[y4e,if_neg c1,if_neg c2,if_pos c3];exact Z)|(exfalso;omega)⟩;refine jn (ι:=Bool) [(1,_),(3,_),(4,_),(18,_)] (λb4=>[(43,.bool b4)]) (λb4 w'=>Fr [] w4 w'/\b4=decide ((o.k=4\/o.k=5)\/o.k=6)) (.c4 U U U U) ?_ ?_;refine sr (eq' U (asg U (nn (cd U (λc4=>?_) (λc4=>?_)))));refine sk ?_;exact jE (_) (.c5 U U U U U) ⟨(Fr.refl _ _),by first|exact bi (by omega)|exact bt (by omega)|exact bf (by omega)⟩;refine sr (eq' U (asg U (nn (cd U (λc5=>?_) (λc5=>?_)))));refine sk ?_;exact jE (_) (.c5 U U U U U) ⟨(Fr.refl _ _),by first|exact bi (by omega)|exact bt (by omega)|exact bf (by omega)⟩;refine rg (eq' U (asg U (nl ?_)));exact jE (_) (.c5 U U U U U) ⟨(Fr.refl _ _),by first|exact bi (by omega)|exact bt (by omega)|exact bf (by omega)⟩;rintro b4 c9 ⟨a0,rfl⟩;have h2:=a0.size;refine kpC [(1,_),(3,_),(4,_),(18,_),(43,_)] (.c5 U U U U U) (cd U (λc6=>?_) (λc6=>?_));replace hG:=hG.ext (q4.n1 a0);replace I:=I.ext a0;replace D:=D.ext a0;intro a h;have O:=Fr.refl [J] c9;refine z2w (λwb w'=>Fr [J] wb w') z2s ?_;intro d0 M;have h3:=M.size;replace hG:=hG.ext M;replace I:=I.ext M;replace D:=D.ext M;replace O:=O.next M;have f1:=M.size;clear M;have hC:Fr [J] d0 d0:=Fr.refl _ _;have a7:=hG;have a1:=I;have a4:=D;refine z0e 0 h U λa h=>z0c 1 h U z6e U λa h=>z0l 2 h U (λ_ hw=>a1.fr hw (by simp<;>omega)) U y7t U λa h=>u7p 3 (by kernel_rfl) (by kernel_rfl) (by kernel_rfl) hC h wn U U underlying313 sz9 (by omega) (by omega) U U λa h=>u4p 4 (by kernel_rfl) (by kernel_rfl) (by kernel_rfl) hC h wn U (λ_ hw=>(a7.fr hw (by simp<;>omega)).dr) (x8d (by omega)) na9 U U λa h=>z0c 5 h U z4q U λa h=>z1e (vs:=[_,_]) 6 h U (λ_ hw=>(a1.fr hw (by simp<;>omega))) z5b U U λa h=>z0e 8 h U λa h=>z0d 7 U ?_;refine z0m h (z0a U z0f) (mkC func223) (y9f _ _ _ hG) ?_;rintro _ f9 ⟨rfl,M⟩ a h;have h4:=M.size;replace hG:=hG.ext M;replace I:=I.ext M;replace D:=D.ext M;replace O:=O.next M;replace hC:=hC.next M;clear M;refine z0b ?_;refine z0d 9 U ?_;refine z3g ([u7v o.d,v5l o.b o.p,x6y o.y]) h (z0a U (z0a U (z0a U z0f))) U z4c λa9 g0 hg a3 M hz a h=>?_;have d1:g1<a9:=by have:=I.lt;omega
 have h5:=M.size;replace hG:=hG.ext M;replace I:=I.ext M;replace D:=D.ext M;replace O:=O.next M;replace hC:=hC.next M;clear M;refine z0b ?_;refine z0d 10 U ?_;refine z7w (base:=w0.heap.size) h U U D a3.sl z4c U ?_ (hM:=(by unfold maxLen;first|(simp;done)|(simp;omega))) (hb:=(by simp<;>omega));clear h a;intro f5 g3 Z M d6 a h;replace M:Fr [J] _ _:=M;have d9:=M.size;replace hG:=hG.fr M (by simp[z0x]<;>omega);replace I:=I.fr M;replace O:=O.sp M;replace hC:=hC.sp M;replace a3:=a3.fr M (by simp[z0x]<;>omega);clear M;refine z0b ?_;refine z0d 11 U ?_;refine z0s h U λa h=>?_;refine z0b ?_;refine z0r ?_;clear hC a7 a1 a4;have d9:=O.size;refine bk (h.sub (L':=[(4,_)]) (.cons U .nil)) (bn' ?_);exact jE (_) (.cons U .nil) ⟨((Fr.refl [J] _).z2 a0 O),by first|(rw[y4e,if_neg c1,if_neg c2,if_neg c3,if_pos c6];exact Z)|(exfalso;omega)⟩;refine jn (ι:=Bool) [(1,_),(4,_)] (λb7=>[(58,.bool b7)]) (λb7 w'=>Fr [] c9 w'/\b7=decide (o.k=7\/o.k=8)) (.c2 U U) ?_ ?_;refine sr (eq' U (asg U (nn (cd U (λc7=>?_) (λc7=>?_)))));refine sk ?_;exact jE (_) (.c3 U U U) ⟨(Fr.refl _ _),by first|exact bi (by omega)|exact bt (by omega)|exact bf (by omega)⟩;refine rg (eq' U (asg U (nl ?_)));exact jE (_) (.c3 U U U) ⟨(Fr.refl _ _),by first|exact bi (by omega)|exact bt (by omega)|exact bf (by omega)⟩;rintro b7 g4 ⟨a2,rfl⟩;have h6:=a2.size;refine kpC [(1,_),(4,_),(58,_)] (.c3 U U U) (cd U (λc8=>?_) (λc8=>?_));refine rg (mv U (fad U z4q ?_));replace I:=I.ext (a0.n1 a2);refine z1q (vs:=[_,_]) U I z5b U ?_;replace hG:=hG.ext (q4.n2 a0 a2);refine cl (ev1 U) (mkC func223) (y9f _ _ _ hG) U ?_;rintro _ g5 ⟨rfl,a8⟩;have h7:=a8.size;refine z2l ([v5l o.b o.p]) (ev1 U) U z4c (λe8 g6 e4 b3 b6 h8=>?_);replace D:=D.ext (a0.n3 a2 a8 b6);refine z2g (base:=w0.heap.size) U D b3.sl z4c (by unfold maxLen;first|(simp;done)|(simp;omega)) (by simp<;>omega) (λf6 g7 Z a6 d7=>?_);replace a6:Fr [J] _ _:=a6;have h9:=a6.size;refine asg U (kpL [(4,_)] (.cons U .nil) (nl (bn' ?_)));exact jE (_) (.cons U .nil) ⟨((Fr.refl [J] _).z5 a0 a2 a8 b6 a6),by first|(rw[y4e,if_neg c1,if_neg c2,if_neg c3,if_neg c6,if_pos c8];exact Z)|(exfalso;omega)⟩;refine sk (bn' ?_);exact jE (_) (.cons U .nil) ⟨((Fr.refl [J] _).n2 a0 a2),by first|(rw[y4e,if_neg c1,if_neg c2,if_neg c3,if_neg c6,if_neg c8];exact Z)|(exfalso;omega)⟩;rintro v4 g8 ⟨b8,Z⟩;have i0:=b8.size;refine kpC [(4,_)] (.cons U .nil) (sr (mv U ?_));refine cl (ev2 U) (mkC func82) (x8q _ _ _ _ _ _ Z (by simp) (by have:=v9v o (Classical.not_not.1 c0);omega) (by have:=j7u o;simp;omega)) U ?_;rintro _ g9 ⟨rfl,b9⟩;have i1:=b9.size;refine asg U (nn (rt (r1 results184 U ?_)));exact⟨_,rfl,by rw[j4e,if_neg c0],(q1.z5 q2 q3 q4 b8 b9)⟩
theorem u5y:BuildAt prog 28 [(0,1),(1,1),(2,2),(4,1),(5,1)] [(.int .u8 0),(.int .u8 0),(.int .u8 0),(.int .i64 0),(.int .u8 0),(.int .i64 0)]:=BuildAt.struct underlying28 (λ_=>by kernel_rfl) (λ_=>by kernel_rfl)
theorem j4q:z0y prog 76 0 0:=λ_ _=>by kernel_rfl
theorem v6y:z0y prog 76 1 1:=λ_ _=>by kernel_rfl
theorem u6j:z0y prog 76 2 2:=λ_ _=>by kernel_rfl
theorem u6c:z0y prog 76 3 3:=λ_ _=>by kernel_rfl
theorem x9h:z0y prog 76 4 4:=λ_ _=>by kernel_rfl
theorem u5o:z0y prog 76 5 5:=λ_ _=>by kernel_rfl
theorem sz5:z1p prog 5 1:=λ_=>by kernel_rfl
theorem u8n (x:MOp)(w0:World)(hx:x.Bytes):Rets prog 22 #[oxV x] w0 λv w'=>v=opV (ofO x)/\Fr [] w0 w':=by
 obtain⟨⟨_,_⟩,⟨_,_⟩,⟨_,_⟩,⟨_,_⟩,⟨_,_⟩,⟨_,_⟩⟩:=hx;refine we [(0,oxV x)] func22 U ntmps22 U (.cons U .nil) (sr (bx U (λg1 w1 d0 I q1 z1=>(al v1y U (λg2 w2 d1 J q2 z2=>(nn (sr (fad U j4q ?_))))))));replace I:=I.ext q2;refine z0g U I U na5 (y1g U (by first|exact IntWalk.rem_in _ _ (by omega)|rfl) (z0v U (wi8 (by omega)) (z1s (cs:=[_,_,_,_,_,_]) (ev1 U) u5y (z0h U z0q) U (al v1y U (λg3 w3 d3 D q3 z3=>?_)))));refine z0i U D x4y (λw4 D q4 z4=>?_) (hl:=rfl);refine nn (sr (fad U u6j ?_));replace I:=(I.ext q3).fr q4;refine z0g U I U na5 (y1g U (by first|exact IntWalk.rem_in _ _ (by omega)|rfl) (fad U u6c (z0g U I U na5 (y1g U (by first|exact IntWalk.rem_in _ _ (by omega)|rfl) (z5a U (us underlying5) underlying3 (wi6 (by omega)) (z0v U (wi6 (by omega)) (z1s (cs:=[_,_]) (ev2 U) y7w (z0h U (z0h U z0q)) U (al v1n U (λg4 w5 d4 O q5 z5=>?_)))))))));refine z0i U O y3v (λw6 O q6 z6=>?_) (hl:=rfl);refine kpL [(1,_),(2,_),(3,_),(4,_)] (.c4 U U U U) (nn ?_);refine jn (ι:=Unit) [(2,_),(3,_)] (λ_j=>[]) (λ_j w'=>Fr [g3] w6 w'/\Blk w' g3 28 [.int .u8 (ofO x).k,.int .u8 (ofO x).d,.int .u8 (ofO x).b,.int .i64 (ofO x).p,.int .u8 (ofO x).y,.int .i64 (ofO x).r]) (.c2 U U) ?_ ?_;refine sr (fad U z9i ?_);replace D:=(D.ext q5).fr q6;refine z0g U D U v9e (nn (bl (sr (eq' U (asg U (nn (cd U (λc0=>?_) (λc0=>?_))))))));replace I:=(I.ext q5).fr q6;replace J:=(((J.ext q3).fr q4).ext q5).fr q6;intro a h;have a6:=Fr.refl [g3] w6;refine z2w (λwb w'=>Fr [g3] wb w') z2s ?_;intro w7 M;replace I:=I.ext M;replace J:=J.ext M;replace D:=D.ext M;replace O:=O.ext M;replace a6:=a6.next M;have b0:=M.size;clear M;have hC:Fr [g3] w7 w7:=Fr.refl _ _;have Z:=I;have a4:=J;have a5:=D;have a1:=O;refine z0c 0 h U v6y U λa h=>z0l 1 h U (λ_ hw=>Z.fr hw (by simp<;>omega)) U na5 U λa h=>x8x 2 hC h wn U U (by first|exact IntWalk.rem_in _ _ (by omega)|rfl) U U λa h=>z0c 3 h U x9h U λa h=>z0l 4 h U (λ_ hw=>Z.fr hw (by simp<;>omega)) U na5 U λa h=>x8x 5 hC h wn U U (by first|exact IntWalk.rem_in _ _ (by omega)|rfl) U U λa h=>z5c 6 h U (by first|exact IntWalk.u8_in _ (by omega)|rfl) U λa h=>z0c 7 h U z6e U λa h=>z0d 8 U ?_;refine z3h h U U D U U U j2z λw8 a0 M hz a h=>?_;replace I:=I.fr M;replace J:=J.fr M;replace O:=O.fr M;replace a6:=a6.sp M;replace hC:=hC.sp M;clear D M hz;have D:Blk w8 g3 _ [_,_,_,_,_,_]:=a0;clear a0;refine z0b ?_;refine z0c 9 h U z2z U λa h=>z0d 10 U ?_;refine z3h h U U D U U U sz5 λw9 a0 M hz a h=>?_;replace I:=I.fr M;replace J:=J.fr M;replace O:=O.fr M;replace a6:=a6.sp M;replace hC:=hC.sp M;clear D M hz;have D:Blk w9 g3 _ [_,_,_,_,_,_]:=a0;clear a0;refine z0b ?_;refine z0r ?_;clear hC Z a4 a5 a1;refine bk (h.sub (L':=[(2,_),(3,_)]) (.c2 U U)) (bn' ?_);exact jE (()) (.c2 U U) ⟨((Fr.refl [g3] _).z1 a6),by rw[ofO,ofK,if_pos c0];exact D⟩;refine sr (eq' U (asg U (nn (cd U (λc1=>?_) (λc1=>?_)))));refine rg (fad U x9h ?_);replace I:=(I.ext q5).fr q6;refine z0g U I U na5 (y1g U (by first|exact IntWalk.rem_in _ _ (by omega)|rfl) (z0v U (wi8 (by omega)) (fad U z2z (z3b U D U sz5 (λb6 D b1 e0=>?_)))));replace D:Blk b6 g3 _ [_,_,_,_,_,_]:=D;refine kpL [(2,_),(3,_)] (.c2 U U) (nl (bn' ?_));exact jE (()) (.c2 U U) ⟨((Fr.refl [g3] _).z1 b1),by rw[ofO,ofK,if_neg c0,if_pos c1];exact D⟩;refine sr (eq' U (asg U (nn (cd U (λc2=>?_) (λc2=>?_)))));refine rg (fad U u5o ?_);replace I:=(I.ext q5).fr q6;refine z0g U I U na5 (y1g U (by first|exact IntWalk.rem_in _ _ (by omega)|rfl) (z5a U (us underlying5) underlying3 (wi6 (by omega)) (z2o U (wi6 (by omega)) (fad U y3z (z3b U D U sz3 (λb7 D b2 e1=>?_))))));replace D:Blk b7 g3 _ [_,_,_,_,_,_]:=D;refine kpL [(2,_),(3,_)] (.c2 U U) (nl (bn' ?_));exact jE (()) (.c2 U U) ⟨((Fr.refl [g3] _).z1 b2),by rw[ofO,ofK,if_neg c0,if_neg c1,if_pos c2];exact D⟩;refine jn (ι:=Bool) [(1,_),(2,_),(3,_),(4,_)] (λb3=>[(58,.bool b3)]) (λb3 w'=>Fr [] w6 w'/\b3=decide ((1+x.k % 8)=7\/(1+x.k % 8)=8)) (.c4 U U U U) ?_ ?_;refine sr (eq' U (asg U (nn (cd U (λc3=>?_) (λc3=>?_)))));refine sk ?_;exact jE (_) (.c5 U U U U U) ⟨(Fr.refl _ _),by first|exact bi (by omega)|exact bt (by omega)|exact bf (by omega)⟩;refine rg (eq' U (asg U (nl ?_)));exact jE (_) (.c5 U U U U U) ⟨(Fr.refl _ _),by first|exact bi (by omega)|exact bt (by omega)|exact bf (by omega)⟩;rintro b3 b8 ⟨a3,rfl⟩;refine kpC [(1,_),(2,_),(3,_),(4,_),(58,_)] (.c5 U U U U U) (cd U (λc4=>?_) (λc4=>?_));refine rg ?_;replace O:=O.ext a3;refine z0k U O z5b (fad U z4q ?_);replace D:=D.ext a3;refine z5r (cs':=[_,_,_,_,_,_]) U U D (by first|(simp[Value.oneCell',S];done)|exact Enc.one _ _) y3v U (λd5 D b4 e2=>?_);refine nl (bn' ?_);exact jE (()) (.c2 U U) ⟨((Fr.refl [g3] _).z2 a3 b4),by rw[ofO,ofK,if_neg c0,if_neg c1,if_neg c2,if_pos c4];exact D⟩;replace I:=((I.ext q5).fr q6).ext a3;replace J:=((((J.ext q3).fr q4).ext q5).fr q6).ext a3;replace D:=D.ext a3;replace O:=O.ext a3;intro a h;have a2:=Fr.refl [g3] b8;refine z2w (λwb w'=>Fr [g3] wb w') z2s ?_;intro a8 M;replace I:=I.ext M;replace J:=J.ext M;replace D:=D.ext M;replace O:=O.ext M;replace a2:=a2.next M;have b0:=M.size;clear M;have hC:Fr [g3] a8 a8:=Fr.refl _ _;have Z:=I;have a4:=J;have a5:=D;have a1:=O;refine z0c 0 h U v6y U λa h=>z0l 1 h U (λ_ hw=>Z.fr hw (by simp<;>omega)) U na5 U λa h=>x8x 2 hC h wn U U (by first|exact IntWalk.rem_in _ _ (by omega)|rfl) U U λa h=>z0z 3 h U (λ_ hw=>a1.fr hw (by simp<;>omega)) z5b U λa h=>z0c 4 h U x9h U λa h=>z0l 5 h U (λ_ hw=>Z.fr hw (by simp<;>omega)) U na5 U λa h=>x8x 6 hC h wn U U (by first|exact IntWalk.rem_in _ _ (by omega)|rfl) U U λa h=>z5c 7 h U (by first|exact IntWalk.u8_in _ (by omega)|rfl) U λa h=>z0c 8 h U z6e U λa h=>z0d 9 U ?_;refine z3h h U U D U U U j2z λb9 a0 M hz a h=>?_;replace I:=I.fr M;replace J:=J.fr M;replace O:=O.fr M;replace a2:=a2.sp M;replace hC:=hC.sp M;clear D M hz;have D:Blk b9 g3 _ [_,_,_,_,_,_]:=a0;clear a0;refine z0b ?_;refine z0c 10 h U z4q U λa h=>z0d 11 U ?_;refine y8x (cs':=[_,_,_,_,_,_]) h U U D U (by first|(simp[Value.oneCell',S];done)|exact Enc.one _ _) y3v U λd6 a0 M hz a h=>?_;replace I:=I.fr M;replace J:=J.fr M;replace O:=O.fr M;replace a2:=a2.sp M;replace hC:=hC.sp M;clear D M hz;have D:=a0;clear a0;refine z0b ?_;refine z0c 12 h U z2z U λa h=>z0d 13 U ?_;refine z3h h U U D U U U sz5 λc9 a0 M hz a h=>?_;replace I:=I.fr M;replace J:=J.fr M;replace O:=O.fr M;replace a2:=a2.sp M;replace hC:=hC.sp M;clear D M hz;have D:Blk c9 g3 _ [_,_,_,_,_,_]:=a0;clear a0;refine z0b ?_;refine z0r ?_;clear hC Z a4 a5 a1;refine bk (h.sub (L':=[(2,_),(3,_)]) (.c2 U U)) (bn' ?_);exact jE (()) (.c2 U U) ⟨((Fr.refl [g3] _).z2 a3 a2),by rw[ofO,ofK,if_neg c0,if_neg c1,if_neg c2,if_neg c4];exact D⟩;rintro _j d7 ⟨a7,D⟩;have a9:=D.lt;refine kpC [(2,_),(3,_)] (.c2 U U) (sr (z0k U D y2a ?_));replace J:=((((J.ext q3).fr q4).ext q5).fr q6).fr a7;refine z0i U J x4y (λd9 J b5 e3=>?_) (hl:=rfl);refine nn (rt (rC results22 U J y2a  ?_));exact⟨_,rfl,rfl,((q1.z6 q2 q3 q4 q5 q6 a7).z1 b5)⟩
theorem j6q:ElemOf prog 150 5 Enc.b 1:=ElemOf.mk' (z:=(.int .u8 0)) underlying150 (by kernel_rfl) U
theorem sz22:z1p prog 22 1:=λ_=>by kernel_rfl
theorem x3e (l:List UInt8)(w0:World)(hG:Glob w0)(hl:l.length<=1000000):Rets prog 222 #[S l] w0 λv w'=>∃e,v=.tuple #[.agg #[.int .u8 (x5a l).1,.int .i64 (x5a l).2],e]/\Fr [] w0 w':=by
 have b5:=hG.sz;refine we [(0,S l)] func222 U ntmps222 U (.cons U .nil) (sr (al v1n U (λg2 w1 b7 I q1 z1=>(asg U (nn (sq (sq ?_)))))));refine rbo (r:=14) (L':=[(0,_),(2,_)]) ((((l.length:Int)<2)\/(3<(l.length:Int)))) (.c2 U U) ?_ ?_;refine mv U (ln U underlying9 U (lt' U (mv U (gs 10 U (λg0=>?_) (λg0=>?_)))));exact gN U (gN U (gN U (pkt U (rbe U (.c2 U U)))));exact gY U (mv U (gY U (ln U underlying9 U (gY U (gt' U (pkf U (rbe U (.c2 U U))))))));refine tn (cd U (λc0=>?_) (λc0=>?_));refine sr (z1s (cs:=[_,_]) z0f y7w z0q U (z0i U I y3v (λw2 I q2 z2=>?_) (hl:=rfl)));refine asg U (nn (rt (tr (rCT results222 U I z5b U ?_))));exact⟨_,rfl,_,by rw[show x5a l=(0,0) from by rw[x5a,if_pos c0]],(q1.z1 q2)⟩;refine sk (tn (sr (z1s (cs:=[_,_]) z0f y7w z0q U (al v1n U (λg4 w3 b8 D q3 z3=>?_)))));refine z0i U D y3v (λw4 D q4 z4=>?_) (hl:=rfl);refine nn ?_;refine jn (ι:=Int) [(0,_),(2,_),(4,_)] (λb=>[]) (λb w'=>Fr [g4] w4 w'/\j3d l=some b/\(b=0\/b=1)/\Blk w' g4 24 [.int .u8 b,.int .i64 0]) (.c3 U U U) ?_ ?_;refine sr (mv U (u9s (p:=0) U U underlying9 (by omega) (by omega) U U (λb2=>(nn (bl (sr (eq' U (asg U (nn (cd U (λc1=>?_) (λc1=>?_)))))))))));refine rg (fad U z6d (z3b U D U sz22 (λw5 D q5 z5=>?_)));replace D:Blk w5 g4 _ [_,_]:=D;refine nl (bn' ?_);exact jE (_) (.c3 U U U) ⟨((Fr.refl [g4] _).z1 q5),⟨by rw[j3d,if_pos c1],by omega,D⟩⟩;skip;refine sr (eq' U (asg U (nn (cd U (λc2=>?_) (λc2=>?_)))));refine rg (fad U z6d (z3b U D U sz22 (λw6 D q6 z6=>?_)));replace D:Blk w6 g4 _ [_,_]:=D;refine nl (bn' ?_);exact jE (_) (.c3 U U U) ⟨((Fr.refl [g4] _).z1 q6),⟨by rw[j3d,if_neg c1,if_pos c2],by omega,D⟩⟩;refine sr (z1s (cs:=[_,_]) z0f y7w z0q U ?_);replace I:=(I.ext q3).fr q4;refine z0i U I y3v (λw7 I q7 z7=>?_) (hl:=rfl);refine asg U (nn (rt (rb (tr (rCT results222 U I z5b U ?_)))));exact⟨_,rfl,_,by rw[show x5a l=(0,0) from by rw[x5a,if_neg c0,show j3d l=none from by rw[j3d,if_neg c1,if_neg c2]]],(q1.z3 q3 q4 q7)⟩;rintro b w8 ⟨q8,⟨a1,b0,D⟩⟩;have a0:=D.lt;refine kpC [(0,_),(2,_),(4,_)] (.c3 U U U) ?_;have b6:(l.drop 1).length=l.length-1:=List.length_drop;refine sq (sr (mv U (j7h (p:=1) U U underlying9 (by omega) (by omega) U U (k0h U underlying9 underlying150 underlying5 (by unfold maxLen;simp;omega) U (λb4 b3 w9 b1 O q9 z9=>?_)))));refine lnS U underlying150 (mv U (nn (bl ?_)));replace D:=D.ext q9;refine lpK (ι:=Nat) [(0,_),(2,_),(4,_),(28,_),(29,_)] (λi=>[(30,.int .i64 (i:Int))]) (λi w'=>Fr [g4] w9 w'/\i<=(l.drop 1).length/\((l.drop 1).take i).all v9c=true/\Blk w' g4 24 [.int .u8 b,.int .i64 (y6u ((l.drop 1).take i))]) (λi=>(l.drop 1).length-i) 0 (.c6 U U U U U U) ⟨Fr.refl _ _,⟨by omega,rfl,D⟩⟩ ?_;rintro i c9 ⟨M,⟨hi,J,D⟩⟩;have a0:=D.lt;refine kpC [(0,_),(2,_),(4,_),(28,_),(29,_),(30,_)] (.c6 U U U U U U) (sr (lt' U (nn (sq (cd U (λc3=>?_) (λc3=>?_))))));have b9:=x8v ((l.drop 1).getD i 0);refine sk (tn (sq (bl (sr ?_))));replace O:=O.fr M (by simp[z0x]<;>omega);refine z1a (p:=i) (0) U O U j6q (by omega) (λa9 a2=>(z1g U (a2 _ O) na5 (asg U (nn (sq (sq ?_))))));refine rbo (r:=39) (L':=[(0,_),(2,_),(4,_),(6,_),(28,_),(29,_),(30,_)]) ((((((l.drop 1).getD i 0).toNat:Int)<48)\/(57<(((l.drop 1).getD i 0).toNat:Int)))) (.c7 U U U U U U U) ?_ ?_;refine mv U (lt' U (mv U (gs 36 U (λg1=>?_) (λg1=>?_))));exact gN U (gN U (pkt U (rbe U (.c7 U U U U U U U))));exact gY U (mv U (gY U (gt' U (pkf U (rbe U (.c7 U U U U U U U))))));refine tn (cd U (λc4=>?_) (λc4=>?_));refine sr (z1s (cs:=[_,_]) z0f y7w z0q U ?_);replace I:=((((I.ext q3).fr q4).fr q8).ext q9).fr M;refine z0i U I y3v (λd0 I a4 d5=>?_) (hl:=rfl);refine asg U (kpL [(2,_),(3,_)] (.c2 U U) (nn (rt (tr (rb (tr (tr (rb (tr (rCT results222 U I z5b U ?_))))))))));exact⟨_,rfl,_,by rw[show x5a l=(0,0) from by rw[x5a,if_neg c0,a1];simp only;rw[if_pos (j0b _ i (by omega) (by omega))]],(q1.z6 q3 q4 q8 q9 M a4)⟩;have a3:=x4a J (by simp;omega);refine sk (tn (rg (fad U z4s (z0g U D U na3 (x5u U U (wi6 (by omega)) U (mv U (z2o U (wi8 (by omega)) (z5a U (us underlying5) underlying3 (wi6 (by omega)) (z0v U (wi6 (by omega)) (fad U z4s (z3b U D U sz3 (λa8 D a5 d6=>?_))))))))))));replace D:Blk a8 g4 _ [_,_]:=D;refine kpL [(0,_),(2,_),(4,_),(28,_),(29,_),(30,_)] (.c6 U U U U U U) (nl (bn' (tn (rg (z0v U (wi6 (by omega)) (mv U (nl ?_)))))));exact lpE (i+1) (.c6 U U U U U U) ⟨((Fr.refl [g4] _).z2 M a5),⟨by omega,u3u _ _ (by omega) J (by omega),by rw[v0v _ _ (by omega)];exact D⟩⟩ (by omega);obtain rfl:i=(l.drop 1).length:=by omega
 rw[List.take_length]at J D;have a3:=x4a J (by omega);refine ex (te (te (xh (tn (sq (sr (z0k U D z5b ?_)))))));replace hG:=((((hG.ext (q1.n1 q3)).fr q4 (by first|exact y0m hG (by omega)|simp[z0x]<;>omega)).fr q8 (by first|exact y0m hG (by omega)|simp[z0x]<;>omega)).ext q9).fr M (by first|exact y0m hG (by omega)|simp[z0x]<;>omega);refine cl (ev1 U) (mkC func223) (y9f _ _ _ hG) U ?_;rintro _ d1 ⟨rfl,Z⟩;refine mv U (j2c U U U (kpL [(2,_),(4,_),(53,_)] (.c3 U U U) (nn (cd U (λc5=>?_) (λc5=>?_)))));refine sr (z1s (cs:=[_,_]) z0f y7w z0q U ?_);replace I:=(((((I.ext q3).fr q4).fr q8).ext q9).fr M).ext Z;refine z0i U I y3v (λd3 I a6 d7=>?_) (hl:=rfl);refine asg U (nn (rt (tr (rCT results222 U I z5b U ?_))));exact⟨_,rfl,_,by rw[show x5a l=(0,0) from by rw[x5a,if_neg c0,a1];simp only;rw[if_neg (by rw[J];exact λe=>Bool.noConfusion e),if_pos c5]],((q1.z6 q3 q4 q8 q9 M Z).z1 a6)⟩;refine sk (tn (sr ?_));replace D:=D.ext Z;refine z0k U D z5b ?_;replace I:=(((((I.ext q3).fr q4).fr q8).ext q9).fr M).ext Z;refine z0i U I y3v (λd4 I a7 d9=>?_) (hl:=rfl);refine asg U (nn (rt (rCT results222 U I z5b U ?_)));exact⟨_,rfl,_,by rw[show x5a l=(b,y6u (l.drop 1)) from by rw[x5a,if_neg c0,a1];simp only;rw[if_neg (by rw[J];exact λe=>Bool.noConfusion e),if_neg c5]],((q1.z6 q3 q4 q8 q9 M Z).z1 a7)⟩
theorem j8p:z3y prog 309 9:=⟨λ_=>by kernel_rfl,λ_=>by kernel_rfl⟩
theorem sz25:z1p prog 25 1:=λ_=>by kernel_rfl
theorem fld0 (f:F4)(w:World):(Instr.field 188 (.agg (f4L f).toArray) 0).run prog w=.ok (.bool f.1) w:=by kernel_rfl
theorem fld1 (f:F4)(w:World):(Instr.field 188 (.agg (f4L f).toArray) 1).run prog w=.ok (.bool f.2.1) w:=by kernel_rfl
set_option maxHeartbeats 1000000 in
theorem u1s (v:Value)(ws:List (List UInt8))(w0:World)(hG:Glob w0)(Z:Sl Enc.str w0 v ws)(f0:1<=ws.length)(b1:∀i,(ws.getD i []).length<=1000000):Rets prog 183 #[v] w0 λr w'=>r=opV (z4i ws)/\Fr [] w0 w':=by
 obtain⟨A,c,rfl,hc,hM,hA⟩:=id Z;clear hA;have a0:=Z.blk (by intro e;simp[e]at f0);have h4:=hG.sz;refine we [(0,.slice A ws.length c)] func183 U ntmps183 U (.cons U .nil) (sr (al v1y U (λg2 w1 h5 M q1 z1=>?_)));refine nn (sr (z1s (cs:=[_,_,_,_,_,_]) z0f u5y z0q U (al v1y U (λg3 w2 h6 I q2 z2=>?_))));refine z0i U I x4y (λw3 I q3 z3=>?_) (hl:=rfl);refine nn (sq (sr ?_));replace hG:=(hG.ext (q1.n1 q2)).fr q3 (by first|exact y0m hG (by omega)|simp[z0x]<;>omega);refine z1j U hG.wd j8p (mv U (nn (bl ?_)));refine lpK (ι:=Nat) [(0,_),(2,_),(3,_),(7,_)] (λi=>[(8,.int .i64 (i:Int))]) (λi w'=>Fr [g3] w3 w'/\i<=9/\Blk w' g3 28 [.int .u8 (y5x (ws.getD 0 []) i),.int .u8 0,.int .u8 0,.int .i64 0,.int .u8 0,.int .i64 0]) (λi=>9-i) 0 (.c5 U U U U U) ⟨Fr.refl _ _,⟨by omega,I⟩⟩ ?_;rintro i w4 ⟨q4,⟨hi,I⟩⟩;have b6:=I.lt;refine kpC [(0,_),(2,_),(3,_),(7,_),(8,_)] (.c5 U U U U U) (sr (lt' U (nn (sq (cd U (λc0=>?_) (λc0=>?_))))));refine sk (tn (sq (bl (sr (mv U (u6a U U underlying309 sz9 na9 (u2w (by omega)) U (asg U (asg U (nn (sr (mv U (mv U ?_))))))))))));replace Z:=((Z.ext (q1.n1 q2)).fr q3 (by intro k O hb;simp at O;subst O;have:=a0 _ hb;omega)).fr q4 (by intro k O hb;simp at O;subst O;have:=a0 _ hb;omega);refine z1a (p:=0) ([]) U Z U z4c U (λg6 c9=>(z1g U (c9 _ Z) na9 (u4o U U U (nn (cd U (λc1=>?_) (λc1=>?_))))));refine rg (mv U (z5a U (us underlying3) underlying25 (wi8 (by omega)) (fad U z9i (z3b U I U sz25 (λw5 I q5 z5=>?_)))));replace I:Blk w5 g3 _ [_,_,_,_,_,_]:=I;refine nl (bn' (tn (rg (z0v U (wi6 (by omega)) (mv U (nl ?_))))));exact lpE (i+1) (.c5 U U U U U) ⟨((Fr.refl [g3] _).z2 q4 q5),⟨by omega,by first|(rw[y5x,if_pos c1];exact I)|(rw[y5x,if_neg c1];exact I)⟩⟩ (by omega);refine sk (bn' (tn (rg (z0v U (wi6 (by omega)) (mv U (nl ?_))))));exact lpE (i+1) (.c5 U U U U U) ⟨((Fr.refl [g3] _).z1 q4),⟨by omega,by first|(rw[y5x,if_pos c1];exact I)|(rw[y5x,if_neg c1];exact I)⟩⟩ (by omega);obtain rfl:i=9:=by omega
 have h7:=x4p (ws.getD 0 []) 9;replace I:Blk w4 g3 28 [.int .u8 (y9c (ws.getD 0 [])),.int .u8 0,.int .u8 0,.int .i64 0,.int .u8 0,.int .i64 0]:=I;refine ex (te (te (xh (tn ?_))));refine jn (ι:=Unit) [(2,_),(3,_)] (λ_j=>[]) (λ_j w'=>Fr [g3] w4 w'/\Blk w' g3 28 [.int .u8 (z4i ws).k,.int .u8 (z4i ws).d,.int .u8 (z4i ws).b,.int .i64 (z4i ws).p,.int .u8 (z4i ws).y,.int .i64 (z4i ws).r]) (.c2 U U) ?_ ?_;refine bl (sq ?_);refine rbo (r:=21) (L':=[(0,_),(2,_),(3,_)]) ((((y9c (ws.getD 0 []))=1)/\((ws.length:Int)=3))) (.c3 U U U) ?_ ?_;refine fad U z9i (z0g U I U v9e (eq' U (mv U (gs 25 U (λg0=>?_) (λg0=>?_)))));exact gY U (mv U (gY U (lnS U underlying153 (gY U (eq' U (pkt U (asg U (rbe U (.c3 U U U)))))))));exact gN U (gN U (gN U (pkf U (asg U (rbe U (.c3 U U U))))));refine tn (cd U (λc2=>?_) (λc2=>?_));replace hG:=hG.fr q4 (by first|exact y0m hG (by omega)|simp[z0x]<;>omega);replace Z:=((Z.ext (q1.n1 q2)).fr q3 (by intro k O hb;simp at O;subst O;have:=a0 _ hb;omega)).fr q4 (by intro k O hb;simp at O;subst O;have:=a0 _ hb;omega);replace M:=((M.ext q2).fr q3).fr q4;intro a h;have a8:=Fr.refl [g3] w4;refine z2w (λwb w'=>Fr [g3] wb w') z2s ?_;intro w6 J;replace hG:=hG.ext J;replace Z:=Z.ext J;replace M:=M.ext J;replace I:=I.ext J;replace a8:=a8.next J;have b9:=J.size;clear J;have hC:Fr [g3] w6 w6:=Fr.refl _ _;have a6:=hG;have a2:=Z;have a3:=M;have a1:=I;refine z0e 0 h U λa h=>z1h (p:=1) ([]) 1 h U Z U z4c U ?_ (hp:=rfl);clear h a;intro g7 d0 a h;refine z3p 2 h U (λ_ hw=>d0 _ (a2.fr hw (by intro k O hb;simp at O;subst O;have:=a0 _ hb;omega))) na9 U λa h=>z0e 5 h U λa h=>z1h (p:=2) ([]) 6 h U Z U z4c U ?_ (hp:=rfl);clear h a;intro g8 d1 a h;refine z3p 7 h U (λ_ hw=>d1 _ (a2.fr hw (by intro k O hb;simp at O;subst O;have:=a0 _ hb;omega))) na9 U λa h=>z0d 3 U ?_;refine z0m h (z0a U z0f) (mkC func220) (y1r _ _ hG (b1 _)) ?_;rintro _ w7 ⟨rfl,J⟩ a h;replace hG:=hG.ext J;replace Z:=Z.ext J;replace M:=M.ext J;replace I:=I.ext J;replace a8:=a8.next J;replace hC:=hC.next J;clear J;refine z0b ?_;refine x5s 4 hC h wn U (by rw[underlying3];rfl) underlying5 (by first|exact IntWalk.u8_in _ (by omega)|rfl) U U λa h=>z0c 9 h U z2z U λa h=>z0d 8 U ?_;refine z0m h (z0a U z0f) (mkC func221) (u5a _ _ hG) ?_;rintro _ w8 ⟨rfl,J⟩ a h;replace hG:=hG.ext J;replace Z:=Z.ext J;replace M:=M.ext J;replace I:=I.ext J;replace a8:=a8.next J;replace hC:=hC.next J;clear J;refine z0b ?_;refine z0d 10 U ?_;refine z3h h U U I U U U sz5 λw9 a7 J hz a h=>?_;replace hG:=hG.fr J (by simp[z0x]<;>omega);replace Z:=Z.fr J (by intro k O hb;simp at O;subst O;have:=a0 _ hb;omega);replace M:=M.fr J;replace a8:=a8.sp J;replace hC:=hC.sp J;clear I J hz;have I:Blk w9 g3 _ [_,_,_,_,_,_]:=a7;clear a7;refine z0b ?_;refine z0c 11 h U z6e U λa h=>z0d 12 U ?_;refine z3h h U U I U U U j2z λf5 a7 J hz a h=>?_;replace hG:=hG.fr J (by simp[z0x]<;>omega);replace Z:=Z.fr J (by intro k O hb;simp at O;subst O;have:=a0 _ hb;omega);replace M:=M.fr J;replace a8:=a8.sp J;replace hC:=hC.sp J;clear I J hz;have I:Blk f5 g3 _ [_,_,_,_,_,_]:=a7;clear a7;refine z0b ?_;refine z0r ?_;clear hC a6 a2 a3 a1;refine bk (h.sub (L':=[(2,_),(3,_)]) (.c2 U U)) (bn' ?_);exact jE (()) (.c2 U U) ⟨((Fr.refl [g3] _).z1 a8),by rw[z4i,y5q,if_pos c2];exact I⟩;refine sq ?_;refine rbo (r:=41) (L':=[(0,_),(2,_),(3,_)]) ((((y9c (ws.getD 0 []))=2)/\((ws.length:Int)=2))) (.c3 U U U) ?_ ?_;refine fad U z9i (z0g U I U v9e (eq' U (mv U (gs 45 U (λg1=>?_) (λg1=>?_)))));exact gY U (mv U (gY U (lnS U underlying153 (gY U (eq' U (pkt U (asg U (rbe U (.c3 U U U)))))))));exact gN U (gN U (gN U (pkf U (asg U (rbe U (.c3 U U U))))));refine tn (cd U (λc3=>?_) (λc3=>?_));refine rg (mv U ?_);replace Z:=((Z.ext (q1.n1 q2)).fr q3 (by intro k O hb;simp at O;subst O;have:=a0 _ hb;omega)).fr q4 (by intro k O hb;simp at O;subst O;have:=a0 _ hb;omega);refine z1a (p:=1) ([]) U Z U z4c U (λg9 d3=>(z1g U (d3 _ Z) na9 ?_));replace hG:=hG.fr q4 (by first|exact y0m hG (by omega)|simp[z0x]<;>omega);refine cl (ev1 U) (mkC func220) (y1r _ _ hG (b1 _)) U ?_;rintro _ h8 ⟨rfl,e1⟩;refine z5a U (us underlying3) underlying5 (IntKind.wrap_u8 _) (fad U z2z ?_);replace I:=I.ext e1;refine z3b U I U sz5 (λf6 I f1 j1=>?_);replace I:Blk f6 g3 _ [_,_,_,_,_,_]:=I;refine kpL [(2,_),(3,_)] (.c2 U U) (nl (bn' ?_));exact jE (()) (.c2 U U) ⟨((Fr.refl [g3] _).z2 e1 f1),by rw[z4i,y5q,if_neg c2,if_pos c3];exact I⟩;refine sq ?_;refine rbo (r:=56) (L':=[(0,_),(2,_),(3,_)]) ((((y9c (ws.getD 0 []))=3)/\((ws.length:Int)=2))) (.c3 U U U) ?_ ?_;refine fad U z9i (z0g U I U v9e (eq' U (mv U (gs 60 U (λg2=>?_) (λg2=>?_)))));exact gY U (mv U (gY U (lnS U underlying153 (gY U (eq' U (pkt U (asg U (rbe U (.c3 U U U)))))))));exact gN U (gN U (gN U (pkf U (asg U (rbe U (.c3 U U U))))));refine tn (cd U (λc4=>?_) (λc4=>?_));refine rg (mv U ?_);replace Z:=((Z.ext (q1.n1 q2)).fr q3 (by intro k O hb;simp at O;subst O;have:=a0 _ hb;omega)).fr q4 (by intro k O hb;simp at O;subst O;have:=a0 _ hb;omega);refine z1a (p:=1) ([]) U Z U z4c U (λh0 d4=>(z1g U (d4 _ Z) na9 ?_));replace hG:=hG.fr q4 (by first|exact y0m hG (by omega)|simp[z0x]<;>omega);refine cl (ev1 U) (mkC func220) (y1r _ _ hG (b1 _)) U ?_;rintro _ h9 ⟨rfl,e2⟩;refine fad U y3z ?_;replace I:=I.ext e2;refine z3b U I U sz3 (λf7 I f2 j2=>?_);replace I:Blk f7 g3 _ [_,_,_,_,_,_]:=I;refine kpL [(2,_),(3,_)] (.c2 U U) (nl (bn' ?_));exact jE (()) (.c2 U U) ⟨((Fr.refl [g3] _).z2 e2 f2),by rw[z4i,y5q,if_neg c2,if_neg c3,if_pos c4];exact I⟩;refine jn (ι:=Bool) [(0,_),(2,_),(3,_)] (λb5=>[(70,.bool b5)]) (λb5 w'=>Fr [] w4 w'/\b5=decide (fD (y9c (ws.getD 0 []))=true/\(ws.length:Int)=4)) (.c3 U U U) ?_ ?_;replace hG:=hG.fr q4 (by first|exact y0m hG (by omega)|simp[z0x]<;>omega);replace Z:=((Z.ext (q1.n1 q2)).fr q3 (by intro k O hb;simp at O;subst O;have:=a0 _ hb;omega)).fr q4 (by intro k O hb;simp at O;subst O;have:=a0 _ hb;omega);replace M:=((M.ext q2).fr q3).fr q4;intro a h;have a9:=Fr.refl [] w4;refine z2w (λwb w'=>Fr [] wb w') z2s ?_;intro e5 J;replace hG:=hG.ext J;replace Z:=Z.ext J;replace M:=M.ext J;replace I:=I.ext J;replace a9:=a9.next J;have b9:=J.size;clear J;have hC:Fr [] e5 e5:=Fr.refl _ _;have a6:=hG;have a2:=Z;have a3:=M;have a1:=I;refine z0c 1 h U z9i U λa h=>z0l 2 h U (λ_ hw=>a1.ext hw) U v9e U λa h=>z0d 0 U ?_;refine z0m h z0f (mkC func106) (x1a _) ?_;rintro _ i0 ⟨gm,rfl,d9,e0,hm,J⟩ a h;replace hG:=hG.ext J;replace Z:=Z.ext J;replace M:=M.ext J;replace I:=I.ext J;replace a9:=a9.next J;replace hC:=hC.next J;clear J;refine z0b ?_;refine z0d 3 U ?_;refine y1d (V:=kV) (k:=(y9c (ws.getD 0 []))) h U U hm y7e underlying190 x2u (z8i _) U λa h=>?_;refine z0b ?_;refine z0d 4 U ?_;refine x9y h U (λw=>fld0 _ w) U λa h=>?_;refine z0b ?_;refine z0e 5 h U λa h=>?_;refine gSp (D:=76) h U ?_ ?_;clear h;intro g3 h;refine z0e 6 h U ?_ (hG:=(wy U));clear h a;intro a h;refine z8r 7 hC h (wy U) U underlying153 U λa h=>v9n 8 hC h (wy U) U U U U λa h=>z0d 9 U ?_;refine z5t h U λa h=>?_;refine z0b ?_;refine z0d 10 U ?_;refine z0s h U λa h=>?_;refine z0b ?_;refine z0r ?_;clear hC a6 a2 a3 a1;refine bk (h.sub (L':=[(0,_),(2,_),(3,_),(70,_)]) (.c4 U U U U)) ?_;exact jE (_) (.c4 U U U U) ⟨a9,by simp_all [fD]⟩;clear h;intro g3 h;refine z2i 6 h U U λa h=>z2i 7 h U U λa h=>z2i 8 h U U λa h=>z0d 9 U ?_;refine z4t h U λa h=>?_;refine z0b ?_;refine z0d 10 U ?_;refine z0s h U λa h=>?_;refine z0b ?_;refine z0r ?_;clear hC a6 a2 a3 a1;refine bk (h.sub (L':=[(0,_),(2,_),(3,_),(70,_)]) (.c4 U U U U)) ?_;exact jE (_) (.c4 U U U U) ⟨a9,by simp_all [fD]⟩;rintro b5 e6 ⟨a5,rfl⟩;refine kpC [(0,_),(2,_),(3,_),(70,_)] (.c4 U U U U) (cd U (λc5=>?_) (λc5=>?_));refine sr (mv U ?_);replace Z:=(((Z.ext (q1.n1 q2)).fr q3 (by intro k O hb;simp at O;subst O;have:=a0 _ hb;omega)).fr q4 (by intro k O hb;simp at O;subst O;have:=a0 _ hb;omega)).ext a5;refine z1a (p:=2) ([]) U Z U z4c U (λh1 d5=>(z1g U (d5 _ Z) na9 ?_));replace hG:=(hG.fr q4 (by first|exact y0m hG (by omega)|simp[z0x]<;>omega)).ext a5;refine cl (ev1 U) (mkC func222) (x3e _ _ hG (b1 _)) U ?_;rintro _ i1 ⟨e,rfl,b3⟩;refine mv U (xt U (xt U (fad U z4q ?_)));replace I:=I.ext (a5.n1 b3);refine z5r (cs':=[_,_,_,_,_,_]) U U I (by first|(simp[Value.oneCell',S];done)|exact Enc.one _ _) y3v U (λf8 I b7 j3=>?_);refine kpL [(0,_),(2,_),(3,_)] (.c3 U U U) (nn ?_);replace hG:=(hG.ext b3).fr b7 (by first|exact y0m hG (by omega)|simp[z0x]<;>omega);replace Z:=(Z.ext b3).fr b7 (by intro k O hb;simp at O;subst O;have:=a0 _ hb;omega);replace M:=((((M.ext q2).fr q3).fr q4).ext (a5.n1 b3)).fr b7;intro a h;have a4:=Fr.refl [g3] f8;refine z2w (λwb w'=>Fr [g3] wb w') z2s ?_;intro e7 J;replace hG:=hG.ext J;replace Z:=Z.ext J;replace M:=M.ext J;replace I:=I.ext J;replace a4:=a4.next J;have b9:=J.size;clear J;have hC:Fr [g3] e7 e7:=Fr.refl _ _;have a6:=hG;have a2:=Z;have a3:=M;have a1:=I;refine z0e 0 h U λa h=>z1h (p:=1) ([]) 1 h U Z U z4c U ?_ (hp:=rfl);clear h a;intro h2 d6 a h;refine z3p 2 h U (λ_ hw=>d6 _ (a2.fr hw (by intro k O hb;simp at O;subst O;have:=a0 _ hb;omega))) na9 U λa h=>z0e 4 h U λa h=>z1h (p:=3) ([]) 5 h U Z U z4c U ?_ (hp:=rfl);clear h a;intro h3 d7 a h;refine z3p 6 h U (λ_ hw=>d7 _ (a2.fr hw (by intro k O hb;simp at O;subst O;have:=a0 _ hb;omega))) na9 U λa h=>z0d 3 U ?_;refine z0m h (z0a U z0f) (mkC func221) (u5a _ _ hG) ?_;rintro _ i2 ⟨rfl,J⟩ a h;replace hG:=hG.ext J;replace Z:=Z.ext J;replace M:=M.ext J;replace I:=I.ext J;replace a4:=a4.next J;replace hC:=hC.next J;clear J;refine z0b ?_;refine z0c 9 h U z6e U λa h=>z0d 7 U ?_;refine z0m h (z0a U z0f) (mkC func220) (y1r _ _ hG (b1 _)) ?_;rintro _ i3 ⟨rfl,J⟩ a h;replace hG:=hG.ext J;replace Z:=Z.ext J;replace M:=M.ext J;replace I:=I.ext J;replace a4:=a4.next J;replace hC:=hC.next J;clear J;refine z0b ?_;refine x5s 8 hC h wn U (by rw[underlying3];rfl) underlying5 (by first|exact IntWalk.u8_in _ (by omega)|rfl) U U λa h=>z0d 10 U ?_;refine z3h h U U I U U U j2z λf9 a7 J hz a h=>?_;replace hG:=hG.fr J (by simp[z0x]<;>omega);replace Z:=Z.fr J (by intro k O hb;simp at O;subst O;have:=a0 _ hb;omega);replace M:=M.fr J;replace a4:=a4.sp J;replace hC:=hC.sp J;clear I J hz;have I:Blk f9 g3 _ [_,_,_,_,_,_]:=a7;clear a7;refine z0b ?_;refine z0c 11 h U z2z U λa h=>z0d 12 U ?_;refine z3h h U U I U U U sz5 λg5 a7 J hz a h=>?_;replace hG:=hG.fr J (by simp[z0x]<;>omega);replace Z:=Z.fr J (by intro k O hb;simp at O;subst O;have:=a0 _ hb;omega);replace M:=M.fr J;replace a4:=a4.sp J;replace hC:=hC.sp J;clear I J hz;have I:Blk g5 g3 _ [_,_,_,_,_,_]:=a7;clear a7;refine z0b ?_;refine z0r ?_;clear hC a6 a2 a3 a1;refine bk (h.sub (L':=[(2,_),(3,_)]) (.c2 U U)) (bn' ?_);exact jE (()) (.c2 U U) ⟨((Fr.refl [g3] _).z4 a5 b3 b7 a4),by rw[z4i,y5q,if_neg c2,if_neg c3,if_neg c4,if_pos c5];exact I⟩;refine jn (ι:=Bool) [(0,_),(2,_),(3,_)] (λb4=>[(100,.bool b4)]) (λb4 w'=>Fr [] e6 w'/\b4=decide (fN (y9c (ws.getD 0 []))=true/\(ws.length:Int)=2)) (.c3 U U U) ?_ ?_;replace hG:=(hG.fr q4 (by first|exact y0m hG (by omega)|simp[z0x]<;>omega)).ext a5;replace Z:=(((Z.ext (q1.n1 q2)).fr q3 (by intro k O hb;simp at O;subst O;have:=a0 _ hb;omega)).fr q4 (by intro k O hb;simp at O;subst O;have:=a0 _ hb;omega)).ext a5;replace M:=(((M.ext q2).fr q3).fr q4).ext a5;replace I:=I.ext a5;intro a h;have b0:=Fr.refl [] e6;refine z2w (λwb w'=>Fr [] wb w') z2s ?_;intro e8 J;replace hG:=hG.ext J;replace Z:=Z.ext J;replace M:=M.ext J;replace I:=I.ext J;replace b0:=b0.next J;have b9:=J.size;clear J;have hC:Fr [] e8 e8:=Fr.refl _ _;have a6:=hG;have a2:=Z;have a3:=M;have a1:=I;refine z0c 1 h U z9i U λa h=>z0l 2 h U (λ_ hw=>a1.ext hw) U v9e U λa h=>z0d 0 U ?_;refine z0m h z0f (mkC func106) (x1a _) ?_;rintro _ i4 ⟨gm,rfl,d9,e0,hm,J⟩ a h;replace hG:=hG.ext J;replace Z:=Z.ext J;replace M:=M.ext J;replace I:=I.ext J;replace b0:=b0.next J;replace hC:=hC.next J;clear J;refine z0b ?_;refine z0d 3 U ?_;refine y1d (V:=kV) (k:=(y9c (ws.getD 0 []))) h U U hm y7e underlying190 x2u (z8i _) U λa h=>?_;refine z0b ?_;refine z0d 4 U ?_;refine x9y h U (λw=>fld1 _ w) U λa h=>?_;refine z0b ?_;refine z0e 5 h U λa h=>?_;refine gSp (D:=106) h U ?_ ?_;clear h;intro g4 h;refine z0e 6 h U ?_ (hG:=(wy U));clear h a;intro a h;refine z8r 7 hC h (wy U) U underlying153 U λa h=>v9n 8 hC h (wy U) U U U U λa h=>z0d 9 U ?_;refine z5t h U λa h=>?_;refine z0b ?_;refine z0d 10 U ?_;refine z0s h U λa h=>?_;refine z0b ?_;refine z0r ?_;clear hC a6 a2 a3 a1;refine bk (h.sub (L':=[(0,_),(2,_),(3,_),(100,_)]) (.c4 U U U U)) ?_;exact jE (_) (.c4 U U U U) ⟨b0,by simp_all [fN]⟩;clear h;intro g4 h;refine z2i 6 h U U λa h=>z2i 7 h U U λa h=>z2i 8 h U U λa h=>z0d 9 U ?_;refine z4t h U λa h=>?_;refine z0b ?_;refine z0d 10 U ?_;refine z0s h U λa h=>?_;refine z0b ?_;refine z0r ?_;clear hC a6 a2 a3 a1;refine bk (h.sub (L':=[(0,_),(2,_),(3,_),(100,_)]) (.c4 U U U U)) ?_;exact jE (_) (.c4 U U U U) ⟨b0,by simp_all [fN]⟩;rintro b4 i5 ⟨b2,rfl⟩;refine kpC [(0,_),(2,_),(3,_),(100,_)] (.c4 U U U U) (cd U (λc6=>?_) (λc6=>?_));refine rg (mv U ?_);replace Z:=(((Z.ext (q1.n1 q2)).fr q3 (by intro k O hb;simp at O;subst O;have:=a0 _ hb;omega)).fr q4 (by intro k O hb;simp at O;subst O;have:=a0 _ hb;omega)).ext (a5.n1 b2);refine z1a (p:=1) ([]) U Z U z4c U (λe9 b8=>(z1g U (b8 _ Z) na9 ?_));replace hG:=(hG.fr q4 (by first|exact y0m hG (by omega)|simp[z0x]<;>omega)).ext (a5.n1 b2);refine cl (ev1 U) (mkC func222) (x3e _ _ hG (b1 _)) U ?_;rintro _ i7 ⟨e,rfl,e3⟩;refine mv U (xt U (xt U (fad U z4q ?_)));replace I:=I.ext (a5.n2 b2 e3);refine z5r (cs':=[_,_,_,_,_,_]) U U I (by first|(simp[Value.oneCell',S];done)|exact Enc.one _ _) y3v U (λi8 I f3 j4=>?_);refine kpL [(2,_),(3,_)] (.c2 U U) (nl (bn' ?_));exact jE (()) (.c2 U U) ⟨((Fr.refl [g3] _).z4 a5 b2 e3 f3),by rw[z4i,y5q,if_neg c2,if_neg c3,if_neg c4,if_neg c5,if_pos c6];exact I⟩;refine sk (bn' ?_);replace I:=I.ext (a5.n1 b2);exact jE (()) (.c2 U U) ⟨((Fr.refl [g3] _).n2 a5 b2),by rw[z4i,y5q,if_neg c2,if_neg c3,if_neg c4,if_neg c5,if_neg c6];exact I⟩;rintro _j i9 ⟨e4,I⟩;have b6:=I.lt;refine kpC [(2,_),(3,_)] (.c2 U U) (sr (z0k U I y2a ?_));replace M:=(((M.ext q2).fr q3).fr q4).fr e4;refine z0i U M x4y (λj0 M f4 j5=>?_) (hl:=rfl);refine nn (rt (rC results183 U M y2a  ?_));exact⟨_,rfl,rfl,(q1.z5 q2 q3 q4 e4 f4)⟩
theorem v9m (l:List UInt8)(w0:World)(hG:Glob w0)(hl:l.length<=1000000):Rets prog 128 #[S l] w0 λr w'=>∃o e,y5n l=(o,e)/\r=.tuple #[opV o,.int .i64 e]/\Fr [] w0 w':=by
 have a2:=hG.sz;refine we [(0,S l)] func128 U ntmps128 U (.cons U .nil) (sr (al v1y U (λg2 w1 a3 D q1 z1=>(asg U (nn (sr (mv U ?_)))))));replace hG:=hG.ext q1;refine cl (ev2 U) (mkC func125) (x8g _ _ _ hG (by omega) (by decide)) U ?_;rintro v6 w2 ⟨a0,J⟩;have z2:=J.size;replace hG:=hG.ext J;refine cl (ev1 U) (mkC func183) (u1s _ _ _ hG a0.sl (v7d _ _) (λi=>Nat.le_trans (x2k _ _ i) hl)) U ?_;rintro _ w3 ⟨rfl,M⟩;have z3:=M.size;refine al v1y U (λg4 w4 a4 I Z z4=>(z0i U I x4y (λw5 I q5 z5=>?_) (hl:=rfl)));refine nn (sq (sq ?_));refine y7c (r:=16) (L':=[(2,_),(4,_)]) ((((y3r (z4i (Lib.split l [32])))≠0)\/((j4e (z4i (Lib.split l [32])))≠l))) (.c2 U U) ?_ ?_;refine z0k U I y2a (cl (ev1 U) (mkC func21) (y4m (z4i (Lib.split l [32])) _) U ?_);rintro _ w6 ⟨rfl,q6⟩;have z6:=q6.size;refine ne' U (mv U (gs 11 U (λg0=>?_) (λg0=>?_)));exact gN U (gN U (gN U (gN U (pkt U (z7q U (.c2 U U) q6)))));refine gY U ?_;replace I:=I.ext q6;refine z0k U I y2a (gY U ?_);replace hG:=((hG.ext (M.n1 Z)).fr q5 (by first|exact y0m hG (by omega)|simp[z0x]<;>omega)).ext q6;refine cl (ev1 U) (mkC func184) (u9z (z4i (Lib.split l [32])) _ hG) U ?_;rintro _ w7 ⟨rfl,q7⟩;have z7:=q7.size;exact gY U (mv U (gY U (j2c U U U (pkf U (z7q U (.c2 U U) (q6.n1 q7))))));intro w8 O;have z8:=O.size;refine tn (cd U (λc0=>?_) (λc0=>?_));refine sr (z1s (cs:=[_,_,_,_,_,_]) z0f u5y z0q U ?_);replace D:=((D.ext (J.n2 M Z)).fr q5).ext O;refine z0i U D x4y (λw9 D q9 z9=>?_) (hl:=rfl);refine asg U (nn (rt (tr (rCT results128 U D y2a U ?_))));exact⟨_,rfl,op0,4,by rw[y5n,if_pos c0],rfl,(q1.z6 J M Z q5 O q9)⟩;refine sk (tn (sr ?_));replace I:=I.ext O;refine z0k U I y2a ?_;replace D:=((D.ext (J.n2 M Z)).fr q5).ext O;refine z0i U D x4y (λa5 D a1 a6=>?_) (hl:=rfl);refine asg U (nn (rt (rCT results128 U D y2a U ?_)));exact⟨_,rfl,(z4i (Lib.split l [32])),0,by rw[y5n,if_neg c0],rfl,(q1.z6 J M Z q5 O a1)⟩
theorem v1m (l:List UInt8)(w0:World)(hG:Glob w0)(hl:l.length<=1000000):Rets prog 79 #[S l] w0 λr w'=>∃A os n e,x0y l=(os,n,e)/\r=.tuple #[.slice A os.length os.length,.int .i64 n,.int .i64 e]/\Lw.Own z4n 28 w0.heap.size w' (.slice A os.length os.length) os/\Fr [] w0 w':=by
 have a0:=λi=>x2k l [10] i;have b9:=hG.sz;refine we [(0,S l)] func79 U ntmps79 U (.cons U .nil) (sr (asg U (asg U (asg U (nn (sr (asg U (nn (sq (sr (mv U (cl (ev2 U) (mkC func125) (x8g _ _ _ hG (by omega) (by decide)) U ?_))))))))))));rintro d4 w1 ⟨D,q1⟩;have z1:=q1.size;obtain⟨b6,b7,rfl,b3⟩:=D.sl.form;have a7:=λk hk=>(D.blk k hk).2;have a8:=D.sl.len_le;unfold maxLen at a8;refine lnS U underlying153 (mv U (nn (bl ?_)));refine lpK (ι:=Nat×List MOp×Option Addr×Nat) [(12,_),(13,_)] (λp=>[(5,.slice p.2.2.1 p.2.1.length p.2.2.2),(14,.int .i64 (p.1:Int))]) (λp w'=>Fr [] w1 w'/\p.1<=(Lib.split l [10]).length/\Lw.Own z4n 28 w1.heap.size w' (.slice p.2.2.1 p.2.1.length p.2.2.2) p.2.1/\v1d ((Lib.split l [10]).drop p.1) p.1 p.2.1=x0y l/\p.2.1.length<=4096) (λp=>(Lib.split l [10]).length-p.1) (0,[],none,0) (.c4 U U U U) ⟨Fr.refl _ _,⟨Nat.zero_le _,Own.nil _,rfl,by decide⟩⟩ ?_;rintro⟨i,M,A5,c5⟩ w2 ⟨q2,⟨hi,J,I,a2⟩⟩;simp only at hi J I a2;have z2:=q2.size;refine kpC [(12,_),(13,_),(5,.slice A5 M.length c5),(14,.int .i64 (i:Int))] (.c4 U U U U) (sr (lt' U (nn (sq (cd U (λc0=>?_) (λc0=>?_))))));rw[v3p (Lib.split l [10]) i [] (by omega),v1d]at I;have d0:=a0 i;refine sk (tn (sq (bl (sr (mv U ?_)))));replace D:=D.ext q2;refine z1a (p:=i) ([]) U D.sl U z4c (by omega) (λb2 a3=>(z1g U (a3 _ D.sl) na9 (asg U (asg U (nn (sr (mv U ?_)))))));replace hG:=hG.ext (q1.n1 q2);refine cl (ev2 U) (mkC func126) (u7a _ _ _ hG (by have:=a0 i;omega)) U ?_;rintro _ w3 ⟨rfl,q3⟩;have z3:=q3.size;refine mv U (xt U (xt U (xt U (asg U (kpL [(5,_),(6,_),(7,_),(12,_),(13,_),(14,_)] (.c6 U U U U U U) (nn (sr (mv U ?_))))))));refine cl (ev2 U) (mkC func127) (u9y _ _ (by have:=a0 i;have:=v5x ((Lib.split l [10]).getD i []) [35];omega)) U ?_;rintro _ w4 ⟨rfl,q4⟩;have z4:=q4.size;refine asg U (nn (sq (sr (mv U (u4o U U U (nn (cd U (λc1=>?_) (λc1=>?_))))))));rw[if_pos (show x1u ((Lib.split l [10]).getD i [])=[] from c1)]at I;refine ex (te (xh (tn (rg (z0v U (wi6 (by omega)) (mv U (nl ?_)))))));replace J:=J.ext (q3.n1 q4);exact lpE ((i+1,M,A5,c5)) (.c4 U U U U) ⟨(q2.n2 q3 q4),⟨by omega,J,by simpa using I,a2⟩⟩ (by omega);rw[if_neg (show ¬x1u ((Lib.split l [10]).getD i [])=[] from c1)]at I;refine sk (tn (sr (mv U ?_)));replace hG:=hG.ext (q3.n1 q4);refine cl (ev1 U) (mkC func128) (v9m _ _ hG (by have:=a0 i;have:=u2c ((Lib.split l [10]).getD i []);unfold x1u at this;omega)) U ?_;rintro _ w5 ⟨o,e,b0,rfl,q5⟩;have z5:=q5.size;rw[show y5n (x1u ((Lib.split l [10]).getD i []))=(o,e) from b0]at I;simp only at I;refine mv U (xt U (xt U (al v1y U (λg8 w6 d1 a1 q6 z6=>(z0i U a1 x4y (λw7 a1 q7 z7=>?_) (hl:=rfl))))));refine asg U (kpL [(5,_),(6,_),(8,_),(9,_),(12,_),(13,_),(14,_)] (.c7 U U U U U U U) (nn (sq (sr (mv U (ne' U (nn (cd U (λc2=>?_) (λc2=>?_)))))))));rw[if_pos c2]at I;refine sr (mv U (z0v U (wi6 (by omega)) (mv U (asg U (asg U (asg U (kpL [(2,_),(3,_),(4,_)] (.c3 U U U) (nn (rt (tr (rb (tr (tr (rb (tr (r3 results79 U U U ?_))))))))))))))));exact⟨_,rfl,none,[],_,_,I.symm,rfl,Own.nil _,(q1.z6 q2 q3 q4 q5 q6 q7)⟩;rw[if_neg c2]at I;refine sk (tn (sq (sr (mv U (lnS U underlying29 (eq' U (nn (cd U (λc3=>?_) (λc3=>?_)))))))));rw[if_pos c3]at I;refine sr (mv U (z0v U (wi6 (by omega)) (asg U (asg U (asg U (kpL [(2,_),(3,_),(4,_)] (.c3 U U U) (nn (rt (tr (rb (tr (tr (rb (tr (r3 results79 U U U ?_)))))))))))))));exact⟨_,rfl,none,[],_,_,I.symm,rfl,Own.nil _,(q1.z6 q2 q3 q4 q5 q6 q7)⟩;rw[if_neg c3]at I;refine sk (tn (rg (mv U (z0k U a1 y2a (z2l ([o]) (ev1 U) U j7j (λb8 w8 b4 a4 q8 z8=>?_))))));replace hG:=((hG.ext (q5.n1 q6)).fr q7 (by first|exact y0m hG (by omega)|simp[z0x]<;>omega)).ext q8;replace D:=((D.ext (q3.n3 q4 q5 q6)).fr q7 (by first|exact y0m D (by omega)|simp[z0x]<;>omega)).ext q8;replace J:=((J.ext (q3.n3 q4 q5 q6)).fr q7 (by first|exact y0m J (by omega)|simp[z0x]<;>omega)).ext q8;have O:=J;refine z2g U J a4.sl j7j (by unfold maxLen;simp;omega) (by simp;omega) (λd5 w9 J q9 a9=>?_);have z9:=q9.size;replace hG:=hG.fr q9 (λk hk=>by have:=(O.blk k hk).1;omega);replace D:=D.fr q9 (λk hk hb=>by have:=(O.blk k hk).1;have:=a7 k hb;omega);obtain⟨A7,c7,rfl,c9⟩:=J.sl.form;refine asg U (kpL [(5,_),(12,_),(13,_),(14,_)] (.c4 U U U U) (nl (bn' (tn (rg (z0v U (wi6 (by omega)) (mv U (nl ?_))))))));exact lpE ((i+1,M++[o],A7,c7)) (.c4 U U U U) ⟨((q2.z6 q3 q4 q5 q6 q7 q8).step q9 (λk hk d3=>absurd (O.blk k hk).1 (by omega))),⟨by omega,J,by simpa using I,by simp;omega⟩⟩ (by omega);obtain rfl:i=(Lib.split l [10]).length:=by omega
 rw[List.drop_length,v1d]at I;refine ex (te (te (xh (tn (sr (mv U (lnS U underlying29 (z1f (m:=M.length) (c:=M.length) op0 U j7j v1y U (λa6 d6 b5 Z a5 d9=>?_) (hmc:=(Nat.le_refl _))))))))));refine asg U (kpL [(5,_),(10,_)] (.c2 U U) (nn (sr (mv U (mv U ?_)))));replace J:=J.ext a5;refine z8b (zs:=List.replicate M.length op0) (by rw[List.length_replicate];rfl) U (by rw[List.length_replicate];exact Z) J.sl (by rw[List.length_replicate]) j7j (λd7 Z b1 e0=>?_);rw[List.length_replicate]at Z;refine nn (sr (mv U (asg U (asg U (asg U (nn (rt (r3 results79 U U U ?_))))))));exact⟨_,rfl,some ⟨a6,0,none⟩,M,0,0,I.symm,rfl,Z.low (by omega),(q1.z3 q2 a5 b1)⟩
end Go.Proofs.YtpgdchkdlgkmgaaGreatDoor
namespace Go.G08
open Go.Lw Go.G21
def u4x:Nat->Nat->List UInt8
  | 0,_=>[]
  | f+1,u=>if u<10 then [UInt8.ofNat (48+u)] else u4x f (u / 10)++[UInt8.ofNat (48+u % 10)]
theorem v8l:∀f u,u<10 ^ (f+1)->Lib.decDigits u=u4x (f+1) u
 | f,u,h=>by
  rw[Lib.decDigits,u4x]
  by_cases k:u<10
  ·rw[dif_pos k,if_pos k]
  rw[dif_neg k,if_neg k]
  cases f with
  | zero=>omega
  | succ f=>rw[v8l f (u / 10) (by rw[Nat.pow_succ]at h;omega)]
theorem x0n:∀f u,(u4x f u).length<=f
 | 0,_=>by simp[u4x]
 | f+1,u=>by
  rw[u4x];split
  ·simp
  have:=x0n f (u / 10);simp;omega
def v3g (n:Int):List UInt8:=if n<0 then 45::u4x 8 n.natAbs else u4x 8 n.toNat
theorem u9o {n:Int}(h:-99999999<=n/\n<=99999999):Lib.itoa n=v3g n:=by
 unfold Lib.itoa v3g;split<;>rw[v8l 7 _ (by omega)]
theorem y0d (n:Int):(v3g n).length<=9:=by
 unfold v3g;split;have:=x0n 8 n.natAbs;simp;omega;have:=x0n 8 n.toNat;omega
def z7r (i:LId):List UInt8:=v3g i.y++[46]++v3g i.n
theorem y1t (i:LId):(z7r i).length<=19:=by
 unfold z7r;have D:=y0d i.y;have I:=y0d i.n;simp;omega
def z4u (wd:List UInt8)(l:List LId):List (List UInt8):=wd::l.map z7r
def y9u (p:Pa):List UInt8:=if p.f=true then (z7r p.id++(if p.d=1 then [62] else [60]))++[43] else z7r p.id++(if p.d=1 then [62] else [60])
def x4j:List UInt8:=[102,114,111,110,116]
def v3s:List UInt8:=[98,97,99,107]
def k0i:List UInt8:=[110,101,119]
def j8j:List UInt8:=[116,104,114,111,117,103,104]
def j0t:List UInt8:=[112,97,115,116]
def x9c:List UInt8:=[99,114,111,115,115]
def u4i:List UInt8:=[104,101,108,100]
def y2x:List UInt8:=[102,97,108,108,101,110]
def y5v (i:LId)(l:Lp):List (List UInt8):=[z7r i,if l.b=1 then v3s else x4j]++(if l.nw=true then [k0i] else [])
def y5a (i:LId)(l:Lp):List (List UInt8):=y5v i l++(if l.th=[] then [] else z4u j8j l.th)
def y7h (i:LId)(l:Lp):List (List UInt8):=y5a i l++(if l.pa=[] then [] else [j0t])
def y9z (i:LId)(l:Lp):List (List UInt8):=y7h i l++l.pa.map y9u
def y3b (ws:List (List UInt8)):List UInt8:=Lib.join ws [32]++[10]
def x5m (y:Nat):Nat->List Lp->List UInt8
  | _,[]=>[]
  | n,l::r=>y3b (y9z ⟨(y:Int)+1,(n:Int)⟩ l)++x5m y (n+1) r
def x0k:Nat->Tb->List UInt8
  | _,[]=>[]
  | y,r::T=>x5m y 0 r++x0k (y+1) T
def y5y:List Cx->List UInt8
  | []=>[]
  | c::l=>y3b [x9c,z7r c.a,z7r c.b,v3g c.n]++y5y l
def y5z (h:List LId):List UInt8:=if h=[] then [] else y3b (z4u u4i h)
def y5t (f:List LId):List UInt8:=if f=[] then [] else y3b (z4u y2x f)
def j3c (T:Tb)(c:List Cx)(h f:List LId):List UInt8:=x0k 0 T++(y5y c++(y5z h++y5t f))
theorem v0m {y n:Nat}{r:List Lp}(h:n<r.length):x5m y n (r.drop n)=y3b (y9z ⟨(y:Int)+1,(n:Int)⟩ (r.getD n lq0.p))++x5m y (n+1) (r.drop (n+1)):=by
 rw[List.drop_eq_getElem_cons h,x5m,List.getD,List.getElem?_eq_getElem h];rfl
theorem v0z {y:Nat}{T:Tb}(h:y<T.length):x0k y (T.drop y)=x5m y 0 (T.getD y [])++x0k (y+1) (T.drop (y+1)):=by
 rw[List.drop_eq_getElem_cons h,x0k,List.getD,List.getElem?_eq_getElem h];rfl
theorem v1f {i:Nat}{l:List Cx}(h:i<l.length):y5y (l.drop i)=y3b [x9c,z7r (l.getD i cx0).a,z7r (l.getD i cx0).b,v3g (l.getD i cx0).n]++y5y (l.drop (i+1)):=by
 rw[List.drop_eq_getElem_cons h,y5y,List.getD,List.getElem?_eq_getElem h];rfl
end Go.G08
namespace Go.G08
open Go.Lw Go.G21
def IdS (x:LId):Prop:=(-99999999<=x.y/\x.y<=99999999)/\(-99999999<=x.n/\x.n<=99999999)
theorem z6l (wd:List UInt8)(l:List LId):(z4u wd l).length=l.length+1:=by unfold z4u;simp
theorem x7h {wd:List UInt8}{l:List LId}{i:Nat}(h:i<l.length):z4u wd (l.take (i+1))=z4u wd (l.take i)++[z7r (l.getD i id0)]:=by
 unfold z4u;rw[z6r id0 h];simp
theorem u6w {x:LId}{l:Lp}(h:l.nw=true):y5v x l=[z7r x,if l.b=1 then v3s else x4j]++[k0i]:=by unfold y5v;rw[if_pos h]
theorem u8i {x:LId}{l:Lp}(h:¬l.nw=true):y5v x l=[z7r x,if l.b=1 then v3s else x4j]:=by unfold y5v;rw[if_neg h,List.append_nil]
theorem u8f {x:LId}{l:Lp}(h:0<l.th.length):y5a x l=y5v x l++z4u j8j l.th:=by
 unfold y5a;rw[if_neg];intro e;rw[e]at h;cases h
theorem u8a {x:LId}{l:Lp}(h:¬0<l.th.length):y5a x l=y5v x l:=by
 unfold y5a;rw[if_pos (List.length_eq_zero_iff.1 (by omega)),List.append_nil]
theorem j1u {x:LId}{l:Lp}(h:0<l.pa.length):y7h x l=y5a x l++[j0t]:=by
 unfold y7h;rw[if_neg];intro e;rw[e]at h;cases h
theorem j2k {x:LId}{l:Lp}(h:¬0<l.pa.length):y7h x l=y5a x l:=by
 unfold y7h;rw[if_pos (List.length_eq_zero_iff.1 (by omega)),List.append_nil]
theorem x4d (x:LId)(l:Lp):(y5v x l).length<=3:=by unfold y5v;(repeat' split)<;>simp
theorem x2g (x:LId)(l:Lp):(y5a x l).length<=4+l.th.length:=by
 have:=x4d x l;unfold y5a;split;simp;omega;rw[List.length_append,z6l];omega
theorem x2c (x:LId)(l:Lp):(y7h x l).length<=5+l.th.length:=by
 have:=x2g x l;unfold y7h;split;simp;omega;rw[List.length_append,List.length_singleton];omega
theorem v4w (x:LId)(l:Lp):(y9z x l).length<=5+l.th.length+l.pa.length:=by
 have:=x2c x l;unfold y9z;rw[List.length_append,List.length_map];omega
theorem v9x (x:LId)(l:Lp):y9z x l≠[]:=by
 intro e;have:=congrArg List.length e;unfold y9z y7h y5a y5v at this;simp at this
end Go.G08
namespace Go.G08
open Go.Lw Go.G21
theorem z9s:∀(T:Tb) (y:Nat),z2t T y<=z5d T
 | [],y=>by simp[z2t]
 | r::T,0=>by simp[z2t,z5d]
 | r::T,y+1=>by
  have:=z9s T y
  simp only[z2t,z5d,List.getD_cons_succ,List.map_cons,List.sum_cons]at this ⊢;omega
theorem z7g {T:Tb}(h:TabOk T){x:LId}(D:z4l T x):IdS x:=by
 obtain⟨I,J,M,O⟩:=D;have:=z9s T (x.y-1).toNat;have Z:=h.six;have hc:=h.cnt;exact⟨by omega,by omega⟩
theorem j0l {h:List LId}(k:0<h.length):y5z h=y3b (z4u u4i h):=by
 unfold y5z;rw[if_neg];intro e;rw[e]at k;cases k
theorem u7z {h:List LId}(k:¬0<h.length):y5z h=[]:=if_pos (List.length_eq_zero_iff.1 (by omega))
theorem v2d {h:List LId}(k:0<h.length):y5t h=y3b (z4u y2x h):=by
 unfold y5t;rw[if_neg];intro e;rw[e]at k;cases k
theorem v4g {h:List LId}(k:¬0<h.length):y5t h=[]:=if_pos (List.length_eq_zero_iff.1 (by omega))
def k0l (T:Tb):List LId:=(List.range 6).flatMap λy=>(List.range (z2t T y)).map λ(n:Nat)=>(⟨(y:Int)+1,(n:Int)⟩:LId)
theorem x2d:∀ {l m:List LId},l.Nodup->(∀x∈l,x∈m)->l.length<=m.length
 | [],_,_,_=>Nat.zero_le _
 | x::l,m,hn,hs=>by
  have I:=hs x (by simp)
  have D:=List.nodup_cons.1 hn
  have:=x2d (l:=l) (m:=m.erase x) D.2 (λy J=>(List.mem_erase_of_ne (λe=>D.1 (by rw[<-e];exact J))).2 (hs y (List.mem_cons_of_mem _ J)))
  rw[List.length_erase_of_mem I]at this
  have M:=List.length_pos_of_mem I
  rw[List.length_cons];omega
theorem y6b {T:Tb}(h:TabOk T){l:List LId}(I:∀x∈l,z4l T x)(hn:∀x,l.count x<=1):l.length<=100000:=by
 have M:∀x∈l,x∈k0l T:=λx O=>by
  obtain⟨y,n,Z,hn,rfl⟩:=y9h h.six (I x O);exact List.mem_flatMap.2 ⟨y,List.mem_range.2 Z,List.mem_map.2 ⟨n,List.mem_range.2 hn,rfl⟩⟩
 have D:l.Nodup:=List.nodup_iff_count.2 hn;have J:=x2d D M;have e:(k0l T).length=z2t T 0+(z2t T 1+(z2t T 2+(z2t T 3+(z2t T 4+z2t T 5)))):=by
  unfold k0l;rw[show List.range 6=[0,1,2,3,4,5] from U];simp
 have h0:=z9s T 0;have h1:=z9s T 1;have h2:=z9s T 2;have h3:=z9s T 3;have h4:=z9s T 4;have h5:=z9s T 5;have:=h.cnt;omega
end Go.G08
namespace Go.Proofs.YtpgdchkdlgkmgaaGreatDoor
open Go.Lw Go.G21 Go.G08 _root_.Go.Proofs.Tryz
theorem x5q (n:Int)(w0:World)(hG:Glob w0)(h:-99999999<=n/\n<=99999999):Rets prog 86 #[.int .i64 n] w0 λv w'=>v=S (v3g n)/\Fr [] w0 w':=by
 refine Calls.mono (strconv_Itoa n (by omega) (by omega) w0 hG.tab) ?_;rintro e w' ⟨rfl,k,D,rfl⟩;exact⟨_,rfl,by rw[u9o h];rfl,v5w _ _ _⟩
theorem y6p (x:LId)(w0:World)(hG:Glob w0)(M:IdS x):Rets prog 85 #[.agg #[.int .u8 x.y,.int .i64 x.n]] w0 λr w'=>r=S (z7r x)/\Fr [] w0 w':=by
 have a3:=M.1;have a4:=M.2;have a1:=hG.sz;refine we [(0,.agg #[.int .u8 x.y,.int .i64 x.n])] func85 U ntmps85 U (.cons U .nil) ?_;have a0:=hG;refine sr (bx U (λg1 w1 a2 I q1 z1=>(asg U (nn (sq ?_)))));replace hG:=a0.ext q1;intro a h;refine z0j none (λwb w'=>Fr [] wb w') z2s ?_;intro w2 q2;replace hG:=hG.ext q2;replace I:=I.ext q2;have hC:Fr [] w2 w2:=Fr.refl _ _;have J:=hG;have D:=I;refine z0c 0 h U z7v U λa h=>z0l 1 h U (λ_ hw=>D.ext hw) U na5 U λa h=>x5s 2 hC h wn U (by rw[underlying5];rfl) underlying3 (by first|exact i6 (by omega)|rfl) U U λa h=>z0c 5 h U z9r U λa h=>z0l 6 h U (λ_ hw=>D.ext hw) U na3 U λa h=>z0d 3 U ?_;refine z0m h (z0a U z0f) j1k (x5q x.y _ hG M.1) ?_;rintro _ w3 ⟨rfl,q3⟩ a h;replace hG:=hG.ext q3;replace hC:=hC.next q3;refine z0b ?_;refine v4c 4 hC h wn U U (by have O:=y0d x.y;have Z:=y0d x.n;simp;omega) U U λa h=>z0d 7 U ?_;refine z0m h (z0a U z0f) j1k (x5q x.n _ hG M.2) ?_;rintro _ w4 ⟨rfl,q4⟩ a h;replace hC:=hC.next q4;refine z0b ?_;refine v4c 8 hC h wn U U (by have O:=y0d x.y;have Z:=y0d x.n;simp;omega) U U λa h=>z0d 9 U ?_;refine z0s h U λa h=>?_;refine z0b ?_;refine z0r ?_;clear hC J D;refine bk (h.sub (L':=[(2,_)]) (.cons U .nil)) (tn (rt (r1 results85 U ?_)));exact⟨_,rfl,rfl,(q1.n3 q2 q3 q4)⟩
theorem j5a:CallOf prog 85:=mkC func85
theorem v6z:z0y prog 100 1 2:=λ_ _=>by kernel_rfl
theorem y4q (wd:List UInt8)(v:Value)(l:List LId)(w0:World)(hG:Glob w0)(Z:Sl z1k w0 v l)(hb:∀x∈l,IdS x)(hl:l.length<=100000):Rets prog 87 #[S wd,v] w0 λr w'=>Lw.Own Enc.str 9 w0.heap.size w' r (z4u wd l)/\Fr [] w0 w':=by
 obtain⟨A,c,rfl,a9,hM,hA⟩:=id Z;clear hA;unfold maxLen at hM;have a8:=hG.sz;refine we [(0,S wd),(1,.slice A l.length c)] func87 U ntmps87 U (.c2 U U) ?_;have a4:=Z;have a0:=hG;refine sr (asg U (nn (sr (mv U (z2l ([wd]) (ev1 U) U z4c (λg9 w1 b1 a2 q1 z1=>(asg U (nn (sq (sr (mv U (lnS U underlying37 (mv U (nn (bl ?_)))))))))))))));refine lpK (ι:=Nat×Value) [(10,_),(11,_)] (λp=>[(12,.int .i64 (p.1:Int)),(5,p.2)]) (λp w'=>Fr [] w0 w'/\p.1<=l.length/\Lw.Own Enc.str 9 w0.heap.size w' p.2 (z4u wd (l.take p.1))) (λp=>l.length-p.1) (0,_) (.c4 U U U U) ⟨q1,⟨Nat.zero_le _,by rw[List.take_zero];exact a2.low (by omega)⟩⟩ ?_;rintro⟨i,vP⟩ w2 ⟨q2,⟨a1,D⟩⟩;simp only at a1 D;have z2:=q2.size;refine kpC [(10,_),(11,_),(12,.int .i64 (i:Int)),(5,vP)] (.c4 U U U U) ?_;have b3:=z6l wd (l.take i);have b4:(l.take i).length<=i:=by rw[List.length_take];omega
 refine sr (lt' U (nn (sq (cd U (λc0=>?_) (λc0=>?_)))));refine sk (tn (sq (bl (sr ?_))));replace Z:=a4.ext q2;refine z1a (id0) U Z U z6o z1d (λa5 M=>?_);refine z1j U (M _ Z) z3t (al y4p U (λg7 w3 b0 I q3 z3=>?_));refine z0i (vs:=[_,_]) U I y3i (λw4 I q4 z4=>?_) (h1:=(by first|(simp[Value.oneCell',S];done)|exact z1k.one _));refine nn (rg (mv U (z0k U I z3t ?_)));replace hG:=a0.ext (q2.z2 q3 q4);refine cl (ev1 U) j5a (y6p (l.getD i id0) _ hG (hb _ (z0t (by omega)))) U ?_;rintro _ w5 ⟨rfl,q5⟩;have z5:=q5.size;refine z2l ([z7r (l.getD i id0)]) (ev1 U) U z4c (λa7 w6 a6 O q6 z6=>?_);replace D:=((D.ext q3).fr q4 (by first|exact y0m D (by omega)|simp[z0x]<;>omega)).ext (q5.n1 q6);have J:=D;refine z2g U D O.sl z4c (by unfold maxLen;first|(simp only[List.length_append,List.length_cons,List.length_nil];omega)|omega) (by first|(simp only[List.length_append,List.length_cons,List.length_nil];omega)|omega) (λb5 w7 D q7 a3=>?_);have z7:=q7.size;refine asg U (kpL [(5,_),(10,_),(11,_),(12,_)] (.c4 U U U U) (nl (bn' (tn (rg (z0v U (wi6 (by omega)) (mv U (nl ?_))))))));exact lpE ((i+1,_)) (.c4 U U U U) ⟨((q2.z4 q3 q4 q5 q6).step q7 (λk hk b2=>absurd (J.blk k hk).1 (by omega))),⟨by simp only;omega,by rw[x7h (by omega)];exact D⟩⟩ (by simp only;omega);obtain rfl:i=l.length:=by omega
 rw[List.take_length]at D;refine ex (te (te (xh (tn (sr (mv U (asg U (kpL [(4,_)] (.cons U .nil) (nn (rt (r1 results87 U ?_)))))))))));exact⟨_,rfl,D,q2⟩
theorem j0x (p:Pa)(w0:World)(hG:Glob w0)(hx:IdS p.id):Rets prog 131 #[.agg #[.int .u8 p.id.y,.int .i64 p.id.n,.bool p.f,.int .u8 p.d]] w0 λr w'=>r=S (y9u p)/\Fr [] w0 w':=by
 have a1:=hG.sz;refine we [(0,.agg #[.int .u8 p.id.y,.int .i64 p.id.n,.bool p.f,.int .u8 p.d])] func131 U ntmps131 U (.cons U .nil) ?_;have a0:=hG;refine sr (bx U (λg1 w1 a2 J O z1=>(asg U (nn (sr (fad U x0s (z1q (vs:=[_,_]) U J z3t U ?_)))))));replace hG:=a0.ext O;refine cl (ev1 U) j5a (y6p p.id _ hG hx) U ?_;rintro _ w2 ⟨rfl,Z⟩;refine asg U (nn (sq (sr (fad U z7o ?_))));replace J:=J.ext Z;refine z0g U J U y7t (eq' U (nn (cd U (λI=>?_) (λI=>?_))));refine rg (mv U (y8o U U (by have M:=y1t p.id;simp;omega) U (asg U (nl (tn (sq (sr (fad U v6z (z0g U J U na4 (nn ?_))))))))));refine cd U (λD=>?_) (λD=>?_);refine rg (mv U (y8o U U (by have M:=y1t p.id;simp;omega) U (asg U (nl (tn (sr (mv U (asg U (nn (rt (r1 results131 U ?_)))))))))));exact⟨_,rfl,by unfold y9u;first|rw[if_pos D,if_pos I]|rw[if_pos D,if_neg I]|rw[if_neg D,if_pos I]|rw[if_neg D,if_neg I],(O.n1 Z)⟩;refine sk (tn (sr (mv U (asg U (nn (rt (r1 results131 U ?_)))))));exact⟨_,rfl,by unfold y9u;first|rw[if_pos D,if_pos I]|rw[if_pos D,if_neg I]|rw[if_neg D,if_pos I]|rw[if_neg D,if_neg I],(O.n1 Z)⟩;refine rg (mv U (y8o U U (by have M:=y1t p.id;simp;omega) U (asg U (nl (tn (sq (sr (fad U v6z (z0g U J U na4 (nn ?_))))))))));refine cd U (λD=>?_) (λD=>?_);refine rg (mv U (y8o U U (by have M:=y1t p.id;simp;omega) U (asg U (nl (tn (sr (mv U (asg U (nn (rt (r1 results131 U ?_)))))))))));exact⟨_,rfl,by unfold y9u;first|rw[if_pos D,if_pos I]|rw[if_pos D,if_neg I]|rw[if_neg D,if_pos I]|rw[if_neg D,if_neg I],(O.n1 Z)⟩;refine sk (tn (sr (mv U (asg U (nn (rt (r1 results131 U ?_)))))));exact⟨_,rfl,by unfold y9u;first|rw[if_pos D,if_pos I]|rw[if_pos D,if_neg I]|rw[if_neg D,if_pos I]|rw[if_neg D,if_neg I],(O.n1 Z)⟩
set_option maxHeartbeats 1000000 in
theorem u7n (x:LId)(q:LpQ)(w0:World)(hG:Glob w0)(Z:LpAt w0 q)(hx:IdS x)(e2:∀y∈q.ths,IdS y)(e1:∀y∈q.pas,IdS y.id)(hl:q.ths.length<=100000/\q.pas.length<=100000):Rets prog 84 #[.agg #[.int .u8 x.y,.int .i64 x.n],.agg #[.int .u8 q.b,.bool q.nw,.slice q.th.1 q.th.2.1 q.th.2.2,.slice q.pa.1 q.pa.2.1 q.pa.2.2]] w0 λr w'=>Lw.Own Enc.str 9 w0.heap.size w' r (y9z x q.p)/\Fr [] w0 w':=by
 have g8:=z1u Z.1;have g9:=z1u Z.2;have g1:=x2c x q.p;have f2:=x2g x q.p;have f1:=x4d x q.p;have h2:q.p.th.length=q.ths.length:=rfl;have e0:=Z.2.len_le;unfold maxLen at e0;have g0:=hG.sz;refine we [(0,.agg #[.int .u8 x.y,.int .i64 x.n]),(1,.agg #[.int .u8 q.b,.bool q.nw,.slice q.th.1 q.th.2.1 q.th.2.2,.slice q.pa.1 q.pa.2.1 q.pa.2.2])] func84 U ntmps84 U (.c2 U U) ?_;have b7:=Z;have a5:=hG;refine sr (bx U (λg2 w1 g4 a0 q1 z1=>(bx U (λg3 w2 g5 I q2 z2=>(asg U ?_)))));replace a0:=a0.ext q2;have f0:=a0;have J:=I;refine nn (sr (z0k U a0 z3t ?_));replace hG:=a5.ext (q1.n1 q2);refine cl (ev1 U) j5a (y6p x _ hG hx) U ?_;rintro _ w3 ⟨rfl,q3⟩;have z3:=q3.size;refine z2l ([z7r x,x4j]) (ev2 U) U z4c (λd9 w4 f3 M q4 z4=>(asg U (nn ?_)));refine jn (ι:=Unit) [(3,_),(5,_)] (λ_j=>[]) (λ_j w'=>Fr [] w2 w'/\Lw.Own Enc.str 9 w2.heap.size w' (.slice (some ⟨d9,0,none⟩) 2 2) ([z7r x,if q.b=1 then v3s else x4j])) (.c2 U U) ?_ ?_;refine sr (fad U x4h ?_);replace I:=J.ext (q3.n1 q4);refine z0g U I U x1e (eq' U (nn (cd U (λc0=>?_) (λc0=>?_))));refine rg (mv U (z9y (p:=1) (E:=Enc.str) U U z4c (z5j (i:=1) (v3s) U U M (by simp) U sz9 (λw5 M q5 z5=>(nl ?_)))));exact jE (()) (.c2 U U) ⟨(q3.z2 q4 q5),by rw[if_pos c0];exact M.low (by omega)⟩;refine sk ?_;exact jE (()) (.c2 U U) ⟨(q3.n1 q4),by rw[if_neg c0];exact M.low (by omega)⟩;rintro _j w6 ⟨q6,D⟩;have z6:=q6.size;refine kpC [(3,_),(5,_)] (.c2 U U) ?_;refine jn (ι:=Value) [(3,_)] (λa2=>[(5,a2)]) (λa2 w'=>Fr [] w2 w'/\Lw.Own Enc.str 9 w2.heap.size w' a2 (y5v x q.p)) (.cons U .nil) ?_ ?_;refine sr (fad U x7o ?_);replace I:=J.ext q6;refine z0g U I U na4 (nn (cd U (λc1=>?_) (λc1=>?_)));refine rg (mv U (z2l ([k0i]) (ev1 U) U z4c (λf7 w7 f4 b9 q7 z7=>?_)));replace D:=D.ext q7;have a8:=D;refine z2g U D b9.sl z4c (by unfold maxLen;first|(simp only[List.length_append,List.length_cons,List.length_nil];omega)|omega) (by first|(simp only[List.length_append,List.length_cons,List.length_nil];omega)|omega) (λh4 w8 D q8 e5=>?_);have z8:=q8.size;refine asg U (nl ?_);exact jE (_) (.c2 U U) ⟨((q6.n1 q7).step q8 (λk hk a7=>absurd (a8.blk k hk).1 (by omega))),by rw[u6w c1];exact D⟩;refine sk ?_;exact jE (_) (.c2 U U) ⟨q6,by rw[u8i c1];exact D⟩;rintro a2 w9 ⟨q9,D⟩;have z9:=q9.size;refine kpC [(3,_),(5,_)] (.c2 U U) ?_;refine jn (ι:=Value) [(3,_)] (λa3=>[(5,a3)]) (λa3 w'=>Fr [] w2 w'/\Lw.Own Enc.str 9 w2.heap.size w' a3 (y5a x q.p)) (.cons U .nil) ?_ ?_;refine sr (fad U z7f ?_);replace I:=J.ext q9;refine z0g U I U z6c (lnS U underlying37 (gt' U (nn (cd U (λc2=>?_) (λc2=>?_)))));refine rg (mv U (fad U z7f (z0g U I U z6c ?_)));replace hG:=a5.ext (q1.n2 q2 q9);replace Z:=b7.ext (q1.n2 q2 q9);refine cl (ev2 U) (mkC func87) (y4q j8j _ q.ths _ hG Z.1 e2 hl.1) U ?_;rintro h5 h9 ⟨c9,b2⟩;have j2:=b2.size;have e4:=z6l j8j q.ths;replace D:=D.ext b2;have a9:=D;refine z2g U D c9.sl z4c (by unfold maxLen;first|(simp only[List.length_append,List.length_cons,List.length_nil];omega)|omega) (by first|(simp only[List.length_append,List.length_cons,List.length_nil];omega)|omega) (λh6 i0 D d3 e6=>?_);have j3:=d3.size;refine asg U (kpL [(3,_),(5,_)] (.c2 U U) (nl ?_));exact jE (_) (.c2 U U) ⟨((q9.n1 b2).step d3 (λk hk a7=>absurd (a9.blk k hk).1 (by omega))),by rw[u8f (show 0<q.ths.length by omega)];exact D⟩;refine sk ?_;exact jE (_) (.c2 U U) ⟨q9,by rw[u8a (show ¬0<q.ths.length by omega)];exact D⟩;rintro a3 i1 ⟨a1,D⟩;have j4:=a1.size;refine kpC [(3,_),(5,_)] (.c2 U U) ?_;refine jn (ι:=Value) [(3,_)] (λa4=>[(5,a4)]) (λa4 w'=>Fr [] w2 w'/\Lw.Own Enc.str 9 w2.heap.size w' a4 (y7h x q.p)) (.cons U .nil) ?_ ?_;refine sr (fad U z8w ?_);replace I:=J.ext a1;refine z0g U I U y4n (lnS U underlying54 (gt' U (nn (cd U (λc3=>?_) (λc3=>?_)))));refine rg (mv U (z2l ([j0t]) (ev1 U) U z4c (λf8 i2 f5 d0 d4 j5=>?_)));replace D:=D.ext d4;have b0:=D;refine z2g U D d0.sl z4c (by unfold maxLen;first|(simp only[List.length_append,List.length_cons,List.length_nil];omega)|omega) (by first|(simp only[List.length_append,List.length_cons,List.length_nil];omega)|omega) (λh7 i3 D d5 e7=>?_);have j6:=d5.size;refine asg U (nl ?_);exact jE (_) (.c2 U U) ⟨((a1.n1 d4).step d5 (λk hk a7=>absurd (b0.blk k hk).1 (by omega))),by rw[j1u (show 0<q.pas.length by omega)];exact D⟩;refine sk ?_;exact jE (_) (.c2 U U) ⟨a1,by rw[j2k (show ¬0<q.pas.length by omega)];exact D⟩;rintro a4 i4 ⟨b3,D⟩;have j7:=b3.size;refine kpC [(3,_),(5,_)] (.c2 U U) (sq (sr (fad U z8w ?_)));replace I:=J.ext b3;refine z0g U I U y4n (lnS U underlying54 (mv U (nn (bl ?_))));refine lpK (ι:=Nat×Value) [(38,_),(39,_)] (λp=>[(40,.int .i64 (p.1:Int)),(5,p.2)]) (λp w'=>Fr [] w2 w'/\p.1<=q.pas.length/\Lw.Own Enc.str 9 w2.heap.size w' p.2 (y7h x q.p++(q.pas.take p.1).map y9u)) (λp=>q.pas.length-p.1) (0,_) (.c4 U U U U) ⟨b3,⟨Nat.zero_le _,by rw[List.take_zero,List.map_nil,List.append_nil];exact D⟩⟩ ?_;rintro⟨i,vP⟩ i5 ⟨O,⟨e3,D⟩⟩;simp only at e3 D;have j8:=O.size;refine kpC [(38,_),(39,_),(40,.int .i64 (i:Int)),(5,vP)] (.c4 U U U U) ?_;have h3:(q.pas.take i).length<=i:=by rw[List.length_take];omega
 have h0:((q.pas.take i).map y9u).length=(q.pas.take i).length:=List.length_map ..;refine sr (lt' U (nn (sq (cd U (λc4=>?_) (λc4=>?_)))));refine sk (tn (sq (bl (sr ?_))));replace Z:=b7.ext (q1.n2 q2 O);refine z1a (pa0) U Z.2 U z9h z1d (λe9 b8=>?_);refine z1j U (b8 _ Z.2) z6w (al y7i U (λg7 i7 g6 a6 b4 j9=>?_));refine z0i (vs:=[_,_,_,_]) U a6 y9q (λi8 a6 b5 k0=>?_) (h1:=(by first|(simp[Value.oneCell',S];done)|exact z1t.one _));refine nn (rg (mv U (z0k U a6 z6w ?_)));replace hG:=a5.ext (q1.z4 q2 O b4 b5);refine cl (ev1 U) (mkC func131) (j0x (q.pas.getD i pa0) _ hG (e1 _ (z0t (by omega)))) U ?_;rintro _ i9 ⟨rfl,b6⟩;have k1:=b6.size;refine z2l ([y9u (q.pas.getD i pa0)]) (ev1 U) U z4c (λf9 j0 f6 d1 d6 k2=>?_);replace D:=((D.ext b4).fr b5 (by first|exact y0m D (by omega)|simp[z0x]<;>omega)).ext (b6.n1 d6);have b1:=D;refine z2g U D d1.sl z4c (by unfold maxLen;first|(simp only[List.length_append,List.length_cons,List.length_nil];omega)|omega) (by first|(simp only[List.length_append,List.length_cons,List.length_nil];omega)|omega) (λh8 j1 D d7 e8=>?_);have k3:=d7.size;refine asg U (kpL [(5,_),(38,_),(39,_),(40,_)] (.c4 U U U U) (nl (bn' (tn (rg (z0v U (wi6 (by omega)) (mv U (nl ?_))))))));exact lpE ((i+1,_)) (.c4 U U U U) ⟨((O.z4 b4 b5 b6 d6).step d7 (λk hk a7=>absurd (b1.blk k hk).1 (by omega))),⟨by simp only;omega,by rw[z6r pa0 (by omega),List.map_append,<-List.append_assoc];exact D⟩⟩ (by simp only;omega);obtain rfl:i=q.pas.length:=by omega
 rw[List.take_length]at D;refine ex (te (te (xh (tn (sr (mv U (asg U (kpL [(4,_)] (.cons U .nil) (nn (rt (r1 results84 U ?_)))))))))));exact⟨_,rfl,D.low (by omega),(q1.n2 q2 O)⟩
end Go.Proofs.YtpgdchkdlgkmgaaGreatDoor
namespace Go.Lw
open Go.RowKit
def Bld (T e b:Nat)(l:List UInt8)(w:World):Prop:=Lib.IsBuilder T e b b (Lib.byteCells l) w
theorem Bld.ext {T e b:Nat}{l:List UInt8}{w w':World}(h:Bld T e b l w)(hf:Fr [] w w'):Bld T e b l w':=j7x h hf
theorem Bld.lt {T e b:Nat}{l:List UInt8}{w:World}(h:Bld T e b l w):b<w.heap.size:=h.elim Lib.BuilderAt.lt Lib.BuilderAt.lt
theorem Bld.new {T e b:Nat}{w:World}(h:Blk w b T [.pointer none,.slice none 0 0]):Bld T e b [] w:=.inl ⟨Nat.le_refl _,.slice none 0 0,h,⟨rfl,.inl ⟨rfl,rfl⟩⟩,by simp[Value.ownBlock]⟩
theorem y6o {w w':World}{B:Nat}(h:Below B w w'):∃S:List Nat,(∀k∈S,B<=k)/\Fr S w w':=
 ⟨(List.range w.heap.size).filter (λk=>decide (B<=k)),λk I=>by simpa using (List.mem_filter.1 I).2,⟨h.os,h.tape,h.output,h.size,λk I J=>h.block k (by
  rcases Nat.lt_or_ge k B with D|D
  ·exact D
  exact absurd (List.mem_filter.2 ⟨List.mem_range.2 I,by simpa using D⟩) J)⟩⟩
end Go.Lw
namespace Go.Proofs.YtpgdchkdlgkmgaaGreatDoor
open Go.Lw Go.G21 Go.G08 _root_.Go.Proofs.Tryz
theorem x6r:z0y prog 152 0 0:=λ_ _=>by kernel_rfl
theorem x1m:z0y prog 152 1 1:=λ_ _=>by kernel_rfl
theorem j4o:z2b prog 149:=λ_=>by kernel_rfl
theorem j3s:z2b prog 150:=λ_=>by kernel_rfl
theorem k0q:z1p prog 149 1:=λ_=>by kernel_rfl
theorem j6k:z1p prog 150 1:=λ_=>by kernel_rfl
theorem j4p:∃j,prog.info? 152=some j/\j.size=2:=Option.map_eq_some_iff.1 (show (prog.info? 152).map (·.size)=some 2 by kernel_rfl)
theorem u4t:(prog.info? 5).map (λi=>(i.zero,i.size,i.bytes))=some (some (.int .u8 0),1,1):=by kernel_rfl
theorem j8a:liesAt prog prog.depth 152 (2 / prog.cellsOf 152) 0 152 1=true:=by kernel_rfl
theorem u3h (u:Value)(w:World):(callFunc 185 #[u]).run prog w=.ok (.value u) w:=by
 rw[run_callFunc_extern func185 (by kernel_rfl) (by kernel_rfl) (by kernel_rfl) (e:=Extern.AbiNoEscape.same) (by kernel_rfl),Lib.run_noEscape];rfl
theorem y3p (B b:Nat)(bs:List Value)(w0:World)(hI:Lib.IsBuilder 152 5 B b bs w0):Rets prog 129 #[.pointer (some ⟨b,0,none⟩)] w0 λv w'=>Lib.BuilderAt 152 5 B b (.pointer (some ⟨b,0,none⟩)) bs w'/\RowKit.Below B w0 w':=by
 obtain⟨po,a1,J⟩:∃po,(po=none\/po=some ⟨b,0,none⟩)/\Lib.BuilderAt 152 5 B b (.pointer po) bs w0:=hI.elim (λh=>⟨none,.inl U,h⟩) (λh=>⟨_,.inr U,h⟩);have Z:=J.shape;obtain⟨j,hj,a2⟩:=j4p;obtain⟨hB,v,M,I,O⟩:=J;have D:Blk w0 b 152 [.pointer po,v]:=M;refine enter [(0,.pointer (some ⟨b,0,none⟩))] func129 U ntmps129 U (.cons U .nil) ?_;intro a h;refine wp_seq (wp_region_lit ?_);refine tW h (mv U (nlc U (fad U x6r (z0g U D U j4o (u3s U underlying149 U (kL [(0,_),(6,_)] (.c2 U U) ?_))))));clear h a;intro a h;refine wpList_nil (z4h (cS h U (λc0=>?_) (λc0=>?_)));obtain rfl:po=none:=by cases po with|none=>rfl|some x=>cases c0
 refine wp_region_lit ?_;refine tW h (mv U (mv U (v1v U underlying149 underlying283 hj (by omega) Z Nat.zero_lt_two U (j7y U u3h U (x3r U underlying283 underlying149 hj Z j8a U (nlc U (fad U x6r ?_)))))));clear h a;intro a h;refine z3h h U U D U U U k0q λw1 a0 hq hz a h=>?_;replace h:Ag a 20 []:=h.sub .nil;refine wpList_nil (u7i h results129  ?_);exact⟨_,rfl,v7w hB a0 I hq O,z5g hq (by simpa using hB) (Nat.le_trans hB (Nat.le_of_lt D.lt))⟩;obtain rfl:po=some ⟨b,0,none⟩:=a1.resolve_left (λe=>by rw[e]at c0;cases c0);refine wp_seq (wp_region_lit ?_);refine tW h (mv U (nlc U (fad U x6r (z0g U D U j4o (mv U (v2n U U underlying149 hj U (kL [(19,_)] (.cons U .nil) ?_)))))));clear h a;intro a h;refine wpList_nil (z4h (y8r h U (wp_skip (u7i h results129  ?_))));exact⟨_,rfl,⟨hB,v,M,I,O⟩,RowKit.Below.refl _ _⟩
theorem j4r (b:Nat)(l s:List UInt8)(w0:World)(hI:Bld 152 5 b l w0)(hM:l.length+s.length<=16777216):Rets prog 81 #[.pointer (some ⟨b,0,none⟩),S s] w0 λv w'=>Bld 152 5 b (l++s) w'/\∃S,(∀k∈S,b<=k)/\Fr S w0 w':=by
 have a0:=hI;replace hI:Lib.IsBuilder 152 5 b b (Lib.byteCells l) w0:=a0;refine enter [(0,.pointer (some ⟨b,0,none⟩)),(1,S s)] func81 U ntmps81 U (.c2 U U) ?_;intro a h;refine wp_seq (wp_region_lit ?_);refine tW h (asg U (asg U (kL [(0,_),(1,_)] (.c2 U U) ?_)));clear h a;intro a h;refine wpList_nil (z4h (wp_seq (wp_region_lit (x5w h U U λa h=>?_))));refine z0m h (z0a U z0f) (mkC func129) (y3p _ _ _ _ hI) ?_;rintro _ w1 ⟨Z,a5⟩ a h;obtain⟨hB,v,a1,I,a4⟩:=Z;have M:Blk w1 b 152 [.pointer (some ⟨b,0,none⟩),v]:=a1;have a6:=M.lt;rw[Lib.byteCells_length]at I;replace h:Ag a 19 [(0,_),(1,_)]:=h.sub (.c2 U U);refine wpList_nil (z4h (wp_seq (wp_region_lit ?_)));refine tW h (mv U (mv U (nlc U (fad U x1m (z0g U M U j3s (mv U ?_))))));clear h a;intro a h;refine x3b h U U underlying150 underlying9 u4t I (by unfold maxLen;omega) (by omega) (by omega) U λv2 w2 D a3 a h=>?_;have O:=x8f a3;have J:=M.fr O (by simpa using a4);have a7:=O.size;refine tW h (nlc U (fad U x1m ?_));clear h a;intro a h;refine z3h h U U J U (x1f D).1 (x1f D).2 j6k λw3 a2 hq hz a h=>?_;replace h:Ag a 19 [(1,_)]:=h.sub (.cons U .nil);refine wpList_nil (z4h (wp_seq (wp_region_lit ?_)));refine tW h (mv U (ln U underlying9 U (asg U (asg U (kL [(4,_),(5,_)] (.c2 U U) ?_)))));clear h a;intro a h;refine wpList_nil (z4h (wp_ret (ret2 h results81 U U ?_)));exact⟨_,rfl,.inr (v7w hB a2 (v2y D) hq (Lib.ownBlock_ne D J (by decide))),y6o (a5.trans ((z5g O (u6b I) (by omega)).trans (z5g hq (by simp) (by omega))))⟩
theorem j7m (b:Nat)(l:List UInt8)(c:UInt8)(w0:World)(hI:Bld 152 5 b l w0)(hM:l.length+1<=16777216):Rets prog 83 #[.pointer (some ⟨b,0,none⟩),.int .u8 (c.toNat:Int)] w0 λv w'=>Bld 152 5 b (l++[c]) w'/\∃S,(∀k∈S,b<=k)/\Fr S w0 w':=by
 have a1:=hI;replace hI:Lib.IsBuilder 152 5 b b (Lib.byteCells l) w0:=a1;refine enter [(0,.pointer (some ⟨b,0,none⟩)),(1,.int .u8 (c.toNat:Int))] func83 U ntmps83 U (.c2 U U) ?_;intro a h;refine wp_seq (wp_region_lit ?_);refine tW h (asg U (kL [(0,_),(1,_)] (.c2 U U) ?_));clear h a;intro a h;refine wpList_nil (z4h (wp_seq (wp_region_lit (x5w h U U λa h=>?_))));refine z0m h (z0a U z0f) (mkC func129) (y3p _ _ _ _ hI) ?_;rintro _ w1 ⟨a0,a7⟩ a h;obtain⟨hB,v,a2,I,a5⟩:=a0;have J:Blk w1 b 152 [.pointer (some ⟨b,0,none⟩),v]:=a2;have a8:=J.lt;rw[Lib.byteCells_length]at I;replace h:Ag a 17 [(0,_),(1,_)]:=h.sub (.c2 U U);refine wpList_nil (z4h (wp_seq (wp_region_lit ?_)));refine tW h (mv U (mv U (nlc U (fad U x1m (z0g U J U j3s (mv U ?_))))));clear h a;intro a h;refine z3g [c] h (z0a U z0f) U j6q ?_ (hsm:=(by decide));clear h a;intro gV w2 hg a6 M b1 a h;replace I:=u5j I M (by simp);replace J:=J.ext M;have b0:=M.size;refine x2o h U U underlying150 u4t I U (u1c a6) (by simp[Lib.strCells,Value.oneCell']) (by unfold maxLen;omega) (by omega) (by omega) U λv2 w3 D a4 a h=>?_;have Z:=x8f a4;have O:=J.fr Z (by simpa using a5);have a9:=Z.size;refine tW h (nlc U (fad U x1m ?_));clear h a;intro a h;refine z3h h U U O U (x1f D).1 (x1f D).2 j6k λw4 a3 hq hz a h=>?_;replace h:Ag a 17 []:=h.sub .nil;refine wpList_nil (z4h (wp_seq (wp_region_lit (z0s h U λa h=>wpList_nil (z4h (wp_ret (ret1 h results83 U ?_)))))));exact⟨_,rfl,.inr (v7w hB a3 (v2y D) hq (Lib.ownBlock_ne D O (by decide))),y6o (a7.trans ((z5g M (by simp) (by omega)).trans ((z5g Z (u6b I) (by omega)).trans (z5g hq (by simp) (by omega)))))⟩
theorem v0e (b:Nat)(l:List UInt8)(w0:World)(D:Bld 152 5 b l w0):Rets prog 88 #[.pointer (some ⟨b,0,none⟩)] w0 λv w'=>v=S l/\∃S,(∀k∈S,b<=k)/\Fr S w0 w':=by
 refine Calls.mono (Builder_String_any b b l w0 D (Nat.le_of_lt D.lt)) ?_;rintro e w' ⟨rfl,I⟩;exact⟨_,rfl,rfl,y6o I⟩
theorem y6t (v:Value)(ys:List (List UInt8))(O base T:Nat)(cur:List UInt8)(w0:World)(hO:Lw.Own Enc.str T base w0 v ys)(D:Bld 152 5 O cur w0)(a1:ys≠[])(hl:cur.length+(y3b ys).length<=1000000)(hy:ys.length<=1000000):Rets prog 80 #[v,.pointer (some ⟨O,0,none⟩)] w0 λr w'=>Bld 152 5 O (cur++y3b ys) w'/\∃S,(∀k∈S,O<=k)/\Fr S w0 w':=by
 have a2:(y3b ys).length=(Lib.join ys [32]).length+1:=by unfold y3b;rw[List.length_append];rfl
 refine we [(0,v),(1,.pointer (some ⟨O,0,none⟩))] func80 U ntmps80 U (.c2 U U) ?_;have I:=D;refine sr (mv U (cl (ev2 U) (mkC func82) (x8q _ ys [32] base T _ hO a1 (by omega) hy) U ?_));rintro _ w1 ⟨rfl,q1⟩;replace D:=I.ext q1;refine cl (ev2 U) (mkC func81) (j4r _ _ _ _ D (by omega)) U ?_;rintro _ w2 ⟨D,J,Z,q2⟩;have I:=D;refine nn (rg ?_);refine cl (ev2 U) (mkC func83) (j7m _ _ 10 _ D (by simp only[List.length_append];omega)) U ?_;rintro _ w3 ⟨D,M,a0,q3⟩;have I:=D;refine nl (r0n results80  ?_);exact⟨_,rfl,by unfold y3b;rw[<-List.append_assoc];exact D,J++M,(λk hk=>(List.mem_append.1 hk).elim (Z k) (a0 k)),(((Fr.refl (J++M) w0).n1 q1).step q2 (λk hk _=>List.mem_append_left _ hk)).step q3 (λk hk _=>List.mem_append_right _ hk)⟩
theorem j6y:CallOf prog 80:=mkC func80
theorem k0d (w:World):(zeroValue 152).run prog w=.ok (.agg #[(.pointer none),(.slice none 0 0)]) w:=by kernel_rfl
set_option maxHeartbeats 2000000 in
theorem v9k (q:FbQ)(w0:World)(hF:FbAt w0 q)(hG:Glob w0)(h6:q.ts.length=6)(hv:TabV (z1v q.ts))(hc:CrsV (z1v q.ts) q.cs)(hp:PlaceV (z1v q.ts) q.hs q.fs)(e6:(j3c (z1v q.ts) q.cs q.hs q.fs).length<=1000000):Rets prog 31 #[.agg #[.slice q.t.1 q.t.2.1 q.t.2.2,.slice q.c.1 q.c.2.1 q.c.2.2,.slice q.h.1 q.h.2.1 q.h.2.2,.slice q.f.1 q.f.2.1 q.f.2.2]] w0 λr w'=>r=S (j3c (z1v q.ts) q.cs q.hs q.fs)/\Fr [] w0 w':=by
 have j8:=hF.len;have j7:=z6y q.ts;obtain⟨TX,e2⟩:∃x,x=j3c (z1v q.ts) q.cs q.hs q.fs:=⟨_,rfl⟩;rw[<-e2]at e6 ⊢;have I:[]++(x0k 0 ((z1v q.ts).drop 0)++(y5y q.cs++(y5z q.hs++y5t q.fs)))=TX:=e2.symm;have g6:=hF.c.len_le;have g9:=hF.h.len_le;have g7:=hF.f.len_le;unfold maxLen at g6 g9 g7;have j3:=hG.sz;refine we [(0,.agg #[.slice q.t.1 q.t.2.1 q.t.2.2,.slice q.c.1 q.c.2.1 q.c.2.2,.slice q.h.1 q.h.2.1 q.h.2.2,.slice q.f.1 q.f.2.1 q.f.2.2])] func31 U ntmps31 U (.cons U .nil) ?_;have a3:=hF;have b1:=hG;refine sr (bx U (λg1 w1 j4 a7 q1 z1=>(asg U (nn (sq (sr (z0k U a7 x7e ?_)))))));replace hF:=a3.ext q1;refine cl (ev1 U) (mkC func45) (y8z q _ hF h6 hv hc hp) U ?_;rintro _ w2 ⟨rfl,q2⟩;have z2:=q2.size;refine ne' U (nn (cd U (λc0=>?_) (λc0=>?_)));exact absurd U c0;refine sk (tn (sr (al k0d U (λg3 w3 j5 h0 q3 z3=>?_))));replace a7:=a7.ext (q2.n1 q3);have c9:=a7;have Z:=a7;have D:Bld 152 5 g3 [] w3:=Bld.new h0;have M:=D;refine nn (sr (z6n z0f (ev1 U) U (asg U (nn (sq (sr (fad U z9m (z0g U a7 U x3c (lnS U underlying35 (mv U (nn (bl ?_))))))))))));refine lpK (ι:=Nat×List UInt8) [(1,_),(3,_),(4,_),(16,_),(17,_)] (λp=>[(18,.int .i64 (p.1:Int))]) (λp w'=>Fr [g3] w3 w'/\p.1<=6/\Bld 152 5 g3 p.2 w'/\p.2++(x0k p.1 ((z1v q.ts).drop p.1)++(y5y q.cs++(y5z q.hs++y5t q.fs)))=TX) (λp=>6-p.1) (0,[]) (.c6 U U U U U U) ⟨(Fr.refl _ _),⟨Nat.zero_le _,D,I⟩⟩ ?_;rintro⟨y,cur⟩ w4 ⟨q4,⟨h7,D,I⟩⟩;simp only at h7 D I;have z4:=q4.size;have M:=D;refine kpC [(1,_),(3,_),(4,_),(16,_),(17,_),(18,.int .i64 (y:Int))] (.c6 U U U U U U) (sr (lt' U (nn (sq (cd U (λc1=>?_) (λc1=>?_))))));rw[v0z (by omega),List.append_assoc]at I;have j9:=z5y a3.tt y;have g5:=(a3.tt _ (z0t (d:=tq0) (i:=y) (by omega))).1.len_le;unfold maxLen at g5;refine sk (tn (sq (bl (sr (mv U ?_)))));replace hF:=a3.ext (q1.z3 q2 q3 q4);refine z1a (tq0) U hF.t U y7d z1d (λh9 e3=>?_);refine z1g U (e3 _ hF.t) x4i (asg U (asg U (nn (sr (mv U (lnS U underlying46 (mv U (nn (bl ?_)))))))));refine lpK (ι:=Nat×List UInt8) [(1,_),(3,_),(4,_),(5,_),(16,_),(17,_),(18,_),(23,_),(24,_)] (λp=>[(25,.int .i64 (p.1:Int))]) (λp w'=>Fr [g3] w3 w'/\p.1<=(q.ts.getD y tq0).2.length/\Bld 152 5 g3 p.2 w'/\p.2++(x5m y p.1 (((z1v q.ts).getD y []).drop p.1)++(x0k (y+1) ((z1v q.ts).drop (y+1))++(y5y q.cs++(y5z q.hs++y5t q.fs))))=TX) (λp=>(q.ts.getD y tq0).2.length-p.1) (0,cur) (.d8 U U U U U U U U (.c2 U U)) ⟨((Fr.refl [g3] _).z1 q4),⟨Nat.zero_le _,D,(by rw[List.drop_zero];exact I)⟩⟩ ?_;rintro⟨n,cur⟩ w5 ⟨q5,⟨h5,D,I⟩⟩;simp only at h5 D I;have z5:=q5.size;have M:=D;refine kpC [(1,_),(3,_),(4,_),(5,_),(16,_),(17,_),(18,_),(23,_),(24,_),(25,.int .i64 (n:Int))] (.d8 U U U U U U U U (.c2 U U)) (sr (lt' U (nn (sq (cd U (λc2=>?_) (λc2=>?_))))));have h3:z4l (z1v q.ts) (⟨(y:Int)+1,(n:Int)⟩:LId):=z8u (by omega) (by rw[z2p];omega);have b4:=(hv.ok.rts y (by omega) n (by rw[z2p];omega)).1;rw[z7l]at b4;have i2:((q.ts.getD y tq0).2.getD n lq0).ths.length<=4:=b4.2.1.1;have i3:((q.ts.getD y tq0).2.getD n lq0).pas.length<=4096:=b4.2.1.2;have i4:(y9z (⟨(y:Int)+1,(n:Int)⟩:LId) ((q.ts.getD y tq0).2.getD n lq0).p).length<=5+((q.ts.getD y tq0).2.getD n lq0).ths.length+((q.ts.getD y tq0).2.getD n lq0).pas.length:=v4w _ _;rw[v0m (by rw[y9b,List.length_map];omega),show ((z1v q.ts).getD y []).getD n lq0.p=((q.ts.getD y tq0).2.getD n lq0).p from z7l q.ts y n,List.append_assoc]at I;refine sk (tn (sq (bl (sr (mv U ?_)))));replace hF:=a3.ext (q1.z3 q2 q3 q5);refine z1a (lq0) U (hF.tt _ (z0t (d:=tq0) (i:=y) (by omega))).1 U x8h z1d (λi0 e4=>?_);refine z1j U (e4 _ (hF.tt _ (z0t (d:=tq0) (i:=y) (by omega))).1) x8z (al v9i U (λg8 w6 j6 b9 q6 z6=>?_));refine asg U (z0i (vs:=[_,_,_,_]) U b9 u2v (λw7 b9 q7 z7=>?_) (h1:=(by first|(simp[Value.oneCell',S];done)|exact z4r.one _|exact z4v.one _)));refine nn (rg (mv U (mv U (z0v U (wi6 (by omega)) (z5a U (us underlying3) underlying5 (wi8 (by omega)) (mv U (z1s (cs:=[_,_]) (ev2 U) j6h (z0h U (z0h U z0q)) U ?_)))))));refine z0k U b9 x8z ?_;replace hG:=b1.ext (q1.z5 q2 q3 q5 q6 q7);replace hF:=a3.ext (q1.z5 q2 q3 q5 q6 q7);refine cl (ev2 U) (mkC func84) (u7n (⟨(y:Int)+1,(n:Int)⟩:LId) ((q.ts.getD y tq0).2.getD n lq0) _ hG (z7y hF.tt (y:=y) (n:=n) (by omega) (by omega)) (z7g hv.ok h3) (λx hx=>z7g hv.ok (b4.2.2.1 _ (List.mem_append_left _ hx))) (λx hx=>z7g hv.ok (b4.2.2.1 _ (List.mem_append_right _ (List.mem_map_of_mem hx)))) ⟨by omega,by omega⟩) U ?_;rintro k0 w8 ⟨e8,q8⟩;have z8:=q8.size;replace D:=M.ext (q6.z2 q7 q8);refine clv (us:=[]) (ws:=[.pointer (some ⟨g3,0,none⟩)]) U (ev1 U) j6y (y6t _ (y9z (⟨(y:Int)+1,(n:Int)⟩:LId) ((q.ts.getD y tq0).2.getD n lq0).p) g3 _ _ cur _ e8 D (v9x _ _) (by have a4:=congrArg List.length I;simp only[List.length_append]at a4;omega) (by omega)) U (by intro g e;cases e) ?_;rintro j0 w9 ⟨D,i9,e1,q9⟩;have z9:=q9.size;have M:=D;refine kpL [(1,_),(3,_),(4,_),(5,_),(16,_),(17,_),(18,_),(23,_),(24,_),(25,_)] (.d8 U U U U U U U U (.c2 U U)) (nl (bn' (tn (rg (z0v U (wi6 (by omega)) (mv U (nl ?_)))))));exact lpE ((n+1,_)) (.d8 U U U U U U U U (.c2 U U)) ⟨(((Fr.refl [g3] _).z4 q5 q6 q7 q8).step q9 (λk hk a2=>by have:=e1 k hk;first|(exfalso;omega)|(simp;omega))),⟨by simp only;omega,D,(by simp only[List.append_assoc]at I ⊢;exact I)⟩⟩ (by simp only;omega);obtain rfl:n=(q.ts.getD y tq0).2.length:=by omega
 rw[List.drop_of_length_le (by rw[y9b,List.length_map];omega)]at I;replace I:cur++(x0k (y+1) ((z1v q.ts).drop (y+1))++(y5y q.cs++(y5z q.hs++y5t q.fs)))=TX:=I;refine ex (te (te (xh (bn' (tn (rg (z0v U (wi6 (by omega)) (mv U (kpL [(1,_),(3,_),(4,_),(16,_),(17,_),(18,_)] (.c6 U U U U U U) (nl ?_))))))))));exact lpE ((y+1,cur)) (.c6 U U U U U U) ⟨((Fr.refl [g3] _).z1 q5),⟨by simp only;omega,D,I⟩⟩ (by simp only;omega);obtain rfl:y=6:=by omega
 rw[List.drop_of_length_le (by omega)]at I;replace I:cur++(y5y q.cs++(y5z q.hs++y5t q.fs))=TX:=I;refine ex (te (te (xh (tn (sq (sr (fad U y3n ?_)))))));replace c9:=c9.fr q4;refine z0g U c9 U u5n (lnS U underlying36 (mv U (nn (bl ?_))));refine lpK (ι:=Nat×List UInt8) [(1,_),(3,_),(4,_),(42,_),(43,_)] (λp=>[(44,.int .i64 (p.1:Int))]) (λp w'=>Fr [g3] w3 w'/\p.1<=q.cs.length/\Bld 152 5 g3 p.2 w'/\p.2++(y5y (q.cs.drop p.1)++(y5z q.hs++y5t q.fs))=TX) (λp=>q.cs.length-p.1) (0,cur) (.c6 U U U U U U) ⟨((Fr.refl [g3] _).z1 q4),⟨Nat.zero_le _,D,(by rw[List.drop_zero];exact I)⟩⟩ ?_;rintro⟨i,cur⟩ k2 ⟨J,⟨h4,D,I⟩⟩;simp only at h4 D I;have m0:=J.size;have M:=D;refine kpC [(1,_),(3,_),(4,_),(42,_),(43,_),(44,.int .i64 (i:Int))] (.c6 U U U U U U) (sr (lt' U (nn (sq (cd U (λc3=>?_) (λc3=>?_))))));rw[v1f (by omega),List.append_assoc]at I;have d0:=hc.has i (by omega);refine sk (tn (sq (bl (sr ?_))));replace hF:=a3.ext (q1.z3 q2 q3 J);refine z1a (cx0) U hF.c U v8y z1d (λi1 e5=>?_);refine z1j U (e5 _ hF.c) x6f (al v4p U (λg4 k3 i5 O d1 m1=>?_));refine z0i (vs:=[_,_,_,_,_]) U O j2b (λk4 O d3 m2=>?_) (h1:=(by first|(simp[Value.oneCell',S];done)|exact z4r.one _|exact z4v.one _));refine nn ?_;replace hG:=b1.ext (q1.z5 q2 q3 J d1 d3);replace D:=M.ext (d1.z1 d3);intro a h;refine z0j (some 11) (λwb w'=>Fr [] wb w') z2s ?_;intro f8 b5;have m3:=b5.size;replace hG:=hG.ext b5;replace D:=D.ext b5;replace O:=O.ext b5;have hC:Fr [] f8 f8:=Fr.refl _ _;have d9:=hG;have d7:=D;have a0:=O;refine z0e 0 h U λa h=>z0c 1 h U y2j U λa h=>z1e (vs:=[_,_]) 2 h U (λ_ hw=>(a0.ext hw)) z3t U U λa h=>z0c 4 h U y2e U λa h=>z1e (vs:=[_,_]) 5 h U (λ_ hw=>(a0.ext hw)) z3t U U λa h=>z0c 7 h U y5o U λa h=>z0l 8 h U (λ_ hw=>a0.ext hw) U na3 U λa h=>z0d 3 U ?_;refine z0m h (z0a U z0f) j5a (y6p (q.cs.getD i cx0).a _ hG (z7g hv.ok d0.1)) ?_;rintro _ k5 ⟨rfl,a8⟩ a h;have m4:=a8.size;replace hG:=hG.ext a8;replace hC:=hC.next a8;refine z0b ?_;refine z0d 6 U ?_;refine z0m h (z0a U z0f) j5a (y6p (q.cs.getD i cx0).b _ hG (z7g hv.ok d0.2.1)) ?_;rintro _ k6 ⟨rfl,a9⟩ a h;have m5:=a9.size;replace hG:=hG.ext a9;replace hC:=hC.next a9;refine z0b ?_;refine z0d 9 U ?_;refine z0m h (z0a U z0f) j1k (x5q (q.cs.getD i cx0).n _ hG (by have:=d0.2.2.2.1;omega)) ?_;rintro _ k7 ⟨rfl,b6⟩ a h;have m6:=b6.size;replace O:=O.ext (a8.n2 a9 b6);replace hC:=hC.next b6;refine z0b ?_;refine z0d 10 U ?_;refine z3g ([x9c,z7r (q.cs.getD i cx0).a,z7r (q.cs.getD i cx0).b,v3g (q.cs.getD i cx0).n]) h (z0a U (z0a U (z0a U (z0a U z0f)))) U z4c λd6 k8 hg e9 b7 hz a h=>?_;have e7:g4<d6:=by have:=O.lt;omega
 have m7:=b7.size;replace D:=D.ext (a8.n3 a9 b6 b7);replace hC:=hC.next b7;refine z0b ?_;refine z0d 11 U ?_;refine y0i (us:=[]) (ws:=[.pointer (some ⟨g3,0,none⟩)]) h U (z0a U z0f) j6y (y6t _ ([x9c,z7r (q.cs.getD i cx0).a,z7r (q.cs.getD i cx0).b,v3g (q.cs.getD i cx0).n]) g3 _ _ cur _ e9 D (by simp) (by have a4:=congrArg List.length I;simp only[List.length_append]at a4;omega) (by simp)) U (by intro g e;cases e) ?_;rintro j1 k9 ⟨D,i7,e0,f1⟩ a h;have m8:=f1.size;refine z1n ?_;refine z0r ?_;clear hC d9 d7 a0;have M:=D;refine bk (h.sub (L':=[(1,_),(3,_),(4,_),(42,_),(43,_),(44,_)]) (.c6 U U U U U U)) (bn' (tn (rg (z0v U (wi6 (by omega)) (mv U (nl ?_))))));exact lpE ((i+1,_)) (.c6 U U U U U U) ⟨(((((Fr.refl [g3] _).z6 J d1 d3 b5 a8 a9).n1 b6).n1 b7).step f1 (λk hk a2=>by have:=e0 k hk;first|(exfalso;omega)|(simp;omega))),⟨by simp only;omega,D,(by simp only[List.append_assoc]at I ⊢;exact I)⟩⟩ (by simp only;omega);obtain rfl:i=q.cs.length:=by omega
 rw[List.drop_of_length_le (by omega)]at I;replace I:cur++(y5z q.hs++y5t q.fs)=TX:=I;refine ex (te (te (xh (tn (sq (sr (fad U y6g ?_)))))));replace Z:=Z.fr J;refine z0g U Z U z6c (lnS U underlying37 (gt' U (kpL [(1,_),(3,_),(4,_),(64,_)] (.c4 U U U U) (nn (cd U (λc4=>?_) (λc4=>?_))))));have h2:q.hs.length<=100000:=y6b hv.ok (λx hx=>hp.has x (List.mem_append_left _ hx)) (λx=>by have:=hp.le x;simp only[List.count_append]at this;omega);rw[j0l (by omega)]at I;refine rg (mv U (fad U y6g (z0g U Z U z6c ?_)));replace hG:=b1.ext (q1.z3 q2 q3 J);replace hF:=a3.ext (q1.z3 q2 q3 J);refine cl (ev2 U) (mkC func87) (y4q u4i _ q.hs _ hG hF.h (λx hx=>z7g hv.ok (hp.has x (List.mem_append_left _ hx))) h2) U ?_;rintro k1 l0 ⟨f0,a6⟩;have m9:=a6.size;replace Z:=Z.ext a6;replace D:=M.ext a6;refine clv (us:=[]) (ws:=[.pointer (some ⟨g3,0,none⟩)]) U (ev1 U) j6y (y6t _ (z4u u4i q.hs) g3 _ _ cur _ f0 D (by simp[z4u]) (by have a4:=congrArg List.length I;simp only[List.length_append]at a4;omega) (by rw[z6l];omega)) U (by intro g e;cases e) ?_;rintro j2 l1 ⟨D,i8,a5,b0⟩;replace Z:=Z.fr b0 (λhh=>absurd (a5 _ hh) (by omega));have n7:=b0.size;have M:=D;refine kpL [(1,_),(3,_),(4,_)] (.c3 U U U) (nl (tn (sq (sr (fad U z9u (z0g U Z U z6c (lnS U underlying37 (gt' U (nn (cd U (λc5=>?_) (λc5=>?_)))))))))));have hfl:q.fs.length<=100000:=y6b hv.ok (λx hx=>hp.has x (List.mem_append_right _ hx)) (λx=>by have:=hp.le x;simp only[List.count_append]at this;omega);rw[v2d (by omega)]at I;refine rg (mv U (fad U z9u (z0g U Z U z6c ?_)));replace hG:=b1.ext ((q1.z4 q2 q3 J a6).step b0 (λk hk a2=>by have:=a5 k hk;first|(exfalso;omega)|(simp;omega)));replace hF:=a3.ext ((q1.z4 q2 q3 J a6).step b0 (λk hk a2=>by have:=a5 k hk;first|(exfalso;omega)|(simp;omega)));refine cl (ev2 U) (mkC func87) (y4q y2x _ q.fs _ hG hF.f (λx hx=>z7g hv.ok (hp.has x (List.mem_append_right _ hx))) hfl) U ?_;rintro h8 l2 ⟨b3,d4⟩;have n8:=d4.size;replace D:=M.ext d4;refine clv (us:=[]) (ws:=[.pointer (some ⟨g3,0,none⟩)]) U (ev1 U) j6y (y6t _ (z4u y2x q.fs) g3 _ _ _ _ b3 D (by simp[z4u]) (by have a4:=congrArg List.length I;simp only[List.length_append]at a4 ⊢;omega) (by rw[z6l];omega)) U (by intro g e;cases e) ?_;rintro g0 l3 ⟨D,f9,b2,f2⟩;have n9:=f2.size;have M:=D;refine kpL [(3,_)] (.cons U .nil) (nl (tn (sr (cl (ev1 U) (mkC func88) (v0e _ _ _ D) U ?_))));rintro _ l4 ⟨rfl,b8,a1,f3⟩;have o0:=f3.size;refine asg U (nn (rt (r1 results31 U ?_)));exact⟨_,rfl,by rw[<-I]<;>simp only[List.append_assoc,List.append_nil],(((((q1.z4 q2 q3 J a6).step b0 (λk hk a2=>by have:=a5 k hk;first|(exfalso;omega)|(simp;omega))).n1 d4).step f2 (λk hk a2=>by have:=b2 k hk;first|(exfalso;omega)|(simp;omega))).step f3 (λk hk a2=>by have:=a1 k hk;first|(exfalso;omega)|(simp;omega)))⟩;rw[v4g (by omega)]at I;refine sk (tn (sr (cl (ev1 U) (mkC func88) (v0e _ _ _ D) U ?_)));rintro _ l5 ⟨rfl,b8,a1,f4⟩;have o1:=f4.size;refine asg U (nn (rt (r1 results31 U ?_)));exact⟨_,rfl,by rw[<-I]<;>simp only[List.append_assoc,List.append_nil],(((q1.z4 q2 q3 J a6).step b0 (λk hk a2=>by have:=a5 k hk;first|(exfalso;omega)|(simp;omega))).step f4 (λk hk a2=>by have:=a1 k hk;first|(exfalso;omega)|(simp;omega)))⟩;rw[u7z (by omega),List.nil_append]at I;refine sk (tn (sq (sr (fad U z9u (z0g U Z U z6c (lnS U underlying37 (gt' U (nn (cd U (λc5=>?_) (λc5=>?_))))))))));have hfl:q.fs.length<=100000:=y6b hv.ok (λx hx=>hp.has x (List.mem_append_right _ hx)) (λx=>by have:=hp.le x;simp only[List.count_append]at this;omega);rw[v2d (by omega)]at I;refine rg (mv U (fad U z9u (z0g U Z U z6c ?_)));replace hG:=b1.ext (q1.z3 q2 q3 J);replace hF:=a3.ext (q1.z3 q2 q3 J);refine cl (ev2 U) (mkC func87) (y4q y2x _ q.fs _ hG hF.f (λx hx=>z7g hv.ok (hp.has x (List.mem_append_right _ hx))) hfl) U ?_;rintro h8 l6 ⟨b3,d5⟩;have o2:=d5.size;replace D:=M.ext d5;refine clv (us:=[]) (ws:=[.pointer (some ⟨g3,0,none⟩)]) U (ev1 U) j6y (y6t _ (z4u y2x q.fs) g3 _ _ _ _ b3 D (by simp[z4u]) (by have a4:=congrArg List.length I;simp only[List.length_append]at a4 ⊢;omega) (by rw[z6l];omega)) U (by intro g e;cases e) ?_;rintro g0 l7 ⟨D,f9,b2,f5⟩;have o3:=f5.size;have M:=D;refine kpL [(3,_)] (.cons U .nil) (nl (tn (sr (cl (ev1 U) (mkC func88) (v0e _ _ _ D) U ?_))));rintro _ l8 ⟨rfl,b8,a1,f6⟩;have o4:=f6.size;refine asg U (nn (rt (r1 results31 U ?_)));exact⟨_,rfl,by rw[<-I]<;>simp only[List.append_assoc,List.append_nil],(((q1.z4 q2 q3 J d5).step f5 (λk hk a2=>by have:=b2 k hk;first|(exfalso;omega)|(simp;omega))).step f6 (λk hk a2=>by have:=a1 k hk;first|(exfalso;omega)|(simp;omega)))⟩;rw[v4g (by omega)]at I;refine sk (tn (sr (cl (ev1 U) (mkC func88) (v0e _ _ _ D) U ?_)));rintro _ l9 ⟨rfl,b8,a1,f7⟩;have o5:=f7.size;refine asg U (nn (rt (r1 results31 U ?_)));exact⟨_,rfl,by rw[<-I]<;>simp only[List.append_assoc,List.append_nil],((q1.z3 q2 q3 J).step f7 (λk hk a2=>by have:=a1 k hk;first|(exfalso;omega)|(simp;omega)))⟩
end Go.Proofs.YtpgdchkdlgkmgaaGreatDoor
namespace Go.G08
open Go.Lw Go.G21
def errN:Except (Int×Nat) MSt->Int×Nat
  | .error e=>e
  | .ok _=>(0,0)
theorem y3c {l:List Cx}(h:l.length<=1):y0v l=l:=by
 match l,h with
 | [],_=>exact List.perm_nil.1 (z2u [])
 | [c],_=>exact List.perm_singleton.1 (z2u [c])
theorem y8t {l:List LId}(h:l.length<=1):y0k l=l:=by
 match l,h with
 | [],_=>exact List.perm_nil.1 (z2x [])
 | [c],_=>exact List.perm_singleton.1 (z2x [c])
def okM:Except (Int×Nat) MSt->MSt
  | .ok p=>p
  | .error _=>start
def isOk:Except (Int×Nat) MSt->Bool
  | .ok _=>true
  | .error _=>false
theorem v5v {x:Except (Int×Nat) MSt}(h:isOk x=true):x=.ok (okM x):=by
 cases x with
 | ok p=>rfl
 | error e=>cases h
theorem j2h {x:Except (Int×Nat) MSt}(h:isOk x=false):x=.error (errN x):=by
 cases x with
 | ok p=>cases h
 | error e=>rfl
def j7k:List MOp:=[⟨1,0,0,0,1,0⟩,⟨4,1,0,1,1,0⟩,⟨4,1,0,2,1,0⟩,⟨4,0,0,2,1,0⟩,⟨4,0,0,1,1,0⟩]
theorem prgA:x0y [105,110,32,49,32,108,101,102,116,10,107,110,105,116,32,114,105,103,104,116,32,102,49,32,49,10,107,110,105,116,32,114,105,103,104,116,32,102,50,32,49,10,107,110,105,116,32,108,101,102,116,32,102,50,32,49,10,107,110,105,116,32,108,101,102,116,32,102,49,32,49]=(j7k,0,0):=by decide +kernel
def j6w:List MOp:=[⟨1,0,0,0,1,0⟩,⟨4,1,0,1,1,0⟩,⟨7,0,0,1,0,0⟩,⟨3,0,0,0,0,1⟩,⟨7,0,1,1,0,0⟩,⟨3,0,0,0,0,0⟩]
theorem prgB:x0y [105,110,32,49,32,108,101,102,116,10,107,110,105,116,32,114,105,103,104,116,32,102,49,32,49,10,120,102,101,114,32,102,49,10,114,97,99,107,32,49,10,120,102,101,114,32,98,49,10,114,97,99,107,32,48]=(j6w,0,0):=by decide +kernel
def j6g:List MOp:=[⟨1,0,0,0,1,0⟩,⟨4,1,0,1,1,0⟩,⟨4,1,0,2,1,0⟩,⟨6,1,0,40,1,0⟩,⟨7,0,0,1,0,0⟩,⟨3,0,0,0,0,1⟩,⟨3,0,0,0,0,2⟩,⟨7,0,1,1,0,0⟩]
theorem prgC:x0y [105,110,32,49,32,108,101,102,116,10,107,110,105,116,32,114,105,103,104,116,32,102,49,32,49,10,107,110,105,116,32,114,105,103,104,116,32,102,50,32,49,10,109,105,115,115,32,114,105,103,104,116,32,102,52,48,32,49,10,120,102,101,114,32,102,49,10,114,97,99,107,32,49,10,114,97,99,107,32,50,10,120,102,101,114,32,98,49]=(j6g,0,0):=by decide +kernel
def j8i:List MOp:=[⟨4,1,0,1,1,0⟩]
theorem prgD:x0y [107,110,105,116,32,114,105,103,104,116,32,102,49,32,49]=(j8i,0,0):=by decide +kernel
def j8m:List MOp:=[⟨7,0,0,1,0,0⟩]
theorem prgE:x0y [120,102,101,114,32,102,49]=(j8m,0,0):=by decide +kernel
def j8h:List MOp:=[⟨1,0,0,0,1,0⟩,⟨3,0,0,0,0,0⟩,⟨1,1,0,0,1,0⟩]
theorem prgF:x0y [105,110,32,49,32,108,101,102,116,10,114,97,99,107,32,48,10,105,110,32,49,32,114,105,103,104,116]=(j8h,0,0):=by decide +kernel
def msA:MSt:=okM (z6z 0 start j7k)
theorem rnA:z6z 0 start j7k=.ok msA:=v5v (by decide +kernel)
def msB:MSt:=okM (z6z 0 start j6w)
theorem rnB:z6z 0 start j6w=.ok msB:=v5v (by decide +kernel)
def msC:MSt:=okM (z6z 0 start j6g)
theorem rnC:z6z 0 start j6g=.ok msC:=v5v (by decide +kernel)
theorem rnD:z6z 0 start j8i=.error (12,0):=(j2h (by decide +kernel)).trans (congrArg Except.error (by decide +kernel))
theorem rnE:z6z 0 start j8m=.error (13,0):=(j2h (by decide +kernel)).trans (congrArg Except.error (by decide +kernel))
theorem rnF:z6z 0 start j8h=.error (12,2):=(j2h (by decide +kernel)).trans (congrArg Except.error (by decide +kernel))
theorem txA:j3c msA.tb (y0v msA.cr) ((z2f msA.B msA.rk).map Hd.id) (y0k msA.fa)=[49,46,48,32,102,114,111,110,116,32,110,101,119,10,49,46,49,32,102,114,111,110,116,10,49,46,50,32,102,114,111,110,116,32,116,104,114,111,117,103,104,32,49,46,49,10,49,46,51,32,102,114,111,110,116,32,116,104,114,111,117,103,104,32,49,46,48,10,104,101,108,100,32,49,46,51,32,49,46,50,10]:=by
 rw[y3c (by decide +kernel),y8t (by decide +kernel)];decide +kernel
theorem txC:j3c msC.tb (y0v msC.cr) ((z2f msC.B msC.rk).map Hd.id) (y0k msC.fa)=[49,46,48,32,102,114,111,110,116,32,110,101,119,10,49,46,49,32,102,114,111,110,116,10,99,114,111,115,115,32,49,46,48,32,49,46,49,32,45,49,10,104,101,108,100,32,49,46,49,32,49,46,48,10]:=by
 rw[y3c (by decide +kernel),y8t (by decide +kernel)];decide +kernel
theorem at2:(msB.B.atC 0 2).length=1:=by decide +kernel
theorem cr2:msB.cr=[]:=by decide +kernel
theorem pe2:(msB.ys.getD 0 yn0).pe=[⟨⟨1,0⟩,true,0⟩]:=by decide +kernel
theorem st2 {s:StQ}(h:s.p=stM msB):(s.ys.length=6/\s.fb.cs=[])/\(s.ys.getD 0 yq0).pes=[⟨⟨1,0⟩,true,0⟩]/\s.q.p=msB.B:=by
 have D:s.ys.map YQ.p=msB.ys:=congrArg St.ys h;have J:s.fb.cs=y0v msB.cr:=congrArg (λz=>z.fb.c) h;have M:s.q.p=msB.B:=congrArg St.B h;have I:=y6w z8a rnB;refine⟨⟨?_,?_⟩,?_,M⟩;have:=congrArg List.length D;rw[List.length_map,I.inv.ly]at this;exact this;rw[J,cr2];exact y3c (by simp);have e:=congrArg (λz=>(z.getD 0 yn0).pe) D;rw[show (s.ys.map YQ.p).getD 0 yn0=(s.ys.getD 0 yq0).p from x3y YQ.p s.ys 0 yq0 yn0 (by have:=congrArg List.length D;rw[List.length_map,I.inv.ly]at this;omega)]at e;rw[pe2]at e;exact e
end Go.G08
namespace Go.Proofs.YtpgdchkdlgkmgaaGreatDoor
open Go.Lw Go.G21 Go.G08 _root_.Go.Proofs.Tryz
def j3f (l:List MOp):Nat:=match z6z 0 G08.start l with
  | .error (_,n)=>n
  | .ok _=>l.length
theorem v6k (I D:Nat)(v:Value)(l:List MOp)(w0:World)(hS:StAt w0 (st0 I D))(hv:Sl z4n w0 v l)(J:StT w0)(M:l.length<=4096):Rets prog 9 #[.agg #[.int .i64 (st0 I D).rk,.slice (st0 I D).q.f.1 (st0 I D).q.f.2.1 (st0 I D).q.f.2.2,.slice (st0 I D).q.b.1 (st0 I D).q.b.2.1 (st0 I D).q.b.2.2,.slice (st0 I D).yv.1 (st0 I D).yv.2.1 (st0 I D).yv.2.2,.slice (st0 I D).fb.t.1 (st0 I D).fb.t.2.1 (st0 I D).fb.t.2.2,.slice (st0 I D).fb.c.1 (st0 I D).fb.c.2.1 (st0 I D).fb.c.2.2,.slice (st0 I D).fb.h.1 (st0 I D).fb.h.2.1 (st0 I D).fb.h.2.2,.slice (st0 I D).fb.f.1 (st0 I D).fb.f.2.1 (st0 I D).fb.f.2.2],v] w0 λr w'=>(∃s':StQ,r=.tuple #[.agg #[.int .i64 s'.rk,.slice s'.q.f.1 s'.q.f.2.1 s'.q.f.2.2,.slice s'.q.b.1 s'.q.b.2.1 s'.q.b.2.2,.slice s'.yv.1 s'.yv.2.1 s'.yv.2.2,.slice s'.fb.t.1 s'.fb.t.2.1 s'.fb.t.2.2,.slice s'.fb.c.1 s'.fb.c.2.1 s'.fb.c.2.2,.slice s'.fb.h.1 s'.fb.h.2.1 s'.fb.h.2.2,.slice s'.fb.f.1 s'.fb.f.2.1 s'.fb.f.2.2],.int .i64 (j3f l:Int),.int .i64 (u1r l)]/\StO τd 109 w0.heap.size w' s'/\∀p,z6z 0 G08.start l=.ok p->s'.p=stM p)/\Fr [] w0 w':=
 Rets.mono (v8j I D v l w0 hS hv J M) (by
  rintro r w' ⟨h,hf⟩
  refine⟨?_,hf⟩
  unfold u1r j3f
  cases e:z6z 0 G08.start l with
  | error x=>
   obtain⟨e1,n⟩:=x
   rw[e]at h
   exact⟨stZ,h,j1x _ _,λp hp=>by cases hp⟩
  | ok p=>
   rw[e]at h
   obtain⟨s',O,Z,h3⟩:=h
   exact⟨s',O,Z,λq hq=>by cases hq;exact h3⟩)
theorem v5k {l:List MOp}{p:MSt}(h:z6z 0 G08.start l=.ok p):u1r l=0/\j3f l=l.length:=by
 unfold u1r j3f;rw[h];exact⟨rfl,rfl⟩
theorem v4m {l:List MOp}{e:Int}{n:Nat}(h:z6z 0 G08.start l=.error (e,n)):u1r l=e/\j3f l=n:=by
 unfold u1r j3f;rw[h];exact⟨rfl,rfl⟩
theorem j7c {p:MSt}{n:Nat}(I D:Nat)(v:Value)(l:List MOp)(w0:World)(hS:StAt w0 (st0 I D))(hv:Sl z4n w0 v l)(J:StT w0)(M:l.length<=4096)(h:z6z 0 G08.start l=.ok p)(hn:l.length=n):Rets prog 9 #[.agg #[.int .i64 (st0 I D).rk,.slice (st0 I D).q.f.1 (st0 I D).q.f.2.1 (st0 I D).q.f.2.2,.slice (st0 I D).q.b.1 (st0 I D).q.b.2.1 (st0 I D).q.b.2.2,.slice (st0 I D).yv.1 (st0 I D).yv.2.1 (st0 I D).yv.2.2,.slice (st0 I D).fb.t.1 (st0 I D).fb.t.2.1 (st0 I D).fb.t.2.2,.slice (st0 I D).fb.c.1 (st0 I D).fb.c.2.1 (st0 I D).fb.c.2.2,.slice (st0 I D).fb.h.1 (st0 I D).fb.h.2.1 (st0 I D).fb.h.2.2,.slice (st0 I D).fb.f.1 (st0 I D).fb.f.2.1 (st0 I D).fb.f.2.2],v] w0 λr w'=>(∃s':StQ,r=.tuple #[.agg #[.int .i64 s'.rk,.slice s'.q.f.1 s'.q.f.2.1 s'.q.f.2.2,.slice s'.q.b.1 s'.q.b.2.1 s'.q.b.2.2,.slice s'.yv.1 s'.yv.2.1 s'.yv.2.2,.slice s'.fb.t.1 s'.fb.t.2.1 s'.fb.t.2.2,.slice s'.fb.c.1 s'.fb.c.2.1 s'.fb.c.2.2,.slice s'.fb.h.1 s'.fb.h.2.1 s'.fb.h.2.2,.slice s'.fb.f.1 s'.fb.f.2.1 s'.fb.f.2.2],.int .i64 (n:Int),.int .i64 0]/\StO τd 109 w0.heap.size w' s'/\s'.p=stM p)/\Fr [] w0 w':=
 Rets.mono (v6k I D v l w0 hS hv J M) (by
  rintro r w' ⟨⟨s',rfl,O,Z⟩,hf⟩
  rw[(v5k h).1,(v5k h).2,hn]
  exact⟨⟨s',rfl,O,Z p h⟩,hf⟩)
theorem j4u {e:Int}{n:Nat}(I D:Nat)(v:Value)(l:List MOp)(w0:World)(Z:StAt w0 (st0 I D))(hv:Sl z4n w0 v l)(J:StT w0)(M:l.length<=4096)(h:z6z 0 G08.start l=.error (e,n)):Rets prog 9 #[.agg #[.int .i64 (st0 I D).rk,.slice (st0 I D).q.f.1 (st0 I D).q.f.2.1 (st0 I D).q.f.2.2,.slice (st0 I D).q.b.1 (st0 I D).q.b.2.1 (st0 I D).q.b.2.2,.slice (st0 I D).yv.1 (st0 I D).yv.2.1 (st0 I D).yv.2.2,.slice (st0 I D).fb.t.1 (st0 I D).fb.t.2.1 (st0 I D).fb.t.2.2,.slice (st0 I D).fb.c.1 (st0 I D).fb.c.2.1 (st0 I D).fb.c.2.2,.slice (st0 I D).fb.h.1 (st0 I D).fb.h.2.1 (st0 I D).fb.h.2.2,.slice (st0 I D).fb.f.1 (st0 I D).fb.f.2.1 (st0 I D).fb.f.2.2],v] w0 λr w'=>(∃s':StQ,r=.tuple #[.agg #[.int .i64 s'.rk,.slice s'.q.f.1 s'.q.f.2.1 s'.q.f.2.2,.slice s'.q.b.1 s'.q.b.2.1 s'.q.b.2.2,.slice s'.yv.1 s'.yv.2.1 s'.yv.2.2,.slice s'.fb.t.1 s'.fb.t.2.1 s'.fb.t.2.2,.slice s'.fb.c.1 s'.fb.c.2.1 s'.fb.c.2.2,.slice s'.fb.h.1 s'.fb.h.2.1 s'.fb.h.2.2,.slice s'.fb.f.1 s'.fb.f.2.1 s'.fb.f.2.2],.int .i64 (n:Int),.int .i64 e]/\StO τd 109 w0.heap.size w' s')/\Fr [] w0 w':=
 Rets.mono (v6k I D v l w0 Z hv J M) (by
  rintro r w' ⟨⟨s',rfl,O,h2⟩,hf⟩
  rw[(v4m h).1,(v4m h).2]
  exact⟨⟨s',rfl,O⟩,hf⟩)
theorem v8t {p:MSt}(v:Value)(l:List MOp)(w0:World)(O:Sl z4n w0 v l)(D:StT w0)(I:l.length<=4096)(h:z6z 0 G08.start l=.ok p):Rets prog 14 #[v] w0 λr w'=>(∃s':StQ,r=.tuple #[.agg #[.slice s'.fb.t.1 s'.fb.t.2.1 s'.fb.t.2.2,.slice s'.fb.c.1 s'.fb.c.2.1 s'.fb.c.2.2,.slice s'.fb.h.1 s'.fb.h.2.1 s'.fb.h.2.2,.slice s'.fb.f.1 s'.fb.f.2.1 s'.fb.f.2.2],.int .i64 0]/\StO τd 109 w0.heap.size w' s'/\s'.p=stM p)/\Fr [] w0 w':=
 Rets.mono (x7i v l w0 O D I) (by
  rintro r w' ⟨⟨s',rfl,J,M⟩,hf⟩
  rw[(v5k h).1]
  exact⟨⟨s',rfl,J,M p h⟩,hf⟩)
theorem v8n {e:Int}{n:Nat}(v:Value)(l:List MOp)(w0:World)(M:Sl z4n w0 v l)(D:StT w0)(I:l.length<=4096)(h:z6z 0 G08.start l=.error (e,n)):Rets prog 14 #[v] w0 λr w'=>(∃s':StQ,r=.tuple #[.agg #[.slice s'.fb.t.1 s'.fb.t.2.1 s'.fb.t.2.2,.slice s'.fb.c.1 s'.fb.c.2.1 s'.fb.c.2.2,.slice s'.fb.h.1 s'.fb.h.2.1 s'.fb.h.2.2,.slice s'.fb.f.1 s'.fb.f.2.1 s'.fb.f.2.2],.int .i64 e]/\StO τd 109 w0.heap.size w' s')/\Fr [] w0 w':=
 Rets.mono (x7i v l w0 M D I) (by
  rintro r w' ⟨⟨s',rfl,J,O⟩,hf⟩
  rw[(v4m h).1]
  exact⟨⟨s',rfl,J⟩,hf⟩)
theorem v5h (q:FbQ)(p:MSt)(B:List UInt8)(w0:World)(hF:FbAt w0 q)(hG:Glob w0)(J:MVal p)(I:q.p=(stM p).fb)(hB:j3c p.tb (y0v p.cr) ((z2f p.B p.rk).map Hd.id) (y0k p.fa)=B)(hl:B.length<=1000000):Rets prog 31 #[.agg #[.slice q.t.1 q.t.2.1 q.t.2.2,.slice q.c.1 q.c.2.1 q.c.2.2,.slice q.h.1 q.h.2.1 q.h.2.2,.slice q.f.1 q.f.2.1 q.f.2.2]] w0 λr w'=>r=S B/\Fr [] w0 w':=by
 have D:z1v q.ts=p.tb:=congrArg Fb.t I;have M:q.cs=y0v p.cr:=congrArg Fb.c I;have O:q.hs=(z2f p.B p.rk).map Hd.id:=congrArg Fb.h I;have Z:q.fs=y0k p.fa:=congrArg Fb.f I;have h6:q.ts.length=6:=by rw[<-z6y,D];exact J.inv.lt
 have x:=v9k q w0 hF hG h6 (by rw[D];exact J.tabV) (by rw[D,M];exact J.crs) (by rw[D,O,Z];exact J.place) (by rw[D,M,O,Z,hB];exact hl);rw[D,M,O,Z,hB]at x;exact x
theorem y2c (l:List UInt8)(D:List MOp)(n e:Int)(w0:World)(hG:Glob w0)(h:x0y l=(D,n,e))(hl:l.length<=1000000):Rets prog 30 #[S l] w0 λr w'=>(∃A,r=.slice A D.length D.length/\Lw.Own z4n 28 w0.heap.size w' r D)/\Fr [] w0 w':=by
 have O:=hG.sz;refine we [(0,S l)] func30 U ntmps30 U (.cons U .nil) ?_;have M:=hG;refine sr (asg U (nn (sr (mv U (cl (ev1 U) (mkC func79) (v1m l _ hG hl) U ?_)))));rintro _ w1 ⟨A,Z,n',e',J,rfl,I,q1⟩;cases J.symm.trans h;refine mv U (xt U (xt U (xt U (asg U (asg U (asg U (kpL [(3,_)] (.cons U .nil) (nn (sr (mv U (asg U (nn (rt (r1 results30 U ?_))))))))))))));exact⟨_,rfl,⟨A,rfl,I.low (by omega)⟩,q1⟩
theorem j3g:CallOf prog 30:=mkC func30
set_option maxHeartbeats 2000000 in
set_option maxRecDepth 10000 in
theorem y1e (w0:World)(hG:Glob w0)(I:StT w0):Rets prog 11 #[] w0 λr w'=>r=.bool true/\Fr [] w0 w':=by
 have i9:=hG.sz;refine we [] func11 U ntmps11 U .nil ?_;have a6:=hG;have a0:=I;refine sr (asg U (nn (sr (cl (ev1 U) j3g (y2c _ j7k 0 0 _ hG prgA (by decide)) U ?_))));rintro _ w1 ⟨⟨i0,rfl,e6⟩,q1⟩;have z1:=q1.size;replace I:=a0.ext q1;refine cl (ev1 U) (mkC func14) (v8t _ j7k _ e6.sl I (by decide) rnA) U ?_;rintro _ w2 ⟨⟨s1,rfl,d0,f7⟩,q2⟩;have z2:=q2.size;have d9:=d0;refine mv U (xt U (xt U (al v9d U (λg1 w3 j0 d3 q3 z3=>?_))));refine z0i (vs:=[_,_,_,_]) U d3 v9f (λw4 d3 q4 z4=>?_) (h1:=(by first|(simp[Value.oneCell',S];done)|exact z1t.one _));refine asg U (nn (sq (sq ?_)));refine y7c (r:=24) (L':=[]) (((0≠0)\/([49,46,48,32,102,114,111,110,116,32,110,101,119,10,49,46,49,32,102,114,111,110,116,10,49,46,50,32,102,114,111,110,116,32,116,104,114,111,117,103,104,32,49,46,49,10,49,46,51,32,102,114,111,110,116,32,116,104,114,111,117,103,104,32,49,46,48,10,104,101,108,100,32,49,46,51,32,49,46,50,10]≠[49,46,48,32,102,114,111,110,116,32,110,101,119,10,49,46,49,32,102,114,111,110,116,10,49,46,50,32,102,114,111,110,116,32,116,104,114,111,117,103,104,32,49,46,49,10,49,46,51,32,102,114,111,110,116,32,116,104,114,111,117,103,104,32,49,46,48,10,104,101,108,100,32,49,46,51,32,49,46,50,10]))) .nil ?_ ?_;refine mv U (ne' U (mv U (gs 20 U (λZ=>absurd Z (by decide)) (λg0=>(gY U (z0k U d3 x7e (gY U ?_)))))));replace d0:=d9.ext (q3.z1 q4);replace hG:=a6.ext (q1.z3 q2 q3 q4);refine cl (ev1 U) (mkC func31) (v5h s1.fb msA _ _ d0.at.f hG (y6w z8a rnA) (congrArg St.fb f7) txA (by decide)) U ?_;rintro _ w5 ⟨rfl,q5⟩;have z5:=q5.size;exact gY U (j2c U U U (pkf U (z7q U .nil q5)));intro w6 q6;have z6:=q6.size;refine tn (cd U (λc0=>?_) (λc0=>?_));rcases c0 with Z|Z<;>exact absurd U Z
 refine sk (tn (sr (cl z0f (mkC func10) (y5g _) U ?_)));rintro _ w7 ⟨⟨d6,d4,rfl,a7⟩,q7⟩;have z7:=q7.size;have b4:=a7;replace hG:=a6.ext (q1.z5 q2 q3 q4 q6 q7);refine cl (ev1 U) j3g (y2c _ j6w 0 0 _ hG prgB (by decide)) U ?_;rintro _ w8 ⟨⟨i1,rfl,e7⟩,q8⟩;have z8:=q8.size;replace a7:=b4.ext q8;replace I:=a0.ext (q1.z6 q2 q3 q4 q6 q7 q8);refine cl (ev2 U) (mkC func9) (j7c d6 d4 _ j6w _ a7 e7.sl I (by decide) rnB (n:=6) U) U ?_;rintro _ w9 ⟨⟨s2,rfl,D,f8⟩,q9⟩;have z9:=q9.size;have b8:=D;obtain⟨⟨j5,f6⟩,b3,f2⟩:=st2 f8;have a9:=z3k (q:=s2.q) (by rw[f2];exact(y6w z8a rnB).inv.B);have h9:=z1u D.at.y;have h5:s2.fb.c.2.1=0:=by rw[z1u D.at.f.c,f6];rfl
 have h7:(s2.ys.getD 0 yq0).pe.2.1=1:=by rw[z1u (D.at.ya 0),b3];rfl
 have h8:(s2.ys.getD 0 yq0).pes.length=1:=by rw[b3];rfl
 refine mv U (xt U (xt U (xt U (al x2t U (λg3 j7 j1 a3 M l9=>?_)))));refine z0i (vs:=[_,_,_,_,_,_,_,_]) U a3 y1b (λj8 a3 O m0=>?_) (h1:=(by first|(simp[Value.oneCell',S];done)|exact z1t.one _));refine asg U (asg U (kpL [(2,_),(3,_),(4,_)] (.c3 U U U) (nn (sq (sr (mv U (ne' U (mv U (gs 34 U (λZ=>absurd Z (by decide)) (λg1=>(gY U (mv U (gY U (ne' U (pkf U (mv U (gs 38 U (λZ=>absurd Z (by decide)) (λg2=>?_))))))))))))))))));refine gY U (fad U y4a (gY U (z1q (vs:=[_,_]) U a3 z5x U (gY U (z1s (cs:=[_,_]) (ev1 U) y7w (z0h U z0q) U ?_)))));refine gY U ?_;replace D:=b8.ext (M.z1 O);refine cl (ev2 U) u2q (y9k s2.q 0 2 _ D.at.b (by decide) a9.1.1 a9.1.2 a9.2.1 a9.2.2) U ?_;rintro j6 j9 ⟨c9,J⟩;have m1:=J.size;rw[f2]at c9;obtain⟨i2,i8,rfl,h4⟩:=c9.sl.form;refine gY U (lnS U underlying37 (gY U (ne' U (pkf U (mv U ?_)))));refine gs 46 U (λZ=>absurd Z (by rw[at2];decide)) (λg3=>?_);refine gY U (fad U z9k (gY U (x2b U y3n U (gY U ?_))));replace a3:=a3.ext J;refine z0g U a3 U u5n (gY U (lnS U underlying36 (gY U (ne' U (pkf U (mv U (gs 53 U (λZ=>absurd Z (by omega)) (λg4=>(gY U (fad U z8v (gY U (z0g U a3 U y0q (gY U ?_)))))))))))));replace D:=b8.ext (M.z2 O J);refine z1a (p:=0) (yq0) U D.at.y U y0y U (λh0 e3=>(gY U (fad U z7e (gY U (z6x U (e3 _ D.at.y) U y4n (gY U (lnS U underlying54 (gY U (ne' U (pkf U (mv U (gs 62 U (λZ=>absurd Z (by omega)) (λg5=>(gY U (fad U z8v (gY U (z0g U a3 U y0q (gY U (z1a (p:=0) (yq0) U D.at.y U y0y U (λh2 e4=>(gY U (fad U z7e (gY U (z6x U (e4 _ D.at.y) U y4n (gY U (z1a (p:=0) (pa0) U (D.at.ya 0) U z9h U (λh3 e5=>?_)))))))))))))))))))))))))));refine gY U (z1j U (e5 _ (D.at.ya 0)) z6w (gY U (z1s (cs:=[_,_]) (ev1 U) j6h (z0h U z0q) U ?_)));refine gY U (z1s (cs:=[_,_,_,_]) (ev3 U) u7o (z0h U (z0h U (z0h U z0q))) U ?_);refine gY U (v9t (V:=paV) (e:=((s2.ys.getD 0 yq0).pes.getD 0 pa0)) (f:=⟨⟨1,0⟩,true,0⟩) U U k0p U (pkf U (kpL [(73,_)] (.cons U .nil) (nn (cd U (λc1=>?_) (λc1=>?_))))));exact absurd (by rw[b3];rfl) c1;refine sk (tn (sr ?_));replace hG:=a6.ext ((((q1.z6 q2 q3 q4 q6 q7 q8).n1 q9).n1 M).z2 O J);refine cl (ev1 U) j3g (y2c _ j6g 0 0 _ hG prgC (by decide)) U ?_;rintro _ k0 ⟨⟨i3,rfl,e8⟩,q13⟩;have m2:=q13.size;replace I:=a0.ext ((((q1.z6 q2 q3 q4 q6 q7 q8).n1 q9).n1 M).z3 O J q13);refine cl (ev1 U) (mkC func14) (v8t _ j6g _ e8.sl I (by decide) rnC) U ?_;rintro _ k1 ⟨⟨s3,rfl,d1,f9⟩,q14⟩;have m3:=q14.size;have e0:=d1;refine mv U (xt U (xt U (al v9d U (λg5 k2 j2 b2 a1 m4=>?_))));refine z0i (vs:=[_,_,_,_]) U b2 v9f (λk3 b2 a2 m5=>?_) (h1:=(by first|(simp[Value.oneCell',S];done)|exact z1t.one _));refine asg U (kpL [(2,_),(5,_)] (.c2 U U) (nn (sr ?_)));replace hG:=a6.ext ((((q1.z6 q2 q3 q4 q6 q7 q8).n1 q9).n1 M).z6 O J q13 q14 a1 a2);refine cl (ev1 U) j3g (y2c _ j8i 0 0 _ hG prgD (by decide)) U ?_;rintro _ k4 ⟨⟨i4,rfl,e9⟩,q17⟩;have m6:=q17.size;replace I:=a0.ext (((((q1.z6 q2 q3 q4 q6 q7 q8).n1 q9).n1 M).z6 O J q13 q14 a1 a2).next q17);refine cl (ev1 U) (mkC func14) (v8n _ j8i _ e9.sl I (by decide) rnD) U ?_;rintro _ k5 ⟨⟨s4,rfl,_⟩,q18⟩;have m7:=q18.size;refine mv U (xt U (xt U (al v9d U (λg6 k6 j3 e1 a4 m8=>?_))));refine z0i (vs:=[_,_,_,_]) U e1 v9f (λk7 e1 a5 m9=>?_) (h1:=(by first|(simp[Value.oneCell',S];done)|exact z1t.one _));refine asg U (kpL [(2,_),(5,_),(7,_)] (.c3 U U U) (nn (sr ?_)));replace hG:=a6.ext ((((((((q1.z6 q2 q3 q4 q6 q7 q8).n1 q9).n1 M).z6 O J q13 q14 a1 a2).next q17).next q18).next a4).sp a5);refine cl (ev1 U) j3g (y2c _ j8m 0 0 _ hG prgE (by decide)) U ?_;rintro _ k8 ⟨⟨i5,rfl,f0⟩,q21⟩;have n7:=q21.size;replace I:=a0.ext (((((((((q1.z6 q2 q3 q4 q6 q7 q8).n1 q9).n1 M).z6 O J q13 q14 a1 a2).next q17).next q18).next a4).sp a5).next q21);refine cl (ev1 U) (mkC func14) (v8n _ j8m _ f0.sl I (by decide) rnE) U ?_;rintro _ k9 ⟨⟨s5,rfl,_⟩,q22⟩;have n8:=q22.size;refine mv U (xt U (xt U (al v9d U (λg8 l0 j4 e2 b0 n9=>?_))));refine z0i (vs:=[_,_,_,_]) U e2 v9f (λl1 e2 b1 o0=>?_) (h1:=(by first|(simp[Value.oneCell',S];done)|exact z1t.one _));refine asg U (kpL [(2,_),(5,_),(7,_),(9,_)] (.c4 U U U U) (nn (sr (cl z0f (mkC func10) (y5g _) U ?_))));rintro _ l2 ⟨⟨d7,d5,rfl,a8⟩,q25⟩;have o1:=q25.size;have b5:=a8;replace hG:=a6.ext (((((((((((((q1.z6 q2 q3 q4 q6 q7 q8).n1 q9).n1 M).z6 O J q13 q14 a1 a2).next q17).next q18).next a4).sp a5).next q21).next q22).next b0).sp b1).next q25);refine cl (ev1 U) j3g (y2c _ j8h 0 0 _ hG prgF (by decide)) U ?_;rintro _ l3 ⟨⟨i7,rfl,f1⟩,q26⟩;have o2:=q26.size;replace a8:=b5.ext q26;replace I:=a0.ext ((((((((((((((q1.z6 q2 q3 q4 q6 q7 q8).n1 q9).n1 M).z6 O J q13 q14 a1 a2).next q17).next q18).next a4).sp a5).next q21).next q22).next b0).sp b1).next q25).next q26);refine cl (ev2 U) (mkC func9) (j4u d7 d5 _ j8h _ a8 f1.sl I (by decide) rnF) U ?_;rintro _ l4 ⟨⟨s6,rfl,_⟩,q27⟩;have o3:=q27.size;refine mv U (xt U (xt U (xt U (al x2t U (λf5 l5 h6 b9 b6 o4=>?_)))));refine z0i (vs:=[_,_,_,_,_,_,_,_]) U b9 y1b (λl6 b9 b7 o5=>?_) (h1:=(by first|(simp[Value.oneCell',S];done)|exact z1t.one _));refine asg U (asg U (kpL [(2,_),(5,_),(7,_),(9,_),(11,_),(12,_)] (.c6 U U U U U U) (nn (sq ?_))));refine y7c (r:=0) (L':=[]) (((((((0=0)/\([49,46,48,32,102,114,111,110,116,32,110,101,119,10,49,46,49,32,102,114,111,110,116,10,99,114,111,115,115,32,49,46,48,32,49,46,49,32,45,49,10,104,101,108,100,32,49,46,49,32,49,46,48,10]=[49,46,48,32,102,114,111,110,116,32,110,101,119,10,49,46,49,32,102,114,111,110,116,10,99,114,111,115,115,32,49,46,48,32,49,46,49,32,45,49,10,104,101,108,100,32,49,46,49,32,49,46,48,10]))/\(12=12))/\(13=13))/\(12=12))/\(((2:Nat):Int)=2))) .nil ?_ ?_;refine mv U (eq' U (mv U (gs 98 U (λg6=>?_) (λZ=>absurd (by decide) Z))));refine gY U ?_;replace b2:=(((((b2.ext (q17.n2 q18 a4)).fr a5).ext (q21.n2 q22 b0)).fr b1).ext (q25.n3 q26 q27 b6)).fr b7;refine z0k U b2 x7e (gY U ?_);replace d1:=e0.ext ((((a1.z6 a2 q17 q18 a4 a5 q21).n1 q22).n1 b0).z6 b1 q25 q26 q27 b6 b7);replace hG:=a6.ext (((((((((((((((((q1.z6 q2 q3 q4 q6 q7 q8).n1 q9).n1 M).z6 O J q13 q14 a1 a2).next q17).next q18).next a4).sp a5).next q21).next q22).next b0).sp b1).next q25).next q26).next q27).next b6).sp b7);refine cl (ev1 U) (mkC func31) (v5h s3.fb msC _ _ d1.at.f hG (y6w z8a rnC) (congrArg St.fb f9) txC (by decide)) U ?_;rintro _ l7 ⟨rfl,f3⟩;have o6:=f3.size;refine gY U (u4o U U U (pkt U (mv U (gs 103 U (λg7=>?_) (λZ=>absurd (by rfl) Z)))));refine gY U (mv U (gY U (eq' U (pkt U (mv U (gs 107 U (λg8=>?_) (λZ=>absurd (by decide) Z)))))));refine gY U (mv U (gY U (eq' U (pkt U (mv U (gs 111 U (λg9=>?_) (λZ=>absurd (by decide) Z)))))));refine gY U (mv U (gY U (eq' U (pkt U (mv U (gs 115 U (λf5=>?_) (λZ=>absurd (by decide) Z)))))));exact gY U (mv U (gY U (eq' U (pkt U (asg U (z7q U .nil f3))))));intro l8 f4;have o7:=f4.size;refine tn (rt (r1 results11 U ?_));exact⟨_,rfl,congrArg Value.bool (decide_eq_true (by decide)),((((((((((((((((((q1.z6 q2 q3 q4 q6 q7 q8).n1 q9).n1 M).z6 O J q13 q14 a1 a2).next q17).next q18).next a4).sp a5).next q21).next q22).next b0).sp b1).next q25).next q26).next q27).next b6).sp b7).next f4)⟩
def cxV (c:Cx):Value:=.agg (cxL c).toArray
theorem eqCx:v1x prog 109 cxV:=by
 intro e f M O w;have J:∀D,(eqGuard D 109 M O (cxV e) (cxV f)).run prog w=.ok () w:=λD=>run_eqGuard_agg w D 109 M O _ _ (by kernel_rfl);have I:prog.stoodInHeld 109=false:=by kernel_rfl
 obtain⟨⟨y,n⟩,⟨y2,n2⟩,k⟩:=e;obtain⟨⟨y',n'⟩,⟨a0,Z⟩,k'⟩:=f;refine⟨J _,J _,?_,?_⟩;unfold cxV;simp[go_sem,I,underlying109];(repeat' split)<;>simp_all
 unfold cxV;simp[go_sem,I,underlying109];(repeat' split)<;>simp_all
theorem v5g (v1 v2:Value)(M l2:List Pa)(w0:World)(h1:Sl z1t w0 v1 M)(O:Sl z1t w0 v2 l2):Rets prog 49 #[v1,v2] w0 λr w'=>r=.bool (decide (M=l2))/\Fr [] w0 w':=by
 obtain⟨A1,k1,rfl,a7⟩:=id h1.form;obtain⟨A2,k2,rfl,a8⟩:=id O.form;have a4:=h1.len_le;unfold maxLen at a4;refine we [(0,.slice A1 M.length k1),(1,.slice A2 l2.length k2)] func49 U ntmps49 U (.c2 U U) ?_;have a2:=h1;have a3:=O;refine sr (asg U (nn (sq (sr (mv U (lnS U underlying54 (mv U (lnS U underlying54 (ne' U (nn (cd U (λc0=>?_) (λc0=>?_))))))))))));refine sr (asg U (nn (rt (tr (r1 results49 U ?_)))));exact⟨_,rfl,congrArg Value.bool (decide_eq_false (λe=>c0 (by rw[e]))).symm,(Fr.refl _ _)⟩;refine sk (tn (sq (sr (mv U (lnS U underlying54 (mv U (nn (bl ?_))))))));refine lpK (ι:=Nat) [(0,_),(1,_),(12,_)] (λi=>[(13,.int .i64 (i:Int))]) (λi w'=>Fr [] w0 w'/\i<=M.length/\∀j,j<i->M.getD j pa0=l2.getD j pa0) (λi=>M.length-i) 0 (.c4 U U U U) ⟨Fr.refl _ _,⟨Nat.zero_le _,λj h=>absurd h (by omega)⟩⟩ ?_;rintro i w1 ⟨q1,⟨hi,hz⟩⟩;have z1:=q1.size;refine kpC [(0,_),(1,_),(12,_),(13,_)] (.c4 U U U U) (sr (lt' U (nn (sq (cd U (λc1=>?_) (λc1=>?_))))));refine sk (tn (sq (bl (sr (mv U (asg U (nn (sq ?_))))))));replace h1:=a2.ext q1;replace O:=a3.ext q1;intro a h;have D:=Fr.refl [] w1;refine z2w (λwb w'=>Fr [] wb w') z2s ?_;intro w2 Z;have z2:=Z.size;replace h1:=h1.ext Z;replace O:=O.ext Z;replace D:=D.next Z;have a9:=Z.size;clear Z;have hC:Fr [] w2 w2:=Fr.refl _ _;have I:=h1;have J:=O;refine z0e 0 h U λa h=>z0e 1 h U λa h=>z1h (pa0) 2 h U h1 U z9h U ?_ (hp:=rfl);clear h a;intro a5 a0 a h;refine z2c 3 h wn U (λ_ hw=>a0 _ (I.ext hw)) z6w U λa h=>z0e 4 h U λa h=>z0e 5 h U λa h=>z1h (pa0) 6 h U O U z9h U ?_ (hp:=rfl);clear h a;intro a6 a1 a h;refine z2c 7 h wn U (λ_ hw=>a1 _ (J.ext hw)) z6w U λa h=>v2l (V:=paV) (e:=(M.getD i pa0)) (f:=(l2.getD i pa0)) 8 hC h wn U U k0p U U λa h=>z0r ?_;clear hC I J;have z2:=D.size;refine bk (h.sub (L':=[(0,_),(1,_),(12,_),(13,_),(24,_)]) (.c5 U U U U U)) (tn (cd U (λc2=>?_) (λc2=>?_)));refine sr (asg U (nn (rt (rb (tr (tr (rb (tr (r1 results49 U ?_)))))))));exact⟨_,rfl,congrArg Value.bool (decide_eq_false (λe=>c2 (by rw[e]))).symm,(q1.n1 D)⟩;refine sk (bn' (tn (rg (z0v U (wi6 (by omega)) (mv U (nl ?_))))));exact lpE (i+1) (.c4 U U U U) ⟨(q1.n1 D),⟨by omega,λj h=>by
  by_cases e:j=i;subst e;exact Classical.not_not.1 c2;exact hz j (by omega)⟩⟩ (by omega)
 obtain rfl:i=M.length:=by omega
 refine ex (te (te (xh (tn (sr (asg U (nn (rt (r1 results49 U ?_)))))))));exact⟨_,rfl,congrArg Value.bool (decide_eq_true (x5d pa0 (by omega) (λj hj=>hz j (by omega)))).symm,q1⟩
theorem u7s (v1 v2:Value)(M l2:List Cx)(w0:World)(h1:Sl z4v w0 v1 M)(O:Sl z4v w0 v2 l2):Rets prog 53 #[v1,v2] w0 λr w'=>r=.bool (decide (M=l2))/\Fr [] w0 w':=by
 obtain⟨A1,k1,rfl,a7⟩:=id h1.form;obtain⟨A2,k2,rfl,a8⟩:=id O.form;have a4:=h1.len_le;unfold maxLen at a4;refine we [(0,.slice A1 M.length k1),(1,.slice A2 l2.length k2)] func53 U ntmps53 U (.c2 U U) ?_;have a2:=h1;have a3:=O;refine sr (asg U (nn (sq (sr (mv U (lnS U underlying36 (mv U (lnS U underlying36 (ne' U (nn (cd U (λc0=>?_) (λc0=>?_))))))))))));refine sr (asg U (nn (rt (tr (r1 results53 U ?_)))));exact⟨_,rfl,congrArg Value.bool (decide_eq_false (λe=>c0 (by rw[e]))).symm,(Fr.refl _ _)⟩;refine sk (tn (sq (sr (mv U (lnS U underlying36 (mv U (nn (bl ?_))))))));refine lpK (ι:=Nat) [(0,_),(1,_),(12,_)] (λi=>[(13,.int .i64 (i:Int))]) (λi w'=>Fr [] w0 w'/\i<=M.length/\∀j,j<i->M.getD j cx0=l2.getD j cx0) (λi=>M.length-i) 0 (.c4 U U U U) ⟨Fr.refl _ _,⟨Nat.zero_le _,λj h=>absurd h (by omega)⟩⟩ ?_;rintro i w1 ⟨q1,⟨hi,hz⟩⟩;have z1:=q1.size;refine kpC [(0,_),(1,_),(12,_),(13,_)] (.c4 U U U U) (sr (lt' U (nn (sq (cd U (λc1=>?_) (λc1=>?_))))));refine sk (tn (sq (bl (sr (mv U (asg U (nn (sq ?_))))))));replace h1:=a2.ext q1;replace O:=a3.ext q1;intro a h;have D:=Fr.refl [] w1;refine z2w (λwb w'=>Fr [] wb w') z2s ?_;intro w2 Z;have z2:=Z.size;replace h1:=h1.ext Z;replace O:=O.ext Z;replace D:=D.next Z;have a9:=Z.size;clear Z;have hC:Fr [] w2 w2:=Fr.refl _ _;have I:=h1;have J:=O;refine z0e 0 h U λa h=>z0e 1 h U λa h=>z1h (cx0) 2 h U h1 U v8y U ?_ (hp:=rfl);clear h a;intro a5 a0 a h;refine z2c 3 h wn U (λ_ hw=>a0 _ (I.ext hw)) x6f U λa h=>z0e 4 h U λa h=>z0e 5 h U λa h=>z1h (cx0) 6 h U O U v8y U ?_ (hp:=rfl);clear h a;intro a6 a1 a h;refine z2c 7 h wn U (λ_ hw=>a1 _ (J.ext hw)) x6f U λa h=>v2l (V:=cxV) (e:=(M.getD i cx0)) (f:=(l2.getD i cx0)) 8 hC h wn U U eqCx U U λa h=>z0r ?_;clear hC I J;have z2:=D.size;refine bk (h.sub (L':=[(0,_),(1,_),(12,_),(13,_),(24,_)]) (.c5 U U U U U)) (tn (cd U (λc2=>?_) (λc2=>?_)));refine sr (asg U (nn (rt (rb (tr (tr (rb (tr (r1 results53 U ?_)))))))));exact⟨_,rfl,congrArg Value.bool (decide_eq_false (λe=>c2 (by rw[e]))).symm,(q1.n1 D)⟩;refine sk (bn' (tn (rg (z0v U (wi6 (by omega)) (mv U (nl ?_))))));exact lpE (i+1) (.c4 U U U U) ⟨(q1.n1 D),⟨by omega,λj h=>by
  by_cases e:j=i;subst e;exact Classical.not_not.1 c2;exact hz j (by omega)⟩⟩ (by omega)
 obtain rfl:i=M.length:=by omega
 refine ex (te (te (xh (tn (sr (asg U (nn (rt (r1 results53 U ?_)))))))));exact⟨_,rfl,congrArg Value.bool (decide_eq_true (x5d cx0 (by omega) (λj hj=>hz j (by omega)))).symm,q1⟩
theorem v2f (D I:LpQ)(w0:World)(h1:LpAt w0 D)(h2:LpAt w0 I)(hl:D.ths.length<=100000)(he:D.p=I.p):Rets prog 48 #[.agg #[.int .u8 D.b,.bool D.nw,.slice D.th.1 D.th.2.1 D.th.2.2,.slice D.pa.1 D.pa.2.1 D.pa.2.2],.agg #[.int .u8 I.b,.bool I.nw,.slice I.th.1 I.th.2.1 I.th.2.2,.slice I.pa.1 I.pa.2.1 I.pa.2.2]] w0 λr w'=>r=.bool true/\Fr [] w0 w':=by
 have e1:D.b=I.b:=congrArg Lp.b he;have e2:D.nw=I.nw:=congrArg Lp.nw he;have e3:D.ths=I.ths:=congrArg Lp.th he;have e4:D.pas=I.pas:=congrArg Lp.pa he;refine we [(0,.agg #[.int .u8 D.b,.bool D.nw,.slice D.th.1 D.th.2.1 D.th.2.2,.slice D.pa.1 D.pa.2.1 D.pa.2.2]),(1,.agg #[.int .u8 I.b,.bool I.nw,.slice I.th.1 I.th.2.1 I.th.2.2,.slice I.pa.1 I.pa.2.1 I.pa.2.2])] func48 U ntmps48 U (.c2 U U) ?_;have a0:=h1;have a1:=h2;refine sr (bx U (λg2 w1 a2 J q1 z1=>(bx U (λg3 w2 a3 M O z2=>(asg U (nn (sq ?_)))))));refine y7c (r:=4) (L':=[]) (((((D.b=I.b)/\( (D.nw=true↔I.nw=true)))/\D.ths=I.ths)/\D.pas=I.pas)) .nil ?_ ?_;refine fad U x4h ?_;replace J:=J.ext O;refine z0g U J U x1e (fad U x4h (z0g U M U x1e (eq' U (mv U (gs 10 U (λg0=>?_) (λhh=>absurd (by exact e1) hh))))));refine gY U (fad U x7o (gY U (z0g U J U na4 (gY U (fad U x7o (gY U (z0g U M U na4 (gY U (u8c U U underlying4 U (pkt U (mv U (gs 17 U (λg1=>?_) (λhh=>absurd (by exact(by rw[e2])) hh)))))))))))));refine gY U (fad U z7f (gY U (z0g U J U z6c (gY U (fad U z7f (gY U (z0g U M U z6c (gY U ?_))))))));replace h1:=a0.ext (q1.n1 O);replace h2:=a1.ext (q1.n1 O);refine cl (ev2 U) j7a (y5k _ _ D.ths I.ths _ h1.1 h2.1 hl) U ?_;rintro _ w3 ⟨rfl,Z⟩;have z3:=Z.size;refine pkt U (mv U (gs 24 U (λg2=>?_) (λhh=>absurd (by exact e3) hh)));refine gY U (fad U z8w (gY U ?_));replace J:=J.ext Z;refine z0g U J U y4n (gY U (fad U z8w (gY U ?_)));replace M:=M.ext Z;refine z0g U M U y4n (gY U ?_);replace h1:=a0.ext (q1.n2 O Z);replace h2:=a1.ext (q1.n2 O Z);refine cl (ev2 U) (mkC func49) (v5g _ _ D.pas I.pas _ h1.2 h2.2) U ?_;rintro _ w4 ⟨rfl,q4⟩;have z4:=q4.size;exact pkt U (asg U (z7q U .nil (Z.n1 q4)));intro w5 q5;have z5:=q5.size;refine tn (rt (r1 results48 U ?_));exact⟨_,rfl,congrArg Value.bool (decide_eq_true ⟨⟨⟨e1,by rw[e2]⟩,e3⟩,e4⟩),(q1.n2 O q5)⟩
theorem v5s (D I:YQ)(w0:World)(h1:Sl z1t w0 (slv D.pe) D.pes)(h2:Sl z1t w0 (slv I.pe) I.pes)(Z:D.p=I.p):Rets prog 54 #[.agg #[.bool D.inn,.int .i64 D.pl,.int .i64 D.ct,.bool D.nw,.slice D.pe.1 D.pe.2.1 D.pe.2.2],.agg #[.bool I.inn,.int .i64 I.pl,.int .i64 I.ct,.bool I.nw,.slice I.pe.1 I.pe.2.1 I.pe.2.2]] w0 λr w'=>r=.bool true/\Fr [] w0 w':=by
 have e1:D.inn=I.inn:=congrArg Yn.inn Z;have e2:D.pl=I.pl:=congrArg Yn.pl Z;have e3:D.ct=I.ct:=congrArg Yn.ct Z;have e4:D.nw=I.nw:=congrArg Yn.nw Z;have e5:D.pes=I.pes:=congrArg Yn.pe Z;refine we [(0,.agg #[.bool D.inn,.int .i64 D.pl,.int .i64 D.ct,.bool D.nw,.slice D.pe.1 D.pe.2.1 D.pe.2.2]),(1,.agg #[.bool I.inn,.int .i64 I.pl,.int .i64 I.ct,.bool I.nw,.slice I.pe.1 I.pe.2.1 I.pe.2.2])] func54 U ntmps54 U (.c2 U U) ?_;have a0:=h1;have a1:=h2;refine sr (bx U (λg2 w1 a2 J q1 z1=>(bx U (λg3 w2 a3 M q2 z2=>(asg U (nn (sq ?_)))))));refine y7c (r:=4) (L':=[]) (((((( (D.inn=true↔I.inn=true))/\(D.pl=I.pl))/\(D.ct=I.ct))/\( (D.nw=true↔I.nw=true)))/\D.pes=I.pes)) .nil ?_ ?_;refine fad U z9d ?_;replace J:=J.ext q2;refine z0g U J U na4 (fad U z9d (z0g U M U na4 (u8c U U underlying4 U (mv U (gs 10 U (λg0=>?_) (λO=>absurd (by exact(by rw[e1])) O))))));refine gY U (fad U z5w (gY U (z0g U J U na3 (gY U (fad U z5w (gY U (z0g U M U na3 (gY U (eq' U (pkt U (mv U (gs 17 U (λg1=>?_) (λO=>absurd (by exact e2) O)))))))))))));refine gY U (fad U z9v (gY U (z0g U J U na3 (gY U (fad U z9v (gY U (z0g U M U na3 (gY U (eq' U (pkt U (mv U (gs 24 U (λg2=>?_) (λO=>absurd (by exact e3) O)))))))))))));refine gY U (fad U x9v (gY U (z0g U J U na4 (gY U (fad U x9v (gY U (z0g U M U na4 (gY U (u8c U U underlying4 U (pkt U (mv U (gs 31 U (λg3=>?_) (λO=>absurd (by exact(by rw[e4])) O)))))))))))));refine gY U (fad U z7e (gY U (z0g U J U y4n (gY U (fad U z7e (gY U (z0g U M U y4n (gY U ?_))))))));replace h1:=a0.ext (q1.n1 q2);replace h2:=a1.ext (q1.n1 q2);refine cl (ev2 U) (mkC func49) (v5g _ _ D.pes I.pes _ h1 h2) U ?_;rintro _ w3 ⟨rfl,q3⟩;have z3:=q3.size;exact pkt U (asg U (z7q U .nil q3));intro w4 q4;have z4:=q4.size;refine tn (rt (r1 results54 U ?_));exact⟨_,rfl,congrArg Value.bool (decide_eq_true ⟨⟨⟨⟨by rw[e1],e2⟩,e3⟩,by rw[e4]⟩,e5⟩),(q1.n2 q2 q4)⟩
theorem u0x (v1 v2:Value)(I l2:List LpQ)(w0:World)(h1:Sl z4r w0 v1 I)(h2:Sl z4r w0 v2 l2)(M:LpsAt w0 I)(O:LpsAt w0 l2)(hl:I.length=l2.length)(he:∀i,i<I.length->(I.getD i lq0).p=(l2.getD i lq0).p/\(I.getD i lq0).ths.length<=100000):Rets prog 51 #[v1,v2,.func (.func 48) #[] #[]] w0 λr w'=>r=.bool true/\Fr [] w0 w':=by
 obtain⟨A1,k1,rfl,b2⟩:=id h1.form;obtain⟨A2,k2,rfl,b3⟩:=id h2.form;have a7:=h1.len_le;unfold maxLen at a7;refine we [(0,.slice A1 I.length k1),(1,.slice A2 l2.length k2),(2,.func (.func 48) #[] #[])] func51 U ntmps51 U (.c3 U U U) ?_;have a5:=h1;have a6:=h2;have a3:=M;have a4:=O;refine sr (asg U (nn (sq (sr (mv U (lnS U underlying46 (mv U (lnS U underlying46 (ne' U (nn (cd U (λc0=>?_) (λc0=>?_))))))))))));exfalso;omega;refine sk (tn (sq (sr (mv U (lnS U underlying46 (mv U (nn (bl ?_))))))));refine lpK (ι:=Nat) [(1,_),(2,_),(15,_),(16,_)] (λi=>[(17,.int .i64 (i:Int))]) (λi w'=>Fr [] w0 w'/\i<=I.length) (λi=>I.length-i) 0 (.c5 U U U U U) ⟨Fr.refl _ _,Nat.zero_le _⟩ ?_;rintro i w1 ⟨Z,hi⟩;have z1:=Z.size;refine kpC [(1,_),(2,_),(15,_),(16,_),(17,_)] (.c5 U U U U U) (sr (lt' U (nn (sq (cd U (λc1=>?_) (λc1=>?_))))));have a2:=he i (by omega);refine sk (tn (sq (bl (sr (mv U ?_)))));replace h1:=a5.ext Z;refine z1a (lq0) U h1 U x8h z1d (λa8 a0=>?_);refine z1j U (a0 _ h1) x8z (al v9i U (λg8 w2 b0 D q2 z2=>?_));refine asg U (z0i (vs:=[_,_,_,_]) U D u2v (λw3 D q3 z3=>?_) (h1:=(by first|(simp[Value.oneCell',S];done)|exact z4r.one _)));refine nn (sr (mv U (mv U ?_)));replace h2:=a6.ext (Z.z2 q2 q3);refine z1a (lq0) U h2 U x8h z1d (λa9 a1=>?_);refine z1j U (a1 _ h2) x8z (al v9i U (λg9 w4 b1 J q4 z4=>?_));refine z0i (vs:=[_,_,_,_]) U J u2v (λw5 J q5 z5=>?_) (h1:=(by first|(simp[Value.oneCell',S];done)|exact z4r.one _));refine nn (sr (mv U ?_));replace D:=(D.ext q4).fr q5;refine z0k U D x8z (z0k U J x8z ?_);replace M:=a3.ext (Z.z4 q2 q3 q4 q5);replace O:=a4.ext (Z.z4 q2 q3 q4 q5);refine clv (us:=[]) (ws:=[]) U (ev2 U) (mkC func48) (v2f (I.getD i lq0) (l2.getD i lq0) _ (M _ (z0t (by omega))) (O _ (z0t (by omega))) a2.2 a2.1) U (by intro g e;cases e) ?_;rintro _ w6 ⟨rfl,q6⟩;have z6:=q6.size;refine nt' U (kpL [(1,_),(2,_),(15,_),(16,_),(17,_),(30,_)] (.c6 U U U U U U) (nn (cd U (λc2=>?_) (λc2=>?_))));exact absurd c2 (by decide);refine sk (bn' (tn (rg (z0v U (wi6 (by omega)) (mv U (nl ?_))))));exact lpE (i+1) (.c5 U U U U U) ⟨(Z.z5 q2 q3 q4 q5 q6),by omega⟩ (by omega);obtain rfl:i=I.length:=by omega
 refine ex (te (te (xh (tn (sr (asg U (kpL [(6,_)] (.cons U .nil) (nn (rt (r1 results51 U ?_))))))))));exact⟨_,rfl,rfl,Z⟩
theorem u0d (v1 v2:Value)(I l2:List YQ)(w0:World)(h1:Sl z2v w0 v1 I)(h2:Sl z2v w0 v2 l2)(M:YsA w0 I)(O:YsA w0 l2)(hl:I.length=l2.length)(he:∀i,i<I.length->(I.getD i yq0).p=(l2.getD i yq0).p):Rets prog 56 #[v1,v2,.func (.func 54) #[] #[]] w0 λr w'=>r=.bool true/\Fr [] w0 w':=by
 obtain⟨A1,k1,rfl,b2⟩:=id h1.form;obtain⟨A2,k2,rfl,b3⟩:=id h2.form;have a6:=h1.len_le;unfold maxLen at a6;refine we [(0,.slice A1 I.length k1),(1,.slice A2 l2.length k2),(2,.func (.func 54) #[] #[])] func56 U ntmps56 U (.c3 U U U) ?_;have a4:=h1;have a5:=h2;have a2:=M;have a3:=O;refine sr (asg U (nn (sq (sr (mv U (lnS U underlying33 (mv U (lnS U underlying33 (ne' U (nn (cd U (λc0=>?_) (λc0=>?_))))))))))));exfalso;omega;refine sk (tn (sq (sr (mv U (lnS U underlying33 (mv U (nn (bl ?_))))))));refine lpK (ι:=Nat) [(1,_),(2,_),(15,_),(16,_)] (λi=>[(17,.int .i64 (i:Int))]) (λi w'=>Fr [] w0 w'/\i<=I.length) (λi=>I.length-i) 0 (.c5 U U U U U) ⟨Fr.refl _ _,Nat.zero_le _⟩ ?_;rintro i w1 ⟨Z,hi⟩;have z1:=Z.size;refine kpC [(1,_),(2,_),(15,_),(16,_),(17,_)] (.c5 U U U U U) (sr (lt' U (nn (sq (cd U (λc1=>?_) (λc1=>?_))))));have a7:=he i (by omega);refine sk (tn (sq (bl (sr (mv U ?_)))));replace h1:=a4.ext Z;refine z1a (yq0) U h1 U y0y z1d (λa8 a0=>?_);refine z1j U (a0 _ h1) z6u (al y1y U (λg8 w2 b0 D q2 z2=>?_));refine asg U (z0i (vs:=[_,_,_,_,_]) U D z7k (λw3 D q3 z3=>?_) (h1:=(by first|(simp[Value.oneCell',S];done)|exact z2v.one _)));refine nn (sr (mv U (mv U ?_)));replace h2:=a5.ext (Z.z2 q2 q3);refine z1a (yq0) U h2 U y0y z1d (λa9 a1=>?_);refine z1j U (a1 _ h2) z6u (al y1y U (λg9 w4 b1 J q4 z4=>?_));refine z0i (vs:=[_,_,_,_,_]) U J z7k (λw5 J q5 z5=>?_) (h1:=(by first|(simp[Value.oneCell',S];done)|exact z2v.one _));refine nn (sr (mv U ?_));replace D:=(D.ext q4).fr q5;refine z0k U D z6u (z0k U J z6u ?_);replace M:=a2.ext (Z.z4 q2 q3 q4 q5);replace O:=a3.ext (Z.z4 q2 q3 q4 q5);refine clv (us:=[]) (ws:=[]) U (ev2 U) (mkC func54) (v5s (I.getD i yq0) (l2.getD i yq0) _ (M i) (O i) a7) U (by intro g e;cases e) ?_;rintro _ w6 ⟨rfl,q6⟩;have z6:=q6.size;refine nt' U (kpL [(1,_),(2,_),(15,_),(16,_),(17,_),(30,_)] (.c6 U U U U U U) (nn (cd U (λc2=>?_) (λc2=>?_))));exact absurd c2 (by decide);refine sk (bn' (tn (rg (z0v U (wi6 (by omega)) (mv U (nl ?_))))));exact lpE (i+1) (.c5 U U U U U) ⟨(Z.z5 q2 q3 q4 q5 q6),by omega⟩ (by omega);obtain rfl:i=I.length:=by omega
 refine ex (te (te (xh (tn (sr (asg U (kpL [(6,_)] (.cons U .nil) (nn (rt (r1 results56 U ?_))))))))));exact⟨_,rfl,rfl,Z⟩
theorem j9e:z2b prog 121:=λ_=>by kernel_rfl
theorem v0l (v1 v2:Value)(D I:List LpQ)(O:Nat)(w0:World)(h1:Sl z4r w0 v1 D)(Z:Sl z4r w0 v2 I)(J:LpsAt w0 D)(M:LpsAt w0 I)(a0:Blk w0 O 121 [.func (.func 48) #[] #[]])(hl:D.length=I.length)(he:∀i,i<D.length->(D.getD i lq0).p=(I.getD i lq0).p/\(D.getD i lq0).ths.length<=100000):Rets prog 50 #[v1,v2,.pointer (some ⟨O,0,none⟩)] w0 λr w'=>r=.bool true/\Fr [] w0 w':=by
 obtain⟨A1,k1,rfl,a5⟩:=id h1.form;obtain⟨A2,k2,rfl,a6⟩:=id Z.form;refine we [(0,.slice A1 D.length k1),(1,.slice A2 I.length k2),(2,.pointer (some ⟨O,0,none⟩))] func50 U ntmps50 U (.c3 U U U) ?_;have a3:=h1;have a4:=Z;have a1:=J;have a2:=M;refine sr (asg U (nn (sr (mv U (mv U (z4a U a0 j9e (cl (ev3 U) (mkC func51) (u0x _ _ D I _ h1 Z J M hl he) U ?_)))))));rintro _ w1 ⟨rfl,q1⟩;have z1:=q1.size;refine asg U (kpL [(5,_)] (.cons U .nil) (nn (rt (r1 results50 U ?_))));exact⟨_,rfl,rfl,q1⟩
theorem u9g (v1 v2:Value)(D Z:List TQ)(w0:World)(h1:Sl z4d w0 v1 D)(h2:Sl z4d w0 v2 Z)(gf:Nat)(I:TabAt w0 D)(J:TabAt w0 Z)(O:Blk w0 gf 121 [.func (.func 48) #[] #[]])(hl:D.length=Z.length)(he:∀i,i<D.length->(D.getD i tq0).2.length=(Z.getD i tq0).2.length/\∀k,k<(D.getD i tq0).2.length->((D.getD i tq0).2.getD k lq0).p=((Z.getD i tq0).2.getD k lq0).p/\((D.getD i tq0).2.getD k lq0).ths.length<=100000):Rets prog 52 #[v1,v2,.func (.func 50) #[] #[.pointer (some ⟨gf,0,none⟩)]] w0 λr w'=>r=.bool true/\Fr [] w0 w':=by
 obtain⟨A1,k1,rfl,b1⟩:=id h1.form;obtain⟨A2,k2,rfl,b2⟩:=id h2.form;have a8:=h1.len_le;unfold maxLen at a8;refine we [(0,.slice A1 D.length k1),(1,.slice A2 Z.length k2),(2,.func (.func 50) #[] #[.pointer (some ⟨gf,0,none⟩)])] func52 U ntmps52 U (.c3 U U U) ?_;have a6:=h1;have a7:=h2;have a4:=I;have a5:=J;have a0:=O;refine sr (asg U (nn (sq (sr (mv U (lnS U underlying35 (mv U (lnS U underlying35 (ne' U (nn (cd U (λc0=>?_) (λc0=>?_))))))))))));exfalso;omega;refine sk (tn (sq (sr (mv U (lnS U underlying35 (mv U (nn (bl ?_))))))));refine lpK (ι:=Nat) [(1,_),(2,_),(15,_),(16,_)] (λi=>[(17,.int .i64 (i:Int))]) (λi w'=>Fr [] w0 w'/\i<=D.length) (λi=>D.length-i) 0 (.c5 U U U U U) ⟨Fr.refl _ _,Nat.zero_le _⟩ ?_;rintro i w1 ⟨M,hi⟩;have z1:=M.size;refine kpC [(1,_),(2,_),(15,_),(16,_),(17,_)] (.c5 U U U U U) (sr (lt' U (nn (sq (cd U (λc1=>?_) (λc1=>?_))))));have a3:=he i (by omega);refine sk (tn (sq (bl (sr (mv U ?_)))));replace h1:=a6.ext M;refine z1a (tq0) U h1 U y7d z1d (λa9 a1=>?_);refine z1g U (a1 _ h1) x4i (asg U (asg U (nn (sr (mv U (mv U ?_))))));replace h2:=a7.ext M;refine z1a (tq0) U h2 U y7d z1d (λb0 a2=>?_);refine z1g U (a2 _ h2) x4i (asg U (nn (sr (mv U (mv U (mv U ?_))))));replace I:=a4.ext M;replace J:=a5.ext M;replace O:=a0.ext M;refine clv (us:=[]) (ws:=[.pointer (some ⟨gf,0,none⟩)]) U (ev2 U) (mkC func50) (v0l _ _ (D.getD i tq0).2 (Z.getD i tq0).2 gf _ (I _ (z0t (d:=tq0) (i:=i) (by omega))).1 (J _ (z0t (d:=tq0) (i:=i) (by omega))).1 (I _ (z0t (d:=tq0) (i:=i) (by omega))).2 (J _ (z0t (d:=tq0) (i:=i) (by omega))).2 O a3.1 a3.2) U (by intro g e;cases e) ?_;rintro _ w2 ⟨rfl,q2⟩;have z2:=q2.size;refine nt' U (kpL [(1,_),(2,_),(15,_),(16,_),(17,_),(30,_)] (.c6 U U U U U U) (nn (cd U (λc2=>?_) (λc2=>?_))));exact absurd c2 (by decide);refine sk (bn' (tn (rg (z0v U (wi6 (by omega)) (mv U (nl ?_))))));exact lpE (i+1) (.c5 U U U U U) ⟨(M.n1 q2),by omega⟩ (by omega);obtain rfl:i=D.length:=by omega
 refine ex (te (te (xh (tn (sr (asg U (kpL [(6,_)] (.cons U .nil) (nn (rt (r1 results52 U ?_))))))))));exact⟨_,rfl,rfl,M⟩
theorem j9x:z1p prog 121 1:=λ_=>by kernel_rfl
theorem k0w (w:World):(zeroValue 121).run prog w=.ok .nilFunc w:=by kernel_rfl
theorem u0m {t1 t2:List TQ}(h:z1v t1=z1v t2):t1.length=t2.length/\∀y,(t1.getD y tq0).2.length=(t2.getD y tq0).2.length/\∀n,((t1.getD y tq0).2.getD n lq0).p=((t2.getD y tq0).2.getD n lq0).p:=by
 refine⟨?_,λy=>⟨?_,λn=>?_⟩⟩;rw[<-z6y,h,z6y];rw[<-z2p,h,z2p];rw[<-z7l,h,z7l]
theorem v9s (v1 v2:Value)(D I:List LId)(w0:World)(h1:Sl z1k w0 v1 D)(J:Sl z1k w0 v2 I)(hl:D.length<=100000)(M:D=I):Rets prog 46 #[v1,v2] w0 λr w'=>r=.bool true/\Fr [] w0 w':=
 Rets.mono (y5k v1 v2 D I w0 h1 J hl) (by rintro r w' ⟨rfl,hf⟩;exact⟨congrArg Value.bool (decide_eq_true M),hf⟩)
set_option maxHeartbeats 1000000 in
theorem v2e (D I:FbQ)(w0:World)(h1:FbAt w0 D)(h2:FbAt w0 I)(a9:∀y n,((D.ts.getD y tq0).2.getD n lq0).ths.length<=100000)(a7:D.hs.length<=100000)(a8:D.fs.length<=100000)(he:D.p=I.p):Rets prog 17 #[.agg #[.slice D.t.1 D.t.2.1 D.t.2.2,.slice D.c.1 D.c.2.1 D.c.2.2,.slice D.h.1 D.h.2.1 D.h.2.2,.slice D.f.1 D.f.2.1 D.f.2.2],.agg #[.slice I.t.1 I.t.2.1 I.t.2.2,.slice I.c.1 I.c.2.1 I.c.2.2,.slice I.h.1 I.h.2.1 I.h.2.2,.slice I.f.1 I.f.2.1 I.f.2.2]] w0 λr w'=>r=.bool true/\Fr [] w0 w':=by
 have ht:z1v D.ts=z1v I.ts:=congrArg Fb.t he;have a3:D.cs=I.cs:=congrArg Fb.c he;have a4:D.hs=I.hs:=congrArg Fb.h he;have a6:D.fs=I.fs:=congrArg Fb.f he;obtain⟨b0,a5⟩:=u0m ht;refine we [(0,.agg #[.slice D.t.1 D.t.2.1 D.t.2.2,.slice D.c.1 D.c.2.1 D.c.2.2,.slice D.h.1 D.h.2.1 D.h.2.2,.slice D.f.1 D.f.2.1 D.f.2.2]),(1,.agg #[.slice I.t.1 I.t.2.1 I.t.2.2,.slice I.c.1 I.c.2.1 I.c.2.2,.slice I.h.1 I.h.2.1 I.h.2.2,.slice I.f.1 I.f.2.1 I.f.2.2])] func17 U ntmps17 U (.c2 U U) ?_;have a0:=h1;have a1:=h2;refine sr (bx U (λg2 w1 b1 J q1 z1=>(bx U (λg3 w2 b2 M q2 z2=>(asg U (nn (sr (al k0w U (λg5 w3 b3 a2 O z3=>(z5s U U a2 U j9x (λw4 a2 Z z4=>(nn (sr (z6n z0f (ev1 U) U (asg U (nn (sq ?_)))))))))))))))));refine y7c (r:=4) (L':=[]) ((((True/\D.cs=I.cs)/\D.hs=I.hs)/\D.fs=I.fs)) .nil ?_ ?_;refine fad U z9m ?_;replace J:=(J.ext (q2.n1 O)).fr Z;refine z0g U J U x3c (fad U z9m ?_);replace M:=(M.ext O).fr Z;refine z0g U M U x3c (mv U ?_);replace h1:=a0.ext (q1.z3 q2 O Z);replace h2:=a1.ext (q1.z3 q2 O Z);refine cl (ev3 U) (mkC func52) (u9g _ _ D.ts I.ts _ h1.t h2.t g5 h1.tt h2.tt a2 b0 (λi _=>⟨(a5 i).1,λk _=>⟨(a5 i).2 k,a9 i k⟩⟩)) U ?_;rintro _ w5 ⟨rfl,q5⟩;have z5:=q5.size;refine mv U (gs 14 U (λg0=>?_) (λhh=>absurd (by trivial) hh));refine gY U (fad U y3n (gY U ?_));replace J:=J.ext q5;refine z0g U J U u5n (gY U (fad U y3n (gY U ?_)));replace M:=M.ext q5;refine z0g U M U u5n (gY U ?_);replace h1:=a0.ext (q1.z4 q2 O Z q5);replace h2:=a1.ext (q1.z4 q2 O Z q5);refine cl (ev2 U) (mkC func53) (u7s _ _ D.cs I.cs _ h1.c h2.c) U ?_;rintro _ w6 ⟨rfl,q6⟩;have z6:=q6.size;refine pkt U (mv U (gs 21 U (λg1=>?_) (λhh=>absurd (by exact a3) hh)));refine gY U (fad U y6g (gY U ?_));replace J:=J.ext q6;refine z0g U J U z6c (gY U (fad U y6g (gY U ?_)));replace M:=M.ext q6;refine z0g U M U z6c (gY U ?_);replace h1:=a0.ext (q1.z5 q2 O Z q5 q6);replace h2:=a1.ext (q1.z5 q2 O Z q5 q6);refine cl (ev2 U) j7a (y5k _ _ D.hs I.hs _ h1.h h2.h a7) U ?_;rintro _ w7 ⟨rfl,q7⟩;have z7:=q7.size;refine pkt U (mv U (gs 28 U (λg2=>?_) (λhh=>absurd (by exact a4) hh)));refine gY U (fad U z9u (gY U ?_));replace J:=J.ext q7;refine z0g U J U z6c (gY U (fad U z9u (gY U ?_)));replace M:=M.ext q7;refine z0g U M U z6c (gY U ?_);replace h1:=a0.ext (q1.z6 q2 O Z q5 q6 q7);replace h2:=a1.ext (q1.z6 q2 O Z q5 q6 q7);refine cl (ev2 U) j7a (y5k _ _ D.fs I.fs _ h1.f h2.f a8) U ?_;rintro _ w8 ⟨rfl,q8⟩;have z8:=q8.size;exact pkt U (asg U (z7q U .nil (q5.n3 q6 q7 q8)));intro w9 q9;have z9:=q9.size;refine tn (rt (r1 results17 U ?_));exact⟨_,rfl,by simp[a3,a4,a6],(q1.z4 q2 O Z q9)⟩
theorem u2t (v1 v2:Value)(D O:List IQ)(w0:World)(h1:Sl z6b w0 v1 D)(Z:Sl z6b w0 v2 O)(I:IqAt w0 D)(J:IqAt w0 O)(hl:D.length=O.length)(he:∀i,i<D.length->(D.getD i iq0).2=(O.getD i iq0).2/\(D.getD i iq0).2.length<=100000):Rets prog 104 #[v1,v2,.func (.func 46) #[] #[]] w0 λr w'=>r=.bool true/\Fr [] w0 w':=by
 obtain⟨A1,k1,rfl,b0⟩:=id h1.form;obtain⟨A2,k2,rfl,b1⟩:=id Z.form;have a7:=h1.len_le;unfold maxLen at a7;refine we [(0,.slice A1 D.length k1),(1,.slice A2 O.length k2),(2,.func (.func 46) #[] #[])] func104 U ntmps104 U (.c3 U U U) ?_;have a5:=h1;have a6:=Z;have a3:=I;have a4:=J;refine sr (asg U (nn (sq (sr (mv U (lnS U underlying30 (mv U (lnS U underlying30 (ne' U (nn (cd U (λc0=>?_) (λc0=>?_))))))))))));exfalso;omega;refine sk (tn (sq (sr (mv U (lnS U underlying30 (mv U (nn (bl ?_))))))));refine lpK (ι:=Nat) [(1,_),(2,_),(15,_),(16,_)] (λi=>[(17,.int .i64 (i:Int))]) (λi w'=>Fr [] w0 w'/\i<=D.length) (λi=>D.length-i) 0 (.c5 U U U U U) ⟨Fr.refl _ _,Nat.zero_le _⟩ ?_;rintro i w1 ⟨M,hi⟩;have z1:=M.size;refine kpC [(1,_),(2,_),(15,_),(16,_),(17,_)] (.c5 U U U U U) (sr (lt' U (nn (sq (cd U (λc1=>?_) (λc1=>?_))))));have a2:=he i (by omega);refine sk (tn (sq (bl (sr (mv U ?_)))));replace h1:=a5.ext M;refine z1a (iq0) U h1 U y4f z1d (λa8 a0=>?_);refine z1g U (a0 _ h1) z6c (asg U (asg U (nn (sr (mv U (mv U ?_))))));replace Z:=a6.ext M;refine z1a (iq0) U Z U y4f z1d (λa9 a1=>?_);refine z1g U (a1 _ Z) z6c (asg U (nn (sr (mv U (mv U (mv U ?_))))));replace I:=a3.ext M;replace J:=a4.ext M;refine clv (us:=[]) (ws:=[]) U (ev2 U) j7a (v9s _ _ (D.getD i iq0).2 (O.getD i iq0).2 _ (z1x I i) (z1x J i) a2.2 a2.1) U (by intro g e;cases e) ?_;rintro _ w2 ⟨rfl,q2⟩;have z2:=q2.size;refine nt' U (kpL [(1,_),(2,_),(15,_),(16,_),(17,_),(30,_)] (.c6 U U U U U U) (nn (cd U (λc2=>?_) (λc2=>?_))));exact absurd c2 (by decide);refine sk (bn' (tn (rg (z0v U (wi6 (by omega)) (mv U (nl ?_))))));exact lpE (i+1) (.c5 U U U U U) ⟨(M.n1 q2),by omega⟩ (by omega);obtain rfl:i=D.length:=by omega
 refine ex (te (te (xh (tn (sr (asg U (kpL [(6,_)] (.cons U .nil) (nn (rt (r1 results104 U ?_))))))))));exact⟨_,rfl,rfl,M⟩
theorem v0c {D I:List IQ}{J M:Nat}(h1:J<=D.length)(h2:M<=I.length)(O:(plB D).take J=trimB (plB D))(Z:(plB I).take M=trimB (plB I))(he:trimB (plB D)=trimB (plB I)):(D.take J).length=(I.take M).length/\∀i,((D.take J).getD i iq0).2=((I.take M).getD i iq0).2:=by
 have e:plB (D.take J)=plB (I.take M):=by
  show (D.take J).map Prod.snd=(I.take M).map Prod.snd;rw[List.map_take,List.map_take];exact O.trans (he.trans Z.symm)
 refine⟨by have:=congrArg List.length e;simpa only[plB,List.length_map] using this,λi=>?_⟩;rw[<-z3r,<-z3r,e]
set_option maxHeartbeats 1000000 in
theorem y8k (v1 v2:Value)(M l2:List IQ)(w0:World)(h1:Sl z6b w0 v1 M)(D:Sl z6b w0 v2 l2)(J:IqAt w0 M)(I:IqAt w0 l2)(b2:M.length<=40)(b3:l2.length<=40)(h4:y0b M)(he:trimB (plB M)=trimB (plB l2)):Rets prog 103 #[v1,v2] w0 λr w'=>r=.bool true/\Fr [] w0 w':=by
 obtain⟨A1,c1,rfl,b4,a8,a6⟩:=id h1;obtain⟨A2,c2,rfl,b5,a9,a7⟩:=id D;clear a6 a7;unfold maxLen at a8 a9;refine we [(0,.slice A1 M.length c1),(1,.slice A2 l2.length c2)] func103 U ntmps103 U (.c2 U U) ?_;have b0:=h1;have b1:=D;have b6:=J;have b7:=I;refine sr (asg U (nn (sq ?_)));intro a h;refine z0j none (λwb w'=>Fr [] wb w') z2s ?_;intro w1 q1;have z1:=q1.size;replace h1:=h1.ext q1;replace D:=D.ext q1;replace J:=J.ext q1;replace I:=I.ext q1;have hC:Fr [] w1 w1:=Fr.refl _ _;have a0:=h1;have a1:=D;have a4:=J;have a5:=I;refine z0e 0 h U λa h=>z0e 1 h U λa h=>z0e 4 h U λa h=>z0e 5 h U λa h=>z0d 2 U ?_;refine z0m h (z0a U z0f) (mkC func105) (y9v _ M _ h1 J) ?_;rintro _ w2 ⟨m1,rfl,O,a2,q2⟩ a h;have z2:=q2.size;replace D:=D.ext q2;replace I:=I.ext q2;replace hC:=hC.next q2;refine z0b ?_;refine v8s (p:=m1) 3 hC h wn U U y4f (by omega) (by omega) (by omega) U U λa h=>z0d 6 U ?_;refine z0m h (z0a U z0f) (mkC func105) (y9v _ l2 _ D I) ?_;rintro _ w3 ⟨m2,rfl,Z,a3,q3⟩ a h;have z3:=q3.size;replace h1:=h1.ext (q2.n1 q3);replace D:=D.ext q3;replace J:=J.ext (q2.n1 q3);replace I:=I.ext q3;replace hC:=hC.next q3;refine z0b ?_;refine v8s (p:=m2) 7 hC h wn U U y4f (by omega) (by omega) (by omega) U U λa h=>z0d 8 U ?_;refine z0m h (z0a U (z0a U (z0a U z0f))) (mkC func104) (u2t _ _ (M.take m1) (l2.take m2) _ (h1.take U O (by omega) (by unfold maxLen;omega) (λ_=>rfl)) (D.take U Z (by omega) (by unfold maxLen;omega) (λ_=>rfl)) (y6v U J) (y6v U I) (v0c O Z a2 a3 he).1 (λi _=>⟨(v0c O Z a2 a3 he).2 i,Nat.le_trans (z3n (λq q4=>h4 q (List.mem_of_mem_take q4)) i) (by omega)⟩)) ?_;rintro _ w4 ⟨rfl,q4⟩ a h;have z4:=q4.size;replace hC:=hC.next q4;refine z0b ?_;refine z0d 9 U ?_;refine z0s h U λa h=>?_;refine z0b ?_;refine z0r ?_;clear hC a0 a1 a4 a5;refine bk (h.sub (L':=[(4,_)]) (.cons U .nil)) (tn (rt (r1 results103 U ?_)));exact⟨_,rfl,rfl,(q1.n3 q2 q3 q4)⟩
theorem v2h (D I:BdQ)(w0:World)(h1:BdAt w0 D)(O:BdAt w0 I)(a5:D.fs.length<=40)(a6:I.fs.length<=40)(a7:y0b D.fs)(a2:D.bs.length<=40)(a3:I.bs.length<=40)(a4:y0b D.bs)(ef:trimB (plB D.fs)=trimB (plB I.fs))(eb:trimB (plB D.bs)=trimB (plB I.bs)):Rets prog 55 #[.agg #[.slice D.f.1 D.f.2.1 D.f.2.2,.slice D.b.1 D.b.2.1 D.b.2.2],.agg #[.slice I.f.1 I.f.2.1 I.f.2.2,.slice I.b.1 I.b.2.1 I.b.2.2]] w0 λr w'=>r=.bool true/\Fr [] w0 w':=by
 refine we [(0,.agg #[.slice D.f.1 D.f.2.1 D.f.2.2,.slice D.b.1 D.b.2.1 D.b.2.2]),(1,.agg #[.slice I.f.1 I.f.2.1 I.f.2.2,.slice I.b.1 I.b.2.1 I.b.2.2])] func55 U ntmps55 U (.c2 U U) ?_;have a0:=h1;have a1:=O;refine sr (bx U (λg2 w1 a8 J q1 z1=>(bx U (λg3 w2 a9 M q2 z2=>(asg U (nn (sr (asg U (nn (sq ?_))))))))));refine y7c (r:=4) (L':=[]) ((True\/False)) .nil ?_ ?_;refine mv U (fad U y3k ?_);replace J:=J.ext q2;refine z0g U J U x1w (fad U y3k (z0g U M U x1w ?_));replace h1:=a0.ext (q1.n1 q2);replace O:=a1.ext (q1.n1 q2);refine clv (us:=[]) (ws:=[]) U (ev2 U) (mkC func103) (y8k _ _ D.fs I.fs _ h1.f O.f h1.fi O.fi a5 a6 a7 ef) U (by intro g e;cases e) ?_;rintro _ w3 ⟨rfl,Z⟩;have z3:=Z.size;refine mv U (gs 12 U (λg0=>?_) (λg0=>?_));refine gY U (mv U (gY U (fad U y0o (gY U ?_))));replace J:=J.ext Z;refine z0g U J U x1w (gY U (fad U y0o (gY U ?_)));replace M:=M.ext Z;refine z0g U M U x1w (gY U ?_);replace h1:=a0.ext (q1.n2 q2 Z);replace O:=a1.ext (q1.n2 q2 Z);refine clv (us:=[]) (ws:=[]) U (ev2 U) (mkC func103) (y8k _ _ D.bs I.bs _ h1.b O.b h1.bi O.bi a2 a3 a4 eb) U (by intro g e;cases e) ?_;rintro _ w4 ⟨rfl,q4⟩;have z4:=q4.size;exact pkt U (asg U (z7q U .nil (Z.n1 q4)));exact gN U (gN U (gN U (gN U (gN U (gN U (pkf U (asg U (z7q U .nil Z))))))));intro w5 q5;have z5:=q5.size;refine tn (rt (r1 results55 U ?_));exact⟨_,rfl,rfl,(q1.n2 q2 q5)⟩
theorem StSz.ths {s:StQ}(h:StSz s)(y n:Nat):((s.fb.ts.getD y tq0).2.getD n lq0).ths.length<=100000:=by
 by_cases hy:y<s.fb.ts.length;by_cases hn:n<(s.fb.ts.getD y tq0).2.length;exact((h.tb _ (z0t (d:=tq0) hy)).2 _ (z0t (d:=lq0) hn)).1;rw[List.getD,List.getElem?_eq_none (by omega)];exact Nat.zero_le _;rw[show s.fb.ts.getD y tq0=tq0 by rw[List.getD,List.getElem?_eq_none (by omega)];rfl];exact Nat.zero_le _
theorem sz1:z1p prog 1 1:=λ_=>by kernel_rfl
theorem sz2:z1p prog 2 1:=λ_=>by kernel_rfl
set_option maxHeartbeats 1000000 in
theorem u2s (D I:StQ)(w0:World)(h1:StAt w0 D)(Z:StAt w0 I)(sz1:StSz D)(sz2:StSz I)(er:D.rk=I.rk)(ef:trimB (plB D.q.fs)=trimB (plB I.q.fs))(eb:trimB (plB D.q.bs)=trimB (plB I.q.bs))(ey:D.ys.map YQ.p=I.ys.map YQ.p)(a2:D.fb.p=I.fb.p):Rets prog 20 #[.agg #[.int .i64 D.rk,.slice D.q.f.1 D.q.f.2.1 D.q.f.2.2,.slice D.q.b.1 D.q.b.2.1 D.q.b.2.2,.slice D.yv.1 D.yv.2.1 D.yv.2.2,.slice D.fb.t.1 D.fb.t.2.1 D.fb.t.2.2,.slice D.fb.c.1 D.fb.c.2.1 D.fb.c.2.2,.slice D.fb.h.1 D.fb.h.2.1 D.fb.h.2.2,.slice D.fb.f.1 D.fb.f.2.1 D.fb.f.2.2],.agg #[.int .i64 I.rk,.slice I.q.f.1 I.q.f.2.1 I.q.f.2.2,.slice I.q.b.1 I.q.b.2.1 I.q.b.2.2,.slice I.yv.1 I.yv.2.1 I.yv.2.2,.slice I.fb.t.1 I.fb.t.2.1 I.fb.t.2.2,.slice I.fb.c.1 I.fb.c.2.1 I.fb.c.2.2,.slice I.fb.h.1 I.fb.h.2.1 I.fb.h.2.2,.slice I.fb.f.1 I.fb.f.2.1 I.fb.f.2.2]] w0 λr w'=>r=.bool true/\Fr [] w0 w':=by
 have a5:D.ys.length=I.ys.length:=by have:=congrArg List.length ey;simpa only[List.length_map] using this
 have a4:∀i,i<D.ys.length->(D.ys.getD i yq0).p=(I.ys.getD i yq0).p:=λi hi=>by
  have:=congrArg (λl=>l.getD i yn0) ey;simp only[List.getD,List.getElem?_map]at this;rw[List.getElem?_eq_getElem hi,List.getElem?_eq_getElem (by omega)]at this;rw[List.getD,List.getD,List.getElem?_eq_getElem hi,List.getElem?_eq_getElem (by omega)];exact this
 have a3:∀y n,((D.fb.ts.getD y tq0).2.getD n lq0).ths.length<=100000:=sz1.ths;refine we [(0,.agg #[.int .i64 D.rk,.slice D.q.f.1 D.q.f.2.1 D.q.f.2.2,.slice D.q.b.1 D.q.b.2.1 D.q.b.2.2,.slice D.yv.1 D.yv.2.1 D.yv.2.2,.slice D.fb.t.1 D.fb.t.2.1 D.fb.t.2.2,.slice D.fb.c.1 D.fb.c.2.1 D.fb.c.2.2,.slice D.fb.h.1 D.fb.h.2.1 D.fb.h.2.2,.slice D.fb.f.1 D.fb.f.2.1 D.fb.f.2.2]),(1,.agg #[.int .i64 I.rk,.slice I.q.f.1 I.q.f.2.1 I.q.f.2.2,.slice I.q.b.1 I.q.b.2.1 I.q.b.2.2,.slice I.yv.1 I.yv.2.1 I.yv.2.2,.slice I.fb.t.1 I.fb.t.2.1 I.fb.t.2.2,.slice I.fb.c.1 I.fb.c.2.1 I.fb.c.2.2,.slice I.fb.h.1 I.fb.h.2.1 I.fb.h.2.2,.slice I.fb.f.1 I.fb.f.2.1 I.fb.f.2.2])] func20 U ntmps20 U (.c2 U U) ?_;have a0:=h1;have a1:=Z;refine sr (bx U (λg2 w1 a6 J q1 z1=>(bx U (λg3 w2 a7 M q2 z2=>(asg U (nn (sr (asg U (nn (sq ?_))))))))));refine y7c (r:=4) (L':=[]) (((((D.rk=I.rk)\/False)\/False)\/False)) .nil ?_ ?_;refine fad U y3u ?_;replace J:=J.ext q2;refine z0g U J U na3 (fad U y3u (z0g U M U na3 (eq' U (mv U (gs 11 U (λg0=>?_) (λg0=>?_))))));refine gY U (fad U y4a (gY U (z1q (vs:=[_,_]) U J z5x U (gY U (fad U y4a (gY U (z1q (vs:=[_,_]) U M z5x U (gY U ?_))))))));replace h1:=a0.ext (q1.n1 q2);replace Z:=a1.ext (q1.n1 q2);refine cl (ev2 U) (mkC func55) (v2h D.q I.q _ h1.b Z.b sz1.bf sz2.bf sz1.f4 sz1.bb sz2.bb sz1.b4 ef eb) U ?_;rintro _ w3 ⟨rfl,O⟩;have z3:=O.size;refine pkt U (mv U (gs 18 U (λg1=>?_) (λg1=>?_)));refine gY U (fad U z8v (gY U ?_));replace J:=J.ext O;refine z0g U J U y0q (gY U (fad U z8v (gY U ?_)));replace M:=M.ext O;refine z0g U M U y0q (gY U (mv U (gY U ?_)));replace h1:=a0.ext (q1.n2 q2 O);replace Z:=a1.ext (q1.n2 q2 O);refine cl (ev3 U) (mkC func56) (u0d _ _ D.ys I.ys _ h1.y Z.y h1.ya Z.ya a5 a4) U ?_;rintro _ w4 ⟨rfl,q4⟩;have z4:=q4.size;refine pkt U (mv U (gs 26 U (λg2=>?_) (λg2=>?_)));refine gY U (fad U z9k (gY U ?_));replace J:=J.ext q4;refine z1q (vs:=[_,_,_,_]) U J x7e U (gY U (fad U z9k (gY U ?_)));replace M:=M.ext q4;refine z1q (vs:=[_,_,_,_]) U M x7e U (gY U ?_);replace h1:=a0.ext (q1.n3 q2 O q4);replace Z:=a1.ext (q1.n3 q2 O q4);refine cl (ev2 U) (mkC func17) (v2e D.fb I.fb _ h1.f Z.f a3 sz1.hs sz1.fl a2) U ?_;rintro _ w5 ⟨rfl,q5⟩;have z5:=q5.size;exact pkt U (asg U (z7q U .nil (O.n2 q4 q5)));exact gN U (gN U (gN U (gN U (gN U (pkf U (asg U (z7q U .nil (O.n1 q4))))))));refine gN U (gN U (gN U (gN U (gN U (gN U (pkf U (mv U (gN U (gN U (gN U (gN U ?_)))))))))));exact gN U (pkf U (asg U (z7q U .nil O)));refine gN U (gN U (gN U (gN U (gN U (pkf U (mv U (gN U (gN U (gN U (gN U (gN U ?_)))))))))));exact gN U (pkf U (mv U (gN U (gN U (gN U (gN U (gN U (pkf U (asg U (z7q U .nil (Fr.refl _ _)))))))))));intro w6 q6;have z6:=q6.size;refine tn (rt (r1 results20 U ?_));exact⟨_,rfl,by simp[er],(q1.n2 q2 q6)⟩
end Go.Proofs.YtpgdchkdlgkmgaaGreatDoor
