/- Texts of the proof, joined. -/
import Derived.Maps.RangeRun
import Derived.Test.YtkafbfjmcigaiaaGreatDoorHB3
set_option linter.unusedVariables false
set_option linter.unusedSimpArgs false
set_option maxHeartbeats 4000000
namespace Go.G08
open Go.Lw Go.G21
def btL (fr to:Int):Int:=if fr<to then fr else to
def btH (fr to:Int):Int:=if fr<to then to else fr
def btD (fr to:Int):Int:=if fr<to then 1 else 0
def btA (l:List Hd)(fr to:Int)(k:Nat):List Pa:=((l.take k).filter λh=>decide (btL fr to<h.s/\h.s<btH fr to)).map λh=>⟨h.id,decide (h.b=1),btD fr to⟩
theorem q0n {l:List Hd}{fr to:Int}{k:Nat}(D:k<l.length)(h:btL fr to<(l.getD k hd0).s/\(l.getD k hd0).s<btH fr to):btA l fr to (k+1)=btA l fr to k++[⟨(l.getD k hd0).id,decide ((l.getD k hd0).b=1),btD fr to⟩]:=by
 unfold btA;rw[z5p hd0 D,List.filter_append,l31,l61,if_pos (decide_eq_true h)];rfl
theorem k9y {l:List Hd}{fr to:Int}{k:Nat}(D:k<l.length)(h:¬(btL fr to<(l.getD k hd0).s/\(l.getD k hd0).s<btH fr to)):btA l fr to (k+1)=btA l fr to k:=by
 unfold btA;rw[z5p hd0 D,List.filter_append,l61,if_neg (by simpa using h)];simp
theorem x8t (l:List Hd)(fr to:Int)(k:Nat):(btA l fr to k).length<=l.length:=by
 unfold btA;rw[l18];refine l42 (List.length_filter_le _ _) ?_;rw[l27];omega
theorem k4r {l:List Hd}{fr to:Int}(h:¬btD fr to=0):btw l fr to=btA l fr to l.length:=by
 unfold btD at h;by_cases c:fr<to;unfold btw btA btL btH btD;rw[l40];simp only[if_pos c];rw[if_neg c]at h;exact absurd U h
theorem k3c {l:List Hd}{fr to:Int}(h:btD fr to=0):btw l fr to=(btA l fr to l.length).reverse:=by
 unfold btD at h;by_cases c:fr<to;rw[if_pos c]at h;exact absurd h dd;unfold btw btA btL btH btD;rw[l40];simp only[if_neg c]
theorem v7s (l:List Hd)(fr to:Int):(btw l fr to).length<=l.length:=by
 by_cases h:btD fr to=0;rw[k3c h,l111];exact x8t l fr to _;rw[k4r h];exact x8t l fr to _
end Go.G08
namespace Go.Proofs.YtkafbfjmcigaiaaGreatDoor
open Go.Lw Go.G21 Go.G08 _root_.Go.Proofs.Tryz
theorem k3y:BuildAt prog 172 [(0,2),(2,1),(3,1)] [(.int .u8 0),(.int .i64 0),(.bool false),(.int .u8 0)]:=BuildAt.struct underlying172 (λ_=>kr)<|λ_=>kr
theorem x9v:z1e prog 143 0 0:=λ_ _=>kr
theorem j8t:z1e prog 143 1 2:=λ_ _=>kr
theorem j3d (v:Value)(l:List Hd)(fr to:Int)(w0:World)(hs:Sl z4s w0 v l)(hl:l.length<=1000):Rets prog 145 #[v,.int .i64 fr,.int .i64 to] w0 λr w'=>(∃g,r=.slice (saa g) (btw l fr to).length (btw l fr to).length/\w0.heap.size<=g/\Lw.Own z2k 172 w0.heap.size w' r (btw l fr to))/\Fr [] w0 w':=by
 obtain⟨A,c,rfl,b5,hM,hA⟩:=id hs;clear hA;unfold maxLen at hM;refine wf func145 U ?_;have a6:=hs;refine sr<|asg U<|nn<|sr<|mv U<|mv U<|asg U<|asg U<|asg U<|nn<|jn (ι:=Unit) (ll1 0) (λ_j=>[(7,.int .i64<|btL fr to),(8,.int .i64<|btH fr to),(9,.int .u8<|btD fr to)]) (λ_j w'=>Fr [] w0 w') U ?_ ?_;refine sr<|mv U<|mv U<|gt' U<|nn<|cd U (λO=>?_)<|λO=>?_;exact rg<|mv U<|mv U<|asg U<|asg U<|asg U<|nl<|jE (()) (.c4 U (by first|(rw[show btL fr to=_ from if_pos O];rfl)|(rw[show btL fr to=_ from if_neg O];rfl)) (by first|(rw[show btH fr to=_ from if_pos O];rfl)|(rw[show btH fr to=_ from if_neg O];rfl)) (by first|(rw[show btD fr to=_ from if_pos O];rfl)|(rw[show btD fr to=_ from if_neg O];rfl)))<|l12 _ _;exact sk<|jE (()) (.c4 U (by first|(rw[show btL fr to=_ from if_pos O];rfl)|(rw[show btL fr to=_ from if_neg O];rfl)) (by first|(rw[show btH fr to=_ from if_pos O];rfl)|(rw[show btH fr to=_ from if_neg O];rfl)) (by first|(rw[show btD fr to=_ from if_pos O];rfl)|(rw[show btD fr to=_ from if_neg O];rfl)))<|l12 _ _;rintro _j w1 q1;have z1:=q1.size;refine kpC (ll4 0 7 8 9) U<|sr<|asg U<|nn<|sq<|sr<|mv U<|lnS U<|mv U<|nn<|bl<|lpK (ι:=Nat×Value) (ll5 7 8 9 20 21) (λp=>[(22,.int .i64 (p.1:Int)),(10,p.2)]) (λp w'=>Fr [] w0 w'/\p.1<=l.length/\Lw.Own z2k 172 w0.heap.size w' p.2 (btA l fr to p.1)) (λp=>l.length-p.1) (0,_) U ⟨q1,⟨l16 _,Own.nil _⟩⟩ ?_;rintro⟨k,vP⟩ w2 ⟨q2,⟨hk,I⟩⟩;simp only at hk I;have z2:=q2.size;refine kpC [(7,_),(8,_),(9,_),(20,_),(21,_),(22,.int .i64 (k:Int)),(10,vP)] U ?_;have b3:=x8t l fr to k;refine sr<|lt' U<|nn<|sq<|cd U (λc1=>?_)<|λc1=>?_;refine sk<|tn<|sq<|bl<|sr ?_;have hs:=a6.ext q2;refine z1a (hd0) U hs U z4e z1j<|λa7 a0=>?_;refine z1q U (a0 _ hs) z6e<|al u4p U<|λb1 w3 a8 D q3 z3=>?_;refine z0j (vs:=[_,_,_,_,_]) U D z9e (λw4 D q4 z4=>?_) (h1:=(by first|(simp[Value.oneCell',S];done)|exact z4s.one _));refine nn<|sq<|rbo (r:=35) (L':=ll8 7 8 9 10 12 20 21 22) ((((btL fr to)<(l.getD k hd0).s)/\((l.getD k hd0).s<(btH fr to)))) U ?_ ?_;refine fad U x2l<|z0i U D U na3<|mv U<|gt' U<|mv U<|gs 30 U (λg0=>?_)<|λg0=>?_;exact gY U<|fad U x2l<|gY U<|z0i U D U na3<|gY U<|mv U<|gY U<|lt' U<|pkt U<|rbe U<|U;exact gN U<|gN U<|gN U<|gN U<|pkf U<|rbe U<|U;refine tn<|cd U (λc2=>?_)<|λc2=>?_;refine rg<|mv U<|fad U x9v<|z1u (vs:=[_,_]) U D z2y U<|fad U j8t<|y8g U z7e U<|z0i U D U x9t<|eq' U<|mv U<|z1r (cs:=[_,_,_,_]) (ev3 U) k3y (z0g U<|z0g U<|z0g U z0r) U ?_;refine z1i ([(⟨(l.getD k hd0).id,decide ((l.getD k hd0).b=1),btD fr to⟩:Pa)]) (ev1 U) U z5g<|λb2 w5 a9 a1 q5 z5=>?_;have I:=((I.ext q3).fr q4 (by first|exact z9x I oo|simp[z0v]<;>omega)).ext q5;have Z:=I;refine z2l U I a1.sl z5g<|λb6 w6 I q6 a5=>?_;have z6:=q6.size;exact asg U<|kpL (ll7 7 8 9 10 20 21 22) U<|nl<|bn'<|tn<|rg<|ad6 U<|mv U<|nl<|lpE ((k+1,_)) U ⟨((q2.z3 q3 q4 q5).step q6<|λk hk a3=>absurd (Z.blk k hk).1 oo),⟨sm,by rw[q0n oo c2];exact I⟩⟩ sm;refine sk<|bn'<|tn<|rg<|ad6 U<|mv U<|nl ?_;have I:=(I.ext q3).fr q4 (by first|exact z9x I oo|simp[z0v]<;>omega);exact lpE ((k+1,_)) U ⟨(q2.z2 q3 q4),⟨sm,by rw[k9y oo c2];exact I⟩⟩ sm;obtain rfl:k=l.length:=by omega
 have b4:=v7s l fr to;refine ex<|te<|te<|xh<|tn<|jn (ι:=Unit) (ll1 10) (λ_j=>[]) (λ_j w'=>Fr [] w0 w'/\Lw.Own z2k 172 w0.heap.size w' vP (btw l fr to)) U ?_ ?_;refine sr<|mv U<|eq' U<|kpL (ll2 10 49) U<|nn<|cd U (λc3=>?_)<|λc3=>?_;refine rg<|mv U ?_;have a4:=I;refine cl (ev1 U) cO (x5d w0.heap.size _ _ _ I oo) ?_;rintro _ w7 ⟨I,q7⟩;have z7:=q7.size;exact nl<|jE (()) U ⟨(q2.step q7<|λk hk a3=>absurd (a4.blk k hk).1 oo),(by rw[k3c c3];exact I)⟩;exact sk<|jE (()) U ⟨q2,(by rw[k4r c3];exact I)⟩;rintro _j w8 ⟨q8,I⟩;have z8:=q8.size;refine kpC (ll1 10) U<|sr<|mv U<|cl (ev1 U) cO (y7s _ (btw l fr to) _ I.sl oo) ?_;rintro _ w9 ⟨a2,rfl,b0,hX,q9⟩;have z9:=q9.size;exact asg U<|nn<|rt<|r1 U ⟨_,rfl,⟨a2,rfl,oo,hX.low oo⟩,(q8.n1 q9)⟩
end Go.Proofs.YtkafbfjmcigaiaaGreatDoor
namespace Go.G08
open Go.Lw Go.G21
theorem Own.neO {α β:Type}{E:Enc α}{O:Enc β}{T T' b b':Nat}{w:World}{v I:Value}{ys:List α}{zs:List β}(h:Lw.Own E T b w v ys)(Z:Lw.Own O T' b' w I zs)(hT:T≠T'):∀k∈z0v v,k∉z0v I:=by
 intro k D;rcases h with ⟨rfl,rfl⟩|⟨g,cap,cur,rfl,_,hg,_⟩
 cases D;obtain rfl:k=g:=by simpa[z0v] using D
 exact Z.neB hg<|l51 hT
theorem u4x (B:Bd)(r d:Int)(i:Nat):x2d B r d (i+1)=x2d B r d i++v5x B r d i:=by unfold x2d;rw[l66,l38];simp
theorem y9n (B:Bd)(r d p:Int)(i:Nat):z7u B r d p (i+1)=z7u B r d p i++y3d B r d p i:=by unfold z7u;rw[l66,l38];simp
theorem u2b {α β:Type}(f:α->List β){l:List α}{j:Nat}(d:α)(h:j<l.length):(l.take<|j+1).flatMap f=(l.take j).flatMap f++f (l.getD j d):=by
 rw[z5p d h,l38];simp
theorem v7n {B:Bd}(h:BdOk B)(k:Nat):(B.b.getD k []).length<=4:=by
 have:=y8l h 1<|(k:Int)+1;unfold Bd.at atB at this;rwa [if_neg dd,show ((k:Int)+1-1).toNat=k by omega]at this
theorem v0o {B:Bd}(h:BdOk B)(b n:Int):(B.atC b n).length<=4:=by
 unfold Bd.atC;split;exact y8l h b n;simp
theorem flat_len {α β:Type}(f:α->List β)(m:Nat)(hf:∀x,(f x).length<=m):∀l:List α,(l.flatMap f).length<=m*l.length
 | []=>by simp
 | x::l=>by have:=flat_len f m hf l;have:=hf x;rw[l37,l13,l34];rw[Nat.mul_succ];omega
theorem u6v {B:Bd}(h:BdOk B)(r d:Int)(k:Nat):(v5x B r d k).length<=16:=by
 unfold v5x;have D:=flat_len (λx=>(B.atC 0<|y0d r d k).reverse.map<|x9c d x) 4 (λx=>by rw[l18,l111];exact v0o h _ _)<|B.b.getD k [];have:=v7n h k;omega
theorem v2g {B:Bd}(h:BdOk B)(r d:Int)(i:Nat):(x2d B r d i).length<=16*i:=by
 have:=flat_len (v5x B r d) 16 (u6v h r d)<|List.range i;rw[List.length_range]at this;exact this
theorem u4a {B:Bd}(h:BdOk B)(r d p:Int)(k:Nat):(y3d B r d p k).length<=4:=by
 unfold y3d;split;simp;rw[l18];exact v7n h k
theorem x4v {B:Bd}(h:BdOk B)(r d p:Int)(i:Nat):(z7u B r d p i).length<=4*i:=by
 have:=flat_len (y3d B r d p) 4 (u4a h r d p)<|List.range i;rw[List.length_range]at this;exact this
theorem x5g {B:Bd}(h:BdOk B)(r d p:Int):(z4q B r d p).length<=4*B.b.length:=by
 have:=x4v h r d p B.b.length;unfold z4q;split;rw[l111];exact this;exact this
theorem y3h {B:Bd}(h:BdOk B)(r d:Int):(z2g B r d).length<=16*B.b.length:=by
 have:=v2g h r d B.b.length;unfold z2g;split;rw[l111];exact this;exact this
end Go.G08
namespace Go.Proofs.YtkafbfjmcigaiaaGreatDoor
open Go.Lw Go.G21 Go.G08 _root_.Go.Proofs.Tryz
theorem u9x (q:BdQ)(r d pl:Int)(w0:World)(Z:BdAt w0 q)(hv:BdOk q.p)(hT:StT w0)(hr:-4<=r/\r<=4)(hd:d=0\/d=1)(d7:-4<=r+stI d/\r+stI d<=4)(hp:¬Int.tmod pl 2=0)(d5:-9223372036854775808<=pl/\pl<=9223372036854775807):Rets prog 142 #[bvv q,.int .i64 r,.int .u8 d,.int .i64 pl] w0 λv w'=>(∃g,v=.tuple #[.slice (saa g) (z4q q.p r d pl).length (z4q q.p r d pl).length,.int .i64 0]/\w0.heap.size<=g/\Lw.Own z2k 172 w0.heap.size w' (.slice (saa g) (z4q q.p r d pl).length (z4q q.p r d pl).length) (z4q q.p r d pl))/\Fr [] w0 w':=by
 obtain⟨⟨hf,hb⟩,h4,b1⟩:=z3f hv;have b3:=x5g hv r d pl;rw[l18]at b3;refine wf func142 U ?_;have I:=Z;have a2:=hT;refine sr<|bx U<|λg4 w1 d4 a0 q1 z1=>(asg U<|asg U<|nn<|sq<|sr<|z0l U a0 z4y<|mv U<|mv U ?_);have Z:=I.ext q1;have hT:=a2.ext q1;refine cl (ev3 U) cO (x6r q _ _ _ Z hv hT oo hd oo) ?_;rintro _ w2 ⟨rfl,q2⟩;have z2:=q2.size;refine asg U<|nn<|sr<|mv U<|ne' U<|nn<|cd U (λc0=>?_)<|λc0=>?_;exact absurd U c0;refine sk<|tn<|sq<|sr<|mv U<|y5q U t32<|eq' U<|nn<|cd U (λc1=>?_)<|λc1=>?_;exact absurd c1 hp;refine sk<|tn<|sr<|asg U<|nn<|jn (ι:=Unit) (ll4 1 2 3 4) (λ_j=>[(11,.int .u8<|1-d)]) (λ_j w'=>Fr [] w2 w') U ?_ ?_;refine sr<|mv U<|eq' U<|nn<|cd U (λc2=>?_)<|λc2=>?_;refine rg<|asg U<|nl ?_;exact jE (()) (.c5 U U U U<|congrArg (λz=>some<|Value.int .u8 z) oo)<|l12 _ _;refine sk ?_;exact jE (()) (.c5 U U U U<|congrArg (λz=>some<|Value.int .u8 z) oo)<|l12 _ _;rintro _j w3 q3;have z3:=q3.size;refine kpC (ll5 1 2 3 4 11) U<|sr<|asg U<|nn<|sq<|sr<|fad U y1o ?_;have a0:=a0.ext<|q2.n1 q3;refine z0i U a0 U x4d<|lnS U<|mv U<|nn<|bl<|lpK (ι:=Nat×Value) (ll6 1 2 3 11 31 32) (λp=>[(33,.int .i64 (p.1:Int)),(12,p.2)]) (λp w'=>Fr [] w0 w'/\p.1<=q.bs.length/\Lw.Own z2k 172 w0.heap.size w' p.2 (z7u q.p r d pl p.1)) (λp=>q.bs.length-p.1) (0,_) U ⟨(q1.n2 q2 q3),⟨l16 _,Own.nil _⟩⟩ ?_;rintro⟨i,uI⟩ w4 ⟨q4,⟨hi,D⟩⟩;simp only at hi D;have z4:=q4.size;refine kpC [(1,_),(2,_),(3,_),(11,_),(31,_),(32,_),(33,.int .i64 (i:Int)),(12,uI)] U ?_;have d6:=z2f I.b;have d3:=x4v hv r d pl i;have d9:=z4a b1 i;have e0:=z2f<|z1y I.bi i;have e3:-300<=z2b 1 ((i:Int)+1) r/\z2b 1 ((i:Int)+1) r<=300:=by
  unfold z2b;split;omega;split<;>omega
 have e4:stI d = -1\/stI d=1:=by unfold stI;split<;>simp
 refine sr<|lt' U<|nn<|sq<|cd U (λc3=>?_)<|λc3=>?_;refine sk<|tn<|sq<|bl<|sr<|mv U ?_;have Z:=I.ext q4;refine z1a (iq0) U Z.b U y4d z1j<|λb6 a3=>?_;refine z1c U (a3 _ Z.b) z6k<|asg U<|asg U<|nn<|sr<|mv U<|ad6 U<|z1r (cs:=[_,_]) (ev2 U) y8v (z0g U<|z0g U z0r) U ?_;refine mv U<|cl (ev2 U) v5e (y4b _ _ _ _ oo) ?_;rintro _ w5 ⟨rfl,q5⟩;have z5:=q5.size;refine asg U<|kpL (ll10 1 2 3 11 12 14 15 31 32 33) U<|nn<|sq<|sq<|rbo (r:=59) (L':=ll9 1 2 3 11 12 14 31 32 33) (((pl≠((z2b 1 ((i:Int)+1) r)+(stI d)))/\(pl≠((z2b 1 ((i:Int)+1) r)+(3*(stI d)))))) U ?_ ?_;refine mv U<|mv U<|mv U<|y0k U U underlying267 sz3 ?_;have hT:=a2.ext<|q4.n1 q5;refine y2g U hT.c (y8j hd) na3 U<|ad6 U<|ne' U<|mv U<|gs 50 U (λg0=>?_)<|λg0=>?_;exact gY U<|mv U<|gY U<|mv U<|gY U<|mv U<|gY U<|y0k U U underlying267 sz3<|gY U<|y2g U hT.c (y8j hd) na3 U<|gY U<|x2e U U (wi6 oo)<|gY U<|ad6 U<|gY U<|ne' U<|pkt U<|rbe U<|U;exact gN U<|gN U<|gN U<|gN U<|gN U<|gN U<|gN U<|gN U<|pkf U<|rbe U<|U;refine tn<|cd U (λc4=>?_)<|λc4=>?_;refine ex<|te<|xh<|tn<|rg<|ad6 U<|mv U<|nl ?_;have D:=D.ext q5;exact lpE ((i+1,_)) U ⟨(q4.n1 q5),⟨sm,by rw[y9n,show y3d q.p r d pl i=[] from if_pos c4,l24];exact D⟩⟩ sm;refine sk<|tn<|sr<|mv U<|lnS U<|mv U<|nn<|bl ?_;have D:=D.ext q5;refine lpK (ι:=Nat×Value) (ll9 1 2 3 11 31 32 33 60 61) (λp=>[(62,.int .i64 (p.1:Int)),(12,p.2)]) (λp w'=>Fr [] w0 w'/\p.1<=(q.bs.getD i iq0).2.length/\Lw.Own z2k 172 w0.heap.size w' p.2 ((z7u q.p r d pl i)++((q.bs.getD i iq0).2.take p.1).map (λx=>(⟨x,true,1-d⟩:Pa)))) (λp=>(q.bs.getD i iq0).2.length-p.1) (0,uI) U ⟨(q4.n1 q5),⟨l16 _,by simpa using D⟩⟩ ?_;rintro⟨j,uJ⟩ w6 ⟨q6,⟨hj,D⟩⟩;simp only at hj D;have z6:=q6.size;refine kpC [(1,_),(2,_),(3,_),(11,_),(31,_),(32,_),(33,_),(60,_),(61,_),(62,.int .i64 (j:Int)),(12,uJ)] U<|sr<|lt' U<|nn<|sq<|cd U (λc5=>?_)<|λc5=>?_;refine sk<|tn<|sq<|bl<|sr ?_;have Z:=I.ext q6;refine z1a (id0) U (z1y Z.bi i) U z4m z1j<|λb7 a4=>?_;refine z1q U (a4 _<|z1y Z.bi i) z2y<|al z9l U<|λd0 w7 b8 O q7 z7=>?_;refine z0j (vs:=[_,_]) U O y1b (λw8 O q8 z8=>?_) (h1:=t26);refine nn<|rg<|mv U<|z0l U O z2y<|mv U<|z1r (cs:=[_,_,_,_]) (ev3 U) k3y (z0g U<|z0g U<|z0g U z0r) U ?_;refine z1i ([(⟨((q.bs.getD i iq0).2.getD j id0),true,1-d⟩:Pa)]) (ev1 U) U z5g<|λd1 w9 b9 a5 q9 z9=>?_;have D:=((D.ext q7).fr q8 (by first|exact z9x D oo|simp[z0v]<;>omega)).ext q9;have a1:=D;refine z2l U D a5.sl z5g (λe5 e6 D a6 b5=>?_) (hM:=t61) (hb:=t62);have f0:=a6.size;exact asg U<|kpL (ll11 1 2 3 11 12 31 32 33 60 61 62) U<|nl<|bn'<|tn<|rg<|ad6 U<|mv U<|nl<|lpE ((j+1,_)) U ⟨((q6.z3 q7 q8 q9).step a6<|λk hk b2=>absurd (a1.blk k hk).1 oo),⟨sm,by rw[y5w (λx=>(⟨x,true,1-d⟩:Pa)) id0 oo,<-l14];exact D⟩⟩ sm;obtain rfl:j=(q.bs.getD i iq0).2.length:=by omega
 rw[l40]at D;exact ex<|te<|te<|xh<|bn'<|tn<|rg<|ad6 U<|mv U<|nl<|lpE ((i+1,_)) U ⟨q6,⟨sm,by rw[y9n,show y3d q.p r d pl i=_ from if_neg c4,z3q];exact D⟩⟩ sm;obtain rfl:i=q.bs.length:=by omega
 refine ex<|te<|te<|xh<|tn<|jn (ι:=Unit) (ll1 12) (λ_j=>[]) (λ_j w'=>Fr [] w0 w'/\Lw.Own z2k 172 w0.heap.size w' uI (z4q q.p r d pl)) U ?_ ?_;refine sr<|mv U<|eq' U<|kpL (ll2 12 75) U<|nn<|cd U (λc6=>?_)<|λc6=>?_;refine rg<|mv U ?_;have b4:=D;refine cl (ev1 U) cO (x5d w0.heap.size _ _ _ D oo) ?_;rintro _ e7 ⟨D,a7⟩;have f1:=a7.size;exact nl<|jE (()) U ⟨(q4.step a7<|λk hk b2=>absurd (b4.blk k hk).1 oo),(by rw[show z4q q.p r d pl=_ from if_pos oo,l18];exact D)⟩;exact sk<|jE (()) U ⟨q4,(by rw[show z4q q.p r d pl=_ from if_neg oo,l18];exact D)⟩;rintro _j e8 ⟨a8,D⟩;have f2:=a8.size;refine kpC (ll1 12) U<|sr<|mv U<|cl (ev1 U) cO (y7s _ (z4q q.p r d pl) _ D.sl oo) ?_;rintro _ e9 ⟨b0,rfl,c9,hX,a9⟩;have f3:=a9.size;exact asg U<|asg U<|nn<|rt<|r2 U U U ⟨_,rfl,⟨b0,rfl,oo,hX.low oo⟩,(a8.n1 a9)⟩
theorem k7v:BuildAt prog 149 [(0,2),(2,2),(4,1)] [(.int .u8 0),(.int .i64 0),(.int .u8 0),(.int .i64 0),(.int .i64 0)]:=BuildAt.struct underlying149 (λ_=>kr)<|λ_=>kr
theorem v9x (q:BdQ)(r d:Int)(w0:World)(hB:BdAt w0 q)(hv:BdOk q.p)(hT:StT w0)(hr:-4<=r/\r<=4)(hd:d=0\/d=1)(g5:-4<=r+stI d/\r+stI d<=4):Rets prog 129 #[bvv q,.int .i64 r,.int .u8 d] w0 λv w'=>(∃g,v=.tuple #[.slice (saa g) (z2g q.p r d).length (z2g q.p r d).length,.int .i64 0]/\w0.heap.size<=g/\Lw.Own z6f 149 w0.heap.size w' (.slice (saa g) (z2g q.p r d).length (z2g q.p r d).length) (z2g q.p r d))/\Fr [] w0 w':=by
 obtain⟨⟨hf,hb⟩,h4,b5⟩:=z3f hv;have g4:=z2f hB.b;have e4:=y3h hv r d;rw[l18]at e4;refine wf func129 U ?_;have a5:=hB;have d9:=hT;refine sr<|bx U<|λg3 w1 g1 a1 q1 z1=>(asg U<|asg U<|nn<|sq<|sr<|z0l U a1 z4y<|mv U<|mv U ?_);have hB:=a5.ext q1;have hT:=d9.ext q1;refine cl (ev3 U) cO (x6r q _ _ _ hB hv hT oo hd oo) ?_;rintro _ w2 ⟨rfl,q2⟩;have z2:=q2.size;have a1:=a1.ext q2;have b6:=a1;refine asg U<|nn<|sr<|mv U<|ne' U<|nn<|cd U (λc0=>?_)<|λc0=>?_;exact absurd U c0;refine sk<|tn<|sr<|asg U<|nn<|sq<|sr<|fad U y1o<|z0i U a1 U x4d<|lnS U<|mv U<|nn<|bl<|lpK (ι:=Nat×Value) (ll5 1 2 3 26 27) (λp=>[(28,.int .i64 (p.1:Int)),(9,p.2)]) (λp w'=>Fr [] w2 w'/\p.1<=q.bs.length/\Lw.Own z6f 149 w2.heap.size w' p.2 (x2d q.p r d p.1)) (λp=>q.bs.length-p.1) (0,_) U ⟨(l12 _ _),⟨l16 _,Own.nil _⟩⟩ ?_;rintro⟨i,uI⟩ w3 ⟨q3,⟨hi,I⟩⟩;simp only at hi I;have z3:=q3.size;refine kpC [(1,_),(2,_),(3,_),(26,_),(27,_),(28,.int .i64 (i:Int)),(9,uI)] U ?_;have f9:=v2g hv r d i;have g6:=z4a b5 i;have g7:=z2f<|z1y a5.bi i;have g0:-10<=y0d r d i/\y0d r d i<=50:=by unfold y0d;split<;>omega
 have e0:((q.p.atC 0<|y0d r d i).reverse).length<=4:=by rw[l111];exact v0o hv _ _
 refine sr<|lt' U<|nn<|sq<|cd U (λc1=>?_)<|λc1=>?_;refine sk<|tn<|sq<|bl<|sr<|mv U ?_;have hB:=a5.ext<|q1.n2 q2 q3;refine z1a (iq0) U hB.b U y4d z1j<|λe7 b7=>?_;refine z1c U (b7 _ hB.b) z6k<|asg U<|asg U<|nn<|sr<|mv U<|ad6 U<|mv U<|ad6 U<|asg U<|nn<|jn (ι:=Unit) (ll8 1 2 3 9 11 26 27 28) (λ_j=>[(12,.int .i64<|y0d r d i)]) (λ_j w'=>Fr [] w2 w'/\Lw.Own z6f 149 w2.heap.size w' uI (x2d q.p r d i)) U ?_ ?_;refine sr<|mv U<|eq' U<|nn<|cd U (λc2=>?_)<|λc2=>?_;exact rg<|mv U<|z2i U (wi6 oo)<|asg U<|nl<|jE (()) (.d8 U U U U U U U U<|.cons (by first|(rw[show y0d r d i=_ from if_pos c2];rfl)|(rw[show y0d r d i=_ from if_neg c2];rfl)) .nil) ⟨q3,I⟩;exact sk<|jE (()) (.d8 U U U U U U U U<|.cons (by first|(rw[show y0d r d i=_ from if_pos c2];rfl)|(rw[show y0d r d i=_ from if_neg c2];rfl)) .nil) ⟨q3,I⟩;rintro _j w4 ⟨q4,I⟩;have z4:=q4.size;refine kpC (ll9 1 2 3 9 11 26 27 28 12) U<|sr ?_;have a1:=b6.ext q4;refine z0l U a1 z4y<|mv U<|z1r (cs:=[_,_]) (ev2 U) y8v (z0g U<|z0g U z0r) U ?_;have hB:=a5.ext<|q1.n2 q2 q4;refine cl (ev2 U) v7c (y5m q 0 (y0d r d i) _ hB oo hf hb h4 b5) ?_;rintro g8 w5 ⟨O,q5⟩;have O:=O.low (show w2.heap.size<=_ by omega);have z5:=q5.size;refine asg U<|nn<|sr<|mv U ?_;have a6:=O;have I:=I.ext q5;refine cl (ev1 U) cO (v9y w2.heap.size _ _ _ O (by have:=v0o hv 0<|y0d r d i;omega)) ?_;rintro _ w6 ⟨O,q6⟩;have I:=I.fr q6<|Own.neO a6 I dd;have z6:=q6.size;obtain⟨b3,b4,rfl,f0⟩:=O.sl.form;refine nn<|sr<|mv U<|lnS U<|mv U<|nn<|bl<|lpK (ι:=Nat×Value) (ll9 1 2 3 13 26 27 28 47 48) (λp=>[(49,.int .i64 (p.1:Int)),(9,p.2)]) (λp w'=>Fr [] w2 w'/\p.1<=(q.bs.getD i iq0).2.length/\Lw.Own z6f 149 w2.heap.size w' p.2 ((x2d q.p r d i)++((q.bs.getD i iq0).2.take p.1).flatMap (λx=>((q.p.atC 0<|y0d r d i).reverse).map<|x9c d x))/\Lw.Own z1h 54 w2.heap.size w' (.slice b3 ((q.p.atC 0<|y0d r d i).reverse).length b4) ((q.p.atC 0<|y0d r d i).reverse)) (λp=>(q.bs.getD i iq0).2.length-p.1) (0,_) U ⟨((q4.n1 q5).step q6<|λk hk b2=>absurd (a6.blk k hk).1 oo),⟨l16 _,by simpa using I,O⟩⟩ ?_;rintro⟨j,uJ⟩ w7 ⟨q7,⟨hj,I,O⟩⟩;simp only at hj I;have z7:=q7.size;refine kpC [(1,_),(2,_),(3,_),(13,_),(26,_),(27,_),(28,_),(47,_),(48,_),(49,.int .i64 (j:Int)),(9,uJ)] U ?_;have e3:=flat_len (λx=>((q.p.atC 0<|y0d r d i).reverse).map<|x9c d x) 4 (λx=>by rw[l18];exact e0)<|(q.bs.getD i iq0).2.take j;rw[l27]at e3;refine sr<|lt' U<|nn<|sq<|cd U (λc3=>?_)<|λc3=>?_;refine sk<|tn<|sq<|bl<|sr ?_;have hB:=a5.ext<|q1.n2 q2 q7;refine z1a (id0) U (z1y hB.bi i) U z4m z1j<|λe8 b8=>?_;refine z1q U (b8 _<|z1y hB.bi i) z2y<|al z9l U<|λd6 w8 f1 D q8 z8=>?_;refine z0j (vs:=[_,_]) U D y1b (λw9 D q9 z9=>?_) (h1:=t26);refine nn<|sr<|mv U<|lnS U<|mv U<|nn<|bl ?_;have I:=(I.ext q8).fr q9 (by first|exact z9x I oo|simp[z0v]<;>omega);have O:=(O.ext q8).fr q9 (by first|exact z9x O oo|simp[z0v]<;>omega);refine lpK (ι:=Nat×Value) [(1,_),(2,_),(3,_),(13,_),(15,_),(26,_),(27,_),(28,_),(47,_),(48,_),(49,_),(53,_),(54,_)] (λp=>[(55,.int .i64 (p.1:Int)),(9,p.2)]) (λp w'=>Fr [] w2 w'/\p.1<=((q.p.atC 0<|y0d r d i).reverse).length/\Lw.Own z6f 149 w2.heap.size w' p.2 (((x2d q.p r d i)++((q.bs.getD i iq0).2.take j).flatMap (λx=>((q.p.atC 0<|y0d r d i).reverse).map<|x9c d x))++(((q.p.atC 0<|y0d r d i).reverse).take p.1).map (x9c d<|(q.bs.getD i iq0).2.getD j id0))/\Lw.Own z1h 54 w2.heap.size w' (.slice b3 ((q.p.atC 0<|y0d r d i).reverse).length b4) ((q.p.atC 0<|y0d r d i).reverse)/\Blk w' d6 54 (z1h.enc<|(q.bs.getD i iq0).2.getD j id0)) (λp=>((q.p.atC 0<|y0d r d i).reverse).length-p.1) (0,_) U ⟨(q7.z2 q8 q9),⟨l16 _,by simpa using I,O,D⟩⟩ ?_;rintro⟨k,uK⟩ h2 ⟨a7,⟨hk,I,O,D⟩⟩;simp only at hk I;have i3:=a7.size;have d1:=D.lt;refine kpC [(1,_),(2,_),(3,_),(13,_),(15,_),(26,_),(27,_),(28,_),(47,_),(48,_),(49,_),(53,_),(54,_),(55,.int .i64 (k:Int)),(9,uK)] U<|sr<|lt' U<|nn<|sq<|cd U (λc4=>?_)<|λc4=>?_;refine sk<|tn<|sq<|bl<|sr<|z1a (id0) U O.sl U z4m z1j<|λe9 b9=>?_;refine z1q U (b9 _ O.sl) z2y<|al z9l U<|λf6 h3 f2 a4 Z i4=>?_;refine z0j (vs:=[_,_]) U a4 y1b (λh5 a4 a0 i5=>?_) (h1:=t26);refine nn<|sr<|mv U<|eq' U<|nn<|cd U (λc5=>?_)<|λc5=>?_;refine rg<|mv U<|z0l U a4 z2y ?_;have D:=(D.ext Z).fr a0;refine z0l U D z2y<|z1r (cs:=[_,_,_,_,_]) (ev3 U) k7v (z0g U<|z0g U<|z0g U z0r) U ?_;refine z1i ([(⟨(((q.p.atC 0<|y0d r d i).reverse).getD k id0),((q.bs.getD i iq0).2.getD j id0),1⟩:Cx)]) (ev1 U) U y3i<|λf7 h6 f3 c9 a8 i7=>?_;have O:=((O.ext Z).fr a0 (by first|exact z9x O oo|simp[z0v]<;>omega)).ext a8;have D:=D.ext a8;have I:=((I.ext Z).fr a0 (by first|exact z9x I oo|simp[z0v]<;>omega)).ext a8;have a2:=I;refine z2l U I c9.sl y3i (λg9 h7 I a9 e5=>?_) (hM:=t61) (hb:=t62);have i8:=a9.size;have O:=O.fr a9 ((Own.neO a2 O dd));have D:=D.fr a9<|λhk=>a2.neB D dd hk;exact asg U<|kpL [(1,_),(2,_),(3,_),(9,_),(13,_),(15,_),(26,_),(27,_),(28,_),(47,_),(48,_),(49,_),(53,_),(54,_),(55,_)] U<|nl<|bn'<|tn<|rg<|ad6 U<|mv U<|nl<|lpE ((k+1,_)) U ⟨((a7.z3 Z a0 a8).step a9<|λk hk b2=>absurd (a2.blk k hk).1 oo),⟨sm,by rw[y5w (x9c d<|(q.bs.getD i iq0).2.getD j id0) id0 oo,<-l14,show x9c d ((q.bs.getD i iq0).2.getD j id0) (((q.p.atC 0<|y0d r d i).reverse).getD k id0)=_ from if_pos c5];exact I,O,D⟩⟩ sm;refine rg<|mv U ?_;have D:=(D.ext Z).fr a0;refine z0l U D z2y<|z0l U a4 z2y<|z1r (cs:=[_,_,_,_,_]) (ev3 U) k7v (z0g U<|z0g U<|z0g U z0r) U ?_;refine z1i ([(⟨((q.bs.getD i iq0).2.getD j id0),(((q.p.atC 0<|y0d r d i).reverse).getD k id0),-1⟩:Cx)]) (ev1 U) U y3i<|λf8 h8 f4 d0 b0 i9=>?_;have O:=((O.ext Z).fr a0 (by first|exact z9x O oo|simp[z0v]<;>omega)).ext b0;have D:=D.ext b0;have I:=((I.ext Z).fr a0 (by first|exact z9x I oo|simp[z0v]<;>omega)).ext b0;have a3:=I;refine z2l U I d0.sl y3i (λh0 h9 I b1 e6=>?_) (hM:=t61) (hb:=t62);have j0:=b1.size;have O:=O.fr b1 ((Own.neO a3 O dd));have D:=D.fr b1<|λhk=>a3.neB D dd hk;exact asg U<|kpL [(1,_),(2,_),(3,_),(9,_),(13,_),(15,_),(26,_),(27,_),(28,_),(47,_),(48,_),(49,_),(53,_),(54,_),(55,_)] U<|nl<|bn'<|tn<|rg<|ad6 U<|mv U<|nl<|lpE ((k+1,_)) U ⟨((a7.z3 Z a0 b0).step b1<|λk hk b2=>absurd (a3.blk k hk).1 oo),⟨sm,by rw[y5w (x9c d<|(q.bs.getD i iq0).2.getD j id0) id0 oo,<-l14,show x9c d ((q.bs.getD i iq0).2.getD j id0) (((q.p.atC 0<|y0d r d i).reverse).getD k id0)=_ from if_neg c5];exact I,O,D⟩⟩ sm;obtain rfl:k=((q.p.atC 0<|y0d r d i).reverse).length:=by omega
 rw[l40]at I;exact ex<|te<|te<|xh<|bn'<|tn<|rg<|ad6 U<|mv U<|kpL (ll11 1 2 3 9 13 26 27 28 47 48 49) U<|nl<|lpE ((j+1,_)) U ⟨a7,⟨sm,by rw[u2b (λx=>((q.p.atC 0<|y0d r d i).reverse).map<|x9c d x) id0 oo,<-l14];exact I,O⟩⟩ sm;obtain rfl:j=(q.bs.getD i iq0).2.length:=by omega
 rw[l40]at I;exact ex<|te<|te<|xh<|bn'<|tn<|rg<|ad6 U<|mv U<|kpL (ll7 1 2 3 9 26 27 28) U<|nl<|lpE ((i+1,_)) U ⟨q7,⟨sm,by rw[u4x,show v5x q.p r d i=(q.bs.getD i iq0).2.flatMap (λx=>((q.p.atC 0<|y0d r d i).reverse).map<|x9c d x) from by unfold v5x;rw[z3q]];exact I⟩⟩ sm;obtain rfl:i=q.bs.length:=by omega
 refine ex<|te<|te<|xh<|tn<|jn (ι:=Unit) (ll1 9) (λ_j=>[]) (λ_j w'=>Fr [] w0 w'/\Lw.Own z6f 149 w0.heap.size w' uI (z2g q.p r d)) U ?_ ?_;refine sr<|mv U<|eq' U<|kpL (ll2 9 77) U<|nn<|cd U (λc6=>?_)<|λc6=>?_;refine rg<|mv U ?_;have a6:=I;refine cl (ev1 U) cO (u2j w2.heap.size _ _ _ I oo) ?_;rintro _ i0 ⟨I,d3⟩;have j1:=d3.size;exact nl<|jE (()) U ⟨((q1.n2 q2 q3).step d3<|λk hk b2=>absurd (a6.blk k hk).1 oo),(by rw[show z2g q.p r d=_ from if_pos oo,l18];exact I.low oo)⟩;exact sk<|jE (()) U ⟨(q1.n2 q2 q3),(by rw[show z2g q.p r d=_ from if_neg oo,l18];exact I.low oo)⟩;rintro _j i1 ⟨d4,I⟩;have j2:=d4.size;refine kpC (ll1 9) U<|sr<|mv U<|cl (ev1 U) cO (v0x _ (z2g q.p r d) _ I.sl oo) ?_;rintro _ i2 ⟨d7,rfl,f5,hY,d5⟩;have j3:=d5.size;exact asg U<|asg U<|nn<|rt<|r2 U U U ⟨_,rfl,⟨d7,rfl,oo,hY.low oo⟩,(d4.n1 d5)⟩
end Go.Proofs.YtkafbfjmcigaiaaGreatDoor
namespace Go.G08
open Go.Lw Go.G21
def orZ:List Int->Int
  | []=>0
  | x::l=>if x≠0 then x else orZ l
theorem v9t:∀ {l:List Int} {i:Nat},i<l.length->(∀j,j<i->l.getD j 0=0)->l.getD i 0≠0->orZ l=l.getD i 0
 | x::l,0,_,_,h=>by simp only[l76]at h ⊢;exact if_pos h
 | x::l,i+1,hi,hj,h=>by
  have D:=hj 0 oo
  simp only[l76]at D
  rw[show orZ (x::l)=if x≠0 then x else orZ l from U,if_neg oo]
  simp only[l58]at h ⊢
  exact v9t (by simpa using hi) (λj hl=>by have:=hj (j+1) oo;simpa only[l58] using this) h
theorem x1w:∀ {l:List Int},(∀j,j<l.length->l.getD j 0=0)->orZ l=0
 | [],_=>rfl
 | x::l,hj=>by
  have D:=hj 0 sp0
  simp only[l76]at D
  rw[show orZ (x::l)=if x≠0 then x else orZ l from U,if_neg oo]
  exact x1w (λj hl=>by have:=hj (j+1) (by simpa using hl);simpa only[l58] using this)
theorem v2s (a b:LId):orZ [y1n a.y b.y,y1n a.n b.n]=z6q a b:=by
 unfold orZ orZ orZ y1n z6q
 repeat' split
 all_goals first|rfl|omega
end Go.G08
namespace Go.Lw
open Go.RowKit
def MapL {κ:Type}[DecidableEq κ](V:κ->Value)(w:World)(g:Nat)(m:List (κ×Value)):Prop:=
  ∃(es:Array MapEntry) (c:Nat),w.heap[g]?=some (.map es c)/\es.toList.map (λe=>(e.key,e.val))=m.map (λp=>(V p.1,p.2))/\(m.map (·.1)).Nodup/\(es.toList.map (·.born)).Nodup/\∀e∈es.toList,e.born<c
def z6r {κ:Type}[DecidableEq κ](m:List (κ×Value))(k:κ):List (κ×Value):=
  match (m.map (·.1)).findIdx? (λx=>decide (k=x)) with
  | some i=>m.eraseIdx i
  | none=>m
def MapIt {κ:Type}[DecidableEq κ](V:κ->Value)(w:World)(gi g:Nat)(m rem:List (κ×Value))(cur:Option (κ×Value)):Prop:=
  ∃(es:Array MapEntry) (c:Nat) (seen:Array Nat),w.heap[g]?=some (.map es c)/\es.toList.map (λe=>(e.key,e.val))=m.map (λp=>(V p.1,p.2))/\(es.toList.map (·.born)).Nodup/\(∀e∈es.toList,e.born<c)/\
    w.heap[gi]?=some (.mapIter (some g) c seen c)/\(leftOf es seen).toList.map (λe=>(e.key,e.val))=rem.map (λp=>(V p.1,p.2))/\∀p,cur=some p->∃e∈es.toList,∃s':Array Nat,seen=s'.push e.born/\e.key=V p.1/\e.val=p.2
theorem k4a {P:Program}{ops:Array Oper}{Q:Exit->Act->World->Prop}{o:Oper}{rest:List Oper}{a:Act}{n:Nat}{ds:List Nat}{L:List (Nat×Value)}{w w':World}{v:Value}(h:AgM ds a n L)(O:o.guard=none)(I:o.dst=none)(Z:(execOp a.eval o).run P w=.ok (.value v) w')
    (k:∀a,AgM ds a n L->wpList P ops Q rest a w'):wpList P ops Q (o::rest) a w:=
  wpList_plain O λK D=>by
    unfold Oper.wp
    rw[Z]
    show K (a.put o.dst v) w'
    rw[I]
    exact D _ _<|k _ h
theorem y8z {D:Type}(m:List (D×Value))(i:Nat)(v:Value):(m.modify i λp=>(p.1,v)).map (·.1)=m.map (·.1):=by
 apply l69;intro j;simp only[l26,l117];by_cases h:i=j;subst h;cases m[i]?<;>simp
 simp[h]
theorem y3f {α β:Type}(f:α->β)(i:Nat)(l:List α):(l.eraseIdx i).map f=(l.map f).eraseIdx i:=by
 apply l69;intro j;simp only[l26,List.getElem?_eraseIdx];split<;>rfl
section
variable {κ:Type} [DecidableEq κ] {V:κ->Value} {P:Program} {K:TypeId} {w w':World} {g:Nat} {m:List (κ×Value)} {S:List Nat}
theorem MapL.fr (h:MapL V w g m)(hf:Fr S w w')(hn:g∉S:=by simp[z0v]<;>omega):MapL V w' g m:=by
 obtain⟨I,c,D,O⟩:=h;exact⟨I,c,(hf.block g (l17.1 D).1 hn).trans D,O⟩
theorem MapL.f (h:MapL V w g m):MapF V w g (z2w m):=let ⟨es,c,h1,h2,_⟩:=h;⟨es,c,m,h1,h2,λ_=>rfl⟩
theorem MapL.lt (h:MapL V w g m):g<w.heap.size:=h.f.lt
theorem MapL.nodup (h:MapL V w g m):(m.map (·.1)).Nodup:=let ⟨_,_,_,_,h,_⟩:=h;h
theorem v8l {k:κ}(h:(m.map (·.1)).findIdx? (λx=>decide (k=x))=none):k∉m.map (·.1):=λD=>by
 rw[List.findIdx?_eq_none_iff]at h
 have:=h k D
 simp at this
theorem y9b {t E:TypeId}(h:MapL V w g m)(hk:KeyLaw P K V)(hu:P.underlying t=some (.map K E))(k:κ)(v:Value) :
    ∃w',(Instr.mapUpdate t (.map<|some g) (V k) v).run P w=.ok () w'/\MapL V w' g (z4u m k v)/\Fr [g] w w'/\w'.heap.size=w.heap.size:=by
  obtain⟨D,c,h1,h2,a9,a6,a3⟩:=h
  have b1:=(l17.1 h1).1
  have a0:D.toList.map (·.key)=(m.map (·.1)).map V:=by
    have:=congrArg (List.map Prod.fst) h2
    simpa[l75,l113] using this
  have O:=hk.find k D.toList (m.map (·.1)) w a0
  have a2:∀o,(setObj g o).run P w=.ok () { w with heap:=w.heap.setIfInBounds g o }:=by intro o;simp[setObj,Sem.run,h1]
  have a7:∀o,Fr [g] w { w with heap:=w.heap.setIfInBounds g o }:=λo=>⟨rfl,rfl,rfl,sp0,λi _ hn=>by
    simp only
    rw[l78 (by intro e;subst e;simp at hn)]⟩
  have Z:∀o,({ w with heap:=w.heap.setIfInBounds g o }:World).heap[g]?=some o:=by intro o;simp[b1]
  have b3:D.toList.length=m.length:=by have:=congrArg List.length h2;simpa using this
  cases hf:(m.map (·.1)).findIdx? (λx=>decide (k=x)) with
  | none=>
    have ea:z4u m k v=m++[(k,v)]:=by unfold z4u;rw[hf]
    rw[ea]
    refine⟨_,?_,⟨_,_,Z<|.map (D.push { key:=V k,val:=v,born:=c })<|c+1,?_,?_,?_,?_⟩,a7 _,sp0⟩
    · rw[hf]at O
      simp only[Instr.mapUpdate,Sem.run_bind,run_underlying hu,Result.andThen_ok,z3b h1,hk.check,O,Option.bind_none,a2]
    · simp[h2]
    · rw[l31]
      exact l67.2 ⟨a9,sp0,λx hx y hy=>by
        simp at hy;subst hy;intro e;subst e;exact v8l hf hx⟩
    · rw[Array.toList_push,l31]
      exact l67.2 ⟨a6,sp0,λx hx y hy=>by
        simp at hy;subst hy
        obtain⟨e,he,rfl⟩:=l55.1 hx
        have:=a3 e he;omega⟩
    · intro e he
      rw[Array.toList_push]at he
      rcases l23.1 he with h|h
      · have:=a3 e h;omega
      · simp at h;subst h;exact l119 _
  | some i=>
    have hi:i<m.length:=by
      have:=l79.1 hf
      simpa using this.1
    have a1:i<D.toList.length:=by omega
    have a8:V k=(D.toList[i]).key:=by
      have b0:=List.findIdx?_eq_some_iff_getElem.1 hf
      obtain⟨b4,hp,_⟩:=b0
      have b2:k=(m.map (·.1))[i]:=by simpa using hp
      have e1:(D.toList.map (·.key))[i]?=((m.map (·.1)).map V)[i]?:=by rw[a0]
      simp only[l26,l10 a1,l10 hi,l65,l70]at e1
      rw[e1,b2];simp
    have ea:z4u m k v=m.modify i λp=>(p.1,v):=by unfold z4u;rw[hf]
    rw[ea]
    have I:(D.modify i λe=>{ e with key:=V k,val:=v }).toList.map (·.born)=D.toList.map (·.born):=by
      apply l69
      intro j
      simp only[l26]
      rw[l45,Array.getElem?_modify,l45]
      by_cases hj:i=j
      · subst hj;simp only[if_true];cases D[i]?<;>rfl
      · simp only[hj,if_false]
    refine⟨_,?_,⟨_,_,Z<|.map (D.modify i λe=>{ e with key:=V k,val:=v }) c,?_,by rw[y8z m];exact a9,by rw[I];exact a6,?_⟩,a7 _,sp0⟩
    · rw[hf]at O
      have a4:D[i]?=some D.toList[i]:=by rw[<-l45,l10 a1]
      simp only[Option.bind_some,l10 a1,l65]at O
      have a5:(Instr.keyThatStays (((D[i]?).map (·.key)).getD<|V k)<|V k).run P w=.ok (V k) w:=by
        rw[a4]
        simp only[l65,l59,<-a8,Instr.keyThatStays,hk.bits,if_true,Sem.run_pure]
      simp only[Instr.mapUpdate,Sem.run_bind,run_underlying hu,Result.andThen_ok,z3b h1,hk.check,O,a5,a2]
    · apply l69
      intro j
      have e2:=congrArg (·[j]?) h2
      simp only[l26]at e2 ⊢
      rw[l45,Array.getElem?_modify,l117]
      rw[l45]at e2
      by_cases hj:i=j
      · subst hj
        have e3:=l10 hi
        have a4:D[i]?=some D.toList[i]:=by rw[<-l45,l10 a1]
        rw[a4,e3]at e2 ⊢
        simp only[l65,l70,l94]at e2
        simp only[if_true,l65]
        rw[a8,e2.1];rfl
      · simp only[hj,if_false]
        rw[e2];simp
    · intro e he
      have:e.born∈D.toList.map (·.born):=by rw[<-I];exact l88 he
      obtain⟨x,hx,hb⟩:=l55.1 this
      rw[<-hb];exact a3 x hx
theorem x8m {t E:TypeId}{ty:TypeId}(h:MapL V w g m)(hk:KeyLaw P K V)(hu:P.underlying t=some (.map K E))(k:κ) :
    ∃w',(Builtin.delete_ #[t,K] ty #[.map (some g),V k]).run P w=.ok (.tuple #[]) w'/\MapL V w' g (z6r m k)/\Fr [g] w w'/\w'.heap.size=w.heap.size:=by
  obtain⟨O,c,h1,h2,a5,a2,a1⟩:=h
  have a6:=(l17.1 h1).1
  have a0:O.toList.map (·.key)=(m.map (·.1)).map V:=by
    have:=congrArg (List.map Prod.fst) h2
    simpa[l75,l113] using this
  have D:=hk.find k O.toList (m.map (·.1)) w a0
  have Z:∀o,(setObj g o).run P w=.ok () { w with heap:=w.heap.setIfInBounds g o }:=by intro o;simp[setObj,Sem.run,h1]
  have a3:∀o,Fr [g] w { w with heap:=w.heap.setIfInBounds g o }:=λo=>⟨rfl,rfl,rfl,sp0,λi _ hn=>by
    simp only
    rw[l78 (by intro e;subst e;simp at hn)]⟩
  have I:∀o,({ w with heap:=w.heap.setIfInBounds g o }:World).heap[g]?=some o:=by intro o;simp[a6]
  have a7:O.toList.length=m.length:=by have:=congrArg List.length h2;simpa using this
  cases hf:(m.map (·.1)).findIdx? (λx=>decide (k=x)) with
  | none=>
    have ea:z6r m k=m:=by unfold z6r;rw[hf]
    rw[ea]
    refine⟨_,?_,⟨_,_,I<|.map O c,h2,a5,a2,a1⟩,a3 _,sp0⟩
    rw[hf]at D
    simp[Builtin.delete_,run_underlying hu,z3b h1,hk.check,D,Z]
  | some i=>
    have ea:z6r m k=m.eraseIdx i:=by unfold z6r;rw[hf]
    rw[ea]
    have hi:i<m.length:=by
      have:=l79.1 hf
      simpa using this.1
    have a4:i<O.toList.length:=by omega
    have el:(O.eraseIdxIfInBounds i).toList=O.toList.eraseIdx i:=by
      unfold Array.eraseIdxIfInBounds
      rw[dif_pos (by simpa using a4),Array.toList_eraseIdx]
    refine⟨_,?_,⟨_,_,I<|.map (O.eraseIdxIfInBounds i) c,?_,?_,?_,?_⟩,a3 _,sp0⟩
    · rw[hf]at D
      simp only[Option.bind_some,l10 a4,l65]at D
      simp[Builtin.delete_,run_underlying hu,z3b h1,hk.check,D,Z]
    · rw[el,y3f,y3f,h2]
    · rw[y3f];exact List.Nodup.sublist (List.eraseIdx_sublist _ _) a5
    · rw[el,y3f];exact List.Nodup.sublist (List.eraseIdx_sublist _ _) a2
    · intro e he
      rw[el]at he
      exact a1 e<|(List.eraseIdx_sublist _ _).mem he
variable {a:Act} {n:Nat} {L:List (Nat×Value)} {ds:List Nat} {Q:Exit->Act->World->Prop} {C:World->Prop} {Qa:Act->Prop} {ops:Array Oper} {rest:List Oper}
variable {d:Nat} {ty:TypeId} {pos:String} {after:Array Edge} {x y z:Operand} {t E:TypeId} {k:κ} {v zv:Value}
theorem x0q (h:AgM ds a n L)(hx:ev L x=some (.map<|some g))(hy:ev L y=some (V k))(hz:ev L z=some v)(hm:MapL V w g m)(Z:KeyLaw P K V)(hu:P.underlying t=some (.map K E))
    (q:∀w',MapL V w' g (z4u m k v)->Fr [g] w w'->w'.heap.size=w.heap.size->∀a,AgM ds a n L->wpList P ops Q rest a w'):wpList P ops Q (⟨none,.mapUpdate t x y z,ty,pos,after,none⟩::rest) a w:=by
  obtain⟨w',hr,D,I,O⟩:=y9b hm Z hu k v
  exact y0a h U U (w':=w') (by simp[execOp,h.eval hx,h.eval hy,h.eval hz,hr])<|q w' D I O
theorem j9x {O:TypeId}(h:AgM ds a n L)(hx:ev L x=some (.map<|some g))(hy:ev L y=some (V k))(hm:MapL V w g m)(hk:KeyLaw P K V)(hu:P.underlying t=some (.map K E))(he:O=K)
    (q:∀w',MapL V w' g (z6r m k)->Fr [g] w w'->w'.heap.size=w.heap.size->∀a,AgM ds a n L->wpList P ops Q rest a w'):wpList P ops Q (⟨none,.call ⟨.builtin .delete,#[x,y],#[t,O]⟩,ty,pos,after,none⟩::rest) a w:=by
  subst he
  obtain⟨w',hr,Z,h2,h3⟩:=x8m (ty:=ty) hm hk hu k
  refine k4a h U U (w':=w') (v:=.tuple #[]) ?_<|q w' Z h2 h3
  have D:=h.eval hx
  have I:=h.eval hy
  rw[z2q];unfold builtin
  simp[D,I,hr]
theorem MapIt.fr {gi:Nat}{rem:List (κ×Value)}{cur:Option (κ×Value)}(h:MapIt V w gi g m rem cur)(hf:Fr S w w')(h1:g∉S)(h2:gi∉S):MapIt V w' gi g m rem cur:=by
 obtain⟨Z,c,D,I,k2,k3,k4,O,k6⟩:=h;exact⟨Z,c,D,(hf.block g (l17.1 I).1 h1).trans I,k2,k3,k4,(hf.block gi (l17.1 O).1 h2).trans O,k6⟩
theorem MapIt.lt {gi:Nat}{rem:List (κ×Value)}{cur:Option (κ×Value)}(h:MapIt V w gi g m rem cur):gi<w.heap.size:=let ⟨_,_,_,_,_,_,_,k5,_⟩:=h;(l17.1 k5).1
theorem MapIt.ne {gi:Nat}{rem:List (κ×Value)}{cur:Option (κ×Value)}(h:MapIt V w gi g m rem cur):g≠gi:=λe=>by
 obtain⟨Z,c,I,O,_,_,_,D,_⟩:=h
 rw[<-e,O]at D;cases D
theorem v9h {I:Array MapEntry}{D:Array Nat}{e:MapEntry}{l1 l2:List MapEntry}(hn:(I.toList.map (·.born)).Nodup)(h:(leftOf I D).toList=l1++e::l2):(leftOf I<|D.push e.born).toList=l1++l2:=by
 have h2:(leftOf I<|D.push e.born).toList=(leftOf I D).toList.filter λx=>decide (x.born≠e.born):=by
  unfold leftOf;rw[Array.toList_filter,Array.toList_filter,List.filter_filter];congr 1;funext x;by_cases c1:x.born=e.born;simp[c1];by_cases c2:x.born∈D;simp[c1,c2];simp[c1,c2]
 have O:((leftOf I D).toList.map (·.born)).Nodup:=by
  refine List.Nodup.sublist (List.Sublist.map _ ?_) hn;unfold leftOf;rw[Array.toList_filter];exact List.filter_sublist
 rw[h]at h2 O;rw[h2,List.filter_append,l61];rw[l31,l28]at O;obtain⟨n1,n2,n3⟩:=l67.1 O;have n4:=l115.1 n2;have f1:l1.filter (λx=>decide (x.born≠e.born))=l1:=List.filter_eq_self.2 λx Z=>by
  simpa using n3 _ (l88 Z) e.born (l35 ..)
 have f2:l2.filter (λx=>decide (x.born≠e.born))=l2:=List.filter_eq_self.2 λx Z=>by
  have:x.born≠e.born:=λk=>n4.1 (by rw[<-k];exact l88 Z);simpa using this
 rw[f1,f2];simp
theorem j1m (hx:ev L x=some (.map<|some g))(hm:MapL V w g m)(hu:P.underlying t=some (.map K E))(hn:lbt d n)
    (q:∀gi w',gi=w.heap.size->MapIt V w' gi g m m none->Fr [] w w'->w'.heap.size=gi+1->WL P ops Q rest n ds w' ((d,pta gi)::L)):WL P ops Q (⟨some d,.range t x,ty,pos,after,none⟩::rest) n ds w L:=λa h=>by
  obtain⟨I,c,O,h2,h3,h4,h5⟩:=hm
  have D:=(l17.1 O).1
  refine z2c h U hn (w':=w.alloc<|.mapIter (some g) c #[] c) (v:=(pta w.heap.size)) ?_<|q _ _ U ⟨I,c,#[],?_,h2,h4,h5,heap_alloc_new w _,?_,λp hp=>by cases hp⟩ (Fr.alloc [] w _) sp0 
  · have Z:=h.eval hx
    simp only[execOp,Z,Sem.run_bind,run_range_map w t K E g I c hu O,Result.andThen_ok,Sem.run_pure]
  · first|exact(heap_alloc_old w _ D).trans O|exact(heap_alloc_old w _ _ D).trans O
  · rw[<-h2]
    have:(leftOf I #[]).toList=I.toList:=by unfold leftOf;rw[Array.toList_filter];simp
    rw[this]
theorem k1n {gi:Nat}{rem:List (κ×Value)}{cur:Option (κ×Value)}(hx:ev L x=some (pta gi))(hi:MapIt V w gi g m rem cur)(hn:lbt d n)
    (qt:∀(r1:List (κ×Value)) (p:κ×Value) (r2:List (κ×Value)),rem=r1++p::r2->∀w',MapIt V w' gi g m (r1++r2) (some p)->Fr [gi] w w'->w'.heap.size=w.heap.size->WL P ops Q rest n ds w' ((d,.tuple #[.bool true,V p.1,p.2])::L))
    (qf:rem=[]->WL P ops Q rest n ds w ((d,.tuple #[.bool false])::L)):WL P ops Q (⟨some d,.next x false,ty,pos,after,none⟩::rest) n ds w L:=λa h=>by
  have a5:=hi.ne
  obtain⟨I,c,D,h1,h2,h3,h4,h5,h6,h7⟩:=hi
  have a4:=(l17.1 h5).1
  have a1:=h.eval hx
  rcases run_next_at (P:=P) w ty gi g c c D I c h5 h1 h4 (l20 _) with ⟨e0,hr⟩|⟨e,he,w1,hw,hr⟩
  · refine z2c h U hn (w':=w) (v:=.tuple #[.bool false]) (by simp only[execOp,a1,Sem.run_bind,hr,Result.andThen_ok,Sem.run_pure]) (qf ?_)
    have:(leftOf I D).toList=[]:=l116.1 (by rw[l124];exact e0)
    rw[this]at h6
    exact List.map_eq_nil_iff.1 h6.symm
  · obtain⟨l1,l2,hl⟩:=List.append_of_mem he
    rw[hl,l31,l28]at h6
    obtain⟨r1,r',a7,e1,e2⟩:=List.map_eq_append_iff.1 h6.symm
    obtain⟨p,r2,a8,e3,e4⟩:=List.map_eq_cons_iff.1 e2
    obtain⟨ek,O⟩:=Prod.mk.inj e3
    have a2:e∈I.toList:=by
      have:e∈(leftOf I D).toList:=he
      unfold leftOf at this;rw[Array.toList_filter]at this;exact(l105.1 this).1
    have a3:Fr [] w w1:=by rcases hw with rfl|rfl;exact l12 _ _;exact Fr.drew _ _
    have a0:w1.heap.size=w.heap.size:=by rcases hw with rfl|rfl<;>rfl
    have Z:Fr [gi] w (ChangeMaps.setBlock w1 gi<|.mapIter (some g) c (D.push e.born) c):=
      (a3.weak sp0).step (S':=[gi]) ⟨rfl,rfl,rfl,by simp[ChangeMaps.setBlock],λk _ hk=>by
        simp only[ChangeMaps.setBlock]
        rw[l78 (by intro e;subst e;simp at hk)]⟩ (by intro k hk _;exact hk)
    refine z2c h U hn (w':=ChangeMaps.setBlock w1 gi<|.mapIter (some g) c (D.push e.born) c) (v:=.tuple #[.bool true,e.key,e.val]) (by simp only[execOp,a1,Sem.run_bind,hr,Result.andThen_ok,Sem.run_pure]) ?_
    rw[<-ek,<-O]
    refine qt r1 p r2 (by rw[a7,a8]) _ ⟨I,c,D.push e.born,?_,h2,h3,h4,?_,?_,λp' a6=>?_⟩ Z (by simp[ChangeMaps.setBlock,a0])
    · exact(Z.block g (l17.1 h1).1 (by simpa using a5)).trans h1
    · simp[ChangeMaps.setBlock,a0,a4]
    · rw[v9h h3 hl,l31,l31,<-e1,<-e4]
    · cases a6
      exact⟨e,a2,D,rfl,ek.symm,O.symm⟩
theorem u6j {gi:Nat}{rem:List (κ×Value)}{p:κ×Value}(hx:ev L x=some (pta gi))(hi:MapIt V w gi g m rem (some p))(hn:lbt d n)
    (q:WL P ops Q rest n ds w ((d,.tuple #[V p.1,p.2])::L)):WL P ops Q (⟨some d,.entry x,ty,pos,after,none⟩::rest) n ds w L:=λa h=>by
  obtain⟨es,c,O,h1,h2,h3,h4,h5,h6,h7⟩:=hi
  obtain⟨e,he,s',rfl,Z,D⟩:=h7 p U
  have I:=h.eval hx
  refine z2c h U hn (w':=w) (v:=.tuple #[V p.1,p.2]) ?_ q
  rw[<-Z,<-D]
  simp only[execOp,I,Sem.run_bind,run_entry_at (P:=P) w gi g c s' es c e h5 h1 he h3,Result.andThen_ok,Sem.run_pure]
end
end Go.Lw
namespace Go.G08
open Go.Lw Go.G21
section
variable {κ:Type} [DecidableEq κ] {V:κ->Value} {w w':World} {g:Nat} {m:List (κ×Value)} {S:List Nat}
theorem _root_.Go.Lw.MapL.tf {T:Nat}(h:MapL V w g m)(hf:Fr S w w')(I:OffT w T S):MapL V w' g m:=h.fr hf λO=>by
 obtain⟨T',cs,D,_⟩:=I g O
 exact h.f.ne_blk D U
end
theorem BdO.tf {D I base:Nat}{w w':World}{q:BdQ}{S:List Nat}(h:BdO D I base w q)(hf:Fr S w w')(hS:OffT w D S)(Z:OffT w I S):BdO D I base w' q:=
 ⟨⟨z2d h.f.1 hf hS,λp O=>z2d (h.f.2 p O) hf Z⟩,⟨z2d h.b.1 hf hS,λp O=>z2d (h.b.2 p O) hf Z⟩⟩
structure KpM (Ts:List Nat) (g:Nat) (w w':World):Prop where
  size:w.heap.size<=w'.heap.size
  block:∀k,k<w.heap.size->k≠g->(∀(T:Nat) (cs:List Value),Blk w k T cs->T∉Ts)->w'.heap[k]?=w.heap[k]?
theorem KpM.refl (D:List Nat)(g:Nat)(w:World):KpM D g w w:=⟨l20 _,λ_ _ _ _=>rfl⟩
theorem KpM.trans {D:List Nat}{g:Nat}{a b c:World}(h:KpM D g a b)(I:KpM D g b c):KpM D g a c:=
 ⟨l42 h.size I.size,λk hk Z O=>by
  have e:=h.block k hk Z O
  rw[<-e]
  exact I.block k (l99 hk h.size) Z λT cs hb=>O T cs<|e.symm.trans hb⟩
theorem KpM.of {D:List Nat}{g:Nat}{w w':World}{S:List Nat}(hf:Fr S w w')(I:∀k∈S,k=g\/∃(T:Nat) (cs:List Value),Blk w k T cs/\T∈D):KpM D g w w':=
 ⟨hf.size,λk hk hg O=>hf.block k hk λhm=>by
  rcases I k hm with e|⟨T,cs,Z,hi⟩
  ·exact hg e
  exact O T cs Z hi⟩
theorem u0a {w:World}{k T T':Nat}{cs cs':List Value}(h:Blk w k T cs)(D:Blk w k T' cs'):T=T':=by
 have e:=(show w.heap[k]?=some (.cells cs.toArray T (0,0)) from h).symm.trans (show w.heap[k]?=some (.cells cs'.toArray T' (0,0)) from D);simp only[l70,Obj.cells.injEq]at e;exact e.2.1
theorem KpM.blk {D:List Nat}{g:Nat}{w w':World}(h:KpM D g w w'){k T:Nat}{cs:List Value}(hb:Blk w k T cs)(hg:k≠g)(Z:T∉D):Blk w' k T cs:=
 (h.block k hb.lt hg λT' I O=>by rw[<-u0a hb O];exact Z).trans hb
theorem KpM.mapF {κ:Type}[DecidableEq κ]{V:κ->Value}{f:κ->Option Value}{I:List Nat}{g k:Nat}{w w':World}(h:KpM I g w w')(hb:MapF V w k f)(hg:k≠g):MapF V w' k f:=by
 obtain⟨O,c,m,D,Z⟩:=hb;refine⟨O,c,m,(h.block k (l17.1 D).1 hg λT cs hb=>?_).trans D,Z⟩;have e:=(show w.heap[k]?=some (.cells cs.toArray T (0,0)) from hb).symm.trans D;cases e
theorem y9p {α:Type}{E:Enc α}{T base g:Nat}{w:World}{v:Value}{ys:List α}{D:List Nat}(h:Lw.Own E T base w v ys)(I:T∈D):∀k∈z0v v,k=g\/∃(T:Nat) (cs:List Value),Blk w k T cs/\T∈D:=λk Z=>by
 obtain⟨cs,O⟩:=y0r h k Z
 exact .inr ⟨T,cs,O,I⟩
theorem j1y {g k T:Nat}{w:World}{cs:List Value}{D:List Nat}(h:Blk w k T cs)(O:T∈D):∀k'∈[k],k'=g\/∃(T:Nat) (cs:List Value),Blk w k' T cs/\T∈D:=λk' I=>by
 rw[l11]at I;subst I
 exact .inr ⟨T,cs,h,O⟩
structure MA where
  gk:Nat
  gy:Nat
  cy:Nat
  gt:Nat
  ct:Nat
  gc:Nat
  wk:World
abbrev MA.YV (a:MA):Value:=.slice (some ⟨a.gy,0,none⟩) 6 a.cy
abbrev MA.TV (a:MA):Value:=.slice (some ⟨a.gt,0,none⟩) 6 a.ct
structure MQ where
  rk:Int
  q:BdQ
  ys:List YQ
  ts:List TQ
  cr:List Cx
  fa:SV
  fl:List LId
abbrev MQ.p (m:MQ):MSt:=⟨m.rk,m.q.p,m.ys.map YQ.p,z2o m.ts,m.cr,m.fl⟩
abbrev j1r (a:MA)(m:MQ):List Value:=[.int .i64 m.rk,.slice m.q.f.1 m.q.f.2.1 m.q.f.2.2,.slice m.q.b.1 m.q.b.2.1 m.q.b.2.2,a.YV,a.TV,.map (some a.gc),.slice m.fa.1 m.fa.2.1 m.fa.2.2]
def crK (p:LId×LId):Value:=.agg #[.int .u8 p.1.y,.int .i64 p.1.n,.int .u8 p.2.y,.int .i64 p.2.n]
def crM (l:List Cx):List ((LId×LId)×Value):=l.map λc=>((c.a,c.b),.int .i64 c.n)
structure MtOk (τ:TyK) (Mt:Nat):Prop where
  o:τ.Ok
  y:Mt≠τ.Y
  t:Mt≠τ.T
  l:Mt≠τ.L
  i:Mt≠τ.I
  p:Mt≠τ.P
  s:Mt≠τ.S
abbrev u5j (τ:TyK)(Mt:Nat):List Nat:=[Mt,τ.Y,τ.T,τ.L,τ.I]
structure FrM (τ:TyK) (Mt:Nat) (wS:World) (a:MA) (w:World):Prop where
  fr:Fr [] wS w
  kp:KpM (u5j τ Mt) a.gc a.wk w
theorem FrM.size {τ:TyK}{Mt:Nat}{wS w:World}{a:MA}(h:FrM τ Mt wS a w):wS.heap.size<=w.heap.size:=h.fr.size
theorem FrM.next {τ:TyK}{Mt:Nat}{wS w w':World}{a:MA}(h:FrM τ Mt wS a w)(hf:Fr [] w w'):FrM τ Mt wS a w':=⟨h.fr.next hf,h.kp.trans<|KpM.of hf sp0⟩
theorem FrM.step {τ:TyK}{Mt:Nat}{wS w w':World}{a:MA}{S:List Nat}(h:FrM τ Mt wS a w)(hf:Fr S w w')(I:∀k∈S,k=a.gc\/∃(T:Nat) (cs:List Value),Blk w k T cs/\T∈u5j τ Mt)(D:∀k∈S,k<wS.heap.size->k∈([]:List Nat)):FrM τ Mt wS a w':=⟨h.fr.step hf D,h.kp.trans<|KpM.of hf I⟩
structure MkM (τ:TyK) (Mt:Nat) (wS:World) (a:MA) (w:World) (m:MQ):Prop where
  k:Blk w a.gk Mt (j1r a m)
  b:BdO τ.S τ.I wS.heap.size w m.q
  y:YsO τ wS.heap.size w a.YV m.ys
  t:TbO τ wS.heap.size w a.TV m.ts
  c:MapL crK w a.gc (crM m.cr)
  f:Lw.Own z1h τ.I wS.heap.size w (slv m.fa) m.fl
  fb:∀s∈m.q.fs++m.q.bs,∀k∈z0v (slv s.1),k∉z0v (slv m.fa)
  ft:∀i,i<6->∀q∈(m.ts.getD i tq0).2,∀k∈z0v (slv q.th),k∉z0v (slv m.fa)
  ly:m.ys.length=6
  lt:m.ts.length=6
  gk:wS.heap.size<=a.gk
  gc:wS.heap.size<=a.gc
  fr:FrM τ Mt wS a w
def MRet (τ:TyK)(Mt:Nat)(wS:World)(a:MA)(x:MR)(r:Value)(w':World):Prop:=
  FrM τ Mt wS a w'/\match x with
    | .error e=>r=.int .i64 e/\e≠0
    | .ok p=>r=.int .i64 0/\∃m,MkM τ Mt wS a w' m/\m.p=p
section
variable {τ:TyK} {Mt:Nat} {wS w w':World} {a:MA} {m:MQ} {j:Nat} {y:YQ}
theorem MRet.err {x:MR}{e:Int}{w':World}(I:x=.error e)(D:e≠0)(hf:FrM τ Mt wS a w'):MRet τ Mt wS a x (.int .i64 e) w':=by subst I;exact⟨hf,rfl,D⟩
theorem MRet.ok {x:MR}{m:MQ}{w':World}(D:x=.ok m.p)(h:MkM τ Mt wS a w' m):MRet τ Mt wS a x (.int .i64 0) w':=by subst D;exact⟨h.fr,rfl,m,h,rfl⟩
theorem MkM.ext (h:MkM τ Mt wS a w m)(hf:Fr [] w w'):MkM τ Mt wS a w' m:=
 ⟨h.k.ext hf,h.b.ext hf,h.y.ext hf,h.t.ext hf,h.c.fr hf sp0,h.f.ext hf,h.fb,h.ft,h.ly,h.lt,h.gk,h.gc,h.fr.next hf⟩
theorem MkM.yarn (h:MkM τ Mt wS a w m)(D:MtOk τ Mt)(O:j<6)(ho:Lw.Own z3w τ.Y wS.heap.size w' a.YV (m.ys.set j y))(hf:Fr [a.gy] w w')(hp:Lw.Own z2k τ.P wS.heap.size w (slv y.pe) y.pes):MkM τ Mt wS a w' { m with ys:=m.ys.set j y }:=by
 have o:∀T,T≠τ.Y->OffT w T [a.gy]:=λT I=>z7m h.y.out<|l51 I;refine⟨y5b h.k hf<|o _ D.y,BdO.tf h.b hf (o _<|l51 D.o.ys)<|o _<|l51 D.o.yi,h.y.put (by rw[h.ly];exact O) D.o ho hf hp,h.t.tf hf (o _<|l51 D.o.yt) (o _<|l51 D.o.yl) (o _<|l51 D.o.yi)<|o _<|l51 D.o.yp,h.c.tf hf<|o _ D.y,z2d h.f hf<|o _<|l51 D.o.yi,h.fb,h.ft,by rw[l19];exact h.ly,h.lt,h.gk,h.gc,h.fr.step hf (y9p h.y.out t42) λk Z a0=>?_⟩;have:=(h.y.out.blk k Z).1;omega
theorem MkM.beds {q:BdQ}{r:Int}(h:MkM τ Mt wS a w m)(D:MtOk τ Mt)(hq:BdO τ.S τ.I wS.heap.size w q)(O:Blk w' a.gk Mt (j1r a { m with q:=q,rk:=r }))(hf:Fr [a.gk] w w')(I:∀s∈q.fs++q.bs,∀k∈z0v (slv s.1),k∉z0v (slv m.fa)):MkM τ Mt wS a w' { m with q:=q,rk:=r }:=by
 have o:∀T,T≠Mt->OffT w T [a.gk]:=λT Z=>OffT.one h.k<|l51 Z;refine⟨O,BdO.tf hq hf (o _<|l51 D.s)<|o _<|l51 D.i,h.y.tf hf (o _<|l51 D.y)<|o _<|l51 D.p,h.t.tf hf (o _<|l51 D.t) (o _<|l51 D.l) (o _<|l51 D.i)<|o _<|l51 D.p,h.c.tf hf<|o _<|l51 D.y,z2d h.f hf<|o _<|l51 D.i,I,h.ft,h.ly,h.lt,h.gk,h.gc,h.fr.step hf (j1y h.k t42) λk O a0=>?_⟩;rw[l11]at O;have:=h.gk;omega
theorem x5c {Z I:Nat}{q:BdQ}{v:Value}{ys:List LId}{T base b:Nat}(O:BdO Z I b w' q)(hv:Lw.Own z1h T base w v ys)(hb:w.heap.size<=b):∀s∈q.fs++q.bs,∀k∈z0v (slv s.1),k∉z0v v:=λs hs k D hb=>by
 have:=(hv.blk k hb).2
 rcases l23.1 hs with e|e
 ·have:=((O.f.2 s e).blk k D).1;omega
 have:=((O.b.2 s e).blk k D).1;omega
theorem MkM.fall {w2:World}{u:SV}{l:List LId}(h:MkM τ Mt wS a w m)(D:MtOk τ Mt)(a0:τ.I≠τ.P)(h1:Lw.Own z1h τ.I wS.heap.size w' (slv u) l)(I:Fr (z0v<|slv m.fa) w w')(hx:∀k∈z0v (slv u),k∈z0v (slv m.fa)\/w.heap.size<=k)
    (O:Blk w2 a.gk Mt (j1r a { m with fa:=u,fl:=l })) (f2:Fr [a.gk] w' w2):MkM τ Mt wS a w2 { m with fa:=u,fl:=l }:=by
  have o1:∀T,T≠τ.I->OffT w T (z0v<|slv m.fa):=λT hT=>z7m h.f<|l51 hT
  have k1:=y5b h.k I<|o1 _ D.i
  have Z:∀T,T≠Mt->OffT w' T [a.gk]:=λT hT=>OffT.one k1<|l51 hT
  have dx:∀ {v:Value} {xs:List LId},Lw.Own z1h τ.I wS.heap.size w v xs->(∀k∈z0v v,k∉z0v (slv m.fa))->∀k∈z0v v,k∉z0v (slv u):=λho hd k O hb=>by
    rcases hx k hb with e|e
    · exact hd k O e
    · have:=(ho.blk k O).2;omega
  have fi:∀ {v:Value} {xs:List LId},Lw.Own z1h τ.I wS.heap.size w v xs->(∀k∈z0v v,k∉z0v (slv m.fa))->Lw.Own z1h τ.I wS.heap.size w2 v xs:=λho hd=>z2d (ho.fr I λk O hb=>hd k hb O) f2<|Z _<|l51 D.i
  have a2:∀s∈m.q.fs,Lw.Own z1h τ.I wS.heap.size w2 (slv s.1) s.2:=λs hs=>fi (h.b.f.2 s hs)<|h.fb s<|l23.2<|.inl hs
  have a1:∀s∈m.q.bs,Lw.Own z1h τ.I wS.heap.size w2 (slv s.1) s.2:=λs hs=>fi (h.b.b.2 s hs)<|h.fb s<|l23.2<|.inr hs
  refine⟨O,⟨⟨z2d (z2d h.b.f.1 I<|o1 _ D.o.si) f2<|Z _<|l51 D.s,a2⟩,⟨z2d (z2d h.b.b.1 I<|o1 _ D.o.si) f2<|Z _<|l51 D.s,a1⟩⟩,
    (h.y.tf I (o1 _ D.o.yi)<|o1 _<|l51 a0).tf f2 (Z _<|l51 D.y)<|Z _<|l51 D.p,
    ⟨z2d (z2d h.t.out I<|o1 _ D.o.ti) f2<|Z _<|l51 D.t,λi hi=>z2d (z2d (h.t.ins i hi) I<|o1 _ D.o.li) f2<|Z _<|l51 D.l,h.t.off,λi hi q hq=>⟨fi (h.t.lps i hi q hq).1<|h.ft i (by rw[<-h.lt];exact hi) q hq,z2d (z2d (h.t.lps i hi q hq).2 I<|o1 _<|l51 a0) f2<|Z _<|l51 D.p⟩⟩,
    (h.c.tf I<|o1 _ D.i).tf f2<|Z _<|l51 D.y,z2d h1 f2<|Z _<|l51 D.i,λs hs=>?_,λi hi q hq=>dx (h.t.lps i (by rw[h.lt];exact hi) q hq).1<|h.ft i hi q hq,h.ly,h.lt,h.gk,h.gc,(h.fr.step I (y9p h.f t42) λk O a3=>?_).step f2 (j1y k1 t42) λk O a3=>?_⟩
  · rcases l23.1 hs with e|e
    · exact dx (h.b.f.2 s e)<|h.fb s hs
    · exact dx (h.b.b.2 s e)<|h.fb s hs
  · have:=(h.f.blk k O).1;omega
  · rw[l11]at O;have:=h.gk;omega
theorem MkM.mark (h:MkM τ Mt wS a w m):MkM τ Mt wS { a with wk:=w } w m:=⟨h.k,h.b,h.y,h.t,h.c,h.f,h.fb,h.ft,h.ly,h.lt,h.gk,h.gc,⟨h.fr.fr,KpM.refl _ _ _⟩⟩
theorem MkM.unmark (h:MkM τ Mt wS { a with wk:=w } w' m)(D:FrM τ Mt wS a w):MkM τ Mt wS a w' m:=⟨h.k,h.b,h.y,h.t,h.c,h.f,h.fb,h.ft,h.ly,h.lt,h.gk,h.gc,⟨h.fr.fr,D.kp.trans h.fr.kp⟩⟩
def u8o (x:MR):Int:=match x with
  | .error e=>e
  | .ok _=>0
theorem MRet.split {x:MR}{r:Value}(h:MRet τ Mt wS a x r w'):r=.int .i64 (u8o x)/\FrM τ Mt wS a w'/\∃O,u8o x=0->MkM τ Mt wS a w' O/\x=.ok O.p:=by
 obtain⟨I,D⟩:=h;cases x with
 | error e=>exact⟨D.1,I,⟨0,⟨sv0,sv0,[],[]⟩,[],[],[],sv0,[]⟩,λZ=>absurd Z D.2⟩
 | ok p=>exact⟨D.1,I,D.2.choose,λ_=>⟨D.2.choose_spec.1,congrArg Except.ok D.2.choose_spec.2.symm⟩⟩
theorem y1d {x:MR}(h:u8o x≠0):x=.error (u8o x):=by cases x with
 | error e=>rfl
 | ok p=>exact absurd U h
theorem y6q (b n r:Int):-400<=z2b b n r/\z2b b n r<=400:=by
 unfold z2b;split;omega;rename_i h;have D:z3m b n=0:=l15.1 λe=>h<|.inl e;have I:-4<=r/\r<=4:=l15.1 λe=>h<|.inr e;have:=z2t D;split<;>omega
def OwnIf {α:Type}(c:Prop)(E:Enc α)(T base:Nat)(w:World)(v:Value)(ys:List α):Prop:=c->Lw.Own E T base w v ys
theorem OwnIf.fr {α:Type}{c:Prop}{E:Enc α}{T base:Nat}{w w':World}{v:Value}{ys:List α}{S:List Nat}(h:OwnIf c E T base w v ys)(hf:Fr S w w')(hn:c->∀k∈S,k∉z0v v:=by simp[z0v]<;>omega):OwnIf c E T base w' v ys:=λD=>(h D).fr hf<|hn D
theorem OwnIf.ext {α:Type}{c:Prop}{E:Enc α}{T base:Nat}{w w':World}{v:Value}{ys:List α}(h:OwnIf c E T base w v ys)(hf:Fr [] w w'):OwnIf c E T base w' v ys:=λD=>(h D).ext hf
theorem k8e (m:MQ)(y:Int):m.p.y y=(m.ys.getD (y-1).toNat yq0).p:=by
 unfold MSt.y;rw[List.getD,List.getD,l26];cases m.ys[(y-1).toNat]?<;>rfl
theorem y2e {y:Int}(m:MQ)(q:YQ)(D:(y-1).toNat=j):{ m with ys:=m.ys.set j q }.p=m.p.setY y q.p:=by
 subst D;unfold MSt.setY MQ.p;simp only[l136]
end
end Go.G08
namespace Go.Proofs.YtkafbfjmcigaiaaGreatDoor
open Go.Lw Go.G21 Go.G08 _root_.Go.Proofs.Tryz
theorem x6g (q:YQ)(w0:World)(hp:Sl z2k w0 (slv q.pe) q.pes):Rets prog 107 #[yvv q] w0 λr w'=>∃q':YQ,r=.tuple #[yvv q',.int .i64 (lvE q.p)]/\(lvE q.p=0->q'=⟨false,0,q.ct,false,sv0,[]⟩)/\Fr [] w0 w':=by
 have a4:=z2f hp;have a1:=hp.len_le;unfold maxLen at a1;refine wf func107 U ?_;have a0:=hp;refine sr<|bx U<|λg1 w1 a2 I q1 z1=>(al z6w U<|λg2 w2 a3 D q2 z2=>(asg U<|nn<|sq<|sr ?_));have I:=I.ext q2;refine z0l U I z3v ?_;have hp:=a0.ext<|q1.n1 q2;refine cl (ev1 U) k5g (y0e q _ hp) ?_;rintro _ w3 ⟨rfl,Z⟩;refine asg U<|nn<|sr<|mv U<|ne' U<|nn<|cd U (λc0=>?_)<|λc0=>?_;refine sr<|z1r (cs:=[_,_,_,_,_]) z0f y0p z0r U ?_;refine mv U ?_;have D:=D.ext Z;refine z0j (vs:=[_,_,_,_,_]) U D z3y<|λw4 D q4 z4=>(asg U<|nn<|rt<|tr<|rCT U U D z3v U ?_);have O:lvE q.p=ynE q.p:=by unfold lvE;rw[if_pos c0]
 exact⟨_,rfl,yq0,by rw[O];rfl,(λh=>absurd h (by rw[O];exact c0)),(q1.z3 q2 Z q4)⟩;refine sk<|tn<|sq<|sr<|fad U z9m ?_;have I:=I.ext Z;refine z0i U I U na4<|nt' U<|nn<|cd U (λc1=>?_)<|λc1=>?_;refine sr<|z1r (cs:=[_,_,_,_,_]) z0f y0p z0r U ?_;have D:=D.ext Z;refine z0j (vs:=[_,_,_,_,_]) U D z3y<|λw5 D q5 z5=>(asg U<|nn<|rt<|tr<|rCT U U D z3v U ?_);have O:lvE q.p=12:=by unfold lvE;rw[if_neg c0,if_pos (by simpa using c1)]
 exact⟨_,rfl,yq0,by rw[O];rfl,(λh=>absurd h (by rw[O];decide)),(q1.z3 q2 Z q5)⟩;refine sk<|tn<|sr<|fad U z9g<|z0i U I U na3<|z1r (cs:=[_,_,_,_,_]) (ev1 U) y0p (z0g U z0r) U ?_;have D:=D.ext Z;refine z0j (vs:=[_,_,_,_,_]) U D z3y<|λw6 D q6 z6=>(asg U<|nn<|rt<|rCT U U D z3v U ?_);have O:lvE q.p=0:=by unfold lvE;rw[if_neg c0,if_neg (by simpa using c1)]
 exact⟨_,rfl,⟨false,0,q.ct,false,sv0,[]⟩,by rw[O];rfl,(λ_=>rfl),(q1.z3 q2 Z q6)⟩
theorem k2w (v:Value)(l:List Int)(w0:World)(I:Sl Enc.i64 w0 v l)(hl:l.length<=1000):Rets prog 119 #[v] w0 λr w'=>r=.int .i64 (orZ l)/\Fr [] w0 w':=by
 obtain⟨A,c,rfl,a1,hM,hA⟩:=id I;clear hA;unfold maxLen at hM;refine wf func119 U ?_;have Z:=I;refine sr<|asg U<|nn<|sr<|asg U<|nn<|sq<|sr<|mv U<|lnS U<|mv U<|nn<|bl<|lpK (ι:=Nat) (ll3 3 6 7) (λi=>[(8,.int .i64 (i:Int))]) (λi w'=>Fr [] w0 w'/\i<=l.length/\∀j,j<i->l.getD j 0=0) (λi=>l.length-i) 0 U ⟨l12 _ _,⟨l16 _,λj h=>absurd h oo⟩⟩ ?_;rintro i w1 ⟨O,⟨hi,hz⟩⟩;refine kpC (ll4 3 6 7 8) U<|sr<|lt' U<|nn<|sq<|cd U (λc0=>?_)<|λc0=>?_;refine sk<|tn<|sq<|bl<|sr ?_;have I:=Z.ext O;refine z1a (0) U I U y1e z1j<|λa0 D=>?_;refine z1c U (D _ I) na3<|asg U<|nn<|sr<|mv U<|mv U<|ne' U<|nn<|cd U (λc1=>?_)<|λc1=>?_;refine sr<|mv U<|asg U<|kpL (ll1 2) U<|nn<|rt<|rb<|tr<|tr<|rb<|tr<|r1 U ?_;exact⟨_,rfl,congrArg (Value.int .i64) (v9t oo hz oo).symm,O⟩;refine sk<|bn'<|tn<|rg<|ad6 U<|mv U<|nl ?_;exact lpE (i+1) U ⟨O,⟨oo,λj h=>by
  by_cases e:j=i;subst e;omega;exact hz j oo⟩⟩ oo
 obtain rfl:i=l.length:=by omega
 refine ex<|te<|te<|xh<|tn<|sr<|mv U<|asg U<|kpL (ll1 2) U<|nn<|rt<|r1 U ?_;exact⟨_,rfl,congrArg (Value.int .i64) (x1w hz).symm,O⟩
theorem y3n (x1 x2:LId)(w0:World):Rets prog 66 #[ivv x1,ivv x2] w0 λr w'=>r=.int .i64 (z6q x1 x2)/\Fr [] w0 w':=by
 refine wf func66 U<|sr<|bx U<|λg2 w1 a3 O q1 z1=>(bx U<|λg3 w2 a4 Z q2 z2=>(asg U<|nn<|sq ?_));intro a h;refine rgh none (Fr []) ?_;intro w3 q3 hC;have O:=O.ext<|q2.n1 q3;have Z:=Z.ext q3;have D:=O;have I:=Z;refine z0c 0 h U z9r U λa h=>z0m 1 h U (fx D.ext) U na5 U λa h=>z0c 2 h U z9r U λa h=>z0m 3 h U (fx I.ext) U na5 U λa h=>z0c 5 h U y1k U λa h=>z0m 6 h U (fx D.ext) U na3 U λa h=>z0c 7 h U y1k U λa h=>z0m 8 h U (fx I.ext) U na3 U λa h=>z0d 4 U<|z0n h (z0a U<|z0a U z0f) cO (k7j _ _ _) ?_;rintro _ w4 ⟨rfl,q4⟩ a h;have hC:=hC.next q4;refine z0b<|z0d 9 U<|z0n h (z0a U<|z0a U z0f) cO (v7v _ _ _) ?_;rintro _ w5 ⟨rfl,q5⟩ a h;have O:=O.ext<|q4.n1 q5;have Z:=Z.ext<|q4.n1 q5;have hC:=hC.next q5;refine z0b<|z0d 10 U<|z2p ([y1n x1.y x2.y,y1n x1.n x2.n]) h (z0a U<|z0a U z0f) U y1e λa1 w6 hg a2 q6 hz a h=>?_;have a0:g2<a1:=by have:=O.lt;omega
 have a0:g3<a1:=by have:=Z.lt;omega
 have hC:=hC.next q6;refine z0b<|z0d 11 U<|z0n h (z0a U z0f) cO (k2w _ [y1n x1.y x2.y,y1n x1.n x2.n] _ a2.sl sp0) ?_;rintro _ w7 ⟨rfl,q7⟩ a h;have hC:=hC.next q7;refine z0b<|z0d 12 U<|z0o h U λa h=>?_;refine z0b<|z0q ?_;clear hC D I;refine xB (ll1 4) h U<|tn<|rt<|r1 U ?_;exact⟨_,rfl,congrArg (Value.int .i64)<|v2s x1 x2,(q1.n6 q2 q3 q4 q5 q6 q7)⟩
theorem y6n:ElemOf prog 28 110 z3w 56:=ElemOf.mk' (z:=(.agg #[.bool false,.int .i64 0,.int .i64 0,.bool false,.slice none 0 0])) underlying28 kr U
theorem z4d:z1e prog 120 2 3:=λ_ _=>kr
theorem y6d:z2e prog 28:=λ_=>kr
abbrev τd:TyK:=⟨110,114,131,54,172,32,34⟩
theorem τd_ok:τd.Ok:=by constructor<;>decide
theorem mtd:MtOk τd 120:=⟨τd_ok,dd,dd,dd,dd,dd,dd⟩
theorem k1z (wS:World)(ka:MA)(m:MQ)(o:MOp)(w0:World)(hM:MkM τd 120 wS ka w0 m)(hy:1<=o.y/\o.y<=6):Rets prog 55 #[pta ka.gk,opV o] w0 λr w'=>MRet τd 120 wS ka (inM m.p o) r w':=by
 have d3:=hM.fr.size;have hk:=hM.k;have c1:=hk.lt;have d0:=hM.ly;have c9:=hM.lt;have b8:=(hM.y.out.blk ka.gy t10).2;obtain⟨j,hj,d1⟩:∃j:Nat,j<6/\o.y=(j:Int)+1:=⟨(o.y-1).toNat,oo,oo⟩;have b1:(o.y-1).toNat=j:=by omega
 have a9:m.p.y o.y=(m.ys.getD j yq0).p:=by rw[k8e,b1]
 refine wf func55 U ?_;have a4:=hM;refine sr<|bx U<|λg3 w1 b9 D q1 z1=>(asg U<|nn<|sq ?_);have hM:=a4.ext q1;intro a h;refine rgh none (Fr []) ?_;intro w2 q2 hC;have z2:=q2.size;have hM:=hM.ext q2;have hk:=hk.ext<|q1.n1 q2;have D:=D.ext q2;have a0:=hM;have Z:=hk;have I:=D;refine z0e 0 h U λa h=>z0p 1 h U λa h=>z0c 2 h U z4d U λa h=>z0m 3 h U (fx Z.ext) U y6d U λa h=>z0c 4 h U z4t U λa h=>z0m 5 h U (fx I.ext) U na5 U λa h=>z3a 6 h U t23 U λa h=>z1d (p:=j) (yq0) 7 h U hM.y.out.sl U y6n U λb7 b3 a h=>z1z (cs:=z3w.enc<|m.ys.getD j yq0) 8 h wn U (λ_ hw=>b3 _ (a0.ext hw).y.out.sl) z3v U λa h=>z0c 9 h U z9o U λa h=>z0m 10 h U (fx I.ext) U x4g U λa h=>?_;refine z1v 11 15 kr U ?_ ?_;refine z0n h (z0a U<|z0a U z0f) cO (x7o (m.ys.getD j yq0) o.d _ (hM.y.ins j oo).sl) ?_;rintro _ w3 ⟨qn,rfl,a7,q3⟩ a h;have z3:=q3.size;have hk:=hk.ext q3;have D:=D.ext q3;have hC:=hC.next q3;refine z0b<|z0e 12 h U λa h=>z0k 13 h U λa h=>z0k 14 h U λa h=>z0d 15 U<|z0u h z6w U λw4 O q4 hz a h=>?_;obtain⟨a3,hg⟩:∃g,g=w3.heap.size:=⟨_,rfl⟩;rw[<-hg]at O h hz;have b5.gk_5:ka.gk<a3:=by have:=hk.lt;omega
 have b2:g3<a3:=by have:=D.lt;omega
 have z4:=q4.size;have hM:=hM.ext<|q3.n1 q4;have hk:=hk.ext q4;have D:=D.ext q4;have hC:=hC.next q4;refine z0b<|z0d 16 U<|z0t h U O U z3y ?_ (h1:=(by first|(simp[Value.oneCell',S];done)|exact z3w.one<|m.ys.getD j yq0));intro w5 a6 q5 hz a h;have z5:=q5.size;have hk:=hk.fr q5;have D:=D.fr q5;have hC:=hC.sp q5;have O:Blk w5 a3 _ [_,_,_,_,_]:=a6;clear a6;refine z0b<|z0d 17 U<|z0o h U λa h=>?_;refine z0b<|z0q ?_;clear hC a0 Z I;refine xB (ll4 0 3 5 6) h U<|tn<|sq<|sr<|mv U<|eq' U<|nn<|cd U (λc0=>?_)<|λc0=>?_;obtain rfl:=a7 c0;have hM:=a4.ext<|q1.z4 q2 q3 q4 q5;intro a h;refine rgh (some 9) (Fr []) ?_;intro w6 q6 hC;have z6:=q6.size;have hM:=hM.ext q6;have hk:=hk.ext q6;have D:=D.ext q6;have O:=O.ext q6;have a0:=hM;have Z:=hk;have I:=D;have a1:=O;refine z0e 0 h U λa h=>z0p 1 h U λa h=>z0c 2 h U z4d U λa h=>z0m 3 h U (fx Z.ext) U y6d U λa h=>z0c 4 h U z4t U λa h=>z0m 5 h U (fx I.ext) U na5 U λa h=>z3a 6 h U t23 U λa h=>z0x 7 h U (fx a1.ext) z3v U λa h=>z1l 8 kr hC (p:=j) h wn U y6n oo oo oo U U λa h=>z0d 9 U<|z0z (i:=j) (⟨true,if o.d=1 then 179 else -13,(m.ys.getD j yq0).ct,true,sv0,[]⟩:YQ) h U hM.y.out (by rw[hM.ly];exact hj) U z3y λw7 a2 q7 _hz a h=>?_;have hM:=hM.yarn mtd hj a2 q7<|Own.nil _;have a4:=hM;clear a2;have z7:=q7.size;have D:=D.fr q7;have O:=O.fr q7;have hk:=hM.k;clear _hz;refine z1m<|z0q ?_;clear hC a0 Z I a1;refine xB (ll1 6) h U<|tn<|sr<|mv U<|asg U<|nn<|rt<|r1 U ?_;exact⟨_,rfl,by rw[c0];exact MRet.ok (by unfold inM;rw[a9,if_neg (λe=>e c0)];exact congrArg Except.ok (y2e m (⟨true,if o.d=1 then 179 else -13,(m.ys.getD j yq0).ct,true,sv0,[]⟩:YQ) b1).symm) hM⟩;refine sk<|tn<|sr<|mv U<|asg U<|kpL (ll1 4) U<|nn<|rt<|r1 U ?_;have hM:=a4.ext<|q1.z4 q2 q3 q4 q5;exact⟨_,rfl,MRet.err (by unfold inM;rw[a9,if_pos c0]) c0 hM.fr⟩;refine z0u h z6w U λw8 O q8 hz a h=>?_;obtain⟨a3,hg⟩:∃g,g=w2.heap.size:=⟨_,rfl⟩;rw[<-hg]at O h hz;have b5.gk_5:ka.gk<a3:=by have:=hk.lt;omega
 have b2:g3<a3:=by have:=D.lt;omega
 have z8:=q8.size;have hM:=hM.ext q8;have hC:=hC.next q8;refine z0b<|z0d 11 U<|z0n h (z0a U<|z0a U z0f) cO (x7o (m.ys.getD j yq0) o.d _ (hM.y.ins j oo).sl) ?_;rintro _ w9 ⟨qn,rfl,a7,q9⟩ a h;have z9:=q9.size;have hM:=hM.ext q9;have hk:=hk.ext<|q8.n1 q9;have D:=D.ext<|q8.n1 q9;have O:=O.ext q9;have hC:=hC.next q9;refine z0b<|z0e 12 h U λa h=>z0k 13 h U λa h=>z0k 14 h U λa h=>z0d 16 U<|z0t h U O U z3y ?_ (h1:=(by first|(simp[Value.oneCell',S];done)|exact z3w.one<|m.ys.getD j yq0));intro b6 a6 a5 hz a h;have d5:=a5.size;have hk:=hk.fr a5;have D:=D.fr a5;have hC:=hC.sp a5;have O:Blk b6 a3 _ [_,_,_,_,_]:=a6;clear a6;refine z0b<|z0d 17 U<|z0o h U λa h=>?_;refine z0b<|z0q ?_;clear hC a0 Z I;refine xB (ll4 0 3 5 6) h U<|tn<|sq<|sr<|mv U<|eq' U<|nn<|cd U (λc0=>?_)<|λc0=>?_;obtain rfl:=a7 c0;have hM:=a4.ext<|q1.z4 q2 q8 q9 a5;intro a h;refine rgh (some 9) (Fr []) ?_;intro b4 a8 hC;have d6:=a8.size;have hM:=hM.ext a8;have hk:=hk.ext a8;have D:=D.ext a8;have O:=O.ext a8;have a0:=hM;have Z:=hk;have I:=D;have a1:=O;refine z0e 0 h U λa h=>z0p 1 h U λa h=>z0c 2 h U z4d U λa h=>z0m 3 h U (fx Z.ext) U y6d U λa h=>z0c 4 h U z4t U λa h=>z0m 5 h U (fx I.ext) U na5 U λa h=>z3a 6 h U t23 U λa h=>z0x 7 h U (fx a1.ext) z3v U λa h=>z1l 8 kr hC (p:=j) h wn U y6n oo oo oo U U λa h=>z0d 9 U<|z0z (i:=j) (⟨true,if o.d=1 then 179 else -13,(m.ys.getD j yq0).ct,true,sv0,[]⟩:YQ) h U hM.y.out (by rw[hM.ly];exact hj) U z3y λd4 a2 b0 _hz a h=>?_;have hM:=hM.yarn mtd hj a2 b0<|Own.nil _;have a4:=hM;clear a2;have d7:=b0.size;have D:=D.fr b0;have O:=O.fr b0;have hk:=hM.k;clear _hz;refine z1m<|z0q ?_;clear hC a0 Z I a1;refine xB (ll1 6) h U<|tn<|sr<|mv U<|asg U<|nn<|rt<|r1 U ?_;exact⟨_,rfl,by rw[c0];exact MRet.ok (by unfold inM;rw[a9,if_neg (λe=>e c0)];exact congrArg Except.ok (y2e m (⟨true,if o.d=1 then 179 else -13,(m.ys.getD j yq0).ct,true,sv0,[]⟩:YQ) b1).symm) hM⟩;refine sk<|tn<|sr<|mv U<|asg U<|kpL (ll1 4) U<|nn<|rt<|r1 U ?_;have hM:=a4.ext<|q1.z4 q2 q8 q9 a5;exact⟨_,rfl,MRet.err (by unfold inM;rw[a9,if_pos c0]) c0 hM.fr⟩
theorem j6m (wS:World)(ka:MA)(m:MQ)(o:MOp)(w0:World)(hM:MkM τd 120 wS ka w0 m)(hy:1<=o.y/\o.y<=6):Rets prog 56 #[pta ka.gk,opV o] w0 λr w'=>MRet τd 120 wS ka (x7f m.p o) r w':=by
 have d3:=hM.fr.size;have hk:=hM.k;have c1:=hk.lt;have d0:=hM.ly;have c9:=hM.lt;have b8:=(hM.y.out.blk ka.gy t10).2;obtain⟨j,hj,d1⟩:∃j:Nat,j<6/\o.y=(j:Int)+1:=⟨(o.y-1).toNat,oo,oo⟩;have b1:(o.y-1).toNat=j:=by omega
 have a9:m.p.y o.y=(m.ys.getD j yq0).p:=by rw[k8e,b1]
 refine wf func56 U ?_;have a4:=hM;refine sr<|bx U<|λg3 w1 b9 D q1 z1=>(asg U<|nn<|sq ?_);have hM:=a4.ext q1;intro a h;refine rgh none (Fr []) ?_;intro w2 q2 hC;have z2:=q2.size;have hM:=hM.ext q2;have hk:=hk.ext<|q1.n1 q2;have D:=D.ext q2;have a0:=hM;have Z:=hk;have O:=D;refine z0e 0 h U λa h=>z0p 1 h U λa h=>z0c 2 h U z4d U λa h=>z0m 3 h U (fx Z.ext) U y6d U λa h=>z0c 4 h U z4t U λa h=>z0m 5 h U (fx O.ext) U na5 U λa h=>z3a 6 h U t23 U λa h=>z1d (p:=j) (yq0) 7 h U hM.y.out.sl U y6n U λb7 b3 a h=>z1z (cs:=z3w.enc<|m.ys.getD j yq0) 8 h wn U (λ_ hw=>b3 _ (a0.ext hw).y.out.sl) z3v U λa h=>z1v 9 13 kr U ?_ ?_;refine z0n h (z0a U z0f) cO (x6g (m.ys.getD j yq0) _ (hM.y.ins j oo).sl) ?_;rintro _ w3 ⟨qn,rfl,a7,q3⟩ a h;have z3:=q3.size;have hk:=hk.ext q3;have D:=D.ext q3;have hC:=hC.next q3;refine z0b<|z0e 10 h U λa h=>z0k 11 h U λa h=>z0k 12 h U λa h=>z0d 13 U<|z0u h z6w U λw4 I q4 hz a h=>?_;obtain⟨a3,hg⟩:∃g,g=w3.heap.size:=⟨_,rfl⟩;rw[<-hg]at I h hz;have b5.gk_5:ka.gk<a3:=by have:=hk.lt;omega
 have b2:g3<a3:=by have:=D.lt;omega
 have z4:=q4.size;have hM:=hM.ext<|q3.n1 q4;have hk:=hk.ext q4;have D:=D.ext q4;have hC:=hC.next q4;refine z0b<|z0d 14 U<|z0t h U I U z3y ?_ (h1:=(by first|(simp[Value.oneCell',S];done)|exact z3w.one<|m.ys.getD j yq0));intro w5 a6 q5 hz a h;have z5:=q5.size;have hk:=hk.fr q5;have D:=D.fr q5;have hC:=hC.sp q5;have I:Blk w5 a3 _ [_,_,_,_,_]:=a6;clear a6;refine z0b<|z0d 15 U<|z0o h U λa h=>?_;refine z0b<|z0q ?_;clear hC a0 Z O;refine xB (ll4 0 3 5 6) h U<|tn<|sq<|sr<|mv U<|eq' U<|nn<|cd U (λc0=>?_)<|λc0=>?_;obtain rfl:=a7 c0;have hM:=a4.ext<|q1.z4 q2 q3 q4 q5;intro a h;refine rgh (some 9) (Fr []) ?_;intro w6 q6 hC;have z6:=q6.size;have hM:=hM.ext q6;have hk:=hk.ext q6;have D:=D.ext q6;have I:=I.ext q6;have a0:=hM;have Z:=hk;have O:=D;have a1:=I;refine z0e 0 h U λa h=>z0p 1 h U λa h=>z0c 2 h U z4d U λa h=>z0m 3 h U (fx Z.ext) U y6d U λa h=>z0c 4 h U z4t U λa h=>z0m 5 h U (fx O.ext) U na5 U λa h=>z3a 6 h U t23 U λa h=>z0x 7 h U (fx a1.ext) z3v U λa h=>z1l 8 kr hC (p:=j) h wn U y6n oo oo oo U U λa h=>z0d 9 U<|z0z (i:=j) (⟨false,0,(m.ys.getD j yq0).ct,false,sv0,[]⟩:YQ) h U hM.y.out (by rw[hM.ly];exact hj) U z3y λw7 a2 q7 _hz a h=>?_;have hM:=hM.yarn mtd hj a2 q7<|Own.nil _;have a4:=hM;clear a2;have z7:=q7.size;have D:=D.fr q7;have I:=I.fr q7;have hk:=hM.k;clear _hz;refine z1m<|z0q ?_;clear hC a0 Z O a1;refine xB (ll1 6) h U<|tn<|sr<|mv U<|asg U<|nn<|rt<|r1 U ?_;exact⟨_,rfl,by rw[c0];exact MRet.ok (by unfold x7f;rw[a9,if_neg (λe=>e c0)];exact congrArg Except.ok (y2e m (⟨false,0,(m.ys.getD j yq0).ct,false,sv0,[]⟩:YQ) b1).symm) hM⟩;refine sk<|tn<|sr<|mv U<|asg U<|kpL (ll1 4) U<|nn<|rt<|r1 U ?_;have hM:=a4.ext<|q1.z4 q2 q3 q4 q5;exact⟨_,rfl,MRet.err (by unfold x7f;rw[a9,if_pos c0]) c0 hM.fr⟩;refine z0u h z6w U λw8 I q8 hz a h=>?_;obtain⟨a3,hg⟩:∃g,g=w2.heap.size:=⟨_,rfl⟩;rw[<-hg]at I h hz;have b5.gk_5:ka.gk<a3:=by have:=hk.lt;omega
 have b2:g3<a3:=by have:=D.lt;omega
 have z8:=q8.size;have hM:=hM.ext q8;have hC:=hC.next q8;refine z0b<|z0d 9 U<|z0n h (z0a U z0f) cO (x6g (m.ys.getD j yq0) _ (hM.y.ins j oo).sl) ?_;rintro _ w9 ⟨qn,rfl,a7,q9⟩ a h;have z9:=q9.size;have hM:=hM.ext q9;have hk:=hk.ext<|q8.n1 q9;have D:=D.ext<|q8.n1 q9;have I:=I.ext q9;have hC:=hC.next q9;refine z0b<|z0e 10 h U λa h=>z0k 11 h U λa h=>z0k 12 h U λa h=>z0d 14 U<|z0t h U I U z3y ?_ (h1:=(by first|(simp[Value.oneCell',S];done)|exact z3w.one<|m.ys.getD j yq0));intro b6 a6 a5 hz a h;have d5:=a5.size;have hk:=hk.fr a5;have D:=D.fr a5;have hC:=hC.sp a5;have I:Blk b6 a3 _ [_,_,_,_,_]:=a6;clear a6;refine z0b<|z0d 15 U<|z0o h U λa h=>?_;refine z0b<|z0q ?_;clear hC a0 Z O;refine xB (ll4 0 3 5 6) h U<|tn<|sq<|sr<|mv U<|eq' U<|nn<|cd U (λc0=>?_)<|λc0=>?_;obtain rfl:=a7 c0;have hM:=a4.ext<|q1.z4 q2 q8 q9 a5;intro a h;refine rgh (some 9) (Fr []) ?_;intro b4 a8 hC;have d6:=a8.size;have hM:=hM.ext a8;have hk:=hk.ext a8;have D:=D.ext a8;have I:=I.ext a8;have a0:=hM;have Z:=hk;have O:=D;have a1:=I;refine z0e 0 h U λa h=>z0p 1 h U λa h=>z0c 2 h U z4d U λa h=>z0m 3 h U (fx Z.ext) U y6d U λa h=>z0c 4 h U z4t U λa h=>z0m 5 h U (fx O.ext) U na5 U λa h=>z3a 6 h U t23 U λa h=>z0x 7 h U (fx a1.ext) z3v U λa h=>z1l 8 kr hC (p:=j) h wn U y6n oo oo oo U U λa h=>z0d 9 U<|z0z (i:=j) (⟨false,0,(m.ys.getD j yq0).ct,false,sv0,[]⟩:YQ) h U hM.y.out (by rw[hM.ly];exact hj) U z3y λd4 a2 b0 _hz a h=>?_;have hM:=hM.yarn mtd hj a2 b0<|Own.nil _;have a4:=hM;clear a2;have d7:=b0.size;have D:=D.fr b0;have I:=I.fr b0;have hk:=hM.k;clear _hz;refine z1m<|z0q ?_;clear hC a0 Z O a1;refine xB (ll1 6) h U<|tn<|sr<|mv U<|asg U<|nn<|rt<|r1 U ?_;exact⟨_,rfl,by rw[c0];exact MRet.ok (by unfold x7f;rw[a9,if_neg (λe=>e c0)];exact congrArg Except.ok (y2e m (⟨false,0,(m.ys.getD j yq0).ct,false,sv0,[]⟩:YQ) b1).symm) hM⟩;refine sk<|tn<|sr<|mv U<|asg U<|kpL (ll1 4) U<|nn<|rt<|r1 U ?_;have hM:=a4.ext<|q1.z4 q2 q8 q9 a5;exact⟨_,rfl,MRet.err (by unfold x7f;rw[a9,if_pos c0]) c0 hM.fr⟩
theorem z4o:z1e prog 120 0 0:=λ_ _=>kr
theorem v0y (wS:World)(ka:MA)(m:MQ)(o:MOp)(w0:World)(hM:MkM τd 120 wS ka w0 m)(hi:MInv m.p)(hy:1<=o.y/\o.y<=6)(hn:z3m o.b o.p=0):Rets prog 109 #[pta ka.gk,opV o] w0 λr w'=>r=.tuple #[.int .i64 (if z5z m.p o=0 then z7b m.p o else 0),.int .i64 (if z5z m.p o=0 then (z2b o.b o.p m.rk) else 0),.int .i64 (z5z m.p o)]/\Fr [] w0 w':=by
 have b8:=hM.fr.size;have hk:=hM.k;have b2:=hk.lt;have b4:=hM.ly;have b3:=hM.lt;have b0:=(hM.y.out.blk ka.gy t10).2;obtain⟨j,hj,b6⟩:∃j:Nat,j<6/\o.y=(j:Int)+1:=⟨(o.y-1).toNat,oo,oo⟩;have a7:(o.y-1).toNat=j:=by omega
 have O:m.p.y o.y=(m.ys.getD j yq0).p:=by rw[k8e,a7]
 have b7:=y6q o.b o.p m.rk;have b5:=z2t hn;refine wf func109 U ?_;have a6:=hM;refine sr<|bx U<|λg3 w1 b1 D q1 z1=>(asg U<|asg U<|asg U<|nn<|sq ?_);have hM:=a6.ext q1;intro a h;refine rgh none (Fr []) ?_;intro w2 q2 hC;have z2:=q2.size;have hM:=hM.ext q2;have hk:=hk.ext<|q1.n1 q2;have D:=D.ext q2;have a2:=hM;have a1:=hk;have Z:=D;refine z0e 0 h U λa h=>z0p 1 h U λa h=>z0c 2 h U z4d U λa h=>z0m 3 h U (fx a1.ext) U y6d U λa h=>z0c 4 h U z4t U λa h=>z0m 5 h U (fx Z.ext) U na5 U λa h=>z3a 6 h U t23 U λa h=>z1d (p:=j) (yq0) 7 h U hM.y.out.sl U y6n U λa9 a5 a h=>z1z (cs:=z3w.enc<|m.ys.getD j yq0) 8 h wn U (λ_ hw=>a5 _ (a2.ext hw).y.out.sl) z3v U λa h=>z0c 9 h U z5w U λa h=>z1f (vs:=[_,_]) 10 h U (fx Z.ext) z5k U U λa h=>?_;refine z0e 11 h U λa h=>z0p 12 h U λa h=>z0c 13 h U z4o U λa h=>z0m 14 h U (fx a1.ext) U na3 U λa h=>z1v 15 16 kr U ?_ ?_;refine z0n h (z0a U<|z0a U z0f) v5e (y4b _ _ _ _ (by have:=hi.rk;omega)) ?_;rintro _ w3 ⟨rfl,q3⟩ a h;have z3:=q3.size;have hk:=hk.ext q3;have D:=D.ext q3;have hC:=hC.next q3;refine z0b<|z0d 16 U<|z0u h z6w U λw4 I q4 hz a h=>?_;obtain⟨a0,hg⟩:∃g,g=w3.heap.size:=⟨_,rfl⟩;rw[<-hg]at I h hz;have a8.gk_7:ka.gk<a0:=by have:=hk.lt;omega
 have a4:g3<a0:=by have:=D.lt;omega
 have z4:=q4.size;have hM:=hM.ext<|q3.n1 q4;have hk:=hk.ext q4;have D:=D.ext q4;have hC:=hC.next q4;refine z0b<|z0d 17 U<|z0t h U I U z3y ?_ (h1:=(by first|(simp[Value.oneCell',S];done)|exact z3w.one<|m.ys.getD j yq0));intro w5 a3 q5 hz a h;have z5:=q5.size;have hk:=hk.fr q5;have D:=D.fr q5;have hC:=hC.sp q5;have I:Blk w5 a0 _ [_,_,_,_,_]:=a3;clear a3;refine z0b<|z0d 18 U<|z0o h U λa h=>?_;refine z0b<|z0q ?_;clear hC a2 a1 Z;refine xB (ll3 3 5 7) h U<|tn<|sq<|sr<|fad U z9m<|z0i U I U na4<|nt' U<|nn<|cd U (λc0=>?_)<|λc0=>?_;refine sr<|asg U<|asg U<|asg U<|nn<|rt<|tr<|r3 U U U U ?_;have he:z5z m.p o=12:=by unfold z5z;rw[O,if_pos (by simpa using c0)]
 exact⟨_,rfl,by rw[he];rfl,(q1.z4 q2 q3 q4 q5)⟩;refine sk<|tn<|sq<|sr<|fad U z9o<|z0i U D U x4g<|eq' U<|nn<|cd U (λc1=>?_)<|λc1=>?_;refine sq<|sr<|fad U z6i<|z0i U I U na3<|mv U<|gt' U<|nn<|cd U (λc2=>?_)<|λc2=>?_;refine sr<|asg U<|asg U<|asg U<|nn<|rt<|tr<|tr<|r3 U U U U ?_;have he:z5z m.p o=12:=by unfold z5z;rw[O,if_neg (by simpa using c0),if_pos c1,if_pos c2]
 exact⟨_,rfl,by rw[he];rfl,(q1.z4 q2 q3 q4 q5)⟩;refine sk<|tn<|sr<|mv U<|ad6 U<|mv U<|asg U<|asg U<|asg U<|nn<|rt<|tr<|r3 U U U U ?_;have he:z5z m.p o=0:=by unfold z5z;rw[O,if_neg (by simpa using c0),if_pos c1,if_neg c2]
 exact⟨_,rfl,by rw[he];rw[if_pos U,if_pos U,z7b,if_pos c1],(q1.z4 q2 q3 q4 q5)⟩;refine sk<|tn<|sq<|sr<|fad U z6i<|z0i U I U na3<|mv U<|lt' U<|nn<|cd U (λc3=>?_)<|λc3=>?_;refine sr<|asg U<|asg U<|asg U<|nn<|rt<|tr<|r3 U U U U ?_;have he:z5z m.p o=12:=by unfold z5z;rw[O,if_neg (by simpa using c0),if_neg c1,if_pos c3]
 exact⟨_,rfl,by rw[he];rfl,(q1.z4 q2 q3 q4 q5)⟩;refine sk<|tn<|sr<|mv U<|z2i U (wi6 oo)<|mv U<|asg U<|asg U<|asg U<|nn<|rt<|r3 U U U U ?_;have he:z5z m.p o=0:=by unfold z5z;rw[O,if_neg (by simpa using c0),if_neg c1,if_neg c3]
 exact⟨_,rfl,by rw[he];rw[if_pos U,if_pos U,z7b,if_neg c1],(q1.z4 q2 q3 q4 q5)⟩;refine z0u h z6w U λw6 I q6 hz a h=>?_;obtain⟨a0,hg⟩:∃g,g=w2.heap.size:=⟨_,rfl⟩;rw[<-hg]at I h hz;have a8.gk_7:ka.gk<a0:=by have:=hk.lt;omega
 have a4:g3<a0:=by have:=D.lt;omega
 have z6:=q6.size;have hC:=hC.next q6;refine z0b<|z0d 15 U<|z0n h (z0a U<|z0a U z0f) v5e (y4b _ _ _ _ (by have:=hi.rk;omega)) ?_;rintro _ w7 ⟨rfl,q7⟩ a h;have z7:=q7.size;have hM:=hM.ext<|q6.n1 q7;have hk:=hk.ext<|q6.n1 q7;have D:=D.ext<|q6.n1 q7;have I:=I.ext q7;have hC:=hC.next q7;refine z0b<|z0d 17 U<|z0t h U I U z3y ?_ (h1:=(by first|(simp[Value.oneCell',S];done)|exact z3w.one<|m.ys.getD j yq0));intro w8 a3 q8 hz a h;have z8:=q8.size;have hk:=hk.fr q8;have D:=D.fr q8;have hC:=hC.sp q8;have I:Blk w8 a0 _ [_,_,_,_,_]:=a3;clear a3;refine z0b<|z0d 18 U<|z0o h U λa h=>?_;refine z0b<|z0q ?_;clear hC a2 a1 Z;refine xB (ll3 3 5 7) h U<|tn<|sq<|sr<|fad U z9m<|z0i U I U na4<|nt' U<|nn<|cd U (λc0=>?_)<|λc0=>?_;refine sr<|asg U<|asg U<|asg U<|nn<|rt<|tr<|r3 U U U U ?_;have he:z5z m.p o=12:=by unfold z5z;rw[O,if_pos (by simpa using c0)]
 exact⟨_,rfl,by rw[he];rfl,(q1.z4 q2 q6 q7 q8)⟩;refine sk<|tn<|sq<|sr<|fad U z9o<|z0i U D U x4g<|eq' U<|nn<|cd U (λc1=>?_)<|λc1=>?_;refine sq<|sr<|fad U z6i<|z0i U I U na3<|mv U<|gt' U<|nn<|cd U (λc2=>?_)<|λc2=>?_;refine sr<|asg U<|asg U<|asg U<|nn<|rt<|tr<|tr<|r3 U U U U ?_;have he:z5z m.p o=12:=by unfold z5z;rw[O,if_neg (by simpa using c0),if_pos c1,if_pos c2]
 exact⟨_,rfl,by rw[he];rfl,(q1.z4 q2 q6 q7 q8)⟩;refine sk<|tn<|sr<|mv U<|ad6 U<|mv U<|asg U<|asg U<|asg U<|nn<|rt<|tr<|r3 U U U U ?_;have he:z5z m.p o=0:=by unfold z5z;rw[O,if_neg (by simpa using c0),if_pos c1,if_neg c2]
 exact⟨_,rfl,by rw[he];rw[if_pos U,if_pos U,z7b,if_pos c1],(q1.z4 q2 q6 q7 q8)⟩;refine sk<|tn<|sq<|sr<|fad U z6i<|z0i U I U na3<|mv U<|lt' U<|nn<|cd U (λc3=>?_)<|λc3=>?_;refine sr<|asg U<|asg U<|asg U<|nn<|rt<|tr<|r3 U U U U ?_;have he:z5z m.p o=12:=by unfold z5z;rw[O,if_neg (by simpa using c0),if_neg c1,if_pos c3]
 exact⟨_,rfl,by rw[he];rfl,(q1.z4 q2 q6 q7 q8)⟩;refine sk<|tn<|sr<|mv U<|z2i U (wi6 oo)<|mv U<|asg U<|asg U<|asg U<|nn<|rt<|r3 U U U U ?_;have he:z5z m.p o=0:=by unfold z5z;rw[O,if_neg (by simpa using c0),if_neg c1,if_neg c3]
 exact⟨_,rfl,by rw[he];rw[if_pos U,if_pos U,z7b,if_neg c1],(q1.z4 q2 q6 q7 q8)⟩
theorem z4b:z1e prog 120 1 1:=λ_ _=>kr
theorem v1b (wS:World)(ka:MA)(m:MQ)(yy pl en:Int)(w0:World)(hM:MkM τd 120 wS ka w0 m)(hi:MInv m.p)(hy:1<=yy/\yy<=6):Rets prog 110 #[pta ka.gk,.int .u8 yy,.int .i64 pl,.int .i64 en] w0 λr w'=>MRet τd 120 wS ka (z8x m.p yy pl en) r w':=by
 have g7:=hM.fr.size;have O:=hM.k;have g3:=O.lt;have g5:=hM.ly;have g4:=hM.lt;have f7:=(hM.y.out.blk ka.gy t10).2;obtain⟨j,hj,g6⟩:∃j:Nat,j<6/\yy=(j:Int)+1:=⟨(yy-1).toNat,oo,oo⟩;have e3:(yy-1).toNat=j:=by omega
 have c9:m.p.y yy=(m.ys.getD j yq0).p:=by rw[k8e,e3]
 have f9:=v7s (z2m m.q.p m.rk) (m.ys.getD j yq0).pl en;have hN:=x1x hi.B;have g1:(z2m m.q.p m.rk).length<=320:=by unfold z2m;rw[z5c,z9k];exact hN
 refine wf func110 U ?_;have a9:=hM;refine sr<|asg U<|nn<|sq ?_;intro a h;refine rgh none (Fr []) ?_;intro w1 q1 hC;have z1:=q1.size;have hM:=hM.ext q1;have O:=O.ext q1;have a4:=hM;have a1:=O;refine z0e 0 h U λa h=>z0p 1 h U λa h=>z0c 2 h U z4b U λa h=>z1f (vs:=[_,_]) 3 h U (fx a1.ext) z4y U U λa h=>z0e 4 h U λa h=>z0p 5 h U λa h=>z0c 6 h U z4o U λa h=>z0m 7 h U (fx a1.ext) U na3 U λa h=>z0d 8 U<|z0n h (z0a U<|z0a U z0f) cO (v8z m.q m.rk _ hM.b.at hi.B hi.rk) ?_;rintro _ w2 ⟨⟨g9,rfl,g0,hL⟩,hq⟩ a h;have z2:=hq.size;have hM:=hM.ext hq;have O:=O.ext hq;have hC:=hC.next hq;have q2:=hq;have f8:=(hL.blk g9 t10).2;refine z0b<|z0e 9 h U λa h=>z0k 10 h U λa h=>z0k 11 h U λa h=>z0d 12 U<|z0o h U λa h=>?_;refine z0b<|z0d 13 U<|z0o h U λa h=>?_;refine z0b<|z0q ?_;clear hC a4 a1;refine xB (ll6 0 1 2 3 9 10) h U<|tn<|sq<|sr<|mv U<|ne' U<|nn<|cd U (λc0=>?_)<|λc0=>?_;exact absurd U c0;refine sk<|tn<|sr<|mv U<|nlc U<|fad U z4d<|z0i U O U y6d<|mv U<|z2i U (wi8 oo)<|z1a (p:=j) (yq0) U hM.y.out.sl U y6n oo<|λf5 e6=>(z1q U (e6 _ hM.y.out.sl) z3v<|al z6w U<|λe4 w3 f6 D q3 z3=>?_);refine z0j (vs:=[_,_,_,_,_]) U D z3y (λw4 D q4 z4=>?_) (h1:=(by first|(simp[Value.oneCell',S];done)|exact z3w.one<|m.ys.getD j yq0));refine kpL (ll6 0 1 2 3 9 11) U<|nn<|sq ?_;have hM:=a9.ext<|q1.z3 q2 q3 q4;have O:=(O.ext q3).fr q4;have hL:=(hL.ext q3).fr q4 (by first|exact z9x hL oo|simp[z0v]<;>omega);intro a h;refine rgh none (Fr []) ?_;intro w5 q5 hC;have z5:=q5.size;have hM:=hM.ext q5;have O:=O.ext q5;have hL:=hL.ext q5;have D:=D.ext q5;have a4:=hM;have a1:=O;have d6:=hL;have a0:=D;refine z0x 0 h U (fx a0.ext) z3v U λa h=>z0e 1 h U λa h=>z0e 2 h U λa h=>z0c 3 h U z6i U λa h=>z0m 4 h U (fx a0.ext) U na3 U λa h=>z0e 5 h U λa h=>z1v 6 11 kr U ?_ ?_;refine z0n h (z0a U<|z0a U<|z0a U z0f) cO (j3d _ (z2m m.q.p m.rk) (m.ys.getD j yq0).pl en _ hL.sl oo) ?_;rintro _ w6 ⟨⟨e5,rfl,e7,hW⟩,q6⟩ a h;have z6:=q6.size;have hM:=hM.ext q6;have O:=O.ext q6;have hL:=hL.ext q6;have D:=D.ext q6;have hC:=hC.next q6;have f2:=(hW.blk e5 t10).2;refine z0b<|z1v 7 11 kr U ?_ ?_;refine z0n h (z0a U<|z0a U<|z0a U z0f) cO (v4e (m.ys.getD j yq0) pl _ (btw (z2m m.q.p m.rk) (m.ys.getD j yq0).pl en) _ (hM.y.ins j oo).sl hW.sl (λk O=>(hW.blk k O).2) oo) ?_;rintro _ w7 ⟨qn,rfl,b7,q7⟩ a h;have z7:=q7.size;have O:=O.ext q7;have D:=D.ext q7;have hC:=hC.next q7;have Z:OwnIf ((goE (m.ys.getD j yq0).p pl<|btw (z2m m.q.p m.rk) (m.ys.getD j yq0).pl en)=0) z2k 172 _ _ (slv qn.pe) qn.pes:=λhc=>(b7 hc).2;have b5:=λhc k O=>((Z hc).blk k O).2;refine z0b<|z0e 8 h U λa h=>z0k 9 h U λa h=>z0k 10 h U λa h=>z0d 11 U<|z0u h z6w U λw8 I q8 hz a h=>?_;obtain⟨a3,hg⟩:∃g,g=w7.heap.size:=⟨_,rfl⟩;rw[<-hg]at I h hz;have e8.gk_12:ka.gk<a3:=by have:=O.lt;omega
 have b8:e4<a3:=by have:=D.lt;omega
 have z8:=q8.size;have hM:=hM.ext<|q7.n1 q8;have O:=O.ext q8;have hL:=hL.ext<|q7.n1 q8;have D:=D.ext q8;have hW:=hW.ext<|q7.n1 q8;have Z:=Z.ext q8;have hC:=hC.next q8;refine z0b<|z0d 12 U<|z0t h U I U z3y ?_ (h1:=(by first|(simp[Value.oneCell',S];done)|exact z3w.one<|m.ys.getD j yq0));intro w9 b6 q9 hz a h;have z9:=q9.size;have O:=O.fr q9;have hL:=hL.fr q9 t28;have D:=D.fr q9;have hW:=hW.fr q9 t28;have Z:=Z.fr q9 (by intro a6 k O a5;simp at O;subst O;have d4:=b5 a6 _ a5;have d5:=(Z a6).blk _ a5;omega);have hC:=hC.sp q9;have I:Blk w9 a3 _ [_,_,_,_,_]:=b6;clear b6;refine z0b<|z0d 13 U<|z0o h U λa h=>?_;refine z0b<|z0q ?_;clear hC a4 a1 d6 a0;refine xB (ll4 0 1 10 12) h U<|tn<|sq<|sr<|mv U<|eq' U<|nn<|cd U (λc1=>?_)<|λc1=>?_;have hM:=a9.ext<|((q1.z6 q2 q3 q4 q5 q6 q7).n1 q8).z1 q9;intro a h;refine rgh (some 8) (Fr []) ?_;intro e9 d0 hC;have h8:=d0.size;have hM:=hM.ext d0;have O:=O.ext d0;have D:=D.ext d0;have Z:=Z.ext d0;have I:=I.ext d0;have a4:=hM;have a1:=O;have a0:=D;have a8:=Z;have a2:=I;refine z0e 0 h U λa h=>z0p 1 h U λa h=>z0c 2 h U z4d U λa h=>z0m 3 h U (fx a1.ext) U y6d U λa h=>z0e 4 h U λa h=>z3a 5 h U t23 U λa h=>z0x 6 h U (fx a2.ext) z3v U λa h=>z1l 7 kr hC (p:=j) h wn U y6n oo oo oo U U λa h=>z0d 8 U<|z0z (i:=j) (qn:YQ) h U hM.y.out (by rw[hM.ly];exact hj) U z3y λg8 a7 d7 _hz a h=>?_;have hM:=hM.yarn mtd hj a7 d7<|(Z c1).low oo;have a9:=hM;clear a7;have h9:=d7.size;have D:=D.fr d7;have Z:=Z.fr d7 (by intro a6 k O a5;simp at O;subst O;have d4:=b5 a6 _ a5;have d5:=(Z a6).blk _ a5;omega);have I:=I.fr d7;have O:=hM.k;clear _hz;refine z1m<|z0q ?_;clear hC a4 a1 a0 a8 a2;refine xB (ll1 10) h U<|tn<|sr<|mv U<|asg U<|nn<|rt<|r1 U ?_;exact⟨_,rfl,by rw[c1];exact MRet.ok (by unfold z8x y1r;rw[c9,if_neg (λe=>e c1)];exact congrArg Except.ok (by rw[y2e m qn e3,(b7 c1).1])) hM⟩;refine sk<|tn<|sr<|mv U<|asg U<|kpL (ll1 8) U<|nn<|rt<|r1 U ?_;have hM:=a9.ext<|((q1.z6 q2 q3 q4 q5 q6 q7).n1 q8).z1 q9;exact⟨_,rfl,MRet.err (by unfold z8x y1r;rw[c9,if_pos c1]) c1 hM.fr⟩;refine z0u h z6w U λh0 I b2 hz a h=>?_;obtain⟨a3,hg⟩:∃g,g=w6.heap.size:=⟨_,rfl⟩;rw[<-hg]at I h hz;have e8.gk_12:ka.gk<a3:=by have:=O.lt;omega
 have b8:e4<a3:=by have:=D.lt;omega
 have i0:=b2.size;have hM:=hM.ext b2;have O:=O.ext b2;have hW:=hW.ext b2;have hC:=hC.next b2;refine z0b<|z0d 7 U<|z0n h (z0a U<|z0a U<|z0a U z0f) cO (v4e (m.ys.getD j yq0) pl _ (btw (z2m m.q.p m.rk) (m.ys.getD j yq0).pl en) _ (hM.y.ins j oo).sl hW.sl (λk O=>(hW.blk k O).2) oo) ?_;rintro _ h2 ⟨qn,rfl,b7,b0⟩ a h;have i1:=b0.size;have hM:=hM.ext b0;have O:=O.ext b0;have hL:=hL.ext<|b2.n1 b0;have D:=D.ext<|b2.n1 b0;have hW:=hW.ext b0;have I:=I.ext b0;have hC:=hC.next b0;have Z:OwnIf ((goE (m.ys.getD j yq0).p pl<|btw (z2m m.q.p m.rk) (m.ys.getD j yq0).pl en)=0) z2k 172 _ _ (slv qn.pe) qn.pes:=λhc=>(b7 hc).2;have b5:=λhc k O=>((Z hc).blk k O).2;refine z0b<|z0e 8 h U λa h=>z0k 9 h U λa h=>z0k 10 h U λa h=>z0d 12 U<|z0t h U I U z3y ?_ (h1:=(by first|(simp[Value.oneCell',S];done)|exact z3w.one<|m.ys.getD j yq0));intro f3 b6 b3 hz a h;have i2:=b3.size;have O:=O.fr b3;have hL:=hL.fr b3 t28;have D:=D.fr b3;have hW:=hW.fr b3 t28;have Z:=Z.fr b3 (by intro a6 k O a5;simp at O;subst O;have d4:=b5 a6 _ a5;have d5:=(Z a6).blk _ a5;omega);have hC:=hC.sp b3;have I:Blk f3 a3 _ [_,_,_,_,_]:=b6;clear b6;refine z0b<|z0d 13 U<|z0o h U λa h=>?_;refine z0b<|z0q ?_;clear hC a4 a1 d6 a0;refine xB (ll4 0 1 10 12) h U<|tn<|sq<|sr<|mv U<|eq' U<|nn<|cd U (λc1=>?_)<|λc1=>?_;have hM:=a9.ext<|((q1.z6 q2 q3 q4 q5 q6 b2).n1 b0).z1 b3;intro a h;refine rgh (some 8) (Fr []) ?_;intro f0 d1 hC;have i3:=d1.size;have hM:=hM.ext d1;have O:=O.ext d1;have D:=D.ext d1;have I:=I.ext d1;have Z:=Z.ext d1;have a4:=hM;have a1:=O;have a0:=D;have a2:=I;have a8:=Z;refine z0e 0 h U λa h=>z0p 1 h U λa h=>z0c 2 h U z4d U λa h=>z0m 3 h U (fx a1.ext) U y6d U λa h=>z0e 4 h U λa h=>z3a 5 h U t23 U λa h=>z0x 6 h U (fx a2.ext) z3v U λa h=>z1l 7 kr hC (p:=j) h wn U y6n oo oo oo U U λa h=>z0d 8 U<|z0z (i:=j) (qn:YQ) h U hM.y.out (by rw[hM.ly];exact hj) U z3y λh3 a7 d9 _hz a h=>?_;have hM:=hM.yarn mtd hj a7 d9<|(Z c1).low oo;have a9:=hM;clear a7;have i4:=d9.size;have D:=D.fr d9;have I:=I.fr d9;have Z:=Z.fr d9 (by intro a6 k O a5;simp at O;subst O;have d4:=b5 a6 _ a5;have d5:=(Z a6).blk _ a5;omega);have O:=hM.k;clear _hz;refine z1m<|z0q ?_;clear hC a4 a1 a0 a2 a8;refine xB (ll1 10) h U<|tn<|sr<|mv U<|asg U<|nn<|rt<|r1 U ?_;exact⟨_,rfl,by rw[c1];exact MRet.ok (by unfold z8x y1r;rw[c9,if_neg (λe=>e c1)];exact congrArg Except.ok (by rw[y2e m qn e3,(b7 c1).1])) hM⟩;refine sk<|tn<|sr<|mv U<|asg U<|kpL (ll1 8) U<|nn<|rt<|r1 U ?_;have hM:=a9.ext<|((q1.z6 q2 q3 q4 q5 q6 b2).n1 b0).z1 b3;exact⟨_,rfl,MRet.err (by unfold z8x y1r;rw[c9,if_pos c1]) c1 hM.fr⟩;refine z0u h z6w U λh4 I b9 hz a h=>?_;obtain⟨a3,hg⟩:∃g,g=w5.heap.size:=⟨_,rfl⟩;rw[<-hg]at I h hz;have e8.gk_12:ka.gk<a3:=by have:=O.lt;omega
 have b8:e4<a3:=by have:=D.lt;omega
 have i5:=b9.size;have hL:=hL.ext b9;have hC:=hC.next b9;refine z0b<|z0d 6 U<|z0n h (z0a U<|z0a U<|z0a U z0f) cO (j3d _ (z2m m.q.p m.rk) (m.ys.getD j yq0).pl en _ hL.sl oo) ?_;rintro _ h5 ⟨⟨e5,rfl,e7,hW⟩,q18⟩ a h;have i7:=q18.size;have hM:=hM.ext<|b9.n1 q18;have O:=O.ext<|b9.n1 q18;have hC:=hC.next q18;have f2:=(hW.blk e5 t10).2;refine z0b<|z0d 7 U<|z0n h (z0a U<|z0a U<|z0a U z0f) cO (v4e (m.ys.getD j yq0) pl _ (btw (z2m m.q.p m.rk) (m.ys.getD j yq0).pl en) _ (hM.y.ins j oo).sl hW.sl (λk O=>(hW.blk k O).2) oo) ?_;rintro _ h6 ⟨qn,rfl,b7,b1⟩ a h;have i8:=b1.size;have hM:=hM.ext b1;have O:=O.ext b1;have hL:=hL.ext<|q18.n1 b1;have D:=D.ext<|b9.n2 q18 b1;have I:=I.ext<|q18.n1 b1;have hW:=hW.ext b1;have hC:=hC.next b1;have Z:OwnIf ((goE (m.ys.getD j yq0).p pl<|btw (z2m m.q.p m.rk) (m.ys.getD j yq0).pl en)=0) z2k 172 _ _ (slv qn.pe) qn.pes:=λhc=>(b7 hc).2;have b5:=λhc k O=>((Z hc).blk k O).2;refine z0b<|z0e 8 h U λa h=>z0k 9 h U λa h=>z0k 10 h U λa h=>z0d 12 U<|z0t h U I U z3y ?_ (h1:=(by first|(simp[Value.oneCell',S];done)|exact z3w.one<|m.ys.getD j yq0));intro f4 b6 b4 hz a h;have i9:=b4.size;have O:=O.fr b4;have hL:=hL.fr b4 t28;have D:=D.fr b4;have hW:=hW.fr b4 t28;have Z:=Z.fr b4 (by intro a6 k O a5;simp at O;subst O;have d4:=b5 a6 _ a5;have d5:=(Z a6).blk _ a5;omega);have hC:=hC.sp b4;have I:Blk f4 a3 _ [_,_,_,_,_]:=b6;clear b6;refine z0b<|z0d 13 U<|z0o h U λa h=>?_;refine z0b<|z0q ?_;clear hC a4 a1 d6 a0;refine xB (ll4 0 1 10 12) h U<|tn<|sq<|sr<|mv U<|eq' U<|nn<|cd U (λc1=>?_)<|λc1=>?_;have hM:=a9.ext<|((q1.z6 q2 q3 q4 q5 b9 q18).n1 b1).z1 b4;intro a h;refine rgh (some 8) (Fr []) ?_;intro f1 d3 hC;have j0:=d3.size;have hM:=hM.ext d3;have O:=O.ext d3;have D:=D.ext d3;have I:=I.ext d3;have Z:=Z.ext d3;have a4:=hM;have a1:=O;have a0:=D;have a2:=I;have a8:=Z;refine z0e 0 h U λa h=>z0p 1 h U λa h=>z0c 2 h U z4d U λa h=>z0m 3 h U (fx a1.ext) U y6d U λa h=>z0e 4 h U λa h=>z3a 5 h U t23 U λa h=>z0x 6 h U (fx a2.ext) z3v U λa h=>z1l 7 kr hC (p:=j) h wn U y6n oo oo oo U U λa h=>z0d 8 U<|z0z (i:=j) (qn:YQ) h U hM.y.out (by rw[hM.ly];exact hj) U z3y λh7 a7 e0 _hz a h=>?_;have hM:=hM.yarn mtd hj a7 e0<|(Z c1).low oo;have a9:=hM;clear a7;have j1:=e0.size;have D:=D.fr e0;have I:=I.fr e0;have Z:=Z.fr e0 (by intro a6 k O a5;simp at O;subst O;have d4:=b5 a6 _ a5;have d5:=(Z a6).blk _ a5;omega);have O:=hM.k;clear _hz;refine z1m<|z0q ?_;clear hC a4 a1 a0 a2 a8;refine xB (ll1 10) h U<|tn<|sr<|mv U<|asg U<|nn<|rt<|r1 U ?_;exact⟨_,rfl,by rw[c1];exact MRet.ok (by unfold z8x y1r;rw[c9,if_neg (λe=>e c1)];exact congrArg Except.ok (by rw[y2e m qn e3,(b7 c1).1])) hM⟩;refine sk<|tn<|sr<|mv U<|asg U<|kpL (ll1 8) U<|nn<|rt<|r1 U ?_;have hM:=a9.ext<|((q1.z6 q2 q3 q4 q5 b9 q18).n1 b1).z1 b4;exact⟨_,rfl,MRet.err (by unfold z8x y1r;rw[c9,if_pos c1]) c1 hM.fr⟩
theorem j9s (wS:World)(O:MA)(m:MQ)(o:MOp)(w0:World)(hM:MkM τd 120 wS O w0 m)(hi:MInv m.p)(hy:1<=o.y/\o.y<=6)(hn:z3m o.b o.p=0):Rets prog 60 #[pta O.gk,opV o] w0 λr w'=>MRet τd 120 wS O (y1x m.p o) r w':=by
 refine wf func60 U ?_;have I:=hM;refine sr<|bx U<|λg3 w1 a1 D q1 z1=>(asg U<|nn<|sr<|mv U<|z0l U D y3t ?_);have hM:=I.ext q1;refine cl (ev2 U) cO (v0y wS O m o _ hM hi hy hn) ?_;rintro _ w2 ⟨rfl,q2⟩;refine mv U<|xt U<|xt U<|xt U<|asg U<|asg U<|asg U<|kpL (ll4 0 3 5 7) U<|nn<|sq<|sr<|mv U<|ne' U<|nn<|cd U (λZ=>?_)<|λZ=>?_;refine sr<|mv U<|asg U<|kpL (ll1 4) U<|nn<|rt<|tr<|r1 U ?_;have hM:=I.ext<|q1.n1 q2;exact⟨_,rfl,MRet.err (by unfold y1x;rw[if_pos Z]) Z hM.fr⟩;refine sk<|tn<|sr<|mv U<|fad U z4t ?_;have D:=D.ext q2;refine z0i U D U na5<|mv U<|mv U ?_;have hM:=I.ext<|q1.n1 q2;refine cl (z0a U<|z0a U<|z0a U<|z0a U z0f) cO (v1b wS O m o.y (if z5z m.p o=0 then z7b m.p o else 0) (if z5z m.p o=0 then z7b m.p o else 0) _ hM hi hy) ?_;rintro a2 w3 hR;refine asg U<|kpL (ll1 4) U<|nn<|rt<|r1 U ?_;have a0:z5z m.p o=0:=l15.1 Z;rw[if_pos a0]at hR;exact⟨_,rfl,by rw[show y1x m.p o=_ from if_neg Z];exact hR⟩
theorem u0u:CallOf prog 115:=cO
theorem y4o:z1e prog 120 5 6:=λ_ _=>kr
theorem k1d (wS:World)(ka:MA)(m:MQ)(o:MOp)(w0:World)(hM:MkM τd 120 wS ka w0 m)(hi:MInv m.p)(hn:z3m o.b o.p=0):Rets prog 62 #[pta ka.gk,opV o] w0 λr w'=>MRet τd 120 wS ka (y2l m.p o) r w':=by
 have f9:=hM.fr.size;have D:=hM.k;have f5:=D.lt;have f7:=hM.ly;have f6:=hM.lt;have e9:=(hM.y.out.blk ka.gy t10).2;have f8:=z2t hn;obtain⟨n,b7⟩:∃n:Nat,o.p=(n:Int):=⟨o.p.toNat,oo⟩;obtain⟨⟨hf,hb⟩,h4,e0⟩:=z3f hi.B;have hfl:m.q.p.flat.length+m.fl.length<=z4x (z2o m.ts):=hi.cnt;have f3:z4x (z2o m.ts)<=2048:=hi.all;have hv:BdOk m.q.p:=hi.B;have f2:=y8l hv o.b o.p;refine wf func62 U ?_;have a6:=hM;refine sr<|bx U<|λg3 w1 f4 O q1 z1=>(asg U<|nn<|sq ?_);have hM:=a6.ext q1;intro a h;refine rgh none (Fr []) ?_;intro w2 q2 hC;have z2:=q2.size;have hM:=hM.ext q2;have D:=D.ext<|q1.n1 q2;have O:=O.ext q2;have b0:=hM;have a2:=D;have a0:=O;refine z0e 0 h U λa h=>z0p 1 h U λa h=>z0c 2 h U z4b U λa h=>z1f (vs:=[_,_]) 3 h U (fx a2.ext) z4y U U λa h=>z0c 4 h U z5w U λa h=>z1f (vs:=[_,_]) 5 h U (fx a0.ext) z5k U U λa h=>z0d 6 U<|z0n h (z0a U<|z0a U z0f) v7c (y5m m.q o.b o.p _ hM.b.at oo hf hb h4 e0) ?_;rintro g0 w3 ⟨I,hq⟩ a h;have z3:=hq.size;have hM:=hM.ext hq;have D:=D.ext hq;have O:=O.ext hq;have hC:=hC.next hq;have q3:=hq;rw[y0h hn]at I;obtain⟨f0,f1,rfl,e8⟩:=I.sl.form;have b6:=λk hb=>(I.blk k hb).2;refine z0b<|z0d 7 U<|z0o h U λa h=>?_;refine z0b<|z0q ?_;clear hC b0 a2 a0;refine xB (ll3 0 3 5) h U<|tn<|sq<|sr<|mv U<|lnS U<|eq' U<|nn<|cd U (λc0=>?_)<|λc0=>?_;exact sr<|asg U<|nn<|rt<|tr<|r1 U ⟨_,rfl,MRet.err (if_pos<|l116.1 (show (m.q.p.at o.b o.p).length=0 by omega)) dd hM.fr⟩;refine sk<|tn<|sq ?_;intro a h;refine rgh none (Fr []) ?_;intro w4 q4 hC;have z4:=q4.size;have hM:=hM.ext q4;have D:=D.ext q4;have O:=O.ext q4;have I:=I.ext q4;have b0:=hM;have a2:=D;have a0:=O;have b4:=I;refine z0e 0 h U λa h=>z0p 1 h U λa h=>z0c 2 h U z4b U λa h=>z1f (vs:=[_,_]) 3 h U (fx a2.ext) z4y U U λa h=>z0c 4 h U z5w U λa h=>z1f (vs:=[_,_]) 5 h U (fx a0.ext) z5k U U λa h=>z1v 6 10 kr U ?_ ?_;refine z0n h (z0a U<|z0a U<|z0a U z0f) u0u (by have x:=x4n m.q o.b n (.slice none 0 0) [] _ hM.b.at (Sl.nil _) hv (by rw[<-b7];exact hn) sp0 sp0 (λi=>by have:=l85.1 hv.nd i;simp only[l134];omega);rw[<-b7]at x;exact x) ?_;rintro _ w5 ⟨⟨q',rfl,hQ,d4⟩,q5⟩ a h;have z5:=q5.size;have D:=D.ext q5;have O:=O.ext q5;have hC:=hC.next q5;have d0:=x5c hQ a6.f oo;refine z0b<|z0e 7 h U λa h=>z0k 8 h U λa h=>z0k 9 h U λa h=>z0d 10 U<|z0u h x9w U λw6 Z q6 hz a h=>?_;obtain⟨a5,hg⟩:∃g,g=w5.heap.size:=⟨_,rfl⟩;rw[<-hg]at Z h hz;have e3.gk_6:ka.gk<a5:=by have:=D.lt;omega
 have d3:g3<a5:=by have:=O.lt;omega
 have z6:=q6.size;have hM:=hM.ext<|q5.n1 q6;have D:=D.ext q6;have O:=O.ext q6;have I:=I.ext<|q5.n1 q6;first|have hQ:=BdO.ext hQ q6|have hQ:=BdO.tf hQ q6 (OffT.one Z dd)<|OffT.one Z dd
 have hC:=hC.next q6;refine z0b<|z0d 11 U<|z0t h U Z U x1s λw7 b3 q7 hz a h=>?_;have z7:=q7.size;have D:=D.fr q7;have O:=O.fr q7;have I:=I.fr q7 (by intro k D a1;simp at D;subst D;have:=b6 _ a1;have b8:=(I.blk _ a1).1;omega);first|have hQ:=BdO.ext hQ q7|have hQ:=BdO.tf hQ q7 (OffT.one Z dd)<|OffT.one Z dd
 have hC:=hC.sp q7;have Z:Blk w7 a5 _ [_,_]:=b3;clear b3;refine z0b<|z0d 12 U<|z0o h U λa h=>?_;refine z0b<|z0q ?_;clear hC b0 a2 a0 b4;refine xB (ll4 0 5 6 7) h U<|tn<|sq<|sr<|mv U<|ne' U<|nn<|cd U (λc1=>?_)<|λc1=>?_;exact absurd U c1;refine sk<|tn<|sr<|mv U<|z0l U Z z4y<|nlc U<|fad U z4b ?_;have hM:=a6.ext<|q1.z6 q2 q3 q4 q5 q6 q7;refine z5o (cs':=j1r ka { m with q:=q' }) U U hM.k t43 x1s U<|λw8 a3 q8 z8=>?_;have hM:=hM.beds mtd (hQ.low oo) a3 q8 d0;have D:=hM.k;have a6:=hM;have c9:=hM;have hF:Lw.Own z1h 54 wS.heap.size _ (slv m.fa) m.fl:=hM.f;clear a3;refine kpL (ll2 0 5) U<|nn<|sr<|mv U<|mv U<|nlc U<|fad U y4o<|z0i U D U z6k<|mv U ?_;have I:=I.fr q8 (by intro k D a1;simp at D;subst D;have:=b6 _ a1;have b8:=(I.blk _ a1).1;omega);have a7:=hF;refine z2l U hF I.sl z4m (λe6 w9 hF q9 a8=>?_) (hM:=t40) (hb:=oo);have d6:=q9;obtain⟨b1,b2,rfl,d7⟩:=hF.sl.form;have b5:∀k∈z0v (.slice b1 (m.fl++(m.q.p.at o.b o.p)).length b2),k∈z0v (slv m.fa)\/_<=k:=λk D=>by
  rcases a8 with e|e|e
  exact .inl (congrArg z0v e▸D);exact .inl (e▸D);rw[e,l11]at D;exact .inr<|Nat.le_of_eq D.symm
 have z9:=q9.size;have D:=D.fr q9<|λd1=>a7.neB D dd d1;refine nlc U<|fad U y4o<|z3r U D U j1w<|λg1 a3 e4 g9=>?_;have b9:=c9.fall mtd dd (u:=(b1,(m.fl++(m.q.p.at o.b o.p)).length,b2)) hF d6 b5 a3 e4;refine kpL [] .nil<|nn<|sr<|asg U<|nn<|rt<|r1 U ?_;exact⟨_,rfl,MRet.ok (by rw[show y2l m.p o=_ from if_neg<|λe=>c0 (by rw[show (m.q.p.at o.b o.p)=[] from e];rfl)];exact congrArg Except.ok (by unfold MQ.p;simp only[d4])) b9⟩;refine z0u h x9w U λg4 Z a9 hz a h=>?_;obtain⟨a5,hg⟩:∃g,g=w4.heap.size:=⟨_,rfl⟩;rw[<-hg]at Z h hz;have e3.gk_6:ka.gk<a5:=by have:=D.lt;omega
 have d3:g3<a5:=by have:=O.lt;omega
 have h0:=a9.size;have hM:=hM.ext a9;have hC:=hC.next a9;refine z0b<|z0d 6 U<|z0n h (z0a U<|z0a U<|z0a U z0f) u0u (by have x:=x4n m.q o.b n (.slice none 0 0) [] _ hM.b.at (Sl.nil _) hv (by rw[<-b7];exact hn) sp0 sp0 (λi=>by have:=l85.1 hv.nd i;simp only[l134];omega);rw[<-b7]at x;exact x) ?_;rintro _ g5 ⟨⟨q',rfl,hQ,d4⟩,q12⟩ a h;have h1:=q12.size;have hM:=hM.ext q12;have D:=D.ext<|a9.n1 q12;have O:=O.ext<|a9.n1 q12;have I:=I.ext<|a9.n1 q12;have Z:=Z.ext q12;have hC:=hC.next q12;have d0:=x5c hQ a6.f oo;refine z0b<|z0e 7 h U λa h=>z0k 8 h U λa h=>z0k 9 h U λa h=>z0d 11 U<|z0t h U Z U x1s λe7 b3 a4 hz a h=>?_;have h2:=a4.size;have D:=D.fr a4;have O:=O.fr a4;have I:=I.fr a4 (by intro k D a1;simp at D;subst D;have:=b6 _ a1;have b8:=(I.blk _ a1).1;omega);first|have hQ:=BdO.ext hQ a4|have hQ:=BdO.tf hQ a4 (OffT.one Z dd)<|OffT.one Z dd
 have hC:=hC.sp a4;have Z:Blk e7 a5 _ [_,_]:=b3;clear b3;refine z0b<|z0d 12 U<|z0o h U λa h=>?_;refine z0b<|z0q ?_;clear hC b0 a2 a0 b4;refine xB (ll4 0 5 6 7) h U<|tn<|sq<|sr<|mv U<|ne' U<|nn<|cd U (λc1=>?_)<|λc1=>?_;exact absurd U c1;refine sk<|tn<|sr<|mv U<|z0l U Z z4y<|nlc U<|fad U z4b ?_;have hM:=a6.ext<|q1.z6 q2 q3 q4 a9 q12 a4;refine z5o (cs':=j1r ka { m with q:=q' }) U U hM.k t43 x1s U<|λg6 a3 d9 h3=>?_;have hM:=hM.beds mtd (hQ.low oo) a3 d9 d0;have D:=hM.k;have a6:=hM;have c9:=hM;have hF:Lw.Own z1h 54 wS.heap.size _ (slv m.fa) m.fl:=hM.f;clear a3;refine kpL (ll2 0 5) U<|nn<|sr<|mv U<|mv U<|nlc U<|fad U y4o<|z0i U D U z6k<|mv U ?_;have I:=I.fr d9 (by intro k D a1;simp at D;subst D;have:=b6 _ a1;have b8:=(I.blk _ a1).1;omega);have a7:=hF;refine z2l U hF I.sl z4m (λe6 g7 hF d5 a8=>?_) (hM:=t40) (hb:=oo);have d6:=d5;obtain⟨b1,b2,rfl,d7⟩:=hF.sl.form;have b5:∀k∈z0v (.slice b1 (m.fl++(m.q.p.at o.b o.p)).length b2),k∈z0v (slv m.fa)\/_<=k:=λk D=>by
  rcases a8 with e|e|e
  exact .inl (congrArg z0v e▸D);exact .inl (e▸D);rw[e,l11]at D;exact .inr<|Nat.le_of_eq D.symm
 have h5:=d5.size;have D:=D.fr d5<|λd1=>a7.neB D dd d1;refine nlc U<|fad U y4o<|z3r U D U j1w<|λg8 a3 e5 h6=>?_;have b9:=c9.fall mtd dd (u:=(b1,(m.fl++(m.q.p.at o.b o.p)).length,b2)) hF d6 b5 a3 e5;refine kpL [] .nil<|nn<|sr<|asg U<|nn<|rt<|r1 U ?_;exact⟨_,rfl,MRet.ok (by rw[show y2l m.p o=_ from if_neg<|λe=>c0 (by rw[show (m.q.p.at o.b o.p)=[] from e];rfl)];exact congrArg Except.ok (by unfold MQ.p;simp only[d4])) b9⟩
theorem u0k (b p r:Int)(w0:World)(hn:z3m b p=0)(hr:-4<=r/\r<=4):Rets prog 112 #[.agg #[.int .u8 b,.int .i64 p],.int .i64 r] w0 λv w'=>(∃b' p':Int,v=.tuple #[.agg #[.int .u8 b',.int .i64 p'],.int .i64 (if z3m (1-b) (z4l b p r)≠0 then 11 else 0)]/\(z3m (1-b) (z4l b p r)=0->b'=1-b/\p'=z4l b p r))/\Fr [] w0 w':=by
 have a4:=z2t hn;refine wf func112 U<|sr<|bx U<|λg2 w1 a5 O q1 z1=>(al x4f U<|λg4 w2 a6 D q2 z2=>(asg U<|nn<|sq<|sr ?_));have O:=O.ext q2;refine z0l U O z5k<|cl (ev1 U) u8u (z5m _ _ _) ?_;rintro _ w3 ⟨rfl,q3⟩;have z3:=q3.size;refine ne' U<|nn<|cd U (λc0=>?_)<|λc0=>?_;refine sr<|z1r (cs:=[_,_]) z0f y8v z0r U ?_;have D:=D.ext q3;exact z0j (vs:=[_,_]) U D y2m<|λw4 D q4 z4=>(asg U<|nn<|rt<|tr<|rCT U U D z5k U<|absurd hn c0);refine sk<|tn<|sq<|sr<|mv U<|cl (ev1 U) cO (x7z _ _) ?_;rintro _ w5 ⟨rfl,q5⟩;have z5:=q5.size;refine nt' U<|nn<|cd U (λc1=>?_)<|λc1=>?_;refine sr<|z1r (cs:=[_,_]) z0f y8v z0r U ?_;have D:=D.ext<|q3.n1 q5;exact z0j (vs:=[_,_]) U D y2m<|λw6 D q6 z6=>(asg U<|nn<|rt<|tr<|rCT U U D z5k U<|absurd hr c1);refine sk<|tn<|sr<|fad U z7d ?_;have O:=O.ext<|q3.n1 q5;refine z0i U O U na3<|mv U<|z2i U (wi6 oo)<|z1r (cs:=[_,_]) (ev2 U) y8v (z0g U<|z0g U z0r) U ?_;refine al x4f U<|λg6 w7 a7 I q7 z7=>(z0j (vs:=[_,_]) U I y2m<|λw8 I q8 z8=>(kpL (ll4 1 2 4 6) U<|nn<|jn (ι:=Unit) (ll2 4 6) (λ_j=>[]) (λ_j w'=>Fr [g6] w8 w'/\Blk w' g6 48 [.int .u8 (1-b),.int .i64 (z4l b p r)]) U ?_ ?_));refine sr<|fad U z7e ?_;have O:=(O.ext q7).fr q8;refine z0i U O U x9t<|eq' U<|nn<|cd U (λc2=>?_)<|λc2=>?_;refine rg<|fad U z7d<|z0i U O U na3<|mv U<|ad6 U<|z1r (cs:=[_,_]) (ev2 U) y8v (z0g U<|z0g U z0r) U ?_;exact z0j (vs:=[_,_]) U I y2m<|λw9 I q9 z9=>(kpL (ll2 4 6) U<|nl<|jE (()) U ⟨((l12 [g6] _).z1 q9),(by rw[show z4l b p r=p+r from if_pos c2,show 1-b=0 by omega];exact I)⟩);exact sk<|jE (()) U ⟨(l12 _ _),(by rw[show z4l b p r=p-r from if_neg c2,show 1-b=1 by omega];exact I)⟩;rintro _j a8 ⟨a0,I⟩;have b2:=a0.size;have a1:=I.lt;refine kpC (ll2 4 6) U<|sq<|sr<|z0l U I z5k<|cl (ev1 U) u8u (z5m _ _ _) ?_;rintro _ a9 ⟨rfl,Z⟩;have b3:=Z.size;refine ne' U<|nn<|cd U (λc3=>?_)<|λc3=>?_;refine sr<|z1r (cs:=[_,_]) z0f y8v z0r U ?_;have D:=(((D.ext<|q3.n2 q5 q7).fr q8).fr a0).ext Z;exact z0j (vs:=[_,_]) U D y2m<|λb0 D a2 b4=>(asg U<|nn<|rt<|tr<|rCT U U D z5k U ⟨_,rfl,⟨0,0,by rw[if_pos c3],λe=>absurd e c3⟩,(((q1.z6 q2 q3 q5 q7 q8 a0).n1 Z).z1 a2)⟩);refine sk<|tn<|sr ?_;have I:=I.ext Z;refine z0l U I z5k ?_;have D:=(((D.ext<|q3.n2 q5 q7).fr q8).fr a0).ext Z;exact z0j (vs:=[_,_]) U D y2m<|λb1 D a3 b5=>(asg U<|nn<|rt<|rCT U U D z5k U ⟨_,rfl,⟨_,_,by rw[if_neg c3],λ_=>⟨rfl,rfl⟩⟩,(((q1.z6 q2 q3 q5 q7 q8 a0).n1 Z).z1 a3)⟩)
def BdOIf (c:Prop)(Sτ I base:Nat)(w:World)(q:BdQ):Prop:=c->BdO Sτ I base w q
theorem BdOIf.ext {c:Prop}{D I base:Nat}{w w':World}{q:BdQ}(h:BdOIf c D I base w q)(hf:Fr [] w w'):BdOIf c D I base w' q:=λO=>(h O).ext hf
theorem BdOIf.tf {c:Prop}{D I base:Nat}{w w':World}{q:BdQ}{S:List Nat}(h:BdOIf c D I base w q)(hf:Fr S w w')(Z:OffT w D S)(O:OffT w I S):BdOIf c D I base w' q:=λhc=>BdO.tf (h hc) hf Z O
theorem x7r {p:MSt}{o:MOp}(h:o.b=0\/o.b=1):y1t p.B o.b o.p (z4l o.b o.p p.rk)=z7h p o:=by
 unfold y1t z7h;rcases h with e|e<;>rw[e]<;>rfl
theorem j9r (wS:World)(ka:MA)(m:MQ)(o:MOp)(w0:World)(hM:MkM τd 120 wS ka w0 m)(hi:MInv m.p)(hn:z3m o.b o.p=0):Rets prog 61 #[pta ka.gk,opV o] w0 λr w'=>MRet τd 120 wS ka (z5v m.p o) r w':=by
 have i9:=hM.fr.size;have hk:=hM.k;have i3:=hk.lt;have i5:=hM.ly;have i4:=hM.lt;have h6:=(hM.y.out.blk ka.gy t10).2;have e8:=z2t hn;obtain⟨n,d4⟩:∃n:Nat,o.p=(n:Int):=⟨o.p.toNat,oo⟩;obtain⟨⟨hf,hb⟩,h4,f4⟩:=z3f hi.B;have hv:BdOk m.q.p:=hi.B;have i0:=y8l hv o.b o.p;have e9:-4<=m.rk/\m.rk<=4:=hi.rk;have i7:=y6q o.b o.p m.rk;have i8:=y6q (1-o.b) (z4l o.b o.p m.rk) m.rk;refine wf func61 U ?_;have a3:=hM;refine sr<|bx U<|λg3 w1 i1 D q1 z1=>(asg U<|nn<|sq<|sq ?_);have hM:=a3.ext q1;intro a h;refine rgh none (Fr []) ?_;intro w2 q2 hC;have z2:=q2.size;have hM:=hM.ext q2;have hk:=hk.ext<|q1.n1 q2;have D:=D.ext q2;have a4:=hM;have a0:=hk;have Z:=D;refine z0e 0 h U λa h=>z0p 1 h U λa h=>z0c 2 h U z4b U λa h=>z1f (vs:=[_,_]) 3 h U (fx a0.ext) z4y U U λa h=>z0c 4 h U z5w U λa h=>z1f (vs:=[_,_]) 5 h U (fx Z.ext) z5k U U λa h=>z0d 6 U<|z0n h (z0a U<|z0a U z0f) v7c (y5m m.q o.b o.p _ hM.b.at oo hf hb h4 f4) ?_;rintro j0 w3 ⟨e0,hq⟩ a h;have z3:=hq.size;have hM:=hM.ext hq;have hk:=hk.ext hq;have D:=D.ext hq;have hC:=hC.next hq;have q3:=hq;rw[y0h hn]at e0;obtain⟨h8,h9,rfl,h5⟩:=e0.sl.form;refine z0b<|z8b 7 hC h wn U underlying32 U λa h=>x5z 8 hC h wn U λa h=>z0q ?_;clear hC a4 a0 Z;refine xB (ll3 0 3 19) h U<|tn<|cd U (λc0=>?_)<|λc0=>?_;exact sr<|asg U<|nn<|rt<|tr<|r1 U ⟨_,rfl,MRet.err (if_pos<|l116.1 (show (m.q.p.at o.b o.p).length=0 by omega)) dd hM.fr⟩;have c9:(m.q.p.at o.b o.p)≠[]:=λe=>c0 (by rw[e];rfl);refine sk<|tn<|jn (ι:=Nat×Int×Int) (ll2 0 3) (λz_=>[(5,pta z_.1),(6,.int .i64 (if z3m (1-o.b) (z4l o.b o.p m.rk)≠0 then 11 else 0))]) (λz_ w'=>Fr [] w3 w'/\(w3.heap.size<=z_.1/\Blk w' z_.1 48 [.int .u8 z_.2.1,.int .i64 z_.2.2])/\(z3m (1-o.b) (z4l o.b o.p m.rk)=0->z_.2.1=1-o.b/\z_.2.2=z4l o.b o.p m.rk)) U ?_ ?_;intro a h;refine rgh none (Fr []) ?_;intro w4 q4 hC;have z4:=q4.size;have hM:=hM.ext q4;have hk:=hk.ext q4;have D:=D.ext q4;have a4:=hM;have a0:=hk;have Z:=D;refine z0c 0 h U z5w U λa h=>z1f (vs:=[_,_]) 1 h U (fx Z.ext) z5k U U λa h=>z0e 2 h U λa h=>z0p 3 h U λa h=>z0c 4 h U z4o U λa h=>z0m 5 h U (fx a0.ext) U na3 U λa h=>z1v 6 10 kr U ?_ ?_;refine z0n h (z0a U<|z0a U z0f) cO (u0k o.b o.p m.rk _ hn e9) ?_;rintro _ w5 ⟨⟨bn,pn,rfl,a1⟩,q5⟩ a h;have z5:=q5.size;have hk:=hk.ext q5;have D:=D.ext q5;have hC:=hC.next q5;refine z0b<|z0e 7 h U λa h=>z0k 8 h U λa h=>z0k 9 h U λa h=>z0d 10 U<|z0u h x4f U λw6 I q6 hz a h=>?_;obtain⟨b3,hg⟩:∃g,g=w5.heap.size:=⟨_,rfl⟩;rw[<-hg]at I h hz;have e3.gk_5:ka.gk<b3:=by have:=hk.lt;omega
 have e4:g3<b3:=by have:=D.lt;omega
 have z6:=q6.size;have hk:=hk.ext q6;have D:=D.ext q6;have hC:=hC.next q6;refine z0b<|z0d 11 U<|z0t h U I U y2m ?_ (h1:=(by first|(simp[Value.oneCell',S];done)|exact z3w.one<|m.ys.getD i yq0));intro w7 a1 q7 hz a h;have z7:=q7.size;have hk:=hk.fr q7;have D:=D.fr q7;have hC:=hC.sp q7;have I:Blk w7 b3 _ [_,_]:=a1;clear a1;refine z0b<|z0d 12 U<|z0o h U λa h=>?_;refine z0b<|z0q ?_;clear hC a4 a0 Z;exact xB (ll4 0 3 5 6) h U<|jE ((b3,bn,pn)) U ⟨(q4.z3 q5 q6 q7),⟨⟨sm,I⟩,a1⟩⟩;refine z0u h x4f U λw8 I q8 hz a h=>?_;obtain⟨b3,hg⟩:∃g,g=w4.heap.size:=⟨_,rfl⟩;rw[<-hg]at I h hz;have e3.gk_5:ka.gk<b3:=by have:=hk.lt;omega
 have e4:g3<b3:=by have:=D.lt;omega
 have z8:=q8.size;have hC:=hC.next q8;refine z0b<|z0d 6 U<|z0n h (z0a U<|z0a U z0f) cO (u0k o.b o.p m.rk _ hn e9) ?_;rintro _ w9 ⟨⟨bn,pn,rfl,a1⟩,q9⟩ a h;have z9:=q9.size;have hk:=hk.ext<|q8.n1 q9;have D:=D.ext<|q8.n1 q9;have I:=I.ext q9;have hC:=hC.next q9;refine z0b<|z0e 7 h U λa h=>z0k 8 h U λa h=>z0k 9 h U λa h=>z0d 11 U<|z0t h U I U y2m ?_ (h1:=(by first|(simp[Value.oneCell',S];done)|exact z3w.one<|m.ys.getD i yq0));intro g4 a1 d7 hz a h;have k1:=d7.size;have hk:=hk.fr d7;have D:=D.fr d7;have hC:=hC.sp d7;have I:Blk g4 b3 _ [_,_]:=a1;clear a1;refine z0b<|z0d 12 U<|z0o h U λa h=>?_;refine z0b<|z0q ?_;clear hC a4 a0 Z;exact xB (ll4 0 3 5 6) h U<|jE ((b3,bn,pn)) U ⟨(q4.z3 q8 q9 d7),⟨⟨sm,I⟩,a1⟩⟩;rintro⟨g5,bn,pn⟩ j1 ⟨a9,⟨⟨f8,I⟩,a1⟩⟩;have k2:=a9.size;have f3:=I.lt;simp only at f8 I a1;refine kpC [(0,_),(3,_),(5,pta g5),(6,_)] U<|sq<|sr<|mv U<|ne' U<|nn<|cd U (λc1=>?_)<|λc1=>?_;refine sr<|mv U<|asg U<|kpL (ll1 4) U<|nn<|rt<|tr<|r1 U ?_;have hM:=a3.ext<|q1.n3 q2 q3 a9;have a8:z3m (1-o.b) (z4l o.b o.p m.rk)≠0:=λe=>c1 (by rw[if_neg (λh=>h e)]);exact⟨_,rfl,by rw[if_pos a8];exact MRet.err (by rw[z5v,if_neg c9,if_pos a8]) dd hM.fr⟩;have a8:z3m (1-o.b) (z4l o.b o.p m.rk)=0:=l15.1 λe=>c1 (by rw[if_pos e];decide);obtain⟨rfl,rfl⟩:=a1 a8;have h7:=z2t a8;obtain⟨n2,d3⟩:∃n2:Nat,z4l o.b o.p m.rk=(n2:Int):=⟨(z4l o.b o.p m.rk).toNat,oo⟩;refine sk<|tn<|sq ?_;have hM:=a3.ext<|q1.n3 q2 q3 a9;intro a h;refine rgh none (Fr []) ?_;intro f2 b0 hC;have k4:=b0.size;have hM:=hM.ext b0;have hk:=hk.ext<|a9.n1 b0;have D:=D.ext<|a9.n1 b0;have I:=I.ext b0;have a4:=hM;have a0:=hk;have Z:=D;have a5:=I;refine z0c 0 h U z5w U λa h=>z1f (vs:=[_,_]) 1 h U (fx Z.ext) z5k U U λa h=>z0e 2 h U λa h=>z0p 3 h U λa h=>z0c 4 h U z4o U λa h=>z0m 5 h U (fx a0.ext) U na3 U λa h=>z0x 7 h U (fx a5.ext) z5k U λa h=>z0e 8 h U λa h=>z0p 9 h U λa h=>z0c 10 h U z4o U λa h=>z0m 11 h U (fx a0.ext) U na3 U λa h=>z0d 6 U<|z0n h (z0a U<|z0a U z0f) v5e (y4b _ _ _ _ oo) ?_;rintro _ j2 ⟨rfl,a6⟩ a h;have k5:=a6.size;have hC:=hC.next a6;refine z0b<|z0d 12 U<|z0n h (z0a U<|z0a U z0f) v5e (y4b _ _ _ _ oo) ?_;rintro _ g6 ⟨rfl,a7⟩ a h;have k6:=a7.size;have hM:=hM.ext<|a6.n1 a7;have hk:=hk.ext<|a6.n1 a7;have D:=D.ext<|a6.n1 a7;have I:=I.ext<|a6.n1 a7;have hC:=hC.next a7;refine z0b<|k5z 13 kr hC h wn U U U U λa h=>z6t 14 h U t12 U λa h=>z0d 15 U<|z0o h U λa h=>?_;refine z0b<|z0q ?_;clear hC a4 a0 Z a5;refine xB (ll4 0 3 5 7) h U<|tn<|sq<|sr<|mv U<|nlc U<|fad U z4d<|z0i U hk U y6d<|lnS U<|mv U<|nn<|bl<|lpK (ι:=Nat) (ll6 0 3 5 7 51 52) (λi=>[(53,.int .i64 (i:Int))]) (λi w'=>Fr [] g6 w'/\i<=6/\∀k,k<i->¬((m.ys.getD k yq0).inn=true/\(m.ys.getD k yq0).pl=(y8x m.p o))) (λi=>6-i) 0 U ⟨l12 _ _,⟨l16 _,λj h=>absurd h oo⟩⟩ ?_;rintro i j3 ⟨b1,⟨hi,hz⟩⟩;have k7:=b1.size;refine kpC (ll7 0 3 5 7 51 52 53) U<|sr<|lt' U<|nn<|sq<|cd U (λc2=>?_)<|λc2=>?_;refine sk<|tn<|sq<|bl<|sr ?_;have hM:=a3.ext<|(q1.n6 q2 q3 a9 b0 a6 a7).n1 b1;refine z1a (yq0) U hM.y.out.sl U y6n z1j<|λh3 e7=>?_;refine z1q U (e7 _ hM.y.out.sl) z3v<|al z6w U<|λg9 j4 i2 d9 f0 k8=>?_;refine z0j (vs:=[_,_,_,_,_]) U d9 z3y (λj5 d9 f1 k9=>?_) (h1:=(by first|(simp[Value.oneCell',S];done)|exact z3w.one<|m.ys.getD i yq0));refine nn<|sq<|rbo (r:=64) (L':=ll7 0 3 5 7 51 52 53) (((m.ys.getD i yq0).inn=true/\((m.ys.getD i yq0).pl=((min (z2b o.b o.p m.rk)<|z2b (1-o.b) (z4l o.b o.p m.rk) m.rk)+1)))) U ?_ ?_;refine fad U z9m<|z0i U d9 U na4<|mv U<|gs 59 U (λg0=>?_)<|λg0=>?_;exact gY U<|fad U z6i<|gY U<|z0i U d9 U na3<|gY U<|mv U<|gY U<|eq' U<|pkt U<|rbe U<|U;exact gN U<|gN U<|gN U<|gN U<|pkf U<|rbe U<|U;refine tn<|cd U (λc3=>?_)<|λc3=>?_;refine sr<|asg U<|kpL (ll1 4) U<|nn<|rt<|rb<|tr<|tr<|rb<|tr<|r1 U ?_;have hM:=a3.ext<|(((q1.n6 q2 q3 a9 b0 a6 a7).n1 b1).n1 f0).z1 f1;exact⟨_,rfl,MRet.err (by rw[z5v,if_neg c9,if_neg (λh=>h a8),if_pos (⟨_,l55.2 ⟨m.ys.getD i yq0,z1b oo,rfl⟩,c3⟩:∃y∈m.p.ys,y.inn=true/\y.pl=y8x m.p o)]) dd hM.fr⟩;refine sk<|bn'<|tn<|rg<|ad6 U<|mv U<|nl ?_;exact lpE (i+1) U ⟨(b1.z2 f0 f1),⟨oo,λk h=>by
  by_cases e:k=i;subst e;exact c3;exact hz k oo⟩⟩ oo
 have b6:¬ ∃y∈m.p.ys,y.inn=true/\y.pl=y8x m.p o:=by
  rintro⟨y,hy,h1,h2⟩;obtain⟨z,f7,rfl⟩:=l55.1 hy;obtain⟨k,f6,rfl⟩:=l29 f7;refine hz k oo ?_;rw[List.getD,l10 f6];exact⟨h1,h2⟩
 refine ex<|te<|te<|xh<|tn<|sq ?_;have hM:=a3.ext<|(q1.n6 q2 q3 a9 b0 a6 a7).n1 b1;intro a h;refine rgh none (Fr []) ?_;intro e6 b7 hC;have l0:=b7.size;have hM:=hM.ext b7;have hk:=hk.ext<|b1.n1 b7;have D:=D.ext<|b1.n1 b7;have I:=I.ext<|b1.n1 b7;have a4:=hM;have a0:=hk;have Z:=D;have a5:=I;refine z0e 0 h U λa h=>z0p 1 h U λa h=>z0c 2 h U z4b U λa h=>z1f (vs:=[_,_]) 3 h U (fx a0.ext) z4y U U λa h=>z0c 4 h U z5w U λa h=>z1f (vs:=[_,_]) 5 h U (fx Z.ext) z5k U U λa h=>z0x 6 h U (fx a5.ext) z5k U λa h=>z1v 7 11 kr U ?_ ?_;refine z0n h (z0a U<|z0a U<|z0a U z0f) cO (by have x:=x2s m.q o.b n n2 _ hM.b.at hv (by rw[<-d4];exact hn) (by rw[<-d3];exact a8) (by rw[<-d4];exact c9);rw[<-d4,<-d3]at x;exact x) ?_;rintro _ g7 ⟨⟨q',rfl,d5⟩,q19⟩ a h;have l1:=q19.size;have hk:=hk.ext q19;have D:=D.ext q19;have I:=I.ext q19;have hC:=hC.next q19;have hQ:BdOIf (¬4<(m.q.p.at o.b o.p).length+(m.q.p.at (1-o.b)<|z4l o.b o.p m.rk).length) 32 54 _ _ q':=λhc=>(d5 hc).1;have e5:=λhc=>(d5 hc).2;have d1:=λhc=>x5c (hQ hc) a3.f oo;refine z0b<|z0e 8 h U λa h=>z0k 9 h U λa h=>z0k 10 h U λa h=>z0d 11 U<|z0u h x9w U λj6 O b2 hz a h=>?_;obtain⟨a2,hg⟩:∃g,g=g7.heap.size:=⟨_,rfl⟩;rw[<-hg]at O h hz;have e3.gk_10:ka.gk<a2:=by have:=hk.lt;omega
 have b4:g3<a2:=by have:=D.lt;omega
 have b4:g5<a2:=by have:=I.lt;omega
 have l2:=b2.size;have hM:=hM.ext<|q19.n1 b2;have hk:=hk.ext b2;have D:=D.ext b2;have I:=I.ext b2;first|have hQ:=BdOIf.ext hQ b2|have hQ:=BdOIf.tf hQ b2 (OffT.one O dd)<|OffT.one O dd
 have hC:=hC.next b2;refine z0b<|z0d 12 U<|z0t h U O U x1s ?_ (h1:=(by first|(simp[Value.oneCell',S];done)|exact z3w.one<|m.ys.getD i yq0));intro g8 a1 b8 hz a h;have l3:=b8.size;have hk:=hk.fr b8;have D:=D.fr b8;have I:=I.fr b8;first|have hQ:=BdOIf.ext hQ b8|have hQ:=BdOIf.tf hQ b8 (OffT.one O dd)<|OffT.one O dd
 have hC:=hC.sp b8;have O:Blk g8 a2 _ [_,_]:=a1;clear a1;refine z0b<|z0d 13 U<|z0o h U λa h=>?_;refine z0b<|z0q ?_;clear hC a4 a0 Z a5;refine xB (ll3 0 6 10) h U<|tn<|sq<|sr<|mv U<|eq' U<|nn<|cd U (λc4=>?_)<|λc4=>?_;have b5:¬4<(m.q.p.at o.b o.p).length+(m.q.p.at (1-o.b)<|z4l o.b o.p m.rk).length:=λe=>by rw[if_pos e]at c4;exact absurd c4 dd
 have hQ:=hQ b5;have d1:=d1 b5;refine rg<|mv U<|z0l U O z4y<|nlc U<|fad U z4b ?_;have hM:=a3.ext<|(((q1.n6 q2 q3 a9 b0 a6 a7).n1 b1).n1 b7).z3 q19 b2 b8;refine z5o (cs':=j1r ka { m with q:=q' }) U U hM.k t43 x1s U<|λj7 d6 f9 l4=>?_;have hM:=hM.beds mtd (hQ.low oo) d6 f9 d1;have hk:=hM.k;have a3:=hM;have f5:=hM;have hF:Lw.Own z1h 54 wS.heap.size _ (slv m.fa) m.fl:=hM.f;clear d6;refine kpL (ll1 6) U<|nl<|tn<|sr<|mv U<|asg U<|nn<|rt<|r1 U ?_;exact⟨_,rfl,by rw[c4];exact MRet.ok (by rw[z5v,if_neg c9,if_neg (λh=>h a8),if_neg b6,if_neg b5];exact congrArg Except.ok (by have hj:y1t m.q.p o.b o.p (z4l o.b o.p m.rk)=z7h m.p o:=x7r (p:=m.p) e8.1;unfold MQ.p;simp only[e5 b5];rw[hj])) hM⟩;refine sk<|tn<|sr<|mv U<|asg U<|nn<|rt<|r1 U ?_;have hM:=a3.ext<|(((q1.n6 q2 q3 a9 b0 a6 a7).n1 b1).n1 b7).z3 q19 b2 b8;exact⟨_,rfl,MRet.err (by rw[z5v,if_neg c9,if_neg (λh=>h a8),if_neg b6,if_pos (l15.1 λe=>c4<|if_neg e)];rw[if_pos (l15.1 λe=>c4<|if_neg e)]) c4 hM.fr⟩;refine z0u h x9w U λj8 O d0 hz a h=>?_;obtain⟨a2,hg⟩:∃g,g=e6.heap.size:=⟨_,rfl⟩;rw[<-hg]at O h hz;have e3.gk_10:ka.gk<a2:=by have:=hk.lt;omega
 have b4:g3<a2:=by have:=D.lt;omega
 have b4:g5<a2:=by have:=I.lt;omega
 have l5:=d0.size;have hM:=hM.ext d0;have hC:=hC.next d0;refine z0b<|z0d 7 U<|z0n h (z0a U<|z0a U<|z0a U z0f) cO (by have x:=x2s m.q o.b n n2 _ hM.b.at hv (by rw[<-d4];exact hn) (by rw[<-d3];exact a8) (by rw[<-d4];exact c9);rw[<-d4,<-d3]at x;exact x) ?_;rintro _ j9 ⟨⟨q',rfl,d5⟩,q24⟩ a h;have l6:=q24.size;have hM:=hM.ext q24;have hk:=hk.ext<|d0.n1 q24;have D:=D.ext<|d0.n1 q24;have I:=I.ext<|d0.n1 q24;have O:=O.ext q24;have hC:=hC.next q24;have hQ:BdOIf (¬4<(m.q.p.at o.b o.p).length+(m.q.p.at (1-o.b)<|z4l o.b o.p m.rk).length) 32 54 _ _ q':=λhc=>(d5 hc).1;have e5:=λhc=>(d5 hc).2;have d1:=λhc=>x5c (hQ hc) a3.f oo;refine z0b<|z0e 8 h U λa h=>z0k 9 h U λa h=>z0k 10 h U λa h=>z0d 12 U<|z0t h U O U x1s ?_ (h1:=(by first|(simp[Value.oneCell',S];done)|exact z3w.one<|m.ys.getD i yq0));intro h0 a1 b9 hz a h;have l7:=b9.size;have hk:=hk.fr b9;have D:=D.fr b9;have I:=I.fr b9;first|have hQ:=BdOIf.ext hQ b9|have hQ:=BdOIf.tf hQ b9 (OffT.one O dd)<|OffT.one O dd
 have hC:=hC.sp b9;have O:Blk h0 a2 _ [_,_]:=a1;clear a1;refine z0b<|z0d 13 U<|z0o h U λa h=>?_;refine z0b<|z0q ?_;clear hC a4 a0 Z a5;refine xB (ll3 0 6 10) h U<|tn<|sq<|sr<|mv U<|eq' U<|nn<|cd U (λc4=>?_)<|λc4=>?_;have b5:¬4<(m.q.p.at o.b o.p).length+(m.q.p.at (1-o.b)<|z4l o.b o.p m.rk).length:=λe=>by rw[if_pos e]at c4;exact absurd c4 dd
 have hQ:=hQ b5;have d1:=d1 b5;refine rg<|mv U<|z0l U O z4y<|nlc U<|fad U z4b ?_;have hM:=a3.ext<|(((q1.n6 q2 q3 a9 b0 a6 a7).n1 b1).n1 b7).z3 d0 q24 b9;refine z5o (cs':=j1r ka { m with q:=q' }) U U hM.k t43 x1s U<|λk0 d6 g1 l8=>?_;have hM:=hM.beds mtd (hQ.low oo) d6 g1 d1;have hk:=hM.k;have a3:=hM;have f5:=hM;have hF:Lw.Own z1h 54 wS.heap.size _ (slv m.fa) m.fl:=hM.f;clear d6;refine kpL (ll1 6) U<|nl<|tn<|sr<|mv U<|asg U<|nn<|rt<|r1 U ?_;exact⟨_,rfl,by rw[c4];exact MRet.ok (by rw[z5v,if_neg c9,if_neg (λh=>h a8),if_neg b6,if_neg b5];exact congrArg Except.ok (by have hj:y1t m.q.p o.b o.p (z4l o.b o.p m.rk)=z7h m.p o:=x7r (p:=m.p) e8.1;unfold MQ.p;simp only[e5 b5];rw[hj])) hM⟩;refine sk<|tn<|sr<|mv U<|asg U<|nn<|rt<|r1 U ?_;have hM:=a3.ext<|(((q1.n6 q2 q3 a9 b0 a6 a7).n1 b1).n1 b7).z3 d0 q24 b9;exact⟨_,rfl,MRet.err (by rw[z5v,if_neg c9,if_neg (λh=>h a8),if_neg b6,if_pos (l15.1 λe=>c4<|if_neg e)];rw[if_pos (l15.1 λe=>c4<|if_neg e)]) c4 hM.fr⟩
end Go.Proofs.YtkafbfjmcigaiaaGreatDoor
namespace Go.G08
open Go.Lw Go.G21
theorem x4a {p:MSt}{y:Int}{q:Yn}(h:MInv p)(Z:1<=y/\y<=6)(O:y0z q)(I:q.ct=(p.y y).ct):MInv (p.setY y q):=by
 have hl:(y-1).toNat<p.ys.length:=by rw[h.ly];omega
 refine⟨h.rk,h.B,by show (p.ys.set _ q).length=6;rw[l19];exact h.ly,h.lt,λk D=>?_,h.has,h.cnt,h.all,h.cv⟩;show y0z ((p.ys.set (y-1).toNat q).getD k yn0)/\((p.ys.set (y-1).toNat q).getD k yn0).ct=z3k p.tb k;rw[z1k hl];split;rename_i e;refine⟨O,I.trans ?_⟩;have:=(h.yn k D).2;rw[<-e]at this ⊢;exact this;exact h.yn k D
theorem x6u {st:List Pa}{p:Pa}(h:y3x st)(hp:y2w p):y3x (z7r st p):=by
 unfold z7r;split;intro i hi;rw[l27]at hi;have e:∀k,k<st.length-1->(st.take<|st.length-1).getD k pa0=st.getD k pa0:=λk Z=>by
  rw[List.getD,l53,if_pos Z,List.getD]
 obtain⟨I,O⟩:=h i oo;refine⟨by rw[e i oo];exact I,λD=>?_⟩;rw[e i oo,e (i-1) oo];exact O D;rename_i hc;intro i hi;rw[l13,l44]at hi;have e:∀k,k<st.length->(st++[p]).getD k pa0=st.getD k pa0:=λk Z=>by
  rw[List.getD,l46 Z,List.getD]
 by_cases hl:i<st.length;obtain⟨I,O⟩:=h i hl;refine⟨by rw[e i hl];exact I,λD=>?_⟩;rw[e i hl,e (i-1) oo];exact O D;obtain rfl:i=st.length:=by omega
 have ep:(st++[p]).getD st.length pa0=p:=by simp[List.getD]
 refine⟨by rw[ep];exact hp,λD=>?_⟩;rw[ep,e (st.length-1) oo];exact λhh=>hc ⟨D,hh⟩
theorem x5p:∀ {l st:List Pa},y3x st->v7e l->y3x (z3x st l)
 | [],_,h,_=>h
 | p::l,st,h,hv=>x5p (l:=l) (x6u h<|hv p sp0)<|λq D=>hv q<|l36 _ D
theorem k0p {y:Yn}{pl:Int}{l:List Pa}(h:goE y pl l=0):y0z (goS y pl l):=by
 unfold goE at h;split at h;exact absurd h t13;rename_i D;have D:=u2u<|l15.1 D;split at h;omega;rename_i O;split at h;omega;rename_i Z;split at h;omega;rename_i hi;have hi:y.inn=true:=by simpa using hi
 split at h;omega;have I:=D.2;rw[if_pos hi]at I;refine⟨D.1,?_⟩;show if y.inn=true then _ else _
 rw[if_pos hi];exact⟨l15.1 O,by show (z3x y.pe l).length<=4096;omega,x5p I.2.2 (l15.1 Z)⟩
theorem z6n (B:Bd){b n:Int}(h:z3m b n=0)(s:List LId):(B.put b n s).flat.length+(B.at b n).length=B.flat.length+s.length:=by
 have:=(List.perm_iff_count.2 (λi=>by rw[l21,l21];exact z5h B h s i):((B.put b n s).flat++B.at b n).Perm (B.flat++s)).length_eq;simpa using this
theorem j2d {B:Bd}(h:BdOk B){b n:Int}(hn:z3m b n=0):BdOk (B.put b n []):=h.put hn sp0 sp0 λi=>by
 have:=l85.1 h.nd i
 simp only[l134];omega
theorem j0l {p q:MSt}{o:MOp}(h:MInv p)(hn:z3m o.b o.p=0)(e:y2l p o=.ok q):MInv q:=by
 unfold y2l at e;split at e;cases e;cases e;refine⟨h.rk,j2d h.B hn,h.ly,h.lt,h.yn,λi hi=>?_,?_,h.all,h.cv⟩;rcases y3a hn hi with k|k
 cases k;exact h.has i k;have D:=z6n p.B hn [];have I:=h.cnt;show (p.B.put o.b o.p []).flat.length+(p.fa++p.B.at o.b o.p).length<=z4x p.tb;rw[l13];simp only[l52]at D;omega
theorem y6s {p:MSt}{o:MOp}(h:o.b=0\/o.b=1)(i:LId):(z7h p o).count i=(p.B.at o.b o.p).count i+(p.B.at (1-o.b)<|z4l o.b o.p p.rk).count i:=by
 unfold z7h;rcases h with e|e
 rw[e,if_neg dd,l21,show (1:Int)-0=1 from U];omega;rw[e,if_pos U,l21,show (1:Int)-1=0 from U]
theorem x1h {p q:MSt}{o:MOp}(h:MInv p)(hn:z3m o.b o.p=0)(e:z5v p o=.ok q):MInv q:=by
 unfold z5v at e;split at e;cases e;split at e;cases e;rename_i D;have D:=l15.1 D;split at e;cases e;split at e;cases e;rename_i h4;cases e;have hb:=(z2t hn).1;have hc:=y6s (p:=p) (o:=o) hb;have a0:(z7h p o).length=(p.B.at o.b o.p).length+(p.B.at (1-o.b)<|z4l o.b o.p p.rk).length:=by
  have:=(List.perm_iff_count.2 (λi=>by rw[l21];exact hc i):(z7h p o).Perm (p.B.at o.b o.p++p.B.at (1-o.b) (z4l o.b o.p p.rk))).length_eq;simpa using this
 have I:∀i∈z7h p o,i∈p.B.flat:=λi hi=>by
  have O:=l127.2 hi;rw[hc i]at O;by_cases k:0<(p.B.at o.b o.p).count i;exact y1w<|l127.1 k;exact y1w<|l127.1 (show 0<(p.B.at (1-o.b)<|z4l o.b o.p p.rk).count i by omega)
 have Z:(p.B.put o.b o.p []).at (1-o.b) (z4l o.b o.p p.rk)=p.B.at (1-o.b) (z4l o.b o.p p.rk):=by
  rw[z5d p.B hn D,if_neg oo]
 have a1:=j2d h.B hn;refine⟨h.rk,a1.put D oo (λi hi=>h.B.nm i<|I i hi)<|λi=>?_,h.ly,h.lt,h.yn,λi hi=>?_,?_,h.all,h.cv⟩;have O:=z5h p.B hn [] i;have h2:=l85.1 h.B.nd i;rw[Z,hc i];simp only[l134]at O;omega;rcases y3a D hi with k|k
 exact h.has i<|I i k;rcases y3a hn k with k|k
 cases k;exact h.has i k;have O:=z6n p.B hn [];have h2:=z6n (p.B.put o.b o.p []) D<|z7h p o;have h3:=h.cnt;rw[Z,a0]at h2;simp only[l52]at O;show ((p.B.put o.b o.p []).put (1-o.b) (z4l o.b o.p p.rk)<|z7h p o).flat.length+p.fa.length<=z4x p.tb;omega
theorem u2q {p q:MSt}{o:MOp}{th st:List LId}(h:MInv p)(hy:1<=o.y/\o.y<=6)(hn:z3m o.b o.p=0)(hs:st=[]\/(st=p.B.at o.b o.p/\st.length<4))(e:y1m p o th st=.ok q):MInv q:=by
 unfold y1m at e;split at e;cases e;rename_i hm;split at e;cases e;rename_i hc;cases e;have hm:=l15.1 hm;obtain⟨j,hj,a6⟩:∃j:Nat,j<6/\o.y=(j:Int)+1:=⟨(o.y-1).toNat,oo,oo⟩;have O:(o.y-1).toNat=j:=by omega
 have I:=h.yn j hj;have a7:p.y o.y=p.ys.getD j yn0:=by unfold MSt.y;rw[O]
 rw[<-a7]at I;have a5:j<p.ys.length:=by rw[h.ly];exact hj
 have D:j<p.tb.length:=by rw[h.lt];exact hj
 have a0:(p.y o.y).inn=true/\(p.y o.y).ct≠2048:=by
  unfold mkE at hm;split at hm;exact absurd hm t13;split at hm;omega;rename_i hi;split at hm;omega;rename_i hk;exact⟨by simpa using hi,hk⟩
 have a8:=I.1.1;have Z:∀i∈p.B.flat,i≠⟨o.y,(p.y o.y).ct⟩:=λi hi e=>by
  have:=h.has i hi;rw[e]at this;obtain⟨_,_,_,h4⟩:=this;simp only at h4;rw[O,I.2]at h4;omega
 have a1:∀i∈st,i∈p.B.flat:=λi hi=>by
  rcases hs with e|⟨e,_⟩
  rw[e]at hi;cases hi;rw[e]at hi;exact y1w hi
 have a2:p.row o.y=p.tb.getD j []:=by unfold MSt.row;rw[O]
 simp only[O,a2];have a4:(st++[(⟨o.y,(p.y o.y).ct⟩:LId)]).length<=4:=by
  rw[l13,l44];rcases hs with e|⟨_,e⟩
  rw[e];simp;omega
 have a3:=y7e p.tb j (p.tb.getD j []++[(⟨o.b,(p.y o.y).nw,th,(p.y o.y).pe⟩:Lp)]) D;rw[l13,l44,show (p.tb.getD j []).length=z3k p.tb j from U]at a3;refine⟨h.rk,h.B.put hn a4 (λi hi=>?_)<|λi=>?_,by show (p.ys.set _ _).length=6;rw[l19];exact h.ly,by show (p.tb.set _ _).length=6;rw[l19];exact h.lt,λk hk=>?_,λi hi=>?_,?_,?_,h.cv⟩;rcases l23.1 hi with k|k
 exact h.B.nm i<|a1 i k;rw[l11.1 k];unfold y2t;simp only;omega;have hd:=l85.1 h.B.nd i;rw[l21,l96];by_cases e:(⟨o.y,(p.y o.y).ct⟩:LId)=i;have h0:p.B.flat.count i=0:=l74.2 λk=>Z i k e.symm;have h1:st.count i=0:=l74.2 λk=>Z i (a1 i k) e.symm;rw[h0,h1];split<;>omega
 rw[if_neg (by simpa using e)];rcases hs with e|⟨e,_⟩
 rw[e];simp only[l134];omega;rw[e];omega;show y0z ((p.ys.set j<|mkS<|p.y o.y).getD k yn0)/\((p.ys.set j<|mkS<|p.y o.y).getD k yn0).ct=z3k (p.tb.set j _) k;rw[z1k a5,y1c D];by_cases e:j=k;rw[if_pos e,if_pos e];refine⟨⟨⟨by show 0<=(p.y o.y).ct+1;omega,by show (p.y o.y).ct+1<=2048;omega⟩,?_⟩,?_⟩;have h2:=I.1.2;rw[if_pos a0.1]at h2;show if true=true then _ else _
 rw[if_pos U];exact⟨h2.1,by show ([]:List Pa).length<=4096;simp,λi hi=>by simp[mkS]at hi⟩;show (p.y o.y).ct+1=_;rw[I.2,l13,l44];rfl;rw[if_neg e,if_neg e];exact h.yn k hk;rcases y3a hn hi with k|k
 rcases l23.1 k with k|k
 exact x3z D<|h.has i<|a1 i k;rw[l11.1 k];have:=y1a (T:=p.tb.set j<|p.tb.getD j []++[(⟨o.b,(p.y o.y).nw,th,(p.y o.y).pe⟩:Lp)]) (y:=j) (n:=z3k p.tb j) (by rw[l19];exact D) (by rw[y1c D,if_pos U,l13,l44];exact l119 _);rwa [<-a6,<-I.2]at this;exact x3z D<|h.has i k;have h1:=z6n p.B hn<|st++[(⟨o.y,(p.y o.y).ct⟩:LId)];have h2:=h.cnt;have h3:st.length<=(p.B.at o.b o.p).length:=by
  rcases hs with e|⟨e,_⟩
  rw[e];simp;rw[e];exact l20 _
 rw[l13,l44]at h1;show (p.B.put o.b o.p _).flat.length+p.fa.length<=z4x (p.tb.set j _);omega;have:=h.all;show z4x (p.tb.set j _)<=2048;omega
theorem k3u {p q:MSt}{o:MOp}(h:MInv p)(Z:1<=o.y/\o.y<=6)(hd:z4w o.d)(e:inM p o=.ok q):MInv q:=by
 unfold inM at e;split at e;cases e;rename_i D;cases e;have D:=l15.1 D;refine x4a h Z ?_ U;have I:y0z (p.y o.y):=by
  unfold enE at D;split at D;exact absurd D t13;rename_i O;exact u2u<|l15.1 O
 refine⟨I.1,?_⟩;show if true=true then _ else _
 rw[if_pos U];refine⟨?_,by show ([]:List Pa).length<=4096;simp,λi hi=>by simp[enS]at hi⟩;show x2y (if o.d=1 then 179 else -13);split<;>decide
theorem j8q {p q:MSt}{o:MOp}(h:MInv p)(Z:1<=o.y/\o.y<=6)(e:x7f p o=.ok q):MInv q:=by
 unfold x7f at e;split at e;cases e;rename_i D;cases e;have D:=l15.1 D;refine x4a h Z ?_ U;have I:y0z (p.y o.y):=by
  unfold lvE at D;split at D;exact absurd D t13;rename_i O;exact u2u<|l15.1 O
 refine⟨I.1,?_⟩;show if false=true then _ else _
 rw[if_neg dd];exact⟨rfl,rfl,rfl⟩
theorem y1u {p q:MSt}{y pl en:Int}(h:MInv p)(I:1<=y/\y<=6)(e:z8x p y pl en=.ok q):MInv q/\q.B=p.B/\q.rk=p.rk:=by
 unfold z8x at e;split at e;cases e;rename_i D;cases e;exact⟨x4a h I (k0p<|l15.1 D) U,rfl,rfl⟩
theorem j1c {p q:MSt}{o:MOp}(h:MInv p)(D:1<=o.y/\o.y<=6)(e:y1x p o=.ok q):MInv q:=by
 unfold y1x at e;split at e;cases e;exact(y1u h D e).1
theorem u8d {p q:MSt}{o:MOp}(h:MInv p)(D:1<=o.y/\o.y<=6)(hn:z3m o.b o.p=0)(e:y0f p o=.ok q):MInv q:=by
 unfold y0f at e;split at e;cases e;split at e;cases e;rename_i r I;exact u2q (y1u h D I).1 D hn (.inl U) e
theorem u8a {p q:MSt}{o:MOp}(h:MInv p)(D:1<=o.y/\o.y<=6)(hn:z3m o.b o.p=0)(e:z9w p o=.ok q):MInv q:=by
 unfold z9w at e;split at e;cases e;split at e;cases e;rename_i r I;split at e;cases e;exact u2q (y1u h D I).1 D hn (.inr ⟨rfl,oo⟩) e
theorem v2a {p:MSt}{d:Int}{y D:Yn}(e:z6g p d y=.ok D):(y0z y->y0z D)/\D.ct=y.ct:=by
 unfold z6g at e;split at e;cases e;exact⟨id,rfl⟩;split at e;cases e;rename_i I;cases e;exact⟨λ_=>k0p<|l15.1 I,rfl⟩
theorem x5w {p:MSt}{d:Int}:∀ {l l':List Yn},z3g p d l=.ok l'->l'.length=l.length/\∀k,(y0z (l.getD k yn0)->y0z (l'.getD k yn0))/\(l'.getD k yn0).ct=(l.getD k yn0).ct
 | [],l',e=>by cases e;exact⟨rfl,λk=>⟨id,rfl⟩⟩
 | y::l,l',e=>by
  unfold z3g at e
  split at e
  ·cases e
  rename_i y' O
  split at e
  ·cases e
  rename_i Z hl
  cases e
  obtain⟨D,I⟩:=x5w hl
  refine⟨by simp[D],λk=>?_⟩
  cases k with
  | zero=>exact v2a O
  | succ k=>simpa only[l58] using I k
def k6t (l:List Cx):Prop:=∀c∈l,-1048576<=c.n/\c.n<=1048576
theorem u4l {l l':List Cx}{c:Cx}(h:k6t l)(e:y4i l c=.ok l'):k6t l':=by
 unfold y4i at e;dsimp only at e;generalize (if 0<z6q c.a c.b then (c.b,c.a) else (c.a,c.b))=kk at e;split at e;cases e;rename_i O;split at e;cases e;intro x D;exact h x (l105.1 D).1;cases e;intro x D;unfold y5o at D;split at D;obtain⟨z,I,rfl⟩:=l55.1 D;split;simp only;omega;exact h z I;rcases l23.1 D with k|k
 exact h x k;rw[l11.1 k];simp only;omega
theorem x4c:∀ {r l l':List Cx},k6t l->z3s l r=.ok l'->k6t l'
 | [],l,l',h,e=>by cases e;exact h
 | c::r,l,l',h,e=>by
  unfold z3s at e
  split at e
  ·cases e
  rename_i I D
  exact x4c (u4l h D) e
theorem z7z {p q:MSt}{d:Int}(h:MInv p)(hd:-4<=p.rk+stI d/\p.rk+stI d<=4)(e:z3l p d=.ok q):MInv q/\q.rk=p.rk+stI d:=by
 unfold z3l at e;split at e;cases e;rename_i ys I;split at e;cases e;rename_i cr D;cases e;obtain⟨h1,O⟩:=x5w I;exact⟨⟨hd,h.B,h1.trans h.ly,h.lt,λk Z=>⟨(O k).1 (h.yn k Z).1,(O k).2.trans (h.yn k Z).2⟩,h.has,h.cnt,h.all,x4c h.cv D⟩,rfl⟩
theorem v1j {r:Int}(O:-4<=r/\r<=4):∀ {n:Nat} {p q:MSt},MInv p->z3p n p r=.ok q->MInv q
 | 0,p,q,h,e=>by cases e;exact h
 | n+1,p,q,h,e=>by
  unfold z3p at e
  split at e
  ·cases e;exact h
  rename_i I
  split at e
  ·cases e
  rename_i p2 D
  have Z:=h.rk
  refine v1j O (z7z h ?_ D).1 e
  unfold stI
  split<;>split<;>omega
theorem z8m {p q:MSt}{o:MOp}(h:MInv p)(e:doM p o=.ok q):MInv q:=by
 unfold doM at e;split at e;cases e;rename_i hc;obtain⟨_,O,D,h3,I,Z⟩:=z3u<|l15.1 hc;unfold opM at e;split at e;exact k3u h (D oo) (O oo) e;split at e;exact j8q h (D oo) e;split at e;exact v1j (Z oo) h e;split at e;exact u8d h (D oo) (I oo) e;split at e;exact u8a h (D oo) (I oo) e;split at e;exact j1c h (D oo) e;split at e;exact x1h h (I oo) e;exact j0l h (I oo) e
end Go.G08
namespace Go.G08
open Go.Lw Go.G21
section
variable {τ:TyK} {Mt:Nat} {wS w w' w2:World} {a:MA} {m:MQ} {j:Nat} {u:SV} {q:LpQ}
theorem MkM.row (h:MkM τ Mt wS a w m)(D:MtOk τ Mt)(hj:j<6)(hq:LpO τ wS.heap.size w q)(a1:∀k∈z0v (slv q.th),k∉z0v (slv m.fa))
    (h1:Lw.Own z7t τ.L wS.heap.size w' (slv u) ((m.ts.getD j tq0).2++[q])) (f1:Fr (z0v<|slv (m.ts.getD j tq0).1) w w') (hx:slv u=slv (m.ts.getD j tq0).1\/z0v (slv u)=z0v (slv (m.ts.getD j tq0).1)\/z0v (slv u)=[w.heap.size])
    (h2:Lw.Own z5e τ.T wS.heap.size w2 a.TV (m.ts.set j (u,(m.ts.getD j tq0).2++[q]))) (f2:Fr [a.gt] w' w2):MkM τ Mt wS a w2 { m with ts:=m.ts.set j (u,(m.ts.getD j tq0).2++[q]) }:=by
  have hl:j<m.ts.length:=by rw[h.lt];exact hj
  have I:∀T,T≠τ.L->OffT w T (z0v<|slv (m.ts.getD j tq0).1):=λT hT=>z7m (h.t.ins j hl)<|l51 hT
  have O:=z2d h.t.out f1<|I _ D.o.tl
  have Z:∀T,T≠τ.T->OffT w' T [a.gt]:=λT hT=>z7m O<|l51 hT
  refine⟨y5b (y5b h.k f1<|I _ D.l) f2<|Z _ D.t,BdO.tf (BdO.tf h.b f1 (I _<|l51 D.o.ls)<|I _<|l51 D.o.li) f2 (Z _<|l51 D.o.ts)<|Z _<|l51 D.o.ti,
    (h.y.tf f1 (I _ D.o.yl)<|I _<|l51 D.o.lp).tf f2 (Z _ D.o.yt)<|Z _<|l51 D.o.tp,h.t.put D.o hl hq h1 f1 hx h2 f2,(h.c.tf f1<|I _ D.l).tf f2<|Z _ D.t,z2d (z2d h.f f1<|I _<|l51 D.o.li) f2<|Z _<|l51 D.o.ti,h.fb,λi hi p hp=>?_,h.ly,by rw[l19];exact h.lt,h.gk,h.gc,(h.fr.step f1 (y9p (h.t.ins j hl) t42) λk hk a0=>?_).step f2 (y9p O t42) λk hk a0=>?_⟩
  · simp only at hp
    rw[z1k hl]at hp
    split at hp
    · rcases l23.1 hp with k|k
      · exact h.ft j hj p k
      · rw[l11.1 k];exact a1
    · exact h.ft i hi p hp
  · have:=((h.t.ins j hl).blk k hk).1;omega
  · have:=(h.t.out.blk k hk).1;omega
theorem k0l {p:MSt}{o:MOp}{st:List LId}(h:MInv p)(hy:1<=o.y/\o.y<=6)(hs:st=[]\/(st=p.B.at o.b o.p/\st.length<4))(Z:mkE (p.y o.y)=0) :
    (st++[(⟨o.y,(p.y o.y).ct⟩:LId)]).length<=4/\(∀i∈st++[(⟨o.y,(p.y o.y).ct⟩:LId)],y2t i)/\∀i,p.B.flat.count i+(st++[(⟨o.y,(p.y o.y).ct⟩:LId)]).count i<=(p.B.at o.b o.p).count i+1:=by
  obtain⟨j,hj,a4⟩:∃j:Nat,j<6/\o.y=(j:Int)+1:=⟨(o.y-1).toNat,oo,oo⟩
  have O:(o.y-1).toNat=j:=by omega
  have I:=h.yn j hj
  have a2:p.y o.y=p.ys.getD j yn0:=by unfold MSt.y;rw[O]
  rw[<-a2]at I
  have a1:(p.y o.y).inn=true/\(p.y o.y).ct≠2048:=by
    unfold mkE at Z
    split at Z
    · exact absurd Z t13
    · split at Z
      · omega
      · rename_i hi
        split at Z
        · omega
        · rename_i hk;exact⟨by simpa using hi,hk⟩
  have a3:=I.1.1
  have D:∀i∈p.B.flat,i≠⟨o.y,(p.y o.y).ct⟩:=λi hi e=>by
    have:=h.has i hi
    rw[e]at this
    obtain⟨_,_,_,h4⟩:=this
    simp only at h4
    rw[O,I.2]at h4
    omega
  have a0:∀i∈st,i∈p.B.flat:=λi hi=>by
    rcases hs with e|⟨e,_⟩
    · rw[e]at hi;cases hi
    · rw[e]at hi;exact y1w hi
  refine⟨?_,λi hi=>?_,λi=>?_⟩
  · rw[l13,l44]
    rcases hs with e|⟨_,e⟩
    · rw[e];simp
    · omega
  · rcases l23.1 hi with k|k
    · exact h.B.nm i<|a0 i k
    · rw[l11.1 k];unfold y2t;simp only;omega
  · have hd:=l85.1 h.B.nd i
    rw[l21,l96]
    by_cases e:(⟨o.y,(p.y o.y).ct⟩:LId)=i
    · have h0:p.B.flat.count i=0:=l74.2 λk=>D i k e.symm
      have h1:st.count i=0:=l74.2 λk=>D i (a0 i k) e.symm
      rw[h0,h1];split<;>omega
    · rw[if_neg (by simpa using e)]
      rcases hs with e|⟨e,_⟩
      · rw[e];simp only[l134];omega
      · rw[e];omega
end
end Go.G08
namespace Go.Lw
theorem y3c {ι:Type}{pq:Option Nat}{P:Program}{ops:Array Oper}{K:Act->World->Prop}{C:World->Prop}{fu:Nat}{listed:Array Bool}{a:Act}{w:World}{ds:List Nat}{n:Nat}{L:List (Nat×Value)}(h:AgM ds a n L)(Z:List (Nat×Value))(_hs:Sub Z L)(D:Array Bool)(O:Nat)(M:ι->List (Nat×Value))(R:ι->World->Prop)
    (main:(∀(i:ι) l2 I w',l2=D->AgM ds I n (Z++M i)->R i w'->z0y pq P ops (z0s K) C O l2 I w')->z0y pq P ops (z0s K) C fu listed a w)
    (tail:∀i I w',R i w'->AgM ds I n (Z++M i)->z0y pq P ops (z0s K) C O D I w'):z0y pq P ops (z0s K) C fu listed a w:=
  main λi l2 I w' e ha hr=>by subst e;exact tail i I w' hr ha
end Go.Lw
namespace Go.Proofs.YtkafbfjmcigaiaaGreatDoor
open Go.Lw Go.G21 Go.G08 _root_.Go.Proofs.Tryz
theorem k9l:BuildAt prog 131 [(0,1),(1,1),(2,1),(3,1)] [(.int .u8 0),(.bool false),(.slice none 0 0),(.slice none 0 0)]:=BuildAt.struct underlying131 (λ_=>kr)<|λ_=>kr
theorem x6p:CallOf prog 54:=cO
theorem u0p:CallOf prog 146:=cO
theorem y4s:z1e prog 120 3 4:=λ_ _=>kr
theorem j9j:z1e prog 226 0 0:=λ_ _=>kr
theorem j8y:z1e prog 226 1 1:=λ_ _=>kr
theorem j6f:z1e prog 226 2 2:=λ_ _=>kr
theorem k0j:z1s prog 114 1:=λ_=>kr
theorem z4p (v:Value)(l:List LId)(w0:World)(I:Sl z1h w0 v l)(hl:l.length<=100000):Rets prog 54 #[v] w0 λr w'=>∃g,r=.slice (saa g) l.length l.length/\w0.heap.size<=g/\Lw.Own z1h 54 w0.heap.size w' r l/\Fr [] w0 w':=by
 obtain⟨A,c,rfl,a0,hM,hA⟩:=id I;clear hA;unfold maxLen at hM;refine wf func54 U ?_;have O:=I;refine sr<|asg U<|nn<|sr<|mv U<|lnS U<|z1g (m:=l.length) (c:=l.length) (id0) U z4m z9l U<|λg6 w1 a1 D Z z1=>(asg U<|nn<|sr<|mv U<|mv U ?_);have I:=O.ext Z;refine z9p (zs:=List.replicate l.length id0) t35 U (by rw[l22];exact D) I t36 z4m<|λw2 D q2 z2=>?_;rw[l22]at D;exact nn<|sr<|mv U<|asg U<|nn<|rt<|r1 U ⟨_,rfl,g6,rfl,oo,D.low oo,(Z.z1 q2)⟩
theorem j3b (ts:List TQ)(j:Nat):(ts.getD j tq0).2.length<=z4x (z2o ts):=by
 by_cases h:j<ts.length;have k:=y7e (z2o ts) j [] (by rw[l18];exact h);have e:z3k (z2o ts) j=(ts.getD j tq0).2.length:=by
  unfold z3k;rw[List.getD,List.getD,l26,l10 h];exact l18 ..
 rw[l52,e]at k;omega;rw[List.getD,l32 oo];exact l16 _
theorem k7t {o:MOp}{ths st:List LId}{th sn u:SV}{q':BdQ}(m:MQ)(j:Nat)(D:(o.y-1).toNat=j)(I:q'.p=m.q.p.put o.b o.p (st++[(⟨o.y,(m.ys.getD j yq0).ct⟩:LId)])) :
    { m with q:=q',ys:=m.ys.set j ⟨true,(m.ys.getD j yq0).pl,(m.ys.getD j yq0).ct+1,false,sv0,[]⟩,ts:=m.ts.set j (u,(m.ts.getD j tq0).2++[(⟨o.b,(m.ys.getD j yq0).nw,th,sn,ths,(m.ys.getD j yq0).pes⟩:LpQ)]) }.p =
      { m.p with B:=m.p.B.put o.b o.p<|st++[(⟨o.y,(m.ys.getD j yq0).p.ct⟩:LId)],ys:=m.p.ys.set (o.y-1).toNat<|mkS (m.ys.getD j yq0).p,tb:=m.p.tb.set (o.y-1).toNat (m.p.row o.y++[(⟨o.b,(m.ys.getD j yq0).p.nw,ths,(m.ys.getD j yq0).p.pe⟩:Lp)]) }:=by
  unfold MSt.row
  rw[D]
  have O:(z2o m.ts).getD j []=(m.ts.getD j tq0).2.map LpQ.p:=by
    rw[List.getD,List.getD,l26]
    cases m.ts[j]?<;>rfl
  simp only[MQ.p,I,l136,O,l31,l28,l138,mkS]
theorem u3j (wS:World)(ka:MA)(m:MQ)(o:MOp)(th:SV)(k1:List LId)(s8:Value)(st:List LId)(w0:World)(hM:MkM τd 120 wS ka w0 m)(hi:MInv m.p)(hy:1<=o.y/\o.y<=6)(hn:z3m o.b o.p=0)(g7:Lw.Own z1h 54 wS.heap.size w0 (slv th) k1)(s4:∀k∈z0v (slv th),k∉z0v (slv m.fa))(b6:Sl z1h w0 s8 st)(hs:st=[]\/(st=m.q.p.at o.b o.p/\st.length<4)):Rets prog 111 #[pta ka.gk,opV o,.slice th.1 th.2.1 th.2.2,s8] w0 λr w'=>MRet τd 120 wS ka (y1m m.p o k1 st) r w':=by
 have A5:=hM.fr.size;have O:=hM.k;have z0:=O.lt;have A0:=hM.ly;have o9:=hM.lt;have y5:=(hM.y.out.blk ka.gy t10).2;obtain⟨j,hj,A2⟩:∃j:Nat,j<6/\o.y=(j:Int)+1:=⟨(o.y-1).toNat,oo,oo⟩;have r8:(o.y-1).toNat=j:=by omega
 have l6:m.p.y o.y=(m.ys.getD j yq0).p:=by rw[k8e,r8]
 obtain⟨AS,cS,rfl,y8⟩:=b6.form;have A1:=z2t hn;obtain⟨n,i2⟩:∃n:Nat,o.p=(n:Int):=⟨o.p.toNat,oo⟩;have hv:BdOk m.q.p:=hi.B;have A4:st.length<=3:=by rcases hs with e|⟨_,e⟩;rw[e];simp;omega
 have y2:z4x (z2o m.ts)<=2048:=hi.all;have y6:=hM.gk;have s2:∀k∈z0v (slv (m.ts.getD j tq0).1),k<w0.heap.size:=λk O=>((hM.t.ins j (by rw[o9];exact hj)).blk k O).2;have k5:ka.gk∉z0v (slv th):=λhb=>g7.neB hM.k dd hb;have k6:ka.gy∉z0v (slv th):=λhb=>Own.neO hM.y.out g7 dd ka.gy t10 hb;have k7:∀k∈z0v (slv th),k<w0.heap.size:=λk O=>(g7.blk k O).2;refine wf func111 U ?_;have h9:=hM;have s3:=b6;refine sr<|bx U<|λg5 w1 y9 I q1 z1=>(asg U<|nn<|jn (ι:=Nat×Nat) (ll4 0 2 3 5) (λp=>[(9,pta p.1),(10,pta p.2),(11,.int .i64<|mkE (m.ys.getD j yq0).p)]) (λp w'=>Fr [] w1 w'/\∃(qn:YQ) (e4:Int) (e5:Bool) (sn:SV) (d0:List Pa),(w1.heap.size<=p.1/\w1.heap.size<=p.2/\((mkE (m.ys.getD j yq0).p)=0->qn=(⟨true,(m.ys.getD j yq0).pl,(m.ys.getD j yq0).ct+1,false,sv0,[]⟩:YQ)/\e4=(m.ys.getD j yq0).ct/\e5=(m.ys.getD j yq0).nw/\d0=(m.ys.getD j yq0).pes))/\Blk w' p.1 110 (z3w.enc qn)/\Blk w' p.2 226 [.int .i64 e4,.bool e5,.slice sn.1 sn.2.1 sn.2.2]/\OwnIf ((mkE (m.ys.getD j yq0).p)=0) z2k 172 (max wS.heap.size w1.heap.size) w' (slv sn) d0) U ?_ ?_);have hM:=h9.ext q1;intro a h;refine rgh none (Fr []) ?_;intro w2 q2 hC;have z2:=q2.size;have hM:=hM.ext q2;have O:=O.ext<|q1.n1 q2;have I:=I.ext q2;have d1:=hM;have b9:=O;have b3:=I;refine y3c (ι:=(Nat×Nat)×YQ×(Int×Bool)×SV×List Pa) h (ll4 0 2 3 5) U #[true,true,true,true,true,true,true,true,true,true,true,true,true,true,true,true,false,false,false] 3 (λp=>[(9,pta p.1.1),(10,pta p.1.2),(26,yvv p.2.1),(27,.agg #[.int .i64 p.2.2.1.1,.bool p.2.2.1.2,.slice p.2.2.2.1.1 p.2.2.2.1.2.1 p.2.2.2.1.2.2]),(28,.int .i64<|mkE (m.ys.getD j yq0).p)]) (λp w'=>Fr [] w2 w'/\(w2.heap.size<=p.1.1/\w2.heap.size<=p.1.2/\p.1.1≠p.1.2)/\((mkE (m.ys.getD j yq0).p)=0->p.2.1=(⟨true,(m.ys.getD j yq0).pl,(m.ys.getD j yq0).ct+1,false,sv0,[]⟩:YQ)/\p.2.2.1.1=(m.ys.getD j yq0).ct/\p.2.2.1.2=(m.ys.getD j yq0).nw/\p.2.2.2.2=(m.ys.getD j yq0).pes/\p.1.1∉z0v (slv p.2.2.2.1)/\p.1.2∉z0v (slv p.2.2.2.1))/\Blk w' p.1.1 110 [.bool false,.int .i64 0,.int .i64 0,.bool false,.slice none 0 0]/\Blk w' p.1.2 226 [.int .i64 0,.bool false,.slice none 0 0]/\OwnIf ((mkE (m.ys.getD j yq0).p)=0) z2k 172 (max wS.heap.size w2.heap.size) w' (slv p.2.2.2.1) p.2.2.2.2) (λf3=>?_) ?_;refine z0e 0 h U λa h=>z0p 1 h U λa h=>z0c 2 h U z4d U λa h=>z0m 3 h U (fx b9.ext) U y6d U λa h=>z0c 4 h U z4t U λa h=>z0m 5 h U (fx b3.ext) U na5 U λa h=>z3a 6 h U t23 U λa h=>z1d (p:=j) (yq0) 7 h U hM.y.out.sl U y6n U λy0 r5 a h=>z1z (cs:=z3w.enc<|m.ys.getD j yq0) 8 h wn U (λ_ hw=>r5 _ (d1.ext hw).y.out.sl) z3v U λa h=>x2j 9 14 15 kr U U U ?_ ?_ ?_;refine z0n h (z0a U z0f) u0p (y2o (m.ys.getD j yq0) _ (hM.y.ins j oo).sl<|λk O=>((hM.y.ins j oo).blk k O).2) ?_;rintro _ w3 ⟨qn,e4,e5,sn,d0,rfl,a7,q3⟩ a h;have z3:=q3.size;have hM:=hM.ext q3;have O:=O.ext q3;have I:=I.ext q3;have hC:=hC.next q3;have Z:OwnIf ((mkE (m.ys.getD j yq0).p)=0) z2k 172 _ _ (slv sn) d0:=λhc=>(a7 hc).2.2.2.2;have e3:=λhc k O=>((Z hc).blk k O).2;refine z0b<|z0e 10 h U λa h=>z0k 11 h U λa h=>z0k 12 h U λa h=>z0k 13 h U λa h=>z1v 14 15 kr U ?_ ?_;refine z0u h z6w U λw4 a0 q4 hz a h=>?_;obtain⟨b2,hg⟩:∃g,g=w3.heap.size:=⟨_,rfl⟩;rw[<-hg]at a0 h hz;have c9.gk_9:ka.gk<b2:=by have:=O.lt;omega
 have i1:g5<b2:=by have:=I.lt;omega
 have z4:=q4.size;have O:=O.ext q4;have I:=I.ext q4;have hC:=hC.next q4;refine z0b<|z0d 15 U<|z0u h x5r U λw5 D q5 hz a h=>?_;obtain⟨a8,hg⟩:∃g,g=w4.heap.size:=⟨_,rfl⟩;rw[<-hg]at D h hz;have c9.gk_10:ka.gk<a8:=by have:=O.lt;omega
 have g0:g5<a8:=by have:=I.lt;omega
 have j1:b2<a8:=by have:=a0.lt;omega
 have z5:=q5.size;have Z:=Z.ext<|q4.n1 q5;have a0:=a0.ext q5;have hC:=hC.next q5;exact z0b<|f3 ((b2,a8),qn,(e4,e5),sn,d0) _ _ _ kr (h.sub<|U) ⟨hC,⟨sm,sm,sm⟩,(λe=>⟨(a7 e).1,(a7 e).2.1,(a7 e).2.2.1,(a7 e).2.2.2.1,(λa4=>by have b8:=e3 e _ a4;have b1:=(Z e).blk _ a4;simp only at b8 b1;omega),(λa4=>by have b8:=e3 e _ a4;have b1:=(Z e).blk _ a4;simp only at b8 b1;omega)⟩),a0,D,(λe=>(Z e).low oo)⟩;refine z0u h x5r U λw6 D q6 hz a h=>?_;obtain⟨a8,hg⟩:∃g,g=w3.heap.size:=⟨_,rfl⟩;rw[<-hg]at D h hz;have c9.gk_10:ka.gk<a8:=by have:=O.lt;omega
 have g0:g5<a8:=by have:=I.lt;omega
 have z6:=q6.size;have O:=O.ext q6;have I:=I.ext q6;have hC:=hC.next q6;refine z0b<|z0d 14 U<|z0u h z6w U λw7 a0 q7 hz a h=>?_;obtain⟨b2,hg⟩:∃g,g=w6.heap.size:=⟨_,rfl⟩;rw[<-hg]at a0 h hz;have c9.gk_9:ka.gk<b2:=by have:=O.lt;omega
 have i1:g5<b2:=by have:=I.lt;omega
 have j0:a8<b2:=by have:=D.lt;omega
 have z7:=q7.size;have Z:=Z.ext<|q6.n1 q7;have D:=D.ext q7;have hC:=hC.next q7;exact z0b<|f3 ((b2,a8),qn,(e4,e5),sn,d0) _ _ _ kr (h.sub<|U) ⟨hC,⟨sm,sm,sm⟩,(λe=>⟨(a7 e).1,(a7 e).2.1,(a7 e).2.2.1,(a7 e).2.2.2.1,(λa4=>by have b8:=e3 e _ a4;have b1:=(Z e).blk _ a4;simp only at b8 b1;omega),(λa4=>by have b8:=e3 e _ a4;have b1:=(Z e).blk _ a4;simp only at b8 b1;omega)⟩),a0,D,(λe=>(Z e).low oo)⟩;refine z0u h z6w U λw8 a0 q8 hz a h=>?_;obtain⟨b2,hg⟩:∃g,g=w2.heap.size:=⟨_,rfl⟩;rw[<-hg]at a0 h hz;have c9.gk_9:ka.gk<b2:=by have:=O.lt;omega
 have i1:g5<b2:=by have:=I.lt;omega
 have z8:=q8.size;have hM:=hM.ext q8;have O:=O.ext q8;have I:=I.ext q8;have hC:=hC.next q8;refine z0b<|z1v 9 15 kr U ?_ ?_;refine z0n h (z0a U z0f) u0p (y2o (m.ys.getD j yq0) _ (hM.y.ins j oo).sl<|λk O=>((hM.y.ins j oo).blk k O).2) ?_;rintro _ w9 ⟨qn,e4,e5,sn,d0,rfl,a7,q9⟩ a h;have z9:=q9.size;have O:=O.ext q9;have I:=I.ext q9;have a0:=a0.ext q9;have hC:=hC.next q9;have Z:OwnIf ((mkE (m.ys.getD j yq0).p)=0) z2k 172 _ _ (slv sn) d0:=λhc=>(a7 hc).2.2.2.2;have e3:=λhc k O=>((Z hc).blk k O).2;refine z0b<|z0e 10 h U λa h=>z0k 11 h U λa h=>z0k 12 h U λa h=>z0k 13 h U λa h=>z0d 15 U<|z0u h x5r U λA8 D n9 hz a h=>?_;obtain⟨a8,hg⟩:∃g,g=w9.heap.size:=⟨_,rfl⟩;rw[<-hg]at D h hz;have c9.gk_10:ka.gk<a8:=by have:=O.lt;omega
 have g0:g5<a8:=by have:=I.lt;omega
 have j1:b2<a8:=by have:=a0.lt;omega
 have E2:=n9.size;have a0:=a0.ext n9;have Z:=Z.ext n9;have hC:=hC.next n9;exact z0b<|f3 ((b2,a8),qn,(e4,e5),sn,d0) _ _ _ kr (h.sub<|U) ⟨hC,⟨sm,sm,sm⟩,(λe=>⟨(a7 e).1,(a7 e).2.1,(a7 e).2.2.1,(a7 e).2.2.2.1,(λa4=>by have b8:=e3 e _ a4;have b1:=(Z e).blk _ a4;simp only at b8 b1;omega),(λa4=>by have b8:=e3 e _ a4;have b1:=(Z e).blk _ a4;simp only at b8 b1;omega)⟩),a0,D,(λe=>(Z e).low oo)⟩;refine z0u h x5r U λA9 D m0 hz a h=>?_;obtain⟨a8,hg⟩:∃g,g=w8.heap.size:=⟨_,rfl⟩;rw[<-hg]at D h hz;have c9.gk_10:ka.gk<a8:=by have:=O.lt;omega
 have g0:g5<a8:=by have:=I.lt;omega
 have j1:b2<a8:=by have:=a0.lt;omega
 have E3:=m0.size;have hM:=hM.ext m0;have O:=O.ext m0;have hC:=hC.next m0;refine z0b<|z0d 9 U<|z0n h (z0a U z0f) u0p (y2o (m.ys.getD j yq0) _ (hM.y.ins j oo).sl<|λk O=>((hM.y.ins j oo).blk k O).2) ?_;rintro _ B0 ⟨qn,e4,e5,sn,d0,rfl,a7,m1⟩ a h;have E4:=m1.size;have O:=O.ext m1;have a0:=a0.ext<|m0.n1 m1;have D:=D.ext m1;have hC:=hC.next m1;have Z:OwnIf ((mkE (m.ys.getD j yq0).p)=0) z2k 172 _ _ (slv sn) d0:=λhc=>(a7 hc).2.2.2.2;have e3:=λhc k O=>((Z hc).blk k O).2;refine z0b<|z0e 10 h U λa h=>z0k 11 h U λa h=>z0k 12 h U λa h=>z0k 13 h U λa h=>?_;exact f3 ((b2,a8),qn,(e4,e5),sn,d0) _ _ _ kr (h.sub<|U) ⟨hC,⟨sm,sm,sm⟩,(λe=>⟨(a7 e).1,(a7 e).2.1,(a7 e).2.2.1,(a7 e).2.2.2.1,(λa4=>by have b8:=e3 e _ a4;have b1:=(Z e).blk _ a4;simp only at b8 b1;omega),(λa4=>by have b8:=e3 e _ a4;have b1:=(Z e).blk _ a4;simp only at b8 b1;omega)⟩),a0,D,(λe=>(Z e).low oo)⟩;refine z0u h x5r U λv9 D m2 hz a h=>?_;obtain⟨a8,hg⟩:∃g,g=w2.heap.size:=⟨_,rfl⟩;rw[<-hg]at D h hz;have c9.gk_10:ka.gk<a8:=by have:=O.lt;omega
 have g0:g5<a8:=by have:=I.lt;omega
 have E5:=m2.size;have hM:=hM.ext m2;have O:=O.ext m2;have I:=I.ext m2;have hC:=hC.next m2;refine z0b<|z1v 9 14 kr U ?_ ?_;refine z0n h (z0a U z0f) u0p (y2o (m.ys.getD j yq0) _ (hM.y.ins j oo).sl<|λk O=>((hM.y.ins j oo).blk k O).2) ?_;rintro _ x0 ⟨qn,e4,e5,sn,d0,rfl,a7,m3⟩ a h;have E6:=m3.size;have O:=O.ext m3;have I:=I.ext m3;have D:=D.ext m3;have hC:=hC.next m3;have Z:OwnIf ((mkE (m.ys.getD j yq0).p)=0) z2k 172 _ _ (slv sn) d0:=λhc=>(a7 hc).2.2.2.2;have e3:=λhc k O=>((Z hc).blk k O).2;refine z0b<|z0e 10 h U λa h=>z0k 11 h U λa h=>z0k 12 h U λa h=>z0k 13 h U λa h=>z0d 14 U<|z0u h z6w U λB1 a0 o0 hz a h=>?_;obtain⟨b2,hg⟩:∃g,g=x0.heap.size:=⟨_,rfl⟩;rw[<-hg]at a0 h hz;have c9.gk_9:ka.gk<b2:=by have:=O.lt;omega
 have i1:g5<b2:=by have:=I.lt;omega
 have j0:a8<b2:=by have:=D.lt;omega
 have E7:=o0.size;have D:=D.ext o0;have Z:=Z.ext o0;have hC:=hC.next o0;exact z0b<|f3 ((b2,a8),qn,(e4,e5),sn,d0) _ _ _ kr (h.sub<|U) ⟨hC,⟨sm,sm,sm⟩,(λe=>⟨(a7 e).1,(a7 e).2.1,(a7 e).2.2.1,(a7 e).2.2.2.1,(λa4=>by have b8:=e3 e _ a4;have b1:=(Z e).blk _ a4;simp only at b8 b1;omega),(λa4=>by have b8:=e3 e _ a4;have b1:=(Z e).blk _ a4;simp only at b8 b1;omega)⟩),a0,D,(λe=>(Z e).low oo)⟩;refine z0u h z6w U λB2 a0 l0 hz a h=>?_;obtain⟨b2,hg⟩:∃g,g=v9.heap.size:=⟨_,rfl⟩;rw[<-hg]at a0 h hz;have c9.gk_9:ka.gk<b2:=by have:=O.lt;omega
 have i1:g5<b2:=by have:=I.lt;omega
 have j0:a8<b2:=by have:=D.lt;omega
 have E8:=l0.size;have hM:=hM.ext l0;have O:=O.ext l0;have I:=I.ext l0;have D:=D.ext l0;have hC:=hC.next l0;refine z0b<|z0d 9 U<|z0n h (z0a U z0f) u0p (y2o (m.ys.getD j yq0) _ (hM.y.ins j oo).sl<|λk O=>((hM.y.ins j oo).blk k O).2) ?_;rintro _ B3 ⟨qn,e4,e5,sn,d0,rfl,a7,hq⟩ a h;have E9:=hq.size;have hM:=hM.ext hq;have O:=O.ext hq;have I:=I.ext hq;have D:=D.ext hq;have a0:=a0.ext hq;have hC:=hC.next hq;have A6:=hq;have Z:OwnIf ((mkE (m.ys.getD j yq0).p)=0) z2k 172 _ _ (slv sn) d0:=λhc=>(a7 hc).2.2.2.2;have e3:=λhc k O=>((Z hc).blk k O).2;refine z0b<|z0e 10 h U λa h=>z0k 11 h U λa h=>z0k 12 h U λa h=>z0k 13 h U λa h=>?_;exact f3 ((b2,a8),qn,(e4,e5),sn,d0) _ _ _ kr (h.sub<|U) ⟨hC,⟨sm,sm,sm⟩,(λe=>⟨(a7 e).1,(a7 e).2.1,(a7 e).2.2.1,(a7 e).2.2.2.1,(λa4=>by have b8:=e3 e _ a4;have b1:=(Z e).blk _ a4;simp only at b8 b1;omega),(λa4=>by have b8:=e3 e _ a4;have b1:=(Z e).blk _ a4;simp only at b8 b1;omega)⟩),a0,D,(λe=>(Z e).low oo)⟩;rintro⟨⟨b2,a8⟩,qn,⟨e4,e5⟩,sn,d0⟩ a w18 ⟨hC,⟨p5,l7,hz910⟩,a7,a0,D,Z⟩ h;simp only at p5 l7 hz910 a7 a0 D Z;have o1:=hC;have F0:=o1.size;have O:=O.ext o1;have I:=I.ext o1;refine z0d 16 U<|z0t h U a0 U z3y ?_ (h1:=(by first|(simp[Value.oneCell',S];done)|exact z3w.one<|m.ys.getD j yq0));intro x1 i9 j8 hz a h;have F1:=j8.size;have O:=O.fr j8;have I:=I.fr j8;have D:=D.fr j8;have Z:=Z.fr j8 (by intro l4 k O a4;simp at O;subst O;first|exact(a7 l4).2.2.2.2.1 a4|exact(a7 l4).2.2.2.2.2 a4);have hC:=hC.sp j8;have a0:Blk x1 b2 _ [_,_,_,_,_]:=i9;clear i9;refine z0b<|z0d 17 U<|z0t h U D U x7l ?_ (h1:=(by first|(simp[Value.oneCell',S];done)|exact z3w.one<|m.ys.getD j yq0));intro x2 i9 j9 hz a h;have F2:=j9.size;have O:=O.fr j9;have I:=I.fr j9;have a0:=a0.fr j9;have Z:=Z.fr j9 (by intro l4 k O a4;simp at O;subst O;first|exact(a7 l4).2.2.2.2.1 a4|exact(a7 l4).2.2.2.2.2 a4);have hC:=hC.sp j9;have D:Blk x2 a8 _ [_,_,_]:=i9;clear i9;refine z0b<|z0d 18 U<|z0o h U λa h=>?_;refine z0b<|z0q ?_;clear hC d1 b9 b3;exact xB (ll7 0 2 3 5 9 10 11) h U<|jE ((b2,a8)) U ⟨(q2.z3 o1 j8 j9),⟨qn,e4,e5,sn,d0,⟨sm,sm,λe=>⟨(a7 e).1,(a7 e).2.1,(a7 e).2.2.1,(a7 e).2.2.2.1⟩⟩,a0,D,λe=>(Z e).low oo⟩⟩;rintro⟨g9,f4⟩ B4 ⟨h5,⟨qn,e4,e5,sn,d0,⟨p5,l7,a7⟩,a0,D,Z⟩⟩;have F3:=h5.size;have t9:=a0.lt;have s6:=D.lt;simp only at p5 l7 a0 D;refine kpC [(0,_),(2,_),(3,_),(5,_),(9,pta g9),(10,pta f4),(11,.int .i64<|mkE (m.ys.getD j yq0).p)] U<|sq<|sr<|mv U<|ne' U<|nn<|cd U (λc0=>?_)<|λc0=>?_;refine sr<|mv U<|asg U<|kpL (ll1 8) U<|nn<|rt<|tr<|r1 U ?_;have hM:=h9.ext<|q1.n1 h5;exact⟨_,rfl,MRet.err (by unfold y1m;rw[l6,if_pos c0]) c0 hM.fr⟩;have O:=O.ext<|q1.n1 h5;have l5:(mkE (m.ys.getD j yq0).p)=0:=l15.1 c0;obtain⟨rfl,rfl,rfl,rfl⟩:=a7 l5;have Z:=Z l5;have g3:=λk O=>(Z.blk k O).2;obtain⟨m7,m9,m8⟩:=k0l hi hy hs (by rw[l6];exact l5);rw[l6]at m7 m9 m8;refine sk<|tn<|sq<|sr<|mv U<|nlc U<|fad U y4s<|z0i U O U v4f ?_;have hM:=h9.ext<|q1.n1 h5;refine cl (ev1 U) cO (y5z _ m.ts _ hM.t.at.1 hM.t.at.2 oo) ?_;rintro _ B5 ⟨rfl,e9⟩;have F5:=e9.size;refine ge' U<|kpL (ll7 0 2 3 5 9 10 37) U<|nn<|cd U (λc1=>?_)<|λc1=>?_;refine sr<|asg U<|kpL (ll1 8) U<|nn<|rt<|tr<|r1 U ?_;have hM:=h9.ext<|q1.n2 h5 e9;exact⟨_,rfl,MRet.err (by unfold y1m;rw[l6,if_neg (λe=>e l5),if_pos (show 2048<=z4x m.p.tb by have:m.p.tb=z2o m.ts:=rfl;rw[this];omega)]) dd hM.fr⟩;refine sk<|tn<|sr<|fad U z4t ?_;have I:=I.ext<|h5.n1 e9;refine z0i U I U na5<|fad U j9j ?_;have D:=D.ext e9;refine z0i U D U na3<|z1r (cs:=[_,_]) (ev2 U) q1l (z0g U<|z0g U z0r) U ?_;refine al z9l U<|λg1 B6 y3 a6 f6 F6=>?_;refine z0j (vs:=[_,_]) U a6 y1b (λB7 a6 f7 F7=>?_) (h1:=(by first|(simp[Value.oneCell',S];done)|exact z3w.one<|m.ys.getD j yq0));refine kpL (ll7 0 2 3 5 9 10 12) U<|nn<|sr<|fad U z5w<|y8g U z7e U ?_;have I:=(I.ext f6).fr f7;refine z0i U I U x9t<|fad U j8y ?_;have D:=(D.ext f6).fr f7;refine z0i U D U na4<|mv U<|fad U j6f<|z0i U D U y1j<|z1r (cs:=[_,_,_,_]) (ev4 U) k9l (z0g U<|z0g U<|z0g U<|z0g U z0r) U ?_;refine al v0e U<|λf5 B8 y4 a2 f0 F8=>?_;refine z0j (vs:=[_,_,_,_]) U a2 v5p (λp8 a2 f1 F9=>?_) (h1:=(by first|(simp[Value.oneCell',S];done)|exact z3w.one<|m.ys.getD j yq0));refine kpL (ll6 0 3 5 9 12 13) U<|nn<|jn (ι:=Nat) (ll4 0 5 9 13) (λg_=>[(14,pta g_),(11,.int .i64 0)]) (λg_ w'=>Fr [] p8 w'/\∃q':BdQ,(p8.heap.size<=g_/\q'.p=m.q.p.put o.b o.p (st++[(⟨o.y,(m.ys.getD j yq0).ct⟩:LId)]))/\Blk w' g_ 27 (bdL q')/\BdO 32 54 (max wS.heap.size p8.heap.size) w' q') U ?_ ?_;have hM:=h9.ext<|q1.z6 h5 e9 f6 f7 f0 f1;have O:=(((O.ext<|e9.n1 f6).fr f7).ext f0).fr f1;have b6:=s3.ext<|q1.z6 h5 e9 f6 f7 f0 f1;have I:=(I.ext f0).fr f1;have a0:=(((a0.ext<|e9.n1 f6).fr f7).ext f0).fr f1;have D:=(D.ext f0).fr f1;have Z:=(((Z.ext<|e9.n1 f6).fr f7 (by intro k O a4;simp at O;subst O;have b1:=Z.blk _ a4;have k9:=g3 _ a4;omega)).ext f0).fr f1 (by intro k O a4;simp at O;subst O;have b1:=Z.blk _ a4;have k9:=g3 _ a4;omega);have a6:=(a6.ext f0).fr f1;intro a h;refine rgh none (Fr []) ?_;intro d7 g8 hC;have G0:=g8.size;have hM:=hM.ext g8;have O:=O.ext g8;have b6:=b6.ext g8;have I:=I.ext g8;have a0:=a0.ext g8;have D:=D.ext g8;have Z:=Z.ext g8;have a6:=a6.ext g8;have a2:=a2.ext g8;have d1:=hM;have b9:=O;have p3:=b6;have b3:=I;have i0:=a0;have m6:=D;have g6:=Z;have k2:=a6;have d9:=a2;refine y3c (ι:=Nat×BdQ) h (ll6 0 3 5 9 12 13) U #[true,true,true,true,true,true,true,true,true,true,true,true,true,true,true,true,false,false] 2 (λp=>[(14,pta p.1),(65,bvv p.2),(66,.int .i64 0)]) (λp w'=>Fr [] d7 w'/\(d7.heap.size<=p.1/\p.2.p=m.q.p.put o.b o.p (st++[(⟨o.y,(m.ys.getD j yq0).ct⟩:LId)]))/\Blk w' p.1 27 [.slice none 0 0,.slice none 0 0]/\BdO 32 54 (max wS.heap.size d7.heap.size) w' p.2) (λj7=>?_) ?_;refine y3c (ι:=(Nat×Nat)×Nat) h (ll6 0 3 5 9 12 13) U #[true,true,true,true,true,true,true,true,true,true,false,false,false,false,false,true,false,false] 7 (λp=>[(56,bvv m.q),(58,.agg #[.int .u8 o.b,.int .i64 o.p]),(60,.slice (saa p.1.1) st.length st.length),(62,.slice (saa p.1.2) 1 1),(14,pta p.2)]) (λp w'=>Fr [] d7 w'/\(d7.heap.size<=p.1.1/\d7.heap.size<=p.1.2)/\Lw.Own z1h 54 d7.heap.size w' (.slice (saa p.1.1) st.length st.length) st/\Lw.Own z1h 54 d7.heap.size w' (.slice (saa p.1.2) 1 1) [(⟨o.y,(m.ys.getD j yq0).ct⟩:LId)]/\d7.heap.size<=p.2/\Blk w' p.2 27 [.slice none 0 0,.slice none 0 0]) (λg4=>?_) ?_;refine y3c (ι:=Nat×Nat) h (ll6 0 3 5 9 12 13) U #[true,true,true,true,true,true,true,true,true,true,false,false,false,false,false,false,false,false] 8 (λp=>[(56,bvv m.q),(58,.agg #[.int .u8 o.b,.int .i64 o.p]),(60,.slice (saa p.1) st.length st.length),(62,.slice (saa p.2) 1 1)]) (λp w'=>Fr [] d7 w'/\(d7.heap.size<=p.1/\d7.heap.size<=p.2)/\Lw.Own z1h 54 d7.heap.size w' (.slice (saa p.1) st.length st.length) st/\Lw.Own z1h 54 d7.heap.size w' (.slice (saa p.2) 1 1) [(⟨o.y,(m.ys.getD j yq0).ct⟩:LId)]) (λl3=>?_) ?_;refine z0e 0 h U λa h=>z0p 1 h U λa h=>z0c 2 h U z4b U λa h=>z1f (vs:=[_,_]) 3 h U (fx b9.ext) z4y U U λa h=>z0c 4 h U z5w U λa h=>z1f (vs:=[_,_]) 5 h U (fx b3.ext) z5k U U λa h=>z0e 6 h U λa h=>z0x 8 h U (fx k2.ext) z2y U λa h=>x2j 7 9 15 kr U U U ?_ ?_ ?_;refine z0n h (z0a U z0f) x6p (z4p _ st _ b6 oo) ?_;rintro _ x3 ⟨f2,rfl,k4,hX,h0⟩ a h;have G1:=h0.size;have hM:=hM.ext h0;have O:=O.ext h0;have b6:=b6.ext h0;have I:=I.ext h0;have a0:=a0.ext h0;have D:=D.ext h0;have Z:=Z.ext h0;have a6:=a6.ext h0;have a2:=a2.ext h0;have hC:=hC.next h0;have i8:=λk O=>(hX.blk k O).2;refine z0b<|z1v 9 15 kr U ?_ ?_;refine z2p ([(⟨o.y,(m.ys.getD j yq0).ct⟩:LId)]) h (z0a U z0f) U z4m λa5 B9 hg a9 p6 hz a h=>?_;have c9.gk_62:ka.gk<a5:=by have:=O.lt;omega
 have b7:g5<a5:=by have:=I.lt;omega
 have b7:g9<a5:=by have:=a0.lt;omega
 have e6:f4<a5:=by have:=D.lt;omega
 have e7:g1<a5:=by have:=a6.lt;omega
 have e8:f5<a5:=by have:=a2.lt;omega
 have G2:=p6.size;have hX:=hX.ext p6;have hC:=hC.next p6;exact z0b<|l3 (f2,a5) _ _ _ kr (h.sub<|U) ⟨hC,⟨sm,sm⟩,hX.low oo,a9.low oo⟩;refine z0u h x9w U λC0 a3 i3 hz a h=>?_;obtain⟨a1,hg⟩:∃g,g=x3.heap.size:=⟨_,rfl⟩;rw[<-hg]at a3 h hz;have c9.gk_14:ka.gk<a1:=by have:=O.lt;omega
 have b4:g5<a1:=by have:=I.lt;omega
 have b4:g9<a1:=by have:=a0.lt;omega
 have d4:f4<a1:=by have:=D.lt;omega
 have d5:g1<a1:=by have:=a6.lt;omega
 have d6:f5<a1:=by have:=a2.lt;omega
 have G3:=i3.size;have O:=O.ext i3;have I:=I.ext i3;have a0:=a0.ext i3;have D:=D.ext i3;have a6:=a6.ext i3;have a2:=a2.ext i3;have hC:=hC.next i3;refine z0b<|z0d 9 U<|z2p ([(⟨o.y,(m.ys.getD j yq0).ct⟩:LId)]) h (z0a U z0f) U z4m λa5 C1 hg a9 o2 hz a h=>?_;have c9.gk_62:ka.gk<a5:=by have:=O.lt;omega
 have b7:g5<a5:=by have:=I.lt;omega
 have b7:g9<a5:=by have:=a0.lt;omega
 have e6:f4<a5:=by have:=D.lt;omega
 have e7:g1<a5:=by have:=a6.lt;omega
 have e8:f5<a5:=by have:=a2.lt;omega
 have h8:a1<a5:=by have:=a3.lt;omega
 have G4:=o2.size;have hX:=hX.ext<|i3.n1 o2;have a3:=a3.ext o2;have hC:=hC.next o2;exact z0b<|g4 ((f2,a5),a1) _ _ _ kr (h.sub<|U) ⟨hC,⟨sm,sm⟩,hX.low oo,a9.low oo,sm,a3⟩;refine z2p ([(⟨o.y,(m.ys.getD j yq0).ct⟩:LId)]) h (z0a U z0f) U z4m λa5 x4 hg a9 h2 hz a h=>?_;have c9.gk_62:ka.gk<a5:=by have:=O.lt;omega
 have b7:g5<a5:=by have:=I.lt;omega
 have b7:g9<a5:=by have:=a0.lt;omega
 have e6:f4<a5:=by have:=D.lt;omega
 have e7:g1<a5:=by have:=a6.lt;omega
 have e8:f5<a5:=by have:=a2.lt;omega
 have G5:=h2.size;have hM:=hM.ext h2;have O:=O.ext h2;have b6:=b6.ext h2;have I:=I.ext h2;have a0:=a0.ext h2;have D:=D.ext h2;have Z:=Z.ext h2;have a6:=a6.ext h2;have a2:=a2.ext h2;have hC:=hC.next h2;refine z0b<|z1v 7 15 kr U ?_ ?_;refine z0n h (z0a U z0f) x6p (z4p _ st _ b6 oo) ?_;rintro _ C2 ⟨f2,rfl,k4,hX,o3⟩ a h;have G6:=o3.size;have O:=O.ext o3;have a9:=a9.ext o3;have hC:=hC.next o3;have i8:=λk O=>(hX.blk k O).2;exact z0b<|l3 (f2,a5) _ _ _ kr (h.sub<|U) ⟨hC,⟨sm,sm⟩,hX.low oo,a9.low oo⟩;refine z0u h x9w U λC3 a3 m4 hz a h=>?_;obtain⟨a1,hg⟩:∃g,g=x4.heap.size:=⟨_,rfl⟩;rw[<-hg]at a3 h hz;have c9.gk_14:ka.gk<a1:=by have:=O.lt;omega
 have b4:g5<a1:=by have:=I.lt;omega
 have b4:g9<a1:=by have:=a0.lt;omega
 have d4:f4<a1:=by have:=D.lt;omega
 have d5:g1<a1:=by have:=a6.lt;omega
 have d6:f5<a1:=by have:=a2.lt;omega
 have q0:a5<a1:=by have:=(a9.blk a5 t10).2;omega
 have G7:=m4.size;have b6:=b6.ext m4;have hC:=hC.next m4;refine z0b<|z0d 7 U<|z0n h (z0a U z0f) x6p (z4p _ st _ b6 oo) ?_;rintro _ C4 ⟨f2,rfl,k4,hX,m5⟩ a h;have G8:=m5.size;have O:=O.ext<|m4.n1 m5;have a9:=a9.ext<|m4.n1 m5;have a3:=a3.ext m5;have hC:=hC.next m5;have i8:=λk O=>(hX.blk k O).2;exact z0b<|g4 ((f2,a5),a1) _ _ _ kr (h.sub<|U) ⟨hC,⟨sm,sm⟩,hX.low oo,a9.low oo,sm,a3⟩;refine z0u h x9w U λC5 a3 h3 hz a h=>?_;obtain⟨a1,hg⟩:∃g,g=d7.heap.size:=⟨_,rfl⟩;rw[<-hg]at a3 h hz;have c9.gk_14:ka.gk<a1:=by have:=O.lt;omega
 have b4:g5<a1:=by have:=I.lt;omega
 have b4:g9<a1:=by have:=a0.lt;omega
 have d4:f4<a1:=by have:=D.lt;omega
 have d5:g1<a1:=by have:=a6.lt;omega
 have d6:f5<a1:=by have:=a2.lt;omega
 have G9:=h3.size;have hM:=hM.ext h3;have O:=O.ext h3;have b6:=b6.ext h3;have I:=I.ext h3;have a0:=a0.ext h3;have D:=D.ext h3;have Z:=Z.ext h3;have a6:=a6.ext h3;have a2:=a2.ext h3;have hC:=hC.next h3;refine z0b<|z1v 7 9 kr U ?_ ?_;refine z0n h (z0a U z0f) x6p (z4p _ st _ b6 oo) ?_;rintro _ C6 ⟨f2,rfl,k4,hX,i4⟩ a h;have H0:=i4.size;have O:=O.ext i4;have I:=I.ext i4;have a0:=a0.ext i4;have D:=D.ext i4;have a6:=a6.ext i4;have a2:=a2.ext i4;have a3:=a3.ext i4;have hC:=hC.next i4;have i8:=λk O=>(hX.blk k O).2;refine z0b<|z0d 9 U<|z2p ([(⟨o.y,(m.ys.getD j yq0).ct⟩:LId)]) h (z0a U z0f) U z4m λa5 C7 hg a9 o4 hz a h=>?_;have c9.gk_62:ka.gk<a5:=by have:=O.lt;omega
 have b7:g5<a5:=by have:=I.lt;omega
 have b7:g9<a5:=by have:=a0.lt;omega
 have e6:f4<a5:=by have:=D.lt;omega
 have e7:g1<a5:=by have:=a6.lt;omega
 have e8:f5<a5:=by have:=a2.lt;omega
 have h8:a1<a5:=by have:=a3.lt;omega
 have H1:=o4.size;have a3:=a3.ext o4;have hX:=hX.ext o4;have hC:=hC.next o4;exact z0b<|g4 ((f2,a5),a1) _ _ _ kr (h.sub<|U) ⟨hC,⟨sm,sm⟩,hX.low oo,a9.low oo,sm,a3⟩;refine z2p ([(⟨o.y,(m.ys.getD j yq0).ct⟩:LId)]) h (z0a U z0f) U z4m λa5 C8 hg a9 f8 hz a h=>?_;have c9.gk_62:ka.gk<a5:=by have:=O.lt;omega
 have b7:g5<a5:=by have:=I.lt;omega
 have b7:g9<a5:=by have:=a0.lt;omega
 have e6:f4<a5:=by have:=D.lt;omega
 have e7:g1<a5:=by have:=a6.lt;omega
 have e8:f5<a5:=by have:=a2.lt;omega
 have h8:a1<a5:=by have:=a3.lt;omega
 have H2:=f8.size;have hM:=hM.ext f8;have O:=O.ext f8;have b6:=b6.ext f8;have I:=I.ext f8;have a0:=a0.ext f8;have D:=D.ext f8;have Z:=Z.ext f8;have a6:=a6.ext f8;have a2:=a2.ext f8;have a3:=a3.ext f8;have hC:=hC.next f8;refine z0b<|z0d 7 U<|z0n h (z0a U z0f) x6p (z4p _ st _ b6 oo) ?_;rintro _ C9 ⟨f2,rfl,k4,hX,hq⟩ a h;have H3:=hq.size;have hM:=hM.ext hq;have O:=O.ext hq;have b6:=b6.ext hq;have I:=I.ext hq;have a0:=a0.ext hq;have D:=D.ext hq;have Z:=Z.ext hq;have a6:=a6.ext hq;have a2:=a2.ext hq;have a3:=a3.ext hq;have a9:=a9.ext hq;have hC:=hC.next hq;have A7:=hq;have i8:=λk O=>(hX.blk k O).2;exact z0b<|g4 ((f2,a5),a1) _ _ _ kr (h.sub<|U) ⟨hC,⟨sm,sm⟩,hX.low oo,a9.low oo,sm,a3⟩;rintro⟨f2,a5⟩ a x5 ⟨hC,⟨l8,l9⟩,hX,a9⟩ h;simp only at l8 l9 hX a9;have h6:=hC;have H4:=h6.size;have hM:=hM.ext h6;have O:=O.ext h6;have b6:=b6.ext h6;have I:=I.ext h6;have a0:=a0.ext h6;have D:=D.ext h6;have Z:=Z.ext h6;have a6:=a6.ext h6;have a2:=a2.ext h6;have i8:=λk h_=>(hX.blk k h_).2;refine z1v 10 15 kr U ?_ ?_;have b0:=hX;refine z5s h U U hX a9.sl z4m U λv8 x6 hX i5 p1 a h=>?_;obtain⟨u0,u1,rfl,r6⟩:=hX.sl.form;have i8:=λk O=>(hX.blk k O).2;have H5:=i5.size;have O:=O.fr i5<|λb5=>b0.neB O dd b5;have I:=I.fr i5<|λb5=>b0.neB I dd b5;have a0:=a0.fr i5<|λb5=>b0.neB a0 dd b5;have D:=D.fr i5<|λb5=>b0.neB D dd b5;have Z:=Z.fr i5<|Own.neO b0 Z dd;have a6:=a6.fr i5 (λb5=>by have:=(b0.blk _ b5).1;omega);have a2:=a2.fr i5<|λb5=>b0.neB a2 dd b5;have hC:=hC.step i5<|λk O o9=>absurd (b0.blk k O).1 oo;refine z0b<|z1v 11 15 kr U ?_ ?_;refine z0n h (z0a U<|z0a U<|z0a U z0f) u0u (by have x:=x4n m.q o.b n _ (st++[(⟨o.y,(m.ys.getD j yq0).ct⟩:LId)]) _ (d1.ext hC).b.at hX.sl hv (by rw[<-i2];exact hn) m7 m9 (by rw[<-i2];exact m8);rw[<-i2]at x;exact x) ?_;rintro _ x7 ⟨⟨q',rfl,hQ,h4⟩,q43⟩ a h;have H6:=q43.size;have O:=O.ext q43;have I:=I.ext q43;have a0:=a0.ext q43;have D:=D.ext q43;have a6:=a6.ext q43;have a2:=a2.ext q43;have hC:=hC.next q43;refine z0b<|z0e 12 h U λa h=>z0k 13 h U λa h=>z0k 14 h U λa h=>z0d 15 U<|z0u h x9w U λD0 a3 o5 hz a h=>?_;obtain⟨a1,hg⟩:∃g,g=x7.heap.size:=⟨_,rfl⟩;rw[<-hg]at a3 h hz;have c9.gk_14:ka.gk<a1:=by have:=O.lt;omega
 have b4:g5<a1:=by have:=I.lt;omega
 have b4:g9<a1:=by have:=a0.lt;omega
 have d4:f4<a1:=by have:=D.lt;omega
 have d5:g1<a1:=by have:=a6.lt;omega
 have d6:f5<a1:=by have:=a2.lt;omega
 have H7:=o5.size;first|have hQ:=BdO.ext hQ o5|have hQ:=BdO.tf hQ o5 (OffT.one a3 dd)<|OffT.one a3 dd
 have hC:=hC.next o5;exact z0b<|j7 (a1,q') _ _ _ kr (h.sub<|U) ⟨hC,⟨sm,h4⟩,a3,BdO.low hQ oo⟩;refine z0u h x9w U λD1 a3 p7 hz a h=>?_;obtain⟨a1,hg⟩:∃g,g=x6.heap.size:=⟨_,rfl⟩;rw[<-hg]at a3 h hz;have c9.gk_14:ka.gk<a1:=by have:=O.lt;omega
 have b4:g5<a1:=by have:=I.lt;omega
 have b4:g9<a1:=by have:=a0.lt;omega
 have d4:f4<a1:=by have:=D.lt;omega
 have d5:g1<a1:=by have:=a6.lt;omega
 have d6:f5<a1:=by have:=a2.lt;omega
 have H8:=p7.size;have hX:=hX.ext p7;have hC:=hC.next p7;refine z0b<|z0d 11 U<|z0n h (z0a U<|z0a U<|z0a U z0f) u0u (by have x:=x4n m.q o.b n _ (st++[(⟨o.y,(m.ys.getD j yq0).ct⟩:LId)]) _ (d1.ext hC).b.at hX.sl hv (by rw[<-i2];exact hn) m7 m9 (by rw[<-i2];exact m8);rw[<-i2]at x;exact x) ?_;rintro _ D2 ⟨⟨q',rfl,hQ,h4⟩,q46⟩ a h;have H9:=q46.size;have a3:=a3.ext q46;have hC:=hC.next q46;refine z0b<|z0e 12 h U λa h=>z0k 13 h U λa h=>z0k 14 h U λa h=>?_;exact j7 (a1,q') _ _ _ kr (h.sub<|U) ⟨hC,⟨sm,h4⟩,a3,BdO.low hQ oo⟩;refine z0u h x9w U λD3 a3 o6 hz a h=>?_;obtain⟨a1,hg⟩:∃g,g=x5.heap.size:=⟨_,rfl⟩;rw[<-hg]at a3 h hz;have c9.gk_14:ka.gk<a1:=by have:=O.lt;omega
 have b4:g5<a1:=by have:=I.lt;omega
 have b4:g9<a1:=by have:=a0.lt;omega
 have d4:f4<a1:=by have:=D.lt;omega
 have d5:g1<a1:=by have:=a6.lt;omega
 have d6:f5<a1:=by have:=a2.lt;omega
 have I0:=o6.size;have hX:=hX.ext o6;have a9:=a9.ext o6;have hC:=hC.next o6;exact z0b<|g4 ((f2,a5),a1) _ _ _ kr (h.sub<|U) ⟨hC,⟨sm,sm⟩,hX.low oo,a9.low oo,sm,a3⟩;rintro⟨⟨f2,a5⟩,a1⟩ a w48 ⟨hC,⟨l8,l9⟩,hX,a9,k8,a3⟩ h;simp only at l8 l9 hX a9 k8 a3;have j2:=hC;have I1:=j2.size;have O:=O.ext j2;have I:=I.ext j2;have a0:=a0.ext j2;have D:=D.ext j2;have Z:=Z.ext j2;have a6:=a6.ext j2;have a2:=a2.ext j2;have i8:=λk h_=>(hX.blk k h_).2;refine z0d 10 U ?_;have b0:=hX;refine z5s h U U hX a9.sl z4m U λv8 D4 hX h7 p1 a h=>?_;obtain⟨u0,u1,rfl,r6⟩:=hX.sl.form;have i8:=λk O=>(hX.blk k O).2;have I2:=h7.size;have O:=O.fr h7<|λb5=>b0.neB O dd b5;have I:=I.fr h7<|λb5=>b0.neB I dd b5;have a0:=a0.fr h7<|λb5=>b0.neB a0 dd b5;have D:=D.fr h7<|λb5=>b0.neB D dd b5;have Z:=Z.fr h7<|Own.neO b0 Z dd;have a6:=a6.fr h7 (λb5=>by have:=(b0.blk _ b5).1;omega);have a2:=a2.fr h7<|λb5=>b0.neB a2 dd b5;have a3:=a3.fr h7<|λb5=>b0.neB a3 dd b5;have hC:=hC.step h7<|λk O o9=>absurd (b0.blk k O).1 oo;refine z0b<|z0d 11 U<|z0n h (z0a U<|z0a U<|z0a U z0f) u0u (by have x:=x4n m.q o.b n _ (st++[(⟨o.y,(m.ys.getD j yq0).ct⟩:LId)]) _ (d1.ext hC).b.at hX.sl hv (by rw[<-i2];exact hn) m7 m9 (by rw[<-i2];exact m8);rw[<-i2]at x;exact x) ?_;rintro _ D5 ⟨⟨q',rfl,hQ,h4⟩,q50⟩ a h;have I3:=q50.size;have a3:=a3.ext q50;have hC:=hC.next q50;refine z0b<|z0e 12 h U λa h=>z0k 13 h U λa h=>z0k 14 h U λa h=>?_;exact j7 (a1,q') _ _ _ kr (h.sub<|U) ⟨hC,⟨sm,h4⟩,a3,BdO.low hQ oo⟩;rintro⟨a1,q'⟩ a D6 ⟨hC,⟨k8,h4⟩,a3,hQ⟩ h;simp only at k8 h4 a3 hQ;have i7:=hC;have I4:=i7.size;have O:=O.ext i7;have I:=I.ext i7;have a0:=a0.ext i7;have D:=D.ext i7;have Z:=Z.ext i7;have a6:=a6.ext i7;have a2:=a2.ext i7;refine z0d 16 U<|z0t h U a3 U x1s ?_ (h1:=(by first|(simp[Value.oneCell',S];done)|exact z3w.one<|m.ys.getD j yq0));intro x8 i9 f9 hz a h;have I5:=f9.size;have O:=O.fr f9;have I:=I.fr f9;have a0:=a0.fr f9;have D:=D.fr f9;have Z:=Z.fr f9 (by intro k O a4;simp at O;subst O;have b1:=Z.blk _ a4;have k9:=g3 _ a4;omega);have a6:=a6.fr f9;have a2:=a2.fr f9;first|have hQ:=BdO.ext hQ f9|have hQ:=BdO.tf hQ f9 (OffT.one a3 dd)<|OffT.one a3 dd
 have hC:=hC.sp f9;have a3:Blk x8 a1 _ [_,_]:=i9;clear i9;refine z0b<|z0d 17 U<|z0o h U λa h=>?_;refine z0b<|z0q ?_;clear hC d1 b9 p3 b3 i0 m6 g6 k2 d9;exact xB (ll6 0 5 9 11 13 14) h U<|jE (a1) U ⟨(g8.z2 i7 f9),⟨q',⟨oo,h4⟩,a3,BdO.low hQ oo⟩⟩;rintro u2 D7 ⟨j3,⟨q',⟨k8,h4⟩,a3,hQ⟩⟩;have I6:=j3.size;have s7:=a3.lt;refine kpC [(0,_),(5,_),(9,_),(13,_),(14,pta u2),(11,.int .i64 0)] U ?_;have u3:=x5c hQ h9.f oo;refine sq<|sr<|mv U<|ne' U<|nn<|cd U (λc2=>?_)<|λc2=>?_;exact absurd U c2;refine sk<|tn<|sr<|mv U<|z0l U a3 z4y<|nlc U<|fad U z4b ?_;have hM:=h9.ext<|(q1.z6 h5 e9 f6 f7 f0 f1).n1 j3;have O:=((((O.ext<|e9.n1 f6).fr f7).ext f0).fr f1).ext j3;refine z5o (cs':=j1r ka { m with q:=q' }) U U hM.k t43 x1s U<|λD8 r9 l1 I7=>?_;have hM:=hM.beds mtd (hQ.low oo) r9 l1 u3;have O:=hM.k;have h9:=hM;have r4:=hM;have hF:Lw.Own z1h 54 wS.heap.size _ (slv m.fa) m.fl:=hM.f;clear r9;refine kpL (ll4 0 5 9 13) U<|nn<|sq ?_;have I:=(((I.ext f0).fr f1).ext j3).fr l1;have a0:=(((((a0.ext<|e9.n1 f6).fr f7).ext f0).fr f1).ext j3).fr l1;have Z:=(((((Z.ext<|e9.n1 f6).fr f7 (by intro k O a4;simp at O;subst O;have b1:=Z.blk _ a4;have k9:=g3 _ a4;omega)).ext f0).fr f1 (by intro k O a4;simp at O;subst O;have b1:=Z.blk _ a4;have k9:=g3 _ a4;omega)).ext j3).fr l1 (by intro k O a4;simp at O;subst O;have b1:=Z.blk _ a4;have k9:=g3 _ a4;omega);have a2:=(a2.ext j3).fr l1;intro a h;refine rgh (some 9) (Fr []) ?_;intro s9 j4 hC;have I8:=j4.size;have hM:=hM.ext j4;have O:=O.ext j4;have I:=I.ext j4;have a0:=a0.ext j4;have Z:=Z.ext j4;have a2:=a2.ext j4;have d1:=hM;have b9:=O;have b3:=I;have i0:=a0;have g6:=Z;have d9:=a2;refine z0e 0 h U λa h=>z0p 1 h U λa h=>z0c 2 h U z4d U λa h=>z0m 3 h U (fx b9.ext) U y6d U λa h=>z0c 4 h U z4t U λa h=>z0m 5 h U (fx b3.ext) U na5 U λa h=>z3a 6 h U t23 U λa h=>z0x 7 h U (fx i0.ext) z3v U λa h=>z1l 8 kr hC (p:=j) h wn U y6n oo oo oo U U λa h=>z0d 9 U<|z0z (i:=j) ((⟨true,(m.ys.getD j yq0).pl,(m.ys.getD j yq0).ct+1,false,sv0,[]⟩:YQ):YQ) h U hM.y.out (by rw[hM.ly];exact hj) U z3y λx9 o8 k0 _hz a h=>?_;have hM:=hM.yarn mtd hj o8 k0<|Own.nil _;have h9:=hM;clear o8;have I9:=k0.size;have I:=I.fr k0;have a0:=a0.fr k0;have Z:=Z.fr k0 (by intro k O a4;simp at O;subst O;have b1:=Z.blk _ a4;have k9:=g3 _ a4;omega);have a2:=a2.fr k0;have O:=hM.k;clear _hz;refine z1m<|z0q ?_;clear hC d1 b9 b3 i0 g6 d9;have g7:=(((((((g7.ext<|q1.n3 h5 e9 f6).fr f7 (by intro k O a4;simp at O;subst O;first|exact k5 a4|exact k6 a4|(have:=k7 _ a4;omega))).ext f0).fr f1 (by intro k O a4;simp at O;subst O;first|exact k5 a4|exact k6 a4|(have:=k7 _ a4;omega))).ext j3).fr l1 (by intro k O a4;simp at O;subst O;first|exact k5 a4|exact k6 a4|(have:=k7 _ a4;omega))).ext j4).fr k0 (by intro k O a4;simp at O;subst O;first|exact k5 a4|exact k6 a4|(have:=k7 _ a4;omega));have d3:=hM.t.ins j (by rw[hM.lt];exact hj);have u5:=d3;have u6:∀k∈z0v (slv (m.ts.getD j tq0).1),k<x9.heap.size:=λk O=>(d3.blk k O).2;have A3:(m.ts.getD j tq0).2.length<=2048:=by have:=j3b m.ts j;omega
 refine xB (ll3 0 5 13) h U<|tn<|sq ?_;intro a h;refine z0h (some 20) (λwb w'=>Fr (z0v<|slv (m.ts.getD j tq0).1) wb w') z2s ?_;intro t8 j5;have J0:=j5.size;have hM:=hM.ext j5;have O:=O.ext j5;have g7:=g7.ext j5;have I:=I.ext j5;have Z:=Z.ext j5;have a2:=a2.ext j5;have d3:=d3.ext j5;have hC:Fr (z0v<|slv (m.ts.getD j tq0).1) t8 t8:=l12 _ _;have d1:=hM;have b9:=O;have p4:=g7;have b3:=I;have g6:=Z;have d9:=a2;have e0:=d3;refine z0e 0 h U λa h=>z0p 1 h U λa h=>z0c 2 h U y4s U λa h=>z0m 3 h U (λ_ hw=>b9.fr hw<|λk_=>Own.neB e0 b9 dd k_) U v4f U λa h=>z0c 4 h U z4t U λa h=>z0m 5 h U (λ_ hw=>b3.fr hw<|λk_=>Own.neB e0 b3 dd k_) U na5 U λa h=>z3a 6 h U t23 U λa h=>z0e 7 h U λa h=>z0p 8 h U λa h=>z0c 9 h U y4s U λa h=>z0m 10 h U (λ_ hw=>b9.fr hw<|λk_=>Own.neB e0 b9 dd k_) U v4f U λa h=>z0c 11 h U z4t U λa h=>z0m 12 h U (λ_ hw=>b3.fr hw<|λk_=>Own.neB e0 b3 dd k_) U na5 U λa h=>z3a 13 h U t23 U λa h=>z1d (p:=j) (tq0) 14 h U (show Sl z5e _ ka.TV m.ts from hM.t.out.sl) U x3c U λy1 r7 a h=>z2h 15 h U (λ_ hw=>r7 _ (z2d d1.t.out hw<|z7m e0 dd).sl) y2x U λa h=>z0x 16 h U (λ_ hw=>d9.fr hw (λk_=>by have:=s2 _ k_;omega)) x5s U λa h=>z0d 17 U<|z2p ([(⟨o.b,(m.ys.getD j yq0).nw,th,sn,k1,(m.ys.getD j yq0).pes⟩:LpQ)]) h (z0a U z0f) U y7n λj6 D9 hg p0 l2 hz a h=>?_;have c9.gk_100:ka.gk<j6:=by have:=O.lt;omega
 have s1:g5<j6:=by have:=I.lt;omega
 have p9:f5<j6:=by have:=a2.lt;omega
 have J1:=l2.size;have hM:=hM.ext l2;have g7:=g7.ext l2;have Z:=Z.ext l2;have d3:=d3.ext l2;have hC:=hC.next l2;refine z0b<|z0d 18 U ?_;have n7:=d3;refine z5s h U U d3 p0.sl y7n U λy7 E0 d3 o7 n8 a h=>?_;have r4:=hM;have u4:LpO τd wS.heap.size _ (⟨o.b,(m.ys.getD j yq0).nw,th,sn,k1,(m.ys.getD j yq0).pes⟩:LpQ):=⟨g7,Z.low oo⟩;have u7:=z2d hM.t.out o7<|z7m n7 dd;have u9:=o7;obtain⟨AR,cR,rfl,_⟩:=d3.sl.form;have j7y:=d3;have J2:=o7.size;have hC:=hC.step o7<|λk_ h_ _=>h_;refine z0b<|z0d 19 U<|x1k (p:=j) (E:=z5e) h U U x3c oo oo oo U λa h=>?_;refine z0b<|z0d 20 U<|z0z (i:=j) (((AR,((m.ts.getD j tq0).2++[(⟨o.b,(m.ys.getD j yq0).nw,th,sn,k1,(m.ys.getD j yq0).pes⟩:LpQ)]).length,cR),((m.ts.getD j tq0).2++[(⟨o.b,(m.ys.getD j yq0).nw,th,sn,k1,(m.ys.getD j yq0).pes⟩:LpQ)])):TQ) h U u7 (by rw[hM.lt];exact hj) U k0j λE1 s5 hq _hz a h=>?_;have hM:=r4.row mtd (u:=(AR,((m.ts.getD j tq0).2++[(⟨o.b,(m.ys.getD j yq0).nw,th,sn,k1,(m.ys.getD j yq0).pes⟩:LpQ)]).length,cR)) hj u4 s4 j7y u9 n8 s5 hq;clear hq _hz;refine z1m<|z0q ?_;clear hC d1 b9 p4 b3 g6 d9 e0;refine bk (h.sub (L':=[]) .nil)<|tn<|sr<|asg U<|nn<|rt<|r1 U ?_;exact⟨_,rfl,MRet.ok (by unfold y1m;rw[l6,if_neg (λe=>e l5),if_neg (show ¬2048<=z4x m.p.tb by have:m.p.tb=z2o m.ts:=rfl;rw[this];omega)];exact congrArg Except.ok (k7t m j r8 h4).symm) hM⟩
end Go.Proofs.YtkafbfjmcigaiaaGreatDoor
namespace Go.G08
open Go.Lw Go.G21
theorem z6l (c:Cx)(l:List Cx):crM (c::l)=((c.a,c.b),.int .i64 c.n)::crM l:=rfl
theorem z9h {a b:LId}{c:Cx}:isC a b c=true↔c.a=a/\c.b=b:=by unfold isC;simp
theorem v7l (a b:LId):∀l:List Cx,(z2w (crM l) (a,b)).getD (.int .i64 0)=.int .i64 (z5l l a b)
 | []=>rfl
 | c::l=>by
  rw[z6l]
  unfold z2w z5l
  rw[List.find?_cons]
  by_cases h:c.a=a/\c.b=b
  ·rw[if_pos (by rw[<-h.1,<-h.2]),z9h.2 h];rfl
  have D:isC a b c=false:=by cases e:isC a b c;rfl;exact absurd (z9h.1 e) h
  rw[if_neg (λe=>h ⟨(Prod.mk.inj e).1.symm,(Prod.mk.inj e).2.symm⟩),D]
  exact v7l a b l
theorem u4i {a b:LId}{l:List Cx}(h:(a,b)∉(crM l).map (·.1)):∀c∈l,isC a b c=false:=λc O=>by
 cases e:isC a b c
 ·rfl
 obtain⟨D,I⟩:=z9h.1 e
 refine absurd ?_ h
 unfold crM
 rw[l75]
 exact l55.2 ⟨c,O,by simp[D,I]⟩
theorem u2i (a b:LId)(n:Int):∀l:List Cx,((crM l).map (·.1)).Nodup->crM (y5o l a b n)=z4u (crM l) (a,b) (.int .i64 n)
 | [],_=>rfl
 | c::l,hn=>by
  rw[z6l,l28]at hn
  obtain⟨n1,n2⟩:=l115.1 hn
  have ih:=u2i a b n l n2
  by_cases h:c.a=a/\c.b=b
  ·obtain⟨D,I⟩:=h
   subst D;subst I
   have hl:l.map (λx=>if isC c.a c.b x then (⟨c.a,c.b,n⟩:Cx) else x)=l:=by
    have:=u4i (l:=l) n1
    conv=>rhs;rw[<-List.map_id l]
    refine l109 λx Z=>?_
    rw[this x Z];rfl
   have hi:isC c.a c.b c=true:=z9h.2 ⟨rfl,rfl⟩
   have e2:y5o (c::l) c.a c.b n=⟨c.a,c.b,n⟩::l:=by
    unfold y5o
    rw[List.any_cons,hi,Bool.true_or,if_pos U,l28,hi,if_pos U,hl]
   have e1:z4u (((c.a,c.b),Value.int .i64 c.n)::crM l) (c.a,c.b) (.int .i64 n)=((c.a,c.b),.int .i64 n)::crM l:=by
    unfold z4u;simp[l68]
   rw[e2,z6l,z6l,e1]
  have D:isC a b c=false:=by cases e:isC a b c;rfl;exact absurd (z9h.1 e) h
  have I:¬((a,b):LId×LId)=(c.a,c.b):=λe=>h ⟨(Prod.mk.inj e).1.symm,(Prod.mk.inj e).2.symm⟩
  have O:y5o (c::l) a b n=c::y5o l a b n:=by
   unfold y5o
   rw[List.any_cons,D,Bool.false_or]
   split
   ·rw[l28,D];rfl
   rfl
  rw[O,z6l,ih]
  unfold z4u
  rw[z6l,l28,l68,if_neg (by simpa using I)]
  cases hf:((crM l).map (·.1)).findIdx? (λx=>decide ((a,b)=x)) with
  | none=>rfl
  | some i=>rfl
theorem u2z (a b:LId):∀l:List Cx,((crM l).map (·.1)).Nodup->crM (x9a l a b)=z6r (crM l) (a,b)
 | [],_=>rfl
 | c::l,hn=>by
  rw[z6l,l28]at hn
  obtain⟨n1,n2⟩:=l115.1 hn
  have ih:=u2z a b l n2
  by_cases h:c.a=a/\c.b=b
  ·obtain⟨D,I⟩:=h
   subst D;subst I
   have hl:l.filter (λx=>!isC c.a c.b x)=l:=List.filter_eq_self.2 λx Z=>by
    rw[u4i (l:=l) n1 x Z];rfl
   have hi:isC c.a c.b c=true:=z9h.2 ⟨rfl,rfl⟩
   have e2:x9a (c::l) c.a c.b=l:=by
    unfold x9a
    rw[l61,hi,hl];rfl
   have e1:z6r (((c.a,c.b),Value.int .i64 c.n)::crM l) (c.a,c.b)=crM l:=by
    unfold z6r;simp[l68]
   rw[e2,z6l,e1]
  have D:isC a b c=false:=by cases e:isC a b c;rfl;exact absurd (z9h.1 e) h
  have I:¬((a,b):LId×LId)=(c.a,c.b):=λe=>h ⟨(Prod.mk.inj e).1.symm,(Prod.mk.inj e).2.symm⟩
  have O:x9a (c::l) a b=c::x9a l a b:=by
   unfold x9a
   rw[l61,D];rfl
  rw[O,z6l,ih]
  unfold z6r
  rw[z6l,l28,l68,if_neg (by simpa using I)]
  cases hf:((crM l).map (·.1)).findIdx? (λx=>decide ((a,b)=x)) with
  | none=>rfl
  | some i=>rfl
section
variable {α κ:Type} [DecidableEq κ] {E:Enc α} {T base g:Nat} {w w':World} {v:Value} {ys:List α} {V:κ->Value} {em:List (κ×Value)}
theorem k6b (h:Lw.Own E T base w v ys)(Z:MapL V w g em)(hf:Fr [g] w w'):Lw.Own E T base w' v ys:=h.fr hf λk D O=>by
 rw[l11]at D;subst D
 obtain⟨cs,I⟩:=y0r h _ O
 exact Z.f.ne_blk I U
theorem k6f {k:Nat}{cs:List Value}(h:Blk w k T cs)(I:MapL V w g em)(hf:Fr [g] w w'):Blk w' k T cs:=h.fr hf λD=>by
 rw[l11]at D;subst D
 exact I.f.ne_blk h U
end
theorem FrM.un {τ:TyK}{Mt:Nat}{wS w w':World}{a:MA}(h:FrM τ Mt wS { a with wk:=w } w')(D:FrM τ Mt wS a w):FrM τ Mt wS a w':=⟨h.fr,D.kp.trans h.kp⟩
theorem MkM.gcne {τ:TyK}{Mt:Nat}{wS w:World}{a:MA}{m:MQ}(h:MkM τ Mt wS a w m){k T:Nat}{cs:List Value}(hb:Blk w k T cs):k≠a.gc:=λe=>by
 subst e;exact h.c.f.ne_blk hb U
theorem KpM.own {α:Type}{E:Enc α}{D:List Nat}{g T base:Nat}{w w':World}{v:Value}{ys:List α}(h:KpM D g w w')(ho:Lw.Own E T base w v ys)(hg:∀k∈z0v v,k≠g)(hT:T∉D):Lw.Own E T base w' v ys:=by
 rcases ho with ho|⟨k,cap,cur,rfl,I,O,Z⟩
 exact .inl ho;have hb:Blk w k T cur.toList:=O;exact .inr ⟨k,cap,cur,rfl,I,h.blk hb (hg k t10) hT,Z⟩
theorem MkM.gcneO {τ:TyK}{Mt:Nat}{wS w:World}{a:MA}{m:MQ}{α:Type}{E:Enc α}{T base:Nat}{v:Value}{ys:List α}(h:MkM τ Mt wS a w m)(ho:Lw.Own E T base w v ys):∀k∈z0v v,k≠a.gc:=λk I=>by
 obtain⟨cs,D⟩:=y0r ho k I
 exact h.gcne D
theorem x0c {p:MSt}{d:Int}:∀ {l l':List Yn},l'.length=l.length->(∀j,j<l.length->z6g p d (l.getD j yn0)=.ok (l'.getD j yn0))->z3g p d l=.ok l'
 | [],[],_,_=>rfl
 | [],_::_,h,_=>by simp at h
 | _::_,[],h,_=>by simp at h
 | y::l,y'::l',hl,h=>by
  have D:=h 0 sp0
  simp only[l76]at D
  have I:=x0c (p:=p) (d:=d) (l:=l) (l':=l') (by simpa using hl) λj O=>by
   have:=h (j+1) so
   simpa only[l58] using this
  unfold z3g
  rw[D,I]
theorem y0w {p:MSt}{d e:Int}:∀ {l:List Yn} {i:Nat},i<l.length->(∀j,j<i->∃I,z6g p d (l.getD j yn0)=.ok I)->z6g p d (l.getD i yn0)=.error e->z3g p d l=.error e
 | y::l,0,_,_,h=>by
  simp only[l76]at h
  unfold z3g;rw[h]
 | y::l,i+1,hi,hj,h=>by
  obtain⟨I,D⟩:=hj 0 oo
  simp only[l76]at D
  have O:=y0w (p:=p) (d:=d) (e:=e) (l:=l) (i:=i) (by simpa using hi) (λj hl=>by
   have:=hj (j+1) oo
   simpa only[l58] using this) (by simpa only[l58] using h)
  unfold z3g
  rw[D,O]
theorem y3w {c:Cx}:∀ {r l l':List Cx},z3s l r=.ok l'->z3s l (r++[c])=y4i l' c
 | [],l,l',h=>by
  cases h
  show z3s l [c]=y4i l c
  unfold z3s
  cases y4i l c<;>rfl
 | x::r,l,l',h=>by
  rw[l48]
  unfold z3s at h ⊢
  cases e:y4i l x with
  | error e'=>rw[e]at h;cases h
  | ok l1=>rw[e]at h;simp only at h ⊢;exact y3w h
theorem x7p {e:Int}:∀ {r l:List Cx} (s:List Cx),z3s l r=.error e->z3s l (r++s)=.error e
 | [],l,s,h=>by cases h
 | x::r,l,s,h=>by
  rw[l48]
  unfold z3s at h ⊢
  cases e1:y4i l x with
  | error e'=>rw[e1]at h;exact h
  | ok l1=>rw[e1]at h;simp only at h ⊢;exact x7p s h
theorem k4w {B:Bd}{r d:Int}:∀c∈z2g B r d,-1<=c.n/\c.n<=1:=by
 have I:∀i,∀c∈x2d B r d i,-1<=c.n/\c.n<=1:=λi c D=>by
  obtain⟨k,_,O⟩:=l73.1 D;obtain⟨x,_,Z⟩:=l73.1 O;obtain⟨o,_,rfl⟩:=l55.1 Z;unfold x9c;split<;>(simp only;omega)
 intro c D;unfold z2g at D;split at D;exact I _ c<|l120.1 D;exact I _ c D
theorem k8g {pl:Int}(h:x2y pl):¬Int.tmod pl 2=0/\-9223372036854775808<=pl/\pl<=9223372036854775807:=by
 unfold x2y at h;omega
def y5e (p:MSt)(d:Int):MR:=match z3g p d p.ys with
  | .error e=>.error e
  | .ok ys=>match z3s p.cr (z2g p.B p.rk d) with
    | .error e=>.error e
    | .ok cr=>.ok { p with ys:=ys,cr:=cr }
def k1c (p:MSt)(c:Cx):MR:=match y4i p.cr c with
  | .error e=>.error e
  | .ok l=>.ok { p with cr:=l }
abbrev z4j (c:Cx):LId×LId:=if 0<z6q c.a c.b then (c.b,c.a) else (c.a,c.b)
section
variable {τ:TyK} {Mt:Nat} {wS w w':World} {a:MA} {m:MQ} {l:List Cx}
theorem MkM.cross (h:MkM τ Mt wS a w m)(hc:MapL crK w' a.gc (crM l))(hf:Fr [a.gc] w w'):MkM τ Mt wS a w' { m with cr:=l }:=by
 have o:∀ {α:Type} {E:Enc α} {T b:Nat} {v:Value} {ys:List α},Lw.Own E T b w v ys->Lw.Own E T b w' v ys:=λZ=>k6b Z h.c hf;refine⟨k6f h.k h.c hf,⟨⟨o h.b.f.1,λp I=>o<|h.b.f.2 p I⟩,⟨o h.b.b.1,λp I=>o<|h.b.b.2 p I⟩⟩,⟨o h.y.out,λi hi=>o<|h.y.ins i hi⟩,⟨o h.t.out,λi hi=>o<|h.t.ins i hi,h.t.off,λi hi q O=>⟨o (h.t.lps i hi q O).1,o (h.t.lps i hi q O).2⟩⟩,hc,o h.f,h.fb,h.ft,h.ly,h.lt,h.gk,h.gc,h.fr.step hf (λk D=>.inl<|l11.1 D) λk D a0=>?_⟩;rw[l11]at D;have:=h.gc;omega
end
theorem v4n {a b:LId}{l:List Cx}(h:∀c∈l,-1048576<=c.n/\c.n<=1048576):-1048576<=z5l l a b/\z5l l a b<=1048576:=by
 unfold z5l;cases e:l.find? (isC a b) with
 | none=>simp
 | some c=>exact h c<|List.mem_of_find?_eq_some e
theorem y4c (l:List Cx)(c:Cx):y4i l c=if z5l l (z4j c).1 (z4j c).2+c.n < -1048576\/1048576<z5l l (z4j c).1 (z4j c).2+c.n then .error 3 else if z5l l (z4j c).1 (z4j c).2+c.n=0 then .ok (x9a l (z4j c).1 (z4j c).2) else .ok (y5o l (z4j c).1 (z4j c).2<|z5l l (z4j c).1 (z4j c).2+c.n):=rfl
theorem v0r (p:MSt)(c:Cx):k1c p c=if z5l p.cr (z4j c).1 (z4j c).2+c.n < -1048576\/1048576<z5l p.cr (z4j c).1 (z4j c).2+c.n then .error 3 else if z5l p.cr (z4j c).1 (z4j c).2+c.n=0 then .ok { p with cr:=x9a p.cr (z4j c).1 (z4j c).2 } else .ok { p with cr:=y5o p.cr (z4j c).1 (z4j c).2 (z5l p.cr (z4j c).1 (z4j c).2+c.n) }:=by
 unfold k1c;rw[y4c];generalize z5l p.cr (z4j c).1 (z4j c).2+c.n=n;by_cases h1:n < -1048576\/1048576<n;rw[if_pos h1,if_pos h1];rw[if_neg h1,if_neg h1];by_cases h2:n=0;rw[if_pos h2,if_pos h2];rw[if_neg h2,if_neg h2]
end Go.G08
namespace Go.Proofs.YtkafbfjmcigaiaaGreatDoor
open Go.Lw Go.G21 Go.G08 _root_.Go.Proofs.Tryz
theorem j5q (wS:World)(ka:MA)(m:MQ)(o:MOp)(w0:World)(hM:MkM τd 120 wS ka w0 m)(hi:MInv m.p)(hy:1<=o.y/\o.y<=6)(hn:z3m o.b o.p=0):Rets prog 58 #[pta ka.gk,opV o] w0 λr w'=>MRet τd 120 wS ka (y0f m.p o) r w':=by
 have d0:=hM.fr.size;have b3:=hM.gk;have b5:=hM.k.lt;refine wf func58 U ?_;have Z:=hM;refine sr<|bx U<|λg3 w1 b9 D q1 z1=>(asg U<|nn<|sr<|mv U<|z0l U D y3t ?_);have hM:=Z.ext q1;refine cl (ev2 U) cO (v0y wS ka m o _ hM hi hy hn) ?_;rintro _ w2 ⟨rfl,q2⟩;have z2:=q2.size;refine mv U<|xt U<|xt U<|xt U<|asg U<|asg U<|asg U<|kpL (ll5 0 3 5 6 7) U<|nn<|sq<|sr<|mv U<|ne' U<|nn<|cd U (λc0=>?_)<|λc0=>?_;refine sr<|mv U<|asg U<|kpL (ll1 4) U<|nn<|rt<|tr<|r1 U ?_;have hM:=Z.ext<|q1.n1 q2;exact⟨_,rfl,MRet.err (by unfold y0f;rw[if_pos c0]) c0 hM.fr⟩;have O:z5z m.p o=0:=l15.1 c0;refine sk<|tn<|sq<|sr<|mv U<|fad U z4t ?_;have D:=D.ext q2;refine z0i U D U na5<|mv U<|mv U ?_;have hM:=Z.ext<|q1.n1 q2;have a5:=hM.fr;refine cl (z0a U<|z0a U<|z0a U<|z0a U z0f) cO (v1b wS { ka with wk:=w2 } m o.y (if z5z m.p o=0 then z7b m.p o else 0) (if z5z m.p o=0 then (z2b o.b o.p m.rk) else 0) _ hM.mark hi hy) ?_;intro _ w3 hR;obtain⟨rfl,a3,m1,b1⟩:=hR.split;have z3:=a3.kp.size;simp only at z3;have D:=a3.kp.blk D (by have:=hM.gcne D;exact this) dd;refine asg U<|kpL (ll3 0 3 8) U<|nn<|sr<|mv U<|ne' U<|nn<|cd U (λc1=>?_)<|λc1=>?_;exact sr<|mv U<|asg U<|nn<|rt<|tr<|r1 U ⟨_,rfl,MRet.err (by have hx:=y1d c1;unfold y0f;rw[if_neg c0];rw[if_pos O,if_pos O]at hx;rw[hx,if_pos O,if_pos O]) c1<|a3.un a5⟩;obtain⟨b0,a4⟩:=b1<|l15.1 c1;rw[if_pos O,if_pos O]at a4;obtain⟨a6,b8,c9⟩:=y1u hi hy a4;obtain⟨⟨hf,hb⟩,h4,a9⟩:=z3f a6.B;have hM:=b0.unmark a5;have Z:=hM;have hk:=hM.k;have b4:=hk.lt;refine sk<|tn<|sq ?_;intro a h;refine rgh (some 9) (Fr []) ?_;intro w4 q4 hC;have z4:=q4.size;have D:=D.ext q4;have hM:=hM.ext q4;have hk:=hk.ext q4;have I:=D;have a1:=hM;have a2:=hk;refine z0e 0 h U λa h=>z0x 1 h U (fx I.ext) y3t U λa h=>z0e 2 h U λa h=>z0p 3 h U λa h=>z0c 4 h U z4b U λa h=>z1f (vs:=[_,_]) 5 h U (fx a2.ext) z4y U U λa h=>z0c 6 h U z5w U λa h=>z1f (vs:=[_,_]) 7 h U (fx I.ext) z5k U U λa h=>z0d 8 U<|z0n h (z0a U<|z0a U z0f) v7c (y5m m1.q o.b o.p _ hM.b.at (by have:=z2t hn;omega) hf hb h4 a9) ?_;rintro d1 w5 ⟨a0,hq⟩ a h;have z5:=hq.size;have D:=D.ext hq;have hM:=hM.ext hq;have hk:=hk.ext hq;have hC:=hC.next hq;have q5:=hq;rw[y0h hn]at a0;obtain⟨a7,a8,rfl,b2⟩:=a0.sl.form;refine z0b<|z0d 9 U<|z0n h (z0a U<|z0a U<|z0a U<|z0a U z0f) cO (u3j wS ka m1 o (a7,(m1.q.p.at o.b o.p).length,a8) (m1.q.p.at o.b o.p) (.slice none 0 0) [] _ hM a6 hy hn (a0.low oo) (λk hk hb=>by have b6:=(a0.blk k hk).1;have b7:=(a1.f.blk k hb).2;omega) (Sl.nil _)<|.inl U) ?_;rintro d3 w6 hR a h;refine z1m<|z0d 10 U<|z0o h U λa h=>?_;refine z1m<|z0q ?_;clear hC I a1 a2;exact xB (ll1 4) h U<|tn<|rt<|r1 U ⟨_,rfl,by rw[show y0f m.p o=_ from by unfold y0f;rw[if_neg c0,a4]];exact hR⟩
theorem j9f (wS:World)(ka:MA)(m:MQ)(o:MOp)(w0:World)(hM:MkM τd 120 wS ka w0 m)(hi:MInv m.p)(hy:1<=o.y/\o.y<=6)(hn:z3m o.b o.p=0):Rets prog 59 #[pta ka.gk,opV o] w0 λr w'=>MRet τd 120 wS ka (z9w m.p o) r w':=by
 have b9:=hM.fr.size;have b1:=hM.gk;have b3:=hM.k.lt;refine wf func59 U ?_;have Z:=hM;refine sr<|bx U<|λg3 w1 b7 D q1 z1=>(asg U<|nn<|sr<|mv U<|z0l U D y3t ?_);have hM:=Z.ext q1;refine cl (ev2 U) cO (v0y wS ka m o _ hM hi hy hn) ?_;rintro _ w2 ⟨rfl,q2⟩;refine mv U<|xt U<|xt U<|xt U<|asg U<|asg U<|asg U<|kpL (ll5 0 3 5 6 7) U<|nn<|sq<|sr<|mv U<|ne' U<|nn<|cd U (λc0=>?_)<|λc0=>?_;refine sr<|mv U<|asg U<|kpL (ll1 4) U<|nn<|rt<|tr<|r1 U ?_;have hM:=Z.ext<|q1.n1 q2;exact⟨_,rfl,MRet.err (by unfold z9w;rw[if_pos c0]) c0 hM.fr⟩;have I:z5z m.p o=0:=l15.1 c0;refine sk<|tn<|sq<|sr<|mv U<|fad U z4t ?_;have D:=D.ext q2;refine z0i U D U na5<|mv U<|mv U ?_;have hM:=Z.ext<|q1.n1 q2;have a5:=hM.fr;refine cl (z0a U<|z0a U<|z0a U<|z0a U z0f) cO (v1b wS { ka with wk:=w2 } m o.y (if z5z m.p o=0 then z7b m.p o else 0) (if z5z m.p o=0 then (z2b o.b o.p m.rk) else 0) _ hM.mark hi hy) ?_;intro _ w3 hR;obtain⟨rfl,a2,m1,a9⟩:=hR.split;have z3:=a2.kp.size;simp only at z3;have D:=a2.kp.blk D (by have:=hM.gcne D;exact this) dd;refine asg U<|kpL (ll3 0 3 8) U<|nn<|sr<|mv U<|ne' U<|nn<|cd U (λc1=>?_)<|λc1=>?_;exact sr<|mv U<|asg U<|nn<|rt<|tr<|r1 U ⟨_,rfl,MRet.err (by have hx:=y1d c1;unfold z9w;rw[if_neg c0];rw[if_pos I,if_pos I]at hx;rw[hx,if_pos I,if_pos I]) c1<|a2.un a5⟩;obtain⟨a8,a0⟩:=a9<|l15.1 c1;rw[if_pos I,if_pos I]at a0;obtain⟨a6,b6,b8⟩:=y1u hi hy a0;obtain⟨⟨hf,hb⟩,h4,a7⟩:=z3f a6.B;have hM:=a8.unmark a5;have Z:=hM;have hk:=hM.k;have b2:=hk.lt;refine sk<|tn<|sq ?_;intro a h;refine rgh none (Fr []) ?_;intro w4 q4 hC;have D:=D.ext q4;have hM:=hM.ext q4;have hk:=hk.ext q4;have O:=D;have a4:=hM;have a1:=hk;refine z0e 0 h U λa h=>z0p 1 h U λa h=>z0c 2 h U z4b U λa h=>z1f (vs:=[_,_]) 3 h U (fx a1.ext) z4y U U λa h=>z0c 4 h U z5w U λa h=>z1f (vs:=[_,_]) 5 h U (fx O.ext) z5k U U λa h=>z0d 6 U<|z0n h (z0a U<|z0a U z0f) v7c (y5m m1.q o.b o.p _ hM.b.at (by have:=z2t hn;omega) hf hb h4 a7) ?_;rintro c9 w5 ⟨a3,hq⟩ a h;have D:=D.ext hq;have hM:=hM.ext hq;have hk:=hk.ext hq;have hC:=hC.next hq;have q5:=hq;rw[y0h hn]at a3;obtain⟨b4,b5,rfl,b0⟩:=a3.sl.form;refine z0b<|z0d 7 U<|z0o h U λa h=>?_;refine z0b<|z0q ?_;clear hC O a4 a1;refine xB (ll3 0 3 9) h U<|tn<|sq<|sr<|mv U<|lnS U<|ge' U<|nn<|cd U (λc2=>?_)<|λc2=>?_;exact sr<|asg U<|nn<|rt<|tr<|r1 U ⟨_,rfl,MRet.err (by unfold z9w;rw[if_neg c0,a0];simp only;rw[if_pos (show 4<=(m1.q.p.at o.b o.p).length by omega)]) dd hM.fr⟩;refine sk<|tn<|sr<|mv U<|z0l U D y3t<|mv U<|cl (z0a U<|z0a U<|z0a U<|z0a U z0f) cO (u3j wS ka m1 o sv0 [] _ (m1.q.p.at o.b o.p) _ hM a6 hy hn (Own.nil _) (λk hk=>by cases hk) a3.sl<|.inr ⟨rfl,oo⟩) ?_;rintro d0 w6 hR;exact asg U<|kpL (ll1 4) U<|nn<|rt<|r1 U ⟨_,rfl,by rw[show z9w m.p o=y1m m1.p o [] (m1.q.p.at o.b o.p) from by unfold z9w;rw[if_neg c0,a0];simp only;rw[if_neg (show ¬4<=(m1.q.p.at o.b o.p).length by omega)]];exact hR⟩
theorem j9h:z4f prog 123 4:=⟨λ_=>kr,λ_=>kr⟩
theorem j4v:BuildAt prog 123 [(0,2),(2,2)] [(.int .u8 0),(.int .i64 0),(.int .u8 0),(.int .i64 0)]:=BuildAt.array (sz:=2) underlying123 (λ_=>kr) (λ_=>kr) (λi q h=>by match i,h with|0,h=>simpa using h.symm|1,h=>simpa using h.symm|(k+2),h=>simp at h)
theorem k5m:CallOf prog 66:=cO
theorem y4g:z1e prog 120 4 5:=λ_ _=>kr
theorem x1p:z1e prog 149 0 0:=λ_ _=>kr
theorem v0w:z1e prog 149 1 2:=λ_ _=>kr
theorem v0b:z1e prog 149 2 4:=λ_ _=>kr
theorem v5m:z2e prog 118:=λ_=>kr
theorem j6y:z1s prog 123 4:=λ_=>kr
theorem k4b (w:World):(zeroValue 123).run prog w=.ok (.agg #[(.int .u8 0),(.int .i64 0),(.int .u8 0),(.int .i64 0)]) w:=kr
theorem k9e (p q:LId×LId)(w:World):(Op.equal 123 (crK p)<|crK q).run prog w=.ok (decide (p=q)) w:=by
 obtain⟨⟨Z,n1⟩,⟨y2,n2⟩⟩:=p;obtain⟨⟨y3,n3⟩,⟨y4,n4⟩⟩:=q;have D:prog.stoodInHeld 54=false:=by kernel_rfl
 have I:(sizeOf 54).run prog w=.ok 2 w:=by kernel_rfl
 unfold crK Op.equal Op.maxDepth Op.equalIn;simp only[Sem.run_bind,run_underlying underlying123,Result.andThen_ok,I];have O:∀a b c d:Value,(part 54 #[a,b,c,d] (0*2)).run prog w=.ok (.agg #[a,b]) w:=λa b c d=>by kernel_rfl
 have p2:∀a b c d:Value,(part 54 #[a,b,c,d] (1*2)).run prog w=.ok (.agg #[c,d]) w:=λa b c d=>by kernel_rfl
 rw[Std.Legacy.Range.forIn_eq_forIn_range'];simp[List.range',List.forIn_cons,O,p2,go_sem,D,underlying54];(repeat' split)<;>simp_all
theorem v2j:KeyLaw prog 123 crK:=KeyLaw.asking underlying123 (λ_ _=>rfl) (λ_ _ _=>kr) k9e (λ_=>by simp[crK,Instr.sameBits])
theorem zvI2 (w:World):(zeroValue 3).run prog w=.ok (.int .i64 0) w:=kr
theorem j8u (wS:World)(ka:MA)(m:MQ)(c:Cx)(w0:World)(hM:MkM τd 120 wS ka w0 m)(a7:∀x∈m.cr,-1048576<=x.n/\x.n<=1048576)(a8:-1<=c.n/\c.n<=1):Rets prog 144 #[pta ka.gk,cvv c] w0 λr w'=>MRet τd 120 wS ka (k1c m.p c) r w':=by
 have b3:=hM.fr.size;have hk:=hM.k;have b2:=hk.lt;have b1:=v4n (a:=(z4j c).1) (b:=(z4j c).2) a7;refine wf func144 U ?_;have a6:=hM;refine sr<|bx U<|λg3 w1 a9 O q1 z1=>?_;refine asg U<|nn<|sr<|fad U x1p<|z1u (vs:=[_,_]) U O z2y U<|fad U v0w<|z1u (vs:=[_,_]) U O z2y U<|z1r (cs:=[_,_,_,_]) (ev2 U) j4v (z0g U<|z0g U z0r) U ?_;refine al k4b U<|λg5 w2 b0 D q2 z2=>(z0j (vs:=[_,_,_,_]) U D j6y<|λw3 D q3 z3=>(nn<|jn (ι:=Unit) (ll3 0 3 5) (λ_j=>[]) (λ_j w'=>Fr [g5] w3 w'/\Blk w' g5 123 [.int .u8 (z4j c).1.y,.int .i64 (z4j c).1.n,.int .u8 (z4j c).2.y,.int .i64 (z4j c).2.n]) U ?_ ?_));refine sr<|fad U x1p ?_;have O:=(O.ext q2).fr q3;refine z1u (vs:=[_,_]) U O z2y U<|fad U v0w<|z1u (vs:=[_,_]) U O z2y U<|cl (ev2 U) k5m (y3n ⟨_,_⟩ ⟨_,_⟩ _) ?_;rintro _ w4 ⟨rfl,q4⟩;refine gt' U<|nn<|cd U (λc0=>?_)<|λc0=>?_;refine rg<|fad U v0w ?_;have O:=O.ext q4;refine z1u (vs:=[_,_]) U O z2y U<|fad U x1p<|z1u (vs:=[_,_]) U O z2y U<|z1r (cs:=[_,_,_,_]) (ev2 U) j4v (z0g U<|z0g U z0r) U ?_;have D:=D.ext q4;exact z0j (vs:=[_,_,_,_]) U D j6y<|λw5 D q5 z5=>(kpL (ll3 0 3 5) U<|nl<|jE (()) U ⟨((l12 [g5] _).z2 q4 q5),(by rw[show z4j c=(c.b,c.a) from if_pos c0];exact D)⟩);refine sk ?_;have D:=D.ext q4;exact jE (()) U ⟨((l12 [g5] _).n1 q4),(by rw[show z4j c=(c.a,c.b) from if_neg c0];exact D)⟩;rintro _j w6 ⟨q6,D⟩;have a5:=D.lt;refine kpC (ll3 0 3 5) U<|sq ?_;have hM:=a6.ext<|q1.z3 q2 q3 q6;have hk:=((hk.ext<|q1.n1 q2).fr q3).fr q6;have O:=((O.ext q2).fr q3).fr q6;intro a h;refine rgh none (Fr []) ?_;intro w7 q7 hC;have hM:=hM.ext q7;have hk:=hk.ext q7;have O:=O.ext q7;have D:=D.ext q7;have a0:=hM;have Z:=hk;have a1:=O;have I:=D;refine z0e 0 h U λa h=>z0p 1 h U λa h=>z0c 2 h U y4g U λa h=>z0m 3 h U (fx Z.ext) U v5m U λa h=>z0x 4 h U (fx I.ext) j9h U λa h=>z0c 6 h U v0b U λa h=>z0m 7 h U (fx a1.ext) U na3 U λa h=>z0d 5 U<|y2p (V:=crK) (k:=z4j c) (f:=z2w<|crM m.cr) h U U hM.c.f v2j underlying118 zvI2 (v7l (z4j c).1 (z4j c).2 m.cr) U λa h=>?_;refine z0b<|z6t 8 h U t12 U λa h=>z0d 9 U<|z0o h U λa h=>?_;refine z0b<|z0q ?_;clear hC a0 Z a1 I;refine xB (ll3 0 5 6) h U<|tn<|sq<|sq<|rbo (r:=37) (L':=ll3 0 5 6) (((((z5l m.cr (z4j c).1 (z4j c).2)+c.n) < -1048576)\/(1048576<((z5l m.cr (z4j c).1 (z4j c).2)+c.n)))) U ?_ ?_;refine mv U<|lt' U<|mv U<|gs 34 U (λg0=>?_)<|λg0=>?_;exact gN U<|gN U<|pkt U<|rbe U<|U;exact gY U<|mv U<|gY U<|gt' U<|pkf U<|rbe U<|U;refine tn<|cd U (λc1=>?_)<|λc1=>?_;exact sr<|asg U<|nn<|rt<|tr<|r1 U ⟨_,rfl,MRet.err (by rw[v0r,if_pos c1]) dd hM.fr⟩;refine sk<|tn<|sq<|sr<|mv U<|eq' U<|nn<|cd U (λc2=>?_)<|λc2=>?_;intro a h;refine rgh (some 5) (Fr []) ?_;intro w8 q8 hC;have hM:=hM.ext q8;have hk:=hk.ext q8;have D:=D.ext q8;have a0:=hM;have Z:=hk;have I:=D;refine z0e 0 h U λa h=>z0p 1 h U λa h=>z0c 2 h U y4g U λa h=>z0m 3 h U (fx Z.ext) U v5m U λa h=>z0x 4 h U (fx I.ext) j9h U λa h=>z0d 5 U<|j9x (V:=crK) (k:=z4j c) h U U hM.c v2j underlying118 U λw9 a2 hq _hz a h=>?_;have hM:=hM.cross (l:=x9a m.cr (z4j c).1 (z4j c).2) (by rw[u2z _ _ _ hM.c.nodup];exact a2) hq;refine z1m<|z0q ?_;clear hC a0 Z I;exact bk (h.sub (L':=[]) .nil)<|tn<|sr<|asg U<|nn<|rt<|r1 U ⟨_,rfl,MRet.ok (by rw[v0r,if_neg c1,if_pos c2]) hM⟩;intro a h;refine rgh (some 6) (Fr []) ?_;intro a4 a3 hC;have hM:=hM.ext a3;have hk:=hk.ext a3;have D:=D.ext a3;have a0:=hM;have Z:=hk;have I:=D;refine z0e 0 h U λa h=>z0p 1 h U λa h=>z0c 2 h U y4g U λa h=>z0m 3 h U (fx Z.ext) U v5m U λa h=>z0x 4 h U (fx I.ext) j9h U λa h=>z0e 5 h U λa h=>z0d 6 U<|x0q (V:=crK) (k:=z4j c) (v:=.int .i64<|(z5l m.cr (z4j c).1 (z4j c).2)+c.n) h U U U hM.c v2j underlying118 λb4 a2 hq _hz a h=>?_;have hM:=hM.cross (l:=y5o m.cr (z4j c).1 (z4j c).2<|z5l m.cr (z4j c).1 (z4j c).2+c.n) (by rw[u2i _ _ _ _ hM.c.nodup];exact a2) hq;refine z1m<|z0q ?_;clear hC a0 Z I;exact bk (h.sub (L':=[]) .nil)<|tn<|sr<|asg U<|nn<|rt<|r1 U ⟨_,rfl,MRet.ok (by rw[v0r,if_neg c1,if_neg c2]) hM⟩
end Go.Proofs.YtkafbfjmcigaiaaGreatDoor
